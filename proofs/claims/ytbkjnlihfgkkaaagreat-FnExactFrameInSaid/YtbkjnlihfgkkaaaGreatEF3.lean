/-
  Contracts of functions and plain laws (printed by a program): each theorem says what a function of the program returns; conditions are its hypotheses.
-/
import Derived.Test.YtbkjnlihfgkkaaaGreatEF2
set_option linter.all false
set_option maxRecDepth 4000
namespace Go.Proofs.YtbkjnlihfgkkaaaGreat
open Go Go.RowKit
noncomputable section
theorem aaS (c:Conn)(w:Int)(hw:w<=9223372036854775807)(hs:bS c.r.held):sI.f (c,w,())=er.f (c,w,()):=by
 simp only[PX,sI,er,nI,dJ,B2 c hs,lE,jW]
 cases(bif !bR.f (c,())then(true,())else bif (c.state==8)then(true,())else((c.state==7),())).1 with
 |true=>rfl
 |false=>
 simp only[cond_false]
 have key:=EQ (f:=λa=>(rY w a).nice) (g:=λa=>(bT w a).nice) (R:=λa b=>a.1=C5 b.2.1 b.2.2/\a.2.2=b.2.2) (Q:=λp q=>p.1=C5 q.2.1 q.2.2/\p.2=q.2.2) ⟨(IV _).symm,rfl⟩ (by
  rintro⟨a1,a2,al⟩ ⟨b1,b2,bl⟩ ⟨h1,h2⟩
  simp only[]at h1 h2
  subst h1;subst h2
  have hm:dj.f (C5 b2 al,())=dj.f (b2,()):=rfl
  have ha:cJ.f (C5 b2 al,())=cJ.f (b2,()):=rfl
  have hx:(C5 b2 al).s=b2.s:=rfl
  simp only[PX,rY,bT,X9,Q2 _ _ _ hw,BF,WZ,hm,ha,hx]
  obtain⟨z,hz⟩:∃z,aV.f (b2.s,w,dj.f (b2,()),())=z:=⟨_,rfl⟩
  simp only[hz]
  obtain⟨g,hg⟩:∃g,cJ.f (b2,())=g:=⟨_,rfl⟩
  simp only[hg]
  obtain⟨x,hx2⟩:∃x,dg.f (b2.s,z.1,())=x:=⟨_,rfl⟩
  simp only[hx2]
  cases z.2 with
  |false=>exact .inr ⟨_,_,rfl,rfl,rfl,rfl⟩
  |true=>
   have hf:∀g':Segm,_:=λg'=>Ww b2 al g' x
   cases ht:((C5 b2 al).timer==0)<;>rw[ht]at hf<;>simp only[cond_true,cond_false]at hf<;>cases(z.1.text==[])<;>cases z.1.fin<;>exact .inl ⟨_,_,rfl,rfl,hf _,rfl⟩) (GJ c.s+1) (c,⟨⟨0,0,0⟩,0,⟨0,[],0,false,false,false⟩,⟨0,[],[],0,false⟩,0,0,⟨0,0,false,false,0,0⟩,0,0⟩,[]) (⟨⟨0,0,0⟩,0,⟨0,[],0,false,false,false⟩,⟨0,[],[],0,false⟩,0,0,⟨0,0,false,false,0,0⟩,0,0⟩,c,[]) ⟨(IV c).symm,rfl⟩
 obtain⟨p,hp⟩:∃p,ca (λa=>(rY w a).nice) (GJ c.s+1) (c,⟨⟨0,0,0⟩,0,⟨0,[],0,false,false,false⟩,⟨0,[],[],0,false⟩,0,0,⟨0,0,false,false,0,0⟩,0,0⟩,[])=p:=⟨_,rfl⟩
 obtain⟨q,hq⟩:∃q,ca (λa=>(bT w a).nice) (GJ c.s+1) (⟨⟨0,0,0⟩,0,⟨0,[],0,false,false,false⟩,⟨0,[],[],0,false⟩,0,0,⟨0,0,false,false,0,0⟩,0,0⟩,c,[])=q:=⟨_,rfl⟩
 rw[hp,hq]at key
 simp only[hp,hq]
 obtain⟨p1,p2⟩:=p
 obtain⟨q1,q2,q3⟩:=q
 obtain⟨k1,k2⟩:=key
 simp only[]at k1 k2
 subst k1;subst k2
 cases p2 with
 |nil=>simp only[PX,IV,List.length_nil];rfl
 |cons g r=>
  simp only[PX,decide_eq_true (show 0<((g::r).length:Int) by simp only[List.length_cons];omega),cond_true,C5,if_neg (show¬(g::r=[]) by simp)]
  by_cases ht:q2.timer=0
  ·simp only[ht,if_true,beq_self_eq_true,cond_true]
  ·simp only[if_neg ht,show(q2.timer==0)=false by simp[ht],cond_false]
def Z2 (k:Int)(sf sd rd:Bool):Bool:=bif k==8 then true else(sf== !(k==1||k==4))&&((sd==(k==3||k==7))&&(rd==(k==4||decide (5<=k))))
theorem JQ (x:Conn):bR.f (x,())=(aG.f (x.tuple,())&&(br.f (x.s,())&&(bB.f (x.r,())&&(aF.f (x.opts,())&&((decide (1<=x.state)&&decide (x.state<=8))&&((decide (0<=x.most)&&decide (x.most<=1073725440))&&((decide (0<=x.window)&&decide (x.window<=x.most))&&((decide (0<=x.timer)&&bif x.state==7 then decide (x.timer<=4)else decide (x.timer<=3))&&((decide (0<=x.tries)&&decide (x.tries<=3))&&Z2 x.state x.s.fin x.s.done x.r.done))))))))):=by
 simp only[PX,bR,ar]
 cases aG.f (x.tuple,())with
 |false=>rfl
 |true=>
 cases br.f (x.s,())with
 |false=>rfl
 |true=>
 cases bB.f (x.r,())with
 |false=>rfl
 |true=>
 cases aF.f (x.opts,())with
 |false=>rfl
 |true=>
 simp only[Bool.not_true,cond_false,Bool.true_and]
 have ej:∀b:Bool,(bif b then(false,(4:Int),x,())else(false,3,x,()))=(false,(bif b then 4 else 3),x,()):=λb=>by cases b<;>rfl
 have et:∀b:Bool,decide (x.timer<=bif b then 4 else 3)=bif b then decide (x.timer<=4)else decide (x.timer<=3):=λb=>by cases b<;>rfl
 simp only[ej,et]
 generalize(decide (0<=x.window)&&decide (x.window<=x.most))=W
 generalize(decide (0<=x.most)&&decide (x.most<=1073725440))=N
 generalize(decide (0<=x.tries)&&decide (x.tries<=3))=T
 generalize decide (0<=x.timer)=T0
 generalize decide (x.timer<=4)=T4
 generalize decide (x.timer<=3)=T3
 generalize x.s.fin=sf
 generalize x.s.done=sd
 generalize x.r.done=rd
 generalize x.state=k
 have hk:k=1\/k=2\/k=3\/k=4\/k=5\/k=6\/k=7\/k=8\/(decide (1<=k)&&decide (k<=8))=false:=by
  simp only[Bool.and_eq_false_iff,decide_eq_false_iff_not];omega
 rcases hk with rfl|rfl|rfl|rfl|rfl|rfl|rfl|rfl|hk
 iterate 8 (revert W N T T0 T4 T3 sf sd rd;decide+kernel)
 simp only[hk];rfl
structure CO (x:Conn):Prop where
 tup:aG.f (x.tuple,())=true
 snd:SO x.s
 rcv:bB.f (x.r,())=true
 opt:aF.f (x.opts,())=true
 s1:1<=x.state
 s8:x.state<=8
 m0:0<=x.most
 m1:x.most<=1073725440
 w0:0<=x.window
 w1:x.window<=x.most
 t0:0<=x.timer
 t4:x.timer<=4
 t3:x.state≠7->x.timer<=3
 r0:0<=x.tries
 r3:x.tries<=3
 fl:Z2 x.state x.s.fin x.s.done x.r.done=true
theorem Hk (x:Conn):bR.f (x,())=true↔CO x:=by
 rw[JQ]
 simp only[Bool.and_eq_true,decide_eq_true_eq,Ip]
 have et:(bif x.state==7 then decide (x.timer<=4)else decide (x.timer<=3))=true↔x.timer<=4/\(x.state≠7->x.timer<=3):=by
  by_cases h:x.state=7
  ·simp[h]
  ·have h2:(x.state==7)=false:=by simpa using h
   simp only[h2,cond_false,decide_eq_true_eq]
   exact⟨λh3=>⟨by omega,λ_=>h3⟩,λh3=>h3.2 h⟩
 rw[et]
 constructor
 ·rintro⟨h1,h2,h3,h4,⟨h5,h6⟩,⟨h7,h8⟩,⟨h9,h10⟩,⟨h11,h12,h13⟩,⟨h14,h15⟩,h16⟩
  exact⟨h1,h2,h3,h4,h5,h6,h7,h8,h9,h10,h11,h12,h13,h14,h15,h16⟩
 ·rintro⟨h1,h2,h3,h4,h5,h6,h7,h8,h9,h10,h11,h12,h13,h14,h15,h16⟩
  exact⟨h1,h2,h3,h4,⟨h5,h6⟩,⟨h7,h8⟩,⟨h9,h10⟩,⟨h11,h12,h13⟩,⟨h14,h15⟩,h16⟩
structure Sent (c d:Conn):Prop where
 so:SO d.s
 s1:d.s.data=c.s.data
 s2:d.s.fin=c.s.fin
 s3:d.s.done=c.s.done
 s4:d.s.una=c.s.una
 tm:d.timer=c.timer\/d.timer=3
 re:d={c with s:=d.s,timer:=d.timer}
theorem Sent.refl (c:Conn)(h:SO c.s):Sent c c:=⟨h,rfl,rfl,rfl,rfl,.inl rfl,rfl⟩
theorem Sent.ok {c d:Conn}(h:Sent c d)(hc:CO c)(ht:d.timer<=3\/d.timer=c.timer):CO d:=by
 obtain⟨so,s1,s2,s3,s4,tm,re⟩:=h
 obtain⟨t,st,s,r,w,m,o,ti,tr⟩:=c
 obtain⟨t',st',s',r',w',m',o',ti',tr'⟩:=d
 simp only[Conn.mk.injEq]at re
 obtain⟨rfl,rfl,-,rfl,rfl,rfl,rfl,-,rfl⟩:=re
 simp only[]at*
 refine⟨hc.tup,so,hc.rcv,hc.opt,hc.s1,hc.s8,hc.m0,hc.m1,hc.w0,hc.w1, ?_, ?_, ?_,hc.r0,hc.r3, ?_⟩
 ·have:=hc.t0;simp only[]at*;omega
 ·have:=hc.t4;simp only[]at*;omega
 ·intro h7;have:=hc.t3 h7;simp only[]at*;omega
 ·have:=hc.fl;simp only[]at*;rw[s2,s3];exact this
theorem Ht {x:Sndr}(h:SO x):dW x:=by
 have:=h.2.2.1
 unfold dW;grind
theorem Nh (x:Sndr)(w m:Int)(y:Chun)(hy:(aV.f (x,w,m,()))=(y,true))(hx:SO x):SO (dg.f (x,y,()))/\(dg.f (x,y,())).data=x.data/\(dg.f (x,y,())).fin=x.fin/\(dg.f (x,y,())).done=x.done/\(dg.f (x,y,())).una=x.una/\GJ (dg.f (x,y,()))<GJ x:=by
 have h1:=aV.c.h (x,w,m,()) (Ht hx)
 change Cj (aV.f (x,w,m,())).1/\((aV.f (x,w,m,())).2=true->_)at h1
 have e1:(aV.f (x,w,m,())).1=y:=by rw[hy]
 have e2:(aV.f (x,w,m,())).2=true:=by rw[hy]
 obtain⟨h2,h3⟩:=h1
 obtain⟨-,h4,h5,h6,h7⟩:=h3 e2
 simp only[e1]at h2 h4 h5 h6 h7
 clear e1 e2
 have h8:=(dg.c.h (x,y,()) ⟨Ht hx,h2⟩).2 hx h4 h5 h7
 change dg.f (x,y,())=_ at h8
 rw[h8]
 obtain⟨e1,e2,e3,e4,e5,e6,e7⟩:=hx
 refine⟨⟨e1,e2,e3, ?_, ?_, ?_, ?_⟩,rfl,rfl,rfl,rfl, ?_⟩
 ·show 0<=x.sent+(y.text.length:Int);omega
 ·show x.sent+(y.text.length:Int)<=(x.data.length:Int);omega
 ·intro hf;exact⟨(h7 hf).1,(h7 hf).2.2⟩
 ·intro hd
  refine⟨(e7 hd).1, ?_,(e7 hd).2.2⟩
  show y.fin=false
  cases hf:y.fin with
  |false=>rfl
  |true=>have:=(h7 hf).2.1;rw[this]at hd;cases hd
 ·show((x.data.length:Int)-(x.sent+(y.text.length:Int))).toNat+(if y.fin=true then 0 else 1)<((x.data.length:Int)-x.sent).toNat+(if x.finSent=true then 0 else 1)
  rw[h5]
  simp only[Bool.false_eq_true,if_false]
  have hl:y.text=[]\/0<y.text.length:=by cases y.text<;>simp
  rcases hl with hl|hl
  ·rw[h6 hl];simp only[if_true];omega
  ·split<;>omega
theorem qb (w:Int)(c:Conn)(a:Conn×Conn×List Segm)(h:Sent c a.2.1):(∃l,(bT w a).nice= .out (({a.1 with r.held:=[]}:Conn),a.2.1,l))\/(∃a',(bT w a).nice= .next a'/\Sent c a'.2.1/\GJ a'.2.1.s<GJ a.2.1.s):=by
 obtain⟨a1,a2,al⟩:=a
 simp only[]at h
 simp only[PX,bT]
 obtain⟨z,hz⟩:∃z,aV.f (a2.s,w,dj.f (a2,()),())=z:=⟨_,rfl⟩
 simp only[hz]
 obtain⟨y,b⟩:=z
 cases b with
 |false=>exact .inl ⟨_,rfl⟩
 |true=>
  obtain⟨k1,k2,k3,k4,k5,k6⟩:=Nh a2.s w _ y hz h.so
  obtain⟨x,hx⟩:∃x,dg.f (a2.s,y,())=x:=⟨_,rfl⟩
  rw[hx]at k1 k2 k3 k4 k5 k6
  simp only[hx]
  have hs:Sent c ({a2 with s:=x}:Conn):=by
   obtain⟨so,s1,s2,s3,s4,tm,re⟩:=h
   refine⟨k1,k2.trans s1,k3.trans s2,k4.trans s3,k5.trans s4,tm, ?_⟩
   rw[re]
  cases(y.text==[])<;>cases y.fin<;>exact .inr ⟨_,rfl,hs,k6⟩
theorem Wx (c:Conn)(w:Int)(hc:SO c.s):Sent c (er.f (c,w,())).1:=by
 simp only[PX,er,dJ,jW]
 cases(bif !bR.f (c,())then(true,())else bif (c.state==8)then(true,())else((c.state==7),())).1 with
 |true=>exact Sent.refl c hc
 |false=>
 simp only[cond_false]
 have key:=si (f:=λa=>(bT w a).nice) (Inv:=λa=>Sent c a.2.1) (Q:=λp=>Sent c p.2.1) (meas:=λa=>GJ a.2.1.s) (λa hi a' he=>by
  rcases qb w c a hi with⟨l,e⟩|⟨a2,e,h1,h2⟩
  ·simp only[e]at he;cases he
  ·simp only[e,Stp.next.injEq]at he;subst he;exact⟨h1,h2⟩) (λa hi p he=>by
  rcases qb w c a hi with⟨l,e⟩|⟨a2,e,h1,h2⟩
  ·simp only[e,Stp.out.injEq]at he;subst he;exact hi
  ·simp only[e]at he;cases he) (GJ c.s+1) (⟨⟨0,0,0⟩,0,⟨0,[],0,false,false,false⟩,⟨0,[],[],0,false⟩,0,0,⟨0,0,false,false,0,0⟩,0,0⟩,c,[]) (Nat.lt_succ_self _) (Sent.refl c hc)
 obtain⟨q,hq⟩:∃q,ca (λa=>(bT w a).nice) (GJ c.s+1) (⟨⟨0,0,0⟩,0,⟨0,[],0,false,false,false⟩,⟨0,[],[],0,false⟩,0,0,⟨0,0,false,false,0,0⟩,0,0⟩,c,[])=q:=⟨_,rfl⟩
 rw[hq]at key
 simp only[hq]
 obtain⟨q1,q2,q3⟩:=q
 simp only[]at key|-
 cases(bif decide (0<(q3.length:Int))then((q2.timer==0),())else(false,())).1 with
 |false=>exact key
 |true=>
  obtain⟨so,s1,s2,s3,s4,tm,re⟩:=key
  refine⟨so,s1,s2,s3,s4,.inr rfl, ?_⟩
  exact congrArg (λd:Conn=>({d with timer:=3}:Conn)) re
theorem Cr (a b:Tupl):lh a b=true↔a=b:=by
 obtain⟨a1,a2,a3⟩:=a
 obtain⟨b1,b2,b3⟩:=b
 simp only[lh,Bool.and_true,Bool.and_eq_true,beq_iff_eq,Tupl.mk.injEq]
 constructor<;>rintro⟨rfl,rfl,rfl⟩<;>exact⟨rfl,rfl,rfl⟩
theorem C3 {T:Type}(f:T->Tupl)(xs:List T)(t:Tupl):xs.any (λh=>lh t (f h))=true↔t∈xs.map f:=by
 simp only[List.any_eq_true,List.mem_map,Cr]
 constructor
 ·rintro⟨x,h1,h2⟩;exact⟨x,h1,h2.symm⟩
 ·rintro⟨x,h1,h2⟩;exact⟨x,h1,h2.symm⟩
theorem x8 {T:Type}(f:T->Tupl)(xs:List T):(∀(j:Nat) (y:T),xs[j]? =some y->(xs.take j).any (λh=>lh (f y) (f h))=false)↔(xs.map f).Nodup:=by
 unfold List.Nodup
 rw[List.pairwise_iff_getElem]
 constructor
 ·intro h i j hi hj hij he
  rw[List.length_map]at hi hj
  simp only[List.getElem_map]at he
  have:=h j xs[j] (List.getElem?_eq_getElem hj)
  rw[List.any_eq_false]at this
  refine this xs[i] ?_ ((Cr _ _).2 he.symm)
  rw[List.mem_take_iff_getElem]
  exact⟨i,by omega,rfl⟩
 ·intro h j y hy
  rw[List.any_eq_false]
  intro z hz he
  rw[List.mem_take_iff_getElem]at hz
  obtain⟨i,hi,rfl⟩:=hz
  obtain⟨hj,rfl⟩:=List.getElem?_eq_some_iff.1 hy
  have:=h i j (by rw[List.length_map];omega) (by rw[List.length_map];exact hj) (by omega)
  simp only[List.getElem_map]at this
  exact this ((Cr _ _).1 he).symm
structure LO (l:Limi):Prop where
 h1:1<=l.halves
 h2:l.halves<=64
 w1:1<=l.waiting
 w2:l.waiting<=16
 c1:1<=l.conns
 c2:l.conns<=16
 k0:0<=l.chal
 k1:l.chal<=1000
theorem aa3 (l:Limi):ff.f (l,())=true↔LO l:=by
 simp only[PX,ff,ar]
 have e:(bif decide (1<=l.halves)&&decide (l.halves<=64)then bif decide (1<=l.waiting)&&decide (l.waiting<=16)then bif decide (1<=l.conns)&&decide (l.conns<=16)then decide (0<=l.chal)&&decide (l.chal<=1000)else false else false else false)=((decide (1<=l.halves)&&decide (l.halves<=64))&&((decide (1<=l.waiting)&&decide (l.waiting<=16))&&((decide (1<=l.conns)&&decide (l.conns<=16))&&(decide (0<=l.chal)&&decide (l.chal<=1000))))):=by
  cases(decide (1<=l.halves)&&decide (l.halves<=64))<;>cases(decide (1<=l.waiting)&&decide (l.waiting<=16))<;>cases(decide (1<=l.conns)&&decide (l.conns<=16))<;>simp
 rw[e]
 simp only[Bool.and_eq_true,decide_eq_true_eq]
 constructor
 ·rintro⟨⟨h1,h2⟩,⟨h3,h4⟩,⟨h5,h6⟩,h7,h8⟩;exact⟨h1,h2,h3,h4,h5,h6,h7,h8⟩
 ·rintro⟨h1,h2,h3,h4,h5,h6,h7,h8⟩;exact⟨⟨h1,h2⟩,⟨h3,h4⟩,⟨h5,h6⟩,h7,h8⟩
structure TO (t:Tabl)(l:Limi):Prop where
 lim:LO l
 nc:(t.conns.length:Int)<=l.conns
 nw:(t.waiting.length:Int)<=l.waiting
 co:∀c∈t.conns,CO c
 dc:(t.conns.map Conn.tuple).Nodup
 dw:t.waiting.Nodup
 wc:∀w∈t.waiting,w∈t.conns.map Conn.tuple
theorem uG {T:Type}{P:T->Prop}{xs:List T}:(∀(j:Nat) (y:T),xs[j]? =some y->P y)↔∀y∈xs,P y:=by
 constructor
 ·intro h y hy
  obtain⟨j,hj,rfl⟩:=List.getElem_of_mem hy
  exact h j _ (List.getElem?_eq_getElem hj)
 ·intro h j y hy;exact h y (Bc hy)
theorem HG {T W:Type}{f:Int->Unit->Stp Unit W}(xs:List T){P:Nat->T->Prop}(h:∀(j:Nat) (y:T),xs[j]? =some y->(f (j:Int) ()= .next ()↔P j y)):aR f 1 (Int.toNat ((xs.length:Int)-0)) 0 ()= .next ()↔∀(j:Nat) (y:T),xs[j]? =some y->P j y:=by
 rw[av,show(0:Int)=((0:Nat):Int) from rfl,yJ]
 constructor
 ·intro h1 j y hy
  exact(h j y hy).1 (h1 j (Nat.zero_le _) (by have:=(List.getElem?_eq_some_iff.1 hy).1;omega))
 ·intro h1 j _ h2
  exact(h j xs[j] (List.getElem?_eq_getElem (by omega))).2 (h1 j _ (List.getElem?_eq_getElem (by omega)))
theorem TK (t:Tabl)(l:Limi):dk.f (t,l,())=true↔TO t l:=by
 have f1:=HG t.conns (f:=λj a=>(ev t.conns t j a).nice) (P:=λj y=>CO y/\(t.conns.take j).any (λh=>lh y.tuple h.tuple)=false) (λj y hy=>by
  simp only[PX,ev,aa,getD_some hy,fj]
  rw[BB (λh:Conn=>lh y.tuple h.tuple) t.conns j y hy (wP _),<-Hk]
  cases bR.f (y,())<;>cases(t.conns.take j).any (λh=>lh y.tuple h.tuple)<;>simp)
 have f2:=HG t.waiting (f:=λj a=>(eq t.waiting t j a).nice) (P:=λj y=>y∈t.conns.map Conn.tuple/\(t.waiting.take j).any (λh=>lh y h)=false) (λj y hy=>by
  simp only[PX,eq,aa,getD_some hy,fj,vu,Zy]
  rw[BB (lh y) t.waiting j y hy (wP _),<-C3]
  cases t.conns.any (λh=>lh y h.tuple)<;>cases(t.waiting.take j).any (λh=>lh y h)<;>simp)
 have f3:=x8 Conn.tuple t.conns
 have f4:=x8 (λx=>x) t.waiting
 rw[List.map_id']at f4
 have f5:aR (λj a=>(ev t.conns t j a).nice) 1 (Int.toNat ((t.conns.length:Int)-0)) 0 ()= .next ()↔(∀c∈t.conns,CO c)/\(t.conns.map Conn.tuple).Nodup:=by
  rw[f1,<-f3,<-uG]
  exact⟨λh=>⟨λj y hy=>(h j y hy).1,λj y hy=>(h j y hy).2⟩,λh j y hy=>⟨h.1 j y hy,h.2 j y hy⟩⟩
 have f6:aR (λj a=>(eq t.waiting t j a).nice) 1 (Int.toNat ((t.waiting.length:Int)-0)) 0 ()= .next ()↔(∀w∈t.waiting,w∈t.conns.map Conn.tuple)/\t.waiting.Nodup:=by
  rw[f2,<-f4,<-uG]
  exact⟨λh=>⟨λj y hy=>(h j y hy).1,λj y hy=>(h j y hy).2⟩,λh j y hy=>⟨h.1 j y hy,h.2 j y hy⟩⟩
 have e:dk.f (t,l,())=true↔ff.f (l,())=true/\(t.conns.length:Int)<=l.conns/\(t.waiting.length:Int)<=l.waiting/\aR (λj a=>(ev t.conns t j a).nice) 1 (Int.toNat ((t.conns.length:Int)-0)) 0 ()= .next ()/\aR (λj a=>(eq t.waiting t j a).nice) 1 (Int.toNat ((t.waiting.length:Int)-0)) 0 ()= .next ():=by
  simp only[PX,dk,fe,fh]
  rw[show((t.conns.length:Int)<=l.conns)↔decide (l.conns<(t.conns.length:Int))=false by simp,show((t.waiting.length:Int)<=l.waiting)↔decide (l.waiting<(t.waiting.length:Int))=false by simp]
  cases ff.f (l,())<;>cases decide (l.conns<(t.conns.length:Int))<;>cases decide (l.waiting<(t.waiting.length:Int))<;>cases aR (λj a=>(ev t.conns t j a).nice) 1 (Int.toNat ((t.conns.length:Int)-0)) 0 ()<;>cases aR (λj a=>(eq t.waiting t j a).nice) 1 (Int.toNat ((t.waiting.length:Int)-0)) 0 ()<;>simp[Stp.elim]
 rw[e,aa3,f5,f6]
 constructor
 ·rintro⟨h1,h2,h3,⟨h4,h5⟩,h6,h7⟩;exact⟨h1,h2,h3,h4,h5,h7,h6⟩
 ·rintro⟨h1,h2,h3,h4,h5,h7,h6⟩;exact⟨h1,h2,h3,⟨h4,h5⟩,h6,h7⟩
structure HO (xs:List Half):Prop where
 ok:∀h∈xs,z9 h=true
 nd:(xs.map Half.tuple).Nodup
 len:xs.length<=64
theorem YC (xs:List Half):eL.f (xs,())=true↔HO xs:=by
 rw[NZ]
 have f3:=x8 Half.tuple xs
 constructor
 ·rintro⟨h1,h2⟩
  exact⟨uG.1 λj y hy=>(h1 j y hy).1,f3.1 λj y hy=>(h1 j y hy).2,h2⟩
 ·rintro⟨h1,h2,h3⟩
  exact⟨λj y hy=>⟨h1 y (Bc hy),f3.2 h2 j y hy⟩,h3⟩
structure DO (d:Door):Prop where
 port:ae.f (d.port,16,())=true
 c0:0<=d.clock
 c1:d.clock<=4294967295
 keys:gH.f (d.keys,())=true
 tab:TO d.table d.limits
 hal:HO d.halves
 nh:(d.halves.length:Int)<=d.limits.halves
 k0:0<=d.chal
 k1:d.chal<=d.limits.chal
 ap:∀h∈d.halves,h.tuple∉d.table.conns.map Conn.tuple
theorem AC (d:Door):bQ.f (d,())=true↔DO d:=by
 have e:bQ.f (d,())=true↔ae.f (d.port,16,())=true/\ae.f (d.clock,32,())=true/\gH.f (d.keys,())=true/\dk.f (d.table,d.limits,())=true/\eL.f (d.halves,())=true/\(d.halves.length:Int)<=d.limits.halves/\(decide (0<=d.chal)&&decide (d.chal<=d.limits.chal))=true/\(d.halves.any (λh=>decide (0<=aH.f (d.table,h.tuple,()))))=false:=by
  simp only[PX,bQ,Ib,ar]
  rw[show((d.halves.length:Int)<=d.limits.halves)↔decide (d.limits.halves<(d.halves.length:Int))=false by simp]
  generalize(decide (0<=d.chal)&&decide (d.chal<=d.limits.chal))=b1
  generalize decide (d.limits.halves<(d.halves.length:Int))=b2
  generalize(d.halves.any (λh=>decide (0<=aH.f (d.table,h.tuple,()))))=b3
  cases ae.f (d.port,16,())<;>cases ae.f (d.clock,32,())<;>cases gH.f (d.keys,())<;>cases dk.f (d.table,d.limits,())<;>cases eL.f (d.halves,())<;>cases b1<;>cases b2<;>cases b3<;>simp
 rw[e,TK,YC,bU]
 simp only[Bool.and_eq_true,decide_eq_true_eq,fj,oh]
 have f:(d.halves.any λh=>d.table.conns.any λc=>lh h.tuple c.tuple)=false↔∀h∈d.halves,h.tuple∉d.table.conns.map Conn.tuple:=by
  rw[List.any_eq_false]
  constructor
  ·intro h x hx hm;exact h x hx ((C3 Conn.tuple _ _).2 hm)
  ·intro h x hx hm;exact h x hx ((C3 Conn.tuple _ _).1 hm)
 rw[f]
 constructor
 ·rintro⟨h1,⟨h2,h2'⟩,h3,h4,h5,h6,⟨h7,h8⟩,h9⟩;exact⟨h1,h2,h2',h3,h4,h5,h6,h7,h8,h9⟩
 ·rintro⟨h1,h2,h2',h3,h4,h5,h6,h7,h8,h9⟩;exact⟨h1,⟨h2,h2'⟩,h3,h4,h5,h6,⟨h7,h8⟩,h9⟩
def pd (x:Recv):Int:=if x.done=true then 0 else 32-(x.data.length:Int)
theorem pT (x:Recv)(h:x.data.length<=32):0<=pd x/\pd x<=32:=by unfold pd;split<;>omega
structure RV (x:Recv):Prop where
 n0:0<=x.next
 n1:x.next<=4294967295
 dl:x.data.length<=32
 hl:x.held.length<=3
 f0: -1<=x.fin
 f1:x.fin<=pd x
 fz:x.fin≠0
 wk:∃b,ex (if x.fin= -1 then pd x else x.fin) 0 x.held=some b
 dn:x.done=true->x.held=[]/\x.fin= -1
theorem gS (x:Recv)(h:x.data.length<=32):bX.f (x,())=pd x:=by
 simp only[PX,bX]
 unfold pd
 rw[aj (by omega) (by omega)]
 cases x.done with
 |true=>rfl
 |false=>simp only[cond_false,Bool.false_eq_true,if_false];split<;>omega
theorem rm (x:Recv)(hs:bS x.held):bB.f (x,())=true↔RV x:=by
 simp only[PX,bB,ew,bU]
 by_cases hn:0<=x.next/\x.next<=4294967295
 ·rw[decide_eq_true hn.1,decide_eq_true hn.2]
  by_cases hd:32<(x.data.length:Int)
  ·rw[decide_eq_true hd]
   exact⟨λh=>(by cases h),λh=>by have:=h.dl;omega⟩
  ·rw[decide_eq_false hd,gS x (by omega)]
   have hw:=pT x (by omega)
   simp only[Bool.and_self,Bool.not_true,cond_false]
   by_cases hl:3<(x.held.length:Int)
   ·rw[decide_eq_true hl]
    exact⟨λh=>(by cases h),λh=>by have:=h.hl;omega⟩
   ·rw[decide_eq_false hl,ar]
    simp only[cond_false]
    by_cases hf: -1<=x.fin/\x.fin<=pd x
    ·rw[decide_eq_true hf.1,decide_eq_true hf.2]
     simp only[Bool.and_self,Bool.not_true,cond_false]
     by_cases h0:x.fin=0
     ·rw[show(x.fin==0)=true by simp[h0]]
      exact⟨λh=>(by cases h),λh=>absurd h0 h.fz⟩
     ·rw[show(x.fin==0)=false by simp[h0]]
      simp only[cond_false]
      have ed:(bif !x.done then true else bif ((x.held.length:Int)==0)then(x.fin== -1)else false)=true↔(x.done=true->x.held=[]/\x.fin= -1):=by
       cases x.done with
       |false=>simp
       |true=>
        cases hh:x.held with
        |nil=>simp
        |cons p r=>
         have:(((p::r).length:Int)==0)=false:=by
          rw[beq_eq_false_iff_ne];simp only[List.length_cons];omega
         rw[this];simp
      have k2:=TS x (if x.fin= -1 then pd x else x.fin) (by split<;>omega) (by split<;>omega) hs
      have fin:∀L:Int,L=(if x.fin= -1 then pd x else x.fin)->(Stp.elim (λ_=>bif !x.done then true else bif ((x.held.length:Int)==0)then(x.fin== -1)else false) (λ_=>false) (aR (λj a=>(dE L x.held j a).nice) 1 (Int.toNat ((x.held.length:Int)-0)) 0 0)=true↔RV x):=by
       intro L hL
       rw[hL]
       cases hp:ex (if x.fin= -1 then pd x else x.fin) 0 x.held with
       |some b=>
        rw[hp]at k2;simp only[]at k2
        rw[k2]
        simp only[Stp.elim]
        rw[ed]
        exact⟨λh=>⟨hn.1,hn.2,by omega,by omega,hf.1,hf.2,h0,⟨b,hp⟩,h⟩,λh=>h.dn⟩
       |none=>
        rw[hp]at k2;obtain⟨w,k2⟩:=k2
        rw[k2]
        simp only[Stp.elim]
        refine⟨λh=>(by cases h),λh=> ?_⟩
        obtain⟨b,hb⟩:=h.wk
        rw[hp]at hb;cases hb
      by_cases h1:x.fin= -1
      ·rw[show(x.fin != -1)=false by simp[h1]]
       exact fin (pd x) (by rw[if_pos h1])
      ·rw[show(x.fin != -1)=true by simp[h1]]
       exact fin x.fin (by rw[if_neg h1])
    ·have:(decide (-1<=x.fin)&&decide (x.fin<=pd x))=false:=by
      rw[Bool.and_eq_false_iff];simp only[decide_eq_false_iff_not];omega
     rw[this]
     exact⟨λh=>(by cases h),λh=>absurd ⟨h.f0,h.f1⟩ hf⟩
 ·have:(decide (0<=x.next)&&decide (x.next<=4294967295))=false:=by
   rw[Bool.and_eq_false_iff];simp only[decide_eq_false_iff_not];omega
  rw[this]
  exact⟨λh=>(by cases h),λh=>absurd ⟨h.n0,h.n1⟩ hn⟩
theorem CO.set {c:Conn}(h:CO c)(k t r:Int)(hk:k=c.state\/k=8)(t0:0<=t)(t4:t<=4)(t3:k≠7->t<=3)(r0:0<=r)(r3:r<=3):CO ({c with state:=k,timer:=t,tries:=r}:Conn):=by
 have h1:=h.s1
 have h8:=h.s8
 refine⟨h.tup,h.snd,h.rcv,h.opt, ?_, ?_,h.m0,h.m1,h.w0,h.w1,t0,t4,t3,r0,r3, ?_⟩
 ·show 1<=k;omega
 ·show k<=8;omega
 ·show Z2 k c.s.fin c.s.done c.r.done=true
  rcases hk with rfl|rfl
  ·exact h.fl
  ·rfl
def rJ (p:Piec):Int:=p.off+(p.text.length:Int)
def K2:List Piec->Int->List Int->List Piec
 |out,_,[]=>out
 |out,i,s::r=>if s<0 then K2 out (i+1) r else
  match out.getLast? with
  |none=>K2 (out++[⟨i,az [s]⟩]) (i+1) r
  |some p=>if rJ p=i then K2 (out.dropLast++[⟨p.off,p.text++az [s]⟩]) (i+1) r else K2 (out++[⟨i,az [s]⟩]) (i+1) r
def cx:Nat->Int->List Int->List Piec
 |_,_,[]=>[]
 |0,_,_::_=>[]
 |k+1,i,s::r=>if s<0 then cx k (i+1) r else
  ⟨i,az (s::r.takeWhile (λx=>decide (0<=x)))⟩::cx k (i+1+((r.takeWhile (λx=>decide (0<=x))).length:Int)) (r.dropWhile (λx=>decide (0<=x)))
theorem E0 (a b:List Int):az (a++b)=az a++az b:=by simp[az]
theorem Vz (out:List Piec)(o:Int)(x:ac):∀(t r:List Int) (x:ac),(∀s∈t,0<=s)->K2 (out++[⟨o,x⟩]) (o+(x.length:Int)) (t++r)=K2 (out++[⟨o,x++az t⟩]) (o+(x.length:Int)+(t.length:Int)) r
 |[],r,x,_=>by simp[az]
 |s::t,r,x,h=>by
  have hs:¬s<0:=by have:=h s (List.mem_cons_self ..);omega
  have ih:=Vz out o x t r (x++az [s]) (λy hy=>h y (List.mem_cons_of_mem _ hy))
  simp only[List.cons_append,K2,if_neg hs,List.getLast?_append,List.getLast?_singleton,Option.some_or,rJ,if_true,List.dropLast_concat]
  have e:o+(x.length:Int)+1=o+((x++az [s]).length:Int):=by rw[List.length_append,aX];simp;omega
  rw[e,ih]
  rw[List.append_assoc,<-E0]
  congr 1
  rw[List.length_append,aX];simp;omega
theorem ID:∀(k:Nat) (out:List Piec) (i:Int) (r:List Int),r.length<=k->(∀p,out.getLast? =some p->rJ p<i)->K2 out i r=out++cx k i r
 |_,out,i,[],_,_=>by simp[K2,cx]
 |0,_,_,_::_,h,_=>by simp at h
 |k+1,out,i,s::r,h,hl=>by
  simp only[List.length_cons]at h
  by_cases hs:s<0
  ·simp only[K2,cx,if_pos hs]
   exact ID k out (i+1) r (by omega) (λp hp=>by have:=hl p hp;omega)
  ·have e0:K2 out i (s::r)=K2 (out++[⟨i,az [s]⟩]) (i+1) r:=by
    simp only[K2,if_neg hs]
    cases hg:out.getLast? with
    |none=>rfl
    |some p=>simp only[if_neg (show¬rJ p=i by have:=hl p hg;omega)]
   simp only[cx,if_neg hs]
   rw[e0]
   have hr:r=r.takeWhile (λx=>decide (0<=x))++r.dropWhile (λx=>decide (0<=x)):=(List.takeWhile_append_dropWhile).symm
   have hrun:=Vz out i (az [s]) (r.takeWhile (λx=>decide (0<=x))) (r.dropWhile (λx=>decide (0<=x))) (az [s]) (λy hy=>by
    have:=List.all_eq_true.1 (List.all_takeWhile (p:=λx:Int=>decide (0<=x)) (l:=r)) y hy;simpa using this)
   rw[<-hr,show((az [s]).length:Int)=1 by simp[aX]]at hrun
   rw[hrun,<-E0,List.singleton_append]
   generalize hT:r.takeWhile (λx=>decide (0<=x))=T at*
   generalize hD:r.dropWhile (λx=>decide (0<=x))=D at*
   have hDl:D.length<=k:=by
    have:=congrArg List.length hr
    rw[List.length_append]at this;omega
   cases D with
   |nil=>simp[K2,cx]
   |cons d D=>
    have hd:d<0:=by
     have:=List.head?_dropWhile_not (λx=>decide (0<=x)) r
     rw[hD]at this
     simp at this;omega
    cases k with
    |zero=>simp at hDl
    |succ k=>
     simp only[K2,cx,if_pos hd]
     simp only[List.length_cons]at hDl
     rw[ID k _ _ D (by omega) (λp hp=>by
      simp only[List.getLast?_append,List.getLast?_singleton,Option.some_or,Option.some.injEq]at hp
      subst hp
      simp only[rJ,aX,List.length_cons]
      omega)]
     simp
theorem sM {p:Int->Bool}:∀(r:List Int) (j:Nat),j<(r.takeWhile p).length->∃s,r[j]? =some s/\p s=true
 |[],j,h=>by simp at h
 |s::r,j,h=>by
  cases hp:p s with
  |false=>simp[List.takeWhile_cons,hp]at h
  |true=>
   cases j with
   |zero=>exact⟨s,rfl,hp⟩
   |succ j=>
    simp only[List.takeWhile_cons,hp,if_true,List.length_cons]at h
    obtain⟨t,h1,h2⟩:=sM (p:=p) r j (by omega)
    exact⟨t,by simpa using h1,h2⟩
theorem Dx (L:Int):∀(k:Nat) (i:Int) (r:List Int) (a:Int),r.length<=k->a<i->(∀(p:Nat) (s:Int),r[p]? =some s->0<=s->i+(p:Int)+1<=L)->∃b,ex L a (cx k i r)=some b
 |0,_,[],a,_,_,_=>⟨a,by simp[cx,ex]⟩
 |_+1,_,[],a,_,_,_=>⟨a,by simp[cx,ex]⟩
 |0,_,_::_,_,h,_,_=>by simp at h
 |k+1,i,s::r,a,h,ha,hL=>by
  simp only[List.length_cons]at h
  by_cases hs:s<0
  ·simp only[cx,if_pos hs]
   exact Dx L k (i+1) r a (by omega) (by omega) (λp t hp ht=>by
    have:=hL (p+1) t (by simpa using hp) ht;omega)
  ·simp only[cx,if_neg hs,ex]
   generalize hT:r.takeWhile (λx=>decide (0<=x))=T at*
   have hn:(az (s::T)==[])=false:=by rw[beq_eq_false_iff_ne];simp[az]
   have hend:i+((az (s::T)).length:Int)<=L:=by
    rw[aX,List.length_cons]
    rcases Nat.eq_zero_or_pos T.length with h0|h0
    ·have:=hL 0 s rfl (by omega);omega
    ·obtain⟨t,h1,h2⟩:=sM (p:=λx:Int=>decide (0<=x)) r (T.length-1) (by rw[hT];omega)
     have:=hL (T.length-1+1) t (by simpa using h1) (by simpa using h2)
     omega
   rw[hn,decide_eq_false (show¬i<=a by omega),decide_eq_false (show¬L<i+((az (s::T)).length:Int) by omega)]
   simp only[Bool.or_false,cond_false]
   have hr:r=T++r.dropWhile (λx=>decide (0<=x)):=by rw[<-hT];exact(List.takeWhile_append_dropWhile).symm
   generalize hD:r.dropWhile (λx=>decide (0<=x))=D at*
   have hDl:D.length<=k:=by
    have:=congrArg List.length hr
    rw[List.length_append]at this;omega
   cases D with
   |nil=>exact⟨_,by simp[cx,ex];rfl⟩
   |cons d D=>
    have hd:d<0:=by
     have:=List.head?_dropWhile_not (λx=>decide (0<=x)) r
     rw[hD]at this
     simp at this;omega
    cases k with
    |zero=>simp at hDl
    |succ k=>
     simp only[cx,if_pos hd]
     simp only[List.length_cons]at hDl
     rw[aX,List.length_cons]
     exact Dx L k _ D _ (by omega) (by omega) (λp t hp ht=>by
      have:=hL (1+T.length+(p+1)) t (by
       rw[hr,show 1+T.length+(p+1)=(T.length+(p+1))+1 by omega,List.getElem?_cons_succ,List.getElem?_append_right (by omega),show T.length+(p+1)-T.length=p+1 by omega]
       simpa using hp) ht
      omega)
theorem JI:∀(k:Nat) (i:Int) (r:List Int),(∀s∈r,s<0)->cx k i r=[]
 |0,_,[],_=>by simp[cx]
 |0,_,_::_,_=>by simp[cx]
 |_+1,_,[],_=>by simp[cx]
 |k+1,i,s::r,h=>by
  simp only[cx,if_pos (h s (List.mem_cons_self ..))]
  exact JI k (i+1) r (λt ht=>h t (List.mem_cons_of_mem _ ht))
def aD (sl:List Int):Nat:=(sl.takeWhile (λx=>decide (0<=x))).length
theorem r8 (sl:List Int)(j:Nat)(h:j<aD sl):∃s,sl[j]? =some s/\0<=s:=by
 obtain⟨s,h1,h2⟩:=sM (p:=λx:Int=>decide (0<=x)) sl j h
 exact⟨s,h1,by simpa using h2⟩
theorem DX (sl:List Int)(s:Int)(h:sl[aD sl]? =some s):s<0:=by
 unfold aD at h
 have e:sl=sl.takeWhile (λx=>decide (0<=x))++sl.dropWhile (λx=>decide (0<=x)):=(List.takeWhile_append_dropWhile).symm
 have h2:(sl.dropWhile (λx=>decide (0<=x)))[0]? =some s:=by
  have h3:=h
  rw[e,List.getElem?_append_right (by rw[<-e];exact Nat.le_refl _)]at h3
  rw[<-e,Nat.sub_self]at h3
  exact h3
 have:=List.head?_dropWhile_not (λx:Int=>decide (0<=x)) sl
 rw[List.head?_eq_getElem?,h2]at this
 simp at this;omega
def QV (x:Recv)(sl:List Int)(F:Int):Recv:=
 if 3<(cx 33 0 (sl.drop (aD sl))).length then x
 else if F-(aD sl:Int)=0 then⟨(x.next+(aD sl:Int)+1)%4294967296,x.data++az (sl.take (aD sl)),cx 33 0 (sl.drop (aD sl)),-1,true⟩
 else⟨(x.next+(aD sl:Int))%4294967296,x.data++az (sl.take (aD sl)),cx 33 0 (sl.drop (aD sl)),if F= -1 then-1 else F-(aD sl:Int),x.done⟩
theorem Vj (x:Recv)(sl:List Int)(F:Int)(hx:RV x)(hd:x.done=false)(hl:sl.length=33)(h0: -1<=F)(hF:F<=pd x)(hz:∀(k:Nat) (s:Int),sl[k]? =some s->0<=s->(k:Int)<(if F= -1 then pd x else F)):RV (QV x sl F):=by
 have hw:pd x=32-(x.data.length:Int):=by unfold pd;rw[hd];rfl
 have hdl:=hx.dl
 have hn:(aD sl:Int)<=(if F= -1 then pd x else F):=by
  rcases Nat.eq_zero_or_pos (aD sl)with h|h
  ·rw[h];split<;>omega
  ·obtain⟨s,h1,h2⟩:=r8 sl (aD sl-1) (by omega)
   have:=hz _ s h1 h2
   omega
 have hn2:(aD sl:Int)<=pd x:=by split at hn<;>omega
 have htk:(sl.take (aD sl)).length=aD sl:=by rw[List.length_take];omega
 have hdd:∀(p:Nat) (s:Int),(sl.drop (aD sl))[p]? =some s->0<=s->(p:Int)+1<=(if F= -1 then pd x else F)-(aD sl:Int)/\0<p:=by
  intro p s hp hs
  rw[List.getElem?_drop]at hp
  have h1:=hz _ s hp hs
  refine⟨by omega, ?_⟩
  rcases Nat.eq_zero_or_pos p with h|h
  ·subst h
   have:=DX sl s (by simpa using hp)
   omega
  ·exact h
 have hwk:∃b,ex ((if F= -1 then pd x else F)-(aD sl:Int)) 0 (cx 33 0 (sl.drop (aD sl)))=some b:=by
  cases hD:sl.drop (aD sl)with
  |nil=>exact⟨0,by simp[cx,ex]⟩
  |cons d D=>
   have hd0:d<0:=by
    apply Int.not_le.1
    intro h
    have:=(hdd 0 d (by rw[hD];rfl) h).2
    omega
   have hDl:D.length<=32:=by
    have:=congrArg List.length hD
    rw[List.length_drop,List.length_cons]at this;omega
   show∃b,ex _ 0 (cx (32+1) 0 (d::D))=some b
   simp only[cx,if_pos hd0]
   exact Dx _ 32 (0+1) D 0 hDl (by omega) (λp s hp hs=>by
    have:=(hdd (p+1) s (by rw[hD];simpa using hp) hs).1
    omega)
 unfold QV
 by_cases h3:3<(cx 33 0 (sl.drop (aD sl))).length
 ·rw[if_pos h3];exact hx
 ·rw[if_neg h3]
  by_cases h4:F-(aD sl:Int)=0
  ·rw[if_pos h4]
   have hne:∀s∈sl.drop (aD sl),s<0:=by
    intro s hs
    obtain⟨p,hp,rfl⟩:=List.getElem_of_mem hs
    apply Int.not_le.1
    intro h
    have:=(hdd p _ (List.getElem?_eq_getElem hp) h).1
    have hm1:F≠-1:=by omega
    rw[if_neg hm1]at this
    omega
   rw[JI _ _ _ hne]
   refine⟨by show 0<=(x.next+(aD sl:Int)+1)%4294967296;omega,by show(x.next+(aD sl:Int)+1)%4294967296<=4294967295;omega, ?_,Nat.zero_le _,Int.le_refl _, ?_,by show(-1:Int)≠0;omega,⟨0,by simp[ex]⟩,λ_=>⟨rfl,rfl⟩⟩
   ·show(x.data++az (sl.take (aD sl))).length<=32
    rw[List.length_append,aX,htk];omega
   ·show(-1:Int)<=pd _
    unfold pd;rw[if_pos rfl];omega
  ·rw[if_neg h4]
   have hlen:(x.data++az (sl.take (aD sl))).length=x.data.length+aD sl:=by rw[List.length_append,aX,htk]
   have hwin:∀(nx:Int) (hh:List Piec) (f:Int),pd ⟨nx,x.data++az (sl.take (aD sl)),hh,f,x.done⟩=pd x-(aD sl:Int):=by
    intro nx hh f
    unfold pd
    simp only[hd,Bool.false_eq_true,if_false,hlen]
    omega
   refine⟨by show 0<=(x.next+(aD sl:Int))%4294967296;omega,by show(x.next+(aD sl:Int))%4294967296<=4294967295;omega,by show(x.data++az (sl.take (aD sl))).length<=32;omega,by show(cx 33 0 (sl.drop (aD sl))).length<=3;omega, ?_, ?_, ?_, ?_,λh=>by rw[show({next:=(x.next+(aD sl:Int))%4294967296,data:=x.data++az (sl.take (aD sl)),held:=cx 33 0 (sl.drop (aD sl)),fin:=if F= -1 then-1 else F-(aD sl:Int),done:=x.done}:Recv).done=x.done from rfl,hd]at h;cases h⟩
   ·show-1<=(if F= -1 then-1 else F-(aD sl:Int))
    split
    ·omega
    ·rename_i hm;rw[if_neg hm]at hn;omega
   ·show(if F= -1 then-1 else F-(aD sl:Int))<=pd _
    rw[hwin]
    split<;>omega
   ·show(if F= -1 then-1 else F-(aD sl:Int))≠0
    split<;>omega
   ·show∃b,ex (if(if F= -1 then-1 else F-(aD sl:Int))= -1 then pd _ else(if F= -1 then-1 else F-(aD sl:Int))) 0 (cx 33 0 (sl.drop (aD sl)))=some b
    rw[hwin]
    by_cases hm:F= -1
    ·simp only[if_pos hm]at hwk|-
     exact hwk
    ·rw[if_neg hm]at hn
     simp only[if_neg hm]at hwk|-
     rw[if_neg (show¬F-(aD sl:Int)= -1 by omega)]
     exact hwk
def qD:List Int->Nat->ac->List Int
 |sl,_,[]=>sl
 |sl,o,b::t=>qD (sl.set o (b.toNat:Int)) (o+1) t
theorem JM:∀(t:ac) (sl:List Int) (o:Nat),(qD sl o t).length=sl.length
 |[],_,_=>rfl
 |_::t,sl,o=>by simp only[qD,JM t,List.length_set]
def nU (held:List Piec):List Int:=held.foldl (λsl p=>qD sl p.off.toNat p.text) (List.replicate 33 (-1))
theorem iX (t:ac)(k:Nat)(hk:k<t.length):af t k=(t[k].toNat:Int):=by
 simp[af,List.getD,hk]
theorem pO (b:UInt8):(b.toNat:Int)<=255:=by have:=b.toNat_lt;omega
theorem Va (p:Piec)(h1:1<=p.off)(h2:p.off+(p.text.length:Int)<=32){f:Int×List Int->Stp (Int×List Int) (List Int)}(hf:∀(k:Nat) sl,f ((k:Int),sl)=bif decide ((k:Int)<(p.text.length:Int))then .next (IntKind.wrap .i64 ((k:Int)+1),sl.set (IntKind.wrap .i64 (p.off+(k:Int))).toNat (IntKind.wrap .i64 (af p.text k)))else .out sl):∀(n k:Nat) (sl:List Int),k+n=p.text.length->ca f (n+1) ((k:Int),sl)=qD sl (p.off.toNat+k) (p.text.drop k)
 |0,k,sl,h=>by
  simp only[ca,hf,decide_eq_false (show¬(k:Int)<(p.text.length:Int) by omega),cond_false,Stp.elim]
  rw[List.drop_of_length_le (by omega)]
  rfl
 |n+1,k,sl,h=>by
  have hk:k<p.text.length:=by omega
  rw[ca]
  simp only[hf,decide_eq_true (show(k:Int)<(p.text.length:Int) by omega),cond_true,Stp.elim]
  rw[aj (m:=p.off+(k:Int)) (by omega) (by omega),aj (m:=(k:Int)+1) (by omega) (by omega),iX _ _ hk,aj (by omega) (by have:=pO p.text[k];omega)]
  rw[show(k:Int)+1=((k+1:Nat):Int) by omega,show(p.off+(k:Int)).toNat=p.off.toNat+k by omega]
  rw[Va p h1 h2 hf n (k+1) _ (by omega),List.drop_eq_getElem_cons hk]
  rfl
theorem Ui (x:Recv)(h:dP po x.held):uB.f (x,())=nU x.held:=by
 have e0:aR (λj a=>(vt j a).nice) 1 (Int.toNat (((List.replicate 33 (0:Int)).length:Int)-0)) 0 (List.replicate 33 (0:Int))= .next (List.replicate 33 (-1)):=by rfl
 simp only[PX,uB,cc,eP]
 rw[e0]
 simp only[Stp.elim]
 rw[av,bA x.held _ rfl (F:=λ_ p (a:List Int)=> .next (qD a p.off.toNat p.text)) (by
  intro j p a hp
  have hpo:=h p (Bc hp)
  unfold po at hpo
  have:=Va p hpo.1 hpo.2 (f:=λa=>(mg (j:Int) x a).nice) (λk sl=>by
   simp only[mg,PX,aa,getD_some hp]) p.text.length 0 a (by omega)
  simp only[PX,vQ,dB,aa,getD_some hp]
  rw[show Int.toNat ((p.text.length:Int)-0)=p.text.length by omega]
  exact congrArg Stp.next this)]
 have:∀(r:List Piec) (j:Nat) (a:List Int),eT (W:=Empty) (λ_ p (a:List Int)=> .next (qD a p.off.toNat p.text)) j r a= .next (r.foldl (λsl p=>qD sl p.off.toNat p.text) a):=by
  intro r
  induction r with
  |nil=>intro j a;rfl
  |cons p r ih=>intro j a;simp only[eT,Stp.elim,ih,List.foldl_cons]
 rw[this]
 simp only[Stp.elim]
 rfl
theorem aaN {m:Int}(h0:0<=m)(h1:m<=255):IntKind.wrap .u8 m=m:=by
 rw[qe];omega
def z8 (x:Recv)(seq w:Int)(sl:List Int)(j:Nat)(b:UInt8):List Int:=
 if(seq+(j:Int)-x.next)%4294967296<w/\(x.fin<0\/(seq+(j:Int)-x.next)%4294967296<x.fin)/\sl.getD ((seq+(j:Int)-x.next)%4294967296).toNat 0<0 then sl.set ((seq+(j:Int)-x.next)%4294967296).toNat (b.toNat:Int)else sl
def zm (x:Recv)(seq w:Int):List Int->Nat->ac->List Int
 |sl,_,[]=>sl
 |sl,j,b::t=>zm x seq w (z8 x seq w sl j b) (j+1) t
theorem X4 (x:Recv)(seq w:Int)(sl:List Int)(j:Nat)(b:UInt8):(z8 x seq w sl j b).length=sl.length:=by
 unfold z8;split<;>simp
theorem PH (x:Recv)(seq w:Int):∀(t:ac) (sl:List Int) (j:Nat),(zm x seq w sl j t).length=sl.length
 |[],_,_=>rfl
 |b::t,sl,j=>by simp only[zm,PH x seq w t,X4]
theorem Vy (a n:Int):((a%4294967296)-n)%4294967296=(a-n)%4294967296:=by omega
theorem Mm {A W:Type}(z:A->A)(g:List Int->Nat->UInt8->List Int):∀(t:ac) (j:Nat) (r:A) (sl:List Int),∃r2,eT (W:=W) (λj b (a:A×List Int)=> .next (z a.1,g a.2 j b)) j t (r,sl)= .next (r2,(t.foldl (λ(p:List Int×Nat) b=>(g p.1 p.2 b,p.2+1)) (sl,j)).1)
 |[],j,r,sl=>⟨r,rfl⟩
 |b::t,j,r,sl=>by
  obtain⟨r2,e⟩:=Mm z g t (j+1) (z r) (g sl j b)
  refine⟨r2, ?_⟩
  simp only[eT,Stp.elim,List.foldl_cons]
  exact e
theorem LN (x:Recv)(seq w:Int):∀(t:ac) (sl:List Int) (j:Nat),(t.foldl (λ(p:List Int×Nat) b=>(z8 x seq w p.1 p.2 b,p.2+1)) (sl,j)).1=zm x seq w sl j t
 |[],_,_=>rfl
 |b::t,sl,j=>by simp only[List.foldl_cons,zm,LN x seq w t]
theorem aca (x:Recv)(seq w:Int)(t:ac)(hn:0<=x.next/\x.next<=4294967295)(ht:t.length<=4294967296)(r:Recv)(sl:List Int):∃r2,aR (λj a=>(qY seq t w x j a).nice) 1 (Int.toNat ((t.length:Int)-0)) 0 (r,sl)= .next (r2,zm x seq w sl 0 t):=by
 obtain⟨r2,e⟩:=Mm (W:=Empty) (λr:Recv=>({r with held:=[]}:Recv)) (z8 x seq w) t 0 r sl
 refine⟨r2, ?_⟩
 rw[av,bA t _ rfl (F:=λj b (a:Recv×List Int)=> .next (({a.1 with held:=[]}:Recv),z8 x seq w a.2 j b)) (by
  intro j b a hb
  have hbt:af t j=(b.toNat:Int):=by simp[af,List.getD,hb]
  have hb8:=pO b
  have e1:(IntKind.wrap .i64 ((seq+(j:Int))%4294967296-x.next))%4294967296=(seq+(j:Int)-x.next)%4294967296:=by
   rw[aj (by omega) (by omega),Vy]
  simp only[PX,qY,jy,bO,ny,aa,hbt,e1]
  rw[aj (by omega) (by omega)]
  unfold z8
  generalize(seq+(j:Int)-x.next)%4294967296=o
  by_cases c1:o<w
  ·by_cases c2:x.fin<0
   ·by_cases c3:a.2.getD o.toNat 0<0
    ·simp only[decide_eq_true c1,decide_eq_true c2,decide_eq_true c3,cond_true,if_pos (show o<w/\(x.fin<0\/o<x.fin)/\a.2.getD o.toNat 0<0 from⟨c1,.inl c2,c3⟩)]
    ·simp only[decide_eq_true c1,decide_eq_true c2,decide_eq_false c3,cond_true,cond_false,if_neg (show¬(o<w/\(x.fin<0\/o<x.fin)/\a.2.getD o.toNat 0<0) from λh=>c3 h.2.2)]
   ·by_cases c4:o<x.fin
    ·by_cases c3:a.2.getD o.toNat 0<0
     ·simp only[decide_eq_true c1,decide_eq_false c2,decide_eq_true c4,decide_eq_true c3,cond_true,cond_false,if_pos (show o<w/\(x.fin<0\/o<x.fin)/\a.2.getD o.toNat 0<0 from⟨c1,.inr c4,c3⟩)]
     ·simp only[decide_eq_true c1,decide_eq_false c2,decide_eq_true c4,decide_eq_false c3,cond_true,cond_false,if_neg (show¬(o<w/\(x.fin<0\/o<x.fin)/\a.2.getD o.toNat 0<0) from λh=>c3 h.2.2)]
    ·simp only[decide_eq_true c1,decide_eq_false c2,decide_eq_false c4,cond_true,cond_false,if_neg (show¬(o<w/\(x.fin<0\/o<x.fin)/\a.2.getD o.toNat 0<0) from λh=>h.2.1.elim c2 c4)]
  ·simp only[decide_eq_false c1,cond_false,if_neg (show¬(o<w/\(x.fin<0\/o<x.fin)/\a.2.getD o.toNat 0<0) from λh=>c1 h.1)])]
 rw[e,LN]
theorem VU (sl:List Int)(e:Nat)(he:e<=sl.length):tg.f (sl,(e:Int),())=(sl.drop e).all (λs=>decide (s<0)):=by
 have key:∀(n j:Nat),j+n=sl.length->aR (λj a=>(mU sl j a).nice) 1 n (j:Int) ()=bif (sl.drop j).all (λs=>decide (s<0))then .next ()else .out ():=by
  intro n
  induction n with
  |zero=>intro j h;rw[List.drop_of_length_le (by omega)];rfl
  |succ n ih=>
   intro j h
   have hj:j<sl.length:=by omega
   have ih:=ih (j+1) (by omega)
   rw[List.drop_eq_getElem_cons hj,List.all_cons]
   simp only[mU,PX]at ih
   simp only[aR,mU,PX,aa,getD_some (List.getElem?_eq_getElem hj)]
   by_cases h0:0<=sl[j]
   ·rw[decide_eq_true h0,decide_eq_false (show¬sl[j]<0 by omega)];rfl
   ·rw[decide_eq_false h0,decide_eq_true (show sl[j]<0 by omega)]
    simp only[cond_false,Stp.elim,Bool.true_and]
    rw[show(j:Int)+1=((j+1:Nat):Int) by omega]
    exact ih
 simp only[PX,tg,mR]
 rw[show Int.toNat ((sl.length:Int)-(e:Int))=sl.length-e by omega,key _ _ (by omega)]
 cases(sl.drop e).all (λs=>decide (s<0))<;>rfl
theorem X6 (sl:List Int)(hr:∀s∈sl,s<=255)(hl:aD sl<sl.length):∀(n j:Nat) (r:Recv),j+n=aD sl->aR (λj a=>(jF sl j a).nice) 1 (sl.length-j) (j:Int) (r,sl.take j)= .out ((aD sl:Int),({r with held:=[]}:Recv),sl.take (aD sl))
 |0,j,r,h=>by
  have hj:j=aD sl:=by omega
  subst hj
  have hg:=List.getElem?_eq_getElem hl
  have h0:=DX sl _ hg
  rw[show sl.length-aD sl=(sl.length-aD sl-1)+1 by omega]
  simp only[aR,jF,PX,aa,getD_some hg,decide_eq_false (show¬0<=sl[aD sl] by omega),cond_false,Stp.elim]
 |n+1,j,r,h=>by
  obtain⟨s,hs1,lJ⟩:=r8 sl j (by omega)
  have hj:j<sl.length:=by omega
  have ih:=X6 sl hr hl n (j+1) ({r with held:=[]}:Recv) (by omega)
  have hs3:=hr s (Bc hs1)
  rw[show sl.length-j=(sl.length-(j+1))+1 by omega]
  rw[List.take_succ_eq_append_getElem hj]at ih
  have he:sl[j]=s:=by rw[List.getElem?_eq_getElem hj]at hs1;exact Option.some.inj hs1
  rw[he]at ih
  simp only[jF,PX]at ih
  simp only[aR,jF,PX,aa,getD_some hs1,decide_eq_true lJ,cond_true,Stp.elim]
  rw[aaN lJ hs3,show(j:Int)+1=((j+1:Nat):Int) by omega]
  exact ih
theorem aar (x:Recv)(seq w:Int)(sl:List Int)(j:Nat)(b:UInt8)(k:Nat)(s:Int)(h:(z8 x seq w sl j b)[k]? =some s):sl[k]? =some s\/(s=(b.toNat:Int)/\(k:Int)<w/\(x.fin<0\/(k:Int)<x.fin)):=by
 unfold z8 at h
 generalize ho:(seq+(j:Int)-x.next)%4294967296=o at h
 have h0:0<=o:=by omega
 split at h
 ·rename_i hc
  rw[List.getElem?_set]at h
  split at h
  ·rename_i hk
   split at h
   ·refine .inr ⟨(Option.some.inj h).symm,by omega, ?_⟩
    rcases hc.2.1 with h2|h2
    ·exact .inl h2
    ·exact .inr (by omega)
   ·cases h
  ·exact .inl h
 ·exact .inl h
theorem Vl (x:Recv)(seq w:Int):∀(t:ac) (sl:List Int) (j:Nat) (k:Nat) (s:Int),(zm x seq w sl j t)[k]? =some s->sl[k]? =some s\/(0<=s/\s<=255/\(k:Int)<w/\(x.fin<0\/(k:Int)<x.fin))
 |[],_,_,_,_,h=> .inl h
 |b::t,sl,j,k,s,h=>by
  rcases Vl x seq w t _ (j+1) k s h with h1|h1
  ·rcases aar x seq w sl j b k s h1 with h2|⟨h2,h3,h4⟩
   ·exact .inl h2
   ·exact .inr ⟨by omega,by have:=pO b;omega,h3,h4⟩
  ·exact .inr h1
theorem Vk:∀(t:ac) (sl:List Int) (o k:Nat) (s:Int),(qD sl o t)[k]? =some s->sl[k]? =some s\/(0<=s/\s<=255/\o<=k/\k<o+t.length)
 |[],_,_,_,_,h=> .inl h
 |b::t,sl,o,k,s,h=>by
  simp only[qD]at h
  rcases Vk t _ (o+1) k s h with h1|⟨h1,h2,h3,h4⟩
  ·rw[List.getElem?_set]at h1
   split at h1
   ·rename_i hk
    split at h1
    ·have e:=(Option.some.inj h1).symm
     exact .inr ⟨by omega,by have:=pO b;omega,by omega,by simp only[List.length_cons];omega⟩
    ·cases h1
   ·exact .inl h1
  ·exact .inr ⟨h1,h2,by omega,by simp only[List.length_cons];omega⟩
theorem QN (L:Int):∀(held:List Piec) (a b:Int) (sl:List Int),0<=a->ex L a held=some b->a<=L->∀(k:Nat) (s:Int),(held.foldl (λsl p=>qD sl p.off.toNat p.text) sl)[k]? =some s->sl[k]? =some s\/(0<=s/\s<=255/\(k:Int)<L)
 |[],_,_,_,_,_,_,_,_,h=> .inl h
 |p::r,a,b,sl,h0,hw,ha,k,s,h=>by
  simp only[ex]at hw
  cases hc:((p.text==[])||decide (p.off<=a)||decide (L<p.off+(p.text.length:Int)))with
  |true=>rw[hc]at hw;cases hw
  |false=>
   rw[hc]at hw
   simp only[Bool.or_eq_false_iff,decide_eq_false_iff_not]at hc
   simp only[List.foldl_cons]at h
   rcases QN L r _ b _ (by omega) hw (by omega) k s h with h1|h1
   ·rcases Vk p.text sl p.off.toNat k s h1 with h2|⟨h2,h3,h4,h5⟩
    ·exact .inl h2
    ·exact .inr ⟨h2,h3,by omega⟩
   ·exact .inr h1
theorem qH:∀(held:List Piec) (sl:List Int),(held.foldl (λsl p=>qD sl p.off.toNat p.text) sl).length=sl.length
 |[],_=>rfl
 |p::r,sl=>by simp only[List.foldl_cons,qH r,JM]
theorem Ii (x:Recv)(hx:RV x)(seq:Int)(t:ac):(zm x seq (pd x) (nU x.held) 0 t).length=33/\∀(k:Nat) (s:Int),(zm x seq (pd x) (nU x.held) 0 t)[k]? =some s->-1<=s/\s<=255/\(0<=s->(k:Int)<(if x.fin= -1 then pd x else x.fin)):=by
 have hw:=pT x hx.dl
 have hf0:=hx.f0
 have hf1:=hx.f1
 have hfz:=hx.fz
 refine⟨by rw[PH];unfold nU;rw[qH];rfl,λk s h=> ?_⟩
 rcases Vl x seq (pd x) t _ 0 k s h with h1|⟨h1,h2,h3,h4⟩
 ·obtain⟨b,hb⟩:=hx.wk
  unfold nU at h1
  rcases QN _ x.held 0 b _ (Int.le_refl _) hb (by split<;>omega) k s h1 with h2|⟨h2,h3,h4⟩
  ·have:s= -1:=by
    have hm:=List.mem_of_getElem? h2
    exact List.eq_of_mem_replicate hm
   omega
  ·exact⟨by omega,h3,λ_=>h4⟩
 ·refine⟨by omega,h2,λ_=> ?_⟩
  split
  ·exact h3
  ·rcases h4 with h5|h5<;>omega
theorem RS (sl:List Int)(hr:∀s∈sl,s<=255)(hl:sl.length=33)(n:Nat):∀(m j:Nat) (a:List Piec),n<=j->j+m=33->a.length<=33->(∀p,a.getLast? =some p->0<=p.off/\rJ p<=(j:Int)-(n:Int))->a.length+m<=33->aR (λj a=>(cf sl (n:Int) j a).nice) 1 m (j:Int) a= .next (K2 a ((j:Int)-(n:Int)) (sl.drop j))
 |0,j,a,h1,h2,_,_,_=>by rw[List.drop_of_length_le (by omega)];simp only[aR,K2]
 |m+1,j,a,h1,h2,h3,h4,h5=>by
  have hj:j<sl.length:=by omega
  have hs:=List.getElem?_eq_getElem hj
  have hs8:=hr _ (Bc hs)
  rw[List.drop_eq_getElem_cons hj]
  generalize sl[j]=s at hs hs8|-
  have ej:(j:Int)+1=((j+1:Nat):Int):=by omega
  have en:(j:Int)-(n:Int)+1=((j+1:Nat):Int)-(n:Int):=by omega
  by_cases h0:s<0
  ·have ih:=RS sl hr hl n m (j+1) a (by omega) (by omega) h3 (λp hp=>by have:=h4 p hp;omega) (by omega)
   simp only[PX,cf]at ih
   simp only[aR,PX,cf,aa,getD_some hs,decide_eq_true h0,cond_true,Stp.elim,K2,if_pos h0]
   rw[ej,en]
   exact ih
  ·have hw8:IntKind.wrap .u8 s=s:=aaN (by omega) hs8
   rcases List.eq_nil_or_concat a with rfl|⟨b,p,rfl⟩
   ·have ih:=RS sl hr hl n m (j+1) [⟨(j:Int)-(n:Int),az [s]⟩] (by omega) (by omega) (by simp) (λp hp=>by
     simp only[List.getLast?_singleton,Option.some.injEq]at hp
     subst hp
     simp only[rJ,aX,List.length_singleton];omega) (by simp;omega)
    simp only[PX,cf]at ih
    have e0:decide (0<(([]:List Piec).length:Int))=false:=by simp
    simp only[aR,PX,cf,aa,getD_some hs,decide_eq_false h0,cond_false,Stp.elim,K2,if_neg h0,e0,List.getLast?_nil,hw8,List.nil_append]
    rw[ej,en,aj (m:=(j:Int)-(n:Int)) (by omega) (by omega)]
    exact ih
   ·simp only[List.concat_eq_append]at*
    have hp:=h4 p (by simp)
    have hbl:(b++[p]).length=b.length+1:=by simp
    have e0:decide (0<((b++[p]).length:Int))=true:=by rw[decide_eq_true_iff,hbl];omega
    have e1:(IntKind.wrap .i64 (((b++[p]).length:Int)-1)).toNat=b.length:=by rw[hbl,aj (by omega) (by omega)];omega
    have e2:(b++[p]).getD b.length (Ty.zero .piec)=p:=by simp[List.getD]
    have e3:∀q,(b++[p]).set b.length q=b++[q]:=λq=>by simp
    have hoff:=hp.1
    have hend:=hp.2
    unfold rJ at hend
    by_cases he:rJ p=(j:Int)-(n:Int)
    ·have ih:=RS sl hr hl n m (j+1) (b++[⟨p.off,p.text++az [s]⟩]) (by omega) (by omega) (by simp at h3|-;omega) (λq hq=>by
      simp only[List.getLast?_append,List.getLast?_singleton,Option.some_or,Option.some.injEq]at hq
      subst hq
      unfold rJ at he
      simp only[rJ,List.length_append,aX,List.length_singleton];omega) (by simp at h5|-;omega)
     simp only[PX,cf]at ih
     have e4:(IntKind.wrap .i64 (p.off+(p.text.length:Int))==IntKind.wrap .i64 ((j:Int)-(n:Int)))=true:=by
      unfold rJ at he
      rw[he];exact beq_self_eq_true _
     simp only[aR,PX,cf,aa,getD_some hs,decide_eq_false h0,cond_false,Stp.elim,K2,if_neg h0,e0,e1,e2,e3,e4,cond_true,hw8,List.getLast?_append,List.getLast?_singleton,Option.some_or,if_pos he,List.dropLast_concat]
     rw[ej,en]
     exact ih
    ·have ih:=RS sl hr hl n m (j+1) (b++[p]++[⟨(j:Int)-(n:Int),az [s]⟩]) (by omega) (by omega) (by simp at h3 h5|-;omega) (λq hq=>by
      simp only[List.getLast?_append,List.getLast?_singleton,Option.some_or,Option.some.injEq]at hq
      subst hq
      simp only[rJ,aX,List.length_singleton];omega) (by simp at h5|-;omega)
     simp only[PX,cf]at ih
     have e4:(IntKind.wrap .i64 (p.off+(p.text.length:Int))==IntKind.wrap .i64 ((j:Int)-(n:Int)))=false:=by
      unfold rJ at he
      rw[aj (by omega) (by omega),aj (by omega) (by omega),beq_eq_false_iff_ne];exact he
     simp only[aR,PX,cf,aa,getD_some hs,decide_eq_false h0,cond_false,Stp.elim,K2,if_neg h0,e0,e1,e2,e4,cond_true,hw8,List.getLast?_append,List.getLast?_singleton,Option.some_or,if_neg he]
     rw[ej,en,aj (m:=(j:Int)-(n:Int)) (by omega) (by omega)]
     exact ih
theorem EH (sl:List Int)(hr:∀s∈sl,s<=255)(hl:sl.length=33)(n:Nat)(hn:n<=33):oS.f (sl,(n:Int),())=cx 33 0 (sl.drop n):=by
 simp only[PX,oS,gP]
 rw[show Int.toNat ((sl.length:Int)-(n:Int))=33-n by omega]
 rw[RS sl hr hl n (33-n) n [] (Nat.le_refl _) (by omega) (by simp) (λp hp=>by simp at hp) (by simp)]
 simp only[Stp.elim]
 rw[Int.sub_self,ID 33 [] 0 (sl.drop n) (by rw[List.length_drop];omega) (λp hp=>by simp at hp)]
 rfl
def G5 (x:Recv)(sl:List Int)(e:Int)(fin:Bool):Int:=if fin=true/\x.fin<0/\e<=pd x/\(sl.drop e.toNat).all (λs=>decide (s<0))=true then e else x.fin
def Io (x:Recv)(seq:Int)(t:ac):List Int:=zm x seq (pd x) (nU x.held) 0 t
def mS (x:Recv)(seq:Int)(t:ac)(fin:Bool):Recv:=
 if bB.f (x,())=true/\x.done=false then QV x (Io x seq t) (G5 x (Io x seq t) ((seq+(t.length:Int)-x.next)%4294967296) fin)else x
theorem Ei (L:Int):∀(r:List Piec) (a b:Int),0<=a->L<=32->ex L a r=some b->dP po r
 |[],_,_,_,_,_=>λ_ h=>by cases h
 |p::r,a,b,h0,hL,h=>by
  simp only[ex]at h
  cases hc:((p.text==[])||decide (p.off<=a)||decide (L<p.off+(p.text.length:Int)))with
  |true=>rw[hc]at h;cases h
  |false=>
   rw[hc]at h
   simp only[Bool.or_eq_false_iff,decide_eq_false_iff_not]at hc
   have ih:=Ei L r _ b (by omega) hL h
   intro y hy
   rcases List.mem_cons.1 hy with rfl|hy
   ·unfold po;omega
   ·exact ih y hy
theorem HQ (x:Recv)(hx:RV x):dP po x.held:=by
 obtain⟨b,hb⟩:=hx.wk
 have h1:=pT x hx.dl
 have h2:=hx.f1
 exact Ei _ x.held 0 b (Int.le_refl _) (by split<;>omega) hb
theorem MW (x:Recv)(seq:Int)(t:ac)(fin:Bool)(hs:bS x.held)(ht:t.length<=4294967296):tQ.f (x,seq,t,fin,())=mS x seq t fin:=by
 simp only[PX,tQ,tS,Cm x hs]
 unfold mS
 cases hok:bB.f (x,())with
 |false=>rfl
 |true=>
 cases hdn:x.done with
 |true=>rfl
 |false=>
 have hx:=(rm x hs).1 hok
 have hpo:dP po x.held:=HQ x hx
 obtain⟨r2,e1⟩:=aca x seq (pd x) t ⟨hx.n0,hx.n1⟩ ht (⟨0,[],[],0,false⟩:Recv) (nU x.held)
 have hsl:=Ii x hx seq t
 have hw:=pT x hx.dl
 have hn0:=hx.n0
 have hn1:=hx.n1
 have hf0:=hx.f0
 have hf1:=hx.f1
 have hL:Io x seq t=zm x seq (pd x) (nU x.held) 0 t:=rfl
 rw[<-hL]at e1 hsl
 have ee:IntKind.wrap .i64 ((seq+(t.length:Int))%4294967296-x.next)%4294967296=(seq+(t.length:Int)-x.next)%4294967296:=by
  rw[aj (by omega) (by omega),Vy]
 simp only[Bool.not_true,cond_false,qF,gS x hx.dl,Ui x hpo,fx,e1,Stp.elim,PX,jy,bO,ny,true_and,if_true,ee]
 obtain⟨e,he⟩:∃e,(seq+(t.length:Int)-x.next)%4294967296=e:=⟨_,rfl⟩
 have he0:0<=e:=by omega
 obtain⟨sl,hsl2⟩:∃sl,Io x seq t=sl:=⟨_,rfl⟩
 simp only[he,hsl2]at hsl|-
 clear e1 ee hL he hsl2
 obtain⟨hl,hat⟩:=hsl
 have hr:∀s∈sl,s<=255:=λs hs=>by
  obtain⟨k,hk,rfl⟩:=List.getElem_of_mem hs
  exact(hat k _ (List.getElem?_eq_getElem hk)).2.1
 have hld:aD sl<sl.length:=by
  rcases Nat.lt_or_ge (aD sl) sl.length with h|h
  ·exact h
  ·obtain⟨s,h1,h2⟩:=r8 sl 32 (by omega)
   have:=(hat 32 s h1).2.2 h2
   split at this<;>omega
 have hc:(bif fin then bif decide (x.fin<0)then bif decide (e<=pd x)then(tg.f (sl,e,()),())else(false,())else(false,())else(false,())).1=decide (fin=true/\x.fin<0/\e<=pd x/\(sl.drop e.toNat).all (λs=>decide (s<0))=true):=by
  cases fin with
  |false=>simp
  |true=>
   by_cases c1:x.fin<0
   ·by_cases c2:e<=pd x
    ·have h1:=VU sl e.toNat (by omega)
     rw[show((e.toNat:Nat):Int)=e by omega]at h1
     simp only[cond_true,decide_eq_true c1,decide_eq_true c2,h1]
     simp only[c1,c2,true_and,Bool.decide_eq_true]
    ·simp[c1,c2]
   ·simp[c1]
 have tail:∀(r u:Recv),(eh (0,x,r,u,sl,[],())).lp.s= .out ((aD sl:Int),({r with held:=[]}:Recv),sl.take (aD sl)):=by
  intro r u
  have:=X6 sl hr hld (aD sl) 0 r (by omega)
  rw[<-av sl.length]at this
  exact this
 have tp:∀(r u:Recv) (w:Int×Recv×List Int),(eh (0,x,r,u,sl,[],())).lp.o w= .inl w:=λ_ _ _=>rfl
 have hld2:(aD sl:Int)<=33:=by omega
 by_cases hcc:fin=true/\x.fin<0/\e<=pd x/\(sl.drop e.toNat).all (λs=>decide (s<0))=true
 ·have hfn:G5 x sl e fin=e:=if_pos hcc
  have hew:=hcc.2.2.1
  rw[hfn]
  simp only[hc,decide_eq_true hcc,cond_true]
  dsimp only[Tr.nice]
  simp only[PX,tail,tp,Stp.elim,Sum.elim_inl,Bx,EH sl hr hl (aD sl) (by omega)]
  unfold QV
  have hd:decide (0<=e)=true:=decide_eq_true (by omega)
  simp only[hd,cond_true]
  rw[aj (m:=e-(aD sl:Int)) (by omega) (by omega)]
  change (bif ((e-(aD sl:Int))==0)then(bif decide ((3:Int)<((cx 33 0 (sl.drop (aD sl))).length:Int))then dT.f (x,())else(⟨((x.next+(aD sl:Int))%4294967296+1)%4294967296,x.data++az (sl.take (aD sl)),cx 33 0 (sl.drop (aD sl)),-1,true⟩:Recv))else(bif decide ((3:Int)<((cx 33 0 (sl.drop (aD sl))).length:Int))then dT.f (x,())else(⟨(x.next+(aD sl:Int))%4294967296,x.data++az (sl.take (aD sl)),cx 33 0 (sl.drop (aD sl)),(e-(aD sl:Int)),false⟩:Recv)))=_
  rw[tS]
  by_cases h3:3<(cx 33 0 (sl.drop (aD sl))).length
  ·rw[if_pos h3,decide_eq_true (show(3:Int)<((cx 33 0 (sl.drop (aD sl))).length:Int) by omega)]
   cases(e-(aD sl:Int)==0)<;>rfl
  ·rw[if_neg h3,decide_eq_false (show¬(3:Int)<((cx 33 0 (sl.drop (aD sl))).length:Int) by omega)]
   by_cases h4:e-(aD sl:Int)=0
   ·rw[if_pos h4,show(e-(aD sl:Int)==0)=true by simp[h4]]
    simp only[cond_true,cond_false]
    rw[show((x.next+(aD sl:Int))%4294967296+1)%4294967296=(x.next+(aD sl:Int)+1)%4294967296 by omega]
   ·rw[if_neg h4,show(e-(aD sl:Int)==0)=false by simp[h4]]
    simp only[cond_false,if_neg (show¬e= -1 by omega),hdn]
 ·have hfn:G5 x sl e fin=x.fin:=if_neg hcc
  rw[hfn]
  simp only[hc,decide_eq_false hcc,cond_false]
  dsimp only[Tr.nice]
  simp only[PX,tail,tp,Stp.elim,Sum.elim_inl,Bx,EH sl hr hl (aD sl) (by omega)]
  unfold QV
  by_cases hF:0<=x.fin
  ·have hd:decide (0<=x.fin)=true:=decide_eq_true (by omega)
   simp only[hd,cond_true]
   rw[aj (m:=x.fin-(aD sl:Int)) (by omega) (by omega)]
   change (bif ((x.fin-(aD sl:Int))==0)then(bif decide ((3:Int)<((cx 33 0 (sl.drop (aD sl))).length:Int))then dT.f (x,())else(⟨((x.next+(aD sl:Int))%4294967296+1)%4294967296,x.data++az (sl.take (aD sl)),cx 33 0 (sl.drop (aD sl)),-1,true⟩:Recv))else(bif decide ((3:Int)<((cx 33 0 (sl.drop (aD sl))).length:Int))then dT.f (x,())else(⟨(x.next+(aD sl:Int))%4294967296,x.data++az (sl.take (aD sl)),cx 33 0 (sl.drop (aD sl)),(x.fin-(aD sl:Int)),x.done⟩:Recv)))=_
   rw[tS]
   by_cases h3:3<(cx 33 0 (sl.drop (aD sl))).length
   ·rw[if_pos h3,decide_eq_true (show(3:Int)<((cx 33 0 (sl.drop (aD sl))).length:Int) by omega)]
    cases(x.fin-(aD sl:Int)==0)<;>rfl
   ·rw[if_neg h3,decide_eq_false (show¬(3:Int)<((cx 33 0 (sl.drop (aD sl))).length:Int) by omega)]
    by_cases h4:x.fin-(aD sl:Int)=0
    ·rw[if_pos h4,show(x.fin-(aD sl:Int)==0)=true by simp[h4]]
     simp only[cond_true,cond_false]
     rw[show((x.next+(aD sl:Int))%4294967296+1)%4294967296=(x.next+(aD sl:Int)+1)%4294967296 by omega]
    ·rw[if_neg h4,show(x.fin-(aD sl:Int)==0)=false by simp[h4]]
     simp only[cond_false,if_neg (show¬x.fin= -1 by omega),hdn]
  ·have hF1:x.fin= -1:=by omega
   have hd:decide (0<=x.fin)=false:=decide_eq_false hF
   simp only[hd,cond_false]
   change (bif (x.fin==0)then(bif decide ((3:Int)<((cx 33 0 (sl.drop (aD sl))).length:Int))then dT.f (x,())else(⟨((x.next+(aD sl:Int))%4294967296+1)%4294967296,x.data++az (sl.take (aD sl)),cx 33 0 (sl.drop (aD sl)),-1,true⟩:Recv))else(bif decide ((3:Int)<((cx 33 0 (sl.drop (aD sl))).length:Int))then dT.f (x,())else(⟨(x.next+(aD sl:Int))%4294967296,x.data++az (sl.take (aD sl)),cx 33 0 (sl.drop (aD sl)),x.fin,x.done⟩:Recv)))=_
   rw[tS]
   rw[show(x.fin==0)=false by simp[hF1]]
   by_cases h3:3<(cx 33 0 (sl.drop (aD sl))).length
   ·rw[if_pos h3,decide_eq_true (show(3:Int)<((cx 33 0 (sl.drop (aD sl))).length:Int) by omega)]
    rfl
   ·rw[if_neg h3,decide_eq_false (show¬(3:Int)<((cx 33 0 (sl.drop (aD sl))).length:Int) by omega)]
    rw[if_neg (show¬x.fin-(aD sl:Int)=0 by omega),if_pos hF1,hF1,hdn]
    rfl
theorem Jx (x:Recv)(seq:Int)(t:ac)(fin:Bool)(hx:RV x):RV (mS x seq t fin):=by
 unfold mS
 by_cases hc:bB.f (x,())=true/\x.done=false
 ·rw[if_pos hc]
  obtain⟨hl,hat⟩:=Ii x hx seq t
  have hw:=pT x hx.dl
  have hf0:=hx.f0
  have hf1:=hx.f1
  change (Io x seq t).length=33 at hl
  change ∀(k:Nat) (s:Int),(Io x seq t)[k]? =some s->_ at hat
  generalize Io x seq t=sl at hl hat
  have he0:0<=(seq+(t.length:Int)-x.next)%4294967296:=by omega
  generalize(seq+(t.length:Int)-x.next)%4294967296=e at he0
  unfold G5
  split
  ·rename_i h
   obtain⟨h1,h2,h3,h4⟩:=h
   refine Vj x sl e hx hc.2 hl (by omega) h3 (λk s hk hs=> ?_)
   rw[if_neg (show¬e= -1 by omega)]
   apply Int.not_le.1
   intro hke
   rw[List.all_eq_true]at h4
   have hm:s∈sl.drop e.toNat:=by
    refine List.mem_of_getElem? (i:=k-e.toNat) ?_
    rw[List.getElem?_drop,show e.toNat+(k-e.toNat)=k by omega];exact hk
   have:=h4 s hm
   simp only[decide_eq_true_eq]at this
   omega
  ·exact Vj x sl x.fin hx hc.2 hl (by omega) hf1 (λk s hk hs=>(hat k s hk).2.2 hs)
 ·rw[if_neg hc];exact hx
def rC (a b:Int):Int:=if 2147483647<(a-b)%4294967296 then(a-b)%4294967296-4294967296 else(a-b)%4294967296
theorem uX (a b:Int):qi.f (a,b,())=rC a b:=by
 simp only[PX,qi,ny,Bx]
 rw[aj (m:=a%4294967296-b%4294967296) (by omega) (by omega),show(a%4294967296-b%4294967296)%4294967296=(a-b)%4294967296 by omega]
 unfold rC
 by_cases h:2147483647<(a-b)%4294967296
 ·rw[decide_eq_true h,if_pos h,aj (by omega) (by omega)];rfl
 ·rw[decide_eq_false h,if_neg h];rfl
def GB (s:Sndr):Int:=if s.finSent=true then s.sent+1 else s.sent
theorem th (s:Sndr)(h:SO s):cY.f (s,())=GB s:=by
 rw[Mx s h];rfl
def cC (s:Sndr)(n:Int):Sndr:=⟨(s.una+n)%4294967296,s.data.drop (if s.sent<n then s.sent else n).toNat,s.sent-(if s.sent<n then s.sent else n),s.fin,if s.sent<n then false else s.finSent,if s.sent<n then true else s.done⟩
def sY (s:Sndr)(ack:Int):Bool:=br.f (s,())&&(decide (0<=rC ack s.una)&&decide (rC ack s.una<=GB s))
theorem Ua (s:Sndr)(ack:Int):Gp.f (s,ack,())=if sY s ack=true then(cC s (rC ack s.una),true)else(s,false):=by
 simp only[PX,Gp,uX,uh,xz,bx,jy,bO]
 unfold sY
 cases hk:br.f (s,())with
 |false=>rfl
 |true=>
  have hs:=(Ip s).1 hk
  rw[th s hs]
  have h1:=hs.2.2.2.1
  have h2:=hs.2.2.2.2.1
  have h3:=hs.2.2.1
  generalize rC ack s.una=n
  simp only[Bool.not_true,cond_false,Bool.true_and]
  by_cases hn:0<=n/\n<=GB s
  ·rw[decide_eq_true hn.1,decide_eq_true hn.2]
   simp only[Bool.and_self,Bool.not_true,cond_false,if_true]
   unfold cC
   by_cases hc:s.sent<n
   ·simp only[decide_eq_true hc,if_pos hc,cond_true]
    simp only[PX,aa,List.take_length]
    rw[aj (by omega) (by omega)]
   ·simp only[decide_eq_false hc,if_neg hc,cond_false]
    simp only[PX,aa,List.take_length]
    rw[aj (by omega) (by omega)]
  ·have e:(decide (0<=n)&&decide (n<=GB s))=false:=by
    rw[Bool.and_eq_false_iff];simp only[decide_eq_false_iff_not];omega
   rw[e];rfl
theorem HX (s:Sndr)(hs:SO s)(n:Int)(h0:0<=n)(h1:n<=GB s):SO (cC s n)/\(cC s n).fin=s.fin/\(s.done=true->(cC s n).done=true):=by
 obtain⟨e1,e2,e3,e4,e5,e6,e7⟩:=hs
 unfold GB at h1
 by_cases hc:s.sent<n
 ·have ea:cC s n=⟨(s.una+n)%4294967296,s.data.drop s.sent.toNat,s.sent-s.sent,s.fin,false,true⟩:=by unfold cC;simp only[if_pos hc]
  rw[ea]
  have hf:s.finSent=true:=by
   cases hfs:s.finSent with
   |true=>rfl
   |false=>rw[hfs]at h1;simp only[Bool.false_eq_true,if_false]at h1;omega
  have hl:=(e6 hf).2
  refine⟨⟨by show 0<=(s.una+n)%4294967296;omega,by show(s.una+n)%4294967296<=4294967295;omega, ?_, ?_, ?_,λh=>(by cases h),λ_=>⟨(e6 hf).1,rfl, ?_⟩⟩,rfl,λ_=>rfl⟩
  ·show(s.data.drop s.sent.toNat).length<=48
   rw[List.length_drop];omega
  ·show 0<=s.sent-s.sent;omega
  ·show s.sent-s.sent<=((s.data.drop s.sent.toNat).length:Int)
   omega
  ·show s.data.drop s.sent.toNat=[]
   exact List.drop_of_length_le (by omega)
 ·have ea:cC s n=⟨(s.una+n)%4294967296,s.data.drop n.toNat,s.sent-n,s.fin,s.finSent,s.done⟩:=by unfold cC;simp only[if_neg hc]
  rw[ea]
  refine⟨⟨by show 0<=(s.una+n)%4294967296;omega,by show(s.una+n)%4294967296<=4294967295;omega, ?_, ?_, ?_, ?_, ?_⟩,rfl,λh=>h⟩
  ·show(s.data.drop n.toNat).length<=48
   rw[List.length_drop];omega
  ·show 0<=s.sent-n;omega
  ·show s.sent-n<=((s.data.drop n.toNat).length:Int)
   rw[List.length_drop];omega
  ·intro h
   refine⟨(e6 h).1, ?_⟩
   have:=(e6 h).2
   show s.sent-n=((s.data.drop n.toNat).length:Int)
   rw[List.length_drop];omega
  ·intro h
   refine⟨(e7 h).1,(e7 h).2.1, ?_⟩
   show s.data.drop n.toNat=[]
   rw[(e7 h).2.2];simp
def nE (k:Int)(sd rd:Bool):Int:=if k=1 then(if rd=true then 4 else 1)else if k=2 then(if sd=true then(if rd=true then 7 else 3)else if rd=true then 5 else 2)else if k=3 then(if rd=true then 7 else 3)else if k=5 then(if sd=true then 7 else 5)else if k=6 then(if sd=true then 8 else 6)else k
theorem Ye (x:Conn):vb.f (x,())=nE x.state x.s.done x.r.done:=by
 simp only[PX,vb]
 unfold nE
 by_cases h1:x.state=1
 ·rw[if_pos h1,h1];cases x.r.done<;>first|rfl|exact h1
 by_cases h2:x.state=2
 ·rw[if_neg h1,if_pos h2,h2];cases x.s.done<;>cases x.r.done<;>first|rfl|exact h2
 by_cases h3:x.state=3
 ·rw[if_neg h1,if_neg h2,if_pos h3,h3];cases x.r.done<;>first|rfl|exact h3
 by_cases h5:x.state=5
 ·rw[if_neg h1,if_neg h2,if_neg h3,if_pos h5,h5];cases x.s.done<;>first|rfl|exact h5
 by_cases h6:x.state=6
 ·rw[if_neg h1,if_neg h2,if_neg h3,if_neg h5,if_pos h6,h6];cases x.s.done<;>first|rfl|exact h6
 rw[if_neg h1,if_neg h2,if_neg h3,if_neg h5,if_neg h6]
 rw[show(x.state==1)=false by simp[h1],show(x.state==2)=false by simp[h2],show(x.state==3)=false by simp[h3],show(x.state==5)=false by simp[h5],show(x.state==6)=false by simp[h6]]
 rfl
def I9 (x:Conn):Bool:=bR.f ({x with state:=nE x.state x.s.done x.r.done,timer:=0,tries:=0},())&&((decide (0<=x.timer)&&decide (x.timer<=4))&&(decide (0<=x.tries)&&decide (x.tries<=3)))
def du (x:Conn):Conn:=
 if I9 x=true then
  if nE x.state x.s.done x.r.done=x.state then x
  else if nE x.state x.s.done x.r.done=7 then{x with state:=7,timer:=4,tries:=0}
  else if nE x.state x.s.done x.r.done=8 then{x with state:=8,timer:=0,tries:=0}
  else{x with state:=nE x.state x.s.done x.r.done}
 else x
theorem EN (x:Conn)(hs:bS x.r.held):qG.f (x,())=du x:=by
 simp only[PX,qG,nI,Ye,bx]
 rw[B2 ({x with state:=nE x.state x.s.done x.r.done,timer:=0,tries:=0}:Conn) hs]
 unfold du I9
 generalize(decide (0<=x.timer)&&decide (x.timer<=4))=b1
 generalize(decide (0<=x.tries)&&decide (x.tries<=3))=b2
 generalize nE x.state x.s.done x.r.done=k
 cases bR.f (({x with state:=k,timer:=0,tries:=0}:Conn),())with
 |false=>rfl
 |true=>
 cases b1 with
 |false=>rfl
 |true=>
 cases b2 with
 |false=>rfl
 |true=>
 simp only[Bool.not_true,cond_false,Bool.and_self,if_true]
 by_cases h1:k=x.state
 ·subst h1
  simp only[if_true,beq_self_eq_true,cond_true]
 ·rw[if_neg h1,show(k==x.state)=false by simp[h1]]
  simp only[cond_false]
  by_cases h7:k=7
  ·subst h7;rfl
  ·rw[if_neg h7,show(k==7)=false by simp[h7]]
   simp only[cond_false]
   by_cases h8:k=8
   ·subst h8;rfl
   ·rw[if_neg h8,show(k==8)=false by simp[h8]];rfl
structure TR (x:Conn):Prop where
 tup:aG.f (x.tuple,())=true
 snd:SO x.s
 rcv:bB.f (x.r,())=true
 opt:aF.f (x.opts,())=true
 s1:1<=x.state
 s7:x.state<=7
 m0:0<=x.most
 m1:x.most<=1073725440
 w0:0<=x.window
 w1:x.window<=x.most
 t0:0<=x.timer
 t4:x.timer<=4
 t3:x.state≠7->x.timer<=3
 r0:0<=x.tries
 r3:x.tries<=3
 fl:Z2 (nE x.state x.s.done x.r.done) x.s.fin x.s.done x.r.done=true
theorem aad (k:Int)(sd rd:Bool)(h1:1<=k)(h7:k<=7):1<=nE k sd rd/\nE k sd rd<=8:=by
 unfold nE;repeat' split
 all_goals omega
theorem TR.turned {x:Conn}(h:TR x):CO (du x):=by
 have hk:=aad x.state x.s.done x.r.done h.s1 h.s7
 have hfl:=h.fl
 have hs1:=h.s1
 have hs7:=h.s7
 have hr0:=h.r0
 have hr3:=h.r3
 have ht0:=h.t0
 have ht4:=h.t4
 have hco:CO ({x with state:=nE x.state x.s.done x.r.done,timer:=0,tries:=0}:Conn):=⟨h.tup,h.snd,h.rcv,h.opt,hk.1,hk.2,h.m0,h.m1,h.w0,h.w1,Int.le_refl _,by show(0:Int)<=4;omega,λ_=>by show(0:Int)<=3;omega,Int.le_refl _,by show(0:Int)<=3;omega,hfl⟩
 have hok:I9 x=true:=by
  unfold I9
  rw[(Hk _).2 hco,decide_eq_true ht0,decide_eq_true ht4,decide_eq_true hr0,decide_eq_true hr3];rfl
 unfold du
 rw[if_pos hok]
 by_cases h1:nE x.state x.s.done x.r.done=x.state
 ·rw[if_pos h1]
  rw[h1]at hfl
  exact⟨h.tup,h.snd,h.rcv,h.opt,hs1,by omega,h.m0,h.m1,h.w0,h.w1,ht0,ht4,h.t3,hr0,hr3,hfl⟩
 ·rw[if_neg h1]
  have hn7:x.state≠7:=by
   intro h7;apply h1;rw[h7];rfl
  have ht3:=h.t3 hn7
  by_cases h7:nE x.state x.s.done x.r.done=7
  ·rw[if_pos h7]
   rw[h7]at hfl
   exact⟨h.tup,h.snd,h.rcv,h.opt,by show(1:Int)<=7;omega,by show(7:Int)<=8;omega,h.m0,h.m1,h.w0,h.w1,by show(0:Int)<=4;omega,Int.le_refl _,λhh=>absurd rfl hh,Int.le_refl _,by show(0:Int)<=3;omega,hfl⟩
  ·rw[if_neg h7]
   by_cases h8:nE x.state x.s.done x.r.done=8
   ·rw[if_pos h8]
    rw[h8]at hfl
    exact⟨h.tup,h.snd,h.rcv,h.opt,by show(1:Int)<=8;omega,Int.le_refl _,h.m0,h.m1,h.w0,h.w1,Int.le_refl _,by show(0:Int)<=4;omega,λ_=>by show(0:Int)<=3;omega,Int.le_refl _,by show(0:Int)<=3;omega,hfl⟩
   ·rw[if_neg h8]
    exact⟨h.tup,h.snd,h.rcv,h.opt,hk.1,hk.2,h.m0,h.m1,h.w0,h.w1,ht0,ht4,λ_=>ht3,hr0,hr3,hfl⟩
theorem CA (x:Conn):(du x).tuple=x.tuple:=by
 unfold du;repeat' split
 all_goals rfl
def iu (w sc:Int):Int:=w*2 ^ (if sc<0 then 0 else sc).toNat
theorem Kf (w sc:Int)(h0:0<=w)(h1:w<=65535)(h2:sc<=14):0<=iu w sc/\iu w sc<=1073725440:=by
 unfold iu
 have hk:(if sc<0 then 0 else sc).toNat<=14:=by split<;>omega
 generalize(if sc<0 then 0 else sc).toNat=k at hk
 have:k=0\/k=1\/k=2\/k=3\/k=4\/k=5\/k=6\/k=7\/k=8\/k=9\/k=10\/k=11\/k=12\/k=13\/k=14:=by omega
 rcases this with rfl|rfl|rfl|rfl|rfl|rfl|rfl|rfl|rfl|rfl|rfl|rfl|rfl|rfl|rfl<;>simp only[Int.reducePow,Int.pow_zero]<;>omega
theorem eM (o:Opti)(h:aF.f (o,())=true): -1<=o.scale/\o.scale<=14:=by
 simp only[PX,aF,ar]at h
 revert h
 cases hq:(decide (-1<=o.scale)&&decide (o.scale<=14))with
 |true=>
  intro _
  simpa [Bool.and_eq_true,decide_eq_true_eq]using hq
 |false=>
  cases ae.f (o.mss,16,())<;>cases o.stamp<;>cases(o.val != 0)<;>cases(o.echo != 0)<;>simp
def t7 (c:Conn)(g:Segm):Conn:=
 if sY c.s g.ack=true then
  if((cC c.s (rC g.ack c.s.una)).una≠c.s.una\/GB (cC c.s (rC g.ack c.s.una))=0)/\c.state≠7 then
   ⟨c.tuple,c.state,cC c.s (rC g.ack c.s.una),c.r,iu g.window c.opts.scale,if c.most<iu g.window c.opts.scale then iu g.window c.opts.scale else c.most,c.opts,if 0<GB (cC c.s (rC g.ack c.s.una))then 3 else 0,0⟩
  else⟨c.tuple,c.state,cC c.s (rC g.ack c.s.una),c.r,iu g.window c.opts.scale,if c.most<iu g.window c.opts.scale then iu g.window c.opts.scale else c.most,c.opts,c.timer,c.tries⟩
 else c
def fC (c:Conn)(g:Segm):Conn:=
 if 1<=c.state/\c.state<=3 then du {t7 c g with r:=mS c.r g.seq g.body (gg.f (g,1,()))}else du (t7 c g)
theorem Zq (k:Int)(h1:1<=k)(h7:k<=7)(sf sd rd sd' rd':Bool)(h:Z2 k sf sd rd=true)(hsd:sd=true->sd'=true)(hsf:sd'=true->sf=true)(hrd:rd'=rd\/(rd=false/\k<=3)):Z2 (nE k sd' rd') sf sd' rd'=true:=by
 have hk:k=1\/k=2\/k=3\/k=4\/k=5\/k=6\/k=7:=by omega
 rcases hk with rfl|rfl|rfl|rfl|rfl|rfl|rfl<;>revert h hsd hsf hrd<;>revert sf sd rd sd' rd'<;>decide+kernel
theorem RV.small {x:Recv}(h:RV x):bS x.held:=by
 intro y hy
 have:=HQ x h y hy
 unfold po at this;omega
theorem PJ (m:Int):IntKind.u32.wrap m=m%4294967296:=by
 unfold IntKind.wrap
 simp[IntKind.signed,IntKind.bits]
theorem RU (m:Int):IntKind.i32.wrap m=(m+2147483648)%4294967296-2147483648:=by
 unfold IntKind.wrap
 simp only[IntKind.signed,IntKind.bits]
 simp
 omega
theorem uM (a b:Int):qh.f (a,b,())=rC a b:=by
 simp only[PX,qh,PJ,RU,cO]
 unfold rC
 split<;>omega
theorem Mf (g:Segm)(n:Int):gg.f (g,n,())=bm.f (g,n,()):=by simp only[PX,gg,bm]
theorem uP (g:Segm):gZ.f (g,())=aK.f (g,()):=by simp only[PX,gZ,aK,Mf]
theorem qR (a b:Int):rP.f (a,b,())=(a-b)%4294967296:=Ps a b
def uq (x o n:Int):Bool:=decide (0<n)&&decide ((x-o)%4294967296<n)
theorem og (x o n:Int):nF.f (x,o,n,())=uq x o n:=by
 simp only[PX,nF,ny]
 unfold uq
 rw[aj (by omega) (by omega),show(x%4294967296-o%4294967296)%4294967296=(x-o)%4294967296 by omega]
 cases decide (0<n)<;>rfl
theorem sQ (x o n:Int):nK.f (x,o,n,())=uq x o n:=by
 simp only[PX,nK,qR]
 unfold uq
 by_cases h:4294967295<n
 ·rw[decide_eq_true h,decide_eq_true (show 0<n by omega),decide_eq_true (show(x-o)%4294967296<n by omega)];rfl
 ·rw[decide_eq_false h]
  by_cases h1:0<n
  ·rw[decide_eq_true h1,decide_eq_true (show 1<=n by omega)];rfl
  ·rw[decide_eq_false h1,decide_eq_false (show¬1<=n by omega)];rfl
def ovN (x n o w:Int):Bool:=decide (0<n)&&(decide (0<w)&&(decide ((x-o)%4294967296<w)||decide ((o-x)%4294967296<n)))
theorem K1 (x n o w:Int)(hn:n<=65536):un.f (x,n,o,w,())=ovN x n o w:=by
 simp only[PX,un,qR,sQ]
 rw[if_neg (show¬65536<n by omega)]
 unfold ovN uq
 by_cases h1:0<n
 ·rw[decide_eq_true h1,decide_eq_false (show¬n<1 by omega)]
  by_cases h2:0<w
  ·rw[decide_eq_true h2,decide_eq_false (show¬w<1 by omega)]
   cases decide ((x-o)%4294967296<w)<;>rfl
  ·rw[decide_eq_false h2,decide_eq_true (show w<1 by omega)];rfl
 ·rw[decide_eq_false h1,decide_eq_true (show n<1 by omega)];rfl
theorem Lw (x o w:Int):∀(k j:Nat),j+k<=65536->(aR (λj a=>(iO x o w j a).nice) 1 k (j:Int) ()= .next ()/\∀i:Nat,j<=i->i<j+k->uq (x+(i:Int)) o w=false)\/(aR (λj a=>(iO x o w j a).nice) 1 k (j:Int) ()= .out (.inl ())/\∃i:Nat,j<=i/\i<j+k/\uq (x+(i:Int)) o w=true)
 |0,j,_=> .inl ⟨rfl,λi h1 h2=>by omega⟩
 |k+1,j,h=>by
  have ih:=Lw x o w k (j+1) (by omega)
  have e:uq ((x+(j:Int))%4294967296) o w=uq (x+(j:Int)) o w:=by
   unfold uq
   rw[show((x+(j:Int))%4294967296-o)%4294967296=(x+(j:Int)-o)%4294967296 by omega]
  simp only[aR,PX,iO,jy,bO,og,decide_eq_true (show(j:Int)<65536 by omega),cond_true,e]
  simp only[PX,iO,jy,bO,og]at ih
  cases hj:uq (x+(j:Int)) o w with
  |true=>exact .inr ⟨rfl,j,Nat.le_refl _,by omega,hj⟩
  |false=>
   simp only[cond_false,Stp.elim]
   rw[show(j:Int)+1=((j+1:Nat):Int) by omega]
   rcases ih with⟨h1,h2⟩|⟨h1,i,h2,h3,h4⟩
   ·refine .inl ⟨h1,λi h3 h4=> ?_⟩
    rcases Nat.eq_or_lt_of_le h3 with h5|h5
    ·rw[<-h5];exact hj
    ·exact h2 i h5 (by omega)
   ·exact .inr ⟨h1,i,by omega,by omega,h4⟩
theorem Kp (x n o w:Int)(hn:n<=65536)(hw:w<=2147483648):uc.f (x,n,o,w,())=ovN x n o w:=by
 simp only[PX,uc,kW]
 have key:=Lw x o w (Int.toNat (n-0)) 0 (by omega)
 rw[show((0:Nat):Int)=0 from rfl]at key
 unfold ovN
 rcases key with⟨h1,h2⟩|⟨h1,i,h2,h3,h4⟩
 ·rw[h1]
  simp only[Stp.elim,Sum.elim_inr,Sum.elim_inl]
  by_cases c1:0<n
  ·by_cases c2:0<w
   ·have a0:=h2 0 (Nat.le_refl _) (by omega)
    unfold uq at a0
    rw[decide_eq_true c2,show x+((0:Nat):Int)=x by omega,Bool.true_and,decide_eq_false_iff_not]at a0
    have a1:¬(o-x)%4294967296<n:=by
     intro h
     have:=h2 ((o-x)%4294967296).toNat (by omega) (by omega)
     unfold uq at this
     rw[decide_eq_true c2,Bool.true_and,decide_eq_false_iff_not]at this
     omega
    rw[decide_eq_true c1,decide_eq_true c2,decide_eq_false a0,decide_eq_false a1];rfl
   ·rw[decide_eq_false c2];cases decide (0<n)<;>rfl
  ·rw[decide_eq_false c1];rfl
 ·rw[h1]
  simp only[Stp.elim,Sum.elim_inr,Sum.elim_inl]
  unfold uq at h4
  simp only[Bool.and_eq_true,decide_eq_true_eq]at h4
  have c1:0<n:=by omega
  rw[decide_eq_true c1,decide_eq_true h4.1]
  by_cases c3:(x-o)%4294967296<w
  ·rw[decide_eq_true c3];rfl
  ·rw[decide_eq_true (show(o-x)%4294967296<n by omega),Bool.or_true];rfl
def S0 (c:Conn)(g:Segm):Bool:=bif aK.f (g,())==0 then rC g.seq c.r.next==0||uq g.seq c.r.next (pd c.r)else ovN g.seq (aK.f (g,())) c.r.next (pd c.r)
theorem qt (g:Segm)(hb:g.body.length<=60000):0<=aK.f (g,())/\aK.f (g,())<=(g.body.length:Int)+2:=by
 simp only[PX,aK]
 rw[aj (m:=(g.body.length:Int)+1) (by omega) (by omega),aj (m:=(g.body.length:Int)+1+1) (by omega) (by omega)]
 cases bm.f (g,2,())<;>cases bm.f (g,1,())<;>simp only[cond_true,cond_false]<;>omega
theorem Fw (c:Conn)(g:Segm)(hd:c.r.data.length<=32)(hb:g.body.length<=60000):pK.f (c,g,())=S0 c g:=by
 have h1:=qt g hb
 have hw:=pT c.r hd
 simp only[PX,pK,uP,qF,gS c.r hd,uX,og,Kp _ _ _ _ (show aK.f (g,())<=65536 by omega) (show pd c.r<=2147483648 by omega)]
 unfold S0
 cases(aK.f (g,())==0)with
 |false=>rfl
 |true=>cases(rC g.seq c.r.next==0)<;>rfl
theorem Fu (c:Conn)(g:Segm)(hd:c.r.data.length<=32)(hb:g.body.length<=60000):pM.f (c,g,())=S0 c g:=by
 have h1:=qt g hb
 have hw:=pT c.r hd
 simp only[PX,pM,gS c.r hd,uM,sQ,K1 _ _ _ _ (show aK.f (g,())<=65536 by omega)]
 unfold S0
 cases(aK.f (g,())==0)with
 |false=>rfl
 |true=>cases(rC g.seq c.r.next==0)<;>rfl
def Re (c:Conn)(a:Int):Bool:=decide (rC a c.s.una<=GB c.s)&&(decide (0<=rC a c.s.una)||decide (-c.most<=rC a c.s.una))
theorem Nb (c:Conn)(a:Int)(hs:SO c.s)(h0:0<=c.most)(h1:c.most<=1073725440):y7.f (c,a,())=Re c a:=by
 simp only[PX,y7,uX,xz,th c.s hs]
 unfold Re
 rw[aj (by omega) (by omega),decide_eq_false (show¬2147483648<=c.most by omega)]
 generalize rC a c.s.una=d
 cases decide (d<=GB c.s)with
 |false=>rfl
 |true=>
  by_cases h2:0<=d
  ·rw[decide_eq_true h2];rfl
  ·rw[decide_eq_false h2]
   by_cases h3:0<c.most
   ·rw[decide_eq_true h3,show(0-c.most)= -c.most by omega];rfl
   ·rw[decide_eq_false h3,decide_eq_false (show¬-c.most<=d by omega)];rfl
theorem NY (c:Conn)(a:Int)(hs:SO c.s)(h0:0<=c.most)(h1:c.most<=1073725440):yx.f (c,a,())=Re c a:=by
 simp only[PX,yx,uM,th c.s hs,ar]
 unfold Re
 rw[if_neg (show¬2147483648<c.most by omega),show(if 0<c.most then c.most else 0)=c.most by split<;>omega,aj (by omega) (by omega),show(0-c.most)= -c.most by omega]
 generalize rC a c.s.una=d
 by_cases h2:0<=d
 ·rw[decide_eq_true h2,decide_eq_true (show-c.most<=d by omega)];simp
 ·rw[decide_eq_false h2,Bool.and_comm];simp
def Dd (c:Conn)(g:Segm):Int:=
 bif bR.f (c,())&&(!(c.state==8)&&ai.f (g,()))then
  bif bm.f (g,4,())then(bif g.seq==c.r.next then 2 else bif uq g.seq c.r.next (pd c.r)then 3 else 1)
  else bif bm.f (g,2,())then 3
  else bif !S0 c g then 4
  else bif !bm.f (g,16,())then 1
  else bif !Re c g.ack then 3 else 5
 else 1
theorem gE (g:Segm)(h:ai.f (g,())=true):g.body.length<=1420:=by
 simp only[PX,ai]at h
 revert h
 cases ae.f (g.from_,16,())<;>cases ae.f (g.to,16,())<;>cases ae.f (g.seq,32,())<;>cases ae.f (g.ack,32,())<;>cases ae.f (g.flags,6,())<;>cases ae.f (g.window,16,())<;>cases aF.f (g.opts,())<;>simp<;>omega
theorem Bp (c:Conn)(g:Segm)(hs:bS c.r.held):td.f (c,g,())=Dd c g:=by
 simp only[PX,td,B2 c hs,pb,Mf]
 unfold Dd
 rcases Bool.eq_false_or_eq_true (bR.f (c,()))with h1|h1
 case inr=>rw[h1];rfl
 rcases Bool.eq_false_or_eq_true (c.state==8)with h2|h2
 ·rw[h1,h2];rfl
 rcases Bool.eq_false_or_eq_true (ai.f (g,()))with h3|h3
 case inr=>rw[h1,h2,h3];rfl
 have hc:=(Hk c).1 h1
 have hr:=(rm c.r hs).1 hc.rcv
 have hb:=gE g h3
 simp only[h1,h2,h3,qF,gS c.r hr.dl,og,Fw c g hr.dl (by omega),Nb c g.ack hc.snd hc.m0 hc.m1,Bool.not_true,Bool.not_false,cond_true,cond_false,Bool.and_self]
 cases bm.f (g,4,())with
 |false=>rfl
 |true=>cases(g.seq==c.r.next)<;>cases uq g.seq c.r.next (pd c.r)<;>rfl
theorem Cy (c:Conn)(g:Segm)(hs:bS c.r.held):tj.f (c,g,())=Dd c g:=by
 simp only[PX,tj]
 unfold Dd
 rcases Bool.eq_false_or_eq_true (bR.f (c,()))with h1|h1
 case inr=>rw[h1];rfl
 rcases Bool.eq_false_or_eq_true (c.state==8)with h2|h2
 ·rw[h1,h2];rfl
 rcases Bool.eq_false_or_eq_true (ai.f (g,()))with h3|h3
 case inr=>rw[h1,h2,h3];rfl
 have hc:=(Hk c).1 h1
 have hr:=(rm c.r hs).1 hc.rcv
 have hb:=gE g h3
 simp only[h1,h2,h3,gS c.r hr.dl,sQ,Fu c g hr.dl (by omega),NY c g.ack hc.snd hc.m0 hc.m1,Bool.not_true,Bool.not_false,cond_true,cond_false,Bool.and_self]
def iK (w:Nat)(sl:List Int):List Bool:=(sl.take w).map (λs=>decide (0<=s))
def lU (w:Nat)(sl:List Int):List Int:=(sl.take w).map (λs=>if s<0 then 0 else s)
def st1 (sl:List Int)(o b:Int):List Int:=if sl.getD o.toNat 0<0 then sl.set o.toNat b else sl
theorem YG (w:Nat)(sl:List Int)(o:Nat)(b:Int)(hb:0<=b):iK w (sl.set o b)=(iK w sl).set o true:=by
 unfold iK
 rw[List.take_set,List.map_set,decide_eq_true hb]
theorem Zf (w:Nat)(sl:List Int)(o:Nat)(b:Int)(hb:0<=b):lU w (sl.set o b)=(lU w sl).set o b:=by
 unfold lU
 rw[List.take_set,List.map_set,if_neg (show¬b<0 by omega)]
theorem tE (w:Nat)(sl:List Int)(o:Nat)(ho:o<w)(hl:w<=sl.length):(iK w sl).getD o false=decide (0<=sl.getD o 0):=by
 unfold iK
 simp[List.getD,List.getElem?_take,ho,show o<sl.length by omega]
theorem Kd (w:Nat)(sl:List Int)(o b:Int)(h0:0<=o)(h1:o<(w:Int))(hl:w<=sl.length)(hb:0<=b):f7.f (o,b,iK w sl,lU w sl,())=(iK w (st1 sl o b),lU w (st1 sl o b)):=by
 simp only[PX,f7]
 rw[tE w sl o.toNat (by omega) hl]
 unfold st1
 by_cases h:sl.getD o.toNat 0<0
 ·rw[decide_eq_false (by omega),if_pos h,YG _ _ _ _ hb,Zf _ _ _ _ hb];rfl
 ·rw[decide_eq_true (by omega),if_neg h];rfl
theorem aaL (p:Piec)(w:Nat)(h1:1<=p.off)(h2:p.off+(p.text.length:Int)<=(w:Int))(hw:w<=33):∀(n k:Nat) (sl:List Int) (r:Recv),w<=sl.length->k+n=p.text.length->(∀(j:Nat) (s:Int),p.off.toNat+k<=j->sl[j]? =some s->s<0)->∃r2,aR (λj a=>(nz p j a).nice) 1 n (k:Int) (r,lU w sl,iK w sl)= .next (r2,lU w (qD sl (p.off.toNat+k) (p.text.drop k)),iK w (qD sl (p.off.toNat+k) (p.text.drop k)))
 |0,k,sl,r,hl,h,hf=>⟨r,by rw[List.drop_of_length_le (by omega)];rfl⟩
 |n+1,k,sl,r,hl,h,hf=>by
  have hk:k<p.text.length:=by omega
  have ho:p.off.toNat+k<sl.length:=by omega
  have hfree:=hf (p.off.toNat+k) sl[p.off.toNat+k] (Nat.le_refl _) (List.getElem?_eq_getElem ho)
  have hst:st1 sl (p.off+(k:Int)) (p.text[k].toNat:Int)=sl.set (p.off.toNat+k) (p.text[k].toNat:Int):=by
   unfold st1
   rw[show(p.off+(k:Int)).toNat=p.off.toNat+k by omega,getD_some (List.getElem?_eq_getElem ho),if_pos hfree]
  obtain⟨r2,e⟩:=aaL p w h1 h2 hw n (k+1) (sl.set (p.off.toNat+k) (p.text[k].toNat:Int)) ({r with held:=[]}:Recv) (by rw[List.length_set];exact hl) (by omega) (λj s hj hs=>by
   rw[List.getElem?_set_ne (by omega)]at hs
   exact hf j s (by omega) hs)
  refine⟨r2, ?_⟩
  rw[List.drop_eq_getElem_cons hk]
  simp only[qD]
  simp only[aR,PX,nz,aa,iX _ _ hk]
  rw[aj (by omega) (by omega),Kd w sl _ _ (by omega) (by omega) hl (by omega),hst]
  simp only[Stp.elim]
  rw[show(k:Int)+1=((k+1:Nat):Int) by omega]
  exact e
theorem L6:∀(t:ac) (sl:List Int) (o:Nat) (a:Int),((o:Int)+(t.length:Int)<=a)->(∀(j:Nat) (s:Int),a<=(j:Int)->sl[j]? =some s->s<0)->∀(j:Nat) (s:Int),a<=(j:Int)->(qD sl o t)[j]? =some s->s<0
 |[],_,_,_,_,h,j,s,hj,hs=>h j s hj hs
 |b::t,sl,o,a,ha,h,j,s,hj,hs=>by
  simp only[qD]at hs
  simp only[List.length_cons]at ha
  refine L6 t (sl.set o (b.toNat:Int)) (o+1) a (by omega) (λj s hj hs=> ?_) j s hj hs
  rw[List.getElem?_set_ne (by omega)]at hs
  exact h j s hj hs
theorem Vi (v0:Int)(v1:ac)(v2:Bool)(v3:Int)(v4:List Piec)(v5:Int)(v7 v9:Recv)(w:Nat)(hw:w<=33):∀(held:List Piec) (j:Nat) (a b:Int) (L:Int) (sl:List Int) (r:Recv),ex L a held=some b->0<=a->L<=(w:Int)->w<=sl.length->(∀(j:Nat) (s:Int),a<=(j:Int)->sl[j]? =some s->s<0)->(∀p∈held,p.text.length<=33)->∃r2,eT (W:=Empty) (λ_ p (x:Recv×List Int×List Bool)=>(gL v0 v1 v2 v3 [p] v5 v7 v9 0 x).nice) j held (r,lU w sl,iK w sl)= .next (r2,lU w (held.foldl (λsl p=>qD sl p.off.toNat p.text) sl),iK w (held.foldl (λsl p=>qD sl p.off.toNat p.text) sl))
 |[],_,a,b,L,sl,r,_,_,_,_,_,_=>⟨r,rfl⟩
 |p::held,j,a,b,L,sl,r,hp,ha,hL,hl,hf,ht=>by
  simp only[ex]at hp
  cases hc:((p.text==[])||decide (p.off<=a)||decide (L<p.off+(p.text.length:Int)))with
  |true=>rw[hc]at hp;cases hp
  |false=>
   rw[hc]at hp
   simp only[Bool.or_eq_false_iff,decide_eq_false_iff_not]at hc
   have hpl:=ht p (List.mem_cons_self ..)
   obtain⟨r1,e1⟩:=aaL p w (by omega) (by omega) hw p.text.length 0 sl ({r with held:=[]}:Recv) hl (by omega) (λj s hj hs=>hf j s (by omega) hs)
   rw[List.drop_zero,Nat.add_zero]at e1
   obtain⟨r2,e2⟩:=Vi v0 v1 v2 v3 v4 v5 v7 v9 w hw held (j+1) _ b L (qD sl p.off.toNat p.text) ({r1 with held:=[]}:Recv) hp (by omega) hL (by rw[JM];exact hl) (L6 p.text sl p.off.toNat _ (by omega) (λj s hj hs=>hf j s (by omega) hs)) (λq hq=>ht q (List.mem_cons_of_mem _ hq))
   refine⟨r2, ?_⟩
   rw[eT]
   rw[show(gL v0 v1 v2 v3 [p] v5 v7 v9 0 (r,lU w sl,iK w sl)).nice= .next (({r1 with held:=[]}:Recv),lU w (qD sl p.off.toNat p.text),iK w (qD sl p.off.toNat p.text)) by
    simp only[PX,gL,di,show Int.toNat 0=0 from rfl,List.getD_cons_zero]
    rw[av]
    refine(congrArg (Stp.elim _ _) e1).trans ?_
    rfl]
   simp only[Stp.elim]
   exact e2
theorem aaJ (v0:Int)(v1:ac)(x:Recv)(w:Nat)(hw:w<=33)(hf: -1<=x.fin):∀(t:ac) (j:Nat) (sl:List Int) (r:Recv),w<=sl.length->(∀i,t[i]? =v1[j+i]?)->∃r2,aR (λj a=>(nj v0 v1 (w:Int) x j a).nice) 1 t.length (j:Int) (r,lU w sl,iK w sl)= .next (r2,lU w (zm x v0 (w:Int) sl j t),iK w (zm x v0 (w:Int) sl j t))
 |[],j,sl,r,hl,ht=>⟨r,rfl⟩
 |b::t,j,sl,r,hl,ht=>by
  have hb:v1[j]? =some b:=by have:=ht 0;simpa using this.symm
  have hbt:af v1 j=(b.toNat:Int):=by simp[af,List.getD,hb]
  have hll:(z8 x v0 (w:Int) sl j b).length=sl.length:=by unfold z8;split<;>simp
  obtain⟨r2,e⟩:=aaJ v0 v1 x w hw hf t (j+1) (z8 x v0 (w:Int) sl j b) ({r with held:=[]}:Recv) (by rw[hll];exact hl) (λi=>by have:=ht (i+1);simp only[List.getElem?_cons_succ]at this;rw[this];congr 1;omega)
  refine⟨r2, ?_⟩
  have eo:((v0+(j:Int))%4294967296-x.next)%4294967296=(v0+(j:Int)-x.next)%4294967296:=by omega
  have hst:(bif (bif decide ((v0+(j:Int)-x.next)%4294967296<(w:Int))then bif x.fin== -1 then(true,())else(decide ((v0+(j:Int)-x.next)%4294967296<x.fin),())else(false,())).1 then(.next (({r with held:=[]}:Recv),(f7.f ((v0+(j:Int)-x.next)%4294967296,(b.toNat:Int),iK w sl,lU w sl,())).2,(f7.f ((v0+(j:Int)-x.next)%4294967296,(b.toNat:Int),iK w sl,lU w sl,())).1):Stp (Recv×List Int×List Bool) Empty)else .next (({r with held:=[]}:Recv),lU w sl,iK w sl))= .next (({r with held:=[]}:Recv),lU w (z8 x v0 (w:Int) sl j b),iK w (z8 x v0 (w:Int) sl j b)):=by
   have h0:0<=(v0+(j:Int)-x.next)%4294967296:=by omega
   unfold z8
   generalize(v0+(j:Int)-x.next)%4294967296=o at h0
   by_cases c1:o<(w:Int)
   ·rw[Kd w sl o _ h0 c1 hl (by omega)]
    unfold st1
    rw[decide_eq_true c1]
    by_cases c2:x.fin= -1
    ·rw[show(x.fin== -1)=true by simp[c2]]
     by_cases c3:sl.getD o.toNat 0<0
     ·rw[if_pos c3,if_pos ⟨c1,.inl (by omega),c3⟩];rfl
     ·rw[if_neg c3,if_neg (λh=>c3 h.2.2)];rfl
    ·rw[show(x.fin== -1)=false by simp[c2]]
     by_cases c4:o<x.fin
     ·rw[decide_eq_true c4]
      by_cases c3:sl.getD o.toNat 0<0
      ·rw[if_pos c3,if_pos ⟨c1,.inr c4,c3⟩];rfl
      ·rw[if_neg c3,if_neg (λh=>c3 h.2.2)];rfl
     ·rw[decide_eq_false c4,if_neg (show¬(o<(w:Int)/\(x.fin<0\/o<x.fin)/\sl.getD o.toNat 0<0) from λh=>h.2.1.elim (λh=>by omega) c4)];rfl
   ·rw[decide_eq_false c1,if_neg (show¬(o<(w:Int)/\(x.fin<0\/o<x.fin)/\sl.getD o.toNat 0<0) from λh=>c1 h.1)];rfl
  simp only[List.length_cons,aR,PX,nj,bO,qR,eo,aa,hbt,zm]
  rw[hst]
  simp only[Stp.elim]
  rw[show(j:Int)+1=((j+1:Nat):Int) by omega]
  simp only[PX,nj,bO,qR]at e
  exact e
theorem GU {f:Int->Recv->Stp Recv (Int×Recv)}{g:Recv->Recv}(w:Nat)(sl:List Int)(hl:w<=sl.length)(hf:∀(j:Nat) r,f (j:Int) r=bif (iK w sl).getD j false then .next (g r)else .out ((j:Int),g r))(i:Nat)(hi:i+aD (sl.drop i)<=w):∀(n j:Nat) (r:Recv),j+n=w->i<=j->j<=i+aD (sl.drop i)->∃r2,(i+aD (sl.drop i)<w/\aR f 1 n (j:Int) r= .out (((i+aD (sl.drop i):Nat):Int),r2))\/(i+aD (sl.drop i)=w/\aR f 1 n (j:Int) r= .next r2)
 |0,j,r,h,_,h2=>⟨r,.inr ⟨by omega,rfl⟩⟩
 |n+1,j,r,h,h1,h2=>by
  have hj:j<w:=by omega
  rcases Nat.eq_or_lt_of_le h2 with h3|h3
  ·refine⟨g r,.inl ⟨by omega, ?_⟩⟩
   have hjl:j<sl.length:=by omega
   have hneg:=DX (sl.drop i) sl[j] (by rw[List.getElem?_drop,show i+aD (sl.drop i)=j by omega];exact List.getElem?_eq_getElem hjl)
   simp only[aR,hf]
   rw[tE w sl j hj hl,getD_some (List.getElem?_eq_getElem hjl),decide_eq_false (by omega),<-h3]
   rfl
  ·obtain⟨s,hs1,lJ⟩:=r8 (sl.drop i) (j-i) (by omega)
   rw[List.getElem?_drop,show i+(j-i)=j by omega]at hs1
   obtain⟨r2,h4⟩:=GU (g:=g) w sl hl hf i hi n (j+1) (g r) (by omega) (by omega) (by omega)
   refine⟨r2, ?_⟩
   have e:aR f 1 (n+1) (j:Int) r=aR f 1 n ((j+1:Nat):Int) (g r):=by
    simp only[aR,hf]
    rw[tE w sl j hj hl,getD_some hs1,decide_eq_true lJ]
    simp only[cond_true,Stp.elim]
    rw[show(j:Int)+1=((j+1:Nat):Int) by omega]
   rw[e];exact h4
theorem y4:∀(k k':Nat) (i:Int) (r:List Int),r.length<=k->r.length<=k'->cx k i r=cx k' i r
 |0,k',_,r,h,_=>by
  have:r=[]:=List.eq_nil_of_length_eq_zero (by omega)
  subst this;cases k'<;>simp[cx]
 |k+1,0,_,r,_,h=>by
  have:r=[]:=List.eq_nil_of_length_eq_zero (by omega)
  subst this;simp[cx]
 |k+1,k'+1,i,[],_,_=>by simp[cx]
 |k+1,k'+1,i,s::r,h1,h2=>by
  simp only[List.length_cons]at h1 h2
  simp only[cx]
  have hd:(r.dropWhile (λx=>decide (0<=x))).length<=r.length:=(List.dropWhile_sublist _).length_le
  rw[y4 k k' (i+1) r (by omega) (by omega),y4 k k' _ (r.dropWhile (λx=>decide (0<=x))) (by omega) (by omega)]
theorem Qc (w:Nat)(sl:List Int)(i n:Nat)(h:i+n<=w)(hn:∀(j:Nat) (s:Int),i<=j->j<i+n->sl[j]? =some s->0<=s):((lU w sl).take (i+n)).drop i=(sl.drop i).take n:=by
 apply List.ext_getElem?
 intro k
 unfold lU
 rw[List.getElem?_drop,List.getElem?_take,List.getElem?_take,List.getElem?_drop,List.getElem?_map,List.getElem?_take]
 by_cases hk:k<n
 ·rw[if_pos (by omega),if_pos hk,if_pos (by omega)]
  cases hs:sl[i+k]? with
  |none=>rfl
  |some s=>
   have:=hn (i+k) s (by omega) (by omega) hs
   simp only[Option.map_some,if_neg (show¬s<0 by omega)]
 ·rw[if_neg (by omega),if_neg hk]
theorem Iz {p:Int->Bool}(r:List Int):r.take (r.takeWhile p).length=r.takeWhile p:=by
 have h:=List.takeWhile_append_dropWhile (p:=p) (l:=r)
 conv=>lhs;arg 2;rw[<-h]
 rw[List.take_left'];rfl
theorem JD {p:Int->Bool}(r:List Int):r.drop (r.takeWhile p).length=r.dropWhile p:=by
 have h:=List.takeWhile_append_dropWhile (p:=p) (l:=r)
 conv=>lhs;arg 2;rw[<-h]
 rw[List.drop_left'];rfl
theorem Uy (v4:Recv)(w:Nat)(sl:List Int)(hw:w<=32)(hl:sl.length=33)(hneg:∀(j:Nat) (s:Int),w<=j->sl[j]? =some s->s<0)(n:Nat):∀(m i:Nat) (r o:Recv),i<=w->w-i<m->n<=i->∃r2,ca (λa=>(fo (w:Int) (n:Int) v4 (iK w sl) (lU w sl) a).nice) m ((i:Int),r,o)=(r2,{o with held:=o.held++cx 33 ((i:Int)-(n:Int)) (sl.drop i)})
 |0,i,r,o,_,h,_=>by omega
 |m+1,i,r,o,hi,hm,hn=>by
  rcases Nat.eq_or_lt_of_le hi with h|h
  ·subst h
   refine⟨{r with held:=[]}, ?_⟩
   rw[JI 33 _ (sl.drop i) (λs hs=>by
    obtain⟨p,hp,rfl⟩:=List.getElem_of_mem hs
    rw[List.getElem_drop]
    exact hneg (i+p) _ (by omega) (List.getElem?_eq_getElem (by rw[List.length_drop]at hp;omega))),List.append_nil]
   simp only[ca,PX,fo,decide_eq_false (show¬((i:Int)<(i:Int)) by omega),cond_false,Stp.elim]
  ·have hil:i<sl.length:=by omega
   have hd:sl.drop i=sl[i]::sl.drop (i+1):=List.drop_eq_getElem_cons hil
   have hdl:(sl.drop (i+1)).length<=32:=by rw[List.length_drop];omega
   by_cases hs:sl[i]<0
   ·obtain⟨r2,e⟩:=Uy v4 w sl hw hl hneg n m (i+1) ({r with held:=[]}:Recv) o (by omega) (by omega) (by omega)
    refine⟨r2, ?_⟩
    rw[hd,show cx 33 ((i:Int)-(n:Int)) (sl[i]::sl.drop (i+1))=cx 33 (((i+1:Nat):Int)-(n:Int)) (sl.drop (i+1)) by
     rw[<-y4 32 33 _ (sl.drop (i+1)) hdl (by omega)]
     simp only[cx,if_pos hs]
     congr 1;omega]
    rw[<-e]
    rw[ca]
    rw[show(fo (w:Int) (n:Int) v4 (iK w sl) (lU w sl) ((i:Int),r,o)).nice= .next (((i+1:Nat):Int),({r with held:=[]}:Recv),o) by
     simp only[PX,fo,decide_eq_true (show((i:Int)<(w:Int)) by omega),cond_true,aa]
     rw[tE w sl i h (by omega),getD_some (List.getElem?_eq_getElem hil),decide_eq_false (by omega),aj (by omega) (by omega)]
     rfl]
    rfl
   ·have hlead:i+aD (sl.drop i)<=w:=by
     apply Nat.le_of_not_lt
     intro hc
     obtain⟨s,h1,h2⟩:=r8 (sl.drop i) (w-i) (by omega)
     rw[List.getElem?_drop,show i+(w-i)=w by omega]at h1
     have:=hneg w s (Nat.le_refl _) h1
     omega
    have hle:aD (sl.drop i)=1+((sl.drop (i+1)).takeWhile (λx=>decide (0<=x))).length:=by
     unfold aD
     rw[hd,List.takeWhile_cons,decide_eq_true (show 0<=sl[i] by omega)]
     simp only[if_true,List.length_cons];omega
    obtain⟨r1,e1⟩:=GU (g:=λr:Recv=>({r with held:=[]}:Recv)) (f:=λj a=>(nM (iK w sl) j a).nice) w sl (by omega) (λj r=>by
     simp only[PX,nM,aa]) i hlead (w-i) i ({r with held:=[]}:Recv) (by omega) (Nat.le_refl _) (by omega)
    have hseg:((lU w sl).take (i+aD (sl.drop i))).drop i=sl[i]::(sl.drop (i+1)).takeWhile (λx=>decide (0<=x)):=by
     rw[Qc w sl i (aD (sl.drop i)) hlead (λj s h1 h2 h3=>by
      obtain⟨s2,h4,h5⟩:=r8 (sl.drop i) (j-i) (by omega)
      rw[List.getElem?_drop,show i+(j-i)=j by omega,h3]at h4
      cases h4;exact h5)]
     have:aD (sl.drop i)=((sl.drop i).takeWhile (λx=>decide (0<=x))).length:=rfl
     rw[this,Iz,hd,List.takeWhile_cons,decide_eq_true (show 0<=sl[i] by omega)]
     rfl
    have hdd:sl.drop (i+aD (sl.drop i))=(sl.drop (i+1)).dropWhile (λx=>decide (0<=x)):=by
     rw[hle,<-Nat.add_assoc,<-List.drop_drop,JD]
    have hr:cx 33 ((i:Int)-(n:Int)) (sl.drop i)=⟨(i:Int)-(n:Int),az (sl[i]::(sl.drop (i+1)).takeWhile (λx=>decide (0<=x)))⟩::cx 33 (((i+aD (sl.drop i):Nat):Int)-(n:Int)) (sl.drop (i+aD (sl.drop i))):=by
     conv=>lhs;rw[hd]
     rw[hdd]
     have hdw:((sl.drop (i+1)).dropWhile (λx=>decide (0<=x))).length<=32:=Nat.le_trans (List.dropWhile_sublist _).length_le hdl
     rw[<-y4 32 33 _ _ hdw (by omega)]
     simp only[cx,if_neg hs]
     congr 2;omega
    rw[hr]
    have hstep:∃r3:Recv,(fo (w:Int) (n:Int) v4 (iK w sl) (lU w sl) ((i:Int),r,o)).nice= .next (((i+aD (sl.drop i):Nat):Int),r3,({o with held:=o.held++[⟨(i:Int)-(n:Int),az (sl[i]::(sl.drop (i+1)).takeWhile (λx=>decide (0<=x)))⟩]}:Recv)):=by
     simp only[PX,fo,decide_eq_true (show((i:Int)<(w:Int)) by omega),cond_true,aa,dS]
     rw[tE w sl i h (by omega),getD_some (List.getElem?_eq_getElem hil),decide_eq_true (show 0<=sl[i] by omega),aj (m:=(i:Int)-(n:Int)) (by omega) (by omega)]
     simp only[Bool.not_true,cond_false]
     rw[show Int.toNat ((w:Int)-(i:Int))=w-i by omega]
     rcases e1 with⟨h1,h2⟩|⟨h1,h2⟩
     ·rw[h2]
      simp only[Stp.elim,Sum.elim_inl,aa,hseg]
      exact⟨_,rfl⟩
     ·rw[h2]
      rw[h1]at hseg
      simp only[Stp.elim,Sum.elim_inr,h1]
      rw[show(i:Int)+1*((w-i:Nat):Int)=(w:Int) by omega,aa,hseg]
      exact⟨_,rfl⟩
    obtain⟨r3,hst⟩:=hstep
    obtain⟨r2,e⟩:=Uy v4 w sl hw hl hneg n m (i+aD (sl.drop i)) r3 ({o with held:=o.held++[⟨(i:Int)-(n:Int),az (sl[i]::(sl.drop (i+1)).takeWhile (λx=>decide (0<=x)))⟩]}:Recv) hlead (by omega) (by omega)
    refine⟨r2, ?_⟩
    rw[ca,hst]
    simp only[Stp.elim]
    rw[e]
    simp only[List.append_assoc,List.singleton_append]
def Gx (x:Recv)(w:Nat)(sl:List Int)(z o:Recv):Tr Recv:=
 .lp (dC ((w:Int),(aD sl:Int),(aD sl:Int),({z with held:=[]}:Recv),x,iK w sl,({o with held:=[]}:Recv),lU w sl,())).lp λp=>
  .ite (decide (3<(p.2.held.length:Int))) (.ret x)<| .ite (p.2.fin==0) (.val ((p.2.next+1)%4294967296) λc=> .ret (⟨c,p.2.data,p.2.held,-1,true⟩:Recv))<| .ret p.2
theorem OI (x:Recv)(w:Nat)(sl:List Int)(z o:Recv)(hw:w<=32)(hl:sl.length=33)(hneg:∀(j:Nat) (s:Int),w<=j->sl[j]? =some s->s<0)(hld:aD sl<=w):(Gx x w sl z o).nice=if 3<(cx 33 0 (sl.drop (aD sl))).length then x else if o.fin=0 then(⟨(o.next+1)%4294967296,o.data,cx 33 0 (sl.drop (aD sl)),-1,true⟩:Recv)else⟨o.next,o.data,cx 33 0 (sl.drop (aD sl)),o.fin,o.done⟩:=by
 obtain⟨r5,e5⟩:=Uy x w sl hw hl hneg (aD sl) (w-aD sl+1) (aD sl) ({z with held:=[]}:Recv) ({o with held:=[]}:Recv) hld (by omega) (Nat.le_refl _)
 rw[Int.sub_self]at e5
 simp only[Gx,PX,dC]
 rw[show Int.toNat ((w:Int)-(aD sl:Int))=w-aD sl by omega,e5]
 simp only[List.nil_append]
 by_cases h3:3<(cx 33 0 (sl.drop (aD sl))).length
 ·rw[if_pos h3,decide_eq_true (show(3:Int)<((cx 33 0 (sl.drop (aD sl))).length:Int) by omega)];rfl
 ·rw[if_neg h3,decide_eq_false (show¬(3:Int)<((cx 33 0 (sl.drop (aD sl))).length:Int) by omega)]
  by_cases h0:o.fin=0
  ·rw[if_pos h0,show(o.fin==0)=true by simp[h0]];rfl
  ·rw[if_neg h0,show(o.fin==0)=false by simp[h0]];rfl
theorem PD (x:Recv)(w:Nat)(sl:List Int)(z:Recv)(F f:Int)(hw:w<=32)(hl:sl.length=33)(hneg:∀(j:Nat) (s:Int),w<=j->sl[j]? =some s->s<0)(hld:aD sl<=w)(hF: -1<=F)(hdn:x.done=false)(hn:0<=x.next)(hf:(F= -1/\f=F)\/(F≠-1/\f=F-(aD sl:Int))):(Gx x w sl z (⟨(x.next+(aD sl:Int))%4294967296,x.data++az (sl.take (aD sl)),x.held,f,false⟩:Recv)).nice=QV x sl F:=by
 rw[OI x w sl z _ hw hl hneg hld]
 unfold QV
 by_cases h3:3<(cx 33 0 (sl.drop (aD sl))).length
 ·rw[if_pos h3,if_pos h3]
 ·rw[if_neg h3,if_neg h3]
  simp only[]
  rcases hf with⟨h1,h2⟩|⟨h1,h2⟩
  ·rw[if_neg (show¬f=0 by omega),if_neg (show¬F-(aD sl:Int)=0 by omega),if_pos h1,h2,h1,hdn]
  ·by_cases h4:F-(aD sl:Int)=0
   ·rw[if_pos (show f=0 by omega),if_pos h4,show((x.next+(aD sl:Int))%4294967296+1)%4294967296=(x.next+(aD sl:Int)+1)%4294967296 by omega]
   ·rw[if_neg (show¬f=0 by omega),if_neg h4,if_neg h1,h2,hdn]
theorem Ml {α β:Type}{K:α->β}{r:β}{s:α⊕α}(P:α->Prop)(hs:Sum.elim P P s)(h:∀z,P z->K z=r):Sum.elim K K s=r:=by
 cases s with
 |inl a=>exact h a hs
 |inr a=>exact h a hs
theorem acs (x:Recv)(hx:RV x):∃w:Nat,pd x=(w:Int)/\w<=32:=by
 have:=pT x hx.dl
 exact⟨(pd x).toNat,by omega,by omega⟩
theorem KO (xs:List Bool)(t:Bool):pU.f (xs,t,())=gk (λb=>t==b) xs:=by
 simp only[PX,pU,ji]
 rw[lL (λb=>t==b) xs (λj x a h=>by
  simp only[PX,rV,aa,getD_some h])]
 unfold gk
 cases xs.findIdx? (λb=>t==b)<;>rfl
theorem DB (xs:List Bool)(t:Bool):eI.f (xs,t,())=xs.any (λb=>t==b):=by
 simp only[PX,eI,KO,oh]
theorem N2 (x:Recv)(seq:Int)(t:ac)(fin:Bool)(hs:bS x.held):tv.f (x,seq,t,fin,())=mS x seq t fin:=by
 simp only[PX,tv,vn]
 unfold mS
 cases hok:bB.f (x,())with
 |false=>rfl
 |true=>
 cases hdn:x.done with
 |true=>rfl
 |false=>
 have hx:=(rm x hs).1 hok
 have hpo:dP po x.held:=HQ x hx
 obtain⟨w,hwe,hw⟩:=acs x hx
 have hsl:=Ii x hx seq t
 have hn0:=hx.n0
 have hn1:=hx.n1
 have hf0:=hx.f0
 have hf1:=hx.f1
 obtain⟨bb,hwk⟩:=hx.wk
 simp only[Bool.not_true,cond_false,gS x hx.dl,hwe,fv,fk,aa]
 have z1:List.replicate w (0:Int)=lU w (List.replicate 33 (-1)):=by
  unfold lU;rw[List.take_replicate,Nat.min_eq_left (by omega),List.map_replicate];rfl
 have z2:List.replicate w false=iK w (List.replicate 33 (-1)):=by
  unfold iK;rw[List.take_replicate,Nat.min_eq_left (by omega),List.map_replicate];rfl
 rw[z1,z2]
 obtain⟨r1,e1⟩:=Vi seq t fin (w:Int) x.held (x.held.length:Int) x x w (by omega) x.held 0 0 bb _ (List.replicate 33 (-1)) (⟨0,[],[],0,false⟩:Recv) hwk (Int.le_refl _) (by split<;>omega) (by rw[List.length_replicate];omega) (λj s _ h=>by
  have:=List.eq_of_mem_replicate (List.mem_of_getElem? h);omega) (λp hp=>by have:=hpo p hp;unfold po at this;omega)
 rw[bA x.held _ (av _) (F:=λ_ p (a:Recv×List Int×List Bool)=>(gL seq t fin (w:Int) [p] (x.held.length:Int) x x 0 a).nice) (by
  intro j p a hp
  simp only[PX,gL,di,aa,getD_some hp,show Int.toNat 0=0 from rfl,List.getD_cons_zero])]
 rw[e1]
 simp only[Stp.elim]
 have hsn:x.held.foldl (λsl p=>qD sl p.off.toNat p.text) (List.replicate 33 (-1))=nU x.held:=rfl
 rw[hsn]
 obtain⟨r2,e2⟩:=aaJ seq t x w (by omega) hf0 t 0 (nU x.held) ({r1 with held:=[]}:Recv) (by unfold nU;rw[qH,List.length_replicate];omega) (λi=>by rw[Nat.zero_add])
 rw[show((0:Nat):Int)=0 from rfl]at e2
 rw[av,e2]
 simp only[Stp.elim,bO,qR]
 have hL:zm x seq (w:Int) (nU x.held) 0 t=Io x seq t:=by unfold Io;rw[hwe]
 rw[hL]
 have hL2:zm x seq (pd x) (nU x.held) 0 t=Io x seq t:=rfl
 rw[hL2]at hsl
 have ee:((seq+(t.length:Int))%4294967296-x.next)%4294967296=(seq+(t.length:Int)-x.next)%4294967296:=by omega
 rw[ee]
 have he0:0<=(seq+(t.length:Int)-x.next)%4294967296:=by omega
 generalize(seq+(t.length:Int)-x.next)%4294967296=e at he0
 generalize Io x seq t=sl at hsl
 clear e1 e2 hL hL2 hsn z1 z2 ee
 obtain⟨hl,hat⟩:=hsl
 have hneg:∀(j:Nat) (s:Int),w<=j->sl[j]? =some s->s<0:=λj s hj h=>by
  apply Int.not_le.1
  intro h0
  have:=(hat j s h).2.2 h0
  rw[hwe]at this hf1
  split at this<;>omega
 have hany:(iK w sl).drop e.toNat=((sl.drop e.toNat).take (w-e.toNat)).map (λs=>decide (0<=s)):=by
  unfold iK
  rw[<-List.map_drop,List.drop_take]
 have hcont:e<=(w:Int)->eI.f (((iK w sl).take (iK w sl).length).drop e.toNat,true,())= !(sl.drop e.toNat).all (λs=>decide (s<0)):=by
  intro hew
  rw[List.take_length,DB,hany]
  rw[Bool.eq_iff_iff]
  simp only[List.any_eq_true,List.mem_map,Bool.not_eq_true',List.all_eq_false]
  constructor
  ·rintro⟨b,⟨s,hs1,rfl⟩,hb⟩
   refine⟨s,List.mem_of_mem_take hs1, ?_⟩
   simp at hb|-;omega
  ·rintro⟨s,hs1,lJ⟩
   refine⟨true,⟨s, ?_, ?_⟩,rfl⟩
   ·obtain⟨k,hk,rfl⟩:=List.getElem_of_mem hs1
    rw[List.getElem_drop]at lJ|-
    have hk2:e.toNat+k<w:=by
     apply Nat.lt_of_not_le
     intro hc
     have:=hneg (e.toNat+k) _ hc (List.getElem?_eq_getElem (by rw[List.length_drop]at hk;omega))
     simp at lJ;omega
    rw[List.mem_take_iff_getElem]
    refine⟨k,by rw[List.length_drop];omega, ?_⟩
    rw[List.getElem_drop]
   ·simp at lJ|-;omega
 have hF0: -1<=G5 x sl e fin:=by unfold G5;split<;>omega
 have hF1:G5 x sl e fin<=(w:Int):=by unfold G5;rw[hwe]at hf1|-;split<;>omega
 have hcond:(bif (bif fin then bif x.fin== -1 then bif decide (e<=(w:Int))then(!eI.f (((iK w sl).take (iK w sl).length).drop e.toNat,true,()),())else(false,())else(false,())else(false,())).1 then((w:Int),x,({r2 with held:=[]}:Recv),x,iK w sl,(⟨x.next,x.data,x.held,e,false⟩:Recv),lU w sl,())else((w:Int),x,({r2 with held:=[]}:Recv),x,iK w sl,x,lU w sl,()))=((w:Int),x,({r2 with held:=[]}:Recv),x,iK w sl,(⟨x.next,x.data,x.held,G5 x sl e fin,x.done⟩:Recv),lU w sl,()):=by
  unfold G5
  cases fin with
  |false=>simp
  |true=>
   by_cases c1:x.fin= -1
   ·rw[show(x.fin== -1)=true by simp[c1]]
    by_cases c2:e<=(w:Int)
    ·rw[decide_eq_true c2,hcont c2,hwe]
     cases hall:(sl.drop e.toNat).all (λs=>decide (s<0))with
     |true=>simp only[cond_true,Bool.not_true,Bool.not_false,true_and,if_pos (show x.fin<0/\e<=(w:Int)/\True from⟨by omega,c2,trivial⟩),hdn]
     |false=>simp
    ·rw[decide_eq_false c2,hwe,if_neg (λh=>c2 h.2.2.1)];rfl
   ·rw[show(x.fin== -1)=false by simp[c1],if_neg (λh=>by have:=h.2.1;omega)];rfl
 have hld0:aD sl<=w:=by
  apply Nat.le_of_not_lt
  intro hc
  obtain⟨s,h1,h2⟩:=r8 sl w hc
  have:=hneg w s (Nat.le_refl _) h1
  omega
 obtain⟨r3,e3⟩:=GU (g:=λr:Recv=>({r with held:=[]}:Recv)) (f:=λj a=>(qV (iK w sl) j a).nice) w sl (by omega) (λj r=>by
  simp only[PX,qV,aa]) 0 (by rw[List.drop_zero,Nat.zero_add];exact hld0) w 0 ({r2 with held:=[]}:Recv) (by omega) (Nat.le_refl _) (Nat.zero_le _)
 rw[List.drop_zero,Nat.zero_add,show((0:Nat):Int)=0 from rfl]at e3
 have hdat:az (((lU w sl).take (aD sl)).drop 0)=az (sl.take (aD sl)):=by
  have:=Qc w sl 0 (aD sl) (by omega) (λj s _ h2 h3=>by
   obtain⟨s2,h4,h5⟩:=r8 sl j (by omega)
   rw[h3]at h4;cases h4;exact h5)
  rw[Nat.zero_add]at this
  rw[this,List.drop_zero]
 generalize hF:G5 x sl e fin=F at hF0 hF1 hcond|-
 generalize(bif fin then bif x.fin== -1 then bif decide (e<=(w:Int))then(!eI.f (((iK w sl).take (iK w sl).length).drop e.toNat,true,()),())else(false,())else(false,())else(false,())).1=b at hcond|-
 rw[if_pos (⟨trivial,trivial⟩:True/\True)]
 have hE:∀(z:Recv),(Gx x w sl z (⟨(x.next+(aD sl:Int))%4294967296,x.data++az (sl.take (aD sl)),x.held,if F= -1 then F else F-(aD sl:Int),false⟩:Recv)).nice=QV x sl F:=λz=>PD x w sl z F _ hw hl hneg hld0 hF0 hdn hn0 (by
  by_cases hh:F= -1
  ·exact .inl ⟨hh,if_pos hh⟩
  ·exact .inr ⟨hh,if_neg hh⟩)
 have hwr:IntKind.wrap .i64 (F-(aD sl:Int))=F-(aD sl:Int):=aj (by omega) (by omega)
 cases b with
 |true=>
  simp only[cond_true]at hcond|-
  have hfin:e=F:=(by simpa using congrArg (λp=>p.2.2.2.2.2.1.fin) hcond)
  clear hcond
  dsimp only[Tr.nice]
  simp only[PX,ep,hfin]
  rw[show Int.toNat ((w:Int)-0)=w by omega]
  rcases e3 with⟨h1,h2⟩|⟨h1,h2⟩<;>refine(congrArg (Stp.elim _ _) h2).trans ?_ <;>simp only[Stp.elim]<;>refine Ml (λz:Int×Recv=>z.1=(aD sl:Int)) (by first|rfl|(show(0:Int)+1*((w:Nat):Int)=_;omega)) ?_ <;>rintro⟨z1,z2⟩ hz<;>simp only[]at hz<;>subst hz<;>simp only[Bx,aa,hdat,hwr]<;>by_cases hF2:F= -1
  all_goals (have hE2:=hE z2)
  all_goals (first|rw[if_pos hF2]at hE2|rw[if_neg hF2]at hE2)
  ·rw[show(F != -1)=false by simp[hF2]];exact hE2
  ·rw[show(F != -1)=true by simp[hF2]];exact hE2
  ·rw[show(F != -1)=false by simp[hF2]];exact hE2
  ·rw[show(F != -1)=true by simp[hF2]];exact hE2
 |false=>
  simp only[cond_false]at hcond|-
  have hfin:x.fin=F:=(by simpa using congrArg (λp=>p.2.2.2.2.2.1.fin) hcond)
  clear hcond
  dsimp only[Tr.nice]
  simp only[PX,ep,hfin,hdn]
  rw[show Int.toNat ((w:Int)-0)=w by omega]
  rcases e3 with⟨h1,h2⟩|⟨h1,h2⟩<;>refine(congrArg (Stp.elim _ _) h2).trans ?_ <;>simp only[Stp.elim]<;>refine Ml (λz:Int×Recv=>z.1=(aD sl:Int)) (by first|rfl|(show(0:Int)+1*((w:Nat):Int)=_;omega)) ?_ <;>rintro⟨z1,z2⟩ hz<;>simp only[]at hz<;>subst hz<;>simp only[Bx,aa,hdat,hwr]<;>by_cases hF2:F= -1
  all_goals (have hE2:=hE z2)
  all_goals (first|rw[if_pos hF2]at hE2|rw[if_neg hF2]at hE2)
  ·rw[show(F != -1)=false by simp[hF2]];exact hE2
  ·rw[show(F != -1)=true by simp[hF2]];exact hE2
  ·rw[show(F != -1)=false by simp[hF2]];exact hE2
  ·rw[show(F != -1)=true by simp[hF2]];exact hE2
theorem UJ (s:Sndr)(ack:Int):Gu.f (s,ack,())=if sY s ack=true then(cC s (rC ack s.una),true)else(s,false):=by
 simp only[PX,Gu,uM,ar,bO]
 unfold sY
 cases hk:br.f (s,())with
 |false=>rfl
 |true=>
  have hs:=(Ip s).1 hk
  simp only[th s hs]
  obtain⟨e1,e2,e3,e4,e5,e6,e7⟩:=hs
  generalize rC ack s.una=n
  simp only[Bool.not_true,cond_false,Bool.true_and]
  by_cases hn:0<=n/\n<=GB s
  ·rw[decide_eq_true hn.1,decide_eq_true hn.2]
   simp only[Bool.and_self,Bool.not_true,cond_false,if_true]
   have hfl:=hn.2
   unfold GB at hfl
   unfold cC
   by_cases hc:s.sent<n
   ·have hf:s.finSent=true:=by
     cases hfs:s.finSent with
     |true=>rfl
     |false=>rw[hfs]at hfl;simp only[Bool.false_eq_true,if_false]at hfl;omega
    have hl:=(e6 hf).2
    rw[hf]at hfl;simp only[if_true]at hfl
    have e:(if(s.data.length:Int)<n then(s.data.length:Int)else n)=s.sent:=by rw[if_pos (by omega)];omega
    simp only[if_pos hc,e]
    rw[aj (m:=s.sent+1) (by omega) (by omega),show(n==s.sent+1)=true by simp;omega,aj (by omega) (by omega)]
    simp only[PX,aa,List.take_length,cond_true]
   ·have e:(if(s.data.length:Int)<n then(s.data.length:Int)else n)=n:=by rw[if_neg (by omega)]
    simp only[if_neg hc,e]
    rw[aj (m:=s.sent+1) (by omega) (by omega),show(n==s.sent+1)=false by simp;omega,aj (by omega) (by omega)]
    simp only[PX,aa,List.take_length,cond_false]
  ·have e:(decide (0<=n)&&decide (n<=GB s))=false:=by
    rw[Bool.and_eq_false_iff];simp only[decide_eq_false_iff_not];omega
   rw[e];rfl
theorem Ta (w sc:Int)(h0:0<=w)(h1:w<=65535)(h2:sc<=14):IntKind.wrap .i64 (w*2 ^ (min (if sc<0 then 0 else sc).toNat 64))=iu w sc/\iu w sc<=1073725440:=by
 have hr:=Kf w sc h0 h1 h2
 have hk:(if sc<0 then 0 else sc).toNat<=14:=by split<;>omega
 rw[Nat.min_eq_left (by omega)]
 unfold iu at hr|-
 exact⟨aj (by omega) (by omega),hr.2⟩
theorem Ez (w:Int)(o:Opti)(h0:0<=w)(h1:w<=65535)(h2:o.scale<=14):wC.f (w,o,())=iu w o.scale:=by
 obtain⟨e1,e2⟩:=Ta w o.scale h0 h1 h2
 simp only[PX,wC,e1]
 rw[if_neg (by omega)]
theorem Js (n:Int)(h0:0<=n)(h1:n<=100):IntKind.wrap .u64 n=n:=by rw[yG];omega
theorem MD (x:Conn):bR.f (x,())=(bR.f ({x with tries:=0},())&&(decide (0<=x.tries)&&decide (x.tries<=3))):=by
 rw[JQ,JQ]
 simp only[]
 generalize aG.f (x.tuple,())=b1
 generalize br.f (x.s,())=b2
 generalize bB.f (x.r,())=b3
 generalize aF.f (x.opts,())=b4
 generalize(decide (1<=x.state)&&decide (x.state<=8))=b5
 generalize(decide (0<=x.most)&&decide (x.most<=1073725440))=b6
 generalize(decide (0<=x.window)&&decide (x.window<=x.most))=b7
 generalize(decide (0<=x.timer)&&bif x.state==7 then decide (x.timer<=4)else decide (x.timer<=3))=b8
 generalize(decide (0<=x.tries)&&decide (x.tries<=3))=b9
 generalize Z2 x.state x.s.fin x.s.done x.r.done=b10
 have z:(decide ((0:Int)<=0)&&decide ((0:Int)<=3))=true:=rfl
 rw[z]
 cases b1<;>cases b2<;>cases b3<;>cases b4<;>cases b5<;>cases b6<;>cases b7<;>cases b8<;>simp[Bool.and_comm]
def Ve (x:Conn)(k:Int):Conn:=bif (bif !bR.f ({x with state:=k,timer:=0},())then(true,())else(!(decide (0<=x.timer)&&decide (x.timer<=4)),())).1 then x else bif k==7 then{x with state:=k,timer:=4,tries:=0}else bif k==8 then{x with state:=k,timer:=0,tries:=0}else{x with state:=k}
theorem TP (x:Conn)(hk:nE x.state x.s.done x.r.done≠x.state):Ve x (nE x.state x.s.done x.r.done)=du x:=by
 unfold Ve du I9
 rw[MD]
 simp only[]
 generalize nE x.state x.s.done x.r.done=k at hk
 rw[if_neg hk]
 generalize(decide (0<=x.timer)&&decide (x.timer<=4))=b1
 generalize(decide (0<=x.tries)&&decide (x.tries<=3))=b2
 cases bR.f (({x with state:=k,timer:=0,tries:=0}:Conn),())with
 |false=>rfl
 |true=>
 cases b1 with
 |false=>cases b2<;>rfl
 |true=>
 cases b2 with
 |false=>rfl
 |true=>
 simp only[Bool.not_true,cond_false,Bool.and_self,if_true]
 by_cases h7:k=7
 ·subst h7;rfl
 ·rw[if_neg h7,show(k==7)=false by simp[h7]]
  simp only[cond_false]
  by_cases h8:k=8
  ·subst h8;rfl
  ·rw[if_neg h8,show(k==8)=false by simp[h8]];rfl
theorem Oe (x:Conn)(hk:nE x.state x.s.done x.r.done=x.state):du x=x:=by
 unfold du
 split
 ·rfl
 ·rfl
theorem EY (x:Conn):qx.f (x,())=du x:=by
 simp only[PX,qx,dJ,ar]
 have t1:=TP x
 have t2:=Oe x
 have hst:x.state=1\/x.state=2\/x.state=3\/x.state=5\/x.state=6\/(x.state≠1/\x.state≠2/\x.state≠3/\x.state≠5/\x.state≠6):=by omega
 rcases hst with h|h|h|h|h|⟨h1,h2,h3,h5,h6⟩
 case inr.inr.inr.inr.inr=>
  have e:nE x.state x.s.done x.r.done=x.state:=by
   unfold nE;rw[if_neg h1,if_neg h2,if_neg h3,if_neg h5,if_neg h6]
  rw[t2 e,show(x.state==1)=false by simp[h1],show(x.state==2)=false by simp[h2],show(x.state==3)=false by simp[h3],show(x.state==5)=false by simp[h5],show(x.state==6)=false by simp[h6]]
  rfl
 all_goals (rw[h]at t1 t2|-;cases hs:x.s.done<;>cases hr:x.r.done<;>rw[hs,hr]at t1 t2<;>first|exact(t2 rfl).symm|exact t1 (by decide))
structure V5 (c:Conn)(g:Segm):Prop where
 co:CO c
 s8:c.state≠8
 sg:ai.f (g,())=true
 n4:bm.f (g,4,())=false
 n2:bm.f (g,2,())=false
 fit:Re c g.ack=true
theorem vd5 (c:Conn)(g:Segm)(h:Dd c g=5):V5 c g:=by
 unfold Dd at h
 cases h1:bR.f (c,())with
 |false=>rw[h1]at h;simp at h
 |true=>
 cases h2:(c.state==8)with
 |true=>rw[h1,h2]at h;simp at h
 |false=>
 cases h3:ai.f (g,())with
 |false=>rw[h1,h2,h3]at h;simp at h
 |true=>
 rw[h1,h2,h3]at h
 simp only[Bool.not_false,Bool.and_self,cond_true]at h
 cases h4:bm.f (g,4,())with
 |true=>
  rw[h4]at h
  simp only[cond_true]at h
  exfalso;revert h
  cases(g.seq==c.r.next)<;>cases uq g.seq c.r.next (pd c.r)<;>simp
 |false=>
 rw[h4]at h
 simp only[cond_false]at h
 cases h5:bm.f (g,2,())with
 |true=>rw[h5]at h;simp at h
 |false=>
 rw[h5]at h
 simp only[cond_false]at h
 refine⟨(Hk c).1 h1,by simpa using h2,h3,h4,h5, ?_⟩
 revert h
 cases S0 c g<;>cases bm.f (g,16,())<;>cases Re c g.ack<;>simp
theorem bo (g:Segm):ai.f (g,())=true↔((0<=g.from_/\g.from_<=65535)/\(0<=g.to/\g.to<=65535)/\(0<=g.seq/\g.seq<=4294967295)/\(0<=g.ack/\g.ack<=4294967295)/\(0<=g.flags/\g.flags<=63)/\(0<=g.window/\g.window<=65535)/\aF.f (g.opts,())=true/\g.body.length<=1420):=by
 simp only[PX,ai,cQ,bU,SR]
 rw[show((g.body.length<=1420)↔decide (((g.body.length:Nat):Int)<=1420)=true) by simp;omega]
 simp only[<-Bool.decide_and,Bool.cond_eq_ite,Bool.if_false_right,Bool.decide_eq_true,Bool.and_eq_true,decide_eq_true_eq]
 constructor
 ·rintro⟨a,b,w,s,k,f,o,bd⟩;exact⟨a,b,s,k,f,w,o,bd⟩
 ·rintro⟨a,b,s,k,f,w,o,bd⟩;exact⟨a,b,w,s,k,f,o,bd⟩
theorem Yp (a b:Int):kX.f (a,b,())=if a<b then a else b:=nY a b
theorem IY (a b:Int):fM.f (a,b,())=if b<a then a else b:=rq a b
theorem O5 (w sc:Int)(h0:0<=w)(h1:w<=65535)(h2:sc<=14):kX.f (1073725440,IntKind.wrap .i64 (w*2 ^ (min (IntKind.wrap .u64 (fM.f (0,sc,()))).toNat 64)),())=iu w sc:=by
 obtain⟨e1,e2⟩:=Ta w sc h0 h1 h2
 rw[IY,show(if sc<0 then(0:Int)else sc)=(if sc<0 then 0 else sc) from rfl,Js _ (by split<;>omega) (by split<;>omega),e1,Yp,if_neg (by omega)]
theorem Iu (a b f k:Int):(bif a != b then(k != 7,())else bif f==0 then(k != 7,())else(false,())).1=decide ((a≠b\/f=0)/\k≠7):=by
 cases h1:(a != b)<;>cases h2:(f==0)<;>cases h3:(k != 7)<;>simp_all
theorem LX (x:Recv)(seq:Int)(t:ac)(fin:Bool)(hx:RV x):bS (mS x seq t fin).held:=(Jx x seq t fin hx).small
theorem Tw (c:Conn)(g:Segm)(hs:bS c.r.held):B8.f (c,g,())=if Dd c g=5 then fC c g else c:=by
 simp only[PX,B8,nI,Bp c g hs]
 by_cases hv:Dd c g=5
 ·rw[if_pos hv,show(Dd c g != 5)=false by simp[hv]]
  have h:=vd5 c g hv
  have hr:=(rm c.r hs).1 h.co.rcv
  have hb:=gE g h.sg
  have hw:=((bo g).1 h.sg).2.2.2.2.2.1
  have hsc:=(eM c.opts h.co.opt).2
  have hS:=O5 g.window c.opts.scale hw.1 hw.2 hsc
  have tl:∀u:Conn,u.r=c.r->(bif cm.f (c.state,1,3,())then qG.f (({u with r:=tQ.f (c.r,g.seq,g.body,gg.f (g,1,()),())}:Conn),())else qG.f (u,()))=if 1<=c.state/\c.state<=3 then du {u with r:=mS c.r g.seq g.body (gg.f (g,1,()))}else du u:=by
   intro u hu
   rw[MW c.r _ _ _ hs (by omega),EN u (by rw[hu];exact hs),EN _ (LX c.r _ _ _ hr),bx]
   by_cases h3:1<=c.state/\c.state<=3
   ·rw[if_pos h3,decide_eq_true h3.1,decide_eq_true h3.2];rfl
   ·rw[if_neg h3,show(decide (1<=c.state)&&decide (c.state<=3))=false by rw[Bool.and_eq_false_iff];simp only[decide_eq_false_iff_not];omega];rfl
  simp only[Ua,cond_false]
  unfold fC t7
  by_cases ha:sY c.s g.ack=true
  ·have hso:=HX c.s h.co.snd (rC g.ack c.s.una) (by
    unfold sY at ha;simp only[Bool.and_eq_true,decide_eq_true_eq]at ha;exact ha.2.1) (by
    unfold sY at ha;simp only[Bool.and_eq_true,decide_eq_true_eq]at ha;exact ha.2.2)
   have hM:fM.f (c.most,iu g.window c.opts.scale,())=if c.most<iu g.window c.opts.scale then iu g.window c.opts.scale else c.most:=by
    rw[IY];split<;>split<;>omega
   simp only[if_pos ha,cond_true,xz,th _ hso.1,hS,hM]
   have hcnd:(bif (cC c.s (rC g.ack c.s.una)).una != c.s.una then(c.state != 7,())else bif GB (cC c.s (rC g.ack c.s.una))==0 then(c.state != 7,())else(false,())).1=decide (((cC c.s (rC g.ack c.s.una)).una≠c.s.una\/GB (cC c.s (rC g.ack c.s.una))=0)/\c.state≠7):=Iu _ _ _ _
   rw[hcnd]
   have tl2:=λ(t r:Int)=>tl ({c with s:=cC c.s (rC g.ack c.s.una),window:=iu g.window c.opts.scale,most:=(if c.most<iu g.window c.opts.scale then iu g.window c.opts.scale else c.most),timer:=t,tries:=r}:Conn) rfl
   by_cases hq:((cC c.s (rC g.ack c.s.una)).una≠c.s.una\/GB (cC c.s (rC g.ack c.s.una))=0)/\c.state≠7
   ·simp only[decide_eq_true hq,if_pos hq,cond_true]
    by_cases h0:0<GB (cC c.s (rC g.ack c.s.una))
    ·simp only[decide_eq_true h0,if_pos h0,cond_true]
     dsimp only[Tr.nice]
     exact tl2 3 0
    ·simp only[decide_eq_false h0,if_neg h0,cond_false]
     dsimp only[Tr.nice]
     exact tl2 0 0
   ·simp only[decide_eq_false hq,if_neg hq,cond_false]
    dsimp only[Tr.nice]
    exact tl2 c.timer c.tries
  ·simp only[if_neg ha,cond_false]
   dsimp only[Tr.nice]
   exact tl c rfl
 ·rw[if_neg hv,show(Dd c g != 5)=true by simp[hv]];rfl
theorem UD (c:Conn)(g:Segm)(hs:bS c.r.held):B5.f (c,g,())=if Dd c g=5 then fC c g else c:=by
 simp only[PX,B5,dJ,Cy c g hs]
 by_cases hv:Dd c g=5
 ·rw[if_pos hv,show(Dd c g != 5)=false by simp[hv]]
  have h:=vd5 c g hv
  have hr:=(rm c.r hs).1 h.co.rcv
  have hw:=((bo g).1 h.sg).2.2.2.2.2.1
  have hsc:=(eM c.opts h.co.opt).2
  have tl:∀u:Conn,u.r=c.r->(bif (bif c.state==1 then(true,())else bif c.state==2 then(true,())else(c.state==3,())).1 then qx.f (({u with r:=tv.f (c.r,g.seq,g.body,bm.f (g,1,()),())}:Conn),())else qx.f (u,()))=if 1<=c.state/\c.state<=3 then du {u with r:=mS c.r g.seq g.body (gg.f (g,1,()))}else du u:=by
   intro u hu
   rw[N2 c.r _ _ _ hs,EY u,EY,Mf]
   have hk:(bif c.state==1 then(true,())else bif c.state==2 then(true,())else(c.state==3,())).1=decide (1<=c.state/\c.state<=3):=by
    by_cases k1:c.state=1
    ·simp[k1]
    ·by_cases k2:c.state=2
     ·simp[k2]
     ·by_cases k3:c.state=3
      ·simp[k3]
      ·rw[show(c.state==1)=false by simp[k1],show(c.state==2)=false by simp[k2],show(c.state==3)=false by simp[k3],decide_eq_false (by omega)];rfl
   rw[hk]
   by_cases h3:1<=c.state/\c.state<=3
   ·rw[if_pos h3,decide_eq_true h3];rfl
   ·rw[if_neg h3,decide_eq_false h3];rfl
  simp only[UJ,cond_false]
  unfold fC t7
  by_cases ha:sY c.s g.ack=true
  ·have hso:=HX c.s h.co.snd (rC g.ack c.s.una) (by
    unfold sY at ha;simp only[Bool.and_eq_true,decide_eq_true_eq]at ha;exact ha.2.1) (by
    unfold sY at ha;simp only[Bool.and_eq_true,decide_eq_true_eq]at ha;exact ha.2.2)
   simp only[if_pos ha,cond_true,th _ hso.1,Ez _ _ hw.1 hw.2 hsc]
   have hcnd:(bif (cC c.s (rC g.ack c.s.una)).una != c.s.una then(c.state != 7,())else bif GB (cC c.s (rC g.ack c.s.una))==0 then(c.state != 7,())else(false,())).1=decide (((cC c.s (rC g.ack c.s.una)).una≠c.s.una\/GB (cC c.s (rC g.ack c.s.una))=0)/\c.state≠7):=Iu _ _ _ _
   rw[hcnd]
   have tl2:=λ(t r:Int)=>tl ({c with s:=cC c.s (rC g.ack c.s.una),window:=iu g.window c.opts.scale,most:=(if c.most<iu g.window c.opts.scale then iu g.window c.opts.scale else c.most),timer:=t,tries:=r}:Conn) rfl
   by_cases hq:((cC c.s (rC g.ack c.s.una)).una≠c.s.una\/GB (cC c.s (rC g.ack c.s.una))=0)/\c.state≠7
   ·simp only[decide_eq_true hq,if_pos hq,cond_true]
    by_cases h0:0<GB (cC c.s (rC g.ack c.s.una))
    ·simp only[decide_eq_true h0,if_pos h0,cond_true]
     dsimp only[Tr.nice]
     exact tl2 3 0
    ·simp only[decide_eq_false h0,if_neg h0,cond_false]
     dsimp only[Tr.nice]
     exact tl2 0 0
   ·simp only[decide_eq_false hq,if_neg hq,cond_false]
    dsimp only[Tr.nice]
    exact tl2 c.timer c.tries
  ·simp only[if_neg ha,cond_false]
   dsimp only[Tr.nice]
   exact tl c rfl
 ·rw[if_neg hv,show(Dd c g != 5)=true by simp[hv]];rfl
structure H1 (c u:Conn):Prop where
 tup:u.tuple=c.tuple
 st:u.state=c.state
 op:u.opts=c.opts
 rr:u.r=c.r
 so:SO u.s
 fin:u.s.fin=c.s.fin
 dn:c.s.done=true->u.s.done=true
 m0:0<=u.most
 m1:u.most<=1073725440
 w0:0<=u.window
 w1:u.window<=u.most
 t0:0<=u.timer
 t4:u.timer<=4
 t3:c.state≠7->u.timer<=3
 r0:0<=u.tries
 r3:u.tries<=3
theorem XN (c:Conn)(g:Segm)(h:V5 c g):H1 c (t7 c g):=by
 have hc:=h.co
 have hw:=((bo g).1 h.sg).2.2.2.2.2.1
 have hsc:=(eM c.opts hc.opt).2
 have hr:=Kf g.window c.opts.scale hw.1 hw.2 hsc
 have a1:=hc.m0
 have a2:=hc.m1
 have a3:=hc.w0
 have a4:=hc.w1
 have a5:=hc.t0
 have a6:=hc.t4
 have a7:=hc.r0
 have a8:=hc.r3
 unfold t7
 split
 ·rename_i ha
  have hso:=HX c.s hc.snd (rC g.ack c.s.una) (by
    unfold sY at ha;simp only[Bool.and_eq_true,decide_eq_true_eq]at ha;exact ha.2.1) (by
    unfold sY at ha;simp only[Bool.and_eq_true,decide_eq_true_eq]at ha;exact ha.2.2)
  split
  ·refine⟨rfl,rfl,rfl,rfl,hso.1,hso.2.1,hso.2.2, ?_, ?_,hr.1, ?_, ?_, ?_,λ_=> ?_,Int.le_refl _,by show(0:Int)<=3;omega⟩
   ·show 0<=(if c.most<iu g.window c.opts.scale then iu g.window c.opts.scale else c.most);split<;>omega
   ·show(if c.most<iu g.window c.opts.scale then iu g.window c.opts.scale else c.most)<=1073725440;split<;>omega
   ·show iu g.window c.opts.scale<=(if c.most<iu g.window c.opts.scale then iu g.window c.opts.scale else c.most);split<;>omega
   ·show 0<=(if 0<GB (cC c.s (rC g.ack c.s.una))then(3:Int)else 0);split<;>omega
   ·show(if 0<GB (cC c.s (rC g.ack c.s.una))then(3:Int)else 0)<=4;split<;>omega
   ·show(if 0<GB (cC c.s (rC g.ack c.s.una))then(3:Int)else 0)<=3;split<;>omega
  ·refine⟨rfl,rfl,rfl,rfl,hso.1,hso.2.1,hso.2.2, ?_, ?_,hr.1, ?_,a5,a6,hc.t3,a7,a8⟩
   ·show 0<=(if c.most<iu g.window c.opts.scale then iu g.window c.opts.scale else c.most);split<;>omega
   ·show(if c.most<iu g.window c.opts.scale then iu g.window c.opts.scale else c.most)<=1073725440;split<;>omega
   ·show iu g.window c.opts.scale<=(if c.most<iu g.window c.opts.scale then iu g.window c.opts.scale else c.most);split<;>omega
 ·exact⟨rfl,rfl,rfl,rfl,hc.snd,rfl,λh=>h,a1,a2,a3,a4,a5,a6,hc.t3,a7,a8⟩
theorem O8 {s:Sndr}(h:SO s)(hd:s.done=true):s.fin=true:=(h.2.2.2.2.2.2 hd).1
theorem VH {c u:Conn}(hc:CO c)(h8:c.state≠8)(h:H1 c u)(rv:Recv)(hrv:RV rv)(hd:rv.done=c.r.done\/(c.r.done=false/\c.state<=3)):TR ({u with r:=rv}:Conn):=by
 have s1:=hc.s1
 have s8:=hc.s8
 refine⟨by show aG.f (u.tuple,())=true;rw[h.tup];exact hc.tup,h.so,(rm rv hrv.small).2 hrv,by show aF.f (u.opts,())=true;rw[h.op];exact hc.opt,by show 1<=u.state;rw[h.st];exact s1,by show u.state<=7;rw[h.st];omega,h.m0,h.m1,h.w0,h.w1,h.t0,h.t4,λhn=>h.t3 (by rw[<-h.st];exact hn),h.r0,h.r3, ?_⟩
 show Z2 (nE u.state u.s.done rv.done) u.s.fin u.s.done rv.done=true
 rw[h.st,h.fin]
 exact Zq c.state s1 (by omega) c.s.fin c.s.done c.r.done u.s.done rv.done hc.fl h.dn (λhh=>by rw[<-h.fin];exact O8 h.so hh) hd
theorem abg (k:Int)(sf sd rd:Bool)(h:Z2 k sf sd rd=true)(h1:1<=k)(h3:k<=3):rd=false:=by
 have hk:k=1\/k=2\/k=3:=by omega
 rcases hk with rfl|rfl|rfl<;>revert h<;>revert sf sd rd<;>decide+kernel
theorem Rx (x:Conn):(du x).s=x.s:=by
 unfold du;repeat' split
 all_goals rfl
theorem Ru (x:Conn):(du x).r=x.r:=by
 unfold du;repeat' split
 all_goals rfl
theorem QG (x:Conn)(h:(du x).state=8)(h8:x.state≠8):x.state=6/\x.s.done=true:=by
 have hl:nE x.state x.s.done x.r.done=8:=by
  unfold du at h
  split at h
  ·split at h
   ·exact absurd h h8
   ·split at h
    ·simp at h
    ·split at h
     ·assumption
     ·exact h
  ·exact absurd h h8
 unfold nE at hl
 repeat' split at hl
 all_goals first|omega|(rename_i h6 hd;exact⟨by assumption,by assumption⟩)
theorem PR (c:Conn)(g:Segm)(hs:bS c.r.held)(hv:Dd c g=5):CO (fC c g)/\(fC c g).tuple=c.tuple/\((fC c g).state=8->c.state=6/\(fC c g).s.done=true)/\bS (fC c g).r.held:=by
 have h:=vd5 c g hv
 have hH:=XN c g h
 have hr:=(rm c.r hs).1 h.co.rcv
 unfold fC
 by_cases h3:1<=c.state/\c.state<=3
 ·rw[if_pos h3]
  have hT:=VH h.co h.s8 hH (mS c.r g.seq g.body (gg.f (g,1,()))) (Jx _ _ _ _ hr) (.inr ⟨abg _ _ _ _ h.co.fl h3.1 h3.2,h3.2⟩)
  refine⟨hT.turned,by rw[CA];exact hH.tup,λh8=> ?_, ?_⟩
  ·have:=QG _ h8 (by show(t7 c g).state≠8;rw[hH.st];exact h.s8)
   rw[Rx]
   exact⟨by rw[<-hH.st];exact this.1,this.2⟩
  ·rw[Ru];exact LX _ _ _ _ hr
 ·rw[if_neg h3]
  have hT:=VH h.co h.s8 hH c.r hr (.inl rfl)
  have e:({t7 c g with r:=c.r}:Conn)=t7 c g:=by rw[<-hH.rr]
  rw[e]at hT
  refine⟨hT.turned,by rw[CA];exact hH.tup,λh8=> ?_, ?_⟩
  ·have:=QG _ h8 (by rw[hH.st];exact h.s8)
   rw[Rx]
   exact⟨by rw[<-hH.st];exact this.1,this.2⟩
  ·rw[Ru,hH.rr];exact hs
theorem Zb (c:Conn)(g:Segm):Dd c g=1\/Dd c g=2\/Dd c g=3\/Dd c g=4\/Dd c g=5:=by
 unfold Dd
 cases(bR.f (c,())&&(!(c.state==8)&&ai.f (g,())))with
 |false=>exact .inl rfl
 |true=>
  cases bm.f (g,4,())<;>cases(g.seq==c.r.next)<;>cases uq g.seq c.r.next (pd c.r)<;>cases bm.f (g,2,())<;>cases S0 c g<;>cases bm.f (g,16,())<;>cases Re c g.ack<;>simp
def dA (c:Conn)(g:Segm):Conn×List Segm×Int:=
 if Dd c g=2 then({c with state:=8,timer:=0,tries:=0},[],2)
 else if Dd c g=3 then(c,[cJ.f (c,())],3)
 else if Dd c g=4 then(if c.state=7/\bm.f (g,1,())=true then{c with timer:=4}else c,[cJ.f (c,())],4)
 else if Dd c g=5 then
  (if(fC c g).state=8 then(fC c g,[],5)
  else((er.f (fC c g,(fC c g).window,())).1,if(er.f (fC c g,(fC c g).window,())).2=[]/\aK.f (g,())≠0 then[cJ.f ((er.f (fC c g,(fC c g).window,())).1,())]else(er.f (fC c g,(fC c g).window,())).2,5))
 else(c,[],1)
theorem C1 (c:Conn)(g:Segm)(hs:bS c.r.held):nN.f (c,g,())=dA c g:=by
 simp only[PX,nN,dJ,Cy c g hs,UD c g hs]
 have hv:=Zb c g
 unfold dA
 generalize Dd c g=v at hv|-
 rcases hv with rfl|rfl|rfl|rfl|rfl
 ·rfl
 ·rfl
 ·rfl
 ·have e:(bif (4:Int)==4 then bif c.state==7 then(bm.f (g,1,()),())else(false,())else(false,())).1=decide (c.state=7/\bm.f (g,1,())=true):=by
   by_cases h7:c.state=7
   ·simp[h7]
   ·rw[show(c.state==7)=false by simp[h7],decide_eq_false (λh=>h7 h.1)];rfl
  rw[e]
  by_cases hq:c.state=7/\bm.f (g,1,())=true
  ·rw[decide_eq_true hq];simp only[if_pos hq];rfl
  ·rw[decide_eq_false hq];simp only[if_neg hq];rfl
 ·simp only[if_true]
  rw[if_neg (show¬(5:Int)=2 by omega),if_neg (show¬(5:Int)=3 by omega),if_neg (show¬(5:Int)=4 by omega)]
  generalize fC c g=x
  change (bif x.state==8 then(x,[],(5:Int))else bif (bif ((er.f (x,x.window,())).2.length:Int)==0 then(aK.f (g,()) != 0,())else(false,())).1 then((er.f (x,x.window,())).1,[cJ.f ((er.f (x,x.window,())).1,())],5)else((er.f (x,x.window,())).1,(er.f (x,x.window,())).2,5))=_
  by_cases h8:x.state=8
  ·rw[if_pos h8,show(x.state==8)=true by simp[h8]];rfl
  ·rw[if_neg h8,show(x.state==8)=false by simp[h8]]
   generalize er.f (x,x.window,())=p
   obtain⟨p1,p2⟩:=p
   cases p2 with
   |nil=>
    by_cases h0:aK.f (g,())=0
    ·simp[h0]
    ·have h0':(aK.f (g,()) != 0)=true:=by simp[h0]
     simp[h0,h0']
   |cons a r=>
    have h0:(((a::r).length:Int)==0)=false:=by rw[beq_eq_false_iff_ne];simp only[List.length_cons];omega
    simp only[h0,cond_false,if_neg (show¬((a::r:List Segm)=[]/\aK.f (g,())≠0) by simp)]
theorem XO (c:Conn)(w:Int)(hc:SO c.s)(h:(er.f (c,w,())).2=[]):(er.f (c,w,())).1=c:=by
 revert h
 simp only[PX,er,dJ,jW]
 cases(bif !bR.f (c,())then(true,())else bif (c.state==8)then(true,())else((c.state==7),())).1 with
 |true=>exact λ_=>rfl
 |false=>
 simp only[cond_false]
 have key:=si (f:=λa=>(bT w a).nice) (Inv:=λa=>Sent c a.2.1/\(a.2.2=[]->a.2.1=c)) (Q:=λp=>p.2.2=[]->p.2.1=c) (meas:=λa=>GJ a.2.1.s) (λa hi a' he=>by
  rcases qb w c a hi.1 with⟨l,e⟩|⟨a2,e,h1,h2⟩
  ·simp only[e]at he;cases he
  ·simp only[e,Stp.next.injEq]at he;subst he
   refine⟨⟨h1,λh3=> ?_⟩,h2⟩
   exfalso
   obtain⟨a1,a2',al⟩:=a
   revert e
   simp only[PX,bT]
   cases(aV.f (a2'.s,w,dj.f (a2',()),())).2 with
   |false=>intro e;cases e
   |true=>
    cases((aV.f (a2'.s,w,dj.f (a2',()),())).1.text==[])<;>cases(aV.f (a2'.s,w,dj.f (a2',()),())).1.fin<;>(intro e;simp only[Stp.next.injEq,cond_true,cond_false,Bool.not_true,Bool.not_false]at e;subst e;simp at h3)) (λa hi p he=>by
  rcases qb w c a hi.1 with⟨l,e⟩|⟨a2,e,h1,h2⟩
  ·obtain⟨a1,a2',al⟩:=a
   have hl:l=al:=by
    revert e
    simp only[PX,bT]
    cases(aV.f (a2'.s,w,dj.f (a2',()),())).2 with
    |false=>intro e;cases e;rfl
    |true=>cases((aV.f (a2'.s,w,dj.f (a2',()),())).1.text==[])<;>cases(aV.f (a2'.s,w,dj.f (a2',()),())).1.fin<;>(intro e;cases e)
   simp only[e,Stp.out.injEq]at he;subst he;subst hl;exact hi.2
  ·simp only[e]at he;cases he) (GJ c.s+1) (⟨⟨0,0,0⟩,0,⟨0,[],0,false,false,false⟩,⟨0,[],[],0,false⟩,0,0,⟨0,0,false,false,0,0⟩,0,0⟩,c,[]) (Nat.lt_succ_self _) ⟨Sent.refl c hc,λ_=>rfl⟩
 obtain⟨q,hq⟩:∃q,ca (λa=>(bT w a).nice) (GJ c.s+1) (⟨⟨0,0,0⟩,0,⟨0,[],0,false,false,false⟩,⟨0,[],[],0,false⟩,0,0,⟨0,0,false,false,0,0⟩,0,0⟩,c,[])=q:=⟨_,rfl⟩
 rw[hq]at key
 simp only[hq]
 obtain⟨q1,q2,q3⟩:=q
 simp only[]at key|-
 intro h3
 have h4:q3=[]:=by
  revert h3
  cases(bif decide (0<(q3.length:Int))then((q2.timer==0),())else(false,())).1<;>exact λh=>h
 subst h4
 rw[key rfl]
 rfl
theorem Cq (c:Conn)(g:Segm)(hs:bS c.r.held):tV.f (c,g,())=dA c g:=by
 simp only[PX,tV,nI,Bp c g hs,Tw c g hs,BF,uP,Mf]
 have hv:=Zb c g
 have h5:=PR c g hs
 have hb:Dd c g=5->g.body.length<=1420:=λh=>gE g (vd5 c g h).sg
 unfold dA
 generalize Dd c g=v at hv h5 hb|-
 rcases hv with rfl|rfl|rfl|rfl|rfl
 ·rfl
 ·rfl
 ·show(c,[nb.f (c,())],(3:Int))=_
  rw[BF];rfl
 ·have e:(bif (4:Int)==4 then bif c.state==7 then(bm.f (g,1,()),())else(false,())else(false,())).1=decide (c.state=7/\bm.f (g,1,())=true):=by
   by_cases h7:c.state=7
   ·simp[h7]
   ·rw[show(c.state==7)=false by simp[h7],decide_eq_false (λh=>h7 h.1)];rfl
  rw[e]
  by_cases hq:c.state=7/\bm.f (g,1,())=true
  ·rw[decide_eq_true hq];simp only[if_pos hq]
   show(({c with timer:=4}:Conn),[nb.f (c,())],(4:Int))=_
   rw[BF];rfl
  ·rw[decide_eq_false hq];simp only[if_neg hq]
   show(c,[nb.f (c,())],(4:Int))=_
   rw[BF];rfl
 ·simp only[if_true]
  rw[if_neg (show¬(5:Int)=2 by omega),if_neg (show¬(5:Int)=3 by omega),if_neg (show¬(5:Int)=4 by omega)]
  obtain⟨hx,-,-,hxs⟩:=h5 rfl
  have hl:=qt g (by have:=hb rfl;omega)
  generalize fC c g=x at hx hxs|-
  have hP:=aaS x x.window (by have:=hx.w1;have:=hx.m1;omega) hxs
  have hN:=XO x x.window hx.snd
  change (bif x.state==8 then(x,[],(5:Int))else bif (bif decide (0<aK.f (g,()))then(((sI.f (x,x.window,())).2.length:Int)==0,())else(false,())).1 then((sI.f (x,x.window,())).1,(sI.f (x,x.window,())).2++[cJ.f (x,())],5)else((sI.f (x,x.window,())).1,(sI.f (x,x.window,())).2,5))=_
  rw[hP]
  by_cases h8:x.state=8
  ·rw[if_pos h8,show(x.state==8)=true by simp[h8]];rfl
  ·rw[if_neg h8,show(x.state==8)=false by simp[h8]]
   generalize er.f (x,x.window,())=p at hN|-
   obtain⟨p1,p2⟩:=p
   cases p2 with
   |nil=>
    have hN:=hN rfl
    simp only[]at hN
    subst hN
    by_cases h0:aK.f (g,())=0
    ·simp[h0]
    ·rw[decide_eq_true (show 0<aK.f (g,()) by omega)]
     simp[h0]
   |cons a r=>
    have h0:(((a::r).length:Int)==0)=false:=by rw[beq_eq_false_iff_ne];simp only[List.length_cons];omega
    cases decide (0<aK.f (g,()))<;>simp only[h0,cond_true,cond_false,if_neg (show¬((a::r:List Segm)=[]/\aK.f (g,())≠0) by simp)]
theorem Mg (n:Int):bits .and .i64 n 15=n%16:=by
 have h:(BitVec.ofInt 64 15).toNat=2 ^ 4-1:=by decide
 have key:(BitVec.ofInt 64 n&&& BitVec.ofInt 64 15).toNat=(n%((2 ^ 64:Nat):Int)).toNat%2 ^ 4:=by
  rw[BitVec.toNat_and,BitVec.toNat_ofInt,h,Nat.and_two_pow_sub_one_eq_mod]
 show IntKind.i64.wrap ((BitVec.ofInt 64 n&&& BitVec.ofInt 64 15).toNat:Nat)=n%16
 rw[key,cO]
 omega
theorem WQ (v:Int):yC.f (v,())=lN.f (v,()):=by
 simp only[PX,yC,lN,cU,Mg]
 rcases Bool.eq_false_or_eq_true (ae.f (v,32,()))with h|h
 ·rw[h]
  rw[bU]at h
  simp only[Bool.and_eq_true,decide_eq_true_eq]at h
  rw[Int.tmod_eq_emod_of_nonneg h.1]
 ·rw[h];rfl
theorem D2 (i:Int)(o:Opti):j4.f (i,o,())=cK.f (i,o,()):=by
 simp only[PX,j4,cK,WQ,Vc,ck,bH]
theorem Lv (t:Tupl)(h:aG.f (t,())=true):(0<=t.ip/\t.ip<=4294967295)/\(0<=t.port/\t.port<=65535)/\(0<=t.my/\t.my<=65535):=by
 simp only[PX,aG,cQ,bU]at h
 by_cases h1:0<=t.ip/\t.ip<=4294967295
 ·by_cases h2:0<=t.port/\t.port<=65535
  ·by_cases h3:0<=t.my/\t.my<=65535
   ·exact⟨h1,h2,h3⟩
   ·rw[show(decide (0<=t.my)&&decide (t.my<=65535))=false by rw[Bool.and_eq_false_iff];simp only[decide_eq_false_iff_not];omega]at h
    revert h
    cases(decide (0<=t.ip)&&decide (t.ip<=4294967295))<;>cases(decide (0<=t.port)&&decide (t.port<=65535))<;>simp
  ·rw[show(decide (0<=t.port)&&decide (t.port<=65535))=false by rw[Bool.and_eq_false_iff];simp only[decide_eq_false_iff_not];omega]at h
   revert h
   cases(decide (0<=t.ip)&&decide (t.ip<=4294967295))<;>simp
 ·rw[show(decide (0<=t.ip)&&decide (t.ip<=4294967295))=false by rw[Bool.and_eq_false_iff];simp only[decide_eq_false_iff_not];omega]at h
  simp at h
theorem L1 (s:Sndr):jN.f (s,())=(s.una+cY.f (s,()))%4294967296:=by simp only[PX,jN,bO]
theorem t6:aF.f (bH.f (()),())=true:=by decide+kernel
theorem X7 (c:Conn)(hc:aG.f (c.tuple,())=true)(hd:c.r.data.length<=32)(hn:0<=c.r.next/\c.r.next<=4294967295)(sq fl:Int)(b:ac)(h0:0<=sq/\sq<=4294967295)(hf:0<=fl/\fl<=63)(hb:b.length<=1420):ai.f ({cJ.f (c,())with seq:=sq,flags:=fl,body:=b},())=true:=by
 rw[bo]
 have ht:=Lv c.tuple hc
 have hw:=pT c.r hd
 simp only[PX,cJ,gS c.r hd]
 exact⟨ht.2.2,ht.2.1,h0,hn,hf,⟨hw.1,by omega⟩,t6,hb⟩
theorem R7 (c:Conn)(hc:CO c)(hs:bS c.r.held):ai.f (cJ.f (c,()),())=true:=by
 have hr:=(rm c.r hs).1 hc.rcv
 have h:=X7 c hc.tup hr.dl ⟨hr.n0,hr.n1⟩ (jN.f (c.s,())) 16 [] (by rw[L1];omega) (by omega) (by simp)
 have e:({cJ.f (c,())with seq:=jN.f (c.s,()),flags:=16,body:=[]}:Segm)=cJ.f (c,()):=by simp only[PX,cJ]
 rw[e]at h;exact h
theorem KT (s:Sndr)(w m:Int)(h:(aV.f (s,w,m,())).2=true):(aV.f (s,w,m,())).1.seq=jN.f (s,()):=by
 revert h
 simp only[PX,aV]
 generalize(if 0<(if(IntKind.wrap .i64 ((if w<(-1)then(-1)else w)-cY.f (s,())))<(if m<(((s.data.take ((s.data.length:Int).toNat)).drop s.sent.toNat).length:Int)then m else(((s.data.take ((s.data.length:Int).toNat)).drop s.sent.toNat).length:Int))then(IntKind.wrap .i64 ((if w<(-1)then(-1)else w)-cY.f (s,())))else(if m<(((s.data.take ((s.data.length:Int).toNat)).drop s.sent.toNat).length:Int)then m else(((s.data.take ((s.data.length:Int).toNat)).drop s.sent.toNat).length:Int)))then(if(IntKind.wrap .i64 ((if w<(-1)then(-1)else w)-cY.f (s,())))<(if m<(((s.data.take ((s.data.length:Int).toNat)).drop s.sent.toNat).length:Int)then m else(((s.data.take ((s.data.length:Int).toNat)).drop s.sent.toNat).length:Int))then(IntKind.wrap .i64 ((if w<(-1)then(-1)else w)-cY.f (s,())))else(if m<(((s.data.take ((s.data.length:Int).toNat)).drop s.sent.toNat).length:Int)then m else(((s.data.take ((s.data.length:Int).toNat)).drop s.sent.toNat).length:Int)))else 0)=n
 generalize(IntKind.wrap .i64 ((if w<(-1)then(-1)else w)-cY.f (s,())))=v
 generalize(((s.data.take ((s.data.length:Int).toNat)).drop s.sent.toNat).take n.toNat).drop 0=tx
 generalize(((s.data.take ((s.data.length:Int).toNat)).drop s.sent.toNat).length:Int)=ln
 cases br.f (s,())<;>cases s.fin<;>cases s.finSent<;>cases s.done<;>cases(n==ln)<;>cases(tx==[])<;>cases decide (n<v)<;>simp
theorem W3 (c:Conn)(w:Int)(hc:CO c)(hs:bS c.r.held):∀g∈(er.f (c,w,())).2,ai.f (g,())=true:=by
 have hr:=(rm c.r hs).1 hc.rcv
 simp only[PX,er,dJ,jW]
 cases(bif !bR.f (c,())then(true,())else bif (c.state==8)then(true,())else((c.state==7),())).1 with
 |true=>intro g hg;cases hg
 |false=>
 simp only[cond_false]
 have key:=si (f:=λa=>(bT w a).nice) (Inv:=λa=>Sent c a.2.1/\(∀g∈a.2.2,ai.f (g,())=true)) (Q:=λp=>∀g∈p.2.2,ai.f (g,())=true) (meas:=λa=>GJ a.2.1.s) (λa hi a' he=>by
  rcases qb w c a hi.1 with⟨l,e⟩|⟨a2,e,h1,h2⟩
  ·simp only[e]at he;cases he
  ·simp only[e,Stp.next.injEq]at he;subst he
   refine⟨⟨h1, ?_⟩,h2⟩
   obtain⟨hS,hl⟩:=hi
   obtain⟨a1,b2,al⟩:=a
   simp only[]at hS hl
   have hre:=hS.re
   have htup:aG.f (b2.tuple,())=true:=by rw[hre];exact hc.tup
   have hrr:b2.r=c.r:=by rw[hre]
   have hch:=aV.c.h (b2.s,w,dj.f (b2,()),()) (Ht hS.so)
   have hsq:=KT b2.s w (dj.f (b2,()))
   revert e
   simp only[PX,bT]
   simp only[PX]at hch
   generalize aV.f (b2.s,w,dj.f (b2,()),())=z at hch hsq|-
   obtain⟨y,b⟩:=z
   cases b with
   |false=>intro e;cases e
   |true=>
    obtain⟨-,hch⟩:=hch
    obtain⟨-,hlen,-,-,-⟩:=hch rfl
    have hsq:=hsq rfl
    simp only[]at hlen hsq
    have hdl:=hS.so.2.2.1
    have hs0:=hS.so.2.2.2.1
    have ok:∀fl:Int,0<=fl/\fl<=63->ai.f (({cJ.f (b2,())with seq:=y.seq,flags:=fl,body:=y.text}:Segm),())=true:=λfl hf=>X7 b2 htup (by rw[hrr];exact hr.dl) (by rw[hrr];exact⟨hr.n0,hr.n1⟩) y.seq fl y.text (by rw[hsq,L1];omega) hf (by omega)
    have fin:∀fl:Int,0<=fl/\fl<=63->∀g∈al++[({cJ.f (b2,())with seq:=y.seq,flags:=fl,body:=y.text}:Segm)],ai.f (g,())=true:=by
     intro fl hf g hg
     rcases List.mem_append.1 hg with h3|h3
     ·exact hl g h3
     ·rw[List.mem_singleton.1 h3];exact ok fl hf
    have hfl:(cJ.f (b2,())).flags=16:=by simp only[PX,cJ]
    simp only[hfl]
    cases(y.text==[])<;>cases y.fin<;>(intro e;simp only[Stp.next.injEq,cond_true,cond_false,Bool.not_true,Bool.not_false]at e;subst e;refine fin _ (by decide+kernel))) (λa hi p he=>by
  rcases qb w c a hi.1 with⟨l,e⟩|⟨a2,e,h1,h2⟩
  ·obtain⟨a1,a2',al⟩:=a
   have hl:l=al:=by
    revert e
    simp only[PX,bT]
    cases(aV.f (a2'.s,w,dj.f (a2',()),())).2 with
    |false=>intro e;cases e;rfl
    |true=>cases((aV.f (a2'.s,w,dj.f (a2',()),())).1.text==[])<;>cases(aV.f (a2'.s,w,dj.f (a2',()),())).1.fin<;>(intro e;cases e)
   simp only[e,Stp.out.injEq]at he;subst he;subst hl;exact hi.2
  ·simp only[e]at he;cases he) (GJ c.s+1) (⟨⟨0,0,0⟩,0,⟨0,[],0,false,false,false⟩,⟨0,[],[],0,false⟩,0,0,⟨0,0,false,false,0,0⟩,0,0⟩,c,[]) (Nat.lt_succ_self _) ⟨Sent.refl c hc.snd,λg hg=>by cases hg⟩
 obtain⟨q,hq⟩:∃q,ca (λa=>(bT w a).nice) (GJ c.s+1) (⟨⟨0,0,0⟩,0,⟨0,[],0,false,false,false⟩,⟨0,[],[],0,false⟩,0,0,⟨0,0,false,false,0,0⟩,0,0⟩,c,[])=q:=⟨_,rfl⟩
 rw[hq]at key
 simp only[hq]
 obtain⟨q1,q2,q3⟩:=q
 simp only[]at key|-
 cases(bif decide (0<(q3.length:Int))then((q2.timer==0),())else(false,())).1<;>exact key
theorem Gq (c:Conn)(g:Segm)(hc:CO c)(hs:bS c.r.held):CO (dA c g).1/\(dA c g).1.tuple=c.tuple/\(∀y∈(dA c g).2.1,ai.f (y,())=true)/\bS (dA c g).1.r.held:=by
 have one:∀y∈[cJ.f (c,())],ai.f (y,())=true:=λy hy=>by rw[List.mem_singleton.1 hy];exact R7 c hc hs
 have nil:∀y∈([]:List Segm),ai.f (y,())=true:=λy hy=>by cases hy
 unfold dA
 split
 ·exact⟨CO.set hc 8 0 0 (.inr rfl) (by omega) (by omega) (λ_=>by omega) (by omega) (by omega),rfl,nil,hs⟩
 ·split
  ·exact⟨hc,rfl,one,hs⟩
  ·split
   ·split
    ·rename_i h7
     exact⟨CO.set hc c.state 4 c.tries (.inl rfl) (by omega) (by omega) (λh=>absurd h7.1 h) hc.r0 hc.r3,rfl,one,hs⟩
    ·exact⟨hc,rfl,one,hs⟩
   ·split
    ·rename_i hv
     obtain⟨hx,hxt,-,hxs⟩:=PR c g hs hv
     generalize fC c g=x at hx hxt hxs|-
     split
     ·exact⟨hx,hxt,nil,hxs⟩
     ·have hS:=Wx x x.window hx.snd
      have hp:=Sent.ok hS hx (hS.tm.elim .inr λe=> .inl (by omega))
      have ht:(er.f (x,x.window,())).1.tuple=x.tuple:=by rw[hS.re]
      have hr:(er.f (x,x.window,())).1.r=x.r:=by rw[hS.re]
      refine⟨hp,ht.trans hxt, ?_,by show bS (er.f (x,x.window,())).1.r.held;rw[hr];exact hxs⟩
      simp only[]
      split
      ·intro y hy
       rw[List.mem_singleton.1 hy];exact R7 _ hp (by rw[hr];exact hxs)
      ·exact W3 x x.window hx hxs
    ·exact⟨hc,rfl,nil,hs⟩
theorem XM (t:Tabl)(c:Conn):yN.f (t,c,())=eC.f (t,c,()):=by
 simp only[PX,yN,eC,DU,mB,lD,nI,dJ]
theorem Xx (t:Tabl)(c:Conn)(l:Limi)(hs:∀y∈t.conns,bS y.r.held)(hc:bS c.r.held):yR.f (t,c,l,())=lM.f (t,c,l,()):=by
 simp only[PX,yR,lM,DU,mB,nI,dJ]
 rw[Ly _ _ (λy hy=>by
  rcases List.mem_append.1 hy with h|h
  ·exact hs y h
  ·rw[List.mem_singleton.1 h];exact hc)]
theorem aak (xs:List Conn)(t:Tupl)(h:decide (0<=gk (λh=>lh t h.tuple) xs)=true):∃i:Nat,gk (λh:Conn=>lh t h.tuple) xs=(i:Int)/\∃hi:i<xs.length,xs[i].tuple=t:=by
 unfold gk at h|-
 cases hf:xs.findIdx? (λh=>lh t h.tuple)with
 |none=>rw[hf]at h;simp at h
 |some i=>
  obtain⟨h1,h2,-⟩:=List.findIdx?_eq_some_iff_getElem.1 hf
  exact⟨i,rfl,h1,((Cr _ _).1 h2).symm⟩
theorem yg (xs:List Half)(t:Tupl)(h:decide (0<=gk (λh=>lh t h.tuple) xs)=true):∃i:Nat,gk (λh:Half=>lh t h.tuple) xs=(i:Int)/\∃hi:i<xs.length,xs[i].tuple=t:=by
 unfold gk at h|-
 cases hf:xs.findIdx? (λh=>lh t h.tuple)with
 |none=>rw[hf]at h;simp at h
 |some i=>
  obtain⟨h1,h2,-⟩:=List.findIdx?_eq_some_iff_getElem.1 hf
  exact⟨i,rfl,h1,((Cr _ _).1 h2).symm⟩
theorem TO.set {t:Tabl}{l:Limi}(h:TO t l)(i:Nat)(c:Conn)(hc:CO c)(hi:i<t.conns.length)(ht:c.tuple=t.conns[i].tuple):TO (⟨t.conns.set i c,t.waiting⟩:Tabl) l:=by
 have hm:(t.conns.set i c).map Conn.tuple=t.conns.map Conn.tuple:=by
  rw[List.map_set,ht]
  apply List.ext_getElem?
  intro j
  rw[List.getElem?_set]
  split
  ·rename_i hj
   subst hj
   simp[hi]
  ·rfl
 refine⟨h.lim,by show((t.conns.set i c).length:Int)<=l.conns;rw[List.length_set];exact h.nc,h.nw, ?_, ?_,h.dw, ?_⟩
 ·intro y hy
  rcases List.mem_or_eq_of_mem_set hy with h1|h1
  ·exact h.co y h1
  ·rw[h1];exact hc
 ·show((t.conns.set i c).map Conn.tuple).Nodup
  rw[hm];exact h.dc
 ·intro w hw
  show w∈(t.conns.set i c).map Conn.tuple
  rw[hm];exact h.wc w hw
theorem Z8 (xs:List Conn)(i:Nat)(c:Conn)(hi:i<xs.length)(ht:c.tuple=xs[i].tuple):(xs.set i c).map Conn.tuple=xs.map Conn.tuple:=by
 rw[List.map_set,ht]
 apply List.ext_getElem?
 intro j
 rw[List.getElem?_set]
 split
 ·rename_i hj
  subst hj
  simp[hi]
 ·rfl
theorem UY (xs:List Conn)(hd:(xs.map Conn.tuple).Nodup)(i:Nat)(hi:i<xs.length):gk (λh:Conn=>lh xs[i].tuple h.tuple) xs=(i:Int):=by
 have h:=(x8 Conn.tuple xs).2 hd i xs[i] (List.getElem?_eq_getElem hi)
 have h2:=BB (λh:Conn=>lh xs[i].tuple h.tuple) xs i xs[i] (List.getElem?_eq_getElem hi) (wP _)
 rw[h]at h2
 simpa using h2
theorem C7 (t:Tabl)(c:Conn)(hd:(t.conns.map Conn.tuple).Nodup)(i:Nat)(hi:i<t.conns.length)(ht:c.tuple=t.conns[i].tuple):eC.f (t,c,())=⟨t.conns.set i c,t.waiting⟩:=by
 simp only[PX,eC,mB,dJ,fj]
 rw[ht,UY t.conns hd i hi,decide_eq_true (show(0:Int)<=(i:Int) by omega),aa]
 rfl
theorem CZ (t:Tabl)(c:Conn)(l:Limi):lM.f (t,c,l,())=if dk.f ((⟨t.conns++[c],t.waiting++[c.tuple]⟩:Tabl),l,())=true then(⟨t.conns++[c],t.waiting++[c.tuple]⟩,true)else(t,false):=by
 simp only[PX,lM,mB,dJ]
 cases dk.f ((⟨t.conns++[c],t.waiting++[c.tuple]⟩:Tabl),l,())<;>rfl
def tk (xs:List Half)(t:Tupl):List Half:=bif decide (0<=gk (λh:Half=>lh t h.tuple) xs)then xs.take (gk (λh:Half=>lh t h.tuple) xs).toNat++xs.drop ((gk (λh:Half=>lh t h.tuple) xs).toNat+1)else xs
theorem z6 (xs:List Half)(t:Tupl)(hl:xs.length<=4294967296):qu.f (xs,t,())=tk xs t:=by
 simp only[PX,qu,uz,gv]
 unfold tk
 cases h:decide (0<=gk (λh:Half=>lh t h.tuple) xs)with
 |false=>
  rw[show decide (gk (λh:Half=>lh t h.tuple) xs<0)=true by simp at h|-;exact h]
  simp
 |true=>
  obtain⟨i,e,hi,-⟩:=yg xs t h
  rw[e,decide_eq_false (show¬(i:Int)<0 by omega),aj (by omega) (by omega),aa,show((i:Int)+1).toNat=i+1 by omega]
  simp
theorem zG (xs:List Half)(t:Tupl)(hl:xs.length<=4294967296):n7.f (xs,t,())=tk xs t:=by
 simp only[PX,n7,dU,sR,gv]
 unfold tk
 cases h:decide (0<=gk (λh:Half=>lh t h.tuple) xs)with
 |false=>simp
 |true=>
  obtain⟨i,e,hi,-⟩:=yg xs t h
  rw[e,aj (by omega) (by omega),show((i:Int)==(i:Int)+1)=false by simp;omega,aa,show((i:Int)+1).toNat=i+1 by omega]
  simp only[cond_false,cond_true]
  have hL:(xs.take i++xs.drop (i+1)).length=i+(xs.length-(i+1)):=by
   rw[List.length_append,List.length_take,List.length_drop];omega
  generalize xs.take i++xs.drop (i+1)=L at hL|-
  rw[List.drop_zero,List.take_left' hL,aa,hL,List.take_left' hL,List.append_assoc,List.take_left' hL]
theorem LA (xs:List Half)(t:Tupl):(tk xs t).Sublist xs:=by
 unfold tk
 cases h:decide (0<=gk (λh:Half=>lh t h.tuple) xs)with
 |false=>exact List.Sublist.refl _
 |true=>
  obtain⟨i,e,hi,-⟩:=yg xs t h
  rw[e,aa,cond_true]
  have h1:(xs.take i++xs.drop (i+1)).Sublist (xs.take i++xs.drop i):=List.Sublist.append (List.Sublist.refl _) (by
   rw[<-List.drop_drop];exact List.drop_sublist _ _)
  rw[List.take_append_drop]at h1
  exact h1
theorem HO.sub {xs ys:List Half}(h:HO xs)(hs:ys.Sublist xs):HO ys:=⟨λy hy=>h.ok y (hs.subset hy),List.Nodup.sublist (hs.map _) h.nd,Nat.le_trans hs.length_le h.len⟩
theorem Ud (xs:List Half)(t:Tupl)(hd:(xs.map Half.tuple).Nodup):t∉(tk xs t).map Half.tuple:=by
 unfold tk
 cases h:decide (0<=gk (λh:Half=>lh t h.tuple) xs)with
 |false=>
  rw[oh]at h
  rw[cond_false,<-C3,h];simp
 |true=>
  obtain⟨i,e,hi,ht⟩:=yg xs t h
  rw[e,aa,cond_true,List.map_append,List.mem_append]
  have h1:xs.map Half.tuple=(xs.take i).map Half.tuple++t::(xs.drop (i+1)).map Half.tuple:=by
   conv=>lhs;rw[<-List.take_append_drop i xs,List.drop_eq_getElem_cons hi]
   rw[List.map_append,List.map_cons,ht]
  rw[h1]at hd
  obtain⟨-,h3,h4⟩:=List.nodup_append.1 hd
  rintro(h5|h5)
  ·exact h4 t h5 t (List.mem_cons_self ..) rfl
  ·exact(List.nodup_cons.1 h3).1 h5
theorem WR (g:Segm):fL.f (g,())=bif bm.f (g,4,())then[]else[(jE.f (g,())).1]:=by
 simp only[PX,fL,jE]
 cases bm.f (g,4,())with
 |true=>rfl
 |false=>cases bm.f (g,16,())<;>rfl
theorem TD (g:Segm):uj.f (g,())=jE.f (g,()):=by
 simp only[PX,uj,jE,Mf,uP,jy,ck,bH]
theorem IR (d:Door)(g:Segm):ll.f (d,g,())=(d,fL.f (g,()),0):=by
 simp only[PX,ll,TD,n3,fL]
 cases(jE.f (g,())).2<;>rfl
theorem yF (g:Segm)(hg:ai.f (g,())=true):∀y∈fL.f (g,()),ai.f (y,())=true:=by
 have h:=(bo g).1 hg
 rw[WR]
 cases h4:bm.f (g,4,())with
 |true=>intro y hy;cases hy
 |false=>
  intro y hy
  rw[cond_false,List.mem_singleton]at hy
  subst hy
  simp only[PX,jE,h4,bO,cond_false]
  cases bm.f (g,16,())with
  |true=>
   rw[bo]
   exact⟨h.2.1,h.1,h.2.2.2.1,by show(0:Int)<=0/\(0:Int)<=4294967295;omega,by show(0:Int)<=4/\(4:Int)<=63;omega,by show(0:Int)<=0/\(0:Int)<=65535;omega,t6,by simp⟩
  |false=>
   rw[bo]
   refine⟨h.2.1,h.1,by show(0:Int)<=0/\(0:Int)<=4294967295;omega, ?_,by show(0:Int)<=20/\(20:Int)<=63;omega,by show(0:Int)<=0/\(0:Int)<=65535;omega,t6,by simp⟩
   show 0<=(g.seq+aK.f (g,()))%4294967296/\(g.seq+aK.f (g,()))%4294967296<=4294967295
   omega
theorem Kl (n:Int):om.f (n,())=i5.f (n,()):=by
 simp only[PX,om,i5,ny,bO,Int.add_zero]
def Kh (t:Tupl)(iss irs:Int)(o:Opti)(w:Int):Conn:=⟨t,1,⟨(iss+1)%4294967296,[],0,false,false,false⟩,⟨(irs+1)%4294967296,[],[],-1,false⟩,iu w o.scale,iu w o.scale,o,0,0⟩
theorem CH (t:Tupl)(iss irs:Int)(o:Opti)(w:Int)(ho:aF.f (o,())=true)(h0:0<=w)(h1:w<=65535):tK.f (t,iss,irs,o,w,())=Kh t iss irs o w:=by
 have hs:=(eM o ho).2
 have hw:ae.f (w,16,())=true:=by rw[cQ,decide_eq_true h0,decide_eq_true h1];rfl
 simp only[PX,tK,ho,hw,Bool.not_true,cond_false,i5,bO,Int.add_zero]
 rw[Ez w o h0 h1 hs,show((irs+1)%4294967296%4294967296)=(irs+1)%4294967296 by omega]
 rfl
theorem CI (t:Tupl)(iss irs:Int)(o:Opti)(w:Int)(ho:aF.f (o,())=true)(h0:0<=w)(h1:w<=65535):tR.f (t,iss,irs,o,w,())=Kh t iss irs o w:=by
 have hs:=(eM o ho).2
 have hw:ae.f (w,16,())=true:=by rw[cQ,decide_eq_true h0,decide_eq_true h1];rfl
 have e:=(Ta w o.scale h0 h1 hs).1
 have hl:IntKind.wrap .u64 (fM.f (0,o.scale,()))=if o.scale<0 then 0 else o.scale:=by
  rw[IY,Js _ (by split<;>omega) (by split<;>omega)]
 simp only[PX,tR,gW,cU,ho,hw,Bool.not_true,cond_false,Kl,i5,jy,bO,Int.add_zero]
 rw[hl,e,show((irs+1)%4294967296%4294967296)=(irs+1)%4294967296 by omega]
 rfl
theorem Dk (t:Tupl)(iss irs:Int)(o:Opti)(w:Int)(ht:aG.f (t,())=true)(ho:aF.f (o,())=true)(h0:0<=w)(h1:w<=65535):CO (Kh t iss irs o w)/\bS (Kh t iss irs o w).r.held:=by
 have hs:=(eM o ho).2
 have hr:=Kf w o.scale h0 h1 hs
 have hsm:bS (Kh t iss irs o w).r.held:=λy hy=>by cases hy
 refine⟨⟨ht, ?_, ?_,ho,by show(1:Int)<=1;omega,by show(1:Int)<=8;omega,hr.1,hr.2,hr.1,Int.le_refl _,Int.le_refl _,by show(0:Int)<=4;omega,λ_=>by show(0:Int)<=3;omega,Int.le_refl _,by show(0:Int)<=3;omega,rfl⟩,hsm⟩
 ·refine⟨by show 0<=(iss+1)%4294967296;omega,by show(iss+1)%4294967296<=4294967295;omega,by show(0:Nat)<=48;omega,Int.le_refl _,by show(0:Int)<=((0:Nat):Int);omega,λh=>(by cases h),λh=>(by cases h)⟩
 ·rw[rm _ hsm]
  exact⟨by show 0<=(irs+1)%4294967296;omega,by show(irs+1)%4294967296<=4294967295;omega,by show(0:Nat)<=32;omega,by show(0:Nat)<=3;omega,Int.le_refl _,by show(-1:Int)<=pd _;unfold pd;simp[Kh],by show(-1:Int)≠0;omega,⟨0,by simp[Kh,ex]⟩,λh=>(by cases h)⟩
theorem Bd (i:Int)(o:Opti)(ho:aF.f (o,())=true):aF.f (cK.f (i,o,()),())=true:=by
 have hm:0<=fE.f (i,())/\fE.f (i,())<=65535:=by
  simp only[PX,fE,ar]
  by_cases h:0<=i/\i<=7
  ·rw[decide_eq_true h.1,decide_eq_true h.2]
   have:i=0\/i=1\/i=2\/i=3\/i=4\/i=5\/i=6\/i=7:=by omega
   rcases this with rfl|rfl|rfl|rfl|rfl|rfl|rfl|rfl<;>decide+kernel
  ·rw[show(decide (0<=i)&&decide (i<=7))=false by rw[Bool.and_eq_false_iff];simp only[decide_eq_false_iff_not];omega]
   simp
 have hsc: -1<=(lN.f (o.echo,())).1/\(lN.f (o.echo,())).1<=14:=by
  simp only[PX,lN,Mg]
  cases(bif !ae.f (o.echo,32,())then(true,())else((bits .and .i64 o.echo 32)==0,())).1 with
  |true=>simp only[cond_true];omega
  |false=>
   by_cases h:o.echo%16=15
   ·rw[show(o.echo%16==15)=true by simp[h]];simp only[cond_true,cond_false];omega
   ·rw[show(o.echo%16==15)=false by simp[h]];simp only[cond_false];omega
 simp only[PX,cK,bH]
 cases hs:o.stamp with
 |false=>
  simp only[cond_false]
  simp only[PX,aF,ar,cQ,bU,decide_eq_true hm.1,decide_eq_true hm.2]
  rfl
 |true=>
  have hv:0<=o.val/\o.val<=4294967295:=by
   simp only[PX,aF,hs,ar,cQ,bU,Bool.not_true,cond_false]at ho
   by_cases h:0<=o.val/\o.val<=4294967295
   ·exact h
   ·rw[show(decide (0<=o.val)&&decide (o.val<=4294967295))=false by rw[Bool.and_eq_false_iff];simp only[decide_eq_false_iff_not];omega]at ho
    revert ho
    cases(decide (0<=o.mss)&&decide (o.mss<=65535))<;>cases(decide (-1<=o.scale)&&decide (o.scale<=14))<;>simp
  simp only[cond_true]
  cases(lN.f (o.echo,())).2.2 with
  |false=>
   simp only[cond_false]
   simp only[PX,aF,ar,cQ,bU,decide_eq_true hm.1,decide_eq_true hm.2]
   rfl
  |true=>
   simp only[cond_true]
   simp only[PX,aF,ar,cQ,bU,decide_eq_true hm.1,decide_eq_true hm.2,decide_eq_true hsc.1,decide_eq_true hsc.2,decide_eq_true hv.1,decide_eq_true hv.2]
   rfl
def Kk (d:Door)(c:Conn)(g:Segm)(made:Int):Door×List Segm×Int:=
 if dk.f ((⟨d.table.conns++[c],d.table.waiting++[c.tuple]⟩:Tabl),d.limits,())=true then
  ({d with halves:=tk d.halves c.tuple,table:=⟨d.table.conns++[(dA c g).1],d.table.waiting++[c.tuple]⟩},(dA c g).2.1,made)
 else(d,[],0)
theorem Mh (t:Tabl)(l:Limi)(c:Conn)(g:Segm)(hs:bS c.r.held)(hT:dk.f ((⟨t.conns++[c],t.waiting++[c.tuple]⟩:Tabl),l,())=true):eC.f ((⟨t.conns++[c],t.waiting++[c.tuple]⟩:Tabl),(dA c g).1,())=⟨t.conns++[(dA c g).1],t.waiting++[c.tuple]⟩:=by
 have h:=(TK _ _).1 hT
 have hc:=h.co c (by simp)
 have hr:=Gq c g hc hs
 rw[C7 _ _ h.dc t.conns.length (by simp) (by simp[hr.2.1])]
 simp
theorem Ri (d:Door)(c:Conn)(g:Segm)(m:Int)(hd:lx d)(hc:bS c.r.held)(hl:d.halves.length<=4294967296):wQ.f (d,c,g,m,())=Kk d c g m:=by
 simp only[PX,wQ,n3,Xx d.table c d.limits hd hc,CZ,Cq c g hc,XM,z6 _ _ hl]
 unfold Kk
 by_cases hT:dk.f ((⟨d.table.conns++[c],d.table.waiting++[c.tuple]⟩:Tabl),d.limits,())=true
 ·rw[if_pos hT,if_pos hT,Mh d.table d.limits c g hc hT];rfl
 ·rw[if_neg hT,if_neg hT];rfl
def Sv (d:Door)(t:Tupl)(g:Segm):Door×List Segm×Int:=
 if bQ.f (d,())=true/\aG.f (t,())=true/\ai.f (g,())=true/\¬0<=aH.f (d.table,t,())then
  if 0<=aO.f (d.halves,t,())then
   if g.ack≠((d.halves.getD (aO.f (d.halves,t,())).toNat (Ty.zero .half)).iss+1)%4294967296 then(d,fL.f (g,()),0)
   else if g.seq≠((d.halves.getD (aO.f (d.halves,t,())).toNat (Ty.zero .half)).irs+1)%4294967296 then(d,[],0)
   else Kk d (Kh t (d.halves.getD (aO.f (d.halves,t,())).toNat (Ty.zero .half)).iss (d.halves.getD (aO.f (d.halves,t,())).toNat (Ty.zero .half)).irs (d.halves.getD (aO.f (d.halves,t,())).toNat (Ty.zero .half)).opts g.window) g 1
  else if(cV.f (d.keys,t,(g.seq+ -1)%4294967296,(g.ack+ -1)%4294967296,())).2.2=true then
   Kk d (Kh t ((g.ack+ -1)%4294967296) ((g.seq+ -1)%4294967296) (cK.f ((cV.f (d.keys,t,(g.seq+ -1)%4294967296,(g.ack+ -1)%4294967296,())).2.1,g.opts,())) g.window) g 2
  else(d,fL.f (g,()),0)
 else(d,[],0)
theorem DF (xs:List Half)(t:Tupl)(h:HO xs)(hf:0<=aO.f (xs,t,())):aF.f ((xs.getD (aO.f (xs,t,())).toNat (Ty.zero .half)).opts,())=true:=by
 rw[gv]at hf|-
 obtain⟨i,e,hi,-⟩:=yg xs t (decide_eq_true hf)
 rw[e,aa,getD_some (List.getElem?_eq_getElem hi)]
 have:=h.ok _ (List.getElem_mem hi)
 unfold z9 at this
 simp only[Bool.and_eq_true]at this
 exact this.2.2.2.2.1
theorem acx {A B C:Type}(x:A×B×C):(x.1,x.2.1,x.2.2)=x:=rfl
theorem SU (d:Door)(t:Tupl)(g:Segm)(hs:lx d)(hl:d.halves.length<=4294967296):GF.f (d,t,g,())=Sv d t g:=by
 simp only[PX,GF,n3,IG d t g hs,lD,uz,jy,bO,IR,Ks,D2]
 unfold Sv
 cases h1:bQ.f (d,())with
 |false=>simp
 |true=>
 cases h2:aG.f (t,())with
 |false=>simp
 |true=>
 cases h3:ai.f (g,())with
 |false=>simp
 |true=>
 have hD:=(AC d).1 h1
 have hg:=(bo g).1 h3
 have hw:=hg.2.2.2.2.2.1
 by_cases h4:0<=aH.f (d.table,t,())
 ·rw[if_neg (λh=>h.2.2.2 h4),decide_eq_true h4];rfl
 rw[if_pos ⟨rfl,rfl,rfl,h4⟩,decide_eq_false h4]
 simp only[Bool.and_self,Bool.not_true,cond_false]
 by_cases h5:0<=aO.f (d.halves,t,())
 ·rw[if_pos h5,decide_eq_true h5]
  have ho:=DF d.halves t hD.hal h5
  obtain⟨h,hh⟩:∃h,d.halves.getD (aO.f (d.halves,t,())).toNat (Ty.zero .half)=h:=⟨_,rfl⟩
  rw[hh]at ho
  rw[cond_true,hh]
  by_cases h6:g.ack=(h.iss+1)%4294967296
  ·rw[if_neg (λhh=>hh h6),show(g.ack != (h.iss+1)%4294967296)=false by simp[h6]]
   by_cases h7:g.seq=(h.irs+1)%4294967296
   ·rw[if_neg (λhh=>hh h7),show(g.seq != (h.irs+1)%4294967296)=false by simp[h7]]
    rw[CI t h.iss h.irs h.opts g.window ho hw.1 hw.2,Ri d _ g 1 hs (Dk t h.iss h.irs h.opts g.window h2 ho hw.1 hw.2).2 hl]
    generalize Kk d (Kh t h.iss h.irs h.opts g.window) g 1=z
    exact acx z
   ·rw[if_pos h7,show(g.seq != (h.irs+1)%4294967296)=true by simp[h7]];rfl
  ·rw[if_pos h6,show(g.ack != (h.iss+1)%4294967296)=true by simp[h6]];rfl
 ·rw[if_neg h5,decide_eq_false h5]
  have ho:=Bd (cV.f (d.keys,t,(g.seq+ -1)%4294967296,(g.ack+ -1)%4294967296,())).2.1 g.opts hg.2.2.2.2.2.2.1
  generalize cV.f (d.keys,t,(g.seq+ -1)%4294967296,(g.ack+ -1)%4294967296,())=k at ho|-
  rw[cond_false]
  cases h6:k.2.2 with
  |false=>simp
  |true=>
   simp only[Bool.not_true,cond_false,if_true]
   have e1:=CI t ((g.ack+ -1)%4294967296) ((g.seq+ -1)%4294967296) (cK.f (k.2.1,g.opts,())) g.window ho hw.1 hw.2
   have e2:=Ri d (Kh t ((g.ack+ -1)%4294967296) ((g.seq+ -1)%4294967296) (cK.f (k.2.1,g.opts,())) g.window) g 2 hs (Dk t _ _ _ g.window h2 ho hw.1 hw.2).2 hl
   simp only[e1,e2]
theorem TT (d:Door)(t:Tupl)(g:Segm)(hl:d.halves.length<=4294967296):Gm.f (d,t,g,())=Sv d t g:=by
 simp only[PX,Gm,rS,bO]
 unfold Sv
 have e:(bif !bQ.f (d,())then(true,())else bif !aG.f (t,())then(true,())else bif !ai.f (g,())then(true,())else(decide (0<=aH.f (d.table,t,())),())).1= !decide (bQ.f (d,())=true/\aG.f (t,())=true/\ai.f (g,())=true/\¬0<=aH.f (d.table,t,())):=by
  by_cases h4:0<=aH.f (d.table,t,())
  ·rw[decide_eq_true h4];cases bQ.f (d,())<;>cases aG.f (t,())<;>cases ai.f (g,())<;>simp[h4]
  ·rw[decide_eq_false h4];cases bQ.f (d,())<;>cases aG.f (t,())<;>cases ai.f (g,())<;>simp[h4]
 rw[e]
 by_cases hq:bQ.f (d,())=true/\aG.f (t,())=true/\ai.f (g,())=true/\¬0<=aH.f (d.table,t,())
 case neg=>rw[decide_eq_false hq,if_neg hq];rfl
 rw[decide_eq_true hq,if_pos hq]
 obtain⟨h1,h2,h3,h4⟩:=hq
 have hD:=(AC d).1 h1
 have hg:=(bo g).1 h3
 have hw:=hg.2.2.2.2.2.1
 have L:∀(c:Conn) (m:Int),bS c.r.held->(c.tuple=t)->(bif !(lM.f (d.table,c,d.limits,())).2 then(d,([]:List Segm),(0:Int))else(({d with halves:=n7.f (d.halves,t,()),table:=eC.f ((lM.f (d.table,c,d.limits,())).1,(nN.f (c,g,())).1,())}:Door),(nN.f (c,g,())).2.1,m))=Kk d c g m:=by
  intro c m hc ht
  rw[CZ,C1 c g hc,zG _ _ hl]
  unfold Kk
  by_cases hT:dk.f ((⟨d.table.conns++[c],d.table.waiting++[c.tuple]⟩:Tabl),d.limits,())=true
  ·rw[if_pos hT,if_pos hT]
   simp only[Bool.not_true,cond_false]
   rw[Mh d.table d.limits c g hc hT,ht]
  ·rw[if_neg hT,if_neg hT];rfl
 simp only[Bool.not_true,cond_false]
 by_cases h5:0<=aO.f (d.halves,t,())
 ·rw[if_pos h5]
  simp only[decide_eq_true h5,cond_true]
  have ho:=DF d.halves t hD.hal h5
  generalize d.halves.getD (aO.f (d.halves,t,())).toNat (Ty.zero .half)=h at ho|-
  by_cases h6:g.ack=(h.iss+1)%4294967296
  ·rw[if_neg (λhh=>hh h6)]
   simp only[show(g.ack != (h.iss+1)%4294967296)=false by simp[h6],cond_false]
   by_cases h7:g.seq=(h.irs+1)%4294967296
   ·rw[if_neg (λhh=>hh h7)]
    simp only[show(g.seq != (h.irs+1)%4294967296)=false by simp[h7],cond_false]
    rw[<-L _ 1 (Dk t h.iss h.irs h.opts g.window h2 ho hw.1 hw.2).2 rfl,<-CH t h.iss h.irs h.opts g.window ho hw.1 hw.2]
    rfl
   ·rw[if_pos h7]
    simp only[show(g.seq != (h.irs+1)%4294967296)=true by simp[h7],cond_true]
    rfl
  ·rw[if_pos h6]
   simp only[show(g.ack != (h.iss+1)%4294967296)=true by simp[h6],cond_true]
   rfl
 ·rw[if_neg h5]
  simp only[decide_eq_false h5,cond_false]
  have ho:=Bd (cV.f (d.keys,t,(g.seq+ -1)%4294967296,(g.ack+ -1)%4294967296,())).2.1 g.opts hg.2.2.2.2.2.2.1
  generalize cV.f (d.keys,t,(g.seq+ -1)%4294967296,(g.ack+ -1)%4294967296,())=k at ho|-
  cases h6:k.2.2 with
  |false=>
   simp only[Bool.not_false,cond_true,Bool.false_eq_true,if_false]
   rfl
  |true=>
   simp only[Bool.not_true,cond_false,if_true]
   rw[<-L _ 2 (Dk t _ _ _ g.window h2 ho hw.1 hw.2).2 rfl,<-CH t _ _ _ g.window ho hw.1 hw.2]
   rfl
def vW (src:Int)(g:Segm):Tupl:=⟨src,g.from_,g.to⟩
def I6 (d:Door)(k:Nat)(g:Segm):Door×List Segm×Int:=
 if(dA (d.table.conns.getD k (Ty.zero .conn)) g).2.2=3 then
  if d.chal=d.limits.chal then({d with table.conns:=d.table.conns.set k (dA (d.table.conns.getD k (Ty.zero .conn)) g).1},[],0)
  else({d with table.conns:=d.table.conns.set k (dA (d.table.conns.getD k (Ty.zero .conn)) g).1,chal:=d.chal+1},(dA (d.table.conns.getD k (Ty.zero .conn)) g).2.1,0)
 else({d with table.conns:=d.table.conns.set k (dA (d.table.conns.getD k (Ty.zero .conn)) g).1},(dA (d.table.conns.getD k (Ty.zero .conn)) g).2.1,0)
def YA (d:Door)(t:Tupl)(g:Segm):Door:=
 if 0<=aO.f (d.halves,t,())/\g.seq=((d.halves.getD (aO.f (d.halves,t,())).toNat (Ty.zero .half)).irs+1)%4294967296 then{d with halves:=tk d.halves t}else d
def E9 (d:Door)(src:Int)(g:Segm):Door×List Segm×Int:=
 if bQ.f (d,())=true/\ae.f (src,32,())=true/\ai.f (g,())=true then
  if g.to≠d.port then(d,fL.f (g,()),0)
  else if 0<=aH.f (d.table,vW src g,())then I6 d (aH.f (d.table,vW src g,())).toNat g
  else bif bm.f (g,4,())then(YA d (vW src g) g,[],0)
  else bif bm.f (g,2,())&&(!bm.f (g,16,())&& !bm.f (g,1,()))then((lf.f (d,vW src g,g,())).1,(lf.f (d,vW src g,g,())).2,0)
  else bif bm.f (g,16,())&& !bm.f (g,2,())then Sv d (vW src g) g
  else bif bm.f (g,16,())then(d,fL.f (g,()),0)else(d,[],0)
 else(d,[],0)
theorem Hr (d:Door)(t:Tupl)(h:0<=aH.f (d.table,t,())):∃k:Nat,aH.f (d.table,t,())=(k:Int)/\∃hk:k<d.table.conns.length,d.table.conns[k].tuple=t:=by
 rw[fj]at h|-
 exact aak _ _ (decide_eq_true h)
theorem aag (d:Door)(k:Nat)(g:Segm)(hs:lx d)(hD:DO d)(hk:k<d.table.conns.length):yH.f (d,(k:Int),g,())=I6 d k g:=by
 have hsk:bS (d.table.conns.getD k (Ty.zero .conn)).r.held:=by
  rw[getD_some (List.getElem?_eq_getElem hk)];exact hs _ (List.getElem_mem hk)
 have k0:=hD.k0
 have k1:=hD.k1
 have k2:=hD.tab.lim.k1
 simp only[PX,yH,n3,aa,Cq _ g hsk]
 unfold I6
 rw[aj (by omega) (by omega)]
 by_cases h3:(dA (d.table.conns.getD k (Ty.zero .conn)) g).2.2=3
 ·rw[if_pos h3,show((dA (d.table.conns.getD k (Ty.zero .conn)) g).2.2==3)=true by rw[h3];rfl,cond_true]
  by_cases h4:d.chal=d.limits.chal
  ·rw[if_pos h4,show(d.chal==d.limits.chal)=true by simp[h4]];rfl
  ·rw[if_neg h4,show(d.chal==d.limits.chal)=false by simp[h4]];rfl
 ·rw[if_neg h3,show((dA (d.table.conns.getD k (Ty.zero .conn)) g).2.2==3)=false from beq_eq_false_iff_ne.2 h3];rfl
theorem XB (s:Int)(g:Segm):yO.f (s,g,())=vW s g:=by simp only[PX,yO,vW]
theorem N7 (s:Int)(g:Segm):yj.f (s,g,())=vW s g:=by simp only[PX,yj,vW]
theorem ok3 (a b c:Bool):(bif !a then(true,())else bif !b then(true,())else(!c,())).1= !decide (a=true/\b=true/\c=true):=by cases a<;>cases b<;>cases c<;>rfl
theorem hs3 (a b c:Bool):(bif a then bif !b then(!c,())else(false,())else(false,())).1=(a&&(!b&& !c)):=by cases a<;>cases b<;>cases c<;>rfl
theorem lJ (a b:Bool):(bif a then(!b,())else(false,())).1=(a&& !b):=by cases a<;>cases b<;>rfl
theorem Sa (p:Prop)[Decidable p](a b:Int):(bif decide p then(a==b,())else(false,())).1=decide (p/\a=b):=by
 by_cases h:p<;>by_cases h2:a=b<;>simp[h,h2]
theorem UO (d:Door)(src:Int)(g:Segm)(hs:lx d)(hl:d.halves.length<=4294967296):GE.f (d,src,g,())=E9 d src g:=by
 simp only[PX,GE,n3,Iw d hs,cU,pb,XB,lD,uz,jy,bO,IR,Mf,ZU d _ g hs,SU d _ g hs hl,z6 _ _ hl,ok3,hs3,lJ]
 unfold E9
 by_cases hq:bQ.f (d,())=true/\ae.f (src,32,())=true/\ai.f (g,())=true
 case neg=>rw[decide_eq_false hq,if_neg hq];rfl
 rw[decide_eq_true hq,if_pos hq,Bool.not_true,cond_false]
 have hD:=(AC d).1 hq.1
 by_cases hp:g.to=d.port
 case neg=>rw[if_pos hp,show(g.to != d.port)=true by simp[hp]];rfl
 rw[if_neg (λh=>h hp),show(g.to != d.port)=false by simp[hp],cond_false]
 by_cases hc:0<=aH.f (d.table,vW src g,())
 ·rw[if_pos hc,decide_eq_true hc,cond_true]
  obtain⟨k,e,hk,-⟩:=Hr d _ hc
  rw[e,aa,aag d k g hs hD hk]
 rw[if_neg hc,decide_eq_false hc,cond_false]
 cases bm.f (g,4,())with
 |true=>
  rw[cond_true,cond_true,Sa]
  unfold YA
  by_cases hr:0<=aO.f (d.halves,vW src g,())/\g.seq=((d.halves.getD (aO.f (d.halves,vW src g,())).toNat (Ty.zero .half)).irs+1)%4294967296
  ·rw[decide_eq_true hr,if_pos hr];rfl
  ·rw[decide_eq_false hr,if_neg hr];rfl
 |false=>
  rw[cond_false,cond_false]
theorem Uh (d:Door)(src:Int)(g:Segm)(hs:lx d)(hl:d.halves.length<=4294967296):GH.f (d,src,g,())=E9 d src g:=by
 simp only[PX,GH,rS,N7,bO,TT d _ g hl,zG _ _ hl,ok3,hs3,lJ]
 unfold E9
 by_cases hq:bQ.f (d,())=true/\ae.f (src,32,())=true/\ai.f (g,())=true
 case neg=>rw[decide_eq_false hq,if_neg hq];rfl
 rw[decide_eq_true hq,if_pos hq,Bool.not_true,cond_false]
 have hD:=(AC d).1 hq.1
 by_cases hp:g.to=d.port
 case neg=>rw[if_pos hp,show(g.to != d.port)=true by simp[hp]];rfl
 rw[if_neg (λh=>h hp),show(g.to != d.port)=false by simp[hp],cond_false]
 by_cases hc:0<=aH.f (d.table,vW src g,())
 ·rw[if_pos hc,decide_eq_true hc,cond_true]
  obtain⟨k,e,hk,ht⟩:=Hr d _ hc
  rw[e,aa]
  have hsk:bS (d.table.conns.getD k (Ty.zero .conn)).r.held:=by
   rw[getD_some (List.getElem?_eq_getElem hk)];exact hs _ (List.getElem_mem hk)
  have hck:CO (d.table.conns.getD k (Ty.zero .conn)):=by
   rw[getD_some (List.getElem?_eq_getElem hk)];exact hD.tab.co _ (List.getElem_mem hk)
  have hrk:=Gq _ g hck hsk
  have hset:eC.f (d.table,(dA (d.table.conns.getD k (Ty.zero .conn)) g).1,())=⟨d.table.conns.set k (dA (d.table.conns.getD k (Ty.zero .conn)) g).1,d.table.waiting⟩:=C7 d.table _ hD.tab.dc k hk (by rw[hrk.2.1,getD_some (List.getElem?_eq_getElem hk)])
  have k0:=hD.k0
  have k1:=hD.k1
  have k2:=hD.tab.lim.k1
  rw[C1 _ g hsk]
  unfold I6
  by_cases h3:(dA (d.table.conns.getD k (Ty.zero .conn)) g).2.2=3
  ·rw[if_pos h3,show((dA (d.table.conns.getD k (Ty.zero .conn)) g).2.2==3)=true by rw[h3];rfl,cond_true]
   by_cases h4:d.chal=d.limits.chal
   ·rw[if_pos h4,show(d.chal==d.limits.chal)=true by simp[h4]]
    show(({d with table:=eC.f (d.table,(dA (d.table.conns.getD k (Ty.zero .conn)) g).1,())}:Door),([]:List Segm),(0:Int))=_
    rw[hset]
   ·rw[if_neg h4,show(d.chal==d.limits.chal)=false by simp[h4]]
    show(({d with table:=eC.f (d.table,(dA (d.table.conns.getD k (Ty.zero .conn)) g).1,()),chal:=IntKind.wrap .i64 (d.chal+1)}:Door),(dA (d.table.conns.getD k (Ty.zero .conn)) g).2.1,(0:Int))=_
    rw[hset,aj (by omega) (by omega)]
  ·rw[if_neg h3,show((dA (d.table.conns.getD k (Ty.zero .conn)) g).2.2==3)=false from beq_eq_false_iff_ne.2 h3]
   show(({d with table:=eC.f (d.table,(dA (d.table.conns.getD k (Ty.zero .conn)) g).1,())}:Door),(dA (d.table.conns.getD k (Ty.zero .conn)) g).2.1,(0:Int))=_
   rw[hset]
 rw[if_neg hc,decide_eq_false hc,cond_false]
 cases bm.f (g,4,())with
 |true=>
  rw[cond_true,cond_true,Sa]
  unfold YA
  by_cases hr:0<=aO.f (d.halves,vW src g,())/\g.seq=((d.halves.getD (aO.f (d.halves,vW src g,())).toNat (Ty.zero .half)).irs+1)%4294967296
  ·rw[decide_eq_true hr,if_pos hr];rfl
  ·rw[decide_eq_false hr,if_neg hr];rfl
 |false=>
  rw[cond_false,cond_false]
theorem P0 (t:Tabl)(x:Tupl):¬0<=aH.f (t,x,())↔x∉t.conns.map Conn.tuple:=by
 rw[fj,<-C3,<-oh]
 simp
theorem Y9 (d:Door)(c:Conn)(g:Segm)(m:Int)(hD:DO d)(hs:bS c.r.held)(hn:c.tuple∉d.table.conns.map Conn.tuple):DO (Kk d c g m).1/\∀y∈(Kk d c g m).2.1,ai.f (y,())=true:=by
 unfold Kk
 by_cases hT:dk.f ((⟨d.table.conns++[c],d.table.waiting++[c.tuple]⟩:Tabl),d.limits,())=true
 case neg=>rw[if_neg hT];exact⟨hD,λy hy=>by cases hy⟩
 rw[if_pos hT]
 have h:=(TK _ _).1 hT
 have hc:=h.co c (by simp)
 have hr:=Gq c g hc hs
 have hset:=TO.set h d.table.conns.length (dA c g).1 hr.1 (by simp) (by simp[hr.2.1])
 have e:(d.table.conns++[c]).set d.table.conns.length (dA c g).1=d.table.conns++[(dA c g).1]:=by simp
 rw[e]at hset
 have hsub:=LA d.halves c.tuple
 refine⟨⟨hD.port,hD.c0,hD.c1,hD.keys,hset,HO.sub hD.hal hsub, ?_,hD.k0,hD.k1, ?_⟩,hr.2.2.1⟩
 ·show((tk d.halves c.tuple).length:Int)<=d.limits.halves
  have:=hsub.length_le
  have:=hD.nh
  omega
 ·intro y hy hm
  have hy2:y∈tk d.halves c.tuple:=hy
  have hm2:y.tuple∈(d.table.conns++[(dA c g).1]).map Conn.tuple:=hm
  rw[List.map_append,List.mem_append]at hm2
  rcases hm2 with h1|h1
  ·exact hD.ap y (hsub.subset hy2) h1
  ·simp only[List.map_cons,List.map_nil,List.mem_singleton,hr.2.1]at h1
   have hy3:=List.mem_map_of_mem (f:=Half.tuple) hy2
   rw[h1]at hy3
   exact Ud d.halves c.tuple hD.hal.nd hy3
theorem abE (d:Door)(t:Tupl)(g:Segm)(hD:DO d):DO (Sv d t g).1/\∀y∈(Sv d t g).2.1,ai.f (y,())=true:=by
 have nil:∀y∈([]:List Segm),ai.f (y,())=true:=λy hy=>by cases hy
 unfold Sv
 split
 ·rename_i hq
  obtain⟨h1,h2,h3,h4⟩:=hq
  have hg:=(bo g).1 h3
  have hw:=hg.2.2.2.2.2.1
  have hn:=(P0 d.table t).1 h4
  split
  ·rename_i h5
   have ho:=DF d.halves t hD.hal h5
   split
   ·exact⟨hD,yF g h3⟩
   ·split
    ·exact⟨hD,nil⟩
    ·exact Y9 d _ g 1 hD (Dk t _ _ _ g.window h2 ho hw.1 hw.2).2 hn
  ·split
   ·have ho:=Bd (cV.f (d.keys,t,(g.seq+ -1)%4294967296,(g.ack+ -1)%4294967296,())).2.1 g.opts hg.2.2.2.2.2.2.1
    exact Y9 d _ g 2 hD (Dk t _ _ _ g.window h2 ho hw.1 hw.2).2 hn
   ·exact⟨hD,yF g h3⟩
 ·exact⟨hD,nil⟩
theorem T2 (xs:List Half)(h:Half)(n:Int):nX.f (xs,h,n,())=if(xs.length:Int)<n/\eL.f (xs++[h],())=true then(xs++[h],true)else(xs,false):=by
 simp only[PX,nX,dU,List.nil_append]
 by_cases h1:n<=(xs.length:Int)
 ·rw[decide_eq_true h1,if_neg (by omega)];rfl
 ·rw[decide_eq_false h1]
  cases h2:eL.f (xs++[h],())with
  |true=>rw[if_pos ⟨by omega,rfl⟩];rfl
  |false=>rw[if_neg (by simp)];rfl
theorem Xd (d:Door)(t:Tupl)(g:Segm)(hk:gH.f (d.keys,())=true)(ht:aG.f (t,())=true)(hg:ai.f (g,())=true)(sq:Int)(h0:0<=sq/\sq<=4294967295):ai.f (({eu.f (d,t,g,())with seq:=sq}:Segm),())=true:=by
 have hp:=(bo g).1 hg
 have h1:=Lv t ht
 have ho:=Dp g.opts d.clock (by rw[gW];exact hp.2.2.2.2.2.2.1)
 rw[gW]at ho
 rw[bo]
 simp only[PX,eu,bO]
 exact⟨h1.2.2,h1.2.1,h0,by omega,by omega,by omega,ho,by simp⟩
theorem XS (d:Door)(t:Tupl)(g:Segm)(hD:DO d)(ht:aG.f (t,())=true)(hg:ai.f (g,())=true):DO (lf.f (d,t,g,())).1/\(∀y∈(lf.f (d,t,g,())).2,ai.f (y,())=true)/\(lf.f (d,t,g,())).1.table=d.table/\(lf.f (d,t,g,())).1={d with halves:=(lf.f (d,t,g,())).1.halves}:=by
 have nil:∀y∈([]:List Segm),ai.f (y,())=true:=λy hy=>by cases hy
 have hp:=(bo g).1 hg
 have hsq:=UW d t g
 have ha:=Xd d t g hD.keys ht hg
 have hown:∀y∈[eu.f (d,t,g,())],ai.f (y,())=true:=λy hy=>by
  rw[List.mem_singleton.1 hy]
  exact ha (eu.f (d,t,g,())).seq ⟨hsq.1,hsq.2 ht hD.keys hp.2.2.1⟩
 rw[Mb,(AC d).2 hD,ht,hg]
 simp only[Bool.and_self,cond_true]
 by_cases h5:0<=aO.f (d.halves,t,())
 ·rw[decide_eq_true h5,cond_true]
  have hiss:0<=(d.halves.getD (aO.f (d.halves,t,())).toNat (Ty.zero .half)).iss/\(d.halves.getD (aO.f (d.halves,t,())).toNat (Ty.zero .half)).iss<=4294967295:=by
   rw[gv]at h5|-
   obtain⟨i,e,hi,-⟩:=yg d.halves t (decide_eq_true h5)
   rw[e,aa,getD_some (List.getElem?_eq_getElem hi)]
   have:=hD.hal.ok _ (List.getElem_mem hi)
   unfold z9 at this
   simp only[Bool.and_eq_true,bU,decide_eq_true_eq]at this
   exact this.2.1
  generalize d.halves.getD (aO.f (d.halves,t,())).toNat (Ty.zero .half)=h at hiss|-
  cases(h.irs != g.seq)with
  |true=>exact⟨hD,nil,rfl,rfl⟩
  |false=>exact⟨hD,λy hy=>by
    simp only[cond_false,List.mem_singleton]at hy
    rw[hy];exact ha h.iss hiss,rfl,rfl⟩
 ·rw[decide_eq_false h5,cond_false]
  by_cases h4:0<=aH.f (d.table,t,())
  ·rw[decide_eq_false (show¬aH.f (d.table,t,())<0 by omega),cond_false]
   exact⟨hD,hown,rfl,rfl⟩
  ·rw[decide_eq_true (show aH.f (d.table,t,())<0 by omega),cond_true,T2]
   refine⟨?_,hown,rfl,rfl⟩
   by_cases h6:(d.halves.length:Int)<d.limits.halves/\eL.f (d.halves++[(⟨t,(eu.f (d,t,g,())).seq,g.seq,i3.f (g.opts,()),0,g.window⟩:Half)],())=true
   ·rw[if_pos h6]
    refine⟨hD.port,hD.c0,hD.c1,hD.keys,hD.tab,(YC _).1 h6.2, ?_,hD.k0,hD.k1, ?_⟩
    ·show(((d.halves++[_]).length:Nat):Int)<=d.limits.halves
     rw[List.length_append,List.length_singleton];omega
    ·intro y hy
     rcases List.mem_append.1 hy with h7|h7
     ·exact hD.ap y h7
     ·rw[List.mem_singleton.1 h7]
      exact(P0 d.table t).1 h4
   ·rw[if_neg h6];exact hD
theorem Z9 (d:Door)(k:Nat)(g:Segm)(hs:lx d)(hD:DO d)(hk:k<d.table.conns.length):DO (I6 d k g).1/\∀y∈(I6 d k g).2.1,ai.f (y,())=true:=by
 have nil:∀y∈([]:List Segm),ai.f (y,())=true:=λy hy=>by cases hy
 have hsk:bS (d.table.conns.getD k (Ty.zero .conn)).r.held:=by
  rw[getD_some (List.getElem?_eq_getElem hk)];exact hs _ (List.getElem_mem hk)
 have hck:CO (d.table.conns.getD k (Ty.zero .conn)):=by
  rw[getD_some (List.getElem?_eq_getElem hk)];exact hD.tab.co _ (List.getElem_mem hk)
 have hr:=Gq _ g hck hsk
 have ht:(dA (d.table.conns.getD k (Ty.zero .conn)) g).1.tuple=d.table.conns[k].tuple:=by
  rw[hr.2.1,getD_some (List.getElem?_eq_getElem hk)]
 have k0:=hD.k0
 have k1:=hD.k1
 have hset:=TO.set hD.tab k _ hr.1 hk ht
 have hmap:=Z8 d.table.conns k _ hk ht
 have base:∀ch:Int,0<=ch->ch<=d.limits.chal->DO ({d with table.conns:=d.table.conns.set k (dA (d.table.conns.getD k (Ty.zero .conn)) g).1,chal:=ch}:Door):=λch h0 h1=>by
  refine⟨hD.port,hD.c0,hD.c1,hD.keys,hset,hD.hal,hD.nh,h0,h1,λy hy hm=>hD.ap y hy ?_⟩
  have hm2:y.tuple∈(d.table.conns.set k (dA (d.table.conns.getD k (Ty.zero .conn)) g).1).map Conn.tuple:=hm
  rw[hmap]at hm2;exact hm2
 unfold I6
 split
 ·split
  ·exact⟨base d.chal k0 k1,nil⟩
  ·exact⟨base (d.chal+1) (by omega) (by omega),hr.2.2.1⟩
 ·exact⟨base d.chal k0 k1,hr.2.2.1⟩
theorem aal (src:Int)(g:Segm)(h1:ae.f (src,32,())=true)(hg:ai.f (g,())=true):aG.f (vW src g,())=true:=by
 have hp:=(bo g).1 hg
 simp only[PX,aG,vW,h1,cQ,decide_eq_true hp.1.1,decide_eq_true hp.1.2,decide_eq_true hp.2.1.1,decide_eq_true hp.2.1.2]
 rfl
theorem abp (d:Door)(t:Tupl)(g:Segm)(hD:DO d):DO (YA d t g):=by
 unfold YA
 split
 ·have hsub:=LA d.halves t
  refine⟨hD.port,hD.c0,hD.c1,hD.keys,hD.tab,HO.sub hD.hal hsub, ?_,hD.k0,hD.k1,λy hy=>hD.ap y (hsub.subset hy)⟩
  show((tk d.halves t).length:Int)<=d.limits.halves
  have:=hsub.length_le
  have:=hD.nh
  omega
 ·exact hD
theorem YU (d:Door)(src:Int)(g:Segm)(hs:lx d)(hD:DO d):DO (E9 d src g).1/\∀y∈(E9 d src g).2.1,ai.f (y,())=true:=by
 have nil:∀y∈([]:List Segm),ai.f (y,())=true:=λy hy=>by cases hy
 unfold E9
 split
 ·rename_i hq
  obtain⟨h1,h2,h3⟩:=hq
  have ht:=aal src g h2 h3
  split
  ·exact⟨hD,yF g h3⟩
  ·split
   ·rename_i hc
    obtain⟨k,e,hk,-⟩:=Hr d _ hc
    rw[e,aa]
    exact Z9 d k g hs hD hk
   ·cases bm.f (g,4,())with
    |true=>exact⟨abp d _ g hD,nil⟩
    |false=>
     rw[cond_false]
     cases(bm.f (g,2,())&&(!bm.f (g,16,())&& !bm.f (g,1,())))with
     |true=>exact⟨(XS d _ g hD ht h3).1,(XS d _ g hD ht h3).2.1⟩
     |false=>
      rw[cond_false]
      cases(bm.f (g,16,())&& !bm.f (g,2,()))with
      |true=>exact abE d _ g hD
      |false=>
       rw[cond_false]
       cases bm.f (g,16,())with
       |true=>exact⟨hD,yF g h3⟩
       |false=>exact⟨hD,nil⟩
 ·exact⟨hD,nil⟩
theorem jK (n sz:Int)(h1:1<=sz)(h6:sz<=6)(h:ae.f (n,8*sz,())=true):((au.f (n,sz,())).length:Int)=sz:=by
 have hw:IntKind.wrap .i64 (8*sz)=8*sz:=aj (by omega) (by omega)
 simp only[PX,au,ar,d7,hw,h,decide_eq_true h1,decide_eq_true h6,Bool.and_self,Bool.not_true,cond_false]
 generalize Int.toNat (IntKind.wrap .i64 (sz-1)-0+1)=k
 generalize IntKind.wrap .i64 (sz-1)=i
 cases hf:aR (λj a=>(dD j a).nice) (-1) k i (n,List.replicate sz.toNat 0)with
 |out e=>exact Empty.elim e
 |next a=>
  have:=Ap (P:=λa:Int×List Int=>a.2.length=sz.toNat) (λi a a' ha h=>by
   simp only[PX,dD]at h
   cases h
   simpa using ha) _ _ _ _ (by simp) hf
  simp only[PX,Stp.elim,aX]
  omega
theorem Pz (n sz:Int)(h1:1<=sz)(h6:sz<=6)(h:ae.f (n,8*sz,())=false):au.f (n,sz,())=[]:=by
 have hw:IntKind.wrap .i64 (8*sz)=8*sz:=aj (by omega) (by omega)
 simp only[PX,au,ar,hw,h,decide_eq_true h1,decide_eq_true h6,Bool.and_self,Bool.not_true,Bool.not_false,cond_false,cond_true]
theorem wI (n sz:Int)(h1:1<=sz)(h6:sz<=6):(au.f (n,sz,())==[])= !ae.f (n,8*sz,()):=by
 rcases Bool.eq_false_or_eq_true (ae.f (n,8*sz,()))with h|h
 ·have:=jK n sz h1 h6 h
  rw[h]
  cases hp:au.f (n,sz,())with
  |nil=>rw[hp]at this;simp at this;omega
  |cons a r=>rfl
 ·rw[Pz n sz h1 h6 h,h];rfl
def ws:Bool->ac->Int
 |_,[]=>0
 |false,b::t=>256*(b.toNat:Int)+ws true t
 |true,b::t=>(b.toNat:Int)+ws false t
theorem abr (v:ac)(hv:v.length<=4294967296):∀(n j:Nat) (a:Int),j+n=v.length->0<=a->a<=65536*(j:Int)->aR (λj a=>(gu v j a).nice) 1 n (j:Int) a= .next (a+ws (j%2==1) (v.drop j))
 |0,j,a,h,_,_=>by rw[List.drop_of_length_le (by omega)];simp[aR,ws]
 |n+1,j,a,h,h0,h1=>by
  have hj:j<v.length:=by omega
  have hb:=pO v[j]
  rw[List.drop_eq_getElem_cons hj]
  have ht:(((j:Int).tmod 2)==0)= !(j%2==1):=by
   rw[Int.tmod_eq_emod_of_nonneg (by omega),Bool.eq_iff_iff]
   simp;omega
  have hnx:((j+1)%2==1)= !(j%2==1):=by
   rw[Bool.eq_iff_iff];simp;omega
  cases hp:(j%2==1)with
  |true=>
   have ih:=abr v hv n (j+1) (a+(v[j].toNat:Int)) (by omega) (by omega) (by omega)
   simp only[PX,gu]at ih
   simp only[aR,PX,gu,ht,hp,aa,iX _ _ hj,Bool.not_true,cond_false,Stp.elim,ws]
   rw[aj (m:=(v[j].toNat:Int)) (by omega) (by omega),aj (by omega) (by omega),show(j:Int)+1=((j+1:Nat):Int) by omega,ih,hnx,hp]
   simp only[Bool.not_true]
   congr 1;omega
  |false=>
   have ih:=abr v hv n (j+1) (a+256*(v[j].toNat:Int)) (by omega) (by omega) (by omega)
   simp only[PX,gu]at ih
   simp only[aR,PX,gu,ht,hp,aa,iX _ _ hj,Bool.not_false,cond_true,Stp.elim,ws]
   rw[aj (m:=(v[j].toNat:Int)) (by omega) (by omega),aj (m:=(v[j].toNat:Int)*256) (by omega) (by omega),aj (by omega) (by omega),show(j:Int)+1=((j+1:Nat):Int) by omega,show a+(v[j].toNat:Int)*256=a+256*(v[j].toNat:Int) by omega,ih,hnx,hp]
   simp only[Bool.not_false]
   congr 1;omega
theorem uF (v:ac)(hv:v.length<=4294967296):qg.f (v,())=ws false v:=by
 simp only[PX,qg,jV]
 have:=abr v hv v.length 0 0 (by omega) (by omega) (by omega)
 rw[av,show(0:Int)=((0:Nat):Int) from rfl]
 rw[show(0:Int)=((0:Nat):Int) from rfl]at this
 rw[this]
 simp[Stp.elim]
theorem aaV (v:ac)(hv:v.length<=4294967296):∀(k j:Nat) (a:Int),k=(v.length-j+1)/2->0<=a->a<=65536*(j:Int)->aR (λj a=>(gz v j a).nice) 2 k (j:Int) a= .next (a+ws false (v.drop j))
 |0,j,a,h,_,_=>by rw[List.drop_of_length_le (by omega)];simp[aR,ws]
 |k+1,j,a,h,h0,h1=>by
  have hj:j<v.length:=by omega
  have hb:=pO v[j]
  rw[List.drop_eq_getElem_cons hj]
  by_cases h2:j+1<v.length
  ·have hb2:=pO v[j+1]
   have ih:=aaV v hv k (j+2) (a+256*(v[j].toNat:Int)+(v[j+1].toNat:Int)) (by omega) (by omega) (by omega)
   rw[List.drop_eq_getElem_cons h2]
   simp only[PX,gz]at ih
   simp only[aR,PX,gz,aa,iX _ _ hj,Stp.elim,ws]
   rw[aj (m:=(j:Int)+1) (by omega) (by omega),decide_eq_true (show(j:Int)+1<(v.length:Int) by omega),cond_true,show((j:Int)+1).toNat=j+1 by omega,iX _ _ h2,aj (m:=(v[j].toNat:Int)) (by omega) (by omega),aj (m:=256*(v[j].toNat:Int)) (by omega) (by omega),aj (m:=a+256*(v[j].toNat:Int)) (by omega) (by omega),aj (m:=(v[j+1].toNat:Int)) (by omega) (by omega),aj (by omega) (by omega)]
   simp only[Stp.elim]
   rw[show(j:Int)+2=((j+2:Nat):Int) by omega,ih]
   congr 1
   have e:ws false (List.drop (j+1+1) v)=ws false (List.drop (j+2) v):=rfl
   omega
  ·have ih:=aaV v hv k (j+2) (a+256*(v[j].toNat:Int)) (by omega) (by omega) (by omega)
   rw[List.drop_of_length_le (show v.length<=j+1 by omega)]
   rw[List.drop_of_length_le (show v.length<=j+2 by omega)]at ih
   simp only[PX,gz]at ih
   simp only[aR,PX,gz,aa,iX _ _ hj,Stp.elim,ws]
   rw[aj (m:=(j:Int)+1) (by omega) (by omega),decide_eq_false (show¬(j:Int)+1<(v.length:Int) by omega),cond_false,aj (m:=(v[j].toNat:Int)) (by omega) (by omega),aj (m:=256*(v[j].toNat:Int)) (by omega) (by omega),aj (m:=a+256*(v[j].toNat:Int)) (by omega) (by omega)]
   simp only[Stp.elim]
   rw[show(j:Int)+2=((j+2:Nat):Int) by omega,ih]
   congr 1
   simp only[ws];omega
theorem MN (v:ac)(hv:v.length<=4294967296):yQ.f (v,())=ws false v:=by
 simp only[PX,yQ,dz]
 have:=aaV v hv ((v.length+1)/2) 0 0 (by omega) (by omega) (by omega)
 rw[show Int.toNat (((v.length:Int)-0+1)/2)=(v.length+1)/2 by omega,show(0:Int)=((0:Nat):Int) from rfl]
 rw[show(0:Int)=((0:Nat):Int) from rfl]at this
 rw[this]
 simp[Stp.elim]
theorem YI (n:Int):Bh.f (n,())=BK.f (n,()):=by
 have e:sG=sH:=by
  funext a
  unfold sG sH
  rw[show decide (65535<a)=decide (65536<=a) from decide_eq_decide.2 (by omega)]
 simp only[PX,Bh,BK,oj,oo,e]
theorem N0 (v:ac)(hv:v.length<=4294967296):u9.f (v,())=r7.f (v,()):=by
 simp only[PX,u9,r7,MN v hv,uF v hv,YI]
theorem MT:∀(n:Nat) (a b:ac),a.length=2*n->ws false (a++b)=ws false a+ws false b
 |0,a,b,h=>by
  have e:a=[]:=List.eq_nil_of_length_eq_zero (by omega)
  subst e
  simp[ws]
 |n+1,[],b,h=>by simp at h
 |n+1,[x],b,h=>by simp at h;omega
 |n+1,x::y::a,b,h=>by
  have ih:=MT n a b (by simp only[List.length_cons]at h;omega)
  simp only[List.cons_append,ws,ih];omega
theorem CX (a b n:Int):mP.f (a,b,n,())=dV.f (a,b,n,()):=by
 have h1:=wI a 4 (by omega) (by omega)
 have h2:=wI b 4 (by omega) (by omega)
 have h3:=wI n 2 (by omega) (by omega)
 rw[show(8:Int)*4=32 from rfl]at h1 h2
 rw[show(8:Int)*2=16 from rfl]at h3
 simp only[PX,mP,dV,nW,h1,h2,h3]
theorem acb:ra=qs:=rfl
theorem Km (o:Opti):oz.f (o,())=cg.f (o,()):=by
 simp only[PX,oz,cg,gW,nW,iD,iH,acb]
 rcases Bool.eq_false_or_eq_true (aF.f (o,()))with h|h
 case inr=>rw[h];rfl
 have hs:=eM o h
 have e:decide (0<=o.scale)=(o.scale != -1):=by
  rw[Bool.eq_iff_iff];simp;omega
 rw[h]
 cases h1:(o.mss != 0)<;>cases h2:(o.scale != -1)<;>cases h3:o.sack<;>cases h4:o.stamp<;>simp only[e,h2,h3,h4,Bool.not_true,cond_true,cond_false,List.nil_append,List.append_assoc]
theorem aaw (o:Opti):(cg.f (o,())).length<=20:=(cg.c.h (o,()) trivial).2
theorem aav (a b n:Int):(dV.f (a,b,n,())).length<=20:=(dV.c.h (a,b,n,()) trivial).2
theorem IT (n sz:Int):((au.f (n,sz,())).length:Int)<=max sz 0:=(au.c.h (n,sz,()) trivial).2
theorem Lk (g:Segm)(a b:Int):ol.f (g,a,b,())=cj.f (g,a,b,()):=by
 simp only[PX,ol,cj,pb,Km,CX,nW]
 rcases Bool.eq_false_or_eq_true (ai.f (g,()))with h|h
 case inr=>rw[h,Bool.not_false,cond_true,cond_true]
 rw[h,Bool.not_true,cond_false,cond_false]
 have hb:=gE g h
 rw[N0]
 have h1:=aaw g.opts
 generalize IntKind.wrap .i64 ((IntKind.wrap .i64 (20+((cg.f (g.opts,())).length:Int)))+(g.body.length:Int))=n
 have h2:=aav a b n
 have h3:=IT g.from_ 2
 have h4:=IT g.to 2
 have h5:=IT g.seq 4
 have h6:=IT g.ack 4
 have h7:=IT (IntKind.wrap .i64 ((IntKind.wrap .i64 ((IntKind.wrap .i64 (20+((cg.f (g.opts,())).length:Int))).tdiv 4))*16)) 1
 have h8:=IT g.flags 1
 have h9:=IT g.window 2
 simp only[List.length_append,List.length_cons,List.length_nil]
 omega
theorem XL (f:Fram):yy.f (f,())=fJ.f (f,()):=by
 simp only[PX,yy,fJ,cU,bx,ar]
theorem wM (f:Fram):lP.f (f,())=fR.f (f,()):=by
 simp only[PX,lP,fR,XL,nW]
theorem Tj (p:Pack):uy.f (p,())=lB.f (p,()):=by
 simp only[PX,uy,lB,cU,bx,ar]
theorem Hx (p:Pack)(h:lB.f (p,())=true):ae.f (p.src,32,())=true/\ae.f (p.dst,32,())=true/\1<=p.ttl/\p.ttl<=255/\ae.f (p.proto,8,())=true/\ae.f (p.id,16,())=true/\p.body.length<=1480:=by
 simp only[PX,lB,ar]at h
 revert h
 cases ae.f (p.src,32,())<;>cases ae.f (p.dst,32,())<;>cases ae.f (p.proto,8,())<;>cases ae.f (p.id,16,())<;>simp<;>omega
theorem Ng (p:Pack):pH.f (p,())=pI.f (p,()):=by
 simp only[PX,pH,pI,Tj,nW]
 rcases Bool.eq_false_or_eq_true (lB.f (p,()))with h|h
 case inr=>rw[h,Bool.not_false,cond_true,cond_true]
 obtain⟨hs,hd,t1,t2,hp,hi,hb⟩:=Hx p h
 rw[h,Bool.not_true,cond_false,cond_false]
 have w:IntKind.wrap .i64 (20+(p.body.length:Int))=20+(p.body.length:Int):=aj (by omega) (by omega)
 rw[w]
 have n1:ae.f (20+(p.body.length:Int),8*2,())=true:=by
  rw[show(8:Int)*2=16 from rfl,cQ]
  simp;omega
 have l1:=jK (20+(p.body.length:Int)) 2 (by omega) (by omega) n1
 have l2:=jK p.id 2 (by omega) (by omega) hi
 have l3:=jK p.ttl 1 (by omega) (by omega) (by rw[show(8:Int)*1=8 from rfl,U2];simp;omega)
 have l4:=jK p.proto 1 (by omega) (by omega) hp
 have l5:=jK p.src 4 (by omega) (by omega) hs
 have l6:=jK p.dst 4 (by omega) (by omega) hd
 generalize au.f (20+(p.body.length:Int),2,())=a at*
 generalize au.f (p.id,2,())=b at*
 generalize au.f (p.ttl,1,())=c at*
 generalize au.f (p.proto,1,())=d at*
 generalize au.f (p.src,4,())=e at*
 generalize au.f (p.dst,4,())=f at*
 have key:u9.f ((((([69,0]++a)++b)++[0,0])++c++d)++(e++f),())=r7.f ((((((([69,0]++a)++b)++[0,0])++c)++d)++[0,0])++(e++f),()):=by
  rw[N0]
  ·have e1:qg.f ((((([69,0]++a)++b)++[0,0])++c++d)++(e++f),())=qg.f ((((((([69,0]++a)++b)++[0,0])++c)++d)++[0,0])++(e++f),()):=by
    rw[uF,uF,MT 5 (((([69,0]++a)++b)++[0,0])++c++d),MT 6 ((((([69,0]++a)++b)++[0,0])++c++d)++[0,0]),MT 5 (((([69,0]++a)++b)++[0,0])++c++d)]
    ·simp[ws]
    all_goals simp only[List.length_append,List.length_cons,List.length_nil];omega
   simp only[PX,r7,e1]
  ·simp only[List.length_append,List.length_cons,List.length_nil];omega
 rw[key]
def hwN (v:List Entr)(ip:Int):Int×Bool:=match v.findIdx? (λe=>e.ip==ip)with
 |some i=>(match v[i]? with|some x=>(x.hw,true)|none=>(0,false))
 |none=>(0,false)
theorem y5 (v:List Entr)(ip:Int):AI.f (v,ip,())=hwN v ip:=by
 simp only[PX,AI,sj]
 rw[av,bA v _ rfl (F:=λj x _=>bif x.ip==ip then .out x.hw else .next ()) (λj x a h=>by
  simp only[PX,Es,aa,getD_some h]),jY (p:=λe:Entr=>e.ip==ip) (w:=λ_ x=>x.hw)]
 unfold hwN
 cases v.findIdx? (λe=>e.ip==ip)with
 |none=>rfl
 |some i=>cases h:v[i]? <;>simp only[h]<;>rfl
theorem A6 (v:List Entr)(ip:Int):ya.f (v,ip,())=gk (λe=>e.ip==ip) v:=by
 simp only[PX,ya,pW]
 rw[lL (λe:Entr=>e.ip==ip) v (λj x a h=>by simp only[PX,B1,aa,getD_some h])]
 unfold gk
 cases v.findIdx? (λe=>e.ip==ip)<;>rfl
theorem aaQ (v:List Entr)(ip:Int):OK.f (v,ip,())=AI.f (v,ip,()):=by
 simp only[PX,OK,A6,y5]
 unfold hwN gk
 cases hf:v.findIdx? (λe=>e.ip==ip)with
 |none=>rfl
 |some i=>
  obtain⟨h1,_,_⟩:=List.findIdx?_eq_some_iff_getElem.1 hf
  have h2:v[i]? =some v[i]:=List.getElem?_eq_getElem h1
  simp only[h2,aa,getD_some h2,decide_eq_false (show¬(i:Int)<0 by omega),cond_false]
theorem YR (v:List Entr)(ip:Int):(hwN v ip).2=v.any (λe=>e.ip==ip):=by
 have:=oh (λe:Entr=>e.ip==ip) v
 rw[<-this]
 unfold hwN gk
 cases hf:v.findIdx? (λe=>e.ip==ip)with
 |none=>rfl
 |some i=>
  obtain⟨h1,_,_⟩:=List.findIdx?_eq_some_iff_getElem.1 hf
  have h2:v[i]? =some v[i]:=List.getElem?_eq_getElem h1
  simp only[h2,decide_eq_true (show(0:Int)<=(i:Int) by omega)]
theorem X8 (xs:List Entr):(∀(j:Nat) (y:Entr),xs[j]? =some y->(xs.take j).any (λh=>h.ip==y.ip)=false)↔(xs.map Entr.ip).Nodup:=by
 unfold List.Nodup
 rw[List.pairwise_iff_getElem]
 constructor
 ·intro h i j hi hj hij he
  rw[List.length_map]at hi hj
  simp only[List.getElem_map]at he
  have:=h j xs[j] (List.getElem?_eq_getElem hj)
  rw[List.any_eq_false]at this
  refine this xs[i] ?_ (by rw[he,beq_self_eq_true])
  rw[List.mem_take_iff_getElem]
  exact⟨i,by omega,rfl⟩
 ·intro h j y hy
  rw[List.any_eq_false]
  intro z hz he
  rw[List.mem_take_iff_getElem]at hz
  obtain⟨i,hi,rfl⟩:=hz
  obtain⟨hj,rfl⟩:=List.getElem?_eq_some_iff.1 hy
  have:=h i j (by rw[List.length_map];omega) (by rw[List.length_map];exact hj) (by omega)
  simp only[List.getElem_map]at this
  exact this (beq_iff_eq.1 he)
def Qx (e:Entr):Bool:=ae.f (e.ip,32,())&&(ae.f (e.hw,48,())&&(decide (0<=e.age)&&decide (e.age<=9)))
structure EO (v:List Entr):Prop where
 ok:∀e∈v,Qx e=true
 nd:(v.map Entr.ip).Nodup
 len:v.length<=4
theorem xr (v:List Entr):gM.f (v,())=true↔EO v:=by
 have f1:=HG v (f:=λj a=>(eg v v j a).nice) (P:=λj y=>Qx y=true/\(v.take j).any (λh=>h.ip==y.ip)=false) (λj y hy=>by
  simp only[PX,eg,aa,getD_some hy,y5,YR,List.drop_zero,ar,Qx]
  cases ae.f (y.ip,32,())<;>cases ae.f (y.hw,48,())<;>cases(decide (0<=y.age)&&decide (y.age<=9))<;>cases(v.take j).any (λh=>h.ip==y.ip)<;>simp)
 have f3:=X8 v
 have f5:aR (λj a=>(eg v v j a).nice) 1 (Int.toNat ((v.length:Int)-0)) 0 ()= .next ()↔(∀e∈v,Qx e=true)/\(v.map Entr.ip).Nodup:=by
  rw[f1,<-f3,<-uG]
  exact⟨λh=>⟨λj y hy=>(h j y hy).1,λj y hy=>(h j y hy).2⟩,λh j y hy=>⟨h.1 j y hy,h.2 j y hy⟩⟩
 have e:gM.f (v,())=true↔v.length<=4/\aR (λj a=>(eg v v j a).nice) 1 (Int.toNat ((v.length:Int)-0)) 0 ()= .next ():=by
  simp only[PX,gM,jI]
  rw[show v.length<=4↔decide (4<(v.length:Int))=false by simp;omega]
  cases decide (4<(v.length:Int))<;>cases aR (λj a=>(eg v v j a).nice) 1 (Int.toNat ((v.length:Int)-0)) 0 ()<;>simp[Stp.elim]
 rw[e,f5]
 constructor
 ·rintro⟨h1,h2,h3⟩;exact⟨h2,h3,h1⟩
 ·rintro⟨h2,h3,h1⟩;exact⟨h1,h2,h3⟩
theorem Mz (v:List Entr):tU.f (v,())=gM.f (v,()):=by
 simp only[PX,tU,gM,me,jI]
 have h1:=yS v (f:=λj a=>(rh v j a).nice) (g:=λj a=>(eg v v j a).nice) (k:=Int.toNat ((v.length:Int)-0)) (av _) (λj y hy=>by
  simp only[PX,rh,eg,aa,getD_some hy,cU,bx,ar,A6,y5,YR,List.drop_zero,oh]
  cases ae.f (y.ip,32,())<;>cases ae.f (y.hw,48,())<;>cases(decide (0<=y.age)&&decide (y.age<=9))<;>cases(v.take j).any (λh=>h.ip==y.ip)<;>simp)
 rw[show decide ((v.length:Int)<=4)= !decide (4<(v.length:Int)) by rw[Bool.eq_iff_iff];simp]
 rcases h1 with⟨a,b,h5,h6⟩|⟨h5,h6⟩
 ·rw[h5,h6]
  cases decide (4<(v.length:Int))<;>rfl
 ·rw[h5,h6]
  cases decide (4<(v.length:Int))<;>rfl
theorem HR (l:Link):tz.f (l,())=eV.f (l,()):=by
 simp only[PX,tz,eV,cU,Mz]
theorem U1 (l:Link):eV.f (l,())=true↔((0<=l.mac/\l.mac<=281474976710655)/\l.mac≠281474976710655/\(0<=l.ip/\l.ip<=4294967295)/\EO l.cache):=by
 rw[<-xr]
 simp only[PX,eV,Qe,bU]
 rw[show(l.mac≠281474976710655)↔(l.mac != 281474976710655)=true by simp,show(0<=l.mac/\l.mac<=281474976710655)↔(decide (0<=l.mac)&&decide (l.mac<=281474976710655))=true by simp,show(0<=l.ip/\l.ip<=4294967295)↔(decide (0<=l.ip)&&decide (l.ip<=4294967295))=true by simp]
 cases(decide (0<=l.mac)&&decide (l.mac<=281474976710655))<;>cases(l.mac != 281474976710655)<;>cases(decide (0<=l.ip)&&decide (l.ip<=4294967295))<;>simp
theorem XA (l:Link)(ip:Int)(b:ac):ye.f (l,ip,b,())=i4.f (l,ip,b,()):=by
 simp only[PX,ye,i4,aaQ,HR,Ng,wM]
 cases eV.f (l,())<;>cases(AI.f (l.cache,ip,())).2<;>simp only[Bool.not_true,Bool.not_false,cond_true,cond_false]
theorem LF {T U W:Type}(xs:List T)(F:T->List U){f:Int->List U->Stp (List U) W}(h:∀(j:Nat) x a,xs[j]? =some x->f (j:Int) a= .next (a++F x)):aR f 1 (Int.toNat ((xs.length:Int)-0)) 0 []= .next (xs.flatMap F):=by
 rw[av,bA xs _ rfl (F:=λ_ x a=> .next (a++F x)) h]
 have key:∀(r:List T) (j:Nat) (a:List U),eT (W:=W) (λ_ x a=> .next (a++F x)) j r a= .next (a++r.flatMap F):=by
  intro r
  induction r with
  |nil=>intro j a;simp[eT]
  |cons x r ih=>
   intro j a
   have:=ih (j+1) (a++F x)
   rw[List.flatMap_cons,<-List.append_assoc,<-this]
   rfl
 rw[key];simp
def HE (l:Link)(ip:Int)(g:Segm):List ac:=bif cj.f (g,l.ip,ip,())==[]then[]else bif (i4.f (l,ip,cj.f (g,l.ip,ip,()),())).2 then[(i4.f (l,ip,cj.f (g,l.ip,ip,()),())).1]else[]
theorem Nu (s:Stac)(ip:Int)(xs:List Segm):yP.f (s,ip,xs,())=xs.flatMap (HE s.link ip):=by
 simp only[PX,yP,jR]
 rw[LF xs (HE s.link ip) (λj x a h=>by
  simp only[PX,xH,aa,getD_some h,HE]
  cases(cj.f (x,s.link.ip,ip,())==[])<;>cases(i4.f (s.link,ip,cj.f (x,s.link.ip,ip,()),())).2<;>simp)]
 rfl
theorem KC (a b n:Int)(ha:ae.f (a,32,())=true)(hb:ae.f (b,32,())=true)(hn:ae.f (n,16,())=true):(dV.f (a,b,n,())==[])=false:=by
 simp only[PX,dV,ha,hb,hn,Bool.not_true,cond_false]
 simp
theorem JJ (g:Segm)(a b:Int)(hg:ai.f (g,())=true)(ha:ae.f (a,32,())=true)(hb:ae.f (b,32,())=true):(cj.f (g,a,b,())==[])=false:=by
 have h1:=aaw g.opts
 have h2:=gE g hg
 have w1:IntKind.wrap .i64 (20+((cg.f (g.opts,())).length:Int))=20+((cg.f (g.opts,())).length:Int):=aj (by omega) (by omega)
 have w2:IntKind.wrap .i64 (20+((cg.f (g.opts,())).length:Int)+(g.body.length:Int))=20+((cg.f (g.opts,())).length:Int)+(g.body.length:Int):=aj (by omega) (by omega)
 have hp:=KC a b (20+((cg.f (g.opts,())).length:Int)+(g.body.length:Int)) ha hb (by rw[cQ];simp;omega)
 simp only[PX,cj,hg,w1,w2,Bool.not_true,cond_false]
 rw[hp,cond_false]
 simp
theorem ZH (v:List Entr)(ip:Int)(h:(hwN v ip).2=true):∃e∈v,e.ip=ip:=by
 rw[YR,List.any_eq_true]at h
 obtain⟨e,h1,h2⟩:=h
 exact⟨e,h1,by simpa using h2⟩
theorem KX (l:Link)(ip:Int)(b:ac)(h:(i4.f (l,ip,b,())).2=true):eV.f (l,())=true/\(hwN l.cache ip).2=true:=by
 simp only[PX,i4,y5]at h
 revert h
 cases eV.f (l,())<;>cases(hwN l.cache ip).2<;>simp
theorem Od (s:Stac)(ip:Int)(xs:List Segm)(hx:∀g∈xs,ai.f (g,())=true):y9.f (s,ip,xs,())=xs.flatMap (HE s.link ip):=by
 simp only[PX,y9,jC]
 rw[LF xs (HE s.link ip) (λj x a h=>by
  simp only[PX,xR,aa,getD_some h,HE,Lk,XA]
  cases hk:(i4.f (s.link,ip,cj.f (x,s.link.ip,ip,()),())).2 with
  |false=>cases(cj.f (x,s.link.ip,ip,())==[])<;>simp
  |true=>
   obtain⟨h1,h2⟩:=KX _ _ _ hk
   obtain⟨_,_,h3,h4⟩:=(U1 _).1 h1
   obtain⟨e,he,rfl⟩:=ZH _ _ h2
   have h5:=h4.ok e he
   unfold Qx at h5
   rw[Bool.and_eq_true]at h5
   rw[JJ x s.link.ip e.ip (hx x (Bc h)) (by rw[bU];simp[h3]) h5.1]
   rfl)]
 rfl
theorem MU (s:Stac):pX.f (s,())=s:=by simp only[PX,pX,lI,f9,rS]
theorem Ls (s:Stac):yB.f (s,())=s:=by simp only[PX,yB,ql,n3,List.nil_append]
theorem Mu (s:Stac)(hs:lx s.door):yb.f (s,())=lH.f (s,()):=by simp only[PX,yb,lH,HR,Iw s.door hs]
theorem RK (s:Stac):lH.f (s,())=true↔eV.f (s.link,())=true/\bQ.f (s.door,())=true:=by
 simp only[PX,lH]
 cases eV.f (s.link,())<;>simp
def zj (b:ac):Int:=b.foldl (λn x=>n*256+(x.toNat:Int)) 0
def zw:Nat->Int->ac
 |0,_=>[]
 |k+1,n=>zw k (n/256)++[UInt8.ofNat (n%256).toNat]
theorem x5 (b:ac)(x:UInt8):zj (b++[x])=zj b*256+(x.toNat:Int):=by simp[zj]
theorem NW {P:ac->Prop}(h0:P [])(h1:∀b x,P b->P (b++[x]))(b:ac):P b:=by
 have key:∀(n:Nat) (b:ac),b.length=n->P b:=by
  intro n
  induction n with
  |zero=>intro b hb;rw[List.eq_nil_of_length_eq_zero hb];exact h0
  |succ n ih=>
   intro b hb
   have hne:b≠[]:=by rintro rfl;simp at hb
   rw[<-List.dropLast_concat_getLast hne]
   exact h1 _ _ (ih _ (by rw[List.length_dropLast];omega))
 exact key _ b rfl
theorem Z3 (b:ac):0<=zj b:=by
 induction b using NW with
 |h0=>simp[zj]
 |h1 b x ih=>
  rw[x5];omega
theorem aap (b:ac):zj b<256 ^ b.length:=by
 induction b using NW with
 |h0=>simp[zj]
 |h1 b x ih=>
  rw[x5,List.length_append,List.length_singleton,Int.pow_succ]
  have:=pO x
  omega
theorem aao (x:UInt8):UInt8.ofNat x.toNat=x:=by simp
theorem WD (b:ac):zw b.length (zj b)=b:=by
 induction b using NW with
 |h0=>rfl
 |h1 b x ih=>
  rw[x5,List.length_append,List.length_singleton]
  have hx:=pO x
  have e1:(zj b*256+(x.toNat:Int))/256=zj b:=by omega
  have e2:((zj b*256+(x.toNat:Int))%256).toNat=x.toNat:=by omega
  simp only[zw,e1,e2,ih,aao]
theorem K6 (k:Nat)(x:Int)(t:List Int):(List.replicate (k+1) (0:Int)++t).set k x=List.replicate k 0++(x::t):=by
 rw[List.replicate_succ',List.append_assoc,List.set_append_right _ _ (by simp)]
 simp
theorem Yb (n:Int):((UInt8.ofNat (n%256).toNat).toNat:Int)=n%256:=by
 rw[UInt8.toNat_ofNat'];omega
theorem G7 (b:ac):az (il b)=b:=by
 unfold az il
 rw[List.map_map]
 refine(List.map_congr_left (g:=id) λx _=> ?_).trans (List.map_id b)
 simp
theorem P7 {f:Int->Int×List Int->Stp (Int×List Int) Empty}(hf:∀i a,f i a= .next (a.1/256,a.2.set i.toNat (a.1%256))):∀(m:Nat) (n:Int) (t:List Int),∃n',aR f (-1) m ((m:Int)-1) (n,List.replicate m 0++t)= .next (n',il (zw m n)++t)
 |0,n,t=>⟨n,by simp[aR,zw,il]⟩
 |m+1,n,t=>by
  obtain⟨n',ih⟩:=P7 hf m (n/256) (n%256::t)
  refine⟨n', ?_⟩
  have e1:((m+1:Nat):Int)-1=(m:Int):=by omega
  simp only[aR,hf,Stp.elim,e1,aa,K6]
  rw[show(m:Int)+ -1=(m:Int)-1 by omega,ih]
  simp only[zw,il,List.map_append,List.map_cons,List.map_nil,Yb,List.append_assoc,List.cons_append,List.nil_append]
theorem fT (n sz:Int)(h1:1<=sz)(h6:sz<=6)(h:ae.f (n,8*sz,())=true):au.f (n,sz,())=zw sz.toNat n:=by
 have hw:IntKind.wrap .i64 (8*sz)=8*sz:=aj (by omega) (by omega)
 obtain⟨n',e⟩:=P7 (f:=λj a=>(dD j a).nice) (λi a=>by
  simp only[PX,dD,qe]
  rw[Int.fdiv_eq_ediv_of_nonneg _ (by omega)]) sz.toNat n []
 rw[List.append_nil,List.append_nil]at e
 have e1:IntKind.wrap .i64 (sz-1)=(sz.toNat:Int)-1:=by rw[aj (by omega) (by omega)];omega
 have e2:Int.toNat (((sz.toNat:Int)-1)-0+1)=sz.toNat:=by omega
 simp only[PX,au,ar,d7,hw,h,decide_eq_true h1,decide_eq_true h6,Bool.and_self,Bool.not_true,cond_false,e1,e2]
 refine(congrArg (Stp.elim _ _) e).trans ?_
 simp only[Stp.elim,G7]
def gw (s:ac)(p n:Nat):Int:=zj ((s.drop p).take n)
theorem XW {s:ac}{p n:Nat}(h:p+n<=s.length):((s.drop p).take n).length=n:=by
 rw[List.length_take,List.length_drop];omega
theorem Yg {s:ac}{p n:Nat}(h:p+n<=s.length):0<=gw s p n/\gw s p n<256 ^ n:=by
 refine⟨Z3 _, ?_⟩
 have:=aap ((s.drop p).take n)
 rwa [XW h]at this
theorem sr {s:ac}{p n:Nat}(h:p+n<=s.length):zw n (gw s p n)=(s.drop p).take n:=by
 have:=WD ((s.drop p).take n)
 rwa [XW h]at this
theorem Hn (s:ac)(p:Nat){f:Int->Int->Stp Int Empty}(hf:∀(j:Nat) (a:Int),p+j<s.length->0<=a->a<1099511627776->f (j:Int) a= .next (a*256+af s (p+j))):∀(m j:Nat),j+m<=6->p+j+m<=s.length->aR f 1 m (j:Int) (zj ((s.drop p).take j))= .next (zj ((s.drop p).take (j+m)))
 |0,j,_,_=>rfl
 |m+1,j,h1,h2=>by
  have hr:=Yg (s:=s) (p:=p) (n:=j) (by omega)
  unfold gw at hr
  have hj:(256:Int) ^ j<=1099511627776:=by
   rcases(show j=0\/j=1\/j=2\/j=3\/j=4\/j=5 by omega)with rfl|rfl|rfl|rfl|rfl|rfl<;>decide
  have hp:p+j<s.length:=by omega
  have e:(s.drop p).take (j+1)=(s.drop p).take j++[s[p+j]]:=by
   rw[List.take_succ_eq_append_getElem (by rw[List.length_drop];omega),List.getElem_drop]
  simp only[aR]
  rw[hf j _ (by omega) hr.1 (by omega)]
  simp only[Stp.elim]
  rw[iX s (p+j) hp,<-x5,<-e,show(j:Int)+1=((j+1:Nat):Int) by omega,Hn s p hf m (j+1) (by omega) (by omega),show j+1+m=j+(m+1) by omega]
theorem acg (a b:Int)(h0:0<=a)(h1:a<1099511627776)(h2:0<=b)(h3:b<=255):bits .or .i64 (a*256) b=a*256+b:=by
 obtain⟨x,rfl⟩:=Int.eq_ofNat_of_zero_le h0
 obtain⟨y,rfl⟩:=Int.eq_ofNat_of_zero_le h2
 have key:(BitVec.ofInt 64 ((x:Int)*256)|||BitVec.ofInt 64 (y:Int)).toNat=x*256+y:=by
  rw[BitVec.toNat_or,BitVec.toNat_ofInt,BitVec.toNat_ofInt,show((x:Int)*256%((2 ^ 64:Nat):Int)).toNat=x*256 by omega,show((y:Int)%((2 ^ 64:Nat):Int)).toNat=y by omega,show x*256=x<<<8 by rw[Nat.shiftLeft_eq],Nat.shiftLeft_add_eq_or_of_lt (by omega)]
 show IntKind.i64.wrap ((BitVec.ofInt 64 ((x:Int)*256)|||BitVec.ofInt 64 (y:Int)).toNat:Nat)=_
 rw[key,cO]
 omega
theorem Nx (s:ac)(p n:Nat)(h1:1<=n)(h6:n<=6)(hp:p+n<=s.length)(hs:s.length<=4294967296):yD.f (s,(p:Int),(n:Int),())=(gw s p n,true):=by
 have e:=Hn s p (f:=λj a=>(rz s (p:Int) j a).nice) (λj a h ha hb=>by
  have:=fY s (p+j)
  simp only[PX,rz]
  rw[aj (m:=(p:Int)+(j:Int)) (by omega) (by omega),show((p:Int)+(j:Int)).toNat=p+j by omega,aj (m:=af s (p+j)) (by omega) (by omega),aj (m:=a*256) (by omega) (by omega),acg a _ ha hb (by omega) (by omega)]) n 0 (by omega) (by omega)
 rw[Nat.zero_add]at e
 have c1:(decide ((1:Int)<=(n:Int))&&decide ((n:Int)<=6))=true:=by simp;omega
 have c2:decide ((p:Int)<0)=false:=by simp
 have c3:decide (IntKind.wrap .i64 ((s.length:Int)-(n:Int))<(p:Int))=false:=by rw[aj (by omega) (by omega)];simp;omega
 simp only[PX,yD,ar,mD,c1,c2,c3,Bool.not_true,cond_false,av]
 refine(congrArg (Stp.elim _ _) e).trans ?_
 simp only[Stp.elim,gw]
theorem bg (s:ac)(p n:Nat)(h1:1<=n)(h6:n<=6)(hp:p+n<=s.length)(hs:s.length<=4294967296):bv.f (s,(p:Int),(n:Int),())=(gw s p n,true):=by
 have e:=Hn s p (f:=λj a=>(qm s (p:Int) j a).nice) (λj a h ha hb=>by
  have:=fY s (p+j)
  simp only[PX,qm]
  rw[aj (m:=(p:Int)+(j:Int)) (by omega) (by omega),show((p:Int)+(j:Int)).toNat=p+j by omega,aj (m:=af s (p+j)) (by omega) (by omega),aj (m:=256*a) (by omega) (by omega),aj (by omega) (by omega),Int.mul_comm]) n 0 (by omega) (by omega)
 rw[Nat.zero_add]at e
 have c1:(decide ((1:Int)<=(n:Int))&&decide ((n:Int)<=6))=true:=by simp;omega
 have c3:(decide ((0:Int)<=(p:Int))&&decide ((p:Int)<=(IntKind.wrap .i64 ((s.length:Int)-(n:Int)))))=true:=by rw[aj (by omega) (by omega)];simp;omega
 simp only[PX,bv,bx,mN,c1,c3,Bool.not_true,cond_false,av]
 refine(congrArg (Stp.elim _ _) e).trans ?_
 simp only[Stp.elim,gw]
theorem ci (s:ac)(p n:Nat)(h1:1<=n)(h6:n<=6)(hp:p+n<=s.length)(hs:s.length<=4294967296):dR.f (s,(p:Int),(n:Int),())=gw s p n:=by
 simp only[PX,dR,Nx s p n h1 h6 hp hs]
theorem Ik (v:ac)(hv:v.length<=4294967296):qv.f (v,())=lv.f (v,()):=by
 simp only[PX,qv,lv,N0 v hv]
theorem abd (a:Int)(h0:0<=a)(h1:a<=255):(bits .and .u8 a 191 != 0)= !(a==0||a==64):=by
 obtain⟨x,rfl⟩:=Int.eq_ofNat_of_zero_le h0
 have key:∀y:Fin 256,(bits .and .u8 ((y.val:Nat):Int) 191 != 0)= !(((y.val:Nat):Int)==0||((y.val:Nat):Int)==64):=by decide+kernel
 exact key ⟨x,by omega⟩
theorem acr (n:Int)(h0:0<=n)(h1:n<=65535):(bits .andNot .i64 n 16384 != 0)= !(n==0||n==16384):=by
 obtain⟨x,rfl⟩:=Int.eq_ofNat_of_zero_le h0
 by_cases c:x=0\/x=16384
 ·rcases c with rfl|rfl<;>decide+kernel
 ·have hx:((x:Int)==0||(x:Int)==16384)=false:=by simp;omega
  rw[hx,Bool.not_false,bne_iff_ne]
  intro he
  have h2:IntKind.i64.wrap (((BitVec.ofInt 64 (x:Int))&&& ~~~(BitVec.ofInt 64 16384)).toNat:Nat)=0:=he
  have e0:BitVec.ofInt 64 (x:Int)=BitVec.ofNat 64 x:=by
   apply BitVec.eq_of_toNat_eq;rw[BitVec.toNat_ofInt,BitVec.toNat_ofNat];omega
  rw[e0]at h2
  have h3:(BitVec.ofNat 64 x)&&& ~~~(BitVec.ofInt 64 16384)=0#64:=by
   apply BitVec.eq_of_toNat_eq
   have:=((BitVec.ofNat 64 x)&&& ~~~(BitVec.ofInt 64 16384)).isLt
   rw[cO]at h2
   simp only[BitVec.toNat_ofNat]
   omega
  have h4:(BitVec.ofNat 64 x)=(BitVec.ofNat 64 x)&&& 16384#64:=by
   ext i hi
   have:=congrArg (λb=>b.getLsbD i) h3
   simp only[BitVec.getLsbD_and,BitVec.getLsbD_not,hi,decide_true,Bool.true_and,BitVec.getLsbD_zero]at this
   rw[BitVec.getElem_and]
   have e:(BitVec.ofInt 64 16384).getLsbD i=(16384#64).getLsbD i:=rfl
   rw[e]at this
   rw[<-BitVec.getLsbD_eq_getElem,<-BitVec.getLsbD_eq_getElem]
   revert this
   cases(BitVec.ofNat 64 x).getLsbD i<;>cases(16384#64).getLsbD i<;>simp
  have h5:=congrArg BitVec.toNat h4
  rw[BitVec.toNat_and,BitVec.toNat_ofNat,BitVec.toNat_ofNat,Nat.mod_eq_of_lt (by omega),show 16384%2 ^ 64=2 ^ 14 from rfl]at h5
  have h6:x<=2 ^ 14:=by rw[h5];exact Nat.and_le_right
  have h7:x<2 ^ 14:=by omega
  have h8:x&&& 2 ^ 14=0:=by
   apply Nat.eq_of_testBit_eq
   intro i
   rw[Nat.testBit_and,Nat.testBit_two_pow,Nat.zero_testBit]
   by_cases hi:14=i
   ·subst hi;rw[Nat.testBit_lt_two_pow h7];rfl
   ·simp[hi]
  omega
theorem bv2 (a b:UInt8):zj [a,b]=(a.toNat:Int)*256+b.toNat:=by simp[zj]
theorem gw2 (s:ac)(p:Nat)(h:p+2<=s.length):gw s p 2=af s p*256+af s (p+1):=by
 rw[iX s p (by omega),iX s (p+1) (by omega),gw,List.drop_eq_getElem_cons (by omega),List.drop_eq_getElem_cons (i:=p+1) (by omega)]
 simp only[List.take_succ_cons,List.take_zero,bv2]
def gK (s:ac):Fram×Bool:=if s.length<14 then(⟨0,0,0,[]⟩,false)else bif fJ.f (⟨gw s 0 6,gw s 6 6,gw s 12 2,s.drop 14⟩,())then(⟨gw s 0 6,gw s 6 6,gw s 12 2,s.drop 14⟩,true)else(⟨0,0,0,[]⟩,false)
theorem RM {α:Type}(s:List α):s.take ((s.length:Int).toNat)=s:=by rw[aa,List.take_length]
theorem wU (s:ac)(hs:s.length<=4294967296):oO.f (s,())=gK s:=by
 unfold gK
 by_cases h:s.length<14
 ·rw[if_pos h]
  simp only[PX,oO,decide_eq_true (show(s.length:Int)<14 by omega),cond_true]
 ·rw[if_neg h]
  have w1:=ci s 0 6 (by omega) (by omega) (by omega) hs
  have w2:=ci s 6 6 (by omega) (by omega) (by omega) hs
  have w3:=ci s 12 2 (by omega) (by omega) (by omega) hs
  simp only[Int.ofNat_zero,Int.cast_ofNat_Int]at w1 w2 w3
  simp only[PX,oO,decide_eq_false (show¬(s.length:Int)<14 by omega),cond_false,w1,w2,w3,RM]
  cases fJ.f (⟨gw s 0 6,gw s 6 6,gw s 12 2,s.drop 14⟩,())<;>rfl
theorem Pq (f:Fram):fJ.f (f,())=true↔ae.f (f.dst,48,())=true/\ae.f (f.src,48,())=true/\1536<=f.type/\f.type<=65535/\f.body.length<=1586:=by
 simp only[PX,fJ,ar]
 cases ae.f (f.dst,48,())<;>cases ae.f (f.src,48,())<;>simp<;>omega
theorem G9 (f:Fram)(h:fJ.f (f,())=true):fR.f (f,())=zw 6 f.dst++zw 6 f.src++zw 2 f.type++f.body:=by
 obtain⟨h1,h2,h3,h4,h5⟩:=(Pq f).1 h
 have p1:=fT f.dst 6 (by omega) (by omega) h1
 have p2:=fT f.src 6 (by omega) (by omega) h2
 have p3:=fT f.type 2 (by omega) (by omega) (by rw[show(8:Int)*2=16 from rfl,cQ];simp;omega)
 simp only[PX,fR,h,p1,p2,p3,Bool.not_true,cond_false]
 rfl
theorem acp (s:ac)(h:14<=s.length):(s.drop 0).take 6++(s.drop 6).take 6++(s.drop 12).take 2++s.drop 14=s:=by
 rw[List.drop_zero,List.append_assoc,List.append_assoc,show s.drop 14=(s.drop 12).drop 2 by rw[List.drop_drop],List.take_append_drop,show s.drop 12=(s.drop 6).drop 6 by rw[List.drop_drop],List.take_append_drop,List.take_append_drop]
theorem Ju (s:ac)(hs:s.length<=4294967296):oT.f (s,())=gK s:=by
 unfold gK
 by_cases h:s.length<14
 ·rw[if_pos h]
  simp only[PX,oT,decide_eq_true (show(s.length:Int)<14 by omega),cond_true]
 ·rw[if_neg h]
  have w1:=bg s 0 6 (by omega) (by omega) (by omega) hs
  have w2:=bg s 6 6 (by omega) (by omega) (by omega) hs
  have w3:=bg s 12 2 (by omega) (by omega) (by omega) hs
  simp only[Int.ofNat_zero,Int.cast_ofNat_Int]at w1 w2 w3
  simp only[PX,oT,decide_eq_false (show¬(s.length:Int)<14 by omega),cond_false,w1,w2,w3,RM,wM]
  rcases Bool.eq_false_or_eq_true (fJ.f (⟨gw s 0 6,gw s 6 6,gw s 12 2,s.drop 14⟩,()))with ho|ho
  ·rw[G9 _ ho,ho]
   simp only[]
   rw[sr (by omega),sr (by omega),sr (by omega),acp s (by omega),beq_self_eq_true,Bool.not_true,cond_false,cond_true]
  ·have e:fR.f (⟨gw s 0 6,gw s 6 6,gw s 12 2,s.drop 14⟩,())=[]:=by simp only[PX,fR,ho,Bool.not_false,cond_true]
   have e2:(([]:ac)==s)=false:=by
    cases s with
    |nil=>simp at h
    |cons a r=>rfl
   rw[e,ho,e2,Bool.not_false,cond_true,cond_false]
def zP:Pack:=⟨0,0,0,0,0,[]⟩
def pu (s:ac):Pack×Int:=
 bif decide (s.length<20)then(zP,1)else bif af s 0 != 69 then(zP,2)else bif !lv.f (s.take 20,())then(zP,3)else
 bif (decide (gw s 2 2<20)||(decide ((s.length:Int)<gw s 2 2)||decide (1500<gw s 2 2)))then(zP,4)else bif !(gw s 6 2==0||gw s 6 2==16384)then(zP,5)else bif af s 8==0 then(zP,6)else
 (⟨gw s 12 4,gw s 16 4,af s 8,af s 9,gw s 4 2,(s.take (gw s 2 2).toNat).drop 20⟩,0)
theorem Er (s:ac)(k:Nat):IntKind.wrap .i64 (af s k)=af s k:=by
 have:=fY s k
 exact aj (by omega) (by omega)
theorem vL (s:ac)(hs:s.length<=4294967296):lZ.f (s,())=pu s:=by
 unfold pu
 by_cases h:s.length<20
 ·rw[decide_eq_true h,cond_true]
  simp only[PX,lZ,decide_eq_true (show(s.length:Int)<20 by omega),cond_true,zP]
 ·rw[decide_eq_false h,cond_false]
  have w1:=ci s 2 2 (by omega) (by omega) (by omega) hs
  have w2:=ci s 6 2 (by omega) (by omega) (by omega) hs
  have w3:=ci s 12 4 (by omega) (by omega) (by omega) hs
  have w4:=ci s 16 4 (by omega) (by omega) (by omega) hs
  have w5:=ci s 4 2 (by omega) (by omega) (by omega) hs
  simp only[Int.cast_ofNat_Int]at w1 w2 w3 w4 w5
  have r6:=Yg (s:=s) (p:=6) (n:=2) (by omega)
  have a6:=acr (gw s 6 2) r6.1 (by have:=r6.2;omega)
  simp only[PX,lZ,decide_eq_false (show¬(s.length:Int)<20 by omega),cond_false,w1,w2,w3,w4,w5,Er,a6,List.drop_zero,zP]
  cases decide (gw s 2 2<20)<;>cases decide ((s.length:Int)<gw s 2 2)<;>simp only[cond_true,cond_false,Bool.true_or,Bool.false_or]
theorem FP (s:ac)(hs:s.length<=4294967296):mE.f (s,())=pu s:=by
 unfold pu
 by_cases h:s.length<20
 ·rw[decide_eq_true h,cond_true]
  simp only[PX,mE,decide_eq_true (show(s.length:Int)<20 by omega),cond_true,zP]
 ·rw[decide_eq_false h,cond_false]
  have w1:=bg s 2 2 (by omega) (by omega) (by omega) hs
  have w3:=bg s 12 4 (by omega) (by omega) (by omega) hs
  have w4:=bg s 16 4 (by omega) (by omega) (by omega) hs
  have w5:=bg s 4 2 (by omega) (by omega) (by omega) hs
  simp only[Int.cast_ofNat_Int]at w1 w3 w4 w5
  have b6:=fY s 6
  have b7:=fY s 7
  have e6:=gw2 s 6 (by omega)
  have a6:=abd (af s 6) b6.1 b6.2
  have e1:(!(decide (20<=gw s 2 2)&&decide (gw s 2 2<=if(s.length:Int)<1500 then(s.length:Int)else 1500)))=(decide (gw s 2 2<20)||(decide ((s.length:Int)<gw s 2 2)||decide (1500<gw s 2 2))):=by
   rw[Bool.eq_iff_iff];simp;split<;>omega
  have e2:(bif !(af s 6==0||af s 6==64)then true else af s 7 != 0)= !(gw s 6 2==0||gw s 6 2==16384):=by
   rw[e6,Bool.eq_iff_iff]
   cases h6:(af s 6==0||af s 6==64)<;>simp at h6|-<;>omega
  have hq:=Ik (s.take 20) (by rw[List.length_take];omega)
  simp only[PX,mE,decide_eq_false (show¬(s.length:Int)<20 by omega),cond_false,w1,w3,w4,w5,Er,a6,nY,bx,e1,hq,List.drop_zero,zP]
  rw[<-e2]
  cases(!(af s 6==0||af s 6==64))<;>rfl
def zA:Arpm:=⟨0,0,0,0,0⟩
def gwA (s:ac):Arpm:=⟨gw s 6 2,gw s 8 6,gw s 14 4,gw s 18 6,gw s 24 4⟩
def LD (s:ac):Arpm×Bool:=
 bif decide (s.length<28)then(zA,false)else bif !(s.take 6==[0,1,8,0,6,4])then(zA,false)else bif !mZ.f (gwA s,())then(zA,false)else(gwA s,true)
theorem C8 (s:ac)(hs:s.length<=4294967296):sV.f (s,())=LD s:=by
 unfold LD
 by_cases h:s.length<28
 ·rw[decide_eq_true h,cond_true]
  simp only[PX,sV,decide_eq_true (show(s.length:Int)<28 by omega),cond_true,zA]
 ·rw[decide_eq_false h,cond_false]
  have w1:=ci s 6 2 (by omega) (by omega) (by omega) hs
  have w2:=ci s 8 6 (by omega) (by omega) (by omega) hs
  have w3:=ci s 14 4 (by omega) (by omega) (by omega) hs
  have w4:=ci s 18 6 (by omega) (by omega) (by omega) hs
  have w5:=ci s 24 4 (by omega) (by omega) (by omega) hs
  simp only[Int.cast_ofNat_Int]at w1 w2 w3 w4 w5
  simp only[PX,sV,decide_eq_false (show¬(s.length:Int)<28 by omega),cond_false,w1,w2,w3,w4,w5,List.drop_zero,zA,gwA]
theorem VJ (a:Arpm):CL.f (a,())=mZ.f (a,()):=by
 simp only[PX,CL,mZ,cU,bx,ar]
theorem MA (a:Arpm):tP.f (a,())=j5.f (a,()):=by
 simp only[PX,tP,j5,VJ,nW]
theorem U6 (a:Arpm)(m ip:Int):ux.f (a,m,ip,())=n6.f (a,m,ip,()):=by
 simp only[PX,ux,n6,VJ]
theorem VR (a:Arpm):mZ.f (a,())=true↔(1<=a.kind/\a.kind<=2)/\ae.f (a.srcHw,48,())=true/\ae.f (a.dstHw,48,())=true/\ae.f (a.srcIp,32,())=true/\ae.f (a.dstIp,32,())=true:=by
 simp only[PX,mZ,ar]
 cases ae.f (a.srcHw,48,())<;>cases ae.f (a.dstHw,48,())<;>cases ae.f (a.srcIp,32,())<;>cases ae.f (a.dstIp,32,())<;>simp
theorem Ok (a:Arpm)(h:mZ.f (a,())=true):j5.f (a,())=[0,1,8,0,6,4]++zw 2 a.kind++zw 6 a.srcHw++zw 4 a.srcIp++zw 6 a.dstHw++zw 4 a.dstIp:=by
 obtain⟨h1,h2,h3,h4,h5⟩:=(VR a).1 h
 have p1:=fT a.kind 2 (by omega) (by omega) (by rw[show(8:Int)*2=16 from rfl,cQ];simp;omega)
 have p2:=fT a.srcHw 6 (by omega) (by omega) h2
 have p3:=fT a.srcIp 4 (by omega) (by omega) h4
 have p4:=fT a.dstHw 6 (by omega) (by omega) h3
 have p5:=fT a.dstIp 4 (by omega) (by omega) h5
 simp only[PX,j5,h,p1,p2,p3,p4,p5,Bool.not_true,cond_false]
 rfl
theorem abO (s:ac):s.take 6++(s.drop 6).take 2++(s.drop 8).take 6++(s.drop 14).take 4++(s.drop 18).take 6++(s.drop 24).take 4=s.take 28:=by
 rw[show 28=24+4 from rfl,List.take_add,show 24=18+6 from rfl,List.take_add,show 18=14+4 from rfl,List.take_add,show 14=8+6 from rfl,List.take_add,show 8=6+2 from rfl,List.take_add]
theorem M6 (s:ac)(hs:s.length<=4294967296):t5.f (s,())=LD s:=by
 unfold LD
 by_cases h:s.length<28
 ·rw[decide_eq_true h,cond_true]
  simp only[PX,t5,decide_eq_true (show(s.length:Int)<28 by omega),cond_true,zA]
 ·rw[decide_eq_false h,cond_false]
  have w1:=bg s 6 2 (by omega) (by omega) (by omega) hs
  have w2:=bg s 8 6 (by omega) (by omega) (by omega) hs
  have w3:=bg s 14 4 (by omega) (by omega) (by omega) hs
  have w4:=bg s 18 6 (by omega) (by omega) (by omega) hs
  have w5:=bg s 24 4 (by omega) (by omega) (by omega) hs
  simp only[Int.cast_ofNat_Int]at w1 w2 w3 w4 w5
  have hg:(⟨gw s 6 2,gw s 8 6,gw s 14 4,gw s 18 6,gw s 24 4⟩:Arpm)=gwA s:=rfl
  simp only[PX,t5,decide_eq_false (show¬(s.length:Int)<28 by omega),cond_false,w1,w2,w3,w4,w5,List.drop_zero,zA,hg,MA]
  rcases Bool.eq_false_or_eq_true (mZ.f (gwA s,()))with ho|ho
  ·have e:(j5.f (gwA s,())==s.take 28)=(s.take 6==[0,1,8,0,6,4]):=by
    rw[Ok _ ho,<-abO s]
    simp only[gwA]
    rw[sr (by omega),sr (by omega),sr (by omega),sr (by omega),sr (by omega),Bool.eq_iff_iff,beq_iff_eq,beq_iff_eq]
    constructor
    ·intro he
     simp only[List.append_assoc]at he
     exact(List.append_inj he (by simp;omega)).1.symm
    ·intro he;rw[he]
   rw[e,ho]
   cases(s.take 6==[0,1,8,0,6,4])<;>rfl
  ·have e:j5.f (gwA s,())=[]:=by simp only[PX,j5,ho,Bool.not_false,cond_true]
   have e2:(([]:ac)==s.take 28)=false:=by
    cases s with
    |nil=>simp at h
    |cons a r=>rfl
   rw[e,ho,e2,Bool.not_false,cond_true]
   cases(s.take 6==[0,1,8,0,6,4])<;>rfl
theorem AZ {A W V:Type}[Inhabited W][Inhabited V]{f:A->Stp A W}{g:A->Stp A V}{h:W->V}{Inv:A->Prop}{meas:A->Nat}(hs:∀a,Inv a->(∃a',f a= .next a'/\g a= .next a'/\Inv a'/\meas a'<meas a)\/(∃w,f a= .out w/\g a= .out (h w))):∀(m:Nat) (a:A),meas a<m->Inv a->h (ca f m a)=ca g m a
 |0,_,hm,_=>absurd hm (Nat.not_lt_zero _)
 |m+1,a,hm,hi=>by
  simp only[ca]
  rcases hs a hi with⟨a',e1,e2,e3,e4⟩|⟨w,e1,e2⟩
  ·rw[e1,e2]
   exact AZ hs m a' (by omega) e3
  ·rw[e1,e2];rfl
def uD:Opti:=⟨0,-1,false,false,0,0⟩
def V1 (v:ac)(p:Nat)(o:Opti):Opti:=
 bif af v p==2&&af v (p+1)==4 then{o with mss:=gw v (p+2) 2}else bif af v p==3&&af v (p+1)==3 then{o with scale:=if 14<af v (p+2)then 14 else af v (p+2)}else
 bif af v p==4&&af v (p+1)==2 then{o with sack:=true}else bif af v p==8&&af v (p+1)==10 then{o with stamp:=true,val:=gw v (p+2) 4,echo:=gw v (p+6) 4}else o
def dY (v:ac)(a:Int×Opti):Stp (Int×Opti) (Opti×Bool):=
 bif !decide (a.1<(v.length:Int))then .out (a.2,true)else bif af v a.1.toNat==0 then .out (a.2,true)else bif af v a.1.toNat==1 then .next (a.1+1,a.2)else
 bif decide ((v.length:Int)<=a.1+1)||(decide (af v (a.1.toNat+1)<2)||decide ((v.length:Int)-a.1<af v (a.1.toNat+1)))then .out (uD,false)else .next (a.1+af v (a.1.toNat+1),V1 v a.1.toNat a.2)
def ZD (v:ac)(a:Int×Opti):Opti×Bool:=ca (dY v) (Int.toNat ((v.length:Int)-a.1)+1) a
theorem Ev (v:ac)(a:Int×Opti)(h:0<=a.1)(a':Int×Opti)(e:dY v a= .next a'):0<=a'.1/\Int.toNat ((v.length:Int)-a'.1)<Int.toNat ((v.length:Int)-a.1):=by
 unfold dY at e
 by_cases h1:a.1<(v.length:Int)
 case neg=>rw[decide_eq_false h1]at e;cases e
 rw[decide_eq_true h1,Bool.not_true,cond_false]at e
 cases h2:(af v a.1.toNat==0)with
 |true=>rw[h2]at e;cases e
 |false=>
  rw[h2,cond_false]at e
  cases h3:(af v a.1.toNat==1)with
  |true=>rw[h3,cond_true]at e;cases e;simp only[];omega
  |false=>
   rw[h3,cond_false]at e
   cases h4:(decide ((v.length:Int)<=a.1+1)||(decide (af v (a.1.toNat+1)<2)||decide ((v.length:Int)-a.1<af v (a.1.toNat+1))))with
   |true=>rw[h4]at e;cases e
   |false=>
    rw[h4,cond_false]at e
    cases e
    simp at h4
    simp only[];omega
theorem Dt (v:ac)(hv:v.length<=4294967296):kM.f (v,())=ZD v (0,uD):=by
 have key:=AZ (f:=λa=>(cA v a).nice) (g:=dY v) (h:=Sum.elim (λo=>(o,true)) (λp=>(p.1,false))) (Inv:=λa:Int×Opti=>0<=a.1) (meas:=λa=>Int.toNat ((v.length:Int)-a.1)) (λa ha=>by
  have ha:0<=a.1:=ha
  by_cases h1:a.1<(v.length:Int)
  case neg=>refine .inr ⟨.inl a.2, ?_, ?_⟩<;>simp only[PX,cA,dY,decide_eq_false h1,cond_false,Bool.not_false,cond_true,Sum.elim_inl]
  have w1:IntKind.wrap .i64 (a.1+1)=a.1+1:=aj (by omega) (by omega)
  have w2:IntKind.wrap .i64 (a.1+2)=a.1+2:=aj (by omega) (by omega)
  have w6:IntKind.wrap .i64 (a.1+6)=a.1+6:=aj (by omega) (by omega)
  have wl:IntKind.wrap .i64 ((v.length:Int)-a.1)=(v.length:Int)-a.1:=aj (by omega) (by omega)
  have t1:(a.1+1).toNat=a.1.toNat+1:=by omega
  have t2:(a.1+2).toNat=a.1.toNat+2:=by omega
  have b1:=fY v (a.1.toNat+1)
  have wb:IntKind.wrap .i64 (a.1+af v (a.1.toNat+1))=a.1+af v (a.1.toNat+1):=aj (by omega) (by omega)
  have hst:=Ev v a ha
  have eN:bH.f ()=uD:=by simp only[PX,bH,uD]
  cases h2:(af v a.1.toNat==0)with
  |true=>refine .inr ⟨.inl a.2, ?_, ?_⟩<;>simp only[PX,cA,dY,decide_eq_true h1,h2,cond_false,Bool.not_true,cond_true,Sum.elim_inl]
  |false=>
   cases h3:(af v a.1.toNat==1)with
   |true=>
    have e:dY v a= .next (a.1+1,a.2):=by simp only[dY,decide_eq_true h1,h2,h3,cond_false,Bool.not_true,cond_true]
    refine .inl ⟨_, ?_,e,hst _ e⟩
    simp only[PX,cA,decide_eq_true h1,h2,h3,cond_false,cond_true,w1]
   |false=>
    cases h4:(decide ((v.length:Int)<=a.1+1)||(decide (af v (a.1.toNat+1)<2)||decide ((v.length:Int)-a.1<af v (a.1.toNat+1))))with
    |true=>
     have e:dY v a= .out (uD,false):=by simp only[dY,decide_eq_true h1,h2,h3,h4,cond_false,Bool.not_true,cond_true]
     refine .inr ⟨.inr (uD,a.2), ?_,e⟩
     revert h4
     simp only[PX,cA,decide_eq_true h1,h2,h3,cond_false,cond_true,w1,wl,t1,Er,eN]
     cases decide ((v.length:Int)<=a.1+1)<;>cases decide (af v (a.1.toNat+1)<2)<;>cases decide ((v.length:Int)-a.1<af v (a.1.toNat+1))<;>intro h4<;>first|rfl|cases h4
    |false=>
     have e:dY v a= .next (a.1+af v (a.1.toNat+1),V1 v a.1.toNat a.2):=by simp only[dY,decide_eq_true h1,h2,h3,h4,cond_false,Bool.not_true,cond_true]
     refine .inl ⟨_, ?_,e,hst _ e⟩
     simp only[Bool.or_eq_false_iff,decide_eq_false_iff_not]at h4
     obtain⟨h5,h6,h7⟩:=h4
     simp only[PX,cA,decide_eq_true h1,h2,h3,cond_false,cond_true,w1,w2,w6,wl,t1,t2,Er,decide_eq_false h5,decide_eq_false h6,decide_eq_false h7,wb,V1]
     have g2:(af v a.1.toNat==2&&af v (a.1.toNat+1)==4)=true->dR.f (v,a.1+2,2,())=gw v (a.1.toNat+2) 2:=λhh=>by
      simp at hh
      have:=ci v (a.1.toNat+2) 2 (by omega) (by omega) (by omega) hv
      rw[show((a.1.toNat+2:Nat):Int)=a.1+2 by omega]at this
      exact this
     have g8:(af v a.1.toNat==8&&af v (a.1.toNat+1)==10)=true->dR.f (v,a.1+2,4,())=gw v (a.1.toNat+2) 4/\dR.f (v,a.1+6,4,())=gw v (a.1.toNat+6) 4:=λhh=>by
      simp at hh
      have k1:=ci v (a.1.toNat+2) 4 (by omega) (by omega) (by omega) hv
      have k2:=ci v (a.1.toNat+6) 4 (by omega) (by omega) (by omega) hv
      rw[show((a.1.toNat+2:Nat):Int)=a.1+2 by omega]at k1
      rw[show((a.1.toNat+6:Nat):Int)=a.1+6 by omega]at k2
      exact⟨k1,k2⟩
     revert g2 g8
     cases(af v a.1.toNat==2)<;>cases(af v (a.1.toNat+1)==4)<;>cases(af v a.1.toNat==3)<;>cases(af v (a.1.toNat+1)==3)<;>cases(af v a.1.toNat==4)<;>cases(af v (a.1.toNat+1)==2)<;>cases(af v a.1.toNat==8)<;>cases(af v (a.1.toNat+1)==10)<;>intro g2 g8<;>simp only[Bool.and_true,Bool.and_false,Bool.false_and,Bool.true_and,cond_true,cond_false]<;>first|rfl|(rw[g2 rfl])|(rw[(g8 rfl).1,(g8 rfl).2])) (Int.toNat ((v.length:Int)-0)+1) (0,uD) (by simp) (by simp)
 have eN:bH.f ()=uD:=by simp only[PX,bH,uD]
 simp only[PX,kM,im,eN]
 rw[ZD,<-key]
 cases ca (λa=>(cA v a).nice) (Int.toNat ((v.length:Int)-0)+1) (0,uD)<;>rfl
theorem Su (v:ac)(e p k:Nat)(h:p+k<e):af ((v.take e).drop p) k=af v (p+k):=by
 simp[af,List.getD,List.getElem?_drop,List.getElem?_take,h]
theorem XU (v:ac)(e p k n:Nat)(h:p+k+n<=e):gw ((v.take e).drop p) k n=gw v (p+k) n:=by
 unfold gw
 rw[List.drop_drop,List.drop_take,List.take_take,Nat.min_eq_left (by omega)]
theorem U5 (v:ac)(p e:Nat)(o:Opti)(hv:v.length<=4294967296)(he:e<=v.length)(h2:p+2<=e)(hn:af v (p+1)=(e:Int)-p):GD.f (o,(v.take e).drop p,())=V1 v p o:=by
 have hl:((v.take e).drop p).length=e-p:=by rw[List.length_drop,List.length_take];omega
 have c0:=Su v e p 0 (by omega)
 rw[Nat.add_zero]at c0
 have w4:(((v.take e).drop p).length:Int)=af v (p+1):=by rw[hl,hn];omega
 have hx:((v.take e).drop p).length<=4294967296:=by omega
 have g2:(af v p==2&&af v (p+1)==4)=true->bv.f ((v.take e).drop p,2,2,())=(gw v (p+2) 2,true):=λhh=>by
  simp at hh
  have:=bg ((v.take e).drop p) 2 2 (by omega) (by omega) (by omega) hx
  rw[XU _ _ _ _ _ (by omega)]at this
  exact this
 have g3:(af v p==3&&af v (p+1)==3)=true->af ((v.take e).drop p) 2=af v (p+2):=λhh=>by
  simp at hh
  exact Su v e p 2 (by omega)
 have g8:(af v p==8&&af v (p+1)==10)=true->bv.f ((v.take e).drop p,2,4,())=(gw v (p+2) 4,true)/\bv.f ((v.take e).drop p,6,4,())=(gw v (p+6) 4,true):=λhh=>by
  simp at hh
  have k1:=bg ((v.take e).drop p) 2 4 (by omega) (by omega) (by omega) hx
  have k2:=bg ((v.take e).drop p) 6 4 (by omega) (by omega) (by omega) hx
  rw[XU _ _ _ _ _ (by omega)]at k1 k2
  exact⟨k1,k2⟩
 simp only[PX,GD,V1,c0,w4,Er,nY]
 revert g2 g3 g8
 cases(af v p==2)<;>cases(af v (p+1)==4)<;>cases(af v p==3)<;>cases(af v (p+1)==3)<;>cases(af v p==4)<;>cases(af v (p+1)==2)<;>cases(af v p==8)<;>cases(af v (p+1)==10)<;>intro g2 g3 g8<;>simp only[Bool.and_true,Bool.and_false,Bool.false_and,Bool.true_and,cond_true,cond_false]<;>first|rfl|(rw[g2 rfl])|(rw[g3 rfl])|(rw[(g8 rfl).1,(g8 rfl).2])
theorem Dn (v:ac)(hv:v.length<=4294967296):kP.f (v,())=ZD v (0,uD):=by
 have key:=AZ (f:=λa=>(cF v a).nice) (g:=dY v) (h:=Sum.elim (λp=>(p.1,false)) (λo=>(o,true))) (Inv:=λa:Int×Opti=>0<=a.1) (meas:=λa=>Int.toNat ((v.length:Int)-a.1)) (λa ha=>by
  have ha:0<=a.1:=ha
  by_cases h1:a.1<(v.length:Int)
  case neg=>refine .inr ⟨.inr a.2, ?_, ?_⟩<;>simp only[PX,cF,dY,decide_eq_false h1,cond_false,Bool.not_false,cond_true,Sum.elim_inr]
  have w1:IntKind.wrap .i64 (a.1+1)=a.1+1:=aj (by omega) (by omega)
  have wl:IntKind.wrap .i64 ((v.length:Int)-a.1)=(v.length:Int)-a.1:=aj (by omega) (by omega)
  have t1:(a.1+1).toNat=a.1.toNat+1:=by omega
  have b1:=fY v (a.1.toNat+1)
  have wb:IntKind.wrap .i64 (a.1+af v (a.1.toNat+1))=a.1+af v (a.1.toNat+1):=aj (by omega) (by omega)
  have hst:=Ev v a ha
  have eN:ck.f ()=uD:=by simp only[PX,ck,uD]
  cases h2:(af v a.1.toNat==0)with
  |true=>refine .inr ⟨.inr a.2, ?_, ?_⟩<;>simp only[PX,cF,dY,decide_eq_true h1,bne,h2,cond_false,Bool.not_true,cond_true,Sum.elim_inr]
  |false=>
   cases h3:(af v a.1.toNat==1)with
   |true=>
    have e:dY v a= .next (a.1+1,a.2):=by simp only[dY,decide_eq_true h1,h2,h3,cond_false,Bool.not_true,cond_true]
    refine .inl ⟨_, ?_,e,hst _ e⟩
    simp only[PX,cF,decide_eq_true h1,bne,h2,h3,Bool.not_false,cond_false,cond_true,w1]
   |false=>
    cases h4:(decide ((v.length:Int)<=a.1+1)||(decide (af v (a.1.toNat+1)<2)||decide ((v.length:Int)-a.1<af v (a.1.toNat+1))))with
    |true=>
     have e:dY v a= .out (uD,false):=by simp only[dY,decide_eq_true h1,h2,h3,h4,cond_false,Bool.not_true,cond_true]
     refine .inr ⟨.inl (uD,a.2), ?_,e⟩
     revert h4
     simp only[PX,cF,decide_eq_true h1,bne,h2,h3,Bool.not_false,cond_false,cond_true,w1,wl,t1,Er,eN]
     cases decide ((v.length:Int)<=a.1+1)<;>cases decide (af v (a.1.toNat+1)<2)<;>cases decide ((v.length:Int)-a.1<af v (a.1.toNat+1))<;>intro h4<;>first|rfl|cases h4
    |false=>
     have e:dY v a= .next (a.1+af v (a.1.toNat+1),V1 v a.1.toNat a.2):=by simp only[dY,decide_eq_true h1,h2,h3,h4,cond_false,Bool.not_true,cond_true]
     refine .inl ⟨_, ?_,e,hst _ e⟩
     simp only[Bool.or_eq_false_iff,decide_eq_false_iff_not]at h4
     obtain⟨h5,h6,h7⟩:=h4
     have hl:=U5 v a.1.toNat (a.1+af v (a.1.toNat+1)).toNat a.2 hv (by omega) (by omega) (by omega)
     simp only[PX,cF,decide_eq_true h1,bne,h2,h3,Bool.not_false,cond_false,cond_true,w1,wl,t1,Er,decide_eq_false h5,decide_eq_false h6,decide_eq_false h7,wb,hl]) (Int.toNat ((v.length:Int)-0)+1) (0,uD) (by simp) (by simp)
 have eN:ck.f ()=uD:=by simp only[PX,ck,uD]
 simp only[PX,kP,ii,eN]
 rw[ZD,<-key]
 cases ca (λa=>(cF v a).nice) (Int.toNat ((v.length:Int)-0)+1) (0,uD)<;>rfl
def TJ (v:List Entr):Int:=match aR (λj a=>(eb v j a).nice) 1 3 1 0 with| .next a=>a| .out e=>Empty.elim e
theorem SX (v:List Entr):aR (λj a=>(eb v j a).nice) 1 3 1 0= .next (TJ v):=by
 unfold TJ
 cases aR (λj a=>(eb v j a).nice) 1 3 1 0 with
 |next a=>rfl
 |out e=>exact Empty.elim e
theorem aaM (v:List Entr)(j a:Int):(eb v j a).nice= .next (bif decide ((v.getD a.toNat (Ty.zero .entr)).age<(v.getD j.toNat (Ty.zero .entr)).age)then j else a):=by
 simp only[PX,eb]
 cases decide ((v.getD a.toNat (Ty.zero .entr)).age<(v.getD j.toNat (Ty.zero .entr)).age)<;>rfl
theorem VC (v:List Entr):0<=TJ v/\TJ v<4:=by
 have e:=SX v
 simp only[aR,aaM,Stp.elim]at e
 have key:∀(b:Bool) (x y:Int),(0<=x/\x<4)->(0<=y/\y<4)->0<=(bif b then x else y)/\(bif b then x else y)<4:=by
  intro b x y hx hy
  cases b<;>assumption
 rw[<-Stp.next.inj e]
 refine key _ _ _ (by omega) (key _ _ _ (by omega) (key _ _ _ (by omega) (by omega)))
theorem ZX (v:List Entr):aR (λj a=>(eb v j a).nice) 1 4 0 0= .next (TJ v):=by
 rw[<-SX v]
 show Stp.elim _ _ ((eb v 0 0).nice)=_
 rw[aaM,decide_eq_false (Int.lt_irrefl _),cond_false]
 rfl
def SS (v:List Entr)(ip hw:Int):List Entr:=bif decide (0<=gk (λe:Entr=>e.ip==ip) v)then v.set (gk (λe:Entr=>e.ip==ip) v).toNat ⟨ip,hw,0⟩else(bif ((v.length:Int)==4)then v.take (TJ v).toNat++v.drop ((TJ v).toNat+1)else v)++[⟨ip,hw,0⟩]
def DA (v:List Entr)(ip hw:Int):List Entr:=bif (gM.f (v,())&&(ae.f (ip,32,())&&ae.f (hw,48,())))then SS v ip hw else v
theorem Cc (v:List Entr)(ip hw:Int):tB.f (v,ip,hw,())=DA v ip hw:=by
 unfold DA
 simp only[PX,tB,f9,fg,fA]
 rcases Bool.eq_false_or_eq_true (gM.f (v,()))with h1|h1
 case inr=>rw[h1];rfl
 have hE:=(xr v).1 h1
 have hlen:=hE.len
 rw[h1]
 cases h2:ae.f (ip,32,())with
 |false=>rfl
 |true=>
  cases h3:ae.f (hw,48,())with
  |false=>rfl
  |true=>
   simp only[Bool.not_true,cond_false,Bool.and_self,cond_true,av]
   rw[bA v _ rfl (F:=λj x _=>bif x.ip==ip then .out (v.set j (⟨ip,hw,0⟩:Entr))else .next ()) (λj x a h=>by
    have hj:j<v.length:=(List.getElem?_eq_some_iff.1 h).1
    have hx:=getD_some (d:=Ty.zero .entr) h
    simp only[PX,wg,aa,hx]
    cases hb:(x.ip==ip)with
    |false=>rfl
    |true=>
     rw[cond_true,cond_true,List.set_set]
     have e:(v.set j ({x with hw:=hw}:Entr)).getD j (Ty.zero .entr)=({x with hw:=hw}:Entr):=getD_some (by simp[hj])
     rw[e,<-beq_iff_eq.1 hb]),jY (p:=λe:Entr=>e.ip==ip) (w:=λj _=>v.set j (⟨ip,hw,0⟩:Entr))]
   unfold SS gk
   cases hf:v.findIdx? (λe=>e.ip==ip)with
   |some i=>
    obtain⟨h4,_,_⟩:=List.findIdx?_eq_some_iff_getElem.1 hf
    have hx:v[i]? =some v[i]:=List.getElem?_eq_getElem h4
    simp only[hx,Stp.elim,Nat.zero_add,decide_eq_true (show(0:Int)<=(i:Int) by omega),cond_true,aa]
   |none=>
    simp only[Stp.elim,decide_eq_false (show¬(0:Int)<=-1 by omega),cond_false]
    cases h4:((v.length:Int)==4)with
    |false=>rfl
    |true=>
     have h5:v.length=4:=by have:=beq_iff_eq.1 h4;omega
     have ho:=VC v
     obtain⟨o,hoe⟩:=Int.eq_ofNat_of_zero_le ho.1
     have e4:=ZX v
     rw[h5]
     simp only[cond_true]
     refine(congrArg (Stp.elim _ _) e4).trans ?_
     simp only[Stp.elim,PX,rt,hoe,aa]
     rw[aj (by omega) (by omega),show((o:Int)==(o:Int)+1)=false by simp;omega,show((o:Int)+1).toNat=o+1 by omega]
     simp only[cond_false]
     have hL:(v.take o++v.drop (o+1)).length=o+(v.length-(o+1)):=by
      rw[List.length_append,List.length_take,List.length_drop];omega
     generalize v.take o++v.drop (o+1)=L at hL|-
     rw[List.drop_zero,List.take_left' hL,List.take_left' (rfl:L.length=L.length),List.append_assoc,List.take_left' hL]
theorem NB (v:List Entr)(ip hw:Int):tH.f (v,ip,hw,())=DA v ip hw:=by
 unfold DA
 simp only[PX,tH,Mz,cU,List.nil_append,jD,A6]
 rcases Bool.eq_false_or_eq_true (gM.f (v,()))with h1|h1
 case inr=>rw[h1];rfl
 have hE:=(xr v).1 h1
 have hlen:=hE.len
 rw[h1]
 cases h2:ae.f (ip,32,())with
 |false=>rfl
 |true=>
  cases h3:ae.f (hw,48,())with
  |false=>rfl
  |true=>
   simp only[Bool.not_true,cond_false,Bool.and_self,cond_true]
   unfold SS
   cases hf:decide (0<=gk (λe:Entr=>e.ip==ip) v)with
   |true=>rfl
   |false=>
    simp only[cond_false]
    cases h4:((v.length:Int)==4)with
    |false=>rfl
    |true=>
     have h5:v.length=4:=by have:=beq_iff_eq.1 h4;omega
     have ho:=VC v
     obtain⟨o,hoe⟩:=Int.eq_ofNat_of_zero_le ho.1
     have e4:=SX v
     simp only[cond_true]
     rw[h5,show Int.toNat (((4:Nat):Int)-1)=3 from rfl]
     refine(congrArg (Stp.elim _ _) e4).trans ?_
     simp only[Stp.elim,hoe,aa]
     rw[aj (by omega) (by omega),show((o:Int)+1).toNat=o+1 by omega,List.drop_zero]
     first|rw[List.take_of_length_le (show v.length<=4 by omega)]|rw[List.take_length]
theorem abB (a:Int)(h0:0<=a)(h1:a<=255):bits .and .i64 a 63=a.tmod 64:=by
 obtain⟨x,rfl⟩:=Int.eq_ofNat_of_zero_le h0
 have key:∀y:Fin 256,bits .and .i64 ((y.val:Nat):Int) 63=((y.val:Nat):Int).tmod 64:=by decide+kernel
 exact key ⟨x,by omega⟩
theorem Kx (v:ac)(hv:v.length<=4294967296):kP.f (v,())=kM.f (v,()):=by
 rw[Dn v hv,Dt v hv]
theorem K4 (s:ac)(a b:Int)(hs:s.length<=4294967276):kO.f (s,a,b,())=cT.f (s,a,b,()):=by
 by_cases h:s.length<20
 ·simp only[PX,kO,cT,decide_eq_true (show(s.length:Int)<20 by omega),cond_true]
 ·have lJ:s.length<=4294967296:=by omega
  have w1:=ci s 0 2 (by omega) (by omega) (by omega) lJ
  have w2:=ci s 2 2 (by omega) (by omega) (by omega) lJ
  have w3:=ci s 4 4 (by omega) (by omega) (by omega) lJ
  have w4:=ci s 8 4 (by omega) (by omega) (by omega) lJ
  have w5:=ci s 14 2 (by omega) (by omega) (by omega) lJ
  have v1:=bg s 0 2 (by omega) (by omega) (by omega) lJ
  have v2:=bg s 2 2 (by omega) (by omega) (by omega) lJ
  have v3:=bg s 4 4 (by omega) (by omega) (by omega) lJ
  have v4:=bg s 8 4 (by omega) (by omega) (by omega) lJ
  have v5:=bg s 14 2 (by omega) (by omega) (by omega) lJ
  simp only[Int.ofNat_zero,Int.cast_ofNat_Int]at w1 w2 w3 w4 w5 v1 v2 v3 v4 v5
  have b13:=fY s 13
  have e13:=abB (af s 13) b13.1 b13.2
  have hph:=aav a b (s.length:Int)
  have hq:=Ik (dV.f (a,b,(s.length:Int),())++s) (by rw[List.length_append];omega)
  simp only[PX,kO,cT,decide_eq_false (show¬(s.length:Int)<20 by omega),cond_false,w1,w2,w3,w4,w5,v1,v2,v3,v4,v5,Er,e13,CX,bx,hq,pb]
  generalize IntKind.wrap .i64 ((IntKind.wrap .i64 ((af s 12).tdiv 16))*4)=n
  rw[Kx _ (by rw[List.length_drop,List.length_take];omega)]
  rw[show(!(decide (20<=n)&&decide (n<=(s.length:Int))))=(decide (n<20)||decide ((s.length:Int)<n)) by rw[Bool.eq_iff_iff];simp<;>omega]
  cases decide (n<20)<;>cases decide ((s.length:Int)<n)<;>rfl
theorem Eo (l:Link):lI.f (l,())=l:=by simp only[PX,lI,f9]
theorem V0 (l:Link):ql.f (l,())=l:=by simp only[PX,ql,List.nil_append]
theorem ZI (f:Fram)(m:Int):GA.f (f,m,())=ss.f (f,m,()):=by simp only[PX,GA,ss]
theorem D0 (s:ac):(gK s).1.body.length<=s.length:=by
 unfold gK
 split
 ·simp
 ·cases fJ.f (⟨gw s 0 6,gw s 6 6,gw s 12 2,s.drop 14⟩,())<;>simp
theorem X0 (l:Link)(raw:ac)(hs:raw.length<=4294967296):Bv.f (l,raw,())=bq.f (l,raw,()):=by
 have hb:=D0 raw
 simp only[PX,Bv,bq,JL,Eo,V0,ZI,Ju raw hs,wU raw hs,HR,NB,Cc,U6,MA,wM]
 generalize gK raw=F at hb
 rw[M6 F.1.body (by omega),C8 F.1.body (by omega),FP F.1.body (by omega),vL F.1.body (by omega)]
 generalize LD F.1.body=A
 generalize pu F.1.body=P
 cases(bif !eV.f (l,())then(true,())else bif !F.2 then(true,())else(!ss.f (F.1,l.mac,()),())).1 with
 |true=>rfl
 |false=>
  simp only[cond_false]
  cases(F.1.type==2054)with
  |true=>
   simp only[cond_true]
   cases(bif !A.2 then(true,())else(A.1.dstIp != l.ip,())).1 with
   |true=>rfl
   |false=>cases(n6.f (A.1,l.mac,l.ip,())).2<;>rfl
  |false=>
   simp only[cond_false,bne]
   cases(F.1.type==2048)<;>rfl
structure Pkt (l:Link)(raw:ac)(k:Link)(p:Pack):Prop where
 hF:(gK raw).2=true
 hM:ss.f ((gK raw).1,l.mac,())=true
 hP:pu (gK raw).1.body=(p,0)
 hD:p.dst=l.ip
 hT:p.proto=6
 hS:p.src≠l.ip
 hK:k={l with cache:=DA l.cache p.src (gK raw).1.src}
theorem Up (l:Link)(raw:ac)(hs:raw.length<=4294967296):∃(k:Link) (n:Int) (p:Pack) (t:ac),bq.f (l,raw,())=(k,n,p,t)/\((k=l/\n=0/\p=zP)\/(∃ip hw,k={l with cache:=DA l.cache ip hw}/\(n=0\/n=1)/\p=zP)\/(n=2/\Pkt l raw k p)):=by
 obtain⟨r,hr⟩:∃r,bq.f (l,raw,())=r:=⟨_,rfl⟩
 refine⟨r.1,r.2.1,r.2.2.1,r.2.2.2,hr, ?_⟩
 have hb:=D0 raw
 simp only[PX,bq,Eo,wU raw hs,Cc]at hr
 rw[C8 _ (by omega),vL _ (by omega)]at hr
 generalize LD (gK raw).1.body=A at hr
 rcases Bool.eq_false_or_eq_true (bif !eV.f (l,())then(true,())else bif !(gK raw).2 then(true,())else(!ss.f ((gK raw).1,l.mac,()),())).1 with hc|hc
 ·rw[hc,cond_true]at hr;subst hr;exact .inl ⟨rfl,rfl,rfl⟩
 rw[hc,cond_false]at hr
 rcases Bool.eq_false_or_eq_true (((gK raw).1).type==2054)with h1|h1
 ·rw[h1,cond_true]at hr
  rcases Bool.eq_false_or_eq_true (bif !A.2 then(true,())else(A.1.dstIp != l.ip,())).1 with h2|h2
  ·rw[h2,cond_true]at hr;subst hr;exact .inl ⟨rfl,rfl,rfl⟩
  rw[h2,cond_false]at hr
  rcases Bool.eq_false_or_eq_true (n6.f (A.1,l.mac,l.ip,())).2 with h3|h3
  ·rw[h3,cond_true]at hr;subst hr;exact .inr (.inl ⟨_,_,rfl,.inr rfl,rfl⟩)
  ·rw[h3,cond_false]at hr;subst hr;exact .inr (.inl ⟨_,_,rfl,.inl rfl,rfl⟩)
 rw[h1,cond_false]at hr
 rcases Bool.eq_false_or_eq_true (((gK raw).1).type==2048)with h2|h2
 case inr=>rw[h2,cond_false]at hr;subst hr;exact .inl ⟨rfl,rfl,rfl⟩
 rw[h2,cond_true]at hr
 rcases Bool.eq_false_or_eq_true (bif (pu (gK raw).1.body).2 != 0 then(true,())else bif (pu (gK raw).1.body).1.dst != l.ip then(true,())else bif (pu (gK raw).1.body).1.proto != 6 then(true,())else((pu (gK raw).1.body).1.src==l.ip,())).1 with hP|hP
 ·rw[hP,cond_true]at hr;subst hr;exact .inl ⟨rfl,rfl,rfl⟩
 rw[hP,cond_false]at hr
 subst hr
 refine .inr (.inr ⟨rfl, ?_⟩)
 revert hP hc
 cases eV.f (l,())<;>cases h1:(gK raw).2<;>cases h2:ss.f ((gK raw).1,l.mac,())<;>intro hc<;>try (cases hc)
 cases h3:((pu (gK raw).1.body).2 != 0)<;>cases h4:((pu (gK raw).1.body).1.dst != l.ip)<;>cases h5:((pu (gK raw).1.body).1.proto != 6)<;>cases h6:((pu (gK raw).1.body).1.src==l.ip)<;>intro hP<;>try (cases hP)
 simp at h3 h4 h5 h6
 exact⟨h1,h2,by rw[<-h3],h4,h5,h6,rfl⟩
theorem Xg (s:ac):(pu s).1.body.length<=s.length-20:=by
 unfold pu
 by_cases h:s.length<20
 ·rw[decide_eq_true h];exact Nat.zero_le _
 ·rw[decide_eq_false h]
  cases(af s 0 != 69)
  case true=>exact Nat.zero_le _
  cases(!lv.f (s.take 20,()))
  case true=>exact Nat.zero_le _
  cases(decide (gw s 2 2<20)||(decide ((s.length:Int)<gw s 2 2)||decide (1500<gw s 2 2)))
  case true=>exact Nat.zero_le _
  cases(!(gw s 6 2==0||gw s 6 2==16384))
  case true=>exact Nat.zero_le _
  cases(af s 8==0)
  case true=>exact Nat.zero_le _
  simp only[cond_false,List.length_drop,List.length_take]
  omega
def A9 (s:Stac)(raw:ac):Stac×List ac×Int:=
 bif !lH.f (s,())then(s,[],0)else
 bif (bq.f (s.link,raw,())).2.1==1 then(⟨(bq.f (s.link,raw,())).1,s.door⟩,[(bq.f (s.link,raw,())).2.2.2],0)else
 bif (bq.f (s.link,raw,())).2.1 != 2 then(⟨(bq.f (s.link,raw,())).1,s.door⟩,[],0)else
 bif !(cT.f ((bq.f (s.link,raw,())).2.2.1.body,(bq.f (s.link,raw,())).2.2.1.src,(bq.f (s.link,raw,())).2.2.1.dst,())).2 then(⟨(bq.f (s.link,raw,())).1,s.door⟩,[],0)else
 (⟨(bq.f (s.link,raw,())).1,(E9 s.door (bq.f (s.link,raw,())).2.2.1.src (cT.f ((bq.f (s.link,raw,())).2.2.1.body,(bq.f (s.link,raw,())).2.2.1.src,(bq.f (s.link,raw,())).2.2.1.dst,())).1).1⟩,
  (E9 s.door (bq.f (s.link,raw,())).2.2.1.src (cT.f ((bq.f (s.link,raw,())).2.2.1.body,(bq.f (s.link,raw,())).2.2.1.src,(bq.f (s.link,raw,())).2.2.1.dst,())).1).2.1.flatMap (HE (bq.f (s.link,raw,())).1 (bq.f (s.link,raw,())).2.2.1.src),
  (E9 s.door (bq.f (s.link,raw,())).2.2.1.src (cT.f ((bq.f (s.link,raw,())).2.2.1.body,(bq.f (s.link,raw,())).2.2.1.src,(bq.f (s.link,raw,())).2.2.1.dst,())).1).2.2)
theorem M8 (s:Stac)(raw:ac)(hs:lx s.door)(hl:s.door.halves.length<=4294967296):fH.f (s,raw,())=A9 s raw:=by
 simp only[PX,fH,MU,Nu,A9]
 rw[Uh _ _ _ hs hl]
theorem NC (s:Stac)(raw:ac)(hr:raw.length<=4294967296)(hs:lx s.door)(hl:s.door.halves.length<=4294967296):qk.f (s,raw,())=A9 s raw:=by
 rcases Bool.eq_false_or_eq_true (lH.f (s,()))with h|h
 case inr=>simp only[PX,qk,Ls,Mu s hs,h,Bool.not_false,cond_true,A9]
 have hD:=(AC _).1 ((RK s).1 h).2
 obtain⟨k,n,p,t,e,hc⟩:=Up s.link raw hr
 have hp:p.body.length<=4294967276:=by
  rcases hc with⟨_,_,rfl⟩|⟨_,_,_,_,rfl⟩|⟨_,hk⟩
  ·exact Nat.zero_le _
  ·exact Nat.zero_le _
  ·have h1:=Xg (gK raw).1.body
   have h2:=D0 raw
   rw[hk.hP]at h1
   simp only[]at h1
   omega
 have hg:=K4 p.body p.src p.dst hp
 have hso:=YU s.door p.src (cT.f (p.body,p.src,p.dst,())).1 hs hD
 have hse:=UO s.door p.src (cT.f (p.body,p.src,p.dst,())).1 hs hl
 simp only[PX,qk,Ls,Mu s hs,h,Bool.not_true,cond_false,A9,X0 s.link raw hr,e,hg,hse]
 rw[Od _ _ _ hso.2]
 cases(n==1)with
 |true=>rfl
 |false=>
  simp only[cond_false]
  cases(n != 2)with
  |true=>rfl
  |false=>rfl
theorem Ni (x:Tupl):qd.f (x,x,())=true:=by simp only[PX,qd,bne_self_eq_false,cond_false]
theorem Lz (x:Opti):pc.f (x,x,())=true:=by simp only[PX,pc,bne_self_eq_false,beq_self_eq_true,Bool.not_true,cond_false]
theorem Yy (x:Sndr):uk.f (x,x,())=true:=by simp only[PX,uk,bne_self_eq_false,beq_self_eq_true,Bool.not_true,cond_false]
theorem aau (x:Entr):yX.f (x,x,())=true:=by simp only[PX,yX,bne_self_eq_false,cond_false]
theorem Yx (x:MacRow):vc.f (x,x,())=true:=by simp only[PX,vc,bne_self_eq_false,beq_self_eq_true,Bool.not_true,cond_false]
theorem Z7 (x:Piec):yU.f (x,x,())=true:=by simp only[PX,yU,bne_self_eq_false,beq_self_eq_true,Bool.not_true,cond_false]
theorem abt (x:Half):Bj.f (x,x,())=true:=by simp only[PX,Bj,Ni,Lz,bne_self_eq_false,Bool.not_true,cond_false]
theorem Yj (x:Limi):uA.f (x,x,())=true:=by simp only[PX,uA,bne_self_eq_false,cond_false]
theorem Yl (x:List Tupl):ue.f (x,x,())=true:=by
 simp only[PX,ue,k9,bne_self_eq_false,cond_false]
 rw[lO _ _ λj=>by simp only[PX,vy,Ni,Bool.not_true,cond_false]]
 rfl
theorem YL (x:List Entr):uQ.f (x,x,())=true:=by
 simp only[PX,uQ,ld,bne_self_eq_false,cond_false]
 rw[lO _ _ λj=>by simp only[PX,vd,aau,Bool.not_true,cond_false]]
 rfl
theorem V6 (x:List MacRow):rF.f (x,x,())=true:=by
 simp only[PX,rF,kq,bne_self_eq_false,cond_false]
 rw[lO _ _ λj=>by simp only[PX,tD,Yx,Bool.not_true,cond_false]]
 rfl
theorem YK (x:List Piec):u3.f (x,x,())=true:=by
 simp only[PX,u3,kS,bne_self_eq_false,cond_false]
 rw[lO _ _ λj=>by simp only[PX,vK,Z7,Bool.not_true,cond_false]]
 rfl
theorem Z4 (x:List Half):y6.f (x,x,())=true:=by
 simp only[PX,y6,mc,bne_self_eq_false,cond_false]
 rw[lO _ _ λj=>by simp only[PX,wK,abt,Bool.not_true,cond_false]]
 rfl
theorem SW (x:Recv):p9.f (x,x,())=true:=by simp only[PX,p9,YK,bne_self_eq_false,beq_self_eq_true,Bool.not_true,cond_false]
theorem abb (x:Conn):B9.f (x,x,())=true:=by simp only[PX,B9,Ni,Yy,SW,Lz,bne_self_eq_false,Bool.not_true,cond_false]
theorem aah (x:List Conn):x6.f (x,x,())=true:=by
 simp only[PX,x6,mi,bne_self_eq_false,cond_false]
 rw[lO _ _ λj=>by simp only[PX,xQ,abb,Bool.not_true,cond_false]]
 rfl
theorem abP (x:Mac):BD.f (x,x,())=true:=by simp only[PX,BD,V6,bne_self_eq_false,beq_self_eq_true,Bool.not_true,cond_false]
theorem abo (x:Keys):Bt.f (x,x,())=true:=by simp only[PX,Bt,abP,bne_self_eq_false,beq_self_eq_true,Bool.not_true,cond_false]
theorem ZC (x:Tabl):yf.f (x,x,())=true:=by simp only[PX,yf,aah,Yl,Bool.not_true,cond_false]
theorem abz (x:Door):Cl.f (x,x,())=true:=by simp only[PX,Cl,abo,Yj,Z4,ZC,bne_self_eq_false,Bool.not_true,cond_false]
theorem abh (x:Link):BI.f (x,x,())=true:=by simp only[PX,BI,YL,bne_self_eq_false,Bool.not_true,cond_false]
theorem Vq (x:Stac):nQ.f (x,x,())=true:=by simp only[PX,nQ,abh,abz,Bool.not_true,cond_false]
theorem WI (x:Limi):u5.f (x,())=x:=by simp only[PX,u5]
theorem UU (x:List MacRow):sm.f (x,())=x:=by
 simp only[PX,sm,gI,av,aa]
 rw[bA x _ rfl (F:=λj y a=> .next (a.set j y)) (λj y a h=>by simp only[PX,tT,A8,aa,getD_some h])]
 have:=lr (W:=Empty) (λy:MacRow=>y) x 0 (List.replicate x.length (⟨[],0⟩:MacRow)) (by simp)
 rw[this]
 simp[Stp.elim]
theorem aaU (x:Mac):CG.f (x,())=x:=by simp only[PX,CG,UU]
def kE:Int->List MacRow->List MacRow
 |_,[]=>[]
 |k,_::r=>⟨bK.f (k,()),k+1⟩::kE (k+2) r
theorem LG:∀(k:Int) (xs:List MacRow),(kE k xs).length=xs.length
 |_,[]=>rfl
 |k,_::r=>by simp[kE,LG (k+2) r]
theorem Mi:∀(r A:List MacRow) (k:Int),0<=k->k+2*(r.length:Int)<=4611686018427387904->aR (λj a=>(iz j a).nice) 1 r.length (A.length:Int) (k,A++r)= .next (k+2*(r.length:Int),A++kE k r)
 |[],A,k,_,_=>by simp[aR,kE]
 |x::r,A,k,h0,h1=>by
  simp only[List.length_cons]at h1
  have w1:IntKind.wrap .i64 (k+1)=k+1:=aj (by omega) (by omega)
  have w2:IntKind.wrap .i64 (k+1+1)=k+2:=by rw[aj (by omega) (by omega)];omega
  have ih:=Mi r (A++[⟨bK.f (k,()),k+1⟩]) (k+2) (by omega) (by omega)
  simp only[PX,iz]at ih
  simp only[List.length_cons,aR,PX,iz,aa,Stp.elim,w1,w2]
  have e1:∀y z:MacRow,(A++y::r).set A.length z=A++z::r:=λy z=>by
   rw[List.set_append_right _ _ (Nat.le_refl _)];simp
  have e2:∀y:MacRow,(A++y::r).getD A.length (Ty.zero .macRow)=y:=λy=>getD_some (by simp)
  simp only[e1,e2]
  have e3:A++(⟨bK.f (k,()),k+1⟩:MacRow)::r=(A++[⟨bK.f (k,()),k+1⟩])++r:=by simp
  rw[e3,show(A.length:Int)+1=((A++[(⟨bK.f (k,()),k+1⟩:MacRow)]).length:Int) by simp,ih]
  simp only[kE,List.append_assoc,List.cons_append,List.nil_append]
  congr 2;omega
theorem L5 (xs:List MacRow)(k:Int)(h0:0<=k)(h1:k+2*(xs.length:Int)<=4611686018427387904):oA.f (xs,k,())=(k+2*(xs.length:Int),kE k xs):=by
 have:=Mi xs [] k h0 h1
 rw[List.nil_append,List.nil_append]at this
 simp only[PX,oA,bt,av]
 refine(congrArg (Stp.elim _ _) this).trans ?_
 simp only[Stp.elim]
theorem L7 (v:List MacRow):∀(r:List MacRow) (j:Nat) (k:Int),0<=k->k+2*(r.length:Int)<=4611686018427387904->v.drop j=kE k r->aR (λj a=>(iy v j a).nice) 1 r.length (j:Int) k= .next (k+2*(r.length:Int))
 |[],_,k,_,_,_=>by simp[aR]
 |x::r,j,k,h0,h1,h2=>by
  simp only[List.length_cons]at h1
  have w1:IntKind.wrap .i64 (k+1)=k+1:=aj (by omega) (by omega)
  have w2:IntKind.wrap .i64 (k+1+1)=k+2:=by rw[aj (by omega) (by omega)];omega
  have hg:v[j]? =some ⟨bK.f (k,()),k+1⟩:=by
   have:=congrArg (λl=>l[0]?) h2
   simpa [kE]using this
  have h3:v.drop (j+1)=kE (k+2) r:=by
   have:=congrArg (List.drop 1) h2
   simpa [kE,List.drop_drop]using this
  have ih:=L7 v r (j+1) (k+2) (by omega) (by omega) h3
  simp only[PX,iy]at ih
  simp only[List.length_cons,aR,PX,iy,aa,getD_some hg,w1,w2,beq_self_eq_true,bne_self_eq_false,Bool.not_true,cond_false,Stp.elim]
  rw[show(j:Int)+1=((j+1:Nat):Int) by omega,ih]
  congr 1;omega
theorem Mp (xs:List MacRow)(k:Int)(h0:0<=k)(h1:k+2*(xs.length:Int)<=4611686018427387904):oE.f (kE k xs,k,())=k+2*(xs.length:Int):=by
 have:=L7 (kE k xs) xs 0 k h0 h1 rfl
 simp only[PX,oE,hU,av,LG]
 refine(congrArg (Stp.elim _ _) this).trans ?_
 simp only[Stp.elim]
def aaD (t:Tabl):Tabl×Tupl×Bool:=match t.waiting with|[]=>(t,⟨0,0,0⟩,false)|w::r=>(⟨t.conns,r⟩,w,true)
theorem TO.take {t:Tabl}{l:Limi}(h:TO t l):TO (aaD t).1 l:=by
 obtain⟨cs,ws⟩:=t
 unfold aaD
 cases ws with
 |nil=>exact h
 |cons w r=>
  have h2:=h.nw
  have h3:=h.dw
  simp only[List.length_cons,List.nodup_cons]at h2 h3
  exact⟨h.lim,h.nc,by show(r.length:Int)<=_;omega,h.co,h.dc,h3.2,λx hx=>h.wc x (List.mem_cons_of_mem _ hx)⟩
theorem Id (x:Tupl):qc.f (x,())=x:=by simp only[PX,qc]
theorem G8 (x:Opti):oJ.f (x,())=x:=by simp only[PX,oJ]
theorem aas (x:Half):Bl.f (x,())=x:=by simp only[PX,Bl,Id,G8]
theorem Xk (x:List Entr):uN.f (x,())=x:=by
 simp only[PX,uN,iL,av,aa]
 rw[bA x _ rfl (F:=λj y a=> .next (a.set j y)) (λj y a h=>by simp only[PX,vI,Dq,aa,getD_some h])]
 rw[lr (W:=Empty) (λy:Entr=>y) x 0 _ (by simp)]
 simp[Stp.elim]
theorem WW (x:List Tupl):uI.f (x,())=x:=by
 simp only[PX,uI,iM,av,aa]
 rw[bA x _ rfl (F:=λj y a=> .next (a.set j y)) (λj y a h=>by simp only[PX,ve,Id,aa,getD_some h])]
 rw[lr (W:=Empty) (λy:Tupl=>y) x 0 _ (by simp)]
 simp[Stp.elim]
theorem YS (x:List Half):yE.f (x,())=x:=by
 simp only[PX,yE,jX,av,aa]
 rw[bA x _ rfl (F:=λj y a=> .next (a.set j y)) (λj y a h=>by simp only[PX,xi,aas,aa,getD_some h])]
 rw[lr (W:=Empty) (λy:Half=>y) x 0 _ (by simp)]
 simp[Stp.elim]
theorem Xe (x:List Piec):u6.f (x,())=x:=by
 simp only[PX,u6,iP,av,aa]
 rw[bA x _ rfl (F:=λj y a=> .next (a.set j y)) (λj y a h=>by simp only[PX,vl,Eg,aa,getD_some h])]
 rw[lr (W:=Empty) (λy:Piec=>y) x 0 _ (by simp)]
 simp[Stp.elim]
theorem Xc (x:Sndr):ut.f (x,())=x:=by simp only[PX,ut]
theorem Sx (x:Recv):p7.f (x,())=x:=by simp only[PX,p7,Xe]
theorem ZR (x:Conn):BT.f (x,())=x:=by simp only[PX,BT,Id,G8,Xc,Sx]
theorem YO (x:List Conn):yd.f (x,())=x:=by
 simp only[PX,yd,jB,av,aa]
 rw[bA x _ rfl (F:=λj y a=> .next (a.set j y)) (λj y a h=>by simp only[PX,wJ,ZR,aa,getD_some h])]
 rw[lr (W:=Empty) (λy:Conn=>y) x 0 _ (by simp)]
 simp[Stp.elim]
theorem Z1 (x:Keys):Cz.f (x,())=x:=by simp only[PX,Cz,aaU]
theorem Zm (x:Tabl):yK.f (x,())=x:=by simp only[PX,yK,YO,WW]
theorem ZA (x:Door):Dc.f (x,())=x:=by simp only[PX,Dc,Z1,WI,YS,Zm]
theorem ZY (x:Link):C6.f (x,())=x:=by simp only[PX,C6,Xk]
theorem Zk (x:Stac):nV.f (x,())=x:=by simp only[PX,nV,ZY,ZA]
def bz {α:Type}(n:α->Int):List α->Int
 |[]=>0
 |x::r=>n x+bz n r
def cD {α:Type}(n:α->Int)(M:Int->α->α):Int->List α->List α
 |_,[]=>[]
 |k,x::r=>M k x::cD n M (k+n x) r
theorem nv {α:Type}(n:α->Int)(M:Int->α->α):∀(k:Int) (xs:List α),(cD n M k xs).length=xs.length
 |_,[]=>rfl
 |k,x::r=>by simp[cD,nv n M (k+n x) r]
theorem bG {α:Type}{n:α->Int}(hn:∀x,0<=n x):∀(xs:List α),0<=bz n xs
 |[]=>Int.le_refl _
 |x::r=>by
  have:=bG hn r
  have:=hn x
  simp only[bz];omega
theorem uJ {α:Type}{n:α->Int}{B:Int}:∀(xs:List α),(∀x∈xs,n x<=B)->bz n xs<=B*(xs.length:Int)
 |[],_=>by simp[bz]
 |x::r,h=>by
  have h1:=uJ r λy hy=>h y (List.mem_cons_of_mem _ hy)
  have h2:=h x List.mem_cons_self
  have e:B*((x::r).length:Int)=B*(r.length:Int)+B:=by rw[List.length_cons];push_cast;rw[Int.mul_add,Int.mul_one]
  simp only[bz];omega
theorem li {α:Type}{n:α->Int}{M:Int->α->α}{T:Int->Int×List α->Stp (Int×List α) Empty}(hn:∀x,0<=n x)(hT:∀(A r:List α) (x:α) (k:Int),0<=k->k+n x<=4611686018427387904->T (A.length:Int) (k,A++x::r)= .next (k+n x,A++M k x::r)):∀(r A:List α) (k:Int),0<=k->k+bz n r<=4611686018427387904->aR T 1 r.length (A.length:Int) (k,A++r)= .next (k+bz n r,A++cD n M k r)
 |[],A,k,_,_=>by simp[aR,cD,bz]
 |x::r,A,k,h0,h1=>by
  simp only[bz]at h1
  have h2:=hn x
  have h3:=bG hn r
  have ih:=li hn hT r (A++[M k x]) (k+n x) (by omega) (by omega)
  rw[List.length_cons]
  simp only[aR]
  rw[hT A r x k h0 (by omega)]
  simp only[Stp.elim]
  rw[show A++M k x::r=(A++[M k x])++r by simp,show(A.length:Int)+1=((A++[M k x]).length:Int) by simp,ih]
  simp only[cD,bz,List.append_assoc,List.cons_append,List.nil_append]
  congr 2;omega
theorem ly {α W:Type}{n:α->Int}{M:Int->α->α}{H:Int->Int->Stp Int W}(v:List α)(hn:∀x,0<=n x)(hH:∀(j:Nat) (x:α) (k:Int),0<=k->k+n x<=4611686018427387904->v[j]? =some (M k x)->H (j:Int) k= .next (k+n x)):∀(r:List α) (j:Nat) (k:Int),0<=k->k+bz n r<=4611686018427387904->v.drop j=cD n M k r->aR H 1 r.length (j:Int) k= .next (k+bz n r)
 |[],_,k,_,_,_=>by simp[aR,bz]
 |x::r,j,k,h0,h1,h2=>by
  simp only[bz]at h1
  have h5:=hn x
  have h6:=bG hn r
  have hg:v[j]? =some (M k x):=by
   have:=congrArg (λl=>l[0]?) h2
   simpa [cD]using this
  have h3:v.drop (j+1)=cD n M (k+n x) r:=by
   have:=congrArg (List.drop 1) h2
   simpa [cD,List.drop_drop]using this
  have ih:=ly v hn hH r (j+1) (k+n x) (by omega) (by omega) h3
  rw[List.length_cons]
  simp only[aR]
  rw[hH j x k h0 (by omega) hg]
  simp only[Stp.elim]
  rw[show(j:Int)+1=((j+1:Nat):Int) by omega,ih]
  simp only[bz]
  congr 1;omega
theorem yw {α:Type}(A r:List α)(y z:α):(A++y::r).set A.length z=A++z::r:=by
 rw[List.set_append_right _ _ (Nat.le_refl _)];simp
theorem yv {α:Type}(A r:List α)(y d:α):(A++y::r).getD A.length d=y:=getD_some (by simp)
theorem Gn {k L N:Int}(j j':Int)(h:j'=j+1)(hj:0<=j)(hN:j'<=N)(h0:0<=k)(hL:0<=L)(h1:k+(N+L)<=4611686018427387904):IntKind.wrap .i64 (k+j+L+1)=k+j'+L:=by rw[aj (by omega) (by omega)];omega
theorem Kj {k L N:Int}(j j':Int)(h:j'=j+1)(hj:0<=j)(hN:j'<=N)(h0:0<=k)(hL:0<=L)(h1:k+(N+L)<=4611686018427387904):IntKind.wrap .i64 (k+j+1)=k+j':=by rw[aj (by omega) (by omega)];omega
theorem yZ {k N:Int}(j j':Int)(h:j'=j+1)(hj:0<=j)(hN:j'<=N)(h0:0<=k)(h1:k+N<=4611686018427387904):IntKind.wrap .i64 (k+j+1)=k+j':=by rw[aj (by omega) (by omega)];omega
theorem wr1 {k L N:Int}(hN:1<=N)(h0:0<=k)(hL:0<=L)(h1:k+(N+L)<=4611686018427387904):IntKind.wrap .i64 (k+1)=k+1:=aj (by omega) (by omega)
theorem Zu {k N:Int}(hN:1<=N)(h0:0<=k)(h1:k+N<=4611686018427387904):IntKind.wrap .i64 (k+1)=k+1:=aj (by omega) (by omega)
def gb (_x:ac):Int:=1
def sJ (k:Int)(_x:ac):ac:=bK.f (k,())
theorem sO (x:ac):0<=gb x:=by unfold gb;omega
theorem Gi (A r:List ac)(x:ac)(k:Int)(h0:0<=k)(h1:k+gb x<=4611686018427387904):(iG (A.length:Int) (k,A++x::r)).nice= .next (k+gb x,A++sJ k x::r):=by
 unfold gb at h1|-
 have e0:IntKind.wrap .i64 (k+1)=k+1:=Zu (by decide) h0 h1
 simp only[PX,iG,aa,yw,yv,e0,sJ]
theorem FJ (v:List ac)(j:Nat)(x:ac)(k:Int)(h0:0<=k)(h1:k+gb x<=4611686018427387904)(hg:v[j]? =some (sJ k x)):(iB v (j:Int) k).nice= .next (k+gb x):=by
 unfold gb at h1|-
 have e0:IntKind.wrap .i64 (k+1)=k+1:=Zu (by decide) h0 h1
 simp only[PX,iB,aa,getD_some hg,sJ,e0,beq_self_eq_true,bne_self_eq_false,Bool.not_true,cond_false]
theorem Rj (xs:List ac)(k:Int)(h0:0<=k)(h1:k+bz gb xs<=4611686018427387904):oc.f (xs,k,())=(k+bz gb xs,cD gb sJ k xs):=by
 have:=li (T:=λj a=>(iG j a).nice) (M:=sJ) sO Gi xs [] k h0 h1
 rw[List.nil_append,List.nil_append]at this
 simp only[PX,oc,bp,av]
 refine(congrArg (Stp.elim _ _) this).trans ?_
 simp only[Stp.elim]
theorem Qj (xs:List ac)(k:Int)(h0:0<=k)(h1:k+bz gb xs<=4611686018427387904):kL.f (cD gb sJ k xs,k,())=k+bz gb xs:=by
 have:=ly (W:=Int) (H:=λj a=>(iB (cD gb sJ k xs) j a).nice) (M:=sJ) (cD gb sJ k xs) sO (λj x k h0 h1 hg=>FJ _ j x k h0 h1 hg) xs 0 k h0 h1 rfl
 simp only[PX,kL,iE,av,nv]
 refine(congrArg (Stp.elim _ _) this).trans ?_
 simp only[Stp.elim]
def ey (_x:Piec):Int:=2
def xL (k:Int)(_x:Piec):Piec:=⟨k,bK.f (k+1,())⟩
theorem mh (x:Piec):0<=ey x:=by unfold ey;omega
theorem Hl (A r:List Piec)(x:Piec)(k:Int)(h0:0<=k)(h1:k+ey x<=4611686018427387904):(jt (A.length:Int) (k,A++x::r)).nice= .next (k+ey x,A++xL k x::r):=by
 unfold ey at h1|-
 have e0:IntKind.wrap .i64 (k+1)=k+1:=Zu (by decide) h0 h1
 have e1:IntKind.wrap .i64 (k+1+1)=k+2:=yZ 1 2 (by decide) (by decide) (by decide) h0 h1
 simp only[PX,jt,aa,yw,yv,e0,e1,xL]
theorem Jf (v:List Piec)(j:Nat)(x:Piec)(k:Int)(h0:0<=k)(h1:k+ey x<=4611686018427387904)(hg:v[j]? =some (xL k x)):(jq v (j:Int) k).nice= .next (k+ey x):=by
 unfold ey at h1|-
 have e0:IntKind.wrap .i64 (k+1)=k+1:=Zu (by decide) h0 h1
 have e1:IntKind.wrap .i64 (k+1+1)=k+2:=yZ 1 2 (by decide) (by decide) (by decide) h0 h1
 simp only[PX,jq,aa,getD_some hg,xL,e0,e1,beq_self_eq_true,bne_self_eq_false,Bool.not_true,cond_false]
theorem T7 (xs:List Piec)(k:Int)(h0:0<=k)(h1:k+bz ey xs<=4611686018427387904):p6.f (xs,k,())=(k+bz ey xs,cD ey xL k xs):=by
 have:=li (T:=λj a=>(jt j a).nice) (M:=xL) mh Hl xs [] k h0 h1
 rw[List.nil_append,List.nil_append]at this
 simp only[PX,p6,bF,av]
 refine(congrArg (Stp.elim _ _) this).trans ?_
 simp only[Stp.elim]
theorem SV (xs:List Piec)(k:Int)(h0:0<=k)(h1:k+bz ey xs<=4611686018427387904):pL.f (cD ey xL k xs,k,())=k+bz ey xs:=by
 have:=ly (W:=Int) (H:=λj a=>(jq (cD ey xL k xs) j a).nice) (M:=xL) (cD ey xL k xs) mh (λj x k h0 h1 hg=>Jf _ j x k h0 h1 hg) xs 0 k h0 h1 rfl
 simp only[PX,pL,jr,av,nv]
 refine(congrArg (Stp.elim _ _) this).trans ?_
 simp only[Stp.elim]
def fQ (_x:Half):Int:=13
def vq (k:Int)(_x:Half):Half:=⟨⟨k,k+1,k+2⟩,k+3,k+4,⟨k+5,k+6,((k+7).tmod 3==0),((k+8).tmod 3==0),k+9,k+10⟩,k+11,k+12⟩
theorem lX (x:Half):0<=fQ x:=by unfold fQ;omega
theorem KV (A r:List Half)(x:Half)(k:Int)(h0:0<=k)(h1:k+fQ x<=4611686018427387904):(kg (A.length:Int) (k,A++x::r)).nice= .next (k+fQ x,A++vq k x::r):=by
 unfold fQ at h1|-
 have e0:IntKind.wrap .i64 (k+1)=k+1:=Zu (by decide) h0 h1
 have e1:IntKind.wrap .i64 (k+1+1)=k+2:=yZ 1 2 (by decide) (by decide) (by decide) h0 h1
 have e2:IntKind.wrap .i64 (k+2+1)=k+3:=yZ 2 3 (by decide) (by decide) (by decide) h0 h1
 have e3:IntKind.wrap .i64 (k+3+1)=k+4:=yZ 3 4 (by decide) (by decide) (by decide) h0 h1
 have e4:IntKind.wrap .i64 (k+4+1)=k+5:=yZ 4 5 (by decide) (by decide) (by decide) h0 h1
 have e5:IntKind.wrap .i64 (k+5+1)=k+6:=yZ 5 6 (by decide) (by decide) (by decide) h0 h1
 have e6:IntKind.wrap .i64 (k+6+1)=k+7:=yZ 6 7 (by decide) (by decide) (by decide) h0 h1
 have e7:IntKind.wrap .i64 (k+7+1)=k+8:=yZ 7 8 (by decide) (by decide) (by decide) h0 h1
 have e8:IntKind.wrap .i64 (k+8+1)=k+9:=yZ 8 9 (by decide) (by decide) (by decide) h0 h1
 have e9:IntKind.wrap .i64 (k+9+1)=k+10:=yZ 9 10 (by decide) (by decide) (by decide) h0 h1
 have e10:IntKind.wrap .i64 (k+10+1)=k+11:=yZ 10 11 (by decide) (by decide) (by decide) h0 h1
 have e11:IntKind.wrap .i64 (k+11+1)=k+12:=yZ 11 12 (by decide) (by decide) (by decide) h0 h1
 have e12:IntKind.wrap .i64 (k+12+1)=k+13:=yZ 12 13 (by decide) (by decide) (by decide) h0 h1
 simp only[PX,kg,aa,yw,yv,e0,e1,e2,e3,e4,e5,e6,e7,e8,e9,e10,e11,e12,vq]
theorem KD (v:List Half)(j:Nat)(x:Half)(k:Int)(h0:0<=k)(h1:k+fQ x<=4611686018427387904)(hg:v[j]? =some (vq k x)):(ki v (j:Int) k).nice= .next (k+fQ x):=by
 unfold fQ at h1|-
 have e0:IntKind.wrap .i64 (k+1)=k+1:=Zu (by decide) h0 h1
 have e1:IntKind.wrap .i64 (k+1+1)=k+2:=yZ 1 2 (by decide) (by decide) (by decide) h0 h1
 have e2:IntKind.wrap .i64 (k+2+1)=k+3:=yZ 2 3 (by decide) (by decide) (by decide) h0 h1
 have e3:IntKind.wrap .i64 (k+3+1)=k+4:=yZ 3 4 (by decide) (by decide) (by decide) h0 h1
 have e4:IntKind.wrap .i64 (k+4+1)=k+5:=yZ 4 5 (by decide) (by decide) (by decide) h0 h1
 have e5:IntKind.wrap .i64 (k+5+1)=k+6:=yZ 5 6 (by decide) (by decide) (by decide) h0 h1
 have e6:IntKind.wrap .i64 (k+6+1)=k+7:=yZ 6 7 (by decide) (by decide) (by decide) h0 h1
 have e7:IntKind.wrap .i64 (k+7+1)=k+8:=yZ 7 8 (by decide) (by decide) (by decide) h0 h1
 have e8:IntKind.wrap .i64 (k+8+1)=k+9:=yZ 8 9 (by decide) (by decide) (by decide) h0 h1
 have e9:IntKind.wrap .i64 (k+9+1)=k+10:=yZ 9 10 (by decide) (by decide) (by decide) h0 h1
 have e10:IntKind.wrap .i64 (k+10+1)=k+11:=yZ 10 11 (by decide) (by decide) (by decide) h0 h1
 have e11:IntKind.wrap .i64 (k+11+1)=k+12:=yZ 11 12 (by decide) (by decide) (by decide) h0 h1
 have e12:IntKind.wrap .i64 (k+12+1)=k+13:=yZ 12 13 (by decide) (by decide) (by decide) h0 h1
 simp only[PX,ki,aa,getD_some hg,vq,e0,e1,e2,e3,e4,e5,e6,e7,e8,e9,e10,e11,e12,beq_self_eq_true,bne_self_eq_false,Bool.not_true,cond_false]
theorem WH (xs:List Half)(k:Int)(h0:0<=k)(h1:k+bz fQ xs<=4611686018427387904):su.f (xs,k,())=(k+bz fQ xs,cD fQ vq k xs):=by
 have:=li (T:=λj a=>(kg j a).nice) (M:=vq) lX KV xs [] k h0 h1
 rw[List.nil_append,List.nil_append]at this
 simp only[PX,su,bL,av]
 refine(congrArg (Stp.elim _ _) this).trans ?_
 simp only[Stp.elim]
theorem VW (xs:List Half)(k:Int)(h0:0<=k)(h1:k+bz fQ xs<=4611686018427387904):sy.f (cD fQ vq k xs,k,())=k+bz fQ xs:=by
 have:=ly (W:=Int) (H:=λj a=>(ki (cD fQ vq k xs) j a).nice) (M:=vq) (cD fQ vq k xs) lX (λj x k h0 h1 hg=>KD _ j x k h0 h1 hg) xs 0 k h0 h1 rfl
 simp only[PX,sy,j7,av,nv]
 refine(congrArg (Stp.elim _ _) this).trans ?_
 simp only[Stp.elim]
def jm (_x:Tupl):Int:=3
def sa (k:Int)(_x:Tupl):Tupl:=⟨k,k+1,k+2⟩
theorem mM (x:Tupl):0<=jm x:=by unfold jm;omega
theorem IW (A r:List Tupl)(x:Tupl)(k:Int)(h0:0<=k)(h1:k+jm x<=4611686018427387904):(jp (A.length:Int) (k,A++x::r)).nice= .next (k+jm x,A++sa k x::r):=by
 unfold jm at h1|-
 have e0:IntKind.wrap .i64 (k+1)=k+1:=Zu (by decide) h0 h1
 have e1:IntKind.wrap .i64 (k+1+1)=k+2:=yZ 1 2 (by decide) (by decide) (by decide) h0 h1
 have e2:IntKind.wrap .i64 (k+2+1)=k+3:=yZ 2 3 (by decide) (by decide) (by decide) h0 h1
 simp only[PX,jp,aa,yw,yv,e0,e1,e2,sa]
theorem J7 (v:List Tupl)(j:Nat)(x:Tupl)(k:Int)(h0:0<=k)(h1:k+jm x<=4611686018427387904)(hg:v[j]? =some (sa k x)):(jb v (j:Int) k).nice= .next (k+jm x):=by
 unfold jm at h1|-
 have e0:IntKind.wrap .i64 (k+1)=k+1:=Zu (by decide) h0 h1
 have e1:IntKind.wrap .i64 (k+1+1)=k+2:=yZ 1 2 (by decide) (by decide) (by decide) h0 h1
 have e2:IntKind.wrap .i64 (k+2+1)=k+3:=yZ 2 3 (by decide) (by decide) (by decide) h0 h1
 simp only[PX,jb,aa,getD_some hg,sa,e0,e1,e2,beq_self_eq_true,bne_self_eq_false,Bool.not_true,cond_false]
theorem UE (xs:List Tupl)(k:Int)(h0:0<=k)(h1:k+bz jm xs<=4611686018427387904):pZ.f (xs,k,())=(k+bz jm xs,cD jm sa k xs):=by
 have:=li (T:=λj a=>(jp j a).nice) (M:=sa) mM IW xs [] k h0 h1
 rw[List.nil_append,List.nil_append]at this
 simp only[PX,pZ,bE,av]
 refine(congrArg (Stp.elim _ _) this).trans ?_
 simp only[Stp.elim]
theorem TM (xs:List Tupl)(k:Int)(h0:0<=k)(h1:k+bz jm xs<=4611686018427387904):pJ.f (cD jm sa k xs,k,())=k+bz jm xs:=by
 have:=ly (W:=Int) (H:=λj a=>(jb (cD jm sa k xs) j a).nice) (M:=sa) (cD jm sa k xs) mM (λj x k h0 h1 hg=>J7 _ j x k h0 h1 hg) xs 0 k h0 h1 rfl
 simp only[PX,pJ,je,av,nv]
 refine(congrArg (Stp.elim _ _) this).trans ?_
 simp only[Stp.elim]
def eZ (x:Conn):Int:=24+bz ey x.r.held
def pA (k:Int)(x:Conn):Conn:=⟨⟨k,k+1,k+2⟩,k+3,⟨k+4,bK.f (k+5,()),k+6,((k+7).tmod 3==0),((k+8).tmod 3==0),((k+9).tmod 3==0)⟩,⟨k+10,bK.f (k+11,()),cD ey xL (k+12) x.r.held,k+12+bz ey x.r.held,((k+13+bz ey x.r.held).tmod 3==0)⟩,k+14+bz ey x.r.held,k+15+bz ey x.r.held,⟨k+16+bz ey x.r.held,k+17+bz ey x.r.held,((k+18+bz ey x.r.held).tmod 3==0),((k+19+bz ey x.r.held).tmod 3==0),k+20+bz ey x.r.held,k+21+bz ey x.r.held⟩,k+22+bz ey x.r.held,k+23+bz ey x.r.held⟩
theorem m8 (x:Conn):0<=eZ x:=by have:=bG mh x.r.held;unfold eZ;omega

end
end Go.Proofs.YtbkjnlihfgkkaaaGreat
