/-
  Contracts of functions and plain laws (printed by a program): each theorem says what a function of the program returns; conditions are its hypotheses.
-/
import Derived.Test.YtgbgljgnblkffaaGreatEJ3
set_option linter.all false
set_option maxRecDepth 4000
namespace Go.Proofs.YtgbgljgnblkffaaGreat
open Go Go.RowKit
noncomputable section
theorem BL (c:Conn)(g:Segm)(hs:ca c.r.held):nW.f (c,g,())=dU c g:=by
 simp only[PX,nW,d8,BD c g hs,W1 c g hs]
 have hv:=Zo c g
 unfold dU
 generalize Dl c g=v at hv⊢
 rcases hv with rfl|rfl|rfl|rfl|rfl
 ·rfl
 ·rfl
 ·rfl
 ·have e:(bif (4:Int)==4 then bif c.state==7 then(bB.f (g,1,()),())else(false,())else(false,())).1=decide (c.state=7∧bB.f (g,1,())=true):=by
   by_cases h7:c.state=7
   ·simp[h7]
   ·rw[show(c.state==7)=false by simp[h7],decide_eq_false (λh=>h7 h.1)];rfl
  rw[e]
  by_cases hq:c.state=7∧bB.f (g,1,())=true
  ·rw[decide_eq_true hq];simp only[if_pos hq];rfl
  ·rw[decide_eq_false hq];simp only[if_neg hq];rfl
 ·simp only[if_true]
  rw[if_neg (show¬(5:Int)=2 by omega),if_neg (show¬(5:Int)=3 by omega),if_neg (show¬(5:Int)=4 by omega)]
  generalize gv c g=x
  change (bif x.state==8 then(x,[],(5:Int))else bif (bif ((eG.f (x,x.window,())).2.length:Int)==0 then(aO.f (g,()) != 0,())else(false,())).1 then((eG.f (x,x.window,())).1,[cL.f ((eG.f (x,x.window,())).1,())],5)else((eG.f (x,x.window,())).1,(eG.f (x,x.window,())).2,5))=_
  by_cases h8:x.state=8
  ·rw[if_pos h8,show(x.state==8)=true by simp[h8]];rfl
  ·rw[if_neg h8,show(x.state==8)=false by simp[h8]]
   generalize eG.f (x,x.window,())=p
   obtain⟨p1,p2⟩:=p
   cases p2 with
   |nil=>
    by_cases h0:aO.f (g,())=0
    ·simp[h0]
    ·have h0':(aO.f (g,()) != 0)=true:=by simp[h0]
     simp[h0,h0']
   |cons a r=>
    have h0:(((a::r).length:Int)==0)=false:=by rw[beq_eq_false_iff_ne];simp only[List.length_cons];omega
    simp only[h0,cond_false,if_neg (show¬((a::r:List Segm)=[]∧aO.f (g,())≠0) by simp)]
theorem Zh (c:Conn)(w:Int)(hc:SO c.s)(h:(eG.f (c,w,())).2=[]):(eG.f (c,w,())).1=c:=by
 revert h
 simp only[PX,eG,d8,fT]
 cases(bif !bV.f (c,())then(true,())else bif (c.state==8)then(true,())else((c.state==7),())).1 with
 |true=>exact λ_=>rfl
 |false=>
 simp only[cond_false]
 have key:=rV (f:=λa=>(cd w a).nice) (Inv:=λa=>Sent c a.2.1∧(a.2.2=[]→a.2.1=c)) (Q:=λp=>p.2.2=[]→p.2.1=c) (meas:=λa=>H2 a.2.1.s) (λa hi a' he=>by
  rcases qq w c a hi.1 with⟨l,e⟩|⟨a2,e,h1,h2⟩
  ·simp only[e]at he;cases he
  ·simp only[e,Stp.next.injEq]at he;subst he
   refine⟨⟨h1,λh3=> ?_⟩,h2⟩
   exfalso
   obtain⟨a1,a2',al⟩:=a
   revert e
   simp only[PX,cd]
   cases(bg.f (a2'.s,w,dF.f (a2',()),())).2 with
   |false=>intro e;cases e
   |true=>
    cases((bg.f (a2'.s,w,dF.f (a2',()),())).1.text==[])<;>cases(bg.f (a2'.s,w,dF.f (a2',()),())).1.fin<;>(intro e;simp only[Stp.next.injEq,cond_true,cond_false,Bool.not_true,Bool.not_false]at e;subst e;simp at h3)) (λa hi p he=>by
  rcases qq w c a hi.1 with⟨l,e⟩|⟨a2,e,h1,h2⟩
  ·obtain⟨a1,a2',al⟩:=a
   have hl:l=al:=by
    revert e
    simp only[PX,cd]
    cases(bg.f (a2'.s,w,dF.f (a2',()),())).2 with
    |false=>intro e;cases e;rfl
    |true=>cases((bg.f (a2'.s,w,dF.f (a2',()),())).1.text==[])<;>cases(bg.f (a2'.s,w,dF.f (a2',()),())).1.fin<;>(intro e;cases e)
   simp only[e,Stp.out.injEq]at he;subst he;subst hl;exact hi.2
  ·simp only[e]at he;cases he) (H2 c.s+1) (⟨⟨0,0,0⟩,0,⟨0,[],0,false,false,false⟩,⟨0,[],[],0,false⟩,0,0,⟨0,0,false,false,0,0⟩,0,0⟩,c,[]) (Nat.lt_succ_self _) ⟨Sent.refl c hc,λ_=>rfl⟩
 obtain⟨q,hq⟩:∃q,bI (λa=>(cd w a).nice) (H2 c.s+1) (⟨⟨0,0,0⟩,0,⟨0,[],0,false,false,false⟩,⟨0,[],[],0,false⟩,0,0,⟨0,0,false,false,0,0⟩,0,0⟩,c,[])=q:=⟨_,rfl⟩
 rw[hq]at key
 simp only[hq]
 obtain⟨q1,q2,q3⟩:=q
 simp only[]at key⊢
 intro h3
 have h4:q3=[]:=by
  revert h3
  cases(bif decide (0<(q3.length:Int))then((q2.timer==0),())else(false,())).1<;>exact λh=>h
 subst h4
 rw[key rfl]
 rfl
theorem BG (c:Conn)(g:Segm)(hs:ca c.r.held):qA.f (c,g,())=dU c g:=by
 simp only[PX,qA,nZ,B3 c g hs,Wf c g hs,C6,uW,Og]
 have hv:=Zo c g
 have h5:=RP c g hs
 have hb:Dl c g=5→g.body.length≤1420:=λh=>eL g (vd5 c g h).sg
 unfold dU
 generalize Dl c g=v at hv h5 hb⊢
 rcases hv with rfl|rfl|rfl|rfl|rfl
 ·rfl
 ·rfl
 ·show(c,[kR.f (c,())],(3:Int))=_
  rw[C6];rfl
 ·have e:(bif (4:Int)==4 then bif c.state==7 then(bB.f (g,1,()),())else(false,())else(false,())).1=decide (c.state=7∧bB.f (g,1,())=true):=by
   by_cases h7:c.state=7
   ·simp[h7]
   ·rw[show(c.state==7)=false by simp[h7],decide_eq_false (λh=>h7 h.1)];rfl
  rw[e]
  by_cases hq:c.state=7∧bB.f (g,1,())=true
  ·rw[decide_eq_true hq];simp only[if_pos hq]
   show(({c with timer:=4}:Conn),[kR.f (c,())],(4:Int))=_
   rw[C6];rfl
  ·rw[decide_eq_false hq];simp only[if_neg hq]
   show(c,[kR.f (c,())],(4:Int))=_
   rw[C6];rfl
 ·simp only[if_true]
  rw[if_neg (show¬(5:Int)=2 by omega),if_neg (show¬(5:Int)=3 by omega),if_neg (show¬(5:Int)=4 by omega)]
  obtain⟨hx,-,-,hxs⟩:=h5 rfl
  have hl:=ru g (by have:=hb rfl;omega)
  generalize gv c g=x at hx hxs⊢
  have hP:=acO x x.window (by have:=hx.w1;have:=hx.m1;omega) hxs
  have hN:=Zh x x.window hx.snd
  change (bif x.state==8 then(x,[],(5:Int))else bif (bif decide (0<aO.f (g,()))then(((mI.f (x,x.window,())).2.length:Int)==0,())else(false,())).1 then((mI.f (x,x.window,())).1,(mI.f (x,x.window,())).2++[cL.f (x,())],5)else((mI.f (x,x.window,())).1,(mI.f (x,x.window,())).2,5))=_
  rw[hP]
  by_cases h8:x.state=8
  ·rw[if_pos h8,show(x.state==8)=true by simp[h8]];rfl
  ·rw[if_neg h8,show(x.state==8)=false by simp[h8]]
   generalize eG.f (x,x.window,())=p at hN⊢
   obtain⟨p1,p2⟩:=p
   cases p2 with
   |nil=>
    have hN:=hN rfl
    simp only[]at hN
    subst hN
    by_cases h0:aO.f (g,())=0
    ·simp[h0]
    ·rw[decide_eq_true (show 0<aO.f (g,()) by omega)]
     simp[h0]
   |cons a r=>
    have h0:(((a::r).length:Int)==0)=false:=by rw[beq_eq_false_iff_ne];simp only[List.length_cons];omega
    cases decide (0<aO.f (g,()))<;>simp only[h0,cond_true,cond_false,if_neg (show¬((a::r:List Segm)=[]∧aO.f (g,())≠0) by simp)]
theorem N2 (n:Int):bits .and .i64 n 15=n%16:=by
 have h:(BitVec.ofInt 64 15).toNat=2 ^ 4-1:=by decide
 have key:(BitVec.ofInt 64 n&&& BitVec.ofInt 64 15).toNat=(n%((2 ^ 64:Nat):Int)).toNat%2 ^ 4:=by
  rw[BitVec.toNat_and,BitVec.toNat_ofInt,h,Nat.and_two_pow_sub_one_eq_mod]
 show IntKind.i64.wrap ((BitVec.ofInt 64 n&&& BitVec.ofInt 64 15).toNat:Nat)=n%16
 rw[key,cQ]
 omega
theorem X5 (v:Int):yQ.f (v,())=mj.f (v,()):=by
 simp only[PX,yQ,mj,cW,N2]
 rcases Bool.eq_false_or_eq_true (aa.f (v,32,()))with h|h
 ·rw[h]
  rw[bz]at h
  simp only[Bool.and_eq_true,decide_eq_true_eq]at h
  rw[Int.tmod_eq_emod_of_nonneg h.1]
 ·rw[h];rfl
theorem Ej (i:Int)(o:Opti):kS.f (i,o,())=cM.f (i,o,()):=by
 simp only[PX,kS,cM,X5,Xx,bM,bO]
theorem NU (t:Tupl)(h:aJ.f (t,())=true):(0≤t.ip∧t.ip≤4294967295)∧(0≤t.port∧t.port≤65535)∧(0≤t.my∧t.my≤65535):=by
 simp only[PX,aJ,bx,bz]at h
 by_cases h1:0≤t.ip∧t.ip≤4294967295
 ·by_cases h2:0≤t.port∧t.port≤65535
  ·by_cases h3:0≤t.my∧t.my≤65535
   ·exact⟨h1,h2,h3⟩
   ·rw[show(decide (0≤t.my)&&decide (t.my≤65535))=false by rw[Bool.and_eq_false_iff];simp only[decide_eq_false_iff_not];omega]at h
    revert h
    cases(decide (0≤t.ip)&&decide (t.ip≤4294967295))<;>cases(decide (0≤t.port)&&decide (t.port≤65535))<;>simp
  ·rw[show(decide (0≤t.port)&&decide (t.port≤65535))=false by rw[Bool.and_eq_false_iff];simp only[decide_eq_false_iff_not];omega]at h
   revert h
   cases(decide (0≤t.ip)&&decide (t.ip≤4294967295))<;>simp
 ·rw[show(decide (0≤t.ip)&&decide (t.ip≤4294967295))=false by rw[Bool.and_eq_false_iff];simp only[decide_eq_false_iff_not];omega]at h
  simp at h
theorem NK (s:Sndr):ki.f (s,())=(s.una+cZ.f (s,()))%4294967296:=by simp only[PX,ki,bZ]
theorem uT:az.f (bO.f (()),())=true:=by decide+kernel
theorem ZA (c:Conn)(hc:aJ.f (c.tuple,())=true)(hd:c.r.data.length≤32)(hn:0≤c.r.next∧c.r.next≤4294967295)(sq fl:Int)(b:ac)(h0:0≤sq∧sq≤4294967295)(hf:0≤fl∧fl≤63)(hb:b.length≤1420):ak.f ({cL.f (c,())with seq:=sq,flags:=fl,body:=b},())=true:=by
 rw[bv]
 have ht:=NU c.tuple hc
 have hw:=pT c.r hd
 simp only[PX,cL,iU c.r hd]
 exact⟨ht.2.2,ht.2.1,h0,hn,hf,⟨hw.1,by omega⟩,uT,hb⟩
theorem R0 (c:Conn)(hc:CO c)(hs:ca c.r.held):ak.f (cL.f (c,()),())=true:=by
 have hr:=(rD c.r hs).1 hc.rcv
 have h:=ZA c hc.tup hr.dl ⟨hr.n0,hr.n1⟩ (ki.f (c.s,())) 16 [] (by rw[NK];omega) (by omega) (by simp)
 have e:({cL.f (c,())with seq:=ki.f (c.s,()),flags:=16,body:=[]}:Segm)=cL.f (c,()):=by simp only[PX,cL]
 rw[e]at h;exact h
theorem Nb (s:Sndr)(w m:Int)(h:(bg.f (s,w,m,())).2=true):(bg.f (s,w,m,())).1.seq=ki.f (s,()):=by
 revert h
 simp only[PX,bg]
 generalize(if 0<(if(IntKind.wrap .i64 ((if w<(-1)then(-1)else w)-cZ.f (s,())))<(if m<(((s.data.take ((s.data.length:Int).toNat)).drop s.sent.toNat).length:Int)then m else(((s.data.take ((s.data.length:Int).toNat)).drop s.sent.toNat).length:Int))then(IntKind.wrap .i64 ((if w<(-1)then(-1)else w)-cZ.f (s,())))else(if m<(((s.data.take ((s.data.length:Int).toNat)).drop s.sent.toNat).length:Int)then m else(((s.data.take ((s.data.length:Int).toNat)).drop s.sent.toNat).length:Int)))then(if(IntKind.wrap .i64 ((if w<(-1)then(-1)else w)-cZ.f (s,())))<(if m<(((s.data.take ((s.data.length:Int).toNat)).drop s.sent.toNat).length:Int)then m else(((s.data.take ((s.data.length:Int).toNat)).drop s.sent.toNat).length:Int))then(IntKind.wrap .i64 ((if w<(-1)then(-1)else w)-cZ.f (s,())))else(if m<(((s.data.take ((s.data.length:Int).toNat)).drop s.sent.toNat).length:Int)then m else(((s.data.take ((s.data.length:Int).toNat)).drop s.sent.toNat).length:Int)))else 0)=n
 generalize(IntKind.wrap .i64 ((if w<(-1)then(-1)else w)-cZ.f (s,())))=v
 generalize(((s.data.take ((s.data.length:Int).toNat)).drop s.sent.toNat).take n.toNat).drop 0=tx
 generalize(((s.data.take ((s.data.length:Int).toNat)).drop s.sent.toNat).length:Int)=ln
 cases bE.f (s,())<;>cases s.fin<;>cases s.finSent<;>cases s.done<;>cases(n==ln)<;>cases(tx==[])<;>cases decide (n<v)<;>simp
theorem Yc (c:Conn)(w:Int)(hc:CO c)(hs:ca c.r.held):∀g∈(eG.f (c,w,())).2,ak.f (g,())=true:=by
 have hr:=(rD c.r hs).1 hc.rcv
 simp only[PX,eG,d8,fT]
 cases(bif !bV.f (c,())then(true,())else bif (c.state==8)then(true,())else((c.state==7),())).1 with
 |true=>intro g hg;cases hg
 |false=>
 simp only[cond_false]
 have key:=rV (f:=λa=>(cd w a).nice) (Inv:=λa=>Sent c a.2.1∧(∀g∈a.2.2,ak.f (g,())=true)) (Q:=λp=>∀g∈p.2.2,ak.f (g,())=true) (meas:=λa=>H2 a.2.1.s) (λa hi a' he=>by
  rcases qq w c a hi.1 with⟨l,e⟩|⟨a2,e,h1,h2⟩
  ·simp only[e]at he;cases he
  ·simp only[e,Stp.next.injEq]at he;subst he
   refine⟨⟨h1, ?_⟩,h2⟩
   obtain⟨hS,hl⟩:=hi
   obtain⟨a1,b2,al⟩:=a
   simp only[]at hS hl
   have hre:=hS.re
   have htup:aJ.f (b2.tuple,())=true:=by rw[hre];exact hc.tup
   have hrr:b2.r=c.r:=by rw[hre]
   have hch:=bg.c.h (b2.s,w,dF.f (b2,()),()) (Kg hS.so)
   have hsq:=Nb b2.s w (dF.f (b2,()))
   revert e
   simp only[PX,cd]
   simp only[PX]at hch
   generalize bg.f (b2.s,w,dF.f (b2,()),())=z at hch hsq⊢
   obtain⟨y,b⟩:=z
   cases b with
   |false=>intro e;cases e
   |true=>
    obtain⟨-,hch⟩:=hch
    obtain⟨-,hlen,-,-,-⟩:=hch rfl
    have hsq:=hsq rfl
    simp only[]at hlen hsq
    have hdl:=hS.so.2.2.1
    have hs0:=hS.so.2.2.2.1
    have ok:∀fl:Int,0≤fl∧fl≤63→ak.f (({cL.f (b2,())with seq:=y.seq,flags:=fl,body:=y.text}:Segm),())=true:=λfl hf=>ZA b2 htup (by rw[hrr];exact hr.dl) (by rw[hrr];exact⟨hr.n0,hr.n1⟩) y.seq fl y.text (by rw[hsq,NK];omega) hf (by omega)
    have fin:∀fl:Int,0≤fl∧fl≤63→∀g∈al++[({cL.f (b2,())with seq:=y.seq,flags:=fl,body:=y.text}:Segm)],ak.f (g,())=true:=by
     intro fl hf g hg
     rcases List.mem_append.1 hg with h3|h3
     ·exact hl g h3
     ·rw[List.mem_singleton.1 h3];exact ok fl hf
    have hfl:(cL.f (b2,())).flags=16:=by simp only[PX,cL]
    simp only[hfl]
    cases(y.text==[])<;>cases y.fin<;>(intro e;simp only[Stp.next.injEq,cond_true,cond_false,Bool.not_true,Bool.not_false]at e;subst e;refine fin _ (by decide+kernel))) (λa hi p he=>by
  rcases qq w c a hi.1 with⟨l,e⟩|⟨a2,e,h1,h2⟩
  ·obtain⟨a1,a2',al⟩:=a
   have hl:l=al:=by
    revert e
    simp only[PX,cd]
    cases(bg.f (a2'.s,w,dF.f (a2',()),())).2 with
    |false=>intro e;cases e;rfl
    |true=>cases((bg.f (a2'.s,w,dF.f (a2',()),())).1.text==[])<;>cases(bg.f (a2'.s,w,dF.f (a2',()),())).1.fin<;>(intro e;cases e)
   simp only[e,Stp.out.injEq]at he;subst he;subst hl;exact hi.2
  ·simp only[e]at he;cases he) (H2 c.s+1) (⟨⟨0,0,0⟩,0,⟨0,[],0,false,false,false⟩,⟨0,[],[],0,false⟩,0,0,⟨0,0,false,false,0,0⟩,0,0⟩,c,[]) (Nat.lt_succ_self _) ⟨Sent.refl c hc.snd,λg hg=>by cases hg⟩
 obtain⟨q,hq⟩:∃q,bI (λa=>(cd w a).nice) (H2 c.s+1) (⟨⟨0,0,0⟩,0,⟨0,[],0,false,false,false⟩,⟨0,[],[],0,false⟩,0,0,⟨0,0,false,false,0,0⟩,0,0⟩,c,[])=q:=⟨_,rfl⟩
 rw[hq]at key
 simp only[hq]
 obtain⟨q1,q2,q3⟩:=q
 simp only[]at key⊢
 cases(bif decide (0<(q3.length:Int))then((q2.timer==0),())else(false,())).1<;>exact key
theorem HZ (c:Conn)(g:Segm)(hc:CO c)(hs:ca c.r.held):CO (dU c g).1∧(dU c g).1.tuple=c.tuple∧(∀y∈(dU c g).2.1,ak.f (y,())=true)∧ca (dU c g).1.r.held:=by
 have one:∀y∈[cL.f (c,())],ak.f (y,())=true:=λy hy=>by rw[List.mem_singleton.1 hy];exact R0 c hc hs
 have nil:∀y∈([]:List Segm),ak.f (y,())=true:=λy hy=>by cases hy
 unfold dU
 split
 ·exact⟨CO.set hc 8 0 0 (.inr rfl) (by omega) (by omega) (λ_=>by omega) (by omega) (by omega),rfl,nil,hs⟩
 ·split
  ·exact⟨hc,rfl,one,hs⟩
  ·split
   ·split
    ·rename_i h7
     exact⟨CO.set hc c.state 4 c.tries (.inl rfl) (by omega) (by omega) (λh=>absurd h7.1 h) hc.r0 hc.r3,rfl,one,hs⟩
    ·exact⟨hc,rfl,one,hs⟩
   ·split
    ·rename_i hv
     obtain⟨hx,hxt,-,hxs⟩:=RP c g hs hv
     generalize gv c g=x at hx hxt hxs⊢
     split
     ·exact⟨hx,hxt,nil,hxs⟩
     ·have hS:=Ym x x.window hx.snd
      have hp:=Sent.ok hS hx (hS.tm.elim .inr λe=> .inl (by omega))
      have ht:(eG.f (x,x.window,())).1.tuple=x.tuple:=by rw[hS.re]
      have hr:(eG.f (x,x.window,())).1.r=x.r:=by rw[hS.re]
      refine⟨hp,ht.trans hxt, ?_,by show ca (eG.f (x,x.window,())).1.r.held;rw[hr];exact hxs⟩
      simp only[]
      split
      ·intro y hy
       rw[List.mem_singleton.1 hy];exact R0 _ hp (by rw[hr];exact hxs)
      ·exact Yc x x.window hx hxs
    ·exact⟨hc,rfl,nil,hs⟩
theorem X3 (t:Tabl)(c:Conn):yP.f (t,c,())=fg.f (t,c,()):=by
 simp only[PX,yP,fg,D2,mQ,lL,nZ,d8]
theorem X0 (t:Tabl)(c:Conn)(l:Limi)(hs:∀y∈t.conns,ca y.r.held)(hc:ca c.r.held):ug.f (t,c,l,())=mc.f (t,c,l,()):=by
 simp only[PX,ug,mc,D2,mQ,nZ,d8]
 rw[OS _ _ (λy hy=>by
  rcases List.mem_append.1 hy with h|h
  ·exact hs y h
  ·rw[List.mem_singleton.1 h];exact hc)]
theorem abj (xs:List Conn)(t:Tupl)(h:decide (0≤gD (λh=>lS t h.tuple) xs)=true):∃i:Nat,gD (λh:Conn=>lS t h.tuple) xs=(i:Int)∧∃hi:i<xs.length,xs[i].tuple=t:=by
 unfold gD at h⊢
 cases hf:xs.findIdx? (λh=>lS t h.tuple)with
 |none=>rw[hf]at h;simp at h
 |some i=>
  obtain⟨h1,h2,-⟩:=List.findIdx?_eq_some_iff_getElem.1 hf
  exact⟨i,rfl,h1,((B2 _ _).1 h2).symm⟩
theorem yk (xs:List Half)(t:Tupl)(h:decide (0≤gD (λh=>lS t h.tuple) xs)=true):∃i:Nat,gD (λh:Half=>lS t h.tuple) xs=(i:Int)∧∃hi:i<xs.length,xs[i].tuple=t:=by
 unfold gD at h⊢
 cases hf:xs.findIdx? (λh=>lS t h.tuple)with
 |none=>rw[hf]at h;simp at h
 |some i=>
  obtain⟨h1,h2,-⟩:=List.findIdx?_eq_some_iff_getElem.1 hf
  exact⟨i,rfl,h1,((B2 _ _).1 h2).symm⟩
theorem TO.set {t:Tabl}{l:Limi}(h:TO t l)(i:Nat)(c:Conn)(hc:CO c)(hi:i<t.conns.length)(ht:c.tuple=t.conns[i].tuple):TO (⟨t.conns.set i c,t.waiting⟩:Tabl) l:=by
 have hm:(t.conns.set i c).map Conn.tuple=t.conns.map Conn.tuple:=by
  rw[List.map_set,ht]
  apply List.ext_getElem?
  intro j
  rw[List.getElem?_set]
  split
  ·rename_i hj
   subst hj
   simp[hi]
  ·rfl
 refine⟨h.lim,by show((t.conns.set i c).length:Int)≤l.conns;rw[List.length_set];exact h.nc,h.nw, ?_, ?_,h.dw, ?_⟩
 ·intro y hy
  rcases List.mem_or_eq_of_mem_set hy with h1|h1
  ·exact h.co y h1
  ·rw[h1];exact hc
 ·show((t.conns.set i c).map Conn.tuple).Nodup
  rw[hm];exact h.dc
 ·intro w hw
  show w∈(t.conns.set i c).map Conn.tuple
  rw[hm];exact h.wc w hw
theorem aaX (xs:List Conn)(i:Nat)(c:Conn)(hi:i<xs.length)(ht:c.tuple=xs[i].tuple):(xs.set i c).map Conn.tuple=xs.map Conn.tuple:=by
 rw[List.map_set,ht]
 apply List.ext_getElem?
 intro j
 rw[List.getElem?_set]
 split
 ·rename_i hj
  subst hj
  simp[hi]
 ·rfl
theorem WZ (xs:List Conn)(hd:(xs.map Conn.tuple).Nodup)(i:Nat)(hi:i<xs.length):gD (λh:Conn=>lS xs[i].tuple h.tuple) xs=(i:Int):=by
 have h:=(yU Conn.tuple xs).2 hd i xs[i] (List.getElem?_eq_getElem hi)
 have h2:=C0 (λh:Conn=>lS xs[i].tuple h.tuple) xs i xs[i] (List.getElem?_eq_getElem hi) (xr _)
 rw[h]at h2
 simpa using h2
theorem CB (t:Tabl)(c:Conn)(hd:(t.conns.map Conn.tuple).Nodup)(i:Nat)(hi:i<t.conns.length)(ht:c.tuple=t.conns[i].tuple):fg.f (t,c,())=⟨t.conns.set i c,t.waiting⟩:=by
 simp only[PX,fg,mQ,d8,gf]
 rw[ht,WZ t.conns hd i hi,decide_eq_true (show(0:Int)≤(i:Int) by omega),ah]
 rfl
theorem BW (t:Tabl)(c:Conn)(l:Limi):mc.f (t,c,l,())=if dE.f ((⟨t.conns++[c],t.waiting++[c.tuple]⟩:Tabl),l,())=true then(⟨t.conns++[c],t.waiting++[c.tuple]⟩,true)else(t,false):=by
 simp only[PX,mc,mQ,d8]
 cases dE.f ((⟨t.conns++[c],t.waiting++[c.tuple]⟩:Tabl),l,())<;>rfl
def ur (xs:List Half)(t:Tupl):List Half:=bif decide (0≤gD (λh:Half=>lS t h.tuple) xs)then xs.take (gD (λh:Half=>lS t h.tuple) xs).toNat++xs.drop ((gD (λh:Half=>lS t h.tuple) xs).toNat+1)else xs
theorem zm (xs:List Half)(t:Tupl)(hl:xs.length≤4294967296):ry.f (xs,t,())=ur xs t:=by
 simp only[PX,ry,uK,iH]
 unfold ur
 cases h:decide (0≤gD (λh:Half=>lS t h.tuple) xs)with
 |false=>
  rw[show decide (gD (λh:Half=>lS t h.tuple) xs<0)=true by simp at h⊢;exact h]
  simp
 |true=>
  obtain⟨i,e,hi,-⟩:=yk xs t h
  rw[e,decide_eq_false (show¬(i:Int)<0 by omega),ar (by omega) (by omega),ah,show((i:Int)+1).toNat=i+1 by omega]
  simp
theorem zj (xs:List Half)(t:Tupl)(hl:xs.length≤4294967296):ol.f (xs,t,())=ur xs t:=by
 simp only[PX,ol,eE,sZ,iH]
 unfold ur
 cases h:decide (0≤gD (λh:Half=>lS t h.tuple) xs)with
 |false=>simp
 |true=>
  obtain⟨i,e,hi,-⟩:=yk xs t h
  rw[e,ar (by omega) (by omega),show((i:Int)==(i:Int)+1)=false by simp;omega,ah,show((i:Int)+1).toNat=i+1 by omega]
  simp only[cond_false,cond_true]
  have hL:(xs.take i++xs.drop (i+1)).length=i+(xs.length-(i+1)):=by
   rw[List.length_append,List.length_take,List.length_drop];omega
  generalize xs.take i++xs.drop (i+1)=L at hL⊢
  rw[List.drop_zero,List.take_left' hL,ah,hL,List.take_left' hL,List.append_assoc,List.take_left' hL]
theorem Ox (xs:List Half)(t:Tupl):(ur xs t).Sublist xs:=by
 unfold ur
 cases h:decide (0≤gD (λh:Half=>lS t h.tuple) xs)with
 |false=>exact List.Sublist.refl _
 |true=>
  obtain⟨i,e,hi,-⟩:=yk xs t h
  rw[e,ah,cond_true]
  have h1:(xs.take i++xs.drop (i+1)).Sublist (xs.take i++xs.drop i):=List.Sublist.append (List.Sublist.refl _) (by
   rw[←List.drop_drop];exact List.drop_sublist _ _)
  rw[List.take_append_drop]at h1
  exact h1
theorem HO.sub {xs ys:List Half}(h:HO xs)(hs:ys.Sublist xs):HO ys:=⟨λy hy=>h.ok y (hs.subset hy),List.Nodup.sublist (hs.map _) h.nd,Nat.le_trans hs.length_le h.len⟩
theorem Wr (xs:List Half)(t:Tupl)(hd:(xs.map Half.tuple).Nodup):t∉(ur xs t).map Half.tuple:=by
 unfold ur
 cases h:decide (0≤gD (λh:Half=>lS t h.tuple) xs)with
 |false=>
  rw[ly]at h
  rw[cond_false,←Da,h];simp
 |true=>
  obtain⟨i,e,hi,ht⟩:=yk xs t h
  rw[e,ah,cond_true,List.map_append,List.mem_append]
  have h1:xs.map Half.tuple=(xs.take i).map Half.tuple++t::(xs.drop (i+1)).map Half.tuple:=by
   conv=>lhs;rw[←List.take_append_drop i xs,List.drop_eq_getElem_cons hi]
   rw[List.map_append,List.map_cons,ht]
  rw[h1]at hd
  obtain⟨-,h3,h4⟩:=List.nodup_append.1 hd
  rintro(h5|h5)
  ·exact h4 t h5 t (List.mem_cons_self ..) rfl
  ·exact(List.nodup_cons.1 h3).1 h5
theorem X7 (g:Segm):gL.f (g,())=bif bB.f (g,4,())then[]else[(ku.f (g,())).1]:=by
 simp only[PX,gL,ku]
 cases bB.f (g,4,())with
 |true=>rfl
 |false=>cases bB.f (g,16,())<;>rfl
theorem Vb (g:Segm):vj.f (g,())=ku.f (g,()):=by
 simp only[PX,vj,ku,Og,uW,j8,bM,bO]
theorem KJ (d:Door)(g:Segm):lT.f (d,g,())=(d,gL.f (g,()),0):=by
 simp only[PX,lT,Vb,om,gL]
 cases(ku.f (g,())).2<;>rfl
theorem yK (g:Segm)(hg:ak.f (g,())=true):∀y∈gL.f (g,()),ak.f (y,())=true:=by
 have h:=(bv g).1 hg
 rw[X7]
 cases h4:bB.f (g,4,())with
 |true=>intro y hy;cases hy
 |false=>
  intro y hy
  rw[cond_false,List.mem_singleton]at hy
  subst hy
  simp only[PX,ku,h4,bZ,cond_false]
  cases bB.f (g,16,())with
  |true=>
   rw[bv]
   exact⟨h.2.1,h.1,h.2.2.2.1,by show(0:Int)≤0∧(0:Int)≤4294967295;omega,by show(0:Int)≤4∧(4:Int)≤63;omega,by show(0:Int)≤0∧(0:Int)≤65535;omega,uT,by simp⟩
  |false=>
   rw[bv]
   refine⟨h.2.1,h.1,by show(0:Int)≤0∧(0:Int)≤4294967295;omega, ?_,by show(0:Int)≤20∧(20:Int)≤63;omega,by show(0:Int)≤0∧(0:Int)≤65535;omega,uT,by simp⟩
   show 0≤(g.seq+aO.f (g,()))%4294967296∧(g.seq+aO.f (g,()))%4294967296≤4294967295
   omega
theorem Np (n:Int):k9.f (n,())=jF.f (n,()):=by
 simp only[PX,k9,jF,oC,bZ,Int.add_zero]
def H4 (t:Tupl)(iss irs:Int)(o:Opti)(w:Int):Conn:=⟨t,1,⟨(iss+1)%4294967296,[],0,false,false,false⟩,⟨(irs+1)%4294967296,[],[],-1,false⟩,jh w o.scale,jh w o.scale,o,0,0⟩
theorem Cm (t:Tupl)(iss irs:Int)(o:Opti)(w:Int)(ho:az.f (o,())=true)(h0:0≤w)(h1:w≤65535):tS.f (t,iss,irs,o,w,())=H4 t iss irs o w:=by
 have hs:=(fk o ho).2
 have hw:aa.f (w,16,())=true:=by rw[bx,decide_eq_true h0,decide_eq_true h1];rfl
 simp only[PX,tS,ho,hw,Bool.not_true,cond_false,jF,bZ,Int.add_zero]
 rw[ES w o h0 h1 hs,show((irs+1)%4294967296%4294967296)=(irs+1)%4294967296 by omega]
 rfl
theorem Ba (t:Tupl)(iss irs:Int)(o:Opti)(w:Int)(ho:az.f (o,())=true)(h0:0≤w)(h1:w≤65535):qp.f (t,iss,irs,o,w,())=H4 t iss irs o w:=by
 have hs:=(fk o ho).2
 have hw:aa.f (w,16,())=true:=by rw[bx,decide_eq_true h0,decide_eq_true h1];rfl
 have e:=(Vr w o.scale h0 h1 hs).1
 have hl:IntKind.wrap .u64 (fO.f (0,o.scale,()))=if o.scale<0 then 0 else o.scale:=by
  rw[L1,LL _ (by split<;>omega) (by split<;>omega)]
 simp only[PX,qp,iQ,cW,ho,hw,Bool.not_true,cond_false,Np,jF,j8,bZ,Int.add_zero]
 rw[hl,e,show((irs+1)%4294967296%4294967296)=(irs+1)%4294967296 by omega]
 rfl
theorem Ei (t:Tupl)(iss irs:Int)(o:Opti)(w:Int)(ht:aJ.f (t,())=true)(ho:az.f (o,())=true)(h0:0≤w)(h1:w≤65535):CO (H4 t iss irs o w)∧ca (H4 t iss irs o w).r.held:=by
 have hs:=(fk o ho).2
 have hr:=KG w o.scale h0 h1 hs
 have hsm:ca (H4 t iss irs o w).r.held:=λy hy=>by cases hy
 refine⟨⟨ht, ?_, ?_,ho,by show(1:Int)≤1;omega,by show(1:Int)≤8;omega,hr.1,hr.2,hr.1,Int.le_refl _,Int.le_refl _,by show(0:Int)≤4;omega,λ_=>by show(0:Int)≤3;omega,Int.le_refl _,by show(0:Int)≤3;omega,rfl⟩,hsm⟩
 ·refine⟨by show 0≤(iss+1)%4294967296;omega,by show(iss+1)%4294967296≤4294967295;omega,by show(0:Nat)≤48;omega,Int.le_refl _,by show(0:Int)≤((0:Nat):Int);omega,λh=>(by cases h),λh=>(by cases h)⟩
 ·rw[rD _ hsm]
  exact⟨by show 0≤(irs+1)%4294967296;omega,by show(irs+1)%4294967296≤4294967295;omega,by show(0:Nat)≤32;omega,by show(0:Nat)≤3;omega,Int.le_refl _,by show(-1:Int)≤pB _;unfold pB;simp[H4],by show(-1:Int)≠0;omega,⟨0,by simp[H4,fe]⟩,λh=>(by cases h)⟩
theorem z7 (i:Int)(o:Opti)(ho:az.f (o,())=true):az.f (cM.f (i,o,()),())=true:=by
 have hm:0≤gC.f (i,())∧gC.f (i,())≤65535:=by
  simp only[PX,gC,aw]
  by_cases h:0≤i∧i≤7
  ·rw[decide_eq_true h.1,decide_eq_true h.2]
   have:i=0∨i=1∨i=2∨i=3∨i=4∨i=5∨i=6∨i=7:=by omega
   rcases this with rfl|rfl|rfl|rfl|rfl|rfl|rfl|rfl<;>decide+kernel
  ·rw[show(decide (0≤i)&&decide (i≤7))=false by rw[Bool.and_eq_false_iff];simp only[decide_eq_false_iff_not];omega]
   simp
 have hsc: -1≤(mj.f (o.echo,())).1∧(mj.f (o.echo,())).1≤14:=by
  simp only[PX,mj,N2]
  cases(bif !aa.f (o.echo,32,())then(true,())else((bits .and .i64 o.echo 32)==0,())).1 with
  |true=>simp only[cond_true];omega
  |false=>
   by_cases h:o.echo%16=15
   ·rw[show(o.echo%16==15)=true by simp[h]];simp only[cond_true,cond_false];omega
   ·rw[show(o.echo%16==15)=false by simp[h]];simp only[cond_false];omega
 simp only[PX,cM,bO]
 cases hs:o.stamp with
 |false=>
  simp only[cond_false]
  simp only[PX,az,aw,bx,bz,decide_eq_true hm.1,decide_eq_true hm.2]
  rfl
 |true=>
  have hv:0≤o.val∧o.val≤4294967295:=by
   simp only[PX,az,hs,aw,bx,bz,Bool.not_true,cond_false]at ho
   by_cases h:0≤o.val∧o.val≤4294967295
   ·exact h
   ·rw[show(decide (0≤o.val)&&decide (o.val≤4294967295))=false by rw[Bool.and_eq_false_iff];simp only[decide_eq_false_iff_not];omega]at ho
    revert ho
    cases(decide (0≤o.mss)&&decide (o.mss≤65535))<;>cases(decide (-1≤o.scale)&&decide (o.scale≤14))<;>simp
  simp only[cond_true]
  cases(mj.f (o.echo,())).2.2 with
  |false=>
   simp only[cond_false]
   simp only[PX,az,aw,bx,bz,decide_eq_true hm.1,decide_eq_true hm.2]
   rfl
  |true=>
   simp only[cond_true]
   simp only[PX,az,aw,bx,bz,decide_eq_true hm.1,decide_eq_true hm.2,decide_eq_true hsc.1,decide_eq_true hsc.2,decide_eq_true hv.1,decide_eq_true hv.2]
   rfl
def MK (d:Door)(c:Conn)(g:Segm)(made:Int):Door×List Segm×Int:=
 if dE.f ((⟨d.table.conns++[c],d.table.waiting++[c.tuple]⟩:Tabl),d.limits,())=true then
  ({d with halves:=ur d.halves c.tuple,table:=⟨d.table.conns++[(dU c g).1],d.table.waiting++[c.tuple]⟩},(dU c g).2.1,made)
 else(d,[],0)
theorem NT (t:Tabl)(l:Limi)(c:Conn)(g:Segm)(hs:ca c.r.held)(hT:dE.f ((⟨t.conns++[c],t.waiting++[c.tuple]⟩:Tabl),l,())=true):fg.f ((⟨t.conns++[c],t.waiting++[c.tuple]⟩:Tabl),(dU c g).1,())=⟨t.conns++[(dU c g).1],t.waiting++[c.tuple]⟩:=by
 have h:=(WG _ _).1 hT
 have hc:=h.co c (by simp)
 have hr:=HZ c g hc hs
 rw[CB _ _ h.dc t.conns.length (by simp) (by simp[hr.2.1])]
 simp
theorem Ry (d:Door)(c:Conn)(g:Segm)(m:Int)(hd:kX d)(hc:ca c.r.held)(hl:d.halves.length≤4294967296):wJ.f (d,c,g,m,())=MK d c g m:=by
 simp only[PX,wJ,om,X0 d.table c d.limits hd hc,BW,BG c g hc,X3,zm _ _ hl]
 unfold MK
 by_cases hT:dE.f ((⟨d.table.conns++[c],d.table.waiting++[c.tuple]⟩:Tabl),d.limits,())=true
 ·rw[if_pos hT,if_pos hT,NT d.table d.limits c g hc hT];rfl
 ·rw[if_neg hT,if_neg hT];rfl
def UM (d:Door)(t:Tupl)(g:Segm):Door×List Segm×Int:=
 if cc.f (d,())=true∧aJ.f (t,())=true∧ak.f (g,())=true∧¬0≤aK.f (d.table,t,())then
  if 0≤aR.f (d.halves,t,())then
   if g.ack≠((d.halves.getD (aR.f (d.halves,t,())).toNat (Ty.zero .half)).iss+1)%4294967296 then(d,gL.f (g,()),0)
   else if g.seq≠((d.halves.getD (aR.f (d.halves,t,())).toNat (Ty.zero .half)).irs+1)%4294967296 then(d,[],0)
   else MK d (H4 t (d.halves.getD (aR.f (d.halves,t,())).toNat (Ty.zero .half)).iss (d.halves.getD (aR.f (d.halves,t,())).toNat (Ty.zero .half)).irs (d.halves.getD (aR.f (d.halves,t,())).toNat (Ty.zero .half)).opts g.window) g 1
  else if(de.f (d.keys,t,(g.seq+ -1)%4294967296,(g.ack+ -1)%4294967296,())).2.2=true then
   MK d (H4 t ((g.ack+ -1)%4294967296) ((g.seq+ -1)%4294967296) (cM.f ((de.f (d.keys,t,(g.seq+ -1)%4294967296,(g.ack+ -1)%4294967296,())).2.1,g.opts,())) g.window) g 2
  else(d,gL.f (g,()),0)
 else(d,[],0)
theorem D6 (xs:List Half)(t:Tupl)(h:HO xs)(hf:0≤aR.f (xs,t,())):az.f ((xs.getD (aR.f (xs,t,())).toNat (Ty.zero .half)).opts,())=true:=by
 rw[iH]at hf⊢
 obtain⟨i,e,hi,-⟩:=yk xs t (decide_eq_true hf)
 rw[e,ah,getD_some (List.getElem?_eq_getElem hi)]
 have:=h.ok _ (List.getElem_mem hi)
 unfold AN at this
 simp only[Bool.and_eq_true]at this
 exact this.2.2.2.2.1
theorem adL {A B C:Type}(x:A×B×C):(x.1,x.2.1,x.2.2)=x:=rfl
theorem VP (d:Door)(t:Tupl)(g:Segm)(hs:kX d)(hl:d.halves.length≤4294967296):De.f (d,t,g,())=UM d t g:=by
 simp only[PX,De,om,Ma d t g hs,lL,uK,j8,bZ,KJ,Ns,Ej]
 unfold UM
 cases h1:cc.f (d,())with
 |false=>simp
 |true=>
 cases h2:aJ.f (t,())with
 |false=>simp
 |true=>
 cases h3:ak.f (g,())with
 |false=>simp
 |true=>
 have hD:=(uP d).1 h1
 have hg:=(bv g).1 h3
 have hw:=hg.2.2.2.2.2.1
 by_cases h4:0≤aK.f (d.table,t,())
 ·rw[if_neg (λh=>h.2.2.2 h4),decide_eq_true h4];rfl
 rw[if_pos ⟨rfl,rfl,rfl,h4⟩,decide_eq_false h4]
 simp only[Bool.and_self,Bool.not_true,cond_false]
 by_cases h5:0≤aR.f (d.halves,t,())
 ·rw[if_pos h5,decide_eq_true h5]
  have ho:=D6 d.halves t hD.hal h5
  obtain⟨h,hh⟩:∃h,d.halves.getD (aR.f (d.halves,t,())).toNat (Ty.zero .half)=h:=⟨_,rfl⟩
  rw[hh]at ho
  rw[cond_true,hh]
  by_cases h6:g.ack=(h.iss+1)%4294967296
  ·rw[if_neg (λhh=>hh h6),show(g.ack != (h.iss+1)%4294967296)=false by simp[h6]]
   by_cases h7:g.seq=(h.irs+1)%4294967296
   ·rw[if_neg (λhh=>hh h7),show(g.seq != (h.irs+1)%4294967296)=false by simp[h7]]
    rw[Ba t h.iss h.irs h.opts g.window ho hw.1 hw.2,Ry d _ g 1 hs (Ei t h.iss h.irs h.opts g.window h2 ho hw.1 hw.2).2 hl]
    generalize MK d (H4 t h.iss h.irs h.opts g.window) g 1=z
    exact adL z
   ·rw[if_pos h7,show(g.seq != (h.irs+1)%4294967296)=true by simp[h7]];rfl
  ·rw[if_pos h6,show(g.ack != (h.iss+1)%4294967296)=true by simp[h6]];rfl
 ·rw[if_neg h5,decide_eq_false h5]
  have ho:=z7 (de.f (d.keys,t,(g.seq+ -1)%4294967296,(g.ack+ -1)%4294967296,())).2.1 g.opts hg.2.2.2.2.2.2.1
  generalize de.f (d.keys,t,(g.seq+ -1)%4294967296,(g.ack+ -1)%4294967296,())=k at ho⊢
  rw[cond_false]
  cases h6:k.2.2 with
  |false=>simp
  |true=>
   simp only[Bool.not_true,cond_false,if_true]
   have e1:=Ba t ((g.ack+ -1)%4294967296) ((g.seq+ -1)%4294967296) (cM.f (k.2.1,g.opts,())) g.window ho hw.1 hw.2
   have e2:=Ry d (H4 t ((g.ack+ -1)%4294967296) ((g.seq+ -1)%4294967296) (cM.f (k.2.1,g.opts,())) g.window) g 2 hs (Ei t _ _ _ g.window h2 ho hw.1 hw.2).2 hl
   simp only[e1,e2]
theorem WY (d:Door)(t:Tupl)(g:Segm)(hl:d.halves.length≤4294967296):HF.f (d,t,g,())=UM d t g:=by
 simp only[PX,HF,sr,bZ]
 unfold UM
 have e:(bif !cc.f (d,())then(true,())else bif !aJ.f (t,())then(true,())else bif !ak.f (g,())then(true,())else(decide (0≤aK.f (d.table,t,())),())).1= !decide (cc.f (d,())=true∧aJ.f (t,())=true∧ak.f (g,())=true∧¬0≤aK.f (d.table,t,())):=by
  by_cases h4:0≤aK.f (d.table,t,())
  ·rw[decide_eq_true h4];cases cc.f (d,())<;>cases aJ.f (t,())<;>cases ak.f (g,())<;>simp[h4]
  ·rw[decide_eq_false h4];cases cc.f (d,())<;>cases aJ.f (t,())<;>cases ak.f (g,())<;>simp[h4]
 rw[e]
 by_cases hq:cc.f (d,())=true∧aJ.f (t,())=true∧ak.f (g,())=true∧¬0≤aK.f (d.table,t,())
 case neg=>rw[decide_eq_false hq,if_neg hq];rfl
 rw[decide_eq_true hq,if_pos hq]
 obtain⟨h1,h2,h3,h4⟩:=hq
 have hD:=(uP d).1 h1
 have hg:=(bv g).1 h3
 have hw:=hg.2.2.2.2.2.1
 have L:∀(c:Conn) (m:Int),ca c.r.held→(c.tuple=t)→(bif !(mc.f (d.table,c,d.limits,())).2 then(d,([]:List Segm),(0:Int))else(({d with halves:=ol.f (d.halves,t,()),table:=fg.f ((mc.f (d.table,c,d.limits,())).1,(nW.f (c,g,())).1,())}:Door),(nW.f (c,g,())).2.1,m))=MK d c g m:=by
  intro c m hc ht
  rw[BW,BL c g hc,zj _ _ hl]
  unfold MK
  by_cases hT:dE.f ((⟨d.table.conns++[c],d.table.waiting++[c.tuple]⟩:Tabl),d.limits,())=true
  ·rw[if_pos hT,if_pos hT]
   simp only[Bool.not_true,cond_false]
   rw[NT d.table d.limits c g hc hT,ht]
  ·rw[if_neg hT,if_neg hT];rfl
 simp only[Bool.not_true,cond_false]
 by_cases h5:0≤aR.f (d.halves,t,())
 ·rw[if_pos h5]
  simp only[decide_eq_true h5,cond_true]
  have ho:=D6 d.halves t hD.hal h5
  generalize d.halves.getD (aR.f (d.halves,t,())).toNat (Ty.zero .half)=h at ho⊢
  by_cases h6:g.ack=(h.iss+1)%4294967296
  ·rw[if_neg (λhh=>hh h6)]
   simp only[show(g.ack != (h.iss+1)%4294967296)=false by simp[h6],cond_false]
   by_cases h7:g.seq=(h.irs+1)%4294967296
   ·rw[if_neg (λhh=>hh h7)]
    simp only[show(g.seq != (h.irs+1)%4294967296)=false by simp[h7],cond_false]
    rw[←L _ 1 (Ei t h.iss h.irs h.opts g.window h2 ho hw.1 hw.2).2 rfl,←Cm t h.iss h.irs h.opts g.window ho hw.1 hw.2]
    rfl
   ·rw[if_pos h7]
    simp only[show(g.seq != (h.irs+1)%4294967296)=true by simp[h7],cond_true]
    rfl
  ·rw[if_pos h6]
   simp only[show(g.ack != (h.iss+1)%4294967296)=true by simp[h6],cond_true]
   rfl
 ·rw[if_neg h5]
  simp only[decide_eq_false h5,cond_false]
  have ho:=z7 (de.f (d.keys,t,(g.seq+ -1)%4294967296,(g.ack+ -1)%4294967296,())).2.1 g.opts hg.2.2.2.2.2.2.1
  generalize de.f (d.keys,t,(g.seq+ -1)%4294967296,(g.ack+ -1)%4294967296,())=k at ho⊢
  cases h6:k.2.2 with
  |false=>
   simp only[Bool.not_false,cond_true,Bool.false_eq_true,if_false]
   rfl
  |true=>
   simp only[Bool.not_true,cond_false,if_true]
   rw[←L _ 2 (Ei t _ _ _ g.window h2 ho hw.1 hw.2).2 rfl,←Cm t _ _ _ g.window ho hw.1 hw.2]
   rfl
def wA (src:Int)(g:Segm):Tupl:=⟨src,g.from_,g.to⟩
def KM (d:Door)(k:Nat)(g:Segm):Door×List Segm×Int:=
 if(dU (d.table.conns.getD k (Ty.zero .conn)) g).2.2=3 then
  if d.chal=d.limits.chal then({d with table.conns:=d.table.conns.set k (dU (d.table.conns.getD k (Ty.zero .conn)) g).1},[],0)
  else({d with table.conns:=d.table.conns.set k (dU (d.table.conns.getD k (Ty.zero .conn)) g).1,chal:=d.chal+1},(dU (d.table.conns.getD k (Ty.zero .conn)) g).2.1,0)
 else({d with table.conns:=d.table.conns.set k (dU (d.table.conns.getD k (Ty.zero .conn)) g).1},(dU (d.table.conns.getD k (Ty.zero .conn)) g).2.1,0)
def Zr (d:Door)(t:Tupl)(g:Segm):Door:=
 if 0≤aR.f (d.halves,t,())∧g.seq=((d.halves.getD (aR.f (d.halves,t,())).toNat (Ty.zero .half)).irs+1)%4294967296 then{d with halves:=ur d.halves t}else d
def MA (d:Door)(src:Int)(g:Segm):Door×List Segm×Int:=
 if cc.f (d,())=true∧aa.f (src,32,())=true∧ak.f (g,())=true then
  if g.to≠d.port then(d,gL.f (g,()),0)
  else if 0≤aK.f (d.table,wA src g,())then KM d (aK.f (d.table,wA src g,())).toNat g
  else bif bB.f (g,4,())then(Zr d (wA src g) g,[],0)
  else bif bB.f (g,2,())&&(!bB.f (g,16,())&& !bB.f (g,1,()))then((lF.f (d,wA src g,g,())).1,(lF.f (d,wA src g,g,())).2,0)
  else bif bB.f (g,16,())&& !bB.f (g,2,())then UM d (wA src g) g
  else bif bB.f (g,16,())then(d,gL.f (g,()),0)else(d,[],0)
 else(d,[],0)
theorem Js (d:Door)(t:Tupl)(h:0≤aK.f (d.table,t,())):∃k:Nat,aK.f (d.table,t,())=(k:Int)∧∃hk:k<d.table.conns.length,d.table.conns[k].tuple=t:=by
 rw[gf]at h⊢
 exact abj _ _ (decide_eq_true h)
theorem abE (d:Door)(k:Nat)(g:Segm)(hs:kX d)(hD:DO d)(hk:k<d.table.conns.length):yl.f (d,(k:Int),g,())=KM d k g:=by
 have hsk:ca (d.table.conns.getD k (Ty.zero .conn)).r.held:=by
  rw[getD_some (List.getElem?_eq_getElem hk)];exact hs _ (List.getElem_mem hk)
 have k0:=hD.k0
 have k1:=hD.k1
 have k2:=hD.tab.lim.k1
 simp only[PX,yl,om,ah,BG _ g hsk]
 unfold KM
 rw[ar (by omega) (by omega)]
 by_cases h3:(dU (d.table.conns.getD k (Ty.zero .conn)) g).2.2=3
 ·rw[if_pos h3,show((dU (d.table.conns.getD k (Ty.zero .conn)) g).2.2==3)=true by rw[h3];rfl,cond_true]
  by_cases h4:d.chal=d.limits.chal
  ·rw[if_pos h4,show(d.chal==d.limits.chal)=true by simp[h4]];rfl
  ·rw[if_neg h4,show(d.chal==d.limits.chal)=false by simp[h4]];rfl
 ·rw[if_neg h3,show((dU (d.table.conns.getD k (Ty.zero .conn)) g).2.2==3)=false from beq_eq_false_iff_ne.2 h3];rfl
theorem XH (s:Int)(g:Segm):nX.f (s,g,())=wA s g:=by simp only[PX,nX,wA]
theorem Rq (s:Int)(g:Segm):yx.f (s,g,())=wA s g:=by simp only[PX,yx,wA]
theorem ok3 (a b c:Bool):(bif !a then(true,())else bif !b then(true,())else(!c,())).1= !decide (a=true∧b=true∧c=true):=by cases a<;>cases b<;>cases c<;>rfl
theorem hs3 (a b c:Bool):(bif a then bif !b then(!c,())else(false,())else(false,())).1=(a&&(!b&& !c)):=by cases a<;>cases b<;>cases c<;>rfl
theorem pE (a b:Bool):(bif a then(!b,())else(false,())).1=(a&& !b):=by cases a<;>cases b<;>rfl
theorem SN (p:Prop)[Decidable p](a b:Int):(bif decide p then(a==b,())else(false,())).1=decide (p∧a=b):=by
 by_cases h:p<;>by_cases h2:a=b<;>simp[h,h2]
theorem V6 (d:Door)(src:Int)(g:Segm)(hs:kX d)(hl:d.halves.length≤4294967296):H0.f (d,src,g,())=MA d src g:=by
 simp only[PX,H0,om,JQ d hs,cW,pf,XH,lL,uK,j8,bZ,KJ,Og,abc d _ g hs,VP d _ g hs hl,zm _ _ hl,ok3,hs3,pE]
 unfold MA
 by_cases hq:cc.f (d,())=true∧aa.f (src,32,())=true∧ak.f (g,())=true
 case neg=>rw[decide_eq_false hq,if_neg hq];rfl
 rw[decide_eq_true hq,if_pos hq,Bool.not_true,cond_false]
 have hD:=(uP d).1 hq.1
 by_cases hp:g.to=d.port
 case neg=>rw[if_pos hp,show(g.to != d.port)=true by simp[hp]];rfl
 rw[if_neg (λh=>h hp),show(g.to != d.port)=false by simp[hp],cond_false]
 by_cases hc:0≤aK.f (d.table,wA src g,())
 ·rw[if_pos hc,decide_eq_true hc,cond_true]
  obtain⟨k,e,hk,-⟩:=Js d _ hc
  rw[e,ah,abE d k g hs hD hk]
 rw[if_neg hc,decide_eq_false hc,cond_false]
 cases bB.f (g,4,())with
 |true=>
  rw[cond_true,cond_true,SN]
  unfold Zr
  by_cases hr:0≤aR.f (d.halves,wA src g,())∧g.seq=((d.halves.getD (aR.f (d.halves,wA src g,())).toNat (Ty.zero .half)).irs+1)%4294967296
  ·rw[decide_eq_true hr,if_pos hr];rfl
  ·rw[decide_eq_false hr,if_neg hr];rfl
 |false=>
  rw[cond_false,cond_false]
theorem W5 (d:Door)(src:Int)(g:Segm)(hs:kX d)(hl:d.halves.length≤4294967296):HS.f (d,src,g,())=MA d src g:=by
 simp only[PX,HS,sr,Rq,bZ,WY d _ g hl,zj _ _ hl,ok3,hs3,pE]
 unfold MA
 by_cases hq:cc.f (d,())=true∧aa.f (src,32,())=true∧ak.f (g,())=true
 case neg=>rw[decide_eq_false hq,if_neg hq];rfl
 rw[decide_eq_true hq,if_pos hq,Bool.not_true,cond_false]
 have hD:=(uP d).1 hq.1
 by_cases hp:g.to=d.port
 case neg=>rw[if_pos hp,show(g.to != d.port)=true by simp[hp]];rfl
 rw[if_neg (λh=>h hp),show(g.to != d.port)=false by simp[hp],cond_false]
 by_cases hc:0≤aK.f (d.table,wA src g,())
 ·rw[if_pos hc,decide_eq_true hc,cond_true]
  obtain⟨k,e,hk,ht⟩:=Js d _ hc
  rw[e,ah]
  have hsk:ca (d.table.conns.getD k (Ty.zero .conn)).r.held:=by
   rw[getD_some (List.getElem?_eq_getElem hk)];exact hs _ (List.getElem_mem hk)
  have hck:CO (d.table.conns.getD k (Ty.zero .conn)):=by
   rw[getD_some (List.getElem?_eq_getElem hk)];exact hD.tab.co _ (List.getElem_mem hk)
  have hrk:=HZ _ g hck hsk
  have hset:fg.f (d.table,(dU (d.table.conns.getD k (Ty.zero .conn)) g).1,())=⟨d.table.conns.set k (dU (d.table.conns.getD k (Ty.zero .conn)) g).1,d.table.waiting⟩:=CB d.table _ hD.tab.dc k hk (by rw[hrk.2.1,getD_some (List.getElem?_eq_getElem hk)])
  have k0:=hD.k0
  have k1:=hD.k1
  have k2:=hD.tab.lim.k1
  rw[BL _ g hsk]
  unfold KM
  by_cases h3:(dU (d.table.conns.getD k (Ty.zero .conn)) g).2.2=3
  ·rw[if_pos h3,show((dU (d.table.conns.getD k (Ty.zero .conn)) g).2.2==3)=true by rw[h3];rfl,cond_true]
   by_cases h4:d.chal=d.limits.chal
   ·rw[if_pos h4,show(d.chal==d.limits.chal)=true by simp[h4]]
    show(({d with table:=fg.f (d.table,(dU (d.table.conns.getD k (Ty.zero .conn)) g).1,())}:Door),([]:List Segm),(0:Int))=_
    rw[hset]
   ·rw[if_neg h4,show(d.chal==d.limits.chal)=false by simp[h4]]
    show(({d with table:=fg.f (d.table,(dU (d.table.conns.getD k (Ty.zero .conn)) g).1,()),chal:=IntKind.wrap .i64 (d.chal+1)}:Door),(dU (d.table.conns.getD k (Ty.zero .conn)) g).2.1,(0:Int))=_
    rw[hset,ar (by omega) (by omega)]
  ·rw[if_neg h3,show((dU (d.table.conns.getD k (Ty.zero .conn)) g).2.2==3)=false from beq_eq_false_iff_ne.2 h3]
   show(({d with table:=fg.f (d.table,(dU (d.table.conns.getD k (Ty.zero .conn)) g).1,())}:Door),(dU (d.table.conns.getD k (Ty.zero .conn)) g).2.1,(0:Int))=_
   rw[hset]
 rw[if_neg hc,decide_eq_false hc,cond_false]
 cases bB.f (g,4,())with
 |true=>
  rw[cond_true,cond_true,SN]
  unfold Zr
  by_cases hr:0≤aR.f (d.halves,wA src g,())∧g.seq=((d.halves.getD (aR.f (d.halves,wA src g,())).toNat (Ty.zero .half)).irs+1)%4294967296
  ·rw[decide_eq_true hr,if_pos hr];rfl
  ·rw[decide_eq_false hr,if_neg hr];rfl
 |false=>
  rw[cond_false,cond_false]
theorem SZ (t:Tabl)(x:Tupl):¬0≤aK.f (t,x,())↔x∉t.conns.map Conn.tuple:=by
 rw[gf,←Da,←ly]
 simp
theorem aaL (d:Door)(c:Conn)(g:Segm)(m:Int)(hD:DO d)(hs:ca c.r.held)(hn:c.tuple∉d.table.conns.map Conn.tuple):DO (MK d c g m).1∧∀y∈(MK d c g m).2.1,ak.f (y,())=true:=by
 unfold MK
 by_cases hT:dE.f ((⟨d.table.conns++[c],d.table.waiting++[c.tuple]⟩:Tabl),d.limits,())=true
 case neg=>rw[if_neg hT];exact⟨hD,λy hy=>by cases hy⟩
 rw[if_pos hT]
 have h:=(WG _ _).1 hT
 have hc:=h.co c (by simp)
 have hr:=HZ c g hc hs
 have hset:=TO.set h d.table.conns.length (dU c g).1 hr.1 (by simp) (by simp[hr.2.1])
 have e:(d.table.conns++[c]).set d.table.conns.length (dU c g).1=d.table.conns++[(dU c g).1]:=by simp
 rw[e]at hset
 have hsub:=Ox d.halves c.tuple
 refine⟨⟨hD.port,hD.c0,hD.c1,hD.keys,hset,HO.sub hD.hal hsub, ?_,hD.k0,hD.k1, ?_⟩,hr.2.2.1⟩
 ·show((ur d.halves c.tuple).length:Int)≤d.limits.halves
  have:=hsub.length_le
  have:=hD.nh
  omega
 ·intro y hy hm
  have hy2:y∈ur d.halves c.tuple:=hy
  have hm2:y.tuple∈(d.table.conns++[(dU c g).1]).map Conn.tuple:=hm
  rw[List.map_append,List.mem_append]at hm2
  rcases hm2 with h1|h1
  ·exact hD.ap y (hsub.subset hy2) h1
  ·simp only[List.map_cons,List.map_nil,List.mem_singleton,hr.2.1]at h1
   have hy3:=List.mem_map_of_mem (f:=Half.tuple) hy2
   rw[h1]at hy3
   exact Wr d.halves c.tuple hD.hal.nd hy3
theorem acC (d:Door)(t:Tupl)(g:Segm)(hD:DO d):DO (UM d t g).1∧∀y∈(UM d t g).2.1,ak.f (y,())=true:=by
 have nil:∀y∈([]:List Segm),ak.f (y,())=true:=λy hy=>by cases hy
 unfold UM
 split
 ·rename_i hq
  obtain⟨h1,h2,h3,h4⟩:=hq
  have hg:=(bv g).1 h3
  have hw:=hg.2.2.2.2.2.1
  have hn:=(SZ d.table t).1 h4
  split
  ·rename_i h5
   have ho:=D6 d.halves t hD.hal h5
   split
   ·exact⟨hD,yK g h3⟩
   ·split
    ·exact⟨hD,nil⟩
    ·exact aaL d _ g 1 hD (Ei t _ _ _ g.window h2 ho hw.1 hw.2).2 hn
  ·split
   ·have ho:=z7 (de.f (d.keys,t,(g.seq+ -1)%4294967296,(g.ack+ -1)%4294967296,())).2.1 g.opts hg.2.2.2.2.2.2.1
    exact aaL d _ g 2 hD (Ei t _ _ _ g.window h2 ho hw.1 hw.2).2 hn
   ·exact⟨hD,yK g h3⟩
 ·exact⟨hD,nil⟩
theorem Vx (xs:List Half)(h:Half)(n:Int):oy.f (xs,h,n,())=if(xs.length:Int)<n∧fE.f (xs++[h],())=true then(xs++[h],true)else(xs,false):=by
 simp only[PX,oy,eE,List.nil_append]
 by_cases h1:n≤(xs.length:Int)
 ·rw[decide_eq_true h1,if_neg (by omega)];rfl
 ·rw[decide_eq_false h1]
  cases h2:fE.f (xs++[h],())with
  |true=>rw[if_pos ⟨by omega,rfl⟩];rfl
  |false=>rw[if_neg (by simp)];rfl
theorem Yg (d:Door)(t:Tupl)(g:Segm)(hk:iD.f (d.keys,())=true)(ht:aJ.f (t,())=true)(hg:ak.f (g,())=true)(sq:Int)(h0:0≤sq∧sq≤4294967295):ak.f (({eI.f (d,t,g,())with seq:=sq}:Segm),())=true:=by
 have hp:=(bv g).1 hg
 have h1:=NU t ht
 have ho:=DG g.opts d.clock (by rw[iQ];exact hp.2.2.2.2.2.2.1)
 rw[iQ]at ho
 rw[bv]
 simp only[PX,eI,bZ]
 exact⟨h1.2.2,h1.2.1,h0,by omega,by omega,by omega,ho,by simp⟩
theorem Z8 (d:Door)(t:Tupl)(g:Segm)(hD:DO d)(ht:aJ.f (t,())=true)(hg:ak.f (g,())=true):DO (lF.f (d,t,g,())).1∧(∀y∈(lF.f (d,t,g,())).2,ak.f (y,())=true)∧(lF.f (d,t,g,())).1.table=d.table∧(lF.f (d,t,g,())).1={d with halves:=(lF.f (d,t,g,())).1.halves}:=by
 have nil:∀y∈([]:List Segm),ak.f (y,())=true:=λy hy=>by cases hy
 have hp:=(bv g).1 hg
 have hsq:=Ve d t g
 have ha:=Yg d t g hD.keys ht hg
 have hown:∀y∈[eI.f (d,t,g,())],ak.f (y,())=true:=λy hy=>by
  rw[List.mem_singleton.1 hy]
  exact ha (eI.f (d,t,g,())).seq ⟨hsq.1,hsq.2 ht hD.keys hp.2.2.1⟩
 rw[N0,(uP d).2 hD,ht,hg]
 simp only[Bool.and_self,cond_true]
 by_cases h5:0≤aR.f (d.halves,t,())
 ·rw[decide_eq_true h5,cond_true]
  have hiss:0≤(d.halves.getD (aR.f (d.halves,t,())).toNat (Ty.zero .half)).iss∧(d.halves.getD (aR.f (d.halves,t,())).toNat (Ty.zero .half)).iss≤4294967295:=by
   rw[iH]at h5⊢
   obtain⟨i,e,hi,-⟩:=yk d.halves t (decide_eq_true h5)
   rw[e,ah,getD_some (List.getElem?_eq_getElem hi)]
   have:=hD.hal.ok _ (List.getElem_mem hi)
   unfold AN at this
   simp only[Bool.and_eq_true,bz,decide_eq_true_eq]at this
   exact this.2.1
  generalize d.halves.getD (aR.f (d.halves,t,())).toNat (Ty.zero .half)=h at hiss⊢
  cases(h.irs != g.seq)with
  |true=>exact⟨hD,nil,rfl,rfl⟩
  |false=>exact⟨hD,λy hy=>by
    simp only[cond_false,List.mem_singleton]at hy
    rw[hy];exact ha h.iss hiss,rfl,rfl⟩
 ·rw[decide_eq_false h5,cond_false]
  by_cases h4:0≤aK.f (d.table,t,())
  ·rw[decide_eq_false (show¬aK.f (d.table,t,())<0 by omega),cond_false]
   exact⟨hD,hown,rfl,rfl⟩
  ·rw[decide_eq_true (show aK.f (d.table,t,())<0 by omega),cond_true,Vx]
   refine⟨?_,hown,rfl,rfl⟩
   by_cases h6:(d.halves.length:Int)<d.limits.halves∧fE.f (d.halves++[(⟨t,(eI.f (d,t,g,())).seq,g.seq,jG.f (g.opts,()),0,g.window⟩:Half)],())=true
   ·rw[if_pos h6]
    refine⟨hD.port,hD.c0,hD.c1,hD.keys,hD.tab,(ZX _).1 h6.2, ?_,hD.k0,hD.k1, ?_⟩
    ·show(((d.halves++[_]).length:Nat):Int)≤d.limits.halves
     rw[List.length_append,List.length_singleton];omega
    ·intro y hy
     rcases List.mem_append.1 hy with h7|h7
     ·exact hD.ap y h7
     ·rw[List.mem_singleton.1 h7]
      exact(SZ d.table t).1 h4
   ·rw[if_neg h6];exact hD
theorem abe (d:Door)(k:Nat)(g:Segm)(hs:kX d)(hD:DO d)(hk:k<d.table.conns.length):DO (KM d k g).1∧∀y∈(KM d k g).2.1,ak.f (y,())=true:=by
 have nil:∀y∈([]:List Segm),ak.f (y,())=true:=λy hy=>by cases hy
 have hsk:ca (d.table.conns.getD k (Ty.zero .conn)).r.held:=by
  rw[getD_some (List.getElem?_eq_getElem hk)];exact hs _ (List.getElem_mem hk)
 have hck:CO (d.table.conns.getD k (Ty.zero .conn)):=by
  rw[getD_some (List.getElem?_eq_getElem hk)];exact hD.tab.co _ (List.getElem_mem hk)
 have hr:=HZ _ g hck hsk
 have ht:(dU (d.table.conns.getD k (Ty.zero .conn)) g).1.tuple=d.table.conns[k].tuple:=by
  rw[hr.2.1,getD_some (List.getElem?_eq_getElem hk)]
 have k0:=hD.k0
 have k1:=hD.k1
 have hset:=TO.set hD.tab k _ hr.1 hk ht
 have hmap:=aaX d.table.conns k _ hk ht
 have base:∀ch:Int,0≤ch→ch≤d.limits.chal→DO ({d with table.conns:=d.table.conns.set k (dU (d.table.conns.getD k (Ty.zero .conn)) g).1,chal:=ch}:Door):=λch h0 h1=>by
  refine⟨hD.port,hD.c0,hD.c1,hD.keys,hset,hD.hal,hD.nh,h0,h1,λy hy hm=>hD.ap y hy ?_⟩
  have hm2:y.tuple∈(d.table.conns.set k (dU (d.table.conns.getD k (Ty.zero .conn)) g).1).map Conn.tuple:=hm
  rw[hmap]at hm2;exact hm2
 unfold KM
 split
 ·split
  ·exact⟨base d.chal k0 k1,nil⟩
  ·exact⟨base (d.chal+1) (by omega) (by omega),hr.2.2.1⟩
 ·exact⟨base d.chal k0 k1,hr.2.2.1⟩
theorem abq (src:Int)(g:Segm)(h1:aa.f (src,32,())=true)(hg:ak.f (g,())=true):aJ.f (wA src g,())=true:=by
 have hp:=(bv g).1 hg
 simp only[PX,aJ,wA,h1,bx,decide_eq_true hp.1.1,decide_eq_true hp.1.2,decide_eq_true hp.2.1.1,decide_eq_true hp.2.1.2]
 rfl
theorem acB (d:Door)(t:Tupl)(g:Segm)(hD:DO d):DO (Zr d t g):=by
 unfold Zr
 split
 ·have hsub:=Ox d.halves t
  refine⟨hD.port,hD.c0,hD.c1,hD.keys,hD.tab,HO.sub hD.hal hsub, ?_,hD.k0,hD.k1,λy hy=>hD.ap y (hsub.subset hy)⟩
  show((ur d.halves t).length:Int)≤d.limits.halves
  have:=hsub.length_le
  have:=hD.nh
  omega
 ·exact hD
theorem Wm (d:Door)(src:Int)(g:Segm)(hs:kX d)(hD:DO d):DO (MA d src g).1∧∀y∈(MA d src g).2.1,ak.f (y,())=true:=by
 have nil:∀y∈([]:List Segm),ak.f (y,())=true:=λy hy=>by cases hy
 unfold MA
 split
 ·rename_i hq
  obtain⟨h1,h2,h3⟩:=hq
  have ht:=abq src g h2 h3
  split
  ·exact⟨hD,yK g h3⟩
  ·split
   ·rename_i hc
    obtain⟨k,e,hk,-⟩:=Js d _ hc
    rw[e,ah]
    exact abe d k g hs hD hk
   ·cases bB.f (g,4,())with
    |true=>exact⟨acB d _ g hD,nil⟩
    |false=>
     rw[cond_false]
     cases(bB.f (g,2,())&&(!bB.f (g,16,())&& !bB.f (g,1,())))with
     |true=>exact⟨(Z8 d _ g hD ht h3).1,(Z8 d _ g hD ht h3).2.1⟩
     |false=>
      rw[cond_false]
      cases(bB.f (g,16,())&& !bB.f (g,2,()))with
      |true=>exact acC d _ g hD
      |false=>
       rw[cond_false]
       cases bB.f (g,16,())with
       |true=>exact⟨hD,yK g h3⟩
       |false=>exact⟨hD,nil⟩
 ·exact⟨hD,nil⟩
theorem Xh (x:List Int)(hb:CH.f (x,())=false):x.length≤1048576:=by
 simp only[PX,CH,decide_eq_false_iff_not]at hb
 omega
theorem X2 {W:Type}{f:Int→Unit→Stp Unit W}(n:Nat)(h:∀j:Nat,j<n→f (j:Int) ()= .next ()):a9 f 1 n 0 ()= .next ():=by
 have:=(tF (f:=f) n 0).2 (λj _ h2=>h j (by omega))
 exact this
theorem kg (n sz:Int)(h1:1≤sz)(h6:sz≤6)(h:aa.f (n,8*sz,())=true):((ay.f (n,sz,())).length:Int)=sz:=by
 have hw:IntKind.wrap .i64 (8*sz)=8*sz:=ar (by omega) (by omega)
 simp only[PX,ay,aw,dd,hw,h,decide_eq_true h1,decide_eq_true h6,Bool.and_self,Bool.not_true,cond_false]
 generalize Int.toNat (IntKind.wrap .i64 (sz-1)-0+1)=k
 generalize IntKind.wrap .i64 (sz-1)=i
 cases hf:a9 (λj a=>(dV j a).nice) (-1) k i (n,List.replicate sz.toNat 0)with
 |out e=>exact Empty.elim e
 |next a=>
  have:=A6 (P:=λa:Int×List Int=>a.2.length=sz.toNat) (λi a a' ha h=>by
   simp only[PX,dV]at h
   cases h
   simpa using ha) _ _ _ _ (by simp) hf
  simp only[PX,Stp.elim,br]
  omega
theorem EF (n sz:Int)(h1:1≤sz)(h6:sz≤6)(h:aa.f (n,8*sz,())=false):ay.f (n,sz,())=[]:=by
 have hw:IntKind.wrap .i64 (8*sz)=8*sz:=ar (by omega) (by omega)
 simp only[PX,ay,aw,hw,h,decide_eq_true h1,decide_eq_true h6,Bool.and_self,Bool.not_true,Bool.not_false,cond_false,cond_true]
theorem wL (n sz:Int)(h1:1≤sz)(h6:sz≤6):(ay.f (n,sz,())==[])= !aa.f (n,8*sz,()):=by
 rcases Bool.eq_false_or_eq_true (aa.f (n,8*sz,()))with h|h
 ·have:=kg n sz h1 h6 h
  rw[h]
  cases hp:ay.f (n,sz,())with
  |nil=>rw[hp]at this;simp at this;omega
  |cons a r=>rfl
 ·rw[EF n sz h1 h6 h,h];rfl
def ws:Bool→ac→Int
 |_,[]=>0
 |false,b::t=>256*(b.toNat:Int)+ws true t
 |true,b::t=>(b.toNat:Int)+ws false t
theorem DW:∀(p:Bool) (t:ac),0≤ws p t∧ws p t≤65536*(t.length:Int)
 |_,[]=>by simp[ws]
 |false,b::t=>by
  have h:=DW true t
  have hb:=nv b
  simp only[ws,List.length_cons];omega
 |true,b::t=>by
  have h:=DW false t
  have hb:=nv b
  simp only[ws,List.length_cons];omega
theorem acd (v:ac)(hv:v.length≤4294967296):∀(n j:Nat) (a:Int),j+n=v.length→0≤a→a≤65536*(j:Int)→a9 (λj a=>(iz v j a).nice) 1 n (j:Int) a= .next (a+ws (j%2==1) (v.drop j))
 |0,j,a,h,_,_=>by rw[List.drop_of_length_le (by omega)];simp[a9,ws]
 |n+1,j,a,h,h0,h1=>by
  have hj:j<v.length:=by omega
  have hb:=nv v[j]
  rw[List.drop_eq_getElem_cons hj]
  have ht:(((j:Int).tmod 2)==0)= !(j%2==1):=by
   rw[Int.tmod_eq_emod_of_nonneg (by omega),Bool.eq_iff_iff]
   simp;omega
  have hnx:((j+1)%2==1)= !(j%2==1):=by
   rw[Bool.eq_iff_iff];simp;omega
  cases hp:(j%2==1)with
  |true=>
   have ih:=acd v hv n (j+1) (a+(v[j].toNat:Int)) (by omega) (by omega) (by omega)
   simp only[PX,iz]at ih
   simp only[a9,PX,iz,ht,hp,ah,iM _ _ hj,Bool.not_true,cond_false,Stp.elim,ws]
   rw[ar (m:=(v[j].toNat:Int)) (by omega) (by omega),ar (by omega) (by omega),show(j:Int)+1=((j+1:Nat):Int) by omega,ih,hnx,hp]
   simp only[Bool.not_true]
   congr 1;omega
  |false=>
   have ih:=acd v hv n (j+1) (a+256*(v[j].toNat:Int)) (by omega) (by omega) (by omega)
   simp only[PX,iz]at ih
   simp only[a9,PX,iz,ht,hp,ah,iM _ _ hj,Bool.not_false,cond_true,Stp.elim,ws]
   rw[ar (m:=(v[j].toNat:Int)) (by omega) (by omega),ar (m:=(v[j].toNat:Int)*256) (by omega) (by omega),ar (by omega) (by omega),show(j:Int)+1=((j+1:Nat):Int) by omega,show a+(v[j].toNat:Int)*256=a+256*(v[j].toNat:Int) by omega,ih,hnx,hp]
   simp only[Bool.not_false]
   congr 1;omega
theorem pX (v:ac)(hv:v.length≤4294967296):qD.f (v,())=ws false v:=by
 simp only[PX,qD,gc]
 have:=acd v hv v.length 0 0 (by omega) (by omega) (by omega)
 rw[bp,show(0:Int)=((0:Nat):Int) from rfl]
 rw[show(0:Int)=((0:Nat):Int) from rfl]at this
 rw[this]
 simp[Stp.elim]
theorem acv (v:ac)(hv:v.length≤4294967296):∀(k j:Nat) (a:Int),k=(v.length-j+1)/2→0≤a→a≤65536*(j:Int)→a9 (λj a=>(iy v j a).nice) 2 k (j:Int) a= .next (a+ws false (v.drop j))
 |0,j,a,h,_,_=>by rw[List.drop_of_length_le (by omega)];simp[a9,ws]
 |k+1,j,a,h,h0,h1=>by
  have hj:j<v.length:=by omega
  have hb:=nv v[j]
  rw[List.drop_eq_getElem_cons hj]
  by_cases h2:j+1<v.length
  ·have hb2:=nv v[j+1]
   have ih:=acv v hv k (j+2) (a+256*(v[j].toNat:Int)+(v[j+1].toNat:Int)) (by omega) (by omega) (by omega)
   rw[List.drop_eq_getElem_cons h2]
   simp only[PX,iy]at ih
   simp only[a9,PX,iy,ah,iM _ _ hj,Stp.elim,ws]
   rw[ar (m:=(j:Int)+1) (by omega) (by omega),decide_eq_true (show(j:Int)+1<(v.length:Int) by omega),cond_true,show((j:Int)+1).toNat=j+1 by omega,iM _ _ h2,ar (m:=(v[j].toNat:Int)) (by omega) (by omega),ar (m:=256*(v[j].toNat:Int)) (by omega) (by omega),ar (m:=a+256*(v[j].toNat:Int)) (by omega) (by omega),ar (m:=(v[j+1].toNat:Int)) (by omega) (by omega),ar (by omega) (by omega)]
   simp only[Stp.elim]
   rw[show(j:Int)+2=((j+2:Nat):Int) by omega,ih]
   congr 1
   have e:ws false (List.drop (j+1+1) v)=ws false (List.drop (j+2) v):=rfl
   omega
  ·have ih:=acv v hv k (j+2) (a+256*(v[j].toNat:Int)) (by omega) (by omega) (by omega)
   rw[List.drop_of_length_le (show v.length≤j+1 by omega)]
   rw[List.drop_of_length_le (show v.length≤j+2 by omega)]at ih
   simp only[PX,iy]at ih
   simp only[a9,PX,iy,ah,iM _ _ hj,Stp.elim,ws]
   rw[ar (m:=(j:Int)+1) (by omega) (by omega),decide_eq_false (show¬(j:Int)+1<(v.length:Int) by omega),cond_false,ar (m:=(v[j].toNat:Int)) (by omega) (by omega),ar (m:=256*(v[j].toNat:Int)) (by omega) (by omega),ar (m:=a+256*(v[j].toNat:Int)) (by omega) (by omega)]
   simp only[Stp.elim]
   rw[show(j:Int)+2=((j+2:Nat):Int) by omega,ih]
   congr 1
   simp only[ws];omega
theorem PJ (v:ac)(hv:v.length≤4294967296):yt.f (v,())=ws false v:=by
 simp only[PX,yt,cH]
 have:=acv v hv ((v.length+1)/2) 0 0 (by omega) (by omega) (by omega)
 rw[show Int.toNat (((v.length:Int)-0+1)/2)=(v.length+1)/2 by omega,show(0:Int)=((0:Nat):Int) from rfl]
 rw[show(0:Int)=((0:Nat):Int) from rfl]at this
 rw[this]
 simp[Stp.elim]
theorem aag (n:Int):Cl.f (n,())=tY.f (n,()):=by
 have e:tn=lg:=by
  funext a
  unfold tn lg
  rw[show decide (65535<a)=decide (65536≤a) from decide_eq_decide.2 (by omega)]
 simp only[PX,Cl,tY,gR,fU,e]
theorem PF (v:ac)(hv:v.length≤4294967296):sC.f (v,())=iq.f (v,()):=by
 simp only[PX,sC,iq,PJ v hv,pX v hv,aag]
theorem xw:∀(n:Nat) (a b:ac),a.length=2*n→ws false (a++b)=ws false a+ws false b
 |0,a,b,h=>by
  have e:a=[]:=List.eq_nil_of_length_eq_zero (by omega)
  subst e
  simp[ws]
 |n+1,[],b,h=>by simp at h
 |n+1,[x],b,h=>by simp at h;omega
 |n+1,x::y::a,b,h=>by
  have ih:=xw n a b (by simp only[List.length_cons]at h;omega)
  simp only[List.cons_append,ws,ih];omega
theorem BK (a b n:Int):mR.f (a,b,n,())=bA.f (a,b,n,()):=by
 have h1:=wL a 4 (by omega) (by omega)
 have h2:=wL b 4 (by omega) (by omega)
 have h3:=wL n 2 (by omega) (by omega)
 rw[show(8:Int)*4=32 from rfl]at h1 h2
 rw[show(8:Int)*2=16 from rfl]at h3
 simp only[PX,mR,bA,nT,h1,h2,h3]
theorem adb:rQ=er:=rfl
theorem Nt (o:Opti):oJ.f (o,())=aM.f (o,()):=by
 simp only[PX,oJ,aM,iQ,nT,du,cE,adb]
 rcases Bool.eq_false_or_eq_true (az.f (o,()))with h|h
 case inr=>rw[h];rfl
 have hs:=fk o h
 have e:decide (0≤o.scale)=(o.scale != -1):=by
  rw[Bool.eq_iff_iff];simp;omega
 rw[h]
 cases h1:(o.mss != 0)<;>cases h2:(o.scale != -1)<;>cases h3:o.sack<;>cases h4:o.stamp<;>simp only[e,h2,h3,h4,Bool.not_true,cond_true,cond_false,List.nil_append,List.append_assoc]
theorem XA (o:Opti):(aM.f (o,())).length≤20:=(aM.c.h (o,()) trivial).2
theorem aaf (a b n:Int):(bA.f (a,b,n,())).length≤20:=(bA.c.h (a,b,n,()) trivial).2
theorem Ji (n sz:Int):((ay.f (n,sz,())).length:Int)≤max sz 0:=(ay.c.h (n,sz,()) trivial).2
theorem M4 (g:Segm)(a b:Int):lf.f (g,a,b,())=ba.f (g,a,b,()):=by
 simp only[PX,lf,ba,pf,Nt,BK,nT]
 rcases Bool.eq_false_or_eq_true (ak.f (g,()))with h|h
 case inr=>rw[h,Bool.not_false,cond_true,cond_true]
 rw[h,Bool.not_true,cond_false,cond_false]
 have hb:=eL g h
 rw[PF]
 have h1:=XA g.opts
 generalize IntKind.wrap .i64 ((IntKind.wrap .i64 (20+((aM.f (g.opts,())).length:Int)))+(g.body.length:Int))=n
 have h2:=aaf a b n
 have h3:=Ji g.from_ 2
 have h4:=Ji g.to 2
 have h5:=Ji g.seq 4
 have h6:=Ji g.ack 4
 have h7:=Ji (IntKind.wrap .i64 ((IntKind.wrap .i64 ((IntKind.wrap .i64 (20+((aM.f (g.opts,())).length:Int))).tdiv 4))*16)) 1
 have h8:=Ji g.flags 1
 have h9:=Ji g.window 2
 simp only[List.length_append,List.length_cons,List.length_nil]
 omega
theorem YJ (f:Fram):yO.f (f,())=d6.f (f,()):=by
 simp only[PX,yO,d6,cW,bK,aw]
theorem xv (f:Fram):fR.f (f,())=dB.f (f,()):=by
 simp only[PX,fR,dB,YJ,nT]
theorem WV (p:Pack):vn.f (p,())=hY.f (p,()):=by
 simp only[PX,vn,hY,cW,bK,aw]
theorem mA (p:Pack)(h:hY.f (p,())=true):aa.f (p.src,32,())=true∧aa.f (p.dst,32,())=true∧1≤p.ttl∧p.ttl≤255∧aa.f (p.proto,8,())=true∧aa.f (p.id,16,())=true∧p.body.length≤1480:=by
 simp only[PX,hY,aw]at h
 revert h
 cases aa.f (p.src,32,())<;>cases aa.f (p.dst,32,())<;>cases aa.f (p.proto,8,())<;>cases aa.f (p.id,16,())<;>simp<;>omega
theorem Qy (p:Pack):kG.f (p,())=fN.f (p,()):=by
 simp only[PX,kG,fN,WV,nT]
 rcases Bool.eq_false_or_eq_true (hY.f (p,()))with h|h
 case inr=>rw[h,Bool.not_false,cond_true,cond_true]
 obtain⟨hs,hd,t1,t2,hp,hi,hb⟩:=mA p h
 rw[h,Bool.not_true,cond_false,cond_false]
 have w:IntKind.wrap .i64 (20+(p.body.length:Int))=20+(p.body.length:Int):=ar (by omega) (by omega)
 rw[w]
 have n1:aa.f (20+(p.body.length:Int),8*2,())=true:=by
  rw[show(8:Int)*2=16 from rfl,bx]
  simp;omega
 have l1:=kg (20+(p.body.length:Int)) 2 (by omega) (by omega) n1
 have l2:=kg p.id 2 (by omega) (by omega) hi
 have l3:=kg p.ttl 1 (by omega) (by omega) (by rw[show(8:Int)*1=8 from rfl,lM];simp;omega)
 have l4:=kg p.proto 1 (by omega) (by omega) hp
 have l5:=kg p.src 4 (by omega) (by omega) hs
 have l6:=kg p.dst 4 (by omega) (by omega) hd
 generalize ay.f (20+(p.body.length:Int),2,())=a at*
 generalize ay.f (p.id,2,())=b at*
 generalize ay.f (p.ttl,1,())=c at*
 generalize ay.f (p.proto,1,())=d at*
 generalize ay.f (p.src,4,())=e at*
 generalize ay.f (p.dst,4,())=f at*
 have key:sC.f ((((([69,0]++a)++b)++[0,0])++c++d)++(e++f),())=iq.f ((((((([69,0]++a)++b)++[0,0])++c)++d)++[0,0])++(e++f),()):=by
  rw[PF]
  ·have e1:qD.f ((((([69,0]++a)++b)++[0,0])++c++d)++(e++f),())=qD.f ((((((([69,0]++a)++b)++[0,0])++c)++d)++[0,0])++(e++f),()):=by
    rw[pX,pX,xw 5 (((([69,0]++a)++b)++[0,0])++c++d),xw 6 ((((([69,0]++a)++b)++[0,0])++c++d)++[0,0]),xw 5 (((([69,0]++a)++b)++[0,0])++c++d)]
    ·simp[ws]
    all_goals simp only[List.length_append,List.length_cons,List.length_nil];omega
   simp only[PX,iq,e1]
  ·simp only[List.length_append,List.length_cons,List.length_nil];omega
 rw[key]
def Ru (v:List Entr)(ip:Int):Int×Bool:=match v.findIdx? (λe=>e.ip==ip)with
 |some i=>(match v[i]? with|some x=>(x.hw,true)|none=>(0,false))
 |none=>(0,false)
theorem tE (v:List Entr)(ip:Int):AO.f (v,ip,())=Ru v ip:=by
 simp only[PX,AO,kq]
 rw[bp,eu v _ rfl (F:=λj x _=>bif x.ip==ip then .out x.hw else .next ()) (λj x a h=>by
  simp only[PX,E8,ah,getD_some h]),kd (p:=λe:Entr=>e.ip==ip) (w:=λ_ x=>x.hw)]
 unfold Ru
 cases v.findIdx? (λe=>e.ip==ip)with
 |none=>rfl
 |some i=>cases h:v[i]? <;>simp only[h]<;>rfl
theorem A2 (v:List Entr)(ip:Int):yE.f (v,ip,())=gD (λe=>e.ip==ip) v:=by
 simp only[PX,yE,jc]
 rw[ml (λe:Entr=>e.ip==ip) v (λj x a h=>by simp only[PX,B9,ah,getD_some h])]
 unfold gD
 cases v.findIdx? (λe=>e.ip==ip)<;>rfl
theorem acJ (v:List Entr)(ip:Int):P0.f (v,ip,())=AO.f (v,ip,()):=by
 simp only[PX,P0,A2,tE]
 unfold Ru gD
 cases hf:v.findIdx? (λe=>e.ip==ip)with
 |none=>rfl
 |some i=>
  obtain⟨h1,_,_⟩:=List.findIdx?_eq_some_iff_getElem.1 hf
  have h2:v[i]? =some v[i]:=List.getElem?_eq_getElem h1
  simp only[h2,ah,getD_some h2,decide_eq_false (show¬(i:Int)<0 by omega),cond_false]
theorem ZW (v:List Entr)(ip:Int):(Ru v ip).2=v.any (λe=>e.ip==ip):=by
 have:=ly (λe:Entr=>e.ip==ip) v
 rw[←this]
 unfold Ru gD
 cases hf:v.findIdx? (λe=>e.ip==ip)with
 |none=>rfl
 |some i=>
  obtain⟨h1,_,_⟩:=List.findIdx?_eq_some_iff_getElem.1 hf
  have h2:v[i]? =some v[i]:=List.getElem?_eq_getElem h1
  simp only[h2,decide_eq_true (show(0:Int)≤(i:Int) by omega)]
theorem aaw (xs:List Entr):(∀(j:Nat) (y:Entr),xs[j]? =some y→(xs.take j).any (λh=>h.ip==y.ip)=false)↔(xs.map Entr.ip).Nodup:=by
 unfold List.Nodup
 rw[List.pairwise_iff_getElem]
 constructor
 ·intro h i j hi hj hij he
  rw[List.length_map]at hi hj
  simp only[List.getElem_map]at he
  have:=h j xs[j] (List.getElem?_eq_getElem hj)
  rw[List.any_eq_false]at this
  refine this xs[i] ?_ (by rw[he,beq_self_eq_true])
  rw[List.mem_take_iff_getElem]
  exact⟨i,by omega,rfl⟩
 ·intro h j y hy
  rw[List.any_eq_false]
  intro z hz he
  rw[List.mem_take_iff_getElem]at hz
  obtain⟨i,hi,rfl⟩:=hz
  obtain⟨hj,rfl⟩:=List.getElem?_eq_some_iff.1 hy
  have:=h i j (by rw[List.length_map];omega) (by rw[List.length_map];exact hj) (by omega)
  simp only[List.getElem_map]at this
  exact this (beq_iff_eq.1 he)
def Mo (e:Entr):Bool:=aa.f (e.ip,32,())&&(aa.f (e.hw,48,())&&(decide (0≤e.age)&&decide (e.age≤9)))
structure EO (v:List Entr):Prop where
 ok:∀e∈v,Mo e=true
 nd:(v.map Entr.ip).Nodup
 len:v.length≤4
theorem sJ (v:List Entr):gJ.f (v,())=true↔EO v:=by
 have f1:=L4 v (f:=λj a=>(eQ v v j a).nice) (P:=λj y=>Mo y=true∧(v.take j).any (λh=>h.ip==y.ip)=false) (λj y hy=>by
  simp only[PX,eQ,ah,getD_some hy,tE,ZW,List.drop_zero,aw,Mo]
  cases aa.f (y.ip,32,())<;>cases aa.f (y.hw,48,())<;>cases(decide (0≤y.age)&&decide (y.age≤9))<;>cases(v.take j).any (λh=>h.ip==y.ip)<;>simp)
 have f3:=aaw v
 have f5:a9 (λj a=>(eQ v v j a).nice) 1 (Int.toNat ((v.length:Int)-0)) 0 ()= .next ()↔(∀e∈v,Mo e=true)∧(v.map Entr.ip).Nodup:=by
  rw[f1,←f3,←vp]
  exact⟨λh=>⟨λj y hy=>(h j y hy).1,λj y hy=>(h j y hy).2⟩,λh j y hy=>⟨h.1 j y hy,h.2 j y hy⟩⟩
 have e:gJ.f (v,())=true↔v.length≤4∧a9 (λj a=>(eQ v v j a).nice) 1 (Int.toNat ((v.length:Int)-0)) 0 ()= .next ():=by
  simp only[PX,gJ,eM]
  rw[show v.length≤4↔decide (4<(v.length:Int))=false by simp;omega]
  cases decide (4<(v.length:Int))<;>cases a9 (λj a=>(eQ v v j a).nice) 1 (Int.toNat ((v.length:Int)-0)) 0 ()<;>simp[Stp.elim]
 rw[e,f5]
 constructor
 ·rintro⟨h1,h2,h3⟩;exact⟨h2,h3,h1⟩
 ·rintro⟨h2,h3,h1⟩;exact⟨h1,h2,h3⟩
theorem O3 (v:List Entr):ui.f (v,())=gJ.f (v,()):=by
 simp only[PX,ui,gJ,gh,eM]
 have h1:=yo v (f:=λj a=>(rh v j a).nice) (g:=λj a=>(eQ v v j a).nice) (k:=Int.toNat ((v.length:Int)-0)) (bp _) (λj y hy=>by
  simp only[PX,rh,eQ,ah,getD_some hy,cW,bK,aw,A2,tE,ZW,List.drop_zero,ly]
  cases aa.f (y.ip,32,())<;>cases aa.f (y.hw,48,())<;>cases(decide (0≤y.age)&&decide (y.age≤9))<;>cases(v.take j).any (λh=>h.ip==y.ip)<;>simp)
 rw[show decide ((v.length:Int)≤4)= !decide (4<(v.length:Int)) by rw[Bool.eq_iff_iff];simp]
 rcases h1 with⟨a,b,h5,h6⟩|⟨h5,h6⟩
 ·rw[h5,h6]
  cases decide (4<(v.length:Int))<;>rfl
 ·rw[h5,h6]
  cases decide (4<(v.length:Int))<;>rfl
theorem J8 (l:Link):tI.f (l,())=dP.f (l,()):=by
 simp only[PX,tI,dP,cW,O3]
theorem rE (l:Link):dP.f (l,())=true↔((0≤l.mac∧l.mac≤281474976710655)∧l.mac≠281474976710655∧(0≤l.ip∧l.ip≤4294967295)∧EO l.cache):=by
 rw[←sJ]
 simp only[PX,dP,E0,bz]
 rw[show(l.mac≠281474976710655)↔(l.mac != 281474976710655)=true by simp,show(0≤l.mac∧l.mac≤281474976710655)↔(decide (0≤l.mac)&&decide (l.mac≤281474976710655))=true by simp,show(0≤l.ip∧l.ip≤4294967295)↔(decide (0≤l.ip)&&decide (l.ip≤4294967295))=true by simp]
 cases(decide (0≤l.mac)&&decide (l.mac≤281474976710655))<;>cases(l.mac != 281474976710655)<;>cases(decide (0≤l.ip)&&decide (l.ip≤4294967295))<;>simp
theorem XV (l:Link)(ip:Int)(b:ac):yp.f (l,ip,b,())=gF.f (l,ip,b,()):=by
 simp only[PX,yp,gF,acJ,J8,Qy,xv]
 cases dP.f (l,())<;>cases(AO.f (l.cache,ip,())).2<;>simp only[Bool.not_true,Bool.not_false,cond_true,cond_false]
theorem Oa {T U W:Type}(xs:List T)(F:T→List U){f:Int→List U→Stp (List U) W}(h:∀(j:Nat) x a,xs[j]? =some x→f (j:Int) a= .next (a++F x)):a9 f 1 (Int.toNat ((xs.length:Int)-0)) 0 []= .next (xs.flatMap F):=by
 rw[bp,eu xs _ rfl (F:=λ_ x a=> .next (a++F x)) h]
 have key:∀(r:List T) (j:Nat) (a:List U),kV (W:=W) (λ_ x a=> .next (a++F x)) j r a= .next (a++r.flatMap F):=by
  intro r
  induction r with
  |nil=>intro j a;simp[kV]
  |cons x r ih=>
   intro j a
   have:=ih (j+1) (a++F x)
   rw[List.flatMap_cons,←List.append_assoc,←this]
   rfl
 rw[key];simp
def zq (l:Link)(ip:Int)(g:Segm):List ac:=bif ba.f (g,l.ip,ip,())==[]then[]else bif (gF.f (l,ip,ba.f (g,l.ip,ip,()),())).2 then[(gF.f (l,ip,ba.f (g,l.ip,ip,()),())).1]else[]
theorem Pu (s:Stac)(ip:Int)(xs:List Segm):yh.f (s,ip,xs,())=xs.flatMap (zq s.link ip):=by
 simp only[PX,yh,gi]
 rw[Oa xs (zq s.link ip) (λj x a h=>by
  simp only[PX,xH,ah,getD_some h,zq]
  cases(ba.f (x,s.link.ip,ip,())==[])<;>cases(gF.f (s.link,ip,ba.f (x,s.link.ip,ip,()),())).2<;>simp)]
 rfl
theorem sV (a b n:Int)(ha:aa.f (a,32,())=true)(hb:aa.f (b,32,())=true)(hn:aa.f (n,16,())=true):(bA.f (a,b,n,())==[])=false:=by
 simp only[PX,bA,ha,hb,hn,Bool.not_true,cond_false]
 simp
theorem Jg (g:Segm)(a b:Int)(hg:ak.f (g,())=true)(ha:aa.f (a,32,())=true)(hb:aa.f (b,32,())=true):(ba.f (g,a,b,())==[])=false:=by
 have h1:=XA g.opts
 have h2:=eL g hg
 have w1:IntKind.wrap .i64 (20+((aM.f (g.opts,())).length:Int))=20+((aM.f (g.opts,())).length:Int):=ar (by omega) (by omega)
 have w2:IntKind.wrap .i64 (20+((aM.f (g.opts,())).length:Int)+(g.body.length:Int))=20+((aM.f (g.opts,())).length:Int)+(g.body.length:Int):=ar (by omega) (by omega)
 have hp:=sV a b (20+((aM.f (g.opts,())).length:Int)+(g.body.length:Int)) ha hb (by rw[bx];simp;omega)
 simp only[PX,ba,hg,w1,w2,Bool.not_true,cond_false]
 rw[hp,cond_false]
 simp
theorem aa3 (v:List Entr)(ip:Int)(h:(Ru v ip).2=true):∃e∈v,e.ip=ip:=by
 rw[ZW,List.any_eq_true]at h
 obtain⟨e,h1,h2⟩:=h
 exact⟨e,h1,by simpa using h2⟩
theorem zC (l:Link)(ip:Int)(b:ac)(h:(gF.f (l,ip,b,())).2=true):dP.f (l,())=true∧(Ru l.cache ip).2=true:=by
 simp only[PX,gF,tE]at h
 revert h
 cases dP.f (l,())<;>cases(Ru l.cache ip).2<;>simp
theorem PK (s:Stac)(ip:Int)(xs:List Segm)(hx:∀g∈xs,ak.f (g,())=true):yG.f (s,ip,xs,())=xs.flatMap (zq s.link ip):=by
 simp only[PX,yG,gn]
 rw[Oa xs (zq s.link ip) (λj x a h=>by
  simp only[PX,xy,ah,getD_some h,zq,M4,XV]
  cases hk:(gF.f (s.link,ip,ba.f (x,s.link.ip,ip,()),())).2 with
  |false=>cases(ba.f (x,s.link.ip,ip,())==[])<;>simp
  |true=>
   obtain⟨h1,h2⟩:=zC _ _ _ hk
   obtain⟨_,_,h3,h4⟩:=(rE _).1 h1
   obtain⟨e,he,rfl⟩:=aa3 _ _ h2
   have h5:=h4.ok e he
   unfold Mo at h5
   rw[Bool.and_eq_true]at h5
   rw[Jg x s.link.ip e.ip (hx x (Ap h)) (by rw[bz];simp[h3]) h5.1]
   rfl)]
 rfl
theorem PR (s:Stac):pZ.f (s,())=s:=by simp only[PX,pZ,lZ,gU,sr]
theorem NR (s:Stac):yI.f (s,())=s:=by simp only[PX,yI,qw,om,List.nil_append]
theorem yw (s:Stac)(hs:kX s.door):oq.f (s,())=d5.f (s,()):=by simp only[PX,oq,d5,J8,JQ s.door hs]
theorem iT (s:Stac):d5.f (s,())=true↔dP.f (s.link,())=true∧cc.f (s.door,())=true:=by
 simp only[PX,d5]
 cases dP.f (s.link,())<;>simp
theorem Nu (l:Link):uD.f (l,l,())=true:=by
 simp only[PX,uD,fC,bne_self_eq_false,cond_false]
 rw[fW _ _ λj=>by simp only[PX,we,beq_self_eq_true,Bool.and_self,Bool.not_true,cond_false]]
 rfl
theorem xB (s:Stac):pj.f (s,s,())=true:=by
 simp only[PX,pj,Nu,tg,cond_true]
theorem np (m:List ac):mn.f (m,m,())=true:=by
 simp only[PX,mn,ey]
 rw[fW _ _ λj=>by simp only[PX,tB,beq_self_eq_true,Bool.not_true,cond_false]]
 simp[PX,Stp.elim]
def wz (b:ac):Int:=b.foldl (λn x=>n*256+(x.toNat:Int)) 0
def aq:Nat→Int→ac
 |0,_=>[]
 |k+1,n=>aq k (n/256)++[UInt8.ofNat (n%256).toNat]
theorem tM (b:ac)(x:UInt8):wz (b++[x])=wz b*256+(x.toNat:Int):=by simp[wz]
theorem aI:∀(k:Nat) (n:Int),(aq k n).length=k
 |0,_=>rfl
 |k+1,n=>by simp[aq,aI k]
theorem PM {P:ac→Prop}(h0:P [])(h1:∀b x,P b→P (b++[x]))(b:ac):P b:=by
 have key:∀(n:Nat) (b:ac),b.length=n→P b:=by
  intro n
  induction n with
  |zero=>intro b hb;rw[List.eq_nil_of_length_eq_zero hb];exact h0
  |succ n ih=>
   intro b hb
   have hne:b≠[]:=by rintro rfl;simp at hb
   rw[←List.dropLast_concat_getLast hne]
   exact h1 _ _ (ih _ (by rw[List.length_dropLast];omega))
 exact key _ b rfl
theorem aby (b:ac):0≤wz b:=by
 induction b using PM with
 |h0=>simp[wz]
 |h1 b x ih=>
  rw[tM];omega
theorem abA (b:ac):wz b<256 ^ b.length:=by
 induction b using PM with
 |h0=>simp[wz]
 |h1 b x ih=>
  rw[tM,List.length_append,List.length_singleton,Int.pow_succ]
  have:=nv x
  omega
theorem abn (x:UInt8):UInt8.ofNat x.toNat=x:=by simp
theorem X4 (b:ac):aq b.length (wz b)=b:=by
 induction b using PM with
 |h0=>rfl
 |h1 b x ih=>
  rw[tM,List.length_append,List.length_singleton]
  have hx:=nv x
  have e1:(wz b*256+(x.toNat:Int))/256=wz b:=by omega
  have e2:((wz b*256+(x.toNat:Int))%256).toNat=x.toNat:=by omega
  simp only[aq,e1,e2,ih,abn]
theorem dZ:∀(k:Nat) (n:Int),0≤n→n<256 ^ k→wz (aq k n)=n
 |0,n,h0,h1=>by
  have:n=0:=by simp at h1;omega
  subst this;rfl
 |k+1,n,h0,h1=>by
  rw[Int.pow_succ]at h1
  simp only[aq,tM]
  rw[dZ k (n/256) (by omega) (by omega)]
  have:((UInt8.ofNat (n%256).toNat).toNat:Int)=n%256:=by
   rw[UInt8.toNat_ofNat'];omega
  rw[this];omega
theorem NC (k:Nat)(x:Int)(t:List Int):(List.replicate (k+1) (0:Int)++t).set k x=List.replicate k 0++(x::t):=by
 rw[List.replicate_succ',List.append_assoc,List.set_append_right _ _ (by simp)]
 simp
def pN:Int→Int:=λn=>if n=0 then 0 else(n-1)%65535+1
theorem Vd (n:Int)(h:65536≤n):pN (n/65536+n%65536)=pN n:=by
 unfold pN
 rw[if_neg (by omega),if_neg (by omega)]
 omega
theorem SI (n:Int)(h0:0≤n)(h:n<65536):pN n=n:=by
 unfold pN
 split
 ·omega
 ·omega
theorem yN (n:Int)(h:0≤n):pN (n+(65535-pN n))=65535∧0≤pN n∧pN n≤65535:=by
 unfold pN
 split
 ·subst_vars;simp
 ·rw[if_neg (by omega)];omega
theorem Bs (n:Int):((UInt8.ofNat (n%256).toNat).toNat:Int)=n%256:=by
 rw[UInt8.toNat_ofNat'];omega
theorem LD (b:ac):av (eA b)=b:=by
 unfold av eA
 rw[List.map_map]
 refine(List.map_congr_left (g:=id) λx _=> ?_).trans (List.map_id b)
 simp
theorem SB {f:Int→Int×List Int→Stp (Int×List Int) Empty}(hf:∀i a,f i a= .next (a.1/256,a.2.set i.toNat (a.1%256))):∀(m:Nat) (n:Int) (t:List Int),∃n',a9 f (-1) m ((m:Int)-1) (n,List.replicate m 0++t)= .next (n',eA (aq m n)++t)
 |0,n,t=>⟨n,by simp[a9,aq,eA]⟩
 |m+1,n,t=>by
  obtain⟨n',ih⟩:=SB hf m (n/256) (n%256::t)
  refine⟨n', ?_⟩
  have e1:((m+1:Nat):Int)-1=(m:Int):=by omega
  simp only[a9,hf,Stp.elim,e1,ah,NC]
  rw[show(m:Int)+ -1=(m:Int)-1 by omega,ih]
  simp only[aq,eA,List.map_append,List.map_cons,List.map_nil,Bs,List.append_assoc,List.cons_append,List.nil_append]
theorem aL (n sz:Int)(h1:1≤sz)(h6:sz≤6)(h:aa.f (n,8*sz,())=true):ay.f (n,sz,())=aq sz.toNat n:=by
 have hw:IntKind.wrap .i64 (8*sz)=8*sz:=ar (by omega) (by omega)
 obtain⟨n',e⟩:=SB (f:=λj a=>(dV j a).nice) (λi a=>by
  simp only[PX,dV,qu]
  rw[Int.fdiv_eq_ediv_of_nonneg _ (by omega)]) sz.toNat n []
 rw[List.append_nil,List.append_nil]at e
 have e1:IntKind.wrap .i64 (sz-1)=(sz.toNat:Int)-1:=by rw[ar (by omega) (by omega)];omega
 have e2:Int.toNat (((sz.toNat:Int)-1)-0+1)=sz.toNat:=by omega
 simp only[PX,ay,aw,dd,hw,h,decide_eq_true h1,decide_eq_true h6,Bool.and_self,Bool.not_true,cond_false,e1,e2]
 refine(congrArg (Stp.elim _ _) e).trans ?_
 simp only[Stp.elim,LD]
def gw (s:ac)(p n:Nat):Int:=wz ((s.drop p).take n)
theorem aaO {s:ac}{p n:Nat}(h:p+n≤s.length):((s.drop p).take n).length=n:=by
 rw[List.length_take,List.length_drop];omega
theorem ZT {s:ac}{p n:Nat}(h:p+n≤s.length):0≤gw s p n∧gw s p n<256 ^ n:=by
 refine⟨aby _, ?_⟩
 have:=abA ((s.drop p).take n)
 rwa [aaO h]at this
theorem ss {s:ac}{p n:Nat}(h:p+n≤s.length):aq n (gw s p n)=(s.drop p).take n:=by
 have:=X4 ((s.drop p).take n)
 rwa [aaO h]at this
theorem Ml (s:ac)(p:Nat){f:Int→Int→Stp Int Empty}(hf:∀(j:Nat) (a:Int),p+j<s.length→0≤a→a<1099511627776→f (j:Int) a= .next (a*256+ae s (p+j))):∀(m j:Nat),j+m≤6→p+j+m≤s.length→a9 f 1 m (j:Int) (wz ((s.drop p).take j))= .next (wz ((s.drop p).take (j+m)))
 |0,j,_,_=>rfl
 |m+1,j,h1,h2=>by
  have hr:=ZT (s:=s) (p:=p) (n:=j) (by omega)
  unfold gw at hr
  have hj:(256:Int) ^ j≤1099511627776:=by
   rcases(show j=0∨j=1∨j=2∨j=3∨j=4∨j=5 by omega)with rfl|rfl|rfl|rfl|rfl|rfl<;>decide
  have hp:p+j<s.length:=by omega
  have e:(s.drop p).take (j+1)=(s.drop p).take j++[s[p+j]]:=by
   rw[List.take_succ_eq_append_getElem (by rw[List.length_drop];omega),List.getElem_drop]
  simp only[a9]
  rw[hf j _ (by omega) hr.1 (by omega)]
  simp only[Stp.elim]
  rw[iM s (p+j) hp,←tM,←e,show(j:Int)+1=((j+1:Nat):Int) by omega,Ml s p hf m (j+1) (by omega) (by omega),show j+1+m=j+(m+1) by omega]
theorem adn (a b:Int)(h0:0≤a)(h1:a<1099511627776)(h2:0≤b)(h3:b≤255):bits .or .i64 (a*256) b=a*256+b:=by
 obtain⟨x,rfl⟩:=Int.eq_ofNat_of_zero_le h0
 obtain⟨y,rfl⟩:=Int.eq_ofNat_of_zero_le h2
 have key:(BitVec.ofInt 64 ((x:Int)*256)|||BitVec.ofInt 64 (y:Int)).toNat=x*256+y:=by
  rw[BitVec.toNat_or,BitVec.toNat_ofInt,BitVec.toNat_ofInt,show((x:Int)*256%((2 ^ 64:Nat):Int)).toNat=x*256 by omega,show((y:Int)%((2 ^ 64:Nat):Int)).toNat=y by omega,show x*256=x<<<8 by rw[Nat.shiftLeft_eq],Nat.shiftLeft_add_eq_or_of_lt (by omega)]
 show IntKind.i64.wrap ((BitVec.ofInt 64 ((x:Int)*256)|||BitVec.ofInt 64 (y:Int)).toNat:Nat)=_
 rw[key,cQ]
 omega
theorem QE (s:ac)(p n:Nat)(h1:1≤n)(h6:n≤6)(hp:p+n≤s.length)(hs:s.length≤4294967296):yT.f (s,(p:Int),(n:Int),())=(gw s p n,true):=by
 have e:=Ml s p (f:=λj a=>(qF s (p:Int) j a).nice) (λj a h ha hb=>by
  have:=gV s (p+j)
  simp only[PX,qF]
  rw[ar (m:=(p:Int)+(j:Int)) (by omega) (by omega),show((p:Int)+(j:Int)).toNat=p+j by omega,ar (m:=ae s (p+j)) (by omega) (by omega),ar (m:=a*256) (by omega) (by omega),adn a _ ha hb (by omega) (by omega)]) n 0 (by omega) (by omega)
 rw[Nat.zero_add]at e
 have c1:(decide ((1:Int)≤(n:Int))&&decide ((n:Int)≤6))=true:=by simp;omega
 have c2:decide ((p:Int)<0)=false:=by simp
 have c3:decide (IntKind.wrap .i64 ((s.length:Int)-(n:Int))<(p:Int))=false:=by rw[ar (by omega) (by omega)];simp;omega
 simp only[PX,yT,aw,gA,c1,c2,c3,Bool.not_true,cond_false,bp]
 refine(congrArg (Stp.elim _ _) e).trans ?_
 simp only[Stp.elim,gw]
theorem bt (s:ac)(p n:Nat)(h1:1≤n)(h6:n≤6)(hp:p+n≤s.length)(hs:s.length≤4294967296):bL.f (s,(p:Int),(n:Int),())=(gw s p n,true):=by
 have e:=Ml s p (f:=λj a=>(qM s (p:Int) j a).nice) (λj a h ha hb=>by
  have:=gV s (p+j)
  simp only[PX,qM]
  rw[ar (m:=(p:Int)+(j:Int)) (by omega) (by omega),show((p:Int)+(j:Int)).toNat=p+j by omega,ar (m:=ae s (p+j)) (by omega) (by omega),ar (m:=256*a) (by omega) (by omega),ar (by omega) (by omega),Int.mul_comm]) n 0 (by omega) (by omega)
 rw[Nat.zero_add]at e
 have c1:(decide ((1:Int)≤(n:Int))&&decide ((n:Int)≤6))=true:=by simp;omega
 have c3:(decide ((0:Int)≤(p:Int))&&decide ((p:Int)≤(IntKind.wrap .i64 ((s.length:Int)-(n:Int)))))=true:=by rw[ar (by omega) (by omega)];simp;omega
 simp only[PX,bL,bK,gr,c1,c3,Bool.not_true,cond_false,bp]
 refine(congrArg (Stp.elim _ _) e).trans ?_
 simp only[Stp.elim,gw]
theorem bJ (s:ac)(p n:Nat)(h1:1≤n)(h6:n≤6)(hp:p+n≤s.length)(hs:s.length≤4294967296):ex.f (s,(p:Int),(n:Int),())=gw s p n:=by
 simp only[PX,ex,QE s p n h1 h6 hp hs]
theorem abW {f:Int→Stp Int Int}(hf:∀a,0≤a→a≤9223372036854775807→f a=bif decide (65536≤a)then .next (a/65536+a%65536)else .out a):∀(m:Nat) (a:Int),0≤a→a≤9223372036854775807→a<m→bI f m a=pN a
 |0,a,h0,h1,hm=>by omega
 |m+1,a,h0,h1,hm=>by
  simp only[bI,hf a h0 h1]
  by_cases h:65536≤a
  ·rw[decide_eq_true h,cond_true]
   simp only[Stp.elim]
   rw[abW hf m _ (by omega) (by omega) (by omega),Vd a h]
  ·rw[decide_eq_false h,cond_false]
   simp only[Stp.elim]
   rw[SI a h0 (by omega)]
theorem SF (n:Int)(h0:0≤n)(h1:n≤9223372036854775807):tY.f (n,())=pN n:=by
 have e:=abW (f:=λa=>(lg a).nice) (λa ha hb=>by
  simp only[PX,lg]
  by_cases h:65536≤a
  ·rw[decide_eq_true h,cond_true,cond_true,Dz h hb]
  ·rw[decide_eq_false h,cond_false,cond_false]) (n.toNat+1) n h0 h1 (by omega)
 simp only[PX,tY,fU,decide_eq_false (show¬n<0 by omega),cond_false]
 exact e
theorem uw (v:ac)(hv:v.length≤4294967296):iq.f (v,())=65535-pN (ws false v):=by
 have h:=DW false v
 have h2:=(yN _ h.1).2
 simp only[PX,iq,pX v hv]
 rw[SF _ h.1 (by omega),ar (by omega) (by omega)]
theorem MG (v:ac)(hv:v.length≤4294967296):fF.f (v,())=(pN (ws false v)==65535):=by
 simp only[PX,fF,uw v hv]
 rw[Bool.eq_iff_iff];simp;omega
theorem IK (v:ac)(hv:v.length≤4294967296):rM.f (v,())=fF.f (v,()):=by
 simp only[PX,rM,fF,PF v hv]
theorem acY (a:Int)(h0:0≤a)(h1:a≤255):(bits .and .u8 a 191 != 0)= !(a==0||a==64):=by
 obtain⟨x,rfl⟩:=Int.eq_ofNat_of_zero_le h0
 have key:∀y:Fin 256,(bits .and .u8 ((y.val:Nat):Int) 191 != 0)= !(((y.val:Nat):Int)==0||((y.val:Nat):Int)==64):=by decide+kernel
 exact key ⟨x,by omega⟩
theorem adJ (n:Int)(h0:0≤n)(h1:n≤65535):(bits .andNot .i64 n 16384 != 0)= !(n==0||n==16384):=by
 obtain⟨x,rfl⟩:=Int.eq_ofNat_of_zero_le h0
 by_cases c:x=0∨x=16384
 ·rcases c with rfl|rfl<;>decide+kernel
 ·have hx:((x:Int)==0||(x:Int)==16384)=false:=by simp;omega
  rw[hx,Bool.not_false,bne_iff_ne]
  intro he
  have h2:IntKind.i64.wrap (((BitVec.ofInt 64 (x:Int))&&& ~~~(BitVec.ofInt 64 16384)).toNat:Nat)=0:=he
  have e0:BitVec.ofInt 64 (x:Int)=BitVec.ofNat 64 x:=by
   apply BitVec.eq_of_toNat_eq;rw[BitVec.toNat_ofInt,BitVec.toNat_ofNat];omega
  rw[e0]at h2
  have h3:(BitVec.ofNat 64 x)&&& ~~~(BitVec.ofInt 64 16384)=0#64:=by
   apply BitVec.eq_of_toNat_eq
   have:=((BitVec.ofNat 64 x)&&& ~~~(BitVec.ofInt 64 16384)).isLt
   rw[cQ]at h2
   simp only[BitVec.toNat_ofNat]
   omega
  have h4:(BitVec.ofNat 64 x)=(BitVec.ofNat 64 x)&&& 16384#64:=by
   ext i hi
   have:=congrArg (λb=>b.getLsbD i) h3
   simp only[BitVec.getLsbD_and,BitVec.getLsbD_not,hi,decide_true,Bool.true_and,BitVec.getLsbD_zero]at this
   rw[BitVec.getElem_and]
   have e:(BitVec.ofInt 64 16384).getLsbD i=(16384#64).getLsbD i:=rfl
   rw[e]at this
   rw[←BitVec.getLsbD_eq_getElem,←BitVec.getLsbD_eq_getElem]
   revert this
   cases(BitVec.ofNat 64 x).getLsbD i<;>cases(16384#64).getLsbD i<;>simp
  have h5:=congrArg BitVec.toNat h4
  rw[BitVec.toNat_and,BitVec.toNat_ofNat,BitVec.toNat_ofNat,Nat.mod_eq_of_lt (by omega),show 16384%2 ^ 64=2 ^ 14 from rfl]at h5
  have h6:x≤2 ^ 14:=by rw[h5];exact Nat.and_le_right
  have h7:x<2 ^ 14:=by omega
  have h8:x&&& 2 ^ 14=0:=by
   apply Nat.eq_of_testBit_eq
   intro i
   rw[Nat.testBit_and,Nat.testBit_two_pow,Nat.zero_testBit]
   by_cases hi:14=i
   ·subst hi;rw[Nat.testBit_lt_two_pow h7];rfl
   ·simp[hi]
  omega
theorem bv2 (a b:UInt8):wz [a,b]=(a.toNat:Int)*256+b.toNat:=by simp[wz]
theorem gw2 (s:ac)(p:Nat)(h:p+2≤s.length):gw s p 2=ae s p*256+ae s (p+1):=by
 rw[iM s p (by omega),iM s (p+1) (by omega),gw,List.drop_eq_getElem_cons (by omega),List.drop_eq_getElem_cons (i:=p+1) (by omega)]
 simp only[List.take_succ_cons,List.take_zero,bv2]
def eh (s:ac):Fram×Bool:=if s.length<14 then(⟨0,0,0,[]⟩,false)else bif d6.f (⟨gw s 0 6,gw s 6 6,gw s 12 2,s.drop 14⟩,())then(⟨gw s 0 6,gw s 6 6,gw s 12 2,s.drop 14⟩,true)else(⟨0,0,0,[]⟩,false)
theorem Ub {α:Type}(s:List α):s.take ((s.length:Int).toNat)=s:=by rw[ah,List.take_length]
theorem xz (s:ac)(hs:s.length≤4294967296):pi.f (s,())=eh s:=by
 unfold eh
 by_cases h:s.length<14
 ·rw[if_pos h]
  simp only[PX,pi,decide_eq_true (show(s.length:Int)<14 by omega),cond_true]
 ·rw[if_neg h]
  have w1:=bJ s 0 6 (by omega) (by omega) (by omega) hs
  have w2:=bJ s 6 6 (by omega) (by omega) (by omega) hs
  have w3:=bJ s 12 2 (by omega) (by omega) (by omega) hs
  simp only[Int.ofNat_zero,Int.cast_ofNat_Int]at w1 w2 w3
  simp only[PX,pi,decide_eq_false (show¬(s.length:Int)<14 by omega),cond_false,w1,w2,w3,Ub]
  cases d6.f (⟨gw s 0 6,gw s 6 6,gw s 12 2,s.drop 14⟩,())<;>rfl
theorem sK (f:Fram):d6.f (f,())=true↔aa.f (f.dst,48,())=true∧aa.f (f.src,48,())=true∧1536≤f.type∧f.type≤65535∧f.body.length≤1586:=by
 simp only[PX,d6,aw]
 cases aa.f (f.dst,48,())<;>cases aa.f (f.src,48,())<;>simp<;>omega
theorem xN (f:Fram)(h:d6.f (f,())=true):dB.f (f,())=aq 6 f.dst++aq 6 f.src++aq 2 f.type++f.body:=by
 obtain⟨h1,h2,h3,h4,h5⟩:=(sK f).1 h
 have p1:=aL f.dst 6 (by omega) (by omega) h1
 have p2:=aL f.src 6 (by omega) (by omega) h2
 have p3:=aL f.type 2 (by omega) (by omega) (by rw[show(8:Int)*2=16 from rfl,bx];simp;omega)
 simp only[PX,dB,h,p1,p2,p3,Bool.not_true,cond_false]
 rfl
theorem adP (s:ac)(h:14≤s.length):(s.drop 0).take 6++(s.drop 6).take 6++(s.drop 12).take 2++s.drop 14=s:=by
 rw[List.drop_zero,List.append_assoc,List.append_assoc,show s.drop 14=(s.drop 12).drop 2 by rw[List.drop_drop],List.take_append_drop,show s.drop 12=(s.drop 6).drop 6 by rw[List.drop_drop],List.take_append_drop,List.take_append_drop]
theorem ro (s:ac)(hs:s.length≤4294967296):kh.f (s,())=eh s:=by
 unfold eh
 by_cases h:s.length<14
 ·rw[if_pos h]
  simp only[PX,kh,decide_eq_true (show(s.length:Int)<14 by omega),cond_true]
 ·rw[if_neg h]
  have w1:=bt s 0 6 (by omega) (by omega) (by omega) hs
  have w2:=bt s 6 6 (by omega) (by omega) (by omega) hs
  have w3:=bt s 12 2 (by omega) (by omega) (by omega) hs
  simp only[Int.ofNat_zero,Int.cast_ofNat_Int]at w1 w2 w3
  simp only[PX,kh,decide_eq_false (show¬(s.length:Int)<14 by omega),cond_false,w1,w2,w3,Ub,xv]
  rcases Bool.eq_false_or_eq_true (d6.f (⟨gw s 0 6,gw s 6 6,gw s 12 2,s.drop 14⟩,()))with ho|ho
  ·rw[xN _ ho,ho]
   simp only[]
   rw[ss (by omega),ss (by omega),ss (by omega),adP s (by omega),beq_self_eq_true,Bool.not_true,cond_false,cond_true]
  ·have e:dB.f (⟨gw s 0 6,gw s 6 6,gw s 12 2,s.drop 14⟩,())=[]:=by simp only[PX,dB,ho,Bool.not_false,cond_true]
   have e2:(([]:ac)==s)=false:=by
    cases s with
    |nil=>simp at h
    |cons a r=>rfl
   rw[e,ho,e2,Bool.not_false,cond_true,cond_false]
def zP:Pack:=⟨0,0,0,0,0,[]⟩
def nD (s:ac):Pack×Int:=
 bif decide (s.length<20)then(zP,1)else bif ae s 0 != 69 then(zP,2)else bif !fF.f (s.take 20,())then(zP,3)else
 bif (decide (gw s 2 2<20)||(decide ((s.length:Int)<gw s 2 2)||decide (1500<gw s 2 2)))then(zP,4)else bif !(gw s 6 2==0||gw s 6 2==16384)then(zP,5)else bif ae s 8==0 then(zP,6)else
 (⟨gw s 12 4,gw s 16 4,ae s 8,ae s 9,gw s 4 2,(s.take (gw s 2 2).toNat).drop 20⟩,0)
theorem FD (s:ac)(k:Nat):IntKind.wrap .i64 (ae s k)=ae s k:=by
 have:=gV s k
 exact ar (by omega) (by omega)
theorem wg (s:ac)(hs:s.length≤4294967296):nP.f (s,())=nD s:=by
 unfold nD
 by_cases h:s.length<20
 ·rw[decide_eq_true h,cond_true]
  simp only[PX,nP,decide_eq_true (show(s.length:Int)<20 by omega),cond_true,zP]
 ·rw[decide_eq_false h,cond_false]
  have w1:=bJ s 2 2 (by omega) (by omega) (by omega) hs
  have w2:=bJ s 6 2 (by omega) (by omega) (by omega) hs
  have w3:=bJ s 12 4 (by omega) (by omega) (by omega) hs
  have w4:=bJ s 16 4 (by omega) (by omega) (by omega) hs
  have w5:=bJ s 4 2 (by omega) (by omega) (by omega) hs
  simp only[Int.cast_ofNat_Int]at w1 w2 w3 w4 w5
  have r6:=ZT (s:=s) (p:=6) (n:=2) (by omega)
  have a6:=adJ (gw s 6 2) r6.1 (by have:=r6.2;omega)
  simp only[PX,nP,decide_eq_false (show¬(s.length:Int)<20 by omega),cond_false,w1,w2,w3,w4,w5,FD,a6,List.drop_zero,zP]
  cases decide (gw s 2 2<20)<;>cases decide ((s.length:Int)<gw s 2 2)<;>simp only[cond_true,cond_false,Bool.true_or,Bool.false_or]
theorem vz (s:ac)(hs:s.length≤4294967296):kC.f (s,())=nD s:=by
 unfold nD
 by_cases h:s.length<20
 ·rw[decide_eq_true h,cond_true]
  simp only[PX,kC,decide_eq_true (show(s.length:Int)<20 by omega),cond_true,zP]
 ·rw[decide_eq_false h,cond_false]
  have w1:=bt s 2 2 (by omega) (by omega) (by omega) hs
  have w3:=bt s 12 4 (by omega) (by omega) (by omega) hs
  have w4:=bt s 16 4 (by omega) (by omega) (by omega) hs
  have w5:=bt s 4 2 (by omega) (by omega) (by omega) hs
  simp only[Int.cast_ofNat_Int]at w1 w3 w4 w5
  have b6:=gV s 6
  have b7:=gV s 7
  have e6:=gw2 s 6 (by omega)
  have a6:=acY (ae s 6) b6.1 b6.2
  have e1:(!(decide (20≤gw s 2 2)&&decide (gw s 2 2≤if(s.length:Int)<1500 then(s.length:Int)else 1500)))=(decide (gw s 2 2<20)||(decide ((s.length:Int)<gw s 2 2)||decide (1500<gw s 2 2))):=by
   rw[Bool.eq_iff_iff];simp;split<;>omega
  have e2:(bif !(ae s 6==0||ae s 6==64)then true else ae s 7 != 0)= !(gw s 6 2==0||gw s 6 2==16384):=by
   rw[e6,Bool.eq_iff_iff]
   cases h6:(ae s 6==0||ae s 6==64)<;>simp at h6⊢<;>omega
  have hq:=IK (s.take 20) (by rw[List.length_take];omega)
  simp only[PX,kC,decide_eq_false (show¬(s.length:Int)<20 by omega),cond_false,w1,w3,w4,w5,FD,a6,oj,bK,e1,hq,List.drop_zero,zP]
  rw[←e2]
  cases(!(ae s 6==0||ae s 6==64))<;>rfl
def zA:Arpm:=⟨0,0,0,0,0⟩
def gwA (s:ac):Arpm:=⟨gw s 6 2,gw s 8 6,gw s 14 4,gw s 18 6,gw s 24 4⟩
def Pd (s:ac):Arpm×Bool:=
 bif decide (s.length<28)then(zA,false)else bif !(s.take 6==[0,1,8,0,6,4])then(zA,false)else bif !m6.f (gwA s,())then(zA,false)else(gwA s,true)
theorem CS (s:ac)(hs:s.length≤4294967296):tK.f (s,())=Pd s:=by
 unfold Pd
 by_cases h:s.length<28
 ·rw[decide_eq_true h,cond_true]
  simp only[PX,tK,decide_eq_true (show(s.length:Int)<28 by omega),cond_true,zA]
 ·rw[decide_eq_false h,cond_false]
  have w1:=bJ s 6 2 (by omega) (by omega) (by omega) hs
  have w2:=bJ s 8 6 (by omega) (by omega) (by omega) hs
  have w3:=bJ s 14 4 (by omega) (by omega) (by omega) hs
  have w4:=bJ s 18 6 (by omega) (by omega) (by omega) hs
  have w5:=bJ s 24 4 (by omega) (by omega) (by omega) hs
  simp only[Int.cast_ofNat_Int]at w1 w2 w3 w4 w5
  simp only[PX,tK,decide_eq_false (show¬(s.length:Int)<28 by omega),cond_false,w1,w2,w3,w4,w5,List.drop_zero,zA,gwA]
theorem XF (a:Arpm):CD.f (a,())=m6.f (a,()):=by
 simp only[PX,CD,m6,cW,bK,aw]
theorem OB (a:Arpm):qC.f (a,())=kw.f (a,()):=by
 simp only[PX,qC,kw,XF,nT]
theorem VD (a:Arpm)(m ip:Int):vo.f (a,m,ip,())=oa.f (a,m,ip,()):=by
 simp only[PX,vo,oa,XF]
theorem YX (a:Arpm):m6.f (a,())=true↔(1≤a.kind∧a.kind≤2)∧aa.f (a.srcHw,48,())=true∧aa.f (a.dstHw,48,())=true∧aa.f (a.srcIp,32,())=true∧aa.f (a.dstIp,32,())=true:=by
 simp only[PX,m6,aw]
 cases aa.f (a.srcHw,48,())<;>cases aa.f (a.dstHw,48,())<;>cases aa.f (a.srcIp,32,())<;>cases aa.f (a.dstIp,32,())<;>simp
theorem Pz (a:Arpm)(h:m6.f (a,())=true):kw.f (a,())=[0,1,8,0,6,4]++aq 2 a.kind++aq 6 a.srcHw++aq 4 a.srcIp++aq 6 a.dstHw++aq 4 a.dstIp:=by
 obtain⟨h1,h2,h3,h4,h5⟩:=(YX a).1 h
 have p1:=aL a.kind 2 (by omega) (by omega) (by rw[show(8:Int)*2=16 from rfl,bx];simp;omega)
 have p2:=aL a.srcHw 6 (by omega) (by omega) h2
 have p3:=aL a.srcIp 4 (by omega) (by omega) h4
 have p4:=aL a.dstHw 6 (by omega) (by omega) h3
 have p5:=aL a.dstIp 4 (by omega) (by omega) h5
 simp only[PX,kw,h,p1,p2,p3,p4,p5,Bool.not_true,cond_false]
 rfl
theorem adl (s:ac):s.take 6++(s.drop 6).take 2++(s.drop 8).take 6++(s.drop 14).take 4++(s.drop 18).take 6++(s.drop 24).take 4=s.take 28:=by
 rw[show 28=24+4 from rfl,List.take_add,show 24=18+6 from rfl,List.take_add,show 18=14+4 from rfl,List.take_add,show 14=8+6 from rfl,List.take_add,show 8=6+2 from rfl,List.take_add]
theorem P1 (s:ac)(hs:s.length≤4294967296):tV.f (s,())=Pd s:=by
 unfold Pd
 by_cases h:s.length<28
 ·rw[decide_eq_true h,cond_true]
  simp only[PX,tV,decide_eq_true (show(s.length:Int)<28 by omega),cond_true,zA]
 ·rw[decide_eq_false h,cond_false]
  have w1:=bt s 6 2 (by omega) (by omega) (by omega) hs
  have w2:=bt s 8 6 (by omega) (by omega) (by omega) hs
  have w3:=bt s 14 4 (by omega) (by omega) (by omega) hs
  have w4:=bt s 18 6 (by omega) (by omega) (by omega) hs
  have w5:=bt s 24 4 (by omega) (by omega) (by omega) hs
  simp only[Int.cast_ofNat_Int]at w1 w2 w3 w4 w5
  have hg:(⟨gw s 6 2,gw s 8 6,gw s 14 4,gw s 18 6,gw s 24 4⟩:Arpm)=gwA s:=rfl
  simp only[PX,tV,decide_eq_false (show¬(s.length:Int)<28 by omega),cond_false,w1,w2,w3,w4,w5,List.drop_zero,zA,hg,OB]
  rcases Bool.eq_false_or_eq_true (m6.f (gwA s,()))with ho|ho
  ·have e:(kw.f (gwA s,())==s.take 28)=(s.take 6==[0,1,8,0,6,4]):=by
    rw[Pz _ ho,←adl s]
    simp only[gwA]
    rw[ss (by omega),ss (by omega),ss (by omega),ss (by omega),ss (by omega),Bool.eq_iff_iff,beq_iff_eq,beq_iff_eq]
    constructor
    ·intro he
     simp only[List.append_assoc]at he
     exact(List.append_inj he (by simp;omega)).1.symm
    ·intro he;rw[he]
   rw[e,ho]
   cases(s.take 6==[0,1,8,0,6,4])<;>rfl
  ·have e:kw.f (gwA s,())=[]:=by simp only[PX,kw,ho,Bool.not_false,cond_true]
   have e2:(([]:ac)==s.take 28)=false:=by
    cases s with
    |nil=>simp at h
    |cons a r=>rfl
   rw[e,ho,e2,Bool.not_false,cond_true]
   cases(s.take 6==[0,1,8,0,6,4])<;>rfl
theorem Ai {A W V:Type}[Inhabited W][Inhabited V]{f:A→Stp A W}{g:A→Stp A V}{h:W→V}{Inv:A→Prop}{meas:A→Nat}(hs:∀a,Inv a→(∃a',f a= .next a'∧g a= .next a'∧Inv a'∧meas a'<meas a)∨(∃w,f a= .out w∧g a= .out (h w))):∀(m:Nat) (a:A),meas a<m→Inv a→h (bI f m a)=bI g m a
 |0,_,hm,_=>absurd hm (Nat.not_lt_zero _)
 |m+1,a,hm,hi=>by
  simp only[bI]
  rcases hs a hi with⟨a',e1,e2,e3,e4⟩|⟨w,e1,e2⟩
  ·rw[e1,e2]
   exact Ai hs m a' (by omega) e3
  ·rw[e1,e2];rfl
def rT:Opti:=⟨0,-1,false,false,0,0⟩
def Mi (v:ac)(p:Nat)(o:Opti):Opti:=
 bif ae v p==2&&ae v (p+1)==4 then{o with mss:=gw v (p+2) 2}else bif ae v p==3&&ae v (p+1)==3 then{o with scale:=if 14<ae v (p+2)then 14 else ae v (p+2)}else
 bif ae v p==4&&ae v (p+1)==2 then{o with sack:=true}else bif ae v p==8&&ae v (p+1)==10 then{o with stamp:=true,val:=gw v (p+2) 4,echo:=gw v (p+6) 4}else o
def cT (v:ac)(a:Int×Opti):Stp (Int×Opti) (Opti×Bool):=
 bif !decide (a.1<(v.length:Int))then .out (a.2,true)else bif ae v a.1.toNat==0 then .out (a.2,true)else bif ae v a.1.toNat==1 then .next (a.1+1,a.2)else
 bif decide ((v.length:Int)≤a.1+1)||(decide (ae v (a.1.toNat+1)<2)||decide ((v.length:Int)-a.1<ae v (a.1.toNat+1)))then .out (rT,false)else .next (a.1+ae v (a.1.toNat+1),Mi v a.1.toNat a.2)
def th (v:ac)(a:Int×Opti):Opti×Bool:=bI (cT v) (Int.toNat ((v.length:Int)-a.1)+1) a
theorem rX (v:ac)(a:Int×Opti)(h:0≤a.1)(a':Int×Opti)(e:cT v a= .next a'):0≤a'.1∧Int.toNat ((v.length:Int)-a'.1)<Int.toNat ((v.length:Int)-a.1):=by
 unfold cT at e
 by_cases h1:a.1<(v.length:Int)
 case neg=>rw[decide_eq_false h1]at e;cases e
 rw[decide_eq_true h1,Bool.not_true,cond_false]at e
 cases h2:(ae v a.1.toNat==0)with
 |true=>rw[h2]at e;cases e
 |false=>
  rw[h2,cond_false]at e
  cases h3:(ae v a.1.toNat==1)with
  |true=>rw[h3,cond_true]at e;cases e;simp only[];omega
  |false=>
   rw[h3,cond_false]at e
   cases h4:(decide ((v.length:Int)≤a.1+1)||(decide (ae v (a.1.toNat+1)<2)||decide ((v.length:Int)-a.1<ae v (a.1.toNat+1))))with
   |true=>rw[h4]at e;cases e
   |false=>
    rw[h4,cond_false]at e
    cases e
    simp at h4
    simp only[];omega
theorem Du (v:ac)(a:Int×Opti)(h:0≤a.1):th v a=Stp.elim (th v) (λw=>w) (cT v a):=by
 unfold th
 simp only[bI]
 cases e:cT v a with
 |out w=>rfl
 |next a'=>
  have hi:=rX v a h a' e
  simp only[Stp.elim]
  exact F1 (Inv:=λa:Int×Opti=>0≤a.1) (meas:=λa=>Int.toNat ((v.length:Int)-a.1)) (λa ha a' e=>rX v a ha a' e) _ _ a' hi.2 (Nat.lt_succ_self _) hi.1
theorem tQ (v:ac)(hv:v.length≤4294967296):jE.f (v,())=th v (0,rT):=by
 have key:=Ai (f:=λa=>(cF v a).nice) (g:=cT v) (h:=Sum.elim (λo=>(o,true)) (λp=>(p.1,false))) (Inv:=λa:Int×Opti=>0≤a.1) (meas:=λa=>Int.toNat ((v.length:Int)-a.1)) (λa ha=>by
  have ha:0≤a.1:=ha
  by_cases h1:a.1<(v.length:Int)
  case neg=>refine .inr ⟨.inl a.2, ?_, ?_⟩<;>simp only[PX,cF,cT,decide_eq_false h1,cond_false,Bool.not_false,cond_true,Sum.elim_inl]
  have w1:IntKind.wrap .i64 (a.1+1)=a.1+1:=ar (by omega) (by omega)
  have w2:IntKind.wrap .i64 (a.1+2)=a.1+2:=ar (by omega) (by omega)
  have w6:IntKind.wrap .i64 (a.1+6)=a.1+6:=ar (by omega) (by omega)
  have wl:IntKind.wrap .i64 ((v.length:Int)-a.1)=(v.length:Int)-a.1:=ar (by omega) (by omega)
  have t1:(a.1+1).toNat=a.1.toNat+1:=by omega
  have t2:(a.1+2).toNat=a.1.toNat+2:=by omega
  have b1:=gV v (a.1.toNat+1)
  have wb:IntKind.wrap .i64 (a.1+ae v (a.1.toNat+1))=a.1+ae v (a.1.toNat+1):=ar (by omega) (by omega)
  have hst:=rX v a ha
  have eN:bO.f ()=rT:=by simp only[PX,bO,rT]
  cases h2:(ae v a.1.toNat==0)with
  |true=>refine .inr ⟨.inl a.2, ?_, ?_⟩<;>simp only[PX,cF,cT,decide_eq_true h1,h2,cond_false,Bool.not_true,cond_true,Sum.elim_inl]
  |false=>
   cases h3:(ae v a.1.toNat==1)with
   |true=>
    have e:cT v a= .next (a.1+1,a.2):=by simp only[cT,decide_eq_true h1,h2,h3,cond_false,Bool.not_true,cond_true]
    refine .inl ⟨_, ?_,e,hst _ e⟩
    simp only[PX,cF,decide_eq_true h1,h2,h3,cond_false,cond_true,w1]
   |false=>
    cases h4:(decide ((v.length:Int)≤a.1+1)||(decide (ae v (a.1.toNat+1)<2)||decide ((v.length:Int)-a.1<ae v (a.1.toNat+1))))with
    |true=>
     have e:cT v a= .out (rT,false):=by simp only[cT,decide_eq_true h1,h2,h3,h4,cond_false,Bool.not_true,cond_true]
     refine .inr ⟨.inr (rT,a.2), ?_,e⟩
     revert h4
     simp only[PX,cF,decide_eq_true h1,h2,h3,cond_false,cond_true,w1,wl,t1,FD,eN]
     cases decide ((v.length:Int)≤a.1+1)<;>cases decide (ae v (a.1.toNat+1)<2)<;>cases decide ((v.length:Int)-a.1<ae v (a.1.toNat+1))<;>intro h4<;>first|rfl|cases h4
    |false=>
     have e:cT v a= .next (a.1+ae v (a.1.toNat+1),Mi v a.1.toNat a.2):=by simp only[cT,decide_eq_true h1,h2,h3,h4,cond_false,Bool.not_true,cond_true]
     refine .inl ⟨_, ?_,e,hst _ e⟩
     simp only[Bool.or_eq_false_iff,decide_eq_false_iff_not]at h4
     obtain⟨h5,h6,h7⟩:=h4
     simp only[PX,cF,decide_eq_true h1,h2,h3,cond_false,cond_true,w1,w2,w6,wl,t1,t2,FD,decide_eq_false h5,decide_eq_false h6,decide_eq_false h7,wb,Mi]
     have g2:(ae v a.1.toNat==2&&ae v (a.1.toNat+1)==4)=true→ex.f (v,a.1+2,2,())=gw v (a.1.toNat+2) 2:=λhh=>by
      simp at hh
      have:=bJ v (a.1.toNat+2) 2 (by omega) (by omega) (by omega) hv
      rw[show((a.1.toNat+2:Nat):Int)=a.1+2 by omega]at this
      exact this
     have g8:(ae v a.1.toNat==8&&ae v (a.1.toNat+1)==10)=true→ex.f (v,a.1+2,4,())=gw v (a.1.toNat+2) 4∧ex.f (v,a.1+6,4,())=gw v (a.1.toNat+6) 4:=λhh=>by
      simp at hh
      have k1:=bJ v (a.1.toNat+2) 4 (by omega) (by omega) (by omega) hv
      have k2:=bJ v (a.1.toNat+6) 4 (by omega) (by omega) (by omega) hv
      rw[show((a.1.toNat+2:Nat):Int)=a.1+2 by omega]at k1
      rw[show((a.1.toNat+6:Nat):Int)=a.1+6 by omega]at k2
      exact⟨k1,k2⟩
     revert g2 g8
     cases(ae v a.1.toNat==2)<;>cases(ae v (a.1.toNat+1)==4)<;>cases(ae v a.1.toNat==3)<;>cases(ae v (a.1.toNat+1)==3)<;>cases(ae v a.1.toNat==4)<;>cases(ae v (a.1.toNat+1)==2)<;>cases(ae v a.1.toNat==8)<;>cases(ae v (a.1.toNat+1)==10)<;>intro g2 g8<;>simp only[Bool.and_true,Bool.and_false,Bool.false_and,Bool.true_and,cond_true,cond_false]<;>first|rfl|(rw[g2 rfl])|(rw[(g8 rfl).1,(g8 rfl).2])) (Int.toNat ((v.length:Int)-0)+1) (0,rT) (by simp) (by simp)
 have eN:bO.f ()=rT:=by simp only[PX,bO,rT]
 simp only[PX,jE,dj,eN]
 rw[th,←key]
 cases bI (λa=>(cF v a).nice) (Int.toNat ((v.length:Int)-0)+1) (0,rT)<;>rfl
theorem SC (v:ac)(e p k:Nat)(h:p+k<e):ae ((v.take e).drop p) k=ae v (p+k):=by
 simp[ae,List.getD,List.getElem?_drop,List.getElem?_take,h]
theorem aac (v:ac)(e p k n:Nat)(h:p+k+n≤e):gw ((v.take e).drop p) k n=gw v (p+k) n:=by
 unfold gw
 rw[List.drop_drop,List.drop_take,List.take_take,Nat.min_eq_left (by omega)]
theorem VH (v:ac)(p e:Nat)(o:Opti)(hv:v.length≤4294967296)(he:e≤v.length)(h2:p+2≤e)(hn:ae v (p+1)=(e:Int)-p):HE.f (o,(v.take e).drop p,())=Mi v p o:=by
 have hl:((v.take e).drop p).length=e-p:=by rw[List.length_drop,List.length_take];omega
 have c0:=SC v e p 0 (by omega)
 rw[Nat.add_zero]at c0
 have w4:(((v.take e).drop p).length:Int)=ae v (p+1):=by rw[hl,hn];omega
 have hx:((v.take e).drop p).length≤4294967296:=by omega
 have g2:(ae v p==2&&ae v (p+1)==4)=true→bL.f ((v.take e).drop p,2,2,())=(gw v (p+2) 2,true):=λhh=>by
  simp at hh
  have:=bt ((v.take e).drop p) 2 2 (by omega) (by omega) (by omega) hx
  rw[aac _ _ _ _ _ (by omega)]at this
  exact this
 have g3:(ae v p==3&&ae v (p+1)==3)=true→ae ((v.take e).drop p) 2=ae v (p+2):=λhh=>by
  simp at hh
  exact SC v e p 2 (by omega)
 have g8:(ae v p==8&&ae v (p+1)==10)=true→bL.f ((v.take e).drop p,2,4,())=(gw v (p+2) 4,true)∧bL.f ((v.take e).drop p,6,4,())=(gw v (p+6) 4,true):=λhh=>by
  simp at hh
  have k1:=bt ((v.take e).drop p) 2 4 (by omega) (by omega) (by omega) hx
  have k2:=bt ((v.take e).drop p) 6 4 (by omega) (by omega) (by omega) hx
  rw[aac _ _ _ _ _ (by omega)]at k1 k2
  exact⟨k1,k2⟩
 simp only[PX,HE,Mi,c0,w4,FD,oj]
 revert g2 g3 g8
 cases(ae v p==2)<;>cases(ae v (p+1)==4)<;>cases(ae v p==3)<;>cases(ae v (p+1)==3)<;>cases(ae v p==4)<;>cases(ae v (p+1)==2)<;>cases(ae v p==8)<;>cases(ae v (p+1)==10)<;>intro g2 g3 g8<;>simp only[Bool.and_true,Bool.and_false,Bool.false_and,Bool.true_and,cond_true,cond_false]<;>first|rfl|(rw[g2 rfl])|(rw[g3 rfl])|(rw[(g8 rfl).1,(g8 rfl).2])
theorem Eu (v:ac)(hv:v.length≤4294967296):lc.f (v,())=th v (0,rT):=by
 have key:=Ai (f:=λa=>(cG v a).nice) (g:=cT v) (h:=Sum.elim (λp=>(p.1,false)) (λo=>(o,true))) (Inv:=λa:Int×Opti=>0≤a.1) (meas:=λa=>Int.toNat ((v.length:Int)-a.1)) (λa ha=>by
  have ha:0≤a.1:=ha
  by_cases h1:a.1<(v.length:Int)
  case neg=>refine .inr ⟨.inr a.2, ?_, ?_⟩<;>simp only[PX,cG,cT,decide_eq_false h1,cond_false,Bool.not_false,cond_true,Sum.elim_inr]
  have w1:IntKind.wrap .i64 (a.1+1)=a.1+1:=ar (by omega) (by omega)
  have wl:IntKind.wrap .i64 ((v.length:Int)-a.1)=(v.length:Int)-a.1:=ar (by omega) (by omega)
  have t1:(a.1+1).toNat=a.1.toNat+1:=by omega
  have b1:=gV v (a.1.toNat+1)
  have wb:IntKind.wrap .i64 (a.1+ae v (a.1.toNat+1))=a.1+ae v (a.1.toNat+1):=ar (by omega) (by omega)
  have hst:=rX v a ha
  have eN:bM.f ()=rT:=by simp only[PX,bM,rT]
  cases h2:(ae v a.1.toNat==0)with
  |true=>refine .inr ⟨.inr a.2, ?_, ?_⟩<;>simp only[PX,cG,cT,decide_eq_true h1,bne,h2,cond_false,Bool.not_true,cond_true,Sum.elim_inr]
  |false=>
   cases h3:(ae v a.1.toNat==1)with
   |true=>
    have e:cT v a= .next (a.1+1,a.2):=by simp only[cT,decide_eq_true h1,h2,h3,cond_false,Bool.not_true,cond_true]
    refine .inl ⟨_, ?_,e,hst _ e⟩
    simp only[PX,cG,decide_eq_true h1,bne,h2,h3,Bool.not_false,cond_false,cond_true,w1]
   |false=>
    cases h4:(decide ((v.length:Int)≤a.1+1)||(decide (ae v (a.1.toNat+1)<2)||decide ((v.length:Int)-a.1<ae v (a.1.toNat+1))))with
    |true=>
     have e:cT v a= .out (rT,false):=by simp only[cT,decide_eq_true h1,h2,h3,h4,cond_false,Bool.not_true,cond_true]
     refine .inr ⟨.inl (rT,a.2), ?_,e⟩
     revert h4
     simp only[PX,cG,decide_eq_true h1,bne,h2,h3,Bool.not_false,cond_false,cond_true,w1,wl,t1,FD,eN]
     cases decide ((v.length:Int)≤a.1+1)<;>cases decide (ae v (a.1.toNat+1)<2)<;>cases decide ((v.length:Int)-a.1<ae v (a.1.toNat+1))<;>intro h4<;>first|rfl|cases h4
    |false=>
     have e:cT v a= .next (a.1+ae v (a.1.toNat+1),Mi v a.1.toNat a.2):=by simp only[cT,decide_eq_true h1,h2,h3,h4,cond_false,Bool.not_true,cond_true]
     refine .inl ⟨_, ?_,e,hst _ e⟩
     simp only[Bool.or_eq_false_iff,decide_eq_false_iff_not]at h4
     obtain⟨h5,h6,h7⟩:=h4
     have hl:=VH v a.1.toNat (a.1+ae v (a.1.toNat+1)).toNat a.2 hv (by omega) (by omega) (by omega)
     simp only[PX,cG,decide_eq_true h1,bne,h2,h3,Bool.not_false,cond_false,cond_true,w1,wl,t1,FD,decide_eq_false h5,decide_eq_false h6,decide_eq_false h7,wb,hl]) (Int.toNat ((v.length:Int)-0)+1) (0,rT) (by simp) (by simp)
 have eN:bM.f ()=rT:=by simp only[PX,bM,rT]
 simp only[PX,lc,dr,eN]
 rw[th,←key]
 cases bI (λa=>(cG v a).nice) (Int.toNat ((v.length:Int)-0)+1) (0,rT)<;>rfl
def s9 (v:List Entr):Int:=match a9 (λj a=>(eH v j a).nice) 1 3 1 0 with| .next a=>a| .out e=>Empty.elim e
theorem WU (v:List Entr):a9 (λj a=>(eH v j a).nice) 1 3 1 0= .next (s9 v):=by
 unfold s9
 cases a9 (λj a=>(eH v j a).nice) 1 3 1 0 with
 |next a=>rfl
 |out e=>exact Empty.elim e
theorem abS (v:List Entr)(j a:Int):(eH v j a).nice= .next (bif decide ((v.getD a.toNat (Ty.zero .entr)).age<(v.getD j.toNat (Ty.zero .entr)).age)then j else a):=by
 simp only[PX,eH]
 cases decide ((v.getD a.toNat (Ty.zero .entr)).age<(v.getD j.toNat (Ty.zero .entr)).age)<;>rfl
theorem Ql (v:List Entr):0≤s9 v∧s9 v<4:=by
 have e:=WU v
 simp only[a9,abS,Stp.elim]at e
 have key:∀(b:Bool) (x y:Int),(0≤x∧x<4)→(0≤y∧y<4)→0≤(bif b then x else y)∧(bif b then x else y)<4:=by
  intro b x y hx hy
  cases b<;>assumption
 rw[←Stp.next.inj e]
 refine key _ _ _ (by omega) (key _ _ _ (by omega) (key _ _ _ (by omega) (by omega)))
theorem abx (v:List Entr):a9 (λj a=>(eH v j a).nice) 1 4 0 0= .next (s9 v):=by
 rw[←WU v]
 show Stp.elim _ _ ((eH v 0 0).nice)=_
 rw[abS,decide_eq_false (Int.lt_irrefl _),cond_false]
 rfl
def xO (v:List Entr)(ip hw:Int):List Entr:=bif decide (0≤gD (λe:Entr=>e.ip==ip) v)then v.set (gD (λe:Entr=>e.ip==ip) v).toNat ⟨ip,hw,0⟩else(bif ((v.length:Int)==4)then v.take (s9 v).toNat++v.drop ((s9 v).toNat+1)else v)++[⟨ip,hw,0⟩]
def rt (v:List Entr)(ip hw:Int):List Entr:=bif (gJ.f (v,())&&(aa.f (ip,32,())&&aa.f (hw,48,())))then xO v ip hw else v
theorem Cu (v:List Entr)(ip hw:Int):tq.f (v,ip,hw,())=rt v ip hw:=by
 unfold rt
 simp only[PX,tq,gU,ga,gu]
 rcases Bool.eq_false_or_eq_true (gJ.f (v,()))with h1|h1
 case inr=>rw[h1];rfl
 have hE:=(sJ v).1 h1
 have hlen:=hE.len
 rw[h1]
 cases h2:aa.f (ip,32,())with
 |false=>rfl
 |true=>
  cases h3:aa.f (hw,48,())with
  |false=>rfl
  |true=>
   simp only[Bool.not_true,cond_false,Bool.and_self,cond_true,bp]
   rw[eu v _ rfl (F:=λj x _=>bif x.ip==ip then .out (v.set j (⟨ip,hw,0⟩:Entr))else .next ()) (λj x a h=>by
    have hj:j<v.length:=(List.getElem?_eq_some_iff.1 h).1
    have hx:=getD_some (d:=Ty.zero .entr) h
    simp only[PX,xA,ah,hx]
    cases hb:(x.ip==ip)with
    |false=>rfl
    |true=>
     rw[cond_true,cond_true,List.set_set]
     have e:(v.set j ({x with hw:=hw}:Entr)).getD j (Ty.zero .entr)=({x with hw:=hw}:Entr):=getD_some (by simp[hj])
     rw[e,←beq_iff_eq.1 hb]),kd (p:=λe:Entr=>e.ip==ip) (w:=λj _=>v.set j (⟨ip,hw,0⟩:Entr))]
   unfold xO gD
   cases hf:v.findIdx? (λe=>e.ip==ip)with
   |some i=>
    obtain⟨h4,_,_⟩:=List.findIdx?_eq_some_iff_getElem.1 hf
    have hx:v[i]? =some v[i]:=List.getElem?_eq_getElem h4
    simp only[hx,Stp.elim,Nat.zero_add,decide_eq_true (show(0:Int)≤(i:Int) by omega),cond_true,ah]
   |none=>
    simp only[Stp.elim,decide_eq_false (show¬(0:Int)≤-1 by omega),cond_false]
    cases h4:((v.length:Int)==4)with
    |false=>rfl
    |true=>
     have h5:v.length=4:=by have:=beq_iff_eq.1 h4;omega
     have ho:=Ql v
     obtain⟨o,hoe⟩:=Int.eq_ofNat_of_zero_le ho.1
     have e4:=abx v
     rw[h5]
     simp only[cond_true]
     refine(congrArg (Stp.elim _ _) e4).trans ?_
     simp only[Stp.elim,PX,qS,hoe,ah]
     rw[ar (by omega) (by omega),show((o:Int)==(o:Int)+1)=false by simp;omega,show((o:Int)+1).toNat=o+1 by omega]
     simp only[cond_false]
     have hL:(v.take o++v.drop (o+1)).length=o+(v.length-(o+1)):=by
      rw[List.length_append,List.length_take,List.length_drop];omega
     generalize v.take o++v.drop (o+1)=L at hL⊢
     rw[List.drop_zero,List.take_left' hL,List.take_left' (rfl:L.length=L.length),List.append_assoc,List.take_left' hL]
theorem Qx (v:List Entr)(ip hw:Int):oe.f (v,ip,hw,())=rt v ip hw:=by
 unfold rt
 simp only[PX,oe,O3,cW,List.nil_append,fY,A2]
 rcases Bool.eq_false_or_eq_true (gJ.f (v,()))with h1|h1
 case inr=>rw[h1];rfl
 have hE:=(sJ v).1 h1
 have hlen:=hE.len
 rw[h1]
 cases h2:aa.f (ip,32,())with
 |false=>rfl
 |true=>
  cases h3:aa.f (hw,48,())with
  |false=>rfl
  |true=>
   simp only[Bool.not_true,cond_false,Bool.and_self,cond_true]
   unfold xO
   cases hf:decide (0≤gD (λe:Entr=>e.ip==ip) v)with
   |true=>rfl
   |false=>
    simp only[cond_false]
    cases h4:((v.length:Int)==4)with
    |false=>rfl
    |true=>
     have h5:v.length=4:=by have:=beq_iff_eq.1 h4;omega
     have ho:=Ql v
     obtain⟨o,hoe⟩:=Int.eq_ofNat_of_zero_le ho.1
     have e4:=WU v
     simp only[cond_true]
     rw[h5,show Int.toNat (((4:Nat):Int)-1)=3 from rfl]
     refine(congrArg (Stp.elim _ _) e4).trans ?_
     simp only[Stp.elim,hoe,ah]
     rw[ar (by omega) (by omega),show((o:Int)+1).toNat=o+1 by omega,List.drop_zero]
     first|rw[List.take_of_length_le (show v.length≤4 by omega)]|rw[List.take_length]
theorem ZF (v:List Entr)(ip hw:Int)(h:EO v)(hi:aa.f (ip,32,())=true)(hh:aa.f (hw,48,())=true):EO (xO v ip hw):=by
 have hn:Mo ⟨ip,hw,0⟩=true:=by unfold Mo;rw[hi,hh];rfl
 unfold xO
 cases hf:decide (0≤gD (λe:Entr=>e.ip==ip) v)with
 |true=>
  rw[cond_true]
  unfold gD at hf⊢
  cases hc:v.findIdx? (λe=>e.ip==ip)with
  |none=>rw[hc]at hf;simp at hf
  |some i=>
   obtain⟨h4,h5,_⟩:=List.findIdx?_eq_some_iff_getElem.1 hc
   simp only[ah]
   refine⟨λe he=>(List.mem_or_eq_of_mem_set he).elim (h.ok e) λx=>x▸hn, ?_,by rw[List.length_set];exact h.len⟩
   have e:(v.set i (⟨ip,hw,0⟩:Entr)).map Entr.ip=v.map Entr.ip:=by
    rw[List.map_set]
    have:(v.map Entr.ip)[i]'(by simpa using h4)=ip:=by simpa using h5
    conv=>lhs;rw[show(Entr.ip ⟨ip,hw,0⟩)=(v.map Entr.ip)[i]'(by simpa using h4) from this.symm]
    exact List.set_getElem_self _
   rw[e];exact h.nd
 |false=>
  rw[cond_false]
  have hnot:ip∉v.map Entr.ip:=by
   intro hm
   rw[List.mem_map]at hm
   obtain⟨x,hx,he⟩:=hm
   have:=ly (λe:Entr=>e.ip==ip) v
   rw[hf]at this
   have h2:=(List.any_eq_false.1 this.symm) x hx
   rw[he]at h2;simp at h2
  have hsub:(bif ((v.length:Int)==4)then v.take (s9 v).toNat++v.drop ((s9 v).toNat+1)else v).Sublist v∧(bif ((v.length:Int)==4)then v.take (s9 v).toNat++v.drop ((s9 v).toNat+1)else v).length≤3:=by
   have hl:=h.len
   have ho:=Ql v
   cases h4:((v.length:Int)==4)with
   |false=>
    simp at h4
    exact⟨List.Sublist.refl _,by simp only[cond_false];omega⟩
   |true=>
    simp at h4
    refine⟨?_, ?_⟩
    ·rw[cond_true]
     have:=List.Sublist.append (List.Sublist.refl (v.take (s9 v).toNat)) (List.Sublist.trans (show(v.drop ((s9 v).toNat+1)).Sublist ((v.drop (s9 v).toNat).drop 1) by rw[List.drop_drop];exact List.Sublist.refl _) (List.drop_sublist 1 (v.drop (s9 v).toNat)))
     rwa [List.take_append_drop]at this
    ·rw[cond_true,List.length_append,List.length_take,List.length_drop];omega
  generalize(bif ((v.length:Int)==4)then v.take (s9 v).toNat++v.drop ((s9 v).toNat+1)else v)=w at hsub
  refine⟨λe he=> ?_, ?_,by rw[List.length_append,List.length_singleton];omega⟩
  ·rcases List.mem_append.1 he with he|he
   ·exact h.ok e (hsub.1.subset he)
   ·rw[List.mem_singleton.1 he];exact hn
  ·rw[List.map_append]
   have h1:=List.Nodup.sublist (hsub.1.map Entr.ip) h.nd
   rw[List.nodup_append]
   refine⟨h1,by simp,λa ha b hb=> ?_⟩
   simp at hb
   subst hb
   intro e
   subst e
   exact hnot ((hsub.1.map Entr.ip).subset ha)
theorem ZY (v:List Entr)(ip hw:Int):Ru (xO v ip hw) ip=(hw,true):=by
 unfold xO
 cases hf:decide (0≤gD (λe:Entr=>e.ip==ip) v)with
 |true=>
  rw[cond_true]
  unfold gD at hf⊢
  cases hc:v.findIdx? (λe=>e.ip==ip)with
  |none=>rw[hc]at hf;simp at hf
  |some i=>
   obtain⟨h4,h5,h6⟩:=List.findIdx?_eq_some_iff_getElem.1 hc
   simp only[ah]
   have e:(v.set i (⟨ip,hw,0⟩:Entr)).findIdx? (λe=>e.ip==ip)=some i:=by
    rw[List.findIdx?_eq_some_iff_getElem]
    refine⟨by rw[List.length_set];exact h4,by simp,λj hj=> ?_⟩
    rw[List.getElem_set_ne (by omega)]
    exact h6 j hj
   unfold Ru
   rw[e]
   simp[h4]
 |false=>
  rw[cond_false]
  have hany:=ly (λe:Entr=>e.ip==ip) v
  rw[hf]at hany
  have hsub:∀x∈(bif ((v.length:Int)==4)then v.take (s9 v).toNat++v.drop ((s9 v).toNat+1)else v),(x.ip==ip)=false:=by
   intro x hx
   have hv:x∈v:=by
    cases h4:((v.length:Int)==4)with
    |false=>rw[h4]at hx;exact hx
    |true=>
     rw[h4,cond_true,List.mem_append]at hx
     exact hx.elim List.mem_of_mem_take List.mem_of_mem_drop
   have:=(List.any_eq_false.1 hany.symm) x hv
   simpa using this
  generalize(bif ((v.length:Int)==4)then v.take (s9 v).toNat++v.drop ((s9 v).toNat+1)else v)=w at hsub
  unfold Ru
  rw[List.findIdx?_append,List.findIdx?_eq_none_iff.2 (by simpa using hsub)]
  simp
theorem ZC (a:Int)(h0:0≤a)(h1:a≤255):bits .and .i64 a 63=a.tmod 64:=by
 obtain⟨x,rfl⟩:=Int.eq_ofNat_of_zero_le h0
 have key:∀y:Fin 256,bits .and .i64 ((y.val:Nat):Int) 63=((y.val:Nat):Int).tmod 64:=by decide+kernel
 exact key ⟨x,by omega⟩
theorem MY (v:ac)(hv:v.length≤4294967296):lc.f (v,())=jE.f (v,()):=by
 rw[Eu v hv,tQ v hv]
theorem sT (s:ac)(a b:Int)(hs:s.length≤4294967276):hZ.f (s,a,b,())=bh.f (s,a,b,()):=by
 by_cases h:s.length<20
 ·simp only[PX,hZ,bh,decide_eq_true (show(s.length:Int)<20 by omega),cond_true]
 ·have pE:s.length≤4294967296:=by omega
  have w1:=bJ s 0 2 (by omega) (by omega) (by omega) pE
  have w2:=bJ s 2 2 (by omega) (by omega) (by omega) pE
  have w3:=bJ s 4 4 (by omega) (by omega) (by omega) pE
  have w4:=bJ s 8 4 (by omega) (by omega) (by omega) pE
  have w5:=bJ s 14 2 (by omega) (by omega) (by omega) pE
  have v1:=bt s 0 2 (by omega) (by omega) (by omega) pE
  have v2:=bt s 2 2 (by omega) (by omega) (by omega) pE
  have v3:=bt s 4 4 (by omega) (by omega) (by omega) pE
  have v4:=bt s 8 4 (by omega) (by omega) (by omega) pE
  have v5:=bt s 14 2 (by omega) (by omega) (by omega) pE
  simp only[Int.ofNat_zero,Int.cast_ofNat_Int]at w1 w2 w3 w4 w5 v1 v2 v3 v4 v5
  have b13:=gV s 13
  have e13:=ZC (ae s 13) b13.1 b13.2
  have hph:=aaf a b (s.length:Int)
  have hq:=IK (bA.f (a,b,(s.length:Int),())++s) (by rw[List.length_append];omega)
  simp only[PX,hZ,bh,decide_eq_false (show¬(s.length:Int)<20 by omega),cond_false,w1,w2,w3,w4,w5,v1,v2,v3,v4,v5,FD,e13,BK,bK,hq,pf]
  generalize IntKind.wrap .i64 ((IntKind.wrap .i64 ((ae s 12).tdiv 16))*4)=n
  rw[MY _ (by rw[List.length_drop,List.length_take];omega)]
  rw[show(!(decide (20≤n)&&decide (n≤(s.length:Int))))=(decide (n<20)||decide ((s.length:Int)<n)) by rw[Bool.eq_iff_iff];simp<;>omega]
  cases decide (n<20)<;>cases decide ((s.length:Int)<n)<;>rfl
theorem F7 (l:Link):lZ.f (l,())=l:=by simp only[PX,lZ,gU]
theorem Y8 (l:Link):qw.f (l,())=l:=by simp only[PX,qw,List.nil_append]
theorem abz (f:Fram)(m:Int):HU.f (f,m,())=sA.f (f,m,()):=by simp only[PX,HU,sA]
theorem yv (s:ac):(eh s).1.body.length≤s.length:=by
 unfold eh
 split
 ·simp
 ·cases d6.f (⟨gw s 0 6,gw s 6 6,gw s 12 2,s.drop 14⟩,())<;>simp
theorem LR (l:Link)(raw:ac)(hs:raw.length≤4294967296):tT.f (l,raw,())=bH.f (l,raw,()):=by
 have hb:=yv raw
 simp only[PX,tT,bH,JT,F7,Y8,abz,ro raw hs,xz raw hs,J8,Qx,Cu,VD,OB,xv]
 generalize eh raw=F at hb
 rw[P1 F.1.body (by omega),CS F.1.body (by omega),vz F.1.body (by omega),wg F.1.body (by omega)]
 generalize Pd F.1.body=A
 generalize nD F.1.body=P
 cases(bif !dP.f (l,())then(true,())else bif !F.2 then(true,())else(!sA.f (F.1,l.mac,()),())).1 with
 |true=>rfl
 |false=>
  simp only[cond_false]
  cases(F.1.type==2054)with
  |true=>
   simp only[cond_true]
   cases(bif !A.2 then(true,())else(A.1.dstIp != l.ip,())).1 with
   |true=>rfl
   |false=>cases(oa.f (A.1,l.mac,l.ip,())).2<;>rfl
  |false=>
   simp only[cond_false,bne]
   cases(F.1.type==2048)<;>rfl
structure Pkt (l:Link)(raw:ac)(k:Link)(p:Pack):Prop where
 hF:(eh raw).2=true
 hM:sA.f ((eh raw).1,l.mac,())=true
 hP:nD (eh raw).1.body=(p,0)
 hD:p.dst=l.ip
 hT:p.proto=6
 hS:p.src≠l.ip
 hK:k={l with cache:=rt l.cache p.src (eh raw).1.src}
theorem vk (l:Link)(raw:ac)(hs:raw.length≤4294967296):∃(k:Link) (n:Int) (p:Pack) (t:ac),bH.f (l,raw,())=(k,n,p,t)∧((k=l∧n=0∧p=zP)∨(∃ip hw,k={l with cache:=rt l.cache ip hw}∧(n=0∨n=1)∧p=zP)∨(n=2∧Pkt l raw k p)):=by
 obtain⟨r,hr⟩:∃r,bH.f (l,raw,())=r:=⟨_,rfl⟩
 refine⟨r.1,r.2.1,r.2.2.1,r.2.2.2,hr, ?_⟩
 have hb:=yv raw
 simp only[PX,bH,F7,xz raw hs,Cu]at hr
 rw[CS _ (by omega),wg _ (by omega)]at hr
 generalize Pd (eh raw).1.body=A at hr
 rcases Bool.eq_false_or_eq_true (bif !dP.f (l,())then(true,())else bif !(eh raw).2 then(true,())else(!sA.f ((eh raw).1,l.mac,()),())).1 with hc|hc
 ·rw[hc,cond_true]at hr;subst hr;exact .inl ⟨rfl,rfl,rfl⟩
 rw[hc,cond_false]at hr
 rcases Bool.eq_false_or_eq_true (((eh raw).1).type==2054)with h1|h1
 ·rw[h1,cond_true]at hr
  rcases Bool.eq_false_or_eq_true (bif !A.2 then(true,())else(A.1.dstIp != l.ip,())).1 with h2|h2
  ·rw[h2,cond_true]at hr;subst hr;exact .inl ⟨rfl,rfl,rfl⟩
  rw[h2,cond_false]at hr
  rcases Bool.eq_false_or_eq_true (oa.f (A.1,l.mac,l.ip,())).2 with h3|h3
  ·rw[h3,cond_true]at hr;subst hr;exact .inr (.inl ⟨_,_,rfl,.inr rfl,rfl⟩)
  ·rw[h3,cond_false]at hr;subst hr;exact .inr (.inl ⟨_,_,rfl,.inl rfl,rfl⟩)
 rw[h1,cond_false]at hr
 rcases Bool.eq_false_or_eq_true (((eh raw).1).type==2048)with h2|h2
 case inr=>rw[h2,cond_false]at hr;subst hr;exact .inl ⟨rfl,rfl,rfl⟩
 rw[h2,cond_true]at hr
 rcases Bool.eq_false_or_eq_true (bif (nD (eh raw).1.body).2 != 0 then(true,())else bif (nD (eh raw).1.body).1.dst != l.ip then(true,())else bif (nD (eh raw).1.body).1.proto != 6 then(true,())else((nD (eh raw).1.body).1.src==l.ip,())).1 with hP|hP
 ·rw[hP,cond_true]at hr;subst hr;exact .inl ⟨rfl,rfl,rfl⟩
 rw[hP,cond_false]at hr
 subst hr
 refine .inr (.inr ⟨rfl, ?_⟩)
 revert hP hc
 cases dP.f (l,())<;>cases h1:(eh raw).2<;>cases h2:sA.f ((eh raw).1,l.mac,())<;>intro hc<;>try (cases hc)
 cases h3:((nD (eh raw).1.body).2 != 0)<;>cases h4:((nD (eh raw).1.body).1.dst != l.ip)<;>cases h5:((nD (eh raw).1.body).1.proto != 6)<;>cases h6:((nD (eh raw).1.body).1.src==l.ip)<;>intro hP<;>try (cases hP)
 simp at h3 h4 h5 h6
 exact⟨h1,h2,by rw[←h3],h4,h5,h6,rfl⟩
theorem Co (l:Link)(ip hw:Int)(h:dP.f (l,())=true):dP.f (({l with cache:=rt l.cache ip hw}:Link),())=true:=by
 obtain⟨h1,h2,h3,h4⟩:=(rE l).1 h
 refine(rE _).2 ⟨h1,h2,h3, ?_⟩
 show EO (rt l.cache ip hw)
 unfold rt
 cases hc:(gJ.f (l.cache,())&&(aa.f (ip,32,())&&aa.f (hw,48,())))with
 |false=>exact h4
 |true=>
  simp only[Bool.and_eq_true]at hc
  exact ZF _ _ _ h4 hc.2.1 hc.2.2
theorem NQ (s:ac):(nD s).1.body.length≤s.length-20:=by
 unfold nD
 by_cases h:s.length<20
 ·rw[decide_eq_true h];exact Nat.zero_le _
 ·rw[decide_eq_false h]
  cases(ae s 0 != 69)
  case true=>exact Nat.zero_le _
  cases(!fF.f (s.take 20,()))
  case true=>exact Nat.zero_le _
  cases(decide (gw s 2 2<20)||(decide ((s.length:Int)<gw s 2 2)||decide (1500<gw s 2 2)))
  case true=>exact Nat.zero_le _
  cases(!(gw s 6 2==0||gw s 6 2==16384))
  case true=>exact Nat.zero_le _
  cases(ae s 8==0)
  case true=>exact Nat.zero_le _
  simp only[cond_false,List.length_drop,List.length_take]
  omega
def kW (s:Stac)(raw:ac):Stac×List ac×Int:=
 bif !d5.f (s,())then(s,[],0)else
 bif (bH.f (s.link,raw,())).2.1==1 then(⟨(bH.f (s.link,raw,())).1,s.door⟩,[(bH.f (s.link,raw,())).2.2.2],0)else
 bif (bH.f (s.link,raw,())).2.1 != 2 then(⟨(bH.f (s.link,raw,())).1,s.door⟩,[],0)else
 bif !(bh.f ((bH.f (s.link,raw,())).2.2.1.body,(bH.f (s.link,raw,())).2.2.1.src,(bH.f (s.link,raw,())).2.2.1.dst,())).2 then(⟨(bH.f (s.link,raw,())).1,s.door⟩,[],0)else
 (⟨(bH.f (s.link,raw,())).1,(MA s.door (bH.f (s.link,raw,())).2.2.1.src (bh.f ((bH.f (s.link,raw,())).2.2.1.body,(bH.f (s.link,raw,())).2.2.1.src,(bH.f (s.link,raw,())).2.2.1.dst,())).1).1⟩,
  (MA s.door (bH.f (s.link,raw,())).2.2.1.src (bh.f ((bH.f (s.link,raw,())).2.2.1.body,(bH.f (s.link,raw,())).2.2.1.src,(bH.f (s.link,raw,())).2.2.1.dst,())).1).2.1.flatMap (zq (bH.f (s.link,raw,())).1 (bH.f (s.link,raw,())).2.2.1.src),
  (MA s.door (bH.f (s.link,raw,())).2.2.1.src (bh.f ((bH.f (s.link,raw,())).2.2.1.body,(bH.f (s.link,raw,())).2.2.1.src,(bH.f (s.link,raw,())).2.2.1.dst,())).1).2.2)
theorem C9 (s:Stac)(raw:ac)(hs:kX s.door)(hl:s.door.halves.length≤4294967296):tZ.f (s,raw,())=kW s raw:=by
 simp only[PX,tZ,PR,Pu,kW]
 rw[W5 _ _ _ hs hl]
theorem Cp (s:Stac)(raw:ac)(hr:raw.length≤4294967296)(hs:kX s.door)(hl:s.door.halves.length≤4294967296):qx.f (s,raw,())=kW s raw:=by
 rcases Bool.eq_false_or_eq_true (d5.f (s,()))with h|h
 case inr=>simp only[PX,qx,NR,yw s hs,h,Bool.not_false,cond_true,kW]
 have hD:=(uP _).1 ((iT s).1 h).2
 obtain⟨k,n,p,t,e,hc⟩:=vk s.link raw hr
 have hp:p.body.length≤4294967276:=by
  rcases hc with⟨_,_,rfl⟩|⟨_,_,_,_,rfl⟩|⟨_,hk⟩
  ·exact Nat.zero_le _
  ·exact Nat.zero_le _
  ·have h1:=NQ (eh raw).1.body
   have h2:=yv raw
   rw[hk.hP]at h1
   simp only[]at h1
   omega
 have hg:=sT p.body p.src p.dst hp
 have hso:=Wm s.door p.src (bh.f (p.body,p.src,p.dst,())).1 hs hD
 have hse:=V6 s.door p.src (bh.f (p.body,p.src,p.dst,())).1 hs hl
 simp only[PX,qx,NR,yw s hs,h,Bool.not_true,cond_false,kW,LR s.link raw hr,e,hg,hse]
 rw[PK _ _ _ hso.2]
 cases(n==1)with
 |true=>rfl
 |false=>
  simp only[cond_false]
  cases(n != 2)with
  |true=>rfl
  |false=>rfl
theorem Nx (s:Stac)(raw:ac)(hr:raw.length≤4294967296)(hs:kX s.door)(h:d5.f (s,())=true):d5.f ((kW s raw).1,())=true:=by
 obtain⟨h1,h2⟩:=(iT s).1 h
 have hD:=(uP _).1 h2
 obtain⟨k,n,p,t,e,hc⟩:=vk s.link raw hr
 have hk:dP.f (k,())=true:=by
  rcases hc with⟨rfl,_⟩|⟨_,_,rfl,_⟩|⟨_,hk⟩
  ·exact h1
  ·exact Co _ _ _ h1
  ·rw[hk.hK];exact Co _ _ _ h1
 have hso:=Wm s.door p.src (bh.f (p.body,p.src,p.dst,())).1 hs hD
 simp only[kW,h,Bool.not_true,cond_false,e]
 cases(n==1)with
 |true=>exact(iT _).2 ⟨hk,h2⟩
 |false=>
  cases(n != 2)with
  |true=>exact(iT _).2 ⟨hk,h2⟩
  |false=>
   cases(bh.f (p.body,p.src,p.dst,())).2 with
   |false=>exact(iT _).2 ⟨hk,h2⟩
   |true=>exact(iT _).2 ⟨hk,(uP _).2 hso.1⟩
theorem H7 (l:Link):uv.f (l,l,())=true:=by
 simp only[PX,uv,sW,di,beq_self_eq_true,bne_self_eq_false,cond_false,cond_true]
 rw[fW _ _ λj=>by simp only[PX,rf,beq_self_eq_true,Bool.and_self,Bool.not_true,cond_false]]
 rfl
theorem Hn (s:Stac):sQ.f (s,s,())=true:=by
 simp only[PX,sQ,H7,KZ,cond_true]
set_option maxHeartbeats 2000000 in theorem Ur (x:List Int):lY.f (x,())=true:=by
 rcases Bool.eq_false_or_eq_true (CH.f (x,()))with hb|hb
 ·simp only[FX.f,PX,lY,hb,cond_true]
 have hx:=Xh x hb
 have hd:=gY.c.h (x,()) ⟨by simp only[sS];omega,hx⟩
 simp only[PX]at hd
 obtain⟨⟨s,raw⟩,hz⟩:∃z,gY.f (x,())=z:=⟨_,rfl⟩
 rw[hz]at hd
 have hs:kX s.door:=Oz hd.1.2
 have hl:s.door.halves.length≤4294967296:=by
  have:=hd.1.2
  grind
 have hr:raw.length≤4294967296:=hd.2
 have hq:=yw s hs
 have h1:=C9 s raw hs hl
 have h2:=Cp s raw hr hs hl
 have hS:=Nx s raw hr hs
 have hL:=LR s.link raw hr
 obtain⟨k,n,p,t,e,hc⟩:=vk s.link raw hr
 have hp:p.body.length≤4294967276:=by
  rcases hc with⟨_,_,rfl⟩|⟨_,_,_,_,rfl⟩|⟨_,hk⟩
  ·exact Nat.zero_le _
  ·exact Nat.zero_le _
  ·have h1:=NQ (eh raw).1.body
   have h2:=yv raw
   rw[hk.hP]at h1
   simp only[]at h1
   omega
 have hg:=sT p.body p.src p.dst hp
 rcases Bool.eq_false_or_eq_true (d5.f (s,()))with h|h
 ·have h3:=hS h
  have hcase:((n != 2)=true∨(bh.f (p.body,p.src,p.dst,())).2=false)→(kW s raw).1.door=s.door∧(((((kW s raw).2.1.length:Int)==0))=true∨(n==1)=true):=by
   intro hh
   simp only[kW,h,Bool.not_true,cond_false,e]
   cases h5:(n==1)with
   |true=>exact⟨rfl,.inr rfl⟩
   |false=>
    cases h6:(n != 2)with
    |true=>exact⟨rfl,.inl rfl⟩
    |false=>
     rw[h6]at hh
     have h7:=hh.resolve_left (by simp)
     rw[h7]
     exact⟨rfl,.inl rfl⟩
  generalize hy:kW s raw=y at h1 h2 h3 hcase
  simp only[FX.f,PX,lY,hb,cond_false,hz,h1,h2,xB,np,hq,h,h3,hL,e,hg,Hn,bne_self_eq_false,beq_self_eq_true,Bool.not_true,cond_true]
  cases h6:(n != 2)with
  |true=>
   obtain⟨c1,c2⟩:=hcase (.inl h6)
   rw[c1]
   simp only[tg,cond_true]
   rcases c2 with c2|c2
   ·rw[c2];rfl
   ·cases((y.2.1.length:Int)==0)with
    |true=>rfl
    |false=>rw[c2];rfl
  |false=>
   cases h7:(bh.f (p.body,p.src,p.dst,())).2 with
   |true=>rfl
   |false=>
    obtain⟨c1,c2⟩:=hcase (.inr h7)
    rw[c1]
    simp only[tg,cond_true,cond_false,Bool.not_false]
    rcases c2 with c2|c2
    ·rw[c2];rfl
    ·cases((y.2.1.length:Int)==0)with
     |true=>rfl
     |false=>rw[c2];rfl
 ·have h3:kW s raw=(s,[],0):=by simp only[kW,h,Bool.not_false,cond_true]
  rw[h3]at h1 h2
  simp only[FX.f,PX,lY,hb,cond_false,hz,h1,h2,xB,np,hq,h,bne_self_eq_false,beq_self_eq_true,Bool.not_true,Bool.not_false,cond_true,List.length_nil,Int.ofNat_zero]
theorem pL (a b c:ac)(p n:Nat)(hp:a.length=p)(hb:b.length=n):gw (a++(b++c)) p n=wz b:=by
 unfold gw
 rw[List.drop_left' hp,List.take_left' hb]
theorem sI (a c:ac)(b:UInt8)(p:Nat)(hp:a.length=p):ae (a++(b::c)) p=(b.toNat:Int):=by
 subst hp
 rw[iM _ _ (by simp)]
 simp
theorem RH (n:Int)(h0:0≤n)(h1:n≤255):aq 1 n=[UInt8.ofNat n.toNat]∧((UInt8.ofNat n.toNat).toNat:Int)=n:=by
 have e:n%256=n:=by omega
 refine⟨by simp only[aq,e,List.nil_append], ?_⟩
 have:=Bs n
 rwa [e]at this
theorem ZS (n:Int)(h0:0≤n)(h1:n≤65535):ws false (aq 2 n)=n:=by
 have a:=Bs n
 have b:=Bs (n/256)
 simp only[aq,List.nil_append,List.cons_append,ws]
 omega
theorem w48 {n:Int}(h:aa.f (n,48,())=true):0≤n∧n<256 ^ 6:=by
 rw[E0]at h
 simp at h
 omega
theorem w32 {n:Int}(h:aa.f (n,32,())=true):0≤n∧n<256 ^ 4:=by
 rw[bz]at h
 simp at h
 omega
theorem w16 {n:Int}(h:aa.f (n,16,())=true):0≤n∧n<256 ^ 2:=by
 rw[bx]at h
 simp at h
 omega
theorem w8 {n:Int}(h:aa.f (n,8,())=true):0≤n∧n≤255:=by
 rw[lM]at h
 simp at h
 omega
theorem Vs (f:Fram)(h:d6.f (f,())=true):eh (dB.f (f,()))=(f,true):=by
 obtain⟨h1,h2,h3,h4,h5⟩:=(sK f).1 h
 rw[xN f h]
 have g0:gw (aq 6 f.dst++aq 6 f.src++aq 2 f.type++f.body) 0 6=f.dst:=by
  rw[show aq 6 f.dst++aq 6 f.src++aq 2 f.type++f.body=[]++(aq 6 f.dst++(aq 6 f.src++(aq 2 f.type++f.body))) by simp,pL _ _ _ 0 6 rfl (aI 6 _),dZ 6 _ (w48 h1).1 (w48 h1).2]
 have g1:gw (aq 6 f.dst++aq 6 f.src++aq 2 f.type++f.body) 6 6=f.src:=by
  rw[show aq 6 f.dst++aq 6 f.src++aq 2 f.type++f.body=aq 6 f.dst++(aq 6 f.src++(aq 2 f.type++f.body)) by simp,pL _ _ _ 6 6 (aI 6 _) (aI 6 _),dZ 6 _ (w48 h2).1 (w48 h2).2]
 have g2:gw (aq 6 f.dst++aq 6 f.src++aq 2 f.type++f.body) 12 2=f.type:=by
  rw[show aq 6 f.dst++aq 6 f.src++aq 2 f.type++f.body=(aq 6 f.dst++aq 6 f.src)++(aq 2 f.type++f.body) by simp,pL _ _ _ 12 2 (by simp[aI]) (aI 2 _),dZ 2 _ (by omega) (by omega)]
 have g3:(aq 6 f.dst++aq 6 f.src++aq 2 f.type++f.body).drop 14=f.body:=List.drop_left' (by simp[aI])
 unfold eh
 rw[if_neg (by simp[aI];omega),g0,g1,g2,g3]
 rw[show(⟨f.dst,f.src,f.type,f.body⟩:Fram)=f from rfl,h,cond_true]
theorem GC (p:Pack)(h:hY.f (p,())=true):fN.f (p,())=(([69,0]++aq 2 (20+(p.body.length:Int))++aq 2 p.id++[0,0]++aq 1 p.ttl++aq 1 p.proto)++aq 2 (iq.f ((([69,0]++aq 2 (20+(p.body.length:Int))++aq 2 p.id++[0,0]++aq 1 p.ttl++aq 1 p.proto)++[0,0])++(aq 4 p.src++aq 4 p.dst),()))++(aq 4 p.src++aq 4 p.dst))++p.body:=by
 obtain⟨hs,hd,t1,t2,hp,hi,hb⟩:=mA p h
 have w:IntKind.wrap .i64 (20+(p.body.length:Int))=20+(p.body.length:Int):=ar (by omega) (by omega)
 have l1:=aL (20+(p.body.length:Int)) 2 (by omega) (by omega) (by rw[show(8:Int)*2=16 from rfl,bx];simp;omega)
 have l2:=aL p.id 2 (by omega) (by omega) hi
 have l3:=aL p.ttl 1 (by omega) (by omega) (by rw[show(8:Int)*1=8 from rfl,lM];simp;omega)
 have l4:=aL p.proto 1 (by omega) (by omega) hp
 have l5:=aL p.src 4 (by omega) (by omega) hs
 have l6:=aL p.dst 4 (by omega) (by omega) hd
 simp only[PX,fN,h,w,l1,l2,l3,l4,l5,l6,Bool.not_true,cond_false]
 rw[show Int.toNat 2=2 from rfl,show Int.toNat 1=1 from rfl,show Int.toNat 4=4 from rfl]
 have hl:((([69,0]++aq 2 (20+(p.body.length:Int))++aq 2 p.id++[0,0]++aq 1 p.ttl++aq 1 p.proto)++[0,0])++(aq 4 p.src++aq 4 p.dst)).length≤4294967296:=by simp[aI]
 generalize hW:((([69,0]++aq 2 (20+(p.body.length:Int))++aq 2 p.id++[0,0]++aq 1 p.ttl++aq 1 p.proto)++[0,0])++(aq 4 p.src++aq 4 p.dst))=W at hl⊢
 have hc:=uw W hl
 have hf:=yN _ (DW false W).1
 rw[aL _ 2 (by omega) (by omega) (by rw[show(8:Int)*2=16 from rfl,bx,hc];simp;omega)]
 rfl
theorem Xf (a b:ac)(n:Nat)(h:a.length=2*n)(hl:(a++(aq 2 (iq.f (a++([0,0]++b),()))++b)).length≤4294967296):fF.f (a++(aq 2 (iq.f (a++([0,0]++b),()))++b),())=true:=by
 have hl2:(a++([0,0]++b)).length≤4294967296:=by simp[aI]at hl⊢;omega
 rw[MG _ hl,xw n _ _ h,xw 1 _ _ (aI 2 _),uw _ hl2]
 have hf:=yN _ (DW false (a++([0,0]++b))).1
 rw[ZS _ (by omega) (by omega)]
 have e:ws false (a++([0,0]++b))=ws false a+ws false b:=by
  rw[xw n _ _ h,xw 1 _ _ rfl];simp[ws]
 rw[e]at hf⊢
 rw[show ws false a+(65535-pN (ws false a+ws false b)+ws false b)=(ws false a+ws false b)+(65535-pN (ws false a+ws false b)) by omega,hf.1]
 rfl
set_option maxHeartbeats 1000000 in theorem VG (p:Pack)(h:hY.f (p,())=true):nD (fN.f (p,()))=(p,0):=by
 obtain⟨hs,hd,t1,t2,hp,hi,hb⟩:=mA p h
 rw[GC p h]
 have hT:=RH p.ttl (by omega) t2
 have hP:=RH p.proto (w8 hp).1 (w8 hp).2
 generalize hc:aq 2 (iq.f ((([69,0]++aq 2 (20+(p.body.length:Int))++aq 2 p.id++[0,0]++aq 1 p.ttl++aq 1 p.proto)++[0,0])++(aq 4 p.src++aq 4 p.dst),()))=c
 have hcl:c.length=2:=by rw[←hc];exact aI 2 _
 generalize hx:([69,0]++aq 2 (20+(p.body.length:Int))++aq 2 p.id++[0,0]++aq 1 p.ttl++aq 1 p.proto)++c++(aq 4 p.src++aq 4 p.dst)++p.body=T
 have hlen:T.length=20+p.body.length:=by rw[←hx];simp[aI,hcl];omega
 have q0:ae T 0=69:=by rw[←hx];rfl
 have q2:gw T 2 2=20+(p.body.length:Int):=by
  rw[←hx,show([69,0]++aq 2 (20+(p.body.length:Int))++aq 2 p.id++[0,0]++aq 1 p.ttl++aq 1 p.proto)++c++(aq 4 p.src++aq 4 p.dst)++p.body=[69,0]++(aq 2 (20+(p.body.length:Int))++(aq 2 p.id++[0,0]++aq 1 p.ttl++aq 1 p.proto++c++(aq 4 p.src++aq 4 p.dst)++p.body)) by simp,pL _ _ _ 2 2 rfl (aI 2 _),dZ 2 _ (by omega) (by omega)]
 have q4:gw T 4 2=p.id:=by
  rw[←hx,show([69,0]++aq 2 (20+(p.body.length:Int))++aq 2 p.id++[0,0]++aq 1 p.ttl++aq 1 p.proto)++c++(aq 4 p.src++aq 4 p.dst)++p.body=([69,0]++aq 2 (20+(p.body.length:Int)))++(aq 2 p.id++([0,0]++aq 1 p.ttl++aq 1 p.proto++c++(aq 4 p.src++aq 4 p.dst)++p.body)) by simp,pL _ _ _ 4 2 (by simp[aI]) (aI 2 _),dZ 2 _ (w16 hi).1 (w16 hi).2]
 have q6:gw T 6 2=0:=by
  rw[←hx,show([69,0]++aq 2 (20+(p.body.length:Int))++aq 2 p.id++[0,0]++aq 1 p.ttl++aq 1 p.proto)++c++(aq 4 p.src++aq 4 p.dst)++p.body=([69,0]++aq 2 (20+(p.body.length:Int))++aq 2 p.id)++([0,0]++(aq 1 p.ttl++aq 1 p.proto++c++(aq 4 p.src++aq 4 p.dst)++p.body)) by simp,pL _ _ _ 6 2 (by simp[aI]) rfl]
  rfl
 have q8:ae T 8=p.ttl:=by
  rw[←hx,hT.1,show([69,0]++aq 2 (20+(p.body.length:Int))++aq 2 p.id++[0,0]++[UInt8.ofNat p.ttl.toNat]++aq 1 p.proto)++c++(aq 4 p.src++aq 4 p.dst)++p.body=([69,0]++aq 2 (20+(p.body.length:Int))++aq 2 p.id++[0,0])++(UInt8.ofNat p.ttl.toNat::(aq 1 p.proto++c++(aq 4 p.src++aq 4 p.dst)++p.body)) by simp,sI _ _ _ 8 (by simp[aI]),hT.2]
 have q9:ae T 9=p.proto:=by
  rw[←hx,hP.1,show([69,0]++aq 2 (20+(p.body.length:Int))++aq 2 p.id++[0,0]++aq 1 p.ttl++[UInt8.ofNat p.proto.toNat])++c++(aq 4 p.src++aq 4 p.dst)++p.body=([69,0]++aq 2 (20+(p.body.length:Int))++aq 2 p.id++[0,0]++aq 1 p.ttl)++(UInt8.ofNat p.proto.toNat::(c++(aq 4 p.src++aq 4 p.dst)++p.body)) by simp,sI _ _ _ 9 (by simp[aI]),hP.2]
 have q12:gw T 12 4=p.src:=by
  rw[←hx,show([69,0]++aq 2 (20+(p.body.length:Int))++aq 2 p.id++[0,0]++aq 1 p.ttl++aq 1 p.proto)++c++(aq 4 p.src++aq 4 p.dst)++p.body=([69,0]++aq 2 (20+(p.body.length:Int))++aq 2 p.id++[0,0]++aq 1 p.ttl++aq 1 p.proto++c)++(aq 4 p.src++(aq 4 p.dst++p.body)) by simp,pL _ _ _ 12 4 (by simp[aI,hcl]) (aI 4 _),dZ 4 _ (w32 hs).1 (w32 hs).2]
 have q16:gw T 16 4=p.dst:=by
  rw[←hx,show([69,0]++aq 2 (20+(p.body.length:Int))++aq 2 p.id++[0,0]++aq 1 p.ttl++aq 1 p.proto)++c++(aq 4 p.src++aq 4 p.dst)++p.body=([69,0]++aq 2 (20+(p.body.length:Int))++aq 2 p.id++[0,0]++aq 1 p.ttl++aq 1 p.proto++c++aq 4 p.src)++(aq 4 p.dst++p.body) by simp,pL _ _ _ 16 4 (by simp[aI,hcl]) (aI 4 _),dZ 4 _ (w32 hd).1 (w32 hd).2]
 have q20:T.take 20=([69,0]++aq 2 (20+(p.body.length:Int))++aq 2 p.id++[0,0]++aq 1 p.ttl++aq 1 p.proto)++c++(aq 4 p.src++aq 4 p.dst):=by
  rw[←hx,List.take_left' (by simp[aI,hcl])]
 have qb:(T.take (20+(p.body.length:Int)).toNat).drop 20=p.body:=by
  rw[List.take_of_length_le (by omega),←hx,List.drop_left' (by simp[aI,hcl])]
 have qs:fF.f (T.take 20,())=true:=by
  rw[q20,←hc]
  have:=Xf ([69,0]++aq 2 (20+(p.body.length:Int))++aq 2 p.id++[0,0]++aq 1 p.ttl++aq 1 p.proto) (aq 4 p.src++aq 4 p.dst) 5 (by simp[aI]) (by simp[aI])
  simp only[List.append_assoc]at this⊢
  exact this
 simp only[nD,hlen,q0,q2,q4,q6,q8,q9,q12,q16,qb,qs]
 rw[decide_eq_false (by omega),decide_eq_false (by omega),decide_eq_false (by omega),decide_eq_false (by omega),show(p.ttl==0)=false by simp;omega]
 rfl
theorem adf:∀(m:Nat) (a:ac),(4-a.length%4)%4<m→bI (λa=>(er a).nice) m a=a++List.replicate ((4-a.length%4)%4) 1
 |0,_,h=>absurd h (Nat.not_lt_zero _)
 |m+1,a,h=>by
  simp only[bI]
  by_cases c:a.length%4=0
  ·have e:(((a.length:Int).tmod 4) != 0)=false:=by
    rw[Int.tmod_eq_emod_of_nonneg (by omega)];simp;omega
   simp only[PX,er,e,cond_false,Stp.elim]
   rw[show(4-a.length%4)%4=0 by omega];simp
  ·have e:(((a.length:Int).tmod 4) != 0)=true:=by
    rw[Int.tmod_eq_emod_of_nonneg (by omega)];simp;omega
   have ih:=adf m (a++[1]) (by simp;omega)
   simp only[PX,er]at ih
   simp only[PX,er,e,cond_true,Stp.elim]
   rw[ih,List.append_assoc]
   congr 1
   rw[show(4-a.length%4)%4=(4-(a++[1]).length%4)%4+1 by simp;omega,List.replicate_succ]
   rfl
def U3 (o:Opti):ac:=bif o.mss != 0 then[2,4]++aq 2 o.mss else[]
def U5 (o:Opti):ac:=bif o.scale != -1 then[3,3]++aq 1 o.scale else[]
def U1 (o:Opti):ac:=bif o.sack then[4,2]else[]
def U4 (o:Opti):ac:=bif o.stamp then[8,10]++(aq 4 o.val++aq 4 o.echo)else[]
def Wn (o:Opti):ac:=U3 o++(U5 o++(U1 o++U4 o))
theorem lE (o:Opti)(h:az.f (o,())=true):(0≤o.mss∧o.mss≤65535)∧(-1≤o.scale∧o.scale≤14)∧(0≤o.val∧o.val≤4294967295)∧(0≤o.echo∧o.echo≤4294967295)∧(o.stamp=false→o.val=0∧o.echo=0):=by
 simp only[PX,az,aw,bx,bz]at h
 revert h
 cases o.stamp<;>cases hv:(o.val != 0)<;>cases he:(o.echo != 0)<;>simp at hv he⊢<;>omega
theorem t8 (o:Opti)(h:az.f (o,())=true):aM.f (o,())=Wn o++List.replicate ((4-(Wn o).length%4)%4) 1:=by
 obtain⟨h1,h2,h3,h4,h5⟩:=lE o h
 have p1:=aL o.mss 2 (by omega) (by omega) (by rw[show(8:Int)*2=16 from rfl,bx];simp;omega)
 have p2:ay.f (o.scale,1,())=bif o.scale != -1 then aq 1 o.scale else[]:=by
  cases hh:(o.scale != -1)with
  |true=>exact aL o.scale 1 (by omega) (by omega) (by rw[show(8:Int)*1=8 from rfl,lM];simp at hh⊢;omega)
  |false=>exact EF o.scale 1 (by omega) (by omega) (by rw[show(8:Int)*1=8 from rfl,lM];simp at hh⊢;omega)
 have p3:=aL o.val 4 (by omega) (by omega) (by rw[show(8:Int)*4=32 from rfl,bz];simp;omega)
 have p4:=aL o.echo 4 (by omega) (by omega) (by rw[show(8:Int)*4=32 from rfl,bz];simp;omega)
 simp only[PX,aM,h,p1,p2,p3,p4,Bool.not_true,cond_false,cE,Wn,U3,U5,U1,U4]
 cases h1:(o.mss != 0)<;>cases h2:(o.scale != -1)<;>cases h3:o.sack<;>cases h4:o.stamp<;>simp only[h2,h3,h4,p2,p3,p4,cond_true,cond_false,List.nil_append,List.append_nil]<;>refine(adf _ _ (Nat.lt_succ_self _)).trans ?_ <;>first|rfl|(simp only[List.append_assoc];rfl)
theorem Zi (v:ac)(p:Nat)(o:Opti)(h:v.length≤p):th v ((p:Int),o)=(o,true):=by
 rw[Du v _ (by simp)]
 simp only[cT,decide_eq_false (show¬(p:Int)<(v.length:Int) by omega),Bool.not_false,cond_true,Stp.elim]
theorem aaj (v:ac)(p:Nat)(o:Opti)(h:p<v.length)(h1:ae v p=1):th v ((p:Int),o)=th v (((p+1:Nat):Int),o):=by
 rw[Du v _ (by simp)]
 simp only[cT,ah,h1,decide_eq_true (show(p:Int)<(v.length:Int) by omega),Bool.not_true,cond_false,show((1:Int)==0)=false from rfl,beq_self_eq_true,cond_true,Stp.elim]
 rfl
theorem Zt (k:Nat):∀(a:ac) (o:Opti),th (a++List.replicate k 1) ((a.length:Int),o)=(o,true):=by
 induction k with
 |zero=>intro a o;exact Zi _ _ _ (by simp)
 |succ k ih=>
  intro a o
  have e:a++List.replicate (k+1) 1=(a++[1])++List.replicate k 1:=by rw[List.replicate_succ];simp
  have hb:ae (a++List.replicate (k+1) 1) a.length=1:=by
   rw[List.replicate_succ,sI _ _ _ _ rfl];rfl
  rw[aaj _ _ _ (by simp) hb,e]
  have:=ih (a++[1]) o
  rwa [List.length_append]at this
theorem CC (v:ac)(p n:Nat)(o:Opti)(hk:2≤ae v p)(hn:ae v (p+1)=(n:Int))(h2:2≤n)(hl:p+n≤v.length):th v ((p:Int),o)=th v (((p+n:Nat):Int),Mi v p o):=by
 rw[Du v _ (by simp)]
 simp only[cT,ah,hn,decide_eq_true (show(p:Int)<(v.length:Int) by omega),Bool.not_true,cond_false,show(ae v p==0)=false by simp;omega,show(ae v p==1)=false by simp;omega,decide_eq_false (show¬(v.length:Int)≤(p:Int)+1 by omega),decide_eq_false (show¬(n:Int)<2 by omega),decide_eq_false (show¬(v.length:Int)-(p:Int)<(n:Int) by omega),Bool.or_self,Stp.elim]
 rfl
theorem PH (a c:ac)(x y:UInt8)(p:Nat)(hp:a.length=p):ae (a++(x::y::c)) p=(x.toNat:Int)∧ae (a++(x::y::c)) (p+1)=(y.toNat:Int):=by
 refine⟨sI _ _ _ _ hp, ?_⟩
 rw[show a++(x::y::c)=(a++[x])++(y::c) by simp,sI _ _ _ (p+1) (by simp[hp])]
theorem acD (a r:ac)(o q:Opti)(h:az.f (o,())=true)(hq:q.mss=0):th (a++(U3 o++r)) ((a.length:Int),q)=th (a++(U3 o++r)) (((a++U3 o).length:Int),{q with mss:=o.mss}):=by
 obtain⟨h1,h2,h3,h4,h5⟩:=lE o h
 unfold U3
 cases hc:(o.mss != 0)with
 |false=>
  simp at hc
  rw[hc,←hq];simp
 |true=>
  rw[cond_true]
  have hv:a++(([2,4]++aq 2 o.mss)++r)=a++((2:UInt8)::4::(aq 2 o.mss++r)):=by simp
  obtain⟨b0,b1⟩:=PH a (aq 2 o.mss++r) 2 4 a.length rfl
  have hg:gw (a++((2:UInt8)::4::(aq 2 o.mss++r))) (a.length+2) 2=o.mss:=by
   rw[show a++((2:UInt8)::4::(aq 2 o.mss++r))=(a++[2,4])++(aq 2 o.mss++r) by simp,pL _ _ _ _ 2 (by simp) (aI 2 _),dZ 2 _ h1.1 (by omega)]
  rw[hv,CC _ a.length 4 q (by rw[b0];decide) (by rw[b1];rfl) (by omega) (by simp[aI]),List.length_append,List.length_append,aI]
  congr 2
  simp only[Mi,b0,b1,hg]
  rfl
theorem acf (a r:ac)(o q:Opti)(h:az.f (o,())=true)(hq:q.scale= -1):th (a++(U5 o++r)) ((a.length:Int),q)=th (a++(U5 o++r)) (((a++U5 o).length:Int),{q with scale:=o.scale}):=by
 obtain⟨h1,h2,h3,h4,h5⟩:=lE o h
 unfold U5
 cases hc:(o.scale != -1)with
 |false=>
  simp at hc
  rw[hc,←hq];simp
 |true=>
  rw[cond_true]
  simp at hc
  obtain⟨e1,e2⟩:=RH o.scale (by omega) (by omega)
  have hv:a++(([3,3]++aq 1 o.scale)++r)=a++((3:UInt8)::3::(aq 1 o.scale++r)):=by simp
  obtain⟨b0,b1⟩:=PH a (aq 1 o.scale++r) 3 3 a.length rfl
  have hg:ae (a++((3:UInt8)::3::(aq 1 o.scale++r))) (a.length+2)=o.scale:=by
   rw[e1,show a++((3:UInt8)::3::([UInt8.ofNat o.scale.toNat]++r))=(a++[3,3])++(UInt8.ofNat o.scale.toNat::r) by simp,sI _ _ _ _ (by simp),e2]
  rw[hv,CC _ a.length 3 q (by rw[b0];decide) (by rw[b1];rfl) (by omega) (by simp[aI]),List.length_append,List.length_append,aI]
  congr 2
  simp only[Mi,b0,b1,hg]
  rw[if_neg (by omega)]
  rfl
theorem acq (a r:ac)(o q:Opti)(hq:q.sack=false):th (a++(U1 o++r)) ((a.length:Int),q)=th (a++(U1 o++r)) (((a++U1 o).length:Int),{q with sack:=o.sack}):=by
 unfold U1
 cases hc:o.sack with
 |false=>
  obtain⟨q1,q2,q3,q4,q5,q6⟩:=q
  simp only[]at hq
  subst hq
  simp
 |true=>
  rw[cond_true]
  have hv:a++([4,2]++r)=a++((4:UInt8)::2::r):=by simp
  obtain⟨b0,b1⟩:=PH a r 4 2 a.length rfl
  rw[hv,CC _ a.length 2 q (by rw[b0];decide) (by rw[b1];rfl) (by omega) (by simp),List.length_append]
  congr 2
  simp only[Mi,b0,b1]
  rfl
theorem acU (a r:ac)(o q:Opti)(h:az.f (o,())=true)(hq:q.stamp=false∧q.val=0∧q.echo=0):th (a++(U4 o++r)) ((a.length:Int),q)=th (a++(U4 o++r)) (((a++U4 o).length:Int),{q with stamp:=o.stamp,val:=o.val,echo:=o.echo}):=by
 obtain⟨h1,h2,h3,h4,h5⟩:=lE o h
 unfold U4
 cases hc:o.stamp with
 |false=>
  obtain⟨e1,e2⟩:=h5 hc
  rw[e1,e2]
  obtain⟨q1,q2,q3,q4,q5,q6⟩:=q
  obtain⟨k1,k2,k3⟩:=hq
  simp only[]at k1 k2 k3
  subst k1 k2 k3
  simp
 |true=>
  rw[cond_true]
  have hv:a++(([8,10]++(aq 4 o.val++aq 4 o.echo))++r)=a++((8:UInt8)::10::(aq 4 o.val++(aq 4 o.echo++r))):=by simp
  obtain⟨b0,b1⟩:=PH a (aq 4 o.val++(aq 4 o.echo++r)) 8 10 a.length rfl
  have hg:gw (a++((8:UInt8)::10::(aq 4 o.val++(aq 4 o.echo++r)))) (a.length+2) 4=o.val:=by
   rw[show a++((8:UInt8)::10::(aq 4 o.val++(aq 4 o.echo++r)))=(a++[8,10])++(aq 4 o.val++(aq 4 o.echo++r)) by simp,pL _ _ _ _ 4 (by simp) (aI 4 _),dZ 4 _ h3.1 (by omega)]
  have hg2:gw (a++((8:UInt8)::10::(aq 4 o.val++(aq 4 o.echo++r)))) (a.length+6) 4=o.echo:=by
   rw[show a++((8:UInt8)::10::(aq 4 o.val++(aq 4 o.echo++r)))=(a++[8,10]++aq 4 o.val)++(aq 4 o.echo++r) by simp,pL _ _ _ _ 4 (by simp[aI]) (aI 4 _),dZ 4 _ h4.1 (by omega)]
  rw[hv,CC _ a.length 10 q (by rw[b0];decide) (by rw[b1];rfl) (by omega) (by simp[aI];omega),List.length_append,List.length_append,List.length_append,aI,aI]
  congr 2
  simp only[Mi,b0,b1,hg,hg2]
  rfl
theorem DZ (o:Opti)(h:az.f (o,())=true):jE.f (aM.f (o,()),())=(o,true):=by
 have hl:=XA o
 rw[tQ _ (by omega),t8 o h]
 generalize(4-(Wn o).length%4)%4=k
 unfold Wn
 have e0:(U3 o++(U5 o++(U1 o++U4 o)))++List.replicate k 1=[]++(U3 o++(U5 o++(U1 o++(U4 o++List.replicate k 1)))):=by simp
 have e1:[]++(U3 o++(U5 o++(U1 o++(U4 o++List.replicate k 1))))=U3 o++(U5 o++(U1 o++(U4 o++List.replicate k 1))):=by simp
 have e2:U3 o++(U5 o++(U1 o++(U4 o++List.replicate k 1)))=(U3 o++U5 o)++(U1 o++(U4 o++List.replicate k 1)):=by simp
 have e3:(U3 o++U5 o)++(U1 o++(U4 o++List.replicate k 1))=(U3 o++U5 o++U1 o)++(U4 o++List.replicate k 1):=by simp
 have e4:(U3 o++U5 o++U1 o)++(U4 o++List.replicate k 1)=(U3 o++U5 o++U1 o++U4 o)++List.replicate k 1:=by simp
 rw[e0,show((0:Int),rT)=((([]:ac).length:Int),rT) from rfl,acD [] _ o rT h rfl,e1,List.nil_append,acf _ _ o _ h rfl,e2,acq _ _ o _ rfl,e3,acU _ _ o _ h ⟨rfl,rfl,rfl⟩,e4,Zt]
theorem ads (a b n:Int)(ha:aa.f (a,32,())=true)(hb:aa.f (b,32,())=true)(hn:aa.f (n,16,())=true):bA.f (a,b,n,())=aq 4 a++aq 4 b++[0,6]++aq 2 n:=by
 have l1:=aL a 4 (by omega) (by omega) ha
 have l2:=aL b 4 (by omega) (by omega) hb
 have l3:=aL n 2 (by omega) (by omega) hn
 simp only[PX,bA,ha,hb,hn,l1,l2,l3,Bool.not_true,cond_false]
 rfl
theorem aa4 (n:Int):aa.f (n,6,())=(decide (0≤n)&&decide (n≤63)):=Jt n
theorem xb (g:Segm)(h:ak.f (g,())=true):aa.f (g.from_,16,())=true∧aa.f (g.to,16,())=true∧aa.f (g.window,16,())=true∧aa.f (g.seq,32,())=true∧aa.f (g.ack,32,())=true∧(0≤g.flags∧g.flags≤63)∧az.f (g.opts,())=true∧g.body.length≤1420:=by
 have hb:=eL g h
 have h1:=(bv g).1 h
 revert h
 simp only[PX,ak,aa4]
 cases aa.f (g.from_,16,())<;>cases aa.f (g.to,16,())<;>cases aa.f (g.window,16,())<;>cases aa.f (g.seq,32,())<;>cases aa.f (g.ack,32,())<;>cases az.f (g.opts,())<;>simp<;>omega
def mS (g:Segm)(n:Int):ac:=aq 2 g.from_++aq 2 g.to++aq 4 g.seq++aq 4 g.ack++aq 1 n++aq 1 g.flags++aq 2 g.window
theorem qW (g:Segm)(n:Int):(mS g n).length=16:=by simp[mS,aI]
theorem adE (o:Opti)(h:az.f (o,())=true):∃k:Nat,(aM.f (o,())).length=4*k∧k≤5:=by
 have hl:=XA o
 rw[t8 o h]at hl⊢
 refine⟨((Wn o).length+(4-(Wn o).length%4)%4)/4, ?_, ?_⟩
 ·rw[List.length_append,List.length_replicate];omega
 ·rw[List.length_append,List.length_replicate]at hl;omega
theorem DT (g:Segm)(a b:Int)(h:ak.f (g,())=true)(ha:aa.f (a,32,())=true)(hb:aa.f (b,32,())=true)(k:Nat)(hk:(aM.f (g.opts,())).length=4*k)(hk5:k≤5):
  ba.f (g,a,b,())=mS g (((5+k)*16:Nat):Int)++aq 2 (iq.f ((bA.f (a,b,((20+4*k+g.body.length:Nat):Int),())++mS g (((5+k)*16:Nat):Int))++([0,0]++([0,0]++aM.f (g.opts,())++g.body)),()))++([0,0]++aM.f (g.opts,())++g.body):=by
 obtain⟨h1,h2,h3,h4,h5,h6,h7,h8⟩:=xb g h
 have w1:IntKind.wrap .i64 (20+((aM.f (g.opts,())).length:Int))=20+4*(k:Int):=by rw[hk,ar (by omega) (by omega)];omega
 have w2:IntKind.wrap .i64 (20+4*(k:Int)+(g.body.length:Int))=((20+4*k+g.body.length:Nat):Int):=by rw[ar (by omega) (by omega)];omega
 have w3:IntKind.wrap .i64 ((20+4*(k:Int)).tdiv 4)=5+(k:Int):=by rw[(un 4).1 (by omega),ar (by omega) (by omega)];omega
 have w4:IntKind.wrap .i64 ((5+(k:Int))*16)=(((5+k)*16:Nat):Int):=by rw[ar (by omega) (by omega)];omega
 have l1:=aL g.from_ 2 (by omega) (by omega) h1
 have l2:=aL g.to 2 (by omega) (by omega) h2
 have l3:=aL g.seq 4 (by omega) (by omega) h4
 have l4:=aL g.ack 4 (by omega) (by omega) h5
 have l5:=aL (((5+k)*16:Nat):Int) 1 (by omega) (by omega) (by rw[show(8:Int)*1=8 from rfl,lM];simp;omega)
 have l6:=aL g.flags 1 (by omega) (by omega) (by rw[show(8:Int)*1=8 from rfl,lM];simp;omega)
 have l7:=aL g.window 2 (by omega) (by omega) h3
 have hn:aa.f (((20+4*k+g.body.length:Nat):Int),16,())=true:=by rw[bx];simp;omega
 have hp:=sV a b ((20+4*k+g.body.length:Nat):Int) ha hb hn
 have hpl:=aaf a b ((20+4*k+g.body.length:Nat):Int)
 simp only[PX,ba,h,w1,w2,w3,w4,l1,l2,l3,l4,l5,l6,l7,hp,Bool.not_true,cond_false]
 rw[show Int.toNat 2=2 from rfl,show Int.toNat 1=1 from rfl,show Int.toNat 4=4 from rfl]
 have hl:((bA.f (a,b,((20+4*k+g.body.length:Nat):Int),())++mS g (((5+k)*16:Nat):Int))++([0,0]++([0,0]++aM.f (g.opts,())++g.body))).length≤4294967296:=by
  simp only[List.length_append,qW,hk,List.length_cons,List.length_nil];omega
 have e:((bA.f (a,b,((20+4*k+g.body.length:Nat):Int),())++(aq 2 g.from_++aq 2 g.to++aq 4 g.seq++aq 4 g.ack++aq 1 (((5+k)*16:Nat):Int)++aq 1 g.flags++aq 2 g.window))++[0,0])++(([0,0]++aM.f (g.opts,()))++g.body)=(bA.f (a,b,((20+4*k+g.body.length:Nat):Int),())++mS g (((5+k)*16:Nat):Int))++([0,0]++([0,0]++aM.f (g.opts,())++g.body)):=by simp only[mS,List.append_assoc]
 rw[e]
 generalize(bA.f (a,b,((20+4*k+g.body.length:Nat):Int),())++mS g (((5+k)*16:Nat):Int))++([0,0]++([0,0]++aM.f (g.opts,())++g.body))=W at hl⊢
 have hc:=uw W hl
 have hf:=yN _ (DW false W).1
 rw[aL _ 2 (by omega) (by omega) (by rw[show(8:Int)*2=16 from rfl,bx,hc];simp;omega)]
 rfl
set_option maxHeartbeats 1000000 in theorem Dw (g:Segm)(a b:Int)(h:ak.f (g,())=true)(ha:aa.f (a,32,())=true)(hb:aa.f (b,32,())=true):bh.f (ba.f (g,a,b,()),a,b,())=(g,true):=by
 obtain⟨k,hk,hk5⟩:=adE g.opts ((xb g h).2.2.2.2.2.2.1)
 rw[DT g a b h ha hb k hk hk5]
 obtain⟨h1,h2,h3,h4,h5,h6,h7,h8⟩:=xb g h
 have hn:aa.f (((20+4*k+g.body.length:Nat):Int),16,())=true:=by rw[bx];simp;omega
 have hp:=sV a b ((20+4*k+g.body.length:Nat):Int) ha hb hn
 have hro:=DZ g.opts h7
 have hP:=ads a b _ ha hb hn
 generalize aM.f (g.opts,())=O at hk hro⊢
 generalize hH:bA.f (a,b,((20+4*k+g.body.length:Nat):Int),())=H at hp hP⊢
 have hHl:H.length=12:=by rw[hP];simp[aI]
 have hs:=Xf (H++mS g (((5+k)*16:Nat):Int)) ([0,0]++O++g.body) 14 (by rw[List.length_append,hHl,qW]) (by simp only[List.length_append,qW,hk,hHl,aI,List.length_cons,List.length_nil];omega)
 generalize hc:aq 2 (iq.f ((H++mS g (((5+k)*16:Nat):Int))++([0,0]++([0,0]++O++g.body)),()))=c at hs⊢
 have hcl:c.length=2:=by rw[←hc];exact aI 2 _
 have hN:=RH (((5+k)*16:Nat):Int) (by omega) (by omega)
 have hF:=RH g.flags h6.1 (by omega)
 have hx0:∀T,T=mS g (((5+k)*16:Nat):Int)++c++([0,0]++O++g.body)→bh.f (T,a,b,())=(g,true):=by
  intro T hx
  have hlen:T.length=20+4*k+g.body.length:=by rw[hx];simp only[List.length_append,qW,hk,hcl,List.length_cons,List.length_nil];omega
  have hT:T=aq 2 g.from_++(aq 2 g.to++(aq 4 g.seq++(aq 4 g.ack++(aq 1 (((5+k)*16:Nat):Int)++(aq 1 g.flags++(aq 2 g.window++(c++([0,0]++(O++g.body))))))))):=by rw[hx];simp only[mS,List.append_assoc]
  have q0:gw T 0 2=g.from_:=by
   rw[hT,←List.nil_append (aq 2 g.from_++_),pL _ _ _ 0 2 rfl (aI 2 _),dZ 2 _ (w16 h1).1 (w16 h1).2]
  have q2:gw T 2 2=g.to:=by
   rw[hT,pL _ _ _ 2 2 (aI 2 _) (aI 2 _),dZ 2 _ (w16 h2).1 (w16 h2).2]
  have q4:gw T 4 4=g.seq:=by
   rw[hT,←List.append_assoc,pL _ _ _ 4 4 (by simp[aI]) (aI 4 _),dZ 4 _ (w32 h4).1 (w32 h4).2]
  have q8:gw T 8 4=g.ack:=by
   rw[hT,←List.append_assoc,←List.append_assoc,pL _ _ _ 8 4 (by simp[aI]) (aI 4 _),dZ 4 _ (w32 h5).1 (w32 h5).2]
  have q12:ae T 12=(((5+k)*16:Nat):Int):=by
   rw[hT,hN.1,←List.append_assoc,←List.append_assoc,←List.append_assoc,List.cons_append,List.nil_append,sI _ _ _ 12 (by simp[aI]),hN.2]
  have q13:ae T 13=g.flags:=by
   rw[hT,hF.1,←List.append_assoc,←List.append_assoc,←List.append_assoc,←List.append_assoc,List.cons_append,List.nil_append,sI _ _ _ 13 (by simp[aI]),hF.2]
  have q14:gw T 14 2=g.window:=by
   rw[hT,←List.append_assoc,←List.append_assoc,←List.append_assoc,←List.append_assoc,←List.append_assoc,pL _ _ _ 14 2 (by simp[aI]) (aI 2 _),dZ 2 _ (w16 h3).1 (w16 h3).2]
  have hfr:T=(mS g (((5+k)*16:Nat):Int)++c++[0,0])++(O++g.body):=by rw[hx];simp only[List.append_assoc]
  have hfl:(mS g (((5+k)*16:Nat):Int)++c++[0,0]).length=20:=by simp only[List.length_append,qW,hcl,List.length_cons,List.length_nil]
  have qo:(T.take (20+4*k)).drop 20=O:=by
   rw[hfr,←List.append_assoc,List.take_left' (by rw[List.length_append,hfl,hk]),List.drop_left' hfl]
  have qb:T.drop (20+4*k)=g.body:=by
   rw[hfr,←List.append_assoc,List.drop_left' (by rw[List.length_append,hfl,hk])]
  have pE:fF.f (H++T,())=true:=by
   rw[hx]
   simp only[List.append_assoc]at hs⊢
   exact hs
  have hl2:T.length≤4294967296:=by omega
  have v1:=bJ T 0 2 (by omega) (by omega) (by omega) hl2
  have v2:=bJ T 2 2 (by omega) (by omega) (by omega) hl2
  have v3:=bJ T 4 4 (by omega) (by omega) (by omega) hl2
  have v4:=bJ T 8 4 (by omega) (by omega) (by omega) hl2
  have v5:=bJ T 14 2 (by omega) (by omega) (by omega) hl2
  simp only[Int.ofNat_zero,Int.cast_ofNat_Int]at v1 v2 v3 v4 v5
  have w1:IntKind.wrap .i64 ((IntKind.wrap .i64 (((((5+k)*16:Nat):Int)).tdiv 16))*4)=((20+4*k:Nat):Int):=by
   rw[(un 16).1 (by omega),ar (m:=(((5+k)*16:Nat):Int)/16) (by omega) (by omega),ar (by omega) (by omega)];omega
  have w13:bits .and .i64 g.flags 63=g.flags:=by
   rw[ZC _ h6.1 (by omega),(gP 64).1 h6.1];omega
  have wN:IntKind.wrap .i64 (((5+k)*16:Nat):Int)=(((5+k)*16:Nat):Int):=ar (by omega) (by omega)
  have wF:IntKind.wrap .i64 g.flags=g.flags:=ar (by omega) (by omega)
  have hH2:bA.f (a,b,(T.length:Int),())=H:=by rw[hlen,hH]
  simp only[PX,bh,decide_eq_false (show¬(T.length:Int)<20 by omega),cond_false,v1,v2,v3,v4,v5,q0,q2,q4,q8,q12,q13,q14,wN,wF,w1,w13,hH2,hp,pE,ah,qo,qb,hro,List.take_length]
  rw[decide_eq_false (show¬((20+4*k:Nat):Int)<20 by omega),decide_eq_false (show¬(T.length:Int)<((20+4*k:Nat):Int) by omega)]
  have hg:(⟨g.from_,g.to,g.seq,g.ack,g.flags,g.window,g.opts,g.body⟩:Segm)=g:=rfl
  simp only[cond_false,Bool.not_true,hg,h]
 exact hx0 _ (by simp only[List.append_assoc])
theorem Zj (s:ac)(h:(eh s).2=true):d6.f ((eh s).1,())=true:=by
 revert h
 unfold eh
 split
 ·intro h;cases h
 ·cases ho:d6.f (⟨gw s 0 6,gw s 6 6,gw s 12 2,s.drop 14⟩,())with
  |true=>intro _;exact ho
  |false=>intro h;cases h
theorem Yj (k:Link)(ip:Int)(x:Segm)(hx:ak.f (x,())=true)(e:ac)(he:e∈zq k ip x):aa.f (ip,32,())=true∧∃body,eh e=(⟨(Ru k.cache ip).1,k.mac,2048,body⟩,true)∧nD body=(⟨k.ip,ip,64,6,0,ba.f (x,k.ip,ip,())⟩,0)∧bh.f (ba.f (x,k.ip,ip,()),k.ip,ip,())=(x,true)∧e.length≤1600∧body.length≤1586∧(ba.f (x,k.ip,ip,())).length≤1500:=by
 unfold zq at he
 generalize hT:ba.f (x,k.ip,ip,())=T at he⊢
 have hTl:T.length≤1500:=by rw[←hT];exact(ba.c.h (x,k.ip,ip,()) (show ao x from(by unfold ao;have:=eL x hx;omega))).2
 cases h0:(T==[])with
 |true=>rw[h0]at he;cases he
 |false=>
  rw[h0,cond_false]at he
  cases h1:(gF.f (k,ip,T,())).2 with
  |false=>rw[h1]at he;cases he
  |true=>
   rw[h1,cond_true,List.mem_singleton]at he
   subst he
   obtain⟨hl,-⟩:=zC _ _ _ h1
   obtain⟨_,_,hip,_⟩:=(rE k).1 hl
   have hkip:aa.f (k.ip,32,())=true:=by rw[bz];simp;omega
   revert h1
   simp only[PX,gF,tE,hl]
   generalize hB:fN.f (⟨k.ip,ip,64,6,0,T⟩,())=B
   cases hk:(Ru k.cache ip).2 with
   |false=>intro h;cases h
   |true=>
    cases hb:(B==[])with
    |true=>intro h;cases h
    |false=>
     simp only[Bool.not_true,cond_false]
     intro hf
     rcases Bool.eq_false_or_eq_true (hY.f (⟨k.ip,ip,64,6,0,T⟩,()))with hp|hp
     case inr=>
      have:B=[]:=by rw[←hB];simp only[PX,fN,hp,Bool.not_false,cond_true]
      rw[this]at hb;cases hb
     rcases Bool.eq_false_or_eq_true (d6.f (⟨(Ru k.cache ip).1,k.mac,2048,B⟩,()))with hq|hq
     case inr=>
      have:dB.f (⟨(Ru k.cache ip).1,k.mac,2048,B⟩,())=[]:=by simp only[PX,dB,hq,Bool.not_false,cond_true]
      rw[this]at hf;cases hf
     have r1:=Vs _ hq
     have r2:=VG _ hp
     rw[hB]at r2
     have hpp:=mA _ hp
     have hfl:=(sK _).1 hq
     have r3:=Dw x k.ip ip hx hkip hpp.2.1
     rw[hT]at r3
     refine⟨hpp.2.1,B,r1,r2,r3,(dB.c.h (⟨(Ru k.cache ip).1,k.mac,2048,B⟩,()) (show ll ⟨(Ru k.cache ip).1,k.mac,2048,B⟩ from(by unfold ll;have:=hfl.2.2.2.2;simp only[]at this⊢;omega))).2,hfl.2.2.2.2,hTl⟩
set_option maxHeartbeats 2000000 in theorem Q0 (x:List Int):kI.f (x,())=true:=by
 rcases Bool.eq_false_or_eq_true (CH.f (x,()))with hb|hb
 ·simp only[FX.f,PX,kI,hb,cond_true]
 have hx:=Xh x hb
 have hd:=gY.c.h (x,()) ⟨by simp only[sS];omega,hx⟩
 simp only[PX]at hd
 obtain⟨⟨s,raw⟩,hz⟩:∃z,gY.f (x,())=z:=⟨_,rfl⟩
 rw[hz]at hd
 have hs:kX s.door:=Oz hd.1.2
 have hl:s.door.halves.length≤4294967296:=by
  have:=hd.1.2
  grind
 have hr:raw.length≤4294967296:=hd.2
 have hq:=yw s hs
 have h1:=C9 s raw hs hl
 have h2:=Cp s raw hr hs hl
 have hL:=LR s.link raw hr
 obtain⟨k,n,p,t,e,hc⟩:=vk s.link raw hr
 rcases Bool.eq_false_or_eq_true (d5.f (s,()))with h|h
 case inr=>simp only[FX.f,PX,kI,hb,cond_false,hz,h1,h2,np,hq,h,Bool.not_true,Bool.not_false,cond_true]
 have hD:=(uP _).1 ((iT s).1 h).2
 have hout:n=2→∀b∈(kW s raw).2.1,∃g,ak.f (g,())=true∧b∈zq k p.src g:=by
  intro hn b hbm
  simp only[kW,h,Bool.not_true,cond_false,e,hn,show((2:Int)==1)=false from rfl,show((2:Int) != 2)=false from rfl]at hbm
  have hso:=Wm s.door p.src (bh.f (p.body,p.src,p.dst,())).1 hs hD
  cases hg:(bh.f (p.body,p.src,p.dst,())).2 with
  |false=>rw[hg]at hbm;cases hbm
  |true=>
   rw[hg]at hbm
   simp only[Bool.not_true,cond_false]at hbm
   obtain⟨g,hg1,hg2⟩:=List.mem_flatMap.1 hbm
   exact⟨g,hso.2 g hg1,hg2⟩
 generalize kW s raw=y at h1 h2 hout
 have hloop:n=2→∀(j:Nat),j<y.2.1.length→(jW n s y.2.1 p (eh raw).1 (j:Int) ()).nice= .next ():=by
  intro hn j hj
  obtain⟨h3,hk⟩:n=2∧Pkt s.link raw k p:=by
   rcases hc with⟨_,h0,_⟩|⟨_,_,_,h0,_⟩|h0
   ·omega
   ·omega
   ·exact h0
  have hmem:y.2.1.getD j []∈y.2.1:=by rw[getD_some (List.getElem?_eq_getElem hj)];exact List.getElem_mem hj
  obtain⟨g,hg,hb2⟩:=hout hn _ hmem
  obtain⟨hip,body,r1,r2,r3,l1,l2,l3⟩:=Yj k p.src g hg _ hb2
  have e1:=ro (y.2.1.getD j []) (by omega)
  have e2:=vz body (by omega)
  have e3:=sT (ba.f (g,k.ip,p.src,())) k.ip p.src (by omega)
  have hfo:=(sK _).1 (Zj raw hk.hF)
  have hlk:=((iT s).1 h).1
  have hEO:=((rE _).1 hlk).2.2.2
  have hca:k.cache=xO s.link.cache p.src (eh raw).1.src:=by
   rw[hk.hK]
   show rt _ _ _=_
   unfold rt
   rw[(sJ _).2 hEO,hip,hfo.2.1];rfl
  have hhw:(Ru k.cache p.src).1=(eh raw).1.src:=by rw[hca,ZY]
  have hki:k.ip=s.link.ip:=by rw[hk.hK]
  rw[hki]at r2 r3 e3
  simp only[PX,jW,hn,ah,e1,r1,e2,r2,e3,r3,hhw,beq_self_eq_true,bne_self_eq_false,Bool.not_true,cond_true,cond_false]
 have hF:=ro raw hr
 simp only[FX.f,PX,kI,hb,cond_false,hz,h1,h2,np,hq,h,hL,e,hF,dT,Bool.not_true,cond_true,bp]
 by_cases hn:n=2
 ·rw[X2 y.2.1.length (hloop hn)]
  rfl
 ·have hb2:(n==2)=false:=by simpa using hn
  cases hm:y.2.1.length with
  |zero=>rfl
  |succ m=>
   simp only[a9,PX,jW,hb2,cond_false,Stp.elim]

end
end Go.Proofs.YtgbgljgnblkffaaGreat
