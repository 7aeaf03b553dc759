/-
  Contracts of functions and plain laws (printed by a program): each theorem says what a function of the program returns; conditions are its hypotheses.
-/
import Derived.Test.YteiiknfadjnmgaaGreatEK3
set_option linter.all false
set_option maxRecDepth 4000
namespace Go.Proofs.YteiiknfadjnmgaaGreat
open Go Go.RowKit
noncomputable section
theorem adc (c:Conn)(w:Int)(hc:SO c.s)(h:(cO.f (c,w,())).2=[]):(cO.f (c,w,())).1=c:=by
 revert h
 simp only[PX,cO,ce,kE]
 cases(bif !aN.f (c,())then(true,())else bif (c.state==8)then(true,())else((c.state==7),())).1 with
 |true=>exact λ_=>rfl
 |false=>
 simp only[cond_false]
 have key:=tL (f:=λa=>(cd w a).nice) (Inv:=λa=>Sent c a.2.1∧(a.2.2=[]→a.2.1=c)) (Q:=λp=>p.2.2=[]→p.2.1=c) (meas:=λa=>Jo a.2.1.s) (λa hi a' he=>by
  rcases rR w c a hi.1 with⟨l,e⟩|⟨a2,e,h1,h2⟩
  ·simp only[e]at he;cases he
  ·simp only[e,Stp.next.injEq]at he;subst he
   refine⟨⟨h1,λh3=> ?_⟩,h2⟩
   exfalso
   obtain⟨a1,a2',al⟩:=a
   revert e
   simp only[PX,cd]
   cases(bg.f (a2'.s,w,dE.f (a2',()),())).2 with
   |false=>intro e;cases e
   |true=>
    cases((bg.f (a2'.s,w,dE.f (a2',()),())).1.text==[])<;>cases(bg.f (a2'.s,w,dE.f (a2',()),())).1.fin<;>(intro e;simp only[Stp.next.injEq,cond_true,cond_false,Bool.not_true,Bool.not_false]at e;subst e;simp at h3)) (λa hi p he=>by
  rcases rR w c a hi.1 with⟨l,e⟩|⟨a2,e,h1,h2⟩
  ·obtain⟨a1,a2',al⟩:=a
   have hl:l=al:=by
    revert e
    simp only[PX,cd]
    cases(bg.f (a2'.s,w,dE.f (a2',()),())).2 with
    |false=>intro e;cases e;rfl
    |true=>cases((bg.f (a2'.s,w,dE.f (a2',()),())).1.text==[])<;>cases(bg.f (a2'.s,w,dE.f (a2',()),())).1.fin<;>(intro e;cases e)
   simp only[e,Stp.out.injEq]at he;subst he;subst hl;exact hi.2
  ·simp only[e]at he;cases he) (Jo c.s+1) (⟨⟨0,0,0⟩,0,⟨0,[],0,false,false,false⟩,⟨0,[],[],0,false⟩,0,0,⟨0,0,false,false,0,0⟩,0,0⟩,c,[]) (Nat.lt_succ_self _) ⟨Sent.refl c hc,λ_=>rfl⟩
 obtain⟨q,hq⟩:∃q,cm (λa=>(cd w a).nice) (Jo c.s+1) (⟨⟨0,0,0⟩,0,⟨0,[],0,false,false,false⟩,⟨0,[],[],0,false⟩,0,0,⟨0,0,false,false,0,0⟩,0,0⟩,c,[])=q:=⟨_,rfl⟩
 rw[hq]at key
 simp only[hq]
 obtain⟨q1,q2,q3⟩:=q
 simp only[]at key⊢
 intro h3
 have h4:q3=[]:=by
  revert h3
  cases(bif decide (0<(q3.length:Int))then((q2.timer==0),())else(false,())).1<;>exact λh=>h
 subst h4
 rw[key rfl]
 rfl
theorem D5 (c:Conn)(g:Segm)(hs:bf c.r.held):rL.f (c,g,())=d5 c g:=by
 simp only[PX,rL,fG,DA c g hs,Yp c g hs,tY,xu,Pp]
 have hv:=ac2 c g
 have h5:=UV c g hs
 have hb:EZ c g=5→g.body.length≤1420:=λh=>io g (vd5 c g h).sg
 unfold d5
 generalize EZ c g=v at hv h5 hb⊢
 rcases hv with rfl|rfl|rfl|rfl|rfl
 ·rfl
 ·rfl
 ·show(c,[j7.f (c,())],(3:Int))=_
  rw[tY];rfl
 ·have e:(bif (4:Int)==4 then bif c.state==7 then(bH.f (g,1,()),())else(false,())else(false,())).1=decide (c.state=7∧bH.f (g,1,())=true):=by
   by_cases h7:c.state=7
   ·simp[h7]
   ·rw[show(c.state==7)=false by simp[h7],decide_eq_false (λh=>h7 h.1)];rfl
  rw[e]
  by_cases hq:c.state=7∧bH.f (g,1,())=true
  ·rw[decide_eq_true hq];simp only[if_pos hq]
   show(({c with timer:=4}:Conn),[j7.f (c,())],(4:Int))=_
   rw[tY];rfl
  ·rw[decide_eq_false hq];simp only[if_neg hq]
   show(c,[j7.f (c,())],(4:Int))=_
   rw[tY];rfl
 ·simp only[if_true]
  rw[if_neg (show¬(5:Int)=2 by omega),if_neg (show¬(5:Int)=3 by omega),if_neg (show¬(5:Int)=4 by omega)]
  obtain⟨hx,-,-,hxs⟩:=h5 rfl
  have hl:=sA g (by have:=hb rfl;omega)
  generalize fZ c g=x at hx hxs⊢
  have hP:=LX x x.window (by have:=hx.w1;have:=hx.m1;omega) hxs
  have hN:=adc x x.window hx.snd
  change (bif x.state==8 then(x,[],(5:Int))else bif (bif decide (0<aR.f (g,()))then(((nZ.f (x,x.window,())).2.length:Int)==0,())else(false,())).1 then((nZ.f (x,x.window,())).1,(nZ.f (x,x.window,())).2++[bC.f (x,())],5)else((nZ.f (x,x.window,())).1,(nZ.f (x,x.window,())).2,5))=_
  rw[hP]
  by_cases h8:x.state=8
  ·rw[if_pos h8,show(x.state==8)=true by simp[h8]];rfl
  ·rw[if_neg h8,show(x.state==8)=false by simp[h8]]
   generalize cO.f (x,x.window,())=p at hN⊢
   obtain⟨p1,p2⟩:=p
   cases p2 with
   |nil=>
    have hN:=hN rfl
    simp only[]at hN
    subst hN
    by_cases h0:aR.f (g,())=0
    ·simp[h0]
    ·rw[decide_eq_true (show 0<aR.f (g,()) by omega)]
     simp[h0]
   |cons a r=>
    have h0:(((a::r).length:Int)==0)=false:=by rw[beq_eq_false_iff_ne];simp only[List.length_cons];omega
    cases decide (0<aR.f (g,()))<;>simp only[h0,cond_true,cond_false,if_neg (show¬((a::r:List Segm)=[]∧aR.f (g,())≠0) by simp)]
theorem Pz (n:Int):bits .and .i64 n 15=n%16:=by
 have h:(BitVec.ofInt 64 15).toNat=2 ^ 4-1:=by decide
 have key:(BitVec.ofInt 64 n&&& BitVec.ofInt 64 15).toNat=(n%((2 ^ 64:Nat):Int)).toNat%2 ^ 4:=by
  rw[BitVec.toNat_and,BitVec.toNat_ofInt,h,Nat.and_two_pow_sub_one_eq_mod]
 show IntKind.i64.wrap ((BitVec.ofInt 64 n&&& BitVec.ofInt 64 15).toNat:Nat)=n%16
 rw[key,df]
 omega
theorem abg (v:Int):AL.f (v,())=mT.f (v,()):=by
 simp only[PX,AL,mT,dj,Pz]
 rcases Bool.eq_false_or_eq_true (ae.f (v,32,()))with h|h
 ·rw[h]
  rw[cf]at h
  simp only[Bool.and_eq_true,decide_eq_true_eq]at h
  rw[Int.tmod_eq_emod_of_nonneg h.1]
 ·rw[h];rfl
theorem Fy (i:Int)(o:Opti):kU.f (i,o,())=cZ.f (i,o,()):=by
 simp only[PX,kU,cZ,abg,Y4,bU,bQ]
theorem O8 (t:Tupl)(h:aG.f (t,())=true):(0≤t.ip∧t.ip≤4294967295)∧(0≤t.port∧t.port≤65535)∧(0≤t.my∧t.my≤65535):=by
 simp only[PX,aG,dh,cf]at h
 by_cases h1:0≤t.ip∧t.ip≤4294967295
 ·by_cases h2:0≤t.port∧t.port≤65535
  ·by_cases h3:0≤t.my∧t.my≤65535
   ·exact⟨h1,h2,h3⟩
   ·rw[show(decide (0≤t.my)&&decide (t.my≤65535))=false by rw[Bool.and_eq_false_iff];simp only[decide_eq_false_iff_not];omega]at h
    revert h
    cases(decide (0≤t.ip)&&decide (t.ip≤4294967295))<;>cases(decide (0≤t.port)&&decide (t.port≤65535))<;>simp
  ·rw[show(decide (0≤t.port)&&decide (t.port≤65535))=false by rw[Bool.and_eq_false_iff];simp only[decide_eq_false_iff_not];omega]at h
   revert h
   cases(decide (0≤t.ip)&&decide (t.ip≤4294967295))<;>simp
 ·rw[show(decide (0≤t.ip)&&decide (t.ip≤4294967295))=false by rw[Bool.and_eq_false_iff];simp only[decide_eq_false_iff_not];omega]at h
  simp at h
theorem FI (s:Sndr):ij.f (s,())=(s.una+dr.f (s,()))%4294967296:=by simp only[PX,ij,bL]
theorem xc:aM.f (bQ.f (()),())=true:=by decide+kernel
theorem Yx (c:Conn)(hc:aG.f (c.tuple,())=true)(hd:c.r.data.length≤32)(hn:0≤c.r.next∧c.r.next≤4294967295)(sq fl:Int)(b:aa)(h0:0≤sq∧sq≤4294967295)(hf:0≤fl∧fl≤63)(hb:b.length≤1420):ak.f ({bC.f (c,())with seq:=sq,flags:=fl,body:=b},())=true:=by
 rw[bv]
 have ht:=O8 c.tuple hc
 have hw:=lV c.r hd
 simp only[PX,bC,gD c.r hd]
 exact⟨ht.2.2,ht.2.1,h0,hn,hf,⟨hw.1,by omega⟩,xc,hb⟩
theorem Eb (c:Conn)(hc:CO c)(hs:bf c.r.held):ak.f (bC.f (c,()),())=true:=by
 have hr:=(lw c.r hs).1 hc.rcv
 have h:=Yx c hc.tup hr.dl ⟨hr.n0,hr.n1⟩ (ij.f (c.s,())) 16 [] (by rw[FI];omega) (by omega) (by simp)
 have e:({bC.f (c,())with seq:=ij.f (c.s,()),flags:=16,body:=[]}:Segm)=bC.f (c,()):=by simp only[PX,bC]
 rw[e]at h;exact h
theorem OZ (s:Sndr)(w m:Int)(h:(bg.f (s,w,m,())).2=true):(bg.f (s,w,m,())).1.seq=ij.f (s,()):=by
 revert h
 simp only[PX,bg]
 generalize(if 0<(if(IntKind.wrap .i64 ((if w<(-1)then(-1)else w)-dr.f (s,())))<(if m<(((s.data.take ((s.data.length:Int).toNat)).drop s.sent.toNat).length:Int)then m else(((s.data.take ((s.data.length:Int).toNat)).drop s.sent.toNat).length:Int))then(IntKind.wrap .i64 ((if w<(-1)then(-1)else w)-dr.f (s,())))else(if m<(((s.data.take ((s.data.length:Int).toNat)).drop s.sent.toNat).length:Int)then m else(((s.data.take ((s.data.length:Int).toNat)).drop s.sent.toNat).length:Int)))then(if(IntKind.wrap .i64 ((if w<(-1)then(-1)else w)-dr.f (s,())))<(if m<(((s.data.take ((s.data.length:Int).toNat)).drop s.sent.toNat).length:Int)then m else(((s.data.take ((s.data.length:Int).toNat)).drop s.sent.toNat).length:Int))then(IntKind.wrap .i64 ((if w<(-1)then(-1)else w)-dr.f (s,())))else(if m<(((s.data.take ((s.data.length:Int).toNat)).drop s.sent.toNat).length:Int)then m else(((s.data.take ((s.data.length:Int).toNat)).drop s.sent.toNat).length:Int)))else 0)=n
 generalize(IntKind.wrap .i64 ((if w<(-1)then(-1)else w)-dr.f (s,())))=v
 generalize(((s.data.take ((s.data.length:Int).toNat)).drop s.sent.toNat).take n.toNat).drop 0=tx
 generalize(((s.data.take ((s.data.length:Int).toNat)).drop s.sent.toNat).length:Int)=ln
 cases bi.f (s,())<;>cases s.fin<;>cases s.finSent<;>cases s.done<;>cases(n==ln)<;>cases(tx==[])<;>cases decide (n<v)<;>simp
theorem FM (c:Conn)(w:Int)(hc:CO c)(hs:bf c.r.held):∀g∈(cO.f (c,w,())).2,ak.f (g,())=true:=by
 have hr:=(lw c.r hs).1 hc.rcv
 simp only[PX,cO,ce,kE]
 cases(bif !aN.f (c,())then(true,())else bif (c.state==8)then(true,())else((c.state==7),())).1 with
 |true=>intro g hg;cases hg
 |false=>
 simp only[cond_false]
 have key:=tL (f:=λa=>(cd w a).nice) (Inv:=λa=>Sent c a.2.1∧(∀g∈a.2.2,ak.f (g,())=true)) (Q:=λp=>∀g∈p.2.2,ak.f (g,())=true) (meas:=λa=>Jo a.2.1.s) (λa hi a' he=>by
  rcases rR w c a hi.1 with⟨l,e⟩|⟨a2,e,h1,h2⟩
  ·simp only[e]at he;cases he
  ·simp only[e,Stp.next.injEq]at he;subst he
   refine⟨⟨h1, ?_⟩,h2⟩
   obtain⟨hS,hl⟩:=hi
   obtain⟨a1,b2,al⟩:=a
   simp only[]at hS hl
   have hre:=hS.re
   have htup:aG.f (b2.tuple,())=true:=by rw[hre];exact hc.tup
   have hrr:b2.r=c.r:=by rw[hre]
   have hch:=bg.c.h (b2.s,w,dE.f (b2,()),()) (Nx hS.so)
   have hsq:=OZ b2.s w (dE.f (b2,()))
   revert e
   simp only[PX,cd]
   simp only[PX]at hch
   generalize bg.f (b2.s,w,dE.f (b2,()),())=z at hch hsq⊢
   obtain⟨y,b⟩:=z
   cases b with
   |false=>intro e;cases e
   |true=>
    obtain⟨-,hch⟩:=hch
    obtain⟨-,hlen,-,-,-⟩:=hch rfl
    have hsq:=hsq rfl
    simp only[]at hlen hsq
    have hdl:=hS.so.2.2.1
    have hs0:=hS.so.2.2.2.1
    have ok:∀fl:Int,0≤fl∧fl≤63→ak.f (({bC.f (b2,())with seq:=y.seq,flags:=fl,body:=y.text}:Segm),())=true:=λfl hf=>Yx b2 htup (by rw[hrr];exact hr.dl) (by rw[hrr];exact⟨hr.n0,hr.n1⟩) y.seq fl y.text (by rw[hsq,FI];omega) hf (by omega)
    have fin:∀fl:Int,0≤fl∧fl≤63→∀g∈al++[({bC.f (b2,())with seq:=y.seq,flags:=fl,body:=y.text}:Segm)],ak.f (g,())=true:=by
     intro fl hf g hg
     rcases List.mem_append.1 hg with h3|h3
     ·exact hl g h3
     ·rw[List.mem_singleton.1 h3];exact ok fl hf
    have hfl:(bC.f (b2,())).flags=16:=by simp only[PX,bC]
    simp only[hfl]
    cases(y.text==[])<;>cases y.fin<;>(intro e;simp only[Stp.next.injEq,cond_true,cond_false,Bool.not_true,Bool.not_false]at e;subst e;refine fin _ (by decide+kernel))) (λa hi p he=>by
  rcases rR w c a hi.1 with⟨l,e⟩|⟨a2,e,h1,h2⟩
  ·obtain⟨a1,a2',al⟩:=a
   have hl:l=al:=by
    revert e
    simp only[PX,cd]
    cases(bg.f (a2'.s,w,dE.f (a2',()),())).2 with
    |false=>intro e;cases e;rfl
    |true=>cases((bg.f (a2'.s,w,dE.f (a2',()),())).1.text==[])<;>cases(bg.f (a2'.s,w,dE.f (a2',()),())).1.fin<;>(intro e;cases e)
   simp only[e,Stp.out.injEq]at he;subst he;subst hl;exact hi.2
  ·simp only[e]at he;cases he) (Jo c.s+1) (⟨⟨0,0,0⟩,0,⟨0,[],0,false,false,false⟩,⟨0,[],[],0,false⟩,0,0,⟨0,0,false,false,0,0⟩,0,0⟩,c,[]) (Nat.lt_succ_self _) ⟨Sent.refl c hc.snd,λg hg=>by cases hg⟩
 obtain⟨q,hq⟩:∃q,cm (λa=>(cd w a).nice) (Jo c.s+1) (⟨⟨0,0,0⟩,0,⟨0,[],0,false,false,false⟩,⟨0,[],[],0,false⟩,0,0,⟨0,0,false,false,0,0⟩,0,0⟩,c,[])=q:=⟨_,rfl⟩
 rw[hq]at key
 simp only[hq]
 obtain⟨q1,q2,q3⟩:=q
 simp only[]at key⊢
 cases(bif decide (0<(q3.length:Int))then((q2.timer==0),())else(false,())).1<;>exact key
theorem Jb (c:Conn)(g:Segm)(hc:CO c)(hs:bf c.r.held):CO (d5 c g).1∧(d5 c g).1.tuple=c.tuple∧(∀y∈(d5 c g).2.1,ak.f (y,())=true)∧bf (d5 c g).1.r.held:=by
 have one:∀y∈[bC.f (c,())],ak.f (y,())=true:=λy hy=>by rw[List.mem_singleton.1 hy];exact Eb c hc hs
 have nil:∀y∈([]:List Segm),ak.f (y,())=true:=λy hy=>by cases hy
 unfold d5
 split
 ·exact⟨CO.set hc 8 0 0 (.inr rfl) (by omega) (by omega) (λ_=>by omega) (by omega) (by omega),rfl,nil,hs⟩
 ·split
  ·exact⟨hc,rfl,one,hs⟩
  ·split
   ·split
    ·rename_i h7
     exact⟨CO.set hc c.state 4 c.tries (.inl rfl) (by omega) (by omega) (λh=>absurd h7.1 h) hc.r0 hc.r3,rfl,one,hs⟩
    ·exact⟨hc,rfl,one,hs⟩
   ·split
    ·rename_i hv
     obtain⟨hx,hxt,-,hxs⟩:=UV c g hs hv
     generalize fZ c g=x at hx hxt hxs⊢
     split
     ·exact⟨hx,hxt,nil,hxs⟩
     ·have hS:=FO x x.window hx.snd
      have hp:=Sent.ok hS hx (hS.tm.elim .inr λe=> .inl (by omega))
      have ht:(cO.f (x,x.window,())).1.tuple=x.tuple:=by rw[hS.re]
      have hr:(cO.f (x,x.window,())).1.r=x.r:=by rw[hS.re]
      refine⟨hp,ht.trans hxt, ?_,by show bf (cO.f (x,x.window,())).1.r.held;rw[hr];exact hxs⟩
      simp only[]
      split
      ·intro y hy
       rw[List.mem_singleton.1 hy];exact Eb _ hp (by rw[hr];exact hxs)
      ·exact FM x x.window hx hxs
    ·exact⟨hc,rfl,nil,hs⟩
theorem PE (t:Tabl)(c:Conn):vj.f (t,c,())=dd.f (t,c,()):=by
 simp only[PX,vj,dd,AA,ja,gM,fG,ce]
theorem aa7 (t:Tabl)(c:Conn)(l:Limi)(hs:∀y∈t.conns,bf y.r.held)(hc:bf c.r.held):vJ.f (t,c,l,())=mI.f (t,c,l,()):=by
 simp only[PX,vJ,mI,AA,ja,fG,ce]
 rw[PB _ _ (λy hy=>by
  rcases List.mem_append.1 hy with h|h
  ·exact hs y h
  ·rw[List.mem_singleton.1 h];exact hc)]
theorem adw (xs:List Conn)(t:Tupl)(h:decide (0≤em (λh=>jf t h.tuple) xs)=true):∃i:Nat,em (λh:Conn=>jf t h.tuple) xs=(i:Int)∧∃hi:i<xs.length,xs[i].tuple=t:=by
 unfold em at h⊢
 cases hf:xs.findIdx? (λh=>jf t h.tuple)with
 |none=>rw[hf]at h;simp at h
 |some i=>
  obtain⟨h1,h2,-⟩:=List.findIdx?_eq_some_iff_getElem.1 hf
  exact⟨i,rfl,h1,((EI _ _).1 h2).symm⟩
theorem AR (xs:List Half)(t:Tupl)(h:decide (0≤em (λh=>jf t h.tuple) xs)=true):∃i:Nat,em (λh:Half=>jf t h.tuple) xs=(i:Int)∧∃hi:i<xs.length,xs[i].tuple=t:=by
 unfold em at h⊢
 cases hf:xs.findIdx? (λh=>jf t h.tuple)with
 |none=>rw[hf]at h;simp at h
 |some i=>
  obtain⟨h1,h2,-⟩:=List.findIdx?_eq_some_iff_getElem.1 hf
  exact⟨i,rfl,h1,((EI _ _).1 h2).symm⟩
theorem TO.set {t:Tabl}{l:Limi}(h:TO t l)(i:Nat)(c:Conn)(hc:CO c)(hi:i<t.conns.length)(ht:c.tuple=t.conns[i].tuple):TO (⟨t.conns.set i c,t.waiting⟩:Tabl) l:=by
 have hm:(t.conns.set i c).map Conn.tuple=t.conns.map Conn.tuple:=by
  rw[List.map_set,ht]
  apply List.ext_getElem?
  intro j
  rw[List.getElem?_set]
  split
  ·rename_i hj
   subst hj
   simp[hi]
  ·rfl
 refine⟨h.lim,by show((t.conns.set i c).length:Int)≤l.conns;rw[List.length_set];exact h.nc,h.nw, ?_, ?_,h.dw, ?_⟩
 ·intro y hy
  rcases List.mem_or_eq_of_mem_set hy with h1|h1
  ·exact h.co y h1
  ·rw[h1];exact hc
 ·show((t.conns.set i c).map Conn.tuple).Nodup
  rw[hm];exact h.dc
 ·intro w hw
  show w∈(t.conns.set i c).map Conn.tuple
  rw[hm];exact h.wc w hw
theorem ZF (xs:List Conn)(i:Nat)(c:Conn)(hi:i<xs.length)(ht:c.tuple=xs[i].tuple):(xs.set i c).map Conn.tuple=xs.map Conn.tuple:=by
 rw[List.map_set,ht]
 apply List.ext_getElem?
 intro j
 rw[List.getElem?_set]
 split
 ·rename_i hj
  subst hj
  simp[hi]
 ·rfl
theorem XB (xs:List Conn)(hd:(xs.map Conn.tuple).Nodup)(i:Nat)(hi:i<xs.length):em (λh:Conn=>jf xs[i].tuple h.tuple) xs=(i:Int):=by
 have h:=(Az Conn.tuple xs).2 hd i xs[i] (List.getElem?_eq_getElem hi)
 have h2:=Et (λh:Conn=>jf xs[i].tuple h.tuple) xs i xs[i] (List.getElem?_eq_getElem hi) (ss _)
 rw[h]at h2
 simpa using h2
theorem rx (t:Tabl)(c:Conn)(hd:(t.conns.map Conn.tuple).Nodup)(i:Nat)(hi:i<t.conns.length)(ht:c.tuple=t.conns[i].tuple):dd.f (t,c,())=⟨t.conns.set i c,t.waiting⟩:=by
 simp only[PX,dd,ja,ce,f8]
 rw[ht,XB t.conns hd i hi,decide_eq_true (show(0:Int)≤(i:Int) by omega),ah]
 rfl
theorem EC (t:Tabl)(c:Conn)(l:Limi):mI.f (t,c,l,())=if dK.f ((⟨t.conns++[c],t.waiting++[c.tuple]⟩:Tabl),l,())=true then(⟨t.conns++[c],t.waiting++[c.tuple]⟩,true)else(t,false):=by
 simp only[PX,mI,ja,ce]
 cases dK.f ((⟨t.conns++[c],t.waiting++[c.tuple]⟩:Tabl),l,())<;>rfl
def u3 (xs:List Half)(t:Tupl):List Half:=bif decide (0≤em (λh:Half=>jf t h.tuple) xs)then xs.take (em (λh:Half=>jf t h.tuple) xs).toNat++xs.drop ((em (λh:Half=>jf t h.tuple) xs).toNat+1)else xs
theorem Br (xs:List Half)(t:Tupl)(hl:xs.length≤4294967296):sK.f (xs,t,())=u3 xs t:=by
 simp only[PX,sK,wR,iI]
 unfold u3
 cases h:decide (0≤em (λh:Half=>jf t h.tuple) xs)with
 |false=>
  rw[show decide (em (λh:Half=>jf t h.tuple) xs<0)=true by simp at h⊢;exact h]
  simp
 |true=>
  obtain⟨i,e,hi,-⟩:=AR xs t h
  rw[e,decide_eq_false (show¬(i:Int)<0 by omega),am (by omega) (by omega),ah,show((i:Int)+1).toNat=i+1 by omega]
  simp
theorem BN (xs:List Half)(t:Tupl)(hl:xs.length≤4294967296):oJ.f (xs,t,())=u3 xs t:=by
 simp only[PX,oJ,eA,uL,iI]
 unfold u3
 cases h:decide (0≤em (λh:Half=>jf t h.tuple) xs)with
 |false=>simp
 |true=>
  obtain⟨i,e,hi,-⟩:=AR xs t h
  rw[e,am (by omega) (by omega),show((i:Int)==(i:Int)+1)=false by simp;omega,ah,show((i:Int)+1).toNat=i+1 by omega]
  simp only[cond_false,cond_true]
  have hL:(xs.take i++xs.drop (i+1)).length=i+(xs.length-(i+1)):=by
   rw[List.length_append,List.length_take,List.length_drop];omega
  generalize xs.take i++xs.drop (i+1)=L at hL⊢
  rw[List.drop_zero,List.take_left' hL,ah,hL,List.take_left' hL,List.append_assoc,List.take_left' hL]
theorem Pa (xs:List Half)(t:Tupl):(u3 xs t).Sublist xs:=by
 unfold u3
 cases h:decide (0≤em (λh:Half=>jf t h.tuple) xs)with
 |false=>exact List.Sublist.refl _
 |true=>
  obtain⟨i,e,hi,-⟩:=AR xs t h
  rw[e,ah,cond_true]
  have h1:(xs.take i++xs.drop (i+1)).Sublist (xs.take i++xs.drop i):=List.Sublist.append (List.Sublist.refl _) (by
   rw[←List.drop_drop];exact List.drop_sublist _ _)
  rw[List.take_append_drop]at h1
  exact h1
theorem HO.sub {xs ys:List Half}(h:HO xs)(hs:ys.Sublist xs):HO ys:=⟨λy hy=>h.ok y (hs.subset hy),List.Nodup.sublist (hs.map _) h.nd,Nat.le_trans hs.length_le h.len⟩
theorem Yd (xs:List Half)(t:Tupl)(hd:(xs.map Half.tuple).Nodup):t∉(u3 xs t).map Half.tuple:=by
 unfold u3
 cases h:decide (0≤em (λh:Half=>jf t h.tuple) xs)with
 |false=>
  rw[mc]at h
  rw[cond_false,←De,h];simp
 |true=>
  obtain⟨i,e,hi,ht⟩:=AR xs t h
  rw[e,ah,cond_true,List.map_append,List.mem_append]
  have h1:xs.map Half.tuple=(xs.take i).map Half.tuple++t::(xs.drop (i+1)).map Half.tuple:=by
   conv=>lhs;rw[←List.take_append_drop i xs,List.drop_eq_getElem_cons hi]
   rw[List.map_append,List.map_cons,ht]
  rw[h1]at hd
  obtain⟨-,h3,h4⟩:=List.nodup_append.1 hd
  rintro(h5|h5)
  ·exact h4 t h5 t (List.mem_cons_self ..) rfl
  ·exact(List.nodup_cons.1 h3).1 h5
theorem aaV (g:Segm):gk.f (g,())=bif bH.f (g,4,())then[]else[(kI.f (g,())).1]:=by
 simp only[PX,gk,kI]
 cases bH.f (g,4,())with
 |true=>rfl
 |false=>cases bH.f (g,16,())<;>rfl
theorem Yr (g:Segm):wY.f (g,())=kI.f (g,()):=by
 simp only[PX,wY,kI,Pp,xu,kx,bU,bQ]
theorem L7 (d:Door)(g:Segm):ml.f (d,g,())=(d,gk.f (g,()),0):=by
 simp only[PX,ml,Yr,kZ,gk]
 cases(kI.f (g,())).2<;>rfl
theorem Av (g:Segm)(hg:ak.f (g,())=true):∀y∈gk.f (g,()),ak.f (y,())=true:=by
 have h:=(bv g).1 hg
 rw[aaV]
 cases h4:bH.f (g,4,())with
 |true=>intro y hy;cases hy
 |false=>
  intro y hy
  rw[cond_false,List.mem_singleton]at hy
  subst hy
  simp only[PX,kI,h4,bL,cond_false]
  cases bH.f (g,16,())with
  |true=>
   rw[bv]
   exact⟨h.2.1,h.1,h.2.2.2.1,by show(0:Int)≤0∧(0:Int)≤4294967295;omega,by show(0:Int)≤4∧(4:Int)≤63;omega,by show(0:Int)≤0∧(0:Int)≤65535;omega,xc,by simp⟩
  |false=>
   rw[bv]
   refine⟨h.2.1,h.1,by show(0:Int)≤0∧(0:Int)≤4294967295;omega, ?_,by show(0:Int)≤20∧(20:Int)≤63;omega,by show(0:Int)≤0∧(0:Int)≤65535;omega,xc,by simp⟩
   show 0≤(g.seq+aR.f (g,()))%4294967296∧(g.seq+aR.f (g,()))%4294967296≤4294967295
   omega
theorem Ou (n:Int):lM.f (n,())=jJ.f (n,()):=by
 simp only[PX,lM,jJ,mQ,bL,Int.add_zero]
def Ny (t:Tupl)(iss irs:Int)(o:Opti)(w:Int):Conn:=⟨t,1,⟨(iss+1)%4294967296,[],0,false,false,false⟩,⟨(irs+1)%4294967296,[],[],-1,false⟩,jc w o.scale,jc w o.scale,o,0,0⟩
theorem Ez (t:Tupl)(iss irs:Int)(o:Opti)(w:Int)(ho:aM.f (o,())=true)(h0:0≤w)(h1:w≤65535):vE.f (t,iss,irs,o,w,())=Ny t iss irs o w:=by
 have hs:=(fe o ho).2
 have hw:ae.f (w,16,())=true:=by rw[dh,decide_eq_true h0,decide_eq_true h1];rfl
 simp only[PX,vE,ho,hw,Bool.not_true,cond_false,jJ,bL,Int.add_zero]
 rw[Gx w o h0 h1 hs,show((irs+1)%4294967296%4294967296)=(irs+1)%4294967296 by omega]
 rfl
theorem Ds (t:Tupl)(iss irs:Int)(o:Opti)(w:Int)(ho:aM.f (o,())=true)(h0:0≤w)(h1:w≤65535):rD.f (t,iss,irs,o,w,())=Ny t iss irs o w:=by
 have hs:=(fe o ho).2
 have hw:ae.f (w,16,())=true:=by rw[dh,decide_eq_true h0,decide_eq_true h1];rfl
 have e:=(X9 w o.scale h0 h1 hs).1
 have hl:IntKind.wrap .u64 (fB.f (0,o.scale,()))=if o.scale<0 then 0 else o.scale:=by
  rw[LF,Kl _ (by split<;>omega) (by split<;>omega)]
 simp only[PX,rD,iY,dj,ho,hw,Bool.not_true,cond_false,Ou,jJ,kx,bL,Int.add_zero]
 rw[hl,e,show((irs+1)%4294967296%4294967296)=(irs+1)%4294967296 by omega]
 rfl
theorem Fu (t:Tupl)(iss irs:Int)(o:Opti)(w:Int)(ht:aG.f (t,())=true)(ho:aM.f (o,())=true)(h0:0≤w)(h1:w≤65535):CO (Ny t iss irs o w)∧bf (Ny t iss irs o w).r.held:=by
 have hs:=(fe o ho).2
 have hr:=Lq w o.scale h0 h1 hs
 have hsm:bf (Ny t iss irs o w).r.held:=λy hy=>by cases hy
 refine⟨⟨ht, ?_, ?_,ho,by show(1:Int)≤1;omega,by show(1:Int)≤8;omega,hr.1,hr.2,hr.1,Int.le_refl _,Int.le_refl _,by show(0:Int)≤4;omega,λ_=>by show(0:Int)≤3;omega,Int.le_refl _,by show(0:Int)≤3;omega,rfl⟩,hsm⟩
 ·refine⟨by show 0≤(iss+1)%4294967296;omega,by show(iss+1)%4294967296≤4294967295;omega,by show(0:Nat)≤48;omega,Int.le_refl _,by show(0:Int)≤((0:Nat):Int);omega,λh=>(by cases h),λh=>(by cases h)⟩
 ·rw[lw _ hsm]
  exact⟨by show 0≤(irs+1)%4294967296;omega,by show(irs+1)%4294967296≤4294967295;omega,by show(0:Nat)≤32;omega,by show(0:Nat)≤3;omega,Int.le_refl _,by show(-1:Int)≤mL _;unfold mL;simp[Ny],by show(-1:Int)≠0;omega,⟨0,by simp[Ny,d8]⟩,λh=>(by cases h)⟩
theorem B8 (i:Int)(o:Opti)(ho:aM.f (o,())=true):aM.f (cZ.f (i,o,()),())=true:=by
 have hm:0≤ga.f (i,())∧ga.f (i,())≤65535:=by
  simp only[PX,ga,av]
  by_cases h:0≤i∧i≤7
  ·rw[decide_eq_true h.1,decide_eq_true h.2]
   have:i=0∨i=1∨i=2∨i=3∨i=4∨i=5∨i=6∨i=7:=by omega
   rcases this with rfl|rfl|rfl|rfl|rfl|rfl|rfl|rfl<;>decide+kernel
  ·rw[show(decide (0≤i)&&decide (i≤7))=false by rw[Bool.and_eq_false_iff];simp only[decide_eq_false_iff_not];omega]
   simp
 have hsc: -1≤(mT.f (o.echo,())).1∧(mT.f (o.echo,())).1≤14:=by
  simp only[PX,mT,Pz]
  cases(bif !ae.f (o.echo,32,())then(true,())else((bits .and .i64 o.echo 32)==0,())).1 with
  |true=>simp only[cond_true];omega
  |false=>
   by_cases h:o.echo%16=15
   ·rw[show(o.echo%16==15)=true by simp[h]];simp only[cond_true,cond_false];omega
   ·rw[show(o.echo%16==15)=false by simp[h]];simp only[cond_false];omega
 simp only[PX,cZ,bQ]
 cases hs:o.stamp with
 |false=>
  simp only[cond_false]
  simp only[PX,aM,av,dh,cf,decide_eq_true hm.1,decide_eq_true hm.2]
  rfl
 |true=>
  have hv:0≤o.val∧o.val≤4294967295:=by
   simp only[PX,aM,hs,av,dh,cf,Bool.not_true,cond_false]at ho
   by_cases h:0≤o.val∧o.val≤4294967295
   ·exact h
   ·rw[show(decide (0≤o.val)&&decide (o.val≤4294967295))=false by rw[Bool.and_eq_false_iff];simp only[decide_eq_false_iff_not];omega]at ho
    revert ho
    cases(decide (0≤o.mss)&&decide (o.mss≤65535))<;>cases(decide (-1≤o.scale)&&decide (o.scale≤14))<;>simp
  simp only[cond_true]
  cases(mT.f (o.echo,())).2.2 with
  |false=>
   simp only[cond_false]
   simp only[PX,aM,av,dh,cf,decide_eq_true hm.1,decide_eq_true hm.2]
   rfl
  |true=>
   simp only[cond_true]
   simp only[PX,aM,av,dh,cf,decide_eq_true hm.1,decide_eq_true hm.2,decide_eq_true hsc.1,decide_eq_true hsc.2,decide_eq_true hv.1,decide_eq_true hv.2]
   rfl
def NS (d:Door)(c:Conn)(g:Segm)(made:Int):Door×List Segm×Int:=
 if dK.f ((⟨d.table.conns++[c],d.table.waiting++[c.tuple]⟩:Tabl),d.limits,())=true then
  ({d with halves:=u3 d.halves c.tuple,table:=⟨d.table.conns++[(d5 c g).1],d.table.waiting++[c.tuple]⟩},(d5 c g).2.1,made)
 else(d,[],0)
theorem Qd (t:Tabl)(l:Limi)(c:Conn)(g:Segm)(hs:bf c.r.held)(hT:dK.f ((⟨t.conns++[c],t.waiting++[c.tuple]⟩:Tabl),l,())=true):dd.f ((⟨t.conns++[c],t.waiting++[c.tuple]⟩:Tabl),(d5 c g).1,())=⟨t.conns++[(d5 c g).1],t.waiting++[c.tuple]⟩:=by
 have h:=(YZ _ _).1 hT
 have hc:=h.co c (by simp)
 have hr:=Jb c g hc hs
 rw[rx _ _ h.dc t.conns.length (by simp) (by simp[hr.2.1])]
 simp
theorem VI (d:Door)(c:Conn)(g:Segm)(m:Int)(hd:fA d)(hc:bf c.r.held)(hl:d.halves.length≤4294967296):zH.f (d,c,g,m,())=NS d c g m:=by
 simp only[PX,zH,kZ,aa7 d.table c d.limits hd hc,EC,D5 c g hc,PE,Br _ _ hl]
 unfold NS
 by_cases hT:dK.f ((⟨d.table.conns++[c],d.table.waiting++[c.tuple]⟩:Tabl),d.limits,())=true
 ·rw[if_pos hT,if_pos hT,Qd d.table d.limits c g hc hT];rfl
 ·rw[if_neg hT,if_neg hT];rfl
def TK (d:Door)(t:Tupl)(g:Segm):Door×List Segm×Int:=
 if bO.f (d,())=true∧aG.f (t,())=true∧ak.f (g,())=true∧¬0≤ar.f (d.table,t,())then
  if 0≤aX.f (d.halves,t,())then
   if g.ack≠((d.halves.getD (aX.f (d.halves,t,())).toNat (Ty.zero .half)).iss+1)%4294967296 then(d,gk.f (g,()),0)
   else if g.seq≠((d.halves.getD (aX.f (d.halves,t,())).toNat (Ty.zero .half)).irs+1)%4294967296 then(d,[],0)
   else NS d (Ny t (d.halves.getD (aX.f (d.halves,t,())).toNat (Ty.zero .half)).iss (d.halves.getD (aX.f (d.halves,t,())).toNat (Ty.zero .half)).irs (d.halves.getD (aX.f (d.halves,t,())).toNat (Ty.zero .half)).opts g.window) g 1
  else if(dq.f (d.keys,t,(g.seq+ -1)%4294967296,(g.ack+ -1)%4294967296,())).2.2=true then
   NS d (Ny t ((g.ack+ -1)%4294967296) ((g.seq+ -1)%4294967296) (cZ.f ((dq.f (d.keys,t,(g.seq+ -1)%4294967296,(g.ack+ -1)%4294967296,())).2.1,g.opts,())) g.window) g 2
  else(d,gk.f (g,()),0)
 else(d,[],0)
theorem FH (xs:List Half)(t:Tupl)(h:HO xs)(hf:0≤aX.f (xs,t,())):aM.f ((xs.getD (aX.f (xs,t,())).toNat (Ty.zero .half)).opts,())=true:=by
 rw[iI]at hf⊢
 obtain⟨i,e,hi,-⟩:=AR xs t (decide_eq_true hf)
 rw[e,ah,getD_some (List.getElem?_eq_getElem hi)]
 have:=h.ok _ (List.getElem_mem hi)
 unfold uI at this
 simp only[Bool.and_eq_true]at this
 exact this.2.2.2.2.1
theorem agp {A B C:Type}(x:A×B×C):(x.1,x.2.1,x.2.2)=x:=rfl
theorem Ya (d:Door)(t:Tupl)(g:Segm)(hs:fA d)(hl:d.halves.length≤4294967296):EU.f (d,t,g,())=TK d t g:=by
 simp only[PX,EU,kZ,Ky d t g hs,gM,wR,kx,bL,L7,NZ,Fy]
 unfold TK
 cases h1:bO.f (d,())with
 |false=>simp
 |true=>
 cases h2:aG.f (t,())with
 |false=>simp
 |true=>
 cases h3:ak.f (g,())with
 |false=>simp
 |true=>
 have hD:=(iH d).1 h1
 have hg:=(bv g).1 h3
 have hw:=hg.2.2.2.2.2.1
 by_cases h4:0≤ar.f (d.table,t,())
 ·rw[if_neg (λh=>h.2.2.2 h4),decide_eq_true h4];rfl
 rw[if_pos ⟨rfl,rfl,rfl,h4⟩,decide_eq_false h4]
 simp only[Bool.and_self,Bool.not_true,cond_false]
 by_cases h5:0≤aX.f (d.halves,t,())
 ·rw[if_pos h5,decide_eq_true h5]
  have ho:=FH d.halves t hD.hal h5
  obtain⟨h,hh⟩:∃h,d.halves.getD (aX.f (d.halves,t,())).toNat (Ty.zero .half)=h:=⟨_,rfl⟩
  rw[hh]at ho
  rw[cond_true,hh]
  by_cases h6:g.ack=(h.iss+1)%4294967296
  ·rw[if_neg (λhh=>hh h6),show(g.ack != (h.iss+1)%4294967296)=false by simp[h6]]
   by_cases h7:g.seq=(h.irs+1)%4294967296
   ·rw[if_neg (λhh=>hh h7),show(g.seq != (h.irs+1)%4294967296)=false by simp[h7]]
    rw[Ds t h.iss h.irs h.opts g.window ho hw.1 hw.2,VI d _ g 1 hs (Fu t h.iss h.irs h.opts g.window h2 ho hw.1 hw.2).2 hl]
    generalize NS d (Ny t h.iss h.irs h.opts g.window) g 1=z
    exact agp z
   ·rw[if_pos h7,show(g.seq != (h.irs+1)%4294967296)=true by simp[h7]];rfl
  ·rw[if_pos h6,show(g.ack != (h.iss+1)%4294967296)=true by simp[h6]];rfl
 ·rw[if_neg h5,decide_eq_false h5]
  have ho:=B8 (dq.f (d.keys,t,(g.seq+ -1)%4294967296,(g.ack+ -1)%4294967296,())).2.1 g.opts hg.2.2.2.2.2.2.1
  generalize dq.f (d.keys,t,(g.seq+ -1)%4294967296,(g.ack+ -1)%4294967296,())=k at ho⊢
  rw[cond_false]
  cases h6:k.2.2 with
  |false=>simp
  |true=>
   simp only[Bool.not_true,cond_false,if_true]
   have e1:=Ds t ((g.ack+ -1)%4294967296) ((g.seq+ -1)%4294967296) (cZ.f (k.2.1,g.opts,())) g.window ho hw.1 hw.2
   have e2:=VI d (Ny t ((g.ack+ -1)%4294967296) ((g.seq+ -1)%4294967296) (cZ.f (k.2.1,g.opts,())) g.window) g 2 hs (Fu t _ _ _ g.window h2 ho hw.1 hw.2).2 hl
   simp only[e1,e2]
theorem Xm (d:Door)(t:Tupl)(g:Segm)(hl:d.halves.length≤4294967296):Jx.f (d,t,g,())=TK d t g:=by
 simp only[PX,Jx,kt,bL]
 unfold TK
 have e:(bif !bO.f (d,())then(true,())else bif !aG.f (t,())then(true,())else bif !ak.f (g,())then(true,())else(decide (0≤ar.f (d.table,t,())),())).1= !decide (bO.f (d,())=true∧aG.f (t,())=true∧ak.f (g,())=true∧¬0≤ar.f (d.table,t,())):=by
  by_cases h4:0≤ar.f (d.table,t,())
  ·rw[decide_eq_true h4];cases bO.f (d,())<;>cases aG.f (t,())<;>cases ak.f (g,())<;>simp[h4]
  ·rw[decide_eq_false h4];cases bO.f (d,())<;>cases aG.f (t,())<;>cases ak.f (g,())<;>simp[h4]
 rw[e]
 by_cases hq:bO.f (d,())=true∧aG.f (t,())=true∧ak.f (g,())=true∧¬0≤ar.f (d.table,t,())
 case neg=>rw[decide_eq_false hq,if_neg hq];rfl
 rw[decide_eq_true hq,if_pos hq]
 obtain⟨h1,h2,h3,h4⟩:=hq
 have hD:=(iH d).1 h1
 have hg:=(bv g).1 h3
 have hw:=hg.2.2.2.2.2.1
 have L:∀(c:Conn) (m:Int),bf c.r.held→(c.tuple=t)→(bif !(mI.f (d.table,c,d.limits,())).2 then(d,([]:List Segm),(0:Int))else(({d with halves:=oJ.f (d.halves,t,()),table:=dd.f ((mI.f (d.table,c,d.limits,())).1,(o7.f (c,g,())).1,())}:Door),(o7.f (c,g,())).2.1,m))=NS d c g m:=by
  intro c m hc ht
  rw[EC,DM c g hc,BN _ _ hl]
  unfold NS
  by_cases hT:dK.f ((⟨d.table.conns++[c],d.table.waiting++[c.tuple]⟩:Tabl),d.limits,())=true
  ·rw[if_pos hT,if_pos hT]
   simp only[Bool.not_true,cond_false]
   rw[Qd d.table d.limits c g hc hT,ht]
  ·rw[if_neg hT,if_neg hT];rfl
 simp only[Bool.not_true,cond_false]
 by_cases h5:0≤aX.f (d.halves,t,())
 ·rw[if_pos h5]
  simp only[decide_eq_true h5,cond_true]
  have ho:=FH d.halves t hD.hal h5
  generalize d.halves.getD (aX.f (d.halves,t,())).toNat (Ty.zero .half)=h at ho⊢
  by_cases h6:g.ack=(h.iss+1)%4294967296
  ·rw[if_neg (λhh=>hh h6)]
   simp only[show(g.ack != (h.iss+1)%4294967296)=false by simp[h6],cond_false]
   by_cases h7:g.seq=(h.irs+1)%4294967296
   ·rw[if_neg (λhh=>hh h7)]
    simp only[show(g.seq != (h.irs+1)%4294967296)=false by simp[h7],cond_false]
    rw[←L _ 1 (Fu t h.iss h.irs h.opts g.window h2 ho hw.1 hw.2).2 rfl,←Ez t h.iss h.irs h.opts g.window ho hw.1 hw.2]
    rfl
   ·rw[if_pos h7]
    simp only[show(g.seq != (h.irs+1)%4294967296)=true by simp[h7],cond_true]
    rfl
  ·rw[if_pos h6]
   simp only[show(g.ack != (h.iss+1)%4294967296)=true by simp[h6],cond_true]
   rfl
 ·rw[if_neg h5]
  simp only[decide_eq_false h5,cond_false]
  have ho:=B8 (dq.f (d.keys,t,(g.seq+ -1)%4294967296,(g.ack+ -1)%4294967296,())).2.1 g.opts hg.2.2.2.2.2.2.1
  generalize dq.f (d.keys,t,(g.seq+ -1)%4294967296,(g.ack+ -1)%4294967296,())=k at ho⊢
  cases h6:k.2.2 with
  |false=>
   simp only[Bool.not_false,cond_true,Bool.false_eq_true,if_false]
   rfl
  |true=>
   simp only[Bool.not_true,cond_false,if_true]
   rw[←L _ 2 (Fu t _ _ _ g.window h2 ho hw.1 hw.2).2 rfl,←Ez t _ _ _ g.window ho hw.1 hw.2]
   rfl
def yl (src:Int)(g:Segm):Tupl:=⟨src,g.from_,g.to⟩
def K0 (d:Door)(k:Nat)(g:Segm):Door×List Segm×Int:=
 if(d5 (d.table.conns.getD k (Ty.zero .conn)) g).2.2=3 then
  if d.chal=d.limits.chal then({d with table.conns:=d.table.conns.set k (d5 (d.table.conns.getD k (Ty.zero .conn)) g).1},[],0)
  else({d with table.conns:=d.table.conns.set k (d5 (d.table.conns.getD k (Ty.zero .conn)) g).1,chal:=d.chal+1},(d5 (d.table.conns.getD k (Ty.zero .conn)) g).2.1,0)
 else({d with table.conns:=d.table.conns.set k (d5 (d.table.conns.getD k (Ty.zero .conn)) g).1},(d5 (d.table.conns.getD k (Ty.zero .conn)) g).2.1,0)
def abD (d:Door)(t:Tupl)(g:Segm):Door:=
 if 0≤aX.f (d.halves,t,())∧g.seq=((d.halves.getD (aX.f (d.halves,t,())).toNat (Ty.zero .half)).irs+1)%4294967296 then{d with halves:=u3 d.halves t}else d
def Oi (d:Door)(src:Int)(g:Segm):Door×List Segm×Int:=
 if bO.f (d,())=true∧ae.f (src,32,())=true∧ak.f (g,())=true then
  if g.to≠d.port then(d,gk.f (g,()),0)
  else if 0≤ar.f (d.table,yl src g,())then K0 d (ar.f (d.table,yl src g,())).toNat g
  else bif bH.f (g,4,())then(abD d (yl src g) g,[],0)
  else bif bH.f (g,2,())&&(!bH.f (g,16,())&& !bH.f (g,1,()))then((lP.f (d,yl src g,g,())).1,(lP.f (d,yl src g,g,())).2,0)
  else bif bH.f (g,16,())&& !bH.f (g,2,())then TK d (yl src g) g
  else bif bH.f (g,16,())then(d,gk.f (g,()),0)else(d,[],0)
 else(d,[],0)
theorem CY (d:Door)(t:Tupl)(h:0≤ar.f (d.table,t,())):∃k:Nat,ar.f (d.table,t,())=(k:Int)∧∃hk:k<d.table.conns.length,d.table.conns[k].tuple=t:=by
 rw[f8]at h⊢
 exact adw _ _ (decide_eq_true h)
theorem adX (d:Door)(k:Nat)(g:Segm)(hs:fA d)(hD:DO d)(hk:k<d.table.conns.length):AI.f (d,(k:Int),g,())=K0 d k g:=by
 have hsk:bf (d.table.conns.getD k (Ty.zero .conn)).r.held:=by
  rw[getD_some (List.getElem?_eq_getElem hk)];exact hs _ (List.getElem_mem hk)
 have k0:=hD.k0
 have k1:=hD.k1
 have k2:=hD.tab.lim.k1
 simp only[PX,AI,kZ,ah,D5 _ g hsk]
 unfold K0
 rw[am (by omega) (by omega)]
 by_cases h3:(d5 (d.table.conns.getD k (Ty.zero .conn)) g).2.2=3
 ·rw[if_pos h3,show((d5 (d.table.conns.getD k (Ty.zero .conn)) g).2.2==3)=true by rw[h3];rfl,cond_true]
  by_cases h4:d.chal=d.limits.chal
  ·rw[if_pos h4,show(d.chal==d.limits.chal)=true by simp[h4]];rfl
  ·rw[if_neg h4,show(d.chal==d.limits.chal)=false by simp[h4]];rfl
 ·rw[if_neg h3,show((d5 (d.table.conns.getD k (Ty.zero .conn)) g).2.2==3)=false from beq_eq_false_iff_ne.2 h3];rfl
theorem aaf (s:Int)(g:Segm):pc.f (s,g,())=yl s g:=by simp only[PX,pc,yl]
theorem Rl (s:Int)(g:Segm):Af.f (s,g,())=yl s g:=by simp only[PX,Af,yl]
theorem ok3 (a b c:Bool):(bif !a then(true,())else bif !b then(true,())else(!c,())).1= !decide (a=true∧b=true∧c=true):=by cases a<;>cases b<;>cases c<;>rfl
theorem hs3 (a b c:Bool):(bif a then bif !b then(!c,())else(false,())else(false,())).1=(a&&(!b&& !c)):=by cases a<;>cases b<;>cases c<;>rfl
theorem qM (a b:Bool):(bif a then(!b,())else(false,())).1=(a&& !b):=by cases a<;>cases b<;>rfl
theorem Th (p:Prop)[Decidable p](a b:Int):(bif decide p then(a==b,())else(false,())).1=decide (p∧a=b):=by
 by_cases h:p<;>by_cases h2:a=b<;>simp[h,h2]
theorem Yz (d:Door)(src:Int)(g:Segm)(hs:fA d)(hl:d.halves.length≤4294967296):Ji.f (d,src,g,())=Oi d src g:=by
 simp only[PX,Ji,kZ,EL d hs,dj,qn,aaf,gM,wR,kx,bL,L7,Pp,adT d _ g hs,Ya d _ g hs hl,Br _ _ hl,ok3,hs3,qM]
 unfold Oi
 by_cases hq:bO.f (d,())=true∧ae.f (src,32,())=true∧ak.f (g,())=true
 case neg=>rw[decide_eq_false hq,if_neg hq];rfl
 rw[decide_eq_true hq,if_pos hq,Bool.not_true,cond_false]
 have hD:=(iH d).1 hq.1
 by_cases hp:g.to=d.port
 case neg=>rw[if_pos hp,show(g.to != d.port)=true by simp[hp]];rfl
 rw[if_neg (λh=>h hp),show(g.to != d.port)=false by simp[hp],cond_false]
 by_cases hc:0≤ar.f (d.table,yl src g,())
 ·rw[if_pos hc,decide_eq_true hc,cond_true]
  obtain⟨k,e,hk,-⟩:=CY d _ hc
  rw[e,ah,adX d k g hs hD hk]
 rw[if_neg hc,decide_eq_false hc,cond_false]
 cases bH.f (g,4,())with
 |true=>
  rw[cond_true,cond_true,Th]
  unfold abD
  by_cases hr:0≤aX.f (d.halves,yl src g,())∧g.seq=((d.halves.getD (aX.f (d.halves,yl src g,())).toNat (Ty.zero .half)).irs+1)%4294967296
  ·rw[decide_eq_true hr,if_pos hr];rfl
  ·rw[decide_eq_false hr,if_neg hr];rfl
 |false=>
  rw[cond_false,cond_false]
theorem X0 (d:Door)(src:Int)(g:Segm)(hs:fA d)(hl:d.halves.length≤4294967296):Jm.f (d,src,g,())=Oi d src g:=by
 simp only[PX,Jm,kt,Rl,bL,Xm d _ g hl,BN _ _ hl,ok3,hs3,qM]
 unfold Oi
 by_cases hq:bO.f (d,())=true∧ae.f (src,32,())=true∧ak.f (g,())=true
 case neg=>rw[decide_eq_false hq,if_neg hq];rfl
 rw[decide_eq_true hq,if_pos hq,Bool.not_true,cond_false]
 have hD:=(iH d).1 hq.1
 by_cases hp:g.to=d.port
 case neg=>rw[if_pos hp,show(g.to != d.port)=true by simp[hp]];rfl
 rw[if_neg (λh=>h hp),show(g.to != d.port)=false by simp[hp],cond_false]
 by_cases hc:0≤ar.f (d.table,yl src g,())
 ·rw[if_pos hc,decide_eq_true hc,cond_true]
  obtain⟨k,e,hk,ht⟩:=CY d _ hc
  rw[e,ah]
  have hsk:bf (d.table.conns.getD k (Ty.zero .conn)).r.held:=by
   rw[getD_some (List.getElem?_eq_getElem hk)];exact hs _ (List.getElem_mem hk)
  have hck:CO (d.table.conns.getD k (Ty.zero .conn)):=by
   rw[getD_some (List.getElem?_eq_getElem hk)];exact hD.tab.co _ (List.getElem_mem hk)
  have hrk:=Jb _ g hck hsk
  have hset:dd.f (d.table,(d5 (d.table.conns.getD k (Ty.zero .conn)) g).1,())=⟨d.table.conns.set k (d5 (d.table.conns.getD k (Ty.zero .conn)) g).1,d.table.waiting⟩:=rx d.table _ hD.tab.dc k hk (by rw[hrk.2.1,getD_some (List.getElem?_eq_getElem hk)])
  have k0:=hD.k0
  have k1:=hD.k1
  have k2:=hD.tab.lim.k1
  rw[DM _ g hsk]
  unfold K0
  by_cases h3:(d5 (d.table.conns.getD k (Ty.zero .conn)) g).2.2=3
  ·rw[if_pos h3,show((d5 (d.table.conns.getD k (Ty.zero .conn)) g).2.2==3)=true by rw[h3];rfl,cond_true]
   by_cases h4:d.chal=d.limits.chal
   ·rw[if_pos h4,show(d.chal==d.limits.chal)=true by simp[h4]]
    show(({d with table:=dd.f (d.table,(d5 (d.table.conns.getD k (Ty.zero .conn)) g).1,())}:Door),([]:List Segm),(0:Int))=_
    rw[hset]
   ·rw[if_neg h4,show(d.chal==d.limits.chal)=false by simp[h4]]
    show(({d with table:=dd.f (d.table,(d5 (d.table.conns.getD k (Ty.zero .conn)) g).1,()),chal:=IntKind.wrap .i64 (d.chal+1)}:Door),(d5 (d.table.conns.getD k (Ty.zero .conn)) g).2.1,(0:Int))=_
    rw[hset,am (by omega) (by omega)]
  ·rw[if_neg h3,show((d5 (d.table.conns.getD k (Ty.zero .conn)) g).2.2==3)=false from beq_eq_false_iff_ne.2 h3]
   show(({d with table:=dd.f (d.table,(d5 (d.table.conns.getD k (Ty.zero .conn)) g).1,())}:Door),(d5 (d.table.conns.getD k (Ty.zero .conn)) g).2.1,(0:Int))=_
   rw[hset]
 rw[if_neg hc,decide_eq_false hc,cond_false]
 cases bH.f (g,4,())with
 |true=>
  rw[cond_true,cond_true,Th]
  unfold abD
  by_cases hr:0≤aX.f (d.halves,yl src g,())∧g.seq=((d.halves.getD (aX.f (d.halves,yl src g,())).toNat (Ty.zero .half)).irs+1)%4294967296
  ·rw[decide_eq_true hr,if_pos hr];rfl
  ·rw[decide_eq_false hr,if_neg hr];rfl
 |false=>
  rw[cond_false,cond_false]
theorem VG (t:Tabl)(x:Tupl):¬0≤ar.f (t,x,())↔x∉t.conns.map Conn.tuple:=by
 rw[f8,←De,←mc]
 simp
theorem abL (d:Door)(c:Conn)(g:Segm)(m:Int)(hD:DO d)(hs:bf c.r.held)(hn:c.tuple∉d.table.conns.map Conn.tuple):DO (NS d c g m).1∧∀y∈(NS d c g m).2.1,ak.f (y,())=true:=by
 unfold NS
 by_cases hT:dK.f ((⟨d.table.conns++[c],d.table.waiting++[c.tuple]⟩:Tabl),d.limits,())=true
 case neg=>rw[if_neg hT];exact⟨hD,λy hy=>by cases hy⟩
 rw[if_pos hT]
 have h:=(YZ _ _).1 hT
 have hc:=h.co c (by simp)
 have hr:=Jb c g hc hs
 have hset:=TO.set h d.table.conns.length (d5 c g).1 hr.1 (by simp) (by simp[hr.2.1])
 have e:(d.table.conns++[c]).set d.table.conns.length (d5 c g).1=d.table.conns++[(d5 c g).1]:=by simp
 rw[e]at hset
 have hsub:=Pa d.halves c.tuple
 refine⟨⟨hD.port,hD.c0,hD.c1,hD.keys,hset,HO.sub hD.hal hsub, ?_,hD.k0,hD.k1, ?_⟩,hr.2.2.1⟩
 ·show((u3 d.halves c.tuple).length:Int)≤d.limits.halves
  have:=hsub.length_le
  have:=hD.nh
  omega
 ·intro y hy hm
  have hy2:y∈u3 d.halves c.tuple:=hy
  have hm2:y.tuple∈(d.table.conns++[(d5 c g).1]).map Conn.tuple:=hm
  rw[List.map_append,List.mem_append]at hm2
  rcases hm2 with h1|h1
  ·exact hD.ap y (hsub.subset hy2) h1
  ·simp only[List.map_cons,List.map_nil,List.mem_singleton,hr.2.1]at h1
   have hy3:=List.mem_map_of_mem (f:=Half.tuple) hy2
   rw[h1]at hy3
   exact Yd d.halves c.tuple hD.hal.nd hy3
theorem afr (d:Door)(t:Tupl)(g:Segm)(hD:DO d):DO (TK d t g).1∧∀y∈(TK d t g).2.1,ak.f (y,())=true:=by
 have nil:∀y∈([]:List Segm),ak.f (y,())=true:=λy hy=>by cases hy
 unfold TK
 split
 ·rename_i hq
  obtain⟨h1,h2,h3,h4⟩:=hq
  have hg:=(bv g).1 h3
  have hw:=hg.2.2.2.2.2.1
  have hn:=(VG d.table t).1 h4
  split
  ·rename_i h5
   have ho:=FH d.halves t hD.hal h5
   split
   ·exact⟨hD,Av g h3⟩
   ·split
    ·exact⟨hD,nil⟩
    ·exact abL d _ g 1 hD (Fu t _ _ _ g.window h2 ho hw.1 hw.2).2 hn
  ·split
   ·have ho:=B8 (dq.f (d.keys,t,(g.seq+ -1)%4294967296,(g.ack+ -1)%4294967296,())).2.1 g.opts hg.2.2.2.2.2.2.1
    exact abL d _ g 2 hD (Fu t _ _ _ g.window h2 ho hw.1 hw.2).2 hn
   ·exact⟨hD,Av g h3⟩
 ·exact⟨hD,nil⟩
theorem YK (xs:List Half)(h:Half)(n:Int):oS.f (xs,h,n,())=if(xs.length:Int)<n∧ff.f (xs++[h],())=true then(xs++[h],true)else(xs,false):=by
 simp only[PX,oS,eA,List.nil_append]
 by_cases h1:n≤(xs.length:Int)
 ·rw[decide_eq_true h1,if_neg (by omega)];rfl
 ·rw[decide_eq_false h1]
  cases h2:ff.f (xs++[h],())with
  |true=>rw[if_pos ⟨by omega,rfl⟩];rfl
  |false=>rw[if_neg (by simp)];rfl
theorem aa9 (d:Door)(t:Tupl)(g:Segm)(hk:eg.f (d.keys,())=true)(ht:aG.f (t,())=true)(hg:ak.f (g,())=true)(sq:Int)(h0:0≤sq∧sq≤4294967295):ak.f (({eS.f (d,t,g,())with seq:=sq}:Segm),())=true:=by
 have hp:=(bv g).1 hg
 have h1:=O8 t ht
 have ho:=FN g.opts d.clock (by rw[iY];exact hp.2.2.2.2.2.2.1)
 rw[iY]at ho
 rw[bv]
 simp only[PX,eS,bL]
 exact⟨h1.2.2,h1.2.1,h0,by omega,by omega,by omega,ho,by simp⟩
theorem acV (d:Door)(t:Tupl)(g:Segm)(hD:DO d)(ht:aG.f (t,())=true)(hg:ak.f (g,())=true):DO (lP.f (d,t,g,())).1∧(∀y∈(lP.f (d,t,g,())).2,ak.f (y,())=true)∧(lP.f (d,t,g,())).1.table=d.table∧(lP.f (d,t,g,())).1={d with halves:=(lP.f (d,t,g,())).1.halves}:=by
 have nil:∀y∈([]:List Segm),ak.f (y,())=true:=λy hy=>by cases hy
 have hp:=(bv g).1 hg
 have hsq:=W8 d t g
 have ha:=aa9 d t g hD.keys ht hg
 have hown:∀y∈[eS.f (d,t,g,())],ak.f (y,())=true:=λy hy=>by
  rw[List.mem_singleton.1 hy]
  exact ha (eS.f (d,t,g,())).seq ⟨hsq.1,hsq.2 ht hD.keys hp.2.2.1⟩
 rw[Qi,(iH d).2 hD,ht,hg]
 simp only[Bool.and_self,cond_true]
 by_cases h5:0≤aX.f (d.halves,t,())
 ·rw[decide_eq_true h5,cond_true]
  have hiss:0≤(d.halves.getD (aX.f (d.halves,t,())).toNat (Ty.zero .half)).iss∧(d.halves.getD (aX.f (d.halves,t,())).toNat (Ty.zero .half)).iss≤4294967295:=by
   rw[iI]at h5⊢
   obtain⟨i,e,hi,-⟩:=AR d.halves t (decide_eq_true h5)
   rw[e,ah,getD_some (List.getElem?_eq_getElem hi)]
   have:=hD.hal.ok _ (List.getElem_mem hi)
   unfold uI at this
   simp only[Bool.and_eq_true,cf,decide_eq_true_eq]at this
   exact this.2.1
  generalize d.halves.getD (aX.f (d.halves,t,())).toNat (Ty.zero .half)=h at hiss⊢
  cases(h.irs != g.seq)with
  |true=>exact⟨hD,nil,rfl,rfl⟩
  |false=>exact⟨hD,λy hy=>by
    simp only[cond_false,List.mem_singleton]at hy
    rw[hy];exact ha h.iss hiss,rfl,rfl⟩
 ·rw[decide_eq_false h5,cond_false]
  by_cases h4:0≤ar.f (d.table,t,())
  ·rw[decide_eq_false (show¬ar.f (d.table,t,())<0 by omega),cond_false]
   exact⟨hD,hown,rfl,rfl⟩
  ·rw[decide_eq_true (show ar.f (d.table,t,())<0 by omega),cond_true,YK]
   refine⟨?_,hown,rfl,rfl⟩
   by_cases h6:(d.halves.length:Int)<d.limits.halves∧ff.f (d.halves++[(⟨t,(eS.f (d,t,g,())).seq,g.seq,jG.f (g.opts,()),0,g.window⟩:Half)],())=true
   ·rw[if_pos h6]
    refine⟨hD.port,hD.c0,hD.c1,hD.keys,hD.tab,(adf _).1 h6.2, ?_,hD.k0,hD.k1, ?_⟩
    ·show(((d.halves++[_]).length:Nat):Int)≤d.limits.halves
     rw[List.length_append,List.length_singleton];omega
    ·intro y hy
     rcases List.mem_append.1 hy with h7|h7
     ·exact hD.ap y h7
     ·rw[List.mem_singleton.1 h7]
      exact(VG d.table t).1 h4
   ·rw[if_neg h6];exact hD
theorem ad4 (d:Door)(k:Nat)(g:Segm)(hs:fA d)(hD:DO d)(hk:k<d.table.conns.length):DO (K0 d k g).1∧∀y∈(K0 d k g).2.1,ak.f (y,())=true:=by
 have nil:∀y∈([]:List Segm),ak.f (y,())=true:=λy hy=>by cases hy
 have hsk:bf (d.table.conns.getD k (Ty.zero .conn)).r.held:=by
  rw[getD_some (List.getElem?_eq_getElem hk)];exact hs _ (List.getElem_mem hk)
 have hck:CO (d.table.conns.getD k (Ty.zero .conn)):=by
  rw[getD_some (List.getElem?_eq_getElem hk)];exact hD.tab.co _ (List.getElem_mem hk)
 have hr:=Jb _ g hck hsk
 have ht:(d5 (d.table.conns.getD k (Ty.zero .conn)) g).1.tuple=d.table.conns[k].tuple:=by
  rw[hr.2.1,getD_some (List.getElem?_eq_getElem hk)]
 have k0:=hD.k0
 have k1:=hD.k1
 have hset:=TO.set hD.tab k _ hr.1 hk ht
 have hmap:=ZF d.table.conns k _ hk ht
 have base:∀ch:Int,0≤ch→ch≤d.limits.chal→DO ({d with table.conns:=d.table.conns.set k (d5 (d.table.conns.getD k (Ty.zero .conn)) g).1,chal:=ch}:Door):=λch h0 h1=>by
  refine⟨hD.port,hD.c0,hD.c1,hD.keys,hset,hD.hal,hD.nh,h0,h1,λy hy hm=>hD.ap y hy ?_⟩
  have hm2:y.tuple∈(d.table.conns.set k (d5 (d.table.conns.getD k (Ty.zero .conn)) g).1).map Conn.tuple:=hm
  rw[hmap]at hm2;exact hm2
 unfold K0
 split
 ·split
  ·exact⟨base d.chal k0 k1,nil⟩
  ·exact⟨base (d.chal+1) (by omega) (by omega),hr.2.2.1⟩
 ·exact⟨base d.chal k0 k1,hr.2.2.1⟩
theorem adQ (src:Int)(g:Segm)(h1:ae.f (src,32,())=true)(hg:ak.f (g,())=true):aG.f (yl src g,())=true:=by
 have hp:=(bv g).1 hg
 simp only[PX,aG,yl,h1,dh,decide_eq_true hp.1.1,decide_eq_true hp.1.2,decide_eq_true hp.2.1.1,decide_eq_true hp.2.1.2]
 rfl
theorem aeX (d:Door)(t:Tupl)(g:Segm)(hD:DO d):DO (abD d t g):=by
 unfold abD
 split
 ·have hsub:=Pa d.halves t
  refine⟨hD.port,hD.c0,hD.c1,hD.keys,hD.tab,HO.sub hD.hal hsub, ?_,hD.k0,hD.k1,λy hy=>hD.ap y (hsub.subset hy)⟩
  show((u3 d.halves t).length:Int)≤d.limits.halves
  have:=hsub.length_le
  have:=hD.nh
  omega
 ·exact hD
theorem ac0 (d:Door)(src:Int)(g:Segm)(hs:fA d)(hD:DO d):DO (Oi d src g).1∧∀y∈(Oi d src g).2.1,ak.f (y,())=true:=by
 have nil:∀y∈([]:List Segm),ak.f (y,())=true:=λy hy=>by cases hy
 unfold Oi
 split
 ·rename_i hq
  obtain⟨h1,h2,h3⟩:=hq
  have ht:=adQ src g h2 h3
  split
  ·exact⟨hD,Av g h3⟩
  ·split
   ·rename_i hc
    obtain⟨k,e,hk,-⟩:=CY d _ hc
    rw[e,ah]
    exact ad4 d k g hs hD hk
   ·cases bH.f (g,4,())with
    |true=>exact⟨aeX d _ g hD,nil⟩
    |false=>
     rw[cond_false]
     cases(bH.f (g,2,())&&(!bH.f (g,16,())&& !bH.f (g,1,())))with
     |true=>exact⟨(acV d _ g hD ht h3).1,(acV d _ g hD ht h3).2.1⟩
     |false=>
      rw[cond_false]
      cases(bH.f (g,16,())&& !bH.f (g,2,()))with
      |true=>exact afr d _ g hD
      |false=>
       rw[cond_false]
       cases bH.f (g,16,())with
       |true=>exact⟨hD,Av g h3⟩
       |false=>exact⟨hD,nil⟩
 ·exact⟨hD,nil⟩
theorem SW (x:List Int)(hb:yp.f (x,())=false):x.length≤1048576:=by
 simp only[PX,yp,decide_eq_false_iff_not]at hb
 omega
theorem kO (n sz:Int)(h1:1≤sz)(h6:sz≤6)(h:ae.f (n,8*sz,())=true):((aA.f (n,sz,())).length:Int)=sz:=by
 have hw:IntKind.wrap .i64 (8*sz)=8*sz:=am (by omega) (by omega)
 simp only[PX,aA,av,eH,hw,h,decide_eq_true h1,decide_eq_true h6,Bool.and_self,Bool.not_true,cond_false]
 generalize Int.toNat (IntKind.wrap .i64 (sz-1)-0+1)=k
 generalize IntKind.wrap .i64 (sz-1)=i
 cases hf:aP (λj a=>(dQ j a).nice) (-1) k i (n,List.replicate sz.toNat 0)with
 |out e=>exact Empty.elim e
 |next a=>
  have:=Cm (P:=λa:Int×List Int=>a.2.length=sz.toNat) (λi a a' ha h=>by
   simp only[PX,dQ]at h
   cases h
   simpa using ha) _ _ _ _ (by simp) hf
  simp only[PX,Stp.elim,bA]
  omega
theorem TM (n sz:Int)(h1:1≤sz)(h6:sz≤6)(h:ae.f (n,8*sz,())=false):aA.f (n,sz,())=[]:=by
 have hw:IntKind.wrap .i64 (8*sz)=8*sz:=am (by omega) (by omega)
 simp only[PX,aA,av,hw,h,decide_eq_true h1,decide_eq_true h6,Bool.and_self,Bool.not_true,Bool.not_false,cond_false,cond_true]
theorem zL (n sz:Int)(h1:1≤sz)(h6:sz≤6):(aA.f (n,sz,())==[])= !ae.f (n,8*sz,()):=by
 rcases Bool.eq_false_or_eq_true (ae.f (n,8*sz,()))with h|h
 ·have:=kO n sz h1 h6 h
  rw[h]
  cases hp:aA.f (n,sz,())with
  |nil=>rw[hp]at this;simp at this;omega
  |cons a r=>rfl
 ·rw[TM n sz h1 h6 h,h];rfl
def ws:Bool→aa→Int
 |_,[]=>0
 |false,b::t=>256*(b.toNat:Int)+ws true t
 |true,b::t=>(b.toNat:Int)+ws false t
theorem afp (v:aa)(hv:v.length≤4294967296):∀(n j:Nat) (a:Int),j+n=v.length→0≤a→a≤65536*(j:Int)→aP (λj a=>(iD v j a).nice) 1 n (j:Int) a= .next (a+ws (j%2==1) (v.drop j))
 |0,j,a,h,_,_=>by rw[List.drop_of_length_le (by omega)];simp[aP,ws]
 |n+1,j,a,h,h0,h1=>by
  have hj:j<v.length:=by omega
  have hb:=qT v[j]
  rw[List.drop_eq_getElem_cons hj]
  have ht:(((j:Int).tmod 2)==0)= !(j%2==1):=by
   rw[Int.tmod_eq_emod_of_nonneg (by omega),Bool.eq_iff_iff]
   simp;omega
  have hnx:((j+1)%2==1)= !(j%2==1):=by
   rw[Bool.eq_iff_iff];simp;omega
  cases hp:(j%2==1)with
  |true=>
   have ih:=afp v hv n (j+1) (a+(v[j].toNat:Int)) (by omega) (by omega) (by omega)
   simp only[PX,iD]at ih
   simp only[aP,PX,iD,ht,hp,ah,jV _ _ hj,Bool.not_true,cond_false,Stp.elim,ws]
   rw[am (m:=(v[j].toNat:Int)) (by omega) (by omega),am (by omega) (by omega),show(j:Int)+1=((j+1:Nat):Int) by omega,ih,hnx,hp]
   simp only[Bool.not_true]
   congr 1;omega
  |false=>
   have ih:=afp v hv n (j+1) (a+256*(v[j].toNat:Int)) (by omega) (by omega) (by omega)
   simp only[PX,iD]at ih
   simp only[aP,PX,iD,ht,hp,ah,jV _ _ hj,Bool.not_false,cond_true,Stp.elim,ws]
   rw[am (m:=(v[j].toNat:Int)) (by omega) (by omega),am (m:=(v[j].toNat:Int)*256) (by omega) (by omega),am (by omega) (by omega),show(j:Int)+1=((j+1:Nat):Int) by omega,show a+(v[j].toNat:Int)*256=a+256*(v[j].toNat:Int) by omega,ih,hnx,hp]
   simp only[Bool.not_false]
   congr 1;omega
theorem wm (v:aa)(hv:v.length≤4294967296):rS.f (v,())=ws false v:=by
 simp only[PX,rS,kB]
 have:=afp v hv v.length 0 0 (by omega) (by omega) (by omega)
 rw[aL,show(0:Int)=((0:Nat):Int) from rfl]
 rw[show(0:Int)=((0:Nat):Int) from rfl]at this
 rw[this]
 simp[Stp.elim]
theorem afj (v:aa)(hv:v.length≤4294967296):∀(k j:Nat) (a:Int),k=(v.length-j+1)/2→0≤a→a≤65536*(j:Int)→aP (λj a=>(ib v j a).nice) 2 k (j:Int) a= .next (a+ws false (v.drop j))
 |0,j,a,h,_,_=>by rw[List.drop_of_length_le (by omega)];simp[aP,ws]
 |k+1,j,a,h,h0,h1=>by
  have hj:j<v.length:=by omega
  have hb:=qT v[j]
  rw[List.drop_eq_getElem_cons hj]
  by_cases h2:j+1<v.length
  ·have hb2:=qT v[j+1]
   have ih:=afj v hv k (j+2) (a+256*(v[j].toNat:Int)+(v[j+1].toNat:Int)) (by omega) (by omega) (by omega)
   rw[List.drop_eq_getElem_cons h2]
   simp only[PX,ib]at ih
   simp only[aP,PX,ib,ah,jV _ _ hj,Stp.elim,ws]
   rw[am (m:=(j:Int)+1) (by omega) (by omega),decide_eq_true (show(j:Int)+1<(v.length:Int) by omega),cond_true,show((j:Int)+1).toNat=j+1 by omega,jV _ _ h2,am (m:=(v[j].toNat:Int)) (by omega) (by omega),am (m:=256*(v[j].toNat:Int)) (by omega) (by omega),am (m:=a+256*(v[j].toNat:Int)) (by omega) (by omega),am (m:=(v[j+1].toNat:Int)) (by omega) (by omega),am (by omega) (by omega)]
   simp only[Stp.elim]
   rw[show(j:Int)+2=((j+2:Nat):Int) by omega,ih]
   congr 1
   have e:ws false (List.drop (j+1+1) v)=ws false (List.drop (j+2) v):=rfl
   omega
  ·have ih:=afj v hv k (j+2) (a+256*(v[j].toNat:Int)) (by omega) (by omega) (by omega)
   rw[List.drop_of_length_le (show v.length≤j+1 by omega)]
   rw[List.drop_of_length_le (show v.length≤j+2 by omega)]at ih
   simp only[PX,ib]at ih
   simp only[aP,PX,ib,ah,jV _ _ hj,Stp.elim,ws]
   rw[am (m:=(j:Int)+1) (by omega) (by omega),decide_eq_false (show¬(j:Int)+1<(v.length:Int) by omega),cond_false,am (m:=(v[j].toNat:Int)) (by omega) (by omega),am (m:=256*(v[j].toNat:Int)) (by omega) (by omega),am (m:=a+256*(v[j].toNat:Int)) (by omega) (by omega)]
   simp only[Stp.elim]
   rw[show(j:Int)+2=((j+2:Nat):Int) by omega,ih]
   congr 1
   simp only[ws];omega
theorem Ra (v:aa)(hv:v.length≤4294967296):Ad.f (v,())=ws false v:=by
 simp only[PX,Ad,dW]
 have:=afj v hv ((v.length+1)/2) 0 0 (by omega) (by omega) (by omega)
 rw[show Int.toNat (((v.length:Int)-0+1)/2)=(v.length+1)/2 by omega,show(0:Int)=((0:Nat):Int) from rfl]
 rw[show(0:Int)=((0:Nat):Int) from rfl]at this
 rw[this]
 simp[Stp.elim]
theorem acd (n:Int):D4.f (n,())=DJ.f (n,()):=by
 have e:uK=uA:=by
  funext a
  unfold uK uA
  rw[show decide (65535<a)=decide (65536≤a) from decide_eq_decide.2 (by omega)]
 simp only[PX,D4,DJ,pH,pE,e]
theorem Rk (v:aa)(hv:v.length≤4294967296):ut.f (v,())=tH.f (v,()):=by
 simp only[PX,ut,tH,Ra v hv,wm v hv,acd]
theorem SM:∀(n:Nat) (a b:aa),a.length=2*n→ws false (a++b)=ws false a+ws false b
 |0,a,b,h=>by
  have e:a=[]:=List.eq_nil_of_length_eq_zero (by omega)
  subst e
  simp[ws]
 |n+1,[],b,h=>by simp at h
 |n+1,[x],b,h=>by simp at h;omega
 |n+1,x::y::a,b,h=>by
  have ih:=SM n a b (by simp only[List.length_cons]at h;omega)
  simp only[List.cons_append,ws,ih];omega
theorem Dt (a b n:Int):nJ.f (a,b,n,())=eB.f (a,b,n,()):=by
 have h1:=zL a 4 (by omega) (by omega)
 have h2:=zL b 4 (by omega) (by omega)
 have h3:=zL n 2 (by omega) (by omega)
 rw[show(8:Int)*4=32 from rfl]at h1 h2
 rw[show(8:Int)*2=16 from rfl]at h3
 simp only[PX,nJ,eB,oQ,h1,h2,h3]
theorem afS:tn=th:=rfl
theorem O0 (o:Opti):pK.f (o,())=cF.f (o,()):=by
 simp only[PX,pK,cF,iY,oQ,jo,jv,afS]
 rcases Bool.eq_false_or_eq_true (aM.f (o,()))with h|h
 case inr=>rw[h];rfl
 have hs:=fe o h
 have e:decide (0≤o.scale)=(o.scale != -1):=by
  rw[Bool.eq_iff_iff];simp;omega
 rw[h]
 cases h1:(o.mss != 0)<;>cases h2:(o.scale != -1)<;>cases h3:o.sack<;>cases h4:o.stamp<;>simp only[e,h2,h3,h4,Bool.not_true,cond_true,cond_false,List.nil_append,List.append_assoc]
theorem aeu (o:Opti):(cF.f (o,())).length≤20:=(cF.c.h (o,()) trivial).2
theorem aeS (a b n:Int):(eB.f (a,b,n,())).length≤20:=(eB.c.h (a,b,n,()) trivial).2
theorem Mu (n sz:Int):((aA.f (n,sz,())).length:Int)≤max sz 0:=(aA.c.h (n,sz,()) trivial).2
theorem NX (g:Segm)(a b:Int):lG.f (g,a,b,())=cE.f (g,a,b,()):=by
 simp only[PX,lG,cE,qn,O0,Dt,oQ]
 rcases Bool.eq_false_or_eq_true (ak.f (g,()))with h|h
 case inr=>rw[h,Bool.not_false,cond_true,cond_true]
 rw[h,Bool.not_true,cond_false,cond_false]
 have hb:=io g h
 rw[Rk]
 have h1:=aeu g.opts
 generalize IntKind.wrap .i64 ((IntKind.wrap .i64 (20+((cF.f (g.opts,())).length:Int)))+(g.body.length:Int))=n
 have h2:=aeS a b n
 have h3:=Mu g.from_ 2
 have h4:=Mu g.to 2
 have h5:=Mu g.seq 4
 have h6:=Mu g.ack 4
 have h7:=Mu (IntKind.wrap .i64 ((IntKind.wrap .i64 ((IntKind.wrap .i64 (20+((cF.f (g.opts,())).length:Int))).tdiv 4))*16)) 1
 have h8:=Mu g.flags 1
 have h9:=Mu g.window 2
 simp only[List.length_append,List.length_cons,List.length_nil]
 omega
theorem aai (f:Fram):Aq.f (f,())=ge.f (f,()):=by
 simp only[PX,Aq,ge,dj,bF,av]
theorem zm (f:Fram):fD.f (f,())=gv.f (f,()):=by
 simp only[PX,fD,gv,aai,oQ]
theorem XV (p:Pack):wX.f (p,())=mF.f (p,()):=by
 simp only[PX,wX,mF,dj,bF,av]
theorem LT (p:Pack)(h:mF.f (p,())=true):ae.f (p.src,32,())=true∧ae.f (p.dst,32,())=true∧1≤p.ttl∧p.ttl≤255∧ae.f (p.proto,8,())=true∧ae.f (p.id,16,())=true∧p.body.length≤1480:=by
 simp only[PX,mF,av]at h
 revert h
 cases ae.f (p.src,32,())<;>cases ae.f (p.dst,32,())<;>cases ae.f (p.proto,8,())<;>cases ae.f (p.id,16,())<;>simp<;>omega
theorem Ru (p:Pack):kR.f (p,())=rt.f (p,()):=by
 simp only[PX,kR,rt,XV,oQ]
 rcases Bool.eq_false_or_eq_true (mF.f (p,()))with h|h
 case inr=>rw[h,Bool.not_false,cond_true,cond_true]
 obtain⟨hs,hd,t1,t2,hp,hi,hb⟩:=LT p h
 rw[h,Bool.not_true,cond_false,cond_false]
 have w:IntKind.wrap .i64 (20+(p.body.length:Int))=20+(p.body.length:Int):=am (by omega) (by omega)
 rw[w]
 have n1:ae.f (20+(p.body.length:Int),8*2,())=true:=by
  rw[show(8:Int)*2=16 from rfl,dh]
  simp;omega
 have l1:=kO (20+(p.body.length:Int)) 2 (by omega) (by omega) n1
 have l2:=kO p.id 2 (by omega) (by omega) hi
 have l3:=kO p.ttl 1 (by omega) (by omega) (by rw[show(8:Int)*1=8 from rfl,Yl];simp;omega)
 have l4:=kO p.proto 1 (by omega) (by omega) hp
 have l5:=kO p.src 4 (by omega) (by omega) hs
 have l6:=kO p.dst 4 (by omega) (by omega) hd
 generalize aA.f (20+(p.body.length:Int),2,())=a at*
 generalize aA.f (p.id,2,())=b at*
 generalize aA.f (p.ttl,1,())=c at*
 generalize aA.f (p.proto,1,())=d at*
 generalize aA.f (p.src,4,())=e at*
 generalize aA.f (p.dst,4,())=f at*
 have key:ut.f ((((([69,0]++a)++b)++[0,0])++c++d)++(e++f),())=tH.f ((((((([69,0]++a)++b)++[0,0])++c)++d)++[0,0])++(e++f),()):=by
  rw[Rk]
  ·have e1:rS.f ((((([69,0]++a)++b)++[0,0])++c++d)++(e++f),())=rS.f ((((((([69,0]++a)++b)++[0,0])++c)++d)++[0,0])++(e++f),()):=by
    rw[wm,wm,SM 5 (((([69,0]++a)++b)++[0,0])++c++d),SM 6 ((((([69,0]++a)++b)++[0,0])++c++d)++[0,0]),SM 5 (((([69,0]++a)++b)++[0,0])++c++d)]
    ·simp[ws]
    all_goals simp only[List.length_append,List.length_cons,List.length_nil];omega
   simp only[PX,tH,e1]
  ·simp only[List.length_append,List.length_cons,List.length_nil];omega
 rw[key]
def hwN (v:List Entr)(ip:Int):Int×Bool:=match v.findIdx? (λe=>e.ip==ip)with
 |some i=>(match v[i]? with|some x=>(x.hw,true)|none=>(0,false))
 |none=>(0,false)
theorem AW (v:List Entr)(ip:Int):B2.f (v,ip,())=hwN v ip:=by
 simp only[PX,B2,uu]
 rw[aL,ci v _ rfl (F:=λj x _=>bif x.ip==ip then .out x.hw else .next ()) (λj x a h=>by
  simp only[PX,GG,ah,getD_some h]),ke (p:=λe:Entr=>e.ip==ip) (w:=λ_ x=>x.hw)]
 unfold hwN
 cases v.findIdx? (λe=>e.ip==ip)with
 |none=>rfl
 |some i=>cases h:v[i]? <;>simp only[h]<;>rfl
theorem Ca (v:List Entr)(ip:Int):AG.f (v,ip,())=em (λe=>e.ip==ip) v:=by
 simp only[PX,AG,rm]
 rw[jO (λe:Entr=>e.ip==ip) v (λj x a h=>by simp only[PX,Ei,ah,getD_some h])]
 unfold em
 cases v.findIdx? (λe=>e.ip==ip)<;>rfl
theorem aeZ (v:List Entr)(ip:Int):Rt.f (v,ip,())=B2.f (v,ip,()):=by
 simp only[PX,Rt,Ca,AW]
 unfold hwN em
 cases hf:v.findIdx? (λe=>e.ip==ip)with
 |none=>rfl
 |some i=>
  obtain⟨h1,_,_⟩:=List.findIdx?_eq_some_iff_getElem.1 hf
  have h2:v[i]? =some v[i]:=List.getElem?_eq_getElem h1
  simp only[h2,ah,getD_some h2,decide_eq_false (show¬(i:Int)<0 by omega),cond_false]
theorem abZ (v:List Entr)(ip:Int):(hwN v ip).2=v.any (λe=>e.ip==ip):=by
 have:=mc (λe:Entr=>e.ip==ip) v
 rw[←this]
 unfold hwN em
 cases hf:v.findIdx? (λe=>e.ip==ip)with
 |none=>rfl
 |some i=>
  obtain⟨h1,_,_⟩:=List.findIdx?_eq_some_iff_getElem.1 hf
  have h2:v[i]? =some v[i]:=List.getElem?_eq_getElem h1
  simp only[h2,decide_eq_true (show(0:Int)≤(i:Int) by omega)]
theorem adg (xs:List Entr):(∀(j:Nat) (y:Entr),xs[j]? =some y→(xs.take j).any (λh=>h.ip==y.ip)=false)↔(xs.map Entr.ip).Nodup:=by
 unfold List.Nodup
 rw[List.pairwise_iff_getElem]
 constructor
 ·intro h i j hi hj hij he
  rw[List.length_map]at hi hj
  simp only[List.getElem_map]at he
  have:=h j xs[j] (List.getElem?_eq_getElem hj)
  rw[List.any_eq_false]at this
  refine this xs[i] ?_ (by rw[he,beq_self_eq_true])
  rw[List.mem_take_iff_getElem]
  exact⟨i,by omega,rfl⟩
 ·intro h j y hy
  rw[List.any_eq_false]
  intro z hz he
  rw[List.mem_take_iff_getElem]at hz
  obtain⟨i,hi,rfl⟩:=hz
  obtain⟨hj,rfl⟩:=List.getElem?_eq_some_iff.1 hy
  have:=h i j (by rw[List.length_map];omega) (by rw[List.length_map];exact hj) (by omega)
  simp only[List.getElem_map]at this
  exact this (beq_iff_eq.1 he)
def Bp (e:Entr):Bool:=ae.f (e.ip,32,())&&(ae.f (e.hw,48,())&&(decide (0≤e.age)&&decide (e.age≤9)))
structure EO (v:List Entr):Prop where
 ok:∀e∈v,Bp e=true
 nd:(v.map Entr.ip).Nodup
 len:v.length≤4
theorem yI (v:List Entr):gf.f (v,())=true↔EO v:=by
 have f1:=Lc v (f:=λj a=>(eU v v j a).nice) (P:=λj y=>Bp y=true∧(v.take j).any (λh=>h.ip==y.ip)=false) (λj y hy=>by
  simp only[PX,eU,ah,getD_some hy,AW,abZ,List.drop_zero,av,Bp]
  cases ae.f (y.ip,32,())<;>cases ae.f (y.hw,48,())<;>cases(decide (0≤y.age)&&decide (y.age≤9))<;>cases(v.take j).any (λh=>h.ip==y.ip)<;>simp)
 have f3:=adg v
 have f5:aP (λj a=>(eU v v j a).nice) 1 (Int.toNat ((v.length:Int)-0)) 0 ()= .next ()↔(∀e∈v,Bp e=true)∧(v.map Entr.ip).Nodup:=by
  rw[f1,←f3,←xj]
  exact⟨λh=>⟨λj y hy=>(h j y hy).1,λj y hy=>(h j y hy).2⟩,λh j y hy=>⟨h.1 j y hy,h.2 j y hy⟩⟩
 have e:gf.f (v,())=true↔v.length≤4∧aP (λj a=>(eU v v j a).nice) 1 (Int.toNat ((v.length:Int)-0)) 0 ()= .next ():=by
  simp only[PX,gf,ko]
  rw[show v.length≤4↔decide (4<(v.length:Int))=false by simp;omega]
  cases decide (4<(v.length:Int))<;>cases aP (λj a=>(eU v v j a).nice) 1 (Int.toNat ((v.length:Int)-0)) 0 ()<;>simp[Stp.elim]
 rw[e,f5]
 constructor
 ·rintro⟨h1,h2,h3⟩;exact⟨h2,h3,h1⟩
 ·rintro⟨h2,h3,h1⟩;exact⟨h1,h2,h3⟩
theorem Qm (v:List Entr):u9.f (v,())=gf.f (v,()):=by
 simp only[PX,u9,gf,nH,ko]
 have h1:=AJ v (f:=λj a=>(sV v j a).nice) (g:=λj a=>(eU v v j a).nice) (k:=Int.toNat ((v.length:Int)-0)) (aL _) (λj y hy=>by
  simp only[PX,sV,eU,ah,getD_some hy,dj,bF,av,Ca,AW,abZ,List.drop_zero,mc]
  cases ae.f (y.ip,32,())<;>cases ae.f (y.hw,48,())<;>cases(decide (0≤y.age)&&decide (y.age≤9))<;>cases(v.take j).any (λh=>h.ip==y.ip)<;>simp)
 rw[show decide ((v.length:Int)≤4)= !decide (4<(v.length:Int)) by rw[Bool.eq_iff_iff];simp]
 rcases h1 with⟨a,b,h5,h6⟩|⟨h5,h6⟩
 ·rw[h5,h6]
  cases decide (4<(v.length:Int))<;>rfl
 ·rw[h5,h6]
  cases decide (4<(v.length:Int))<;>rfl
theorem KD (l:Link):vk.f (l,())=dV.f (l,()):=by
 simp only[PX,vk,dV,dj,Qm]
theorem kP (l:Link):dV.f (l,())=true↔((0≤l.mac∧l.mac≤281474976710655)∧l.mac≠281474976710655∧(0≤l.ip∧l.ip≤4294967295)∧EO l.cache):=by
 rw[←yI]
 simp only[PX,dV,VE,cf]
 rw[show(l.mac≠281474976710655)↔(l.mac != 281474976710655)=true by simp,show(0≤l.mac∧l.mac≤281474976710655)↔(decide (0≤l.mac)&&decide (l.mac≤281474976710655))=true by simp,show(0≤l.ip∧l.ip≤4294967295)↔(decide (0≤l.ip)&&decide (l.ip≤4294967295))=true by simp]
 cases(decide (0≤l.mac)&&decide (l.mac≤281474976710655))<;>cases(l.mac != 281474976710655)<;>cases(decide (0≤l.ip)&&decide (l.ip≤4294967295))<;>simp
theorem aap (l:Link)(ip:Int)(b:aa):AV.f (l,ip,b,())=jN.f (l,ip,b,()):=by
 simp only[PX,AV,jN,aeZ,KD,Ru,zm]
 cases dV.f (l,())<;>cases(B2.f (l.cache,ip,())).2<;>simp only[Bool.not_true,Bool.not_false,cond_true,cond_false]
theorem AU {T U W:Type}(xs:List T)(F:T→List U){f:Int→List U→Stp (List U) W}(h:∀(j:Nat) x a,xs[j]? =some x→f (j:Int) a= .next (a++F x)):aP f 1 (Int.toNat ((xs.length:Int)-0)) 0 []= .next (xs.flatMap F):=by
 rw[aL,ci xs _ rfl (F:=λ_ x a=> .next (a++F x)) h]
 have key:∀(r:List T) (j:Nat) (a:List U),dF (W:=W) (λ_ x a=> .next (a++F x)) j r a= .next (a++r.flatMap F):=by
  intro r
  induction r with
  |nil=>intro j a;simp[dF]
  |cons x r ih=>
   intro j a
   have:=ih (j+1) (a++F x)
   rw[List.flatMap_cons,←List.append_assoc,←this]
   rfl
 rw[key];simp
theorem JJ {S T U W:Type}(xs:List T)(F:T→List U){f:Int→S×List U→Stp (S×List U) W}(h:∀(j:Nat) x a,xs[j]? =some x→∃s,f (j:Int) a= .next (s,a.2++F x))(s0:S):∃s,aP f 1 (Int.toNat ((xs.length:Int)-0)) 0 (s0,[])= .next (s,xs.flatMap F):=by
 rw[aL]
 have key:∀(n j:Nat) (s:S) (l:List U),j+n=xs.length→∃s2,aP f 1 n (j:Int) (s,l)= .next (s2,l++(xs.drop j).flatMap F):=by
  intro n
  induction n with
  |zero=>intro j s l e;exact⟨s,by rw[List.drop_of_length_le (by omega)];simp[aP]⟩
  |succ n ih=>
   intro j s l e
   have hj:j<xs.length:=by omega
   obtain⟨s1,e1⟩:=h j xs[j] (s,l) (List.getElem?_eq_getElem hj)
   obtain⟨s2,e2⟩:=ih (j+1) s1 (l++F xs[j]) (by omega)
   refine⟨s2, ?_⟩
   simp only[aP,e1,Stp.elim]
   rw[show(j:Int)+1=((j+1:Nat):Int) by omega,e2,List.drop_eq_getElem_cons hj]
   simp only[List.flatMap_cons,List.append_assoc]
 obtain⟨s,e⟩:=key xs.length 0 s0 [] (by omega)
 exact⟨s,by simpa using e⟩
def xX (l:Link)(ip:Int)(g:Segm):List aa:=bif cE.f (g,l.ip,ip,())==[]then[]else bif (jN.f (l,ip,cE.f (g,l.ip,ip,()),())).2 then[(jN.f (l,ip,cE.f (g,l.ip,ip,()),())).1]else[]
theorem wW (s:Stac)(ip:Int)(xs:List Segm):rC.f (s,ip,xs,())=xs.flatMap (xX s.link ip):=by
 simp only[PX,rC,kn]
 rw[AU xs (xX s.link ip) (λj x a h=>by
  simp only[PX,yu,ah,getD_some h,xX]
  cases(cE.f (x,s.link.ip,ip,())==[])<;>cases(jN.f (s.link,ip,cE.f (x,s.link.ip,ip,()),())).2<;>simp)]
 rfl
theorem N6 (a b n:Int)(ha:ae.f (a,32,())=true)(hb:ae.f (b,32,())=true)(hn:ae.f (n,16,())=true):(eB.f (a,b,n,())==[])=false:=by
 simp only[PX,eB,ha,hb,hn,Bool.not_true,cond_false]
 simp
theorem JG (g:Segm)(a b:Int)(hg:ak.f (g,())=true)(ha:ae.f (a,32,())=true)(hb:ae.f (b,32,())=true):(cE.f (g,a,b,())==[])=false:=by
 have h1:=aeu g.opts
 have h2:=io g hg
 have w1:IntKind.wrap .i64 (20+((cF.f (g.opts,())).length:Int))=20+((cF.f (g.opts,())).length:Int):=am (by omega) (by omega)
 have w2:IntKind.wrap .i64 (20+((cF.f (g.opts,())).length:Int)+(g.body.length:Int))=20+((cF.f (g.opts,())).length:Int)+(g.body.length:Int):=am (by omega) (by omega)
 have hp:=N6 a b (20+((cF.f (g.opts,())).length:Int)+(g.body.length:Int)) ha hb (by rw[dh];simp;omega)
 simp only[PX,cE,hg,w1,w2,Bool.not_true,cond_false]
 rw[hp,cond_false]
 simp
theorem adH (v:List Entr)(ip:Int)(h:(hwN v ip).2=true):∃e∈v,e.ip=ip:=by
 rw[abZ,List.any_eq_true]at h
 obtain⟨e,h1,h2⟩:=h
 exact⟨e,h1,by simpa using h2⟩
theorem NQ (l:Link)(ip:Int)(b:aa)(h:(jN.f (l,ip,b,())).2=true):dV.f (l,())=true∧(hwN l.cache ip).2=true:=by
 simp only[PX,jN,AW]at h
 revert h
 cases dV.f (l,())<;>cases(hwN l.cache ip).2<;>simp
theorem xd (s:Stac)(ip:Int)(xs:List Segm)(hx:∀g∈xs,ak.f (g,())=true):rO.f (s,ip,xs,())=xs.flatMap (xX s.link ip):=by
 simp only[PX,rO,kL]
 rw[AU xs (xX s.link ip) (λj x a h=>by
  simp only[PX,ze,ah,getD_some h,xX,NX,aap]
  cases hk:(jN.f (s.link,ip,cE.f (x,s.link.ip,ip,()),())).2 with
  |false=>cases(cE.f (x,s.link.ip,ip,())==[])<;>simp
  |true=>
   obtain⟨h1,h2⟩:=NQ _ _ _ hk
   obtain⟨_,_,h3,h4⟩:=(kP _).1 h1
   obtain⟨e,he,rfl⟩:=adH _ _ h2
   have h5:=h4.ok e he
   unfold Bp at h5
   rw[Bool.and_eq_true]at h5
   rw[JG x s.link.ip e.ip (hx x (mC h)) (by rw[cf];simp[h3]) h5.1]
   rfl)]
 rfl
def M6 (v:List Entr):List Entr:=v.flatMap λe=>bif decide (e.age<9)then[({e with age:=e.age+1}:Entr)]else[]
theorem FQ {e:Entr}(h:Bp e=true):0≤e.age∧e.age≤9:=by
 unfold Bp at h
 simp only[Bool.and_eq_true,decide_eq_true_eq]at h
 exact h.2.2
theorem abq (v:List Entr)(h:EO v):R9.f (v,())=M6 v:=by
 simp only[PX,R9,pY]
 rw[AU v (λe:Entr=>bif decide (e.age<9)then[({e with age:=e.age+1}:Entr)]else[]) (λj x a hx=>by
  have ha:=FQ (h.ok x (mC hx))
  simp only[PX,Ho,ah,getD_some hx]
  rw[am (m:=x.age+1) (by omega) (by omega),show decide (x.age+1≤9)=decide (x.age<9) from decide_eq_decide.2 (by omega)]
  cases decide (x.age<9)<;>simp)]
 rfl
theorem ZY (v:List Entr)(h:EO v):ML.f (v,())=M6 v:=by
 simp only[PX,ML,ql]
 rw[AU v (λe:Entr=>bif decide (e.age<9)then[({e with age:=e.age+1}:Entr)]else[]) (λj x a hx=>by
  have ha:=FQ (h.ok x (mC hx))
  simp only[PX,Gy,ah,getD_some hx]
  rw[am (m:=x.age+1) (by omega) (by omega)]
  cases decide (x.age<9)<;>simp)]
 rfl
theorem Qh:∀v:List Entr,((M6 v).map Entr.ip).Sublist (v.map Entr.ip)
 |[]=> .slnil
 |x::r=>by
  have ih:=Qh r
  unfold M6 at ih⊢
  rw[List.flatMap_cons]
  cases decide (x.age<9)with
  |true=>exact .cons₂ _ ih
  |false=>exact .cons _ ih
theorem adM (v:List Entr)(h:EO v):EO (M6 v):=by
 have hs:=Qh v
 refine⟨?_,List.Nodup.sublist hs h.nd, ?_⟩
 ·intro e he
  unfold M6 at he
  rw[List.mem_flatMap]at he
  obtain⟨x,hx,hy⟩:=he
  have h1:=h.ok x hx
  have h2:=FQ h1
  cases hd:decide (x.age<9)with
  |false=>rw[hd]at hy;cases hy
  |true=>
   rw[hd]at hy
   have h3:=of_decide_eq_true hd
   rw[List.mem_singleton.1 hy]
   unfold Bp at h1⊢
   simp only[Bool.and_eq_true,decide_eq_true_eq]at h1⊢
   exact⟨h1.1,h1.2.1,by omega,by omega⟩
 ·have:=hs.length_le
  rw[List.length_map,List.length_map]at this
  have:=h.len
  omega
theorem aei (c:Conn)(h:CO c)(hs:bf c.r.held):∀g∈(TC c).2,ak.f (g,())=true:=by
 have r0:=h.r0
 have r3:=h.r3
 unfold TC
 by_cases hw:n8.f (c,())=true
 ·rw[if_pos hw]
  by_cases c1:0<lu c-1
  ·rw[if_pos c1];intro g hg;cases hg
  ·rw[if_neg c1]
   by_cases c2:c.state=7
   ·rw[if_pos c2];intro g hg;cases hg
   ·rw[if_neg c2]
    by_cases c3:c.tries=3
    ·rw[if_pos c3]
     intro g hg
     rw[List.mem_singleton.1 hg]
     have h1:=(bv _).1 (Eb c h hs)
     have hfl:(bC.f (c,())).flags=16:=by simp only[PX,bC]
     rw[bv]
     simp only[hfl]
     obtain⟨a,b,s,k,f,w,o,bd⟩:=h1
     exact⟨a,b,s,k,by decide+kernel,w,o,bd⟩
    ·rw[if_neg c3]
     refine FM _ _ ?_ hs
     rw[Nc c.s h.snd]
     exact⟨h.tup,abR h.snd,h.rcv,h.opt,h.s1,h.s8,h.m0,h.m1,h.w0,h.w1,Int.le_refl _,by show(0:Int)≤4;omega,λ_=>by show(0:Int)≤3;omega,by show 0≤c.tries+1;omega,by show c.tries+1≤3;omega,h.fl⟩
 ·rw[if_neg hw,if_pos ((qA c).2 h)]
  intro g hg;cases hg
theorem rh (s:Stac):jz.f (s,())=s:=by simp only[PX,jz,mK,gH,kt]
theorem u6 (s:Stac):pb.f (s,())=s:=by simp only[PX,pb,rF,kZ,List.nil_append]
theorem rM (s:Stac)(hs:fA s.door):jL.f (s,())=be.f (s,()):=by simp only[PX,jL,be,KD,EL s.door hs]
theorem bV (s:Stac):be.f (s,())=true↔dV.f (s.link,())=true∧bO.f (s.door,())=true:=by
 simp only[PX,be]
 cases dV.f (s.link,())<;>simp
theorem On (l:Link):wh.f (l,l,())=true:=by
 simp only[PX,wh,lR,bne_self_eq_false,cond_false]
 rw[lf _ _ λj=>by simp only[PX,xM,beq_self_eq_true,Bool.and_self,Bool.not_true,cond_false]]
 rfl
theorem iu (s:Stac):gC.f (s,s,())=true:=by
 simp only[PX,gC,On,OU,cond_true]
def Jz (s:Stac):Stac×List aa:=(⟨⟨s.link.mac,s.link.ip,M6 s.link.cache⟩,{s.door with clock:=bR.f (s.door.clock,1,()),chal:=0,halves:=qg s.door.halves,table:=mt ⟨eE s.door.table.conns,s.door.table.waiting⟩}⟩,s.door.table.conns.flatMap (λc=>(TC c).2.flatMap (xX s.link c.tuple.ip)))
theorem M7 (s:Stac)(h:be.f (s,())=true):ub.f (s,())=Jz s:=by
 obtain⟨hl,hd⟩:=(bV s).1 h
 have hE:=((kP _).1 hl).2.2.2
 have hD:=(iH _).1 hd
 have t:=hD.tab
 have a2:=t.lim.w2
 have a3:=t.lim.c2
 have a4:=t.nc
 have a5:=t.nw
 have hT:=ON s.door (λy hy=>(Nq (hD.hal.ok y hy)).2) (λy hy=>(Nq (hD.hal.ok y hy)).1) (by omega) (by omega) hd
 simp only[PX,ub,rh,h,abq _ hE,hT,Bool.not_true,cond_false,iR]
 obtain⟨z,e⟩:=JJ (Zm s.door.table.conns) (λm=>xX s.link m.ip m.g) (f:=λj a=>(pe s (Zm s.door.table.conns) j a).nice) (λj x a hx=>by
  simp only[PX,pe,ah,getD_some hx,wW,List.flatMap_cons,List.flatMap_nil,List.append_nil]
  exact⟨_,rfl⟩) (⟨⟨0,0,[]⟩,⟨0,0,⟨0,⟨false,0,0,[]⟩,⟨false,0,0,[]⟩,false⟩,⟨0,0,0,0⟩,[],⟨[],[]⟩,0⟩⟩:Stac)
 refine(congrArg (Stp.elim _ _) e).trans ?_
 simp only[Stp.elim,Jz]
 congr 1
 unfold Zm
 rw[List.flatMap_assoc]
 congr 1
 funext c
 rw[List.flatMap_map]
theorem MP (s:Stac)(h:be.f (s,())=true)(hs:fA s.door):uj.f (s,())=Jz s:=by
 obtain⟨hl,hd⟩:=(bV s).1 h
 have hE:=((kP _).1 hl).2.2.2
 have hD:=(iH _).1 hd
 have t:=hD.tab
 have c0:=hD.c0
 have c1:=hD.c1
 have hT:=OJ s.door hs
 rw[hd,cond_true,mQ,am (by omega) (by omega),←bL]at hT
 simp only[PX,uj,u6,rM s hs,h,ZY _ hE,hT,Bool.not_true,cond_false,iv]
 obtain⟨z,e⟩:=JJ s.door.table.conns (λc=>(TC c).2.flatMap (xX s.link c.tuple.ip)) (f:=λj a=>(oH s j a).nice) (λj x a hx=>by
  have hc:=t.co x (mC hx)
  simp only[PX,oH,ah,getD_some hx,BH x (hs x (mC hx)),xd s x.tuple.ip (TC x).2 (aei x hc (hs x (mC hx)))]
  exact⟨_,rfl⟩) (⟨⟨0,0,[]⟩,⟨0,0,⟨0,⟨false,0,0,[]⟩,⟨false,0,0,[]⟩,false⟩,⟨0,0,0,0⟩,[],⟨[],[]⟩,0⟩⟩:Stac)
 refine(congrArg (Stp.elim _ _) e).trans ?_
 simp only[Stp.elim,Jz]
theorem RG (s:Stac)(h:be.f (s,())=true):be.f ((Jz s).1,())=true:=by
 obtain⟨hl,hd⟩:=(bV s).1 h
 obtain⟨h1,h2,h3,hE⟩:=(kP _).1 hl
 exact(bV _).2 ⟨(kP _).2 ⟨h1,h2,h3,adM _ hE⟩,(iH _).2 (aee _ ((iH _).1 hd))⟩
def AZ (b:aa):Int:=b.foldl (λn x=>n*256+(x.toNat:Int)) 0
def A8:Nat→Int→aa
 |0,_=>[]
 |k+1,n=>A8 k (n/256)++[UInt8.ofNat (n%256).toNat]
theorem Au (b:aa)(x:UInt8):AZ (b++[x])=AZ b*256+(x.toNat:Int):=by simp[AZ]
theorem Rz {P:aa→Prop}(h0:P [])(h1:∀b x,P b→P (b++[x]))(b:aa):P b:=by
 have key:∀(n:Nat) (b:aa),b.length=n→P b:=by
  intro n
  induction n with
  |zero=>intro b hb;rw[List.eq_nil_of_length_eq_zero hb];exact h0
  |succ n ih=>
   intro b hb
   have hne:b≠[]:=by rintro rfl;simp at hb
   rw[←List.dropLast_concat_getLast hne]
   exact h1 _ _ (ih _ (by rw[List.length_dropLast];omega))
 exact key _ b rfl
theorem adD (b:aa):0≤AZ b:=by
 induction b using Rz with
 |h0=>simp[AZ]
 |h1 b x ih=>
  rw[Au];omega
theorem adI (b:aa):AZ b<256 ^ b.length:=by
 induction b using Rz with
 |h0=>simp[AZ]
 |h1 b x ih=>
  rw[Au,List.length_append,List.length_singleton,Int.pow_succ]
  have:=qT x
  omega
theorem aen (x:UInt8):UInt8.ofNat x.toNat=x:=by simp
theorem aaj (b:aa):A8 b.length (AZ b)=b:=by
 induction b using Rz with
 |h0=>rfl
 |h1 b x ih=>
  rw[Au,List.length_append,List.length_singleton]
  have hx:=qT x
  have e1:(AZ b*256+(x.toNat:Int))/256=AZ b:=by omega
  have e2:((AZ b*256+(x.toNat:Int))%256).toNat=x.toNat:=by omega
  simp only[A8,e1,e2,ih,aen]
theorem ND (k:Nat)(x:Int)(t:List Int):(List.replicate (k+1) (0:Int)++t).set k x=List.replicate k 0++(x::t):=by
 rw[List.replicate_succ',List.append_assoc,List.set_append_right _ _ (by simp)]
 simp
theorem abE (n:Int):((UInt8.ofNat (n%256).toNat).toNat:Int)=n%256:=by
 rw[UInt8.toNat_ofNat'];omega
theorem KG (b:aa):aw (er b)=b:=by
 unfold aw er
 rw[List.map_map]
 refine(List.map_congr_left (g:=id) λx _=> ?_).trans (List.map_id b)
 simp
theorem T1 {f:Int→Int×List Int→Stp (Int×List Int) Empty}(hf:∀i a,f i a= .next (a.1/256,a.2.set i.toNat (a.1%256))):∀(m:Nat) (n:Int) (t:List Int),∃n',aP f (-1) m ((m:Int)-1) (n,List.replicate m 0++t)= .next (n',er (A8 m n)++t)
 |0,n,t=>⟨n,by simp[aP,A8,er]⟩
 |m+1,n,t=>by
  obtain⟨n',ih⟩:=T1 hf m (n/256) (n%256::t)
  refine⟨n', ?_⟩
  have e1:((m+1:Nat):Int)-1=(m:Int):=by omega
  simp only[aP,hf,Stp.elim,e1,ah,ND]
  rw[show(m:Int)+ -1=(m:Int)-1 by omega,ih]
  simp only[A8,er,List.map_append,List.map_cons,List.map_nil,abE,List.append_assoc,List.cons_append,List.nil_append]
theorem gy (n sz:Int)(h1:1≤sz)(h6:sz≤6)(h:ae.f (n,8*sz,())=true):aA.f (n,sz,())=A8 sz.toNat n:=by
 have hw:IntKind.wrap .i64 (8*sz)=8*sz:=am (by omega) (by omega)
 obtain⟨n',e⟩:=T1 (f:=λj a=>(dQ j a).nice) (λi a=>by
  simp only[PX,dQ,rQ]
  rw[Int.fdiv_eq_ediv_of_nonneg _ (by omega)]) sz.toNat n []
 rw[List.append_nil,List.append_nil]at e
 have e1:IntKind.wrap .i64 (sz-1)=(sz.toNat:Int)-1:=by rw[am (by omega) (by omega)];omega
 have e2:Int.toNat (((sz.toNat:Int)-1)-0+1)=sz.toNat:=by omega
 simp only[PX,aA,av,eH,hw,h,decide_eq_true h1,decide_eq_true h6,Bool.and_self,Bool.not_true,cond_false,e1,e2]
 refine(congrArg (Stp.elim _ _) e).trans ?_
 simp only[Stp.elim,KG]
def gw (s:aa)(p n:Nat):Int:=AZ ((s.drop p).take n)
theorem acz {s:aa}{p n:Nat}(h:p+n≤s.length):((s.drop p).take n).length=n:=by
 rw[List.length_take,List.length_drop];omega
theorem abI {s:aa}{p n:Nat}(h:p+n≤s.length):0≤gw s p n∧gw s p n<256 ^ n:=by
 refine⟨adD _, ?_⟩
 have:=adI ((s.drop p).take n)
 rwa [acz h]at this
theorem t8 {s:aa}{p n:Nat}(h:p+n≤s.length):A8 n (gw s p n)=(s.drop p).take n:=by
 have:=aaj ((s.drop p).take n)
 rwa [acz h]at this
theorem Ku (s:aa)(p:Nat){f:Int→Int→Stp Int Empty}(hf:∀(j:Nat) (a:Int),p+j<s.length→0≤a→a<1099511627776→f (j:Int) a= .next (a*256+ai s (p+j))):∀(m j:Nat),j+m≤6→p+j+m≤s.length→aP f 1 m (j:Int) (AZ ((s.drop p).take j))= .next (AZ ((s.drop p).take (j+m)))
 |0,j,_,_=>rfl
 |m+1,j,h1,h2=>by
  have hr:=abI (s:=s) (p:=p) (n:=j) (by omega)
  unfold gw at hr
  have hj:(256:Int) ^ j≤1099511627776:=by
   rcases(show j=0∨j=1∨j=2∨j=3∨j=4∨j=5 by omega)with rfl|rfl|rfl|rfl|rfl|rfl<;>decide
  have hp:p+j<s.length:=by omega
  have e:(s.drop p).take (j+1)=(s.drop p).take j++[s[p+j]]:=by
   rw[List.take_succ_eq_append_getElem (by rw[List.length_drop];omega),List.getElem_drop]
  simp only[aP]
  rw[hf j _ (by omega) hr.1 (by omega)]
  simp only[Stp.elim]
  rw[jV s (p+j) hp,←Au,←e,show(j:Int)+1=((j+1:Nat):Int) by omega,Ku s p hf m (j+1) (by omega) (by omega),show j+1+m=j+(m+1) by omega]
theorem afO (a b:Int)(h0:0≤a)(h1:a<1099511627776)(h2:0≤b)(h3:b≤255):bits .or .i64 (a*256) b=a*256+b:=by
 obtain⟨x,rfl⟩:=Int.eq_ofNat_of_zero_le h0
 obtain⟨y,rfl⟩:=Int.eq_ofNat_of_zero_le h2
 have key:(BitVec.ofInt 64 ((x:Int)*256)|||BitVec.ofInt 64 (y:Int)).toNat=x*256+y:=by
  rw[BitVec.toNat_or,BitVec.toNat_ofInt,BitVec.toNat_ofInt,show((x:Int)*256%((2 ^ 64:Nat):Int)).toNat=x*256 by omega,show((y:Int)%((2 ^ 64:Nat):Int)).toNat=y by omega,show x*256=x<<<8 by rw[Nat.shiftLeft_eq],Nat.shiftLeft_add_eq_or_of_lt (by omega)]
 show IntKind.i64.wrap ((BitVec.ofInt 64 ((x:Int)*256)|||BitVec.ofInt 64 (y:Int)).toNat:Nat)=_
 rw[key,df]
 omega
theorem RD (s:aa)(p n:Nat)(h1:1≤n)(h6:n≤6)(hp:p+n≤s.length)(hs:s.length≤4294967296):AF.f (s,(p:Int),(n:Int),())=(gw s p n,true):=by
 have e:=Ku s p (f:=λj a=>(sF s (p:Int) j a).nice) (λj a h ha hb=>by
  have:=gG s (p+j)
  simp only[PX,sF]
  rw[am (m:=(p:Int)+(j:Int)) (by omega) (by omega),show((p:Int)+(j:Int)).toNat=p+j by omega,am (m:=ai s (p+j)) (by omega) (by omega),am (m:=a*256) (by omega) (by omega),afO a _ ha hb (by omega) (by omega)]) n 0 (by omega) (by omega)
 rw[Nat.zero_add]at e
 have c1:(decide ((1:Int)≤(n:Int))&&decide ((n:Int)≤6))=true:=by simp;omega
 have c2:decide ((p:Int)<0)=false:=by simp
 have c3:decide (IntKind.wrap .i64 ((s.length:Int)-(n:Int))<(p:Int))=false:=by rw[am (by omega) (by omega)];simp;omega
 simp only[PX,AF,av,np,c1,c2,c3,Bool.not_true,cond_false,aL]
 refine(congrArg (Stp.elim _ _) e).trans ?_
 simp only[Stp.elim,gw]
theorem bE (s:aa)(p n:Nat)(h1:1≤n)(h6:n≤6)(hp:p+n≤s.length)(hs:s.length≤4294967296):bN.f (s,(p:Int),(n:Int),())=(gw s p n,true):=by
 have e:=Ku s p (f:=λj a=>(sk s (p:Int) j a).nice) (λj a h ha hb=>by
  have:=gG s (p+j)
  simp only[PX,sk]
  rw[am (m:=(p:Int)+(j:Int)) (by omega) (by omega),show((p:Int)+(j:Int)).toNat=p+j by omega,am (m:=ai s (p+j)) (by omega) (by omega),am (m:=256*a) (by omega) (by omega),am (by omega) (by omega),Int.mul_comm]) n 0 (by omega) (by omega)
 rw[Nat.zero_add]at e
 have c1:(decide ((1:Int)≤(n:Int))&&decide ((n:Int)≤6))=true:=by simp;omega
 have c3:(decide ((0:Int)≤(p:Int))&&decide ((p:Int)≤(IntKind.wrap .i64 ((s.length:Int)-(n:Int)))))=true:=by rw[am (by omega) (by omega)];simp;omega
 simp only[PX,bN,bF,nz,c1,c3,Bool.not_true,cond_false,aL]
 refine(congrArg (Stp.elim _ _) e).trans ?_
 simp only[Stp.elim,gw]
theorem cG (s:aa)(p n:Nat)(h1:1≤n)(h6:n≤6)(hp:p+n≤s.length)(hs:s.length≤4294967296):eq.f (s,(p:Int),(n:Int),())=gw s p n:=by
 simp only[PX,eq,RD s p n h1 h6 hp hs]
theorem MZ (v:aa)(hv:v.length≤4294967296):sI.f (v,())=mv.f (v,()):=by
 simp only[PX,sI,mv,Rk v hv]
theorem aeW (a:Int)(h0:0≤a)(h1:a≤255):(bits .and .u8 a 191 != 0)= !(a==0||a==64):=by
 obtain⟨x,rfl⟩:=Int.eq_ofNat_of_zero_le h0
 have key:∀y:Fin 256,(bits .and .u8 ((y.val:Nat):Int) 191 != 0)= !(((y.val:Nat):Int)==0||((y.val:Nat):Int)==64):=by decide+kernel
 exact key ⟨x,by omega⟩
theorem agq (n:Int)(h0:0≤n)(h1:n≤65535):(bits .andNot .i64 n 16384 != 0)= !(n==0||n==16384):=by
 obtain⟨x,rfl⟩:=Int.eq_ofNat_of_zero_le h0
 by_cases c:x=0∨x=16384
 ·rcases c with rfl|rfl<;>decide+kernel
 ·have hx:((x:Int)==0||(x:Int)==16384)=false:=by simp;omega
  rw[hx,Bool.not_false,bne_iff_ne]
  intro he
  have h2:IntKind.i64.wrap (((BitVec.ofInt 64 (x:Int))&&& ~~~(BitVec.ofInt 64 16384)).toNat:Nat)=0:=he
  have e0:BitVec.ofInt 64 (x:Int)=BitVec.ofNat 64 x:=by
   apply BitVec.eq_of_toNat_eq;rw[BitVec.toNat_ofInt,BitVec.toNat_ofNat];omega
  rw[e0]at h2
  have h3:(BitVec.ofNat 64 x)&&& ~~~(BitVec.ofInt 64 16384)=0#64:=by
   apply BitVec.eq_of_toNat_eq
   have:=((BitVec.ofNat 64 x)&&& ~~~(BitVec.ofInt 64 16384)).isLt
   rw[df]at h2
   simp only[BitVec.toNat_ofNat]
   omega
  have h4:(BitVec.ofNat 64 x)=(BitVec.ofNat 64 x)&&& 16384#64:=by
   ext i hi
   have:=congrArg (λb=>b.getLsbD i) h3
   simp only[BitVec.getLsbD_and,BitVec.getLsbD_not,hi,decide_true,Bool.true_and,BitVec.getLsbD_zero]at this
   rw[BitVec.getElem_and]
   have e:(BitVec.ofInt 64 16384).getLsbD i=(16384#64).getLsbD i:=rfl
   rw[e]at this
   rw[←BitVec.getLsbD_eq_getElem,←BitVec.getLsbD_eq_getElem]
   revert this
   cases(BitVec.ofNat 64 x).getLsbD i<;>cases(16384#64).getLsbD i<;>simp
  have h5:=congrArg BitVec.toNat h4
  rw[BitVec.toNat_and,BitVec.toNat_ofNat,BitVec.toNat_ofNat,Nat.mod_eq_of_lt (by omega),show 16384%2 ^ 64=2 ^ 14 from rfl]at h5
  have h6:x≤2 ^ 14:=by rw[h5];exact Nat.and_le_right
  have h7:x<2 ^ 14:=by omega
  have h8:x&&& 2 ^ 14=0:=by
   apply Nat.eq_of_testBit_eq
   intro i
   rw[Nat.testBit_and,Nat.testBit_two_pow,Nat.zero_testBit]
   by_cases hi:14=i
   ·subst hi;rw[Nat.testBit_lt_two_pow h7];rfl
   ·simp[hi]
  omega
theorem bv2 (a b:UInt8):AZ [a,b]=(a.toNat:Int)*256+b.toNat:=by simp[AZ]
theorem gw2 (s:aa)(p:Nat)(h:p+2≤s.length):gw s p 2=ai s p*256+ai s (p+1):=by
 rw[jV s p (by omega),jV s (p+1) (by omega),gw,List.drop_eq_getElem_cons (by omega),List.drop_eq_getElem_cons (i:=p+1) (by omega)]
 simp only[List.take_succ_cons,List.take_zero,bv2]
def iP (s:aa):Fram×Bool:=if s.length<14 then(⟨0,0,0,[]⟩,false)else bif ge.f (⟨gw s 0 6,gw s 6 6,gw s 12 2,s.drop 14⟩,())then(⟨gw s 0 6,gw s 6 6,gw s 12 2,s.drop 14⟩,true)else(⟨0,0,0,[]⟩,false)
theorem Vg {α:Type}(s:List α):s.take ((s.length:Int).toNat)=s:=by rw[ah,List.take_length]
theorem zh (s:aa)(hs:s.length≤4294967296):qd.f (s,())=iP s:=by
 unfold iP
 by_cases h:s.length<14
 ·rw[if_pos h]
  simp only[PX,qd,decide_eq_true (show(s.length:Int)<14 by omega),cond_true]
 ·rw[if_neg h]
  have w1:=cG s 0 6 (by omega) (by omega) (by omega) hs
  have w2:=cG s 6 6 (by omega) (by omega) (by omega) hs
  have w3:=cG s 12 2 (by omega) (by omega) (by omega) hs
  simp only[Int.ofNat_zero,Int.cast_ofNat_Int]at w1 w2 w3
  simp only[PX,qd,decide_eq_false (show¬(s.length:Int)<14 by omega),cond_false,w1,w2,w3,Vg]
  cases ge.f (⟨gw s 0 6,gw s 6 6,gw s 12 2,s.drop 14⟩,())<;>rfl
theorem TG (f:Fram):ge.f (f,())=true↔ae.f (f.dst,48,())=true∧ae.f (f.src,48,())=true∧1536≤f.type∧f.type≤65535∧f.body.length≤1586:=by
 simp only[PX,ge,av]
 cases ae.f (f.dst,48,())<;>cases ae.f (f.src,48,())<;>simp<;>omega
theorem Ls (f:Fram)(h:ge.f (f,())=true):gv.f (f,())=A8 6 f.dst++A8 6 f.src++A8 2 f.type++f.body:=by
 obtain⟨h1,h2,h3,h4,h5⟩:=(TG f).1 h
 have p1:=gy f.dst 6 (by omega) (by omega) h1
 have p2:=gy f.src 6 (by omega) (by omega) h2
 have p3:=gy f.type 2 (by omega) (by omega) (by rw[show(8:Int)*2=16 from rfl,dh];simp;omega)
 simp only[PX,gv,h,p1,p2,p3,Bool.not_true,cond_false]
 rfl
theorem agk (s:aa)(h:14≤s.length):(s.drop 0).take 6++(s.drop 6).take 6++(s.drop 12).take 2++s.drop 14=s:=by
 rw[List.drop_zero,List.append_assoc,List.append_assoc,show s.drop 14=(s.drop 12).drop 2 by rw[List.drop_drop],List.take_append_drop,show s.drop 12=(s.drop 6).drop 6 by rw[List.drop_drop],List.take_append_drop,List.take_append_drop]
theorem Mm (s:aa)(hs:s.length≤4294967296):pU.f (s,())=iP s:=by
 unfold iP
 by_cases h:s.length<14
 ·rw[if_pos h]
  simp only[PX,pU,decide_eq_true (show(s.length:Int)<14 by omega),cond_true]
 ·rw[if_neg h]
  have w1:=bE s 0 6 (by omega) (by omega) (by omega) hs
  have w2:=bE s 6 6 (by omega) (by omega) (by omega) hs
  have w3:=bE s 12 2 (by omega) (by omega) (by omega) hs
  simp only[Int.ofNat_zero,Int.cast_ofNat_Int]at w1 w2 w3
  simp only[PX,pU,decide_eq_false (show¬(s.length:Int)<14 by omega),cond_false,w1,w2,w3,Vg,zm]
  rcases Bool.eq_false_or_eq_true (ge.f (⟨gw s 0 6,gw s 6 6,gw s 12 2,s.drop 14⟩,()))with ho|ho
  ·rw[Ls _ ho,ho]
   simp only[]
   rw[t8 (by omega),t8 (by omega),t8 (by omega),agk s (by omega),beq_self_eq_true,Bool.not_true,cond_false,cond_true]
  ·have e:gv.f (⟨gw s 0 6,gw s 6 6,gw s 12 2,s.drop 14⟩,())=[]:=by simp only[PX,gv,ho,Bool.not_false,cond_true]
   have e2:(([]:aa)==s)=false:=by
    cases s with
    |nil=>simp at h
    |cons a r=>rfl
   rw[e,ho,e2,Bool.not_false,cond_true,cond_false]
def zP:Pack:=⟨0,0,0,0,0,[]⟩
def qH (s:aa):Pack×Int:=
 bif decide (s.length<20)then(zP,1)else bif ai s 0 != 69 then(zP,2)else bif !mv.f (s.take 20,())then(zP,3)else
 bif (decide (gw s 2 2<20)||(decide ((s.length:Int)<gw s 2 2)||decide (1500<gw s 2 2)))then(zP,4)else bif !(gw s 6 2==0||gw s 6 2==16384)then(zP,5)else bif ai s 8==0 then(zP,6)else
 (⟨gw s 12 4,gw s 16 4,ai s 8,ai s 9,gw s 4 2,(s.take (gw s 2 2).toNat).drop 20⟩,0)
theorem G5 (s:aa)(k:Nat):IntKind.wrap .i64 (ai s k)=ai s k:=by
 have:=gG s k
 exact am (by omega) (by omega)
theorem yb (s:aa)(hs:s.length≤4294967296):oo.f (s,())=qH s:=by
 unfold qH
 by_cases h:s.length<20
 ·rw[decide_eq_true h,cond_true]
  simp only[PX,oo,decide_eq_true (show(s.length:Int)<20 by omega),cond_true,zP]
 ·rw[decide_eq_false h,cond_false]
  have w1:=cG s 2 2 (by omega) (by omega) (by omega) hs
  have w2:=cG s 6 2 (by omega) (by omega) (by omega) hs
  have w3:=cG s 12 4 (by omega) (by omega) (by omega) hs
  have w4:=cG s 16 4 (by omega) (by omega) (by omega) hs
  have w5:=cG s 4 2 (by omega) (by omega) (by omega) hs
  simp only[Int.cast_ofNat_Int]at w1 w2 w3 w4 w5
  have r6:=abI (s:=s) (p:=6) (n:=2) (by omega)
  have a6:=agq (gw s 6 2) r6.1 (by have:=r6.2;omega)
  simp only[PX,oo,decide_eq_false (show¬(s.length:Int)<20 by omega),cond_false,w1,w2,w3,w4,w5,G5,a6,List.drop_zero,zP]
  cases decide (gw s 2 2<20)<;>cases decide ((s.length:Int)<gw s 2 2)<;>simp only[cond_true,cond_false,Bool.true_or,Bool.false_or]
theorem Ie (s:aa)(hs:s.length≤4294967296):oa.f (s,())=qH s:=by
 unfold qH
 by_cases h:s.length<20
 ·rw[decide_eq_true h,cond_true]
  simp only[PX,oa,decide_eq_true (show(s.length:Int)<20 by omega),cond_true,zP]
 ·rw[decide_eq_false h,cond_false]
  have w1:=bE s 2 2 (by omega) (by omega) (by omega) hs
  have w3:=bE s 12 4 (by omega) (by omega) (by omega) hs
  have w4:=bE s 16 4 (by omega) (by omega) (by omega) hs
  have w5:=bE s 4 2 (by omega) (by omega) (by omega) hs
  simp only[Int.cast_ofNat_Int]at w1 w3 w4 w5
  have b6:=gG s 6
  have b7:=gG s 7
  have e6:=gw2 s 6 (by omega)
  have a6:=aeW (ai s 6) b6.1 b6.2
  have e1:(!(decide (20≤gw s 2 2)&&decide (gw s 2 2≤if(s.length:Int)<1500 then(s.length:Int)else 1500)))=(decide (gw s 2 2<20)||(decide ((s.length:Int)<gw s 2 2)||decide (1500<gw s 2 2))):=by
   rw[Bool.eq_iff_iff];simp;split<;>omega
  have e2:(bif !(ai s 6==0||ai s 6==64)then true else ai s 7 != 0)= !(gw s 6 2==0||gw s 6 2==16384):=by
   rw[e6,Bool.eq_iff_iff]
   cases h6:(ai s 6==0||ai s 6==64)<;>simp at h6⊢<;>omega
  have hq:=MZ (s.take 20) (by rw[List.length_take];omega)
  simp only[PX,oa,decide_eq_false (show¬(s.length:Int)<20 by omega),cond_false,w1,w3,w4,w5,G5,a6,kG,bF,e1,hq,List.drop_zero,zP]
  rw[←e2]
  cases(!(ai s 6==0||ai s 6==64))<;>rfl
def zA:Arpm:=⟨0,0,0,0,0⟩
def gwA (s:aa):Arpm:=⟨gw s 6 2,gw s 8 6,gw s 14 4,gw s 18 6,gw s 24 4⟩
def Qt (s:aa):Arpm×Bool:=
 bif decide (s.length<28)then(zA,false)else bif !(s.take 6==[0,1,8,0,6,4])then(zA,false)else bif !nF.f (gwA s,())then(zA,false)else(gwA s,true)
theorem CT (s:aa)(hs:s.length≤4294967296):vi.f (s,())=Qt s:=by
 unfold Qt
 by_cases h:s.length<28
 ·rw[decide_eq_true h,cond_true]
  simp only[PX,vi,decide_eq_true (show(s.length:Int)<28 by omega),cond_true,zA]
 ·rw[decide_eq_false h,cond_false]
  have w1:=cG s 6 2 (by omega) (by omega) (by omega) hs
  have w2:=cG s 8 6 (by omega) (by omega) (by omega) hs
  have w3:=cG s 14 4 (by omega) (by omega) (by omega) hs
  have w4:=cG s 18 6 (by omega) (by omega) (by omega) hs
  have w5:=cG s 24 4 (by omega) (by omega) (by omega) hs
  simp only[Int.cast_ofNat_Int]at w1 w2 w3 w4 w5
  simp only[PX,vi,decide_eq_false (show¬(s.length:Int)<28 by omega),cond_false,w1,w2,w3,w4,w5,List.drop_zero,zA,gwA]
theorem Y9 (a:Arpm):Ee.f (a,())=nF.f (a,()):=by
 simp only[PX,Ee,nF,dj,bF,av]
theorem PR (a:Arpm):rE.f (a,())=k9.f (a,()):=by
 simp only[PX,rE,k9,Y9,oQ]
theorem Yi (a:Arpm)(m ip:Int):xe.f (a,m,ip,())=pk.f (a,m,ip,()):=by
 simp only[PX,xe,pk,Y9]
theorem Z3 (a:Arpm):nF.f (a,())=true↔(1≤a.kind∧a.kind≤2)∧ae.f (a.srcHw,48,())=true∧ae.f (a.dstHw,48,())=true∧ae.f (a.srcIp,32,())=true∧ae.f (a.dstIp,32,())=true:=by
 simp only[PX,nF,av]
 cases ae.f (a.srcHw,48,())<;>cases ae.f (a.dstHw,48,())<;>cases ae.f (a.srcIp,32,())<;>cases ae.f (a.dstIp,32,())<;>simp
theorem Sy (a:Arpm)(h:nF.f (a,())=true):k9.f (a,())=[0,1,8,0,6,4]++A8 2 a.kind++A8 6 a.srcHw++A8 4 a.srcIp++A8 6 a.dstHw++A8 4 a.dstIp:=by
 obtain⟨h1,h2,h3,h4,h5⟩:=(Z3 a).1 h
 have p1:=gy a.kind 2 (by omega) (by omega) (by rw[show(8:Int)*2=16 from rfl,dh];simp;omega)
 have p2:=gy a.srcHw 6 (by omega) (by omega) h2
 have p3:=gy a.srcIp 4 (by omega) (by omega) h4
 have p4:=gy a.dstHw 6 (by omega) (by omega) h3
 have p5:=gy a.dstIp 4 (by omega) (by omega) h5
 simp only[PX,k9,h,p1,p2,p3,p4,p5,Bool.not_true,cond_false]
 rfl
theorem af2 (s:aa):s.take 6++(s.drop 6).take 2++(s.drop 8).take 6++(s.drop 14).take 4++(s.drop 18).take 6++(s.drop 24).take 4=s.take 28:=by
 rw[show 28=24+4 from rfl,List.take_add,show 24=18+6 from rfl,List.take_add,show 18=14+4 from rfl,List.take_add,show 14=8+6 from rfl,List.take_add,show 8=6+2 from rfl,List.take_add]
theorem SK (s:aa)(hs:s.length≤4294967296):vv.f (s,())=Qt s:=by
 unfold Qt
 by_cases h:s.length<28
 ·rw[decide_eq_true h,cond_true]
  simp only[PX,vv,decide_eq_true (show(s.length:Int)<28 by omega),cond_true,zA]
 ·rw[decide_eq_false h,cond_false]
  have w1:=bE s 6 2 (by omega) (by omega) (by omega) hs
  have w2:=bE s 8 6 (by omega) (by omega) (by omega) hs
  have w3:=bE s 14 4 (by omega) (by omega) (by omega) hs
  have w4:=bE s 18 6 (by omega) (by omega) (by omega) hs
  have w5:=bE s 24 4 (by omega) (by omega) (by omega) hs
  simp only[Int.cast_ofNat_Int]at w1 w2 w3 w4 w5
  have hg:(⟨gw s 6 2,gw s 8 6,gw s 14 4,gw s 18 6,gw s 24 4⟩:Arpm)=gwA s:=rfl
  simp only[PX,vv,decide_eq_false (show¬(s.length:Int)<28 by omega),cond_false,w1,w2,w3,w4,w5,List.drop_zero,zA,hg,PR]
  rcases Bool.eq_false_or_eq_true (nF.f (gwA s,()))with ho|ho
  ·have e:(k9.f (gwA s,())==s.take 28)=(s.take 6==[0,1,8,0,6,4]):=by
    rw[Sy _ ho,←af2 s]
    simp only[gwA]
    rw[t8 (by omega),t8 (by omega),t8 (by omega),t8 (by omega),t8 (by omega),Bool.eq_iff_iff,beq_iff_eq,beq_iff_eq]
    constructor
    ·intro he
     simp only[List.append_assoc]at he
     exact(List.append_inj he (by simp;omega)).1.symm
    ·intro he;rw[he]
   rw[e,ho]
   cases(s.take 6==[0,1,8,0,6,4])<;>rfl
  ·have e:k9.f (gwA s,())=[]:=by simp only[PX,k9,ho,Bool.not_false,cond_true]
   have e2:(([]:aa)==s.take 28)=false:=by
    cases s with
    |nil=>simp at h
    |cons a r=>rfl
   rw[e,ho,e2,Bool.not_false,cond_true]
   cases(s.take 6==[0,1,8,0,6,4])<;>rfl
theorem Cs {A W V:Type}[Inhabited W][Inhabited V]{f:A→Stp A W}{g:A→Stp A V}{h:W→V}{Inv:A→Prop}{meas:A→Nat}(hs:∀a,Inv a→(∃a',f a= .next a'∧g a= .next a'∧Inv a'∧meas a'<meas a)∨(∃w,f a= .out w∧g a= .out (h w))):∀(m:Nat) (a:A),meas a<m→Inv a→h (cm f m a)=cm g m a
 |0,_,hm,_=>absurd hm (Nat.not_lt_zero _)
 |m+1,a,hm,hi=>by
  simp only[cm]
  rcases hs a hi with⟨a',e1,e2,e3,e4⟩|⟨w,e1,e2⟩
  ·rw[e1,e2]
   exact Cs hs m a' (by omega) e3
  ·rw[e1,e2];rfl
def xA:Opti:=⟨0,-1,false,false,0,0⟩
def Z2 (v:aa)(p:Nat)(o:Opti):Opti:=
 bif ai v p==2&&ai v (p+1)==4 then{o with mss:=gw v (p+2) 2}else bif ai v p==3&&ai v (p+1)==3 then{o with scale:=if 14<ai v (p+2)then 14 else ai v (p+2)}else
 bif ai v p==4&&ai v (p+1)==2 then{o with sack:=true}else bif ai v p==8&&ai v (p+1)==10 then{o with stamp:=true,val:=gw v (p+2) 4,echo:=gw v (p+6) 4}else o
def ey (v:aa)(a:Int×Opti):Stp (Int×Opti) (Opti×Bool):=
 bif !decide (a.1<(v.length:Int))then .out (a.2,true)else bif ai v a.1.toNat==0 then .out (a.2,true)else bif ai v a.1.toNat==1 then .next (a.1+1,a.2)else
 bif decide ((v.length:Int)≤a.1+1)||(decide (ai v (a.1.toNat+1)<2)||decide ((v.length:Int)-a.1<ai v (a.1.toNat+1)))then .out (xA,false)else .next (a.1+ai v (a.1.toNat+1),Z2 v a.1.toNat a.2)
def adB (v:aa)(a:Int×Opti):Opti×Bool:=cm (ey v) (Int.toNat ((v.length:Int)-a.1)+1) a
theorem HA (v:aa)(a:Int×Opti)(h:0≤a.1)(a':Int×Opti)(e:ey v a= .next a'):0≤a'.1∧Int.toNat ((v.length:Int)-a'.1)<Int.toNat ((v.length:Int)-a.1):=by
 unfold ey at e
 by_cases h1:a.1<(v.length:Int)
 case neg=>rw[decide_eq_false h1]at e;cases e
 rw[decide_eq_true h1,Bool.not_true,cond_false]at e
 cases h2:(ai v a.1.toNat==0)with
 |true=>rw[h2]at e;cases e
 |false=>
  rw[h2,cond_false]at e
  cases h3:(ai v a.1.toNat==1)with
  |true=>rw[h3,cond_true]at e;cases e;simp only[];omega
  |false=>
   rw[h3,cond_false]at e
   cases h4:(decide ((v.length:Int)≤a.1+1)||(decide (ai v (a.1.toNat+1)<2)||decide ((v.length:Int)-a.1<ai v (a.1.toNat+1))))with
   |true=>rw[h4]at e;cases e
   |false=>
    rw[h4,cond_false]at e
    cases e
    simp at h4
    simp only[];omega
theorem Gn (v:aa)(hv:v.length≤4294967296):lx.f (v,())=adB v (0,xA):=by
 have key:=Cs (f:=λa=>(cU v a).nice) (g:=ey v) (h:=Sum.elim (λo=>(o,true)) (λp=>(p.1,false))) (Inv:=λa:Int×Opti=>0≤a.1) (meas:=λa=>Int.toNat ((v.length:Int)-a.1)) (λa ha=>by
  have ha:0≤a.1:=ha
  by_cases h1:a.1<(v.length:Int)
  case neg=>refine .inr ⟨.inl a.2, ?_, ?_⟩<;>simp only[PX,cU,ey,decide_eq_false h1,cond_false,Bool.not_false,cond_true,Sum.elim_inl]
  have w1:IntKind.wrap .i64 (a.1+1)=a.1+1:=am (by omega) (by omega)
  have w2:IntKind.wrap .i64 (a.1+2)=a.1+2:=am (by omega) (by omega)
  have w6:IntKind.wrap .i64 (a.1+6)=a.1+6:=am (by omega) (by omega)
  have wl:IntKind.wrap .i64 ((v.length:Int)-a.1)=(v.length:Int)-a.1:=am (by omega) (by omega)
  have t1:(a.1+1).toNat=a.1.toNat+1:=by omega
  have t2:(a.1+2).toNat=a.1.toNat+2:=by omega
  have b1:=gG v (a.1.toNat+1)
  have wb:IntKind.wrap .i64 (a.1+ai v (a.1.toNat+1))=a.1+ai v (a.1.toNat+1):=am (by omega) (by omega)
  have hst:=HA v a ha
  have eN:bQ.f ()=xA:=by simp only[PX,bQ,xA]
  cases h2:(ai v a.1.toNat==0)with
  |true=>refine .inr ⟨.inl a.2, ?_, ?_⟩<;>simp only[PX,cU,ey,decide_eq_true h1,h2,cond_false,Bool.not_true,cond_true,Sum.elim_inl]
  |false=>
   cases h3:(ai v a.1.toNat==1)with
   |true=>
    have e:ey v a= .next (a.1+1,a.2):=by simp only[ey,decide_eq_true h1,h2,h3,cond_false,Bool.not_true,cond_true]
    refine .inl ⟨_, ?_,e,hst _ e⟩
    simp only[PX,cU,decide_eq_true h1,h2,h3,cond_false,cond_true,w1]
   |false=>
    cases h4:(decide ((v.length:Int)≤a.1+1)||(decide (ai v (a.1.toNat+1)<2)||decide ((v.length:Int)-a.1<ai v (a.1.toNat+1))))with
    |true=>
     have e:ey v a= .out (xA,false):=by simp only[ey,decide_eq_true h1,h2,h3,h4,cond_false,Bool.not_true,cond_true]
     refine .inr ⟨.inr (xA,a.2), ?_,e⟩
     revert h4
     simp only[PX,cU,decide_eq_true h1,h2,h3,cond_false,cond_true,w1,wl,t1,G5,eN]
     cases decide ((v.length:Int)≤a.1+1)<;>cases decide (ai v (a.1.toNat+1)<2)<;>cases decide ((v.length:Int)-a.1<ai v (a.1.toNat+1))<;>intro h4<;>first|rfl|cases h4
    |false=>
     have e:ey v a= .next (a.1+ai v (a.1.toNat+1),Z2 v a.1.toNat a.2):=by simp only[ey,decide_eq_true h1,h2,h3,h4,cond_false,Bool.not_true,cond_true]
     refine .inl ⟨_, ?_,e,hst _ e⟩
     simp only[Bool.or_eq_false_iff,decide_eq_false_iff_not]at h4
     obtain⟨h5,h6,h7⟩:=h4
     simp only[PX,cU,decide_eq_true h1,h2,h3,cond_false,cond_true,w1,w2,w6,wl,t1,t2,G5,decide_eq_false h5,decide_eq_false h6,decide_eq_false h7,wb,Z2]
     have g2:(ai v a.1.toNat==2&&ai v (a.1.toNat+1)==4)=true→eq.f (v,a.1+2,2,())=gw v (a.1.toNat+2) 2:=λhh=>by
      simp at hh
      have:=cG v (a.1.toNat+2) 2 (by omega) (by omega) (by omega) hv
      rw[show((a.1.toNat+2:Nat):Int)=a.1+2 by omega]at this
      exact this
     have g8:(ai v a.1.toNat==8&&ai v (a.1.toNat+1)==10)=true→eq.f (v,a.1+2,4,())=gw v (a.1.toNat+2) 4∧eq.f (v,a.1+6,4,())=gw v (a.1.toNat+6) 4:=λhh=>by
      simp at hh
      have k1:=cG v (a.1.toNat+2) 4 (by omega) (by omega) (by omega) hv
      have k2:=cG v (a.1.toNat+6) 4 (by omega) (by omega) (by omega) hv
      rw[show((a.1.toNat+2:Nat):Int)=a.1+2 by omega]at k1
      rw[show((a.1.toNat+6:Nat):Int)=a.1+6 by omega]at k2
      exact⟨k1,k2⟩
     revert g2 g8
     cases(ai v a.1.toNat==2)<;>cases(ai v (a.1.toNat+1)==4)<;>cases(ai v a.1.toNat==3)<;>cases(ai v (a.1.toNat+1)==3)<;>cases(ai v a.1.toNat==4)<;>cases(ai v (a.1.toNat+1)==2)<;>cases(ai v a.1.toNat==8)<;>cases(ai v (a.1.toNat+1)==10)<;>intro g2 g8<;>simp only[Bool.and_true,Bool.and_false,Bool.false_and,Bool.true_and,cond_true,cond_false]<;>first|rfl|(rw[g2 rfl])|(rw[(g8 rfl).1,(g8 rfl).2])) (Int.toNat ((v.length:Int)-0)+1) (0,xA) (by simp) (by simp)
 have eN:bQ.f ()=xA:=by simp only[PX,bQ,xA]
 simp only[PX,lx,jh,eN]
 rw[adB,←key]
 cases cm (λa=>(cU v a).nice) (Int.toNat ((v.length:Int)-0)+1) (0,xA)<;>rfl
theorem Uu (v:aa)(e p k:Nat)(h:p+k<e):ai ((v.take e).drop p) k=ai v (p+k):=by
 simp[ai,List.getD,List.getElem?_drop,List.getElem?_take,h]
theorem acZ (v:aa)(e p k n:Nat)(h:p+k+n≤e):gw ((v.take e).drop p) k n=gw v (p+k) n:=by
 unfold gw
 rw[List.drop_drop,List.drop_take,List.take_take,Nat.min_eq_left (by omega)]
theorem Xr (v:aa)(p e:Nat)(o:Opti)(hv:v.length≤4294967296)(he:e≤v.length)(h2:p+2≤e)(hn:ai v (p+1)=(e:Int)-p):Jj.f (o,(v.take e).drop p,())=Z2 v p o:=by
 have hl:((v.take e).drop p).length=e-p:=by rw[List.length_drop,List.length_take];omega
 have c0:=Uu v e p 0 (by omega)
 rw[Nat.add_zero]at c0
 have w4:(((v.take e).drop p).length:Int)=ai v (p+1):=by rw[hl,hn];omega
 have hx:((v.take e).drop p).length≤4294967296:=by omega
 have g2:(ai v p==2&&ai v (p+1)==4)=true→bN.f ((v.take e).drop p,2,2,())=(gw v (p+2) 2,true):=λhh=>by
  simp at hh
  have:=bE ((v.take e).drop p) 2 2 (by omega) (by omega) (by omega) hx
  rw[acZ _ _ _ _ _ (by omega)]at this
  exact this
 have g3:(ai v p==3&&ai v (p+1)==3)=true→ai ((v.take e).drop p) 2=ai v (p+2):=λhh=>by
  simp at hh
  exact Uu v e p 2 (by omega)
 have g8:(ai v p==8&&ai v (p+1)==10)=true→bN.f ((v.take e).drop p,2,4,())=(gw v (p+2) 4,true)∧bN.f ((v.take e).drop p,6,4,())=(gw v (p+6) 4,true):=λhh=>by
  simp at hh
  have k1:=bE ((v.take e).drop p) 2 4 (by omega) (by omega) (by omega) hx
  have k2:=bE ((v.take e).drop p) 6 4 (by omega) (by omega) (by omega) hx
  rw[acZ _ _ _ _ _ (by omega)]at k1 k2
  exact⟨k1,k2⟩
 simp only[PX,Jj,Z2,c0,w4,G5,kG]
 revert g2 g3 g8
 cases(ai v p==2)<;>cases(ai v (p+1)==4)<;>cases(ai v p==3)<;>cases(ai v (p+1)==3)<;>cases(ai v p==4)<;>cases(ai v (p+1)==2)<;>cases(ai v p==8)<;>cases(ai v (p+1)==10)<;>intro g2 g3 g8<;>simp only[Bool.and_true,Bool.and_false,Bool.false_and,Bool.true_and,cond_true,cond_false]<;>first|rfl|(rw[g2 rfl])|(rw[g3 rfl])|(rw[(g8 rfl).1,(g8 rfl).2])
theorem E3 (v:aa)(hv:v.length≤4294967296):ly.f (v,())=adB v (0,xA):=by
 have key:=Cs (f:=λa=>(cT v a).nice) (g:=ey v) (h:=Sum.elim (λp=>(p.1,false)) (λo=>(o,true))) (Inv:=λa:Int×Opti=>0≤a.1) (meas:=λa=>Int.toNat ((v.length:Int)-a.1)) (λa ha=>by
  have ha:0≤a.1:=ha
  by_cases h1:a.1<(v.length:Int)
  case neg=>refine .inr ⟨.inr a.2, ?_, ?_⟩<;>simp only[PX,cT,ey,decide_eq_false h1,cond_false,Bool.not_false,cond_true,Sum.elim_inr]
  have w1:IntKind.wrap .i64 (a.1+1)=a.1+1:=am (by omega) (by omega)
  have wl:IntKind.wrap .i64 ((v.length:Int)-a.1)=(v.length:Int)-a.1:=am (by omega) (by omega)
  have t1:(a.1+1).toNat=a.1.toNat+1:=by omega
  have b1:=gG v (a.1.toNat+1)
  have wb:IntKind.wrap .i64 (a.1+ai v (a.1.toNat+1))=a.1+ai v (a.1.toNat+1):=am (by omega) (by omega)
  have hst:=HA v a ha
  have eN:bU.f ()=xA:=by simp only[PX,bU,xA]
  cases h2:(ai v a.1.toNat==0)with
  |true=>refine .inr ⟨.inr a.2, ?_, ?_⟩<;>simp only[PX,cT,ey,decide_eq_true h1,bne,h2,cond_false,Bool.not_true,cond_true,Sum.elim_inr]
  |false=>
   cases h3:(ai v a.1.toNat==1)with
   |true=>
    have e:ey v a= .next (a.1+1,a.2):=by simp only[ey,decide_eq_true h1,h2,h3,cond_false,Bool.not_true,cond_true]
    refine .inl ⟨_, ?_,e,hst _ e⟩
    simp only[PX,cT,decide_eq_true h1,bne,h2,h3,Bool.not_false,cond_false,cond_true,w1]
   |false=>
    cases h4:(decide ((v.length:Int)≤a.1+1)||(decide (ai v (a.1.toNat+1)<2)||decide ((v.length:Int)-a.1<ai v (a.1.toNat+1))))with
    |true=>
     have e:ey v a= .out (xA,false):=by simp only[ey,decide_eq_true h1,h2,h3,h4,cond_false,Bool.not_true,cond_true]
     refine .inr ⟨.inl (xA,a.2), ?_,e⟩
     revert h4
     simp only[PX,cT,decide_eq_true h1,bne,h2,h3,Bool.not_false,cond_false,cond_true,w1,wl,t1,G5,eN]
     cases decide ((v.length:Int)≤a.1+1)<;>cases decide (ai v (a.1.toNat+1)<2)<;>cases decide ((v.length:Int)-a.1<ai v (a.1.toNat+1))<;>intro h4<;>first|rfl|cases h4
    |false=>
     have e:ey v a= .next (a.1+ai v (a.1.toNat+1),Z2 v a.1.toNat a.2):=by simp only[ey,decide_eq_true h1,h2,h3,h4,cond_false,Bool.not_true,cond_true]
     refine .inl ⟨_, ?_,e,hst _ e⟩
     simp only[Bool.or_eq_false_iff,decide_eq_false_iff_not]at h4
     obtain⟨h5,h6,h7⟩:=h4
     have hl:=Xr v a.1.toNat (a.1+ai v (a.1.toNat+1)).toNat a.2 hv (by omega) (by omega) (by omega)
     simp only[PX,cT,decide_eq_true h1,bne,h2,h3,Bool.not_false,cond_false,cond_true,w1,wl,t1,G5,decide_eq_false h5,decide_eq_false h6,decide_eq_false h7,wb,hl]) (Int.toNat ((v.length:Int)-0)+1) (0,xA) (by simp) (by simp)
 have eN:bU.f ()=xA:=by simp only[PX,bU,xA]
 simp only[PX,ly,jg,eN]
 rw[adB,←key]
 cases cm (λa=>(cT v a).nice) (Int.toNat ((v.length:Int)-0)+1) (0,xA)<;>rfl
def zS (v:List Entr):Int:=match aP (λj a=>(eV v j a).nice) 1 3 1 0 with| .next a=>a| .out e=>Empty.elim e
theorem Yn (v:List Entr):aP (λj a=>(eV v j a).nice) 1 3 1 0= .next (zS v):=by
 unfold zS
 cases aP (λj a=>(eV v j a).nice) 1 3 1 0 with
 |next a=>rfl
 |out e=>exact Empty.elim e
theorem aey (v:List Entr)(j a:Int):(eV v j a).nice= .next (bif decide ((v.getD a.toNat (Ty.zero .entr)).age<(v.getD j.toNat (Ty.zero .entr)).age)then j else a):=by
 simp only[PX,eV]
 cases decide ((v.getD a.toNat (Ty.zero .entr)).age<(v.getD j.toNat (Ty.zero .entr)).age)<;>rfl
theorem Q5 (v:List Entr):0≤zS v∧zS v<4:=by
 have e:=Yn v
 simp only[aP,aey,Stp.elim]at e
 have key:∀(b:Bool) (x y:Int),(0≤x∧x<4)→(0≤y∧y<4)→0≤(bif b then x else y)∧(bif b then x else y)<4:=by
  intro b x y hx hy
  cases b<;>assumption
 rw[←Stp.next.inj e]
 refine key _ _ _ (by omega) (key _ _ _ (by omega) (key _ _ _ (by omega) (by omega)))
theorem adP (v:List Entr):aP (λj a=>(eV v j a).nice) 1 4 0 0= .next (zS v):=by
 rw[←Yn v]
 show Stp.elim _ _ ((eV v 0 0).nice)=_
 rw[aey,decide_eq_false (Int.lt_irrefl _),cond_false]
 rfl
def JC (v:List Entr)(ip hw:Int):List Entr:=bif decide (0≤em (λe:Entr=>e.ip==ip) v)then v.set (em (λe:Entr=>e.ip==ip) v).toNat ⟨ip,hw,0⟩else(bif ((v.length:Int)==4)then v.take (zS v).toNat++v.drop ((zS v).toNat+1)else v)++[⟨ip,hw,0⟩]
def wL (v:List Entr)(ip hw:Int):List Entr:=bif (gf.f (v,())&&(ae.f (ip,32,())&&ae.f (hw,48,())))then JC v ip hw else v
theorem C0 (v:List Entr)(ip hw:Int):vg.f (v,ip,hw,())=wL v ip hw:=by
 unfold wL
 simp only[PX,vg,gH,fM,fS]
 rcases Bool.eq_false_or_eq_true (gf.f (v,()))with h1|h1
 case inr=>rw[h1];rfl
 have hE:=(yI v).1 h1
 have hlen:=hE.len
 rw[h1]
 cases h2:ae.f (ip,32,())with
 |false=>rfl
 |true=>
  cases h3:ae.f (hw,48,())with
  |false=>rfl
  |true=>
   simp only[Bool.not_true,cond_false,Bool.and_self,cond_true,aL]
   rw[ci v _ rfl (F:=λj x _=>bif x.ip==ip then .out (v.set j (⟨ip,hw,0⟩:Entr))else .next ()) (λj x a h=>by
    have hj:j<v.length:=(List.getElem?_eq_some_iff.1 h).1
    have hx:=getD_some (d:=Ty.zero .entr) h
    simp only[PX,y9,ah,hx]
    cases hb:(x.ip==ip)with
    |false=>rfl
    |true=>
     rw[cond_true,cond_true,List.set_set]
     have e:(v.set j ({x with hw:=hw}:Entr)).getD j (Ty.zero .entr)=({x with hw:=hw}:Entr):=getD_some (by simp[hj])
     rw[e,←beq_iff_eq.1 hb]),ke (p:=λe:Entr=>e.ip==ip) (w:=λj _=>v.set j (⟨ip,hw,0⟩:Entr))]
   unfold JC em
   cases hf:v.findIdx? (λe=>e.ip==ip)with
   |some i=>
    obtain⟨h4,_,_⟩:=List.findIdx?_eq_some_iff_getElem.1 hf
    have hx:v[i]? =some v[i]:=List.getElem?_eq_getElem h4
    simp only[hx,Stp.elim,Nat.zero_add,decide_eq_true (show(0:Int)≤(i:Int) by omega),cond_true,ah]
   |none=>
    simp only[Stp.elim,decide_eq_false (show¬(0:Int)≤-1 by omega),cond_false]
    cases h4:((v.length:Int)==4)with
    |false=>rfl
    |true=>
     have h5:v.length=4:=by have:=beq_iff_eq.1 h4;omega
     have ho:=Q5 v
     obtain⟨o,hoe⟩:=Int.eq_ofNat_of_zero_le ho.1
     have e4:=adP v
     rw[h5]
     simp only[cond_true]
     refine(congrArg (Stp.elim _ _) e4).trans ?_
     simp only[Stp.elim,PX,rZ,hoe,ah]
     rw[am (by omega) (by omega),show((o:Int)==(o:Int)+1)=false by simp;omega,show((o:Int)+1).toNat=o+1 by omega]
     simp only[cond_false]
     have hL:(v.take o++v.drop (o+1)).length=o+(v.length-(o+1)):=by
      rw[List.length_append,List.length_take,List.length_drop];omega
     generalize v.take o++v.drop (o+1)=L at hL⊢
     rw[List.drop_zero,List.take_left' hL,List.take_left' (rfl:L.length=L.length),List.append_assoc,List.take_left' hL]
theorem QS (v:List Entr)(ip hw:Int):pj.f (v,ip,hw,())=wL v ip hw:=by
 unfold wL
 simp only[PX,pj,Qm,dj,List.nil_append,ku,Ca]
 rcases Bool.eq_false_or_eq_true (gf.f (v,()))with h1|h1
 case inr=>rw[h1];rfl
 have hE:=(yI v).1 h1
 have hlen:=hE.len
 rw[h1]
 cases h2:ae.f (ip,32,())with
 |false=>rfl
 |true=>
  cases h3:ae.f (hw,48,())with
  |false=>rfl
  |true=>
   simp only[Bool.not_true,cond_false,Bool.and_self,cond_true]
   unfold JC
   cases hf:decide (0≤em (λe:Entr=>e.ip==ip) v)with
   |true=>rfl
   |false=>
    simp only[cond_false]
    cases h4:((v.length:Int)==4)with
    |false=>rfl
    |true=>
     have h5:v.length=4:=by have:=beq_iff_eq.1 h4;omega
     have ho:=Q5 v
     obtain⟨o,hoe⟩:=Int.eq_ofNat_of_zero_le ho.1
     have e4:=Yn v
     simp only[cond_true]
     rw[h5,show Int.toNat (((4:Nat):Int)-1)=3 from rfl]
     refine(congrArg (Stp.elim _ _) e4).trans ?_
     simp only[Stp.elim,hoe,ah]
     rw[am (by omega) (by omega),show((o:Int)+1).toNat=o+1 by omega,List.drop_zero]
     first|rw[List.take_of_length_le (show v.length≤4 by omega)]|rw[List.take_length]
theorem acn (v:List Entr)(ip hw:Int)(h:EO v)(hi:ae.f (ip,32,())=true)(hh:ae.f (hw,48,())=true):EO (JC v ip hw):=by
 have hn:Bp ⟨ip,hw,0⟩=true:=by unfold Bp;rw[hi,hh];rfl
 unfold JC
 cases hf:decide (0≤em (λe:Entr=>e.ip==ip) v)with
 |true=>
  rw[cond_true]
  unfold em at hf⊢
  cases hc:v.findIdx? (λe=>e.ip==ip)with
  |none=>rw[hc]at hf;simp at hf
  |some i=>
   obtain⟨h4,h5,_⟩:=List.findIdx?_eq_some_iff_getElem.1 hc
   simp only[ah]
   refine⟨λe he=>(List.mem_or_eq_of_mem_set he).elim (h.ok e) λx=>x▸hn, ?_,by rw[List.length_set];exact h.len⟩
   have e:(v.set i (⟨ip,hw,0⟩:Entr)).map Entr.ip=v.map Entr.ip:=by
    rw[List.map_set]
    have:(v.map Entr.ip)[i]'(by simpa using h4)=ip:=by simpa using h5
    conv=>lhs;rw[show(Entr.ip ⟨ip,hw,0⟩)=(v.map Entr.ip)[i]'(by simpa using h4) from this.symm]
    exact List.set_getElem_self _
   rw[e];exact h.nd
 |false=>
  rw[cond_false]
  have hnot:ip∉v.map Entr.ip:=by
   intro hm
   rw[List.mem_map]at hm
   obtain⟨x,hx,he⟩:=hm
   have:=mc (λe:Entr=>e.ip==ip) v
   rw[hf]at this
   have h2:=(List.any_eq_false.1 this.symm) x hx
   rw[he]at h2;simp at h2
  have hsub:(bif ((v.length:Int)==4)then v.take (zS v).toNat++v.drop ((zS v).toNat+1)else v).Sublist v∧(bif ((v.length:Int)==4)then v.take (zS v).toNat++v.drop ((zS v).toNat+1)else v).length≤3:=by
   have hl:=h.len
   have ho:=Q5 v
   cases h4:((v.length:Int)==4)with
   |false=>
    simp at h4
    exact⟨List.Sublist.refl _,by simp only[cond_false];omega⟩
   |true=>
    simp at h4
    refine⟨?_, ?_⟩
    ·rw[cond_true]
     have:=List.Sublist.append (List.Sublist.refl (v.take (zS v).toNat)) (List.Sublist.trans (show(v.drop ((zS v).toNat+1)).Sublist ((v.drop (zS v).toNat).drop 1) by rw[List.drop_drop];exact List.Sublist.refl _) (List.drop_sublist 1 (v.drop (zS v).toNat)))
     rwa [List.take_append_drop]at this
    ·rw[cond_true,List.length_append,List.length_take,List.length_drop];omega
  generalize(bif ((v.length:Int)==4)then v.take (zS v).toNat++v.drop ((zS v).toNat+1)else v)=w at hsub
  refine⟨λe he=> ?_, ?_,by rw[List.length_append,List.length_singleton];omega⟩
  ·rcases List.mem_append.1 he with he|he
   ·exact h.ok e (hsub.1.subset he)
   ·rw[List.mem_singleton.1 he];exact hn
  ·rw[List.map_append]
   have h1:=List.Nodup.sublist (hsub.1.map Entr.ip) h.nd
   rw[List.nodup_append]
   refine⟨h1,by simp,λa ha b hb=> ?_⟩
   simp at hb
   subst hb
   intro e
   subst e
   exact hnot ((hsub.1.map Entr.ip).subset ha)
theorem afx (a:Int)(h0:0≤a)(h1:a≤255):bits .and .i64 a 63=a.tmod 64:=by
 obtain⟨x,rfl⟩:=Int.eq_ofNat_of_zero_le h0
 have key:∀y:Fin 256,bits .and .i64 ((y.val:Nat):Int) 63=((y.val:Nat):Int).tmod 64:=by decide+kernel
 exact key ⟨x,by omega⟩
theorem Oy (v:aa)(hv:v.length≤4294967296):ly.f (v,())=lx.f (v,()):=by
 rw[E3 v hv,Gn v hv]
theorem OM (s:aa)(a b:Int)(hs:s.length≤4294967276):lF.f (s,a,b,())=cD.f (s,a,b,()):=by
 by_cases h:s.length<20
 ·simp only[PX,lF,cD,decide_eq_true (show(s.length:Int)<20 by omega),cond_true]
 ·have qM:s.length≤4294967296:=by omega
  have w1:=cG s 0 2 (by omega) (by omega) (by omega) qM
  have w2:=cG s 2 2 (by omega) (by omega) (by omega) qM
  have w3:=cG s 4 4 (by omega) (by omega) (by omega) qM
  have w4:=cG s 8 4 (by omega) (by omega) (by omega) qM
  have w5:=cG s 14 2 (by omega) (by omega) (by omega) qM
  have v1:=bE s 0 2 (by omega) (by omega) (by omega) qM
  have v2:=bE s 2 2 (by omega) (by omega) (by omega) qM
  have v3:=bE s 4 4 (by omega) (by omega) (by omega) qM
  have v4:=bE s 8 4 (by omega) (by omega) (by omega) qM
  have v5:=bE s 14 2 (by omega) (by omega) (by omega) qM
  simp only[Int.ofNat_zero,Int.cast_ofNat_Int]at w1 w2 w3 w4 w5 v1 v2 v3 v4 v5
  have b13:=gG s 13
  have e13:=afx (ai s 13) b13.1 b13.2
  have hph:=aeS a b (s.length:Int)
  have hq:=MZ (eB.f (a,b,(s.length:Int),())++s) (by rw[List.length_append];omega)
  simp only[PX,lF,cD,decide_eq_false (show¬(s.length:Int)<20 by omega),cond_false,w1,w2,w3,w4,w5,v1,v2,v3,v4,v5,G5,e13,Dt,bF,hq,qn]
  generalize IntKind.wrap .i64 ((IntKind.wrap .i64 ((ai s 12).tdiv 16))*4)=n
  rw[Oy _ (by rw[List.length_drop,List.length_take];omega)]
  rw[show(!(decide (20≤n)&&decide (n≤(s.length:Int))))=(decide (n<20)||decide ((s.length:Int)<n)) by rw[Bool.eq_iff_iff];simp<;>omega]
  cases decide (n<20)<;>cases decide ((s.length:Int)<n)<;>rfl
theorem Ht (l:Link):mK.f (l,())=l:=by simp only[PX,mK,gH]
theorem ZQ (l:Link):rF.f (l,())=l:=by simp only[PX,rF,List.nil_append]
theorem ady (f:Fram)(m:Int):Jv.f (f,m,())=tG.f (f,m,()):=by simp only[PX,Jv,tG]
theorem E9 (s:aa):(iP s).1.body.length≤s.length:=by
 unfold iP
 split
 ·simp
 ·cases ge.f (⟨gw s 0 6,gw s 6 6,gw s 12 2,s.drop 14⟩,())<;>simp
theorem acI (l:Link)(raw:aa)(hs:raw.length≤4294967296):Em.f (l,raw,())=bJ.f (l,raw,()):=by
 have hb:=E9 raw
 simp only[PX,Em,bJ,MA,Ht,ZQ,ady,Mm raw hs,zh raw hs,KD,QS,C0,Yi,PR,zm]
 generalize iP raw=F at hb
 rw[SK F.1.body (by omega),CT F.1.body (by omega),Ie F.1.body (by omega),yb F.1.body (by omega)]
 generalize Qt F.1.body=A
 generalize qH F.1.body=P
 cases(bif !dV.f (l,())then(true,())else bif !F.2 then(true,())else(!tG.f (F.1,l.mac,()),())).1 with
 |true=>rfl
 |false=>
  simp only[cond_false]
  cases(F.1.type==2054)with
  |true=>
   simp only[cond_true]
   cases(bif !A.2 then(true,())else(A.1.dstIp != l.ip,())).1 with
   |true=>rfl
   |false=>cases(pk.f (A.1,l.mac,l.ip,())).2<;>rfl
  |false=>
   simp only[cond_false,bne]
   cases(F.1.type==2048)<;>rfl
structure Pkt (l:Link)(raw:aa)(k:Link)(p:Pack):Prop where
 hF:(iP raw).2=true
 hM:tG.f ((iP raw).1,l.mac,())=true
 hP:qH (iP raw).1.body=(p,0)
 hD:p.dst=l.ip
 hT:p.proto=6
 hS:p.src≠l.ip
 hK:k={l with cache:=wL l.cache p.src (iP raw).1.src}
theorem Mz (l:Link)(raw:aa)(hs:raw.length≤4294967296):∃(k:Link) (n:Int) (p:Pack) (t:aa),bJ.f (l,raw,())=(k,n,p,t)∧((k=l∧n=0∧p=zP)∨(∃ip hw,k={l with cache:=wL l.cache ip hw}∧(n=0∨n=1)∧p=zP)∨(n=2∧Pkt l raw k p)):=by
 obtain⟨r,hr⟩:∃r,bJ.f (l,raw,())=r:=⟨_,rfl⟩
 refine⟨r.1,r.2.1,r.2.2.1,r.2.2.2,hr, ?_⟩
 have hb:=E9 raw
 simp only[PX,bJ,Ht,zh raw hs,C0]at hr
 rw[CT _ (by omega),yb _ (by omega)]at hr
 generalize Qt (iP raw).1.body=A at hr
 rcases Bool.eq_false_or_eq_true (bif !dV.f (l,())then(true,())else bif !(iP raw).2 then(true,())else(!tG.f ((iP raw).1,l.mac,()),())).1 with hc|hc
 ·rw[hc,cond_true]at hr;subst hr;exact .inl ⟨rfl,rfl,rfl⟩
 rw[hc,cond_false]at hr
 rcases Bool.eq_false_or_eq_true (((iP raw).1).type==2054)with h1|h1
 ·rw[h1,cond_true]at hr
  rcases Bool.eq_false_or_eq_true (bif !A.2 then(true,())else(A.1.dstIp != l.ip,())).1 with h2|h2
  ·rw[h2,cond_true]at hr;subst hr;exact .inl ⟨rfl,rfl,rfl⟩
  rw[h2,cond_false]at hr
  rcases Bool.eq_false_or_eq_true (pk.f (A.1,l.mac,l.ip,())).2 with h3|h3
  ·rw[h3,cond_true]at hr;subst hr;exact .inr (.inl ⟨_,_,rfl,.inr rfl,rfl⟩)
  ·rw[h3,cond_false]at hr;subst hr;exact .inr (.inl ⟨_,_,rfl,.inl rfl,rfl⟩)
 rw[h1,cond_false]at hr
 rcases Bool.eq_false_or_eq_true (((iP raw).1).type==2048)with h2|h2
 case inr=>rw[h2,cond_false]at hr;subst hr;exact .inl ⟨rfl,rfl,rfl⟩
 rw[h2,cond_true]at hr
 rcases Bool.eq_false_or_eq_true (bif (qH (iP raw).1.body).2 != 0 then(true,())else bif (qH (iP raw).1.body).1.dst != l.ip then(true,())else bif (qH (iP raw).1.body).1.proto != 6 then(true,())else((qH (iP raw).1.body).1.src==l.ip,())).1 with hP|hP
 ·rw[hP,cond_true]at hr;subst hr;exact .inl ⟨rfl,rfl,rfl⟩
 rw[hP,cond_false]at hr
 subst hr
 refine .inr (.inr ⟨rfl, ?_⟩)
 revert hP hc
 cases dV.f (l,())<;>cases h1:(iP raw).2<;>cases h2:tG.f ((iP raw).1,l.mac,())<;>intro hc<;>try (cases hc)
 cases h3:((qH (iP raw).1.body).2 != 0)<;>cases h4:((qH (iP raw).1.body).1.dst != l.ip)<;>cases h5:((qH (iP raw).1.body).1.proto != 6)<;>cases h6:((qH (iP raw).1.body).1.src==l.ip)<;>intro hP<;>try (cases hP)
 simp at h3 h4 h5 h6
 exact⟨h1,h2,by rw[←h3],h4,h5,h6,rfl⟩
theorem Dm (l:Link)(ip hw:Int)(h:dV.f (l,())=true):dV.f (({l with cache:=wL l.cache ip hw}:Link),())=true:=by
 obtain⟨h1,h2,h3,h4⟩:=(kP l).1 h
 refine(kP _).2 ⟨h1,h2,h3, ?_⟩
 show EO (wL l.cache ip hw)
 unfold wL
 cases hc:(gf.f (l.cache,())&&(ae.f (ip,32,())&&ae.f (hw,48,())))with
 |false=>exact h4
 |true=>
  simp only[Bool.and_eq_true]at hc
  exact acn _ _ _ h4 hc.2.1 hc.2.2
theorem Z4 (s:aa):(qH s).1.body.length≤s.length-20:=by
 unfold qH
 by_cases h:s.length<20
 ·rw[decide_eq_true h];exact Nat.zero_le _
 ·rw[decide_eq_false h]
  cases(ai s 0 != 69)
  case true=>exact Nat.zero_le _
  cases(!mv.f (s.take 20,()))
  case true=>exact Nat.zero_le _
  cases(decide (gw s 2 2<20)||(decide ((s.length:Int)<gw s 2 2)||decide (1500<gw s 2 2)))
  case true=>exact Nat.zero_le _
  cases(!(gw s 6 2==0||gw s 6 2==16384))
  case true=>exact Nat.zero_le _
  cases(ai s 8==0)
  case true=>exact Nat.zero_le _
  simp only[cond_false,List.length_drop,List.length_take]
  omega
def uG (s:Stac)(raw:aa):Stac×List aa×Int:=
 bif !be.f (s,())then(s,[],0)else
 bif (bJ.f (s.link,raw,())).2.1==1 then(⟨(bJ.f (s.link,raw,())).1,s.door⟩,[(bJ.f (s.link,raw,())).2.2.2],0)else
 bif (bJ.f (s.link,raw,())).2.1 != 2 then(⟨(bJ.f (s.link,raw,())).1,s.door⟩,[],0)else
 bif !(cD.f ((bJ.f (s.link,raw,())).2.2.1.body,(bJ.f (s.link,raw,())).2.2.1.src,(bJ.f (s.link,raw,())).2.2.1.dst,())).2 then(⟨(bJ.f (s.link,raw,())).1,s.door⟩,[],0)else
 (⟨(bJ.f (s.link,raw,())).1,(Oi s.door (bJ.f (s.link,raw,())).2.2.1.src (cD.f ((bJ.f (s.link,raw,())).2.2.1.body,(bJ.f (s.link,raw,())).2.2.1.src,(bJ.f (s.link,raw,())).2.2.1.dst,())).1).1⟩,
  (Oi s.door (bJ.f (s.link,raw,())).2.2.1.src (cD.f ((bJ.f (s.link,raw,())).2.2.1.body,(bJ.f (s.link,raw,())).2.2.1.src,(bJ.f (s.link,raw,())).2.2.1.dst,())).1).2.1.flatMap (xX (bJ.f (s.link,raw,())).1 (bJ.f (s.link,raw,())).2.2.1.src),
  (Oi s.door (bJ.f (s.link,raw,())).2.2.1.src (cD.f ((bJ.f (s.link,raw,())).2.2.1.body,(bJ.f (s.link,raw,())).2.2.1.src,(bJ.f (s.link,raw,())).2.2.1.dst,())).1).2.2)
theorem RE (s:Stac)(raw:aa)(hs:fA s.door)(hl:s.door.halves.length≤4294967296):Aw.f (s,raw,())=uG s raw:=by
 simp only[PX,Aw,rh,wW,uG]
 rw[X0 _ _ _ hs hl]
theorem Ri (s:Stac)(raw:aa)(hr:raw.length≤4294967296)(hs:fA s.door)(hl:s.door.halves.length≤4294967296):va.f (s,raw,())=uG s raw:=by
 rcases Bool.eq_false_or_eq_true (be.f (s,()))with h|h
 case inr=>simp only[PX,va,u6,rM s hs,h,Bool.not_false,cond_true,uG]
 have hD:=(iH _).1 ((bV s).1 h).2
 obtain⟨k,n,p,t,e,hc⟩:=Mz s.link raw hr
 have hp:p.body.length≤4294967276:=by
  rcases hc with⟨_,_,rfl⟩|⟨_,_,_,_,rfl⟩|⟨_,hk⟩
  ·exact Nat.zero_le _
  ·exact Nat.zero_le _
  ·have h1:=Z4 (iP raw).1.body
   have h2:=E9 raw
   rw[hk.hP]at h1
   simp only[]at h1
   omega
 have hg:=OM p.body p.src p.dst hp
 have hso:=ac0 s.door p.src (cD.f (p.body,p.src,p.dst,())).1 hs hD
 have hse:=Yz s.door p.src (cD.f (p.body,p.src,p.dst,())).1 hs hl
 simp only[PX,va,u6,rM s hs,h,Bool.not_true,cond_false,uG,acI s.link raw hr,e,hg,hse]
 rw[xd _ _ _ hso.2]
 cases(n==1)with
 |true=>rfl
 |false=>
  simp only[cond_false]
  cases(n != 2)with
  |true=>rfl
  |false=>rfl
theorem Oq (s:Stac)(raw:aa)(hr:raw.length≤4294967296)(hs:fA s.door)(h:be.f (s,())=true):be.f ((uG s raw).1,())=true:=by
 obtain⟨h1,h2⟩:=(bV s).1 h
 have hD:=(iH _).1 h2
 obtain⟨k,n,p,t,e,hc⟩:=Mz s.link raw hr
 have hk:dV.f (k,())=true:=by
  rcases hc with⟨rfl,_⟩|⟨_,_,rfl,_⟩|⟨_,hk⟩
  ·exact h1
  ·exact Dm _ _ _ h1
  ·rw[hk.hK];exact Dm _ _ _ h1
 have hso:=ac0 s.door p.src (cD.f (p.body,p.src,p.dst,())).1 hs hD
 simp only[uG,h,Bool.not_true,cond_false,e]
 cases(n==1)with
 |true=>exact(bV _).2 ⟨hk,h2⟩
 |false=>
  cases(n != 2)with
  |true=>exact(bV _).2 ⟨hk,h2⟩
  |false=>
   cases(cD.f (p.body,p.src,p.dst,())).2 with
   |false=>exact(bV _).2 ⟨hk,h2⟩
   |true=>exact(bV _).2 ⟨hk,(iH _).2 hso.1⟩
theorem UJ (t:Tabl)(l:Limi)(h:TO t l):TO (mt t) l:=by
 refine⟨h.lim, ?_, ?_, ?_, ?_, ?_, ?_⟩
 ·have:=List.length_filter_le (lv t) t.conns
  have h2:=h.nc
  show((List.filter _ _).length:Int)≤_
  omega
 ·have:=List.length_filter_le (mS t) t.waiting
  have h2:=h.nw
  show((List.filter _ _).length:Int)≤_
  omega
 ·intro c hc;exact h.co c (List.mem_filter.1 hc).1
 ·exact List.Nodup.sublist (List.Sublist.map _ (List.filter_sublist)) h.dc
 ·exact List.Nodup.sublist (List.filter_sublist) h.dw
 ·intro w hw
  have hw1:w∈t.waiting:=(List.mem_filter.1 hw).1
  have hw2:=h.wc w hw1
  rw[List.mem_map]at hw2
  obtain⟨c,hc,rfl⟩:=hw2
  rw[List.mem_map]
  refine⟨c,List.mem_filter.2 ⟨hc, ?_⟩,rfl⟩
  unfold lv
  have:t.waiting.any (jf c.tuple)=true:=by
   rw[List.any_eq_true];exact⟨_,hw1,ss _⟩
  simp only[this]
  cases(c.state != 8)<;>rfl
theorem P0 (t:Tabl):∀x∈(mt t).conns.map Conn.tuple,x∈t.conns.map Conn.tuple:=
 λx hx=>(List.Sublist.map Conn.tuple (List.filter_sublist (p:=lv t))).subset hx
theorem DO.tabl {d:Door}(h:DO d)(t:Tabl)(ht:TO t d.limits)(hm:∀x∈t.conns.map Conn.tuple,x∈d.table.conns.map Conn.tuple):DO ({d with table:=t}:Door):=
 ⟨h.port,h.c0,h.c1,h.keys,ht,h.hal,h.nh,h.k0,h.k1,λy hy hm2=>h.ap y hy (hm _ hm2)⟩
theorem CO.sndr {c:Conn}(h:CO c)(s:Sndr)(hs:SO s)(k:Int)(h1:1≤k)(h8:k≤8)(h7:c.state≠7)(hk:Zy k s.fin s.done c.r.done=true):CO ({c with s:=s,state:=k}:Conn):=
 ⟨h.tup,hs,h.rcv,h.opt,h1,h8,h.m0,h.m1,h.w0,h.w1,h.t0,h.t4,λ_=>h.t3 h7,h.r0,h.r3,hk⟩
theorem adl {k:Int}{sf sd rd:Bool}(h:Zy k sf sd rd=true)(hk:k=1∨k=4):sf=false∧sd=false:=by
 rcases hk with rfl|rfl<;>revert h<;>cases sf<;>cases sd<;>cases rd<;>decide
theorem ac1 (rd:Bool)(k:Int)(sf sd:Bool)(h:Zy k sf sd rd=true)(hk:k=1∨k=4):Zy (if k=1 then 2 else 6) true sd rd=true:=by
 rcases hk with rfl|rfl<;>revert h<;>cases sf<;>cases sd<;>cases rd<;>decide
structure Called (c x:Conn)(l:List Segm):Prop where
 co:CO x
 tu:x.tuple=c.tuple
 sm:bf x.r.held
 sg:∀g∈l,ak.f (g,())=true
theorem Called.none {c:Conn}(h:CO c)(hs:bf c.r.held):Called c c []:=⟨h,rfl,hs,λg hg=>by cases hg⟩
theorem Called.pump {c u:Conn}(hu:CO u)(ht:u.tuple=c.tuple)(hs:bf u.r.held)(w:Int):Called c (cO.f (u,w,())).1 (cO.f (u,w,())).2:=by
 have h:=FO u w hu.snd
 have hr:=h.re
 refine⟨h.ok hu ?_, ?_, ?_,FM u w hu hs⟩
 ·rcases h.tm with e|e
  ·exact .inr e
  ·exact .inl (by omega)
 ·rw[hr];exact ht
 ·rw[hr];exact hs
def QF (s:Sndr)(t:aa):Nat:=min t.length (48-s.data.length)
def Ep (s:Sndr)(t:aa):Sndr×Int:=if bi.f (s,())=true∧s.fin=false then({s with data:=s.data++t.take (QF s t)},(QF s t:Int))else(s,0)
theorem adi (s:Sndr)(t:aa)(h:s.data.length≤48):(if(t.length:Int)<IntKind.wrap .i64 (48-(s.data.length:Int))then(t.length:Int)else IntKind.wrap .i64 (48-(s.data.length:Int)))=(QF s t:Int):=by
 rw[am (by omega) (by omega)];unfold QF;split<;>omega
theorem Wb (s:Sndr)(t:aa):zq.f (s,t,())=Ep s t:=by
 simp only[PX,zq,kG,pi]
 unfold Ep
 rcases Bool.eq_false_or_eq_true (bi.f (s,()))with h|h
 ·have hs:=(yF s).1 h
  rcases Bool.eq_false_or_eq_true s.fin with hf|hf
  ·simp[h,hf]
  ·have e:=adi s t hs.2.2.1
   simp only[h,hf,Bool.not_true,cond_false,and_self,if_true,List.drop_zero,e,Int.toNat_natCast]
 ·simp[h]
theorem adv (s:Sndr)(t:aa)(h:SO s):SO (Ep s t).1∧(Ep s t).1.fin=s.fin∧(Ep s t).1.done=s.done:=by
 unfold Ep
 split
 ·rename_i hc
  obtain⟨h1,h2,h3,h4,h5,h6,h7⟩:=h
  refine⟨⟨h1,h2, ?_,h4, ?_, ?_, ?_⟩,rfl,rfl⟩
  ·show(s.data++t.take (QF s t)).length≤48
   rw[List.length_append,List.length_take];unfold QF;omega
  ·show s.sent≤((s.data++t.take (QF s t)).length:Int)
   rw[List.length_append];omega
  ·intro hf;have:=(h6 hf).1;rw[hc.2]at this;cases this
  ·intro hd;have:=(h7 hd).1;rw[hc.2]at this;cases this
 ·exact⟨h,rfl,rfl⟩
theorem U7 (c:Conn)(x:Sndr):({c with s.una:=x.una,s.data:=x.data,s.sent:=x.sent,s.fin:=x.fin,s.finSent:=x.finSent,s.done:=x.done}:Conn)={c with s:=x}:=rfl
theorem UY (c:Conn)(x:Recv):({c with r.next:=x.next,r.data:=x.data,r.held:=x.held,r.fin:=x.fin,r.done:=x.done}:Conn)={c with r:=x}:=rfl
def uE (c:Conn)(t:aa):Conn×Int×List Segm:=
 if aN.f (c,())=true∧(c.state=1∨c.state=4)then((cO.f ({c with s:=(Ep c.s t).1},c.window,())).1,(Ep c.s t).2,(cO.f ({c with s:=(Ep c.s t).1},c.window,())).2)else(c,0,[])
theorem adt {a b:Int}(h:¬a=b):(a==b)=false:=by simpa using h
theorem ab8 {a b:Int}(h:¬a=b):(a != b)=true:=by simpa using h
theorem QB (b:Bool)(k:Int):(bif !b then(true,())else bif k != 1 then(k != 4,())else(false,())).1= !decide (b=true∧(k=1∨k=4)):=by
 cases b
 ·simp
 ·by_cases h:k=1
  ·subst h;rfl
  ·by_cases h4:k=4
   ·subst h4;rfl
   ·rw[ab8 h,ab8 h4,decide_eq_false (by rintro⟨_,hh|hh⟩<;>contradiction)]
    rfl
theorem Yc (c:Conn)(t:aa)(hs:bf c.r.held):Dp.f (c,t,())=uE c t:=by
 simp only[PX,Dp,fG,Wb,lH c hs,QB]
 unfold uE
 by_cases h:aN.f (c,())=true∧(c.state=1∨c.state=4)
 ·have hc:=(qA c).1 h.1
  have hw:c.window≤9223372036854775807:=by have:=hc.w1;have:=hc.m1;omega
  rw[decide_eq_true h,if_pos h,Bool.not_true,cond_false,U7,LX ({c with s:=(Ep c.s t).1}:Conn) c.window hw hs]
 ·rw[decide_eq_false h,if_neg h,Bool.not_false,cond_true]
theorem U8 (c:Conn)(t:aa)(h:CO c)(hs:bf c.r.held):Called c (uE c t).1 (uE c t).2.2:=by
 unfold uE
 split
 ·rename_i hc
  have hq:=adv c.s t h.snd
  refine Called.pump (c:=c) (u:=({c with s:=(Ep c.s t).1}:Conn)) ?_ rfl hs c.window
  have:=CO.sndr h (Ep c.s t).1 hq.1 c.state h.s1 h.s8 (by rcases hc.2 with e|e<;>omega) (by rw[hq.2.1,hq.2.2];exact h.fl)
  exact this
 ·exact Called.none h hs
def IW (x:Recv)(n:Int):Nat:=(max 0 (min n (x.data.length:Int))).toNat
def uF (x:Recv)(n:Int):Recv×aa:=if bp.f (x,())=true then({x with data:=x.data.drop (IW x n)},x.data.take (IW x n))else(x,[])
theorem abC (x:Recv)(n:Int):(if(if n<(x.data.length:Int)then n else(x.data.length:Int))<0 then 0 else(if n<(x.data.length:Int)then n else(x.data.length:Int))).toNat=IW x n:=by
 unfold IW;congr 1;split<;>split<;>omega
theorem RN (x:Recv)(n:Int)(hs:bf x.held):vO.f (x,n,())=uF x n:=by
 simp only[PX,vO,rP,wQ x hs,kG,mD]
 unfold uF
 have e:=abC x n
 rcases Bool.eq_false_or_eq_true (bp.f (x,()))with h|h
 ·simp[h,←e]
 ·simp[h]
theorem Zg (x:Recv)(n:Int)(h:RV x)(hs:bf x.held):RV (uF x n).1∧(uF x n).1.done=x.done∧(uF x n).1.held=x.held:=by
 unfold uF
 split
 ·refine⟨⟨h.n0,h.n1, ?_,h.hl,h.f0, ?_,h.fz, ?_,h.dn⟩,rfl,rfl⟩
  ·show(x.data.drop (IW x n)).length≤32
   rw[List.length_drop];have:=h.dl;omega
  ·have h1:=h.f1
   have:mL x≤mL ({x with data:=x.data.drop (IW x n)}:Recv):=by unfold mL;simp only[List.length_drop];split<;>omega
   exact Int.le_trans h1 this
  ·have hw:mL x≤mL ({x with data:=x.data.drop (IW x n)}:Recv):=by unfold mL;simp only[List.length_drop];split<;>omega
   obtain⟨b,hb⟩:=h.wk
   show∃b,d8 (if x.fin= -1 then mL ({x with data:=x.data.drop (IW x n)}:Recv)else x.fin) 0 x.held=some b
   by_cases hf:x.fin= -1
   ·rw[if_pos hf]at hb⊢
    have h0:=(lV x h.dl).1
    have hsub:=Fk (mL x) (mL ({x with data:=x.data.drop (IW x n)}:Recv)) hw x.held 0 h0
    rw[hb]at hsub
    cases hm:d8 (mL ({x with data:=x.data.drop (IW x n)}:Recv)) 0 x.held with
    |some b2=>exact⟨b2,rfl⟩
    |none=>rw[hm]at hsub;cases hsub
   ·rw[if_neg hf]at hb⊢;exact⟨b,hb⟩
 ·exact⟨h,rfl,rfl⟩
theorem CO.rcvd {c:Conn}(h:CO c)(r:Recv)(hr:bp.f (r,())=true)(hd:r.done=c.r.done):CO ({c with r:=r}:Conn):=
 ⟨h.tup,h.snd,hr,h.opt,h.s1,h.s8,h.m0,h.m1,h.w0,h.w1,h.t0,h.t4,h.t3,h.r0,h.r3,by have:=h.fl;show Zy c.state c.s.fin c.s.done r.done=true;rw[hd];exact this⟩
def yc (c:Conn)(n:Int):Conn×aa×List Segm:=
 if aN.f (c,())=true then(({c with r:=(uF c.r n).1}:Conn),(uF c.r n).2,if bB.f (c.r,())=0∧bB.f ((uF c.r n).1,())≠0∧c.state≠8∧c.state≠7 then[bC.f (({c with r:=(uF c.r n).1}:Conn),())]else[])else(c,[],[])
theorem QK (x:Mac)(h:fK.f (x,⟨false,0,0,[]⟩,())=true):x=⟨false,0,0,[]⟩:=by
 simp only[PX,fK,nR]at h
 obtain⟨u,k,l,r⟩:=x
 cases r with
 |nil=>
  revert h
  cases hu:(u==false)<;>cases hk:(k==0)<;>cases hl:(l==0)<;>simp_all
 |cons a b=>
  have:(((a::b).length:Int) != (([]:List MacRow).length:Int))=true:=by simp;omega
  simp only[this,cond_true]at h
  revert h
  cases(u==false)<;>cases(k==0)<;>cases(l==0)<;>simp
theorem Jd (x:Acti):ua.f (x,())=ld.f (x,()):=by
 obtain⟨kd,t,n,tx,mac⟩:=x
 have hs:fK.f (mac,⟨false,0,0,[]⟩,())=true→jX.f (mac,())=true:=λh=>by rw[QK mac h];rfl
 have hz:((t.ip==0)&&((t.port==0)&&((t.my==0)&&true)))=true→aG.f (t,())=true:=λh=>by
  obtain⟨a,b,c⟩:=t
  simp only[Bool.and_eq_true,beq_iff_eq,Bool.and_true]at h
  obtain⟨rfl,rfl,rfl⟩:=h
  decide+kernel
 have hx:(tx==[])=true→decide ((tx.length:Int)≤1600)=true:=λh=>by
  have:tx=[]:=by simpa using h
  subst this;rfl
 have hn:(n==0)=true→(decide (0≤n)&&decide (n≤65535))=true:=λh=>by
  have:n=0:=by simpa using h
  subst this;rfl
 have hl:decide (1600<(tx.length:Int))= !decide ((tx.length:Int)≤1600):=by
  rcases Int.lt_or_le 1600 (tx.length:Int)with h|h
  ·simp[h,show¬((tx.length:Int)≤1600) by omega]
  ·simp[h,show¬(1600<(tx.length:Int)) by omega]
 have hb:(n != 0)= !(n==0):=rfl
 have hk:kd=1∨kd=2∨kd=3∨kd=4∨kd=5∨kd=6∨kd=7∨kd=8∨((decide (1≤kd)&&decide (kd≤8))=false∧(kd==1)=false∧(kd==3)=false∧(kd==5)=false∧(kd==6)=false∧(kd==7)=false∧(kd==8)=false):=by
  by_cases h:1≤kd∧kd≤8
  ·omega
  ·refine .inr (.inr (.inr (.inr (.inr (.inr (.inr (.inr ⟨?_, ?_, ?_, ?_, ?_, ?_, ?_⟩)))))))
   ·simp only[Bool.and_eq_false_iff,decide_eq_false_iff_not];omega
   all_goals (rw[beq_eq_false_iff_ne];omega)
 simp only[Bool.and_true]at hz
 rcases hk with rfl|rfl|rfl|rfl|rfl|rfl|rfl|rfl|hk
 case inr.inr.inr.inr.inr.inr.inr.inr=>
  obtain⟨e,e1,e3,e5,e6,e7,e8⟩:=hk
  simp only[PX,ua,ld,bF,av,e,e1,e3,e5,e6,e7,e8,cond_true,cond_false,Bool.not_false]
 all_goals
  simp only[PX,ua,ld,bF,av,rG,Fs,Sw,N2,hl,hb,Int.reduceBEq,Int.reduceBNe,Int.reduceLE,decide_true,cond_true,cond_false,beq_self_eq_true,bne_self_eq_false,Bool.and_true,Bool.and_self,Bool.not_true,Bool.not_false]
  clear hl hb
  generalize fK.f (mac,⟨false,0,0,[]⟩,())=S at*
  generalize jX.f (mac,())=M at*
  generalize aG.f (t,())=T at*
  generalize((t.ip==0)&&((t.port==0)&&(t.my==0)))=Z at*
  generalize(tx==[])=X at*
  generalize decide ((tx.length:Int)≤1600)=L at*
  generalize(decide (0≤n)&&decide (n≤65535))=NN at*
  generalize(n==0)=N0 at*
  revert S M T Z X L NN N0
  decide+kernel
theorem Y5 (k:Int):(bif k != 8 then(k != 7,())else(false,())).1=decide (k≠8∧k≠7):=by
 by_cases h8:k=8
 ·subst h8;rfl
 ·by_cases h7:k=7
  ·subst h7;rfl
  ·rw[ab8 h8,ab8 h7,decide_eq_true (⟨h8,h7⟩:k≠8∧k≠7)];rfl
theorem adE (w w' k:Int)(h:0≤w'):(bif w==0 then bif decide (0<w')then bif k != 8 then(k != 7,())else(false,())else(false,())else(false,())).1=decide (w=0∧w'≠0∧k≠8∧k≠7):=by
 by_cases h1:w=0
 ·by_cases h2:w'=0
  ·subst h1 h2;rfl
  ·rw[show(w==0)=true by rw[h1];rfl,decide_eq_true (show 0<w' by omega),cond_true,cond_true,Y5]
   simp[h1,h2]
 ·rw[adt h1,cond_false,decide_eq_false (λhh=>h1 hh.1)]
theorem afA (x:Recv)(n:Int)(h:RV x)(hs:bf x.held):0≤bB.f ((uF x n).1,()):=by
 have h2:=(Zg x n h hs).1.dl
 rw[gD _ h2];exact(lV _ h2).1
theorem Vn (c:Conn)(n:Int)(h:aN.f (c,())=true)(b:Bool)(hb:b=decide (bB.f (c.r,())=0∧bB.f ((uF c.r n).1,())≠0∧c.state≠8∧c.state≠7)):(bif b then(({c with r:=(uF c.r n).1}:Conn),(uF c.r n).2,[bC.f (({c with r:=(uF c.r n).1}:Conn),())])else(({c with r:=(uF c.r n).1}:Conn),(uF c.r n).2,[]))=yc c n:=by
 unfold yc
 rw[if_pos h,hb]
 split
 ·rename_i hc;rw[decide_eq_true hc];rfl
 ·rename_i hc;rw[decide_eq_false hc];rfl
theorem aaE (c:Conn)(n:Int)(hs:bf c.r.held):sX.f (c,n,())=yc c n:=by
 simp only[PX,sX,fG,RN _ _ hs,lH c hs,oE,tY]
 rcases Bool.eq_false_or_eq_true (aN.f (c,()))with h|h
 ·have hc:=(qA c).1 h
  have hr:=(lw c.r hs).1 hc.rcv
  rw[h,Bool.not_true,cond_false,adE _ _ _ (afA c.r n hr hs),UY]
  exact Vn c n h _ rfl
 ·unfold yc;rw[h,Bool.not_false,cond_true,if_neg (by simp)]
theorem Zs (c:Conn)(n:Int)(h:CO c)(hs:bf c.r.held):Called c (yc c n).1 (yc c n).2.2:=by
 unfold yc
 split
 ·have hr:=(lw c.r hs).1 h.rcv
  have ht:=Zg c.r n hr hs
  have hh:bf (uF c.r n).1.held:=by rw[ht.2.2];exact hs
  have hc:=CO.rcvd h (uF c.r n).1 ((lw _ hh).2 ht.1) ht.2.1
  refine⟨hc,rfl,hh, ?_⟩
  intro g hg
  show ak.f (g,())=true
  revert hg
  show g∈(if _ then[_]else[])→_
  split
  ·intro hg;rw[List.mem_singleton.1 hg];exact Eb _ hc hh
  ·intro hg;cases hg
 ·exact Called.none h hs
def Eh (c:Conn):Conn×List Segm:=
 if aN.f (c,())=true∧(c.state=1∨c.state=4)then cO.f (({c with state:=if c.state=1 then 2 else 6,s.fin:=true}:Conn),c.window,())else(c,[])
theorem ZL (c:Conn)(hs:bf c.r.held):KC.f (c,())=Eh c:=by
 simp only[PX,KC,fG,lH c hs,QB]
 unfold Eh
 by_cases h:aN.f (c,())=true∧(c.state=1∨c.state=4)
 ·have hc:=(qA c).1 h.1
  have hw:c.window≤9223372036854775807:=by have:=hc.w1;have:=hc.m1;omega
  rw[decide_eq_true h,if_pos h,Bool.not_true,cond_false]
  rcases h.2 with e|e
  ·have e4:(c.state==4)=false:=by rw[e];rfl
   rw[e4,cond_false,if_pos e,LX ({c with state:=2,s.fin:=true}:Conn) c.window hw hs]
  ·have e4:(c.state==4)=true:=by rw[e];rfl
   rw[e4,cond_true,if_neg (by omega),LX ({c with state:=6,s.fin:=true}:Conn) c.window hw hs]
 ·rw[decide_eq_false h,if_neg h,Bool.not_false,cond_true]
theorem Za (c:Conn)(h:CO c)(hs:bf c.r.held):Called c (Eh c).1 (Eh c).2:=by
 unfold Eh
 split
 ·rename_i hc
  refine Called.pump (c:=c) (u:=({c with state:=if c.state=1 then 2 else 6,s.fin:=true}:Conn)) ?_ rfl hs c.window
  have hl:=adl h.fl hc.2
  have hso:SO ({c.s with fin:=true}:Sndr):=by
   obtain⟨h1,h2,h3,h4,h5,h6,h7⟩:=h.snd
   refine⟨h1,h2,h3,h4,h5,λhf=>⟨rfl,(h6 hf).2⟩,λhd=> ?_⟩
   rw[show({c.s with fin:=true}:Sndr).done=c.s.done from rfl,hl.2]at hd;cases hd
  have hk:=ac1 c.r.done c.state c.s.fin c.s.done h.fl hc.2
  exact CO.sndr h _ hso (if c.state=1 then 2 else 6) (by split<;>omega) (by split<;>omega) (by rcases hc.2 with e|e<;>omega) hk
 ·exact Called.none h hs
def xw (c:Conn):Conn×List Segm:=
 if aN.f (c,())=true∧c.state≠8 then(({c with state:=8,timer:=0,tries:=0}:Conn),[({bC.f (c,())with flags:=bits .or .i64 (bC.f (c,())).flags 4}:Segm)])else(c,[])
theorem YR (c:Conn)(hs:bf c.r.held):Jc.f (c,())=xw c:=by
 simp only[PX,Jc,fG,lH c hs,tY]
 unfold xw
 rcases Bool.eq_false_or_eq_true (aN.f (c,()))with h|h
 ·by_cases h8:c.state=8
  ·simp[h,h8]
  ·have:(c.state==8)=false:=by simpa using h8
   rw[h,this,if_pos ⟨rfl,h8⟩];rfl
 ·rw[h,if_neg (by simp)];rfl
theorem VV (c:Conn)(h:CO c)(hs:bf c.r.held):Called c (xw c).1 (xw c).2:=by
 unfold xw
 split
 ·have hr:=(lw c.r hs).1 h.rcv
  refine⟨CO.set h 8 0 0 (.inr rfl) (by omega) (by omega) (λ_=>by omega) (by omega) (by omega),rfl,hs,λg hg=> ?_⟩
  rw[List.mem_singleton.1 hg]
  have h2:=Yx c h.tup hr.dl ⟨hr.n0,hr.n1⟩ (ij.f (c.s,())) 20 [] (by rw[FI];omega) (by omega) (by simp)
  have e:({bC.f (c,())with seq:=ij.f (c.s,()),flags:=20,body:=[]}:Segm)={bC.f (c,())with flags:=bits .or .i64 (bC.f (c,())).flags 4}:=by
   simp only[PX,bC]
   rw[show bits .or .i64 16 4=20 by decide+kernel]
  rw[←e];exact h2
 ·exact Called.none h hs
def uf (c:Conn)(a:Acti):Conn×Int×aa×List Segm:=
 if a.kind=5 then((uE c a.text).1,(uE c a.text).2.1,[],(uE c a.text).2.2)else if a.kind=6 then((yc c a.n).1,0,(yc c a.n).2.1,(yc c a.n).2.2)else if a.kind=7 then((Eh c).1,0,[],(Eh c).2)else((xw c).1,0,[],(xw c).2)
theorem Y6 (c:Conn)(a:Acti)(h:CO c)(hs:bf c.r.held):Called c (uf c a).1 (uf c a).2.2.2:=by
 unfold uf
 split
 ·exact U8 c _ h hs
 ·split
  ·exact Zs c _ h hs
  ·split
   ·exact Za c h hs
   ·exact VV c h hs
def xN (t:Tabl):Tabl×Tupl×Bool:=match t.waiting with|[]=>(t,⟨0,0,0⟩,false)|w::r=>(⟨t.conns,r⟩,w,true)
theorem abk (t:Tabl):lL.f (t,())=xN t:=by
 obtain⟨cs,ws⟩:=t
 simp only[PX,lL,AA]
 cases ws with
 |nil=>rfl
 |cons w r=>
  rw[adt (show¬((w::r).length:Int)=0 by rw[List.length_cons];omega),cond_false]
  simp[xN]
def zR (b:Bool):Resu:=⟨[],0,⟨0,0,0⟩,0,[],b⟩
theorem Ah (s:Stac)(c:Conn)(xs:List Segm)(r:Resu)(hx:∀g∈xs,ak.f (g,())=true):pf.f (s,c,xs,r,())=(({s with door.table:=mt (dd.f (s.door.table,c,()))}:Stac),({r with frames:=xs.flatMap (xX s.link c.tuple.ip),ok:=true}:Resu)):=by
 simp only[PX,pf,PE,Cy,xd _ _ _ hx]
def MU (s:Stac)(a:Acti):Stac×Resu:=
 if 0≤ar.f (s.door.table,a.tuple,())∧s.door.table.waiting.any (jf a.tuple)=false then
  (({s with door.table:=mt (dd.f (s.door.table,(uf (s.door.table.conns.getD (ar.f (s.door.table,a.tuple,())).toNat (Ty.zero .conn)) a).1,()))}:Stac),
   (⟨(uf (s.door.table.conns.getD (ar.f (s.door.table,a.tuple,())).toNat (Ty.zero .conn)) a).2.2.2.flatMap (xX s.link a.tuple.ip),0,⟨0,0,0⟩,(uf (s.door.table.conns.getD (ar.f (s.door.table,a.tuple,())).toNat (Ty.zero .conn)) a).2.1,(uf (s.door.table.conns.getD (ar.f (s.door.table,a.tuple,())).toNat (Ty.zero .conn)) a).2.2.1,true⟩:Resu))
 else(s,zR false)
theorem SS (d:Door)(hD:DO d)(hs:fA d)(t:Tupl)(h:0≤ar.f (d.table,t,())):∃k:Nat,ar.f (d.table,t,())=(k:Int)∧∃hk:k<d.table.conns.length,d.table.conns[k].tuple=t∧CO d.table.conns[k]∧bf d.table.conns[k].r.held:=by
 obtain⟨k,e,hk,ht⟩:=CY d t h
 exact⟨k,e,hk,ht,hD.tab.co _ (List.getElem_mem hk),hs _ (List.getElem_mem hk)⟩
theorem aat (s:Stac)(a:Acti)(hD:DO s.door)(hs:fA s.door):Ap.f (s,a,())=MU s a:=by
 simp only[PX,Ap,gM,vY]
 unfold MU
 by_cases h:0≤ar.f (s.door.table,a.tuple,())
 ·obtain⟨k,ek,hk,ht,hc,hp⟩:=SS s.door hD hs a.tuple h
  rw[show decide (ar.f (s.door.table,a.tuple,())<0)=false by rw[decide_eq_false_iff_not];omega]
  rcases Bool.eq_false_or_eq_true (s.door.table.waiting.any (jf a.tuple))with hw|hw
  ·rw[hw,cond_false,cond_true,if_neg (by simp)];rfl
  ·rw[hw,cond_false,cond_false,if_pos ⟨h,rfl⟩,ek,Int.toNat_natCast,getD_some (List.getElem?_eq_getElem hk)]
   generalize s.door.table.conns[k]=c at*
   rw[Yc c _ hp,aaE c _ hp,ZL c hp,YR c hp]
   have w1:=U8 c a.text hc hp
   have w2:=Zs c a.n hc hp
   have w3:=Za c hc hp
   have w4:=VV c hc hp
   rw[Ah s _ _ _ w1.sg,Ah s _ _ _ w2.sg,Ah s _ _ _ w3.sg,Ah s _ _ _ w4.sg,w1.tu,w2.tu,w3.tu,w4.tu,ht]
   unfold uf
   by_cases h5:a.kind=5
   ·rw[if_pos h5,show(a.kind==5)=true by simpa using h5];rfl
   ·rw[if_neg h5,show(a.kind==5)=false by simpa using h5,cond_false]
    by_cases h6:a.kind=6
    ·rw[if_pos h6,show(a.kind==6)=true by simpa using h6];rfl
    ·rw[if_neg h6,show(a.kind==6)=false by simpa using h6,cond_false]
     by_cases h7:a.kind=7
     ·rw[if_pos h7,show(a.kind==7)=true by simpa using h7];rfl
     ·rw[if_neg h7,show(a.kind==7)=false by simpa using h7];rfl
 ·rw[show decide (ar.f (s.door.table,a.tuple,())<0)=true by rw[decide_eq_true_eq];omega,if_neg (λhh=>h hh.1)];rfl
def iV (s:Stac)(a:Acti):Stac×Resu:=
 if be.f (s,())=true∧ld.f (a,())=true then
  if a.kind=1 then((uG s a.text).1,(⟨(uG s a.text).2.1,(uG s a.text).2.2,⟨0,0,0⟩,0,[],true⟩:Resu))
  else if a.kind=2 then((Jz s).1,(⟨(Jz s).2,0,⟨0,0,0⟩,0,[],true⟩:Resu))
  else if a.kind=3 then((⟨s.link,kg.f (s.door,a.mac,())⟩:Stac),zR true)
  else if a.kind=4 then(({s with door.table:=mt (xN s.door.table).1}:Stac),(⟨[],0,(xN s.door.table).2.1,0,[],(xN s.door.table).2.2⟩:Resu))
  else MU s a
 else(s,zR false)
theorem Mv {A:Type}(k:Int)(x1 x2 x3 x4 x5:A):(bif k==1 then x1 else bif k==2 then x2 else bif k==3 then x3 else bif k==4 then x4 else x5)=if k=1 then x1 else if k=2 then x2 else if k=3 then x3 else if k=4 then x4 else x5:=by
 by_cases h1:k=1
 ·subst h1;rfl
 ·rw[if_neg h1,show(k==1)=false by simpa using h1,cond_false]
  by_cases h2:k=2
  ·subst h2;rfl
  ·rw[if_neg h2,show(k==2)=false by simpa using h2,cond_false]
   by_cases h3:k=3
   ·subst h3;rfl
   ·rw[if_neg h3,show(k==3)=false by simpa using h3,cond_false]
    by_cases h4:k=4
    ·subst h4;rfl
    ·rw[if_neg h4,show(k==4)=false by simpa using h4,cond_false]
theorem QC (a b:Bool):(bif !a then(true,())else(!b,())).1= !decide (a=true∧b=true):=by cases a<;>cases b<;>rfl
theorem abv (s:Stac)(a:Acti)(hs:fA s.door)(hl:s.door.halves.length≤4294967296)(hr:a.text.length≤4294967296):z8.f (s,a,())=iV s a:=by
 simp only[PX,z8,u6,Ri s a.text hr hs hl,rM s hs,Jd,TX,abk,Cy,QC,Mv]
 unfold iV
 by_cases h:be.f (s,())=true∧ld.f (a,())=true
 ·have hD:=(iH s.door).1 ((bV s).1 h.1).2
  rw[decide_eq_true h,if_pos h,Bool.not_true,cond_false,MP s h.1 hs,aat s a hD hs]
  rfl
 ·rw[decide_eq_false h,if_neg h,Bool.not_false,cond_true];rfl
theorem TO.take {t:Tabl}{l:Limi}(h:TO t l):TO (xN t).1 l:=by
 obtain⟨cs,ws⟩:=t
 unfold xN
 cases ws with
 |nil=>exact h
 |cons w r=>
  have h2:=h.nw
  have h3:=h.dw
  simp only[List.length_cons,List.nodup_cons]at h2 h3
  exact⟨h.lim,h.nc,by show(r.length:Int)≤_;omega,h.co,h.dc,h3.2,λx hx=>h.wc x (List.mem_cons_of_mem _ hx)⟩
theorem YC (t:Tabl):(xN t).1.conns=t.conns:=by
 obtain⟨cs,ws⟩:=t
 cases ws<;>rfl
theorem SV (d:Door)(m:Mac):kg.f (d,m,())={d with keys:=oK.f (d.keys,m,())}:=by
 simp only[PX,kg,kt]
theorem adF (s:Stac)(a:Acti)(hs:fA s.door)(hr:a.text.length≤4294967296)(h:be.f (s,())=true):be.f ((iV s a).1,())=true:=by
 unfold iV
 split
 ·have hk:=(bV s).1 h
  have hD:=(iH s.door).1 hk.2
  split
  ·exact Oq s a.text hr hs h
  ·split
   ·exact RG s h
   ·split
    ·rw[bV]
     refine⟨hk.1,(iH _).2 ?_⟩
     rw[SV]
     exact⟨hD.port,hD.c0,hD.c1,Yu _ _ hD.keys,hD.tab,hD.hal,hD.nh,hD.k0,hD.k1,hD.ap⟩
    ·split
     ·rw[bV]
      refine⟨hk.1,(iH _).2 (hD.tabl _ (UJ _ _ hD.tab.take) λx hx=> ?_)⟩
      have:=P0 _ x hx
      rw[YC]at this;exact this
     ·unfold MU
      split
      ·rename_i hc
       obtain⟨k,ek,hk2,ht,hco,hp⟩:=SS s.door hD hs a.tuple hc.1
       rw[ek,Int.toNat_natCast,getD_some (List.getElem?_eq_getElem hk2),bV]
       have ho:=Y6 s.door.table.conns[k] a hco hp
       refine⟨hk.1,(iH _).2 ?_⟩
       have e:=rx s.door.table (uf s.door.table.conns[k] a).1 hD.tab.dc k hk2 ho.tu
       refine hD.tabl _ (UJ _ _ ?_) λx hx=> ?_
       ·rw[e];exact TO.set hD.tab k _ ho.co hk2 ho.tu
       ·have:=P0 _ x hx
        rw[e]at this
        have h2:x∈(s.door.table.conns.set k (uf s.door.table.conns[k] a).1).map Conn.tuple:=this
        rw[ZF _ _ _ hk2 ho.tu]at h2;exact h2
      ·exact h
 ·exact h
theorem adL (s:Sndr)(t:aa)(h:s.data.length≤48):(if IntKind.wrap .i64 (48-(s.data.length:Int))<(t.length:Int)then IntKind.wrap .i64 (48-(s.data.length:Int))else(t.length:Int))=(QF s t:Int):=by
 rw[am (by omega) (by omega)];unfold QF;split<;>omega
theorem adN (a b:Bool):(bif !a then(true,())else(b,())).1= !decide (a=true∧b=false):=by cases a<;>cases b<;>rfl
theorem Wq (s:Sndr)(t:aa):Dr.f (s,t,())=Ep s t:=by
 simp only[PX,Dr,adN]
 unfold Ep
 by_cases h:bi.f (s,())=true∧s.fin=false
 ·have hs:=(yF s).1 h.1
  have e:=adL s t hs.2.2.1
  rw[decide_eq_true h,if_pos h,Bool.not_true,cond_false]
  simp only[e,List.drop_zero,Int.toNat_natCast]
 ·rw[decide_eq_false h,if_neg h,Bool.not_false,cond_true]
theorem XQ (c:Conn)(t:aa):Ja.f (c,t,())=uE c t:=by
 simp only[PX,Ja,ce,Wq,QB]
 unfold uE
 by_cases h:aN.f (c,())=true∧(c.state=1∨c.state=4)
 ·rw[decide_eq_true h,if_pos h,Bool.not_true,cond_false,U7]
 ·rw[decide_eq_false h,if_neg h,Bool.not_false,cond_true]
theorem RT (x:Recv)(n:Int):AC.f (x,n,())=uF x n:=by
 simp only[PX,AC,qu]
 unfold uF
 rcases Bool.eq_false_or_eq_true (bp.f (x,()))with h|h
 ·have e:(if 0<(if(x.data.length:Int)<n then(x.data.length:Int)else n)then(if(x.data.length:Int)<n then(x.data.length:Int)else n)else 0).toNat=IW x n:=by
   unfold IW;congr 1;split<;>split<;>omega
  simp[h,←e]
 ·simp[h]
theorem acU (w w' k:Int):(bif w==0 then bif w' != 0 then bif k != 8 then(k != 7,())else(false,())else(false,())else(false,())).1=decide (w=0∧w'≠0∧k≠8∧k≠7):=by
 by_cases h1:w=0
 ·by_cases h2:w'=0
  ·subst h1 h2;rfl
  ·rw[show(w==0)=true by rw[h1];rfl,ab8 h2,cond_true,cond_true,Y5]
   simp[h1,h2]
 ·rw[adt h1,cond_false,decide_eq_false (λhh=>h1 hh.1)]
theorem aaI (c:Conn)(n:Int):vW.f (c,n,())=yc c n:=by
 simp only[PX,vW,ce,RT]
 rcases Bool.eq_false_or_eq_true (aN.f (c,()))with h|h
 ·rw[h,Bool.not_true,cond_false,acU,UY]
  exact Vn c n h _ rfl
 ·unfold yc;rw[h,Bool.not_false,cond_true,if_neg (by simp)]
theorem aaZ (c:Conn):RU.f (c,())=Eh c:=by
 simp only[PX,RU,ce]
 unfold Eh
 rcases Bool.eq_false_or_eq_true (aN.f (c,()))with h|h
 ·rw[h,Bool.not_true,cond_false]
  by_cases h1:c.state=1
  ·have e:(c.state==1)=true:=by rw[h1];rfl
   rw[e,cond_true,if_pos ⟨rfl,.inl h1⟩,if_pos h1]
   rfl
  ·have e:(c.state==1)=false:=by simpa using h1
   rw[e,cond_false]
   by_cases h4:c.state=4
   ·have e4:(c.state==4)=true:=by rw[h4];rfl
    rw[e4,cond_true,if_pos ⟨rfl,.inr h4⟩,if_neg h1]
    rfl
   ·have e4:(c.state==4)=false:=by simpa using h4
    rw[e4,cond_false,if_neg (by rintro⟨_,h|h⟩;exact h1 h;exact h4 h)]
    rfl
 ·rw[h,Bool.not_false,cond_true,if_neg (by simp)]
theorem YU (c:Conn):Jt.f (c,())=xw c:=by
 simp only[PX,Jt,ce]
 unfold xw
 rcases Bool.eq_false_or_eq_true (aN.f (c,()))with h|h
 ·by_cases h8:c.state=8
  ·simp[h,h8]
  ·have:(c.state==8)=false:=by simpa using h8
   rw[h,this,if_pos ⟨rfl,h8⟩];rfl
 ·rw[h,if_neg (by simp)];rfl
theorem Ys {A:Type}(k:Int)(x1 x2 x3 x4:A):(bif k==5 then x1 else bif k==6 then x2 else bif k==7 then x3 else x4)=if k=5 then x1 else if k=6 then x2 else if k=7 then x3 else x4:=by
 by_cases h1:k=5
 ·subst h1;rfl
 ·rw[if_neg h1,show(k==5)=false by simpa using h1,cond_false]
  by_cases h2:k=6
  ·subst h2;rfl
  ·rw[if_neg h2,show(k==6)=false by simpa using h2,cond_false]
   by_cases h3:k=7
   ·subst h3;rfl
   ·rw[if_neg h3,show(k==7)=false by simpa using h3,cond_false]
theorem NC (c:Conn)(a:Acti):wO.f (c,a,())=uf c a:=by
 simp only[PX,wO,XQ,aaI,aaZ,YU,Ys]
 rfl
theorem aaT (t:Tabl):pC.f (t,())=xN t:=by
 obtain⟨cs,ws⟩:=t
 simp only[PX,pC,ja]
 cases ws with
 |nil=>rfl
 |cons w r=>
  rw[adt (show¬((w::r).length:Int)=0 by rw[List.length_cons];omega),cond_false]
  simp[xN]
theorem aaF (s:Stac)(a:Acti)(hs:fA s.door)(hl:s.door.halves.length≤4294967296)(hr:a.text.length≤4294967296):wT.f (s,a,())=iV s a:=by
 simp only[PX,wT,rh,RE s a.text hs hl,aaT,QC,Mv,NC,wW,DU]
 unfold iV
 by_cases h:be.f (s,())=true∧ld.f (a,())=true
 case neg=>rw[decide_eq_false h,if_neg h,Bool.not_false,cond_true];rfl
 have hD:=(iH s.door).1 ((bV s).1 h.1).2
 have t:=hD.tab
 have a2:=t.lim.w2
 have a3:=t.lim.c2
 have a4:=t.nc
 have a5:=t.nw
 have hta:=hD.tab.take
 have e1:tU.f ((xN s.door.table).1,())=mt (xN s.door.table).1:=CK _ (by have:=hta.nc;omega) (by have:=hta.nw;omega)
 rw[decide_eq_true h,if_pos h,Bool.not_true,cond_false,M7 s h.1,e1]
 congr 1
 congr 1
 congr 1
 congr 1
 unfold MU
 by_cases hf:0≤ar.f (s.door.table,a.tuple,())
 case neg=>rw[show decide (ar.f (s.door.table,a.tuple,())<0)=true by rw[decide_eq_true_eq];omega,if_neg (λhh=>hf hh.1)];rfl
 obtain⟨k,ek,hk,ht,hc,hp⟩:=SS s.door hD hs a.tuple hf
 rw[show decide (ar.f (s.door.table,a.tuple,())<0)=false by rw[decide_eq_false_iff_not];omega]
 rcases Bool.eq_false_or_eq_true (s.door.table.waiting.any (jf a.tuple))with hw|hw
 ·rw[hw,cond_false,cond_true,if_neg (by simp)];rfl
 rw[hw,cond_false,cond_false,if_pos ⟨hf,rfl⟩,ek,Int.toNat_natCast,getD_some (List.getElem?_eq_getElem hk)]
 have ho:=Y6 s.door.table.conns[k] a hc hp
 have e:=rx s.door.table (uf s.door.table.conns[k] a).1 hD.tab.dc k hk ho.tu
 have e2:tU.f (dd.f (s.door.table,(uf s.door.table.conns[k] a).1,()),())=mt (dd.f (s.door.table,(uf s.door.table.conns[k] a).1,())):=CK _ (by rw[e,List.length_set];omega) (by rw[e];show s.door.table.waiting.length≤_;omega)
 rw[e2]
theorem jE (r:Resu):jl.f (r,r,())=true:=by
 simp only[PX,jl,j6,bne_self_eq_false,beq_self_eq_true,cond_false,cond_true,Bool.and_self]
 rw[lf _ _ λj=>by simp only[PX,tM,beq_self_eq_true,Bool.not_true,cond_false]]
 rfl
theorem NV (m:List aa):nk.f (m,m,())=true:=by
 simp only[PX,nk,hU,beq_self_eq_true,bne_self_eq_false,cond_false]
 rw[lf _ _ λj=>by simp only[PX,qJ,beq_self_eq_true,Bool.and_self,Bool.not_true,cond_false]]
 rfl
theorem uR (r:Resu):rg.f (r,r,())=true:=by
 simp only[PX,rg,NV,beq_self_eq_true,Bool.and_self,cond_true]
theorem uz {s:Stac}(h:ax s):fA s.door∧s.door.halves.length≤4294967296:=by
 refine⟨aaJ h.2, ?_⟩
 have:=h.2
 grind
theorem Sq {a:Acti}(h:bq a):a.text.length≤4294967296:=h.1
theorem xb (s:Stac)(a:Acti)(hs:ax s)(ha:bq a):wT.f (s,a,())=iV s a∧z8.f (s,a,())=iV s a∧ax (iV s a).1∧eb (iV s a).2∧jL.f (s,())=be.f (s,())∧(be.f (s,())=true→be.f ((iV s a).1,())=true):=by
 obtain⟨h1,h2⟩:=uz hs
 have h3:=Sq ha
 have e:=aaF s a h1 h2 h3
 have h:=wT.c.h (s,a,()) ⟨hs,ha⟩
 simp only[PX]at h
 rw[e]at h
 exact⟨e,abv s a h1 h2 h3,h.1,h.2,rM s h1,adF s a h1 h3⟩
theorem acq (s:Stac)(a:Acti)(h:¬(be.f (s,())=true∧ld.f (a,())=true)):iV s a=(s,zR false):=by unfold iV;rw[if_neg h]
theorem Xa (a b:Bool):(bif !a then(true,())else(!b,())).1= !decide (a=true∧b=true):=QC a b
theorem OV (s:Stac)(h:be.f (s,())=true)(hs:fA s.door):pm.f (s.door,())≤iJ.f (s.door.limits,()):=by
 have hD:=(iH s.door).1 ((bV s).1 h).2
 exact VJ s.door hD hs
set_option maxHeartbeats 2000000 in theorem acL (x:List Int):u4.f (x,())=true:=by
 rcases Bool.eq_false_or_eq_true (yp.f (x,()))with hb|hb
 ·simp only[FX.f,PX,u4,hb,cond_true]
 have hx:=SW x hb
 have hd:=mn.c.h (x,()) ⟨by simp only[sS];omega,hx⟩
 simp only[PX]at hd
 obtain⟨⟨s,a⟩,hz⟩:∃z,mn.f (x,())=z:=⟨_,rfl⟩
 rw[hz]at hd
 obtain⟨h1,h2,h3,h4,h5,h6⟩:=xb s a hd.1 hd.2
 have hbad:=acq s a
 obtain⟨y,hy⟩:∃y,iV s a=y:=⟨_,rfl⟩
 rw[hy]at h1 h2 h3 h4 h6 hbad
 obtain⟨y1,y2⟩:=y
 have hys:=(uz h3).1
 by_cases h:be.f (s,())=true∧ld.f (a,())=true
 ·have hk:=h6 h.1
  have hD:=(iH y1.door).1 ((bV y1).1 hk).2
  have hL:=((kP y1.link).1 ((bV y1).1 hk).1).2.2.2
  have hr:=OV y1 hk hys
  have t1:=hD.nh
  have t2:=hD.tab.nc
  have t3:=hD.tab.nw
  have t4:(y1.link.cache.length:Int)≤4:=by have:=hL.len;omega
  simp only[FX.f,PX,u4,hb,cond_false,hz,h1,h2,iu,jE,uR,Jd,beq_self_eq_true,Bool.not_true,h5,h.1,h.2,hk,cond_true]
  simp[t1,t2,t3,t4,hr]
 ·have e:=hbad h
  obtain⟨rfl,rfl⟩:=Prod.mk.inj e
  simp only[FX.f,PX,u4,hb,cond_false,hz,h1,h2,iu,jE,uR,Jd,beq_self_eq_true,Bool.not_true,h5,Xa,decide_eq_false h,Bool.not_false,cond_true]
  exact jE _
theorem abo (a:Acti)(xs:List Tupl){f:Int→Bool→Stp Bool Empty}(hf:∀(j:Nat) x b,xs[j]? =some x→f (j:Int) b=bif b then .next (!(jf a.tuple x))else .next false)(b:Bool):aP f 1 (Int.toNat ((xs.length:Int)-0)) 0 b= .next (b&& !xs.any (jf a.tuple)):=by
 rw[ci xs b (aL _) (F:=λ_ x b=>bif b then .next (!(jf a.tuple x))else .next false) hf]
 have:∀(r:List Tupl) (j:Nat) (b:Bool),dF (W:=Empty) (λ_ x b=>bif b then .next (!(jf a.tuple x))else .next false) j r b= .next (b&& !r.any (jf a.tuple)):=by
  intro r
  induction r with
  |nil=>intro j b;simp[dF]
  |cons y r ih=>
   intro j b
   cases b with
   |false=>simp only[dF,cond_false,Stp.elim,ih,Bool.false_and]
   |true=>simp only[dF,cond_true,Stp.elim,ih,List.any_cons,Bool.not_or,Bool.true_and]
 exact this xs 0 b
set_option maxHeartbeats 2000000 in theorem Z9 (x:List Int):ve.f (x,())=true:=by
 rcases Bool.eq_false_or_eq_true (yp.f (x,()))with hb|hb
 ·simp only[FX.f,PX,ve,hb,cond_true]
 have hx:=SW x hb
 have hd:=mn.c.h (x,()) ⟨by simp only[sS];omega,hx⟩
 simp only[PX]at hd
 obtain⟨⟨s,a⟩,hz⟩:∃z,mn.f (x,())=z:=⟨_,rfl⟩
 rw[hz]at hd
 obtain⟨h1,h2,h3,h4,h5,h6⟩:=xb s a hd.1 hd.2
 have hcall:be.f (s,())=true∧ld.f (a,())=true→5≤a.kind→iV s a=MU s a:=by
  intro h hk
  unfold iV
  rw[if_pos h,if_neg (by omega),if_neg (by omega),if_neg (by omega),if_neg (by omega)]
 obtain⟨y,hy⟩:∃y,iV s a=y:=⟨_,rfl⟩
 rw[hy]at h1 h2 h3 h4 h6 hcall
 simp only[FX.f,PX,ve,hb,cond_false,hz,h1,h2,iu,jE,Jd,Bool.not_true,h5]
 rcases Bool.eq_false_or_eq_true (be.f (s,()))with hk|hk
 case inr=>rw[hk];rfl
 rcases Bool.eq_false_or_eq_true (ld.f (a,()))with ha|ha
 case inr=>rw[hk,ha];rfl
 rw[hk,ha]
 simp only[Bool.not_true,cond_false]
 by_cases h5k:a.kind<5
 ·rw[decide_eq_true h5k,cond_true]
 rw[decide_eq_false h5k,cond_false]
 have e:=hcall ⟨hk,ha⟩ (by omega)
 simp only[gM,fR]
 rw[abo a s.door.table.waiting (λj x b hxx=>by
  simp only[PX,zY,ah,getD_some hxx]
  cases b<;>rfl)]
 simp only[Stp.elim]
 unfold MU at e
 by_cases hm:0≤ar.f (s.door.table,a.tuple,())∧s.door.table.waiting.any (jf a.tuple)=false
 ·rw[if_pos hm]at e
  have e2:y.2.ok=true:=by rw[e]
  rw[e2,hm.2,decide_eq_true hm.1]
  rfl
 ·rw[if_neg hm]at e
  subst e
  have e3:(decide (0≤ar.f (s.door.table,a.tuple,()))&& !s.door.table.waiting.any (jf a.tuple))=false:=by
   rw[Bool.and_eq_false_iff]
   by_cases h0:0≤ar.f (s.door.table,a.tuple,())
   ·right
    cases hw:s.door.table.waiting.any (jf a.tuple)with
    |true=>rfl
    |false=>exact absurd ⟨h0,hw⟩ hm
   ·left;exact decide_eq_false h0
  rw[e3]
  simp only[iu,cond_true,cond_false]
  rfl
theorem Vc {A W:Type}{f:Int→A→Stp A W}(m:Nat):∀(k:Nat) (i:Nat) (a:A),aP f 1 (k+m) (i:Int) a=Stp.elim (λa'=>aP f 1 m ((i+k:Nat):Int) a') .out (aP f 1 k (i:Int) a)
 |0,i,a=>by rw[Nat.zero_add];rfl
 |k+1,i,a=>by
  rw[show k+1+m=(k+m)+1 by omega]
  simp only[aP]
  cases f (i:Int) a with
  |out w=>rfl
  |next a'=>
   simp only[Stp.elim]
   have:=Vc (W:=W) (f:=f) m k (i+1) a'
   rw[show((i+1:Nat):Int)=(i:Int)+1 by omega]at this
   rw[this,show i+1+k=i+(k+1) by omega]
   cases aP f 1 k ((i:Int)+1) a'<;>rfl
def jD:Stac→List Acti→Stac×List Resu
 |s,[]=>(s,[])
 |s,a::r=>((jD (iV s a).1 r).1,(iV s a).2::(jD (iV s a).1 r).2)
theorem LK:∀(xs:List Acti) (s:Stac),ax s→(∀a∈xs,bq a)→ax (jD s xs).1∧(jD s xs).2.length=xs.length∧(be.f (s,())=true→be.f ((jD s xs).1,())=true)
 |[],s,hs,_=>⟨hs,rfl,λh=>h⟩
 |a::r,s,hs,h=>by
  obtain⟨_,_,h3,_,_,h6⟩:=xb s a hs (h a (by simp))
  obtain⟨h7,h8,h9⟩:=LK r (iV s a).1 h3 λb hb=>h b (by simp[hb])
  exact⟨h7,by simp[jD,h8],λh=>h9 (h6 h)⟩
theorem Fq {A W:Type}(g:A→Stac×List Resu)(xs:List Acti)(hx:∀a∈xs,bq a){f:Int→A→Stp A W}(n:Nat)
  (hf:∀(j:Nat) x a,j<n→xs[j]? =some x→ax (g a).1→∃a',f (j:Int) a= .next a'∧g a'=((iV (g a).1 x).1,(g a).2++[(iV (g a).1 x).2])):
  ∀(r:List Acti) (j:Nat) (a:A),(∀i,i<r.length→r[i]? =xs[j+i]?)→j+r.length≤n→ax (g a).1→∃a',aP f 1 r.length (j:Int) a= .next a'∧g a'=((jD (g a).1 r).1,(g a).2++(jD (g a).1 r).2)
 |[],j,a,_,_,_=>⟨a,rfl,by simp[jD]⟩
 |y::r,j,a,h,hn,hs=>by
  have h0:xs[j]? =some y:=by have:=h 0 (by simp);simpa using this.symm
  simp only[List.length_cons]at hn
  obtain⟨a1,e1,e2⟩:=hf j y a (by omega) h0 hs
  obtain⟨_,_,h3,_⟩:=xb (g a).1 y hs (hx y (List.mem_of_getElem? h0))
  obtain⟨a2,e3,e4⟩:=Fq g xs hx n hf r (j+1) a1 (λi hi=>by
   have:=h (i+1) (by simp;omega)
   rw[List.getElem?_cons_succ]at this
   rw[this];congr 1;omega) (by omega) (by rw[e2];exact h3)
  refine⟨a2, ?_, ?_⟩
  ·simp only[List.length_cons,aP,e1,Stp.elim]
   rw[show(j:Int)+1=((j+1:Nat):Int) by omega]
   exact e3
  ·rw[e4,e2]
   simp[jD]
theorem RR (xs:List Acti):tW.f (xs,())=xs.take 60:=by
 simp only[PX,tW,List.drop_zero]
 split
 ·rfl
 ·rw[List.take_of_length_le (by omega),List.take_of_length_le (by omega)]
theorem Xq (s:Stac)(xs:List Acti)(hs:ax s)(hx:∀a∈xs,bq a):Jg.f (s,xs,())=jD s (xs.take 60):=by
 simp only[PX,Jg,rh,RR,og,aL]
 obtain⟨a',e1,e2⟩:=Fq (W:=Empty) (λa:Stac×Stac×List Resu=>a.2) (xs.take 60) (λa ha=>hx a (List.mem_of_mem_take ha)) (f:=λj a=>(xq (xs.take 60) j a).nice) (xs.take 60).length (λj x a hj hxj hsa=>by
  obtain⟨h1,_⟩:=xb a.2.1 x hsa (hx x (List.mem_of_mem_take (List.mem_of_getElem? hxj)))
  simp only[PX,xq,ah,getD_some hxj,h1]
  exact⟨_,rfl,rfl⟩) (xs.take 60) 0 ((⟨⟨0,0,[]⟩,⟨0,0,⟨0,⟨false,0,0,[]⟩,⟨false,0,0,[]⟩,false⟩,⟨0,0,0,0⟩,[],⟨[],[]⟩,0⟩⟩:Stac),s,[]) (λi _=>by rw[Nat.zero_add]) (by omega) hs
 refine(congrArg (Stp.elim _ _) e1).trans ?_
 simp only[Stp.elim]
 obtain⟨z,u,v⟩:=a'
 simp only[List.nil_append]at e2
 exact e2
theorem Yo (s:Stac)(xs:List Acti)(hs:ax s)(hx:∀a∈xs,bq a):Jh.f (s,xs,())=jD s (xs.take 60):=by
 simp only[PX,Jh,u6,nU,aL]
 obtain⟨a',e1,e2⟩:=Fq (W:=Stac×Stac×List Resu) (λa:Stac×Stac×List Resu=>(a.1,a.2.2)) xs hx (f:=λj a=>(k8 xs j a).nice) 60 (λj x a hj hxj hsa=>by
  obtain⟨_,h1,_⟩:=xb a.1 x hsa (hx x (List.mem_of_getElem? hxj))
  simp only[PX,k8,ah,getD_some hxj,h1,decide_eq_true (show(j:Int)<60 by omega),cond_true]
  exact⟨_,rfl,rfl⟩) (xs.take 60) 0 (s,(⟨⟨0,0,[]⟩,⟨0,0,⟨0,⟨false,0,0,[]⟩,⟨false,0,0,[]⟩,false⟩,⟨0,0,0,0⟩,[],⟨[],[]⟩,0⟩⟩:Stac),[]) (λi hi=>by
   rw[Nat.zero_add,List.getElem?_take_of_lt (by rw[List.length_take]at hi;omega)]) (by rw[List.length_take];omega) hs
 obtain⟨u,z,v⟩:=a'
 simp only[List.nil_append]at e2
 have e3:jD s (xs.take 60)=(u,v):=e2.symm
 rw[e3]
 rcases Nat.lt_or_ge 60 xs.length with hgt|hle
 case inr=>
  rw[List.take_of_length_le hle]at e1
  rw[show((0:Nat):Int)=0 from rfl]at e1
  rw[e1]
  rfl
 ·have hk:xs.length=60+(xs.length-61+1):=by omega
  rw[List.length_take,Nat.min_eq_left (by omega)]at e1
  have h2:=Vc (f:=λj a=>(k8 xs j a).nice) (xs.length-61+1) 60 0 (s,(⟨⟨0,0,[]⟩,⟨0,0,⟨0,⟨false,0,0,[]⟩,⟨false,0,0,[]⟩,false⟩,⟨0,0,0,0⟩,[],⟨[],[]⟩,0⟩⟩:Stac),[])
  rw[e1,←hk]at h2
  obtain⟨z',hz⟩:∃z',(k8 xs ((0+60:Nat):Int) (u,z,v)).nice= .out (u,z',v):=by
   simp only[PX,k8,show decide (((0+60:Nat):Int)<60)=false from rfl,cond_false]
   exact⟨_,rfl⟩
  simp only[Stp.elim,aP]at h2
  rw[hz]at h2
  rw[show((0:Nat):Int)=0 from rfl]at h2
  rw[h2]
  rfl
theorem Ui:∀(xs:List Acti) (s:Stac) (j:Nat) (x:Acti),xs[j]? =some x→(jD s xs).2[j]? =some (iV (jD s (xs.take j)).1 x).2∧(jD s (xs.take (j+1))).1=(iV (jD s (xs.take j)).1 x).1
 |[],_,_,_,h=>by simp at h
 |y::r,s,0,x,h=>by
  simp at h;subst h
  simp[jD]
 |y::r,s,j+1,x,h=>by
  have h2:=Ui r (iV s y).1 j x (by simpa using h)
  simp only[List.take_succ_cons,jD,List.getElem?_cons_succ]
  exact h2
theorem L0 (s:Stac)(xs:List Acti)(hs:ax s)(hx:∀a∈xs,bq a){W:Type}{f:Int→Stac→Stp Stac W}(n:Nat)(hn:n≤xs.length)
  (hf:∀(j:Nat) x,j<n→xs[j]? =some x→f (j:Int) (jD s (xs.take j)).1= .next (jD s (xs.take (j+1))).1):∀(k j:Nat),j+k=n→aP f 1 k (j:Int) (jD s (xs.take j)).1= .next (jD s (xs.take n)).1
 |0,j,h=>by rw[show j=n by omega];rfl
 |k+1,j,h=>by
  have hj:j<xs.length:=by omega
  simp only[aP,hf j xs[j] (by omega) (List.getElem?_eq_getElem hj),Stp.elim]
  rw[show(j:Int)+1=((j+1:Nat):Int) by omega]
  exact L0 s xs hs hx n hn hf k (j+1) (by omega)
theorem Tf (x:List Int)(hx:x.length≤1048576):ax (mV.f (x,())).1∧∀a∈(mV.f (x,())).2,bq a:=by
 have hd:=mV.c.h (x,()) ⟨by simp only[sS];omega,hx⟩
 simp only[PX]at hd
 exact⟨hd.1,λa ha=>hd.2.2 a ha⟩
set_option maxHeartbeats 2000000 in theorem aaN (x:List Int):vL.f (x,())=true:=by
 rcases Bool.eq_false_or_eq_true (yp.f (x,()))with hb|hb
 ·simp only[FX.f,PX,vL,hb,cond_true]
 have hx:=SW x hb
 obtain⟨hs,ha⟩:=Tf x hx
 obtain⟨⟨s,xs⟩,hz⟩:∃z,mV.f (x,())=z:=⟨_,rfl⟩
 rw[hz]at hs ha
 have h1:=Xq s xs hs ha
 have h2:=Yo s xs hs ha
 have ha2:∀a∈xs.take 60,bq a:=λa h=>ha a (List.mem_of_mem_take h)
 obtain⟨h3,h4,h5⟩:=LK (xs.take 60) s hs ha2
 have hq:=rM s (uz hs).1
 have hloop:=L0 s (xs.take 60) hs ha2 (f:=λj a=>(sw xs (jD s (xs.take 60)).2 j a).nice) (xs.take 60).length (by omega) (λj y hj hy=>by
  have hy2:xs[j]? =some y:=by rw[←hy,List.getElem?_take_of_lt (by rw[List.length_take]at hj;omega)]
  obtain⟨e1,e2⟩:=Ui (xs.take 60) s j y hy
  have h6:=(LK ((xs.take 60).take j) s hs λa h=>ha2 a (List.mem_of_mem_take h)).1
  obtain⟨e3,_⟩:=xb _ y h6 (ha2 y (List.mem_of_getElem? hy))
  simp only[PX,sw,ah,getD_some hy2,e3,getD_some e1,jE,Bool.not_true,cond_false,e2]) (xs.take 60).length 0 (by omega)
 rw[List.take_zero,List.take_of_length_le (Nat.le_refl _)]at hloop
 have h0:(jD s []).1=s:=rfl
 rw[h0,←h4]at hloop
 simp only[FX.f,PX,vL,hb,cond_false,hz,h1,h2,iu,bne_self_eq_false,Bool.not_true,fU,aL]
 refine(congrArg (Stp.elim _ _) hloop).trans ?_
 simp only[Stp.elim,iu,cond_true,hq]
 rcases Bool.eq_false_or_eq_true (be.f (s,()))with h|h
 ·rw[h,h5 h];rfl
 ·rw[h];rfl

end
end Go.Proofs.YteiiknfadjnmgaaGreat
