/-
  Contracts of functions and plain laws (printed by a program): each theorem says what a function of the program returns; conditions are its hypotheses.
-/
import Derived.Test.YtfpdenjmlnhnnaaGreatEJ3
set_option linter.all false
set_option maxRecDepth 4000
namespace Go.Proofs.YtfpdenjmlnhnnaaGreat
open Go Go.RowKit
noncomputable section
theorem ac1 (a:Int)(h0:0≤a)(h1:a≤255):(bits .and .u8 a 191 != 0)= !(a==0||a==64):=by
 obtain⟨x,rfl⟩:=Int.eq_ofNat_of_zero_le h0
 have key:∀y:Fin 256,(bits .and .u8 ((y.val:Nat):Int) 191 != 0)= !(((y.val:Nat):Int)==0||((y.val:Nat):Int)==64):=by decide+kernel
 exact key ⟨x,by omega⟩
theorem aew (n:Int)(h0:0≤n)(h1:n≤65535):(bits .andNot .i64 n 16384 != 0)= !(n==0||n==16384):=by
 obtain⟨x,rfl⟩:=Int.eq_ofNat_of_zero_le h0
 by_cases c:x=0∨x=16384
 ·rcases c with rfl|rfl<;>decide+kernel
 ·have hx:((x:Int)==0||(x:Int)==16384)=false:=by simp;omega
  rw[hx,Bool.not_false,bne_iff_ne]
  intro he
  have h2:IntKind.i64.wrap (((BitVec.ofInt 64 (x:Int))&&& ~~~(BitVec.ofInt 64 16384)).toNat:Nat)=0:=he
  have e0:BitVec.ofInt 64 (x:Int)=BitVec.ofNat 64 x:=by
   apply BitVec.eq_of_toNat_eq;rw[BitVec.toNat_ofInt,BitVec.toNat_ofNat];omega
  rw[e0]at h2
  have h3:(BitVec.ofNat 64 x)&&& ~~~(BitVec.ofInt 64 16384)=0#64:=by
   apply BitVec.eq_of_toNat_eq
   have:=((BitVec.ofNat 64 x)&&& ~~~(BitVec.ofInt 64 16384)).isLt
   rw[dj]at h2
   simp only[BitVec.toNat_ofNat]
   omega
  have h4:(BitVec.ofNat 64 x)=(BitVec.ofNat 64 x)&&& 16384#64:=by
   ext i hi
   have:=congrArg (λb=>b.getLsbD i) h3
   simp only[BitVec.getLsbD_and,BitVec.getLsbD_not,hi,decide_true,Bool.true_and,BitVec.getLsbD_zero]at this
   rw[BitVec.getElem_and]
   have e:(BitVec.ofInt 64 16384).getLsbD i=(16384#64).getLsbD i:=rfl
   rw[e]at this
   rw[←BitVec.getLsbD_eq_getElem,←BitVec.getLsbD_eq_getElem]
   revert this
   cases(BitVec.ofNat 64 x).getLsbD i<;>cases(16384#64).getLsbD i<;>simp
  have h5:=congrArg BitVec.toNat h4
  rw[BitVec.toNat_and,BitVec.toNat_ofNat,BitVec.toNat_ofNat,Nat.mod_eq_of_lt (by omega),show 16384%2 ^ 64=2 ^ 14 from rfl]at h5
  have h6:x≤2 ^ 14:=by rw[h5];exact Nat.and_le_right
  have h7:x<2 ^ 14:=by omega
  have h8:x&&& 2 ^ 14=0:=by
   apply Nat.eq_of_testBit_eq
   intro i
   rw[Nat.testBit_and,Nat.testBit_two_pow,Nat.zero_testBit]
   by_cases hi:14=i
   ·subst hi;rw[Nat.testBit_lt_two_pow h7];rfl
   ·simp[hi]
  omega
theorem bv2 (a b:UInt8):Aq [a,b]=(a.toNat:Int)*256+b.toNat:=by simp[Aq]
theorem gw2 (s:ae)(p:Nat)(h:p+2≤s.length):gw s p 2=ah s p*256+ah s (p+1):=by
 rw[i2 s p (by omega),i2 s (p+1) (by omega),gw,List.drop_eq_getElem_cons (by omega),List.drop_eq_getElem_cons (i:=p+1) (by omega)]
 simp only[List.take_succ_cons,List.take_zero,bv2]
def dJ (s:ae):Fram×Bool:=if s.length<14 then(⟨0,0,0,[]⟩,false)else bif f7.f (⟨gw s 0 6,gw s 6 6,gw s 12 2,s.drop 14⟩,())then(⟨gw s 0 6,gw s 6 6,gw s 12 2,s.drop 14⟩,true)else(⟨0,0,0,[]⟩,false)
theorem QO {α:Type}(s:List α):s.take ((s.length:Int).toNat)=s:=by rw[ac,List.take_length]
theorem rc (s:ae)(hs:s.length≤4294967296):mg.f (s,())=dJ s:=by
 unfold dJ
 by_cases h:s.length<14
 ·rw[if_pos h]
  simp only[PX,mg,decide_eq_true (show(s.length:Int)<14 by omega),cond_true]
 ·rw[if_neg h]
  have w1:=cq s 0 6 (by omega) (by omega) (by omega) hs
  have w2:=cq s 6 6 (by omega) (by omega) (by omega) hs
  have w3:=cq s 12 2 (by omega) (by omega) (by omega) hs
  simp only[Int.ofNat_zero,Int.cast_ofNat_Int]at w1 w2 w3
  simp only[PX,mg,decide_eq_false (show¬(s.length:Int)<14 by omega),cond_false,w1,w2,w3,QO]
  cases f7.f (⟨gw s 0 6,gw s 6 6,gw s 12 2,s.drop 14⟩,())<;>rfl
theorem SP (f:Fram):f7.f (f,())=true↔af.f (f.dst,48,())=true∧af.f (f.src,48,())=true∧1536≤f.type∧f.type≤65535∧f.body.length≤1586:=by
 simp only[PX,f7,aq]
 cases af.f (f.dst,48,())<;>cases af.f (f.src,48,())<;>simp<;>omega
theorem Jx (f:Fram)(h:f7.f (f,())=true):gj.f (f,())=Ap 6 f.dst++Ap 6 f.src++Ap 2 f.type++f.body:=by
 obtain⟨h1,h2,h3,h4,h5⟩:=(SP f).1 h
 have p1:=gf f.dst 6 (by omega) (by omega) h1
 have p2:=gf f.src 6 (by omega) (by omega) h2
 have p3:=gf f.type 2 (by omega) (by omega) (by rw[show(8:Int)*2=16 from rfl,cY];simp;omega)
 simp only[PX,gj,h,p1,p2,p3,Bool.not_true,cond_false]
 rfl
theorem aex (s:ae)(h:14≤s.length):(s.drop 0).take 6++(s.drop 6).take 6++(s.drop 12).take 2++s.drop 14=s:=by
 rw[List.drop_zero,List.append_assoc,List.append_assoc,show s.drop 14=(s.drop 12).drop 2 by rw[List.drop_drop],List.take_append_drop,show s.drop 12=(s.drop 6).drop 6 by rw[List.drop_drop],List.take_append_drop,List.take_append_drop]
theorem xp (s:ae)(hs:s.length≤4294967296):lU.f (s,())=dJ s:=by
 unfold dJ
 by_cases h:s.length<14
 ·rw[if_pos h]
  simp only[PX,lU,decide_eq_true (show(s.length:Int)<14 by omega),cond_true]
 ·rw[if_neg h]
  have w1:=bx s 0 6 (by omega) (by omega) (by omega) hs
  have w2:=bx s 6 6 (by omega) (by omega) (by omega) hs
  have w3:=bx s 12 2 (by omega) (by omega) (by omega) hs
  simp only[Int.ofNat_zero,Int.cast_ofNat_Int]at w1 w2 w3
  simp only[PX,lU,decide_eq_false (show¬(s.length:Int)<14 by omega),cond_false,w1,w2,w3,QO,xB]
  rcases Bool.eq_false_or_eq_true (f7.f (⟨gw s 0 6,gw s 6 6,gw s 12 2,s.drop 14⟩,()))with ho|ho
  ·rw[Jx _ ho,ho]
   simp only[]
   rw[sA (by omega),sA (by omega),sA (by omega),aex s (by omega),beq_self_eq_true,Bool.not_true,cond_false,cond_true]
  ·have e:gj.f (⟨gw s 0 6,gw s 6 6,gw s 12 2,s.drop 14⟩,())=[]:=by simp only[PX,gj,ho,Bool.not_false,cond_true]
   have e2:(([]:ae)==s)=false:=by
    cases s with
    |nil=>simp at h
    |cons a r=>rfl
   rw[e,ho,e2,Bool.not_false,cond_true,cond_false]
def zP:Pack:=⟨0,0,0,0,0,[]⟩
def kS (s:ae):Pack×Int:=
 bif decide (s.length<20)then(zP,1)else bif ah s 0 != 69 then(zP,2)else bif !lF.f (s.take 20,())then(zP,3)else
 bif (decide (gw s 2 2<20)||(decide ((s.length:Int)<gw s 2 2)||decide (1500<gw s 2 2)))then(zP,4)else bif !(gw s 6 2==0||gw s 6 2==16384)then(zP,5)else bif ah s 8==0 then(zP,6)else
 (⟨gw s 12 4,gw s 16 4,ah s 8,ah s 9,gw s 4 2,(s.take (gw s 2 2).toNat).drop 20⟩,0)
theorem FQ (s:ae)(k:Nat):IntKind.wrap .i64 (ah s k)=ah s k:=by
 have:=gv s k
 exact aj (by omega) (by omega)
theorem pI (s:ae)(hs:s.length≤4294967296):kj.f (s,())=kS s:=by
 unfold kS
 by_cases h:s.length<20
 ·rw[decide_eq_true h,cond_true]
  simp only[PX,kj,decide_eq_true (show(s.length:Int)<20 by omega),cond_true,zP]
 ·rw[decide_eq_false h,cond_false]
  have w1:=cq s 2 2 (by omega) (by omega) (by omega) hs
  have w2:=cq s 6 2 (by omega) (by omega) (by omega) hs
  have w3:=cq s 12 4 (by omega) (by omega) (by omega) hs
  have w4:=cq s 16 4 (by omega) (by omega) (by omega) hs
  have w5:=cq s 4 2 (by omega) (by omega) (by omega) hs
  simp only[Int.cast_ofNat_Int]at w1 w2 w3 w4 w5
  have r6:=aaL (s:=s) (p:=6) (n:=2) (by omega)
  have a6:=aew (gw s 6 2) r6.1 (by have:=r6.2;omega)
  simp only[PX,kj,decide_eq_false (show¬(s.length:Int)<20 by omega),cond_false,w1,w2,w3,w4,w5,FQ,a6,List.drop_zero,zP]
  cases decide (gw s 2 2<20)<;>cases decide ((s.length:Int)<gw s 2 2)<;>simp only[cond_true,cond_false,Bool.true_or,Bool.false_or]
theorem xe (s:ae)(hs:s.length≤4294967296):kG.f (s,())=kS s:=by
 unfold kS
 by_cases h:s.length<20
 ·rw[decide_eq_true h,cond_true]
  simp only[PX,kG,decide_eq_true (show(s.length:Int)<20 by omega),cond_true,zP]
 ·rw[decide_eq_false h,cond_false]
  have w1:=bx s 2 2 (by omega) (by omega) (by omega) hs
  have w3:=bx s 12 4 (by omega) (by omega) (by omega) hs
  have w4:=bx s 16 4 (by omega) (by omega) (by omega) hs
  have w5:=bx s 4 2 (by omega) (by omega) (by omega) hs
  simp only[Int.cast_ofNat_Int]at w1 w3 w4 w5
  have b6:=gv s 6
  have b7:=gv s 7
  have e6:=gw2 s 6 (by omega)
  have a6:=ac1 (ah s 6) b6.1 b6.2
  have e1:(!(decide (20≤gw s 2 2)&&decide (gw s 2 2≤if(s.length:Int)<1500 then(s.length:Int)else 1500)))=(decide (gw s 2 2<20)||(decide ((s.length:Int)<gw s 2 2)||decide (1500<gw s 2 2))):=by
   rw[Bool.eq_iff_iff];simp;split<;>omega
  have e2:(bif !(ah s 6==0||ah s 6==64)then true else ah s 7 != 0)= !(gw s 6 2==0||gw s 6 2==16384):=by
   rw[e6,Bool.eq_iff_iff]
   cases h6:(ah s 6==0||ah s 6==64)<;>simp at h6⊢<;>omega
  have hq:=Jv (s.take 20) (by rw[List.length_take];omega)
  simp only[PX,kG,decide_eq_false (show¬(s.length:Int)<20 by omega),cond_false,w1,w3,w4,w5,FQ,a6,jE,bA,e1,hq,List.drop_zero,zP]
  rw[←e2]
  cases(!(ah s 6==0||ah s 6==64))<;>rfl
def zA:Arpm:=⟨0,0,0,0,0⟩
def gwA (s:ae):Arpm:=⟨gw s 6 2,gw s 8 6,gw s 14 4,gw s 18 6,gw s 24 4⟩
def Mo (s:ae):Arpm×Bool:=
 bif decide (s.length<28)then(zA,false)else bif !(s.take 6==[0,1,8,0,6,4])then(zA,false)else bif !nf.f (gwA s,())then(zA,false)else(gwA s,true)
theorem Cp (s:ae)(hs:s.length≤4294967296):un.f (s,())=Mo s:=by
 unfold Mo
 by_cases h:s.length<28
 ·rw[decide_eq_true h,cond_true]
  simp only[PX,un,decide_eq_true (show(s.length:Int)<28 by omega),cond_true,zA]
 ·rw[decide_eq_false h,cond_false]
  have w1:=cq s 6 2 (by omega) (by omega) (by omega) hs
  have w2:=cq s 8 6 (by omega) (by omega) (by omega) hs
  have w3:=cq s 14 4 (by omega) (by omega) (by omega) hs
  have w4:=cq s 18 6 (by omega) (by omega) (by omega) hs
  have w5:=cq s 24 4 (by omega) (by omega) (by omega) hs
  simp only[Int.cast_ofNat_Int]at w1 w2 w3 w4 w5
  simp only[PX,un,decide_eq_false (show¬(s.length:Int)<28 by omega),cond_false,w1,w2,w3,w4,w5,List.drop_zero,zA,gwA]
theorem Wp (a:Arpm):Dq.f (a,())=nf.f (a,()):=by
 simp only[PX,Dq,nf,de,bA,aq]
theorem MI (a:Arpm):uj.f (a,())=kA.f (a,()):=by
 simp only[PX,uj,kA,Wp,nX]
theorem Ue (a:Arpm)(m ip:Int):vn.f (a,m,ip,())=n3.f (a,m,ip,()):=by
 simp only[PX,vn,n3,Wp]
theorem XH (a:Arpm):nf.f (a,())=true↔(1≤a.kind∧a.kind≤2)∧af.f (a.srcHw,48,())=true∧af.f (a.dstHw,48,())=true∧af.f (a.srcIp,32,())=true∧af.f (a.dstIp,32,())=true:=by
 simp only[PX,nf,aq]
 cases af.f (a.srcHw,48,())<;>cases af.f (a.dstHw,48,())<;>cases af.f (a.srcIp,32,())<;>cases af.f (a.dstIp,32,())<;>simp
theorem M9 (a:Arpm)(h:nf.f (a,())=true):kA.f (a,())=[0,1,8,0,6,4]++Ap 2 a.kind++Ap 6 a.srcHw++Ap 4 a.srcIp++Ap 6 a.dstHw++Ap 4 a.dstIp:=by
 obtain⟨h1,h2,h3,h4,h5⟩:=(XH a).1 h
 have p1:=gf a.kind 2 (by omega) (by omega) (by rw[show(8:Int)*2=16 from rfl,cY];simp;omega)
 have p2:=gf a.srcHw 6 (by omega) (by omega) h2
 have p3:=gf a.srcIp 4 (by omega) (by omega) h4
 have p4:=gf a.dstHw 6 (by omega) (by omega) h3
 have p5:=gf a.dstIp 4 (by omega) (by omega) h5
 simp only[PX,kA,h,p1,p2,p3,p4,p5,Bool.not_true,cond_false]
 rfl
theorem aei (s:ae):s.take 6++(s.drop 6).take 2++(s.drop 8).take 6++(s.drop 14).take 4++(s.drop 18).take 6++(s.drop 24).take 4=s.take 28:=by
 rw[show 28=24+4 from rfl,List.take_add,show 24=18+6 from rfl,List.take_add,show 18=14+4 from rfl,List.take_add,show 14=8+6 from rfl,List.take_add,show 8=6+2 from rfl,List.take_add]
theorem OO (s:ae)(hs:s.length≤4294967296):ul.f (s,())=Mo s:=by
 unfold Mo
 by_cases h:s.length<28
 ·rw[decide_eq_true h,cond_true]
  simp only[PX,ul,decide_eq_true (show(s.length:Int)<28 by omega),cond_true,zA]
 ·rw[decide_eq_false h,cond_false]
  have w1:=bx s 6 2 (by omega) (by omega) (by omega) hs
  have w2:=bx s 8 6 (by omega) (by omega) (by omega) hs
  have w3:=bx s 14 4 (by omega) (by omega) (by omega) hs
  have w4:=bx s 18 6 (by omega) (by omega) (by omega) hs
  have w5:=bx s 24 4 (by omega) (by omega) (by omega) hs
  simp only[Int.cast_ofNat_Int]at w1 w2 w3 w4 w5
  have hg:(⟨gw s 6 2,gw s 8 6,gw s 14 4,gw s 18 6,gw s 24 4⟩:Arpm)=gwA s:=rfl
  simp only[PX,ul,decide_eq_false (show¬(s.length:Int)<28 by omega),cond_false,w1,w2,w3,w4,w5,List.drop_zero,zA,hg,MI]
  rcases Bool.eq_false_or_eq_true (nf.f (gwA s,()))with ho|ho
  ·have e:(kA.f (gwA s,())==s.take 28)=(s.take 6==[0,1,8,0,6,4]):=by
    rw[M9 _ ho,←aei s]
    simp only[gwA]
    rw[sA (by omega),sA (by omega),sA (by omega),sA (by omega),sA (by omega),Bool.eq_iff_iff,beq_iff_eq,beq_iff_eq]
    constructor
    ·intro he
     simp only[List.append_assoc]at he
     exact(List.append_inj he (by simp;omega)).1.symm
    ·intro he;rw[he]
   rw[e,ho]
   cases(s.take 6==[0,1,8,0,6,4])<;>rfl
  ·have e:kA.f (gwA s,())=[]:=by simp only[PX,kA,ho,Bool.not_false,cond_true]
   have e2:(([]:ae)==s.take 28)=false:=by
    cases s with
    |nil=>simp at h
    |cons a r=>rfl
   rw[e,ho,e2,Bool.not_false,cond_true]
   cases(s.take 6==[0,1,8,0,6,4])<;>rfl
theorem Bu {A W V:Type}[Inhabited W][Inhabited V]{f:A→Stp A W}{g:A→Stp A V}{h:W→V}{Inv:A→Prop}{meas:A→Nat}(hs:∀a,Inv a→(∃a',f a= .next a'∧g a= .next a'∧Inv a'∧meas a'<meas a)∨(∃w,f a= .out w∧g a= .out (h w))):∀(m:Nat) (a:A),meas a<m→Inv a→h (bZ f m a)=bZ g m a
 |0,_,hm,_=>absurd hm (Nat.not_lt_zero _)
 |m+1,a,hm,hi=>by
  simp only[bZ]
  rcases hs a hi with⟨a',e1,e2,e3,e4⟩|⟨w,e1,e2⟩
  ·rw[e1,e2]
   exact Bu hs m a' (by omega) e3
  ·rw[e1,e2];rfl
def wd:Opti:=⟨0,-1,false,false,0,0⟩
def XM (v:ae)(p:Nat)(o:Opti):Opti:=
 bif ah v p==2&&ah v (p+1)==4 then{o with mss:=gw v (p+2) 2}else bif ah v p==3&&ah v (p+1)==3 then{o with scale:=if 14<ah v (p+2)then 14 else ah v (p+2)}else
 bif ah v p==4&&ah v (p+1)==2 then{o with sack:=true}else bif ah v p==8&&ah v (p+1)==10 then{o with stamp:=true,val:=gw v (p+2) 4,echo:=gw v (p+6) 4}else o
def eg (v:ae)(a:Int×Opti):Stp (Int×Opti) (Opti×Bool):=
 bif !decide (a.1<(v.length:Int))then .out (a.2,true)else bif ah v a.1.toNat==0 then .out (a.2,true)else bif ah v a.1.toNat==1 then .next (a.1+1,a.2)else
 bif decide ((v.length:Int)≤a.1+1)||(decide (ah v (a.1.toNat+1)<2)||decide ((v.length:Int)-a.1<ah v (a.1.toNat+1)))then .out (wd,false)else .next (a.1+ah v (a.1.toNat+1),XM v a.1.toNat a.2)
def acd (v:ae)(a:Int×Opti):Opti×Bool:=bZ (eg v) (Int.toNat ((v.length:Int)-a.1)+1) a
theorem Fg (v:ae)(a:Int×Opti)(h:0≤a.1)(a':Int×Opti)(e:eg v a= .next a'):0≤a'.1∧Int.toNat ((v.length:Int)-a'.1)<Int.toNat ((v.length:Int)-a.1):=by
 unfold eg at e
 by_cases h1:a.1<(v.length:Int)
 case neg=>rw[decide_eq_false h1]at e;cases e
 rw[decide_eq_true h1,Bool.not_true,cond_false]at e
 cases h2:(ah v a.1.toNat==0)with
 |true=>rw[h2]at e;cases e
 |false=>
  rw[h2,cond_false]at e
  cases h3:(ah v a.1.toNat==1)with
  |true=>rw[h3,cond_true]at e;cases e;simp only[];omega
  |false=>
   rw[h3,cond_false]at e
   cases h4:(decide ((v.length:Int)≤a.1+1)||(decide (ah v (a.1.toNat+1)<2)||decide ((v.length:Int)-a.1<ah v (a.1.toNat+1))))with
   |true=>rw[h4]at e;cases e
   |false=>
    rw[h4,cond_false]at e
    cases e
    simp at h4
    simp only[];omega
theorem EW (v:ae)(hv:v.length≤4294967296):kM.f (v,())=acd v (0,wd):=by
 have key:=Bu (f:=λa=>(cP v a).nice) (g:=eg v) (h:=Sum.elim (λo=>(o,true)) (λp=>(p.1,false))) (Inv:=λa:Int×Opti=>0≤a.1) (meas:=λa=>Int.toNat ((v.length:Int)-a.1)) (λa ha=>by
  have ha:0≤a.1:=ha
  by_cases h1:a.1<(v.length:Int)
  case neg=>refine .inr ⟨.inl a.2, ?_, ?_⟩<;>simp only[PX,cP,eg,decide_eq_false h1,cond_false,Bool.not_false,cond_true,Sum.elim_inl]
  have w1:IntKind.wrap .i64 (a.1+1)=a.1+1:=aj (by omega) (by omega)
  have w2:IntKind.wrap .i64 (a.1+2)=a.1+2:=aj (by omega) (by omega)
  have w6:IntKind.wrap .i64 (a.1+6)=a.1+6:=aj (by omega) (by omega)
  have wl:IntKind.wrap .i64 ((v.length:Int)-a.1)=(v.length:Int)-a.1:=aj (by omega) (by omega)
  have t1:(a.1+1).toNat=a.1.toNat+1:=by omega
  have t2:(a.1+2).toNat=a.1.toNat+2:=by omega
  have b1:=gv v (a.1.toNat+1)
  have wb:IntKind.wrap .i64 (a.1+ah v (a.1.toNat+1))=a.1+ah v (a.1.toNat+1):=aj (by omega) (by omega)
  have hst:=Fg v a ha
  have eN:bM.f ()=wd:=by simp only[PX,bM,wd]
  cases h2:(ah v a.1.toNat==0)with
  |true=>refine .inr ⟨.inl a.2, ?_, ?_⟩<;>simp only[PX,cP,eg,decide_eq_true h1,h2,cond_false,Bool.not_true,cond_true,Sum.elim_inl]
  |false=>
   cases h3:(ah v a.1.toNat==1)with
   |true=>
    have e:eg v a= .next (a.1+1,a.2):=by simp only[eg,decide_eq_true h1,h2,h3,cond_false,Bool.not_true,cond_true]
    refine .inl ⟨_, ?_,e,hst _ e⟩
    simp only[PX,cP,decide_eq_true h1,h2,h3,cond_false,cond_true,w1]
   |false=>
    cases h4:(decide ((v.length:Int)≤a.1+1)||(decide (ah v (a.1.toNat+1)<2)||decide ((v.length:Int)-a.1<ah v (a.1.toNat+1))))with
    |true=>
     have e:eg v a= .out (wd,false):=by simp only[eg,decide_eq_true h1,h2,h3,h4,cond_false,Bool.not_true,cond_true]
     refine .inr ⟨.inr (wd,a.2), ?_,e⟩
     revert h4
     simp only[PX,cP,decide_eq_true h1,h2,h3,cond_false,cond_true,w1,wl,t1,FQ,eN]
     cases decide ((v.length:Int)≤a.1+1)<;>cases decide (ah v (a.1.toNat+1)<2)<;>cases decide ((v.length:Int)-a.1<ah v (a.1.toNat+1))<;>intro h4<;>first|rfl|cases h4
    |false=>
     have e:eg v a= .next (a.1+ah v (a.1.toNat+1),XM v a.1.toNat a.2):=by simp only[eg,decide_eq_true h1,h2,h3,h4,cond_false,Bool.not_true,cond_true]
     refine .inl ⟨_, ?_,e,hst _ e⟩
     simp only[Bool.or_eq_false_iff,decide_eq_false_iff_not]at h4
     obtain⟨h5,h6,h7⟩:=h4
     simp only[PX,cP,decide_eq_true h1,h2,h3,cond_false,cond_true,w1,w2,w6,wl,t1,t2,FQ,decide_eq_false h5,decide_eq_false h6,decide_eq_false h7,wb,XM]
     have g2:(ah v a.1.toNat==2&&ah v (a.1.toNat+1)==4)=true→d8.f (v,a.1+2,2,())=gw v (a.1.toNat+2) 2:=λhh=>by
      simp at hh
      have:=cq v (a.1.toNat+2) 2 (by omega) (by omega) (by omega) hv
      rw[show((a.1.toNat+2:Nat):Int)=a.1+2 by omega]at this
      exact this
     have g8:(ah v a.1.toNat==8&&ah v (a.1.toNat+1)==10)=true→d8.f (v,a.1+2,4,())=gw v (a.1.toNat+2) 4∧d8.f (v,a.1+6,4,())=gw v (a.1.toNat+6) 4:=λhh=>by
      simp at hh
      have k1:=cq v (a.1.toNat+2) 4 (by omega) (by omega) (by omega) hv
      have k2:=cq v (a.1.toNat+6) 4 (by omega) (by omega) (by omega) hv
      rw[show((a.1.toNat+2:Nat):Int)=a.1+2 by omega]at k1
      rw[show((a.1.toNat+6:Nat):Int)=a.1+6 by omega]at k2
      exact⟨k1,k2⟩
     revert g2 g8
     cases(ah v a.1.toNat==2)<;>cases(ah v (a.1.toNat+1)==4)<;>cases(ah v a.1.toNat==3)<;>cases(ah v (a.1.toNat+1)==3)<;>cases(ah v a.1.toNat==4)<;>cases(ah v (a.1.toNat+1)==2)<;>cases(ah v a.1.toNat==8)<;>cases(ah v (a.1.toNat+1)==10)<;>intro g2 g8<;>simp only[Bool.and_true,Bool.and_false,Bool.false_and,Bool.true_and,cond_true,cond_false]<;>first|rfl|(rw[g2 rfl])|(rw[(g8 rfl).1,(g8 rfl).2])) (Int.toNat ((v.length:Int)-0)+1) (0,wd) (by simp) (by simp)
 have eN:bM.f ()=wd:=by simp only[PX,bM,wd]
 simp only[PX,kM,iJ,eN]
 rw[acd,←key]
 cases bZ (λa=>(cP v a).nice) (Int.toNat ((v.length:Int)-0)+1) (0,wd)<;>rfl
theorem Su (v:ae)(e p k:Nat)(h:p+k<e):ah ((v.take e).drop p) k=ah v (p+k):=by
 simp[ah,List.getD,List.getElem?_drop,List.getElem?_take,h]
theorem Y9 (v:ae)(e p k n:Nat)(h:p+k+n≤e):gw ((v.take e).drop p) k n=gw v (p+k) n:=by
 unfold gw
 rw[List.drop_drop,List.drop_take,List.take_take,Nat.min_eq_left (by omega)]
theorem Vf (v:ae)(p e:Nat)(o:Opti)(hv:v.length≤4294967296)(he:e≤v.length)(h2:p+2≤e)(hn:ah v (p+1)=(e:Int)-p):HD.f (o,(v.take e).drop p,())=XM v p o:=by
 have hl:((v.take e).drop p).length=e-p:=by rw[List.length_drop,List.length_take];omega
 have c0:=Su v e p 0 (by omega)
 rw[Nat.add_zero]at c0
 have w4:(((v.take e).drop p).length:Int)=ah v (p+1):=by rw[hl,hn];omega
 have hx:((v.take e).drop p).length≤4294967296:=by omega
 have g2:(ah v p==2&&ah v (p+1)==4)=true→bJ.f ((v.take e).drop p,2,2,())=(gw v (p+2) 2,true):=λhh=>by
  simp at hh
  have:=bx ((v.take e).drop p) 2 2 (by omega) (by omega) (by omega) hx
  rw[Y9 _ _ _ _ _ (by omega)]at this
  exact this
 have g3:(ah v p==3&&ah v (p+1)==3)=true→ah ((v.take e).drop p) 2=ah v (p+2):=λhh=>by
  simp at hh
  exact Su v e p 2 (by omega)
 have g8:(ah v p==8&&ah v (p+1)==10)=true→bJ.f ((v.take e).drop p,2,4,())=(gw v (p+2) 4,true)∧bJ.f ((v.take e).drop p,6,4,())=(gw v (p+6) 4,true):=λhh=>by
  simp at hh
  have k1:=bx ((v.take e).drop p) 2 4 (by omega) (by omega) (by omega) hx
  have k2:=bx ((v.take e).drop p) 6 4 (by omega) (by omega) (by omega) hx
  rw[Y9 _ _ _ _ _ (by omega)]at k1 k2
  exact⟨k1,k2⟩
 simp only[PX,HD,XM,c0,w4,FQ,jE]
 revert g2 g3 g8
 cases(ah v p==2)<;>cases(ah v (p+1)==4)<;>cases(ah v p==3)<;>cases(ah v (p+1)==3)<;>cases(ah v p==4)<;>cases(ah v (p+1)==2)<;>cases(ah v p==8)<;>cases(ah v (p+1)==10)<;>intro g2 g3 g8<;>simp only[Bool.and_true,Bool.and_false,Bool.false_and,Bool.true_and,cond_true,cond_false]<;>first|rfl|(rw[g2 rfl])|(rw[g3 rfl])|(rw[(g8 rfl).1,(g8 rfl).2])
theorem Ey (v:ae)(hv:v.length≤4294967296):kR.f (v,())=acd v (0,wd):=by
 have key:=Bu (f:=λa=>(cN v a).nice) (g:=eg v) (h:=Sum.elim (λp=>(p.1,false)) (λo=>(o,true))) (Inv:=λa:Int×Opti=>0≤a.1) (meas:=λa=>Int.toNat ((v.length:Int)-a.1)) (λa ha=>by
  have ha:0≤a.1:=ha
  by_cases h1:a.1<(v.length:Int)
  case neg=>refine .inr ⟨.inr a.2, ?_, ?_⟩<;>simp only[PX,cN,eg,decide_eq_false h1,cond_false,Bool.not_false,cond_true,Sum.elim_inr]
  have w1:IntKind.wrap .i64 (a.1+1)=a.1+1:=aj (by omega) (by omega)
  have wl:IntKind.wrap .i64 ((v.length:Int)-a.1)=(v.length:Int)-a.1:=aj (by omega) (by omega)
  have t1:(a.1+1).toNat=a.1.toNat+1:=by omega
  have b1:=gv v (a.1.toNat+1)
  have wb:IntKind.wrap .i64 (a.1+ah v (a.1.toNat+1))=a.1+ah v (a.1.toNat+1):=aj (by omega) (by omega)
  have hst:=Fg v a ha
  have eN:cu.f ()=wd:=by simp only[PX,cu,wd]
  cases h2:(ah v a.1.toNat==0)with
  |true=>refine .inr ⟨.inr a.2, ?_, ?_⟩<;>simp only[PX,cN,eg,decide_eq_true h1,bne,h2,cond_false,Bool.not_true,cond_true,Sum.elim_inr]
  |false=>
   cases h3:(ah v a.1.toNat==1)with
   |true=>
    have e:eg v a= .next (a.1+1,a.2):=by simp only[eg,decide_eq_true h1,h2,h3,cond_false,Bool.not_true,cond_true]
    refine .inl ⟨_, ?_,e,hst _ e⟩
    simp only[PX,cN,decide_eq_true h1,bne,h2,h3,Bool.not_false,cond_false,cond_true,w1]
   |false=>
    cases h4:(decide ((v.length:Int)≤a.1+1)||(decide (ah v (a.1.toNat+1)<2)||decide ((v.length:Int)-a.1<ah v (a.1.toNat+1))))with
    |true=>
     have e:eg v a= .out (wd,false):=by simp only[eg,decide_eq_true h1,h2,h3,h4,cond_false,Bool.not_true,cond_true]
     refine .inr ⟨.inl (wd,a.2), ?_,e⟩
     revert h4
     simp only[PX,cN,decide_eq_true h1,bne,h2,h3,Bool.not_false,cond_false,cond_true,w1,wl,t1,FQ,eN]
     cases decide ((v.length:Int)≤a.1+1)<;>cases decide (ah v (a.1.toNat+1)<2)<;>cases decide ((v.length:Int)-a.1<ah v (a.1.toNat+1))<;>intro h4<;>first|rfl|cases h4
    |false=>
     have e:eg v a= .next (a.1+ah v (a.1.toNat+1),XM v a.1.toNat a.2):=by simp only[eg,decide_eq_true h1,h2,h3,h4,cond_false,Bool.not_true,cond_true]
     refine .inl ⟨_, ?_,e,hst _ e⟩
     simp only[Bool.or_eq_false_iff,decide_eq_false_iff_not]at h4
     obtain⟨h5,h6,h7⟩:=h4
     have hl:=Vf v a.1.toNat (a.1+ah v (a.1.toNat+1)).toNat a.2 hv (by omega) (by omega) (by omega)
     simp only[PX,cN,decide_eq_true h1,bne,h2,h3,Bool.not_false,cond_false,cond_true,w1,wl,t1,FQ,decide_eq_false h5,decide_eq_false h6,decide_eq_false h7,wb,hl]) (Int.toNat ((v.length:Int)-0)+1) (0,wd) (by simp) (by simp)
 have eN:cu.f ()=wd:=by simp only[PX,cu,wd]
 simp only[PX,kR,iq,eN]
 rw[acd,←key]
 cases bZ (λa=>(cN v a).nice) (Int.toNat ((v.length:Int)-0)+1) (0,wd)<;>rfl
def yo (v:List Entr):Int:=match aP (λj a=>(er v j a).nice) 1 3 1 0 with| .next a=>a| .out e=>Empty.elim e
theorem VY (v:List Entr):aP (λj a=>(er v j a).nice) 1 3 1 0= .next (yo v):=by
 unfold yo
 cases aP (λj a=>(er v j a).nice) 1 3 1 0 with
 |next a=>rfl
 |out e=>exact Empty.elim e
theorem acO (v:List Entr)(j a:Int):(er v j a).nice= .next (bif decide ((v.getD a.toNat (Ty.zero .entr)).age<(v.getD j.toNat (Ty.zero .entr)).age)then j else a):=by
 simp only[PX,er]
 cases decide ((v.getD a.toNat (Ty.zero .entr)).age<(v.getD j.toNat (Ty.zero .entr)).age)<;>rfl
theorem NQ (v:List Entr):0≤yo v∧yo v<4:=by
 have e:=VY v
 simp only[aP,acO,Stp.elim]at e
 have key:∀(b:Bool) (x y:Int),(0≤x∧x<4)→(0≤y∧y<4)→0≤(bif b then x else y)∧(bif b then x else y)<4:=by
  intro b x y hx hy
  cases b<;>assumption
 rw[←Stp.next.inj e]
 refine key _ _ _ (by omega) (key _ _ _ (by omega) (key _ _ _ (by omega) (by omega)))
theorem abi (v:List Entr):aP (λj a=>(er v j a).nice) 1 4 0 0= .next (yo v):=by
 rw[←VY v]
 show Stp.elim _ _ ((er v 0 0).nice)=_
 rw[acO,decide_eq_false (Int.lt_irrefl _),cond_false]
 rfl
def Iz (v:List Entr)(ip hw:Int):List Entr:=bif decide (0≤dW (λe:Entr=>e.ip==ip) v)then v.set (dW (λe:Entr=>e.ip==ip) v).toNat ⟨ip,hw,0⟩else(bif ((v.length:Int)==4)then v.take (yo v).toNat++v.drop ((yo v).toNat+1)else v)++[⟨ip,hw,0⟩]
def vm (v:List Entr)(ip hw:Int):List Entr:=bif (fZ.f (v,())&&(af.f (ip,32,())&&af.f (hw,48,())))then Iz v ip hw else v
theorem C7 (v:List Entr)(ip hw:Int):uk.f (v,ip,hw,())=vm v ip hw:=by
 unfold vm
 simp only[PX,uk,gq,fL,fx]
 rcases Bool.eq_false_or_eq_true (fZ.f (v,()))with h1|h1
 case inr=>rw[h1];rfl
 have hE:=(xT v).1 h1
 have hlen:=hE.len
 rw[h1]
 cases h2:af.f (ip,32,())with
 |false=>rfl
 |true=>
  cases h3:af.f (hw,48,())with
  |false=>rfl
  |true=>
   simp only[Bool.not_true,cond_false,Bool.and_self,cond_true,aA]
   rw[bu v _ rfl (F:=λj x _=>bif x.ip==ip then .out (v.set j (⟨ip,hw,0⟩:Entr))else .next ()) (λj x a h=>by
    have hj:j<v.length:=(List.getElem?_eq_some_iff.1 h).1
    have hx:=getD_some (d:=Ty.zero .entr) h
    simp only[PX,xG,ac,hx]
    cases hb:(x.ip==ip)with
    |false=>rfl
    |true=>
     rw[cond_true,cond_true,List.set_set]
     have e:(v.set j ({x with hw:=hw}:Entr)).getD j (Ty.zero .entr)=({x with hw:=hw}:Entr):=getD_some (by simp[hj])
     rw[e,←beq_iff_eq.1 hb]),j4 (p:=λe:Entr=>e.ip==ip) (w:=λj _=>v.set j (⟨ip,hw,0⟩:Entr))]
   unfold Iz dW
   cases hf:v.findIdx? (λe=>e.ip==ip)with
   |some i=>
    obtain⟨h4,_,_⟩:=List.findIdx?_eq_some_iff_getElem.1 hf
    have hx:v[i]? =some v[i]:=List.getElem?_eq_getElem h4
    simp only[hx,Stp.elim,Nat.zero_add,decide_eq_true (show(0:Int)≤(i:Int) by omega),cond_true,ac]
   |none=>
    simp only[Stp.elim,decide_eq_false (show¬(0:Int)≤-1 by omega),cond_false]
    cases h4:((v.length:Int)==4)with
    |false=>rfl
    |true=>
     have h5:v.length=4:=by have:=beq_iff_eq.1 h4;omega
     have ho:=NQ v
     obtain⟨o,hoe⟩:=Int.eq_ofNat_of_zero_le ho.1
     have e4:=abi v
     rw[h5]
     simp only[cond_true]
     refine(congrArg (Stp.elim _ _) e4).trans ?_
     simp only[Stp.elim,PX,qR,hoe,ac]
     rw[aj (by omega) (by omega),show((o:Int)==(o:Int)+1)=false by simp;omega,show((o:Int)+1).toNat=o+1 by omega]
     simp only[cond_false]
     have hL:(v.take o++v.drop (o+1)).length=o+(v.length-(o+1)):=by
      rw[List.length_append,List.length_take,List.length_drop];omega
     generalize v.take o++v.drop (o+1)=L at hL⊢
     rw[List.drop_zero,List.take_left' hL,List.take_left' (rfl:L.length=L.length),List.append_assoc,List.take_left' hL]
theorem Nu (v:List Entr)(ip hw:Int):uH.f (v,ip,hw,())=vm v ip hw:=by
 unfold vm
 simp only[PX,uH,MZ,de,List.nil_append,j3,Bb]
 rcases Bool.eq_false_or_eq_true (fZ.f (v,()))with h1|h1
 case inr=>rw[h1];rfl
 have hE:=(xT v).1 h1
 have hlen:=hE.len
 rw[h1]
 cases h2:af.f (ip,32,())with
 |false=>rfl
 |true=>
  cases h3:af.f (hw,48,())with
  |false=>rfl
  |true=>
   simp only[Bool.not_true,cond_false,Bool.and_self,cond_true]
   unfold Iz
   cases hf:decide (0≤dW (λe:Entr=>e.ip==ip) v)with
   |true=>rfl
   |false=>
    simp only[cond_false]
    cases h4:((v.length:Int)==4)with
    |false=>rfl
    |true=>
     have h5:v.length=4:=by have:=beq_iff_eq.1 h4;omega
     have ho:=NQ v
     obtain⟨o,hoe⟩:=Int.eq_ofNat_of_zero_le ho.1
     have e4:=VY v
     simp only[cond_true]
     rw[h5,show Int.toNat (((4:Nat):Int)-1)=3 from rfl]
     refine(congrArg (Stp.elim _ _) e4).trans ?_
     simp only[Stp.elim,hoe,ac]
     rw[aj (by omega) (by omega),show((o:Int)+1).toNat=o+1 by omega,List.drop_zero]
     first|rw[List.take_of_length_le (show v.length≤4 by omega)]|rw[List.take_length]
theorem ZE (v:List Entr)(ip hw:Int)(h:EO v)(hi:af.f (ip,32,())=true)(hh:af.f (hw,48,())=true):EO (Iz v ip hw):=by
 have hn:Az ⟨ip,hw,0⟩=true:=by unfold Az;rw[hi,hh];rfl
 unfold Iz
 cases hf:decide (0≤dW (λe:Entr=>e.ip==ip) v)with
 |true=>
  rw[cond_true]
  unfold dW at hf⊢
  cases hc:v.findIdx? (λe=>e.ip==ip)with
  |none=>rw[hc]at hf;simp at hf
  |some i=>
   obtain⟨h4,h5,_⟩:=List.findIdx?_eq_some_iff_getElem.1 hc
   simp only[ac]
   refine⟨λe he=>(List.mem_or_eq_of_mem_set he).elim (h.ok e) λx=>x▸hn, ?_,by rw[List.length_set];exact h.len⟩
   have e:(v.set i (⟨ip,hw,0⟩:Entr)).map Entr.ip=v.map Entr.ip:=by
    rw[List.map_set]
    have:(v.map Entr.ip)[i]'(by simpa using h4)=ip:=by simpa using h5
    conv=>lhs;rw[show(Entr.ip ⟨ip,hw,0⟩)=(v.map Entr.ip)[i]'(by simpa using h4) from this.symm]
    exact List.set_getElem_self _
   rw[e];exact h.nd
 |false=>
  rw[cond_false]
  have hnot:ip∉v.map Entr.ip:=by
   intro hm
   rw[List.mem_map]at hm
   obtain⟨x,hx,he⟩:=hm
   have:=kD (λe:Entr=>e.ip==ip) v
   rw[hf]at this
   have h2:=(List.any_eq_false.1 this.symm) x hx
   rw[he]at h2;simp at h2
  have hsub:(bif ((v.length:Int)==4)then v.take (yo v).toNat++v.drop ((yo v).toNat+1)else v).Sublist v∧(bif ((v.length:Int)==4)then v.take (yo v).toNat++v.drop ((yo v).toNat+1)else v).length≤3:=by
   have hl:=h.len
   have ho:=NQ v
   cases h4:((v.length:Int)==4)with
   |false=>
    simp at h4
    exact⟨List.Sublist.refl _,by simp only[cond_false];omega⟩
   |true=>
    simp at h4
    refine⟨?_, ?_⟩
    ·rw[cond_true]
     have:=List.Sublist.append (List.Sublist.refl (v.take (yo v).toNat)) (List.Sublist.trans (show(v.drop ((yo v).toNat+1)).Sublist ((v.drop (yo v).toNat).drop 1) by rw[List.drop_drop];exact List.Sublist.refl _) (List.drop_sublist 1 (v.drop (yo v).toNat)))
     rwa [List.take_append_drop]at this
    ·rw[cond_true,List.length_append,List.length_take,List.length_drop];omega
  generalize(bif ((v.length:Int)==4)then v.take (yo v).toNat++v.drop ((yo v).toNat+1)else v)=w at hsub
  refine⟨λe he=> ?_, ?_,by rw[List.length_append,List.length_singleton];omega⟩
  ·rcases List.mem_append.1 he with he|he
   ·exact h.ok e (hsub.1.subset he)
   ·rw[List.mem_singleton.1 he];exact hn
  ·rw[List.map_append]
   have h1:=List.Nodup.sublist (hsub.1.map Entr.ip) h.nd
   rw[List.nodup_append]
   refine⟨h1,by simp,λa ha b hb=> ?_⟩
   simp at hb
   subst hb
   intro e
   subst e
   exact hnot ((hsub.1.map Entr.ip).subset ha)
theorem adq (a:Int)(h0:0≤a)(h1:a≤255):bits .and .i64 a 63=a.tmod 64:=by
 obtain⟨x,rfl⟩:=Int.eq_ofNat_of_zero_le h0
 have key:∀y:Fin 256,bits .and .i64 ((y.val:Nat):Int) 63=((y.val:Nat):Int).tmod 64:=by decide+kernel
 exact key ⟨x,by omega⟩
theorem LH (v:ae)(hv:v.length≤4294967296):kR.f (v,())=kM.f (v,()):=by
 rw[Ey v hv,EW v hv]
theorem A1 (s:ae)(a b:Int)(hs:s.length≤4294967276):jf.f (s,a,b,())=bD.f (s,a,b,()):=by
 by_cases h:s.length<20
 ·simp only[PX,jf,bD,decide_eq_true (show(s.length:Int)<20 by omega),cond_true]
 ·have pU:s.length≤4294967296:=by omega
  have w1:=cq s 0 2 (by omega) (by omega) (by omega) pU
  have w2:=cq s 2 2 (by omega) (by omega) (by omega) pU
  have w3:=cq s 4 4 (by omega) (by omega) (by omega) pU
  have w4:=cq s 8 4 (by omega) (by omega) (by omega) pU
  have w5:=cq s 14 2 (by omega) (by omega) (by omega) pU
  have v1:=bx s 0 2 (by omega) (by omega) (by omega) pU
  have v2:=bx s 2 2 (by omega) (by omega) (by omega) pU
  have v3:=bx s 4 4 (by omega) (by omega) (by omega) pU
  have v4:=bx s 8 4 (by omega) (by omega) (by omega) pU
  have v5:=bx s 14 2 (by omega) (by omega) (by omega) pU
  simp only[Int.ofNat_zero,Int.cast_ofNat_Int]at w1 w2 w3 w4 w5 v1 v2 v3 v4 v5
  have b13:=gv s 13
  have e13:=adq (ah s 13) b13.1 b13.2
  have hph:=acB a b (s.length:Int)
  have hq:=Jv (em.f (a,b,(s.length:Int),())++s) (by rw[List.length_append];omega)
  simp only[PX,jf,bD,decide_eq_false (show¬(s.length:Int)<20 by omega),cond_false,w1,w2,w3,w4,w5,v1,v2,v3,v4,v5,FQ,e13,Cy,bA,hq,pe]
  generalize IntKind.wrap .i64 ((IntKind.wrap .i64 ((ah s 12).tdiv 16))*4)=n
  rw[LH _ (by rw[List.length_drop,List.length_take];omega)]
  rw[show(!(decide (20≤n)&&decide (n≤(s.length:Int))))=(decide (n<20)||decide ((s.length:Int)<n)) by rw[Bool.eq_iff_iff];simp<;>omega]
  cases decide (n<20)<;>cases decide ((s.length:Int)<n)<;>rfl
theorem E1 (l:Link):mf.f (l,())=l:=by simp only[PX,mf,gq]
theorem Xc (l:Link):qE.f (l,())=l:=by simp only[PX,qE,List.nil_append]
theorem abS (f:Fram)(m:Int):HB.f (f,m,())=td.f (f,m,()):=by simp only[PX,HB,td]
theorem tQ (s:ae):(dJ s).1.body.length≤s.length:=by
 unfold dJ
 split
 ·simp
 ·cases f7.f (⟨gw s 0 6,gw s 6 6,gw s 12 2,s.drop 14⟩,())<;>simp
theorem Z8 (l:Link)(raw:ae)(hs:raw.length≤4294967296):BT.f (l,raw,())=bI.f (l,raw,()):=by
 have hb:=tQ raw
 simp only[PX,BT,bI,Kg,E1,Xc,abS,xp raw hs,rc raw hs,IL,Nu,C7,Ue,MI,xB]
 generalize dJ raw=F at hb
 rw[OO F.1.body (by omega),Cp F.1.body (by omega),xe F.1.body (by omega),pI F.1.body (by omega)]
 generalize Mo F.1.body=A
 generalize kS F.1.body=P
 cases(bif !dK.f (l,())then(true,())else bif !F.2 then(true,())else(!td.f (F.1,l.mac,()),())).1 with
 |true=>rfl
 |false=>
  simp only[cond_false]
  cases(F.1.type==2054)with
  |true=>
   simp only[cond_true]
   cases(bif !A.2 then(true,())else(A.1.dstIp != l.ip,())).1 with
   |true=>rfl
   |false=>cases(n3.f (A.1,l.mac,l.ip,())).2<;>rfl
  |false=>
   simp only[cond_false,bne]
   cases(F.1.type==2048)<;>rfl
structure Pkt (l:Link)(raw:ae)(k:Link)(p:Pack):Prop where
 hF:(dJ raw).2=true
 hM:td.f ((dJ raw).1,l.mac,())=true
 hP:kS (dJ raw).1.body=(p,0)
 hD:p.dst=l.ip
 hT:p.proto=6
 hS:p.src≠l.ip
 hK:k={l with cache:=vm l.cache p.src (dJ raw).1.src}
theorem BH (l:Link)(raw:ae)(hs:raw.length≤4294967296):∃(k:Link) (n:Int) (p:Pack) (t:ae),bI.f (l,raw,())=(k,n,p,t)∧((k=l∧n=0∧p=zP)∨(∃ip hw,k={l with cache:=vm l.cache ip hw}∧(n=0∨n=1)∧p=zP)∨(n=2∧Pkt l raw k p)):=by
 obtain⟨r,hr⟩:∃r,bI.f (l,raw,())=r:=⟨_,rfl⟩
 refine⟨r.1,r.2.1,r.2.2.1,r.2.2.2,hr, ?_⟩
 have hb:=tQ raw
 simp only[PX,bI,E1,rc raw hs,C7]at hr
 rw[Cp _ (by omega),pI _ (by omega)]at hr
 generalize Mo (dJ raw).1.body=A at hr
 rcases Bool.eq_false_or_eq_true (bif !dK.f (l,())then(true,())else bif !(dJ raw).2 then(true,())else(!td.f ((dJ raw).1,l.mac,()),())).1 with hc|hc
 ·rw[hc,cond_true]at hr;subst hr;exact .inl ⟨rfl,rfl,rfl⟩
 rw[hc,cond_false]at hr
 rcases Bool.eq_false_or_eq_true (((dJ raw).1).type==2054)with h1|h1
 ·rw[h1,cond_true]at hr
  rcases Bool.eq_false_or_eq_true (bif !A.2 then(true,())else(A.1.dstIp != l.ip,())).1 with h2|h2
  ·rw[h2,cond_true]at hr;subst hr;exact .inl ⟨rfl,rfl,rfl⟩
  rw[h2,cond_false]at hr
  rcases Bool.eq_false_or_eq_true (n3.f (A.1,l.mac,l.ip,())).2 with h3|h3
  ·rw[h3,cond_true]at hr;subst hr;exact .inr (.inl ⟨_,_,rfl,.inr rfl,rfl⟩)
  ·rw[h3,cond_false]at hr;subst hr;exact .inr (.inl ⟨_,_,rfl,.inl rfl,rfl⟩)
 rw[h1,cond_false]at hr
 rcases Bool.eq_false_or_eq_true (((dJ raw).1).type==2048)with h2|h2
 case inr=>rw[h2,cond_false]at hr;subst hr;exact .inl ⟨rfl,rfl,rfl⟩
 rw[h2,cond_true]at hr
 rcases Bool.eq_false_or_eq_true (bif (kS (dJ raw).1.body).2 != 0 then(true,())else bif (kS (dJ raw).1.body).1.dst != l.ip then(true,())else bif (kS (dJ raw).1.body).1.proto != 6 then(true,())else((kS (dJ raw).1.body).1.src==l.ip,())).1 with hP|hP
 ·rw[hP,cond_true]at hr;subst hr;exact .inl ⟨rfl,rfl,rfl⟩
 rw[hP,cond_false]at hr
 subst hr
 refine .inr (.inr ⟨rfl, ?_⟩)
 revert hP hc
 cases dK.f (l,())<;>cases h1:(dJ raw).2<;>cases h2:td.f ((dJ raw).1,l.mac,())<;>intro hc<;>try (cases hc)
 cases h3:((kS (dJ raw).1.body).2 != 0)<;>cases h4:((kS (dJ raw).1.body).1.dst != l.ip)<;>cases h5:((kS (dJ raw).1.body).1.proto != 6)<;>cases h6:((kS (dJ raw).1.body).1.src==l.ip)<;>intro hP<;>try (cases hP)
 simp at h3 h4 h5 h6
 exact⟨h1,h2,by rw[←h3],h4,h5,h6,rfl⟩
theorem CP (l:Link)(ip hw:Int)(h:dK.f (l,())=true):dK.f (({l with cache:=vm l.cache ip hw}:Link),())=true:=by
 obtain⟨h1,h2,h3,h4⟩:=(lA l).1 h
 refine(lA _).2 ⟨h1,h2,h3, ?_⟩
 show EO (vm l.cache ip hw)
 unfold vm
 cases hc:(fZ.f (l.cache,())&&(af.f (ip,32,())&&af.f (hw,48,())))with
 |false=>exact h4
 |true=>
  simp only[Bool.and_eq_true]at hc
  exact ZE _ _ _ h4 hc.2.1 hc.2.2
theorem MP (s:ae):(kS s).1.body.length≤s.length-20:=by
 unfold kS
 by_cases h:s.length<20
 ·rw[decide_eq_true h];exact Nat.zero_le _
 ·rw[decide_eq_false h]
  cases(ah s 0 != 69)
  case true=>exact Nat.zero_le _
  cases(!lF.f (s.take 20,()))
  case true=>exact Nat.zero_le _
  cases(decide (gw s 2 2<20)||(decide ((s.length:Int)<gw s 2 2)||decide (1500<gw s 2 2)))
  case true=>exact Nat.zero_le _
  cases(!(gw s 6 2==0||gw s 6 2==16384))
  case true=>exact Nat.zero_le _
  cases(ah s 8==0)
  case true=>exact Nat.zero_le _
  simp only[cond_false,List.length_drop,List.length_take]
  omega
def pA (s:Stac)(raw:ae):Stac×List ae×Int:=
 bif !bL.f (s,())then(s,[],0)else
 bif (bI.f (s.link,raw,())).2.1==1 then(⟨(bI.f (s.link,raw,())).1,s.door⟩,[(bI.f (s.link,raw,())).2.2.2],0)else
 bif (bI.f (s.link,raw,())).2.1 != 2 then(⟨(bI.f (s.link,raw,())).1,s.door⟩,[],0)else
 bif !(bD.f ((bI.f (s.link,raw,())).2.2.1.body,(bI.f (s.link,raw,())).2.2.1.src,(bI.f (s.link,raw,())).2.2.1.dst,())).2 then(⟨(bI.f (s.link,raw,())).1,s.door⟩,[],0)else
 (⟨(bI.f (s.link,raw,())).1,(GL s.door (bI.f (s.link,raw,())).2.2.1.src (bD.f ((bI.f (s.link,raw,())).2.2.1.body,(bI.f (s.link,raw,())).2.2.1.src,(bI.f (s.link,raw,())).2.2.1.dst,())).1).1⟩,
  (GL s.door (bI.f (s.link,raw,())).2.2.1.src (bD.f ((bI.f (s.link,raw,())).2.2.1.body,(bI.f (s.link,raw,())).2.2.1.src,(bI.f (s.link,raw,())).2.2.1.dst,())).1).2.1.flatMap (wI (bI.f (s.link,raw,())).1 (bI.f (s.link,raw,())).2.2.1.src),
  (GL s.door (bI.f (s.link,raw,())).2.2.1.src (bD.f ((bI.f (s.link,raw,())).2.2.1.body,(bI.f (s.link,raw,())).2.2.1.src,(bI.f (s.link,raw,())).2.2.1.dst,())).1).2.2)
theorem Pm (s:Stac)(raw:ae)(hs:fV s.door)(hl:s.door.halves.length≤4294967296):zM.f (s,raw,())=pA s raw:=by
 simp only[PX,zM,vY,uX,pA]
 rw[TB _ _ _ hs hl]
theorem Po (s:Stac)(raw:ae)(hr:raw.length≤4294967296)(hs:fV s.door)(hl:s.door.halves.length≤4294967296):t8.f (s,raw,())=pA s raw:=by
 rcases Bool.eq_false_or_eq_true (bL.f (s,()))with h|h
 case inr=>simp only[PX,t8,zc,ua s hs,h,Bool.not_false,cond_true,pA]
 have hD:=(iG _).1 ((cx s).1 h).2
 obtain⟨k,n,p,t,e,hc⟩:=BH s.link raw hr
 have hp:p.body.length≤4294967276:=by
  rcases hc with⟨_,_,rfl⟩|⟨_,_,_,_,rfl⟩|⟨_,hk⟩
  ·exact Nat.zero_le _
  ·exact Nat.zero_le _
  ·have h1:=MP (dJ raw).1.body
   have h2:=tQ raw
   rw[hk.hP]at h1
   simp only[]at h1
   omega
 have hg:=A1 p.body p.src p.dst hp
 have hso:=Y0 s.door p.src (bD.f (p.body,p.src,p.dst,())).1 hs hD
 have hse:=Uw s.door p.src (bD.f (p.body,p.src,p.dst,())).1 hs hl
 simp only[PX,t8,zc,ua s hs,h,Bool.not_true,cond_false,pA,Z8 s.link raw hr,e,hg,hse]
 rw[uW _ _ _ hso.2]
 cases(n==1)with
 |true=>rfl
 |false=>
  simp only[cond_false]
  cases(n != 2)with
  |true=>rfl
  |false=>rfl
theorem Lj (s:Stac)(raw:ae)(hr:raw.length≤4294967296)(hs:fV s.door)(h:bL.f (s,())=true):bL.f ((pA s raw).1,())=true:=by
 obtain⟨h1,h2⟩:=(cx s).1 h
 have hD:=(iG _).1 h2
 obtain⟨k,n,p,t,e,hc⟩:=BH s.link raw hr
 have hk:dK.f (k,())=true:=by
  rcases hc with⟨rfl,_⟩|⟨_,_,rfl,_⟩|⟨_,hk⟩
  ·exact h1
  ·exact CP _ _ _ h1
  ·rw[hk.hK];exact CP _ _ _ h1
 have hso:=Y0 s.door p.src (bD.f (p.body,p.src,p.dst,())).1 hs hD
 simp only[pA,h,Bool.not_true,cond_false,e]
 cases(n==1)with
 |true=>exact(cx _).2 ⟨hk,h2⟩
 |false=>
  cases(n != 2)with
  |true=>exact(cx _).2 ⟨hk,h2⟩
  |false=>
   cases(bD.f (p.body,p.src,p.dst,())).2 with
   |false=>exact(cx _).2 ⟨hk,h2⟩
   |true=>exact(cx _).2 ⟨hk,(iG _).2 hso.1⟩
theorem Dg (x:Tupl):l8.f (x,x,())=true:=by simp only[PX,l8,bne_self_eq_false,cond_false]
theorem ME (x:Opti):oW.f (x,x,())=true:=by simp only[PX,oW,bne_self_eq_false,beq_self_eq_true,Bool.not_true,cond_false]
theorem aaW (x:Sndr):vX.f (x,x,())=true:=by simp only[PX,vX,bne_self_eq_false,beq_self_eq_true,Bool.not_true,cond_false]
theorem acb (x:Entr):zd.f (x,x,())=true:=by simp only[PX,zd,bne_self_eq_false,cond_false]
theorem Z1 (x:MacRow):vT.f (x,x,())=true:=by simp only[PX,vT,bne_self_eq_false,beq_self_eq_true,Bool.not_true,cond_false]
theorem abU (x:Piec):zz.f (x,x,())=true:=by simp only[PX,zz,bne_self_eq_false,beq_self_eq_true,Bool.not_true,cond_false]
theorem adK (x:Half):C9.f (x,x,())=true:=by simp only[PX,C9,Dg,ME,bne_self_eq_false,Bool.not_true,cond_false]
theorem aae (x:Limi):vB.f (x,x,())=true:=by simp only[PX,vB,bne_self_eq_false,cond_false]
theorem aa6 (x:List Tupl):vK.f (x,x,())=true:=by
 simp only[PX,vK,kZ,bne_self_eq_false,cond_false]
 rw[lT _ _ λj=>by simp only[PX,wG,Dg,Bool.not_true,cond_false]]
 rfl
theorem ZL (x:List Entr):vS.f (x,x,())=true:=by
 simp only[PX,vS,lc,bne_self_eq_false,cond_false]
 rw[lT _ _ λj=>by simp only[PX,wJ,acb,Bool.not_true,cond_false]]
 rfl
theorem W4 (x:List MacRow):sV.f (x,x,())=true:=by
 simp only[PX,sV,kg,bne_self_eq_false,cond_false]
 rw[lT _ _ λj=>by simp only[PX,uz,Z1,Bool.not_true,cond_false]]
 rfl
theorem aaR (x:List Piec):uR.f (x,x,())=true:=by
 simp only[PX,uR,kY,bne_self_eq_false,cond_false]
 rw[lT _ _ λj=>by simp only[PX,wx,abU,Bool.not_true,cond_false]]
 rfl
theorem abl (x:List Half):zZ.f (x,x,())=true:=by
 simp only[PX,zZ,mz,bne_self_eq_false,cond_false]
 rw[lT _ _ λj=>by simp only[PX,ym,adK,Bool.not_true,cond_false]]
 rfl
theorem TY (x:Recv):qq.f (x,x,())=true:=by simp only[PX,qq,aaR,bne_self_eq_false,beq_self_eq_true,Bool.not_true,cond_false]
theorem ads (x:Conn):DD.f (x,x,())=true:=by simp only[PX,DD,Dg,aaW,TY,ME,bne_self_eq_false,Bool.not_true,cond_false]
theorem abZ (x:List Conn):zD.f (x,x,())=true:=by
 simp only[PX,zD,mI,bne_self_eq_false,cond_false]
 rw[lT _ _ λj=>by simp only[PX,xx,ads,Bool.not_true,cond_false]]
 rfl
theorem acD (x:Mac):z9.f (x,x,())=true:=by simp only[PX,z9,W4,bne_self_eq_false,beq_self_eq_true,Bool.not_true,cond_false]
theorem adr (x:Keys):CA.f (x,x,())=true:=by simp only[PX,CA,acD,bne_self_eq_false,beq_self_eq_true,Bool.not_true,cond_false]
theorem abT (x:Tabl):z5.f (x,x,())=true:=by simp only[PX,z5,abZ,aa6,Bool.not_true,cond_false]
theorem adx (x:Door):Cz.f (x,x,())=true:=by simp only[PX,Cz,adr,aae,abl,abT,bne_self_eq_false,Bool.not_true,cond_false]
theorem adI (x:Link):CS.f (x,x,())=true:=by simp only[PX,CS,ZL,bne_self_eq_false,Bool.not_true,cond_false]
theorem abj (x:Stac):zG.f (x,x,())=true:=by simp only[PX,zG,adI,adx,Bool.not_true,cond_false]
theorem WR (x:Limi):vz.f (x,())=x:=by simp only[PX,vz]
theorem V0 (x:List MacRow):sP.f (x,())=x:=by
 simp only[PX,sP,gP,aA,ac]
 rw[bu x _ rfl (F:=λj y a=> .next (a.set j y)) (λj y a h=>by simp only[PX,tU,BM,ac,getD_some h])]
 have:=lH (W:=Empty) (λy:MacRow=>y) x 0 (List.replicate x.length (⟨[],0⟩:MacRow)) (by simp)
 rw[this]
 simp[Stp.elim]
theorem ZP (x:Mac):zU.f (x,())=x:=by simp only[PX,zU,V0]
theorem QP (t:Tabl)(l:Limi)(h:TO t l):TO (lM t) l:=by
 refine⟨h.lim, ?_, ?_, ?_, ?_, ?_, ?_⟩
 ·have:=List.length_filter_le (kI t) t.conns
  have h2:=h.nc
  show((List.filter _ _).length:Int)≤_
  omega
 ·have:=List.length_filter_le (lZ t) t.waiting
  have h2:=h.nw
  show((List.filter _ _).length:Int)≤_
  omega
 ·intro c hc;exact h.co c (List.mem_filter.1 hc).1
 ·exact List.Nodup.sublist (List.Sublist.map _ (List.filter_sublist)) h.dc
 ·exact List.Nodup.sublist (List.filter_sublist) h.dw
 ·intro w hw
  have hw1:w∈t.waiting:=(List.mem_filter.1 hw).1
  have hw2:=h.wc w hw1
  rw[List.mem_map]at hw2
  obtain⟨c,hc,rfl⟩:=hw2
  rw[List.mem_map]
  refine⟨c,List.mem_filter.2 ⟨hc, ?_⟩,rfl⟩
  unfold kI
  have:t.waiting.any (jx c.tuple)=true:=by
   rw[List.any_eq_true];exact⟨_,hw1,o9 _⟩
  simp only[this]
  cases(c.state != 8)<;>rfl
theorem MD (t:Tabl):∀x∈(lM t).conns.map Conn.tuple,x∈t.conns.map Conn.tuple:=
 λx hx=>(List.Sublist.map Conn.tuple (List.filter_sublist (p:=kI t))).subset hx
theorem DO.tabl {d:Door}(h:DO d)(t:Tabl)(ht:TO t d.limits)(hm:∀x∈t.conns.map Conn.tuple,x∈d.table.conns.map Conn.tuple):DO ({d with table:=t}:Door):=
 ⟨h.port,h.c0,h.c1,h.keys,ht,h.hal,h.nh,h.k0,h.k1,λy hy hm2=>h.ap y hy (hm _ hm2)⟩
theorem CO.sndr {c:Conn}(h:CO c)(s:Sndr)(hs:SO s)(k:Int)(h1:1≤k)(h8:k≤8)(h7:c.state≠7)(hk:WJ k s.fin s.done c.r.done=true):CO ({c with s:=s,state:=k}:Conn):=
 ⟨h.tup,hs,h.rcv,h.opt,h1,h8,h.m0,h.m1,h.w0,h.w1,h.t0,h.t4,λ_=>h.t3 h7,h.r0,h.r3,hk⟩
theorem Zz {k:Int}{sf sd rd:Bool}(h:WJ k sf sd rd=true)(hk:k=1∨k=4):sf=false∧sd=false:=by
 rcases hk with rfl|rfl<;>revert h<;>cases sf<;>cases sd<;>cases rd<;>decide
theorem ZO (rd:Bool)(k:Int)(sf sd:Bool)(h:WJ k sf sd rd=true)(hk:k=1∨k=4):WJ (if k=1 then 2 else 6) true sd rd=true:=by
 rcases hk with rfl|rfl<;>revert h<;>cases sf<;>cases sd<;>cases rd<;>decide
structure Called (c x:Conn)(l:List Segm):Prop where
 co:CO x
 tu:x.tuple=c.tuple
 sm:aX x.r.held
 sg:∀g∈l,ai.f (g,())=true
theorem Called.none {c:Conn}(h:CO c)(hs:aX c.r.held):Called c c []:=⟨h,rfl,hs,λg hg=>by cases hg⟩
theorem Called.pump {c u:Conn}(hu:CO u)(ht:u.tuple=c.tuple)(hs:aX u.r.held)(w:Int):Called c (cG.f (u,w,())).1 (cG.f (u,w,())).2:=by
 have h:=EX u w hu.snd
 have hr:=h.re
 refine⟨h.ok hu ?_, ?_, ?_,EB u w hu hs⟩
 ·rcases h.tm with e|e
  ·exact .inr e
  ·exact .inl (by omega)
 ·rw[hr];exact ht
 ·rw[hr];exact hs
def OW (s:Sndr)(t:ae):Nat:=min t.length (48-s.data.length)
def Dz (s:Sndr)(t:ae):Sndr×Int:=if ba.f (s,())=true∧s.fin=false then({s with data:=s.data++t.take (OW s t)},(OW s t:Int))else(s,0)
theorem aaZ (s:Sndr)(t:ae)(h:s.data.length≤48):(if(t.length:Int)<IntKind.wrap .i64 (48-(s.data.length:Int))then(t.length:Int)else IntKind.wrap .i64 (48-(s.data.length:Int)))=(OW s t:Int):=by
 rw[aj (by omega) (by omega)];unfold OW;split<;>omega
theorem Qb (s:Sndr)(t:ae):B4.f (s,t,())=Dz s t:=by
 simp only[PX,B4,jE,nZ]
 unfold Dz
 rcases Bool.eq_false_or_eq_true (ba.f (s,()))with h|h
 ·have hs:=(xP s).1 h
  rcases Bool.eq_false_or_eq_true s.fin with hf|hf
  ·simp[h,hf]
  ·have e:=aaZ s t hs.2.2.1
   simp only[h,hf,Bool.not_true,cond_false,and_self,if_true,List.drop_zero,e,Int.toNat_natCast]
 ·simp[h]
theorem abW (s:Sndr)(t:ae)(h:SO s):SO (Dz s t).1∧(Dz s t).1.fin=s.fin∧(Dz s t).1.done=s.done:=by
 unfold Dz
 split
 ·rename_i hc
  obtain⟨h1,h2,h3,h4,h5,h6,h7⟩:=h
  refine⟨⟨h1,h2, ?_,h4, ?_, ?_, ?_⟩,rfl,rfl⟩
  ·show(s.data++t.take (OW s t)).length≤48
   rw[List.length_append,List.length_take];unfold OW;omega
  ·show s.sent≤((s.data++t.take (OW s t)).length:Int)
   rw[List.length_append];omega
  ·intro hf;have:=(h6 hf).1;rw[hc.2]at this;cases this
  ·intro hd;have:=(h7 hd).1;rw[hc.2]at this;cases this
 ·exact⟨h,rfl,rfl⟩
theorem RG (c:Conn)(x:Sndr):({c with s.una:=x.una,s.data:=x.data,s.sent:=x.sent,s.fin:=x.fin,s.finSent:=x.finSent,s.done:=x.done}:Conn)={c with s:=x}:=rfl
theorem SZ (c:Conn)(x:Recv):({c with r.next:=x.next,r.data:=x.data,r.held:=x.held,r.fin:=x.fin,r.done:=x.done}:Conn)={c with r:=x}:=rfl
def tk (c:Conn)(t:ae):Conn×Int×List Segm:=
 if aI.f (c,())=true∧(c.state=1∨c.state=4)then((cG.f ({c with s:=(Dz c.s t).1},c.window,())).1,(Dz c.s t).2,(cG.f ({c with s:=(Dz c.s t).1},c.window,())).2)else(c,0,[])
theorem ach {a b:Int}(h:¬a=b):(a==b)=false:=by simpa using h
theorem TS {a b:Int}(h:¬a=b):(a != b)=true:=by simpa using h
theorem Oi (b:Bool)(k:Int):(bif !b then(true,())else bif k != 1 then(k != 4,())else(false,())).1= !decide (b=true∧(k=1∨k=4)):=by
 cases b
 ·simp
 ·by_cases h:k=1
  ·subst h;rfl
  ·by_cases h4:k=4
   ·subst h4;rfl
   ·rw[TS h,TS h4,decide_eq_false (by rintro⟨_,hh|hh⟩<;>contradiction)]
    rfl
theorem Ua (c:Conn)(t:ae)(hs:aX c.r.held):Ht.f (c,t,())=tk c t:=by
 simp only[PX,Ht,fw,Qb,kU c hs,Oi]
 unfold tk
 by_cases h:aI.f (c,())=true∧(c.state=1∨c.state=4)
 ·have hc:=(pC c).1 h.1
  have hw:c.window≤9223372036854775807:=by have:=hc.w1;have:=hc.m1;omega
  rw[decide_eq_true h,if_pos h,Bool.not_true,cond_false,RG,I7 ({c with s:=(Dz c.s t).1}:Conn) c.window hw hs]
 ·rw[decide_eq_false h,if_neg h,Bool.not_false,cond_true]
theorem QH (c:Conn)(t:ae)(h:CO c)(hs:aX c.r.held):Called c (tk c t).1 (tk c t).2.2:=by
 unfold tk
 split
 ·rename_i hc
  have hq:=abW c.s t h.snd
  refine Called.pump (c:=c) (u:=({c with s:=(Dz c.s t).1}:Conn)) ?_ rfl hs c.window
  have:=CO.sndr h (Dz c.s t).1 hq.1 c.state h.s1 h.s8 (by rcases hc.2 with e|e<;>omega) (by rw[hq.2.1,hq.2.2];exact h.fl)
  exact this
 ·exact Called.none h hs
def Gl (x:Recv)(n:Int):Nat:=(max 0 (min n (x.data.length:Int))).toNat
def tE (x:Recv)(n:Int):Recv×ae:=if bg.f (x,())=true then({x with data:=x.data.drop (Gl x n)},x.data.take (Gl x n))else(x,[])
theorem Z5 (x:Recv)(n:Int):(if(if n<(x.data.length:Int)then n else(x.data.length:Int))<0 then 0 else(if n<(x.data.length:Int)then n else(x.data.length:Int))).toNat=Gl x n:=by
 unfold Gl;congr 1;split<;>split<;>omega
theorem PS (x:Recv)(n:Int)(hs:aX x.held):zS.f (x,n,())=tE x n:=by
 simp only[PX,zS,qB,vH x hs,jE,lP]
 unfold tE
 have e:=Z5 x n
 rcases Bool.eq_false_or_eq_true (bg.f (x,()))with h|h
 ·simp[h,←e]
 ·simp[h]
theorem Wc (x:Recv)(n:Int)(h:RV x)(hs:aX x.held):RV (tE x n).1∧(tE x n).1.done=x.done∧(tE x n).1.held=x.held:=by
 unfold tE
 split
 ·refine⟨⟨h.n0,h.n1, ?_,h.hl,h.f0, ?_,h.fz, ?_,h.dn⟩,rfl,rfl⟩
  ·show(x.data.drop (Gl x n)).length≤32
   rw[List.length_drop];have:=h.dl;omega
  ·have h1:=h.f1
   have:md x≤md ({x with data:=x.data.drop (Gl x n)}:Recv):=by unfold md;simp only[List.length_drop];split<;>omega
   exact Int.le_trans h1 this
  ·have hw:md x≤md ({x with data:=x.data.drop (Gl x n)}:Recv):=by unfold md;simp only[List.length_drop];split<;>omega
   obtain⟨b,hb⟩:=h.wk
   show∃b,eb (if x.fin= -1 then md ({x with data:=x.data.drop (Gl x n)}:Recv)else x.fin) 0 x.held=some b
   by_cases hf:x.fin= -1
   ·rw[if_pos hf]at hb⊢
    have h0:=(mE x h.dl).1
    have hsub:=Er (md x) (md ({x with data:=x.data.drop (Gl x n)}:Recv)) hw x.held 0 h0
    rw[hb]at hsub
    cases hm:eb (md ({x with data:=x.data.drop (Gl x n)}:Recv)) 0 x.held with
    |some b2=>exact⟨b2,rfl⟩
    |none=>rw[hm]at hsub;cases hsub
   ·rw[if_neg hf]at hb⊢;exact⟨b,hb⟩
 ·exact⟨h,rfl,rfl⟩
theorem CO.rcvd {c:Conn}(h:CO c)(r:Recv)(hr:bg.f (r,())=true)(hd:r.done=c.r.done):CO ({c with r:=r}:Conn):=
 ⟨h.tup,h.snd,hr,h.opt,h.s1,h.s8,h.m0,h.m1,h.w0,h.w1,h.t0,h.t4,h.t3,h.r0,h.r3,by have:=h.fl;show WJ c.state c.s.fin c.s.done r.done=true;rw[hd];exact this⟩
def wE (c:Conn)(n:Int):Conn×ae×List Segm:=
 if aI.f (c,())=true then(({c with r:=(tE c.r n).1}:Conn),(tE c.r n).2,if bp.f (c.r,())=0∧bp.f ((tE c.r n).1,())≠0∧c.state≠8∧c.state≠7 then[bt.f (({c with r:=(tE c.r n).1}:Conn),())]else[])else(c,[],[])
theorem Nz (x:Mac)(h:fu.f (x,⟨false,0,0,[]⟩,())=true):x=⟨false,0,0,[]⟩:=by
 simp only[PX,fu,mZ]at h
 obtain⟨u,k,l,r⟩:=x
 cases r with
 |nil=>
  revert h
  cases hu:(u==false)<;>cases hk:(k==0)<;>cases hl:(l==0)<;>simp_all
 |cons a b=>
  have:(((a::b).length:Int) != (([]:List MacRow).length:Int))=true:=by simp;omega
  simp only[this,cond_true]at h
  revert h
  cases(u==false)<;>cases(k==0)<;>cases(l==0)<;>simp
theorem abv (x:Acti):CB.f (x,())=r8.f (x,()):=by
 obtain⟨kd,t,n,tx,mac⟩:=x
 have hs:fu.f (mac,⟨false,0,0,[]⟩,())=true→jo.f (mac,())=true:=λh=>by rw[Nz mac h];rfl
 have hz:((t.ip==0)&&((t.port==0)&&((t.my==0)&&true)))=true→az.f (t,())=true:=λh=>by
  obtain⟨a,b,c⟩:=t
  simp only[Bool.and_eq_true,beq_iff_eq,Bool.and_true]at h
  obtain⟨rfl,rfl,rfl⟩:=h
  decide+kernel
 have hx:(tx==[])=true→decide ((tx.length:Int)≤1600)=true:=λh=>by
  have:tx=[]:=by simpa using h
  subst this;rfl
 have hn:(n==0)=true→(decide (0≤n)&&decide (n≤65535))=true:=λh=>by
  have:n=0:=by simpa using h
  subst this;rfl
 have hl:decide (1600<(tx.length:Int))= !decide ((tx.length:Int)≤1600):=by
  rcases Int.lt_or_le 1600 (tx.length:Int)with h|h
  ·simp[h,show¬((tx.length:Int)≤1600) by omega]
  ·simp[h,show¬(1600<(tx.length:Int)) by omega]
 have hb:(n != 0)= !(n==0):=rfl
 have hk:kd=1∨kd=2∨kd=3∨kd=4∨kd=5∨kd=6∨kd=7∨kd=8∨((decide (1≤kd)&&decide (kd≤8))=false∧(kd==1)=false∧(kd==3)=false∧(kd==5)=false∧(kd==6)=false∧(kd==7)=false∧(kd==8)=false):=by
  by_cases h:1≤kd∧kd≤8
  ·omega
  ·refine .inr (.inr (.inr (.inr (.inr (.inr (.inr (.inr ⟨?_, ?_, ?_, ?_, ?_, ?_, ?_⟩)))))))
   ·simp only[Bool.and_eq_false_iff,decide_eq_false_iff_not];omega
   all_goals (rw[beq_eq_false_iff_ne];omega)
 simp only[Bool.and_true]at hz
 rcases hk with rfl|rfl|rfl|rfl|rfl|rfl|rfl|rfl|hk
 case inr.inr.inr.inr.inr.inr.inr.inr=>
  obtain⟨e,e1,e3,e5,e6,e7,e8⟩:=hk
  simp only[PX,CB,r8,bA,aq,e,e1,e3,e5,e6,e7,e8,cond_true,cond_false,Bool.not_false]
 all_goals
  simp only[PX,CB,r8,bA,aq,qs,EJ,Ol,Le,hl,hb,Int.reduceBEq,Int.reduceBNe,Int.reduceLE,decide_true,cond_true,cond_false,beq_self_eq_true,bne_self_eq_false,Bool.and_true,Bool.and_self,Bool.not_true,Bool.not_false]
  clear hl hb
  generalize fu.f (mac,⟨false,0,0,[]⟩,())=S at*
  generalize jo.f (mac,())=M at*
  generalize az.f (t,())=T at*
  generalize((t.ip==0)&&((t.port==0)&&(t.my==0)))=Z at*
  generalize(tx==[])=X at*
  generalize decide ((tx.length:Int)≤1600)=L at*
  generalize(decide (0≤n)&&decide (n≤65535))=NN at*
  generalize(n==0)=N0 at*
  revert S M T Z X L NN N0
  decide+kernel
theorem WL (k:Int):(bif k != 8 then(k != 7,())else(false,())).1=decide (k≠8∧k≠7):=by
 by_cases h8:k=8
 ·subst h8;rfl
 ·by_cases h7:k=7
  ·subst h7;rfl
  ·rw[TS h8,TS h7,decide_eq_true (⟨h8,h7⟩:k≠8∧k≠7)];rfl
theorem abX (w w' k:Int)(h:0≤w'):(bif w==0 then bif decide (0<w')then bif k != 8 then(k != 7,())else(false,())else(false,())else(false,())).1=decide (w=0∧w'≠0∧k≠8∧k≠7):=by
 by_cases h1:w=0
 ·by_cases h2:w'=0
  ·subst h1 h2;rfl
  ·rw[show(w==0)=true by rw[h1];rfl,decide_eq_true (show 0<w' by omega),cond_true,cond_true,WL]
   simp[h1,h2]
 ·rw[ach h1,cond_false,decide_eq_false (λhh=>h1 hh.1)]
theorem acZ (x:Recv)(n:Int)(h:RV x)(hs:aX x.held):0≤bp.f ((tE x n).1,()):=by
 have h2:=(Wc x n h hs).1.dl
 rw[f9 _ h2];exact(mE _ h2).1
theorem SC (c:Conn)(n:Int)(h:aI.f (c,())=true)(b:Bool)(hb:b=decide (bp.f (c.r,())=0∧bp.f ((tE c.r n).1,())≠0∧c.state≠8∧c.state≠7)):(bif b then(({c with r:=(tE c.r n).1}:Conn),(tE c.r n).2,[bt.f (({c with r:=(tE c.r n).1}:Conn),())])else(({c with r:=(tE c.r n).1}:Conn),(tE c.r n).2,[]))=wE c n:=by
 unfold wE
 rw[if_pos h,hb]
 split
 ·rename_i hc;rw[decide_eq_true hc];rfl
 ·rename_i hc;rw[decide_eq_false hc];rfl
theorem Xm (c:Conn)(n:Int)(hs:aX c.r.held):vf.f (c,n,())=wE c n:=by
 simp only[PX,vf,fw,PS _ _ hs,kU c hs,n5,sE]
 rcases Bool.eq_false_or_eq_true (aI.f (c,()))with h|h
 ·have hc:=(pC c).1 h
  have hr:=(lN c.r hs).1 hc.rcv
  rw[h,Bool.not_true,cond_false,abX _ _ _ (acZ c.r n hr hs),SZ]
  exact SC c n h _ rfl
 ·unfold wE;rw[h,Bool.not_false,cond_true,if_neg (by simp)]
theorem V7 (c:Conn)(n:Int)(h:CO c)(hs:aX c.r.held):Called c (wE c n).1 (wE c n).2.2:=by
 unfold wE
 split
 ·have hr:=(lN c.r hs).1 h.rcv
  have ht:=Wc c.r n hr hs
  have hh:aX (tE c.r n).1.held:=by rw[ht.2.2];exact hs
  have hc:=CO.rcvd h (tE c.r n).1 ((lN _ hh).2 ht.1) ht.2.1
  refine⟨hc,rfl,hh, ?_⟩
  intro g hg
  show ai.f (g,())=true
  revert hg
  show g∈(if _ then[_]else[])→_
  split
  ·intro hg;rw[List.mem_singleton.1 hg];exact DM _ hc hh
  ·intro hg;cases hg
 ·exact Called.none h hs
def CR (c:Conn):Conn×List Segm:=
 if aI.f (c,())=true∧(c.state=1∨c.state=4)then cG.f (({c with state:=if c.state=1 then 2 else 6,s.fin:=true}:Conn),c.window,())else(c,[])
theorem Ya (c:Conn)(hs:aX c.r.held):O3.f (c,())=CR c:=by
 simp only[PX,O3,fw,kU c hs,Oi]
 unfold CR
 by_cases h:aI.f (c,())=true∧(c.state=1∨c.state=4)
 ·have hc:=(pC c).1 h.1
  have hw:c.window≤9223372036854775807:=by have:=hc.w1;have:=hc.m1;omega
  rw[decide_eq_true h,if_pos h,Bool.not_true,cond_false]
  rcases h.2 with e|e
  ·have e4:(c.state==4)=false:=by rw[e];rfl
   rw[e4,cond_false,if_pos e,I7 ({c with state:=2,s.fin:=true}:Conn) c.window hw hs]
  ·have e4:(c.state==4)=true:=by rw[e];rfl
   rw[e4,cond_true,if_neg (by omega),I7 ({c with state:=6,s.fin:=true}:Conn) c.window hw hs]
 ·rw[decide_eq_false h,if_neg h,Bool.not_false,cond_true]
theorem WI (c:Conn)(h:CO c)(hs:aX c.r.held):Called c (CR c).1 (CR c).2:=by
 unfold CR
 split
 ·rename_i hc
  refine Called.pump (c:=c) (u:=({c with state:=if c.state=1 then 2 else 6,s.fin:=true}:Conn)) ?_ rfl hs c.window
  have hl:=Zz h.fl hc.2
  have hso:SO ({c.s with fin:=true}:Sndr):=by
   obtain⟨h1,h2,h3,h4,h5,h6,h7⟩:=h.snd
   refine⟨h1,h2,h3,h4,h5,λhf=>⟨rfl,(h6 hf).2⟩,λhd=> ?_⟩
   rw[show({c.s with fin:=true}:Sndr).done=c.s.done from rfl,hl.2]at hd;cases hd
  have hk:=ZO c.r.done c.state c.s.fin c.s.done h.fl hc.2
  exact CO.sndr h _ hso (if c.state=1 then 2 else 6) (by split<;>omega) (by split<;>omega) (by rcases hc.2 with e|e<;>omega) hk
 ·exact Called.none h hs
def vq (c:Conn):Conn×List Segm:=
 if aI.f (c,())=true∧c.state≠8 then(({c with state:=8,timer:=0,tries:=0}:Conn),[({bt.f (c,())with flags:=bits .or .i64 (bt.f (c,())).flags 4}:Segm)])else(c,[])
theorem VZ (c:Conn)(hs:aX c.r.held):Hm.f (c,())=vq c:=by
 simp only[PX,Hm,fw,kU c hs,sE]
 unfold vq
 rcases Bool.eq_false_or_eq_true (aI.f (c,()))with h|h
 ·by_cases h8:c.state=8
  ·simp[h,h8]
  ·have:(c.state==8)=false:=by simpa using h8
   rw[h,this,if_pos ⟨rfl,h8⟩];rfl
 ·rw[h,if_neg (by simp)];rfl
theorem Sc (c:Conn)(h:CO c)(hs:aX c.r.held):Called c (vq c).1 (vq c).2:=by
 unfold vq
 split
 ·have hr:=(lN c.r hs).1 h.rcv
  refine⟨CO.set h 8 0 0 (.inr rfl) (by omega) (by omega) (λ_=>by omega) (by omega) (by omega),rfl,hs,λg hg=> ?_⟩
  rw[List.mem_singleton.1 hg]
  have h2:=V6 c h.tup hr.dl ⟨hr.n0,hr.n1⟩ (ic.f (c.s,())) 20 [] (by rw[Eu];omega) (by omega) (by simp)
  have e:({bt.f (c,())with seq:=ic.f (c.s,()),flags:=20,body:=[]}:Segm)={bt.f (c,())with flags:=bits .or .i64 (bt.f (c,())).flags 4}:=by
   simp only[PX,bt]
   rw[show bits .or .i64 16 4=20 by decide+kernel]
  rw[←e];exact h2
 ·exact Called.none h hs
def sG (c:Conn)(a:Acti):Conn×Int×ae×List Segm:=
 if a.kind=5 then((tk c a.text).1,(tk c a.text).2.1,[],(tk c a.text).2.2)else if a.kind=6 then((wE c a.n).1,0,(wE c a.n).2.1,(wE c a.n).2.2)else if a.kind=7 then((CR c).1,0,[],(CR c).2)else((vq c).1,0,[],(vq c).2)
theorem Wo (c:Conn)(a:Acti)(h:CO c)(hs:aX c.r.held):Called c (sG c a).1 (sG c a).2.2.2:=by
 unfold sG
 split
 ·exact QH c _ h hs
 ·split
  ·exact V7 c _ h hs
  ·split
   ·exact WI c h hs
   ·exact Sc c h hs
def wA (t:Tabl):Tabl×Tupl×Bool:=match t.waiting with|[]=>(t,⟨0,0,0⟩,false)|w::r=>(⟨t.conns,r⟩,w,true)
theorem WO (t:Tabl):oD.f (t,())=wA t:=by
 obtain⟨cs,ws⟩:=t
 simp only[PX,oD,zT]
 cases ws with
 |nil=>rfl
 |cons w r=>
  rw[ach (show¬((w::r).length:Int)=0 by rw[List.length_cons];omega),cond_false]
  simp[wA]
def zR (b:Bool):Resu:=⟨[],0,⟨0,0,0⟩,0,[],b⟩
theorem yV (s:Stac)(c:Conn)(xs:List Segm)(r:Resu)(hx:∀g∈xs,ai.f (g,())=true):nL.f (s,c,xs,r,())=(({s with door.table:=lM (cW.f (s.door.table,c,()))}:Stac),({r with frames:=xs.flatMap (wI s.link c.tuple.ip),ok:=true}:Resu)):=by
 simp only[PX,nL,Mp,BI,uW _ _ _ hx]
def MM (s:Stac)(a:Acti):Stac×Resu:=
 if 0≤ar.f (s.door.table,a.tuple,())∧s.door.table.waiting.any (jx a.tuple)=false then
  (({s with door.table:=lM (cW.f (s.door.table,(sG (s.door.table.conns.getD (ar.f (s.door.table,a.tuple,())).toNat (Ty.zero .conn)) a).1,()))}:Stac),
   (⟨(sG (s.door.table.conns.getD (ar.f (s.door.table,a.tuple,())).toNat (Ty.zero .conn)) a).2.2.2.flatMap (wI s.link a.tuple.ip),0,⟨0,0,0⟩,(sG (s.door.table.conns.getD (ar.f (s.door.table,a.tuple,())).toNat (Ty.zero .conn)) a).2.1,(sG (s.door.table.conns.getD (ar.f (s.door.table,a.tuple,())).toNat (Ty.zero .conn)) a).2.2.1,true⟩:Resu))
 else(s,zR false)
theorem PP (d:Door)(hD:DO d)(hs:fV d)(t:Tupl)(h:0≤ar.f (d.table,t,())):∃k:Nat,ar.f (d.table,t,())=(k:Int)∧∃hk:k<d.table.conns.length,d.table.conns[k].tuple=t∧CO d.table.conns[k]∧aX d.table.conns[k].r.held:=by
 obtain⟨k,e,hk,ht⟩:=Dm d t h
 exact⟨k,e,hk,ht,hD.tab.co _ (List.getElem_mem hk),hs _ (List.getElem_mem hk)⟩
theorem Ye (s:Stac)(a:Acti)(hD:DO s.door)(hs:fV s.door):z7.f (s,a,())=MM s a:=by
 simp only[PX,z7,iy,vp]
 unfold MM
 by_cases h:0≤ar.f (s.door.table,a.tuple,())
 ·obtain⟨k,ek,hk,ht,hc,hp⟩:=PP s.door hD hs a.tuple h
  rw[show decide (ar.f (s.door.table,a.tuple,())<0)=false by rw[decide_eq_false_iff_not];omega]
  rcases Bool.eq_false_or_eq_true (s.door.table.waiting.any (jx a.tuple))with hw|hw
  ·rw[hw,cond_false,cond_true,if_neg (by simp)];rfl
  ·rw[hw,cond_false,cond_false,if_pos ⟨h,rfl⟩,ek,Int.toNat_natCast,getD_some (List.getElem?_eq_getElem hk)]
   generalize s.door.table.conns[k]=c at*
   rw[Ua c _ hp,Xm c _ hp,Ya c hp,VZ c hp]
   have w1:=QH c a.text hc hp
   have w2:=V7 c a.n hc hp
   have w3:=WI c hc hp
   have w4:=Sc c hc hp
   rw[yV s _ _ _ w1.sg,yV s _ _ _ w2.sg,yV s _ _ _ w3.sg,yV s _ _ _ w4.sg,w1.tu,w2.tu,w3.tu,w4.tu,ht]
   unfold sG
   by_cases h5:a.kind=5
   ·rw[if_pos h5,show(a.kind==5)=true by simpa using h5];rfl
   ·rw[if_neg h5,show(a.kind==5)=false by simpa using h5,cond_false]
    by_cases h6:a.kind=6
    ·rw[if_pos h6,show(a.kind==6)=true by simpa using h6];rfl
    ·rw[if_neg h6,show(a.kind==6)=false by simpa using h6,cond_false]
     by_cases h7:a.kind=7
     ·rw[if_pos h7,show(a.kind==7)=true by simpa using h7];rfl
     ·rw[if_neg h7,show(a.kind==7)=false by simpa using h7];rfl
 ·rw[show decide (ar.f (s.door.table,a.tuple,())<0)=true by rw[decide_eq_true_eq];omega,if_neg (λhh=>h hh.1)];rfl
def pa (s:Stac)(a:Acti):Stac×Resu:=
 if bL.f (s,())=true∧r8.f (a,())=true then
  if a.kind=1 then((pA s a.text).1,(⟨(pA s a.text).2.1,(pA s a.text).2.2,⟨0,0,0⟩,0,[],true⟩:Resu))
  else if a.kind=2 then((Kt s).1,(⟨(Kt s).2,0,⟨0,0,0⟩,0,[],true⟩:Resu))
  else if a.kind=3 then((⟨s.link,jX.f (s.door,a.mac,())⟩:Stac),zR true)
  else if a.kind=4 then(({s with door.table:=lM (wA s.door.table).1}:Stac),(⟨[],0,(wA s.door.table).2.1,0,[],(wA s.door.table).2.2⟩:Resu))
  else MM s a
 else(s,zR false)
theorem IC {A:Type}(k:Int)(x1 x2 x3 x4 x5:A):(bif k==1 then x1 else bif k==2 then x2 else bif k==3 then x3 else bif k==4 then x4 else x5)=if k=1 then x1 else if k=2 then x2 else if k=3 then x3 else if k=4 then x4 else x5:=by
 by_cases h1:k=1
 ·subst h1;rfl
 ·rw[if_neg h1,show(k==1)=false by simpa using h1,cond_false]
  by_cases h2:k=2
  ·subst h2;rfl
  ·rw[if_neg h2,show(k==2)=false by simpa using h2,cond_false]
   by_cases h3:k=3
   ·subst h3;rfl
   ·rw[if_neg h3,show(k==3)=false by simpa using h3,cond_false]
    by_cases h4:k=4
    ·subst h4;rfl
    ·rw[if_neg h4,show(k==4)=false by simpa using h4,cond_false]
theorem Wj (a b:Bool):(bif !a then(true,())else(!b,())).1= !decide (a=true∧b=true):=by cases a<;>cases b<;>rfl
theorem Yk (s:Stac)(a:Acti)(hs:fV s.door)(hl:s.door.halves.length≤4294967296)(hr:a.text.length≤4294967296):JQ.f (s,a,())=pa s a:=by
 simp only[PX,JQ,zc,Po s a.text hr hs hl,ua s hs,abv,SD,WO,BI,Wj,IC]
 unfold pa
 by_cases h:bL.f (s,())=true∧r8.f (a,())=true
 ·have hD:=(iG s.door).1 ((cx s).1 h.1).2
  rw[decide_eq_true h,if_pos h,Bool.not_true,cond_false,Jy s h.1 hs,Ye s a hD hs]
  rfl
 ·rw[decide_eq_false h,if_neg h,Bool.not_false,cond_true];rfl
theorem TO.take {t:Tabl}{l:Limi}(h:TO t l):TO (wA t).1 l:=by
 obtain⟨cs,ws⟩:=t
 unfold wA
 cases ws with
 |nil=>exact h
 |cons w r=>
  have h2:=h.nw
  have h3:=h.dw
  simp only[List.length_cons,List.nodup_cons]at h2 h3
  exact⟨h.lim,h.nc,by show(r.length:Int)≤_;omega,h.co,h.dc,h3.2,λx hx=>h.wc x (List.mem_cons_of_mem _ hx)⟩
theorem UT (t:Tabl):(wA t).1.conns=t.conns:=by
 obtain⟨cs,ws⟩:=t
 cases ws<;>rfl
theorem O5 (d:Door)(m:Mac):jX.f (d,m,())={d with keys:=oe.f (d.keys,m,())}:=by
 simp only[PX,jX,jO]
theorem abt (s:Stac)(a:Acti)(hs:fV s.door)(hr:a.text.length≤4294967296)(h:bL.f (s,())=true):bL.f ((pa s a).1,())=true:=by
 unfold pa
 split
 ·have hk:=(cx s).1 h
  have hD:=(iG s.door).1 hk.2
  split
  ·exact Lj s a.text hr hs h
  ·split
   ·exact OG s h
   ·split
    ·rw[cx]
     refine⟨hk.1,(iG _).2 ?_⟩
     rw[O5]
     exact⟨hD.port,hD.c0,hD.c1,VD _ _ hD.keys,hD.tab,hD.hal,hD.nh,hD.k0,hD.k1,hD.ap⟩
    ·split
     ·rw[cx]
      refine⟨hk.1,(iG _).2 (hD.tabl _ (QP _ _ hD.tab.take) λx hx=> ?_)⟩
      have:=MD _ x hx
      rw[UT]at this;exact this
     ·unfold MM
      split
      ·rename_i hc
       obtain⟨k,ek,hk2,ht,hco,hp⟩:=PP s.door hD hs a.tuple hc.1
       rw[ek,Int.toNat_natCast,getD_some (List.getElem?_eq_getElem hk2),cx]
       have ho:=Wo s.door.table.conns[k] a hco hp
       refine⟨hk.1,(iG _).2 ?_⟩
       have e:=ql s.door.table (sG s.door.table.conns[k] a).1 hD.tab.dc k hk2 ho.tu
       refine hD.tabl _ (QP _ _ ?_) λx hx=> ?_
       ·rw[e];exact TO.set hD.tab k _ ho.co hk2 ho.tu
       ·have:=MD _ x hx
        rw[e]at this
        have h2:x∈(s.door.table.conns.set k (sG s.door.table.conns[k] a).1).map Conn.tuple:=this
        rw[Wh _ _ _ hk2 ho.tu]at h2;exact h2
      ·exact h
 ·exact h
theorem abq (s:Sndr)(t:ae)(h:s.data.length≤48):(if IntKind.wrap .i64 (48-(s.data.length:Int))<(t.length:Int)then IntKind.wrap .i64 (48-(s.data.length:Int))else(t.length:Int))=(OW s t:Int):=by
 rw[aj (by omega) (by omega)];unfold OW;split<;>omega
theorem abg (a b:Bool):(bif !a then(true,())else(b,())).1= !decide (a=true∧b=false):=by cases a<;>cases b<;>rfl
theorem Sb (s:Sndr)(t:ae):B6.f (s,t,())=Dz s t:=by
 simp only[PX,B6,abg]
 unfold Dz
 by_cases h:ba.f (s,())=true∧s.fin=false
 ·have hs:=(xP s).1 h.1
  have e:=abq s t hs.2.2.1
  rw[decide_eq_true h,if_pos h,Bool.not_true,cond_false]
  simp only[e,List.drop_zero,Int.toNat_natCast]
 ·rw[decide_eq_false h,if_neg h,Bool.not_false,cond_true]
theorem UQ (c:Conn)(t:ae):Hg.f (c,t,())=tk c t:=by
 simp only[PX,Hg,bX,Sb,Oi]
 unfold tk
 by_cases h:aI.f (c,())=true∧(c.state=1∨c.state=4)
 ·rw[decide_eq_true h,if_pos h,Bool.not_true,cond_false,RG]
 ·rw[decide_eq_false h,if_neg h,Bool.not_false,cond_true]
theorem OL (x:Recv)(n:Int):zH.f (x,n,())=tE x n:=by
 simp only[PX,zH,pG]
 unfold tE
 rcases Bool.eq_false_or_eq_true (bg.f (x,()))with h|h
 ·have e:(if 0<(if(x.data.length:Int)<n then(x.data.length:Int)else n)then(if(x.data.length:Int)<n then(x.data.length:Int)else n)else 0).toNat=Gl x n:=by
   unfold Gl;congr 1;split<;>split<;>omega
  simp[h,←e]
 ·simp[h]
theorem ZF (w w' k:Int):(bif w==0 then bif w' != 0 then bif k != 8 then(k != 7,())else(false,())else(false,())else(false,())).1=decide (w=0∧w'≠0∧k≠8∧k≠7):=by
 by_cases h1:w=0
 ·by_cases h2:w'=0
  ·subst h1 h2;rfl
  ·rw[show(w==0)=true by rw[h1];rfl,TS h2,cond_true,cond_true,WL]
   simp[h1,h2]
 ·rw[ach h1,cond_false,decide_eq_false (λhh=>h1 hh.1)]
theorem XN (c:Conn)(n:Int):uQ.f (c,n,())=wE c n:=by
 simp only[PX,uQ,bX,OL]
 rcases Bool.eq_false_or_eq_true (aI.f (c,()))with h|h
 ·rw[h,Bool.not_true,cond_false,ZF,SZ]
  exact SC c n h _ rfl
 ·unfold wE;rw[h,Bool.not_false,cond_true,if_neg (by simp)]
theorem WV (c:Conn):PR.f (c,())=CR c:=by
 simp only[PX,PR,bX]
 unfold CR
 rcases Bool.eq_false_or_eq_true (aI.f (c,()))with h|h
 ·rw[h,Bool.not_true,cond_false]
  by_cases h1:c.state=1
  ·have e:(c.state==1)=true:=by rw[h1];rfl
   rw[e,cond_true,if_pos ⟨rfl,.inl h1⟩,if_pos h1]
   rfl
  ·have e:(c.state==1)=false:=by simpa using h1
   rw[e,cond_false]
   by_cases h4:c.state=4
   ·have e4:(c.state==4)=true:=by rw[h4];rfl
    rw[e4,cond_true,if_pos ⟨rfl,.inr h4⟩,if_neg h1]
    rfl
   ·have e4:(c.state==4)=false:=by simpa using h4
    rw[e4,cond_false,if_neg (by rintro⟨_,h|h⟩;exact h1 h;exact h4 h)]
    rfl
 ·rw[h,Bool.not_false,cond_true,if_neg (by simp)]
theorem Un (c:Conn):Hn.f (c,())=vq c:=by
 simp only[PX,Hn,bX]
 unfold vq
 rcases Bool.eq_false_or_eq_true (aI.f (c,()))with h|h
 ·by_cases h8:c.state=8
  ·simp[h,h8]
  ·have:(c.state==8)=false:=by simpa using h8
   rw[h,this,if_pos ⟨rfl,h8⟩];rfl
 ·rw[h,if_neg (by simp)];rfl
theorem U9 {A:Type}(k:Int)(x1 x2 x3 x4:A):(bif k==5 then x1 else bif k==6 then x2 else bif k==7 then x3 else x4)=if k=5 then x1 else if k=6 then x2 else if k=7 then x3 else x4:=by
 by_cases h1:k=5
 ·subst h1;rfl
 ·rw[if_neg h1,show(k==5)=false by simpa using h1,cond_false]
  by_cases h2:k=6
  ·subst h2;rfl
  ·rw[if_neg h2,show(k==6)=false by simpa using h2,cond_false]
   by_cases h3:k=7
   ·subst h3;rfl
   ·rw[if_neg h3,show(k==7)=false by simpa using h3,cond_false]
theorem LL (c:Conn)(a:Acti):vg.f (c,a,())=sG c a:=by
 simp only[PX,vg,UQ,XN,WV,Un,U9]
 rfl
theorem Yl (t:Tabl):ou.f (t,())=wA t:=by
 obtain⟨cs,ws⟩:=t
 simp only[PX,ou,iL]
 cases ws with
 |nil=>rfl
 |cons w r=>
  rw[ach (show¬((w::r).length:Int)=0 by rw[List.length_cons];omega),cond_false]
  simp[wA]
theorem Yt (s:Stac)(a:Acti)(hs:fV s.door)(hl:s.door.halves.length≤4294967296)(hr:a.text.length≤4294967296):Ep.f (s,a,())=pa s a:=by
 simp only[PX,Ep,vY,Pm s a.text hs hl,Yl,Wj,IC,LL,uX,BR]
 unfold pa
 by_cases h:bL.f (s,())=true∧r8.f (a,())=true
 case neg=>rw[decide_eq_false h,if_neg h,Bool.not_false,cond_true];rfl
 have hD:=(iG s.door).1 ((cx s).1 h.1).2
 have t:=hD.tab
 have a2:=t.lim.w2
 have a3:=t.lim.c2
 have a4:=t.nc
 have a5:=t.nw
 have hta:=hD.tab.take
 have e1:sD.f ((wA s.door.table).1,())=lM (wA s.door.table).1:=BK _ (by have:=hta.nc;omega) (by have:=hta.nw;omega)
 rw[decide_eq_true h,if_pos h,Bool.not_true,cond_false,IJ s h.1,e1]
 congr 1
 congr 1
 congr 1
 congr 1
 unfold MM
 by_cases hf:0≤ar.f (s.door.table,a.tuple,())
 case neg=>rw[show decide (ar.f (s.door.table,a.tuple,())<0)=true by rw[decide_eq_true_eq];omega,if_neg (λhh=>hf hh.1)];rfl
 obtain⟨k,ek,hk,ht,hc,hp⟩:=PP s.door hD hs a.tuple hf
 rw[show decide (ar.f (s.door.table,a.tuple,())<0)=false by rw[decide_eq_false_iff_not];omega]
 rcases Bool.eq_false_or_eq_true (s.door.table.waiting.any (jx a.tuple))with hw|hw
 ·rw[hw,cond_false,cond_true,if_neg (by simp)];rfl
 rw[hw,cond_false,cond_false,if_pos ⟨hf,rfl⟩,ek,Int.toNat_natCast,getD_some (List.getElem?_eq_getElem hk)]
 have ho:=Wo s.door.table.conns[k] a hc hp
 have e:=ql s.door.table (sG s.door.table.conns[k] a).1 hD.tab.dc k hk ho.tu
 have e2:sD.f (cW.f (s.door.table,(sG s.door.table.conns[k] a).1,()),())=lM (cW.f (s.door.table,(sG s.door.table.conns[k] a).1,())):=BK _ (by rw[e,List.length_set];omega) (by rw[e];show s.door.table.waiting.length≤_;omega)
 rw[e2]
theorem Li {s:Stac}(h:aW s):fV s.door∧s.door.halves.length≤4294967296:=by
 refine⟨Xo h.2, ?_⟩
 have:=h.2
 grind
theorem va {a:Acti}(h:cU a):a.text.length≤4294967296:=h.1
theorem Wb (s:Stac)(a:Acti)(hs:aW s)(ha:cU a):Ep.f (s,a,())=pa s a∧JQ.f (s,a,())=pa s a∧aW (pa s a).1∧mR (pa s a).2∧nN.f (s,())=bL.f (s,())∧(bL.f (s,())=true→bL.f ((pa s a).1,())=true):=by
 obtain⟨h1,h2⟩:=Li hs
 have h3:=va ha
 have e:=Yt s a h1 h2 h3
 have h:=Ep.c.h (s,a,()) ⟨hs,ha⟩
 simp only[PX]at h
 rw[e]at h
 exact⟨e,Yk s a h1 h2 h3,h.1,h.2,ua s h1,abt s a h1 h3⟩
theorem Ar {P:Prop}(h:(0:Int)=2):P:=absurd h (by decide)
theorem W8 (d:Door)(k:Nat)(g:Segm):(DP d k g).2.2=0:=by
 unfold DP;(repeat' split)<;>rfl
theorem XC (d:Door)(src:Int)(g:Segm)(h:(GL d src g).2.2=2):(bC.f (d.keys,tB src g,(g.seq+ -1)%4294967296,(g.ack+ -1)%4294967296,())).2.2=true:=by
 revert h
 unfold GL
 split
 case isFalse=>intro h;exact Ar h
 split
 ·intro h;exact Ar h
 split
 ·intro h;rw[W8]at h;exact Ar h
 cases bk.f (g,4,())with
 |true=>intro h;exact Ar h
 |false=>
  simp only[cond_false]
  cases(bk.f (g,2,())&&(!bk.f (g,16,())&& !bk.f (g,1,())))with
  |true=>intro h;exact Ar h
  |false=>
   simp only[cond_false]
   cases(bk.f (g,16,())&& !bk.f (g,2,()))with
   |true=>
    intro h
    rcases WQ d (tB src g) g with⟨h0,_⟩|⟨_,_,⟨h1,_⟩|⟨_,_,h2⟩⟩
    ·simp only[cond_true]at h;rw[h0]at h;exact Ar h
    ·simp only[cond_true]at h;rw[h1]at h;exact absurd h (by decide)
    ·exact h2
   |false=>
    simp only[cond_false]
    cases bk.f (g,16,())<;>(intro h;exact Ar h)
def opP (raw:ae):Pack:=(kS (dJ raw).1.body).1
def Zi (raw:ae):Segm×Bool:=bD.f ((opP raw).body,(opP raw).src,(opP raw).dst,())
def SH (raw:ae):Issu:=⟨tB (opP raw).src (Zi raw).1,((Zi raw).1.seq+ -1)%4294967296,((Zi raw).1.ack+ -1)%4294967296⟩
theorem Sm (s:Stac)(raw:ae)(hr:raw.length≤4294967296)(h:(pA s raw).2.2=2):(dJ raw).2=true∧(kS (dJ raw).1.body).2=0∧(Zi raw).2=true∧(bC.f (s.door.keys,(SH raw).tuple,(SH raw).seq,(SH raw).cookie,())).2.2=true:=by
 obtain⟨k,n,p,t,e,hc⟩:=BH s.link raw hr
 revert h
 simp only[pA,e]
 cases bL.f (s,())with
 |false=>intro h;exact Ar h
 |true=>
  simp only[Bool.not_true,cond_false]
  cases h1:(n==1)with
  |true=>intro h;exact Ar h
  |false=>
   cases h2:(n != 2)with
   |true=>intro h;exact Ar h
   |false=>
    have hn:n=2:=by simpa using h2
    simp only[cond_false]
    cases h3:(bD.f (p.body,p.src,p.dst,())).2 with
    |false=>intro h;exact Ar h
    |true=>
     simp only[Bool.not_true,cond_false]
     intro h
     have hk:Pkt s.link raw k p:=by
      rcases hc with⟨_,h0,_⟩|⟨_,_,_,h0,_⟩|⟨_,h0⟩
      ·omega
      ·omega
      ·exact h0
     have hp:opP raw=p:=by unfold opP;rw[hk.hP]
     have hg:Zi raw=bD.f (p.body,p.src,p.dst,()):=by unfold Zi;rw[hp]
     refine⟨hk.hF,by rw[hk.hP],by rw[hg];exact h3, ?_⟩
     unfold SH
     rw[hg,hp]
     exact XC _ _ _ h
theorem JM (s:Stac)(a:Acti)(hr:a.text.length≤4294967296)(h:(pa s a).2.made=2):(dJ a.text).2=true∧(kS (dJ a.text).1.body).2=0∧(Zi a.text).2=true∧(bC.f (s.door.keys,(SH a.text).tuple,(SH a.text).seq,(SH a.text).cookie,())).2.2=true:=by
 revert h
 unfold pa
 split
 case isFalse=>intro h;exact Ar h
 split
 ·exact Sm s a.text hr
 split
 ·intro h;exact Ar h
 split
 ·intro h;exact Ar h
 split
 ·intro h;exact Ar h
 unfold MM
 split<;>(intro h;exact Ar h)
def aav (s:Stac)(a:Acti):Issu×Bool:=if(pa s a).2.made=2 then(SH a.text,true)else(⟨⟨0,0,0⟩,0,0⟩,false)
theorem VM (raw:ae)(hs:raw.length≤4294967296)(h1:(dJ raw).2=true)(h2:(kS (dJ raw).1.body).2=0):DF.f (raw,())=(opP raw,(Zi raw).1,(Zi raw).2):=by
 have hb:=tQ raw
 simp only[PX,DF,rc raw hs]
 rw[pI (dJ raw).1.body (by omega),h1,h2]
 rfl
theorem UJ (raw:ae)(hs:raw.length≤4294967296)(h1:(dJ raw).2=true)(h2:(kS (dJ raw).1.body).2=0):zB.f (raw,())=(opP raw,(Zi raw).1,(Zi raw).2):=by
 have hb:=tQ raw
 have hb2:=MP (dJ raw).1.body
 simp only[PX,zB,xp raw hs]
 rw[xe (dJ raw).1.body (by omega),A1 _ _ _ (by omega),h1,h2]
 rfl
theorem Lk (s:Stac)(a:Acti)(hr:a.text.length≤4294967296):vI.f (a,(pa s a).2,())=aav s a:=by
 simp only[PX,vI]
 unfold aav
 by_cases h:(pa s a).2.made=2
 ·obtain⟨h1,h2,h3,_⟩:=JM s a hr h
  rw[h,if_pos rfl,VM a.text hr h1 h2,h3]
  simp only[DK,bz,bne_self_eq_false,cond_false,Bool.not_true]
  rfl
 ·rw[if_neg h,TS h,cond_true]
theorem La (s:Stac)(a:Acti)(hs:aW s)(ha:cU a):pT.f (s,a,())=aav s a:=by
 have hr:=va ha
 obtain⟨_,h2,_⟩:=Wb s a hs ha
 simp only[PX,pT,h2]
 unfold aav
 by_cases h:(pa s a).2.made=2
 ·obtain⟨h1,h2,h3,_⟩:=JM s a hr h
  rw[h,if_pos rfl,UJ a.text hr h1 h2]
  simp only[MK,iZ,bz,bne_self_eq_false,cond_false]
  rfl
 ·rw[if_neg h,TS h,cond_true]
theorem Ln (s:Stac)(a:Acti)(hs:aW s)(ha:cU a):qm.f (s,a,())=aav s a:=by
 obtain⟨h1,_⟩:=Wb s a hs ha
 simp only[PX,qm,h1,Lk s a (va ha)]
theorem Dk (x:Tupl):od.f (x,())=x:=by simp only[PX,od]
theorem Js (x:Opti):pb.f (x,())=x:=by simp only[PX,pb]
theorem abO (x:Half):Cd.f (x,())=x:=by simp only[PX,Cd,Dk,Js]
theorem YE (x:List Entr):vE.f (x,())=x:=by
 simp only[PX,vE,iV,aA,ac]
 rw[bu x _ rfl (F:=λj y a=> .next (a.set j y)) (λj y a h=>by simp only[PX,wt,EH,ac,getD_some h])]
 rw[lH (W:=Empty) (λy:Entr=>y) x 0 _ (by simp)]
 simp[Stp.elim]
theorem Yq (x:List Tupl):uZ.f (x,())=x:=by
 simp only[PX,uZ,iU,aA,ac]
 rw[bu x _ rfl (F:=λj y a=> .next (a.set j y)) (λj y a h=>by simp only[PX,wD,Dk,ac,getD_some h])]
 rw[lH (W:=Empty) (λy:Tupl=>y) x 0 _ (by simp)]
 simp[Stp.elim]
theorem Zd (x:List Half):zJ.f (x,())=x:=by
 simp only[PX,zJ,jZ,aA,ac]
 rw[bu x _ rfl (F:=λj y a=> .next (a.set j y)) (λj y a h=>by simp only[PX,yc,abO,ac,getD_some h])]
 rw[lH (W:=Empty) (λy:Half=>y) x 0 _ (by simp)]
 simp[Stp.elim]
theorem XG (x:List Piec):vD.f (x,())=x:=by
 simp only[PX,vD,iW,aA,ac]
 rw[bu x _ rfl (F:=λj y a=> .next (a.set j y)) (λj y a h=>by simp only[PX,wX,Es,ac,getD_some h])]
 rw[lH (W:=Empty) (λy:Piec=>y) x 0 _ (by simp)]
 simp[Stp.elim]
theorem WZ (x:Sndr):uO.f (x,())=x:=by simp only[PX,uO]
theorem SI (x:Recv):qh.f (x,())=x:=by simp only[PX,qh,XG]
theorem abJ (x:Conn):CK.f (x,())=x:=by simp only[PX,CK,Dk,Js,WZ,SI]
theorem Y7 (x:List Conn):y8.f (x,())=x:=by
 simp only[PX,y8,jD,aA,ac]
 rw[bu x _ rfl (F:=λj y a=> .next (a.set j y)) (λj y a h=>by simp only[PX,xV,abJ,ac,getD_some h])]
 rw[lH (W:=Empty) (λy:Conn=>y) x 0 _ (by simp)]
 simp[Stp.elim]
theorem abM (x:Keys):CM.f (x,())=x:=by simp only[PX,CM,ZP]
theorem Ze (x:Tabl):zC.f (x,())=x:=by simp only[PX,zC,Y7,Yq]
theorem abK (x:Door):Cj.f (x,())=x:=by simp only[PX,Cj,abM,WR,Zd,Ze]
theorem abC (x:Link):Ce.f (x,())=x:=by simp only[PX,Ce,YE]
theorem aaA (x:Stac):qw.f (x,())=x:=by simp only[PX,qw,abC,abK]
theorem adl (x:Acti):zh.f (x,())=x:=by simp only[PX,zh,Dk,ZP]
theorem aeb (x:Acti):Hq.f (x,x,())=true:=by simp only[PX,Hq,Dg,acD,bne_self_eq_false,beq_self_eq_true,Bool.not_true,cond_false]
theorem ab3 (x:Issu):zO.f (x,x,())=true:=by simp only[PX,zO,Dg,bne_self_eq_false,Bool.not_true,cond_false]
set_option maxHeartbeats 1000000 in theorem Ah (x0:Stac)(x1:Acti)(hf:cJ [.st .stac,.st .acti] (x0,x1,())):kJ.f (x0,x1,())=true:=by
 simp only[cJ,Pk.fact,jt,hY,Fl.fact,Ty.fl,Ty.toH]at hf
 obtain⟨⟨_,_,⟨hc,_⟩,_,_,_,_,_,_,⟨n1,n2⟩,_,_,_,⟨m1,m2⟩,_,_,_,_,_,⟨hh,_⟩,⟨hl,he⟩,⟨hw,_⟩,_⟩,⟨_,_,_,_,_,ht,_,_,_,⟨hr,hq⟩,_⟩,_⟩:=hf
 refine Eq.trans (b:=bif decide (fv.f (x0,1048576,())<0)then true else bif decide (r9.f (x1,fv.f (x0,1048576,()),())<0)then true else Tr.nice _) rfl ?_
 rcases Bool.eq_false_or_eq_true (decide (fv.f (x0,1048576,())<0))with hz|hz
 ·rw[hz,cond_true]
 have k1:0≤fv.f (x0,1048576,()):=by simpa using hz
 have hS:=Mg x0 1048576 (by omega) (by omega) hc n1 n2 m1 m2 hh hl he hw k1
 rcases Bool.eq_false_or_eq_true (decide (r9.f (x1,fv.f (x0,1048576,()),())<0))with hz2|hz2
 ·rw[hz,cond_false,hz2,cond_true]
 have hA:=(WH x1 _ k1 (by omega) ht hr hq (by simpa using hz2)).2
 have e1:=La x0 x1 hS.2 hA
 have e2:=Ln x0 x1 hS.2 hA
 rw[hz,cond_false,hz2,cond_false]
 simp only[aaA,adl,e1,e2,abj,aeb,ab3,beq_self_eq_true,Bool.not_true,cond_false,PX]

end
end Go.Proofs.YtfpdenjmlnhnnaaGreat
