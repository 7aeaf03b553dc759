/-
  Contracts of functions and plain laws (printed by a program): each theorem says what a function of the program returns; conditions are its hypotheses.
-/
import Derived.Test.YtfpdenjmlnhnnaaGreatDoorDK1
set_option linter.all false
set_option maxRecDepth 4000
namespace Go.Proofs.YtfpdenjmlnhnnaaGreatDoor
open Go Go.RowKit
noncomputable section
theorem un (n:Nat)(h:n≤4294967295):(cp n).length≤15:=by
 unfold cp
 have h1:=jO (n/16777216) (by omega)
 have h2:=jO (n/65536%256) (by omega)
 have h3:=jO (n/256%256) (by omega)
 have h4:=jO (n%256) (by omega)
 simp only[List.length_append,List.length_cons]
 omega
theorem pF (p:aa)(hp:p.length≤4294967296):(∃n:Nat,n≤4294967295∧dM.f (p,())=((n:Int),true)∧cp n=p)∨(dM.f (p,())=(0,false)∧∀n,n≤4294967295→cp n≠p):=by
 rcases pJ p hp with⟨a,b,c,d,hc,ga,gb,gc,gd,hi⟩|⟨hb,hi⟩
 ·have e:∀w,dP w=true→val w 0≤255∧iY w=true:=λw h=>by simp only[dP,Bool.and_eq_true,decide_eq_true_eq]at h;exact⟨h.2,h.1⟩
  have ea:=(e a ga).1
  have eb:=(e b gb).1
  have ec:=(e c gc).1
  have ed:=(e d gd).1
  refine .inl ⟨_, ?_,hi, ?_⟩
  ·unfold gS;omega
  ·have hj:=iP 46 p []
   rw[hc,List.nil_append]at hj
   rw[←hj]
   have n1:gS (val a 0) (val b 0) (val c 0) (val d 0)/16777216=val a 0:=by unfold gS;omega
   have n2:gS (val a 0) (val b 0) (val c 0) (val d 0)/65536%256=val b 0:=by unfold gS;omega
   have n3:gS (val a 0) (val b 0) (val c 0) (val d 0)/256%256=val c 0:=by unfold gS;omega
   have n4:gS (val a 0) (val b 0) (val c 0) (val d 0)%256=val d 0:=by unfold gS;omega
   unfold cp
   rw[n1,n2,n3,n4,cQ (e a ga).2,cQ (e b gb).2,cQ (e c gc).2,cQ (e d gd).2]
   rfl
 ·refine .inr ⟨hi,λn hn he=>hb ?_⟩
  rw[←he]
  exact sj n hn
theorem mr (p:aa):(∃n:Nat,cI.f (p,())=((n:Int),true)∧bB n=p)∨(cI.f (p,())=(0,false)∧∀n,n≤65535→bB n≠p):=by
 rw[←nY,jL]
 cases h:iY p with
 |true=>exact .inl ⟨val p 0,rfl,cQ h⟩
 |false=>
  refine .inr ⟨rfl,λn hn he=> ?_⟩
  have:=wN (n:=n) (by omega)
  rw[he,h]at this
  cases this
theorem xM (s:aa)(hs:s.length≤4294967296):dq.f (s,())=aw.f (s,()):=by
 have hp:=lz s 58 hs
 have hq:=gm s 58 hs
 rw[show(((58:UInt8).toNat:Nat):Int)=58 from rfl]at hp hq
 have hl:=n8 58 s []
 have hj:=iP 58 s []
 rw[List.nil_append]at hj
 simp only[PX,dq,aw]
 rw[hp,hq]
 have hc:=λa b c (h:ij a b c=s)=>(congrArg (λx=>eY 58 x []) h).symm.trans (uR a b c)
 have hnil:s=[]→eY 58 s []=[[]]:=λh=>by rw[h];rfl
 generalize eY 58 s []=ws at*
 by_cases h3:ws.length=3
 ·match ws,h3 with
  |[p0,p1,p2],_=>
   simp only[show(((([p0,p1,p2]:List aa).length:Nat):Int) != 3)=false from rfl,cond_false,PX,List.getD_cons_zero,List.getD_cons_succ,nY]
   have l0:p0.length≤4294967296:=by have:=hl p0 (by simp);simp at this;omega
   rw[Ad p0 l0]
   have hss:s=p0++58::(p1++58::p2):=hj.symm
   rcases pF p0 l0 with⟨a,ha,e0,t0⟩|⟨e0,t0⟩
   ·rcases mr p1 with⟨b,e1,t1⟩|⟨e1,t1⟩
    ·rcases mr p2 with⟨c,e2,t2⟩|⟨e2,t2⟩
     ·rw[e0,e1,e2]
      simp only[Bool.not_true,cond_false]
      cases ht:aG.f (⟨a,b,c⟩,())with
      |false=>
       rw[eQ _ ht]
       have:(([]:aa)==s)=false:=by
        rw[beq_eq_false_iff_ne,hss]
        intro h
        simp at h
       simp only[this,Bool.not_false,cond_true]
      |true=>
       have ht':=ht
       rw[eg]at ht'
       simp only[Bool.and_eq_true,decide_eq_true_eq]at ht'
       rw[eW a b c (by omega) (by omega) (by omega)]
       have:ij a b c=s:=by unfold ij;rw[t0,t1,t2,hss]
       simp only[this,beq_self_eq_true,Bool.not_true,cond_false]
     ·rw[e0,e1,e2]
      have key:(bD.f (⟨a,b,0⟩,())==s)=false:=by
       rw[beq_eq_false_iff_ne]
       intro he
       cases ht:aG.f (⟨a,b,0⟩,())with
       |false=>rw[eQ _ ht]at he;have:=hnil he.symm;simp at this
       |true=>
        rw[eg]at ht
        simp only[Bool.and_eq_true,decide_eq_true_eq]at ht
        rw[show(0:Int)=((0:Nat):Int) from rfl,eW a b 0 (by omega) (by omega) (by omega)]at he
        have:=hc a b 0 he
        simp only[List.cons.injEq]at this
        exact t2 0 (by omega) this.2.2.1.symm
      simp only[key,Bool.not_true,Bool.not_false,cond_false,cond_true]
    ·rw[e0,e1]
     have key:∀c:Int,(bD.f (⟨a,0,c⟩,())==s)=false:=λc=>by
      rw[beq_eq_false_iff_ne]
      intro he
      cases ht:aG.f (⟨a,0,c⟩,())with
      |false=>rw[eQ _ ht]at he;have:=hnil he.symm;simp at this
      |true=>
       rw[eg]at ht
       simp only[Bool.and_eq_true,decide_eq_true_eq]at ht
       obtain⟨c,rfl⟩:=Int.eq_ofNat_of_zero_le ht.2.2.1
       rw[show(0:Int)=((0:Nat):Int) from rfl,eW a 0 c (by omega) (by omega) (by omega)]at he
       have:=hc a 0 c he
       simp only[List.cons.injEq]at this
       exact t1 0 (by omega) this.2.1.symm
     simp only[key,Bool.not_true,Bool.not_false,cond_false,cond_true]
   ·rw[e0]
    have key:∀b c:Int,(bD.f (⟨0,b,c⟩,())==s)=false:=λb c=>by
     rw[beq_eq_false_iff_ne]
     intro he
     cases ht:aG.f (⟨0,b,c⟩,())with
     |false=>rw[eQ _ ht]at he;have:=hnil he.symm;simp at this
     |true=>
      rw[eg]at ht
      simp only[Bool.and_eq_true,decide_eq_true_eq]at ht
      obtain⟨b,rfl⟩:=Int.eq_ofNat_of_zero_le ht.2.1.1
      obtain⟨c,rfl⟩:=Int.eq_ofNat_of_zero_le ht.2.2.1
      rw[show(0:Int)=((0:Nat):Int) from rfl,eW 0 b c (by omega) (by omega) (by omega)]at he
      have:=hc 0 b c he
      simp only[List.cons.injEq]at this
      exact t0 0 (by omega) this.1.symm
    simp only[key,Bool.not_false,cond_true]
 ·simp only[PX,show((ws.length:Int) != 3)=true by simp;omega,cond_true]
theorem vI (n:Nat):Lib.decDigits n=bB n:=by
 induction n using Nat.strongRecOn with
 |_ n ih=>
  rw[Lib.decDigits]
  by_cases h:n<10
  ·rw[eK h,dif_pos h]
  ·rw[ig h,dif_neg h,ih (n/10) (by omega)]
theorem ee (n:Nat):dX.f ((n:Int),())=bB n:=by
 simp only[PX,dX,vz];unfold lr Lib.itoa
 rw[if_neg (by omega),Int.toNat_natCast,vI]
theorem mS (l:List aa)(b:UInt8):kK.f (l,[b],())=dr b l:=by
 simp only[PX,kK,uX];unfold dL
 cases l with
 |nil=>rfl
 |cons x r=>
  rw[Lib.join_cons]
  induction r generalizing x with
  |nil=>simp[dr,Lib.joinTail]
  |cons y r ih=>
   rw[gD b x _ (by simp),←ih y]
   simp[Lib.joinTail]
theorem pW (n:Nat)(h:n≤4294967295):fm.f ((n:Int),())=cp n:=by
 simp only[PX,fm]
 have m8:∀m:Nat,m<1099511627776→bits .and .i64 (m:Int) 255=((m%256:Nat):Int):=λm hm=>by
  have:=bits_mask .i64 63 (by decide) uN 8 (by decide) (m:Int) (by omega) (by omega)
  rw[show((255:Int))=2 ^ 8-1 by decide,this]
  omega
 rw[uM]
 simp only[PX,decide_eq_true (show(0:Int)≤n by omega),decide_eq_true (show(n:Int)≤4294967295 by omega),Bool.and_self,Bool.not_true,cond_false]
 rw[show(n:Int).fdiv 16777216=((n/16777216:Nat):Int) by rw[Int.fdiv_eq_ediv_of_nonneg _ (by omega)];omega,
  show(n:Int).fdiv 65536=((n/65536:Nat):Int) by rw[Int.fdiv_eq_ediv_of_nonneg _ (by omega)];omega,
  show(n:Int).fdiv 256=((n/256:Nat):Int) by rw[Int.fdiv_eq_ediv_of_nonneg _ (by omega)];omega,
  m8 _ (by omega),m8 _ (by omega),m8 _ (by omega),ee,ee,ee,ee,mS]
 rfl
theorem ik {t:Tupl}(h:aG.f (t,())=true):∃a b c:Nat,t=⟨a,b,c⟩∧a≤4294967295∧b≤65535∧c≤65535:=by
 obtain⟨a,b,c⟩:=t
 rw[eg]at h
 simp only[Bool.and_eq_true,decide_eq_true_eq]at h
 obtain⟨a,rfl⟩:=Int.eq_ofNat_of_zero_le h.1.1
 obtain⟨b,rfl⟩:=Int.eq_ofNat_of_zero_le h.2.1.1
 obtain⟨c,rfl⟩:=Int.eq_ofNat_of_zero_le h.2.2.1
 exact⟨a,b,c,rfl,by omega,by omega,by omega⟩
theorem fq (a b c:Nat)(ha:a≤4294967295)(hb:b≤65535)(hc:c≤65535):aK.f (⟨a,b,c⟩,())=ij a b c:=by
 simp only[PX,aK]
 rw[eg]
 simp only[PX,decide_eq_true (show(0:Int)≤a by omega),decide_eq_true (show(a:Int)≤4294967295 by omega),decide_eq_true (show(0:Int)≤b by omega),decide_eq_true (show(b:Int)≤65535 by omega),decide_eq_true (show(0:Int)≤c by omega),decide_eq_true (show(c:Int)≤65535 by omega),Bool.and_self,Bool.not_true,cond_false]
 rw[pW a ha,ee b,ee c]
 unfold ij
 simp only[List.append_assoc,List.cons_append,List.nil_append]
theorem wK (t:Tupl):bD.f (t,())=aK.f (t,()):=by
 cases h:aG.f (t,())with
 |true=>
  obtain⟨a,b,c,rfl,ha,hb,hc⟩:=ik h
  rw[eW a b c ha hb hc,fq a b c ha hb hc]
 |false=>
  rw[eQ t h]
  simp only[PX,aK]
  simp only[PX,h,Bool.not_false,cond_true]
def lC (n:Nat):aa:=[UInt8.ofNat (n/72057594037927936),UInt8.ofNat (n/281474976710656%256),UInt8.ofNat (n/1099511627776%256),UInt8.ofNat (n/4294967296%256),UInt8.ofNat (n/16777216%256),UInt8.ofNat (n/65536%256),UInt8.ofNat (n/256%256),UInt8.ofNat (n%256)]
theorem zD (n:Nat)(h:n<18446744073709551616):kF.f ((n:Int),())=fP (lC n):=by
 simp only[PX,kF,dW]
 have fd:∀m:Nat,(m:Int).fdiv 256=((m/256:Nat):Int):=λm=>by rw[Int.fdiv_eq_ediv_of_nonneg _ (by omega)];omega
 have w8:∀m:Nat,IntKind.wrap .u8 (m:Int)=((m%256:Nat):Int):=λm=>by rw[gn];omega
 simp only[show Int.toNat (7-0+1)=8 from rfl,a8,lY,Stp.elim,PX,fd,w8,Nat.div_div_eq_div_mul,
  show(7:Int)+ -1=6 from rfl,show(6:Int)+ -1=5 from rfl,show(5:Int)+ -1=4 from rfl,show(4:Int)+ -1=3 from rfl,show(3:Int)+ -1=2 from rfl,show(2:Int)+ -1=1 from rfl,show(1:Int)+ -1=0 from rfl,
  show Int.toNat 0=0 from rfl,show Int.toNat 1=1 from rfl,show Int.toNat 2=2 from rfl,show Int.toNat 3=3 from rfl,show Int.toNat 4=4 from rfl,show Int.toNat 5=5 from rfl,show Int.toNat 6=6 from rfl,show Int.toNat 7=7 from rfl,
  List.replicate,List.set,aA,List.map_cons,List.map_nil,Int.toNat_natCast,zA]
 unfold lC
 rw[show n/(256*256*256*256*256*256*256)%256=n/72057594037927936 by omega]
theorem zq (n:Nat)(h:n<18446744073709551616):ke.f ((n:Int),())=fP (lC n):=by
 simp only[PX,ke]
 have e1:IntKind.wrap .i64 (IntKind.wrap .u64 ((n:Int).tdiv 4294967296))=((n/4294967296:Nat):Int):=by
  rw[(iM 4294967296).1 (by omega)]
  have:IntKind.wrap .u64 ((n:Int)/4294967296)=(n:Int)/4294967296:=by simp[IntKind.wrap,IntKind.bits,IntKind.signed];omega
  rw[this,ba (by omega) (by omega)];omega
 have e2:IntKind.wrap .i64 ((n:Int).tmod 4294967296)=((n%4294967296:Nat):Int):=by
  rw[(eC 4294967296).1 (by omega),ba (by omega) (by omega)];omega
 simp only[PX,e1,e2,zM]
 rw[qx _ (by omega),qx _ (by omega)]
 unfold lC
 rw[show n/4294967296/16777216=n/72057594037927936 by omega,show n/4294967296/65536%256=n/281474976710656%256 by omega,show n/4294967296/256%256=n/1099511627776%256 by omega,
  show n%4294967296/16777216=n/16777216%256 by omega,show n%4294967296/65536%256=n/65536%256 by omega,show n%4294967296/256%256=n/256%256 by omega,show n%4294967296%256=n%256 by omega]
 rfl
theorem pa (n:Nat)(h:n<18446744073709551616):bL.f ((fP (lC n)),())=((n:Int),true):=by
 simp only[PX,bL,dG]
 rw[t8 _ (by rw[fx];show 2*8≤_;omega),lv]
 have st:∀(a b:Nat),a<72057594037927936→b<256→bits .or .u64 (IntKind.wrap .u64 ((a:Int)*256)) (IntKind.wrap .u64 ((UInt8.ofNat b).toNat:Int))=((a*256+b:Nat):Int):=λa b ha hb=>by
  rw[iO hb,fg _ (by omega) (by omega),fg _ (by omega) (by omega),bits_join .u64 64 (by decide) fg 8 _ _ (by omega) (by omega) (by omega) (by omega) (by omega) (by omega)]
  omega
 simp only[PX,Bool.not_true,cond_false,show(((lC n).length:Int) != 8)=false from rfl,show Int.toNat (8-0)=8 from rfl,a8,gL,Stp.elim,
  show(0:Int)+1=1 from rfl,show(1:Int)+1=2 from rfl,show(2:Int)+1=3 from rfl,show(3:Int)+1=4 from rfl,show(4:Int)+1=5 from rfl,show(5:Int)+1=6 from rfl,show(6:Int)+1=7 from rfl,
  show Int.toNat 0=0 from rfl,show Int.toNat 1=1 from rfl,show Int.toNat 2=2 from rfl,show Int.toNat 3=3 from rfl,show Int.toNat 4=4 from rfl,show Int.toNat 5=5 from rfl,show Int.toNat 6=6 from rfl,show Int.toNat 7=7 from rfl]
 simp only[au,lC,List.getD_cons_zero,List.getD_cons_succ]
 have h0:=st 0 (n/72057594037927936) (by omega) (by omega)
 rw[show((0:Nat):Int)=0 from rfl]at h0
 rw[h0,st _ _ (by omega) (by omega),st _ _ (by omega) (by omega),st _ _ (by omega) (by omega),st _ _ (by omega) (by omega),st _ _ (by omega) (by omega),st _ _ (by omega) (by omega),st _ _ (by omega) (by omega)]
 congr 2
 omega
theorem A2 (a b:Nat)(ha:a<4294967296)(hb:b<256):IntKind.wrap .i64 ((IntKind.wrap .i64 (256*(a:Int)))+(IntKind.wrap .i64 ((UInt8.ofNat b).toNat:Int)))=((256*a+b:Nat):Int):=by
 rw[iO hb,ba (m:=256*(a:Int)) (by omega) (by omega),ba (m:=((b:Nat):Int)) (by omega) (by omega),ba (by omega) (by omega)]
 omega
theorem pD (s:aa)(p j:Nat)(x:Int)(a b:Nat)(hs:s.getD (p+j) 0=UInt8.ofNat b)(ha:a<4294967296)(hb:b<256)(hp:p+j<4294967296):(aZ s (p:Int) (j:Int) (a:Int)).nice= .next ((256*a+b:Nat):Int):=by
 simp only[PX,aZ];unfold au
 rw[ba (m:=(p:Int)+j) (by omega) (by omega),show((p:Int)+j).toNat=p+j by omega,hs,A2 a b ha hb]
theorem Di (n:Nat)(h:n<18446744073709551616):fa.f ((lC n),0,4,())=(((n/4294967296:Nat):Int),true):=by
 have i0:bJ.f (4,1,6,())=true:=rfl
 have hl:(IntKind.wrap .i64 (((lC n).length:Int)-4))=4:=by rw[show(lC n).length=8 from rfl];decide+kernel
 have i1:bJ.f (0,0,4,())=true:=rfl
 have e0:(aZ (lC n) 0 0 0).nice= .next ((256*0+n/72057594037927936:Nat):Int):=pD (lC n) 0 0 4 (0) (n/72057594037927936) rfl (by omega) (by omega) (by omega)
 have e1:(aZ (lC n) 0 1 ((256*0+n/72057594037927936:Nat):Int)).nice= .next ((256*(256*0+n/72057594037927936)+n/281474976710656%256:Nat):Int):=pD (lC n) 0 1 4 (256*0+n/72057594037927936) (n/281474976710656%256) rfl (by omega) (by omega) (by omega)
 have e2:(aZ (lC n) 0 2 ((256*(256*0+n/72057594037927936)+n/281474976710656%256:Nat):Int)).nice= .next ((256*(256*(256*0+n/72057594037927936)+n/281474976710656%256)+n/1099511627776%256:Nat):Int):=pD (lC n) 0 2 4 (256*(256*0+n/72057594037927936)+n/281474976710656%256) (n/1099511627776%256) rfl (by omega) (by omega) (by omega)
 have e3:(aZ (lC n) 0 3 ((256*(256*(256*0+n/72057594037927936)+n/281474976710656%256)+n/1099511627776%256:Nat):Int)).nice= .next ((256*(256*(256*(256*0+n/72057594037927936)+n/281474976710656%256)+n/1099511627776%256)+n/4294967296%256:Nat):Int):=pD (lC n) 0 3 4 (256*(256*(256*0+n/72057594037927936)+n/281474976710656%256)+n/1099511627776%256) (n/4294967296%256) rfl (by omega) (by omega) (by omega)
 simp only[PX,fa,dA]
 rw[i0,hl,i1]
 simp only[Bool.not_true,cond_false]
 rw[show Int.toNat (4-0)=4 from rfl,a8,e0,Stp.elim,show(0:Int)+1=1 from rfl,a8,e1,Stp.elim,show(1:Int)+1=2 from rfl,a8,e2,Stp.elim,show(2:Int)+1=3 from rfl,a8,e3,Stp.elim,a8,Stp.elim]
 refine congrArg (λm:Nat=>((m:Int),true)) ?_
 omega
theorem Dp (n:Nat)(h:n<18446744073709551616):fa.f ((lC n),4,4,())=(((n%4294967296:Nat):Int),true):=by
 have i0:bJ.f (4,1,6,())=true:=rfl
 have hl:(IntKind.wrap .i64 (((lC n).length:Int)-4))=4:=by rw[show(lC n).length=8 from rfl];decide+kernel
 have i1:bJ.f (4,0,4,())=true:=rfl
 have e0:(aZ (lC n) 4 0 0).nice= .next ((256*0+n/16777216%256:Nat):Int):=pD (lC n) 4 0 4 (0) (n/16777216%256) rfl (by omega) (by omega) (by omega)
 have e1:(aZ (lC n) 4 1 ((256*0+n/16777216%256:Nat):Int)).nice= .next ((256*(256*0+n/16777216%256)+n/65536%256:Nat):Int):=pD (lC n) 4 1 4 (256*0+n/16777216%256) (n/65536%256) rfl (by omega) (by omega) (by omega)
 have e2:(aZ (lC n) 4 2 ((256*(256*0+n/16777216%256)+n/65536%256:Nat):Int)).nice= .next ((256*(256*(256*0+n/16777216%256)+n/65536%256)+n/256%256:Nat):Int):=pD (lC n) 4 2 4 (256*(256*0+n/16777216%256)+n/65536%256) (n/256%256) rfl (by omega) (by omega) (by omega)
 have e3:(aZ (lC n) 4 3 ((256*(256*(256*0+n/16777216%256)+n/65536%256)+n/256%256:Nat):Int)).nice= .next ((256*(256*(256*(256*0+n/16777216%256)+n/65536%256)+n/256%256)+n%256:Nat):Int):=pD (lC n) 4 3 4 (256*(256*(256*0+n/16777216%256)+n/65536%256)+n/256%256) (n%256) rfl (by omega) (by omega) (by omega)
 simp only[PX,fa,dA]
 rw[i0,hl,i1]
 simp only[Bool.not_true,cond_false]
 rw[show Int.toNat (4-0)=4 from rfl,a8,e0,Stp.elim,show(0:Int)+1=1 from rfl,a8,e1,Stp.elim,show(1:Int)+1=2 from rfl,a8,e2,Stp.elim,show(2:Int)+1=3 from rfl,a8,e3,Stp.elim,a8,Stp.elim]
 refine congrArg (λm:Nat=>((m:Int),true)) ?_
 omega
theorem ui (n:Nat)(h:n<18446744073709551616):cu.f ((fP (lC n)),())=(n:Int):=by
 simp only[PX,cu]
 rw[oJ _ (by rw[fx];show 2*8≤_;omega),lv]
 simp only[PX,Di n h,Dp n h]
 rw[fg (((n/4294967296:Nat):Int)) (by omega) (by omega),fg (((n%4294967296:Nat):Int)) (by omega) (by omega),fg (((n/4294967296:Nat):Int)*4294967296) (by omega) (by omega),fg _ (by omega) (by omega)]
 omega
theorem uH (k:Int):iX.f (k,())=ak.f (k,()):=by
 simp only[PX,iX,ak]
 rw[eq,dE]
theorem wL (kd:Int)(t:Tupl)(n:Int)(tx:aa)(mac:Mac):d4.f (⟨kd,t,n,tx,mac⟩,())=((decide (1≤kd)&&decide (kd≤8))&&(decide ((tx.length:Int)≤1600)&&(dJ.f (mac,())&&((decide (0≤n)&&decide (n≤65535))&&(((tx==[])||((kd==1)||(kd==5)))&&(((kd==3)||bt.f (mac,⟨false,0,0,[]⟩,()))&&
  ((bif decide (5≤kd)then aG.f (t,())else((t.ip==0)&&((t.port==0)&&(t.my==0))))&&((n==0)||(kd==6))))))))):=by
 have hs:bt.f (mac,⟨false,0,0,[]⟩,())=true→dJ.f (mac,())=true:=λh=>by rw[jk mac h];rfl
 have hx:(tx==[])=true→decide ((tx.length:Int)≤1600)=true:=λh=>by
  have:tx=[]:=by simpa using h
  subst this;rfl
 have hn:(n==0)=true→(decide (0≤n)&&decide (n≤65535))=true:=λh=>by
  have:n=0:=by simpa using h
  subst this;rfl
 have hl:decide (1600<(tx.length:Int))= !decide ((tx.length:Int)≤1600):=by
  rcases Int.lt_or_le 1600 (tx.length:Int)with h|h
  ·simp[h,show¬((tx.length:Int)≤1600) by omega]
  ·simp[h,show¬(1600<(tx.length:Int)) by omega]
 have hb:(n != 0)= !(n==0):=rfl
 simp only[PX,d4]
 simp only[PX,dE,hl,hb,Bool.and_true]
 have hk:kd=1∨kd=2∨kd=3∨kd=4∨kd=5∨kd=6∨kd=7∨kd=8∨(decide (1≤kd)&&decide (kd≤8))=false:=by
  simp only[Bool.and_eq_false_iff,decide_eq_false_iff_not];omega
 clear hl hb
 generalize bt.f (mac,⟨false,0,0,[]⟩,())=S at*
 generalize dJ.f (mac,())=M at*
 generalize aG.f (t,())=T at*
 generalize((t.ip==0)&&((t.port==0)&&(t.my==0)))=Z at*
 generalize(tx==[])=X at*
 generalize decide ((tx.length:Int)≤1600)=L at*
 generalize(decide (0≤n)&&decide (n≤65535))=NN at*
 generalize(n==0)=N0 at*
 clear tx n t mac
 rcases hk with rfl|rfl|rfl|rfl|rfl|rfl|rfl|rfl|hk
 iterate 8 (revert S M T Z X L NN N0;decide+kernel)
 simp[hk]
theorem yI (x:Acti):d4.f (x,())=((decide (1≤x.kind)&&decide (x.kind≤8))&&(decide ((x.text.length:Int)≤1600)&&(dJ.f (x.mac,())&&((decide (0≤x.n)&&decide (x.n≤65535))&&(((x.text==[])||((x.kind==1)||(x.kind==5)))&&(((x.kind==3)||bt.f (x.mac,⟨false,0,0,[]⟩,()))&&
  ((bif decide (5≤x.kind)then aG.f (x.tuple,())else((x.tuple.ip==0)&&((x.tuple.port==0)&&(x.tuple.my==0))))&&((x.n==0)||(x.kind==6))))))))):=wL x.kind x.tuple x.n x.text x.mac
theorem BM (m:Mac)(h:dJ.f (m,())=true)(hu:m.use=false):m.rows=[]:=by
 simp only[PX,dJ,eA]at h
 rw[hu]at h
 simpa using h
theorem lu (x:Acti)(h:d4.f (x,())=true):(1≤x.kind∧x.kind≤8)∧x.text.length≤1600∧dJ.f (x.mac,())=true∧(∃n:Nat,x.n=(n:Int)∧n≤65535)∧(x.kind≠1→x.kind≠5→x.text=[])∧(x.kind≠3→x.mac=⟨false,0,0,[]⟩)∧
  (5≤x.kind→aG.f (x.tuple,())=true)∧(x.kind<5→x.tuple=⟨0,0,0⟩)∧(x.kind≠6→x.n=0):=by
 rw[yI]at h
 simp only[Bool.and_eq_true,decide_eq_true_eq,Bool.or_eq_true,beq_iff_eq]at h
 obtain⟨h1,h2,h3,h4,h5,h6,h7,h8⟩:=h
 obtain⟨n,hn⟩:=Int.eq_ofNat_of_zero_le h4.1
 refine⟨h1,by omega,h3,⟨n,hn,by omega⟩,λa b=> ?_,λa=> ?_,λa=> ?_,λa=> ?_,λa=> ?_⟩
 ·rcases h5 with h|h|h
  ·exact h
  ·exact absurd h a
  ·exact absurd h b
 ·rcases h6 with h|h
  ·exact absurd h a
  ·exact jk _ h
 ·rw[decide_eq_true a]at h7;exact h7
 ·rw[decide_eq_false (by omega)]at h7
  simp only[cond_false,Bool.and_eq_true,beq_iff_eq]at h7
  have:∀t:Tupl,t.ip=0∧t.port=0∧t.my=0→t=⟨0,0,0⟩:=by rintro⟨a,b,c⟩ ⟨rfl,rfl,rfl⟩;rfl
  exact this _ h7
 ·rcases h8 with h|h
  ·exact h
  ·exact absurd h a
def gX (t:aa):aa:=bif (t==[])then[45]else fP t
theorem BV (t:aa):gN.f (t,())=gX t:=by unfold gX;simp only[PX,gN];rw[zM]
theorem BC (t:aa):qe.f (t,())=gX t:=by unfold gX;simp only[PX,qe];rw[zA]
def cT (x:Acti):List aa:=
 bif x.kind==1 then[ak.f (x.kind,()),gX x.text]else
 bif x.kind==3 then[ak.f (x.kind,()),fP (lC x.mac.k.toNat),fP (lC x.mac.l.toNat)]else
 bif x.kind==5 then[ak.f (x.kind,()),aK.f (x.tuple,()),gX x.text]else
 bif x.kind==6 then[ak.f (x.kind,()),aK.f (x.tuple,()),bB x.n.toNat]else
 bif decide (5≤x.kind)then[ak.f (x.kind,()),aK.f (x.tuple,())]else[ak.f (x.kind,())]
def oa (x:Acti):Bool:=d4.f (x,())&& !x.mac.use
def bh (x:Acti):aa:=bif oa x then dr 32 (cT x)else[]
def gP (x:Acti):Prop:=(0≤x.mac.k∧x.mac.k<18446744073709551616)∧(0≤x.mac.l∧x.mac.l<18446744073709551616)
theorem nZ {k:Int}(h:1≤k∧k≤8):k=1∨k=2∨k=3∨k=4∨k=5∨k=6∨k=7∨k=8:=by omega
theorem vU (a b:aa):dr 32 [a,b]=a++32::b:=rfl
theorem rX (a b c:aa):dr 32 [a,b,c]=a++32::(b++32::c):=rfl
theorem yd (a:aa):dr 32 [a]=a:=rfl
theorem hL (x:Acti)(hk:gP x):br.f (x,())=bh x:=by
 unfold bh oa;simp only[PX,br]
 rw[CI]
 cases ho:d4.f (x,())with
 |false=>rfl
 |true=>
  cases hu:x.mac.use with
  |true=>rfl
  |false=>
   obtain⟨h1,_,_,⟨m,hm,hm2⟩,_⟩:=lu x ho
   obtain⟨kd,t,n,tx,mac⟩:=x
   obtain⟨⟨hk1,hk2⟩,hk3,hk4⟩:=hk
   simp only at hm h1 hk1 hk2 hk3 hk4
   obtain⟨k',hk'⟩:=Int.eq_ofNat_of_zero_le hk1
   obtain⟨l',hl'⟩:=Int.eq_ofNat_of_zero_le hk3
   have e1:=zq k' (by omega)
   have e2:=zq l' (by omega)
   rw[←hk']at e1
   rw[←hl']at e2
   have e3:=iQ m (by omega)
   have f1:mac.k.toNat=k':=by omega
   have f2:mac.l.toNat=l':=by omega
   subst hm
   rcases nZ h1 with rfl|rfl|rfl|rfl|rfl|rfl|rfl|rfl<;>
    simp[cT,yd,vU,rX,uH,wK,BV,e1,e2,e3,f1,f2]
theorem cK (x:Acti)(hk:gP x):aW.f (x,())=bh x:=by
 unfold bh oa;simp only[PX,aW]
 cases ho:d4.f (x,())with
 |false=>rfl
 |true=>
  cases hu:x.mac.use with
  |true=>rfl
  |false=>
   obtain⟨h1,_,_,⟨m,hm,hm2⟩,_⟩:=lu x ho
   obtain⟨kd,t,n,tx,mac⟩:=x
   obtain⟨⟨hk1,hk2⟩,hk3,hk4⟩:=hk
   simp only at hm h1 hk1 hk2 hk3 hk4
   obtain⟨k',hk'⟩:=Int.eq_ofNat_of_zero_le hk1
   obtain⟨l',hl'⟩:=Int.eq_ofNat_of_zero_le hk3
   have e1:=zD k' (by omega)
   have e2:=zD l' (by omega)
   rw[←hk']at e1
   rw[←hl']at e2
   have e3:=ee m
   have f1:mac.k.toNat=k':=by omega
   have f2:mac.l.toNat=l':=by omega
   subst hm
   rcases nZ h1 with rfl|rfl|rfl|rfl|rfl|rfl|rfl|rfl<;>
    simp[cT,yd,vU,rX,BC,e1,e2,e3,f1,f2]
theorem Ai (x:Acti)(hk:gP x):br.f (x,())=aW.f (x,()):=by rw[hL x hk,cK x hk]
theorem uw (a b c:Nat)(ha:a≤4294967295)(hb:b≤65535)(hc:c≤65535):(ij a b c).length≤27:=by
 have h1:=un a ha
 have h2:=iV 4 b (by omega)
 have h3:=iV 4 c (by omega)
 unfold ij
 simp only[List.length_append,List.length_cons]
 omega
theorem fu (t:Tupl)(h:aG.f (t,())=true):(aK.f (t,())).length≤27:=by
 obtain⟨a,b,c,rfl,ha,hb,hc⟩:=ik h
 rw[fq a b c ha hb hc]
 exact uw a b c ha hb hc
theorem zG:∀n:Nat,n<16→mn n≠32∧mn n≠10:=by decide+kernel
theorem qi:∀t:aa,∀c∈fP t,c≠32∧c≠10
 |[],c,h=>by simp[fP]at h
 |a::r,c,h=>by
  have:=a.toNat_lt
  simp only[fP,List.mem_cons]at h
  rcases h with rfl|rfl|h
  ·exact zG _ (by omega)
  ·exact zG _ (by omega)
  ·exact qi r c h
theorem xy (t:aa):∀c∈gX t,c≠32∧c≠10:=by
 unfold gX
 cases t==[]with
 |true=>intro c h;simp at h;subst h;decide
 |false=>exact qi t
theorem gq (n:Nat):∀c∈bB n,c≠32∧c≠10:=λc h=>⟨fO (by decide) n c h,fO (by decide) n c h⟩
theorem Be (a b c:Nat):∀x∈ij a b c,x≠32∧x≠10:=by
 intro x hx
 unfold ij cp at hx
 simp only[List.mem_append,List.mem_cons]at hx
 rcases hx with(hx|rfl|hx|rfl|hx|rfl|hx)|rfl|hx|rfl|hx
 ·exact gq _ x hx
 ·decide
 ·exact gq _ x hx
 ·decide
 ·exact gq _ x hx
 ·decide
 ·exact gq _ x hx
 ·decide
 ·exact gq _ x hx
 ·decide
 ·exact gq _ x hx
theorem jb (t:Tupl)(h:aG.f (t,())=true):∀x∈aK.f (t,()),x≠32∧x≠10:=by
 obtain⟨a,b,c,rfl,ha,hb,hc⟩:=ik h
 rw[fq a b c ha hb hc]
 exact Be a b c
theorem Cu {k:Int}(h:1≤k∧k≤8):(∀x∈ak.f (k,()),x≠32∧x≠10)∧(ak.f (k,())).length≤6∧ak.f (k,())≠[]:=by
 rcases nZ h with rfl|rfl|rfl|rfl|rfl|rfl|rfl|rfl<;>decide+kernel
theorem z4 (t:aa)(h:t.length≤1600):(gX t).length≤3200:=by
 unfold gX
 cases t==[]with
 |true=>simp
 |false=>rw[cond_false,fx];omega
theorem jQ (x:Acti)(ho:oa x=true):(cT x≠[]∧∀p∈cT x,∀c∈p,c≠32∧c≠10)∧(dr 32 (cT x)).length≤3260∧dr 32 (cT x)≠[]:=by
 unfold oa at ho
 simp only[Bool.and_eq_true,Bool.not_eq_true']at ho
 obtain⟨h1,hl,hM,⟨m,hm,hm2⟩,h5,h6,h7,h8,h9⟩:=lu x ho.1
 obtain⟨w1,w2,w3⟩:=Cu h1
 have d:=iV 4 m (by omega)
 have t1:=z4 x.text hl
 have be:∀n,(fP (lC n)).length=16:=λn=>by rw[fx];rfl
 have two:∀a b:aa,(∀c∈a,c≠32∧c≠10)→(∀c∈b,c≠32∧c≠10)→∀p∈[a,b],∀c∈p,c≠32∧c≠10:=λa b ha hb p hp=>by
  simp only[List.mem_cons,List.not_mem_nil,or_false]at hp
  rcases hp with rfl|rfl<;>assumption
 have three:∀a b c:aa,(∀x∈a,x≠32∧x≠10)→(∀x∈b,x≠32∧x≠10)→(∀x∈c,x≠32∧x≠10)→∀p∈[a,b,c],∀x∈p,x≠32∧x≠10:=λa b c ha hb hc p hp=>by
  simp only[List.mem_cons,List.not_mem_nil,or_false]at hp
  rcases hp with rfl|rfl|rfl<;>assumption
 have ap:∀a b:aa,a≠[]→a++b≠[]:=λa b h=>by simp[h]
 unfold cT
 cases x.kind==1 with
 |true=>
  rw[cond_true,vU]
  exact⟨⟨by simp,two _ _ w1 (xy _)⟩,by simp only[List.length_append,List.length_cons];omega,ap _ _ w3⟩
 |false=>
  rw[cond_false]
  cases x.kind==3 with
  |true=>
   rw[cond_true,rX]
   exact⟨⟨by simp,three _ _ _ w1 (qi _) (qi _)⟩,by simp only[List.length_append,List.length_cons,be];omega,ap _ _ w3⟩
  |false=>
   rw[cond_false]
   cases hk5:x.kind==5 with
   |true=>
    have ht:=h7 (by have:=eq_of_beq hk5;omega)
    have t2:=fu _ ht
    rw[cond_true,rX]
    exact⟨⟨by simp,three _ _ _ w1 (jb _ ht) (xy _)⟩,by simp only[List.length_append,List.length_cons];omega,ap _ _ w3⟩
   |false=>
    rw[cond_false]
    cases hk6:x.kind==6 with
    |true=>
     have ht:=h7 (by have:=eq_of_beq hk6;omega)
     have t2:=fu _ ht
     rw[cond_true,rX,hm,Int.toNat_natCast]
     exact⟨⟨by simp,three _ _ _ w1 (jb _ ht) (gq _)⟩,by simp only[List.length_append,List.length_cons];omega,ap _ _ w3⟩
    |false=>
     rw[cond_false]
     cases hk7:decide (5≤x.kind)with
     |true=>
      have ht:=h7 (by simpa using hk7)
      have t2:=fu _ ht
      rw[cond_true,vU]
      exact⟨⟨by simp,two _ _ w1 (jb _ ht)⟩,by simp only[List.length_append,List.length_cons];omega,ap _ _ w3⟩
     |false=>
      rw[cond_false,yd]
      refine⟨⟨by simp,λp hp=> ?_⟩,by omega,w3⟩
      rw[List.mem_singleton]at hp
      subst hp
      exact w1
theorem oS (x:Acti)(ho:oa x=true):eY 32 (bh x) []=cT x:=by
 unfold bh
 rw[ho,cond_true]
 obtain⟨⟨h1,h2⟩,_⟩:=jQ x ho
 exact rM 32 _ h1 λp hp c hc=>(h2 p hp c hc).1
theorem uA (x:Acti):(bh x).length≤3260:=by
 unfold bh
 cases ho:oa x with
 |true=>exact(jQ x ho).2.1
 |false=>simp
theorem wa {x:Acti}(h:bh x≠[]):oa x=true:=by
 unfold bh at h
 cases ho:oa x with
 |true=>rfl
 |false=>rw[ho]at h;exact absurd rfl h
theorem kU {x:Acti}(ho:oa x=true):bh x≠[]:=by
 unfold bh
 rw[ho]
 exact(jQ x ho).2.2
theorem B6 {A W:Type}(c:Bool)(a b:A):(bif c then(.next a:Stp A W)else .next b)= .next (bif c then a else b):=by cases c<;>rfl
def aR (w:aa):Int:=
 bif ak.f (8,())==w then 8 else bif ak.f (7,())==w then 7 else bif ak.f (6,())==w then 6 else bif ak.f (5,())==w then 5 else
 bif ak.f (4,())==w then 4 else bif ak.f (3,())==w then 3 else bif ak.f (2,())==w then 2 else bif ak.f (1,())==w then 1 else 0
theorem Az {f:Int→Int→Stp Int Empty}{w:aa}(hf:∀v a,f v a=bif ak.f (v,())==w then .next v else .next a):a8 f 1 (Int.toNat (8-1+1)) 1 0= .next (aR w):=by
 simp only[show Int.toNat (8-1+1)=8 from rfl,a8,hf,B6,Stp.elim,
  show(1:Int)+1=2 from rfl,show(2:Int)+1=3 from rfl,show(3:Int)+1=4 from rfl,show(4:Int)+1=5 from rfl,show(5:Int)+1=6 from rfl,show(6:Int)+1=7 from rfl,show(7:Int)+1=8 from rfl]
 rfl
theorem mw {f:Int→Acti×Acti→Stp (Acti×Acti) Empty}{w:aa}(hf:∀v a,f v a=bif ak.f (v,())==w then .next ({a.1 with mac.rows:=[]},{a.2 with kind:=v,mac.rows:=[]})else .next ({a.1 with mac.rows:=[]},{a.2 with mac.rows:=[]})):
  ∀(n:Nat) (i k:Int),a8 f 1 n i (⟨0,⟨0,0,0⟩,0,[],⟨false,0,0,[]⟩⟩,⟨k,⟨0,0,0⟩,0,[],⟨false,0,0,[]⟩⟩)=Stp.elim (λk'=> .next (⟨0,⟨0,0,0⟩,0,[],⟨false,0,0,[]⟩⟩,⟨k',⟨0,0,0⟩,0,[],⟨false,0,0,[]⟩⟩)) Empty.elim (a8 (λv (a:Int)=>bif ak.f (v,())==w then(.next v:Stp Int Empty)else .next a) 1 n i k)
 |0,i,k=>rfl
 |n+1,i,k=>by
  simp only[a8,hf]
  cases ak.f (i,())==w with
  |true=>simp only[cond_true,Stp.elim];exact mw hf n (i+1) i
  |false=>simp only[cond_false,Stp.elim];exact mw hf n (i+1) k
theorem rL {f:Int→Acti×Acti→Stp (Acti×Acti) Empty}{w:aa}(hf:∀v a,f v a=bif ak.f (v,())==w then .next ({a.1 with mac.rows:=[]},{a.2 with kind:=v,mac.rows:=[]})else .next ({a.1 with mac.rows:=[]},{a.2 with mac.rows:=[]})):
  a8 f 1 (Int.toNat (8-1+1)) 1 (⟨0,⟨0,0,0⟩,0,[],⟨false,0,0,[]⟩⟩,⟨0,⟨0,0,0⟩,0,[],⟨false,0,0,[]⟩⟩)= .next (⟨0,⟨0,0,0⟩,0,[],⟨false,0,0,[]⟩⟩,⟨aR w,⟨0,0,0⟩,0,[],⟨false,0,0,[]⟩⟩):=by
 rw[mw hf,Az (w:=w) (λ_ _=>rfl)]
 rfl
theorem ju (w:aa):aR w=0∨aR w=1∨aR w=2∨aR w=3∨aR w=4∨aR w=5∨aR w=6∨aR w=7∨aR w=8:=by
 unfold aR
 cases ak.f (8,())==w<;>cases ak.f (7,())==w<;>cases ak.f (6,())==w<;>cases ak.f (5,())==w<;>cases ak.f (4,())==w<;>cases ak.f (3,())==w<;>cases ak.f (2,())==w<;>cases ak.f (1,())==w<;>simp
theorem xk:aR (ak.f (1,()))=1∧aR (ak.f (2,()))=2∧aR (ak.f (3,()))=3∧aR (ak.f (4,()))=4∧aR (ak.f (5,()))=5∧aR (ak.f (6,()))=6∧aR (ak.f (7,()))=7∧aR (ak.f (8,()))=8:=by decide+kernel
def tj:Acti:=⟨0,⟨0,0,0⟩,0,[],⟨false,0,0,[]⟩⟩
def pS (ws:List aa):Acti:=
 ⟨aR (ws.getD 0 []),bif decide (5≤aR (ws.getD 0 []))then(dq.f (((ws++[[],[],[]]).getD 1 []),())).1 else⟨0,0,0⟩,bif aR (ws.getD 0 [])==6 then(cU.f (((ws++[[],[],[]]).getD 2 []),())).1 else 0,
  bif aR (ws.getD 0 [])==5 then(cM.f (((ws++[[],[],[]]).getD 2 []),())).1 else bif aR (ws.getD 0 [])==1 then(cM.f (((ws++[[],[],[]]).getD 1 []),())).1 else[],
  bif aR (ws.getD 0 [])==3 then⟨false,cu.f (((ws++[[],[],[]]).getD 1 []),()),cu.f (((ws++[[],[],[]]).getD 2 []),()),[]⟩else⟨false,0,0,[]⟩⟩
def pI (ws:List aa):Option Acti:=
 bif aR (ws.getD 0 [])==0 then none else
 bif ((ws.length:Int) != ([0,2,1,3,1,3,3,2,2].getD (aR (ws.getD 0 [])).toNat 0))then none else
 bif aR (ws.getD 0 [])==1 then(bif (cb.f ((ws.getD 1 []),())).2 then some ⟨1,⟨0,0,0⟩,0,(cb.f ((ws.getD 1 []),())).1,⟨false,0,0,[]⟩⟩else none)else
 bif aR (ws.getD 0 [])==3 then(bif (bL.f ((ws.getD 1 []),())).2&&(bL.f ((ws.getD 2 []),())).2 then some ⟨3,⟨0,0,0⟩,0,[],⟨false,(bL.f ((ws.getD 1 []),())).1,(bL.f ((ws.getD 2 []),())).1,[]⟩⟩else none)else
 bif aR (ws.getD 0 [])==5 then(bif (aw.f ((ws.getD 1 []),())).2&&(cb.f ((ws.getD 2 []),())).2 then some ⟨5,(aw.f ((ws.getD 1 []),())).1,0,(cb.f ((ws.getD 2 []),())).1,⟨false,0,0,[]⟩⟩else none)else
 bif aR (ws.getD 0 [])==6 then(bif (aw.f ((ws.getD 1 []),())).2&&(cI.f ((ws.getD 2 []),())).2 then some ⟨6,(aw.f ((ws.getD 1 []),())).1,(cI.f ((ws.getD 2 []),())).1,[],⟨false,0,0,[]⟩⟩else none)else
 bif decide (5≤aR (ws.getD 0 []))then(bif (aw.f ((ws.getD 1 []),())).2 then some ⟨aR (ws.getD 0 []),(aw.f ((ws.getD 1 []),())).1,0,[],⟨false,0,0,[]⟩⟩else none)else
 some ⟨aR (ws.getD 0 []),⟨0,0,0⟩,0,[],⟨false,0,0,[]⟩⟩
theorem zW (ws:List aa)(h:ws≠[])(r:List aa):(ws++r).getD 0 []=ws.getD 0 []:=by
 cases ws with
 |nil=>exact absurd rfl h
 |cons a b=>rfl
set_option maxHeartbeats 1000000 in theorem wh (s:aa)(hs:s.length≤4294967296):en.f (s,())=bif s==[]then(tj,false)else bif decide (3260<(s.length:Int))then(tj,false)else
  bif !(br.f ((pS (eY 32 s [])),())==s)then(tj,false)else(pS (eY 32 s []),true):=by
 have hp:=lz s 32 hs
 rw[show(((32:UInt8).toNat:Nat):Int)=32 from rfl]at hp
 simp only[PX,en,bo]
 rw[hp,rL (w:=(eY 32 s []).getD 0 []) (λv a=>by simp only[PX,ki];rw[uH,zW _ (vV 32 s [])])]
 cases s==[]with
 |true=>rfl
 |false=>
  cases decide (3260<(s.length:Int))with
  |true=>rfl
  |false=>
   simp only[cond_false,Stp.elim]
   unfold pS
   generalize eY 32 s []=ws
   rcases ju (ws.getD 0 [])with h|h|h|h|h|h|h|h|h<;>rw[h]<;>simp only[Int.reduceBEq,Int.reduceBNe,Int.reduceLE,Int.reduceLT,decide_true,decide_false,cond_true,cond_false,Bool.false_eq_true,PX]<;>rfl
set_option maxHeartbeats 1000000 in theorem qr (s:aa)(hs:s.length≤4294967296):aD.f (s,())=match pI (eY 32 s [])with|none=>(tj,false)|some a=>bif !(aW.f (a,())==s)then(tj,false)else(a,true):=by
 have hp:=gm s 32 hs
 rw[show(((32:UInt8).toNat:Nat):Int)=32 from rfl]at hp
 simp only[PX,aD,bp]
 rw[hp,rL (w:=(eY 32 s []).getD 0 []) (λv a=>by simp only[PX,kG])]
 simp only[Stp.elim]
 unfold pI
 generalize eY 32 s []=ws
 rcases ju (ws.getD 0 [])with h|h|h|h|h|h|h|h|h
 ·rw[h];rfl
 ·rw[h]
  simp only[Int.reduceBEq,Int.reduceBNe,Int.reduceLE,Int.reduceLT,decide_true,decide_false,cond_true,cond_false,Bool.false_eq_true,PX]
  generalize((ws.length:Int) != ([0,2,1,3,1,3,3,2,2].getD (Int.toNat 1) 0))=b
  generalize cb.f ((ws.getD 1 []),())=c0
  cases b with
  |true=>rfl
  |false=>
   obtain⟨t0,f0⟩:=c0
   cases f0<;>rfl
 ·rw[h]
  simp only[Int.reduceBEq,Int.reduceBNe,Int.reduceLE,Int.reduceLT,decide_true,decide_false,cond_true,cond_false,Bool.false_eq_true,PX]
  generalize((ws.length:Int) != ([0,2,1,3,1,3,3,2,2].getD (Int.toNat 2) 0))=b
  cases b with
  |true=>rfl
  |false=>
   rfl
 ·rw[h]
  simp only[Int.reduceBEq,Int.reduceBNe,Int.reduceLE,Int.reduceLT,decide_true,decide_false,cond_true,cond_false,Bool.false_eq_true,PX]
  generalize((ws.length:Int) != ([0,2,1,3,1,3,3,2,2].getD (Int.toNat 3) 0))=b
  generalize bL.f ((ws.getD 1 []),())=c0
  generalize bL.f ((ws.getD 2 []),())=c1
  cases b with
  |true=>rfl
  |false=>
   obtain⟨t0,f0⟩:=c0
   obtain⟨t1,f1⟩:=c1
   cases f0<;>cases f1<;>rfl
 ·rw[h]
  simp only[Int.reduceBEq,Int.reduceBNe,Int.reduceLE,Int.reduceLT,decide_true,decide_false,cond_true,cond_false,Bool.false_eq_true,PX]
  generalize((ws.length:Int) != ([0,2,1,3,1,3,3,2,2].getD (Int.toNat 4) 0))=b
  cases b with
  |true=>rfl
  |false=>
   rfl
 ·rw[h]
  simp only[Int.reduceBEq,Int.reduceBNe,Int.reduceLE,Int.reduceLT,decide_true,decide_false,cond_true,cond_false,Bool.false_eq_true,PX]
  generalize((ws.length:Int) != ([0,2,1,3,1,3,3,2,2].getD (Int.toNat 5) 0))=b
  generalize aw.f ((ws.getD 1 []),())=c0
  generalize cb.f ((ws.getD 2 []),())=c1
  cases b with
  |true=>rfl
  |false=>
   obtain⟨t0,f0⟩:=c0
   obtain⟨t1,f1⟩:=c1
   cases f0<;>cases f1<;>rfl
 ·rw[h]
  simp only[Int.reduceBEq,Int.reduceBNe,Int.reduceLE,Int.reduceLT,decide_true,decide_false,cond_true,cond_false,Bool.false_eq_true,PX]
  generalize((ws.length:Int) != ([0,2,1,3,1,3,3,2,2].getD (Int.toNat 6) 0))=b
  generalize aw.f ((ws.getD 1 []),())=c0
  generalize cI.f ((ws.getD 2 []),())=c1
  cases b with
  |true=>rfl
  |false=>
   obtain⟨t0,f0⟩:=c0
   obtain⟨t1,f1⟩:=c1
   cases f0<;>cases f1<;>rfl
 ·rw[h]
  simp only[Int.reduceBEq,Int.reduceBNe,Int.reduceLE,Int.reduceLT,decide_true,decide_false,cond_true,cond_false,Bool.false_eq_true,PX]
  generalize((ws.length:Int) != ([0,2,1,3,1,3,3,2,2].getD (Int.toNat 7) 0))=b
  generalize aw.f ((ws.getD 1 []),())=c0
  cases b with
  |true=>rfl
  |false=>
   obtain⟨t0,f0⟩:=c0
   cases f0<;>rfl
 ·rw[h]
  simp only[Int.reduceBEq,Int.reduceBNe,Int.reduceLE,Int.reduceLT,decide_true,decide_false,cond_true,cond_false,Bool.false_eq_true,PX]
  generalize((ws.length:Int) != ([0,2,1,3,1,3,3,2,2].getD (Int.toNat 8) 0))=b
  generalize aw.f ((ws.getD 1 []),())=c0
  cases b with
  |true=>rfl
  |false=>
   obtain⟨t0,f0⟩:=c0
   cases f0<;>rfl
theorem zY {a b:Nat}(h:cp a=cp b):a=b:=by
 have h1:=(oY a).symm.trans ((congrArg (λx=>eY 46 x []) h).trans (oY b))
 simp only[List.cons.injEq]at h1
 have e:∀x y,bB x=bB y→x=y:=λx y h=>by rw[←kQ x,h,kQ]
 have:=e _ _ h1.1
 have:=e _ _ h1.2.1
 have:=e _ _ h1.2.2.1
 have:=e _ _ h1.2.2.2.1
 omega
theorem jD (n:Nat)(h:n≤65535):cI.f ((bB n),())=((n:Int),true):=by
 rcases mr (bB n)with⟨m,h1,h2⟩|⟨_,h2⟩
 ·rw[h1]
  have:m=n:=by rw[←kQ m,h2,kQ]
  rw[this]
 ·exact absurd rfl (h2 n h)
theorem sQ (n:Nat)(h:n≤4294967295):dM.f ((cp n),())=((n:Int),true):=by
 rcases pF (cp n) (by have:=un n h;omega)with⟨m,_,h1,h2⟩|⟨_,h2⟩
 ·rw[h1,zY h2]
 ·exact absurd rfl (h2 n h)
theorem cd (t:Tupl)(h:aG.f (t,())=true):aw.f ((aK.f (t,())),())=(t,true):=by
 obtain⟨a,b,c,rfl,ha,hb,hc⟩:=ik h
 rw[fq a b c ha hb hc]
 have hl:=uw a b c ha hb hc
 have hq:=gm (ij a b c) 58 (by omega)
 rw[show(((58:UInt8).toNat:Nat):Int)=58 from rfl,uR]at hq
 simp only[PX,aw]
 simp only[PX,hq,show(((([cp a,bB b,bB c]:List aa).length:Nat):Int) != 3)=false from rfl,cond_false,List.getD_cons_zero,List.getD_cons_succ,sQ a ha,jD b hb,jD c hc,h,Bool.not_true]
theorem j7 (t:aa)(h:t.length≤1600):cb.f ((gX t),())=(t,true):=by
 unfold gX;simp only[PX,cb]
 cases ht:t==[]with
 |true=>
  have:t=[]:=by simpa using ht
  subst this;rfl
 |false=>
  have hne:(fP t==[45])=false:=by
   rw[beq_eq_false_iff_ne]
   intro he
   have:=congrArg List.length he
   rw[fx]at this
   simp at this
   omega
  simp only[cond_false,hne,PX,t8 _ (show(fP t).length≤_ by rw[fx];omega),lv,cond_true,ht,Bool.not_false]
theorem nv (t:aa)(h:t.length≤1600):(cM.f ((gX t),())).1=t:=by
 unfold gX
 cases ht:t==[]with
 |true=>
  have:t=[]:=by simpa using ht
  subst this
  rw[cond_true,oJ _ (by simp)]
  rfl
 |false=>rw[cond_false,oJ _ (show(fP t).length≤_ by rw[fx];omega),lv]
theorem mv (x:Acti)(hk:gP x)(ho:oa x=true):pS (cT x)=x∧pI (cT x)=some x:=by
 unfold oa at ho
 simp only[Bool.and_eq_true,Bool.not_eq_true']at ho
 obtain⟨h1,hl,hM,⟨m,hm,hm2⟩,h5,h6,h7,h8,h9⟩:=lu x ho.1
 have hR:=BM _ hM ho.2
 obtain⟨k1,k2,k3,k4,k5,k6,k7,k8⟩:=xk
 obtain⟨kd,t,n,tx,⟨u,k,l,r⟩⟩:=x
 obtain⟨⟨hk1,hk2⟩,hk3,hk4⟩:=hk
 simp only at hm h1 hk1 hk2 hk3 hk4 hl h5 h6 h7 h8 h9 hR ho
 have hu:=ho.2
 obtain⟨k',rfl⟩:=Int.eq_ofNat_of_zero_le hk1
 obtain⟨l',rfl⟩:=Int.eq_ofNat_of_zero_le hk3
 subst hm hR hu
 have g:∀t,aG.f (t,())=true→dq.f ((aK.f (t,())),())=(t,true):=λt ht=>by rw[xM _ (by have:=fu t ht;omega),cd t ht]
 rcases nZ h1 with rfl|rfl|rfl|rfl|rfl|rfl|rfl|rfl
 ·have e1:=h6 (by decide)
  have e2:=h8 (by decide)
  have e3:=h9 (by decide)
  cases e1;subst e2;rw[e3]
  simp[pS,pI,cT,k1,j7 tx hl,nv tx hl]
 ·have e1:=h6 (by decide)
  have e2:=h8 (by decide)
  have e3:=h9 (by decide)
  have e4:=h5 (by decide) (by decide)
  cases e1;subst e2;rw[e3,e4]
  simp[pS,pI,cT,k2]
 ·have e2:=h8 (by decide)
  have e3:=h9 (by decide)
  have e4:=h5 (by decide) (by decide)
  subst e2;rw[e3,e4]
  simp[pS,pI,cT,k3,pa k' (by omega),pa l' (by omega),ui k' (by omega),ui l' (by omega)]
 ·have e1:=h6 (by decide)
  have e2:=h8 (by decide)
  have e3:=h9 (by decide)
  have e4:=h5 (by decide) (by decide)
  cases e1;subst e2;rw[e3,e4]
  simp[pS,pI,cT,k4]
 ·have e1:=h6 (by decide)
  have e2:=h7 (by decide)
  have e3:=h9 (by decide)
  cases e1;rw[e3]
  simp[pS,pI,cT,k5,j7 tx hl,nv tx hl,g t e2,cd t e2]
 ·have e1:=h6 (by decide)
  have e2:=h7 (by decide)
  have e4:=h5 (by decide) (by decide)
  cases e1;rw[e4]
  simp[pS,pI,cT,k6,g t e2,cd t e2,nY,jD m hm2]
 ·have e1:=h6 (by decide)
  have e2:=h7 (by decide)
  have e3:=h9 (by decide)
  have e4:=h5 (by decide) (by decide)
  cases e1;rw[e3,e4]
  simp[pS,pI,cT,k7,g t e2,cd t e2]
 ·have e1:=h6 (by decide)
  have e2:=h7 (by decide)
  have e3:=h9 (by decide)
  have e4:=h5 (by decide) (by decide)
  cases e1;rw[e3,e4]
  simp[pS,pI,cT,k8,g t e2,cd t e2]
theorem Cz (m:Int):0≤IntKind.u64.wrap m∧IntKind.u64.wrap m<18446744073709551616:=by
 have:IntKind.u64.wrap m=m%18446744073709551616:=by simp[IntKind.wrap,IntKind.bits,IntKind.signed]
 rw[this];omega
theorem zF (ws:List aa):gP (pS ws):=by
 have e:∀w,0≤cu.f (w,())∧cu.f (w,())<18446744073709551616:=λw=>by simp only[PX,cu];exact Cz _
 unfold gP pS
 simp only
 cases aR (ws.getD 0 [])==3 with
 |true=>exact⟨e _,e _⟩
 |false=>exact⟨⟨Int.le_refl _,by show(0:Int)<_;decide⟩,Int.le_refl _,by show(0:Int)<_;decide⟩
theorem xd (w:aa):0≤(bL.f (w,())).1∧(bL.f (w,())).1<18446744073709551616:=by
 simp only[PX,bL,dG]
 cases(jy.f (w,())).2 with
 |false=>simp
 |true=>
  cases((jy.f (w,())).1.length:Int) != 8 with
  |true=>simp
  |false=>
   simp only[Bool.not_true,cond_false,show Int.toNat (8-0)=8 from rfl,a8,gL,Stp.elim,PX]
   exact⟨bits_lo_u64 _ _ _,Int.lt_of_le_of_lt (bits_hi_u64 _ _ _) (by decide)⟩
theorem A6 {α:Type}{c:Bool}{x a:α}(h:(bif c then some x else none)=some a):x=a:=by cases c<;>simp at h;exact h
theorem Cc (ws:List aa)(a:Acti)(h:pI ws=some a):gP a:=by
 have z:(0:Int)≤0∧(0:Int)<18446744073709551616:=by decide
 have r:=xd
 unfold pI at h
 rcases ju (ws.getD 0 [])with k|k|k|k|k|k|k|k|k
 all_goals
  rw[k]at h
  try (simp only[show((0:Int)==0)=true from rfl,cond_true]at h;done)
  revert h
  generalize((ws.length:Int) != ([0,2,1,3,1,3,3,2,2].getD (Int.toNat _) 0))=b
  intro h
  cases b with
  |true=>cases h
  |false=>
   simp at h
   try (first
    |(have h:=A6 h;subst h;first|exact⟨z,z⟩|exact⟨r _,r _⟩)
    |(subst h;exact⟨z,z⟩))
theorem hP (s:aa)(hs:s.length≤4294967296):(∃x,gP x∧oa x=true∧bh x=s∧aD.f (s,())=(x,true)∧en.f (s,())=(x,true))∨
  (aD.f (s,())=(tj,false)∧en.f (s,())=(tj,false)∧∀x,gP x→oa x=true→bh x≠s):=by
 by_cases h:∃x,gP x∧oa x=true∧bh x=s
 ·obtain⟨x,hk,ho,he⟩:=h
  refine .inl ⟨x,hk,ho,he, ?_, ?_⟩
  ·rw[qr s hs,←he,oS x ho,(mv x hk ho).2]
   simp only[cK x hk,beq_self_eq_true,Bool.not_true,cond_false]
  ·have h1:=kU ho
   have h2:=uA x
   rw[wh s hs,←he,oS x ho,(mv x hk ho).1]
   simp only[hL x hk,beq_self_eq_true,Bool.not_true,cond_false,show(bh x==[])=false by simpa using h1,show decide (3260<((bh x).length:Int))=false by simp;omega]
 ·have h0:∀x,gP x→oa x=true→bh x≠s:=λx hk ho he=>h ⟨x,hk,ho,he⟩
  refine .inr ⟨?_, ?_,h0⟩
  ·rw[qr s hs]
   cases hp:pI (eY 32 s [])with
   |none=>rfl
   |some a=>
    have hk:=Cc _ _ hp
    simp only
    rw[cK a hk]
    cases he:bh a==s with
    |false=>rfl
    |true=>
     have he:=eq_of_beq he
     exfalso
     by_cases hn:s=[]
     ·subst hn
      rw[show eY 32 ([]:aa) []=[[]] from rfl]at hp
      have:pI [[]]=none:=by
       unfold pI
       rw[show aR (([[]]:List aa).getD 0 [])=0 by decide+kernel]
       rfl
      rw[this]at hp
      cases hp
     ·exact h0 a hk (wa (by rw[he];exact hn)) he
  ·rw[wh s hs]
   cases hn:s==[]with
   |true=>rfl
   |false=>
    cases decide (3260<(s.length:Int))with
    |true=>rfl
    |false=>
     rw[cond_false,cond_false,hL _ (zF _)]
     cases he:bh (pS (eY 32 s []))==s with
     |false=>rfl
     |true=>
      have he:=eq_of_beq he
      have hn:s≠[]:=by simpa using hn
      exact absurd he (h0 _ (zF _) (wa (by rw[he];exact hn)))
theorem uj (s:aa)(hs:s.length≤4294967296):en.f (s,())=aD.f (s,()):=by
 rcases hP s hs with⟨x,_,_,_,h1,h2⟩|⟨h1,h2,_⟩<;>rw[h1,h2]
theorem sq {W:Type}(b:UInt8):∀(r:List aa) (j:Nat) (a:List Int),0<j→bv (W:=W) (λ(j:Nat) (x:aa) a=>bif decide (0<(j:Int))then .next ((a++(a5 [b]))++(a5 x))else .next (a++(a5 x))) j r a= .next (a++a5 (r.flatMap λx=>b::x))
 |[],j,a,_=>by simp[bv,a5]
 |x::r,j,a,hj=>by
  simp only[bv,show decide (0<(j:Int))=true by simp;omega,cond_true,Stp.elim]
  rw[sq b r (j+1) _ (by omega)]
  simp[a5]
theorem yO (b:UInt8)(x:aa):∀(r:List aa),dr b (x::r)=x++r.flatMap λy=>b::y:=by
 intro r
 induction r generalizing x with
 |nil=>simp[dr]
 |cons y r ih=>rw[gD b x _ (by simp),ih y];simp
theorem yl (l:List aa)(b:UInt8):gt.f (l,[b],())=dr b l:=by
 simp only[PX,gt,cY]
 rw[bP,bZ l _ rfl (F:=λ(j:Nat) (x:aa) a=>bif decide (0<(j:Int))then .next ((a++(a5 [b]))++(a5 x))else .next (a++(a5 x))) (by
  intro j x a hj
  simp only[iB,aL,getD_some hj,PX])]
 cases l with
 |nil=>rfl
 |cons x r=>
  simp only[bv,show decide (0<((0:Nat):Int))=false from rfl,cond_false,Stp.elim]
  rw[sq b r 1 _ (by omega),yO]
  simp only[Stp.elim,List.nil_append]
  rw[kN,cB,cB]
theorem AP:gP (Ty.zero .acti):=⟨⟨Int.le_refl _,by show(0:Int)<_;decide⟩,Int.le_refl _,by show(0:Int)<_;decide⟩
theorem v7 (x:List Acti)(h:∀y∈x,gP y):eE.f (x,())=ao.f (x,()):=by
 simp only[PX,eE,ao,co,bM]
 rw[show a8 (λj' a'=>(eN x j' a').nice) 1 (Int.toNat ((x.length:Int)-0)) 0 []=a8 (λj' a'=>(ck x j' a').nice) 1 (Int.toNat ((x.length:Int)-0)) 0 [] from sK (λi a=>by
  simp only[PX,eN,ck]
  rw[Ai _ (iJ AP h _)]) _ _ _]
 cases decide (60<(x.length:Int))with
 |true=>rfl
 |false=>
  cases a8 (λj' a'=>(ck x j' a').nice) 1 (Int.toNat ((x.length:Int)-0)) 0 []with
  |next a=>simp only[cond_false,Stp.elim,yl,mS]
  |out p=>rfl
theorem n6 (x:Acti)(hk:gP x):(oa x=true∧aD.f (bh x,())=(x,true))∨(bh x=[]∧aD.f (bh x,())=(tj,false)):=by
 cases ho:oa x with
 |true=>
  refine .inl ⟨rfl, ?_⟩
  have hl:=uA x
  rw[qr _ (by omega),oS x ho,(mv x hk ho).2]
  simp only[cK x hk,beq_self_eq_true,Bool.not_true,cond_false]
 |false=>
  have e:bh x=[]:=by unfold bh;rw[ho];rfl
  refine .inr ⟨e, ?_⟩
  rcases hP (bh x) (by rw[e];decide)with⟨y,_,h2,h3,_⟩|⟨h1,_⟩
  ·exact absurd (h3.trans e) (kU h2)
  ·exact h1
theorem vh (s:aa)(hs:s.length≤4294967296):(∃x,gP x∧aW.f (x,())=s∧aD.f (s,())=(x,true))∨aD.f (s,())=(tj,false):=by
 rcases hP s hs with⟨x,h1,_,h3,h4,_⟩|⟨h1,_⟩
 ·exact .inl ⟨x,h1,(cK x h1).trans h3,h4⟩
 ·exact .inr h1
theorem qo:aw.f ([],())=(⟨0,0,0⟩,false):=by
 have h:=gm [] 58 (by decide)
 rw[show(((58:UInt8).toNat:Nat):Int)=58 from rfl]at h
 simp only[PX,aw]
 rw[h]
 rfl
theorem tT (t:Tupl)(h:aG.f (t,())=false):aK.f (t,())=[]:=by
 simp only[PX,aK]
 rw[h]
 rfl
theorem sB (x0:List Int)(hk:gP (dZ.f (x0,())))(hl:(dV.f (x0,())).length≤4294967296):eo.f (x0,())=true:=by
 simp only[FX.f,PX,eo]
 cases lS.f (x0,())with
 |true=>rfl
 |false=>
 generalize dZ.f (x0,())=a at*
 generalize dV.f (x0,())=s at*
 generalize fQ.f (x0,())=t
 rw[hL a hk,cK a hk]
 simp only[beq_self_eq_true,Bool.not_true,cond_false]
 rw[uj s hl]
 have ht:(aw.f (aK.f (t,()),())).2=bO.f (t,())∧((aw.f (aK.f (t,()),())).2=true→(aw.f (aK.f (t,()),())).1=t):=by
  rw[lf]
  cases h:aG.f (t,())with
  |true=>rw[cd t h];exact⟨rfl,λ_=>rfl⟩
  |false=>rw[tT t h,qo];exact⟨rfl,λh=>absurd h (by decide)⟩
 generalize aw.f (aK.f (t,()),())=r at*
 have hend:(bif r.2==bO.f (t,())then bif !r.2 then true else(r.1.ip==t.ip)&&((r.1.port==t.port)&&((r.1.my==t.my)&&true))else false)=true:=by
  rw[←ht.1,beq_self_eq_true,cond_true]
  cases h:r.2 with
  |false=>rfl
  |true=>rw[ht.2 h];simp
 generalize(bif r.2==bO.f (t,())then bif !r.2 then true else(r.1.ip==t.ip)&&((r.1.port==t.port)&&((r.1.my==t.my)&&true))else false)=e at*
 subst hend
 have hb:∀u:Acti×Bool,aD.f (s,())=u→(bif u.2==u.2 then bif !u.2 then true else bif aW.f (u.1,())==s then true else false else false)=true:=λu hu=>by
  rw[beq_self_eq_true,cond_true]
  rcases vh s hl with⟨y,_,h2,h3⟩|h1
  ·rw[h3]at hu;subst hu;simp only[h2,beq_self_eq_true,Bool.not_true,cond_true,cond_false]
  ·rw[h1]at hu;subst hu;rfl
 have hb:=hb _ rfl
 generalize(bif (aD.f (s,())).2==(aD.f (s,())).2 then bif !(aD.f (s,())).2 then true else bif aW.f ((aD.f (s,())).1,())==s then true else false else false)=e at*
 subst hb
 rcases n6 a hk with⟨h1,h2⟩|⟨h1,h2⟩
 ·rw[h2,cK a hk]
  have:=kU h1
  rw[show(bh a==([]:aa))=false by rw[beq_eq_false_iff_ne];exact this]
  simp
 ·rw[h2,h1]
  rfl
theorem xf (x:List Int):eo.f (x,())=true:=by
 rcases Bool.eq_false_or_eq_true (lS.f (x,()))with hb|hb
 ·simp only[FX.f,PX,eo,hb,cond_true]
 have hx:=zR x hb
 have hd:=dZ.c.h (x,()) ⟨by simp only[sS];omega,hx⟩
 have hr:=dV.c.h (x,()) ⟨by simp only[sS];omega,hx⟩
 refine sB x ?_ (Nat.le_trans hr.2 (by decide))
 obtain⟨h1,h2,h3,h4⟩:=hd.2
 exact⟨⟨h1,h2⟩,h3,h4⟩
theorem yx (x:Acti)(ho:oa x=true):∀c∈bh x,c≠10:=by
 have hw:=(jQ x ho).1.2
 have h:∀l:List aa,(∀p∈l,∀c∈p,c≠32∧c≠10)→∀c∈dr 32 l,c≠10:=by
  intro l
  induction l with
  |nil=>intro _ c hc;simp[dr]at hc
  |cons p r ih=>
   intro hp c hc
   by_cases hr:r=[]
   ·subst hr
    simp only[dr]at hc
    exact(hp p (by simp) c hc).2
   ·rw[gD 32 p r hr]at hc
    rcases List.mem_append.1 hc with hc|hc
    ·exact(hp p (by simp) c hc).2
    ·rcases List.mem_cons.1 hc with rfl|hc
     ·decide
     ·exact ih (λq hq=>hp q (by simp[hq])) c hc
 unfold bh
 rw[ho,cond_true]
 exact h _ hw
theorem n5:∀(l:List Acti) (j:Nat) (a:List aa),(∀y∈l,gP y)→(l.all oa=true→bv (W:=List aa) (λ_ (y:Acti) a=>bif aW.f (y,())==[]then .out a else .next (a++[aW.f (y,())])) j l a= .next (a++l.map bh))∧
  (l.all oa=false→∃w,bv (W:=List aa) (λ_ (y:Acti) a=>bif aW.f (y,())==[]then .out a else .next (a++[aW.f (y,())])) j l a= .out w)
 |[],j,a,_=>⟨λ_=>by simp[bv],λh=>by simp at h⟩
 |y::r,j,a,hk=>by
  have ih:=n5 r (j+1) (a++[bh y]) (λz hz=>hk z (by simp[hz]))
  simp only[bv,cK y (hk y (by simp)),List.all_cons]
  cases ho:oa y with
  |true=>
   rw[show(bh y==([]:aa))=false by rw[beq_eq_false_iff_ne];exact kU ho]
   simp only[cond_false,Stp.elim,Bool.true_and]
   exact⟨λh=>by rw[ih.1 h];simp,ih.2⟩
  |false=>
   rw[show(bh y==([]:aa))=true by unfold bh;rw[ho];rfl]
   exact⟨λh=>by simp at h,λ_=>⟨a,rfl⟩⟩
theorem mG (l:List Acti)(hk:∀y∈l,gP y):ao.f (l,())=bif decide (60<(l.length:Int))then[]else bif l.all oa then dr 10 (l.map bh)else[]:=by
 simp only[PX,ao,bM]
 rw[bP,bZ l _ rfl (F:=λ_ (y:Acti) a=>bif aW.f (y,())==[]then .out a else .next (a++[aW.f (y,())])) (by
  intro j x a hj
  simp only[ck,aL,getD_some hj,PX])]
 cases decide (60<(l.length:Int))with
 |true=>rfl
 |false=>
  have h:=n5 l 0 [] hk
  cases ha:l.all oa with
  |true=>rw[h.1 ha];simp only[cond_false,cond_true,Stp.elim,mS,List.nil_append]
  |false=>obtain⟨w,hw⟩:=h.2 ha;rw[hw];rfl
theorem yo (s:aa)(hs:s.length≤4294967296):(∃x,gP x∧oa x=true∧bh x=s∧aD.f (s,())=(x,true))∨(aD.f (s,())=(tj,false)):=by
 rcases hP s hs with⟨x,h1,h2,h3,h4,_⟩|⟨h1,_⟩
 ·exact .inl ⟨x,h1,h2,h3,h4⟩
 ·exact .inr h1
theorem q0:∀(ws:List aa) (j:Nat) (a:List Acti),(∀p∈ws,p.length≤4294967296)→
  (∃l:List Acti,(∀y∈l,gP y)∧l.all oa=true∧l.map bh=ws∧bv (W:=Int×List Acti) (λj (p:aa) a=>bif !(aD.f (p,())).2 then .out ((j:Int),a)else .next (a++[(aD.f (p,())).1])) j ws a= .next (a++l))∨
  (∃(k:Nat) (w:List Acti),bv (W:=Int×List Acti) (λj (p:aa) a=>bif !(aD.f (p,())).2 then .out ((j:Int),a)else .next (a++[(aD.f (p,())).1])) j ws a= .out ((k:Int),w))
 |[],j,a,_=> .inl ⟨[],by simp,rfl,rfl,by simp[bv]⟩
 |p::r,j,a,hp=>by
  simp only[bv]
  rcases yo p (hp p (by simp))with⟨x,h1,h2,h3,h4⟩|h1
  ·rw[h4]
   simp only[Bool.not_true,cond_false,Stp.elim]
   rcases q0 r (j+1) (a++[x]) (λz hz=>hp z (by simp[hz]))with⟨l,g1,g2,g3,g4⟩|⟨k,w,g⟩
   ·refine .inl ⟨x::l, ?_, ?_, ?_, ?_⟩
    ·intro y hy
     rcases List.mem_cons.1 hy with rfl|hy
     ·exact h1
     ·exact g1 y hy
    ·rw[List.all_cons,h2,g2];rfl
    ·rw[List.map_cons,h3,g3]
    ·rw[g4];simp
   ·exact .inr ⟨k,w,g⟩
  ·rw[h1]
   exact .inr ⟨j,a,rfl⟩
theorem gG (s:aa)(hs:s.length≤4294967296):bd.f (s,())=bif s==[]then([],-1)else bif decide (60<((eY 10 s []).length:Int))then([],60)else
  Stp.elim (λl=>(l,-1)) (λw=>([],w.1)) (bv (W:=Int×List Acti) (λj (p:aa) a=>bif !(aD.f (p,())).2 then .out ((j:Int),a)else .next (a++[(aD.f (p,())).1])) 0 (eY 10 s []) []):=by
 have hp:=gm s 10 hs
 rw[show(((10:UInt8).toNat:Nat):Int)=10 from rfl]at hp
 simp only[PX,bd,cj,hp]
 generalize eY 10 s []=ws
 rw[bP,bZ ws _ rfl (F:=λj (p:aa) a=>bif !(aD.f (p,())).2 then .out ((j:Int),a)else .next (a++[(aD.f (p,())).1])) (by
  intro j x a hj
  simp only[hH,aL,getD_some hj,PX])]
theorem vA (s:aa)(hs:s.length≤4294967296):f6.f (s,())=bd.f (s,()):=by
 have hp:=lz s 10 hs
 rw[show(((10:UInt8).toNat:Nat):Int)=10 from rfl]at hp
 have hl:=n8 10 s []
 rw[gG s hs]
 simp only[PX,f6,cq,hp]
 generalize eY 10 s []=ws at*
 rw[bP,bZ ws _ rfl (F:=λj (p:aa) a=>bif !(aD.f (p,())).2 then .out ((j:Int),a)else .next (a++[(aD.f (p,())).1])) (by
  intro j x a hj
  have:=hl x (List.mem_of_getElem? hj)
  simp only[List.length_nil]at this
  simp only[hY,aL,getD_some hj,PX,uj x (by omega)])]
theorem kL (s:aa)(hs:s.length≤4294967296):(∃l,bd.f (s,())=(l,-1)∧ao.f (l,())=s∧(s≠[]→l.map bh=eY 10 s []))∨(∃k:Int,0≤k∧bd.f (s,())=([],k)):=by
 rw[gG s hs]
 have hl:=n8 10 s []
 have hj:=iP 10 s []
 by_cases h0:s=[]
 ·subst h0
  exact .inl ⟨[],rfl,by rw[mG [] (by simp)];rfl,λh=>absurd rfl h⟩
 rw[show(s==([]:aa))=false by rw[beq_eq_false_iff_ne];exact h0,cond_false]
 generalize eY 10 s []=ws at*
 by_cases h6:60<(ws.length:Int)
 ·rw[decide_eq_true h6,cond_true]
  exact .inr ⟨60,by decide,rfl⟩
 rw[decide_eq_false h6,cond_false]
 rcases q0 ws 0 [] (λp hp=>by have:=hl p hp;simp only[List.length_nil]at this;omega)with⟨l,g1,g2,g3,g4⟩|⟨k,w,g⟩
 ·rw[g4]
  refine .inl ⟨l,rfl, ?_,λ_=>g3⟩
  have hn:l.length=ws.length:=by rw[←g3,List.length_map]
  rw[mG l g1,hn,decide_eq_false h6,g2,g3,hj]
  rfl
 ·rw[g]
  exact .inr ⟨k,by omega,rfl⟩
theorem p7 (l:List Acti)(hk:∀y∈l,gP y)(hl:(ao.f (l,())).length≤4294967296)(hn:ao.f (l,())≠[]):∃m,bd.f (ao.f (l,()),())=(m,-1)∧m.length=l.length∧ao.f (m,())=ao.f (l,()):=by
 have he:=mG l hk
 cases h6:decide (60<(l.length:Int))with
 |true=>rw[h6]at he;exact absurd he hn
 |false=>
 cases ha:l.all oa with
 |false=>rw[h6,ha]at he;exact absurd he hn
 |true=>
 rw[h6,ha,cond_false,cond_true]at he
 have hne:l.map bh≠[]:=λh=>hn (by rw[he,h];rfl)
 have hc:eY 10 (dr 10 (l.map bh)) []=l.map bh:=rM 10 _ hne (λp hp=>by
  obtain⟨x,hx,rfl⟩:=List.mem_map.1 hp
  exact yx x (List.all_eq_true.1 ha x hx))
 rcases kL (ao.f (l,())) hl with⟨m,g1,g2,g3⟩|⟨k,hk0,g⟩
 ·refine⟨m,g1, ?_,g2⟩
  have:=g3 hn
  rw[he,hc]at this
  have:=congrArg List.length this
  simpa using this
 ·exfalso
  rw[gG _ hl,show(ao.f (l,())==([]:aa))=false by rw[beq_eq_false_iff_ne];exact hn,cond_false,he,hc,List.length_map,h6,cond_false]at g
  have hr:∀(r:List Acti) (j:Nat) (a:List Acti),(∀y∈r,gP y)→r.all oa=true→bv (W:=Int×List Acti) (λj (p:aa) a=>bif !(aD.f (p,())).2 then .out ((j:Int),a)else .next (a++[(aD.f (p,())).1])) j (r.map bh) a= .next (a++r):=by
   intro r
   induction r with
   |nil=>intro j a _ _;simp[bv]
   |cons y r ih=>
    intro j a hy hall
    rw[List.all_cons,Bool.and_eq_true]at hall
    simp only[List.map_cons,bv]
    rcases n6 y (hy y (by simp))with⟨_,h2⟩|⟨h1,_⟩
    ·rw[h2]
     simp only[Bool.not_true,cond_false,Stp.elim]
     rw[ih (j+1) _ (λz hz=>hy z (by simp[hz])) hall.2]
     simp
    ·exact absurd h1 (kU hall.1)
  rw[hr l 0 [] hk ha]at g
  have:=congrArg Prod.snd g
  simp only[Stp.elim]at this
  omega
theorem x8 (x:List Int):gv.f (x,())=true:=by
 rcases Bool.eq_false_or_eq_true (lS.f (x,()))with hb|hb
 ·simp only[FX.f,PX,gv,hb,cond_true]
 have hx:=zR x hb
 have hd:=bz.c.h (x,()) ⟨by simp only[sS];omega,hx⟩
 have hr:=cA.c.h (x,()) ⟨by simp only[sS];omega,hx⟩
 have hk:∀y∈bz.f (x,()),gP y:=λy hy=>by
  obtain⟨h1,h2,h3,h4⟩:=hd.2 y hy
  exact⟨⟨h1,h2⟩,h3,h4⟩
 have hl:(cA.f (x,())).length≤4294967296:=Nat.le_trans hr.2 (by decide)
 have ht:=(ao.c.h (bz.f (x,()),()) hd.1).2
 have ht:(ao.f (bz.f (x,()),())).length≤4294967296:=Nat.le_trans ht (by decide)
 simp only[FX.f,PX,gv,hb,cond_false]
 generalize bz.f (x,())=l at*
 generalize cA.f (x,())=s at*
 rw[v7 l hk,vA s hl]
 simp only[beq_self_eq_true,Bool.not_true,cond_false]
 have h1:(bif !(ao.f (l,())==[])then bif (bd.f (ao.f (l,()),())).2 != -1 then(true,())else bif ((bd.f (ao.f (l,()),())).1.length:Int) != (l.length:Int)then(true,())else(!(ao.f ((bd.f (ao.f (l,()),())).1,())==ao.f (l,())),())else(false,()))=(false,()):=by
  by_cases hn:ao.f (l,())=[]
  ·rw[hn];rfl
  ·obtain⟨m,g1,g2,g3⟩:=p7 l hk ht hn
   rw[g1,show(ao.f (l,())==([]:aa))=false by rw[beq_eq_false_iff_ne];exact hn]
   simp only[g2,g3]
   simp
 rw[h1]
 rcases kL s hl with⟨m,g1,g2,_⟩|⟨k,hk0,g⟩
 ·simp only[g1,g2]
  simp
 ·simp only[g]
  simp[hk0]

end
end Go.Proofs.YtfpdenjmlnhnnaaGreatDoor
