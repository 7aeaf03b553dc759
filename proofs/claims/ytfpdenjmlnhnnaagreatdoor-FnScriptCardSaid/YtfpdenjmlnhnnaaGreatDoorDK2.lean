/-
  Contracts of functions and plain laws (printed by a program): each theorem says what a function of the program returns; conditions are its hypotheses.
-/
import Derived.Test.YtfpdenjmlnhnnaaGreatDoorDK1
set_option linter.all false
set_option maxRecDepth 4000
namespace Go.Proofs.YtfpdenjmlnhnnaaGreatDoor
open Go Go.RowKit
noncomputable section
theorem t8 (n:Nat)(h:n≤4294967295):(cl n).length≤15:=by
 unfold cl
 have h1:=jx (n/16777216) (by omega)
 have h2:=jx (n/65536%256) (by omega)
 have h3:=jx (n/256%256) (by omega)
 have h4:=jx (n%256) (by omega)
 simp only[List.length_append,List.length_cons]
 omega
theorem pb (p:aa)(hp:p.length≤4294967296):(∃n:Nat,n≤4294967295∧dL.f (p,())=((n:Int),true)∧cl n=p)∨(dL.f (p,())=(0,false)∧∀n,n≤4294967295→cl n≠p):=by
 rcases ph p hp with⟨a,b,c,d,hc,ga,gb,gc,gd,hi⟩|⟨hb,hi⟩
 ·have e:∀w,dN w=true→val w 0≤255∧iQ w=true:=λw h=>by simp only[dN,Bool.and_eq_true,decide_eq_true_eq]at h;exact⟨h.2,h.1⟩
  have ea:=(e a ga).1
  have eb:=(e b gb).1
  have ec:=(e c gc).1
  have ed:=(e d gd).1
  refine .inl ⟨_, ?_,hi, ?_⟩
  ·unfold gG;omega
  ·have hj:=iR 46 p []
   rw[hc,List.nil_append]at hj
   rw[←hj]
   have n1:gG (val a 0) (val b 0) (val c 0) (val d 0)/16777216=val a 0:=by unfold gG;omega
   have n2:gG (val a 0) (val b 0) (val c 0) (val d 0)/65536%256=val b 0:=by unfold gG;omega
   have n3:gG (val a 0) (val b 0) (val c 0) (val d 0)/256%256=val c 0:=by unfold gG;omega
   have n4:gG (val a 0) (val b 0) (val c 0) (val d 0)%256=val d 0:=by unfold gG;omega
   unfold cl
   rw[n1,n2,n3,n4,cQ (e a ga).2,cQ (e b gb).2,cQ (e c gc).2,cQ (e d gd).2]
   rfl
 ·refine .inr ⟨hi,λn hn he=>hb ?_⟩
  rw[←he]
  exact qi n hn
theorem mi (p:aa):(∃n:Nat,cE.f (p,())=((n:Int),true)∧bB n=p)∨(cE.f (p,())=(0,false)∧∀n,n≤65535→bB n≠p):=by
 rw[←nX,jE]
 cases h:iQ p with
 |true=>exact .inl ⟨val p 0,rfl,cQ h⟩
 |false=>
  refine .inr ⟨rfl,λn hn he=> ?_⟩
  have:=vU (n:=n) (by omega)
  rw[he,h]at this
  cases this
theorem xj (s:aa)(hs:s.length≤4294967296):dA.f (s,())=aw.f (s,()):=by
 have hp:=lq s 58 hs
 have hq:=gl s 58 hs
 rw[show(((58:UInt8).toNat:Nat):Int)=58 from rfl]at hp hq
 have hl:=nU 58 s []
 have hj:=iR 58 s []
 rw[List.nil_append]at hj
 simp only[PX,dA,aw]
 rw[hp,hq]
 have hc:=λa b c (h:hP a b c=s)=>(congrArg (λx=>eX 58 x []) h).symm.trans (t9 a b c)
 have hnil:s=[]→eX 58 s []=[[]]:=λh=>by rw[h];rfl
 generalize eX 58 s []=ws at*
 by_cases h3:ws.length=3
 ·match ws,h3 with
  |[p0,p1,p2],_=>
   simp only[show(((([p0,p1,p2]:List aa).length:Nat):Int) != 3)=false from rfl,cond_false,PX,List.getD_cons_zero,List.getD_cons_succ,nX]
   have l0:p0.length≤4294967296:=by have:=hl p0 (by simp);simp at this;omega
   rw[Ak p0 l0]
   have hss:s=p0++58::(p1++58::p2):=hj.symm
   rcases pb p0 l0 with⟨a,ha,e0,t0⟩|⟨e0,t0⟩
   ·rcases mi p1 with⟨b,e1,t1⟩|⟨e1,t1⟩
    ·rcases mi p2 with⟨c,e2,t2⟩|⟨e2,t2⟩
     ·rw[e0,e1,e2]
      simp only[Bool.not_true,cond_false]
      cases ht:aG.f (⟨a,b,c⟩,())with
      |false=>
       rw[eL _ ht]
       have:(([]:aa)==s)=false:=by
        rw[beq_eq_false_iff_ne,hss]
        intro h
        simp at h
       simp only[this,Bool.not_false,cond_true]
      |true=>
       have ht':=ht
       rw[d8]at ht'
       simp only[Bool.and_eq_true,decide_eq_true_eq]at ht'
       rw[eB a b c (by omega) (by omega) (by omega)]
       have:hP a b c=s:=by unfold hP;rw[t0,t1,t2,hss]
       simp only[this,beq_self_eq_true,Bool.not_true,cond_false]
     ·rw[e0,e1,e2]
      have key:(bH.f (⟨a,b,0⟩,())==s)=false:=by
       rw[beq_eq_false_iff_ne]
       intro he
       cases ht:aG.f (⟨a,b,0⟩,())with
       |false=>rw[eL _ ht]at he;have:=hnil he.symm;simp at this
       |true=>
        rw[d8]at ht
        simp only[Bool.and_eq_true,decide_eq_true_eq]at ht
        rw[show(0:Int)=((0:Nat):Int) from rfl,eB a b 0 (by omega) (by omega) (by omega)]at he
        have:=hc a b 0 he
        simp only[List.cons.injEq]at this
        exact t2 0 (by omega) this.2.2.1.symm
      simp only[key,Bool.not_true,Bool.not_false,cond_false,cond_true]
    ·rw[e0,e1]
     have key:∀c:Int,(bH.f (⟨a,0,c⟩,())==s)=false:=λc=>by
      rw[beq_eq_false_iff_ne]
      intro he
      cases ht:aG.f (⟨a,0,c⟩,())with
      |false=>rw[eL _ ht]at he;have:=hnil he.symm;simp at this
      |true=>
       rw[d8]at ht
       simp only[Bool.and_eq_true,decide_eq_true_eq]at ht
       obtain⟨c,rfl⟩:=Int.eq_ofNat_of_zero_le ht.2.2.1
       rw[show(0:Int)=((0:Nat):Int) from rfl,eB a 0 c (by omega) (by omega) (by omega)]at he
       have:=hc a 0 c he
       simp only[List.cons.injEq]at this
       exact t1 0 (by omega) this.2.1.symm
     simp only[key,Bool.not_true,Bool.not_false,cond_false,cond_true]
   ·rw[e0]
    have key:∀b c:Int,(bH.f (⟨0,b,c⟩,())==s)=false:=λb c=>by
     rw[beq_eq_false_iff_ne]
     intro he
     cases ht:aG.f (⟨0,b,c⟩,())with
     |false=>rw[eL _ ht]at he;have:=hnil he.symm;simp at this
     |true=>
      rw[d8]at ht
      simp only[Bool.and_eq_true,decide_eq_true_eq]at ht
      obtain⟨b,rfl⟩:=Int.eq_ofNat_of_zero_le ht.2.1.1
      obtain⟨c,rfl⟩:=Int.eq_ofNat_of_zero_le ht.2.2.1
      rw[show(0:Int)=((0:Nat):Int) from rfl,eB 0 b c (by omega) (by omega) (by omega)]at he
      have:=hc 0 b c he
      simp only[List.cons.injEq]at this
      exact t0 0 (by omega) this.1.symm
    simp only[key,Bool.not_false,cond_true]
 ·simp only[PX,show((ws.length:Int) != 3)=true by simp;omega,cond_true]
theorem vz (n:Nat):Lib.decDigits n=bB n:=by
 induction n using Nat.strongRecOn with
 |_ n ih=>
  rw[Lib.decDigits]
  by_cases h:n<10
  ·rw[eP h,dif_pos h]
  ·rw[ib h,dif_neg h,ih (n/10) (by omega)]
theorem eh (n:Nat):dV.f ((n:Int),())=bB n:=by
 simp only[PX,dV,u4];unfold lk Lib.itoa
 rw[if_neg (by omega),Int.toNat_natCast,vz]
theorem mF (l:List aa)(b:UInt8):lc.f (l,[b],())=du b l:=by
 simp only[PX,lc,uR];unfold dH
 cases l with
 |nil=>rfl
 |cons x r=>
  rw[Lib.join_cons]
  induction r generalizing x with
  |nil=>simp[du,Lib.joinTail]
  |cons y r ih=>
   rw[gr b x _ (by simp),←ih y]
   simp[Lib.joinTail]
theorem pH (n:Nat)(h:n≤4294967295):fq.f ((n:Int),())=cl n:=by
 simp only[PX,fq]
 have m8:∀m:Nat,m<1099511627776→bits .and .i64 (m:Int) 255=((m%256:Nat):Int):=λm hm=>by
  have:=bits_mask .i64 63 (by decide) ug 8 (by decide) (m:Int) (by omega) (by omega)
  rw[show((255:Int))=2 ^ 8-1 by decide,this]
  omega
 rw[ux]
 simp only[PX,decide_eq_true (show(0:Int)≤n by omega),decide_eq_true (show(n:Int)≤4294967295 by omega),Bool.and_self,Bool.not_true,cond_false]
 rw[show(n:Int).fdiv 16777216=((n/16777216:Nat):Int) by rw[Int.fdiv_eq_ediv_of_nonneg _ (by omega)];omega,
  show(n:Int).fdiv 65536=((n/65536:Nat):Int) by rw[Int.fdiv_eq_ediv_of_nonneg _ (by omega)];omega,
  show(n:Int).fdiv 256=((n/256:Nat):Int) by rw[Int.fdiv_eq_ediv_of_nonneg _ (by omega)];omega,
  m8 _ (by omega),m8 _ (by omega),m8 _ (by omega),eh,eh,eh,eh,mF]
 rfl
theorem gV {t:Tupl}(h:aG.f (t,())=true):∃a b c:Nat,t=⟨a,b,c⟩∧a≤4294967295∧b≤65535∧c≤65535:=by
 obtain⟨a,b,c⟩:=t
 rw[d8]at h
 simp only[Bool.and_eq_true,decide_eq_true_eq]at h
 obtain⟨a,rfl⟩:=Int.eq_ofNat_of_zero_le h.1.1
 obtain⟨b,rfl⟩:=Int.eq_ofNat_of_zero_le h.2.1.1
 obtain⟨c,rfl⟩:=Int.eq_ofNat_of_zero_le h.2.2.1
 exact⟨a,b,c,rfl,by omega,by omega,by omega⟩
theorem fo (a b c:Nat)(ha:a≤4294967295)(hb:b≤65535)(hc:c≤65535):aK.f (⟨a,b,c⟩,())=hP a b c:=by
 simp only[PX,aK]
 rw[d8]
 simp only[PX,decide_eq_true (show(0:Int)≤a by omega),decide_eq_true (show(a:Int)≤4294967295 by omega),decide_eq_true (show(0:Int)≤b by omega),decide_eq_true (show(b:Int)≤65535 by omega),decide_eq_true (show(0:Int)≤c by omega),decide_eq_true (show(c:Int)≤65535 by omega),Bool.and_self,Bool.not_true,cond_false]
 rw[pH a ha,eh b,eh c]
 unfold hP
 simp only[List.append_assoc,List.cons_append,List.nil_append]
theorem w6 (t:Tupl):bH.f (t,())=aK.f (t,()):=by
 cases h:aG.f (t,())with
 |true=>
  obtain⟨a,b,c,rfl,ha,hb,hc⟩:=gV h
  rw[eB a b c ha hb hc,fo a b c ha hb hc]
 |false=>
  rw[eL t h]
  simp only[PX,aK]
  simp only[PX,h,Bool.not_false,cond_true]
def lD (n:Nat):aa:=[UInt8.ofNat (n/72057594037927936),UInt8.ofNat (n/281474976710656%256),UInt8.ofNat (n/1099511627776%256),UInt8.ofNat (n/4294967296%256),UInt8.ofNat (n/16777216%256),UInt8.ofNat (n/65536%256),UInt8.ofNat (n/256%256),UInt8.ofNat (n%256)]
theorem y2 (n:Nat)(h:n<18446744073709551616):kj.f ((n:Int),())=fQ (lD n):=by
 simp only[PX,kj,dZ]
 have fd:∀m:Nat,(m:Int).fdiv 256=((m/256:Nat):Int):=λm=>by rw[Int.fdiv_eq_ediv_of_nonneg _ (by omega)];omega
 have w8:∀m:Nat,IntKind.wrap .u8 (m:Int)=((m%256:Nat):Int):=λm=>by rw[gn];omega
 simp only[show Int.toNat (7-0+1)=8 from rfl,a7,lW,Stp.elim,PX,fd,w8,Nat.div_div_eq_div_mul,
  show(7:Int)+ -1=6 from rfl,show(6:Int)+ -1=5 from rfl,show(5:Int)+ -1=4 from rfl,show(4:Int)+ -1=3 from rfl,show(3:Int)+ -1=2 from rfl,show(2:Int)+ -1=1 from rfl,show(1:Int)+ -1=0 from rfl,
  show Int.toNat 0=0 from rfl,show Int.toNat 1=1 from rfl,show Int.toNat 2=2 from rfl,show Int.toNat 3=3 from rfl,show Int.toNat 4=4 from rfl,show Int.toNat 5=5 from rfl,show Int.toNat 6=6 from rfl,show Int.toNat 7=7 from rfl,
  List.replicate,List.set,aA,List.map_cons,List.map_nil,Int.toNat_natCast,zD]
 unfold lD
 rw[show n/(256*256*256*256*256*256*256)%256=n/72057594037927936 by omega]
theorem zc (n:Nat)(h:n<18446744073709551616):ka.f ((n:Int),())=fQ (lD n):=by
 simp only[PX,ka]
 have e1:IntKind.wrap .i64 (IntKind.wrap .u64 ((n:Int).tdiv 4294967296))=((n/4294967296:Nat):Int):=by
  rw[(iT 4294967296).1 (by omega)]
  have:IntKind.wrap .u64 ((n:Int)/4294967296)=(n:Int)/4294967296:=by simp[IntKind.wrap,IntKind.bits,IntKind.signed];omega
  rw[this,a9 (by omega) (by omega)];omega
 have e2:IntKind.wrap .i64 ((n:Int).tmod 4294967296)=((n%4294967296:Nat):Int):=by
  rw[(eM 4294967296).1 (by omega),a9 (by omega) (by omega)];omega
 simp only[PX,e1,e2,zr]
 rw[rJ _ (by omega),rJ _ (by omega)]
 unfold lD
 rw[show n/4294967296/16777216=n/72057594037927936 by omega,show n/4294967296/65536%256=n/281474976710656%256 by omega,show n/4294967296/256%256=n/1099511627776%256 by omega,
  show n%4294967296/16777216=n/16777216%256 by omega,show n%4294967296/65536%256=n/65536%256 by omega,show n%4294967296/256%256=n/256%256 by omega,show n%4294967296%256=n%256 by omega]
 rfl
theorem pn (n:Nat)(h:n<18446744073709551616):bL.f ((fQ (lD n)),())=((n:Int),true):=by
 simp only[PX,bL,dm]
 rw[ud _ (by rw[fy];show 2*8≤_;omega),lv]
 have st:∀(a b:Nat),a<72057594037927936→b<256→bits .or .u64 (IntKind.wrap .u64 ((a:Int)*256)) (IntKind.wrap .u64 ((UInt8.ofNat b).toNat:Int))=((a*256+b:Nat):Int):=λa b ha hb=>by
  rw[iK hb,fa _ (by omega) (by omega),fa _ (by omega) (by omega),bits_join .u64 64 (by decide) fa 8 _ _ (by omega) (by omega) (by omega) (by omega) (by omega) (by omega)]
  omega
 simp only[PX,Bool.not_true,cond_false,show(((lD n).length:Int) != 8)=false from rfl,show Int.toNat (8-0)=8 from rfl,a7,gQ,Stp.elim,
  show(0:Int)+1=1 from rfl,show(1:Int)+1=2 from rfl,show(2:Int)+1=3 from rfl,show(3:Int)+1=4 from rfl,show(4:Int)+1=5 from rfl,show(5:Int)+1=6 from rfl,show(6:Int)+1=7 from rfl,
  show Int.toNat 0=0 from rfl,show Int.toNat 1=1 from rfl,show Int.toNat 2=2 from rfl,show Int.toNat 3=3 from rfl,show Int.toNat 4=4 from rfl,show Int.toNat 5=5 from rfl,show Int.toNat 6=6 from rfl,show Int.toNat 7=7 from rfl]
 simp only[au,lD,List.getD_cons_zero,List.getD_cons_succ]
 have h0:=st 0 (n/72057594037927936) (by omega) (by omega)
 rw[show((0:Nat):Int)=0 from rfl]at h0
 rw[h0,st _ _ (by omega) (by omega),st _ _ (by omega) (by omega),st _ _ (by omega) (by omega),st _ _ (by omega) (by omega),st _ _ (by omega) (by omega),st _ _ (by omega) (by omega),st _ _ (by omega) (by omega)]
 congr 2
 omega
theorem AN (a b:Nat)(ha:a<4294967296)(hb:b<256):IntKind.wrap .i64 ((IntKind.wrap .i64 (256*(a:Int)))+(IntKind.wrap .i64 ((UInt8.ofNat b).toNat:Int)))=((256*a+b:Nat):Int):=by
 rw[iK hb,a9 (m:=256*(a:Int)) (by omega) (by omega),a9 (m:=((b:Nat):Int)) (by omega) (by omega),a9 (by omega) (by omega)]
 omega
theorem oZ (s:aa)(p j:Nat)(x:Int)(a b:Nat)(hs:s.getD (p+j) 0=UInt8.ofNat b)(ha:a<4294967296)(hb:b<256)(hp:p+j<4294967296):(aY s (p:Int) (j:Int) (a:Int)).nice= .next ((256*a+b:Nat):Int):=by
 simp only[PX,aY];unfold au
 rw[a9 (m:=(p:Int)+j) (by omega) (by omega),show((p:Int)+j).toNat=p+j by omega,hs,AN a b ha hb]
theorem Dw (n:Nat)(h:n<18446744073709551616):fe.f ((lD n),0,4,())=(((n/4294967296:Nat):Int),true):=by
 have i0:bJ.f (4,1,6,())=true:=rfl
 have hl:(IntKind.wrap .i64 (((lD n).length:Int)-4))=4:=by rw[show(lD n).length=8 from rfl];decide+kernel
 have i1:bJ.f (0,0,4,())=true:=rfl
 have e0:(aY (lD n) 0 0 0).nice= .next ((256*0+n/72057594037927936:Nat):Int):=oZ (lD n) 0 0 4 (0) (n/72057594037927936) rfl (by omega) (by omega) (by omega)
 have e1:(aY (lD n) 0 1 ((256*0+n/72057594037927936:Nat):Int)).nice= .next ((256*(256*0+n/72057594037927936)+n/281474976710656%256:Nat):Int):=oZ (lD n) 0 1 4 (256*0+n/72057594037927936) (n/281474976710656%256) rfl (by omega) (by omega) (by omega)
 have e2:(aY (lD n) 0 2 ((256*(256*0+n/72057594037927936)+n/281474976710656%256:Nat):Int)).nice= .next ((256*(256*(256*0+n/72057594037927936)+n/281474976710656%256)+n/1099511627776%256:Nat):Int):=oZ (lD n) 0 2 4 (256*(256*0+n/72057594037927936)+n/281474976710656%256) (n/1099511627776%256) rfl (by omega) (by omega) (by omega)
 have e3:(aY (lD n) 0 3 ((256*(256*(256*0+n/72057594037927936)+n/281474976710656%256)+n/1099511627776%256:Nat):Int)).nice= .next ((256*(256*(256*(256*0+n/72057594037927936)+n/281474976710656%256)+n/1099511627776%256)+n/4294967296%256:Nat):Int):=oZ (lD n) 0 3 4 (256*(256*(256*0+n/72057594037927936)+n/281474976710656%256)+n/1099511627776%256) (n/4294967296%256) rfl (by omega) (by omega) (by omega)
 simp only[PX,fe,dF]
 rw[i0,hl,i1]
 simp only[Bool.not_true,cond_false]
 rw[show Int.toNat (4-0)=4 from rfl,a7,e0,Stp.elim,show(0:Int)+1=1 from rfl,a7,e1,Stp.elim,show(1:Int)+1=2 from rfl,a7,e2,Stp.elim,show(2:Int)+1=3 from rfl,a7,e3,Stp.elim,a7,Stp.elim]
 refine congrArg (λm:Nat=>((m:Int),true)) ?_
 omega
theorem C3 (n:Nat)(h:n<18446744073709551616):fe.f ((lD n),4,4,())=(((n%4294967296:Nat):Int),true):=by
 have i0:bJ.f (4,1,6,())=true:=rfl
 have hl:(IntKind.wrap .i64 (((lD n).length:Int)-4))=4:=by rw[show(lD n).length=8 from rfl];decide+kernel
 have i1:bJ.f (4,0,4,())=true:=rfl
 have e0:(aY (lD n) 4 0 0).nice= .next ((256*0+n/16777216%256:Nat):Int):=oZ (lD n) 4 0 4 (0) (n/16777216%256) rfl (by omega) (by omega) (by omega)
 have e1:(aY (lD n) 4 1 ((256*0+n/16777216%256:Nat):Int)).nice= .next ((256*(256*0+n/16777216%256)+n/65536%256:Nat):Int):=oZ (lD n) 4 1 4 (256*0+n/16777216%256) (n/65536%256) rfl (by omega) (by omega) (by omega)
 have e2:(aY (lD n) 4 2 ((256*(256*0+n/16777216%256)+n/65536%256:Nat):Int)).nice= .next ((256*(256*(256*0+n/16777216%256)+n/65536%256)+n/256%256:Nat):Int):=oZ (lD n) 4 2 4 (256*(256*0+n/16777216%256)+n/65536%256) (n/256%256) rfl (by omega) (by omega) (by omega)
 have e3:(aY (lD n) 4 3 ((256*(256*(256*0+n/16777216%256)+n/65536%256)+n/256%256:Nat):Int)).nice= .next ((256*(256*(256*(256*0+n/16777216%256)+n/65536%256)+n/256%256)+n%256:Nat):Int):=oZ (lD n) 4 3 4 (256*(256*(256*0+n/16777216%256)+n/65536%256)+n/256%256) (n%256) rfl (by omega) (by omega) (by omega)
 simp only[PX,fe,dF]
 rw[i0,hl,i1]
 simp only[Bool.not_true,cond_false]
 rw[show Int.toNat (4-0)=4 from rfl,a7,e0,Stp.elim,show(0:Int)+1=1 from rfl,a7,e1,Stp.elim,show(1:Int)+1=2 from rfl,a7,e2,Stp.elim,show(2:Int)+1=3 from rfl,a7,e3,Stp.elim,a7,Stp.elim]
 refine congrArg (λm:Nat=>((m:Int),true)) ?_
 omega
theorem ul (n:Nat)(h:n<18446744073709551616):cr.f ((fQ (lD n)),())=(n:Int):=by
 simp only[PX,cr]
 rw[n7 _ (by rw[fy];show 2*8≤_;omega),lv]
 simp only[PX,Dw n h,C3 n h]
 rw[fa (((n/4294967296:Nat):Int)) (by omega) (by omega),fa (((n%4294967296:Nat):Int)) (by omega) (by omega),fa (((n/4294967296:Nat):Int)*4294967296) (by omega) (by omega),fa _ (by omega) (by omega)]
 omega
theorem tQ (k:Int):iM.f (k,())=ak.f (k,()):=by
 simp only[PX,iM,ak]
 rw[en,dG]
theorem wk (kd:Int)(t:Tupl)(n:Int)(tx:aa)(mac:Mac):d4.f (⟨kd,t,n,tx,mac⟩,())=((decide (1≤kd)&&decide (kd≤8))&&(decide ((tx.length:Int)≤1600)&&(dJ.f (mac,())&&((decide (0≤n)&&decide (n≤65535))&&(((tx==[])||((kd==1)||(kd==5)))&&(((kd==3)||br.f (mac,⟨false,0,0,[]⟩,()))&&
  ((bif decide (5≤kd)then aG.f (t,())else((t.ip==0)&&((t.port==0)&&(t.my==0))))&&((n==0)||(kd==6))))))))):=by
 have hs:br.f (mac,⟨false,0,0,[]⟩,())=true→dJ.f (mac,())=true:=λh=>by rw[jp mac h];rfl
 have hx:(tx==[])=true→decide ((tx.length:Int)≤1600)=true:=λh=>by
  have:tx=[]:=by simpa using h
  subst this;rfl
 have hn:(n==0)=true→(decide (0≤n)&&decide (n≤65535))=true:=λh=>by
  have:n=0:=by simpa using h
  subst this;rfl
 have hl:decide (1600<(tx.length:Int))= !decide ((tx.length:Int)≤1600):=by
  rcases Int.lt_or_le 1600 (tx.length:Int)with h|h
  ·simp[h,show¬((tx.length:Int)≤1600) by omega]
  ·simp[h,show¬(1600<(tx.length:Int)) by omega]
 have hb:(n != 0)= !(n==0):=rfl
 simp only[PX,d4]
 simp only[PX,dG,hl,hb,Bool.and_true]
 have hk:kd=1∨kd=2∨kd=3∨kd=4∨kd=5∨kd=6∨kd=7∨kd=8∨(decide (1≤kd)&&decide (kd≤8))=false:=by
  simp only[Bool.and_eq_false_iff,decide_eq_false_iff_not];omega
 clear hl hb
 generalize br.f (mac,⟨false,0,0,[]⟩,())=S at*
 generalize dJ.f (mac,())=M at*
 generalize aG.f (t,())=T at*
 generalize((t.ip==0)&&((t.port==0)&&(t.my==0)))=Z at*
 generalize(tx==[])=X at*
 generalize decide ((tx.length:Int)≤1600)=L at*
 generalize(decide (0≤n)&&decide (n≤65535))=NN at*
 generalize(n==0)=N0 at*
 clear tx n t mac
 rcases hk with rfl|rfl|rfl|rfl|rfl|rfl|rfl|rfl|hk
 iterate 8 (revert S M T Z X L NN N0;decide+kernel)
 simp[hk]
theorem yE (x:Acti):d4.f (x,())=((decide (1≤x.kind)&&decide (x.kind≤8))&&(decide ((x.text.length:Int)≤1600)&&(dJ.f (x.mac,())&&((decide (0≤x.n)&&decide (x.n≤65535))&&(((x.text==[])||((x.kind==1)||(x.kind==5)))&&(((x.kind==3)||br.f (x.mac,⟨false,0,0,[]⟩,()))&&
  ((bif decide (5≤x.kind)then aG.f (x.tuple,())else((x.tuple.ip==0)&&((x.tuple.port==0)&&(x.tuple.my==0))))&&((x.n==0)||(x.kind==6))))))))):=wk x.kind x.tuple x.n x.text x.mac
theorem BC (m:Mac)(h:dJ.f (m,())=true)(hu:m.use=false):m.rows=[]:=by
 simp only[PX,dJ,eN]at h
 rw[hu]at h
 simpa using h
theorem lr (x:Acti)(h:d4.f (x,())=true):(1≤x.kind∧x.kind≤8)∧x.text.length≤1600∧dJ.f (x.mac,())=true∧(∃n:Nat,x.n=(n:Int)∧n≤65535)∧(x.kind≠1→x.kind≠5→x.text=[])∧(x.kind≠3→x.mac=⟨false,0,0,[]⟩)∧
  (5≤x.kind→aG.f (x.tuple,())=true)∧(x.kind<5→x.tuple=⟨0,0,0⟩)∧(x.kind≠6→x.n=0):=by
 rw[yE]at h
 simp only[Bool.and_eq_true,decide_eq_true_eq,Bool.or_eq_true,beq_iff_eq]at h
 obtain⟨h1,h2,h3,h4,h5,h6,h7,h8⟩:=h
 obtain⟨n,hn⟩:=Int.eq_ofNat_of_zero_le h4.1
 refine⟨h1,by omega,h3,⟨n,hn,by omega⟩,λa b=> ?_,λa=> ?_,λa=> ?_,λa=> ?_,λa=> ?_⟩
 ·rcases h5 with h|h|h
  ·exact h
  ·exact absurd h a
  ·exact absurd h b
 ·rcases h6 with h|h
  ·exact absurd h a
  ·exact jp _ h
 ·rw[decide_eq_true a]at h7;exact h7
 ·rw[decide_eq_false (by omega)]at h7
  simp only[cond_false,Bool.and_eq_true,beq_iff_eq]at h7
  have:∀t:Tupl,t.ip=0∧t.port=0∧t.my=0→t=⟨0,0,0⟩:=by rintro⟨a,b,c⟩ ⟨rfl,rfl,rfl⟩;rfl
  exact this _ h7
 ·rcases h8 with h|h
  ·exact h
  ·exact absurd h a
def il (t:aa):aa:=bif (t==[])then[45]else fQ t
theorem Bd (t:aa):gy.f (t,())=il t:=by unfold il;simp only[PX,gy];rw[zr]
theorem AO (t:aa):p4.f (t,())=il t:=by unfold il;simp only[PX,p4];rw[zD]
def cN (x:Acti):List aa:=
 bif x.kind==1 then[ak.f (x.kind,()),il x.text]else
 bif x.kind==3 then[ak.f (x.kind,()),fQ (lD x.mac.k.toNat),fQ (lD x.mac.l.toNat)]else
 bif x.kind==5 then[ak.f (x.kind,()),aK.f (x.tuple,()),il x.text]else
 bif x.kind==6 then[ak.f (x.kind,()),aK.f (x.tuple,()),bB x.n.toNat]else
 bif decide (5≤x.kind)then[ak.f (x.kind,()),aK.f (x.tuple,())]else[ak.f (x.kind,())]
def n5 (x:Acti):Bool:=d4.f (x,())&& !x.mac.use
def bf (x:Acti):aa:=bif n5 x then du 32 (cN x)else[]
def gL (x:Acti):Prop:=(0≤x.mac.k∧x.mac.k<18446744073709551616)∧(0≤x.mac.l∧x.mac.l<18446744073709551616)
theorem nt {k:Int}(h:1≤k∧k≤8):k=1∨k=2∨k=3∨k=4∨k=5∨k=6∨k=7∨k=8:=by omega
theorem vA (a b:aa):du 32 [a,b]=a++32::b:=rfl
theorem qU (a b c:aa):du 32 [a,b,c]=a++32::(b++32::c):=rfl
theorem yJ (a:aa):du 32 [a]=a:=rfl
theorem gY (x:Acti)(hk:gL x):bq.f (x,())=bf x:=by
 unfold bf n5;simp only[PX,bq]
 rw[B2]
 cases ho:d4.f (x,())with
 |false=>rfl
 |true=>
  cases hu:x.mac.use with
  |true=>rfl
  |false=>
   obtain⟨h1,_,_,⟨m,hm,hm2⟩,_⟩:=lr x ho
   obtain⟨kd,t,n,tx,mac⟩:=x
   obtain⟨⟨hk1,hk2⟩,hk3,hk4⟩:=hk
   simp only at hm h1 hk1 hk2 hk3 hk4
   obtain⟨k',hk'⟩:=Int.eq_ofNat_of_zero_le hk1
   obtain⟨l',hl'⟩:=Int.eq_ofNat_of_zero_le hk3
   have e1:=zc k' (by omega)
   have e2:=zc l' (by omega)
   rw[←hk']at e1
   rw[←hl']at e2
   have e3:=iE m (by omega)
   have f1:mac.k.toNat=k':=by omega
   have f2:mac.l.toNat=l':=by omega
   subst hm
   rcases nt h1 with rfl|rfl|rfl|rfl|rfl|rfl|rfl|rfl<;>
    simp[cN,yJ,vA,qU,tQ,w6,Bd,e1,e2,e3,f1,f2]
theorem cK (x:Acti)(hk:gL x):aW.f (x,())=bf x:=by
 unfold bf n5;simp only[PX,aW]
 cases ho:d4.f (x,())with
 |false=>rfl
 |true=>
  cases hu:x.mac.use with
  |true=>rfl
  |false=>
   obtain⟨h1,_,_,⟨m,hm,hm2⟩,_⟩:=lr x ho
   obtain⟨kd,t,n,tx,mac⟩:=x
   obtain⟨⟨hk1,hk2⟩,hk3,hk4⟩:=hk
   simp only at hm h1 hk1 hk2 hk3 hk4
   obtain⟨k',hk'⟩:=Int.eq_ofNat_of_zero_le hk1
   obtain⟨l',hl'⟩:=Int.eq_ofNat_of_zero_le hk3
   have e1:=y2 k' (by omega)
   have e2:=y2 l' (by omega)
   rw[←hk']at e1
   rw[←hl']at e2
   have e3:=eh m
   have f1:mac.k.toNat=k':=by omega
   have f2:mac.l.toNat=l':=by omega
   subst hm
   rcases nt h1 with rfl|rfl|rfl|rfl|rfl|rfl|rfl|rfl<;>
    simp[cN,yJ,vA,qU,AO,e1,e2,e3,f1,f2]
theorem Ag (x:Acti)(hk:gL x):bq.f (x,())=aW.f (x,()):=by rw[gY x hk,cK x hk]
theorem uF (a b c:Nat)(ha:a≤4294967295)(hb:b≤65535)(hc:c≤65535):(hP a b c).length≤27:=by
 have h1:=t8 a ha
 have h2:=iI 4 b (by omega)
 have h3:=iI 4 c (by omega)
 unfold hP
 simp only[List.length_append,List.length_cons]
 omega
theorem fv (t:Tupl)(h:aG.f (t,())=true):(aK.f (t,())).length≤27:=by
 obtain⟨a,b,c,rfl,ha,hb,hc⟩:=gV h
 rw[fo a b c ha hb hc]
 exact uF a b c ha hb hc
theorem ze:∀n:Nat,n<16→mI n≠32∧mI n≠10:=by decide+kernel
theorem p6:∀t:aa,∀c∈fQ t,c≠32∧c≠10
 |[],c,h=>by simp[fQ]at h
 |a::r,c,h=>by
  have:=a.toNat_lt
  simp only[fQ,List.mem_cons]at h
  rcases h with rfl|rfl|h
  ·exact ze _ (by omega)
  ·exact ze _ (by omega)
  ·exact p6 r c h
theorem v7 (t:aa):∀c∈il t,c≠32∧c≠10:=by
 unfold il
 cases t==[]with
 |true=>intro c h;simp at h;subst h;decide
 |false=>exact p6 t
theorem gp (n:Nat):∀c∈bB n,c≠32∧c≠10:=λc h=>⟨fN (by decide) n c h,fN (by decide) n c h⟩
theorem A1 (a b c:Nat):∀x∈hP a b c,x≠32∧x≠10:=by
 intro x hx
 unfold hP cl at hx
 simp only[List.mem_append,List.mem_cons]at hx
 rcases hx with(hx|rfl|hx|rfl|hx|rfl|hx)|rfl|hx|rfl|hx
 ·exact gp _ x hx
 ·decide
 ·exact gp _ x hx
 ·decide
 ·exact gp _ x hx
 ·decide
 ·exact gp _ x hx
 ·decide
 ·exact gp _ x hx
 ·decide
 ·exact gp _ x hx
theorem jk (t:Tupl)(h:aG.f (t,())=true):∀x∈aK.f (t,()),x≠32∧x≠10:=by
 obtain⟨a,b,c,rfl,ha,hb,hc⟩:=gV h
 rw[fo a b c ha hb hc]
 exact A1 a b c
theorem Ck {k:Int}(h:1≤k∧k≤8):(∀x∈ak.f (k,()),x≠32∧x≠10)∧(ak.f (k,())).length≤6∧ak.f (k,())≠[]:=by
 rcases nt h with rfl|rfl|rfl|rfl|rfl|rfl|rfl|rfl<;>decide+kernel
theorem zP (t:aa)(h:t.length≤1600):(il t).length≤3200:=by
 unfold il
 cases t==[]with
 |true=>simp
 |false=>rw[cond_false,fy];omega
theorem jr (x:Acti)(ho:n5 x=true):(cN x≠[]∧∀p∈cN x,∀c∈p,c≠32∧c≠10)∧(du 32 (cN x)).length≤3260∧du 32 (cN x)≠[]:=by
 unfold n5 at ho
 simp only[Bool.and_eq_true,Bool.not_eq_true']at ho
 obtain⟨h1,hl,hM,⟨m,hm,hm2⟩,h5,h6,h7,h8,h9⟩:=lr x ho.1
 obtain⟨w1,w2,w3⟩:=Ck h1
 have d:=iI 4 m (by omega)
 have t1:=zP x.text hl
 have be:∀n,(fQ (lD n)).length=16:=λn=>by rw[fy];rfl
 have two:∀a b:aa,(∀c∈a,c≠32∧c≠10)→(∀c∈b,c≠32∧c≠10)→∀p∈[a,b],∀c∈p,c≠32∧c≠10:=λa b ha hb p hp=>by
  simp only[List.mem_cons,List.not_mem_nil,or_false]at hp
  rcases hp with rfl|rfl<;>assumption
 have three:∀a b c:aa,(∀x∈a,x≠32∧x≠10)→(∀x∈b,x≠32∧x≠10)→(∀x∈c,x≠32∧x≠10)→∀p∈[a,b,c],∀x∈p,x≠32∧x≠10:=λa b c ha hb hc p hp=>by
  simp only[List.mem_cons,List.not_mem_nil,or_false]at hp
  rcases hp with rfl|rfl|rfl<;>assumption
 have ap:∀a b:aa,a≠[]→a++b≠[]:=λa b h=>by simp[h]
 unfold cN
 cases x.kind==1 with
 |true=>
  rw[cond_true,vA]
  exact⟨⟨by simp,two _ _ w1 (v7 _)⟩,by simp only[List.length_append,List.length_cons];omega,ap _ _ w3⟩
 |false=>
  rw[cond_false]
  cases x.kind==3 with
  |true=>
   rw[cond_true,qU]
   exact⟨⟨by simp,three _ _ _ w1 (p6 _) (p6 _)⟩,by simp only[List.length_append,List.length_cons,be];omega,ap _ _ w3⟩
  |false=>
   rw[cond_false]
   cases hk5:x.kind==5 with
   |true=>
    have ht:=h7 (by have:=eq_of_beq hk5;omega)
    have t2:=fv _ ht
    rw[cond_true,qU]
    exact⟨⟨by simp,three _ _ _ w1 (jk _ ht) (v7 _)⟩,by simp only[List.length_append,List.length_cons];omega,ap _ _ w3⟩
   |false=>
    rw[cond_false]
    cases hk6:x.kind==6 with
    |true=>
     have ht:=h7 (by have:=eq_of_beq hk6;omega)
     have t2:=fv _ ht
     rw[cond_true,qU,hm,Int.toNat_natCast]
     exact⟨⟨by simp,three _ _ _ w1 (jk _ ht) (gp _)⟩,by simp only[List.length_append,List.length_cons];omega,ap _ _ w3⟩
    |false=>
     rw[cond_false]
     cases hk7:decide (5≤x.kind)with
     |true=>
      have ht:=h7 (by simpa using hk7)
      have t2:=fv _ ht
      rw[cond_true,vA]
      exact⟨⟨by simp,two _ _ w1 (jk _ ht)⟩,by simp only[List.length_append,List.length_cons];omega,ap _ _ w3⟩
     |false=>
      rw[cond_false,yJ]
      refine⟨⟨by simp,λp hp=> ?_⟩,by omega,w3⟩
      rw[List.mem_singleton]at hp
      subst hp
      exact w1
theorem oj (x:Acti)(ho:n5 x=true):eX 32 (bf x) []=cN x:=by
 unfold bf
 rw[ho,cond_true]
 obtain⟨⟨h1,h2⟩,_⟩:=jr x ho
 exact sq 32 _ h1 λp hp c hc=>(h2 p hp c hc).1
theorem uq (x:Acti):(bf x).length≤3260:=by
 unfold bf
 cases ho:n5 x with
 |true=>exact(jr x ho).2.1
 |false=>simp
theorem vV {x:Acti}(h:bf x≠[]):n5 x=true:=by
 unfold bf at h
 cases ho:n5 x with
 |true=>rfl
 |false=>rw[ho]at h;exact absurd rfl h
theorem j7 {x:Acti}(ho:n5 x=true):bf x≠[]:=by
 unfold bf
 rw[ho]
 exact(jr x ho).2.2
theorem Bx {A W:Type}(c:Bool)(a b:A):(bif c then(.next a:Stp A W)else .next b)= .next (bif c then a else b):=by cases c<;>rfl
def aR (w:aa):Int:=
 bif ak.f (8,())==w then 8 else bif ak.f (7,())==w then 7 else bif ak.f (6,())==w then 6 else bif ak.f (5,())==w then 5 else
 bif ak.f (4,())==w then 4 else bif ak.f (3,())==w then 3 else bif ak.f (2,())==w then 2 else bif ak.f (1,())==w then 1 else 0
theorem zO {f:Int→Int→Stp Int Empty}{w:aa}(hf:∀v a,f v a=bif ak.f (v,())==w then .next v else .next a):a7 f 1 (Int.toNat (8-1+1)) 1 0= .next (aR w):=by
 simp only[show Int.toNat (8-1+1)=8 from rfl,a7,hf,Bx,Stp.elim,
  show(1:Int)+1=2 from rfl,show(2:Int)+1=3 from rfl,show(3:Int)+1=4 from rfl,show(4:Int)+1=5 from rfl,show(5:Int)+1=6 from rfl,show(6:Int)+1=7 from rfl,show(7:Int)+1=8 from rfl]
 rfl
theorem mP {f:Int→Acti×Acti→Stp (Acti×Acti) Empty}{w:aa}(hf:∀v a,f v a=bif ak.f (v,())==w then .next ({a.1 with mac.rows:=[]},{a.2 with kind:=v,mac.rows:=[]})else .next ({a.1 with mac.rows:=[]},{a.2 with mac.rows:=[]})):
  ∀(n:Nat) (i k:Int),a7 f 1 n i (⟨0,⟨0,0,0⟩,0,[],⟨false,0,0,[]⟩⟩,⟨k,⟨0,0,0⟩,0,[],⟨false,0,0,[]⟩⟩)=Stp.elim (λk'=> .next (⟨0,⟨0,0,0⟩,0,[],⟨false,0,0,[]⟩⟩,⟨k',⟨0,0,0⟩,0,[],⟨false,0,0,[]⟩⟩)) Empty.elim (a7 (λv (a:Int)=>bif ak.f (v,())==w then(.next v:Stp Int Empty)else .next a) 1 n i k)
 |0,i,k=>rfl
 |n+1,i,k=>by
  simp only[a7,hf]
  cases ak.f (i,())==w with
  |true=>simp only[cond_true,Stp.elim];exact mP hf n (i+1) i
  |false=>simp only[cond_false,Stp.elim];exact mP hf n (i+1) k
theorem r6 {f:Int→Acti×Acti→Stp (Acti×Acti) Empty}{w:aa}(hf:∀v a,f v a=bif ak.f (v,())==w then .next ({a.1 with mac.rows:=[]},{a.2 with kind:=v,mac.rows:=[]})else .next ({a.1 with mac.rows:=[]},{a.2 with mac.rows:=[]})):
  a7 f 1 (Int.toNat (8-1+1)) 1 (⟨0,⟨0,0,0⟩,0,[],⟨false,0,0,[]⟩⟩,⟨0,⟨0,0,0⟩,0,[],⟨false,0,0,[]⟩⟩)= .next (⟨0,⟨0,0,0⟩,0,[],⟨false,0,0,[]⟩⟩,⟨aR w,⟨0,0,0⟩,0,[],⟨false,0,0,[]⟩⟩):=by
 rw[mP hf,zO (w:=w) (λ_ _=>rfl)]
 rfl
theorem jG (w:aa):aR w=0∨aR w=1∨aR w=2∨aR w=3∨aR w=4∨aR w=5∨aR w=6∨aR w=7∨aR w=8:=by
 unfold aR
 cases ak.f (8,())==w<;>cases ak.f (7,())==w<;>cases ak.f (6,())==w<;>cases ak.f (5,())==w<;>cases ak.f (4,())==w<;>cases ak.f (3,())==w<;>cases ak.f (2,())==w<;>cases ak.f (1,())==w<;>simp
theorem we:aR (ak.f (1,()))=1∧aR (ak.f (2,()))=2∧aR (ak.f (3,()))=3∧aR (ak.f (4,()))=4∧aR (ak.f (5,()))=5∧aR (ak.f (6,()))=6∧aR (ak.f (7,()))=7∧aR (ak.f (8,()))=8:=by decide+kernel
def tI:Acti:=⟨0,⟨0,0,0⟩,0,[],⟨false,0,0,[]⟩⟩
def pS (ws:List aa):Acti:=
 ⟨aR (ws.getD 0 []),bif decide (5≤aR (ws.getD 0 []))then(dA.f (((ws++[[],[],[]]).getD 1 []),())).1 else⟨0,0,0⟩,bif aR (ws.getD 0 [])==6 then(cV.f (((ws++[[],[],[]]).getD 2 []),())).1 else 0,
  bif aR (ws.getD 0 [])==5 then(cM.f (((ws++[[],[],[]]).getD 2 []),())).1 else bif aR (ws.getD 0 [])==1 then(cM.f (((ws++[[],[],[]]).getD 1 []),())).1 else[],
  bif aR (ws.getD 0 [])==3 then⟨false,cr.f (((ws++[[],[],[]]).getD 1 []),()),cr.f (((ws++[[],[],[]]).getD 2 []),()),[]⟩else⟨false,0,0,[]⟩⟩
def pI (ws:List aa):Option Acti:=
 bif aR (ws.getD 0 [])==0 then none else
 bif ((ws.length:Int) != ([0,2,1,3,1,3,3,2,2].getD (aR (ws.getD 0 [])).toNat 0))then none else
 bif aR (ws.getD 0 [])==1 then(bif (cb.f ((ws.getD 1 []),())).2 then some ⟨1,⟨0,0,0⟩,0,(cb.f ((ws.getD 1 []),())).1,⟨false,0,0,[]⟩⟩else none)else
 bif aR (ws.getD 0 [])==3 then(bif (bL.f ((ws.getD 1 []),())).2&&(bL.f ((ws.getD 2 []),())).2 then some ⟨3,⟨0,0,0⟩,0,[],⟨false,(bL.f ((ws.getD 1 []),())).1,(bL.f ((ws.getD 2 []),())).1,[]⟩⟩else none)else
 bif aR (ws.getD 0 [])==5 then(bif (aw.f ((ws.getD 1 []),())).2&&(cb.f ((ws.getD 2 []),())).2 then some ⟨5,(aw.f ((ws.getD 1 []),())).1,0,(cb.f ((ws.getD 2 []),())).1,⟨false,0,0,[]⟩⟩else none)else
 bif aR (ws.getD 0 [])==6 then(bif (aw.f ((ws.getD 1 []),())).2&&(cE.f ((ws.getD 2 []),())).2 then some ⟨6,(aw.f ((ws.getD 1 []),())).1,(cE.f ((ws.getD 2 []),())).1,[],⟨false,0,0,[]⟩⟩else none)else
 bif decide (5≤aR (ws.getD 0 []))then(bif (aw.f ((ws.getD 1 []),())).2 then some ⟨aR (ws.getD 0 []),(aw.f ((ws.getD 1 []),())).1,0,[],⟨false,0,0,[]⟩⟩else none)else
 some ⟨aR (ws.getD 0 []),⟨0,0,0⟩,0,[],⟨false,0,0,[]⟩⟩
theorem zN (ws:List aa)(h:ws≠[])(r:List aa):(ws++r).getD 0 []=ws.getD 0 []:=by
 cases ws with
 |nil=>exact absurd rfl h
 |cons a b=>rfl
set_option maxHeartbeats 1000000 in theorem xq (s:aa)(hs:s.length≤4294967296):ep.f (s,())=bif s==[]then(tI,false)else bif decide (3260<(s.length:Int))then(tI,false)else
  bif !(bq.f ((pS (eX 32 s [])),())==s)then(tI,false)else(pS (eX 32 s []),true):=by
 have hp:=lq s 32 hs
 rw[show(((32:UInt8).toNat:Nat):Int)=32 from rfl]at hp
 simp only[PX,ep,bp]
 rw[hp,r6 (w:=(eX 32 s []).getD 0 []) (λv a=>by simp only[PX,ku];rw[tQ,zN _ (uT 32 s [])])]
 cases s==[]with
 |true=>rfl
 |false=>
  cases decide (3260<(s.length:Int))with
  |true=>rfl
  |false=>
   simp only[cond_false,Stp.elim]
   unfold pS
   generalize eX 32 s []=ws
   rcases jG (ws.getD 0 [])with h|h|h|h|h|h|h|h|h<;>rw[h]<;>simp only[Int.reduceBEq,Int.reduceBNe,Int.reduceLE,Int.reduceLT,decide_true,decide_false,cond_true,cond_false,Bool.false_eq_true,PX]<;>rfl
set_option maxHeartbeats 1000000 in theorem qn (s:aa)(hs:s.length≤4294967296):aD.f (s,())=match pI (eX 32 s [])with|none=>(tI,false)|some a=>bif !(aW.f (a,())==s)then(tI,false)else(a,true):=by
 have hp:=gl s 32 hs
 rw[show(((32:UInt8).toNat:Nat):Int)=32 from rfl]at hp
 simp only[PX,aD,bn]
 rw[hp,r6 (w:=(eX 32 s []).getD 0 []) (λv a=>by simp only[PX,kN])]
 simp only[Stp.elim]
 unfold pI
 generalize eX 32 s []=ws
 rcases jG (ws.getD 0 [])with h|h|h|h|h|h|h|h|h
 ·rw[h];rfl
 ·rw[h]
  simp only[Int.reduceBEq,Int.reduceBNe,Int.reduceLE,Int.reduceLT,decide_true,decide_false,cond_true,cond_false,Bool.false_eq_true,PX]
  generalize((ws.length:Int) != ([0,2,1,3,1,3,3,2,2].getD (Int.toNat 1) 0))=b
  generalize cb.f ((ws.getD 1 []),())=c0
  cases b with
  |true=>rfl
  |false=>
   obtain⟨t0,f0⟩:=c0
   cases f0<;>rfl
 ·rw[h]
  simp only[Int.reduceBEq,Int.reduceBNe,Int.reduceLE,Int.reduceLT,decide_true,decide_false,cond_true,cond_false,Bool.false_eq_true,PX]
  generalize((ws.length:Int) != ([0,2,1,3,1,3,3,2,2].getD (Int.toNat 2) 0))=b
  cases b with
  |true=>rfl
  |false=>
   rfl
 ·rw[h]
  simp only[Int.reduceBEq,Int.reduceBNe,Int.reduceLE,Int.reduceLT,decide_true,decide_false,cond_true,cond_false,Bool.false_eq_true,PX]
  generalize((ws.length:Int) != ([0,2,1,3,1,3,3,2,2].getD (Int.toNat 3) 0))=b
  generalize bL.f ((ws.getD 1 []),())=c0
  generalize bL.f ((ws.getD 2 []),())=c1
  cases b with
  |true=>rfl
  |false=>
   obtain⟨t0,f0⟩:=c0
   obtain⟨t1,f1⟩:=c1
   cases f0<;>cases f1<;>rfl
 ·rw[h]
  simp only[Int.reduceBEq,Int.reduceBNe,Int.reduceLE,Int.reduceLT,decide_true,decide_false,cond_true,cond_false,Bool.false_eq_true,PX]
  generalize((ws.length:Int) != ([0,2,1,3,1,3,3,2,2].getD (Int.toNat 4) 0))=b
  cases b with
  |true=>rfl
  |false=>
   rfl
 ·rw[h]
  simp only[Int.reduceBEq,Int.reduceBNe,Int.reduceLE,Int.reduceLT,decide_true,decide_false,cond_true,cond_false,Bool.false_eq_true,PX]
  generalize((ws.length:Int) != ([0,2,1,3,1,3,3,2,2].getD (Int.toNat 5) 0))=b
  generalize aw.f ((ws.getD 1 []),())=c0
  generalize cb.f ((ws.getD 2 []),())=c1
  cases b with
  |true=>rfl
  |false=>
   obtain⟨t0,f0⟩:=c0
   obtain⟨t1,f1⟩:=c1
   cases f0<;>cases f1<;>rfl
 ·rw[h]
  simp only[Int.reduceBEq,Int.reduceBNe,Int.reduceLE,Int.reduceLT,decide_true,decide_false,cond_true,cond_false,Bool.false_eq_true,PX]
  generalize((ws.length:Int) != ([0,2,1,3,1,3,3,2,2].getD (Int.toNat 6) 0))=b
  generalize aw.f ((ws.getD 1 []),())=c0
  generalize cE.f ((ws.getD 2 []),())=c1
  cases b with
  |true=>rfl
  |false=>
   obtain⟨t0,f0⟩:=c0
   obtain⟨t1,f1⟩:=c1
   cases f0<;>cases f1<;>rfl
 ·rw[h]
  simp only[Int.reduceBEq,Int.reduceBNe,Int.reduceLE,Int.reduceLT,decide_true,decide_false,cond_true,cond_false,Bool.false_eq_true,PX]
  generalize((ws.length:Int) != ([0,2,1,3,1,3,3,2,2].getD (Int.toNat 7) 0))=b
  generalize aw.f ((ws.getD 1 []),())=c0
  cases b with
  |true=>rfl
  |false=>
   obtain⟨t0,f0⟩:=c0
   cases f0<;>rfl
 ·rw[h]
  simp only[Int.reduceBEq,Int.reduceBNe,Int.reduceLE,Int.reduceLT,decide_true,decide_false,cond_true,cond_false,Bool.false_eq_true,PX]
  generalize((ws.length:Int) != ([0,2,1,3,1,3,3,2,2].getD (Int.toNat 8) 0))=b
  generalize aw.f ((ws.getD 1 []),())=c0
  cases b with
  |true=>rfl
  |false=>
   obtain⟨t0,f0⟩:=c0
   cases f0<;>rfl
theorem Ae {a b:Nat}(h:cl a=cl b):a=b:=by
 have h1:=(oS a).symm.trans ((congrArg (λx=>eX 46 x []) h).trans (oS b))
 simp only[List.cons.injEq]at h1
 have e:∀x y,bB x=bB y→x=y:=λx y h=>by rw[←kI x,h,kI]
 have:=e _ _ h1.1
 have:=e _ _ h1.2.1
 have:=e _ _ h1.2.2.1
 have:=e _ _ h1.2.2.2.1
 omega
theorem i9 (n:Nat)(h:n≤65535):cE.f ((bB n),())=((n:Int),true):=by
 rcases mi (bB n)with⟨m,h1,h2⟩|⟨_,h2⟩
 ·rw[h1]
  have:m=n:=by rw[←kI m,h2,kI]
  rw[this]
 ·exact absurd rfl (h2 n h)
theorem rD (n:Nat)(h:n≤4294967295):dL.f ((cl n),())=((n:Int),true):=by
 rcases pb (cl n) (by have:=t8 n h;omega)with⟨m,_,h1,h2⟩|⟨_,h2⟩
 ·rw[h1,Ae h2]
 ·exact absurd rfl (h2 n h)
theorem cd (t:Tupl)(h:aG.f (t,())=true):aw.f ((aK.f (t,())),())=(t,true):=by
 obtain⟨a,b,c,rfl,ha,hb,hc⟩:=gV h
 rw[fo a b c ha hb hc]
 have hl:=uF a b c ha hb hc
 have hq:=gl (hP a b c) 58 (by omega)
 rw[show(((58:UInt8).toNat:Nat):Int)=58 from rfl,t9]at hq
 simp only[PX,aw]
 simp only[PX,hq,show(((([cl a,bB b,bB c]:List aa).length:Nat):Int) != 3)=false from rfl,cond_false,List.getD_cons_zero,List.getD_cons_succ,rD a ha,i9 b hb,i9 c hc,h,Bool.not_true]
theorem kR (t:aa)(h:t.length≤1600):cb.f ((il t),())=(t,true):=by
 unfold il;simp only[PX,cb]
 cases ht:t==[]with
 |true=>
  have:t=[]:=by simpa using ht
  subst this;rfl
 |false=>
  have hne:(fQ t==[45])=false:=by
   rw[beq_eq_false_iff_ne]
   intro he
   have:=congrArg List.length he
   rw[fy]at this
   simp at this
   omega
  simp only[cond_false,hne,PX,ud _ (show(fQ t).length≤_ by rw[fy];omega),lv,cond_true,ht,Bool.not_false]
theorem nk (t:aa)(h:t.length≤1600):(cM.f ((il t),())).1=t:=by
 unfold il
 cases ht:t==[]with
 |true=>
  have:t=[]:=by simpa using ht
  subst this
  rw[cond_true,n7 _ (by simp)]
  rfl
 |false=>rw[cond_false,n7 _ (show(fQ t).length≤_ by rw[fy];omega),lv]
theorem mh (x:Acti)(hk:gL x)(ho:n5 x=true):pS (cN x)=x∧pI (cN x)=some x:=by
 unfold n5 at ho
 simp only[Bool.and_eq_true,Bool.not_eq_true']at ho
 obtain⟨h1,hl,hM,⟨m,hm,hm2⟩,h5,h6,h7,h8,h9⟩:=lr x ho.1
 have hR:=BC _ hM ho.2
 obtain⟨k1,k2,k3,k4,k5,k6,k7,k8⟩:=we
 obtain⟨kd,t,n,tx,⟨u,k,l,r⟩⟩:=x
 obtain⟨⟨hk1,hk2⟩,hk3,hk4⟩:=hk
 simp only at hm h1 hk1 hk2 hk3 hk4 hl h5 h6 h7 h8 h9 hR ho
 have hu:=ho.2
 obtain⟨k',rfl⟩:=Int.eq_ofNat_of_zero_le hk1
 obtain⟨l',rfl⟩:=Int.eq_ofNat_of_zero_le hk3
 subst hm hR hu
 have g:∀t,aG.f (t,())=true→dA.f ((aK.f (t,())),())=(t,true):=λt ht=>by rw[xj _ (by have:=fv t ht;omega),cd t ht]
 rcases nt h1 with rfl|rfl|rfl|rfl|rfl|rfl|rfl|rfl
 ·have e1:=h6 (by decide)
  have e2:=h8 (by decide)
  have e3:=h9 (by decide)
  cases e1;subst e2;rw[e3]
  simp[pS,pI,cN,k1,kR tx hl,nk tx hl]
 ·have e1:=h6 (by decide)
  have e2:=h8 (by decide)
  have e3:=h9 (by decide)
  have e4:=h5 (by decide) (by decide)
  cases e1;subst e2;rw[e3,e4]
  simp[pS,pI,cN,k2]
 ·have e2:=h8 (by decide)
  have e3:=h9 (by decide)
  have e4:=h5 (by decide) (by decide)
  subst e2;rw[e3,e4]
  simp[pS,pI,cN,k3,pn k' (by omega),pn l' (by omega),ul k' (by omega),ul l' (by omega)]
 ·have e1:=h6 (by decide)
  have e2:=h8 (by decide)
  have e3:=h9 (by decide)
  have e4:=h5 (by decide) (by decide)
  cases e1;subst e2;rw[e3,e4]
  simp[pS,pI,cN,k4]
 ·have e1:=h6 (by decide)
  have e2:=h7 (by decide)
  have e3:=h9 (by decide)
  cases e1;rw[e3]
  simp[pS,pI,cN,k5,kR tx hl,nk tx hl,g t e2,cd t e2]
 ·have e1:=h6 (by decide)
  have e2:=h7 (by decide)
  have e4:=h5 (by decide) (by decide)
  cases e1;rw[e4]
  simp[pS,pI,cN,k6,g t e2,cd t e2,nX,i9 m hm2]
 ·have e1:=h6 (by decide)
  have e2:=h7 (by decide)
  have e3:=h9 (by decide)
  have e4:=h5 (by decide) (by decide)
  cases e1;rw[e3,e4]
  simp[pS,pI,cN,k7,g t e2,cd t e2]
 ·have e1:=h6 (by decide)
  have e2:=h7 (by decide)
  have e3:=h9 (by decide)
  have e4:=h5 (by decide) (by decide)
  cases e1;rw[e3,e4]
  simp[pS,pI,cN,k8,g t e2,cd t e2]
theorem Co (m:Int):0≤IntKind.u64.wrap m∧IntKind.u64.wrap m<18446744073709551616:=by
 have:IntKind.u64.wrap m=m%18446744073709551616:=by simp[IntKind.wrap,IntKind.bits,IntKind.signed]
 rw[this];omega
theorem yX (ws:List aa):gL (pS ws):=by
 have e:∀w,0≤cr.f (w,())∧cr.f (w,())<18446744073709551616:=λw=>by simp only[PX,cr];exact Co _
 unfold gL pS
 simp only
 cases aR (ws.getD 0 [])==3 with
 |true=>exact⟨e _,e _⟩
 |false=>exact⟨⟨Int.le_refl _,by show(0:Int)<_;decide⟩,Int.le_refl _,by show(0:Int)<_;decide⟩
theorem wY (w:aa):0≤(bL.f (w,())).1∧(bL.f (w,())).1<18446744073709551616:=by
 simp only[PX,bL,dm]
 cases(jm.f (w,())).2 with
 |false=>simp
 |true=>
  cases((jm.f (w,())).1.length:Int) != 8 with
  |true=>simp
  |false=>
   simp only[Bool.not_true,cond_false,show Int.toNat (8-0)=8 from rfl,a7,gQ,Stp.elim,PX]
   exact⟨bits_lo_u64 _ _ _,Int.lt_of_le_of_lt (bits_hi_u64 _ _ _) (by decide)⟩
theorem AD {α:Type}{c:Bool}{x a:α}(h:(bif c then some x else none)=some a):x=a:=by cases c<;>simp at h;exact h
theorem B7 (ws:List aa)(a:Acti)(h:pI ws=some a):gL a:=by
 have z:(0:Int)≤0∧(0:Int)<18446744073709551616:=by decide
 have r:=wY
 unfold pI at h
 rcases jG (ws.getD 0 [])with k|k|k|k|k|k|k|k|k
 all_goals
  rw[k]at h
  try (simp only[show((0:Int)==0)=true from rfl,cond_true]at h;done)
  revert h
  generalize((ws.length:Int) != ([0,2,1,3,1,3,3,2,2].getD (Int.toNat _) 0))=b
  intro h
  cases b with
  |true=>cases h
  |false=>
   simp at h
   try (first
    |(have h:=AD h;subst h;first|exact⟨z,z⟩|exact⟨r _,r _⟩)
    |(subst h;exact⟨z,z⟩))
theorem hU (s:aa)(hs:s.length≤4294967296):(∃x,gL x∧n5 x=true∧bf x=s∧aD.f (s,())=(x,true)∧ep.f (s,())=(x,true))∨
  (aD.f (s,())=(tI,false)∧ep.f (s,())=(tI,false)∧∀x,gL x→n5 x=true→bf x≠s):=by
 by_cases h:∃x,gL x∧n5 x=true∧bf x=s
 ·obtain⟨x,hk,ho,he⟩:=h
  refine .inl ⟨x,hk,ho,he, ?_, ?_⟩
  ·rw[qn s hs,←he,oj x ho,(mh x hk ho).2]
   simp only[cK x hk,beq_self_eq_true,Bool.not_true,cond_false]
  ·have h1:=j7 ho
   have h2:=uq x
   rw[xq s hs,←he,oj x ho,(mh x hk ho).1]
   simp only[gY x hk,beq_self_eq_true,Bool.not_true,cond_false,show(bf x==[])=false by simpa using h1,show decide (3260<((bf x).length:Int))=false by simp;omega]
 ·have h0:∀x,gL x→n5 x=true→bf x≠s:=λx hk ho he=>h ⟨x,hk,ho,he⟩
  refine .inr ⟨?_, ?_,h0⟩
  ·rw[qn s hs]
   cases hp:pI (eX 32 s [])with
   |none=>rfl
   |some a=>
    have hk:=B7 _ _ hp
    simp only
    rw[cK a hk]
    cases he:bf a==s with
    |false=>rfl
    |true=>
     have he:=eq_of_beq he
     exfalso
     by_cases hn:s=[]
     ·subst hn
      rw[show eX 32 ([]:aa) []=[[]] from rfl]at hp
      have:pI [[]]=none:=by
       unfold pI
       rw[show aR (([[]]:List aa).getD 0 [])=0 by decide+kernel]
       rfl
      rw[this]at hp
      cases hp
     ·exact h0 a hk (vV (by rw[he];exact hn)) he
  ·rw[xq s hs]
   cases hn:s==[]with
   |true=>rfl
   |false=>
    cases decide (3260<(s.length:Int))with
    |true=>rfl
    |false=>
     rw[cond_false,cond_false,gY _ (yX _)]
     cases he:bf (pS (eX 32 s []))==s with
     |false=>rfl
     |true=>
      have he:=eq_of_beq he
      have hn:s≠[]:=by simpa using hn
      exact absurd he (h0 _ (yX _) (vV (by rw[he];exact hn)))
theorem uE (s:aa)(hs:s.length≤4294967296):ep.f (s,())=aD.f (s,()):=by
 rcases hU s hs with⟨x,_,_,_,h1,h2⟩|⟨h1,h2,_⟩<;>rw[h1,h2]
theorem sM {W:Type}(b:UInt8):∀(r:List aa) (j:Nat) (a:List Int),0<j→bv (W:=W) (λ(j:Nat) (x:aa) a=>bif decide (0<(j:Int))then .next ((a++(aZ [b]))++(aZ x))else .next (a++(aZ x))) j r a= .next (a++aZ (r.flatMap λx=>b::x))
 |[],j,a,_=>by simp[bv,aZ]
 |x::r,j,a,hj=>by
  simp only[bv,show decide (0<(j:Int))=true by simp;omega,cond_true,Stp.elim]
  rw[sM b r (j+1) _ (by omega)]
  simp[aZ]
theorem yw (b:UInt8)(x:aa):∀(r:List aa),du b (x::r)=x++r.flatMap λy=>b::y:=by
 intro r
 induction r generalizing x with
 |nil=>simp[du]
 |cons y r ih=>rw[gr b x _ (by simp),ih y];simp
theorem yC (l:List aa)(b:UInt8):gv.f (l,[b],())=du b l:=by
 simp only[PX,gv,cY]
 rw[bR,b9 l _ rfl (F:=λ(j:Nat) (x:aa) a=>bif decide (0<(j:Int))then .next ((a++(aZ [b]))++(aZ x))else .next (a++(aZ x))) (by
  intro j x a hj
  simp only[iy,aL,getD_some hj,PX])]
 cases l with
 |nil=>rfl
 |cons x r=>
  simp only[bv,show decide (0<((0:Nat):Int))=false from rfl,cond_false,Stp.elim]
  rw[sM b r 1 _ (by omega),yw]
  simp only[Stp.elim,List.nil_append]
  rw[kK,cC,cC]
theorem zF:gL (Ty.zero .acti):=⟨⟨Int.le_refl _,by show(0:Int)<_;decide⟩,Int.le_refl _,by show(0:Int)<_;decide⟩
theorem vy (x:List Acti)(h:∀y∈x,gL y):eC.f (x,())=am.f (x,()):=by
 simp only[PX,eC,am,cp,bN]
 rw[show a7 (λj' a'=>(eW x j' a').nice) 1 (Int.toNat ((x.length:Int)-0)) 0 []=a7 (λj' a'=>(cg x j' a').nice) 1 (Int.toNat ((x.length:Int)-0)) 0 [] from re (λi a=>by
  simp only[PX,eW,cg]
  rw[Ag _ (iO zF h _)]) _ _ _]
 cases decide (60<(x.length:Int))with
 |true=>rfl
 |false=>
  cases a7 (λj' a'=>(cg x j' a').nice) 1 (Int.toNat ((x.length:Int)-0)) 0 []with
  |next a=>simp only[cond_false,Stp.elim,yC,mF]
  |out p=>rfl
theorem nL (x:Acti)(hk:gL x):(n5 x=true∧aD.f (bf x,())=(x,true))∨(bf x=[]∧aD.f (bf x,())=(tI,false)):=by
 cases ho:n5 x with
 |true=>
  refine .inl ⟨rfl, ?_⟩
  have hl:=uq x
  rw[qn _ (by omega),oj x ho,(mh x hk ho).2]
  simp only[cK x hk,beq_self_eq_true,Bool.not_true,cond_false]
 |false=>
  have e:bf x=[]:=by unfold bf;rw[ho];rfl
  refine .inr ⟨e, ?_⟩
  rcases hU (bf x) (by rw[e];decide)with⟨y,_,h2,h3,_⟩|⟨h1,_⟩
  ·exact absurd (h3.trans e) (j7 h2)
  ·exact h1
theorem vr (s:aa)(hs:s.length≤4294967296):(∃x,gL x∧aW.f (x,())=s∧aD.f (s,())=(x,true))∨aD.f (s,())=(tI,false):=by
 rcases hU s hs with⟨x,h1,_,h3,h4,_⟩|⟨h1,_⟩
 ·exact .inl ⟨x,h1,(cK x h1).trans h3,h4⟩
 ·exact .inr h1
theorem ql:aw.f ([],())=(⟨0,0,0⟩,false):=by
 have h:=gl [] 58 (by decide)
 rw[show(((58:UInt8).toNat:Nat):Int)=58 from rfl]at h
 simp only[PX,aw]
 rw[h]
 rfl
theorem tH (t:Tupl)(h:aG.f (t,())=false):aK.f (t,())=[]:=by
 simp only[PX,aK]
 rw[h]
 rfl
theorem rh (x0:List Int)(hk:gL (dS.f (x0,())))(hl:(dW.f (x0,())).length≤4294967296):eq.f (x0,())=true:=by
 simp only[FX.f,PX,eq]
 cases lZ.f (x0,())with
 |true=>rfl
 |false=>
 generalize dS.f (x0,())=a at*
 generalize dW.f (x0,())=s at*
 generalize fM.f (x0,())=t
 rw[gY a hk,cK a hk]
 simp only[beq_self_eq_true,Bool.not_true,cond_false]
 rw[uE s hl]
 have ht:(aw.f (aK.f (t,()),())).2=bO.f (t,())∧((aw.f (aK.f (t,()),())).2=true→(aw.f (aK.f (t,()),())).1=t):=by
  rw[ll]
  cases h:aG.f (t,())with
  |true=>rw[cd t h];exact⟨rfl,λ_=>rfl⟩
  |false=>rw[tH t h,ql];exact⟨rfl,λh=>absurd h (by decide)⟩
 generalize aw.f (aK.f (t,()),())=r at*
 have hend:(bif r.2==bO.f (t,())then bif !r.2 then true else(r.1.ip==t.ip)&&((r.1.port==t.port)&&((r.1.my==t.my)&&true))else false)=true:=by
  rw[←ht.1,beq_self_eq_true,cond_true]
  cases h:r.2 with
  |false=>rfl
  |true=>rw[ht.2 h];simp
 generalize(bif r.2==bO.f (t,())then bif !r.2 then true else(r.1.ip==t.ip)&&((r.1.port==t.port)&&((r.1.my==t.my)&&true))else false)=e at*
 subst hend
 have hb:∀u:Acti×Bool,aD.f (s,())=u→(bif u.2==u.2 then bif !u.2 then true else bif aW.f (u.1,())==s then true else false else false)=true:=λu hu=>by
  rw[beq_self_eq_true,cond_true]
  rcases vr s hl with⟨y,_,h2,h3⟩|h1
  ·rw[h3]at hu;subst hu;simp only[h2,beq_self_eq_true,Bool.not_true,cond_true,cond_false]
  ·rw[h1]at hu;subst hu;rfl
 have hb:=hb _ rfl
 generalize(bif (aD.f (s,())).2==(aD.f (s,())).2 then bif !(aD.f (s,())).2 then true else bif aW.f ((aD.f (s,())).1,())==s then true else false else false)=e at*
 subst hb
 rcases nL a hk with⟨h1,h2⟩|⟨h1,h2⟩
 ·rw[h2,cK a hk]
  have:=j7 h1
  rw[show(bf a==([]:aa))=false by rw[beq_eq_false_iff_ne];exact this]
  simp
 ·rw[h2,h1]
  rfl
theorem xf (x:List Int):eq.f (x,())=true:=by
 rcases Bool.eq_false_or_eq_true (lZ.f (x,()))with hb|hb
 ·simp only[FX.f,PX,eq,hb,cond_true]
 have hx:=y3 x hb
 have hd:=dS.c.h (x,()) ⟨by simp only[sS];omega,hx⟩
 have hr:=dW.c.h (x,()) ⟨by simp only[sS];omega,hx⟩
 refine rh x ?_ (Nat.le_trans hr.2 (by decide))
 obtain⟨h1,h2,h3,h4⟩:=hd.2
 exact⟨⟨h1,h2⟩,h3,h4⟩
theorem yS (x:Acti)(ho:n5 x=true):∀c∈bf x,c≠10:=by
 have hw:=(jr x ho).1.2
 have h:∀l:List aa,(∀p∈l,∀c∈p,c≠32∧c≠10)→∀c∈du 32 l,c≠10:=by
  intro l
  induction l with
  |nil=>intro _ c hc;simp[du]at hc
  |cons p r ih=>
   intro hp c hc
   by_cases hr:r=[]
   ·subst hr
    simp only[du]at hc
    exact(hp p (by simp) c hc).2
   ·rw[gr 32 p r hr]at hc
    rcases List.mem_append.1 hc with hc|hc
    ·exact(hp p (by simp) c hc).2
    ·rcases List.mem_cons.1 hc with rfl|hc
     ·decide
     ·exact ih (λq hq=>hp q (by simp[hq])) c hc
 unfold bf
 rw[ho,cond_true]
 exact h _ hw
theorem mW:∀(l:List Acti) (j:Nat) (a:List aa),(∀y∈l,gL y)→(l.all n5=true→bv (W:=List aa) (λ_ (y:Acti) a=>bif aW.f (y,())==[]then .out a else .next (a++[aW.f (y,())])) j l a= .next (a++l.map bf))∧
  (l.all n5=false→∃w,bv (W:=List aa) (λ_ (y:Acti) a=>bif aW.f (y,())==[]then .out a else .next (a++[aW.f (y,())])) j l a= .out w)
 |[],j,a,_=>⟨λ_=>by simp[bv],λh=>by simp at h⟩
 |y::r,j,a,hk=>by
  have ih:=mW r (j+1) (a++[bf y]) (λz hz=>hk z (by simp[hz]))
  simp only[bv,cK y (hk y (by simp)),List.all_cons]
  cases ho:n5 y with
  |true=>
   rw[show(bf y==([]:aa))=false by rw[beq_eq_false_iff_ne];exact j7 ho]
   simp only[cond_false,Stp.elim,Bool.true_and]
   exact⟨λh=>by rw[ih.1 h];simp,ih.2⟩
  |false=>
   rw[show(bf y==([]:aa))=true by unfold bf;rw[ho];rfl]
   exact⟨λh=>by simp at h,λ_=>⟨a,rfl⟩⟩
theorem me (l:List Acti)(hk:∀y∈l,gL y):am.f (l,())=bif decide (60<(l.length:Int))then[]else bif l.all n5 then du 10 (l.map bf)else[]:=by
 simp only[PX,am,bN]
 rw[bR,b9 l _ rfl (F:=λ_ (y:Acti) a=>bif aW.f (y,())==[]then .out a else .next (a++[aW.f (y,())])) (by
  intro j x a hj
  simp only[cg,aL,getD_some hj,PX])]
 cases decide (60<(l.length:Int))with
 |true=>rfl
 |false=>
  have h:=mW l 0 [] hk
  cases ha:l.all n5 with
  |true=>rw[h.1 ha];simp only[cond_false,cond_true,Stp.elim,mF,List.nil_append]
  |false=>obtain⟨w,hw⟩:=h.2 ha;rw[hw];rfl
theorem yj (s:aa)(hs:s.length≤4294967296):(∃x,gL x∧n5 x=true∧bf x=s∧aD.f (s,())=(x,true))∨(aD.f (s,())=(tI,false)):=by
 rcases hU s hs with⟨x,h1,h2,h3,h4,_⟩|⟨h1,_⟩
 ·exact .inl ⟨x,h1,h2,h3,h4⟩
 ·exact .inr h1
theorem sF:∀(ws:List aa) (j:Nat) (a:List Acti),(∀p∈ws,p.length≤4294967296)→
  (∃l:List Acti,(∀y∈l,gL y)∧l.all n5=true∧l.map bf=ws∧bv (W:=Int×List Acti) (λj (p:aa) a=>bif !(aD.f (p,())).2 then .out ((j:Int),a)else .next (a++[(aD.f (p,())).1])) j ws a= .next (a++l))∨
  (∃(k:Nat) (w:List Acti),bv (W:=Int×List Acti) (λj (p:aa) a=>bif !(aD.f (p,())).2 then .out ((j:Int),a)else .next (a++[(aD.f (p,())).1])) j ws a= .out ((k:Int),w))
 |[],j,a,_=> .inl ⟨[],by simp,rfl,rfl,by simp[bv]⟩
 |p::r,j,a,hp=>by
  simp only[bv]
  rcases yj p (hp p (by simp))with⟨x,h1,h2,h3,h4⟩|h1
  ·rw[h4]
   simp only[Bool.not_true,cond_false,Stp.elim]
   rcases sF r (j+1) (a++[x]) (λz hz=>hp z (by simp[hz]))with⟨l,g1,g2,g3,g4⟩|⟨k,w,g⟩
   ·refine .inl ⟨x::l, ?_, ?_, ?_, ?_⟩
    ·intro y hy
     rcases List.mem_cons.1 hy with rfl|hy
     ·exact h1
     ·exact g1 y hy
    ·rw[List.all_cons,h2,g2];rfl
    ·rw[List.map_cons,h3,g3]
    ·rw[g4];simp
   ·exact .inr ⟨k,w,g⟩
  ·rw[h1]
   exact .inr ⟨j,a,rfl⟩
theorem gT (s:aa)(hs:s.length≤4294967296):bd.f (s,())=bif s==[]then([],-1)else bif decide (60<((eX 10 s []).length:Int))then([],60)else
  Stp.elim (λl=>(l,-1)) (λw=>([],w.1)) (bv (W:=Int×List Acti) (λj (p:aa) a=>bif !(aD.f (p,())).2 then .out ((j:Int),a)else .next (a++[(aD.f (p,())).1])) 0 (eX 10 s []) []):=by
 have hp:=gl s 10 hs
 rw[show(((10:UInt8).toNat:Nat):Int)=10 from rfl]at hp
 simp only[PX,bd,ce,hp]
 generalize eX 10 s []=ws
 rw[bR,b9 ws _ rfl (F:=λj (p:aa) a=>bif !(aD.f (p,())).2 then .out ((j:Int),a)else .next (a++[(aD.f (p,())).1])) (by
  intro j x a hj
  simp only[gZ,aL,getD_some hj,PX])]
theorem vv (s:aa)(hs:s.length≤4294967296):gg.f (s,())=bd.f (s,()):=by
 have hp:=lq s 10 hs
 rw[show(((10:UInt8).toNat:Nat):Int)=10 from rfl]at hp
 have hl:=nU 10 s []
 rw[gT s hs]
 simp only[PX,gg,cf,hp]
 generalize eX 10 s []=ws at*
 rw[bR,b9 ws _ rfl (F:=λj (p:aa) a=>bif !(aD.f (p,())).2 then .out ((j:Int),a)else .next (a++[(aD.f (p,())).1])) (by
  intro j x a hj
  have:=hl x (List.mem_of_getElem? hj)
  simp only[List.length_nil]at this
  simp only[hZ,aL,getD_some hj,PX,uE x (by omega)])]
theorem kh (s:aa)(hs:s.length≤4294967296):(∃l,bd.f (s,())=(l,-1)∧am.f (l,())=s∧(s≠[]→l.map bf=eX 10 s []))∨(∃k:Int,0≤k∧bd.f (s,())=([],k)):=by
 rw[gT s hs]
 have hl:=nU 10 s []
 have hj:=iR 10 s []
 by_cases h0:s=[]
 ·subst h0
  exact .inl ⟨[],rfl,by rw[me [] (by simp)];rfl,λh=>absurd rfl h⟩
 rw[show(s==([]:aa))=false by rw[beq_eq_false_iff_ne];exact h0,cond_false]
 generalize eX 10 s []=ws at*
 by_cases h6:60<(ws.length:Int)
 ·rw[decide_eq_true h6,cond_true]
  exact .inr ⟨60,by decide,rfl⟩
 rw[decide_eq_false h6,cond_false]
 rcases sF ws 0 [] (λp hp=>by have:=hl p hp;simp only[List.length_nil]at this;omega)with⟨l,g1,g2,g3,g4⟩|⟨k,w,g⟩
 ·rw[g4]
  refine .inl ⟨l,rfl, ?_,λ_=>g3⟩
  have hn:l.length=ws.length:=by rw[←g3,List.length_map]
  rw[me l g1,hn,decide_eq_false h6,g2,g3,hj]
  rfl
 ·rw[g]
  exact .inr ⟨k,by omega,rfl⟩
theorem pG (l:List Acti)(hk:∀y∈l,gL y)(hl:(am.f (l,())).length≤4294967296)(hn:am.f (l,())≠[]):∃m,bd.f (am.f (l,()),())=(m,-1)∧m.length=l.length∧am.f (m,())=am.f (l,()):=by
 have he:=me l hk
 cases h6:decide (60<(l.length:Int))with
 |true=>rw[h6]at he;exact absurd he hn
 |false=>
 cases ha:l.all n5 with
 |false=>rw[h6,ha]at he;exact absurd he hn
 |true=>
 rw[h6,ha,cond_false,cond_true]at he
 have hne:l.map bf≠[]:=λh=>hn (by rw[he,h];rfl)
 have hc:eX 10 (du 10 (l.map bf)) []=l.map bf:=sq 10 _ hne (λp hp=>by
  obtain⟨x,hx,rfl⟩:=List.mem_map.1 hp
  exact yS x (List.all_eq_true.1 ha x hx))
 rcases kh (am.f (l,())) hl with⟨m,g1,g2,g3⟩|⟨k,hk0,g⟩
 ·refine⟨m,g1, ?_,g2⟩
  have:=g3 hn
  rw[he,hc]at this
  have:=congrArg List.length this
  simpa using this
 ·exfalso
  rw[gT _ hl,show(am.f (l,())==([]:aa))=false by rw[beq_eq_false_iff_ne];exact hn,cond_false,he,hc,List.length_map,h6,cond_false]at g
  have hr:∀(r:List Acti) (j:Nat) (a:List Acti),(∀y∈r,gL y)→r.all n5=true→bv (W:=Int×List Acti) (λj (p:aa) a=>bif !(aD.f (p,())).2 then .out ((j:Int),a)else .next (a++[(aD.f (p,())).1])) j (r.map bf) a= .next (a++r):=by
   intro r
   induction r with
   |nil=>intro j a _ _;simp[bv]
   |cons y r ih=>
    intro j a hy hall
    rw[List.all_cons,Bool.and_eq_true]at hall
    simp only[List.map_cons,bv]
    rcases nL y (hy y (by simp))with⟨_,h2⟩|⟨h1,_⟩
    ·rw[h2]
     simp only[Bool.not_true,cond_false,Stp.elim]
     rw[ih (j+1) _ (λz hz=>hy z (by simp[hz])) hall.2]
     simp
    ·exact absurd h1 (j7 hall.1)
  rw[hr l 0 [] hk ha]at g
  have:=congrArg Prod.snd g
  simp only[Stp.elim]at this
  omega
theorem x5 (x:List Int):gC.f (x,())=true:=by
 rcases Bool.eq_false_or_eq_true (lZ.f (x,()))with hb|hb
 ·simp only[FX.f,PX,gC,hb,cond_true]
 have hx:=y3 x hb
 have hd:=bz.c.h (x,()) ⟨by simp only[sS];omega,hx⟩
 have hr:=cD.c.h (x,()) ⟨by simp only[sS];omega,hx⟩
 have hk:∀y∈bz.f (x,()),gL y:=λy hy=>by
  obtain⟨h1,h2,h3,h4⟩:=hd.2 y hy
  exact⟨⟨h1,h2⟩,h3,h4⟩
 have hl:(cD.f (x,())).length≤4294967296:=Nat.le_trans hr.2 (by decide)
 have ht:=(am.c.h (bz.f (x,()),()) hd.1).2
 have ht:(am.f (bz.f (x,()),())).length≤4294967296:=Nat.le_trans ht (by decide)
 simp only[FX.f,PX,gC,hb,cond_false]
 generalize bz.f (x,())=l at*
 generalize cD.f (x,())=s at*
 rw[vy l hk,vv s hl]
 simp only[beq_self_eq_true,Bool.not_true,cond_false]
 have h1:(bif !(am.f (l,())==[])then bif (bd.f (am.f (l,()),())).2 != -1 then(true,())else bif ((bd.f (am.f (l,()),())).1.length:Int) != (l.length:Int)then(true,())else(!(am.f ((bd.f (am.f (l,()),())).1,())==am.f (l,())),())else(false,()))=(false,()):=by
  by_cases hn:am.f (l,())=[]
  ·rw[hn];rfl
  ·obtain⟨m,g1,g2,g3⟩:=pG l hk ht hn
   rw[g1,show(am.f (l,())==([]:aa))=false by rw[beq_eq_false_iff_ne];exact hn]
   simp only[g2,g3]
   simp
 rw[h1]
 rcases kh s hl with⟨m,g1,g2,_⟩|⟨k,hk0,g⟩
 ·simp only[g1,g2]
  simp
 ·simp only[g]
  simp[hk0]

end
end Go.Proofs.YtfpdenjmlnhnnaaGreatDoor
