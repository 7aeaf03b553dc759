/-
  Contracts of functions and plain laws (printed by a program): each theorem says what a function of the program returns; conditions are its hypotheses.
-/
import Derived.Test.YtfpdenjmlnhnnaaGreatDoorDK1
set_option linter.all false
set_option maxRecDepth 4000
namespace Go.Proofs.YtfpdenjmlnhnnaaGreatDoor
open Go Go.RowKit
noncomputable section
theorem ur (n:Nat)(h:n≤4294967295):(cj n).length≤15:=by
 unfold cj
 have h1:=i6 (n/16777216) (by omega)
 have h2:=i6 (n/65536%256) (by omega)
 have h3:=i6 (n/256%256) (by omega)
 have h4:=i6 (n%256) (by omega)
 simp only[List.length_append,List.length_cons]
 omega
theorem oV (p:aa)(hp:p.length≤4294967296):(∃n:Nat,n≤4294967295∧dH.f (p,())=((n:Int),true)∧cj n=p)∨(dH.f (p,())=(0,false)∧∀n,n≤4294967295→cj n≠p):=by
 rcases px p hp with⟨a,b,c,d,hc,ga,gb,gc,gd,hi⟩|⟨hb,hi⟩
 ·have e:∀w,dN w=true→val w 0≤255∧i5 w=true:=λw h=>by simp only[dN,Bool.and_eq_true,decide_eq_true_eq]at h;exact⟨h.2,h.1⟩
  have ea:=(e a ga).1
  have eb:=(e b gb).1
  have ec:=(e c gc).1
  have ed:=(e d gd).1
  refine .inl ⟨_, ?_,hi, ?_⟩
  ·unfold gO;omega
  ·have hj:=iT 46 p []
   rw[hc,List.nil_append]at hj
   rw[←hj]
   have n1:gO (val a 0) (val b 0) (val c 0) (val d 0)/16777216=val a 0:=by unfold gO;omega
   have n2:gO (val a 0) (val b 0) (val c 0) (val d 0)/65536%256=val b 0:=by unfold gO;omega
   have n3:gO (val a 0) (val b 0) (val c 0) (val d 0)/256%256=val c 0:=by unfold gO;omega
   have n4:gO (val a 0) (val b 0) (val c 0) (val d 0)%256=val d 0:=by unfold gO;omega
   unfold cj
   rw[n1,n2,n3,n4,cP (e a ga).2,cP (e b gb).2,cP (e c gc).2,cP (e d gd).2]
   rfl
 ·refine .inr ⟨hi,λn hn he=>hb ?_⟩
  rw[←he]
  exact qT n hn
theorem mC (p:aa):(∃n:Nat,cA.f (p,())=((n:Int),true)∧bA n=p)∨(cA.f (p,())=(0,false)∧∀n,n≤65535→bA n≠p):=by
 rw[←nj,jm]
 cases h:i5 p with
 |true=>exact .inl ⟨val p 0,rfl,cP h⟩
 |false=>
  refine .inr ⟨rfl,λn hn he=> ?_⟩
  have:=xz (n:=n) (by omega)
  rw[he,h]at this
  cases this
theorem vW (s:aa)(hs:s.length≤4294967296):dt.f (s,())=aw.f (s,()):=by
 have hp:=lu s 58 hs
 have hq:=gn s 58 hs
 rw[show(((58:UInt8).toNat:Nat):Int)=58 from rfl]at hp hq
 have hl:=nX 58 s []
 have hj:=iT 58 s []
 rw[List.nil_append]at hj
 simp only[PX,dt,aw]
 rw[hp,hq]
 have hc:=λa b c (h:gZ a b c=s)=>(congrArg (λx=>eY 58 x []) h).symm.trans (t6 a b c)
 have hnil:s=[]→eY 58 s []=[[]]:=λh=>by rw[h];rfl
 generalize eY 58 s []=ws at*
 by_cases h3:ws.length=3
 ·match ws,h3 with
  |[p0,p1,p2],_=>
   simp only[show(((([p0,p1,p2]:List aa).length:Nat):Int) != 3)=false from rfl,cond_false,PX,List.getD_cons_zero,List.getD_cons_succ,nj]
   have l0:p0.length≤4294967296:=by have:=hl p0 (by simp);simp at this;omega
   rw[Ai p0 l0]
   have hss:s=p0++58::(p1++58::p2):=hj.symm
   rcases oV p0 l0 with⟨a,ha,e0,t0⟩|⟨e0,t0⟩
   ·rcases mC p1 with⟨b,e1,t1⟩|⟨e1,t1⟩
    ·rcases mC p2 with⟨c,e2,t2⟩|⟨e2,t2⟩
     ·rw[e0,e1,e2]
      simp only[Bool.not_true,cond_false]
      cases ht:aG.f (⟨a,b,c⟩,())with
      |false=>
       rw[ew _ ht]
       have:(([]:aa)==s)=false:=by
        rw[beq_eq_false_iff_ne,hss]
        intro h
        simp at h
       simp only[this,Bool.not_false,cond_true]
      |true=>
       have ht':=ht
       rw[eh]at ht'
       simp only[Bool.and_eq_true,decide_eq_true_eq]at ht'
       rw[eC a b c (by omega) (by omega) (by omega)]
       have:gZ a b c=s:=by unfold gZ;rw[t0,t1,t2,hss]
       simp only[this,beq_self_eq_true,Bool.not_true,cond_false]
     ·rw[e0,e1,e2]
      have key:(bD.f (⟨a,b,0⟩,())==s)=false:=by
       rw[beq_eq_false_iff_ne]
       intro he
       cases ht:aG.f (⟨a,b,0⟩,())with
       |false=>rw[ew _ ht]at he;have:=hnil he.symm;simp at this
       |true=>
        rw[eh]at ht
        simp only[Bool.and_eq_true,decide_eq_true_eq]at ht
        rw[show(0:Int)=((0:Nat):Int) from rfl,eC a b 0 (by omega) (by omega) (by omega)]at he
        have:=hc a b 0 he
        simp only[List.cons.injEq]at this
        exact t2 0 (by omega) this.2.2.1.symm
      simp only[key,Bool.not_true,Bool.not_false,cond_false,cond_true]
    ·rw[e0,e1]
     have key:∀c:Int,(bD.f (⟨a,0,c⟩,())==s)=false:=λc=>by
      rw[beq_eq_false_iff_ne]
      intro he
      cases ht:aG.f (⟨a,0,c⟩,())with
      |false=>rw[ew _ ht]at he;have:=hnil he.symm;simp at this
      |true=>
       rw[eh]at ht
       simp only[Bool.and_eq_true,decide_eq_true_eq]at ht
       obtain⟨c,rfl⟩:=Int.eq_ofNat_of_zero_le ht.2.2.1
       rw[show(0:Int)=((0:Nat):Int) from rfl,eC a 0 c (by omega) (by omega) (by omega)]at he
       have:=hc a 0 c he
       simp only[List.cons.injEq]at this
       exact t1 0 (by omega) this.2.1.symm
     simp only[key,Bool.not_true,Bool.not_false,cond_false,cond_true]
   ·rw[e0]
    have key:∀b c:Int,(bD.f (⟨0,b,c⟩,())==s)=false:=λb c=>by
     rw[beq_eq_false_iff_ne]
     intro he
     cases ht:aG.f (⟨0,b,c⟩,())with
     |false=>rw[ew _ ht]at he;have:=hnil he.symm;simp at this
     |true=>
      rw[eh]at ht
      simp only[Bool.and_eq_true,decide_eq_true_eq]at ht
      obtain⟨b,rfl⟩:=Int.eq_ofNat_of_zero_le ht.2.1.1
      obtain⟨c,rfl⟩:=Int.eq_ofNat_of_zero_le ht.2.2.1
      rw[show(0:Int)=((0:Nat):Int) from rfl,eC 0 b c (by omega) (by omega) (by omega)]at he
      have:=hc 0 b c he
      simp only[List.cons.injEq]at this
      exact t0 0 (by omega) this.1.symm
    simp only[key,Bool.not_false,cond_true]
 ·simp only[PX,show((ws.length:Int) != 3)=true by simp;omega,cond_true]
theorem uV (n:Nat):Lib.decDigits n=bA n:=by
 induction n using Nat.strongRecOn with
 |_ n ih=>
  rw[Lib.decDigits]
  by_cases h:n<10
  ·rw[eU h,dif_pos h]
  ·rw[hL h,dif_neg h,ih (n/10) (by omega)]
theorem eg (n:Nat):dZ.f ((n:Int),())=bA n:=by
 simp only[PX,dZ,vJ];unfold lr Lib.itoa
 rw[if_neg (by omega),Int.toNat_natCast,uV]
theorem mA (l:List aa)(b:UInt8):kV.f (l,[b],())=du b l:=by
 simp only[PX,kV,vA];unfold dI
 cases l with
 |nil=>rfl
 |cons x r=>
  rw[Lib.join_cons]
  induction r generalizing x with
  |nil=>simp[du,Lib.joinTail]
  |cons y r ih=>
   rw[gE b x _ (by simp),←ih y]
   simp[Lib.joinTail]
theorem pQ (n:Nat)(h:n≤4294967295):fq.f ((n:Int),())=cj n:=by
 simp only[PX,fq]
 have m8:∀m:Nat,m<1099511627776→bits .and .i64 (m:Int) 255=((m%256:Nat):Int):=λm hm=>by
  have:=bits_mask .i64 63 (by decide) tP 8 (by decide) (m:Int) (by omega) (by omega)
  rw[show((255:Int))=2 ^ 8-1 by decide,this]
  omega
 rw[un]
 simp only[PX,decide_eq_true (show(0:Int)≤n by omega),decide_eq_true (show(n:Int)≤4294967295 by omega),Bool.and_self,Bool.not_true,cond_false]
 rw[show(n:Int).fdiv 16777216=((n/16777216:Nat):Int) by rw[Int.fdiv_eq_ediv_of_nonneg _ (by omega)];omega,
  show(n:Int).fdiv 65536=((n/65536:Nat):Int) by rw[Int.fdiv_eq_ediv_of_nonneg _ (by omega)];omega,
  show(n:Int).fdiv 256=((n/256:Nat):Int) by rw[Int.fdiv_eq_ediv_of_nonneg _ (by omega)];omega,
  m8 _ (by omega),m8 _ (by omega),m8 _ (by omega),eg,eg,eg,eg,mA]
 rfl
theorem hU {t:Tupl}(h:aG.f (t,())=true):∃a b c:Nat,t=⟨a,b,c⟩∧a≤4294967295∧b≤65535∧c≤65535:=by
 obtain⟨a,b,c⟩:=t
 rw[eh]at h
 simp only[Bool.and_eq_true,decide_eq_true_eq]at h
 obtain⟨a,rfl⟩:=Int.eq_ofNat_of_zero_le h.1.1
 obtain⟨b,rfl⟩:=Int.eq_ofNat_of_zero_le h.2.1.1
 obtain⟨c,rfl⟩:=Int.eq_ofNat_of_zero_le h.2.2.1
 exact⟨a,b,c,rfl,by omega,by omega,by omega⟩
theorem fk (a b c:Nat)(ha:a≤4294967295)(hb:b≤65535)(hc:c≤65535):aK.f (⟨a,b,c⟩,())=gZ a b c:=by
 simp only[PX,aK]
 rw[eh]
 simp only[PX,decide_eq_true (show(0:Int)≤a by omega),decide_eq_true (show(a:Int)≤4294967295 by omega),decide_eq_true (show(0:Int)≤b by omega),decide_eq_true (show(b:Int)≤65535 by omega),decide_eq_true (show(0:Int)≤c by omega),decide_eq_true (show(c:Int)≤65535 by omega),Bool.and_self,Bool.not_true,cond_false]
 rw[pQ a ha,eg b,eg c]
 unfold gZ
 simp only[List.append_assoc,List.cons_append,List.nil_append]
theorem v9 (t:Tupl):bD.f (t,())=aK.f (t,()):=by
 cases h:aG.f (t,())with
 |true=>
  obtain⟨a,b,c,rfl,ha,hb,hc⟩:=hU h
  rw[eC a b c ha hb hc,fk a b c ha hb hc]
 |false=>
  rw[ew t h]
  simp only[PX,aK]
  simp only[PX,h,Bool.not_false,cond_true]
def ly (n:Nat):aa:=[UInt8.ofNat (n/72057594037927936),UInt8.ofNat (n/281474976710656%256),UInt8.ofNat (n/1099511627776%256),UInt8.ofNat (n/4294967296%256),UInt8.ofNat (n/16777216%256),UInt8.ofNat (n/65536%256),UInt8.ofNat (n/256%256),UInt8.ofNat (n%256)]
theorem zm (n:Nat)(h:n<18446744073709551616):kf.f ((n:Int),())=fQ (ly n):=by
 simp only[PX,kf,dU]
 have fd:∀m:Nat,(m:Int).fdiv 256=((m/256:Nat):Int):=λm=>by rw[Int.fdiv_eq_ediv_of_nonneg _ (by omega)];omega
 have w8:∀m:Nat,IntKind.wrap .u8 (m:Int)=((m%256:Nat):Int):=λm=>by rw[gm];omega
 simp only[show Int.toNat (7-0+1)=8 from rfl,a7,lS,Stp.elim,PX,fd,w8,Nat.div_div_eq_div_mul,
  show(7:Int)+ -1=6 from rfl,show(6:Int)+ -1=5 from rfl,show(5:Int)+ -1=4 from rfl,show(4:Int)+ -1=3 from rfl,show(3:Int)+ -1=2 from rfl,show(2:Int)+ -1=1 from rfl,show(1:Int)+ -1=0 from rfl,
  show Int.toNat 0=0 from rfl,show Int.toNat 1=1 from rfl,show Int.toNat 2=2 from rfl,show Int.toNat 3=3 from rfl,show Int.toNat 4=4 from rfl,show Int.toNat 5=5 from rfl,show Int.toNat 6=6 from rfl,show Int.toNat 7=7 from rfl,
  List.replicate,List.set,aA,List.map_cons,List.map_nil,Int.toNat_natCast,zv]
 unfold ly
 rw[show n/(256*256*256*256*256*256*256)%256=n/72057594037927936 by omega]
theorem y3 (n:Nat)(h:n<18446744073709551616):ki.f ((n:Int),())=fQ (ly n):=by
 simp only[PX,ki]
 have e1:IntKind.wrap .i64 (IntKind.wrap .u64 ((n:Int).tdiv 4294967296))=((n/4294967296:Nat):Int):=by
  rw[(iU 4294967296).1 (by omega)]
  have:IntKind.wrap .u64 ((n:Int)/4294967296)=(n:Int)/4294967296:=by simp[IntKind.wrap,IntKind.bits,IntKind.signed];omega
  rw[this,a9 (by omega) (by omega)];omega
 have e2:IntKind.wrap .i64 ((n:Int).tmod 4294967296)=((n%4294967296:Nat):Int):=by
  rw[(eN 4294967296).1 (by omega),a9 (by omega) (by omega)];omega
 simp only[PX,e1,e2,ze]
 rw[rf _ (by omega),rf _ (by omega)]
 unfold ly
 rw[show n/4294967296/16777216=n/72057594037927936 by omega,show n/4294967296/65536%256=n/281474976710656%256 by omega,show n/4294967296/256%256=n/1099511627776%256 by omega,
  show n%4294967296/16777216=n/16777216%256 by omega,show n%4294967296/65536%256=n/65536%256 by omega,show n%4294967296/256%256=n/256%256 by omega,show n%4294967296%256=n%256 by omega]
 rfl
theorem pi (n:Nat)(h:n<18446744073709551616):bM.f ((fQ (ly n)),())=((n:Int),true):=by
 simp only[PX,bM,dk]
 rw[tW _ (by rw[fJ];show 2*8≤_;omega),lf]
 have st:∀(a b:Nat),a<72057594037927936→b<256→bits .or .u64 (IntKind.wrap .u64 ((a:Int)*256)) (IntKind.wrap .u64 ((UInt8.ofNat b).toNat:Int))=((a*256+b:Nat):Int):=λa b ha hb=>by
  rw[iY hb,fe _ (by omega) (by omega),fe _ (by omega) (by omega),bits_join .u64 64 (by decide) fe 8 _ _ (by omega) (by omega) (by omega) (by omega) (by omega) (by omega)]
  omega
 simp only[PX,Bool.not_true,cond_false,show(((ly n).length:Int) != 8)=false from rfl,show Int.toNat (8-0)=8 from rfl,a7,gU,Stp.elim,
  show(0:Int)+1=1 from rfl,show(1:Int)+1=2 from rfl,show(2:Int)+1=3 from rfl,show(3:Int)+1=4 from rfl,show(4:Int)+1=5 from rfl,show(5:Int)+1=6 from rfl,show(6:Int)+1=7 from rfl,
  show Int.toNat 0=0 from rfl,show Int.toNat 1=1 from rfl,show Int.toNat 2=2 from rfl,show Int.toNat 3=3 from rfl,show Int.toNat 4=4 from rfl,show Int.toNat 5=5 from rfl,show Int.toNat 6=6 from rfl,show Int.toNat 7=7 from rfl]
 simp only[au,ly,List.getD_cons_zero,List.getD_cons_succ]
 have h0:=st 0 (n/72057594037927936) (by omega) (by omega)
 rw[show((0:Nat):Int)=0 from rfl]at h0
 rw[h0,st _ _ (by omega) (by omega),st _ _ (by omega) (by omega),st _ _ (by omega) (by omega),st _ _ (by omega) (by omega),st _ _ (by omega) (by omega),st _ _ (by omega) (by omega),st _ _ (by omega) (by omega)]
 congr 2
 omega
theorem Bw (a b:Nat)(ha:a<4294967296)(hb:b<256):IntKind.wrap .i64 ((IntKind.wrap .i64 (256*(a:Int)))+(IntKind.wrap .i64 ((UInt8.ofNat b).toNat:Int)))=((256*a+b:Nat):Int):=by
 rw[iY hb,a9 (m:=256*(a:Int)) (by omega) (by omega),a9 (m:=((b:Nat):Int)) (by omega) (by omega),a9 (by omega) (by omega)]
 omega
theorem py (s:aa)(p j:Nat)(x:Int)(a b:Nat)(hs:s.getD (p+j) 0=UInt8.ofNat b)(ha:a<4294967296)(hb:b<256)(hp:p+j<4294967296):(aY s (p:Int) (j:Int) (a:Int)).nice= .next ((256*a+b:Nat):Int):=by
 simp only[PX,aY];unfold au
 rw[a9 (m:=(p:Int)+j) (by omega) (by omega),show((p:Int)+j).toNat=p+j by omega,hs,Bw a b ha hb]
theorem C8 (n:Nat)(h:n<18446744073709551616):eZ.f ((ly n),0,4,())=(((n/4294967296:Nat):Int),true):=by
 have i0:bJ.f (4,1,6,())=true:=rfl
 have hl:(IntKind.wrap .i64 (((ly n).length:Int)-4))=4:=by rw[show(ly n).length=8 from rfl];decide+kernel
 have i1:bJ.f (0,0,4,())=true:=rfl
 have e0:(aY (ly n) 0 0 0).nice= .next ((256*0+n/72057594037927936:Nat):Int):=py (ly n) 0 0 4 (0) (n/72057594037927936) rfl (by omega) (by omega) (by omega)
 have e1:(aY (ly n) 0 1 ((256*0+n/72057594037927936:Nat):Int)).nice= .next ((256*(256*0+n/72057594037927936)+n/281474976710656%256:Nat):Int):=py (ly n) 0 1 4 (256*0+n/72057594037927936) (n/281474976710656%256) rfl (by omega) (by omega) (by omega)
 have e2:(aY (ly n) 0 2 ((256*(256*0+n/72057594037927936)+n/281474976710656%256:Nat):Int)).nice= .next ((256*(256*(256*0+n/72057594037927936)+n/281474976710656%256)+n/1099511627776%256:Nat):Int):=py (ly n) 0 2 4 (256*(256*0+n/72057594037927936)+n/281474976710656%256) (n/1099511627776%256) rfl (by omega) (by omega) (by omega)
 have e3:(aY (ly n) 0 3 ((256*(256*(256*0+n/72057594037927936)+n/281474976710656%256)+n/1099511627776%256:Nat):Int)).nice= .next ((256*(256*(256*(256*0+n/72057594037927936)+n/281474976710656%256)+n/1099511627776%256)+n/4294967296%256:Nat):Int):=py (ly n) 0 3 4 (256*(256*(256*0+n/72057594037927936)+n/281474976710656%256)+n/1099511627776%256) (n/4294967296%256) rfl (by omega) (by omega) (by omega)
 simp only[PX,eZ,dm]
 rw[i0,hl,i1]
 simp only[Bool.not_true,cond_false]
 rw[show Int.toNat (4-0)=4 from rfl,a7,e0,Stp.elim,show(0:Int)+1=1 from rfl,a7,e1,Stp.elim,show(1:Int)+1=2 from rfl,a7,e2,Stp.elim,show(2:Int)+1=3 from rfl,a7,e3,Stp.elim,a7,Stp.elim]
 refine congrArg (λm:Nat=>((m:Int),true)) ?_
 omega
theorem Dk (n:Nat)(h:n<18446744073709551616):eZ.f ((ly n),4,4,())=(((n%4294967296:Nat):Int),true):=by
 have i0:bJ.f (4,1,6,())=true:=rfl
 have hl:(IntKind.wrap .i64 (((ly n).length:Int)-4))=4:=by rw[show(ly n).length=8 from rfl];decide+kernel
 have i1:bJ.f (4,0,4,())=true:=rfl
 have e0:(aY (ly n) 4 0 0).nice= .next ((256*0+n/16777216%256:Nat):Int):=py (ly n) 4 0 4 (0) (n/16777216%256) rfl (by omega) (by omega) (by omega)
 have e1:(aY (ly n) 4 1 ((256*0+n/16777216%256:Nat):Int)).nice= .next ((256*(256*0+n/16777216%256)+n/65536%256:Nat):Int):=py (ly n) 4 1 4 (256*0+n/16777216%256) (n/65536%256) rfl (by omega) (by omega) (by omega)
 have e2:(aY (ly n) 4 2 ((256*(256*0+n/16777216%256)+n/65536%256:Nat):Int)).nice= .next ((256*(256*(256*0+n/16777216%256)+n/65536%256)+n/256%256:Nat):Int):=py (ly n) 4 2 4 (256*(256*0+n/16777216%256)+n/65536%256) (n/256%256) rfl (by omega) (by omega) (by omega)
 have e3:(aY (ly n) 4 3 ((256*(256*(256*0+n/16777216%256)+n/65536%256)+n/256%256:Nat):Int)).nice= .next ((256*(256*(256*(256*0+n/16777216%256)+n/65536%256)+n/256%256)+n%256:Nat):Int):=py (ly n) 4 3 4 (256*(256*(256*0+n/16777216%256)+n/65536%256)+n/256%256) (n%256) rfl (by omega) (by omega) (by omega)
 simp only[PX,eZ,dm]
 rw[i0,hl,i1]
 simp only[Bool.not_true,cond_false]
 rw[show Int.toNat (4-0)=4 from rfl,a7,e0,Stp.elim,show(0:Int)+1=1 from rfl,a7,e1,Stp.elim,show(1:Int)+1=2 from rfl,a7,e2,Stp.elim,show(2:Int)+1=3 from rfl,a7,e3,Stp.elim,a7,Stp.elim]
 refine congrArg (λm:Nat=>((m:Int),true)) ?_
 omega
theorem ui (n:Nat)(h:n<18446744073709551616):cr.f ((fQ (ly n)),())=(n:Int):=by
 simp only[PX,cr]
 rw[oL _ (by rw[fJ];show 2*8≤_;omega),lf]
 simp only[PX,C8 n h,Dk n h]
 rw[fe (((n/4294967296:Nat):Int)) (by omega) (by omega),fe (((n%4294967296:Nat):Int)) (by omega) (by omega),fe (((n/4294967296:Nat):Int)*4294967296) (by omega) (by omega),fe _ (by omega) (by omega)]
 omega
theorem uq (k:Int):iO.f (k,())=ak.f (k,()):=by
 simp only[PX,iO,ak]
 rw[eo,dA]
theorem w6 (kd:Int)(t:Tupl)(n:Int)(tx:aa)(mac:Mac):d4.f (⟨kd,t,n,tx,mac⟩,())=((decide (1≤kd)&&decide (kd≤8))&&(decide ((tx.length:Int)≤1600)&&(dJ.f (mac,())&&((decide (0≤n)&&decide (n≤65535))&&(((tx==[])||((kd==1)||(kd==5)))&&(((kd==3)||bq.f (mac,⟨false,0,0,[]⟩,()))&&
  ((bif decide (5≤kd)then aG.f (t,())else((t.ip==0)&&((t.port==0)&&(t.my==0))))&&((n==0)||(kd==6))))))))):=by
 have hs:bq.f (mac,⟨false,0,0,[]⟩,())=true→dJ.f (mac,())=true:=λh=>by rw[jv mac h];rfl
 have hx:(tx==[])=true→decide ((tx.length:Int)≤1600)=true:=λh=>by
  have:tx=[]:=by simpa using h
  subst this;rfl
 have hn:(n==0)=true→(decide (0≤n)&&decide (n≤65535))=true:=λh=>by
  have:n=0:=by simpa using h
  subst this;rfl
 have hl:decide (1600<(tx.length:Int))= !decide ((tx.length:Int)≤1600):=by
  rcases Int.lt_or_le 1600 (tx.length:Int)with h|h
  ·simp[h,show¬((tx.length:Int)≤1600) by omega]
  ·simp[h,show¬(1600<(tx.length:Int)) by omega]
 have hb:(n != 0)= !(n==0):=rfl
 simp only[PX,d4]
 simp only[PX,dA,hl,hb,Bool.and_true]
 have hk:kd=1∨kd=2∨kd=3∨kd=4∨kd=5∨kd=6∨kd=7∨kd=8∨(decide (1≤kd)&&decide (kd≤8))=false:=by
  simp only[Bool.and_eq_false_iff,decide_eq_false_iff_not];omega
 clear hl hb
 generalize bq.f (mac,⟨false,0,0,[]⟩,())=S at*
 generalize dJ.f (mac,())=M at*
 generalize aG.f (t,())=T at*
 generalize((t.ip==0)&&((t.port==0)&&(t.my==0)))=Z at*
 generalize(tx==[])=X at*
 generalize decide ((tx.length:Int)≤1600)=L at*
 generalize(decide (0≤n)&&decide (n≤65535))=NN at*
 generalize(n==0)=N0 at*
 clear tx n t mac
 rcases hk with rfl|rfl|rfl|rfl|rfl|rfl|rfl|rfl|hk
 iterate 8 (revert S M T Z X L NN N0;decide+kernel)
 simp[hk]
theorem yo (x:Acti):d4.f (x,())=((decide (1≤x.kind)&&decide (x.kind≤8))&&(decide ((x.text.length:Int)≤1600)&&(dJ.f (x.mac,())&&((decide (0≤x.n)&&decide (x.n≤65535))&&(((x.text==[])||((x.kind==1)||(x.kind==5)))&&(((x.kind==3)||bq.f (x.mac,⟨false,0,0,[]⟩,()))&&
  ((bif decide (5≤x.kind)then aG.f (x.tuple,())else((x.tuple.ip==0)&&((x.tuple.port==0)&&(x.tuple.my==0))))&&((x.n==0)||(x.kind==6))))))))):=w6 x.kind x.tuple x.n x.text x.mac
theorem Bu (m:Mac)(h:dJ.f (m,())=true)(hu:m.use=false):m.rows=[]:=by
 simp only[PX,dJ,eO]at h
 rw[hu]at h
 simpa using h
theorem ll (x:Acti)(h:d4.f (x,())=true):(1≤x.kind∧x.kind≤8)∧x.text.length≤1600∧dJ.f (x.mac,())=true∧(∃n:Nat,x.n=(n:Int)∧n≤65535)∧(x.kind≠1→x.kind≠5→x.text=[])∧(x.kind≠3→x.mac=⟨false,0,0,[]⟩)∧
  (5≤x.kind→aG.f (x.tuple,())=true)∧(x.kind<5→x.tuple=⟨0,0,0⟩)∧(x.kind≠6→x.n=0):=by
 rw[yo]at h
 simp only[Bool.and_eq_true,decide_eq_true_eq,Bool.or_eq_true,beq_iff_eq]at h
 obtain⟨h1,h2,h3,h4,h5,h6,h7,h8⟩:=h
 obtain⟨n,hn⟩:=Int.eq_ofNat_of_zero_le h4.1
 refine⟨h1,by omega,h3,⟨n,hn,by omega⟩,λa b=> ?_,λa=> ?_,λa=> ?_,λa=> ?_,λa=> ?_⟩
 ·rcases h5 with h|h|h
  ·exact h
  ·exact absurd h a
  ·exact absurd h b
 ·rcases h6 with h|h
  ·exact absurd h a
  ·exact jv _ h
 ·rw[decide_eq_true a]at h7;exact h7
 ·rw[decide_eq_false (by omega)]at h7
  simp only[cond_false,Bool.and_eq_true,beq_iff_eq]at h7
  have:∀t:Tupl,t.ip=0∧t.port=0∧t.my=0→t=⟨0,0,0⟩:=by rintro⟨a,b,c⟩ ⟨rfl,rfl,rfl⟩;rfl
  exact this _ h7
 ·rcases h8 with h|h
  ·exact h
  ·exact absurd h a
def gX (t:aa):aa:=bif (t==[])then[45]else fQ t
theorem BH (t:aa):gF.f (t,())=gX t:=by unfold gX;simp only[PX,gF];rw[ze]
theorem AD (t:aa):p5.f (t,())=gX t:=by unfold gX;simp only[PX,p5];rw[zv]
def cS (x:Acti):List aa:=
 bif x.kind==1 then[ak.f (x.kind,()),gX x.text]else
 bif x.kind==3 then[ak.f (x.kind,()),fQ (ly x.mac.k.toNat),fQ (ly x.mac.l.toNat)]else
 bif x.kind==5 then[ak.f (x.kind,()),aK.f (x.tuple,()),gX x.text]else
 bif x.kind==6 then[ak.f (x.kind,()),aK.f (x.tuple,()),bA x.n.toNat]else
 bif decide (5≤x.kind)then[ak.f (x.kind,()),aK.f (x.tuple,())]else[ak.f (x.kind,())]
def n5 (x:Acti):Bool:=d4.f (x,())&& !x.mac.use
def bg (x:Acti):aa:=bif n5 x then du 32 (cS x)else[]
def gz (x:Acti):Prop:=(0≤x.mac.k∧x.mac.k<18446744073709551616)∧(0≤x.mac.l∧x.mac.l<18446744073709551616)
theorem mX {k:Int}(h:1≤k∧k≤8):k=1∨k=2∨k=3∨k=4∨k=5∨k=6∨k=7∨k=8:=by omega
theorem uM (a b:aa):du 32 [a,b]=a++32::b:=rfl
theorem sN (a b c:aa):du 32 [a,b,c]=a++32::(b++32::c):=rfl
theorem yK (a:aa):du 32 [a]=a:=rfl
theorem il (x:Acti)(hk:gz x):br.f (x,())=bg x:=by
 unfold bg n5;simp only[PX,br]
 rw[B7]
 cases ho:d4.f (x,())with
 |false=>rfl
 |true=>
  cases hu:x.mac.use with
  |true=>rfl
  |false=>
   obtain⟨h1,_,_,⟨m,hm,hm2⟩,_⟩:=ll x ho
   obtain⟨kd,t,n,tx,mac⟩:=x
   obtain⟨⟨hk1,hk2⟩,hk3,hk4⟩:=hk
   simp only at hm h1 hk1 hk2 hk3 hk4
   obtain⟨k',hk'⟩:=Int.eq_ofNat_of_zero_le hk1
   obtain⟨l',hl'⟩:=Int.eq_ofNat_of_zero_le hk3
   have e1:=y3 k' (by omega)
   have e2:=y3 l' (by omega)
   rw[←hk']at e1
   rw[←hl']at e2
   have e3:=iW m (by omega)
   have f1:mac.k.toNat=k':=by omega
   have f2:mac.l.toNat=l':=by omega
   subst hm
   rcases mX h1 with rfl|rfl|rfl|rfl|rfl|rfl|rfl|rfl<;>
    simp[cS,yK,uM,sN,uq,v9,BH,e1,e2,e3,f1,f2]
theorem cK (x:Acti)(hk:gz x):aV.f (x,())=bg x:=by
 unfold bg n5;simp only[PX,aV]
 cases ho:d4.f (x,())with
 |false=>rfl
 |true=>
  cases hu:x.mac.use with
  |true=>rfl
  |false=>
   obtain⟨h1,_,_,⟨m,hm,hm2⟩,_⟩:=ll x ho
   obtain⟨kd,t,n,tx,mac⟩:=x
   obtain⟨⟨hk1,hk2⟩,hk3,hk4⟩:=hk
   simp only at hm h1 hk1 hk2 hk3 hk4
   obtain⟨k',hk'⟩:=Int.eq_ofNat_of_zero_le hk1
   obtain⟨l',hl'⟩:=Int.eq_ofNat_of_zero_le hk3
   have e1:=zm k' (by omega)
   have e2:=zm l' (by omega)
   rw[←hk']at e1
   rw[←hl']at e2
   have e3:=eg m
   have f1:mac.k.toNat=k':=by omega
   have f2:mac.l.toNat=l':=by omega
   subst hm
   rcases mX h1 with rfl|rfl|rfl|rfl|rfl|rfl|rfl|rfl<;>
    simp[cS,yK,uM,sN,AD,e1,e2,e3,f1,f2]
theorem Ae (x:Acti)(hk:gz x):br.f (x,())=aV.f (x,()):=by rw[il x hk,cK x hk]
theorem t9 (a b c:Nat)(ha:a≤4294967295)(hb:b≤65535)(hc:c≤65535):(gZ a b c).length≤27:=by
 have h1:=ur a ha
 have h2:=iQ 4 b (by omega)
 have h3:=iQ 4 c (by omega)
 unfold gZ
 simp only[List.length_append,List.length_cons]
 omega
theorem fu (t:Tupl)(h:aG.f (t,())=true):(aK.f (t,())).length≤27:=by
 obtain⟨a,b,c,rfl,ha,hb,hc⟩:=hU h
 rw[fk a b c ha hb hc]
 exact t9 a b c ha hb hc
theorem y4:∀n:Nat,n<16→mc n≠32∧mc n≠10:=by decide+kernel
theorem p8:∀t:aa,∀c∈fQ t,c≠32∧c≠10
 |[],c,h=>by simp[fQ]at h
 |a::r,c,h=>by
  have:=a.toNat_lt
  simp only[fQ,List.mem_cons]at h
  rcases h with rfl|rfl|h
  ·exact y4 _ (by omega)
  ·exact y4 _ (by omega)
  ·exact p8 r c h
theorem wU (t:aa):∀c∈gX t,c≠32∧c≠10:=by
 unfold gX
 cases t==[]with
 |true=>intro c h;simp at h;subst h;decide
 |false=>exact p8 t
theorem gT (n:Nat):∀c∈bA n,c≠32∧c≠10:=λc h=>⟨fO (by decide) n c h,fO (by decide) n c h⟩
theorem BC (a b c:Nat):∀x∈gZ a b c,x≠32∧x≠10:=by
 intro x hx
 unfold gZ cj at hx
 simp only[List.mem_append,List.mem_cons]at hx
 rcases hx with(hx|rfl|hx|rfl|hx|rfl|hx)|rfl|hx|rfl|hx
 ·exact gT _ x hx
 ·decide
 ·exact gT _ x hx
 ·decide
 ·exact gT _ x hx
 ·decide
 ·exact gT _ x hx
 ·decide
 ·exact gT _ x hx
 ·decide
 ·exact gT _ x hx
theorem jl (t:Tupl)(h:aG.f (t,())=true):∀x∈aK.f (t,()),x≠32∧x≠10:=by
 obtain⟨a,b,c,rfl,ha,hb,hc⟩:=hU h
 rw[fk a b c ha hb hc]
 exact BC a b c
theorem Cn {k:Int}(h:1≤k∧k≤8):(∀x∈ak.f (k,()),x≠32∧x≠10)∧(ak.f (k,())).length≤6∧ak.f (k,())≠[]:=by
 rcases mX h with rfl|rfl|rfl|rfl|rfl|rfl|rfl|rfl<;>decide+kernel
theorem Az (t:aa)(h:t.length≤1600):(gX t).length≤3200:=by
 unfold gX
 cases t==[]with
 |true=>simp
 |false=>rw[cond_false,fJ];omega
theorem jE (x:Acti)(ho:n5 x=true):(cS x≠[]∧∀p∈cS x,∀c∈p,c≠32∧c≠10)∧(du 32 (cS x)).length≤3260∧du 32 (cS x)≠[]:=by
 unfold n5 at ho
 simp only[Bool.and_eq_true,Bool.not_eq_true']at ho
 obtain⟨h1,hl,hM,⟨m,hm,hm2⟩,h5,h6,h7,h8,h9⟩:=ll x ho.1
 obtain⟨w1,w2,w3⟩:=Cn h1
 have d:=iQ 4 m (by omega)
 have t1:=Az x.text hl
 have be:∀n,(fQ (ly n)).length=16:=λn=>by rw[fJ];rfl
 have two:∀a b:aa,(∀c∈a,c≠32∧c≠10)→(∀c∈b,c≠32∧c≠10)→∀p∈[a,b],∀c∈p,c≠32∧c≠10:=λa b ha hb p hp=>by
  simp only[List.mem_cons,List.not_mem_nil,or_false]at hp
  rcases hp with rfl|rfl<;>assumption
 have three:∀a b c:aa,(∀x∈a,x≠32∧x≠10)→(∀x∈b,x≠32∧x≠10)→(∀x∈c,x≠32∧x≠10)→∀p∈[a,b,c],∀x∈p,x≠32∧x≠10:=λa b c ha hb hc p hp=>by
  simp only[List.mem_cons,List.not_mem_nil,or_false]at hp
  rcases hp with rfl|rfl|rfl<;>assumption
 have ap:∀a b:aa,a≠[]→a++b≠[]:=λa b h=>by simp[h]
 unfold cS
 cases x.kind==1 with
 |true=>
  rw[cond_true,uM]
  exact⟨⟨by simp,two _ _ w1 (wU _)⟩,by simp only[List.length_append,List.length_cons];omega,ap _ _ w3⟩
 |false=>
  rw[cond_false]
  cases x.kind==3 with
  |true=>
   rw[cond_true,sN]
   exact⟨⟨by simp,three _ _ _ w1 (p8 _) (p8 _)⟩,by simp only[List.length_append,List.length_cons,be];omega,ap _ _ w3⟩
  |false=>
   rw[cond_false]
   cases hk5:x.kind==5 with
   |true=>
    have ht:=h7 (by have:=eq_of_beq hk5;omega)
    have t2:=fu _ ht
    rw[cond_true,sN]
    exact⟨⟨by simp,three _ _ _ w1 (jl _ ht) (wU _)⟩,by simp only[List.length_append,List.length_cons];omega,ap _ _ w3⟩
   |false=>
    rw[cond_false]
    cases hk6:x.kind==6 with
    |true=>
     have ht:=h7 (by have:=eq_of_beq hk6;omega)
     have t2:=fu _ ht
     rw[cond_true,sN,hm,Int.toNat_natCast]
     exact⟨⟨by simp,three _ _ _ w1 (jl _ ht) (gT _)⟩,by simp only[List.length_append,List.length_cons];omega,ap _ _ w3⟩
    |false=>
     rw[cond_false]
     cases hk7:decide (5≤x.kind)with
     |true=>
      have ht:=h7 (by simpa using hk7)
      have t2:=fu _ ht
      rw[cond_true,uM]
      exact⟨⟨by simp,two _ _ w1 (jl _ ht)⟩,by simp only[List.length_append,List.length_cons];omega,ap _ _ w3⟩
     |false=>
      rw[cond_false,yK]
      refine⟨⟨by simp,λp hp=> ?_⟩,by omega,w3⟩
      rw[List.mem_singleton]at hp
      subst hp
      exact w1
theorem oh (x:Acti)(ho:n5 x=true):eY 32 (bg x) []=cS x:=by
 unfold bg
 rw[ho,cond_true]
 obtain⟨⟨h1,h2⟩,_⟩:=jE x ho
 exact rr 32 _ h1 λp hp c hc=>(h2 p hp c hc).1
theorem t8 (x:Acti):(bg x).length≤3260:=by
 unfold bg
 cases ho:n5 x with
 |true=>exact(jE x ho).2.1
 |false=>simp
theorem wv {x:Acti}(h:bg x≠[]):n5 x=true:=by
 unfold bg at h
 cases ho:n5 x with
 |true=>rfl
 |false=>rw[ho]at h;exact absurd rfl h
theorem j9 {x:Acti}(ho:n5 x=true):bg x≠[]:=by
 unfold bg
 rw[ho]
 exact(jE x ho).2.2
theorem BM {A W:Type}(c:Bool)(a b:A):(bif c then(.next a:Stp A W)else .next b)= .next (bif c then a else b):=by cases c<;>rfl
def aR (w:aa):Int:=
 bif ak.f (8,())==w then 8 else bif ak.f (7,())==w then 7 else bif ak.f (6,())==w then 6 else bif ak.f (5,())==w then 5 else
 bif ak.f (4,())==w then 4 else bif ak.f (3,())==w then 3 else bif ak.f (2,())==w then 2 else bif ak.f (1,())==w then 1 else 0
theorem Ax {f:Int→Int→Stp Int Empty}{w:aa}(hf:∀v a,f v a=bif ak.f (v,())==w then .next v else .next a):a7 f 1 (Int.toNat (8-1+1)) 1 0= .next (aR w):=by
 simp only[show Int.toNat (8-1+1)=8 from rfl,a7,hf,BM,Stp.elim,
  show(1:Int)+1=2 from rfl,show(2:Int)+1=3 from rfl,show(3:Int)+1=4 from rfl,show(4:Int)+1=5 from rfl,show(5:Int)+1=6 from rfl,show(6:Int)+1=7 from rfl,show(7:Int)+1=8 from rfl]
 rfl
theorem mE {f:Int→Acti×Acti→Stp (Acti×Acti) Empty}{w:aa}(hf:∀v a,f v a=bif ak.f (v,())==w then .next ({a.1 with mac.rows:=[]},{a.2 with kind:=v,mac.rows:=[]})else .next ({a.1 with mac.rows:=[]},{a.2 with mac.rows:=[]})):
  ∀(n:Nat) (i k:Int),a7 f 1 n i (⟨0,⟨0,0,0⟩,0,[],⟨false,0,0,[]⟩⟩,⟨k,⟨0,0,0⟩,0,[],⟨false,0,0,[]⟩⟩)=Stp.elim (λk'=> .next (⟨0,⟨0,0,0⟩,0,[],⟨false,0,0,[]⟩⟩,⟨k',⟨0,0,0⟩,0,[],⟨false,0,0,[]⟩⟩)) Empty.elim (a7 (λv (a:Int)=>bif ak.f (v,())==w then(.next v:Stp Int Empty)else .next a) 1 n i k)
 |0,i,k=>rfl
 |n+1,i,k=>by
  simp only[a7,hf]
  cases ak.f (i,())==w with
  |true=>simp only[cond_true,Stp.elim];exact mE hf n (i+1) i
  |false=>simp only[cond_false,Stp.elim];exact mE hf n (i+1) k
theorem qY {f:Int→Acti×Acti→Stp (Acti×Acti) Empty}{w:aa}(hf:∀v a,f v a=bif ak.f (v,())==w then .next ({a.1 with mac.rows:=[]},{a.2 with kind:=v,mac.rows:=[]})else .next ({a.1 with mac.rows:=[]},{a.2 with mac.rows:=[]})):
  a7 f 1 (Int.toNat (8-1+1)) 1 (⟨0,⟨0,0,0⟩,0,[],⟨false,0,0,[]⟩⟩,⟨0,⟨0,0,0⟩,0,[],⟨false,0,0,[]⟩⟩)= .next (⟨0,⟨0,0,0⟩,0,[],⟨false,0,0,[]⟩⟩,⟨aR w,⟨0,0,0⟩,0,[],⟨false,0,0,[]⟩⟩):=by
 rw[mE hf,Ax (w:=w) (λ_ _=>rfl)]
 rfl
theorem jQ (w:aa):aR w=0∨aR w=1∨aR w=2∨aR w=3∨aR w=4∨aR w=5∨aR w=6∨aR w=7∨aR w=8:=by
 unfold aR
 cases ak.f (8,())==w<;>cases ak.f (7,())==w<;>cases ak.f (6,())==w<;>cases ak.f (5,())==w<;>cases ak.f (4,())==w<;>cases ak.f (3,())==w<;>cases ak.f (2,())==w<;>cases ak.f (1,())==w<;>simp
theorem xq:aR (ak.f (1,()))=1∧aR (ak.f (2,()))=2∧aR (ak.f (3,()))=3∧aR (ak.f (4,()))=4∧aR (ak.f (5,()))=5∧aR (ak.f (6,()))=6∧aR (ak.f (7,()))=7∧aR (ak.f (8,()))=8:=by decide+kernel
def sV:Acti:=⟨0,⟨0,0,0⟩,0,[],⟨false,0,0,[]⟩⟩
def pS (ws:List aa):Acti:=
 ⟨aR (ws.getD 0 []),bif decide (5≤aR (ws.getD 0 []))then(dt.f (((ws++[[],[],[]]).getD 1 []),())).1 else⟨0,0,0⟩,bif aR (ws.getD 0 [])==6 then(cU.f (((ws++[[],[],[]]).getD 2 []),())).1 else 0,
  bif aR (ws.getD 0 [])==5 then(cN.f (((ws++[[],[],[]]).getD 2 []),())).1 else bif aR (ws.getD 0 [])==1 then(cN.f (((ws++[[],[],[]]).getD 1 []),())).1 else[],
  bif aR (ws.getD 0 [])==3 then⟨false,cr.f (((ws++[[],[],[]]).getD 1 []),()),cr.f (((ws++[[],[],[]]).getD 2 []),()),[]⟩else⟨false,0,0,[]⟩⟩
def pI (ws:List aa):Option Acti:=
 bif aR (ws.getD 0 [])==0 then none else
 bif ((ws.length:Int) != ([0,2,1,3,1,3,3,2,2].getD (aR (ws.getD 0 [])).toNat 0))then none else
 bif aR (ws.getD 0 [])==1 then(bif (cb.f ((ws.getD 1 []),())).2 then some ⟨1,⟨0,0,0⟩,0,(cb.f ((ws.getD 1 []),())).1,⟨false,0,0,[]⟩⟩else none)else
 bif aR (ws.getD 0 [])==3 then(bif (bM.f ((ws.getD 1 []),())).2&&(bM.f ((ws.getD 2 []),())).2 then some ⟨3,⟨0,0,0⟩,0,[],⟨false,(bM.f ((ws.getD 1 []),())).1,(bM.f ((ws.getD 2 []),())).1,[]⟩⟩else none)else
 bif aR (ws.getD 0 [])==5 then(bif (aw.f ((ws.getD 1 []),())).2&&(cb.f ((ws.getD 2 []),())).2 then some ⟨5,(aw.f ((ws.getD 1 []),())).1,0,(cb.f ((ws.getD 2 []),())).1,⟨false,0,0,[]⟩⟩else none)else
 bif aR (ws.getD 0 [])==6 then(bif (aw.f ((ws.getD 1 []),())).2&&(cA.f ((ws.getD 2 []),())).2 then some ⟨6,(aw.f ((ws.getD 1 []),())).1,(cA.f ((ws.getD 2 []),())).1,[],⟨false,0,0,[]⟩⟩else none)else
 bif decide (5≤aR (ws.getD 0 []))then(bif (aw.f ((ws.getD 1 []),())).2 then some ⟨aR (ws.getD 0 []),(aw.f ((ws.getD 1 []),())).1,0,[],⟨false,0,0,[]⟩⟩else none)else
 some ⟨aR (ws.getD 0 []),⟨0,0,0⟩,0,[],⟨false,0,0,[]⟩⟩
theorem Ar (ws:List aa)(h:ws≠[])(r:List aa):(ws++r).getD 0 []=ws.getD 0 []:=by
 cases ws with
 |nil=>exact absurd rfl h
 |cons a b=>rfl
set_option maxHeartbeats 1000000 in theorem xi (s:aa)(hs:s.length≤4294967296):en.f (s,())=bif s==[]then(sV,false)else bif decide (3260<(s.length:Int))then(sV,false)else
  bif !(br.f ((pS (eY 32 s [])),())==s)then(sV,false)else(pS (eY 32 s []),true):=by
 have hp:=lu s 32 hs
 rw[show(((32:UInt8).toNat:Nat):Int)=32 from rfl]at hp
 simp only[PX,en,bp]
 rw[hp,qY (w:=(eY 32 s []).getD 0 []) (λv a=>by simp only[PX,kT];rw[uq,Ar _ (vE 32 s [])])]
 cases s==[]with
 |true=>rfl
 |false=>
  cases decide (3260<(s.length:Int))with
  |true=>rfl
  |false=>
   simp only[cond_false,Stp.elim]
   unfold pS
   generalize eY 32 s []=ws
   rcases jQ (ws.getD 0 [])with h|h|h|h|h|h|h|h|h<;>rw[h]<;>simp only[Int.reduceBEq,Int.reduceBNe,Int.reduceLE,Int.reduceLT,decide_true,decide_false,cond_true,cond_false,Bool.false_eq_true,PX]<;>rfl
set_option maxHeartbeats 1000000 in theorem qq (s:aa)(hs:s.length≤4294967296):aD.f (s,())=match pI (eY 32 s [])with|none=>(sV,false)|some a=>bif !(aV.f (a,())==s)then(sV,false)else(a,true):=by
 have hp:=gn s 32 hs
 rw[show(((32:UInt8).toNat:Nat):Int)=32 from rfl]at hp
 simp only[PX,aD,bn]
 rw[hp,qY (w:=(eY 32 s []).getD 0 []) (λv a=>by simp only[PX,kw])]
 simp only[Stp.elim]
 unfold pI
 generalize eY 32 s []=ws
 rcases jQ (ws.getD 0 [])with h|h|h|h|h|h|h|h|h
 ·rw[h];rfl
 ·rw[h]
  simp only[Int.reduceBEq,Int.reduceBNe,Int.reduceLE,Int.reduceLT,decide_true,decide_false,cond_true,cond_false,Bool.false_eq_true,PX]
  generalize((ws.length:Int) != ([0,2,1,3,1,3,3,2,2].getD (Int.toNat 1) 0))=b
  generalize cb.f ((ws.getD 1 []),())=c0
  cases b with
  |true=>rfl
  |false=>
   obtain⟨t0,f0⟩:=c0
   cases f0<;>rfl
 ·rw[h]
  simp only[Int.reduceBEq,Int.reduceBNe,Int.reduceLE,Int.reduceLT,decide_true,decide_false,cond_true,cond_false,Bool.false_eq_true,PX]
  generalize((ws.length:Int) != ([0,2,1,3,1,3,3,2,2].getD (Int.toNat 2) 0))=b
  cases b with
  |true=>rfl
  |false=>
   rfl
 ·rw[h]
  simp only[Int.reduceBEq,Int.reduceBNe,Int.reduceLE,Int.reduceLT,decide_true,decide_false,cond_true,cond_false,Bool.false_eq_true,PX]
  generalize((ws.length:Int) != ([0,2,1,3,1,3,3,2,2].getD (Int.toNat 3) 0))=b
  generalize bM.f ((ws.getD 1 []),())=c0
  generalize bM.f ((ws.getD 2 []),())=c1
  cases b with
  |true=>rfl
  |false=>
   obtain⟨t0,f0⟩:=c0
   obtain⟨t1,f1⟩:=c1
   cases f0<;>cases f1<;>rfl
 ·rw[h]
  simp only[Int.reduceBEq,Int.reduceBNe,Int.reduceLE,Int.reduceLT,decide_true,decide_false,cond_true,cond_false,Bool.false_eq_true,PX]
  generalize((ws.length:Int) != ([0,2,1,3,1,3,3,2,2].getD (Int.toNat 4) 0))=b
  cases b with
  |true=>rfl
  |false=>
   rfl
 ·rw[h]
  simp only[Int.reduceBEq,Int.reduceBNe,Int.reduceLE,Int.reduceLT,decide_true,decide_false,cond_true,cond_false,Bool.false_eq_true,PX]
  generalize((ws.length:Int) != ([0,2,1,3,1,3,3,2,2].getD (Int.toNat 5) 0))=b
  generalize aw.f ((ws.getD 1 []),())=c0
  generalize cb.f ((ws.getD 2 []),())=c1
  cases b with
  |true=>rfl
  |false=>
   obtain⟨t0,f0⟩:=c0
   obtain⟨t1,f1⟩:=c1
   cases f0<;>cases f1<;>rfl
 ·rw[h]
  simp only[Int.reduceBEq,Int.reduceBNe,Int.reduceLE,Int.reduceLT,decide_true,decide_false,cond_true,cond_false,Bool.false_eq_true,PX]
  generalize((ws.length:Int) != ([0,2,1,3,1,3,3,2,2].getD (Int.toNat 6) 0))=b
  generalize aw.f ((ws.getD 1 []),())=c0
  generalize cA.f ((ws.getD 2 []),())=c1
  cases b with
  |true=>rfl
  |false=>
   obtain⟨t0,f0⟩:=c0
   obtain⟨t1,f1⟩:=c1
   cases f0<;>cases f1<;>rfl
 ·rw[h]
  simp only[Int.reduceBEq,Int.reduceBNe,Int.reduceLE,Int.reduceLT,decide_true,decide_false,cond_true,cond_false,Bool.false_eq_true,PX]
  generalize((ws.length:Int) != ([0,2,1,3,1,3,3,2,2].getD (Int.toNat 7) 0))=b
  generalize aw.f ((ws.getD 1 []),())=c0
  cases b with
  |true=>rfl
  |false=>
   obtain⟨t0,f0⟩:=c0
   cases f0<;>rfl
 ·rw[h]
  simp only[Int.reduceBEq,Int.reduceBNe,Int.reduceLE,Int.reduceLT,decide_true,decide_false,cond_true,cond_false,Bool.false_eq_true,PX]
  generalize((ws.length:Int) != ([0,2,1,3,1,3,3,2,2].getD (Int.toNat 8) 0))=b
  generalize aw.f ((ws.getD 1 []),())=c0
  cases b with
  |true=>rfl
  |false=>
   obtain⟨t0,f0⟩:=c0
   cases f0<;>rfl
theorem Ao {a b:Nat}(h:cj a=cj b):a=b:=by
 have h1:=(n9 a).symm.trans ((congrArg (λx=>eY 46 x []) h).trans (n9 b))
 simp only[List.cons.injEq]at h1
 have e:∀x y,bA x=bA y→x=y:=λx y h=>by rw[←kZ x,h,kZ]
 have:=e _ _ h1.1
 have:=e _ _ h1.2.1
 have:=e _ _ h1.2.2.1
 have:=e _ _ h1.2.2.2.1
 omega
theorem jo (n:Nat)(h:n≤65535):cA.f ((bA n),())=((n:Int),true):=by
 rcases mC (bA n)with⟨m,h1,h2⟩|⟨_,h2⟩
 ·rw[h1]
  have:m=n:=by rw[←kZ m,h2,kZ]
  rw[this]
 ·exact absurd rfl (h2 n h)
theorem rD (n:Nat)(h:n≤4294967295):dH.f ((cj n),())=((n:Int),true):=by
 rcases oV (cj n) (by have:=ur n h;omega)with⟨m,_,h1,h2⟩|⟨_,h2⟩
 ·rw[h1,Ao h2]
 ·exact absurd rfl (h2 n h)
theorem cd (t:Tupl)(h:aG.f (t,())=true):aw.f ((aK.f (t,())),())=(t,true):=by
 obtain⟨a,b,c,rfl,ha,hb,hc⟩:=hU h
 rw[fk a b c ha hb hc]
 have hl:=t9 a b c ha hb hc
 have hq:=gn (gZ a b c) 58 (by omega)
 rw[show(((58:UInt8).toNat:Nat):Int)=58 from rfl,t6]at hq
 simp only[PX,aw]
 simp only[PX,hq,show(((([cj a,bA b,bA c]:List aa).length:Nat):Int) != 3)=false from rfl,cond_false,List.getD_cons_zero,List.getD_cons_succ,rD a ha,jo b hb,jo c hc,h,Bool.not_true]
theorem kJ (t:aa)(h:t.length≤1600):cb.f ((gX t),())=(t,true):=by
 unfold gX;simp only[PX,cb]
 cases ht:t==[]with
 |true=>
  have:t=[]:=by simpa using ht
  subst this;rfl
 |false=>
  have hne:(fQ t==[45])=false:=by
   rw[beq_eq_false_iff_ne]
   intro he
   have:=congrArg List.length he
   rw[fJ]at this
   simp at this
   omega
  simp only[cond_false,hne,PX,tW _ (show(fQ t).length≤_ by rw[fJ];omega),lf,cond_true,ht,Bool.not_false]
theorem nA (t:aa)(h:t.length≤1600):(cN.f ((gX t),())).1=t:=by
 unfold gX
 cases ht:t==[]with
 |true=>
  have:t=[]:=by simpa using ht
  subst this
  rw[cond_true,oL _ (by simp)]
  rfl
 |false=>rw[cond_false,oL _ (show(fQ t).length≤_ by rw[fJ];omega),lf]
theorem mg (x:Acti)(hk:gz x)(ho:n5 x=true):pS (cS x)=x∧pI (cS x)=some x:=by
 unfold n5 at ho
 simp only[Bool.and_eq_true,Bool.not_eq_true']at ho
 obtain⟨h1,hl,hM,⟨m,hm,hm2⟩,h5,h6,h7,h8,h9⟩:=ll x ho.1
 have hR:=Bu _ hM ho.2
 obtain⟨k1,k2,k3,k4,k5,k6,k7,k8⟩:=xq
 obtain⟨kd,t,n,tx,⟨u,k,l,r⟩⟩:=x
 obtain⟨⟨hk1,hk2⟩,hk3,hk4⟩:=hk
 simp only at hm h1 hk1 hk2 hk3 hk4 hl h5 h6 h7 h8 h9 hR ho
 have hu:=ho.2
 obtain⟨k',rfl⟩:=Int.eq_ofNat_of_zero_le hk1
 obtain⟨l',rfl⟩:=Int.eq_ofNat_of_zero_le hk3
 subst hm hR hu
 have g:∀t,aG.f (t,())=true→dt.f ((aK.f (t,())),())=(t,true):=λt ht=>by rw[vW _ (by have:=fu t ht;omega),cd t ht]
 rcases mX h1 with rfl|rfl|rfl|rfl|rfl|rfl|rfl|rfl
 ·have e1:=h6 (by decide)
  have e2:=h8 (by decide)
  have e3:=h9 (by decide)
  cases e1;subst e2;rw[e3]
  simp[pS,pI,cS,k1,kJ tx hl,nA tx hl]
 ·have e1:=h6 (by decide)
  have e2:=h8 (by decide)
  have e3:=h9 (by decide)
  have e4:=h5 (by decide) (by decide)
  cases e1;subst e2;rw[e3,e4]
  simp[pS,pI,cS,k2]
 ·have e2:=h8 (by decide)
  have e3:=h9 (by decide)
  have e4:=h5 (by decide) (by decide)
  subst e2;rw[e3,e4]
  simp[pS,pI,cS,k3,pi k' (by omega),pi l' (by omega),ui k' (by omega),ui l' (by omega)]
 ·have e1:=h6 (by decide)
  have e2:=h8 (by decide)
  have e3:=h9 (by decide)
  have e4:=h5 (by decide) (by decide)
  cases e1;subst e2;rw[e3,e4]
  simp[pS,pI,cS,k4]
 ·have e1:=h6 (by decide)
  have e2:=h7 (by decide)
  have e3:=h9 (by decide)
  cases e1;rw[e3]
  simp[pS,pI,cS,k5,kJ tx hl,nA tx hl,g t e2,cd t e2]
 ·have e1:=h6 (by decide)
  have e2:=h7 (by decide)
  have e4:=h5 (by decide) (by decide)
  cases e1;rw[e4]
  simp[pS,pI,cS,k6,g t e2,cd t e2,nj,jo m hm2]
 ·have e1:=h6 (by decide)
  have e2:=h7 (by decide)
  have e3:=h9 (by decide)
  have e4:=h5 (by decide) (by decide)
  cases e1;rw[e3,e4]
  simp[pS,pI,cS,k7,g t e2,cd t e2]
 ·have e1:=h6 (by decide)
  have e2:=h7 (by decide)
  have e3:=h9 (by decide)
  have e4:=h5 (by decide) (by decide)
  cases e1;rw[e3,e4]
  simp[pS,pI,cS,k8,g t e2,cd t e2]
theorem BV (m:Int):0≤IntKind.u64.wrap m∧IntKind.u64.wrap m<18446744073709551616:=by
 have:IntKind.u64.wrap m=m%18446744073709551616:=by simp[IntKind.wrap,IntKind.bits,IntKind.signed]
 rw[this];omega
theorem zq (ws:List aa):gz (pS ws):=by
 have e:∀w,0≤cr.f (w,())∧cr.f (w,())<18446744073709551616:=λw=>by simp only[PX,cr];exact BV _
 unfold gz pS
 simp only
 cases aR (ws.getD 0 [])==3 with
 |true=>exact⟨e _,e _⟩
 |false=>exact⟨⟨Int.le_refl _,by show(0:Int)<_;decide⟩,Int.le_refl _,by show(0:Int)<_;decide⟩
theorem xA (w:aa):0≤(bM.f (w,())).1∧(bM.f (w,())).1<18446744073709551616:=by
 simp only[PX,bM,dk]
 cases(jd.f (w,())).2 with
 |false=>simp
 |true=>
  cases((jd.f (w,())).1.length:Int) != 8 with
  |true=>simp
  |false=>
   simp only[Bool.not_true,cond_false,show Int.toNat (8-0)=8 from rfl,a7,gU,Stp.elim,PX]
   exact⟨bits_lo_u64 _ _ _,Int.lt_of_le_of_lt (bits_hi_u64 _ _ _) (by decide)⟩
theorem Bj {α:Type}{c:Bool}{x a:α}(h:(bif c then some x else none)=some a):x=a:=by cases c<;>simp at h;exact h
theorem BX (ws:List aa)(a:Acti)(h:pI ws=some a):gz a:=by
 have z:(0:Int)≤0∧(0:Int)<18446744073709551616:=by decide
 have r:=xA
 unfold pI at h
 rcases jQ (ws.getD 0 [])with k|k|k|k|k|k|k|k|k
 all_goals
  rw[k]at h
  try (simp only[show((0:Int)==0)=true from rfl,cond_true]at h;done)
  revert h
  generalize((ws.length:Int) != ([0,2,1,3,1,3,3,2,2].getD (Int.toNat _) 0))=b
  intro h
  cases b with
  |true=>cases h
  |false=>
   simp at h
   try (first
    |(have h:=Bj h;subst h;first|exact⟨z,z⟩|exact⟨r _,r _⟩)
    |(subst h;exact⟨z,z⟩))
theorem hT (s:aa)(hs:s.length≤4294967296):(∃x,gz x∧n5 x=true∧bg x=s∧aD.f (s,())=(x,true)∧en.f (s,())=(x,true))∨
  (aD.f (s,())=(sV,false)∧en.f (s,())=(sV,false)∧∀x,gz x→n5 x=true→bg x≠s):=by
 by_cases h:∃x,gz x∧n5 x=true∧bg x=s
 ·obtain⟨x,hk,ho,he⟩:=h
  refine .inl ⟨x,hk,ho,he, ?_, ?_⟩
  ·rw[qq s hs,←he,oh x ho,(mg x hk ho).2]
   simp only[cK x hk,beq_self_eq_true,Bool.not_true,cond_false]
  ·have h1:=j9 ho
   have h2:=t8 x
   rw[xi s hs,←he,oh x ho,(mg x hk ho).1]
   simp only[il x hk,beq_self_eq_true,Bool.not_true,cond_false,show(bg x==[])=false by simpa using h1,show decide (3260<((bg x).length:Int))=false by simp;omega]
 ·have h0:∀x,gz x→n5 x=true→bg x≠s:=λx hk ho he=>h ⟨x,hk,ho,he⟩
  refine .inr ⟨?_, ?_,h0⟩
  ·rw[qq s hs]
   cases hp:pI (eY 32 s [])with
   |none=>rfl
   |some a=>
    have hk:=BX _ _ hp
    simp only
    rw[cK a hk]
    cases he:bg a==s with
    |false=>rfl
    |true=>
     have he:=eq_of_beq he
     exfalso
     by_cases hn:s=[]
     ·subst hn
      rw[show eY 32 ([]:aa) []=[[]] from rfl]at hp
      have:pI [[]]=none:=by
       unfold pI
       rw[show aR (([[]]:List aa).getD 0 [])=0 by decide+kernel]
       rfl
      rw[this]at hp
      cases hp
     ·exact h0 a hk (wv (by rw[he];exact hn)) he
  ·rw[xi s hs]
   cases hn:s==[]with
   |true=>rfl
   |false=>
    cases decide (3260<(s.length:Int))with
    |true=>rfl
    |false=>
     rw[cond_false,cond_false,il _ (zq _)]
     cases he:bg (pS (eY 32 s []))==s with
     |false=>rfl
     |true=>
      have he:=eq_of_beq he
      have hn:s≠[]:=by simpa using hn
      exact absurd he (h0 _ (zq _) (wv (by rw[he];exact hn)))
theorem uF (s:aa)(hs:s.length≤4294967296):en.f (s,())=aD.f (s,()):=by
 rcases hT s hs with⟨x,_,_,_,h1,h2⟩|⟨h1,h2,_⟩<;>rw[h1,h2]
theorem rx {W:Type}(b:UInt8):∀(r:List aa) (j:Nat) (a:List Int),0<j→bw (W:=W) (λ(j:Nat) (x:aa) a=>bif decide (0<(j:Int))then .next ((a++(aZ [b]))++(aZ x))else .next (a++(aZ x))) j r a= .next (a++aZ (r.flatMap λx=>b::x))
 |[],j,a,_=>by simp[bw,aZ]
 |x::r,j,a,hj=>by
  simp only[bw,show decide (0<(j:Int))=true by simp;omega,cond_true,Stp.elim]
  rw[rx b r (j+1) _ (by omega)]
  simp[aZ]
theorem yt (b:UInt8)(x:aa):∀(r:List aa),du b (x::r)=x++r.flatMap λy=>b::y:=by
 intro r
 induction r generalizing x with
 |nil=>simp[du]
 |cons y r ih=>rw[gE b x _ (by simp),ih y];simp
theorem xP (l:List aa)(b:UInt8):gP.f (l,[b],())=du b l:=by
 simp only[PX,gP,cX]
 rw[bP,b9 l _ rfl (F:=λ(j:Nat) (x:aa) a=>bif decide (0<(j:Int))then .next ((a++(aZ [b]))++(aZ x))else .next (a++(aZ x))) (by
  intro j x a hj
  simp only[iv,aL,getD_some hj,PX])]
 cases l with
 |nil=>rfl
 |cons x r=>
  simp only[bw,show decide (0<((0:Nat):Int))=false from rfl,cond_false,Stp.elim]
  rw[rx b r 1 _ (by omega),yt]
  simp only[Stp.elim,List.nil_append]
  rw[kE,cz,cz]
theorem Af:gz (Ty.zero .acti):=⟨⟨Int.le_refl _,by show(0:Int)<_;decide⟩,Int.le_refl _,by show(0:Int)<_;decide⟩
theorem uU (x:List Acti)(h:∀y∈x,gz y):eK.f (x,())=am.f (x,()):=by
 simp only[PX,eK,am,cp,bL]
 rw[show a7 (λj' a'=>(eL x j' a').nice) 1 (Int.toNat ((x.length:Int)-0)) 0 []=a7 (λj' a'=>(cl x j' a').nice) 1 (Int.toNat ((x.length:Int)-0)) 0 [] from rG (λi a=>by
  simp only[PX,eL,cl]
  rw[Ae _ (iZ Af h _)]) _ _ _]
 cases decide (60<(x.length:Int))with
 |true=>rfl
 |false=>
  cases a7 (λj' a'=>(cl x j' a').nice) 1 (Int.toNat ((x.length:Int)-0)) 0 []with
  |next a=>simp only[cond_false,Stp.elim,xP,mA]
  |out p=>rfl
theorem m9 (x:Acti)(hk:gz x):(n5 x=true∧aD.f (bg x,())=(x,true))∨(bg x=[]∧aD.f (bg x,())=(sV,false)):=by
 cases ho:n5 x with
 |true=>
  refine .inl ⟨rfl, ?_⟩
  have hl:=t8 x
  rw[qq _ (by omega),oh x ho,(mg x hk ho).2]
  simp only[cK x hk,beq_self_eq_true,Bool.not_true,cond_false]
 |false=>
  have e:bg x=[]:=by unfold bg;rw[ho];rfl
  refine .inr ⟨e, ?_⟩
  rcases hT (bg x) (by rw[e];decide)with⟨y,_,h2,h3,_⟩|⟨h1,_⟩
  ·exact absurd (h3.trans e) (j9 h2)
  ·exact h1
theorem vP (s:aa)(hs:s.length≤4294967296):(∃x,gz x∧aV.f (x,())=s∧aD.f (s,())=(x,true))∨aD.f (s,())=(sV,false):=by
 rcases hT s hs with⟨x,h1,_,h3,h4,_⟩|⟨h1,_⟩
 ·exact .inl ⟨x,h1,(cK x h1).trans h3,h4⟩
 ·exact .inr h1
theorem qO:aw.f ([],())=(⟨0,0,0⟩,false):=by
 have h:=gn [] 58 (by decide)
 rw[show(((58:UInt8).toNat:Nat):Int)=58 from rfl]at h
 simp only[PX,aw]
 rw[h]
 rfl
theorem sR (t:Tupl)(h:aG.f (t,())=false):aK.f (t,())=[]:=by
 simp only[PX,aK]
 rw[h]
 rfl
theorem su (x0:List Int)(hk:gz (dY.f (x0,())))(hl:(dX.f (x0,())).length≤4294967296):eq.f (x0,())=true:=by
 simp only[FX.f,PX,eq]
 cases lU.f (x0,())with
 |true=>rfl
 |false=>
 generalize dY.f (x0,())=a at*
 generalize dX.f (x0,())=s at*
 generalize fN.f (x0,())=t
 rw[il a hk,cK a hk]
 simp only[beq_self_eq_true,Bool.not_true,cond_false]
 rw[uF s hl]
 have ht:(aw.f (aK.f (t,()),())).2=bK.f (t,())∧((aw.f (aK.f (t,()),())).2=true→(aw.f (aK.f (t,()),())).1=t):=by
  rw[li]
  cases h:aG.f (t,())with
  |true=>rw[cd t h];exact⟨rfl,λ_=>rfl⟩
  |false=>rw[sR t h,qO];exact⟨rfl,λh=>absurd h (by decide)⟩
 generalize aw.f (aK.f (t,()),())=r at*
 have hend:(bif r.2==bK.f (t,())then bif !r.2 then true else(r.1.ip==t.ip)&&((r.1.port==t.port)&&((r.1.my==t.my)&&true))else false)=true:=by
  rw[←ht.1,beq_self_eq_true,cond_true]
  cases h:r.2 with
  |false=>rfl
  |true=>rw[ht.2 h];simp
 generalize(bif r.2==bK.f (t,())then bif !r.2 then true else(r.1.ip==t.ip)&&((r.1.port==t.port)&&((r.1.my==t.my)&&true))else false)=e at*
 subst hend
 have hb:∀u:Acti×Bool,aD.f (s,())=u→(bif u.2==u.2 then bif !u.2 then true else bif aV.f (u.1,())==s then true else false else false)=true:=λu hu=>by
  rw[beq_self_eq_true,cond_true]
  rcases vP s hl with⟨y,_,h2,h3⟩|h1
  ·rw[h3]at hu;subst hu;simp only[h2,beq_self_eq_true,Bool.not_true,cond_true,cond_false]
  ·rw[h1]at hu;subst hu;rfl
 have hb:=hb _ rfl
 generalize(bif (aD.f (s,())).2==(aD.f (s,())).2 then bif !(aD.f (s,())).2 then true else bif aV.f ((aD.f (s,())).1,())==s then true else false else false)=e at*
 subst hb
 rcases m9 a hk with⟨h1,h2⟩|⟨h1,h2⟩
 ·rw[h2,cK a hk]
  have:=j9 h1
  rw[show(bg a==([]:aa))=false by rw[beq_eq_false_iff_ne];exact this]
  simp
 ·rw[h2,h1]
  rfl
theorem wQ (x:List Int):eq.f (x,())=true:=by
 rcases Bool.eq_false_or_eq_true (lU.f (x,()))with hb|hb
 ·simp only[FX.f,PX,eq,hb,cond_true]
 have hx:=y8 x hb
 have hd:=dY.c.h (x,()) ⟨by simp only[sS];omega,hx⟩
 have hr:=dX.c.h (x,()) ⟨by simp only[sS];omega,hx⟩
 refine su x ?_ (Nat.le_trans hr.2 (by decide))
 obtain⟨h1,h2,h3,h4⟩:=hd.2
 exact⟨⟨h1,h2⟩,h3,h4⟩
theorem yc (x:Acti)(ho:n5 x=true):∀c∈bg x,c≠10:=by
 have hw:=(jE x ho).1.2
 have h:∀l:List aa,(∀p∈l,∀c∈p,c≠32∧c≠10)→∀c∈du 32 l,c≠10:=by
  intro l
  induction l with
  |nil=>intro _ c hc;simp[du]at hc
  |cons p r ih=>
   intro hp c hc
   by_cases hr:r=[]
   ·subst hr
    simp only[du]at hc
    exact(hp p (by simp) c hc).2
   ·rw[gE 32 p r hr]at hc
    rcases List.mem_append.1 hc with hc|hc
    ·exact(hp p (by simp) c hc).2
    ·rcases List.mem_cons.1 hc with rfl|hc
     ·decide
     ·exact ih (λq hq=>hp q (by simp[hq])) c hc
 unfold bg
 rw[ho,cond_true]
 exact h _ hw
theorem nG:∀(l:List Acti) (j:Nat) (a:List aa),(∀y∈l,gz y)→(l.all n5=true→bw (W:=List aa) (λ_ (y:Acti) a=>bif aV.f (y,())==[]then .out a else .next (a++[aV.f (y,())])) j l a= .next (a++l.map bg))∧
  (l.all n5=false→∃w,bw (W:=List aa) (λ_ (y:Acti) a=>bif aV.f (y,())==[]then .out a else .next (a++[aV.f (y,())])) j l a= .out w)
 |[],j,a,_=>⟨λ_=>by simp[bw],λh=>by simp at h⟩
 |y::r,j,a,hk=>by
  have ih:=nG r (j+1) (a++[bg y]) (λz hz=>hk z (by simp[hz]))
  simp only[bw,cK y (hk y (by simp)),List.all_cons]
  cases ho:n5 y with
  |true=>
   rw[show(bg y==([]:aa))=false by rw[beq_eq_false_iff_ne];exact j9 ho]
   simp only[cond_false,Stp.elim,Bool.true_and]
   exact⟨λh=>by rw[ih.1 h];simp,ih.2⟩
  |false=>
   rw[show(bg y==([]:aa))=true by unfold bg;rw[ho];rfl]
   exact⟨λh=>by simp at h,λ_=>⟨a,rfl⟩⟩
theorem mh (l:List Acti)(hk:∀y∈l,gz y):am.f (l,())=bif decide (60<(l.length:Int))then[]else bif l.all n5 then du 10 (l.map bg)else[]:=by
 simp only[PX,am,bL]
 rw[bP,b9 l _ rfl (F:=λ_ (y:Acti) a=>bif aV.f (y,())==[]then .out a else .next (a++[aV.f (y,())])) (by
  intro j x a hj
  simp only[cl,aL,getD_some hj,PX])]
 cases decide (60<(l.length:Int))with
 |true=>rfl
 |false=>
  have h:=nG l 0 [] hk
  cases ha:l.all n5 with
  |true=>rw[h.1 ha];simp only[cond_false,cond_true,Stp.elim,mA,List.nil_append]
  |false=>obtain⟨w,hw⟩:=h.2 ha;rw[hw];rfl
theorem yj (s:aa)(hs:s.length≤4294967296):(∃x,gz x∧n5 x=true∧bg x=s∧aD.f (s,())=(x,true))∨(aD.f (s,())=(sV,false)):=by
 rcases hT s hs with⟨x,h1,h2,h3,h4,_⟩|⟨h1,_⟩
 ·exact .inl ⟨x,h1,h2,h3,h4⟩
 ·exact .inr h1
theorem rX:∀(ws:List aa) (j:Nat) (a:List Acti),(∀p∈ws,p.length≤4294967296)→
  (∃l:List Acti,(∀y∈l,gz y)∧l.all n5=true∧l.map bg=ws∧bw (W:=Int×List Acti) (λj (p:aa) a=>bif !(aD.f (p,())).2 then .out ((j:Int),a)else .next (a++[(aD.f (p,())).1])) j ws a= .next (a++l))∨
  (∃(k:Nat) (w:List Acti),bw (W:=Int×List Acti) (λj (p:aa) a=>bif !(aD.f (p,())).2 then .out ((j:Int),a)else .next (a++[(aD.f (p,())).1])) j ws a= .out ((k:Int),w))
 |[],j,a,_=> .inl ⟨[],by simp,rfl,rfl,by simp[bw]⟩
 |p::r,j,a,hp=>by
  simp only[bw]
  rcases yj p (hp p (by simp))with⟨x,h1,h2,h3,h4⟩|h1
  ·rw[h4]
   simp only[Bool.not_true,cond_false,Stp.elim]
   rcases rX r (j+1) (a++[x]) (λz hz=>hp z (by simp[hz]))with⟨l,g1,g2,g3,g4⟩|⟨k,w,g⟩
   ·refine .inl ⟨x::l, ?_, ?_, ?_, ?_⟩
    ·intro y hy
     rcases List.mem_cons.1 hy with rfl|hy
     ·exact h1
     ·exact g1 y hy
    ·rw[List.all_cons,h2,g2];rfl
    ·rw[List.map_cons,h3,g3]
    ·rw[g4];simp
   ·exact .inr ⟨k,w,g⟩
  ·rw[h1]
   exact .inr ⟨j,a,rfl⟩
theorem gS (s:aa)(hs:s.length≤4294967296):bd.f (s,())=bif s==[]then([],-1)else bif decide (60<((eY 10 s []).length:Int))then([],60)else
  Stp.elim (λl=>(l,-1)) (λw=>([],w.1)) (bw (W:=Int×List Acti) (λj (p:aa) a=>bif !(aD.f (p,())).2 then .out ((j:Int),a)else .next (a++[(aD.f (p,())).1])) 0 (eY 10 s []) []):=by
 have hp:=gn s 10 hs
 rw[show(((10:UInt8).toNat:Nat):Int)=10 from rfl]at hp
 simp only[PX,bd,co,hp]
 generalize eY 10 s []=ws
 rw[bP,b9 ws _ rfl (F:=λj (p:aa) a=>bif !(aD.f (p,())).2 then .out ((j:Int),a)else .next (a++[(aD.f (p,())).1])) (by
  intro j x a hj
  simp only[gW,aL,getD_some hj,PX])]
theorem uQ (s:aa)(hs:s.length≤4294967296):f5.f (s,())=bd.f (s,()):=by
 have hp:=lu s 10 hs
 rw[show(((10:UInt8).toNat:Nat):Int)=10 from rfl]at hp
 have hl:=nX 10 s []
 rw[gS s hs]
 simp only[PX,f5,ce,hp]
 generalize eY 10 s []=ws at*
 rw[bP,b9 ws _ rfl (F:=λj (p:aa) a=>bif !(aD.f (p,())).2 then .out ((j:Int),a)else .next (a++[(aD.f (p,())).1])) (by
  intro j x a hj
  have:=hl x (List.mem_of_getElem? hj)
  simp only[List.length_nil]at this
  simp only[hH,aL,getD_some hj,PX,uF x (by omega)])]
theorem j8 (s:aa)(hs:s.length≤4294967296):(∃l,bd.f (s,())=(l,-1)∧am.f (l,())=s∧(s≠[]→l.map bg=eY 10 s []))∨(∃k:Int,0≤k∧bd.f (s,())=([],k)):=by
 rw[gS s hs]
 have hl:=nX 10 s []
 have hj:=iT 10 s []
 by_cases h0:s=[]
 ·subst h0
  exact .inl ⟨[],rfl,by rw[mh [] (by simp)];rfl,λh=>absurd rfl h⟩
 rw[show(s==([]:aa))=false by rw[beq_eq_false_iff_ne];exact h0,cond_false]
 generalize eY 10 s []=ws at*
 by_cases h6:60<(ws.length:Int)
 ·rw[decide_eq_true h6,cond_true]
  exact .inr ⟨60,by decide,rfl⟩
 rw[decide_eq_false h6,cond_false]
 rcases rX ws 0 [] (λp hp=>by have:=hl p hp;simp only[List.length_nil]at this;omega)with⟨l,g1,g2,g3,g4⟩|⟨k,w,g⟩
 ·rw[g4]
  refine .inl ⟨l,rfl, ?_,λ_=>g3⟩
  have hn:l.length=ws.length:=by rw[←g3,List.length_map]
  rw[mh l g1,hn,decide_eq_false h6,g2,g3,hj]
  rfl
 ·rw[g]
  exact .inr ⟨k,by omega,rfl⟩
theorem pX (l:List Acti)(hk:∀y∈l,gz y)(hl:(am.f (l,())).length≤4294967296)(hn:am.f (l,())≠[]):∃m,bd.f (am.f (l,()),())=(m,-1)∧m.length=l.length∧am.f (m,())=am.f (l,()):=by
 have he:=mh l hk
 cases h6:decide (60<(l.length:Int))with
 |true=>rw[h6]at he;exact absurd he hn
 |false=>
 cases ha:l.all n5 with
 |false=>rw[h6,ha]at he;exact absurd he hn
 |true=>
 rw[h6,ha,cond_false,cond_true]at he
 have hne:l.map bg≠[]:=λh=>hn (by rw[he,h];rfl)
 have hc:eY 10 (du 10 (l.map bg)) []=l.map bg:=rr 10 _ hne (λp hp=>by
  obtain⟨x,hx,rfl⟩:=List.mem_map.1 hp
  exact yc x (List.all_eq_true.1 ha x hx))
 rcases j8 (am.f (l,())) hl with⟨m,g1,g2,g3⟩|⟨k,hk0,g⟩
 ·refine⟨m,g1, ?_,g2⟩
  have:=g3 hn
  rw[he,hc]at this
  have:=congrArg List.length this
  simpa using this
 ·exfalso
  rw[gS _ hl,show(am.f (l,())==([]:aa))=false by rw[beq_eq_false_iff_ne];exact hn,cond_false,he,hc,List.length_map,h6,cond_false]at g
  have hr:∀(r:List Acti) (j:Nat) (a:List Acti),(∀y∈r,gz y)→r.all n5=true→bw (W:=Int×List Acti) (λj (p:aa) a=>bif !(aD.f (p,())).2 then .out ((j:Int),a)else .next (a++[(aD.f (p,())).1])) j (r.map bg) a= .next (a++r):=by
   intro r
   induction r with
   |nil=>intro j a _ _;simp[bw]
   |cons y r ih=>
    intro j a hy hall
    rw[List.all_cons,Bool.and_eq_true]at hall
    simp only[List.map_cons,bw]
    rcases m9 y (hy y (by simp))with⟨_,h2⟩|⟨h1,_⟩
    ·rw[h2]
     simp only[Bool.not_true,cond_false,Stp.elim]
     rw[ih (j+1) _ (λz hz=>hy z (by simp[hz])) hall.2]
     simp
    ·exact absurd h1 (j9 hall.1)
  rw[hr l 0 [] hk ha]at g
  have:=congrArg Prod.snd g
  simp only[Stp.elim]at this
  omega
theorem yp (x:List Int):gH.f (x,())=true:=by
 rcases Bool.eq_false_or_eq_true (lU.f (x,()))with hb|hb
 ·simp only[FX.f,PX,gH,hb,cond_true]
 have hx:=y8 x hb
 have hd:=bx.c.h (x,()) ⟨by simp only[sS];omega,hx⟩
 have hr:=cG.c.h (x,()) ⟨by simp only[sS];omega,hx⟩
 have hk:∀y∈bx.f (x,()),gz y:=λy hy=>by
  obtain⟨h1,h2,h3,h4⟩:=hd.2 y hy
  exact⟨⟨h1,h2⟩,h3,h4⟩
 have hl:(cG.f (x,())).length≤4294967296:=Nat.le_trans hr.2 (by decide)
 have ht:=(am.c.h (bx.f (x,()),()) hd.1).2
 have ht:(am.f (bx.f (x,()),())).length≤4294967296:=Nat.le_trans ht (by decide)
 simp only[FX.f,PX,gH,hb,cond_false]
 generalize bx.f (x,())=l at*
 generalize cG.f (x,())=s at*
 rw[uU l hk,uQ s hl]
 simp only[beq_self_eq_true,Bool.not_true,cond_false]
 have h1:(bif !(am.f (l,())==[])then bif (bd.f (am.f (l,()),())).2 != -1 then(true,())else bif ((bd.f (am.f (l,()),())).1.length:Int) != (l.length:Int)then(true,())else(!(am.f ((bd.f (am.f (l,()),())).1,())==am.f (l,())),())else(false,()))=(false,()):=by
  by_cases hn:am.f (l,())=[]
  ·rw[hn];rfl
  ·obtain⟨m,g1,g2,g3⟩:=pX l hk ht hn
   rw[g1,show(am.f (l,())==([]:aa))=false by rw[beq_eq_false_iff_ne];exact hn]
   simp only[g2,g3]
   simp
 rw[h1]
 rcases j8 s hl with⟨m,g1,g2,_⟩|⟨k,hk0,g⟩
 ·simp only[g1,g2]
  simp
 ·simp only[g]
  simp[hk0]

end
end Go.Proofs.YtfpdenjmlnhnnaaGreatDoor
