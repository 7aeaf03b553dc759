/-
  Contracts of functions and plain laws (printed by a program): each theorem says what a function of the program returns; conditions are its hypotheses.
-/
import Derived.Test.YtfpdenjmlnhnnaaGreatEJ2
set_option linter.all false
set_option maxRecDepth 4000
namespace Go.Proofs.YtfpdenjmlnhnnaaGreat
open Go Go.RowKit
noncomputable section
theorem vH (x:Recv)(hs:aX x.held):kn.f (x,())=bg.f (x,()):=by
 simp only[PX,kn,bg,ga,eQ,de,bA,n5]
 cases af.f (x.next,32,())with
 |false=>rfl
 |true=>
  by_cases hd:32<(x.data.length:Int)
  ·rw[decide_eq_true hd];rfl
  ·rw[decide_eq_false hd]
   have hw:=Tn x (by omega)
   simp only[Bool.not_true,cond_false]
   cases decide (3<(x.held.length:Int))with
   |true=>rfl
   |false=>
    simp only[cond_false]
    rw[aq]
    by_cases hf: -1≤x.fin∧x.fin≤bp.f (x,())
    ·rw[decide_eq_true hf.1,decide_eq_true hf.2]
     simp only[Bool.and_self,Bool.not_true,cond_false]
     cases h0:(x.fin==0)with
     |true=>rfl
     |false=>
      simp only[cond_false]
      have h0:x.fin≠0:=by simpa using h0
      have k1:=ac9 x (bp.f (x,())) hw hs
      by_cases h1:x.fin= -1
      ·have k2:=TN x (bp.f (x,())) (by omega) hw hs
       rw[show(x.fin != -1)=false by simp[h1],show decide (x.fin<0)=true from decide_eq_true (by omega)]
       simp only[cond_true,cond_false]
       cases hp:eb (bp.f (x,())) 0 x.held with
       |some b=>rw[hp]at k1 k2;simp only[]at k1 k2;rw[k1,k2];rfl
       |none=>rw[hp]at k1 k2;obtain⟨w1,k1⟩:=k1;obtain⟨w2,k2⟩:=k2;rw[k1,k2];rfl
      ·have k2:=TN x x.fin (by omega) (by omega) hs
       rw[show(x.fin != -1)=true by simp[h1],show decide (x.fin<0)=false from decide_eq_false (by omega)]
       simp only[cond_true,cond_false]
       rw[Er x.fin (bp.f (x,())) (by omega) x.held 0 (by omega)]at k2
       cases hp:eb (bp.f (x,())) 0 x.held with
       |none=>rw[hp]at k1 k2;obtain⟨w1,k1⟩:=k1;obtain⟨w2,k2⟩:=k2;rw[k1,k2];rfl
       |some b=>
        rw[hp]at k1 k2
        simp only[]at k1 k2
        rw[k1]
        by_cases hb:b≤x.fin
        ·rw[decide_eq_true hb]at k2
         simp only[cond_true]at k2
         rw[k2];simp only[Stp.elim,decide_eq_true hb,cond_true]
        ·rw[decide_eq_false hb]at k2
         obtain⟨w2,k2⟩:=k2
         rw[k2];simp only[Stp.elim,decide_eq_false hb,cond_false]
    ·have:(decide (-1≤x.fin)&&decide (x.fin≤bp.f (x,())))=false:=by
      rw[Bool.and_eq_false_iff];simp only[decide_eq_false_iff_not];omega
     rw[this];rfl
theorem kU (x:Conn)(hs:aX x.r.held):ib.f (x,())=aI.f (x,()):=by
 simp only[PX,ib,aI,Kc,qs,nZ,vH x.r hs,ii,bA,aq]
 cases az.f (x.tuple,())with
 |false=>rfl
 |true=>
 cases ba.f (x.s,())with
 |false=>rfl
 |true=>
 cases bg.f (x.r,())with
 |false=>rfl
 |true=>
 cases aH.f (x.opts,())with
 |false=>rfl
 |true=>
 simp only[Bool.not_true,cond_false]
 have hm:(bif !(decide (0≤x.window)&&decide (x.window≤x.most))then true else decide (1073725440<x.most))=(bif !(decide (0≤x.most)&&decide (x.most≤1073725440))then true else !(decide (0≤x.window)&&decide (x.window≤x.most))):=by
  rw[Bool.eq_iff_iff]
  by_cases h1:0≤x.window<;>by_cases h2:x.window≤x.most<;>by_cases h3:1073725440<x.most<;>by_cases h4:0≤x.most<;>by_cases h5:x.most≤1073725440<;>simp[h1,h2,h3,h4,h5]<;>omega
 have ej:∀b:Bool,(bif b then(false,(4:Int),x,())else(false,3,x,()))=(false,(bif b then 4 else 3),x,()):=λb=>by cases b<;>rfl
 have et:∀b:Bool,decide (x.timer≤bif b then 4 else 3)=bif b then decide (x.timer≤4)else decide (x.timer≤3):=λb=>by cases b<;>rfl
 simp only[ej,et]
 revert hm
 generalize(decide (0≤x.window)&&decide (x.window≤x.most))=W
 generalize decide (1073725440<x.most)=M
 generalize(decide (0≤x.most)&&decide (x.most≤1073725440))=N
 generalize(decide (0≤x.tries)&&decide (x.tries≤3))=T
 generalize decide (0≤x.timer)=T0
 generalize decide (x.timer≤4)=T4
 generalize decide (x.timer≤3)=T3
 generalize x.s.fin=sf
 generalize x.s.done=sd
 generalize x.r.done=rd
 generalize x.state=k
 have hk:k=1∨k=2∨k=3∨k=4∨k=5∨k=6∨k=7∨k=8∨(decide (1≤k)&&decide (k≤8))=false:=by
  simp only[Bool.and_eq_false_iff,decide_eq_false_iff_not];omega
 rcases hk with rfl|rfl|rfl|rfl|rfl|rfl|rfl|rfl|hk
 iterate 8 (revert W M N T T0 T4 T3 sf sd rd;decide+kernel)
 intro _;simp only[hk];rfl
theorem Uu (x:Limi):vy.f (x,())=fQ.f (x,()):=by
 simp only[PX,vy,fQ,bA,aq]
theorem y4 {T V W:Type}(xs:List T){f:Int→Unit→Stp Unit V}{g:Int→Unit→Stp Unit W}{k:Nat}(hk:k=xs.length)(h:∀(j:Nat) x,xs[j]? =some x→(∃v w,f j ()= .out v∧g j ()= .out w)∨(f j ()= .next ()∧g j ()= .next ())):
  (∃v w,aP f 1 k 0 ()= .out v∧aP g 1 k 0 ()= .out w)∨(aP f 1 k 0 ()= .next ()∧aP g 1 k 0 ()= .next ()):=by
 subst hk
 have:∀(n i:Nat),i+n=xs.length→(∃v w,aP f 1 n (i:Int) ()= .out v∧aP g 1 n (i:Int) ()= .out w)∨(aP f 1 n (i:Int) ()= .next ()∧aP g 1 n (i:Int) ()= .next ()):=by
  intro n
  induction n with
  |zero=>intro i _;exact .inr ⟨rfl,rfl⟩
  |succ n ih=>
   intro i hi
   rcases h i xs[i] (List.getElem?_eq_getElem (by omega))with⟨v,w,h1,h2⟩|⟨h1,h2⟩
   ·exact .inl ⟨v,w,by simp only[aP,h1,Stp.elim],by simp only[aP,h2,Stp.elim]⟩
   ·simp only[aP,h1,h2,Stp.elim]
    have:=ih (i+1) (by omega)
    rwa [show((i+1:Nat):Int)=(i:Int)+1 by omega]at this
 exact this xs.length 0 (by omega)
theorem vp (xs:List Tupl)(t:Tupl):nU.f (xs,t,())=xs.any (jx t):=by
 simp only[PX,nU,ld]
 rw[aA,bu xs _ rfl (F:=λj y a=>bif jx t y then .out ()else .next ()) (by
  intro j y a h
  simp only[PX,xc,ac,getD_some h,jx])]
 rw[j4 (p:=jx t) (w:=λ_ _=>())]
 cases h:xs.findIdx? (jx t)with
 |none=>
  rw[List.findIdx?_eq_none_iff]at h
  simp only[Stp.elim]
  symm
  rw[List.any_eq_false]
  intro x hx;simp[h x hx]
 |some i=>
  obtain⟨h1,h2,_⟩:=List.findIdx?_eq_some_iff_getElem.1 h
  simp only[List.getElem?_eq_getElem h1,Stp.elim]
  symm
  rw[List.any_eq_true];exact⟨xs[i],List.getElem_mem h1,h2⟩
theorem py (xs:List Tupl)(t:Tupl):kX.f (xs,t,())=dW (jx t) xs:=by
 have e:∀a b:Int,(a==b)=(b==a):=λa b=>by rw[Bool.eq_iff_iff];simp only[beq_iff_eq];exact eq_comm
 simp only[PX,kX,iB]
 rw[jh (jx t) xs (λj x a h=>by
  simp only[PX,rb,ac,getD_some h,jx,e t.ip,e t.port,e t.my])]
 unfold dW
 cases xs.findIdx? (jx t)<;>rfl
theorem lD {T:Type}{xs:List T}{j:Nat}{x:T}(h:xs[j]? =some x):x∈xs:=List.mem_of_getElem? h
theorem M7 (x:Tabl)(l:Limi)(hs:∀y∈x.conns,aX y.r.held):uI.f (x,l,())=cH.f (x,l,()):=by
 simp only[PX,uI,cH,gQ,fR,gX,fD,Uu]
 have h1:=y4 x.conns (f:=λj a=>(qU x j a).nice) (g:=λj a=>(eL x.conns x j a).nice) (k:=Int.toNat ((x.conns.length:Int)-0)) (aA _) (λj y hy=>by
  simp only[PX,qU,eL,ac,getD_some hy,kU y (hs y (lD hy)),iy]
  cases aI.f (y,())with
  |false=>exact .inl ⟨_,_,rfl,rfl⟩
  |true=>cases(ar.f (x,y.tuple,()) != (j:Int))with
   |true=>exact .inl ⟨_,_,rfl,rfl⟩
   |false=>exact .inr ⟨rfl,rfl⟩)
 have h2:=y4 x.waiting (f:=λj a=>(qX x j a).nice) (g:=λj a=>(eI x.waiting x j a).nice) (k:=Int.toNat ((x.waiting.length:Int)-0)) (aA _) (λj y hy=>by
  simp only[PX,qX,eI,ac,getD_some hy,vp,py,iy,List.drop_zero]
  rw[Df (jx y) x.waiting j y hy (o9 y)]
  cases(x.waiting.take j).any (jx y)<;>cases decide (ar.f (x,y,())<0)<;>first|exact .inl ⟨_,_,rfl,rfl⟩|exact .inr ⟨rfl,rfl⟩)
 rcases h1 with⟨v,w,h3,h4⟩|⟨h3,h4⟩
 ·rw[h3,h4]
  cases(fQ.f (l,()))<;>cases decide (l.conns<(x.conns.length:Int))<;>cases decide (l.waiting<(x.waiting.length:Int))<;>rfl
 ·rw[h3,h4]
  rcases h2 with⟨v,w,h5,h6⟩|⟨h5,h6⟩
  ·rw[h5,h6]
   all_goals (cases(fQ.f (l,()))<;>cases decide (l.conns<(x.conns.length:Int))<;>cases decide (l.waiting<(x.waiting.length:Int))<;>rfl)
  ·rw[h5,h6]
   all_goals (cases(fQ.f (l,()))<;>cases decide (l.conns<(x.conns.length:Int))<;>cases decide (l.waiting<(x.waiting.length:Int))<;>rfl)
theorem Bg (xs:List Half):n9.f (xs,())=fa.f (xs,()):=by
 simp only[PX,n9,fa,iX,lj]
 have h1:=y4 xs (f:=λj a=>(fc xs j a).nice) (g:=λj a=>(pB xs xs j a).nice) (k:=Int.toNat ((xs.length:Int)-0)) (aA _) (λj y hy=>by
  simp only[PX,fc,pB,ac,getD_some hy,qs,de,ii,bA,aq,rU,ew,List.drop_zero,kD]
  rw[Df (λh:Half=>jx y.tuple h.tuple) xs j y hy (o9 _)]
  cases az.f (y.tuple,())with
  |false=>exact .inl ⟨_,_,rfl,rfl⟩
  |true=>
  cases af.f (y.iss,32,())with
  |false=>exact .inl ⟨_,_,rfl,rfl⟩
  |true=>
  cases af.f (y.irs,32,())with
  |false=>exact .inl ⟨_,_,rfl,rfl⟩
  |true=>
  cases af.f (y.window,16,())with
  |false=>exact .inl ⟨_,_,rfl,rfl⟩
  |true=>
  cases aH.f (y.opts,())with
  |false=>exact .inl ⟨_,_,rfl,rfl⟩
  |true=>
  cases(decide (0≤y.age)&&decide (y.age≤6))with
  |false=>exact .inl ⟨_,_,rfl,rfl⟩
  |true=>
  cases(xs.take j).any (λh=>jx y.tuple h.tuple)with
  |true=>exact .inl ⟨_,_,rfl,rfl⟩
  |false=>exact .inr ⟨rfl,rfl⟩)
 rcases h1 with⟨v,w,h3,h4⟩|⟨h3,h4⟩<;>rw[h3,h4]<;>by_cases h:64<(xs.length:Int)
 ·rw[decide_eq_true h];rfl
 ·rw[decide_eq_false h];rfl
 ·rw[decide_eq_true h];simp only[Stp.elim,cond_true];exact decide_eq_false (by omega)
 ·rw[decide_eq_false h];simp only[Stp.elim,cond_false];exact decide_eq_true (by omega)
theorem Km (d:Door)(xs:List Half):cV.f (xs,d,())=xs.any (λh=>decide (0≤ar.f (d.table,h.tuple,()))):=by
 simp only[PX,cV,fm,bv]
 rw[jh (λh:Half=>decide (0≤ar.f (d.table,h.tuple,()))) xs (λj y a h=>by
  simp only[PX,gl,BA,ac,getD_some h])]
 rw[←kD]
 unfold dW
 cases xs.findIdx? (λh=>decide (0≤ar.f (d.table,h.tuple,())))<;>rfl
theorem Xl {T:Type}(p:T→Bool)(xs:List T)(j:Nat):dh (W:=Unit) (λ_ y (_:Unit)=>bif p y then .out ()else .next ()) j xs ()=bif xs.any p then .out ()else .next ():=by
 rw[j4 (w:=λ_ _=>())]
 cases h:xs.findIdx? p with
 |none=>
  rw[List.findIdx?_eq_none_iff]at h
  have:xs.any p=false:=by
   rw[List.any_eq_false]
   intro y hy;simp[h y hy]
  rw[this];rfl
 |some i=>
  obtain⟨h1,h2,_⟩:=List.findIdx?_eq_some_iff_getElem.1 h
  have:xs.any p=true:=by rw[List.any_eq_true];exact⟨xs[i],List.getElem_mem h1,h2⟩
  rw[this];simp only[List.getElem?_eq_getElem h1];rfl
theorem BU (x:Door)(hs:∀y∈x.table.conns,aX y.r.held):rk.f (x,())=bH.f (x,()):=by
 simp only[PX,rk,bH,oG,de,IZ,M7 x.table x.limits hs,Bg,bA,aq,Km]
 rw[aA,bu x.halves _ rfl (F:=λj y a=>bif decide (0≤ar.f (x.table,y.tuple,()))then .out ()else .next ()) (by
  intro j y a h
  simp only[PX,AX,ac,getD_some h,iy])]
 rw[Xl (λy:Half=>decide (0≤ar.f (x.table,y.tuple,())))]
 cases x.halves.any (λy=>decide (0≤ar.f (x.table,y.tuple,())))<;>rfl
theorem BB:∀(r:List Conn) (j:Nat) (c:List Conn) (w:List Tupl),dh (W:=Empty) (λ_ x (a:Tabl×Tabl)=> .next ((⟨[],[]⟩:Tabl),(⟨a.2.conns++[x],a.2.waiting⟩:Tabl))) j r (⟨[],[]⟩,⟨c,w⟩)= .next (⟨[],[]⟩,⟨c++r,w⟩)
 |[],_,c,w=>by simp only[dh,List.append_nil]
 |x::r,j,c,w=>by
  simp only[dh,Stp.elim]
  rw[BB r]
  simp
theorem qB (x:Recv):dU.f (x,())=x:=by simp only[PX,dU,List.nil_append]
theorem pG (x:Recv):f8.f (x,())=x:=by simp only[PX,f8,oA]
theorem fw (x:Conn):dA.f (x,())=x:=by simp only[PX,dA,qB]
theorem bX (x:Conn):bV.f (x,())=x:=by simp only[PX,bV,pG]
theorem Mc (x:Keys):uw.f (x,())=x:=by simp only[PX,uw,Et]
theorem xA (x:Keys):oT.f (x,())=x:=by simp only[PX,oT,u9]
theorem zT (x:Tabl):mj.f (x,())=x:=by
 simp only[PX,mj,jK,List.nil_append]
 rw[aA,bu x.conns _ rfl (F:=λ_ y (a:Tabl×Tabl)=> .next ((⟨[],[]⟩:Tabl),(⟨a.2.conns++[y],a.2.waiting⟩:Tabl))) (by
  intro j y a h
  simp only[PX,xq,ac,getD_some h,fw]),BB]
 simp only[Stp.elim,PX,List.nil_append]
theorem iL (x:Tabl):fk.f (x,())=x:=by
 simp only[PX,fk,ge,oH]
 rw[aA,bu x.conns _ rfl (F:=λ_ y (a:Tabl×Tabl)=> .next ((⟨[],[]⟩:Tabl),(⟨a.2.conns++[y],a.2.waiting⟩:Tabl))) (by
  intro j y a h
  simp only[PX,sY,ac,getD_some h,bX]),BB]
 simp only[Stp.elim,PX,List.nil_append]
theorem kh (x:Door):dT.f (x,())=x:=by simp only[PX,dT,Mc,zT,List.nil_append]
theorem jO (x:Door):gk.f (x,())=x:=by simp only[PX,gk,xA,iL,eq]
theorem YO (k:Keys)(m:Mac):yY.f (k,m,())=oe.f (k,m,()):=by
 simp only[PX,yY,oe,Mc,xA,Et,u9,IZ,Ol]
theorem SD (d:Door)(m:Mac):su.f (d,m,())=jX.f (d,m,()):=by
 simp only[PX,su,jX,kh,jO,YO]
theorem lT {W:Type}{f:Int→Unit→Stp Unit W}:∀(k:Nat) (i:Int),(∀j,f j ()= .next ())→aP f 1 k i ()= .next ()
 |0,_,_=>rfl
 |k+1,i,h=>by simp only[aP,h,Stp.elim];exact lT k _ h
theorem OK (m:Mac):mc.f (m,m,())=true:=by
 simp only[PX,mc,jW]
 rw[lT _ _ λj=>by simp only[PX,rl,beq_self_eq_true,Bool.and_self,Bool.not_true,cond_false]]
 simp[PX,Stp.elim]
theorem VD (k:Keys)(m:Mac)(hk:dZ.f (k,())=true):dZ.f (oe.f (k,m,()),())=true:=by
 simp only[PX,oe,hk,xA,u9,Bool.not_true,cond_false]
 cases hm:jo.f (m,())with
 |false=>exact hk
 |true=>
  simp only[Bool.not_true,cond_false]
  cases he:(k.epoch==4294967295)with
  |true=>exact hk
  |false=>
   have h1:=vh k hk
   have h2:k.epoch≠4294967295:=by simpa using he
   have h3:jo.f (k.now,())=true:=by
    simp only[PX,dZ,aq]at hk
    revert hk
    cases k.two<;>simp only[PX,cond_true,cond_false]<;>cases jo.f (k.now,())<;>simp
   simp only[cond_false]
   simp only[PX,dZ,aq,cond_true,hm,h3]
   rw[aj (by omega) (by omega),decide_eq_true (show 1≤k.epoch+1 by omega),decide_eq_true (show k.epoch+1≤4294967295 by omega)]
   rfl
theorem Le (m:Mac):fu.f (m,m,())=true:=by rw[←EJ];exact OK m
theorem K3 (o:Opti):oo.f (o,())=jk.f (o,()):=by
 simp only[PX,oo,jk,cu,bM]
theorem X3 (xs:List Half)(h:Half)(n:Int):zW.f (xs,h,n,())=og.f (xs,h,n,()):=by
 simp only[PX,zW,og,eq,Bg,List.nil_append]
def fV (d:Door):Prop:=∀y∈d.table.conns,aX y.r.held
theorem Xo {d:Door}(hd:av d):fV d:=by
 intro y hy p hp
 have h1:aa y:=hd.2.2.2.2.2.2.1 y hy
 have h2:cM p:=h1.2.2.2 p hp
 simp only[cM]at h2
 omega
theorem IQ (d:Door)(t:Tupl)(g:Segm)(hs:fV d):rM.f (d,t,g,())=(bH.f (d,())&&(az.f (t,())&&ai.f (g,()))):=by
 simp only[PX,rM,BU d hs,qs,pe]
 cases bH.f (d,())<;>cases az.f (t,())<;>rfl
theorem M0 (d:Door)(t:Tupl)(g:Segm):lm.f (d,t,g,())=
  bif (bH.f (d,())&&(az.f (t,())&&ai.f (g,())))then
   bif decide (0≤ax.f (d.halves,t,()))then
    bif ((d.halves.getD (ax.f (d.halves,t,())).toNat (Ty.zero .half)).irs != g.seq)then(d,[])else(d,[({ey.f (d,t,g,())with seq:=(d.halves.getD (ax.f (d.halves,t,())).toNat (Ty.zero .half)).iss}:Segm)])
   else bif decide (ar.f (d.table,t,())<0)then
    ({d with halves:=(og.f (d.halves,(⟨t,(ey.f (d,t,g,())).seq,g.seq,jk.f (g.opts,()),0,g.window⟩:Half),d.limits.halves,())).1},[ey.f (d,t,g,())])
   else(d,[ey.f (d,t,g,())])
  else(d,[]):=by
 simp only[PX,lm,jO]
 cases bH.f (d,())<;>cases az.f (t,())<;>cases ai.f (g,())<;>rfl
theorem abD (d:Door)(t:Tupl)(g:Segm)(hs:fV d):Hl.f (d,t,g,())=lm.f (d,t,g,()):=by
 rw[M0]
 simp only[PX,Hl,kh,IQ d t g hs,ZJ,vM,iy,K3,X3]
 cases(bH.f (d,())&&(az.f (t,())&&ai.f (g,())))<;>rfl
theorem zQ {W:Type}{f:Int→Unit→Stp Unit W}:∀(k i:Nat),aP f 1 k (i:Int) ()= .next ()↔∀j:Nat,i≤j→j<i+k→f (j:Int) ()= .next ()
 |0,i=>⟨λ_ j h1 h2=>by omega,λ_=>rfl⟩
 |k+1,i=>by
  constructor
  ·intro h j h1 h2
   simp only[aP]at h
   cases hf:f (i:Int) ()with
   |out w=>rw[hf]at h;cases h
   |next a=>
    rw[hf]at h
    simp only[Stp.elim]at h
    rcases Nat.eq_or_lt_of_le h1 with h3|h3
    ·rw[←h3];exact hf
    ·rw[show(i:Int)+1=((i+1:Nat):Int) by omega]at h
     exact(zQ k (i+1)).1 h j h3 (by omega)
  ·intro h
   simp only[aP,h i (Nat.le_refl _) (by omega),Stp.elim]
   rw[show(i:Int)+1=((i+1:Nat):Int) by omega]
   exact(zQ k (i+1)).2 λj h1 h2=>h j (by omega) (by omega)
def rH (h:Half):Bool:=az.f (h.tuple,())&&(af.f (h.iss,32,())&&(af.f (h.irs,32,())&&(af.f (h.window,16,())&&(aH.f (h.opts,())&&(decide (0≤h.age)&&decide (h.age≤6))))))
theorem JH (xs:List Half)(j:Nat)(y:Half)(hy:xs[j]? =some y):((fc xs (j:Int) ()).nice= .next ())↔(rH y=true∧(xs.take j).any (λh=>jx y.tuple h.tuple)=false):=by
 simp only[PX,fc,ac,getD_some hy,qs,de,ii,bA,rU,List.drop_zero,kD,rH]
 cases az.f (y.tuple,())<;>cases af.f (y.iss,32,())<;>cases af.f (y.irs,32,())<;>cases af.f (y.window,16,())<;>cases aH.f (y.opts,())<;>cases(decide (0≤y.age)&&decide (y.age≤6))<;>cases(xs.take j).any (λh=>jx y.tuple h.tuple)<;>simp
theorem OJ (xs:List Half):fa.f (xs,())=true↔(∀(j:Nat) (y:Half),xs[j]? =some y→rH y=true∧(xs.take j).any (λh=>jx y.tuple h.tuple)=false)∧xs.length≤64:=by
 rw[←Bg]
 have hT:aP (λj a=>(fc xs j a).nice) 1 xs.length ((0:Nat):Int) ()= .next ()↔∀(j:Nat) (y:Half),xs[j]? =some y→rH y=true∧(xs.take j).any (λh=>jx y.tuple h.tuple)=false:=by
  rw[zQ]
  constructor
  ·intro h j y hy
   exact(JH xs j y hy).1 (h j (Nat.zero_le _) (by have:=(List.getElem?_eq_some_iff.1 hy).1;omega))
  ·intro h j _ h2
   exact(JH xs j xs[j] (List.getElem?_eq_getElem (by omega))).2 (h j _ (List.getElem?_eq_getElem (by omega)))
 simp only[PX,n9,iX]
 rw[aA,show(0:Int)=((0:Nat):Int) from rfl,←hT]
 cases aP (λj a=>(fc xs j a).nice) 1 xs.length ((0:Nat):Int) ()with
 |next a=>simp only[Stp.elim,PX,decide_eq_true_eq,true_and];omega
 |out w=>simp[Stp.elim,PX]
theorem YP {T:Type}(p:T→Bool)(xs:List T)(x:T)(h:xs.any p=false)(hx:p x=true):dW p (xs++[x])=(xs.length:Int):=by
 have hn:∀y∈xs,p y=false:=by simpa using List.any_eq_false.1 h
 unfold dW
 have e:(xs++[x]).findIdx? p=some xs.length:=by
  rw[List.findIdx?_eq_some_iff_getElem]
  refine⟨by simp,by simpa using hx,λj hj=> ?_⟩
  rw[List.getElem_append_left hj]
  simp[hn _ (List.getElem_mem hj)]
 rw[e]
theorem VI (d:Door)(t:Tupl)(g:Segm):0≤(ey.f (d,t,g,())).seq∧(az.f (t,())=true→dZ.f (d.keys,())=true→0≤g.seq∧g.seq≤4294967295→(ey.f (d,t,g,())).seq≤4294967295):=by
 have hseq:(ey.f (d,t,g,())).seq=nM.f (d,t,g,()):=by simp only[PX,ey]
 rw[hseq]
 simp only[PX,nM]
 generalize y9.f (g.opts,())=mss
 refine⟨by split<;>omega,λht hk hs=> ?_⟩
 have hi:=ND mss
 have he:=vh d.keys hk
 have hc:=Qz d.keys.now t g.seq d.keys.epoch (iI.f (mss,())) ht hs he hi
 have hr:=MT d.keys.now (fC.f (t,g.seq,d.keys.epoch,iI.f (mss,()),()))
 rw[hc];split<;>omega
theorem xP (x:Sndr):ba.f (x,())=true↔SO x:=by
 have h:=ba.c.h (x,()) trivial
 simpa using h
theorem xW (x:Sndr):jB.f (x,())=cZ.f (x,()):=by simp only[PX,jB,cZ]
theorem Si (x:Sndr):xM.f (x,())=ic.f (x,()):=by simp only[PX,xM,ic,xW,iZ]
theorem sE (c:Conn):ju.f (c,())=bt.f (c,()):=by simp only[PX,ju,bt,Si,n5,cu,bM]
theorem aa4 (c:Conn):DA.f (c,())=dz.f (c,()):=by
 simp only[PX,DA,dz,jE,lP]
 cases(c.opts.mss==0)with
 |true=>rfl
 |false=>
  simp only[cond_false]
  generalize(if 1460<c.opts.mss then(1460:Int)else c.opts.mss)=m
  split<;>split<;>omega
theorem XF (x:Sndr)(y:Chun):n7.f (x,y,())=dB.f (x,y,()):=by
 simp only[PX,n7,dB,nZ]
 obtain⟨u,dt,se,fi,fs,dn⟩:=x
 cases fi with
 |true=>simp only[Bool.not_true,cond_false]
 |false=>
  cases hy:y.fin with
  |false=>simp only[cond_false]
  |true=>
   have k1:∀n:Int,ba.f ((⟨u,dt,n,false,true,dn⟩:Sndr),())=false:=by
    intro n
    cases h:ba.f ((⟨u,dt,n,false,true,dn⟩:Sndr),())with
    |false=>rfl
    |true=>
     have:=(xP _).1 h
     have h2:=this.2.2.2.2.2.1 rfl
     exact Bool.noConfusion h2.1
   simp only[k1,Bool.not_false,cond_true]
theorem Xw (x:Sndr):zv.f (x,())=jc.f (x,()):=by
 simp only[PX,zv,jc,nZ]
 cases ba.f (x,())<;>rfl
theorem Y3 (c:Conn):C2.f (c,())=BX.f (c,()):=by simp only[PX,C2,BX]
theorem abQ (c:Conn)(hs:aX c.r.held):Hj.f (c,())=mH.f (c,()):=by
 simp only[PX,Hj,mH,kU c hs,Y3]
theorem MU (x:Sndr)(h:SO x):cZ.f (x,())=if x.finSent then x.sent+1 else x.sent:=by
 simp only[PX,cZ]
 have h1:=h.2.2.2.1
 have h2:=h.2.2.2.2.1
 have h3:=h.2.2.1
 cases x.finSent with
 |true=>simp only[cond_true,if_true];rw[aj (by omega) (by omega)]
 |false=>rfl
theorem UG (l:ae)(S n:Int)(h0:0≤S)(h1:0≤n):(l.take (S+n).toNat).drop S.toNat=(l.drop S.toNat).take n.toNat:=by
 rw[List.drop_take];congr 1;omega
theorem SB (x:Sndr)(w m:Int)(hw:w≤9223372036854775807):ss.f (x,w,m,())=aZ.f (x,w,m,()):=by
 simp only[PX,ss,aZ,nZ,xW,Si,jE,lP]
 cases h:ba.f (x,())with
 |false=>rfl
 |true=>
 have hs:=(xP x).1 h
 have h1:=hs.2.2.2.1
 have h2:=hs.2.2.2.2.1
 have h3:=hs.2.2.1
 simp only[Bool.not_true,cond_false]
 have hF:x.sent≤cZ.f (x,())∧cZ.f (x,())≤x.sent+1:=by
  rw[MU x hs];split<;>omega
 obtain⟨F,eF⟩:∃F,cZ.f (x,())=F:=⟨_,rfl⟩
 rw[eF]at hF
 simp only[eF]
 generalize ic.f (x,())=q
 rw[ac,List.take_length,List.length_drop]
 rw[aj (m:=(x.data.length:Int)-x.sent) (by omega) (by omega)]
 rw[show((x.data.length-x.sent.toNat:Nat):Int)=(x.data.length:Int)-x.sent by omega]
 obtain⟨c2,e2⟩:∃z:Int,(if w<1000000 then w else 1000000)=z:=⟨_,rfl⟩
 simp only[e2]
 obtain⟨c3,e3⟩:∃z:Int,(if c2<0 then 0 else c2)=z:=⟨_,rfl⟩
 simp only[e3]
 have b3:0≤c3∧c3≤1000000:=by grind
 rw[aj (m:=c3-F) (by omega) (by omega)]
 obtain⟨c5,e5⟩:∃z:Int,(if c3-F<0 then 0 else c3-F)=z:=⟨_,rfl⟩
 simp only[e5]
 obtain⟨W,eW⟩:∃z:Int,(if w< -1 then-1 else w)=z:=⟨_,rfl⟩
 simp only[eW]
 have bW: -1≤W∧W≤9223372036854775807:=by grind
 rw[aj (m:=W-F) (by omega) (by omega)]
 obtain⟨D,eD⟩:∃z:Int,(x.data.length:Int)-x.sent=z:=⟨_,rfl⟩
 simp only[eD]
 obtain⟨c6,e6⟩:∃z:Int,(if m<c5 then m else c5)=z:=⟨_,rfl⟩
 simp only[e6]
 obtain⟨c7,e7⟩:∃z:Int,(if c6<D then c6 else D)=z:=⟨_,rfl⟩
 simp only[e7]
 obtain⟨n,e8⟩:∃z:Int,(if c7<0 then 0 else c7)=z:=⟨_,rfl⟩
 simp only[e8]
 obtain⟨d3,f3⟩:∃z:Int,(if m<D then m else D)=z:=⟨_,rfl⟩
 simp only[f3]
 obtain⟨d4,f4⟩:∃z:Int,(if W-F<d3 then W-F else d3)=z:=⟨_,rfl⟩
 simp only[f4]
 have en:(if 0<d4 then d4 else 0)=n:=by grind
 rw[en]
 have bn:0≤n∧n≤D:=by grind
 have bw:decide (n<W-F)=decide (n<c5):=by
  rw[decide_eq_decide];grind
 rw[bw,aj (m:=x.sent+n) (by omega) (by omega),UG x.data x.sent n h1 bn.1,List.drop_zero]
 have el:(((x.data.drop x.sent.toNat).take n.toNat)==[])=(n==0):=by
  have hl:((x.data.drop x.sent.toNat).take n.toNat).length=n.toNat:=by rw[List.length_take,List.length_drop];omega
  generalize(x.data.drop x.sent.toNat).take n.toNat=z at*
  cases z with
  |nil=>simp only[List.length_nil]at hl;rw[show n=0 by omega];rfl
  |cons a r=>simp only[List.length_cons]at hl;rw[Bool.eq_iff_iff];simp;omega
 have ed:(x.sent+n==(x.data.length:Int))=(n==D):=by
  rw[Bool.eq_iff_iff];simp only[beq_iff_eq];omega
 rw[el,ed]
theorem FD {A B W W':Type}[Inhabited W][Inhabited W']{f:A→Stp A W}{g:B→Stp B W'}{R:A→B→Prop}{Q:W→W'→Prop}(hd:Q default default)
  (h:∀a b,R a b→(∃a' b',f a= .next a'∧g b= .next b'∧R a' b')∨(∃w w',f a= .out w∧g b= .out w'∧Q w w')):
  ∀(m:Nat) (a:A) (b:B),R a b→Q (bZ f m a) (bZ g m b)
 |0,_,_,_=>hd
 |m+1,a,b,hr=>by
  rcases h a b hr with⟨a',b',e1,e2,hr'⟩|⟨w,w',e1,e2,hq⟩
  ·simp only[bZ,e1,e2,Stp.elim]
   exact FD hd h m a' b' hr'
  ·simp only[bZ,e1,e2,Stp.elim]
   exact hq
def Dj (c:Conn)(l:List Segm):Conn:={c with timer:=if l=[]then c.timer else if c.timer=0 then 3 else c.timer}
theorem Kv (c:Conn):Dj c []=c:=by simp[Dj]
theorem YH (c:Conn)(l:List Segm)(g:Segm)(x:Sndr):(bif ((Dj c l).timer==0)then({Dj c l with s:=x,timer:=3}:Conn)else{Dj c l with s:=x})=Dj {c with s:=x} (l++[g]):=by
 simp only[Dj]
 have h1:¬(l++[g]=[]):=by simp
 rw[if_neg h1]
 by_cases hl:l=[]
 ·rw[if_pos hl]
  by_cases ht:c.timer=0
  ·rw[if_pos ht,show(c.timer==0)=true by simp[ht]];rfl
  ·rw[if_neg ht,show(c.timer==0)=false by simp[ht]];rfl
 ·rw[if_neg hl]
  by_cases ht:c.timer=0
  ·rw[if_pos ht];rfl
  ·rw[if_neg ht,show(c.timer==0)=false by simp[ht]];rfl
theorem I7 (c:Conn)(w:Int)(hw:w≤9223372036854775807)(hs:aX c.r.held):mL.f (c,w,())=cG.f (c,w,()):=by
 simp only[PX,mL,cG,fw,bX,kU c hs,me,jR]
 cases(bif !aI.f (c,())then(true,())else bif (c.state==8)then(true,())else((c.state==7),())).1 with
 |true=>rfl
 |false=>
 simp only[cond_false]
 have key:=FD (f:=λa=>(sF w a).nice) (g:=λa=>(bT w a).nice) (R:=λa b=>a.1=Dj b.2.1 b.2.2∧a.2.2=b.2.2) (Q:=λp q=>p.1=Dj q.2.1 q.2.2∧p.2=q.2.2) ⟨(Kv _).symm,rfl⟩ (by
  rintro⟨a1,a2,al⟩ ⟨b1,b2,bl⟩ ⟨h1,h2⟩
  simp only[]at h1 h2
  subst h1;subst h2
  have hm:dz.f (Dj b2 al,())=dz.f (b2,()):=rfl
  have ha:bt.f (Dj b2 al,())=bt.f (b2,()):=rfl
  have hx:(Dj b2 al).s=b2.s:=rfl
  simp only[PX,sF,bT,aa4,SB _ _ _ hw,sE,XF,hm,ha,hx]
  obtain⟨z,hz⟩:∃z,aZ.f (b2.s,w,dz.f (b2,()),())=z:=⟨_,rfl⟩
  simp only[hz]
  obtain⟨g,hg⟩:∃g,bt.f (b2,())=g:=⟨_,rfl⟩
  simp only[hg]
  obtain⟨x,hx2⟩:∃x,dB.f (b2.s,z.1,())=x:=⟨_,rfl⟩
  simp only[hx2]
  cases z.2 with
  |false=>exact .inr ⟨_,_,rfl,rfl,rfl,rfl⟩
  |true=>
   have hf:∀g':Segm,_:=λg'=>YH b2 al g' x
   cases ht:((Dj b2 al).timer==0)<;>rw[ht]at hf<;>simp only[cond_true,cond_false]at hf<;>cases(z.1.text==[])<;>cases z.1.fin<;>exact .inl ⟨_,_,rfl,rfl,hf _,rfl⟩) (Hz c.s+1) (c,⟨⟨0,0,0⟩,0,⟨0,[],0,false,false,false⟩,⟨0,[],[],0,false⟩,0,0,⟨0,0,false,false,0,0⟩,0,0⟩,[]) (⟨⟨0,0,0⟩,0,⟨0,[],0,false,false,false⟩,⟨0,[],[],0,false⟩,0,0,⟨0,0,false,false,0,0⟩,0,0⟩,c,[]) ⟨(Kv c).symm,rfl⟩
 obtain⟨p,hp⟩:∃p,bZ (λa=>(sF w a).nice) (Hz c.s+1) (c,⟨⟨0,0,0⟩,0,⟨0,[],0,false,false,false⟩,⟨0,[],[],0,false⟩,0,0,⟨0,0,false,false,0,0⟩,0,0⟩,[])=p:=⟨_,rfl⟩
 obtain⟨q,hq⟩:∃q,bZ (λa=>(bT w a).nice) (Hz c.s+1) (⟨⟨0,0,0⟩,0,⟨0,[],0,false,false,false⟩,⟨0,[],[],0,false⟩,0,0,⟨0,0,false,false,0,0⟩,0,0⟩,c,[])=q:=⟨_,rfl⟩
 rw[hp,hq]at key
 simp only[hp,hq]
 obtain⟨p1,p2⟩:=p
 obtain⟨q1,q2,q3⟩:=q
 obtain⟨k1,k2⟩:=key
 simp only[]at k1 k2
 subst k1;subst k2
 cases p2 with
 |nil=>simp only[PX,Kv,List.length_nil];rfl
 |cons g r=>
  simp only[PX,decide_eq_true (show 0<((g::r).length:Int) by simp only[List.length_cons];omega),cond_true,Dj,if_neg (show¬(g::r=[]) by simp)]
  by_cases ht:q2.timer=0
  ·simp only[ht,if_true,beq_self_eq_true,cond_true]
  ·simp only[if_neg ht,show(q2.timer==0)=false by simp[ht],cond_false]
def WJ (k:Int)(sf sd rd:Bool):Bool:=bif k==8 then true else(sf== !(k==1||k==4))&&((sd==(k==3||k==7))&&(rd==(k==4||decide (5≤k))))
theorem I9 (x:Conn):aI.f (x,())=(az.f (x.tuple,())&&(ba.f (x.s,())&&(bg.f (x.r,())&&(aH.f (x.opts,())&&((decide (1≤x.state)&&decide (x.state≤8))&&((decide (0≤x.most)&&decide (x.most≤1073725440))&&((decide (0≤x.window)&&decide (x.window≤x.most))&&((decide (0≤x.timer)&&bif x.state==7 then decide (x.timer≤4)else decide (x.timer≤3))&&((decide (0≤x.tries)&&decide (x.tries≤3))&&WJ x.state x.s.fin x.s.done x.r.done))))))))):=by
 simp only[PX,aI,aq]
 cases az.f (x.tuple,())with
 |false=>rfl
 |true=>
 cases ba.f (x.s,())with
 |false=>rfl
 |true=>
 cases bg.f (x.r,())with
 |false=>rfl
 |true=>
 cases aH.f (x.opts,())with
 |false=>rfl
 |true=>
 simp only[Bool.not_true,cond_false,Bool.true_and]
 have ej:∀b:Bool,(bif b then(false,(4:Int),x,())else(false,3,x,()))=(false,(bif b then 4 else 3),x,()):=λb=>by cases b<;>rfl
 have et:∀b:Bool,decide (x.timer≤bif b then 4 else 3)=bif b then decide (x.timer≤4)else decide (x.timer≤3):=λb=>by cases b<;>rfl
 simp only[ej,et]
 generalize(decide (0≤x.window)&&decide (x.window≤x.most))=W
 generalize(decide (0≤x.most)&&decide (x.most≤1073725440))=N
 generalize(decide (0≤x.tries)&&decide (x.tries≤3))=T
 generalize decide (0≤x.timer)=T0
 generalize decide (x.timer≤4)=T4
 generalize decide (x.timer≤3)=T3
 generalize x.s.fin=sf
 generalize x.s.done=sd
 generalize x.r.done=rd
 generalize x.state=k
 have hk:k=1∨k=2∨k=3∨k=4∨k=5∨k=6∨k=7∨k=8∨(decide (1≤k)&&decide (k≤8))=false:=by
  simp only[Bool.and_eq_false_iff,decide_eq_false_iff_not];omega
 rcases hk with rfl|rfl|rfl|rfl|rfl|rfl|rfl|rfl|hk
 iterate 8 (revert W N T T0 T4 T3 sf sd rd;decide+kernel)
 simp only[hk];rfl
structure CO (x:Conn):Prop where
 tup:az.f (x.tuple,())=true
 snd:SO x.s
 rcv:bg.f (x.r,())=true
 opt:aH.f (x.opts,())=true
 s1:1≤x.state
 s8:x.state≤8
 m0:0≤x.most
 m1:x.most≤1073725440
 w0:0≤x.window
 w1:x.window≤x.most
 t0:0≤x.timer
 t4:x.timer≤4
 t3:x.state≠7→x.timer≤3
 r0:0≤x.tries
 r3:x.tries≤3
 fl:WJ x.state x.s.fin x.s.done x.r.done=true
theorem pC (x:Conn):aI.f (x,())=true↔CO x:=by
 rw[I9]
 simp only[Bool.and_eq_true,decide_eq_true_eq,xP]
 have et:(bif x.state==7 then decide (x.timer≤4)else decide (x.timer≤3))=true↔x.timer≤4∧(x.state≠7→x.timer≤3):=by
  by_cases h:x.state=7
  ·simp[h]
  ·have h2:(x.state==7)=false:=by simpa using h
   simp only[h2,cond_false,decide_eq_true_eq]
   exact⟨λh3=>⟨by omega,λ_=>h3⟩,λh3=>h3.2 h⟩
 rw[et]
 constructor
 ·rintro⟨h1,h2,h3,h4,⟨h5,h6⟩,⟨h7,h8⟩,⟨h9,h10⟩,⟨h11,h12,h13⟩,⟨h14,h15⟩,h16⟩
  exact⟨h1,h2,h3,h4,h5,h6,h7,h8,h9,h10,h11,h12,h13,h14,h15,h16⟩
 ·rintro⟨h1,h2,h3,h4,h5,h6,h7,h8,h9,h10,h11,h12,h13,h14,h15,h16⟩
  exact⟨h1,h2,h3,h4,⟨h5,h6⟩,⟨h7,h8⟩,⟨h9,h10⟩,⟨h11,h12,h13⟩,⟨h14,h15⟩,h16⟩
structure Sent (c d:Conn):Prop where
 so:SO d.s
 s1:d.s.data=c.s.data
 s2:d.s.fin=c.s.fin
 s3:d.s.done=c.s.done
 s4:d.s.una=c.s.una
 tm:d.timer=c.timer∨d.timer=3
 re:d={c with s:=d.s,timer:=d.timer}
theorem Sent.refl (c:Conn)(h:SO c.s):Sent c c:=⟨h,rfl,rfl,rfl,rfl,.inl rfl,rfl⟩
theorem Sent.ok {c d:Conn}(h:Sent c d)(hc:CO c)(ht:d.timer≤3∨d.timer=c.timer):CO d:=by
 obtain⟨so,s1,s2,s3,s4,tm,re⟩:=h
 obtain⟨t,st,s,r,w,m,o,ti,tr⟩:=c
 obtain⟨t',st',s',r',w',m',o',ti',tr'⟩:=d
 simp only[Conn.mk.injEq]at re
 obtain⟨rfl,rfl,-,rfl,rfl,rfl,rfl,-,rfl⟩:=re
 simp only[]at*
 refine⟨hc.tup,so,hc.rcv,hc.opt,hc.s1,hc.s8,hc.m0,hc.m1,hc.w0,hc.w1, ?_, ?_, ?_,hc.r0,hc.r3, ?_⟩
 ·have:=hc.t0;simp only[]at*;omega
 ·have:=hc.t4;simp only[]at*;omega
 ·intro h7;have:=hc.t3 h7;simp only[]at*;omega
 ·have:=hc.fl;simp only[]at*;rw[s2,s3];exact this
theorem Ji {x:Sndr}(h:SO x):bP x:=by
 have:=h.2.2.1
 unfold bP;grind
theorem NY (x:Sndr)(w m:Int)(y:Chun)(hy:(aZ.f (x,w,m,()))=(y,true))(hx:SO x):SO (dB.f (x,y,()))∧(dB.f (x,y,())).data=x.data∧(dB.f (x,y,())).fin=x.fin∧(dB.f (x,y,())).done=x.done∧(dB.f (x,y,())).una=x.una∧Hz (dB.f (x,y,()))<Hz x:=by
 have h1:=aZ.c.h (x,w,m,()) (Ji hx)
 change qn (aZ.f (x,w,m,())).1∧((aZ.f (x,w,m,())).2=true→_)at h1
 have e1:(aZ.f (x,w,m,())).1=y:=by rw[hy]
 have e2:(aZ.f (x,w,m,())).2=true:=by rw[hy]
 obtain⟨h2,h3⟩:=h1
 obtain⟨-,h4,h5,h6,h7⟩:=h3 e2
 simp only[e1]at h2 h4 h5 h6 h7
 clear e1 e2
 have h8:=(dB.c.h (x,y,()) ⟨Ji hx,h2⟩).2 hx h4 h5 h7
 change dB.f (x,y,())=_ at h8
 rw[h8]
 obtain⟨e1,e2,e3,e4,e5,e6,e7⟩:=hx
 refine⟨⟨e1,e2,e3, ?_, ?_, ?_, ?_⟩,rfl,rfl,rfl,rfl, ?_⟩
 ·show 0≤x.sent+(y.text.length:Int);omega
 ·show x.sent+(y.text.length:Int)≤(x.data.length:Int);omega
 ·intro hf;exact⟨(h7 hf).1,(h7 hf).2.2⟩
 ·intro hd
  refine⟨(e7 hd).1, ?_,(e7 hd).2.2⟩
  show y.fin=false
  cases hf:y.fin with
  |false=>rfl
  |true=>have:=(h7 hf).2.1;rw[this]at hd;cases hd
 ·show((x.data.length:Int)-(x.sent+(y.text.length:Int))).toNat+(if y.fin=true then 0 else 1)<((x.data.length:Int)-x.sent).toNat+(if x.finSent=true then 0 else 1)
  rw[h5]
  simp only[Bool.false_eq_true,if_false]
  have hl:y.text=[]∨0<y.text.length:=by cases y.text<;>simp
  rcases hl with hl|hl
  ·rw[h6 hl];simp only[if_true];omega
  ·split<;>omega
theorem qy (w:Int)(c:Conn)(a:Conn×Conn×List Segm)(h:Sent c a.2.1):(∃l,(bT w a).nice= .out (({a.1 with r.held:=[]}:Conn),a.2.1,l))∨(∃a',(bT w a).nice= .next a'∧Sent c a'.2.1∧Hz a'.2.1.s<Hz a.2.1.s):=by
 obtain⟨a1,a2,al⟩:=a
 simp only[]at h
 simp only[PX,bT]
 obtain⟨z,hz⟩:∃z,aZ.f (a2.s,w,dz.f (a2,()),())=z:=⟨_,rfl⟩
 simp only[hz]
 obtain⟨y,b⟩:=z
 cases b with
 |false=>exact .inl ⟨_,rfl⟩
 |true=>
  obtain⟨k1,k2,k3,k4,k5,k6⟩:=NY a2.s w _ y hz h.so
  obtain⟨x,hx⟩:∃x,dB.f (a2.s,y,())=x:=⟨_,rfl⟩
  rw[hx]at k1 k2 k3 k4 k5 k6
  simp only[hx]
  have hs:Sent c ({a2 with s:=x}:Conn):=by
   obtain⟨so,s1,s2,s3,s4,tm,re⟩:=h
   refine⟨k1,k2.trans s1,k3.trans s2,k4.trans s3,k5.trans s4,tm, ?_⟩
   rw[re]
  cases(y.text==[])<;>cases y.fin<;>exact .inr ⟨_,rfl,hs,k6⟩
theorem EX (c:Conn)(w:Int)(hc:SO c.s):Sent c (cG.f (c,w,())).1:=by
 simp only[PX,cG,bX,jR]
 cases(bif !aI.f (c,())then(true,())else bif (c.state==8)then(true,())else((c.state==7),())).1 with
 |true=>exact Sent.refl c hc
 |false=>
 simp only[cond_false]
 have key:=sR (f:=λa=>(bT w a).nice) (Inv:=λa=>Sent c a.2.1) (Q:=λp=>Sent c p.2.1) (meas:=λa=>Hz a.2.1.s) (λa hi a' he=>by
  rcases qy w c a hi with⟨l,e⟩|⟨a2,e,h1,h2⟩
  ·simp only[e]at he;cases he
  ·simp only[e,Stp.next.injEq]at he;subst he;exact⟨h1,h2⟩) (λa hi p he=>by
  rcases qy w c a hi with⟨l,e⟩|⟨a2,e,h1,h2⟩
  ·simp only[e,Stp.out.injEq]at he;subst he;exact hi
  ·simp only[e]at he;cases he) (Hz c.s+1) (⟨⟨0,0,0⟩,0,⟨0,[],0,false,false,false⟩,⟨0,[],[],0,false⟩,0,0,⟨0,0,false,false,0,0⟩,0,0⟩,c,[]) (Nat.lt_succ_self _) (Sent.refl c hc)
 obtain⟨q,hq⟩:∃q,bZ (λa=>(bT w a).nice) (Hz c.s+1) (⟨⟨0,0,0⟩,0,⟨0,[],0,false,false,false⟩,⟨0,[],[],0,false⟩,0,0,⟨0,0,false,false,0,0⟩,0,0⟩,c,[])=q:=⟨_,rfl⟩
 rw[hq]at key
 simp only[hq]
 obtain⟨q1,q2,q3⟩:=q
 simp only[]at key⊢
 cases(bif decide (0<(q3.length:Int))then((q2.timer==0),())else(false,())).1 with
 |false=>exact key
 |true=>
  obtain⟨so,s1,s2,s3,s4,tm,re⟩:=key
  refine⟨so,s1,s2,s3,s4,.inr rfl, ?_⟩
  exact congrArg (λd:Conn=>({d with timer:=3}:Conn)) re
theorem RP (c:Conn)(h:mH.f (c,())=true):aI.f (c,())=true∧c.state≠8:=by
 simp only[PX,mH]at h
 cases hc:aI.f (c,())with
 |false=>rw[hc]at h;cases h
 |true=>
  rw[hc]at h
  refine⟨rfl,λh8=> ?_⟩
  rw[h8]at h;cases h
def kH (c:Conn):Int:=if c.timer=0 then(if c.state=7 then 4 else 3)else c.timer
theorem El {c:Conn}(h:CO c):1≤kH c∧kH c≤4:=by
 have:=h.t0;have:=h.t4
 unfold kH;split
 ·split<;>omega
 ·omega
def TC (c:Conn):Conn×List Segm:=
 if mH.f (c,())=true then
  if 0<kH c-1 then({c with timer:=kH c-1},[])
  else if c.state=7 then({c with state:=8,timer:=0,tries:=0},[])
  else if c.tries=3 then({c with state:=8,timer:=0,tries:=0},[{bt.f (c,())with flags:=bits .or .i64 (bt.f (c,())).flags 4}])
  else({(cG.f ({c with s:=jc.f (c.s,()),timer:=0,tries:=c.tries+1},(if c.window=0 then 1 else c.window),())).1 with timer:=3},(cG.f ({c with s:=jc.f (c.s,()),timer:=0,tries:=c.tries+1},(if c.window=0 then 1 else c.window),())).2)
 else if aI.f (c,())=true then({c with timer:=0,tries:=0},[])else(c,[])
theorem KY (c:Conn):vc.f (c,())=TC c:=by
 simp only[PX,vc,bX]
 unfold TC
 cases hw:mH.f (c,())with
 |false=>
  simp only[Bool.not_false,cond_true,Bool.false_eq_true,if_false]
  cases aI.f (c,())<;>rfl
 |true=>
  obtain⟨h1,h2⟩:=RP c hw
  have hc:=(pC c).1 h1
  have hr:=El hc
  have r0:=hc.r0
  have r3:=hc.r3
  have w0:=hc.w0
  have w1:=hc.w1
  have m1:=hc.m1
  simp only[Bool.not_true,cond_false,if_true]
  by_cases e1:c.timer=0
  ·have t1:(c.timer==0)=true:=by simp[e1]
   by_cases e2:c.state=7
   ·have t2:(c.state==7)=true:=by simp[e2]
    have t3:kH c-1=3:=by unfold kH;rw[if_pos e1,if_pos e2];rfl
    rw[t3]
    simp only[t1,t2,cond_true]
    rfl
   ·have t2:(c.state==7)=false:=by simp[e2]
    have t3:kH c-1=2:=by unfold kH;rw[if_pos e1,if_neg e2];rfl
    rw[t3]
    simp only[t1,t2,cond_true,cond_false]
    rfl
  have t1:(c.timer==0)=false:=by simp[e1]
  have t3:kH c=c.timer:=by unfold kH;rw[if_neg e1]
  rw[t3]at hr⊢
  have e1:IntKind.wrap .i64 (c.timer-1)=c.timer-1:=aj (by omega) (by omega)
  have e2:IntKind.wrap .i64 (c.tries+1)=c.tries+1:=aj (by omega) (by omega)
  have e4:(if c.window<1 then 1 else c.window)=if c.window=0 then 1 else c.window:=by split<;>split<;>omega
  simp only[t1,cond_false]
  dsimp only[Tr.nice]
  simp only[PX,e1,e2]
  by_cases c1:0<c.timer-1
  ·simp only[if_pos c1,decide_eq_true c1,cond_true]
  have e3:c.timer-1=0:=by omega
  simp only[e3,Int.lt_irrefl,if_false,decide_false,cond_false,wm]
  by_cases c2:c.state=7
  ·simp only[if_pos c2,show(c.state==7)=true by simp[c2],cond_true]
  simp only[if_neg c2,show(c.state==7)=false by simp[c2],cond_false]
  by_cases c3:c.tries=3
  ·simp only[if_pos c3,show(c.tries==3)=true by simp[c3],cond_true]
  simp only[if_neg c3,show(c.tries==3)=false by simp[c3],cond_false]
  by_cases c4:c.window=0
  ·simp only[if_pos c4,show(c.window==0)=true by simp[c4],cond_true]
   rfl
  ·simp only[if_neg c4,show(c.window==0)=false by simp[c4],cond_false]
   rfl
theorem AG (c:Conn)(hs:aX c.r.held):rN.f (c,())=TC c:=by
 simp only[PX,rN,fw,abQ c hs,kU c hs]
 unfold TC
 cases hw:mH.f (c,())with
 |false=>
  simp only[Bool.not_false,cond_true,Bool.false_eq_true,if_false]
  cases aI.f (c,())<;>rfl
 |true=>
  obtain⟨h1,h2⟩:=RP c hw
  have hc:=(pC c).1 h1
  have hr:=El hc
  have r0:=hc.r0
  have r3:=hc.r3
  have w0:=hc.w0
  have w1:=hc.w1
  have m1:=hc.m1
  simp only[Bool.not_true,cond_false,if_true]
  by_cases e1:c.timer=0
  ·have t1:(c.timer==0)=true:=by simp[e1]
   by_cases e2:c.state=7
   ·have t2:(c.state==7)=true:=by simp[e2]
    have t3:kH c-1=3:=by unfold kH;rw[if_pos e1,if_pos e2];rfl
    rw[t3]
    simp only[t1,t2,cond_true]
    rfl
   ·have t2:(c.state==7)=false:=by simp[e2]
    have t3:kH c-1=2:=by unfold kH;rw[if_pos e1,if_neg e2];rfl
    rw[t3]
    simp only[t1,t2,cond_true,cond_false]
    rfl
  have t1:(c.timer==0)=false:=by simp[e1]
  have t3:kH c=c.timer:=by unfold kH;rw[if_neg e1]
  rw[t3]at hr⊢
  have e1:IntKind.wrap .i64 (c.timer-1)=c.timer-1:=aj (by omega) (by omega)
  have e2:IntKind.wrap .i64 (c.tries+1)=c.tries+1:=aj (by omega) (by omega)
  have e4:(if c.window<1 then 1 else c.window)=if c.window=0 then 1 else c.window:=by split<;>split<;>omega
  simp only[t1,cond_false]
  dsimp only[Tr.nice]
  simp only[PX,e1,e2,lP,Xw,sE,e4]
  by_cases c1:0<c.timer-1
  ·simp only[if_pos c1,decide_eq_true c1,cond_true]
  have e3:c.timer-1=0:=by omega
  simp only[e3,Int.lt_irrefl,if_false,decide_false,cond_false,wm]
  by_cases c2:c.state=7
  ·simp only[if_pos c2,show(c.state==7)=true by simp[c2],cond_true]
  simp only[if_neg c2,show(c.state==7)=false by simp[c2],cond_false]
  by_cases c3:c.tries=3
  ·simp only[if_pos c3,show(c.tries==3)=true by simp[c3],cond_true]
  simp only[if_neg c3,show(c.tries==3)=false by simp[c3],cond_false]
  have e5:=I7 ({c with s:=jc.f (c.s,()),timer:=0,tries:=c.tries+1}) (if c.window=0 then 1 else c.window) (by split<;>omega) hs
  simp only[e5]
theorem KT {T A W:Type}(p:T→Bool)(g:T→A):∀(r:List T) (j:Nat) (a:List A),dh (W:=W) (λ_ x (a:List A)=>bif p x then .next (a++[g x])else .next a) j r a= .next (a++(r.filter p).map g)
 |[],_,a=>by simp[dh]
 |x::r,j,a=>by
  cases h:p x<;>simp only[dh,h,cond_true,cond_false,Stp.elim,KT p g r,List.filter_cons,if_true,Bool.false_eq_true,if_false,List.map_cons,List.append_assoc,List.cons_append,List.nil_append]
def pq (xs:List Half):List Half:=(xs.filter (λh=>decide (h.age<6))).map (λh=>({h with age:=IntKind.wrap .i64 (h.age+1)}:Half))
theorem FW (xs:List Half):qr.f (xs,())=pq xs:=by
 simp only[PX,qr,gi]
 rw[aA,bu xs _ rfl (F:=λ_ x (a:List Half)=>bif decide (x.age<6)then .next (a++[({x with age:=IntKind.wrap .i64 (x.age+1)}:Half)])else .next a) (by
  intro j x a h
  simp only[PX,sQ,ac,getD_some h])]
 rw[KT (λx:Half=>decide (x.age<6)) (λx=>({x with age:=IntKind.wrap .i64 (x.age+1)}:Half))]
 rfl
theorem G6 (xs:List Half)(ha:∀y∈xs,y.age≤6)(hb:∀y∈xs,0≤y.age):qg.f (xs,())=pq xs:=by
 simp only[PX,qg,gh]
 rw[aA,bu xs _ rfl (F:=λ_ x (a:List Half)=>bif decide (x.age<6)then .next (a++[({x with age:=IntKind.wrap .i64 (x.age+1)}:Half)])else .next a) (by
  intro j x a h
  have h1:=ha x (lD h)
  have h2:=hb x (lD h)
  have h3:decide (IntKind.wrap .i64 (x.age+1)≤6)=decide (x.age<6):=by rw[aj (by omega) (by omega)];apply decide_eq_decide.2;omega
  simp only[PX,sr,ac,getD_some h,h3])]
 rw[KT (λx:Half=>decide (x.age<6)) (λx=>({x with age:=IntKind.wrap .i64 (x.age+1)}:Half))]
 rfl
theorem CG {T:Type}(p:T→Bool)(xs:List T){f:Int→Int×List T→Stp (Int×List T) Empty}(hf:∀(j k:Nat) (ys:List T) x,ys[j]? =some x→k≤j→j<xs.length→f (j:Int) ((k:Int),ys)=bif p x then .next ((k:Int),ys)else .next (((k+1:Nat):Int),ys.set k x)):
  ∀(n j k:Nat) (ys:List T),ys.length=xs.length→k≤j→j+n=xs.length→ys.take k=(xs.take j).filter (λx=> !p x)→ys.drop j=xs.drop j→∃(k':Nat) (zs:List T),aP f 1 n (j:Int) ((k:Int),ys)= .next ((k':Int),zs)∧zs.length=xs.length∧k'≤xs.length∧zs.take k'=xs.filter (λx=> !p x)
 |0,j,k,ys,hl,hk,hn,ht,hd=>⟨k,ys,rfl,hl,by omega,by rw[ht,List.take_of_length_le (by omega)]⟩
 |n+1,j,k,ys,hl,hk,hn,ht,hd=>by
  have hj:j<xs.length:=by omega
  have hy:ys[j]? =some xs[j]:=by
   have:(ys.drop j)[0]? =(xs.drop j)[0]? :=by rw[hd]
   simpa [List.getElem?_drop,hj]using this
  have e:(xs.take (j+1)).filter (λx=> !p x)=(xs.take j).filter (λx=> !p x)++(if p xs[j]=true then[]else[xs[j]]):=by
   rw[List.take_succ_eq_append_getElem hj,List.filter_append]
   congr 1
   cases hp:p xs[j]<;>simp[hp]
  have hd2:ys.drop (j+1)=xs.drop (j+1):=by
   rw[←List.drop_drop,←List.drop_drop,hd]
  simp only[aP,hf j k ys xs[j] hy hk hj]
  have c1:((j:Int)+1)=((j+1:Nat):Int):=by omega
  cases hp:p xs[j]with
  |true=>
   simp only[cond_true,Stp.elim]
   rw[c1]
   exact CG p xs hf n (j+1) k ys hl (by omega) (by omega) (by rw[e,hp,ht];simp) hd2
  |false=>
   simp only[cond_false,Stp.elim]
   rw[c1]
   refine CG p xs hf n (j+1) (k+1) (ys.set k xs[j]) (by rw[List.length_set];exact hl) (by omega) (by omega) ?_ ?_
   ·rw[e,hp,List.take_succ_eq_append_getElem (by rw[List.length_set];omega),List.take_set_of_le (Nat.le_refl _),ht]
    simp
   ·rw[List.drop_set_of_lt (by omega)];exact hd2
theorem BR (xs:List Tupl)(t:Tupl):gU.f (xs,t,())=xs.any (jx t):=by
 simp only[PX,gU,py,kD]
def kI (t:Tabl)(c:Conn):Bool:=bif c.state != 8 then true else t.waiting.any (jx c.tuple)
def lZ (t:Tabl)(x:Tupl):Bool:=decide (0≤ar.f (t,x,()))
def lM (t:Tabl):Tabl:=⟨t.conns.filter (kI t),t.waiting.filter (lZ t)⟩
theorem M6 {A B W:Type}(p:A→Bool)(mk:List A→B)(z:B)(get:B→List A)(hg:∀l,get (mk l)=l):∀(r:List A) (j:Nat) (l:List A),dh (W:=W) (λ_ x (a:B×B)=>bif p x then .next (z,mk (get a.2++[x]))else .next (z,mk (get a.2))) j r (z,mk l)= .next (z,mk (l++r.filter p))
 |[],_,l=>by simp[dh]
 |x::r,j,l=>by
  cases h:p x<;>simp only[dh,h,cond_true,cond_false,Stp.elim,hg,M6 p mk z get hg r,List.filter_cons,if_true,Bool.false_eq_true,if_false,List.append_assoc,List.cons_append,List.nil_append]
theorem BI (t:Tabl):zm.f (t,())=lM t:=by
 simp only[PX,zm,iD,iA]
 have h1:aP (λj a=>(vZ t j a).nice) 1 (Int.toNat ((t.conns.length:Int)-0)) 0 ((⟨[],[]⟩:Tabl),(⟨[],[]⟩:Tabl))= .next ((⟨[],[]⟩:Tabl),(⟨t.conns.filter (kI t),[]⟩:Tabl)):=by
  rw[aA,bu t.conns _ rfl (F:=λ_ x (a:Tabl×Tabl)=>bif kI t x then .next (⟨[],[]⟩,(⟨a.2.conns++[x],[]⟩:Tabl))else .next (⟨[],[]⟩,(⟨a.2.conns,[]⟩:Tabl))) (by
   intro j x a h
   simp only[PX,vZ,ac,getD_some h,vp,fw,kI]
   cases(x.state != 8)with
   |true=>rfl
   |false=>cases t.waiting.any (jx x.tuple)<;>rfl)]
  exact M6 (kI t) (λl=>(⟨l,[]⟩:Tabl)) ⟨[],[]⟩ Tabl.conns (λ_=>rfl) t.conns 0 []
 have h2:∀l:List Conn,aP (λj a=>(we t j a).nice) 1 (Int.toNat ((t.waiting.length:Int)-0)) 0 ((⟨[],[]⟩:Tabl),(⟨l,[]⟩:Tabl))= .next ((⟨[],[]⟩:Tabl),(⟨l,t.waiting.filter (lZ t)⟩:Tabl)):=by
  intro l
  rw[aA,bu t.waiting _ rfl (F:=λ_ x (a:Tabl×Tabl)=>bif lZ t x then .next (⟨[],[]⟩,(⟨a.2.conns,a.2.waiting++[x]⟩:Tabl))else .next (⟨[],[]⟩,a.2)) (by
   intro j x a h
   simp only[PX,we,ac,getD_some h,iy,lZ])]
  have:∀(r:List Tupl) (j:Nat) (l2:List Tupl),dh (W:=Empty) (λ_ x (a:Tabl×Tabl)=>bif lZ t x then .next (⟨[],[]⟩,(⟨a.2.conns,a.2.waiting++[x]⟩:Tabl))else .next (⟨[],[]⟩,a.2)) j r (⟨[],[]⟩,(⟨l,l2⟩:Tabl))= .next (⟨[],[]⟩,(⟨l,l2++r.filter (lZ t)⟩:Tabl)):=by
   intro r
   induction r with
   |nil=>intro j l2;simp[dh]
   |cons x r ih=>
    intro j l2
    cases h:lZ t x<;>simp only[dh,h,cond_true,cond_false,Stp.elim,ih,List.filter_cons,if_true,Bool.false_eq_true,if_false,List.append_assoc,List.cons_append,List.nil_append]
  exact this t.waiting 0 []
 simp only[h1,Stp.elim,PX,h2]
 rfl
theorem Mi {T:Type}(p:T→Bool)(xs:List T)(h:(dW p xs== -1)=true):xs.filter (λx=> !p x)=xs:=by
 unfold dW at h
 cases hf:xs.findIdx? p with
 |some i=>rw[hf]at h;simp at h
 |none=>
  rw[List.findIdx?_eq_none_iff]at hf
  rw[List.filter_eq_self];intro x hx;simp[hf x hx]
theorem M4 {T:Type}(p:T→Bool)(xs:List T)(h:(dW p xs== -1)=false):∃i:Nat,dW p xs=(i:Int)∧∃hi:i<xs.length,xs.take i=(xs.take (i+1)).filter (λx=> !p x):=by
 unfold dW at h⊢
 cases hf:xs.findIdx? p with
 |none=>rw[hf]at h;simp at h
 |some i=>
  obtain⟨h1,h2,h3⟩:=List.findIdx?_eq_some_iff_getElem.1 hf
  refine⟨i,rfl,h1, ?_⟩
  rw[List.take_succ_eq_append_getElem h1,List.filter_append]
  have e1:(xs.take i).filter (λx=> !p x)=xs.take i:=by
   rw[List.filter_eq_self]
   intro x hx
   obtain⟨j,hj,rfl⟩:=List.getElem_of_mem hx
   have hj2:j<i:=by rw[List.length_take]at hj;omega
   have:=h3 j hj2
   simp only[List.getElem_take]
   simp[this]
  have e2:[xs[i]].filter (λx=> !p x)=[]:=by simp[h2]
  rw[e1,e2,List.append_nil]
theorem aeH (xs:List Conn)(t:Tabl)(hl:xs.length≤4294967296):(cC.f (xs,t,())).2.take (cC.f (xs,t,())).1=xs.filter (kI t):=by
 have ep:∀x,tR.f (x,t,())= !kI t x:=by
  intro x
  simp only[PX,tR,BR,kI]
  by_cases h:x.state=8
  ·rw[show(x.state==8)=true by simp[h],show(x.state != 8)=false by simp[h]];rfl
  ·rw[show(x.state==8)=false by simp[h],show(x.state != 8)=true by simp[h]];rfl
 have en:∀l:List Conn,l.filter (kI t)=l.filter (λx=> !(!kI t x)):=λl=>by simp only[Bool.not_not]
 have ei:dg.f (xs,t,())=dW (λx=> !kI t x) xs:=by
  simp only[PX,dg,bo]
  rw[jh (λx=> !kI t x) xs (λj x a h=>by
   simp only[PX,fT,ac,getD_some h,ep])]
  unfold dW
  cases xs.findIdx? (λx=> !kI t x)<;>rfl
 simp only[PX,cC,aC,ei]
 rw[en]
 cases hf:(dW (λx=> !kI t x) xs== -1)with
 |true=>simp only[cond_true,List.take_length];exact(Mi _ _ hf).symm
 |false=>
  obtain⟨i,hi,hlt,ht⟩:=M4 _ _ hf
  simp only[hi,cond_false]
  rw[aj (by omega) (by omega)]
  obtain⟨k',zs,e,z1,z2,z3⟩:=CG (λx=> !kI t x) xs (f:=λj a=>(dR t j a).nice) (λj k ys x hx hk hj=>by
   simp only[PX,dR,ac,getD_some hx,ep]
   rw[aj (by omega) (by omega)]
   cases kI t x<;>rfl) (xs.length-(i+1)) (i+1) i xs rfl (by omega) (by omega) ht rfl
  rw[show Int.toNat ((xs.length:Int)-((i:Int)+1))=xs.length-(i+1) by omega]
  have e2:((i:Int)+1)=((i+1:Nat):Int):=by omega
  rw[e2,e]
  simp only[Stp.elim,PX]
  rw[←z3,List.append_assoc,List.take_append_of_le_length (by simp;omega)]
  simp
  rw[List.take_take,Nat.min_self]
theorem aez (xs:List Tupl)(t:Tabl)(hl:xs.length≤4294967296):(cg.f (xs,t,())).2.take (cg.f (xs,t,())).1=xs.filter (lZ t):=by
 have ep:∀x,tV.f (x,t,())= !lZ t x:=by
  intro x
  simp only[PX,tV,lZ]
  rw[←decide_not];apply decide_eq_decide.2;omega
 have en:∀l:List Tupl,l.filter (lZ t)=l.filter (λx=> !(!lZ t x)):=λl=>by simp only[Bool.not_not]
 have ei:cX.f (xs,t,())=dW (λx=> !lZ t x) xs:=by
  simp only[PX,cX,bi]
  rw[jh (λx=> !lZ t x) xs (λj x a h=>by
   simp only[PX,fM,ac,getD_some h,ep])]
  unfold dW
  cases xs.findIdx? (λx=> !lZ t x)<;>rfl
 simp only[PX,cg,ay,ei]
 rw[en]
 cases hf:(dW (λx=> !lZ t x) xs== -1)with
 |true=>simp only[cond_true,List.take_length];exact(Mi _ _ hf).symm
 |false=>
  obtain⟨i,hi,hlt,ht⟩:=M4 _ _ hf
  simp only[hi,cond_false]
  rw[aj (by omega) (by omega)]
  obtain⟨k',zs,e,z1,z2,z3⟩:=CG (λx=> !lZ t x) xs (f:=λj a=>(dG t j a).nice) (λj k ys x hx hk hj=>by
   simp only[PX,dG,ac,getD_some hx,ep]
   rw[aj (by omega) (by omega)]
   cases lZ t x<;>rfl) (xs.length-(i+1)) (i+1) i xs rfl (by omega) (by omega) ht rfl
  rw[show Int.toNat ((xs.length:Int)-((i:Int)+1))=xs.length-(i+1) by omega]
  have e2:((i:Int)+1)=((i+1:Nat):Int):=by omega
  rw[e2,e]
  simp only[Stp.elim,PX]
  rw[←z3,List.append_assoc,List.take_append_of_le_length (by simp;omega)]
  simp
  rw[List.take_take,Nat.min_self]
theorem BK (t:Tabl)(h1:t.conns.length≤4294967296)(h2:t.waiting.length≤4294967296):sD.f (t,())=lM t:=by
 simp only[PX,sD,iL,aeH _ _ h1,aez _ _ h2,lM]
theorem V9 (ip:Int)(xs:List Segm){f:Int→Door×List Mail→Stp (Door×List Mail) Empty}(hf:∀(j:Nat) x a,xs[j]? =some x→∃d,f (j:Int) a= .next (d,a.2++[(⟨ip,x⟩:Mail)])):
  ∀(n j:Nat) (d:Door) (l:List Mail),j+n=xs.length→∃d2,aP f 1 n (j:Int) (d,l)= .next (d2,l++(xs.drop j).map (λg=>(⟨ip,g⟩:Mail)))
 |0,j,d,l,h=>⟨d,by rw[List.drop_of_length_le (by omega)];simp[aP]⟩
 |n+1,j,d,l,h=>by
  have hj:j<xs.length:=by omega
  obtain⟨d1,e1⟩:=hf j xs[j] (d,l) (List.getElem?_eq_getElem hj)
  obtain⟨d2,e2⟩:=V9 ip xs hf n (j+1) d1 (l++[⟨ip,xs[j]⟩]) (by omega)
  refine⟨d2, ?_⟩
  simp only[aP,e1,Stp.elim]
  rw[show(j:Int)+1=((j+1:Nat):Int) by omega,e2,List.drop_eq_getElem_cons hj]
  simp only[List.map_cons,List.append_assoc,List.cons_append,List.nil_append]
def ec (xs:List Conn):List Conn:=xs.map (λc=>(TC c).1)
def Wg (xs:List Conn):List Mail:=xs.flatMap (λc=>(TC c).2.map (λg=>(⟨c.tuple.ip,g⟩:Mail)))
theorem Eg {E:Type}(out:Conn→List E)(xs:List Conn)(d:Door){f:Int→Door×Door×List E→Stp (Door×Door×List E) Empty}(hf:∀(j:Nat) x (a:Door×Door×List E),a.2.1.table.conns[j]? =some x→xs[j]? =some x→∃z,f (j:Int) a= .next (z,({a.2.1 with table.conns:=a.2.1.table.conns.set j (TC x).1}:Door),a.2.2++out x)):
  ∀(n j:Nat) (z:Door) (ys:List Conn) (l:List E),j+n=xs.length→ys.length=xs.length→ys.drop j=xs.drop j→ys.take j=ec (xs.take j)→∃z2,aP f 1 n (j:Int) (z,({d with table.conns:=ys}:Door),l)= .next (z2,({d with table.conns:=ec xs}:Door),l++(xs.drop j).flatMap out)
 |0,j,z,ys,l,h,hl,hd,ht=>⟨z,by
  rw[List.take_of_length_le (by omega),List.take_of_length_le (by omega)]at ht
  rw[List.drop_of_length_le (by omega),ht];simp[aP]⟩
 |n+1,j,z,ys,l,h,hl,hd,ht=>by
  have hj:j<xs.length:=by omega
  have hy:ys[j]? =some xs[j]:=by
   have:(ys.drop j)[0]? =(xs.drop j)[0]? :=by rw[hd]
   simpa [List.getElem?_drop,hj]using this
  obtain⟨z1,e1⟩:=hf j xs[j] (z,({d with table.conns:=ys}:Door),l) hy (List.getElem?_eq_getElem hj)
  have hd2:ys.drop (j+1)=xs.drop (j+1):=by
   rw[←List.drop_drop,←List.drop_drop,hd]
  obtain⟨z2,e2⟩:=Eg out xs d hf n (j+1) z1 (ys.set j (TC xs[j]).1) (l++out xs[j]) (by omega) (by rw[List.length_set];exact hl) (by rw[List.drop_set_of_lt (by omega)];exact hd2) (by
   rw[List.take_succ_eq_append_getElem (by rw[List.length_set];omega),List.take_set_of_le (Nat.le_refl _),ht,List.take_succ_eq_append_getElem hj]
   simp only[ec,List.map_append,List.map_cons,List.map_nil,List.getElem_set_self])
  refine⟨z2, ?_⟩
  simp only[aP,e1,Stp.elim]
  rw[show(j:Int)+1=((j+1:Nat):Int) by omega]
  refine e2.trans ?_
  rw[List.drop_eq_getElem_cons hj]
  simp only[List.flatMap_cons,List.append_assoc]
theorem Lu (d:Door)(hs:fV d):uY.f (d,())=bif bH.f (d,())then({d with clock:=cD.f (IntKind.wrap .i64 (d.clock+1),()),chal:=0,halves:=pq d.halves,table:=lM ⟨ec d.table.conns,d.table.waiting⟩},d.table.conns.flatMap (λc=>(TC c).2))else(d,[]):=by
 simp only[PX,uY,kh,BU d hs,FW,cf]
 cases bH.f (d,())with
 |false=>rfl
 |true=>
  simp only[Bool.not_true,cond_false,cond_true]
  obtain⟨z2,e⟩:=Eg (λc=>(TC c).2) d.table.conns ({d with clock:=cD.f (IntKind.wrap .i64 (d.clock+1),()),chal:=0,halves:=pq d.halves}:Door) (f:=λj a=>(pJ j a).nice) (λj x a h1 h2=>by
   simp only[PX,pJ,ac,getD_some h1,AG x (hs x (lD h2))]
   exact⟨_,rfl⟩) d.table.conns.length 0 (⟨0,0,⟨0,⟨false,0,0,[]⟩,⟨false,0,0,[]⟩,false⟩,⟨0,0,0,0⟩,[],⟨[],[]⟩,0⟩:Door) d.table.conns [] (by omega) rfl rfl rfl
  rw[aA]
  refine(congrArg (Stp.elim _ _) e).trans ?_
  simp only[Stp.elim,BI,List.nil_append,List.drop_zero]
theorem K6 (d:Door)(ha:∀y∈d.halves,y.age≤6)(hb:∀y∈d.halves,0≤y.age)(h1:d.table.conns.length≤4294967296)(h2:d.table.waiting.length≤4294967296)(hd:bH.f (d,())=true):vx.f (d,())=({d with clock:=bG.f (d.clock,1,()),chal:=0,halves:=pq d.halves,table:=lM ⟨ec d.table.conns,d.table.waiting⟩},Wg d.table.conns):=by
 simp only[PX,vx,jO,hd,G6 _ ha hb,eZ,Bool.not_true,cond_false]
 obtain⟨z2,e⟩:=Eg (λc=>(TC c).2.map (λg=>(⟨c.tuple.ip,g⟩:Mail))) d.table.conns ({d with clock:=bG.f (d.clock,1,()),chal:=0,halves:=pq d.halves}:Door) (f:=λj a=>(pH d.table.conns (d.table.conns.length:Int) j a).nice) (λj x a h1 h2=>by
  simp only[PX,pH,ac,getD_some h2,KY,dM]
  obtain⟨d2,e2⟩:=V9 x.tuple.ip (TC x).2 (f:=λk a=>(mT x (TC x).2 k a).nice) (λj y a h=>by
   simp only[PX,mT,ac,getD_some h]
   exact⟨_,rfl⟩) (TC x).2.length 0 ({a.1 with keys.now.rows:=[],keys.before.rows:=[],halves:=[],table.conns:=[],table.waiting:=[]}:Door) a.2.2 (by omega)
  rw[aA]
  exact⟨_,(congrArg (Stp.elim _ _) e2).trans rfl⟩) d.table.conns.length 0 (⟨0,0,⟨0,⟨false,0,0,[]⟩,⟨false,0,0,[]⟩,false⟩,⟨0,0,0,0⟩,[],⟨[],[]⟩,0⟩:Door) d.table.conns [] (by omega) rfl rfl rfl
 rw[aA]
 refine(congrArg (Stp.elim _ _) e).trans ?_
 simp only[Stp.elim,List.nil_append,List.drop_zero]
 rw[BK ⟨ec d.table.conns,d.table.waiting⟩ (by simp only[ec,List.length_map];exact h1) h2]
 rfl
theorem De (a b:Tupl):jx a b=true↔a=b:=by
 obtain⟨a1,a2,a3⟩:=a
 obtain⟨b1,b2,b3⟩:=b
 simp only[jx,Bool.and_true,Bool.and_eq_true,beq_iff_eq,Tupl.mk.injEq]
 constructor<;>rintro⟨rfl,rfl,rfl⟩<;>exact⟨rfl,rfl,rfl⟩
theorem vj {T:Type}(f:T→Tupl)(xs:List T)(t:Tupl):xs.any (λh=>jx t (f h))=true↔t∈xs.map f:=by
 simp only[List.any_eq_true,List.mem_map,De]
 constructor
 ·rintro⟨x,h1,h2⟩;exact⟨x,h1,h2.symm⟩
 ·rintro⟨x,h1,h2⟩;exact⟨x,h1,h2.symm⟩
theorem yZ {T:Type}(f:T→Tupl)(xs:List T):(∀(j:Nat) (y:T),xs[j]? =some y→(xs.take j).any (λh=>jx (f y) (f h))=false)↔(xs.map f).Nodup:=by
 unfold List.Nodup
 rw[List.pairwise_iff_getElem]
 constructor
 ·intro h i j hi hj hij he
  rw[List.length_map]at hi hj
  simp only[List.getElem_map]at he
  have:=h j xs[j] (List.getElem?_eq_getElem hj)
  rw[List.any_eq_false]at this
  refine this xs[i] ?_ ((De _ _).2 he.symm)
  rw[List.mem_take_iff_getElem]
  exact⟨i,by omega,rfl⟩
 ·intro h j y hy
  rw[List.any_eq_false]
  intro z hz he
  rw[List.mem_take_iff_getElem]at hz
  obtain⟨i,hi,rfl⟩:=hz
  obtain⟨hj,rfl⟩:=List.getElem?_eq_some_iff.1 hy
  have:=h i j (by rw[List.length_map];omega) (by rw[List.length_map];exact hj) (by omega)
  simp only[List.getElem_map]at this
  exact this ((De _ _).1 he).symm
structure LO (l:Limi):Prop where
 h1:1≤l.halves
 h2:l.halves≤64
 w1:1≤l.waiting
 w2:l.waiting≤16
 c1:1≤l.conns
 c2:l.conns≤16
 k0:0≤l.chal
 k1:l.chal≤1000
theorem ac6 (l:Limi):fQ.f (l,())=true↔LO l:=by
 simp only[PX,fQ,aq]
 have e:(bif decide (1≤l.halves)&&decide (l.halves≤64)then bif decide (1≤l.waiting)&&decide (l.waiting≤16)then bif decide (1≤l.conns)&&decide (l.conns≤16)then decide (0≤l.chal)&&decide (l.chal≤1000)else false else false else false)=((decide (1≤l.halves)&&decide (l.halves≤64))&&((decide (1≤l.waiting)&&decide (l.waiting≤16))&&((decide (1≤l.conns)&&decide (l.conns≤16))&&(decide (0≤l.chal)&&decide (l.chal≤1000))))):=by
  cases(decide (1≤l.halves)&&decide (l.halves≤64))<;>cases(decide (1≤l.waiting)&&decide (l.waiting≤16))<;>cases(decide (1≤l.conns)&&decide (l.conns≤16))<;>simp
 rw[e]
 simp only[Bool.and_eq_true,decide_eq_true_eq]
 constructor
 ·rintro⟨⟨h1,h2⟩,⟨h3,h4⟩,⟨h5,h6⟩,h7,h8⟩;exact⟨h1,h2,h3,h4,h5,h6,h7,h8⟩
 ·rintro⟨h1,h2,h3,h4,h5,h6,h7,h8⟩;exact⟨⟨h1,h2⟩,⟨h3,h4⟩,⟨h5,h6⟩,h7,h8⟩
structure TO (t:Tabl)(l:Limi):Prop where
 lim:LO l
 nc:(t.conns.length:Int)≤l.conns
 nw:(t.waiting.length:Int)≤l.waiting
 co:∀c∈t.conns,CO c
 dc:(t.conns.map Conn.tuple).Nodup
 dw:t.waiting.Nodup
 wc:∀w∈t.waiting,w∈t.conns.map Conn.tuple
theorem u5 {T:Type}{P:T→Prop}{xs:List T}:(∀(j:Nat) (y:T),xs[j]? =some y→P y)↔∀y∈xs,P y:=by
 constructor
 ·intro h y hy
  obtain⟨j,hj,rfl⟩:=List.getElem_of_mem hy
  exact h j _ (List.getElem?_eq_getElem hj)
 ·intro h j y hy;exact h y (lD hy)
theorem KB {T W:Type}{f:Int→Unit→Stp Unit W}(xs:List T){P:Nat→T→Prop}(h:∀(j:Nat) (y:T),xs[j]? =some y→(f (j:Int) ()= .next ()↔P j y)):aP f 1 (Int.toNat ((xs.length:Int)-0)) 0 ()= .next ()↔∀(j:Nat) (y:T),xs[j]? =some y→P j y:=by
 rw[aA,show(0:Int)=((0:Nat):Int) from rfl,zQ]
 constructor
 ·intro h1 j y hy
  exact(h j y hy).1 (h1 j (Nat.zero_le _) (by have:=(List.getElem?_eq_some_iff.1 hy).1;omega))
 ·intro h1 j _ h2
  exact(h j xs[j] (List.getElem?_eq_getElem (by omega))).2 (h1 j _ (List.getElem?_eq_getElem (by omega)))
theorem Pb (t:Tabl)(l:Limi):cH.f (t,l,())=true↔TO t l:=by
 have f1:=KB t.conns (f:=λj a=>(eL t.conns t j a).nice) (P:=λj y=>CO y∧(t.conns.take j).any (λh=>jx y.tuple h.tuple)=false) (λj y hy=>by
  simp only[PX,eL,ac,getD_some hy,eJ]
  rw[Df (λh:Conn=>jx y.tuple h.tuple) t.conns j y hy (o9 _),←pC]
  cases aI.f (y,())<;>cases(t.conns.take j).any (λh=>jx y.tuple h.tuple)<;>simp)
 have f2:=KB t.waiting (f:=λj a=>(eI t.waiting t j a).nice) (P:=λj y=>y∈t.conns.map Conn.tuple∧(t.waiting.take j).any (λh=>jx y h)=false) (λj y hy=>by
  simp only[PX,eI,ac,getD_some hy,eJ,py,abB]
  rw[Df (jx y) t.waiting j y hy (o9 _),←vj]
  cases t.conns.any (λh=>jx y h.tuple)<;>cases(t.waiting.take j).any (λh=>jx y h)<;>simp)
 have f3:=yZ Conn.tuple t.conns
 have f4:=yZ (λx=>x) t.waiting
 rw[List.map_id']at f4
 have f5:aP (λj a=>(eL t.conns t j a).nice) 1 (Int.toNat ((t.conns.length:Int)-0)) 0 ()= .next ()↔(∀c∈t.conns,CO c)∧(t.conns.map Conn.tuple).Nodup:=by
  rw[f1,←f3,←u5]
  exact⟨λh=>⟨λj y hy=>(h j y hy).1,λj y hy=>(h j y hy).2⟩,λh j y hy=>⟨h.1 j y hy,h.2 j y hy⟩⟩
 have f6:aP (λj a=>(eI t.waiting t j a).nice) 1 (Int.toNat ((t.waiting.length:Int)-0)) 0 ()= .next ()↔(∀w∈t.waiting,w∈t.conns.map Conn.tuple)∧t.waiting.Nodup:=by
  rw[f2,←f4,←u5]
  exact⟨λh=>⟨λj y hy=>(h j y hy).1,λj y hy=>(h j y hy).2⟩,λh j y hy=>⟨h.1 j y hy,h.2 j y hy⟩⟩
 have e:cH.f (t,l,())=true↔fQ.f (l,())=true∧(t.conns.length:Int)≤l.conns∧(t.waiting.length:Int)≤l.waiting∧aP (λj a=>(eL t.conns t j a).nice) 1 (Int.toNat ((t.conns.length:Int)-0)) 0 ()= .next ()∧aP (λj a=>(eI t.waiting t j a).nice) 1 (Int.toNat ((t.waiting.length:Int)-0)) 0 ()= .next ():=by
  simp only[PX,cH,fR,fD]
  rw[show((t.conns.length:Int)≤l.conns)↔decide (l.conns<(t.conns.length:Int))=false by simp,show((t.waiting.length:Int)≤l.waiting)↔decide (l.waiting<(t.waiting.length:Int))=false by simp]
  cases fQ.f (l,())<;>cases decide (l.conns<(t.conns.length:Int))<;>cases decide (l.waiting<(t.waiting.length:Int))<;>cases aP (λj a=>(eL t.conns t j a).nice) 1 (Int.toNat ((t.conns.length:Int)-0)) 0 ()<;>cases aP (λj a=>(eI t.waiting t j a).nice) 1 (Int.toNat ((t.waiting.length:Int)-0)) 0 ()<;>simp[Stp.elim]
 rw[e,ac6,f5,f6]
 constructor
 ·rintro⟨h1,h2,h3,⟨h4,h5⟩,h6,h7⟩;exact⟨h1,h2,h3,h4,h5,h7,h6⟩
 ·rintro⟨h1,h2,h3,h4,h5,h7,h6⟩;exact⟨h1,h2,h3,⟨h4,h5⟩,h6,h7⟩
structure HO (xs:List Half):Prop where
 ok:∀h∈xs,rH h=true
 nd:(xs.map Half.tuple).Nodup
 len:xs.length≤64
theorem ZZ (xs:List Half):fa.f (xs,())=true↔HO xs:=by
 rw[OJ]
 have f3:=yZ Half.tuple xs
 constructor
 ·rintro⟨h1,h2⟩
  exact⟨u5.1 λj y hy=>(h1 j y hy).1,f3.1 λj y hy=>(h1 j y hy).2,h2⟩
 ·rintro⟨h1,h2,h3⟩
  exact⟨λj y hy=>⟨h1 y (lD hy),f3.2 h2 j y hy⟩,h3⟩
structure DO (d:Door):Prop where
 port:af.f (d.port,16,())=true
 c0:0≤d.clock
 c1:d.clock≤4294967295
 keys:dZ.f (d.keys,())=true
 tab:TO d.table d.limits
 hal:HO d.halves
 nh:(d.halves.length:Int)≤d.limits.halves
 k0:0≤d.chal
 k1:d.chal≤d.limits.chal
 ap:∀h∈d.halves,h.tuple∉d.table.conns.map Conn.tuple
theorem iG (d:Door):bH.f (d,())=true↔DO d:=by
 have e:bH.f (d,())=true↔af.f (d.port,16,())=true∧af.f (d.clock,32,())=true∧dZ.f (d.keys,())=true∧cH.f (d.table,d.limits,())=true∧fa.f (d.halves,())=true∧(d.halves.length:Int)≤d.limits.halves∧(decide (0≤d.chal)&&decide (d.chal≤d.limits.chal))=true∧(d.halves.any (λh=>decide (0≤ar.f (d.table,h.tuple,()))))=false:=by
  simp only[PX,bH,Km,aq]
  rw[show((d.halves.length:Int)≤d.limits.halves)↔decide (d.limits.halves<(d.halves.length:Int))=false by simp]
  generalize(decide (0≤d.chal)&&decide (d.chal≤d.limits.chal))=b1
  generalize decide (d.limits.halves<(d.halves.length:Int))=b2
  generalize(d.halves.any (λh=>decide (0≤ar.f (d.table,h.tuple,()))))=b3
  cases af.f (d.port,16,())<;>cases af.f (d.clock,32,())<;>cases dZ.f (d.keys,())<;>cases cH.f (d.table,d.limits,())<;>cases fa.f (d.halves,())<;>cases b1<;>cases b2<;>cases b3<;>simp
 rw[e,Pb,ZZ,bO]
 simp only[Bool.and_eq_true,decide_eq_true_eq,eJ,kD]
 have f:(d.halves.any λh=>d.table.conns.any λc=>jx h.tuple c.tuple)=false↔∀h∈d.halves,h.tuple∉d.table.conns.map Conn.tuple:=by
  rw[List.any_eq_false]
  constructor
  ·intro h x hx hm;exact h x hx ((vj Conn.tuple _ _).2 hm)
  ·intro h x hx hm;exact h x hx ((vj Conn.tuple _ _).1 hm)
 rw[f]
 constructor
 ·rintro⟨h1,⟨h2,h2'⟩,h3,h4,h5,h6,⟨h7,h8⟩,h9⟩;exact⟨h1,h2,h2',h3,h4,h5,h6,h7,h8,h9⟩
 ·rintro⟨h1,h2,h2',h3,h4,h5,h6,h7,h8,h9⟩;exact⟨h1,⟨h2,h2'⟩,h3,h4,h5,h6,⟨h7,h8⟩,h9⟩
def md (x:Recv):Int:=if x.done=true then 0 else 32-(x.data.length:Int)
theorem mE (x:Recv)(h:x.data.length≤32):0≤md x∧md x≤32:=by unfold md;split<;>omega
structure RV (x:Recv):Prop where
 n0:0≤x.next
 n1:x.next≤4294967295
 dl:x.data.length≤32
 hl:x.held.length≤3
 f0: -1≤x.fin
 f1:x.fin≤md x
 fz:x.fin≠0
 wk:∃b,eb (if x.fin= -1 then md x else x.fin) 0 x.held=some b
 dn:x.done=true→x.held=[]∧x.fin= -1
theorem f9 (x:Recv)(h:x.data.length≤32):bp.f (x,())=md x:=by
 simp only[PX,bp]
 unfold md
 rw[aj (by omega) (by omega)]
 cases x.done with
 |true=>rfl
 |false=>simp only[cond_false,Bool.false_eq_true,if_false];split<;>omega
theorem lN (x:Recv)(hs:aX x.held):bg.f (x,())=true↔RV x:=by
 simp only[PX,bg,eQ,bO]
 by_cases hn:0≤x.next∧x.next≤4294967295
 ·rw[decide_eq_true hn.1,decide_eq_true hn.2]
  by_cases hd:32<(x.data.length:Int)
  ·rw[decide_eq_true hd]
   exact⟨λh=>(by cases h),λh=>by have:=h.dl;omega⟩
  ·rw[decide_eq_false hd,f9 x (by omega)]
   have hw:=mE x (by omega)
   simp only[Bool.and_self,Bool.not_true,cond_false]
   by_cases hl:3<(x.held.length:Int)
   ·rw[decide_eq_true hl]
    exact⟨λh=>(by cases h),λh=>by have:=h.hl;omega⟩
   ·rw[decide_eq_false hl,aq]
    simp only[cond_false]
    by_cases hf: -1≤x.fin∧x.fin≤md x
    ·rw[decide_eq_true hf.1,decide_eq_true hf.2]
     simp only[Bool.and_self,Bool.not_true,cond_false]
     by_cases h0:x.fin=0
     ·rw[show(x.fin==0)=true by simp[h0]]
      exact⟨λh=>(by cases h),λh=>absurd h0 h.fz⟩
     ·rw[show(x.fin==0)=false by simp[h0]]
      simp only[cond_false]
      have ed:(bif !x.done then true else bif ((x.held.length:Int)==0)then(x.fin== -1)else false)=true↔(x.done=true→x.held=[]∧x.fin= -1):=by
       cases x.done with
       |false=>simp
       |true=>
        cases hh:x.held with
        |nil=>simp
        |cons p r=>
         have:(((p::r).length:Int)==0)=false:=by
          rw[beq_eq_false_iff_ne];simp only[List.length_cons];omega
         rw[this];simp
      have k2:=TN x (if x.fin= -1 then md x else x.fin) (by split<;>omega) (by split<;>omega) hs
      have fin:∀L:Int,L=(if x.fin= -1 then md x else x.fin)→(Stp.elim (λ_=>bif !x.done then true else bif ((x.held.length:Int)==0)then(x.fin== -1)else false) (λ_=>false) (aP (λj a=>(dN L x.held j a).nice) 1 (Int.toNat ((x.held.length:Int)-0)) 0 0)=true↔RV x):=by
       intro L hL
       rw[hL]
       cases hp:eb (if x.fin= -1 then md x else x.fin) 0 x.held with
       |some b=>
        rw[hp]at k2;simp only[]at k2
        rw[k2]
        simp only[Stp.elim]
        rw[ed]
        exact⟨λh=>⟨hn.1,hn.2,by omega,by omega,hf.1,hf.2,h0,⟨b,hp⟩,h⟩,λh=>h.dn⟩
       |none=>
        rw[hp]at k2;obtain⟨w,k2⟩:=k2
        rw[k2]
        simp only[Stp.elim]
        refine⟨λh=>(by cases h),λh=> ?_⟩
        obtain⟨b,hb⟩:=h.wk
        rw[hp]at hb;cases hb
      by_cases h1:x.fin= -1
      ·rw[show(x.fin != -1)=false by simp[h1]]
       exact fin (md x) (by rw[if_pos h1])
      ·rw[show(x.fin != -1)=true by simp[h1]]
       exact fin x.fin (by rw[if_neg h1])
    ·have:(decide (-1≤x.fin)&&decide (x.fin≤md x))=false:=by
      rw[Bool.and_eq_false_iff];simp only[decide_eq_false_iff_not];omega
     rw[this]
     exact⟨λh=>(by cases h),λh=>absurd ⟨h.f0,h.f1⟩ hf⟩
 ·have:(decide (0≤x.next)&&decide (x.next≤4294967295))=false:=by
   rw[Bool.and_eq_false_iff];simp only[decide_eq_false_iff_not];omega
  rw[this]
  exact⟨λh=>(by cases h),λh=>absurd ⟨h.n0,h.n1⟩ hn⟩
theorem CO.set {c:Conn}(h:CO c)(k t r:Int)(hk:k=c.state∨k=8)(t0:0≤t)(t4:t≤4)(t3:k≠7→t≤3)(r0:0≤r)(r3:r≤3):CO ({c with state:=k,timer:=t,tries:=r}:Conn):=by
 have h1:=h.s1
 have h8:=h.s8
 refine⟨h.tup,h.snd,h.rcv,h.opt, ?_, ?_,h.m0,h.m1,h.w0,h.w1,t0,t4,t3,r0,r3, ?_⟩
 ·show 1≤k;omega
 ·show k≤8;omega
 ·show WJ k c.s.fin c.s.done c.r.done=true
  rcases hk with rfl|rfl
  ·exact h.fl
  ·rfl
theorem KJ (x:Sndr)(h:SO x):jc.f (x,())={x with sent:=0,finSent:=false}:=by
 simp only[PX,jc,(xP x).2 h,Bool.not_true,cond_false]
theorem aak {x:Sndr}(h:SO x):SO ({x with sent:=0,finSent:=false}:Sndr):=by
 obtain⟨h1,h2,h3,h4,h5,h6,h7⟩:=h
 exact⟨h1,h2,h3,Int.le_refl _,by show(0:Int)≤_;omega,λh=>(by cases h),λhd=>⟨(h7 hd).1,rfl,(h7 hd).2.2⟩⟩
theorem acF (c:Conn)(h:CO c):CO (TC c).1∧(TC c).1.tuple=c.tuple∧(TC c).1.r=c.r:=by
 have hr:=El h
 have h7:c.state≠7→kH c≤3:=by
  intro hn;have:=h.t3 hn
  unfold kH;rw[if_neg hn];split<;>omega
 have r0:=h.r0
 have r3:=h.r3
 unfold TC
 by_cases hw:mH.f (c,())=true
 ·rw[if_pos hw]
  by_cases c1:0<kH c-1
  ·rw[if_pos c1]
   exact⟨CO.set h c.state (kH c-1) c.tries (.inl rfl) (by omega) (by omega) (λhn=>by have:=h7 hn;omega) r0 r3,rfl,rfl⟩
  ·rw[if_neg c1]
   by_cases c2:c.state=7
   ·rw[if_pos c2]
    exact⟨CO.set h 8 0 0 (.inr rfl) (by omega) (by omega) (λ_=>by omega) (by omega) (by omega),rfl,rfl⟩
   ·rw[if_neg c2]
    by_cases c3:c.tries=3
    ·rw[if_pos c3]
     exact⟨CO.set h 8 0 0 (.inr rfl) (by omega) (by omega) (λ_=>by omega) (by omega) (by omega),rfl,rfl⟩
    ·rw[if_neg c3]
     have hc':CO ({c with s:=jc.f (c.s,()),timer:=0,tries:=c.tries+1}:Conn):=by
      rw[KJ c.s h.snd]
      exact⟨h.tup,aak h.snd,h.rcv,h.opt,h.s1,h.s8,h.m0,h.m1,h.w0,h.w1,Int.le_refl _,by show(0:Int)≤4;omega,λ_=>by show(0:Int)≤3;omega,by show 0≤c.tries+1;omega,by show c.tries+1≤3;omega,h.fl⟩
     have hS:=EX _ (if c.window=0 then 1 else c.window) hc'.snd
     have hp:=Sent.ok hS hc' (.inl (by
      rcases hS.tm with e|e
      ·rw[e];show(0:Int)≤3;omega
      ·rw[e];omega))
     refine⟨CO.set hp _ 3 _ (.inl rfl) (by omega) (by omega) (λ_=>by omega) hp.r0 hp.r3, ?_, ?_⟩
     ·have e:=congrArg Conn.tuple hS.re;exact e
     ·have e:=congrArg Conn.r hS.re;exact e
 ·rw[if_neg hw,if_pos ((pC c).2 h)]
  exact⟨CO.set h c.state 0 0 (.inl rfl) (by omega) (by omega) (λ_=>by omega) (by omega) (by omega),rfl,rfl⟩
theorem abL (xs:List Half)(h:HO xs):HO (pq xs):=by
 refine⟨?_, ?_, ?_⟩
 ·intro y hy
  unfold pq at hy
  rw[List.mem_map]at hy
  obtain⟨x,hx,rfl⟩:=hy
  rw[List.mem_filter]at hx
  have h1:=h.ok x hx.1
  have h2:x.age<6:=by simpa using hx.2
  unfold rH at h1⊢
  simp only[Bool.and_eq_true,decide_eq_true_eq]at h1⊢
  obtain⟨a1,a2,a3,a4,a5,a6,a7⟩:=h1
  rw[aj (by omega) (by omega)]
  exact⟨a1,a2,a3,a4,a5,by omega,by omega⟩
 ·have e:(pq xs).map Half.tuple=(xs.filter (λh=>decide (h.age<6))).map Half.tuple:=by
   unfold pq;rw[List.map_map];rfl
  rw[e]
  exact List.Nodup.sublist (List.Sublist.map _ (List.filter_sublist)) h.nd
 ·unfold pq
  rw[List.length_map]
  have:=List.length_filter_le (λh:Half=>decide (h.age<6)) xs
  have:=h.len
  omega
theorem FK (xs:List Conn)(h:∀c∈xs,CO c):(ec xs).map Conn.tuple=xs.map Conn.tuple:=by
 unfold ec
 rw[List.map_map]
 apply List.map_congr_left
 intro c hc
 exact(acF c (h c hc)).2.1
theorem abu (t:Tabl)(l:Limi)(h:TO t l):TO (lM ⟨ec t.conns,t.waiting⟩) l:=by
 have hm:=FK t.conns h.co
 have hl:(ec t.conns).length=t.conns.length:=by unfold ec;rw[List.length_map]
 refine⟨h.lim, ?_, ?_, ?_, ?_, ?_, ?_⟩
 ·have:=List.length_filter_le (kI ⟨ec t.conns,t.waiting⟩) (ec t.conns)
  have h2:=h.nc
  show((List.filter _ _).length:Int)≤_
  simp only[]at this⊢;omega
 ·have:=List.length_filter_le (lZ ⟨ec t.conns,t.waiting⟩) t.waiting
  have h2:=h.nw
  show((List.filter _ _).length:Int)≤_
  simp only[]at this⊢;omega
 ·intro c hc
  have hc1:c∈ec t.conns:=(List.mem_filter.1 hc).1
  unfold ec at hc1
  rw[List.mem_map]at hc1
  obtain⟨x,hx,rfl⟩:=hc1
  exact(acF x (h.co x hx)).1
 ·refine List.Nodup.sublist (List.Sublist.map _ (List.filter_sublist)) ?_
  show((ec t.conns).map Conn.tuple).Nodup
  rw[hm];exact h.dc
 ·exact List.Nodup.sublist (List.filter_sublist) h.dw
 ·intro w hw
  have hw1:w∈t.waiting:=(List.mem_filter.1 hw).1
  have hw2:=h.wc w hw1
  rw[←hm,List.mem_map]at hw2
  obtain⟨c,hc,rfl⟩:=hw2
  rw[List.mem_map]
  refine⟨c,List.mem_filter.2 ⟨hc, ?_⟩,rfl⟩
  unfold kI
  have:t.waiting.any (jx c.tuple)=true:=by
   rw[List.any_eq_true];exact⟨_,hw1,o9 _⟩
  simp only[this]
  cases(c.state != 8)<;>rfl
theorem abN (d:Door)(h:DO d):DO ({d with clock:=bG.f (d.clock,1,()),chal:=0,halves:=pq d.halves,table:=lM ⟨ec d.table.conns,d.table.waiting⟩}:Door):=by
 have k0:=h.k0
 have k1:=h.k1
 have hm:=FK d.table.conns h.tab.co
 refine⟨h.port, ?_, ?_,h.keys,abu _ _ h.tab,abL _ h.hal, ?_,Int.le_refl _, ?_, ?_⟩
 ·show 0≤bG.f (d.clock,1,());rw[bz];omega
 ·show bG.f (d.clock,1,())≤4294967295;rw[bz];omega
 ·show((pq d.halves).length:Int)≤d.limits.halves
  unfold pq
  rw[List.length_map]
  have:=List.length_filter_le (λh:Half=>decide (h.age<6)) d.halves
  have:=h.nh
  omega
 ·show 0≤d.limits.chal;omega
 ·intro y hy hm2
  have hy2:∃x∈d.halves,x.tuple=y.tuple:=by
   have hy1:y∈pq d.halves:=hy
   unfold pq at hy1
   rw[List.mem_map]at hy1
   obtain⟨x,hx,rfl⟩:=hy1
   exact⟨x,(List.mem_filter.1 hx).1,rfl⟩
  obtain⟨x,hx,e⟩:=hy2
  refine h.ap x hx ?_
  rw[e,←hm]
  exact(List.Sublist.map Conn.tuple (List.filter_sublist (p:=kI ⟨ec d.table.conns,d.table.waiting⟩))).subset hm2
theorem IA {h:Half}(hh:rH h=true):0≤h.age∧h.age≤6:=by
 unfold rH at hh
 simp only[Bool.and_eq_true,decide_eq_true_eq]at hh
 exact hh.2.2.2.2.2
def sk (p:Piec):Int:=p.off+(p.text.length:Int)
def K8:List Piec→Int→List Int→List Piec
 |out,_,[]=>out
 |out,i,s::r=>if s<0 then K8 out (i+1) r else
  match out.getLast? with
  |none=>K8 (out++[⟨i,aF [s]⟩]) (i+1) r
  |some p=>if sk p=i then K8 (out.dropLast++[⟨p.off,p.text++aF [s]⟩]) (i+1) r else K8 (out++[⟨i,aF [s]⟩]) (i+1) r
def cF:Nat→Int→List Int→List Piec
 |_,_,[]=>[]
 |0,_,_::_=>[]
 |k+1,i,s::r=>if s<0 then cF k (i+1) r else
  ⟨i,aF (s::r.takeWhile (λx=>decide (0≤x)))⟩::cF k (i+1+((r.takeWhile (λx=>decide (0≤x))).length:Int)) (r.dropWhile (λx=>decide (0≤x)))
theorem Fy (a b:List Int):aF (a++b)=aF a++aF b:=by simp[aF]
theorem Wa (out:List Piec)(o:Int)(x:ae):∀(t r:List Int) (x:ae),(∀s∈t,0≤s)→K8 (out++[⟨o,x⟩]) (o+(x.length:Int)) (t++r)=K8 (out++[⟨o,x++aF t⟩]) (o+(x.length:Int)+(t.length:Int)) r
 |[],r,x,_=>by simp[aF]
 |s::t,r,x,h=>by
  have hs:¬s<0:=by have:=h s (List.mem_cons_self ..);omega
  have ih:=Wa out o x t r (x++aF [s]) (λy hy=>h y (List.mem_cons_of_mem _ hy))
  simp only[List.cons_append,K8,if_neg hs,List.getLast?_append,List.getLast?_singleton,Option.some_or,sk,if_true,List.dropLast_concat]
  have e:o+(x.length:Int)+1=o+((x++aF [s]).length:Int):=by rw[List.length_append,bq];simp;omega
  rw[e,ih]
  rw[List.append_assoc,←Fy]
  congr 1
  rw[List.length_append,bq];simp;omega
theorem Ix:∀(k:Nat) (out:List Piec) (i:Int) (r:List Int),r.length≤k→(∀p,out.getLast? =some p→sk p<i)→K8 out i r=out++cF k i r
 |_,out,i,[],_,_=>by simp[K8,cF]
 |0,_,_,_::_,h,_=>by simp at h
 |k+1,out,i,s::r,h,hl=>by
  simp only[List.length_cons]at h
  by_cases hs:s<0
  ·simp only[K8,cF,if_pos hs]
   exact Ix k out (i+1) r (by omega) (λp hp=>by have:=hl p hp;omega)
  ·have e0:K8 out i (s::r)=K8 (out++[⟨i,aF [s]⟩]) (i+1) r:=by
    simp only[K8,if_neg hs]
    cases hg:out.getLast? with
    |none=>rfl
    |some p=>simp only[if_neg (show¬sk p=i by have:=hl p hg;omega)]
   simp only[cF,if_neg hs]
   rw[e0]
   have hr:r=r.takeWhile (λx=>decide (0≤x))++r.dropWhile (λx=>decide (0≤x)):=(List.takeWhile_append_dropWhile).symm
   have hrun:=Wa out i (aF [s]) (r.takeWhile (λx=>decide (0≤x))) (r.dropWhile (λx=>decide (0≤x))) (aF [s]) (λy hy=>by
    have:=List.all_eq_true.1 (List.all_takeWhile (p:=λx:Int=>decide (0≤x)) (l:=r)) y hy;simpa using this)
   rw[←hr,show((aF [s]).length:Int)=1 by simp[bq]]at hrun
   rw[hrun,←Fy,List.singleton_append]
   generalize hT:r.takeWhile (λx=>decide (0≤x))=T at*
   generalize hD:r.dropWhile (λx=>decide (0≤x))=D at*
   have hDl:D.length≤k:=by
    have:=congrArg List.length hr
    rw[List.length_append]at this;omega
   cases D with
   |nil=>simp[K8,cF]
   |cons d D=>
    have hd:d<0:=by
     have:=List.head?_dropWhile_not (λx=>decide (0≤x)) r
     rw[hD]at this
     simp at this;omega
    cases k with
    |zero=>simp at hDl
    |succ k=>
     simp only[K8,cF,if_pos hd]
     simp only[List.length_cons]at hDl
     rw[Ix k _ _ D (by omega) (λp hp=>by
      simp only[List.getLast?_append,List.getLast?_singleton,Option.some_or,Option.some.injEq]at hp
      subst hp
      simp only[sk,bq,List.length_cons]
      omega)]
     simp
theorem tg {p:Int→Bool}:∀(r:List Int) (j:Nat),j<(r.takeWhile p).length→∃s,r[j]? =some s∧p s=true
 |[],j,h=>by simp at h
 |s::r,j,h=>by
  cases hp:p s with
  |false=>simp[List.takeWhile_cons,hp]at h
  |true=>
   cases j with
   |zero=>exact⟨s,rfl,hp⟩
   |succ j=>
    simp only[List.takeWhile_cons,hp,if_true,List.length_cons]at h
    obtain⟨t,h1,h2⟩:=tg (p:=p) r j (by omega)
    exact⟨t,by simpa using h1,h2⟩
theorem D0 (L:Int):∀(k:Nat) (i:Int) (r:List Int) (a:Int),r.length≤k→a<i→(∀(p:Nat) (s:Int),r[p]? =some s→0≤s→i+(p:Int)+1≤L)→∃b,eb L a (cF k i r)=some b
 |0,_,[],a,_,_,_=>⟨a,by simp[cF,eb]⟩
 |_+1,_,[],a,_,_,_=>⟨a,by simp[cF,eb]⟩
 |0,_,_::_,_,h,_,_=>by simp at h
 |k+1,i,s::r,a,h,ha,hL=>by
  simp only[List.length_cons]at h
  by_cases hs:s<0
  ·simp only[cF,if_pos hs]
   exact D0 L k (i+1) r a (by omega) (by omega) (λp t hp ht=>by
    have:=hL (p+1) t (by simpa using hp) ht;omega)
  ·simp only[cF,if_neg hs,eb]
   generalize hT:r.takeWhile (λx=>decide (0≤x))=T at*
   have hn:(aF (s::T)==[])=false:=by rw[beq_eq_false_iff_ne];simp[aF]
   have hend:i+((aF (s::T)).length:Int)≤L:=by
    rw[bq,List.length_cons]
    rcases Nat.eq_zero_or_pos T.length with h0|h0
    ·have:=hL 0 s rfl (by omega);omega
    ·obtain⟨t,h1,h2⟩:=tg (p:=λx:Int=>decide (0≤x)) r (T.length-1) (by rw[hT];omega)
     have:=hL (T.length-1+1) t (by simpa using h1) (by simpa using h2)
     omega
   rw[hn,decide_eq_false (show¬i≤a by omega),decide_eq_false (show¬L<i+((aF (s::T)).length:Int) by omega)]
   simp only[Bool.or_false,cond_false]
   have hr:r=T++r.dropWhile (λx=>decide (0≤x)):=by rw[←hT];exact(List.takeWhile_append_dropWhile).symm
   generalize hD:r.dropWhile (λx=>decide (0≤x))=D at*
   have hDl:D.length≤k:=by
    have:=congrArg List.length hr
    rw[List.length_append]at this;omega
   cases D with
   |nil=>exact⟨_,by simp[cF,eb];rfl⟩
   |cons d D=>
    have hd:d<0:=by
     have:=List.head?_dropWhile_not (λx=>decide (0≤x)) r
     rw[hD]at this
     simp at this;omega
    cases k with
    |zero=>simp at hDl
    |succ k=>
     simp only[cF,if_pos hd]
     simp only[List.length_cons]at hDl
     rw[bq,List.length_cons]
     exact D0 L k _ D _ (by omega) (by omega) (λp t hp ht=>by
      have:=hL (1+T.length+(p+1)) t (by
       rw[hr,show 1+T.length+(p+1)=(T.length+(p+1))+1 by omega,List.getElem?_cons_succ,List.getElem?_append_right (by omega),show T.length+(p+1)-T.length=p+1 by omega]
       simpa using hp) ht
      omega)
theorem KF:∀(k:Nat) (i:Int) (r:List Int),(∀s∈r,s<0)→cF k i r=[]
 |0,_,[],_=>by simp[cF]
 |0,_,_::_,_=>by simp[cF]
 |_+1,_,[],_=>by simp[cF]
 |k+1,i,s::r,h=>by
  simp only[cF,if_pos (h s (List.mem_cons_self ..))]
  exact KF k (i+1) r (λt ht=>h t (List.mem_cons_of_mem _ ht))
def aE (sl:List Int):Nat:=(sl.takeWhile (λx=>decide (0≤x))).length
theorem sN (sl:List Int)(j:Nat)(h:j<aE sl):∃s,sl[j]? =some s∧0≤s:=by
 obtain⟨s,h1,h2⟩:=tg (p:=λx:Int=>decide (0≤x)) sl j h
 exact⟨s,h1,by simpa using h2⟩
theorem D8 (sl:List Int)(s:Int)(h:sl[aE sl]? =some s):s<0:=by
 unfold aE at h
 have e:sl=sl.takeWhile (λx=>decide (0≤x))++sl.dropWhile (λx=>decide (0≤x)):=(List.takeWhile_append_dropWhile).symm
 have h2:(sl.dropWhile (λx=>decide (0≤x)))[0]? =some s:=by
  have h3:=h
  rw[e,List.getElem?_append_right (by rw[←e];exact Nat.le_refl _)]at h3
  rw[←e,Nat.sub_self]at h3
  exact h3
 have:=List.head?_dropWhile_not (λx:Int=>decide (0≤x)) sl
 rw[List.head?_eq_getElem?,h2]at this
 simp at this;omega
def Sw (x:Recv)(sl:List Int)(F:Int):Recv:=
 if 3<(cF 33 0 (sl.drop (aE sl))).length then x
 else if F-(aE sl:Int)=0 then⟨(x.next+(aE sl:Int)+1)%4294967296,x.data++aF (sl.take (aE sl)),cF 33 0 (sl.drop (aE sl)),-1,true⟩
 else⟨(x.next+(aE sl:Int))%4294967296,x.data++aF (sl.take (aE sl)),cF 33 0 (sl.drop (aE sl)),if F= -1 then-1 else F-(aE sl:Int),x.done⟩
theorem We (x:Recv)(sl:List Int)(F:Int)(hx:RV x)(hd:x.done=false)(hl:sl.length=33)(h0: -1≤F)(hF:F≤md x)(hz:∀(k:Nat) (s:Int),sl[k]? =some s→0≤s→(k:Int)<(if F= -1 then md x else F)):RV (Sw x sl F):=by
 have hw:md x=32-(x.data.length:Int):=by unfold md;rw[hd];rfl
 have hdl:=hx.dl
 have hn:(aE sl:Int)≤(if F= -1 then md x else F):=by
  rcases Nat.eq_zero_or_pos (aE sl)with h|h
  ·rw[h];split<;>omega
  ·obtain⟨s,h1,h2⟩:=sN sl (aE sl-1) (by omega)
   have:=hz _ s h1 h2
   omega
 have hn2:(aE sl:Int)≤md x:=by split at hn<;>omega
 have htk:(sl.take (aE sl)).length=aE sl:=by rw[List.length_take];omega
 have hdd:∀(p:Nat) (s:Int),(sl.drop (aE sl))[p]? =some s→0≤s→(p:Int)+1≤(if F= -1 then md x else F)-(aE sl:Int)∧0<p:=by
  intro p s hp hs
  rw[List.getElem?_drop]at hp
  have h1:=hz _ s hp hs
  refine⟨by omega, ?_⟩
  rcases Nat.eq_zero_or_pos p with h|h
  ·subst h
   have:=D8 sl s (by simpa using hp)
   omega
  ·exact h
 have hwk:∃b,eb ((if F= -1 then md x else F)-(aE sl:Int)) 0 (cF 33 0 (sl.drop (aE sl)))=some b:=by
  cases hD:sl.drop (aE sl)with
  |nil=>exact⟨0,by simp[cF,eb]⟩
  |cons d D=>
   have hd0:d<0:=by
    apply Int.not_le.1
    intro h
    have:=(hdd 0 d (by rw[hD];rfl) h).2
    omega
   have hDl:D.length≤32:=by
    have:=congrArg List.length hD
    rw[List.length_drop,List.length_cons]at this;omega
   show∃b,eb _ 0 (cF (32+1) 0 (d::D))=some b
   simp only[cF,if_pos hd0]
   exact D0 _ 32 (0+1) D 0 hDl (by omega) (λp s hp hs=>by
    have:=(hdd (p+1) s (by rw[hD];simpa using hp) hs).1
    omega)
 unfold Sw
 by_cases h3:3<(cF 33 0 (sl.drop (aE sl))).length
 ·rw[if_pos h3];exact hx
 ·rw[if_neg h3]
  by_cases h4:F-(aE sl:Int)=0
  ·rw[if_pos h4]
   have hne:∀s∈sl.drop (aE sl),s<0:=by
    intro s hs
    obtain⟨p,hp,rfl⟩:=List.getElem_of_mem hs
    apply Int.not_le.1
    intro h
    have:=(hdd p _ (List.getElem?_eq_getElem hp) h).1
    have hm1:F≠-1:=by omega
    rw[if_neg hm1]at this
    omega
   rw[KF _ _ _ hne]
   refine⟨by show 0≤(x.next+(aE sl:Int)+1)%4294967296;omega,by show(x.next+(aE sl:Int)+1)%4294967296≤4294967295;omega, ?_,Nat.zero_le _,Int.le_refl _, ?_,by show(-1:Int)≠0;omega,⟨0,by simp[eb]⟩,λ_=>⟨rfl,rfl⟩⟩
   ·show(x.data++aF (sl.take (aE sl))).length≤32
    rw[List.length_append,bq,htk];omega
   ·show(-1:Int)≤md _
    unfold md;rw[if_pos rfl];omega
  ·rw[if_neg h4]
   have hlen:(x.data++aF (sl.take (aE sl))).length=x.data.length+aE sl:=by rw[List.length_append,bq,htk]
   have hwin:∀(nx:Int) (hh:List Piec) (f:Int),md ⟨nx,x.data++aF (sl.take (aE sl)),hh,f,x.done⟩=md x-(aE sl:Int):=by
    intro nx hh f
    unfold md
    simp only[hd,Bool.false_eq_true,if_false,hlen]
    omega
   refine⟨by show 0≤(x.next+(aE sl:Int))%4294967296;omega,by show(x.next+(aE sl:Int))%4294967296≤4294967295;omega,by show(x.data++aF (sl.take (aE sl))).length≤32;omega,by show(cF 33 0 (sl.drop (aE sl))).length≤3;omega, ?_, ?_, ?_, ?_,λh=>by rw[show({next:=(x.next+(aE sl:Int))%4294967296,data:=x.data++aF (sl.take (aE sl)),held:=cF 33 0 (sl.drop (aE sl)),fin:=if F= -1 then-1 else F-(aE sl:Int),done:=x.done}:Recv).done=x.done from rfl,hd]at h;cases h⟩
   ·show-1≤(if F= -1 then-1 else F-(aE sl:Int))
    split
    ·omega
    ·rename_i hm;rw[if_neg hm]at hn;omega
   ·show(if F= -1 then-1 else F-(aE sl:Int))≤md _
    rw[hwin]
    split<;>omega
   ·show(if F= -1 then-1 else F-(aE sl:Int))≠0
    split<;>omega
   ·show∃b,eb (if(if F= -1 then-1 else F-(aE sl:Int))= -1 then md _ else(if F= -1 then-1 else F-(aE sl:Int))) 0 (cF 33 0 (sl.drop (aE sl)))=some b
    rw[hwin]
    by_cases hm:F= -1
    ·simp only[if_pos hm]at hwk⊢
     exact hwk
    ·rw[if_neg hm]at hn
     simp only[if_neg hm]at hwk⊢
     rw[if_neg (show¬F-(aE sl:Int)= -1 by omega)]
     exact hwk
def rC:List Int→Nat→ae→List Int
 |sl,_,[]=>sl
 |sl,o,b::t=>rC (sl.set o (b.toNat:Int)) (o+1) t
theorem KP:∀(t:ae) (sl:List Int) (o:Nat),(rC sl o t).length=sl.length
 |[],_,_=>rfl
 |_::t,sl,o=>by simp only[rC,KP t,List.length_set]
def oj (held:List Piec):List Int:=held.foldl (λsl p=>rC sl p.off.toNat p.text) (List.replicate 33 (-1))
theorem i2 (t:ae)(k:Nat)(hk:k<t.length):ah t k=(t[k].toNat:Int):=by
 simp[ah,List.getD,hk]
theorem pP (b:UInt8):(b.toNat:Int)≤255:=by have:=b.toNat_lt;omega
theorem Wn (p:Piec)(h1:1≤p.off)(h2:p.off+(p.text.length:Int)≤32){f:Int×List Int→Stp (Int×List Int) (List Int)}(hf:∀(k:Nat) sl,f ((k:Int),sl)=bif decide ((k:Int)<(p.text.length:Int))then .next (IntKind.wrap .i64 ((k:Int)+1),sl.set (IntKind.wrap .i64 (p.off+(k:Int))).toNat (IntKind.wrap .i64 (ah p.text k)))else .out sl):∀(n k:Nat) (sl:List Int),k+n=p.text.length→bZ f (n+1) ((k:Int),sl)=rC sl (p.off.toNat+k) (p.text.drop k)
 |0,k,sl,h=>by
  simp only[bZ,hf,decide_eq_false (show¬(k:Int)<(p.text.length:Int) by omega),cond_false,Stp.elim]
  rw[List.drop_of_length_le (by omega)]
  rfl
 |n+1,k,sl,h=>by
  have hk:k<p.text.length:=by omega
  rw[bZ]
  simp only[hf,decide_eq_true (show(k:Int)<(p.text.length:Int) by omega),cond_true,Stp.elim]
  rw[aj (m:=p.off+(k:Int)) (by omega) (by omega),aj (m:=(k:Int)+1) (by omega) (by omega),i2 _ _ hk,aj (by omega) (by have:=pP p.text[k];omega)]
  rw[show(k:Int)+1=((k+1:Nat):Int) by omega,show(p.off+(k:Int)).toNat=p.off.toNat+k by omega]
  rw[Wn p h1 h2 hf n (k+1) _ (by omega),List.drop_eq_getElem_cons hk]
  rfl
theorem T1 (x:Recv)(h:cT po x.held):uV.f (x,())=oj x.held:=by
 have e0:aP (λj a=>(wV j a).nice) 1 (Int.toNat (((List.replicate 33 (0:Int)).length:Int)-0)) 0 (List.replicate 33 (0:Int))= .next (List.replicate 33 (-1)):=by rfl
 simp only[PX,uV,ce,ff]
 rw[e0]
 simp only[Stp.elim]
 rw[aA,bu x.held _ rfl (F:=λ_ p (a:List Int)=> .next (rC a p.off.toNat p.text)) (by
  intro j p a hp
  have hpo:=h p (lD hp)
  unfold po at hpo
  have:=Wn p hpo.1 hpo.2 (f:=λa=>(mB (j:Int) x a).nice) (λk sl=>by
   simp only[mB,PX,ac,getD_some hp]) p.text.length 0 a (by omega)
  simp only[PX,wH,dS,ac,getD_some hp]
  rw[show Int.toNat ((p.text.length:Int)-0)=p.text.length by omega]
  exact congrArg Stp.next this)]
 have:∀(r:List Piec) (j:Nat) (a:List Int),dh (W:=Empty) (λ_ p (a:List Int)=> .next (rC a p.off.toNat p.text)) j r a= .next (r.foldl (λsl p=>rC sl p.off.toNat p.text) a):=by
  intro r
  induction r with
  |nil=>intro j a;rfl
  |cons p r ih=>intro j a;simp only[dh,Stp.elim,ih,List.foldl_cons]
 rw[this]
 simp only[Stp.elim]
 rfl
theorem acn {m:Int}(h0:0≤m)(h1:m≤255):IntKind.wrap .u8 m=m:=by
 rw[qA];omega
def Bn (x:Recv)(seq w:Int)(sl:List Int)(j:Nat)(b:UInt8):List Int:=
 if(seq+(j:Int)-x.next)%4294967296<w∧(x.fin<0∨(seq+(j:Int)-x.next)%4294967296<x.fin)∧sl.getD ((seq+(j:Int)-x.next)%4294967296).toNat 0<0 then sl.set ((seq+(j:Int)-x.next)%4294967296).toNat (b.toNat:Int)else sl
def Ao (x:Recv)(seq w:Int):List Int→Nat→ae→List Int
 |sl,_,[]=>sl
 |sl,j,b::t=>Ao x seq w (Bn x seq w sl j b) (j+1) t
theorem aaF (x:Recv)(seq w:Int)(sl:List Int)(j:Nat)(b:UInt8):(Bn x seq w sl j b).length=sl.length:=by
 unfold Bn;split<;>simp
theorem RD (x:Recv)(seq w:Int):∀(t:ae) (sl:List Int) (j:Nat),(Ao x seq w sl j t).length=sl.length
 |[],_,_=>rfl
 |b::t,sl,j=>by simp only[Ao,RD x seq w t,aaF]
theorem V8 (a n:Int):((a%4294967296)-n)%4294967296=(a-n)%4294967296:=by omega
theorem Mn {A W:Type}(z:A→A)(g:List Int→Nat→UInt8→List Int):∀(t:ae) (j:Nat) (r:A) (sl:List Int),∃r2,dh (W:=W) (λj b (a:A×List Int)=> .next (z a.1,g a.2 j b)) j t (r,sl)= .next (r2,(t.foldl (λ(p:List Int×Nat) b=>(g p.1 p.2 b,p.2+1)) (sl,j)).1)
 |[],j,r,sl=>⟨r,rfl⟩
 |b::t,j,r,sl=>by
  obtain⟨r2,e⟩:=Mn z g t (j+1) (z r) (g sl j b)
  refine⟨r2, ?_⟩
  simp only[dh,Stp.elim,List.foldl_cons]
  exact e
theorem L8 (x:Recv)(seq w:Int):∀(t:ae) (sl:List Int) (j:Nat),(t.foldl (λ(p:List Int×Nat) b=>(Bn x seq w p.1 p.2 b,p.2+1)) (sl,j)).1=Ao x seq w sl j t
 |[],_,_=>rfl
 |b::t,sl,j=>by simp only[List.foldl_cons,Ao,L8 x seq w t]
theorem aeg (x:Recv)(seq w:Int)(t:ae)(hn:0≤x.next∧x.next≤4294967295)(ht:t.length≤4294967296)(r:Recv)(sl:List Int):∃r2,aP (λj a=>(rp seq t w x j a).nice) 1 (Int.toNat ((t.length:Int)-0)) 0 (r,sl)= .next (r2,Ao x seq w sl 0 t):=by
 obtain⟨r2,e⟩:=Mn (W:=Empty) (λr:Recv=>({r with held:=[]}:Recv)) (Bn x seq w) t 0 r sl
 refine⟨r2, ?_⟩
 rw[aA,bu t _ rfl (F:=λj b (a:Recv×List Int)=> .next (({a.1 with held:=[]}:Recv),Bn x seq w a.2 j b)) (by
  intro j b a hb
  have hbt:ah t j=(b.toNat:Int):=by simp[ah,List.getD,hb]
  have hb8:=pP b
  have e1:(IntKind.wrap .i64 ((seq+(j:Int))%4294967296-x.next))%4294967296=(seq+(j:Int)-x.next)%4294967296:=by
   rw[aj (by omega) (by omega),V8]
  simp only[PX,rp,iZ,bz,l0,ac,hbt,e1]
  rw[aj (by omega) (by omega)]
  unfold Bn
  generalize(seq+(j:Int)-x.next)%4294967296=o
  by_cases c1:o<w
  ·by_cases c2:x.fin<0
   ·by_cases c3:a.2.getD o.toNat 0<0
    ·simp only[decide_eq_true c1,decide_eq_true c2,decide_eq_true c3,cond_true,if_pos (show o<w∧(x.fin<0∨o<x.fin)∧a.2.getD o.toNat 0<0 from⟨c1,.inl c2,c3⟩)]
    ·simp only[decide_eq_true c1,decide_eq_true c2,decide_eq_false c3,cond_true,cond_false,if_neg (show¬(o<w∧(x.fin<0∨o<x.fin)∧a.2.getD o.toNat 0<0) from λh=>c3 h.2.2)]
   ·by_cases c4:o<x.fin
    ·by_cases c3:a.2.getD o.toNat 0<0
     ·simp only[decide_eq_true c1,decide_eq_false c2,decide_eq_true c4,decide_eq_true c3,cond_true,cond_false,if_pos (show o<w∧(x.fin<0∨o<x.fin)∧a.2.getD o.toNat 0<0 from⟨c1,.inr c4,c3⟩)]
     ·simp only[decide_eq_true c1,decide_eq_false c2,decide_eq_true c4,decide_eq_false c3,cond_true,cond_false,if_neg (show¬(o<w∧(x.fin<0∨o<x.fin)∧a.2.getD o.toNat 0<0) from λh=>c3 h.2.2)]
    ·simp only[decide_eq_true c1,decide_eq_false c2,decide_eq_false c4,cond_true,cond_false,if_neg (show¬(o<w∧(x.fin<0∨o<x.fin)∧a.2.getD o.toNat 0<0) from λh=>h.2.1.elim c2 c4)]
  ·simp only[decide_eq_false c1,cond_false,if_neg (show¬(o<w∧(x.fin<0∨o<x.fin)∧a.2.getD o.toNat 0<0) from λh=>c1 h.1)])]
 rw[e,L8]
theorem YV (sl:List Int)(e:Nat)(he:e≤sl.length):uy.f (sl,(e:Int),())=(sl.drop e).all (λs=>decide (s<0)):=by
 have key:∀(n j:Nat),j+n=sl.length→aP (λj a=>(nj sl j a).nice) 1 n (j:Int) ()=bif (sl.drop j).all (λs=>decide (s<0))then .next ()else .out ():=by
  intro n
  induction n with
  |zero=>intro j h;rw[List.drop_of_length_le (by omega)];rfl
  |succ n ih=>
   intro j h
   have hj:j<sl.length:=by omega
   have ih:=ih (j+1) (by omega)
   rw[List.drop_eq_getElem_cons hj,List.all_cons]
   simp only[nj,PX]at ih
   simp only[aP,nj,PX,ac,getD_some (List.getElem?_eq_getElem hj)]
   by_cases h0:0≤sl[j]
   ·rw[decide_eq_true h0,decide_eq_false (show¬sl[j]<0 by omega)];rfl
   ·rw[decide_eq_false h0,decide_eq_true (show sl[j]<0 by omega)]
    simp only[cond_false,Stp.elim,Bool.true_and]
    rw[show(j:Int)+1=((j+1:Nat):Int) by omega]
    exact ih
 simp only[PX,uy,nl]
 rw[show Int.toNat ((sl.length:Int)-(e:Int))=sl.length-e by omega,key _ _ (by omega)]
 cases(sl.drop e).all (λs=>decide (s<0))<;>rfl
theorem Zq (sl:List Int)(hr:∀s∈sl,s≤255)(hl:aE sl<sl.length):∀(n j:Nat) (r:Recv),j+n=aE sl→aP (λj a=>(j6 sl j a).nice) 1 (sl.length-j) (j:Int) (r,sl.take j)= .out ((aE sl:Int),({r with held:=[]}:Recv),sl.take (aE sl))
 |0,j,r,h=>by
  have hj:j=aE sl:=by omega
  subst hj
  have hg:=List.getElem?_eq_getElem hl
  have h0:=D8 sl _ hg
  rw[show sl.length-aE sl=(sl.length-aE sl-1)+1 by omega]
  simp only[aP,j6,PX,ac,getD_some hg,decide_eq_false (show¬0≤sl[aE sl] by omega),cond_false,Stp.elim]
 |n+1,j,r,h=>by
  obtain⟨s,hs1,pU⟩:=sN sl j (by omega)
  have hj:j<sl.length:=by omega
  have ih:=Zq sl hr hl n (j+1) ({r with held:=[]}:Recv) (by omega)
  have hs3:=hr s (lD hs1)
  rw[show sl.length-j=(sl.length-(j+1))+1 by omega]
  rw[List.take_succ_eq_append_getElem hj]at ih
  have he:sl[j]=s:=by rw[List.getElem?_eq_getElem hj]at hs1;exact Option.some.inj hs1
  rw[he]at ih
  simp only[j6,PX]at ih
  simp only[aP,j6,PX,ac,getD_some hs1,decide_eq_true pU,cond_true,Stp.elim]
  rw[acn pU hs3,show(j:Int)+1=((j+1:Nat):Int) by omega]
  exact ih
theorem abo (x:Recv)(seq w:Int)(sl:List Int)(j:Nat)(b:UInt8)(k:Nat)(s:Int)(h:(Bn x seq w sl j b)[k]? =some s):sl[k]? =some s∨(s=(b.toNat:Int)∧(k:Int)<w∧(x.fin<0∨(k:Int)<x.fin)):=by
 unfold Bn at h
 generalize ho:(seq+(j:Int)-x.next)%4294967296=o at h
 have h0:0≤o:=by omega
 split at h
 ·rename_i hc
  rw[List.getElem?_set]at h
  split at h
  ·rename_i hk
   split at h
   ·refine .inr ⟨(Option.some.inj h).symm,by omega, ?_⟩
    rcases hc.2.1 with h2|h2
    ·exact .inl h2
    ·exact .inr (by omega)
   ·cases h
  ·exact .inl h
 ·exact .inl h
theorem Wv (x:Recv)(seq w:Int):∀(t:ae) (sl:List Int) (j:Nat) (k:Nat) (s:Int),(Ao x seq w sl j t)[k]? =some s→sl[k]? =some s∨(0≤s∧s≤255∧(k:Int)<w∧(x.fin<0∨(k:Int)<x.fin))
 |[],_,_,_,_,h=> .inl h
 |b::t,sl,j,k,s,h=>by
  rcases Wv x seq w t _ (j+1) k s h with h1|h1
  ·rcases abo x seq w sl j b k s h1 with h2|⟨h2,h3,h4⟩
   ·exact .inl h2
   ·exact .inr ⟨by omega,by have:=pP b;omega,h3,h4⟩
  ·exact .inr h1
theorem WC:∀(t:ae) (sl:List Int) (o k:Nat) (s:Int),(rC sl o t)[k]? =some s→sl[k]? =some s∨(0≤s∧s≤255∧o≤k∧k<o+t.length)
 |[],_,_,_,_,h=> .inl h
 |b::t,sl,o,k,s,h=>by
  simp only[rC]at h
  rcases WC t _ (o+1) k s h with h1|⟨h1,h2,h3,h4⟩
  ·rw[List.getElem?_set]at h1
   split at h1
   ·rename_i hk
    split at h1
    ·have e:=(Option.some.inj h1).symm
     exact .inr ⟨by omega,by have:=pP b;omega,by omega,by simp only[List.length_cons];omega⟩
    ·cases h1
   ·exact .inl h1
  ·exact .inr ⟨h1,h2,by omega,by simp only[List.length_cons];omega⟩
theorem Qk (L:Int):∀(held:List Piec) (a b:Int) (sl:List Int),0≤a→eb L a held=some b→a≤L→∀(k:Nat) (s:Int),(held.foldl (λsl p=>rC sl p.off.toNat p.text) sl)[k]? =some s→sl[k]? =some s∨(0≤s∧s≤255∧(k:Int)<L)
 |[],_,_,_,_,_,_,_,_,h=> .inl h
 |p::r,a,b,sl,h0,hw,ha,k,s,h=>by
  simp only[eb]at hw
  cases hc:((p.text==[])||decide (p.off≤a)||decide (L<p.off+(p.text.length:Int)))with
  |true=>rw[hc]at hw;cases hw
  |false=>
   rw[hc]at hw
   simp only[Bool.or_eq_false_iff,decide_eq_false_iff_not]at hc
   simp only[List.foldl_cons]at h
   rcases Qk L r _ b _ (by omega) hw (by omega) k s h with h1|h1
   ·rcases WC p.text sl p.off.toNat k s h1 with h2|⟨h2,h3,h4,h5⟩
    ·exact .inl h2
    ·exact .inr ⟨h2,h3,by omega⟩
   ·exact .inr h1
theorem rT:∀(held:List Piec) (sl:List Int),(held.foldl (λsl p=>rC sl p.off.toNat p.text) sl).length=sl.length
 |[],_=>rfl
 |p::r,sl=>by simp only[List.foldl_cons,rT r,KP]
theorem IT (x:Recv)(hx:RV x)(seq:Int)(t:ae):(Ao x seq (md x) (oj x.held) 0 t).length=33∧∀(k:Nat) (s:Int),(Ao x seq (md x) (oj x.held) 0 t)[k]? =some s→-1≤s∧s≤255∧(0≤s→(k:Int)<(if x.fin= -1 then md x else x.fin)):=by
 have hw:=mE x hx.dl
 have hf0:=hx.f0
 have hf1:=hx.f1
 have hfz:=hx.fz
 refine⟨by rw[RD];unfold oj;rw[rT];rfl,λk s h=> ?_⟩
 rcases Wv x seq (md x) t _ 0 k s h with h1|⟨h1,h2,h3,h4⟩
 ·obtain⟨b,hb⟩:=hx.wk
  unfold oj at h1
  rcases Qk _ x.held 0 b _ (Int.le_refl _) hb (by split<;>omega) k s h1 with h2|⟨h2,h3,h4⟩
  ·have:s= -1:=by
    have hm:=List.mem_of_getElem? h2
    exact List.eq_of_mem_replicate hm
   omega
  ·exact⟨by omega,h3,λ_=>h4⟩
 ·refine⟨by omega,h2,λ_=> ?_⟩
  split
  ·exact h3
  ·rcases h4 with h5|h5<;>omega
theorem RS (sl:List Int)(hr:∀s∈sl,s≤255)(hl:sl.length=33)(n:Nat):∀(m j:Nat) (a:List Piec),n≤j→j+m=33→a.length≤33→(∀p,a.getLast? =some p→0≤p.off∧sk p≤(j:Int)-(n:Int))→a.length+m≤33→aP (λj a=>(cp sl (n:Int) j a).nice) 1 m (j:Int) a= .next (K8 a ((j:Int)-(n:Int)) (sl.drop j))
 |0,j,a,h1,h2,_,_,_=>by rw[List.drop_of_length_le (by omega)];simp only[aP,K8]
 |m+1,j,a,h1,h2,h3,h4,h5=>by
  have hj:j<sl.length:=by omega
  have hs:=List.getElem?_eq_getElem hj
  have hs8:=hr _ (lD hs)
  rw[List.drop_eq_getElem_cons hj]
  generalize sl[j]=s at hs hs8⊢
  have ej:(j:Int)+1=((j+1:Nat):Int):=by omega
  have en:(j:Int)-(n:Int)+1=((j+1:Nat):Int)-(n:Int):=by omega
  by_cases h0:s<0
  ·have ih:=RS sl hr hl n m (j+1) a (by omega) (by omega) h3 (λp hp=>by have:=h4 p hp;omega) (by omega)
   simp only[PX,cp]at ih
   simp only[aP,PX,cp,ac,getD_some hs,decide_eq_true h0,cond_true,Stp.elim,K8,if_pos h0]
   rw[ej,en]
   exact ih
  ·have hw8:IntKind.wrap .u8 s=s:=acn (by omega) hs8
   rcases List.eq_nil_or_concat a with rfl|⟨b,p,rfl⟩
   ·have ih:=RS sl hr hl n m (j+1) [⟨(j:Int)-(n:Int),aF [s]⟩] (by omega) (by omega) (by simp) (λp hp=>by
     simp only[List.getLast?_singleton,Option.some.injEq]at hp
     subst hp
     simp only[sk,bq,List.length_singleton];omega) (by simp;omega)
    simp only[PX,cp]at ih
    have e0:decide (0<(([]:List Piec).length:Int))=false:=by simp
    simp only[aP,PX,cp,ac,getD_some hs,decide_eq_false h0,cond_false,Stp.elim,K8,if_neg h0,e0,List.getLast?_nil,hw8,List.nil_append]
    rw[ej,en,aj (m:=(j:Int)-(n:Int)) (by omega) (by omega)]
    exact ih
   ·simp only[List.concat_eq_append]at*
    have hp:=h4 p (by simp)
    have hbl:(b++[p]).length=b.length+1:=by simp
    have e0:decide (0<((b++[p]).length:Int))=true:=by rw[decide_eq_true_iff,hbl];omega
    have e1:(IntKind.wrap .i64 (((b++[p]).length:Int)-1)).toNat=b.length:=by rw[hbl,aj (by omega) (by omega)];omega
    have e2:(b++[p]).getD b.length (Ty.zero .piec)=p:=by simp[List.getD]
    have e3:∀q,(b++[p]).set b.length q=b++[q]:=λq=>by simp
    have hoff:=hp.1
    have hend:=hp.2
    unfold sk at hend
    by_cases he:sk p=(j:Int)-(n:Int)
    ·have ih:=RS sl hr hl n m (j+1) (b++[⟨p.off,p.text++aF [s]⟩]) (by omega) (by omega) (by simp at h3⊢;omega) (λq hq=>by
      simp only[List.getLast?_append,List.getLast?_singleton,Option.some_or,Option.some.injEq]at hq
      subst hq
      unfold sk at he
      simp only[sk,List.length_append,bq,List.length_singleton];omega) (by simp at h5⊢;omega)
     simp only[PX,cp]at ih
     have e4:(IntKind.wrap .i64 (p.off+(p.text.length:Int))==IntKind.wrap .i64 ((j:Int)-(n:Int)))=true:=by
      unfold sk at he
      rw[he];exact beq_self_eq_true _
     simp only[aP,PX,cp,ac,getD_some hs,decide_eq_false h0,cond_false,Stp.elim,K8,if_neg h0,e0,e1,e2,e3,e4,cond_true,hw8,List.getLast?_append,List.getLast?_singleton,Option.some_or,if_pos he,List.dropLast_concat]
     rw[ej,en]
     exact ih
    ·have ih:=RS sl hr hl n m (j+1) (b++[p]++[⟨(j:Int)-(n:Int),aF [s]⟩]) (by omega) (by omega) (by simp at h3 h5⊢;omega) (λq hq=>by
      simp only[List.getLast?_append,List.getLast?_singleton,Option.some_or,Option.some.injEq]at hq
      subst hq
      simp only[sk,bq,List.length_singleton];omega) (by simp at h5⊢;omega)
     simp only[PX,cp]at ih
     have e4:(IntKind.wrap .i64 (p.off+(p.text.length:Int))==IntKind.wrap .i64 ((j:Int)-(n:Int)))=false:=by
      unfold sk at he
      rw[aj (by omega) (by omega),aj (by omega) (by omega),beq_eq_false_iff_ne];exact he
     simp only[aP,PX,cp,ac,getD_some hs,decide_eq_false h0,cond_false,Stp.elim,K8,if_neg h0,e0,e1,e2,e4,cond_true,hw8,List.getLast?_append,List.getLast?_singleton,Option.some_or,if_neg he]
     rw[ej,en,aj (m:=(j:Int)-(n:Int)) (by omega) (by omega)]
     exact ih
theorem FS (sl:List Int)(hr:∀s∈sl,s≤255)(hl:sl.length=33)(n:Nat)(hn:n≤33):pf.f (sl,(n:Int),())=cF 33 0 (sl.drop n):=by
 simp only[PX,pf,gO]
 rw[show Int.toNat ((sl.length:Int)-(n:Int))=33-n by omega]
 rw[RS sl hr hl n (33-n) n [] (Nat.le_refl _) (by omega) (by simp) (λp hp=>by simp at hp) (by simp)]
 simp only[Stp.elim]
 rw[Int.sub_self,Ix 33 [] 0 (sl.drop n) (by rw[List.length_drop];omega) (λp hp=>by simp at hp)]
 rfl
def Kh (x:Recv)(sl:List Int)(e:Int)(fin:Bool):Int:=if fin=true∧x.fin<0∧e≤md x∧(sl.drop e.toNat).all (λs=>decide (s<0))=true then e else x.fin
def JC (x:Recv)(seq:Int)(t:ae):List Int:=Ao x seq (md x) (oj x.held) 0 t
def mA (x:Recv)(seq:Int)(t:ae)(fin:Bool):Recv:=
 if bg.f (x,())=true∧x.done=false then Sw x (JC x seq t) (Kh x (JC x seq t) ((seq+(t.length:Int)-x.next)%4294967296) fin)else x
theorem Fr (L:Int):∀(r:List Piec) (a b:Int),0≤a→L≤32→eb L a r=some b→cT po r
 |[],_,_,_,_,_=>λ_ h=>by cases h
 |p::r,a,b,h0,hL,h=>by
  simp only[eb]at h
  cases hc:((p.text==[])||decide (p.off≤a)||decide (L<p.off+(p.text.length:Int)))with
  |true=>rw[hc]at h;cases h
  |false=>
   rw[hc]at h
   simp only[Bool.or_eq_false_iff,decide_eq_false_iff_not]at hc
   have ih:=Fr L r _ b (by omega) hL h
   intro y hy
   rcases List.mem_cons.1 hy with rfl|hy
   ·unfold po;omega
   ·exact ih y hy
theorem Ij (x:Recv)(hx:RV x):cT po x.held:=by
 obtain⟨b,hb⟩:=hx.wk
 have h1:=mE x hx.dl
 have h2:=hx.f1
 exact Fr _ x.held 0 b (Int.le_refl _) (by split<;>omega) hb
theorem Ni (x:Recv)(seq:Int)(t:ae)(fin:Bool)(hs:aX x.held)(ht:t.length≤4294967296):ue.f (x,seq,t,fin,())=mA x seq t fin:=by
 simp only[PX,ue,qB,vH x hs]
 unfold mA
 cases hok:bg.f (x,())with
 |false=>rfl
 |true=>
 cases hdn:x.done with
 |true=>rfl
 |false=>
 have hx:=(lN x hs).1 hok
 have hpo:cT po x.held:=Ij x hx
 obtain⟨r2,e1⟩:=aeg x seq (md x) t ⟨hx.n0,hx.n1⟩ ht (⟨0,[],[],0,false⟩:Recv) (oj x.held)
 have hsl:=IT x hx seq t
 have hw:=mE x hx.dl
 have hn0:=hx.n0
 have hn1:=hx.n1
 have hf0:=hx.f0
 have hf1:=hx.f1
 have hL:JC x seq t=Ao x seq (md x) (oj x.held) 0 t:=rfl
 rw[←hL]at e1 hsl
 have ee:IntKind.wrap .i64 ((seq+(t.length:Int))%4294967296-x.next)%4294967296=(seq+(t.length:Int)-x.next)%4294967296:=by
  rw[aj (by omega) (by omega),V8]
 simp only[Bool.not_true,cond_false,n5,f9 x hx.dl,T1 x hpo,fF,e1,Stp.elim,PX,iZ,bz,l0,true_and,if_true,ee]
 obtain⟨e,he⟩:∃e,(seq+(t.length:Int)-x.next)%4294967296=e:=⟨_,rfl⟩
 have he0:0≤e:=by omega
 obtain⟨sl,hsl2⟩:∃sl,JC x seq t=sl:=⟨_,rfl⟩
 simp only[he,hsl2]at hsl⊢
 clear e1 ee hL he hsl2
 obtain⟨hl,hat⟩:=hsl
 have hr:∀s∈sl,s≤255:=λs hs=>by
  obtain⟨k,hk,rfl⟩:=List.getElem_of_mem hs
  exact(hat k _ (List.getElem?_eq_getElem hk)).2.1
 have hld:aE sl<sl.length:=by
  rcases Nat.lt_or_ge (aE sl) sl.length with h|h
  ·exact h
  ·obtain⟨s,h1,h2⟩:=sN sl 32 (by omega)
   have:=(hat 32 s h1).2.2 h2
   split at this<;>omega
 have hc:(bif fin then bif decide (x.fin<0)then bif decide (e≤md x)then(uy.f (sl,e,()),())else(false,())else(false,())else(false,())).1=decide (fin=true∧x.fin<0∧e≤md x∧(sl.drop e.toNat).all (λs=>decide (s<0))=true):=by
  cases fin with
  |false=>simp
  |true=>
   by_cases c1:x.fin<0
   ·by_cases c2:e≤md x
    ·have h1:=YV sl e.toNat (by omega)
     rw[show((e.toNat:Nat):Int)=e by omega]at h1
     simp only[cond_true,decide_eq_true c1,decide_eq_true c2,h1]
     simp only[c1,c2,true_and,Bool.decide_eq_true]
    ·simp[c1,c2]
   ·simp[c1]
 have tail:∀(r u:Recv),(eu (0,x,r,u,sl,[],())).lp.s= .out ((aE sl:Int),({r with held:=[]}:Recv),sl.take (aE sl)):=by
  intro r u
  have:=Zq sl hr hld (aE sl) 0 r (by omega)
  rw[←aA sl.length]at this
  exact this
 have tp:∀(r u:Recv) (w:Int×Recv×List Int),(eu (0,x,r,u,sl,[],())).lp.o w= .inl w:=λ_ _ _=>rfl
 have hld2:(aE sl:Int)≤33:=by omega
 by_cases hcc:fin=true∧x.fin<0∧e≤md x∧(sl.drop e.toNat).all (λs=>decide (s<0))=true
 ·have hfn:Kh x sl e fin=e:=if_pos hcc
  have hew:=hcc.2.2.1
  rw[hfn]
  simp only[hc,decide_eq_true hcc,cond_true]
  dsimp only[Tr.nice]
  simp only[PX,tail,tp,Stp.elim,Sum.elim_inl,wm,FS sl hr hl (aE sl) (by omega)]
  unfold Sw
  have hd:decide (0≤e)=true:=decide_eq_true (by omega)
  simp only[hd,cond_true]
  rw[aj (m:=e-(aE sl:Int)) (by omega) (by omega)]
  change (bif ((e-(aE sl:Int))==0)then(bif decide ((3:Int)<((cF 33 0 (sl.drop (aE sl))).length:Int))then dU.f (x,())else(⟨((x.next+(aE sl:Int))%4294967296+1)%4294967296,x.data++aF (sl.take (aE sl)),cF 33 0 (sl.drop (aE sl)),-1,true⟩:Recv))else(bif decide ((3:Int)<((cF 33 0 (sl.drop (aE sl))).length:Int))then dU.f (x,())else(⟨(x.next+(aE sl:Int))%4294967296,x.data++aF (sl.take (aE sl)),cF 33 0 (sl.drop (aE sl)),(e-(aE sl:Int)),false⟩:Recv)))=_
  rw[qB]
  by_cases h3:3<(cF 33 0 (sl.drop (aE sl))).length
  ·rw[if_pos h3,decide_eq_true (show(3:Int)<((cF 33 0 (sl.drop (aE sl))).length:Int) by omega)]
   cases(e-(aE sl:Int)==0)<;>rfl
  ·rw[if_neg h3,decide_eq_false (show¬(3:Int)<((cF 33 0 (sl.drop (aE sl))).length:Int) by omega)]
   by_cases h4:e-(aE sl:Int)=0
   ·rw[if_pos h4,show(e-(aE sl:Int)==0)=true by simp[h4]]
    simp only[cond_true,cond_false]
    rw[show((x.next+(aE sl:Int))%4294967296+1)%4294967296=(x.next+(aE sl:Int)+1)%4294967296 by omega]
   ·rw[if_neg h4,show(e-(aE sl:Int)==0)=false by simp[h4]]
    simp only[cond_false,if_neg (show¬e= -1 by omega),hdn]
 ·have hfn:Kh x sl e fin=x.fin:=if_neg hcc
  rw[hfn]
  simp only[hc,decide_eq_false hcc,cond_false]
  dsimp only[Tr.nice]
  simp only[PX,tail,tp,Stp.elim,Sum.elim_inl,wm,FS sl hr hl (aE sl) (by omega)]
  unfold Sw
  by_cases hF:0≤x.fin
  ·have hd:decide (0≤x.fin)=true:=decide_eq_true (by omega)
   simp only[hd,cond_true]
   rw[aj (m:=x.fin-(aE sl:Int)) (by omega) (by omega)]
   change (bif ((x.fin-(aE sl:Int))==0)then(bif decide ((3:Int)<((cF 33 0 (sl.drop (aE sl))).length:Int))then dU.f (x,())else(⟨((x.next+(aE sl:Int))%4294967296+1)%4294967296,x.data++aF (sl.take (aE sl)),cF 33 0 (sl.drop (aE sl)),-1,true⟩:Recv))else(bif decide ((3:Int)<((cF 33 0 (sl.drop (aE sl))).length:Int))then dU.f (x,())else(⟨(x.next+(aE sl:Int))%4294967296,x.data++aF (sl.take (aE sl)),cF 33 0 (sl.drop (aE sl)),(x.fin-(aE sl:Int)),x.done⟩:Recv)))=_
   rw[qB]
   by_cases h3:3<(cF 33 0 (sl.drop (aE sl))).length
   ·rw[if_pos h3,decide_eq_true (show(3:Int)<((cF 33 0 (sl.drop (aE sl))).length:Int) by omega)]
    cases(x.fin-(aE sl:Int)==0)<;>rfl
   ·rw[if_neg h3,decide_eq_false (show¬(3:Int)<((cF 33 0 (sl.drop (aE sl))).length:Int) by omega)]
    by_cases h4:x.fin-(aE sl:Int)=0
    ·rw[if_pos h4,show(x.fin-(aE sl:Int)==0)=true by simp[h4]]
     simp only[cond_true,cond_false]
     rw[show((x.next+(aE sl:Int))%4294967296+1)%4294967296=(x.next+(aE sl:Int)+1)%4294967296 by omega]
    ·rw[if_neg h4,show(x.fin-(aE sl:Int)==0)=false by simp[h4]]
     simp only[cond_false,if_neg (show¬x.fin= -1 by omega),hdn]
  ·have hF1:x.fin= -1:=by omega
   have hd:decide (0≤x.fin)=false:=decide_eq_false hF
   simp only[hd,cond_false]
   change (bif (x.fin==0)then(bif decide ((3:Int)<((cF 33 0 (sl.drop (aE sl))).length:Int))then dU.f (x,())else(⟨((x.next+(aE sl:Int))%4294967296+1)%4294967296,x.data++aF (sl.take (aE sl)),cF 33 0 (sl.drop (aE sl)),-1,true⟩:Recv))else(bif decide ((3:Int)<((cF 33 0 (sl.drop (aE sl))).length:Int))then dU.f (x,())else(⟨(x.next+(aE sl:Int))%4294967296,x.data++aF (sl.take (aE sl)),cF 33 0 (sl.drop (aE sl)),x.fin,x.done⟩:Recv)))=_
   rw[qB]
   rw[show(x.fin==0)=false by simp[hF1]]
   by_cases h3:3<(cF 33 0 (sl.drop (aE sl))).length
   ·rw[if_pos h3,decide_eq_true (show(3:Int)<((cF 33 0 (sl.drop (aE sl))).length:Int) by omega)]
    rfl
   ·rw[if_neg h3,decide_eq_false (show¬(3:Int)<((cF 33 0 (sl.drop (aE sl))).length:Int) by omega)]
    rw[if_neg (show¬x.fin-(aE sl:Int)=0 by omega),if_pos hF1,hF1,hdn]
    rfl
theorem KU (x:Recv)(seq:Int)(t:ae)(fin:Bool)(hx:RV x):RV (mA x seq t fin):=by
 unfold mA
 by_cases hc:bg.f (x,())=true∧x.done=false
 ·rw[if_pos hc]
  obtain⟨hl,hat⟩:=IT x hx seq t
  have hw:=mE x hx.dl
  have hf0:=hx.f0
  have hf1:=hx.f1
  change (JC x seq t).length=33 at hl
  change ∀(k:Nat) (s:Int),(JC x seq t)[k]? =some s→_ at hat
  generalize JC x seq t=sl at hl hat
  have he0:0≤(seq+(t.length:Int)-x.next)%4294967296:=by omega
  generalize(seq+(t.length:Int)-x.next)%4294967296=e at he0
  unfold Kh
  split
  ·rename_i h
   obtain⟨h1,h2,h3,h4⟩:=h
   refine We x sl e hx hc.2 hl (by omega) h3 (λk s hk hs=> ?_)
   rw[if_neg (show¬e= -1 by omega)]
   apply Int.not_le.1
   intro hke
   rw[List.all_eq_true]at h4
   have hm:s∈sl.drop e.toNat:=by
    refine List.mem_of_getElem? (i:=k-e.toNat) ?_
    rw[List.getElem?_drop,show e.toNat+(k-e.toNat)=k by omega];exact hk
   have:=h4 s hm
   simp only[decide_eq_true_eq]at this
   omega
  ·exact We x sl x.fin hx hc.2 hl (by omega) hf1 (λk s hk hs=>(hat k s hk).2.2 hs)
 ·rw[if_neg hc];exact hx
def r7 (a b:Int):Int:=if 2147483647<(a-b)%4294967296 then(a-b)%4294967296-4294967296 else(a-b)%4294967296
theorem vd (a b:Int):qF.f (a,b,())=r7 a b:=by
 simp only[PX,qF,l0,wm]
 rw[aj (m:=a%4294967296-b%4294967296) (by omega) (by omega),show(a%4294967296-b%4294967296)%4294967296=(a-b)%4294967296 by omega]
 unfold r7
 by_cases h:2147483647<(a-b)%4294967296
 ·rw[decide_eq_true h,if_pos h,aj (by omega) (by omega)];rfl
 ·rw[decide_eq_false h,if_neg h];rfl
def He (s:Sndr):Int:=if s.finSent=true then s.sent+1 else s.sent
theorem tS (s:Sndr)(h:SO s):cZ.f (s,())=He s:=by
 rw[MU s h];rfl
def cO (s:Sndr)(n:Int):Sndr:=⟨(s.una+n)%4294967296,s.data.drop (if s.sent<n then s.sent else n).toNat,s.sent-(if s.sent<n then s.sent else n),s.fin,if s.sent<n then false else s.finSent,if s.sent<n then true else s.done⟩
def tI (s:Sndr)(ack:Int):Bool:=ba.f (s,())&&(decide (0≤r7 ack s.una)&&decide (r7 ack s.una≤He s))
theorem Vz (s:Sndr)(ack:Int):Hy.f (s,ack,())=if tI s ack=true then(cO s (r7 ack s.una),true)else(s,false):=by
 simp only[PX,Hy,vd,nZ,xW,bA,iZ,bz]
 unfold tI
 cases hk:ba.f (s,())with
 |false=>rfl
 |true=>
  have hs:=(xP s).1 hk
  rw[tS s hs]
  have h1:=hs.2.2.2.1
  have h2:=hs.2.2.2.2.1
  have h3:=hs.2.2.1
  generalize r7 ack s.una=n
  simp only[Bool.not_true,cond_false,Bool.true_and]
  by_cases hn:0≤n∧n≤He s
  ·rw[decide_eq_true hn.1,decide_eq_true hn.2]
   simp only[Bool.and_self,Bool.not_true,cond_false,if_true]
   unfold cO
   by_cases hc:s.sent<n
   ·simp only[decide_eq_true hc,if_pos hc,cond_true]
    simp only[PX,ac,List.take_length]
    rw[aj (by omega) (by omega)]
   ·simp only[decide_eq_false hc,if_neg hc,cond_false]
    simp only[PX,ac,List.take_length]
    rw[aj (by omega) (by omega)]
  ·have e:(decide (0≤n)&&decide (n≤He s))=false:=by
    rw[Bool.and_eq_false_iff];simp only[decide_eq_false_iff_not];omega
   rw[e];rfl
theorem KG (s:Sndr)(hs:SO s)(n:Int)(h0:0≤n)(h1:n≤He s):SO (cO s n)∧(cO s n).fin=s.fin∧(s.done=true→(cO s n).done=true):=by
 obtain⟨e1,e2,e3,e4,e5,e6,e7⟩:=hs
 unfold He at h1
 by_cases hc:s.sent<n
 ·have ea:cO s n=⟨(s.una+n)%4294967296,s.data.drop s.sent.toNat,s.sent-s.sent,s.fin,false,true⟩:=by unfold cO;simp only[if_pos hc]
  rw[ea]
  have hf:s.finSent=true:=by
   cases hfs:s.finSent with
   |true=>rfl
   |false=>rw[hfs]at h1;simp only[Bool.false_eq_true,if_false]at h1;omega
  have hl:=(e6 hf).2
  refine⟨⟨by show 0≤(s.una+n)%4294967296;omega,by show(s.una+n)%4294967296≤4294967295;omega, ?_, ?_, ?_,λh=>(by cases h),λ_=>⟨(e6 hf).1,rfl, ?_⟩⟩,rfl,λ_=>rfl⟩
  ·show(s.data.drop s.sent.toNat).length≤48
   rw[List.length_drop];omega
  ·show 0≤s.sent-s.sent;omega
  ·show s.sent-s.sent≤((s.data.drop s.sent.toNat).length:Int)
   omega
  ·show s.data.drop s.sent.toNat=[]
   exact List.drop_of_length_le (by omega)
 ·have ea:cO s n=⟨(s.una+n)%4294967296,s.data.drop n.toNat,s.sent-n,s.fin,s.finSent,s.done⟩:=by unfold cO;simp only[if_neg hc]
  rw[ea]
  refine⟨⟨by show 0≤(s.una+n)%4294967296;omega,by show(s.una+n)%4294967296≤4294967295;omega, ?_, ?_, ?_, ?_, ?_⟩,rfl,λh=>h⟩
  ·show(s.data.drop n.toNat).length≤48
   rw[List.length_drop];omega
  ·show 0≤s.sent-n;omega
  ·show s.sent-n≤((s.data.drop n.toNat).length:Int)
   rw[List.length_drop];omega
  ·intro h
   refine⟨(e6 h).1, ?_⟩
   have:=(e6 h).2
   show s.sent-n=((s.data.drop n.toNat).length:Int)
   rw[List.length_drop];omega
  ·intro h
   refine⟨(e7 h).1,(e7 h).2.1, ?_⟩
   show s.data.drop n.toNat=[]
   rw[(e7 h).2.2];simp
def nW (k:Int)(sd rd:Bool):Int:=if k=1 then(if rd=true then 4 else 1)else if k=2 then(if sd=true then(if rd=true then 7 else 3)else if rd=true then 5 else 2)else if k=3 then(if rd=true then 7 else 3)else if k=5 then(if sd=true then 7 else 5)else if k=6 then(if sd=true then 8 else 6)else k
theorem aaQ (x:Conn):vP.f (x,())=nW x.state x.s.done x.r.done:=by
 simp only[PX,vP]
 unfold nW
 by_cases h1:x.state=1
 ·rw[if_pos h1,h1];cases x.r.done<;>first|rfl|exact h1
 by_cases h2:x.state=2
 ·rw[if_neg h1,if_pos h2,h2];cases x.s.done<;>cases x.r.done<;>first|rfl|exact h2
 by_cases h3:x.state=3
 ·rw[if_neg h1,if_neg h2,if_pos h3,h3];cases x.r.done<;>first|rfl|exact h3
 by_cases h5:x.state=5
 ·rw[if_neg h1,if_neg h2,if_neg h3,if_pos h5,h5];cases x.s.done<;>first|rfl|exact h5
 by_cases h6:x.state=6
 ·rw[if_neg h1,if_neg h2,if_neg h3,if_neg h5,if_pos h6,h6];cases x.s.done<;>first|rfl|exact h6
 rw[if_neg h1,if_neg h2,if_neg h3,if_neg h5,if_neg h6]
 rw[show(x.state==1)=false by simp[h1],show(x.state==2)=false by simp[h2],show(x.state==3)=false by simp[h3],show(x.state==5)=false by simp[h5],show(x.state==6)=false by simp[h6]]
 rfl
def Iu (x:Conn):Bool:=aI.f ({x with state:=nW x.state x.s.done x.r.done,timer:=0,tries:=0},())&&((decide (0≤x.timer)&&decide (x.timer≤4))&&(decide (0≤x.tries)&&decide (x.tries≤3)))
def dP (x:Conn):Conn:=
 if Iu x=true then
  if nW x.state x.s.done x.r.done=x.state then x
  else if nW x.state x.s.done x.r.done=7 then{x with state:=7,timer:=4,tries:=0}
  else if nW x.state x.s.done x.r.done=8 then{x with state:=8,timer:=0,tries:=0}
  else{x with state:=nW x.state x.s.done x.r.done}
 else x
theorem Fm (x:Conn)(hs:aX x.r.held):rL.f (x,())=dP x:=by
 simp only[PX,rL,fw,aaQ,bA]
 rw[kU ({x with state:=nW x.state x.s.done x.r.done,timer:=0,tries:=0}:Conn) hs]
 unfold dP Iu
 generalize(decide (0≤x.timer)&&decide (x.timer≤4))=b1
 generalize(decide (0≤x.tries)&&decide (x.tries≤3))=b2
 generalize nW x.state x.s.done x.r.done=k
 cases aI.f (({x with state:=k,timer:=0,tries:=0}:Conn),())with
 |false=>rfl
 |true=>
 cases b1 with
 |false=>rfl
 |true=>
 cases b2 with
 |false=>rfl
 |true=>
 simp only[Bool.not_true,cond_false,Bool.and_self,if_true]
 by_cases h1:k=x.state
 ·subst h1
  simp only[if_true,beq_self_eq_true,cond_true]
 ·rw[if_neg h1,show(k==x.state)=false by simp[h1]]
  simp only[cond_false]
  by_cases h7:k=7
  ·subst h7;rfl
  ·rw[if_neg h7,show(k==7)=false by simp[h7]]
   simp only[cond_false]
   by_cases h8:k=8
   ·subst h8;rfl
   ·rw[if_neg h8,show(k==8)=false by simp[h8]];rfl
structure TR (x:Conn):Prop where
 tup:az.f (x.tuple,())=true
 snd:SO x.s
 rcv:bg.f (x.r,())=true
 opt:aH.f (x.opts,())=true
 s1:1≤x.state
 s7:x.state≤7
 m0:0≤x.most
 m1:x.most≤1073725440
 w0:0≤x.window
 w1:x.window≤x.most
 t0:0≤x.timer
 t4:x.timer≤4
 t3:x.state≠7→x.timer≤3
 r0:0≤x.tries
 r3:x.tries≤3
 fl:WJ (nW x.state x.s.done x.r.done) x.s.fin x.s.done x.r.done=true
theorem abE (k:Int)(sd rd:Bool)(h1:1≤k)(h7:k≤7):1≤nW k sd rd∧nW k sd rd≤8:=by
 unfold nW;repeat' split
 all_goals omega
theorem TR.turned {x:Conn}(h:TR x):CO (dP x):=by
 have hk:=abE x.state x.s.done x.r.done h.s1 h.s7
 have hfl:=h.fl
 have hs1:=h.s1
 have hs7:=h.s7
 have hr0:=h.r0
 have hr3:=h.r3
 have ht0:=h.t0
 have ht4:=h.t4
 have hco:CO ({x with state:=nW x.state x.s.done x.r.done,timer:=0,tries:=0}:Conn):=⟨h.tup,h.snd,h.rcv,h.opt,hk.1,hk.2,h.m0,h.m1,h.w0,h.w1,Int.le_refl _,by show(0:Int)≤4;omega,λ_=>by show(0:Int)≤3;omega,Int.le_refl _,by show(0:Int)≤3;omega,hfl⟩
 have hok:Iu x=true:=by
  unfold Iu
  rw[(pC _).2 hco,decide_eq_true ht0,decide_eq_true ht4,decide_eq_true hr0,decide_eq_true hr3];rfl
 unfold dP
 rw[if_pos hok]
 by_cases h1:nW x.state x.s.done x.r.done=x.state
 ·rw[if_pos h1]
  rw[h1]at hfl
  exact⟨h.tup,h.snd,h.rcv,h.opt,hs1,by omega,h.m0,h.m1,h.w0,h.w1,ht0,ht4,h.t3,hr0,hr3,hfl⟩
 ·rw[if_neg h1]
  have hn7:x.state≠7:=by
   intro h7;apply h1;rw[h7];rfl
  have ht3:=h.t3 hn7
  by_cases h7:nW x.state x.s.done x.r.done=7
  ·rw[if_pos h7]
   rw[h7]at hfl
   exact⟨h.tup,h.snd,h.rcv,h.opt,by show(1:Int)≤7;omega,by show(7:Int)≤8;omega,h.m0,h.m1,h.w0,h.w1,by show(0:Int)≤4;omega,Int.le_refl _,λhh=>absurd rfl hh,Int.le_refl _,by show(0:Int)≤3;omega,hfl⟩
  ·rw[if_neg h7]
   by_cases h8:nW x.state x.s.done x.r.done=8
   ·rw[if_pos h8]
    rw[h8]at hfl
    exact⟨h.tup,h.snd,h.rcv,h.opt,by show(1:Int)≤8;omega,Int.le_refl _,h.m0,h.m1,h.w0,h.w1,Int.le_refl _,by show(0:Int)≤4;omega,λ_=>by show(0:Int)≤3;omega,Int.le_refl _,by show(0:Int)≤3;omega,hfl⟩
   ·rw[if_neg h8]
    exact⟨h.tup,h.snd,h.rcv,h.opt,hk.1,hk.2,h.m0,h.m1,h.w0,h.w1,ht0,ht4,λ_=>ht3,hr0,hr3,hfl⟩
theorem Cm (x:Conn):(dP x).tuple=x.tuple:=by
 unfold dP;repeat' split
 all_goals rfl
def iu (w sc:Int):Int:=w*2 ^ (if sc<0 then 0 else sc).toNat
theorem HG (w sc:Int)(h0:0≤w)(h1:w≤65535)(h2:sc≤14):0≤iu w sc∧iu w sc≤1073725440:=by
 unfold iu
 have hk:(if sc<0 then 0 else sc).toNat≤14:=by split<;>omega
 generalize(if sc<0 then 0 else sc).toNat=k at hk
 have:k=0∨k=1∨k=2∨k=3∨k=4∨k=5∨k=6∨k=7∨k=8∨k=9∨k=10∨k=11∨k=12∨k=13∨k=14:=by omega
 rcases this with rfl|rfl|rfl|rfl|rfl|rfl|rfl|rfl|rfl|rfl|rfl|rfl|rfl|rfl|rfl<;>simp only[Int.reducePow,Int.pow_zero]<;>omega
theorem eV (o:Opti)(h:aH.f (o,())=true): -1≤o.scale∧o.scale≤14:=by
 simp only[PX,aH,aq]at h
 revert h
 cases hq:(decide (-1≤o.scale)&&decide (o.scale≤14))with
 |true=>
  intro _
  simpa [Bool.and_eq_true,decide_eq_true_eq]using hq
 |false=>
  cases af.f (o.mss,16,())<;>cases o.stamp<;>cases(o.val != 0)<;>cases(o.echo != 0)<;>simp
def uP (c:Conn)(g:Segm):Conn:=
 if tI c.s g.ack=true then
  if((cO c.s (r7 g.ack c.s.una)).una≠c.s.una∨He (cO c.s (r7 g.ack c.s.una))=0)∧c.state≠7 then
   ⟨c.tuple,c.state,cO c.s (r7 g.ack c.s.una),c.r,iu g.window c.opts.scale,if c.most<iu g.window c.opts.scale then iu g.window c.opts.scale else c.most,c.opts,if 0<He (cO c.s (r7 g.ack c.s.una))then 3 else 0,0⟩
  else⟨c.tuple,c.state,cO c.s (r7 g.ack c.s.una),c.r,iu g.window c.opts.scale,if c.most<iu g.window c.opts.scale then iu g.window c.opts.scale else c.most,c.opts,c.timer,c.tries⟩
 else c
def fG (c:Conn)(g:Segm):Conn:=
 if 1≤c.state∧c.state≤3 then dP {uP c g with r:=mA c.r g.seq g.body (gF.f (g,1,()))}else dP (uP c g)
theorem aaH (k:Int)(h1:1≤k)(h7:k≤7)(sf sd rd sd' rd':Bool)(h:WJ k sf sd rd=true)(hsd:sd=true→sd'=true)(hsf:sd'=true→sf=true)(hrd:rd'=rd∨(rd=false∧k≤3)):WJ (nW k sd' rd') sf sd' rd'=true:=by
 have hk:k=1∨k=2∨k=3∨k=4∨k=5∨k=6∨k=7:=by omega
 rcases hk with rfl|rfl|rfl|rfl|rfl|rfl|rfl<;>revert h hsd hsf hrd<;>revert sf sd rd sd' rd'<;>decide+kernel
theorem RV.small {x:Recv}(h:RV x):aX x.held:=by
 intro y hy
 have:=Ij x h y hy
 unfold po at this;omega
theorem Rz (m:Int):IntKind.u32.wrap m=m%4294967296:=by
 unfold IntKind.wrap
 simp[IntKind.signed,IntKind.bits]
theorem Q0 (m:Int):IntKind.i32.wrap m=(m+2147483648)%4294967296-2147483648:=by
 unfold IntKind.wrap
 simp only[IntKind.signed,IntKind.bits]
 simp
 omega
theorem uS (a b:Int):qx.f (a,b,())=r7 a b:=by
 simp only[PX,qx,Rz,Q0,dj]
 unfold r7
 split<;>omega
theorem Me (g:Segm)(n:Int):gF.f (g,n,())=bk.f (g,n,()):=by simp only[PX,gF,bk]
theorem vQ (g:Segm):iO.f (g,())=aK.f (g,()):=by simp only[PX,iO,aK,Me]
theorem rY (a b:Int):sT.f (a,b,())=(a-b)%4294967296:=QD a b
def vO (x o n:Int):Bool:=decide (0<n)&&decide ((x-o)%4294967296<n)
theorem ov (x o n:Int):nT.f (x,o,n,())=vO x o n:=by
 simp only[PX,nT,l0]
 unfold vO
 rw[aj (by omega) (by omega),show(x%4294967296-o%4294967296)%4294967296=(x-o)%4294967296 by omega]
 cases decide (0<n)<;>rfl
theorem tq (x o n:Int):oa.f (x,o,n,())=vO x o n:=by
 simp only[PX,oa,rY]
 unfold vO
 by_cases h:4294967295<n
 ·rw[decide_eq_true h,decide_eq_true (show 0<n by omega),decide_eq_true (show(x-o)%4294967296<n by omega)];rfl
 ·rw[decide_eq_false h]
  by_cases h1:0<n
  ·rw[decide_eq_true h1,decide_eq_true (show 1≤n by omega)];rfl
  ·rw[decide_eq_false h1,decide_eq_false (show¬1≤n by omega)];rfl
def ovN (x n o w:Int):Bool:=decide (0<n)&&(decide (0<w)&&(decide ((x-o)%4294967296<w)||decide ((o-x)%4294967296<n)))
theorem K0 (x n o w:Int)(hn:n≤65536):wq.f (x,n,o,w,())=ovN x n o w:=by
 simp only[PX,wq,rY,tq]
 rw[if_neg (show¬65536<n by omega)]
 unfold ovN vO
 by_cases h1:0<n
 ·rw[decide_eq_true h1,decide_eq_false (show¬n<1 by omega)]
  by_cases h2:0<w
  ·rw[decide_eq_true h2,decide_eq_false (show¬w<1 by omega)]
   cases decide ((x-o)%4294967296<w)<;>rfl
  ·rw[decide_eq_false h2,decide_eq_true (show w<1 by omega)];rfl
 ·rw[decide_eq_false h1,decide_eq_true (show n<1 by omega)];rfl
theorem Mf (x o w:Int):∀(k j:Nat),j+k≤65536→(aP (λj a=>(iY x o w j a).nice) 1 k (j:Int) ()= .next ()∧∀i:Nat,j≤i→i<j+k→vO (x+(i:Int)) o w=false)∨(aP (λj a=>(iY x o w j a).nice) 1 k (j:Int) ()= .out (.inl ())∧∃i:Nat,j≤i∧i<j+k∧vO (x+(i:Int)) o w=true)
 |0,j,_=> .inl ⟨rfl,λi h1 h2=>by omega⟩
 |k+1,j,h=>by
  have ih:=Mf x o w k (j+1) (by omega)
  have e:vO ((x+(j:Int))%4294967296) o w=vO (x+(j:Int)) o w:=by
   unfold vO
   rw[show((x+(j:Int))%4294967296-o)%4294967296=(x+(j:Int)-o)%4294967296 by omega]
  simp only[aP,PX,iY,iZ,bz,ov,decide_eq_true (show(j:Int)<65536 by omega),cond_true,e]
  simp only[PX,iY,iZ,bz,ov]at ih
  cases hj:vO (x+(j:Int)) o w with
  |true=>exact .inr ⟨rfl,j,Nat.le_refl _,by omega,hj⟩
  |false=>
   simp only[cond_false,Stp.elim]
   rw[show(j:Int)+1=((j+1:Nat):Int) by omega]
   rcases ih with⟨h1,h2⟩|⟨h1,i,h2,h3,h4⟩
   ·refine .inl ⟨h1,λi h3 h4=> ?_⟩
    rcases Nat.eq_or_lt_of_le h3 with h5|h5
    ·rw[←h5];exact hj
    ·exact h2 i h5 (by omega)
   ·exact .inr ⟨h1,i,by omega,by omega,h4⟩
theorem Lw (x n o w:Int)(hn:n≤65536)(hw:w≤2147483648):vW.f (x,n,o,w,())=ovN x n o w:=by
 simp only[PX,vW,lr]
 have key:=Mf x o w (Int.toNat (n-0)) 0 (by omega)
 rw[show((0:Nat):Int)=0 from rfl]at key
 unfold ovN
 rcases key with⟨h1,h2⟩|⟨h1,i,h2,h3,h4⟩
 ·rw[h1]
  simp only[Stp.elim,Sum.elim_inr,Sum.elim_inl]
  by_cases c1:0<n
  ·by_cases c2:0<w
   ·have a0:=h2 0 (Nat.le_refl _) (by omega)
    unfold vO at a0
    rw[decide_eq_true c2,show x+((0:Nat):Int)=x by omega,Bool.true_and,decide_eq_false_iff_not]at a0
    have a1:¬(o-x)%4294967296<n:=by
     intro h
     have:=h2 ((o-x)%4294967296).toNat (by omega) (by omega)
     unfold vO at this
     rw[decide_eq_true c2,Bool.true_and,decide_eq_false_iff_not]at this
     omega
    rw[decide_eq_true c1,decide_eq_true c2,decide_eq_false a0,decide_eq_false a1];rfl
   ·rw[decide_eq_false c2];cases decide (0<n)<;>rfl
  ·rw[decide_eq_false c1];rfl
 ·rw[h1]
  simp only[Stp.elim,Sum.elim_inr,Sum.elim_inl]
  unfold vO at h4
  simp only[Bool.and_eq_true,decide_eq_true_eq]at h4
  have c1:0<n:=by omega
  rw[decide_eq_true c1,decide_eq_true h4.1]
  by_cases c3:(x-o)%4294967296<w
  ·rw[decide_eq_true c3];rfl
  ·rw[decide_eq_true (show(o-x)%4294967296<n by omega),Bool.or_true];rfl
def Uf (c:Conn)(g:Segm):Bool:=bif aK.f (g,())==0 then r7 g.seq c.r.next==0||vO g.seq c.r.next (md c.r)else ovN g.seq (aK.f (g,())) c.r.next (md c.r)
theorem qQ (g:Segm)(hb:g.body.length≤60000):0≤aK.f (g,())∧aK.f (g,())≤(g.body.length:Int)+2:=by
 simp only[PX,aK]
 rw[aj (m:=(g.body.length:Int)+1) (by omega) (by omega),aj (m:=(g.body.length:Int)+1+1) (by omega) (by omega)]
 cases bk.f (g,2,())<;>cases bk.f (g,1,())<;>simp only[cond_true,cond_false]<;>omega
theorem F4 (c:Conn)(g:Segm)(hd:c.r.data.length≤32)(hb:g.body.length≤60000):pQ.f (c,g,())=Uf c g:=by
 have h1:=qQ g hb
 have hw:=mE c.r hd
 simp only[PX,pQ,vQ,n5,f9 c.r hd,vd,ov,Lw _ _ _ _ (show aK.f (g,())≤65536 by omega) (show md c.r≤2147483648 by omega)]
 unfold Uf
 cases(aK.f (g,())==0)with
 |false=>rfl
 |true=>cases(r7 g.seq c.r.next==0)<;>rfl
theorem G9 (c:Conn)(g:Segm)(hd:c.r.data.length≤32)(hb:g.body.length≤60000):qi.f (c,g,())=Uf c g:=by
 have h1:=qQ g hb
 have hw:=mE c.r hd
 simp only[PX,qi,f9 c.r hd,uS,tq,K0 _ _ _ _ (show aK.f (g,())≤65536 by omega)]
 unfold Uf
 cases(aK.f (g,())==0)with
 |false=>rfl
 |true=>cases(r7 g.seq c.r.next==0)<;>rfl
def SK (c:Conn)(a:Int):Bool:=decide (r7 a c.s.una≤He c.s)&&(decide (0≤r7 a c.s.una)||decide (-c.most≤r7 a c.s.una))
theorem O4 (c:Conn)(a:Int)(hs:SO c.s)(h0:0≤c.most)(h1:c.most≤1073725440):z6.f (c,a,())=SK c a:=by
 simp only[PX,z6,vd,xW,tS c.s hs]
 unfold SK
 rw[aj (by omega) (by omega),decide_eq_false (show¬2147483648≤c.most by omega)]
 generalize r7 a c.s.una=d
 cases decide (d≤He c.s)with
 |false=>rfl
 |true=>
  by_cases h2:0≤d
  ·rw[decide_eq_true h2];rfl
  ·rw[decide_eq_false h2]
   by_cases h3:0<c.most
   ·rw[decide_eq_true h3,show(0-c.most)= -c.most by omega];rfl
   ·rw[decide_eq_false h3,decide_eq_false (show¬-c.most≤d by omega)];rfl
theorem O6 (c:Conn)(a:Int)(hs:SO c.s)(h0:0≤c.most)(h1:c.most≤1073725440):ze.f (c,a,())=SK c a:=by
 simp only[PX,ze,uS,tS c.s hs,aq]
 unfold SK
 rw[if_neg (show¬2147483648<c.most by omega),show(if 0<c.most then c.most else 0)=c.most by split<;>omega,aj (by omega) (by omega),show(0-c.most)= -c.most by omega]
 generalize r7 a c.s.una=d
 by_cases h2:0≤d
 ·rw[decide_eq_true h2,decide_eq_true (show-c.most≤d by omega)];simp
 ·rw[decide_eq_false h2,Bool.and_comm];simp
def DT (c:Conn)(g:Segm):Int:=
 bif aI.f (c,())&&(!(c.state==8)&&ai.f (g,()))then
  bif bk.f (g,4,())then(bif g.seq==c.r.next then 2 else bif vO g.seq c.r.next (md c.r)then 3 else 1)
  else bif bk.f (g,2,())then 3
  else bif !Uf c g then 4
  else bif !bk.f (g,16,())then 1
  else bif !SK c g.ack then 3 else 5
 else 1
theorem gY (g:Segm)(h:ai.f (g,())=true):g.body.length≤1420:=by
 simp only[PX,ai]at h
 revert h
 cases af.f (g.from_,16,())<;>cases af.f (g.to,16,())<;>cases af.f (g.seq,32,())<;>cases af.f (g.ack,32,())<;>cases af.f (g.flags,6,())<;>cases af.f (g.window,16,())<;>cases aH.f (g.opts,())<;>simp<;>omega
theorem CZ (c:Conn)(g:Segm)(hs:aX c.r.held):tX.f (c,g,())=DT c g:=by
 simp only[PX,tX,kU c hs,pe,Me]
 unfold DT
 rcases Bool.eq_false_or_eq_true (aI.f (c,()))with h1|h1
 case inr=>rw[h1];rfl
 rcases Bool.eq_false_or_eq_true (c.state==8)with h2|h2
 ·rw[h1,h2];rfl
 rcases Bool.eq_false_or_eq_true (ai.f (g,()))with h3|h3
 case inr=>rw[h1,h2,h3];rfl
 have hc:=(pC c).1 h1
 have hr:=(lN c.r hs).1 hc.rcv
 have hb:=gY g h3
 simp only[h1,h2,h3,n5,f9 c.r hr.dl,ov,F4 c g hr.dl (by omega),O4 c g.ack hc.snd hc.m0 hc.m1,Bool.not_true,Bool.not_false,cond_true,cond_false,Bool.and_self]
 cases bk.f (g,4,())with
 |false=>rfl
 |true=>cases(g.seq==c.r.next)<;>cases vO g.seq c.r.next (md c.r)<;>rfl
theorem B0 (c:Conn)(g:Segm)(hs:aX c.r.held):tJ.f (c,g,())=DT c g:=by
 simp only[PX,tJ]
 unfold DT
 rcases Bool.eq_false_or_eq_true (aI.f (c,()))with h1|h1
 case inr=>rw[h1];rfl
 rcases Bool.eq_false_or_eq_true (c.state==8)with h2|h2
 ·rw[h1,h2];rfl
 rcases Bool.eq_false_or_eq_true (ai.f (g,()))with h3|h3
 case inr=>rw[h1,h2,h3];rfl
 have hc:=(pC c).1 h1
 have hr:=(lN c.r hs).1 hc.rcv
 have hb:=gY g h3
 simp only[h1,h2,h3,f9 c.r hr.dl,tq,G9 c g hr.dl (by omega),O6 c g.ack hc.snd hc.m0 hc.m1,Bool.not_true,Bool.not_false,cond_true,cond_false,Bool.and_self]
def iM (w:Nat)(sl:List Int):List Bool:=(sl.take w).map (λs=>decide (0≤s))
def mu (w:Nat)(sl:List Int):List Int:=(sl.take w).map (λs=>if s<0 then 0 else s)
def st1 (sl:List Int)(o b:Int):List Int:=if sl.getD o.toNat 0<0 then sl.set o.toNat b else sl
theorem aaw (w:Nat)(sl:List Int)(o:Nat)(b:Int)(hb:0≤b):iM w (sl.set o b)=(iM w sl).set o true:=by
 unfold iM
 rw[List.take_set,List.map_set,decide_eq_true hb]
theorem aa1 (w:Nat)(sl:List Int)(o:Nat)(b:Int)(hb:0≤b):mu w (sl.set o b)=(mu w sl).set o b:=by
 unfold mu
 rw[List.take_set,List.map_set,if_neg (show¬b<0 by omega)]
theorem uD (w:Nat)(sl:List Int)(o:Nat)(ho:o<w)(hl:w≤sl.length):(iM w sl).getD o false=decide (0≤sl.getD o 0):=by
 unfold iM
 simp[List.getD,List.getElem?_take,ho,show o<sl.length by omega]
theorem J0 (w:Nat)(sl:List Int)(o b:Int)(h0:0≤o)(h1:o<(w:Int))(hl:w≤sl.length)(hb:0≤b):gr.f (o,b,iM w sl,mu w sl,())=(iM w (st1 sl o b),mu w (st1 sl o b)):=by
 simp only[PX,gr]
 rw[uD w sl o.toNat (by omega) hl]
 unfold st1
 by_cases h:sl.getD o.toNat 0<0
 ·rw[decide_eq_false (by omega),if_pos h,aaw _ _ _ _ hb,aa1 _ _ _ _ hb];rfl
 ·rw[decide_eq_true (by omega),if_neg h];rfl
theorem acR (p:Piec)(w:Nat)(h1:1≤p.off)(h2:p.off+(p.text.length:Int)≤(w:Int))(hw:w≤33):∀(n k:Nat) (sl:List Int) (r:Recv),w≤sl.length→k+n=p.text.length→(∀(j:Nat) (s:Int),p.off.toNat+k≤j→sl[j]? =some s→s<0)→∃r2,aP (λj a=>(nY p j a).nice) 1 n (k:Int) (r,mu w sl,iM w sl)= .next (r2,mu w (rC sl (p.off.toNat+k) (p.text.drop k)),iM w (rC sl (p.off.toNat+k) (p.text.drop k)))
 |0,k,sl,r,hl,h,hf=>⟨r,by rw[List.drop_of_length_le (by omega)];rfl⟩
 |n+1,k,sl,r,hl,h,hf=>by
  have hk:k<p.text.length:=by omega
  have ho:p.off.toNat+k<sl.length:=by omega
  have hfree:=hf (p.off.toNat+k) sl[p.off.toNat+k] (Nat.le_refl _) (List.getElem?_eq_getElem ho)
  have hst:st1 sl (p.off+(k:Int)) (p.text[k].toNat:Int)=sl.set (p.off.toNat+k) (p.text[k].toNat:Int):=by
   unfold st1
   rw[show(p.off+(k:Int)).toNat=p.off.toNat+k by omega,getD_some (List.getElem?_eq_getElem ho),if_pos hfree]
  obtain⟨r2,e⟩:=acR p w h1 h2 hw n (k+1) (sl.set (p.off.toNat+k) (p.text[k].toNat:Int)) ({r with held:=[]}:Recv) (by rw[List.length_set];exact hl) (by omega) (λj s hj hs=>by
   rw[List.getElem?_set_ne (by omega)]at hs
   exact hf j s (by omega) hs)
  refine⟨r2, ?_⟩
  rw[List.drop_eq_getElem_cons hk]
  simp only[rC]
  simp only[aP,PX,nY,ac,i2 _ _ hk]
  rw[aj (by omega) (by omega),J0 w sl _ _ (by omega) (by omega) hl (by omega),hst]
  simp only[Stp.elim]
  rw[show(k:Int)+1=((k+1:Nat):Int) by omega]
  exact e
theorem Mu:∀(t:ae) (sl:List Int) (o:Nat) (a:Int),((o:Int)+(t.length:Int)≤a)→(∀(j:Nat) (s:Int),a≤(j:Int)→sl[j]? =some s→s<0)→∀(j:Nat) (s:Int),a≤(j:Int)→(rC sl o t)[j]? =some s→s<0
 |[],_,_,_,_,h,j,s,hj,hs=>h j s hj hs
 |b::t,sl,o,a,ha,h,j,s,hj,hs=>by
  simp only[rC]at hs
  simp only[List.length_cons]at ha
  refine Mu t (sl.set o (b.toNat:Int)) (o+1) a (by omega) (λj s hj hs=> ?_) j s hj hs
  rw[List.getElem?_set_ne (by omega)]at hs
  exact h j s hj hs
theorem WF (v0:Int)(v1:ae)(v2:Bool)(v3:Int)(v4:List Piec)(v5:Int)(v7 v9:Recv)(w:Nat)(hw:w≤33):∀(held:List Piec) (j:Nat) (a b:Int) (L:Int) (sl:List Int) (r:Recv),eb L a held=some b→0≤a→L≤(w:Int)→w≤sl.length→(∀(j:Nat) (s:Int),a≤(j:Int)→sl[j]? =some s→s<0)→(∀p∈held,p.text.length≤33)→∃r2,dh (W:=Empty) (λ_ p (x:Recv×List Int×List Bool)=>(gS v0 v1 v2 v3 [p] v5 v7 v9 0 x).nice) j held (r,mu w sl,iM w sl)= .next (r2,mu w (held.foldl (λsl p=>rC sl p.off.toNat p.text) sl),iM w (held.foldl (λsl p=>rC sl p.off.toNat p.text) sl))
 |[],_,a,b,L,sl,r,_,_,_,_,_,_=>⟨r,rfl⟩
 |p::held,j,a,b,L,sl,r,hp,ha,hL,hl,hf,ht=>by
  simp only[eb]at hp
  cases hc:((p.text==[])||decide (p.off≤a)||decide (L<p.off+(p.text.length:Int)))with
  |true=>rw[hc]at hp;cases hp
  |false=>
   rw[hc]at hp
   simp only[Bool.or_eq_false_iff,decide_eq_false_iff_not]at hc
   have hpl:=ht p (List.mem_cons_self ..)
   obtain⟨r1,e1⟩:=acR p w (by omega) (by omega) hw p.text.length 0 sl ({r with held:=[]}:Recv) hl (by omega) (λj s hj hs=>hf j s (by omega) hs)
   rw[List.drop_zero,Nat.add_zero]at e1
   obtain⟨r2,e2⟩:=WF v0 v1 v2 v3 v4 v5 v7 v9 w hw held (j+1) _ b L (rC sl p.off.toNat p.text) ({r1 with held:=[]}:Recv) hp (by omega) hL (by rw[KP];exact hl) (Mu p.text sl p.off.toNat _ (by omega) (λj s hj hs=>hf j s (by omega) hs)) (λq hq=>ht q (List.mem_cons_of_mem _ hq))
   refine⟨r2, ?_⟩
   rw[dh]
   rw[show(gS v0 v1 v2 v3 [p] v5 v7 v9 0 (r,mu w sl,iM w sl)).nice= .next (({r1 with held:=[]}:Recv),mu w (rC sl p.off.toNat p.text),iM w (rC sl p.off.toNat p.text)) by
    simp only[PX,gS,dD,show Int.toNat 0=0 from rfl,List.getD_cons_zero]
    rw[aA]
    refine(congrArg (Stp.elim _ _) e1).trans ?_
    rfl]
   simp only[Stp.elim]
   exact e2
theorem acy (v0:Int)(v1:ae)(x:Recv)(w:Nat)(hw:w≤33)(hf: -1≤x.fin):∀(t:ae) (j:Nat) (sl:List Int) (r:Recv),w≤sl.length→(∀i,t[i]? =v1[j+i]?)→∃r2,aP (λj a=>(nz v0 v1 (w:Int) x j a).nice) 1 t.length (j:Int) (r,mu w sl,iM w sl)= .next (r2,mu w (Ao x v0 (w:Int) sl j t),iM w (Ao x v0 (w:Int) sl j t))
 |[],j,sl,r,hl,ht=>⟨r,rfl⟩
 |b::t,j,sl,r,hl,ht=>by
  have hb:v1[j]? =some b:=by have:=ht 0;simpa using this.symm
  have hbt:ah v1 j=(b.toNat:Int):=by simp[ah,List.getD,hb]
  have hll:(Bn x v0 (w:Int) sl j b).length=sl.length:=by unfold Bn;split<;>simp
  obtain⟨r2,e⟩:=acy v0 v1 x w hw hf t (j+1) (Bn x v0 (w:Int) sl j b) ({r with held:=[]}:Recv) (by rw[hll];exact hl) (λi=>by have:=ht (i+1);simp only[List.getElem?_cons_succ]at this;rw[this];congr 1;omega)
  refine⟨r2, ?_⟩
  have eo:((v0+(j:Int))%4294967296-x.next)%4294967296=(v0+(j:Int)-x.next)%4294967296:=by omega
  have hst:(bif (bif decide ((v0+(j:Int)-x.next)%4294967296<(w:Int))then bif x.fin== -1 then(true,())else(decide ((v0+(j:Int)-x.next)%4294967296<x.fin),())else(false,())).1 then(.next (({r with held:=[]}:Recv),(gr.f ((v0+(j:Int)-x.next)%4294967296,(b.toNat:Int),iM w sl,mu w sl,())).2,(gr.f ((v0+(j:Int)-x.next)%4294967296,(b.toNat:Int),iM w sl,mu w sl,())).1):Stp (Recv×List Int×List Bool) Empty)else .next (({r with held:=[]}:Recv),mu w sl,iM w sl))= .next (({r with held:=[]}:Recv),mu w (Bn x v0 (w:Int) sl j b),iM w (Bn x v0 (w:Int) sl j b)):=by
   have h0:0≤(v0+(j:Int)-x.next)%4294967296:=by omega
   unfold Bn
   generalize(v0+(j:Int)-x.next)%4294967296=o at h0
   by_cases c1:o<(w:Int)
   ·rw[J0 w sl o _ h0 c1 hl (by omega)]
    unfold st1
    rw[decide_eq_true c1]
    by_cases c2:x.fin= -1
    ·rw[show(x.fin== -1)=true by simp[c2]]
     by_cases c3:sl.getD o.toNat 0<0
     ·rw[if_pos c3,if_pos ⟨c1,.inl (by omega),c3⟩];rfl
     ·rw[if_neg c3,if_neg (λh=>c3 h.2.2)];rfl
    ·rw[show(x.fin== -1)=false by simp[c2]]
     by_cases c4:o<x.fin
     ·rw[decide_eq_true c4]
      by_cases c3:sl.getD o.toNat 0<0
      ·rw[if_pos c3,if_pos ⟨c1,.inr c4,c3⟩];rfl
      ·rw[if_neg c3,if_neg (λh=>c3 h.2.2)];rfl
     ·rw[decide_eq_false c4,if_neg (show¬(o<(w:Int)∧(x.fin<0∨o<x.fin)∧sl.getD o.toNat 0<0) from λh=>h.2.1.elim (λh=>by omega) c4)];rfl
   ·rw[decide_eq_false c1,if_neg (show¬(o<(w:Int)∧(x.fin<0∨o<x.fin)∧sl.getD o.toNat 0<0) from λh=>c1 h.1)];rfl
  simp only[List.length_cons,aP,PX,nz,bz,rY,eo,ac,hbt,Ao]
  rw[hst]
  simp only[Stp.elim]
  rw[show(j:Int)+1=((j+1:Nat):Int) by omega]
  simp only[PX,nz,bz,rY]at e
  exact e
theorem Kq {f:Int→Recv→Stp Recv (Int×Recv)}{g:Recv→Recv}(w:Nat)(sl:List Int)(hl:w≤sl.length)(hf:∀(j:Nat) r,f (j:Int) r=bif (iM w sl).getD j false then .next (g r)else .out ((j:Int),g r))(i:Nat)(hi:i+aE (sl.drop i)≤w):∀(n j:Nat) (r:Recv),j+n=w→i≤j→j≤i+aE (sl.drop i)→∃r2,(i+aE (sl.drop i)<w∧aP f 1 n (j:Int) r= .out (((i+aE (sl.drop i):Nat):Int),r2))∨(i+aE (sl.drop i)=w∧aP f 1 n (j:Int) r= .next r2)
 |0,j,r,h,_,h2=>⟨r,.inr ⟨by omega,rfl⟩⟩
 |n+1,j,r,h,h1,h2=>by
  have hj:j<w:=by omega
  rcases Nat.eq_or_lt_of_le h2 with h3|h3
  ·refine⟨g r,.inl ⟨by omega, ?_⟩⟩
   have hjl:j<sl.length:=by omega
   have hneg:=D8 (sl.drop i) sl[j] (by rw[List.getElem?_drop,show i+aE (sl.drop i)=j by omega];exact List.getElem?_eq_getElem hjl)
   simp only[aP,hf]
   rw[uD w sl j hj hl,getD_some (List.getElem?_eq_getElem hjl),decide_eq_false (by omega),←h3]
   rfl
  ·obtain⟨s,hs1,pU⟩:=sN (sl.drop i) (j-i) (by omega)
   rw[List.getElem?_drop,show i+(j-i)=j by omega]at hs1
   obtain⟨r2,h4⟩:=Kq (g:=g) w sl hl hf i hi n (j+1) (g r) (by omega) (by omega) (by omega)
   refine⟨r2, ?_⟩
   have e:aP f 1 (n+1) (j:Int) r=aP f 1 n ((j+1:Nat):Int) (g r):=by
    simp only[aP,hf]
    rw[uD w sl j hj hl,getD_some hs1,decide_eq_true pU]
    simp only[cond_true,Stp.elim]
    rw[show(j:Int)+1=((j+1:Nat):Int) by omega]
   rw[e];exact h4
theorem zX:∀(k k':Nat) (i:Int) (r:List Int),r.length≤k→r.length≤k'→cF k i r=cF k' i r
 |0,k',_,r,h,_=>by
  have:r=[]:=List.eq_nil_of_length_eq_zero (by omega)
  subst this;cases k'<;>simp[cF]
 |k+1,0,_,r,_,h=>by
  have:r=[]:=List.eq_nil_of_length_eq_zero (by omega)
  subst this;simp[cF]
 |k+1,k'+1,i,[],_,_=>by simp[cF]
 |k+1,k'+1,i,s::r,h1,h2=>by
  simp only[List.length_cons]at h1 h2
  simp only[cF]
  have hd:(r.dropWhile (λx=>decide (0≤x))).length≤r.length:=(List.dropWhile_sublist _).length_le
  rw[zX k k' (i+1) r (by omega) (by omega),zX k k' _ (r.dropWhile (λx=>decide (0≤x))) (by omega) (by omega)]
theorem QR (w:Nat)(sl:List Int)(i n:Nat)(h:i+n≤w)(hn:∀(j:Nat) (s:Int),i≤j→j<i+n→sl[j]? =some s→0≤s):((mu w sl).take (i+n)).drop i=(sl.drop i).take n:=by
 apply List.ext_getElem?
 intro k
 unfold mu
 rw[List.getElem?_drop,List.getElem?_take,List.getElem?_take,List.getElem?_drop,List.getElem?_map,List.getElem?_take]
 by_cases hk:k<n
 ·rw[if_pos (by omega),if_pos hk,if_pos (by omega)]
  cases hs:sl[i+k]? with
  |none=>rfl
  |some s=>
   have:=hn (i+k) s (by omega) (by omega) hs
   simp only[Option.map_some,if_neg (show¬s<0 by omega)]
 ·rw[if_neg (by omega),if_neg hk]
theorem IO {p:Int→Bool}(r:List Int):r.take (r.takeWhile p).length=r.takeWhile p:=by
 have h:=List.takeWhile_append_dropWhile (p:=p) (l:=r)
 conv=>lhs;arg 2;rw[←h]
 rw[List.take_left'];rfl
theorem Jj {p:Int→Bool}(r:List Int):r.drop (r.takeWhile p).length=r.dropWhile p:=by
 have h:=List.takeWhile_append_dropWhile (p:=p) (l:=r)
 conv=>lhs;arg 2;rw[←h]
 rw[List.drop_left'];rfl
theorem Ux (v4:Recv)(w:Nat)(sl:List Int)(hw:w≤32)(hl:sl.length=33)(hneg:∀(j:Nat) (s:Int),w≤j→sl[j]? =some s→s<0)(n:Nat):∀(m i:Nat) (r o:Recv),i≤w→w-i<m→n≤i→∃r2,bZ (λa=>(fB (w:Int) (n:Int) v4 (iM w sl) (mu w sl) a).nice) m ((i:Int),r,o)=(r2,{o with held:=o.held++cF 33 ((i:Int)-(n:Int)) (sl.drop i)})
 |0,i,r,o,_,h,_=>by omega
 |m+1,i,r,o,hi,hm,hn=>by
  rcases Nat.eq_or_lt_of_le hi with h|h
  ·subst h
   refine⟨{r with held:=[]}, ?_⟩
   rw[KF 33 _ (sl.drop i) (λs hs=>by
    obtain⟨p,hp,rfl⟩:=List.getElem_of_mem hs
    rw[List.getElem_drop]
    exact hneg (i+p) _ (by omega) (List.getElem?_eq_getElem (by rw[List.length_drop]at hp;omega))),List.append_nil]
   simp only[bZ,PX,fB,decide_eq_false (show¬((i:Int)<(i:Int)) by omega),cond_false,Stp.elim]
  ·have hil:i<sl.length:=by omega
   have hd:sl.drop i=sl[i]::sl.drop (i+1):=List.drop_eq_getElem_cons hil
   have hdl:(sl.drop (i+1)).length≤32:=by rw[List.length_drop];omega
   by_cases hs:sl[i]<0
   ·obtain⟨r2,e⟩:=Ux v4 w sl hw hl hneg n m (i+1) ({r with held:=[]}:Recv) o (by omega) (by omega) (by omega)
    refine⟨r2, ?_⟩
    rw[hd,show cF 33 ((i:Int)-(n:Int)) (sl[i]::sl.drop (i+1))=cF 33 (((i+1:Nat):Int)-(n:Int)) (sl.drop (i+1)) by
     rw[←zX 32 33 _ (sl.drop (i+1)) hdl (by omega)]
     simp only[cF,if_pos hs]
     congr 1;omega]
    rw[←e]
    rw[bZ]
    rw[show(fB (w:Int) (n:Int) v4 (iM w sl) (mu w sl) ((i:Int),r,o)).nice= .next (((i+1:Nat):Int),({r with held:=[]}:Recv),o) by
     simp only[PX,fB,decide_eq_true (show((i:Int)<(w:Int)) by omega),cond_true,ac]
     rw[uD w sl i h (by omega),getD_some (List.getElem?_eq_getElem hil),decide_eq_false (by omega),aj (by omega) (by omega)]
     rfl]
    rfl
   ·have hlead:i+aE (sl.drop i)≤w:=by
     apply Nat.le_of_not_lt
     intro hc
     obtain⟨s,h1,h2⟩:=sN (sl.drop i) (w-i) (by omega)
     rw[List.getElem?_drop,show i+(w-i)=w by omega]at h1
     have:=hneg w s (Nat.le_refl _) h1
     omega
    have hle:aE (sl.drop i)=1+((sl.drop (i+1)).takeWhile (λx=>decide (0≤x))).length:=by
     unfold aE
     rw[hd,List.takeWhile_cons,decide_eq_true (show 0≤sl[i] by omega)]
     simp only[if_true,List.length_cons];omega
    obtain⟨r1,e1⟩:=Kq (g:=λr:Recv=>({r with held:=[]}:Recv)) (f:=λj a=>(nS (iM w sl) j a).nice) w sl (by omega) (λj r=>by
     simp only[PX,nS,ac]) i hlead (w-i) i ({r with held:=[]}:Recv) (by omega) (Nat.le_refl _) (by omega)
    have hseg:((mu w sl).take (i+aE (sl.drop i))).drop i=sl[i]::(sl.drop (i+1)).takeWhile (λx=>decide (0≤x)):=by
     rw[QR w sl i (aE (sl.drop i)) hlead (λj s h1 h2 h3=>by
      obtain⟨s2,h4,h5⟩:=sN (sl.drop i) (j-i) (by omega)
      rw[List.getElem?_drop,show i+(j-i)=j by omega,h3]at h4
      cases h4;exact h5)]
     have:aE (sl.drop i)=((sl.drop i).takeWhile (λx=>decide (0≤x))).length:=rfl
     rw[this,IO,hd,List.takeWhile_cons,decide_eq_true (show 0≤sl[i] by omega)]
     rfl
    have hdd:sl.drop (i+aE (sl.drop i))=(sl.drop (i+1)).dropWhile (λx=>decide (0≤x)):=by
     rw[hle,←Nat.add_assoc,←List.drop_drop,Jj]
    have hr:cF 33 ((i:Int)-(n:Int)) (sl.drop i)=⟨(i:Int)-(n:Int),aF (sl[i]::(sl.drop (i+1)).takeWhile (λx=>decide (0≤x)))⟩::cF 33 (((i+aE (sl.drop i):Nat):Int)-(n:Int)) (sl.drop (i+aE (sl.drop i))):=by
     conv=>lhs;rw[hd]
     rw[hdd]
     have hdw:((sl.drop (i+1)).dropWhile (λx=>decide (0≤x))).length≤32:=Nat.le_trans (List.dropWhile_sublist _).length_le hdl
     rw[←zX 32 33 _ _ hdw (by omega)]
     simp only[cF,if_neg hs]
     congr 2;omega
    rw[hr]
    have hstep:∃r3:Recv,(fB (w:Int) (n:Int) v4 (iM w sl) (mu w sl) ((i:Int),r,o)).nice= .next (((i+aE (sl.drop i):Nat):Int),r3,({o with held:=o.held++[⟨(i:Int)-(n:Int),aF (sl[i]::(sl.drop (i+1)).takeWhile (λx=>decide (0≤x)))⟩]}:Recv)):=by
     simp only[PX,fB,decide_eq_true (show((i:Int)<(w:Int)) by omega),cond_true,ac,d7]
     rw[uD w sl i h (by omega),getD_some (List.getElem?_eq_getElem hil),decide_eq_true (show 0≤sl[i] by omega),aj (m:=(i:Int)-(n:Int)) (by omega) (by omega)]
     simp only[Bool.not_true,cond_false]
     rw[show Int.toNat ((w:Int)-(i:Int))=w-i by omega]
     rcases e1 with⟨h1,h2⟩|⟨h1,h2⟩
     ·rw[h2]
      simp only[Stp.elim,Sum.elim_inl,ac,hseg]
      exact⟨_,rfl⟩
     ·rw[h2]
      rw[h1]at hseg
      simp only[Stp.elim,Sum.elim_inr,h1]
      rw[show(i:Int)+1*((w-i:Nat):Int)=(w:Int) by omega,ac,hseg]
      exact⟨_,rfl⟩
    obtain⟨r3,hst⟩:=hstep
    obtain⟨r2,e⟩:=Ux v4 w sl hw hl hneg n m (i+aE (sl.drop i)) r3 ({o with held:=o.held++[⟨(i:Int)-(n:Int),aF (sl[i]::(sl.drop (i+1)).takeWhile (λx=>decide (0≤x)))⟩]}:Recv) hlead (by omega) (by omega)
    refine⟨r2, ?_⟩
    rw[bZ,hst]
    simp only[Stp.elim]
    rw[e]
    simp only[List.append_assoc,List.singleton_append]
def HA (x:Recv)(w:Nat)(sl:List Int)(z o:Recv):Tr Recv:=
 .lp (dL ((w:Int),(aE sl:Int),(aE sl:Int),({z with held:=[]}:Recv),x,iM w sl,({o with held:=[]}:Recv),mu w sl,())).lp λp=>
  .ite (decide (3<(p.2.held.length:Int))) (.ret x)<| .ite (p.2.fin==0) (.val ((p.2.next+1)%4294967296) λc=> .ret (⟨c,p.2.data,p.2.held,-1,true⟩:Recv))<| .ret p.2
theorem ON (x:Recv)(w:Nat)(sl:List Int)(z o:Recv)(hw:w≤32)(hl:sl.length=33)(hneg:∀(j:Nat) (s:Int),w≤j→sl[j]? =some s→s<0)(hld:aE sl≤w):(HA x w sl z o).nice=if 3<(cF 33 0 (sl.drop (aE sl))).length then x else if o.fin=0 then(⟨(o.next+1)%4294967296,o.data,cF 33 0 (sl.drop (aE sl)),-1,true⟩:Recv)else⟨o.next,o.data,cF 33 0 (sl.drop (aE sl)),o.fin,o.done⟩:=by
 obtain⟨r5,e5⟩:=Ux x w sl hw hl hneg (aE sl) (w-aE sl+1) (aE sl) ({z with held:=[]}:Recv) ({o with held:=[]}:Recv) hld (by omega) (Nat.le_refl _)
 rw[Int.sub_self]at e5
 simp only[HA,PX,dL]
 rw[show Int.toNat ((w:Int)-(aE sl:Int))=w-aE sl by omega,e5]
 simp only[List.nil_append]
 by_cases h3:3<(cF 33 0 (sl.drop (aE sl))).length
 ·rw[if_pos h3,decide_eq_true (show(3:Int)<((cF 33 0 (sl.drop (aE sl))).length:Int) by omega)];rfl
 ·rw[if_neg h3,decide_eq_false (show¬(3:Int)<((cF 33 0 (sl.drop (aE sl))).length:Int) by omega)]
  by_cases h0:o.fin=0
  ·rw[if_pos h0,show(o.fin==0)=true by simp[h0]];rfl
  ·rw[if_neg h0,show(o.fin==0)=false by simp[h0]];rfl
theorem SS (x:Recv)(w:Nat)(sl:List Int)(z:Recv)(F f:Int)(hw:w≤32)(hl:sl.length=33)(hneg:∀(j:Nat) (s:Int),w≤j→sl[j]? =some s→s<0)(hld:aE sl≤w)(hF: -1≤F)(hdn:x.done=false)(hn:0≤x.next)(hf:(F= -1∧f=F)∨(F≠-1∧f=F-(aE sl:Int))):(HA x w sl z (⟨(x.next+(aE sl:Int))%4294967296,x.data++aF (sl.take (aE sl)),x.held,f,false⟩:Recv)).nice=Sw x sl F:=by
 rw[ON x w sl z _ hw hl hneg hld]
 unfold Sw
 by_cases h3:3<(cF 33 0 (sl.drop (aE sl))).length
 ·rw[if_pos h3,if_pos h3]
 ·rw[if_neg h3,if_neg h3]
  simp only[]
  rcases hf with⟨h1,h2⟩|⟨h1,h2⟩
  ·rw[if_neg (show¬f=0 by omega),if_neg (show¬F-(aE sl:Int)=0 by omega),if_pos h1,h2,h1,hdn]
  ·by_cases h4:F-(aE sl:Int)=0
   ·rw[if_pos (show f=0 by omega),if_pos h4,show((x.next+(aE sl:Int))%4294967296+1)%4294967296=(x.next+(aE sl:Int)+1)%4294967296 by omega]
   ·rw[if_neg (show¬f=0 by omega),if_neg h4,if_neg h1,h2,hdn]
theorem MA {α β:Type}{K:α→β}{r:β}{s:α⊕α}(P:α→Prop)(hs:Sum.elim P P s)(h:∀z,P z→K z=r):Sum.elim K K s=r:=by
 cases s with
 |inl a=>exact h a hs
 |inr a=>exact h a hs
theorem aeC (x:Recv)(hx:RV x):∃w:Nat,md x=(w:Int)∧w≤32:=by
 have:=mE x hx.dl
 exact⟨(md x).toNat,by omega,by omega⟩
theorem Lh (xs:List Bool)(t:Bool):qc.f (xs,t,())=dW (λb=>t==b) xs:=by
 simp only[PX,qc,jv]
 rw[jh (λb=>t==b) xs (λj x a h=>by
  simp only[PX,tc,ac,getD_some h])]
 unfold dW
 cases xs.findIdx? (λb=>t==b)<;>rfl
theorem EM (xs:List Bool)(t:Bool):eX.f (xs,t,())=xs.any (λb=>t==b):=by
 simp only[PX,eX,Lh,kD]
theorem Nd (x:Recv)(seq:Int)(t:ae)(fin:Bool)(hs:aX x.held):t7.f (x,seq,t,fin,())=mA x seq t fin:=by
 simp only[PX,t7,pG]
 unfold mA
 cases hok:bg.f (x,())with
 |false=>rfl
 |true=>
 cases hdn:x.done with
 |true=>rfl
 |false=>
 have hx:=(lN x hs).1 hok
 have hpo:cT po x.held:=Ij x hx
 obtain⟨w,hwe,hw⟩:=aeC x hx
 have hsl:=IT x hx seq t
 have hn0:=hx.n0
 have hn1:=hx.n1
 have hf0:=hx.f0
 have hf1:=hx.f1
 obtain⟨bb,hwk⟩:=hx.wk
 simp only[Bool.not_true,cond_false,f9 x hx.dl,hwe,fE,fA,ac]
 have z1:List.replicate w (0:Int)=mu w (List.replicate 33 (-1)):=by
  unfold mu;rw[List.take_replicate,Nat.min_eq_left (by omega),List.map_replicate];rfl
 have z2:List.replicate w false=iM w (List.replicate 33 (-1)):=by
  unfold iM;rw[List.take_replicate,Nat.min_eq_left (by omega),List.map_replicate];rfl
 rw[z1,z2]
 obtain⟨r1,e1⟩:=WF seq t fin (w:Int) x.held (x.held.length:Int) x x w (by omega) x.held 0 0 bb _ (List.replicate 33 (-1)) (⟨0,[],[],0,false⟩:Recv) hwk (Int.le_refl _) (by split<;>omega) (by rw[List.length_replicate];omega) (λj s _ h=>by
  have:=List.eq_of_mem_replicate (List.mem_of_getElem? h);omega) (λp hp=>by have:=hpo p hp;unfold po at this;omega)
 rw[bu x.held _ (aA _) (F:=λ_ p (a:Recv×List Int×List Bool)=>(gS seq t fin (w:Int) [p] (x.held.length:Int) x x 0 a).nice) (by
  intro j p a hp
  simp only[PX,gS,dD,ac,getD_some hp,show Int.toNat 0=0 from rfl,List.getD_cons_zero])]
 rw[e1]
 simp only[Stp.elim]
 have hsn:x.held.foldl (λsl p=>rC sl p.off.toNat p.text) (List.replicate 33 (-1))=oj x.held:=rfl
 rw[hsn]
 obtain⟨r2,e2⟩:=acy seq t x w (by omega) hf0 t 0 (oj x.held) ({r1 with held:=[]}:Recv) (by unfold oj;rw[rT,List.length_replicate];omega) (λi=>by rw[Nat.zero_add])
 rw[show((0:Nat):Int)=0 from rfl]at e2
 rw[aA,e2]
 simp only[Stp.elim,bz,rY]
 have hL:Ao x seq (w:Int) (oj x.held) 0 t=JC x seq t:=by unfold JC;rw[hwe]
 rw[hL]
 have hL2:Ao x seq (md x) (oj x.held) 0 t=JC x seq t:=rfl
 rw[hL2]at hsl
 have ee:((seq+(t.length:Int))%4294967296-x.next)%4294967296=(seq+(t.length:Int)-x.next)%4294967296:=by omega
 rw[ee]
 have he0:0≤(seq+(t.length:Int)-x.next)%4294967296:=by omega
 generalize(seq+(t.length:Int)-x.next)%4294967296=e at he0
 generalize JC x seq t=sl at hsl
 clear e1 e2 hL hL2 hsn z1 z2 ee
 obtain⟨hl,hat⟩:=hsl
 have hneg:∀(j:Nat) (s:Int),w≤j→sl[j]? =some s→s<0:=λj s hj h=>by
  apply Int.not_le.1
  intro h0
  have:=(hat j s h).2.2 h0
  rw[hwe]at this hf1
  split at this<;>omega
 have hany:(iM w sl).drop e.toNat=((sl.drop e.toNat).take (w-e.toNat)).map (λs=>decide (0≤s)):=by
  unfold iM
  rw[←List.map_drop,List.drop_take]
 have hcont:e≤(w:Int)→eX.f (((iM w sl).take (iM w sl).length).drop e.toNat,true,())= !(sl.drop e.toNat).all (λs=>decide (s<0)):=by
  intro hew
  rw[List.take_length,EM,hany]
  rw[Bool.eq_iff_iff]
  simp only[List.any_eq_true,List.mem_map,Bool.not_eq_true',List.all_eq_false]
  constructor
  ·rintro⟨b,⟨s,hs1,rfl⟩,hb⟩
   refine⟨s,List.mem_of_mem_take hs1, ?_⟩
   simp at hb⊢;omega
  ·rintro⟨s,hs1,pU⟩
   refine⟨true,⟨s, ?_, ?_⟩,rfl⟩
   ·obtain⟨k,hk,rfl⟩:=List.getElem_of_mem hs1
    rw[List.getElem_drop]at pU⊢
    have hk2:e.toNat+k<w:=by
     apply Nat.lt_of_not_le
     intro hc
     have:=hneg (e.toNat+k) _ hc (List.getElem?_eq_getElem (by rw[List.length_drop]at hk;omega))
     simp at pU;omega
    rw[List.mem_take_iff_getElem]
    refine⟨k,by rw[List.length_drop];omega, ?_⟩
    rw[List.getElem_drop]
   ·simp at pU⊢;omega
 have hF0: -1≤Kh x sl e fin:=by unfold Kh;split<;>omega
 have hF1:Kh x sl e fin≤(w:Int):=by unfold Kh;rw[hwe]at hf1⊢;split<;>omega
 have hcond:(bif (bif fin then bif x.fin== -1 then bif decide (e≤(w:Int))then(!eX.f (((iM w sl).take (iM w sl).length).drop e.toNat,true,()),())else(false,())else(false,())else(false,())).1 then((w:Int),x,({r2 with held:=[]}:Recv),x,iM w sl,(⟨x.next,x.data,x.held,e,false⟩:Recv),mu w sl,())else((w:Int),x,({r2 with held:=[]}:Recv),x,iM w sl,x,mu w sl,()))=((w:Int),x,({r2 with held:=[]}:Recv),x,iM w sl,(⟨x.next,x.data,x.held,Kh x sl e fin,x.done⟩:Recv),mu w sl,()):=by
  unfold Kh
  cases fin with
  |false=>simp
  |true=>
   by_cases c1:x.fin= -1
   ·rw[show(x.fin== -1)=true by simp[c1]]
    by_cases c2:e≤(w:Int)
    ·rw[decide_eq_true c2,hcont c2,hwe]
     cases hall:(sl.drop e.toNat).all (λs=>decide (s<0))with
     |true=>simp only[cond_true,Bool.not_true,Bool.not_false,true_and,if_pos (show x.fin<0∧e≤(w:Int)∧True from⟨by omega,c2,trivial⟩),hdn]
     |false=>simp
    ·rw[decide_eq_false c2,hwe,if_neg (λh=>c2 h.2.2.1)];rfl
   ·rw[show(x.fin== -1)=false by simp[c1],if_neg (λh=>by have:=h.2.1;omega)];rfl
 have hld0:aE sl≤w:=by
  apply Nat.le_of_not_lt
  intro hc
  obtain⟨s,h1,h2⟩:=sN sl w hc
  have:=hneg w s (Nat.le_refl _) h1
  omega
 obtain⟨r3,e3⟩:=Kq (g:=λr:Recv=>({r with held:=[]}:Recv)) (f:=λj a=>(ru (iM w sl) j a).nice) w sl (by omega) (λj r=>by
  simp only[PX,ru,ac]) 0 (by rw[List.drop_zero,Nat.zero_add];exact hld0) w 0 ({r2 with held:=[]}:Recv) (by omega) (Nat.le_refl _) (Nat.zero_le _)
 rw[List.drop_zero,Nat.zero_add,show((0:Nat):Int)=0 from rfl]at e3
 have hdat:aF (((mu w sl).take (aE sl)).drop 0)=aF (sl.take (aE sl)):=by
  have:=QR w sl 0 (aE sl) (by omega) (λj s _ h2 h3=>by
   obtain⟨s2,h4,h5⟩:=sN sl j (by omega)
   rw[h3]at h4;cases h4;exact h5)
  rw[Nat.zero_add]at this
  rw[this,List.drop_zero]
 generalize hF:Kh x sl e fin=F at hF0 hF1 hcond⊢
 generalize(bif fin then bif x.fin== -1 then bif decide (e≤(w:Int))then(!eX.f (((iM w sl).take (iM w sl).length).drop e.toNat,true,()),())else(false,())else(false,())else(false,())).1=b at hcond⊢
 rw[if_pos (⟨trivial,trivial⟩:True∧True)]
 have hE:∀(z:Recv),(HA x w sl z (⟨(x.next+(aE sl:Int))%4294967296,x.data++aF (sl.take (aE sl)),x.held,if F= -1 then F else F-(aE sl:Int),false⟩:Recv)).nice=Sw x sl F:=λz=>SS x w sl z F _ hw hl hneg hld0 hF0 hdn hn0 (by
  by_cases hh:F= -1
  ·exact .inl ⟨hh,if_pos hh⟩
  ·exact .inr ⟨hh,if_neg hh⟩)
 have hwr:IntKind.wrap .i64 (F-(aE sl:Int))=F-(aE sl:Int):=aj (by omega) (by omega)
 cases b with
 |true=>
  simp only[cond_true]at hcond⊢
  have hfin:e=F:=(by simpa using congrArg (λp=>p.2.2.2.2.2.1.fin) hcond)
  clear hcond
  dsimp only[Tr.nice]
  simp only[PX,eM,hfin]
  rw[show Int.toNat ((w:Int)-0)=w by omega]
  rcases e3 with⟨h1,h2⟩|⟨h1,h2⟩<;>refine(congrArg (Stp.elim _ _) h2).trans ?_ <;>simp only[Stp.elim]<;>refine MA (λz:Int×Recv=>z.1=(aE sl:Int)) (by first|rfl|(show(0:Int)+1*((w:Nat):Int)=_;omega)) ?_ <;>rintro⟨z1,z2⟩ hz<;>simp only[]at hz<;>subst hz<;>simp only[wm,ac,hdat,hwr]<;>by_cases hF2:F= -1
  all_goals (have hE2:=hE z2)
  all_goals (first|rw[if_pos hF2]at hE2|rw[if_neg hF2]at hE2)
  ·rw[show(F != -1)=false by simp[hF2]];exact hE2
  ·rw[show(F != -1)=true by simp[hF2]];exact hE2
  ·rw[show(F != -1)=false by simp[hF2]];exact hE2
  ·rw[show(F != -1)=true by simp[hF2]];exact hE2
 |false=>
  simp only[cond_false]at hcond⊢
  have hfin:x.fin=F:=(by simpa using congrArg (λp=>p.2.2.2.2.2.1.fin) hcond)
  clear hcond
  dsimp only[Tr.nice]
  simp only[PX,eM,hfin,hdn]
  rw[show Int.toNat ((w:Int)-0)=w by omega]
  rcases e3 with⟨h1,h2⟩|⟨h1,h2⟩<;>refine(congrArg (Stp.elim _ _) h2).trans ?_ <;>simp only[Stp.elim]<;>refine MA (λz:Int×Recv=>z.1=(aE sl:Int)) (by first|rfl|(show(0:Int)+1*((w:Nat):Int)=_;omega)) ?_ <;>rintro⟨z1,z2⟩ hz<;>simp only[]at hz<;>subst hz<;>simp only[wm,ac,hdat,hwr]<;>by_cases hF2:F= -1
  all_goals (have hE2:=hE z2)
  all_goals (first|rw[if_pos hF2]at hE2|rw[if_neg hF2]at hE2)
  ·rw[show(F != -1)=false by simp[hF2]];exact hE2
  ·rw[show(F != -1)=true by simp[hF2]];exact hE2
  ·rw[show(F != -1)=false by simp[hF2]];exact hE2
  ·rw[show(F != -1)=true by simp[hF2]];exact hE2
theorem Uq (s:Sndr)(ack:Int):Hf.f (s,ack,())=if tI s ack=true then(cO s (r7 ack s.una),true)else(s,false):=by
 simp only[PX,Hf,uS,aq,bz]
 unfold tI
 cases hk:ba.f (s,())with
 |false=>rfl
 |true=>
  have hs:=(xP s).1 hk
  simp only[tS s hs]
  obtain⟨e1,e2,e3,e4,e5,e6,e7⟩:=hs
  generalize r7 ack s.una=n
  simp only[Bool.not_true,cond_false,Bool.true_and]
  by_cases hn:0≤n∧n≤He s
  ·rw[decide_eq_true hn.1,decide_eq_true hn.2]
   simp only[Bool.and_self,Bool.not_true,cond_false,if_true]
   have hfl:=hn.2
   unfold He at hfl
   unfold cO
   by_cases hc:s.sent<n
   ·have hf:s.finSent=true:=by
     cases hfs:s.finSent with
     |true=>rfl
     |false=>rw[hfs]at hfl;simp only[Bool.false_eq_true,if_false]at hfl;omega
    have hl:=(e6 hf).2
    rw[hf]at hfl;simp only[if_true]at hfl
    have e:(if(s.data.length:Int)<n then(s.data.length:Int)else n)=s.sent:=by rw[if_pos (by omega)];omega
    simp only[if_pos hc,e]
    rw[aj (m:=s.sent+1) (by omega) (by omega),show(n==s.sent+1)=true by simp;omega,aj (by omega) (by omega)]
    simp only[PX,ac,List.take_length,cond_true]
   ·have e:(if(s.data.length:Int)<n then(s.data.length:Int)else n)=n:=by rw[if_neg (by omega)]
    simp only[if_neg hc,e]
    rw[aj (m:=s.sent+1) (by omega) (by omega),show(n==s.sent+1)=false by simp;omega,aj (by omega) (by omega)]
    simp only[PX,ac,List.take_length,cond_false]
  ·have e:(decide (0≤n)&&decide (n≤He s))=false:=by
    rw[Bool.and_eq_false_iff];simp only[decide_eq_false_iff_not];omega
   rw[e];rfl
theorem UZ (w sc:Int)(h0:0≤w)(h1:w≤65535)(h2:sc≤14):IntKind.wrap .i64 (w*2 ^ (min (if sc<0 then 0 else sc).toNat 64))=iu w sc∧iu w sc≤1073725440:=by
 have hr:=HG w sc h0 h1 h2
 have hk:(if sc<0 then 0 else sc).toNat≤14:=by split<;>omega
 rw[Nat.min_eq_left (by omega)]
 unfold iu at hr⊢
 exact⟨aj (by omega) (by omega),hr.2⟩
theorem Fs (w:Int)(o:Opti)(h0:0≤w)(h1:w≤65535)(h2:o.scale≤14):yb.f (w,o,())=iu w o.scale:=by
 obtain⟨e1,e2⟩:=UZ w o.scale h0 h1 h2
 simp only[PX,yb,e1]
 rw[if_neg (by omega)]
theorem H4 (n:Int)(h0:0≤n)(h1:n≤100):IntKind.wrap .u64 n=n:=by rw[zr];omega
theorem OT (x:Conn):aI.f (x,())=(aI.f ({x with tries:=0},())&&(decide (0≤x.tries)&&decide (x.tries≤3))):=by
 rw[I9,I9]
 simp only[]
 generalize az.f (x.tuple,())=b1
 generalize ba.f (x.s,())=b2
 generalize bg.f (x.r,())=b3
 generalize aH.f (x.opts,())=b4
 generalize(decide (1≤x.state)&&decide (x.state≤8))=b5
 generalize(decide (0≤x.most)&&decide (x.most≤1073725440))=b6
 generalize(decide (0≤x.window)&&decide (x.window≤x.most))=b7
 generalize(decide (0≤x.timer)&&bif x.state==7 then decide (x.timer≤4)else decide (x.timer≤3))=b8
 generalize(decide (0≤x.tries)&&decide (x.tries≤3))=b9
 generalize WJ x.state x.s.fin x.s.done x.r.done=b10
 have z:(decide ((0:Int)≤0)&&decide ((0:Int)≤3))=true:=rfl
 rw[z]
 cases b1<;>cases b2<;>cases b3<;>cases b4<;>cases b5<;>cases b6<;>cases b7<;>cases b8<;>simp[Bool.and_comm]
def Ws (x:Conn)(k:Int):Conn:=bif (bif !aI.f ({x with state:=k,timer:=0},())then(true,())else(!(decide (0≤x.timer)&&decide (x.timer≤4)),())).1 then x else bif k==7 then{x with state:=k,timer:=4,tries:=0}else bif k==8 then{x with state:=k,timer:=0,tries:=0}else{x with state:=k}
theorem TQ (x:Conn)(hk:nW x.state x.s.done x.r.done≠x.state):Ws x (nW x.state x.s.done x.r.done)=dP x:=by
 unfold Ws dP Iu
 rw[OT]
 simp only[]
 generalize nW x.state x.s.done x.r.done=k at hk
 rw[if_neg hk]
 generalize(decide (0≤x.timer)&&decide (x.timer≤4))=b1
 generalize(decide (0≤x.tries)&&decide (x.tries≤3))=b2
 cases aI.f (({x with state:=k,timer:=0,tries:=0}:Conn),())with
 |false=>rfl
 |true=>
 cases b1 with
 |false=>cases b2<;>rfl
 |true=>
 cases b2 with
 |false=>rfl
 |true=>
 simp only[Bool.not_true,cond_false,Bool.and_self,if_true]
 by_cases h7:k=7
 ·subst h7;rfl
 ·rw[if_neg h7,show(k==7)=false by simp[h7]]
  simp only[cond_false]
  by_cases h8:k=8
  ·subst h8;rfl
  ·rw[if_neg h8,show(k==8)=false by simp[h8]];rfl
theorem PW (x:Conn)(hk:nW x.state x.s.done x.r.done=x.state):dP x=x:=by
 unfold dP
 split
 ·rfl
 ·rfl
theorem Fo (x:Conn):qM.f (x,())=dP x:=by
 simp only[PX,qM,bX,aq]
 have t1:=TQ x
 have t2:=PW x
 have hst:x.state=1∨x.state=2∨x.state=3∨x.state=5∨x.state=6∨(x.state≠1∧x.state≠2∧x.state≠3∧x.state≠5∧x.state≠6):=by omega
 rcases hst with h|h|h|h|h|⟨h1,h2,h3,h5,h6⟩
 case inr.inr.inr.inr.inr=>
  have e:nW x.state x.s.done x.r.done=x.state:=by
   unfold nW;rw[if_neg h1,if_neg h2,if_neg h3,if_neg h5,if_neg h6]
  rw[t2 e,show(x.state==1)=false by simp[h1],show(x.state==2)=false by simp[h2],show(x.state==3)=false by simp[h3],show(x.state==5)=false by simp[h5],show(x.state==6)=false by simp[h6]]
  rfl
 all_goals (rw[h]at t1 t2⊢;cases hs:x.s.done<;>cases hr:x.r.done<;>rw[hs,hr]at t1 t2<;>first|exact(t2 rfl).symm|exact t1 (by decide))
structure V5 (c:Conn)(g:Segm):Prop where
 co:CO c
 s8:c.state≠8
 sg:ai.f (g,())=true
 n4:bk.f (g,4,())=false
 n2:bk.f (g,2,())=false
 fit:SK c g.ack=true
theorem vd5 (c:Conn)(g:Segm)(h:DT c g=5):V5 c g:=by
 unfold DT at h
 cases h1:aI.f (c,())with
 |false=>rw[h1]at h;simp at h
 |true=>
 cases h2:(c.state==8)with
 |true=>rw[h1,h2]at h;simp at h
 |false=>
 cases h3:ai.f (g,())with
 |false=>rw[h1,h2,h3]at h;simp at h
 |true=>
 rw[h1,h2,h3]at h
 simp only[Bool.not_false,Bool.and_self,cond_true]at h
 cases h4:bk.f (g,4,())with
 |true=>
  rw[h4]at h
  simp only[cond_true]at h
  exfalso;revert h
  cases(g.seq==c.r.next)<;>cases vO g.seq c.r.next (md c.r)<;>simp
 |false=>
 rw[h4]at h
 simp only[cond_false]at h
 cases h5:bk.f (g,2,())with
 |true=>rw[h5]at h;simp at h
 |false=>
 rw[h5]at h
 simp only[cond_false]at h
 refine⟨(pC c).1 h1,by simpa using h2,h3,h4,h5, ?_⟩
 revert h
 cases Uf c g<;>cases bk.f (g,16,())<;>cases SK c g.ack<;>simp
theorem bf (g:Segm):ai.f (g,())=true↔((0≤g.from_∧g.from_≤65535)∧(0≤g.to∧g.to≤65535)∧(0≤g.seq∧g.seq≤4294967295)∧(0≤g.ack∧g.ack≤4294967295)∧(0≤g.flags∧g.flags≤63)∧(0≤g.window∧g.window≤65535)∧aH.f (g.opts,())=true∧g.body.length≤1420):=by
 simp only[PX,ai,cY,bO,U0]
 rw[show((g.body.length≤1420)↔decide (((g.body.length:Nat):Int)≤1420)=true) by simp;omega]
 simp only[←Bool.decide_and,Bool.cond_eq_ite,Bool.if_false_right,Bool.decide_eq_true,Bool.and_eq_true,decide_eq_true_eq]
 constructor
 ·rintro⟨a,b,w,s,k,f,o,bd⟩;exact⟨a,b,s,k,f,w,o,bd⟩
 ·rintro⟨a,b,s,k,f,w,o,bd⟩;exact⟨a,b,w,s,k,f,o,bd⟩
theorem ZW (a b:Int):jr.f (a,b,())=if a<b then a else b:=jE a b
theorem IX (a b:Int):fp.f (a,b,())=if b<a then a else b:=lP a b
theorem Tv (w sc:Int)(h0:0≤w)(h1:w≤65535)(h2:sc≤14):jr.f (1073725440,IntKind.wrap .i64 (w*2 ^ (min (IntKind.wrap .u64 (fp.f (0,sc,()))).toNat 64)),())=iu w sc:=by
 obtain⟨e1,e2⟩:=UZ w sc h0 h1 h2
 rw[IX,show(if sc<0 then(0:Int)else sc)=(if sc<0 then 0 else sc) from rfl,H4 _ (by split<;>omega) (by split<;>omega),e1,ZW,if_neg (by omega)]
theorem JL (a b f k:Int):(bif a != b then(k != 7,())else bif f==0 then(k != 7,())else(false,())).1=decide ((a≠b∨f=0)∧k≠7):=by
 cases h1:(a != b)<;>cases h2:(f==0)<;>cases h3:(k != 7)<;>simp_all
theorem MH (x:Recv)(seq:Int)(t:ae)(fin:Bool)(hx:RV x):aX (mA x seq t fin).held:=(KU x seq t fin hx).small
theorem VQ (c:Conn)(g:Segm)(hs:aX c.r.held):Cl.f (c,g,())=if DT c g=5 then fG c g else c:=by
 simp only[PX,Cl,fw,CZ c g hs]
 by_cases hv:DT c g=5
 ·rw[if_pos hv,show(DT c g != 5)=false by simp[hv]]
  have h:=vd5 c g hv
  have hr:=(lN c.r hs).1 h.co.rcv
  have hb:=gY g h.sg
  have hw:=((bf g).1 h.sg).2.2.2.2.2.1
  have hsc:=(eV c.opts h.co.opt).2
  have hS:=Tv g.window c.opts.scale hw.1 hw.2 hsc
  have tl:∀u:Conn,u.r=c.r→(bif bS.f (c.state,1,3,())then rL.f (({u with r:=ue.f (c.r,g.seq,g.body,gF.f (g,1,()),())}:Conn),())else rL.f (u,()))=if 1≤c.state∧c.state≤3 then dP {u with r:=mA c.r g.seq g.body (gF.f (g,1,()))}else dP u:=by
   intro u hu
   rw[Ni c.r _ _ _ hs (by omega),Fm u (by rw[hu];exact hs),Fm _ (MH c.r _ _ _ hr),bA]
   by_cases h3:1≤c.state∧c.state≤3
   ·rw[if_pos h3,decide_eq_true h3.1,decide_eq_true h3.2];rfl
   ·rw[if_neg h3,show(decide (1≤c.state)&&decide (c.state≤3))=false by rw[Bool.and_eq_false_iff];simp only[decide_eq_false_iff_not];omega];rfl
  simp only[Vz,cond_false]
  unfold fG uP
  by_cases ha:tI c.s g.ack=true
  ·have hso:=KG c.s h.co.snd (r7 g.ack c.s.una) (by
    unfold tI at ha;simp only[Bool.and_eq_true,decide_eq_true_eq]at ha;exact ha.2.1) (by
    unfold tI at ha;simp only[Bool.and_eq_true,decide_eq_true_eq]at ha;exact ha.2.2)
   have hM:fp.f (c.most,iu g.window c.opts.scale,())=if c.most<iu g.window c.opts.scale then iu g.window c.opts.scale else c.most:=by
    rw[IX];split<;>split<;>omega
   simp only[if_pos ha,cond_true,xW,tS _ hso.1,hS,hM]
   have hcnd:(bif (cO c.s (r7 g.ack c.s.una)).una != c.s.una then(c.state != 7,())else bif He (cO c.s (r7 g.ack c.s.una))==0 then(c.state != 7,())else(false,())).1=decide (((cO c.s (r7 g.ack c.s.una)).una≠c.s.una∨He (cO c.s (r7 g.ack c.s.una))=0)∧c.state≠7):=JL _ _ _ _
   rw[hcnd]
   have tl2:=λ(t r:Int)=>tl ({c with s:=cO c.s (r7 g.ack c.s.una),window:=iu g.window c.opts.scale,most:=(if c.most<iu g.window c.opts.scale then iu g.window c.opts.scale else c.most),timer:=t,tries:=r}:Conn) rfl
   by_cases hq:((cO c.s (r7 g.ack c.s.una)).una≠c.s.una∨He (cO c.s (r7 g.ack c.s.una))=0)∧c.state≠7
   ·simp only[decide_eq_true hq,if_pos hq,cond_true]
    by_cases h0:0<He (cO c.s (r7 g.ack c.s.una))
    ·simp only[decide_eq_true h0,if_pos h0,cond_true]
     dsimp only[Tr.nice]
     exact tl2 3 0
    ·simp only[decide_eq_false h0,if_neg h0,cond_false]
     dsimp only[Tr.nice]
     exact tl2 0 0
   ·simp only[decide_eq_false hq,if_neg hq,cond_false]
    dsimp only[Tr.nice]
    exact tl2 c.timer c.tries
  ·simp only[if_neg ha,cond_false]
   dsimp only[Tr.nice]
   exact tl c rfl
 ·rw[if_neg hv,show(DT c g != 5)=true by simp[hv]];rfl
theorem UB (c:Conn)(g:Segm)(hs:aX c.r.held):Cq.f (c,g,())=if DT c g=5 then fG c g else c:=by
 simp only[PX,Cq,bX,B0 c g hs]
 by_cases hv:DT c g=5
 ·rw[if_pos hv,show(DT c g != 5)=false by simp[hv]]
  have h:=vd5 c g hv
  have hr:=(lN c.r hs).1 h.co.rcv
  have hw:=((bf g).1 h.sg).2.2.2.2.2.1
  have hsc:=(eV c.opts h.co.opt).2
  have tl:∀u:Conn,u.r=c.r→(bif (bif c.state==1 then(true,())else bif c.state==2 then(true,())else(c.state==3,())).1 then qM.f (({u with r:=t7.f (c.r,g.seq,g.body,bk.f (g,1,()),())}:Conn),())else qM.f (u,()))=if 1≤c.state∧c.state≤3 then dP {u with r:=mA c.r g.seq g.body (gF.f (g,1,()))}else dP u:=by
   intro u hu
   rw[Nd c.r _ _ _ hs,Fo u,Fo,Me]
   have hk:(bif c.state==1 then(true,())else bif c.state==2 then(true,())else(c.state==3,())).1=decide (1≤c.state∧c.state≤3):=by
    by_cases k1:c.state=1
    ·simp[k1]
    ·by_cases k2:c.state=2
     ·simp[k2]
     ·by_cases k3:c.state=3
      ·simp[k3]
      ·rw[show(c.state==1)=false by simp[k1],show(c.state==2)=false by simp[k2],show(c.state==3)=false by simp[k3],decide_eq_false (by omega)];rfl
   rw[hk]
   by_cases h3:1≤c.state∧c.state≤3
   ·rw[if_pos h3,decide_eq_true h3];rfl
   ·rw[if_neg h3,decide_eq_false h3];rfl
  simp only[Uq,cond_false]
  unfold fG uP
  by_cases ha:tI c.s g.ack=true
  ·have hso:=KG c.s h.co.snd (r7 g.ack c.s.una) (by
    unfold tI at ha;simp only[Bool.and_eq_true,decide_eq_true_eq]at ha;exact ha.2.1) (by
    unfold tI at ha;simp only[Bool.and_eq_true,decide_eq_true_eq]at ha;exact ha.2.2)
   simp only[if_pos ha,cond_true,tS _ hso.1,Fs _ _ hw.1 hw.2 hsc]
   have hcnd:(bif (cO c.s (r7 g.ack c.s.una)).una != c.s.una then(c.state != 7,())else bif He (cO c.s (r7 g.ack c.s.una))==0 then(c.state != 7,())else(false,())).1=decide (((cO c.s (r7 g.ack c.s.una)).una≠c.s.una∨He (cO c.s (r7 g.ack c.s.una))=0)∧c.state≠7):=JL _ _ _ _
   rw[hcnd]
   have tl2:=λ(t r:Int)=>tl ({c with s:=cO c.s (r7 g.ack c.s.una),window:=iu g.window c.opts.scale,most:=(if c.most<iu g.window c.opts.scale then iu g.window c.opts.scale else c.most),timer:=t,tries:=r}:Conn) rfl
   by_cases hq:((cO c.s (r7 g.ack c.s.una)).una≠c.s.una∨He (cO c.s (r7 g.ack c.s.una))=0)∧c.state≠7
   ·simp only[decide_eq_true hq,if_pos hq,cond_true]
    by_cases h0:0<He (cO c.s (r7 g.ack c.s.una))
    ·simp only[decide_eq_true h0,if_pos h0,cond_true]
     dsimp only[Tr.nice]
     exact tl2 3 0
    ·simp only[decide_eq_false h0,if_neg h0,cond_false]
     dsimp only[Tr.nice]
     exact tl2 0 0
   ·simp only[decide_eq_false hq,if_neg hq,cond_false]
    dsimp only[Tr.nice]
    exact tl2 c.timer c.tries
  ·simp only[if_neg ha,cond_false]
   dsimp only[Tr.nice]
   exact tl c rfl
 ·rw[if_neg hv,show(DT c g != 5)=true by simp[hv]];rfl
structure H1 (c u:Conn):Prop where
 tup:u.tuple=c.tuple
 st:u.state=c.state
 op:u.opts=c.opts
 rr:u.r=c.r
 so:SO u.s
 fin:u.s.fin=c.s.fin
 dn:c.s.done=true→u.s.done=true
 m0:0≤u.most
 m1:u.most≤1073725440
 w0:0≤u.window
 w1:u.window≤u.most
 t0:0≤u.timer
 t4:u.timer≤4
 t3:c.state≠7→u.timer≤3
 r0:0≤u.tries
 r3:u.tries≤3
theorem aag (c:Conn)(g:Segm)(h:V5 c g):H1 c (uP c g):=by
 have hc:=h.co
 have hw:=((bf g).1 h.sg).2.2.2.2.2.1
 have hsc:=(eV c.opts hc.opt).2
 have hr:=HG g.window c.opts.scale hw.1 hw.2 hsc
 have a1:=hc.m0
 have a2:=hc.m1
 have a3:=hc.w0
 have a4:=hc.w1
 have a5:=hc.t0
 have a6:=hc.t4
 have a7:=hc.r0
 have a8:=hc.r3
 unfold uP
 split
 ·rename_i ha
  have hso:=KG c.s hc.snd (r7 g.ack c.s.una) (by
    unfold tI at ha;simp only[Bool.and_eq_true,decide_eq_true_eq]at ha;exact ha.2.1) (by
    unfold tI at ha;simp only[Bool.and_eq_true,decide_eq_true_eq]at ha;exact ha.2.2)
  split
  ·refine⟨rfl,rfl,rfl,rfl,hso.1,hso.2.1,hso.2.2, ?_, ?_,hr.1, ?_, ?_, ?_,λ_=> ?_,Int.le_refl _,by show(0:Int)≤3;omega⟩
   ·show 0≤(if c.most<iu g.window c.opts.scale then iu g.window c.opts.scale else c.most);split<;>omega
   ·show(if c.most<iu g.window c.opts.scale then iu g.window c.opts.scale else c.most)≤1073725440;split<;>omega
   ·show iu g.window c.opts.scale≤(if c.most<iu g.window c.opts.scale then iu g.window c.opts.scale else c.most);split<;>omega
   ·show 0≤(if 0<He (cO c.s (r7 g.ack c.s.una))then(3:Int)else 0);split<;>omega
   ·show(if 0<He (cO c.s (r7 g.ack c.s.una))then(3:Int)else 0)≤4;split<;>omega
   ·show(if 0<He (cO c.s (r7 g.ack c.s.una))then(3:Int)else 0)≤3;split<;>omega
  ·refine⟨rfl,rfl,rfl,rfl,hso.1,hso.2.1,hso.2.2, ?_, ?_,hr.1, ?_,a5,a6,hc.t3,a7,a8⟩
   ·show 0≤(if c.most<iu g.window c.opts.scale then iu g.window c.opts.scale else c.most);split<;>omega
   ·show(if c.most<iu g.window c.opts.scale then iu g.window c.opts.scale else c.most)≤1073725440;split<;>omega
   ·show iu g.window c.opts.scale≤(if c.most<iu g.window c.opts.scale then iu g.window c.opts.scale else c.most);split<;>omega
 ·exact⟨rfl,rfl,rfl,rfl,hc.snd,rfl,λh=>h,a1,a2,a3,a4,a5,a6,hc.t3,a7,a8⟩
theorem Sp {s:Sndr}(h:SO s)(hd:s.done=true):s.fin=true:=(h.2.2.2.2.2.2 hd).1
theorem WB {c u:Conn}(hc:CO c)(h8:c.state≠8)(h:H1 c u)(rv:Recv)(hrv:RV rv)(hd:rv.done=c.r.done∨(c.r.done=false∧c.state≤3)):TR ({u with r:=rv}:Conn):=by
 have s1:=hc.s1
 have s8:=hc.s8
 refine⟨by show az.f (u.tuple,())=true;rw[h.tup];exact hc.tup,h.so,(lN rv hrv.small).2 hrv,by show aH.f (u.opts,())=true;rw[h.op];exact hc.opt,by show 1≤u.state;rw[h.st];exact s1,by show u.state≤7;rw[h.st];omega,h.m0,h.m1,h.w0,h.w1,h.t0,h.t4,λhn=>h.t3 (by rw[←h.st];exact hn),h.r0,h.r3, ?_⟩
 show WJ (nW u.state u.s.done rv.done) u.s.fin u.s.done rv.done=true
 rw[h.st,h.fin]
 exact aaH c.state s1 (by omega) c.s.fin c.s.done c.r.done u.s.done rv.done hc.fl h.dn (λhh=>by rw[←h.fin];exact Sp h.so hh) hd
theorem adM (k:Int)(sf sd rd:Bool)(h:WJ k sf sd rd=true)(h1:1≤k)(h3:k≤3):rd=false:=by
 have hk:k=1∨k=2∨k=3:=by omega
 rcases hk with rfl|rfl|rfl<;>revert h<;>revert sf sd rd<;>decide+kernel
theorem SE (x:Conn):(dP x).s=x.s:=by
 unfold dP;repeat' split
 all_goals rfl
theorem Rb (x:Conn):(dP x).r=x.r:=by
 unfold dP;repeat' split
 all_goals rfl
theorem QL (x:Conn)(h:(dP x).state=8)(h8:x.state≠8):x.state=6∧x.s.done=true:=by
 have hl:nW x.state x.s.done x.r.done=8:=by
  unfold dP at h
  split at h
  ·split at h
   ·exact absurd h h8
   ·split at h
    ·simp at h
    ·split at h
     ·assumption
     ·exact h
  ·exact absurd h h8
 unfold nW at hl
 repeat' split at hl
 all_goals first|omega|(rename_i h6 hd;exact⟨by assumption,by assumption⟩)
theorem RI (c:Conn)(g:Segm)(hs:aX c.r.held)(hv:DT c g=5):CO (fG c g)∧(fG c g).tuple=c.tuple∧((fG c g).state=8→c.state=6∧(fG c g).s.done=true)∧aX (fG c g).r.held:=by
 have h:=vd5 c g hv
 have hH:=aag c g h
 have hr:=(lN c.r hs).1 h.co.rcv
 unfold fG
 by_cases h3:1≤c.state∧c.state≤3
 ·rw[if_pos h3]
  have hT:=WB h.co h.s8 hH (mA c.r g.seq g.body (gF.f (g,1,()))) (KU _ _ _ _ hr) (.inr ⟨adM _ _ _ _ h.co.fl h3.1 h3.2,h3.2⟩)
  refine⟨hT.turned,by rw[Cm];exact hH.tup,λh8=> ?_, ?_⟩
  ·have:=QL _ h8 (by show(uP c g).state≠8;rw[hH.st];exact h.s8)
   rw[SE]
   exact⟨by rw[←hH.st];exact this.1,this.2⟩
  ·rw[Rb];exact MH _ _ _ _ hr
 ·rw[if_neg h3]
  have hT:=WB h.co h.s8 hH c.r hr (.inl rfl)
  have e:({uP c g with r:=c.r}:Conn)=uP c g:=by rw[←hH.rr]
  rw[e]at hT
  refine⟨hT.turned,by rw[Cm];exact hH.tup,λh8=> ?_, ?_⟩
  ·have:=QL _ h8 (by rw[hH.st];exact h.s8)
   rw[SE]
   exact⟨by rw[←hH.st];exact this.1,this.2⟩
  ·rw[Rb,hH.rr];exact hs
theorem aai (c:Conn)(g:Segm):DT c g=1∨DT c g=2∨DT c g=3∨DT c g=4∨DT c g=5:=by
 unfold DT
 cases(aI.f (c,())&&(!(c.state==8)&&ai.f (g,())))with
 |false=>exact .inl rfl
 |true=>
  cases bk.f (g,4,())<;>cases(g.seq==c.r.next)<;>cases vO g.seq c.r.next (md c.r)<;>cases bk.f (g,2,())<;>cases Uf c g<;>cases bk.f (g,16,())<;>cases SK c g.ack<;>simp
def dH (c:Conn)(g:Segm):Conn×List Segm×Int:=
 if DT c g=2 then({c with state:=8,timer:=0,tries:=0},[],2)
 else if DT c g=3 then(c,[bt.f (c,())],3)
 else if DT c g=4 then(if c.state=7∧bk.f (g,1,())=true then{c with timer:=4}else c,[bt.f (c,())],4)
 else if DT c g=5 then
  (if(fG c g).state=8 then(fG c g,[],5)
  else((cG.f (fG c g,(fG c g).window,())).1,if(cG.f (fG c g,(fG c g).window,())).2=[]∧aK.f (g,())≠0 then[bt.f ((cG.f (fG c g,(fG c g).window,())).1,())]else(cG.f (fG c g,(fG c g).window,())).2,5))
 else(c,[],1)
theorem Dx (c:Conn)(g:Segm)(hs:aX c.r.held):nP.f (c,g,())=dH c g:=by
 simp only[PX,nP,bX,B0 c g hs,UB c g hs]
 have hv:=aai c g
 unfold dH
 generalize DT c g=v at hv⊢
 rcases hv with rfl|rfl|rfl|rfl|rfl
 ·rfl
 ·rfl
 ·rfl
 ·have e:(bif (4:Int)==4 then bif c.state==7 then(bk.f (g,1,()),())else(false,())else(false,())).1=decide (c.state=7∧bk.f (g,1,())=true):=by
   by_cases h7:c.state=7
   ·simp[h7]
   ·rw[show(c.state==7)=false by simp[h7],decide_eq_false (λh=>h7 h.1)];rfl
  rw[e]
  by_cases hq:c.state=7∧bk.f (g,1,())=true
  ·rw[decide_eq_true hq];simp only[if_pos hq];rfl
  ·rw[decide_eq_false hq];simp only[if_neg hq];rfl
 ·simp only[if_true]
  rw[if_neg (show¬(5:Int)=2 by omega),if_neg (show¬(5:Int)=3 by omega),if_neg (show¬(5:Int)=4 by omega)]
  generalize fG c g=x
  change (bif x.state==8 then(x,[],(5:Int))else bif (bif ((cG.f (x,x.window,())).2.length:Int)==0 then(aK.f (g,()) != 0,())else(false,())).1 then((cG.f (x,x.window,())).1,[bt.f ((cG.f (x,x.window,())).1,())],5)else((cG.f (x,x.window,())).1,(cG.f (x,x.window,())).2,5))=_
  by_cases h8:x.state=8
  ·rw[if_pos h8,show(x.state==8)=true by simp[h8]];rfl
  ·rw[if_neg h8,show(x.state==8)=false by simp[h8]]
   generalize cG.f (x,x.window,())=p
   obtain⟨p1,p2⟩:=p
   cases p2 with
   |nil=>
    by_cases h0:aK.f (g,())=0
    ·simp[h0]
    ·have h0':(aK.f (g,()) != 0)=true:=by simp[h0]
     simp[h0,h0']
   |cons a r=>
    have h0:(((a::r).length:Int)==0)=false:=by rw[beq_eq_false_iff_ne];simp only[List.length_cons];omega
    simp only[h0,cond_false,if_neg (show¬((a::r:List Segm)=[]∧aK.f (g,())≠0) by simp)]
theorem aaz (c:Conn)(w:Int)(hc:SO c.s)(h:(cG.f (c,w,())).2=[]):(cG.f (c,w,())).1=c:=by
 revert h
 simp only[PX,cG,bX,jR]
 cases(bif !aI.f (c,())then(true,())else bif (c.state==8)then(true,())else((c.state==7),())).1 with
 |true=>exact λ_=>rfl
 |false=>
 simp only[cond_false]
 have key:=sR (f:=λa=>(bT w a).nice) (Inv:=λa=>Sent c a.2.1∧(a.2.2=[]→a.2.1=c)) (Q:=λp=>p.2.2=[]→p.2.1=c) (meas:=λa=>Hz a.2.1.s) (λa hi a' he=>by
  rcases qy w c a hi.1 with⟨l,e⟩|⟨a2,e,h1,h2⟩
  ·simp only[e]at he;cases he
  ·simp only[e,Stp.next.injEq]at he;subst he
   refine⟨⟨h1,λh3=> ?_⟩,h2⟩
   exfalso
   obtain⟨a1,a2',al⟩:=a
   revert e
   simp only[PX,bT]
   cases(aZ.f (a2'.s,w,dz.f (a2',()),())).2 with
   |false=>intro e;cases e
   |true=>
    cases((aZ.f (a2'.s,w,dz.f (a2',()),())).1.text==[])<;>cases(aZ.f (a2'.s,w,dz.f (a2',()),())).1.fin<;>(intro e;simp only[Stp.next.injEq,cond_true,cond_false,Bool.not_true,Bool.not_false]at e;subst e;simp at h3)) (λa hi p he=>by
  rcases qy w c a hi.1 with⟨l,e⟩|⟨a2,e,h1,h2⟩
  ·obtain⟨a1,a2',al⟩:=a
   have hl:l=al:=by
    revert e
    simp only[PX,bT]
    cases(aZ.f (a2'.s,w,dz.f (a2',()),())).2 with
    |false=>intro e;cases e;rfl
    |true=>cases((aZ.f (a2'.s,w,dz.f (a2',()),())).1.text==[])<;>cases(aZ.f (a2'.s,w,dz.f (a2',()),())).1.fin<;>(intro e;cases e)
   simp only[e,Stp.out.injEq]at he;subst he;subst hl;exact hi.2
  ·simp only[e]at he;cases he) (Hz c.s+1) (⟨⟨0,0,0⟩,0,⟨0,[],0,false,false,false⟩,⟨0,[],[],0,false⟩,0,0,⟨0,0,false,false,0,0⟩,0,0⟩,c,[]) (Nat.lt_succ_self _) ⟨Sent.refl c hc,λ_=>rfl⟩
 obtain⟨q,hq⟩:∃q,bZ (λa=>(bT w a).nice) (Hz c.s+1) (⟨⟨0,0,0⟩,0,⟨0,[],0,false,false,false⟩,⟨0,[],[],0,false⟩,0,0,⟨0,0,false,false,0,0⟩,0,0⟩,c,[])=q:=⟨_,rfl⟩
 rw[hq]at key
 simp only[hq]
 obtain⟨q1,q2,q3⟩:=q
 simp only[]at key⊢
 intro h3
 have h4:q3=[]:=by
  revert h3
  cases(bif decide (0<(q3.length:Int))then((q2.timer==0),())else(false,())).1<;>exact λh=>h
 subst h4
 rw[key rfl]
 rfl
theorem CF (c:Conn)(g:Segm)(hs:aX c.r.held):tY.f (c,g,())=dH c g:=by
 simp only[PX,tY,fw,CZ c g hs,VQ c g hs,sE,vQ,Me]
 have hv:=aai c g
 have h5:=RI c g hs
 have hb:DT c g=5→g.body.length≤1420:=λh=>gY g (vd5 c g h).sg
 unfold dH
 generalize DT c g=v at hv h5 hb⊢
 rcases hv with rfl|rfl|rfl|rfl|rfl
 ·rfl
 ·rfl
 ·show(c,[ju.f (c,())],(3:Int))=_
  rw[sE];rfl
 ·have e:(bif (4:Int)==4 then bif c.state==7 then(bk.f (g,1,()),())else(false,())else(false,())).1=decide (c.state=7∧bk.f (g,1,())=true):=by
   by_cases h7:c.state=7
   ·simp[h7]
   ·rw[show(c.state==7)=false by simp[h7],decide_eq_false (λh=>h7 h.1)];rfl
  rw[e]
  by_cases hq:c.state=7∧bk.f (g,1,())=true
  ·rw[decide_eq_true hq];simp only[if_pos hq]
   show(({c with timer:=4}:Conn),[ju.f (c,())],(4:Int))=_
   rw[sE];rfl
  ·rw[decide_eq_false hq];simp only[if_neg hq]
   show(c,[ju.f (c,())],(4:Int))=_
   rw[sE];rfl
 ·simp only[if_true]
  rw[if_neg (show¬(5:Int)=2 by omega),if_neg (show¬(5:Int)=3 by omega),if_neg (show¬(5:Int)=4 by omega)]
  obtain⟨hx,-,-,hxs⟩:=h5 rfl
  have hl:=qQ g (by have:=hb rfl;omega)
  generalize fG c g=x at hx hxs⊢
  have hP:=I7 x x.window (by have:=hx.w1;have:=hx.m1;omega) hxs
  have hN:=aaz x x.window hx.snd
  change (bif x.state==8 then(x,[],(5:Int))else bif (bif decide (0<aK.f (g,()))then(((mL.f (x,x.window,())).2.length:Int)==0,())else(false,())).1 then((mL.f (x,x.window,())).1,(mL.f (x,x.window,())).2++[bt.f (x,())],5)else((mL.f (x,x.window,())).1,(mL.f (x,x.window,())).2,5))=_
  rw[hP]
  by_cases h8:x.state=8
  ·rw[if_pos h8,show(x.state==8)=true by simp[h8]];rfl
  ·rw[if_neg h8,show(x.state==8)=false by simp[h8]]
   generalize cG.f (x,x.window,())=p at hN⊢
   obtain⟨p1,p2⟩:=p
   cases p2 with
   |nil=>
    have hN:=hN rfl
    simp only[]at hN
    subst hN
    by_cases h0:aK.f (g,())=0
    ·simp[h0]
    ·rw[decide_eq_true (show 0<aK.f (g,()) by omega)]
     simp[h0]
   |cons a r=>
    have h0:(((a::r).length:Int)==0)=false:=by rw[beq_eq_false_iff_ne];simp only[List.length_cons];omega
    cases decide (0<aK.f (g,()))<;>simp only[h0,cond_true,cond_false,if_neg (show¬((a::r:List Segm)=[]∧aK.f (g,())≠0) by simp)]
theorem Mz (n:Int):bits .and .i64 n 15=n%16:=by
 have h:(BitVec.ofInt 64 15).toNat=2 ^ 4-1:=by decide
 have key:(BitVec.ofInt 64 n&&& BitVec.ofInt 64 15).toNat=(n%((2 ^ 64:Nat):Int)).toNat%2 ^ 4:=by
  rw[BitVec.toNat_and,BitVec.toNat_ofInt,h,Nat.and_two_pow_sub_one_eq_mod]
 show IntKind.i64.wrap ((BitVec.ofInt 64 n&&& BitVec.ofInt 64 15).toNat:Nat)=n%16
 rw[key,dj]
 omega
theorem XK (v:Int):y5.f (v,())=lR.f (v,()):=by
 simp only[PX,y5,lR,de,Mz]
 rcases Bool.eq_false_or_eq_true (af.f (v,32,()))with h|h
 ·rw[h]
  rw[bO]at h
  simp only[Bool.and_eq_true,decide_eq_true_eq]at h
  rw[Int.tmod_eq_emod_of_nonneg h.1]
 ·rw[h];rfl
theorem DU (i:Int)(o:Opti):kx.f (i,o,())=bE.f (i,o,()):=by
 simp only[PX,kx,bE,XK,Wu,cu,bM]
theorem MX (t:Tupl)(h:az.f (t,())=true):(0≤t.ip∧t.ip≤4294967295)∧(0≤t.port∧t.port≤65535)∧(0≤t.my∧t.my≤65535):=by
 simp only[PX,az,cY,bO]at h
 by_cases h1:0≤t.ip∧t.ip≤4294967295
 ·by_cases h2:0≤t.port∧t.port≤65535
  ·by_cases h3:0≤t.my∧t.my≤65535
   ·exact⟨h1,h2,h3⟩
   ·rw[show(decide (0≤t.my)&&decide (t.my≤65535))=false by rw[Bool.and_eq_false_iff];simp only[decide_eq_false_iff_not];omega]at h
    revert h
    cases(decide (0≤t.ip)&&decide (t.ip≤4294967295))<;>cases(decide (0≤t.port)&&decide (t.port≤65535))<;>simp
  ·rw[show(decide (0≤t.port)&&decide (t.port≤65535))=false by rw[Bool.and_eq_false_iff];simp only[decide_eq_false_iff_not];omega]at h
   revert h
   cases(decide (0≤t.ip)&&decide (t.ip≤4294967295))<;>simp
 ·rw[show(decide (0≤t.ip)&&decide (t.ip≤4294967295))=false by rw[Bool.and_eq_false_iff];simp only[decide_eq_false_iff_not];omega]at h
  simp at h
theorem Eu (s:Sndr):ic.f (s,())=(s.una+cZ.f (s,()))%4294967296:=by simp only[PX,ic,bz]
theorem uN:aH.f (bM.f (()),())=true:=by decide+kernel
theorem V6 (c:Conn)(hc:az.f (c.tuple,())=true)(hd:c.r.data.length≤32)(hn:0≤c.r.next∧c.r.next≤4294967295)(sq fl:Int)(b:ae)(h0:0≤sq∧sq≤4294967295)(hf:0≤fl∧fl≤63)(hb:b.length≤1420):ai.f ({bt.f (c,())with seq:=sq,flags:=fl,body:=b},())=true:=by
 rw[bf]
 have ht:=MX c.tuple hc
 have hw:=mE c.r hd
 simp only[PX,bt,f9 c.r hd]
 exact⟨ht.2.2,ht.2.1,h0,hn,hf,⟨hw.1,by omega⟩,uN,hb⟩
theorem DM (c:Conn)(hc:CO c)(hs:aX c.r.held):ai.f (bt.f (c,()),())=true:=by
 have hr:=(lN c.r hs).1 hc.rcv
 have h:=V6 c hc.tup hr.dl ⟨hr.n0,hr.n1⟩ (ic.f (c.s,())) 16 [] (by rw[Eu];omega) (by omega) (by simp)
 have e:({bt.f (c,())with seq:=ic.f (c.s,()),flags:=16,body:=[]}:Segm)=bt.f (c,()):=by simp only[PX,bt]
 rw[e]at h;exact h
theorem KZ (s:Sndr)(w m:Int)(h:(aZ.f (s,w,m,())).2=true):(aZ.f (s,w,m,())).1.seq=ic.f (s,()):=by
 revert h
 simp only[PX,aZ]
 generalize(if 0<(if(IntKind.wrap .i64 ((if w<(-1)then(-1)else w)-cZ.f (s,())))<(if m<(((s.data.take ((s.data.length:Int).toNat)).drop s.sent.toNat).length:Int)then m else(((s.data.take ((s.data.length:Int).toNat)).drop s.sent.toNat).length:Int))then(IntKind.wrap .i64 ((if w<(-1)then(-1)else w)-cZ.f (s,())))else(if m<(((s.data.take ((s.data.length:Int).toNat)).drop s.sent.toNat).length:Int)then m else(((s.data.take ((s.data.length:Int).toNat)).drop s.sent.toNat).length:Int)))then(if(IntKind.wrap .i64 ((if w<(-1)then(-1)else w)-cZ.f (s,())))<(if m<(((s.data.take ((s.data.length:Int).toNat)).drop s.sent.toNat).length:Int)then m else(((s.data.take ((s.data.length:Int).toNat)).drop s.sent.toNat).length:Int))then(IntKind.wrap .i64 ((if w<(-1)then(-1)else w)-cZ.f (s,())))else(if m<(((s.data.take ((s.data.length:Int).toNat)).drop s.sent.toNat).length:Int)then m else(((s.data.take ((s.data.length:Int).toNat)).drop s.sent.toNat).length:Int)))else 0)=n
 generalize(IntKind.wrap .i64 ((if w<(-1)then(-1)else w)-cZ.f (s,())))=v
 generalize(((s.data.take ((s.data.length:Int).toNat)).drop s.sent.toNat).take n.toNat).drop 0=tx
 generalize(((s.data.take ((s.data.length:Int).toNat)).drop s.sent.toNat).length:Int)=ln
 cases ba.f (s,())<;>cases s.fin<;>cases s.finSent<;>cases s.done<;>cases(n==ln)<;>cases(tx==[])<;>cases decide (n<v)<;>simp
theorem EB (c:Conn)(w:Int)(hc:CO c)(hs:aX c.r.held):∀g∈(cG.f (c,w,())).2,ai.f (g,())=true:=by
 have hr:=(lN c.r hs).1 hc.rcv
 simp only[PX,cG,bX,jR]
 cases(bif !aI.f (c,())then(true,())else bif (c.state==8)then(true,())else((c.state==7),())).1 with
 |true=>intro g hg;cases hg
 |false=>
 simp only[cond_false]
 have key:=sR (f:=λa=>(bT w a).nice) (Inv:=λa=>Sent c a.2.1∧(∀g∈a.2.2,ai.f (g,())=true)) (Q:=λp=>∀g∈p.2.2,ai.f (g,())=true) (meas:=λa=>Hz a.2.1.s) (λa hi a' he=>by
  rcases qy w c a hi.1 with⟨l,e⟩|⟨a2,e,h1,h2⟩
  ·simp only[e]at he;cases he
  ·simp only[e,Stp.next.injEq]at he;subst he
   refine⟨⟨h1, ?_⟩,h2⟩
   obtain⟨hS,hl⟩:=hi
   obtain⟨a1,b2,al⟩:=a
   simp only[]at hS hl
   have hre:=hS.re
   have htup:az.f (b2.tuple,())=true:=by rw[hre];exact hc.tup
   have hrr:b2.r=c.r:=by rw[hre]
   have hch:=aZ.c.h (b2.s,w,dz.f (b2,()),()) (Ji hS.so)
   have hsq:=KZ b2.s w (dz.f (b2,()))
   revert e
   simp only[PX,bT]
   simp only[PX]at hch
   generalize aZ.f (b2.s,w,dz.f (b2,()),())=z at hch hsq⊢
   obtain⟨y,b⟩:=z
   cases b with
   |false=>intro e;cases e
   |true=>
    obtain⟨-,hch⟩:=hch
    obtain⟨-,hlen,-,-,-⟩:=hch rfl
    have hsq:=hsq rfl
    simp only[]at hlen hsq
    have hdl:=hS.so.2.2.1
    have hs0:=hS.so.2.2.2.1
    have ok:∀fl:Int,0≤fl∧fl≤63→ai.f (({bt.f (b2,())with seq:=y.seq,flags:=fl,body:=y.text}:Segm),())=true:=λfl hf=>V6 b2 htup (by rw[hrr];exact hr.dl) (by rw[hrr];exact⟨hr.n0,hr.n1⟩) y.seq fl y.text (by rw[hsq,Eu];omega) hf (by omega)
    have fin:∀fl:Int,0≤fl∧fl≤63→∀g∈al++[({bt.f (b2,())with seq:=y.seq,flags:=fl,body:=y.text}:Segm)],ai.f (g,())=true:=by
     intro fl hf g hg
     rcases List.mem_append.1 hg with h3|h3
     ·exact hl g h3
     ·rw[List.mem_singleton.1 h3];exact ok fl hf
    have hfl:(bt.f (b2,())).flags=16:=by simp only[PX,bt]
    simp only[hfl]
    cases(y.text==[])<;>cases y.fin<;>(intro e;simp only[Stp.next.injEq,cond_true,cond_false,Bool.not_true,Bool.not_false]at e;subst e;refine fin _ (by decide+kernel))) (λa hi p he=>by
  rcases qy w c a hi.1 with⟨l,e⟩|⟨a2,e,h1,h2⟩
  ·obtain⟨a1,a2',al⟩:=a
   have hl:l=al:=by
    revert e
    simp only[PX,bT]
    cases(aZ.f (a2'.s,w,dz.f (a2',()),())).2 with
    |false=>intro e;cases e;rfl
    |true=>cases((aZ.f (a2'.s,w,dz.f (a2',()),())).1.text==[])<;>cases(aZ.f (a2'.s,w,dz.f (a2',()),())).1.fin<;>(intro e;cases e)
   simp only[e,Stp.out.injEq]at he;subst he;subst hl;exact hi.2
  ·simp only[e]at he;cases he) (Hz c.s+1) (⟨⟨0,0,0⟩,0,⟨0,[],0,false,false,false⟩,⟨0,[],[],0,false⟩,0,0,⟨0,0,false,false,0,0⟩,0,0⟩,c,[]) (Nat.lt_succ_self _) ⟨Sent.refl c hc.snd,λg hg=>by cases hg⟩
 obtain⟨q,hq⟩:∃q,bZ (λa=>(bT w a).nice) (Hz c.s+1) (⟨⟨0,0,0⟩,0,⟨0,[],0,false,false,false⟩,⟨0,[],[],0,false⟩,0,0,⟨0,0,false,false,0,0⟩,0,0⟩,c,[])=q:=⟨_,rfl⟩
 rw[hq]at key
 simp only[hq]
 obtain⟨q1,q2,q3⟩:=q
 simp only[]at key⊢
 cases(bif decide (0<(q3.length:Int))then((q2.timer==0),())else(false,())).1<;>exact key
theorem Dp (c:Conn)(g:Segm)(hc:CO c)(hs:aX c.r.held):CO (dH c g).1∧(dH c g).1.tuple=c.tuple∧(∀y∈(dH c g).2.1,ai.f (y,())=true)∧aX (dH c g).1.r.held:=by
 have one:∀y∈[bt.f (c,())],ai.f (y,())=true:=λy hy=>by rw[List.mem_singleton.1 hy];exact DM c hc hs
 have nil:∀y∈([]:List Segm),ai.f (y,())=true:=λy hy=>by cases hy
 unfold dH
 split
 ·exact⟨CO.set hc 8 0 0 (.inr rfl) (by omega) (by omega) (λ_=>by omega) (by omega) (by omega),rfl,nil,hs⟩
 ·split
  ·exact⟨hc,rfl,one,hs⟩
  ·split
   ·split
    ·rename_i h7
     exact⟨CO.set hc c.state 4 c.tries (.inl rfl) (by omega) (by omega) (λh=>absurd h7.1 h) hc.r0 hc.r3,rfl,one,hs⟩
    ·exact⟨hc,rfl,one,hs⟩
   ·split
    ·rename_i hv
     obtain⟨hx,hxt,-,hxs⟩:=RI c g hs hv
     generalize fG c g=x at hx hxt hxs⊢
     split
     ·exact⟨hx,hxt,nil,hxs⟩
     ·have hS:=EX x x.window hx.snd
      have hp:=Sent.ok hS hx (hS.tm.elim .inr λe=> .inl (by omega))
      have ht:(cG.f (x,x.window,())).1.tuple=x.tuple:=by rw[hS.re]
      have hr:(cG.f (x,x.window,())).1.r=x.r:=by rw[hS.re]
      refine⟨hp,ht.trans hxt, ?_,by show aX (cG.f (x,x.window,())).1.r.held;rw[hr];exact hxs⟩
      simp only[]
      split
      ·intro y hy
       rw[List.mem_singleton.1 hy];exact DM _ hp (by rw[hr];exact hxs)
      ·exact EB x x.window hx hxs
    ·exact⟨hc,rfl,nil,hs⟩
theorem Mp (t:Tabl)(c:Conn):uv.f (t,c,())=cW.f (t,c,()):=by
 simp only[PX,uv,cW,zT,iL,iy,fw,bX]
theorem X1 (t:Tabl)(c:Conn)(l:Limi)(hs:∀y∈t.conns,aX y.r.held)(hc:aX c.r.held):y6.f (t,c,l,())=lS.f (t,c,l,()):=by
 simp only[PX,y6,lS,zT,iL,fw,bX]
 rw[M7 _ _ (λy hy=>by
  rcases List.mem_append.1 hy with h|h
  ·exact hs y h
  ·rw[List.mem_singleton.1 h];exact hc)]
theorem abx (xs:List Conn)(t:Tupl)(h:decide (0≤dW (λh=>jx t h.tuple) xs)=true):∃i:Nat,dW (λh:Conn=>jx t h.tuple) xs=(i:Int)∧∃hi:i<xs.length,xs[i].tuple=t:=by
 unfold dW at h⊢
 cases hf:xs.findIdx? (λh=>jx t h.tuple)with
 |none=>rw[hf]at h;simp at h
 |some i=>
  obtain⟨h1,h2,-⟩:=List.findIdx?_eq_some_iff_getElem.1 hf
  exact⟨i,rfl,h1,((De _ _).1 h2).symm⟩
theorem uT (xs:List Half)(t:Tupl)(h:decide (0≤dW (λh=>jx t h.tuple) xs)=true):∃i:Nat,dW (λh:Half=>jx t h.tuple) xs=(i:Int)∧∃hi:i<xs.length,xs[i].tuple=t:=by
 unfold dW at h⊢
 cases hf:xs.findIdx? (λh=>jx t h.tuple)with
 |none=>rw[hf]at h;simp at h
 |some i=>
  obtain⟨h1,h2,-⟩:=List.findIdx?_eq_some_iff_getElem.1 hf
  exact⟨i,rfl,h1,((De _ _).1 h2).symm⟩
theorem TO.set {t:Tabl}{l:Limi}(h:TO t l)(i:Nat)(c:Conn)(hc:CO c)(hi:i<t.conns.length)(ht:c.tuple=t.conns[i].tuple):TO (⟨t.conns.set i c,t.waiting⟩:Tabl) l:=by
 have hm:(t.conns.set i c).map Conn.tuple=t.conns.map Conn.tuple:=by
  rw[List.map_set,ht]
  apply List.ext_getElem?
  intro j
  rw[List.getElem?_set]
  split
  ·rename_i hj
   subst hj
   simp[hi]
  ·rfl
 refine⟨h.lim,by show((t.conns.set i c).length:Int)≤l.conns;rw[List.length_set];exact h.nc,h.nw, ?_, ?_,h.dw, ?_⟩
 ·intro y hy
  rcases List.mem_or_eq_of_mem_set hy with h1|h1
  ·exact h.co y h1
  ·rw[h1];exact hc
 ·show((t.conns.set i c).map Conn.tuple).Nodup
  rw[hm];exact h.dc
 ·intro w hw
  show w∈(t.conns.set i c).map Conn.tuple
  rw[hm];exact h.wc w hw
theorem Wh (xs:List Conn)(i:Nat)(c:Conn)(hi:i<xs.length)(ht:c.tuple=xs[i].tuple):(xs.set i c).map Conn.tuple=xs.map Conn.tuple:=by
 rw[List.map_set,ht]
 apply List.ext_getElem?
 intro j
 rw[List.getElem?_set]
 split
 ·rename_i hj
  subst hj
  simp[hi]
 ·rfl
theorem Uv (xs:List Conn)(hd:(xs.map Conn.tuple).Nodup)(i:Nat)(hi:i<xs.length):dW (λh:Conn=>jx xs[i].tuple h.tuple) xs=(i:Int):=by
 have h:=(yZ Conn.tuple xs).2 hd i xs[i] (List.getElem?_eq_getElem hi)
 have h2:=Df (λh:Conn=>jx xs[i].tuple h.tuple) xs i xs[i] (List.getElem?_eq_getElem hi) (o9 _)
 rw[h]at h2
 simpa using h2
theorem ql (t:Tabl)(c:Conn)(hd:(t.conns.map Conn.tuple).Nodup)(i:Nat)(hi:i<t.conns.length)(ht:c.tuple=t.conns[i].tuple):cW.f (t,c,())=⟨t.conns.set i c,t.waiting⟩:=by
 simp only[PX,cW,iL,bX,eJ]
 rw[ht,Uv t.conns hd i hi,decide_eq_true (show(0:Int)≤(i:Int) by omega),ac]
 rfl
theorem CX (t:Tabl)(c:Conn)(l:Limi):lS.f (t,c,l,())=if cH.f ((⟨t.conns++[c],t.waiting++[c.tuple]⟩:Tabl),l,())=true then(⟨t.conns++[c],t.waiting++[c.tuple]⟩,true)else(t,false):=by
 simp only[PX,lS,iL,bX]
 cases cH.f ((⟨t.conns++[c],t.waiting++[c.tuple]⟩:Tabl),l,())<;>rfl
def tT (xs:List Half)(t:Tupl):List Half:=bif decide (0≤dW (λh:Half=>jx t h.tuple) xs)then xs.take (dW (λh:Half=>jx t h.tuple) xs).toNat++xs.drop ((dW (λh:Half=>jx t h.tuple) xs).toNat+1)else xs
theorem AH (xs:List Half)(t:Tupl)(hl:xs.length≤4294967296):rQ.f (xs,t,())=tT xs t:=by
 simp only[PX,rQ,vM,ew]
 unfold tT
 cases h:decide (0≤dW (λh:Half=>jx t h.tuple) xs)with
 |false=>
  rw[show decide (dW (λh:Half=>jx t h.tuple) xs<0)=true by simp at h⊢;exact h]
  simp
 |true=>
  obtain⟨i,e,hi,-⟩:=uT xs t h
  rw[e,decide_eq_false (show¬(i:Int)<0 by omega),aj (by omega) (by omega),ac,show((i:Int)+1).toNat=i+1 by omega]
  simp
theorem AI (xs:List Half)(t:Tupl)(hl:xs.length≤4294967296):n8.f (xs,t,())=tT xs t:=by
 simp only[PX,n8,eq,tz,ew]
 unfold tT
 cases h:decide (0≤dW (λh:Half=>jx t h.tuple) xs)with
 |false=>simp
 |true=>
  obtain⟨i,e,hi,-⟩:=uT xs t h
  rw[e,aj (by omega) (by omega),show((i:Int)==(i:Int)+1)=false by simp;omega,ac,show((i:Int)+1).toNat=i+1 by omega]
  simp only[cond_false,cond_true]
  have hL:(xs.take i++xs.drop (i+1)).length=i+(xs.length-(i+1)):=by
   rw[List.length_append,List.length_take,List.length_drop];omega
  generalize xs.take i++xs.drop (i+1)=L at hL⊢
  rw[List.drop_zero,List.take_left' hL,ac,hL,List.take_left' hL,List.append_assoc,List.take_left' hL]
theorem MV (xs:List Half)(t:Tupl):(tT xs t).Sublist xs:=by
 unfold tT
 cases h:decide (0≤dW (λh:Half=>jx t h.tuple) xs)with
 |false=>exact List.Sublist.refl _
 |true=>
  obtain⟨i,e,hi,-⟩:=uT xs t h
  rw[e,ac,cond_true]
  have h1:(xs.take i++xs.drop (i+1)).Sublist (xs.take i++xs.drop i):=List.Sublist.append (List.Sublist.refl _) (by
   rw[←List.drop_drop];exact List.drop_sublist _ _)
  rw[List.take_append_drop]at h1
  exact h1
theorem HO.sub {xs ys:List Half}(h:HO xs)(hs:ys.Sublist xs):HO ys:=⟨λy hy=>h.ok y (hs.subset hy),List.Nodup.sublist (hs.map _) h.nd,Nat.le_trans hs.length_le h.len⟩
theorem Jl (xs:List Half)(t:Tupl)(hd:(xs.map Half.tuple).Nodup):t∉(tT xs t).map Half.tuple:=by
 unfold tT
 cases h:decide (0≤dW (λh:Half=>jx t h.tuple) xs)with
 |false=>
  rw[kD]at h
  rw[cond_false,←vj,h];simp
 |true=>
  obtain⟨i,e,hi,ht⟩:=uT xs t h
  rw[e,ac,cond_true,List.map_append,List.mem_append]
  have h1:xs.map Half.tuple=(xs.take i).map Half.tuple++t::(xs.drop (i+1)).map Half.tuple:=by
   conv=>lhs;rw[←List.take_append_drop i xs,List.drop_eq_getElem_cons hi]
   rw[List.map_append,List.map_cons,ht]
  rw[h1]at hd
  obtain⟨-,h3,h4⟩:=List.nodup_append.1 hd
  rintro(h5|h5)
  ·exact h4 t h5 t (List.mem_cons_self ..) rfl
  ·exact(List.nodup_cons.1 h3).1 h5
theorem Mv (g:Segm):fy.f (g,())=bif bk.f (g,4,())then[]else[(j1.f (g,())).1]:=by
 simp only[PX,fy,j1]
 cases bk.f (g,4,())with
 |true=>rfl
 |false=>cases bk.f (g,16,())<;>rfl
theorem TJ (g:Segm):vb.f (g,())=j1.f (g,()):=by
 simp only[PX,vb,j1,Me,vQ,iZ,cu,bM]
theorem Ju (d:Door)(g:Segm):lQ.f (d,g,())=(d,fy.f (g,()),0):=by
 simp only[PX,lQ,TJ,kh,fy]
 cases(j1.f (g,())).2<;>rfl
theorem zV (g:Segm)(hg:ai.f (g,())=true):∀y∈fy.f (g,()),ai.f (y,())=true:=by
 have h:=(bf g).1 hg
 rw[Mv]
 cases h4:bk.f (g,4,())with
 |true=>intro y hy;cases hy
 |false=>
  intro y hy
  rw[cond_false,List.mem_singleton]at hy
  subst hy
  simp only[PX,j1,h4,bz,cond_false]
  cases bk.f (g,16,())with
  |true=>
   rw[bf]
   exact⟨h.2.1,h.1,h.2.2.2.1,by show(0:Int)≤0∧(0:Int)≤4294967295;omega,by show(0:Int)≤4∧(4:Int)≤63;omega,by show(0:Int)≤0∧(0:Int)≤65535;omega,uN,by simp⟩
  |false=>
   rw[bf]
   refine⟨h.2.1,h.1,by show(0:Int)≤0∧(0:Int)≤4294967295;omega, ?_,by show(0:Int)≤20∧(20:Int)≤63;omega,by show(0:Int)≤0∧(0:Int)≤65535;omega,uN,by simp⟩
   show 0≤(g.seq+aK.f (g,()))%4294967296∧(g.seq+aK.f (g,()))%4294967296≤4294967295
   omega
theorem LT (n:Int):oq.f (n,())=ji.f (n,()):=by
 simp only[PX,oq,ji,l0,bz,Int.add_zero]
def yE (t:Tupl)(iss irs:Int)(o:Opti)(w:Int):Conn:=⟨t,1,⟨(iss+1)%4294967296,[],0,false,false,false⟩,⟨(irs+1)%4294967296,[],[],-1,false⟩,iu w o.scale,iu w o.scale,o,0,0⟩
theorem Db (t:Tupl)(iss irs:Int)(o:Opti)(w:Int)(ho:aH.f (o,())=true)(h0:0≤w)(h1:w≤65535):uh.f (t,iss,irs,o,w,())=yE t iss irs o w:=by
 have hs:=(eV o ho).2
 have hw:af.f (w,16,())=true:=by rw[cY,decide_eq_true h0,decide_eq_true h1];rfl
 simp only[PX,uh,ho,hw,Bool.not_true,cond_false,ji,bz,Int.add_zero]
 rw[Fs w o h0 h1 hs,show((irs+1)%4294967296%4294967296)=(irs+1)%4294967296 by omega]
 rfl
theorem B5 (t:Tupl)(iss irs:Int)(o:Opti)(w:Int)(ho:aH.f (o,())=true)(h0:0≤w)(h1:w≤65535):tM.f (t,iss,irs,o,w,())=yE t iss irs o w:=by
 have hs:=(eV o ho).2
 have hw:af.f (w,16,())=true:=by rw[cY,decide_eq_true h0,decide_eq_true h1];rfl
 have e:=(UZ w o.scale h0 h1 hs).1
 have hl:IntKind.wrap .u64 (fp.f (0,o.scale,()))=if o.scale<0 then 0 else o.scale:=by
  rw[IX,H4 _ (by split<;>omega) (by split<;>omega)]
 simp only[PX,tM,ii,de,ho,hw,Bool.not_true,cond_false,LT,ji,iZ,bz,Int.add_zero]
 rw[hl,e,show((irs+1)%4294967296%4294967296)=(irs+1)%4294967296 by omega]
 rfl
theorem yK (t:Tupl)(iss irs:Int)(o:Opti)(w:Int)(ht:az.f (t,())=true)(ho:aH.f (o,())=true)(h0:0≤w)(h1:w≤65535):CO (yE t iss irs o w)∧aX (yE t iss irs o w).r.held:=by
 have hs:=(eV o ho).2
 have hr:=HG w o.scale h0 h1 hs
 have hsm:aX (yE t iss irs o w).r.held:=λy hy=>by cases hy
 refine⟨⟨ht, ?_, ?_,ho,by show(1:Int)≤1;omega,by show(1:Int)≤8;omega,hr.1,hr.2,hr.1,Int.le_refl _,Int.le_refl _,by show(0:Int)≤4;omega,λ_=>by show(0:Int)≤3;omega,Int.le_refl _,by show(0:Int)≤3;omega,rfl⟩,hsm⟩
 ·refine⟨by show 0≤(iss+1)%4294967296;omega,by show(iss+1)%4294967296≤4294967295;omega,by show(0:Nat)≤48;omega,Int.le_refl _,by show(0:Int)≤((0:Nat):Int);omega,λh=>(by cases h),λh=>(by cases h)⟩
 ·rw[lN _ hsm]
  exact⟨by show 0≤(irs+1)%4294967296;omega,by show(irs+1)%4294967296≤4294967295;omega,by show(0:Nat)≤32;omega,by show(0:Nat)≤3;omega,Int.le_refl _,by show(-1:Int)≤md _;unfold md;simp[yE],by show(-1:Int)≠0;omega,⟨0,by simp[yE,eb]⟩,λh=>(by cases h)⟩
theorem vv (i:Int)(o:Opti)(ho:aH.f (o,())=true):aH.f (bE.f (i,o,()),())=true:=by
 have hm:0≤fS.f (i,())∧fS.f (i,())≤65535:=by
  simp only[PX,fS,aq]
  by_cases h:0≤i∧i≤7
  ·rw[decide_eq_true h.1,decide_eq_true h.2]
   have:i=0∨i=1∨i=2∨i=3∨i=4∨i=5∨i=6∨i=7:=by omega
   rcases this with rfl|rfl|rfl|rfl|rfl|rfl|rfl|rfl<;>decide+kernel
  ·rw[show(decide (0≤i)&&decide (i≤7))=false by rw[Bool.and_eq_false_iff];simp only[decide_eq_false_iff_not];omega]
   simp
 have hsc: -1≤(lR.f (o.echo,())).1∧(lR.f (o.echo,())).1≤14:=by
  simp only[PX,lR,Mz]
  cases(bif !af.f (o.echo,32,())then(true,())else((bits .and .i64 o.echo 32)==0,())).1 with
  |true=>simp only[cond_true];omega
  |false=>
   by_cases h:o.echo%16=15
   ·rw[show(o.echo%16==15)=true by simp[h]];simp only[cond_true,cond_false];omega
   ·rw[show(o.echo%16==15)=false by simp[h]];simp only[cond_false];omega
 simp only[PX,bE,bM]
 cases hs:o.stamp with
 |false=>
  simp only[cond_false]
  simp only[PX,aH,aq,cY,bO,decide_eq_true hm.1,decide_eq_true hm.2]
  rfl
 |true=>
  have hv:0≤o.val∧o.val≤4294967295:=by
   simp only[PX,aH,hs,aq,cY,bO,Bool.not_true,cond_false]at ho
   by_cases h:0≤o.val∧o.val≤4294967295
   ·exact h
   ·rw[show(decide (0≤o.val)&&decide (o.val≤4294967295))=false by rw[Bool.and_eq_false_iff];simp only[decide_eq_false_iff_not];omega]at ho
    revert ho
    cases(decide (0≤o.mss)&&decide (o.mss≤65535))<;>cases(decide (-1≤o.scale)&&decide (o.scale≤14))<;>simp
  simp only[cond_true]
  cases(lR.f (o.echo,())).2.2 with
  |false=>
   simp only[cond_false]
   simp only[PX,aH,aq,cY,bO,decide_eq_true hm.1,decide_eq_true hm.2]
   rfl
  |true=>
   simp only[cond_true]
   simp only[PX,aH,aq,cY,bO,decide_eq_true hm.1,decide_eq_true hm.2,decide_eq_true hsc.1,decide_eq_true hsc.2,decide_eq_true hv.1,decide_eq_true hv.2]
   rfl
def yF (d:Door)(c:Conn)(g:Segm)(made:Int):Door×List Segm×Int:=
 if cH.f ((⟨d.table.conns++[c],d.table.waiting++[c.tuple]⟩:Tabl),d.limits,())=true then
  ({d with halves:=tT d.halves c.tuple,table:=⟨d.table.conns++[(dH c g).1],d.table.waiting++[c.tuple]⟩},(dH c g).2.1,made)
 else(d,[],0)
theorem MN (t:Tabl)(l:Limi)(c:Conn)(g:Segm)(hs:aX c.r.held)(hT:cH.f ((⟨t.conns++[c],t.waiting++[c.tuple]⟩:Tabl),l,())=true):cW.f ((⟨t.conns++[c],t.waiting++[c.tuple]⟩:Tabl),(dH c g).1,())=⟨t.conns++[(dH c g).1],t.waiting++[c.tuple]⟩:=by
 have h:=(Pb _ _).1 hT
 have hc:=h.co c (by simp)
 have hr:=Dp c g hc hs
 rw[ql _ _ h.dc t.conns.length (by simp) (by simp[hr.2.1])]
 simp
theorem R2 (d:Door)(c:Conn)(g:Segm)(m:Int)(hd:fV d)(hc:aX c.r.held)(hl:d.halves.length≤4294967296):xt.f (d,c,g,m,())=yF d c g m:=by
 simp only[PX,xt,kh,X1 d.table c d.limits hd hc,CX,CF c g hc,Mp,AH _ _ hl]
 unfold yF
 by_cases hT:cH.f ((⟨d.table.conns++[c],d.table.waiting++[c.tuple]⟩:Tabl),d.limits,())=true
 ·rw[if_pos hT,if_pos hT,MN d.table d.limits c g hc hT];rfl
 ·rw[if_neg hT,if_neg hT];rfl
def Ai (d:Door)(t:Tupl)(g:Segm):Door×List Segm×Int:=
 if bH.f (d,())=true∧az.f (t,())=true∧ai.f (g,())=true∧¬0≤ar.f (d.table,t,())then
  if 0≤ax.f (d.halves,t,())then
   if g.ack≠((d.halves.getD (ax.f (d.halves,t,())).toNat (Ty.zero .half)).iss+1)%4294967296 then(d,fy.f (g,()),0)
   else if g.seq≠((d.halves.getD (ax.f (d.halves,t,())).toNat (Ty.zero .half)).irs+1)%4294967296 then(d,[],0)
   else yF d (yE t (d.halves.getD (ax.f (d.halves,t,())).toNat (Ty.zero .half)).iss (d.halves.getD (ax.f (d.halves,t,())).toNat (Ty.zero .half)).irs (d.halves.getD (ax.f (d.halves,t,())).toNat (Ty.zero .half)).opts g.window) g 1
  else if(bC.f (d.keys,t,(g.seq+ -1)%4294967296,(g.ack+ -1)%4294967296,())).2.2=true then
   yF d (yE t ((g.ack+ -1)%4294967296) ((g.seq+ -1)%4294967296) (bE.f ((bC.f (d.keys,t,(g.seq+ -1)%4294967296,(g.ack+ -1)%4294967296,())).2.1,g.opts,())) g.window) g 2
  else(d,fy.f (g,()),0)
 else(d,[],0)
theorem z0 (xs:List Half)(t:Tupl)(h:HO xs)(hf:0≤ax.f (xs,t,())):aH.f ((xs.getD (ax.f (xs,t,())).toNat (Ty.zero .half)).opts,())=true:=by
 rw[ew]at hf⊢
 obtain⟨i,e,hi,-⟩:=uT xs t (decide_eq_true hf)
 rw[e,ac,getD_some (List.getElem?_eq_getElem hi)]
 have:=h.ok _ (List.getElem_mem hi)
 unfold rH at this
 simp only[Bool.and_eq_true]at this
 exact this.2.2.2.2.1
theorem aeG {A B C:Type}(x:A×B×C):(x.1,x.2.1,x.2.2)=x:=rfl
theorem U3 (d:Door)(t:Tupl)(g:Segm)(hs:fV d)(hl:d.halves.length≤4294967296):Hs.f (d,t,g,())=Ai d t g:=by
 simp only[PX,Hs,kh,IQ d t g hs,iy,vM,iZ,bz,Ju,Lr,DU]
 unfold Ai
 cases h1:bH.f (d,())with
 |false=>simp
 |true=>
 cases h2:az.f (t,())with
 |false=>simp
 |true=>
 cases h3:ai.f (g,())with
 |false=>simp
 |true=>
 have hD:=(iG d).1 h1
 have hg:=(bf g).1 h3
 have hw:=hg.2.2.2.2.2.1
 by_cases h4:0≤ar.f (d.table,t,())
 ·rw[if_neg (λh=>h.2.2.2 h4),decide_eq_true h4];rfl
 rw[if_pos ⟨rfl,rfl,rfl,h4⟩,decide_eq_false h4]
 simp only[Bool.and_self,Bool.not_true,cond_false]
 by_cases h5:0≤ax.f (d.halves,t,())
 ·rw[if_pos h5,decide_eq_true h5]
  have ho:=z0 d.halves t hD.hal h5
  obtain⟨h,hh⟩:∃h,d.halves.getD (ax.f (d.halves,t,())).toNat (Ty.zero .half)=h:=⟨_,rfl⟩
  rw[hh]at ho
  rw[cond_true,hh]
  by_cases h6:g.ack=(h.iss+1)%4294967296
  ·rw[if_neg (λhh=>hh h6),show(g.ack != (h.iss+1)%4294967296)=false by simp[h6]]
   by_cases h7:g.seq=(h.irs+1)%4294967296
   ·rw[if_neg (λhh=>hh h7),show(g.seq != (h.irs+1)%4294967296)=false by simp[h7]]
    rw[B5 t h.iss h.irs h.opts g.window ho hw.1 hw.2,R2 d _ g 1 hs (yK t h.iss h.irs h.opts g.window h2 ho hw.1 hw.2).2 hl]
    generalize yF d (yE t h.iss h.irs h.opts g.window) g 1=z
    exact aeG z
   ·rw[if_pos h7,show(g.seq != (h.irs+1)%4294967296)=true by simp[h7]];rfl
  ·rw[if_pos h6,show(g.ack != (h.iss+1)%4294967296)=true by simp[h6]];rfl
 ·rw[if_neg h5,decide_eq_false h5]
  have ho:=vv (bC.f (d.keys,t,(g.seq+ -1)%4294967296,(g.ack+ -1)%4294967296,())).2.1 g.opts hg.2.2.2.2.2.2.1
  generalize bC.f (d.keys,t,(g.seq+ -1)%4294967296,(g.ack+ -1)%4294967296,())=k at ho⊢
  rw[cond_false]
  cases h6:k.2.2 with
  |false=>simp
  |true=>
   simp only[Bool.not_true,cond_false,if_true]
   have e1:=B5 t ((g.ack+ -1)%4294967296) ((g.seq+ -1)%4294967296) (bE.f (k.2.1,g.opts,())) g.window ho hw.1 hw.2
   have e2:=R2 d (yE t ((g.ack+ -1)%4294967296) ((g.seq+ -1)%4294967296) (bE.f (k.2.1,g.opts,())) g.window) g 2 hs (yK t _ _ _ g.window h2 ho hw.1 hw.2).2 hl
   simp only[e1,e2]
theorem Vy (d:Door)(t:Tupl)(g:Segm)(hl:d.halves.length≤4294967296):Hk.f (d,t,g,())=Ai d t g:=by
 simp only[PX,Hk,jO,bz]
 unfold Ai
 have e:(bif !bH.f (d,())then(true,())else bif !az.f (t,())then(true,())else bif !ai.f (g,())then(true,())else(decide (0≤ar.f (d.table,t,())),())).1= !decide (bH.f (d,())=true∧az.f (t,())=true∧ai.f (g,())=true∧¬0≤ar.f (d.table,t,())):=by
  by_cases h4:0≤ar.f (d.table,t,())
  ·rw[decide_eq_true h4];cases bH.f (d,())<;>cases az.f (t,())<;>cases ai.f (g,())<;>simp[h4]
  ·rw[decide_eq_false h4];cases bH.f (d,())<;>cases az.f (t,())<;>cases ai.f (g,())<;>simp[h4]
 rw[e]
 by_cases hq:bH.f (d,())=true∧az.f (t,())=true∧ai.f (g,())=true∧¬0≤ar.f (d.table,t,())
 case neg=>rw[decide_eq_false hq,if_neg hq];rfl
 rw[decide_eq_true hq,if_pos hq]
 obtain⟨h1,h2,h3,h4⟩:=hq
 have hD:=(iG d).1 h1
 have hg:=(bf g).1 h3
 have hw:=hg.2.2.2.2.2.1
 have L:∀(c:Conn) (m:Int),aX c.r.held→(c.tuple=t)→(bif !(lS.f (d.table,c,d.limits,())).2 then(d,([]:List Segm),(0:Int))else(({d with halves:=n8.f (d.halves,t,()),table:=cW.f ((lS.f (d.table,c,d.limits,())).1,(nP.f (c,g,())).1,())}:Door),(nP.f (c,g,())).2.1,m))=yF d c g m:=by
  intro c m hc ht
  rw[CX,Dx c g hc,AI _ _ hl]
  unfold yF
  by_cases hT:cH.f ((⟨d.table.conns++[c],d.table.waiting++[c.tuple]⟩:Tabl),d.limits,())=true
  ·rw[if_pos hT,if_pos hT]
   simp only[Bool.not_true,cond_false]
   rw[MN d.table d.limits c g hc hT,ht]
  ·rw[if_neg hT,if_neg hT];rfl
 simp only[Bool.not_true,cond_false]
 by_cases h5:0≤ax.f (d.halves,t,())
 ·rw[if_pos h5]
  simp only[decide_eq_true h5,cond_true]
  have ho:=z0 d.halves t hD.hal h5
  generalize d.halves.getD (ax.f (d.halves,t,())).toNat (Ty.zero .half)=h at ho⊢
  by_cases h6:g.ack=(h.iss+1)%4294967296
  ·rw[if_neg (λhh=>hh h6)]
   simp only[show(g.ack != (h.iss+1)%4294967296)=false by simp[h6],cond_false]
   by_cases h7:g.seq=(h.irs+1)%4294967296
   ·rw[if_neg (λhh=>hh h7)]
    simp only[show(g.seq != (h.irs+1)%4294967296)=false by simp[h7],cond_false]
    rw[←L _ 1 (yK t h.iss h.irs h.opts g.window h2 ho hw.1 hw.2).2 rfl,←Db t h.iss h.irs h.opts g.window ho hw.1 hw.2]
    rfl
   ·rw[if_pos h7]
    simp only[show(g.seq != (h.irs+1)%4294967296)=true by simp[h7],cond_true]
    rfl
  ·rw[if_pos h6]
   simp only[show(g.ack != (h.iss+1)%4294967296)=true by simp[h6],cond_true]
   rfl
 ·rw[if_neg h5]
  simp only[decide_eq_false h5,cond_false]
  have ho:=vv (bC.f (d.keys,t,(g.seq+ -1)%4294967296,(g.ack+ -1)%4294967296,())).2.1 g.opts hg.2.2.2.2.2.2.1
  generalize bC.f (d.keys,t,(g.seq+ -1)%4294967296,(g.ack+ -1)%4294967296,())=k at ho⊢
  cases h6:k.2.2 with
  |false=>
   simp only[Bool.not_false,cond_true,Bool.false_eq_true,if_false]
   rfl
  |true=>
   simp only[Bool.not_true,cond_false,if_true]
   rw[←L _ 2 (yK t _ _ _ g.window h2 ho hw.1 hw.2).2 rfl,←Db t _ _ _ g.window ho hw.1 hw.2]
   rfl
def tB (src:Int)(g:Segm):Tupl:=⟨src,g.from_,g.to⟩
def DP (d:Door)(k:Nat)(g:Segm):Door×List Segm×Int:=
 if(dH (d.table.conns.getD k (Ty.zero .conn)) g).2.2=3 then
  if d.chal=d.limits.chal then({d with table.conns:=d.table.conns.set k (dH (d.table.conns.getD k (Ty.zero .conn)) g).1},[],0)
  else({d with table.conns:=d.table.conns.set k (dH (d.table.conns.getD k (Ty.zero .conn)) g).1,chal:=d.chal+1},(dH (d.table.conns.getD k (Ty.zero .conn)) g).2.1,0)
 else({d with table.conns:=d.table.conns.set k (dH (d.table.conns.getD k (Ty.zero .conn)) g).1},(dH (d.table.conns.getD k (Ty.zero .conn)) g).2.1,0)
def Y6 (d:Door)(t:Tupl)(g:Segm):Door:=
 if 0≤ax.f (d.halves,t,())∧g.seq=((d.halves.getD (ax.f (d.halves,t,())).toNat (Ty.zero .half)).irs+1)%4294967296 then{d with halves:=tT d.halves t}else d
def GL (d:Door)(src:Int)(g:Segm):Door×List Segm×Int:=
 if bH.f (d,())=true∧af.f (src,32,())=true∧ai.f (g,())=true then
  if g.to≠d.port then(d,fy.f (g,()),0)
  else if 0≤ar.f (d.table,tB src g,())then DP d (ar.f (d.table,tB src g,())).toNat g
  else bif bk.f (g,4,())then(Y6 d (tB src g) g,[],0)
  else bif bk.f (g,2,())&&(!bk.f (g,16,())&& !bk.f (g,1,()))then((lm.f (d,tB src g,g,())).1,(lm.f (d,tB src g,g,())).2,0)
  else bif bk.f (g,16,())&& !bk.f (g,2,())then Ai d (tB src g) g
  else bif bk.f (g,16,())then(d,fy.f (g,()),0)else(d,[],0)
 else(d,[],0)
theorem Dm (d:Door)(t:Tupl)(h:0≤ar.f (d.table,t,())):∃k:Nat,ar.f (d.table,t,())=(k:Int)∧∃hk:k<d.table.conns.length,d.table.conns[k].tuple=t:=by
 rw[eJ]at h⊢
 exact abx _ _ (decide_eq_true h)
theorem abw (d:Door)(k:Nat)(g:Segm)(hs:fV d)(hD:DO d)(hk:k<d.table.conns.length):zy.f (d,(k:Int),g,())=DP d k g:=by
 have hsk:aX (d.table.conns.getD k (Ty.zero .conn)).r.held:=by
  rw[getD_some (List.getElem?_eq_getElem hk)];exact hs _ (List.getElem_mem hk)
 have k0:=hD.k0
 have k1:=hD.k1
 have k2:=hD.tab.lim.k1
 simp only[PX,zy,kh,ac,CF _ g hsk]
 unfold DP
 rw[aj (by omega) (by omega)]
 by_cases h3:(dH (d.table.conns.getD k (Ty.zero .conn)) g).2.2=3
 ·rw[if_pos h3,show((dH (d.table.conns.getD k (Ty.zero .conn)) g).2.2==3)=true by rw[h3];rfl,cond_true]
  by_cases h4:d.chal=d.limits.chal
  ·rw[if_pos h4,show(d.chal==d.limits.chal)=true by simp[h4]];rfl
  ·rw[if_neg h4,show(d.chal==d.limits.chal)=false by simp[h4]];rfl
 ·rw[if_neg h3,show((dH (d.table.conns.getD k (Ty.zero .conn)) g).2.2==3)=false from beq_eq_false_iff_ne.2 h3];rfl
theorem MK (s:Int)(g:Segm):uC.f (s,g,())=tB s g:=by simp only[PX,uC,tB]
theorem DK (s:Int)(g:Segm):uf.f (s,g,())=tB s g:=by simp only[PX,uf,tB]
theorem ok3 (a b c:Bool):(bif !a then(true,())else bif !b then(true,())else(!c,())).1= !decide (a=true∧b=true∧c=true):=by cases a<;>cases b<;>cases c<;>rfl
theorem hs3 (a b c:Bool):(bif a then bif !b then(!c,())else(false,())else(false,())).1=(a&&(!b&& !c)):=by cases a<;>cases b<;>cases c<;>rfl
theorem pU (a b:Bool):(bif a then(!b,())else(false,())).1=(a&& !b):=by cases a<;>cases b<;>rfl
theorem R5 (p:Prop)[Decidable p](a b:Int):(bif decide p then(a==b,())else(false,())).1=decide (p∧a=b):=by
 by_cases h:p<;>by_cases h2:a=b<;>simp[h,h2]
theorem Uw (d:Door)(src:Int)(g:Segm)(hs:fV d)(hl:d.halves.length≤4294967296):Hp.f (d,src,g,())=GL d src g:=by
 simp only[PX,Hp,kh,BU d hs,de,pe,MK,iy,vM,iZ,bz,Ju,Me,abD d _ g hs,U3 d _ g hs hl,AH _ _ hl,ok3,hs3,pU]
 unfold GL
 by_cases hq:bH.f (d,())=true∧af.f (src,32,())=true∧ai.f (g,())=true
 case neg=>rw[decide_eq_false hq,if_neg hq];rfl
 rw[decide_eq_true hq,if_pos hq,Bool.not_true,cond_false]
 have hD:=(iG d).1 hq.1
 by_cases hp:g.to=d.port
 case neg=>rw[if_pos hp,show(g.to != d.port)=true by simp[hp]];rfl
 rw[if_neg (λh=>h hp),show(g.to != d.port)=false by simp[hp],cond_false]
 by_cases hc:0≤ar.f (d.table,tB src g,())
 ·rw[if_pos hc,decide_eq_true hc,cond_true]
  obtain⟨k,e,hk,-⟩:=Dm d _ hc
  rw[e,ac,abw d k g hs hD hk]
 rw[if_neg hc,decide_eq_false hc,cond_false]
 cases bk.f (g,4,())with
 |true=>
  rw[cond_true,cond_true,R5]
  unfold Y6
  by_cases hr:0≤ax.f (d.halves,tB src g,())∧g.seq=((d.halves.getD (ax.f (d.halves,tB src g,())).toNat (Ty.zero .half)).irs+1)%4294967296
  ·rw[decide_eq_true hr,if_pos hr];rfl
  ·rw[decide_eq_false hr,if_neg hr];rfl
 |false=>
  rw[cond_false,cond_false]
theorem TB (d:Door)(src:Int)(g:Segm)(hs:fV d)(hl:d.halves.length≤4294967296):Hv.f (d,src,g,())=GL d src g:=by
 simp only[PX,Hv,jO,DK,bz,Vy d _ g hl,AI _ _ hl,ok3,hs3,pU]
 unfold GL
 by_cases hq:bH.f (d,())=true∧af.f (src,32,())=true∧ai.f (g,())=true
 case neg=>rw[decide_eq_false hq,if_neg hq];rfl
 rw[decide_eq_true hq,if_pos hq,Bool.not_true,cond_false]
 have hD:=(iG d).1 hq.1
 by_cases hp:g.to=d.port
 case neg=>rw[if_pos hp,show(g.to != d.port)=true by simp[hp]];rfl
 rw[if_neg (λh=>h hp),show(g.to != d.port)=false by simp[hp],cond_false]
 by_cases hc:0≤ar.f (d.table,tB src g,())
 ·rw[if_pos hc,decide_eq_true hc,cond_true]
  obtain⟨k,e,hk,ht⟩:=Dm d _ hc
  rw[e,ac]
  have hsk:aX (d.table.conns.getD k (Ty.zero .conn)).r.held:=by
   rw[getD_some (List.getElem?_eq_getElem hk)];exact hs _ (List.getElem_mem hk)
  have hck:CO (d.table.conns.getD k (Ty.zero .conn)):=by
   rw[getD_some (List.getElem?_eq_getElem hk)];exact hD.tab.co _ (List.getElem_mem hk)
  have hrk:=Dp _ g hck hsk
  have hset:cW.f (d.table,(dH (d.table.conns.getD k (Ty.zero .conn)) g).1,())=⟨d.table.conns.set k (dH (d.table.conns.getD k (Ty.zero .conn)) g).1,d.table.waiting⟩:=ql d.table _ hD.tab.dc k hk (by rw[hrk.2.1,getD_some (List.getElem?_eq_getElem hk)])
  have k0:=hD.k0
  have k1:=hD.k1
  have k2:=hD.tab.lim.k1
  rw[Dx _ g hsk]
  unfold DP
  by_cases h3:(dH (d.table.conns.getD k (Ty.zero .conn)) g).2.2=3
  ·rw[if_pos h3,show((dH (d.table.conns.getD k (Ty.zero .conn)) g).2.2==3)=true by rw[h3];rfl,cond_true]
   by_cases h4:d.chal=d.limits.chal
   ·rw[if_pos h4,show(d.chal==d.limits.chal)=true by simp[h4]]
    show(({d with table:=cW.f (d.table,(dH (d.table.conns.getD k (Ty.zero .conn)) g).1,())}:Door),([]:List Segm),(0:Int))=_
    rw[hset]
   ·rw[if_neg h4,show(d.chal==d.limits.chal)=false by simp[h4]]
    show(({d with table:=cW.f (d.table,(dH (d.table.conns.getD k (Ty.zero .conn)) g).1,()),chal:=IntKind.wrap .i64 (d.chal+1)}:Door),(dH (d.table.conns.getD k (Ty.zero .conn)) g).2.1,(0:Int))=_
    rw[hset,aj (by omega) (by omega)]
  ·rw[if_neg h3,show((dH (d.table.conns.getD k (Ty.zero .conn)) g).2.2==3)=false from beq_eq_false_iff_ne.2 h3]
   show(({d with table:=cW.f (d.table,(dH (d.table.conns.getD k (Ty.zero .conn)) g).1,())}:Door),(dH (d.table.conns.getD k (Ty.zero .conn)) g).2.1,(0:Int))=_
   rw[hset]
 rw[if_neg hc,decide_eq_false hc,cond_false]
 cases bk.f (g,4,())with
 |true=>
  rw[cond_true,cond_true,R5]
  unfold Y6
  by_cases hr:0≤ax.f (d.halves,tB src g,())∧g.seq=((d.halves.getD (ax.f (d.halves,tB src g,())).toNat (Ty.zero .half)).irs+1)%4294967296
  ·rw[decide_eq_true hr,if_pos hr];rfl
  ·rw[decide_eq_false hr,if_neg hr];rfl
 |false=>
  rw[cond_false,cond_false]
theorem Ib (t:Tabl)(x:Tupl):¬0≤ar.f (t,x,())↔x∉t.conns.map Conn.tuple:=by
 rw[eJ,←vj,←kD]
 simp
theorem aaj (xs:List Half)(x:Tupl):¬0≤ax.f (xs,x,())↔x∉xs.map Half.tuple:=by
 rw[ew,←vj,←kD]
 simp
theorem ZN (d:Door)(c:Conn)(g:Segm)(m:Int)(hD:DO d)(hs:aX c.r.held)(hn:c.tuple∉d.table.conns.map Conn.tuple):DO (yF d c g m).1∧∀y∈(yF d c g m).2.1,ai.f (y,())=true:=by
 unfold yF
 by_cases hT:cH.f ((⟨d.table.conns++[c],d.table.waiting++[c.tuple]⟩:Tabl),d.limits,())=true
 case neg=>rw[if_neg hT];exact⟨hD,λy hy=>by cases hy⟩
 rw[if_pos hT]
 have h:=(Pb _ _).1 hT
 have hc:=h.co c (by simp)
 have hr:=Dp c g hc hs
 have hset:=TO.set h d.table.conns.length (dH c g).1 hr.1 (by simp) (by simp[hr.2.1])
 have e:(d.table.conns++[c]).set d.table.conns.length (dH c g).1=d.table.conns++[(dH c g).1]:=by simp
 rw[e]at hset
 have hsub:=MV d.halves c.tuple
 refine⟨⟨hD.port,hD.c0,hD.c1,hD.keys,hset,HO.sub hD.hal hsub, ?_,hD.k0,hD.k1, ?_⟩,hr.2.2.1⟩
 ·show((tT d.halves c.tuple).length:Int)≤d.limits.halves
  have:=hsub.length_le
  have:=hD.nh
  omega
 ·intro y hy hm
  have hy2:y∈tT d.halves c.tuple:=hy
  have hm2:y.tuple∈(d.table.conns++[(dH c g).1]).map Conn.tuple:=hm
  rw[List.map_append,List.mem_append]at hm2
  rcases hm2 with h1|h1
  ·exact hD.ap y (hsub.subset hy2) h1
  ·simp only[List.map_cons,List.map_nil,List.mem_singleton,hr.2.1]at h1
   have hy3:=List.mem_map_of_mem (f:=Half.tuple) hy2
   rw[h1]at hy3
   exact Jl d.halves c.tuple hD.hal.nd hy3
theorem Xs (g:Segm):(fy.f (g,())).length≤1:=by
 rw[Mv];cases bk.f (g,4,())<;>simp
theorem aah (d:Door)(t:Tupl)(g:Segm)(hD:DO d):DO (Ai d t g).1∧∀y∈(Ai d t g).2.1,ai.f (y,())=true:=by
 have nil:∀y∈([]:List Segm),ai.f (y,())=true:=λy hy=>by cases hy
 unfold Ai
 split
 ·rename_i hq
  obtain⟨h1,h2,h3,h4⟩:=hq
  have hg:=(bf g).1 h3
  have hw:=hg.2.2.2.2.2.1
  have hn:=(Ib d.table t).1 h4
  split
  ·rename_i h5
   have ho:=z0 d.halves t hD.hal h5
   split
   ·exact⟨hD,zV g h3⟩
   ·split
    ·exact⟨hD,nil⟩
    ·exact ZN d _ g 1 hD (yK t _ _ _ g.window h2 ho hw.1 hw.2).2 hn
  ·split
   ·have ho:=vv (bC.f (d.keys,t,(g.seq+ -1)%4294967296,(g.ack+ -1)%4294967296,())).2.1 g.opts hg.2.2.2.2.2.2.1
    exact ZN d _ g 2 hD (yK t _ _ _ g.window h2 ho hw.1 hw.2).2 hn
   ·exact⟨hD,zV g h3⟩
 ·exact⟨hD,nil⟩
theorem UX (xs:List Half)(h:Half)(n:Int):og.f (xs,h,n,())=if(xs.length:Int)<n∧fa.f (xs++[h],())=true then(xs++[h],true)else(xs,false):=by
 simp only[PX,og,eq,List.nil_append]
 by_cases h1:n≤(xs.length:Int)
 ·rw[decide_eq_true h1,if_neg (by omega)];rfl
 ·rw[decide_eq_false h1]
  cases h2:fa.f (xs++[h],())with
  |true=>rw[if_pos ⟨by omega,rfl⟩];rfl
  |false=>rw[if_neg (by simp)];rfl
theorem X4 (d:Door)(t:Tupl)(g:Segm)(hk:dZ.f (d.keys,())=true)(ht:az.f (t,())=true)(hg:ai.f (g,())=true)(sq:Int)(h0:0≤sq∧sq≤4294967295):ai.f (({ey.f (d,t,g,())with seq:=sq}:Segm),())=true:=by
 have hp:=(bf g).1 hg
 have h1:=MX t ht
 have ho:=Ew g.opts d.clock (by rw[ii];exact hp.2.2.2.2.2.2.1)
 rw[ii]at ho
 rw[bf]
 simp only[PX,ey,bz]
 exact⟨h1.2.2,h1.2.1,h0,by omega,by omega,by omega,ho,by simp⟩
theorem aaM (d:Door)(t:Tupl)(g:Segm)(hD:DO d)(ht:az.f (t,())=true)(hg:ai.f (g,())=true):DO (lm.f (d,t,g,())).1∧(∀y∈(lm.f (d,t,g,())).2,ai.f (y,())=true)∧(lm.f (d,t,g,())).1.table=d.table∧(lm.f (d,t,g,())).1={d with halves:=(lm.f (d,t,g,())).1.halves}:=by
 have nil:∀y∈([]:List Segm),ai.f (y,())=true:=λy hy=>by cases hy
 have hp:=(bf g).1 hg
 have hsq:=VI d t g
 have ha:=X4 d t g hD.keys ht hg
 have hown:∀y∈[ey.f (d,t,g,())],ai.f (y,())=true:=λy hy=>by
  rw[List.mem_singleton.1 hy]
  exact ha (ey.f (d,t,g,())).seq ⟨hsq.1,hsq.2 ht hD.keys hp.2.2.1⟩
 rw[M0,(iG d).2 hD,ht,hg]
 simp only[Bool.and_self,cond_true]
 by_cases h5:0≤ax.f (d.halves,t,())
 ·rw[decide_eq_true h5,cond_true]
  have hiss:0≤(d.halves.getD (ax.f (d.halves,t,())).toNat (Ty.zero .half)).iss∧(d.halves.getD (ax.f (d.halves,t,())).toNat (Ty.zero .half)).iss≤4294967295:=by
   rw[ew]at h5⊢
   obtain⟨i,e,hi,-⟩:=uT d.halves t (decide_eq_true h5)
   rw[e,ac,getD_some (List.getElem?_eq_getElem hi)]
   have:=hD.hal.ok _ (List.getElem_mem hi)
   unfold rH at this
   simp only[Bool.and_eq_true,bO,decide_eq_true_eq]at this
   exact this.2.1
  generalize d.halves.getD (ax.f (d.halves,t,())).toNat (Ty.zero .half)=h at hiss⊢
  cases(h.irs != g.seq)with
  |true=>exact⟨hD,nil,rfl,rfl⟩
  |false=>exact⟨hD,λy hy=>by
    simp only[cond_false,List.mem_singleton]at hy
    rw[hy];exact ha h.iss hiss,rfl,rfl⟩
 ·rw[decide_eq_false h5,cond_false]
  by_cases h4:0≤ar.f (d.table,t,())
  ·rw[decide_eq_false (show¬ar.f (d.table,t,())<0 by omega),cond_false]
   exact⟨hD,hown,rfl,rfl⟩
  ·rw[decide_eq_true (show ar.f (d.table,t,())<0 by omega),cond_true,UX]
   refine⟨?_,hown,rfl,rfl⟩
   by_cases h6:(d.halves.length:Int)<d.limits.halves∧fa.f (d.halves++[(⟨t,(ey.f (d,t,g,())).seq,g.seq,jk.f (g.opts,()),0,g.window⟩:Half)],())=true
   ·rw[if_pos h6]
    refine⟨hD.port,hD.c0,hD.c1,hD.keys,hD.tab,(ZZ _).1 h6.2, ?_,hD.k0,hD.k1, ?_⟩
    ·show(((d.halves++[_]).length:Nat):Int)≤d.limits.halves
     rw[List.length_append,List.length_singleton];omega
    ·intro y hy
     rcases List.mem_append.1 hy with h7|h7
     ·exact hD.ap y h7
     ·rw[List.mem_singleton.1 h7]
      exact(Ib d.table t).1 h4
   ·rw[if_neg h6];exact hD
theorem ab5 (d:Door)(k:Nat)(g:Segm)(hs:fV d)(hD:DO d)(hk:k<d.table.conns.length):DO (DP d k g).1∧∀y∈(DP d k g).2.1,ai.f (y,())=true:=by
 have nil:∀y∈([]:List Segm),ai.f (y,())=true:=λy hy=>by cases hy
 have hsk:aX (d.table.conns.getD k (Ty.zero .conn)).r.held:=by
  rw[getD_some (List.getElem?_eq_getElem hk)];exact hs _ (List.getElem_mem hk)
 have hck:CO (d.table.conns.getD k (Ty.zero .conn)):=by
  rw[getD_some (List.getElem?_eq_getElem hk)];exact hD.tab.co _ (List.getElem_mem hk)
 have hr:=Dp _ g hck hsk
 have ht:(dH (d.table.conns.getD k (Ty.zero .conn)) g).1.tuple=d.table.conns[k].tuple:=by
  rw[hr.2.1,getD_some (List.getElem?_eq_getElem hk)]
 have k0:=hD.k0
 have k1:=hD.k1
 have hset:=TO.set hD.tab k _ hr.1 hk ht
 have hmap:=Wh d.table.conns k _ hk ht
 have base:∀ch:Int,0≤ch→ch≤d.limits.chal→DO ({d with table.conns:=d.table.conns.set k (dH (d.table.conns.getD k (Ty.zero .conn)) g).1,chal:=ch}:Door):=λch h0 h1=>by
  refine⟨hD.port,hD.c0,hD.c1,hD.keys,hset,hD.hal,hD.nh,h0,h1,λy hy hm=>hD.ap y hy ?_⟩
  have hm2:y.tuple∈(d.table.conns.set k (dH (d.table.conns.getD k (Ty.zero .conn)) g).1).map Conn.tuple:=hm
  rw[hmap]at hm2;exact hm2
 unfold DP
 split
 ·split
  ·exact⟨base d.chal k0 k1,nil⟩
  ·exact⟨base (d.chal+1) (by omega) (by omega),hr.2.2.1⟩
 ·exact⟨base d.chal k0 k1,hr.2.2.1⟩
theorem abp (src:Int)(g:Segm)(h1:af.f (src,32,())=true)(hg:ai.f (g,())=true):az.f (tB src g,())=true:=by
 have hp:=(bf g).1 hg
 simp only[PX,az,tB,h1,cY,decide_eq_true hp.1.1,decide_eq_true hp.1.2,decide_eq_true hp.2.1.1,decide_eq_true hp.2.1.2]
 rfl
theorem adz (d:Door)(t:Tupl)(g:Segm)(hD:DO d):DO (Y6 d t g):=by
 unfold Y6
 split
 ·have hsub:=MV d.halves t
  refine⟨hD.port,hD.c0,hD.c1,hD.keys,hD.tab,HO.sub hD.hal hsub, ?_,hD.k0,hD.k1,λy hy=>hD.ap y (hsub.subset hy)⟩
  show((tT d.halves t).length:Int)≤d.limits.halves
  have:=hsub.length_le
  have:=hD.nh
  omega
 ·exact hD
theorem Y0 (d:Door)(src:Int)(g:Segm)(hs:fV d)(hD:DO d):DO (GL d src g).1∧∀y∈(GL d src g).2.1,ai.f (y,())=true:=by
 have nil:∀y∈([]:List Segm),ai.f (y,())=true:=λy hy=>by cases hy
 unfold GL
 split
 ·rename_i hq
  obtain⟨h1,h2,h3⟩:=hq
  have ht:=abp src g h2 h3
  split
  ·exact⟨hD,zV g h3⟩
  ·split
   ·rename_i hc
    obtain⟨k,e,hk,-⟩:=Dm d _ hc
    rw[e,ac]
    exact ab5 d k g hs hD hk
   ·cases bk.f (g,4,())with
    |true=>exact⟨adz d _ g hD,nil⟩
    |false=>
     rw[cond_false]
     cases(bk.f (g,2,())&&(!bk.f (g,16,())&& !bk.f (g,1,())))with
     |true=>exact⟨(aaM d _ g hD ht h3).1,(aaM d _ g hD ht h3).2.1⟩
     |false=>
      rw[cond_false]
      cases(bk.f (g,16,())&& !bk.f (g,2,()))with
      |true=>exact aah d _ g hD
      |false=>
       rw[cond_false]
       cases bk.f (g,16,())with
       |true=>exact⟨hD,zV g h3⟩
       |false=>exact⟨hD,nil⟩
 ·exact⟨hD,nil⟩
theorem HH (xs:List Conn)(c:Conn)(t:Tupl)(hn:t∉xs.map Conn.tuple)(ht:c.tuple=t):dW (λh:Conn=>jx t h.tuple) (xs++[c])=(xs.length:Int):=by
 apply YP
 ·rw[←vj]at hn;simpa using hn
 ·show jx t c.tuple=true
  rw[ht];exact o9 t
structure Let (d:Door)(t:Tupl)(x:Door):Prop where
 con:ar.f (x.table,t,())=(d.table.conns.length:Int)
 hal:¬0≤ax.f (x.halves,t,())
theorem aaY (d:Door)(c:Conn)(g:Segm)(m:Int)(hD:DO d)(hs:aX c.r.held)(hn:c.tuple∉d.table.conns.map Conn.tuple)(hT:cH.f ((⟨d.table.conns++[c],d.table.waiting++[c.tuple]⟩:Tabl),d.limits,())=true):Let d c.tuple (yF d c g m).1∧(yF d c g m).2.2=m:=by
 unfold yF
 rw[if_pos hT]
 have h:=(Pb _ _).1 hT
 have hc:=h.co c (by simp)
 have hr:=Dp c g hc hs
 refine⟨⟨?_, ?_⟩,rfl⟩
 ·rw[eJ]
  exact HH d.table.conns _ c.tuple hn hr.2.1
 ·rw[aaj]
  exact Jl d.halves c.tuple hD.hal.nd
def YZ (d:Door)(t:Tupl):Half:=d.halves.getD (ax.f (d.halves,t,())).toNat (Ty.zero .half)
theorem aan (xs:List Half)(t:Tupl)(h:HO xs)(hf:0≤ax.f (xs,t,())):(0≤(xs.getD (ax.f (xs,t,())).toNat (Ty.zero .half)).iss∧(xs.getD (ax.f (xs,t,())).toNat (Ty.zero .half)).iss≤4294967295)∧(0≤(xs.getD (ax.f (xs,t,())).toNat (Ty.zero .half)).irs∧(xs.getD (ax.f (xs,t,())).toNat (Ty.zero .half)).irs≤4294967295):=by
 rw[ew]at hf⊢
 obtain⟨i,e,hi,-⟩:=uT xs t (decide_eq_true hf)
 rw[e,ac,getD_some (List.getElem?_eq_getElem hi)]
 have:=h.ok _ (List.getElem_mem hi)
 unfold rH at this
 simp only[Bool.and_eq_true,bO,decide_eq_true_eq]at this
 exact⟨this.2.1,this.2.2.1⟩
theorem WQ (d:Door)(t:Tupl)(g:Segm):((Ai d t g).2.2=0∧(Ai d t g).1=d∧(Ai d t g).2.1.length≤1)∨(DO (Ai d t g).1∧Let d t (Ai d t g).1∧(((Ai d t g).2.2=1∧0≤ax.f (d.halves,t,())∧(YZ d t).iss=(g.ack+ -1)%4294967296∧(YZ d t).irs=(g.seq+ -1)%4294967296)∨((Ai d t g).2.2=2∧¬0≤ax.f (d.halves,t,())∧(bC.f (d.keys,t,(g.seq+ -1)%4294967296,(g.ack+ -1)%4294967296,())).2.2=true))):=by
 have hA:=λhD=>(aah d t g hD).1
 unfold Ai at hA⊢
 by_cases hq:bH.f (d,())=true∧az.f (t,())=true∧ai.f (g,())=true∧¬0≤ar.f (d.table,t,())
 case neg=>rw[if_neg hq];exact .inl ⟨rfl,rfl,by simp⟩
 simp only[if_pos hq]at hA⊢
 obtain⟨h1,h2,h3,h4⟩:=hq
 have hD:=(iG d).1 h1
 have hg:=(bf g).1 h3
 have hw:=hg.2.2.2.2.2.1
 have hn:=(Ib d.table t).1 h4
 have hrl:=Xs g
 have hA:=hA hD
 by_cases h5:0≤ax.f (d.halves,t,())
 ·simp only[if_pos h5]at hA⊢
  have ho:=z0 d.halves t hD.hal h5
  have hr:=aan d.halves t hD.hal h5
  unfold YZ
  generalize d.halves.getD (ax.f (d.halves,t,())).toNat (Ty.zero .half)=h at ho hA hr⊢
  by_cases h6:g.ack=(h.iss+1)%4294967296
  ·by_cases h7:g.seq=(h.irs+1)%4294967296
   ·simp only[if_neg (λhh:g.ack≠(h.iss+1)%4294967296=>hh h6),if_neg (λhh:g.seq≠(h.irs+1)%4294967296=>hh h7)]at hA⊢
    have hs:=(yK t h.iss h.irs h.opts g.window h2 ho hw.1 hw.2).2
    by_cases hT:cH.f ((⟨d.table.conns++[yE t h.iss h.irs h.opts g.window],d.table.waiting++[t]⟩:Tabl),d.limits,())=true
    ·have hL:=aaY d (yE t h.iss h.irs h.opts g.window) g 1 hD hs hn hT
     exact .inr ⟨hA,hL.1,.inl ⟨hL.2,h5,by omega,by omega⟩⟩
    ·have e:yF d (yE t h.iss h.irs h.opts g.window) g 1=(d,[],0):=by unfold yF;exact if_neg hT
     rw[e];exact .inl ⟨rfl,rfl,by simp⟩
   ·simp only[if_neg (λhh:g.ack≠(h.iss+1)%4294967296=>hh h6),if_pos (show g.seq≠(h.irs+1)%4294967296 from h7)]
    exact .inl ⟨trivial,trivial,by simp⟩
  ·simp only[if_pos (show g.ack≠(h.iss+1)%4294967296 from h6)]
   exact .inl ⟨trivial,trivial,hrl⟩
 ·simp only[if_neg h5]at hA⊢
  have ho:=vv (bC.f (d.keys,t,(g.seq+ -1)%4294967296,(g.ack+ -1)%4294967296,())).2.1 g.opts hg.2.2.2.2.2.2.1
  generalize bC.f (d.keys,t,(g.seq+ -1)%4294967296,(g.ack+ -1)%4294967296,())=k at ho hA⊢
  by_cases h6:k.2.2=true
  ·simp only[if_pos h6]at hA⊢
   have hs:=(yK t ((g.ack+ -1)%4294967296) ((g.seq+ -1)%4294967296) (bE.f (k.2.1,g.opts,())) g.window h2 ho hw.1 hw.2).2
   by_cases hT:cH.f ((⟨d.table.conns++[yE t ((g.ack+ -1)%4294967296) ((g.seq+ -1)%4294967296) (bE.f (k.2.1,g.opts,())) g.window],d.table.waiting++[t]⟩:Tabl),d.limits,())=true
   ·have hL:=aaY d (yE t ((g.ack+ -1)%4294967296) ((g.seq+ -1)%4294967296) (bE.f (k.2.1,g.opts,())) g.window) g 2 hD hs hn hT
    exact .inr ⟨hA,hL.1,.inr ⟨hL.2,h5,h6⟩⟩
   ·have e:yF d (yE t ((g.ack+ -1)%4294967296) ((g.seq+ -1)%4294967296) (bE.f (k.2.1,g.opts,())) g.window) g 2=(d,[],0):=by unfold yF;exact if_neg hT
    rw[e];exact .inl ⟨rfl,rfl,by simp⟩
  ·simp only[if_neg h6]
   exact .inl ⟨trivial,trivial,hrl⟩
theorem jY (n sz:Int)(h1:1≤sz)(h6:sz≤6)(h:af.f (n,8*sz,())=true):((au.f (n,sz,())).length:Int)=sz:=by
 have hw:IntKind.wrap .i64 (8*sz)=8*sz:=aj (by omega) (by omega)
 simp only[PX,au,aq,eE,hw,h,decide_eq_true h1,decide_eq_true h6,Bool.and_self,Bool.not_true,cond_false]
 generalize Int.toNat (IntKind.wrap .i64 (sz-1)-0+1)=k
 generalize IntKind.wrap .i64 (sz-1)=i
 cases hf:aP (λj a=>(dI j a).nice) (-1) k i (n,List.replicate sz.toNat 0)with
 |out e=>exact Empty.elim e
 |next a=>
  have:=BO (P:=λa:Int×List Int=>a.2.length=sz.toNat) (λi a a' ha h=>by
   simp only[PX,dI]at h
   cases h
   simpa using ha) _ _ _ _ (by simp) hf
  simp only[PX,Stp.elim,bq]
  omega
theorem Sv (n sz:Int)(h1:1≤sz)(h6:sz≤6)(h:af.f (n,8*sz,())=false):au.f (n,sz,())=[]:=by
 have hw:IntKind.wrap .i64 (8*sz)=8*sz:=aj (by omega) (by omega)
 simp only[PX,au,aq,hw,h,decide_eq_true h1,decide_eq_true h6,Bool.and_self,Bool.not_true,Bool.not_false,cond_false,cond_true]
theorem ye (n sz:Int)(h1:1≤sz)(h6:sz≤6):(au.f (n,sz,())==[])= !af.f (n,8*sz,()):=by
 rcases Bool.eq_false_or_eq_true (af.f (n,8*sz,()))with h|h
 ·have:=jY n sz h1 h6 h
  rw[h]
  cases hp:au.f (n,sz,())with
  |nil=>rw[hp]at this;simp at this;omega
  |cons a r=>rfl
 ·rw[Sv n sz h1 h6 h,h];rfl
def ws:Bool→ae→Int
 |_,[]=>0
 |false,b::t=>256*(b.toNat:Int)+ws true t
 |true,b::t=>(b.toNat:Int)+ws false t
theorem adH (v:ae)(hv:v.length≤4294967296):∀(n j:Nat) (a:Int),j+n=v.length→0≤a→a≤65536*(j:Int)→aP (λj a=>(gT v j a).nice) 1 n (j:Int) a= .next (a+ws (j%2==1) (v.drop j))
 |0,j,a,h,_,_=>by rw[List.drop_of_length_le (by omega)];simp[aP,ws]
 |n+1,j,a,h,h0,h1=>by
  have hj:j<v.length:=by omega
  have hb:=pP v[j]
  rw[List.drop_eq_getElem_cons hj]
  have ht:(((j:Int).tmod 2)==0)= !(j%2==1):=by
   rw[Int.tmod_eq_emod_of_nonneg (by omega),Bool.eq_iff_iff]
   simp;omega
  have hnx:((j+1)%2==1)= !(j%2==1):=by
   rw[Bool.eq_iff_iff];simp;omega
  cases hp:(j%2==1)with
  |true=>
   have ih:=adH v hv n (j+1) (a+(v[j].toNat:Int)) (by omega) (by omega) (by omega)
   simp only[PX,gT]at ih
   simp only[aP,PX,gT,ht,hp,ac,i2 _ _ hj,Bool.not_true,cond_false,Stp.elim,ws]
   rw[aj (m:=(v[j].toNat:Int)) (by omega) (by omega),aj (by omega) (by omega),show(j:Int)+1=((j+1:Nat):Int) by omega,ih,hnx,hp]
   simp only[Bool.not_true]
   congr 1;omega
  |false=>
   have ih:=adH v hv n (j+1) (a+256*(v[j].toNat:Int)) (by omega) (by omega) (by omega)
   simp only[PX,gT]at ih
   simp only[aP,PX,gT,ht,hp,ac,i2 _ _ hj,Bool.not_false,cond_true,Stp.elim,ws]
   rw[aj (m:=(v[j].toNat:Int)) (by omega) (by omega),aj (m:=(v[j].toNat:Int)*256) (by omega) (by omega),aj (by omega) (by omega),show(j:Int)+1=((j+1:Nat):Int) by omega,show a+(v[j].toNat:Int)*256=a+256*(v[j].toNat:Int) by omega,ih,hnx,hp]
   simp only[Bool.not_false]
   congr 1;omega
theorem vC (v:ae)(hv:v.length≤4294967296):qu.f (v,())=ws false v:=by
 simp only[PX,qu,jQ]
 have:=adH v hv v.length 0 0 (by omega) (by omega) (by omega)
 rw[aA,show(0:Int)=((0:Nat):Int) from rfl]
 rw[show(0:Int)=((0:Nat):Int) from rfl]at this
 rw[this]
 simp[Stp.elim]
theorem adR (v:ae)(hv:v.length≤4294967296):∀(k j:Nat) (a:Int),k=(v.length-j+1)/2→0≤a→a≤65536*(j:Int)→aP (λj a=>(hZ v j a).nice) 2 k (j:Int) a= .next (a+ws false (v.drop j))
 |0,j,a,h,_,_=>by rw[List.drop_of_length_le (by omega)];simp[aP,ws]
 |k+1,j,a,h,h0,h1=>by
  have hj:j<v.length:=by omega
  have hb:=pP v[j]
  rw[List.drop_eq_getElem_cons hj]
  by_cases h2:j+1<v.length
  ·have hb2:=pP v[j+1]
   have ih:=adR v hv k (j+2) (a+256*(v[j].toNat:Int)+(v[j+1].toNat:Int)) (by omega) (by omega) (by omega)
   rw[List.drop_eq_getElem_cons h2]
   simp only[PX,hZ]at ih
   simp only[aP,PX,hZ,ac,i2 _ _ hj,Stp.elim,ws]
   rw[aj (m:=(j:Int)+1) (by omega) (by omega),decide_eq_true (show(j:Int)+1<(v.length:Int) by omega),cond_true,show((j:Int)+1).toNat=j+1 by omega,i2 _ _ h2,aj (m:=(v[j].toNat:Int)) (by omega) (by omega),aj (m:=256*(v[j].toNat:Int)) (by omega) (by omega),aj (m:=a+256*(v[j].toNat:Int)) (by omega) (by omega),aj (m:=(v[j+1].toNat:Int)) (by omega) (by omega),aj (by omega) (by omega)]
   simp only[Stp.elim]
   rw[show(j:Int)+2=((j+2:Nat):Int) by omega,ih]
   congr 1
   have e:ws false (List.drop (j+1+1) v)=ws false (List.drop (j+2) v):=rfl
   omega
  ·have ih:=adR v hv k (j+2) (a+256*(v[j].toNat:Int)) (by omega) (by omega) (by omega)
   rw[List.drop_of_length_le (show v.length≤j+1 by omega)]
   rw[List.drop_of_length_le (show v.length≤j+2 by omega)]at ih
   simp only[PX,hZ]at ih
   simp only[aP,PX,hZ,ac,i2 _ _ hj,Stp.elim,ws]
   rw[aj (m:=(j:Int)+1) (by omega) (by omega),decide_eq_false (show¬(j:Int)+1<(v.length:Int) by omega),cond_false,aj (m:=(v[j].toNat:Int)) (by omega) (by omega),aj (m:=256*(v[j].toNat:Int)) (by omega) (by omega),aj (m:=a+256*(v[j].toNat:Int)) (by omega) (by omega)]
   simp only[Stp.elim]
   rw[show(j:Int)+2=((j+2:Nat):Int) by omega,ih]
   congr 1
   simp only[ws];omega
theorem O7 (v:ae)(hv:v.length≤4294967296):zq.f (v,())=ws false v:=by
 simp only[PX,zq,dQ]
 have:=adR v hv ((v.length+1)/2) 0 0 (by omega) (by omega) (by omega)
 rw[show Int.toNat (((v.length:Int)-0+1)/2)=(v.length+1)/2 by omega,show(0:Int)=((0:Nat):Int) from rfl]
 rw[show(0:Int)=((0:Nat):Int) from rfl]at this
 rw[this]
 simp[Stp.elim]
theorem aay (n:Int):Cv.f (n,())=Dh.f (n,()):=by
 have e:tj=tD:=by
  funext a
  unfold tj tD
  rw[show decide (65535<a)=decide (65536≤a) from decide_eq_decide.2 (by omega)]
 simp only[PX,Cv,Dh,oE,om,e]
theorem Og (v:ae)(hv:v.length≤4294967296):vV.f (v,())=sW.f (v,()):=by
 simp only[PX,vV,sW,O7 v hv,vC v hv,aay]
theorem Nw:∀(n:Nat) (a b:ae),a.length=2*n→ws false (a++b)=ws false a+ws false b
 |0,a,b,h=>by
  have e:a=[]:=List.eq_nil_of_length_eq_zero (by omega)
  subst e
  simp[ws]
 |n+1,[],b,h=>by simp at h
 |n+1,[x],b,h=>by simp at h;omega
 |n+1,x::y::a,b,h=>by
  have ih:=Nw n a b (by simp only[List.length_cons]at h;omega)
  simp only[List.cons_append,ws,ih];omega
theorem Cy (a b n:Int):np.f (a,b,n,())=em.f (a,b,n,()):=by
 have h1:=ye a 4 (by omega) (by omega)
 have h2:=ye b 4 (by omega) (by omega)
 have h3:=ye n 2 (by omega) (by omega)
 rw[show(8:Int)*4=32 from rfl]at h1 h2
 rw[show(8:Int)*2=16 from rfl]at h3
 simp only[PX,np,em,nX,h1,h2,h3]
theorem aec:ra=rR:=rfl
theorem KX (o:Opti):oJ.f (o,())=cr.f (o,()):=by
 simp only[PX,oJ,cr,ii,nX,iK,iT,aec]
 rcases Bool.eq_false_or_eq_true (aH.f (o,()))with h|h
 case inr=>rw[h];rfl
 have hs:=eV o h
 have e:decide (0≤o.scale)=(o.scale != -1):=by
  rw[Bool.eq_iff_iff];simp;omega
 rw[h]
 cases h1:(o.mss != 0)<;>cases h2:(o.scale != -1)<;>cases h3:o.sack<;>cases h4:o.stamp<;>simp only[e,h2,h3,h4,Bool.not_true,cond_true,cond_false,List.nil_append,List.append_assoc]
theorem acN (o:Opti):(cr.f (o,())).length≤20:=(cr.c.h (o,()) trivial).2
theorem acB (a b n:Int):(em.f (a,b,n,())).length≤20:=(em.c.h (a,b,n,()) trivial).2
theorem Jw (n sz:Int):((au.f (n,sz,())).length:Int)≤max sz 0:=(au.c.h (n,sz,()) trivial).2
theorem LV (g:Segm)(a b:Int):ot.f (g,a,b,())=cm.f (g,a,b,()):=by
 simp only[PX,ot,cm,pe,KX,Cy,nX]
 rcases Bool.eq_false_or_eq_true (ai.f (g,()))with h|h
 case inr=>rw[h,Bool.not_false,cond_true,cond_true]
 rw[h,Bool.not_true,cond_false,cond_false]
 have hb:=gY g h
 rw[Og]
 have h1:=acN g.opts
 generalize IntKind.wrap .i64 ((IntKind.wrap .i64 (20+((cr.f (g.opts,())).length:Int)))+(g.body.length:Int))=n
 have h2:=acB a b n
 have h3:=Jw g.from_ 2
 have h4:=Jw g.to 2
 have h5:=Jw g.seq 4
 have h6:=Jw g.ack 4
 have h7:=Jw (IntKind.wrap .i64 ((IntKind.wrap .i64 ((IntKind.wrap .i64 (20+((cr.f (g.opts,())).length:Int))).tdiv 4))*16)) 1
 have h8:=Jw g.flags 1
 have h9:=Jw g.window 2
 simp only[List.length_append,List.length_cons,List.length_nil]
 omega
theorem Xn (f:Fram):yU.f (f,())=f7.f (f,()):=by
 simp only[PX,yU,f7,de,bA,aq]
theorem xB (f:Fram):mh.f (f,())=gj.f (f,()):=by
 simp only[PX,mh,gj,Xn,nX]
theorem Tz (p:Pack):vA.f (p,())=lI.f (p,()):=by
 simp only[PX,vA,lI,de,bA,aq]
theorem H0 (p:Pack)(h:lI.f (p,())=true):af.f (p.src,32,())=true∧af.f (p.dst,32,())=true∧1≤p.ttl∧p.ttl≤255∧af.f (p.proto,8,())=true∧af.f (p.id,16,())=true∧p.body.length≤1480:=by
 simp only[PX,lI,aq]at h
 revert h
 cases af.f (p.src,32,())<;>cases af.f (p.dst,32,())<;>cases af.f (p.proto,8,())<;>cases af.f (p.id,16,())<;>simp<;>omega
theorem Nn (p:Pack):qj.f (p,())=pS.f (p,()):=by
 simp only[PX,qj,pS,Tz,nX]
 rcases Bool.eq_false_or_eq_true (lI.f (p,()))with h|h
 case inr=>rw[h,Bool.not_false,cond_true,cond_true]
 obtain⟨hs,hd,t1,t2,hp,hi,hb⟩:=H0 p h
 rw[h,Bool.not_true,cond_false,cond_false]
 have w:IntKind.wrap .i64 (20+(p.body.length:Int))=20+(p.body.length:Int):=aj (by omega) (by omega)
 rw[w]
 have n1:af.f (20+(p.body.length:Int),8*2,())=true:=by
  rw[show(8:Int)*2=16 from rfl,cY]
  simp;omega
 have l1:=jY (20+(p.body.length:Int)) 2 (by omega) (by omega) n1
 have l2:=jY p.id 2 (by omega) (by omega) hi
 have l3:=jY p.ttl 1 (by omega) (by omega) (by rw[show(8:Int)*1=8 from rfl,Ui];simp;omega)
 have l4:=jY p.proto 1 (by omega) (by omega) hp
 have l5:=jY p.src 4 (by omega) (by omega) hs
 have l6:=jY p.dst 4 (by omega) (by omega) hd
 generalize au.f (20+(p.body.length:Int),2,())=a at*
 generalize au.f (p.id,2,())=b at*
 generalize au.f (p.ttl,1,())=c at*
 generalize au.f (p.proto,1,())=d at*
 generalize au.f (p.src,4,())=e at*
 generalize au.f (p.dst,4,())=f at*
 have key:vV.f ((((([69,0]++a)++b)++[0,0])++c++d)++(e++f),())=sW.f ((((((([69,0]++a)++b)++[0,0])++c)++d)++[0,0])++(e++f),()):=by
  rw[Og]
  ·have e1:qu.f ((((([69,0]++a)++b)++[0,0])++c++d)++(e++f),())=qu.f ((((((([69,0]++a)++b)++[0,0])++c)++d)++[0,0])++(e++f),()):=by
    rw[vC,vC,Nw 5 (((([69,0]++a)++b)++[0,0])++c++d),Nw 6 ((((([69,0]++a)++b)++[0,0])++c++d)++[0,0]),Nw 5 (((([69,0]++a)++b)++[0,0])++c++d)]
    ·simp[ws]
    all_goals simp only[List.length_append,List.length_cons,List.length_nil];omega
   simp only[PX,sW,e1]
  ·simp only[List.length_append,List.length_cons,List.length_nil];omega
 rw[key]
def hwN (v:List Entr)(ip:Int):Int×Bool:=match v.findIdx? (λe=>e.ip==ip)with
 |some i=>(match v[i]? with|some x=>(x.hw,true)|none=>(0,false))
 |none=>(0,false)
theorem yX (v:List Entr)(ip:Int):Bw.f (v,ip,())=hwN v ip:=by
 simp only[PX,Bw,sy]
 rw[aA,bu v _ rfl (F:=λj x _=>bif x.ip==ip then .out x.hw else .next ()) (λj x a h=>by
  simp only[PX,Fi,ac,getD_some h]),j4 (p:=λe:Entr=>e.ip==ip) (w:=λ_ x=>x.hw)]
 unfold hwN
 cases v.findIdx? (λe=>e.ip==ip)with
 |none=>rfl
 |some i=>cases h:v[i]? <;>simp only[h]<;>rfl
theorem Bb (v:List Entr)(ip:Int):zI.f (v,ip,())=dW (λe=>e.ip==ip) v:=by
 simp only[PX,zI,qb]
 rw[jh (λe:Entr=>e.ip==ip) v (λj x a h=>by simp only[PX,CE,ac,getD_some h])]
 unfold dW
 cases v.findIdx? (λe=>e.ip==ip)<;>rfl
theorem adb (v:List Entr)(ip:Int):Pr.f (v,ip,())=Bw.f (v,ip,()):=by
 simp only[PX,Pr,Bb,yX]
 unfold hwN dW
 cases hf:v.findIdx? (λe=>e.ip==ip)with
 |none=>rfl
 |some i=>
  obtain⟨h1,_,_⟩:=List.findIdx?_eq_some_iff_getElem.1 hf
  have h2:v[i]? =some v[i]:=List.getElem?_eq_getElem h1
  simp only[h2,ac,getD_some h2,decide_eq_false (show¬(i:Int)<0 by omega),cond_false]
theorem Zu (v:List Entr)(ip:Int):(hwN v ip).2=v.any (λe=>e.ip==ip):=by
 have:=kD (λe:Entr=>e.ip==ip) v
 rw[←this]
 unfold hwN dW
 cases hf:v.findIdx? (λe=>e.ip==ip)with
 |none=>rfl
 |some i=>
  obtain⟨h1,_,_⟩:=List.findIdx?_eq_some_iff_getElem.1 hf
  have h2:v[i]? =some v[i]:=List.getElem?_eq_getElem h1
  simp only[h2,decide_eq_true (show(0:Int)≤(i:Int) by omega)]
theorem aap (xs:List Entr):(∀(j:Nat) (y:Entr),xs[j]? =some y→(xs.take j).any (λh=>h.ip==y.ip)=false)↔(xs.map Entr.ip).Nodup:=by
 unfold List.Nodup
 rw[List.pairwise_iff_getElem]
 constructor
 ·intro h i j hi hj hij he
  rw[List.length_map]at hi hj
  simp only[List.getElem_map]at he
  have:=h j xs[j] (List.getElem?_eq_getElem hj)
  rw[List.any_eq_false]at this
  refine this xs[i] ?_ (by rw[he,beq_self_eq_true])
  rw[List.mem_take_iff_getElem]
  exact⟨i,by omega,rfl⟩
 ·intro h j y hy
  rw[List.any_eq_false]
  intro z hz he
  rw[List.mem_take_iff_getElem]at hz
  obtain⟨i,hi,rfl⟩:=hz
  obtain⟨hj,rfl⟩:=List.getElem?_eq_some_iff.1 hy
  have:=h i j (by rw[List.length_map];omega) (by rw[List.length_map];exact hj) (by omega)
  simp only[List.getElem_map]at this
  exact this (beq_iff_eq.1 he)
def Az (e:Entr):Bool:=af.f (e.ip,32,())&&(af.f (e.hw,48,())&&(decide (0≤e.age)&&decide (e.age≤9)))
structure EO (v:List Entr):Prop where
 ok:∀e∈v,Az e=true
 nd:(v.map Entr.ip).Nodup
 len:v.length≤4
theorem xT (v:List Entr):fZ.f (v,())=true↔EO v:=by
 have f1:=KB v (f:=λj a=>(ex v v j a).nice) (P:=λj y=>Az y=true∧(v.take j).any (λh=>h.ip==y.ip)=false) (λj y hy=>by
  simp only[PX,ex,ac,getD_some hy,yX,Zu,List.drop_zero,aq,Az]
  cases af.f (y.ip,32,())<;>cases af.f (y.hw,48,())<;>cases(decide (0≤y.age)&&decide (y.age≤9))<;>cases(v.take j).any (λh=>h.ip==y.ip)<;>simp)
 have f3:=aap v
 have f5:aP (λj a=>(ex v v j a).nice) 1 (Int.toNat ((v.length:Int)-0)) 0 ()= .next ()↔(∀e∈v,Az e=true)∧(v.map Entr.ip).Nodup:=by
  rw[f1,←f3,←u5]
  exact⟨λh=>⟨λj y hy=>(h j y hy).1,λj y hy=>(h j y hy).2⟩,λh j y hy=>⟨h.1 j y hy,h.2 j y hy⟩⟩
 have e:fZ.f (v,())=true↔v.length≤4∧aP (λj a=>(ex v v j a).nice) 1 (Int.toNat ((v.length:Int)-0)) 0 ()= .next ():=by
  simp only[PX,fZ,jN]
  rw[show v.length≤4↔decide (4<(v.length:Int))=false by simp;omega]
  cases decide (4<(v.length:Int))<;>cases aP (λj a=>(ex v v j a).nice) 1 (Int.toNat ((v.length:Int)-0)) 0 ()<;>simp[Stp.elim]
 rw[e,f5]
 constructor
 ·rintro⟨h1,h2,h3⟩;exact⟨h2,h3,h1⟩
 ·rintro⟨h2,h3,h1⟩;exact⟨h1,h2,h3⟩
theorem MZ (v:List Entr):tG.f (v,())=fZ.f (v,()):=by
 simp only[PX,tG,fZ,m9,jN]
 have h1:=y4 v (f:=λj a=>(rJ v j a).nice) (g:=λj a=>(ex v v j a).nice) (k:=Int.toNat ((v.length:Int)-0)) (aA _) (λj y hy=>by
  simp only[PX,rJ,ex,ac,getD_some hy,de,bA,aq,Bb,yX,Zu,List.drop_zero,kD]
  cases af.f (y.ip,32,())<;>cases af.f (y.hw,48,())<;>cases(decide (0≤y.age)&&decide (y.age≤9))<;>cases(v.take j).any (λh=>h.ip==y.ip)<;>simp)
 rw[show decide ((v.length:Int)≤4)= !decide (4<(v.length:Int)) by rw[Bool.eq_iff_iff];simp]
 rcases h1 with⟨a,b,h5,h6⟩|⟨h5,h6⟩
 ·rw[h5,h6]
  cases decide (4<(v.length:Int))<;>rfl
 ·rw[h5,h6]
  cases decide (4<(v.length:Int))<;>rfl
theorem IL (l:Link):ui.f (l,())=dK.f (l,()):=by
 simp only[PX,ui,dK,de,MZ]
theorem lA (l:Link):dK.f (l,())=true↔((0≤l.mac∧l.mac≤281474976710655)∧l.mac≠281474976710655∧(0≤l.ip∧l.ip≤4294967295)∧EO l.cache):=by
 rw[←xT]
 simp only[PX,dK,Sg,bO]
 rw[show(l.mac≠281474976710655)↔(l.mac != 281474976710655)=true by simp,show(0≤l.mac∧l.mac≤281474976710655)↔(decide (0≤l.mac)&&decide (l.mac≤281474976710655))=true by simp,show(0≤l.ip∧l.ip≤4294967295)↔(decide (0≤l.ip)&&decide (l.ip≤4294967295))=true by simp]
 cases(decide (0≤l.mac)&&decide (l.mac≤281474976710655))<;>cases(l.mac != 281474976710655)<;>cases(decide (0≤l.ip)&&decide (l.ip≤4294967295))<;>simp
theorem WU (l:Link)(ip:Int)(b:ae):zF.f (l,ip,b,())=je.f (l,ip,b,()):=by
 simp only[PX,zF,je,adb,IL,Nn,xB]
 cases dK.f (l,())<;>cases(Bw.f (l.cache,ip,())).2<;>simp only[Bool.not_true,Bool.not_false,cond_true,cond_false]
theorem zL {T U W:Type}(xs:List T)(F:T→List U){f:Int→List U→Stp (List U) W}(h:∀(j:Nat) x a,xs[j]? =some x→f (j:Int) a= .next (a++F x)):aP f 1 (Int.toNat ((xs.length:Int)-0)) 0 []= .next (xs.flatMap F):=by
 rw[aA,bu xs _ rfl (F:=λ_ x a=> .next (a++F x)) h]
 have key:∀(r:List T) (j:Nat) (a:List U),dh (W:=W) (λ_ x a=> .next (a++F x)) j r a= .next (a++r.flatMap F):=by
  intro r
  induction r with
  |nil=>intro j a;simp[dh]
  |cons x r ih=>
   intro j a
   have:=ih (j+1) (a++F x)
   rw[List.flatMap_cons,←List.append_assoc,←this]
   rfl
 rw[key];simp
theorem JX {S T U W:Type}(xs:List T)(F:T→List U){f:Int→S×List U→Stp (S×List U) W}(h:∀(j:Nat) x a,xs[j]? =some x→∃s,f (j:Int) a= .next (s,a.2++F x))(s0:S):∃s,aP f 1 (Int.toNat ((xs.length:Int)-0)) 0 (s0,[])= .next (s,xs.flatMap F):=by
 rw[aA]
 have key:∀(n j:Nat) (s:S) (l:List U),j+n=xs.length→∃s2,aP f 1 n (j:Int) (s,l)= .next (s2,l++(xs.drop j).flatMap F):=by
  intro n
  induction n with
  |zero=>intro j s l e;exact⟨s,by rw[List.drop_of_length_le (by omega)];simp[aP]⟩
  |succ n ih=>
   intro j s l e
   have hj:j<xs.length:=by omega
   obtain⟨s1,e1⟩:=h j xs[j] (s,l) (List.getElem?_eq_getElem hj)
   obtain⟨s2,e2⟩:=ih (j+1) s1 (l++F xs[j]) (by omega)
   refine⟨s2, ?_⟩
   simp only[aP,e1,Stp.elim]
   rw[show(j:Int)+1=((j+1:Nat):Int) by omega,e2,List.drop_eq_getElem_cons hj]
   simp only[List.flatMap_cons,List.append_assoc]
 obtain⟨s,e⟩:=key xs.length 0 s0 [] (by omega)
 exact⟨s,by simpa using e⟩
def wI (l:Link)(ip:Int)(g:Segm):List ae:=bif cm.f (g,l.ip,ip,())==[]then[]else bif (je.f (l,ip,cm.f (g,l.ip,ip,()),())).2 then[(je.f (l,ip,cm.f (g,l.ip,ip,()),())).1]else[]
theorem uX (s:Stac)(ip:Int)(xs:List Segm):qD.f (s,ip,xs,())=xs.flatMap (wI s.link ip):=by
 simp only[PX,qD,jL]
 rw[zL xs (wI s.link ip) (λj x a h=>by
  simp only[PX,x9,ac,getD_some h,wI]
  cases(cm.f (x,s.link.ip,ip,())==[])<;>cases(je.f (s.link,ip,cm.f (x,s.link.ip,ip,()),())).2<;>simp)]
 rfl
theorem Ls (a b n:Int)(ha:af.f (a,32,())=true)(hb:af.f (b,32,())=true)(hn:af.f (n,16,())=true):(em.f (a,b,n,())==[])=false:=by
 simp only[PX,em,ha,hb,hn,Bool.not_true,cond_false]
 simp
theorem Ic (g:Segm)(a b:Int)(hg:ai.f (g,())=true)(ha:af.f (a,32,())=true)(hb:af.f (b,32,())=true):(cm.f (g,a,b,())==[])=false:=by
 have h1:=acN g.opts
 have h2:=gY g hg
 have w1:IntKind.wrap .i64 (20+((cr.f (g.opts,())).length:Int))=20+((cr.f (g.opts,())).length:Int):=aj (by omega) (by omega)
 have w2:IntKind.wrap .i64 (20+((cr.f (g.opts,())).length:Int)+(g.body.length:Int))=20+((cr.f (g.opts,())).length:Int)+(g.body.length:Int):=aj (by omega) (by omega)
 have hp:=Ls a b (20+((cr.f (g.opts,())).length:Int)+(g.body.length:Int)) ha hb (by rw[cY];simp;omega)
 simp only[PX,cm,hg,w1,w2,Bool.not_true,cond_false]
 rw[hp,cond_false]
 simp
theorem abe (v:List Entr)(ip:Int)(h:(hwN v ip).2=true):∃e∈v,e.ip=ip:=by
 rw[Zu,List.any_eq_true]at h
 obtain⟨e,h1,h2⟩:=h
 exact⟨e,h1,by simpa using h2⟩
theorem LU (l:Link)(ip:Int)(b:ae)(h:(je.f (l,ip,b,())).2=true):dK.f (l,())=true∧(hwN l.cache ip).2=true:=by
 simp only[PX,je,yX]at h
 revert h
 cases dK.f (l,())<;>cases(hwN l.cache ip).2<;>simp
theorem uW (s:Stac)(ip:Int)(xs:List Segm)(hx:∀g∈xs,ai.f (g,())=true):qv.f (s,ip,xs,())=xs.flatMap (wI s.link ip):=by
 simp only[PX,qv,jG]
 rw[zL xs (wI s.link ip) (λj x a h=>by
  simp only[PX,yn,ac,getD_some h,wI,LV,WU]
  cases hk:(je.f (s.link,ip,cm.f (x,s.link.ip,ip,()),())).2 with
  |false=>cases(cm.f (x,s.link.ip,ip,())==[])<;>simp
  |true=>
   obtain⟨h1,h2⟩:=LU _ _ _ hk
   obtain⟨_,_,h3,h4⟩:=(lA _).1 h1
   obtain⟨e,he,rfl⟩:=abe _ _ h2
   have h5:=h4.ok e he
   unfold Az at h5
   rw[Bool.and_eq_true]at h5
   rw[Ic x s.link.ip e.ip (hx x (lD h)) (by rw[bO];simp[h3]) h5.1]
   rfl)]
 rfl
def KA (v:List Entr):List Entr:=v.flatMap λe=>bif decide (e.age<9)then[({e with age:=e.age+1}:Entr)]else[]
theorem EV {e:Entr}(h:Az e=true):0≤e.age∧e.age≤9:=by
 unfold Az at h
 simp only[Bool.and_eq_true,decide_eq_true_eq]at h
 exact h.2.2
theorem XW (v:List Entr)(h:EO v):Pq.f (v,())=KA v:=by
 simp only[PX,Pq,oU]
 rw[zL v (λe:Entr=>bif decide (e.age<9)then[({e with age:=e.age+1}:Entr)]else[]) (λj x a hx=>by
  have ha:=EV (h.ok x (lD hx))
  simp only[PX,E8,ac,getD_some hx]
  rw[aj (m:=x.age+1) (by omega) (by omega),show decide (x.age+1≤9)=decide (x.age<9) from decide_eq_decide.2 (by omega)]
  cases decide (x.age<9)<;>simp)]
 rfl
theorem Xf (v:List Entr)(h:EO v):Nj.f (v,())=KA v:=by
 simp only[PX,Nj,pc]
 rw[zL v (λe:Entr=>bif decide (e.age<9)then[({e with age:=e.age+1}:Entr)]else[]) (λj x a hx=>by
  have ha:=EV (h.ok x (lD hx))
  simp only[PX,FJ,ac,getD_some hx]
  rw[aj (m:=x.age+1) (by omega) (by omega)]
  cases decide (x.age<9)<;>simp)]
 rfl
theorem M3:∀v:List Entr,((KA v).map Entr.ip).Sublist (v.map Entr.ip)
 |[]=> .slnil
 |x::r=>by
  have ih:=M3 r
  unfold KA at ih⊢
  rw[List.flatMap_cons]
  cases decide (x.age<9)with
  |true=>exact .cons₂ _ ih
  |false=>exact .cons _ ih
theorem abd (v:List Entr)(h:EO v):EO (KA v):=by
 have hs:=M3 v
 refine⟨?_,List.Nodup.sublist hs h.nd, ?_⟩
 ·intro e he
  unfold KA at he
  rw[List.mem_flatMap]at he
  obtain⟨x,hx,hy⟩:=he
  have h1:=h.ok x hx
  have h2:=EV h1
  cases hd:decide (x.age<9)with
  |false=>rw[hd]at hy;cases hy
  |true=>
   rw[hd]at hy
   have h3:=of_decide_eq_true hd
   rw[List.mem_singleton.1 hy]
   unfold Az at h1⊢
   simp only[Bool.and_eq_true,decide_eq_true_eq]at h1⊢
   exact⟨h1.1,h1.2.1,by omega,by omega⟩
 ·have:=hs.length_le
  rw[List.length_map,List.length_map]at this
  have:=h.len
  omega
theorem abA (c:Conn)(h:CO c)(hs:aX c.r.held):∀g∈(TC c).2,ai.f (g,())=true:=by
 have r0:=h.r0
 have r3:=h.r3
 unfold TC
 by_cases hw:mH.f (c,())=true
 ·rw[if_pos hw]
  by_cases c1:0<kH c-1
  ·rw[if_pos c1];intro g hg;cases hg
  ·rw[if_neg c1]
   by_cases c2:c.state=7
   ·rw[if_pos c2];intro g hg;cases hg
   ·rw[if_neg c2]
    by_cases c3:c.tries=3
    ·rw[if_pos c3]
     intro g hg
     rw[List.mem_singleton.1 hg]
     have h1:=(bf _).1 (DM c h hs)
     have hfl:(bt.f (c,())).flags=16:=by simp only[PX,bt]
     rw[bf]
     simp only[hfl]
     obtain⟨a,b,s,k,f,w,o,bd⟩:=h1
     exact⟨a,b,s,k,by decide+kernel,w,o,bd⟩
    ·rw[if_neg c3]
     refine EB _ _ ?_ hs
     rw[KJ c.s h.snd]
     exact⟨h.tup,aak h.snd,h.rcv,h.opt,h.s1,h.s8,h.m0,h.m1,h.w0,h.w1,Int.le_refl _,by show(0:Int)≤4;omega,λ_=>by show(0:Int)≤3;omega,by show 0≤c.tries+1;omega,by show c.tries+1≤3;omega,h.fl⟩
 ·rw[if_neg hw,if_pos ((pC c).2 h)]
  intro g hg;cases hg
theorem vY (s:Stac):j9.f (s,())=s:=by simp only[PX,j9,mf,gq,jO]
theorem zc (s:Stac):qt.f (s,())=s:=by simp only[PX,qt,qE,kh,List.nil_append]
theorem ua (s:Stac)(hs:fV s.door):nN.f (s,())=bL.f (s,()):=by simp only[PX,nN,bL,IL,BU s.door hs]
theorem cx (s:Stac):bL.f (s,())=true↔dK.f (s.link,())=true∧bH.f (s.door,())=true:=by
 simp only[PX,bL]
 cases dK.f (s.link,())<;>simp
def Kt (s:Stac):Stac×List ae:=(⟨⟨s.link.mac,s.link.ip,KA s.link.cache⟩,{s.door with clock:=bG.f (s.door.clock,1,()),chal:=0,halves:=pq s.door.halves,table:=lM ⟨ec s.door.table.conns,s.door.table.waiting⟩}⟩,s.door.table.conns.flatMap (λc=>(TC c).2.flatMap (wI s.link c.tuple.ip)))
theorem IJ (s:Stac)(h:bL.f (s,())=true):sx.f (s,())=Kt s:=by
 obtain⟨hl,hd⟩:=(cx s).1 h
 have hE:=((lA _).1 hl).2.2.2
 have hD:=(iG _).1 hd
 have t:=hD.tab
 have a2:=t.lim.w2
 have a3:=t.lim.c2
 have a4:=t.nc
 have a5:=t.nw
 have hT:=K6 s.door (λy hy=>(IA (hD.hal.ok y hy)).2) (λy hy=>(IA (hD.hal.ok y hy)).1) (by omega) (by omega) hd
 simp only[PX,sx,vY,h,XW _ hE,hT,Bool.not_true,cond_false,hU]
 obtain⟨z,e⟩:=JX (Wg s.door.table.conns) (λm=>wI s.link m.ip m.g) (f:=λj a=>(nJ s (Wg s.door.table.conns) j a).nice) (λj x a hx=>by
  simp only[PX,nJ,ac,getD_some hx,uX,List.flatMap_cons,List.flatMap_nil,List.append_nil]
  exact⟨_,rfl⟩) (⟨⟨0,0,[]⟩,⟨0,0,⟨0,⟨false,0,0,[]⟩,⟨false,0,0,[]⟩,false⟩,⟨0,0,0,0⟩,[],⟨[],[]⟩,0⟩⟩:Stac)
 refine(congrArg (Stp.elim _ _) e).trans ?_
 simp only[Stp.elim,Kt]
 congr 1
 unfold Wg
 rw[List.flatMap_assoc]
 congr 1
 funext c
 rw[List.flatMap_map]
theorem Jy (s:Stac)(h:bL.f (s,())=true)(hs:fV s.door):sH.f (s,())=Kt s:=by
 obtain⟨hl,hd⟩:=(cx s).1 h
 have hE:=((lA _).1 hl).2.2.2
 have hD:=(iG _).1 hd
 have t:=hD.tab
 have c0:=hD.c0
 have c1:=hD.c1
 have hT:=Lu s.door hs
 rw[hd,cond_true,l0,aj (by omega) (by omega),←bz]at hT
 simp only[PX,sH,zc,ua s hs,h,Xf _ hE,hT,Bool.not_true,cond_false,gM]
 obtain⟨z,e⟩:=JX s.door.table.conns (λc=>(TC c).2.flatMap (wI s.link c.tuple.ip)) (f:=λj a=>(nI s j a).nice) (λj x a hx=>by
  have hc:=t.co x (lD hx)
  simp only[PX,nI,ac,getD_some hx,AG x (hs x (lD hx)),uW s x.tuple.ip (TC x).2 (abA x hc (hs x (lD hx)))]
  exact⟨_,rfl⟩) (⟨⟨0,0,[]⟩,⟨0,0,⟨0,⟨false,0,0,[]⟩,⟨false,0,0,[]⟩,false⟩,⟨0,0,0,0⟩,[],⟨[],[]⟩,0⟩⟩:Stac)
 refine(congrArg (Stp.elim _ _) e).trans ?_
 simp only[Stp.elim,Kt]
theorem OG (s:Stac)(h:bL.f (s,())=true):bL.f ((Kt s).1,())=true:=by
 obtain⟨hl,hd⟩:=(cx s).1 h
 obtain⟨h1,h2,h3,hE⟩:=(lA _).1 hl
 exact(cx _).2 ⟨(lA _).2 ⟨h1,h2,h3,abd _ hE⟩,(iG _).2 (abN _ ((iG _).1 hd))⟩
def Aq (b:ae):Int:=b.foldl (λn x=>n*256+(x.toNat:Int)) 0
def Ap:Nat→Int→ae
 |0,_=>[]
 |k+1,n=>Ap k (n/256)++[UInt8.ofNat (n%256).toNat]
theorem zE (b:ae)(x:UInt8):Aq (b++[x])=Aq b*256+(x.toNat:Int):=by simp[Aq]
theorem Ny {P:ae→Prop}(h0:P [])(h1:∀b x,P b→P (b++[x]))(b:ae):P b:=by
 have key:∀(n:Nat) (b:ae),b.length=n→P b:=by
  intro n
  induction n with
  |zero=>intro b hb;rw[List.eq_nil_of_length_eq_zero hb];exact h0
  |succ n ih=>
   intro b hb
   have hne:b≠[]:=by rintro rfl;simp at hb
   rw[←List.dropLast_concat_getLast hne]
   exact h1 _ _ (ih _ (by rw[List.length_dropLast];omega))
 exact key _ b rfl
theorem ab9 (b:ae):0≤Aq b:=by
 induction b using Ny with
 |h0=>simp[Aq]
 |h1 b x ih=>
  rw[zE];omega
theorem abc (b:ae):Aq b<256 ^ b.length:=by
 induction b using Ny with
 |h0=>simp[Aq]
 |h1 b x ih=>
  rw[zE,List.length_append,List.length_singleton,Int.pow_succ]
  have:=pP x
  omega
theorem abk (x:UInt8):UInt8.ofNat x.toNat=x:=by simp
theorem Xa (b:ae):Ap b.length (Aq b)=b:=by
 induction b using Ny with
 |h0=>rfl
 |h1 b x ih=>
  rw[zE,List.length_append,List.length_singleton]
  have hx:=pP x
  have e1:(Aq b*256+(x.toNat:Int))/256=Aq b:=by omega
  have e2:((Aq b*256+(x.toNat:Int))%256).toNat=x.toNat:=by omega
  simp only[Ap,e1,e2,ih,abk]
theorem LB (k:Nat)(x:Int)(t:List Int):(List.replicate (k+1) (0:Int)++t).set k x=List.replicate k 0++(x::t):=by
 rw[List.replicate_succ',List.append_assoc,List.set_append_right _ _ (by simp)]
 simp
theorem ZQ (n:Int):((UInt8.ofNat (n%256).toNat).toNat:Int)=n%256:=by
 rw[UInt8.toNat_ofNat'];omega
theorem J4 (b:ae):aF (iE b)=b:=by
 unfold aF iE
 rw[List.map_map]
 refine(List.map_congr_left (g:=id) λx _=> ?_).trans (List.map_id b)
 simp
theorem QK {f:Int→Int×List Int→Stp (Int×List Int) Empty}(hf:∀i a,f i a= .next (a.1/256,a.2.set i.toNat (a.1%256))):∀(m:Nat) (n:Int) (t:List Int),∃n',aP f (-1) m ((m:Int)-1) (n,List.replicate m 0++t)= .next (n',iE (Ap m n)++t)
 |0,n,t=>⟨n,by simp[aP,Ap,iE]⟩
 |m+1,n,t=>by
  obtain⟨n',ih⟩:=QK hf m (n/256) (n%256::t)
  refine⟨n', ?_⟩
  have e1:((m+1:Nat):Int)-1=(m:Int):=by omega
  simp only[aP,hf,Stp.elim,e1,ac,LB]
  rw[show(m:Int)+ -1=(m:Int)-1 by omega,ih]
  simp only[Ap,iE,List.map_append,List.map_cons,List.map_nil,ZQ,List.append_assoc,List.cons_append,List.nil_append]
theorem gf (n sz:Int)(h1:1≤sz)(h6:sz≤6)(h:af.f (n,8*sz,())=true):au.f (n,sz,())=Ap sz.toNat n:=by
 have hw:IntKind.wrap .i64 (8*sz)=8*sz:=aj (by omega) (by omega)
 obtain⟨n',e⟩:=QK (f:=λj a=>(dI j a).nice) (λi a=>by
  simp only[PX,dI,qA]
  rw[Int.fdiv_eq_ediv_of_nonneg _ (by omega)]) sz.toNat n []
 rw[List.append_nil,List.append_nil]at e
 have e1:IntKind.wrap .i64 (sz-1)=(sz.toNat:Int)-1:=by rw[aj (by omega) (by omega)];omega
 have e2:Int.toNat (((sz.toNat:Int)-1)-0+1)=sz.toNat:=by omega
 simp only[PX,au,aq,eE,hw,h,decide_eq_true h1,decide_eq_true h6,Bool.and_self,Bool.not_true,cond_false,e1,e2]
 refine(congrArg (Stp.elim _ _) e).trans ?_
 simp only[Stp.elim,J4]
def gw (s:ae)(p n:Nat):Int:=Aq ((s.drop p).take n)
theorem ZS {s:ae}{p n:Nat}(h:p+n≤s.length):((s.drop p).take n).length=n:=by
 rw[List.length_take,List.length_drop];omega
theorem aaL {s:ae}{p n:Nat}(h:p+n≤s.length):0≤gw s p n∧gw s p n<256 ^ n:=by
 refine⟨ab9 _, ?_⟩
 have:=abc ((s.drop p).take n)
 rwa [ZS h]at this
theorem sA {s:ae}{p n:Nat}(h:p+n≤s.length):Ap n (gw s p n)=(s.drop p).take n:=by
 have:=Xa ((s.drop p).take n)
 rwa [ZS h]at this
theorem JS (s:ae)(p:Nat){f:Int→Int→Stp Int Empty}(hf:∀(j:Nat) (a:Int),p+j<s.length→0≤a→a<1099511627776→f (j:Int) a= .next (a*256+ah s (p+j))):∀(m j:Nat),j+m≤6→p+j+m≤s.length→aP f 1 m (j:Int) (Aq ((s.drop p).take j))= .next (Aq ((s.drop p).take (j+m)))
 |0,j,_,_=>rfl
 |m+1,j,h1,h2=>by
  have hr:=aaL (s:=s) (p:=p) (n:=j) (by omega)
  unfold gw at hr
  have hj:(256:Int) ^ j≤1099511627776:=by
   rcases(show j=0∨j=1∨j=2∨j=3∨j=4∨j=5 by omega)with rfl|rfl|rfl|rfl|rfl|rfl<;>decide
  have hp:p+j<s.length:=by omega
  have e:(s.drop p).take (j+1)=(s.drop p).take j++[s[p+j]]:=by
   rw[List.take_succ_eq_append_getElem (by rw[List.length_drop];omega),List.getElem_drop]
  simp only[aP]
  rw[hf j _ (by omega) hr.1 (by omega)]
  simp only[Stp.elim]
  rw[i2 s (p+j) hp,←zE,←e,show(j:Int)+1=((j+1:Nat):Int) by omega,JS s p hf m (j+1) (by omega) (by omega),show j+1+m=j+(m+1) by omega]
theorem adY (a b:Int)(h0:0≤a)(h1:a<1099511627776)(h2:0≤b)(h3:b≤255):bits .or .i64 (a*256) b=a*256+b:=by
 obtain⟨x,rfl⟩:=Int.eq_ofNat_of_zero_le h0
 obtain⟨y,rfl⟩:=Int.eq_ofNat_of_zero_le h2
 have key:(BitVec.ofInt 64 ((x:Int)*256)|||BitVec.ofInt 64 (y:Int)).toNat=x*256+y:=by
  rw[BitVec.toNat_or,BitVec.toNat_ofInt,BitVec.toNat_ofInt,show((x:Int)*256%((2 ^ 64:Nat):Int)).toNat=x*256 by omega,show((y:Int)%((2 ^ 64:Nat):Int)).toNat=y by omega,show x*256=x<<<8 by rw[Nat.shiftLeft_eq],Nat.shiftLeft_add_eq_or_of_lt (by omega)]
 show IntKind.i64.wrap ((BitVec.ofInt 64 ((x:Int)*256)|||BitVec.ofInt 64 (y:Int)).toNat:Nat)=_
 rw[key,dj]
 omega
theorem PI (s:ae)(p n:Nat)(h1:1≤n)(h6:n≤6)(hp:p+n≤s.length)(hs:s.length≤4294967296):zj.f (s,(p:Int),(n:Int),())=(gw s p n,true):=by
 have e:=JS s p (f:=λj a=>(qO s (p:Int) j a).nice) (λj a h ha hb=>by
  have:=gv s (p+j)
  simp only[PX,qO]
  rw[aj (m:=(p:Int)+(j:Int)) (by omega) (by omega),show((p:Int)+(j:Int)).toNat=p+j by omega,aj (m:=ah s (p+j)) (by omega) (by omega),aj (m:=a*256) (by omega) (by omega),adY a _ ha hb (by omega) (by omega)]) n 0 (by omega) (by omega)
 rw[Nat.zero_add]at e
 have c1:(decide ((1:Int)≤(n:Int))&&decide ((n:Int)≤6))=true:=by simp;omega
 have c2:decide ((p:Int)<0)=false:=by simp
 have c3:decide (IntKind.wrap .i64 ((s.length:Int)-(n:Int))<(p:Int))=false:=by rw[aj (by omega) (by omega)];simp;omega
 simp only[PX,zj,aq,mN,c1,c2,c3,Bool.not_true,cond_false,aA]
 refine(congrArg (Stp.elim _ _) e).trans ?_
 simp only[Stp.elim,gw]
theorem bx (s:ae)(p n:Nat)(h1:1≤n)(h6:n≤6)(hp:p+n≤s.length)(hs:s.length≤4294967296):bJ.f (s,(p:Int),(n:Int),())=(gw s p n,true):=by
 have e:=JS s p (f:=λj a=>(rV s (p:Int) j a).nice) (λj a h ha hb=>by
  have:=gv s (p+j)
  simp only[PX,rV]
  rw[aj (m:=(p:Int)+(j:Int)) (by omega) (by omega),show((p:Int)+(j:Int)).toNat=p+j by omega,aj (m:=ah s (p+j)) (by omega) (by omega),aj (m:=256*a) (by omega) (by omega),aj (by omega) (by omega),Int.mul_comm]) n 0 (by omega) (by omega)
 rw[Nat.zero_add]at e
 have c1:(decide ((1:Int)≤(n:Int))&&decide ((n:Int)≤6))=true:=by simp;omega
 have c3:(decide ((0:Int)≤(p:Int))&&decide ((p:Int)≤(IntKind.wrap .i64 ((s.length:Int)-(n:Int)))))=true:=by rw[aj (by omega) (by omega)];simp;omega
 simp only[PX,bJ,bA,nb,c1,c3,Bool.not_true,cond_false,aA]
 refine(congrArg (Stp.elim _ _) e).trans ?_
 simp only[Stp.elim,gw]
theorem cq (s:ae)(p n:Nat)(h1:1≤n)(h6:n≤6)(hp:p+n≤s.length)(hs:s.length≤4294967296):d8.f (s,(p:Int),(n:Int),())=gw s p n:=by
 simp only[PX,d8,PI s p n h1 h6 hp hs]
theorem Jv (v:ae)(hv:v.length≤4294967296):rf.f (v,())=lF.f (v,()):=by
 simp only[PX,rf,lF,Og v hv]

end
end Go.Proofs.YtfpdenjmlnhnnaaGreat
