/-
  Contracts of functions and plain laws (printed by a program): each theorem says what a function of the program returns; conditions are its hypotheses.
-/
import Derived.Test.YtgbgljgnblkffaaGreatEW3
set_option linter.all false
set_option maxRecDepth 4000
namespace Go.Proofs.YtgbgljgnblkffaaGreat
open Go Go.RowKit
noncomputable section
theorem Vy (v:List Entr):wW.f (v,())=wO.f (v,()):=by
 simp only[PX,wW,wO,fG,fY]
 have h1:=wI v (f:=λj a=>(p7 v j a).nice) (g:=λj a=>(p9 v v j a).nice) (k:=Int.toNat ((v.length:Int)-0)) (bf _) (λj y hy=>by
  simp only[PX,p7,p9,ah,getD_some hy,dS,cB,av,SN,U1,Z4,List.drop_zero,lW]
  cases ai.f (y.ip,32,())<;>cases ai.f (y.hw,48,())<;>cases(decide (0≤y.age)&&decide (y.age≤9))<;>cases(v.take j).any (λh=>h.ip==y.ip)<;>simp)
 rw[show decide ((v.length:Int)≤4)= !decide (4<(v.length:Int)) by rw[Bool.eq_iff_iff];simp]
 rcases h1 with⟨a,b,h5,h6⟩|⟨h5,h6⟩
 ·rw[h5,h6]
  cases decide (4<(v.length:Int))<;>rfl
 ·rw[h5,h6]
  cases decide (4<(v.length:Int))<;>rfl
theorem Xc (l:Link):Av.f (l,())=AC.f (l,()):=by
 simp only[PX,Av,AC,dS,Vy]
theorem Um (s:Stac)(hs:jQ s.door):su.f (s,())=j3.f (s,()):=by simp only[PX,su,j3,Xc,BD s.door hs]
def X3:Opti:=⟨0,-1,false,false,0,0⟩
theorem Ez (o:Opti)(h:aq.f (o,())=true):(0≤o.mss∧o.mss≤65535)∧(-1≤o.scale∧o.scale≤14)∧(0≤o.val∧o.val≤4294967295)∧(0≤o.echo∧o.echo≤4294967295)∧(o.stamp=false→o.val=0∧o.echo=0):=by
 simp only[PX,aq,av,dM,be]at h
 revert h
 cases o.stamp<;>cases hv:(o.val != 0)<;>cases he:(o.echo != 0)<;>simp at hv he⊢<;>omega
theorem N2 (x:Tupl):ph.f (x,x,())=true:=by simp only[PX,ph,bne_self_eq_false,cond_false]
theorem LY (x:Opti):n6.f (x,x,())=true:=by simp only[PX,n6,bne_self_eq_false,beq_self_eq_true,Bool.not_true,cond_false]
theorem WL (x:Sndr):tg.f (x,x,())=true:=by simp only[PX,tg,bne_self_eq_false,beq_self_eq_true,Bool.not_true,cond_false]
theorem Xz (x:Entr):wa.f (x,x,())=true:=by simp only[PX,wa,bne_self_eq_false,cond_false]
theorem Wa (x:MacRow):tc.f (x,x,())=true:=by simp only[PX,tc,bne_self_eq_false,beq_self_eq_true,Bool.not_true,cond_false]
theorem Xw (x:Piec):wQ.f (x,x,())=true:=by simp only[PX,wQ,bne_self_eq_false,beq_self_eq_true,Bool.not_true,cond_false]
theorem Y8 (x:Half):AO.f (x,x,())=true:=by simp only[PX,AO,N2,LY,bne_self_eq_false,Bool.not_true,cond_false]
theorem Xq (x:Limi):sN.f (x,x,())=true:=by simp only[PX,sN,bne_self_eq_false,cond_false]
theorem WJ (x:List Tupl):tE.f (x,x,())=true:=by
 simp only[PX,tE,fe,bne_self_eq_false,cond_false]
 rw[gg _ _ λj=>by simp only[PX,ug,N2,Bool.not_true,cond_false]]
 rfl
theorem Wy (x:List Entr):tv.f (x,x,())=true:=by
 simp only[PX,tv,fg,bne_self_eq_false,cond_false]
 rw[gg _ _ λj=>by simp only[PX,uc,Xz,Bool.not_true,cond_false]]
 rfl
theorem Ug (x:List MacRow):qT.f (x,x,())=true:=by
 simp only[PX,qT,dV,bne_self_eq_false,cond_false]
 rw[gg _ _ λj=>by simp only[PX,sF,Wa,Bool.not_true,cond_false]]
 rfl
theorem Wv (x:List Piec):tH.f (x,x,())=true:=by
 simp only[PX,tH,eU,bne_self_eq_false,cond_false]
 rw[gg _ _ λj=>by simp only[PX,ut,Xw,Bool.not_true,cond_false]]
 rfl
theorem XH (x:List Half):wg.f (x,x,())=true:=by
 simp only[PX,wg,fR,bne_self_eq_false,cond_false]
 rw[gg _ _ λj=>by simp only[PX,vQ,Y8,Bool.not_true,cond_false]]
 rfl
theorem SY (x:Recv):oK.f (x,x,())=true:=by simp only[PX,oK,Wv,bne_self_eq_false,beq_self_eq_true,Bool.not_true,cond_false]
theorem YW (x:Conn):A5.f (x,x,())=true:=by simp only[PX,A5,N2,WL,SY,LY,bne_self_eq_false,Bool.not_true,cond_false]
theorem XA (x:List Conn):wz.f (x,x,())=true:=by
 simp only[PX,wz,fO,bne_self_eq_false,cond_false]
 rw[gg _ _ λj=>by simp only[PX,uP,YW,Bool.not_true,cond_false]]
 rfl
theorem Ys (x:Mac):ww.f (x,x,())=true:=by simp only[PX,ww,Ug,bne_self_eq_false,beq_self_eq_true,Bool.not_true,cond_false]
theorem Zi (x:Keys):AL.f (x,x,())=true:=by simp only[PX,AL,Ys,bne_self_eq_false,beq_self_eq_true,Bool.not_true,cond_false]
theorem X0 (x:Tabl):wo.f (x,x,())=true:=by simp only[PX,wo,XA,WJ,Bool.not_true,cond_false]
theorem Y2 (x:Door):zm.f (x,x,())=true:=by simp only[PX,zm,Zi,Xq,XH,X0,bne_self_eq_false,Bool.not_true,cond_false]
theorem Za (x:Link):BF.f (x,x,())=true:=by simp only[PX,BF,Wy,bne_self_eq_false,Bool.not_true,cond_false]
theorem X5 (x:Stac):pb.f (x,x,())=true:=by simp only[PX,pb,Za,Y2,Bool.not_true,cond_false]
theorem Ux (x:Limi):nq.f (x,())=x:=by simp only[PX,nq]
theorem SI (x:List MacRow):qy.f (x,())=x:=by
 simp only[PX,qy,dX,bf,ah]
 rw[d7 x _ rfl (F:=λj y a=> .next (a.set j y)) (λj y a h=>by simp only[PX,rD,yS,ah,getD_some h])]
 have:=F8 (W:=Empty) (λy:MacRow=>y) x 0 (List.replicate x.length (⟨[],0⟩:MacRow)) (by simp)
 rw[this]
 simp[Stp.elim]
theorem Zt (x:Mac):sW.f (x,())=x:=by simp only[PX,sW,SI]
def rz:Int→List MacRow→List MacRow
 |_,[]=>[]
 |k,_::r=>⟨eX.f (k,()),k+1⟩::rz (k+2) r
theorem K7:∀(k:Int) (xs:List MacRow),(rz k xs).length=xs.length
 |_,[]=>rfl
 |k,_::r=>by simp[rz,K7 (k+2) r]
theorem Lr:∀(r A:List MacRow) (k:Int),0≤k→k+2*(r.length:Int)≤4611686018427387904→a9 (λj a=>(iP j a).nice) 1 r.length (A.length:Int) (k,A++r)= .next (k+2*(r.length:Int),A++rz k r)
 |[],A,k,_,_=>by simp[a9,rz]
 |x::r,A,k,h0,h1=>by
  simp only[List.length_cons]at h1
  have w1:IntKind.wrap .i64 (k+1)=k+1:=aA (by omega) (by omega)
  have w2:IntKind.wrap .i64 (k+1+1)=k+2:=by rw[aA (by omega) (by omega)];omega
  have ih:=Lr r (A++[⟨eX.f (k,()),k+1⟩]) (k+2) (by omega) (by omega)
  simp only[PX,iP]at ih
  simp only[List.length_cons,a9,PX,iP,ah,Stp.elim,w1,w2]
  have e1:∀y z:MacRow,(A++y::r).set A.length z=A++z::r:=λy z=>by
   rw[List.set_append_right _ _ (Nat.le_refl _)];simp
  have e2:∀y:MacRow,(A++y::r).getD A.length (Ty.zero .macRow)=y:=λy=>getD_some (by simp)
  simp only[e1,e2]
  have e3:A++(⟨eX.f (k,()),k+1⟩:MacRow)::r=(A++[⟨eX.f (k,()),k+1⟩])++r:=by simp
  rw[e3,show(A.length:Int)+1=((A++[(⟨eX.f (k,()),k+1⟩:MacRow)]).length:Int) by simp,ih]
  simp only[rz,List.append_assoc,List.cons_append,List.nil_append]
  congr 2;omega
theorem Lk (xs:List MacRow)(k:Int)(h0:0≤k)(h1:k+2*(xs.length:Int)≤4611686018427387904):jc.f (xs,k,())=(k+2*(xs.length:Int),rz k xs):=by
 have:=Lr xs [] k h0 h1
 rw[List.nil_append,List.nil_append]at this
 simp only[PX,jc,bm,bf]
 refine(congrArg (Stp.elim _ _) this).trans ?_
 simp only[Stp.elim]
theorem La (v:List MacRow):∀(r:List MacRow) (j:Nat) (k:Int),0≤k→k+2*(r.length:Int)≤4611686018427387904→v.drop j=rz k r→a9 (λj a=>(iC v j a).nice) 1 r.length (j:Int) k= .next (k+2*(r.length:Int))
 |[],_,k,_,_,_=>by simp[a9]
 |x::r,j,k,h0,h1,h2=>by
  simp only[List.length_cons]at h1
  have w1:IntKind.wrap .i64 (k+1)=k+1:=aA (by omega) (by omega)
  have w2:IntKind.wrap .i64 (k+1+1)=k+2:=by rw[aA (by omega) (by omega)];omega
  have hg:v[j]? =some ⟨eX.f (k,()),k+1⟩:=by
   have:=congrArg (λl=>l[0]?) h2
   simpa [rz]using this
  have h3:v.drop (j+1)=rz (k+2) r:=by
   have:=congrArg (List.drop 1) h2
   simpa [rz,List.drop_drop]using this
  have ih:=La v r (j+1) (k+2) (by omega) (by omega) h3
  simp only[PX,iC]at ih
  simp only[List.length_cons,a9,PX,iC,ah,getD_some hg,w1,w2,beq_self_eq_true,bne_self_eq_false,Bool.not_true,cond_false,Stp.elim]
  rw[show(j:Int)+1=((j+1:Nat):Int) by omega,ih]
  congr 1;omega
theorem UT (xs:List MacRow)(k:Int)(h0:0≤k)(h1:k+2*(xs.length:Int)≤4611686018427387904):je.f (rz k xs,k,())=k+2*(xs.length:Int):=by
 have:=La (rz k xs) xs 0 k h0 h1 rfl
 simp only[PX,je,cp,bf,K7]
 refine(congrArg (Stp.elim _ _) this).trans ?_
 simp only[Stp.elim]
def IE (x0 x1 x2:Int)(x3:Limi)(x4:Mac):Stac:=⟨⟨x0,x1,[]⟩,⟨x2,0,⟨0,x4,⟨false,0,0,[]⟩,false⟩,x3,[],⟨[],[]⟩,0⟩⟩
def SG:Stac:=⟨⟨0,0,[]⟩,⟨0,0,⟨0,⟨false,0,0,[]⟩,⟨false,0,0,[]⟩,false⟩,⟨0,0,0,0⟩,[],⟨[],[]⟩,0⟩⟩
def K3 (x0 x1 x2:Int)(x3:Limi)(x4:Mac):Stac×Bool:=bif j3.f (IE x0 x1 x2 x3 x4,())then(IE x0 x1 x2 x3 x4,true)else(SG,false)
theorem Kl (x0 x1 x2:Int)(x3:Limi)(x4:Mac):qg.f (x0,x1,x2,x3,x4,())=K3 x0 x1 x2 x3 x4:=by
 have e:(⟨⟨x0,x1,[]⟩,⟨x2,0,⟨0,x4,⟨false,0,0,[]⟩,false⟩,x3,[],⟨[],[]⟩,0⟩⟩:Stac)=IE x0 x1 x2 x3 x4:=rfl
 simp only[PX,qg,iz,e,K3,SG]
 cases j3.f (IE x0 x1 x2 x3 x4,())<;>rfl
theorem Kd (x0 x1 x2:Int)(x3:Limi)(x4:Mac):sX.f (x0,x1,x2,x3,x4,())=K3 x0 x1 x2 x3 x4:=by
 have e:(⟨⟨x0,x1,[]⟩,⟨x2,0,⟨0,x4,⟨false,0,0,[]⟩,false⟩,x3,[],⟨[],[]⟩,0⟩⟩:Stac)=IE x0 x1 x2 x3 x4:=rfl
 have hq:su.f (IE x0 x1 x2 x3 x4,())=j3.f (IE x0 x1 x2 x3 x4,()):=Um _ (λy hy=>by cases hy)
 simp only[PX,sX,wj,e,hq,K3,SG]
 cases j3.f (IE x0 x1 x2 x3 x4,())<;>rfl
theorem Wm (k:Int):oE.f ([],k,())=(k,[]):=by simp only[PX,oE,bA];rfl
theorem Yb (k:Int):ra.f ([],k,())=(k,[]):=by simp only[PX,ra,bJ];rfl
theorem Xp (k:Int):o9.f ([],k,())=(k,[]):=by simp only[PX,o9,bz];rfl
theorem Zv (k:Int):jc.f ([],k,())=(k,[]):=by simp only[PX,jc,bm];rfl
theorem XE (k:Int):qx.f ([],k,())=k:=by simp only[PX,qx];rfl
theorem Wj (k:Int):o7.f ([],k,())=k:=by simp only[PX,o7,du];rfl
theorem XS (k:Int):qQ.f ([],k,())=k:=by simp only[PX,qQ,d6];rfl
theorem VO (k:Int):oy.f ([],k,())=k:=by simp only[PX,oy,dC];rfl
theorem Zy (k:Int):je.f ([],k,())=k:=by simp only[PX,je,cp];rfl
theorem X4 (k:Int):qV.f ([],k,())=k:=by simp only[PX,qV,ec];rfl
theorem Pp (x0 x1 x2:Int)(x3:Limi)(x4:Mac):∃a b c:Int,∃l:Limi,∃m:Mac,∃o:Bool,K3 x0 x1 x2 x3 x4=(IE a b c l m,o)∧m.rows.length≤x4.rows.length:=by
 unfold K3
 cases j3.f (IE x0 x1 x2 x3 x4,())with
 |true=>exact⟨x0,x1,x2,x3,x4,true,rfl,Nat.le_refl _⟩
 |false=>exact⟨0,0,0,⟨0,0,0,0⟩,⟨false,0,0,[]⟩,false,rfl,Nat.zero_le _⟩
set_option maxHeartbeats 1000000 in theorem A1 (x0 x1 x2:Int)(x3:Limi)(x4:Mac)(hf:lx [.sc (.int .i64),.sc (.int .i64),.sc (.int .i64),.st .limi,.st .mac] (x0,x1,x2,x3,x4,())):gq.f (x0,x1,x2,x3,x4,())=true:=by
 simp only[lx,Pk.fact,xS,sr,Fl.fact,Ty.fl,Ty.toH]at hf
 rcases Bool.eq_false_or_eq_true (decide (wM.f (x4,1048576,())<0))with hz|hz
 ·simp only[FX.f,PX,gq]at hz⊢
  rw[hz,cond_true]
 have hsz:x4.rows.length≤1048576:=(PG x4 hf.2.2.2.2.1.2.2.2.1.1 hf.2.2.2.2.1.2.2.2.1.2 (by simpa using hz)).2
 obtain⟨a,b,c,l,m,o,e,hm⟩:=Pp x0 x1 x2 x3 x4
 have k1:=Lk x4.rows 1 (by omega) (by omega)
 have k2:=Lk m.rows 1 (by omega) (by omega)
 have k3:=UT m.rows 1 (by omega) (by omega)
 have n1:decide (1+2*(x4.rows.length:Int)<0)=false:=by simp;omega
 have n2:decide (1+2*(m.rows.length:Int)<0)=false:=by simp;omega
 have n0:decide ((1:Int)<0)=false:=rfl
 simp only[FX.f,PX,gq]at hz⊢
 simp only[hz,cond_false,Ux,Zt,Kd,Kl,e,X5,Ys,beq_self_eq_true,Bool.not_true,PX,sk,k1,n1,vf,yJ,yU,y7,vq,qD,yK,x9,yt,wt,u5,IE,Wm,Yb,Xp,Zv,XE,Wj,XS,VO,Zy,X4,k2,k3,n2,n0,bne_self_eq_false]
theorem vr (k:Keys)(t:Tupl)(seq a i:Int)(hk:bL.f (k,())=true)(ha:0≤a∧a≤4294967295)(hi:a/16777216%8=i):
  ba.f (k,t,seq,a,())=if aG.f (k.now,t,seq,k.epoch,i,())=a then(k.epoch,i,true)else if 1≤k.epoch∧k.two=true∧aG.f (k.before,t,seq,k.epoch-1,i,())=a then(k.epoch-1,i,true)else(0,0,false):=by
 have he:=fp k hk
 have hp:(cK.f (a,())).2.1=i:=by
  simp only[PX,cK,be,decide_eq_true ha.1,decide_eq_true ha.2,Bool.and_self,Bool.not_true,cond_false]
  rw[(sD 16777216).1 ha.1,aA (by omega) (by omega),(gn 8).1 (by omega),hi]
 have f1:(cy seq a i k t k.epoch ()).nice=bif aG.f (k.now,t,seq,k.epoch,i,())==a then .out k.epoch else .next ():=by
  simp only[PX,cy,ig,iz,beq_self_eq_true,cond_true]
 have f2:(cy seq a i k t (k.epoch+ -1) ()).nice=bif k.two&&aG.f (k.before,t,seq,k.epoch-1,i,())==a then .out (k.epoch-1)else .next ():=by
  have e1:((k.epoch+ -1)==k.epoch)=false:=by simp;omega
  have e2:IntKind.wrap .i64 (k.epoch-1)=k.epoch+ -1:=by rw[aA (by omega) (by omega)];omega
  simp only[PX,cy,ig,iz,e1,e2,beq_self_eq_true,cond_false]
  cases k.two with
  |false=>rfl
  |true=>
   simp only[cond_true,Bool.true_and]
   rw[show k.epoch+ -1=k.epoch-1 by omega]
 simp only[PX,ba,bX,hk,be,decide_eq_true ha.1,decide_eq_true ha.2,Bool.and_self,Bool.not_true,cond_false,hp]
 by_cases h0:1≤k.epoch
 ·have hn:Int.toNat (k.epoch-(if 0<(IntKind.wrap .i64 (k.epoch-1))then(IntKind.wrap .i64 (k.epoch-1))else 0)+1)=2:=by
   rw[aA (by omega) (by omega)];split<;>omega
  rw[hn]
  simp only[a9,f1]
  by_cases c1:aG.f (k.now,t,seq,k.epoch,i,())=a
  ·rw[if_pos c1,show(aG.f (k.now,t,seq,k.epoch,i,())==a)=true by simpa using c1];rfl
  ·rw[if_neg c1,show(aG.f (k.now,t,seq,k.epoch,i,())==a)=false by simpa using c1]
   simp only[cond_false,Stp.elim,f2]
   by_cases c2:k.two=true∧aG.f (k.before,t,seq,k.epoch-1,i,())=a
   ·rw[if_pos ⟨h0,c2⟩,show(k.two&&aG.f (k.before,t,seq,k.epoch-1,i,())==a)=true by simpa using c2];rfl
   ·rw[if_neg (λh=>c2 h.2),show(k.two&&aG.f (k.before,t,seq,k.epoch-1,i,())==a)=false by rw[←Bool.not_eq_true];simpa using c2];rfl
 ·have hn:Int.toNat (k.epoch-(if 0<(IntKind.wrap .i64 (k.epoch-1))then(IntKind.wrap .i64 (k.epoch-1))else 0)+1)=1:=by
   rw[aA (by omega) (by omega)];split<;>omega
  rw[hn]
  simp only[a9,f1]
  by_cases c1:aG.f (k.now,t,seq,k.epoch,i,())=a
  ·rw[if_pos c1,show(aG.f (k.now,t,seq,k.epoch,i,())==a)=true by simpa using c1];rfl
  ·rw[if_neg c1,if_neg (λh=>h0 h.1),show(aG.f (k.now,t,seq,k.epoch,i,())==a)=false by simpa using c1];rfl
theorem tU (m:Mac)(t:Tupl)(seq e i:Int)(ht:aD.f (t,())=true)(hs:0≤seq∧seq≤4294967295)(he:0≤e∧e≤4294967295)(hi:0≤i∧i≤7):
  aG.f (m,t,seq,e,i,())/134217728=e%32∧0≤aG.f (m,t,seq,e,i,())∧aG.f (m,t,seq,e,i,())≤4294967295∧aG.f (m,t,seq,e,i,())/16777216%8=i:=by
 rw[Qb m t seq e i ht hs he hi]
 have h:=Lq m (f8.f (t,seq,e,i,()))
 omega
theorem mD (k:Keys)(m:Mac)(hk:bL.f (k,())=true)(hm:dF.f (m,())=true):d8.f (k,m,())=if k.epoch=4294967295 then k else⟨k.epoch+1,m,k.now,true⟩:=by
 have he:=fp k hk
 simp only[PX,d8,qF,iz,hk,hm,Bool.not_true,cond_false]
 by_cases c:k.epoch=4294967295
 ·rw[if_pos c,show(k.epoch==4294967295)=true by simpa using c];rfl
 ·rw[if_neg c,show(k.epoch==4294967295)=false by simpa using c,aA (by omega) (by omega)];rfl
theorem R5 (k:Keys)(m:Mac)(hk:bL.f (k,())=true)(hm:dF.f (m,())=true)(hn:k.epoch≠4294967295):bL.f ((⟨k.epoch+1,m,k.now,true⟩:Keys),())=true:=by
 have:=RM k m hk
 rwa [mD k m hk hm,if_neg hn]at this
def oq (k:Keys)(ms:List Mac):Keys:=ms.foldl (λk m=>d8.f (k,m,())) k
theorem KO (k:Keys)(hk:bL.f (k,())=true)(he:k.epoch=4294967295):∀ms:List Mac,(∀m∈ms,dF.f (m,())=true)→oq k ms=k
 |[],_=>rfl
 |m::r,h=>by
  show oq (d8.f (k,m,())) r=k
  rw[mD k m hk (h m List.mem_cons_self),if_pos he]
  exact KO k hk he r λx hx=>h x (List.mem_cons_of_mem _ hx)
theorem Bw:∀(ms:List Mac) (k:Keys),bL.f (k,())=true→(∀m∈ms,dF.f (m,())=true)→bL.f (oq k ms,())=true∧(k.epoch+(ms.length:Int)≤4294967295→(oq k ms).epoch=k.epoch+(ms.length:Int))
 |[],k,hk,_=>⟨hk,λ_=>by simp[oq]⟩
 |m::r,k,hk,h=>by
  show bL.f (oq (d8.f (k,m,())) r,())=true∧_
  have hm:=h m List.mem_cons_self
  have hr:=λx hx=>h x (List.mem_cons_of_mem _ hx)
  rw[mD k m hk hm]
  by_cases c:k.epoch=4294967295
  ·rw[if_pos c]
   refine⟨(Bw r k hk hr).1,λhl=> ?_⟩
   simp only[List.length_cons]at hl;omega
  ·rw[if_neg c]
   have ih:=Bw r _ (R5 k m hk hm c) hr
   refine⟨ih.1,λhl=> ?_⟩
   simp only[List.length_cons]at hl⊢
   have h2:=ih.2 (by simp only[];omega)
   show(oq (d8.f (k,m,())) r).epoch=_
   rw[mD k m hk hm,if_neg c,h2]
   simp only[];omega
theorem Mn (v n:Int)(h0:0≤v)(hn:0≤n)(h6:n<64):bits .and .i64 v n=bits .and .i64 (v%64) n:=by
 obtain⟨x,rfl⟩:=Int.eq_ofNat_of_zero_le h0
 obtain⟨y,rfl⟩:=Int.eq_ofNat_of_zero_le hn
 have key:∀z:Nat,(BitVec.ofInt 64 (z:Int)&&& BitVec.ofInt 64 (y:Int)).toNat=z%2 ^ 64&&& y:=by
  intro z
  rw[BitVec.toNat_and,BitVec.toNat_ofInt,BitVec.toNat_ofInt,show((z:Int)%((2 ^ 64:Nat):Int)).toNat=z%2 ^ 64 by omega,show((y:Int)%((2 ^ 64:Nat):Int)).toNat=y by omega]
 have low:∀z:Nat,z&&& y=(z%64)&&& y:=by
  intro z
  have h1:z&&& y≤y:=Nat.and_le_right
  have h2:=Nat.and_mod_two_pow (a:=z) (b:=y) (n:=6)
  rw[show(2:Nat) ^ 6=64 from rfl,Nat.mod_eq_of_lt (show z&&& y<64 by omega),Nat.mod_eq_of_lt (show y<64 by omega)]at h2
  exact h2
 show IntKind.i64.wrap ((BitVec.ofInt 64 (x:Int)&&& BitVec.ofInt 64 (y:Int)).toNat:Nat)=IntKind.i64.wrap ((BitVec.ofInt 64 ((x:Int)%64)&&& BitVec.ofInt 64 (y:Int)).toNat:Nat)
 rw[show((x:Int)%64)=((x%64:Nat):Int) by omega,key,key,low (x%2 ^ 64),low (x%64%2 ^ 64)]
 congr 3;omega
theorem Z1 (r:Int)(h0:0≤r)(h1:r<64):bits .and .i64 r 15=r%16∧(bits .and .i64 r 32==0)=decide (r<32)∧(bits .and .i64 r 16 != 0)=decide (16≤r%32):=by
 obtain⟨x,rfl⟩:=Int.eq_ofNat_of_zero_le h0
 have key:∀y:Fin 64,bits .and .i64 ((y.val:Nat):Int) 15=((y.val:Nat):Int)%16∧(bits .and .i64 ((y.val:Nat):Int) 32==0)=decide (((y.val:Nat):Int)<32)∧(bits .and .i64 ((y.val:Nat):Int) 16 != 0)=decide (16≤((y.val:Nat):Int)%32):=by decide+kernel
 exact key ⟨x,by omega⟩
theorem OG (clock scale:Int)(sack:Bool)(hc:0≤clock∧clock≤4294967295)(hs: -1≤scale∧scale≤14):(0≤ja.f (clock,scale,sack,())∧ja.f (clock,scale,sack,())≤4294967295)∧ja.f (clock,scale,sack,())%64=32+(if sack=true then 16 else 0)+(if scale= -1 then 15 else scale):=by
 simp only[PX,ja,av,pF]
 by_cases c:scale= -1
 ·subst c
  rw[show(decide ((0:Int)≤-1)&&decide ((-1:Int)≤14))=false from rfl]
  cases sack<;>simp only[cond_true,cond_false,Bool.not_false,cm,if_true,Bool.false_eq_true,if_false]<;>omega
 ·rw[if_neg c,decide_eq_true (show 0≤scale by omega),decide_eq_true hs.2]
  cases sack<;>simp only[cond_true,cond_false,Bool.and_self,Bool.not_true,cm,if_true,Bool.false_eq_true,if_false]<;>omega
theorem Rr (v scale:Int)(sack:Bool)(hv:0≤v∧v≤4294967295)(hs: -1≤scale∧scale≤14)(hm:v%64=32+(if sack=true then 16 else 0)+(if scale= -1 then 15 else scale)):jg.f (v,())=(scale,sack,true):=by
 obtain⟨b1,b2,b3⟩:=Z1 (v%64) (by omega) (by omega)
 have w:ai.f (v,32,())=true:=by rw[be];simp;omega
 have n32:decide (v%64<32)=false:=by
  rw[hm];simp;split<;>split<;>omega
 simp only[PX,jg,w,Mn v 32 hv.1 (by omega) (by omega),Mn v 15 hv.1 (by omega) (by omega),Mn v 16 hv.1 (by omega) (by omega),b1,b2,b3,n32,Bool.not_true,cond_false]
 have hk:decide (16≤v%64%32)=sack:=by
  rw[hm]
  cases sack
  ·simp;split<;>omega
  ·simp;split<;>omega
 rw[hk]
 by_cases c:scale= -1
 ·rw[if_pos c]at hm
  rw[show(v%64%16==15)=true by simp;cases sack<;>simp at hm<;>omega,cond_true,c]
 ·rw[if_neg c]at hm
  have e:v%64%16=scale:=by cases sack<;>simp at hm<;>omega
  rw[e,show(scale==15)=false by simp;omega,cond_false]
theorem U8 (c:Conn)(g:Segm):(lg c g).state=c.state∧(lg c g).opts=c.opts:=by
 unfold lg
 split
 ·split<;>exact⟨rfl,rfl⟩
 ·exact⟨rfl,rfl⟩
theorem MX (x:Recv)(seq:Int)(t:ax)(hd:x.done=false)(hf:x.fin= -1):(jx x seq t false).done=false:=by
 unfold jx
 split
 ·have e:CB x (EL x seq t) ((seq+(t.length:Int)-x.next)%4294967296) false= -1:=by
   unfold CB
   rw[if_neg (λh=>by cases h.1),hf]
  rw[e]
  unfold Mv
  split
  ·exact hd
  ·rw[if_neg (by omega)]
   exact hd
 ·exact hd
theorem Wx (c:Conn)(g:Segm)(hc:CO c)(hs:bN c.r.held)(h1:c.state=1)(hd:c.r.done=false)(hfin:c.r.fin= -1)(hg:ao.f (g,())=true)(hfl:g.flags=16)(hb:g.body=[])(hseq:g.seq=c.r.next)(hack:g.ack=c.s.una):(cN c g).1.state=1∧(cN c g).1.opts=c.opts:=by
 have n4:bc.f (g,4,())=false:=by simp only[PX,bc,hfl];decide+kernel
 have n2:bc.f (g,2,())=false:=by simp only[PX,bc,hfl];decide+kernel
 have n1:bc.f (g,1,())=false:=by simp only[PX,bc,hfl];decide+kernel
 have n16:bc.f (g,16,())=true:=by simp only[PX,bc,hfl];decide+kernel
 have hlen:aI.f (g,())=0:=by simp only[PX,aI,n1,n2,hb,cond_false];rfl
 have s0:∀a,pJ a a=0:=λa=>by unfold pJ;rw[Int.sub_self];rfl
 have hfl0:0≤Dp c.s:=by
  have h9:=hc.snd
  unfold SO at h9
  unfold Dp;split<;>omega
 have hv:za c g=5:=by
  unfold za O5 MW
  rw[(BN c).2 hc,hg,n4,n2,n16,hlen,hseq,hack,s0,s0,h1,decide_eq_true hfl0]
  rfl
 have hh:(cL c g).state=1∧(cL c g).opts=c.opts:=by
  obtain⟨e1,e2⟩:=U8 c g
  unfold cL
  rw[if_pos (by omega),HK,n1]
  rw[zr]
  ·exact⟨e1.trans h1,e2⟩
  ·show mY (lg c g).state (lg c g).s.done (jx c.r g.seq g.body false).done=(lg c g).state
   rw[MX c.r g.seq g.body hd hfin,e1,h1]
   rfl
 have hco:=(GS c g hs hv).1
 have hp:=(L0 (cL c g) (cL c g).window hco.snd).re
 unfold cN
 rw[if_neg (by omega),if_neg (by omega),if_neg (by omega),if_pos hv,if_neg (by omega)]
 refine⟨?_, ?_⟩
 ·show(dQ.f (cL c g,(cL c g).window,())).1.state=1
  rw[hp];exact hh.1
 ·show(dQ.f (cL c g,(cL c g).window,())).1.opts=c.opts
  rw[hp];exact hh.2
def Ib:Conn:=⟨⟨0,0,0⟩,0,⟨0,[],0,false,false,false⟩,⟨0,[],[],0,false⟩,0,0,⟨0,0,false,false,0,0⟩,0,0⟩
def bk (c:Clie):Segm:=⟨c.tuple.port,c.tuple.my,c.isn,0,2,c.window,c.opts,[]⟩
def nW (d:Door)(ms:List Mac):Door:={d with keys:=oq d.keys ms}
def ZG (d:Door)(c:Clie)(now:Door)(g:Segm):Door×Conn×Int:=
 bif (bif (j9 now c.tuple.ip g).2.2==0 then(true,())else(decide (au.f ((j9 now c.tuple.ip g).1.table,c.tuple,())<0),())).1 then(d,Ib,0)
 else((j9 now c.tuple.ip g).1,(j9 now c.tuple.ip g).1.table.conns.getD (au.f ((j9 now c.tuple.ip g).1.table,c.tuple,())).toNat (Ty.zero .conn),(j9 now c.tuple.ip g).2.2)
def yV (d:Door)(c:Clie)(ms:List Mac):Door×Conn×Int:=
 bif !cU.f (c,())then(d,Ib,0)else bif ((j9 d c.tuple.ip (bk c)).2.1.length:Int)==0 then(d,Ib,0)else
 bif !(jf.f (c,(j9 d c.tuple.ip (bk c)).2.1.getD 0 (Ty.zero .segm),())).2 then(d,Ib,0)else
 ZG d c (nW (j9 d c.tuple.ip (bk c)).1 ms) (jf.f (c,(j9 d c.tuple.ip (bk c)).2.1.getD 0 (Ty.zero .segm),())).1
theorem Ii {f:Int→Door×Conn×Door→Stp (Door×Conn×Door) Empty}(ms:List Mac)(hf:∀(j:Nat) x a,ms[j]? =some x→∃p q,f (j:Int) a= .next (p,q,{a.2.2 with keys:=d8.f (a.2.2.keys,x,())})):∀(n j:Nat) (a:Door×Conn×Door),j+n=ms.length→∃p q,a9 f 1 n (j:Int) a= .next (p,q,nW a.2.2 (ms.drop j))
 |0,j,a,h=>⟨a.1,a.2.1,by rw[List.drop_of_length_le (by omega)];rfl⟩
 |n+1,j,a,h=>by
  have hj:j<ms.length:=by omega
  obtain⟨p,q,e⟩:=hf j ms[j] a (List.getElem?_eq_getElem hj)
  obtain⟨p2,q2,e2⟩:=Ii ms hf n (j+1) (p,q,{a.2.2 with keys:=d8.f (a.2.2.keys,ms[j],())}) (by omega)
  refine⟨p2,q2, ?_⟩
  simp only[a9,e,Stp.elim]
  rw[show(j:Int)+1=((j+1:Nat):Int) by omega,e2,List.drop_eq_getElem_cons hj]
  rfl
theorem Hw (c:Clie):pH.f (c,())=cU.f (c,()):=by
 simp only[PX,pH,cU,pm,ll,dS]
theorem R8 (c:Clie):FG.f (c,())=bk c:=by simp only[PX,FG,bk]
theorem RH (c:Clie):Fv.f (c,())=bk c:=by simp only[PX,Fv,bk]
theorem UV (c:Clie)(g:Segm):wC.f (c,g,())=jf.f (c,g,()):=by
 simp only[PX,wC,jf,i1,cr,bG]
set_option maxHeartbeats 2000000 in theorem MM (d:Door)(c:Clie)(ms:List Mac)(hs:jQ d)(hl:d.halves.length≤4294967296)(ru:jQ (j9 d c.tuple.ip (bk c)).1)(hl2:(j9 d c.tuple.ip (bk c)).1.halves.length≤4294967296):sm.f (d,c,ms,())=yV d c ms:=by
 simp only[PX,sm,jE,R8,dd,fU,yD d c.tuple.ip (bk c) hs hl,yV,Ib]
 cases cU.f (c,())with
 |false=>rfl
 |true=>
  simp only[Bool.not_true,cond_false]
  cases(((j9 d c.tuple.ip (bk c)).2.1.length:Int)==0)with
  |true=>rfl
  |false=>
   simp only[cond_false,bf]
   obtain⟨p,q,e⟩:=Ii (f:=λj a=>(pG ms j a).nice) ms (λj x a h=>by
    simp only[PX,pG,ah,getD_some h,lz,jE]
    exact⟨_,_,rfl⟩) ms.length 0 ((⟨0,0,⟨0,⟨false,0,0,[]⟩,⟨false,0,0,[]⟩,false⟩,⟨0,0,0,0⟩,[],⟨[],[]⟩,0⟩:Door),(⟨⟨0,0,0⟩,0,⟨0,[],0,false,false,false⟩,⟨0,[],[],0,false⟩,0,0,⟨0,0,false,false,0,0⟩,0,0⟩:Conn),(j9 d c.tuple.ip (bk c)).1) (by omega)
   refine(congrArg (Stp.elim _ _) e).trans ?_
   simp only[Stp.elim,List.drop_zero]
   cases(jf.f (c,(j9 d c.tuple.ip (bk c)).2.1.getD 0 (Ty.zero .segm),())).2 with
   |false=>rfl
   |true=>
    have Xt:jQ (nW (j9 d c.tuple.ip (bk c)).1 ms):=ru
    simp only[Bool.not_true,cond_false]
    rw[yD (nW (j9 d c.tuple.ip (bk c)).1 ms) _ _ Xt hl2]
    rfl
set_option maxHeartbeats 2000000 in theorem MU (d:Door)(c:Clie)(ms:List Mac)(hs:jQ d)(hl:d.halves.length≤4294967296)(ru:jQ (j9 d c.tuple.ip (bk c)).1)(hl2:(j9 d c.tuple.ip (bk c)).1.halves.length≤4294967296):rH.f (d,c,ms,())=yV d c ms:=by
 simp only[PX,rH,gi,RH,lr,fN,Ig d c.tuple.ip (bk c) hs hl,yV,Ib,Hw,UV,iH]
 cases cU.f (c,())with
 |false=>rfl
 |true=>
  simp only[Bool.not_true,cond_false,bf]
  obtain⟨p,q,e⟩:=Ii (f:=λj a=>(qo ms j a).nice) ms (λj x a h=>by
   simp only[PX,qo,ah,getD_some h,Qt,lz,jE]
   exact⟨_,_,rfl⟩) ms.length 0 ((⟨0,0,⟨0,⟨false,0,0,[]⟩,⟨false,0,0,[]⟩,false⟩,⟨0,0,0,0⟩,[],⟨[],[]⟩,0⟩:Door),(⟨⟨0,0,0⟩,0,⟨0,[],0,false,false,false⟩,⟨0,[],[],0,false⟩,0,0,⟨0,0,false,false,0,0⟩,0,0⟩:Conn),(j9 d c.tuple.ip (bk c)).1) (by omega)
  refine(congrArg (Stp.elim _ _) e).trans ?_
  simp only[Stp.elim,List.drop_zero]
  cases(((j9 d c.tuple.ip (bk c)).2.1.length:Int)==0)with
  |true=>rfl
  |false=>
   simp only[cond_false]
   cases(jf.f (c,(j9 d c.tuple.ip (bk c)).2.1.getD 0 (Ty.zero .segm),())).2 with
   |false=>rfl
   |true=>
    have Xt:jQ (nW (j9 d c.tuple.ip (bk c)).1 ms):=ru
    simp only[Bool.not_true,cond_false]
    rw[Ig (nW (j9 d c.tuple.ip (bk c)).1 ms) _ _ Xt hl2]
    rfl
theorem Xx (t:Tabl)(l:Limi)(c:Conn)(h:TO t l)(hc:CO c)(hn:c.tuple∉t.conns.map Conn.tuple):ck.f ((⟨t.conns++[c],t.waiting++[c.tuple]⟩:Tabl),l,())=true↔((t.conns.length:Int)<l.conns∧(t.waiting.length:Int)<l.waiting):=by
 rw[Gm]
 constructor
 ·intro k
  have k1:=k.nc
  have k2:=k.nw
  simp only[List.length_append,List.length_singleton]at k1 k2
  omega
 ·rintro⟨h1,h2⟩
  refine⟨h.lim,by simp only[List.length_append,List.length_singleton];omega,by simp only[List.length_append,List.length_singleton];omega,λy hy=> ?_, ?_, ?_,λw hw=> ?_⟩
  ·rcases List.mem_append.1 hy with hy|hy
   ·exact h.co y hy
   ·rw[List.mem_singleton.1 hy];exact hc
  ·rw[List.map_append,List.nodup_append]
   refine⟨h.dc,by simp,λa ha b hb=> ?_⟩
   simp at hb
   subst hb
   rintro rfl
   exact hn ha
  ·rw[List.nodup_append]
   refine⟨h.dw,by simp,λa ha b hb=> ?_⟩
   simp at hb
   subst hb
   rintro rfl
   exact hn (h.wc _ ha)
  ·rw[List.map_append,List.mem_append]
   rcases List.mem_append.1 hw with hw|hw
   ·exact .inl (h.wc w hw)
   ·rw[List.mem_singleton.1 hw];exact .inr (by simp)
theorem mQ (c:Clie)(h:cU.f (c,())=true):aD.f (c.tuple,())=true∧aq.f (c.opts,())=true∧(0≤c.isn∧c.isn≤4294967295)∧(0≤c.window∧c.window≤65535):=by
 revert h
 simp only[PX,cU,be,dM]
 cases aD.f (c.tuple,())<;>cases aq.f (c.opts,())<;>cases hx:(decide (0≤c.isn)&&decide (c.isn≤4294967295))<;>simp at hx⊢<;>omega
theorem Rx (xs:List Half)(t:Tupl)(h:¬0≤aC.f (xs,t,())):pE xs t=xs:=by
 rw[f9]at h
 unfold pE
 rw[decide_eq_false h,cond_false]
def OL (k:Keys):Prop:=k.epoch≤60∨4294967295≤k.epoch
@[reducible] def S7 (d:Door):Prop:=(d.table.conns.length:Int)<d.limits.conns∧(d.table.waiting.length:Int)<d.limits.waiting
def rT (c:Clie):Int:=iq.f (ng.f (c.opts,()),())
theorem HG (d:Door)(c:Clie)(hk:bL.f (d.keys,())=true)(hc:cU.f (c,())=true):li.f (d,c.tuple,bk c,())=aG.f (d.keys.now,c.tuple,c.isn,d.keys.epoch,rT c,()):=by
 obtain⟨ht,ho,hi,hw⟩:=mQ c hc
 have h:=tU d.keys.now c.tuple c.isn d.keys.epoch (rT c) ht hi (fp _ hk) (sM _)
 simp only[PX,li]
 show(if 0<aG.f (d.keys.now,c.tuple,c.isn,d.keys.epoch,rT c,())then aG.f (d.keys.now,c.tuple,c.isn,d.keys.epoch,rT c,())else 0)=_
 split<;>omega
def pn (c:Clie)(a:Opti):Opti:=bif c.opts.stamp&&a.stamp then⟨0,-1,false,true,(c.opts.val+1)%4294967296,a.val⟩else X3
theorem S9 (c:Clie)(g:Segm)(hf:g.flags=18)(ha:g.ack=(c.isn+1)%4294967296):jf.f (c,g,())=(⟨c.tuple.port,c.tuple.my,(c.isn+1)%4294967296,(g.seq+1)%4294967296,16,c.window,pn c g.opts,[]⟩,true):=by
 simp only[PX,jf,bD,hf,ha,bG,bne_self_eq_false,cond_false,pn,X3]
 cases c.opts.stamp<;>cases g.opts.stamp<;>rfl
theorem Nx (o:Opti)(k:Int):(bH.f (o,k,())).stamp=o.stamp∧(o.stamp=true→(bH.f (o,k,())).val=ja.f (k,o.scale,o.sack,())):=by
 simp only[PX,bH]
 cases hs:o.stamp with
 |false=>exact⟨rfl,λh=>by cases h⟩
 |true=>
  simp only[Bool.not_true,cond_false]
  cases bo.f (o.scale,0,14,())<;>simp
theorem Rt (c:Clie)(k i:Int)(ho:aq.f (c.opts,())=true)(hk:0≤k∧k≤4294967295):aq.f (pn c (bH.f (c.opts,k,())),())=true∧(i=rT c→bp.f (i,pn c (bH.f (c.opts,k,())),())=fD.f (c.opts,())):=by
 obtain⟨a1,a2⟩:=Nx c.opts k
 obtain⟨m1,m2,m3,m4,m5⟩:=Ez c.opts ho
 unfold pn
 rw[a1]
 cases hs:c.opts.stamp with
 |false=>
  refine⟨by show aq.f (X3,())=true;decide+kernel,λhi=> ?_⟩
  subst hi
  simp only[PX,bp,fD,hs,rT,bG,X3,Bool.and_false,Bool.and_self,cond_false]
 |true=>
  rw[a2 hs]
  obtain⟨s1,s2⟩:=OG k c.opts.scale c.opts.sack hk m2
  generalize ja.f (k,c.opts.scale,c.opts.sack,())=v at s1 s2
  refine⟨?_,λhi=> ?_⟩
  ·simp only[PX,aq,av,dM,be,Bool.and_self,cond_true,Bool.not_true,cond_false]
   rw[decide_eq_true (show 0≤(c.opts.val+1)%4294967296 by omega),decide_eq_true (show(c.opts.val+1)%4294967296≤4294967295 by omega),decide_eq_true s1.1,decide_eq_true s1.2]
   rfl
  ·subst hi
   simp only[PX,bp,fD,hs,rT,bG,Rr v c.opts.scale c.opts.sack s1 m2 s2,bD,Bool.and_self,cond_true]
theorem UL (d:Door)(c:Clie)(hD:DO d)(hc:cU.f (c,())=true)(hp:c.tuple.my=d.port)(hfull:d.limits.halves≤(d.halves.length:Int))(hh:¬0≤aC.f (d.halves,c.tuple,()))(hf:¬0≤au.f (d.table,c.tuple,())):j9 d c.tuple.ip (bk c)=(d,[fj.f (d,c.tuple,bk c,())],0):=by
 obtain⟨ht,ho,hi,hw⟩:=mQ c hc
 have hT:=yo c.tuple ht
 have hg:ao.f (bk c,())=true:=by
  rw[dL]
  simp only[bk]
  exact⟨hT.2.1,hT.2.2,hi,⟨by omega,by omega⟩,⟨by omega,by omega⟩,hw,ho,by simp⟩
 have hseg:uH c.tuple.ip (bk c)=c.tuple:=rfl
 have n4:bc.f (bk c,4,())=false:=by simp only[PX,bc,bk];decide+kernel
 have n2:bc.f (bk c,2,())=true:=by simp only[PX,bc,bk];decide+kernel
 have n1:bc.f (bk c,1,())=false:=by simp only[PX,bc,bk];decide+kernel
 have n16:bc.f (bk c,16,())=false:=by simp only[PX,bc,bk];decide+kernel
 have hw32:ai.f (c.tuple.ip,32,())=true:=by rw[be];simp;omega
 unfold j9
 rw[if_pos ⟨(rj d).2 hD,hw32,hg⟩,if_neg (by show¬(c.tuple.my≠d.port);simp[hp]),hseg,if_neg hf,n4,n2,n1,n16]
 have e:qX.f (d,c.tuple,bk c,())=(d,[fj.f (d,c.tuple,bk c,())]):=by
  rw[KV,(rj d).2 hD,ht,hg,decide_eq_false hh,decide_eq_true (show au.f (d.table,c.tuple,())<0 by omega),Tk,if_neg (λh=>by omega)]
  rfl
 rw[e]
 rfl
set_option maxHeartbeats 2000000 in theorem Uo (k:Keys)(c:Clie)(ms:List Mac)(hk:bL.f (k,())=true)(hc:cU.f (c,())=true)(hm:∀m∈ms,dF.f (m,())=true)(hlen:ms.length≤19)(hE:OL k):
  ((ms.length≤1∨k.epoch=4294967295)∧(ba.f (oq k ms,c.tuple,c.isn,aG.f (k.now,c.tuple,c.isn,k.epoch,rT c,()),())).2.1=rT c∧(ba.f (oq k ms,c.tuple,c.isn,aG.f (k.now,c.tuple,c.isn,k.epoch,rT c,()),())).2.2=true)∨
  ((2≤ms.length∧k.epoch≠4294967295)∧(ba.f (oq k ms,c.tuple,c.isn,aG.f (k.now,c.tuple,c.isn,k.epoch,rT c,()),())).2.2=false):=by
 obtain⟨ht,ho,hi,hw⟩:=mQ c hc
 have he:=fp k hk
 have hx:=sM (ng.f (c.opts,()))
 obtain⟨t1,t2,t3,t4⟩:=tU k.now c.tuple c.isn k.epoch (rT c) ht hi he hx
 have hown:ba.f (k,c.tuple,c.isn,aG.f (k.now,c.tuple,c.isn,k.epoch,rT c,()),())=(k.epoch,rT c,true):=Et k _ _ _ _ hk ⟨t2,t3⟩ t4 rfl
 have htop:=λ(m:Mac) (e:Int) (he:0≤e∧e≤4294967295)=>(tU m c.tuple c.isn e (rT c) ht hi he hx).1
 generalize hq:aG.f (k.now,c.tuple,c.isn,k.epoch,rT c,())=q at t1 t2 t3 t4 hown⊢
 by_cases hmax:k.epoch=4294967295
 ·rw[KO k hk hmax ms hm,hown]
  exact .inl ⟨.inr hmax,rfl,rfl⟩
 have hr:=Bw ms k hk hm
 have hep:=hr.2 (by unfold OL at hE;omega)
 match ms,hm,hlen,hr,hep with
 |[],_,_,_,_=>
  show _∨_
  rw[show oq k []=k from rfl,hown]
  exact .inl ⟨.inl (by simp),rfl,rfl⟩
 |[m],hm,_,hr,_=>
  have e:oq k [m]=⟨k.epoch+1,m,k.now,true⟩:=by
   show d8.f (k,m,())=_
   rw[mD k m hk (hm m List.mem_cons_self),if_neg hmax]
  rw[e]at hr⊢
  rw[vr _ _ _ _ _ hr.1 ⟨t2,t3⟩ t4]
  have h1:=htop m (k.epoch+1) (by omega)
  simp only[]
  rw[if_neg (λhh=>by rw[hh]at h1;omega),show k.epoch+1-1=k.epoch by omega,if_pos ⟨by omega,trivial,hq⟩]
  exact .inl ⟨.inl (by simp),rfl,rfl⟩
 |m1::m2::r,hm,hlen,hr,hep=>
  refine .inr ⟨⟨by simp,hmax⟩, ?_⟩
  have hr0:=fp _ hr.1
  simp only[List.length_cons]at hep hlen
  unfold OL at hE
  generalize oq k (m1::m2::r)=K at hr hep hr0⊢
  rw[vr K _ _ _ _ hr.1 ⟨t2,t3⟩ t4]
  have h1:=htop K.now K.epoch hr0
  have h2:=htop K.before (K.epoch-1) (by omega)
  rw[if_neg (λhh=>by rw[hh]at h1;omega),if_neg (λhh=>by rw[hh.2.2]at h2;omega)]
set_option maxHeartbeats 1000000 in theorem UG (d:Door)(c:Clie)(ms:List Mac)(hD:DO d)(hc:cU.f (c,())=true)(hp:c.tuple.my=d.port)(hfull:d.limits.halves≤(d.halves.length:Int))(hh:¬0≤aC.f (d.halves,c.tuple,()))(hf:¬0≤au.f (d.table,c.tuple,()))(hs:jQ d)(hm:∀m∈ms,dF.f (m,())=true)(hlen:ms.length≤19)(hE:OL d.keys):
  (yV d c ms=(d,Ib,0)∧(¬S7 d∨(2≤ms.length∧d.keys.epoch≠4294967295)))∨
  (S7 d∧(ms.length≤1∨d.keys.epoch=4294967295)∧(yV d c ms).2.2=2∧(yV d c ms).2.1.opts=fD.f (c.opts,())∧bB.f ((yV d c ms).1,())=true∧(yV d c ms).1.halves=d.halves∧(yV d c ms).2.1.state=1):=by
 obtain⟨ht,ho,hi,hw⟩:=mQ c hc
 have hT:=yo c.tuple ht
 have hx:=sM (ng.f (c.opts,()))
 obtain⟨t1,t2,t3,t4⟩:=tU d.keys.now c.tuple c.isn d.keys.epoch (rT c) ht hi (fp _ hD.keys) hx
 have hfs:=HG d c hD.keys hc
 have hchk:=Uo d.keys c ms hD.keys hc hm hlen hE
 obtain⟨o1,o2⟩:=Rt c d.clock (rT c) ho ⟨hD.c0,hD.c1⟩
 have o3:=o2 rfl
 have hA:fj.f (d,c.tuple,bk c,())=⟨c.tuple.my,c.tuple.port,li.f (d,c.tuple,bk c,()),(c.isn+1)%4294967296,18,(fj.f (d,c.tuple,bk c,())).window,bH.f (c.opts,d.clock,()),[]⟩:=by
  simp only[PX,fj,bD,bk]
 have hrep:=S9 c (fj.f (d,c.tuple,bk c,())) (by rw[hA]) (by rw[hA])
 have hAs:(fj.f (d,c.tuple,bk c,())).seq=aG.f (d.keys.now,c.tuple,c.isn,d.keys.epoch,rT c,()):=by rw[hA];exact hfs
 have hAo:(fj.f (d,c.tuple,bk c,())).opts=bH.f (c.opts,d.clock,()):=by rw[hA]
 rw[hAs,hAo]at hrep
 generalize hq:aG.f (d.keys.now,c.tuple,c.isn,d.keys.epoch,rT c,())=q at t1 t2 t3 t4 hchk hrep
 generalize pn c (bH.f (c.opts,d.clock,()))=O at o1 o3 hrep
 have hwel:yV d c ms=ZG d c (nW d ms) ⟨c.tuple.port,c.tuple.my,(c.isn+1)%4294967296,(q+1)%4294967296,16,c.window,O,[]⟩:=by
  unfold yV
  rw[hc,UL d c hD hc hp hfull hh hf]
  simp only[Bool.not_true,cond_false,List.length_cons,List.length_nil,List.getD_cons_zero,hrep]
  rfl
 rw[hwel]
 generalize hR:(⟨c.tuple.port,c.tuple.my,(c.isn+1)%4294967296,(q+1)%4294967296,16,c.window,O,[]⟩:Segm)=R
 have hRg:ao.f (R,())=true:=by
  rw[dL,←hR]
  exact⟨hT.2.1,hT.2.2,⟨by simp only[];omega,by simp only[];omega⟩,⟨by simp only[];omega,by simp only[];omega⟩,⟨by simp only[];omega,by simp only[];omega⟩,hw,o1,by simp⟩
 have r1:R.flags=16:=by rw[←hR]
 have r2:R.body=[]:=by rw[←hR]
 have r3:R.seq=(c.isn+1)%4294967296:=by rw[←hR]
 have r4:R.ack=(q+1)%4294967296:=by rw[←hR]
 have r5:R.window=c.window:=by rw[←hR]
 have r6:R.opts=O:=by rw[←hR]
 have r7:uH c.tuple.ip R=c.tuple:=by rw[←hR];rfl
 have r8:R.to=c.tuple.my:=by rw[←hR]
 clear hR hrep hwel
 have hN:DO (nW d ms):=⟨hD.port,hD.c0,hD.c1,(Bw ms d.keys hD.keys hm).1,hD.tab,hD.hal,hD.nh,hD.k0,hD.k1,hD.ap⟩
 have n4:bc.f (R,4,())=false:=by simp only[PX,bc,r1];decide+kernel
 have n2:bc.f (R,2,())=false:=by simp only[PX,bc,r1];decide+kernel
 have n16:bc.f (R,16,())=true:=by simp only[PX,bc,r1];decide+kernel
 have hw32:ai.f (c.tuple.ip,32,())=true:=by rw[be];simp;omega
 have hseg:j9 (nW d ms) c.tuple.ip R=Pg (nW d ms) c.tuple R:=by
  unfold j9
  rw[if_pos ⟨(rj _).2 hN,hw32,hRg⟩,if_neg (by rw[r8];show¬(c.tuple.my≠d.port);simp[hp]),r7,if_neg (show¬0≤au.f ((nW d ms).table,c.tuple,()) from hf),n4,n2,n16]
  rfl
 have hack:Pg (nW d ms) c.tuple R=if(ba.f (oq d.keys ms,c.tuple,c.isn,q,())).2.2=true then uK (nW d ms) (xb c.tuple q c.isn (bp.f ((ba.f (oq d.keys ms,c.tuple,c.isn,q,())).2.1,O,())) c.window) R 2 else(nW d ms,iV.f (R,()),0):=by
  unfold Pg
  rw[if_pos ⟨(rj _).2 hN,ht,hRg,hf⟩,if_neg (show¬0≤aC.f ((nW d ms).halves,c.tuple,()) from hh),r3,r4,r5,r6,show((c.isn+1)%4294967296+ -1)%4294967296=c.isn by omega,show((q+1)%4294967296+ -1)%4294967296=q by omega]
  rfl
 unfold ZG
 rw[hseg,hack]
 rcases hchk with⟨h1,h2,h3⟩|⟨h1,h3⟩
 case inr=>
  rw[h3,if_neg (by simp)]
  exact .inl ⟨rfl,.inr h1⟩
 rw[h3,if_pos rfl,h2,o3]
 have hGo:aq.f (fD.f (c.opts,()),())=true:=by rw[←o3];exact yM _ _ o1
 obtain⟨hCO,hSm⟩:=IY c.tuple q c.isn (fD.f (c.opts,())) c.window ht hGo hw.1 hw.2
 have hrn:=Wx (xb c.tuple q c.isn (fD.f (c.opts,())) c.window) R hCO hSm rfl rfl rfl hRg r1 r2 (by rw[r3];rfl) (by rw[r4];rfl)
 have hct:(xb c.tuple q c.isn (fD.f (c.opts,())) c.window).tuple=c.tuple:=rfl
 have hco:(xb c.tuple q c.isn (fD.f (c.opts,())) c.window).opts=fD.f (c.opts,()):=rfl
 generalize xb c.tuple q c.isn (fD.f (c.opts,())) c.window=C at hCO hSm hrn hct hco
 have hnc:C.tuple∉(nW d ms).table.conns.map Conn.tuple:=by rw[hct];exact(WF d.table c.tuple).1 hf
 have hroom:=Xx (nW d ms).table (nW d ms).limits C hN.tab hCO hnc
 by_cases hrm:S7 d
 case neg=>
  have hT2:¬ck.f ((⟨(nW d ms).table.conns++[C],(nW d ms).table.waiting++[C.tuple]⟩:Tabl),(nW d ms).limits,())=true:=λhh=>hrm (hroom.1 hh)
  unfold uK
  rw[if_neg hT2]
  exact .inl ⟨rfl,.inl hrm⟩
 have hT2:=hroom.2 hrm
 have hin:=ZH (nW d ms) C R 2 hN hSm hnc hT2
 have hdo:=(Zs (nW d ms) C R 2 hN hSm hnc).1
 have hfc:=hin.1.con
 rw[hct]at hfc
 have hX:(uK (nW d ms) C R 2).1.table.conns=d.table.conns++[(cN C R).1]∧(uK (nW d ms) C R 2).1.halves=d.halves:=by
  unfold uK
  rw[if_pos hT2]
  refine⟨rfl, ?_⟩
  show pE d.halves C.tuple=d.halves
  rw[hct];exact Rx _ _ hh
 have hlen2:(nW d ms).table.conns.length=d.table.conns.length:=rfl
 rw[hin.2,hfc,hX.1,hlen2,show((2:Int)==0)=false from rfl,decide_eq_false (show¬((d.table.conns.length:Nat):Int)<0 by omega),ah,getD_some (show(d.table.conns++[(cN C R).1])[d.table.conns.length]? =some (cN C R).1 by simp)]
 refine .inr ⟨hrm,h1,rfl, ?_,(rj _).2 hdo,hX.2,hrn.1⟩
 show(cN C R).1.opts=_
 rw[hrn.2,hco]
theorem vB (p:Int→Prop)(c:Curs)(xs:List Int)(h0:p 0)(h:∀x∈xs,p x):p (aw.f (c,xs,())).1:=by
 simp only[PX,aw]
 exact Hg h0 h _
theorem UH (c:Curs):OL (sC.f (c,())).1:=by
 have hp:(λn:Int=>n≤60∨4294967295≤n) (aw.f (c,[0,1,2,30,31,32,33,4294967295],())).1:=vB (λn:Int=>n≤60∨4294967295≤n) c _ (by decide) (by decide)
 obtain⟨r,hr⟩:∃r,aw.f (c,[0,1,2,30,31,32,33,4294967295],())=r:=⟨_,rfl⟩
 rw[hr]at hp
 simp only[PX,sC,hr]
 have fin:∀(b:Bool) (x y:Keys) (u v:Curs),x.epoch=r.1→y.epoch=r.1→OL (bif b then(x,u)else(y,v)).1:=by
  intro b x y u v hx hy
  cases b
  ·show OL y;unfold OL;rw[hy];exact hp
  ·show OL x;unfold OL;rw[hx];exact hp
 cases decide (0<r.1)with
 |true=>
  simp only[cond_true]
  cases(bQ.f ((fE.f ((fE.f (r.2,())).2,())).2,2,())).1<;>simp only[PX,cond_true,cond_false]<;>exact fin _ _ _ _ _ rfl rfl
 |false=>
  simp only[cond_false]
  exact fin _ _ _ _ _ rfl rfl
theorem Ur (c:Curs):OL (wd.f (c,())).1:=by
 have h1:=UH c
 simp only[PX,wd]
 generalize sC.f (c,())=k at h1⊢
 cases((af.f (k.2,10,())).1==0)with
 |true=>exact vB (λn:Int=>n≤60∨4294967295≤n) _ _ (by decide) (by decide)
 |false=>
  cases((af.f (k.2,10,())).1==1)with
  |true=>exact h1
  |false=>
   cases((af.f (k.2,10,())).1==2)with
   |true=>exact h1
   |false=>cases((af.f (k.2,10,())).1==3)<;>exact h1
theorem XC (c:Curs):(af.f (c,40,())).1≤60:=by
 have h1:decide ((40:Int)≤0)=false:=by decide
 have h2:decide ((40:Int)≤256)=true:=by decide
 simp only[PX,af,h1,h2,cond_false,cond_true]
 generalize(kA.f (c,())).1=a
 have:=wK (a:=a) (show(0:Int)<40 by omega)
 omega
theorem U0 (c:Curs):OL (lE.f (c,())).1:=by
 have h:=XC c
 obtain⟨r,hr⟩:∃r,af.f (c,40,())=r:=⟨_,rfl⟩
 rw[hr]at h
 have fin:∀x:Keys,x.epoch=r.1→OL x:=λx hx=>by unfold OL;rw[hx];exact .inl h
 simp only[PX,lE,hr]
 cases decide (0<r.1)with
 |false=>
  rw[cond_false]
  exact fin _ rfl
 |true=>
  rw[cond_true]
  cases hb:(bQ.f ((fE.f ((fE.f (r.2,())).2,())).2,2,())).1 with
  |true=>rw[cond_true];exact fin _ rfl
  |false=>rw[cond_false];exact fin _ rfl
theorem yG (d:Door)(t:Tupl)(g:Segm):(qU.f (d,t,g,())).1.keys=d.keys:=by
 simp only[PX,qU,gi]
 generalize ld.f (d,t,g,())=b1
 generalize((d.halves.getD (cZ.f (d.halves,t,())).toNat (Ty.zero .half)).irs != g.seq)=b3
 generalize decide (0≤cZ.f (d.halves,t,()))=b2
 generalize decide (cu.f (d.table,t,())<0)=b4
 cases b1<;>cases b2<;>cases b3<;>cases b4<;>rfl
theorem RR (d:Door)(g:Segm):(ia.f (d,g,())).1.keys=d.keys:=by
 simp only[PX,ia,gi]
 cases(p4.f (g,())).2<;>rfl
theorem WB (d:Door)(c:Conn)(g:Segm)(m:Int):(pU.f (d,c,g,m,())).1.keys=d.keys:=by
 simp only[PX,pU,gi]
 cases(pc.f (d.table,c,d.limits,())).2<;>rfl
theorem RZ (d:Door)(t:Tupl)(g:Segm):(sQ.f (d,t,g,())).1.keys=d.keys:=by
 have h1:=RR d g
 have h2:=WB d
 simp only[PX,sQ,gi]
 generalize(bif !ld.f (d,t,g,())then(true,())else(decide (0≤cu.f (d.table,t,())),())).1=b1
 generalize(!(kn.f (d.keys,t,bg.f (g.seq,-1,()),bg.f (g.ack,-1,()),())).2.2)=b5
 generalize(g.ack != bg.f ((d.halves.getD (cZ.f (d.halves,t,())).toNat (Ty.zero .half)).iss,1,()))=b3
 generalize(g.seq != bg.f ((d.halves.getD (cZ.f (d.halves,t,())).toNat (Ty.zero .half)).irs,1,()))=b4
 generalize decide (0≤cZ.f (d.halves,t,()))=b2
 cases b1<;>cases b2<;>cases b3<;>cases b4<;>cases b5<;>simp only[cond_true,cond_false,h1,h2]
theorem UY (c:Curs):OL (rO.f (c,())).1.keys:=by
 have h:=U0 (af.f (c,99,())).2
 simp only[PX,rO,fM]
 generalize Int.toNat ((af.f ((lw.f ((lE.f ((af.f (c,99,())).2,())).2,())).2,6,())).1-0)=n
 generalize(lE.f ((af.f (c,99,())).2,())).1=k at h
 generalize hz:((af.f ((lw.f ((lE.f ((af.f (c,99,())).2,())).2,())).2,6,())).2,(⟨0,0,⟨0,⟨false,0,0,[]⟩,⟨false,0,0,[]⟩,false⟩,⟨0,0,0,0⟩,[],⟨[],[]⟩,0⟩:Door),(⟨80,(af.f (c,99,())).1,k,(lw.f ((lE.f ((af.f (c,99,())).2,())).2,())).1,[],⟨[],[]⟩,0⟩:Door))=z
 have hz2:z.2.2.keys=k:=by rw[←hz]
 cases hf:a9 (λj a=>(pW j a).nice) 1 n 0 z with
 |out e=>exact Empty.elim e
 |next a=>
  have:=yy (P:=λa:Curs×Door×Door=>a.2.2.keys=k) (λi a a' ha h=>by
   simp only[PX,pW]at h
   revert h
   cases decide (0≤cu.f (a.2.2.table,nb.f (IntKind.wrap .i64 (167772162+(af.f ((nY.f (a.1,())).2,2,())).1),(nY.f (a.1,())).1,()),()))with
   |true=>intro h;cases h;exact ha
   |false=>
    rw[cond_false]
    cases decide (0<((qU.f (a.2.2,nb.f (IntKind.wrap .i64 (167772162+(af.f ((nY.f (a.1,())).2,2,())).1),(nY.f (a.1,())).1,()),(nY.f (a.1,())).1,())).2.length:Int))with
    |false=>intro h;cases h;exact(yG _ _ _).trans ha
    |true=>
     rw[cond_true]
     cases(bQ.f ((af.f ((nY.f (a.1,())).2,2,())).2,2,())).1 with
     |true=>intro h;cases h;exact(RZ _ _ _).trans ((yG _ _ _).trans ha)
     |false=>intro h;cases h;exact(yG _ _ _).trans ha) n 0 z a hz2 hf
  simp only[PX,Stp.elim]
  rw[this];exact h
theorem Vu (c:Curs):OL (pd.f (c,())).1.keys:=by
 have h1:=UY c
 simp only[PX,pd]
 generalize rO.f (c,())=D at h1
 have h2:=Ur (af.f (D.2,16,())).2
 cases((af.f (D.2,16,())).1==0)with
 |true=>exact h1
 |false=>
  cases((af.f (D.2,16,())).1==1)with
  |true=>exact h2
  |false=>
   cases((af.f (D.2,16,())).1==2)with
   |true=>exact h1
   |false=>
    cases((af.f (D.2,16,())).1==3)with
    |true=>exact h1
    |false=>
     cases((af.f (D.2,16,())).1==4)with
     |true=>exact h1
     |false=>cases((af.f (D.2,16,())).1==5)<;>exact h1
theorem Us (k:Int):dF.f (mi.f (k,9,()),())=true:=by
 simp only[PX,mi,dF]
 rfl
theorem OZ {f:Int→Door×Curs×List Mac→Stp (Door×Curs×List Mac) Empty}(hf:∀i a,∃p q y,f i a= .next (p,q,a.2.2++[y])∧dF.f (y,())=true):∀(n:Nat) (i:Int) (a:Door×Curs×List Mac),(∀m∈a.2.2,dF.f (m,())=true)→∃a',a9 f 1 n i a= .next a'∧a'.2.2.length=a.2.2.length+n∧∀m∈a'.2.2,dF.f (m,())=true
 |0,_,a,h=>⟨a,rfl,rfl,h⟩
 |n+1,i,a,h=>by
  obtain⟨p,q,y,e,hy⟩:=hf i a
  obtain⟨a',e1,e2,e3⟩:=OZ hf n (i+1) (p,q,a.2.2++[y]) (λm hm=>by
   rcases List.mem_append.1 hm with hm|hm
   ·exact h m hm
   ·rw[List.mem_singleton.1 hm];exact hy)
  refine⟨a', ?_, ?_,e3⟩
  ·simp only[a9,e,Stp.elim,e1]
  ·rw[e2];simp;omega
theorem Kr (x:List Int):OL (fx.f (x,())).1.keys∧(∀m∈(fx.f (x,())).2.2,dF.f (m,())=true)∧(fx.f (x,())).2.2.length≤19:=by
 have h1:=Vu (A0.f (x,()))
 have h2:(λn:Int=>n≤19) (aw.f ((pd.f (A0.f (x,()),())).2,[0,0,1,1,2],())).1:=vB (λn:Int=>n≤19) _ _ (by decide) (by decide)
 simp only[PX,fx,cX]
 generalize pd.f (A0.f (x,()),())=B at h1 h2⊢
 generalize aw.f (B.2,[0,0,1,1,2],())=r at h2⊢
 obtain⟨a,e1,e2,e3⟩:=OZ (f:=λj a=>(kY j a).nice) (λi a=>by
  simp only[PX,kY]
  exact⟨_,_,_,rfl,Us _⟩) (Int.toNat (r.1-0)) 0 ((⟨0,0,⟨0,⟨false,0,0,[]⟩,⟨false,0,0,[]⟩,false⟩,⟨0,0,0,0⟩,[],⟨[],[]⟩,0⟩:Door),r.2,([]:List Mac)) (λm hm=>by cases hm)
 simp only[e1,Stp.elim]
 refine⟨h1,e3, ?_⟩
 rw[e2]
 simp only[List.length_nil]
 have:r.1≤19:=h2
 omega
set_option maxHeartbeats 2000000 in theorem PL (x:List Int):oa.f (x,())=true:=by
 rcases Bool.eq_false_or_eq_true (G5.f (x,()))with hb|hb
 ·simp only[FX.f,PX,oa,hb,cond_true]
 have hx:=XD x hb
 have hd:=fx.c.h (x,()) ⟨by simp only[sS];omega,hx⟩
 have hP:=Kr x
 simp only[PX]at hd
 obtain⟨⟨d,c,ms⟩,hz⟩:∃z,fx.f (x,())=z:=⟨_,rfl⟩
 rw[hz]at hd hP
 obtain⟨hE,hm,hlen⟩:=hP
 have hsd:am d:=hd.1
 have hs:jQ d:=KN hsd
 have hl:d.halves.length≤4294967296:=by grind
 have hw:sm.f (d,c,ms,())=yV d c ms∧rH.f (d,c,ms,())=yV d c ms:=by
  have h1:am (j9 d c.tuple.ip (bk c)).1:=by
   have:=wX.c.h (d,c.tuple.ip,bk c,()) ⟨hsd,by unfold aj;simp[bk]⟩
   simp only[PX,yD d c.tuple.ip (bk c) hs hl]at this
   exact this.1
  have h2:=KN h1
  have h3:(j9 d c.tuple.ip (bk c)).1.halves.length≤4294967296:=by grind
  exact⟨MM d c ms hs hl h2 h3,MU d c ms hs hl h2 h3⟩
 have hq:=BD d hs
 have hcase:bB.f (d,())=true→cU.f (c,())=true→c.tuple.my=d.port→d.limits.halves≤(d.halves.length:Int)→¬0≤aC.f (d.halves,c.tuple,())→¬0≤au.f (d.table,c.tuple,())→_:=λa1 a2 a3 a4 a5 a6=>UG d c ms ((rj d).1 a1) a2 a3 a4 a5 a6 hs hm hlen hE
 generalize yV d c ms=y at hw hcase
 simp only[FX.f,PX,oa,hb,cond_false,hz,hw.1,hw.2,xI,xL,bne_self_eq_false,Bool.not_true,hq,Hw,qk,iH]
 cases h1:bB.f (d,())with
 |false=>rfl
 |true=>
 cases h2:cU.f (c,())with
 |false=>rfl
 |true=>
 cases h3:(c.tuple.my != d.port)with
 |true=>rfl
 |false=>
 cases h4:decide ((d.halves.length:Int)<d.limits.halves)with
 |true=>rfl
 |false=>
 cases h5:decide (0≤aC.f (d.halves,c.tuple,()))with
 |true=>rfl
 |false=>
 cases h6:decide (0≤au.f (d.table,c.tuple,()))with
 |true=>rfl
 |false=>
 simp at h3 h4 h5 h6
 have hk:=hcase h1 h2 h3 (by omega) (by omega) (by omega)
 simp only[Bool.not_true,cond_false]
 have hroom:(bif decide ((d.table.conns.length:Int)<d.limits.conns)then(decide ((d.table.waiting.length:Int)<d.limits.waiting),())else(false,())).1=decide (S7 d):=by
  unfold S7
  by_cases r1:(d.table.conns.length:Int)<d.limits.conns<;>by_cases r2:(d.table.waiting.length:Int)<d.limits.waiting<;>simp[r1,r2]
 rw[hroom]
 rcases hk with⟨k1,k2⟩|⟨k1,k2,k3,k4,k5,k6,k7⟩
 ·rw[k1]
  simp only[xI,beq_self_eq_true,cond_true]
  have hc:(bif !decide (S7 d)then(true,())else bif decide (1<(ms.length:Int))then(true,())else(d.keys.epoch==4294967295,())).1=true:=by
   rcases k2 with k2|k2
   ·rw[decide_eq_false k2];rfl
   ·cases decide (S7 d)with
    |false=>rfl
    |true=>rw[decide_eq_true (show 1<(ms.length:Int) by omega)];rfl
  rw[hc];rfl
 ·rw[decide_eq_true k1,k3]
  simp only[Bool.not_true,cond_false,cond_true,k4,k5,k6,k7,uf,beq_self_eq_true,Bool.and_self]
  by_cases e1:d.keys.epoch=4294967295
  ·rw[show(d.keys.epoch==4294967295)=true by simpa using e1]
   cases decide (1<(ms.length:Int))<;>cases((ms.length:Int)==0)<;>rfl
  ·rw[show(d.keys.epoch==4294967295)=false by simpa using e1,decide_eq_false (show¬1<(ms.length:Int) by have:=k2.resolve_right e1;omega)]
   rfl

end
end Go.Proofs.YtgbgljgnblkffaaGreat
