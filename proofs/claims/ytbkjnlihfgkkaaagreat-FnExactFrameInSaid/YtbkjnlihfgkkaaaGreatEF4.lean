/-
  Contracts of functions and plain laws (printed by a program): each theorem says what a function of the program returns; conditions are its hypotheses.
-/
import Derived.Test.YtbkjnlihfgkkaaaGreatEF3
set_option linter.all false
set_option maxRecDepth 4000
namespace Go.Proofs.YtbkjnlihfgkkaaaGreat
open Go Go.RowKit
noncomputable section
set_option maxHeartbeats 1000000 in theorem Li (A r:List Conn)(x:Conn)(k:Int)(h0:0<=k)(h1:k+eZ x<=4611686018427387904):(j9 (A.length:Int) (k,A++x::r)).nice= .next (k+eZ x,A++pA k x::r):=by
 unfold eZ at h1|-
 have hn:=bG mh x.r.held
 have hm12:=T7 x.r.held (k+12) (by omega) (by omega)
 simp only[pA]
 generalize bz ey x.r.held=L at*
 have e0:IntKind.wrap .i64 (k+1)=k+1:=wr1 (by decide) h0 hn h1
 have e1:IntKind.wrap .i64 (k+1+1)=k+2:=Kj 1 2 (by decide) (by decide) (by decide) h0 hn h1
 have e2:IntKind.wrap .i64 (k+2+1)=k+3:=Kj 2 3 (by decide) (by decide) (by decide) h0 hn h1
 have e3:IntKind.wrap .i64 (k+3+1)=k+4:=Kj 3 4 (by decide) (by decide) (by decide) h0 hn h1
 have e4:IntKind.wrap .i64 (k+4+1)=k+5:=Kj 4 5 (by decide) (by decide) (by decide) h0 hn h1
 have e5:IntKind.wrap .i64 (k+5+1)=k+6:=Kj 5 6 (by decide) (by decide) (by decide) h0 hn h1
 have e6:IntKind.wrap .i64 (k+6+1)=k+7:=Kj 6 7 (by decide) (by decide) (by decide) h0 hn h1
 have e7:IntKind.wrap .i64 (k+7+1)=k+8:=Kj 7 8 (by decide) (by decide) (by decide) h0 hn h1
 have e8:IntKind.wrap .i64 (k+8+1)=k+9:=Kj 8 9 (by decide) (by decide) (by decide) h0 hn h1
 have e9:IntKind.wrap .i64 (k+9+1)=k+10:=Kj 9 10 (by decide) (by decide) (by decide) h0 hn h1
 have e10:IntKind.wrap .i64 (k+10+1)=k+11:=Kj 10 11 (by decide) (by decide) (by decide) h0 hn h1
 have e11:IntKind.wrap .i64 (k+11+1)=k+12:=Kj 11 12 (by decide) (by decide) (by decide) h0 hn h1
 have e12:IntKind.wrap .i64 (k+12+L+1)=k+13+L:=Gn 12 13 (by decide) (by decide) (by decide) h0 hn h1
 have e13:IntKind.wrap .i64 (k+13+L+1)=k+14+L:=Gn 13 14 (by decide) (by decide) (by decide) h0 hn h1
 have e14:IntKind.wrap .i64 (k+14+L+1)=k+15+L:=Gn 14 15 (by decide) (by decide) (by decide) h0 hn h1
 have e15:IntKind.wrap .i64 (k+15+L+1)=k+16+L:=Gn 15 16 (by decide) (by decide) (by decide) h0 hn h1
 have e16:IntKind.wrap .i64 (k+16+L+1)=k+17+L:=Gn 16 17 (by decide) (by decide) (by decide) h0 hn h1
 have e17:IntKind.wrap .i64 (k+17+L+1)=k+18+L:=Gn 17 18 (by decide) (by decide) (by decide) h0 hn h1
 have e18:IntKind.wrap .i64 (k+18+L+1)=k+19+L:=Gn 18 19 (by decide) (by decide) (by decide) h0 hn h1
 have e19:IntKind.wrap .i64 (k+19+L+1)=k+20+L:=Gn 19 20 (by decide) (by decide) (by decide) h0 hn h1
 have e20:IntKind.wrap .i64 (k+20+L+1)=k+21+L:=Gn 20 21 (by decide) (by decide) (by decide) h0 hn h1
 have e21:IntKind.wrap .i64 (k+21+L+1)=k+22+L:=Gn 21 22 (by decide) (by decide) (by decide) h0 hn h1
 have e22:IntKind.wrap .i64 (k+22+L+1)=k+23+L:=Gn 22 23 (by decide) (by decide) (by decide) h0 hn h1
 have e23:IntKind.wrap .i64 (k+23+L+1)=k+24+L:=Gn 23 24 (by decide) (by decide) (by decide) h0 hn h1
 simp only[PX,j9,aa,yw,yv,e0,e1,e2,e3,e4,e5,e6,e7,e8,e9,e10,e11,e12,e13,e14,e15,e16,e17,e18,e19,e20,e21,e22,e23,hm12,pA]
 congr 2;omega
set_option maxHeartbeats 1000000 in theorem Ky (v:List Conn)(j:Nat)(x:Conn)(k:Int)(h0:0<=k)(h1:k+eZ x<=4611686018427387904)(hg:v[j]? =some (pA k x)):(ke v (j:Int) k).nice= .next (k+eZ x):=by
 unfold eZ at h1|-
 have hn:=bG mh x.r.held
 have hh12:=SV x.r.held (k+12) (by omega) (by omega)
 simp only[pA]at hg
 generalize bz ey x.r.held=L at*
 have e0:IntKind.wrap .i64 (k+1)=k+1:=wr1 (by decide) h0 hn h1
 have e1:IntKind.wrap .i64 (k+1+1)=k+2:=Kj 1 2 (by decide) (by decide) (by decide) h0 hn h1
 have e2:IntKind.wrap .i64 (k+2+1)=k+3:=Kj 2 3 (by decide) (by decide) (by decide) h0 hn h1
 have e3:IntKind.wrap .i64 (k+3+1)=k+4:=Kj 3 4 (by decide) (by decide) (by decide) h0 hn h1
 have e4:IntKind.wrap .i64 (k+4+1)=k+5:=Kj 4 5 (by decide) (by decide) (by decide) h0 hn h1
 have e5:IntKind.wrap .i64 (k+5+1)=k+6:=Kj 5 6 (by decide) (by decide) (by decide) h0 hn h1
 have e6:IntKind.wrap .i64 (k+6+1)=k+7:=Kj 6 7 (by decide) (by decide) (by decide) h0 hn h1
 have e7:IntKind.wrap .i64 (k+7+1)=k+8:=Kj 7 8 (by decide) (by decide) (by decide) h0 hn h1
 have e8:IntKind.wrap .i64 (k+8+1)=k+9:=Kj 8 9 (by decide) (by decide) (by decide) h0 hn h1
 have e9:IntKind.wrap .i64 (k+9+1)=k+10:=Kj 9 10 (by decide) (by decide) (by decide) h0 hn h1
 have e10:IntKind.wrap .i64 (k+10+1)=k+11:=Kj 10 11 (by decide) (by decide) (by decide) h0 hn h1
 have e11:IntKind.wrap .i64 (k+11+1)=k+12:=Kj 11 12 (by decide) (by decide) (by decide) h0 hn h1
 have e12:IntKind.wrap .i64 (k+12+L+1)=k+13+L:=Gn 12 13 (by decide) (by decide) (by decide) h0 hn h1
 have e13:IntKind.wrap .i64 (k+13+L+1)=k+14+L:=Gn 13 14 (by decide) (by decide) (by decide) h0 hn h1
 have e14:IntKind.wrap .i64 (k+14+L+1)=k+15+L:=Gn 14 15 (by decide) (by decide) (by decide) h0 hn h1
 have e15:IntKind.wrap .i64 (k+15+L+1)=k+16+L:=Gn 15 16 (by decide) (by decide) (by decide) h0 hn h1
 have e16:IntKind.wrap .i64 (k+16+L+1)=k+17+L:=Gn 16 17 (by decide) (by decide) (by decide) h0 hn h1
 have e17:IntKind.wrap .i64 (k+17+L+1)=k+18+L:=Gn 17 18 (by decide) (by decide) (by decide) h0 hn h1
 have e18:IntKind.wrap .i64 (k+18+L+1)=k+19+L:=Gn 18 19 (by decide) (by decide) (by decide) h0 hn h1
 have e19:IntKind.wrap .i64 (k+19+L+1)=k+20+L:=Gn 19 20 (by decide) (by decide) (by decide) h0 hn h1
 have e20:IntKind.wrap .i64 (k+20+L+1)=k+21+L:=Gn 20 21 (by decide) (by decide) (by decide) h0 hn h1
 have e21:IntKind.wrap .i64 (k+21+L+1)=k+22+L:=Gn 21 22 (by decide) (by decide) (by decide) h0 hn h1
 have e22:IntKind.wrap .i64 (k+22+L+1)=k+23+L:=Gn 22 23 (by decide) (by decide) (by decide) h0 hn h1
 have e23:IntKind.wrap .i64 (k+23+L+1)=k+24+L:=Gn 23 24 (by decide) (by decide) (by decide) h0 hn h1
 have hz12:decide (k+12+L<0)=false:=by simp;omega
 simp only[PX,ke,aa,getD_some hg,pA,e0,e1,e2,e3,e4,e5,e6,e7,e8,e9,e10,e11,e12,e13,e14,e15,e16,e17,e18,e19,e20,e21,e22,e23,hh12,hz12,beq_self_eq_true,bne_self_eq_false,Bool.not_true,cond_false]
 congr 1;omega
theorem WV (xs:List Conn)(k:Int)(h0:0<=k)(h1:k+bz eZ xs<=4611686018427387904):rL.f (xs,k,())=(k+bz eZ xs,cD eZ pA k xs):=by
 have:=li (T:=λj a=>(j9 j a).nice) (M:=pA) m8 Li xs [] k h0 h1
 rw[List.nil_append,List.nil_append]at this
 simp only[PX,rL,bP,av]
 refine(congrArg (Stp.elim _ _) this).trans ?_
 simp only[Stp.elim]
theorem Xt (xs:List Conn)(k:Int)(h0:0<=k)(h1:k+bz eZ xs<=4611686018427387904):rM.f (cD eZ pA k xs,k,())=k+bz eZ xs:=by
 have:=ly (W:=Int) (H:=λj a=>(ke (cD eZ pA k xs) j a).nice) (M:=pA) (cD eZ pA k xs) m8 (λj x k h0 h1 hg=>Ky _ j x k h0 h1 hg) xs 0 k h0 h1 rfl
 simp only[PX,rM,kb,av,nv]
 refine(congrArg (Stp.elim _ _) this).trans ?_
 simp only[Stp.elim]
def eS (_x:Entr):Int:=3
def vT (k:Int)(_x:Entr):Entr:=⟨k,k+1,k+2⟩
theorem mF (x:Entr):0<=eS x:=by unfold eS;omega
theorem JE (A r:List Entr)(x:Entr)(k:Int)(h0:0<=k)(h1:k+eS x<=4611686018427387904):(jg (A.length:Int) (k,A++x::r)).nice= .next (k+eS x,A++vT k x::r):=by
 unfold eS at h1|-
 have e0:IntKind.wrap .i64 (k+1)=k+1:=Zu (by decide) h0 h1
 have e1:IntKind.wrap .i64 (k+1+1)=k+2:=yZ 1 2 (by decide) (by decide) (by decide) h0 h1
 have e2:IntKind.wrap .i64 (k+2+1)=k+3:=yZ 2 3 (by decide) (by decide) (by decide) h0 h1
 simp only[PX,jg,aa,yw,yv,e0,e1,e2,vT]
theorem JF (v:List Entr)(j:Nat)(x:Entr)(k:Int)(h0:0<=k)(h1:k+eS x<=4611686018427387904)(hg:v[j]? =some (vT k x)):(jl v (j:Int) k).nice= .next (k+eS x):=by
 unfold eS at h1|-
 have e0:IntKind.wrap .i64 (k+1)=k+1:=Zu (by decide) h0 h1
 have e1:IntKind.wrap .i64 (k+1+1)=k+2:=yZ 1 2 (by decide) (by decide) (by decide) h0 h1
 have e2:IntKind.wrap .i64 (k+2+1)=k+3:=yZ 2 3 (by decide) (by decide) (by decide) h0 h1
 simp only[PX,jl,aa,getD_some hg,vT,e0,e1,e2,beq_self_eq_true,bne_self_eq_false,Bool.not_true,cond_false]
theorem UB (xs:List Entr)(k:Int)(h0:0<=k)(h1:k+bz eS xs<=4611686018427387904):pN.f (xs,k,())=(k+bz eS xs,cD eS vT k xs):=by
 have:=li (T:=λj a=>(jg j a).nice) (M:=vT) mF JE xs [] k h0 h1
 rw[List.nil_append,List.nil_append]at this
 simp only[PX,pN,bC,av]
 refine(congrArg (Stp.elim _ _) this).trans ?_
 simp only[Stp.elim]
theorem Tm (xs:List Entr)(k:Int)(h0:0<=k)(h1:k+bz eS xs<=4611686018427387904):qa.f (cD eS vT k xs,k,())=k+bz eS xs:=by
 have:=ly (W:=Int) (H:=λj a=>(jl (cD eS vT k xs) j a).nice) (M:=vT) (cD eS vT k xs) mF (λj x k h0 h1 hg=>JF _ j x k h0 h1 hg) xs 0 k h0 h1 rfl
 simp only[PX,qa,jf,av,nv]
 refine(congrArg (Stp.elim _ _) this).trans ?_
 simp only[Stp.elim]
def gU (x:Keys):Int:=2*(x.now.rows.length:Int)+2*(x.before.rows.length:Int)
def wv (x:Tabl):Int:=bz eZ x.conns+bz jm x.waiting
def vB (x:Door):Int:=gU x.keys+bz fQ x.halves+wv x.table
def qy (x:Stac):Int:=bz eS x.link.cache+vB x.door
theorem uH (x:Tabl):0<=wv x:=by
 have:=bG m8 x.conns
 have:=bG mM x.waiting
 unfold wv;omega
theorem uo (x:Door):0<=vB x:=by
 have:=bG lX x.halves
 have:=uH x.table
 unfold vB gU;omega
theorem Cp (x:Stac):0<=qy x:=by
 have:=bG mF x.link.cache
 have:=uo x.door
 unfold qy;omega
theorem Xh (x:Keys)(k:Int)(h0:0<=k)(h1:k+gU x<=4611686018427387904):uf.f (x,k,())=(k+gU x,kE k x.now.rows,kE (k+2*(x.now.rows.length:Int)) x.before.rows):=by
 unfold gU at h1|-
 simp only[PX,uf,yh,L5 x.now.rows k h0 (by omega),L5 x.before.rows (k+2*(x.now.rows.length:Int)) (by omega) (by omega)]
 congr 1;omega
theorem WU (x:Keys)(k:Int)(h0:0<=k)(h1:k+gU x<=4611686018427387904)(y:Keys)(e1:y.now.rows=kE k x.now.rows)(e2:y.before.rows=kE (k+2*(x.now.rows.length:Int)) x.before.rows):ur.f (y,k,())=k+gU x:=by
 unfold gU at h1|-
 simp only[PX,ur,yL,e1,e2,Mp x.now.rows k h0 (by omega)]
 rw[show decide (k+2*(x.now.rows.length:Int)<0)=false by simp;omega]
 simp only[cond_false,Mp x.before.rows (k+2*(x.now.rows.length:Int)) (by omega) (by omega)]
 rw[show decide (k+2*(x.now.rows.length:Int)<0)=false by simp;omega,show decide (k+2*(x.now.rows.length:Int)+2*(x.before.rows.length:Int)<0)=false by simp;omega]
 simp only[cond_false]
 rw[show decide (k+2*(x.now.rows.length:Int)+2*(x.before.rows.length:Int)<0)=false by simp;omega]
 simp only[cond_false]
 omega
theorem Wt (x:Tabl)(k:Int)(h0:0<=k)(h1:k+wv x<=4611686018427387904):sA.f (x,k,())=(k+wv x,cD eZ pA k x.conns,cD jm sa (k+bz eZ x.conns) x.waiting):=by
 have a:=bG m8 x.conns
 have b:=bG mM x.waiting
 unfold wv at h1|-
 simp only[PX,sA,WV x.conns k h0 (by omega),UE x.waiting (k+bz eZ x.conns) (by omega) (by omega)]
 congr 1;omega
theorem Xv (x:Tabl)(k:Int)(h0:0<=k)(h1:k+wv x<=4611686018427387904)(y:Tabl)(e1:y.conns=cD eZ pA k x.conns)(e2:y.waiting=cD jm sa (k+bz eZ x.conns) x.waiting):sk.f (y,k,())=k+wv x:=by
 have a:=bG m8 x.conns
 have b:=bG mM x.waiting
 unfold wv at h1|-
 simp only[PX,sk,e1,e2,Xt x.conns k h0 (by omega)]
 rw[show decide (k+bz eZ x.conns<0)=false by simp;omega]
 simp only[cond_false,TM x.waiting (k+bz eZ x.conns) (by omega) (by omega)]
 rw[show decide (k+bz eZ x.conns+bz jm x.waiting<0)=false by simp;omega]
 simp only[cond_false]
 omega
theorem LZ (x:Door)(k:Int)(h0:0<=k)(h1:k+vB x<=4611686018427387904):gd.f (x,k,())=(k+vB x,kE k x.keys.now.rows,kE (k+2*(x.keys.now.rows.length:Int)) x.keys.before.rows,cD fQ vq (k+gU x.keys) x.halves,cD eZ pA (k+gU x.keys+bz fQ x.halves) x.table.conns,cD jm sa (k+gU x.keys+bz fQ x.halves+bz eZ x.table.conns) x.table.waiting):=by
 have a:=bG lX x.halves
 have b:=uH x.table
 have c:0<=gU x.keys:=by unfold gU;omega
 unfold vB at h1|-
 simp only[PX,gd,Xh x.keys k h0 (by omega),WH x.halves (k+gU x.keys) (by omega) (by omega),Wt x.table (k+gU x.keys+bz fQ x.halves) (by omega) (by omega)]
 congr 1;omega
theorem Wb (x:Door)(k:Int)(h0:0<=k)(h1:k+vB x<=4611686018427387904)(y:Door)(e1:y.keys.now.rows=kE k x.keys.now.rows)(e2:y.keys.before.rows=kE (k+2*(x.keys.now.rows.length:Int)) x.keys.before.rows)(e3:y.halves=cD fQ vq (k+gU x.keys) x.halves)(e4:y.table.conns=cD eZ pA (k+gU x.keys+bz fQ x.halves) x.table.conns)(e5:y.table.waiting=cD jm sa (k+gU x.keys+bz fQ x.halves+bz eZ x.table.conns) x.table.waiting):ua.f (y,k,())=k+vB x:=by
 have a:=bG lX x.halves
 have b:=uH x.table
 have c:0<=gU x.keys:=by unfold gU;omega
 unfold vB at h1|-
 simp only[PX,ua,WU x.keys k h0 (by omega) y.keys e1 e2]
 rw[show decide (k+gU x.keys<0)=false by simp;omega]
 simp only[cond_false,e3,VW x.halves (k+gU x.keys) (by omega) (by omega)]
 rw[show decide (k+gU x.keys+bz fQ x.halves<0)=false by simp;omega]
 simp only[cond_false,Xv x.table (k+gU x.keys+bz fQ x.halves) (by omega) (by omega) y.table e4 e5]
 rw[show decide (k+gU x.keys+bz fQ x.halves+wv x.table<0)=false by simp;omega]
 simp only[cond_false]
 omega
theorem LU (x:Stac)(k:Int)(h0:0<=k)(h1:k+qy x<=4611686018427387904):oY.f (x,k,())=(k+qy x,cD eS vT k x.link.cache,(gd.f (x.door,k+bz eS x.link.cache,())).2):=by
 have a:=bG mF x.link.cache
 have b:=uo x.door
 unfold qy at h1|-
 simp only[PX,oY,Az,UB x.link.cache k h0 (by omega),LZ x.door (k+bz eS x.link.cache) (by omega) (by omega)]
 congr 1;omega
theorem X1 (x:Conn)(h:ah x):eZ x<=8589934616:=by
 have h2:x.r.held.length<=4294967296:=by unfold ah at h;omega
 have h3:=uJ (n:=ey) (B:=2) x.r.held λy _=>by unfold ey;omega
 unfold eZ;omega
theorem Yr (d:Door)(h:ay d)(hc:d.table.conns.length<=268435456):vB d<=2400000000000000000:=by
 unfold ay at h
 obtain⟨h1,_,h2,_,h3,_,h4,h5⟩:=h
 have a:=uJ (n:=fQ) (B:=13) d.halves λy _=>by unfold fQ;omega
 have b:=uJ (n:=eZ) (B:=8589934616) d.table.conns λy hy=>X1 y (h4 y hy)
 have c:=uJ (n:=jm) (B:=3) d.table.waiting λy _=>by unfold jm;omega
 unfold vB gU wv
 omega
theorem YY {d:Door}(h:DO d):d.table.conns.length<=268435456:=by
 have h1:=h.tab.nc
 have h2:=h.tab.lim.c2
 omega
theorem Wr (d:Door)(src:Int)(g:Segm)(hs:lx d)(hc:d.table.conns.length<=268435456):(E9 d src g).1.table.conns.length<=268435456:=by
 by_cases h:bQ.f (d,())=true
 ·exact YY (YU d src g hs ((AC d).1 h)).1
 ·unfold E9
  rw[if_neg λhx=>h hx.1]
  exact hc
theorem LI (x:List ac):lK.f (x,x,())=true:=by
 simp only[PX,lK,kv,bne_self_eq_false,cond_false]
 rw[lO _ _ λj=>by simp only[PX,tW,beq_self_eq_true,Bool.not_true,cond_false]]
 rfl
theorem V3 (x:Stac)(k:Int)(h0:0<=k)(h1:k+qy x<=4611686018427387904)(y:Stac)(e0:y.link.cache=cD eS vT k x.link.cache)(e1:y.door.keys.now.rows=(gd.f (x.door,k+bz eS x.link.cache,())).2.1)(e2:y.door.keys.before.rows=(gd.f (x.door,k+bz eS x.link.cache,())).2.2.1)(e3:y.door.halves=(gd.f (x.door,k+bz eS x.link.cache,())).2.2.2.1)(e4:y.door.table.conns=(gd.f (x.door,k+bz eS x.link.cache,())).2.2.2.2.1)(e5:y.door.table.waiting=(gd.f (x.door,k+bz eS x.link.cache,())).2.2.2.2.2):oX.f (y,k,())=k+qy x:=by
 have a:=bG mF x.link.cache
 have b:=uo x.door
 unfold qy at h1|-
 have m:=LZ x.door (k+bz eS x.link.cache) (by omega) (by omega)
 rw[m]at e1 e2 e3 e4 e5
 simp only[PX,oX,AL,e0,Tm x.link.cache k h0 (by omega)]
 rw[show decide (k+bz eS x.link.cache<0)=false by simp;omega]
 simp only[cond_false]
 rw[show decide (k+bz eS x.link.cache<0)=false by simp;omega]
 simp only[cond_false,Wb x.door (k+bz eS x.link.cache) (by omega) (by omega) y.door e1 e2 e3 e4 e5]
 rw[show decide (k+bz eS x.link.cache+vB x.door<0)=false by simp;omega]
 simp only[cond_false]
 omega
theorem R8 (s:Stac)(h:cL s)(hc:s.door.table.conns.length<=268435456):qy s<=2500000000000000000:=by
 have a:=uJ (n:=eS) (B:=3) s.link.cache λy _=>by unfold eS;omega
 have hl:s.link.cache.length<=4294967296:=by unfold cL at h;omega
 have hd:ay s.door:=by unfold cL at h;unfold ay;exact h.2
 have b:=Yr s.door hd hc
 unfold qy
 omega
theorem XD (xs:List ac)(h:xs.length<=4294967296):0<=bz gb xs/\bz gb xs<=4294967296:=by
 have a:=uJ (n:=gb) (B:=1) xs λy _=>by unfold gb;omega
 exact⟨bG sO xs,by omega⟩
theorem Qo (s:Stac)(raw:ac)(hs:lx s.door)(hc:s.door.table.conns.length<=268435456):(A9 s raw).1.door.table.conns.length<=268435456:=by
 have bf:∀{b:Bool} {p q:Stac×List ac×Int},p.1.door.table.conns.length<=268435456->q.1.door.table.conns.length<=268435456->(bif b then p else q).1.door.table.conns.length<=268435456:=fun{b p q} hp hq=>by cases b<;>assumption
 unfold A9
 exact bf hc (bf hc (bf hc (bf hc (Wr _ _ _ hs hc))))
theorem D9 (x0:Stac)(x1:ac)(hf:cG [.st .stac,.sc .str] (x0,x1,())):nH.f (x0,x1,())=true:=by
 simp only[cG,Pk.fact,jT,gy,Fl.fact,Ty.fl,Ty.toH]at hf
 obtain⟨⟨_,_,⟨hc,_⟩,_,_,_,_,_,_,⟨n1,n2⟩,_,_,_,⟨m1,m2⟩,_,_,_,_,_,⟨hh,_⟩,⟨hl,he⟩,⟨hw,_⟩,_⟩,_,_⟩:=hf
 refine Eq.trans (b:=bif decide (1048576<(x1.length:Int))then true else bif decide (dG.f (x0,1048576,())<0)then true else Tr.nice _) rfl ?_
 by_cases hx:1048576<(x1.length:Int)
 ·rw[decide_eq_true hx,cond_true]
 rcases Bool.eq_false_or_eq_true (decide (dG.f (x0,1048576,())<0))with hz|hz
 ·rw[decide_eq_false hx,cond_false,hz,cond_true]
 have k1:0<=dG.f (x0,1048576,()):=by simpa using hz
 have hS:=My x0 1048576 (by omega) (by omega) hc n1 n2 m1 m2 hh hl he hw k1
 have hC:=(WB x0 1048576 (by omega) (by omega) hc n1 n2 m1 m2 hh hl he hw k1).2
 have hd:ay x0.door:=by have:=hS.2;unfold cL at this;unfold ay;exact this.2
 have hs:=Xf hd
 have hl4:x0.door.halves.length<=4294967296:=by unfold ay at hd;omega
 have e2:=M8 x0 x1 hs hl4
 have e1:qk.f (x0,x1,())=fH.f (x0,x1,()):=(NC x0 x1 (by omega) hs hl4).trans e2.symm
 have hg:=fH.c.h (x0,x1,()) ⟨hS.2,(by show x1.length<=4294967296;omega)⟩
 have hg1:cL (fH.f (x0,x1,())).1:=hg.1
 have hg2:(fH.f (x0,x1,())).2.1.length<=4294967296:=hg.2.1
 have hgc:(fH.f (x0,x1,())).1.door.table.conns.length<=268435456:=by rw[e2];exact Qo x0 x1 hs (by omega)
 have b0:=R8 x0 hS.2 (by omega)
 have b1:=R8 _ hg1 hgc
 have c0:=Cp x0
 have c1:=Cp (fH.f (x0,x1,())).1
 have c2:=XD _ hg2
 rw[decide_eq_false hx,cond_false,hz,cond_false]
 simp only[PX,Zk,e1,Vq,LI,bne_self_eq_false,Bool.not_true,cond_false]
 clear e1 e2
 generalize fH.f (x0,x1,())=g at*
 have m0:=LU x0 1 (by decide) (by omega)
 have m1:=LU g.1 1 (by decide) (by omega)
 have m2:=Rj g.2.1 (1+qy g.1) (by omega) (by omega)
 have z0:decide (1+qy x0<0)=false:=by simp;omega
 have z1:decide (1+qy g.1<0)=false:=by simp;omega
 have z2:decide (1+qy g.1+bz gb g.2.1<0)=false:=by simp;omega
 simp only[m0,m1,m2,z0,Vq,LI,bne_self_eq_false,Bool.not_true,cond_false]
 rw[V3 g.1 1 (by decide) (by omega) _ rfl rfl rfl rfl rfl rfl]
 simp only[z1,Qj g.2.1 (1+qy g.1) (by omega) (by omega),z2,bne_self_eq_false,cond_false]

end
end Go.Proofs.YtbkjnlihfgkkaaaGreat
