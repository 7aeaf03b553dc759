/-
  Contracts of functions and plain laws (printed by a program): each theorem says what a function of the program returns; conditions are its hypotheses.
-/
import Derived.Test.YtgbgljgnblkffaaGreatEW2
set_option linter.all false
set_option maxRecDepth 4000
namespace Go.Proofs.YtgbgljgnblkffaaGreat
open Go Go.RowKit
noncomputable section
noncomputable def AN:=[aE,DF,DT,cV,Fn]
def kE:Sh:=⟨[zp 0 0,zp 3 1,zp 4 2,zp 5 3,zi 6,zi 7],[.box [.st .curs [.sl .any]],.box [.st .limi []],.box [.st .tabl [.nil .conn,.nil .tupl]],.box [.st .tabl [.own 4,.own 5]],.of false true,.of false true]⟩
noncomputable def Aw:Fx:=⟨288,Tryz.f288,[(0,la ⟨[0,3,4,5,6,7],[.box 5 0 .conn,.box 5 1 .tupl],false,1⟩ ⟨[4,5],[],false,1⟩)],1⟩
noncomputable def EI (v3:Limi)(v1:Int)(a:Curs×Tabl×Tabl):Tr (Stp (Curs×Tabl×Tabl) (Empty)):=
 .cal CL.c (a.1,()) λc6=>
 .cal pc.c (a.2.2,c6.1,v3,()) λc7=>
 .cal bQ.c (c6.2,3,()) λc8=>
 .ite c8.1 (.cal xo.c (c7.1,()) λc9=>
  .ret (.next (c8.2,(⟨[],[]⟩:Tabl),c9.1)))<|
 .ret (.next (c8.2,(⟨[],[]⟩:Tabl),c7.1))
noncomputable def gk:kE.V→LC kE (Curs×Tabl×Tabl) (Empty) (Int×(Curs×Tabl×Tabl)):=λ(v0,v1,v2,v3,v4,v5,_)=>⟨v1,(v2,v4,v5),λv1 a=>(v0,v1,a.1,v3,a.2.1,a.2.2,()),λv1 _=>(decide (v1<v0)),EI v3,up,1,(Int.toNat (v0-v1)),(λp=>Empty.elim p),λi a=>(i,a),λ_ k x=>k (.exit 0) (Sh.enc ⟨[zp 4 1,zp 5 2],[.box [.st .curs [.sl .any]],.box [.st .tabl [.nil .conn,.nil .tupl]],.box [.st .tabl [.own 3,.own 4]],.of false true,.of false true]⟩ (x.2.1,(⟨[],[]⟩:Tabl),x.2.2.2,()))⟩
theorem Ek:LS Tryz.prog Aw [0] (bx 0 kE gk):=aN st (ac AN) _ gk [] trivial
theorem Ey {v0 v1:Int}{v2:Curs}{v3:Limi}{v4 v5:Tabl}(h0:0≤v1)(h1:v0≤4611686018427387904)(h2:ae v2∧bh v4∧bh v5∧v5.conns.length≤16∧v5.waiting.length≤16):(gk (v0,v1,v2,v3,v4,v5,())).U v0 (λv1 a=>ae a.1∧bh a.2.1∧bh a.2.2∧a.2.2.conns.length≤16∧a.2.2.waiting.length≤16) (λ_=>True):=
 LC.okU (i:=v1) (a:=(v2,v4,v5)) (λ_ _=>rfl) (λ_=>rfl) rfl h0 h1 h2 λv1 (v2,v4,v5) hj hk hv=>by
  refine Tr.C ?_ λ_ _ _=>Tr.C ?_ λ_ _ _=>Tr.C ?_ λ_ _ _=>Tr.I (λ_=>Tr.C ?_ λ_ _ _=>Tr.Rn ?_) λ_=>Tr.Rn ?_
  all_goals (grind)
noncomputable def Gg:FT (Curs×Limi×Unit) (Tabl×Curs) (λx=>ae x.1) (λx v=>bh v.1∧ae v.2∧v.1.conns.length≤16∧v.1.waiting.length≤16):=⟨λ(y0,x1,_)=>
  .cal af.c (y0,4,()) λc1=>
  .lp (gk (c1.1,0,c1.2,x1,(⟨[],[]⟩:Tabl),(⟨[],[]⟩:Tabl),())).lp λ(_,a10_0,_,a10_2)=>
  .ret (a10_2,a10_0),
 λ(y0,x1,_) hp=>by
  refine Tr.C ?_ λ_ _ _=>Tr.L (Ey ?_ ?_ ?_) (λ(a10_0,a10_1,a10_2) _=>Tr.R ?_) (λp=>Empty.elim p)
  all_goals ((try simp only[gk,LC.lp,LC.ct,Ct.lp]at*)<;>grind)⟩
noncomputable def M6:=cI st Aw AN [(bx 0 kE gk)] [.wr false [.ptr 0],.st .limi] [.box [.st .curs]] (λx y=>(y.1.1,x.2.1,())) Gg (λv=>[(true,tJ (.o true) (.o true) v.1)]) (λx y v=>((v.2,()),())) Tryz.func288 (by kernel_rfl) ⟨Ek,trivial⟩
noncomputable def x6:=[jO,aE,qY,GJ,xE,C6,iu,cW,LV,cV]
def jZ:Sh:=⟨[zp 0 0,zp 2 1,zp 3 2,zi 4,zi 5],[.box [.st .curs [.sl .any]],.box [.st .sndr []],.box [.st .sndr []]]⟩
noncomputable def xJ:Fx:=⟨421,Tryz.f421,[(0,la ⟨[0,2,3,4,5],[],false,1⟩ ⟨[2,3],[],false,1⟩)],1⟩
noncomputable def Co (v1:Int)(a:Curs×Sndr):Tr (Stp (Curs×Sndr) (Empty)):=
 .cal af.c (a.1,4,()) λc3=>
 .ite (c3.1==0) (.cal af.c (c3.2,20,()) λc4=>
  .cal sa.c (c4.2,c4.1,()) λc5=>
  .cal Hi.c (a.2,(ar c5.1),()) λc6=>
  .ret (.next (c5.2,c6.1)))<|
 .ite (c3.1==1) (.cal af.c (c3.2,40,()) λc7=>
  .cal af.c (c7.2,16,()) λc8=>
  .cal n5.c (a.2,(IntKind.wrap .i64 (1+c7.1)),(IntKind.wrap .i64 (1+c8.1)),()) λc9=>
  .ite c9.2 (.cal lm.c (a.2,c9.1,()) λc10=>
   .ret (.next (c8.2,c10)))<|
  .ret (.next (c8.2,a.2)))<|
 .ite (c3.1==2) (.cal gC.c (a.2,()) λc11=>
  .cal af.c (c3.2,(IntKind.wrap .i64 (c11+1)),()) λc12=>
  .val (bg.f (a.2.una,c12.1,())) λc13=>
  .cal AQ.c (a.2,c13,()) λc14=>
  .ret (.next (c12.2,c14.1)))<|
 .ite a.2.fin (.ret (.next (c3.2,({a.2 with fin:=true}:Sndr))))<|
 .cal bQ.c (c3.2,2,()) λc15=>
 .ret (.next (c15.2,({a.2 with fin:=c15.1}:Sndr)))
noncomputable def fC:jZ.V→LC jZ (Curs×Sndr) (Empty) (Int×(Curs×Sndr)):=λ(v0,v1,v2,v3,v4,_)=>⟨v1,(v2,v4),λv1 a=>(v0,v1,a.1,v3,a.2,()),λv1 _=>(decide (v1<v0)),Co,up,1,(Int.toNat (v0-v1)),(λp=>Empty.elim p),λi a=>(i,a),λ_ k x=>k (.exit 0) (Sh.enc ⟨[zp 2 1,zp 3 2],[.box [.st .curs [.sl .any]],.box [.st .sndr []],.box [.st .sndr []]]⟩ (x.2.1,v3,x.2.2,()))⟩
theorem Cc:LS Tryz.prog xJ [0] (bx 0 jZ fC):=aN st (ac x6) _ fC [] trivial
theorem Cy {v0 v1:Int}{v2:Curs}{v3 v4:Sndr}(h0:0≤v1)(h1:v0≤4611686018427387904)(h2:ae v2∧bU v4):(fC (v0,v1,v2,v3,v4,())).U v0 (λv1 a=>ae a.1∧bU a.2) (λ_=>True):=
 LC.okU (i:=v1) (a:=(v2,v4)) (λ_ _=>rfl) (λ_=>rfl) rfl h0 h1 h2 λv1 (v2,v4) hj hk hv=>by
  refine Tr.C ?_ λ_ _ _=>Tr.I (λ_=>Tr.C ?_ λ_ _ _=>Tr.C ?_ λ_ _ _=>Tr.C ?_ λ_ _ _=>Tr.Rn ?_) λ_=>Tr.I (λ_=>Tr.C ?_ λ_ _ _=>Tr.C ?_ λ_ _ _=>Tr.C ?_ λ_ _ _=>Tr.I (λ_=>Tr.C ?_ λ_ _ _=>Tr.Rn ?_) λ_=>Tr.Rn ?_) λ_=>Tr.I (λ_=>Tr.C ?_ λ_ _ _=>Tr.C ?_ λ_ _ _=>Tr.V λ_ _=>Tr.C ?_ λ_ _ _=>Tr.Rn ?_) λ_=>Tr.I (λ_=>Tr.Rn ?_) λ_=>Tr.C ?_ λ_ _ _=>Tr.Rn ?_
  all_goals (grind)
noncomputable def Dd:FT (Curs×Unit) (Sndr×Curs) (λx=>ae x.1) (λx v=>bU v.1∧ae v.2):=⟨λ(y0,_)=>
  .cal iU.c (y0,()) λc1=>
  .cal af.c (c1.2,6,()) λc2=>
  .lp (fC (c2.1,0,c2.2,(⟨0,[],0,false,false,false⟩:Sndr),(⟨c1.1,[],0,false,false,false⟩:Sndr),())).lp λ(_,a16_0,a16_1)=>
  .ret (a16_1,a16_0),
 λ(y0,_) hp=>by
  refine Tr.C ?_ λ_ _ _=>Tr.C ?_ λ_ _ _=>Tr.L (Cy ?_ ?_ ?_) (λ(a16_0,a16_1) _=>Tr.R ?_) (λp=>Empty.elim p)
  all_goals ((try simp only[fC,LC.lp,LC.ct,Ct.lp]at*)<;>grind)⟩
noncomputable def KF:=cI st xJ x6 [(bx 0 jZ fC)] [.wr false [.ptr 0]] [.box [.st .curs]] (λx y=>(y.1.1,())) Dd (λv=>[(true,vg v.1)]) (λx y v=>((v.2,()),())) Tryz.func421 (by kernel_rfl) ⟨Cc,trivial⟩
noncomputable def LI:FT (Curs×Unit) (Sndr×Curs) (λx=>ae x.1) (λx v=>bU v.1∧ae v.2):=⟨λ(y0,_)=>
  .cal Dd.c (y0,()) λc1=>
  .cal af.c (c1.2,10,()) λc2=>
  .ite (c2.1==0) (.cal iX.c (c2.2,()) λc3=>
   .ret (({c1.1 with una:=c3.1}:Sndr),c3.2))<|
  .ite (c2.1==1) (.cal aw.c (c2.2,[(-1),0,48,49,(IntKind.wrap .i64 ((c1.1.data.length:Int)+1))],()) λc4=>
   .ret (({c1.1 with sent:=c4.1}:Sndr),c4.2))<|
  .ite (c2.1==2) (.ret (({c1.1 with finSent:=(!c1.1.finSent)}:Sndr),c2.2))<|
  .ite (c2.1==3) (.ret (({c1.1 with done:=(!c1.1.done)}:Sndr),c2.2))<|
  .ite (c2.1==4) (.cal af.c (c2.2,3,()) λc5=>
   .cal II.c ((IntKind.wrap .i64 (47+c5.1)),()) λc6=>
   .ret (({c1.1 with data:=c6}:Sndr),c5.2))<|
  .ret (c1.1,c2.2),
 λ(y0,_) hp=>by
  refine Tr.C ?_ λ_ _ _=>Tr.C ?_ λ_ _ _=>Tr.I (λ_=>Tr.C ?_ λ_ _ _=>Tr.R ?_) λ_=>Tr.I (λ_=>Tr.C ?_ λ_ _ _=>Tr.R ?_) λ_=>Tr.I (λ_=>Tr.R ?_) λ_=>Tr.I (λ_=>Tr.R ?_) λ_=>Tr.I (λ_=>Tr.C ?_ λ_ _ _=>Tr.C ?_ λ_ _ _=>Tr.R ?_) λ_=>Tr.R ?_
  all_goals (grind)⟩
noncomputable def Qe:=cI st ⟨376,Tryz.f376,[],1⟩ [KF,aE,k8,aJ,Jm] [] [.wr false [.ptr 0]] [.box [.st .curs]] (λx y=>(y.1.1,())) LI (λv=>[(true,vg v.1)]) (λx y v=>((v.2,()),())) Tryz.func376 (by kernel_rfl) trivial
noncomputable def uj:=[jO,t9,aE,xT,Dt,cV,Ec]
def iJ:Sh:=⟨[zp 0 0,zp 2 1,zp 3 2,zi 4,zi 5],[.box [.st .curs [.sl .any]],.box [.st .recv [.nil .piec]],.box [.st .recv [.own 3]],.of false true]⟩
noncomputable def ul:Fx:=⟨422,Tryz.f422,[(0,la ⟨[0,2,3,4,5],[],false,1⟩ ⟨[2,3],[],false,1⟩)],1⟩
noncomputable def yF (v1:Int)(a:Curs×Recv×Recv):Tr (Stp (Curs×Recv×Recv) (Empty)):=
 .cal uT.c (a.1,a.2.2,()) λc4=>
 .cal pa.c (a.2.2,c4.1,c4.2.1,c4.2.2.1,()) λc5=>
 .cal bQ.c (c4.2.2.2,3,()) λc6=>
 .ite c6.1 (.cal af.c (c6.2,20,()) λc7=>
  .cal CM.c (c5,c7.1,()) λc8=>
  .ret (.next (c7.2,({a.2.1 with held:=[]}:Recv),c8.1)))<|
 .ret (.next (c6.2,({a.2.1 with held:=[]}:Recv),c5))
noncomputable def dY:iJ.V→LC iJ (Curs×Recv×Recv) (Empty) (Int×(Curs×Recv×Recv)):=λ(v0,v1,v2,v3,v4,_)=>⟨v1,(v2,v3,v4),λv1 a=>(v0,v1,a.1,a.2.1,a.2.2,()),λv1 _=>(decide (v1<v0)),yF,up,1,(Int.toNat (v0-v1)),(λp=>Empty.elim p),λi a=>(i,a),λ_ k x=>k (.exit 0) (Sh.enc ⟨[zp 2 1,zp 3 2],[.box [.st .curs [.sl .any]],.box [.st .recv [.nil .piec]],.box [.st .recv [.own 3]],.of false true]⟩ (x.2.1,({x.2.2.1 with held:=[]}:Recv),x.2.2.2,()))⟩
theorem yi:LS Tryz.prog ul [0] (bx 0 iJ dY):=aN st (ac uj) _ dY [] trivial
theorem yf {v0 v1:Int}{v2:Curs}{v3 v4:Recv}(h0:0≤v1)(h1:v0≤4611686018427387904)(h2:ae v2∧an v3∧an v4∧v4.held.length≤3):(dY (v0,v1,v2,v3,v4,())).U v0 (λv1 a=>ae a.1∧an a.2.1∧an a.2.2∧a.2.2.held.length≤3) (λ_=>True):=
 LC.okU (i:=v1) (a:=(v2,v3,v4)) (λ_ _=>rfl) (λ_=>rfl) rfl h0 h1 h2 λv1 (v2,v3,v4) hj hk hv=>by
  refine Tr.C ?_ λ_ _ _=>Tr.C ?_ λ_ _ _=>Tr.C ?_ λ_ _ _=>Tr.I (λ_=>Tr.C ?_ λ_ _ _=>Tr.C ?_ λ_ _ _=>Tr.Rn ?_) λ_=>Tr.Rn ?_
  all_goals (grind)
noncomputable def xv:FT (Curs×Unit) (Recv×Curs) (λx=>ae x.1) (λx v=>an v.1∧ae v.2∧v.1.held.length≤3):=⟨λ(y0,_)=>
  .cal iU.c (y0,()) λc1=>
  .cal kv.c (c1.1,()) λc2=>
  .cal af.c (c1.2,7,()) λc3=>
  .lp (dY (c3.1,0,c3.2,(⟨0,[],[],0,false⟩:Recv),c2,())).lp λ(_,a9_0,_,a9_2)=>
  .ret (a9_2,a9_0),
 λ(y0,_) hp=>by
  refine Tr.C ?_ λ_ _ _=>Tr.C trivial λ_ _ _=>Tr.C ?_ λ_ _ _=>Tr.L (yf ?_ ?_ ?_) (λ(a9_0,a9_1,a9_2) _=>Tr.R ?_) (λp=>Empty.elim p)
  all_goals ((try simp only[dY,LC.lp,LC.ct,Ct.lp]at*)<;>grind)⟩
noncomputable def EW:=cI st ul uj [(bx 0 iJ dY)] [.wr false [.ptr 0]] [.box [.st .curs]] (λx y=>(y.1.1,())) xv (λv=>[(true,sT (.o true) v.1)]) (λx y v=>((v.2,()),())) Tryz.func422 (by kernel_rfl) ⟨yi,trivial⟩
noncomputable def KL:FT (Curs×Unit) (Recv×Curs) (λx=>ae x.1) (λx v=>an v.1∧ae v.2):=⟨λ(y0,_)=>
  .cal xv.c (y0,()) λc1=>
  .cal af.c (c1.2,12,()) λc2=>
  .ite (c2.1==0) (.cal iX.c (c2.2,()) λc3=>
   .ret (({c1.1 with next:=c3.1}:Recv),c3.2))<|
  .ite (c2.1==1) (.cal aw.c (c2.2,[(-2),(-1),0,5,32,33],()) λc4=>
   .ret (({c1.1 with fin:=c4.1}:Recv),c4.2))<|
  .ite (c2.1==2) (.ret (({c1.1 with done:=(!c1.1.done)}:Recv),c2.2))<|
  .ite (c2.1==3) (.cal aw.c (c2.2,[0,1,20,31,32,(-1),9223372036854775807],()) λc5=>
   .cal Jt.c (c5.2,[[],[120],[121,122]],()) λc6=>
   .grd (Nat.ble ((2*(c1.1.held.length+1)+1024)*24) aF)<|
   .ret (({c1.1 with held:=(c1.1.held++[(⟨c5.1,c6.1⟩:Piec)])}:Recv),c6.2))<|
  .ite (c2.1==4) (.cal af.c (c2.2,3,()) λc7=>
   .cal II.c ((IntKind.wrap .i64 (31+c7.1)),()) λc8=>
   .ret (({c1.1 with data:=c8}:Recv),c7.2))<|
  .ret (c1.1,c2.2),
 λ(y0,_) hp=>by
  refine Tr.C ?_ λ_ _ _=>Tr.C ?_ λ_ _ _=>Tr.I (λ_=>Tr.C ?_ λ_ _ _=>Tr.R ?_) λ_=>Tr.I (λ_=>Tr.C ?_ λ_ _ _=>Tr.R ?_) λ_=>Tr.I (λ_=>Tr.R ?_) λ_=>Tr.I (λ_=>Tr.C ?_ λ_ _ _=>Tr.C ?_ λ_ _ _=>Tr.Gb ?_ λ_=>Tr.R ?_) λ_=>Tr.I (λ_=>Tr.C ?_ λ_ _ _=>Tr.C ?_ λ_ _ _=>Tr.R ?_) λ_=>Tr.R ?_
  all_goals (grind)⟩
noncomputable def Qa:=cI st ⟨377,Tryz.f377,[],1⟩ [EW,aE,k8,aJ,IU,Jm] [] [.wr false [.ptr 0]] [.box [.st .curs]] (λx y=>(y.1.1,())) KL (λv=>[(true,sT (.o true) v.1)]) (λx y v=>((v.2,()),())) Tryz.func377 (by kernel_rfl) trivial
noncomputable def PR:=[DF,aE,Qe,Qa,aJ,y6,vR]
def vI:An:=⟨⟨[],[],false,1⟩,⟨[2,3],[],false,1⟩,⟨[],[]⟩,[(.normal,⟨[zp 2 1,zp 3 2],[.box [.st .curs [.sl .any]],.box [.st .conn [.nil .piec]],.box [.st .conn [.own 3]],.of false true]⟩)]⟩
noncomputable def Qj:Fx:=⟨289,Tryz.f289,[(1000008,vI)],1⟩
noncomputable def Ll:FT (Curs×Unit) (Conn×Curs) (λx=>ae x.1) (λx v=>aa v.1∧ae v.2):=⟨λ(y0,_)=>
  .cal CL.c (y0,()) λc1=>
  .cal af.c (c1.2,16,()) λc2=>
  .bnd (β:=WT vI.es) (.ite (c2.1==0) (.cal af.c (c2.2,11,()) λc3=>
    .ret (c3.2,(⟨⟨0,0,0⟩,0,⟨0,[],0,false,false,false⟩,⟨0,[],[],0,false⟩,0,0,⟨0,0,false,false,0,0⟩,0,0⟩:Conn),({c1.1 with state:=(IntKind.wrap .i64 (c3.1-1))}:Conn),()))<|
   .ite (c2.1==1) (.cal LI.c (c2.2,()) λc4=>
    .ret (c4.2,(⟨⟨0,0,0⟩,0,⟨0,[],0,false,false,false⟩,⟨0,[],[],0,false⟩,0,0,⟨0,0,false,false,0,0⟩,0,0⟩:Conn),({c1.1 with s.una:=c4.1.una,s.data:=c4.1.data,s.sent:=c4.1.sent,s.fin:=c4.1.fin,s.finSent:=c4.1.finSent,s.done:=c4.1.done}:Conn),()))<|
   .ite (c2.1==2) (.cal KL.c (c2.2,()) λc5=>
    .ret (c5.2,(⟨⟨0,0,0⟩,0,⟨0,[],0,false,false,false⟩,⟨0,[],[],0,false⟩,0,0,⟨0,0,false,false,0,0⟩,0,0⟩:Conn),({c1.1 with r.next:=c5.1.next,r.data:=c5.1.data,r.held:=c5.1.held,r.fin:=c5.1.fin,r.done:=c5.1.done}:Conn),()))<|
   .ite (c2.1==3) (.cal aw.c (c2.2,[(-1),0,c1.1.most,(IntKind.wrap .i64 (c1.1.most+1))],()) λc6=>
    .ret (c6.2,(⟨⟨0,0,0⟩,0,⟨0,[],0,false,false,false⟩,⟨0,[],[],0,false⟩,0,0,⟨0,0,false,false,0,0⟩,0,0⟩:Conn),({c1.1 with window:=c6.1}:Conn),()))<|
   .ite (c2.1==4) (.cal aw.c (c2.2,[(-1),0,3,4,5],()) λc7=>
    .ret (c7.2,(⟨⟨0,0,0⟩,0,⟨0,[],0,false,false,false⟩,⟨0,[],[],0,false⟩,0,0,⟨0,0,false,false,0,0⟩,0,0⟩:Conn),({c1.1 with timer:=c7.1}:Conn),()))<|
   .ite (c2.1==5) (.cal aw.c (c2.2,[(-1),0,3,4],()) λc8=>
    .ret (c8.2,(⟨⟨0,0,0⟩,0,⟨0,[],0,false,false,false⟩,⟨0,[],[],0,false⟩,0,0,⟨0,0,false,false,0,0⟩,0,0⟩:Conn),({c1.1 with tries:=c8.1}:Conn),()))<|
   .ite (c2.1==6) (.cal Ak.c (c2.2,()) λc9=>
    .ret (c9.2,(⟨⟨0,0,0⟩,0,⟨0,[],0,false,false,false⟩,⟨0,[],[],0,false⟩,0,0,⟨0,0,false,false,0,0⟩,0,0⟩:Conn),({c1.1 with opts.mss:=c9.1.mss,opts.scale:=c9.1.scale,opts.sack:=c9.1.sack,opts.stamp:=c9.1.stamp,opts.val:=c9.1.val,opts.echo:=c9.1.echo}:Conn),()))<|
   .ite (c2.1==7) (.cal wA.c (c2.2,()) λc10=>
    .ret (c10.2,(⟨⟨0,0,0⟩,0,⟨0,[],0,false,false,false⟩,⟨0,[],[],0,false⟩,0,0,⟨0,0,false,false,0,0⟩,0,0⟩:Conn),({c1.1 with tuple.ip:=c10.1.ip,tuple.port:=c10.1.port,tuple.my:=c10.1.my}:Conn),()))<|
   .ret (c2.2,(⟨⟨0,0,0⟩,0,⟨0,[],0,false,false,false⟩,⟨0,[],[],0,false⟩,0,0,⟨0,0,false,false,0,0⟩,0,0⟩:Conn),c1.1,())) λ(u11a0,_,u11a2,_)=>
  .ret (u11a2,u11a0),
 λ(y0,_) hp=>by
  refine Tr.C ?_ λ_ _ _=>Tr.C ?_ λ_ _ _=>Tr.B (Q':=λw=>ae w.1∧aa w.2.1∧aa w.2.2.1) (Tr.I (λ_=>Tr.C ?_ λ_ _ _=>Tr.R ?_) λ_=>Tr.I (λ_=>Tr.C ?_ λ_ _ _=>Tr.R ?_) λ_=>Tr.I (λ_=>Tr.C ?_ λ_ _ _=>Tr.R ?_) λ_=>Tr.I (λ_=>Tr.C ?_ λ_ _ _=>Tr.R ?_) λ_=>Tr.I (λ_=>Tr.C ?_ λ_ _ _=>Tr.R ?_) λ_=>Tr.I (λ_=>Tr.C ?_ λ_ _ _=>Tr.R ?_) λ_=>Tr.I (λ_=>Tr.C ?_ λ_ _ _=>Tr.R ?_) λ_=>Tr.I (λ_=>Tr.C ?_ λ_ _ _=>Tr.R ?_) λ_=>Tr.R ?_) (λ(u11a0,u11a1,u11a2,_) _ _=>Tr.R ?_)
  all_goals ((try simp only[Tr.nice,bu]at*)<;>grind)⟩
noncomputable def On:=cI st Qj PR [] [.wr false [.ptr 0]] [.box [.st .curs]] (λx y=>(y.1.1,())) Ll (λv=>[(true,gO (.o true) v.1)]) (λx y v=>((v.2,()),())) Tryz.func289 (by kernel_rfl) trivial
noncomputable def PE:=[xp,M6,aE,On,oD,aJ]
def ur:An:=⟨⟨[],[],false,1⟩,⟨[2,3,4,5],[],false,1⟩,⟨[],[]⟩,[(.normal,⟨[zp 2 1,zp 3 2,zp 4 3,zp 5 4],[.box [.st .curs [.sl .any]],.box [.st .tabl [.nil .conn,.nil .tupl]],.box [.st .limi []],.box [.st .limi []],.box [.st .tabl [.own 5,.own 6]],.of false true,.of false true]⟩)]⟩
noncomputable def PT:Fx:=⟨169,Tryz.f169,[(1000013,ur)],1⟩
noncomputable def LA:FT (Curs×Unit) (Tabl×Limi×Curs) (λx=>ae x.1) (λx v=>bh v.1∧ae v.2.2):=⟨λ(y0,_)=>
  .cal lw.c (y0,()) λc1=>
  .cal Gg.c (c1.2,c1.1,()) λc2=>
  .cal af.c (c2.2,10,()) λc3=>
  .bnd (β:=WT ur.es) (.ite (c3.1==0) (.cal Ll.c (c3.2,()) λc4=>
    .grd (Nat.ble ((2*(c2.1.conns.length+1)+1024)*208) aF)<|
    .ret (c4.2,(⟨[],[]⟩:Tabl),(⟨0,0,0,0⟩:Limi),c1.1,(⟨(c2.1.conns++[c4.1]),c2.1.waiting⟩:Tabl),()))<|
   .ite (c3.1==1) (.cal qd.c (c3.2,()) λc5=>
    .grd (Nat.ble ((2*(c2.1.waiting.length+1)+1024)*24) aF)<|
    .ret (c5.2,(⟨[],[]⟩:Tabl),(⟨0,0,0,0⟩:Limi),c1.1,(⟨c2.1.conns,(c2.1.waiting++[c5.1])⟩:Tabl),()))<|
   .ite (c3.1==2) (.cal aw.c (c3.2,[0,16,17,1],()) λc6=>
    .ret (c6.2,(⟨[],[]⟩:Tabl),(⟨0,0,0,0⟩:Limi),({c1.1 with conns:=c6.1}:Limi),c2.1,()))<|
   .ite (c3.1==3) (.cal aw.c (c3.2,[(-1),1000,1001],()) λc7=>
    .ret (c7.2,(⟨[],[]⟩:Tabl),(⟨0,0,0,0⟩:Limi),({c1.1 with chal:=c7.1}:Limi),c2.1,()))<|
   .ite (c3.1==4) (.ite (decide (0<(c2.1.conns.length:Int))) (.grd (decide (0<(c2.1.conns.length:Int)))<|
     .grd (Nat.ble ((2*(c2.1.conns.length+1)+1024)*208) aF)<|
     .ret (c3.2,(⟨[],[]⟩:Tabl),(⟨0,0,0,0⟩:Limi),c1.1,(⟨(c2.1.conns++[(c2.1.conns.getD 0 (Ty.zero .conn))]),c2.1.waiting⟩:Tabl),()))<|
    .ret (c3.2,(⟨[],[]⟩:Tabl),(⟨0,0,0,0⟩:Limi),c1.1,c2.1,()))<|
   .ret (c3.2,(⟨[],[]⟩:Tabl),(⟨0,0,0,0⟩:Limi),c1.1,c2.1,())) λ(u8a0,_,_,u8a3,u8a4,_)=>
  .ret (u8a4,u8a3,u8a0),
 λ(y0,_) hp=>by
  refine Tr.C ?_ λ_ _ _=>Tr.C ?_ λ_ _ _=>Tr.C ?_ λ_ _ _=>Tr.B (Q':=λw=>ae w.1∧bh w.2.1∧bh w.2.2.2.2.1) (Tr.I (λ_=>Tr.C ?_ λ_ _ _=>Tr.Gb ?_ λ_=>Tr.R ?_) λ_=>Tr.I (λ_=>Tr.C ?_ λ_ _ _=>Tr.Gb ?_ λ_=>Tr.R ?_) λ_=>Tr.I (λ_=>Tr.C ?_ λ_ _ _=>Tr.R ?_) λ_=>Tr.I (λ_=>Tr.C ?_ λ_ _ _=>Tr.R ?_) λ_=>Tr.I (λ_=>Tr.I (λ_=>Tr.G1 ?_ λ_=>Tr.Gb ?_ λ_=>Tr.R ?_) λ_=>Tr.R ?_) λ_=>Tr.R ?_) (λ(u8a0,u8a1,u8a2,u8a3,u8a4,_) _ _=>Tr.R ?_)
  all_goals ((try simp only[Tr.nice,bu]at*)<;>grind)⟩
noncomputable def Pl:=cI st PT PE [] [.wr false [.ptr 0]] [.box [.st .curs]] (λx y=>(y.1.1,())) LA (λv=>[(true,tJ (.o true) (.o true) v.1),(true,SR v.2.1)]) (λx y v=>((v.2.2,()),())) Tryz.func169 (by kernel_rfl) trivial
noncomputable def pd:FT (Curs×Unit) (Door×Curs) (λx=>ae x.1) (λx v=>am v.1∧ae v.2):=⟨λ(y0,_)=>
  .cal rO.c (y0,()) λc1=>
  .cal af.c (c1.2,16,()) λc2=>
  .ite (c2.1==0) (.cal iX.c (c2.2,()) λc3=>
   .ret (({c1.1 with port:=c3.1}:Door),c3.2))<|
  .ite (c2.1==1) (.cal wd.c (c2.2,()) λc4=>
   .ret ((⟨c1.1.port,c1.1.clock,c4.1,c1.1.limits,c1.1.halves,c1.1.table,c1.1.chal⟩:Door),c4.2))<|
  .ite (c2.1==2) (.cal LG.c (c2.2,()) λc5=>
   .ret (({c1.1 with halves:=c5.1}:Door),c5.2))<|
  .ite (c2.1==3) (.cal LA.c (c2.2,()) λc6=>
   .ret (({c1.1 with table.conns:=c6.1.conns,table.waiting:=c6.1.waiting}:Door),c6.2.2))<|
  .ite (c2.1==4) (.cal aw.c (c2.2,[(-1),0,c1.1.limits.chal,(IntKind.wrap .i64 (c1.1.limits.chal+1))],()) λc7=>
   .ret (({c1.1 with chal:=c7.1}:Door),c7.2))<|
  .ite (c2.1==5) (.cal aw.c (c2.2,[(-1),4294967295,4294967296],()) λc8=>
   .ret (({c1.1 with clock:=c8.1}:Door),c8.2))<|
  .ret (c1.1,c2.2),
 λ(y0,_) hp=>by
  refine Tr.C ?_ λ_ _ _=>Tr.C ?_ λ_ _ _=>Tr.I (λ_=>Tr.C ?_ λ_ _ _=>Tr.R ?_) λ_=>Tr.I (λ_=>Tr.C ?_ λ_ _ _=>Tr.R ?_) λ_=>Tr.I (λ_=>Tr.C ?_ λ_ _ _=>Tr.R ?_) λ_=>Tr.I (λ_=>Tr.C ?_ λ_ _ _=>Tr.R ?_) λ_=>Tr.I (λ_=>Tr.C ?_ λ_ _ _=>Tr.R ?_) λ_=>Tr.I (λ_=>Tr.C ?_ λ_ _ _=>Tr.R ?_) λ_=>Tr.R ?_
  all_goals (grind)⟩
noncomputable def Pm:=cI st ⟨69,Tryz.f69,[],1⟩ [QB,aE,k8,Oc,Ol,Pl,aJ] [] [.wr false [.ptr 0]] [.box [.st .curs]] (λx y=>(y.1.1,())) pd (λv=>[(true,ji (.o true) (.o true) (.o true) (.o true) (.o true) v.1)]) (λx y v=>((v.2,()),())) Tryz.func69 (by kernel_rfl) trivial
noncomputable def C7:FT (Curs×Unit) (Clie×Curs) (λx=>ae x.1) (λx v=>ae v.2):=⟨λ(y0,_)=>
  .cal aw.c (y0,[40007,40008,40000],()) λc1=>
  .cal iU.c (c1.2,()) λc2=>
  .cal lB.c (c2.2,()) λc3=>
  .cal aw.c (c3.2,[0,9,65535],()) λc4=>
  .ret ((⟨⟨167772162,c1.1,80⟩,c2.1,c3.1,c4.1⟩:Clie),c4.2),
 λ(y0,_) hp=>by
  refine Tr.C ?_ λ_ _ _=>Tr.C ?_ λ_ _ _=>Tr.C ?_ λ_ _ _=>Tr.C ?_ λ_ _ _=>Tr.R ?_
  all_goals (grind)⟩
noncomputable def Kw:=cI st ⟨171,Tryz.f171,[],1⟩ [aJ,jO,kp] [] [.wr false [.ptr 0]] [.box [.st .curs]] (λx y=>(y.1.1,())) C7 (λv=>[(true,Tu v.1)]) (λx y v=>((v.2,()),())) Tryz.func171 (by kernel_rfl) trivial
noncomputable def Lc:FT (Curs×Unit) (Clie×Curs) (λx=>ae x.1) (λx v=>ae v.2):=⟨λ(y0,_)=>
  .cal C7.c (y0,()) λc1=>
  .cal af.c (c1.2,10,()) λc2=>
  .ite (c2.1==0) (.cal wA.c (c2.2,()) λc3=>
   .ret (({c1.1 with tuple.ip:=c3.1.ip,tuple.port:=c3.1.port,tuple.my:=c3.1.my}:Clie),c3.2))<|
  .ite (c2.1==1) (.cal iX.c (c2.2,()) λc4=>
   .ret (({c1.1 with isn:=c4.1}:Clie),c4.2))<|
  .ite (c2.1==2) (.cal Ak.c (c2.2,()) λc5=>
   .ret ((⟨c1.1.tuple,c1.1.isn,c5.1,c1.1.window⟩:Clie),c5.2))<|
  .ite (c2.1==3) (.cal iX.c (c2.2,()) λc6=>
   .ret (({c1.1 with window:=c6.1}:Clie),c6.2))<|
  .ret (c1.1,c2.2),
 λ(y0,_) hp=>by
  refine Tr.C ?_ λ_ _ _=>Tr.C ?_ λ_ _ _=>Tr.I (λ_=>Tr.C ?_ λ_ _ _=>Tr.R ?_) λ_=>Tr.I (λ_=>Tr.C ?_ λ_ _ _=>Tr.R ?_) λ_=>Tr.I (λ_=>Tr.C ?_ λ_ _ _=>Tr.R ?_) λ_=>Tr.I (λ_=>Tr.C ?_ λ_ _ _=>Tr.R ?_) λ_=>Tr.R ?_
  all_goals (grind)⟩
noncomputable def PQ:=cI st ⟨73,Tryz.f73,[],1⟩ [Kw,aE,vR,k8,y6] [] [.wr false [.ptr 0]] [.box [.st .curs]] (λx y=>(y.1.1,())) Lc (λv=>[(true,Tu v.1)]) (λx y v=>((v.2,()),())) Tryz.func73 (by kernel_rfl) trivial
noncomputable def uD:=[U7,Pm,aJ,tW,sZ,PQ]
def im:Sh:=⟨[zp 2 0,zp 3 1,zp 5 2,zp 6 3,(7,false,[.own 4]),zi 8,zi 9],[.box [.st .door [.nil .macRow,.nil .macRow,.nil .half,.nil .conn,.nil .tupl]],.box [.st .clie []],.box [.st .curs [.sl .any]],.box [.st .door [.own 5,.own 6,.own 7,.own 8,.own 9]],.arr .mac false true,.of false true,.of false true,.of false true,.of false true,.of false true]⟩
noncomputable def uE:Fx:=⟨16,Tryz.f16,[(0,lb [2,3,5,6,7,8,9] [2,3,4,5,6,7])],0⟩
noncomputable def kY (v1:Int)(a:Door×Curs×List Mac):Tr (Stp (Door×Curs×List Mac) (Empty)):=
 .cal fE.c (a.2.1,()) λc4=>
 .cal mi.c (c4.1,9,()) λc5=>
 .grd (Nat.ble ((2*(a.2.2.length+1)+1024)*48) aF)<|
 .ret (.next (({a.1 with keys.now.rows:=[],keys.before.rows:=[],halves:=[],table.conns:=[],table.waiting:=[]}:Door),c4.2,(a.2.2++[c5])))
noncomputable def cX:im.V→LC im (Door×Curs×List Mac) (Empty) (Int×(Door×Curs×List Mac)):=λ(v0,v1,v2,v3,v4,v5,v6,_)=>⟨v1,(v2,v4,v6),λv1 a=>(v0,v1,a.1,v3,a.2.1,v5,a.2.2,()),λv1 _=>(decide (v1<v0)),kY,up,1,(Int.toNat (v0-v1)),(λp=>Empty.elim p),λi a=>(i,a),λ_ k x=>k (.exit 0) (Sh.enc ⟨[zp 2 0,zp 3 1,zu 4,zp 5 2,zp 6 3,(7,false,[.own 4])],[.box [.st .door [.nil .macRow,.nil .macRow,.nil .half,.nil .conn,.nil .tupl]],.box [.st .clie []],.box [.st .curs [.sl .any]],.box [.st .door [.own 5,.own 6,.own 7,.own 8,.own 9]],.arr .mac false true,.of false true,.of false true,.of false true,.of false true,.of false true]⟩ (({x.2.1 with keys.now.rows:=[],keys.before.rows:=[],halves:=[],table.conns:=[],table.waiting:=[]}:Door),v3,x.2.2.1,v5,x.2.2.2,()))⟩
theorem yp:LS Tryz.prog uE [0] (bx 0 im cX):=aN st (ac uD) _ cX [] trivial
theorem yQ {v0 v1:Int}{v2 v5:Door}{v3:Clie}{v4:Curs}{v6:List Mac}(h0:0≤v1)(h1:v0≤4611686018427387904)(h2:v0≤4294967296)(h3:am v2∧ae v4∧(v6.length:Int)=v1∧dP bv v6):(cX (v0,v1,v2,v3,v4,v5,v6,())).U v0 (λv1 a=>am a.1∧ae a.2.1∧(a.2.2.length:Int)=v1∧dP bv a.2.2) (λ_=>True):=
 LC.okU (i:=v1) (a:=(v2,v4,v6)) (λ_ _=>rfl) (λ_=>rfl) rfl h0 h1 h3 λv1 (v2,v4,v6) hj hk hv=>by
  refine Tr.C ?_ λ_ _ _=>Tr.C trivial λ_ _ _=>Tr.Gb ?_ λ_=>Tr.Rn ?_
  all_goals (grind)
noncomputable def fx:FT (List Int×Unit) (Door×Clie×List Mac) (λx=>sS x.1∧x.1.length≤1048576) (λx v=>am v.1∧sL bv v.2.2):=⟨λ(x0,_)=>
  .cal A0.c (x0,()) λc1=>
  .cal pd.c (c1,()) λc2=>
  .cal aw.c (c2.2,[0,0,1,1,2],()) λc3=>
  .lp (cX (c3.1,0,(⟨0,0,⟨0,⟨false,0,0,[]⟩,⟨false,0,0,[]⟩,false⟩,⟨0,0,0,0⟩,[],⟨[],[]⟩,0⟩:Door),(⟨⟨0,0,0⟩,0,⟨0,0,false,false,0,0⟩,0⟩:Clie),c3.2,c2.1,[],())).lp λ(_,_,a6_1,a6_2)=>
  .cal Lc.c (a6_1,()) λc7=>
  .ret (c2.1,c7.1,a6_2),
 λ(x0,_) hp=>by
  refine Tr.C ?_ λ_ _ _=>Tr.C ?_ λ_ _ _=>Tr.C ?_ λ_ _ _=>Tr.L (yQ ?_ ?_ ?_ ?_) (λ(a6_0,a6_1,a6_2) _=>Tr.C ?_ λ_ _ _=>Tr.R ?_) (λp=>Empty.elim p)
  all_goals ((try simp only[cX,LC.lp,LC.ct,Ct.lp]at*)<;>grind)⟩
noncomputable def EF:=aZ st uE uD [(bx 0 im cX)] (ks:=[.sc (.sl .u8)]) fx (λv=>[(true,ji (.o true) (.o true) (.o true) (.o true) (.o true) v.1),(true,Tu v.2.1),(false,[sc (.o true) .mac v.2.2])]) Tryz.func16 ⟨yp,trivial⟩
noncomputable def JB:=[XN,EF,Og,QY,MD,Bq,tR,zv,j7,fo,QO,pC,vT]
noncomputable def Kv:Fx:=⟨4,Tryz.f4,[(3000006,rA 0 51),(3000008,rA 0 92),(3000010,rA 0 12),(3000011,rA 0 123),(3000012,rA 0 2)],0⟩
noncomputable def oa:FX (List Int×Unit) (Bool) (λ_=>True) (lx [.sc (.sl .u8)]):=⟨λ(x0,_)=>
  .val (G5.f (x0,())) λc1=>
  .ite c1 (.ret true)<|
  .cal fx.c (x0,()) λc2=>
  .cal sm.c (c2.1,c2.2.1,c2.2.2,()) λc3=>
  .cal rH.c (c2.1,c2.2.1,c2.2.2,()) λc4=>
  .bnd (β:=Bool×Unit) (.ite (c3.2.2 != c4.2.2) (.ret (true,()))<|
   .cal pP.c (c3.1,c4.1,()) λc5=>
   .ite (!c5) (.ret (true,()))<|
   .cal p8.c (c3.2.1,c4.2.1,()) λc6=>
   .ret ((!c6),())) λ(u7a0,_)=>
  .ite u7a0 (.ret false)<|
  .bnd (β:=Bool×Unit) (.cal qb.c (c2.1,()) λc8=>
   .ite (!c8) (.ret (true,()))<|
   .cal pH.c (c2.2.1,()) λc9=>
   .ite (!c9) (.ret (true,()))<|
   .ite (c2.2.1.tuple.my != c2.1.port) (.ret (true,()))<|
   .ite (decide ((c2.1.halves.length:Int)<c2.1.limits.halves)) (.ret (true,()))<|
   .cal cZ.c (c2.1.halves,c2.2.1.tuple,()) λc10=>
   .ite (decide (0≤c10)) (.ret (true,()))<|
   .cal cu.c (c2.1.table,c2.2.1.tuple,()) λc11=>
   .ret ((decide (0≤c11)),())) λ(u12a0,_)=>
  .ite u12a0 (.ret true)<|
  .bnd (β:=Bool×Unit) (.ite (decide ((c2.1.table.conns.length:Int)<c2.1.limits.conns)) (.ret ((decide ((c2.1.table.waiting.length:Int)<c2.1.limits.waiting)),()))<|
   .ret (false,())) λ(u13a0,_)=>
  .bnd (β:=Bool×Unit) (.ite (!u13a0) (.ret (true,()))<|
   .ite (decide (1<(c2.2.2.length:Int))) (.ret (true,()))<|
   .ret ((c2.1.keys.epoch==4294967295),())) λ(u14a0,_)=>
  .ite u14a0 (.bnd (β:=Bool×Unit) (.ite (c3.2.2==0) (.cal pP.c (c3.1,c2.1,()) λc15=>
     .ite c15 (.ret (true,()))<|
     .ite ((c2.2.2.length:Int)==0) (.ite (c3.2.2==2) (.ite u13a0 (.ret (true,()))<|
       .ite (c2.1.keys.epoch==4294967295) (.ret ((c3.2.2==2),()))<|
       .ret (false,()))<|
      .ite (c2.1.keys.epoch==4294967295) (.ret ((c3.2.2==2),()))<|
      .ret (false,()))<|
     .ite (c2.1.keys.epoch==4294967295) (.ret ((c3.2.2==2),()))<|
     .ret (false,()))<|
    .ite ((c2.2.2.length:Int)==0) (.ite (c3.2.2==2) (.ite u13a0 (.ret (true,()))<|
      .ite (c2.1.keys.epoch==4294967295) (.ret ((c3.2.2==2),()))<|
      .ret (false,()))<|
     .ite (c2.1.keys.epoch==4294967295) (.ret ((c3.2.2==2),()))<|
     .ret (false,()))<|
    .ite (c2.1.keys.epoch==4294967295) (.ret ((c3.2.2==2),()))<|
    .ret (false,())) λ(u16a0,_)=>
   .ret u16a0)<|
  .ite (c3.2.2==2) (.cal fD.c (c2.2.1.opts,()) λc17=>
   .ite ((c3.2.1.opts.mss==c17.mss)&&((c3.2.1.opts.scale==c17.scale)&&((c3.2.1.opts.sack==c17.sack)&&((c3.2.1.opts.stamp==c17.stamp)&&((c3.2.1.opts.val==c17.val)&&((c3.2.1.opts.echo==c17.echo)&&true)))))) (.cal bB.c (c3.1,()) λc18=>
    .ite c18 (.cal mt.c (c3.1.halves,c2.1.halves,()) λc19=>
     .ite c19 (.ret (c3.2.1.state==1))<|
     .ret false)<|
    .ret false)<|
   .ret false)<|
  .ret false,
 λ(x0,_) hp hf=>by
  simp only[lx,Pk.fact,xS,sr,Fl.fact,Ty.fl,Ty.toH]at hf
  refine Tr.V λ_ _=>Tr.I (λ_=>Tr.R trivial) λ_=>Tr.C ?_ λc2 _ _=>Tr.C ?_ λ_ _ _=>Tr.C ?_ λ_ _ _=>Tr.B (Q':=λ_=>True) (Tr.I (λ_=>Tr.R trivial) λ_=>Tr.C ?_ λ_ _ _=>Tr.I (λ_=>Tr.R trivial) λ_=>Tr.C ?_ λ_ _ _=>Tr.R trivial) (λ(u7a0,_) _ _=>Tr.I (λ_=>Tr.R trivial) λ_=>Tr.B (Q':=λw=>(w.1=false→c2.1.table.conns.length≤16)) (Tr.C ?_ λ_ _ _=>Tr.I (λ_=>Tr.R ?_) λ_=>Tr.C trivial λ_ _ _=>Tr.I (λ_=>Tr.R ?_) λ_=>Tr.I (λ_=>Tr.R ?_) λ_=>Tr.I (λ_=>Tr.R ?_) λ_=>Tr.C ?_ λ_ _ _=>Tr.I (λ_=>Tr.R ?_) λ_=>Tr.C ?_ λ_ _ _=>Tr.R ?_) (λ(u12a0,_) _ _=>Tr.I (λ_=>Tr.R trivial) λ_=>Tr.B (Q':=λ_=>True) (Tr.F (by kernel_rfl) trivial) (λ(u13a0,_) _ _=>Tr.B (Q':=λ_=>True) (Tr.F (by kernel_rfl) trivial) (λ(u14a0,_) _ _=>Tr.I (λ_=>Tr.B (Q':=λ_=>True) (Tr.I (λ_=>Tr.C ?_ λ_ _ _=>Tr.F (by kernel_rfl) trivial) λ_=>Tr.F (by kernel_rfl) trivial) (λ(u16a0,_) _ _=>Tr.R trivial)) λ_=>Tr.I (λ_=>Tr.C trivial λ_ _ _=>Tr.I (λ_=>Tr.C ?_ λ_ _ _=>Tr.I (λ_=>Tr.C ?_ λ_ _ _=>Tr.F (by kernel_rfl) trivial) λ_=>Tr.R trivial) λ_=>Tr.R trivial) λ_=>Tr.R trivial))))
  all_goals ((try simp only[Tr.nice,bu]at*)<;>grind)⟩
noncomputable def Km:=Xy st Kv JB [] (ks:=[.sc (.sl .u8)]) oa (λv=>[(false,[.c (.bool v)])]) Tryz.func4 trivial
theorem dS (n b:Int):aL.f (n,b,())=ai.f (n,b,()):=by
 simp only[PX,aL,ai,cB,av]
 cases h:(decide (1≤b)&&decide (b≤62))with
 |false=>simp only[cond_false]
 |true=>
  have h1:1≤b∧b≤62:=by simpa using h
  rw[OA (by omega) (by omega)]
theorem pm (x:Tupl):lD.f (x,())=aD.f (x,()):=by
 simp only[PX,lD,aD,dS]
theorem ll (x:Opti):gZ.f (x,())=aq.f (x,()):=by
 simp only[PX,gZ,aq,dS,cB,av]
theorem TD (x:Int):A9.f (x,())=fu.f (x,()):=by
 simp only[PX,A9,fu,cB,av]
theorem Z0:fu.f (0,())=64∧fu.f (1,())=256∧fu.f (2,())=536∧fu.f (3,())=1024∧fu.f (4,())=1300∧fu.f (5,())=1400∧fu.f (6,())=1440∧fu.f (7,())=1460:=by
 simp[PX,fu,av]
theorem RU (x:Int):sU.f (x,())=iq.f (x,()):=by
 obtain⟨h0,h1,h2,h3,h4,h5,h6,h7⟩:=Z0
 simp only[PX,sU,iq,eV,bZ,show Int.toNat (8-0)=8 from rfl,show Int.toNat (7-0)=7 from rfl,a9,t8,kD,TD]
 simp only[show(0:Int)+1=1 from rfl,show(1:Int)+1=2 from rfl,show(2:Int)+1=3 from rfl,show(3:Int)+1=4 from rfl,show(4:Int)+1=5 from rfl,show(5:Int)+1=6 from rfl,show(6:Int)+1=7 from rfl,
  show(7:Int)+ -1=6 from rfl,show(6:Int)+ -1=5 from rfl,show(5:Int)+ -1=4 from rfl,show(4:Int)+ -1=3 from rfl,show(3:Int)+ -1=2 from rfl,show(2:Int)+ -1=1 from rfl,h0,h1,h2,h3,h4,h5,h6,h7]
 grind [Stp.elim]
theorem nu (x:Int):bF.f (x,())=x%4294967296:=by
 simp only[PX,bF]
 rcases Int.lt_or_le x 0 with h|h
 ·rw[(gn 4294967296).2 h,cm]
  cases hd:decide (-(-x%4294967296)<0)with
  |true=>simp only[decide_eq_true_eq]at hd;simp only[cond_true];omega
  |false=>simp only[decide_eq_false_iff_not]at hd;simp only[cond_false];omega
 ·rw[(gn 4294967296).1 h,cm]
  cases hd:decide (x%4294967296<0)with
  |true=>simp only[decide_eq_true_eq]at hd;omega
  |false=>rfl
theorem bD (a b:Int):bM.f (a,b,())=(a+b)%4294967296:=by
 simp only[PX,bM]
 rw[pF,cm];omega
theorem i1 (a b:Int):bg.f (a,b,())=bM.f (a,b,()):=by
 rw[bD]
 simp only[PX,bg,nu,cm];omega
theorem Ub (x y:Mac):ly.f (x,y,())=wE.f (x,y,()):=by
 simp only[PX,ly,wE,pM,eA,cE,p6,oo]
 have e1:(x.k != y.k)= !(x.k==y.k):=rfl
 have e2:(x.l != y.l)= !(x.l==y.l):=rfl
 rw[e1,e2]
 cases(x.use==y.use)<;>cases(x.k==y.k)<;>cases(x.l==y.l)<;>cases((x.rows.length:Int) != (y.rows.length:Int))<;>rfl
theorem Uv (n b:Int):kg.f (n,b,())=gh.f (n,b,()):=by
 simp only[PX,kg,gh,dS,cB,av,fZ,ex]
 cases h1:(decide (1≤b)&&decide (b≤6))with
 |false=>rfl
 |true=>
  cases h2:ai.f (n,(IntKind.wrap .i64 (8*b)),())with
  |false=>rfl
  |true=>
   have hb:0≤n∧n≤9223372036854775807:=by
    revert h2
    simp only[PX,ai,av]
    cases(decide (1≤IntKind.wrap .i64 (8*b))&&decide (IntKind.wrap .i64 (8*b)≤62))with
    |false=>simp
    |true=>
     simp only[cond_true,Bool.and_eq_true,decide_eq_true_eq]
     generalize(IntKind.wrap .i64 (1*2 ^ (min (IntKind.wrap .i64 (8*b)).toNat 64)))=z
     rw[cm]
     omega
   have e:∀k i r,a9 (λj a=>(mI j a).nice) (-1) k i (n,r)=a9 (λj a=>(jF j a).nice) (-1) k i (n,r):=by
    intro k i r
    refine C4 (P:=λa=>0≤a.1∧a.1≤9223372036854775807) (λi a ha=> ?_) (λi a a' ha he=> ?_) k i (n,r) hb
    ·simp only[PX,mI,jF]
     rw[(sD 256).1 ha.1,(gn 256).1 ha.1,aA (by omega) (by omega),Int.fdiv_eq_ediv_of_nonneg a.1 (by omega),sA,sA,Int.emod_emod]
    ·simp only[PX,mI]at he
     cases he
     show 0≤IntKind.wrap .i64 (a.1.tdiv 256)∧_
     rw[(sD 256).1 ha.1,aA (by omega) (by omega)]
     omega
   simp only[e]
theorem J0 (x:Int):nQ.f (x,())=cK.f (x,()):=by simp only[PX,nQ,cK,dS]
theorem RY (x:Tupl)(a b c:Int):tV.f (x,a,b,c,())=f8.f (x,a,b,c,()):=by simp only[PX,tV,f8,Uv,pm,dS,cB,av]
theorem VZ (x:Mac)(r:List MacRow)(j:Nat)(hj:j<r.length)(hr:x.rows=r):
  Stp.elim (γ:=Stp Unit Unit) (λ_=> .next ()) (λ_=> .out ()) (a9 (λi a=>(pV (j:Int) x i a).nice) 1 (Int.toNat ((j:Int)-0)) 0 ())=
  bif cl.f (((r.take j).drop 0),(r.getD j (Ty.zero .macRow)),())then .out ()else .next ():=by
 subst hr
 let p:MacRow→Bool:=λy=>y.input==(x.rows.getD j (Ty.zero .macRow)).input
 simp only[PX,cl,fa,aR]
 rw[List.drop_zero]
 have hl:(x.rows.take j).length=j:=by rw[List.length_take];omega
 rw[d7 (x.rows.take j) _ (by rw[hl];simp) (F:=λq y a=>bif p y then .out ()else .next ()) (by
  intro q y a h
  have hq:q<j:=by
   have:=(List.getElem?_eq_some_iff.1 h).1;omega
  have h2:x.rows[q]? =some y:=by rw[List.getElem?_take]at h;simpa [hq]using h
  simp only[PX,pV,ah,getD_some h2,p])]
 rw[d7 (x.rows.take j) _ (by simp) (F:=λq y a=>bif p y then .out (q:Int)else .next ()) (by
  intro q y a h
  simp only[PX,gf,BI,ah,getD_some h,p])]
 rw[le (w:=λ_ _=>()),le (w:=λj _=>(j:Int))]
 cases h:(x.rows.take j).findIdx? p with
 |none=>simp[PX,Stp.elim]
 |some i=>
  have:=(List.findIdx?_eq_some_iff_getElem.1 h).1
  simp only[List.getElem?_eq_getElem this,Stp.elim]
  simp[PX]
theorem Tv (x:Mac):we.f (x,())=dF.f (x,()):=by
 simp only[PX,we,dF,iE,iK]
 have e:a9 (λj a=>(sY x j a).nice) 1 (Int.toNat ((x.rows.length:Int)-0)) 0 ()=a9 (λj a=>(ou x.rows x j a).nice) 1 (Int.toNat ((x.rows.length:Int)-0)) 0 ():=by
  rw[bf]
  refine OE x.rows.length 0 () (λj a hj=> ?_)
  have:=VZ x x.rows j (by omega) rfl
  simp only[PX,sY,ou,gb,ah,cB,av]at this⊢
  rw[this]
 rw[e]
 have e1:(x.k != 0)= !(x.k==0):=rfl
 have e2:(x.l != 0)= !(x.l==0):=rfl
 have e3:decide (64<(x.rows.length:Int))= !decide ((x.rows.length:Int)≤64):=by
  rcases Int.lt_or_le 64 (x.rows.length:Int)with h|h
  ·simp[h,show¬((x.rows.length:Int)≤64) by omega]
  ·simp[h,show¬(64<(x.rows.length:Int)) by omega]
 rw[e1,e2,e3]
 generalize a9 (λj a=>(ou x.rows x j a).nice) 1 (Int.toNat ((x.rows.length:Int)-0)) 0 ()=z
 cases x.use<;>cases z<;>cases(x.k==0)<;>cases(x.l==0)<;>cases decide ((x.rows.length:Int)≤64)<;>simp[PX,Stp.elim]
theorem He (k:Keys):sy.f (k,())=bL.f (k,()):=by
 simp only[PX,sy,bL,dS,Tv,Ub,be,av]
 cases ht:k.two<;>simp only[PX,cond_true,cond_false,ht]<;>cases dF.f (k.now,())<;>cases dF.f (k.before,())<;>grind
theorem Hu (x n:Int)(h:bits .and .u64 (IntKind.wrap .u64 n) 63=n):cO.f (x,n,())=j1.f (x,n,()):=by
 simp only[PX,cO,j1,h]
theorem FN (x:Sipr):ik.f (x,())=jJ.f (x,()):=by
 simp only[PX,ik,jJ,Hu _ 13 (by decide+kernel),Hu _ 16 (by decide+kernel),Hu _ 17 (by decide+kernel),Hu _ 21 (by decide+kernel),Hu _ 32 (by decide+kernel)]
theorem LB (x:Sipr)(m:Int):rZ.f (x,m,())=rR.f (x,m,()):=by
 simp only[PX,rZ,rR,FN]
theorem S0 (k l:Int):tL.f (k,l,())=qp.f (k,l,()):=by simp only[PX,tL,qp]
theorem Wu (x:Sipr):Ag.f (x,())=rG.f (x,()):=by
 simp only[PX,Ag,rG,fA,FN]
 have e:(λ(j:Int) a=>(ro j a).nice)=λ_ a=>Stp.next (jJ.f (a,())):=rfl
 rw[e]
 generalize FT.f jJ=R
 rfl
theorem pk (n:Int)(h0:0≤n)(h1:n<2 ^ 64):IntKind.u64.wrap n=n:=by rw[wb];omega
theorem or8 (a b:Int)(ha:0≤a)(ha1:a<72057594037927936)(hb:0≤b)(hb1:b<256):bits .or .u64 (IntKind.wrap .u64 (a*256)) (IntKind.wrap .u64 b)=a*256+b:=by
 rw[pk _ (by omega) (by omega),pk _ (by omega) (by omega)]
 exact bits_join .u64 64 (by decide) pk 8 _ _ (by omega) (by omega) (by omega) (by omega) (by omega) (by omega)
def Ir (g:Nat→Int):Nat→Int→Int
 |0,a=>a
 |k+1,a=>Ir g k (a*256+g k)
theorem CA {g h:Nat→Int}:∀(k:Nat) (a:Int),(∀j,j<k→g j=h j)→Ir g k a=Ir h k a
 |0,_,_=>rfl
 |k+1,a,e=>by simp only[Ir,e k (Nat.lt_succ_self _)];exact CA k _ λj hj=>e j (by omega)
theorem FA {g:Nat→Int}:∀(k:Nat) (a:Int),Ir g k a=a*256 ^ k+Ir g k 0
 |0,a=>by simp[Ir]
 |k+1,a=>by
  simp only[Ir]
  rw[FA k (a*256+g k),FA k (0*256+g k),Int.pow_succ,Int.add_mul,Int.zero_mul,Int.zero_add,Int.mul_assoc,Int.mul_comm 256 (256 ^ k),Int.add_assoc]
theorem W5 (k:Nat):(1:Int)≤256 ^ k:=by
 have:=Int.pow_pos (n:=256) (m:=k) (by decide)
 omega
theorem WZ {g:Nat→Int}(hg:∀k,0≤g k∧g k≤255):∀(k:Nat),0≤Ir g k 0∧Ir g k 0<256 ^ k
 |0=>by simp[Ir]
 |k+1=>by
  have h:=WZ hg k
  simp only[Ir]
  rw[FA,Int.zero_mul,Int.zero_add,Int.pow_succ]
  have h1:=hg k
  have h2:=W5 k
  have h3:0≤g k*256 ^ k:=Int.mul_nonneg h1.1 (by omega)
  have h4:g k*256 ^ k≤255*256 ^ k:=Int.mul_le_mul_of_nonneg_right h1.2 (by omega)
  omega
theorem H7 {f:Int→Int→Stp Int Empty}{g:Nat→Int}(hg:∀k,0≤g k∧g k≤255)(hf:∀(k:Nat) a,f (k:Int) a= .next (bits .or .u64 (IntKind.wrap .u64 (a*256)) (IntKind.wrap .u64 (g k)))):
  ∀(k:Nat) (a:Int),0≤a→(a+1)*256 ^ k≤18446744073709551616→a9 f (-1) k ((k:Int)-1) a= .next (Ir g k a)
 |0,a,_,_=>rfl
 |k+1,a,h0,h1=>by
  have hp:=W5 k
  rw[Int.pow_succ,Int.mul_comm (256 ^ k) 256,←Int.mul_assoc]at h1
  have h2:(a+1)*256*1≤(a+1)*256*256 ^ k:=Int.mul_le_mul_of_nonneg_left hp (by omega)
  have h3:=hg k
  simp only[a9,Ir]
  rw[show((k+1:Nat):Int)-1=(k:Int) by omega,hf,or8 a (g k) h0 (by omega) h3.1 (by omega)]
  simp only[Stp.elim]
  rw[show(k:Int)+ -1=(k:Int)-1 by omega]
  refine H7 hg hf k _ (by omega) ?_
  have h4:(a*256+g k+1)*256 ^ k≤(a+1)*256*256 ^ k:=Int.mul_le_mul_of_nonneg_right (by omega) (by omega)
  omega
theorem wU (s:ax)(k:Nat):0≤ci s k∧ci s k≤255:=HD s k
theorem LU (s:ax)(h:s.length≤8):qs.f (s,())=Ir (ci s) s.length 0:=by
 simp only[PX,qs,gz]
 rw[aA (by omega) (by omega)]
 rw[show Int.toNat ((s.length:Int)-1-0+1)=s.length by omega]
 rw[H7 (g:=ci s) (wU s) (λk a=>rfl) s.length 0 (by omega) ?_]
 ·rfl
 ·have:∀k:Nat,k≤8→(0+1:Int)*256 ^ k≤18446744073709551616:=by decide
  exact this _ h
theorem Lz (l:List Int)(h:∀k,0≤l.getD k 0∧l.getD k 0≤255):pY.f (l,())=Ir (λk=>l.getD k 0) 8 0:=by
 simp only[PX,pY,gA]
 rw[show Int.toNat (7-0+1)=8 from rfl,show(7:Int)=((8:Nat):Int)-1 from rfl]
 rw[H7 (g:=λk=>l.getD k 0) h (λk a=>rfl) 8 0 (by omega) (by decide)]
 rfl
theorem HB {A B W W':Type}[Inhabited W][Inhabited W']{f:A→Stp A W}{g:B→Stp B W'}{R:A→B→Prop}{Q:W→W'→Prop}{ma:A→Nat}{mb:B→Nat}
  (h:∀a b,R a b→(∃a' b',f a= .next a'∧g b= .next b'∧R a' b'∧ma a'<ma a∧mb b'<mb b)∨(∃w w',f a= .out w∧g b= .out w'∧Q w w')):
  ∀(m m':Nat) (a:A) (b:B),ma a<m→mb b<m'→R a b→Q (cF f m a) (cF g m' b)
 |0,_,_,_,h1,_,_=>absurd h1 (Nat.not_lt_zero _)
 |_+1,0,_,_,_,h2,_=>absurd h2 (Nat.not_lt_zero _)
 |m+1,m'+1,a,b,h1,h2,hr=>by
  rcases h a b hr with⟨a',b',e1,e2,hr',l1,l2⟩|⟨w,w',e1,e2,hq⟩
  ·simp only[cF,e1,e2,Stp.elim]
   exact HB h m m' a' b' (by omega) (by omega) hr'
  ·simp only[cF,e1,e2,Stp.elim]
   exact hq
theorem WS {g:Nat→Int}(k:Nat)(a:Int):Ir g (k+1) a=Ir g k (a*256+g k):=rfl
theorem Wt {α:Type}{xs:List α}{j:Nat}(h:j<xs.length)(v z:α):(xs.set j v).getD j z=v:=by
 simp[List.getD,List.getElem?_set,h]
theorem uN (s:ax)(k:Nat):(mV s).getD k 0=ci s k:=by
 simp only[mV,ci,List.getD,List.getElem?_map]
 cases s[k]? <;>rfl
theorem DR (s:ax)(n k:Nat):ci (s.drop n) k=ci s (n+k):=by
 simp only[ci,List.getD,List.getElem?_drop]
theorem Oj (s:ax)(n k:Nat)(h:k<n):ci (s.take n) k=ci s k:=by
 simp only[ci,List.getD,List.getElem?_take,if_pos h]
theorem C9 (s:ax)(k:Nat)(h:s.length≤k):ci s k=0:=by
 simp[ci,List.getD,h]
theorem TB {g:Nat→Int}(r:Nat):∀(m:Nat),(∀j,r≤j→j<r+m→g j=0)→Ir g (r+m) 0=Ir g r 0
 |0,_=>rfl
 |m+1,h=>by
  rw[show r+(m+1)=(r+m)+1 from rfl]
  simp only[Ir]
  rw[h (r+m) (by omega) (by omega)]
  exact TB r m λj h1 h2=>h j h1 (by omega)
theorem Nw (k:IntKind)(a b:Int):bits .or k a b=bits .or k b a:=by
 simp only[bits,BitVec.or_comm]
def ZF (x:ax)(a:Int×Sipr)(b:List Int×Sipr):Prop:=0≤a.1∧a.1≤x.length∧b.1=mV (x.drop a.1.toNat)∧a.2=b.2
theorem P7 (s:ax)(n:Nat):(mV s).drop n=mV (s.drop n):=by simp[mV]
theorem U6 (x:ax)(hx:x.length≤4294967296)(z:Sipr):ZF x (cF (λa=>(jI x (x.length:Int) a).nice) (Int.toNat ((x.length:Int)-0)+1) (0,z)) (cF (λa=>(md a).nice) ((mV x).length+1) (mV x,z))∧
  (x.length:Int)<(cF (λa=>(jI x (x.length:Int) a).nice) (Int.toNat ((x.length:Int)-0)+1) (0,z)).1+8:=by
  refine HB (R:=ZF x) (Q:=λw w'=>ZF x w w'∧(x.length:Int)<w.1+8) (ma:=λa=>Int.toNat ((x.length:Int)-a.1)) (mb:=λb=>b.1.length) ?_ _ _ _ _ ?_ ?_ ?_
  ·intro a b hr
   obtain⟨h1,h2,h3,h4⟩:=hr
   have hb:(b.1.length:Int)=(x.length:Int)-a.1:=by rw[h3,nE,List.length_drop];omega
   simp only[PX,jI,md]
   rw[aA (by omega) (by omega)]
   cases hd:decide (a.1+8≤(x.length:Int))with
   |true=>
    simp only[decide_eq_true_eq]at hd
    rw[show decide (8≤(b.1.length:Int))=true by simp only[decide_eq_true_eq];omega]
    refine .inl ⟨_,_,rfl,rfl,⟨?_, ?_, ?_, ?_⟩, ?_, ?_⟩
    ·simp only[];omega
    ·simp only[];omega
    ·simp only[]
     rw[ah,List.take_length,h3,P7,List.drop_drop,show(a.1+8).toNat=a.1.toNat+8 by omega]
    ·have e:qs.f ((x.take (a.1+8).toNat).drop a.1.toNat,())=pY.f (b.1,()):=by
      have hl:((x.take (a.1+8).toNat).drop a.1.toNat).length=8:=by rw[List.length_drop,List.length_take];omega
      rw[LU _ (by omega),hl,Lz _ (λk=>by rw[h3,uN];exact wU _ _)]
      refine CA 8 0 λj hj=> ?_
      rw[h3,uN,DR,DR,Oj _ _ _ (by omega)]
     simp only[e,h4,LB]
    ·simp only[];omega
    ·simp only[ah,List.take_length,List.length_drop];omega
   |false=>
    simp only[decide_eq_false_iff_not]at hd
    rw[show decide (8≤(b.1.length:Int))=false by simp only[decide_eq_false_iff_not];omega]
    exact .inr ⟨_,_,rfl,rfl,⟨h1,h2,h3,h4⟩,by show(x.length:Int)<a.1+8;omega⟩
  ·exact Nat.lt_succ_self _
  ·exact Nat.lt_succ_self _
  ·exact⟨by simp,by simp,by simp,rfl⟩
theorem Xk (x:ax)(hx:x.length≤4294967296)(p:Int)(q:List Int)(h1:0≤p)(h2:p≤x.length)(h3:q=mV (x.drop p.toNat))(h5:(x.length:Int)<p+8):
  bits .or .u64 (qs.f (x.drop p.toNat,())) (IntKind.wrap .u64 ((IntKind.wrap .u64 ((x.length:Int).tmod 256))*72057594037927936))=pY.f ((q++(List.replicate 8 0).drop q.length).set 7 (IntKind.wrap .u8 (x.length:Int)),()):=by
 have hl:(x.drop p.toNat).length=x.length-p.toNat:=by simp
 have hq:q.length=x.length-p.toNat:=by rw[h3,nE,hl]
 generalize hy:x.drop p.toNat=y at h3 hl
 have hy8:y.length≤7:=by omega
 rw[LU y (by omega)]
 have hb7:IntKind.u8.wrap (x.length:Int)=(x.length:Int)%256:=sA _
 have hm:IntKind.u64.wrap ((x.length:Int).tmod 256)=(x.length:Int)%256:=by
  rw[(gn 256).1 (by omega),pk _ (by omega) (by omega)]
 rw[hb7,hm]
 have hg:∀k,((q++(List.replicate 8 (0:Int)).drop q.length).set 7 ((x.length:Int)%256)).getD k 0=if k=7 then(x.length:Int)%256 else ci y k:=by
  intro k
  by_cases e:k=7
  ·subst e
   rw[if_pos rfl]
   exact Wt (by simp;omega) _ _
  ·rw[if_neg e,List.getD,List.getElem?_set_ne (by omega)]
   by_cases hk:k<q.length
   ·rw[List.getElem?_append_left hk,h3,←List.getD_eq_getElem?_getD,uN]
   ·rw[List.getElem?_append_right (by omega),List.getElem?_drop,List.getElem?_replicate,C9 y k (by omega)]
    split<;>rfl
 rw[Lz _ (λk=>by
  rw[hg]
  split
  ·omega
  ·exact wU _ _)]
 have hbd:=WZ (g:=ci y) (wU y) y.length
 have hp7:(256:Int) ^ y.length≤72057594037927936:=by
  have:∀k:Nat,k≤7→(256:Int) ^ k≤72057594037927936:=by decide
  exact this _ hy8
 have e1:Ir (λk=>((q++(List.replicate 8 (0:Int)).drop q.length).set 7 ((x.length:Int)%256)).getD k 0) 8 0=((x.length:Int)%256)*72057594037927936+Ir (ci y) y.length 0:=by
  refine(WS 7 0).trans ?_
  rw[hg 7,if_pos rfl,FA,Int.zero_mul,Int.zero_add,show(256:Int) ^ 7=72057594037927936 from rfl]
  congr 1
  rw[CA 7 0 (h:=ci y) λj hj=>by rw[hg,if_neg (by omega)]]
  have:=TB (g:=ci y) y.length (7-y.length) λj h1 _=>C9 y j h1
  rw[show y.length+(7-y.length)=7 by omega]at this
  exact this
 rw[e1,Nw,pk ((x.length:Int)%256*72057594037927936) (by omega) (by omega)]
 exact bits_join .u64 64 (by decide) pk 56 _ _ (by omega) (by omega) (by omega) (by omega) (by omega) (by omega)
theorem Vz (k l:Int)(x:ax)(hx:x.length≤4294967296):wF.f (k,l,x,())=m6.f (k,l,x,()):=by
 simp only[PX,wF,m6,gd,fT,S0,List.length_replicate]
 generalize qp.f (k,l,())=z
 have key:=U6 x hx z
 generalize cF (λa=>(jI x (x.length:Int) a).nice) (Int.toNat ((x.length:Int)-0)+1) (0,z)=p at key⊢
 generalize cF (λa=>(md a).nice) ((mV x).length+1) (mV x,z)=q at key⊢
 obtain⟨⟨h1,h2,h3,h4⟩,h5⟩:=key
 have hq:q.1.length=x.length-p.1.toNat:=by rw[h3,nE,List.length_drop]
 have ht:q.1.take 8=q.1:=List.take_of_length_le (by omega)
 obtain⟨p,pz⟩:=p
 obtain⟨q,qz⟩:=q
 simp only[PX,ht,Wu,LB]at*
 rw[h4,show((x.take (x.length:Int).toNat).drop p.toNat)=x.drop p.toNat by rw[ah,List.take_length]]
 rw[Xk x hx p q h1 h2 h3 h5]
theorem XM (m:Mac)(x:ax)(hx:x.length≤4294967296):Fr.f (m,x,())=oA.f (m,x,()):=by
 simp only[PX,Fr,oA,iy,gm,Vz _ _ _ hx]
 rw[show a9 (λj a=>(tZ x m j a).nice) 1 (Int.toNat ((m.rows.length:Int)-0)) 0 ()=a9 (λj a=>(jU x m.rows j a).nice) 1 (Int.toNat ((m.rows.length:Int)-0)) 0 () from SC (λi a=>by
  simp only[PX,tZ,jU]
  generalize(m.rows.getD i.toNat (Ty.zero .macRow))=r
  cases(r.input==x)with
  |false=>rfl
  |true=>
   simp only[cond_true]
   have h1:=gn (a:=r.value) 16777216
   rcases Int.lt_or_le r.value 0 with h|h
   ·have e:=h1.2 h
    generalize r.value.tmod 16777216=t at e
    rw[aA (by omega) (by omega)]
    cases hd:decide (t<0)with
    |true=>simp only[decide_eq_true_eq]at hd;simp only[cond_true];rw[(gn 16777216).1 (by omega),Int.emod_eq_of_lt (by omega) (by omega)]
    |false=>simp only[decide_eq_false_iff_not]at hd;simp only[cond_false];rw[(gn 16777216).1 (by omega),show t=0 by omega];rfl
   ·have e:=h1.1 h
    generalize r.value.tmod 16777216=t at e
    rw[aA (by omega) (by omega)]
    cases hd:decide (t<0)with
    |true=>simp only[decide_eq_true_eq]at hd;omega
    |false=>simp only[cond_false];rw[(gn 16777216).1 (by omega)];congr 1;omega) _ _ _]
theorem MQ (t:Tupl)(a b c:Int):(f8.f (t,a,b,c,())).length≤40:=(f8.c.h (t,a,b,c,()) trivial).2
theorem Iz (m:Mac)(t:Tupl)(a b c:Int):pR.f (m,t,a,b,c,())=aG.f (m,t,a,b,c,()):=by
 simp only[PX,pR,aG,RY]
 rw[XM _ _ (by have:=MQ t a b c;omega)]
theorem wj (m:Mac):jh.f (m,())=m:=by simp only[PX,jh,List.nil_append]
theorem iz (m:Mac):iO.f (m,())=m:=by simp only[PX,iO,mN]
theorem RK (k:Keys)(e:Int):tD.f (k,e,())=ig.f (k,e,()):=by
 simp only[PX,tD,ig,wj,iz]
theorem XB (f:Int→Unit→Stp Unit (Int⊕Unit))(g:Int→Unit→Stp Unit Int)(E:Int)(h0:0≤E)(h1:E≤4294967295)
  (hfg:∀e,E-1≤e→f e ()=Stp.elim (λ_=> .next ()) (λw=> .out (.inl w)) (g e ()))(hend:∀e,e<E-1→f e ()= .out (.inr ()))(i:Int):
  Stp.elim (λ_=>((0:Int),(0:Int),false)) (Sum.elim (λp=>(p,i,true)) (λ_=>(0,0,false))) (a9 f (-1) (Int.toNat (E-0+1)) E ())=
  Stp.elim (λ_=>(0,0,false)) (λp=>(p,i,true)) (a9 g (-1) (Int.toNat (E-(if 0<(IntKind.wrap .i64 (E-1))then(IntKind.wrap .i64 (E-1))else 0)+1)) E ()):=by
 rw[aA (by omega) (by omega)]
 rcases(show E=0∨E=1∨2≤E by omega)with rfl|rfl|h
 ·rw[if_neg (by omega),show Int.toNat (0-0+1)=1 from rfl]
  simp only[a9,hfg 0 (by omega)]
  cases g 0 ()<;>rfl
 ·rw[if_neg (by omega),show Int.toNat (1-0+1)=2 from rfl]
  simp only[a9,hfg 1 (by omega),show(1:Int)+ -1=0 from rfl,hfg 0 (by omega)]
  cases g 1 ()with
  |out w=>rfl
  |next a=>simp only[Stp.elim];cases g 0 ()<;>rfl
 ·rw[if_pos (by omega),show Int.toNat (E-(E-1)+1)=2 by omega]
  obtain⟨m,hm⟩:∃m:Nat,Int.toNat (E-0+1)=m+3:=⟨Int.toNat (E-2),by omega⟩
  rw[hm]
  simp only[a9,hfg E (by omega),hfg (E+ -1) (by omega),hend (E+ -1+ -1) (by omega)]
  cases g E ()with
  |out w=>rfl
  |next a=>simp only[Stp.elim];cases g (E+ -1) ()<;>rfl
theorem EV (x:Int):decide ((cK.f (x,())).2.1<0)= !ai.f (x,32,()):=by
 simp only[PX,cK,be]
 cases hd:(decide (0≤x)&&decide (x≤4294967295))with
 |false=>rfl
 |true=>
  simp only[Bool.and_eq_true,decide_eq_true_eq]at hd
  simp only[Bool.not_true,cond_false]
  rw[(sD 16777216).1 hd.1,aA (by omega) (by omega),(gn 8).1 (by omega)]
  simp only[decide_eq_false_iff_not]
  omega
theorem fp (k:Keys)(h:bL.f (k,())=true):0≤k.epoch∧k.epoch≤4294967295:=by
 simp only[PX,bL,av]at h
 revert h
 cases k.two<;>simp only[PX,cond_true,cond_false]<;>grind
theorem JA (k:Keys)(t:Tupl)(a b:Int):kn.f (k,t,a,b,())=ba.f (k,t,a,b,()):=by
 simp only[PX,kn,ba,cY,bX,He,J0,EV]
 cases hk:bL.f (k,())with
 |false=>rfl
 |true=>
  simp only[Bool.not_true,cond_false]
  cases ai.f (b,32,())with
  |false=>rfl
  |true=>
   simp only[Bool.not_true,cond_false]
   have he:=fp k hk
   refine XB _ _ k.epoch he.1 he.2 (λe h=> ?_) (λe h=> ?_) _
   ·simp only[PX,kX,cy]
    rw[aA (by omega) (by omega)]
    simp only[RK,Iz,decide_eq_true h,cond_true]
    cases(ig.f (k,e,())).2 with
    |false=>rfl
    |true=>
     simp only[cond_true]
     cases(aG.f ((ig.f (k,e,())).1,t,a,e,(cK.f (b,())).2.1,())==b)<;>rfl
   ·simp only[PX,kX]
    rw[aA (by omega) (by omega)]
    simp only[decide_eq_false (show¬(k.epoch-1≤e) by omega),cond_false]
theorem uX (x:Segm):lu.f (x,())=ao.f (x,()):=by simp only[PX,lu,ao,dS,ll]
theorem WM (x:Int):fq.f (0,x,())=(if 0<x then x else 0):=by
 rw[pZ];grind
theorem SB (d:Door)(t:Tupl)(g:Segm):t5.f (d,t,g,())=li.f (d,t,g,()):=by
 simp only[PX,t5,li,ng]
 cases(g.opts.mss==0)<;>simp only[PX,cond_true,cond_false]<;>simp only[RU,Iz,WM]
theorem VI (a b:Int)(c:Bool):wR.f (a,b,c,())=ja.f (a,b,c,()):=by
 simp only[PX,wR,ja,av,pF]
 cases c<;>simp only[PX,cond_true,cond_false]<;>simp only[cB,nu]<;>cases(decide (0≤b)&&decide (b≤14))<;>simp only[cond_true,cond_false,Bool.not_true,Bool.not_false,cm]<;>omega
theorem EP (o:Opti)(c:Int):kN.f (o,c,())=bH.f (o,c,()):=by
 simp only[PX,kN,bH,cB,av]
 cases(decide (0≤o.scale)&&decide (o.scale≤14))<;>simp only[PX,cond_true,cond_false]<;>simp only[VI]
theorem Ws (d:Door)(t:Tupl)(g:Segm):Ad.f (d,t,g,())=fj.f (d,t,g,()):=by
 simp only[PX,Ad,fj,SB,i1,EP]
theorem CQ {A W:Type}{f:Int→A→Stp A W}{st:Int}:∀(k:Nat) (i:Int) (a:A) (w:W),a9 f st k i a= .out w→∃(n:Nat) (b:A),n<k∧f (i+st*(n:Int)) b= .out w
 |0,_,_,_,h=>by cases h
 |k+1,i,a,w,h=>by
  simp only[a9]at h
  cases hf:f i a with
  |out w'=>rw[hf]at h;simp only[Stp.elim]at h;cases h;exact⟨0,a,by omega,by simpa using hf⟩
  |next a'=>
   rw[hf]at h
   obtain⟨n,b,h1,h2⟩:=CQ k (i+st) a' w h
   exact⟨n+1,b,by omega,by rw[show i+st*((n+1:Nat):Int)=i+st+st*(n:Int) by rw[Int.natCast_add,Int.mul_add];omega];exact h2⟩
theorem yy {A W:Type}{f:Int→A→Stp A W}{st:Int}{P:A→Prop}(hp:∀i a a',P a→f i a= .next a'→P a'):∀(k:Nat) (i:Int) (a a':A),P a→a9 f st k i a= .next a'→P a'
 |0,_,_,_,ha,h=>by cases h;exact ha
 |k+1,i,a,a',ha,h=>by
  simp only[a9]at h
  cases hf:f i a with
  |out w'=>rw[hf]at h;cases h
  |next a1=>rw[hf]at h;exact yy hp k _ a1 a' (hp i a a1 ha hf) h
theorem UK (x:Sipr):0≤rG.f (x,()):=by
 simp only[PX,rG,fA]
 cases a9 (λj a=>(ro j a).nice) 1 (Int.toNat (4-0)) 0 ({x with c:=(bits .xor .u64 x.c 255)}:Sipr)with
 |next a=>exact(z0 .xor .u64 _ _ (.inr (.inr (.inl rfl)))).1
 |out e=>exact Empty.elim e
theorem Sm (k l:Int)(x:ax):0≤m6.f (k,l,x,()):=by
 simp only[PX,m6]
 exact UK _
theorem aau (s:Int)(h:0≤s):0≤IntKind.wrap .i64 (s.tmod 16777216)∧IntKind.wrap .i64 (s.tmod 16777216)≤16777215:=by
 have h1:=FC (b:=16777216) h
 have h2:=wK (a:=s) (show(0:Int)<16777216 by omega)
 rw[aA (by omega) (by omega)];omega
theorem ZY (r:Int):0≤(IntKind.wrap .i64 (r.tmod 16777216+16777216)).tmod 16777216∧(IntKind.wrap .i64 (r.tmod 16777216+16777216)).tmod 16777216≤16777215:=by
 have h1: -16777216<r.tmod 16777216:=Int.lt_tmod_of_pos _ (by omega)
 have h2:=wK (a:=r) (show(0:Int)<16777216 by omega)
 rw[aA (by omega) (by omega)]
 have h3:=FC (a:=r.tmod 16777216+16777216) (b:=16777216) (by omega)
 have h4:=wK (a:=r.tmod 16777216+16777216) (show(0:Int)<16777216 by omega)
 omega
theorem UW (m:Mac)(x:ax)(k:Nat)(i:Int)(w:Int)(hf:a9 (λj a=>(jU x m.rows j a).nice) 1 k i ()= .out w):0≤w∧w≤16777215:=by
 obtain⟨n,b,_,h⟩:=CQ _ _ _ _ hf
 simp only[PX,jU]at h
 revert h
 generalize(m.rows.getD (i+1*(n:Int)).toNat (Ty.zero .macRow))=r
 cases(r.input==x)with
 |false=>simp only[cond_false];intro h;cases h
 |true=>simp only[cond_true];intro h;injection h with h;rw[←h];exact ZY r.value
theorem V3 (m:Mac)(x:ax):oA.f (m,x,())=bif !m.use then IntKind.wrap .i64 ((m6.f (m.k,m.l,x,())).tmod 16777216)else Stp.elim (λ_=>0) (λp=>p) (a9 (λj a=>(jU x m.rows j a).nice) 1 (Int.toNat ((m.rows.length:Int)-0)) 0 ()):=by
 simp only[PX,oA,gm]
theorem Z8 (u:Bool)(s:Int)(z:Stp Unit Int)(hs:0≤s)(hk:∀w,z= .out w→0≤w∧w≤16777215):
  0≤(bif !u then IntKind.wrap .i64 (s.tmod 16777216)else Stp.elim (λ_=>0) (λp=>p) z)∧(bif !u then IntKind.wrap .i64 (s.tmod 16777216)else Stp.elim (λ_=>0) (λp=>p) z)≤16777215:=by
 cases u with
 |false=>simp only[Bool.not_false,cond_true];exact aau s hs
 |true=>
  simp only[Bool.not_true,cond_false]
  cases z with
  |next a=>simp only[Stp.elim];omega
  |out w=>exact hk w rfl
theorem Lq (m:Mac)(x:ax):0≤oA.f (m,x,())∧oA.f (m,x,())≤16777215:=by
 rw[V3]
 exact Z8 m.use _ _ (Sm m.k m.l x) (UW m x (Int.toNat ((m.rows.length:Int)-0)) 0)
theorem Sa (n:Int)(h:ai.f (n,32,())=true):(gh.f (n,4,())).length=4:=by
 simp only[PX,gh,av,ex,show IntKind.wrap .i64 (8*4)=32 from rfl,h,show(decide ((1:Int)≤4)&&decide ((4:Int)≤6))=true from rfl,Bool.not_true,cond_false,show IntKind.wrap .i64 (4-1)=3 from rfl,show Int.toNat (3-0+1)=4 from rfl,show Int.toNat 4=4 from rfl]
 cases hf:a9 (λj a=>(jF j a).nice) (-1) 4 3 (n,List.replicate 4 0)with
 |out e=>exact Empty.elim e
 |next a=>
  have:=yy (P:=λa:Int×List Int=>a.2.length=4) (λi a a' ha h=>by
   simp only[PX,jF]at h
   cases h
   simpa using ha) _ _ _ _ (by simp) hf
  simp only[PX,Stp.elim,bj]
  exact this
theorem yo (t:Tupl)(h:aD.f (t,())=true):(0≤t.ip∧t.ip≤4294967295)∧(0≤t.port∧t.port≤65535)∧(0≤t.my∧t.my≤65535):=by
 simp only[PX,aD,be,dM]at h
 revert h
 cases h1:(decide (0≤t.ip)&&decide (t.ip≤4294967295))<;>cases h2:(decide (0≤t.port)&&decide (t.port≤65535))<;>simp only[cond_true,cond_false,Bool.and_eq_true,decide_eq_true_eq]at* <;>simp_all
theorem Qf (t:Tupl)(seq e i:Int)(ht:aD.f (t,())=true)(hs:0≤seq∧seq≤4294967295)(he:0≤e∧e≤4294967295)(hi:0≤i∧i≤7):(f8.f (t,seq,e,i,())==[])=false:=by
 have h1:=Sa t.ip (by rw[be];have:=(yo t ht).1;simp[this])
 simp only[PX,f8,ht,be,av,decide_eq_true hs.1,decide_eq_true hs.2,decide_eq_true he.1,decide_eq_true he.2,decide_eq_true hi.1,decide_eq_true hi.2,Bool.and_self,Bool.not_true,cond_false]
 generalize gh.f (t.ip,4,())=a at*
 match a,h1 with
 |x::r,_=>simp
theorem Qb (m:Mac)(t:Tupl)(seq e i:Int)(ht:aD.f (t,())=true)(hs:0≤seq∧seq≤4294967295)(he:0≤e∧e≤4294967295)(hi:0≤i∧i≤7):
  aG.f (m,t,seq,e,i,())=(e%32)*134217728+i*16777216+oA.f (m,f8.f (t,seq,e,i,()),()):=by
 simp only[PX,aG,Qf t seq e i ht hs he hi,cond_false]
 have h:=Lq m (f8.f (t,seq,e,i,()))
 rw[(gn 32).1 he.1,aA (m:=e%32*134217728) (by omega) (by omega),aA (m:=i*16777216) (by omega) (by omega),aA (m:=e%32*134217728+i*16777216) (by omega) (by omega),aA (by omega) (by omega)]
theorem sM (x:Int):0≤iq.f (x,())∧iq.f (x,())≤7:=by
 simp only[PX,iq,bZ]
 cases hf:a9 (λj a=>(kD x j a).nice) (-1) (Int.toNat (7-0)) 7 ()with
 |next a=>simp[PX,Stp.elim]
 |out w=>
  obtain⟨n,b,hn,h⟩:=CQ _ _ _ _ hf
  simp only[PX,kD]at h
  simp only[PX,Stp.elim]
  rw[show Int.toNat (7-0)=7 from rfl]at hn
  revert h
  cases decide (fu.f (7+ -1*(n:Int),())≤x)with
  |false=>simp only[cond_false];intro h;cases h
  |true=>simp only[cond_true];intro h;cases h;omega
theorem Et (k:Keys)(t:Tupl)(seq a i:Int)(hk:bL.f (k,())=true)(ha:0≤a∧a≤4294967295)(hi:a/16777216%8=i)(hc:aG.f (k.now,t,seq,k.epoch,i,())=a):
  ba.f (k,t,seq,a,())=(k.epoch,i,true):=by
 have he:=fp k hk
 have hp:(cK.f (a,())).2.1=i:=by
  simp only[PX,cK,be,decide_eq_true ha.1,decide_eq_true ha.2,Bool.and_self,Bool.not_true,cond_false]
  rw[(sD 16777216).1 ha.1,aA (by omega) (by omega),(gn 8).1 (by omega),hi]
 simp only[PX,ba,bX,hk,be,decide_eq_true ha.1,decide_eq_true ha.2,Bool.and_self,Bool.not_true,cond_false,hp]
 obtain⟨m,hm⟩:∃m:Nat,Int.toNat (k.epoch-(if 0<(IntKind.wrap .i64 (k.epoch-1))then(IntKind.wrap .i64 (k.epoch-1))else 0)+1)=m+1:=by
  rw[aA (by omega) (by omega)]
  split
  ·exact⟨Int.toNat (k.epoch-(k.epoch-1)+1)-1,by omega⟩
  ·exact⟨Int.toNat (k.epoch-0+1)-1,by omega⟩
 rw[hm]
 have hf:(cy seq a i k t k.epoch ()).nice= .out k.epoch:=by
  simp only[PX,cy,ig,iz,beq_self_eq_true,cond_true,hc]
 simp only[a9,hf,Stp.elim,PX]
def gW {T:Type}(p:T→Bool)(xs:List T):Int:=match xs.findIdx? p with|none=> -1|some i=>(i:Int)
theorem lk {T:Type}(p:T→Bool)(xs:List T){f:Int→Unit→Stp Unit Int}(h:∀(j:Nat) x a,xs[j]? =some x→f j a=bif p x then .out (j:Int)else .next ()):
  a9 f 1 (Int.toNat ((xs.length:Int)-0)) 0 ()=match xs.findIdx? p with|none=> .next ()|some i=> .out (i:Int):=by
 rw[bf,d7 xs _ rfl h,le (w:=λj _=>(j:Int))]
 cases hf:xs.findIdx? p with
 |none=>rfl
 |some i=>
  obtain⟨h1,_,_⟩:=List.findIdx?_eq_some_iff_getElem.1 hf
  simp only[List.getElem?_eq_getElem h1,Nat.zero_add]
theorem lW {T:Type}(p:T→Bool)(xs:List T):decide (0≤gW p xs)=xs.any p:=by
 unfold gW
 cases h:xs.findIdx? p with
 |none=>
  rw[List.findIdx?_eq_none_iff]at h
  symm
  show xs.any p=false
  rw[List.any_eq_false]
  intro x hx;simp[h x hx]
 |some i=>
  obtain⟨h1,h2,_⟩:=List.findIdx?_eq_some_iff_getElem.1 h
  have:xs.any p=true:=by rw[List.any_eq_true];exact⟨xs[i],List.getElem_mem h1,h2⟩
  rw[this];simp
theorem X6 {T:Type}(p:T→Bool)(xs:List T):decide (gW p xs<0)= !xs.any p:=by
 rw[←lW]
 by_cases h:0≤gW p xs
 ·rw[decide_eq_true h,decide_eq_false (by omega)];rfl
 ·rw[decide_eq_false h,decide_eq_true (by omega)];rfl
theorem AF {T:Type}(p:T→Bool)(xs:List T)(j:Nat)(x:T)(hx:xs[j]? =some x)(hp:p x=true):(gW p xs != (j:Int))=(xs.take j).any p:=by
 obtain⟨hj,rfl⟩:=List.getElem?_eq_some_iff.1 hx
 unfold gW
 cases h:xs.findIdx? p with
 |none=>
  rw[List.findIdx?_eq_none_iff]at h
  have:=h _ (List.getElem_mem hj)
  rw[hp]at this;cases this
 |some i=>
  obtain⟨h1,h2,h3⟩:=List.findIdx?_eq_some_iff_getElem.1 h
  simp only[]
  rw[Bool.eq_iff_iff]
  simp only[bne_iff_ne,ne_eq,List.any_eq_true]
  constructor
  ·intro hne
   have hij:i<j:=by
    rcases Nat.lt_or_ge i j with h4|h4
    ·exact h4
    ·have h5:j<i:=by omega
     have:=h3 j h5
     simp[hp]at this
   refine⟨xs[i], ?_,h2⟩
   rw[List.mem_take_iff_getElem]
   exact⟨i,by omega,rfl⟩
  ·rintro⟨y,hy,hpy⟩ he
   rw[List.mem_take_iff_getElem]at hy
   obtain⟨k,hk,rfl⟩:=hy
   have:k<i:=by omega
   have:=h3 k this
   simp[hpy]at this
def kw (t y:Tupl):Bool:=(y.ip==t.ip)&&((y.port==t.port)&&((y.my==t.my)&&true))
theorem ry (t:Tupl):kw t t=true:=by simp[kw]
theorem p5 (xs:List Half)(t:Tupl):cZ.f (xs,t,())=gW (λh=>kw t h.tuple) xs:=by
 simp only[PX,cZ,eT]
 rw[lk (λh:Half=>kw t h.tuple) xs (λj x a h=>by
  simp only[PX,un,ah,getD_some h,kw])]
 unfold gW
 cases xs.findIdx? (λh=>kw t h.tuple)<;>rfl
theorem f9 (xs:List Half)(t:Tupl):aC.f (xs,t,())=gW (λh=>kw t h.tuple) xs:=by
 simp only[PX,aC,ey,aP]
 rw[lk (λh:Half=>kw t h.tuple) xs (λj x a h=>by
  simp only[PX,gc,tS,ah,getD_some h,kw])]
 unfold gW
 cases xs.findIdx? (λh=>kw t h.tuple)<;>rfl
theorem qk (xs:List Half)(t:Tupl):cZ.f (xs,t,())=aC.f (xs,t,()):=by rw[p5,f9]
theorem H0 (x:Tabl)(t:Tupl):cu.f (x,t,())=gW (λh=>kw t h.tuple) x.conns:=by
 simp only[PX,cu,eQ]
 rw[lk (λh:Conn=>kw t h.tuple) x.conns (λj x a h=>by
  simp only[PX,uk,ah,getD_some h,kw])]
 unfold gW
 cases x.conns.findIdx? (λh=>kw t h.tuple)<;>rfl
theorem eI (x:Tabl)(t:Tupl):au.f (x,t,())=gW (λh=>kw t h.tuple) x.conns:=by
 simp only[PX,au,eC,aQ]
 rw[lk (λh:Conn=>kw t h.tuple) x.conns (λj x a h=>by
  simp only[PX,fQ,tt,ah,getD_some h,kw])]
 unfold gW
 cases x.conns.findIdx? (λh=>kw t h.tuple)<;>rfl
theorem iH (x:Tabl)(t:Tupl):cu.f (x,t,())=au.f (x,t,()):=by rw[H0,eI]
theorem px (x:Recv):gy.f (x,())=bR.f (x,()):=by
 simp only[PX,gy,bR,WM]
theorem PK (x:Recv)(h:(x.data.length:Int)≤32):bR.f (x,())≤32:=by
 simp only[PX,bR]
 cases x.done with
 |true=>simp only[cond_true];omega
 |false=>
  simp only[cond_false]
  rw[aA (by omega) (by omega)]
  split<;>omega
theorem tK (x:Sndr):eS.f (x,())=bt.f (x,()):=by
 simp only[PX,eS,bt,dS,cB,av]
def eJ (L:Int):Int→List Piec→Option Int
 |a,[]=>some a
 |a,p::r=>bif (p.text==[])||decide (p.off≤a)||decide (L<p.off+(p.text.length:Int))then none else eJ L (p.off+(p.text.length:Int)) r
theorem Po (L:Int):∀(r:List Piec) (a b:Int),eJ L a r=some b→a≤b∧(a≤L→b≤L)
 |[],a,b,h=>by cases h;exact⟨Int.le_refl _,λh=>h⟩
 |p::r,a,b,h=>by
  simp only[eJ]at h
  cases hc:((p.text==[])||decide (p.off≤a)||decide (L<p.off+(p.text.length:Int)))with
  |true=>rw[hc]at h;cases h
  |false=>
   rw[hc]at h
   simp only[Bool.or_eq_false_iff,decide_eq_false_iff_not]at hc
   have:=Po L r _ b h
   omega
theorem Lg (L M:Int)(hLM:L≤M):∀(r:List Piec) (a:Int),a≤L→eJ L a r=(match eJ M a r with|some b=>bif decide (b≤L)then some b else none|none=>none)
 |[],a,h=>by simp only[eJ,decide_eq_true h,cond_true]
 |p::r,a,h=>by
  simp only[eJ]
  cases h1:((p.text==[])||decide (p.off≤a))with
  |true=>simp only[Bool.true_or,cond_true]
  |false=>
   simp only[Bool.false_or]
   by_cases h2:L<p.off+(p.text.length:Int)
   ·rw[decide_eq_true h2]
    simp only[cond_true]
    by_cases h3:M<p.off+(p.text.length:Int)
    ·rw[decide_eq_true h3];rfl
    ·rw[decide_eq_false h3]
     simp only[cond_false]
     cases hw:eJ M (p.off+(p.text.length:Int)) r with
     |none=>rfl
     |some b=>
      have:=(Po M r _ b hw).1
      simp only[]
      rw[decide_eq_false (by omega)]
      rfl
   ·rw[decide_eq_false h2,decide_eq_false (show¬M<p.off+(p.text.length:Int) by omega)]
    simp only[cond_false]
    exact Lg L M hLM r _ (by omega)
def bN (xs:List Piec):Prop:=∀y∈xs,y.text.length≤4611686018427387904
theorem bN.getD {xs:List Piec}(h:bN xs)(i:Nat):(xs.getD i (Ty.zero .piec)).text.length≤4611686018427387904:=Hg (p:=λy:Piec=>y.text.length≤4611686018427387904) (by decide+kernel) h i
theorem Rg {s:ax}(h:(s==[])=false):0<s.length:=by
 cases s with
 |nil=>cases h
 |cons=>simp
theorem yu {W:Type}{F:Nat→Piec→Int→Stp Int W}{L:Int}{w:W}:∀(r:List Piec) (j:Nat) (a:Int),0≤a→a≤32→L≤32→(∀p∈r,∀j a,0≤a→a≤32→(∃w,(p.text==[]||decide (p.off≤a)||decide (L<p.off+(p.text.length:Int)))=true∧F j p a= .out w)∨((p.text==[]||decide (p.off≤a)||decide (L<p.off+(p.text.length:Int)))=false∧F j p a= .next (p.off+(p.text.length:Int))))→
  (match eJ L a r with|some b=>gX F j r a= .next b|none=>∃w,gX F j r a= .out w)
 |[],j,a,_,_,_,_=>rfl
 |p::r,j,a,h0,h1,hL,hF=>by
  rcases hF p List.mem_cons_self j a h0 h1 with⟨w,hc,hf⟩|⟨hc,hf⟩
  ·simp only[eJ,hc,cond_true,gX,hf,Stp.elim]
   exact⟨w,rfl⟩
  ·simp only[eJ,hc,cond_false,gX,hf,Stp.elim]
   simp only[Bool.or_eq_false_iff,decide_eq_false_iff_not]at hc
   exact yu (w:=w) r (j+1) _ (by omega) (by omega) hL λq hq=>hF q (List.mem_cons_of_mem _ hq)
theorem Zl (x:Recv)(L:Int)(hL:L≤32)(hs:bN x.held):match eJ L 0 x.held with|some b=>a9 (λj a=>(eL L x j a).nice) 1 (Int.toNat ((x.held.length:Int)-0)) 0 0= .next b|none=>∃w,a9 (λj a=>(eL L x j a).nice) 1 (Int.toNat ((x.held.length:Int)-0)) 0 0= .out w:=by
 rw[bf,d7 x.held _ rfl (F:=λj p a=>(eL L {x with held:=[p]} 0 a).nice) (by
  intro j p a h
  simp only[PX,eL,ah,getD_some h]
  rfl)]
 refine yu (w:=(0:Int)) _ _ _ (by omega) (by omega) hL λp hp j a h0 h1=> ?_
 have hl:=hs p hp
 simp only[PX,eL,show Int.toNat 0=0 from rfl,List.getD_cons_zero]
 cases h2:(p.text==[])with
 |true=>exact .inl ⟨_,rfl,rfl⟩
 |false=>
  have hp:=Rg h2
  cases h3:decide (p.off≤a)with
  |true=>exact .inl ⟨_,rfl,rfl⟩
  |false=>
   simp only[decide_eq_false_iff_not]at h3
   simp only[cond_false,Bool.false_or]
   by_cases h4:L<p.off
   ·refine .inl ⟨a,decide_eq_true (by omega), ?_⟩
    rw[decide_eq_true h4];rfl
   ·rw[decide_eq_false h4,aA (by omega) (by omega)]
    simp only[cond_false]
    by_cases h5:L<p.off+(p.text.length:Int)
    ·rw[decide_eq_true h5];exact .inl ⟨_,rfl,rfl⟩
    ·rw[decide_eq_false h5];exact .inr ⟨rfl,rfl⟩
theorem SK (x:Recv)(L:Int)(hL0: -9223372036854775808≤L-4611686018427387904)(hL:L≤32)(hs:bN x.held):match eJ L 0 x.held with|some b=>a9 (λj a=>(dH L x.held j a).nice) 1 (Int.toNat ((x.held.length:Int)-0)) 0 0= .next b|none=>∃w,a9 (λj a=>(dH L x.held j a).nice) 1 (Int.toNat ((x.held.length:Int)-0)) 0 0= .out w:=by
 rw[bf,d7 x.held _ rfl (F:=λj p a=>(dH L [p] 0 a).nice) (by
  intro j p a h
  simp only[PX,dH,ah,getD_some h]
  rfl)]
 refine yu (w:=()) _ _ _ (by omega) (by omega) hL λp hp j a h0 h1=> ?_
 have hl:=hs p hp
 simp only[PX,dH,show Int.toNat 0=0 from rfl,List.getD_cons_zero]
 cases h2:(p.text==[])with
 |true=>exact .inl ⟨_,rfl,rfl⟩
 |false=>
  have hp:=Rg h2
  cases h3:decide (p.off≤a)with
  |true=>exact .inl ⟨_,rfl,rfl⟩
  |false=>
   simp only[decide_eq_false_iff_not]at h3
   simp only[cond_false,Bool.false_or]
   rw[aA (m:=L-(p.text.length:Int)) (by omega) (by omega)]
   by_cases h5:L<p.off+(p.text.length:Int)
   ·rw[decide_eq_true h5,decide_eq_true (by omega)];exact .inl ⟨_,rfl,rfl⟩
   ·rw[decide_eq_false h5,decide_eq_false (by omega),aA (by omega) (by omega)];exact .inr ⟨rfl,rfl⟩
theorem z8 (x:Recv)(hs:bN x.held):kb.f (x,())=bC.f (x,()):=by
 simp only[PX,kb,bC,dD,cH,dS,cB,px]
 cases ai.f (x.next,32,())with
 |false=>rfl
 |true=>
  by_cases hd:32<(x.data.length:Int)
  ·rw[decide_eq_true hd];rfl
  ·rw[decide_eq_false hd]
   have hw:=PK x (by omega)
   simp only[Bool.not_true,cond_false]
   cases decide (3<(x.held.length:Int))with
   |true=>rfl
   |false=>
    simp only[cond_false]
    rw[av]
    by_cases hf: -1≤x.fin∧x.fin≤bR.f (x,())
    ·rw[decide_eq_true hf.1,decide_eq_true hf.2]
     simp only[Bool.and_self,Bool.not_true,cond_false]
     cases h0:(x.fin==0)with
     |true=>rfl
     |false=>
      simp only[cond_false]
      have h0:x.fin≠0:=by simpa using h0
      have k1:=Zl x (bR.f (x,())) hw hs
      by_cases h1:x.fin= -1
      ·have k2:=SK x (bR.f (x,())) (by omega) hw hs
       rw[show(x.fin != -1)=false by simp[h1],show decide (x.fin<0)=true from decide_eq_true (by omega)]
       simp only[cond_true,cond_false]
       cases hp:eJ (bR.f (x,())) 0 x.held with
       |some b=>rw[hp]at k1 k2;simp only[]at k1 k2;rw[k1,k2];rfl
       |none=>rw[hp]at k1 k2;obtain⟨w1,k1⟩:=k1;obtain⟨w2,k2⟩:=k2;rw[k1,k2];rfl
      ·have k2:=SK x x.fin (by omega) (by omega) hs
       rw[show(x.fin != -1)=true by simp[h1],show decide (x.fin<0)=false from decide_eq_false (by omega)]
       simp only[cond_true,cond_false]
       rw[Lg x.fin (bR.f (x,())) (by omega) x.held 0 (by omega)]at k2
       cases hp:eJ (bR.f (x,())) 0 x.held with
       |none=>rw[hp]at k1 k2;obtain⟨w1,k1⟩:=k1;obtain⟨w2,k2⟩:=k2;rw[k1,k2];rfl
       |some b=>
        rw[hp]at k1 k2
        simp only[]at k1 k2
        rw[k1]
        by_cases hb:b≤x.fin
        ·rw[decide_eq_true hb]at k2
         simp only[cond_true]at k2
         rw[k2];simp only[Stp.elim,decide_eq_true hb,cond_true]
        ·rw[decide_eq_false hb]at k2
         obtain⟨w2,k2⟩:=k2
         rw[k2];simp only[Stp.elim,decide_eq_false hb,cond_false]
    ·have:(decide (-1≤x.fin)&&decide (x.fin≤bR.f (x,())))=false:=by
      rw[Bool.and_eq_false_iff];simp only[decide_eq_false_iff_not];omega
     rw[this];rfl
theorem Bj (x:Conn)(hs:bN x.r.held):iZ.f (x,())=bI.f (x,()):=by
 simp only[PX,iZ,bI,Gi,pm,tK,z8 x.r hs,ll,cB,av]
 cases aD.f (x.tuple,())with
 |false=>rfl
 |true=>
 cases bt.f (x.s,())with
 |false=>rfl
 |true=>
 cases bC.f (x.r,())with
 |false=>rfl
 |true=>
 cases aq.f (x.opts,())with
 |false=>rfl
 |true=>
 simp only[Bool.not_true,cond_false]
 have hm:(bif !(decide (0≤x.window)&&decide (x.window≤x.most))then true else decide (1073725440<x.most))=(bif !(decide (0≤x.most)&&decide (x.most≤1073725440))then true else !(decide (0≤x.window)&&decide (x.window≤x.most))):=by
  rw[Bool.eq_iff_iff]
  by_cases h1:0≤x.window<;>by_cases h2:x.window≤x.most<;>by_cases h3:1073725440<x.most<;>by_cases h4:0≤x.most<;>by_cases h5:x.most≤1073725440<;>simp[h1,h2,h3,h4,h5]<;>omega
 have ej:∀b:Bool,(bif b then(false,(4:Int),x,())else(false,3,x,()))=(false,(bif b then 4 else 3),x,()):=λb=>by cases b<;>rfl
 have et:∀b:Bool,decide (x.timer≤bif b then 4 else 3)=bif b then decide (x.timer≤4)else decide (x.timer≤3):=λb=>by cases b<;>rfl
 simp only[ej,et]
 revert hm
 generalize(decide (0≤x.window)&&decide (x.window≤x.most))=W
 generalize decide (1073725440<x.most)=M
 generalize(decide (0≤x.most)&&decide (x.most≤1073725440))=N
 generalize(decide (0≤x.tries)&&decide (x.tries≤3))=T
 generalize decide (0≤x.timer)=T0
 generalize decide (x.timer≤4)=T4
 generalize decide (x.timer≤3)=T3
 generalize x.s.fin=sf
 generalize x.s.done=sd
 generalize x.r.done=rd
 generalize x.state=k
 have hk:k=1∨k=2∨k=3∨k=4∨k=5∨k=6∨k=7∨k=8∨(decide (1≤k)&&decide (k≤8))=false:=by
  simp only[Bool.and_eq_false_iff,decide_eq_false_iff_not];omega
 rcases hk with rfl|rfl|rfl|rfl|rfl|rfl|rfl|rfl|hk
 iterate 8 (revert W M N T T0 T4 T3 sf sd rd;decide+kernel)
 intro _;simp only[hk];rfl
theorem Sc (x:Limi):tn.f (x,())=fX.f (x,()):=by
 simp only[PX,tn,fX,cB,av]
theorem wI {T V W:Type}(xs:List T){f:Int→Unit→Stp Unit V}{g:Int→Unit→Stp Unit W}{k:Nat}(hk:k=xs.length)(h:∀(j:Nat) x,xs[j]? =some x→(∃v w,f j ()= .out v∧g j ()= .out w)∨(f j ()= .next ()∧g j ()= .next ())):
  (∃v w,a9 f 1 k 0 ()= .out v∧a9 g 1 k 0 ()= .out w)∨(a9 f 1 k 0 ()= .next ()∧a9 g 1 k 0 ()= .next ()):=by
 subst hk
 have:∀(n i:Nat),i+n=xs.length→(∃v w,a9 f 1 n (i:Int) ()= .out v∧a9 g 1 n (i:Int) ()= .out w)∨(a9 f 1 n (i:Int) ()= .next ()∧a9 g 1 n (i:Int) ()= .next ()):=by
  intro n
  induction n with
  |zero=>intro i _;exact .inr ⟨rfl,rfl⟩
  |succ n ih=>
   intro i hi
   rcases h i xs[i] (List.getElem?_eq_getElem (by omega))with⟨v,w,h1,h2⟩|⟨h1,h2⟩
   ·exact .inl ⟨v,w,by simp only[a9,h1,Stp.elim],by simp only[a9,h2,Stp.elim]⟩
   ·simp only[a9,h1,h2,Stp.elim]
    have:=ih (i+1) (by omega)
    rwa [show((i+1:Nat):Int)=(i:Int)+1 by omega]at this
 exact this xs.length 0 (by omega)
theorem Nb (xs:List Tupl)(t:Tupl):tA.f (xs,t,())=xs.any (kw t):=by
 simp only[PX,tA,ff]
 rw[bf,d7 xs _ rfl (F:=λj y a=>bif kw t y then .out ()else .next ()) (by
  intro j y a h
  simp only[PX,uy,ah,getD_some h,kw])]
 rw[le (p:=kw t) (w:=λ_ _=>())]
 cases h:xs.findIdx? (kw t)with
 |none=>
  rw[List.findIdx?_eq_none_iff]at h
  simp only[Stp.elim]
  symm
  rw[List.any_eq_false]
  intro x hx;simp[h x hx]
 |some i=>
  obtain⟨h1,h2,_⟩:=List.findIdx?_eq_some_iff_getElem.1 h
  simp only[List.getElem?_eq_getElem h1,Stp.elim]
  symm
  rw[List.any_eq_true];exact⟨xs[i],List.getElem_mem h1,h2⟩
theorem ue (xs:List Tupl)(t:Tupl):nM.f (xs,t,())=gW (kw t) xs:=by
 have e:∀a b:Int,(a==b)=(b==a):=λa b=>by rw[Bool.eq_iff_iff];simp only[beq_iff_eq];exact eq_comm
 simp only[PX,nM,cT]
 rw[lk (kw t) xs (λj x a h=>by
  simp only[PX,pL,ah,getD_some h,kw,e t.ip,e t.port,e t.my])]
 unfold gW
 cases xs.findIdx? (kw t)<;>rfl
theorem Cv {T:Type}{xs:List T}{j:Nat}{x:T}(h:xs[j]? =some x):x∈xs:=List.mem_of_getElem? h
theorem LD (x:Tabl)(l:Limi)(hs:∀y∈x.conns,bN y.r.held):sw.f (x,l,())=ck.f (x,l,()):=by
 simp only[PX,sw,ck,fL,eu,fV,er,Sc]
 have h1:=wI x.conns (f:=λj a=>(pK x j a).nice) (g:=λj a=>(ev x.conns x j a).nice) (k:=Int.toNat ((x.conns.length:Int)-0)) (bf _) (λj y hy=>by
  simp only[PX,pK,ev,ah,getD_some hy,Bj y (hs y (Cv hy)),iH]
  cases bI.f (y,())with
  |false=>exact .inl ⟨_,_,rfl,rfl⟩
  |true=>cases(au.f (x,y.tuple,()) != (j:Int))with
   |true=>exact .inl ⟨_,_,rfl,rfl⟩
   |false=>exact .inr ⟨rfl,rfl⟩)
 have h2:=wI x.waiting (f:=λj a=>(qh x j a).nice) (g:=λj a=>(ez x.waiting x j a).nice) (k:=Int.toNat ((x.waiting.length:Int)-0)) (bf _) (λj y hy=>by
  simp only[PX,qh,ez,ah,getD_some hy,Nb,ue,iH,List.drop_zero]
  rw[AF (kw y) x.waiting j y hy (ry y)]
  cases(x.waiting.take j).any (kw y)<;>cases decide (au.f (x,y,())<0)<;>first|exact .inl ⟨_,_,rfl,rfl⟩|exact .inr ⟨rfl,rfl⟩)
 rcases h1 with⟨v,w,h3,h4⟩|⟨h3,h4⟩
 ·rw[h3,h4]
  cases(fX.f (l,()))<;>cases decide (l.conns<(x.conns.length:Int))<;>cases decide (l.waiting<(x.waiting.length:Int))<;>rfl
 ·rw[h3,h4]
  rcases h2 with⟨v,w,h5,h6⟩|⟨h5,h6⟩
  ·rw[h5,h6]
   all_goals (cases(fX.f (l,()))<;>cases decide (l.conns<(x.conns.length:Int))<;>cases decide (l.waiting<(x.waiting.length:Int))<;>rfl)
  ·rw[h5,h6]
   all_goals (cases(fX.f (l,()))<;>cases decide (l.conns<(x.conns.length:Int))<;>cases decide (l.waiting<(x.waiting.length:Int))<;>rfl)
theorem yq (xs:List Half):nf.f (xs,())=fW.f (xs,()):=by
 simp only[PX,nf,fW,dN,fb]
 have h1:=wI xs (f:=λj a=>(eZ xs j a).nice) (g:=λj a=>(og xs xs j a).nice) (k:=Int.toNat ((xs.length:Int)-0)) (bf _) (λj y hy=>by
  simp only[PX,eZ,og,ah,getD_some hy,pm,dS,ll,cB,av,p5,f9,List.drop_zero,lW]
  rw[AF (λh:Half=>kw y.tuple h.tuple) xs j y hy (ry _)]
  cases aD.f (y.tuple,())with
  |false=>exact .inl ⟨_,_,rfl,rfl⟩
  |true=>
  cases ai.f (y.iss,32,())with
  |false=>exact .inl ⟨_,_,rfl,rfl⟩
  |true=>
  cases ai.f (y.irs,32,())with
  |false=>exact .inl ⟨_,_,rfl,rfl⟩
  |true=>
  cases ai.f (y.window,16,())with
  |false=>exact .inl ⟨_,_,rfl,rfl⟩
  |true=>
  cases aq.f (y.opts,())with
  |false=>exact .inl ⟨_,_,rfl,rfl⟩
  |true=>
  cases(decide (0≤y.age)&&decide (y.age≤6))with
  |false=>exact .inl ⟨_,_,rfl,rfl⟩
  |true=>
  cases(xs.take j).any (λh=>kw y.tuple h.tuple)with
  |true=>exact .inl ⟨_,_,rfl,rfl⟩
  |false=>exact .inr ⟨rfl,rfl⟩)
 rcases h1 with⟨v,w,h3,h4⟩|⟨h3,h4⟩<;>rw[h3,h4]<;>by_cases h:64<(xs.length:Int)
 ·rw[decide_eq_true h];rfl
 ·rw[decide_eq_false h];rfl
 ·rw[decide_eq_true h];simp only[Stp.elim,cond_true];exact decide_eq_false (by omega)
 ·rw[decide_eq_false h];simp only[Stp.elim,cond_false];exact decide_eq_true (by omega)
theorem Hd (d:Door)(xs:List Half):cA.f (xs,d,())=xs.any (λh=>decide (0≤au.f (d.table,h.tuple,()))):=by
 simp only[PX,cA,fv,aW]
 rw[lk (λh:Half=>decide (0≤au.f (d.table,h.tuple,()))) xs (λj y a h=>by
  simp only[PX,gt,ym,ah,getD_some h])]
 rw[←lW]
 unfold gW
 cases xs.findIdx? (λh=>decide (0≤au.f (d.table,h.tuple,())))<;>rfl
theorem UR {T:Type}(p:T→Bool)(xs:List T)(j:Nat):gX (W:=Unit) (λ_ y (_:Unit)=>bif p y then .out ()else .next ()) j xs ()=bif xs.any p then .out ()else .next ():=by
 rw[le (w:=λ_ _=>())]
 cases h:xs.findIdx? p with
 |none=>
  rw[List.findIdx?_eq_none_iff]at h
  have:xs.any p=false:=by
   rw[List.any_eq_false]
   intro y hy;simp[h y hy]
  rw[this];rfl
 |some i=>
  obtain⟨h1,h2,_⟩:=List.findIdx?_eq_some_iff_getElem.1 h
  have:xs.any p=true:=by rw[List.any_eq_true];exact⟨xs[i],List.getElem_mem h1,h2⟩
  rw[this];simp only[List.getElem?_eq_getElem h1];rfl
theorem BD (x:Door)(hs:∀y∈x.table.conns,bN y.r.held):qb.f (x,())=bB.f (x,()):=by
 simp only[PX,qb,bB,gu,dS,He,LD x.table x.limits hs,yq,cB,av,Hd]
 rw[bf,d7 x.halves _ rfl (F:=λj y a=>bif decide (0≤au.f (x.table,y.tuple,()))then .out ()else .next ()) (by
  intro j y a h
  simp only[PX,xR,ah,getD_some h,iH])]
 rw[UR (λy:Half=>decide (0≤au.f (x.table,y.tuple,())))]
 cases x.halves.any (λy=>decide (0≤au.f (x.table,y.tuple,())))<;>rfl
theorem yO:∀(r:List Conn) (j:Nat) (c:List Conn) (w:List Tupl),gX (W:=Empty) (λ_ x (a:Tabl×Tabl)=> .next ((⟨[],[]⟩:Tabl),(⟨a.2.conns++[x],a.2.waiting⟩:Tabl))) j r (⟨[],[]⟩,⟨c,w⟩)= .next (⟨[],[]⟩,⟨c++r,w⟩)
 |[],_,c,w=>by simp only[gX,List.append_nil]
 |x::r,j,c,w=>by
  simp only[gX,Stp.elim]
  rw[yO r]
  simp
theorem rx (x:Recv):dJ.f (x,())=x:=by simp only[PX,dJ,List.nil_append]
theorem uw (x:Recv):iY.f (x,())=x:=by simp only[PX,iY,nP]
theorem lr (x:Conn):dI.f (x,())=x:=by simp only[PX,dI,rx]
theorem dd (x:Conn):dj.f (x,())=x:=by simp only[PX,dj,uw]
theorem LT (x:Keys):rU.f (x,())=x:=by simp only[PX,rU,wj]
theorem qF (x:Keys):n8.f (x,())=x:=by simp only[PX,n8,iz]
theorem CK (x:Tabl):lq.f (x,())=x:=by
 simp only[PX,lq,fS,List.nil_append]
 rw[bf,d7 x.conns _ rfl (F:=λ_ y (a:Tabl×Tabl)=> .next ((⟨[],[]⟩:Tabl),(⟨a.2.conns++[y],a.2.waiting⟩:Tabl))) (by
  intro j y a h
  simp only[PX,u7,ah,getD_some h,lr]),yO]
 simp only[Stp.elim,PX,List.nil_append]
theorem lY (x:Tabl):iD.f (x,())=x:=by
 simp only[PX,iD,dz,nI]
 rw[bf,d7 x.conns _ rfl (F:=λ_ y (a:Tabl×Tabl)=> .next ((⟨[],[]⟩:Tabl),(⟨a.2.conns++[y],a.2.waiting⟩:Tabl))) (by
  intro j y a h
  simp only[PX,qw,ah,getD_some h,dd]),yO]
 simp only[Stp.elim,PX,List.nil_append]
theorem gi (x:Door):dh.f (x,())=x:=by simp only[PX,dh,LT,CK,List.nil_append]
theorem jE (x:Door):eE.f (x,())=x:=by simp only[PX,eE,qF,lY,ep]
theorem UO (k:Keys)(m:Mac):wH.f (k,m,())=d8.f (k,m,()):=by
 simp only[PX,wH,d8,LT,qF,wj,iz,He,Tv]
theorem Qt (d:Door)(m:Mac):qv.f (d,m,())=lz.f (d,m,()):=by
 simp only[PX,qv,lz,gi,jE,UO]
theorem gg {W:Type}{f:Int→Unit→Stp Unit W}:∀(k:Nat) (i:Int),(∀j,f j ()= .next ())→a9 f 1 k i ()= .next ()
 |0,_,_=>rfl
 |k+1,i,h=>by simp only[a9,h,Stp.elim];exact gg k _ h
theorem NA (m:Mac):ly.f (m,m,())=true:=by
 simp only[PX,ly,eA]
 rw[gg _ _ λj=>by simp only[PX,p6,beq_self_eq_true,Bool.and_self,Bool.not_true,cond_false]]
 simp[PX,Stp.elim]
theorem zl (m:Recv):mJ.f (m,m,())=true:=by
 simp only[PX,mJ,cG]
 rw[gg _ _ λj=>by simp only[PX,oj,beq_self_eq_true,Bool.and_self,Bool.not_true,cond_false]]
 simp[PX,Stp.elim]
theorem xL (m:Conn):p8.f (m,m,())=true:=by
 simp only[PX,p8,zl,beq_self_eq_true,Bool.and_self,cond_true]
theorem uf (m:List Half):mt.f (m,m,())=true:=by
 simp only[PX,mt,dE]
 rw[gg _ _ λj=>by simp only[PX,qH,beq_self_eq_true,Bool.and_self,Bool.not_true,cond_false]]
 simp[PX,Stp.elim]
theorem HQ (m:Tabl):qL.f (m,m,())=true:=by
 simp only[PX,qL,eb,dU]
 rw[gg (f:=λj a=>(nm m m j a).nice) _ _ λj=>by simp only[PX,nm,xL,Bool.not_true,cond_false]]
 simp only[Stp.elim,PX]
 rw[gg (f:=λj a=>(na m m j a).nice) _ _ λj=>by simp only[PX,na,beq_self_eq_true,Bool.and_self,Bool.not_true,cond_false]]
 simp[PX,Stp.elim]
theorem JD (m:Keys):tP.f (m,m,())=true:=by
 simp only[PX,tP,NA,beq_self_eq_true,cond_true]
theorem xI (m:Door):pP.f (m,m,())=true:=by
 simp only[PX,pP,JD,uf,HQ,beq_self_eq_true,Bool.and_self,cond_true]
theorem RM (k:Keys)(m:Mac)(hk:bL.f (k,())=true):bL.f (d8.f (k,m,()),())=true:=by
 simp only[PX,d8,hk,qF,iz,Bool.not_true,cond_false]
 cases hm:dF.f (m,())with
 |false=>exact hk
 |true=>
  simp only[Bool.not_true,cond_false]
  cases he:(k.epoch==4294967295)with
  |true=>exact hk
  |false=>
   have h1:=fp k hk
   have h2:k.epoch≠4294967295:=by simpa using he
   have h3:dF.f (k.now,())=true:=by
    simp only[PX,bL,av]at hk
    revert hk
    cases k.two<;>simp only[PX,cond_true,cond_false]<;>cases dF.f (k.now,())<;>simp
   simp only[cond_false]
   simp only[PX,bL,av,cond_true,hm,h3]
   rw[aA (by omega) (by omega),decide_eq_true (show 1≤k.epoch+1 by omega),decide_eq_true (show k.epoch+1≤4294967295 by omega)]
   rfl
theorem Kj (o:Opti):nN.f (o,())=kx.f (o,()):=by
 simp only[PX,nN,kx,cr,bG]
theorem UP (xs:List Half)(h:Half)(n:Int):rE.f (xs,h,n,())=ni.f (xs,h,n,()):=by
 simp only[PX,rE,ni,ep,yq,List.nil_append]
def jQ (d:Door):Prop:=∀y∈d.table.conns,bN y.r.held
theorem KN {d:Door}(hd:am d):jQ d:=by
 intro y hy p hp
 have h1:aa y:=hd.2.2.2.2.2.2.1 y hy
 have h2:ge p:=h1.2.2.2 p hp
 simp only[ge]at h2
 omega
theorem F9 (d:Door)(t:Tupl)(g:Segm)(hs:jQ d):ld.f (d,t,g,())=(bB.f (d,())&&(aD.f (t,())&&ao.f (g,()))):=by
 simp only[PX,ld,BD d hs,pm,uX]
 cases bB.f (d,())<;>cases aD.f (t,())<;>rfl
theorem KV (d:Door)(t:Tupl)(g:Segm):qX.f (d,t,g,())=
  bif (bB.f (d,())&&(aD.f (t,())&&ao.f (g,())))then
   bif decide (0≤aC.f (d.halves,t,()))then
    bif ((d.halves.getD (aC.f (d.halves,t,())).toNat (Ty.zero .half)).irs != g.seq)then(d,[])else(d,[({fj.f (d,t,g,())with seq:=(d.halves.getD (aC.f (d.halves,t,())).toNat (Ty.zero .half)).iss}:Segm)])
   else bif decide (au.f (d.table,t,())<0)then
    ({d with halves:=(ni.f (d.halves,(⟨t,(fj.f (d,t,g,())).seq,g.seq,kx.f (g.opts,()),0,g.window⟩:Half),d.limits.halves,())).1},[fj.f (d,t,g,())])
   else(d,[fj.f (d,t,g,())])
  else(d,[]):=by
 simp only[PX,qX,jE]
 cases bB.f (d,())<;>cases aD.f (t,())<;>cases ao.f (g,())<;>rfl
theorem X2 (d:Door)(t:Tupl)(g:Segm)(hs:jQ d):qU.f (d,t,g,())=qX.f (d,t,g,()):=by
 rw[KV]
 simp only[PX,qU,gi,F9 d t g hs,Ws,qk,iH,Kj,UP]
 cases(bB.f (d,())&&(aD.f (t,())&&ao.f (g,())))<;>rfl
theorem wy {W:Type}{f:Int→Unit→Stp Unit W}:∀(k i:Nat),a9 f 1 k (i:Int) ()= .next ()↔∀j:Nat,i≤j→j<i+k→f (j:Int) ()= .next ()
 |0,i=>⟨λ_ j h1 h2=>by omega,λ_=>rfl⟩
 |k+1,i=>by
  constructor
  ·intro h j h1 h2
   simp only[a9]at h
   cases hf:f (i:Int) ()with
   |out w=>rw[hf]at h;cases h
   |next a=>
    rw[hf]at h
    simp only[Stp.elim]at h
    rcases Nat.eq_or_lt_of_le h1 with h3|h3
    ·rw[←h3];exact hf
    ·rw[show(i:Int)+1=((i+1:Nat):Int) by omega]at h
     exact(wy k (i+1)).1 h j h3 (by omega)
  ·intro h
   simp only[a9,h i (Nat.le_refl _) (by omega),Stp.elim]
   rw[show(i:Int)+1=((i+1:Nat):Int) by omega]
   exact(wy k (i+1)).2 λj h1 h2=>h j (by omega) (by omega)
def Ce (h:Half):Bool:=aD.f (h.tuple,())&&(ai.f (h.iss,32,())&&(ai.f (h.irs,32,())&&(ai.f (h.window,16,())&&(aq.f (h.opts,())&&(decide (0≤h.age)&&decide (h.age≤6))))))
theorem I5 (xs:List Half)(j:Nat)(y:Half)(hy:xs[j]? =some y):((eZ xs (j:Int) ()).nice= .next ())↔(Ce y=true∧(xs.take j).any (λh=>kw y.tuple h.tuple)=false):=by
 simp only[PX,eZ,ah,getD_some hy,pm,dS,ll,cB,p5,List.drop_zero,lW,Ce]
 cases aD.f (y.tuple,())<;>cases ai.f (y.iss,32,())<;>cases ai.f (y.irs,32,())<;>cases ai.f (y.window,16,())<;>cases aq.f (y.opts,())<;>cases(decide (0≤y.age)&&decide (y.age≤6))<;>cases(xs.take j).any (λh=>kw y.tuple h.tuple)<;>simp
theorem NF (xs:List Half):fW.f (xs,())=true↔(∀(j:Nat) (y:Half),xs[j]? =some y→Ce y=true∧(xs.take j).any (λh=>kw y.tuple h.tuple)=false)∧xs.length≤64:=by
 rw[←yq]
 have hT:a9 (λj a=>(eZ xs j a).nice) 1 xs.length ((0:Nat):Int) ()= .next ()↔∀(j:Nat) (y:Half),xs[j]? =some y→Ce y=true∧(xs.take j).any (λh=>kw y.tuple h.tuple)=false:=by
  rw[wy]
  constructor
  ·intro h j y hy
   exact(I5 xs j y hy).1 (h j (Nat.zero_le _) (by have:=(List.getElem?_eq_some_iff.1 hy).1;omega))
  ·intro h j _ h2
   exact(I5 xs j xs[j] (List.getElem?_eq_getElem (by omega))).2 (h j _ (List.getElem?_eq_getElem (by omega)))
 simp only[PX,nf,dN]
 rw[bf,show(0:Int)=((0:Nat):Int) from rfl,←hT]
 cases a9 (λj a=>(eZ xs j a).nice) 1 xs.length ((0:Nat):Int) ()with
 |next a=>simp only[Stp.elim,PX,decide_eq_true_eq,true_and];omega
 |out w=>simp[Stp.elim,PX]
theorem Vv {T:Type}(p:T→Bool)(xs:List T)(x:T)(h:xs.any p=false)(hx:p x=true):gW p (xs++[x])=(xs.length:Int):=by
 have hn:∀y∈xs,p y=false:=by simpa using List.any_eq_false.1 h
 unfold gW
 have e:(xs++[x]).findIdx? p=some xs.length:=by
  rw[List.findIdx?_eq_some_iff_getElem]
  refine⟨by simp,by simpa using hx,λj hj=> ?_⟩
  rw[List.getElem_append_left hj]
  simp[hn _ (List.getElem_mem hj)]
 rw[e]
theorem H8 (x:Sndr):bt.f (x,())=true↔SO x:=by
 have h:=bt.c.h (x,()) trivial
 simpa using h
theorem vi (x:Sndr):gC.f (x,())=cJ.f (x,()):=by simp only[PX,gC,cJ]
theorem Q0 (x:Sndr):vJ.f (x,())=jG.f (x,()):=by simp only[PX,vJ,jG,vi,i1]
theorem AR (c:Conn):j6.f (c,())=cC.f (c,()):=by simp only[PX,j6,cC,Q0,px,cr,bG]
theorem V9 (c:Conn):A4.f (c,())=df.f (c,()):=by
 simp only[PX,A4,df,tq,pZ]
 cases(c.opts.mss==0)with
 |true=>rfl
 |false=>
  simp only[cond_false]
  generalize(if 1460<c.opts.mss then(1460:Int)else c.opts.mss)=m
  split<;>split<;>omega
theorem Uf (x:Sndr)(y:Chun):lm.f (x,y,())=di.f (x,y,()):=by
 simp only[PX,lm,di,tK]
 obtain⟨u,dt,se,fi,fs,dn⟩:=x
 cases fi with
 |true=>simp only[Bool.not_true,cond_false]
 |false=>
  cases hy:y.fin with
  |false=>simp only[cond_false]
  |true=>
   have k1:∀n:Int,bt.f ((⟨u,dt,n,false,true,dn⟩:Sndr),())=false:=by
    intro n
    cases h:bt.f ((⟨u,dt,n,false,true,dn⟩:Sndr),())with
    |false=>rfl
    |true=>
     have:=(H8 _).1 h
     have h2:=this.2.2.2.2.2.1 rfl
     exact Bool.noConfusion h2.1
   simp only[k1,Bool.not_false,cond_true]
theorem L2 (x:Sndr)(h:SO x):cJ.f (x,())=if x.finSent then x.sent+1 else x.sent:=by
 simp only[PX,cJ]
 have h1:=h.2.2.2.1
 have h2:=h.2.2.2.2.1
 have h3:=h.2.2.1
 cases x.finSent with
 |true=>simp only[cond_true,if_true];rw[aA (by omega) (by omega)]
 |false=>rfl
theorem RD (l:ax)(S n:Int)(h0:0≤S)(h1:0≤n):(l.take (S+n).toNat).drop S.toNat=(l.drop S.toNat).take n.toNat:=by
 rw[List.drop_take];congr 1;omega
theorem Qz (x:Sndr)(w m:Int)(hw:w≤9223372036854775807):n5.f (x,w,m,())=aV.f (x,w,m,()):=by
 simp only[PX,n5,aV,tK,vi,Q0,tq,pZ]
 cases h:bt.f (x,())with
 |false=>rfl
 |true=>
 have hs:=(H8 x).1 h
 have h1:=hs.2.2.2.1
 have h2:=hs.2.2.2.2.1
 have h3:=hs.2.2.1
 simp only[Bool.not_true,cond_false]
 have hF:x.sent≤cJ.f (x,())∧cJ.f (x,())≤x.sent+1:=by
  rw[L2 x hs];split<;>omega
 obtain⟨F,eF⟩:∃F,cJ.f (x,())=F:=⟨_,rfl⟩
 rw[eF]at hF
 simp only[eF]
 generalize jG.f (x,())=q
 rw[ah,List.take_length,List.length_drop]
 rw[aA (m:=(x.data.length:Int)-x.sent) (by omega) (by omega)]
 rw[show((x.data.length-x.sent.toNat:Nat):Int)=(x.data.length:Int)-x.sent by omega]
 obtain⟨c2,e2⟩:∃z:Int,(if w<1000000 then w else 1000000)=z:=⟨_,rfl⟩
 simp only[e2]
 obtain⟨c3,e3⟩:∃z:Int,(if c2<0 then 0 else c2)=z:=⟨_,rfl⟩
 simp only[e3]
 have b3:0≤c3∧c3≤1000000:=by grind
 rw[aA (m:=c3-F) (by omega) (by omega)]
 obtain⟨c5,e5⟩:∃z:Int,(if c3-F<0 then 0 else c3-F)=z:=⟨_,rfl⟩
 simp only[e5]
 obtain⟨W,eW⟩:∃z:Int,(if w< -1 then-1 else w)=z:=⟨_,rfl⟩
 simp only[eW]
 have bW: -1≤W∧W≤9223372036854775807:=by grind
 rw[aA (m:=W-F) (by omega) (by omega)]
 obtain⟨D,eD⟩:∃z:Int,(x.data.length:Int)-x.sent=z:=⟨_,rfl⟩
 simp only[eD]
 obtain⟨c6,e6⟩:∃z:Int,(if m<c5 then m else c5)=z:=⟨_,rfl⟩
 simp only[e6]
 obtain⟨c7,e7⟩:∃z:Int,(if c6<D then c6 else D)=z:=⟨_,rfl⟩
 simp only[e7]
 obtain⟨n,e8⟩:∃z:Int,(if c7<0 then 0 else c7)=z:=⟨_,rfl⟩
 simp only[e8]
 obtain⟨d3,f3⟩:∃z:Int,(if m<D then m else D)=z:=⟨_,rfl⟩
 simp only[f3]
 obtain⟨d4,f4⟩:∃z:Int,(if W-F<d3 then W-F else d3)=z:=⟨_,rfl⟩
 simp only[f4]
 have en:(if 0<d4 then d4 else 0)=n:=by grind
 rw[en]
 have bn:0≤n∧n≤D:=by grind
 have bw:decide (n<W-F)=decide (n<c5):=by
  rw[decide_eq_decide];grind
 rw[bw,aA (m:=x.sent+n) (by omega) (by omega),RD x.data x.sent n h1 bn.1,List.drop_zero]
 have el:(((x.data.drop x.sent.toNat).take n.toNat)==[])=(n==0):=by
  have hl:((x.data.drop x.sent.toNat).take n.toNat).length=n.toNat:=by rw[List.length_take,List.length_drop];omega
  generalize(x.data.drop x.sent.toNat).take n.toNat=z at*
  cases z with
  |nil=>simp only[List.length_nil]at hl;rw[show n=0 by omega];rfl
  |cons a r=>simp only[List.length_cons]at hl;rw[Bool.eq_iff_iff];simp;omega
 have ed:(x.sent+n==(x.data.length:Int))=(n==D):=by
  rw[Bool.eq_iff_iff];simp only[beq_iff_eq];omega
 rw[el,ed]
theorem CT {A B W W':Type}[Inhabited W][Inhabited W']{f:A→Stp A W}{g:B→Stp B W'}{R:A→B→Prop}{Q:W→W'→Prop}(hd:Q default default)
  (h:∀a b,R a b→(∃a' b',f a= .next a'∧g b= .next b'∧R a' b')∨(∃w w',f a= .out w∧g b= .out w'∧Q w w')):
  ∀(m:Nat) (a:A) (b:B),R a b→Q (cF f m a) (cF g m b)
 |0,_,_,_=>hd
 |m+1,a,b,hr=>by
  rcases h a b hr with⟨a',b',e1,e2,hr'⟩|⟨w,w',e1,e2,hq⟩
  ·simp only[cF,e1,e2,Stp.elim]
   exact CT hd h m a' b' hr'
  ·simp only[cF,e1,e2,Stp.elim]
   exact hq
def Aa (c:Conn)(l:List Segm):Conn:={c with timer:=if l=[]then c.timer else if c.timer=0 then 3 else c.timer}
theorem Iw (c:Conn):Aa c []=c:=by simp[Aa]
theorem UM (c:Conn)(l:List Segm)(g:Segm)(x:Sndr):(bif ((Aa c l).timer==0)then({Aa c l with s:=x,timer:=3}:Conn)else{Aa c l with s:=x})=Aa {c with s:=x} (l++[g]):=by
 simp only[Aa]
 have h1:¬(l++[g]=[]):=by simp
 rw[if_neg h1]
 by_cases hl:l=[]
 ·rw[if_pos hl]
  by_cases ht:c.timer=0
  ·rw[if_pos ht,show(c.timer==0)=true by simp[ht]];rfl
  ·rw[if_neg ht,show(c.timer==0)=false by simp[ht]];rfl
 ·rw[if_neg hl]
  by_cases ht:c.timer=0
  ·rw[if_pos ht];rfl
  ·rw[if_neg ht,show(c.timer==0)=false by simp[ht]];rfl
theorem Zp (c:Conn)(w:Int)(hw:w≤9223372036854775807)(hs:bN c.r.held):mS.f (c,w,())=dQ.f (c,w,()):=by
 simp only[PX,mS,dQ,lr,dd,Bj c hs,jK,fy]
 cases(bif !bI.f (c,())then(true,())else bif (c.state==8)then(true,())else((c.state==7),())).1 with
 |true=>rfl
 |false=>
 simp only[cond_false]
 have key:=CT (f:=λa=>(qC w a).nice) (g:=λa=>(bO w a).nice) (R:=λa b=>a.1=Aa b.2.1 b.2.2∧a.2.2=b.2.2) (Q:=λp q=>p.1=Aa q.2.1 q.2.2∧p.2=q.2.2) ⟨(Iw _).symm,rfl⟩ (by
  rintro⟨a1,a2,al⟩ ⟨b1,b2,bl⟩ ⟨h1,h2⟩
  simp only[]at h1 h2
  subst h1;subst h2
  have hm:df.f (Aa b2 al,())=df.f (b2,()):=rfl
  have ha:cC.f (Aa b2 al,())=cC.f (b2,()):=rfl
  have hx:(Aa b2 al).s=b2.s:=rfl
  simp only[PX,qC,bO,V9,Qz _ _ _ hw,AR,Uf,hm,ha,hx]
  obtain⟨z,hz⟩:∃z,aV.f (b2.s,w,df.f (b2,()),())=z:=⟨_,rfl⟩
  simp only[hz]
  obtain⟨g,hg⟩:∃g,cC.f (b2,())=g:=⟨_,rfl⟩
  simp only[hg]
  obtain⟨x,hx2⟩:∃x,di.f (b2.s,z.1,())=x:=⟨_,rfl⟩
  simp only[hx2]
  cases z.2 with
  |false=>exact .inr ⟨_,_,rfl,rfl,rfl,rfl⟩
  |true=>
   have hf:∀g':Segm,_:=λg'=>UM b2 al g' x
   cases ht:((Aa b2 al).timer==0)<;>rw[ht]at hf<;>simp only[cond_true,cond_false]at hf<;>cases(z.1.text==[])<;>cases z.1.fin<;>exact .inl ⟨_,_,rfl,rfl,hf _,rfl⟩) (Fz c.s+1) (c,⟨⟨0,0,0⟩,0,⟨0,[],0,false,false,false⟩,⟨0,[],[],0,false⟩,0,0,⟨0,0,false,false,0,0⟩,0,0⟩,[]) (⟨⟨0,0,0⟩,0,⟨0,[],0,false,false,false⟩,⟨0,[],[],0,false⟩,0,0,⟨0,0,false,false,0,0⟩,0,0⟩,c,[]) ⟨(Iw c).symm,rfl⟩
 obtain⟨p,hp⟩:∃p,cF (λa=>(qC w a).nice) (Fz c.s+1) (c,⟨⟨0,0,0⟩,0,⟨0,[],0,false,false,false⟩,⟨0,[],[],0,false⟩,0,0,⟨0,0,false,false,0,0⟩,0,0⟩,[])=p:=⟨_,rfl⟩
 obtain⟨q,hq⟩:∃q,cF (λa=>(bO w a).nice) (Fz c.s+1) (⟨⟨0,0,0⟩,0,⟨0,[],0,false,false,false⟩,⟨0,[],[],0,false⟩,0,0,⟨0,0,false,false,0,0⟩,0,0⟩,c,[])=q:=⟨_,rfl⟩
 rw[hp,hq]at key
 simp only[hp,hq]
 obtain⟨p1,p2⟩:=p
 obtain⟨q1,q2,q3⟩:=q
 obtain⟨k1,k2⟩:=key
 simp only[]at k1 k2
 subst k1;subst k2
 cases p2 with
 |nil=>simp only[PX,Iw,List.length_nil];rfl
 |cons g r=>
  simp only[PX,decide_eq_true (show 0<((g::r).length:Int) by simp only[List.length_cons];omega),cond_true,Aa,if_neg (show¬(g::r=[]) by simp)]
  by_cases ht:q2.timer=0
  ·simp only[ht,if_true,beq_self_eq_true,cond_true]
  ·simp only[if_neg ht,show(q2.timer==0)=false by simp[ht],cond_false]
def XO (k:Int)(sf sd rd:Bool):Bool:=bif k==8 then true else(sf== !(k==1||k==4))&&((sd==(k==3||k==7))&&(rd==(k==4||decide (5≤k))))
theorem Gd (x:Conn):bI.f (x,())=(aD.f (x.tuple,())&&(bt.f (x.s,())&&(bC.f (x.r,())&&(aq.f (x.opts,())&&((decide (1≤x.state)&&decide (x.state≤8))&&((decide (0≤x.most)&&decide (x.most≤1073725440))&&((decide (0≤x.window)&&decide (x.window≤x.most))&&((decide (0≤x.timer)&&bif x.state==7 then decide (x.timer≤4)else decide (x.timer≤3))&&((decide (0≤x.tries)&&decide (x.tries≤3))&&XO x.state x.s.fin x.s.done x.r.done))))))))):=by
 simp only[PX,bI,av]
 cases aD.f (x.tuple,())with
 |false=>rfl
 |true=>
 cases bt.f (x.s,())with
 |false=>rfl
 |true=>
 cases bC.f (x.r,())with
 |false=>rfl
 |true=>
 cases aq.f (x.opts,())with
 |false=>rfl
 |true=>
 simp only[Bool.not_true,cond_false,Bool.true_and]
 have ej:∀b:Bool,(bif b then(false,(4:Int),x,())else(false,3,x,()))=(false,(bif b then 4 else 3),x,()):=λb=>by cases b<;>rfl
 have et:∀b:Bool,decide (x.timer≤bif b then 4 else 3)=bif b then decide (x.timer≤4)else decide (x.timer≤3):=λb=>by cases b<;>rfl
 simp only[ej,et]
 generalize(decide (0≤x.window)&&decide (x.window≤x.most))=W
 generalize(decide (0≤x.most)&&decide (x.most≤1073725440))=N
 generalize(decide (0≤x.tries)&&decide (x.tries≤3))=T
 generalize decide (0≤x.timer)=T0
 generalize decide (x.timer≤4)=T4
 generalize decide (x.timer≤3)=T3
 generalize x.s.fin=sf
 generalize x.s.done=sd
 generalize x.r.done=rd
 generalize x.state=k
 have hk:k=1∨k=2∨k=3∨k=4∨k=5∨k=6∨k=7∨k=8∨(decide (1≤k)&&decide (k≤8))=false:=by
  simp only[Bool.and_eq_false_iff,decide_eq_false_iff_not];omega
 rcases hk with rfl|rfl|rfl|rfl|rfl|rfl|rfl|rfl|hk
 iterate 8 (revert W N T T0 T4 T3 sf sd rd;decide+kernel)
 simp only[hk];rfl
structure CO (x:Conn):Prop where
 tup:aD.f (x.tuple,())=true
 snd:SO x.s
 rcv:bC.f (x.r,())=true
 opt:aq.f (x.opts,())=true
 s1:1≤x.state
 s8:x.state≤8
 m0:0≤x.most
 m1:x.most≤1073725440
 w0:0≤x.window
 w1:x.window≤x.most
 t0:0≤x.timer
 t4:x.timer≤4
 t3:x.state≠7→x.timer≤3
 r0:0≤x.tries
 r3:x.tries≤3
 fl:XO x.state x.s.fin x.s.done x.r.done=true
theorem BN (x:Conn):bI.f (x,())=true↔CO x:=by
 rw[Gd]
 simp only[Bool.and_eq_true,decide_eq_true_eq,H8]
 have et:(bif x.state==7 then decide (x.timer≤4)else decide (x.timer≤3))=true↔x.timer≤4∧(x.state≠7→x.timer≤3):=by
  by_cases h:x.state=7
  ·simp[h]
  ·have h2:(x.state==7)=false:=by simpa using h
   simp only[h2,cond_false,decide_eq_true_eq]
   exact⟨λh3=>⟨by omega,λ_=>h3⟩,λh3=>h3.2 h⟩
 rw[et]
 constructor
 ·rintro⟨h1,h2,h3,h4,⟨h5,h6⟩,⟨h7,h8⟩,⟨h9,h10⟩,⟨h11,h12,h13⟩,⟨h14,h15⟩,h16⟩
  exact⟨h1,h2,h3,h4,h5,h6,h7,h8,h9,h10,h11,h12,h13,h14,h15,h16⟩
 ·rintro⟨h1,h2,h3,h4,h5,h6,h7,h8,h9,h10,h11,h12,h13,h14,h15,h16⟩
  exact⟨h1,h2,h3,h4,⟨h5,h6⟩,⟨h7,h8⟩,⟨h9,h10⟩,⟨h11,h12,h13⟩,⟨h14,h15⟩,h16⟩
structure Sent (c d:Conn):Prop where
 so:SO d.s
 s1:d.s.data=c.s.data
 s2:d.s.fin=c.s.fin
 s3:d.s.done=c.s.done
 s4:d.s.una=c.s.una
 tm:d.timer=c.timer∨d.timer=3
 re:d={c with s:=d.s,timer:=d.timer}
theorem Sent.refl (c:Conn)(h:SO c.s):Sent c c:=⟨h,rfl,rfl,rfl,rfl,.inl rfl,rfl⟩
theorem Sent.ok {c d:Conn}(h:Sent c d)(hc:CO c)(ht:d.timer≤3∨d.timer=c.timer):CO d:=by
 obtain⟨so,s1,s2,s3,s4,tm,re⟩:=h
 obtain⟨t,st,s,r,w,m,o,ti,tr⟩:=c
 obtain⟨t',st',s',r',w',m',o',ti',tr'⟩:=d
 simp only[Conn.mk.injEq]at re
 obtain⟨rfl,rfl,-,rfl,rfl,rfl,rfl,-,rfl⟩:=re
 simp only[]at*
 refine⟨hc.tup,so,hc.rcv,hc.opt,hc.s1,hc.s8,hc.m0,hc.m1,hc.w0,hc.w1, ?_, ?_, ?_,hc.r0,hc.r3, ?_⟩
 ·have:=hc.t0;simp only[]at*;omega
 ·have:=hc.t4;simp only[]at*;omega
 ·intro h7;have:=hc.t3 h7;simp only[]at*;omega
 ·have:=hc.fl;simp only[]at*;rw[s2,s3];exact this
theorem Ju {x:Sndr}(h:SO x):bU x:=by
 have:=h.2.2.1
 unfold bU;grind
theorem MF (x:Sndr)(w m:Int)(y:Chun)(hy:(aV.f (x,w,m,()))=(y,true))(hx:SO x):SO (di.f (x,y,()))∧(di.f (x,y,())).data=x.data∧(di.f (x,y,())).fin=x.fin∧(di.f (x,y,())).done=x.done∧(di.f (x,y,())).una=x.una∧Fz (di.f (x,y,()))<Fz x:=by
 have h1:=aV.c.h (x,w,m,()) (Ju hx)
 change oX (aV.f (x,w,m,())).1∧((aV.f (x,w,m,())).2=true→_)at h1
 have e1:(aV.f (x,w,m,())).1=y:=by rw[hy]
 have e2:(aV.f (x,w,m,())).2=true:=by rw[hy]
 obtain⟨h2,h3⟩:=h1
 obtain⟨-,h4,h5,h6,h7⟩:=h3 e2
 simp only[e1]at h2 h4 h5 h6 h7
 clear e1 e2
 have h8:=(di.c.h (x,y,()) ⟨Ju hx,h2⟩).2 hx h4 h5 h7
 change di.f (x,y,())=_ at h8
 rw[h8]
 obtain⟨e1,e2,e3,e4,e5,e6,e7⟩:=hx
 refine⟨⟨e1,e2,e3, ?_, ?_, ?_, ?_⟩,rfl,rfl,rfl,rfl, ?_⟩
 ·show 0≤x.sent+(y.text.length:Int);omega
 ·show x.sent+(y.text.length:Int)≤(x.data.length:Int);omega
 ·intro hf;exact⟨(h7 hf).1,(h7 hf).2.2⟩
 ·intro hd
  refine⟨(e7 hd).1, ?_,(e7 hd).2.2⟩
  show y.fin=false
  cases hf:y.fin with
  |false=>rfl
  |true=>have:=(h7 hf).2.1;rw[this]at hd;cases hd
 ·show((x.data.length:Int)-(x.sent+(y.text.length:Int))).toNat+(if y.fin=true then 0 else 1)<((x.data.length:Int)-x.sent).toNat+(if x.finSent=true then 0 else 1)
  rw[h5]
  simp only[Bool.false_eq_true,if_false]
  have hl:y.text=[]∨0<y.text.length:=by cases y.text<;>simp
  rcases hl with hl|hl
  ·rw[h6 hl];simp only[if_true];omega
  ·split<;>omega
theorem pf (w:Int)(c:Conn)(a:Conn×Conn×List Segm)(h:Sent c a.2.1):(∃l,(bO w a).nice= .out (({a.1 with r.held:=[]}:Conn),a.2.1,l))∨(∃a',(bO w a).nice= .next a'∧Sent c a'.2.1∧Fz a'.2.1.s<Fz a.2.1.s):=by
 obtain⟨a1,a2,al⟩:=a
 simp only[]at h
 simp only[PX,bO]
 obtain⟨z,hz⟩:∃z,aV.f (a2.s,w,df.f (a2,()),())=z:=⟨_,rfl⟩
 simp only[hz]
 obtain⟨y,b⟩:=z
 cases b with
 |false=>exact .inl ⟨_,rfl⟩
 |true=>
  obtain⟨k1,k2,k3,k4,k5,k6⟩:=MF a2.s w _ y hz h.so
  obtain⟨x,hx⟩:∃x,di.f (a2.s,y,())=x:=⟨_,rfl⟩
  rw[hx]at k1 k2 k3 k4 k5 k6
  simp only[hx]
  have hs:Sent c ({a2 with s:=x}:Conn):=by
   obtain⟨so,s1,s2,s3,s4,tm,re⟩:=h
   refine⟨k1,k2.trans s1,k3.trans s2,k4.trans s3,k5.trans s4,tm, ?_⟩
   rw[re]
  cases(y.text==[])<;>cases y.fin<;>exact .inr ⟨_,rfl,hs,k6⟩
theorem L0 (c:Conn)(w:Int)(hc:SO c.s):Sent c (dQ.f (c,w,())).1:=by
 simp only[PX,dQ,dd,fy]
 cases(bif !bI.f (c,())then(true,())else bif (c.state==8)then(true,())else((c.state==7),())).1 with
 |true=>exact Sent.refl c hc
 |false=>
 simp only[cond_false]
 have key:=qM (f:=λa=>(bO w a).nice) (Inv:=λa=>Sent c a.2.1) (Q:=λp=>Sent c p.2.1) (meas:=λa=>Fz a.2.1.s) (λa hi a' he=>by
  rcases pf w c a hi with⟨l,e⟩|⟨a2,e,h1,h2⟩
  ·simp only[e]at he;cases he
  ·simp only[e,Stp.next.injEq]at he;subst he;exact⟨h1,h2⟩) (λa hi p he=>by
  rcases pf w c a hi with⟨l,e⟩|⟨a2,e,h1,h2⟩
  ·simp only[e,Stp.out.injEq]at he;subst he;exact hi
  ·simp only[e]at he;cases he) (Fz c.s+1) (⟨⟨0,0,0⟩,0,⟨0,[],0,false,false,false⟩,⟨0,[],[],0,false⟩,0,0,⟨0,0,false,false,0,0⟩,0,0⟩,c,[]) (Nat.lt_succ_self _) (Sent.refl c hc)
 obtain⟨q,hq⟩:∃q,cF (λa=>(bO w a).nice) (Fz c.s+1) (⟨⟨0,0,0⟩,0,⟨0,[],0,false,false,false⟩,⟨0,[],[],0,false⟩,0,0,⟨0,0,false,false,0,0⟩,0,0⟩,c,[])=q:=⟨_,rfl⟩
 rw[hq]at key
 simp only[hq]
 obtain⟨q1,q2,q3⟩:=q
 simp only[]at key⊢
 cases(bif decide (0<(q3.length:Int))then((q2.timer==0),())else(false,())).1 with
 |false=>exact key
 |true=>
  obtain⟨so,s1,s2,s3,s4,tm,re⟩:=key
  refine⟨so,s1,s2,s3,s4,.inr rfl, ?_⟩
  exact congrArg (λd:Conn=>({d with timer:=3}:Conn)) re
theorem zK (a b:Tupl):kw a b=true↔a=b:=by
 obtain⟨a1,a2,a3⟩:=a
 obtain⟨b1,b2,b3⟩:=b
 simp only[kw,Bool.and_true,Bool.and_eq_true,beq_iff_eq,Tupl.mk.injEq]
 constructor<;>rintro⟨rfl,rfl,rfl⟩<;>exact⟨rfl,rfl,rfl⟩
theorem tX {T:Type}(f:T→Tupl)(xs:List T)(t:Tupl):xs.any (λh=>kw t (f h))=true↔t∈xs.map f:=by
 simp only[List.any_eq_true,List.mem_map,zK]
 constructor
 ·rintro⟨x,h1,h2⟩;exact⟨x,h1,h2.symm⟩
 ·rintro⟨x,h1,h2⟩;exact⟨x,h1,h2.symm⟩
theorem wi {T:Type}(f:T→Tupl)(xs:List T):(∀(j:Nat) (y:T),xs[j]? =some y→(xs.take j).any (λh=>kw (f y) (f h))=false)↔(xs.map f).Nodup:=by
 unfold List.Nodup
 rw[List.pairwise_iff_getElem]
 constructor
 ·intro h i j hi hj hij he
  rw[List.length_map]at hi hj
  simp only[List.getElem_map]at he
  have:=h j xs[j] (List.getElem?_eq_getElem hj)
  rw[List.any_eq_false]at this
  refine this xs[i] ?_ ((zK _ _).2 he.symm)
  rw[List.mem_take_iff_getElem]
  exact⟨i,by omega,rfl⟩
 ·intro h j y hy
  rw[List.any_eq_false]
  intro z hz he
  rw[List.mem_take_iff_getElem]at hz
  obtain⟨i,hi,rfl⟩:=hz
  obtain⟨hj,rfl⟩:=List.getElem?_eq_some_iff.1 hy
  have:=h i j (by rw[List.length_map];omega) (by rw[List.length_map];exact hj) (by omega)
  simp only[List.getElem_map]at this
  exact this ((zK _ _).1 he).symm
structure LO (l:Limi):Prop where
 h1:1≤l.halves
 h2:l.halves≤64
 w1:1≤l.waiting
 w2:l.waiting≤16
 c1:1≤l.conns
 c2:l.conns≤16
 k0:0≤l.chal
 k1:l.chal≤1000
theorem Zr (l:Limi):fX.f (l,())=true↔LO l:=by
 simp only[PX,fX,av]
 have e:(bif decide (1≤l.halves)&&decide (l.halves≤64)then bif decide (1≤l.waiting)&&decide (l.waiting≤16)then bif decide (1≤l.conns)&&decide (l.conns≤16)then decide (0≤l.chal)&&decide (l.chal≤1000)else false else false else false)=((decide (1≤l.halves)&&decide (l.halves≤64))&&((decide (1≤l.waiting)&&decide (l.waiting≤16))&&((decide (1≤l.conns)&&decide (l.conns≤16))&&(decide (0≤l.chal)&&decide (l.chal≤1000))))):=by
  cases(decide (1≤l.halves)&&decide (l.halves≤64))<;>cases(decide (1≤l.waiting)&&decide (l.waiting≤16))<;>cases(decide (1≤l.conns)&&decide (l.conns≤16))<;>simp
 rw[e]
 simp only[Bool.and_eq_true,decide_eq_true_eq]
 constructor
 ·rintro⟨⟨h1,h2⟩,⟨h3,h4⟩,⟨h5,h6⟩,h7,h8⟩;exact⟨h1,h2,h3,h4,h5,h6,h7,h8⟩
 ·rintro⟨h1,h2,h3,h4,h5,h6,h7,h8⟩;exact⟨⟨h1,h2⟩,⟨h3,h4⟩,⟨h5,h6⟩,h7,h8⟩
structure TO (t:Tabl)(l:Limi):Prop where
 lim:LO l
 nc:(t.conns.length:Int)≤l.conns
 nw:(t.waiting.length:Int)≤l.waiting
 co:∀c∈t.conns,CO c
 dc:(t.conns.map Conn.tuple).Nodup
 dw:t.waiting.Nodup
 wc:∀w∈t.waiting,w∈t.conns.map Conn.tuple
theorem y5 {T:Type}{P:T→Prop}{xs:List T}:(∀(j:Nat) (y:T),xs[j]? =some y→P y)↔∀y∈xs,P y:=by
 constructor
 ·intro h y hy
  obtain⟨j,hj,rfl⟩:=List.getElem_of_mem hy
  exact h j _ (List.getElem?_eq_getElem hj)
 ·intro h j y hy;exact h y (Cv hy)
theorem Qy {T W:Type}{f:Int→Unit→Stp Unit W}(xs:List T){P:Nat→T→Prop}(h:∀(j:Nat) (y:T),xs[j]? =some y→(f (j:Int) ()= .next ()↔P j y)):a9 f 1 (Int.toNat ((xs.length:Int)-0)) 0 ()= .next ()↔∀(j:Nat) (y:T),xs[j]? =some y→P j y:=by
 rw[bf,show(0:Int)=((0:Nat):Int) from rfl,wy]
 constructor
 ·intro h1 j y hy
  exact(h j y hy).1 (h1 j (Nat.zero_le _) (by have:=(List.getElem?_eq_some_iff.1 hy).1;omega))
 ·intro h1 j _ h2
  exact(h j xs[j] (List.getElem?_eq_getElem (by omega))).2 (h1 j _ (List.getElem?_eq_getElem (by omega)))
theorem Gm (t:Tabl)(l:Limi):ck.f (t,l,())=true↔TO t l:=by
 have f1:=Qy t.conns (f:=λj a=>(ev t.conns t j a).nice) (P:=λj y=>CO y∧(t.conns.take j).any (λh=>kw y.tuple h.tuple)=false) (λj y hy=>by
  simp only[PX,ev,ah,getD_some hy,eI]
  rw[AF (λh:Conn=>kw y.tuple h.tuple) t.conns j y hy (ry _),←BN]
  cases bI.f (y,())<;>cases(t.conns.take j).any (λh=>kw y.tuple h.tuple)<;>simp)
 have f2:=Qy t.waiting (f:=λj a=>(ez t.waiting t j a).nice) (P:=λj y=>y∈t.conns.map Conn.tuple∧(t.waiting.take j).any (λh=>kw y h)=false) (λj y hy=>by
  simp only[PX,ez,ah,getD_some hy,eI,ue,X6]
  rw[AF (kw y) t.waiting j y hy (ry _),←tX]
  cases t.conns.any (λh=>kw y h.tuple)<;>cases(t.waiting.take j).any (λh=>kw y h)<;>simp)
 have f3:=wi Conn.tuple t.conns
 have f4:=wi (λx=>x) t.waiting
 rw[List.map_id']at f4
 have f5:a9 (λj a=>(ev t.conns t j a).nice) 1 (Int.toNat ((t.conns.length:Int)-0)) 0 ()= .next ()↔(∀c∈t.conns,CO c)∧(t.conns.map Conn.tuple).Nodup:=by
  rw[f1,←f3,←y5]
  exact⟨λh=>⟨λj y hy=>(h j y hy).1,λj y hy=>(h j y hy).2⟩,λh j y hy=>⟨h.1 j y hy,h.2 j y hy⟩⟩
 have f6:a9 (λj a=>(ez t.waiting t j a).nice) 1 (Int.toNat ((t.waiting.length:Int)-0)) 0 ()= .next ()↔(∀w∈t.waiting,w∈t.conns.map Conn.tuple)∧t.waiting.Nodup:=by
  rw[f2,←f4,←y5]
  exact⟨λh=>⟨λj y hy=>(h j y hy).1,λj y hy=>(h j y hy).2⟩,λh j y hy=>⟨h.1 j y hy,h.2 j y hy⟩⟩
 have e:ck.f (t,l,())=true↔fX.f (l,())=true∧(t.conns.length:Int)≤l.conns∧(t.waiting.length:Int)≤l.waiting∧a9 (λj a=>(ev t.conns t j a).nice) 1 (Int.toNat ((t.conns.length:Int)-0)) 0 ()= .next ()∧a9 (λj a=>(ez t.waiting t j a).nice) 1 (Int.toNat ((t.waiting.length:Int)-0)) 0 ()= .next ():=by
  simp only[PX,ck,eu,er]
  rw[show((t.conns.length:Int)≤l.conns)↔decide (l.conns<(t.conns.length:Int))=false by simp,show((t.waiting.length:Int)≤l.waiting)↔decide (l.waiting<(t.waiting.length:Int))=false by simp]
  cases fX.f (l,())<;>cases decide (l.conns<(t.conns.length:Int))<;>cases decide (l.waiting<(t.waiting.length:Int))<;>cases a9 (λj a=>(ev t.conns t j a).nice) 1 (Int.toNat ((t.conns.length:Int)-0)) 0 ()<;>cases a9 (λj a=>(ez t.waiting t j a).nice) 1 (Int.toNat ((t.waiting.length:Int)-0)) 0 ()<;>simp[Stp.elim]
 rw[e,Zr,f5,f6]
 constructor
 ·rintro⟨h1,h2,h3,⟨h4,h5⟩,h6,h7⟩;exact⟨h1,h2,h3,h4,h5,h7,h6⟩
 ·rintro⟨h1,h2,h3,h4,h5,h7,h6⟩;exact⟨h1,h2,h3,⟨h4,h5⟩,h6,h7⟩
structure HO (xs:List Half):Prop where
 ok:∀h∈xs,Ce h=true
 nd:(xs.map Half.tuple).Nodup
 len:xs.length≤64
theorem ZC (xs:List Half):fW.f (xs,())=true↔HO xs:=by
 rw[NF]
 have f3:=wi Half.tuple xs
 constructor
 ·rintro⟨h1,h2⟩
  exact⟨y5.1 λj y hy=>(h1 j y hy).1,f3.1 λj y hy=>(h1 j y hy).2,h2⟩
 ·rintro⟨h1,h2,h3⟩
  exact⟨λj y hy=>⟨h1 y (Cv hy),f3.2 h2 j y hy⟩,h3⟩
structure DO (d:Door):Prop where
 port:ai.f (d.port,16,())=true
 c0:0≤d.clock
 c1:d.clock≤4294967295
 keys:bL.f (d.keys,())=true
 tab:TO d.table d.limits
 hal:HO d.halves
 nh:(d.halves.length:Int)≤d.limits.halves
 k0:0≤d.chal
 k1:d.chal≤d.limits.chal
 ap:∀h∈d.halves,h.tuple∉d.table.conns.map Conn.tuple
theorem rj (d:Door):bB.f (d,())=true↔DO d:=by
 have e:bB.f (d,())=true↔ai.f (d.port,16,())=true∧ai.f (d.clock,32,())=true∧bL.f (d.keys,())=true∧ck.f (d.table,d.limits,())=true∧fW.f (d.halves,())=true∧(d.halves.length:Int)≤d.limits.halves∧(decide (0≤d.chal)&&decide (d.chal≤d.limits.chal))=true∧(d.halves.any (λh=>decide (0≤au.f (d.table,h.tuple,()))))=false:=by
  simp only[PX,bB,Hd,av]
  rw[show((d.halves.length:Int)≤d.limits.halves)↔decide (d.limits.halves<(d.halves.length:Int))=false by simp]
  generalize(decide (0≤d.chal)&&decide (d.chal≤d.limits.chal))=b1
  generalize decide (d.limits.halves<(d.halves.length:Int))=b2
  generalize(d.halves.any (λh=>decide (0≤au.f (d.table,h.tuple,()))))=b3
  cases ai.f (d.port,16,())<;>cases ai.f (d.clock,32,())<;>cases bL.f (d.keys,())<;>cases ck.f (d.table,d.limits,())<;>cases fW.f (d.halves,())<;>cases b1<;>cases b2<;>cases b3<;>simp
 rw[e,Gm,ZC,be]
 simp only[Bool.and_eq_true,decide_eq_true_eq,eI,lW]
 have f:(d.halves.any λh=>d.table.conns.any λc=>kw h.tuple c.tuple)=false↔∀h∈d.halves,h.tuple∉d.table.conns.map Conn.tuple:=by
  rw[List.any_eq_false]
  constructor
  ·intro h x hx hm;exact h x hx ((tX Conn.tuple _ _).2 hm)
  ·intro h x hx hm;exact h x hx ((tX Conn.tuple _ _).1 hm)
 rw[f]
 constructor
 ·rintro⟨h1,⟨h2,h2'⟩,h3,h4,h5,h6,⟨h7,h8⟩,h9⟩;exact⟨h1,h2,h2',h3,h4,h5,h6,h7,h8,h9⟩
 ·rintro⟨h1,h2,h2',h3,h4,h5,h6,h7,h8,h9⟩;exact⟨h1,⟨h2,h2'⟩,h3,h4,h5,h6,⟨h7,h8⟩,h9⟩
def oc (x:Recv):Int:=if x.done=true then 0 else 32-(x.data.length:Int)
theorem oz (x:Recv)(h:x.data.length≤32):0≤oc x∧oc x≤32:=by unfold oc;split<;>omega
structure RV (x:Recv):Prop where
 n0:0≤x.next
 n1:x.next≤4294967295
 dl:x.data.length≤32
 hl:x.held.length≤3
 f0: -1≤x.fin
 f1:x.fin≤oc x
 fz:x.fin≠0
 wk:∃b,eJ (if x.fin= -1 then oc x else x.fin) 0 x.held=some b
 dn:x.done=true→x.held=[]∧x.fin= -1
theorem hZ (x:Recv)(h:x.data.length≤32):bR.f (x,())=oc x:=by
 simp only[PX,bR]
 unfold oc
 rw[aA (by omega) (by omega)]
 cases x.done with
 |true=>rfl
 |false=>simp only[cond_false,Bool.false_eq_true,if_false];split<;>omega
theorem pO (x:Recv)(hs:bN x.held):bC.f (x,())=true↔RV x:=by
 simp only[PX,bC,cH,be]
 by_cases hn:0≤x.next∧x.next≤4294967295
 ·rw[decide_eq_true hn.1,decide_eq_true hn.2]
  by_cases hd:32<(x.data.length:Int)
  ·rw[decide_eq_true hd]
   exact⟨λh=>(by cases h),λh=>by have:=h.dl;omega⟩
  ·rw[decide_eq_false hd,hZ x (by omega)]
   have hw:=oz x (by omega)
   simp only[Bool.and_self,Bool.not_true,cond_false]
   by_cases hl:3<(x.held.length:Int)
   ·rw[decide_eq_true hl]
    exact⟨λh=>(by cases h),λh=>by have:=h.hl;omega⟩
   ·rw[decide_eq_false hl,av]
    simp only[cond_false]
    by_cases hf: -1≤x.fin∧x.fin≤oc x
    ·rw[decide_eq_true hf.1,decide_eq_true hf.2]
     simp only[Bool.and_self,Bool.not_true,cond_false]
     by_cases h0:x.fin=0
     ·rw[show(x.fin==0)=true by simp[h0]]
      exact⟨λh=>(by cases h),λh=>absurd h0 h.fz⟩
     ·rw[show(x.fin==0)=false by simp[h0]]
      simp only[cond_false]
      have ed:(bif !x.done then true else bif ((x.held.length:Int)==0)then(x.fin== -1)else false)=true↔(x.done=true→x.held=[]∧x.fin= -1):=by
       cases x.done with
       |false=>simp
       |true=>
        cases hh:x.held with
        |nil=>simp
        |cons p r=>
         have:(((p::r).length:Int)==0)=false:=by
          rw[beq_eq_false_iff_ne];simp only[List.length_cons];omega
         rw[this];simp
      have k2:=SK x (if x.fin= -1 then oc x else x.fin) (by split<;>omega) (by split<;>omega) hs
      have fin:∀L:Int,L=(if x.fin= -1 then oc x else x.fin)→(Stp.elim (λ_=>bif !x.done then true else bif ((x.held.length:Int)==0)then(x.fin== -1)else false) (λ_=>false) (a9 (λj a=>(dH L x.held j a).nice) 1 (Int.toNat ((x.held.length:Int)-0)) 0 0)=true↔RV x):=by
       intro L hL
       rw[hL]
       cases hp:eJ (if x.fin= -1 then oc x else x.fin) 0 x.held with
       |some b=>
        rw[hp]at k2;simp only[]at k2
        rw[k2]
        simp only[Stp.elim]
        rw[ed]
        exact⟨λh=>⟨hn.1,hn.2,by omega,by omega,hf.1,hf.2,h0,⟨b,hp⟩,h⟩,λh=>h.dn⟩
       |none=>
        rw[hp]at k2;obtain⟨w,k2⟩:=k2
        rw[k2]
        simp only[Stp.elim]
        refine⟨λh=>(by cases h),λh=> ?_⟩
        obtain⟨b,hb⟩:=h.wk
        rw[hp]at hb;cases hb
      by_cases h1:x.fin= -1
      ·rw[show(x.fin != -1)=false by simp[h1]]
       exact fin (oc x) (by rw[if_pos h1])
      ·rw[show(x.fin != -1)=true by simp[h1]]
       exact fin x.fin (by rw[if_neg h1])
    ·have:(decide (-1≤x.fin)&&decide (x.fin≤oc x))=false:=by
      rw[Bool.and_eq_false_iff];simp only[decide_eq_false_iff_not];omega
     rw[this]
     exact⟨λh=>(by cases h),λh=>absurd ⟨h.f0,h.f1⟩ hf⟩
 ·have:(decide (0≤x.next)&&decide (x.next≤4294967295))=false:=by
   rw[Bool.and_eq_false_iff];simp only[decide_eq_false_iff_not];omega
  rw[this]
  exact⟨λh=>(by cases h),λh=>absurd ⟨h.n0,h.n1⟩ hn⟩
theorem CO.set {c:Conn}(h:CO c)(k t r:Int)(hk:k=c.state∨k=8)(t0:0≤t)(t4:t≤4)(t3:k≠7→t≤3)(r0:0≤r)(r3:r≤3):CO ({c with state:=k,timer:=t,tries:=r}:Conn):=by
 have h1:=h.s1
 have h8:=h.s8
 refine⟨h.tup,h.snd,h.rcv,h.opt, ?_, ?_,h.m0,h.m1,h.w0,h.w1,t0,t4,t3,r0,r3, ?_⟩
 ·show 1≤k;omega
 ·show k≤8;omega
 ·show XO k c.s.fin c.s.done c.r.done=true
  rcases hk with rfl|rfl
  ·exact h.fl
  ·rfl
def qP (p:Piec):Int:=p.off+(p.text.length:Int)
def JE:List Piec→Int→List Int→List Piec
 |out,_,[]=>out
 |out,i,s::r=>if s<0 then JE out (i+1) r else
  match out.getLast? with
  |none=>JE (out++[⟨i,ar [s]⟩]) (i+1) r
  |some p=>if qP p=i then JE (out.dropLast++[⟨p.off,p.text++ar [s]⟩]) (i+1) r else JE (out++[⟨i,ar [s]⟩]) (i+1) r
def cg:Nat→Int→List Int→List Piec
 |_,_,[]=>[]
 |0,_,_::_=>[]
 |k+1,i,s::r=>if s<0 then cg k (i+1) r else
  ⟨i,ar (s::r.takeWhile (λx=>decide (0≤x)))⟩::cg k (i+1+((r.takeWhile (λx=>decide (0≤x))).length:Int)) (r.dropWhile (λx=>decide (0≤x)))
theorem DM (a b:List Int):ar (a++b)=ar a++ar b:=by simp[ar]
theorem TG (out:List Piec)(o:Int)(x:ax):∀(t r:List Int) (x:ax),(∀s∈t,0≤s)→JE (out++[⟨o,x⟩]) (o+(x.length:Int)) (t++r)=JE (out++[⟨o,x++ar t⟩]) (o+(x.length:Int)+(t.length:Int)) r
 |[],r,x,_=>by simp[ar]
 |s::t,r,x,h=>by
  have hs:¬s<0:=by have:=h s (List.mem_cons_self ..);omega
  have ih:=TG out o x t r (x++ar [s]) (λy hy=>h y (List.mem_cons_of_mem _ hy))
  simp only[List.cons_append,JE,if_neg hs,List.getLast?_append,List.getLast?_singleton,Option.some_or,qP,if_true,List.dropLast_concat]
  have e:o+(x.length:Int)+1=o+((x++ar [s]).length:Int):=by rw[List.length_append,bj];simp;omega
  rw[e,ih]
  rw[List.append_assoc,←DM]
  congr 1
  rw[List.length_append,bj];simp;omega
theorem HC:∀(k:Nat) (out:List Piec) (i:Int) (r:List Int),r.length≤k→(∀p,out.getLast? =some p→qP p<i)→JE out i r=out++cg k i r
 |_,out,i,[],_,_=>by simp[JE,cg]
 |0,_,_,_::_,h,_=>by simp at h
 |k+1,out,i,s::r,h,hl=>by
  simp only[List.length_cons]at h
  by_cases hs:s<0
  ·simp only[JE,cg,if_pos hs]
   exact HC k out (i+1) r (by omega) (λp hp=>by have:=hl p hp;omega)
  ·have e0:JE out i (s::r)=JE (out++[⟨i,ar [s]⟩]) (i+1) r:=by
    simp only[JE,if_neg hs]
    cases hg:out.getLast? with
    |none=>rfl
    |some p=>simp only[if_neg (show¬qP p=i by have:=hl p hg;omega)]
   simp only[cg,if_neg hs]
   rw[e0]
   have hr:r=r.takeWhile (λx=>decide (0≤x))++r.dropWhile (λx=>decide (0≤x)):=(List.takeWhile_append_dropWhile).symm
   have hrun:=TG out i (ar [s]) (r.takeWhile (λx=>decide (0≤x))) (r.dropWhile (λx=>decide (0≤x))) (ar [s]) (λy hy=>by
    have:=List.all_eq_true.1 (List.all_takeWhile (p:=λx:Int=>decide (0≤x)) (l:=r)) y hy;simpa using this)
   rw[←hr,show((ar [s]).length:Int)=1 by simp[bj]]at hrun
   rw[hrun,←DM,List.singleton_append]
   generalize hT:r.takeWhile (λx=>decide (0≤x))=T at*
   generalize hD:r.dropWhile (λx=>decide (0≤x))=D at*
   have hDl:D.length≤k:=by
    have:=congrArg List.length hr
    rw[List.length_append]at this;omega
   cases D with
   |nil=>simp[JE,cg]
   |cons d D=>
    have hd:d<0:=by
     have:=List.head?_dropWhile_not (λx=>decide (0≤x)) r
     rw[hD]at this
     simp at this;omega
    cases k with
    |zero=>simp at hDl
    |succ k=>
     simp only[JE,cg,if_pos hd]
     simp only[List.length_cons]at hDl
     rw[HC k _ _ D (by omega) (λp hp=>by
      simp only[List.getLast?_append,List.getLast?_singleton,Option.some_or,Option.some.injEq]at hp
      subst hp
      simp only[qP,bj,List.length_cons]
      omega)]
     simp
theorem rm {p:Int→Bool}:∀(r:List Int) (j:Nat),j<(r.takeWhile p).length→∃s,r[j]? =some s∧p s=true
 |[],j,h=>by simp at h
 |s::r,j,h=>by
  cases hp:p s with
  |false=>simp[List.takeWhile_cons,hp]at h
  |true=>
   cases j with
   |zero=>exact⟨s,rfl,hp⟩
   |succ j=>
    simp only[List.takeWhile_cons,hp,if_true,List.length_cons]at h
    obtain⟨t,h1,h2⟩:=rm (p:=p) r j (by omega)
    exact⟨t,by simpa using h1,h2⟩
theorem CJ (L:Int):∀(k:Nat) (i:Int) (r:List Int) (a:Int),r.length≤k→a<i→(∀(p:Nat) (s:Int),r[p]? =some s→0≤s→i+(p:Int)+1≤L)→∃b,eJ L a (cg k i r)=some b
 |0,_,[],a,_,_,_=>⟨a,by simp[cg,eJ]⟩
 |_+1,_,[],a,_,_,_=>⟨a,by simp[cg,eJ]⟩
 |0,_,_::_,_,h,_,_=>by simp at h
 |k+1,i,s::r,a,h,ha,hL=>by
  simp only[List.length_cons]at h
  by_cases hs:s<0
  ·simp only[cg,if_pos hs]
   exact CJ L k (i+1) r a (by omega) (by omega) (λp t hp ht=>by
    have:=hL (p+1) t (by simpa using hp) ht;omega)
  ·simp only[cg,if_neg hs,eJ]
   generalize hT:r.takeWhile (λx=>decide (0≤x))=T at*
   have hn:(ar (s::T)==[])=false:=by rw[beq_eq_false_iff_ne];simp[ar]
   have hend:i+((ar (s::T)).length:Int)≤L:=by
    rw[bj,List.length_cons]
    rcases Nat.eq_zero_or_pos T.length with h0|h0
    ·have:=hL 0 s rfl (by omega);omega
    ·obtain⟨t,h1,h2⟩:=rm (p:=λx:Int=>decide (0≤x)) r (T.length-1) (by rw[hT];omega)
     have:=hL (T.length-1+1) t (by simpa using h1) (by simpa using h2)
     omega
   rw[hn,decide_eq_false (show¬i≤a by omega),decide_eq_false (show¬L<i+((ar (s::T)).length:Int) by omega)]
   simp only[Bool.or_false,cond_false]
   have hr:r=T++r.dropWhile (λx=>decide (0≤x)):=by rw[←hT];exact(List.takeWhile_append_dropWhile).symm
   generalize hD:r.dropWhile (λx=>decide (0≤x))=D at*
   have hDl:D.length≤k:=by
    have:=congrArg List.length hr
    rw[List.length_append]at this;omega
   cases D with
   |nil=>exact⟨_,by simp[cg,eJ];rfl⟩
   |cons d D=>
    have hd:d<0:=by
     have:=List.head?_dropWhile_not (λx=>decide (0≤x)) r
     rw[hD]at this
     simp at this;omega
    cases k with
    |zero=>simp at hDl
    |succ k=>
     simp only[cg,if_pos hd]
     simp only[List.length_cons]at hDl
     rw[bj,List.length_cons]
     exact CJ L k _ D _ (by omega) (by omega) (λp t hp ht=>by
      have:=hL (1+T.length+(p+1)) t (by
       rw[hr,show 1+T.length+(p+1)=(T.length+(p+1))+1 by omega,List.getElem?_cons_succ,List.getElem?_append_right (by omega),show T.length+(p+1)-T.length=p+1 by omega]
       simpa using hp) ht
      omega)
theorem GO:∀(k:Nat) (i:Int) (r:List Int),(∀s∈r,s<0)→cg k i r=[]
 |0,_,[],_=>by simp[cg]
 |0,_,_::_,_=>by simp[cg]
 |_+1,_,[],_=>by simp[cg]
 |k+1,i,s::r,h=>by
  simp only[cg,if_pos (h s (List.mem_cons_self ..))]
  exact GO k (i+1) r (λt ht=>h t (List.mem_cons_of_mem _ ht))
def az (sl:List Int):Nat:=(sl.takeWhile (λx=>decide (0≤x))).length
theorem qO (sl:List Int)(j:Nat)(h:j<az sl):∃s,sl[j]? =some s∧0≤s:=by
 obtain⟨s,h1,h2⟩:=rm (p:=λx:Int=>decide (0≤x)) sl j h
 exact⟨s,h1,by simpa using h2⟩
theorem BX (sl:List Int)(s:Int)(h:sl[az sl]? =some s):s<0:=by
 unfold az at h
 have e:sl=sl.takeWhile (λx=>decide (0≤x))++sl.dropWhile (λx=>decide (0≤x)):=(List.takeWhile_append_dropWhile).symm
 have h2:(sl.dropWhile (λx=>decide (0≤x)))[0]? =some s:=by
  have h3:=h
  rw[e,List.getElem?_append_right (by rw[←e];exact Nat.le_refl _)]at h3
  rw[←e,Nat.sub_self]at h3
  exact h3
 have:=List.head?_dropWhile_not (λx:Int=>decide (0≤x)) sl
 rw[List.head?_eq_getElem?,h2]at this
 simp at this;omega
def Mv (x:Recv)(sl:List Int)(F:Int):Recv:=
 if 3<(cg 33 0 (sl.drop (az sl))).length then x
 else if F-(az sl:Int)=0 then⟨(x.next+(az sl:Int)+1)%4294967296,x.data++ar (sl.take (az sl)),cg 33 0 (sl.drop (az sl)),-1,true⟩
 else⟨(x.next+(az sl:Int))%4294967296,x.data++ar (sl.take (az sl)),cg 33 0 (sl.drop (az sl)),if F= -1 then-1 else F-(az sl:Int),x.done⟩
theorem TF (x:Recv)(sl:List Int)(F:Int)(hx:RV x)(hd:x.done=false)(hl:sl.length=33)(h0: -1≤F)(hF:F≤oc x)(hz:∀(k:Nat) (s:Int),sl[k]? =some s→0≤s→(k:Int)<(if F= -1 then oc x else F)):RV (Mv x sl F):=by
 have hw:oc x=32-(x.data.length:Int):=by unfold oc;rw[hd];rfl
 have hdl:=hx.dl
 have hn:(az sl:Int)≤(if F= -1 then oc x else F):=by
  rcases Nat.eq_zero_or_pos (az sl)with h|h
  ·rw[h];split<;>omega
  ·obtain⟨s,h1,h2⟩:=qO sl (az sl-1) (by omega)
   have:=hz _ s h1 h2
   omega
 have hn2:(az sl:Int)≤oc x:=by split at hn<;>omega
 have htk:(sl.take (az sl)).length=az sl:=by rw[List.length_take];omega
 have hdd:∀(p:Nat) (s:Int),(sl.drop (az sl))[p]? =some s→0≤s→(p:Int)+1≤(if F= -1 then oc x else F)-(az sl:Int)∧0<p:=by
  intro p s hp hs
  rw[List.getElem?_drop]at hp
  have h1:=hz _ s hp hs
  refine⟨by omega, ?_⟩
  rcases Nat.eq_zero_or_pos p with h|h
  ·subst h
   have:=BX sl s (by simpa using hp)
   omega
  ·exact h
 have hwk:∃b,eJ ((if F= -1 then oc x else F)-(az sl:Int)) 0 (cg 33 0 (sl.drop (az sl)))=some b:=by
  cases hD:sl.drop (az sl)with
  |nil=>exact⟨0,by simp[cg,eJ]⟩
  |cons d D=>
   have hd0:d<0:=by
    apply Int.not_le.1
    intro h
    have:=(hdd 0 d (by rw[hD];rfl) h).2
    omega
   have hDl:D.length≤32:=by
    have:=congrArg List.length hD
    rw[List.length_drop,List.length_cons]at this;omega
   show∃b,eJ _ 0 (cg (32+1) 0 (d::D))=some b
   simp only[cg,if_pos hd0]
   exact CJ _ 32 (0+1) D 0 hDl (by omega) (λp s hp hs=>by
    have:=(hdd (p+1) s (by rw[hD];simpa using hp) hs).1
    omega)
 unfold Mv
 by_cases h3:3<(cg 33 0 (sl.drop (az sl))).length
 ·rw[if_pos h3];exact hx
 ·rw[if_neg h3]
  by_cases h4:F-(az sl:Int)=0
  ·rw[if_pos h4]
   have hne:∀s∈sl.drop (az sl),s<0:=by
    intro s hs
    obtain⟨p,hp,rfl⟩:=List.getElem_of_mem hs
    apply Int.not_le.1
    intro h
    have:=(hdd p _ (List.getElem?_eq_getElem hp) h).1
    have hm1:F≠-1:=by omega
    rw[if_neg hm1]at this
    omega
   rw[GO _ _ _ hne]
   refine⟨by show 0≤(x.next+(az sl:Int)+1)%4294967296;omega,by show(x.next+(az sl:Int)+1)%4294967296≤4294967295;omega, ?_,Nat.zero_le _,Int.le_refl _, ?_,by show(-1:Int)≠0;omega,⟨0,by simp[eJ]⟩,λ_=>⟨rfl,rfl⟩⟩
   ·show(x.data++ar (sl.take (az sl))).length≤32
    rw[List.length_append,bj,htk];omega
   ·show(-1:Int)≤oc _
    unfold oc;rw[if_pos rfl];omega
  ·rw[if_neg h4]
   have hlen:(x.data++ar (sl.take (az sl))).length=x.data.length+az sl:=by rw[List.length_append,bj,htk]
   have hwin:∀(nx:Int) (hh:List Piec) (f:Int),oc ⟨nx,x.data++ar (sl.take (az sl)),hh,f,x.done⟩=oc x-(az sl:Int):=by
    intro nx hh f
    unfold oc
    simp only[hd,Bool.false_eq_true,if_false,hlen]
    omega
   refine⟨by show 0≤(x.next+(az sl:Int))%4294967296;omega,by show(x.next+(az sl:Int))%4294967296≤4294967295;omega,by show(x.data++ar (sl.take (az sl))).length≤32;omega,by show(cg 33 0 (sl.drop (az sl))).length≤3;omega, ?_, ?_, ?_, ?_,λh=>by rw[show({next:=(x.next+(az sl:Int))%4294967296,data:=x.data++ar (sl.take (az sl)),held:=cg 33 0 (sl.drop (az sl)),fin:=if F= -1 then-1 else F-(az sl:Int),done:=x.done}:Recv).done=x.done from rfl,hd]at h;cases h⟩
   ·show-1≤(if F= -1 then-1 else F-(az sl:Int))
    split
    ·omega
    ·rename_i hm;rw[if_neg hm]at hn;omega
   ·show(if F= -1 then-1 else F-(az sl:Int))≤oc _
    rw[hwin]
    split<;>omega
   ·show(if F= -1 then-1 else F-(az sl:Int))≠0
    split<;>omega
   ·show∃b,eJ (if(if F= -1 then-1 else F-(az sl:Int))= -1 then oc _ else(if F= -1 then-1 else F-(az sl:Int))) 0 (cg 33 0 (sl.drop (az sl)))=some b
    rw[hwin]
    by_cases hm:F= -1
    ·simp only[if_pos hm]at hwk⊢
     exact hwk
    ·rw[if_neg hm]at hn
     simp only[if_neg hm]at hwk⊢
     rw[if_neg (show¬F-(az sl:Int)= -1 by omega)]
     exact hwk
def qr:List Int→Nat→ax→List Int
 |sl,_,[]=>sl
 |sl,o,b::t=>qr (sl.set o (b.toNat:Int)) (o+1) t
theorem GH:∀(t:ax) (sl:List Int) (o:Nat),(qr sl o t).length=sl.length
 |[],_,_=>rfl
 |_::t,sl,o=>by simp only[qr,GH t,List.length_set]
def nv (held:List Piec):List Int:=held.foldl (λsl p=>qr sl p.off.toNat p.text) (List.replicate 33 (-1))
theorem LQ (t:ax)(k:Nat)(hk:k<t.length):ci t k=(t[k].toNat:Int):=by
 simp[ci,List.getD,hk]
theorem Fy (b:UInt8):(b.toNat:Int)≤255:=by have:=b.toNat_lt;omega
theorem T5 (p:Piec)(h1:1≤p.off)(h2:p.off+(p.text.length:Int)≤32){f:Int×List Int→Stp (Int×List Int) (List Int)}(hf:∀(k:Nat) sl,f ((k:Int),sl)=bif decide ((k:Int)<(p.text.length:Int))then .next (IntKind.wrap .i64 ((k:Int)+1),sl.set (IntKind.wrap .i64 (p.off+(k:Int))).toNat (IntKind.wrap .i64 (ci p.text k)))else .out sl):∀(n k:Nat) (sl:List Int),k+n=p.text.length→cF f (n+1) ((k:Int),sl)=qr sl (p.off.toNat+k) (p.text.drop k)
 |0,k,sl,h=>by
  simp only[cF,hf,decide_eq_false (show¬(k:Int)<(p.text.length:Int) by omega),cond_false,Stp.elim]
  rw[List.drop_of_length_le (by omega)]
  rfl
 |n+1,k,sl,h=>by
  have hk:k<p.text.length:=by omega
  rw[cF]
  simp only[hf,decide_eq_true (show(k:Int)<(p.text.length:Int) by omega),cond_true,Stp.elim]
  rw[aA (m:=p.off+(k:Int)) (by omega) (by omega),aA (m:=(k:Int)+1) (by omega) (by omega),LQ _ _ hk,aA (by omega) (by have:=Fy p.text[k];omega)]
  rw[show(k:Int)+1=((k+1:Nat):Int) by omega,show(p.off+(k:Int)).toNat=p.off.toNat+k by omega]
  rw[T5 p h1 h2 hf n (k+1) _ (by omega),List.drop_eq_getElem_cons hk]
  rfl
theorem SQ (x:Recv)(h:dP po x.held):tz.f (x,())=nv x.held:=by
 have e0:a9 (λj a=>(uz j a).nice) 1 (Int.toNat (((List.replicate 33 (0:Int)).length:Int)-0)) 0 (List.replicate 33 (0:Int))= .next (List.replicate 33 (-1)):=by rfl
 simp only[PX,tz,ca,eR]
 rw[e0]
 simp only[Stp.elim]
 rw[bf,d7 x.held _ rfl (F:=λ_ p (a:List Int)=> .next (qr a p.off.toNat p.text)) (by
  intro j p a hp
  have hpo:=h p (Cv hp)
  unfold po at hpo
  have:=T5 p hpo.1 hpo.2 (f:=λa=>(mF (j:Int) x a).nice) (λk sl=>by
   simp only[mF,PX,ah,getD_some hp]) p.text.length 0 a (by omega)
  simp only[PX,uu,dG,ah,getD_some hp]
  rw[show Int.toNat ((p.text.length:Int)-0)=p.text.length by omega]
  exact congrArg Stp.next this)]
 have:∀(r:List Piec) (j:Nat) (a:List Int),gX (W:=Empty) (λ_ p (a:List Int)=> .next (qr a p.off.toNat p.text)) j r a= .next (r.foldl (λsl p=>qr sl p.off.toNat p.text) a):=by
  intro r
  induction r with
  |nil=>intro j a;rfl
  |cons p r ih=>intro j a;simp only[gX,Stp.elim,ih,List.foldl_cons]
 rw[this]
 simp only[Stp.elim]
 rfl
theorem Yr {m:Int}(h0:0≤m)(h1:m≤255):IntKind.wrap .u8 m=m:=by
 rw[sA];omega
def y4 (x:Recv)(seq w:Int)(sl:List Int)(j:Nat)(b:UInt8):List Int:=
 if(seq+(j:Int)-x.next)%4294967296<w∧(x.fin<0∨(seq+(j:Int)-x.next)%4294967296<x.fin)∧sl.getD ((seq+(j:Int)-x.next)%4294967296).toNat 0<0 then sl.set ((seq+(j:Int)-x.next)%4294967296).toNat (b.toNat:Int)else sl
def xg (x:Recv)(seq w:Int):List Int→Nat→ax→List Int
 |sl,_,[]=>sl
 |sl,j,b::t=>xg x seq w (y4 x seq w sl j b) (j+1) t
theorem W1 (x:Recv)(seq w:Int)(sl:List Int)(j:Nat)(b:UInt8):(y4 x seq w sl j b).length=sl.length:=by
 unfold y4;split<;>simp
theorem QI (x:Recv)(seq w:Int):∀(t:ax) (sl:List Int) (j:Nat),(xg x seq w sl j t).length=sl.length
 |[],_,_=>rfl
 |b::t,sl,j=>by simp only[xg,QI x seq w t,W1]
theorem TU (a n:Int):((a%4294967296)-n)%4294967296=(a-n)%4294967296:=by omega
theorem KX {A W:Type}(z:A→A)(g:List Int→Nat→UInt8→List Int):∀(t:ax) (j:Nat) (r:A) (sl:List Int),∃r2,gX (W:=W) (λj b (a:A×List Int)=> .next (z a.1,g a.2 j b)) j t (r,sl)= .next (r2,(t.foldl (λ(p:List Int×Nat) b=>(g p.1 p.2 b,p.2+1)) (sl,j)).1)
 |[],j,r,sl=>⟨r,rfl⟩
 |b::t,j,r,sl=>by
  obtain⟨r2,e⟩:=KX z g t (j+1) (z r) (g sl j b)
  refine⟨r2, ?_⟩
  simp only[gX,Stp.elim,List.foldl_cons]
  exact e
theorem Lm (x:Recv)(seq w:Int):∀(t:ax) (sl:List Int) (j:Nat),(t.foldl (λ(p:List Int×Nat) b=>(y4 x seq w p.1 p.2 b,p.2+1)) (sl,j)).1=xg x seq w sl j t
 |[],_,_=>rfl
 |b::t,sl,j=>by simp only[List.foldl_cons,xg,Lm x seq w t]
theorem ZW (x:Recv)(seq w:Int)(t:ax)(hn:0≤x.next∧x.next≤4294967295)(ht:t.length≤4294967296)(r:Recv)(sl:List Int):∃r2,a9 (λj a=>(qi seq t w x j a).nice) 1 (Int.toNat ((t.length:Int)-0)) 0 (r,sl)= .next (r2,xg x seq w sl 0 t):=by
 obtain⟨r2,e⟩:=KX (W:=Empty) (λr:Recv=>({r with held:=[]}:Recv)) (y4 x seq w) t 0 r sl
 refine⟨r2, ?_⟩
 rw[bf,d7 t _ rfl (F:=λj b (a:Recv×List Int)=> .next (({a.1 with held:=[]}:Recv),y4 x seq w a.2 j b)) (by
  intro j b a hb
  have hbt:ci t j=(b.toNat:Int):=by simp[ci,List.getD,hb]
  have hb8:=Fy b
  have e1:(IntKind.wrap .i64 ((seq+(j:Int))%4294967296-x.next))%4294967296=(seq+(j:Int)-x.next)%4294967296:=by
   rw[aA (by omega) (by omega),TU]
  simp only[PX,qi,i1,bD,nu,ah,hbt,e1]
  rw[aA (by omega) (by omega)]
  unfold y4
  generalize(seq+(j:Int)-x.next)%4294967296=o
  by_cases c1:o<w
  ·by_cases c2:x.fin<0
   ·by_cases c3:a.2.getD o.toNat 0<0
    ·simp only[decide_eq_true c1,decide_eq_true c2,decide_eq_true c3,cond_true,if_pos (show o<w∧(x.fin<0∨o<x.fin)∧a.2.getD o.toNat 0<0 from⟨c1,.inl c2,c3⟩)]
    ·simp only[decide_eq_true c1,decide_eq_true c2,decide_eq_false c3,cond_true,cond_false,if_neg (show¬(o<w∧(x.fin<0∨o<x.fin)∧a.2.getD o.toNat 0<0) from λh=>c3 h.2.2)]
   ·by_cases c4:o<x.fin
    ·by_cases c3:a.2.getD o.toNat 0<0
     ·simp only[decide_eq_true c1,decide_eq_false c2,decide_eq_true c4,decide_eq_true c3,cond_true,cond_false,if_pos (show o<w∧(x.fin<0∨o<x.fin)∧a.2.getD o.toNat 0<0 from⟨c1,.inr c4,c3⟩)]
     ·simp only[decide_eq_true c1,decide_eq_false c2,decide_eq_true c4,decide_eq_false c3,cond_true,cond_false,if_neg (show¬(o<w∧(x.fin<0∨o<x.fin)∧a.2.getD o.toNat 0<0) from λh=>c3 h.2.2)]
    ·simp only[decide_eq_true c1,decide_eq_false c2,decide_eq_false c4,cond_true,cond_false,if_neg (show¬(o<w∧(x.fin<0∨o<x.fin)∧a.2.getD o.toNat 0<0) from λh=>h.2.1.elim c2 c4)]
  ·simp only[decide_eq_false c1,cond_false,if_neg (show¬(o<w∧(x.fin<0∨o<x.fin)∧a.2.getD o.toNat 0<0) from λh=>c1 h.1)])]
 rw[e,Lm]
theorem Vj (sl:List Int)(e:Nat)(he:e≤sl.length):rV.f (sl,(e:Int),())=(sl.drop e).all (λs=>decide (s<0)):=by
 have key:∀(n j:Nat),j+n=sl.length→a9 (λj a=>(mL sl j a).nice) 1 n (j:Int) ()=bif (sl.drop j).all (λs=>decide (s<0))then .next ()else .out ():=by
  intro n
  induction n with
  |zero=>intro j h;rw[List.drop_of_length_le (by omega)];rfl
  |succ n ih=>
   intro j h
   have hj:j<sl.length:=by omega
   have ih:=ih (j+1) (by omega)
   rw[List.drop_eq_getElem_cons hj,List.all_cons]
   simp only[mL,PX]at ih
   simp only[a9,mL,PX,ah,getD_some (List.getElem?_eq_getElem hj)]
   by_cases h0:0≤sl[j]
   ·rw[decide_eq_true h0,decide_eq_false (show¬sl[j]<0 by omega)];rfl
   ·rw[decide_eq_false h0,decide_eq_true (show sl[j]<0 by omega)]
    simp only[cond_false,Stp.elim,Bool.true_and]
    rw[show(j:Int)+1=((j+1:Nat):Int) by omega]
    exact ih
 simp only[PX,rV,fP]
 rw[show Int.toNat ((sl.length:Int)-(e:Int))=sl.length-e by omega,key _ _ (by omega)]
 cases(sl.drop e).all (λs=>decide (s<0))<;>rfl
theorem Xn (sl:List Int)(hr:∀s∈sl,s≤255)(hl:az sl<sl.length):∀(n j:Nat) (r:Recv),j+n=az sl→a9 (λj a=>(jL sl j a).nice) 1 (sl.length-j) (j:Int) (r,sl.take j)= .out ((az sl:Int),({r with held:=[]}:Recv),sl.take (az sl))
 |0,j,r,h=>by
  have hj:j=az sl:=by omega
  subst hj
  have hg:=List.getElem?_eq_getElem hl
  have h0:=BX sl _ hg
  rw[show sl.length-az sl=(sl.length-az sl-1)+1 by omega]
  simp only[a9,jL,PX,ah,getD_some hg,decide_eq_false (show¬0≤sl[az sl] by omega),cond_false,Stp.elim]
 |n+1,j,r,h=>by
  obtain⟨s,hs1,ru⟩:=qO sl j (by omega)
  have hj:j<sl.length:=by omega
  have ih:=Xn sl hr hl n (j+1) ({r with held:=[]}:Recv) (by omega)
  have Xt:=hr s (Cv hs1)
  rw[show sl.length-j=(sl.length-(j+1))+1 by omega]
  rw[List.take_succ_eq_append_getElem hj]at ih
  have he:sl[j]=s:=by rw[List.getElem?_eq_getElem hj]at hs1;exact Option.some.inj hs1
  rw[he]at ih
  simp only[jL,PX]at ih
  simp only[a9,jL,PX,ah,getD_some hs1,decide_eq_true ru,cond_true,Stp.elim]
  rw[Yr ru Xt,show(j:Int)+1=((j+1:Nat):Int) by omega]
  exact ih
theorem XR (x:Recv)(seq w:Int)(sl:List Int)(j:Nat)(b:UInt8)(k:Nat)(s:Int)(h:(y4 x seq w sl j b)[k]? =some s):sl[k]? =some s∨(s=(b.toNat:Int)∧(k:Int)<w∧(x.fin<0∨(k:Int)<x.fin)):=by
 unfold y4 at h
 generalize ho:(seq+(j:Int)-x.next)%4294967296=o at h
 have h0:0≤o:=by omega
 split at h
 ·rename_i hc
  rw[List.getElem?_set]at h
  split at h
  ·rename_i hk
   split at h
   ·refine .inr ⟨(Option.some.inj h).symm,by omega, ?_⟩
    rcases hc.2.1 with h2|h2
    ·exact .inl h2
    ·exact .inr (by omega)
   ·cases h
  ·exact .inl h
 ·exact .inl h
theorem TH (x:Recv)(seq w:Int):∀(t:ax) (sl:List Int) (j:Nat) (k:Nat) (s:Int),(xg x seq w sl j t)[k]? =some s→sl[k]? =some s∨(0≤s∧s≤255∧(k:Int)<w∧(x.fin<0∨(k:Int)<x.fin))
 |[],_,_,_,_,h=> .inl h
 |b::t,sl,j,k,s,h=>by
  rcases TH x seq w t _ (j+1) k s h with h1|h1
  ·rcases XR x seq w sl j b k s h1 with h2|⟨h2,h3,h4⟩
   ·exact .inl h2
   ·exact .inr ⟨by omega,by have:=Fy b;omega,h3,h4⟩
  ·exact .inr h1
theorem TP:∀(t:ax) (sl:List Int) (o k:Nat) (s:Int),(qr sl o t)[k]? =some s→sl[k]? =some s∨(0≤s∧s≤255∧o≤k∧k<o+t.length)
 |[],_,_,_,_,h=> .inl h
 |b::t,sl,o,k,s,h=>by
  simp only[qr]at h
  rcases TP t _ (o+1) k s h with h1|⟨h1,h2,h3,h4⟩
  ·rw[List.getElem?_set]at h1
   split at h1
   ·rename_i hk
    split at h1
    ·have e:=(Option.some.inj h1).symm
     exact .inr ⟨by omega,by have:=Fy b;omega,by omega,by simp only[List.length_cons];omega⟩
    ·cases h1
   ·exact .inl h1
  ·exact .inr ⟨h1,h2,by omega,by simp only[List.length_cons];omega⟩
theorem P9 (L:Int):∀(held:List Piec) (a b:Int) (sl:List Int),0≤a→eJ L a held=some b→a≤L→∀(k:Nat) (s:Int),(held.foldl (λsl p=>qr sl p.off.toNat p.text) sl)[k]? =some s→sl[k]? =some s∨(0≤s∧s≤255∧(k:Int)<L)
 |[],_,_,_,_,_,_,_,_,h=> .inl h
 |p::r,a,b,sl,h0,hw,ha,k,s,h=>by
  simp only[eJ]at hw
  cases hc:((p.text==[])||decide (p.off≤a)||decide (L<p.off+(p.text.length:Int)))with
  |true=>rw[hc]at hw;cases hw
  |false=>
   rw[hc]at hw
   simp only[Bool.or_eq_false_iff,decide_eq_false_iff_not]at hc
   simp only[List.foldl_cons]at h
   rcases P9 L r _ b _ (by omega) hw (by omega) k s h with h1|h1
   ·rcases TP p.text sl p.off.toNat k s h1 with h2|⟨h2,h3,h4,h5⟩
    ·exact .inl h2
    ·exact .inr ⟨h2,h3,by omega⟩
   ·exact .inr h1
theorem qc:∀(held:List Piec) (sl:List Int),(held.foldl (λsl p=>qr sl p.off.toNat p.text) sl).length=sl.length
 |[],_=>rfl
 |p::r,sl=>by simp only[List.foldl_cons,qc r,GH]
theorem Im (x:Recv)(hx:RV x)(seq:Int)(t:ax):(xg x seq (oc x) (nv x.held) 0 t).length=33∧∀(k:Nat) (s:Int),(xg x seq (oc x) (nv x.held) 0 t)[k]? =some s→-1≤s∧s≤255∧(0≤s→(k:Int)<(if x.fin= -1 then oc x else x.fin)):=by
 have hw:=oz x hx.dl
 have hf0:=hx.f0
 have hf1:=hx.f1
 have hfz:=hx.fz
 refine⟨by rw[QI];unfold nv;rw[qc];rfl,λk s h=> ?_⟩
 rcases TH x seq (oc x) t _ 0 k s h with h1|⟨h1,h2,h3,h4⟩
 ·obtain⟨b,hb⟩:=hx.wk
  unfold nv at h1
  rcases P9 _ x.held 0 b _ (Int.le_refl _) hb (by split<;>omega) k s h1 with h2|⟨h2,h3,h4⟩
  ·have:s= -1:=by
    have hm:=List.mem_of_getElem? h2
    exact List.eq_of_mem_replicate hm
   omega
  ·exact⟨by omega,h3,λ_=>h4⟩
 ·refine⟨by omega,h2,λ_=> ?_⟩
  split
  ·exact h3
  ·rcases h4 with h5|h5<;>omega
theorem P8 (sl:List Int)(hr:∀s∈sl,s≤255)(hl:sl.length=33)(n:Nat):∀(m j:Nat) (a:List Piec),n≤j→j+m=33→a.length≤33→(∀p,a.getLast? =some p→0≤p.off∧qP p≤(j:Int)-(n:Int))→a.length+m≤33→a9 (λj a=>(cc sl (n:Int) j a).nice) 1 m (j:Int) a= .next (JE a ((j:Int)-(n:Int)) (sl.drop j))
 |0,j,a,h1,h2,_,_,_=>by rw[List.drop_of_length_le (by omega)];simp only[a9,JE]
 |m+1,j,a,h1,h2,h3,h4,h5=>by
  have hj:j<sl.length:=by omega
  have hs:=List.getElem?_eq_getElem hj
  have hs8:=hr _ (Cv hs)
  rw[List.drop_eq_getElem_cons hj]
  generalize sl[j]=s at hs hs8⊢
  have ej:(j:Int)+1=((j+1:Nat):Int):=by omega
  have en:(j:Int)-(n:Int)+1=((j+1:Nat):Int)-(n:Int):=by omega
  by_cases h0:s<0
  ·have ih:=P8 sl hr hl n m (j+1) a (by omega) (by omega) h3 (λp hp=>by have:=h4 p hp;omega) (by omega)
   simp only[PX,cc]at ih
   simp only[a9,PX,cc,ah,getD_some hs,decide_eq_true h0,cond_true,Stp.elim,JE,if_pos h0]
   rw[ej,en]
   exact ih
  ·have hw8:IntKind.wrap .u8 s=s:=Yr (by omega) hs8
   rcases List.eq_nil_or_concat a with rfl|⟨b,p,rfl⟩
   ·have ih:=P8 sl hr hl n m (j+1) [⟨(j:Int)-(n:Int),ar [s]⟩] (by omega) (by omega) (by simp) (λp hp=>by
     simp only[List.getLast?_singleton,Option.some.injEq]at hp
     subst hp
     simp only[qP,bj,List.length_singleton];omega) (by simp;omega)
    simp only[PX,cc]at ih
    have e0:decide (0<(([]:List Piec).length:Int))=false:=by simp
    simp only[a9,PX,cc,ah,getD_some hs,decide_eq_false h0,cond_false,Stp.elim,JE,if_neg h0,e0,List.getLast?_nil,hw8,List.nil_append]
    rw[ej,en,aA (m:=(j:Int)-(n:Int)) (by omega) (by omega)]
    exact ih
   ·simp only[List.concat_eq_append]at*
    have hp:=h4 p (by simp)
    have hbl:(b++[p]).length=b.length+1:=by simp
    have e0:decide (0<((b++[p]).length:Int))=true:=by rw[decide_eq_true_iff,hbl];omega
    have e1:(IntKind.wrap .i64 (((b++[p]).length:Int)-1)).toNat=b.length:=by rw[hbl,aA (by omega) (by omega)];omega
    have e2:(b++[p]).getD b.length (Ty.zero .piec)=p:=by simp[List.getD]
    have e3:∀q,(b++[p]).set b.length q=b++[q]:=λq=>by simp
    have hoff:=hp.1
    have hend:=hp.2
    unfold qP at hend
    by_cases he:qP p=(j:Int)-(n:Int)
    ·have ih:=P8 sl hr hl n m (j+1) (b++[⟨p.off,p.text++ar [s]⟩]) (by omega) (by omega) (by simp at h3⊢;omega) (λq hq=>by
      simp only[List.getLast?_append,List.getLast?_singleton,Option.some_or,Option.some.injEq]at hq
      subst hq
      unfold qP at he
      simp only[qP,List.length_append,bj,List.length_singleton];omega) (by simp at h5⊢;omega)
     simp only[PX,cc]at ih
     have e4:(IntKind.wrap .i64 (p.off+(p.text.length:Int))==IntKind.wrap .i64 ((j:Int)-(n:Int)))=true:=by
      unfold qP at he
      rw[he];exact beq_self_eq_true _
     simp only[a9,PX,cc,ah,getD_some hs,decide_eq_false h0,cond_false,Stp.elim,JE,if_neg h0,e0,e1,e2,e3,e4,cond_true,hw8,List.getLast?_append,List.getLast?_singleton,Option.some_or,if_pos he,List.dropLast_concat]
     rw[ej,en]
     exact ih
    ·have ih:=P8 sl hr hl n m (j+1) (b++[p]++[⟨(j:Int)-(n:Int),ar [s]⟩]) (by omega) (by omega) (by simp at h3 h5⊢;omega) (λq hq=>by
      simp only[List.getLast?_append,List.getLast?_singleton,Option.some_or,Option.some.injEq]at hq
      subst hq
      simp only[qP,bj,List.length_singleton];omega) (by simp at h5⊢;omega)
     simp only[PX,cc]at ih
     have e4:(IntKind.wrap .i64 (p.off+(p.text.length:Int))==IntKind.wrap .i64 ((j:Int)-(n:Int)))=false:=by
      unfold qP at he
      rw[aA (by omega) (by omega),aA (by omega) (by omega),beq_eq_false_iff_ne];exact he
     simp only[a9,PX,cc,ah,getD_some hs,decide_eq_false h0,cond_false,Stp.elim,JE,if_neg h0,e0,e1,e2,e4,cond_true,hw8,List.getLast?_append,List.getLast?_singleton,Option.some_or,if_neg he]
     rw[ej,en,aA (m:=(j:Int)-(n:Int)) (by omega) (by omega)]
     exact ih
theorem Dh (sl:List Int)(hr:∀s∈sl,s≤255)(hl:sl.length=33)(n:Nat)(hn:n≤33):nV.f (sl,(n:Int),())=cg 33 0 (sl.drop n):=by
 simp only[PX,nV,d5]
 rw[show Int.toNat ((sl.length:Int)-(n:Int))=33-n by omega]
 rw[P8 sl hr hl n (33-n) n [] (Nat.le_refl _) (by omega) (by simp) (λp hp=>by simp at hp) (by simp)]
 simp only[Stp.elim]
 rw[Int.sub_self,HC 33 [] 0 (sl.drop n) (by rw[List.length_drop];omega) (λp hp=>by simp at hp)]
 rfl
def CB (x:Recv)(sl:List Int)(e:Int)(fin:Bool):Int:=if fin=true∧x.fin<0∧e≤oc x∧(sl.drop e.toNat).all (λs=>decide (s<0))=true then e else x.fin
def EL (x:Recv)(seq:Int)(t:ax):List Int:=xg x seq (oc x) (nv x.held) 0 t
def jx (x:Recv)(seq:Int)(t:ax)(fin:Bool):Recv:=
 if bC.f (x,())=true∧x.done=false then Mv x (EL x seq t) (CB x (EL x seq t) ((seq+(t.length:Int)-x.next)%4294967296) fin)else x
theorem Df (L:Int):∀(r:List Piec) (a b:Int),0≤a→L≤32→eJ L a r=some b→dP po r
 |[],_,_,_,_,_=>λ_ h=>by cases h
 |p::r,a,b,h0,hL,h=>by
  simp only[eJ]at h
  cases hc:((p.text==[])||decide (p.off≤a)||decide (L<p.off+(p.text.length:Int)))with
  |true=>rw[hc]at h;cases h
  |false=>
   rw[hc]at h
   simp only[Bool.or_eq_false_iff,decide_eq_false_iff_not]at hc
   have ih:=Df L r _ b (by omega) hL h
   intro y hy
   rcases List.mem_cons.1 hy with rfl|hy
   ·unfold po;omega
   ·exact ih y hy
theorem GY (x:Recv)(hx:RV x):dP po x.held:=by
 obtain⟨b,hb⟩:=hx.wk
 have h1:=oz x hx.dl
 have h2:=hx.f1
 exact Df _ x.held 0 b (Int.le_refl _) (by split<;>omega) hb
theorem NJ (x:Recv)(seq:Int)(t:ax)(fin:Bool)(hs:bN x.held)(ht:t.length≤4294967296):pa.f (x,seq,t,fin,())=jx x seq t fin:=by
 simp only[PX,pa,rx,z8 x hs]
 unfold jx
 cases hok:bC.f (x,())with
 |false=>rfl
 |true=>
 cases hdn:x.done with
 |true=>rfl
 |false=>
 have hx:=(pO x hs).1 hok
 have hpo:dP po x.held:=GY x hx
 obtain⟨r2,e1⟩:=ZW x seq (oc x) t ⟨hx.n0,hx.n1⟩ ht (⟨0,[],[],0,false⟩:Recv) (nv x.held)
 have hsl:=Im x hx seq t
 have hw:=oz x hx.dl
 have hn0:=hx.n0
 have hn1:=hx.n1
 have hf0:=hx.f0
 have hf1:=hx.f1
 have hL:EL x seq t=xg x seq (oc x) (nv x.held) 0 t:=rfl
 rw[←hL]at e1 hsl
 have ee:IntKind.wrap .i64 ((seq+(t.length:Int))%4294967296-x.next)%4294967296=(seq+(t.length:Int)-x.next)%4294967296:=by
  rw[aA (by omega) (by omega),TU]
 simp only[Bool.not_true,cond_false,px,hZ x hx.dl,SQ x hpo,fJ,e1,Stp.elim,PX,i1,bD,nu,true_and,if_true,ee]
 obtain⟨e,he⟩:∃e,(seq+(t.length:Int)-x.next)%4294967296=e:=⟨_,rfl⟩
 have he0:0≤e:=by omega
 obtain⟨sl,hsl2⟩:∃sl,EL x seq t=sl:=⟨_,rfl⟩
 simp only[he,hsl2]at hsl⊢
 clear e1 ee hL he hsl2
 obtain⟨hl,hat⟩:=hsl
 have hr:∀s∈sl,s≤255:=λs hs=>by
  obtain⟨k,hk,rfl⟩:=List.getElem_of_mem hs
  exact(hat k _ (List.getElem?_eq_getElem hk)).2.1
 have hld:az sl<sl.length:=by
  rcases Nat.lt_or_ge (az sl) sl.length with h|h
  ·exact h
  ·obtain⟨s,h1,h2⟩:=qO sl 32 (by omega)
   have:=(hat 32 s h1).2.2 h2
   split at this<;>omega
 have hc:(bif fin then bif decide (x.fin<0)then bif decide (e≤oc x)then(rV.f (sl,e,()),())else(false,())else(false,())else(false,())).1=decide (fin=true∧x.fin<0∧e≤oc x∧(sl.drop e.toNat).all (λs=>decide (s<0))=true):=by
  cases fin with
  |false=>simp
  |true=>
   by_cases c1:x.fin<0
   ·by_cases c2:e≤oc x
    ·have h1:=Vj sl e.toNat (by omega)
     rw[show((e.toNat:Nat):Int)=e by omega]at h1
     simp only[cond_true,decide_eq_true c1,decide_eq_true c2,h1]
     simp only[c1,c2,true_and,Bool.decide_eq_true]
    ·simp[c1,c2]
   ·simp[c1]
 have tail:∀(r u:Recv),(eG (0,x,r,u,sl,[],())).lp.s= .out ((az sl:Int),({r with held:=[]}:Recv),sl.take (az sl)):=by
  intro r u
  have:=Xn sl hr hld (az sl) 0 r (by omega)
  rw[←bf sl.length]at this
  exact this
 have tp:∀(r u:Recv) (w:Int×Recv×List Int),(eG (0,x,r,u,sl,[],())).lp.o w= .inl w:=λ_ _ _=>rfl
 have hld2:(az sl:Int)≤33:=by omega
 by_cases hcc:fin=true∧x.fin<0∧e≤oc x∧(sl.drop e.toNat).all (λs=>decide (s<0))=true
 ·have hfn:CB x sl e fin=e:=if_pos hcc
  have hew:=hcc.2.2.1
  rw[hfn]
  simp only[hc,decide_eq_true hcc,cond_true]
  dsimp only[Tr.nice]
  simp only[PX,tail,tp,Stp.elim,Sum.elim_inl,z5,Dh sl hr hl (az sl) (by omega)]
  unfold Mv
  have hd:decide (0≤e)=true:=decide_eq_true (by omega)
  simp only[hd,cond_true]
  rw[aA (m:=e-(az sl:Int)) (by omega) (by omega)]
  change (bif ((e-(az sl:Int))==0)then(bif decide ((3:Int)<((cg 33 0 (sl.drop (az sl))).length:Int))then dJ.f (x,())else(⟨((x.next+(az sl:Int))%4294967296+1)%4294967296,x.data++ar (sl.take (az sl)),cg 33 0 (sl.drop (az sl)),-1,true⟩:Recv))else(bif decide ((3:Int)<((cg 33 0 (sl.drop (az sl))).length:Int))then dJ.f (x,())else(⟨(x.next+(az sl:Int))%4294967296,x.data++ar (sl.take (az sl)),cg 33 0 (sl.drop (az sl)),(e-(az sl:Int)),false⟩:Recv)))=_
  rw[rx]
  by_cases h3:3<(cg 33 0 (sl.drop (az sl))).length
  ·rw[if_pos h3,decide_eq_true (show(3:Int)<((cg 33 0 (sl.drop (az sl))).length:Int) by omega)]
   cases(e-(az sl:Int)==0)<;>rfl
  ·rw[if_neg h3,decide_eq_false (show¬(3:Int)<((cg 33 0 (sl.drop (az sl))).length:Int) by omega)]
   by_cases h4:e-(az sl:Int)=0
   ·rw[if_pos h4,show(e-(az sl:Int)==0)=true by simp[h4]]
    simp only[cond_true,cond_false]
    rw[show((x.next+(az sl:Int))%4294967296+1)%4294967296=(x.next+(az sl:Int)+1)%4294967296 by omega]
   ·rw[if_neg h4,show(e-(az sl:Int)==0)=false by simp[h4]]
    simp only[cond_false,if_neg (show¬e= -1 by omega),hdn]
 ·have hfn:CB x sl e fin=x.fin:=if_neg hcc
  rw[hfn]
  simp only[hc,decide_eq_false hcc,cond_false]
  dsimp only[Tr.nice]
  simp only[PX,tail,tp,Stp.elim,Sum.elim_inl,z5,Dh sl hr hl (az sl) (by omega)]
  unfold Mv
  by_cases hF:0≤x.fin
  ·have hd:decide (0≤x.fin)=true:=decide_eq_true (by omega)
   simp only[hd,cond_true]
   rw[aA (m:=x.fin-(az sl:Int)) (by omega) (by omega)]
   change (bif ((x.fin-(az sl:Int))==0)then(bif decide ((3:Int)<((cg 33 0 (sl.drop (az sl))).length:Int))then dJ.f (x,())else(⟨((x.next+(az sl:Int))%4294967296+1)%4294967296,x.data++ar (sl.take (az sl)),cg 33 0 (sl.drop (az sl)),-1,true⟩:Recv))else(bif decide ((3:Int)<((cg 33 0 (sl.drop (az sl))).length:Int))then dJ.f (x,())else(⟨(x.next+(az sl:Int))%4294967296,x.data++ar (sl.take (az sl)),cg 33 0 (sl.drop (az sl)),(x.fin-(az sl:Int)),x.done⟩:Recv)))=_
   rw[rx]
   by_cases h3:3<(cg 33 0 (sl.drop (az sl))).length
   ·rw[if_pos h3,decide_eq_true (show(3:Int)<((cg 33 0 (sl.drop (az sl))).length:Int) by omega)]
    cases(x.fin-(az sl:Int)==0)<;>rfl
   ·rw[if_neg h3,decide_eq_false (show¬(3:Int)<((cg 33 0 (sl.drop (az sl))).length:Int) by omega)]
    by_cases h4:x.fin-(az sl:Int)=0
    ·rw[if_pos h4,show(x.fin-(az sl:Int)==0)=true by simp[h4]]
     simp only[cond_true,cond_false]
     rw[show((x.next+(az sl:Int))%4294967296+1)%4294967296=(x.next+(az sl:Int)+1)%4294967296 by omega]
    ·rw[if_neg h4,show(x.fin-(az sl:Int)==0)=false by simp[h4]]
     simp only[cond_false,if_neg (show¬x.fin= -1 by omega),hdn]
  ·have hF1:x.fin= -1:=by omega
   have hd:decide (0≤x.fin)=false:=decide_eq_false hF
   simp only[hd,cond_false]
   change (bif (x.fin==0)then(bif decide ((3:Int)<((cg 33 0 (sl.drop (az sl))).length:Int))then dJ.f (x,())else(⟨((x.next+(az sl:Int))%4294967296+1)%4294967296,x.data++ar (sl.take (az sl)),cg 33 0 (sl.drop (az sl)),-1,true⟩:Recv))else(bif decide ((3:Int)<((cg 33 0 (sl.drop (az sl))).length:Int))then dJ.f (x,())else(⟨(x.next+(az sl:Int))%4294967296,x.data++ar (sl.take (az sl)),cg 33 0 (sl.drop (az sl)),x.fin,x.done⟩:Recv)))=_
   rw[rx]
   rw[show(x.fin==0)=false by simp[hF1]]
   by_cases h3:3<(cg 33 0 (sl.drop (az sl))).length
   ·rw[if_pos h3,decide_eq_true (show(3:Int)<((cg 33 0 (sl.drop (az sl))).length:Int) by omega)]
    rfl
   ·rw[if_neg h3,decide_eq_false (show¬(3:Int)<((cg 33 0 (sl.drop (az sl))).length:Int) by omega)]
    rw[if_neg (show¬x.fin-(az sl:Int)=0 by omega),if_pos hF1,hF1,hdn]
    rfl
theorem Hv (x:Recv)(seq:Int)(t:ax)(fin:Bool)(hx:RV x):RV (jx x seq t fin):=by
 unfold jx
 by_cases hc:bC.f (x,())=true∧x.done=false
 ·rw[if_pos hc]
  obtain⟨hl,hat⟩:=Im x hx seq t
  have hw:=oz x hx.dl
  have hf0:=hx.f0
  have hf1:=hx.f1
  change (EL x seq t).length=33 at hl
  change ∀(k:Nat) (s:Int),(EL x seq t)[k]? =some s→_ at hat
  generalize EL x seq t=sl at hl hat
  have he0:0≤(seq+(t.length:Int)-x.next)%4294967296:=by omega
  generalize(seq+(t.length:Int)-x.next)%4294967296=e at he0
  unfold CB
  split
  ·rename_i h
   obtain⟨h1,h2,h3,h4⟩:=h
   refine TF x sl e hx hc.2 hl (by omega) h3 (λk s hk hs=> ?_)
   rw[if_neg (show¬e= -1 by omega)]
   apply Int.not_le.1
   intro hke
   rw[List.all_eq_true]at h4
   have hm:s∈sl.drop e.toNat:=by
    refine List.mem_of_getElem? (i:=k-e.toNat) ?_
    rw[List.getElem?_drop,show e.toNat+(k-e.toNat)=k by omega];exact hk
   have:=h4 s hm
   simp only[decide_eq_true_eq]at this
   omega
  ·exact TF x sl x.fin hx hc.2 hl (by omega) hf1 (λk s hk hs=>(hat k s hk).2.2 hs)
 ·rw[if_neg hc];exact hx
def pJ (a b:Int):Int:=if 2147483647<(a-b)%4294967296 then(a-b)%4294967296-4294967296 else(a-b)%4294967296
theorem s9 (a b:Int):pg.f (a,b,())=pJ a b:=by
 simp only[PX,pg,nu,z5]
 rw[aA (m:=a%4294967296-b%4294967296) (by omega) (by omega),show(a%4294967296-b%4294967296)%4294967296=(a-b)%4294967296 by omega]
 unfold pJ
 by_cases h:2147483647<(a-b)%4294967296
 ·rw[decide_eq_true h,if_pos h,aA (by omega) (by omega)];rfl
 ·rw[decide_eq_false h,if_neg h];rfl
def Dp (s:Sndr):Int:=if s.finSent=true then s.sent+1 else s.sent
theorem ss (s:Sndr)(h:SO s):cJ.f (s,())=Dp s:=by
 rw[L2 s h];rfl
def cz (s:Sndr)(n:Int):Sndr:=⟨(s.una+n)%4294967296,s.data.drop (if s.sent<n then s.sent else n).toNat,s.sent-(if s.sent<n then s.sent else n),s.fin,if s.sent<n then false else s.finSent,if s.sent<n then true else s.done⟩
def sj (s:Sndr)(ack:Int):Bool:=bt.f (s,())&&(decide (0≤pJ ack s.una)&&decide (pJ ack s.una≤Dp s))
theorem Tq (s:Sndr)(ack:Int):AQ.f (s,ack,())=if sj s ack=true then(cz s (pJ ack s.una),true)else(s,false):=by
 simp only[PX,AQ,s9,tK,vi,cB,i1,bD]
 unfold sj
 cases hk:bt.f (s,())with
 |false=>rfl
 |true=>
  have hs:=(H8 s).1 hk
  rw[ss s hs]
  have h1:=hs.2.2.2.1
  have h2:=hs.2.2.2.2.1
  have h3:=hs.2.2.1
  generalize pJ ack s.una=n
  simp only[Bool.not_true,cond_false,Bool.true_and]
  by_cases hn:0≤n∧n≤Dp s
  ·rw[decide_eq_true hn.1,decide_eq_true hn.2]
   simp only[Bool.and_self,Bool.not_true,cond_false,if_true]
   unfold cz
   by_cases hc:s.sent<n
   ·simp only[decide_eq_true hc,if_pos hc,cond_true]
    simp only[PX,ah,List.take_length]
    rw[aA (by omega) (by omega)]
   ·simp only[decide_eq_false hc,if_neg hc,cond_false]
    simp only[PX,ah,List.take_length]
    rw[aA (by omega) (by omega)]
  ·have e:(decide (0≤n)&&decide (n≤Dp s))=false:=by
    rw[Bool.and_eq_false_iff];simp only[decide_eq_false_iff_not];omega
   rw[e];rfl
theorem GV (s:Sndr)(hs:SO s)(n:Int)(h0:0≤n)(h1:n≤Dp s):SO (cz s n)∧(cz s n).fin=s.fin∧(s.done=true→(cz s n).done=true):=by
 obtain⟨e1,e2,e3,e4,e5,e6,e7⟩:=hs
 unfold Dp at h1
 by_cases hc:s.sent<n
 ·have ea:cz s n=⟨(s.una+n)%4294967296,s.data.drop s.sent.toNat,s.sent-s.sent,s.fin,false,true⟩:=by unfold cz;simp only[if_pos hc]
  rw[ea]
  have hf:s.finSent=true:=by
   cases hfs:s.finSent with
   |true=>rfl
   |false=>rw[hfs]at h1;simp only[Bool.false_eq_true,if_false]at h1;omega
  have hl:=(e6 hf).2
  refine⟨⟨by show 0≤(s.una+n)%4294967296;omega,by show(s.una+n)%4294967296≤4294967295;omega, ?_, ?_, ?_,λh=>(by cases h),λ_=>⟨(e6 hf).1,rfl, ?_⟩⟩,rfl,λ_=>rfl⟩
  ·show(s.data.drop s.sent.toNat).length≤48
   rw[List.length_drop];omega
  ·show 0≤s.sent-s.sent;omega
  ·show s.sent-s.sent≤((s.data.drop s.sent.toNat).length:Int)
   omega
  ·show s.data.drop s.sent.toNat=[]
   exact List.drop_of_length_le (by omega)
 ·have ea:cz s n=⟨(s.una+n)%4294967296,s.data.drop n.toNat,s.sent-n,s.fin,s.finSent,s.done⟩:=by unfold cz;simp only[if_neg hc]
  rw[ea]
  refine⟨⟨by show 0≤(s.una+n)%4294967296;omega,by show(s.una+n)%4294967296≤4294967295;omega, ?_, ?_, ?_, ?_, ?_⟩,rfl,λh=>h⟩
  ·show(s.data.drop n.toNat).length≤48
   rw[List.length_drop];omega
  ·show 0≤s.sent-n;omega
  ·show s.sent-n≤((s.data.drop n.toNat).length:Int)
   rw[List.length_drop];omega
  ·intro h
   refine⟨(e6 h).1, ?_⟩
   have:=(e6 h).2
   show s.sent-n=((s.data.drop n.toNat).length:Int)
   rw[List.length_drop];omega
  ·intro h
   refine⟨(e7 h).1,(e7 h).2.1, ?_⟩
   show s.data.drop n.toNat=[]
   rw[(e7 h).2.2];simp
def mY (k:Int)(sd rd:Bool):Int:=if k=1 then(if rd=true then 4 else 1)else if k=2 then(if sd=true then(if rd=true then 7 else 3)else if rd=true then 5 else 2)else if k=3 then(if rd=true then 7 else 3)else if k=5 then(if sd=true then 7 else 5)else if k=6 then(if sd=true then 8 else 6)else k
theorem Wd (x:Conn):sO.f (x,())=mY x.state x.s.done x.r.done:=by
 simp only[PX,sO]
 unfold mY
 by_cases h1:x.state=1
 ·rw[if_pos h1,h1];cases x.r.done<;>first|rfl|exact h1
 by_cases h2:x.state=2
 ·rw[if_neg h1,if_pos h2,h2];cases x.s.done<;>cases x.r.done<;>first|rfl|exact h2
 by_cases h3:x.state=3
 ·rw[if_neg h1,if_neg h2,if_pos h3,h3];cases x.r.done<;>first|rfl|exact h3
 by_cases h5:x.state=5
 ·rw[if_neg h1,if_neg h2,if_neg h3,if_pos h5,h5];cases x.s.done<;>first|rfl|exact h5
 by_cases h6:x.state=6
 ·rw[if_neg h1,if_neg h2,if_neg h3,if_neg h5,if_pos h6,h6];cases x.s.done<;>first|rfl|exact h6
 rw[if_neg h1,if_neg h2,if_neg h3,if_neg h5,if_neg h6]
 rw[show(x.state==1)=false by simp[h1],show(x.state==2)=false by simp[h2],show(x.state==3)=false by simp[h3],show(x.state==5)=false by simp[h5],show(x.state==6)=false by simp[h6]]
 rfl
def IB (x:Conn):Bool:=bI.f ({x with state:=mY x.state x.s.done x.r.done,timer:=0,tries:=0},())&&((decide (0≤x.timer)&&decide (x.timer≤4))&&(decide (0≤x.tries)&&decide (x.tries≤3)))
def dB (x:Conn):Conn:=
 if IB x=true then
  if mY x.state x.s.done x.r.done=x.state then x
  else if mY x.state x.s.done x.r.done=7 then{x with state:=7,timer:=4,tries:=0}
  else if mY x.state x.s.done x.r.done=8 then{x with state:=8,timer:=0,tries:=0}
  else{x with state:=mY x.state x.s.done x.r.done}
 else x
theorem DU (x:Conn)(hs:bN x.r.held):qa.f (x,())=dB x:=by
 simp only[PX,qa,lr,Wd,cB]
 rw[Bj ({x with state:=mY x.state x.s.done x.r.done,timer:=0,tries:=0}:Conn) hs]
 unfold dB IB
 generalize(decide (0≤x.timer)&&decide (x.timer≤4))=b1
 generalize(decide (0≤x.tries)&&decide (x.tries≤3))=b2
 generalize mY x.state x.s.done x.r.done=k
 cases bI.f (({x with state:=k,timer:=0,tries:=0}:Conn),())with
 |false=>rfl
 |true=>
 cases b1 with
 |false=>rfl
 |true=>
 cases b2 with
 |false=>rfl
 |true=>
 simp only[Bool.not_true,cond_false,Bool.and_self,if_true]
 by_cases h1:k=x.state
 ·subst h1
  simp only[if_true,beq_self_eq_true,cond_true]
 ·rw[if_neg h1,show(k==x.state)=false by simp[h1]]
  simp only[cond_false]
  by_cases h7:k=7
  ·subst h7;rfl
  ·rw[if_neg h7,show(k==7)=false by simp[h7]]
   simp only[cond_false]
   by_cases h8:k=8
   ·subst h8;rfl
   ·rw[if_neg h8,show(k==8)=false by simp[h8]];rfl
structure TR (x:Conn):Prop where
 tup:aD.f (x.tuple,())=true
 snd:SO x.s
 rcv:bC.f (x.r,())=true
 opt:aq.f (x.opts,())=true
 s1:1≤x.state
 s7:x.state≤7
 m0:0≤x.most
 m1:x.most≤1073725440
 w0:0≤x.window
 w1:x.window≤x.most
 t0:0≤x.timer
 t4:x.timer≤4
 t3:x.state≠7→x.timer≤3
 r0:0≤x.tries
 r3:x.tries≤3
 fl:XO (mY x.state x.s.done x.r.done) x.s.fin x.s.done x.r.done=true
theorem XJ (k:Int)(sd rd:Bool)(h1:1≤k)(h7:k≤7):1≤mY k sd rd∧mY k sd rd≤8:=by
 unfold mY;repeat' split
 all_goals omega
theorem TR.turned {x:Conn}(h:TR x):CO (dB x):=by
 have hk:=XJ x.state x.s.done x.r.done h.s1 h.s7
 have hfl:=h.fl
 have hs1:=h.s1
 have hs7:=h.s7
 have hr0:=h.r0
 have hr3:=h.r3
 have ht0:=h.t0
 have ht4:=h.t4
 have hco:CO ({x with state:=mY x.state x.s.done x.r.done,timer:=0,tries:=0}:Conn):=⟨h.tup,h.snd,h.rcv,h.opt,hk.1,hk.2,h.m0,h.m1,h.w0,h.w1,Int.le_refl _,by show(0:Int)≤4;omega,λ_=>by show(0:Int)≤3;omega,Int.le_refl _,by show(0:Int)≤3;omega,hfl⟩
 have hok:IB x=true:=by
  unfold IB
  rw[(BN _).2 hco,decide_eq_true ht0,decide_eq_true ht4,decide_eq_true hr0,decide_eq_true hr3];rfl
 unfold dB
 rw[if_pos hok]
 by_cases h1:mY x.state x.s.done x.r.done=x.state
 ·rw[if_pos h1]
  rw[h1]at hfl
  exact⟨h.tup,h.snd,h.rcv,h.opt,hs1,by omega,h.m0,h.m1,h.w0,h.w1,ht0,ht4,h.t3,hr0,hr3,hfl⟩
 ·rw[if_neg h1]
  have hn7:x.state≠7:=by
   intro h7;apply h1;rw[h7];rfl
  have ht3:=h.t3 hn7
  by_cases h7:mY x.state x.s.done x.r.done=7
  ·rw[if_pos h7]
   rw[h7]at hfl
   exact⟨h.tup,h.snd,h.rcv,h.opt,by show(1:Int)≤7;omega,by show(7:Int)≤8;omega,h.m0,h.m1,h.w0,h.w1,by show(0:Int)≤4;omega,Int.le_refl _,λhh=>absurd rfl hh,Int.le_refl _,by show(0:Int)≤3;omega,hfl⟩
  ·rw[if_neg h7]
   by_cases h8:mY x.state x.s.done x.r.done=8
   ·rw[if_pos h8]
    rw[h8]at hfl
    exact⟨h.tup,h.snd,h.rcv,h.opt,by show(1:Int)≤8;omega,Int.le_refl _,h.m0,h.m1,h.w0,h.w1,Int.le_refl _,by show(0:Int)≤4;omega,λ_=>by show(0:Int)≤3;omega,Int.le_refl _,by show(0:Int)≤3;omega,hfl⟩
   ·rw[if_neg h8]
    exact⟨h.tup,h.snd,h.rcv,h.opt,hk.1,hk.2,h.m0,h.m1,h.w0,h.w1,ht0,ht4,λ_=>ht3,hr0,hr3,hfl⟩
theorem zQ (x:Conn):(dB x).tuple=x.tuple:=by
 unfold dB;repeat' split
 all_goals rfl
def io (w sc:Int):Int:=w*2 ^ (if sc<0 then 0 else sc).toNat
theorem HT (w sc:Int)(h0:0≤w)(h1:w≤65535)(h2:sc≤14):0≤io w sc∧io w sc≤1073725440:=by
 unfold io
 have hk:(if sc<0 then 0 else sc).toNat≤14:=by split<;>omega
 generalize(if sc<0 then 0 else sc).toNat=k at hk
 have:k=0∨k=1∨k=2∨k=3∨k=4∨k=5∨k=6∨k=7∨k=8∨k=9∨k=10∨k=11∨k=12∨k=13∨k=14:=by omega
 rcases this with rfl|rfl|rfl|rfl|rfl|rfl|rfl|rfl|rfl|rfl|rfl|rfl|rfl|rfl|rfl<;>simp only[Int.reducePow,Int.pow_zero]<;>omega
theorem gj (o:Opti)(h:aq.f (o,())=true): -1≤o.scale∧o.scale≤14:=by
 simp only[PX,aq,av]at h
 revert h
 cases hq:(decide (-1≤o.scale)&&decide (o.scale≤14))with
 |true=>
  intro _
  simpa [Bool.and_eq_true,decide_eq_true_eq]using hq
 |false=>
  cases ai.f (o.mss,16,())<;>cases o.stamp<;>cases(o.val != 0)<;>cases(o.echo != 0)<;>simp
def lg (c:Conn)(g:Segm):Conn:=
 if sj c.s g.ack=true then
  if((cz c.s (pJ g.ack c.s.una)).una≠c.s.una∨Dp (cz c.s (pJ g.ack c.s.una))=0)∧c.state≠7 then
   ⟨c.tuple,c.state,cz c.s (pJ g.ack c.s.una),c.r,io g.window c.opts.scale,if c.most<io g.window c.opts.scale then io g.window c.opts.scale else c.most,c.opts,if 0<Dp (cz c.s (pJ g.ack c.s.una))then 3 else 0,0⟩
  else⟨c.tuple,c.state,cz c.s (pJ g.ack c.s.una),c.r,io g.window c.opts.scale,if c.most<io g.window c.opts.scale then io g.window c.opts.scale else c.most,c.opts,c.timer,c.tries⟩
 else c
def cL (c:Conn)(g:Segm):Conn:=
 if 1≤c.state∧c.state≤3 then dB {lg c g with r:=jx c.r g.seq g.body (gJ.f (g,1,()))}else dB (lg c g)
theorem W7 (k:Int)(h1:1≤k)(h7:k≤7)(sf sd rd sd' rd':Bool)(h:XO k sf sd rd=true)(hsd:sd=true→sd'=true)(hsf:sd'=true→sf=true)(hrd:rd'=rd∨(rd=false∧k≤3)):XO (mY k sd' rd') sf sd' rd'=true:=by
 have hk:k=1∨k=2∨k=3∨k=4∨k=5∨k=6∨k=7:=by omega
 rcases hk with rfl|rfl|rfl|rfl|rfl|rfl|rfl<;>revert h hsd hsf hrd<;>revert sf sd rd sd' rd'<;>decide+kernel
theorem RV.small {x:Recv}(h:RV x):bN x.held:=by
 intro y hy
 have:=GY x h y hy
 unfold po at this;omega
theorem PJ (m:Int):IntKind.u32.wrap m=m%4294967296:=by
 unfold IntKind.wrap
 simp[IntKind.signed,IntKind.bits]
theorem Py (m:Int):IntKind.i32.wrap m=(m+2147483648)%4294967296-2147483648:=by
 unfold IntKind.wrap
 simp only[IntKind.signed,IntKind.bits]
 simp
 omega
theorem tN (a b:Int):pe.f (a,b,())=pJ a b:=by
 simp only[PX,pe,PJ,Py,cm]
 unfold pJ
 split<;>omega
theorem HK (g:Segm)(n:Int):gJ.f (g,n,())=bc.f (g,n,()):=by simp only[PX,gJ,bc]
theorem tT (g:Segm):ij.f (g,())=aI.f (g,()):=by simp only[PX,ij,aI,HK]
theorem pB (a b:Int):qJ.f (a,b,())=(a-b)%4294967296:=OJ a b
def tF (x o n:Int):Bool:=decide (0<n)&&decide ((x-o)%4294967296<n)
theorem nB (x o n:Int):nr.f (x,o,n,())=tF x o n:=by
 simp only[PX,nr,nu]
 unfold tF
 rw[aA (by omega) (by omega),show(x%4294967296-o%4294967296)%4294967296=(x-o)%4294967296 by omega]
 cases decide (0<n)<;>rfl
theorem rk (x o n:Int):m7.f (x,o,n,())=tF x o n:=by
 simp only[PX,m7,pB]
 unfold tF
 by_cases h:4294967295<n
 ·rw[decide_eq_true h,decide_eq_true (show 0<n by omega),decide_eq_true (show(x-o)%4294967296<n by omega)];rfl
 ·rw[decide_eq_false h]
  by_cases h1:0<n
  ·rw[decide_eq_true h1,decide_eq_true (show 1≤n by omega)];rfl
  ·rw[decide_eq_false h1,decide_eq_false (show¬1≤n by omega)];rfl
def Z7 (x n o w:Int):Bool:=decide (0<n)&&(decide (0<w)&&(decide ((x-o)%4294967296<w)||decide ((o-x)%4294967296<n)))
theorem Kt (x n o w:Int)(hn:n≤65536):ta.f (x,n,o,w,())=Z7 x n o w:=by
 simp only[PX,ta,pB,rk]
 rw[if_neg (show¬65536<n by omega)]
 unfold Z7 tF
 by_cases h1:0<n
 ·rw[decide_eq_true h1,decide_eq_false (show¬n<1 by omega)]
  by_cases h2:0<w
  ·rw[decide_eq_true h2,decide_eq_false (show¬w<1 by omega)]
   cases decide ((x-o)%4294967296<w)<;>rfl
  ·rw[decide_eq_false h2,decide_eq_true (show w<1 by omega)];rfl
 ·rw[decide_eq_false h1,decide_eq_true (show n<1 by omega)];rfl
theorem Lo (x o w:Int):∀(k j:Nat),j+k≤65536→(a9 (λj a=>(iT x o w j a).nice) 1 k (j:Int) ()= .next ()∧∀i:Nat,j≤i→i<j+k→tF (x+(i:Int)) o w=false)∨(a9 (λj a=>(iT x o w j a).nice) 1 k (j:Int) ()= .out (.inl ())∧∃i:Nat,j≤i∧i<j+k∧tF (x+(i:Int)) o w=true)
 |0,j,_=> .inl ⟨rfl,λi h1 h2=>by omega⟩
 |k+1,j,h=>by
  have ih:=Lo x o w k (j+1) (by omega)
  have e:tF ((x+(j:Int))%4294967296) o w=tF (x+(j:Int)) o w:=by
   unfold tF
   rw[show((x+(j:Int))%4294967296-o)%4294967296=(x+(j:Int)-o)%4294967296 by omega]
  simp only[a9,PX,iT,i1,bD,nB,decide_eq_true (show(j:Int)<65536 by omega),cond_true,e]
  simp only[PX,iT,i1,bD,nB]at ih
  cases hj:tF (x+(j:Int)) o w with
  |true=>exact .inr ⟨rfl,j,Nat.le_refl _,by omega,hj⟩
  |false=>
   simp only[cond_false,Stp.elim]
   rw[show(j:Int)+1=((j+1:Nat):Int) by omega]
   rcases ih with⟨h1,h2⟩|⟨h1,i,h2,h3,h4⟩
   ·refine .inl ⟨h1,λi h3 h4=> ?_⟩
    rcases Nat.eq_or_lt_of_le h3 with h5|h5
    ·rw[←h5];exact hj
    ·exact h2 i h5 (by omega)
   ·exact .inr ⟨h1,i,by omega,by omega,h4⟩
theorem JM (x n o w:Int)(hn:n≤65536)(hw:w≤2147483648):sP.f (x,n,o,w,())=Z7 x n o w:=by
 simp only[PX,sP,eY]
 have key:=Lo x o w (Int.toNat (n-0)) 0 (by omega)
 rw[show((0:Nat):Int)=0 from rfl]at key
 unfold Z7
 rcases key with⟨h1,h2⟩|⟨h1,i,h2,h3,h4⟩
 ·rw[h1]
  simp only[Stp.elim,Sum.elim_inr,Sum.elim_inl]
  by_cases c1:0<n
  ·by_cases c2:0<w
   ·have a0:=h2 0 (Nat.le_refl _) (by omega)
    unfold tF at a0
    rw[decide_eq_true c2,show x+((0:Nat):Int)=x by omega,Bool.true_and,decide_eq_false_iff_not]at a0
    have a1:¬(o-x)%4294967296<n:=by
     intro h
     have:=h2 ((o-x)%4294967296).toNat (by omega) (by omega)
     unfold tF at this
     rw[decide_eq_true c2,Bool.true_and,decide_eq_false_iff_not]at this
     omega
    rw[decide_eq_true c1,decide_eq_true c2,decide_eq_false a0,decide_eq_false a1];rfl
   ·rw[decide_eq_false c2];cases decide (0<n)<;>rfl
  ·rw[decide_eq_false c1];rfl
 ·rw[h1]
  simp only[Stp.elim,Sum.elim_inr,Sum.elim_inl]
  unfold tF at h4
  simp only[Bool.and_eq_true,decide_eq_true_eq]at h4
  have c1:0<n:=by omega
  rw[decide_eq_true c1,decide_eq_true h4.1]
  by_cases c3:(x-o)%4294967296<w
  ·rw[decide_eq_true c3];rfl
  ·rw[decide_eq_true (show(o-x)%4294967296<n by omega),Bool.or_true];rfl
def O5 (c:Conn)(g:Segm):Bool:=bif aI.f (g,())==0 then pJ g.seq c.r.next==0||tF g.seq c.r.next (oc c.r)else Z7 g.seq (aI.f (g,())) c.r.next (oc c.r)
theorem qn (g:Segm)(hb:g.body.length≤60000):0≤aI.f (g,())∧aI.f (g,())≤(g.body.length:Int)+2:=by
 simp only[PX,aI]
 rw[aA (m:=(g.body.length:Int)+1) (by omega) (by omega),aA (m:=(g.body.length:Int)+1+1) (by omega) (by omega)]
 cases bc.f (g,2,())<;>cases bc.f (g,1,())<;>simp only[cond_true,cond_false]<;>omega
theorem Fa (c:Conn)(g:Segm)(hd:c.r.data.length≤32)(hb:g.body.length≤60000):oL.f (c,g,())=O5 c g:=by
 have h1:=qn g hb
 have hw:=oz c.r hd
 simp only[PX,oL,tT,px,hZ c.r hd,s9,nB,JM _ _ _ _ (show aI.f (g,())≤65536 by omega) (show oc c.r≤2147483648 by omega)]
 unfold O5
 cases(aI.f (g,())==0)with
 |false=>rfl
 |true=>cases(pJ g.seq c.r.next==0)<;>rfl
theorem Fo (c:Conn)(g:Segm)(hd:c.r.data.length≤32)(hb:g.body.length≤60000):oM.f (c,g,())=O5 c g:=by
 have h1:=qn g hb
 have hw:=oz c.r hd
 simp only[PX,oM,hZ c.r hd,tN,rk,Kt _ _ _ _ (show aI.f (g,())≤65536 by omega)]
 unfold O5
 cases(aI.f (g,())==0)with
 |false=>rfl
 |true=>cases(pJ g.seq c.r.next==0)<;>rfl
def MW (c:Conn)(a:Int):Bool:=decide (pJ a c.s.una≤Dp c.s)&&(decide (0≤pJ a c.s.una)||decide (-c.most≤pJ a c.s.una))
theorem NM (c:Conn)(a:Int)(hs:SO c.s)(h0:0≤c.most)(h1:c.most≤1073725440):wn.f (c,a,())=MW c a:=by
 simp only[PX,wn,s9,vi,ss c.s hs]
 unfold MW
 rw[aA (by omega) (by omega),decide_eq_false (show¬2147483648≤c.most by omega)]
 generalize pJ a c.s.una=d
 cases decide (d≤Dp c.s)with
 |false=>rfl
 |true=>
  by_cases h2:0≤d
  ·rw[decide_eq_true h2];rfl
  ·rw[decide_eq_false h2]
   by_cases h3:0<c.most
   ·rw[decide_eq_true h3,show(0-c.most)= -c.most by omega];rfl
   ·rw[decide_eq_false h3,decide_eq_false (show¬-c.most≤d by omega)];rfl
theorem M8 (c:Conn)(a:Int)(hs:SO c.s)(h0:0≤c.most)(h1:c.most≤1073725440):wv.f (c,a,())=MW c a:=by
 simp only[PX,wv,tN,ss c.s hs,av]
 unfold MW
 rw[if_neg (show¬2147483648<c.most by omega),show(if 0<c.most then c.most else 0)=c.most by split<;>omega,aA (by omega) (by omega),show(0-c.most)= -c.most by omega]
 generalize pJ a c.s.una=d
 by_cases h2:0≤d
 ·rw[decide_eq_true h2,decide_eq_true (show-c.most≤d by omega)];simp
 ·rw[decide_eq_false h2,Bool.and_comm];simp
def za (c:Conn)(g:Segm):Int:=
 bif bI.f (c,())&&(!(c.state==8)&&ao.f (g,()))then
  bif bc.f (g,4,())then(bif g.seq==c.r.next then 2 else bif tF g.seq c.r.next (oc c.r)then 3 else 1)
  else bif bc.f (g,2,())then 3
  else bif !O5 c g then 4
  else bif !bc.f (g,16,())then 1
  else bif !MW c g.ack then 3 else 5
 else 1
theorem mE (g:Segm)(h:ao.f (g,())=true):g.body.length≤1420:=by
 simp only[PX,ao]at h
 revert h
 cases ai.f (g.from_,16,())<;>cases ai.f (g.to,16,())<;>cases ai.f (g.seq,32,())<;>cases ai.f (g.ack,32,())<;>cases ai.f (g.flags,6,())<;>cases ai.f (g.window,16,())<;>cases aq.f (g.opts,())<;>simp<;>omega
theorem zE (c:Conn)(g:Segm)(hs:bN c.r.held):sH.f (c,g,())=za c g:=by
 simp only[PX,sH,Bj c hs,uX,HK]
 unfold za
 rcases Bool.eq_false_or_eq_true (bI.f (c,()))with h1|h1
 case inr=>rw[h1];rfl
 rcases Bool.eq_false_or_eq_true (c.state==8)with h2|h2
 ·rw[h1,h2];rfl
 rcases Bool.eq_false_or_eq_true (ao.f (g,()))with h3|h3
 case inr=>rw[h1,h2,h3];rfl
 have hc:=(BN c).1 h1
 have hr:=(pO c.r hs).1 hc.rcv
 have hb:=mE g h3
 simp only[h1,h2,h3,px,hZ c.r hr.dl,nB,Fa c g hr.dl (by omega),NM c g.ack hc.snd hc.m0 hc.m1,Bool.not_true,Bool.not_false,cond_true,cond_false,Bool.and_self]
 cases bc.f (g,4,())with
 |false=>rfl
 |true=>cases(g.seq==c.r.next)<;>cases tF g.seq c.r.next (oc c.r)<;>rfl
theorem zd (c:Conn)(g:Segm)(hs:bN c.r.held):sI.f (c,g,())=za c g:=by
 simp only[PX,sI]
 unfold za
 rcases Bool.eq_false_or_eq_true (bI.f (c,()))with h1|h1
 case inr=>rw[h1];rfl
 rcases Bool.eq_false_or_eq_true (c.state==8)with h2|h2
 ·rw[h1,h2];rfl
 rcases Bool.eq_false_or_eq_true (ao.f (g,()))with h3|h3
 case inr=>rw[h1,h2,h3];rfl
 have hc:=(BN c).1 h1
 have hr:=(pO c.r hs).1 hc.rcv
 have hb:=mE g h3
 simp only[h1,h2,h3,hZ c.r hr.dl,rk,Fo c g hr.dl (by omega),M8 c g.ack hc.snd hc.m0 hc.m1,Bool.not_true,Bool.not_false,cond_true,cond_false,Bool.and_self]
def ii (w:Nat)(sl:List Int):List Bool:=(sl.take w).map (λs=>decide (0≤s))
def lJ (w:Nat)(sl:List Int):List Int:=(sl.take w).map (λs=>if s<0 then 0 else s)
def ZO (sl:List Int)(o b:Int):List Int:=if sl.getD o.toNat 0<0 then sl.set o.toNat b else sl
theorem W6 (w:Nat)(sl:List Int)(o:Nat)(b:Int)(hb:0≤b):ii w (sl.set o b)=(ii w sl).set o true:=by
 unfold ii
 rw[List.take_set,List.map_set,decide_eq_true hb]
theorem Wo (w:Nat)(sl:List Int)(o:Nat)(b:Int)(hb:0≤b):lJ w (sl.set o b)=(lJ w sl).set o b:=by
 unfold lJ
 rw[List.take_set,List.map_set,if_neg (show¬b<0 by omega)]
theorem si (w:Nat)(sl:List Int)(o:Nat)(ho:o<w)(hl:w≤sl.length):(ii w sl).getD o false=decide (0≤sl.getD o 0):=by
 unfold ii
 simp[List.getD,List.getElem?_take,ho,show o<sl.length by omega]
theorem G0 (w:Nat)(sl:List Int)(o b:Int)(h0:0≤o)(h1:o<(w:Int))(hl:w≤sl.length)(hb:0≤b):gv.f (o,b,ii w sl,lJ w sl,())=(ii w (ZO sl o b),lJ w (ZO sl o b)):=by
 simp only[PX,gv]
 rw[si w sl o.toNat (by omega) hl]
 unfold ZO
 by_cases h:sl.getD o.toNat 0<0
 ·rw[decide_eq_false (by omega),if_pos h,W6 _ _ _ _ hb,Wo _ _ _ _ hb];rfl
 ·rw[decide_eq_true (by omega),if_neg h];rfl
theorem Yo (p:Piec)(w:Nat)(h1:1≤p.off)(h2:p.off+(p.text.length:Int)≤(w:Int))(hw:w≤33):∀(n k:Nat) (sl:List Int) (r:Recv),w≤sl.length→k+n=p.text.length→(∀(j:Nat) (s:Int),p.off.toNat+k≤j→sl[j]? =some s→s<0)→∃r2,a9 (λj a=>(m8 p j a).nice) 1 n (k:Int) (r,lJ w sl,ii w sl)= .next (r2,lJ w (qr sl (p.off.toNat+k) (p.text.drop k)),ii w (qr sl (p.off.toNat+k) (p.text.drop k)))
 |0,k,sl,r,hl,h,hf=>⟨r,by rw[List.drop_of_length_le (by omega)];rfl⟩
 |n+1,k,sl,r,hl,h,hf=>by
  have hk:k<p.text.length:=by omega
  have ho:p.off.toNat+k<sl.length:=by omega
  have hfree:=hf (p.off.toNat+k) sl[p.off.toNat+k] (Nat.le_refl _) (List.getElem?_eq_getElem ho)
  have hst:ZO sl (p.off+(k:Int)) (p.text[k].toNat:Int)=sl.set (p.off.toNat+k) (p.text[k].toNat:Int):=by
   unfold ZO
   rw[show(p.off+(k:Int)).toNat=p.off.toNat+k by omega,getD_some (List.getElem?_eq_getElem ho),if_pos hfree]
  obtain⟨r2,e⟩:=Yo p w h1 h2 hw n (k+1) (sl.set (p.off.toNat+k) (p.text[k].toNat:Int)) ({r with held:=[]}:Recv) (by rw[List.length_set];exact hl) (by omega) (λj s hj hs=>by
   rw[List.getElem?_set_ne (by omega)]at hs
   exact hf j s (by omega) hs)
  refine⟨r2, ?_⟩
  rw[List.drop_eq_getElem_cons hk]
  simp only[qr]
  simp only[a9,PX,m8,ah,LQ _ _ hk]
  rw[aA (by omega) (by omega),G0 w sl _ _ (by omega) (by omega) hl (by omega),hst]
  simp only[Stp.elim]
  rw[show(k:Int)+1=((k+1:Nat):Int) by omega]
  exact e
theorem Ly:∀(t:ax) (sl:List Int) (o:Nat) (a:Int),((o:Int)+(t.length:Int)≤a)→(∀(j:Nat) (s:Int),a≤(j:Int)→sl[j]? =some s→s<0)→∀(j:Nat) (s:Int),a≤(j:Int)→(qr sl o t)[j]? =some s→s<0
 |[],_,_,_,_,h,j,s,hj,hs=>h j s hj hs
 |b::t,sl,o,a,ha,h,j,s,hj,hs=>by
  simp only[qr]at hs
  simp only[List.length_cons]at ha
  refine Ly t (sl.set o (b.toNat:Int)) (o+1) a (by omega) (λj s hj hs=> ?_) j s hj hs
  rw[List.getElem?_set_ne (by omega)]at hs
  exact h j s hj hs
theorem TZ (v0:Int)(v1:ax)(v2:Bool)(v3:Int)(v4:List Piec)(v5:Int)(v7 v9:Recv)(w:Nat)(hw:w≤33):∀(held:List Piec) (j:Nat) (a b:Int) (L:Int) (sl:List Int) (r:Recv),eJ L a held=some b→0≤a→L≤(w:Int)→w≤sl.length→(∀(j:Nat) (s:Int),a≤(j:Int)→sl[j]? =some s→s<0)→(∀p∈held,p.text.length≤33)→∃r2,gX (W:=Empty) (λ_ p (x:Recv×List Int×List Bool)=>(gP v0 v1 v2 v3 [p] v5 v7 v9 0 x).nice) j held (r,lJ w sl,ii w sl)= .next (r2,lJ w (held.foldl (λsl p=>qr sl p.off.toNat p.text) sl),ii w (held.foldl (λsl p=>qr sl p.off.toNat p.text) sl))
 |[],_,a,b,L,sl,r,_,_,_,_,_,_=>⟨r,rfl⟩
 |p::held,j,a,b,L,sl,r,hp,ha,hL,hl,hf,ht=>by
  simp only[eJ]at hp
  cases hc:((p.text==[])||decide (p.off≤a)||decide (L<p.off+(p.text.length:Int)))with
  |true=>rw[hc]at hp;cases hp
  |false=>
   rw[hc]at hp
   simp only[Bool.or_eq_false_iff,decide_eq_false_iff_not]at hc
   have hpl:=ht p (List.mem_cons_self ..)
   obtain⟨r1,e1⟩:=Yo p w (by omega) (by omega) hw p.text.length 0 sl ({r with held:=[]}:Recv) hl (by omega) (λj s hj hs=>hf j s (by omega) hs)
   rw[List.drop_zero,Nat.add_zero]at e1
   obtain⟨r2,e2⟩:=TZ v0 v1 v2 v3 v4 v5 v7 v9 w hw held (j+1) _ b L (qr sl p.off.toNat p.text) ({r1 with held:=[]}:Recv) hp (by omega) hL (by rw[GH];exact hl) (Ly p.text sl p.off.toNat _ (by omega) (λj s hj hs=>hf j s (by omega) hs)) (λq hq=>ht q (List.mem_cons_of_mem _ hq))
   refine⟨r2, ?_⟩
   rw[gX]
   rw[show(gP v0 v1 v2 v3 [p] v5 v7 v9 0 (r,lJ w sl,ii w sl)).nice= .next (({r1 with held:=[]}:Recv),lJ w (qr sl p.off.toNat p.text),ii w (qr sl p.off.toNat p.text)) by
    simp only[PX,gP,de,show Int.toNat 0=0 from rfl,List.getD_cons_zero]
    rw[bf]
    refine(congrArg (Stp.elim _ _) e1).trans ?_
    rfl]
   simp only[Stp.elim]
   exact e2
theorem Yt (v0:Int)(v1:ax)(x:Recv)(w:Nat)(hw:w≤33)(hf: -1≤x.fin):∀(t:ax) (j:Nat) (sl:List Int) (r:Recv),w≤sl.length→(∀i,t[i]? =v1[j+i]?)→∃r2,a9 (λj a=>(lP v0 v1 (w:Int) x j a).nice) 1 t.length (j:Int) (r,lJ w sl,ii w sl)= .next (r2,lJ w (xg x v0 (w:Int) sl j t),ii w (xg x v0 (w:Int) sl j t))
 |[],j,sl,r,hl,ht=>⟨r,rfl⟩
 |b::t,j,sl,r,hl,ht=>by
  have hb:v1[j]? =some b:=by have:=ht 0;simpa using this.symm
  have hbt:ci v1 j=(b.toNat:Int):=by simp[ci,List.getD,hb]
  have hll:(y4 x v0 (w:Int) sl j b).length=sl.length:=by unfold y4;split<;>simp
  obtain⟨r2,e⟩:=Yt v0 v1 x w hw hf t (j+1) (y4 x v0 (w:Int) sl j b) ({r with held:=[]}:Recv) (by rw[hll];exact hl) (λi=>by have:=ht (i+1);simp only[List.getElem?_cons_succ]at this;rw[this];congr 1;omega)
  refine⟨r2, ?_⟩
  have eo:((v0+(j:Int))%4294967296-x.next)%4294967296=(v0+(j:Int)-x.next)%4294967296:=by omega
  have hst:(bif (bif decide ((v0+(j:Int)-x.next)%4294967296<(w:Int))then bif x.fin== -1 then(true,())else(decide ((v0+(j:Int)-x.next)%4294967296<x.fin),())else(false,())).1 then(.next (({r with held:=[]}:Recv),(gv.f ((v0+(j:Int)-x.next)%4294967296,(b.toNat:Int),ii w sl,lJ w sl,())).2,(gv.f ((v0+(j:Int)-x.next)%4294967296,(b.toNat:Int),ii w sl,lJ w sl,())).1):Stp (Recv×List Int×List Bool) Empty)else .next (({r with held:=[]}:Recv),lJ w sl,ii w sl))= .next (({r with held:=[]}:Recv),lJ w (y4 x v0 (w:Int) sl j b),ii w (y4 x v0 (w:Int) sl j b)):=by
   have h0:0≤(v0+(j:Int)-x.next)%4294967296:=by omega
   unfold y4
   generalize(v0+(j:Int)-x.next)%4294967296=o at h0
   by_cases c1:o<(w:Int)
   ·rw[G0 w sl o _ h0 c1 hl (by omega)]
    unfold ZO
    rw[decide_eq_true c1]
    by_cases c2:x.fin= -1
    ·rw[show(x.fin== -1)=true by simp[c2]]
     by_cases c3:sl.getD o.toNat 0<0
     ·rw[if_pos c3,if_pos ⟨c1,.inl (by omega),c3⟩];rfl
     ·rw[if_neg c3,if_neg (λh=>c3 h.2.2)];rfl
    ·rw[show(x.fin== -1)=false by simp[c2]]
     by_cases c4:o<x.fin
     ·rw[decide_eq_true c4]
      by_cases c3:sl.getD o.toNat 0<0
      ·rw[if_pos c3,if_pos ⟨c1,.inr c4,c3⟩];rfl
      ·rw[if_neg c3,if_neg (λh=>c3 h.2.2)];rfl
     ·rw[decide_eq_false c4,if_neg (show¬(o<(w:Int)∧(x.fin<0∨o<x.fin)∧sl.getD o.toNat 0<0) from λh=>h.2.1.elim (λh=>by omega) c4)];rfl
   ·rw[decide_eq_false c1,if_neg (show¬(o<(w:Int)∧(x.fin<0∨o<x.fin)∧sl.getD o.toNat 0<0) from λh=>c1 h.1)];rfl
  simp only[List.length_cons,a9,PX,lP,bD,pB,eo,ah,hbt,xg]
  rw[hst]
  simp only[Stp.elim]
  rw[show(j:Int)+1=((j+1:Nat):Int) by omega]
  simp only[PX,lP,bD,pB]at e
  exact e
theorem H5 {f:Int→Recv→Stp Recv (Int×Recv)}{g:Recv→Recv}(w:Nat)(sl:List Int)(hl:w≤sl.length)(hf:∀(j:Nat) r,f (j:Int) r=bif (ii w sl).getD j false then .next (g r)else .out ((j:Int),g r))(i:Nat)(hi:i+az (sl.drop i)≤w):∀(n j:Nat) (r:Recv),j+n=w→i≤j→j≤i+az (sl.drop i)→∃r2,(i+az (sl.drop i)<w∧a9 f 1 n (j:Int) r= .out (((i+az (sl.drop i):Nat):Int),r2))∨(i+az (sl.drop i)=w∧a9 f 1 n (j:Int) r= .next r2)
 |0,j,r,h,_,h2=>⟨r,.inr ⟨by omega,rfl⟩⟩
 |n+1,j,r,h,h1,h2=>by
  have hj:j<w:=by omega
  rcases Nat.eq_or_lt_of_le h2 with h3|h3
  ·refine⟨g r,.inl ⟨by omega, ?_⟩⟩
   have hjl:j<sl.length:=by omega
   have hneg:=BX (sl.drop i) sl[j] (by rw[List.getElem?_drop,show i+az (sl.drop i)=j by omega];exact List.getElem?_eq_getElem hjl)
   simp only[a9,hf]
   rw[si w sl j hj hl,getD_some (List.getElem?_eq_getElem hjl),decide_eq_false (by omega),←h3]
   rfl
  ·obtain⟨s,hs1,ru⟩:=qO (sl.drop i) (j-i) (by omega)
   rw[List.getElem?_drop,show i+(j-i)=j by omega]at hs1
   obtain⟨r2,h4⟩:=H5 (g:=g) w sl hl hf i hi n (j+1) (g r) (by omega) (by omega) (by omega)
   refine⟨r2, ?_⟩
   have e:a9 f 1 (n+1) (j:Int) r=a9 f 1 n ((j+1:Nat):Int) (g r):=by
    simp only[a9,hf]
    rw[si w sl j hj hl,getD_some hs1,decide_eq_true ru]
    simp only[cond_true,Stp.elim]
    rw[show(j:Int)+1=((j+1:Nat):Int) by omega]
   rw[e];exact h4
theorem wD:∀(k k':Nat) (i:Int) (r:List Int),r.length≤k→r.length≤k'→cg k i r=cg k' i r
 |0,k',_,r,h,_=>by
  have:r=[]:=List.eq_nil_of_length_eq_zero (by omega)
  subst this;cases k'<;>simp[cg]
 |k+1,0,_,r,_,h=>by
  have:r=[]:=List.eq_nil_of_length_eq_zero (by omega)
  subst this;simp[cg]
 |k+1,k'+1,i,[],_,_=>by simp[cg]
 |k+1,k'+1,i,s::r,h1,h2=>by
  simp only[List.length_cons]at h1 h2
  simp only[cg]
  have hd:(r.dropWhile (λx=>decide (0≤x))).length≤r.length:=(List.dropWhile_sublist _).length_le
  rw[wD k k' (i+1) r (by omega) (by omega),wD k k' _ (r.dropWhile (λx=>decide (0≤x))) (by omega) (by omega)]
theorem QF (w:Nat)(sl:List Int)(i n:Nat)(h:i+n≤w)(hn:∀(j:Nat) (s:Int),i≤j→j<i+n→sl[j]? =some s→0≤s):((lJ w sl).take (i+n)).drop i=(sl.drop i).take n:=by
 apply List.ext_getElem?
 intro k
 unfold lJ
 rw[List.getElem?_drop,List.getElem?_take,List.getElem?_take,List.getElem?_drop,List.getElem?_map,List.getElem?_take]
 by_cases hk:k<n
 ·rw[if_pos (by omega),if_pos hk,if_pos (by omega)]
  cases hs:sl[i+k]? with
  |none=>rfl
  |some s=>
   have:=hn (i+k) s (by omega) (by omega) hs
   simp only[Option.map_some,if_neg (show¬s<0 by omega)]
 ·rw[if_neg (by omega),if_neg hk]
theorem GZ {p:Int→Bool}(r:List Int):r.take (r.takeWhile p).length=r.takeWhile p:=by
 have h:=List.takeWhile_append_dropWhile (p:=p) (l:=r)
 conv=>lhs;arg 2;rw[←h]
 rw[List.take_left'];rfl
theorem Jj {p:Int→Bool}(r:List Int):r.drop (r.takeWhile p).length=r.dropWhile p:=by
 have h:=List.takeWhile_append_dropWhile (p:=p) (l:=r)
 conv=>lhs;arg 2;rw[←h]
 rw[List.drop_left'];rfl
theorem S2 (v4:Recv)(w:Nat)(sl:List Int)(hw:w≤32)(hl:sl.length=33)(hneg:∀(j:Nat) (s:Int),w≤j→sl[j]? =some s→s<0)(n:Nat):∀(m i:Nat) (r o:Recv),i≤w→w-i<m→n≤i→∃r2,cF (λa=>(ga (w:Int) (n:Int) v4 (ii w sl) (lJ w sl) a).nice) m ((i:Int),r,o)=(r2,{o with held:=o.held++cg 33 ((i:Int)-(n:Int)) (sl.drop i)})
 |0,i,r,o,_,h,_=>by omega
 |m+1,i,r,o,hi,hm,hn=>by
  rcases Nat.eq_or_lt_of_le hi with h|h
  ·subst h
   refine⟨{r with held:=[]}, ?_⟩
   rw[GO 33 _ (sl.drop i) (λs hs=>by
    obtain⟨p,hp,rfl⟩:=List.getElem_of_mem hs
    rw[List.getElem_drop]
    exact hneg (i+p) _ (by omega) (List.getElem?_eq_getElem (by rw[List.length_drop]at hp;omega))),List.append_nil]
   simp only[cF,PX,ga,decide_eq_false (show¬((i:Int)<(i:Int)) by omega),cond_false,Stp.elim]
  ·have hil:i<sl.length:=by omega
   have hd:sl.drop i=sl[i]::sl.drop (i+1):=List.drop_eq_getElem_cons hil
   have hdl:(sl.drop (i+1)).length≤32:=by rw[List.length_drop];omega
   by_cases hs:sl[i]<0
   ·obtain⟨r2,e⟩:=S2 v4 w sl hw hl hneg n m (i+1) ({r with held:=[]}:Recv) o (by omega) (by omega) (by omega)
    refine⟨r2, ?_⟩
    rw[hd,show cg 33 ((i:Int)-(n:Int)) (sl[i]::sl.drop (i+1))=cg 33 (((i+1:Nat):Int)-(n:Int)) (sl.drop (i+1)) by
     rw[←wD 32 33 _ (sl.drop (i+1)) hdl (by omega)]
     simp only[cg,if_pos hs]
     congr 1;omega]
    rw[←e]
    rw[cF]
    rw[show(ga (w:Int) (n:Int) v4 (ii w sl) (lJ w sl) ((i:Int),r,o)).nice= .next (((i+1:Nat):Int),({r with held:=[]}:Recv),o) by
     simp only[PX,ga,decide_eq_true (show((i:Int)<(w:Int)) by omega),cond_true,ah]
     rw[si w sl i h (by omega),getD_some (List.getElem?_eq_getElem hil),decide_eq_false (by omega),aA (by omega) (by omega)]
     rfl]
    rfl
   ·have hlead:i+az (sl.drop i)≤w:=by
     apply Nat.le_of_not_lt
     intro hc
     obtain⟨s,h1,h2⟩:=qO (sl.drop i) (w-i) (by omega)
     rw[List.getElem?_drop,show i+(w-i)=w by omega]at h1
     have:=hneg w s (Nat.le_refl _) h1
     omega
    have hle:az (sl.drop i)=1+((sl.drop (i+1)).takeWhile (λx=>decide (0≤x))).length:=by
     unfold az
     rw[hd,List.takeWhile_cons,decide_eq_true (show 0≤sl[i] by omega)]
     simp only[if_true,List.length_cons];omega
    obtain⟨r1,e1⟩:=H5 (g:=λr:Recv=>({r with held:=[]}:Recv)) (f:=λj a=>(nt (ii w sl) j a).nice) w sl (by omega) (λj r=>by
     simp only[PX,nt,ah]) i hlead (w-i) i ({r with held:=[]}:Recv) (by omega) (Nat.le_refl _) (by omega)
    have hseg:((lJ w sl).take (i+az (sl.drop i))).drop i=sl[i]::(sl.drop (i+1)).takeWhile (λx=>decide (0≤x)):=by
     rw[QF w sl i (az (sl.drop i)) hlead (λj s h1 h2 h3=>by
      obtain⟨s2,h4,h5⟩:=qO (sl.drop i) (j-i) (by omega)
      rw[List.getElem?_drop,show i+(j-i)=j by omega,h3]at h4
      cases h4;exact h5)]
     have:az (sl.drop i)=((sl.drop i).takeWhile (λx=>decide (0≤x))).length:=rfl
     rw[this,GZ,hd,List.takeWhile_cons,decide_eq_true (show 0≤sl[i] by omega)]
     rfl
    have hdd:sl.drop (i+az (sl.drop i))=(sl.drop (i+1)).dropWhile (λx=>decide (0≤x)):=by
     rw[hle,←Nat.add_assoc,←List.drop_drop,Jj]
    have hr:cg 33 ((i:Int)-(n:Int)) (sl.drop i)=⟨(i:Int)-(n:Int),ar (sl[i]::(sl.drop (i+1)).takeWhile (λx=>decide (0≤x)))⟩::cg 33 (((i+az (sl.drop i):Nat):Int)-(n:Int)) (sl.drop (i+az (sl.drop i))):=by
     conv=>lhs;rw[hd]
     rw[hdd]
     have hdw:((sl.drop (i+1)).dropWhile (λx=>decide (0≤x))).length≤32:=Nat.le_trans (List.dropWhile_sublist _).length_le hdl
     rw[←wD 32 33 _ _ hdw (by omega)]
     simp only[cg,if_neg hs]
     congr 2;omega
    rw[hr]
    have hstep:∃r3:Recv,(ga (w:Int) (n:Int) v4 (ii w sl) (lJ w sl) ((i:Int),r,o)).nice= .next (((i+az (sl.drop i):Nat):Int),r3,({o with held:=o.held++[⟨(i:Int)-(n:Int),ar (sl[i]::(sl.drop (i+1)).takeWhile (λx=>decide (0≤x)))⟩]}:Recv)):=by
     simp only[PX,ga,decide_eq_true (show((i:Int)<(w:Int)) by omega),cond_true,ah,dZ]
     rw[si w sl i h (by omega),getD_some (List.getElem?_eq_getElem hil),decide_eq_true (show 0≤sl[i] by omega),aA (m:=(i:Int)-(n:Int)) (by omega) (by omega)]
     simp only[Bool.not_true,cond_false]
     rw[show Int.toNat ((w:Int)-(i:Int))=w-i by omega]
     rcases e1 with⟨h1,h2⟩|⟨h1,h2⟩
     ·rw[h2]
      simp only[Stp.elim,Sum.elim_inl,ah,hseg]
      exact⟨_,rfl⟩
     ·rw[h2]
      rw[h1]at hseg
      simp only[Stp.elim,Sum.elim_inr,h1]
      rw[show(i:Int)+1*((w-i:Nat):Int)=(w:Int) by omega,ah,hseg]
      exact⟨_,rfl⟩
    obtain⟨r3,hst⟩:=hstep
    obtain⟨r2,e⟩:=S2 v4 w sl hw hl hneg n m (i+az (sl.drop i)) r3 ({o with held:=o.held++[⟨(i:Int)-(n:Int),ar (sl[i]::(sl.drop (i+1)).takeWhile (λx=>decide (0≤x)))⟩]}:Recv) hlead (by omega) (by omega)
    refine⟨r2, ?_⟩
    rw[cF,hst]
    simp only[Stp.elim]
    rw[e]
    simp only[List.append_assoc,List.singleton_append]
def FK (x:Recv)(w:Nat)(sl:List Int)(z o:Recv):Tr Recv:=
 .lp (dA ((w:Int),(az sl:Int),(az sl:Int),({z with held:=[]}:Recv),x,ii w sl,({o with held:=[]}:Recv),lJ w sl,())).lp λp=>
  .ite (decide (3<(p.2.held.length:Int))) (.ret x)<| .ite (p.2.fin==0) (.val ((p.2.next+1)%4294967296) λc=> .ret (⟨c,p.2.data,p.2.held,-1,true⟩:Recv))<| .ret p.2
theorem N3 (x:Recv)(w:Nat)(sl:List Int)(z o:Recv)(hw:w≤32)(hl:sl.length=33)(hneg:∀(j:Nat) (s:Int),w≤j→sl[j]? =some s→s<0)(hld:az sl≤w):(FK x w sl z o).nice=if 3<(cg 33 0 (sl.drop (az sl))).length then x else if o.fin=0 then(⟨(o.next+1)%4294967296,o.data,cg 33 0 (sl.drop (az sl)),-1,true⟩:Recv)else⟨o.next,o.data,cg 33 0 (sl.drop (az sl)),o.fin,o.done⟩:=by
 obtain⟨r5,e5⟩:=S2 x w sl hw hl hneg (az sl) (w-az sl+1) (az sl) ({z with held:=[]}:Recv) ({o with held:=[]}:Recv) hld (by omega) (Nat.le_refl _)
 rw[Int.sub_self]at e5
 simp only[FK,PX,dA]
 rw[show Int.toNat ((w:Int)-(az sl:Int))=w-az sl by omega,e5]
 simp only[List.nil_append]
 by_cases h3:3<(cg 33 0 (sl.drop (az sl))).length
 ·rw[if_pos h3,decide_eq_true (show(3:Int)<((cg 33 0 (sl.drop (az sl))).length:Int) by omega)];rfl
 ·rw[if_neg h3,decide_eq_false (show¬(3:Int)<((cg 33 0 (sl.drop (az sl))).length:Int) by omega)]
  by_cases h0:o.fin=0
  ·rw[if_pos h0,show(o.fin==0)=true by simp[h0]];rfl
  ·rw[if_neg h0,show(o.fin==0)=false by simp[h0]];rfl
theorem Qo (x:Recv)(w:Nat)(sl:List Int)(z:Recv)(F f:Int)(hw:w≤32)(hl:sl.length=33)(hneg:∀(j:Nat) (s:Int),w≤j→sl[j]? =some s→s<0)(hld:az sl≤w)(hF: -1≤F)(hdn:x.done=false)(hn:0≤x.next)(hf:(F= -1∧f=F)∨(F≠-1∧f=F-(az sl:Int))):(FK x w sl z (⟨(x.next+(az sl:Int))%4294967296,x.data++ar (sl.take (az sl)),x.held,f,false⟩:Recv)).nice=Mv x sl F:=by
 rw[N3 x w sl z _ hw hl hneg hld]
 unfold Mv
 by_cases h3:3<(cg 33 0 (sl.drop (az sl))).length
 ·rw[if_pos h3,if_pos h3]
 ·rw[if_neg h3,if_neg h3]
  simp only[]
  rcases hf with⟨h1,h2⟩|⟨h1,h2⟩
  ·rw[if_neg (show¬f=0 by omega),if_neg (show¬F-(az sl:Int)=0 by omega),if_pos h1,h2,h1,hdn]
  ·by_cases h4:F-(az sl:Int)=0
   ·rw[if_pos (show f=0 by omega),if_pos h4,show((x.next+(az sl:Int))%4294967296+1)%4294967296=(x.next+(az sl:Int)+1)%4294967296 by omega]
   ·rw[if_neg (show¬f=0 by omega),if_neg h4,if_neg h1,h2,hdn]
theorem Lf {α β:Type}{K:α→β}{r:β}{s:α⊕α}(P:α→Prop)(hs:Sum.elim P P s)(h:∀z,P z→K z=r):Sum.elim K K s=r:=by
 cases s with
 |inl a=>exact h a hs
 |inr a=>exact h a hs
theorem aaw (x:Recv)(hx:RV x):∃w:Nat,oc x=(w:Int)∧w≤32:=by
 have:=oz x hx.dl
 exact⟨(oc x).toNat,by omega,by omega⟩
theorem JC (xs:List Bool)(t:Bool):oN.f (xs,t,())=gW (λb=>t==b) xs:=by
 simp only[PX,oN,dr]
 rw[lk (λb=>t==b) xs (λj x a h=>by
  simp only[PX,qG,ah,getD_some h])]
 unfold gW
 cases xs.findIdx? (λb=>t==b)<;>rfl
theorem B6 (xs:List Bool)(t:Bool):eP.f (xs,t,())=xs.any (λb=>t==b):=by
 simp only[PX,eP,JC,lW]
theorem NT (x:Recv)(seq:Int)(t:ax)(fin:Bool)(hs:bN x.held):rM.f (x,seq,t,fin,())=jx x seq t fin:=by
 simp only[PX,rM,uw]
 unfold jx
 cases hok:bC.f (x,())with
 |false=>rfl
 |true=>
 cases hdn:x.done with
 |true=>rfl
 |false=>
 have hx:=(pO x hs).1 hok
 have hpo:dP po x.held:=GY x hx
 obtain⟨w,hwe,hw⟩:=aaw x hx
 have hsl:=Im x hx seq t
 have hn0:=hx.n0
 have hn1:=hx.n1
 have hf0:=hx.f0
 have hf1:=hx.f1
 obtain⟨bb,hwk⟩:=hx.wk
 simp only[Bool.not_true,cond_false,hZ x hx.dl,hwe,fF,fK,ah]
 have z1:List.replicate w (0:Int)=lJ w (List.replicate 33 (-1)):=by
  unfold lJ;rw[List.take_replicate,Nat.min_eq_left (by omega),List.map_replicate];rfl
 have z2:List.replicate w false=ii w (List.replicate 33 (-1)):=by
  unfold ii;rw[List.take_replicate,Nat.min_eq_left (by omega),List.map_replicate];rfl
 rw[z1,z2]
 obtain⟨r1,e1⟩:=TZ seq t fin (w:Int) x.held (x.held.length:Int) x x w (by omega) x.held 0 0 bb _ (List.replicate 33 (-1)) (⟨0,[],[],0,false⟩:Recv) hwk (Int.le_refl _) (by split<;>omega) (by rw[List.length_replicate];omega) (λj s _ h=>by
  have:=List.eq_of_mem_replicate (List.mem_of_getElem? h);omega) (λp hp=>by have:=hpo p hp;unfold po at this;omega)
 rw[d7 x.held _ (bf _) (F:=λ_ p (a:Recv×List Int×List Bool)=>(gP seq t fin (w:Int) [p] (x.held.length:Int) x x 0 a).nice) (by
  intro j p a hp
  simp only[PX,gP,de,ah,getD_some hp,show Int.toNat 0=0 from rfl,List.getD_cons_zero])]
 rw[e1]
 simp only[Stp.elim]
 have hsn:x.held.foldl (λsl p=>qr sl p.off.toNat p.text) (List.replicate 33 (-1))=nv x.held:=rfl
 rw[hsn]
 obtain⟨r2,e2⟩:=Yt seq t x w (by omega) hf0 t 0 (nv x.held) ({r1 with held:=[]}:Recv) (by unfold nv;rw[qc,List.length_replicate];omega) (λi=>by rw[Nat.zero_add])
 rw[show((0:Nat):Int)=0 from rfl]at e2
 rw[bf,e2]
 simp only[Stp.elim,bD,pB]
 have hL:xg x seq (w:Int) (nv x.held) 0 t=EL x seq t:=by unfold EL;rw[hwe]
 rw[hL]
 have hL2:xg x seq (oc x) (nv x.held) 0 t=EL x seq t:=rfl
 rw[hL2]at hsl
 have ee:((seq+(t.length:Int))%4294967296-x.next)%4294967296=(seq+(t.length:Int)-x.next)%4294967296:=by omega
 rw[ee]
 have he0:0≤(seq+(t.length:Int)-x.next)%4294967296:=by omega
 generalize(seq+(t.length:Int)-x.next)%4294967296=e at he0
 generalize EL x seq t=sl at hsl
 clear e1 e2 hL hL2 hsn z1 z2 ee
 obtain⟨hl,hat⟩:=hsl
 have hneg:∀(j:Nat) (s:Int),w≤j→sl[j]? =some s→s<0:=λj s hj h=>by
  apply Int.not_le.1
  intro h0
  have:=(hat j s h).2.2 h0
  rw[hwe]at this hf1
  split at this<;>omega
 have hany:(ii w sl).drop e.toNat=((sl.drop e.toNat).take (w-e.toNat)).map (λs=>decide (0≤s)):=by
  unfold ii
  rw[←List.map_drop,List.drop_take]
 have hcont:e≤(w:Int)→eP.f (((ii w sl).take (ii w sl).length).drop e.toNat,true,())= !(sl.drop e.toNat).all (λs=>decide (s<0)):=by
  intro hew
  rw[List.take_length,B6,hany]
  rw[Bool.eq_iff_iff]
  simp only[List.any_eq_true,List.mem_map,Bool.not_eq_true',List.all_eq_false]
  constructor
  ·rintro⟨b,⟨s,hs1,rfl⟩,hb⟩
   refine⟨s,List.mem_of_mem_take hs1, ?_⟩
   simp at hb⊢;omega
  ·rintro⟨s,hs1,ru⟩
   refine⟨true,⟨s, ?_, ?_⟩,rfl⟩
   ·obtain⟨k,hk,rfl⟩:=List.getElem_of_mem hs1
    rw[List.getElem_drop]at ru⊢
    have hk2:e.toNat+k<w:=by
     apply Nat.lt_of_not_le
     intro hc
     have:=hneg (e.toNat+k) _ hc (List.getElem?_eq_getElem (by rw[List.length_drop]at hk;omega))
     simp at ru;omega
    rw[List.mem_take_iff_getElem]
    refine⟨k,by rw[List.length_drop];omega, ?_⟩
    rw[List.getElem_drop]
   ·simp at ru⊢;omega
 have hF0: -1≤CB x sl e fin:=by unfold CB;split<;>omega
 have hF1:CB x sl e fin≤(w:Int):=by unfold CB;rw[hwe]at hf1⊢;split<;>omega
 have hcond:(bif (bif fin then bif x.fin== -1 then bif decide (e≤(w:Int))then(!eP.f (((ii w sl).take (ii w sl).length).drop e.toNat,true,()),())else(false,())else(false,())else(false,())).1 then((w:Int),x,({r2 with held:=[]}:Recv),x,ii w sl,(⟨x.next,x.data,x.held,e,false⟩:Recv),lJ w sl,())else((w:Int),x,({r2 with held:=[]}:Recv),x,ii w sl,x,lJ w sl,()))=((w:Int),x,({r2 with held:=[]}:Recv),x,ii w sl,(⟨x.next,x.data,x.held,CB x sl e fin,x.done⟩:Recv),lJ w sl,()):=by
  unfold CB
  cases fin with
  |false=>simp
  |true=>
   by_cases c1:x.fin= -1
   ·rw[show(x.fin== -1)=true by simp[c1]]
    by_cases c2:e≤(w:Int)
    ·rw[decide_eq_true c2,hcont c2,hwe]
     cases hall:(sl.drop e.toNat).all (λs=>decide (s<0))with
     |true=>simp only[cond_true,Bool.not_true,Bool.not_false,true_and,if_pos (show x.fin<0∧e≤(w:Int)∧True from⟨by omega,c2,trivial⟩),hdn]
     |false=>simp
    ·rw[decide_eq_false c2,hwe,if_neg (λh=>c2 h.2.2.1)];rfl
   ·rw[show(x.fin== -1)=false by simp[c1],if_neg (λh=>by have:=h.2.1;omega)];rfl
 have hld0:az sl≤w:=by
  apply Nat.le_of_not_lt
  intro hc
  obtain⟨s,h1,h2⟩:=qO sl w hc
  have:=hneg w s (Nat.le_refl _) h1
  omega
 obtain⟨r3,e3⟩:=H5 (g:=λr:Recv=>({r with held:=[]}:Recv)) (f:=λj a=>(pT (ii w sl) j a).nice) w sl (by omega) (λj r=>by
  simp only[PX,pT,ah]) 0 (by rw[List.drop_zero,Nat.zero_add];exact hld0) w 0 ({r2 with held:=[]}:Recv) (by omega) (Nat.le_refl _) (Nat.zero_le _)
 rw[List.drop_zero,Nat.zero_add,show((0:Nat):Int)=0 from rfl]at e3
 have hdat:ar (((lJ w sl).take (az sl)).drop 0)=ar (sl.take (az sl)):=by
  have:=QF w sl 0 (az sl) (by omega) (λj s _ h2 h3=>by
   obtain⟨s2,h4,h5⟩:=qO sl j (by omega)
   rw[h3]at h4;cases h4;exact h5)
  rw[Nat.zero_add]at this
  rw[this,List.drop_zero]
 generalize hF:CB x sl e fin=F at hF0 hF1 hcond⊢
 generalize(bif fin then bif x.fin== -1 then bif decide (e≤(w:Int))then(!eP.f (((ii w sl).take (ii w sl).length).drop e.toNat,true,()),())else(false,())else(false,())else(false,())).1=b at hcond⊢
 rw[if_pos (⟨trivial,trivial⟩:True∧True)]
 have hE:∀(z:Recv),(FK x w sl z (⟨(x.next+(az sl:Int))%4294967296,x.data++ar (sl.take (az sl)),x.held,if F= -1 then F else F-(az sl:Int),false⟩:Recv)).nice=Mv x sl F:=λz=>Qo x w sl z F _ hw hl hneg hld0 hF0 hdn hn0 (by
  by_cases hh:F= -1
  ·exact .inl ⟨hh,if_pos hh⟩
  ·exact .inr ⟨hh,if_neg hh⟩)
 have hwr:IntKind.wrap .i64 (F-(az sl:Int))=F-(az sl:Int):=aA (by omega) (by omega)
 cases b with
 |true=>
  simp only[cond_true]at hcond⊢
  have hfin:e=F:=(by simpa using congrArg (λp=>p.2.2.2.2.2.1.fin) hcond)
  clear hcond
  dsimp only[Tr.nice]
  simp only[PX,eB,hfin]
  rw[show Int.toNat ((w:Int)-0)=w by omega]
  rcases e3 with⟨h1,h2⟩|⟨h1,h2⟩<;>refine(congrArg (Stp.elim _ _) h2).trans ?_ <;>simp only[Stp.elim]<;>refine Lf (λz:Int×Recv=>z.1=(az sl:Int)) (by first|rfl|(show(0:Int)+1*((w:Nat):Int)=_;omega)) ?_ <;>rintro⟨z1,z2⟩ hz<;>simp only[]at hz<;>subst hz<;>simp only[z5,ah,hdat,hwr]<;>by_cases hF2:F= -1
  all_goals (have hE2:=hE z2)
  all_goals (first|rw[if_pos hF2]at hE2|rw[if_neg hF2]at hE2)
  ·rw[show(F != -1)=false by simp[hF2]];exact hE2
  ·rw[show(F != -1)=true by simp[hF2]];exact hE2
  ·rw[show(F != -1)=false by simp[hF2]];exact hE2
  ·rw[show(F != -1)=true by simp[hF2]];exact hE2
 |false=>
  simp only[cond_false]at hcond⊢
  have hfin:x.fin=F:=(by simpa using congrArg (λp=>p.2.2.2.2.2.1.fin) hcond)
  clear hcond
  dsimp only[Tr.nice]
  simp only[PX,eB,hfin,hdn]
  rw[show Int.toNat ((w:Int)-0)=w by omega]
  rcases e3 with⟨h1,h2⟩|⟨h1,h2⟩<;>refine(congrArg (Stp.elim _ _) h2).trans ?_ <;>simp only[Stp.elim]<;>refine Lf (λz:Int×Recv=>z.1=(az sl:Int)) (by first|rfl|(show(0:Int)+1*((w:Nat):Int)=_;omega)) ?_ <;>rintro⟨z1,z2⟩ hz<;>simp only[]at hz<;>subst hz<;>simp only[z5,ah,hdat,hwr]<;>by_cases hF2:F= -1
  all_goals (have hE2:=hE z2)
  all_goals (first|rw[if_pos hF2]at hE2|rw[if_neg hF2]at hE2)
  ·rw[show(F != -1)=false by simp[hF2]];exact hE2
  ·rw[show(F != -1)=true by simp[hF2]];exact hE2
  ·rw[show(F != -1)=false by simp[hF2]];exact hE2
  ·rw[show(F != -1)=true by simp[hF2]];exact hE2
theorem Sz (s:Sndr)(ack:Int):FI.f (s,ack,())=if sj s ack=true then(cz s (pJ ack s.una),true)else(s,false):=by
 simp only[PX,FI,tN,av,bD]
 unfold sj
 cases hk:bt.f (s,())with
 |false=>rfl
 |true=>
  have hs:=(H8 s).1 hk
  simp only[ss s hs]
  obtain⟨e1,e2,e3,e4,e5,e6,e7⟩:=hs
  generalize pJ ack s.una=n
  simp only[Bool.not_true,cond_false,Bool.true_and]
  by_cases hn:0≤n∧n≤Dp s
  ·rw[decide_eq_true hn.1,decide_eq_true hn.2]
   simp only[Bool.and_self,Bool.not_true,cond_false,if_true]
   have hfl:=hn.2
   unfold Dp at hfl
   unfold cz
   by_cases hc:s.sent<n
   ·have hf:s.finSent=true:=by
     cases hfs:s.finSent with
     |true=>rfl
     |false=>rw[hfs]at hfl;simp only[Bool.false_eq_true,if_false]at hfl;omega
    have hl:=(e6 hf).2
    rw[hf]at hfl;simp only[if_true]at hfl
    have e:(if(s.data.length:Int)<n then(s.data.length:Int)else n)=s.sent:=by rw[if_pos (by omega)];omega
    simp only[if_pos hc,e]
    rw[aA (m:=s.sent+1) (by omega) (by omega),show(n==s.sent+1)=true by simp;omega,aA (by omega) (by omega)]
    simp only[PX,ah,List.take_length,cond_true]
   ·have e:(if(s.data.length:Int)<n then(s.data.length:Int)else n)=n:=by rw[if_neg (by omega)]
    simp only[if_neg hc,e]
    rw[aA (m:=s.sent+1) (by omega) (by omega),show(n==s.sent+1)=false by simp;omega,aA (by omega) (by omega)]
    simp only[PX,ah,List.take_length,cond_false]
  ·have e:(decide (0≤n)&&decide (n≤Dp s))=false:=by
    rw[Bool.and_eq_false_iff];simp only[decide_eq_false_iff_not];omega
   rw[e];rfl
theorem RG (w sc:Int)(h0:0≤w)(h1:w≤65535)(h2:sc≤14):IntKind.wrap .i64 (w*2 ^ (min (if sc<0 then 0 else sc).toNat 64))=io w sc∧io w sc≤1073725440:=by
 have hr:=HT w sc h0 h1 h2
 have hk:(if sc<0 then 0 else sc).toNat≤14:=by split<;>omega
 rw[Nat.min_eq_left (by omega)]
 unfold io at hr⊢
 exact⟨aA (by omega) (by omega),hr.2⟩
theorem Dl (w:Int)(o:Opti)(h0:0≤w)(h1:w≤65535)(h2:o.scale≤14):uW.f (w,o,())=io w o.scale:=by
 obtain⟨e1,e2⟩:=RG w o.scale h0 h1 h2
 simp only[PX,uW,e1]
 rw[if_neg (by omega)]
theorem F2 (n:Int)(h0:0≤n)(h1:n≤100):IntKind.wrap .u64 n=n:=by rw[wb];omega
theorem MI (x:Conn):bI.f (x,())=(bI.f ({x with tries:=0},())&&(decide (0≤x.tries)&&decide (x.tries≤3))):=by
 rw[Gd,Gd]
 simp only[]
 generalize aD.f (x.tuple,())=b1
 generalize bt.f (x.s,())=b2
 generalize bC.f (x.r,())=b3
 generalize aq.f (x.opts,())=b4
 generalize(decide (1≤x.state)&&decide (x.state≤8))=b5
 generalize(decide (0≤x.most)&&decide (x.most≤1073725440))=b6
 generalize(decide (0≤x.window)&&decide (x.window≤x.most))=b7
 generalize(decide (0≤x.timer)&&bif x.state==7 then decide (x.timer≤4)else decide (x.timer≤3))=b8
 generalize(decide (0≤x.tries)&&decide (x.tries≤3))=b9
 generalize XO x.state x.s.fin x.s.done x.r.done=b10
 have z:(decide ((0:Int)≤0)&&decide ((0:Int)≤3))=true:=rfl
 rw[z]
 cases b1<;>cases b2<;>cases b3<;>cases b4<;>cases b5<;>cases b6<;>cases b7<;>cases b8<;>simp[Bool.and_comm]
def T1 (x:Conn)(k:Int):Conn:=bif (bif !bI.f ({x with state:=k,timer:=0},())then(true,())else(!(decide (0≤x.timer)&&decide (x.timer≤4)),())).1 then x else bif k==7 then{x with state:=k,timer:=4,tries:=0}else bif k==8 then{x with state:=k,timer:=0,tries:=0}else{x with state:=k}
theorem RP (x:Conn)(hk:mY x.state x.s.done x.r.done≠x.state):T1 x (mY x.state x.s.done x.r.done)=dB x:=by
 unfold T1 dB IB
 rw[MI]
 simp only[]
 generalize mY x.state x.s.done x.r.done=k at hk
 rw[if_neg hk]
 generalize(decide (0≤x.timer)&&decide (x.timer≤4))=b1
 generalize(decide (0≤x.tries)&&decide (x.tries≤3))=b2
 cases bI.f (({x with state:=k,timer:=0,tries:=0}:Conn),())with
 |false=>rfl
 |true=>
 cases b1 with
 |false=>cases b2<;>rfl
 |true=>
 cases b2 with
 |false=>rfl
 |true=>
 simp only[Bool.not_true,cond_false,Bool.and_self,if_true]
 by_cases h7:k=7
 ·subst h7;rfl
 ·rw[if_neg h7,show(k==7)=false by simp[h7]]
  simp only[cond_false]
  by_cases h8:k=8
  ·subst h8;rfl
  ·rw[if_neg h8,show(k==8)=false by simp[h8]];rfl
theorem zr (x:Conn)(hk:mY x.state x.s.done x.r.done=x.state):dB x=x:=by
 unfold dB
 split
 ·rfl
 ·rfl
theorem Ed (x:Conn):pu.f (x,())=dB x:=by
 simp only[PX,pu,dd,av]
 have t1:=RP x
 have t2:=zr x
 have hst:x.state=1∨x.state=2∨x.state=3∨x.state=5∨x.state=6∨(x.state≠1∧x.state≠2∧x.state≠3∧x.state≠5∧x.state≠6):=by omega
 rcases hst with h|h|h|h|h|⟨h1,h2,h3,h5,h6⟩
 case inr.inr.inr.inr.inr=>
  have e:mY x.state x.s.done x.r.done=x.state:=by
   unfold mY;rw[if_neg h1,if_neg h2,if_neg h3,if_neg h5,if_neg h6]
  rw[t2 e,show(x.state==1)=false by simp[h1],show(x.state==2)=false by simp[h2],show(x.state==3)=false by simp[h3],show(x.state==5)=false by simp[h5],show(x.state==6)=false by simp[h6]]
  rfl
 all_goals (rw[h]at t1 t2⊢;cases hs:x.s.done<;>cases hr:x.r.done<;>rw[hs,hr]at t1 t2<;>first|exact(t2 rfl).symm|exact t1 (by decide))
structure V5 (c:Conn)(g:Segm):Prop where
 co:CO c
 s8:c.state≠8
 sg:ao.f (g,())=true
 n4:bc.f (g,4,())=false
 n2:bc.f (g,2,())=false
 fit:MW c g.ack=true
theorem vd5 (c:Conn)(g:Segm)(h:za c g=5):V5 c g:=by
 unfold za at h
 cases h1:bI.f (c,())with
 |false=>rw[h1]at h;simp at h
 |true=>
 cases h2:(c.state==8)with
 |true=>rw[h1,h2]at h;simp at h
 |false=>
 cases h3:ao.f (g,())with
 |false=>rw[h1,h2,h3]at h;simp at h
 |true=>
 rw[h1,h2,h3]at h
 simp only[Bool.not_false,Bool.and_self,cond_true]at h
 cases h4:bc.f (g,4,())with
 |true=>
  rw[h4]at h
  simp only[cond_true]at h
  exfalso;revert h
  cases(g.seq==c.r.next)<;>cases tF g.seq c.r.next (oc c.r)<;>simp
 |false=>
 rw[h4]at h
 simp only[cond_false]at h
 cases h5:bc.f (g,2,())with
 |true=>rw[h5]at h;simp at h
 |false=>
 rw[h5]at h
 simp only[cond_false]at h
 refine⟨(BN c).1 h1,by simpa using h2,h3,h4,h5, ?_⟩
 revert h
 cases O5 c g<;>cases bc.f (g,16,())<;>cases MW c g.ack<;>simp
theorem dL (g:Segm):ao.f (g,())=true↔((0≤g.from_∧g.from_≤65535)∧(0≤g.to∧g.to≤65535)∧(0≤g.seq∧g.seq≤4294967295)∧(0≤g.ack∧g.ack≤4294967295)∧(0≤g.flags∧g.flags≤63)∧(0≤g.window∧g.window≤65535)∧aq.f (g.opts,())=true∧g.body.length≤1420):=by
 simp only[PX,ao,dM,be,Td]
 rw[show((g.body.length≤1420)↔decide (((g.body.length:Nat):Int)≤1420)=true) by simp;omega]
 simp only[←Bool.decide_and,Bool.cond_eq_ite,Bool.if_false_right,Bool.decide_eq_true,Bool.and_eq_true,decide_eq_true_eq]
 constructor
 ·rintro⟨a,b,w,s,k,f,o,bd⟩;exact⟨a,b,s,k,f,w,o,bd⟩
 ·rintro⟨a,b,s,k,f,w,o,bd⟩;exact⟨a,b,w,s,k,f,o,bd⟩
theorem Wh (a b:Int):kW.f (a,b,())=if a<b then a else b:=tq a b
theorem Gh (a b:Int):fq.f (a,b,())=if b<a then a else b:=pZ a b
theorem Qn (w sc:Int)(h0:0≤w)(h1:w≤65535)(h2:sc≤14):kW.f (1073725440,IntKind.wrap .i64 (w*2 ^ (min (IntKind.wrap .u64 (fq.f (0,sc,()))).toNat 64)),())=io w sc:=by
 obtain⟨e1,e2⟩:=RG w sc h0 h1 h2
 rw[Gh,show(if sc<0 then(0:Int)else sc)=(if sc<0 then 0 else sc) from rfl,F2 _ (by split<;>omega) (by split<;>omega),e1,Wh,if_neg (by omega)]
theorem Iy (a b f k:Int):(bif a != b then(k != 7,())else bif f==0 then(k != 7,())else(false,())).1=decide ((a≠b∨f=0)∧k≠7):=by
 cases h1:(a != b)<;>cases h2:(f==0)<;>cases h3:(k != 7)<;>simp_all
theorem LR (x:Recv)(seq:Int)(t:ax)(fin:Bool)(hx:RV x):bN (jx x seq t fin).held:=(Hv x seq t fin hx).small
theorem S6 (c:Conn)(g:Segm)(hs:bN c.r.held):AE.f (c,g,())=if za c g=5 then cL c g else c:=by
 simp only[PX,AE,lr,zE c g hs]
 by_cases hv:za c g=5
 ·rw[if_pos hv,show(za c g != 5)=false by simp[hv]]
  have h:=vd5 c g hv
  have hr:=(pO c.r hs).1 h.co.rcv
  have hb:=mE g h.sg
  have hw:=((dL g).1 h.sg).2.2.2.2.2.1
  have hsc:=(gj c.opts h.co.opt).2
  have hS:=Qn g.window c.opts.scale hw.1 hw.2 hsc
  have tl:∀u:Conn,u.r=c.r→(bif dk.f (c.state,1,3,())then qa.f (({u with r:=pa.f (c.r,g.seq,g.body,gJ.f (g,1,()),())}:Conn),())else qa.f (u,()))=if 1≤c.state∧c.state≤3 then dB {u with r:=jx c.r g.seq g.body (gJ.f (g,1,()))}else dB u:=by
   intro u hu
   rw[NJ c.r _ _ _ hs (by omega),DU u (by rw[hu];exact hs),DU _ (LR c.r _ _ _ hr),cB]
   by_cases h3:1≤c.state∧c.state≤3
   ·rw[if_pos h3,decide_eq_true h3.1,decide_eq_true h3.2];rfl
   ·rw[if_neg h3,show(decide (1≤c.state)&&decide (c.state≤3))=false by rw[Bool.and_eq_false_iff];simp only[decide_eq_false_iff_not];omega];rfl
  simp only[Tq,cond_false]
  unfold cL lg
  by_cases ha:sj c.s g.ack=true
  ·have hso:=GV c.s h.co.snd (pJ g.ack c.s.una) (by
    unfold sj at ha;simp only[Bool.and_eq_true,decide_eq_true_eq]at ha;exact ha.2.1) (by
    unfold sj at ha;simp only[Bool.and_eq_true,decide_eq_true_eq]at ha;exact ha.2.2)
   have hM:fq.f (c.most,io g.window c.opts.scale,())=if c.most<io g.window c.opts.scale then io g.window c.opts.scale else c.most:=by
    rw[Gh];split<;>split<;>omega
   simp only[if_pos ha,cond_true,vi,ss _ hso.1,hS,hM]
   have hcnd:(bif (cz c.s (pJ g.ack c.s.una)).una != c.s.una then(c.state != 7,())else bif Dp (cz c.s (pJ g.ack c.s.una))==0 then(c.state != 7,())else(false,())).1=decide (((cz c.s (pJ g.ack c.s.una)).una≠c.s.una∨Dp (cz c.s (pJ g.ack c.s.una))=0)∧c.state≠7):=Iy _ _ _ _
   rw[hcnd]
   have tl2:=λ(t r:Int)=>tl ({c with s:=cz c.s (pJ g.ack c.s.una),window:=io g.window c.opts.scale,most:=(if c.most<io g.window c.opts.scale then io g.window c.opts.scale else c.most),timer:=t,tries:=r}:Conn) rfl
   by_cases hq:((cz c.s (pJ g.ack c.s.una)).una≠c.s.una∨Dp (cz c.s (pJ g.ack c.s.una))=0)∧c.state≠7
   ·simp only[decide_eq_true hq,if_pos hq,cond_true]
    by_cases h0:0<Dp (cz c.s (pJ g.ack c.s.una))
    ·simp only[decide_eq_true h0,if_pos h0,cond_true]
     dsimp only[Tr.nice]
     exact tl2 3 0
    ·simp only[decide_eq_false h0,if_neg h0,cond_false]
     dsimp only[Tr.nice]
     exact tl2 0 0
   ·simp only[decide_eq_false hq,if_neg hq,cond_false]
    dsimp only[Tr.nice]
    exact tl2 c.timer c.tries
  ·simp only[if_neg ha,cond_false]
   dsimp only[Tr.nice]
   exact tl c rfl
 ·rw[if_neg hv,show(za c g != 5)=true by simp[hv]];rfl
theorem SW (c:Conn)(g:Segm)(hs:bN c.r.held):zB.f (c,g,())=if za c g=5 then cL c g else c:=by
 simp only[PX,zB,dd,zd c g hs]
 by_cases hv:za c g=5
 ·rw[if_pos hv,show(za c g != 5)=false by simp[hv]]
  have h:=vd5 c g hv
  have hr:=(pO c.r hs).1 h.co.rcv
  have hw:=((dL g).1 h.sg).2.2.2.2.2.1
  have hsc:=(gj c.opts h.co.opt).2
  have tl:∀u:Conn,u.r=c.r→(bif (bif c.state==1 then(true,())else bif c.state==2 then(true,())else(c.state==3,())).1 then pu.f (({u with r:=rM.f (c.r,g.seq,g.body,bc.f (g,1,()),())}:Conn),())else pu.f (u,()))=if 1≤c.state∧c.state≤3 then dB {u with r:=jx c.r g.seq g.body (gJ.f (g,1,()))}else dB u:=by
   intro u hu
   rw[NT c.r _ _ _ hs,Ed u,Ed,HK]
   have hk:(bif c.state==1 then(true,())else bif c.state==2 then(true,())else(c.state==3,())).1=decide (1≤c.state∧c.state≤3):=by
    by_cases k1:c.state=1
    ·simp[k1]
    ·by_cases k2:c.state=2
     ·simp[k2]
     ·by_cases k3:c.state=3
      ·simp[k3]
      ·rw[show(c.state==1)=false by simp[k1],show(c.state==2)=false by simp[k2],show(c.state==3)=false by simp[k3],decide_eq_false (by omega)];rfl
   rw[hk]
   by_cases h3:1≤c.state∧c.state≤3
   ·rw[if_pos h3,decide_eq_true h3];rfl
   ·rw[if_neg h3,decide_eq_false h3];rfl
  simp only[Sz,cond_false]
  unfold cL lg
  by_cases ha:sj c.s g.ack=true
  ·have hso:=GV c.s h.co.snd (pJ g.ack c.s.una) (by
    unfold sj at ha;simp only[Bool.and_eq_true,decide_eq_true_eq]at ha;exact ha.2.1) (by
    unfold sj at ha;simp only[Bool.and_eq_true,decide_eq_true_eq]at ha;exact ha.2.2)
   simp only[if_pos ha,cond_true,ss _ hso.1,Dl _ _ hw.1 hw.2 hsc]
   have hcnd:(bif (cz c.s (pJ g.ack c.s.una)).una != c.s.una then(c.state != 7,())else bif Dp (cz c.s (pJ g.ack c.s.una))==0 then(c.state != 7,())else(false,())).1=decide (((cz c.s (pJ g.ack c.s.una)).una≠c.s.una∨Dp (cz c.s (pJ g.ack c.s.una))=0)∧c.state≠7):=Iy _ _ _ _
   rw[hcnd]
   have tl2:=λ(t r:Int)=>tl ({c with s:=cz c.s (pJ g.ack c.s.una),window:=io g.window c.opts.scale,most:=(if c.most<io g.window c.opts.scale then io g.window c.opts.scale else c.most),timer:=t,tries:=r}:Conn) rfl
   by_cases hq:((cz c.s (pJ g.ack c.s.una)).una≠c.s.una∨Dp (cz c.s (pJ g.ack c.s.una))=0)∧c.state≠7
   ·simp only[decide_eq_true hq,if_pos hq,cond_true]
    by_cases h0:0<Dp (cz c.s (pJ g.ack c.s.una))
    ·simp only[decide_eq_true h0,if_pos h0,cond_true]
     dsimp only[Tr.nice]
     exact tl2 3 0
    ·simp only[decide_eq_false h0,if_neg h0,cond_false]
     dsimp only[Tr.nice]
     exact tl2 0 0
   ·simp only[decide_eq_false hq,if_neg hq,cond_false]
    dsimp only[Tr.nice]
    exact tl2 c.timer c.tries
  ·simp only[if_neg ha,cond_false]
   dsimp only[Tr.nice]
   exact tl c rfl
 ·rw[if_neg hv,show(za c g != 5)=true by simp[hv]];rfl
structure H1 (c u:Conn):Prop where
 tup:u.tuple=c.tuple
 st:u.state=c.state
 op:u.opts=c.opts
 rr:u.r=c.r
 so:SO u.s
 fin:u.s.fin=c.s.fin
 dn:c.s.done=true→u.s.done=true
 m0:0≤u.most
 m1:u.most≤1073725440
 w0:0≤u.window
 w1:u.window≤u.most
 t0:0≤u.timer
 t4:u.timer≤4
 t3:c.state≠7→u.timer≤3
 r0:0≤u.tries
 r3:u.tries≤3
theorem WK (c:Conn)(g:Segm)(h:V5 c g):H1 c (lg c g):=by
 have hc:=h.co
 have hw:=((dL g).1 h.sg).2.2.2.2.2.1
 have hsc:=(gj c.opts hc.opt).2
 have hr:=HT g.window c.opts.scale hw.1 hw.2 hsc
 have a1:=hc.m0
 have a2:=hc.m1
 have a3:=hc.w0
 have a4:=hc.w1
 have a5:=hc.t0
 have a6:=hc.t4
 have a7:=hc.r0
 have a8:=hc.r3
 unfold lg
 split
 ·rename_i ha
  have hso:=GV c.s hc.snd (pJ g.ack c.s.una) (by
    unfold sj at ha;simp only[Bool.and_eq_true,decide_eq_true_eq]at ha;exact ha.2.1) (by
    unfold sj at ha;simp only[Bool.and_eq_true,decide_eq_true_eq]at ha;exact ha.2.2)
  split
  ·refine⟨rfl,rfl,rfl,rfl,hso.1,hso.2.1,hso.2.2, ?_, ?_,hr.1, ?_, ?_, ?_,λ_=> ?_,Int.le_refl _,by show(0:Int)≤3;omega⟩
   ·show 0≤(if c.most<io g.window c.opts.scale then io g.window c.opts.scale else c.most);split<;>omega
   ·show(if c.most<io g.window c.opts.scale then io g.window c.opts.scale else c.most)≤1073725440;split<;>omega
   ·show io g.window c.opts.scale≤(if c.most<io g.window c.opts.scale then io g.window c.opts.scale else c.most);split<;>omega
   ·show 0≤(if 0<Dp (cz c.s (pJ g.ack c.s.una))then(3:Int)else 0);split<;>omega
   ·show(if 0<Dp (cz c.s (pJ g.ack c.s.una))then(3:Int)else 0)≤4;split<;>omega
   ·show(if 0<Dp (cz c.s (pJ g.ack c.s.una))then(3:Int)else 0)≤3;split<;>omega
  ·refine⟨rfl,rfl,rfl,rfl,hso.1,hso.2.1,hso.2.2, ?_, ?_,hr.1, ?_,a5,a6,hc.t3,a7,a8⟩
   ·show 0≤(if c.most<io g.window c.opts.scale then io g.window c.opts.scale else c.most);split<;>omega
   ·show(if c.most<io g.window c.opts.scale then io g.window c.opts.scale else c.most)≤1073725440;split<;>omega
   ·show io g.window c.opts.scale≤(if c.most<io g.window c.opts.scale then io g.window c.opts.scale else c.most);split<;>omega
 ·exact⟨rfl,rfl,rfl,rfl,hc.snd,rfl,λh=>h,a1,a2,a3,a4,a5,a6,hc.t3,a7,a8⟩
theorem OK {s:Sndr}(h:SO s)(hd:s.done=true):s.fin=true:=(h.2.2.2.2.2.2 hd).1
theorem TT {c u:Conn}(hc:CO c)(h8:c.state≠8)(h:H1 c u)(rv:Recv)(hrv:RV rv)(hd:rv.done=c.r.done∨(c.r.done=false∧c.state≤3)):TR ({u with r:=rv}:Conn):=by
 have s1:=hc.s1
 have s8:=hc.s8
 refine⟨by show aD.f (u.tuple,())=true;rw[h.tup];exact hc.tup,h.so,(pO rv hrv.small).2 hrv,by show aq.f (u.opts,())=true;rw[h.op];exact hc.opt,by show 1≤u.state;rw[h.st];exact s1,by show u.state≤7;rw[h.st];omega,h.m0,h.m1,h.w0,h.w1,h.t0,h.t4,λhn=>h.t3 (by rw[←h.st];exact hn),h.r0,h.r3, ?_⟩
 show XO (mY u.state u.s.done rv.done) u.s.fin u.s.done rv.done=true
 rw[h.st,h.fin]
 exact W7 c.state s1 (by omega) c.s.fin c.s.done c.r.done u.s.done rv.done hc.fl h.dn (λhh=>by rw[←h.fin];exact OK h.so hh) hd
theorem Y5 (k:Int)(sf sd rd:Bool)(h:XO k sf sd rd=true)(h1:1≤k)(h3:k≤3):rd=false:=by
 have hk:k=1∨k=2∨k=3:=by omega
 rcases hk with rfl|rfl|rfl<;>revert h<;>revert sf sd rd<;>decide+kernel
theorem Ot (x:Conn):(dB x).s=x.s:=by
 unfold dB;repeat' split
 all_goals rfl
theorem Pz (x:Conn):(dB x).r=x.r:=by
 unfold dB;repeat' split
 all_goals rfl
theorem Rb (x:Conn)(h:(dB x).state=8)(h8:x.state≠8):x.state=6∧x.s.done=true:=by
 have hl:mY x.state x.s.done x.r.done=8:=by
  unfold dB at h
  split at h
  ·split at h
   ·exact absurd h h8
   ·split at h
    ·simp at h
    ·split at h
     ·assumption
     ·exact h
  ·exact absurd h h8
 unfold mY at hl
 repeat' split at hl
 all_goals first|omega|(rename_i h6 hd;exact⟨by assumption,by assumption⟩)
theorem GS (c:Conn)(g:Segm)(hs:bN c.r.held)(hv:za c g=5):CO (cL c g)∧(cL c g).tuple=c.tuple∧((cL c g).state=8→c.state=6∧(cL c g).s.done=true)∧bN (cL c g).r.held:=by
 have h:=vd5 c g hv
 have hH:=WK c g h
 have hr:=(pO c.r hs).1 h.co.rcv
 unfold cL
 by_cases h3:1≤c.state∧c.state≤3
 ·rw[if_pos h3]
  have hT:=TT h.co h.s8 hH (jx c.r g.seq g.body (gJ.f (g,1,()))) (Hv _ _ _ _ hr) (.inr ⟨Y5 _ _ _ _ h.co.fl h3.1 h3.2,h3.2⟩)
  refine⟨hT.turned,by rw[zQ];exact hH.tup,λh8=> ?_, ?_⟩
  ·have:=Rb _ h8 (by show(lg c g).state≠8;rw[hH.st];exact h.s8)
   rw[Ot]
   exact⟨by rw[←hH.st];exact this.1,this.2⟩
  ·rw[Pz];exact LR _ _ _ _ hr
 ·rw[if_neg h3]
  have hT:=TT h.co h.s8 hH c.r hr (.inl rfl)
  have e:({lg c g with r:=c.r}:Conn)=lg c g:=by rw[←hH.rr]
  rw[e]at hT
  refine⟨hT.turned,by rw[zQ];exact hH.tup,λh8=> ?_, ?_⟩
  ·have:=Rb _ h8 (by rw[hH.st];exact h.s8)
   rw[Ot]
   exact⟨by rw[←hH.st];exact this.1,this.2⟩
  ·rw[Pz,hH.rr];exact hs
theorem Xd (c:Conn)(g:Segm):za c g=1∨za c g=2∨za c g=3∨za c g=4∨za c g=5:=by
 unfold za
 cases(bI.f (c,())&&(!(c.state==8)&&ao.f (g,())))with
 |false=>exact .inl rfl
 |true=>
  cases bc.f (g,4,())<;>cases(g.seq==c.r.next)<;>cases tF g.seq c.r.next (oc c.r)<;>cases bc.f (g,2,())<;>cases O5 c g<;>cases bc.f (g,16,())<;>cases MW c g.ack<;>simp
def cN (c:Conn)(g:Segm):Conn×List Segm×Int:=
 if za c g=2 then({c with state:=8,timer:=0,tries:=0},[],2)
 else if za c g=3 then(c,[cC.f (c,())],3)
 else if za c g=4 then(if c.state=7∧bc.f (g,1,())=true then{c with timer:=4}else c,[cC.f (c,())],4)
 else if za c g=5 then
  (if(cL c g).state=8 then(cL c g,[],5)
  else((dQ.f (cL c g,(cL c g).window,())).1,if(dQ.f (cL c g,(cL c g).window,())).2=[]∧aI.f (g,())≠0 then[cC.f ((dQ.f (cL c g,(cL c g).window,())).1,())]else(dQ.f (cL c g,(cL c g).window,())).2,5))
 else(c,[],1)
theorem zw (c:Conn)(g:Segm)(hs:bN c.r.held):nj.f (c,g,())=cN c g:=by
 simp only[PX,nj,dd,zd c g hs,SW c g hs]
 have hv:=Xd c g
 unfold cN
 generalize za c g=v at hv⊢
 rcases hv with rfl|rfl|rfl|rfl|rfl
 ·rfl
 ·rfl
 ·rfl
 ·have e:(bif (4:Int)==4 then bif c.state==7 then(bc.f (g,1,()),())else(false,())else(false,())).1=decide (c.state=7∧bc.f (g,1,())=true):=by
   by_cases h7:c.state=7
   ·simp[h7]
   ·rw[show(c.state==7)=false by simp[h7],decide_eq_false (λh=>h7 h.1)];rfl
  rw[e]
  by_cases hq:c.state=7∧bc.f (g,1,())=true
  ·rw[decide_eq_true hq];simp only[if_pos hq];rfl
  ·rw[decide_eq_false hq];simp only[if_neg hq];rfl
 ·simp only[if_true]
  rw[if_neg (show¬(5:Int)=2 by omega),if_neg (show¬(5:Int)=3 by omega),if_neg (show¬(5:Int)=4 by omega)]
  generalize cL c g=x
  change (bif x.state==8 then(x,[],(5:Int))else bif (bif ((dQ.f (x,x.window,())).2.length:Int)==0 then(aI.f (g,()) != 0,())else(false,())).1 then((dQ.f (x,x.window,())).1,[cC.f ((dQ.f (x,x.window,())).1,())],5)else((dQ.f (x,x.window,())).1,(dQ.f (x,x.window,())).2,5))=_
  by_cases h8:x.state=8
  ·rw[if_pos h8,show(x.state==8)=true by simp[h8]];rfl
  ·rw[if_neg h8,show(x.state==8)=false by simp[h8]]
   generalize dQ.f (x,x.window,())=p
   obtain⟨p1,p2⟩:=p
   cases p2 with
   |nil=>
    by_cases h0:aI.f (g,())=0
    ·simp[h0]
    ·have h0':(aI.f (g,()) != 0)=true:=by simp[h0]
     simp[h0,h0']
   |cons a r=>
    have h0:(((a::r).length:Int)==0)=false:=by rw[beq_eq_false_iff_ne];simp only[List.length_cons];omega
    simp only[h0,cond_false,if_neg (show¬((a::r:List Segm)=[]∧aI.f (g,())≠0) by simp)]
theorem W3 (c:Conn)(w:Int)(hc:SO c.s)(h:(dQ.f (c,w,())).2=[]):(dQ.f (c,w,())).1=c:=by
 revert h
 simp only[PX,dQ,dd,fy]
 cases(bif !bI.f (c,())then(true,())else bif (c.state==8)then(true,())else((c.state==7),())).1 with
 |true=>exact λ_=>rfl
 |false=>
 simp only[cond_false]
 have key:=qM (f:=λa=>(bO w a).nice) (Inv:=λa=>Sent c a.2.1∧(a.2.2=[]→a.2.1=c)) (Q:=λp=>p.2.2=[]→p.2.1=c) (meas:=λa=>Fz a.2.1.s) (λa hi a' he=>by
  rcases pf w c a hi.1 with⟨l,e⟩|⟨a2,e,h1,h2⟩
  ·simp only[e]at he;cases he
  ·simp only[e,Stp.next.injEq]at he;subst he
   refine⟨⟨h1,λh3=> ?_⟩,h2⟩
   exfalso
   obtain⟨a1,a2',al⟩:=a
   revert e
   simp only[PX,bO]
   cases(aV.f (a2'.s,w,df.f (a2',()),())).2 with
   |false=>intro e;cases e
   |true=>
    cases((aV.f (a2'.s,w,df.f (a2',()),())).1.text==[])<;>cases(aV.f (a2'.s,w,df.f (a2',()),())).1.fin<;>(intro e;simp only[Stp.next.injEq,cond_true,cond_false,Bool.not_true,Bool.not_false]at e;subst e;simp at h3)) (λa hi p he=>by
  rcases pf w c a hi.1 with⟨l,e⟩|⟨a2,e,h1,h2⟩
  ·obtain⟨a1,a2',al⟩:=a
   have hl:l=al:=by
    revert e
    simp only[PX,bO]
    cases(aV.f (a2'.s,w,df.f (a2',()),())).2 with
    |false=>intro e;cases e;rfl
    |true=>cases((aV.f (a2'.s,w,df.f (a2',()),())).1.text==[])<;>cases(aV.f (a2'.s,w,df.f (a2',()),())).1.fin<;>(intro e;cases e)
   simp only[e,Stp.out.injEq]at he;subst he;subst hl;exact hi.2
  ·simp only[e]at he;cases he) (Fz c.s+1) (⟨⟨0,0,0⟩,0,⟨0,[],0,false,false,false⟩,⟨0,[],[],0,false⟩,0,0,⟨0,0,false,false,0,0⟩,0,0⟩,c,[]) (Nat.lt_succ_self _) ⟨Sent.refl c hc,λ_=>rfl⟩
 obtain⟨q,hq⟩:∃q,cF (λa=>(bO w a).nice) (Fz c.s+1) (⟨⟨0,0,0⟩,0,⟨0,[],0,false,false,false⟩,⟨0,[],[],0,false⟩,0,0,⟨0,0,false,false,0,0⟩,0,0⟩,c,[])=q:=⟨_,rfl⟩
 rw[hq]at key
 simp only[hq]
 obtain⟨q1,q2,q3⟩:=q
 simp only[]at key⊢
 intro h3
 have h4:q3=[]:=by
  revert h3
  cases(bif decide (0<(q3.length:Int))then((q2.timer==0),())else(false,())).1<;>exact λh=>h
 subst h4
 rw[key rfl]
 rfl
theorem Bd (c:Conn)(g:Segm)(hs:bN c.r.held):pq.f (c,g,())=cN c g:=by
 simp only[PX,pq,lr,zE c g hs,S6 c g hs,AR,tT,HK]
 have hv:=Xd c g
 have h5:=GS c g hs
 have hb:za c g=5→g.body.length≤1420:=λh=>mE g (vd5 c g h).sg
 unfold cN
 generalize za c g=v at hv h5 hb⊢
 rcases hv with rfl|rfl|rfl|rfl|rfl
 ·rfl
 ·rfl
 ·show(c,[j6.f (c,())],(3:Int))=_
  rw[AR];rfl
 ·have e:(bif (4:Int)==4 then bif c.state==7 then(bc.f (g,1,()),())else(false,())else(false,())).1=decide (c.state=7∧bc.f (g,1,())=true):=by
   by_cases h7:c.state=7
   ·simp[h7]
   ·rw[show(c.state==7)=false by simp[h7],decide_eq_false (λh=>h7 h.1)];rfl
  rw[e]
  by_cases hq:c.state=7∧bc.f (g,1,())=true
  ·rw[decide_eq_true hq];simp only[if_pos hq]
   show(({c with timer:=4}:Conn),[j6.f (c,())],(4:Int))=_
   rw[AR];rfl
  ·rw[decide_eq_false hq];simp only[if_neg hq]
   show(c,[j6.f (c,())],(4:Int))=_
   rw[AR];rfl
 ·simp only[if_true]
  rw[if_neg (show¬(5:Int)=2 by omega),if_neg (show¬(5:Int)=3 by omega),if_neg (show¬(5:Int)=4 by omega)]
  obtain⟨hx,-,-,hxs⟩:=h5 rfl
  have hl:=qn g (by have:=hb rfl;omega)
  generalize cL c g=x at hx hxs⊢
  have hP:=Zp x x.window (by have:=hx.w1;have:=hx.m1;omega) hxs
  have hN:=W3 x x.window hx.snd
  change (bif x.state==8 then(x,[],(5:Int))else bif (bif decide (0<aI.f (g,()))then(((mS.f (x,x.window,())).2.length:Int)==0,())else(false,())).1 then((mS.f (x,x.window,())).1,(mS.f (x,x.window,())).2++[cC.f (x,())],5)else((mS.f (x,x.window,())).1,(mS.f (x,x.window,())).2,5))=_
  rw[hP]
  by_cases h8:x.state=8
  ·rw[if_pos h8,show(x.state==8)=true by simp[h8]];rfl
  ·rw[if_neg h8,show(x.state==8)=false by simp[h8]]
   generalize dQ.f (x,x.window,())=p at hN⊢
   obtain⟨p1,p2⟩:=p
   cases p2 with
   |nil=>
    have hN:=hN rfl
    simp only[]at hN
    subst hN
    by_cases h0:aI.f (g,())=0
    ·simp[h0]
    ·rw[decide_eq_true (show 0<aI.f (g,()) by omega)]
     simp[h0]
   |cons a r=>
    have h0:(((a::r).length:Int)==0)=false:=by rw[beq_eq_false_iff_ne];simp only[List.length_cons];omega
    cases decide (0<aI.f (g,()))<;>simp only[h0,cond_true,cond_false,if_neg (show¬((a::r:List Segm)=[]∧aI.f (g,())≠0) by simp)]
theorem LJ (n:Int):bits .and .i64 n 15=n%16:=by
 have h:(BitVec.ofInt 64 15).toNat=2 ^ 4-1:=by decide
 have key:(BitVec.ofInt 64 n&&& BitVec.ofInt 64 15).toNat=(n%((2 ^ 64:Nat):Int)).toNat%2 ^ 4:=by
  rw[BitVec.toNat_and,BitVec.toNat_ofInt,h,Nat.and_two_pow_sub_one_eq_mod]
 show IntKind.i64.wrap ((BitVec.ofInt 64 n&&& BitVec.ofInt 64 15).toNat:Nat)=n%16
 rw[key,cm]
 omega
theorem Ua (v:Int):wT.f (v,())=jg.f (v,()):=by
 simp only[PX,wT,jg,dS,LJ]
 rcases Bool.eq_false_or_eq_true (ai.f (v,32,()))with h|h
 ·rw[h]
  rw[be]at h
  simp only[Bool.and_eq_true,decide_eq_true_eq]at h
  rw[Int.tmod_eq_emod_of_nonneg h.1]
 ·rw[h];rfl
theorem B5 (i:Int)(o:Opti):kd.f (i,o,())=bp.f (i,o,()):=by
 simp only[PX,kd,bp,Ua,TD,cr,bG]
theorem Vi (t:Tupl)(h:aD.f (t,())=true):(0≤t.ip∧t.ip≤4294967295)∧(0≤t.port∧t.port≤65535)∧(0≤t.my∧t.my≤65535):=by
 simp only[PX,aD,dM,be]at h
 by_cases h1:0≤t.ip∧t.ip≤4294967295
 ·by_cases h2:0≤t.port∧t.port≤65535
  ·by_cases h3:0≤t.my∧t.my≤65535
   ·exact⟨h1,h2,h3⟩
   ·rw[show(decide (0≤t.my)&&decide (t.my≤65535))=false by rw[Bool.and_eq_false_iff];simp only[decide_eq_false_iff_not];omega]at h
    revert h
    cases(decide (0≤t.ip)&&decide (t.ip≤4294967295))<;>cases(decide (0≤t.port)&&decide (t.port≤65535))<;>simp
  ·rw[show(decide (0≤t.port)&&decide (t.port≤65535))=false by rw[Bool.and_eq_false_iff];simp only[decide_eq_false_iff_not];omega]at h
   revert h
   cases(decide (0≤t.ip)&&decide (t.ip≤4294967295))<;>simp
 ·rw[show(decide (0≤t.ip)&&decide (t.ip≤4294967295))=false by rw[Bool.and_eq_false_iff];simp only[decide_eq_false_iff_not];omega]at h
  simp at h
theorem K6 (s:Sndr):jG.f (s,())=(s.una+cJ.f (s,()))%4294967296:=by simp only[PX,jG,bD]
theorem MT:aq.f (bG.f (()),())=true:=by decide+kernel
theorem W4 (c:Conn)(hc:aD.f (c.tuple,())=true)(hd:c.r.data.length≤32)(hn:0≤c.r.next∧c.r.next≤4294967295)(sq fl:Int)(b:ax)(h0:0≤sq∧sq≤4294967295)(hf:0≤fl∧fl≤63)(hb:b.length≤1420):ao.f ({cC.f (c,())with seq:=sq,flags:=fl,body:=b},())=true:=by
 rw[dL]
 have ht:=Vi c.tuple hc
 have hw:=oz c.r hd
 simp only[PX,cC,hZ c.r hd]
 exact⟨ht.2.2,ht.2.1,h0,hn,hf,⟨hw.1,by omega⟩,MT,hb⟩
theorem Ok (c:Conn)(hc:CO c)(hs:bN c.r.held):ao.f (cC.f (c,()),())=true:=by
 have hr:=(pO c.r hs).1 hc.rcv
 have h:=W4 c hc.tup hr.dl ⟨hr.n0,hr.n1⟩ (jG.f (c.s,())) 16 [] (by rw[K6];omega) (by omega) (by simp)
 have e:({cC.f (c,())with seq:=jG.f (c.s,()),flags:=16,body:=[]}:Segm)=cC.f (c,()):=by simp only[PX,cC]
 rw[e]at h;exact h
theorem Jz (s:Sndr)(w m:Int)(h:(aV.f (s,w,m,())).2=true):(aV.f (s,w,m,())).1.seq=jG.f (s,()):=by
 revert h
 simp only[PX,aV]
 generalize(if 0<(if(IntKind.wrap .i64 ((if w<(-1)then(-1)else w)-cJ.f (s,())))<(if m<(((s.data.take ((s.data.length:Int).toNat)).drop s.sent.toNat).length:Int)then m else(((s.data.take ((s.data.length:Int).toNat)).drop s.sent.toNat).length:Int))then(IntKind.wrap .i64 ((if w<(-1)then(-1)else w)-cJ.f (s,())))else(if m<(((s.data.take ((s.data.length:Int).toNat)).drop s.sent.toNat).length:Int)then m else(((s.data.take ((s.data.length:Int).toNat)).drop s.sent.toNat).length:Int)))then(if(IntKind.wrap .i64 ((if w<(-1)then(-1)else w)-cJ.f (s,())))<(if m<(((s.data.take ((s.data.length:Int).toNat)).drop s.sent.toNat).length:Int)then m else(((s.data.take ((s.data.length:Int).toNat)).drop s.sent.toNat).length:Int))then(IntKind.wrap .i64 ((if w<(-1)then(-1)else w)-cJ.f (s,())))else(if m<(((s.data.take ((s.data.length:Int).toNat)).drop s.sent.toNat).length:Int)then m else(((s.data.take ((s.data.length:Int).toNat)).drop s.sent.toNat).length:Int)))else 0)=n
 generalize(IntKind.wrap .i64 ((if w<(-1)then(-1)else w)-cJ.f (s,())))=v
 generalize(((s.data.take ((s.data.length:Int).toNat)).drop s.sent.toNat).take n.toNat).drop 0=tx
 generalize(((s.data.take ((s.data.length:Int).toNat)).drop s.sent.toNat).length:Int)=ln
 cases bt.f (s,())<;>cases s.fin<;>cases s.finSent<;>cases s.done<;>cases(n==ln)<;>cases(tx==[])<;>cases decide (n<v)<;>simp
theorem VG (c:Conn)(w:Int)(hc:CO c)(hs:bN c.r.held):∀g∈(dQ.f (c,w,())).2,ao.f (g,())=true:=by
 have hr:=(pO c.r hs).1 hc.rcv
 simp only[PX,dQ,dd,fy]
 cases(bif !bI.f (c,())then(true,())else bif (c.state==8)then(true,())else((c.state==7),())).1 with
 |true=>intro g hg;cases hg
 |false=>
 simp only[cond_false]
 have key:=qM (f:=λa=>(bO w a).nice) (Inv:=λa=>Sent c a.2.1∧(∀g∈a.2.2,ao.f (g,())=true)) (Q:=λp=>∀g∈p.2.2,ao.f (g,())=true) (meas:=λa=>Fz a.2.1.s) (λa hi a' he=>by
  rcases pf w c a hi.1 with⟨l,e⟩|⟨a2,e,h1,h2⟩
  ·simp only[e]at he;cases he
  ·simp only[e,Stp.next.injEq]at he;subst he
   refine⟨⟨h1, ?_⟩,h2⟩
   obtain⟨hS,hl⟩:=hi
   obtain⟨a1,b2,al⟩:=a
   simp only[]at hS hl
   have hre:=hS.re
   have htup:aD.f (b2.tuple,())=true:=by rw[hre];exact hc.tup
   have hrr:b2.r=c.r:=by rw[hre]
   have hch:=aV.c.h (b2.s,w,df.f (b2,()),()) (Ju hS.so)
   have hsq:=Jz b2.s w (df.f (b2,()))
   revert e
   simp only[PX,bO]
   simp only[PX]at hch
   generalize aV.f (b2.s,w,df.f (b2,()),())=z at hch hsq⊢
   obtain⟨y,b⟩:=z
   cases b with
   |false=>intro e;cases e
   |true=>
    obtain⟨-,hch⟩:=hch
    obtain⟨-,hlen,-,-,-⟩:=hch rfl
    have hsq:=hsq rfl
    simp only[]at hlen hsq
    have hdl:=hS.so.2.2.1
    have hs0:=hS.so.2.2.2.1
    have ok:∀fl:Int,0≤fl∧fl≤63→ao.f (({cC.f (b2,())with seq:=y.seq,flags:=fl,body:=y.text}:Segm),())=true:=λfl hf=>W4 b2 htup (by rw[hrr];exact hr.dl) (by rw[hrr];exact⟨hr.n0,hr.n1⟩) y.seq fl y.text (by rw[hsq,K6];omega) hf (by omega)
    have fin:∀fl:Int,0≤fl∧fl≤63→∀g∈al++[({cC.f (b2,())with seq:=y.seq,flags:=fl,body:=y.text}:Segm)],ao.f (g,())=true:=by
     intro fl hf g hg
     rcases List.mem_append.1 hg with h3|h3
     ·exact hl g h3
     ·rw[List.mem_singleton.1 h3];exact ok fl hf
    have hfl:(cC.f (b2,())).flags=16:=by simp only[PX,cC]
    simp only[hfl]
    cases(y.text==[])<;>cases y.fin<;>(intro e;simp only[Stp.next.injEq,cond_true,cond_false,Bool.not_true,Bool.not_false]at e;subst e;refine fin _ (by decide+kernel))) (λa hi p he=>by
  rcases pf w c a hi.1 with⟨l,e⟩|⟨a2,e,h1,h2⟩
  ·obtain⟨a1,a2',al⟩:=a
   have hl:l=al:=by
    revert e
    simp only[PX,bO]
    cases(aV.f (a2'.s,w,df.f (a2',()),())).2 with
    |false=>intro e;cases e;rfl
    |true=>cases((aV.f (a2'.s,w,df.f (a2',()),())).1.text==[])<;>cases(aV.f (a2'.s,w,df.f (a2',()),())).1.fin<;>(intro e;cases e)
   simp only[e,Stp.out.injEq]at he;subst he;subst hl;exact hi.2
  ·simp only[e]at he;cases he) (Fz c.s+1) (⟨⟨0,0,0⟩,0,⟨0,[],0,false,false,false⟩,⟨0,[],[],0,false⟩,0,0,⟨0,0,false,false,0,0⟩,0,0⟩,c,[]) (Nat.lt_succ_self _) ⟨Sent.refl c hc.snd,λg hg=>by cases hg⟩
 obtain⟨q,hq⟩:∃q,cF (λa=>(bO w a).nice) (Fz c.s+1) (⟨⟨0,0,0⟩,0,⟨0,[],0,false,false,false⟩,⟨0,[],[],0,false⟩,0,0,⟨0,0,false,false,0,0⟩,0,0⟩,c,[])=q:=⟨_,rfl⟩
 rw[hq]at key
 simp only[hq]
 obtain⟨q1,q2,q3⟩:=q
 simp only[]at key⊢
 cases(bif decide (0<(q3.length:Int))then((q2.timer==0),())else(false,())).1<;>exact key
theorem FH (c:Conn)(g:Segm)(hc:CO c)(hs:bN c.r.held):CO (cN c g).1∧(cN c g).1.tuple=c.tuple∧(∀y∈(cN c g).2.1,ao.f (y,())=true)∧bN (cN c g).1.r.held:=by
 have one:∀y∈[cC.f (c,())],ao.f (y,())=true:=λy hy=>by rw[List.mem_singleton.1 hy];exact Ok c hc hs
 have nil:∀y∈([]:List Segm),ao.f (y,())=true:=λy hy=>by cases hy
 unfold cN
 split
 ·exact⟨CO.set hc 8 0 0 (.inr rfl) (by omega) (by omega) (λ_=>by omega) (by omega) (by omega),rfl,nil,hs⟩
 ·split
  ·exact⟨hc,rfl,one,hs⟩
  ·split
   ·split
    ·rename_i h7
     exact⟨CO.set hc c.state 4 c.tries (.inl rfl) (by omega) (by omega) (λh=>absurd h7.1 h) hc.r0 hc.r3,rfl,one,hs⟩
    ·exact⟨hc,rfl,one,hs⟩
   ·split
    ·rename_i hv
     obtain⟨hx,hxt,-,hxs⟩:=GS c g hs hv
     generalize cL c g=x at hx hxt hxs⊢
     split
     ·exact⟨hx,hxt,nil,hxs⟩
     ·have hS:=L0 x x.window hx.snd
      have hp:=Sent.ok hS hx (hS.tm.elim .inr λe=> .inl (by omega))
      have ht:(dQ.f (x,x.window,())).1.tuple=x.tuple:=by rw[hS.re]
      have hr:(dQ.f (x,x.window,())).1.r=x.r:=by rw[hS.re]
      refine⟨hp,ht.trans hxt, ?_,by show bN (dQ.f (x,x.window,())).1.r.held;rw[hr];exact hxs⟩
      simp only[]
      split
      ·intro y hy
       rw[List.mem_singleton.1 hy];exact Ok _ hp (by rw[hr];exact hxs)
      ·exact VG x x.window hx hxs
    ·exact⟨hc,rfl,nil,hs⟩
theorem Ue (t:Tabl)(c:Conn):wL.f (t,c,())=eN.f (t,c,()):=by
 simp only[PX,wL,eN,CK,lY,iH,lr,dd]
theorem Vc (t:Tabl)(c:Conn)(l:Limi)(hs:∀y∈t.conns,bN y.r.held)(hc:bN c.r.held):pc.f (t,c,l,())=lv.f (t,c,l,()):=by
 simp only[PX,pc,lv,CK,lY,lr,dd]
 rw[LD _ _ (λy hy=>by
  rcases List.mem_append.1 hy with h|h
  ·exact hs y h
  ·rw[List.mem_singleton.1 h];exact hc)]
theorem XT (xs:List Conn)(t:Tupl)(h:decide (0≤gW (λh=>kw t h.tuple) xs)=true):∃i:Nat,gW (λh:Conn=>kw t h.tuple) xs=(i:Int)∧∃hi:i<xs.length,xs[i].tuple=t:=by
 unfold gW at h⊢
 cases hf:xs.findIdx? (λh=>kw t h.tuple)with
 |none=>rw[hf]at h;simp at h
 |some i=>
  obtain⟨h1,h2,-⟩:=List.findIdx?_eq_some_iff_getElem.1 hf
  exact⟨i,rfl,h1,((zK _ _).1 h2).symm⟩
theorem A8 (xs:List Half)(t:Tupl)(h:decide (0≤gW (λh=>kw t h.tuple) xs)=true):∃i:Nat,gW (λh:Half=>kw t h.tuple) xs=(i:Int)∧∃hi:i<xs.length,xs[i].tuple=t:=by
 unfold gW at h⊢
 cases hf:xs.findIdx? (λh=>kw t h.tuple)with
 |none=>rw[hf]at h;simp at h
 |some i=>
  obtain⟨h1,h2,-⟩:=List.findIdx?_eq_some_iff_getElem.1 hf
  exact⟨i,rfl,h1,((zK _ _).1 h2).symm⟩
theorem TO.set {t:Tabl}{l:Limi}(h:TO t l)(i:Nat)(c:Conn)(hc:CO c)(hi:i<t.conns.length)(ht:c.tuple=t.conns[i].tuple):TO (⟨t.conns.set i c,t.waiting⟩:Tabl) l:=by
 have hm:(t.conns.set i c).map Conn.tuple=t.conns.map Conn.tuple:=by
  rw[List.map_set,ht]
  apply List.ext_getElem?
  intro j
  rw[List.getElem?_set]
  split
  ·rename_i hj
   subst hj
   simp[hi]
  ·rfl
 refine⟨h.lim,by show((t.conns.set i c).length:Int)≤l.conns;rw[List.length_set];exact h.nc,h.nw, ?_, ?_,h.dw, ?_⟩
 ·intro y hy
  rcases List.mem_or_eq_of_mem_set hy with h1|h1
  ·exact h.co y h1
  ·rw[h1];exact hc
 ·show((t.conns.set i c).map Conn.tuple).Nodup
  rw[hm];exact h.dc
 ·intro w hw
  show w∈(t.conns.set i c).map Conn.tuple
  rw[hm];exact h.wc w hw
theorem Rv (xs:List Conn)(hd:(xs.map Conn.tuple).Nodup)(i:Nat)(hi:i<xs.length):gW (λh:Conn=>kw xs[i].tuple h.tuple) xs=(i:Int):=by
 have h:=(wi Conn.tuple xs).2 hd i xs[i] (List.getElem?_eq_getElem hi)
 have h2:=AF (λh:Conn=>kw xs[i].tuple h.tuple) xs i xs[i] (List.getElem?_eq_getElem hi) (ry _)
 rw[h]at h2
 simpa using h2
theorem Ba (t:Tabl)(c:Conn)(hd:(t.conns.map Conn.tuple).Nodup)(i:Nat)(hi:i<t.conns.length)(ht:c.tuple=t.conns[i].tuple):eN.f (t,c,())=⟨t.conns.set i c,t.waiting⟩:=by
 simp only[PX,eN,lY,dd,eI]
 rw[ht,Rv t.conns hd i hi,decide_eq_true (show(0:Int)≤(i:Int) by omega),ah]
 rfl
theorem zR (t:Tabl)(c:Conn)(l:Limi):lv.f (t,c,l,())=if ck.f ((⟨t.conns++[c],t.waiting++[c.tuple]⟩:Tabl),l,())=true then(⟨t.conns++[c],t.waiting++[c.tuple]⟩,true)else(t,false):=by
 simp only[PX,lv,lY,dd]
 cases ck.f ((⟨t.conns++[c],t.waiting++[c.tuple]⟩:Tabl),l,())<;>rfl
def pE (xs:List Half)(t:Tupl):List Half:=bif decide (0≤gW (λh:Half=>kw t h.tuple) xs)then xs.take (gW (λh:Half=>kw t h.tuple) xs).toNat++xs.drop ((gW (λh:Half=>kw t h.tuple) xs).toNat+1)else xs
theorem xP (xs:List Half)(t:Tupl)(hl:xs.length≤4294967296):py.f (xs,t,())=pE xs t:=by
 simp only[PX,py,qk,f9]
 unfold pE
 cases h:decide (0≤gW (λh:Half=>kw t h.tuple) xs)with
 |false=>
  rw[show decide (gW (λh:Half=>kw t h.tuple) xs<0)=true by simp at h⊢;exact h]
  simp
 |true=>
  obtain⟨i,e,hi,-⟩:=A8 xs t h
  rw[e,decide_eq_false (show¬(i:Int)<0 by omega),aA (by omega) (by omega),ah,show((i:Int)+1).toNat=i+1 by omega]
  simp
theorem xK (xs:List Half)(t:Tupl)(hl:xs.length≤4294967296):ne.f (xs,t,())=pE xs t:=by
 simp only[PX,ne,ep,rl,f9]
 unfold pE
 cases h:decide (0≤gW (λh:Half=>kw t h.tuple) xs)with
 |false=>simp
 |true=>
  obtain⟨i,e,hi,-⟩:=A8 xs t h
  rw[e,aA (by omega) (by omega),show((i:Int)==(i:Int)+1)=false by simp;omega,ah,show((i:Int)+1).toNat=i+1 by omega]
  simp only[cond_false,cond_true]
  have hL:(xs.take i++xs.drop (i+1)).length=i+(xs.length-(i+1)):=by
   rw[List.length_append,List.length_take,List.length_drop];omega
  generalize xs.take i++xs.drop (i+1)=L at hL⊢
  rw[List.drop_zero,List.take_left' hL,ah,hL,List.take_left' hL,List.append_assoc,List.take_left' hL]
theorem Vr (xs:List Half)(t:Tupl):(pE xs t).Sublist xs:=by
 unfold pE
 cases h:decide (0≤gW (λh:Half=>kw t h.tuple) xs)with
 |false=>exact List.Sublist.refl _
 |true=>
  obtain⟨i,e,hi,-⟩:=A8 xs t h
  rw[e,ah,cond_true]
  have h1:(xs.take i++xs.drop (i+1)).Sublist (xs.take i++xs.drop i):=List.Sublist.append (List.Sublist.refl _) (by
   rw[←List.drop_drop];exact List.drop_sublist _ _)
  rw[List.take_append_drop]at h1
  exact h1
theorem HO.sub {xs ys:List Half}(h:HO xs)(hs:ys.Sublist xs):HO ys:=⟨λy hy=>h.ok y (hs.subset hy),List.Nodup.sublist (hs.map _) h.nd,Nat.le_trans hs.length_le h.len⟩
theorem Jb (xs:List Half)(t:Tupl)(hd:(xs.map Half.tuple).Nodup):t∉(pE xs t).map Half.tuple:=by
 unfold pE
 cases h:decide (0≤gW (λh:Half=>kw t h.tuple) xs)with
 |false=>
  rw[lW]at h
  rw[cond_false,←tX,h];simp
 |true=>
  obtain⟨i,e,hi,ht⟩:=A8 xs t h
  rw[e,ah,cond_true,List.map_append,List.mem_append]
  have h1:xs.map Half.tuple=(xs.take i).map Half.tuple++t::(xs.drop (i+1)).map Half.tuple:=by
   conv=>lhs;rw[←List.take_append_drop i xs,List.drop_eq_getElem_cons hi]
   rw[List.map_append,List.map_cons,ht]
  rw[h1]at hd
  obtain⟨-,h3,h4⟩:=List.nodup_append.1 hd
  rintro(h5|h5)
  ·exact h4 t h5 t (List.mem_cons_self ..) rfl
  ·exact(List.nodup_cons.1 h3).1 h5
theorem Sn (g:Segm):p4.f (g,())=pD.f (g,()):=by
 simp only[PX,p4,pD,HK,tT,i1,cr,bG]
theorem Ij (d:Door)(g:Segm):ia.f (d,g,())=(d,iV.f (g,()),0):=by
 simp only[PX,ia,Sn,gi,iV]
 cases(pD.f (g,())).2<;>rfl
theorem JV (n:Int):kv.f (n,())=jd.f (n,()):=by
 simp only[PX,kv,jd,nu,bD,Int.add_zero]
def xb (t:Tupl)(iss irs:Int)(o:Opti)(w:Int):Conn:=⟨t,1,⟨(iss+1)%4294967296,[],0,false,false,false⟩,⟨(irs+1)%4294967296,[],[],-1,false⟩,io w o.scale,io w o.scale,o,0,0⟩
theorem zN (t:Tupl)(iss irs:Int)(o:Opti)(w:Int)(ho:aq.f (o,())=true)(h0:0≤w)(h1:w≤65535):sE.f (t,iss,irs,o,w,())=xb t iss irs o w:=by
 have hs:=(gj o ho).2
 have hw:ai.f (w,16,())=true:=by rw[dM,decide_eq_true h0,decide_eq_true h1];rfl
 simp only[PX,sE,ho,hw,Bool.not_true,cond_false,jd,bD,Int.add_zero]
 rw[Dl w o h0 h1 hs,show((irs+1)%4294967296%4294967296)=(irs+1)%4294967296 by omega]
 rfl
theorem Bo (t:Tupl)(iss irs:Int)(o:Opti)(w:Int)(ho:aq.f (o,())=true)(h0:0≤w)(h1:w≤65535):pj.f (t,iss,irs,o,w,())=xb t iss irs o w:=by
 have hs:=(gj o ho).2
 have hw:ai.f (w,16,())=true:=by rw[dM,decide_eq_true h0,decide_eq_true h1];rfl
 have e:=(RG w o.scale h0 h1 hs).1
 have hl:IntKind.wrap .u64 (fq.f (0,o.scale,()))=if o.scale<0 then 0 else o.scale:=by
  rw[Gh,F2 _ (by split<;>omega) (by split<;>omega)]
 simp only[PX,pj,ll,dS,ho,hw,Bool.not_true,cond_false,JV,jd,i1,bD,Int.add_zero]
 rw[hl,e,show((irs+1)%4294967296%4294967296)=(irs+1)%4294967296 by omega]
 rfl
theorem IY (t:Tupl)(iss irs:Int)(o:Opti)(w:Int)(ht:aD.f (t,())=true)(ho:aq.f (o,())=true)(h0:0≤w)(h1:w≤65535):CO (xb t iss irs o w)∧bN (xb t iss irs o w).r.held:=by
 have hs:=(gj o ho).2
 have hr:=HT w o.scale h0 h1 hs
 have hsm:bN (xb t iss irs o w).r.held:=λy hy=>by cases hy
 refine⟨⟨ht, ?_, ?_,ho,by show(1:Int)≤1;omega,by show(1:Int)≤8;omega,hr.1,hr.2,hr.1,Int.le_refl _,Int.le_refl _,by show(0:Int)≤4;omega,λ_=>by show(0:Int)≤3;omega,Int.le_refl _,by show(0:Int)≤3;omega,rfl⟩,hsm⟩
 ·refine⟨by show 0≤(iss+1)%4294967296;omega,by show(iss+1)%4294967296≤4294967295;omega,by show(0:Nat)≤48;omega,Int.le_refl _,by show(0:Int)≤((0:Nat):Int);omega,λh=>(by cases h),λh=>(by cases h)⟩
 ·rw[pO _ hsm]
  exact⟨by show 0≤(irs+1)%4294967296;omega,by show(irs+1)%4294967296≤4294967295;omega,by show(0:Nat)≤32;omega,by show(0:Nat)≤3;omega,Int.le_refl _,by show(-1:Int)≤oc _;unfold oc;simp[xb],by show(-1:Int)≠0;omega,⟨0,by simp[xb,eJ]⟩,λh=>(by cases h)⟩
theorem yM (i:Int)(o:Opti)(ho:aq.f (o,())=true):aq.f (bp.f (i,o,()),())=true:=by
 have hm:0≤fu.f (i,())∧fu.f (i,())≤65535:=by
  simp only[PX,fu,av]
  by_cases h:0≤i∧i≤7
  ·rw[decide_eq_true h.1,decide_eq_true h.2]
   have:i=0∨i=1∨i=2∨i=3∨i=4∨i=5∨i=6∨i=7:=by omega
   rcases this with rfl|rfl|rfl|rfl|rfl|rfl|rfl|rfl<;>decide+kernel
  ·rw[show(decide (0≤i)&&decide (i≤7))=false by rw[Bool.and_eq_false_iff];simp only[decide_eq_false_iff_not];omega]
   simp
 have hsc: -1≤(jg.f (o.echo,())).1∧(jg.f (o.echo,())).1≤14:=by
  simp only[PX,jg,LJ]
  cases(bif !ai.f (o.echo,32,())then(true,())else((bits .and .i64 o.echo 32)==0,())).1 with
  |true=>simp only[cond_true];omega
  |false=>
   by_cases h:o.echo%16=15
   ·rw[show(o.echo%16==15)=true by simp[h]];simp only[cond_true,cond_false];omega
   ·rw[show(o.echo%16==15)=false by simp[h]];simp only[cond_false];omega
 simp only[PX,bp,bG]
 cases hs:o.stamp with
 |false=>
  simp only[cond_false]
  simp only[PX,aq,av,dM,be,decide_eq_true hm.1,decide_eq_true hm.2]
  rfl
 |true=>
  have hv:0≤o.val∧o.val≤4294967295:=by
   simp only[PX,aq,hs,av,dM,be,Bool.not_true,cond_false]at ho
   by_cases h:0≤o.val∧o.val≤4294967295
   ·exact h
   ·rw[show(decide (0≤o.val)&&decide (o.val≤4294967295))=false by rw[Bool.and_eq_false_iff];simp only[decide_eq_false_iff_not];omega]at ho
    revert ho
    cases(decide (0≤o.mss)&&decide (o.mss≤65535))<;>cases(decide (-1≤o.scale)&&decide (o.scale≤14))<;>simp
  simp only[cond_true]
  cases(jg.f (o.echo,())).2.2 with
  |false=>
   simp only[cond_false]
   simp only[PX,aq,av,dM,be,decide_eq_true hm.1,decide_eq_true hm.2]
   rfl
  |true=>
   simp only[cond_true]
   simp only[PX,aq,av,dM,be,decide_eq_true hm.1,decide_eq_true hm.2,decide_eq_true hsc.1,decide_eq_true hsc.2,decide_eq_true hv.1,decide_eq_true hv.2]
   rfl
def uK (d:Door)(c:Conn)(g:Segm)(made:Int):Door×List Segm×Int:=
 if ck.f ((⟨d.table.conns++[c],d.table.waiting++[c.tuple]⟩:Tabl),d.limits,())=true then
  ({d with halves:=pE d.halves c.tuple,table:=⟨d.table.conns++[(cN c g).1],d.table.waiting++[c.tuple]⟩},(cN c g).2.1,made)
 else(d,[],0)
theorem LM (t:Tabl)(l:Limi)(c:Conn)(g:Segm)(hs:bN c.r.held)(hT:ck.f ((⟨t.conns++[c],t.waiting++[c.tuple]⟩:Tabl),l,())=true):eN.f ((⟨t.conns++[c],t.waiting++[c.tuple]⟩:Tabl),(cN c g).1,())=⟨t.conns++[(cN c g).1],t.waiting++[c.tuple]⟩:=by
 have h:=(Gm _ _).1 hT
 have hc:=h.co c (by simp)
 have hr:=FH c g hc hs
 rw[Ba _ _ h.dc t.conns.length (by simp) (by simp[hr.2.1])]
 simp
theorem P6 (d:Door)(c:Conn)(g:Segm)(m:Int)(hd:jQ d)(hc:bN c.r.held)(hl:d.halves.length≤4294967296):pU.f (d,c,g,m,())=uK d c g m:=by
 simp only[PX,pU,gi,Vc d.table c d.limits hd hc,zR,Bd c g hc,Ue,xP _ _ hl]
 unfold uK
 by_cases hT:ck.f ((⟨d.table.conns++[c],d.table.waiting++[c.tuple]⟩:Tabl),d.limits,())=true
 ·rw[if_pos hT,if_pos hT,LM d.table d.limits c g hc hT];rfl
 ·rw[if_neg hT,if_neg hT];rfl
def Pg (d:Door)(t:Tupl)(g:Segm):Door×List Segm×Int:=
 if bB.f (d,())=true∧aD.f (t,())=true∧ao.f (g,())=true∧¬0≤au.f (d.table,t,())then
  if 0≤aC.f (d.halves,t,())then
   if g.ack≠((d.halves.getD (aC.f (d.halves,t,())).toNat (Ty.zero .half)).iss+1)%4294967296 then(d,iV.f (g,()),0)
   else if g.seq≠((d.halves.getD (aC.f (d.halves,t,())).toNat (Ty.zero .half)).irs+1)%4294967296 then(d,[],0)
   else uK d (xb t (d.halves.getD (aC.f (d.halves,t,())).toNat (Ty.zero .half)).iss (d.halves.getD (aC.f (d.halves,t,())).toNat (Ty.zero .half)).irs (d.halves.getD (aC.f (d.halves,t,())).toNat (Ty.zero .half)).opts g.window) g 1
  else if(ba.f (d.keys,t,(g.seq+ -1)%4294967296,(g.ack+ -1)%4294967296,())).2.2=true then
   uK d (xb t ((g.ack+ -1)%4294967296) ((g.seq+ -1)%4294967296) (bp.f ((ba.f (d.keys,t,(g.seq+ -1)%4294967296,(g.ack+ -1)%4294967296,())).2.1,g.opts,())) g.window) g 2
  else(d,iV.f (g,()),0)
 else(d,[],0)
theorem KR (xs:List Half)(t:Tupl)(h:HO xs)(hf:0≤aC.f (xs,t,())):aq.f ((xs.getD (aC.f (xs,t,())).toNat (Ty.zero .half)).opts,())=true:=by
 rw[f9]at hf⊢
 obtain⟨i,e,hi,-⟩:=A8 xs t (decide_eq_true hf)
 rw[e,ah,getD_some (List.getElem?_eq_getElem hi)]
 have:=h.ok _ (List.getElem_mem hi)
 unfold Ce at this
 simp only[Bool.and_eq_true]at this
 exact this.2.2.2.2.1
theorem aap {A B C:Type}(x:A×B×C):(x.1,x.2.1,x.2.2)=x:=rfl
theorem SP (d:Door)(t:Tupl)(g:Segm)(hs:jQ d)(hl:d.halves.length≤4294967296):sQ.f (d,t,g,())=Pg d t g:=by
 simp only[PX,sQ,gi,F9 d t g hs,iH,qk,i1,bD,Ij,JA,B5]
 unfold Pg
 cases h1:bB.f (d,())with
 |false=>simp
 |true=>
 cases h2:aD.f (t,())with
 |false=>simp
 |true=>
 cases h3:ao.f (g,())with
 |false=>simp
 |true=>
 have hD:=(rj d).1 h1
 have hg:=(dL g).1 h3
 have hw:=hg.2.2.2.2.2.1
 by_cases h4:0≤au.f (d.table,t,())
 ·rw[if_neg (λh=>h.2.2.2 h4),decide_eq_true h4];rfl
 rw[if_pos ⟨rfl,rfl,rfl,h4⟩,decide_eq_false h4]
 simp only[Bool.and_self,Bool.not_true,cond_false]
 by_cases h5:0≤aC.f (d.halves,t,())
 ·rw[if_pos h5,decide_eq_true h5]
  have ho:=KR d.halves t hD.hal h5
  obtain⟨h,hh⟩:∃h,d.halves.getD (aC.f (d.halves,t,())).toNat (Ty.zero .half)=h:=⟨_,rfl⟩
  rw[hh]at ho
  rw[cond_true,hh]
  by_cases h6:g.ack=(h.iss+1)%4294967296
  ·rw[if_neg (λhh=>hh h6),show(g.ack != (h.iss+1)%4294967296)=false by simp[h6]]
   by_cases h7:g.seq=(h.irs+1)%4294967296
   ·rw[if_neg (λhh=>hh h7),show(g.seq != (h.irs+1)%4294967296)=false by simp[h7]]
    rw[Bo t h.iss h.irs h.opts g.window ho hw.1 hw.2,P6 d _ g 1 hs (IY t h.iss h.irs h.opts g.window h2 ho hw.1 hw.2).2 hl]
    generalize uK d (xb t h.iss h.irs h.opts g.window) g 1=z
    exact aap z
   ·rw[if_pos h7,show(g.seq != (h.irs+1)%4294967296)=true by simp[h7]];rfl
  ·rw[if_pos h6,show(g.ack != (h.iss+1)%4294967296)=true by simp[h6]];rfl
 ·rw[if_neg h5,decide_eq_false h5]
  have ho:=yM (ba.f (d.keys,t,(g.seq+ -1)%4294967296,(g.ack+ -1)%4294967296,())).2.1 g.opts hg.2.2.2.2.2.2.1
  generalize ba.f (d.keys,t,(g.seq+ -1)%4294967296,(g.ack+ -1)%4294967296,())=k at ho⊢
  rw[cond_false]
  cases h6:k.2.2 with
  |false=>simp
  |true=>
   simp only[Bool.not_true,cond_false,if_true]
   have e1:=Bo t ((g.ack+ -1)%4294967296) ((g.seq+ -1)%4294967296) (bp.f (k.2.1,g.opts,())) g.window ho hw.1 hw.2
   have e2:=P6 d (xb t ((g.ack+ -1)%4294967296) ((g.seq+ -1)%4294967296) (bp.f (k.2.1,g.opts,())) g.window) g 2 hs (IY t _ _ _ g.window h2 ho hw.1 hw.2).2 hl
   simp only[e1,e2]
theorem Rs (d:Door)(t:Tupl)(g:Segm)(hl:d.halves.length≤4294967296):FE.f (d,t,g,())=Pg d t g:=by
 simp only[PX,FE,jE,bD]
 unfold Pg
 have e:(bif !bB.f (d,())then(true,())else bif !aD.f (t,())then(true,())else bif !ao.f (g,())then(true,())else(decide (0≤au.f (d.table,t,())),())).1= !decide (bB.f (d,())=true∧aD.f (t,())=true∧ao.f (g,())=true∧¬0≤au.f (d.table,t,())):=by
  by_cases h4:0≤au.f (d.table,t,())
  ·rw[decide_eq_true h4];cases bB.f (d,())<;>cases aD.f (t,())<;>cases ao.f (g,())<;>simp[h4]
  ·rw[decide_eq_false h4];cases bB.f (d,())<;>cases aD.f (t,())<;>cases ao.f (g,())<;>simp[h4]
 rw[e]
 by_cases hq:bB.f (d,())=true∧aD.f (t,())=true∧ao.f (g,())=true∧¬0≤au.f (d.table,t,())
 case neg=>rw[decide_eq_false hq,if_neg hq];rfl
 rw[decide_eq_true hq,if_pos hq]
 obtain⟨h1,h2,h3,h4⟩:=hq
 have hD:=(rj d).1 h1
 have hg:=(dL g).1 h3
 have hw:=hg.2.2.2.2.2.1
 have L:∀(c:Conn) (m:Int),bN c.r.held→(c.tuple=t)→(bif !(lv.f (d.table,c,d.limits,())).2 then(d,([]:List Segm),(0:Int))else(({d with halves:=ne.f (d.halves,t,()),table:=eN.f ((lv.f (d.table,c,d.limits,())).1,(nj.f (c,g,())).1,())}:Door),(nj.f (c,g,())).2.1,m))=uK d c g m:=by
  intro c m hc ht
  rw[zR,zw c g hc,xK _ _ hl]
  unfold uK
  by_cases hT:ck.f ((⟨d.table.conns++[c],d.table.waiting++[c.tuple]⟩:Tabl),d.limits,())=true
  ·rw[if_pos hT,if_pos hT]
   simp only[Bool.not_true,cond_false]
   rw[LM d.table d.limits c g hc hT,ht]
  ·rw[if_neg hT,if_neg hT];rfl
 simp only[Bool.not_true,cond_false]
 by_cases h5:0≤aC.f (d.halves,t,())
 ·rw[if_pos h5]
  simp only[decide_eq_true h5,cond_true]
  have ho:=KR d.halves t hD.hal h5
  generalize d.halves.getD (aC.f (d.halves,t,())).toNat (Ty.zero .half)=h at ho⊢
  by_cases h6:g.ack=(h.iss+1)%4294967296
  ·rw[if_neg (λhh=>hh h6)]
   simp only[show(g.ack != (h.iss+1)%4294967296)=false by simp[h6],cond_false]
   by_cases h7:g.seq=(h.irs+1)%4294967296
   ·rw[if_neg (λhh=>hh h7)]
    simp only[show(g.seq != (h.irs+1)%4294967296)=false by simp[h7],cond_false]
    rw[←L _ 1 (IY t h.iss h.irs h.opts g.window h2 ho hw.1 hw.2).2 rfl,←zN t h.iss h.irs h.opts g.window ho hw.1 hw.2]
    rfl
   ·rw[if_pos h7]
    simp only[show(g.seq != (h.irs+1)%4294967296)=true by simp[h7],cond_true]
    rfl
  ·rw[if_pos h6]
   simp only[show(g.ack != (h.iss+1)%4294967296)=true by simp[h6],cond_true]
   rfl
 ·rw[if_neg h5]
  simp only[decide_eq_false h5,cond_false]
  have ho:=yM (ba.f (d.keys,t,(g.seq+ -1)%4294967296,(g.ack+ -1)%4294967296,())).2.1 g.opts hg.2.2.2.2.2.2.1
  generalize ba.f (d.keys,t,(g.seq+ -1)%4294967296,(g.ack+ -1)%4294967296,())=k at ho⊢
  cases h6:k.2.2 with
  |false=>
   simp only[Bool.not_false,cond_true,Bool.false_eq_true,if_false]
   rfl
  |true=>
   simp only[Bool.not_true,cond_false,if_true]
   rw[←L _ 2 (IY t _ _ _ g.window h2 ho hw.1 hw.2).2 rfl,←zN t _ _ _ g.window ho hw.1 hw.2]
   rfl
def uH (src:Int)(g:Segm):Tupl:=⟨src,g.from_,g.to⟩
def TY (d:Door)(k:Nat)(g:Segm):Door×List Segm×Int:=
 if(cN (d.table.conns.getD k (Ty.zero .conn)) g).2.2=3 then
  if d.chal=d.limits.chal then({d with table.conns:=d.table.conns.set k (cN (d.table.conns.getD k (Ty.zero .conn)) g).1},[],0)
  else({d with table.conns:=d.table.conns.set k (cN (d.table.conns.getD k (Ty.zero .conn)) g).1,chal:=d.chal+1},(cN (d.table.conns.getD k (Ty.zero .conn)) g).2.1,0)
 else({d with table.conns:=d.table.conns.set k (cN (d.table.conns.getD k (Ty.zero .conn)) g).1},(cN (d.table.conns.getD k (Ty.zero .conn)) g).2.1,0)
def ZD (d:Door)(t:Tupl)(g:Segm):Door:=
 if 0≤aC.f (d.halves,t,())∧g.seq=((d.halves.getD (aC.f (d.halves,t,())).toNat (Ty.zero .half)).irs+1)%4294967296 then{d with halves:=pE d.halves t}else d
def j9 (d:Door)(src:Int)(g:Segm):Door×List Segm×Int:=
 if bB.f (d,())=true∧ai.f (src,32,())=true∧ao.f (g,())=true then
  if g.to≠d.port then(d,iV.f (g,()),0)
  else if 0≤au.f (d.table,uH src g,())then TY d (au.f (d.table,uH src g,())).toNat g
  else bif bc.f (g,4,())then(ZD d (uH src g) g,[],0)
  else bif bc.f (g,2,())&&(!bc.f (g,16,())&& !bc.f (g,1,()))then((qX.f (d,uH src g,g,())).1,(qX.f (d,uH src g,g,())).2,0)
  else bif bc.f (g,16,())&& !bc.f (g,2,())then Pg d (uH src g) g
  else bif bc.f (g,16,())then(d,iV.f (g,()),0)else(d,[],0)
 else(d,[],0)
theorem QR (d:Door)(t:Tupl)(h:0≤au.f (d.table,t,())):∃k:Nat,au.f (d.table,t,())=(k:Int)∧∃hk:k<d.table.conns.length,d.table.conns[k].tuple=t:=by
 rw[eI]at h⊢
 exact XT _ _ (decide_eq_true h)
theorem XF (d:Door)(k:Nat)(g:Segm)(hs:jQ d)(hD:DO d)(hk:k<d.table.conns.length):wu.f (d,(k:Int),g,())=TY d k g:=by
 have hsk:bN (d.table.conns.getD k (Ty.zero .conn)).r.held:=by
  rw[getD_some (List.getElem?_eq_getElem hk)];exact hs _ (List.getElem_mem hk)
 have k0:=hD.k0
 have k1:=hD.k1
 have k2:=hD.tab.lim.k1
 simp only[PX,wu,gi,ah,Bd _ g hsk]
 unfold TY
 rw[aA (by omega) (by omega)]
 by_cases h3:(cN (d.table.conns.getD k (Ty.zero .conn)) g).2.2=3
 ·rw[if_pos h3,show((cN (d.table.conns.getD k (Ty.zero .conn)) g).2.2==3)=true by rw[h3];rfl,cond_true]
  by_cases h4:d.chal=d.limits.chal
  ·rw[if_pos h4,show(d.chal==d.limits.chal)=true by simp[h4]];rfl
  ·rw[if_neg h4,show(d.chal==d.limits.chal)=false by simp[h4]];rfl
 ·rw[if_neg h3,show((cN (d.table.conns.getD k (Ty.zero .conn)) g).2.2==3)=false from beq_eq_false_iff_ne.2 h3];rfl
theorem U9 (s:Int)(g:Segm):nb.f (s,g,())=uH s g:=by simp only[PX,nb,uH]
theorem Nk (s:Int)(g:Segm):wN.f (s,g,())=uH s g:=by simp only[PX,wN,uH]
theorem ok3 (a b c:Bool):(bif !a then(true,())else bif !b then(true,())else(!c,())).1= !decide (a=true∧b=true∧c=true):=by cases a<;>cases b<;>cases c<;>rfl
theorem Xt (a b c:Bool):(bif a then bif !b then(!c,())else(false,())else(false,())).1=(a&&(!b&& !c)):=by cases a<;>cases b<;>cases c<;>rfl
theorem ru (a b:Bool):(bif a then(!b,())else(false,())).1=(a&& !b):=by cases a<;>cases b<;>rfl
theorem QW (p:Prop)[Decidable p](a b:Int):(bif decide p then(a==b,())else(false,())).1=decide (p∧a=b):=by
 by_cases h:p<;>by_cases h2:a=b<;>simp[h,h2]
theorem Ig (d:Door)(src:Int)(g:Segm)(hs:jQ d)(hl:d.halves.length≤4294967296):AG.f (d,src,g,())=j9 d src g:=by
 simp only[PX,AG,gi,BD d hs,dS,uX,U9,iH,qk,i1,bD,Ij,HK,X2 d _ g hs,SP d _ g hs hl,xP _ _ hl,ok3,Xt,ru]
 unfold j9
 by_cases hq:bB.f (d,())=true∧ai.f (src,32,())=true∧ao.f (g,())=true
 case neg=>rw[decide_eq_false hq,if_neg hq];rfl
 rw[decide_eq_true hq,if_pos hq,Bool.not_true,cond_false]
 have hD:=(rj d).1 hq.1
 by_cases hp:g.to=d.port
 case neg=>rw[if_pos hp,show(g.to != d.port)=true by simp[hp]];rfl
 rw[if_neg (λh=>h hp),show(g.to != d.port)=false by simp[hp],cond_false]
 by_cases hc:0≤au.f (d.table,uH src g,())
 ·rw[if_pos hc,decide_eq_true hc,cond_true]
  obtain⟨k,e,hk,-⟩:=QR d _ hc
  rw[e,ah,XF d k g hs hD hk]
 rw[if_neg hc,decide_eq_false hc,cond_false]
 cases bc.f (g,4,())with
 |true=>
  rw[cond_true,cond_true,QW]
  unfold ZD
  by_cases hr:0≤aC.f (d.halves,uH src g,())∧g.seq=((d.halves.getD (aC.f (d.halves,uH src g,())).toNat (Ty.zero .half)).irs+1)%4294967296
  ·rw[decide_eq_true hr,if_pos hr];rfl
  ·rw[decide_eq_false hr,if_neg hr];rfl
 |false=>
  rw[cond_false,cond_false]
theorem yD (d:Door)(src:Int)(g:Segm)(hs:jQ d)(hl:d.halves.length≤4294967296):wX.f (d,src,g,())=j9 d src g:=by
 simp only[PX,wX,jE,Nk,bD,Rs d _ g hl,xK _ _ hl,ok3,Xt,ru]
 unfold j9
 by_cases hq:bB.f (d,())=true∧ai.f (src,32,())=true∧ao.f (g,())=true
 case neg=>rw[decide_eq_false hq,if_neg hq];rfl
 rw[decide_eq_true hq,if_pos hq,Bool.not_true,cond_false]
 have hD:=(rj d).1 hq.1
 by_cases hp:g.to=d.port
 case neg=>rw[if_pos hp,show(g.to != d.port)=true by simp[hp]];rfl
 rw[if_neg (λh=>h hp),show(g.to != d.port)=false by simp[hp],cond_false]
 by_cases hc:0≤au.f (d.table,uH src g,())
 ·rw[if_pos hc,decide_eq_true hc,cond_true]
  obtain⟨k,e,hk,ht⟩:=QR d _ hc
  rw[e,ah]
  have hsk:bN (d.table.conns.getD k (Ty.zero .conn)).r.held:=by
   rw[getD_some (List.getElem?_eq_getElem hk)];exact hs _ (List.getElem_mem hk)
  have hck:CO (d.table.conns.getD k (Ty.zero .conn)):=by
   rw[getD_some (List.getElem?_eq_getElem hk)];exact hD.tab.co _ (List.getElem_mem hk)
  have hrk:=FH _ g hck hsk
  have hset:eN.f (d.table,(cN (d.table.conns.getD k (Ty.zero .conn)) g).1,())=⟨d.table.conns.set k (cN (d.table.conns.getD k (Ty.zero .conn)) g).1,d.table.waiting⟩:=Ba d.table _ hD.tab.dc k hk (by rw[hrk.2.1,getD_some (List.getElem?_eq_getElem hk)])
  have k0:=hD.k0
  have k1:=hD.k1
  have k2:=hD.tab.lim.k1
  rw[zw _ g hsk]
  unfold TY
  by_cases h3:(cN (d.table.conns.getD k (Ty.zero .conn)) g).2.2=3
  ·rw[if_pos h3,show((cN (d.table.conns.getD k (Ty.zero .conn)) g).2.2==3)=true by rw[h3];rfl,cond_true]
   by_cases h4:d.chal=d.limits.chal
   ·rw[if_pos h4,show(d.chal==d.limits.chal)=true by simp[h4]]
    show(({d with table:=eN.f (d.table,(cN (d.table.conns.getD k (Ty.zero .conn)) g).1,())}:Door),([]:List Segm),(0:Int))=_
    rw[hset]
   ·rw[if_neg h4,show(d.chal==d.limits.chal)=false by simp[h4]]
    show(({d with table:=eN.f (d.table,(cN (d.table.conns.getD k (Ty.zero .conn)) g).1,()),chal:=IntKind.wrap .i64 (d.chal+1)}:Door),(cN (d.table.conns.getD k (Ty.zero .conn)) g).2.1,(0:Int))=_
    rw[hset,aA (by omega) (by omega)]
  ·rw[if_neg h3,show((cN (d.table.conns.getD k (Ty.zero .conn)) g).2.2==3)=false from beq_eq_false_iff_ne.2 h3]
   show(({d with table:=eN.f (d.table,(cN (d.table.conns.getD k (Ty.zero .conn)) g).1,())}:Door),(cN (d.table.conns.getD k (Ty.zero .conn)) g).2.1,(0:Int))=_
   rw[hset]
 rw[if_neg hc,decide_eq_false hc,cond_false]
 cases bc.f (g,4,())with
 |true=>
  rw[cond_true,cond_true,QW]
  unfold ZD
  by_cases hr:0≤aC.f (d.halves,uH src g,())∧g.seq=((d.halves.getD (aC.f (d.halves,uH src g,())).toNat (Ty.zero .half)).irs+1)%4294967296
  ·rw[decide_eq_true hr,if_pos hr];rfl
  ·rw[decide_eq_false hr,if_neg hr];rfl
 |false=>
  rw[cond_false,cond_false]
theorem WF (t:Tabl)(x:Tupl):¬0≤au.f (t,x,())↔x∉t.conns.map Conn.tuple:=by
 rw[eI,←tX,←lW]
 simp
theorem WI (xs:List Half)(x:Tupl):¬0≤aC.f (xs,x,())↔x∉xs.map Half.tuple:=by
 rw[f9,←tX,←lW]
 simp
theorem Zs (d:Door)(c:Conn)(g:Segm)(m:Int)(hD:DO d)(hs:bN c.r.held)(hn:c.tuple∉d.table.conns.map Conn.tuple):DO (uK d c g m).1∧∀y∈(uK d c g m).2.1,ao.f (y,())=true:=by
 unfold uK
 by_cases hT:ck.f ((⟨d.table.conns++[c],d.table.waiting++[c.tuple]⟩:Tabl),d.limits,())=true
 case neg=>rw[if_neg hT];exact⟨hD,λy hy=>by cases hy⟩
 rw[if_pos hT]
 have h:=(Gm _ _).1 hT
 have hc:=h.co c (by simp)
 have hr:=FH c g hc hs
 have hset:=TO.set h d.table.conns.length (cN c g).1 hr.1 (by simp) (by simp[hr.2.1])
 have e:(d.table.conns++[c]).set d.table.conns.length (cN c g).1=d.table.conns++[(cN c g).1]:=by simp
 rw[e]at hset
 have hsub:=Vr d.halves c.tuple
 refine⟨⟨hD.port,hD.c0,hD.c1,hD.keys,hset,HO.sub hD.hal hsub, ?_,hD.k0,hD.k1, ?_⟩,hr.2.2.1⟩
 ·show((pE d.halves c.tuple).length:Int)≤d.limits.halves
  have:=hsub.length_le
  have:=hD.nh
  omega
 ·intro y hy hm
  have hy2:y∈pE d.halves c.tuple:=hy
  have hm2:y.tuple∈(d.table.conns++[(cN c g).1]).map Conn.tuple:=hm
  rw[List.map_append,List.mem_append]at hm2
  rcases hm2 with h1|h1
  ·exact hD.ap y (hsub.subset hy2) h1
  ·simp only[List.map_cons,List.map_nil,List.mem_singleton,hr.2.1]at h1
   have hy3:=List.mem_map_of_mem (f:=Half.tuple) hy2
   rw[h1]at hy3
   exact Jb d.halves c.tuple hD.hal.nd hy3
theorem Tk (xs:List Half)(h:Half)(n:Int):ni.f (xs,h,n,())=if(xs.length:Int)<n∧fW.f (xs++[h],())=true then(xs++[h],true)else(xs,false):=by
 simp only[PX,ni,ep,List.nil_append]
 by_cases h1:n≤(xs.length:Int)
 ·rw[decide_eq_true h1,if_neg (by omega)];rfl
 ·rw[decide_eq_false h1]
  cases h2:fW.f (xs++[h],())with
  |true=>rw[if_pos ⟨by omega,rfl⟩];rfl
  |false=>rw[if_neg (by simp)];rfl
theorem HN (xs:List Conn)(c:Conn)(t:Tupl)(hn:t∉xs.map Conn.tuple)(ht:c.tuple=t):gW (λh:Conn=>kw t h.tuple) (xs++[c])=(xs.length:Int):=by
 apply Vv
 ·rw[←tX]at hn;simpa using hn
 ·show kw t c.tuple=true
  rw[ht];exact ry t
structure Let (d:Door)(t:Tupl)(x:Door):Prop where
 con:au.f (x.table,t,())=(d.table.conns.length:Int)
 hal:¬0≤aC.f (x.halves,t,())
theorem ZH (d:Door)(c:Conn)(g:Segm)(m:Int)(hD:DO d)(hs:bN c.r.held)(hn:c.tuple∉d.table.conns.map Conn.tuple)(hT:ck.f ((⟨d.table.conns++[c],d.table.waiting++[c.tuple]⟩:Tabl),d.limits,())=true):Let d c.tuple (uK d c g m).1∧(uK d c g m).2.2=m:=by
 unfold uK
 rw[if_pos hT]
 have h:=(Gm _ _).1 hT
 have hc:=h.co c (by simp)
 have hr:=FH c g hc hs
 refine⟨⟨?_, ?_⟩,rfl⟩
 ·rw[eI]
  exact HN d.table.conns _ c.tuple hn hr.2.1
 ·rw[WI]
  exact Jb d.halves c.tuple hD.hal.nd
theorem XD (x:List Int)(hb:G5.f (x,())=false):x.length≤1048576:=by
 simp only[PX,G5,decide_eq_false_iff_not]at hb
 omega
def hwN (v:List Entr)(ip:Int):Int×Bool:=match v.findIdx? (λe=>e.ip==ip)with
 |some i=>(match v[i]? with|some x=>(x.hw,true)|none=>(0,false))
 |none=>(0,false)
theorem U1 (v:List Entr)(ip:Int):Nm.f (v,ip,())=hwN v ip:=by
 simp only[PX,Nm,jR]
 rw[bf,d7 v _ rfl (F:=λj x _=>bif x.ip==ip then .out x.hw else .next ()) (λj x a h=>by
  simp only[PX,Dy,ah,getD_some h]),le (p:=λe:Entr=>e.ip==ip) (w:=λ_ x=>x.hw)]
 unfold hwN
 cases v.findIdx? (λe=>e.ip==ip)with
 |none=>rfl
 |some i=>cases h:v[i]? <;>simp only[h]<;>rfl
theorem SN (v:List Entr)(ip:Int):Fu.f (v,ip,())=gW (λe=>e.ip==ip) v:=by
 simp only[PX,Fu,iI]
 rw[lk (λe:Entr=>e.ip==ip) v (λj x a h=>by simp only[PX,zO,ah,getD_some h])]
 unfold gW
 cases v.findIdx? (λe=>e.ip==ip)<;>rfl
theorem Z4 (v:List Entr)(ip:Int):(hwN v ip).2=v.any (λe=>e.ip==ip):=by
 have:=lW (λe:Entr=>e.ip==ip) v
 rw[←this]
 unfold hwN gW
 cases hf:v.findIdx? (λe=>e.ip==ip)with
 |none=>rfl
 |some i=>
  obtain⟨h1,_,_⟩:=List.findIdx?_eq_some_iff_getElem.1 hf
  have h2:v[i]? =some v[i]:=List.getElem?_eq_getElem h1
  simp only[h2,decide_eq_true (show(0:Int)≤(i:Int) by omega)]

end
end Go.Proofs.YtgbgljgnblkffaaGreat
