/-
  Contracts of functions and plain laws (printed by a program): each theorem says what a function of the program returns; conditions are its hypotheses.
-/
import Derived.Test.YteiiknfadjnmgaaGreatEK2
set_option linter.all false
set_option maxRecDepth 4000
namespace Go.Proofs.YteiiknfadjnmgaaGreat
open Go Go.RowKit
noncomputable section
noncomputable def Gt:=[az,Mw,EP]
def nG:Sh:=⟨[zp 0 0,zp 3 1,zo 5 2,zi 6,zi 7],[.box [.st .curs [.sl .any]],.box [.st .stac [.sl .any,.sl .any,.sl .any,.sl .any,.sl .any,.sl .any]],za .acti]⟩
noncomputable def Hn:Fx:=⟨190,Tryz.f190,[(0,la ⟨[0,3,5,6,7],[.softb 3 2,.softb 3 9,.softb 3 13,.softb 3 19,.softb 3 20,.softb 3 21],false,1⟩ ⟨[4,5],[],false,1⟩)],1⟩
noncomputable def MH (v1:Int)(a:Curs×Stac×List Acti):Tr (Stp (Curs×Stac×List Acti) (Empty)):=
 .cal Lt.c (a.1,a.2.1,()) λc4=>
 .grd (qq a.2.2 1 104)<|
 .cal z8.c (a.2.1,c4.1,()) λc5=>
 .ret (.next (c4.2,c5.1,(a.2.2++[c4.1])))
noncomputable def iM:nG.V→qc nG (Curs×Stac×List Acti):=λ(v0,v1,v2,v3,v4,_)=>⟨v1,(v2,v3,v4),λv1 a=>(v0,v1,a.1,a.2.1,a.2.2,()),λv1 _=>(decide (v1<v0)),MH,up,1,(Int.toNat (v0-v1)),Empty.elim,Prod.mk,oN (.exit 0) ⟨[zu 4,zo 5 1],[.box [.st .curs [.sl .any]],za .acti]⟩ (λx=>(x.2.1,x.2.2.2,()))⟩
theorem J3:LS Tryz.prog Hn [0] (fv 0 nG iM):=cI st (aH Gt) _ iM [] trivial
theorem Ml {v0 v1:Int}{v2:Curs}{v3:Stac}{v4:List Acti}(h0:0≤v1)(h1:v0≤4611686018427387904)(h2:v0≤4294967296)(h3:af v2∧ax v3∧(v4.length:Int)=v1∧cX bq v4):(iM (v0,v1,v2,v3,v4,())).U v0 (λv1 a=>af a.1∧ax a.2.1∧(a.2.2.length:Int)=v1∧cX bq a.2.2) (λ_=>True):=
 iT (a:=(v2,v3,v4)) h0 h1 h3
noncomputable def Qw:FT (Curs×Stac×Unit) (List Acti×Curs) (λx=>af x.1∧ax x.2.1) (λx v=>sL bq v.1∧af v.2∧v.1.length≤12):=⟨λ(y0,x1,_)=>
  .cal aj.c (y0,12,()) λc1=>
  .lp (iM (c1.1,0,c1.2,x1,[],())).lp λ(_,a6_0,_,a6_2)=>
  .ret (a6_2,a6_0),
 λ(y0,x1,_) hp=>by
  refine Tr.C ?_ λ_ _ _=>Tr.L (Ml ?_ ?_ ?_ ?_) (λ(a6_0,a6_1,a6_2) _=>Tr.R ?_) (λp=>Empty.elim p)
  all_goals ((try simp only[iM,LC.lp,LC.ct,Ct.lp]at*)<;>grind)⟩
noncomputable def Ud:=cq st Hn Gt [(fv 0 nG iM)] [.wr false [.ptr 0],.st .stac] [.box [.st .curs]] (λx y=>(y.1.1,x.2.1,())) Qw (λv=>[(false,[sc (.o true) .acti v.1])]) (λx y v=>((v.2,()),())) Tryz.func190 (by kernel_rfl) ⟨J3,trivial⟩
noncomputable def HD:=[nq,mp,px,aJ,Gz,az,iX,Qu,wg,bP,U4,D3,zJ,yY]
def nf:Sh:=⟨[zp 0 0,zp 2 1,zp 3 2,zi 4,zi 5],[.box [.st .curs [.sl .any]],.box [.st .conn [.nil .piec]],zk .conn 3,zf]⟩
noncomputable def Hi:Fx:=⟨435,Tryz.f435,[(0,la ⟨[0,2,3,4,5],[],false,1⟩ ⟨[2,3],[],false,1⟩)],1⟩
noncomputable def J5 (v1:Int)(a:Curs×Conn×Conn):Tr (Stp (Curs×Conn×Conn) (Empty)):=
 .cal aj.c (a.1,8,()) λc8=>
 .ite (c8.1==0) (.cal aj.c (c8.2,20,()) λc9=>
  .cal jT.c (c9.2,c9.1,()) λc10=>
  .cal Dp.c (a.2.2,(aw c10.1),()) λc11=>
  .ret (.next (c10.2,({a.2.1 with r.held:=[]}:Conn),c11.1)))<|
 .ite (c8.1==1) (.cal pa.c (a.2.2,()) λc12=>
  .ret (.next (c8.2,({a.2.1 with r.held:=[]}:Conn),c12.1)))<|
 .ite (c8.1==2) (.cal ba.c (c8.2,2,()) λc13=>
  .ite c13.1 (.cal KC.c (a.2.2,()) λc14=>
   .ret (.next (c13.2,({a.2.1 with r.held:=[]}:Conn),c14.1)))<|
  .ret (.next (c13.2,({a.2.1 with r.held:=[]}:Conn),a.2.2)))<|
 .ite (c8.1==3) (.cal aj.c (c8.2,9,()) λc15=>
  .cal sX.c (a.2.2,c15.1,()) λc16=>
  .ret (.next (c15.2,({a.2.1 with r.held:=[]}:Conn),c16.1)))<|
 .cal wE.c (c8.2,a.2.2,()) λc17=>
 .cal rL.c (a.2.2,c17.1,()) λc18=>
 .ret (.next (c17.2,({a.2.1 with r.held:=[]}:Conn),c18.1))
noncomputable def hZ:nf.V→qc nf (Curs×Conn×Conn):=λ(v0,v1,v2,v3,v4,_)=>⟨v1,(v2,v3,v4),λv1 a=>(v0,v1,a.1,a.2.1,a.2.2,()),λv1 _=>(decide (v1<v0)),J5,up,1,(Int.toNat (v0-v1)),Empty.elim,Prod.mk,oN (.exit 0) ⟨[zp 2 1,zp 3 2],[.box [.st .curs [.sl .any]],.box [.st .conn [.nil .piec]],zk .conn 3,zf]⟩ (λx=>(x.2.1,({x.2.2.1 with r.held:=[]}:Conn),x.2.2.2,()))⟩
theorem MG:LS Tryz.prog Hi [0] (fv 0 nf hZ):=cI st (aH HD) _ hZ [] trivial
theorem Mt {v0 v1:Int}{v2:Curs}{v3 v4:Conn}(h0:0≤v1)(h1:v0≤4611686018427387904)(h2:af v2∧ac v3∧ac v4):(hZ (v0,v1,v2,v3,v4,())).U v0 (λv1 a=>af a.1∧ac a.2.1∧ac a.2.2) (λ_=>True):=
 iT (a:=(v2,v3,v4)) h0 h1 h2
noncomputable def Fr:FT (Curs×Unit) (Conn×Curs) (λx=>af x.1) (λx v=>ac v.1∧af v.2):=⟨λ(y0,_)=>
  .cal oM.c (y0,()) λc1=>
  .cal kp.c (c1.2,()) λc2=>
  .cal kp.c (c2.2,()) λc3=>
  .cal p6.c (c3.2,()) λc4=>
  .cal aD.c (c4.2,[0,4,64,65535],()) λc5=>
  .cal rD.c (c1.1,c2.1,c3.1,c4.1,c5.1,()) λc6=>
  .cal aj.c (c5.2,9,()) λc7=>
  .lp (hZ (c7.1,0,c7.2,(⟨⟨0,0,0⟩,0,⟨0,[],0,false,false,false⟩,⟨0,[],[],0,false⟩,0,0,⟨0,0,false,false,0,0⟩,0,0⟩:Conn),c6,())).lp λ(_,a19_0,_,a19_2)=>
  .ret (a19_2,a19_0),
 λ(y0,_) hp=>by
  refine Tr.C ?_ λ_ _ _=>Tr.C ?_ λ_ _ _=>Tr.C ?_ λ_ _ _=>Tr.C ?_ λ_ _ _=>Tr.C ?_ λ_ _ _=>Tr.C trivial λ_ _ _=>Tr.C ?_ λ_ _ _=>Tr.L (Mt ?_ ?_ ?_) (λ(a19_0,a19_1,a19_2) _=>Tr.R ?_) (λp=>Empty.elim p)
  all_goals ((try simp only[hZ,LC.lp,LC.ct,Ct.lp]at*)<;>grind)⟩
noncomputable def HC:=cq st Hi HD [(fv 0 nf hZ)] [.wr false [.ptr 0]] [.box [.st .curs]] (λx y=>(y.1.1,())) Fr (λv=>[(true,fg (.o true) v.1)]) (λx y v=>((v.2,()),())) Tryz.func435 (by kernel_rfl) ⟨MG,trivial⟩
noncomputable def Gl:FT (Curs×Stac×Unit) (Acti×Curs) (λx=>af x.1∧ax x.2.1) (λx v=>bq v.1∧af v.2):= .mk λ(y0,x1,_)=>
  .cal Lt.c (y0,x1,()) λc1=>
  .cal aj.c (c1.2,14,()) λc2=>
  .ite (c2.1==0) (.cal aj.c (c2.2,11,()) λc3=>
   .ret (({c1.1 with kind:=(IntKind.wrap .i64 (c3.1-1))}:Acti),c3.2))<|
  .ite (c2.1==1) (.cal aD.c (c2.2,[(-1),0,65535,65536],()) λc4=>
   .ret (({c1.1 with n:=c4.1}:Acti),c4.2))<|
  .ite (c2.1==2) (.cal Aj.c (c2.2,()) λc5=>
   .ret (({c1.1 with tuple.ip:=c5.1.ip,tuple.port:=c5.1.port,tuple.my:=c5.1.my}:Acti),c5.2))<|
  .ite (c2.1==3) (.cal C4.c (c2.2,()) λc6=>
   .ret (({c1.1 with mac.use:=c6.1.use,mac.k:=c6.1.k,mac.l:=c6.1.l,mac.rows:=c6.1.rows}:Acti),c6.2))<|
  .ret (c1.1,c2.2)
noncomputable def GA:=cq st ⟨52,Tryz.f52,[],1⟩ [Mw,az,aJ,yB,Kj] [] [.wr false [.ptr 0],.st .stac] [.box [.st .curs]] (λx y=>(y.1.1,x.2.1,())) Gl (λv=>[(true,XM (.o true) v.1)]) (λx y v=>((v.2,()),())) Tryz.func52 (by kernel_rfl) trivial
noncomputable def CS:=[az,HC,GJ,bP,yf]
def lT:Sh:=⟨[zp 0 0,zp 3 1,zp 4 2,zp 5 3,zi 6,zi 7],[.box [.st .curs [.sl .any]],zx .limi,.box [.st .tabl [.nil .conn,.nil .tupl]],.box [.st .tabl [.own 4,.own 5]],zf,zf]⟩
noncomputable def DL:Fx:=⟨360,Tryz.f360,[(0,la ⟨[0,3,4,5,6,7],[.box 5 0 .conn,.box 5 1 .tupl],false,1⟩ ⟨[4,5],[],false,1⟩)],1⟩
noncomputable def IM (v3:Limi)(v1:Int)(a:Curs×Tabl×Tabl):Tr (Stp (Curs×Tabl×Tabl) (Empty)):=
 .cal Fr.c (a.1,()) λc6=>
 .cal vJ.c (a.2.2,c6.1,v3,()) λc7=>
 .cal ba.c (c6.2,3,()) λc8=>
 .ite c8.1 (.cal lL.c (c7.1,()) λc9=>
  .ret (.next (c8.2,(⟨[],[]⟩:Tabl),c9.1)))<|
 .ret (.next (c8.2,(⟨[],[]⟩:Tabl),c7.1))
noncomputable def gh:lT.V→qc lT (Curs×Tabl×Tabl):=λ(v0,v1,v2,v3,v4,v5,_)=>⟨v1,(v2,v4,v5),λv1 a=>(v0,v1,a.1,v3,a.2.1,a.2.2,()),λv1 _=>(decide (v1<v0)),IM v3,up,1,(Int.toNat (v0-v1)),Empty.elim,Prod.mk,oN (.exit 0) ⟨[zp 4 1,zp 5 2],[.box [.st .curs [.sl .any]],.box [.st .tabl [.nil .conn,.nil .tupl]],.box [.st .tabl [.own 3,.own 4]],zf,zf]⟩ (λx=>(x.2.1,(⟨[],[]⟩:Tabl),x.2.2.2,()))⟩
theorem HJ:LS Tryz.prog DL [0] (fv 0 lT gh):=cI st (aH CS) _ gh [] trivial
theorem IG {v0 v1:Int}{v2:Curs}{v3:Limi}{v4 v5:Tabl}(h0:0≤v1)(h1:v0≤4611686018427387904)(h2:af v2∧aO v4∧aO v5∧v5.conns.length≤16∧v5.waiting.length≤16):(gh (v0,v1,v2,v3,v4,v5,())).U v0 (λv1 a=>af a.1∧aO a.2.1∧aO a.2.2∧a.2.2.conns.length≤16∧a.2.2.waiting.length≤16) (λ_=>True):=
 iT (a:=(v2,v4,v5)) h0 h1 h2
noncomputable def KF:FT (Curs×Limi×Unit) (Tabl×Curs) (λx=>af x.1) (λx v=>aO v.1∧af v.2∧v.1.conns.length≤16∧v.1.waiting.length≤16):=⟨λ(y0,x1,_)=>
  .cal aj.c (y0,4,()) λc1=>
  .lp (gh (c1.1,0,c1.2,x1,(⟨[],[]⟩:Tabl),(⟨[],[]⟩:Tabl),())).lp λ(_,a10_0,_,a10_2)=>
  .ret (a10_2,a10_0),
 λ(y0,x1,_) hp=>by
  refine Tr.C ?_ λ_ _ _=>Tr.L (IG ?_ ?_ ?_) (λ(a10_0,a10_1,a10_2) _=>Tr.R ?_) (λp=>Empty.elim p)
  all_goals ((try simp only[gh,LC.lp,LC.ct,Ct.lp]at*)<;>grind)⟩
noncomputable def QA:=cq st DL CS [(fv 0 lT gh)] [.wr false [.ptr 0],.st .limi] [.box [.st .curs]] (λx y=>(y.1.1,x.2.1,())) KF (λv=>[(true,qw (.o true) (.o true) v.1)]) (λx y v=>((v.2,()),())) Tryz.func360 (by kernel_rfl) ⟨HJ,trivial⟩
noncomputable def BK:=[mp,az,iX,JA,BA,HF,jt,dR,PZ,bP]
def lr:Sh:=⟨[zp 0 0,zp 2 1,zp 3 2,zi 4,zi 5],[.box [.st .curs [.sl .any]],zx .sndr,zx .sndr]⟩
noncomputable def BI:Fx:=⟨473,Tryz.f473,[(0,la ⟨[0,2,3,4,5],[],false,1⟩ ⟨[2,3],[],false,1⟩)],1⟩
noncomputable def Fi (v1:Int)(a:Curs×Sndr):Tr (Stp (Curs×Sndr) (Empty)):=
 .cal aj.c (a.1,4,()) λc3=>
 .ite (c3.1==0) (.cal aj.c (c3.2,20,()) λc4=>
  .cal jT.c (c4.2,c4.1,()) λc5=>
  .cal zq.c (a.2,(aw c5.1),()) λc6=>
  .ret (.next (c5.2,c6.1)))<|
 .ite (c3.1==1) (.cal aj.c (c3.2,40,()) λc7=>
  .cal aj.c (c7.2,16,()) λc8=>
  .cal p9.c (a.2,(IntKind.wrap .i64 (1+c7.1)),(IntKind.wrap .i64 (1+c8.1)),()) λc9=>
  .ite c9.2 (.cal mH.c (a.2,c9.1,()) λc10=>
   .ret (.next (c8.2,c10)))<|
  .ret (.next (c8.2,a.2)))<|
 .ite (c3.1==2) (.cal gI.c (a.2,()) λc11=>
  .cal aj.c (c3.2,(IntKind.wrap .i64 (c11+1)),()) λc12=>
  .val (bT.f (a.2.una,c12.1,())) λc13=>
  .cal Er.c (a.2,c13,()) λc14=>
  .ret (.next (c12.2,c14.1)))<|
 .ite a.2.fin (.ret (.next (c3.2,({a.2 with fin:=true}:Sndr))))<|
 .cal ba.c (c3.2,2,()) λc15=>
 .ret (.next (c15.2,({a.2 with fin:=c15.1}:Sndr)))
noncomputable def fF:lr.V→qc lr (Curs×Sndr):=λ(v0,v1,v2,v3,v4,_)=>⟨v1,(v2,v4),λv1 a=>(v0,v1,a.1,v3,a.2,()),λv1 _=>(decide (v1<v0)),Fi,up,1,(Int.toNat (v0-v1)),Empty.elim,Prod.mk,oN (.exit 0) ⟨[zp 2 1,zp 3 2],[.box [.st .curs [.sl .any]],zx .sndr,zx .sndr]⟩ (λx=>(x.2.1,v3,x.2.2,()))⟩
theorem Fe:LS Tryz.prog BI [0] (fv 0 lr fF):=cI st (aH BK) _ fF [] trivial
theorem F4 {v0 v1:Int}{v2:Curs}{v3 v4:Sndr}(h0:0≤v1)(h1:v0≤4611686018427387904)(h2:af v2∧bS v4):(fF (v0,v1,v2,v3,v4,())).U v0 (λv1 a=>af a.1∧bS a.2) (λ_=>True):=
 iT (a:=(v2,v4)) h0 h1 h2
noncomputable def GM:FT (Curs×Unit) (Sndr×Curs) (λx=>af x.1) (λx v=>bS v.1∧af v.2):=⟨λ(y0,_)=>
  .cal kp.c (y0,()) λc1=>
  .cal aj.c (c1.2,6,()) λc2=>
  .lp (fF (c2.1,0,c2.2,(⟨0,[],0,false,false,false⟩:Sndr),(⟨c1.1,[],0,false,false,false⟩:Sndr),())).lp λ(_,a16_0,a16_1)=>
  .ret (a16_1,a16_0),
 λ(y0,_) hp=>by
  refine Tr.C ?_ λ_ _ _=>Tr.C ?_ λ_ _ _=>Tr.L (F4 ?_ ?_ ?_) (λ(a16_0,a16_1) _=>Tr.R ?_) (λp=>Empty.elim p)
  all_goals ((try simp only[fF,LC.lp,LC.ct,Ct.lp]at*)<;>grind)⟩
noncomputable def NT:=cq st BI BK [(fv 0 lr fF)] [.wr false [.ptr 0]] [.box [.st .curs]] (λx y=>(y.1.1,())) GM (λv=>[(true,uM v.1)]) (λx y v=>((v.2,()),())) Tryz.func473 (by kernel_rfl) ⟨Fe,trivial⟩
noncomputable def PL:FT (Curs×Unit) (Sndr×Curs) (λx=>af x.1) (λx v=>bS v.1∧af v.2):= .mk λ(y0,_)=>
  .cal GM.c (y0,()) λc1=>
  .cal aj.c (c1.2,10,()) λc2=>
  .ite (c2.1==0) (.cal dm.c (c2.2,()) λc3=>
   .ret (({c1.1 with una:=c3.1}:Sndr),c3.2))<|
  .ite (c2.1==1) (.cal aD.c (c2.2,[(-1),0,48,49,(IntKind.wrap .i64 ((c1.1.data.length:Int)+1))],()) λc4=>
   .ret (({c1.1 with sent:=c4.1}:Sndr),c4.2))<|
  .ite (c2.1==2) (.ret (({c1.1 with finSent:=(!c1.1.finSent)}:Sndr),c2.2))<|
  .ite (c2.1==3) (.ret (({c1.1 with done:=(!c1.1.done)}:Sndr),c2.2))<|
  .ite (c2.1==4) (.cal aj.c (c2.2,3,()) λc5=>
   .cal yt.c ((IntKind.wrap .i64 (47+c5.1)),()) λc6=>
   .ret (({c1.1 with data:=c6}:Sndr),c5.2))<|
  .ret (c1.1,c2.2)
noncomputable def S8:=cq st ⟨437,Tryz.f437,[],1⟩ [NT,az,fO,aJ,xf] [] [.wr false [.ptr 0]] [.box [.st .curs]] (λx y=>(y.1.1,())) PL (λv=>[(true,uM v.1)]) (λx y v=>((v.2,()),())) Tryz.func437 (by kernel_rfl) trivial
noncomputable def xL:=[mp,ya,az,BJ,Hz,bP,Hd]
def jp:Sh:=⟨[zp 0 0,zp 2 1,zp 3 2,zi 4,zi 5],[.box [.st .curs [.sl .any]],.box [.st .recv [.nil .piec]],zk .recv 3,zf]⟩
noncomputable def xY:Fx:=⟨475,Tryz.f475,[(0,la ⟨[0,2,3,4,5],[],false,1⟩ ⟨[2,3],[],false,1⟩)],1⟩
noncomputable def B1 (v1:Int)(a:Curs×Recv×Recv):Tr (Stp (Curs×Recv×Recv) (Empty)):=
 .cal yH.c (a.1,a.2.2,()) λc4=>
 .cal rH.c (a.2.2,c4.1,c4.2.1,c4.2.2.1,()) λc5=>
 .cal ba.c (c4.2.2.2,3,()) λc6=>
 .ite c6.1 (.cal aj.c (c6.2,20,()) λc7=>
  .cal vO.c (c5,c7.1,()) λc8=>
  .ret (.next (c7.2,({a.2.1 with held:=[]}:Recv),c8.1)))<|
 .ret (.next (c6.2,({a.2.1 with held:=[]}:Recv),c5))
noncomputable def eu:jp.V→qc jp (Curs×Recv×Recv):=λ(v0,v1,v2,v3,v4,_)=>⟨v1,(v2,v3,v4),λv1 a=>(v0,v1,a.1,a.2.1,a.2.2,()),λv1 _=>(decide (v1<v0)),B1,up,1,(Int.toNat (v0-v1)),Empty.elim,Prod.mk,oN (.exit 0) ⟨[zp 2 1,zp 3 2],[.box [.st .curs [.sl .any]],.box [.st .recv [.nil .piec]],zk .recv 3,zf]⟩ (λx=>(x.2.1,({x.2.2.1 with held:=[]}:Recv),x.2.2.2,()))⟩
theorem BS:LS Tryz.prog xY [0] (fv 0 jp eu):=cI st (aH xL) _ eu [] trivial
theorem CF {v0 v1:Int}{v2:Curs}{v3 v4:Recv}(h0:0≤v1)(h1:v0≤4611686018427387904)(h2:af v2∧ay v3∧ay v4∧v4.held.length≤3):(eu (v0,v1,v2,v3,v4,())).U v0 (λv1 a=>af a.1∧ay a.2.1∧ay a.2.2∧a.2.2.held.length≤3) (λ_=>True):=
 iT (a:=(v2,v3,v4)) h0 h1 h2
noncomputable def Bi:FT (Curs×Unit) (Recv×Curs) (λx=>af x.1) (λx v=>ay v.1∧af v.2∧v.1.held.length≤3):=⟨λ(y0,_)=>
  .cal kp.c (y0,()) λc1=>
  .cal lM.c (c1.1,()) λc2=>
  .cal aj.c (c1.2,7,()) λc3=>
  .lp (eu (c3.1,0,c3.2,(⟨0,[],[],0,false⟩:Recv),c2,())).lp λ(_,a9_0,_,a9_2)=>
  .ret (a9_2,a9_0),
 λ(y0,_) hp=>by
  refine Tr.C ?_ λ_ _ _=>Tr.C trivial λ_ _ _=>Tr.C ?_ λ_ _ _=>Tr.L (CF ?_ ?_ ?_) (λ(a9_0,a9_1,a9_2) _=>Tr.R ?_) (λp=>Empty.elim p)
  all_goals ((try simp only[eu,LC.lp,LC.ct,Ct.lp]at*)<;>grind)⟩
noncomputable def Ij:=cq st xY xL [(fv 0 jp eu)] [.wr false [.ptr 0]] [.box [.st .curs]] (λx y=>(y.1.1,())) Bi (λv=>[(true,uy (.o true) v.1)]) (λx y v=>((v.2,()),())) Tryz.func475 (by kernel_rfl) ⟨BS,trivial⟩
noncomputable def Qz:FT (Curs×Unit) (Recv×Curs) (λx=>af x.1) (λx v=>ay v.1∧af v.2):= .mk λ(y0,_)=>
  .cal Bi.c (y0,()) λc1=>
  .cal aj.c (c1.2,12,()) λc2=>
  .ite (c2.1==0) (.cal dm.c (c2.2,()) λc3=>
   .ret (({c1.1 with next:=c3.1}:Recv),c3.2))<|
  .ite (c2.1==1) (.cal aD.c (c2.2,[(-2),(-1),0,5,32,33],()) λc4=>
   .ret (({c1.1 with fin:=c4.1}:Recv),c4.2))<|
  .ite (c2.1==2) (.ret (({c1.1 with done:=(!c1.1.done)}:Recv),c2.2))<|
  .ite (c2.1==3) (.cal aD.c (c2.2,[0,1,20,31,32,(-1),9223372036854775807],()) λc5=>
   .cal DW.c (c5.2,[[],[120],[121,122]],()) λc6=>
   .grd (qq c1.1.held 1 24)<|
   .ret (({c1.1 with held:=(c1.1.held++[(⟨c5.1,c6.1⟩:Piec)])}:Recv),c6.2))<|
  .ite (c2.1==4) (.cal aj.c (c2.2,3,()) λc7=>
   .cal yt.c ((IntKind.wrap .i64 (31+c7.1)),()) λc8=>
   .ret (({c1.1 with data:=c8}:Recv),c7.2))<|
  .ret (c1.1,c2.2)
noncomputable def Ub:=cq st ⟨438,Tryz.f438,[],1⟩ [Ij,az,fO,aJ,Cv,xf] [] [.wr false [.ptr 0]] [.box [.st .curs]] (λx y=>(y.1.1,())) Qz (λv=>[(true,uy (.o true) v.1)]) (λx y v=>((v.2,()),())) Tryz.func438 (by kernel_rfl) trivial
noncomputable def WC:=[HC,az,S8,Ub,aJ,LV,yB]
def z7:An:=⟨⟨[],[],false,1⟩,⟨[2,3],[],false,1⟩,⟨[],[]⟩,[(.normal,⟨[zp 2 1,zp 3 2],[.box [.st .curs [.sl .any]],.box [.st .conn [.nil .piec]],zk .conn 3,zf]⟩)]⟩
noncomputable def WH:Fx:=⟨361,Tryz.f361,[(1000008,z7)],1⟩
noncomputable def PY:FT (Curs×Unit) (Conn×Curs) (λx=>af x.1) (λx v=>ac v.1∧af v.2):= .mk λ(y0,_)=>
  .cal Fr.c (y0,()) λc1=>
  .cal aj.c (c1.2,16,()) λc2=>
  .bnd (β:=WT z7.es) (.as (λw=>af w.1∧ac w.2.1∧ac w.2.2.1) (.ite (c2.1==0) (.cal aj.c (c2.2,11,()) λc3=>
    .ret (c3.2,(⟨⟨0,0,0⟩,0,⟨0,[],0,false,false,false⟩,⟨0,[],[],0,false⟩,0,0,⟨0,0,false,false,0,0⟩,0,0⟩:Conn),({c1.1 with state:=(IntKind.wrap .i64 (c3.1-1))}:Conn),()))<|
   .ite (c2.1==1) (.cal PL.c (c2.2,()) λc4=>
    .ret (c4.2,(⟨⟨0,0,0⟩,0,⟨0,[],0,false,false,false⟩,⟨0,[],[],0,false⟩,0,0,⟨0,0,false,false,0,0⟩,0,0⟩:Conn),({c1.1 with s.una:=c4.1.una,s.data:=c4.1.data,s.sent:=c4.1.sent,s.fin:=c4.1.fin,s.finSent:=c4.1.finSent,s.done:=c4.1.done}:Conn),()))<|
   .ite (c2.1==2) (.cal Qz.c (c2.2,()) λc5=>
    .ret (c5.2,(⟨⟨0,0,0⟩,0,⟨0,[],0,false,false,false⟩,⟨0,[],[],0,false⟩,0,0,⟨0,0,false,false,0,0⟩,0,0⟩:Conn),({c1.1 with r.next:=c5.1.next,r.data:=c5.1.data,r.held:=c5.1.held,r.fin:=c5.1.fin,r.done:=c5.1.done}:Conn),()))<|
   .ite (c2.1==3) (.cal aD.c (c2.2,[(-1),0,c1.1.most,(IntKind.wrap .i64 (c1.1.most+1))],()) λc6=>
    .ret (c6.2,(⟨⟨0,0,0⟩,0,⟨0,[],0,false,false,false⟩,⟨0,[],[],0,false⟩,0,0,⟨0,0,false,false,0,0⟩,0,0⟩:Conn),({c1.1 with window:=c6.1}:Conn),()))<|
   .ite (c2.1==4) (.cal aD.c (c2.2,[(-1),0,3,4,5],()) λc7=>
    .ret (c7.2,(⟨⟨0,0,0⟩,0,⟨0,[],0,false,false,false⟩,⟨0,[],[],0,false⟩,0,0,⟨0,0,false,false,0,0⟩,0,0⟩:Conn),({c1.1 with timer:=c7.1}:Conn),()))<|
   .ite (c2.1==5) (.cal aD.c (c2.2,[(-1),0,3,4],()) λc8=>
    .ret (c8.2,(⟨⟨0,0,0⟩,0,⟨0,[],0,false,false,false⟩,⟨0,[],[],0,false⟩,0,0,⟨0,0,false,false,0,0⟩,0,0⟩:Conn),({c1.1 with tries:=c8.1}:Conn),()))<|
   .ite (c2.1==6) (.cal Nj.c (c2.2,()) λc9=>
    .ret (c9.2,(⟨⟨0,0,0⟩,0,⟨0,[],0,false,false,false⟩,⟨0,[],[],0,false⟩,0,0,⟨0,0,false,false,0,0⟩,0,0⟩:Conn),({c1.1 with opts.mss:=c9.1.mss,opts.scale:=c9.1.scale,opts.sack:=c9.1.sack,opts.stamp:=c9.1.stamp,opts.val:=c9.1.val,opts.echo:=c9.1.echo}:Conn),()))<|
   .ite (c2.1==7) (.cal Aj.c (c2.2,()) λc10=>
    .ret (c10.2,(⟨⟨0,0,0⟩,0,⟨0,[],0,false,false,false⟩,⟨0,[],[],0,false⟩,0,0,⟨0,0,false,false,0,0⟩,0,0⟩:Conn),({c1.1 with tuple.ip:=c10.1.ip,tuple.port:=c10.1.port,tuple.my:=c10.1.my}:Conn),()))<|
   .ret (c2.2,(⟨⟨0,0,0⟩,0,⟨0,[],0,false,false,false⟩,⟨0,[],[],0,false⟩,0,0,⟨0,0,false,false,0,0⟩,0,0⟩:Conn),c1.1,()))) λ(u11a0,_,u11a2,_)=>
  .ret (u11a2,u11a0)
noncomputable def Ww:=cq st WH WC [] [.wr false [.ptr 0]] [.box [.st .curs]] (λx y=>(y.1.1,())) PY (λv=>[(true,fg (.o true) v.1)]) (λx y v=>((v.2,()),())) Tryz.func361 (by kernel_rfl) trivial
noncomputable def Vo:=[Bk,QA,az,Ww,nq,aJ]
def yd:An:=⟨⟨[],[],false,1⟩,⟨[2,3,4,5],[],false,1⟩,⟨[],[]⟩,[(.normal,⟨[zp 2 1,zp 3 2,zp 4 3,zp 5 4],[.box [.st .curs [.sl .any]],.box [.st .tabl [.nil .conn,.nil .tupl]],zx .limi,zx .limi,.box [.st .tabl [.own 5,.own 6]],zf,zf]⟩)]⟩
noncomputable def UZ:Fx:=⟨247,Tryz.f247,[(1000013,yd)],1⟩
noncomputable def PS:FT (Curs×Unit) (Tabl×Limi×Curs) (λx=>af x.1) (λx v=>aO v.1∧af v.2.2):= .mk λ(y0,_)=>
  .cal y7.c (y0,()) λc1=>
  .cal KF.c (c1.2,c1.1,()) λc2=>
  .cal aj.c (c2.2,10,()) λc3=>
  .bnd (β:=WT yd.es) (.as (λw=>af w.1∧aO w.2.1∧aO w.2.2.2.2.1) (.ite (c3.1==0) (.cal PY.c (c3.2,()) λc4=>
    .grd (qq c2.1.conns 1 208)<|
    .ret (c4.2,(⟨[],[]⟩:Tabl),(⟨0,0,0,0⟩:Limi),c1.1,(⟨(c2.1.conns++[c4.1]),c2.1.waiting⟩:Tabl),()))<|
   .ite (c3.1==1) (.cal oM.c (c3.2,()) λc5=>
    .grd (qq c2.1.waiting 1 24)<|
    .ret (c5.2,(⟨[],[]⟩:Tabl),(⟨0,0,0,0⟩:Limi),c1.1,(⟨c2.1.conns,(c2.1.waiting++[c5.1])⟩:Tabl),()))<|
   .ite (c3.1==2) (.cal aD.c (c3.2,[0,16,17,1],()) λc6=>
    .ret (c6.2,(⟨[],[]⟩:Tabl),(⟨0,0,0,0⟩:Limi),({c1.1 with conns:=c6.1}:Limi),c2.1,()))<|
   .ite (c3.1==3) (.cal aD.c (c3.2,[(-1),1000,1001],()) λc7=>
    .ret (c7.2,(⟨[],[]⟩:Tabl),(⟨0,0,0,0⟩:Limi),({c1.1 with chal:=c7.1}:Limi),c2.1,()))<|
   .ite (c3.1==4) (.ite (decide (0<(c2.1.conns.length:Int))) (.grd (decide (0<(c2.1.conns.length:Int)))<|
     .grd (qq c2.1.conns 1 208)<|
     .ret (c3.2,(⟨[],[]⟩:Tabl),(⟨0,0,0,0⟩:Limi),c1.1,(⟨(c2.1.conns++[(c2.1.conns.getD 0 (Ty.zero .conn))]),c2.1.waiting⟩:Tabl),()))<|
    .ret (c3.2,(⟨[],[]⟩:Tabl),(⟨0,0,0,0⟩:Limi),c1.1,c2.1,()))<|
   .ret (c3.2,(⟨[],[]⟩:Tabl),(⟨0,0,0,0⟩:Limi),c1.1,c2.1,()))) λ(u8a0,_,_,u8a3,u8a4,_)=>
  .ret (u8a4,u8a3,u8a0)
noncomputable def TF:=cq st UZ Vo [] [.wr false [.ptr 0]] [.box [.st .curs]] (λx y=>(y.1.1,())) PS (λv=>[(true,qw (.o true) (.o true) v.1),(true,acw v.2.1)]) (λx y v=>((v.2.2,()),())) Tryz.func247 (by kernel_rfl) trivial
noncomputable def PQ:FT (Curs×Unit) (Door×Curs) (λx=>af x.1) (λx v=>aC v.1∧af v.2):= .mk λ(y0,_)=>
  .cal F3.c (y0,()) λc1=>
  .cal aj.c (c1.2,16,()) λc2=>
  .ite (c2.1==0) (.cal dm.c (c2.2,()) λc3=>
   .ret (({c1.1 with port:=c3.1}:Door),c3.2))<|
  .ite (c2.1==1) (.cal PH.c (c2.2,()) λc4=>
   .ret ((⟨c1.1.port,c1.1.clock,c4.1,c1.1.limits,c1.1.halves,c1.1.table,c1.1.chal⟩:Door),c4.2))<|
  .ite (c2.1==2) (.cal O5.c (c2.2,()) λc5=>
   .ret (({c1.1 with halves:=c5.1}:Door),c5.2))<|
  .ite (c2.1==3) (.cal PS.c (c2.2,()) λc6=>
   .ret (({c1.1 with table.conns:=c6.1.conns,table.waiting:=c6.1.waiting}:Door),c6.2.2))<|
  .ite (c2.1==4) (.cal aD.c (c2.2,[(-1),0,c1.1.limits.chal,(IntKind.wrap .i64 (c1.1.limits.chal+1))],()) λc7=>
   .ret (({c1.1 with chal:=c7.1}:Door),c7.2))<|
  .ite (c2.1==5) (.cal aD.c (c2.2,[(-1),4294967295,4294967296],()) λc8=>
   .ret (({c1.1 with clock:=c8.1}:Door),c8.2))<|
  .ret (c1.1,c2.2)
noncomputable def V1:=cq st ⟨131,Tryz.f131,[],1⟩ [GU,az,fO,Uz,V6,TF,aJ] [] [.wr false [.ptr 0]] [.box [.st .curs]] (λx y=>(y.1.1,())) PQ (λv=>[(true,kF (.o true) (.o true) (.o true) (.o true) (.o true) v.1)]) (λx y v=>((v.2,()),())) Tryz.func131 (by kernel_rfl) trivial
noncomputable def AO:FT (Curs×Unit) (Stac×Curs) (λx=>af x.1) (λx v=>ax v.1∧af v.2):= .mk λ(y0,_)=>
  .cal BU.c (y0,()) λc1=>
  .cal aj.c (c1.2,12,()) λc2=>
  .ite (c2.1==0) (.cal Qx.c (c2.2,()) λc3=>
   .ret (({c1.1 with link.mac:=c3.1.mac,link.ip:=c3.1.ip,link.cache:=c3.1.cache}:Stac),c3.2))<|
  .ite (c2.1==1) (.cal PQ.c (c2.2,()) λc4=>
   .ret ((⟨c1.1.link,c4.1⟩:Stac),c4.2))<|
  .ret (c1.1,c2.2)
noncomputable def Gq:=cq st ⟨51,Tryz.f51,[],1⟩ [D7,az,TQ,V1] [] [.wr false [.ptr 0]] [.box [.st .curs]] (λx y=>(y.1.1,())) AO (λv=>[(true,kJ (.o true) (.o true) (.o true) (.o true) (.o true) (.o true) v.1)]) (λx y v=>((v.2,()),())) Tryz.func51 (by kernel_rfl) trivial
noncomputable def mn:FT (List Int×Unit) (Stac×Acti) (λx=>sS x.1∧x.1.length≤1048576) (λx v=>ax v.1∧bq v.2):= .mk λ(x0,_)=>
  .cal R7.c (x0,()) λc1=>
  .cal AO.c (c1,()) λc2=>
  .cal Gl.c (c2.2,c2.1,()) λc3=>
  .ret (c2.1,c3.1)
noncomputable def D2:=a9 st Tryz.func11 [Pg,Gq,GA] (ks:=[.sc (.sl .u8)]) mn (λv=>[(true,kJ .c .c .c .c .c .c v.1),(true,XM (.o true) v.2)])
def zv:Sh:=⟨[zp 2 0,zp 4 1,zp 5 2,zo 6 3],[.box [.st .stac [.nil .entr,.nil .macRow,.nil .macRow,.nil .half,.nil .conn,.nil .tupl]],.box [.st .curs [.sl .any]],.box [.st .stac [.own 4,.own 5,.own 6,.own 7,.own 8,.own 9]],za .acti,.of true true,.of true true,.of true true,.of true true,.of true true,.of true true]⟩
@[reducible] def yh:An:=⟨⟨[],[],false,0⟩,⟨[2,3,4,5,6],[],false,0⟩,⟨[],[]⟩,[(.normal,⟨[zp 2 0,(3,false,[.nil]),zp 4 1,zp 5 2,zo 6 3],[.box [.st .stac [.nil .entr,.nil .macRow,.nil .macRow,.nil .half,.nil .conn,.nil .tupl]],.box [.st .curs [.sl .any]],.box [.st .stac [.own 4,.own 5,.own 6,.own 7,.own 8,.own 9]],za .acti,.of true true,.of true true,.of true true,.of true true,.of true true,.of true true]⟩)]⟩
@[reducible] def xF:An:=⟨⟨[],[],false,0⟩,⟨[2,3,4,5,6],[],false,0⟩,⟨[],[]⟩,[(.normal,⟨[zp 2 0,zu 3,zp 4 1,zp 5 2,zo 6 3],[.box [.st .stac [.nil .entr,.nil .macRow,.nil .macRow,.nil .half,.nil .conn,.nil .tupl]],.box [.st .curs [.sl .any]],.box [.st .stac [.own 4,.own 5,.own 6,.own 7,.own 8,.own 9]],za .acti,.of true true,.of true true,.of true true,.of true true,.of true true,.of true true]⟩),(.normal,⟨[zp 2 0,(3,false,[.nil]),zp 4 1,zp 5 2,zo 6 3],[.box [.st .stac [.nil .entr,.nil .macRow,.nil .macRow,.nil .half,.nil .conn,.nil .tupl]],.box [.st .curs [.sl .any]],.box [.st .stac [.own 4,.own 5,.own 6,.own 7,.own 8,.own 9]],za .acti,.of true true,.of true true,.of true true,.of true true,.of true true,.of true true]⟩)]⟩
noncomputable def K1 (a:Stac×Curs×List Acti):Tr (Stp (Stac×Curs×List Acti) ((Stac×Curs×List Acti))):=
 .cal aj.c (a.2.1,3,()) λc8=>
 .ite (decide ((a.2.2.length:Int)<(IntKind.wrap .i64 (59+c8.1)))) (.grd (qq a.2.2 1 104)<|
  .ret (.next (({a.1 with link.cache:=[],door.keys.now.rows:=[],door.keys.before.rows:=[],door.halves:=[],door.table.conns:=[],door.table.waiting:=[]}:Stac),c8.2,(a.2.2++[(⟨2,⟨0,0,0⟩,0,[],⟨false,0,0,[]⟩⟩:Acti)]))))<|
 .ret (.out (({a.1 with link.cache:=[],door.keys.now.rows:=[],door.keys.before.rows:=[],door.halves:=[],door.table.conns:=[],door.table.waiting:=[]}:Stac),c8.2,a.2.2))
noncomputable def nW:zv.V→LW zv (Stac×Curs×List Acti) ((Stac×Curs×List Acti)):=λ(v0,v1,v2,v3,_)=>⟨(v0,v1,v3),λa=>(a.1,a.2.1,v2,a.2.2,()),K1,Int.toNat (61-(v3.length:Int)),oN (.exit 0) ⟨[zp 2 0,zu 3,zp 4 1,zp 5 2,zo 6 3],[.box [.st .stac [.nil .entr,.nil .macRow,.nil .macRow,.nil .half,.nil .conn,.nil .tupl]],.box [.st .curs [.sl .any]],.box [.st .stac [.own 4,.own 5,.own 6,.own 7,.own 8,.own 9]],za .acti,.of true true,.of true true,.of true true,.of true true,.of true true,.of true true]⟩ (λp=>(p.1,p.2.1,v2,p.2.2,()))⟩
theorem J6 {v0 v2:Stac}{v1:Curs}{v3:List Acti}(h0:ax v0∧af v1∧sL bq v3∧v3.length≤61):(nW (v0,v1,v2,v3,())).W (λp=>ax p.1∧af p.2.1∧sL bq p.2.2):=
 lwW (a:=(v0,v1,v3)) (λa=>ax a.1∧af a.2.1∧sL bq a.2.2∧a.2.2.length≤61) (λa=>Int.toNat (61-(a.2.2.length:Int))) h0
noncomputable def Qg:FT (List Int×Unit) (Stac×List Acti) (λx=>sS x.1∧x.1.length≤1048576) (λx v=>ax v.1∧sL bq v.2):=⟨λ(x0,_)=>
  .cal R7.c (x0,()) λc1=>
  .cal BU.c (c1,()) λc2=>
  .cal Qw.c (c2.2,c2.1,()) λc3=>
  .cal ba.c (c3.2,12,()) λc4=>
  .bnd (β:=WT yh.es) (.ite c4.1 (.cal Gl.c (c4.2,c2.1,()) λc5=>
    .grd (qq c3.1 1 104)<|
    .ret ((⟨⟨0,0,[]⟩,⟨0,0,⟨0,⟨false,0,0,[]⟩,⟨false,0,0,[]⟩,false⟩,⟨0,0,0,0⟩,[],⟨[],[]⟩,0⟩⟩:Stac),c5.2,c2.1,(c3.1++[c5.1]),()))<|
   .ret ((⟨⟨0,0,[]⟩,⟨0,0,⟨0,⟨false,0,0,[]⟩,⟨false,0,0,[]⟩,false⟩,⟨0,0,0,0⟩,[],⟨[],[]⟩,0⟩⟩:Stac),c4.2,c2.1,c3.1,())) λ(u6a0,u6a1,u6a2,u6a3,_)=>
  .cal ba.c (u6a1,30,()) λc7=>
  .bnd (β:=WT xF.es) (.ite c7.1 (.lp (nW (({u6a0 with link.cache:=[],door.keys.now.rows:=[],door.keys.before.rows:=[],door.halves:=[],door.table.conns:=[],door.table.waiting:=[]}:Stac),c7.2,u6a2,u6a3,())).lp λ(p9a0,p9a1,p9a2)=>
    .ret (.inl (({p9a0 with link.cache:=[],door.keys.now.rows:=[],door.keys.before.rows:=[],door.halves:=[],door.table.conns:=[],door.table.waiting:=[]}:Stac),p9a1,u6a2,p9a2,())))<|
   .ret (.inr ((({u6a0 with link.cache:=[],door.keys.now.rows:=[],door.keys.before.rows:=[],door.halves:=[],door.table.conns:=[],door.table.waiting:=[]}:Stac),c7.2,u6a2,u6a3,())))) λw10=> .sum w10 (λ(_,u10a1,u10a2,u10a3,_)=>
  .cal ba.c (u10a1,12,()) λc11=>
  .ite c11.1 (.cal AO.c (c11.2,()) λc12=>
   .ret (c12.1,u10a3))<|
  .ret (u10a2,u10a3))<|
  λ(_,u10b1,u10b2,u10b3,_)=>
  .cal ba.c (u10b1,12,()) λc13=>
  .ite c13.1 (.cal AO.c (c13.2,()) λc14=>
   .ret (c14.1,u10b3))<|
  .ret (u10b2,u10b3),
 λ(x0,_) hp=>by
  refine Tr.C ?_ λ_ _ _=>Tr.C ?_ λ_ _ _=>Tr.C ?_ λ_ _ _=>Tr.C ?_ λ_ _ _=>Tr.B (Q':=λw=>ax w.1∧af w.2.1∧ax w.2.2.1∧sL bq w.2.2.2.1) (Tr.I (λ_=>Tr.C ?_ λ_ _ _=>Tr.Gb ?_ λ_=>Tr.R ?_) λ_=>Tr.R ?_) (λ(u6a0,u6a1,u6a2,u6a3,_) _ _=>Tr.C ?_ λ_ _ _=>Tr.B (Q':=(Sum.elim (λw=>ax w.1∧af w.2.1∧ax w.2.2.1∧sL bq w.2.2.2.1) (λw=>ax w.1∧af w.2.1∧ax w.2.2.1∧sL bq w.2.2.2.1))) (Tr.I (λ_=>Tr.L (J6 ?_) (λa=>Empty.elim a) (λ(p9a0,p9a1,p9a2) _=>Tr.R ?_)) λ_=>Tr.R ?_) (λ_ _ q10=>Tr.E q10 (λ(u10a0,u10a1,u10a2,u10a3,_) _=>Tr.C ?_ λ_ _ _=>Tr.I (λ_=>Tr.C ?_ λ_ _ _=>Tr.R ?_) λ_=>Tr.R ?_) (λ(u10b0,u10b1,u10b2,u10b3,_) _=>Tr.C ?_ λ_ _ _=>Tr.I (λ_=>Tr.C ?_ λ_ _ _=>Tr.R ?_) λ_=>Tr.R ?_)))
  all_goals ((try simp only[nW,LW.lp,LW.cw,Cw.lp,Tr.nice,iz]at*)<;>grind)⟩
noncomputable def TT:=NY st Tryz.func87 [(0,lb [2,4,5,6] [2,3,4,5,6]),(1000015,yh),(1000023,xF),(4000000,la ⟨[],[],false,0⟩ ⟨[],[.softb 2 2,.softb 2 9,.softb 2 13,.softb 2 19,.softb 2 20,.softb 2 21],false,0⟩)] [Pg,D7,Ud,bP,GA,az,Gq] 0 nW (ks:=[.sc (.sl .u8)]) Qg (λv=>[(true,kJ .c .c .c .c .c .c v.1),(false,[sc (.o true) .acti v.2])])
noncomputable def XU:=[RQ,D2,EK,EP,uP,sT,M0,O9,FU,mR,qk,QL,FR]
noncomputable def XN:Fx:=⟨3,Tryz.f3,[(3000006,rA 0 51),(3000008,rA 0 59),(3000009,rA 0 2)],0⟩
noncomputable def u4:FX (List Int×Unit) (Bool) (λ_=>True) (vD [.sc (.sl .u8)]):=⟨λ(x0,_)=>
  .val (yp.f (x0,())) λc1=>
  .ite c1 (.ret true)<|
  .cal mn.c (x0,()) λc2=>
  .cal wT.c (c2.1,c2.2,()) λc3=>
  .cal z8.c (c2.1,c2.2,()) λc4=>
  .bnd (β:=Bool×Unit) (.cal gC.c (c3.1,c4.1,()) λc5=>
   .ite (!c5) (.ret (true,()))<|
   .cal jl.c (c3.2,c4.2,()) λc6=>
   .ite (!c6) (.ret (true,()))<|
   .cal rg.c (c3.2,c4.2,()) λc7=>
   .ite (!c7) (.ret (true,()))<|
   .cal ld.c (c2.2,()) λc8=>
   .cal ua.c (c2.2,()) λc9=>
   .ret ((!(c8==c9)),())) λ(u10a0,_)=>
  .ite u10a0 (.ret false)<|
  .bnd (β:=Bool×Unit) (.cal jL.c (c2.1,()) λc11=>
   .ite (!c11) (.ret (true,()))<|
   .cal ua.c (c2.2,()) λc12=>
   .ret ((!c12),())) λ(u13a0,_)=>
  .ite u13a0 (.bnd (β:=Bool×Unit) (.cal gC.c (c3.1,c2.1,()) λc14=>
    .ite c14 (.cal jl.c (c3.2,(⟨[],0,⟨0,0,0⟩,0,[],false⟩:Resu),()) λc15=>
     .ret (c15,()))<|
    .ret (false,())) λ(u16a0,_)=>
   .ret u16a0)<|
  .cal be.c (c3.1,()) λc17=>
  .ite c17 (.ite (decide ((c3.1.door.halves.length:Int)≤c3.1.door.limits.halves)) (.ite (decide ((c3.1.door.table.conns.length:Int)≤c3.1.door.limits.conns)) (.ite (decide ((c3.1.door.table.waiting.length:Int)≤c3.1.door.limits.waiting)) (.ite (decide ((c3.1.link.cache.length:Int)≤4)) (.cal pm.c (c3.1.door,()) λc18=>
       .cal iJ.c (c3.1.door.limits,()) λc19=>
       .ret (decide (c18≤c19)))<|
      .ret false)<|
     .ret false)<|
    .ret false)<|
   .ret false)<|
  .ret false,
 λ(x0,_) hp hf=>by
  simp only[vD,Pk.fact,Nn,Bf,Fl.fact,Ty.fl,Ty.toH]at hf
  refine Tr.V λ_ _=>Tr.I (λ_=>Tr.R trivial) λ_=>Tr.C ?_ λc2 _ _=>Tr.C ?_ λ_ _ _=>Tr.C ?_ λ_ _ _=>Tr.B (Q':=λ_=>True) (Tr.C ?_ λ_ _ _=>Tr.I (λ_=>Tr.R trivial) λ_=>Tr.C ?_ λ_ _ _=>Tr.I (λ_=>Tr.R trivial) λ_=>Tr.C ?_ λ_ _ _=>Tr.I (λ_=>Tr.R trivial) λ_=>Tr.C ?_ λ_ _ _=>Tr.C ?_ λ_ _ _=>Tr.R trivial) (λ(u10a0,_) _ _=>Tr.I (λ_=>Tr.R trivial) λ_=>Tr.B (Q':=λw=>(w.1=false→c2.1.door.table.conns.length≤16)) (Tr.C ?_ λ_ _ _=>Tr.I (λ_=>Tr.R ?_) λ_=>Tr.C ?_ λ_ _ _=>Tr.R ?_) (λ(u13a0,_) _ _=>Tr.I (λ_=>Tr.B (Q':=λ_=>True) (Tr.C ?_ λ_ _ _=>Tr.I (λ_=>Tr.C ?_ λ_ _ _=>Tr.R trivial) λ_=>Tr.R trivial) (λ(u16a0,_) _ _=>Tr.R trivial)) λ_=>Tr.C ?_ λ_ _ _=>Tr.I (λ_=>Tr.I (λ_=>Tr.I (λ_=>Tr.I (λ_=>Tr.I (λ_=>Tr.C ?_ λ_ _ _=>Tr.C trivial λ_ _ _=>Tr.R trivial) λ_=>Tr.R trivial) λ_=>Tr.R trivial) λ_=>Tr.R trivial) λ_=>Tr.R trivial) λ_=>Tr.R trivial))
  all_goals ((try simp only[Tr.nice,iz]at*)<;>grind)⟩
noncomputable def W0:=afu st XN XU [] (ks:=[.sc (.sl .u8)]) u4 rB Tryz.func3 trivial
noncomputable def Hl:=[RQ,D2,EK,EP,uP,sT,mR,FU,ex]
def oq:Sh:=⟨[zp 3 0,zp 4 1,zp 5 2,zp 6 3,zb 9,zi 10],[.box [.st .stac [.sl .any,.sl .any,.sl .any,.sl .any,.sl .any,.sl .any]],zk .acti 4,.box [.st .stac [.own 5,.own 6,.own 7,.own 8,.sl .any,.own 9]],zk .resu 10,.of true true,zf,zf,zf,zf,zf,zf]⟩
noncomputable def G9:Fx:=⟨4,Tryz.f4,[(0,lb [3,4,5,6,9,10] [2,3,5,6,9]),(3000006,rA 0 39),(3000008,rA 0 52)],0⟩
noncomputable def zY (v2:Stac)(v3:Acti)(v1:Int)(a:Bool):Tr (Stp (Bool) (Empty)):=
 .ite a (.grd (cj v2.door.table.waiting v1)<|
  .ret (.next (!(((v2.door.table.waiting.getD v1.toNat (Ty.zero .tupl)).ip==v3.tuple.ip)&&(((v2.door.table.waiting.getD v1.toNat (Ty.zero .tupl)).port==v3.tuple.port)&&(((v2.door.table.waiting.getD v1.toNat (Ty.zero .tupl)).my==v3.tuple.my)&&true))))))<|
 .ret (.next false)
noncomputable def fR:oq.V→qc oq Bool:=λ(v0,v1,v2,v3,v4,v5,_)=>⟨v1,v0,λv1 a=>(a,v1,v2,v3,v4,v5,()),λv1 _=>(decide (v1<(v2.door.table.waiting.length:Int))),zY v2 v3,up,1,(Int.toNat ((v2.door.table.waiting.length:Int)-v1)),Empty.elim,Prod.mk,oN (.exit 0) ⟨[zu 2,zp 3 0,zp 5 1,zp 6 2,zb 9],[.box [.st .stac [.sl .any,.sl .any,.sl .any,.sl .any,.sl .any,.sl .any]],.box [.st .stac [.own 3,.own 4,.own 5,.own 6,.sl .any,.own 7]],zk .resu 8,zf,zf,zf,zf,zf,zf]⟩ (λx=>(x.2,v2,v4,v5,()))⟩
theorem Nm:LS Tryz.prog G9 [0] (fv 0 oq fR):=cI st (aH Hl) _ fR [] trivial
theorem LN {v0:Bool}{v1:Int}{v2 v4:Stac}{v3:Acti}{v5:Resu}(h0:0≤v1)(h1:(v2.door.table.waiting.length:Int)≤4611686018427387904):(fR (v0,v1,v2,v3,v4,v5,())).U (v2.door.table.waiting.length:Int) (λ_ _=>True) (λ_=>True):=
 iT (a:=v0) h0 h1 trivial
noncomputable def ve:FX (List Int×Unit) (Bool) (λ_=>True) (vD [.sc (.sl .u8)]):=⟨λ(x0,_)=>
  .val (yp.f (x0,())) λc1=>
  .ite c1 (.ret true)<|
  .cal mn.c (x0,()) λc2=>
  .cal wT.c (c2.1,c2.2,()) λc3=>
  .cal z8.c (c2.1,c2.2,()) λc4=>
  .bnd (β:=Bool×Unit) (.cal gC.c (c3.1,c4.1,()) λc5=>
   .ite (!c5) (.ret (true,()))<|
   .cal jl.c (c3.2,c4.2,()) λc6=>
   .ret ((!c6),())) λ(u7a0,_)=>
  .ite u7a0 (.ret false)<|
  .bnd (β:=Bool×Unit) (.cal jL.c (c2.1,()) λc8=>
   .ite (!c8) (.ret (true,()))<|
   .cal ua.c (c2.2,()) λc9=>
   .ite (!c9) (.ret (true,()))<|
   .ret ((decide (c2.2.kind<5)),())) λ(u10a0,_)=>
  .ite u10a0 (.ret true)<|
  .cal dC.c (c2.1.door.table,c2.2.tuple,()) λc11=>
  .lp (fR ((decide (0≤c11)),0,c2.1,c2.2,c3.1,c3.2,())).lp λ(_,a12_0)=>
  .ite (c3.2.ok==a12_0) (.ite a12_0 (.ret true)<|
   .cal gC.c (c3.1,c2.1,()) λc13=>
   .ite c13 (.ret ((c3.2.frames.length:Int)==0))<|
   .ret false)<|
  .ret false,
 λ(x0,_) hp hf=>by
  simp only[vD,Pk.fact,Nn,Bf,Fl.fact,Ty.fl,Ty.toH]at hf
  refine Tr.V λ_ _=>Tr.I (λ_=>Tr.R trivial) λ_=>Tr.C ?_ λc2 _ _=>Tr.C ?_ λ_ _ _=>Tr.C ?_ λ_ _ _=>Tr.B (Q':=λ_=>True) (Tr.C ?_ λ_ _ _=>Tr.I (λ_=>Tr.R trivial) λ_=>Tr.C ?_ λ_ _ _=>Tr.R trivial) (λ(u7a0,_) _ _=>Tr.I (λ_=>Tr.R trivial) λ_=>Tr.B (Q':=λw=>(w.1=false→c2.1.door.table.conns.length≤16)) (Tr.C ?_ λ_ _ _=>Tr.I (λ_=>Tr.R ?_) λ_=>Tr.C ?_ λ_ _ _=>Tr.I (λ_=>Tr.R ?_) λ_=>Tr.R ?_) (λ(u10a0,_) _ _=>Tr.I (λ_=>Tr.R trivial) λ_=>Tr.C ?_ λ_ _ _=>Tr.L (LN ?_ ?_) (λa12_0 _=>Tr.I (λ_=>Tr.I (λ_=>Tr.R trivial) λ_=>Tr.C ?_ λ_ _ _=>Tr.F (by kernel_rfl) trivial) λ_=>Tr.R trivial) (λp=>Empty.elim p)))
  all_goals ((try simp only[fR,LC.lp,LC.ct,Ct.lp,Tr.nice,iz]at*)<;>grind)⟩
noncomputable def VA:=afu st G9 Hl [(fv 0 oq fR)] (ks:=[.sc (.sl .u8)]) ve rB Tryz.func4 ⟨Nm,trivial⟩
noncomputable def mV:FT (List Int×Unit) (Stac×List Acti) (λx=>sS x.1∧x.1.length≤1048576) (λx v=>ax v.1∧sL bq v.2):= .mk λ(x0,_)=>
  .cal Qg.c (x0,()) λc1=>
  .ret (c1.1,c1.2)
noncomputable def O4:=a9 st Tryz.func24 [TT] (ks:=[.sc (.sl .u8)]) mV (λv=>[(true,kJ .c .c .c .c .c .c v.1),(false,[sc (.o true) .acti v.2])])
noncomputable def Gs:=[RQ,O4,aac,aa6,uP,EK,sT,mR,qk]
def nb:Sh:=⟨[zp 3 0,zo 4 1,zp 5 2,zo 6 3,zp 9 4,zi 10],[.box [.st .stac [.sl .any,.sl .any,.sl .any,.sl .any,.sl .any,.sl .any]],.arr .acti true true,.box [.st .stac [.own 5,.own 6,.own 7,.own 8,.sl .any,.own 9]],za .resu,.box [.st .stac [.sl .any,.sl .any,.sl .any,.sl .any,.sl .any,.sl .any]],zf,zf,zf,zf,zf]⟩
noncomputable def GZ:Fx:=⟨5,Tryz.f5,[(0,la ⟨[3,4,5,6,9,10],[.softb 9 2,.softb 9 9,.softb 9 13,.softb 9 19,.softb 9 21],false,0⟩ ⟨[2,3,5,9],[],false,0⟩),(3000006,rA 0 42)],0⟩
noncomputable def sw (v2:List Acti)(v4:List Resu)(v0:Int)(a:Stac):Tr (Stp (Stac) ((Stac))):=
 .grd (cj v2 v0)<|
 .cal wT.c (a,(v2.getD v0.toNat (Ty.zero .acti)),()) λc9=>
 .grd (cj v4 v0)<|
 .cal jl.c (c9.2,(v4.getD v0.toNat (Ty.zero .resu)),()) λc10=>
 .ite (!c10) (.ret (.out a))<|
 .ret (.next c9.1)
noncomputable def fU:nb.V→qF nb Stac (Stac):=λ(v0,v1,v2,v3,v4,v5,_)=>⟨v0,v5,λv0 a=>(v0,v1,v2,v3,v4,a,()),λv0 _=>(decide (v0<(v4.length:Int))),sw v2 v4,up,1,(Int.toNat ((v4.length:Int)-v0)),.inl,eR,oB .ret ⟨[zb 2,zp 3 0,zp 5 1,zp 9 2],[.box [.st .stac [.sl .any,.sl .any,.sl .any,.sl .any,.sl .any,.sl .any]],.box [.st .stac [.own 3,.own 4,.own 5,.own 6,.sl .any,.own 7]],.box [.st .stac [.sl .any,.sl .any,.sl .any,.sl .any,.sl .any,.sl .any]],zf,zf,zf,zf,zf]⟩ (λp=>(false,v1,v3,p,())) (.exit 0) ⟨[zu 2,zp 3 0,zp 5 1,zp 9 2],[.box [.st .stac [.sl .any,.sl .any,.sl .any,.sl .any,.sl .any,.sl .any]],.box [.st .stac [.own 3,.own 4,.own 5,.own 6,.sl .any,.own 7]],.box [.st .stac [.sl .any,.sl .any,.sl .any,.sl .any,.sl .any,.sl .any]],zf,zf,zf,zf,zf]⟩ (λx=>(v1,v3,x.2,()))⟩
theorem Lw:LS Tryz.prog GZ [0] (fv 0 nb fU):=cI st (aH Gs) _ fU [] trivial
theorem Mo {v0:Int}{v1 v3 v5:Stac}{v2:List Acti}{v4:List Resu}(h0:0≤v0)(h1:(v4.length:Int)≤4611686018427387904)(h2:sL bq v2)(h3:sL eb v4)(h4:(v4.length:Int)≤(v2.length:Int))(h5:ax v5):(fU (v0,v1,v2,v3,v4,v5,())).U (v4.length:Int) (λv0 a=>ax a) (λ_=>True):=
 iT (a:=v5) h0 h1 h5
noncomputable def vL:FX (List Int×Unit) (Bool) (λ_=>True) (vD [.sc (.sl .u8)]):=⟨λ(x0,_)=>
  .val (yp.f (x0,())) λc1=>
  .ite c1 (.ret true)<|
  .cal mV.c (x0,()) λc2=>
  .cal Jg.c (c2.1,c2.2,()) λc3=>
  .cal Jh.c (c2.1,c2.2,()) λc4=>
  .bnd (β:=Bool×Unit) (.cal gC.c (c3.1,c4.1,()) λc5=>
   .ite (!c5) (.ret (true,()))<|
   .ret (((c3.2.length:Int) != (c4.2.length:Int)),())) λ(u6a0,_)=>
  .ite u6a0 (.ret false)<|
  .lp (fU (0,c2.1,c2.2,c3.1,c3.2,c2.1,())).lp λw11=> .sum w11 (λ_=>
  .ret false)<|
  λ(_,a11_0)=>
  .cal gC.c (a11_0,c3.1,()) λc12=>
  .ite c12 (.cal jL.c (c2.1,()) λc13=>
   .ite (!c13) (.ret true)<|
   .cal be.c (c3.1,()) λc14=>
   .ret c14)<|
  .ret false,
 λ(x0,_) hp hf=>by
  simp only[vD,Pk.fact,Nn,Bf,Fl.fact,Ty.fl,Ty.toH]at hf
  refine Tr.V λ_ _=>Tr.I (λ_=>Tr.R trivial) λ_=>Tr.C ?_ λ_ _ _=>Tr.C ?_ λ_ _ _=>Tr.C ?_ λ_ _ _=>Tr.B (Q':=λ_=>True) (Tr.C ?_ λ_ _ _=>Tr.F (by kernel_rfl) trivial) (λ(u6a0,_) _ _=>Tr.I (λ_=>Tr.R trivial) λ_=>Tr.L (Mo ?_ ?_ ?_ ?_ ?_ ?_) (λa11_0 _=>Tr.Sr (Tr.C ?_ λ_ _ _=>Tr.I (λ_=>Tr.C ?_ λ_ _ _=>Tr.I (λ_=>Tr.R trivial) λ_=>Tr.C ?_ λ_ _ _=>Tr.R trivial) λ_=>Tr.R trivial)) (λp11a0 _=>Tr.Sl (Tr.R trivial)))
  all_goals ((try simp only[fU,LC.lp,LC.ct,Ct.lp,Tr.nice,iz]at*)<;>grind)⟩
noncomputable def Wj:=afu st GZ Gs [(fv 0 nb fU)] (ks:=[.sc (.sl .u8)]) vL rB Tryz.func5 ⟨Lw,trivial⟩
theorem dj (n b:Int):aI.f (n,b,())=ae.f (n,b,()):=by
 simp only[PX,aI,ae,bF,av]
 cases h:(decide (1≤b)&&decide (b≤62))with
 |false=>simp only[cond_false]
 |true=>
  have h1:1≤b∧b≤62:=by simpa using h
  rw[We (by omega) (by omega)]
theorem rG (x:Tupl):lg.f (x,())=aG.f (x,()):=by
 simp only[PX,lg,aG,dj]
theorem iY (x:Opti):eQ.f (x,())=aM.f (x,()):=by
 simp only[PX,eQ,aM,dj,bF,av]
theorem Y4 (x:Int):Eo.f (x,())=ga.f (x,()):=by
 simp only[PX,Eo,ga,bF,av]
theorem afY:ga.f (0,())=64∧ga.f (1,())=256∧ga.f (2,())=536∧ga.f (3,())=1024∧ga.f (4,())=1300∧ga.f (5,())=1400∧ga.f (6,())=1440∧ga.f (7,())=1460:=by
 simp[PX,ga,av]
theorem Yq (x:Int):vQ.f (x,())=jd.f (x,()):=by
 obtain⟨h0,h1,h2,h3,h4,h5,h6,h7⟩:=afY
 simp only[PX,vQ,jd,mj,d9,show Int.toNat (8-0)=8 from rfl,show Int.toNat (7-0)=7 from rfl,aP,x9,l0,Y4]
 simp only[show(0:Int)+1=1 from rfl,show(1:Int)+1=2 from rfl,show(2:Int)+1=3 from rfl,show(3:Int)+1=4 from rfl,show(4:Int)+1=5 from rfl,show(5:Int)+1=6 from rfl,show(6:Int)+1=7 from rfl,
  show(7:Int)+ -1=6 from rfl,show(6:Int)+ -1=5 from rfl,show(5:Int)+ -1=4 from rfl,show(4:Int)+ -1=3 from rfl,show(3:Int)+ -1=2 from rfl,show(2:Int)+ -1=1 from rfl,h0,h1,h2,h3,h4,h5,h6,h7]
 grind [Stp.elim]
theorem mQ (x:Int):bK.f (x,())=x%4294967296:=by
 simp only[PX,bK]
 rcases Int.lt_or_le x 0 with h|h
 ·rw[(iy 4294967296).2 h,df]
  cases hd:decide (-(-x%4294967296)<0)with
  |true=>simp only[decide_eq_true_eq]at hd;simp only[cond_true];omega
  |false=>simp only[decide_eq_false_iff_not]at hd;simp only[cond_false];omega
 ·rw[(iy 4294967296).1 h,df]
  cases hd:decide (x%4294967296<0)with
  |true=>simp only[decide_eq_true_eq]at hd;omega
  |false=>rfl
theorem bL (a b:Int):bR.f (a,b,())=(a+b)%4294967296:=by
 simp only[PX,bR]
 rw[sB,df];omega
theorem kx (a b:Int):bT.f (a,b,())=bR.f (a,b,()):=by
 rw[bL]
 simp only[PX,bT,mQ,df];omega
theorem Fs (x y:Mac):jS.f (x,y,())=fK.f (x,y,()):=by
 simp only[PX,jS,fK,nR,kA,hY,r9,qN]
 have e1:(x.k != y.k)= !(x.k==y.k):=rfl
 have e2:(x.l != y.l)= !(x.l==y.l):=rfl
 rw[e1,e2]
 cases(x.use==y.use)<;>cases(x.k==y.k)<;>cases(x.l==y.l)<;>cases((x.rows.length:Int) != (y.rows.length:Int))<;>rfl
theorem oQ (n b:Int):aW.f (n,b,())=aA.f (n,b,()):=by
 simp only[PX,aW,aA,dj,bF,av,kr,eH]
 cases h1:(decide (1≤b)&&decide (b≤6))with
 |false=>rfl
 |true=>
  cases h2:ae.f (n,(IntKind.wrap .i64 (8*b)),())with
  |false=>rfl
  |true=>
   have hb:0≤n∧n≤9223372036854775807:=by
    revert h2
    simp only[PX,ae,av]
    cases(decide (1≤IntKind.wrap .i64 (8*b))&&decide (IntKind.wrap .i64 (8*b)≤62))with
    |false=>simp
    |true=>
     simp only[cond_true,Bool.and_eq_true,decide_eq_true_eq]
     generalize(IntKind.wrap .i64 (1*2 ^ (min (IntKind.wrap .i64 (8*b)).toNat 64)))=z
     rw[df]
     omega
   have e:∀k i r,aP (λj a=>(ou j a).nice) (-1) k i (n,r)=aP (λj a=>(dQ j a).nice) (-1) k i (n,r):=by
    intro k i r
    refine Gv (P:=λa=>0≤a.1∧a.1≤9223372036854775807) (λi a ha=> ?_) (λi a a' ha he=> ?_) k i (n,r) hb
    ·simp only[PX,ou,dQ]
     rw[(EB 256).1 ha.1,(iy 256).1 ha.1,am (by omega) (by omega),Int.fdiv_eq_ediv_of_nonneg a.1 (by omega),rQ,rQ,Int.emod_emod]
    ·simp only[PX,ou]at he
     cases he
     show 0≤IntKind.wrap .i64 (a.1.tdiv 256)∧_
     rw[(EB 256).1 ha.1,am (by omega) (by omega)]
     omega
   simp only[e]
theorem Oz (x:Int):pI.f (x,())=gK.f (x,()):=by simp only[PX,pI,gK,dj]
theorem YT (x:Tupl)(a b c:Int):vX.f (x,a,b,c,())=fW.f (x,a,b,c,()):=by simp only[PX,vX,fW,oQ,rG,dj,bF,av]
theorem abY (x:Mac)(r:List MacRow)(j:Nat)(hj:j<r.length)(hr:x.rows=r):
  Stp.elim (γ:=Stp Unit Unit) (λ_=> .next ()) (λ_=> .out ()) (aP (λi a=>(sv (j:Int) x i a).nice) 1 (Int.toNat ((j:Int)-0)) 0 ())=
  bif cS.f (((r.take j).drop 0),(r.getD j (Ty.zero .macRow)),())then .out ()else .next ():=by
 subst hr
 let p:MacRow→Bool:=λy=>y.input==(x.rows.getD j (Ty.zero .macRow)).input
 simp only[PX,cS,fk,bx]
 rw[List.drop_zero]
 have hl:(x.rows.take j).length=j:=by rw[List.length_take];omega
 rw[ci (x.rows.take j) _ (by rw[hl];simp) (F:=λq y a=>bif p y then .out ()else .next ()) (by
  intro q y a h
  have hq:q<j:=by
   have:=(List.getElem?_eq_some_iff.1 h).1;omega
  have h2:x.rows[q]? =some y:=by rw[List.getElem?_take]at h;simpa [hq]using h
  simp only[PX,sv,ah,getD_some h2,p])]
 rw[ci (x.rows.take j) _ (by simp) (F:=λq y a=>bif p y then .out (q:Int)else .next ()) (by
  intro q y a h
  simp only[PX,gb,Fd,ah,getD_some h,p])]
 rw[ke (w:=λ_ _=>()),ke (w:=λj _=>(j:Int))]
 cases h:(x.rows.take j).findIdx? p with
 |none=>simp[PX,Stp.elim]
 |some i=>
  have:=(List.findIdx?_eq_some_iff_getElem.1 h).1
  simp only[List.getElem?_eq_getElem this,Stp.elim]
  simp[PX]
theorem Sw (x:Mac):uk.f (x,())=jX.f (x,()):=by
 simp only[PX,uk,jX,kV,rk]
 have e:aP (λj a=>(wv x j a).nice) 1 (Int.toNat ((x.rows.length:Int)-0)) 0 ()=aP (λj a=>(qZ x.rows x j a).nice) 1 (Int.toNat ((x.rows.length:Int)-0)) 0 ():=by
  rw[aL]
  refine VW x.rows.length 0 () (λj a hj=> ?_)
  have:=abY x x.rows j (by omega) rfl
  simp only[PX,wv,qZ,f9,ah,bF,av]at this⊢
  rw[this]
 rw[e]
 have e1:(x.k != 0)= !(x.k==0):=rfl
 have e2:(x.l != 0)= !(x.l==0):=rfl
 have e3:decide (64<(x.rows.length:Int))= !decide ((x.rows.length:Int)≤64):=by
  rcases Int.lt_or_le 64 (x.rows.length:Int)with h|h
  ·simp[h,show¬((x.rows.length:Int)≤64) by omega]
  ·simp[h,show¬(64<(x.rows.length:Int)) by omega]
 rw[e1,e2,e3]
 generalize aP (λj a=>(qZ x.rows x j a).nice) 1 (Int.toNat ((x.rows.length:Int)-0)) 0 ()=z
 cases x.use<;>cases z<;>cases(x.k==0)<;>cases(x.l==0)<;>cases decide ((x.rows.length:Int)≤64)<;>simp[PX,Stp.elim]
theorem MD (k:Keys):vF.f (k,())=eg.f (k,()):=by
 simp only[PX,vF,eg,dj,Sw,Fs,cf,av]
 cases ht:k.two<;>simp only[PX,cond_true,cond_false,ht]<;>cases jX.f (k.now,())<;>cases jX.f (k.before,())<;>grind
theorem Le (x n:Int)(h:bits .and .u64 (IntKind.wrap .u64 n) 63=n):du.f (x,n,())=lq.f (x,n,()):=by
 simp only[PX,du,lq,h]
theorem Mh (x:Sipr):jq.f (x,())=kf.f (x,()):=by
 simp only[PX,jq,kf,Le _ 13 (by decide+kernel),Le _ 16 (by decide+kernel),Le _ 17 (by decide+kernel),Le _ 21 (by decide+kernel),Le _ 32 (by decide+kernel)]
theorem Qc (x:Sipr)(m:Int):vM.f (x,m,())=vN.f (x,m,()):=by
 simp only[PX,vM,vN,Mh]
theorem XZ (k l:Int):xi.f (k,l,())=tj.f (k,l,()):=by simp only[PX,xi,tj]
theorem aca (x:Sipr):EN.f (x,())=uZ.f (x,()):=by
 simp only[PX,EN,uZ,lA,Mh]
 have e:(λ(j:Int) a=>(uB j a).nice)=λ_ a=>Stp.next (kf.f (a,())):=rfl
 rw[e]
 generalize FT.f kf=R
 rfl
theorem rN (n:Int)(h0:0≤n)(h1:n<2 ^ 64):IntKind.u64.wrap n=n:=by rw[AH];omega
theorem or8 (a b:Int)(ha:0≤a)(ha1:a<72057594037927936)(hb:0≤b)(hb1:b<256):bits .or .u64 (IntKind.wrap .u64 (a*256)) (IntKind.wrap .u64 b)=a*256+b:=by
 rw[rN _ (by omega) (by omega),rN _ (by omega) (by omega)]
 exact bits_join .u64 64 (by decide) rN 8 _ _ (by omega) (by omega) (by omega) (by omega) (by omega) (by omega)
def J7 (g:Nat→Int):Nat→Int→Int
 |0,a=>a
 |k+1,a=>J7 g k (a*256+g k)
theorem Ga {g h:Nat→Int}:∀(k:Nat) (a:Int),(∀j,j<k→g j=h j)→J7 g k a=J7 h k a
 |0,_,_=>rfl
 |k+1,a,e=>by simp only[J7,e k (Nat.lt_succ_self _)];exact Ga k _ λj hj=>e j (by omega)
theorem Jl {g:Nat→Int}:∀(k:Nat) (a:Int),J7 g k a=a*256 ^ k+J7 g k 0
 |0,a=>by simp[J7]
 |k+1,a=>by
  simp only[J7]
  rw[Jl k (a*256+g k),Jl k (0*256+g k),Int.pow_succ,Int.add_mul,Int.zero_mul,Int.zero_add,Int.mul_assoc,Int.mul_comm 256 (256 ^ k),Int.add_assoc]
theorem abK (k:Nat):(1:Int)≤256 ^ k:=by
 have:=Int.pow_pos (n:=256) (m:=k) (by decide)
 omega
theorem abO {g:Nat→Int}(hg:∀k,0≤g k∧g k≤255):∀(k:Nat),0≤J7 g k 0∧J7 g k 0<256 ^ k
 |0=>by simp[J7]
 |k+1=>by
  have h:=abO hg k
  simp only[J7]
  rw[Jl,Int.zero_mul,Int.zero_add,Int.pow_succ]
  have h1:=hg k
  have h2:=abK k
  have h3:0≤g k*256 ^ k:=Int.mul_nonneg h1.1 (by omega)
  have h4:g k*256 ^ k≤255*256 ^ k:=Int.mul_le_mul_of_nonneg_right h1.2 (by omega)
  omega
theorem JW {f:Int→Int→Stp Int Empty}{g:Nat→Int}(hg:∀k,0≤g k∧g k≤255)(hf:∀(k:Nat) a,f (k:Int) a= .next (bits .or .u64 (IntKind.wrap .u64 (a*256)) (IntKind.wrap .u64 (g k)))):
  ∀(k:Nat) (a:Int),0≤a→(a+1)*256 ^ k≤18446744073709551616→aP f (-1) k ((k:Int)-1) a= .next (J7 g k a)
 |0,a,_,_=>rfl
 |k+1,a,h0,h1=>by
  have hp:=abK k
  rw[Int.pow_succ,Int.mul_comm (256 ^ k) 256,←Int.mul_assoc]at h1
  have h2:(a+1)*256*1≤(a+1)*256*256 ^ k:=Int.mul_le_mul_of_nonneg_left hp (by omega)
  have h3:=hg k
  simp only[aP,J7]
  rw[show((k+1:Nat):Int)-1=(k:Int) by omega,hf,or8 a (g k) h0 (by omega) h3.1 (by omega)]
  simp only[Stp.elim]
  rw[show(k:Int)+ -1=(k:Int)-1 by omega]
  refine JW hg hf k _ (by omega) ?_
  have h4:(a*256+g k+1)*256 ^ k≤(a+1)*256*256 ^ k:=Int.mul_le_mul_of_nonneg_right (by omega) (by omega)
  omega
theorem AY (s:aa)(k:Nat):0≤ai s k∧ai s k≤255:=gG s k
theorem P7 (s:aa)(h:s.length≤8):sU.f (s,())=J7 (ai s) s.length 0:=by
 simp only[PX,sU,pQ]
 rw[am (by omega) (by omega)]
 rw[show Int.toNat ((s.length:Int)-1-0+1)=s.length by omega]
 rw[JW (g:=ai s) (AY s) (λk a=>rfl) s.length 0 (by omega) ?_]
 ·rfl
 ·have:∀k:Nat,k≤8→(0+1:Int)*256 ^ k≤18446744073709551616:=by decide
  exact this _ h
theorem PT (l:List Int)(h:∀k,0≤l.getD k 0∧l.getD k 0≤255):tq.f (l,())=J7 (λk=>l.getD k 0) 8 0:=by
 simp only[PX,tq,pP]
 rw[show Int.toNat (7-0+1)=8 from rfl,show(7:Int)=((8:Nat):Int)-1 from rfl]
 rw[JW (g:=λk=>l.getD k 0) h (λk a=>rfl) 8 0 (by omega) (by decide)]
 rfl
theorem Mp {A B W W':Type}[Inhabited W][Inhabited W']{f:A→Stp A W}{g:B→Stp B W'}{R:A→B→Prop}{Q:W→W'→Prop}{ma:A→Nat}{mb:B→Nat}
  (h:∀a b,R a b→(∃a' b',f a= .next a'∧g b= .next b'∧R a' b'∧ma a'<ma a∧mb b'<mb b)∨(∃w w',f a= .out w∧g b= .out w'∧Q w w')):
  ∀(m m':Nat) (a:A) (b:B),ma a<m→mb b<m'→R a b→Q (cm f m a) (cm g m' b)
 |0,_,_,_,h1,_,_=>absurd h1 (Nat.not_lt_zero _)
 |_+1,0,_,_,_,h2,_=>absurd h2 (Nat.not_lt_zero _)
 |m+1,m'+1,a,b,h1,h2,hr=>by
  rcases h a b hr with⟨a',b',e1,e2,hr',l1,l2⟩|⟨w,w',e1,e2,hq⟩
  ·simp only[cm,e1,e2,Stp.elim]
   exact Mp h m m' a' b' (by omega) (by omega) hr'
  ·simp only[cm,e1,e2,Stp.elim]
   exact hq
theorem acR {g:Nat→Int}(k:Nat)(a:Int):J7 g (k+1) a=J7 g k (a*256+g k):=rfl
theorem abX {α:Type}{xs:List α}{j:Nat}(h:j<xs.length)(v z:α):(xs.set j v).getD j z=v:=by
 simp[List.getD,List.getElem?_set,h]
theorem yK (s:aa)(k:Nat):(er s).getD k 0=ai s k:=by
 simp only[er,ai,List.getD,List.getElem?_map]
 cases s[k]? <;>rfl
theorem Hk (s:aa)(n k:Nat):ai (s.drop n) k=ai s (n+k):=by
 simp only[ai,List.getD,List.getElem?_drop]
theorem Vs (s:aa)(n k:Nat)(h:k<n):ai (s.take n) k=ai s k:=by
 simp only[ai,List.getD,List.getElem?_take,if_pos h]
theorem GC (s:aa)(k:Nat)(h:s.length≤k):ai s k=0:=by
 simp[ai,List.getD,h]
theorem Zb {g:Nat→Int}(r:Nat):∀(m:Nat),(∀j,r≤j→j<r+m→g j=0)→J7 g (r+m) 0=J7 g r 0
 |0,_=>rfl
 |m+1,h=>by
  rw[show r+(m+1)=(r+m)+1 from rfl]
  simp only[J7]
  rw[h (r+m) (by omega) (by omega)]
  exact Zb r m λj h1 h2=>h j h1 (by omega)
theorem Q8 (k:IntKind)(a b:Int):bits .or k a b=bits .or k b a:=by
 simp only[bits,BitVec.or_comm]
def aff (x:aa)(a:Int×Sipr)(b:List Int×Sipr):Prop:=0≤a.1∧a.1≤x.length∧b.1=er (x.drop a.1.toNat)∧a.2=b.2
theorem Ve (s:aa)(n:Nat):(er s).drop n=er (s.drop n):=by simp[er]
theorem ZI (x:aa)(hx:x.length≤4294967296)(z:Sipr):aff x (cm (λa=>(kh x (x.length:Int) a).nice) (Int.toNat ((x.length:Int)-0)+1) (0,z)) (cm (λa=>(nA a).nice) ((er x).length+1) (er x,z))∧
  (x.length:Int)<(cm (λa=>(kh x (x.length:Int) a).nice) (Int.toNat ((x.length:Int)-0)+1) (0,z)).1+8:=by
  refine Mp (R:=aff x) (Q:=λw w'=>aff x w w'∧(x.length:Int)<w.1+8) (ma:=λa=>Int.toNat ((x.length:Int)-a.1)) (mb:=λb=>b.1.length) ?_ _ _ _ _ ?_ ?_ ?_
  ·intro a b hr
   obtain⟨h1,h2,h3,h4⟩:=hr
   have hb:(b.1.length:Int)=(x.length:Int)-a.1:=by rw[h3,pA,List.length_drop];omega
   simp only[PX,kh,nA]
   rw[am (by omega) (by omega)]
   cases hd:decide (a.1+8≤(x.length:Int))with
   |true=>
    simp only[decide_eq_true_eq]at hd
    rw[show decide (8≤(b.1.length:Int))=true by simp only[decide_eq_true_eq];omega]
    refine .inl ⟨_,_,rfl,rfl,⟨?_, ?_, ?_, ?_⟩, ?_, ?_⟩
    ·simp only[];omega
    ·simp only[];omega
    ·simp only[]
     rw[ah,List.take_length,h3,Ve,List.drop_drop,show(a.1+8).toNat=a.1.toNat+8 by omega]
    ·have e:sU.f ((x.take (a.1+8).toNat).drop a.1.toNat,())=tq.f (b.1,()):=by
      have hl:((x.take (a.1+8).toNat).drop a.1.toNat).length=8:=by rw[List.length_drop,List.length_take];omega
      rw[P7 _ (by omega),hl,PT _ (λk=>by rw[h3,yK];exact AY _ _)]
      refine Ga 8 0 λj hj=> ?_
      rw[h3,yK,Hk,Hk,Vs _ _ _ (by omega)]
     simp only[e,h4,Qc]
    ·simp only[];omega
    ·simp only[ah,List.take_length,List.length_drop];omega
   |false=>
    simp only[decide_eq_false_iff_not]at hd
    rw[show decide (8≤(b.1.length:Int))=false by simp only[decide_eq_false_iff_not];omega]
    exact .inr ⟨_,_,rfl,rfl,⟨h1,h2,h3,h4⟩,by show(x.length:Int)<a.1+8;omega⟩
  ·exact Nat.lt_succ_self _
  ·exact Nat.lt_succ_self _
  ·exact⟨by simp,by simp,by simp,rfl⟩
theorem ac4 (x:aa)(hx:x.length≤4294967296)(p:Int)(q:List Int)(h1:0≤p)(h2:p≤x.length)(h3:q=er (x.drop p.toNat))(h5:(x.length:Int)<p+8):
  bits .or .u64 (sU.f (x.drop p.toNat,())) (IntKind.wrap .u64 ((IntKind.wrap .u64 ((x.length:Int).tmod 256))*72057594037927936))=tq.f ((q++(List.replicate 8 0).drop q.length).set 7 (IntKind.wrap .u8 (x.length:Int)),()):=by
 have hl:(x.drop p.toNat).length=x.length-p.toNat:=by simp
 have hq:q.length=x.length-p.toNat:=by rw[h3,pA,hl]
 generalize hy:x.drop p.toNat=y at h3 hl
 have hy8:y.length≤7:=by omega
 rw[P7 y (by omega)]
 have hb7:IntKind.u8.wrap (x.length:Int)=(x.length:Int)%256:=rQ _
 have hm:IntKind.u64.wrap ((x.length:Int).tmod 256)=(x.length:Int)%256:=by
  rw[(iy 256).1 (by omega),rN _ (by omega) (by omega)]
 rw[hb7,hm]
 have hg:∀k,((q++(List.replicate 8 (0:Int)).drop q.length).set 7 ((x.length:Int)%256)).getD k 0=if k=7 then(x.length:Int)%256 else ai y k:=by
  intro k
  by_cases e:k=7
  ·subst e
   rw[if_pos rfl]
   exact abX (by simp;omega) _ _
  ·rw[if_neg e,List.getD,List.getElem?_set_ne (by omega)]
   by_cases hk:k<q.length
   ·rw[List.getElem?_append_left hk,h3,←List.getD_eq_getElem?_getD,yK]
   ·rw[List.getElem?_append_right (by omega),List.getElem?_drop,List.getElem?_replicate,GC y k (by omega)]
    split<;>rfl
 rw[PT _ (λk=>by
  rw[hg]
  split
  ·omega
  ·exact AY _ _)]
 have hbd:=abO (g:=ai y) (AY y) y.length
 have hp7:(256:Int) ^ y.length≤72057594037927936:=by
  have:∀k:Nat,k≤7→(256:Int) ^ k≤72057594037927936:=by decide
  exact this _ hy8
 have e1:J7 (λk=>((q++(List.replicate 8 (0:Int)).drop q.length).set 7 ((x.length:Int)%256)).getD k 0) 8 0=((x.length:Int)%256)*72057594037927936+J7 (ai y) y.length 0:=by
  refine(acR 7 0).trans ?_
  rw[hg 7,if_pos rfl,Jl,Int.zero_mul,Int.zero_add,show(256:Int) ^ 7=72057594037927936 from rfl]
  congr 1
  rw[Ga 7 0 (h:=ai y) λj hj=>by rw[hg,if_neg (by omega)]]
  have:=Zb (g:=ai y) y.length (7-y.length) λj h1 _=>GC y j h1
  rw[show y.length+(7-y.length)=7 by omega]at this
  exact this
 rw[e1,Q8,rN ((x.length:Int)%256*72057594037927936) (by omega) (by omega)]
 exact bits_join .u64 64 (by decide) rN 56 _ _ (by omega) (by omega) (by omega) (by omega) (by omega) (by omega)
theorem abe (k l:Int)(x:aa)(hx:x.length≤4294967296):Aa.f (k,l,x,())=oC.f (k,l,x,()):=by
 simp only[PX,Aa,oC,ng,n5,XZ,List.length_replicate]
 generalize tj.f (k,l,())=z
 have key:=ZI x hx z
 generalize cm (λa=>(kh x (x.length:Int) a).nice) (Int.toNat ((x.length:Int)-0)+1) (0,z)=p at key⊢
 generalize cm (λa=>(nA a).nice) ((er x).length+1) (er x,z)=q at key⊢
 obtain⟨⟨h1,h2,h3,h4⟩,h5⟩:=key
 have hq:q.1.length=x.length-p.1.toNat:=by rw[h3,pA,List.length_drop]
 have ht:q.1.take 8=q.1:=List.take_of_length_le (by omega)
 obtain⟨p,pz⟩:=p
 obtain⟨q,qz⟩:=q
 simp only[PX,ht,aca,Qc]at*
 rw[h4,show((x.take (x.length:Int).toNat).drop p.toNat)=x.drop p.toNat by rw[ah,List.take_length]]
 rw[ac4 x hx p q h1 h2 h3 h5]
theorem adx (m:Mac)(x:aa)(hx:x.length≤4294967296):Je.f (m,x,())=qQ.f (m,x,()):=by
 simp only[PX,Je,qQ,qV,na,abe _ _ _ hx]
 rw[show aP (λj a=>(xB x m j a).nice) 1 (Int.toNat ((m.rows.length:Int)-0)) 0 ()=aP (λj a=>(lm x m.rows j a).nice) 1 (Int.toNat ((m.rows.length:Int)-0)) 0 () from Xv (λi a=>by
  simp only[PX,xB,lm]
  generalize(m.rows.getD i.toNat (Ty.zero .macRow))=r
  cases(r.input==x)with
  |false=>rfl
  |true=>
   simp only[cond_true]
   have h1:=iy (a:=r.value) 16777216
   rcases Int.lt_or_le r.value 0 with h|h
   ·have e:=h1.2 h
    generalize r.value.tmod 16777216=t at e
    rw[am (by omega) (by omega)]
    cases hd:decide (t<0)with
    |true=>simp only[decide_eq_true_eq]at hd;simp only[cond_true];rw[(iy 16777216).1 (by omega),Int.emod_eq_of_lt (by omega) (by omega)]
    |false=>simp only[decide_eq_false_iff_not]at hd;simp only[cond_false];rw[(iy 16777216).1 (by omega),show t=0 by omega];rfl
   ·have e:=h1.1 h
    generalize r.value.tmod 16777216=t at e
    rw[am (by omega) (by omega)]
    cases hd:decide (t<0)with
    |true=>simp only[decide_eq_true_eq]at hd;omega
    |false=>simp only[cond_false];rw[(iy 16777216).1 (by omega)];congr 1;omega) _ _ _]
theorem QH (t:Tupl)(a b c:Int):(fW.f (t,a,b,c,())).length≤40:=(fW.c.h (t,a,b,c,()) trivial).2
theorem Nt (m:Mac)(t:Tupl)(a b c:Int):sM.f (m,t,a,b,c,())=ki.f (m,t,a,b,c,()):=by
 simp only[PX,sM,ki,YT]
 rw[adx _ _ (by have:=QH t a b c;omega)]
theorem Fw (m:Mac):lc.f (m,())=m:=by simp only[PX,lc,List.nil_append]
theorem vV (m:Mac):kD.f (m,())=m:=by simp only[PX,kD,m9]
theorem X4 (k:Keys)(e:Int):wx.f (k,e,())=oU.f (k,e,()):=by
 simp only[PX,wx,oU,Fw,vV]
theorem ad6 (f:Int→Unit→Stp Unit (Int⊕Unit))(g:Int→Unit→Stp Unit Int)(E:Int)(h0:0≤E)(h1:E≤4294967295)
  (hfg:∀e,E-1≤e→f e ()=Stp.elim (λ_=> .next ()) (λw=> .out (.inl w)) (g e ()))(hend:∀e,e<E-1→f e ()= .out (.inr ()))(i:Int):
  Stp.elim (λ_=>((0:Int),(0:Int),false)) (Sum.elim (λp=>(p,i,true)) (λ_=>(0,0,false))) (aP f (-1) (Int.toNat (E-0+1)) E ())=
  Stp.elim (λ_=>(0,0,false)) (λp=>(p,i,true)) (aP g (-1) (Int.toNat (E-(if 0<(IntKind.wrap .i64 (E-1))then(IntKind.wrap .i64 (E-1))else 0)+1)) E ()):=by
 rw[am (by omega) (by omega)]
 rcases(show E=0∨E=1∨2≤E by omega)with rfl|rfl|h
 ·rw[if_neg (by omega),show Int.toNat (0-0+1)=1 from rfl]
  simp only[aP,hfg 0 (by omega)]
  cases g 0 ()<;>rfl
 ·rw[if_neg (by omega),show Int.toNat (1-0+1)=2 from rfl]
  simp only[aP,hfg 1 (by omega),show(1:Int)+ -1=0 from rfl,hfg 0 (by omega)]
  cases g 1 ()with
  |out w=>rfl
  |next a=>simp only[Stp.elim];cases g 0 ()<;>rfl
 ·rw[if_pos (by omega),show Int.toNat (E-(E-1)+1)=2 by omega]
  obtain⟨m,hm⟩:∃m:Nat,Int.toNat (E-0+1)=m+3:=⟨Int.toNat (E-2),by omega⟩
  rw[hm]
  simp only[aP,hfg E (by omega),hfg (E+ -1) (by omega),hend (E+ -1+ -1) (by omega)]
  cases g E ()with
  |out w=>rfl
  |next a=>simp only[Stp.elim];cases g (E+ -1) ()<;>rfl
theorem IC (x:Int):decide ((gK.f (x,())).2.1<0)= !ae.f (x,32,()):=by
 simp only[PX,gK,cf]
 cases hd:(decide (0≤x)&&decide (x≤4294967295))with
 |false=>rfl
 |true=>
  simp only[Bool.and_eq_true,decide_eq_true_eq]at hd
  simp only[Bool.not_true,cond_false]
  rw[(EB 16777216).1 hd.1,am (by omega) (by omega),(iy 8).1 (by omega)]
  simp only[decide_eq_false_iff_not]
  omega
theorem wF (k:Keys)(h:eg.f (k,())=true):0≤k.epoch∧k.epoch≤4294967295:=by
 simp only[PX,eg,av]at h
 revert h
 cases k.two<;>simp only[PX,cond_true,cond_false]<;>grind
theorem NZ (k:Keys)(t:Tupl)(a b:Int):pG.f (k,t,a,b,())=dq.f (k,t,a,b,()):=by
 simp only[PX,pG,dq,jb,jx,MD,Oz,IC]
 cases hk:eg.f (k,())with
 |false=>rfl
 |true=>
  simp only[Bool.not_true,cond_false]
  cases ae.f (b,32,())with
  |false=>rfl
  |true=>
   simp only[Bool.not_true,cond_false]
   have he:=wF k hk
   refine ad6 _ _ k.epoch he.1 he.2 (λe h=> ?_) (λe h=> ?_) _
   ·simp only[PX,mz,td]
    rw[am (by omega) (by omega)]
    simp only[X4,Nt,decide_eq_true h,cond_true]
    cases(oU.f (k,e,())).2 with
    |false=>rfl
    |true=>
     simp only[cond_true]
     cases(ki.f ((oU.f (k,e,())).1,t,a,e,(gK.f (b,())).2.1,())==b)<;>rfl
   ·simp only[PX,mz]
    rw[am (by omega) (by omega)]
    simp only[decide_eq_false (show¬(k.epoch-1≤e) by omega),cond_false]
theorem qn (x:Segm):i1.f (x,())=ak.f (x,()):=by simp only[PX,i1,ak,dj,iY]
theorem acj (x:Int):fB.f (0,x,())=(if 0<x then x else 0):=by
 rw[mD];grind
theorem XR (d:Door)(t:Tupl)(g:Segm):wz.f (d,t,g,())=o8.f (d,t,g,()):=by
 simp only[PX,wz,o8,Ar]
 cases(g.opts.mss==0)<;>simp only[PX,cond_true,cond_false]<;>simp only[Yq,Nt,acj]
theorem abm (a b:Int)(c:Bool):Al.f (a,b,c,())=pu.f (a,b,c,()):=by
 simp only[PX,Al,pu,av,sB]
 cases c<;>simp only[PX,cond_true,cond_false]<;>simp only[bF,mQ]<;>cases(decide (0≤b)&&decide (b≤14))<;>simp only[cond_true,cond_false,Bool.not_true,Bool.not_false,df]<;>omega
theorem Iz (o:Opti)(c:Int):me.f (o,c,())=gj.f (o,c,()):=by
 simp only[PX,me,gj,bF,av]
 cases(decide (0≤o.scale)&&decide (o.scale≤14))<;>simp only[PX,cond_true,cond_false]<;>simp only[abm]
theorem ado (d:Door)(t:Tupl)(g:Segm):sQ.f (d,t,g,())=eS.f (d,t,g,()):=by
 simp only[PX,sQ,eS,XR,kx,Iz]
theorem FG {A W:Type}{f:Int→A→Stp A W}{st:Int}:∀(k:Nat) (i:Int) (a:A) (w:W),aP f st k i a= .out w→∃(n:Nat) (b:A),n<k∧f (i+st*(n:Int)) b= .out w
 |0,_,_,_,h=>by cases h
 |k+1,i,a,w,h=>by
  simp only[aP]at h
  cases hf:f i a with
  |out w'=>rw[hf]at h;simp only[Stp.elim]at h;cases h;exact⟨0,a,by omega,by simpa using hf⟩
  |next a'=>
   rw[hf]at h
   obtain⟨n,b,h1,h2⟩:=FG k (i+st) a' w h
   exact⟨n+1,b,by omega,by rw[show i+st*((n+1:Nat):Int)=i+st+st*(n:Int) by rw[Int.natCast_add,Int.mul_add];omega];exact h2⟩
theorem Cm {A W:Type}{f:Int→A→Stp A W}{st:Int}{P:A→Prop}(hp:∀i a a',P a→f i a= .next a'→P a'):∀(k:Nat) (i:Int) (a a':A),P a→aP f st k i a= .next a'→P a'
 |0,_,_,_,ha,h=>by cases h;exact ha
 |k+1,i,a,a',ha,h=>by
  simp only[aP]at h
  cases hf:f i a with
  |out w'=>rw[hf]at h;cases h
  |next a1=>rw[hf]at h;exact Cm hp k _ a1 a' (hp i a a1 ha hf) h
theorem aaq (x:Sipr):0≤uZ.f (x,()):=by
 simp only[PX,uZ,lA]
 cases aP (λj a=>(uB j a).nice) 1 (Int.toNat (4-0)) 0 ({x with c:=(bits .xor .u64 x.c 255)}:Sipr)with
 |next a=>exact(CR .xor .u64 _ _ (.inr (.inr (.inl rfl)))).1
 |out e=>exact Empty.elim e
theorem XO (k l:Int)(x:aa):0≤oC.f (k,l,x,()):=by
 simp only[PX,oC]
 exact aaq _
theorem ags (s:Int)(h:0≤s):0≤IntKind.wrap .i64 (s.tmod 16777216)∧IntKind.wrap .i64 (s.tmod 16777216)≤16777215:=by
 have h1:=Jf (b:=16777216) h
 have h2:=DD (a:=s) (show(0:Int)<16777216 by omega)
 rw[am (by omega) (by omega)];omega
theorem af6 (r:Int):0≤(IntKind.wrap .i64 (r.tmod 16777216+16777216)).tmod 16777216∧(IntKind.wrap .i64 (r.tmod 16777216+16777216)).tmod 16777216≤16777215:=by
 have h1: -16777216<r.tmod 16777216:=Int.lt_tmod_of_pos _ (by omega)
 have h2:=DD (a:=r) (show(0:Int)<16777216 by omega)
 rw[am (by omega) (by omega)]
 have h3:=Jf (a:=r.tmod 16777216+16777216) (b:=16777216) (by omega)
 have h4:=DD (a:=r.tmod 16777216+16777216) (show(0:Int)<16777216 by omega)
 omega
theorem ZW (m:Mac)(x:aa)(k:Nat)(i:Int)(w:Int)(hf:aP (λj a=>(lm x m.rows j a).nice) 1 k i ()= .out w):0≤w∧w≤16777215:=by
 obtain⟨n,b,_,h⟩:=FG _ _ _ _ hf
 simp only[PX,lm]at h
 revert h
 generalize(m.rows.getD (i+1*(n:Int)).toNat (Ty.zero .macRow))=r
 cases(r.input==x)with
 |false=>simp only[cond_false];intro h;cases h
 |true=>simp only[cond_true];intro h;injection h with h;rw[←h];exact af6 r.value
theorem acA (m:Mac)(x:aa):qQ.f (m,x,())=bif !m.use then IntKind.wrap .i64 ((oC.f (m.k,m.l,x,())).tmod 16777216)else Stp.elim (λ_=>0) (λp=>p) (aP (λj a=>(lm x m.rows j a).nice) 1 (Int.toNat ((m.rows.length:Int)-0)) 0 ()):=by
 simp only[PX,qQ,na]
theorem af1 (u:Bool)(s:Int)(z:Stp Unit Int)(hs:0≤s)(hk:∀w,z= .out w→0≤w∧w≤16777215):
  0≤(bif !u then IntKind.wrap .i64 (s.tmod 16777216)else Stp.elim (λ_=>0) (λp=>p) z)∧(bif !u then IntKind.wrap .i64 (s.tmod 16777216)else Stp.elim (λ_=>0) (λp=>p) z)≤16777215:=by
 cases u with
 |false=>simp only[Bool.not_false,cond_true];exact ags s hs
 |true=>
  simp only[Bool.not_true,cond_false]
  cases z with
  |next a=>simp only[Stp.elim];omega
  |out w=>exact hk w rfl
theorem PP (m:Mac)(x:aa):0≤qQ.f (m,x,())∧qQ.f (m,x,())≤16777215:=by
 rw[acA]
 exact af1 m.use _ _ (XO m.k m.l x) (ZW m x (Int.toNat ((m.rows.length:Int)-0)) 0)
theorem Xf (n:Int)(h:ae.f (n,32,())=true):(aA.f (n,4,())).length=4:=by
 simp only[PX,aA,av,eH,show IntKind.wrap .i64 (8*4)=32 from rfl,h,show(decide ((1:Int)≤4)&&decide ((4:Int)≤6))=true from rfl,Bool.not_true,cond_false,show IntKind.wrap .i64 (4-1)=3 from rfl,show Int.toNat (3-0+1)=4 from rfl,show Int.toNat 4=4 from rfl]
 cases hf:aP (λj a=>(dQ j a).nice) (-1) 4 3 (n,List.replicate 4 0)with
 |out e=>exact Empty.elim e
 |next a=>
  have:=Cm (P:=λa:Int×List Int=>a.2.length=4) (λi a a' ha h=>by
   simp only[PX,dQ]at h
   cases h
   simpa using ha) _ _ _ _ (by simp) hf
  simp only[PX,Stp.elim,bA]
  exact this
theorem Xc (t:Tupl)(h:aG.f (t,())=true):(0≤t.ip∧t.ip≤4294967295)∧(0≤t.port∧t.port≤65535)∧(0≤t.my∧t.my≤65535):=by
 simp only[PX,aG,cf,dh]at h
 revert h
 cases h1:(decide (0≤t.ip)&&decide (t.ip≤4294967295))<;>cases h2:(decide (0≤t.port)&&decide (t.port≤65535))<;>simp only[cond_true,cond_false,Bool.and_eq_true,decide_eq_true_eq]at* <;>simp_all
theorem VP (t:Tupl)(seq e i:Int)(ht:aG.f (t,())=true)(hs:0≤seq∧seq≤4294967295)(he:0≤e∧e≤4294967295)(hi:0≤i∧i≤7):(fW.f (t,seq,e,i,())==[])=false:=by
 have h1:=Xf t.ip (by rw[cf];have:=(Xc t ht).1;simp[this])
 simp only[PX,fW,ht,cf,av,decide_eq_true hs.1,decide_eq_true hs.2,decide_eq_true he.1,decide_eq_true he.2,decide_eq_true hi.1,decide_eq_true hi.2,Bool.and_self,Bool.not_true,cond_false]
 generalize aA.f (t.ip,4,())=a at*
 match a,h1 with
 |x::r,_=>simp
theorem V9 (m:Mac)(t:Tupl)(seq e i:Int)(ht:aG.f (t,())=true)(hs:0≤seq∧seq≤4294967295)(he:0≤e∧e≤4294967295)(hi:0≤i∧i≤7):
  ki.f (m,t,seq,e,i,())=(e%32)*134217728+i*16777216+qQ.f (m,fW.f (t,seq,e,i,()),()):=by
 simp only[PX,ki,VP t seq e i ht hs he hi,cond_false]
 have h:=PP m (fW.f (t,seq,e,i,()))
 rw[(iy 32).1 he.1,am (m:=e%32*134217728) (by omega) (by omega),am (m:=i*16777216) (by omega) (by omega),am (m:=e%32*134217728+i*16777216) (by omega) (by omega),am (by omega) (by omega)]
theorem R5 (x:Int):0≤jd.f (x,())∧jd.f (x,())≤7:=by
 simp only[PX,jd,d9]
 cases hf:aP (λj a=>(l0 x j a).nice) (-1) (Int.toNat (7-0)) 7 ()with
 |next a=>simp[PX,Stp.elim]
 |out w=>
  obtain⟨n,b,hn,h⟩:=FG _ _ _ _ hf
  simp only[PX,l0]at h
  simp only[PX,Stp.elim]
  rw[show Int.toNat (7-0)=7 from rfl]at hn
  revert h
  cases decide (ga.f (7+ -1*(n:Int),())≤x)with
  |false=>simp only[cond_false];intro h;cases h
  |true=>simp only[cond_true];intro h;cases h;omega
theorem FN (o:Opti)(c:Int)(ho:eQ.f (o,())=true):eQ.f (gj.f (o,c,()),())=true:=by
 have hv:∀a b:Int,∀s:Bool,0≤pu.f (a,b,s,())∧pu.f (a,b,s,())≤4294967295:=by
  intro a b s
  simp only[PX,pu,sB]
  cases s<;>simp only[cond_true,cond_false]<;>cases bh.f (b,0,14,())<;>simp only[Bool.not_true,Bool.not_false,cond_true,cond_false]<;>omega
 simp only[PX,eQ,bF,UC,TU]at ho⊢
 simp only[PX,gj,av]
 have h1:=hv c o.scale o.sack
 cases hst:o.stamp with
 |false=>simp[PX]
 |true=>
  simp only[hst,Bool.not_true,cond_false]at ho⊢
  revert ho
  cases(decide (0≤o.mss)&&decide (o.mss≤65535))<;>cases(decide (-1≤o.scale)&&decide (o.scale≤14))<;>cases hval:(decide (0≤o.val)&&decide (o.val≤4294967295))<;>simp only[cond_true,cond_false]<;>intro ho
  all_goals first|(exfalso;exact Bool.noConfusion ho)|skip
  cases(decide (0≤o.scale)&&decide (o.scale≤14))<;>simp only[PX,cond_true,cond_false]<;>simp only[decide_eq_true h1.1,decide_eq_true h1.2,ho,hval,Bool.and_self,cond_true]<;>rfl
def em {T:Type}(p:T→Bool)(xs:List T):Int:=match xs.findIdx? p with|none=> -1|some i=>(i:Int)
theorem jO {T:Type}(p:T→Bool)(xs:List T){f:Int→Unit→Stp Unit Int}(h:∀(j:Nat) x a,xs[j]? =some x→f j a=bif p x then .out (j:Int)else .next ()):
  aP f 1 (Int.toNat ((xs.length:Int)-0)) 0 ()=match xs.findIdx? p with|none=> .next ()|some i=> .out (i:Int):=by
 rw[aL,ci xs _ rfl h,ke (w:=λj _=>(j:Int))]
 cases hf:xs.findIdx? p with
 |none=>rfl
 |some i=>
  obtain⟨h1,_,_⟩:=List.findIdx?_eq_some_iff_getElem.1 hf
  simp only[List.getElem?_eq_getElem h1,Nat.zero_add]
theorem mc {T:Type}(p:T→Bool)(xs:List T):decide (0≤em p xs)=xs.any p:=by
 unfold em
 cases h:xs.findIdx? p with
 |none=>
  rw[List.findIdx?_eq_none_iff]at h
  symm
  show xs.any p=false
  rw[List.any_eq_false]
  intro x hx;simp[h x hx]
 |some i=>
  obtain⟨h1,h2,_⟩:=List.findIdx?_eq_some_iff_getElem.1 h
  have:xs.any p=true:=by rw[List.any_eq_true];exact⟨xs[i],List.getElem_mem h1,h2⟩
  rw[this];simp
theorem aed {T:Type}(p:T→Bool)(xs:List T):decide (em p xs<0)= !xs.any p:=by
 rw[←mc]
 by_cases h:0≤em p xs
 ·rw[decide_eq_true h,decide_eq_false (by omega)];rfl
 ·rw[decide_eq_false h,decide_eq_true (by omega)];rfl
theorem Et {T:Type}(p:T→Bool)(xs:List T)(j:Nat)(x:T)(hx:xs[j]? =some x)(hp:p x=true):(em p xs != (j:Int))=(xs.take j).any p:=by
 obtain⟨hj,rfl⟩:=List.getElem?_eq_some_iff.1 hx
 unfold em
 cases h:xs.findIdx? p with
 |none=>
  rw[List.findIdx?_eq_none_iff]at h
  have:=h _ (List.getElem_mem hj)
  rw[hp]at this;cases this
 |some i=>
  obtain⟨h1,h2,h3⟩:=List.findIdx?_eq_some_iff_getElem.1 h
  simp only[]
  rw[Bool.eq_iff_iff]
  simp only[bne_iff_ne,ne_eq,List.any_eq_true]
  constructor
  ·intro hne
   have hij:i<j:=by
    rcases Nat.lt_or_ge i j with h4|h4
    ·exact h4
    ·have h5:j<i:=by omega
     have:=h3 j h5
     simp[hp]at this
   refine⟨xs[i], ?_,h2⟩
   rw[List.mem_take_iff_getElem]
   exact⟨i,by omega,rfl⟩
  ·rintro⟨y,hy,hpy⟩ he
   rw[List.mem_take_iff_getElem]at hy
   obtain⟨k,hk,rfl⟩:=hy
   have:k<i:=by omega
   have:=h3 k this
   simp[hpy]at this
def jf (t y:Tupl):Bool:=(y.ip==t.ip)&&((y.port==t.port)&&((y.my==t.my)&&true))
theorem ss (t:Tupl):jf t t=true:=by simp[jf]
theorem sW (xs:List Half)(t:Tupl):ju.f (xs,t,())=em (λh=>jf t h.tuple) xs:=by
 simp only[PX,ju,mf]
 rw[jO (λh:Half=>jf t h.tuple) xs (λj x a h=>by
  simp only[PX,x6,ah,getD_some h,jf])]
 unfold em
 cases xs.findIdx? (λh=>jf t h.tuple)<;>rfl
theorem iI (xs:List Half)(t:Tupl):aX.f (xs,t,())=em (λh=>jf t h.tuple) xs:=by
 simp only[PX,aX,eP,br]
 rw[jO (λh:Half=>jf t h.tuple) xs (λj x a h=>by
  simp only[PX,fY,wA,ah,getD_some h,jf])]
 unfold em
 cases xs.findIdx? (λh=>jf t h.tuple)<;>rfl
theorem wR (xs:List Half)(t:Tupl):ju.f (xs,t,())=aX.f (xs,t,()):=by rw[sW,iI]
theorem K3 (x:Tabl)(t:Tupl):dC.f (x,t,())=em (λh=>jf t h.tuple) x.conns:=by
 simp only[PX,dC,mg]
 rw[jO (λh:Conn=>jf t h.tuple) x.conns (λj x a h=>by
  simp only[PX,xG,ah,getD_some h,jf])]
 unfold em
 cases x.conns.findIdx? (λh=>jf t h.tuple)<;>rfl
theorem f8 (x:Tabl)(t:Tupl):ar.f (x,t,())=em (λh=>jf t h.tuple) x.conns:=by
 simp only[PX,ar,eI,bu]
 rw[jO (λh:Conn=>jf t h.tuple) x.conns (λj x a h=>by
  simp only[PX,fT,wH,ah,getD_some h,jf])]
 unfold em
 cases x.conns.findIdx? (λh=>jf t h.tuple)<;>rfl
theorem gM (x:Tabl)(t:Tupl):dC.f (x,t,())=ar.f (x,t,()):=by rw[K3,f8]
theorem oE (x:Recv):gN.f (x,())=bB.f (x,()):=by
 simp only[PX,gN,bB,acj]
theorem Ur (x:Recv)(h:(x.data.length:Int)≤32):bB.f (x,())≤32:=by
 simp only[PX,bB]
 cases x.done with
 |true=>simp only[cond_true];omega
 |false=>
  simp only[cond_false]
  rw[am (by omega) (by omega)]
  split<;>omega
theorem pi (x:Sndr):fh.f (x,())=bi.f (x,()):=by
 simp only[PX,fh,bi,dj,bF,av]
def d8 (L:Int):Int→List Piec→Option Int
 |a,[]=>some a
 |a,p::r=>bif (p.text==[])||decide (p.off≤a)||decide (L<p.off+(p.text.length:Int))then none else d8 L (p.off+(p.text.length:Int)) r
theorem Mx (L:Int):∀(r:List Piec) (a b:Int),d8 L a r=some b→a≤b∧(a≤L→b≤L)
 |[],a,b,h=>by cases h;exact⟨Int.le_refl _,λh=>h⟩
 |p::r,a,b,h=>by
  simp only[d8]at h
  cases hc:((p.text==[])||decide (p.off≤a)||decide (L<p.off+(p.text.length:Int)))with
  |true=>rw[hc]at h;cases h
  |false=>
   rw[hc]at h
   simp only[Bool.or_eq_false_iff,decide_eq_false_iff_not]at hc
   have:=Mx L r _ b h
   omega
theorem Fk (L M:Int)(hLM:L≤M):∀(r:List Piec) (a:Int),a≤L→d8 L a r=(match d8 M a r with|some b=>bif decide (b≤L)then some b else none|none=>none)
 |[],a,h=>by simp only[d8,decide_eq_true h,cond_true]
 |p::r,a,h=>by
  simp only[d8]
  cases h1:((p.text==[])||decide (p.off≤a))with
  |true=>simp only[Bool.true_or,cond_true]
  |false=>
   simp only[Bool.false_or]
   by_cases h2:L<p.off+(p.text.length:Int)
   ·rw[decide_eq_true h2]
    simp only[cond_true]
    by_cases h3:M<p.off+(p.text.length:Int)
    ·rw[decide_eq_true h3];rfl
    ·rw[decide_eq_false h3]
     simp only[cond_false]
     cases hw:d8 M (p.off+(p.text.length:Int)) r with
     |none=>rfl
     |some b=>
      have:=(Mx M r _ b hw).1
      simp only[]
      rw[decide_eq_false (by omega)]
      rfl
   ·rw[decide_eq_false h2,decide_eq_false (show¬M<p.off+(p.text.length:Int) by omega)]
    simp only[cond_false]
    exact Fk L M hLM r _ (by omega)
def bf (xs:List Piec):Prop:=∀y∈xs,y.text.length≤4611686018427387904
theorem bf.getD {xs:List Piec}(h:bf xs)(i:Nat):(xs.getD i (Ty.zero .piec)).text.length≤4611686018427387904:=U2 (p:=λy:Piec=>y.text.length≤4611686018427387904) (by decide+kernel) h i
theorem TS {s:aa}(h:(s==[])=false):0<s.length:=by
 cases s with
 |nil=>cases h
 |cons=>simp
theorem CA {W:Type}{F:Nat→Piec→Int→Stp Int W}{L:Int}{w:W}:∀(r:List Piec) (j:Nat) (a:Int),0≤a→a≤32→L≤32→(∀p∈r,∀j a,0≤a→a≤32→(∃w,(p.text==[]||decide (p.off≤a)||decide (L<p.off+(p.text.length:Int)))=true∧F j p a= .out w)∨((p.text==[]||decide (p.off≤a)||decide (L<p.off+(p.text.length:Int)))=false∧F j p a= .next (p.off+(p.text.length:Int))))→
  (match d8 L a r with|some b=>dF F j r a= .next b|none=>∃w,dF F j r a= .out w)
 |[],j,a,_,_,_,_=>rfl
 |p::r,j,a,h0,h1,hL,hF=>by
  rcases hF p List.mem_cons_self j a h0 h1 with⟨w,hc,hf⟩|⟨hc,hf⟩
  ·simp only[d8,hc,cond_true,dF,hf,Stp.elim]
   exact⟨w,rfl⟩
  ·simp only[d8,hc,cond_false,dF,hf,Stp.elim]
   simp only[Bool.or_eq_false_iff,decide_eq_false_iff_not]at hc
   exact CA (w:=w) r (j+1) _ (by omega) (by omega) hL λq hq=>hF q (List.mem_cons_of_mem _ hq)
theorem afg (x:Recv)(L:Int)(hL:L≤32)(hs:bf x.held):match d8 L 0 x.held with|some b=>aP (λj a=>(fb L x j a).nice) 1 (Int.toNat ((x.held.length:Int)-0)) 0 0= .next b|none=>∃w,aP (λj a=>(fb L x j a).nice) 1 (Int.toNat ((x.held.length:Int)-0)) 0 0= .out w:=by
 rw[aL,ci x.held _ rfl (F:=λj p a=>(fb L {x with held:=[p]} 0 a).nice) (by
  intro j p a h
  simp only[PX,fb,ah,getD_some h]
  rfl)]
 refine CA (w:=(0:Int)) _ _ _ (by omega) (by omega) hL λp hp j a h0 h1=> ?_
 have hl:=hs p hp
 simp only[PX,fb,show Int.toNat 0=0 from rfl,List.getD_cons_zero]
 cases h2:(p.text==[])with
 |true=>exact .inl ⟨_,rfl,rfl⟩
 |false=>
  have hp:=TS h2
  cases h3:decide (p.off≤a)with
  |true=>exact .inl ⟨_,rfl,rfl⟩
  |false=>
   simp only[decide_eq_false_iff_not]at h3
   simp only[cond_false,Bool.false_or]
   by_cases h4:L<p.off
   ·refine .inl ⟨a,decide_eq_true (by omega), ?_⟩
    rw[decide_eq_true h4];rfl
   ·rw[decide_eq_false h4,am (by omega) (by omega)]
    simp only[cond_false]
    by_cases h5:L<p.off+(p.text.length:Int)
    ·rw[decide_eq_true h5];exact .inl ⟨_,rfl,rfl⟩
    ·rw[decide_eq_false h5];exact .inr ⟨rfl,rfl⟩
theorem Xk (x:Recv)(L:Int)(hL0: -9223372036854775808≤L-4611686018427387904)(hL:L≤32)(hs:bf x.held):match d8 L 0 x.held with|some b=>aP (λj a=>(dZ L x.held j a).nice) 1 (Int.toNat ((x.held.length:Int)-0)) 0 0= .next b|none=>∃w,aP (λj a=>(dZ L x.held j a).nice) 1 (Int.toNat ((x.held.length:Int)-0)) 0 0= .out w:=by
 rw[aL,ci x.held _ rfl (F:=λj p a=>(dZ L [p] 0 a).nice) (by
  intro j p a h
  simp only[PX,dZ,ah,getD_some h]
  rfl)]
 refine CA (w:=()) _ _ _ (by omega) (by omega) hL λp hp j a h0 h1=> ?_
 have hl:=hs p hp
 simp only[PX,dZ,show Int.toNat 0=0 from rfl,List.getD_cons_zero]
 cases h2:(p.text==[])with
 |true=>exact .inl ⟨_,rfl,rfl⟩
 |false=>
  have hp:=TS h2
  cases h3:decide (p.off≤a)with
  |true=>exact .inl ⟨_,rfl,rfl⟩
  |false=>
   simp only[decide_eq_false_iff_not]at h3
   simp only[cond_false,Bool.false_or]
   rw[am (m:=L-(p.text.length:Int)) (by omega) (by omega)]
   by_cases h5:L<p.off+(p.text.length:Int)
   ·rw[decide_eq_true h5,decide_eq_true (by omega)];exact .inl ⟨_,rfl,rfl⟩
   ·rw[decide_eq_false h5,decide_eq_false (by omega),am (by omega) (by omega)];exact .inr ⟨rfl,rfl⟩
theorem wQ (x:Recv)(hs:bf x.held):ll.f (x,())=bp.f (x,()):=by
 simp only[PX,ll,bp,gp,fa,dj,bF,oE]
 cases ae.f (x.next,32,())with
 |false=>rfl
 |true=>
  by_cases hd:32<(x.data.length:Int)
  ·rw[decide_eq_true hd];rfl
  ·rw[decide_eq_false hd]
   have hw:=Ur x (by omega)
   simp only[Bool.not_true,cond_false]
   cases decide (3<(x.held.length:Int))with
   |true=>rfl
   |false=>
    simp only[cond_false]
    rw[av]
    by_cases hf: -1≤x.fin∧x.fin≤bB.f (x,())
    ·rw[decide_eq_true hf.1,decide_eq_true hf.2]
     simp only[Bool.and_self,Bool.not_true,cond_false]
     cases h0:(x.fin==0)with
     |true=>rfl
     |false=>
      simp only[cond_false]
      have h0:x.fin≠0:=by simpa using h0
      have k1:=afg x (bB.f (x,())) hw hs
      by_cases h1:x.fin= -1
      ·have k2:=Xk x (bB.f (x,())) (by omega) hw hs
       rw[show(x.fin != -1)=false by simp[h1],show decide (x.fin<0)=true from decide_eq_true (by omega)]
       simp only[cond_true,cond_false]
       cases hp:d8 (bB.f (x,())) 0 x.held with
       |some b=>rw[hp]at k1 k2;simp only[]at k1 k2;rw[k1,k2];rfl
       |none=>rw[hp]at k1 k2;obtain⟨w1,k1⟩:=k1;obtain⟨w2,k2⟩:=k2;rw[k1,k2];rfl
      ·have k2:=Xk x x.fin (by omega) (by omega) hs
       rw[show(x.fin != -1)=true by simp[h1],show decide (x.fin<0)=false from decide_eq_false (by omega)]
       simp only[cond_true,cond_false]
       rw[Fk x.fin (bB.f (x,())) (by omega) x.held 0 (by omega)]at k2
       cases hp:d8 (bB.f (x,())) 0 x.held with
       |none=>rw[hp]at k1 k2;obtain⟨w1,k1⟩:=k1;obtain⟨w2,k2⟩:=k2;rw[k1,k2];rfl
       |some b=>
        rw[hp]at k1 k2
        simp only[]at k1 k2
        rw[k1]
        by_cases hb:b≤x.fin
        ·rw[decide_eq_true hb]at k2
         simp only[cond_true]at k2
         rw[k2];simp only[Stp.elim,decide_eq_true hb,cond_true]
        ·rw[decide_eq_false hb]at k2
         obtain⟨w2,k2⟩:=k2
         rw[k2];simp only[Stp.elim,decide_eq_false hb,cond_false]
    ·have:(decide (-1≤x.fin)&&decide (x.fin≤bB.f (x,())))=false:=by
      rw[Bool.and_eq_false_iff];simp only[decide_eq_false_iff_not];omega
     rw[this];rfl
theorem lH (x:Conn)(hs:bf x.r.held):ic.f (x,())=aN.f (x,()):=by
 simp only[PX,ic,aN,J0,rG,pi,wQ x.r hs,iY,bF,av]
 cases aG.f (x.tuple,())with
 |false=>rfl
 |true=>
 cases bi.f (x.s,())with
 |false=>rfl
 |true=>
 cases bp.f (x.r,())with
 |false=>rfl
 |true=>
 cases aM.f (x.opts,())with
 |false=>rfl
 |true=>
 simp only[Bool.not_true,cond_false]
 have hm:(bif !(decide (0≤x.window)&&decide (x.window≤x.most))then true else decide (1073725440<x.most))=(bif !(decide (0≤x.most)&&decide (x.most≤1073725440))then true else !(decide (0≤x.window)&&decide (x.window≤x.most))):=by
  rw[Bool.eq_iff_iff]
  by_cases h1:0≤x.window<;>by_cases h2:x.window≤x.most<;>by_cases h3:1073725440<x.most<;>by_cases h4:0≤x.most<;>by_cases h5:x.most≤1073725440<;>simp[h1,h2,h3,h4,h5]<;>omega
 have ej:∀b:Bool,(bif b then(false,(4:Int),x,())else(false,3,x,()))=(false,(bif b then 4 else 3),x,()):=λb=>by cases b<;>rfl
 have et:∀b:Bool,decide (x.timer≤bif b then 4 else 3)=bif b then decide (x.timer≤4)else decide (x.timer≤3):=λb=>by cases b<;>rfl
 simp only[ej,et]
 revert hm
 generalize(decide (0≤x.window)&&decide (x.window≤x.most))=W
 generalize decide (1073725440<x.most)=M
 generalize(decide (0≤x.most)&&decide (x.most≤1073725440))=N
 generalize(decide (0≤x.tries)&&decide (x.tries≤3))=T
 generalize decide (0≤x.timer)=T0
 generalize decide (x.timer≤4)=T4
 generalize decide (x.timer≤3)=T3
 generalize x.s.fin=sf
 generalize x.s.done=sd
 generalize x.r.done=rd
 generalize x.state=k
 have hk:k=1∨k=2∨k=3∨k=4∨k=5∨k=6∨k=7∨k=8∨(decide (1≤k)&&decide (k≤8))=false:=by
  simp only[Bool.and_eq_false_iff,decide_eq_false_iff_not];omega
 rcases hk with rfl|rfl|rfl|rfl|rfl|rfl|rfl|rfl|hk
 iterate 8 (revert W M N T T0 T4 T3 sf sd rd;decide+kernel)
 intro _;simp only[hk];rfl
theorem YF (x:Limi):wG.f (x,())=fo.f (x,()):=by
 simp only[PX,wG,fo,bF,av]
theorem AJ {T V W:Type}(xs:List T){f:Int→Unit→Stp Unit V}{g:Int→Unit→Stp Unit W}{k:Nat}(hk:k=xs.length)(h:∀(j:Nat) x,xs[j]? =some x→(∃v w,f j ()= .out v∧g j ()= .out w)∨(f j ()= .next ()∧g j ()= .next ())):
  (∃v w,aP f 1 k 0 ()= .out v∧aP g 1 k 0 ()= .out w)∨(aP f 1 k 0 ()= .next ()∧aP g 1 k 0 ()= .next ()):=by
 subst hk
 have:∀(n i:Nat),i+n=xs.length→(∃v w,aP f 1 n (i:Int) ()= .out v∧aP g 1 n (i:Int) ()= .out w)∨(aP f 1 n (i:Int) ()= .next ()∧aP g 1 n (i:Int) ()= .next ()):=by
  intro n
  induction n with
  |zero=>intro i _;exact .inr ⟨rfl,rfl⟩
  |succ n ih=>
   intro i hi
   rcases h i xs[i] (List.getElem?_eq_getElem (by omega))with⟨v,w,h1,h2⟩|⟨h1,h2⟩
   ·exact .inl ⟨v,w,by simp only[aP,h1,Stp.elim],by simp only[aP,h2,Stp.elim]⟩
   ·simp only[aP,h1,h2,Stp.elim]
    have:=ih (i+1) (by omega)
    rwa [show((i+1:Nat):Int)=(i:Int)+1 by omega]at this
 exact this xs.length 0 (by omega)
theorem vY (xs:List Tupl)(t:Tupl):o9.f (xs,t,())=xs.any (jf t):=by
 simp only[PX,o9,lZ]
 rw[aL,ci xs _ rfl (F:=λj y a=>bif jf t y then .out ()else .next ()) (by
  intro j y a h
  simp only[PX,x8,ah,getD_some h,jf])]
 rw[ke (p:=jf t) (w:=λ_ _=>())]
 cases h:xs.findIdx? (jf t)with
 |none=>
  rw[List.findIdx?_eq_none_iff]at h
  simp only[Stp.elim]
  symm
  rw[List.any_eq_false]
  intro x hx;simp[h x hx]
 |some i=>
  obtain⟨h1,h2,_⟩:=List.findIdx?_eq_some_iff_getElem.1 h
  simp only[List.getElem?_eq_getElem h1,Stp.elim]
  symm
  rw[List.any_eq_true];exact⟨xs[i],List.getElem_mem h1,h2⟩
theorem qB (xs:List Tupl)(t:Tupl):lz.f (xs,t,())=em (jf t) xs:=by
 have e:∀a b:Int,(a==b)=(b==a):=λa b=>by rw[Bool.eq_iff_iff];simp only[beq_iff_eq];exact eq_comm
 simp only[PX,lz,jr]
 rw[jO (jf t) xs (λj x a h=>by
  simp only[PX,tv,ah,getD_some h,jf,e t.ip,e t.port,e t.my])]
 unfold em
 cases xs.findIdx? (jf t)<;>rfl
theorem mC {T:Type}{xs:List T}{j:Nat}{x:T}(h:xs[j]? =some x):x∈xs:=List.mem_of_getElem? h
theorem PB (x:Tabl)(l:Limi)(hs:∀y∈x.conns,bf y.r.held):uX.f (x,l,())=dK.f (x,l,()):=by
 simp only[PX,uX,dK,iC,fQ,il,f7,YF]
 have h1:=AJ x.conns (f:=λj a=>(sH x j a).nice) (g:=λj a=>(eJ x.conns x j a).nice) (k:=Int.toNat ((x.conns.length:Int)-0)) (aL _) (λj y hy=>by
  simp only[PX,sH,eJ,ah,getD_some hy,lH y (hs y (mC hy)),gM]
  cases aN.f (y,())with
  |false=>exact .inl ⟨_,_,rfl,rfl⟩
  |true=>cases(ar.f (x,y.tuple,()) != (j:Int))with
   |true=>exact .inl ⟨_,_,rfl,rfl⟩
   |false=>exact .inr ⟨rfl,rfl⟩)
 have h2:=AJ x.waiting (f:=λj a=>(tc x j a).nice) (g:=λj a=>(eM x.waiting x j a).nice) (k:=Int.toNat ((x.waiting.length:Int)-0)) (aL _) (λj y hy=>by
  simp only[PX,tc,eM,ah,getD_some hy,vY,qB,gM,List.drop_zero]
  rw[Et (jf y) x.waiting j y hy (ss y)]
  cases(x.waiting.take j).any (jf y)<;>cases decide (ar.f (x,y,())<0)<;>first|exact .inl ⟨_,_,rfl,rfl⟩|exact .inr ⟨rfl,rfl⟩)
 rcases h1 with⟨v,w,h3,h4⟩|⟨h3,h4⟩
 ·rw[h3,h4]
  cases(fo.f (l,()))<;>cases decide (l.conns<(x.conns.length:Int))<;>cases decide (l.waiting<(x.waiting.length:Int))<;>rfl
 ·rw[h3,h4]
  rcases h2 with⟨v,w,h5,h6⟩|⟨h5,h6⟩
  ·rw[h5,h6]
   all_goals (cases(fo.f (l,()))<;>cases decide (l.conns<(x.conns.length:Int))<;>cases decide (l.waiting<(x.waiting.length:Int))<;>rfl)
  ·rw[h5,h6]
   all_goals (cases(fo.f (l,()))<;>cases decide (l.conns<(x.conns.length:Int))<;>cases decide (l.waiting<(x.waiting.length:Int))<;>rfl)
theorem CE (xs:List Half):pr.f (xs,())=ff.f (xs,()):=by
 simp only[PX,pr,ff,jB,lW]
 have h1:=AJ xs (f:=λj a=>(fp xs j a).nice) (g:=λj a=>(qv xs xs j a).nice) (k:=Int.toNat ((xs.length:Int)-0)) (aL _) (λj y hy=>by
  simp only[PX,fp,qv,ah,getD_some hy,rG,dj,iY,bF,av,sW,iI,List.drop_zero,mc]
  rw[Et (λh:Half=>jf y.tuple h.tuple) xs j y hy (ss _)]
  cases aG.f (y.tuple,())with
  |false=>exact .inl ⟨_,_,rfl,rfl⟩
  |true=>
  cases ae.f (y.iss,32,())with
  |false=>exact .inl ⟨_,_,rfl,rfl⟩
  |true=>
  cases ae.f (y.irs,32,())with
  |false=>exact .inl ⟨_,_,rfl,rfl⟩
  |true=>
  cases ae.f (y.window,16,())with
  |false=>exact .inl ⟨_,_,rfl,rfl⟩
  |true=>
  cases aM.f (y.opts,())with
  |false=>exact .inl ⟨_,_,rfl,rfl⟩
  |true=>
  cases(decide (0≤y.age)&&decide (y.age≤6))with
  |false=>exact .inl ⟨_,_,rfl,rfl⟩
  |true=>
  cases(xs.take j).any (λh=>jf y.tuple h.tuple)with
  |true=>exact .inl ⟨_,_,rfl,rfl⟩
  |false=>exact .inr ⟨rfl,rfl⟩)
 rcases h1 with⟨v,w,h3,h4⟩|⟨h3,h4⟩<;>rw[h3,h4]<;>by_cases h:64<(xs.length:Int)
 ·rw[decide_eq_true h];rfl
 ·rw[decide_eq_false h];rfl
 ·rw[decide_eq_true h];simp only[Stp.elim,cond_true];exact decide_eq_false (by omega)
 ·rw[decide_eq_false h];simp only[Stp.elim,cond_false];exact decide_eq_true (by omega)
theorem MB (d:Door)(xs:List Half):de.f (xs,d,())=xs.any (λh=>decide (0≤ar.f (d.table,h.tuple,()))):=by
 simp only[PX,de,fy,bD]
 rw[jO (λh:Half=>decide (0≤ar.f (d.table,h.tuple,()))) xs (λj y a h=>by
  simp only[PX,gl,BR,ah,getD_some h])]
 rw[←mc]
 unfold em
 cases xs.findIdx? (λh=>decide (0≤ar.f (d.table,h.tuple,())))<;>rfl
theorem Z7 {T:Type}(p:T→Bool)(xs:List T)(j:Nat):dF (W:=Unit) (λ_ y (_:Unit)=>bif p y then .out ()else .next ()) j xs ()=bif xs.any p then .out ()else .next ():=by
 rw[ke (w:=λ_ _=>())]
 cases h:xs.findIdx? p with
 |none=>
  rw[List.findIdx?_eq_none_iff]at h
  have:xs.any p=false:=by
   rw[List.any_eq_false]
   intro y hy;simp[h y hy]
  rw[this];rfl
 |some i=>
  obtain⟨h1,h2,_⟩:=List.findIdx?_eq_some_iff_getElem.1 h
  have:xs.any p=true:=by rw[List.any_eq_true];exact⟨xs[i],List.getElem_mem h1,h2⟩
  rw[this];simp only[List.getElem?_eq_getElem h1];rfl
theorem EL (x:Door)(hs:∀y∈x.table.conns,bf y.r.held):r7.f (x,())=bO.f (x,()):=by
 simp only[PX,r7,bO,pO,dj,MD,PB x.table x.limits hs,CE,bF,av,MB]
 rw[aL,ci x.halves _ rfl (F:=λj y a=>bif decide (0≤ar.f (x.table,y.tuple,()))then .out ()else .next ()) (by
  intro j y a h
  simp only[PX,Bq,ah,getD_some h,gM])]
 rw[Z7 (λy:Half=>decide (0≤ar.f (x.table,y.tuple,())))]
 cases x.halves.any (λy=>decide (0≤ar.f (x.table,y.tuple,())))<;>rfl
theorem Ck:∀(r:List Conn) (j:Nat) (c:List Conn) (w:List Tupl),dF (W:=Empty) (λ_ x (a:Tabl×Tabl)=> .next ((⟨[],[]⟩:Tabl),(⟨a.2.conns++[x],a.2.waiting⟩:Tabl))) j r (⟨[],[]⟩,⟨c,w⟩)= .next (⟨[],[]⟩,⟨c++r,w⟩)
 |[],_,c,w=>by simp only[dF,List.append_nil]
 |x::r,j,c,w=>by
  simp only[dF,Stp.elim]
  rw[Ck r]
  simp
theorem rP (x:Recv):d7.f (x,())=x:=by simp only[PX,d7,List.nil_append]
theorem qu (x:Recv):gg.f (x,())=x:=by simp only[PX,gg,pB]
theorem fG (x:Conn):dH.f (x,())=x:=by simp only[PX,dH,rP]
theorem ce (x:Conn):cc.f (x,())=x:=by simp only[PX,cc,qu]
theorem Qr (x:Keys):vr.f (x,())=x:=by simp only[PX,vr,Fw]
theorem yC (x:Keys):qe.f (x,())=x:=by simp only[PX,qe,vV]
theorem AA (x:Tabl):mJ.f (x,())=x:=by
 simp only[PX,mJ,kM,List.nil_append]
 rw[aL,ci x.conns _ rfl (F:=λ_ y (a:Tabl×Tabl)=> .next ((⟨[],[]⟩:Tabl),(⟨a.2.conns++[y],a.2.waiting⟩:Tabl))) (by
  intro j y a h
  simp only[PX,yv,ah,getD_some h,fG]),Ck]
 simp only[Stp.elim,PX,List.nil_append]
theorem ja (x:Tabl):fC.f (x,())=x:=by
 simp only[PX,fC,gq,pJ]
 rw[aL,ci x.conns _ rfl (F:=λ_ y (a:Tabl×Tabl)=> .next ((⟨[],[]⟩:Tabl),(⟨a.2.conns++[y],a.2.waiting⟩:Tabl))) (by
  intro j y a h
  simp only[PX,ur,ah,getD_some h,ce]),Ck]
 simp only[Stp.elim,PX,List.nil_append]
theorem kZ (x:Door):d6.f (x,())=x:=by simp only[PX,d6,Qr,AA,List.nil_append]
theorem kt (x:Door):gt.f (x,())=x:=by simp only[PX,gt,yC,ja,eA]
theorem abu (k:Keys)(m:Mac):Ak.f (k,m,())=oK.f (k,m,()):=by
 simp only[PX,Ak,oK,Qr,yC,Fw,vV,MD,Sw]
theorem TX (d:Door)(m:Mac):uq.f (d,m,())=kg.f (d,m,()):=by
 simp only[PX,uq,kg,kZ,kt,abu]
theorem lf {W:Type}{f:Int→Unit→Stp Unit W}:∀(k:Nat) (i:Int),(∀j,f j ()= .next ())→aP f 1 k i ()= .next ()
 |0,_,_=>rfl
 |k+1,i,h=>by simp only[aP,h,Stp.elim];exact lf k _ h
theorem Db (m:Mac):jS.f (m,m,())=true:=by
 simp only[PX,jS,kA]
 rw[lf _ _ λj=>by simp only[PX,r9,beq_self_eq_true,Bool.and_self,Bool.not_true,cond_false]]
 simp[PX,Stp.elim]
theorem ES (m:Recv):nT.f (m,m,())=true:=by
 simp only[PX,nT,gZ]
 rw[lf _ _ λj=>by simp only[PX,qE,beq_self_eq_true,Bool.and_self,Bool.not_true,cond_false]]
 simp[PX,Stp.elim]
theorem NR (m:Conn):wV.f (m,m,())=true:=by
 simp only[PX,wV,ES,beq_self_eq_true,Bool.and_self,cond_true]
theorem IV (m:List Half):qY.f (m,m,())=true:=by
 simp only[PX,qY,j5]
 rw[lf _ _ λj=>by simp only[PX,ue,beq_self_eq_true,Bool.and_self,Bool.not_true,cond_false]]
 simp[PX,Stp.elim]
theorem Ka (m:Tabl):um.f (m,m,())=true:=by
 simp only[PX,um,fH,fJ]
 rw[lf (f:=λj a=>(oX m m j a).nice) _ _ λj=>by simp only[PX,oX,NR,Bool.not_true,cond_false]]
 simp only[Stp.elim,PX]
 rw[lf (f:=λj a=>(pg m m j a).nice) _ _ λj=>by simp only[PX,pg,beq_self_eq_true,Bool.and_self,Bool.not_true,cond_false]]
 simp[PX,Stp.elim]
theorem OE (m:Keys):wt.f (m,m,())=true:=by
 simp only[PX,wt,Db,beq_self_eq_true,cond_true]
theorem OU (m:Door):wD.f (m,m,())=true:=by
 simp only[PX,wD,OE,IV,Ka,beq_self_eq_true,Bool.and_self,cond_true]
theorem Yu (k:Keys)(m:Mac)(hk:eg.f (k,())=true):eg.f (oK.f (k,m,()),())=true:=by
 simp only[PX,oK,hk,yC,vV,Bool.not_true,cond_false]
 cases hm:jX.f (m,())with
 |false=>exact hk
 |true=>
  simp only[Bool.not_true,cond_false]
  cases he:(k.epoch==4294967295)with
  |true=>exact hk
  |false=>
   have h1:=wF k hk
   have h2:k.epoch≠4294967295:=by simpa using he
   have h3:jX.f (k.now,())=true:=by
    simp only[PX,eg,av]at hk
    revert hk
    cases k.two<;>simp only[PX,cond_true,cond_false]<;>cases jX.f (k.now,())<;>simp
   simp only[cond_false]
   simp only[PX,eg,av,cond_true,hm,h3]
   rw[am (by omega) (by omega),decide_eq_true (show 1≤k.epoch+1 by omega),decide_eq_true (show k.epoch+1≤4294967295 by omega)]
   rfl
theorem N2 (m:Mac):fK.f (m,m,())=true:=by rw[←Fs];exact Db m
theorem NI (o:Opti):pL.f (o,())=jG.f (o,()):=by
 simp only[PX,pL,jG,bU,bQ]
theorem aah (xs:List Half)(h:Half)(n:Int):vG.f (xs,h,n,())=oS.f (xs,h,n,()):=by
 simp only[PX,vG,oS,eA,CE,List.nil_append]
def fA (d:Door):Prop:=∀y∈d.table.conns,bf y.r.held
theorem aaJ {d:Door}(hd:aC d):fA d:=by
 intro y hy p hp
 have h1:ac y:=hd.2.2.2.2.2.2.1 y hy
 have h2:j8 p:=h1.2.2.2 p hp
 simp only[j8]at h2
 omega
theorem Ky (d:Door)(t:Tupl)(g:Segm)(hs:fA d):tD.f (d,t,g,())=(bO.f (d,())&&(aG.f (t,())&&ak.f (g,()))):=by
 simp only[PX,tD,EL d hs,rG,qn]
 cases bO.f (d,())<;>cases aG.f (t,())<;>rfl
theorem Qi (d:Door)(t:Tupl)(g:Segm):lP.f (d,t,g,())=
  bif (bO.f (d,())&&(aG.f (t,())&&ak.f (g,())))then
   bif decide (0≤aX.f (d.halves,t,()))then
    bif ((d.halves.getD (aX.f (d.halves,t,())).toNat (Ty.zero .half)).irs != g.seq)then(d,[])else(d,[({eS.f (d,t,g,())with seq:=(d.halves.getD (aX.f (d.halves,t,())).toNat (Ty.zero .half)).iss}:Segm)])
   else bif decide (ar.f (d.table,t,())<0)then
    ({d with halves:=(oS.f (d.halves,(⟨t,(eS.f (d,t,g,())).seq,g.seq,jG.f (g.opts,()),0,g.window⟩:Half),d.limits.halves,())).1},[eS.f (d,t,g,())])
   else(d,[eS.f (d,t,g,())])
  else(d,[]):=by
 simp only[PX,lP,kt]
 cases bO.f (d,())<;>cases aG.f (t,())<;>cases ak.f (g,())<;>rfl
theorem adT (d:Door)(t:Tupl)(g:Segm)(hs:fA d):DE.f (d,t,g,())=lP.f (d,t,g,()):=by
 rw[Qi]
 simp only[PX,DE,kZ,Ky d t g hs,ado,wR,gM,NI,aah]
 cases(bO.f (d,())&&(aG.f (t,())&&ak.f (g,())))<;>rfl
theorem AK {W:Type}{f:Int→Unit→Stp Unit W}:∀(k i:Nat),aP f 1 k (i:Int) ()= .next ()↔∀j:Nat,i≤j→j<i+k→f (j:Int) ()= .next ()
 |0,i=>⟨λ_ j h1 h2=>by omega,λ_=>rfl⟩
 |k+1,i=>by
  constructor
  ·intro h j h1 h2
   simp only[aP]at h
   cases hf:f (i:Int) ()with
   |out w=>rw[hf]at h;cases h
   |next a=>
    rw[hf]at h
    simp only[Stp.elim]at h
    rcases Nat.eq_or_lt_of_le h1 with h3|h3
    ·rw[←h3];exact hf
    ·rw[show(i:Int)+1=((i+1:Nat):Int) by omega]at h
     exact(AK k (i+1)).1 h j h3 (by omega)
  ·intro h
   simp only[aP,h i (Nat.le_refl _) (by omega),Stp.elim]
   rw[show(i:Int)+1=((i+1:Nat):Int) by omega]
   exact(AK k (i+1)).2 λj h1 h2=>h j (by omega) (by omega)
def uI (h:Half):Bool:=aG.f (h.tuple,())&&(ae.f (h.iss,32,())&&(ae.f (h.irs,32,())&&(ae.f (h.window,16,())&&(aM.f (h.opts,())&&(decide (0≤h.age)&&decide (h.age≤6))))))
theorem KS (xs:List Half)(j:Nat)(y:Half)(hy:xs[j]? =some y):((fp xs (j:Int) ()).nice= .next ())↔(uI y=true∧(xs.take j).any (λh=>jf y.tuple h.tuple)=false):=by
 simp only[PX,fp,ah,getD_some hy,rG,dj,iY,bF,sW,List.drop_zero,mc,uI]
 cases aG.f (y.tuple,())<;>cases ae.f (y.iss,32,())<;>cases ae.f (y.irs,32,())<;>cases ae.f (y.window,16,())<;>cases aM.f (y.opts,())<;>cases(decide (0≤y.age)&&decide (y.age≤6))<;>cases(xs.take j).any (λh=>jf y.tuple h.tuple)<;>simp
theorem QN (xs:List Half):ff.f (xs,())=true↔(∀(j:Nat) (y:Half),xs[j]? =some y→uI y=true∧(xs.take j).any (λh=>jf y.tuple h.tuple)=false)∧xs.length≤64:=by
 rw[←CE]
 have hT:aP (λj a=>(fp xs j a).nice) 1 xs.length ((0:Nat):Int) ()= .next ()↔∀(j:Nat) (y:Half),xs[j]? =some y→uI y=true∧(xs.take j).any (λh=>jf y.tuple h.tuple)=false:=by
  rw[AK]
  constructor
  ·intro h j y hy
   exact(KS xs j y hy).1 (h j (Nat.zero_le _) (by have:=(List.getElem?_eq_some_iff.1 hy).1;omega))
  ·intro h j _ h2
   exact(KS xs j xs[j] (List.getElem?_eq_getElem (by omega))).2 (h j _ (List.getElem?_eq_getElem (by omega)))
 simp only[PX,pr,jB]
 rw[aL,show(0:Int)=((0:Nat):Int) from rfl,←hT]
 cases aP (λj a=>(fp xs j a).nice) 1 xs.length ((0:Nat):Int) ()with
 |next a=>simp only[Stp.elim,PX,decide_eq_true_eq,true_and];omega
 |out w=>simp[Stp.elim,PX]
theorem W8 (d:Door)(t:Tupl)(g:Segm):0≤(eS.f (d,t,g,())).seq∧(aG.f (t,())=true→eg.f (d.keys,())=true→0≤g.seq∧g.seq≤4294967295→(eS.f (d,t,g,())).seq≤4294967295):=by
 have hseq:(eS.f (d,t,g,())).seq=o8.f (d,t,g,()):=by simp only[PX,eS]
 rw[hseq]
 simp only[PX,o8]
 generalize Ar.f (g.opts,())=mss
 refine⟨by split<;>omega,λht hk hs=> ?_⟩
 have hi:=R5 mss
 have he:=wF d.keys hk
 have hc:=V9 d.keys.now t g.seq d.keys.epoch (jd.f (mss,())) ht hs he hi
 have hr:=PP d.keys.now (fW.f (t,g.seq,d.keys.epoch,jd.f (mss,()),()))
 rw[hc];split<;>omega
theorem yF (x:Sndr):bi.f (x,())=true↔SO x:=by
 have h:=bi.c.h (x,()) trivial
 simpa using h
theorem zI (x:Sndr):gI.f (x,())=dr.f (x,()):=by simp only[PX,gI,dr]
theorem UX (x:Sndr):yU.f (x,())=ij.f (x,()):=by simp only[PX,yU,ij,zI,kx]
theorem tY (c:Conn):j7.f (c,())=bC.f (c,()):=by simp only[PX,j7,bC,UX,oE,bU,bQ]
theorem acp (c:Conn):Ef.f (c,())=dE.f (c,()):=by
 simp only[PX,Ef,dE,kG,mD]
 cases(c.opts.mss==0)with
 |true=>rfl
 |false=>
  simp only[cond_false]
  generalize(if 1460<c.opts.mss then(1460:Int)else c.opts.mss)=m
  split<;>split<;>omega
theorem aby (x:Sndr)(y:Chun):mH.f (x,y,())=dJ.f (x,y,()):=by
 simp only[PX,mH,dJ,pi]
 obtain⟨u,dt,se,fi,fs,dn⟩:=x
 cases fi with
 |true=>simp only[Bool.not_true,cond_false]
 |false=>
  cases hy:y.fin with
  |false=>simp only[cond_false]
  |true=>
   have k1:∀n:Int,bi.f ((⟨u,dt,n,false,true,dn⟩:Sndr),())=false:=by
    intro n
    cases h:bi.f ((⟨u,dt,n,false,true,dn⟩:Sndr),())with
    |false=>rfl
    |true=>
     have:=(yF _).1 h
     have h2:=this.2.2.2.2.2.1 rfl
     exact Bool.noConfusion h2.1
   simp only[k1,Bool.not_false,cond_true]
theorem aaC (x:Sndr):AD.f (x,())=jP.f (x,()):=by
 simp only[PX,AD,jP,pi]
 cases bi.f (x,())<;>rfl
theorem acE (c:Conn):C6.f (c,())=DP.f (c,()):=by simp only[PX,C6,DP]
theorem aej (c:Conn)(hs:bf c.r.held):Jq.f (c,())=n8.f (c,()):=by
 simp only[PX,Jq,n8,lH c hs,acE]
theorem Qq (x:Sndr)(h:SO x):dr.f (x,())=if x.finSent then x.sent+1 else x.sent:=by
 simp only[PX,dr]
 have h1:=h.2.2.2.1
 have h2:=h.2.2.2.2.1
 have h3:=h.2.2.1
 cases x.finSent with
 |true=>simp only[cond_true,if_true];rw[am (by omega) (by omega)]
 |false=>rfl
theorem Xn (l:aa)(S n:Int)(h0:0≤S)(h1:0≤n):(l.take (S+n).toNat).drop S.toNat=(l.drop S.toNat).take n.toNat:=by
 rw[List.drop_take];congr 1;omega
theorem Tk (x:Sndr)(w m:Int)(hw:w≤9223372036854775807):p9.f (x,w,m,())=bg.f (x,w,m,()):=by
 simp only[PX,p9,bg,pi,zI,UX,kG,mD]
 cases h:bi.f (x,())with
 |false=>rfl
 |true=>
 have hs:=(yF x).1 h
 have h1:=hs.2.2.2.1
 have h2:=hs.2.2.2.2.1
 have h3:=hs.2.2.1
 simp only[Bool.not_true,cond_false]
 have hF:x.sent≤dr.f (x,())∧dr.f (x,())≤x.sent+1:=by
  rw[Qq x hs];split<;>omega
 obtain⟨F,eF⟩:∃F,dr.f (x,())=F:=⟨_,rfl⟩
 rw[eF]at hF
 simp only[eF]
 generalize ij.f (x,())=q
 rw[ah,List.take_length,List.length_drop]
 rw[am (m:=(x.data.length:Int)-x.sent) (by omega) (by omega)]
 rw[show((x.data.length-x.sent.toNat:Nat):Int)=(x.data.length:Int)-x.sent by omega]
 obtain⟨c2,e2⟩:∃z:Int,(if w<1000000 then w else 1000000)=z:=⟨_,rfl⟩
 simp only[e2]
 obtain⟨c3,e3⟩:∃z:Int,(if c2<0 then 0 else c2)=z:=⟨_,rfl⟩
 simp only[e3]
 have b3:0≤c3∧c3≤1000000:=by grind
 rw[am (m:=c3-F) (by omega) (by omega)]
 obtain⟨c5,e5⟩:∃z:Int,(if c3-F<0 then 0 else c3-F)=z:=⟨_,rfl⟩
 simp only[e5]
 obtain⟨W,eW⟩:∃z:Int,(if w< -1 then-1 else w)=z:=⟨_,rfl⟩
 simp only[eW]
 have bW: -1≤W∧W≤9223372036854775807:=by grind
 rw[am (m:=W-F) (by omega) (by omega)]
 obtain⟨D,eD⟩:∃z:Int,(x.data.length:Int)-x.sent=z:=⟨_,rfl⟩
 simp only[eD]
 obtain⟨c6,e6⟩:∃z:Int,(if m<c5 then m else c5)=z:=⟨_,rfl⟩
 simp only[e6]
 obtain⟨c7,e7⟩:∃z:Int,(if c6<D then c6 else D)=z:=⟨_,rfl⟩
 simp only[e7]
 obtain⟨n,e8⟩:∃z:Int,(if c7<0 then 0 else c7)=z:=⟨_,rfl⟩
 simp only[e8]
 obtain⟨d3,f3⟩:∃z:Int,(if m<D then m else D)=z:=⟨_,rfl⟩
 simp only[f3]
 obtain⟨d4,f4⟩:∃z:Int,(if W-F<d3 then W-F else d3)=z:=⟨_,rfl⟩
 simp only[f4]
 have en:(if 0<d4 then d4 else 0)=n:=by grind
 rw[en]
 have bn:0≤n∧n≤D:=by grind
 have bw:decide (n<W-F)=decide (n<c5):=by
  rw[decide_eq_decide];grind
 rw[bw,am (m:=x.sent+n) (by omega) (by omega),Xn x.data x.sent n h1 bn.1,List.drop_zero]
 have el:(((x.data.drop x.sent.toNat).take n.toNat)==[])=(n==0):=by
  have hl:((x.data.drop x.sent.toNat).take n.toNat).length=n.toNat:=by rw[List.length_take,List.length_drop];omega
  generalize(x.data.drop x.sent.toNat).take n.toNat=z at*
  cases z with
  |nil=>simp only[List.length_nil]at hl;rw[show n=0 by omega];rfl
  |cons a r=>simp only[List.length_cons]at hl;rw[Bool.eq_iff_iff];simp;omega
 have ed:(x.sent+n==(x.data.length:Int))=(n==D):=by
  rw[Bool.eq_iff_iff];simp only[beq_iff_eq];omega
 rw[el,ed]
theorem Gp {A B W W':Type}[Inhabited W][Inhabited W']{f:A→Stp A W}{g:B→Stp B W'}{R:A→B→Prop}{Q:W→W'→Prop}(hd:Q default default)
  (h:∀a b,R a b→(∃a' b',f a= .next a'∧g b= .next b'∧R a' b')∨(∃w w',f a= .out w∧g b= .out w'∧Q w w')):
  ∀(m:Nat) (a:A) (b:B),R a b→Q (cm f m a) (cm g m b)
 |0,_,_,_=>hd
 |m+1,a,b,hr=>by
  rcases h a b hr with⟨a',b',e1,e2,hr'⟩|⟨w,w',e1,e2,hq⟩
  ·simp only[cm,e1,e2,Stp.elim]
   exact Gp hd h m a' b' hr'
  ·simp only[cm,e1,e2,Stp.elim]
   exact hq
def C8 (c:Conn)(l:List Segm):Conn:={c with timer:=if l=[]then c.timer else if c.timer=0 then 3 else c.timer}
theorem JN (c:Conn):C8 c []=c:=by simp[C8]
theorem ZT (c:Conn)(l:List Segm)(g:Segm)(x:Sndr):(bif ((C8 c l).timer==0)then({C8 c l with s:=x,timer:=3}:Conn)else{C8 c l with s:=x})=C8 {c with s:=x} (l++[g]):=by
 simp only[C8]
 have h1:¬(l++[g]=[]):=by simp
 rw[if_neg h1]
 by_cases hl:l=[]
 ·rw[if_pos hl]
  by_cases ht:c.timer=0
  ·rw[if_pos ht,show(c.timer==0)=true by simp[ht]];rfl
  ·rw[if_neg ht,show(c.timer==0)=false by simp[ht]];rfl
 ·rw[if_neg hl]
  by_cases ht:c.timer=0
  ·rw[if_pos ht];rfl
  ·rw[if_neg ht,show(c.timer==0)=false by simp[ht]];rfl
theorem LX (c:Conn)(w:Int)(hw:w≤9223372036854775807)(hs:bf c.r.held):nZ.f (c,w,())=cO.f (c,w,()):=by
 simp only[PX,nZ,cO,fG,ce,lH c hs,mU,kE]
 cases(bif !aN.f (c,())then(true,())else bif (c.state==8)then(true,())else((c.state==7),())).1 with
 |true=>rfl
 |false=>
 simp only[cond_false]
 have key:=Gp (f:=λa=>(tK w a).nice) (g:=λa=>(cd w a).nice) (R:=λa b=>a.1=C8 b.2.1 b.2.2∧a.2.2=b.2.2) (Q:=λp q=>p.1=C8 q.2.1 q.2.2∧p.2=q.2.2) ⟨(JN _).symm,rfl⟩ (by
  rintro⟨a1,a2,al⟩ ⟨b1,b2,bl⟩ ⟨h1,h2⟩
  simp only[]at h1 h2
  subst h1;subst h2
  have hm:dE.f (C8 b2 al,())=dE.f (b2,()):=rfl
  have ha:bC.f (C8 b2 al,())=bC.f (b2,()):=rfl
  have hx:(C8 b2 al).s=b2.s:=rfl
  simp only[PX,tK,cd,acp,Tk _ _ _ hw,tY,aby,hm,ha,hx]
  obtain⟨z,hz⟩:∃z,bg.f (b2.s,w,dE.f (b2,()),())=z:=⟨_,rfl⟩
  simp only[hz]
  obtain⟨g,hg⟩:∃g,bC.f (b2,())=g:=⟨_,rfl⟩
  simp only[hg]
  obtain⟨x,hx2⟩:∃x,dJ.f (b2.s,z.1,())=x:=⟨_,rfl⟩
  simp only[hx2]
  cases z.2 with
  |false=>exact .inr ⟨_,_,rfl,rfl,rfl,rfl⟩
  |true=>
   have hf:∀g':Segm,_:=λg'=>ZT b2 al g' x
   cases ht:((C8 b2 al).timer==0)<;>rw[ht]at hf<;>simp only[cond_true,cond_false]at hf<;>cases(z.1.text==[])<;>cases z.1.fin<;>exact .inl ⟨_,_,rfl,rfl,hf _,rfl⟩) (Jo c.s+1) (c,⟨⟨0,0,0⟩,0,⟨0,[],0,false,false,false⟩,⟨0,[],[],0,false⟩,0,0,⟨0,0,false,false,0,0⟩,0,0⟩,[]) (⟨⟨0,0,0⟩,0,⟨0,[],0,false,false,false⟩,⟨0,[],[],0,false⟩,0,0,⟨0,0,false,false,0,0⟩,0,0⟩,c,[]) ⟨(JN c).symm,rfl⟩
 obtain⟨p,hp⟩:∃p,cm (λa=>(tK w a).nice) (Jo c.s+1) (c,⟨⟨0,0,0⟩,0,⟨0,[],0,false,false,false⟩,⟨0,[],[],0,false⟩,0,0,⟨0,0,false,false,0,0⟩,0,0⟩,[])=p:=⟨_,rfl⟩
 obtain⟨q,hq⟩:∃q,cm (λa=>(cd w a).nice) (Jo c.s+1) (⟨⟨0,0,0⟩,0,⟨0,[],0,false,false,false⟩,⟨0,[],[],0,false⟩,0,0,⟨0,0,false,false,0,0⟩,0,0⟩,c,[])=q:=⟨_,rfl⟩
 rw[hp,hq]at key
 simp only[hp,hq]
 obtain⟨p1,p2⟩:=p
 obtain⟨q1,q2,q3⟩:=q
 obtain⟨k1,k2⟩:=key
 simp only[]at k1 k2
 subst k1;subst k2
 cases p2 with
 |nil=>simp only[PX,JN,List.length_nil];rfl
 |cons g r=>
  simp only[PX,decide_eq_true (show 0<((g::r).length:Int) by simp only[List.length_cons];omega),cond_true,C8,if_neg (show¬(g::r=[]) by simp)]
  by_cases ht:q2.timer=0
  ·simp only[ht,if_true,beq_self_eq_true,cond_true]
  ·simp only[if_neg ht,show(q2.timer==0)=false by simp[ht],cond_false]
def Zy (k:Int)(sf sd rd:Bool):Bool:=bif k==8 then true else(sf== !(k==1||k==4))&&((sd==(k==3||k==7))&&(rd==(k==4||decide (5≤k))))
theorem K8 (x:Conn):aN.f (x,())=(aG.f (x.tuple,())&&(bi.f (x.s,())&&(bp.f (x.r,())&&(aM.f (x.opts,())&&((decide (1≤x.state)&&decide (x.state≤8))&&((decide (0≤x.most)&&decide (x.most≤1073725440))&&((decide (0≤x.window)&&decide (x.window≤x.most))&&((decide (0≤x.timer)&&bif x.state==7 then decide (x.timer≤4)else decide (x.timer≤3))&&((decide (0≤x.tries)&&decide (x.tries≤3))&&Zy x.state x.s.fin x.s.done x.r.done))))))))):=by
 simp only[PX,aN,av]
 cases aG.f (x.tuple,())with
 |false=>rfl
 |true=>
 cases bi.f (x.s,())with
 |false=>rfl
 |true=>
 cases bp.f (x.r,())with
 |false=>rfl
 |true=>
 cases aM.f (x.opts,())with
 |false=>rfl
 |true=>
 simp only[Bool.not_true,cond_false,Bool.true_and]
 have ej:∀b:Bool,(bif b then(false,(4:Int),x,())else(false,3,x,()))=(false,(bif b then 4 else 3),x,()):=λb=>by cases b<;>rfl
 have et:∀b:Bool,decide (x.timer≤bif b then 4 else 3)=bif b then decide (x.timer≤4)else decide (x.timer≤3):=λb=>by cases b<;>rfl
 simp only[ej,et]
 generalize(decide (0≤x.window)&&decide (x.window≤x.most))=W
 generalize(decide (0≤x.most)&&decide (x.most≤1073725440))=N
 generalize(decide (0≤x.tries)&&decide (x.tries≤3))=T
 generalize decide (0≤x.timer)=T0
 generalize decide (x.timer≤4)=T4
 generalize decide (x.timer≤3)=T3
 generalize x.s.fin=sf
 generalize x.s.done=sd
 generalize x.r.done=rd
 generalize x.state=k
 have hk:k=1∨k=2∨k=3∨k=4∨k=5∨k=6∨k=7∨k=8∨(decide (1≤k)&&decide (k≤8))=false:=by
  simp only[Bool.and_eq_false_iff,decide_eq_false_iff_not];omega
 rcases hk with rfl|rfl|rfl|rfl|rfl|rfl|rfl|rfl|hk
 iterate 8 (revert W N T T0 T4 T3 sf sd rd;decide+kernel)
 simp only[hk];rfl
structure CO (x:Conn):Prop where
 tup:aG.f (x.tuple,())=true
 snd:SO x.s
 rcv:bp.f (x.r,())=true
 opt:aM.f (x.opts,())=true
 s1:1≤x.state
 s8:x.state≤8
 m0:0≤x.most
 m1:x.most≤1073725440
 w0:0≤x.window
 w1:x.window≤x.most
 t0:0≤x.timer
 t4:x.timer≤4
 t3:x.state≠7→x.timer≤3
 r0:0≤x.tries
 r3:x.tries≤3
 fl:Zy x.state x.s.fin x.s.done x.r.done=true
theorem qA (x:Conn):aN.f (x,())=true↔CO x:=by
 rw[K8]
 simp only[Bool.and_eq_true,decide_eq_true_eq,yF]
 have et:(bif x.state==7 then decide (x.timer≤4)else decide (x.timer≤3))=true↔x.timer≤4∧(x.state≠7→x.timer≤3):=by
  by_cases h:x.state=7
  ·simp[h]
  ·have h2:(x.state==7)=false:=by simpa using h
   simp only[h2,cond_false,decide_eq_true_eq]
   exact⟨λh3=>⟨by omega,λ_=>h3⟩,λh3=>h3.2 h⟩
 rw[et]
 constructor
 ·rintro⟨h1,h2,h3,h4,⟨h5,h6⟩,⟨h7,h8⟩,⟨h9,h10⟩,⟨h11,h12,h13⟩,⟨h14,h15⟩,h16⟩
  exact⟨h1,h2,h3,h4,h5,h6,h7,h8,h9,h10,h11,h12,h13,h14,h15,h16⟩
 ·rintro⟨h1,h2,h3,h4,h5,h6,h7,h8,h9,h10,h11,h12,h13,h14,h15,h16⟩
  exact⟨h1,h2,h3,h4,⟨h5,h6⟩,⟨h7,h8⟩,⟨h9,h10⟩,⟨h11,h12,h13⟩,⟨h14,h15⟩,h16⟩
structure Sent (c d:Conn):Prop where
 so:SO d.s
 s1:d.s.data=c.s.data
 s2:d.s.fin=c.s.fin
 s3:d.s.done=c.s.done
 s4:d.s.una=c.s.una
 tm:d.timer=c.timer∨d.timer=3
 re:d={c with s:=d.s,timer:=d.timer}
theorem Sent.refl (c:Conn)(h:SO c.s):Sent c c:=⟨h,rfl,rfl,rfl,rfl,.inl rfl,rfl⟩
theorem Sent.ok {c d:Conn}(h:Sent c d)(hc:CO c)(ht:d.timer≤3∨d.timer=c.timer):CO d:=by
 obtain⟨so,s1,s2,s3,s4,tm,re⟩:=h
 obtain⟨t,st,s,r,w,m,o,ti,tr⟩:=c
 obtain⟨t',st',s',r',w',m',o',ti',tr'⟩:=d
 simp only[Conn.mk.injEq]at re
 obtain⟨rfl,rfl,-,rfl,rfl,rfl,rfl,-,rfl⟩:=re
 simp only[]at*
 refine⟨hc.tup,so,hc.rcv,hc.opt,hc.s1,hc.s8,hc.m0,hc.m1,hc.w0,hc.w1, ?_, ?_, ?_,hc.r0,hc.r3, ?_⟩
 ·have:=hc.t0;simp only[]at*;omega
 ·have:=hc.t4;simp only[]at*;omega
 ·intro h7;have:=hc.t3 h7;simp only[]at*;omega
 ·have:=hc.fl;simp only[]at*;rw[s2,s3];exact this
theorem Nx {x:Sndr}(h:SO x):bS x:=by
 have:=h.2.2.1
 unfold bS;grind
theorem Q9 (x:Sndr)(w m:Int)(y:Chun)(hy:(bg.f (x,w,m,()))=(y,true))(hx:SO x):SO (dJ.f (x,y,()))∧(dJ.f (x,y,())).data=x.data∧(dJ.f (x,y,())).fin=x.fin∧(dJ.f (x,y,())).done=x.done∧(dJ.f (x,y,())).una=x.una∧Jo (dJ.f (x,y,()))<Jo x:=by
 have h1:=bg.c.h (x,w,m,()) (Nx hx)
 change rc (bg.f (x,w,m,())).1∧((bg.f (x,w,m,())).2=true→_)at h1
 have e1:(bg.f (x,w,m,())).1=y:=by rw[hy]
 have e2:(bg.f (x,w,m,())).2=true:=by rw[hy]
 obtain⟨h2,h3⟩:=h1
 obtain⟨-,h4,h5,h6,h7⟩:=h3 e2
 simp only[e1]at h2 h4 h5 h6 h7
 clear e1 e2
 have h8:=(dJ.c.h (x,y,()) ⟨Nx hx,h2⟩).2 hx h4 h5 h7
 change dJ.f (x,y,())=_ at h8
 rw[h8]
 obtain⟨e1,e2,e3,e4,e5,e6,e7⟩:=hx
 refine⟨⟨e1,e2,e3, ?_, ?_, ?_, ?_⟩,rfl,rfl,rfl,rfl, ?_⟩
 ·show 0≤x.sent+(y.text.length:Int);omega
 ·show x.sent+(y.text.length:Int)≤(x.data.length:Int);omega
 ·intro hf;exact⟨(h7 hf).1,(h7 hf).2.2⟩
 ·intro hd
  refine⟨(e7 hd).1, ?_,(e7 hd).2.2⟩
  show y.fin=false
  cases hf:y.fin with
  |false=>rfl
  |true=>have:=(h7 hf).2.1;rw[this]at hd;cases hd
 ·show((x.data.length:Int)-(x.sent+(y.text.length:Int))).toNat+(if y.fin=true then 0 else 1)<((x.data.length:Int)-x.sent).toNat+(if x.finSent=true then 0 else 1)
  rw[h5]
  simp only[Bool.false_eq_true,if_false]
  have hl:y.text=[]∨0<y.text.length:=by cases y.text<;>simp
  rcases hl with hl|hl
  ·rw[h6 hl];simp only[if_true];omega
  ·split<;>omega
theorem rR (w:Int)(c:Conn)(a:Conn×Conn×List Segm)(h:Sent c a.2.1):(∃l,(cd w a).nice= .out (({a.1 with r.held:=[]}:Conn),a.2.1,l))∨(∃a',(cd w a).nice= .next a'∧Sent c a'.2.1∧Jo a'.2.1.s<Jo a.2.1.s):=by
 obtain⟨a1,a2,al⟩:=a
 simp only[]at h
 simp only[PX,cd]
 obtain⟨z,hz⟩:∃z,bg.f (a2.s,w,dE.f (a2,()),())=z:=⟨_,rfl⟩
 simp only[hz]
 obtain⟨y,b⟩:=z
 cases b with
 |false=>exact .inl ⟨_,rfl⟩
 |true=>
  obtain⟨k1,k2,k3,k4,k5,k6⟩:=Q9 a2.s w _ y hz h.so
  obtain⟨x,hx⟩:∃x,dJ.f (a2.s,y,())=x:=⟨_,rfl⟩
  rw[hx]at k1 k2 k3 k4 k5 k6
  simp only[hx]
  have hs:Sent c ({a2 with s:=x}:Conn):=by
   obtain⟨so,s1,s2,s3,s4,tm,re⟩:=h
   refine⟨k1,k2.trans s1,k3.trans s2,k4.trans s3,k5.trans s4,tm, ?_⟩
   rw[re]
  cases(y.text==[])<;>cases y.fin<;>exact .inr ⟨_,rfl,hs,k6⟩
theorem FO (c:Conn)(w:Int)(hc:SO c.s):Sent c (cO.f (c,w,())).1:=by
 simp only[PX,cO,ce,kE]
 cases(bif !aN.f (c,())then(true,())else bif (c.state==8)then(true,())else((c.state==7),())).1 with
 |true=>exact Sent.refl c hc
 |false=>
 simp only[cond_false]
 have key:=tL (f:=λa=>(cd w a).nice) (Inv:=λa=>Sent c a.2.1) (Q:=λp=>Sent c p.2.1) (meas:=λa=>Jo a.2.1.s) (λa hi a' he=>by
  rcases rR w c a hi with⟨l,e⟩|⟨a2,e,h1,h2⟩
  ·simp only[e]at he;cases he
  ·simp only[e,Stp.next.injEq]at he;subst he;exact⟨h1,h2⟩) (λa hi p he=>by
  rcases rR w c a hi with⟨l,e⟩|⟨a2,e,h1,h2⟩
  ·simp only[e,Stp.out.injEq]at he;subst he;exact hi
  ·simp only[e]at he;cases he) (Jo c.s+1) (⟨⟨0,0,0⟩,0,⟨0,[],0,false,false,false⟩,⟨0,[],[],0,false⟩,0,0,⟨0,0,false,false,0,0⟩,0,0⟩,c,[]) (Nat.lt_succ_self _) (Sent.refl c hc)
 obtain⟨q,hq⟩:∃q,cm (λa=>(cd w a).nice) (Jo c.s+1) (⟨⟨0,0,0⟩,0,⟨0,[],0,false,false,false⟩,⟨0,[],[],0,false⟩,0,0,⟨0,0,false,false,0,0⟩,0,0⟩,c,[])=q:=⟨_,rfl⟩
 rw[hq]at key
 simp only[hq]
 obtain⟨q1,q2,q3⟩:=q
 simp only[]at key⊢
 cases(bif decide (0<(q3.length:Int))then((q2.timer==0),())else(false,())).1 with
 |false=>exact key
 |true=>
  obtain⟨so,s1,s2,s3,s4,tm,re⟩:=key
  refine⟨so,s1,s2,s3,s4,.inr rfl, ?_⟩
  exact congrArg (λd:Conn=>({d with timer:=3}:Conn)) re
theorem WF (c:Conn)(h:n8.f (c,())=true):aN.f (c,())=true∧c.state≠8:=by
 simp only[PX,n8]at h
 cases hc:aN.f (c,())with
 |false=>rw[hc]at h;cases h
 |true=>
  rw[hc]at h
  refine⟨rfl,λh8=> ?_⟩
  rw[h8]at h;cases h
def lu (c:Conn):Int:=if c.timer=0 then(if c.state=7 then 4 else 3)else c.timer
theorem Fn {c:Conn}(h:CO c):1≤lu c∧lu c≤4:=by
 have:=h.t0;have:=h.t4
 unfold lu;split
 ·split<;>omega
 ·omega
def TC (c:Conn):Conn×List Segm:=
 if n8.f (c,())=true then
  if 0<lu c-1 then({c with timer:=lu c-1},[])
  else if c.state=7 then({c with state:=8,timer:=0,tries:=0},[])
  else if c.tries=3 then({c with state:=8,timer:=0,tries:=0},[{bC.f (c,())with flags:=bits .or .i64 (bC.f (c,())).flags 4}])
  else({(cO.f ({c with s:=jP.f (c.s,()),timer:=0,tries:=c.tries+1},(if c.window=0 then 1 else c.window),())).1 with timer:=3},(cO.f ({c with s:=jP.f (c.s,()),timer:=0,tries:=c.tries+1},(if c.window=0 then 1 else c.window),())).2)
 else if aN.f (c,())=true then({c with timer:=0,tries:=0},[])else(c,[])
theorem NU (c:Conn):wB.f (c,())=TC c:=by
 simp only[PX,wB,ce]
 unfold TC
 cases hw:n8.f (c,())with
 |false=>
  simp only[Bool.not_false,cond_true,Bool.false_eq_true,if_false]
  cases aN.f (c,())<;>rfl
 |true=>
  obtain⟨h1,h2⟩:=WF c hw
  have hc:=(qA c).1 h1
  have hr:=Fn hc
  have r0:=hc.r0
  have r3:=hc.r3
  have w0:=hc.w0
  have w1:=hc.w1
  have m1:=hc.m1
  simp only[Bool.not_true,cond_false,if_true]
  by_cases e1:c.timer=0
  ·have t1:(c.timer==0)=true:=by simp[e1]
   by_cases e2:c.state=7
   ·have t2:(c.state==7)=true:=by simp[e2]
    have t3:lu c-1=3:=by unfold lu;rw[if_pos e1,if_pos e2];rfl
    rw[t3]
    simp only[t1,t2,cond_true]
    rfl
   ·have t2:(c.state==7)=false:=by simp[e2]
    have t3:lu c-1=2:=by unfold lu;rw[if_pos e1,if_neg e2];rfl
    rw[t3]
    simp only[t1,t2,cond_true,cond_false]
    rfl
  have t1:(c.timer==0)=false:=by simp[e1]
  have t3:lu c=c.timer:=by unfold lu;rw[if_neg e1]
  rw[t3]at hr⊢
  have e1:IntKind.wrap .i64 (c.timer-1)=c.timer-1:=am (by omega) (by omega)
  have e2:IntKind.wrap .i64 (c.tries+1)=c.tries+1:=am (by omega) (by omega)
  have e4:(if c.window<1 then 1 else c.window)=if c.window=0 then 1 else c.window:=by split<;>split<;>omega
  simp only[t1,cond_false]
  dsimp only[Tr.nice]
  simp only[PX,e1,e2]
  by_cases c1:0<c.timer-1
  ·simp only[if_pos c1,decide_eq_true c1,cond_true]
  have e3:c.timer-1=0:=by omega
  simp only[e3,Int.lt_irrefl,if_false,decide_false,cond_false,wJ]
  by_cases c2:c.state=7
  ·simp only[if_pos c2,show(c.state==7)=true by simp[c2],cond_true]
  simp only[if_neg c2,show(c.state==7)=false by simp[c2],cond_false]
  by_cases c3:c.tries=3
  ·simp only[if_pos c3,show(c.tries==3)=true by simp[c3],cond_true]
  simp only[if_neg c3,show(c.tries==3)=false by simp[c3],cond_false]
  by_cases c4:c.window=0
  ·simp only[if_pos c4,show(c.window==0)=true by simp[c4],cond_true]
   rfl
  ·simp only[if_neg c4,show(c.window==0)=false by simp[c4],cond_false]
   rfl
theorem BH (c:Conn)(hs:bf c.r.held):pa.f (c,())=TC c:=by
 simp only[PX,pa,fG,aej c hs,lH c hs]
 unfold TC
 cases hw:n8.f (c,())with
 |false=>
  simp only[Bool.not_false,cond_true,Bool.false_eq_true,if_false]
  cases aN.f (c,())<;>rfl
 |true=>
  obtain⟨h1,h2⟩:=WF c hw
  have hc:=(qA c).1 h1
  have hr:=Fn hc
  have r0:=hc.r0
  have r3:=hc.r3
  have w0:=hc.w0
  have w1:=hc.w1
  have m1:=hc.m1
  simp only[Bool.not_true,cond_false,if_true]
  by_cases e1:c.timer=0
  ·have t1:(c.timer==0)=true:=by simp[e1]
   by_cases e2:c.state=7
   ·have t2:(c.state==7)=true:=by simp[e2]
    have t3:lu c-1=3:=by unfold lu;rw[if_pos e1,if_pos e2];rfl
    rw[t3]
    simp only[t1,t2,cond_true]
    rfl
   ·have t2:(c.state==7)=false:=by simp[e2]
    have t3:lu c-1=2:=by unfold lu;rw[if_pos e1,if_neg e2];rfl
    rw[t3]
    simp only[t1,t2,cond_true,cond_false]
    rfl
  have t1:(c.timer==0)=false:=by simp[e1]
  have t3:lu c=c.timer:=by unfold lu;rw[if_neg e1]
  rw[t3]at hr⊢
  have e1:IntKind.wrap .i64 (c.timer-1)=c.timer-1:=am (by omega) (by omega)
  have e2:IntKind.wrap .i64 (c.tries+1)=c.tries+1:=am (by omega) (by omega)
  have e4:(if c.window<1 then 1 else c.window)=if c.window=0 then 1 else c.window:=by split<;>split<;>omega
  simp only[t1,cond_false]
  dsimp only[Tr.nice]
  simp only[PX,e1,e2,mD,aaC,tY,e4]
  by_cases c1:0<c.timer-1
  ·simp only[if_pos c1,decide_eq_true c1,cond_true]
  have e3:c.timer-1=0:=by omega
  simp only[e3,Int.lt_irrefl,if_false,decide_false,cond_false,wJ]
  by_cases c2:c.state=7
  ·simp only[if_pos c2,show(c.state==7)=true by simp[c2],cond_true]
  simp only[if_neg c2,show(c.state==7)=false by simp[c2],cond_false]
  by_cases c3:c.tries=3
  ·simp only[if_pos c3,show(c.tries==3)=true by simp[c3],cond_true]
  simp only[if_neg c3,show(c.tries==3)=false by simp[c3],cond_false]
  have e5:=LX ({c with s:=jP.f (c.s,()),timer:=0,tries:=c.tries+1}) (if c.window=0 then 1 else c.window) (by split<;>omega) hs
  simp only[e5]
theorem L4 {T A W:Type}(p:T→Bool)(g:T→A):∀(r:List T) (j:Nat) (a:List A),dF (W:=W) (λ_ x (a:List A)=>bif p x then .next (a++[g x])else .next a) j r a= .next (a++(r.filter p).map g)
 |[],_,a=>by simp[dF]
 |x::r,j,a=>by
  cases h:p x<;>simp only[dF,h,cond_true,cond_false,Stp.elim,L4 p g r,List.filter_cons,if_true,Bool.false_eq_true,if_false,List.map_cons,List.append_assoc,List.cons_append,List.nil_append]
def qg (xs:List Half):List Half:=(xs.filter (λh=>decide (h.age<6))).map (λh=>({h with age:=IntKind.wrap .i64 (h.age+1)}:Half))
theorem HI (xs:List Half):ra.f (xs,())=qg xs:=by
 simp only[PX,ra,gr]
 rw[aL,ci xs _ rfl (F:=λ_ x (a:List Half)=>bif decide (x.age<6)then .next (a++[({x with age:=IntKind.wrap .i64 (x.age+1)}:Half)])else .next a) (by
  intro j x a h
  simp only[PX,tS,ah,getD_some h])]
 rw[L4 (λx:Half=>decide (x.age<6)) (λx=>({x with age:=IntKind.wrap .i64 (x.age+1)}:Half))]
 rfl
theorem HQ (xs:List Half)(ha:∀y∈xs,y.age≤6)(hb:∀y∈xs,0≤y.age):rq.f (xs,())=qg xs:=by
 simp only[PX,rq,gF]
 rw[aL,ci xs _ rfl (F:=λ_ x (a:List Half)=>bif decide (x.age<6)then .next (a++[({x with age:=IntKind.wrap .i64 (x.age+1)}:Half)])else .next a) (by
  intro j x a h
  have h1:=ha x (mC h)
  have h2:=hb x (mC h)
  have h3:decide (IntKind.wrap .i64 (x.age+1)≤6)=decide (x.age<6):=by rw[am (by omega) (by omega)];apply decide_eq_decide.2;omega
  simp only[PX,uv,ah,getD_some h,h3])]
 rw[L4 (λx:Half=>decide (x.age<6)) (λx=>({x with age:=IntKind.wrap .i64 (x.age+1)}:Half))]
 rfl
theorem D8 {T:Type}(p:T→Bool)(xs:List T){f:Int→Int×List T→Stp (Int×List T) Empty}(hf:∀(j k:Nat) (ys:List T) x,ys[j]? =some x→k≤j→j<xs.length→f (j:Int) ((k:Int),ys)=bif p x then .next ((k:Int),ys)else .next (((k+1:Nat):Int),ys.set k x)):
  ∀(n j k:Nat) (ys:List T),ys.length=xs.length→k≤j→j+n=xs.length→ys.take k=(xs.take j).filter (λx=> !p x)→ys.drop j=xs.drop j→∃(k':Nat) (zs:List T),aP f 1 n (j:Int) ((k:Int),ys)= .next ((k':Int),zs)∧zs.length=xs.length∧k'≤xs.length∧zs.take k'=xs.filter (λx=> !p x)
 |0,j,k,ys,hl,hk,hn,ht,hd=>⟨k,ys,rfl,hl,by omega,by rw[ht,List.take_of_length_le (by omega)]⟩
 |n+1,j,k,ys,hl,hk,hn,ht,hd=>by
  have hj:j<xs.length:=by omega
  have hy:ys[j]? =some xs[j]:=by
   have:(ys.drop j)[0]? =(xs.drop j)[0]? :=by rw[hd]
   simpa [List.getElem?_drop,hj]using this
  have e:(xs.take (j+1)).filter (λx=> !p x)=(xs.take j).filter (λx=> !p x)++(if p xs[j]=true then[]else[xs[j]]):=by
   rw[List.take_succ_eq_append_getElem hj,List.filter_append]
   congr 1
   cases hp:p xs[j]<;>simp[hp]
  have hd2:ys.drop (j+1)=xs.drop (j+1):=by
   rw[←List.drop_drop,←List.drop_drop,hd]
  simp only[aP,hf j k ys xs[j] hy hk hj]
  have c1:((j:Int)+1)=((j+1:Nat):Int):=by omega
  cases hp:p xs[j]with
  |true=>
   simp only[cond_true,Stp.elim]
   rw[c1]
   exact D8 p xs hf n (j+1) k ys hl (by omega) (by omega) (by rw[e,hp,ht];simp) hd2
  |false=>
   simp only[cond_false,Stp.elim]
   rw[c1]
   refine D8 p xs hf n (j+1) (k+1) (ys.set k xs[j]) (by rw[List.length_set];exact hl) (by omega) (by omega) ?_ ?_
   ·rw[e,hp,List.take_succ_eq_append_getElem (by rw[List.length_set];omega),List.take_set_of_le (Nat.le_refl _),ht]
    simp
   ·rw[List.drop_set_of_lt (by omega)];exact hd2
theorem DU (xs:List Tupl)(t:Tupl):iA.f (xs,t,())=xs.any (jf t):=by
 simp only[PX,iA,qB,mc]
def lv (t:Tabl)(c:Conn):Bool:=bif c.state != 8 then true else t.waiting.any (jf c.tuple)
def mS (t:Tabl)(x:Tupl):Bool:=decide (0≤ar.f (t,x,()))
def mt (t:Tabl):Tabl:=⟨t.conns.filter (lv t),t.waiting.filter (mS t)⟩
theorem Pf {A B W:Type}(p:A→Bool)(mk:List A→B)(z:B)(get:B→List A)(hg:∀l,get (mk l)=l):∀(r:List A) (j:Nat) (l:List A),dF (W:=W) (λ_ x (a:B×B)=>bif p x then .next (z,mk (get a.2++[x]))else .next (z,mk (get a.2))) j r (z,mk l)= .next (z,mk (l++r.filter p))
 |[],_,l=>by simp[dF]
 |x::r,j,l=>by
  cases h:p x<;>simp only[dF,h,cond_true,cond_false,Stp.elim,hg,Pf p mk z get hg r,List.filter_cons,if_true,Bool.false_eq_true,if_false,List.append_assoc,List.cons_append,List.nil_append]
theorem Cy (t:Tabl):Ag.f (t,())=mt t:=by
 simp only[PX,Ag,i4,je]
 have h1:aP (λj a=>(wq t j a).nice) 1 (Int.toNat ((t.conns.length:Int)-0)) 0 ((⟨[],[]⟩:Tabl),(⟨[],[]⟩:Tabl))= .next ((⟨[],[]⟩:Tabl),(⟨t.conns.filter (lv t),[]⟩:Tabl)):=by
  rw[aL,ci t.conns _ rfl (F:=λ_ x (a:Tabl×Tabl)=>bif lv t x then .next (⟨[],[]⟩,(⟨a.2.conns++[x],[]⟩:Tabl))else .next (⟨[],[]⟩,(⟨a.2.conns,[]⟩:Tabl))) (by
   intro j x a h
   simp only[PX,wq,ah,getD_some h,vY,fG,lv]
   cases(x.state != 8)with
   |true=>rfl
   |false=>cases t.waiting.any (jf x.tuple)<;>rfl)]
  exact Pf (lv t) (λl=>(⟨l,[]⟩:Tabl)) ⟨[],[]⟩ Tabl.conns (λ_=>rfl) t.conns 0 []
 have h2:∀l:List Conn,aP (λj a=>(ww t j a).nice) 1 (Int.toNat ((t.waiting.length:Int)-0)) 0 ((⟨[],[]⟩:Tabl),(⟨l,[]⟩:Tabl))= .next ((⟨[],[]⟩:Tabl),(⟨l,t.waiting.filter (mS t)⟩:Tabl)):=by
  intro l
  rw[aL,ci t.waiting _ rfl (F:=λ_ x (a:Tabl×Tabl)=>bif mS t x then .next (⟨[],[]⟩,(⟨a.2.conns,a.2.waiting++[x]⟩:Tabl))else .next (⟨[],[]⟩,a.2)) (by
   intro j x a h
   simp only[PX,ww,ah,getD_some h,gM,mS])]
  have:∀(r:List Tupl) (j:Nat) (l2:List Tupl),dF (W:=Empty) (λ_ x (a:Tabl×Tabl)=>bif mS t x then .next (⟨[],[]⟩,(⟨a.2.conns,a.2.waiting++[x]⟩:Tabl))else .next (⟨[],[]⟩,a.2)) j r (⟨[],[]⟩,(⟨l,l2⟩:Tabl))= .next (⟨[],[]⟩,(⟨l,l2++r.filter (mS t)⟩:Tabl)):=by
   intro r
   induction r with
   |nil=>intro j l2;simp[dF]
   |cons x r ih=>
    intro j l2
    cases h:mS t x<;>simp only[dF,h,cond_true,cond_false,Stp.elim,ih,List.filter_cons,if_true,Bool.false_eq_true,if_false,List.append_assoc,List.cons_append,List.nil_append]
  exact this t.waiting 0 []
 simp only[h1,Stp.elim,PX,h2]
 rfl
theorem Qn {T:Type}(p:T→Bool)(xs:List T)(h:(em p xs== -1)=true):xs.filter (λx=> !p x)=xs:=by
 unfold em at h
 cases hf:xs.findIdx? p with
 |some i=>rw[hf]at h;simp at h
 |none=>
  rw[List.findIdx?_eq_none_iff]at hf
  rw[List.filter_eq_self];intro x hx;simp[hf x hx]
theorem Pb {T:Type}(p:T→Bool)(xs:List T)(h:(em p xs== -1)=false):∃i:Nat,em p xs=(i:Int)∧∃hi:i<xs.length,xs.take i=(xs.take (i+1)).filter (λx=> !p x):=by
 unfold em at h⊢
 cases hf:xs.findIdx? p with
 |none=>rw[hf]at h;simp at h
 |some i=>
  obtain⟨h1,h2,h3⟩:=List.findIdx?_eq_some_iff_getElem.1 hf
  refine⟨i,rfl,h1, ?_⟩
  rw[List.take_succ_eq_append_getElem h1,List.filter_append]
  have e1:(xs.take i).filter (λx=> !p x)=xs.take i:=by
   rw[List.filter_eq_self]
   intro x hx
   obtain⟨j,hj,rfl⟩:=List.getElem_of_mem hx
   have hj2:j<i:=by rw[List.length_take]at hj;omega
   have:=h3 j hj2
   simp only[List.getElem_take]
   simp[this]
  have e2:[xs[i]].filter (λx=> !p x)=[]:=by simp[h2]
  rw[e1,e2,List.append_nil]
theorem agx (xs:List Conn)(t:Tabl)(hl:xs.length≤4294967296):(cM.f (xs,t,())).2.take (cM.f (xs,t,())).1=xs.filter (lv t):=by
 have ep:∀x,u5.f (x,t,())= !lv t x:=by
  intro x
  simp only[PX,u5,DU,lv]
  by_cases h:x.state=8
  ·rw[show(x.state==8)=true by simp[h],show(x.state != 8)=false by simp[h]];rfl
  ·rw[show(x.state==8)=false by simp[h],show(x.state != 8)=true by simp[h]];rfl
 have en:∀l:List Conn,l.filter (lv t)=l.filter (λx=> !(!lv t x)):=λl=>by simp only[Bool.not_not]
 have ei:dz.f (xs,t,())=em (λx=> !lv t x) xs:=by
  simp only[PX,dz,bz]
  rw[jO (λx=> !lv t x) xs (λj x a h=>by
   simp only[PX,gc,ah,getD_some h,ep])]
  unfold em
  cases xs.findIdx? (λx=> !lv t x)<;>rfl
 simp only[PX,cM,aF,ei]
 rw[en]
 cases hf:(em (λx=> !lv t x) xs== -1)with
 |true=>simp only[cond_true,List.take_length];exact(Qn _ _ hf).symm
 |false=>
  obtain⟨i,hi,hlt,ht⟩:=Pb _ _ hf
  simp only[hi,cond_false]
  rw[am (by omega) (by omega)]
  obtain⟨k',zs,e,z1,z2,z3⟩:=D8 (λx=> !lv t x) xs (f:=λj a=>(dU t j a).nice) (λj k ys x hx hk hj=>by
   simp only[PX,dU,ah,getD_some hx,ep]
   rw[am (by omega) (by omega)]
   cases lv t x<;>rfl) (xs.length-(i+1)) (i+1) i xs rfl (by omega) (by omega) ht rfl
  rw[show Int.toNat ((xs.length:Int)-((i:Int)+1))=xs.length-(i+1) by omega]
  have e2:((i:Int)+1)=((i+1:Nat):Int):=by omega
  rw[e2,e]
  simp only[Stp.elim,PX]
  rw[←z3,List.append_assoc,List.take_append_of_le_length (by simp;omega)]
  simp
  rw[List.take_take,Nat.min_self]
theorem agm (xs:List Tupl)(t:Tabl)(hl:xs.length≤4294967296):(cy.f (xs,t,())).2.take (cy.f (xs,t,())).1=xs.filter (mS t):=by
 have ep:∀x,vx.f (x,t,())= !mS t x:=by
  intro x
  simp only[PX,vx,mS]
  rw[←decide_not];apply decide_eq_decide.2;omega
 have en:∀l:List Tupl,l.filter (mS t)=l.filter (λx=> !(!mS t x)):=λl=>by simp only[Bool.not_not]
 have ei:dg.f (xs,t,())=em (λx=> !mS t x) xs:=by
  simp only[PX,dg,bt]
  rw[jO (λx=> !mS t x) xs (λj x a h=>by
   simp only[PX,fX,ah,getD_some h,ep])]
  unfold em
  cases xs.findIdx? (λx=> !mS t x)<;>rfl
 simp only[PX,cy,aE,ei]
 rw[en]
 cases hf:(em (λx=> !mS t x) xs== -1)with
 |true=>simp only[cond_true,List.take_length];exact(Qn _ _ hf).symm
 |false=>
  obtain⟨i,hi,hlt,ht⟩:=Pb _ _ hf
  simp only[hi,cond_false]
  rw[am (by omega) (by omega)]
  obtain⟨k',zs,e,z1,z2,z3⟩:=D8 (λx=> !mS t x) xs (f:=λj a=>(dM t j a).nice) (λj k ys x hx hk hj=>by
   simp only[PX,dM,ah,getD_some hx,ep]
   rw[am (by omega) (by omega)]
   cases mS t x<;>rfl) (xs.length-(i+1)) (i+1) i xs rfl (by omega) (by omega) ht rfl
  rw[show Int.toNat ((xs.length:Int)-((i:Int)+1))=xs.length-(i+1) by omega]
  have e2:((i:Int)+1)=((i+1:Nat):Int):=by omega
  rw[e2,e]
  simp only[Stp.elim,PX]
  rw[←z3,List.append_assoc,List.take_append_of_le_length (by simp;omega)]
  simp
  rw[List.take_take,Nat.min_self]
theorem CK (t:Tabl)(h1:t.conns.length≤4294967296)(h2:t.waiting.length≤4294967296):tU.f (t,())=mt t:=by
 simp only[PX,tU,ja,agx _ _ h1,agm _ _ h2,mt]
theorem ZD (ip:Int)(xs:List Segm){f:Int→Door×List Mail→Stp (Door×List Mail) Empty}(hf:∀(j:Nat) x a,xs[j]? =some x→∃d,f (j:Int) a= .next (d,a.2++[(⟨ip,x⟩:Mail)])):
  ∀(n j:Nat) (d:Door) (l:List Mail),j+n=xs.length→∃d2,aP f 1 n (j:Int) (d,l)= .next (d2,l++(xs.drop j).map (λg=>(⟨ip,g⟩:Mail)))
 |0,j,d,l,h=>⟨d,by rw[List.drop_of_length_le (by omega)];simp[aP]⟩
 |n+1,j,d,l,h=>by
  have hj:j<xs.length:=by omega
  obtain⟨d1,e1⟩:=hf j xs[j] (d,l) (List.getElem?_eq_getElem hj)
  obtain⟨d2,e2⟩:=ZD ip xs hf n (j+1) d1 (l++[⟨ip,xs[j]⟩]) (by omega)
  refine⟨d2, ?_⟩
  simp only[aP,e1,Stp.elim]
  rw[show(j:Int)+1=((j+1:Nat):Int) by omega,e2,List.drop_eq_getElem_cons hj]
  simp only[List.map_cons,List.append_assoc,List.cons_append,List.nil_append]
def eE (xs:List Conn):List Conn:=xs.map (λc=>(TC c).1)
def Zm (xs:List Conn):List Mail:=xs.flatMap (λc=>(TC c).2.map (λg=>(⟨c.tuple.ip,g⟩:Mail)))
theorem Gf {E:Type}(out:Conn→List E)(xs:List Conn)(d:Door){f:Int→Door×Door×List E→Stp (Door×Door×List E) Empty}(hf:∀(j:Nat) x (a:Door×Door×List E),a.2.1.table.conns[j]? =some x→xs[j]? =some x→∃z,f (j:Int) a= .next (z,({a.2.1 with table.conns:=a.2.1.table.conns.set j (TC x).1}:Door),a.2.2++out x)):
  ∀(n j:Nat) (z:Door) (ys:List Conn) (l:List E),j+n=xs.length→ys.length=xs.length→ys.drop j=xs.drop j→ys.take j=eE (xs.take j)→∃z2,aP f 1 n (j:Int) (z,({d with table.conns:=ys}:Door),l)= .next (z2,({d with table.conns:=eE xs}:Door),l++(xs.drop j).flatMap out)
 |0,j,z,ys,l,h,hl,hd,ht=>⟨z,by
  rw[List.take_of_length_le (by omega),List.take_of_length_le (by omega)]at ht
  rw[List.drop_of_length_le (by omega),ht];simp[aP]⟩
 |n+1,j,z,ys,l,h,hl,hd,ht=>by
  have hj:j<xs.length:=by omega
  have hy:ys[j]? =some xs[j]:=by
   have:(ys.drop j)[0]? =(xs.drop j)[0]? :=by rw[hd]
   simpa [List.getElem?_drop,hj]using this
  obtain⟨z1,e1⟩:=hf j xs[j] (z,({d with table.conns:=ys}:Door),l) hy (List.getElem?_eq_getElem hj)
  have hd2:ys.drop (j+1)=xs.drop (j+1):=by
   rw[←List.drop_drop,←List.drop_drop,hd]
  obtain⟨z2,e2⟩:=Gf out xs d hf n (j+1) z1 (ys.set j (TC xs[j]).1) (l++out xs[j]) (by omega) (by rw[List.length_set];exact hl) (by rw[List.drop_set_of_lt (by omega)];exact hd2) (by
   rw[List.take_succ_eq_append_getElem (by rw[List.length_set];omega),List.take_set_of_le (Nat.le_refl _),ht,List.take_succ_eq_append_getElem hj]
   simp only[eE,List.map_append,List.map_cons,List.map_nil,List.getElem_set_self])
  refine⟨z2, ?_⟩
  simp only[aP,e1,Stp.elim]
  rw[show(j:Int)+1=((j+1:Nat):Int) by omega]
  refine e2.trans ?_
  rw[List.drop_eq_getElem_cons hj]
  simp only[List.flatMap_cons,List.append_assoc]
theorem OJ (d:Door)(hs:fA d):wn.f (d,())=bif bO.f (d,())then({d with clock:=bK.f (IntKind.wrap .i64 (d.clock+1),()),chal:=0,halves:=qg d.halves,table:=mt ⟨eE d.table.conns,d.table.waiting⟩},d.table.conns.flatMap (λc=>(TC c).2))else(d,[]):=by
 simp only[PX,wn,kZ,EL d hs,HI,cr]
 cases bO.f (d,())with
 |false=>rfl
 |true=>
  simp only[Bool.not_true,cond_false,cond_true]
  obtain⟨z2,e⟩:=Gf (λc=>(TC c).2) d.table.conns ({d with clock:=bK.f (IntKind.wrap .i64 (d.clock+1),()),chal:=0,halves:=qg d.halves}:Door) (f:=λj a=>(qC j a).nice) (λj x a h1 h2=>by
   simp only[PX,qC,ah,getD_some h1,BH x (hs x (mC h2))]
   exact⟨_,rfl⟩) d.table.conns.length 0 (⟨0,0,⟨0,⟨false,0,0,[]⟩,⟨false,0,0,[]⟩,false⟩,⟨0,0,0,0⟩,[],⟨[],[]⟩,0⟩:Door) d.table.conns [] (by omega) rfl rfl rfl
  rw[aL]
  refine(congrArg (Stp.elim _ _) e).trans ?_
  simp only[Stp.elim,Cy,List.nil_append,List.drop_zero]
theorem ON (d:Door)(ha:∀y∈d.halves,y.age≤6)(hb:∀y∈d.halves,0≤y.age)(h1:d.table.conns.length≤4294967296)(h2:d.table.waiting.length≤4294967296)(hd:bO.f (d,())=true):wj.f (d,())=({d with clock:=bR.f (d.clock,1,()),chal:=0,halves:=qg d.halves,table:=mt ⟨eE d.table.conns,d.table.waiting⟩},Zm d.table.conns):=by
 simp only[PX,wj,kt,hd,HQ _ ha hb,fu,Bool.not_true,cond_false]
 obtain⟨z2,e⟩:=Gf (λc=>(TC c).2.map (λg=>(⟨c.tuple.ip,g⟩:Mail))) d.table.conns ({d with clock:=bR.f (d.clock,1,()),chal:=0,halves:=qg d.halves}:Door) (f:=λj a=>(qs d.table.conns (d.table.conns.length:Int) j a).nice) (λj x a h1 h2=>by
  simp only[PX,qs,ah,getD_some h2,NU,dN]
  obtain⟨d2,e2⟩:=ZD x.tuple.ip (TC x).2 (f:=λk a=>(nt x (TC x).2 k a).nice) (λj y a h=>by
   simp only[PX,nt,ah,getD_some h]
   exact⟨_,rfl⟩) (TC x).2.length 0 ({a.1 with keys.now.rows:=[],keys.before.rows:=[],halves:=[],table.conns:=[],table.waiting:=[]}:Door) a.2.2 (by omega)
  rw[aL]
  exact⟨_,(congrArg (Stp.elim _ _) e2).trans rfl⟩) d.table.conns.length 0 (⟨0,0,⟨0,⟨false,0,0,[]⟩,⟨false,0,0,[]⟩,false⟩,⟨0,0,0,0⟩,[],⟨[],[]⟩,0⟩:Door) d.table.conns [] (by omega) rfl rfl rfl
 rw[aL]
 refine(congrArg (Stp.elim _ _) e).trans ?_
 simp only[Stp.elim,List.nil_append,List.drop_zero]
 rw[CK ⟨eE d.table.conns,d.table.waiting⟩ (by simp only[eE,List.length_map];exact h1) h2]
 rfl
theorem EI (a b:Tupl):jf a b=true↔a=b:=by
 obtain⟨a1,a2,a3⟩:=a
 obtain⟨b1,b2,b3⟩:=b
 simp only[jf,Bool.and_true,Bool.and_eq_true,beq_iff_eq,Tupl.mk.injEq]
 constructor<;>rintro⟨rfl,rfl,rfl⟩<;>exact⟨rfl,rfl,rfl⟩
theorem De {T:Type}(f:T→Tupl)(xs:List T)(t:Tupl):xs.any (λh=>jf t (f h))=true↔t∈xs.map f:=by
 simp only[List.any_eq_true,List.mem_map,EI]
 constructor
 ·rintro⟨x,h1,h2⟩;exact⟨x,h1,h2.symm⟩
 ·rintro⟨x,h1,h2⟩;exact⟨x,h1,h2.symm⟩
theorem Az {T:Type}(f:T→Tupl)(xs:List T):(∀(j:Nat) (y:T),xs[j]? =some y→(xs.take j).any (λh=>jf (f y) (f h))=false)↔(xs.map f).Nodup:=by
 unfold List.Nodup
 rw[List.pairwise_iff_getElem]
 constructor
 ·intro h i j hi hj hij he
  rw[List.length_map]at hi hj
  simp only[List.getElem_map]at he
  have:=h j xs[j] (List.getElem?_eq_getElem hj)
  rw[List.any_eq_false]at this
  refine this xs[i] ?_ ((EI _ _).2 he.symm)
  rw[List.mem_take_iff_getElem]
  exact⟨i,by omega,rfl⟩
 ·intro h j y hy
  rw[List.any_eq_false]
  intro z hz he
  rw[List.mem_take_iff_getElem]at hz
  obtain⟨i,hi,rfl⟩:=hz
  obtain⟨hj,rfl⟩:=List.getElem?_eq_some_iff.1 hy
  have:=h i j (by rw[List.length_map];omega) (by rw[List.length_map];exact hj) (by omega)
  simp only[List.getElem_map]at this
  exact this ((EI _ _).1 he).symm
structure LO (l:Limi):Prop where
 h1:1≤l.halves
 h2:l.halves≤64
 w1:1≤l.waiting
 w2:l.waiting≤16
 c1:1≤l.conns
 c2:l.conns≤16
 k0:0≤l.chal
 k1:l.chal≤1000
theorem ab9 (l:Limi):fo.f (l,())=true↔LO l:=by
 simp only[PX,fo,av]
 have e:(bif decide (1≤l.halves)&&decide (l.halves≤64)then bif decide (1≤l.waiting)&&decide (l.waiting≤16)then bif decide (1≤l.conns)&&decide (l.conns≤16)then decide (0≤l.chal)&&decide (l.chal≤1000)else false else false else false)=((decide (1≤l.halves)&&decide (l.halves≤64))&&((decide (1≤l.waiting)&&decide (l.waiting≤16))&&((decide (1≤l.conns)&&decide (l.conns≤16))&&(decide (0≤l.chal)&&decide (l.chal≤1000))))):=by
  cases(decide (1≤l.halves)&&decide (l.halves≤64))<;>cases(decide (1≤l.waiting)&&decide (l.waiting≤16))<;>cases(decide (1≤l.conns)&&decide (l.conns≤16))<;>simp
 rw[e]
 simp only[Bool.and_eq_true,decide_eq_true_eq]
 constructor
 ·rintro⟨⟨h1,h2⟩,⟨h3,h4⟩,⟨h5,h6⟩,h7,h8⟩;exact⟨h1,h2,h3,h4,h5,h6,h7,h8⟩
 ·rintro⟨h1,h2,h3,h4,h5,h6,h7,h8⟩;exact⟨⟨h1,h2⟩,⟨h3,h4⟩,⟨h5,h6⟩,h7,h8⟩
structure TO (t:Tabl)(l:Limi):Prop where
 lim:LO l
 nc:(t.conns.length:Int)≤l.conns
 nw:(t.waiting.length:Int)≤l.waiting
 co:∀c∈t.conns,CO c
 dc:(t.conns.map Conn.tuple).Nodup
 dw:t.waiting.Nodup
 wc:∀w∈t.waiting,w∈t.conns.map Conn.tuple
theorem xj {T:Type}{P:T→Prop}{xs:List T}:(∀(j:Nat) (y:T),xs[j]? =some y→P y)↔∀y∈xs,P y:=by
 constructor
 ·intro h y hy
  obtain⟨j,hj,rfl⟩:=List.getElem_of_mem hy
  exact h j _ (List.getElem?_eq_getElem hj)
 ·intro h j y hy;exact h y (mC hy)
theorem Lc {T W:Type}{f:Int→Unit→Stp Unit W}(xs:List T){P:Nat→T→Prop}(h:∀(j:Nat) (y:T),xs[j]? =some y→(f (j:Int) ()= .next ()↔P j y)):aP f 1 (Int.toNat ((xs.length:Int)-0)) 0 ()= .next ()↔∀(j:Nat) (y:T),xs[j]? =some y→P j y:=by
 rw[aL,show(0:Int)=((0:Nat):Int) from rfl,AK]
 constructor
 ·intro h1 j y hy
  exact(h j y hy).1 (h1 j (Nat.zero_le _) (by have:=(List.getElem?_eq_some_iff.1 hy).1;omega))
 ·intro h1 j _ h2
  exact(h j xs[j] (List.getElem?_eq_getElem (by omega))).2 (h1 j _ (List.getElem?_eq_getElem (by omega)))
theorem YZ (t:Tabl)(l:Limi):dK.f (t,l,())=true↔TO t l:=by
 have f1:=Lc t.conns (f:=λj a=>(eJ t.conns t j a).nice) (P:=λj y=>CO y∧(t.conns.take j).any (λh=>jf y.tuple h.tuple)=false) (λj y hy=>by
  simp only[PX,eJ,ah,getD_some hy,f8]
  rw[Et (λh:Conn=>jf y.tuple h.tuple) t.conns j y hy (ss _),←qA]
  cases aN.f (y,())<;>cases(t.conns.take j).any (λh=>jf y.tuple h.tuple)<;>simp)
 have f2:=Lc t.waiting (f:=λj a=>(eM t.waiting t j a).nice) (P:=λj y=>y∈t.conns.map Conn.tuple∧(t.waiting.take j).any (λh=>jf y h)=false) (λj y hy=>by
  simp only[PX,eM,ah,getD_some hy,f8,qB,aed]
  rw[Et (jf y) t.waiting j y hy (ss _),←De]
  cases t.conns.any (λh=>jf y h.tuple)<;>cases(t.waiting.take j).any (λh=>jf y h)<;>simp)
 have f3:=Az Conn.tuple t.conns
 have f4:=Az (λx=>x) t.waiting
 rw[List.map_id']at f4
 have f5:aP (λj a=>(eJ t.conns t j a).nice) 1 (Int.toNat ((t.conns.length:Int)-0)) 0 ()= .next ()↔(∀c∈t.conns,CO c)∧(t.conns.map Conn.tuple).Nodup:=by
  rw[f1,←f3,←xj]
  exact⟨λh=>⟨λj y hy=>(h j y hy).1,λj y hy=>(h j y hy).2⟩,λh j y hy=>⟨h.1 j y hy,h.2 j y hy⟩⟩
 have f6:aP (λj a=>(eM t.waiting t j a).nice) 1 (Int.toNat ((t.waiting.length:Int)-0)) 0 ()= .next ()↔(∀w∈t.waiting,w∈t.conns.map Conn.tuple)∧t.waiting.Nodup:=by
  rw[f2,←f4,←xj]
  exact⟨λh=>⟨λj y hy=>(h j y hy).1,λj y hy=>(h j y hy).2⟩,λh j y hy=>⟨h.1 j y hy,h.2 j y hy⟩⟩
 have e:dK.f (t,l,())=true↔fo.f (l,())=true∧(t.conns.length:Int)≤l.conns∧(t.waiting.length:Int)≤l.waiting∧aP (λj a=>(eJ t.conns t j a).nice) 1 (Int.toNat ((t.conns.length:Int)-0)) 0 ()= .next ()∧aP (λj a=>(eM t.waiting t j a).nice) 1 (Int.toNat ((t.waiting.length:Int)-0)) 0 ()= .next ():=by
  simp only[PX,dK,fQ,f7]
  rw[show((t.conns.length:Int)≤l.conns)↔decide (l.conns<(t.conns.length:Int))=false by simp,show((t.waiting.length:Int)≤l.waiting)↔decide (l.waiting<(t.waiting.length:Int))=false by simp]
  cases fo.f (l,())<;>cases decide (l.conns<(t.conns.length:Int))<;>cases decide (l.waiting<(t.waiting.length:Int))<;>cases aP (λj a=>(eJ t.conns t j a).nice) 1 (Int.toNat ((t.conns.length:Int)-0)) 0 ()<;>cases aP (λj a=>(eM t.waiting t j a).nice) 1 (Int.toNat ((t.waiting.length:Int)-0)) 0 ()<;>simp[Stp.elim]
 rw[e,ab9,f5,f6]
 constructor
 ·rintro⟨h1,h2,h3,⟨h4,h5⟩,h6,h7⟩;exact⟨h1,h2,h3,h4,h5,h7,h6⟩
 ·rintro⟨h1,h2,h3,h4,h5,h7,h6⟩;exact⟨h1,h2,h3,⟨h4,h5⟩,h6,h7⟩
structure HO (xs:List Half):Prop where
 ok:∀h∈xs,uI h=true
 nd:(xs.map Half.tuple).Nodup
 len:xs.length≤64
theorem adf (xs:List Half):ff.f (xs,())=true↔HO xs:=by
 rw[QN]
 have f3:=Az Half.tuple xs
 constructor
 ·rintro⟨h1,h2⟩
  exact⟨xj.1 λj y hy=>(h1 j y hy).1,f3.1 λj y hy=>(h1 j y hy).2,h2⟩
 ·rintro⟨h1,h2,h3⟩
  exact⟨λj y hy=>⟨h1 y (mC hy),f3.2 h2 j y hy⟩,h3⟩
structure DO (d:Door):Prop where
 port:ae.f (d.port,16,())=true
 c0:0≤d.clock
 c1:d.clock≤4294967295
 keys:eg.f (d.keys,())=true
 tab:TO d.table d.limits
 hal:HO d.halves
 nh:(d.halves.length:Int)≤d.limits.halves
 k0:0≤d.chal
 k1:d.chal≤d.limits.chal
 ap:∀h∈d.halves,h.tuple∉d.table.conns.map Conn.tuple
theorem iH (d:Door):bO.f (d,())=true↔DO d:=by
 have e:bO.f (d,())=true↔ae.f (d.port,16,())=true∧ae.f (d.clock,32,())=true∧eg.f (d.keys,())=true∧dK.f (d.table,d.limits,())=true∧ff.f (d.halves,())=true∧(d.halves.length:Int)≤d.limits.halves∧(decide (0≤d.chal)&&decide (d.chal≤d.limits.chal))=true∧(d.halves.any (λh=>decide (0≤ar.f (d.table,h.tuple,()))))=false:=by
  simp only[PX,bO,MB,av]
  rw[show((d.halves.length:Int)≤d.limits.halves)↔decide (d.limits.halves<(d.halves.length:Int))=false by simp]
  generalize(decide (0≤d.chal)&&decide (d.chal≤d.limits.chal))=b1
  generalize decide (d.limits.halves<(d.halves.length:Int))=b2
  generalize(d.halves.any (λh=>decide (0≤ar.f (d.table,h.tuple,()))))=b3
  cases ae.f (d.port,16,())<;>cases ae.f (d.clock,32,())<;>cases eg.f (d.keys,())<;>cases dK.f (d.table,d.limits,())<;>cases ff.f (d.halves,())<;>cases b1<;>cases b2<;>cases b3<;>simp
 rw[e,YZ,adf,cf]
 simp only[Bool.and_eq_true,decide_eq_true_eq,f8,mc]
 have f:(d.halves.any λh=>d.table.conns.any λc=>jf h.tuple c.tuple)=false↔∀h∈d.halves,h.tuple∉d.table.conns.map Conn.tuple:=by
  rw[List.any_eq_false]
  constructor
  ·intro h x hx hm;exact h x hx ((De Conn.tuple _ _).2 hm)
  ·intro h x hx hm;exact h x hx ((De Conn.tuple _ _).1 hm)
 rw[f]
 constructor
 ·rintro⟨h1,⟨h2,h2'⟩,h3,h4,h5,h6,⟨h7,h8⟩,h9⟩;exact⟨h1,h2,h2',h3,h4,h5,h6,h7,h8,h9⟩
 ·rintro⟨h1,h2,h2',h3,h4,h5,h6,h7,h8,h9⟩;exact⟨h1,⟨h2,h2'⟩,h3,h4,h5,h6,⟨h7,h8⟩,h9⟩
def rY (r:List Piec):Nat:=(r.map (λp=>p.text.length)).sum
theorem PK (L:Int):∀(r:List Piec) (a b:Int),d8 L a r=some b→a+(rY r:Int)≤b
 |[],a,b,h=>by cases h;simp[rY]
 |p::r,a,b,h=>by
  simp only[d8]at h
  cases hc:((p.text==[])||decide (p.off≤a)||decide (L<p.off+(p.text.length:Int)))with
  |true=>rw[hc]at h;cases h
  |false=>
   rw[hc]at h
   simp only[Bool.or_eq_false_iff,decide_eq_false_iff_not]at hc
   have:=PK L r _ b h
   simp only[rY,List.map_cons,List.sum_cons]at this⊢
   omega
def mL (x:Recv):Int:=if x.done=true then 0 else 32-(x.data.length:Int)
theorem lV (x:Recv)(h:x.data.length≤32):0≤mL x∧mL x≤32:=by unfold mL;split<;>omega
structure RV (x:Recv):Prop where
 n0:0≤x.next
 n1:x.next≤4294967295
 dl:x.data.length≤32
 hl:x.held.length≤3
 f0: -1≤x.fin
 f1:x.fin≤mL x
 fz:x.fin≠0
 wk:∃b,d8 (if x.fin= -1 then mL x else x.fin) 0 x.held=some b
 dn:x.done=true→x.held=[]∧x.fin= -1
theorem gD (x:Recv)(h:x.data.length≤32):bB.f (x,())=mL x:=by
 simp only[PX,bB]
 unfold mL
 rw[am (by omega) (by omega)]
 cases x.done with
 |true=>rfl
 |false=>simp only[cond_false,Bool.false_eq_true,if_false];split<;>omega
theorem lw (x:Recv)(hs:bf x.held):bp.f (x,())=true↔RV x:=by
 simp only[PX,bp,fa,cf]
 by_cases hn:0≤x.next∧x.next≤4294967295
 ·rw[decide_eq_true hn.1,decide_eq_true hn.2]
  by_cases hd:32<(x.data.length:Int)
  ·rw[decide_eq_true hd]
   exact⟨λh=>(by cases h),λh=>by have:=h.dl;omega⟩
  ·rw[decide_eq_false hd,gD x (by omega)]
   have hw:=lV x (by omega)
   simp only[Bool.and_self,Bool.not_true,cond_false]
   by_cases hl:3<(x.held.length:Int)
   ·rw[decide_eq_true hl]
    exact⟨λh=>(by cases h),λh=>by have:=h.hl;omega⟩
   ·rw[decide_eq_false hl,av]
    simp only[cond_false]
    by_cases hf: -1≤x.fin∧x.fin≤mL x
    ·rw[decide_eq_true hf.1,decide_eq_true hf.2]
     simp only[Bool.and_self,Bool.not_true,cond_false]
     by_cases h0:x.fin=0
     ·rw[show(x.fin==0)=true by simp[h0]]
      exact⟨λh=>(by cases h),λh=>absurd h0 h.fz⟩
     ·rw[show(x.fin==0)=false by simp[h0]]
      simp only[cond_false]
      have ed:(bif !x.done then true else bif ((x.held.length:Int)==0)then(x.fin== -1)else false)=true↔(x.done=true→x.held=[]∧x.fin= -1):=by
       cases x.done with
       |false=>simp
       |true=>
        cases hh:x.held with
        |nil=>simp
        |cons p r=>
         have:(((p::r).length:Int)==0)=false:=by
          rw[beq_eq_false_iff_ne];simp only[List.length_cons];omega
         rw[this];simp
      have k2:=Xk x (if x.fin= -1 then mL x else x.fin) (by split<;>omega) (by split<;>omega) hs
      have fin:∀L:Int,L=(if x.fin= -1 then mL x else x.fin)→(Stp.elim (λ_=>bif !x.done then true else bif ((x.held.length:Int)==0)then(x.fin== -1)else false) (λ_=>false) (aP (λj a=>(dZ L x.held j a).nice) 1 (Int.toNat ((x.held.length:Int)-0)) 0 0)=true↔RV x):=by
       intro L hL
       rw[hL]
       cases hp:d8 (if x.fin= -1 then mL x else x.fin) 0 x.held with
       |some b=>
        rw[hp]at k2;simp only[]at k2
        rw[k2]
        simp only[Stp.elim]
        rw[ed]
        exact⟨λh=>⟨hn.1,hn.2,by omega,by omega,hf.1,hf.2,h0,⟨b,hp⟩,h⟩,λh=>h.dn⟩
       |none=>
        rw[hp]at k2;obtain⟨w,k2⟩:=k2
        rw[k2]
        simp only[Stp.elim]
        refine⟨λh=>(by cases h),λh=> ?_⟩
        obtain⟨b,hb⟩:=h.wk
        rw[hp]at hb;cases hb
      by_cases h1:x.fin= -1
      ·rw[show(x.fin != -1)=false by simp[h1]]
       exact fin (mL x) (by rw[if_pos h1])
      ·rw[show(x.fin != -1)=true by simp[h1]]
       exact fin x.fin (by rw[if_neg h1])
    ·have:(decide (-1≤x.fin)&&decide (x.fin≤mL x))=false:=by
      rw[Bool.and_eq_false_iff];simp only[decide_eq_false_iff_not];omega
     rw[this]
     exact⟨λh=>(by cases h),λh=>absurd ⟨h.f0,h.f1⟩ hf⟩
 ·have:(decide (0≤x.next)&&decide (x.next≤4294967295))=false:=by
   rw[Bool.and_eq_false_iff];simp only[decide_eq_false_iff_not];omega
  rw[this]
  exact⟨λh=>(by cases h),λh=>absurd ⟨h.n0,h.n1⟩ hn⟩
theorem RV.sum {x:Recv}(h:RV x):(rY x.held:Int)≤32:=by
 obtain⟨b,hb⟩:=h.wk
 have h1:=PK _ _ _ _ hb
 have h2:=(Mx _ _ _ _ hb).2
 have h3:=h.f1
 have h4:=h.f0
 have h5:=h.fz
 have h6:=lV x h.dl
 split at h2<;>omega
theorem P6 {T W:Type}(g:T→Int)(K M:Int)(xs:List T){F:Nat→T→Int→Stp Int W}(hg:∀x∈xs,0≤g x∧g x≤K)(hF:∀j x a,x∈xs→0≤a→a+K≤M→F j x a= .next (a+g x)):
  ∀(r:List T) (j:Nat) (a:Int),(∀x∈r,x∈xs)→0≤a→a+K*(r.length:Int)≤M→dF F j r a= .next (a+(r.map g).sum)∧0≤(r.map g).sum∧(r.map g).sum≤K*(r.length:Int)
 |[],j,a,_,_,_=>by simp[dF]
 |x::r,j,a,hr,ha,hm=>by
  have hx:=hr x (List.mem_cons_self ..)
  have h1:=hg x hx
  have e:K*((x::r).length:Int)=K*(r.length:Int)+K:=by
   rw[List.length_cons,Int.natCast_add,Int.mul_add,show((1:Nat):Int)=1 from rfl,Int.mul_one]
  have hK:0≤K*(r.length:Int):=Int.mul_nonneg (by omega) (by omega)
  have h2:=P6 g K M xs hg hF r (j+1) (a+g x) (λy hy=>hr y (List.mem_cons_of_mem _ hy)) (by omega) (by omega)
  simp only[dF,hF j x a hx ha (by omega),Stp.elim,h2.1,List.map_cons,List.sum_cons]
  refine⟨?_, ?_, ?_⟩
  ·congr 1;omega
  ·omega
  ·omega
def uY (c:Conn):Int:=128+(c.s.data.length:Int)+(c.r.data.length:Int)+(rY c.r.held:Int)
theorem Vi (p:Piec)(r:List Piec):(rY (p::r):Int)=(p.text.length:Int)+(rY r:Int):=by simp[rY]
theorem abV (W:Type):∀(r:List Piec) (j:Nat) (a:Int),0≤a→a+(rY r:Int)≤1000000→dF (W:=W) (λ_ p (a:Int)=> .next (IntKind.wrap .i64 (a+(p.text.length:Int)))) j r a= .next (a+(rY r:Int))
 |[],j,a,_,_=>by simp[dF,rY]
 |p::r,j,a,h0,h1=>by
  rw[Vi]at h1⊢
  simp only[dF,Stp.elim]
  rw[am (by omega) (by omega),abV W r (j+1) _ (by omega) (by omega)]
  congr 1;omega
theorem Wk (d:Door)(h1:d.halves.length≤64)(h2:d.table.waiting.length≤16)(h3:d.table.conns.length≤16)(h4:∀c∈d.table.conns,uY c≤240):∃s:Int,pm.f (d,())=64*(d.halves.length:Int)+8*(d.table.waiting.length:Int)+s∧s≤240*(d.table.conns.length:Int):=by
 simp only[PX,pm,gd]
 rw[aL,ci d.table.conns _ rfl (F:=λ_ c (a:Int)=>(jC [c] 1 0 a).nice) (by
  intro j x a h
  simp only[PX,jC,ah,getD_some h,di]
  rfl)]
 rw[am (m:=64*(d.halves.length:Int)) (by omega) (by omega),am (m:=8*(d.table.waiting.length:Int)) (by omega) (by omega),am (by omega) (by omega)]
 obtain⟨e,e1,e2⟩:=P6 (W:=Empty) uY 240 100000 d.table.conns (F:=λ_ c (a:Int)=>(jC [c] 1 0 a).nice) (λc hc=>⟨by unfold uY;omega,h4 c hc⟩) (λj c a hc ha hm=>by
  have hs:=h4 c hc
  unfold uY at hs
  simp only[PX,jC,di,show Int.toNat 0=0 from rfl,List.getD_cons_zero]
  rw[aL,ci c.r.held _ rfl (F:=λ_ p (a:Int)=> .next (IntKind.wrap .i64 (a+(p.text.length:Int)))) (by
   intro j x a h
   simp only[PX,tT,ah,getD_some h])]
  rw[am (m:=128+(c.s.data.length:Int)) (by omega) (by omega),am (m:=128+(c.s.data.length:Int)+(c.r.data.length:Int)) (by omega) (by omega),am (by omega) (by omega),abV Empty c.r.held 0 _ (by omega) (by omega)]
  simp only[Stp.elim,PX]
  unfold uY
  congr 1;omega) d.table.conns 0 (64*(d.halves.length:Int)+8*(d.table.waiting.length:Int)) (λ_ h=>h) (by omega) (by omega)
 rw[e]
 exact⟨_,rfl,e2⟩
theorem IE (l:Limi)(h:LO l):iJ.f (l,())=64*l.halves+240*l.conns+8*l.waiting:=by
 obtain⟨h1,h2,h3,h4,h5,h6,h7,h8⟩:=h
 simp only[PX,iJ,(ab9 l).2 ⟨h1,h2,h3,h4,h5,h6,h7,h8⟩,Bool.not_true,cond_false]
 rw[am (m:=64*l.halves) (by omega) (by omega),am (m:=240*l.conns) (by omega) (by omega),am (m:=8*l.waiting) (by omega) (by omega),am (m:=64*l.halves+240*l.conns) (by omega) (by omega),am (by omega) (by omega)]
theorem VJ (d:Door)(hd:DO d)(hs:fA d):pm.f (d,())≤iJ.f (d.limits,()):=by
 have t:=hd.tab
 have a1:=t.lim.h2
 have a2:=t.lim.w2
 have a3:=t.lim.c2
 have a4:=t.nc
 have a5:=t.nw
 have a6:=hd.nh
 obtain⟨s,e,qM⟩:=Wk d (by omega) (by omega) (by omega) (λc hc=>by
  have h1:=t.co c hc
  have h2:=(lw c.r (hs c hc)).1 h1.rcv
  have h3:=RV.sum h2
  have h4:=h2.dl
  have h5:=h1.snd.2.2.1
  unfold uY;omega)
 rw[e,IE _ t.lim]
 omega
theorem CO.set {c:Conn}(h:CO c)(k t r:Int)(hk:k=c.state∨k=8)(t0:0≤t)(t4:t≤4)(t3:k≠7→t≤3)(r0:0≤r)(r3:r≤3):CO ({c with state:=k,timer:=t,tries:=r}:Conn):=by
 have h1:=h.s1
 have h8:=h.s8
 refine⟨h.tup,h.snd,h.rcv,h.opt, ?_, ?_,h.m0,h.m1,h.w0,h.w1,t0,t4,t3,r0,r3, ?_⟩
 ·show 1≤k;omega
 ·show k≤8;omega
 ·show Zy k c.s.fin c.s.done c.r.done=true
  rcases hk with rfl|rfl
  ·exact h.fl
  ·rfl
theorem Nc (x:Sndr)(h:SO x):jP.f (x,())={x with sent:=0,finSent:=false}:=by
 simp only[PX,jP,(yF x).2 h,Bool.not_true,cond_false]
theorem abR {x:Sndr}(h:SO x):SO ({x with sent:=0,finSent:=false}:Sndr):=by
 obtain⟨h1,h2,h3,h4,h5,h6,h7⟩:=h
 exact⟨h1,h2,h3,Int.le_refl _,by show(0:Int)≤_;omega,λh=>(by cases h),λhd=>⟨(h7 hd).1,rfl,(h7 hd).2.2⟩⟩
theorem aeF (c:Conn)(h:CO c):CO (TC c).1∧(TC c).1.tuple=c.tuple∧(TC c).1.r=c.r:=by
 have hr:=Fn h
 have h7:c.state≠7→lu c≤3:=by
  intro hn;have:=h.t3 hn
  unfold lu;rw[if_neg hn];split<;>omega
 have r0:=h.r0
 have r3:=h.r3
 unfold TC
 by_cases hw:n8.f (c,())=true
 ·rw[if_pos hw]
  by_cases c1:0<lu c-1
  ·rw[if_pos c1]
   exact⟨CO.set h c.state (lu c-1) c.tries (.inl rfl) (by omega) (by omega) (λhn=>by have:=h7 hn;omega) r0 r3,rfl,rfl⟩
  ·rw[if_neg c1]
   by_cases c2:c.state=7
   ·rw[if_pos c2]
    exact⟨CO.set h 8 0 0 (.inr rfl) (by omega) (by omega) (λ_=>by omega) (by omega) (by omega),rfl,rfl⟩
   ·rw[if_neg c2]
    by_cases c3:c.tries=3
    ·rw[if_pos c3]
     exact⟨CO.set h 8 0 0 (.inr rfl) (by omega) (by omega) (λ_=>by omega) (by omega) (by omega),rfl,rfl⟩
    ·rw[if_neg c3]
     have hc':CO ({c with s:=jP.f (c.s,()),timer:=0,tries:=c.tries+1}:Conn):=by
      rw[Nc c.s h.snd]
      exact⟨h.tup,abR h.snd,h.rcv,h.opt,h.s1,h.s8,h.m0,h.m1,h.w0,h.w1,Int.le_refl _,by show(0:Int)≤4;omega,λ_=>by show(0:Int)≤3;omega,by show 0≤c.tries+1;omega,by show c.tries+1≤3;omega,h.fl⟩
     have hS:=FO _ (if c.window=0 then 1 else c.window) hc'.snd
     have hp:=Sent.ok hS hc' (.inl (by
      rcases hS.tm with e|e
      ·rw[e];show(0:Int)≤3;omega
      ·rw[e];omega))
     refine⟨CO.set hp _ 3 _ (.inl rfl) (by omega) (by omega) (λ_=>by omega) hp.r0 hp.r3, ?_, ?_⟩
     ·have e:=congrArg Conn.tuple hS.re;exact e
     ·have e:=congrArg Conn.r hS.re;exact e
 ·rw[if_neg hw,if_pos ((qA c).2 h)]
  exact⟨CO.set h c.state 0 0 (.inl rfl) (by omega) (by omega) (λ_=>by omega) (by omega) (by omega),rfl,rfl⟩
theorem ad7 (xs:List Half)(h:HO xs):HO (qg xs):=by
 refine⟨?_, ?_, ?_⟩
 ·intro y hy
  unfold qg at hy
  rw[List.mem_map]at hy
  obtain⟨x,hx,rfl⟩:=hy
  rw[List.mem_filter]at hx
  have h1:=h.ok x hx.1
  have h2:x.age<6:=by simpa using hx.2
  unfold uI at h1⊢
  simp only[Bool.and_eq_true,decide_eq_true_eq]at h1⊢
  obtain⟨a1,a2,a3,a4,a5,a6,a7⟩:=h1
  rw[am (by omega) (by omega)]
  exact⟨a1,a2,a3,a4,a5,by omega,by omega⟩
 ·have e:(qg xs).map Half.tuple=(xs.filter (λh=>decide (h.age<6))).map Half.tuple:=by
   unfold qg;rw[List.map_map];rfl
  rw[e]
  exact List.Nodup.sublist (List.Sublist.map _ (List.filter_sublist)) h.nd
 ·unfold qg
  rw[List.length_map]
  have:=List.length_filter_le (λh:Half=>decide (h.age<6)) xs
  have:=h.len
  omega
theorem He (xs:List Conn)(h:∀c∈xs,CO c):(eE xs).map Conn.tuple=xs.map Conn.tuple:=by
 unfold eE
 rw[List.map_map]
 apply List.map_congr_left
 intro c hc
 exact(aeF c (h c hc)).2.1
theorem ad9 (t:Tabl)(l:Limi)(h:TO t l):TO (mt ⟨eE t.conns,t.waiting⟩) l:=by
 have hm:=He t.conns h.co
 have hl:(eE t.conns).length=t.conns.length:=by unfold eE;rw[List.length_map]
 refine⟨h.lim, ?_, ?_, ?_, ?_, ?_, ?_⟩
 ·have:=List.length_filter_le (lv ⟨eE t.conns,t.waiting⟩) (eE t.conns)
  have h2:=h.nc
  show((List.filter _ _).length:Int)≤_
  simp only[]at this⊢;omega
 ·have:=List.length_filter_le (mS ⟨eE t.conns,t.waiting⟩) t.waiting
  have h2:=h.nw
  show((List.filter _ _).length:Int)≤_
  simp only[]at this⊢;omega
 ·intro c hc
  have hc1:c∈eE t.conns:=(List.mem_filter.1 hc).1
  unfold eE at hc1
  rw[List.mem_map]at hc1
  obtain⟨x,hx,rfl⟩:=hc1
  exact(aeF x (h.co x hx)).1
 ·refine List.Nodup.sublist (List.Sublist.map _ (List.filter_sublist)) ?_
  show((eE t.conns).map Conn.tuple).Nodup
  rw[hm];exact h.dc
 ·exact List.Nodup.sublist (List.filter_sublist) h.dw
 ·intro w hw
  have hw1:w∈t.waiting:=(List.mem_filter.1 hw).1
  have hw2:=h.wc w hw1
  rw[←hm,List.mem_map]at hw2
  obtain⟨c,hc,rfl⟩:=hw2
  rw[List.mem_map]
  refine⟨c,List.mem_filter.2 ⟨hc, ?_⟩,rfl⟩
  unfold lv
  have:t.waiting.any (jf c.tuple)=true:=by
   rw[List.any_eq_true];exact⟨_,hw1,ss _⟩
  simp only[this]
  cases(c.state != 8)<;>rfl
theorem aee (d:Door)(h:DO d):DO ({d with clock:=bR.f (d.clock,1,()),chal:=0,halves:=qg d.halves,table:=mt ⟨eE d.table.conns,d.table.waiting⟩}:Door):=by
 have k0:=h.k0
 have k1:=h.k1
 have hm:=He d.table.conns h.tab.co
 refine⟨h.port, ?_, ?_,h.keys,ad9 _ _ h.tab,ad7 _ h.hal, ?_,Int.le_refl _, ?_, ?_⟩
 ·show 0≤bR.f (d.clock,1,());rw[bL];omega
 ·show bR.f (d.clock,1,())≤4294967295;rw[bL];omega
 ·show((qg d.halves).length:Int)≤d.limits.halves
  unfold qg
  rw[List.length_map]
  have:=List.length_filter_le (λh:Half=>decide (h.age<6)) d.halves
  have:=h.nh
  omega
 ·show 0≤d.limits.chal;omega
 ·intro y hy hm2
  have hy2:∃x∈d.halves,x.tuple=y.tuple:=by
   have hy1:y∈qg d.halves:=hy
   unfold qg at hy1
   rw[List.mem_map]at hy1
   obtain⟨x,hx,rfl⟩:=hy1
   exact⟨x,(List.mem_filter.1 hx).1,rfl⟩
  obtain⟨x,hx,e⟩:=hy2
  refine h.ap x hx ?_
  rw[e,←hm]
  exact(List.Sublist.map Conn.tuple (List.filter_sublist (p:=lv ⟨eE d.table.conns,d.table.waiting⟩))).subset hm2
theorem Nq {h:Half}(hh:uI h=true):0≤h.age∧h.age≤6:=by
 unfold uI at hh
 simp only[Bool.and_eq_true,decide_eq_true_eq]at hh
 exact hh.2.2.2.2.2
def t6 (p:Piec):Int:=p.off+(p.text.length:Int)
def N3:List Piec→Int→List Int→List Piec
 |out,_,[]=>out
 |out,i,s::r=>if s<0 then N3 out (i+1) r else
  match out.getLast? with
  |none=>N3 (out++[⟨i,aw [s]⟩]) (i+1) r
  |some p=>if t6 p=i then N3 (out.dropLast++[⟨p.off,p.text++aw [s]⟩]) (i+1) r else N3 (out++[⟨i,aw [s]⟩]) (i+1) r
def cP:Nat→Int→List Int→List Piec
 |_,_,[]=>[]
 |0,_,_::_=>[]
 |k+1,i,s::r=>if s<0 then cP k (i+1) r else
  ⟨i,aw (s::r.takeWhile (λx=>decide (0≤x)))⟩::cP k (i+1+((r.takeWhile (λx=>decide (0≤x))).length:Int)) (r.dropWhile (λx=>decide (0≤x)))
theorem Gu (a b:List Int):aw (a++b)=aw a++aw b:=by simp[aw]
theorem Zx (out:List Piec)(o:Int)(x:aa):∀(t r:List Int) (x:aa),(∀s∈t,0≤s)→N3 (out++[⟨o,x⟩]) (o+(x.length:Int)) (t++r)=N3 (out++[⟨o,x++aw t⟩]) (o+(x.length:Int)+(t.length:Int)) r
 |[],r,x,_=>by simp[aw]
 |s::t,r,x,h=>by
  have hs:¬s<0:=by have:=h s (List.mem_cons_self ..);omega
  have ih:=Zx out o x t r (x++aw [s]) (λy hy=>h y (List.mem_cons_of_mem _ hy))
  simp only[List.cons_append,N3,if_neg hs,List.getLast?_append,List.getLast?_singleton,Option.some_or,t6,if_true,List.dropLast_concat]
  have e:o+(x.length:Int)+1=o+((x++aw [s]).length:Int):=by rw[List.length_append,bA];simp;omega
  rw[e,ih]
  rw[List.append_assoc,←Gu]
  congr 1
  rw[List.length_append,bA];simp;omega
theorem JE:∀(k:Nat) (out:List Piec) (i:Int) (r:List Int),r.length≤k→(∀p,out.getLast? =some p→t6 p<i)→N3 out i r=out++cP k i r
 |_,out,i,[],_,_=>by simp[N3,cP]
 |0,_,_,_::_,h,_=>by simp at h
 |k+1,out,i,s::r,h,hl=>by
  simp only[List.length_cons]at h
  by_cases hs:s<0
  ·simp only[N3,cP,if_pos hs]
   exact JE k out (i+1) r (by omega) (λp hp=>by have:=hl p hp;omega)
  ·have e0:N3 out i (s::r)=N3 (out++[⟨i,aw [s]⟩]) (i+1) r:=by
    simp only[N3,if_neg hs]
    cases hg:out.getLast? with
    |none=>rfl
    |some p=>simp only[if_neg (show¬t6 p=i by have:=hl p hg;omega)]
   simp only[cP,if_neg hs]
   rw[e0]
   have hr:r=r.takeWhile (λx=>decide (0≤x))++r.dropWhile (λx=>decide (0≤x)):=(List.takeWhile_append_dropWhile).symm
   have hrun:=Zx out i (aw [s]) (r.takeWhile (λx=>decide (0≤x))) (r.dropWhile (λx=>decide (0≤x))) (aw [s]) (λy hy=>by
    have:=List.all_eq_true.1 (List.all_takeWhile (p:=λx:Int=>decide (0≤x)) (l:=r)) y hy;simpa using this)
   rw[←hr,show((aw [s]).length:Int)=1 by simp[bA]]at hrun
   rw[hrun,←Gu,List.singleton_append]
   generalize hT:r.takeWhile (λx=>decide (0≤x))=T at*
   generalize hD:r.dropWhile (λx=>decide (0≤x))=D at*
   have hDl:D.length≤k:=by
    have:=congrArg List.length hr
    rw[List.length_append]at this;omega
   cases D with
   |nil=>simp[N3,cP]
   |cons d D=>
    have hd:d<0:=by
     have:=List.head?_dropWhile_not (λx=>decide (0≤x)) r
     rw[hD]at this
     simp at this;omega
    cases k with
    |zero=>simp at hDl
    |succ k=>
     simp only[N3,cP,if_pos hd]
     simp only[List.length_cons]at hDl
     rw[JE k _ _ D (by omega) (λp hp=>by
      simp only[List.getLast?_append,List.getLast?_singleton,Option.some_or,Option.some.injEq]at hp
      subst hp
      simp only[t6,bA,List.length_cons]
      omega)]
     simp
theorem uJ {p:Int→Bool}:∀(r:List Int) (j:Nat),j<(r.takeWhile p).length→∃s,r[j]? =some s∧p s=true
 |[],j,h=>by simp at h
 |s::r,j,h=>by
  cases hp:p s with
  |false=>simp[List.takeWhile_cons,hp]at h
  |true=>
   cases j with
   |zero=>exact⟨s,rfl,hp⟩
   |succ j=>
    simp only[List.takeWhile_cons,hp,if_true,List.length_cons]at h
    obtain⟨t,h1,h2⟩:=uJ (p:=p) r j (by omega)
    exact⟨t,by simpa using h1,h2⟩
theorem Fv (L:Int):∀(k:Nat) (i:Int) (r:List Int) (a:Int),r.length≤k→a<i→(∀(p:Nat) (s:Int),r[p]? =some s→0≤s→i+(p:Int)+1≤L)→∃b,d8 L a (cP k i r)=some b
 |0,_,[],a,_,_,_=>⟨a,by simp[cP,d8]⟩
 |_+1,_,[],a,_,_,_=>⟨a,by simp[cP,d8]⟩
 |0,_,_::_,_,h,_,_=>by simp at h
 |k+1,i,s::r,a,h,ha,hL=>by
  simp only[List.length_cons]at h
  by_cases hs:s<0
  ·simp only[cP,if_pos hs]
   exact Fv L k (i+1) r a (by omega) (by omega) (λp t hp ht=>by
    have:=hL (p+1) t (by simpa using hp) ht;omega)
  ·simp only[cP,if_neg hs,d8]
   generalize hT:r.takeWhile (λx=>decide (0≤x))=T at*
   have hn:(aw (s::T)==[])=false:=by rw[beq_eq_false_iff_ne];simp[aw]
   have hend:i+((aw (s::T)).length:Int)≤L:=by
    rw[bA,List.length_cons]
    rcases Nat.eq_zero_or_pos T.length with h0|h0
    ·have:=hL 0 s rfl (by omega);omega
    ·obtain⟨t,h1,h2⟩:=uJ (p:=λx:Int=>decide (0≤x)) r (T.length-1) (by rw[hT];omega)
     have:=hL (T.length-1+1) t (by simpa using h1) (by simpa using h2)
     omega
   rw[hn,decide_eq_false (show¬i≤a by omega),decide_eq_false (show¬L<i+((aw (s::T)).length:Int) by omega)]
   simp only[Bool.or_false,cond_false]
   have hr:r=T++r.dropWhile (λx=>decide (0≤x)):=by rw[←hT];exact(List.takeWhile_append_dropWhile).symm
   generalize hD:r.dropWhile (λx=>decide (0≤x))=D at*
   have hDl:D.length≤k:=by
    have:=congrArg List.length hr
    rw[List.length_append]at this;omega
   cases D with
   |nil=>exact⟨_,by simp[cP,d8];rfl⟩
   |cons d D=>
    have hd:d<0:=by
     have:=List.head?_dropWhile_not (λx=>decide (0≤x)) r
     rw[hD]at this
     simp at this;omega
    cases k with
    |zero=>simp at hDl
    |succ k=>
     simp only[cP,if_pos hd]
     simp only[List.length_cons]at hDl
     rw[bA,List.length_cons]
     exact Fv L k _ D _ (by omega) (by omega) (λp t hp ht=>by
      have:=hL (1+T.length+(p+1)) t (by
       rw[hr,show 1+T.length+(p+1)=(T.length+(p+1))+1 by omega,List.getElem?_cons_succ,List.getElem?_append_right (by omega),show T.length+(p+1)-T.length=p+1 by omega]
       simpa using hp) ht
      omega)
theorem KT:∀(k:Nat) (i:Int) (r:List Int),(∀s∈r,s<0)→cP k i r=[]
 |0,_,[],_=>by simp[cP]
 |0,_,_::_,_=>by simp[cP]
 |_+1,_,[],_=>by simp[cP]
 |k+1,i,s::r,h=>by
  simp only[cP,if_pos (h s (List.mem_cons_self ..))]
  exact KT k (i+1) r (λt ht=>h t (List.mem_cons_of_mem _ ht))
def aK (sl:List Int):Nat:=(sl.takeWhile (λx=>decide (0≤x))).length
theorem tQ (sl:List Int)(j:Nat)(h:j<aK sl):∃s,sl[j]? =some s∧0≤s:=by
 obtain⟨s,h1,h2⟩:=uJ (p:=λx:Int=>decide (0≤x)) sl j h
 exact⟨s,h1,by simpa using h2⟩
theorem E0 (sl:List Int)(s:Int)(h:sl[aK sl]? =some s):s<0:=by
 unfold aK at h
 have e:sl=sl.takeWhile (λx=>decide (0≤x))++sl.dropWhile (λx=>decide (0≤x)):=(List.takeWhile_append_dropWhile).symm
 have h2:(sl.dropWhile (λx=>decide (0≤x)))[0]? =some s:=by
  have h3:=h
  rw[e,List.getElem?_append_right (by rw[←e];exact Nat.le_refl _)]at h3
  rw[←e,Nat.sub_self]at h3
  exact h3
 have:=List.head?_dropWhile_not (λx:Int=>decide (0≤x)) sl
 rw[List.head?_eq_getElem?,h2]at this
 simp at this;omega
def VT (x:Recv)(sl:List Int)(F:Int):Recv:=
 if 3<(cP 33 0 (sl.drop (aK sl))).length then x
 else if F-(aK sl:Int)=0 then⟨(x.next+(aK sl:Int)+1)%4294967296,x.data++aw (sl.take (aK sl)),cP 33 0 (sl.drop (aK sl)),-1,true⟩
 else⟨(x.next+(aK sl:Int))%4294967296,x.data++aw (sl.take (aK sl)),cP 33 0 (sl.drop (aK sl)),if F= -1 then-1 else F-(aK sl:Int),x.done⟩
theorem Zt (x:Recv)(sl:List Int)(F:Int)(hx:RV x)(hd:x.done=false)(hl:sl.length=33)(h0: -1≤F)(hF:F≤mL x)(hz:∀(k:Nat) (s:Int),sl[k]? =some s→0≤s→(k:Int)<(if F= -1 then mL x else F)):RV (VT x sl F):=by
 have hw:mL x=32-(x.data.length:Int):=by unfold mL;rw[hd];rfl
 have hdl:=hx.dl
 have hn:(aK sl:Int)≤(if F= -1 then mL x else F):=by
  rcases Nat.eq_zero_or_pos (aK sl)with h|h
  ·rw[h];split<;>omega
  ·obtain⟨s,h1,h2⟩:=tQ sl (aK sl-1) (by omega)
   have:=hz _ s h1 h2
   omega
 have hn2:(aK sl:Int)≤mL x:=by split at hn<;>omega
 have htk:(sl.take (aK sl)).length=aK sl:=by rw[List.length_take];omega
 have hdd:∀(p:Nat) (s:Int),(sl.drop (aK sl))[p]? =some s→0≤s→(p:Int)+1≤(if F= -1 then mL x else F)-(aK sl:Int)∧0<p:=by
  intro p s hp hs
  rw[List.getElem?_drop]at hp
  have h1:=hz _ s hp hs
  refine⟨by omega, ?_⟩
  rcases Nat.eq_zero_or_pos p with h|h
  ·subst h
   have:=E0 sl s (by simpa using hp)
   omega
  ·exact h
 have hwk:∃b,d8 ((if F= -1 then mL x else F)-(aK sl:Int)) 0 (cP 33 0 (sl.drop (aK sl)))=some b:=by
  cases hD:sl.drop (aK sl)with
  |nil=>exact⟨0,by simp[cP,d8]⟩
  |cons d D=>
   have hd0:d<0:=by
    apply Int.not_le.1
    intro h
    have:=(hdd 0 d (by rw[hD];rfl) h).2
    omega
   have hDl:D.length≤32:=by
    have:=congrArg List.length hD
    rw[List.length_drop,List.length_cons]at this;omega
   show∃b,d8 _ 0 (cP (32+1) 0 (d::D))=some b
   simp only[cP,if_pos hd0]
   exact Fv _ 32 (0+1) D 0 hDl (by omega) (λp s hp hs=>by
    have:=(hdd (p+1) s (by rw[hD];simpa using hp) hs).1
    omega)
 unfold VT
 by_cases h3:3<(cP 33 0 (sl.drop (aK sl))).length
 ·rw[if_pos h3];exact hx
 ·rw[if_neg h3]
  by_cases h4:F-(aK sl:Int)=0
  ·rw[if_pos h4]
   have hne:∀s∈sl.drop (aK sl),s<0:=by
    intro s hs
    obtain⟨p,hp,rfl⟩:=List.getElem_of_mem hs
    apply Int.not_le.1
    intro h
    have:=(hdd p _ (List.getElem?_eq_getElem hp) h).1
    have hm1:F≠-1:=by omega
    rw[if_neg hm1]at this
    omega
   rw[KT _ _ _ hne]
   refine⟨by show 0≤(x.next+(aK sl:Int)+1)%4294967296;omega,by show(x.next+(aK sl:Int)+1)%4294967296≤4294967295;omega, ?_,Nat.zero_le _,Int.le_refl _, ?_,by show(-1:Int)≠0;omega,⟨0,by simp[d8]⟩,λ_=>⟨rfl,rfl⟩⟩
   ·show(x.data++aw (sl.take (aK sl))).length≤32
    rw[List.length_append,bA,htk];omega
   ·show(-1:Int)≤mL _
    unfold mL;rw[if_pos rfl];omega
  ·rw[if_neg h4]
   have hlen:(x.data++aw (sl.take (aK sl))).length=x.data.length+aK sl:=by rw[List.length_append,bA,htk]
   have hwin:∀(nx:Int) (hh:List Piec) (f:Int),mL ⟨nx,x.data++aw (sl.take (aK sl)),hh,f,x.done⟩=mL x-(aK sl:Int):=by
    intro nx hh f
    unfold mL
    simp only[hd,Bool.false_eq_true,if_false,hlen]
    omega
   refine⟨by show 0≤(x.next+(aK sl:Int))%4294967296;omega,by show(x.next+(aK sl:Int))%4294967296≤4294967295;omega,by show(x.data++aw (sl.take (aK sl))).length≤32;omega,by show(cP 33 0 (sl.drop (aK sl))).length≤3;omega, ?_, ?_, ?_, ?_,λh=>by rw[show({next:=(x.next+(aK sl:Int))%4294967296,data:=x.data++aw (sl.take (aK sl)),held:=cP 33 0 (sl.drop (aK sl)),fin:=if F= -1 then-1 else F-(aK sl:Int),done:=x.done}:Recv).done=x.done from rfl,hd]at h;cases h⟩
   ·show-1≤(if F= -1 then-1 else F-(aK sl:Int))
    split
    ·omega
    ·rename_i hm;rw[if_neg hm]at hn;omega
   ·show(if F= -1 then-1 else F-(aK sl:Int))≤mL _
    rw[hwin]
    split<;>omega
   ·show(if F= -1 then-1 else F-(aK sl:Int))≠0
    split<;>omega
   ·show∃b,d8 (if(if F= -1 then-1 else F-(aK sl:Int))= -1 then mL _ else(if F= -1 then-1 else F-(aK sl:Int))) 0 (cP 33 0 (sl.drop (aK sl)))=some b
    rw[hwin]
    by_cases hm:F= -1
    ·simp only[if_pos hm]at hwk⊢
     exact hwk
    ·rw[if_neg hm]at hn
     simp only[if_neg hm]at hwk⊢
     rw[if_neg (show¬F-(aK sl:Int)= -1 by omega)]
     exact hwk
def sj:List Int→Nat→aa→List Int
 |sl,_,[]=>sl
 |sl,o,b::t=>sj (sl.set o (b.toNat:Int)) (o+1) t
theorem KK:∀(t:aa) (sl:List Int) (o:Nat),(sj sl o t).length=sl.length
 |[],_,_=>rfl
 |_::t,sl,o=>by simp only[sj,KK t,List.length_set]
def oD (held:List Piec):List Int:=held.foldl (λsl p=>sj sl p.off.toNat p.text) (List.replicate 33 (-1))
theorem jV (t:aa)(k:Nat)(hk:k<t.length):ai t k=(t[k].toNat:Int):=by
 simp[ai,List.getD,hk]
theorem qT (b:UInt8):(b.toNat:Int)≤255:=by have:=b.toNat_lt;omega
theorem Y7 (p:Piec)(h1:1≤p.off)(h2:p.off+(p.text.length:Int)≤32){f:Int×List Int→Stp (Int×List Int) (List Int)}(hf:∀(k:Nat) sl,f ((k:Int),sl)=bif decide ((k:Int)<(p.text.length:Int))then .next (IntKind.wrap .i64 ((k:Int)+1),sl.set (IntKind.wrap .i64 (p.off+(k:Int))).toNat (IntKind.wrap .i64 (ai p.text k)))else .out sl):∀(n k:Nat) (sl:List Int),k+n=p.text.length→cm f (n+1) ((k:Int),sl)=sj sl (p.off.toNat+k) (p.text.drop k)
 |0,k,sl,h=>by
  simp only[cm,hf,decide_eq_false (show¬(k:Int)<(p.text.length:Int) by omega),cond_false,Stp.elim]
  rw[List.drop_of_length_le (by omega)]
  rfl
 |n+1,k,sl,h=>by
  have hk:k<p.text.length:=by omega
  rw[cm]
  simp only[hf,decide_eq_true (show(k:Int)<(p.text.length:Int) by omega),cond_true,Stp.elim]
  rw[am (m:=p.off+(k:Int)) (by omega) (by omega),am (m:=(k:Int)+1) (by omega) (by omega),jV _ _ hk,am (by omega) (by have:=qT p.text[k];omega)]
  rw[show(k:Int)+1=((k+1:Nat):Int) by omega,show(p.off+(k:Int)).toNat=p.off.toNat+k by omega]
  rw[Y7 p h1 h2 hf n (k+1) _ (by omega),List.drop_eq_getElem_cons hk]
  rfl
theorem XF (x:Recv)(h:cX po x.held):vS.f (x,())=oD x.held:=by
 have e0:aP (λj a=>(xP j a).nice) 1 (Int.toNat (((List.replicate 33 (0:Int)).length:Int)-0)) 0 (List.replicate 33 (0:Int))= .next (List.replicate 33 (-1)):=by rfl
 simp only[PX,vS,cu,fc]
 rw[e0]
 simp only[Stp.elim]
 rw[aL,ci x.held _ rfl (F:=λ_ p (a:List Int)=> .next (sj a p.off.toNat p.text)) (by
  intro j p a hp
  have hpo:=h p (mC hp)
  unfold po at hpo
  have:=Y7 p hpo.1 hpo.2 (f:=λa=>(nm (j:Int) x a).nice) (λk sl=>by
   simp only[nm,PX,ah,getD_some hp]) p.text.length 0 a (by omega)
  simp only[PX,xT,dX,ah,getD_some hp]
  rw[show Int.toNat ((p.text.length:Int)-0)=p.text.length by omega]
  exact congrArg Stp.next this)]
 have:∀(r:List Piec) (j:Nat) (a:List Int),dF (W:=Empty) (λ_ p (a:List Int)=> .next (sj a p.off.toNat p.text)) j r a= .next (r.foldl (λsl p=>sj sl p.off.toNat p.text) a):=by
  intro r
  induction r with
  |nil=>intro j a;rfl
  |cons p r ih=>intro j a;simp only[dF,Stp.elim,ih,List.foldl_cons]
 rw[this]
 simp only[Stp.elim]
 rfl
theorem aeC {m:Int}(h0:0≤m)(h1:m≤255):IntKind.wrap .u8 m=m:=by
 rw[rQ];omega
def Cr (x:Recv)(seq w:Int)(sl:List Int)(j:Nat)(b:UInt8):List Int:=
 if(seq+(j:Int)-x.next)%4294967296<w∧(x.fin<0∨(seq+(j:Int)-x.next)%4294967296<x.fin)∧sl.getD ((seq+(j:Int)-x.next)%4294967296).toNat 0<0 then sl.set ((seq+(j:Int)-x.next)%4294967296).toNat (b.toNat:Int)else sl
def A6 (x:Recv)(seq w:Int):List Int→Nat→aa→List Int
 |sl,_,[]=>sl
 |sl,j,b::t=>A6 x seq w (Cr x seq w sl j b) (j+1) t
theorem acx (x:Recv)(seq w:Int)(sl:List Int)(j:Nat)(b:UInt8):(Cr x seq w sl j b).length=sl.length:=by
 unfold Cr;split<;>simp
theorem UK (x:Recv)(seq w:Int):∀(t:aa) (sl:List Int) (j:Nat),(A6 x seq w sl j t).length=sl.length
 |[],_,_=>rfl
 |b::t,sl,j=>by simp only[A6,UK x seq w t,acx]
theorem Zq (a n:Int):((a%4294967296)-n)%4294967296=(a-n)%4294967296:=by omega
theorem Pr {A W:Type}(z:A→A)(g:List Int→Nat→UInt8→List Int):∀(t:aa) (j:Nat) (r:A) (sl:List Int),∃r2,dF (W:=W) (λj b (a:A×List Int)=> .next (z a.1,g a.2 j b)) j t (r,sl)= .next (r2,(t.foldl (λ(p:List Int×Nat) b=>(g p.1 p.2 b,p.2+1)) (sl,j)).1)
 |[],j,r,sl=>⟨r,rfl⟩
 |b::t,j,r,sl=>by
  obtain⟨r2,e⟩:=Pr z g t (j+1) (z r) (g sl j b)
  refine⟨r2, ?_⟩
  simp only[dF,Stp.elim,List.foldl_cons]
  exact e
theorem Qo (x:Recv)(seq w:Int):∀(t:aa) (sl:List Int) (j:Nat),(t.foldl (λ(p:List Int×Nat) b=>(Cr x seq w p.1 p.2 b,p.2+1)) (sl,j)).1=A6 x seq w sl j t
 |[],_,_=>rfl
 |b::t,sl,j=>by simp only[List.foldl_cons,A6,Qo x seq w t]
theorem afT (x:Recv)(seq w:Int)(t:aa)(hn:0≤x.next∧x.next≤4294967295)(ht:t.length≤4294967296)(r:Recv)(sl:List Int):∃r2,aP (λj a=>(sD seq t w x j a).nice) 1 (Int.toNat ((t.length:Int)-0)) 0 (r,sl)= .next (r2,A6 x seq w sl 0 t):=by
 obtain⟨r2,e⟩:=Pr (W:=Empty) (λr:Recv=>({r with held:=[]}:Recv)) (Cr x seq w) t 0 r sl
 refine⟨r2, ?_⟩
 rw[aL,ci t _ rfl (F:=λj b (a:Recv×List Int)=> .next (({a.1 with held:=[]}:Recv),Cr x seq w a.2 j b)) (by
  intro j b a hb
  have hbt:ai t j=(b.toNat:Int):=by simp[ai,List.getD,hb]
  have hb8:=qT b
  have e1:(IntKind.wrap .i64 ((seq+(j:Int))%4294967296-x.next))%4294967296=(seq+(j:Int)-x.next)%4294967296:=by
   rw[am (by omega) (by omega),Zq]
  simp only[PX,sD,kx,bL,mQ,ah,hbt,e1]
  rw[am (by omega) (by omega)]
  unfold Cr
  generalize(seq+(j:Int)-x.next)%4294967296=o
  by_cases c1:o<w
  ·by_cases c2:x.fin<0
   ·by_cases c3:a.2.getD o.toNat 0<0
    ·simp only[decide_eq_true c1,decide_eq_true c2,decide_eq_true c3,cond_true,if_pos (show o<w∧(x.fin<0∨o<x.fin)∧a.2.getD o.toNat 0<0 from⟨c1,.inl c2,c3⟩)]
    ·simp only[decide_eq_true c1,decide_eq_true c2,decide_eq_false c3,cond_true,cond_false,if_neg (show¬(o<w∧(x.fin<0∨o<x.fin)∧a.2.getD o.toNat 0<0) from λh=>c3 h.2.2)]
   ·by_cases c4:o<x.fin
    ·by_cases c3:a.2.getD o.toNat 0<0
     ·simp only[decide_eq_true c1,decide_eq_false c2,decide_eq_true c4,decide_eq_true c3,cond_true,cond_false,if_pos (show o<w∧(x.fin<0∨o<x.fin)∧a.2.getD o.toNat 0<0 from⟨c1,.inr c4,c3⟩)]
     ·simp only[decide_eq_true c1,decide_eq_false c2,decide_eq_true c4,decide_eq_false c3,cond_true,cond_false,if_neg (show¬(o<w∧(x.fin<0∨o<x.fin)∧a.2.getD o.toNat 0<0) from λh=>c3 h.2.2)]
    ·simp only[decide_eq_true c1,decide_eq_false c2,decide_eq_false c4,cond_true,cond_false,if_neg (show¬(o<w∧(x.fin<0∨o<x.fin)∧a.2.getD o.toNat 0<0) from λh=>h.2.1.elim c2 c4)]
  ·simp only[decide_eq_false c1,cond_false,if_neg (show¬(o<w∧(x.fin<0∨o<x.fin)∧a.2.getD o.toNat 0<0) from λh=>c1 h.1)])]
 rw[e,Qo]
theorem ZU (sl:List Int)(e:Nat)(he:e≤sl.length):vq.f (sl,(e:Int),())=(sl.drop e).all (λs=>decide (s<0)):=by
 have key:∀(n j:Nat),j+n=sl.length→aP (λj a=>(oj sl j a).nice) 1 n (j:Int) ()=bif (sl.drop j).all (λs=>decide (s<0))then .next ()else .out ():=by
  intro n
  induction n with
  |zero=>intro j h;rw[List.drop_of_length_le (by omega)];rfl
  |succ n ih=>
   intro j h
   have hj:j<sl.length:=by omega
   have ih:=ih (j+1) (by omega)
   rw[List.drop_eq_getElem_cons hj,List.all_cons]
   simp only[oj,PX]at ih
   simp only[aP,oj,PX,ah,getD_some (List.getElem?_eq_getElem hj)]
   by_cases h0:0≤sl[j]
   ·rw[decide_eq_true h0,decide_eq_false (show¬sl[j]<0 by omega)];rfl
   ·rw[decide_eq_false h0,decide_eq_true (show sl[j]<0 by omega)]
    simp only[cond_false,Stp.elim,Bool.true_and]
    rw[show(j:Int)+1=((j+1:Nat):Int) by omega]
    exact ih
 simp only[PX,vq,ne]
 rw[show Int.toNat ((sl.length:Int)-(e:Int))=sl.length-e by omega,key _ _ (by omega)]
 cases(sl.drop e).all (λs=>decide (s<0))<;>rfl
theorem aco (sl:List Int)(hr:∀s∈sl,s≤255)(hl:aK sl<sl.length):∀(n j:Nat) (r:Recv),j+n=aK sl→aP (λj a=>(kN sl j a).nice) 1 (sl.length-j) (j:Int) (r,sl.take j)= .out ((aK sl:Int),({r with held:=[]}:Recv),sl.take (aK sl))
 |0,j,r,h=>by
  have hj:j=aK sl:=by omega
  subst hj
  have hg:=List.getElem?_eq_getElem hl
  have h0:=E0 sl _ hg
  rw[show sl.length-aK sl=(sl.length-aK sl-1)+1 by omega]
  simp only[aP,kN,PX,ah,getD_some hg,decide_eq_false (show¬0≤sl[aK sl] by omega),cond_false,Stp.elim]
 |n+1,j,r,h=>by
  obtain⟨s,hs1,qM⟩:=tQ sl j (by omega)
  have hj:j<sl.length:=by omega
  have ih:=aco sl hr hl n (j+1) ({r with held:=[]}:Recv) (by omega)
  have hs3:=hr s (mC hs1)
  rw[show sl.length-j=(sl.length-(j+1))+1 by omega]
  rw[List.take_succ_eq_append_getElem hj]at ih
  have he:sl[j]=s:=by rw[List.getElem?_eq_getElem hj]at hs1;exact Option.some.inj hs1
  rw[he]at ih
  simp only[kN,PX]at ih
  simp only[aP,kN,PX,ah,getD_some hs1,decide_eq_true qM,cond_true,Stp.elim]
  rw[aeC qM hs3,show(j:Int)+1=((j+1:Nat):Int) by omega]
  exact ih
theorem aeg (x:Recv)(seq w:Int)(sl:List Int)(j:Nat)(b:UInt8)(k:Nat)(s:Int)(h:(Cr x seq w sl j b)[k]? =some s):sl[k]? =some s∨(s=(b.toNat:Int)∧(k:Int)<w∧(x.fin<0∨(k:Int)<x.fin)):=by
 unfold Cr at h
 generalize ho:(seq+(j:Int)-x.next)%4294967296=o at h
 have h0:0≤o:=by omega
 split at h
 ·rename_i hc
  rw[List.getElem?_set]at h
  split at h
  ·rename_i hk
   split at h
   ·refine .inr ⟨(Option.some.inj h).symm,by omega, ?_⟩
    rcases hc.2.1 with h2|h2
    ·exact .inl h2
    ·exact .inr (by omega)
   ·cases h
  ·exact .inl h
 ·exact .inl h
theorem Zl (x:Recv)(seq w:Int):∀(t:aa) (sl:List Int) (j:Nat) (k:Nat) (s:Int),(A6 x seq w sl j t)[k]? =some s→sl[k]? =some s∨(0≤s∧s≤255∧(k:Int)<w∧(x.fin<0∨(k:Int)<x.fin))
 |[],_,_,_,_,h=> .inl h
 |b::t,sl,j,k,s,h=>by
  rcases Zl x seq w t _ (j+1) k s h with h1|h1
  ·rcases aeg x seq w sl j b k s h1 with h2|⟨h2,h3,h4⟩
   ·exact .inl h2
   ·exact .inr ⟨by omega,by have:=qT b;omega,h3,h4⟩
  ·exact .inr h1
theorem Zw:∀(t:aa) (sl:List Int) (o k:Nat) (s:Int),(sj sl o t)[k]? =some s→sl[k]? =some s∨(0≤s∧s≤255∧o≤k∧k<o+t.length)
 |[],_,_,_,_,h=> .inl h
 |b::t,sl,o,k,s,h=>by
  simp only[sj]at h
  rcases Zw t _ (o+1) k s h with h1|⟨h1,h2,h3,h4⟩
  ·rw[List.getElem?_set]at h1
   split at h1
   ·rename_i hk
    split at h1
    ·have e:=(Option.some.inj h1).symm
     exact .inr ⟨by omega,by have:=qT b;omega,by omega,by simp only[List.length_cons];omega⟩
    ·cases h1
   ·exact .inl h1
  ·exact .inr ⟨h1,h2,by omega,by simp only[List.length_cons];omega⟩
theorem Ul (L:Int):∀(held:List Piec) (a b:Int) (sl:List Int),0≤a→d8 L a held=some b→a≤L→∀(k:Nat) (s:Int),(held.foldl (λsl p=>sj sl p.off.toNat p.text) sl)[k]? =some s→sl[k]? =some s∨(0≤s∧s≤255∧(k:Int)<L)
 |[],_,_,_,_,_,_,_,_,h=> .inl h
 |p::r,a,b,sl,h0,hw,ha,k,s,h=>by
  simp only[d8]at hw
  cases hc:((p.text==[])||decide (p.off≤a)||decide (L<p.off+(p.text.length:Int)))with
  |true=>rw[hc]at hw;cases hw
  |false=>
   rw[hc]at hw
   simp only[Bool.or_eq_false_iff,decide_eq_false_iff_not]at hc
   simp only[List.foldl_cons]at h
   rcases Ul L r _ b _ (by omega) hw (by omega) k s h with h1|h1
   ·rcases Zw p.text sl p.off.toNat k s h1 with h2|⟨h2,h3,h4,h5⟩
    ·exact .inl h2
    ·exact .inr ⟨h2,h3,by omega⟩
   ·exact .inr h1
theorem rV:∀(held:List Piec) (sl:List Int),(held.foldl (λsl p=>sj sl p.off.toNat p.text) sl).length=sl.length
 |[],_=>rfl
 |p::r,sl=>by simp only[List.foldl_cons,rV r,KK]
theorem KV (x:Recv)(hx:RV x)(seq:Int)(t:aa):(A6 x seq (mL x) (oD x.held) 0 t).length=33∧∀(k:Nat) (s:Int),(A6 x seq (mL x) (oD x.held) 0 t)[k]? =some s→-1≤s∧s≤255∧(0≤s→(k:Int)<(if x.fin= -1 then mL x else x.fin)):=by
 have hw:=lV x hx.dl
 have hf0:=hx.f0
 have hf1:=hx.f1
 have hfz:=hx.fz
 refine⟨by rw[UK];unfold oD;rw[rV];rfl,λk s h=> ?_⟩
 rcases Zl x seq (mL x) t _ 0 k s h with h1|⟨h1,h2,h3,h4⟩
 ·obtain⟨b,hb⟩:=hx.wk
  unfold oD at h1
  rcases Ul _ x.held 0 b _ (Int.le_refl _) hb (by split<;>omega) k s h1 with h2|⟨h2,h3,h4⟩
  ·have:s= -1:=by
    have hm:=List.mem_of_getElem? h2
    exact List.eq_of_mem_replicate hm
   omega
  ·exact⟨by omega,h3,λ_=>h4⟩
 ·refine⟨by omega,h2,λ_=> ?_⟩
  split
  ·exact h3
  ·rcases h4 with h5|h5<;>omega
theorem S9 (sl:List Int)(hr:∀s∈sl,s≤255)(hl:sl.length=33)(n:Nat):∀(m j:Nat) (a:List Piec),n≤j→j+m=33→a.length≤33→(∀p,a.getLast? =some p→0≤p.off∧t6 p≤(j:Int)-(n:Int))→a.length+m≤33→aP (λj a=>(cH sl (n:Int) j a).nice) 1 m (j:Int) a= .next (N3 a ((j:Int)-(n:Int)) (sl.drop j))
 |0,j,a,h1,h2,_,_,_=>by rw[List.drop_of_length_le (by omega)];simp only[aP,N3]
 |m+1,j,a,h1,h2,h3,h4,h5=>by
  have hj:j<sl.length:=by omega
  have hs:=List.getElem?_eq_getElem hj
  have hs8:=hr _ (mC hs)
  rw[List.drop_eq_getElem_cons hj]
  generalize sl[j]=s at hs hs8⊢
  have ej:(j:Int)+1=((j+1:Nat):Int):=by omega
  have en:(j:Int)-(n:Int)+1=((j+1:Nat):Int)-(n:Int):=by omega
  by_cases h0:s<0
  ·have ih:=S9 sl hr hl n m (j+1) a (by omega) (by omega) h3 (λp hp=>by have:=h4 p hp;omega) (by omega)
   simp only[PX,cH]at ih
   simp only[aP,PX,cH,ah,getD_some hs,decide_eq_true h0,cond_true,Stp.elim,N3,if_pos h0]
   rw[ej,en]
   exact ih
  ·have hw8:IntKind.wrap .u8 s=s:=aeC (by omega) hs8
   rcases List.eq_nil_or_concat a with rfl|⟨b,p,rfl⟩
   ·have ih:=S9 sl hr hl n m (j+1) [⟨(j:Int)-(n:Int),aw [s]⟩] (by omega) (by omega) (by simp) (λp hp=>by
     simp only[List.getLast?_singleton,Option.some.injEq]at hp
     subst hp
     simp only[t6,bA,List.length_singleton];omega) (by simp;omega)
    simp only[PX,cH]at ih
    have e0:decide (0<(([]:List Piec).length:Int))=false:=by simp
    simp only[aP,PX,cH,ah,getD_some hs,decide_eq_false h0,cond_false,Stp.elim,N3,if_neg h0,e0,List.getLast?_nil,hw8,List.nil_append]
    rw[ej,en,am (m:=(j:Int)-(n:Int)) (by omega) (by omega)]
    exact ih
   ·simp only[List.concat_eq_append]at*
    have hp:=h4 p (by simp)
    have hbl:(b++[p]).length=b.length+1:=by simp
    have e0:decide (0<((b++[p]).length:Int))=true:=by rw[decide_eq_true_iff,hbl];omega
    have e1:(IntKind.wrap .i64 (((b++[p]).length:Int)-1)).toNat=b.length:=by rw[hbl,am (by omega) (by omega)];omega
    have e2:(b++[p]).getD b.length (Ty.zero .piec)=p:=by simp[List.getD]
    have e3:∀q,(b++[p]).set b.length q=b++[q]:=λq=>by simp
    have hoff:=hp.1
    have hend:=hp.2
    unfold t6 at hend
    by_cases he:t6 p=(j:Int)-(n:Int)
    ·have ih:=S9 sl hr hl n m (j+1) (b++[⟨p.off,p.text++aw [s]⟩]) (by omega) (by omega) (by simp at h3⊢;omega) (λq hq=>by
      simp only[List.getLast?_append,List.getLast?_singleton,Option.some_or,Option.some.injEq]at hq
      subst hq
      unfold t6 at he
      simp only[t6,List.length_append,bA,List.length_singleton];omega) (by simp at h5⊢;omega)
     simp only[PX,cH]at ih
     have e4:(IntKind.wrap .i64 (p.off+(p.text.length:Int))==IntKind.wrap .i64 ((j:Int)-(n:Int)))=true:=by
      unfold t6 at he
      rw[he];exact beq_self_eq_true _
     simp only[aP,PX,cH,ah,getD_some hs,decide_eq_false h0,cond_false,Stp.elim,N3,if_neg h0,e0,e1,e2,e3,e4,cond_true,hw8,List.getLast?_append,List.getLast?_singleton,Option.some_or,if_pos he,List.dropLast_concat]
     rw[ej,en]
     exact ih
    ·have ih:=S9 sl hr hl n m (j+1) (b++[p]++[⟨(j:Int)-(n:Int),aw [s]⟩]) (by omega) (by omega) (by simp at h3 h5⊢;omega) (λq hq=>by
      simp only[List.getLast?_append,List.getLast?_singleton,Option.some_or,Option.some.injEq]at hq
      subst hq
      simp only[t6,bA,List.length_singleton];omega) (by simp at h5⊢;omega)
     simp only[PX,cH]at ih
     have e4:(IntKind.wrap .i64 (p.off+(p.text.length:Int))==IntKind.wrap .i64 ((j:Int)-(n:Int)))=false:=by
      unfold t6 at he
      rw[am (by omega) (by omega),am (by omega) (by omega),beq_eq_false_iff_ne];exact he
     simp only[aP,PX,cH,ah,getD_some hs,decide_eq_false h0,cond_false,Stp.elim,N3,if_neg h0,e0,e1,e2,e4,cond_true,hw8,List.getLast?_append,List.getLast?_singleton,Option.some_or,if_neg he]
     rw[ej,en,am (m:=(j:Int)-(n:Int)) (by omega) (by omega)]
     exact ih
theorem Hp (sl:List Int)(hr:∀s∈sl,s≤255)(hl:sl.length=33)(n:Nat)(hn:n≤33):qp.f (sl,(n:Int),())=cP 33 0 (sl.drop n):=by
 simp only[PX,qp,ii]
 rw[show Int.toNat ((sl.length:Int)-(n:Int))=33-n by omega]
 rw[S9 sl hr hl n (33-n) n [] (Nat.le_refl _) (by omega) (by simp) (λp hp=>by simp at hp) (by simp)]
 simp only[Stp.elim]
 rw[Int.sub_self,JE 33 [] 0 (sl.drop n) (by rw[List.length_drop];omega) (λp hp=>by simp at hp)]
 rfl
def Kr (x:Recv)(sl:List Int)(e:Int)(fin:Bool):Int:=if fin=true∧x.fin<0∧e≤mL x∧(sl.drop e.toNat).all (λs=>decide (s<0))=true then e else x.fin
def JF (x:Recv)(seq:Int)(t:aa):List Int:=A6 x seq (mL x) (oD x.held) 0 t
def ol (x:Recv)(seq:Int)(t:aa)(fin:Bool):Recv:=
 if bp.f (x,())=true∧x.done=false then VT x (JF x seq t) (Kr x (JF x seq t) ((seq+(t.length:Int)-x.next)%4294967296) fin)else x
theorem G8 (L:Int):∀(r:List Piec) (a b:Int),0≤a→L≤32→d8 L a r=some b→cX po r
 |[],_,_,_,_,_=>λ_ h=>by cases h
 |p::r,a,b,h0,hL,h=>by
  simp only[d8]at h
  cases hc:((p.text==[])||decide (p.off≤a)||decide (L<p.off+(p.text.length:Int)))with
  |true=>rw[hc]at h;cases h
  |false=>
   rw[hc]at h
   simp only[Bool.or_eq_false_iff,decide_eq_false_iff_not]at hc
   have ih:=G8 L r _ b (by omega) hL h
   intro y hy
   rcases List.mem_cons.1 hy with rfl|hy
   ·unfold po;omega
   ·exact ih y hy
theorem Kw (x:Recv)(hx:RV x):cX po x.held:=by
 obtain⟨b,hb⟩:=hx.wk
 have h1:=lV x hx.dl
 have h2:=hx.f1
 exact G8 _ x.held 0 b (Int.le_refl _) (by split<;>omega) hb
theorem QE (x:Recv)(seq:Int)(t:aa)(fin:Bool)(hs:bf x.held)(ht:t.length≤4294967296):rH.f (x,seq,t,fin,())=ol x seq t fin:=by
 simp only[PX,rH,rP,wQ x hs]
 unfold ol
 cases hok:bp.f (x,())with
 |false=>rfl
 |true=>
 cases hdn:x.done with
 |true=>rfl
 |false=>
 have hx:=(lw x hs).1 hok
 have hpo:cX po x.held:=Kw x hx
 obtain⟨r2,e1⟩:=afT x seq (mL x) t ⟨hx.n0,hx.n1⟩ ht (⟨0,[],[],0,false⟩:Recv) (oD x.held)
 have hsl:=KV x hx seq t
 have hw:=lV x hx.dl
 have hn0:=hx.n0
 have hn1:=hx.n1
 have hf0:=hx.f0
 have hf1:=hx.f1
 have hL:JF x seq t=A6 x seq (mL x) (oD x.held) 0 t:=rfl
 rw[←hL]at e1 hsl
 have ee:IntKind.wrap .i64 ((seq+(t.length:Int))%4294967296-x.next)%4294967296=(seq+(t.length:Int)-x.next)%4294967296:=by
  rw[am (by omega) (by omega),Zq]
 simp only[Bool.not_true,cond_false,oE,gD x hx.dl,XF x hpo,fL,e1,Stp.elim,PX,kx,bL,mQ,true_and,if_true,ee]
 obtain⟨e,he⟩:∃e,(seq+(t.length:Int)-x.next)%4294967296=e:=⟨_,rfl⟩
 have he0:0≤e:=by omega
 obtain⟨sl,hsl2⟩:∃sl,JF x seq t=sl:=⟨_,rfl⟩
 simp only[he,hsl2]at hsl⊢
 clear e1 ee hL he hsl2
 obtain⟨hl,hat⟩:=hsl
 have hr:∀s∈sl,s≤255:=λs hs=>by
  obtain⟨k,hk,rfl⟩:=List.getElem_of_mem hs
  exact(hat k _ (List.getElem?_eq_getElem hk)).2.1
 have hld:aK sl<sl.length:=by
  rcases Nat.lt_or_ge (aK sl) sl.length with h|h
  ·exact h
  ·obtain⟨s,h1,h2⟩:=tQ sl 32 (by omega)
   have:=(hat 32 s h1).2.2 h2
   split at this<;>omega
 have hc:(bif fin then bif decide (x.fin<0)then bif decide (e≤mL x)then(vq.f (sl,e,()),())else(false,())else(false,())else(false,())).1=decide (fin=true∧x.fin<0∧e≤mL x∧(sl.drop e.toNat).all (λs=>decide (s<0))=true):=by
  cases fin with
  |false=>simp
  |true=>
   by_cases c1:x.fin<0
   ·by_cases c2:e≤mL x
    ·have h1:=ZU sl e.toNat (by omega)
     rw[show((e.toNat:Nat):Int)=e by omega]at h1
     simp only[cond_true,decide_eq_true c1,decide_eq_true c2,h1]
     simp only[c1,c2,true_and,Bool.decide_eq_true]
    ·simp[c1,c2]
   ·simp[c1]
 have tail:∀(r u:Recv),(eT (0,x,r,u,sl,[],())).lp.s= .out ((aK sl:Int),({r with held:=[]}:Recv),sl.take (aK sl)):=by
  intro r u
  have:=aco sl hr hld (aK sl) 0 r (by omega)
  rw[←aL sl.length]at this
  exact this
 have tp:∀(r u:Recv) (w:Int×Recv×List Int),(eT (0,x,r,u,sl,[],())).lp.o w= .inl w:=λ_ _ _=>rfl
 have hld2:(aK sl:Int)≤33:=by omega
 by_cases hcc:fin=true∧x.fin<0∧e≤mL x∧(sl.drop e.toNat).all (λs=>decide (s<0))=true
 ·have hfn:Kr x sl e fin=e:=if_pos hcc
  have hew:=hcc.2.2.1
  rw[hfn]
  simp only[hc,decide_eq_true hcc,cond_true]
  dsimp only[Tr.nice]
  simp only[PX,tail,tp,Stp.elim,Sum.elim_inl,wJ,Hp sl hr hl (aK sl) (by omega)]
  unfold VT
  have hd:decide (0≤e)=true:=decide_eq_true (by omega)
  simp only[hd,cond_true]
  rw[am (m:=e-(aK sl:Int)) (by omega) (by omega)]
  change (bif ((e-(aK sl:Int))==0)then(bif decide ((3:Int)<((cP 33 0 (sl.drop (aK sl))).length:Int))then d7.f (x,())else(⟨((x.next+(aK sl:Int))%4294967296+1)%4294967296,x.data++aw (sl.take (aK sl)),cP 33 0 (sl.drop (aK sl)),-1,true⟩:Recv))else(bif decide ((3:Int)<((cP 33 0 (sl.drop (aK sl))).length:Int))then d7.f (x,())else(⟨(x.next+(aK sl:Int))%4294967296,x.data++aw (sl.take (aK sl)),cP 33 0 (sl.drop (aK sl)),(e-(aK sl:Int)),false⟩:Recv)))=_
  rw[rP]
  by_cases h3:3<(cP 33 0 (sl.drop (aK sl))).length
  ·rw[if_pos h3,decide_eq_true (show(3:Int)<((cP 33 0 (sl.drop (aK sl))).length:Int) by omega)]
   cases(e-(aK sl:Int)==0)<;>rfl
  ·rw[if_neg h3,decide_eq_false (show¬(3:Int)<((cP 33 0 (sl.drop (aK sl))).length:Int) by omega)]
   by_cases h4:e-(aK sl:Int)=0
   ·rw[if_pos h4,show(e-(aK sl:Int)==0)=true by simp[h4]]
    simp only[cond_true,cond_false]
    rw[show((x.next+(aK sl:Int))%4294967296+1)%4294967296=(x.next+(aK sl:Int)+1)%4294967296 by omega]
   ·rw[if_neg h4,show(e-(aK sl:Int)==0)=false by simp[h4]]
    simp only[cond_false,if_neg (show¬e= -1 by omega),hdn]
 ·have hfn:Kr x sl e fin=x.fin:=if_neg hcc
  rw[hfn]
  simp only[hc,decide_eq_false hcc,cond_false]
  dsimp only[Tr.nice]
  simp only[PX,tail,tp,Stp.elim,Sum.elim_inl,wJ,Hp sl hr hl (aK sl) (by omega)]
  unfold VT
  by_cases hF:0≤x.fin
  ·have hd:decide (0≤x.fin)=true:=decide_eq_true (by omega)
   simp only[hd,cond_true]
   rw[am (m:=x.fin-(aK sl:Int)) (by omega) (by omega)]
   change (bif ((x.fin-(aK sl:Int))==0)then(bif decide ((3:Int)<((cP 33 0 (sl.drop (aK sl))).length:Int))then d7.f (x,())else(⟨((x.next+(aK sl:Int))%4294967296+1)%4294967296,x.data++aw (sl.take (aK sl)),cP 33 0 (sl.drop (aK sl)),-1,true⟩:Recv))else(bif decide ((3:Int)<((cP 33 0 (sl.drop (aK sl))).length:Int))then d7.f (x,())else(⟨(x.next+(aK sl:Int))%4294967296,x.data++aw (sl.take (aK sl)),cP 33 0 (sl.drop (aK sl)),(x.fin-(aK sl:Int)),x.done⟩:Recv)))=_
   rw[rP]
   by_cases h3:3<(cP 33 0 (sl.drop (aK sl))).length
   ·rw[if_pos h3,decide_eq_true (show(3:Int)<((cP 33 0 (sl.drop (aK sl))).length:Int) by omega)]
    cases(x.fin-(aK sl:Int)==0)<;>rfl
   ·rw[if_neg h3,decide_eq_false (show¬(3:Int)<((cP 33 0 (sl.drop (aK sl))).length:Int) by omega)]
    by_cases h4:x.fin-(aK sl:Int)=0
    ·rw[if_pos h4,show(x.fin-(aK sl:Int)==0)=true by simp[h4]]
     simp only[cond_true,cond_false]
     rw[show((x.next+(aK sl:Int))%4294967296+1)%4294967296=(x.next+(aK sl:Int)+1)%4294967296 by omega]
    ·rw[if_neg h4,show(x.fin-(aK sl:Int)==0)=false by simp[h4]]
     simp only[cond_false,if_neg (show¬x.fin= -1 by omega),hdn]
  ·have hF1:x.fin= -1:=by omega
   have hd:decide (0≤x.fin)=false:=decide_eq_false hF
   simp only[hd,cond_false]
   change (bif (x.fin==0)then(bif decide ((3:Int)<((cP 33 0 (sl.drop (aK sl))).length:Int))then d7.f (x,())else(⟨((x.next+(aK sl:Int))%4294967296+1)%4294967296,x.data++aw (sl.take (aK sl)),cP 33 0 (sl.drop (aK sl)),-1,true⟩:Recv))else(bif decide ((3:Int)<((cP 33 0 (sl.drop (aK sl))).length:Int))then d7.f (x,())else(⟨(x.next+(aK sl:Int))%4294967296,x.data++aw (sl.take (aK sl)),cP 33 0 (sl.drop (aK sl)),x.fin,x.done⟩:Recv)))=_
   rw[rP]
   rw[show(x.fin==0)=false by simp[hF1]]
   by_cases h3:3<(cP 33 0 (sl.drop (aK sl))).length
   ·rw[if_pos h3,decide_eq_true (show(3:Int)<((cP 33 0 (sl.drop (aK sl))).length:Int) by omega)]
    rfl
   ·rw[if_neg h3,decide_eq_false (show¬(3:Int)<((cP 33 0 (sl.drop (aK sl))).length:Int) by omega)]
    rw[if_neg (show¬x.fin-(aK sl:Int)=0 by omega),if_pos hF1,hF1,hdn]
    rfl
theorem MR (x:Recv)(seq:Int)(t:aa)(fin:Bool)(hx:RV x):RV (ol x seq t fin):=by
 unfold ol
 by_cases hc:bp.f (x,())=true∧x.done=false
 ·rw[if_pos hc]
  obtain⟨hl,hat⟩:=KV x hx seq t
  have hw:=lV x hx.dl
  have hf0:=hx.f0
  have hf1:=hx.f1
  change (JF x seq t).length=33 at hl
  change ∀(k:Nat) (s:Int),(JF x seq t)[k]? =some s→_ at hat
  generalize JF x seq t=sl at hl hat
  have he0:0≤(seq+(t.length:Int)-x.next)%4294967296:=by omega
  generalize(seq+(t.length:Int)-x.next)%4294967296=e at he0
  unfold Kr
  split
  ·rename_i h
   obtain⟨h1,h2,h3,h4⟩:=h
   refine Zt x sl e hx hc.2 hl (by omega) h3 (λk s hk hs=> ?_)
   rw[if_neg (show¬e= -1 by omega)]
   apply Int.not_le.1
   intro hke
   rw[List.all_eq_true]at h4
   have hm:s∈sl.drop e.toNat:=by
    refine List.mem_of_getElem? (i:=k-e.toNat) ?_
    rw[List.getElem?_drop,show e.toNat+(k-e.toNat)=k by omega];exact hk
   have:=h4 s hm
   simp only[decide_eq_true_eq]at this
   omega
  ·exact Zt x sl x.fin hx hc.2 hl (by omega) hf1 (λk s hk hs=>(hat k s hk).2.2 hs)
 ·rw[if_neg hc];exact hx
def tE (a b:Int):Int:=if 2147483647<(a-b)%4294967296 then(a-b)%4294967296-4294967296 else(a-b)%4294967296
theorem xx (a b:Int):rK.f (a,b,())=tE a b:=by
 simp only[PX,rK,mQ,wJ]
 rw[am (m:=a%4294967296-b%4294967296) (by omega) (by omega),show(a%4294967296-b%4294967296)%4294967296=(a-b)%4294967296 by omega]
 unfold tE
 by_cases h:2147483647<(a-b)%4294967296
 ·rw[decide_eq_true h,if_pos h,am (by omega) (by omega)];rfl
 ·rw[decide_eq_false h,if_neg h];rfl
def Jw (s:Sndr):Int:=if s.finSent=true then s.sent+1 else s.sent
theorem uW (s:Sndr)(h:SO s):dr.f (s,())=Jw s:=by
 rw[Qq s h];rfl
def cV (s:Sndr)(n:Int):Sndr:=⟨(s.una+n)%4294967296,s.data.drop (if s.sent<n then s.sent else n).toNat,s.sent-(if s.sent<n then s.sent else n),s.fin,if s.sent<n then false else s.finSent,if s.sent<n then true else s.done⟩
def vo (s:Sndr)(ack:Int):Bool:=bi.f (s,())&&(decide (0≤tE ack s.una)&&decide (tE ack s.una≤Jw s))
theorem YL (s:Sndr)(ack:Int):Er.f (s,ack,())=if vo s ack=true then(cV s (tE ack s.una),true)else(s,false):=by
 simp only[PX,Er,xx,pi,zI,bF,kx,bL]
 unfold vo
 cases hk:bi.f (s,())with
 |false=>rfl
 |true=>
  have hs:=(yF s).1 hk
  rw[uW s hs]
  have h1:=hs.2.2.2.1
  have h2:=hs.2.2.2.2.1
  have h3:=hs.2.2.1
  generalize tE ack s.una=n
  simp only[Bool.not_true,cond_false,Bool.true_and]
  by_cases hn:0≤n∧n≤Jw s
  ·rw[decide_eq_true hn.1,decide_eq_true hn.2]
   simp only[Bool.and_self,Bool.not_true,cond_false,if_true]
   unfold cV
   by_cases hc:s.sent<n
   ·simp only[decide_eq_true hc,if_pos hc,cond_true]
    simp only[PX,ah,List.take_length]
    rw[am (by omega) (by omega)]
   ·simp only[decide_eq_false hc,if_neg hc,cond_false]
    simp only[PX,ah,List.take_length]
    rw[am (by omega) (by omega)]
  ·have e:(decide (0≤n)&&decide (n≤Jw s))=false:=by
    rw[Bool.and_eq_false_iff];simp only[decide_eq_false_iff_not];omega
   rw[e];rfl
theorem L2 (s:Sndr)(hs:SO s)(n:Int)(h0:0≤n)(h1:n≤Jw s):SO (cV s n)∧(cV s n).fin=s.fin∧(s.done=true→(cV s n).done=true):=by
 obtain⟨e1,e2,e3,e4,e5,e6,e7⟩:=hs
 unfold Jw at h1
 by_cases hc:s.sent<n
 ·have ea:cV s n=⟨(s.una+n)%4294967296,s.data.drop s.sent.toNat,s.sent-s.sent,s.fin,false,true⟩:=by unfold cV;simp only[if_pos hc]
  rw[ea]
  have hf:s.finSent=true:=by
   cases hfs:s.finSent with
   |true=>rfl
   |false=>rw[hfs]at h1;simp only[Bool.false_eq_true,if_false]at h1;omega
  have hl:=(e6 hf).2
  refine⟨⟨by show 0≤(s.una+n)%4294967296;omega,by show(s.una+n)%4294967296≤4294967295;omega, ?_, ?_, ?_,λh=>(by cases h),λ_=>⟨(e6 hf).1,rfl, ?_⟩⟩,rfl,λ_=>rfl⟩
  ·show(s.data.drop s.sent.toNat).length≤48
   rw[List.length_drop];omega
  ·show 0≤s.sent-s.sent;omega
  ·show s.sent-s.sent≤((s.data.drop s.sent.toNat).length:Int)
   omega
  ·show s.data.drop s.sent.toNat=[]
   exact List.drop_of_length_le (by omega)
 ·have ea:cV s n=⟨(s.una+n)%4294967296,s.data.drop n.toNat,s.sent-n,s.fin,s.finSent,s.done⟩:=by unfold cV;simp only[if_neg hc]
  rw[ea]
  refine⟨⟨by show 0≤(s.una+n)%4294967296;omega,by show(s.una+n)%4294967296≤4294967295;omega, ?_, ?_, ?_, ?_, ?_⟩,rfl,λh=>h⟩
  ·show(s.data.drop n.toNat).length≤48
   rw[List.length_drop];omega
  ·show 0≤s.sent-n;omega
  ·show s.sent-n≤((s.data.drop n.toNat).length:Int)
   rw[List.length_drop];omega
  ·intro h
   refine⟨(e6 h).1, ?_⟩
   have:=(e6 h).2
   show s.sent-n=((s.data.drop n.toNat).length:Int)
   rw[List.length_drop];omega
  ·intro h
   refine⟨(e7 h).1,(e7 h).2.1, ?_⟩
   show s.data.drop n.toNat=[]
   rw[(e7 h).2.2];simp
def pd (k:Int)(sd rd:Bool):Int:=if k=1 then(if rd=true then 4 else 1)else if k=2 then(if sd=true then(if rd=true then 7 else 3)else if rd=true then 5 else 2)else if k=3 then(if rd=true then 7 else 3)else if k=5 then(if sd=true then 7 else 5)else if k=6 then(if sd=true then 8 else 6)else k
theorem aci (x:Conn):xl.f (x,())=pd x.state x.s.done x.r.done:=by
 simp only[PX,xl]
 unfold pd
 by_cases h1:x.state=1
 ·rw[if_pos h1,h1];cases x.r.done<;>first|rfl|exact h1
 by_cases h2:x.state=2
 ·rw[if_neg h1,if_pos h2,h2];cases x.s.done<;>cases x.r.done<;>first|rfl|exact h2
 by_cases h3:x.state=3
 ·rw[if_neg h1,if_neg h2,if_pos h3,h3];cases x.r.done<;>first|rfl|exact h3
 by_cases h5:x.state=5
 ·rw[if_neg h1,if_neg h2,if_neg h3,if_pos h5,h5];cases x.s.done<;>first|rfl|exact h5
 by_cases h6:x.state=6
 ·rw[if_neg h1,if_neg h2,if_neg h3,if_neg h5,if_pos h6,h6];cases x.s.done<;>first|rfl|exact h6
 rw[if_neg h1,if_neg h2,if_neg h3,if_neg h5,if_neg h6]
 rw[show(x.state==1)=false by simp[h1],show(x.state==2)=false by simp[h2],show(x.state==3)=false by simp[h3],show(x.state==5)=false by simp[h5],show(x.state==6)=false by simp[h6]]
 rfl
def LL (x:Conn):Bool:=aN.f ({x with state:=pd x.state x.s.done x.r.done,timer:=0,tries:=0},())&&((decide (0≤x.timer)&&decide (x.timer≤4))&&(decide (0≤x.tries)&&decide (x.tries≤3)))
def dY (x:Conn):Conn:=
 if LL x=true then
  if pd x.state x.s.done x.r.done=x.state then x
  else if pd x.state x.s.done x.r.done=7 then{x with state:=7,timer:=4,tries:=0}
  else if pd x.state x.s.done x.r.done=8 then{x with state:=8,timer:=0,tries:=0}
  else{x with state:=pd x.state x.s.done x.r.done}
 else x
theorem Hg (x:Conn)(hs:bf x.r.held):sy.f (x,())=dY x:=by
 simp only[PX,sy,fG,aci,bF]
 rw[lH ({x with state:=pd x.state x.s.done x.r.done,timer:=0,tries:=0}:Conn) hs]
 unfold dY LL
 generalize(decide (0≤x.timer)&&decide (x.timer≤4))=b1
 generalize(decide (0≤x.tries)&&decide (x.tries≤3))=b2
 generalize pd x.state x.s.done x.r.done=k
 cases aN.f (({x with state:=k,timer:=0,tries:=0}:Conn),())with
 |false=>rfl
 |true=>
 cases b1 with
 |false=>rfl
 |true=>
 cases b2 with
 |false=>rfl
 |true=>
 simp only[Bool.not_true,cond_false,Bool.and_self,if_true]
 by_cases h1:k=x.state
 ·subst h1
  simp only[if_true,beq_self_eq_true,cond_true]
 ·rw[if_neg h1,show(k==x.state)=false by simp[h1]]
  simp only[cond_false]
  by_cases h7:k=7
  ·subst h7;rfl
  ·rw[if_neg h7,show(k==7)=false by simp[h7]]
   simp only[cond_false]
   by_cases h8:k=8
   ·subst h8;rfl
   ·rw[if_neg h8,show(k==8)=false by simp[h8]];rfl
structure TR (x:Conn):Prop where
 tup:aG.f (x.tuple,())=true
 snd:SO x.s
 rcv:bp.f (x.r,())=true
 opt:aM.f (x.opts,())=true
 s1:1≤x.state
 s7:x.state≤7
 m0:0≤x.most
 m1:x.most≤1073725440
 w0:0≤x.window
 w1:x.window≤x.most
 t0:0≤x.timer
 t4:x.timer≤4
 t3:x.state≠7→x.timer≤3
 r0:0≤x.tries
 r3:x.tries≤3
 fl:Zy (pd x.state x.s.done x.r.done) x.s.fin x.s.done x.r.done=true
theorem adJ (k:Int)(sd rd:Bool)(h1:1≤k)(h7:k≤7):1≤pd k sd rd∧pd k sd rd≤8:=by
 unfold pd;repeat' split
 all_goals omega
theorem TR.turned {x:Conn}(h:TR x):CO (dY x):=by
 have hk:=adJ x.state x.s.done x.r.done h.s1 h.s7
 have hfl:=h.fl
 have hs1:=h.s1
 have hs7:=h.s7
 have hr0:=h.r0
 have hr3:=h.r3
 have ht0:=h.t0
 have ht4:=h.t4
 have hco:CO ({x with state:=pd x.state x.s.done x.r.done,timer:=0,tries:=0}:Conn):=⟨h.tup,h.snd,h.rcv,h.opt,hk.1,hk.2,h.m0,h.m1,h.w0,h.w1,Int.le_refl _,by show(0:Int)≤4;omega,λ_=>by show(0:Int)≤3;omega,Int.le_refl _,by show(0:Int)≤3;omega,hfl⟩
 have hok:LL x=true:=by
  unfold LL
  rw[(qA _).2 hco,decide_eq_true ht0,decide_eq_true ht4,decide_eq_true hr0,decide_eq_true hr3];rfl
 unfold dY
 rw[if_pos hok]
 by_cases h1:pd x.state x.s.done x.r.done=x.state
 ·rw[if_pos h1]
  rw[h1]at hfl
  exact⟨h.tup,h.snd,h.rcv,h.opt,hs1,by omega,h.m0,h.m1,h.w0,h.w1,ht0,ht4,h.t3,hr0,hr3,hfl⟩
 ·rw[if_neg h1]
  have hn7:x.state≠7:=by
   intro h7;apply h1;rw[h7];rfl
  have ht3:=h.t3 hn7
  by_cases h7:pd x.state x.s.done x.r.done=7
  ·rw[if_pos h7]
   rw[h7]at hfl
   exact⟨h.tup,h.snd,h.rcv,h.opt,by show(1:Int)≤7;omega,by show(7:Int)≤8;omega,h.m0,h.m1,h.w0,h.w1,by show(0:Int)≤4;omega,Int.le_refl _,λhh=>absurd rfl hh,Int.le_refl _,by show(0:Int)≤3;omega,hfl⟩
  ·rw[if_neg h7]
   by_cases h8:pd x.state x.s.done x.r.done=8
   ·rw[if_pos h8]
    rw[h8]at hfl
    exact⟨h.tup,h.snd,h.rcv,h.opt,by show(1:Int)≤8;omega,Int.le_refl _,h.m0,h.m1,h.w0,h.w1,Int.le_refl _,by show(0:Int)≤4;omega,λ_=>by show(0:Int)≤3;omega,Int.le_refl _,by show(0:Int)≤3;omega,hfl⟩
   ·rw[if_neg h8]
    exact⟨h.tup,h.snd,h.rcv,h.opt,hk.1,hk.2,h.m0,h.m1,h.w0,h.w1,ht0,ht4,λ_=>ht3,hr0,hr3,hfl⟩
theorem DS (x:Conn):(dY x).tuple=x.tuple:=by
 unfold dY;repeat' split
 all_goals rfl
def jc (w sc:Int):Int:=w*2 ^ (if sc<0 then 0 else sc).toNat
theorem Lq (w sc:Int)(h0:0≤w)(h1:w≤65535)(h2:sc≤14):0≤jc w sc∧jc w sc≤1073725440:=by
 unfold jc
 have hk:(if sc<0 then 0 else sc).toNat≤14:=by split<;>omega
 generalize(if sc<0 then 0 else sc).toNat=k at hk
 have:k=0∨k=1∨k=2∨k=3∨k=4∨k=5∨k=6∨k=7∨k=8∨k=9∨k=10∨k=11∨k=12∨k=13∨k=14:=by omega
 rcases this with rfl|rfl|rfl|rfl|rfl|rfl|rfl|rfl|rfl|rfl|rfl|rfl|rfl|rfl|rfl<;>simp only[Int.reducePow,Int.pow_zero]<;>omega
theorem fe (o:Opti)(h:aM.f (o,())=true): -1≤o.scale∧o.scale≤14:=by
 simp only[PX,aM,av]at h
 revert h
 cases hq:(decide (-1≤o.scale)&&decide (o.scale≤14))with
 |true=>
  intro _
  simpa [Bool.and_eq_true,decide_eq_true_eq]using hq
 |false=>
  cases ae.f (o.mss,16,())<;>cases o.stamp<;>cases(o.val != 0)<;>cases(o.echo != 0)<;>simp
def vR (c:Conn)(g:Segm):Conn:=
 if vo c.s g.ack=true then
  if((cV c.s (tE g.ack c.s.una)).una≠c.s.una∨Jw (cV c.s (tE g.ack c.s.una))=0)∧c.state≠7 then
   ⟨c.tuple,c.state,cV c.s (tE g.ack c.s.una),c.r,jc g.window c.opts.scale,if c.most<jc g.window c.opts.scale then jc g.window c.opts.scale else c.most,c.opts,if 0<Jw (cV c.s (tE g.ack c.s.una))then 3 else 0,0⟩
  else⟨c.tuple,c.state,cV c.s (tE g.ack c.s.una),c.r,jc g.window c.opts.scale,if c.most<jc g.window c.opts.scale then jc g.window c.opts.scale else c.most,c.opts,c.timer,c.tries⟩
 else c
def fZ (c:Conn)(g:Segm):Conn:=
 if 1≤c.state∧c.state≤3 then dY {vR c g with r:=ol c.r g.seq g.body (gW.f (g,1,()))}else dY (vR c g)
theorem acu (k:Int)(h1:1≤k)(h7:k≤7)(sf sd rd sd' rd':Bool)(h:Zy k sf sd rd=true)(hsd:sd=true→sd'=true)(hsf:sd'=true→sf=true)(hrd:rd'=rd∨(rd=false∧k≤3)):Zy (pd k sd' rd') sf sd' rd'=true:=by
 have hk:k=1∨k=2∨k=3∨k=4∨k=5∨k=6∨k=7:=by omega
 rcases hk with rfl|rfl|rfl|rfl|rfl|rfl|rfl<;>revert h hsd hsf hrd<;>revert sf sd rd sd' rd'<;>decide+kernel
theorem RV.small {x:Recv}(h:RV x):bf x.held:=by
 intro y hy
 have:=Kw x h y hy
 unfold po at this;omega
theorem WA (m:Int):IntKind.u32.wrap m=m%4294967296:=by
 unfold IntKind.wrap
 simp[IntKind.signed,IntKind.bits]
theorem VO (m:Int):IntKind.i32.wrap m=(m+2147483648)%4294967296-2147483648:=by
 unfold IntKind.wrap
 simp only[IntKind.signed,IntKind.bits]
 simp
 omega
theorem wd (a b:Int):rJ.f (a,b,())=tE a b:=by
 simp only[PX,rJ,WA,VO,df]
 unfold tE
 split<;>omega
theorem Pp (g:Segm)(n:Int):gW.f (g,n,())=bH.f (g,n,()):=by simp only[PX,gW,bH]
theorem xu (g:Segm):i5.f (g,())=aR.f (g,()):=by simp only[PX,i5,aR,Pp]
theorem tC (a b:Int):tP.f (a,b,())=(a-b)%4294967296:=UL a b
def xa (x o n:Int):Bool:=decide (0<n)&&decide ((x-o)%4294967296<n)
theorem pF (x o n:Int):oW.f (x,o,n,())=xa x o n:=by
 simp only[PX,oW,mQ]
 unfold xa
 rw[am (by omega) (by omega),show(x%4294967296-o%4294967296)%4294967296=(x-o)%4294967296 by omega]
 cases decide (0<n)<;>rfl
theorem uC (x o n:Int):oO.f (x,o,n,())=xa x o n:=by
 simp only[PX,oO,tC]
 unfold xa
 by_cases h:4294967295<n
 ·rw[decide_eq_true h,decide_eq_true (show 0<n by omega),decide_eq_true (show(x-o)%4294967296<n by omega)];rfl
 ·rw[decide_eq_false h]
  by_cases h1:0<n
  ·rw[decide_eq_true h1,decide_eq_true (show 1≤n by omega)];rfl
  ·rw[decide_eq_false h1,decide_eq_false (show¬1≤n by omega)];rfl
def ovN (x n o w:Int):Bool:=decide (0<n)&&(decide (0<w)&&(decide ((x-o)%4294967296<w)||decide ((o-x)%4294967296<n)))
theorem N9 (x n o w:Int)(hn:n≤65536):xy.f (x,n,o,w,())=ovN x n o w:=by
 simp only[PX,xy,tC,uC]
 rw[if_neg (show¬65536<n by omega)]
 unfold ovN xa
 by_cases h1:0<n
 ·rw[decide_eq_true h1,decide_eq_false (show¬n<1 by omega)]
  by_cases h2:0<w
  ·rw[decide_eq_true h2,decide_eq_false (show¬w<1 by omega)]
   cases decide ((x-o)%4294967296<w)<;>rfl
  ·rw[decide_eq_false h2,decide_eq_true (show w<1 by omega)];rfl
 ·rw[decide_eq_false h1,decide_eq_true (show n<1 by omega)];rfl
theorem Qj (x o w:Int):∀(k j:Nat),j+k≤65536→(aP (λj a=>(jA x o w j a).nice) 1 k (j:Int) ()= .next ()∧∀i:Nat,j≤i→i<j+k→xa (x+(i:Int)) o w=false)∨(aP (λj a=>(jA x o w j a).nice) 1 k (j:Int) ()= .out (.inl ())∧∃i:Nat,j≤i∧i<j+k∧xa (x+(i:Int)) o w=true)
 |0,j,_=> .inl ⟨rfl,λi h1 h2=>by omega⟩
 |k+1,j,h=>by
  have ih:=Qj x o w k (j+1) (by omega)
  have e:xa ((x+(j:Int))%4294967296) o w=xa (x+(j:Int)) o w:=by
   unfold xa
   rw[show((x+(j:Int))%4294967296-o)%4294967296=(x+(j:Int)-o)%4294967296 by omega]
  simp only[aP,PX,jA,kx,bL,pF,decide_eq_true (show(j:Int)<65536 by omega),cond_true,e]
  simp only[PX,jA,kx,bL,pF]at ih
  cases hj:xa (x+(j:Int)) o w with
  |true=>exact .inr ⟨rfl,j,Nat.le_refl _,by omega,hj⟩
  |false=>
   simp only[cond_false,Stp.elim]
   rw[show(j:Int)+1=((j+1:Nat):Int) by omega]
   rcases ih with⟨h1,h2⟩|⟨h1,i,h2,h3,h4⟩
   ·refine .inl ⟨h1,λi h3 h4=> ?_⟩
    rcases Nat.eq_or_lt_of_le h3 with h5|h5
    ·rw[←h5];exact hj
    ·exact h2 i h5 (by omega)
   ·exact .inr ⟨h1,i,by omega,by omega,h4⟩
theorem O1 (x n o w:Int)(hn:n≤65536)(hw:w≤2147483648):xt.f (x,n,o,w,())=ovN x n o w:=by
 simp only[PX,xt,lO]
 have key:=Qj x o w (Int.toNat (n-0)) 0 (by omega)
 rw[show((0:Nat):Int)=0 from rfl]at key
 unfold ovN
 rcases key with⟨h1,h2⟩|⟨h1,i,h2,h3,h4⟩
 ·rw[h1]
  simp only[Stp.elim,Sum.elim_inr,Sum.elim_inl]
  by_cases c1:0<n
  ·by_cases c2:0<w
   ·have a0:=h2 0 (Nat.le_refl _) (by omega)
    unfold xa at a0
    rw[decide_eq_true c2,show x+((0:Nat):Int)=x by omega,Bool.true_and,decide_eq_false_iff_not]at a0
    have a1:¬(o-x)%4294967296<n:=by
     intro h
     have:=h2 ((o-x)%4294967296).toNat (by omega) (by omega)
     unfold xa at this
     rw[decide_eq_true c2,Bool.true_and,decide_eq_false_iff_not]at this
     omega
    rw[decide_eq_true c1,decide_eq_true c2,decide_eq_false a0,decide_eq_false a1];rfl
   ·rw[decide_eq_false c2];cases decide (0<n)<;>rfl
  ·rw[decide_eq_false c1];rfl
 ·rw[h1]
  simp only[Stp.elim,Sum.elim_inr,Sum.elim_inl]
  unfold xa at h4
  simp only[Bool.and_eq_true,decide_eq_true_eq]at h4
  have c1:0<n:=by omega
  rw[decide_eq_true c1,decide_eq_true h4.1]
  by_cases c3:(x-o)%4294967296<w
  ·rw[decide_eq_true c3];rfl
  ·rw[decide_eq_true (show(o-x)%4294967296<n by omega),Bool.or_true];rfl
def Yk (c:Conn)(g:Segm):Bool:=bif aR.f (g,())==0 then tE g.seq c.r.next==0||xa g.seq c.r.next (mL c.r)else ovN g.seq (aR.f (g,())) c.r.next (mL c.r)
theorem sA (g:Segm)(hb:g.body.length≤60000):0≤aR.f (g,())∧aR.f (g,())≤(g.body.length:Int)+2:=by
 simp only[PX,aR]
 rw[am (m:=(g.body.length:Int)+1) (by omega) (by omega),am (m:=(g.body.length:Int)+1+1) (by omega) (by omega)]
 cases bH.f (g,2,())<;>cases bH.f (g,1,())<;>simp only[cond_true,cond_false]<;>omega
theorem Iw (c:Conn)(g:Segm)(hd:c.r.data.length≤32)(hb:g.body.length≤60000):ru.f (c,g,())=Yk c g:=by
 have h1:=sA g hb
 have hw:=lV c.r hd
 simp only[PX,ru,xu,oE,gD c.r hd,xx,pF,O1 _ _ _ _ (show aR.f (g,())≤65536 by omega) (show mL c.r≤2147483648 by omega)]
 unfold Yk
 cases(aR.f (g,())==0)with
 |false=>rfl
 |true=>cases(tE g.seq c.r.next==0)<;>rfl
theorem H7 (c:Conn)(g:Segm)(hd:c.r.data.length≤32)(hb:g.body.length≤60000):rp.f (c,g,())=Yk c g:=by
 have h1:=sA g hb
 have hw:=lV c.r hd
 simp only[PX,rp,gD c.r hd,wd,uC,N9 _ _ _ _ (show aR.f (g,())≤65536 by omega)]
 unfold Yk
 cases(aR.f (g,())==0)with
 |false=>rfl
 |true=>cases(tE g.seq c.r.next==0)<;>rfl
def VD (c:Conn)(a:Int):Bool:=decide (tE a c.s.una≤Jw c.s)&&(decide (0≤tE a c.s.una)||decide (-c.most≤tE a c.s.una))
theorem QD (c:Conn)(a:Int)(hs:SO c.s)(h0:0≤c.most)(h1:c.most≤1073725440):Ay.f (c,a,())=VD c a:=by
 simp only[PX,Ay,xx,zI,uW c.s hs]
 unfold VD
 rw[am (by omega) (by omega),decide_eq_false (show¬2147483648≤c.most by omega)]
 generalize tE a c.s.una=d
 cases decide (d≤Jw c.s)with
 |false=>rfl
 |true=>
  by_cases h2:0≤d
  ·rw[decide_eq_true h2];rfl
  ·rw[decide_eq_false h2]
   by_cases h3:0<c.most
   ·rw[decide_eq_true h3,show(0-c.most)= -c.most by omega];rfl
   ·rw[decide_eq_false h3,decide_eq_false (show¬-c.most≤d by omega)];rfl
theorem S5 (c:Conn)(a:Int)(hs:SO c.s)(h0:0≤c.most)(h1:c.most≤1073725440):Am.f (c,a,())=VD c a:=by
 simp only[PX,Am,wd,uW c.s hs,av]
 unfold VD
 rw[if_neg (show¬2147483648<c.most by omega),show(if 0<c.most then c.most else 0)=c.most by split<;>omega,am (by omega) (by omega),show(0-c.most)= -c.most by omega]
 generalize tE a c.s.una=d
 by_cases h2:0≤d
 ·rw[decide_eq_true h2,decide_eq_true (show-c.most≤d by omega)];simp
 ·rw[decide_eq_false h2,Bool.and_comm];simp
def EZ (c:Conn)(g:Segm):Int:=
 bif aN.f (c,())&&(!(c.state==8)&&ak.f (g,()))then
  bif bH.f (g,4,())then(bif g.seq==c.r.next then 2 else bif xa g.seq c.r.next (mL c.r)then 3 else 1)
  else bif bH.f (g,2,())then 3
  else bif !Yk c g then 4
  else bif !bH.f (g,16,())then 1
  else bif !VD c g.ack then 3 else 5
 else 1
theorem io (g:Segm)(h:ak.f (g,())=true):g.body.length≤1420:=by
 simp only[PX,ak]at h
 revert h
 cases ae.f (g.from_,16,())<;>cases ae.f (g.to,16,())<;>cases ae.f (g.seq,32,())<;>cases ae.f (g.ack,32,())<;>cases ae.f (g.flags,6,())<;>cases ae.f (g.window,16,())<;>cases aM.f (g.opts,())<;>simp<;>omega
theorem DA (c:Conn)(g:Segm)(hs:bf c.r.held):vC.f (c,g,())=EZ c g:=by
 simp only[PX,vC,lH c hs,qn,Pp]
 unfold EZ
 rcases Bool.eq_false_or_eq_true (aN.f (c,()))with h1|h1
 case inr=>rw[h1];rfl
 rcases Bool.eq_false_or_eq_true (c.state==8)with h2|h2
 ·rw[h1,h2];rfl
 rcases Bool.eq_false_or_eq_true (ak.f (g,()))with h3|h3
 case inr=>rw[h1,h2,h3];rfl
 have hc:=(qA c).1 h1
 have hr:=(lw c.r hs).1 hc.rcv
 have hb:=io g h3
 simp only[h1,h2,h3,oE,gD c.r hr.dl,pF,Iw c g hr.dl (by omega),QD c g.ack hc.snd hc.m0 hc.m1,Bool.not_true,Bool.not_false,cond_true,cond_false,Bool.and_self]
 cases bH.f (g,4,())with
 |false=>rfl
 |true=>cases(g.seq==c.r.next)<;>cases xa g.seq c.r.next (mL c.r)<;>rfl
theorem Dl (c:Conn)(g:Segm)(hs:bf c.r.held):vb.f (c,g,())=EZ c g:=by
 simp only[PX,vb]
 unfold EZ
 rcases Bool.eq_false_or_eq_true (aN.f (c,()))with h1|h1
 case inr=>rw[h1];rfl
 rcases Bool.eq_false_or_eq_true (c.state==8)with h2|h2
 ·rw[h1,h2];rfl
 rcases Bool.eq_false_or_eq_true (ak.f (g,()))with h3|h3
 case inr=>rw[h1,h2,h3];rfl
 have hc:=(qA c).1 h1
 have hr:=(lw c.r hs).1 hc.rcv
 have hb:=io g h3
 simp only[h1,h2,h3,gD c.r hr.dl,uC,H7 c g hr.dl (by omega),S5 c g.ack hc.snd hc.m0 hc.m1,Bool.not_true,Bool.not_false,cond_true,cond_false,Bool.and_self]
def jm (w:Nat)(sl:List Int):List Bool:=(sl.take w).map (λs=>decide (0≤s))
def m8 (w:Nat)(sl:List Int):List Int:=(sl.take w).map (λs=>if s<0 then 0 else s)
def st1 (sl:List Int)(o b:Int):List Int:=if sl.getD o.toNat 0<0 then sl.set o.toNat b else sl
theorem adh (w:Nat)(sl:List Int)(o:Nat)(b:Int)(hb:0≤b):jm w (sl.set o b)=(jm w sl).set o true:=by
 unfold jm
 rw[List.take_set,List.map_set,decide_eq_true hb]
theorem acK (w:Nat)(sl:List Int)(o:Nat)(b:Int)(hb:0≤b):m8 w (sl.set o b)=(m8 w sl).set o b:=by
 unfold m8
 rw[List.take_set,List.map_set,if_neg (show¬b<0 by omega)]
theorem u7 (w:Nat)(sl:List Int)(o:Nat)(ho:o<w)(hl:w≤sl.length):(jm w sl).getD o false=decide (0≤sl.getD o 0):=by
 unfold jm
 simp[List.getD,List.getElem?_take,ho,show o<sl.length by omega]
theorem Mr (w:Nat)(sl:List Int)(o b:Int)(h0:0≤o)(h1:o<(w:Int))(hl:w≤sl.length)(hb:0≤b):gP.f (o,b,jm w sl,m8 w sl,())=(jm w (st1 sl o b),m8 w (st1 sl o b)):=by
 simp only[PX,gP]
 rw[u7 w sl o.toNat (by omega) hl]
 unfold st1
 by_cases h:sl.getD o.toNat 0<0
 ·rw[decide_eq_false (by omega),if_pos h,adh _ _ _ _ hb,acK _ _ _ _ hb];rfl
 ·rw[decide_eq_true (by omega),if_neg h];rfl
theorem aeI (p:Piec)(w:Nat)(h1:1≤p.off)(h2:p.off+(p.text.length:Int)≤(w:Int))(hw:w≤33):∀(n k:Nat) (sl:List Int) (r:Recv),w≤sl.length→k+n=p.text.length→(∀(j:Nat) (s:Int),p.off.toNat+k≤j→sl[j]? =some s→s<0)→∃r2,aP (λj a=>(oL p j a).nice) 1 n (k:Int) (r,m8 w sl,jm w sl)= .next (r2,m8 w (sj sl (p.off.toNat+k) (p.text.drop k)),jm w (sj sl (p.off.toNat+k) (p.text.drop k)))
 |0,k,sl,r,hl,h,hf=>⟨r,by rw[List.drop_of_length_le (by omega)];rfl⟩
 |n+1,k,sl,r,hl,h,hf=>by
  have hk:k<p.text.length:=by omega
  have ho:p.off.toNat+k<sl.length:=by omega
  have hfree:=hf (p.off.toNat+k) sl[p.off.toNat+k] (Nat.le_refl _) (List.getElem?_eq_getElem ho)
  have hst:st1 sl (p.off+(k:Int)) (p.text[k].toNat:Int)=sl.set (p.off.toNat+k) (p.text[k].toNat:Int):=by
   unfold st1
   rw[show(p.off+(k:Int)).toNat=p.off.toNat+k by omega,getD_some (List.getElem?_eq_getElem ho),if_pos hfree]
  obtain⟨r2,e⟩:=aeI p w h1 h2 hw n (k+1) (sl.set (p.off.toNat+k) (p.text[k].toNat:Int)) ({r with held:=[]}:Recv) (by rw[List.length_set];exact hl) (by omega) (λj s hj hs=>by
   rw[List.getElem?_set_ne (by omega)]at hs
   exact hf j s (by omega) hs)
  refine⟨r2, ?_⟩
  rw[List.drop_eq_getElem_cons hk]
  simp only[sj]
  simp only[aP,PX,oL,ah,jV _ _ hk]
  rw[am (by omega) (by omega),Mr w sl _ _ (by omega) (by omega) hl (by omega),hst]
  simp only[Stp.elim]
  rw[show(k:Int)+1=((k+1:Nat):Int) by omega]
  exact e
theorem Qp:∀(t:aa) (sl:List Int) (o:Nat) (a:Int),((o:Int)+(t.length:Int)≤a)→(∀(j:Nat) (s:Int),a≤(j:Int)→sl[j]? =some s→s<0)→∀(j:Nat) (s:Int),a≤(j:Int)→(sj sl o t)[j]? =some s→s<0
 |[],_,_,_,_,h,j,s,hj,hs=>h j s hj hs
 |b::t,sl,o,a,ha,h,j,s,hj,hs=>by
  simp only[sj]at hs
  simp only[List.length_cons]at ha
  refine Qp t (sl.set o (b.toNat:Int)) (o+1) a (by omega) (λj s hj hs=> ?_) j s hj hs
  rw[List.getElem?_set_ne (by omega)]at hs
  exact h j s hj hs
theorem Zh (v0:Int)(v1:aa)(v2:Bool)(v3:Int)(v4:List Piec)(v5:Int)(v7 v9:Recv)(w:Nat)(hw:w≤33):∀(held:List Piec) (j:Nat) (a b:Int) (L:Int) (sl:List Int) (r:Recv),d8 L a held=some b→0≤a→L≤(w:Int)→w≤sl.length→(∀(j:Nat) (s:Int),a≤(j:Int)→sl[j]? =some s→s<0)→(∀p∈held,p.text.length≤33)→∃r2,dF (W:=Empty) (λ_ p (x:Recv×List Int×List Bool)=>(ik v0 v1 v2 v3 [p] v5 v7 v9 0 x).nice) j held (r,m8 w sl,jm w sl)= .next (r2,m8 w (held.foldl (λsl p=>sj sl p.off.toNat p.text) sl),jm w (held.foldl (λsl p=>sj sl p.off.toNat p.text) sl))
 |[],_,a,b,L,sl,r,_,_,_,_,_,_=>⟨r,rfl⟩
 |p::held,j,a,b,L,sl,r,hp,ha,hL,hl,hf,ht=>by
  simp only[d8]at hp
  cases hc:((p.text==[])||decide (p.off≤a)||decide (L<p.off+(p.text.length:Int)))with
  |true=>rw[hc]at hp;cases hp
  |false=>
   rw[hc]at hp
   simp only[Bool.or_eq_false_iff,decide_eq_false_iff_not]at hc
   have hpl:=ht p (List.mem_cons_self ..)
   obtain⟨r1,e1⟩:=aeI p w (by omega) (by omega) hw p.text.length 0 sl ({r with held:=[]}:Recv) hl (by omega) (λj s hj hs=>hf j s (by omega) hs)
   rw[List.drop_zero,Nat.add_zero]at e1
   obtain⟨r2,e2⟩:=Zh v0 v1 v2 v3 v4 v5 v7 v9 w hw held (j+1) _ b L (sj sl p.off.toNat p.text) ({r1 with held:=[]}:Recv) hp (by omega) hL (by rw[KK];exact hl) (Qp p.text sl p.off.toNat _ (by omega) (λj s hj hs=>hf j s (by omega) hs)) (λq hq=>ht q (List.mem_cons_of_mem _ hq))
   refine⟨r2, ?_⟩
   rw[dF]
   rw[show(ik v0 v1 v2 v3 [p] v5 v7 v9 0 (r,m8 w sl,jm w sl)).nice= .next (({r1 with held:=[]}:Recv),m8 w (sj sl p.off.toNat p.text),jm w (sj sl p.off.toNat p.text)) by
    simp only[PX,ik,dG,show Int.toNat 0=0 from rfl,List.getD_cons_zero]
    rw[aL]
    refine(congrArg (Stp.elim _ _) e1).trans ?_
    rfl]
   simp only[Stp.elim]
   exact e2
theorem aez (v0:Int)(v1:aa)(x:Recv)(w:Nat)(hw:w≤33)(hf: -1≤x.fin):∀(t:aa) (j:Nat) (sl:List Int) (r:Recv),w≤sl.length→(∀i,t[i]? =v1[j+i]?)→∃r2,aP (λj a=>(nv v0 v1 (w:Int) x j a).nice) 1 t.length (j:Int) (r,m8 w sl,jm w sl)= .next (r2,m8 w (A6 x v0 (w:Int) sl j t),jm w (A6 x v0 (w:Int) sl j t))
 |[],j,sl,r,hl,ht=>⟨r,rfl⟩
 |b::t,j,sl,r,hl,ht=>by
  have hb:v1[j]? =some b:=by have:=ht 0;simpa using this.symm
  have hbt:ai v1 j=(b.toNat:Int):=by simp[ai,List.getD,hb]
  have hll:(Cr x v0 (w:Int) sl j b).length=sl.length:=by unfold Cr;split<;>simp
  obtain⟨r2,e⟩:=aez v0 v1 x w hw hf t (j+1) (Cr x v0 (w:Int) sl j b) ({r with held:=[]}:Recv) (by rw[hll];exact hl) (λi=>by have:=ht (i+1);simp only[List.getElem?_cons_succ]at this;rw[this];congr 1;omega)
  refine⟨r2, ?_⟩
  have eo:((v0+(j:Int))%4294967296-x.next)%4294967296=(v0+(j:Int)-x.next)%4294967296:=by omega
  have hst:(bif (bif decide ((v0+(j:Int)-x.next)%4294967296<(w:Int))then bif x.fin== -1 then(true,())else(decide ((v0+(j:Int)-x.next)%4294967296<x.fin),())else(false,())).1 then(.next (({r with held:=[]}:Recv),(gP.f ((v0+(j:Int)-x.next)%4294967296,(b.toNat:Int),jm w sl,m8 w sl,())).2,(gP.f ((v0+(j:Int)-x.next)%4294967296,(b.toNat:Int),jm w sl,m8 w sl,())).1):Stp (Recv×List Int×List Bool) Empty)else .next (({r with held:=[]}:Recv),m8 w sl,jm w sl))= .next (({r with held:=[]}:Recv),m8 w (Cr x v0 (w:Int) sl j b),jm w (Cr x v0 (w:Int) sl j b)):=by
   have h0:0≤(v0+(j:Int)-x.next)%4294967296:=by omega
   unfold Cr
   generalize(v0+(j:Int)-x.next)%4294967296=o at h0
   by_cases c1:o<(w:Int)
   ·rw[Mr w sl o _ h0 c1 hl (by omega)]
    unfold st1
    rw[decide_eq_true c1]
    by_cases c2:x.fin= -1
    ·rw[show(x.fin== -1)=true by simp[c2]]
     by_cases c3:sl.getD o.toNat 0<0
     ·rw[if_pos c3,if_pos ⟨c1,.inl (by omega),c3⟩];rfl
     ·rw[if_neg c3,if_neg (λh=>c3 h.2.2)];rfl
    ·rw[show(x.fin== -1)=false by simp[c2]]
     by_cases c4:o<x.fin
     ·rw[decide_eq_true c4]
      by_cases c3:sl.getD o.toNat 0<0
      ·rw[if_pos c3,if_pos ⟨c1,.inr c4,c3⟩];rfl
      ·rw[if_neg c3,if_neg (λh=>c3 h.2.2)];rfl
     ·rw[decide_eq_false c4,if_neg (show¬(o<(w:Int)∧(x.fin<0∨o<x.fin)∧sl.getD o.toNat 0<0) from λh=>h.2.1.elim (λh=>by omega) c4)];rfl
   ·rw[decide_eq_false c1,if_neg (show¬(o<(w:Int)∧(x.fin<0∨o<x.fin)∧sl.getD o.toNat 0<0) from λh=>c1 h.1)];rfl
  simp only[List.length_cons,aP,PX,nv,bL,tC,eo,ah,hbt,A6]
  rw[hst]
  simp only[Stp.elim]
  rw[show(j:Int)+1=((j+1:Nat):Int) by omega]
  simp only[PX,nv,bL,tC]at e
  exact e
theorem MI {f:Int→Recv→Stp Recv (Int×Recv)}{g:Recv→Recv}(w:Nat)(sl:List Int)(hl:w≤sl.length)(hf:∀(j:Nat) r,f (j:Int) r=bif (jm w sl).getD j false then .next (g r)else .out ((j:Int),g r))(i:Nat)(hi:i+aK (sl.drop i)≤w):∀(n j:Nat) (r:Recv),j+n=w→i≤j→j≤i+aK (sl.drop i)→∃r2,(i+aK (sl.drop i)<w∧aP f 1 n (j:Int) r= .out (((i+aK (sl.drop i):Nat):Int),r2))∨(i+aK (sl.drop i)=w∧aP f 1 n (j:Int) r= .next r2)
 |0,j,r,h,_,h2=>⟨r,.inr ⟨by omega,rfl⟩⟩
 |n+1,j,r,h,h1,h2=>by
  have hj:j<w:=by omega
  rcases Nat.eq_or_lt_of_le h2 with h3|h3
  ·refine⟨g r,.inl ⟨by omega, ?_⟩⟩
   have hjl:j<sl.length:=by omega
   have hneg:=E0 (sl.drop i) sl[j] (by rw[List.getElem?_drop,show i+aK (sl.drop i)=j by omega];exact List.getElem?_eq_getElem hjl)
   simp only[aP,hf]
   rw[u7 w sl j hj hl,getD_some (List.getElem?_eq_getElem hjl),decide_eq_false (by omega),←h3]
   rfl
  ·obtain⟨s,hs1,qM⟩:=tQ (sl.drop i) (j-i) (by omega)
   rw[List.getElem?_drop,show i+(j-i)=j by omega]at hs1
   obtain⟨r2,h4⟩:=MI (g:=g) w sl hl hf i hi n (j+1) (g r) (by omega) (by omega) (by omega)
   refine⟨r2, ?_⟩
   have e:aP f 1 (n+1) (j:Int) r=aP f 1 n ((j+1:Nat):Int) (g r):=by
    simp only[aP,hf]
    rw[u7 w sl j hj hl,getD_some hs1,decide_eq_true qM]
    simp only[cond_true,Stp.elim]
    rw[show(j:Int)+1=((j+1:Nat):Int) by omega]
   rw[e];exact h4
theorem AE:∀(k k':Nat) (i:Int) (r:List Int),r.length≤k→r.length≤k'→cP k i r=cP k' i r
 |0,k',_,r,h,_=>by
  have:r=[]:=List.eq_nil_of_length_eq_zero (by omega)
  subst this;cases k'<;>simp[cP]
 |k+1,0,_,r,_,h=>by
  have:r=[]:=List.eq_nil_of_length_eq_zero (by omega)
  subst this;simp[cP]
 |k+1,k'+1,i,[],_,_=>by simp[cP]
 |k+1,k'+1,i,s::r,h1,h2=>by
  simp only[List.length_cons]at h1 h2
  simp only[cP]
  have hd:(r.dropWhile (λx=>decide (0≤x))).length≤r.length:=(List.dropWhile_sublist _).length_le
  rw[AE k k' (i+1) r (by omega) (by omega),AE k k' _ (r.dropWhile (λx=>decide (0≤x))) (by omega) (by omega)]
theorem Tq (w:Nat)(sl:List Int)(i n:Nat)(h:i+n≤w)(hn:∀(j:Nat) (s:Int),i≤j→j<i+n→sl[j]? =some s→0≤s):((m8 w sl).take (i+n)).drop i=(sl.drop i).take n:=by
 apply List.ext_getElem?
 intro k
 unfold m8
 rw[List.getElem?_drop,List.getElem?_take,List.getElem?_take,List.getElem?_drop,List.getElem?_map,List.getElem?_take]
 by_cases hk:k<n
 ·rw[if_pos (by omega),if_pos hk,if_pos (by omega)]
  cases hs:sl[i+k]? with
  |none=>rfl
  |some s=>
   have:=hn (i+k) s (by omega) (by omega) hs
   simp only[Option.map_some,if_neg (show¬s<0 by omega)]
 ·rw[if_neg (by omega),if_neg hk]
theorem Ng {p:Int→Bool}(r:List Int):r.take (r.takeWhile p).length=r.takeWhile p:=by
 have h:=List.takeWhile_append_dropWhile (p:=p) (l:=r)
 conv=>lhs;arg 2;rw[←h]
 rw[List.take_left'];rfl
theorem La {p:Int→Bool}(r:List Int):r.drop (r.takeWhile p).length=r.dropWhile p:=by
 have h:=List.takeWhile_append_dropWhile (p:=p) (l:=r)
 conv=>lhs;arg 2;rw[←h]
 rw[List.drop_left'];rfl
theorem X7 (v4:Recv)(w:Nat)(sl:List Int)(hw:w≤32)(hl:sl.length=33)(hneg:∀(j:Nat) (s:Int),w≤j→sl[j]? =some s→s<0)(n:Nat):∀(m i:Nat) (r o:Recv),i≤w→w-i<m→n≤i→∃r2,cm (λa=>(fP (w:Int) (n:Int) v4 (jm w sl) (m8 w sl) a).nice) m ((i:Int),r,o)=(r2,{o with held:=o.held++cP 33 ((i:Int)-(n:Int)) (sl.drop i)})
 |0,i,r,o,_,h,_=>by omega
 |m+1,i,r,o,hi,hm,hn=>by
  rcases Nat.eq_or_lt_of_le hi with h|h
  ·subst h
   refine⟨{r with held:=[]}, ?_⟩
   rw[KT 33 _ (sl.drop i) (λs hs=>by
    obtain⟨p,hp,rfl⟩:=List.getElem_of_mem hs
    rw[List.getElem_drop]
    exact hneg (i+p) _ (by omega) (List.getElem?_eq_getElem (by rw[List.length_drop]at hp;omega))),List.append_nil]
   simp only[cm,PX,fP,decide_eq_false (show¬((i:Int)<(i:Int)) by omega),cond_false,Stp.elim]
  ·have hil:i<sl.length:=by omega
   have hd:sl.drop i=sl[i]::sl.drop (i+1):=List.drop_eq_getElem_cons hil
   have hdl:(sl.drop (i+1)).length≤32:=by rw[List.length_drop];omega
   by_cases hs:sl[i]<0
   ·obtain⟨r2,e⟩:=X7 v4 w sl hw hl hneg n m (i+1) ({r with held:=[]}:Recv) o (by omega) (by omega) (by omega)
    refine⟨r2, ?_⟩
    rw[hd,show cP 33 ((i:Int)-(n:Int)) (sl[i]::sl.drop (i+1))=cP 33 (((i+1:Nat):Int)-(n:Int)) (sl.drop (i+1)) by
     rw[←AE 32 33 _ (sl.drop (i+1)) hdl (by omega)]
     simp only[cP,if_pos hs]
     congr 1;omega]
    rw[←e]
    rw[cm]
    rw[show(fP (w:Int) (n:Int) v4 (jm w sl) (m8 w sl) ((i:Int),r,o)).nice= .next (((i+1:Nat):Int),({r with held:=[]}:Recv),o) by
     simp only[PX,fP,decide_eq_true (show((i:Int)<(w:Int)) by omega),cond_true,ah]
     rw[u7 w sl i h (by omega),getD_some (List.getElem?_eq_getElem hil),decide_eq_false (by omega),am (by omega) (by omega)]
     rfl]
    rfl
   ·have hlead:i+aK (sl.drop i)≤w:=by
     apply Nat.le_of_not_lt
     intro hc
     obtain⟨s,h1,h2⟩:=tQ (sl.drop i) (w-i) (by omega)
     rw[List.getElem?_drop,show i+(w-i)=w by omega]at h1
     have:=hneg w s (Nat.le_refl _) h1
     omega
    have hle:aK (sl.drop i)=1+((sl.drop (i+1)).takeWhile (λx=>decide (0≤x))).length:=by
     unfold aK
     rw[hd,List.takeWhile_cons,decide_eq_true (show 0≤sl[i] by omega)]
     simp only[if_true,List.length_cons];omega
    obtain⟨r1,e1⟩:=MI (g:=λr:Recv=>({r with held:=[]}:Recv)) (f:=λj a=>(oV (jm w sl) j a).nice) w sl (by omega) (λj r=>by
     simp only[PX,oV,ah]) i hlead (w-i) i ({r with held:=[]}:Recv) (by omega) (Nat.le_refl _) (by omega)
    have hseg:((m8 w sl).take (i+aK (sl.drop i))).drop i=sl[i]::(sl.drop (i+1)).takeWhile (λx=>decide (0≤x)):=by
     rw[Tq w sl i (aK (sl.drop i)) hlead (λj s h1 h2 h3=>by
      obtain⟨s2,h4,h5⟩:=tQ (sl.drop i) (j-i) (by omega)
      rw[List.getElem?_drop,show i+(j-i)=j by omega,h3]at h4
      cases h4;exact h5)]
     have:aK (sl.drop i)=((sl.drop i).takeWhile (λx=>decide (0≤x))).length:=rfl
     rw[this,Ng,hd,List.takeWhile_cons,decide_eq_true (show 0≤sl[i] by omega)]
     rfl
    have hdd:sl.drop (i+aK (sl.drop i))=(sl.drop (i+1)).dropWhile (λx=>decide (0≤x)):=by
     rw[hle,←Nat.add_assoc,←List.drop_drop,La]
    have hr:cP 33 ((i:Int)-(n:Int)) (sl.drop i)=⟨(i:Int)-(n:Int),aw (sl[i]::(sl.drop (i+1)).takeWhile (λx=>decide (0≤x)))⟩::cP 33 (((i+aK (sl.drop i):Nat):Int)-(n:Int)) (sl.drop (i+aK (sl.drop i))):=by
     conv=>lhs;rw[hd]
     rw[hdd]
     have hdw:((sl.drop (i+1)).dropWhile (λx=>decide (0≤x))).length≤32:=Nat.le_trans (List.dropWhile_sublist _).length_le hdl
     rw[←AE 32 33 _ _ hdw (by omega)]
     simp only[cP,if_neg hs]
     congr 2;omega
    rw[hr]
    have hstep:∃r3:Recv,(fP (w:Int) (n:Int) v4 (jm w sl) (m8 w sl) ((i:Int),r,o)).nice= .next (((i+aK (sl.drop i):Nat):Int),r3,({o with held:=o.held++[⟨(i:Int)-(n:Int),aw (sl[i]::(sl.drop (i+1)).takeWhile (λx=>decide (0≤x)))⟩]}:Recv)):=by
     simp only[PX,fP,decide_eq_true (show((i:Int)<(w:Int)) by omega),cond_true,ah,ev]
     rw[u7 w sl i h (by omega),getD_some (List.getElem?_eq_getElem hil),decide_eq_true (show 0≤sl[i] by omega),am (m:=(i:Int)-(n:Int)) (by omega) (by omega)]
     simp only[Bool.not_true,cond_false]
     rw[show Int.toNat ((w:Int)-(i:Int))=w-i by omega]
     rcases e1 with⟨h1,h2⟩|⟨h1,h2⟩
     ·rw[h2]
      simp only[Stp.elim,Sum.elim_inl,ah,hseg]
      exact⟨_,rfl⟩
     ·rw[h2]
      rw[h1]at hseg
      simp only[Stp.elim,Sum.elim_inr,h1]
      rw[show(i:Int)+1*((w-i:Nat):Int)=(w:Int) by omega,ah,hseg]
      exact⟨_,rfl⟩
    obtain⟨r3,hst⟩:=hstep
    obtain⟨r2,e⟩:=X7 v4 w sl hw hl hneg n m (i+aK (sl.drop i)) r3 ({o with held:=o.held++[⟨(i:Int)-(n:Int),aw (sl[i]::(sl.drop (i+1)).takeWhile (λx=>decide (0≤x)))⟩]}:Recv) hlead (by omega) (by omega)
    refine⟨r2, ?_⟩
    rw[cm,hst]
    simp only[Stp.elim]
    rw[e]
    simp only[List.append_assoc,List.singleton_append]
def Jr (x:Recv)(w:Nat)(sl:List Int)(z o:Recv):Tr Recv:=
 .lp (dS ((w:Int),(aK sl:Int),(aK sl:Int),({z with held:=[]}:Recv),x,jm w sl,({o with held:=[]}:Recv),m8 w sl,())).lp λp=>
  .ite (decide (3<(p.2.held.length:Int))) (.ret x)<| .ite (p.2.fin==0) (.val ((p.2.next+1)%4294967296) λc=> .ret (⟨c,p.2.data,p.2.held,-1,true⟩:Recv))<| .ret p.2
theorem QI (x:Recv)(w:Nat)(sl:List Int)(z o:Recv)(hw:w≤32)(hl:sl.length=33)(hneg:∀(j:Nat) (s:Int),w≤j→sl[j]? =some s→s<0)(hld:aK sl≤w):(Jr x w sl z o).nice=if 3<(cP 33 0 (sl.drop (aK sl))).length then x else if o.fin=0 then(⟨(o.next+1)%4294967296,o.data,cP 33 0 (sl.drop (aK sl)),-1,true⟩:Recv)else⟨o.next,o.data,cP 33 0 (sl.drop (aK sl)),o.fin,o.done⟩:=by
 obtain⟨r5,e5⟩:=X7 x w sl hw hl hneg (aK sl) (w-aK sl+1) (aK sl) ({z with held:=[]}:Recv) ({o with held:=[]}:Recv) hld (by omega) (Nat.le_refl _)
 rw[Int.sub_self]at e5
 simp only[Jr,PX,dS]
 rw[show Int.toNat ((w:Int)-(aK sl:Int))=w-aK sl by omega,e5]
 simp only[List.nil_append]
 by_cases h3:3<(cP 33 0 (sl.drop (aK sl))).length
 ·rw[if_pos h3,decide_eq_true (show(3:Int)<((cP 33 0 (sl.drop (aK sl))).length:Int) by omega)];rfl
 ·rw[if_neg h3,decide_eq_false (show¬(3:Int)<((cP 33 0 (sl.drop (aK sl))).length:Int) by omega)]
  by_cases h0:o.fin=0
  ·rw[if_pos h0,show(o.fin==0)=true by simp[h0]];rfl
  ·rw[if_neg h0,show(o.fin==0)=false by simp[h0]];rfl
theorem Up (x:Recv)(w:Nat)(sl:List Int)(z:Recv)(F f:Int)(hw:w≤32)(hl:sl.length=33)(hneg:∀(j:Nat) (s:Int),w≤j→sl[j]? =some s→s<0)(hld:aK sl≤w)(hF: -1≤F)(hdn:x.done=false)(hn:0≤x.next)(hf:(F= -1∧f=F)∨(F≠-1∧f=F-(aK sl:Int))):(Jr x w sl z (⟨(x.next+(aK sl:Int))%4294967296,x.data++aw (sl.take (aK sl)),x.held,f,false⟩:Recv)).nice=VT x sl F:=by
 rw[QI x w sl z _ hw hl hneg hld]
 unfold VT
 by_cases h3:3<(cP 33 0 (sl.drop (aK sl))).length
 ·rw[if_pos h3,if_pos h3]
 ·rw[if_neg h3,if_neg h3]
  simp only[]
  rcases hf with⟨h1,h2⟩|⟨h1,h2⟩
  ·rw[if_neg (show¬f=0 by omega),if_neg (show¬F-(aK sl:Int)=0 by omega),if_pos h1,h2,h1,hdn]
  ·by_cases h4:F-(aK sl:Int)=0
   ·rw[if_pos (show f=0 by omega),if_pos h4,show((x.next+(aK sl:Int))%4294967296+1)%4294967296=(x.next+(aK sl:Int)+1)%4294967296 by omega]
   ·rw[if_neg (show¬f=0 by omega),if_neg h4,if_neg h1,h2,hdn]
theorem O6 {α β:Type}{K:α→β}{r:β}{s:α⊕α}(P:α→Prop)(hs:Sum.elim P P s)(h:∀z,P z→K z=r):Sum.elim K K s=r:=by
 cases s with
 |inl a=>exact h a hs
 |inr a=>exact h a hs
theorem ago (x:Recv)(hx:RV x):∃w:Nat,mL x=(w:Int)∧w≤32:=by
 have:=lV x hx.dl
 exact⟨(mL x).toNat,by omega,by omega⟩
theorem OK (xs:List Bool)(t:Bool):ri.f (xs,t,())=em (λb=>t==b) xs:=by
 simp only[PX,ri,jZ]
 rw[jO (λb=>t==b) xs (λj x a h=>by
  simp only[PX,tV,ah,getD_some h])]
 unfold em
 cases xs.findIdx? (λb=>t==b)<;>rfl
theorem FK (xs:List Bool)(t:Bool):fm.f (xs,t,())=xs.any (λb=>t==b):=by
 simp only[PX,fm,OK,mc]
theorem QW (x:Recv)(seq:Int)(t:aa)(fin:Bool)(hs:bf x.held):uQ.f (x,seq,t,fin,())=ol x seq t fin:=by
 simp only[PX,uQ,qu]
 unfold ol
 cases hok:bp.f (x,())with
 |false=>rfl
 |true=>
 cases hdn:x.done with
 |true=>rfl
 |false=>
 have hx:=(lw x hs).1 hok
 have hpo:cX po x.held:=Kw x hx
 obtain⟨w,hwe,hw⟩:=ago x hx
 have hsl:=KV x hx seq t
 have hn0:=hx.n0
 have hn1:=hx.n1
 have hf0:=hx.f0
 have hf1:=hx.f1
 obtain⟨bb,hwk⟩:=hx.wk
 simp only[Bool.not_true,cond_false,gD x hx.dl,hwe,fV,fN,ah]
 have z1:List.replicate w (0:Int)=m8 w (List.replicate 33 (-1)):=by
  unfold m8;rw[List.take_replicate,Nat.min_eq_left (by omega),List.map_replicate];rfl
 have z2:List.replicate w false=jm w (List.replicate 33 (-1)):=by
  unfold jm;rw[List.take_replicate,Nat.min_eq_left (by omega),List.map_replicate];rfl
 rw[z1,z2]
 obtain⟨r1,e1⟩:=Zh seq t fin (w:Int) x.held (x.held.length:Int) x x w (by omega) x.held 0 0 bb _ (List.replicate 33 (-1)) (⟨0,[],[],0,false⟩:Recv) hwk (Int.le_refl _) (by split<;>omega) (by rw[List.length_replicate];omega) (λj s _ h=>by
  have:=List.eq_of_mem_replicate (List.mem_of_getElem? h);omega) (λp hp=>by have:=hpo p hp;unfold po at this;omega)
 rw[ci x.held _ (aL _) (F:=λ_ p (a:Recv×List Int×List Bool)=>(ik seq t fin (w:Int) [p] (x.held.length:Int) x x 0 a).nice) (by
  intro j p a hp
  simp only[PX,ik,dG,ah,getD_some hp,show Int.toNat 0=0 from rfl,List.getD_cons_zero])]
 rw[e1]
 simp only[Stp.elim]
 have hsn:x.held.foldl (λsl p=>sj sl p.off.toNat p.text) (List.replicate 33 (-1))=oD x.held:=rfl
 rw[hsn]
 obtain⟨r2,e2⟩:=aez seq t x w (by omega) hf0 t 0 (oD x.held) ({r1 with held:=[]}:Recv) (by unfold oD;rw[rV,List.length_replicate];omega) (λi=>by rw[Nat.zero_add])
 rw[show((0:Nat):Int)=0 from rfl]at e2
 rw[aL,e2]
 simp only[Stp.elim,bL,tC]
 have hL:A6 x seq (w:Int) (oD x.held) 0 t=JF x seq t:=by unfold JF;rw[hwe]
 rw[hL]
 have hL2:A6 x seq (mL x) (oD x.held) 0 t=JF x seq t:=rfl
 rw[hL2]at hsl
 have ee:((seq+(t.length:Int))%4294967296-x.next)%4294967296=(seq+(t.length:Int)-x.next)%4294967296:=by omega
 rw[ee]
 have he0:0≤(seq+(t.length:Int)-x.next)%4294967296:=by omega
 generalize(seq+(t.length:Int)-x.next)%4294967296=e at he0
 generalize JF x seq t=sl at hsl
 clear e1 e2 hL hL2 hsn z1 z2 ee
 obtain⟨hl,hat⟩:=hsl
 have hneg:∀(j:Nat) (s:Int),w≤j→sl[j]? =some s→s<0:=λj s hj h=>by
  apply Int.not_le.1
  intro h0
  have:=(hat j s h).2.2 h0
  rw[hwe]at this hf1
  split at this<;>omega
 have hany:(jm w sl).drop e.toNat=((sl.drop e.toNat).take (w-e.toNat)).map (λs=>decide (0≤s)):=by
  unfold jm
  rw[←List.map_drop,List.drop_take]
 have hcont:e≤(w:Int)→fm.f (((jm w sl).take (jm w sl).length).drop e.toNat,true,())= !(sl.drop e.toNat).all (λs=>decide (s<0)):=by
  intro hew
  rw[List.take_length,FK,hany]
  rw[Bool.eq_iff_iff]
  simp only[List.any_eq_true,List.mem_map,Bool.not_eq_true',List.all_eq_false]
  constructor
  ·rintro⟨b,⟨s,hs1,rfl⟩,hb⟩
   refine⟨s,List.mem_of_mem_take hs1, ?_⟩
   simp at hb⊢;omega
  ·rintro⟨s,hs1,qM⟩
   refine⟨true,⟨s, ?_, ?_⟩,rfl⟩
   ·obtain⟨k,hk,rfl⟩:=List.getElem_of_mem hs1
    rw[List.getElem_drop]at qM⊢
    have hk2:e.toNat+k<w:=by
     apply Nat.lt_of_not_le
     intro hc
     have:=hneg (e.toNat+k) _ hc (List.getElem?_eq_getElem (by rw[List.length_drop]at hk;omega))
     simp at qM;omega
    rw[List.mem_take_iff_getElem]
    refine⟨k,by rw[List.length_drop];omega, ?_⟩
    rw[List.getElem_drop]
   ·simp at qM⊢;omega
 have hF0: -1≤Kr x sl e fin:=by unfold Kr;split<;>omega
 have hF1:Kr x sl e fin≤(w:Int):=by unfold Kr;rw[hwe]at hf1⊢;split<;>omega
 have hcond:(bif (bif fin then bif x.fin== -1 then bif decide (e≤(w:Int))then(!fm.f (((jm w sl).take (jm w sl).length).drop e.toNat,true,()),())else(false,())else(false,())else(false,())).1 then((w:Int),x,({r2 with held:=[]}:Recv),x,jm w sl,(⟨x.next,x.data,x.held,e,false⟩:Recv),m8 w sl,())else((w:Int),x,({r2 with held:=[]}:Recv),x,jm w sl,x,m8 w sl,()))=((w:Int),x,({r2 with held:=[]}:Recv),x,jm w sl,(⟨x.next,x.data,x.held,Kr x sl e fin,x.done⟩:Recv),m8 w sl,()):=by
  unfold Kr
  cases fin with
  |false=>simp
  |true=>
   by_cases c1:x.fin= -1
   ·rw[show(x.fin== -1)=true by simp[c1]]
    by_cases c2:e≤(w:Int)
    ·rw[decide_eq_true c2,hcont c2,hwe]
     cases hall:(sl.drop e.toNat).all (λs=>decide (s<0))with
     |true=>simp only[cond_true,Bool.not_true,Bool.not_false,true_and,if_pos (show x.fin<0∧e≤(w:Int)∧True from⟨by omega,c2,trivial⟩),hdn]
     |false=>simp
    ·rw[decide_eq_false c2,hwe,if_neg (λh=>c2 h.2.2.1)];rfl
   ·rw[show(x.fin== -1)=false by simp[c1],if_neg (λh=>by have:=h.2.1;omega)];rfl
 have hld0:aK sl≤w:=by
  apply Nat.le_of_not_lt
  intro hc
  obtain⟨s,h1,h2⟩:=tQ sl w hc
  have:=hneg w s (Nat.le_refl _) h1
  omega
 obtain⟨r3,e3⟩:=MI (g:=λr:Recv=>({r with held:=[]}:Recv)) (f:=λj a=>(sP (jm w sl) j a).nice) w sl (by omega) (λj r=>by
  simp only[PX,sP,ah]) 0 (by rw[List.drop_zero,Nat.zero_add];exact hld0) w 0 ({r2 with held:=[]}:Recv) (by omega) (Nat.le_refl _) (Nat.zero_le _)
 rw[List.drop_zero,Nat.zero_add,show((0:Nat):Int)=0 from rfl]at e3
 have hdat:aw (((m8 w sl).take (aK sl)).drop 0)=aw (sl.take (aK sl)):=by
  have:=Tq w sl 0 (aK sl) (by omega) (λj s _ h2 h3=>by
   obtain⟨s2,h4,h5⟩:=tQ sl j (by omega)
   rw[h3]at h4;cases h4;exact h5)
  rw[Nat.zero_add]at this
  rw[this,List.drop_zero]
 generalize hF:Kr x sl e fin=F at hF0 hF1 hcond⊢
 generalize(bif fin then bif x.fin== -1 then bif decide (e≤(w:Int))then(!fm.f (((jm w sl).take (jm w sl).length).drop e.toNat,true,()),())else(false,())else(false,())else(false,())).1=b at hcond⊢
 rw[if_pos (⟨trivial,trivial⟩:True∧True)]
 have hE:∀(z:Recv),(Jr x w sl z (⟨(x.next+(aK sl:Int))%4294967296,x.data++aw (sl.take (aK sl)),x.held,if F= -1 then F else F-(aK sl:Int),false⟩:Recv)).nice=VT x sl F:=λz=>Up x w sl z F _ hw hl hneg hld0 hF0 hdn hn0 (by
  by_cases hh:F= -1
  ·exact .inl ⟨hh,if_pos hh⟩
  ·exact .inr ⟨hh,if_neg hh⟩)
 have hwr:IntKind.wrap .i64 (F-(aK sl:Int))=F-(aK sl:Int):=am (by omega) (by omega)
 cases b with
 |true=>
  simp only[cond_true]at hcond⊢
  have hfin:e=F:=(by simpa using congrArg (λp=>p.2.2.2.2.2.1.fin) hcond)
  clear hcond
  dsimp only[Tr.nice]
  simp only[PX,eL,hfin]
  rw[show Int.toNat ((w:Int)-0)=w by omega]
  rcases e3 with⟨h1,h2⟩|⟨h1,h2⟩<;>refine(congrArg (Stp.elim _ _) h2).trans ?_ <;>simp only[Stp.elim]<;>refine O6 (λz:Int×Recv=>z.1=(aK sl:Int)) (by first|rfl|(show(0:Int)+1*((w:Nat):Int)=_;omega)) ?_ <;>rintro⟨z1,z2⟩ hz<;>simp only[]at hz<;>subst hz<;>simp only[wJ,ah,hdat,hwr]<;>by_cases hF2:F= -1
  all_goals (have hE2:=hE z2)
  all_goals (first|rw[if_pos hF2]at hE2|rw[if_neg hF2]at hE2)
  ·rw[show(F != -1)=false by simp[hF2]];exact hE2
  ·rw[show(F != -1)=true by simp[hF2]];exact hE2
  ·rw[show(F != -1)=false by simp[hF2]];exact hE2
  ·rw[show(F != -1)=true by simp[hF2]];exact hE2
 |false=>
  simp only[cond_false]at hcond⊢
  have hfin:x.fin=F:=(by simpa using congrArg (λp=>p.2.2.2.2.2.1.fin) hcond)
  clear hcond
  dsimp only[Tr.nice]
  simp only[PX,eL,hfin,hdn]
  rw[show Int.toNat ((w:Int)-0)=w by omega]
  rcases e3 with⟨h1,h2⟩|⟨h1,h2⟩<;>refine(congrArg (Stp.elim _ _) h2).trans ?_ <;>simp only[Stp.elim]<;>refine O6 (λz:Int×Recv=>z.1=(aK sl:Int)) (by first|rfl|(show(0:Int)+1*((w:Nat):Int)=_;omega)) ?_ <;>rintro⟨z1,z2⟩ hz<;>simp only[]at hz<;>subst hz<;>simp only[wJ,ah,hdat,hwr]<;>by_cases hF2:F= -1
  all_goals (have hE2:=hE z2)
  all_goals (first|rw[if_pos hF2]at hE2|rw[if_neg hF2]at hE2)
  ·rw[show(F != -1)=false by simp[hF2]];exact hE2
  ·rw[show(F != -1)=true by simp[hF2]];exact hE2
  ·rw[show(F != -1)=false by simp[hF2]];exact hE2
  ·rw[show(F != -1)=true by simp[hF2]];exact hE2
theorem XX (s:Sndr)(ack:Int):I9.f (s,ack,())=if vo s ack=true then(cV s (tE ack s.una),true)else(s,false):=by
 simp only[PX,I9,wd,av,bL]
 unfold vo
 cases hk:bi.f (s,())with
 |false=>rfl
 |true=>
  have hs:=(yF s).1 hk
  simp only[uW s hs]
  obtain⟨e1,e2,e3,e4,e5,e6,e7⟩:=hs
  generalize tE ack s.una=n
  simp only[Bool.not_true,cond_false,Bool.true_and]
  by_cases hn:0≤n∧n≤Jw s
  ·rw[decide_eq_true hn.1,decide_eq_true hn.2]
   simp only[Bool.and_self,Bool.not_true,cond_false,if_true]
   have hfl:=hn.2
   unfold Jw at hfl
   unfold cV
   by_cases hc:s.sent<n
   ·have hf:s.finSent=true:=by
     cases hfs:s.finSent with
     |true=>rfl
     |false=>rw[hfs]at hfl;simp only[Bool.false_eq_true,if_false]at hfl;omega
    have hl:=(e6 hf).2
    rw[hf]at hfl;simp only[if_true]at hfl
    have e:(if(s.data.length:Int)<n then(s.data.length:Int)else n)=s.sent:=by rw[if_pos (by omega)];omega
    simp only[if_pos hc,e]
    rw[am (m:=s.sent+1) (by omega) (by omega),show(n==s.sent+1)=true by simp;omega,am (by omega) (by omega)]
    simp only[PX,ah,List.take_length,cond_true]
   ·have e:(if(s.data.length:Int)<n then(s.data.length:Int)else n)=n:=by rw[if_neg (by omega)]
    simp only[if_neg hc,e]
    rw[am (m:=s.sent+1) (by omega) (by omega),show(n==s.sent+1)=false by simp;omega,am (by omega) (by omega)]
    simp only[PX,ah,List.take_length,cond_false]
  ·have e:(decide (0≤n)&&decide (n≤Jw s))=false:=by
    rw[Bool.and_eq_false_iff];simp only[decide_eq_false_iff_not];omega
   rw[e];rfl
theorem X9 (w sc:Int)(h0:0≤w)(h1:w≤65535)(h2:sc≤14):IntKind.wrap .i64 (w*2 ^ (min (if sc<0 then 0 else sc).toNat 64))=jc w sc∧jc w sc≤1073725440:=by
 have hr:=Lq w sc h0 h1 h2
 have hk:(if sc<0 then 0 else sc).toNat≤14:=by split<;>omega
 rw[Nat.min_eq_left (by omega)]
 unfold jc at hr⊢
 exact⟨am (by omega) (by omega),hr.2⟩
theorem Gx (w:Int)(o:Opti)(h0:0≤w)(h1:w≤65535)(h2:o.scale≤14):yM.f (w,o,())=jc w o.scale:=by
 obtain⟨e1,e2⟩:=X9 w o.scale h0 h1 h2
 simp only[PX,yM,e1]
 rw[if_neg (by omega)]
theorem Kl (n:Int)(h0:0≤n)(h1:n≤100):IntKind.wrap .u64 n=n:=by rw[AH];omega
theorem SA (x:Conn):aN.f (x,())=(aN.f ({x with tries:=0},())&&(decide (0≤x.tries)&&decide (x.tries≤3))):=by
 rw[K8,K8]
 simp only[]
 generalize aG.f (x.tuple,())=b1
 generalize bi.f (x.s,())=b2
 generalize bp.f (x.r,())=b3
 generalize aM.f (x.opts,())=b4
 generalize(decide (1≤x.state)&&decide (x.state≤8))=b5
 generalize(decide (0≤x.most)&&decide (x.most≤1073725440))=b6
 generalize(decide (0≤x.window)&&decide (x.window≤x.most))=b7
 generalize(decide (0≤x.timer)&&bif x.state==7 then decide (x.timer≤4)else decide (x.timer≤3))=b8
 generalize(decide (0≤x.tries)&&decide (x.tries≤3))=b9
 generalize Zy x.state x.s.fin x.s.done x.r.done=b10
 have z:(decide ((0:Int)≤0)&&decide ((0:Int)≤3))=true:=rfl
 rw[z]
 cases b1<;>cases b2<;>cases b3<;>cases b4<;>cases b5<;>cases b6<;>cases b7<;>cases b8<;>simp[Bool.and_comm]
def Zr (x:Conn)(k:Int):Conn:=bif (bif !aN.f ({x with state:=k,timer:=0},())then(true,())else(!(decide (0≤x.timer)&&decide (x.timer≤4)),())).1 then x else bif k==7 then{x with state:=k,timer:=4,tries:=0}else bif k==8 then{x with state:=k,timer:=0,tries:=0}else{x with state:=k}
theorem Xu (x:Conn)(hk:pd x.state x.s.done x.r.done≠x.state):Zr x (pd x.state x.s.done x.r.done)=dY x:=by
 unfold Zr dY LL
 rw[SA]
 simp only[]
 generalize pd x.state x.s.done x.r.done=k at hk
 rw[if_neg hk]
 generalize(decide (0≤x.timer)&&decide (x.timer≤4))=b1
 generalize(decide (0≤x.tries)&&decide (x.tries≤3))=b2
 cases aN.f (({x with state:=k,timer:=0,tries:=0}:Conn),())with
 |false=>rfl
 |true=>
 cases b1 with
 |false=>cases b2<;>rfl
 |true=>
 cases b2 with
 |false=>rfl
 |true=>
 simp only[Bool.not_true,cond_false,Bool.and_self,if_true]
 by_cases h7:k=7
 ·subst h7;rfl
 ·rw[if_neg h7,show(k==7)=false by simp[h7]]
  simp only[cond_false]
  by_cases h8:k=8
  ·subst h8;rfl
  ·rw[if_neg h8,show(k==8)=false by simp[h8]];rfl
theorem SF (x:Conn)(hk:pd x.state x.s.done x.r.done=x.state):dY x=x:=by
 unfold dY
 split
 ·rfl
 ·rfl
theorem HG (x:Conn):tt.f (x,())=dY x:=by
 simp only[PX,tt,ce,av]
 have t1:=Xu x
 have t2:=SF x
 have hst:x.state=1∨x.state=2∨x.state=3∨x.state=5∨x.state=6∨(x.state≠1∧x.state≠2∧x.state≠3∧x.state≠5∧x.state≠6):=by omega
 rcases hst with h|h|h|h|h|⟨h1,h2,h3,h5,h6⟩
 case inr.inr.inr.inr.inr=>
  have e:pd x.state x.s.done x.r.done=x.state:=by
   unfold pd;rw[if_neg h1,if_neg h2,if_neg h3,if_neg h5,if_neg h6]
  rw[t2 e,show(x.state==1)=false by simp[h1],show(x.state==2)=false by simp[h2],show(x.state==3)=false by simp[h3],show(x.state==5)=false by simp[h5],show(x.state==6)=false by simp[h6]]
  rfl
 all_goals (rw[h]at t1 t2⊢;cases hs:x.s.done<;>cases hr:x.r.done<;>rw[hs,hr]at t1 t2<;>first|exact(t2 rfl).symm|exact t1 (by decide))
structure V5 (c:Conn)(g:Segm):Prop where
 co:CO c
 s8:c.state≠8
 sg:ak.f (g,())=true
 n4:bH.f (g,4,())=false
 n2:bH.f (g,2,())=false
 fit:VD c g.ack=true
theorem vd5 (c:Conn)(g:Segm)(h:EZ c g=5):V5 c g:=by
 unfold EZ at h
 cases h1:aN.f (c,())with
 |false=>rw[h1]at h;simp at h
 |true=>
 cases h2:(c.state==8)with
 |true=>rw[h1,h2]at h;simp at h
 |false=>
 cases h3:ak.f (g,())with
 |false=>rw[h1,h2,h3]at h;simp at h
 |true=>
 rw[h1,h2,h3]at h
 simp only[Bool.not_false,Bool.and_self,cond_true]at h
 cases h4:bH.f (g,4,())with
 |true=>
  rw[h4]at h
  simp only[cond_true]at h
  exfalso;revert h
  cases(g.seq==c.r.next)<;>cases xa g.seq c.r.next (mL c.r)<;>simp
 |false=>
 rw[h4]at h
 simp only[cond_false]at h
 cases h5:bH.f (g,2,())with
 |true=>rw[h5]at h;simp at h
 |false=>
 rw[h5]at h
 simp only[cond_false]at h
 refine⟨(qA c).1 h1,by simpa using h2,h3,h4,h5, ?_⟩
 revert h
 cases Yk c g<;>cases bH.f (g,16,())<;>cases VD c g.ack<;>simp
theorem bv (g:Segm):ak.f (g,())=true↔((0≤g.from_∧g.from_≤65535)∧(0≤g.to∧g.to≤65535)∧(0≤g.seq∧g.seq≤4294967295)∧(0≤g.ack∧g.ack≤4294967295)∧(0≤g.flags∧g.flags≤63)∧(0≤g.window∧g.window≤65535)∧aM.f (g.opts,())=true∧g.body.length≤1420):=by
 simp only[PX,ak,dh,cf,Xi]
 rw[show((g.body.length≤1420)↔decide (((g.body.length:Nat):Int)≤1420)=true) by simp;omega]
 simp only[←Bool.decide_and,Bool.cond_eq_ite,Bool.if_false_right,Bool.decide_eq_true,Bool.and_eq_true,decide_eq_true_eq]
 constructor
 ·rintro⟨a,b,w,s,k,f,o,bd⟩;exact⟨a,b,s,k,f,w,o,bd⟩
 ·rintro⟨a,b,s,k,f,w,o,bd⟩;exact⟨a,b,w,s,k,f,o,bd⟩
theorem abH (a b:Int):j1.f (a,b,())=if a<b then a else b:=kG a b
theorem LF (a b:Int):fB.f (a,b,())=if b<a then a else b:=mD a b
theorem VZ (w sc:Int)(h0:0≤w)(h1:w≤65535)(h2:sc≤14):j1.f (1073725440,IntKind.wrap .i64 (w*2 ^ (min (IntKind.wrap .u64 (fB.f (0,sc,()))).toNat 64)),())=jc w sc:=by
 obtain⟨e1,e2⟩:=X9 w sc h0 h1 h2
 rw[LF,show(if sc<0 then(0:Int)else sc)=(if sc<0 then 0 else sc) from rfl,Kl _ (by split<;>omega) (by split<;>omega),e1,abH,if_neg (by omega)]
theorem KX (a b f k:Int):(bif a != b then(k != 7,())else bif f==0 then(k != 7,())else(false,())).1=decide ((a≠b∨f=0)∧k≠7):=by
 cases h1:(a != b)<;>cases h2:(f==0)<;>cases h3:(k != 7)<;>simp_all
theorem Qa (x:Recv)(seq:Int)(t:aa)(fin:Bool)(hx:RV x):bf (ol x seq t fin).held:=(MR x seq t fin hx).small
theorem Yp (c:Conn)(g:Segm)(hs:bf c.r.held):CW.f (c,g,())=if EZ c g=5 then fZ c g else c:=by
 simp only[PX,CW,fG,DA c g hs]
 by_cases hv:EZ c g=5
 ·rw[if_pos hv,show(EZ c g != 5)=false by simp[hv]]
  have h:=vd5 c g hv
  have hr:=(lw c.r hs).1 h.co.rcv
  have hb:=io g h.sg
  have hw:=((bv g).1 h.sg).2.2.2.2.2.1
  have hsc:=(fe c.opts h.co.opt).2
  have hS:=VZ g.window c.opts.scale hw.1 hw.2 hsc
  have tl:∀u:Conn,u.r=c.r→(bif bZ.f (c.state,1,3,())then sy.f (({u with r:=rH.f (c.r,g.seq,g.body,gW.f (g,1,()),())}:Conn),())else sy.f (u,()))=if 1≤c.state∧c.state≤3 then dY {u with r:=ol c.r g.seq g.body (gW.f (g,1,()))}else dY u:=by
   intro u hu
   rw[QE c.r _ _ _ hs (by omega),Hg u (by rw[hu];exact hs),Hg _ (Qa c.r _ _ _ hr),bF]
   by_cases h3:1≤c.state∧c.state≤3
   ·rw[if_pos h3,decide_eq_true h3.1,decide_eq_true h3.2];rfl
   ·rw[if_neg h3,show(decide (1≤c.state)&&decide (c.state≤3))=false by rw[Bool.and_eq_false_iff];simp only[decide_eq_false_iff_not];omega];rfl
  simp only[YL,cond_false]
  unfold fZ vR
  by_cases ha:vo c.s g.ack=true
  ·have hso:=L2 c.s h.co.snd (tE g.ack c.s.una) (by
    unfold vo at ha;simp only[Bool.and_eq_true,decide_eq_true_eq]at ha;exact ha.2.1) (by
    unfold vo at ha;simp only[Bool.and_eq_true,decide_eq_true_eq]at ha;exact ha.2.2)
   have hM:fB.f (c.most,jc g.window c.opts.scale,())=if c.most<jc g.window c.opts.scale then jc g.window c.opts.scale else c.most:=by
    rw[LF];split<;>split<;>omega
   simp only[if_pos ha,cond_true,zI,uW _ hso.1,hS,hM]
   have hcnd:(bif (cV c.s (tE g.ack c.s.una)).una != c.s.una then(c.state != 7,())else bif Jw (cV c.s (tE g.ack c.s.una))==0 then(c.state != 7,())else(false,())).1=decide (((cV c.s (tE g.ack c.s.una)).una≠c.s.una∨Jw (cV c.s (tE g.ack c.s.una))=0)∧c.state≠7):=KX _ _ _ _
   rw[hcnd]
   have tl2:=λ(t r:Int)=>tl ({c with s:=cV c.s (tE g.ack c.s.una),window:=jc g.window c.opts.scale,most:=(if c.most<jc g.window c.opts.scale then jc g.window c.opts.scale else c.most),timer:=t,tries:=r}:Conn) rfl
   by_cases hq:((cV c.s (tE g.ack c.s.una)).una≠c.s.una∨Jw (cV c.s (tE g.ack c.s.una))=0)∧c.state≠7
   ·simp only[decide_eq_true hq,if_pos hq,cond_true]
    by_cases h0:0<Jw (cV c.s (tE g.ack c.s.una))
    ·simp only[decide_eq_true h0,if_pos h0,cond_true]
     dsimp only[Tr.nice]
     exact tl2 3 0
    ·simp only[decide_eq_false h0,if_neg h0,cond_false]
     dsimp only[Tr.nice]
     exact tl2 0 0
   ·simp only[decide_eq_false hq,if_neg hq,cond_false]
    dsimp only[Tr.nice]
    exact tl2 c.timer c.tries
  ·simp only[if_neg ha,cond_false]
   dsimp only[Tr.nice]
   exact tl c rfl
 ·rw[if_neg hv,show(EZ c g != 5)=true by simp[hv]];rfl
theorem W6 (c:Conn)(g:Segm)(hs:bf c.r.held):Du.f (c,g,())=if EZ c g=5 then fZ c g else c:=by
 simp only[PX,Du,ce,Dl c g hs]
 by_cases hv:EZ c g=5
 ·rw[if_pos hv,show(EZ c g != 5)=false by simp[hv]]
  have h:=vd5 c g hv
  have hr:=(lw c.r hs).1 h.co.rcv
  have hw:=((bv g).1 h.sg).2.2.2.2.2.1
  have hsc:=(fe c.opts h.co.opt).2
  have tl:∀u:Conn,u.r=c.r→(bif (bif c.state==1 then(true,())else bif c.state==2 then(true,())else(c.state==3,())).1 then tt.f (({u with r:=uQ.f (c.r,g.seq,g.body,bH.f (g,1,()),())}:Conn),())else tt.f (u,()))=if 1≤c.state∧c.state≤3 then dY {u with r:=ol c.r g.seq g.body (gW.f (g,1,()))}else dY u:=by
   intro u hu
   rw[QW c.r _ _ _ hs,HG u,HG,Pp]
   have hk:(bif c.state==1 then(true,())else bif c.state==2 then(true,())else(c.state==3,())).1=decide (1≤c.state∧c.state≤3):=by
    by_cases k1:c.state=1
    ·simp[k1]
    ·by_cases k2:c.state=2
     ·simp[k2]
     ·by_cases k3:c.state=3
      ·simp[k3]
      ·rw[show(c.state==1)=false by simp[k1],show(c.state==2)=false by simp[k2],show(c.state==3)=false by simp[k3],decide_eq_false (by omega)];rfl
   rw[hk]
   by_cases h3:1≤c.state∧c.state≤3
   ·rw[if_pos h3,decide_eq_true h3];rfl
   ·rw[if_neg h3,decide_eq_false h3];rfl
  simp only[XX,cond_false]
  unfold fZ vR
  by_cases ha:vo c.s g.ack=true
  ·have hso:=L2 c.s h.co.snd (tE g.ack c.s.una) (by
    unfold vo at ha;simp only[Bool.and_eq_true,decide_eq_true_eq]at ha;exact ha.2.1) (by
    unfold vo at ha;simp only[Bool.and_eq_true,decide_eq_true_eq]at ha;exact ha.2.2)
   simp only[if_pos ha,cond_true,uW _ hso.1,Gx _ _ hw.1 hw.2 hsc]
   have hcnd:(bif (cV c.s (tE g.ack c.s.una)).una != c.s.una then(c.state != 7,())else bif Jw (cV c.s (tE g.ack c.s.una))==0 then(c.state != 7,())else(false,())).1=decide (((cV c.s (tE g.ack c.s.una)).una≠c.s.una∨Jw (cV c.s (tE g.ack c.s.una))=0)∧c.state≠7):=KX _ _ _ _
   rw[hcnd]
   have tl2:=λ(t r:Int)=>tl ({c with s:=cV c.s (tE g.ack c.s.una),window:=jc g.window c.opts.scale,most:=(if c.most<jc g.window c.opts.scale then jc g.window c.opts.scale else c.most),timer:=t,tries:=r}:Conn) rfl
   by_cases hq:((cV c.s (tE g.ack c.s.una)).una≠c.s.una∨Jw (cV c.s (tE g.ack c.s.una))=0)∧c.state≠7
   ·simp only[decide_eq_true hq,if_pos hq,cond_true]
    by_cases h0:0<Jw (cV c.s (tE g.ack c.s.una))
    ·simp only[decide_eq_true h0,if_pos h0,cond_true]
     dsimp only[Tr.nice]
     exact tl2 3 0
    ·simp only[decide_eq_false h0,if_neg h0,cond_false]
     dsimp only[Tr.nice]
     exact tl2 0 0
   ·simp only[decide_eq_false hq,if_neg hq,cond_false]
    dsimp only[Tr.nice]
    exact tl2 c.timer c.tries
  ·simp only[if_neg ha,cond_false]
   dsimp only[Tr.nice]
   exact tl c rfl
 ·rw[if_neg hv,show(EZ c g != 5)=true by simp[hv]];rfl
structure H1 (c u:Conn):Prop where
 tup:u.tuple=c.tuple
 st:u.state=c.state
 op:u.opts=c.opts
 rr:u.r=c.r
 so:SO u.s
 fin:u.s.fin=c.s.fin
 dn:c.s.done=true→u.s.done=true
 m0:0≤u.most
 m1:u.most≤1073725440
 w0:0≤u.window
 w1:u.window≤u.most
 t0:0≤u.timer
 t4:u.timer≤4
 t3:c.state≠7→u.timer≤3
 r0:0≤u.tries
 r3:u.tries≤3
theorem acb (c:Conn)(g:Segm)(h:V5 c g):H1 c (vR c g):=by
 have hc:=h.co
 have hw:=((bv g).1 h.sg).2.2.2.2.2.1
 have hsc:=(fe c.opts hc.opt).2
 have hr:=Lq g.window c.opts.scale hw.1 hw.2 hsc
 have a1:=hc.m0
 have a2:=hc.m1
 have a3:=hc.w0
 have a4:=hc.w1
 have a5:=hc.t0
 have a6:=hc.t4
 have a7:=hc.r0
 have a8:=hc.r3
 unfold vR
 split
 ·rename_i ha
  have hso:=L2 c.s hc.snd (tE g.ack c.s.una) (by
    unfold vo at ha;simp only[Bool.and_eq_true,decide_eq_true_eq]at ha;exact ha.2.1) (by
    unfold vo at ha;simp only[Bool.and_eq_true,decide_eq_true_eq]at ha;exact ha.2.2)
  split
  ·refine⟨rfl,rfl,rfl,rfl,hso.1,hso.2.1,hso.2.2, ?_, ?_,hr.1, ?_, ?_, ?_,λ_=> ?_,Int.le_refl _,by show(0:Int)≤3;omega⟩
   ·show 0≤(if c.most<jc g.window c.opts.scale then jc g.window c.opts.scale else c.most);split<;>omega
   ·show(if c.most<jc g.window c.opts.scale then jc g.window c.opts.scale else c.most)≤1073725440;split<;>omega
   ·show jc g.window c.opts.scale≤(if c.most<jc g.window c.opts.scale then jc g.window c.opts.scale else c.most);split<;>omega
   ·show 0≤(if 0<Jw (cV c.s (tE g.ack c.s.una))then(3:Int)else 0);split<;>omega
   ·show(if 0<Jw (cV c.s (tE g.ack c.s.una))then(3:Int)else 0)≤4;split<;>omega
   ·show(if 0<Jw (cV c.s (tE g.ack c.s.una))then(3:Int)else 0)≤3;split<;>omega
  ·refine⟨rfl,rfl,rfl,rfl,hso.1,hso.2.1,hso.2.2, ?_, ?_,hr.1, ?_,a5,a6,hc.t3,a7,a8⟩
   ·show 0≤(if c.most<jc g.window c.opts.scale then jc g.window c.opts.scale else c.most);split<;>omega
   ·show(if c.most<jc g.window c.opts.scale then jc g.window c.opts.scale else c.most)≤1073725440;split<;>omega
   ·show jc g.window c.opts.scale≤(if c.most<jc g.window c.opts.scale then jc g.window c.opts.scale else c.most);split<;>omega
 ·exact⟨rfl,rfl,rfl,rfl,hc.snd,rfl,λh=>h,a1,a2,a3,a4,a5,a6,hc.t3,a7,a8⟩
theorem Vp {s:Sndr}(h:SO s)(hd:s.done=true):s.fin=true:=(h.2.2.2.2.2.2 hd).1
theorem Zv {c u:Conn}(hc:CO c)(h8:c.state≠8)(h:H1 c u)(rv:Recv)(hrv:RV rv)(hd:rv.done=c.r.done∨(c.r.done=false∧c.state≤3)):TR ({u with r:=rv}:Conn):=by
 have s1:=hc.s1
 have s8:=hc.s8
 refine⟨by show aG.f (u.tuple,())=true;rw[h.tup];exact hc.tup,h.so,(lw rv hrv.small).2 hrv,by show aM.f (u.opts,())=true;rw[h.op];exact hc.opt,by show 1≤u.state;rw[h.st];exact s1,by show u.state≤7;rw[h.st];omega,h.m0,h.m1,h.w0,h.w1,h.t0,h.t4,λhn=>h.t3 (by rw[←h.st];exact hn),h.r0,h.r3, ?_⟩
 show Zy (pd u.state u.s.done rv.done) u.s.fin u.s.done rv.done=true
 rw[h.st,h.fin]
 exact acu c.state s1 (by omega) c.s.fin c.s.done c.r.done u.s.done rv.done hc.fl h.dn (λhh=>by rw[←h.fin];exact Vp h.so hh) hd
theorem afE (k:Int)(sf sd rd:Bool)(h:Zy k sf sd rd=true)(h1:1≤k)(h3:k≤3):rd=false:=by
 have hk:k=1∨k=2∨k=3:=by omega
 rcases hk with rfl|rfl|rfl<;>revert h<;>revert sf sd rd<;>decide+kernel
theorem TD (x:Conn):(dY x).s=x.s:=by
 unfold dY;repeat' split
 all_goals rfl
theorem VB (x:Conn):(dY x).r=x.r:=by
 unfold dY;repeat' split
 all_goals rfl
theorem Va (x:Conn)(h:(dY x).state=8)(h8:x.state≠8):x.state=6∧x.s.done=true:=by
 have hl:pd x.state x.s.done x.r.done=8:=by
  unfold dY at h
  split at h
  ·split at h
   ·exact absurd h h8
   ·split at h
    ·simp at h
    ·split at h
     ·assumption
     ·exact h
  ·exact absurd h h8
 unfold pd at hl
 repeat' split at hl
 all_goals first|omega|(rename_i h6 hd;exact⟨by assumption,by assumption⟩)
theorem UV (c:Conn)(g:Segm)(hs:bf c.r.held)(hv:EZ c g=5):CO (fZ c g)∧(fZ c g).tuple=c.tuple∧((fZ c g).state=8→c.state=6∧(fZ c g).s.done=true)∧bf (fZ c g).r.held:=by
 have h:=vd5 c g hv
 have hH:=acb c g h
 have hr:=(lw c.r hs).1 h.co.rcv
 unfold fZ
 by_cases h3:1≤c.state∧c.state≤3
 ·rw[if_pos h3]
  have hT:=Zv h.co h.s8 hH (ol c.r g.seq g.body (gW.f (g,1,()))) (MR _ _ _ _ hr) (.inr ⟨afE _ _ _ _ h.co.fl h3.1 h3.2,h3.2⟩)
  refine⟨hT.turned,by rw[DS];exact hH.tup,λh8=> ?_, ?_⟩
  ·have:=Va _ h8 (by show(vR c g).state≠8;rw[hH.st];exact h.s8)
   rw[TD]
   exact⟨by rw[←hH.st];exact this.1,this.2⟩
  ·rw[VB];exact Qa _ _ _ _ hr
 ·rw[if_neg h3]
  have hT:=Zv h.co h.s8 hH c.r hr (.inl rfl)
  have e:({vR c g with r:=c.r}:Conn)=vR c g:=by rw[←hH.rr]
  rw[e]at hT
  refine⟨hT.turned,by rw[DS];exact hH.tup,λh8=> ?_, ?_⟩
  ·have:=Va _ h8 (by rw[hH.st];exact h.s8)
   rw[TD]
   exact⟨by rw[←hH.st];exact this.1,this.2⟩
  ·rw[VB,hH.rr];exact hs
theorem ac2 (c:Conn)(g:Segm):EZ c g=1∨EZ c g=2∨EZ c g=3∨EZ c g=4∨EZ c g=5:=by
 unfold EZ
 cases(aN.f (c,())&&(!(c.state==8)&&ak.f (g,())))with
 |false=>exact .inl rfl
 |true=>
  cases bH.f (g,4,())<;>cases(g.seq==c.r.next)<;>cases xa g.seq c.r.next (mL c.r)<;>cases bH.f (g,2,())<;>cases Yk c g<;>cases bH.f (g,16,())<;>cases VD c g.ack<;>simp
def d5 (c:Conn)(g:Segm):Conn×List Segm×Int:=
 if EZ c g=2 then({c with state:=8,timer:=0,tries:=0},[],2)
 else if EZ c g=3 then(c,[bC.f (c,())],3)
 else if EZ c g=4 then(if c.state=7∧bH.f (g,1,())=true then{c with timer:=4}else c,[bC.f (c,())],4)
 else if EZ c g=5 then
  (if(fZ c g).state=8 then(fZ c g,[],5)
  else((cO.f (fZ c g,(fZ c g).window,())).1,if(cO.f (fZ c g,(fZ c g).window,())).2=[]∧aR.f (g,())≠0 then[bC.f ((cO.f (fZ c g,(fZ c g).window,())).1,())]else(cO.f (fZ c g,(fZ c g).window,())).2,5))
 else(c,[],1)
theorem DM (c:Conn)(g:Segm)(hs:bf c.r.held):o7.f (c,g,())=d5 c g:=by
 simp only[PX,o7,ce,Dl c g hs,W6 c g hs]
 have hv:=ac2 c g
 unfold d5
 generalize EZ c g=v at hv⊢
 rcases hv with rfl|rfl|rfl|rfl|rfl
 ·rfl
 ·rfl
 ·rfl
 ·have e:(bif (4:Int)==4 then bif c.state==7 then(bH.f (g,1,()),())else(false,())else(false,())).1=decide (c.state=7∧bH.f (g,1,())=true):=by
   by_cases h7:c.state=7
   ·simp[h7]
   ·rw[show(c.state==7)=false by simp[h7],decide_eq_false (λh=>h7 h.1)];rfl
  rw[e]
  by_cases hq:c.state=7∧bH.f (g,1,())=true
  ·rw[decide_eq_true hq];simp only[if_pos hq];rfl
  ·rw[decide_eq_false hq];simp only[if_neg hq];rfl
 ·simp only[if_true]
  rw[if_neg (show¬(5:Int)=2 by omega),if_neg (show¬(5:Int)=3 by omega),if_neg (show¬(5:Int)=4 by omega)]
  generalize fZ c g=x
  change (bif x.state==8 then(x,[],(5:Int))else bif (bif ((cO.f (x,x.window,())).2.length:Int)==0 then(aR.f (g,()) != 0,())else(false,())).1 then((cO.f (x,x.window,())).1,[bC.f ((cO.f (x,x.window,())).1,())],5)else((cO.f (x,x.window,())).1,(cO.f (x,x.window,())).2,5))=_
  by_cases h8:x.state=8
  ·rw[if_pos h8,show(x.state==8)=true by simp[h8]];rfl
  ·rw[if_neg h8,show(x.state==8)=false by simp[h8]]
   generalize cO.f (x,x.window,())=p
   obtain⟨p1,p2⟩:=p
   cases p2 with
   |nil=>
    by_cases h0:aR.f (g,())=0
    ·simp[h0]
    ·have h0':(aR.f (g,()) != 0)=true:=by simp[h0]
     simp[h0,h0']
   |cons a r=>
    have h0:(((a::r).length:Int)==0)=false:=by rw[beq_eq_false_iff_ne];simp only[List.length_cons];omega
    simp only[h0,cond_false,if_neg (show¬((a::r:List Segm)=[]∧aR.f (g,())≠0) by simp)]

end
end Go.Proofs.YteiiknfadjnmgaaGreat
