/-
  Contracts of functions and plain laws (printed by a program): each theorem says what a function of the program returns; conditions are its hypotheses.
-/
import Derived.Test.YtfpdenjmlnhnnaaGreatEK1
set_option linter.all false
set_option maxRecDepth 4000
namespace Go.Proofs.YtfpdenjmlnhnnaaGreat
open Go Go.RowKit
noncomputable section
noncomputable def d9:FT (Door×Unit) (Door) (λx=>aC x.1) (λx v=>aC v∧v.table.conns.length=x.1.table.conns.length∧v.table.waiting.length=x.1.table.waiting.length∧v.halves=x.1.halves):= .mk λ(x0,_)=>
  .cal uO.c (x0.keys,()) λc1=>
  .grd (Nat.ble ((2*(0+x0.halves.length)+1024)*96) bc)<|
  .cal mz.c (x0.table,()) λc2=>
  .ret (⟨x0.port,x0.clock,c1,x0.limits,([]++x0.halves),c2,x0.chal⟩:Door)
noncomputable def gq:=a9 st Tryz.func126 [GQ,t9] (ks:=[.st .door]) d9 (λv=>[(true,kC (.o true) (.o true) (.o true) (.o true) (.o true) v)])
noncomputable def H6:=[yE,cy,DW,IA,p9,lD]
noncomputable def Ik:Fx:=⟨130,Tryz.f130,[(3000005,rA 0 42),(3000014,rA 0 96)],0⟩
noncomputable def jG:FT (aa×Int×Int×Unit) (Segm×Bool) (λx=>sS x.1∧x.1.length≤4294967200) (λx v=>am v.1):= .mk λ(x0,x1,x2,_)=>
  .ite (decide ((x0.length:Int)<20)) (.ret ((⟨0,0,0,0,0,0,⟨0,0,false,false,0,0⟩,[]⟩:Segm),false))<|
  .grd (decide (12<(x0.length:Int)))<|
  .val (IntKind.wrap .i64 ((IntKind.wrap .i64 ((IntKind.wrap .i64 (ai x0 12)).tdiv 16))*4)) λe1=>
  .cal nJ.c (x1,x2,(x0.length:Int),()) λc2=>
  .bnd (β:=Bool×Unit) (.val (ce.f (e1,20,(x0.length:Int),())) λc3=>
   .ite (!c3) (.ret (true,()))<|
   .ite (c2==[]) (.ret (true,()))<|
   .grd (Nat.ble (c2.length+x0.length) ao)<|
   .cal rR.c ((c2++x0),()) λc4=>
   .ret ((!c4),())) λ(u5a0,_)=>
  .ite u5a0 (.ret ((⟨0,0,0,0,0,0,⟨0,0,false,false,0,0⟩,[]⟩:Segm),false))<|
  .grd ((decide (20≤e1))&&(decide (e1≤(x0.length:Int))))<|
  .cal lj.c (((x0.take e1.toNat).drop 20),()) λc6=>
  .grd (decide (13<(x0.length:Int)))<|
  .grd (KN x0 e1 (x0.length:Int))<|
  .cal bR.c (x0,0,2,()) λc7=>
  .cal bR.c (x0,2,2,()) λc8=>
  .cal bR.c (x0,4,4,()) λc9=>
  .cal bR.c (x0,8,4,()) λc10=>
  .cal bR.c (x0,14,2,()) λc11=>
  .bnd (β:=Bool×Unit) (.as (λw=>(w.1=false→(⟨c7.1,c8.1,c9.1,c10.1,((IntKind.wrap .i64 (ai x0 13)).tmod 64),c11.1,c6.1,((x0.take ((x0.length:Int).toNat)).drop e1.toNat)⟩:Segm).body.length≤1420)) (.ite (!c6.2) (.ret (true,()))<|
   .cal iU.c ((⟨c7.1,c8.1,c9.1,c10.1,((IntKind.wrap .i64 (ai x0 13)).tmod 64),c11.1,c6.1,((x0.take ((x0.length:Int).toNat)).drop e1.toNat)⟩:Segm),()) λc12=>
   .ret ((!c12),()))) λ(u13a0,_)=>
  .ite u13a0 (.ret ((⟨0,0,0,0,0,0,⟨0,0,false,false,0,0⟩,[]⟩:Segm),false))<|
  .ret ((⟨c7.1,c8.1,c9.1,c10.1,((IntKind.wrap .i64 (ai x0 13)).tmod 64),c11.1,c6.1,((x0.take ((x0.length:Int).toNat)).drop e1.toNat)⟩:Segm),true)
noncomputable def xr:=bS st Ik H6 [] (ks:=[.sc .str,.sc (.int .i64),.sc (.int .i64)]) jG (λv=>[(true,oK v.1),(false,[.c (.bool v.2)])]) Tryz.func130 trivial
noncomputable def Z8:=[dJ,gJ,K4,Di]
noncomputable def aae:Fx:=⟨141,Tryz.f141,[(3000002,rA 0 26)],0⟩
noncomputable def CW:FT (Conn×aa×Unit) (Conn×Int×List Segm) (λx=>ac x.1∧sS x.2.1) (λx v=>ac v.1∧sL am v.2.2):= .mk λ(x0,x1,_)=>
  .cal dF.c (x0,()) λc1=>
  .bnd (β:=Bool×Unit) (.cal hZ.c (x0,()) λc2=>
   .ite (!c2) (.ret (true,()))<|
   .ite (x0.state != 1) (.ret ((x0.state != 4),()))<|
   .ret (false,())) λ(u3a0,_)=>
  .ite u3a0 (.ret (c1,0,[]))<|
  .cal yR.c (x0.s,x1,()) λc4=>
  .cal nY.c (({c1 with s.una:=c4.1.una,s.data:=c4.1.data,s.sent:=c4.1.sent,s.fin:=c4.1.fin,s.finSent:=c4.1.finSent,s.done:=c4.1.done}:Conn),c1.window,()) λc5=>
  .ret (c5.1,c4.2,c5.2)
noncomputable def OV:=bS st aae Z8 [] (ks:=[.st .conn,.sc .str]) CW (λv=>[(true,fh (.o true) v.1),(false,[.c (.int .i64 v.2.1)]),(false,[sc (.o true) .segm v.2.2])]) Tryz.func141 trivial
noncomputable def PY:=[dJ,gJ,GZ,kQ,vn]
noncomputable def Rm:Fx:=⟨143,Tryz.f143,[(3000007,rA 0 46)],0⟩
noncomputable def rL:FT (Conn×Int×Unit) (Conn×aa×List Segm) (λx=>ac x.1) (λx v=>ac v.1∧sS v.2.1∧sL am v.2.2):= .mk λ(x0,x1,_)=>
  .cal dF.c (x0,()) λc1=>
  .cal hZ.c (x0,()) λc2=>
  .ite (!c2) (.ret (c1,[],[]))<|
  .cal uE.c (x0.r,x1,()) λc3=>
  .bnd (β:=Bool×Unit) (.cal gO.c (x0.r,()) λc4=>
   .ite (c4==0) (.cal gO.c (c3.1,()) λc5=>
    .ite (decide (0<c5)) (.ite (x0.state != 8) (.ret ((x0.state != 7),()))<|
     .ret (false,()))<|
    .ret (false,()))<|
   .ret (false,())) λ(u6a0,_)=>
  .ite u6a0 (.cal jX.c (({c1 with r.next:=c3.1.next,r.data:=c3.1.data,r.held:=c3.1.held,r.fin:=c3.1.fin,r.done:=c3.1.done}:Conn),()) λc7=>
   .ret (({c1 with r.next:=c3.1.next,r.data:=c3.1.data,r.held:=c3.1.held,r.fin:=c3.1.fin,r.done:=c3.1.done}:Conn),c3.2,[c7]))<|
  .ret (({c1 with r.next:=c3.1.next,r.data:=c3.1.data,r.held:=c3.1.held,r.fin:=c3.1.fin,r.done:=c3.1.done}:Conn),c3.2,[])
noncomputable def Dy:=bS st Rm PY [] (ks:=[.st .conn,.sc (.int .i64)]) rL (λv=>[(true,fh (.o true) v.1),(false,[.c (.str v.2.1)]),(false,[sc (.o true) .segm v.2.2])]) Tryz.func143 trivial
noncomputable def aa1:=[dJ,gJ,Di]
noncomputable def acB:Fx:=⟨144,Tryz.f144,[(3000002,rA 0 19)],0⟩
noncomputable def Ki:FT (Conn×Unit) (Conn×List Segm) (λx=>ac x.1) (λx v=>ac v.1∧sL am v.2):= .mk λ(x0,_)=>
  .cal dF.c (x0,()) λc1=>
  .bnd (β:=Bool×Unit) (.cal hZ.c (x0,()) λc2=>
   .ite (!c2) (.ret (true,()))<|
   .ite (x0.state != 1) (.ret ((x0.state != 4),()))<|
   .ret (false,())) λ(u3a0,_)=>
  .ite u3a0 (.ret (c1,[]))<|
  .ite (x0.state==4) (.cal nY.c (({c1 with state:=6,s.fin:=true}:Conn),c1.window,()) λc4=>
   .ret (c4.1,c4.2))<|
  .cal nY.c (({c1 with state:=2,s.fin:=true}:Conn),c1.window,()) λc5=>
  .ret (c5.1,c5.2)
noncomputable def Sv:=bS st acB aa1 [] (ks:=[.st .conn]) Ki (λv=>[(true,fh (.o true) v.1),(false,[sc (.o true) .segm v.2])]) Tryz.func144 trivial
noncomputable def Za:=[dJ,gJ,vn]
noncomputable def aad:Fx:=⟨145,Tryz.f145,[(3000002,rA 0 15)],0⟩
noncomputable def IV:FT (Conn×Unit) (Conn×List Segm) (λx=>ac x.1) (λx v=>ac v.1∧sL am v.2):= .mk λ(x0,_)=>
  .cal dF.c (x0,()) λc1=>
  .bnd (β:=Bool×Unit) (.as (λw=>(w.1=false→SO x0.s∧RO x0.r)) (.cal hZ.c (x0,()) λc2=>
   .ite (!c2) (.ret (true,()))<|
   .ret ((x0.state==8),()))) λ(u3a0,_)=>
  .ite u3a0 (.ret (c1,[]))<|
  .cal jX.c (x0,()) λc4=>
  .ret (({c1 with state:=8,timer:=0,tries:=0}:Conn),[({c4 with flags:=(bits .or .i64 c4.flags 4)}:Segm)])
noncomputable def ZJ:=bS st aad Za [] (ks:=[.st .conn]) IV (λv=>[(true,fh (.o true) v.1),(false,[sc (.o true) .segm v.2])]) Tryz.func145 trivial
noncomputable def Ls:=[yw,CY]
noncomputable def Mi:Fx:=⟨147,Tryz.f147,[(3000008,rA 0 22)],0⟩
noncomputable def lf:FT (aa×Unit) (Pack×Int) (λx=>sS x.1) (λx v=>iZ v.1∧v.1.body.length≤1500):= .mk λ(x0,_)=>
  .ite (decide ((x0.length:Int)<20)) (.ret ((⟨0,0,0,0,0,[]⟩:Pack),1))<|
  .cal em.c (x0,2,2,()) λc1=>
  .grd (decide (0<(x0.length:Int)))<|
  .ite ((ai x0 0) != 69) (.ret ((⟨0,0,0,0,0,[]⟩:Pack),2))<|
  .grd (decide (20≤(x0.length:Int)))<|
  .cal ml.c (((x0.take 20).drop 0),()) λc2=>
  .ite (!c2) (.ret ((⟨0,0,0,0,0,[]⟩:Pack),3))<|
  .bnd (β:=Bool×Unit) (.ite (decide (c1<20)) (.ret (true,()))<|
   .ite (decide ((x0.length:Int)<c1)) (.ret (true,()))<|
   .ret ((decide (1500<c1)),())) λ(u3a0,_)=>
  .ite u3a0 (.ret ((⟨0,0,0,0,0,[]⟩:Pack),4))<|
  .cal em.c (x0,6,2,()) λc4=>
  .ite ((bits .andNot .i64 c4 16384) != 0) (.ret ((⟨0,0,0,0,0,[]⟩:Pack),5))<|
  .grd (decide (8<(x0.length:Int)))<|
  .ite ((ai x0 8)==0) (.ret ((⟨0,0,0,0,0,[]⟩:Pack),6))<|
  .cal em.c (x0,12,4,()) λc5=>
  .cal em.c (x0,16,4,()) λc6=>
  .grd (decide (8<(x0.length:Int)))<|
  .grd (decide (9<(x0.length:Int)))<|
  .cal em.c (x0,4,2,()) λc7=>
  .grd ((decide (20≤c1))&&(decide (c1≤(x0.length:Int))))<|
  .ret ((⟨c5,c6,(IntKind.wrap .i64 (ai x0 8)),(IntKind.wrap .i64 (ai x0 9)),c7,((x0.take c1.toNat).drop 20)⟩:Pack),0)
noncomputable def xY:=bS st Mi Ls [] (ks:=[.sc .str]) lf (λv=>[(true,yc v.1),(false,[.c (.int .i64 v.2)])]) Tryz.func147 trivial
noncomputable def HX:=[yG,CY,H7,yw,jF]
noncomputable def IH:Fx:=⟨148,Tryz.f148,[(3000005,rA 0 45),(3000009,rA 0 79)],0⟩
noncomputable def aQ:FT (aa×Int×Int×Unit) (Segm×Bool) (λx=>sS x.1∧x.1.length≤4294967200) (λx v=>am v.1):= .mk λ(x0,x1,x2,_)=>
  .ite (decide ((x0.length:Int)<20)) (.ret ((⟨0,0,0,0,0,0,⟨0,0,false,false,0,0⟩,[]⟩:Segm),false))<|
  .grd (decide (12<(x0.length:Int)))<|
  .val (IntKind.wrap .i64 ((IntKind.wrap .i64 ((IntKind.wrap .i64 (ai x0 12)).tdiv 16))*4)) λe1=>
  .cal ew.c (x1,x2,(x0.length:Int),()) λc2=>
  .bnd (β:=Bool×Unit) (.ite (decide (e1<20)) (.ret (true,()))<|
   .ite (decide ((x0.length:Int)<e1)) (.ret (true,()))<|
   .ite (c2==[]) (.ret (true,()))<|
   .grd (Nat.ble (c2.length+x0.length) ao)<|
   .cal ml.c ((c2++x0),()) λc3=>
   .ret ((!c3),())) λ(u4a0,_)=>
  .ite u4a0 (.ret ((⟨0,0,0,0,0,0,⟨0,0,false,false,0,0⟩,[]⟩:Segm),false))<|
  .grd ((decide (20≤e1))&&(decide (e1≤(x0.length:Int))))<|
  .cal lx.c (((x0.take e1.toNat).drop 20),()) λc5=>
  .cal em.c (x0,0,2,()) λc6=>
  .cal em.c (x0,2,2,()) λc7=>
  .cal em.c (x0,4,4,()) λc8=>
  .cal em.c (x0,8,4,()) λc9=>
  .grd (decide (13<(x0.length:Int)))<|
  .cal em.c (x0,14,2,()) λc10=>
  .grd (KN x0 e1 (x0.length:Int))<|
  .bnd (β:=Bool×Unit) (.as (λw=>(w.1=false→(⟨c6,c7,c8,c9,(bits .and .i64 (IntKind.wrap .i64 (ai x0 13)) 63),c10,c5.1,((x0.take ((x0.length:Int).toNat)).drop e1.toNat)⟩:Segm).body.length≤1420)) (.ite (!c5.2) (.ret (true,()))<|
   .cal ak.c ((⟨c6,c7,c8,c9,(bits .and .i64 (IntKind.wrap .i64 (ai x0 13)) 63),c10,c5.1,((x0.take ((x0.length:Int).toNat)).drop e1.toNat)⟩:Segm),()) λc11=>
   .ret ((!c11),()))) λ(u12a0,_)=>
  .ite u12a0 (.ret ((⟨0,0,0,0,0,0,⟨0,0,false,false,0,0⟩,[]⟩:Segm),false))<|
  .ret ((⟨c6,c7,c8,c9,(bits .and .i64 (IntKind.wrap .i64 (ai x0 13)) 63),c10,c5.1,((x0.take ((x0.length:Int).toNat)).drop e1.toNat)⟩:Segm),true)
noncomputable def xC:=bS st IH HX [] (ks:=[.sc .str,.sc (.int .i64),.sc (.int .i64)]) aQ (λv=>[(true,oK v.1),(false,[.c (.bool v.2)])]) Tryz.func148 trivial
noncomputable def zv:=[RU,gJ,fA,wj]
def nq:Sh:=⟨[zp 2 0,zi 5],[.box [.st .tabl [.sl .arg,.sl .arg]]]⟩
def nV:Sh:=⟨[zp 2 0,zi 6],[.box [.st .tabl [.sl .arg,.sl .arg]]]⟩
noncomputable def ym:Fx:=⟨153,Tryz.f153,[(0,lb [2,5] [2,4]),(2,lb [2,6] [4]),(3000001,rA 0 25)],0⟩
noncomputable def sZ (v1:Tabl)(v0:Int)(a:Unit):Tr (Stp (Unit) ((Unit))):=
 .grd (cG v1.conns v0)<|
 .cal hZ.c ((v1.conns.getD v0.toNat (Ty.zero .conn)),()) λc3=>
 .ite (!c3) (.ret (.out ()))<|
 .grd (cG v1.conns v0)<|
 .cal dT.c (v1,(v1.conns.getD v0.toNat (Ty.zero .conn)).tuple,()) λc4=>
 .ite (c4 != v0) (.ret (.out ()))<|
 .ret (.next ())
noncomputable def iK:nq.V→tq nq Unit (Unit):=λ(v0,v1,_)=>⟨v0,(),λv0 _=>(v0,v1,()),λv0 _=>(decide (v0<(v1.conns.length:Int))),sZ v1,up,1,(Int.toNat ((v1.conns.length:Int)-v0)),.inl,eR,oB .ret ⟨[zp 2 0,zb 4],[.box [.st .tabl [.sl .arg,.sl .arg]]]⟩ (λ_=>(false,v1,())) (.exit 0) ⟨[zp 2 0,zu 4],[.box [.st .tabl [.sl .arg,.sl .arg]]]⟩ (λ_=>(v1,()))⟩
theorem Jc:LS Tryz.prog ym [0] (gc 0 nq iK):=dd st (aL zv) _ iK [] trivial
theorem Jo {v0:Int}{v1:Tabl}(h0:0≤v0)(h1:(v1.conns.length:Int)≤4611686018427387904)(h2:aV v1):(iK (v0,v1,())).U (v1.conns.length:Int) (λ_ _=>True) (λ_=>True):=
 ju h0 h1 trivial
noncomputable def ss (v1:Tabl)(v0:Int)(a:Unit):Tr (Stp (Unit) ((Unit))):=
 .grd ((decide (0≤v0))&&(decide (v0≤(v1.waiting.length:Int))))<|
 .grd (cG v1.waiting v0)<|
 .cal oZ.c (((v1.waiting.take v0.toNat).drop 0),(v1.waiting.getD v0.toNat (Ty.zero .tupl)),()) λc6=>
 .ite c6 (.ret (.out ()))<|
 .grd (cG v1.waiting v0)<|
 .cal dT.c (v1,(v1.waiting.getD v0.toNat (Ty.zero .tupl)),()) λc7=>
 .ite (decide (c7<0)) (.ret (.out ()))<|
 .ret (.next ())
noncomputable def ia:nV.V→tq nV Unit (Unit):=λ(v0,v1,_)=>⟨v0,(),λv0 _=>(v0,v1,()),λv0 _=>(decide (v0<(v1.waiting.length:Int))),ss v1,up,1,(Int.toNat ((v1.waiting.length:Int)-v0)),.inl,eR,oB .ret ⟨[zb 4],[]⟩ (λ_=>(false,())) (.exit 2) ⟨[zu 4],[]⟩ (λ_=>())⟩
theorem Kh:LS Tryz.prog ym [1] (gc 2 nV ia):=dd st (aL zv) _ ia [] trivial
theorem sk {v0:Int}{v1:Tabl}(h0:0≤v0)(h1:(v1.waiting.length:Int)≤4611686018427387904)(h2:aV v1):(ia (v0,v1,())).U (v1.waiting.length:Int) (λ_ _=>True) (λ_=>True):=
 ju h0 h1 trivial
noncomputable def uJ:FT (Tabl×Limi×Unit) (Bool) (λx=>wS x.1.conns∧dg ac x.1.conns∧wS x.1.waiting) (λx v=>(v=true→x.1.conns.length≤16∧x.1.waiting.length≤16)):= .mk (λ(x0,x1,_)=>
  .bnd (β:=Bool×Unit) (.as (λw=>(w.1=false→x1.halves≤64∧x1.waiting≤16∧x1.conns≤16)) (.cal wx.c (x1,()) λc1=>
   .ite (!c1) (.ret (true,()))<|
   .ite (decide (x1.conns<(x0.conns.length:Int))) (.ret (true,()))<|
   .ret ((decide (x1.waiting<(x0.waiting.length:Int))),()))) λ(u2a0,_)=>
  .ite u2a0 (.ret false)<|
  .lp (iK (0,x0,())).lp λw5=> .sum w5 (λ_=>
  .ret false)<|
  λ_=>
  .lp (ia (0,x0,())).lp λw8=> .sum w8 (λ_=>
  .ret false)<|
  λ_=>
  .ret true) (sk4 @Jo @sk @sk @sk)
noncomputable def Gf:=bS st ym zv [(gc 0 nq iK),(gc 2 nV ia)] (ks:=[.st .tabl,.st .limi]) uJ rB Tryz.func153 ⟨Jc,Kh,trivial⟩
noncomputable def XC:=[Be,Bj,Cp,ZX,SL,Tq,Rf,T1,Bg,xY]
noncomputable def XD:Fx:=⟨164,Tryz.f164,[(3000003,rA 0 37),(3000008,rA 0 58),(3000016,rA 0 117)],0⟩
noncomputable def bO:FT (Link×aa×Unit) (Link×Int×Pack×aa) (λx=>fb x.1∧sS x.2.1) (λx v=>fb v.1∧iZ v.2.2.1∧sS v.2.2.2∧v.2.2.1.body.length≤1500):= .mk λ(x0,x1,_)=>
  .cal mD.c (x0,()) λc1=>
  .cal mB.c (x1,()) λc2=>
  .bnd (β:=Bool×Unit) (.cal dX.c (x0,()) λc3=>
   .ite (!c3) (.ret (true,()))<|
   .ite (!c2.2) (.ret (true,()))<|
   .val (tK.f (c2.1,x0.mac,())) λc4=>
   .ret ((!c4),())) λ(u5a0,_)=>
  .ite u5a0 (.ret (c1,0,(⟨0,0,0,0,0,[]⟩:Pack),[]))<|
  .ite (c2.1.type==2054) (.cal vo.c (c2.1.body,()) λc6=>
   .bnd (β:=Bool×Unit) (.ite (!c6.2) (.ret (true,()))<|
    .ret ((c6.1.dstIp != x0.ip),())) λ(u7a0,_)=>
   .ite u7a0 (.ret (c1,0,(⟨0,0,0,0,0,[]⟩:Pack),[]))<|
   .cal u5.c (x0.cache,c6.1.srcIp,c6.1.srcHw,()) λc8=>
   .cal oD.c (c6.1,x0.mac,x0.ip,()) λc9=>
   .ite c9.2 (.cal kP.c (c9.1,()) λc10=>
    .cal gm.c ((⟨c6.1.srcHw,x0.mac,2054,c10⟩:Fram),()) λc11=>
    .ret (({c1 with cache:=c8}:Link),1,(⟨0,0,0,0,0,[]⟩:Pack),c11))<|
   .ret (({c1 with cache:=c8}:Link),0,(⟨0,0,0,0,0,[]⟩:Pack),[]))<|
  .ite (c2.1.type==2048) (.cal lf.c (c2.1.body,()) λc12=>
   .bnd (β:=Bool×Unit) (.ite (c12.2 != 0) (.ret (true,()))<|
    .ite (c12.1.dst != x0.ip) (.ret (true,()))<|
    .ite (c12.1.proto != 6) (.ret (true,()))<|
    .ret ((c12.1.src==x0.ip),())) λ(u13a0,_)=>
   .ite u13a0 (.ret (c1,0,(⟨0,0,0,0,0,[]⟩:Pack),[]))<|
   .cal u5.c (x0.cache,c12.1.src,c2.1.src,()) λc14=>
   .ret (({c1 with cache:=c14}:Link),2,c12.1,[]))<|
  .ret (c1,0,(⟨0,0,0,0,0,[]⟩:Pack),[])
noncomputable def Xy:=bS st XD XC [] (ks:=[.st .link,.sc .str]) bO (λv=>[(true,BJ (.o true) v.1),(false,[.c (.int .i64 v.2.1)]),(true,yc v.2.2.1),(false,[.c (.str v.2.2.2)])]) Tryz.func164 trivial
noncomputable def Qh:=[cZ,gP,Uk,kZ,vt]
noncomputable def Qs:Fx:=⟨177,Tryz.f177,[(3000006,rA 0 43)],0⟩
noncomputable def vu:FT (Conn×Int×Unit) (Conn×aa×List Segm) (λx=>ac x.1) (λx v=>ac v.1∧sS v.2.1∧sL am v.2.2):= .mk λ(x0,x1,_)=>
  .cal ci.c (x0,()) λc1=>
  .cal aO.c (x0,()) λc2=>
  .ite (!c2) (.ret (c1,[],[]))<|
  .cal Ac.c (x0.r,x1,()) λc3=>
  .bnd (β:=Bool×Unit) (.cal bB.c (x0.r,()) λc4=>
   .ite (c4==0) (.cal bB.c (c3.1,()) λc5=>
    .ite (c5 != 0) (.ite (x0.state != 8) (.ret ((x0.state != 7),()))<|
     .ret (false,()))<|
    .ret (false,()))<|
   .ret (false,())) λ(u6a0,_)=>
  .ite u6a0 (.cal bD.c (({c1 with r.next:=c3.1.next,r.data:=c3.1.data,r.held:=c3.1.held,r.fin:=c3.1.fin,r.done:=c3.1.done}:Conn),()) λc7=>
   .ret (({c1 with r.next:=c3.1.next,r.data:=c3.1.data,r.held:=c3.1.held,r.fin:=c3.1.fin,r.done:=c3.1.done}:Conn),c3.2,[c7]))<|
  .ret (({c1 with r.next:=c3.1.next,r.data:=c3.1.data,r.held:=c3.1.held,r.fin:=c3.1.fin,r.done:=c3.1.done}:Conn),c3.2,[])
noncomputable def QP:=bS st Qs Qh [] (ks:=[.st .conn,.sc (.int .i64)]) vu (λv=>[(true,fh (.o true) v.1),(false,[.c (.str v.2.1)]),(false,[sc (.o true) .segm v.2.2])]) Tryz.func177 trivial
noncomputable def Z1:=[cZ,gP,vt]
noncomputable def ZK:Fx:=⟨179,Tryz.f179,[(3000002,rA 0 15)],0⟩
noncomputable def IW:FT (Conn×Unit) (Conn×List Segm) (λx=>ac x.1) (λx v=>ac v.1∧sL am v.2):= .mk λ(x0,_)=>
  .cal ci.c (x0,()) λc1=>
  .bnd (β:=Bool×Unit) (.as (λw=>(w.1=false→SO x0.s∧RO x0.r)) (.cal aO.c (x0,()) λc2=>
   .ite (!c2) (.ret (true,()))<|
   .ret ((x0.state==8),()))) λ(u3a0,_)=>
  .ite u3a0 (.ret (c1,[]))<|
  .cal bD.c (x0,()) λc4=>
  .ret (({c1 with state:=8,timer:=0,tries:=0}:Conn),[({c4 with flags:=(bits .or .i64 c4.flags 4)}:Segm)])
noncomputable def ZU:=bS st ZK Z1 [] (ks:=[.st .conn]) IW (λv=>[(true,fh (.o true) v.1),(false,[sc (.o true) .segm v.2])]) Tryz.func179 trivial
noncomputable def mL:FT (aa×Unit) (Fram×Bool) (λx=>sS x.1) (λx v=>pt v.1):= .mk λ(x0,_)=>
  .ite (decide ((x0.length:Int)<14)) (.ret ((⟨0,0,0,[]⟩:Fram),false))<|
  .grd ((decide (14≤(x0.length:Int)))&&(decide ((x0.length:Int)≤(x0.length:Int))))<|
  .cal bR.c (x0,0,6,()) λc1=>
  .cal bR.c (x0,6,6,()) λc2=>
  .cal bR.c (x0,12,2,()) λc3=>
  .cal fE.c ((⟨c1.1,c2.1,c3.1,((x0.take ((x0.length:Int).toNat)).drop 14)⟩:Fram),()) λc4=>
  .ite (!(c4==x0)) (.ret ((⟨0,0,0,[]⟩:Fram),false))<|
  .ret ((⟨c1.1,c2.1,c3.1,((x0.take ((x0.length:Int).toNat)).drop 14)⟩:Fram),true)
noncomputable def Bb:=a9 st Tryz.func209 [p9,lF] (ks:=[.sc .str]) mL (λv=>[(true,WA v.1),(false,[.c (.bool v.2)])])
noncomputable def Li:=[DW,p9,ot,cy]
noncomputable def MX:Fx:=⟨210,Tryz.f210,[(3000010,rA 0 43)],0⟩
noncomputable def kY:FT (aa×Unit) (Pack×Int) (λx=>sS x.1) (λx v=>iZ v.1∧v.1.body.length≤1500):= .mk λ(x0,_)=>
  .ite (decide ((x0.length:Int)<20)) (.ret ((⟨0,0,0,0,0,[]⟩:Pack),1))<|
  .grd (decide (0<(x0.length:Int)))<|
  .ite ((ai x0 0) != 69) (.ret ((⟨0,0,0,0,0,[]⟩:Pack),2))<|
  .grd (decide (20≤(x0.length:Int)))<|
  .cal rR.c (((x0.take 20).drop 0),()) λc1=>
  .ite (!c1) (.ret ((⟨0,0,0,0,0,[]⟩:Pack),3))<|
  .cal bR.c (x0,2,2,()) λc2=>
  .val (jZ.f ((x0.length:Int),1500,())) λc3=>
  .val (ce.f (c2.1,20,c3,())) λc4=>
  .ite (!c4) (.ret ((⟨0,0,0,0,0,[]⟩:Pack),4))<|
  .bnd (β:=Bool×Unit) (.grd (decide (6<(x0.length:Int)))<|
   .ite ((bits .and .u8 (ai x0 6) 191) != 0) (.ret (true,()))<|
   .grd (decide (7<(x0.length:Int)))<|
   .ret (((ai x0 7) != 0),())) λ(u5a0,_)=>
  .ite u5a0 (.ret ((⟨0,0,0,0,0,[]⟩:Pack),5))<|
  .grd (decide (8<(x0.length:Int)))<|
  .grd (decide (9<(x0.length:Int)))<|
  .grd ((decide (20≤c2.1))&&(decide (c2.1≤(x0.length:Int))))<|
  .ite ((IntKind.wrap .i64 (ai x0 8))==0) (.ret ((⟨0,0,0,0,0,[]⟩:Pack),6))<|
  .cal bR.c (x0,4,2,()) λc6=>
  .cal bR.c (x0,12,4,()) λc7=>
  .cal bR.c (x0,16,4,()) λc8=>
  .ret ((⟨c7.1,c8.1,(IntKind.wrap .i64 (ai x0 8)),(IntKind.wrap .i64 (ai x0 9)),c6.1,((x0.take c2.1.toNat).drop 20)⟩:Pack),0)
noncomputable def zm:=bS st MX Li [] (ks:=[.sc .str]) kY (λv=>[(true,yc v.1),(false,[.c (.int .i64 v.2)])]) Tryz.func210 trivial
def yy:Sh:=⟨[zs 2,zp 7 0,zi 8,zi 9],[zx .sipr]⟩
noncomputable def kF (v0:aa)(v1:Int)(a:Int×Sipr):Tr (Stp (Int×Sipr) ((Int×Sipr))):=
 .ite (decide ((IntKind.wrap .i64 (a.1+8))≤v1)) (.grd (KN v0 a.1 (IntKind.wrap .i64 (a.1+8)))<|
  .cal sA.c (((v0.take ((IntKind.wrap .i64 (a.1+8)).toNat)).drop a.1.toNat),()) λc2=>
  .cal uS.c (a.2,c2,()) λc3=>
  .ret (.next ((IntKind.wrap .i64 (a.1+8)),c3)))<|
 .ret (.out (a.1,a.2))
noncomputable def np:yy.V→LW yy (Int×Sipr) ((Int×Sipr)):=λ(v0,v1,v2,v3,_)=>⟨(v2,v3),λa=>(v0,v1,a.1,a.2,()),kF v0 v1,Int.toNat (v1-v2),oN (.exit 0) ⟨[zs 2,zu 6,zp 7 0,zi 8,zi 9],[zx .sipr]⟩ (λp=>(v0,v1,p.1,p.2,()))⟩
theorem K0 {v0:aa}{v1 v2:Int}{v3:Sipr}(h0:v1=(v0.length:Int))(h1:sS v0)(h2:0≤v2∧v2≤v1):(np (v0,v1,v2,v3,())).W (λp=>0≤p.1∧p.1≤v0.length):=
 lwW (a:=(v2,v3)) (λa=>0≤a.1∧a.1≤v1) (λa=>Int.toNat (v1-a.1)) h2
noncomputable def AA:FT (Int×Int×aa×Unit) (Int) (λx=>sS x.2.2.1) (λ_ _=>True):= .mk (λ(x0,x1,x2,_)=>
  .val (vQ.f (x0,x1,())) λc1=>
  .lp (np (x2,(x2.length:Int),0,c1,())).lp λ(p4a0,p4a1)=>
  .grd (KN x2 p4a0 (x2.length:Int))<|
  .cal sA.c (((x2.take ((x2.length:Int).toNat)).drop p4a0.toNat),()) λc5=>
  .val (IntKind.wrap .u64 ((IntKind.wrap .u64 ((x2.length:Int).tmod 256))*72057594037927936)) λe6=>
  .cal uS.c (p4a1,(bits .or .u64 c5 e6),()) λc7=>
  .cal EH.c (c7,()) λc8=>
  .ret c8) (qU @K0)
noncomputable def Vf:=NI st Tryz.func233 [(0,lb [2,7,8,9] [2,6,7,8,9])] [P7,XI,TT,Wm] 0 np (ks:=[.sc (.int .u64),.sc (.int .u64),.sc .str]) AA (λv=>[(false,[.c (.int .u64 v)])])
noncomputable def mj:FT (Door×Segm×Unit) (Door×List Segm×Int) (λx=>aC x.1∧am x.2.1) (λx v=>aC v.1∧sL am v.2.1):= .mk λ(x0,x1,_)=>
  .cal wR.c (x1,()) λc1=>
  .ite (!c1.2) (.cal d9.c (x0,()) λc2=>
   .ret (c2,[],0))<|
  .cal d9.c (x0,()) λc3=>
  .ret (c3,[c1.1],0)
noncomputable def Er:=a9 st Tryz.func242 [QA,gq] (ks:=[.st .door,.st .segm]) mj (λv=>[(true,kC (.o true) (.o true) (.o true) (.o true) (.o true) v.1),(false,[sc (.o true) .segm v.2.1]),(false,[.c (.int .i64 v.2.2)])])
noncomputable def S2:=[acs,Cl,sG,lF]
noncomputable def T6:Fx:=⟨248,Tryz.f248,[(3000002,rA 0 25)],0⟩
noncomputable def Ay:FT (Link×Int×aa×Unit) (aa×Bool) (λx=>fb x.1∧sS x.2.2.1) (λx v=>sS v.1):= .mk λ(x0,x1,x2,_)=>
  .cal Rk.c (x0.cache,x1,()) λc1=>
  .bnd (β:=Bool×Unit) (.cal uP.c (x0,()) λc2=>
   .ite (!c2) (.ret (true,()))<|
   .ret ((!c1.2),())) λ(u3a0,_)=>
  .ite u3a0 (.ret ([],false))<|
  .cal kX.c ((⟨x0.ip,x1,64,6,0,x2⟩:Pack),()) λc4=>
  .ite (c4==[]) (.ret ([],false))<|
  .cal fE.c ((⟨c1.1,x0.mac,2048,c4⟩:Fram),()) λc5=>
  .ret (c5,(!(c5==[])))
noncomputable def Tb:=bS st T6 S2 [] (ks:=[.st .link,.sc (.int .i64),.sc .str]) Ay (λv=>[(false,[.c (.str v.1)]),(false,[.c (.bool v.2)])]) Tryz.func248 trivial
noncomputable def IP:FT (Conn×Unit) (Bool) (λx=>ac x.1) (λ_ _=>True):= .mk λ(x0,_)=>
  .cal hZ.c (x0,()) λc1=>
  .ite c1 (.ite (x0.state==7) (.ret true)<|
   .ite (x0.state != 8) (.val (Dz.f (x0,())) λc2=>
    .ret c2)<|
   .ret false)<|
  .ret false
noncomputable def YZ:=a9 st Tryz.func250 [gJ,Xm] (ks:=[.st .conn]) IP rB
def GV:Sh:=⟨[zi 1,zp 4 0,zp 6 1,zo 7 2],[.box [.st .conn [.nil .piec]],zk .conn 3,za .segm,zf]⟩
noncomputable def cf (v0:Int)(a:Conn×Conn×List Segm):Tr (Stp (Conn×Conn×List Segm) ((Conn×Conn×List Segm))):=
 .val (dH.f (a.2.1,())) λc4=>
 .cal bh.c (a.2.1.s,v0,c4,()) λc5=>
 .ite (!c5.2) (.ret (.out (({a.1 with r.held:=[]}:Conn),a.2.1,a.2.2)))<|
 .cal bD.c (a.2.1,()) λc6=>
 .ite (!(c5.1.text==[])) (.ite c5.1.fin (.grd (px a.2.2 1 104)<|
   .val (a.2.2++[({c6 with seq:=c5.1.seq,flags:=(bits .or .i64 (bits .or .i64 c6.flags 8) 1),body:=c5.1.text}:Segm)]) λl7=>
   .cal dG.c (a.2.1.s,c5.1,()) λc8=>
   .ret (.next (({a.1 with r.held:=[]}:Conn),({a.2.1 with s.una:=c8.una,s.data:=c8.data,s.sent:=c8.sent,s.fin:=c8.fin,s.finSent:=c8.finSent,s.done:=c8.done}:Conn),l7)))<|
  .grd (px a.2.2 1 104)<|
  .val (a.2.2++[({c6 with seq:=c5.1.seq,flags:=(bits .or .i64 c6.flags 8),body:=c5.1.text}:Segm)]) λl9=>
  .cal dG.c (a.2.1.s,c5.1,()) λc10=>
  .ret (.next (({a.1 with r.held:=[]}:Conn),({a.2.1 with s.una:=c10.una,s.data:=c10.data,s.sent:=c10.sent,s.fin:=c10.fin,s.finSent:=c10.finSent,s.done:=c10.done}:Conn),l9)))<|
 .ite c5.1.fin (.grd (px a.2.2 1 104)<|
  .val (a.2.2++[({c6 with seq:=c5.1.seq,flags:=(bits .or .i64 c6.flags 1),body:=c5.1.text}:Segm)]) λl11=>
  .cal dG.c (a.2.1.s,c5.1,()) λc12=>
  .ret (.next (({a.1 with r.held:=[]}:Conn),({a.2.1 with s.una:=c12.una,s.data:=c12.data,s.sent:=c12.sent,s.fin:=c12.fin,s.finSent:=c12.finSent,s.done:=c12.done}:Conn),l11)))<|
 .grd (px a.2.2 1 104)<|
 .cal dG.c (a.2.1.s,c5.1,()) λc13=>
 .ret (.next (({a.1 with r.held:=[]}:Conn),({a.2.1 with s.una:=c13.una,s.data:=c13.data,s.sent:=c13.sent,s.fin:=c13.fin,s.finSent:=c13.finSent,s.done:=c13.done}:Conn),(a.2.2++[({c6 with seq:=c5.1.seq,body:=c5.1.text}:Segm)])))
noncomputable def kb:GV.V→LW GV (Conn×Conn×List Segm) ((Conn×Conn×List Segm)):=λ(v0,v1,v2,v3,_)=>⟨(v1,v2,v3),λa=>(v0,a.1,a.2.1,a.2.2,()),cf v0,IO v2.s,oN (.exit 0) ⟨[zp 4 0,zu 5,zp 6 1,zo 7 2],[.box [.st .conn [.nil .piec]],zk .conn 3,za .segm,zf]⟩ (λp=>(p.1,p.2.1,p.2.2,()))⟩
theorem Vk {v0:Int}{v1 v2:Conn}{v3:List Segm}(h0:ac v1∧ac v2∧sL am v3∧v3.length+IO v2.s≤49):(kb (v0,v1,v2,v3,())).W (λp=>ac p.1∧ac p.2.1∧sL am p.2.2∧p.2.2.length≤49):=
 LW.okW (a:=(v1,v2,v3)) (λa=>ac a.1∧ac a.2.1∧sL am a.2.2∧a.2.2.length+IO a.2.1.s≤49) (λa=>IO a.2.1.s) rfl h0 λ(v1,v2,v3) hv=>by
  refine Tr.V λc4 hc4=>Tr.C ?_ λc5 hc5 qc5=>Tr.I (λb0=>Tr.Ro ?_) λb0=>Tr.C ?_ λc6 hc6 qc6=>Tr.I (λb1=>Tr.I (λb2=>Tr.Gb ?_ λg3=>Tr.V λl7 hl7=>Tr.C ?_ λc8 hc8 qc8=>Tr.Rn ?_) λb2=>Tr.Gb ?_ λg3=>Tr.V λl9 hl9=>Tr.C ?_ λc10 hc10 qc10=>Tr.Rn ?_) λb1=>Tr.I (λb2=>Tr.Gb ?_ λg3=>Tr.V λl11 hl11=>Tr.C ?_ λc12 hc12 qc12=>Tr.Rn ?_) λb2=>Tr.Gb ?_ λg3=>Tr.C ?_ λc13 hc13 qc13=>Tr.Rn ?_
  all_goals ((first|grind|(have tl:∀s:aa,s=[]∨0<s.length:=(λs=>by cases s<;>simp);grind)))
noncomputable def cN:FT (Conn×Int×Unit) (Conn×List Segm) (λx=>ac x.1) (λx v=>ac v.1∧sL am v.2∧v.2.length≤49):= .mk (λ(x0,x1,_)=>
  .cal ci.c (x0,()) λc1=>
  .bnd (β:=Bool×Unit) (.as (λw=>(w.1=false→SO x0.s∧RO x0.r)) (.cal aO.c (x0,()) λc2=>
   .ite (!c2) (.ret (true,()))<|
   .ite (x0.state==8) (.ret (true,()))<|
   .ret ((x0.state==7),()))) λ(u3a0,_)=>
  .ite u3a0 (.ret (c1,[]))<|
  .lp (kb (x1,(⟨⟨0,0,0⟩,0,⟨0,[],0,false,false,false⟩,⟨0,[],[],0,false⟩,0,0,⟨0,0,false,false,0,0⟩,0,0⟩:Conn),c1,[],())).lp λ(_,p14a1,p14a2)=>
  .bnd (β:=Bool×Unit) (.ite (decide (0<(p14a2.length:Int))) (.ret ((p14a1.timer==0),()))<|
   .ret (false,())) λ(u15a0,_)=>
  .ite u15a0 (.ret (({p14a1 with timer:=3}:Conn),p14a2))<|
  .ret (p14a1,p14a2)) (qU @Vk)
noncomputable def Du:=NI st Tryz.func289 [(0,lb [1,4,6,7] [4,5,6,7]),(3000002,rA 0 25),(3000016,rA 0 76)] [cZ,gP,W7,Nd,vt,T2] 0 kb (ks:=[.st .conn,.sc (.int .i64)]) cN (λv=>[(true,fh (.o true) v.1),(false,[sc (.o true) .segm v.2])])
noncomputable def TF:=[gP,jF,vW,kZ,vZ,Mm,T8]
noncomputable def SF:Fx:=⟨306,Tryz.f306,[(3000001,rA 0 17)],0⟩
noncomputable def uT:FT (Conn×Segm×Unit) (Int) (λx=>ac x.1∧am x.2.1) (λ_ _=>True):= .mk λ(x0,x1,_)=>
  .bnd (β:=Bool×Unit) (.as (λw=>(w.1=false→SO x0.s∧RO x0.r∧x1.body.length≤1420)) (.cal aO.c (x0,()) λc1=>
   .ite (!c1) (.ret (true,()))<|
   .ite (x0.state==8) (.ret (true,()))<|
   .cal ak.c (x1,()) λc2=>
   .ret ((!c2),()))) λ(u3a0,_)=>
  .ite u3a0 (.ret 1)<|
  .val (bp.f (x1,4,())) λc4=>
  .ite c4 (.ite (x1.seq==x0.r.next) (.ret 2)<|
   .cal bB.c (x0.r,()) λc5=>
   .val (oC.f (x1.seq,x0.r.next,c5,())) λc6=>
   .ite c6 (.ret 3)<|
   .ret 1)<|
  .val (bp.f (x1,2,())) λc7=>
  .ite c7 (.ret 3)<|
  .cal qI.c (x0,x1,()) λc8=>
  .ite (!c8) (.ret 4)<|
  .val (bp.f (x1,16,())) λc9=>
  .ite (!c9) (.ret 1)<|
  .cal Am.c (x0,x1.ack,()) λc10=>
  .ite (!c10) (.ret 3)<|
  .ret 5
noncomputable def G0:=bS st SF TF [] (ks:=[.st .conn,.st .segm]) uT rI Tryz.func306 trivial
noncomputable def aaF:=[G0,cZ,aaa,MB,rP,vW,S4,WK]
def A2:An:=⟨⟨[],[],false,0⟩,⟨[2,3,4,5],[],false,0⟩,⟨[],[]⟩,[(.normal,⟨[zp 2 0,zp 3 1,zp 4 2,zp 5 3],[zg .conn,zx .segm,.box [.st .conn [.nil .piec]],zk .conn 4,zf]⟩)]⟩
noncomputable def aag:Fx:=⟨307,Tryz.f307,[(1000024,A2),(3000009,rA 0 54),(3000014,rA 0 73)],0⟩
noncomputable def DX:FT (Conn×Segm×Unit) (Conn) (λx=>ac x.1∧am x.2.1) (λx v=>ac v):= .mk λ(x0,x1,_)=>
  .cal uT.c (x0,x1,()) λc1=>
  .ite (c1 != 5) (.cal ci.c (x0,()) λc2=>
   .ret c2)<|
  .cal ci.c (x0,()) λc3=>
  .cal I6.c (x0.s,x1.ack,()) λc4=>
  .bnd (β:=WT A2.es) (.as (λw=>ac w.1∧am w.2.1∧ac w.2.2.1∧ac w.2.2.2.1) (.ite c4.2 (.cal ya.c (x1.window,x0.opts,()) λc5=>
    .bnd (β:=Bool×Unit) (.ite (c4.1.una != x0.s.una) (.ret ((x0.state != 7),()))<|
     .cal dz.c (c4.1,()) λc6=>
     .ite (c6==0) (.ret ((x0.state != 7),()))<|
     .ret (false,())) λ(u7a0,_)=>
    .ite u7a0 (.cal dz.c (c4.1,()) λc8=>
     .ite (decide (0<c8)) (.ret (x0,x1,(⟨⟨0,0,0⟩,0,⟨0,[],0,false,false,false⟩,⟨0,[],[],0,false⟩,0,0,⟨0,0,false,false,0,0⟩,0,0⟩:Conn),(⟨c3.tuple,c3.state,c4.1,c3.r,c5,(if c3.most<c5 then c5 else c3.most),c3.opts,3,0⟩:Conn),()))<|
     .ret (x0,x1,(⟨⟨0,0,0⟩,0,⟨0,[],0,false,false,false⟩,⟨0,[],[],0,false⟩,0,0,⟨0,0,false,false,0,0⟩,0,0⟩:Conn),(⟨c3.tuple,c3.state,c4.1,c3.r,c5,(if c3.most<c5 then c5 else c3.most),c3.opts,0,0⟩:Conn),()))<|
    .ret (x0,x1,(⟨⟨0,0,0⟩,0,⟨0,[],0,false,false,false⟩,⟨0,[],[],0,false⟩,0,0,⟨0,0,false,false,0,0⟩,0,0⟩:Conn),(⟨c3.tuple,c3.state,c4.1,c3.r,c5,(if c3.most<c5 then c5 else c3.most),c3.opts,c3.timer,c3.tries⟩:Conn),()))<|
   .ret (x0,x1,(⟨⟨0,0,0⟩,0,⟨0,[],0,false,false,false⟩,⟨0,[],[],0,false⟩,0,0,⟨0,0,false,false,0,0⟩,0,0⟩:Conn),c3,()))) λ(u9a0,u9a1,_,u9a3,_)=>
  .bnd (β:=Bool×Unit) (.ite (u9a0.state==1) (.ret (true,()))<|
   .ite (u9a0.state==2) (.ret (true,()))<|
   .ret ((u9a0.state==3),())) λ(u10a0,_)=>
  .ite u10a0 (.val (bp.f (u9a1,1,())) λc11=>
   .cal uR.c (u9a0.r,u9a1.seq,u9a1.body,c11,()) λc12=>
   .cal rO.c (({u9a3 with r.next:=c12.next,r.data:=c12.data,r.held:=c12.held,r.fin:=c12.fin,r.done:=c12.done}:Conn),()) λc13=>
   .ret c13)<|
  .cal rO.c (u9a3,()) λc14=>
  .ret c14
noncomputable def Z6:=bS st aag aaF [] (ks:=[.st .conn,.st .segm]) DX (λv=>[(true,fh (.o true) v)]) Tryz.func307 trivial
noncomputable def vg:FT (aa×Unit) (Arpm×Bool) (λx=>sS x.1) (λ_ _=>True):= .mk λ(x0,_)=>
  .ite (decide ((x0.length:Int)<28)) (.ret ((⟨0,0,0,0,0⟩:Arpm),false))<|
  .cal bR.c (x0,6,2,()) λc1=>
  .cal bR.c (x0,8,6,()) λc2=>
  .cal bR.c (x0,14,4,()) λc3=>
  .cal bR.c (x0,18,6,()) λc4=>
  .cal bR.c (x0,24,4,()) λc5=>
  .cal rq.c ((⟨c1.1,c2.1,c3.1,c4.1,c5.1⟩:Arpm),()) λc6=>
  .grd (decide (28≤(x0.length:Int)))<|
  .ite (!(c6==((x0.take 28).drop 0))) (.ret ((⟨0,0,0,0,0⟩:Arpm),false))<|
  .ret ((⟨c1.1,c2.1,c3.1,c4.1,c5.1⟩:Arpm),true)
noncomputable def UR:=a9 st Tryz.func352 [p9,yX] (ks:=[.sc .str]) vg (λv=>[(true,ML v.1),(false,[.c (.bool v.2)])])
noncomputable def U6:=[gJ,lD,wV,kQ,wU,Jk,Vy]
noncomputable def SS:Fx:=⟨433,Tryz.f433,[(3000001,rA 0 5),(3000003,rA 0 19),(3000005,rA 0 30)],0⟩
noncomputable def vf:FT (Conn×Segm×Unit) (Int) (λx=>ac x.1∧am x.2.1) (λ_ _=>True):= .mk λ(x0,x1,_)=>
  .bnd (β:=Bool×Unit) (.as (λw=>(w.1=false→SO x0.s∧RO x0.r∧x1.body.length≤1420)) (.cal hZ.c (x0,()) λc1=>
   .ite (!c1) (.ret (true,()))<|
   .ite (x0.state==8) (.ret (true,()))<|
   .cal iU.c (x1,()) λc2=>
   .ret ((!c2),()))) λ(u3a0,_)=>
  .ite u3a0 (.ret 1)<|
  .bnd (β:=Bool×Unit) (.val (gn.f (x1,4,())) λc4=>
   .ite c4 (.ret ((x1.seq==x0.r.next),()))<|
   .ret (false,())) λ(u5a0,_)=>
  .ite u5a0 (.ret 2)<|
  .bnd (β:=Bool×Unit) (.val (gn.f (x1,4,())) λc6=>
   .ite c6 (.cal gO.c (x0.r,()) λc7=>
    .val (pc.f (x1.seq,x0.r.next,c7,())) λc8=>
    .ret (c8,()))<|
   .ret (false,())) λ(u9a0,_)=>
  .ite u9a0 (.ret 3)<|
  .val (gn.f (x1,4,())) λc10=>
  .ite c10 (.ret 1)<|
  .val (gn.f (x1,2,())) λc11=>
  .ite c11 (.ret 3)<|
  .cal qF.c (x0,x1,()) λc12=>
  .ite (!c12) (.ret 4)<|
  .val (gn.f (x1,16,())) λc13=>
  .ite (!c13) (.ret 1)<|
  .cal Ao.c (x0,x1.ack,()) λc14=>
  .ite (!c14) (.ret 3)<|
  .ret 5
noncomputable def Ge:=bS st SS U6 [] (ks:=[.st .conn,.st .segm]) vf rI Tryz.func433 trivial
noncomputable def aaJ:=[dJ,Ge,Pc,mw,ot,jg,cy,wV,GN,WB]
def Bp:An:=⟨⟨[],[],false,0⟩,⟨[2,3,4,5],[],false,0⟩,⟨[],[]⟩,[(.normal,⟨[zp 2 0,zp 3 1,zp 4 2,zp 5 3],[zg .conn,zx .segm,.box [.st .conn [.nil .piec]],zk .conn 4,zf]⟩)]⟩
noncomputable def aaS:Fx:=⟨434,Tryz.f434,[(1000024,Bp),(3000010,rA 0 59)],0⟩
noncomputable def Ek:FT (Conn×Segm×Unit) (Conn) (λx=>ac x.1∧am x.2.1) (λx v=>ac v):= .mk λ(x0,x1,_)=>
  .cal dF.c (x0,()) λc1=>
  .cal vf.c (x0,x1,()) λc2=>
  .ite (c2 != 5) (.ret c1)<|
  .cal CL.c (x0.s,x1.ack,()) λc3=>
  .bnd (β:=WT Bp.es) (.as (λw=>ac w.1∧am w.2.1∧ac w.2.2.1∧ac w.2.2.2.1) (.ite c3.2 (.val (fD.f (0,x0.opts.scale,())) λc4=>
    .grd (decide (0≤(IntKind.wrap .u64 c4)))<|
    .val (IntKind.wrap .i64 (x1.window*2 ^ (min (IntKind.wrap .u64 c4).toNat 64))) λe5=>
    .val (jZ.f (1073725440,e5,())) λc6=>
    .val (fD.f (c1.most,c6,())) λc7=>
    .cal gN.c (c3.1,()) λc8=>
    .bnd (β:=Bool×Unit) (.ite (c3.1.una != x0.s.una) (.ret ((x0.state != 7),()))<|
     .ite (c8==0) (.ret ((x0.state != 7),()))<|
     .ret (false,())) λ(u9a0,_)=>
    .ite u9a0 (.ite (decide (0<c8)) (.ret (x0,x1,(⟨⟨0,0,0⟩,0,⟨0,[],0,false,false,false⟩,⟨0,[],[],0,false⟩,0,0,⟨0,0,false,false,0,0⟩,0,0⟩:Conn),(⟨c1.tuple,c1.state,c3.1,c1.r,c6,c7,c1.opts,3,0⟩:Conn),()))<|
     .ret (x0,x1,(⟨⟨0,0,0⟩,0,⟨0,[],0,false,false,false⟩,⟨0,[],[],0,false⟩,0,0,⟨0,0,false,false,0,0⟩,0,0⟩:Conn),(⟨c1.tuple,c1.state,c3.1,c1.r,c6,c7,c1.opts,0,0⟩:Conn),()))<|
    .ret (x0,x1,(⟨⟨0,0,0⟩,0,⟨0,[],0,false,false,false⟩,⟨0,[],[],0,false⟩,0,0,⟨0,0,false,false,0,0⟩,0,0⟩:Conn),(⟨c1.tuple,c1.state,c3.1,c1.r,c6,c7,c1.opts,c1.timer,c1.tries⟩:Conn),()))<|
   .ret (x0,x1,(⟨⟨0,0,0⟩,0,⟨0,[],0,false,false,false⟩,⟨0,[],[],0,false⟩,0,0,⟨0,0,false,false,0,0⟩,0,0⟩:Conn),c1,()))) λ(u10a0,u10a1,_,u10a3,_)=>
  .val (ce.f (u10a0.state,1,3,())) λc11=>
  .ite c11 (.val (gn.f (u10a1,1,())) λc12=>
   .cal rp.c (u10a0.r,u10a1.seq,u10a1.body,c12,()) λc13=>
   .cal tc.c (({u10a3 with r.next:=c13.next,r.data:=c13.data,r.held:=c13.held,r.fin:=c13.fin,r.done:=c13.done}:Conn),()) λc14=>
   .ret c14)<|
  .cal tc.c (u10a3,()) λc15=>
  .ret c15
noncomputable def Zs:=bS st aaS aaJ [] (ks:=[.st .conn,.st .segm]) Ek (λv=>[(true,fh (.o true) v)]) Tryz.func434 trivial
noncomputable def uY:FT (Tabl×Conn×Limi×Unit) (Tabl×Bool) (λx=>aV x.1∧ac x.2.1) (λx v=>aV v.1∧v.1.conns.length≤max x.1.conns.length 16∧v.1.waiting.length≤max x.1.waiting.length 16):= .mk λ(x0,x1,x2,_)=>
  .cal mz.c (x0,()) λc1=>
  .cal dF.c (x1,()) λc2=>
  .grd (px c1.conns 1 208)<|
  .grd (px c1.waiting 1 24)<|
  .cal uJ.c ((⟨(c1.conns++[c2]),(c1.waiting++[x1.tuple])⟩:Tabl),x2,()) λc3=>
  .ite (!c3) (.cal mz.c (x0,()) λc4=>
   .ret (c4,false))<|
  .ret ((⟨(c1.conns++[c2]),(c1.waiting++[x1.tuple])⟩:Tabl),true)
noncomputable def GH:=a9 st Tryz.func437 [t9,dJ,Gf] (ks:=[.st .tabl,.st .conn,.st .limi]) uY (λv=>[(true,qh (.o true) (.o true) v.1),(false,[.c (.bool v.2)])])
def yL:Sh:=⟨[zs 2,zp 7 0,(8,false,[.sl .any .u8])],[zx .sipr]⟩
noncomputable def nT (a:List Int×Sipr):Tr (Stp (List Int×Sipr) ((List Int×Sipr))):=
 .ite (decide (8≤(a.1.length:Int))) (.cal rK.c (a.1,()) λc4=>
  .cal va.c (a.2,c4,()) λc5=>
  .grd ((decide (8≤(a.1.length:Int)))&&(decide ((a.1.length:Int)≤(a.1.length:Int))))<|
  .ret (.next (((a.1.take ((a.1.length:Int).toNat)).drop 8),c5)))<|
 .ret (.out (a.1,a.2))
noncomputable def nj:yL.V→LW yL (List Int×Sipr) ((List Int×Sipr)):=λ(v0,v1,v2,_)=>⟨(v1,v2),λa=>(v0,a.1,a.2,()),nT,v1.length,oN (.exit 0) ⟨[zs 2,zu 6,zp 7 0,(8,false,[.sl .any .u8])],[zx .sipr]⟩ (λp=>(v0,p.1,p.2,()))⟩
theorem JE {v0:aa}{v1:List Int}{v2:Sipr}(h0:sS v1):(nj (v0,v1,v2,())).W (λp=>sS p.1):=
 lwW (a:=(v1,v2)) (λa=>sS a.1) (λa=>a.1.length) h0
noncomputable def pd:FT (Int×Int×aa×Unit) (Int) (λx=>sS x.2.2.1) (λ_ _=>True):= .mk (λ(x0,x1,x2,_)=>
  .val (th.f (x0,x1,())) λc1=>
  .grd (Nat.ble x2.length bc)<|
  .lp (nj (x2,(eu x2),c1,())).lp λ(p6a0,p6a1)=>
  .val ((p6a0.take (List.replicate 8 0).length)++(List.replicate 8 0).drop (p6a0.take (List.replicate 8 0).length).length) λl7=>
  .grd (decide (7<(l7.length:Int)))<|
  .cal rK.c ((l7.set 7 (IntKind.wrap .u8 (x2.length:Int))),()) λc8=>
  .cal va.c (p6a1,c8,()) λc9=>
  .cal vb.c (c9,()) λc10=>
  .ret c10) (qU @JE)
noncomputable def SK:=NI st Tryz.func444 [(0,la ⟨[2,7,8],[.soft 8 0],false,0⟩ ⟨[2,6,7,8],[],false,0⟩)] [Sa,Xk,VC,XG] 0 nj (ks:=[.sc (.int .u64),.sc (.int .u64),.sc .str]) pd (λv=>[(false,[.c (.int .u64 v)])])
noncomputable def gQ:=[Mf]
def ck:Sh:=⟨[zl 0 .conn,(1,false,[.fn 174 [0]]),zi 7,zi 8],[zx .tupl]⟩
noncomputable def gS:Fx:=⟨173,Tryz.f173,[(0,la ⟨[0,1,7,8],[],false,1⟩ ⟨[4],[],false,1⟩)],1⟩
noncomputable def fV (v0:List Conn)(v3:Tupl)(v2:Int)(a:Unit):Tr (Stp (Unit) ((Int))):=
 .grd (cG v0 v2)<|
 .cal wP.c ((v0.getD v2.toNat (Ty.zero .conn)),v3,()) λc1=>
 .ite c1 (.ret (.out v2))<|
 .ret (.next ())
noncomputable def bv:ck.V→tq ck Unit (Int):=λ(v0,v1,v2,v3,_)=>⟨v2,(),λv2 _=>(v0,v1,v2,v3,()),λv2 _=>(decide (v2<v1)),fV v0 v3,up,1,(Int.toNat (v1-v2)),.inl,eR,oB .ret ⟨[zi 4],[zx .tupl]⟩ (λp=>(p,v3,())) (.exit 0) ⟨[zu 4],[zx .tupl]⟩ (λ_=>(v3,()))⟩
theorem l0:LS Tryz.prog gS [0] (gc 0 ck bv):=dd st (aL gQ) _ bv [] trivial
theorem mp {v0:List Conn}{v1 v2:Int}{v3:Tupl}(h0:0≤v2)(h1:v1≤4611686018427387904)(h2:v1≤(v0.length:Int)):(bv (v0,v1,v2,v3,())).U v1 (λ_ _=>True) (λp=>v2≤p∧p<v1):=
 ju h0 h1 trivial
noncomputable def eJ:FT (List Conn×Tupl×Unit) (Int) (λx=>wS x.1) (λx v=> -1≤v∧v<x.1.length):= .mk (λ(x0,y1_0,_)=>
  .lp (bv (x0,(x0.length:Int),0,y1_0,())).lp λw2=> .sum w2 (λp2a0=>
  .ret p2a0)<|
  λ_=>
  .ret (-1)) (qU @mp)
noncomputable def oo:=cq st gS gQ [(gc 0 ck bv)] [.wr false [.c (.sl .conn)],.fn 174 [0]] [.box [.st .tupl]] (λx y=>(x.1.1,y.1.1,())) eJ rI (λx y v=>((y.1.1,()),())) Tryz.func173 (by kernel_rfl) ⟨l0,trivial⟩
noncomputable def gT:=[Kj]
def cm:Sh:=⟨[zl 0 .half,(1,false,[.fn 309 [0]]),zi 7,zi 8],[zx .tupl]⟩
noncomputable def gV:Fx:=⟨273,Tryz.f273,[(0,la ⟨[0,1,7,8],[],false,1⟩ ⟨[4],[],false,1⟩)],1⟩
noncomputable def fU (v0:List Half)(v3:Tupl)(v2:Int)(a:Unit):Tr (Stp (Unit) ((Int))):=
 .grd (cG v0 v2)<|
 .cal vN.c ((v0.getD v2.toNat (Ty.zero .half)),v3,()) λc1=>
 .ite c1 (.ret (.out v2))<|
 .ret (.next ())
noncomputable def bx:cm.V→tq cm Unit (Int):=λ(v0,v1,v2,v3,_)=>⟨v2,(),λv2 _=>(v0,v1,v2,v3,()),λv2 _=>(decide (v2<v1)),fU v0 v3,up,1,(Int.toNat (v1-v2)),.inl,eR,oB .ret ⟨[zi 4],[zx .tupl]⟩ (λp=>(p,v3,())) (.exit 0) ⟨[zu 4],[zx .tupl]⟩ (λ_=>(v3,()))⟩
theorem mr:LS Tryz.prog gV [0] (gc 0 cm bx):=dd st (aL gT) _ bx [] trivial
theorem mq {v0:List Half}{v1 v2:Int}{v3:Tupl}(h0:0≤v2)(h1:v1≤4611686018427387904)(h2:v1≤(v0.length:Int)):(bx (v0,v1,v2,v3,())).U v1 (λ_ _=>True) (λp=>v2≤p∧p<v1):=
 ju h0 h1 trivial
noncomputable def eY:FT (List Half×Tupl×Unit) (Int) (λx=>wS x.1) (λx v=> -1≤v∧v<x.1.length):= .mk (λ(x0,y1_0,_)=>
  .lp (bx (x0,(x0.length:Int),0,y1_0,())).lp λw2=> .sum w2 (λp2a0=>
  .ret p2a0)<|
  λ_=>
  .ret (-1)) (qU @mq)
noncomputable def om:=cq st gV gT [(gc 0 cm bx)] [.sc (.sl .half),.fn 309 [0]] [.box [.st .tupl]] (λx y=>(x.1,y.1.1,())) eY rI (λx y v=>((y.1.1,()),())) Tryz.func273 (by kernel_rfl) ⟨mr,trivial⟩
noncomputable def jo:FT (Stac×Unit) (Stac) (λx=>az x.1) (λx v=>az v):= .mk λ(x0,_)=>
  .cal mD.c (x0.link,()) λc1=>
  .cal gF.c (x0.door,()) λc2=>
  .ret (⟨c1,c2⟩:Stac)
noncomputable def nI:=a9 st Tryz.func40 [Be,jL] (ks:=[.st .stac]) jo (λv=>[(true,nz (.o true) (.o true) (.o true) (.o true) (.o true) (.o true) v)])
noncomputable def rk:FT (Stac×Unit) (Stac) (λx=>az x.1) (λx v=>az v):= .mk λ(x0,_)=>
  .cal rl.c (x0.link,()) λc1=>
  .cal d9.c (x0.door,()) λc2=>
  .ret (⟨c1,c2⟩:Stac)
noncomputable def yd:=a9 st Tryz.func49 [Gs,gq] (ks:=[.st .stac]) rk (λv=>[(true,nz (.o true) (.o true) (.o true) (.o true) (.o true) (.o true) v)])
noncomputable def t5:FT (Door×Mac×Unit) (Door) (λx=>aC x.1∧dV x.2.1) (λx v=>aC v):= .mk λ(x0,x1,_)=>
  .cal d9.c (x0,()) λc1=>
  .cal zY.c (x0.keys,x1,()) λc2=>
  .ret (⟨c1.port,c1.clock,c2,c1.limits,c1.halves,c1.table,c1.chal⟩:Door)
noncomputable def Nl:=a9 st Tryz.func53 [gq,TN] (ks:=[.st .door,.st .mac]) t5 (λv=>[(true,kC (.o true) (.o true) (.o true) (.o true) (.o true) v)])
noncomputable def Xb:=[Bj,xY,xC]
noncomputable def Wu:Fx:=⟨57,Tryz.f57,[(3000003,rA 0 27)],0⟩
noncomputable def ib:FT (aa×Unit) (Pack×Segm×Bool) (λx=>sS x.1) (λx v=>iZ v.1∧am v.2.1):= .mk λ(x0,_)=>
  .cal mB.c (x0,()) λc1=>
  .cal lf.c (c1.1.body,()) λc2=>
  .bnd (β:=Bool×Unit) (.ite (!c1.2) (.ret (true,()))<|
   .ret ((c2.2 != 0),())) λ(u3a0,_)=>
  .ite u3a0 (.ret ((⟨0,0,0,0,0,[]⟩:Pack),(⟨0,0,0,0,0,0,⟨0,0,false,false,0,0⟩,[]⟩:Segm),false))<|
  .cal aQ.c (c2.1.body,c2.1.src,c2.1.dst,()) λc4=>
  .ret (c2.1,c4.1,c4.2)
noncomputable def Ja:=bS st Wu Xb [] (ks:=[.sc .str]) ib (λv=>[(true,yc v.1),(true,oK v.2.1),(false,[.c (.bool v.2.2)])]) Tryz.func57 trivial
def BA:Sh:=⟨[zp 1 0,zi 3],[.box [.st .door [.sl .arg,.sl .arg,.sl .arg,.sl .arg,.sl .arg]]]⟩
noncomputable def A7 (v1:Door)(v0:Int)(a:Unit):Tr (Stp (Unit) ((Unit))):=
 .grd (cG v1.halves v0)<|
 .cal dT.c (v1.table,(v1.halves.getD v0.toNat (Ty.zero .half)).tuple,()) λc8=>
 .ite (decide (0≤c8)) (.ret (.out ()))<|
 .ret (.next ())
noncomputable def pE:BA.V→tq BA Unit (Unit):=λ(v0,v1,_)=>⟨v0,(),λv0 _=>(v0,v1,()),λv0 _=>(decide (v0<(v1.halves.length:Int))),A7 v1,up,1,(Int.toNat ((v1.halves.length:Int)-v0)),.inl,eR,oB .ret ⟨[zb 2],[]⟩ (λ_=>(false,())) (.exit 0) ⟨[zu 2],[]⟩ (λ_=>())⟩
theorem N6 {v0:Int}{v1:Door}(h0:0≤v0)(h1:(v1.halves.length:Int)≤4611686018427387904)(h2:aC v1):(pE (v0,v1,())).U (v1.halves.length:Int) (λ_ _=>True) (λ_=>True):=
 ju h0 h1 trivial
noncomputable def sr:FT (Door×Unit) (Bool) (λx=>aC x.1) (λx v=>(v=true→x.1.table.conns.length≤16)):= .mk (λ(x0,_)=>
  .bnd (β:=Bool×Unit) (.as (λw=>(w.1=false→0≤x0.keys.epoch∧x0.keys.epoch≤4294967295∧x0.table.conns.length≤16∧x0.table.waiting.length≤16∧x0.halves.length≤64)) (.cal aI.c (x0.port,16,()) λc1=>
   .ite (!c1) (.ret (true,()))<|
   .cal aI.c (x0.clock,32,()) λc2=>
   .ite (!c2) (.ret (true,()))<|
   .cal uC.c (x0.keys,()) λc3=>
   .ite (!c3) (.ret (true,()))<|
   .cal uJ.c (x0.table,x0.limits,()) λc4=>
   .ite (!c4) (.ret (true,()))<|
   .cal pi.c (x0.halves,()) λc5=>
   .ite (!c5) (.ret (true,()))<|
   .ite (decide (x0.limits.halves<(x0.halves.length:Int))) (.ret (true,()))<|
   .val (ce.f (x0.chal,0,x0.limits.chal,())) λc6=>
   .ret ((!c6),()))) λ(u7a0,_)=>
  .ite u7a0 (.ret false)<|
  .lp (pE (0,x0,())).lp λw9=> .sum w9 (λ_=>
  .ret false)<|
  λ_=>
  .ret true) (qU @N6)
noncomputable def wn:=eE st Tryz.func63 [(0,lb [1,3] [2]),(3000001,rA 0 51)] [cc,Cn,Gf,C8,cy,fA] 0 pE (ks:=[.st .door]) sr rB
noncomputable def av:FT (Tabl×Tupl×Unit) (Int) (λx=>wS x.1.conns) (λx v=> -1≤v∧v<x.1.conns.length):= .mk λ(x0,x1,_)=>
  .cal eJ.c (x0.conns,x1,()) λc1=>
  .ret c1
noncomputable def gC:=a9 st Tryz.func73 [oo] (ks:=[.st .tabl,.st .tupl]) av rI
noncomputable def de:FT (Tabl×Conn×Unit) (Tabl) (λx=>aV x.1∧ac x.2.1) (λx v=>aV v∧v.conns.length=x.1.conns.length):= .mk λ(x0,x1,_)=>
  .cal fB.c (x0,()) λc1=>
  .cal av.c (x0,x1.tuple,()) λc2=>
  .ite (decide (0≤c2)) (.cal ci.c (x1,()) λc3=>
   .grd (cG c1.conns c2)<|
   .ret (⟨(c1.conns.set c2.toNat c3),c1.waiting⟩:Tabl))<|
  .ret c1
noncomputable def x9:=a9 st Tryz.func76 [kt,gC,cZ] (ks:=[.st .tabl,.st .conn]) de (λv=>[(true,qh (.o true) (.o true) v)])
noncomputable def fH:FT (aa×Unit) (Pack×Segm×Bool) (λx=>sS x.1) (λx v=>iZ v.1∧am v.2.1):= .mk λ(x0,_)=>
  .cal mL.c (x0,()) λc1=>
  .cal kY.c (c1.1.body,()) λc2=>
  .cal jG.c (c2.1.body,c2.1.src,c2.1.dst,()) λc3=>
  .ite c1.2 (.ite (c2.2==0) (.ret (c2.1,c3.1,c3.2))<|
   .ret (c2.1,c3.1,false))<|
  .ret (c2.1,c3.1,false)
noncomputable def Hd:=a9 st Tryz.func99 [Bb,zm,xr] (ks:=[.sc .str]) fH (λv=>[(true,yc v.1),(true,oK v.2.1),(false,[.c (.bool v.2.2)])])
def Ec:Sh:=⟨[zs 1,zp 2 0,zi 5],[zg .mac]⟩
noncomputable def wy (v0:aa)(v2:Mac)(v1:Int)(a:Unit):Tr (Stp (Unit) ((Int))):=
 .grd (cG v2.rows v1)<|
 .ite ((v2.rows.getD v1.toNat (Ty.zero .macRow)).input==v0) (.grd (cG v2.rows v1)<|
  .ite (decide ((((v2.rows.getD v1.toNat (Ty.zero .macRow)).value).tmod 16777216)<0)) (.val (IntKind.wrap .i64 ((((v2.rows.getD v1.toNat (Ty.zero .macRow)).value).tmod 16777216)+16777216)) λe2=>
   .ret (.out e2))<|
  .ret (.out (((v2.rows.getD v1.toNat (Ty.zero .macRow)).value).tmod 16777216)))<|
 .ret (.next ())
noncomputable def qG:Ec.V→tq Ec Unit (Int):=λ(v0,v1,v2,_)=>⟨v1,(),λv1 _=>(v0,v1,v2,()),λv1 _=>(decide (v1<(v2.rows.length:Int))),wy v0 v2,up,1,(Int.toNat ((v2.rows.length:Int)-v1)),.inl,eR,oB .ret ⟨[zi 4],[]⟩ (λp=>(p,())) (.exit 0) ⟨[zu 4],[]⟩ (λ_=>())⟩
theorem Qf {v0:aa}{v1:Int}{v2:Mac}(h0:0≤v1)(h1:(v2.rows.length:Int)≤4611686018427387904):(qG (v0,v1,v2,())).U (v2.rows.length:Int) (λ_ _=>True) (λ_=>True):=
 ju h0 h1 trivial
noncomputable def IY:FT (Mac×aa×Unit) (Int) (λx=>dV x.1∧sS x.2.1) (λ_ _=>True):= .mk (λ(x0,x1,_)=>
  .ite (!x0.use) (.cal AA.c (x0.k,x0.l,x1,()) λc1=>
   .ret (IntKind.wrap .i64 (c1.tmod 16777216)))<|
  .lp (qG (x1,0,x0,())).lp λw3=> .sum w3 (λp3a0=>
  .ret p3a0)<|
  λ_=>
  .ret 0) (qU @Qf)
noncomputable def aat:=eE st Tryz.func123 [(0,lb [1,2,5] [4])] [Vf] 0 qG (ks:=[.st .mac,.sc .str]) IY rI
def yq:Sh:=⟨[zi 1,zl 2 .segm,zp 3 0,zo 7 1,zi 8],[.box [.st .stac [.sl .arg,.sl .arg,.sl .arg,.sl .arg,.sl .arg,.sl .arg]],za .str]⟩
noncomputable def x8 (v0:Int)(v1:List Segm)(v3:Stac)(v2:Int)(a:List aa):Tr (Stp (List aa) (Empty)):=
 .grd (cG v1 v2)<|
 .cal lm.c ((v1.getD v2.toNat (Ty.zero .segm)),v3.link.ip,v0,()) λc1=>
 .cal Ay.c (v3.link,v0,c1,()) λc2=>
 .ite c2.2 (.grd (px a 1 16)<|
  .ret (.next (a++[c2.1])))<|
 .ret (.next a)
noncomputable def ki:yq.V→qf yq (List aa):=λ(v0,v1,v2,v3,v4,_)=>⟨v2,v4,λv2 a=>(v0,v1,v2,v3,a,()),λv2 _=>(decide (v2<(v1.length:Int))),x8 v0 v1 v3,up,1,(Int.toNat ((v1.length:Int)-v2)),Empty.elim,Prod.mk,oN (.exit 0) ⟨[zu 6,zo 7 0],[za .str]⟩ (λx=>(x.2,()))⟩
theorem Lj {v0 v2:Int}{v1:List Segm}{v3:Stac}{v4:List aa}(h0:0≤v2)(h1:(v1.length:Int)≤4611686018427387904)(h2:sL am v1)(h3:az v3)(h4:(v4.length:Int)≤v2∧dg sS v4):(ki (v0,v1,v2,v3,v4,())).U (v1.length:Int) (λv2 a=>(a.length:Int)≤v2∧dg sS a) (λ_=>True):=
 ju (a:=v4) h0 h1 h4
noncomputable def rm:FT (Stac×Int×List Segm×Unit) (List aa) (λx=>az x.1∧sL am x.2.2.1) (λx v=>sL sS v∧v.length≤x.2.2.1.length):=⟨λ(x0,x1,x2,_)=>
  .lp (ki (x1,x2,0,x0,[],())).lp λ(_,a3_0)=>
  .ret a3_0,
 λ(x0,x1,x2,_) hp=>by
  refine Tr.L (Lj ?_ ?_ ?_ ?_ ?_) (λa3_0 _=>Tr.R ?_) (λp=>Empty.elim p)
  all_goals ((try simp only[ki,LC.lp,LC.ct,Ct.lp]at*)<;>grind)⟩
noncomputable def zh:=eE st Tryz.func132 [(0,lb [1,2,3,7,8] [6,7])] [xp,Tb] 0 ki (ks:=[.st .stac,.sc (.int .i64),.sc (.sl .segm)]) rm (λv=>[(false,[sc (.o true) .str v])])
noncomputable def RL:=[dJ,YZ,gJ,vn,Ts,mw,Di]
def uI:An:=⟨⟨[],[],false,0⟩,⟨[2,3,4,5],[],false,0⟩,⟨[],[]⟩,[(.normal,⟨[zp 2 0,(3,false,[.nil]),zp 4 1,zo 5 2],[.box [.st .conn [.nil .piec]],zk .conn 3,za .segm,zf]⟩)]⟩
def uA:An:=⟨⟨[],[],false,0⟩,⟨[1,2,3,4,5],[],false,0⟩,⟨[],[]⟩,[(.normal,⟨[zp 1 0,zp 2 1,(3,false,[.nil]),zp 4 2,zo 5 3],[zg .conn,.box [.st .conn [.nil .piec]],zk .conn 4,za .segm,zf]⟩)]⟩
noncomputable def RA:Fx:=⟨133,Tryz.f133,[(1000016,uI),(1000023,uA)],0⟩
noncomputable def oq:FT (Conn×Unit) (Conn×List Segm) (λx=>ac x.1) (λx v=>ac v.1∧sL am v.2∧v.2.length≤49):= .mk λ(x0,_)=>
  .cal dF.c (x0,()) λc1=>
  .cal IP.c (x0,()) λc2=>
  .ite (!c2) (.cal hZ.c (x0,()) λc3=>
   .bnd (β:=WT uI.es) (.as (λw=>ac w.1∧ac w.2.1∧sL am w.2.2.1∧w.2.2.1.length≤49) (.ite c3 (.ret ((⟨⟨0,0,0⟩,0,⟨0,[],0,false,false,false⟩,⟨0,[],[],0,false⟩,0,0,⟨0,0,false,false,0,0⟩,0,0⟩:Conn),({c1 with timer:=0,tries:=0}:Conn),[],()))<|
    .ret ((⟨⟨0,0,0⟩,0,⟨0,[],0,false,false,false⟩,⟨0,[],[],0,false⟩,0,0,⟨0,0,false,false,0,0⟩,0,0⟩:Conn),c1,[],()))) λ(_,u4a1,u4a2,_)=>
   .ret (u4a1,u4a2))<|
  .bnd (β:=WT uA.es) (.as (λw=>ac w.1∧ac w.2.1∧ac w.2.2.1∧sL am w.2.2.2.1∧w.2.2.2.1.length≤49) (.ite (c1.timer==0) (.ite (x0.state==7) (.ret (x0,(⟨⟨0,0,0⟩,0,⟨0,[],0,false,false,false⟩,⟨0,[],[],0,false⟩,0,0,⟨0,0,false,false,0,0⟩,0,0⟩:Conn),({c1 with timer:=4}:Conn),[],()))<|
    .ret (x0,(⟨⟨0,0,0⟩,0,⟨0,[],0,false,false,false⟩,⟨0,[],[],0,false⟩,0,0,⟨0,0,false,false,0,0⟩,0,0⟩:Conn),({c1 with timer:=3}:Conn),[],()))<|
   .ret (x0,(⟨⟨0,0,0⟩,0,⟨0,[],0,false,false,false⟩,⟨0,[],[],0,false⟩,0,0,⟨0,0,false,false,0,0⟩,0,0⟩:Conn),c1,[],()))) λ(u5a0,_,u5a2,u5a3,_)=>
  .ite (decide (0<(IntKind.wrap .i64 (u5a2.timer-1)))) (.ret (({u5a2 with timer:=(IntKind.wrap .i64 (u5a2.timer-1))}:Conn),u5a3))<|
  .ite (u5a0.state==7) (.ret (({u5a2 with state:=8,timer:=(IntKind.wrap .i64 (u5a2.timer-1)),tries:=0}:Conn),u5a3))<|
  .ite (u5a0.tries==3) (.cal jX.c (u5a0,()) λc6=>
   .ret (({u5a2 with state:=8,timer:=(IntKind.wrap .i64 (u5a2.timer-1)),tries:=0}:Conn),[({c6 with flags:=(bits .or .i64 c6.flags 4)}:Segm)]))<|
  .cal zS.c (u5a0.s,()) λc7=>
  .val (fD.f (1,u5a2.window,())) λc8=>
  .cal nY.c ((⟨u5a2.tuple,u5a2.state,c7,u5a2.r,u5a2.window,u5a2.most,u5a2.opts,(IntKind.wrap .i64 (u5a2.timer-1)),(IntKind.wrap .i64 (u5a0.tries+1))⟩:Conn),c8,()) λc9=>
  .ret (({c9.1 with timer:=3}:Conn),c9.2)
noncomputable def vY:=bS st RA RL [] (ks:=[.st .conn]) oq (λv=>[(true,fh (.o true) v.1),(false,[sc (.o true) .segm v.2])]) Tryz.func133 trivial
noncomputable def Ep:=[gq,wn,gI,Lz,vY,FO]
def lI:Sh:=⟨[zp 2 0,zp 4 1,zo 5 2,zi 6],[.box [.st .door [.nil .macRow,.nil .macRow,.nil .half,.nil .conn,.nil .tupl]],.box [.st .door [.own 3,.own 4,.own 5,.own 6,.own 7]],za .segm,zf,zf,zf,zf,zf]⟩
noncomputable def CV:Fx:=⟨134,Tryz.f134,[(0,lb [2,4,5,6] [2,3,4,5])],0⟩
noncomputable def qq (v0:Int)(a:Door×Door×List Segm):Tr (Stp (Door×Door×List Segm) (Empty)):=
 .grd (cG a.2.1.table.conns v0)<|
 .cal oq.c ((a.2.1.table.conns.getD v0.toNat (Ty.zero .conn)),()) λc5=>
 .grd (cG a.2.1.table.conns v0)<|
 .grd (Nat.ble ((2*(a.2.2.length+c5.2.length)+1024)*104) bc)<|
 .ret (.next (({a.1 with keys.now.rows:=[],keys.before.rows:=[],halves:=[],table.conns:=[],table.waiting:=[]}:Door),({a.2.1 with table.conns:=(a.2.1.table.conns.set v0.toNat c5.1)}:Door),(a.2.2++c5.2)))
noncomputable def cx:lI.V→qf lI (Door×Door×List Segm):=λ(v0,v1,v2,v3,_)=>⟨v0,(v1,v2,v3),λv0 a=>(v0,a.1,a.2.1,a.2.2,()),λv0 a=>(decide (v0<(a.2.1.table.conns.length:Int))),qq,up,1,(Int.toNat ((v2.table.conns.length:Int)-v0)),Empty.elim,Prod.mk,oN (.exit 0) ⟨[zp 2 0,zu 3,zp 4 1,zo 5 2],[.box [.st .door [.nil .macRow,.nil .macRow,.nil .half,.nil .conn,.nil .tupl]],.box [.st .door [.own 3,.own 4,.own 5,.own 6,.own 7]],za .segm,zf,zf,zf,zf,zf]⟩ (λx=>(({x.2.1 with keys.now.rows:=[],keys.before.rows:=[],halves:=[],table.conns:=[],table.waiting:=[]}:Door),x.2.2.1,x.2.2.2,()))⟩
set_option maxHeartbeats 4000000 in
theorem Hy:LS Tryz.prog CV [0] (gc 0 lI cx):=dd st (aL Ep) _ cx [] trivial
theorem HV {v0:Int}{v1 v2:Door}{v3:List Segm}(h0:0≤v0)(h1:(v2.table.conns.length:Int)≤4611686018427387904)(h2:sL bm v2.keys.now.rows)(h3:sL bm v2.keys.before.rows)(h4:sS v2.halves)(h5:sL ac v2.table.conns)(h6:sS v2.table.waiting)(h7:aC v1∧v2.keys.now.rows.length=v2.keys.now.rows.length∧dg bm v2.keys.now.rows∧v2.keys.before.rows.length=v2.keys.before.rows.length∧dg bm v2.keys.before.rows∧v2.halves.length=v2.halves.length∧v2.table.conns.length=v2.table.conns.length∧dg ac v2.table.conns∧v2.table.waiting.length=v2.table.waiting.length∧sL am v3∧0≤v0∧v0≤16∧v2.table.conns.length≤16∧(v3.length:Int)≤49*v0):(cx (v0,v1,v2,v3,())).S (λv0 a=>a.2.1.table.conns.length=v2.table.conns.length∧aC a.1∧a.2.1.keys.now.rows.length=v2.keys.now.rows.length∧dg bm a.2.1.keys.now.rows∧a.2.1.keys.before.rows.length=v2.keys.before.rows.length∧dg bm a.2.1.keys.before.rows∧a.2.1.halves.length=v2.halves.length∧a.2.1.table.conns.length=v2.table.conns.length∧dg ac a.2.1.table.conns∧a.2.1.table.waiting.length=v2.table.waiting.length∧sL am a.2.2∧0≤v0∧v0≤16∧a.2.1.table.conns.length≤16∧(a.2.2.length:Int)≤49*v0) (λ_=>True):=by
 refine LC.okS ⟨rfl,h7⟩ (λj a hj hv=>⟨⟨?_, ?_⟩, ?_⟩) (λa hv=> ?_)
 ·simp only[cx,decide_eq_true_eq]at*;omega
 ·simp only[cx]at*;exact upw (by omega) (by omega)
 ·refine Tr.G2 ?_ λ_=>Tr.C ?_ λ_ _ _=>Tr.G2 ?_ λ_=>Tr.Gb ?_ λ_=>Tr.Rn ?_
  all_goals (try simp only[cx]at*)<;>(grind)
 ·simp only[cx,decide_eq_false_iff_not]at*;omega
noncomputable def wq:FT (Door×Unit) (Door×List Segm) (λx=>aC x.1) (λx v=>aC v.1∧sL am v.2):=⟨λ(x0,_)=>
  .cal d9.c (x0,()) λc1=>
  .cal sr.c (x0,()) λc2=>
  .ite (!c2) (.ret (c1,[]))<|
  .val (bQ.f ((IntKind.wrap .i64 (x0.clock+1)),())) λc3=>
  .cal qM.c (x0.halves,()) λc4=>
  .lp (cx (0,(⟨0,0,⟨0,⟨false,0,0,[]⟩,⟨false,0,0,[]⟩,false⟩,⟨0,0,0,0⟩,[],⟨[],[]⟩,0⟩:Door),({c1 with clock:=c3,halves:=c4,chal:=0}:Door),[],())).lp λ(_,_,a6_1,a6_2)=>
  .cal Ax.c (a6_1.table,()) λc7=>
  .ret (({a6_1 with table.conns:=c7.conns,table.waiting:=c7.waiting}:Door),a6_2),
 λ(x0,_) hp=>by
  refine Tr.C ?_ λ_ _ _=>Tr.C ?_ λ_ _ _=>Tr.I (λ_=>Tr.R ?_) λ_=>Tr.V λ_ _=>Tr.C ?_ λ_ _ _=>Tr.L (HV ?_ ?_ ?_ ?_ ?_ ?_ ?_ ?_) (λ(a6_0,a6_1,a6_2) _=>Tr.C ?_ λ_ _ _=>Tr.R ?_) (λp=>Empty.elim p)
  all_goals ((try simp only[cx,LC.lp,LC.ct,Ct.lp]at*)<;>grind)⟩
noncomputable def QH:=bS st CV Ep [(gc 0 lI cx)] (ks:=[.st .door]) wq (λv=>[(true,kC (.o true) (.o true) (.o true) (.o true) (.o true) v.1),(false,[sc (.o true) .segm v.2])]) Tryz.func134 ⟨Hy,trivial⟩
noncomputable def pe:FT (Stac×Conn×List Segm×Resu×Unit) (Stac×Resu) (λx=>az x.1∧ac x.2.1∧sL am x.2.2.1∧gY x.2.2.2.1) (λx v=>az v.1∧gY v.2):= .mk λ(x0,x1,x2,x3,_)=>
  .cal uB.c (x0.door.table,x1,()) λc1=>
  .cal Ax.c (c1,()) λc2=>
  .cal rm.c (({x0 with door.table.conns:=c2.conns,door.table.waiting:=c2.waiting}:Stac),x1.tuple.ip,x2,()) λc3=>
  .ret (({x0 with door.table.conns:=c2.conns,door.table.waiting:=c2.waiting}:Stac),({x3 with frames:=c3,ok:=true}:Resu))
noncomputable def UZ:=a9 st Tryz.func142 [Gn,FO,zh] (ks:=[.st .stac,.st .conn,.sc (.sl .segm),.st .resu]) pe (λv=>[(true,nz .c .c .c .c (.o true) (.o true) v.1),(true,Rj (.o true) v.2)])
noncomputable def yn:=[Re,gP,gC,xA]
def nv:Sh:=⟨[zp 2 0,zl 29 .conn,zi 30,zi 31],[.box [.st .tabl [.sl .arg,.sl .arg]]]⟩
def oe:Sh:=⟨[zp 2 0,zl 49 .tupl,zi 50,zi 51],[.box [.st .tabl [.sl .arg,.sl .arg]]]⟩
noncomputable def x7:Fx:=⟨157,Tryz.f157,[(0,lb [2,29,30,31] [2,4]),(2,lb [2,49,50,51] [4]),(3000001,rA 0 27)],0⟩
noncomputable def eP (v0:List Conn)(v3:Tabl)(v2:Int)(a:Unit):Tr (Stp (Unit) ((Unit))):=
 .grd (cG v0 v2)<|
 .cal aO.c ((v0.getD v2.toNat (Ty.zero .conn)),()) λc3=>
 .ite (!c3) (.ret (.out ()))<|
 .cal av.c (v3,(v0.getD v2.toNat (Ty.zero .conn)).tuple,()) λc4=>
 .ite (c4 != v2) (.ret (.out ()))<|
 .ret (.next ())
noncomputable def fW:nv.V→tq nv Unit (Unit):=λ(v0,v1,v2,v3,_)=>⟨v2,(),λv2 _=>(v0,v1,v2,v3,()),λv2 _=>(decide (v2<v1)),eP v0 v3,up,1,(Int.toNat (v1-v2)),.inl,eR,oB .ret ⟨[zp 2 0,zb 4],[.box [.st .tabl [.sl .arg,.sl .arg]]]⟩ (λ_=>(false,v3,())) (.exit 0) ⟨[zp 2 0,zu 4],[.box [.st .tabl [.sl .arg,.sl .arg]]]⟩ (λ_=>(v3,()))⟩
theorem MU:LS Tryz.prog x7 [0] (gc 0 nv fW):=dd st (aL yn) _ fW [] trivial
theorem L7 {v0:List Conn}{v1 v2:Int}{v3:Tabl}(h0:0≤v2)(h1:v1≤4611686018427387904)(h2:sL ac v0)(h3:aV v3)(h4:v1≤(v0.length:Int)):(fW (v0,v1,v2,v3,())).U v1 (λ_ _=>True) (λ_=>True):=
 ju h0 h1 trivial
noncomputable def eX (v0:List Tupl)(v3:Tabl)(v2:Int)(a:Unit):Tr (Stp (Unit) ((Unit))):=
 .grd (cG v0 v2)<|
 .cal av.c (v3,(v0.getD v2.toNat (Ty.zero .tupl)),()) λc6=>
 .ite (decide (c6<0)) (.ret (.out ()))<|
 .cal lr.c (v3.waiting,(v0.getD v2.toNat (Ty.zero .tupl)),()) λc7=>
 .ite (c7 != v2) (.ret (.out ()))<|
 .ret (.next ())
noncomputable def fO:oe.V→tq oe Unit (Unit):=λ(v0,v1,v2,v3,_)=>⟨v2,(),λv2 _=>(v0,v1,v2,v3,()),λv2 _=>(decide (v2<v1)),eX v0 v3,up,1,(Int.toNat (v1-v2)),.inl,eR,oB .ret ⟨[zb 4],[]⟩ (λ_=>(false,())) (.exit 2) ⟨[zu 4],[]⟩ (λ_=>())⟩
theorem KE:LS Tryz.prog x7 [1] (gc 2 oe fO):=dd st (aL yn) _ fO [] trivial
theorem sV {v0:List Tupl}{v1 v2:Int}{v3:Tabl}(h0:0≤v2)(h1:v1≤4611686018427387904)(h2:sS v0)(h3:aV v3)(h4:v1≤(v0.length:Int)):(fO (v0,v1,v2,v3,())).U v1 (λ_ _=>True) (λ_=>True):=
 ju h0 h1 trivial
noncomputable def cQ:FT (Tabl×Limi×Unit) (Bool) (λx=>wS x.1.conns∧dg ac x.1.conns∧wS x.1.waiting) (λx v=>(v=true→x.1.conns.length≤16∧x.1.waiting.length≤16)):= .mk (λ(x0,x1,_)=>
  .bnd (β:=Bool×Unit) (.as (λw=>(w.1=false→x1.halves≤64∧x1.waiting≤16∧x1.conns≤16)) (.cal fL.c (x1,()) λc1=>
   .ite (!c1) (.ret (true,()))<|
   .ite (decide (x1.conns<(x0.conns.length:Int))) (.ret (true,()))<|
   .ret ((decide (x1.waiting<(x0.waiting.length:Int))),()))) λ(u2a0,_)=>
  .ite u2a0 (.ret false)<|
  .lp (fW (x0.conns,(x0.conns.length:Int),0,x0,())).lp λw5=> .sum w5 (λ_=>
  .ret false)<|
  λ_=>
  .lp (fO (x0.waiting,(x0.waiting.length:Int),0,x0,())).lp λw8=> .sum w8 (λ_=>
  .ret false)<|
  λ_=>
  .ret true) (sk4 @L7 @sV @sV @sV)
noncomputable def Hk:=bS st x7 yn [(gc 0 nv fW),(gc 2 oe fO)] (ks:=[.st .tabl,.st .limi]) cQ rB Tryz.func157 ⟨MU,KE,trivial⟩
noncomputable def aam:=[gP,cZ,XB,Du]
noncomputable def ZC:Fx:=⟨176,Tryz.f176,[(3000001,rA 0 23)],0⟩
noncomputable def IM:FT (Conn×aa×Unit) (Conn×Int×List Segm) (λx=>ac x.1∧sS x.2.1) (λx v=>ac v.1∧sL am v.2.2):= .mk λ(x0,x1,_)=>
  .bnd (β:=Bool×Unit) (.cal aO.c (x0,()) λc1=>
   .ite (!c1) (.ret (true,()))<|
   .ite (x0.state != 1) (.ret ((x0.state != 4),()))<|
   .ret (false,())) λ(u2a0,_)=>
  .ite u2a0 (.cal ci.c (x0,()) λc3=>
   .ret (c3,0,[]))<|
  .cal EI.c (x0.s,x1,()) λc4=>
  .cal cN.c (({x0 with s.una:=c4.1.una,s.data:=c4.1.data,s.sent:=c4.1.sent,s.fin:=c4.1.fin,s.finSent:=c4.1.finSent,s.done:=c4.1.done}:Conn),x0.window,()) λc5=>
  .ret (c5.1,c4.2,c5.2)
noncomputable def Z0:=bS st ZC aam [] (ks:=[.st .conn,.sc .str]) IM (λv=>[(true,fh (.o true) v.1),(false,[.c (.int .i64 v.2.1)]),(false,[sc (.o true) .segm v.2.2])]) Tryz.func176 trivial
noncomputable def ab4:=[cZ,gP,Du]
@[reducible] def CU:An:=⟨⟨[],[],false,0⟩,⟨[2,3,4],[],false,0⟩,⟨[],[]⟩,[(.normal,⟨[zp 2 0,(3,false,[.nil]),zp 4 1],[.box [.st .conn [.nil .piec]],zk .conn 2,zf]⟩),(.ret,⟨[zp 2 0,(3,false,[.nil]),zp 4 1],[zk .conn 2,zk .conn 2,zf]⟩)]⟩
noncomputable def act:Fx:=⟨178,Tryz.f178,[(1000014,CU)],0⟩
noncomputable def Ru:FT (Conn×Unit) (Conn×List Segm) (λx=>ac x.1) (λx v=>ac v.1∧sL am v.2):= .mk λ(x0,_)=>
  .cal ci.c (x0,()) λc1=>
  .cal aO.c (x0,()) λc2=>
  .ite (!c2) (.ret (c1,[]))<|
  .bnd (β:=WT CU.es) (.as (Sum.elim (λw=>ac w.1∧ac w.2.1) (λw=>ac w.1∧ac w.2.1)) (.ite (x0.state==1) (.ret (.inl ((⟨⟨0,0,0⟩,0,⟨0,[],0,false,false,false⟩,⟨0,[],[],0,false⟩,0,0,⟨0,0,false,false,0,0⟩,0,0⟩:Conn),({c1 with state:=2}:Conn),())))<|
   .ite (x0.state==4) (.ret (.inl ((⟨⟨0,0,0⟩,0,⟨0,[],0,false,false,false⟩,⟨0,[],[],0,false⟩,0,0,⟨0,0,false,false,0,0⟩,0,0⟩:Conn),({c1 with state:=6}:Conn),())))<|
   .ret (.inr ((c1,c1,()))))) λw3=> .sum w3 (λ(_,u3a1,_)=>
  .cal cN.c (({u3a1 with s.fin:=true}:Conn),u3a1.window,()) λc4=>
  .ret (c4.1,c4.2))<|
  λ(u3b0,_,_)=>
  .ret (u3b0,[])
noncomputable def abk:=bS st act ab4 [] (ks:=[.st .conn]) Ru (λv=>[(true,fh (.o true) v.1),(false,[sc (.o true) .segm v.2])]) Tryz.func178 trivial
noncomputable def TU:=[G0,cZ,vW,vt,Z6,Du,sF]
def qm:An:=⟨⟨[],[],false,0⟩,⟨[2,4,5,6,7,8],[],false,0⟩,⟨[],[]⟩,[(.normal,⟨[zp 2 0,zp 4 1,(5,false,[.nil]),zi 6,zi 7,zp 8 2],[zg .conn,.box [.st .conn [.nil .piec]],zk .conn 3,zf]⟩)]⟩
noncomputable def Ud:Fx:=⟨198,Tryz.f198,[(1000037,qm),(3000009,rA 0 37),(3000017,rA 0 68)],0⟩
noncomputable def oV:FT (Conn×Segm×Unit) (Conn×List Segm×Int) (λx=>ac x.1∧am x.2.1) (λx v=>ac v.1∧sL am v.2.1):= .mk λ(x0,x1,_)=>
  .cal uT.c (x0,x1,()) λc1=>
  .cal ci.c (x0,()) λc2=>
  .ite (c1==2) (.ret (({c2 with state:=8,timer:=0,tries:=0}:Conn),[],c1))<|
  .ite (c1==3) (.ite (c1==3) (.bnd (β:=Bool×Unit) (.ite (c1==4) (.ite (x0.state==7) (.val (bp.f (x1,1,())) λc3=>
       .ret (c3,()))<|
      .ret (false,()))<|
     .ret (false,())) λ(u4a0,_)=>
    .bnd (β:=WT qm.es) (.as (λw=>ac w.2.2.1∧ac w.2.2.2.1∧ac w.2.2.2.2.1) (.ite u4a0 (.ret (0,c1,x0,(⟨⟨0,0,0⟩,0,⟨0,[],0,false,false,false⟩,⟨0,[],[],0,false⟩,0,0,⟨0,0,false,false,0,0⟩,0,0⟩:Conn),({c2 with timer:=4}:Conn),()))<|
     .ret (0,c1,x0,(⟨⟨0,0,0⟩,0,⟨0,[],0,false,false,false⟩,⟨0,[],[],0,false⟩,0,0,⟨0,0,false,false,0,0⟩,0,0⟩:Conn),c2,()))) λ(_,u5a1,u5a2,_,u5a4,_)=>
    .cal bD.c (u5a2,()) λc6=>
    .ret (u5a4,[c6],u5a1))<|
   .ite (c1==5) (.cal DX.c (x0,x1,()) λc7=>
    .ite (c7.state==8) (.ret (c7,[],c1))<|
    .cal cN.c (c7,c7.window,()) λc8=>
    .bnd (β:=Bool×Unit) (.ite ((c8.2.length:Int)==0) (.cal aU.c (x1,()) λc9=>
      .ret ((c9 != 0),()))<|
     .ret (false,())) λ(u10a0,_)=>
    .ite u10a0 (.cal bD.c (c8.1,()) λc11=>
     .ret (c8.1,[c11],c1))<|
    .ret (c8.1,c8.2,c1))<|
   .ret (c2,[],c1))<|
  .ite (c1==4) (.bnd (β:=Bool×Unit) (.ite (c1==4) (.ite (x0.state==7) (.val (bp.f (x1,1,())) λc12=>
      .ret (c12,()))<|
     .ret (false,()))<|
    .ret (false,())) λ(u13a0,_)=>
   .bnd (β:=WT qm.es) (.as (λw=>ac w.2.2.1∧ac w.2.2.2.1∧ac w.2.2.2.2.1) (.ite u13a0 (.ret (0,c1,x0,(⟨⟨0,0,0⟩,0,⟨0,[],0,false,false,false⟩,⟨0,[],[],0,false⟩,0,0,⟨0,0,false,false,0,0⟩,0,0⟩:Conn),({c2 with timer:=4}:Conn),()))<|
    .ret (0,c1,x0,(⟨⟨0,0,0⟩,0,⟨0,[],0,false,false,false⟩,⟨0,[],[],0,false⟩,0,0,⟨0,0,false,false,0,0⟩,0,0⟩:Conn),c2,()))) λ(_,u14a1,u14a2,_,u14a4,_)=>
   .cal bD.c (u14a2,()) λc15=>
   .ret (u14a4,[c15],u14a1))<|
  .ite (c1==5) (.cal DX.c (x0,x1,()) λc16=>
   .ite (c16.state==8) (.ret (c16,[],c1))<|
   .cal cN.c (c16,c16.window,()) λc17=>
   .bnd (β:=Bool×Unit) (.ite ((c17.2.length:Int)==0) (.cal aU.c (x1,()) λc18=>
     .ret ((c18 != 0),()))<|
    .ret (false,())) λ(u19a0,_)=>
   .ite u19a0 (.cal bD.c (c17.1,()) λc20=>
    .ret (c17.1,[c20],c1))<|
   .ret (c17.1,c17.2,c1))<|
  .ret (c2,[],c1)
noncomputable def Gk:=bS st Ud TU [] (ks:=[.st .conn,.st .segm]) oV (λv=>[(true,fh (.o true) v.1),(false,[sc (.o true) .segm v.2.1]),(false,[.c (.int .i64 v.2.2)])]) Tryz.func198 trivial
noncomputable def aE:FT (List Half×Tupl×Unit) (Int) (λx=>wS x.1) (λx v=> -1≤v∧v<x.1.length):= .mk λ(x0,x1,_)=>
  .cal eY.c (x0,x1,()) λc1=>
  .ret c1
noncomputable def nX:=a9 st Tryz.func199 [om] (ks:=[.sc (.sl .half),.st .tupl]) aE rI
noncomputable def pf:FT (List Half×Tupl×Unit) (List Half) (λx=>sS x.1) (λx v=>sS v):= .mk λ(x0,x1,_)=>
  .cal eB.c (x0,()) λc1=>
  .cal aE.c (x0,x1,()) λc2=>
  .ite (decide (0≤c2)) (.cal um.c (c1,c2,(IntKind.wrap .i64 (c2+1)),()) λc3=>
   .ret (c3.2.take c3.1))<|
  .ret c1
noncomputable def EN:=a9 st Tryz.func200 [sC,nX,IG] (ks:=[.sc (.sl .half),.st .tupl]) pf (λv=>[(false,[sc (.o true) .half v])])
noncomputable def XT:=[UR,tP,Rz,yX,lF]
noncomputable def XU:Fx:=⟨236,Tryz.f236,[(3000002,rA 0 26),(4000000,la ⟨[],[],false,0⟩ ⟨[],[.softb 4 2],false,0⟩)],0⟩
noncomputable def I7:FT (Link×Fram×Unit) (Link×Int×Pack×aa) (λx=>fb x.1∧pt x.2.1) (λx v=>fb v.1∧iZ v.2.2.1∧sS v.2.2.2∧v.2.2.1.body.length≤1500):= .mk λ(x0,x1,_)=>
  .cal vg.c (x1.body,()) λc1=>
  .bnd (β:=Bool×Unit) (.ite (!c1.2) (.ret (true,()))<|
   .ret ((c1.1.dstIp != x0.ip),())) λ(u2a0,_)=>
  .ite u2a0 (.ret (x0,0,(⟨0,0,0,0,0,[]⟩:Pack),[]))<|
  .cal oY.c (x0.cache,c1.1.srcIp,c1.1.srcHw,()) λc3=>
  .cal vx.c (c1.1,x0.mac,x0.ip,()) λc4=>
  .ite (!c4.2) (.ret (({x0 with cache:=c3}:Link),0,(⟨0,0,0,0,0,[]⟩:Pack),[]))<|
  .cal rq.c (c4.1,()) λc5=>
  .cal fE.c ((⟨c1.1.srcHw,x0.mac,2054,c5⟩:Fram),()) λc6=>
  .ret (({x0 with cache:=c3}:Link),1,(⟨0,0,0,0,0,[]⟩:Pack),c6)
noncomputable def WS:=bS st XU XT [] (ks:=[.st .link,.st .fram]) I7 (λv=>[(true,BJ .c v.1),(false,[.c (.int .i64 v.2.1)]),(true,yc v.2.2.1),(false,[.c (.str v.2.2.2)])]) Tryz.func236 trivial
noncomputable def PU:=[cZ,Zw,gP,vt,TY,Du]
def uL:An:=⟨⟨[],[],false,0⟩,⟨[2,3,4],[],false,0⟩,⟨[],[]⟩,[(.normal,⟨[zp 2 0,(3,false,[.nil]),zp 4 1],[.box [.st .conn [.nil .piec]],zk .conn 2,zf]⟩)]⟩
def uG:An:=⟨⟨[],[],false,0⟩,⟨[1,2,3,4],[],false,0⟩,⟨[],[]⟩,[(.normal,⟨[zp 1 0,zp 2 1,(3,false,[.nil]),zp 4 2],[zg .conn,.box [.st .conn [.nil .piec]],zk .conn 3,zf]⟩)]⟩
def uV:An:=⟨⟨[],[],false,0⟩,⟨[2,3,4,6],[],false,0⟩,⟨[],[]⟩,[(.normal,⟨[zp 2 0,(3,false,[.nil]),zp 4 1,zi 6],[.box [.st .conn [.nil .piec]],zk .conn 2,zf]⟩)]⟩
noncomputable def RM:Fx:=⟨284,Tryz.f284,[(1000014,uL),(1000020,uG),(1000068,uV)],0⟩
noncomputable def wG:FT (Conn×Unit) (Conn×List Segm) (λx=>ac x.1) (λx v=>ac v.1∧sL am v.2∧v.2.length≤49):= .mk λ(x0,_)=>
  .cal ci.c (x0,()) λc1=>
  .cal nl.c (x0,()) λc2=>
  .ite (!c2) (.cal aO.c (x0,()) λc3=>
   .bnd (β:=WT uL.es) (.as (λw=>ac w.1∧ac w.2.1) (.ite c3 (.ret ((⟨⟨0,0,0⟩,0,⟨0,[],0,false,false,false⟩,⟨0,[],[],0,false⟩,0,0,⟨0,0,false,false,0,0⟩,0,0⟩:Conn),({c1 with timer:=0,tries:=0}:Conn),()))<|
    .ret ((⟨⟨0,0,0⟩,0,⟨0,[],0,false,false,false⟩,⟨0,[],[],0,false⟩,0,0,⟨0,0,false,false,0,0⟩,0,0⟩:Conn),c1,()))) λ(_,u4a1,_)=>
   .ret (u4a1,[]))<|
  .bnd (β:=WT uG.es) (.as (λw=>ac w.1∧ac w.2.1∧ac w.2.2.1) (.ite (c1.timer==0) (.ite (x0.state==7) (.ret (x0,(⟨⟨0,0,0⟩,0,⟨0,[],0,false,false,false⟩,⟨0,[],[],0,false⟩,0,0,⟨0,0,false,false,0,0⟩,0,0⟩:Conn),({c1 with timer:=4}:Conn),()))<|
    .ret (x0,(⟨⟨0,0,0⟩,0,⟨0,[],0,false,false,false⟩,⟨0,[],[],0,false⟩,0,0,⟨0,0,false,false,0,0⟩,0,0⟩:Conn),({c1 with timer:=3}:Conn),()))<|
   .ret (x0,(⟨⟨0,0,0⟩,0,⟨0,[],0,false,false,false⟩,⟨0,[],[],0,false⟩,0,0,⟨0,0,false,false,0,0⟩,0,0⟩:Conn),c1,()))) λ(u5a0,u5a1,u5a2,_)=>
  .ite (decide (0<(IntKind.wrap .i64 (u5a2.timer-1)))) (.ret (({u5a2 with timer:=(IntKind.wrap .i64 (u5a2.timer-1))}:Conn),[]))<|
  .ite (u5a0.state==7) (.ret (({u5a2 with state:=8,timer:=(IntKind.wrap .i64 (u5a2.timer-1)),tries:=0}:Conn),[]))<|
  .ite (u5a0.tries==3) (.cal bD.c (u5a0,()) λc6=>
   .ret (({u5a2 with state:=8,timer:=0,tries:=0}:Conn),[({c6 with flags:=(bits .or .i64 c6.flags 4)}:Segm)]))<|
  .cal jM.c (u5a2.s,()) λc7=>
  .bnd (β:=WT uV.es) (.as (λw=>ac w.2.1∧ac w.2.2.1) (.ite (u5a0.window==0) (.ret (1,({u5a1 with r.held:=[]}:Conn),(⟨u5a2.tuple,u5a2.state,c7,u5a2.r,u5a2.window,u5a2.most,u5a2.opts,(IntKind.wrap .i64 (u5a2.timer-1)),(IntKind.wrap .i64 (u5a2.tries+1))⟩:Conn),()))<|
   .ret (u5a0.window,({u5a1 with r.held:=[]}:Conn),(⟨u5a2.tuple,u5a2.state,c7,u5a2.r,u5a2.window,u5a2.most,u5a2.opts,(IntKind.wrap .i64 (u5a2.timer-1)),(IntKind.wrap .i64 (u5a2.tries+1))⟩:Conn),()))) λ(u8a0,_,u8a2,_)=>
  .cal cN.c (u8a2,u8a0,()) λc9=>
  .ret (({c9.1 with timer:=3}:Conn),c9.2)
noncomputable def RB:=bS st RM PU [] (ks:=[.st .conn]) wG (λv=>[(true,fh (.o true) v.1),(false,[sc (.o true) .segm v.2])]) Tryz.func284 trivial
noncomputable def mO:FT (Tabl×Conn×Limi×Unit) (Tabl×Bool) (λx=>aV x.1∧ac x.2.1) (λx v=>aV v.1∧v.1.conns.length≤max x.1.conns.length 16∧v.1.waiting.length≤max x.1.waiting.length 16∧x.1.conns.length≤v.1.conns.length):= .mk λ(x0,x1,x2,_)=>
  .cal fB.c (x0,()) λc1=>
  .cal ci.c (x1,()) λc2=>
  .grd (px c1.conns 1 208)<|
  .grd (px c1.waiting 1 24)<|
  .cal cQ.c ((⟨(c1.conns++[c2]),(c1.waiting++[x1.tuple])⟩:Tabl),x2,()) λc3=>
  .ite (!c3) (.cal fB.c (x0,()) λc4=>
   .ret (c4,false))<|
  .ret ((⟨(c1.conns++[c2]),(c1.waiting++[x1.tuple])⟩:Tabl),true)
noncomputable def VE:=a9 st Tryz.func316 [kt,cZ,Hk] (ks:=[.st .tabl,.st .conn,.st .limi]) mO (λv=>[(true,qh (.o true) (.o true) v.1),(false,[.c (.bool v.2)])])
noncomputable def Vt:=[dJ,Ge,wV,vn,Zs,Di,sW]
def qn:An:=⟨⟨[],[],false,0⟩,⟨[2,3,4,5,6,7,8,9],[],false,0⟩,⟨[],[]⟩,[(.normal,⟨[zp 2 0,zp 3 1,zp 4 2,(5,false,[.nil]),zi 6,zp 7 3,zo 8 4,zi 9],[zg .conn,zx .segm,.box [.st .conn [.nil .piec]],zk .conn 5,za .segm,zf]⟩)]⟩
noncomputable def Vm:Fx:=⟨359,Tryz.f359,[(1000046,qn),(3000014,rA 0 46),(3000022,rA 0 78)],0⟩
noncomputable def rt:FT (Conn×Segm×Unit) (Conn×List Segm×Int) (λx=>ac x.1∧am x.2.1) (λx v=>ac v.1∧sL am v.2.1):= .mk λ(x0,x1,_)=>
  .cal dF.c (x0,()) λc1=>
  .cal vf.c (x0,x1,()) λc2=>
  .ite (c2==1) (.ret (c1,[],c2))<|
  .ite (c2==2) (.ret (({c1 with state:=8,timer:=0,tries:=0}:Conn),[],c2))<|
  .ite (c2==3) (.ite (c2==3) (.bnd (β:=Bool×Unit) (.ite (c2==4) (.ite (x0.state==7) (.val (gn.f (x1,1,())) λc3=>
       .ret (c3,()))<|
      .ret (false,()))<|
     .ret (false,())) λ(u4a0,_)=>
    .bnd (β:=WT qn.es) (.as (λw=>ac w.2.2.1∧am w.2.2.2.1∧ac w.2.2.2.2.1∧ac w.2.2.2.2.2.1∧sL am w.2.2.2.2.2.2.1) (.ite u4a0 (.ret (0,c2,x0,x1,(⟨⟨0,0,0⟩,0,⟨0,[],0,false,false,false⟩,⟨0,[],[],0,false⟩,0,0,⟨0,0,false,false,0,0⟩,0,0⟩:Conn),({c1 with timer:=4}:Conn),[],()))<|
     .ret (0,c2,x0,x1,(⟨⟨0,0,0⟩,0,⟨0,[],0,false,false,false⟩,⟨0,[],[],0,false⟩,0,0,⟨0,0,false,false,0,0⟩,0,0⟩:Conn),c1,[],()))) λ(_,u5a1,u5a2,_,_,u5a5,_,_)=>
    .cal jX.c (u5a2,()) λc6=>
    .ret (u5a5,[c6],u5a1))<|
   .cal Ek.c (x0,x1,()) λc7=>
   .ite (c7.state==8) (.ret (c7,[],c2))<|
   .cal jX.c (c7,()) λc8=>
   .cal nY.c (c7,c7.window,()) λc9=>
   .bnd (β:=Bool×Unit) (.cal i2.c (x1,()) λc10=>
    .ite (decide (0<c10)) (.ret (((c9.2.length:Int)==0),()))<|
    .ret (false,())) λ(u11a0,_)=>
   .ite u11a0 (.grd (px c9.2 1 104)<|
    .ret (c9.1,(c9.2++[c8]),c2))<|
   .ret (c9.1,c9.2,c2))<|
  .ite (c2==4) (.bnd (β:=Bool×Unit) (.ite (c2==4) (.ite (x0.state==7) (.val (gn.f (x1,1,())) λc12=>
      .ret (c12,()))<|
     .ret (false,()))<|
    .ret (false,())) λ(u13a0,_)=>
   .bnd (β:=WT qn.es) (.as (λw=>ac w.2.2.1∧am w.2.2.2.1∧ac w.2.2.2.2.1∧ac w.2.2.2.2.2.1∧sL am w.2.2.2.2.2.2.1) (.ite u13a0 (.ret (0,c2,x0,x1,(⟨⟨0,0,0⟩,0,⟨0,[],0,false,false,false⟩,⟨0,[],[],0,false⟩,0,0,⟨0,0,false,false,0,0⟩,0,0⟩:Conn),({c1 with timer:=4}:Conn),[],()))<|
    .ret (0,c2,x0,x1,(⟨⟨0,0,0⟩,0,⟨0,[],0,false,false,false⟩,⟨0,[],[],0,false⟩,0,0,⟨0,0,false,false,0,0⟩,0,0⟩:Conn),c1,[],()))) λ(_,u14a1,u14a2,_,_,u14a5,_,_)=>
   .cal jX.c (u14a2,()) λc15=>
   .ret (u14a5,[c15],u14a1))<|
  .cal Ek.c (x0,x1,()) λc16=>
  .ite (c16.state==8) (.ret (c16,[],c2))<|
  .cal jX.c (c16,()) λc17=>
  .cal nY.c (c16,c16.window,()) λc18=>
  .bnd (β:=Bool×Unit) (.cal i2.c (x1,()) λc19=>
   .ite (decide (0<c19)) (.ret (((c18.2.length:Int)==0),()))<|
   .ret (false,())) λ(u20a0,_)=>
  .ite u20a0 (.grd (px c18.2 1 104)<|
   .ret (c18.1,(c18.2++[c17]),c2))<|
  .ret (c18.1,c18.2,c2)
noncomputable def zJ:=bS st Vm Vt [] (ks:=[.st .conn,.st .segm]) rt (λv=>[(true,fh (.o true) v.1),(false,[sc (.o true) .segm v.2.1]),(false,[.c (.int .i64 v.2.2)])]) Tryz.func359 trivial
noncomputable def rG:FT (Door×Tupl×Segm×Unit) (Bool) (λx=>aC x.1∧am x.2.2.1) (λ_ _=>True):= .mk λ(x0,x1,x2,_)=>
  .cal sr.c (x0,()) λc1=>
  .ite c1 (.cal k7.c (x1,()) λc2=>
   .ite c2 (.cal iU.c (x2,()) λc3=>
    .ret c3)<|
   .ret false)<|
  .ret false
noncomputable def Dd:=a9 st Tryz.func360 [wn,pW,lD] (ks:=[.st .door,.st .tupl,.st .segm]) rG rB
noncomputable def yi:FT (Door×Conn×Segm×Int×Unit) (Door×List Segm×Int) (λx=>aC x.1∧ac x.2.1∧am x.2.2.1) (λx v=>aC v.1∧sL am v.2.1):= .mk λ(x0,x1,x2,x3,_)=>
  .cal d9.c (x0,()) λc1=>
  .cal uY.c (x0.table,x1,x0.limits,()) λc2=>
  .ite (!c2.2) (.ret (c1,[],0))<|
  .cal rt.c (x1,x2,()) λc3=>
  .cal uB.c (c2.1,c3.1,()) λc4=>
  .cal sv.c (c1.halves,x1.tuple,()) λc5=>
  .ret (({c1 with halves:=c5,table.conns:=c4.conns,table.waiting:=c4.waiting}:Door),c3.2.1,x3)
noncomputable def V9:=a9 st Tryz.func364 [gq,GH,zJ,Gn,Dx] (ks:=[.st .door,.st .conn,.st .segm,.sc (.int .i64)]) yi (λv=>[(true,kC (.o true) (.o true) (.o true) (.o true) (.o true) v.1),(false,[sc (.o true) .segm v.2.1]),(false,[.c (.int .i64 v.2.2)])])
def D8:Sh:=⟨[zs 1,zl 19 .macRow,zi 20,zi 21],[]⟩
noncomputable def kT (v0:aa)(v1:List MacRow)(v3:Int)(a:Unit):Tr (Stp (Unit) ((Int))):=
 .grd (cG v1 v3)<|
 .ite ((v1.getD v3.toNat (Ty.zero .macRow)).input==v0) (.val (IntKind.wrap .i64 ((((v1.getD v3.toNat (Ty.zero .macRow)).value).tmod 16777216)+16777216)) λe2=>
  .ret (.out (e2.tmod 16777216)))<|
 .ret (.next ())
noncomputable def nQ:D8.V→tq D8 Unit (Int):=λ(v0,v1,v2,v3,_)=>⟨v3,(),λv3 _=>(v0,v1,v2,v3,()),λv3 _=>(decide (v3<v2)),kT v0 v1,up,1,(Int.toNat (v2-v3)),.inl,eR,oB .ret ⟨[zi 4],[]⟩ (λp=>(p,())) (.exit 0) ⟨[zu 4],[]⟩ (λ_=>())⟩
theorem Q3 {v0:aa}{v1:List MacRow}{v2 v3:Int}(h0:0≤v3)(h1:v2≤4611686018427387904)(h2:v2≤(v1.length:Int)):(nQ (v0,v1,v2,v3,())).U v2 (λ_ _=>True) (λ_=>True):=
 ju h0 h1 trivial
noncomputable def qC:FT (Mac×aa×Unit) (Int) (λx=>dV x.1∧sS x.2.1) (λ_ _=>True):= .mk (λ(x0,x1,_)=>
  .ite (!x0.use) (.cal pd.c (x0.k,x0.l,x1,()) λc1=>
   .ret (IntKind.wrap .i64 (c1.tmod 16777216)))<|
  .lp (nQ (x1,x0.rows,(x0.rows.length:Int),0,())).lp λw3=> .sum w3 (λp3a0=>
  .ret p3a0)<|
  λ_=>
  .ret 0) (qU @Q3)
noncomputable def aah:=eE st Tryz.func396 [(0,lb [1,19,20,21] [4])] [SK] 0 nQ (ks:=[.st .mac,.sc .str]) qC rI
noncomputable def nn:FT (Curs×Unit) (Int×Curs) (λx=>ah x.1) (λx v=>ah v.2∧0≤v.1∧v.1≤255):= .mk λ(y0,_)=>
  .val (IntKind.wrap .i64 ((IntKind.wrap .i64 (y0.h*6364136223846793005))+1442695040888963407)) λe1=>
  .val (bits .and .i64 (bits .xor .i64 (e1.fdiv 8589934592) (e1.fdiv 35184372088832)) 255) λe2=>
  .ite (decide (y0.i<(y0.b.length:Int))) (.grd (cG y0.b y0.i)<|
   .val (IntKind.wrap .i64 (e2+(IntKind.wrap .i64 (y0.b.getD y0.i.toNat 0)))) λe3=>
   .ret ((bits .and .i64 e3 255),(⟨y0.b,(IntKind.wrap .i64 (y0.i+1)),e1⟩:Curs)))<|
  .ret (e2,({y0 with h:=e1}:Curs))
noncomputable def wd:=cq st ⟨186,Tryz.f186,[],1⟩ [] [] [.wr false [.ptr 0]] [.box [.st .curs]] (λx y=>(y.1.1,())) nn (λv=>[(false,[.c (.int .i64 v.1)])]) (λx y v=>((v.2,()),())) Tryz.func186 (by kernel_rfl) trivial
noncomputable def E7:FT (MacRow×MacRow×Unit) (Bool) (λ_=>True) (λ_ _=>True):= .mk λ(x0,y1,_)=>
  .ret (x0.input==y1.input)
noncomputable def VG:=cq st ⟨275,Tryz.f275,[],1⟩ [] [] [.st .macRow,.wr false [.ptr 0]] [.box [.st .macRow]] (λx y=>(x.1,y.1.1,())) E7 rB (λx y v=>((y.1.1,()),())) Tryz.func275 (by kernel_rfl) trivial
noncomputable def ig:=[VG]
def cz:Sh:=⟨[zl 0 .macRow,(1,false,[.fn 275 [0]]),zi 7,zi 8],[zx .macRow]⟩
noncomputable def iG:Fx:=⟨382,Tryz.f382,[(0,la ⟨[0,1,7,8],[],false,1⟩ ⟨[4],[],false,1⟩)],1⟩
noncomputable def ge (v0:List MacRow)(v3:MacRow)(v2:Int)(a:Unit):Tr (Stp (Unit) ((Int))):=
 .grd (cG v0 v2)<|
 .cal E7.c ((v0.getD v2.toNat (Ty.zero .macRow)),v3,()) λc1=>
 .ite c1 (.ret (.out v2))<|
 .ret (.next ())
noncomputable def bz:cz.V→tq cz Unit (Int):=λ(v0,v1,v2,v3,_)=>⟨v2,(),λv2 _=>(v0,v1,v2,v3,()),λv2 _=>(decide (v2<v1)),ge v0 v3,up,1,(Int.toNat (v1-v2)),.inl,eR,oB .ret ⟨[zi 4],[zx .macRow]⟩ (λp=>(p,v3,())) (.exit 0) ⟨[zu 4],[zx .macRow]⟩ (λ_=>(v3,()))⟩
theorem mW:LS Tryz.prog iG [0] (gc 0 cz bz):=dd st (aL ig) _ bz [] trivial
theorem mQ {v0:List MacRow}{v1 v2:Int}{v3:MacRow}(h0:0≤v2)(h1:v1≤4611686018427387904)(h2:v1≤(v0.length:Int)):(bz (v0,v1,v2,v3,())).U v1 (λ_ _=>True) (λp=>v2≤p∧p<v1):=
 ju h0 h1 trivial
noncomputable def fu:FT (List MacRow×MacRow×Unit) (Int) (λx=>wS x.1) (λx v=> -1≤v∧v<x.1.length):= .mk (λ(x0,y1_0,_)=>
  .lp (bz (x0,(x0.length:Int),0,y1_0,())).lp λw2=> .sum w2 (λp2a0=>
  .ret p2a0)<|
  λ_=>
  .ret (-1)) (qU @mQ)
noncomputable def oA:=cq st iG ig [(gc 0 cz bz)] [.sc (.sl .macRow),.fn 275 [0]] [.box [.st .macRow]] (λx y=>(x.1,y.1.1,())) fu rI (λx y v=>((y.1.1,()),())) Tryz.func382 (by kernel_rfl) ⟨mW,trivial⟩
noncomputable def aj:FT (Curs×Int×Unit) (Int×Curs) (λx=>ah x.1) (λx v=>ah v.2∧0≤v.1∧(0<x.2.1→v.1<x.2.1)):=⟨λ(y0,x1,_)=>
  .ite (decide (x1≤0)) (.ret (0,y0))<|
  .ite (decide (x1≤256)) (.cal nn.c (y0,()) λc1=>
   .grd (x1 != 0)<|
   .ret ((c1.1.tmod x1),c1.2))<|
  .cal nn.c (y0,()) λc2=>
  .cal nn.c (c2.2,()) λc3=>
  .cal nn.c (c3.2,()) λc4=>
  .cal nn.c (c4.2,()) λc5=>
  .val (IntKind.wrap .i64 ((IntKind.wrap .i64 (c2.1*16777216))+(IntKind.wrap .i64 (c3.1*65536)))) λe6=>
  .val (IntKind.wrap .i64 ((IntKind.wrap .i64 (e6+(IntKind.wrap .i64 (c4.1*256))))+c5.1)) λe7=>
  .grd (x1 != 0)<|
  .ret ((e7.tmod x1),c5.2),
 λ(y0,x1,_) hp=>by
  refine Tr.I (λb0=>Tr.R ?_) λb0=>Tr.I (λb1=>Tr.C ?_ λc1 hc1 qc1=>Tr.G ?_ λg2=>Tr.R ?_) λb1=>Tr.C ?_ λc2 hc2 qc2=>Tr.C ?_ λc3 hc3 qc3=>Tr.C ?_ λc4 hc4 qc4=>Tr.C ?_ λc5 hc5 qc5=>Tr.V λe6 he6=>Tr.V λe7 he7=>Tr.G ?_ λg2=>Tr.R ?_
  all_goals ((first|grind|(refine⟨by grind,I5 ?_,λh=>ED h⟩;first|grind|(subst_vars;simp only[di];omega))))⟩
noncomputable def ax:=cq st ⟨80,Tryz.f80,[],1⟩ [wd] [] [.wr false [.ptr 0],.sc (.int .i64)] [.box [.st .curs]] (λx y=>(y.1.1,x.2.1,())) aj (λv=>[(false,[.c (.int .i64 v.1)])]) (λx y v=>((v.2,()),())) Tryz.func80 (by kernel_rfl) trivial
def xE:Sh:=⟨[zo 5 0,zl 13 .str,zi 14,zi 15],[za .issu]⟩
noncomputable def xB (v0:List aa)(v2:Int)(a:List Issu):Tr (Stp (List Issu) (Empty)):=
 .grd (cG v0 v2)<|
 .cal ib.c ((v0.getD v2.toNat []),()) λc1=>
 .bnd (β:=Bool×Unit) (.ite c1.2.2 (.val (bp.f (c1.2.1,18,())) λc2=>
   .ret (c2,()))<|
  .ret (false,())) λ(u3a0,_)=>
 .ite u3a0 (.val (bK.f (c1.2.1.ack,(-1),())) λc4=>
  .grd (px a 1 40)<|
  .ret (.next (a++[(⟨⟨c1.1.dst,c1.2.1.to,c1.2.1.from_⟩,c4,c1.2.1.seq⟩:Issu)])))<|
 .ret (.next a)
noncomputable def jz:xE.V→qf xE (List Issu):=λ(v0,v1,v2,v3,_)=>⟨v2,v3,λv2 a=>(v0,v1,v2,a,()),λv2 _=>(decide (v2<v1)),xB v0,up,1,(Int.toNat (v1-v2)),Empty.elim,Prod.mk,oN (.exit 0) ⟨[zu 4,zo 5 0],[za .issu]⟩ (λx=>(x.2,()))⟩
theorem Hx {v0:List aa}{v1 v2:Int}{v3:List Issu}(h0:0≤v2)(h1:v1≤4611686018427387904)(h2:sL sS v0)(h3:v1≤4294967296)(h4:v1≤(v0.length:Int))(h5:(v3.length:Int)≤v2):(jz (v0,v1,v2,v3,())).U v1 (λv2 a=>(a.length:Int)≤v2) (λ_=>True):=
 ju (a:=v3) h0 h1 h5
noncomputable def mn:FT (Stac×Resu×Unit) (List Issu) (λx=>az x.1∧gY x.2.1) (λx v=>sS v):=⟨λ(x0,x1,_)=>
  .lp (jz (x1.frames,(x1.frames.length:Int),0,[],())).lp λ(_,a5_0)=>
  .ret a5_0,
 λ(x0,x1,_) hp=>by
  refine Tr.L (Hx ?_ ?_ ?_ ?_ ?_ ?_) (λa5_0 _=>Tr.R ?_) (λp=>Empty.elim p)
  all_goals ((try simp only[jz,LC.lp,LC.ct,Ct.lp]at*)<;>grind)⟩
noncomputable def CT:=eE st Tryz.func15 [(0,lb [5,13,14,15] [4,5]),(3000006,rA 0 29)] [Ja,vW,fo] 0 jz (ks:=[.st .stac,.st .resu]) mn (λv=>[(false,[sc (.o true) .issu v])])
noncomputable def o7:FT (Stac×Unit) (Bool) (λx=>az x.1) (λx v=>(v=true→x.1.door.table.conns.length≤16)):= .mk λ(x0,_)=>
  .cal uP.c (x0.link,()) λc1=>
  .ite c1 (.cal sr.c (x0.door,()) λc2=>
   .ret c2)<|
  .ret false
noncomputable def yA:=a9 st Tryz.func20 [Cl,wn] (ks:=[.st .stac]) o7 rB
noncomputable def sO:FT (Acti×Resu×Unit) (Issu×Bool) (λx=>ba x.1∧gY x.2.1) (λ_ _=>True):= .mk λ(x0,x1,_)=>
  .ite (x1.made != 2) (.ret ((⟨⟨0,0,0⟩,0,0⟩:Issu),false))<|
  .cal ib.c (x0.text,()) λc1=>
  .ite (!c1.2.2) (.ret ((⟨⟨0,0,0⟩,0,0⟩:Issu),false))<|
  .val (uD.f (c1.1.src,c1.2.1,())) λc2=>
  .val (bK.f (c1.2.1.seq,(-1),())) λc3=>
  .val (bK.f (c1.2.1.ack,(-1),())) λc4=>
  .ret ((⟨c2,c3,c4⟩:Issu),true)
noncomputable def EM:=a9 st Tryz.func42 [Ja,Gl,fo] (ks:=[.st .acti,.st .resu]) sO (λv=>[(true,Wn v.1),(false,[.c (.bool v.2)])])
def xq:Sh:=⟨[zp 3 0,zo 5 1,zi 6],[zg .resu,za .issu]⟩
noncomputable def xF (v1:Resu)(v0:Int)(a:List Issu):Tr (Stp (List Issu) (Empty)):=
 .grd (cG v1.frames v0)<|
 .cal fH.c ((v1.frames.getD v0.toNat []),()) λc1=>
 .bnd (β:=Bool×Unit) (.ite c1.2.2 (.val (gn.f (c1.2.1,18,())) λc2=>
   .ret (c2,()))<|
  .ret (false,())) λ(u3a0,_)=>
 .ite u3a0 (.val (bJ.f (c1.2.1.ack,(-1),())) λc4=>
  .grd (px a 1 40)<|
  .ret (.next (a++[(⟨⟨c1.1.dst,c1.2.1.to,c1.2.1.from_⟩,c4,c1.2.1.seq⟩:Issu)])))<|
 .ret (.next a)
noncomputable def jx:xq.V→qf xq (List Issu):=λ(v0,v1,v2,_)=>⟨v0,v2,λv0 a=>(v0,v1,a,()),λv0 _=>(decide (v0<(v1.frames.length:Int))),xF v1,up,1,(Int.toNat ((v1.frames.length:Int)-v0)),Empty.elim,Prod.mk,oN (.exit 0) ⟨[zu 4,zo 5 0],[za .issu]⟩ (λx=>(x.2,()))⟩
theorem Ie {v0:Int}{v1:Resu}{v2:List Issu}(h0:0≤v0)(h1:(v1.frames.length:Int)≤4611686018427387904)(h2:gY v1)(h3:(v2.length:Int)≤v0):(jx (v0,v1,v2,())).U (v1.frames.length:Int) (λv0 a=>(a.length:Int)≤v0) (λ_=>True):=
 ju (a:=v2) h0 h1 h3
noncomputable def sP:FT (Stac×Resu×Unit) (List Issu) (λx=>az x.1∧gY x.2.1) (λx v=>sS v):=⟨λ(x0,x1,_)=>
  .lp (jx (0,x1,[],())).lp λ(_,a5_0)=>
  .ret a5_0,
 λ(x0,x1,_) hp=>by
  refine Tr.L (Ie ?_ ?_ ?_ ?_) (λa5_0 _=>Tr.R ?_) (λp=>Empty.elim p)
  all_goals ((try simp only[jx,LC.lp,LC.ct,Ct.lp]at*)<;>grind)⟩
noncomputable def RR:=eE st Tryz.func43 [(0,lb [3,5,6] [4,5]),(3000006,rA 0 32)] [Hd,wV,dh] 0 jx (ks:=[.st .stac,.st .resu]) sP (λv=>[(false,[sc (.o true) .issu v])])
noncomputable def sD:FT (Mac×Tupl×Int×Int×Int×Unit) (Int) (λx=>dV x.1) (λ_ _=>True):= .mk λ(x0,x1,x2,x3,x4,_)=>
  .cal xa.c (x1,x2,x3,x4,()) λc1=>
  .ite (c1==[]) (.ret (-1))<|
  .val (IntKind.wrap .i64 ((IntKind.wrap .i64 ((x3.tmod 32)*134217728))+(IntKind.wrap .i64 (x4*16777216)))) λe2=>
  .cal IY.c (x0,c1,()) λc3=>
  .ret (IntKind.wrap .i64 (e2+c3))
noncomputable def Dp:=a9 st Tryz.func47 [R1,aat] (ks:=[.st .mac,.st .tupl,.sc (.int .i64),.sc (.int .i64),.sc (.int .i64)]) sD rI
def vd:Sh:=⟨[zp 1 0,zp 2 1,zp 4 2,zo 5 3,zi 6],[.box [.st .stac [.sl .arg,.sl .arg,.sl .arg,.sl .arg,.sl .arg,.sl .arg]],.box [.st .stac [.nil .entr,.nil .macRow,.nil .macRow,.nil .half,.nil .conn,.nil .tupl]],.box [.st .stac [.own 4,.own 5,.own 6,.own 7,.own 8,.own 9]],za .str,zf,zf,zf,zf,zf,zf]⟩
noncomputable def ou (v1:Stac)(v0:Int)(a:Stac×List aa):Tr (Stp (Stac×List aa) (Empty)):=
 .grd (cG v1.door.table.conns v0)<|
 .cal oq.c ((v1.door.table.conns.getD v0.toNat (Ty.zero .conn)),()) λc3=>
 .cal rm.c (v1,(v1.door.table.conns.getD v0.toNat (Ty.zero .conn)).tuple.ip,c3.2,()) λc4=>
 .grd (Nat.ble ((2*(a.2.length+c4.length)+1024)*16) bc)<|
 .ret (.next (({a.1 with link.cache:=[],door.keys.now.rows:=[],door.keys.before.rows:=[],door.halves:=[],door.table.conns:=[],door.table.waiting:=[]}:Stac),(a.2++c4)))
noncomputable def iL:vd.V→qf vd (Stac×List aa):=λ(v0,v1,v2,v3,v4,_)=>⟨v0,(v2,v4),λv0 a=>(v0,v1,a.1,v3,a.2,()),λv0 _=>(decide (v0<(v1.door.table.conns.length:Int))),ou v1,up,1,(Int.toNat ((v1.door.table.conns.length:Int)-v0)),Empty.elim,Prod.mk,oN (.exit 0) ⟨[zp 1 0,zp 2 1,zu 3,zp 4 2,zo 5 3],[.box [.st .stac [.sl .arg,.sl .arg,.sl .arg,.sl .arg,.sl .arg,.sl .arg]],.box [.st .stac [.nil .entr,.nil .macRow,.nil .macRow,.nil .half,.nil .conn,.nil .tupl]],.box [.st .stac [.own 4,.own 5,.own 6,.own 7,.own 8,.own 9]],za .str,zf,zf,zf,zf,zf,zf]⟩ (λx=>(v1,({x.2.1 with link.cache:=[],door.keys.now.rows:=[],door.keys.before.rows:=[],door.halves:=[],door.table.conns:=[],door.table.waiting:=[]}:Stac),v3,x.2.2,()))⟩
theorem FR {v0:Int}{v1 v2 v3:Stac}{v4:List aa}(h0:0≤v0)(h1:(v1.door.table.conns.length:Int)≤4611686018427387904)(h2:v1.door.table.conns.length≤16)(h3:az v1)(h4:az v2∧sL sS v4∧(v4.length:Int)≤49*v0):(iL (v0,v1,v2,v3,v4,())).U (v1.door.table.conns.length:Int) (λv0 a=>az a.1∧sL sS a.2∧(a.2.length:Int)≤49*v0) (λ_=>True):=
 ju (a:=(v2,v4)) h0 h1 h4
noncomputable def tA:FT (Stac×Unit) (Stac×List aa) (λx=>az x.1) (λx v=>az v.1∧sL sS v.2):=⟨λ(x0,_)=>
  .cal rk.c (x0,()) λc1=>
  .cal o7.c (x0,()) λc2=>
  .ite (!c2) (.ret (c1,[]))<|
  .lp (iL (0,x0,(⟨⟨0,0,[]⟩,⟨0,0,⟨0,⟨false,0,0,[]⟩,⟨false,0,0,[]⟩,false⟩,⟨0,0,0,0⟩,[],⟨[],[]⟩,0⟩⟩:Stac),c1,[],())).lp λ(_,_,a5_1)=>
  .cal wq.c (x0.door,()) λc6=>
  .cal KW.c (x0.link.cache,()) λc7=>
  .ret ((⟨⟨c1.link.mac,c1.link.ip,c7⟩,c6.1⟩:Stac),a5_1),
 λ(x0,_) hp=>by
  refine Tr.C ?_ λ_ _ _=>Tr.C ?_ λ_ _ _=>Tr.I (λ_=>Tr.R ?_) λ_=>Tr.L (FR ?_ ?_ ?_ ?_ ?_) (λ(a5_0,a5_1) _=>Tr.C ?_ λ_ _ _=>Tr.C ?_ λ_ _ _=>Tr.R ?_) (λp=>Empty.elim p)
  all_goals ((try simp only[iL,LC.lp,LC.ct,Ct.lp]at*)<;>grind)⟩
noncomputable def NG:=eE st Tryz.func52 [(0,lb [1,2,4,5,6] [1,2,3,4,5])] [yd,yA,vY,zh,QH,UE] 0 iL (ks:=[.st .stac]) tA (λv=>[(true,nz (.o true) (.o true) (.o true) (.o true) (.o true) (.o true) v.1),(false,[sc (.o true) .str v.2])])
noncomputable def VV:=[fA,wj,OV,UZ,Dy,Sv,ZJ]
noncomputable def Sx:Fx:=⟨56,Tryz.f56,[(3000002,rA 0 34),(4000000,la ⟨[],[],false,0⟩ ⟨[],[.softb 4 20,.softb 4 21],false,0⟩)],0⟩
noncomputable def z0:FT (Stac×Acti×Unit) (Stac×Resu) (λx=>az x.1∧ba x.2.1) (λx v=>az v.1∧gY v.2):= .mk λ(x0,x1,_)=>
  .cal dT.c (x0.door.table,x1.tuple,()) λc1=>
  .bnd (β:=Bool×Unit) (.ite (decide (c1<0)) (.ret (true,()))<|
   .cal oZ.c (x0.door.table.waiting,x1.tuple,()) λc2=>
   .ret (c2,())) λ(u3a0,_)=>
  .ite u3a0 (.ret (x0,(⟨[],0,⟨0,0,0⟩,0,[],false⟩:Resu)))<|
  .grd (cG x0.door.table.conns c1)<|
  .ite (x1.kind==5) (.cal CW.c ((x0.door.table.conns.getD c1.toNat (Ty.zero .conn)),x1.text,()) λc4=>
   .cal pe.c (x0,c4.1,c4.2.2,(⟨[],0,⟨0,0,0⟩,c4.2.1,[],false⟩:Resu),()) λc5=>
   .ret (c5.1,c5.2))<|
  .ite (x1.kind==6) (.cal rL.c ((x0.door.table.conns.getD c1.toNat (Ty.zero .conn)),x1.n,()) λc6=>
   .cal pe.c (x0,c6.1,c6.2.2,(⟨[],0,⟨0,0,0⟩,0,c6.2.1,false⟩:Resu),()) λc7=>
   .ret (c7.1,c7.2))<|
  .ite (x1.kind==7) (.cal Ki.c ((x0.door.table.conns.getD c1.toNat (Ty.zero .conn)),()) λc8=>
   .cal pe.c (x0,c8.1,c8.2,(⟨[],0,⟨0,0,0⟩,0,[],false⟩:Resu),()) λc9=>
   .ret (c9.1,c9.2))<|
  .cal IV.c ((x0.door.table.conns.getD c1.toNat (Ty.zero .conn)),()) λc10=>
  .cal pe.c (x0,c10.1,c10.2,(⟨[],0,⟨0,0,0⟩,0,[],false⟩:Resu),()) λc11=>
  .ret (c11.1,c11.2)
noncomputable def TD:=bS st Sx VV [] (ks:=[.st .stac,.st .acti]) z0 (λv=>[(true,nz .c .c .c .c .c .c v.1),(true,Rj (.o true) v.2)]) Tryz.func56 trivial
noncomputable def wA:FT (Conn×Acti×Unit) (Conn×Int×aa×List Segm) (λx=>ac x.1∧ba x.2.1) (λx v=>ac v.1∧sS v.2.2.1∧sL am v.2.2.2):= .mk λ(x0,x1,_)=>
  .ite (x1.kind==5) (.cal IM.c (x0,x1.text,()) λc1=>
   .ret (c1.1,c1.2.1,[],c1.2.2))<|
  .ite (x1.kind==6) (.cal vu.c (x0,x1.n,()) λc2=>
   .ret (c2.1,0,c2.2.1,c2.2.2))<|
  .ite (x1.kind==7) (.cal Ru.c (x0,()) λc3=>
   .ret (c3.1,0,[],c3.2))<|
  .cal IW.c (x0,()) λc4=>
  .ret (c4.1,0,[],c4.2)
noncomputable def QV:=a9 st Tryz.func75 [Z0,QP,abk,ZU] (ks:=[.st .conn,.st .acti]) wA (λv=>[(true,fh (.o true) v.1),(false,[.c (.int .i64 v.2.1)]),(false,[.c (.str v.2.2.1)]),(false,[sc (.o true) .segm v.2.2.2])])
noncomputable def Xv:=[Gs,Bb,Cl,Z7,WS,zm,tP]
noncomputable def Xl:Fx:=⟨129,Tryz.f129,[(3000003,rA 0 33),(3000010,rA 0 77),(4000000,la ⟨[],[],false,0⟩ ⟨[],[.softb 4 2],false,0⟩)],0⟩
noncomputable def DL:FT (Link×aa×Unit) (Link×Int×Pack×aa) (λx=>fb x.1∧sS x.2.1) (λx v=>fb v.1∧iZ v.2.2.1∧sS v.2.2.2∧v.2.2.1.body.length≤1500):= .mk λ(x0,x1,_)=>
  .cal rl.c (x0,()) λc1=>
  .cal mL.c (x1,()) λc2=>
  .bnd (β:=Bool×Unit) (.cal uP.c (x0,()) λc3=>
   .ite (!c3) (.ret (true,()))<|
   .ite (!c2.2) (.ret (true,()))<|
   .val (IK.f (c2.1,x0.mac,())) λc4=>
   .ret ((!c4),())) λ(u5a0,_)=>
  .ite u5a0 (.ret (c1,0,(⟨0,0,0,0,0,[]⟩:Pack),[]))<|
  .ite (c2.1.type==2054) (.cal I7.c (c1,c2.1,()) λc6=>
   .ret (c6.1,c6.2.1,c6.2.2.1,c6.2.2.2))<|
  .ite (c2.1.type != 2048) (.ret (c1,0,(⟨0,0,0,0,0,[]⟩:Pack),[]))<|
  .cal kY.c (c2.1.body,()) λc7=>
  .bnd (β:=Bool×Unit) (.ite (c7.2 != 0) (.ret (true,()))<|
   .ite (c7.1.dst != x0.ip) (.ret (true,()))<|
   .ite (c7.1.proto != 6) (.ret (true,()))<|
   .ret ((c7.1.src==x0.ip),())) λ(u8a0,_)=>
  .ite u8a0 (.ret (c1,0,(⟨0,0,0,0,0,[]⟩:Pack),[]))<|
  .cal oY.c (c1.cache,c7.1.src,c2.1.src,()) λc9=>
  .ret (({c1 with cache:=c9}:Link),2,c7.1,[])
noncomputable def Xh:=bS st Xl Xv [] (ks:=[.st .link,.sc .str]) DL (λv=>[(true,BJ .c v.1),(false,[.c (.int .i64 v.2.1)]),(true,yc v.2.2.1),(false,[.c (.str v.2.2.2)])]) Tryz.func129 trivial
def xT:Sh:=⟨[zl 0 .half,zl 8 .half,zi 9,zi 10],[]⟩
noncomputable def qs (v0 v1:List Half)(v3:Int)(a:Unit):Tr (Stp (Unit) ((Unit))):=
 .grd (cG v1 v3)<|
 .cal aG.c ((v1.getD v3.toNat (Ty.zero .half)).tuple,()) λc1=>
 .ite (!c1) (.ret (.out ()))<|
 .cal ae.c ((v1.getD v3.toNat (Ty.zero .half)).iss,32,()) λc2=>
 .ite (!c2) (.ret (.out ()))<|
 .cal ae.c ((v1.getD v3.toNat (Ty.zero .half)).irs,32,()) λc3=>
 .ite (!c3) (.ret (.out ()))<|
 .cal ae.c ((v1.getD v3.toNat (Ty.zero .half)).window,16,()) λc4=>
 .ite (!c4) (.ret (.out ()))<|
 .cal aM.c ((v1.getD v3.toNat (Ty.zero .half)).opts,()) λc5=>
 .ite (!c5) (.ret (.out ()))<|
 .val (bk.f ((v1.getD v3.toNat (Ty.zero .half)).age,0,6,())) λc6=>
 .ite (!c6) (.ret (.out ()))<|
 .cal aE.c (v0,(v1.getD v3.toNat (Ty.zero .half)).tuple,()) λc7=>
 .ite (c7 != v3) (.ret (.out ()))<|
 .ret (.next ())
noncomputable def lY:xT.V→tq xT Unit (Unit):=λ(v0,v1,v2,v3,_)=>⟨v3,(),λv3 _=>(v0,v1,v2,v3,()),λv3 _=>(decide (v3<v2)),qs v0 v1,up,1,(Int.toNat (v2-v3)),.inl,eR,oB .ret ⟨[zb 2],[]⟩ (λ_=>(false,())) (.exit 0) ⟨[zu 2],[]⟩ (λ_=>())⟩
theorem HS {v0 v1:List Half}{v2 v3:Int}(h0:0≤v3)(h1:v2≤4611686018427387904)(h2:wS v0)(h3:v2≤(v1.length:Int)):(lY (v0,v1,v2,v3,())).U v2 (λ_ _=>True) (λ_=>True):=
 ju h0 h1 trivial
noncomputable def fk:FT (List Half×Unit) (Bool) (λx=>wS x.1) (λx v=>(v=true→x.1.length≤64)):= .mk (λ(x0,_)=>
  .ite (decide (64<(x0.length:Int))) (.ret false)<|
  .lp (lY (x0,x0,(x0.length:Int),0,())).lp λw8=> .sum w8 (λ_=>
  .ret false)<|
  λ_=>
  .ret true) (qU @HS)
noncomputable def CP:=eE st Tryz.func158 [(0,lb [0,8,9,10] [2])] [mM,ca,lu,bI,nX] 0 lY (ks:=[.sc (.sl .half)]) fk rB
noncomputable def z7:FT (Door×Int×Segm×Unit) (Door×List Segm×Int) (λx=>aC x.1∧am x.2.2.1∧0≤x.2.1∧x.2.1<x.1.table.conns.length) (λx v=>aC v.1∧sL am v.2.1):= .mk λ(x0,x1,x2,_)=>
  .cal d9.c (x0,()) λc1=>
  .grd (cG x0.table.conns x1)<|
  .cal rt.c ((x0.table.conns.getD x1.toNat (Ty.zero .conn)),x2,()) λc2=>
  .grd (cG c1.table.conns x1)<|
  .ite (c2.2.2==3) (.ite (x0.chal==x0.limits.chal) (.ret (({c1 with table.conns:=(c1.table.conns.set x1.toNat c2.1)}:Door),[],0))<|
   .ret (({c1 with table.conns:=(c1.table.conns.set x1.toNat c2.1),chal:=(IntKind.wrap .i64 (x0.chal+1))}:Door),c2.2.1,0))<|
  .ret (({c1 with table.conns:=(c1.table.conns.set x1.toNat c2.1)}:Door),c2.2.1,0)
noncomputable def Vr:=a9 st Tryz.func243 [gq,zJ] (ks:=[.st .door,.sc (.int .i64),.st .segm]) z7 (λv=>[(true,kC (.o true) (.o true) (.o true) (.o true) (.o true) v.1),(false,[sc (.o true) .segm v.2.1]),(false,[.c (.int .i64 v.2.2)])])
noncomputable def kw:FT (Mac×Tupl×Int×Int×Int×Unit) (Int) (λx=>dV x.1) (λ_ _=>True):= .mk λ(x0,x1,x2,x3,x4,_)=>
  .cal fN.c (x1,x2,x3,x4,()) λc1=>
  .ite (c1==[]) (.ret (-1))<|
  .val (IntKind.wrap .i64 ((IntKind.wrap .i64 ((x3.tmod 32)*134217728))+(IntKind.wrap .i64 (x4*16777216)))) λe2=>
  .cal qC.c (x0,c1,()) λc3=>
  .ret (IntKind.wrap .i64 (e2+c3))
noncomputable def El:=a9 st Tryz.func304 [Qd,aah] (ks:=[.st .mac,.st .tupl,.sc (.int .i64),.sc (.int .i64),.sc (.int .i64)]) kw rI
noncomputable def T7:=[sC,CP]
noncomputable def Uz:Fx:=⟨312,Tryz.f312,[(3000002,rA 0 22)],0⟩
noncomputable def oJ:FT (List Half×Half×Int×Unit) (List Half×Bool) (λx=>sS x.1) (λx v=>sS v.1):= .mk λ(x0,x1,x2,_)=>
  .cal eB.c (x0,()) λc1=>
  .grd (px c1 1 96)<|
  .bnd (β:=Bool×Unit) (.as (λw=>(w.1=false→(c1++[x1]).length≤64)) (.ite (decide (x2≤(x0.length:Int))) (.ret (true,()))<|
   .cal fk.c ((c1++[x1]),()) λc2=>
   .ret ((!c2),()))) λ(u3a0,_)=>
  .ite u3a0 (.cal eB.c (x0,()) λc4=>
   .ret (c4,false))<|
  .ret ((c1++[x1]),true)
noncomputable def Vh:=bS st Uz T7 [] (ks:=[.sc (.sl .half),.st .half,.sc (.int .i64)]) oJ (λv=>[(false,[sc (.o true) .half v.1]),(false,[.c (.bool v.2)])]) Tryz.func312 trivial
noncomputable def o8:FT (Door×Tupl×Segm×Unit) (Int) (λx=>aC x.1∧am x.2.2.1) (λ_ _=>True):= .mk λ(x0,x1,x2,_)=>
  .val (z5.f (x2.opts,())) λc1=>
  .cal jr.c (c1,()) λc2=>
  .cal kw.c (x0.keys.now,x1,x2.seq,x0.keys.epoch,c2,()) λc3=>
  .ret (if 0<c3 then c3 else 0)
noncomputable def RS:=a9 st Tryz.func405 [Tc,Q5,El] (ks:=[.st .door,.st .tupl,.st .segm]) o8 rI
noncomputable def R5:=[RX,Dp,mw]
def FC:An:=⟨⟨[],[],false,0⟩,⟨[3,4,5,6,7],[],false,0⟩,⟨[],[]⟩,[(.normal,⟨[zp 3 0,zp 4 1,zp 5 2,zi 6,zi 7],[.box [.st .door [.sl .arg,.sl .arg,.sl .arg,.sl .arg,.sl .arg]],zx .tupl,zx .segm]⟩)]⟩
noncomputable def Q2:Fx:=⟨435,Tryz.f435,[(1000012,FC)],0⟩
noncomputable def vO:FT (Door×Tupl×Segm×Unit) (Int) (λx=>aC x.1∧am x.2.2.1) (λ_ _=>True):= .mk λ(x0,x1,x2,_)=>
  .bnd (β:=Int×Int×Door×Tupl×Segm×Unit) (.as (λw=>aC w.2.2.1∧am w.2.2.2.2.1) (.ite (x2.opts.mss==0) (.ret (0,536,x0,x1,x2,()))<|
   .ret (0,x2.opts.mss,x0,x1,x2,()))) λ(_,u1a1,u1a2,u1a3,u1a4,_)=>
  .cal wh.c (u1a1,()) λc2=>
  .cal sD.c (u1a2.keys.now,u1a3,u1a4.seq,u1a2.keys.epoch,c2,()) λc3=>
  .val (fD.f (0,c3,())) λc4=>
  .ret c4
noncomputable def Qm:=bS st Q2 R5 [] (ks:=[.st .door,.st .tupl,.st .segm]) vO rI Tryz.func435 trivial
noncomputable def aD:FT (Curs×List Int×Unit) (Int×Curs) (λx=>ah x.1∧sS x.2.1∧0<x.2.1.length) (λx v=>ah v.2∧(dg (λn:Int=>0≤n∧n≤1048576) x.2.1→0≤v.1∧v.1≤1048576)∧(dg (λn:Int=>0≤n∧n≤19) x.2.1→0≤v.1∧v.1≤19)):=⟨λ(y0,x1,_)=>
  .cal aj.c (y0,(x1.length:Int),()) λc1=>
  .grd (cG x1 c1.1)<|
  .ret ((x1.getD c1.1.toNat 0),c1.2),
 λ(y0,x1,_) hp=>by
  refine Tr.C ?_ λc1 hc1 qc1=>Tr.G2 ?_ λg0=>Tr.R ?_
  all_goals ((first|grind|(refine⟨by grind,λhn=> ?_,λhn=> ?_⟩;exact cX (p:=λn:Int=>0≤n∧n≤1048576) hn (by omega) _;exact cX (p:=λn:Int=>0≤n∧n≤19) hn (by omega) _)))⟩
noncomputable def aJ:=cq st ⟨182,Tryz.f182,[],1⟩ [ax] [] [.wr false [.ptr 0],.sc (.sl .i64)] [.box [.st .curs]] (λx y=>(y.1.1,x.2.1,())) aD (λv=>[(false,[.c (.int .i64 v.1)])]) (λx y v=>((v.2,()),())) Tryz.func182 (by kernel_rfl) trivial
noncomputable def cT:FT (List MacRow×MacRow×Unit) (Bool) (λx=>sL bm x.1∧bm x.2.1) (λ_ _=>True):= .mk λ(x0,y1_0,_)=>
  .cal fu.c (x0,y1_0,()) λc1=>
  .ret (decide (0≤c1))
noncomputable def mR:=cq st ⟨274,Tryz.f274,[],1⟩ [oA] [] [.sc (.sl .macRow),.fn 275 [0]] [.box [.st .macRow]] (λx y=>(x.1,y.1.1,())) cT rB (λx y v=>((y.1.1,()),())) Tryz.func274 (by kernel_rfl) trivial
def sx:Sh:=⟨[zi 2,zi 3,zp 4 0,zp 5 1,zi 12,zi 14],[.box [.st .keys [.sl .arg,.sl .arg]],zx .tupl]⟩
noncomputable def mg (v0 v1 v2:Int)(v4:Keys)(v5:Tupl)(v3:Int)(a:Unit):Tr (Stp (Unit) ((Int)⊕(Unit))):=
 .ite (decide ((IntKind.wrap .i64 (v4.epoch-1))≤v3)) (.cal wv.c (v4,v3,()) λc4=>
  .bnd (β:=Bool×Unit) (.ite c4.2 (.cal sD.c (c4.1,v5,v0,v3,v2,()) λc5=>
    .ret ((c5==v1),()))<|
   .ret (false,())) λ(u6a0,_)=>
  .ite u6a0 (.ret (.out (.inl v3)))<|
  .ret (.next ()))<|
 .ret (.out (.inr (())))
noncomputable def jf:sx.V→tq sx Unit ((Int)⊕(Unit)):=λ(v0,v1,v2,v3,v4,v5,_)=>⟨v3,(),λv3 _=>(v0,v1,v2,v3,v4,v5,()),λv3 _=>(decide (0≤v3)),mg v0 v1 v2 v4 v5,dn,(-1),(Int.toNat (v3-0+1)),.inl,eR,λ_ k w=>Sum.elim (oB .ret ⟨[zi 8,zi 9,zb 10],[]⟩ (λp=>(p,v2,true,())) (.exit 0) ⟨[zu 8,zu 9,zu 10],[]⟩ (λ_=>()) _ k) (λ_=>k (.exit 0) (Sh.enc ⟨[zu 8,zu 9,zu 10],[]⟩ ())) w⟩
theorem BZ {v0 v1 v2 v3:Int}{v4:Keys}{v5:Tupl}(h0:v3≤9223372036854775807)(h1:cU v4):(jf (v0,v1,v2,v3,v4,v5,())).D 0 (λ_ _=>True) (λ_=>True):=
 lcD h0 (by decide) trivial
noncomputable def lq:FT (Keys×Tupl×Int×Int×Unit) (Int×Int×Bool) (λx=>cU x.1) (λ_ _=>True):= .mk (λ(x0,x1,x2,x3,_)=>
  .cal pK.c (x3,()) λc1=>
  .bnd (β:=Bool×Unit) (.as (λw=>(w.1=false→0≤x0.epoch∧x0.epoch≤4294967295)) (.cal uC.c (x0,()) λc2=>
   .ite (!c2) (.ret (true,()))<|
   .ret ((decide (c1.2.1<0)),()))) λ(u3a0,_)=>
  .ite u3a0 (.ret (0,0,false))<|
  .lp (jf (x2,x3,c1.2.1,x0.epoch,x0,x1,())).lp λw7=> .sum w7 (λq7=> .sum q7 (λp7a0=>
  .ret (p7a0,c1.2.1,true))<|
  λ_=>
  .ret (0,0,false))<|
  λ_=>
  .ret (0,0,false)) (qU @BZ)
noncomputable def xN:=eE st Tryz.func11 [(0,lb [2,3,4,5,12,14] [8,9,10]),(3000002,rA 0 29),(3000008,rA 0 59)] [Il,Cn,Rl,Dp] 0 jf (ks:=[.st .keys,.st .tupl,.sc (.int .i64),.sc (.int .i64)]) lq (λv=>[(false,[.c (.int .i64 v.1)]),(false,[.c (.int .i64 v.2.1)]),(false,[.c (.bool v.2.2)])])
def De:Sh:=⟨[zp 1 0,zl 27 .macRow,zi 28,zi 29],[zg .mac]⟩
noncomputable def qD (v0:List MacRow)(v3:Mac)(v2:Int)(a:Unit):Tr (Stp (Unit) ((Unit))):=
 .grd (cG v0 v2)<|
 .val (bk.f ((v0.getD v2.toNat (Ty.zero .macRow)).value,0,16777215,())) λc2=>
 .ite (!c2) (.ret (.out ()))<|
 .grd ((decide (0≤v2))&&(decide (v2≤(v3.rows.length:Int))))<|
 .cal cT.c (((v3.rows.take v2.toNat).drop 0),(v0.getD v2.toNat (Ty.zero .macRow)),()) λc3=>
 .ite c3 (.ret (.out ()))<|
 .ret (.next ())
noncomputable def qT:De.V→tq De Unit (Unit):=λ(v0,v1,v2,v3,_)=>⟨v2,(),λv2 _=>(v0,v1,v2,v3,()),λv2 _=>(decide (v2<v1)),qD v0 v3,up,1,(Int.toNat (v1-v2)),.inl,eR,oB .ret ⟨[zb 2],[]⟩ (λ_=>(false,())) (.exit 0) ⟨[zu 2],[]⟩ (λ_=>())⟩
theorem QJ {v0:List MacRow}{v1 v2:Int}{v3:Mac}(h0:0≤v2)(h1:v1≤4611686018427387904)(h2:sL bm v0)(h3:dV v3)(h4:v1≤(v0.length:Int))(h5:v1≤(v3.rows.length:Int)):(qT (v0,v1,v2,v3,())).U v1 (λ_ _=>True) (λ_=>True):=
 ju h0 h1 trivial
noncomputable def jR:FT (Mac×Unit) (Bool) (λx=>dV x.1) (λx v=>(v=true→x.1.rows.length≤64)):= .mk (λ(x0,_)=>
  .ite (!x0.use) (.ret ((x0.rows.length:Int)==0))<|
  .bnd (β:=Bool×Unit) (.ite (x0.k != 0) (.ret (true,()))<|
   .ite (x0.l != 0) (.ret (true,()))<|
   .ret ((decide (64<(x0.rows.length:Int))),())) λ(u1a0,_)=>
  .ite u1a0 (.ret false)<|
  .lp (qT (x0.rows,(x0.rows.length:Int),0,x0,())).lp λw4=> .sum w4 (λ_=>
  .ret false)<|
  λ_=>
  .ret true) (qU @QJ)
noncomputable def FY:=eE st Tryz.func161 [(0,lb [1,27,28,29] [2]),(3000003,rA 0 25)] [bI,mR] 0 qT (ks:=[.st .mac]) jR rB
noncomputable def ZM:=[Dd,fA,gq,n5,dh,Er,Gt,V9,xN,Cc]
noncomputable def Zt:Fx:=⟨247,Tryz.f247,[(3000001,rA 0 27)],0⟩
noncomputable def EC:FT (Door×Tupl×Segm×Unit) (Door×List Segm×Int) (λx=>aC x.1∧am x.2.2.1) (λx v=>aC v.1∧sL am v.2.1):= .mk λ(x0,x1,x2,_)=>
  .bnd (β:=Bool×Unit) (.cal rG.c (x0,x1,x2,()) λc1=>
   .ite (!c1) (.ret (true,()))<|
   .cal dT.c (x0.table,x1,()) λc2=>
   .ret ((decide (0≤c2)),())) λ(u3a0,_)=>
  .ite u3a0 (.cal d9.c (x0,()) λc4=>
   .ret (c4,[],0))<|
  .cal i5.c (x0.halves,x1,()) λc5=>
  .ite (decide (0≤c5)) (.grd (cG x0.halves c5)<|
   .val (bJ.f ((x0.halves.getD c5.toNat (Ty.zero .half)).iss,1,())) λc6=>
   .ite (x2.ack != c6) (.cal mj.c (x0,x2,()) λc7=>
    .ret (c7.1,c7.2.1,c7.2.2))<|
   .val (bJ.f ((x0.halves.getD c5.toNat (Ty.zero .half)).irs,1,())) λc8=>
   .ite (x2.seq != c8) (.cal d9.c (x0,()) λc9=>
    .ret (c9,[],0))<|
   .cal ry.c (x1,(x0.halves.getD c5.toNat (Ty.zero .half)).iss,(x0.halves.getD c5.toNat (Ty.zero .half)).irs,(x0.halves.getD c5.toNat (Ty.zero .half)).opts,x2.window,()) λc10=>
   .cal yi.c (x0,c10,x2,1,()) λc11=>
   .ret (c11.1,c11.2.1,c11.2.2))<|
  .val (bJ.f (x2.seq,(-1),())) λc12=>
  .val (bJ.f (x2.ack,(-1),())) λc13=>
  .cal lq.c (x0.keys,x1,c12,c13,()) λc14=>
  .ite (!c14.2.2) (.cal mj.c (x0,x2,()) λc15=>
   .ret (c15.1,c15.2.1,c15.2.2))<|
  .cal kW.c (c14.2.1,x2.opts,()) λc16=>
  .cal ry.c (x1,c13,c12,c16,x2.window,()) λc17=>
  .cal yi.c (x0,c17,x2,2,()) λc18=>
  .ret (c18.1,c18.2.1,c18.2.2)
noncomputable def Pl:=bS st Zt ZM [] (ks:=[.st .door,.st .tupl,.st .segm]) EC (λv=>[(true,kC (.o true) (.o true) (.o true) (.o true) (.o true) v.1),(false,[sc (.o true) .segm v.2.1]),(false,[.c (.int .i64 v.2.2)])]) Tryz.func247 trivial
noncomputable def eG:FT (Door×Tupl×Segm×Unit) (Segm) (λx=>aC x.1∧am x.2.2.1) (λx v=>am v):= .mk λ(x0,x1,x2,_)=>
  .cal o8.c (x0,x1,x2,()) λc1=>
  .val (bK.f (x2.seq,1,())) λc2=>
  .val (gh.f (x2.opts,x0.clock,())) λc3=>
  .ret (⟨x1.my,x1.port,c1,c2,18,32,c3,[]⟩:Segm)
noncomputable def WZ:=a9 st Tryz.func311 [RS,fo,EL] (ks:=[.st .door,.st .tupl,.st .segm]) eG (λv=>[(true,oK v)])
noncomputable def sY:FT (Door×Tupl×Segm×Unit) (Segm) (λx=>aC x.1∧am x.2.2.1) (λx v=>am v):= .mk λ(x0,x1,x2,_)=>
  .cal vO.c (x0,x1,x2,()) λc1=>
  .val (bJ.f (x2.seq,1,())) λc2=>
  .val (lW.f (x2.opts,x0.clock,())) λc3=>
  .ret (⟨x1.my,x1.port,c1,c2,18,32,c3,[]⟩:Segm)
noncomputable def Lh:=a9 st Tryz.func361 [Qm,dh,D6] (ks:=[.st .door,.st .tupl,.st .segm]) sY (λv=>[(true,oK v)])
noncomputable def bg:FT (Curs×Int×Unit) (Bool×Curs) (λx=>ah x.1) (λx v=>ah v.2):= .mk λ(y0,x1,_)=>
  .cal aj.c (y0,x1,()) λc1=>
  .ret ((c1.1==0),c1.2)
noncomputable def bT:=cq st ⟨112,Tryz.f112,[],1⟩ [ax] [] [.wr false [.ptr 0],.sc (.int .i64)] [.box [.st .curs]] (λx y=>(y.1.1,x.2.1,())) bg (λv=>[(false,[.c (.bool v.1)])]) (λx y v=>((v.2,()),())) Tryz.func112 (by kernel_rfl) trivial
noncomputable def vm:FT (Conn×Tabl×Unit) (Bool) (λx=>ac x.1∧aV x.2.1) (λ_ _=>True):= .mk λ(x0,y1,_)=>
  .ite (x0.state==8) (.cal iE.c (y1.waiting,x0.tuple,()) λc1=>
   .ret (!c1))<|
  .ret false
noncomputable def GC:=cq st ⟨170,Tryz.f170,[],1⟩ [rZ] [] [.st .conn,.wr false [.ptr 0]] [.box [.st .tabl]] (λx y=>(x.1,y.1.1,())) vm rB (λx y v=>((y.1.1,()),())) Tryz.func170 (by kernel_rfl) trivial
noncomputable def iD:=[GC]
def cB:Sh:=⟨[zo 0 0,(1,false,[.fn 170 [1]]),zi 7,zi 8],[.arr .conn false false,.box [.st .tabl [.sl .any,.sl .any]]]⟩
noncomputable def ic:Fx:=⟨173,Tryz.f173,[(0,la ⟨[0,1,7,8],[.softo 1 0,.softo 1 1],false,2⟩ ⟨[4],[],false,2⟩)],2⟩
noncomputable def gd (v2:List Conn)(v3:Tabl)(v1:Int)(a:Unit):Tr (Stp (Unit) ((Int))):=
 .grd (cG v2 v1)<|
 .cal vm.c ((v2.getD v1.toNat (Ty.zero .conn)),v3,()) λc2=>
 .ite c2 (.ret (.out v1))<|
 .ret (.next ())
noncomputable def bA:cB.V→tq cB Unit (Int):=λ(v0,v1,v2,v3,_)=>⟨v1,(),λv1 _=>(v0,v1,v2,v3,()),λv1 _=>(decide (v1<v0)),gd v2 v3,up,1,(Int.toNat (v0-v1)),.inl,eR,oB .ret ⟨[zi 4],[.arr .conn false false,.box [.st .tabl [.sl .any,.sl .any]]]⟩ (λp=>(p,v2,v3,())) (.exit 0) ⟨[zu 4],[.arr .conn false false,.box [.st .tabl [.sl .any,.sl .any]]]⟩ (λ_=>(v2,v3,()))⟩
theorem mV:LS Tryz.prog ic [0] (gc 0 cB bA):=dd st (aL iD) _ bA [] trivial
theorem mY {v0 v1:Int}{v2:List Conn}{v3:Tabl}(h0:0≤v1)(h1:v0≤4611686018427387904)(h2:sL ac v2)(h3:aV v3)(h4:v0≤(v2.length:Int)):(bA (v0,v1,v2,v3,())).U v0 (λ_ _=>True) (λp=>v1≤p∧p<v0):=
 ju h0 h1 trivial
noncomputable def dA:FT (List Conn×Tabl×Unit) (Int) (λx=>sL ac x.1∧aV x.2.1) (λx v=> -1≤v∧v<x.1.length):= .mk (λ(x0,y1_0,_)=>
  .lp (bA ((x0.length:Int),0,x0,y1_0,())).lp λw3=> .sum w3 (λp3a0=>
  .ret p3a0)<|
  λ_=>
  .ret (-1)) (qU @mY)
noncomputable def oH:=cq st ic iD [(gc 0 cB bA)] [.wr false [.own 0],.fn 170 [1]] [.arr .conn,.box [.st .tabl]] (λx y=>(y.1,y.2.1.1,())) dA rI (λx y v=>(y.1,(y.2.1.1,()),())) Tryz.func173 (by kernel_rfl) ⟨mV,trivial⟩
noncomputable def DQ:=[ax,tP,bT,UE]
def lL:Sh:=⟨[zp 0 0,zo 3 1,zi 4,zi 5],[.box [.st .curs [.sl .any]],za .entr]⟩
noncomputable def CE:Fx:=⟨224,Tryz.f224,[(0,la ⟨[0,3,4,5],[],false,1⟩ ⟨[2,3],[],false,1⟩)],1⟩
noncomputable def ID (v1:Int)(a:Curs×List Entr):Tr (Stp (Curs×List Entr) (Empty)):=
 .cal aj.c (a.1,7,()) λc2=>
 .cal aj.c (c2.2,3,()) λc3=>
 .cal oY.c (a.2,(IntKind.wrap .i64 (167772160+c2.1)),(IntKind.wrap .i64 (11+c3.1)),()) λc4=>
 .cal bg.c (c3.2,2,()) λc5=>
 .ite c5.1 (.cal KW.c (c4,()) λc6=>
  .ret (.next (c5.2,c6)))<|
 .ret (.next (c5.2,c4))
noncomputable def gj:lL.V→qf lL (Curs×List Entr):=λ(v0,v1,v2,v3,_)=>⟨v1,(v2,v3),λv1 a=>(v0,v1,a.1,a.2,()),λv1 _=>(decide (v1<v0)),ID,up,1,(Int.toNat (v0-v1)),Empty.elim,Prod.mk,oN (.exit 0) ⟨[zu 2,zo 3 1],[.box [.st .curs [.sl .any]],za .entr]⟩ (λx=>(x.2.1,x.2.2,()))⟩
theorem HI:LS Tryz.prog CE [0] (gc 0 lL gj):=dd st (aL DQ) _ gj [] trivial
theorem Ih {v0 v1:Int}{v2:Curs}{v3:List Entr}(h0:0≤v1)(h1:v0≤4611686018427387904)(h2:v0≤6)(h3:ah v2∧sS v3∧(v3.length:Int)≤v1):(gj (v0,v1,v2,v3,())).U v0 (λv1 a=>ah a.1∧sS a.2∧(a.2.length:Int)≤v1) (λ_=>True):=
 ju (a:=(v2,v3)) h0 h1 h3
noncomputable def ww:FT (Curs×Unit) (List Entr×Curs) (λx=>ah x.1) (λx v=>sS v.1∧ah v.2∧v.1.length≤6):=⟨λ(y0,_)=>
  .cal aj.c (y0,6,()) λc1=>
  .lp (gj (c1.1,0,c1.2,[],())).lp λ(_,a7_0,a7_1)=>
  .ret (a7_1,a7_0),
 λ(y0,_) hp=>by
  refine Tr.C ?_ λ_ _ _=>Tr.L (Ih ?_ ?_ ?_ ?_) (λ(a7_0,a7_1) _=>Tr.R ?_) (λp=>Empty.elim p)
  all_goals ((try simp only[gj,LC.lp,LC.ct,Ct.lp]at*)<;>grind)⟩
noncomputable def wN:=cq st CE DQ [(gc 0 lL gj)] [.wr false [.ptr 0]] [.box [.st .curs]] (λx y=>(y.1.1,())) ww (λv=>[(false,[sc (.o true) .entr v.1])]) (λx y v=>((v.2,()),())) Tryz.func224 (by kernel_rfl) ⟨HI,trivial⟩
noncomputable def ZD:=[bI,FY,Gd,mM]
noncomputable def Zo:Fx:=⟨67,Tryz.f67,[(3000007,rA 0 24),(3000009,rA 0 38),(3000011,rA 0 49),(3000012,rA 0 49)],0⟩
noncomputable def tz:FT (Acti×Unit) (Bool) (λx=>ba x.1) (λ_ _=>True):= .mk λ(x0,_)=>
  .val (bk.f (x0.kind,5,8,())) λc1=>
  .val (bk.f (x0.kind,1,8,())) λc2=>
  .ite (!c2) (.ite (!c2) (.ret false)<|
   .bnd (β:=Bool×Unit) (.ite (!(x0.text==[])) (.ite (x0.kind != 1) (.ret ((x0.kind != 5),()))<|
     .ret (false,()))<|
    .ret (false,())) λ(u3a0,_)=>
   .ite u3a0 (.ret false)<|
   .bnd (β:=Bool×Unit) (.ite (x0.kind != 3) (.cal fF.c (x0.mac,(⟨false,0,0,[]⟩:Mac),()) λc4=>
     .ret ((!c4),()))<|
    .ret (false,())) λ(u5a0,_)=>
   .ite u5a0 (.ret false)<|
   .bnd (β:=Bool×Unit) (.ite c1 (.cal aG.c (x0.tuple,()) λc6=>
     .ret ((!c6),()))<|
    .ret (false,())) λ(u7a0,_)=>
   .ite u7a0 (.ite u7a0 (.ret false)<|
    .ite (x0.n==0) (.ret true)<|
    .ret (x0.kind==6))<|
   .bnd (β:=Bool×Unit) (.ite (!c1) (.ret ((!((x0.tuple.ip==0)&&((x0.tuple.port==0)&&((x0.tuple.my==0)&&true)))),()))<|
    .ret (false,())) λ(u8a0,_)=>
   .ite u8a0 (.ret false)<|
   .ite (x0.n==0) (.ret true)<|
   .ret (x0.kind==6))<|
  .ite (decide (1600<(x0.text.length:Int))) (.ite (decide (1600<(x0.text.length:Int))) (.ret false)<|
   .bnd (β:=Bool×Unit) (.ite (!(x0.text==[])) (.ite (x0.kind != 1) (.ret ((x0.kind != 5),()))<|
     .ret (false,()))<|
    .ret (false,())) λ(u9a0,_)=>
   .ite u9a0 (.ret false)<|
   .bnd (β:=Bool×Unit) (.ite (x0.kind != 3) (.cal fF.c (x0.mac,(⟨false,0,0,[]⟩:Mac),()) λc10=>
     .ret ((!c10),()))<|
    .ret (false,())) λ(u11a0,_)=>
   .ite u11a0 (.ret false)<|
   .bnd (β:=Bool×Unit) (.ite c1 (.cal aG.c (x0.tuple,()) λc12=>
     .ret ((!c12),()))<|
    .ret (false,())) λ(u13a0,_)=>
   .ite u13a0 (.ite u13a0 (.ret false)<|
    .ite (x0.n==0) (.ret true)<|
    .ret (x0.kind==6))<|
   .bnd (β:=Bool×Unit) (.ite (!c1) (.ret ((!((x0.tuple.ip==0)&&((x0.tuple.port==0)&&((x0.tuple.my==0)&&true)))),()))<|
    .ret (false,())) λ(u14a0,_)=>
   .ite u14a0 (.ret false)<|
   .ite (x0.n==0) (.ret true)<|
   .ret (x0.kind==6))<|
  .cal jR.c (x0.mac,()) λc15=>
  .ite (!c15) (.ite (!c15) (.ret false)<|
   .bnd (β:=Bool×Unit) (.ite (!(x0.text==[])) (.ite (x0.kind != 1) (.ret ((x0.kind != 5),()))<|
     .ret (false,()))<|
    .ret (false,())) λ(u16a0,_)=>
   .ite u16a0 (.ret false)<|
   .bnd (β:=Bool×Unit) (.ite (x0.kind != 3) (.cal fF.c (x0.mac,(⟨false,0,0,[]⟩:Mac),()) λc17=>
     .ret ((!c17),()))<|
    .ret (false,())) λ(u18a0,_)=>
   .ite u18a0 (.ret false)<|
   .bnd (β:=Bool×Unit) (.ite c1 (.cal aG.c (x0.tuple,()) λc19=>
     .ret ((!c19),()))<|
    .ret (false,())) λ(u20a0,_)=>
   .ite u20a0 (.ite u20a0 (.ret false)<|
    .ite (x0.n==0) (.ret true)<|
    .ret (x0.kind==6))<|
   .bnd (β:=Bool×Unit) (.ite (!c1) (.ret ((!((x0.tuple.ip==0)&&((x0.tuple.port==0)&&((x0.tuple.my==0)&&true)))),()))<|
    .ret (false,())) λ(u21a0,_)=>
   .ite u21a0 (.ret false)<|
   .ite (x0.n==0) (.ret true)<|
   .ret (x0.kind==6))<|
  .val (bk.f (x0.n,0,65535,())) λc22=>
  .ite (!c22) (.ret false)<|
  .bnd (β:=Bool×Unit) (.ite (!(x0.text==[])) (.ite (x0.kind != 1) (.ret ((x0.kind != 5),()))<|
    .ret (false,()))<|
   .ret (false,())) λ(u23a0,_)=>
  .ite u23a0 (.ret false)<|
  .bnd (β:=Bool×Unit) (.ite (x0.kind != 3) (.cal fF.c (x0.mac,(⟨false,0,0,[]⟩:Mac),()) λc24=>
    .ret ((!c24),()))<|
   .ret (false,())) λ(u25a0,_)=>
  .ite u25a0 (.ret false)<|
  .bnd (β:=Bool×Unit) (.ite c1 (.cal aG.c (x0.tuple,()) λc26=>
    .ret ((!c26),()))<|
   .ret (false,())) λ(u27a0,_)=>
  .ite u27a0 (.ite u27a0 (.ret false)<|
   .ite (x0.n==0) (.ret true)<|
   .ret (x0.kind==6))<|
  .bnd (β:=Bool×Unit) (.ite (!c1) (.ret ((!((x0.tuple.ip==0)&&((x0.tuple.port==0)&&((x0.tuple.my==0)&&true)))),()))<|
   .ret (false,())) λ(u28a0,_)=>
  .ite u28a0 (.ret false)<|
  .ite (x0.n==0) (.ret true)<|
  .ret (x0.kind==6)
noncomputable def ZR:=bS st Zo ZD [] (ks:=[.st .acti]) tz rB Tryz.func67 trivial
noncomputable def WC:=[bI,FY,Gd]
def Nt:An:=⟨⟨[],[],false,0⟩,⟨[1,2,3],[],false,0⟩,⟨[],[]⟩,[(.normal,⟨[zp 1 0,zb 2,zi 3],[.box [.st .keys [.sl .arg,.sl .arg]]]⟩)]⟩
noncomputable def Wg:Fx:=⟨156,Tryz.f156,[(1000005,Nt)],0⟩
noncomputable def eh:FT (Keys×Unit) (Bool) (λx=>cU x.1) (λx v=>(v=true→0≤x.1.epoch∧x.1.epoch≤4294967295)):= .mk λ(x0,_)=>
  .bnd (β:=Bool×Int×Keys×Unit) (.as (λw=>cU w.2.2.1∧0≤w.2.1∧w.2.2.1=x0) (.ite x0.two (.ret (false,1,x0,()))<|
   .ret (false,0,x0,()))) λ(_,u1a1,u1a2,_)=>
  .val (bk.f (u1a2.epoch,u1a1,4294967295,())) λc2=>
  .ite c2 (.cal jR.c (u1a2.now,()) λc3=>
   .ite c3 (.cal jR.c (u1a2.before,()) λc4=>
    .ite c4 (.ite u1a2.two (.ret true)<|
     .cal fF.c (u1a2.before,(⟨false,0,0,[]⟩:Mac),()) λc5=>
     .ret c5)<|
    .ret false)<|
   .ret false)<|
  .ret false
noncomputable def B2:=bS st Wg WC [] (ks:=[.st .keys]) eh rB Tryz.func156 trivial
noncomputable def VN:=[BD,B2,FY,wT]
noncomputable def UB:Fx:=⟨167,Tryz.f167,[(3000002,rA 0 20)],0⟩
noncomputable def oW:FT (Keys×Mac×Unit) (Keys) (λx=>cU x.1∧dV x.2.1) (λx v=>cU v):= .mk λ(x0,x1,_)=>
  .cal qd.c (x0,()) λc1=>
  .bnd (β:=Bool×Unit) (.as (λw=>(w.1=false→0≤x0.epoch∧x0.epoch≤4294967295∧x1.rows.length≤64)) (.cal eh.c (x0,()) λc2=>
   .ite (!c2) (.ret (true,()))<|
   .cal jR.c (x1,()) λc3=>
   .ite (!c3) (.ret (true,()))<|
   .ret ((x0.epoch==4294967295),()))) λ(u4a0,_)=>
  .ite u4a0 (.ret c1)<|
  .cal kG.c (x1,()) λc5=>
  .ret (⟨(IntKind.wrap .i64 (x0.epoch+1)),c5,c1.now,true⟩:Keys)
noncomputable def TM:=bS st UB VN [] (ks:=[.st .keys,.st .mac]) oW (λv=>[(true,BI (.o true) (.o true) v)]) Tryz.func167 trivial
def tn:Sh:=⟨[zi 2,zi 3,zp 4 0,zp 5 1,zi 12,zi 14],[.box [.st .keys [.sl .arg,.sl .arg]],zx .tupl]⟩
noncomputable def su (v0 v1 v2:Int)(v4:Keys)(v5:Tupl)(v3:Int)(a:Unit):Tr (Stp (Unit) ((Int))):=
 .cal oT.c (v4,v3,()) λc5=>
 .bnd (β:=Bool×Unit) (.ite c5.2 (.cal kw.c (c5.1,v5,v0,v3,v2,()) λc6=>
   .ret ((c6==v1),()))<|
  .ret (false,())) λ(u7a0,_)=>
 .ite u7a0 (.ret (.out v3))<|
 .ret (.next ())
noncomputable def i1:tn.V→tq tn Unit (Int):=λ(v0,v1,v2,v3,v4,v5,_)=>⟨v3,(),λv3 _=>(v0,v1,v2,v3,v4,v5,()),λv3 _=>(decide ((if 0<(IntKind.wrap .i64 (v4.epoch-1))then(IntKind.wrap .i64 (v4.epoch-1))else 0)≤v3)),su v0 v1 v2 v4 v5,dn,(-1),(Int.toNat (v3-(if 0<(IntKind.wrap .i64 (v4.epoch-1))then(IntKind.wrap .i64 (v4.epoch-1))else 0)+1)),.inl,eR,oB .ret ⟨[zi 8,zi 9,zb 10],[]⟩ (λp=>(p,v2,true,())) (.exit 0) ⟨[zu 8,zu 9,zu 10],[]⟩ (λ_=>())⟩
theorem BP {v0 v1 v2 v3:Int}{v4:Keys}{v5:Tupl}(h0:v3≤9223372036854775807)(h1:0≤(if 0<(IntKind.wrap .i64 (v4.epoch-1))then(IntKind.wrap .i64 (v4.epoch-1))else 0))(h2:cU v4):(i1 (v0,v1,v2,v3,v4,v5,())).D (if 0<(IntKind.wrap .i64 (v4.epoch-1))then(IntKind.wrap .i64 (v4.epoch-1))else 0) (λ_ _=>True) (λ_=>True):=
 lcD h0 h1 trivial
noncomputable def bG:FT (Keys×Tupl×Int×Int×Unit) (Int×Int×Bool) (λx=>cU x.1) (λ_ _=>True):= .mk (λ(x0,x1,x2,x3,_)=>
  .bnd (β:=Bool×Unit) (.as (λw=>(w.1=false→0≤x0.epoch∧x0.epoch≤4294967295)) (.cal eh.c (x0,()) λc1=>
   .ite (!c1) (.ret (true,()))<|
   .cal ae.c (x3,32,()) λc2=>
   .ret ((!c2),()))) λ(u3a0,_)=>
  .ite u3a0 (.ret (0,0,false))<|
  .cal gH.c (x3,()) λc4=>
  .lp (i1 (x2,x3,c4.2.1,x0.epoch,x0,x1,())).lp λw8=> .sum w8 (λp8a0=>
  .ret (p8a0,c4.2.1,true))<|
  λ_=>
  .ret (0,0,false)) (qU @BP)
noncomputable def Io:=eE st Tryz.func192 [(0,lb [2,3,4,5,12,14] [8,9,10]),(3000001,rA 0 24),(3000008,rA 0 57)] [B2,ca,H4,QQ,El] 0 i1 (ks:=[.st .keys,.st .tupl,.sc (.int .i64),.sc (.int .i64)]) bG (λv=>[(false,[.c (.int .i64 v.1)]),(false,[.c (.int .i64 v.2.1)]),(false,[.c (.bool v.2.2)])])
noncomputable def Dq:FT (Door×Tupl×Segm×Unit) (Door×List Segm) (λx=>aC x.1∧am x.2.2.1) (λx v=>aC v.1∧sL am v.2):= .mk λ(x0,x1,x2,_)=>
  .cal d9.c (x0,()) λc1=>
  .cal rG.c (x0,x1,x2,()) λc2=>
  .ite (!c2) (.ret (c1,[]))<|
  .cal sY.c (x0,x1,x2,()) λc3=>
  .cal i5.c (x0.halves,x1,()) λc4=>
  .ite (decide (0≤c4)) (.grd (cG x0.halves c4)<|
   .ite ((x0.halves.getD c4.toNat (Ty.zero .half)).irs != x2.seq) (.ret (c1,[]))<|
   .grd (cG x0.halves c4)<|
   .ret (c1,[({c3 with seq:=(x0.halves.getD c4.toNat (Ty.zero .half)).iss}:Segm)]))<|
  .cal dT.c (x0.table,x1,()) λc5=>
  .ite (decide (c5<0)) (.val (pj.f (x2.opts,())) λc6=>
   .cal u4.c (c1.halves,(⟨x1,c3.seq,x2.seq,c6,0,x2.window⟩:Half),x0.limits.halves,()) λc7=>
   .ret (({c1 with halves:=c7.1}:Door),[c3]))<|
  .ret (c1,[c3])
noncomputable def OE:=a9 st Tryz.func246 [gq,Dd,Lh,n5,fA,Ij,Hb] (ks:=[.st .door,.st .tupl,.st .segm]) Dq (λv=>[(true,kC (.o true) (.o true) (.o true) (.o true) (.o true) v.1),(false,[sc (.o true) .segm v.2])])
noncomputable def iR:=[oH,GC]
def cJ:Sh:=⟨[zo 0 0,(1,false,[.fn 170 [1]]),zi 5,zi 6],[.arr .conn false false,.box [.st .tabl [.sl .any,.sl .any]]]⟩
noncomputable def iP:Fx:=⟨169,Tryz.f169,[(0,la ⟨[0,1,5,6],[],false,2⟩ ⟨[0,4,5],[],false,2⟩)],2⟩
noncomputable def dW (v3:Tabl)(v1:Int)(a:Int×List Conn):Tr (Stp (Int×List Conn) (Empty)):=
 .grd (cG a.2 v1)<|
 .cal vm.c ((a.2.getD v1.toNat (Ty.zero .conn)),v3,()) λc2=>
 .ite (!c2) (.grd (cG a.2 a.1)<|
  .ret (.next ((IntKind.wrap .i64 (a.1+1)),(a.2.set a.1.toNat (a.2.getD v1.toNat (Ty.zero .conn))))))<|
 .ret (.next (a.1,a.2))
noncomputable def aH:cJ.V→qf cJ (Int×List Conn):=λ(v0,v1,v2,v3,_)=>⟨v1,(v0,v2),λv1 a=>(a.1,v1,a.2,v3,()),λv1 a=>(decide (v1<(a.2.length:Int))),dW v3,up,1,(Int.toNat ((v2.length:Int)-v1)),Empty.elim,Prod.mk,oN (.exit 0) ⟨[zo 0 0,zu 4,zi 5],[.arr .conn false false,.box [.st .tabl [.sl .any,.sl .any]]]⟩ (λx=>(x.2.1,x.2.2,v3,()))⟩
theorem mZ:LS Tryz.prog iP [0] (gc 0 cJ aH):=dd st (aL iR) _ aH [] trivial
theorem oa {v0 v1:Int}{v2:List Conn}{v3:Tabl}(h0:0≤v1)(h1:(v2.length:Int)≤4611686018427387904)(h2:aV v3)(h3:sL ac v2)(h4:v2.length=v2.length∧dg ac v2∧0≤v0∧v0<v1∧v0<v2.length):(aH (v0,v1,v2,v3,())).S (λv1 a=>a.2.length=v2.length∧a.2.length=v2.length∧dg ac a.2∧0≤a.1∧a.1<v1∧a.1<a.2.length) (λ_=>True):=by
 refine LC.okS ⟨rfl,h4⟩ (λj a hj hv=>⟨⟨?_, ?_⟩, ?_⟩) (λa hv=> ?_)
 ·simp only[aH,decide_eq_true_eq]at*;omega
 ·simp only[aH]at*;exact upw (by omega) (by omega)
 ·refine Tr.G2 ?_ λ_=>Tr.C ?_ λ_ _ _=>Tr.I (λ_=>Tr.G2 ?_ λ_=>Tr.Rn ?_) λ_=>Tr.Rn ?_
  all_goals (try simp only[aH]at*)<;>(grind)
 ·simp only[aH,decide_eq_false_iff_not]at*;omega
noncomputable def cL:FT (List Conn×Tabl×Unit) (Nat×List Conn) (λx=>sL ac x.1∧aV x.2.1) (λx v=>sL ac v.2∧v.1≤x.1.length∧v.2.length=x.1.length):=⟨λ(x0,y1_0,_)=>
  .cal dA.c (x0,y1_0,()) λc1=>
  .ite (c1==(-1)) (.ret (x0.length,x0))<|
  .lp (aH (c1,(IntKind.wrap .i64 (c1+1)),x0,y1_0,())).lp λ(_,a3_0,a3_1)=>
  .grd (KN a3_1 a3_0 (a3_1.length:Int))<|
  .val ((a3_1.take a3_0.toNat++List.replicate ((a3_1.length:Int).toNat-a3_0.toNat) (Ty.zero .conn))++a3_1.drop ((a3_1.length:Int).toNat)) λl4=>
  .grd ((decide (0≤a3_0))&&(decide (a3_0≤(l4.length:Int))))<|
  .ret (a3_0.toNat,l4),
 λ(x0,y1_0,_) hp=>by
  refine Tr.C ?_ λc1 hc1 qc1=>Tr.I (λb0=>Tr.R ?_) λb0=>Tr.L (oa ?_ ?_ ?_ ?_ ?_) (λ(a3_0,a3_1) i3=>Tr.G3 ?_ λg1=>Tr.V λl4 hl4=>Tr.G2 ?_ λg2=>Tr.R ?_) (λp=>Empty.elim p)
  all_goals ((try simp only[aH,LC.lp,LC.ct,Ct.lp]at*)<;>(first|grind|(have hz:ac (Ty.zero .conn):=(by unfold ac;(repeat' apply And.intro);all_goals first|exact λ_ h=>absurd h (List.not_mem_nil)|decide+kernel);grind)))⟩
noncomputable def pU:=cq st iP iR [(gc 0 cJ aH)] [.wr false [.own 0],.fn 170 [1]] [.arr .conn,.box [.st .tabl]] (λx y=>(y.1,y.2.1.1,())) cL (λv=>[(false,[.shr 0 v.1])]) (λx y v=>(v.2,(y.2.1.1,()),())) Tryz.func169 (by kernel_rfl) ⟨mZ,trivial⟩
noncomputable def kp:FT (Door×Mac×Unit) (Door) (λx=>aC x.1∧dV x.2.1) (λx v=>aC v):= .mk λ(x0,x1,_)=>
  .cal gF.c (x0,()) λc1=>
  .cal oW.c (x0.keys,x1,()) λc2=>
  .ret (⟨c1.port,c1.clock,c2,c1.limits,c1.halves,c1.table,c1.chal⟩:Door)
noncomputable def N7:=a9 st Tryz.func70 [jL,TM] (ks:=[.st .door,.st .mac]) kp (λv=>[(true,kC (.o true) (.o true) (.o true) (.o true) (.o true) v)])
noncomputable def aay:=[wn,cc,lD,gq,tS,fA,Er,Vr,wV,n5,dh,Dx,OE,Pl]
def Bv:An:=⟨⟨[],[],false,0⟩,⟨[3,6,7,8,9,12],[],false,0⟩,⟨[],[]⟩,[(.normal,⟨[zp 3 0,zp 6 1,(7,false,[.nil]),zi 8,zo 9 2,zp 12 3],[.box [.st .door [.sl .arg,.sl .arg,.sl .arg,.sl .arg,.sl .arg]],.box [.st .door [.nil .macRow,.nil .macRow,.nil .half,.nil .conn,.nil .tupl]],za .segm,.box [.st .door [.own 4,.own 5,.own 6,.own 7,.own 8]],zf,zf,zf,zf,zf]⟩)]⟩
noncomputable def aav:Fx:=⟨131,Tryz.f131,[(1000084,Bv),(3000002,rA 0 29),(3000013,rA 0 84),(3000016,rA 0 92),(3000019,rA 0 114)],0⟩
noncomputable def I3:FT (Door×Int×Segm×Unit) (Door×List Segm×Int) (λx=>aC x.1∧am x.2.2.1) (λx v=>aC v.1∧sL am v.2.1):= .mk λ(x0,x1,x2,_)=>
  .bnd (β:=Bool×Unit) (.as (λw=>(w.1=false→x0.table.conns.length≤16∧x2.body.length≤1420)) (.cal sr.c (x0,()) λc1=>
   .ite (!c1) (.ret (true,()))<|
   .cal aI.c (x1,32,()) λc2=>
   .ite (!c2) (.ret (true,()))<|
   .cal iU.c (x2,()) λc3=>
   .ret ((!c3),()))) λ(u4a0,_)=>
  .ite u4a0 (.cal d9.c (x0,()) λc5=>
   .ret (c5,[],0))<|
  .val (mH.f (x1,x2,())) λc6=>
  .cal dT.c (x0.table,c6,()) λc7=>
  .ite (x2.to != x0.port) (.cal mj.c (x0,x2,()) λc8=>
   .ret (c8.1,c8.2.1,c8.2.2))<|
  .ite (decide (0≤c7)) (.cal z7.c (x0,c7,x2,()) λc9=>
   .ret (c9.1,c9.2.1,c9.2.2))<|
  .val (gn.f (x2,4,())) λc10=>
  .ite c10 (.cal d9.c (x0,()) λc11=>
   .cal i5.c (x0.halves,c6,()) λc12=>
   .bnd (β:=Bool×Unit) (.ite (decide (0≤c12)) (.grd (cG x0.halves c12)<|
     .val (bJ.f ((x0.halves.getD c12.toNat (Ty.zero .half)).irs,1,())) λc13=>
     .ret ((x2.seq==c13),()))<|
    .ret (false,())) λ(u14a0,_)=>
   .bnd (β:=WT Bv.es) (.as (λw=>aC w.2.1∧aC w.2.2.1∧sL am w.2.2.2.1∧aC w.2.2.2.2.1) (.ite u14a0 (.cal sv.c (x0.halves,c6,()) λc15=>
     .ret (0,x0,(⟨0,0,⟨0,⟨false,0,0,[]⟩,⟨false,0,0,[]⟩,false⟩,⟨0,0,0,0⟩,[],⟨[],[]⟩,0⟩:Door),[],({c11 with halves:=c15}:Door),()))<|
    .ret (0,x0,(⟨0,0,⟨0,⟨false,0,0,[]⟩,⟨false,0,0,[]⟩,false⟩,⟨0,0,0,0⟩,[],⟨[],[]⟩,0⟩:Door),[],c11,()))) λ(_,_,_,u16a3,u16a4,_)=>
   .ret (u16a4,u16a3,0))<|
  .bnd (β:=Bool×Unit) (.val (gn.f (x2,2,())) λc17=>
   .ite c17 (.val (gn.f (x2,16,())) λc18=>
    .ite (!c18) (.val (gn.f (x2,1,())) λc19=>
     .ret ((!c19),()))<|
    .ret (false,()))<|
   .ret (false,())) λ(u20a0,_)=>
  .ite u20a0 (.cal Dq.c (x0,c6,x2,()) λc21=>
   .ret (c21.1,c21.2,0))<|
  .bnd (β:=Bool×Unit) (.val (gn.f (x2,16,())) λc22=>
   .ite c22 (.val (gn.f (x2,2,())) λc23=>
    .ret ((!c23),()))<|
   .ret (false,())) λ(u24a0,_)=>
  .ite u24a0 (.cal EC.c (x0,c6,x2,()) λc25=>
   .ret (c25.1,c25.2.1,c25.2.2))<|
  .val (gn.f (x2,16,())) λc26=>
  .ite c26 (.cal mj.c (x0,x2,()) λc27=>
   .ret (c27.1,c27.2.1,c27.2.2))<|
  .cal d9.c (x0,()) λc28=>
  .ret (c28,[],0)
noncomputable def aaC:=bS st aav aay [] (ks:=[.st .door,.sc (.int .i64),.st .segm]) I3 (λv=>[(true,kC (.o true) (.o true) (.o true) (.o true) (.o true) v.1),(false,[sc (.o true) .segm v.2.1]),(false,[.c (.int .i64 v.2.2)])]) Tryz.func131 trivial
noncomputable def E8:FT (Curs×Unit) (Int×Curs) (λx=>ah x.1) (λx v=>ah v.2):= .mk λ(y0,_)=>
  .cal aD.c (y0,[167772161,167772162,167772163,0,4294967295],()) λc1=>
  .ret (c1.1,c1.2)
noncomputable def JM:=cq st ⟨395,Tryz.f395,[],1⟩ [aJ] [] [.wr false [.ptr 0]] [.box [.st .curs]] (λx y=>(y.1.1,())) E8 (λv=>[(false,[.c (.int .i64 v.1)])]) (λx y v=>((v.2,()),())) Tryz.func395 (by kernel_rfl) trivial
noncomputable def T5:=[yd,yA,Xh,xr,aaC,zh]
noncomputable def U0:Fx:=⟨51,Tryz.f51,[(3000009,rA 0 55),(4000000,la ⟨[],[],false,0⟩ ⟨[],[.softb 4 2],false,0⟩)],0⟩
noncomputable def vr:FT (Stac×aa×Unit) (Stac×List aa×Int) (λx=>az x.1∧sS x.2.1) (λx v=>az v.1∧sL sS v.2.1):= .mk λ(x0,x1,_)=>
  .cal rk.c (x0,()) λc1=>
  .cal o7.c (x0,()) λc2=>
  .ite (!c2) (.ret (c1,[],0))<|
  .cal DL.c (x0.link,x1,()) λc3=>
  .ite (c3.2.1==1) (.ret (({c1 with link.mac:=c3.1.mac,link.ip:=c3.1.ip,link.cache:=c3.1.cache}:Stac),[c3.2.2.2],0))<|
  .cal jG.c (c3.2.2.1.body,c3.2.2.1.src,c3.2.2.1.dst,()) λc4=>
  .bnd (β:=Bool×Unit) (.ite (c3.2.1 != 2) (.ret (true,()))<|
   .ret ((!c4.2),())) λ(u5a0,_)=>
  .ite u5a0 (.ret (({c1 with link.mac:=c3.1.mac,link.ip:=c3.1.ip,link.cache:=c3.1.cache}:Stac),[],0))<|
  .cal I3.c (x0.door,c3.2.2.1.src,c4.1,()) λc6=>
  .cal rm.c ((⟨c3.1,c6.1⟩:Stac),c3.2.2.1.src,c6.2.1,()) λc7=>
  .ret ((⟨c3.1,c6.1⟩:Stac),c7,c6.2.2)
noncomputable def Vs:=bS st U0 T5 [] (ks:=[.st .stac,.sc .str]) vr (λv=>[(true,nz .c (.o true) (.o true) (.o true) (.o true) (.o true) v.1),(false,[sc (.o true) .str v.2.1]),(false,[.c (.int .i64 v.2.2)])]) Tryz.func51 trivial
noncomputable def pg:FT (Curs×Unit) (Tupl×Curs) (λx=>ah x.1) (λx v=>ah v.2):= .mk λ(y0,_)=>
  .cal E8.c (y0,()) λc1=>
  .cal aD.c (c1.2,[40000,40001,40002],()) λc2=>
  .ret ((⟨c1.1,c2.1,80⟩:Tupl),c2.2)
noncomputable def nr:=cq st ⟨297,Tryz.f297,[],1⟩ [JM,aJ] [] [.wr false [.ptr 0]] [.box [.st .curs]] (λx y=>(y.1.1,())) pg (λv=>[(true,FI v.1)]) (λx y v=>((v.2,()),())) Tryz.func297 (by kernel_rfl) trivial
noncomputable def acG:=[yd,yA,aaz,Vs,NG,Nl,xf,FO,TD]
noncomputable def acI:Fx:=⟨14,Tryz.f14,[(3000002,rA 0 24),(4000000,la ⟨[],[],false,0⟩ ⟨[],[.softb 4 2,.softb 4 9,.softb 4 13,.softb 4 19,.softb 4 20,.softb 4 21],false,0⟩)],0⟩
noncomputable def uq:FT (Stac×Acti×Unit) (Stac×Resu) (λx=>az x.1∧ba x.2.1) (λx v=>az v.1∧gY v.2):= .mk λ(x0,x1,_)=>
  .cal rk.c (x0,()) λc1=>
  .bnd (β:=Bool×Unit) (.as (λw=>(w.1=false→x0.door.table.conns.length≤16)) (.cal o7.c (x0,()) λc2=>
   .ite (!c2) (.ret (true,()))<|
   .cal Ea.c (x1,()) λc3=>
   .ret ((!c3),()))) λ(u4a0,_)=>
  .ite u4a0 (.ret (c1,(⟨[],0,⟨0,0,0⟩,0,[],false⟩:Resu)))<|
  .ite (x1.kind==1) (.cal vr.c (x0,x1.text,()) λc5=>
   .ret (c5.1,(⟨c5.2.1,c5.2.2,⟨0,0,0⟩,0,[],true⟩:Resu)))<|
  .ite (x1.kind==2) (.cal tA.c (x0,()) λc6=>
   .ret (c6.1,(⟨c6.2,0,⟨0,0,0⟩,0,[],true⟩:Resu)))<|
  .ite (x1.kind==3) (.cal t5.c (x0.door,x1.mac,()) λc7=>
   .ret ((⟨c1.link,c7⟩:Stac),(⟨[],0,⟨0,0,0⟩,0,[],true⟩:Resu)))<|
  .ite (x1.kind==4) (.cal lC.c (x0.door.table,()) λc8=>
   .cal Ax.c (c8.1,()) λc9=>
   .ret (({c1 with door.table.conns:=c9.conns,door.table.waiting:=c9.waiting}:Stac),(⟨[],0,c8.2.1,0,[],c8.2.2⟩:Resu)))<|
  .cal z0.c (c1,x1,()) λc10=>
  .ret (c10.1,c10.2)
noncomputable def CH:=bS st acI acG [] (ks:=[.st .stac,.st .acti]) uq (λv=>[(true,nz .c .c .c .c .c .c v.1),(true,Rj (.o true) v.2)]) Tryz.func14 trivial
noncomputable def qB:FT (Stac×Acti×Unit) (Issu×Bool) (λx=>az x.1∧ba x.2.1) (λ_ _=>True):= .mk λ(x0,x1,_)=>
  .cal uq.c (x0,x1,()) λc1=>
  .ite (c1.2.made != 2) (.ret ((⟨⟨0,0,0⟩,0,0⟩:Issu),false))<|
  .cal fH.c (x1.text,()) λc2=>
  .val (mH.f (c2.1.src,c2.2.1,())) λc3=>
  .val (bJ.f (c2.2.1.seq,(-1),())) λc4=>
  .val (bJ.f (c2.2.1.ack,(-1),())) λc5=>
  .ret ((⟨c3,c4,c5⟩:Issu),true)
noncomputable def Lv:=a9 st Tryz.func33 [CH,Hd,tS,dh] (ks:=[.st .stac,.st .acti]) qB (λv=>[(true,Wn v.1),(false,[.c (.bool v.2)])])
noncomputable def Ly:=[ax,wd]
def pn:Sh:=⟨[zp 0 0,(3,false,[.int .u64]),zi 4],[.box [.st .curs [.sl .any]]]⟩
noncomputable def Lu:Fx:=⟨338,Tryz.f338,[(1,la ⟨[0,3,4],[],false,1⟩ ⟨[2,3],[],false,1⟩)],1⟩
noncomputable def N1 (v1:Int)(a:Int×Curs):Tr (Stp (Int×Curs) (Empty)):=
 .cal nn.c (a.2,()) λc2=>
 .val (bits .or .u64 (IntKind.wrap .u64 (a.1*256)) (IntKind.wrap .u64 c2.1)) λe3=>
 .ret (.next (e3,c2.2))
noncomputable def jA:pn.V→qf pn (Int×Curs):=λ(v0,v1,v2,_)=>⟨v1,(v0,v2),λv1 a=>(a.1,v1,a.2,()),λv1 _=>(decide (v1<8)),N1,up,1,(Int.toNat (8-v1)),Empty.elim,Prod.mk,oN (.exit 1) ⟨[zu 2,(3,false,[.int .u64])],[.box [.st .curs [.sl .any]]]⟩ (λx=>(x.2.1,x.2.2,()))⟩
theorem Nq:LS Tryz.prog Lu [0] (gc 1 pn jA):=dd st (aL Ly) _ jA [] trivial
theorem Nn {v0 v1:Int}{v2:Curs}(h0:0≤v1)(h1:ah v2):(jA (v0,v1,v2,())).U 8 (λv1 a=>ah a.2) (λ_=>True):=
 ju (a:=(v0,v2)) h0 (by decide) h1
noncomputable def gv:FT (Curs×Unit) (Int×Curs) (λx=>ah x.1) (λx v=>ah v.2):=⟨λ(y0,_)=>
  .cal aj.c (y0,3,()) λc1=>
  .ite (c1.1==0) (.ret (0,c1.2))<|
  .ite (c1.1==1) (.ret (506097522914230528,c1.2))<|
  .lp (jA (0,0,c1.2,())).lp λ(_,a4_0,a4_1)=>
  .ret (a4_0,a4_1),
 λ(y0,_) hp=>by
  refine Tr.C ?_ λ_ _ _=>Tr.I (λ_=>Tr.R ?_) λ_=>Tr.I (λ_=>Tr.R ?_) λ_=>Tr.L (Nn ?_ ?_) (λ(a4_0,a4_1) _=>Tr.R ?_) (λp=>Empty.elim p)
  all_goals ((try simp only[jA,LC.lp,LC.ct,Ct.lp]at*)<;>grind)⟩
noncomputable def wM:=cq st Lu Ly [(gc 1 pn jA)] [.wr false [.ptr 0]] [.box [.st .curs]] (λx y=>(y.1.1,())) gv (λv=>[(false,[.c (.int .u64 v.1)])]) (λx y v=>((v.2,()),())) Tryz.func338 (by kernel_rfl) ⟨Nq,trivial⟩
def Bd:Sh:=⟨[zl 1 .acti,zp 2 0,zo 5 1,zo 6 2,zi 7],[.box [.st .stac [.sl .any,.sl .any,.sl .any,.sl .any,.sl .any,.sl .any]],za .issu,za .issu]⟩
noncomputable def jC (v0:List Acti)(v1:Int)(a:Stac×List Issu×List Issu):Tr (Stp (Stac×List Issu×List Issu) ((List Issu))):=
 .ite (decide (v1<60)) (.grd (cG v0 v1)<|
  .cal qB.c (a.1,(v0.getD v1.toNat (Ty.zero .acti)),()) λc8=>
  .bnd (β:=Bool×Unit) (.ite c8.2 (.cal oy.c (a.2.2,c8.1,()) λc9=>
    .ret ((!c9),()))<|
   .ret (false,())) λ(u10a0,_)=>
  .ite u10a0 (.grd (px a.2.1 1 40)<|
   .grd (cG v0 v1)<|
   .cal uq.c (a.1,(v0.getD v1.toNat (Ty.zero .acti)),()) λc11=>
   .cal sP.c (a.1,c11.2,()) λc12=>
   .grd (Nat.ble ((2*(a.2.2.length+c12.length)+1024)*40) bc)<|
   .ret (.next (c11.1,(a.2.1++[c8.1]),(a.2.2++c12))))<|
  .grd (cG v0 v1)<|
  .cal uq.c (a.1,(v0.getD v1.toNat (Ty.zero .acti)),()) λc13=>
  .cal sP.c (a.1,c13.2,()) λc14=>
  .grd (Nat.ble ((2*(a.2.2.length+c14.length)+1024)*40) bc)<|
  .ret (.next (c13.1,a.2.1,(a.2.2++c14))))<|
 .ret (.out a.2.1)
noncomputable def lk:Bd.V→tq Bd (Stac×List Issu×List Issu) (List Issu):=λ(v0,v1,v2,v3,v4,_)=>⟨v1,(v2,v3,v4),λv1 a=>(v0,v1,a.1,a.2.1,a.2.2,()),λv1 _=>(decide (v1<(v0.length:Int))),jC v0,up,1,(Int.toNat ((v0.length:Int)-v1)),.inl,eR,oB (.exit 0) ⟨[zu 4,zo 5 0],[za .issu]⟩ (λp=>(p,())) (.exit 0) ⟨[zu 4,zo 5 0],[za .issu]⟩ (λx=>(x.2.2.1,()))⟩
theorem NP {v0:List Acti}{v1:Int}{v2:Stac}{v3 v4:List Issu}(h0:0≤v1)(h1:(v0.length:Int)≤4611686018427387904)(h2:sL ba v0)(h3:az v2∧(v3.length:Int)≤v1∧(v4.length:Int)≤4294967296*v1):(lk (v0,v1,v2,v3,v4,())).U (v0.length:Int) (λv1 a=>az a.1∧(a.2.1.length:Int)≤v1∧(a.2.2.length:Int)≤4294967296*v1) (λp=>sS p):=
 ju (a:=(v2,v3,v4)) h0 h1 h3
noncomputable def Dm:FT (Stac×List Acti×Unit) (List Issu) (λx=>az x.1∧sL ba x.2.1) (λx v=>sS v):=⟨λ(x0,x1,_)=>
  .lp (lk (x1,0,x0,[],[],())).lp λw15=> .sum w15 (λp15a0=>
  .ret p15a0)<|
  λ(_,_,a15_1,_)=>
  .ret a15_1,
 λ(x0,x1,_) hp=>by
  refine Tr.L (NP ?_ ?_ ?_ ?_) (λ(a15_0,a15_1,a15_2) _=>Tr.Sr (Tr.R ?_)) (λp15a0 _=>Tr.Sl (Tr.R ?_))
  all_goals ((try simp only[lk,LC.lp,LC.ct,Ct.lp]at*)<;>grind)⟩
noncomputable def WQ:=eE st Tryz.func9 [(0,la ⟨[1,2,5,6,7],[.softb 2 2,.softb 2 9,.softb 2 13,.softb 2 19,.softb 2 20,.softb 2 21],false,0⟩ ⟨[4,5],[],false,0⟩),(3000007,rA 0 39)] [Lv,Em,CH,RR] 0 lk (ks:=[.st .stac,.sc (.sl .acti)]) Dm (λv=>[(false,[sc (.o true) .issu v])])
noncomputable def BW:FT (Half×Door×Unit) (Bool) (λx=>aC x.2.1) (λ_ _=>True):= .mk λ(x0,y1,_)=>
  .cal av.c (y1.table,x0.tuple,()) λc1=>
  .ret (decide (0≤c1))
noncomputable def R7:=cq st ⟨160,Tryz.f160,[],1⟩ [gC] [] [.st .half,.wr false [.ptr 0]] [.box [.st .door]] (λx y=>(x.1,y.1.1,())) BW rB (λx y v=>((y.1.1,()),())) Tryz.func160 (by kernel_rfl) trivial
noncomputable def iT:=[R7]
def cM:Sh:=⟨[zl 0 .half,(1,false,[.fn 160 [0]]),zi 7,zi 8],[.box [.st .door [.sl .any,.sl .any,.sl .any,.sl .any,.sl .any]]]⟩
noncomputable def iQ:Fx:=⟨273,Tryz.f273,[(0,la ⟨[0,1,7,8],[.softo 0 6,.softo 0 10,.softo 0 16,.softo 0 17,.softo 0 18],false,1⟩ ⟨[4],[],false,1⟩)],1⟩
noncomputable def gy (v0:List Half)(v3:Door)(v2:Int)(a:Unit):Tr (Stp (Unit) ((Int))):=
 .grd (cG v0 v2)<|
 .cal BW.c ((v0.getD v2.toNat (Ty.zero .half)),v3,()) λc2=>
 .ite c2 (.ret (.out v2))<|
 .ret (.next ())
noncomputable def bE:cM.V→tq cM Unit (Int):=λ(v0,v1,v2,v3,_)=>⟨v2,(),λv2 _=>(v0,v1,v2,v3,()),λv2 _=>(decide (v2<v1)),gy v0 v3,up,1,(Int.toNat (v1-v2)),.inl,eR,oB .ret ⟨[zi 4],[.box [.st .door [.sl .any,.sl .any,.sl .any,.sl .any,.sl .any]]]⟩ (λp=>(p,v3,())) (.exit 0) ⟨[zu 4],[.box [.st .door [.sl .any,.sl .any,.sl .any,.sl .any,.sl .any]]]⟩ (λ_=>(v3,()))⟩
theorem nR:LS Tryz.prog iQ [0] (gc 0 cM bE):=dd st (aL iT) _ bE [] trivial
theorem nE {v0:List Half}{v1 v2:Int}{v3:Door}(h0:0≤v2)(h1:v1≤4611686018427387904)(h2:sS v0)(h3:aC v3)(h4:v1≤(v0.length:Int)):(bE (v0,v1,v2,v3,())).U v1 (λ_ _=>True) (λp=>v2≤p∧p<v1):=
 ju h0 h1 trivial
noncomputable def fC:FT (List Half×Door×Unit) (Int) (λx=>sS x.1∧aC x.2.1) (λx v=> -1≤v∧v<x.1.length):= .mk (λ(x0,y1_0,_)=>
  .lp (bE (x0,(x0.length:Int),0,y1_0,())).lp λw3=> .sum w3 (λp3a0=>
  .ret p3a0)<|
  λ_=>
  .ret (-1)) (qU @nE)
noncomputable def pO:=cq st iQ iT [(gc 0 cM bE)] [.sc (.sl .half),.fn 160 [0]] [.box [.st .door]] (λx y=>(x.1,y.1.1,())) fC rI (λx y v=>((y.1.1,()),())) Tryz.func273 (by kernel_rfl) ⟨nR,trivial⟩
noncomputable def Ph:FT (Curs×Unit) (Keys×Curs) (λx=>ah x.1) (λx v=>cU v.1∧ah v.2):= .mk λ(y0,_)=>
  .cal aj.c (y0,40,()) λc1=>
  .cal gv.c (c1.2,()) λc2=>
  .cal gv.c (c2.2,()) λc3=>
  .cal pX.c (c2.1,c3.1,()) λc4=>
  .ite (decide (0<c1.1)) (.cal bg.c (c3.2,2,()) λc5=>
   .ite c5.1 (.cal gv.c (c5.2,()) λc6=>
    .cal pX.c (c6.1,5,()) λc7=>
    .ret ((⟨c1.1,c4,c7,true⟩:Keys),c6.2))<|
   .ret ((⟨c1.1,c4,⟨false,0,0,[]⟩,false⟩:Keys),c5.2))<|
  .ret ((⟨c1.1,c4,⟨false,0,0,[]⟩,false⟩:Keys),c3.2)
noncomputable def UG:=cq st ⟨333,Tryz.f333,[],1⟩ [ax,wM,wi,bT] [] [.wr false [.ptr 0]] [.box [.st .curs]] (λx y=>(y.1.1,())) Ph (λv=>[(true,BI (.o true) (.o true) v.1)]) (λx y v=>((v.2,()),())) Tryz.func333 (by kernel_rfl) trivial
noncomputable def df:FT (List Half×Door×Unit) (Bool) (λx=>sS x.1∧aC x.2.1) (λ_ _=>True):= .mk λ(x0,y1_0,_)=>
  .cal fC.c (x0,y1_0,()) λc1=>
  .ret (decide (0≤c1))
noncomputable def nH:=cq st ⟨159,Tryz.f159,[],1⟩ [pO] [] [.sc (.sl .half),.fn 160 [0]] [.box [.st .door]] (λx y=>(x.1,y.1.1,())) df rB (λx y v=>((y.1.1,()),())) Tryz.func159 (by kernel_rfl) trivial
noncomputable def u6:FT (Tupl×Tabl×Unit) (Bool) (λx=>aV x.2.1) (λ_ _=>True):= .mk λ(x0,y1,_)=>
  .cal av.c (y1,x0,()) λc1=>
  .ret (decide (c1<0))
noncomputable def GY:=cq st ⟨172,Tryz.f172,[],1⟩ [gC] [] [.st .tupl,.wr false [.ptr 0]] [.box [.st .tabl]] (λx y=>(x.1,y.1.1,())) u6 rB (λx y v=>((y.1.1,()),())) Tryz.func172 (by kernel_rfl) trivial
noncomputable def gU:=[GY]
def cp:Sh:=⟨[zo 0 0,(1,false,[.fn 172 [1]]),zi 7,zi 8],[.arr .tupl false false,.box [.st .tabl [.sl .any,.sl .any]]]⟩
noncomputable def gR:Fx:=⟨287,Tryz.f287,[(0,la ⟨[0,1,7,8],[.softo 1 0,.softo 1 1],false,2⟩ ⟨[4],[],false,2⟩)],2⟩
noncomputable def fM (v2:List Tupl)(v3:Tabl)(v1:Int)(a:Unit):Tr (Stp (Unit) ((Int))):=
 .grd (cG v2 v1)<|
 .cal u6.c ((v2.getD v1.toNat (Ty.zero .tupl)),v3,()) λc2=>
 .ite c2 (.ret (.out v1))<|
 .ret (.next ())
noncomputable def bu:cp.V→tq cp Unit (Int):=λ(v0,v1,v2,v3,_)=>⟨v1,(),λv1 _=>(v0,v1,v2,v3,()),λv1 _=>(decide (v1<v0)),fM v2 v3,up,1,(Int.toNat (v0-v1)),.inl,eR,oB .ret ⟨[zi 4],[.arr .tupl false false,.box [.st .tabl [.sl .any,.sl .any]]]⟩ (λp=>(p,v2,v3,())) (.exit 0) ⟨[zu 4],[.arr .tupl false false,.box [.st .tabl [.sl .any,.sl .any]]]⟩ (λ_=>(v2,v3,()))⟩
theorem me:LS Tryz.prog gR [0] (gc 0 cp bu):=dd st (aL gU) _ bu [] trivial
theorem mu {v0 v1:Int}{v2:List Tupl}{v3:Tabl}(h0:0≤v1)(h1:v0≤4611686018427387904)(h2:sS v2)(h3:aV v3)(h4:v0≤(v2.length:Int)):(bu (v0,v1,v2,v3,())).U v0 (λ_ _=>True) (λp=>v1≤p∧p<v0):=
 ju h0 h1 trivial
noncomputable def dk:FT (List Tupl×Tabl×Unit) (Int) (λx=>sS x.1∧aV x.2.1) (λx v=> -1≤v∧v<x.1.length):= .mk (λ(x0,y1_0,_)=>
  .lp (bu ((x0.length:Int),0,x0,y1_0,())).lp λw3=> .sum w3 (λp3a0=>
  .ret p3a0)<|
  λ_=>
  .ret (-1)) (qU @mu)
noncomputable def ol:=cq st gR gU [(gc 0 cp bu)] [.wr false [.own 0],.fn 172 [1]] [.arr .tupl,.box [.st .tabl]] (λx y=>(y.1,y.2.1.1,())) dk rI (λx y v=>(y.1,(y.2.1.1,()),())) Tryz.func287 (by kernel_rfl) ⟨me,trivial⟩
noncomputable def Ah:FT (Curs×Unit) (Int×Curs) (λx=>ah x.1) (λx v=>ah v.2):=⟨λ(y0,_)=>
  .cal aj.c (y0,3,()) λc1=>
  .ite (c1.1==0) (.cal aD.c (c1.2,[0,1,(-1),9,10,999999999999,1000000000000,9223372036854775807,4294967295,4294967296,65535,65536,(-9223372036854775808)],()) λc2=>
   .ret (c2.1,c2.2))<|
  .ite (c1.1==1) (.cal aj.c (c1.2,1000000,()) λc3=>
   .ret ((IntKind.wrap .i64 (c3.1-500000)),c3.2))<|
  .cal aj.c (c1.2,20,()) λc4=>
  .ret (c4.1,c4.2),
 λ(y0,_) hp=>by
  refine Tr.C ?_ λ_ _ _=>Tr.I (λ_=>Tr.C ?_ λ_ _ _=>Tr.R ?_) λ_=>Tr.I (λ_=>Tr.C ?_ λ_ _ _=>Tr.R ?_) λ_=>Tr.C ?_ λ_ _ _=>Tr.R ?_
  all_goals (first|grind|(simp only[sS,List.length_cons,List.length_nil];grind))⟩
noncomputable def yO:=cq st ⟨298,Tryz.f298,[],1⟩ [ax,aJ] [] [.wr false [.ptr 0]] [.box [.st .curs]] (λx y=>(y.1.1,())) Ah (λv=>[(false,[.c (.int .i64 v.1)])]) (λx y v=>((v.2,()),())) Tryz.func298 (by kernel_rfl) trivial
noncomputable def Wv:=[ca,B2,Hk,CP,bI,nH]
noncomputable def W1:Fx:=⟨65,Tryz.f65,[(3000001,rA 0 50)],0⟩
noncomputable def bP:FT (Door×Unit) (Bool) (λx=>aC x.1) (λx v=>(v=true→x.1.table.conns.length≤16)):= .mk λ(x0,_)=>
  .bnd (β:=Bool×Unit) (.as (λw=>(w.1=false→0≤x0.keys.epoch∧x0.keys.epoch≤4294967295∧x0.table.conns.length≤16∧x0.table.waiting.length≤16∧x0.halves.length≤64)) (.cal ae.c (x0.port,16,()) λc1=>
   .ite (!c1) (.ret (true,()))<|
   .cal ae.c (x0.clock,32,()) λc2=>
   .ite (!c2) (.ret (true,()))<|
   .cal eh.c (x0.keys,()) λc3=>
   .ite (!c3) (.ret (true,()))<|
   .cal cQ.c (x0.table,x0.limits,()) λc4=>
   .ite (!c4) (.ret (true,()))<|
   .cal fk.c (x0.halves,()) λc5=>
   .ite (!c5) (.ret (true,()))<|
   .ite (decide (x0.limits.halves<(x0.halves.length:Int))) (.ret (true,()))<|
   .val (bk.f (x0.chal,0,x0.limits.chal,())) λc6=>
   .ret ((!c6),()))) λ(u7a0,_)=>
  .ite u7a0 (.ret false)<|
  .cal df.c (x0.halves,x0,()) λc8=>
  .ret (!c8)
noncomputable def sM:=bS st W1 Wv [] (ks:=[.st .door]) bP rB Tryz.func65 trivial
noncomputable def aan:=[jL,sM,mM,jF,WZ,nX,gC,HH,Vh]
noncomputable def Y9:Fx:=⟨201,Tryz.f201,[(3000002,rA 0 25)],0⟩
noncomputable def lG:FT (Door×Tupl×Segm×Unit) (Door×List Segm) (λx=>aC x.1∧am x.2.2.1) (λx v=>aC v.1∧sL am v.2∧v.1.table.conns.length=x.1.table.conns.length):= .mk λ(x0,x1,x2,_)=>
  .cal gF.c (x0,()) λc1=>
  .bnd (β:=Bool×Unit) (.as (λw=>(w.1=false→x0.table.conns.length≤16∧x2.body.length≤1420)) (.cal bP.c (x0,()) λc2=>
   .ite (!c2) (.ret (true,()))<|
   .cal aG.c (x1,()) λc3=>
   .ite (!c3) (.ret (true,()))<|
   .cal ak.c (x2,()) λc4=>
   .ret ((!c4),()))) λ(u5a0,_)=>
  .ite u5a0 (.ret (c1,[]))<|
  .cal eG.c (x0,x1,x2,()) λc6=>
  .cal aE.c (x0.halves,x1,()) λc7=>
  .ite (decide (0≤c7)) (.grd (cG x0.halves c7)<|
   .ite ((x0.halves.getD c7.toNat (Ty.zero .half)).irs != x2.seq) (.ret (c1,[]))<|
   .grd (cG x0.halves c7)<|
   .ret (c1,[({c6 with seq:=(x0.halves.getD c7.toNat (Ty.zero .half)).iss}:Segm)]))<|
  .cal av.c (x0.table,x1,()) λc8=>
  .ite (decide (c8<0)) (.val (jO.f (x2.opts,())) λc9=>
   .cal oJ.c (x0.halves,(⟨x1,c6.seq,x2.seq,c9,0,x2.window⟩:Half),x0.limits.halves,()) λc10=>
   .ret (({c1 with halves:=c10.1}:Door),[c6]))<|
  .ret (c1,[c6])
noncomputable def aaL:=bS st Y9 aan [] (ks:=[.st .door,.st .tupl,.st .segm]) lG (λv=>[(true,kC (.o true) (.o true) (.o true) (.o true) (.o true) v.1),(false,[sc (.o true) .segm v.2])]) Tryz.func201 trivial
noncomputable def ZY:=[jL,sM,mM,jF,gC,nX,fo,L9,VO,Io,BF,VE,Gk,x9,EN]
@[reducible] def Bo:An:=⟨⟨[],[],false,0⟩,⟨[3,4,5,6,7,8,9,10,11],[],false,0⟩,⟨[],[]⟩,[(.ret,⟨[zp 3 0,zp 4 1,zp 5 2,zp 6 3,zo 7 4,zi 8,zp 9 5,zp 10 6,zi 11],[.box [.st .door [.sl .arg,.sl .arg,.sl .arg,.sl .arg,.sl .arg]],zx .tupl,zx .segm,.box [.st .door [.own 7,.own 8,.own 9,.own 10,.own 11]],za .segm,.box [.st .door [.own 7,.own 8,.own 9,.own 10,.own 11]],.box [.st .conn [.nil .piec]],zf,zf,zf,zf,zf]⟩),(.ret,⟨[zp 3 0,zp 4 1,zp 5 2,zp 6 3,(7,false,[.nil]),zi 8,zp 9 4,zp 10 5,zi 11],[.box [.st .door [.sl .arg,.sl .arg,.sl .arg,.sl .arg,.sl .arg]],zx .tupl,zx .segm,.box [.st .door [.own 6,.own 7,.own 8,.own 9,.own 10]],.box [.st .door [.own 6,.own 7,.own 8,.own 9,.own 10]],.box [.st .conn [.nil .piec]],zf,zf,zf,zf,zf]⟩),(.normal,⟨[zp 3 0,zp 4 1,zp 5 2,zp 6 3,(7,false,[.nil]),zi 8,zp 9 4,zp 10 5,zi 11],[.box [.st .door [.sl .arg,.sl .arg,.sl .arg,.sl .arg,.sl .arg]],zx .tupl,zx .segm,.box [.st .door [.nil .macRow,.nil .macRow,.nil .half,.nil .conn,.nil .tupl]],.box [.st .door [.own 6,.own 7,.own 8,.own 9,.own 10]],zk .conn 11,zf,zf,zf,zf,zf,zf]⟩)]⟩
noncomputable def ZT:Fx:=⟨202,Tryz.f202,[(1000051,Bo),(3000002,rA 0 44)],0⟩
noncomputable def I4:FT (Door×Tupl×Segm×Unit) (Door×List Segm×Int) (λx=>aC x.1∧am x.2.2.1) (λx v=>aC v.1∧sL am v.2.1∧x.1.table.conns.length≤v.1.table.conns.length):= .mk λ(x0,x1,x2,_)=>
  .cal gF.c (x0,()) λc1=>
  .bnd (β:=Bool×Unit) (.as (λw=>(w.1=false→x0.table.conns.length≤16∧x2.body.length≤1420)) (.cal bP.c (x0,()) λc2=>
   .ite (!c2) (.ret (true,()))<|
   .cal aG.c (x1,()) λc3=>
   .ite (!c3) (.ret (true,()))<|
   .cal ak.c (x2,()) λc4=>
   .ite (!c4) (.ret (true,()))<|
   .cal av.c (x0.table,x1,()) λc5=>
   .ret ((decide (0≤c5)),()))) λ(u6a0,_)=>
  .ite u6a0 (.ret (c1,[],0))<|
  .cal aE.c (x0.halves,x1,()) λc7=>
  .bnd (β:=WT Bo.es) (.as (Sum.elim (λw=>aC w.2.2.1∧am w.2.2.2.2.1∧aC w.2.2.2.2.2.1∧sL am w.2.2.2.2.2.2.1∧aC w.2.2.2.2.2.2.2.1∧ac w.2.2.2.2.2.2.2.2.1∧x0.table.conns.length≤w.2.2.2.2.2.1.table.conns.length) (Sum.elim (λw=>aC w.2.2.1∧am w.2.2.2.2.1∧aC w.2.2.2.2.2.1∧aC w.2.2.2.2.2.2.1∧ac w.2.2.2.2.2.2.2.1∧x0.table.conns.length≤w.2.2.2.2.2.1.table.conns.length) (λw=>aC w.2.2.1∧am w.2.2.2.2.1∧aC w.2.2.2.2.2.1∧aC w.2.2.2.2.2.2.1∧ac w.2.2.2.2.2.2.2.1∧w.2.2.1=x0∧x0.table.conns.length≤w.2.2.2.2.2.2.1.table.conns.length))) (.ite (decide (0≤c7)) (.grd (cG x0.halves c7)<|
    .val (bK.f ((x0.halves.getD c7.toNat (Ty.zero .half)).iss,1,())) λc8=>
    .ite (x2.ack != c8) (.cal f9.c (x2,()) λc9=>
     .ret (.inl (0,1,x0,x1,x2,c1,c9,c1,(⟨⟨0,0,0⟩,0,⟨0,[],0,false,false,false⟩,⟨0,[],[],0,false⟩,0,0,⟨0,0,false,false,0,0⟩,0,0⟩:Conn),())))<|
    .val (bK.f ((x0.halves.getD c7.toNat (Ty.zero .half)).irs,1,())) λc10=>
    .ite (x2.seq != c10) (.ret (.inr (.inl (0,1,x0,x1,x2,c1,c1,(⟨⟨0,0,0⟩,0,⟨0,[],0,false,false,false⟩,⟨0,[],[],0,false⟩,0,0,⟨0,0,false,false,0,0⟩,0,0⟩:Conn),()))))<|
    .cal uZ.c (x1,(x0.halves.getD c7.toNat (Ty.zero .half)).iss,(x0.halves.getD c7.toNat (Ty.zero .half)).irs,(x0.halves.getD c7.toNat (Ty.zero .half)).opts,x2.window,()) λc11=>
    .ret (.inr (.inr ((0,1,x0,x1,x2,(⟨0,0,⟨0,⟨false,0,0,[]⟩,⟨false,0,0,[]⟩,false⟩,⟨0,0,0,0⟩,[],⟨[],[]⟩,0⟩:Door),c1,c11,())))))<|
   .val (bK.f (x2.seq,(-1),())) λc12=>
   .val (bK.f (x2.ack,(-1),())) λc13=>
   .cal bG.c (x0.keys,x1,c12,c13,()) λc14=>
   .ite (!c14.2.2) (.cal f9.c (x2,()) λc15=>
    .ret (.inl (0,1,x0,x1,x2,c1,c15,c1,(⟨⟨0,0,0⟩,0,⟨0,[],0,false,false,false⟩,⟨0,[],[],0,false⟩,0,0,⟨0,0,false,false,0,0⟩,0,0⟩:Conn),())))<|
   .cal bL.c (c14.2.1,x2.opts,()) λc16=>
   .cal uZ.c (x1,c13,c12,c16,x2.window,()) λc17=>
   .ret (.inr (.inr ((0,2,x0,x1,x2,(⟨0,0,⟨0,⟨false,0,0,[]⟩,⟨false,0,0,[]⟩,false⟩,⟨0,0,0,0⟩,[],⟨[],[]⟩,0⟩:Door),c1,c17,())))))) λw18=> .sum w18 (λ(u18a0,_,_,_,_,u18a5,u18a6,_,_,_)=>
  .ret (u18a5,u18a6,u18a0))<|
  λw18=> .sum w18 (λ(u18b0,_,_,_,_,u18b5,_,_,_)=>
  .ret (u18b5,[],u18b0))<|
  λ(_,u18c1,u18c2,u18c3,u18c4,_,u18c6,u18c7,_)=>
  .cal mO.c (u18c2.table,u18c7,u18c2.limits,()) λc19=>
  .ite (!c19.2) (.ret (u18c6,[],0))<|
  .cal oV.c (u18c7,u18c4,()) λc20=>
  .cal de.c (c19.1,c20.1,()) λc21=>
  .cal pf.c (u18c2.halves,u18c3,()) λc22=>
  .ret (({u18c6 with halves:=c22,table.conns:=c21.conns,table.waiting:=c21.waiting}:Door),c20.2.1,u18c1)
noncomputable def aaj:=bS st ZT ZY [] (ks:=[.st .door,.st .tupl,.st .segm]) I4 (λv=>[(true,kC (.o true) (.o true) (.o true) (.o true) (.o true) v.1),(false,[sc (.o true) .segm v.2.1]),(false,[.c (.int .i64 v.2.2)])]) Tryz.func202 trivial
noncomputable def hU:=[ol,GY]
def cA:Sh:=⟨[zo 0 0,(1,false,[.fn 172 [1]]),zi 5,zi 6],[.arr .tupl false false,.box [.st .tabl [.sl .any,.sl .any]]]⟩
noncomputable def io:Fx:=⟨171,Tryz.f171,[(0,la ⟨[0,1,5,6],[],false,2⟩ ⟨[0,4,5],[],false,2⟩)],2⟩
noncomputable def dL (v3:Tabl)(v1:Int)(a:Int×List Tupl):Tr (Stp (Int×List Tupl) (Empty)):=
 .grd (cG a.2 v1)<|
 .cal u6.c ((a.2.getD v1.toNat (Ty.zero .tupl)),v3,()) λc2=>
 .ite (!c2) (.grd (cG a.2 a.1)<|
  .ret (.next ((IntKind.wrap .i64 (a.1+1)),(a.2.set a.1.toNat (a.2.getD v1.toNat (Ty.zero .tupl))))))<|
 .ret (.next (a.1,a.2))
noncomputable def aF:cA.V→qf cA (Int×List Tupl):=λ(v0,v1,v2,v3,_)=>⟨v1,(v0,v2),λv1 a=>(a.1,v1,a.2,v3,()),λv1 a=>(decide (v1<(a.2.length:Int))),dL v3,up,1,(Int.toNat ((v2.length:Int)-v1)),Empty.elim,Prod.mk,oN (.exit 0) ⟨[zo 0 0,zu 4,zi 5],[.arr .tupl false false,.box [.st .tabl [.sl .any,.sl .any]]]⟩ (λx=>(x.2.1,x.2.2,v3,()))⟩
theorem mU:LS Tryz.prog io [0] (gc 0 cA aF):=dd st (aL hU) _ aF [] trivial
theorem mT {v0 v1:Int}{v2:List Tupl}{v3:Tabl}(h0:0≤v1)(h1:(v2.length:Int)≤4611686018427387904)(h2:aV v3)(h3:sS v2)(h4:v2.length=v2.length∧0≤v0∧v0<v1∧v0<v2.length):(aF (v0,v1,v2,v3,())).S (λv1 a=>a.2.length=v2.length∧a.2.length=v2.length∧0≤a.1∧a.1<v1∧a.1<a.2.length) (λ_=>True):=by
 refine LC.okS ⟨rfl,h4⟩ (λj a hj hv=>⟨⟨?_, ?_⟩, ?_⟩) (λa hv=> ?_)
 ·simp only[aF,decide_eq_true_eq]at*;omega
 ·simp only[aF]at*;exact upw (by omega) (by omega)
 ·refine Tr.G2 ?_ λ_=>Tr.C ?_ λ_ _ _=>Tr.I (λ_=>Tr.G2 ?_ λ_=>Tr.Rn ?_) λ_=>Tr.Rn ?_
  all_goals (try simp only[aF]at*)<;>(grind)
 ·simp only[aF,decide_eq_false_iff_not]at*;omega
noncomputable def cu:FT (List Tupl×Tabl×Unit) (Nat×List Tupl) (λx=>sS x.1∧aV x.2.1) (λx v=>sS v.2∧v.1≤x.1.length∧v.2.length=x.1.length):=⟨λ(x0,y1_0,_)=>
  .cal dk.c (x0,y1_0,()) λc1=>
  .ite (c1==(-1)) (.ret (x0.length,x0))<|
  .lp (aF (c1,(IntKind.wrap .i64 (c1+1)),x0,y1_0,())).lp λ(_,a3_0,a3_1)=>
  .grd (KN a3_1 a3_0 (a3_1.length:Int))<|
  .val ((a3_1.take a3_0.toNat++List.replicate ((a3_1.length:Int).toNat-a3_0.toNat) (Ty.zero .tupl))++a3_1.drop ((a3_1.length:Int).toNat)) λl4=>
  .grd ((decide (0≤a3_0))&&(decide (a3_0≤(l4.length:Int))))<|
  .ret (a3_0.toNat,l4),
 λ(x0,y1_0,_) hp=>by
  refine Tr.C ?_ λ_ _ _=>Tr.I (λ_=>Tr.R ?_) λ_=>Tr.L (mT ?_ ?_ ?_ ?_ ?_) (λ(a3_0,a3_1) _=>Tr.G3 ?_ λ_=>Tr.V λ_ _=>Tr.G2 ?_ λ_=>Tr.R ?_) (λp=>Empty.elim p)
  all_goals ((try simp only[aF,LC.lp,LC.ct,Ct.lp]at*)<;>grind)⟩
noncomputable def pa:=cq st io hU [(gc 0 cA aF)] [.wr false [.own 0],.fn 172 [1]] [.arr .tupl,.box [.st .tabl]] (λx y=>(y.1,y.2.1.1,())) cu (λv=>[(false,[.shr 0 v.1])]) (λx y v=>(v.2,(y.2.1.1,()),())) Tryz.func171 (by kernel_rfl) ⟨mU,trivial⟩
noncomputable def yl:FT (Curs×Unit) (Limi×Curs) (λx=>ah x.1) (λx v=>ah v.2):= .mk λ(y0,_)=>
  .cal aj.c (y0,3,()) λc1=>
  .cal aj.c (c1.2,3,()) λc2=>
  .cal aj.c (c2.2,4,()) λc3=>
  .cal aj.c (c3.2,4,()) λc4=>
  .ret ((⟨(IntKind.wrap .i64 (1+c1.1)),(IntKind.wrap .i64 (1+c2.1)),(IntKind.wrap .i64 (1+c3.1)),c4.1⟩:Limi),c4.2)
noncomputable def AY:=cq st ⟨334,Tryz.f334,[],1⟩ [ax] [] [.wr false [.ptr 0]] [.box [.st .curs]] (λx y=>(y.1.1,())) yl (λv=>[(true,acF v.1)]) (λx y v=>((v.2,()),())) Tryz.func334 (by kernel_rfl) trivial
noncomputable def bU:FT (Stac×Unit) (Bool) (λx=>az x.1) (λx v=>(v=true→x.1.door.table.conns.length≤16)):= .mk λ(x0,_)=>
  .cal dX.c (x0.link,()) λc1=>
  .ite c1 (.cal bP.c (x0.door,()) λc2=>
   .ret c2)<|
  .ret false
noncomputable def y9:=a9 st Tryz.func21 [Cp,sM] (ks:=[.st .stac]) bU rB
noncomputable def tQ:FT (Tabl×Unit) (Tabl) (λx=>aV x.1) (λx v=>aV v):= .mk λ(x0,_)=>
  .cal fB.c (x0,()) λc1=>
  .cal cL.c (c1.conns,x0,()) λc2=>
  .cal cu.c (c1.waiting,x0,()) λc3=>
  .ret (⟨(c2.2.take c2.1),(c3.2.take c3.1)⟩:Tabl)
noncomputable def O4:=a9 st Tryz.func72 [kt,pU,pa] (ks:=[.st .tabl]) tQ (λv=>[(true,qh (.o false) (.o true) v)])
noncomputable def aaP:=[jL,sM,ca,jF,Gl,L9,gC,Gk,x9,vW,nX,fo,EN,aaL,aaj]
@[reducible] def Bm:An:=⟨⟨[],[],false,0⟩,⟨[3,6,7,8,9,12,13],[],false,0⟩,⟨[],[]⟩,[(.normal,⟨[zp 3 0,zp 6 1,(7,false,[.nil]),zi 8,zp 9 2,zp 12 3,(13,false,[.nil])],[.box [.st .door [.sl .arg,.sl .arg,.sl .arg,.sl .arg,.sl .arg]],.box [.st .door [.nil .macRow,.nil .macRow,.nil .half,.nil .conn,.nil .tupl]],.box [.st .door [.own 4,.own 5,.own 6,.own 7,.own 8]],zk .conn 9,zf,zf,zf,zf,zf,zf]⟩),(.normal,⟨[zp 3 0,zp 6 1,(7,false,[.nil]),zi 8,zp 9 2,zp 12 3,zo 13 4],[.box [.st .door [.sl .arg,.sl .arg,.sl .arg,.sl .arg,.sl .arg]],.box [.st .door [.nil .macRow,.nil .macRow,.nil .half,.nil .conn,.nil .tupl]],.box [.st .door [.own 5,.own 6,.own 7,.own 8,.own 9]],zk .conn 10,za .segm,zf,zf,zf,zf,zf,zf]⟩)]⟩
noncomputable def aaE:Fx:=⟨88,Tryz.f88,[(1000064,Bm),(3000002,rA 0 32),(3000018,rA 0 102),(3000021,rA 0 109),(3000024,rA 0 131)],0⟩
noncomputable def IT:FT (Door×Int×Segm×Unit) (Door×List Segm×Int) (λx=>aC x.1∧am x.2.2.1) (λx v=>aC v.1∧sL am v.2.1∧x.1.table.conns.length≤v.1.table.conns.length):= .mk λ(x0,x1,x2,_)=>
  .cal gF.c (x0,()) λc1=>
  .bnd (β:=Bool×Unit) (.as (λw=>(w.1=false→x0.table.conns.length≤16∧x2.body.length≤1420)) (.cal bP.c (x0,()) λc2=>
   .ite (!c2) (.ret (true,()))<|
   .cal ae.c (x1,32,()) λc3=>
   .ite (!c3) (.ret (true,()))<|
   .cal ak.c (x2,()) λc4=>
   .ret ((!c4),()))) λ(u5a0,_)=>
  .ite u5a0 (.ret (c1,[],0))<|
  .val (uD.f (x1,x2,())) λc6=>
  .ite (x2.to != x0.port) (.cal f9.c (x2,()) λc7=>
   .ret (c1,c7,0))<|
  .cal av.c (x0.table,c6,()) λc8=>
  .ite (decide (0≤c8)) (.grd (cG x0.table.conns c8)<|
   .cal oV.c ((x0.table.conns.getD c8.toNat (Ty.zero .conn)),x2,()) λc9=>
   .bnd (β:=WT Bm.es) (.as (Sum.elim (λw=>aC w.2.1∧aC w.2.2.1∧aC w.2.2.2.1∧ac w.2.2.2.2.1∧w.2.1=x0) (λw=>aC w.2.1∧aC w.2.2.1∧aC w.2.2.2.1∧ac w.2.2.2.2.1∧sL am w.2.2.2.2.2.1∧w.2.1=x0)) (.ite (c9.2.2==3) (.ite (x0.chal==x0.limits.chal) (.ret (.inl (0,x0,(⟨0,0,⟨0,⟨false,0,0,[]⟩,⟨false,0,0,[]⟩,false⟩,⟨0,0,0,0⟩,[],⟨[],[]⟩,0⟩:Door),c1,c9.1,())))<|
     .ret (.inr ((0,x0,(⟨0,0,⟨0,⟨false,0,0,[]⟩,⟨false,0,0,[]⟩,false⟩,⟨0,0,0,0⟩,[],⟨[],[]⟩,0⟩:Door),({c1 with chal:=(IntKind.wrap .i64 (c1.chal+1))}:Door),c9.1,c9.2.1,()))))<|
    .ret (.inr ((0,x0,(⟨0,0,⟨0,⟨false,0,0,[]⟩,⟨false,0,0,[]⟩,false⟩,⟨0,0,0,0⟩,[],⟨[],[]⟩,0⟩:Door),c1,c9.1,c9.2.1,()))))) λw10=> .sum w10 (λ(_,u10a1,_,u10a3,u10a4,_)=>
   .cal de.c (u10a1.table,u10a4,()) λc11=>
   .ret (({u10a3 with table.conns:=c11.conns,table.waiting:=c11.waiting}:Door),[],0))<|
   λ(_,u10b1,_,u10b3,u10b4,u10b5,_)=>
   .cal de.c (u10b1.table,u10b4,()) λc12=>
   .ret (({u10b3 with table.conns:=c12.conns,table.waiting:=c12.waiting}:Door),u10b5,0))<|
  .val (bp.f (x2,4,())) λc13=>
  .ite c13 (.cal aE.c (x0.halves,c6,()) λc14=>
   .bnd (β:=Bool×Unit) (.ite (decide (0≤c14)) (.grd (cG x0.halves c14)<|
     .val (bK.f ((x0.halves.getD c14.toNat (Ty.zero .half)).irs,1,())) λc15=>
     .ret ((x2.seq==c15),()))<|
    .ret (false,())) λ(u16a0,_)=>
   .ite u16a0 (.cal pf.c (x0.halves,c6,()) λc17=>
    .ret (({c1 with halves:=c17}:Door),[],0))<|
   .ret (c1,[],0))<|
  .bnd (β:=Bool×Unit) (.val (bp.f (x2,2,())) λc18=>
   .ite c18 (.val (bp.f (x2,16,())) λc19=>
    .ite (!c19) (.val (bp.f (x2,1,())) λc20=>
     .ret ((!c20),()))<|
    .ret (false,()))<|
   .ret (false,())) λ(u21a0,_)=>
  .ite u21a0 (.cal lG.c (x0,c6,x2,()) λc22=>
   .ret (c22.1,c22.2,0))<|
  .bnd (β:=Bool×Unit) (.val (bp.f (x2,16,())) λc23=>
   .ite c23 (.val (bp.f (x2,2,())) λc24=>
    .ret ((!c24),()))<|
   .ret (false,())) λ(u25a0,_)=>
  .ite u25a0 (.cal I4.c (x0,c6,x2,()) λc26=>
   .ret (c26.1,c26.2.1,c26.2.2))<|
  .val (bp.f (x2,16,())) λc27=>
  .ite c27 (.cal f9.c (x2,()) λc28=>
   .ret (c1,c28,0))<|
  .ret (c1,[],0)
noncomputable def aaK:=bS st aaE aaP [] (ks:=[.st .door,.sc (.int .i64),.st .segm]) IT (λv=>[(true,kC (.o true) (.o true) (.o true) (.o true) (.o true) v.1),(false,[sc (.o true) .segm v.2.1]),(false,[.c (.int .i64 v.2.2)])]) Tryz.func88 trivial
noncomputable def wF:=[jL,sM,fo,LI,RB,O4]
def jY:Sh:=⟨[zp 2 0,zp 4 1,zo 5 2,zp 7 3,zl 30 .conn,zi 31,zi 32,zo 48 4,zi 49,zi 50],[.box [.st .door [.nil .macRow,.nil .macRow,.nil .half,.nil .conn,.nil .tupl]],.box [.st .door [.own 5,.own 6,.own 7,.own 8,.own 9]],za .mail,zg .conn,za .segm,zf,zf,zf,zf,zf]⟩
def lR:Sh:=⟨[zp 2 0,zp 4 1,zo 5 2,zl 30 .conn,zi 31,zi 32],[.box [.st .door [.nil .macRow,.nil .macRow,.nil .half,.nil .conn,.nil .tupl]],.box [.st .door [.own 3,.own 4,.own 5,.own 6,.own 7]],za .mail,zf,zf,zf,zf,zf]⟩
noncomputable def vJ:Fx:=⟨166,Tryz.f166,[(2,lb [2,4,5,7,30,31,32,48,49,50] [2,3,4,5,30,31,32]),(0,lb [2,4,5,30,31,32] [2,3,4,5]),(4000000,la ⟨[],[],false,0⟩ ⟨[],[.softb 2 17],false,0⟩)],0⟩
noncomputable def n7 (vb8:Conn)(vb9:List Segm)(vb4:Int)(a:Door×List Mail):Tr (Stp (Door×List Mail) (Empty)):=
 .grd (cG vb9 vb4)<|
 .grd (px a.2 1 112)<|
 .ret (.next (({a.1 with keys.now.rows:=[],keys.before.rows:=[],halves:=[],table.conns:=[],table.waiting:=[]}:Door),(a.2++[(⟨vb8.tuple.ip,(vb9.getD vb4.toNat (Ty.zero .segm))⟩:Mail)])))
noncomputable def dS:jY.V→qf jY (Door×List Mail):=λ(vb0,vb1,vb2,vb3,vb4,vb5,vb6,vb7,vb8,vb9,_)=>⟨vb4,(vb5,vb7),λvb4 a=>(vb0,vb1,vb2,vb3,vb4,a.1,vb6,a.2,vb8,vb9,()),λvb4 _=>(decide (vb4<vb3)),n7 vb8 vb9,up,1,(Int.toNat (vb3-vb4)),Empty.elim,Prod.mk,oN (.exit 2) ⟨[zp 2 0,zu 3,zp 4 1,zo 5 2,zl 30 .conn,zi 31,zi 32],[.box [.st .door [.nil .macRow,.nil .macRow,.nil .half,.nil .conn,.nil .tupl]],.box [.st .door [.own 3,.own 4,.own 5,.own 6,.own 7]],za .mail,zf,zf,zf,zf,zf]⟩ (λx=>(vb0,vb1,vb2,({x.2.1 with keys.now.rows:=[],keys.before.rows:=[],halves:=[],table.conns:=[],table.waiting:=[]}:Door),vb6,x.2.2,()))⟩
theorem Ds:LS Tryz.prog vJ [0,0] (gc 2 jY dS):=dd st (aL wF) _ dS [] trivial
theorem Et {vb0:List Conn}{vb1 vb2 vb3 vb4:Int}{vb5 vb6:Door}{vb7:List Mail}{vb8:Conn}{vb9:List Segm}(h0:0≤vb4)(h1:vb3≤4611686018427387904)(h2:vb9.length≤49)(h3:vb7.length≤1000)(h4:ac vb8)(h5:sL am vb9)(h6:vb3≤(vb9.length:Int))(h7:aC vb5∧(vb7.length:Int)≤vb7.length+vb4∧dg pu vb7):(dS (vb0,vb1,vb2,vb3,vb4,vb5,vb6,vb7,vb8,vb9,())).U vb3 (λvb4 a=>aC a.1∧(a.2.length:Int)≤vb7.length+vb4∧dg pu a.2) (λ_=>True):=
 ju (a:=(vb5,vb7)) h0 h1 h7
noncomputable def qj (v0:List Conn)(v1:Int)(v2:Int)(a:Door×Door×List Mail):Tr (Stp (Door×Door×List Mail) (Empty)):=
 .grd (cG v0 v2)<|
 .cal wG.c ((v0.getD v2.toNat (Ty.zero .conn)),()) λc5=>
 .grd (cG a.2.1.table.conns v2)<|
 .lp (dS (v0,v1,v2,(c5.2.length:Int),0,({a.1 with keys.now.rows:=[],keys.before.rows:=[],halves:=[],table.conns:=[],table.waiting:=[]}:Door),({a.2.1 with table.conns:=(a.2.1.table.conns.set v2.toNat c5.1)}:Door),a.2.2,(v0.getD v2.toNat (Ty.zero .conn)),c5.2,())).lp λ(_,a6_0,a6_1)=>
 .ret (.next (({({a6_0 with keys.now.rows:=[],keys.before.rows:=[],halves:=[],table.conns:=[],table.waiting:=[]}:Door)with keys.now.rows:=[],keys.before.rows:=[],halves:=[],table.conns:=[],table.waiting:=[]}:Door),({a.2.1 with table.conns:=(a.2.1.table.conns.set v2.toNat c5.1)}:Door),a6_1))
noncomputable def fm:lR.V→qf lR (Door×Door×List Mail):=λ(v0,v1,v2,v3,v4,v5,_)=>⟨v2,(v3,v4,v5),λv2 a=>(v0,v1,v2,a.1,a.2.1,a.2.2,()),λv2 _=>(decide (v2<v1)),qj v0 v1,up,1,(Int.toNat (v1-v2)),Empty.elim,Prod.mk,oN (.exit 0) ⟨[zp 2 0,zu 3,zp 4 1,zo 5 2],[.box [.st .door [.nil .macRow,.nil .macRow,.nil .half,.nil .conn,.nil .tupl]],.box [.st .door [.own 3,.own 4,.own 5,.own 6,.own 7]],za .mail,zf,zf,zf,zf,zf]⟩ (λx=>(({x.2.1 with keys.now.rows:=[],keys.before.rows:=[],halves:=[],table.conns:=[],table.waiting:=[]}:Door),x.2.2.1,x.2.2.2,()))⟩
theorem Iv:LS Tryz.prog vJ [0] (gc 0 lR fm):=dd st (aL wF) _ fm [(gc 2 jY dS)] ⟨Ds,trivial⟩
theorem HY {v0:List Conn}{v1 v2:Int}{v3 v4:Door}{v5:List Mail}(h0:0≤v2)(h1:v1≤4611686018427387904)(h2:v1≤16)(h3:sL ac v0)(h4:sL bm v4.keys.now.rows)(h5:sL bm v4.keys.before.rows)(h6:sS v4.halves)(h7:sL ac v4.table.conns)(h8:sS v4.table.waiting)(h9:v1≤(v0.length:Int))(h10:aC v3∧v4.keys.now.rows.length=v4.keys.now.rows.length∧dg bm v4.keys.now.rows∧v4.keys.before.rows.length=v4.keys.before.rows.length∧dg bm v4.keys.before.rows∧v4.halves.length=v4.halves.length∧v4.table.conns.length=v4.table.conns.length∧dg ac v4.table.conns∧v4.table.waiting.length=v4.table.waiting.length∧sL pu v5∧(v5.length:Int)≤49*v2∧v1≤(v4.table.conns.length:Int)):(fm (v0,v1,v2,v3,v4,v5,())).U v1 (λv2 a=>aC a.1∧a.2.1.keys.now.rows.length=v4.keys.now.rows.length∧dg bm a.2.1.keys.now.rows∧a.2.1.keys.before.rows.length=v4.keys.before.rows.length∧dg bm a.2.1.keys.before.rows∧a.2.1.halves.length=v4.halves.length∧a.2.1.table.conns.length=v4.table.conns.length∧dg ac a.2.1.table.conns∧a.2.1.table.waiting.length=v4.table.waiting.length∧sL pu a.2.2∧(a.2.2.length:Int)≤49*v2∧v1≤(a.2.1.table.conns.length:Int)) (λ_=>True):=
 LC.okU (i:=v2) (a:=(v3,v4,v5)) (λ_ _=>rfl) (λ_=>rfl) rfl h0 h1 h10 λv2 (v3,v4,v5) hj hk hv=>by
  refine Tr.G2 ?_ λ_=>Tr.C ?_ λ_ _ _=>Tr.G2 ?_ λ_=>Tr.L (Et ?_ ?_ ?_ ?_ ?_ ?_ ?_ ?_) (λ(a6_0,a6_1) _=>Tr.Rn ?_) (λp=>Empty.elim p)
  all_goals ((try simp only[dS,LC.lp,LC.ct,Ct.lp]at*)<;>grind)
noncomputable def wa:FT (Door×Unit) (Door×List Mail) (λx=>aC x.1) (λx v=>aC v.1∧sL pu v.2):=⟨λ(x0,_)=>
  .cal gF.c (x0,()) λc1=>
  .cal bP.c (x0,()) λc2=>
  .ite (!c2) (.ret (c1,[]))<|
  .val (bK.f (x0.clock,1,())) λc3=>
  .cal qN.c (x0.halves,()) λc4=>
  .lp (fm (x0.table.conns,(x0.table.conns.length:Int),0,(⟨0,0,⟨0,⟨false,0,0,[]⟩,⟨false,0,0,[]⟩,false⟩,⟨0,0,0,0⟩,[],⟨[],[]⟩,0⟩:Door),({c1 with clock:=c3,halves:=c4,chal:=0}:Door),[],())).lp λ(_,_,a7_1,a7_2)=>
  .cal tQ.c (a7_1.table,()) λc8=>
  .ret (({a7_1 with table.conns:=c8.conns,table.waiting:=c8.waiting}:Door),a7_2),
 λ(x0,_) hp=>by
  refine Tr.C ?_ λ_ _ _=>Tr.C ?_ λ_ _ _=>Tr.I (λ_=>Tr.R ?_) λ_=>Tr.V λ_ _=>Tr.C ?_ λ_ _ _=>Tr.L (HY ?_ ?_ ?_ ?_ ?_ ?_ ?_ ?_ ?_ ?_ ?_) (λ(a7_0,a7_1,a7_2) _=>Tr.C ?_ λ_ _ _=>Tr.R ?_) (λp=>Empty.elim p)
  all_goals ((try simp only[fm,LC.lp,LC.ct,Ct.lp]at*)<;>grind)⟩
noncomputable def RD:=bS st vJ wF [(gc 0 lR fm)] (ks:=[.st .door]) wa (λv=>[(true,kC (.o true) (.o true) (.o true) .c (.o true) v.1),(false,[sc (.o true) .mail v.2])]) Tryz.func166 ⟨Iv,trivial⟩
noncomputable def MV:=[bT,aJ,wd]
def pJ:Sh:=⟨[zp 0 0,zi 3,zi 4],[.box [.st .curs [.sl .any]]]⟩
noncomputable def Ks:Fx:=⟨299,Tryz.f299,[(0,la ⟨[0,3,4],[],false,1⟩ ⟨[2,3],[],false,1⟩)],1⟩
noncomputable def Oc (v1:Int)(a:Int×Curs):Tr (Stp (Int×Curs) (Empty)):=
 .cal nn.c (a.2,()) λc3=>
 .ret (.next ((IntKind.wrap .i64 ((IntKind.wrap .i64 (256*a.1))+c3.1)),c3.2))
noncomputable def jP:pJ.V→qf pJ (Int×Curs):=λ(v0,v1,v2,_)=>⟨v1,(v0,v2),λv1 a=>(a.1,v1,a.2,()),λv1 _=>(decide (v1<4)),Oc,up,1,(Int.toNat (4-v1)),Empty.elim,Prod.mk,oN (.exit 0) ⟨[zu 2,zi 3],[.box [.st .curs [.sl .any]]]⟩ (λx=>(x.2.1,x.2.2,()))⟩
theorem Nh:LS Tryz.prog Ks [0] (gc 0 pJ jP):=dd st (aL MV) _ jP [] trivial
theorem M7 {v0 v1:Int}{v2:Curs}(h0:0≤v1)(h1:ah v2):(jP (v0,v1,v2,())).U 4 (λv1 a=>ah a.2) (λ_=>True):=
 ju (a:=(v0,v2)) h0 (by decide) h1
noncomputable def kg:FT (Curs×Unit) (Int×Curs) (λx=>ah x.1) (λx v=>ah v.2):=⟨λ(y0,_)=>
  .cal bg.c (y0,3,()) λc1=>
  .ite c1.1 (.cal aD.c (c1.2,[0,1,4294967295,2147483647,2147483648,4294967294],()) λc2=>
   .ret (c2.1,c2.2))<|
  .lp (jP (0,0,c1.2,())).lp λ(_,a4_0,a4_1)=>
  .ret (a4_0,a4_1),
 λ(y0,_) hp=>by
  refine Tr.C ?_ λ_ _ _=>Tr.I (λ_=>Tr.C ?_ λ_ _ _=>Tr.R ?_) λ_=>Tr.L (M7 ?_ ?_) (λ(a4_0,a4_1) _=>Tr.R ?_) (λp=>Empty.elim p)
  all_goals ((try simp only[jP,LC.lp,LC.ct,Ct.lp]at*)<;>grind)⟩
noncomputable def mv:=cq st Ks MV [(gc 0 pJ jP)] [.wr false [.ptr 0]] [.box [.st .curs]] (λx y=>(y.1.1,())) kg (λv=>[(false,[.c (.int .i64 v.1)])]) (λx y v=>((v.2,()),())) Tryz.func299 (by kernel_rfl) ⟨Nh,trivial⟩
noncomputable def z6:FT (Stac×aa×Unit) (Stac×List aa×Int) (λx=>az x.1∧sS x.2.1) (λx v=>az v.1∧sL sS v.2.1):= .mk λ(x0,x1,_)=>
  .cal jo.c (x0,()) λc1=>
  .cal bU.c (x0,()) λc2=>
  .ite (!c2) (.ret (c1,[],0))<|
  .cal bO.c (x0.link,x1,()) λc3=>
  .ite (c3.2.1==1) (.ret (({c1 with link.mac:=c3.1.mac,link.ip:=c3.1.ip,link.cache:=c3.1.cache}:Stac),[c3.2.2.2],0))<|
  .ite (c3.2.1 != 2) (.ret (({c1 with link.mac:=c3.1.mac,link.ip:=c3.1.ip,link.cache:=c3.1.cache}:Stac),[],0))<|
  .cal aQ.c (c3.2.2.1.body,c3.2.2.1.src,c3.2.2.1.dst,()) λc4=>
  .ite (!c4.2) (.ret (({c1 with link.mac:=c3.1.mac,link.ip:=c3.1.ip,link.cache:=c3.1.cache}:Stac),[],0))<|
  .cal IT.c (x0.door,c3.2.2.1.src,c4.1,()) λc5=>
  .cal rE.c ((⟨c3.1,c5.1⟩:Stac),c3.2.2.1.src,c5.2.1,()) λc6=>
  .ret ((⟨c3.1,c5.1⟩:Stac),c6,c5.2.2)
noncomputable def Sn:=a9 st Tryz.func68 [nI,y9,Xy,xC,aaK,yt] (ks:=[.st .stac,.sc .str]) z6 (λv=>[(true,nz (.o true) (.o true) (.o true) (.o true) (.o true) (.o true) v.1),(false,[sc (.o true) .str v.2.1]),(false,[.c (.int .i64 v.2.2)])])
def vp:Sh:=⟨[zp 1 0,zp 2 1,zp 4 2,zo 7 3,zo 31 4,zi 32,zi 33],[.box [.st .stac [.sl .arg,.sl .arg,.sl .arg,.sl .arg,.sl .arg,.sl .arg]],.box [.st .stac [.nil .entr,.nil .macRow,.nil .macRow,.nil .half,.nil .conn,.nil .tupl]],.box [.st .stac [.own 5,.own 6,.own 7,.own 8,.sl .any,.own 9]],za .str,za .mail,zf,zf,zf,zf,zf]⟩
noncomputable def oI (v2:Stac)(v6:List Mail)(v1:Int)(a:Stac×List aa):Tr (Stp (Stac×List aa) (Empty)):=
 .grd (cG v6 v1)<|
 .cal rE.c (v2,(v6.getD v1.toNat (Ty.zero .mail)).ip,[(v6.getD v1.toNat (Ty.zero .mail)).g],()) λc5=>
 .grd (Nat.ble ((2*(a.2.length+c5.length)+1024)*16) bc)<|
 .ret (.next (({a.1 with link.cache:=[],door.keys.now.rows:=[],door.keys.before.rows:=[],door.halves:=[],door.table.conns:=[],door.table.waiting:=[]}:Stac),(a.2++c5)))
noncomputable def ik:vp.V→qf vp (Stac×List aa):=λ(v0,v1,v2,v3,v4,v5,v6,_)=>⟨v1,(v3,v5),λv1 a=>(v0,v1,v2,a.1,v4,a.2,v6,()),λv1 _=>(decide (v1<v0)),oI v2 v6,up,1,(Int.toNat (v0-v1)),Empty.elim,Prod.mk,oN (.exit 0) ⟨[zp 2 0,zu 3,zp 4 1,zo 7 2],[.box [.st .stac [.nil .entr,.nil .macRow,.nil .macRow,.nil .half,.nil .conn,.nil .tupl]],.box [.st .stac [.own 3,.own 4,.own 5,.own 6,.sl .any,.own 7]],za .str,zf,zf,zf,zf,zf]⟩ (λx=>(({x.2.1 with link.cache:=[],door.keys.now.rows:=[],door.keys.before.rows:=[],door.halves:=[],door.table.conns:=[],door.table.waiting:=[]}:Stac),v4,x.2.2,()))⟩
theorem Fv {v0 v1:Int}{v2 v3 v4:Stac}{v5:List aa}{v6:List Mail}(h0:0≤v1)(h1:v0≤4611686018427387904)(h2:az v2)(h3:sL pu v6)(h4:v0≤(v6.length:Int))(h5:az v3∧sL sS v5∧(v5.length:Int)≤v1):(ik (v0,v1,v2,v3,v4,v5,v6,())).U v0 (λv1 a=>az a.1∧sL sS a.2∧(a.2.length:Int)≤v1) (λ_=>True):=
 ju (a:=(v3,v5)) h0 h1 h5
noncomputable def tZ:FT (Stac×Unit) (Stac×List aa) (λx=>az x.1) (λx v=>az v.1∧sL sS v.2):=⟨λ(x0,_)=>
  .cal jo.c (x0,()) λc1=>
  .cal bU.c (x0,()) λc2=>
  .ite (!c2) (.ret (c1,[]))<|
  .cal Ql.c (x0.link.cache,()) λc3=>
  .cal wa.c (x0.door,()) λc4=>
  .lp (ik ((c4.2.length:Int),0,x0,(⟨⟨0,0,[]⟩,⟨0,0,⟨0,⟨false,0,0,[]⟩,⟨false,0,0,[]⟩,false⟩,⟨0,0,0,0⟩,[],⟨[],[]⟩,0⟩⟩:Stac),(⟨⟨c1.link.mac,c1.link.ip,c3⟩,c4.1⟩:Stac),[],c4.2,())).lp λ(_,_,a6_1)=>
  .ret ((⟨⟨c1.link.mac,c1.link.ip,c3⟩,c4.1⟩:Stac),a6_1),
 λ(x0,_) hp=>by
  refine Tr.C ?_ λ_ _ _=>Tr.C ?_ λ_ _ _=>Tr.I (λ_=>Tr.R ?_) λ_=>Tr.C ?_ λ_ _ _=>Tr.C ?_ λ_ _ _=>Tr.L (Fv ?_ ?_ ?_ ?_ ?_ ?_) (λ(a6_0,a6_1) _=>Tr.R ?_) (λp=>Empty.elim p)
  all_goals ((try simp only[ik,LC.lp,LC.ct,Ct.lp]at*)<;>grind)⟩
noncomputable def NB:=eE st Tryz.func69 [(0,lb [1,2,4,7,31,32,33] [2,3,4,7]),(4000000,la ⟨[],[],false,0⟩ ⟨[],[.softb 2 20],false,0⟩)] [nI,y9,abX,RD,yt] 0 ik (ks:=[.st .stac]) tZ (λv=>[(true,nz (.o true) (.o true) (.o true) (.o true) .c (.o true) v.1),(false,[sc (.o true) .str v.2])])
noncomputable def PK:FT (Curs×Unit) (Int×Curs) (λx=>ah x.1) (λx v=>ah v.2):= .mk λ(y0,_)=>
  .cal bg.c (y0,12,()) λc1=>
  .ite c1.1 (.cal Ah.c (c1.2,()) λc2=>
   .ret (c2.1,c2.2))<|
  .cal kg.c (c1.2,()) λc3=>
  .ret (c3.1,c3.2)
noncomputable def Um:=cq st ⟨184,Tryz.f184,[],1⟩ [bT,yO,mv] [] [.wr false [.ptr 0]] [.box [.st .curs]] (λx y=>(y.1.1,())) PK (λv=>[(false,[.c (.int .i64 v.1)])]) (λx y v=>((v.2,()),())) Tryz.func184 (by kernel_rfl) trivial
noncomputable def abs:=[nI,y9,ZR,Sn,NB,N7,Hq,O4,gC,rZ,QV,x9,yt]
noncomputable def aaX:Fx:=⟨24,Tryz.f24,[(3000002,rA 0 29),(3000019,rA 0 102),(4000000,la ⟨[],[],false,0⟩ ⟨[],[.softb 4 20],false,0⟩)],0⟩
noncomputable def Cv:FT (Stac×Acti×Unit) (Stac×Resu) (λx=>az x.1∧ba x.2.1) (λx v=>az v.1∧gY v.2):= .mk λ(x0,x1,_)=>
  .cal jo.c (x0,()) λc1=>
  .bnd (β:=Bool×Unit) (.as (λw=>(w.1=false→x0.door.table.conns.length≤16)) (.cal bU.c (x0,()) λc2=>
   .ite (!c2) (.ret (true,()))<|
   .cal tz.c (x1,()) λc3=>
   .ret ((!c3),()))) λ(u4a0,_)=>
  .ite u4a0 (.ret (c1,(⟨[],0,⟨0,0,0⟩,0,[],false⟩:Resu)))<|
  .ite (x1.kind==1) (.cal z6.c (x0,x1.text,()) λc5=>
   .ret (c5.1,(⟨c5.2.1,c5.2.2,⟨0,0,0⟩,0,[],true⟩:Resu)))<|
  .ite (x1.kind==2) (.cal tZ.c (x0,()) λc6=>
   .ret (c6.1,(⟨c6.2,0,⟨0,0,0⟩,0,[],true⟩:Resu)))<|
  .ite (x1.kind==3) (.cal kp.c (x0.door,x1.mac,()) λc7=>
   .ret ((⟨c1.link,c7⟩:Stac),(⟨[],0,⟨0,0,0⟩,0,[],true⟩:Resu)))<|
  .ite (x1.kind==4) (.cal pq.c (x0.door.table,()) λc8=>
   .cal tQ.c (c8.1,()) λc9=>
   .ret (({c1 with door.table.conns:=c9.conns,door.table.waiting:=c9.waiting}:Stac),(⟨[],0,c8.2.1,0,[],c8.2.2⟩:Resu)))<|
  .cal av.c (x0.door.table,x1.tuple,()) λc10=>
  .bnd (β:=Bool×Unit) (.ite (decide (c10<0)) (.ret (true,()))<|
   .cal iE.c (x0.door.table.waiting,x1.tuple,()) λc11=>
   .ret (c11,())) λ(u12a0,_)=>
  .ite u12a0 (.ret (c1,(⟨[],0,⟨0,0,0⟩,0,[],false⟩:Resu)))<|
  .grd (cG x0.door.table.conns c10)<|
  .cal wA.c ((x0.door.table.conns.getD c10.toNat (Ty.zero .conn)),x1,()) λc13=>
  .cal de.c (x0.door.table,c13.1,()) λc14=>
  .cal tQ.c (c14,()) λc15=>
  .cal rE.c (x0,x1.tuple.ip,c13.2.2.2,()) λc16=>
  .ret (({c1 with door.table.conns:=c15.conns,door.table.waiting:=c15.waiting}:Stac),(⟨c16,0,⟨0,0,0⟩,c13.2.1,c13.2.2.1,true⟩:Resu))
noncomputable def Ux:=bS st aaX abs [] (ks:=[.st .stac,.st .acti]) Cv (λv=>[(true,nz (.o true) (.o true) (.o true) (.o true) .c (.o true) v.1),(true,Rj (.o true) v.2)]) Tryz.func24 trivial
noncomputable def M5:=[eA,bT,aJ,ax,mv]
def Fk:An:=⟨⟨[],[],false,1⟩,⟨[0,2,3],[],false,1⟩,⟨[],[]⟩,[(.normal,⟨[zp 0 0,zp 2 1,zp 3 2],[.box [.st .curs [.sl .any]],zx .opti,zx .opti]⟩)]⟩
def Eu:An:=⟨⟨[],[],false,1⟩,⟨[0,2,3],[],false,1⟩,⟨[],[]⟩,[(.normal,⟨[zp 0 0,zp 2 1,zp 3 2],[.box [.st .curs [.sl .any]],zx .opti,zx .opti]⟩)]⟩
noncomputable def N4:Fx:=⟨415,Tryz.f415,[(1000007,Fk),(1000013,Eu)],1⟩
noncomputable def qa:FT (Curs×Unit) (Opti×Curs) (λx=>ah x.1) (λx v=>ah v.2):= .mk λ(y0,_)=>
  .val (bX.f (())) λc1=>
  .cal bg.c (y0,3,()) λc2=>
  .bnd (β:=Curs×Opti×Opti×Unit) (.as (λw=>ah w.1) (.ite (!c2.1) (.cal aD.c (c2.2,[536,1460,1300,64,65535,1],()) λc3=>
    .ret (c3.2,(⟨0,0,false,false,0,0⟩:Opti),({c1 with mss:=c3.1}:Opti),()))<|
   .ret (c2.2,(⟨0,0,false,false,0,0⟩:Opti),c1,()))) λ(u4a0,u4a1,u4a2,_)=>
  .cal bg.c (u4a0,2,()) λc5=>
  .bnd (β:=Curs×Opti×Opti×Unit) (.as (λw=>ah w.1) (.ite c5.1 (.cal aj.c (c5.2,15,()) λc6=>
    .ret (c6.2,u4a1,({u4a2 with scale:=c6.1}:Opti),()))<|
   .ret (c5.2,u4a1,u4a2,()))) λ(u7a0,_,u7a2,_)=>
  .cal bg.c (u7a0,2,()) λc8=>
  .cal bg.c (c8.2,2,()) λc9=>
  .ite c9.1 (.cal kg.c (c9.2,()) λc10=>
   .cal kg.c (c10.2,()) λc11=>
   .ret ((⟨u7a2.mss,u7a2.scale,c8.1,true,c10.1,c11.1⟩:Opti),c11.2))<|
  .ret (({u7a2 with sack:=c8.1}:Opti),c9.2)
noncomputable def pF:=cq st N4 M5 [] [.wr false [.ptr 0]] [.box [.st .curs]] (λx y=>(y.1.1,())) qa (λv=>[(true,oU v.1)]) (λx y v=>((v.2,()),())) Tryz.func415 (by kernel_rfl) trivial
def Bw:Sh:=⟨[zp 5 0,zo 6 1,zo 7 2,(19,false,[.sl .any .acti]),zi 20,zi 21],[.box [.st .stac [.own 3,.own 4,.own 5,.own 6,.sl .any,.own 7]],za .issu,za .issu,zf,zf,zf,zf,zf]⟩
noncomputable def ux (v0:List Acti)(v2:Int)(a:Stac×List Issu×List Issu):Tr (Stp (Stac×List Issu×List Issu) (Empty)):=
 .grd (cG v0 v2)<|
 .cal Cv.c (a.1,(v0.getD v2.toNat (Ty.zero .acti)),()) λc9=>
 .cal sO.c ((v0.getD v2.toNat (Ty.zero .acti)),c9.2,()) λc10=>
 .bnd (β:=Bool×Unit) (.ite c10.2 (.cal rU.c (a.2.1,c10.1,()) λc11=>
   .ret ((!c11),()))<|
  .ret (false,())) λ(u12a0,_)=>
 .ite u12a0 (.grd (px a.2.2 1 40)<|
  .cal mn.c (a.1,c9.2,()) λc13=>
  .grd (Nat.ble ((2*(a.2.1.length+c13.length)+1024)*40) bc)<|
  .ret (.next (c9.1,(a.2.1++c13),(a.2.2++[c10.1]))))<|
 .cal mn.c (a.1,c9.2,()) λc14=>
 .grd (Nat.ble ((2*(a.2.1.length+c14.length)+1024)*40) bc)<|
 .ret (.next (c9.1,(a.2.1++c14),a.2.2))
noncomputable def lB:Bw.V→qf Bw (Stac×List Issu×List Issu):=λ(v0,v1,v2,v3,v4,v5,_)=>⟨v2,(v3,v4,v5),λv2 a=>(v0,v1,v2,a.1,a.2.1,a.2.2,()),λv2 _=>(decide (v2<v1)),ux v0,up,1,(Int.toNat (v1-v2)),Empty.elim,Prod.mk,oN (.exit 0) ⟨[zu 4,zo 7 0],[za .issu]⟩ (λx=>(x.2.2.2,()))⟩
theorem NK {v0:List Acti}{v1 v2:Int}{v3:Stac}{v4 v5:List Issu}(h0:0≤v2)(h1:v1≤4611686018427387904)(h2:v1≤60)(h3:sL ba v0)(h4:v1≤(v0.length:Int))(h5:az v3∧(v4.length:Int)≤4294967296*v2∧(v5.length:Int)≤v2):(lB (v0,v1,v2,v3,v4,v5,())).U v1 (λv2 a=>az a.1∧(a.2.1.length:Int)≤4294967296*v2∧(a.2.2.length:Int)≤v2) (λ_=>True):=
 ju (a:=(v3,v4,v5)) h0 h1 h5
noncomputable def ES:FT (Stac×List Acti×Unit) (List Issu) (λx=>az x.1∧sL ba x.2.1) (λx v=>sS v):=⟨λ(x0,x1,_)=>
  .cal jo.c (x0,()) λc1=>
  .cal tL.c (x1,()) λc2=>
  .lp (lB (c2,(c2.length:Int),0,c1,[],[],())).lp λ(_,_,_,a15_2)=>
  .ret a15_2,
 λ(x0,x1,_) hp=>by
  refine Tr.C ?_ λ_ _ _=>Tr.C ?_ λ_ _ _=>Tr.L (NK ?_ ?_ ?_ ?_ ?_ ?_) (λ(a15_0,a15_1,a15_2) _=>Tr.R ?_) (λp=>Empty.elim p)
  all_goals ((try simp only[lB,LC.lp,LC.ct,Ct.lp]at*)<;>grind)⟩
noncomputable def XZ:=eE st Tryz.func8 [(0,la ⟨[5,6,7,19,20,21],[.softb 5 20],false,0⟩ ⟨[4,7],[],false,0⟩),(3000009,rA 0 43)] [nI,Ny,Ux,EM,DM,CT] 0 lB (ks:=[.st .stac,.sc (.sl .acti)]) ES (λv=>[(false,[sc (.o true) .issu v])])
noncomputable def qR:FT (Stac×Acti×Unit) (Issu×Bool) (λx=>az x.1∧ba x.2.1) (λ_ _=>True):= .mk λ(x0,x1,_)=>
  .cal Cv.c (x0,x1,()) λc1=>
  .cal sO.c (x1,c1.2,()) λc2=>
  .ret (c2.1,c2.2)
noncomputable def JD:=a9 st Tryz.func10 [Ux,EM] (ks:=[.st .stac,.st .acti]) qR (λv=>[(true,Wn v.1),(false,[.c (.bool v.2)])])
noncomputable def du:FT (Curs×Unit) (Int×Curs) (λx=>ah x.1) (λx v=>ah v.2):=⟨λ(y0,_)=>
  .cal aj.c (y0,3,()) λc1=>
  .ite (c1.1==0) (.cal Ah.c (c1.2,()) λc2=>
   .ret (c2.1,c2.2))<|
  .ite (c1.1==1) (.cal aD.c (c1.2,[0,1,255,256,65535,65536,16777215,4294967295,4294967296,281474976710655,281474976710656],()) λc3=>
   .ret (c3.1,c3.2))<|
  .cal aj.c (c1.2,65536,()) λc4=>
  .ret (c4.1,c4.2),
 λ(y0,_) hp=>by
  refine Tr.C ?_ λ_ _ _=>Tr.I (λ_=>Tr.C ?_ λ_ _ _=>Tr.R ?_) λ_=>Tr.I (λ_=>Tr.C ?_ λ_ _ _=>Tr.R ?_) λ_=>Tr.C ?_ λ_ _ _=>Tr.R ?_
  all_goals (first|grind|(simp only[sS,List.length_cons,List.length_nil];grind))⟩
noncomputable def fQ:=cq st ⟨300,Tryz.f300,[],1⟩ [ax,yO,aJ] [] [.wr false [.ptr 0]] [.box [.st .curs]] (λx y=>(y.1.1,())) du (λv=>[(false,[.c (.int .i64 v.1)])]) (λx y v=>((v.2,()),())) Tryz.func300 (by kernel_rfl) trivial
noncomputable def J6:FT (Curs×Unit) (Segm×Curs) (λx=>ah x.1) (λx v=>am v.1∧ah v.2):= .mk λ(y0,_)=>
  .cal aD.c (y0,[40000,40001,40002],()) λc1=>
  .cal kg.c (c1.2,()) λc2=>
  .cal aD.c (c2.2,[0,64,65535],()) λc3=>
  .cal qa.c (c3.2,()) λc4=>
  .ret ((⟨c1.1,80,c2.1,0,2,c3.1,c4.1,[]⟩:Segm),c4.2)
noncomputable def J9:=cq st ⟨335,Tryz.f335,[],1⟩ [aJ,mv,pF] [] [.wr false [.ptr 0]] [.box [.st .curs]] (λx y=>(y.1.1,())) J6 (λv=>[(true,oK v.1)]) (λx y v=>((v.2,()),())) Tryz.func335 (by kernel_rfl) trivial
noncomputable def Av:FT (Curs×Unit) (Tupl×Curs) (λx=>ah x.1) (λx v=>ah v.2):= .mk λ(y0,_)=>
  .cal pg.c (y0,()) λc1=>
  .cal aj.c (c1.2,10,()) λc2=>
  .ite (c2.1==0) (.cal du.c (c2.2,()) λc3=>
   .ret (({c1.1 with ip:=c3.1}:Tupl),c3.2))<|
  .ite (c2.1==1) (.cal du.c (c2.2,()) λc4=>
   .ret (({c1.1 with port:=c4.1}:Tupl),c4.2))<|
  .ite (c2.1==2) (.cal du.c (c2.2,()) λc5=>
   .ret (({c1.1 with my:=c5.1}:Tupl),c5.2))<|
  .ret (c1.1,c2.2)
noncomputable def yC:=cq st ⟨185,Tryz.f185,[],1⟩ [nr,ax,fQ] [] [.wr false [.ptr 0]] [.box [.st .curs]] (λx y=>(y.1.1,())) Av (λv=>[(true,FI v.1)]) (λx y v=>((v.2,()),())) Tryz.func185 (by kernel_rfl) trivial
noncomputable def GT:=[wd]
def og:Sh:=⟨[zp 0 0,zi 1,zo 5 1,zi 6],[.box [.st .curs [.sl .any]],za .u8]⟩
noncomputable def Gz:Fx:=⟨339,Tryz.f339,[(0,la ⟨[0,1,5,6],[.softo 0 0],false,1⟩ ⟨[4,5],[],false,1⟩)],1⟩
noncomputable def JC (v1:Int)(a:Curs×List Int):Tr (Stp (Curs×List Int) (Empty)):=
 .cal nn.c (a.1,()) λc2=>
 .grd (px a.2 1 1)<|
 .ret (.next (c2.2,(a.2++[(IntKind.wrap .u8 c2.1)])))
noncomputable def iJ:og.V→qf og (Curs×List Int):=λ(v0,v1,v2,v3,_)=>⟨v1,(v2,v3),λv1 a=>(v0,v1,a.1,a.2,()),λv1 _=>(decide (v1<v0)),JC,up,1,(Int.toNat (v0-v1)),Empty.elim,Prod.mk,oN (.exit 0) ⟨[zu 4,zo 5 1],[.box [.st .curs [.sl .any]],za .u8]⟩ (λx=>(x.2.1,x.2.2,()))⟩
theorem Kn:LS Tryz.prog Gz [0] (gc 0 og iJ):=dd st (aL GT) _ iJ [] trivial
theorem JF {v0 v1:Int}{v2:Curs}{v3:List Int}(h0:0≤v1)(h1:v0≤4611686018427387904)(h2:v0≤4294967296)(h3:ah v2∧(v3.length:Int)=v1):(iJ (v0,v1,v2,v3,())).U v0 (λv1 a=>ah a.1∧(a.2.length:Int)=v1) (λ_=>True):=
 ju (a:=(v2,v3)) h0 h1 h3
noncomputable def jB:FT (Curs×Int×Unit) (List Int×Curs) (λx=>ah x.1∧x.2.1≤1048576) (λx v=>sS v.1∧ah v.2):=⟨λ(y0,x1,_)=>
  .lp (iJ (x1,0,y0,[],())).lp λ(_,a3_0,a3_1)=>
  .ret (a3_1,a3_0),
 λ(y0,x1,_) hp=>by
  refine Tr.L (JF ?_ ?_ ?_ ?_) (λ(a3_0,a3_1) _=>Tr.R ?_) (λp=>Empty.elim p)
  all_goals ((try simp only[iJ,LC.lp,LC.ct,Ct.lp]at*)<;>grind)⟩
noncomputable def iM:=cq st Gz GT [(gc 0 og iJ)] [.wr false [.ptr 0],.sc (.int .i64)] [.box [.st .curs]] (λx y=>(y.1.1,x.2.1,())) jB (λv=>[(false,[sc (.o true) .u8 v.1])]) (λx y v=>((v.2,()),())) Tryz.func339 (by kernel_rfl) ⟨Kn,trivial⟩
noncomputable def sB:FT (Curs×Int×Unit) (Int×Curs) (λx=>ah x.1) (λx v=>ah v.2):= .mk λ(y0,x1,_)=>
  .cal aj.c (y0,4,()) λc1=>
  .ite (c1.1==0) (.cal PK.c (c1.2,()) λc2=>
   .ret (c2.1,c2.2))<|
  .ite (c1.1==1) (.cal aD.c (c1.2,[2147483647,2147483648,(-1),1,0],()) λc3=>
   .val (bJ.f (x1,c3.1,())) λc4=>
   .ret (c4,c3.2))<|
  .cal aj.c (c1.2,41,()) λc5=>
  .val (bJ.f (x1,(IntKind.wrap .i64 (c5.1-20)),())) λc6=>
  .ret (c6,c5.2)
noncomputable def LG:=cq st ⟨416,Tryz.f416,[],1⟩ [ax,Um,aJ,dh] [] [.wr false [.ptr 0],.sc (.int .i64)] [.box [.st .curs]] (λx y=>(y.1.1,x.2.1,())) sB (λv=>[(false,[.c (.int .i64 v.1)])]) (λx y v=>((v.2,()),())) Tryz.func416 (by kernel_rfl) trivial
noncomputable def X7:=[dh,aJ,eA,ax,iM,bT,LG,gI]
def Kk:An:=⟨⟨[],[],false,1⟩,⟨[0,6,7],[],false,1⟩,⟨[],[]⟩,[(.normal,⟨[zp 0 0,zp 6 1,zp 7 2],[.box [.st .curs [.sl .any]],zx .segm,zx .segm]⟩)]⟩
noncomputable def XN:Fx:=⟨336,Tryz.f336,[(1000035,Kk)],1⟩
noncomputable def yf:FT (Curs×Segm×Segm×Unit) (Segm×Curs) (λx=>ah x.1∧am x.2.1∧am x.2.2.1) (λx v=>am v.1∧ah v.2):= .mk λ(y0,x1,x2,_)=>
  .val (bJ.f (x1.seq,1,())) λc1=>
  .val (bJ.f (x2.seq,1,())) λc2=>
  .cal aD.c (y0,[0,9,65535],()) λc3=>
  .val (bX.f (())) λc4=>
  .cal aj.c (c3.2,3,()) λc5=>
  .cal jB.c (c5.2,c5.1,()) λc6=>
  .ite x2.opts.stamp (.cal bg.c (c6.2,6,()) λc7=>
   .bnd (β:=Curs×Segm×Segm×Unit) (.as (λw=>ah w.1∧am w.2.1∧am w.2.2.1) (.ite (!c7.1) (.val (bJ.f (x1.opts.val,1,())) λc8=>
     .ret (c7.2,(⟨0,0,0,0,0,0,⟨0,0,false,false,0,0⟩,[]⟩:Segm),(⟨x1.from_,x1.to,c1,c2,16,c3.1,⟨c4.mss,c4.scale,c4.sack,true,c8,x2.opts.val⟩,(aw c6.1)⟩:Segm),()))<|
    .ret (c7.2,(⟨0,0,0,0,0,0,⟨0,0,false,false,0,0⟩,[]⟩:Segm),(⟨x1.from_,x1.to,c1,c2,16,c3.1,c4,(aw c6.1)⟩:Segm),()))) λ(u9a0,_,u9a2,_)=>
   .cal aj.c (u9a0,12,()) λc10=>
   .ite (c10.1==0) (.cal sB.c (c10.2,u9a2.ack,()) λc11=>
    .val (bQ.f (c11.1,())) λc12=>
    .ret (({u9a2 with ack:=c12}:Segm),c11.2))<|
   .ite (c10.1==1) (.cal sB.c (c10.2,u9a2.seq,()) λc13=>
    .val (bQ.f (c13.1,())) λc14=>
    .ret (({u9a2 with seq:=c14}:Segm),c13.2))<|
   .ret (u9a2,c10.2))<|
  .cal aj.c (c6.2,12,()) λc15=>
  .ite (c15.1==0) (.cal sB.c (c15.2,c2,()) λc16=>
   .val (bQ.f (c16.1,())) λc17=>
   .ret ((⟨x1.from_,x1.to,c1,c17,16,c3.1,c4,(aw c6.1)⟩:Segm),c16.2))<|
  .ite (c15.1==1) (.cal sB.c (c15.2,c1,()) λc18=>
   .val (bQ.f (c18.1,())) λc19=>
   .ret ((⟨x1.from_,x1.to,c19,c2,16,c3.1,c4,(aw c6.1)⟩:Segm),c18.2))<|
  .ret ((⟨x1.from_,x1.to,c1,c2,16,c3.1,c4,(aw c6.1)⟩:Segm),c15.2)
noncomputable def Lr:=cq st XN X7 [] [.wr false [.ptr 0],.st .segm,.st .segm] [.box [.st .curs]] (λx y=>(y.1.1,x.2.1,x.2.2.1,())) yf (λv=>[(true,oK v.1)]) (λx y v=>((v.2,()),())) Tryz.func336 (by kernel_rfl) trivial
noncomputable def GG:=[ax,UG,AY,J9,tS,fA,OE,bT,Lr,Pl]
def m5:Sh:=⟨[zp 0 0,zp 2 1,zp 3 2,zi 4,zi 5],[.box [.st .curs [.sl .any]],.box [.st .door [.nil .macRow,.nil .macRow,.nil .half,.nil .conn,.nil .tupl]],.box [.st .door [.own 3,.own 4,.own 5,.own 6,.own 7]],zf,zf,zf,zf,zf]⟩
noncomputable def GF:Fx:=⟨225,Tryz.f225,[(0,la ⟨[0,2,3,4,5],[.box 3 16 .half,.box 3 17 .conn,.box 3 18 .tupl],false,1⟩ ⟨[2,3],[],false,1⟩)],1⟩
noncomputable def Ji (v1:Int)(a:Curs×Door×Door):Tr (Stp (Curs×Door×Door) (Empty)):=
 .cal J6.c (a.1,()) λc13=>
 .cal aj.c (c13.2,2,()) λc14=>
 .val (mH.f ((IntKind.wrap .i64 (167772162+c14.1)),c13.1,())) λc15=>
 .cal dT.c (a.2.2.table,c15,()) λc16=>
 .ite (decide (0≤c16)) (.ret (.next (c14.2,({a.2.1 with keys.now.rows:=[],keys.before.rows:=[],halves:=[],table.conns:=[],table.waiting:=[]}:Door),a.2.2)))<|
 .cal Dq.c (a.2.2,c15,c13.1,()) λc17=>
 .ite (decide (0<(c17.2.length:Int))) (.cal bg.c (c14.2,2,()) λc18=>
  .ite c18.1 (.grd (decide (0<(c17.2.length:Int)))<|
   .cal yf.c (c18.2,c13.1,(c17.2.getD 0 (Ty.zero .segm)),()) λc19=>
   .cal EC.c (c17.1,c15,c19.1,()) λc20=>
   .ret (.next (c19.2,({a.2.1 with keys.now.rows:=[],keys.before.rows:=[],halves:=[],table.conns:=[],table.waiting:=[]}:Door),c20.1)))<|
  .ret (.next (c18.2,({a.2.1 with keys.now.rows:=[],keys.before.rows:=[],halves:=[],table.conns:=[],table.waiting:=[]}:Door),c17.1)))<|
 .ret (.next (c14.2,({a.2.1 with keys.now.rows:=[],keys.before.rows:=[],halves:=[],table.conns:=[],table.waiting:=[]}:Door),c17.1))
noncomputable def iq:m5.V→qf m5 (Curs×Door×Door):=λ(v0,v1,v2,v3,v4,_)=>⟨v1,(v2,v3,v4),λv1 a=>(v0,v1,a.1,a.2.1,a.2.2,()),λv1 _=>(decide (v1<v0)),Ji,up,1,(Int.toNat (v0-v1)),Empty.elim,Prod.mk,oN (.exit 0) ⟨[zp 2 1,zp 3 2],[.box [.st .curs [.sl .any]],.box [.st .door [.nil .macRow,.nil .macRow,.nil .half,.nil .conn,.nil .tupl]],.box [.st .door [.own 3,.own 4,.own 5,.own 6,.own 7]],zf,zf,zf,zf,zf]⟩ (λx=>(x.2.1,({x.2.2.1 with keys.now.rows:=[],keys.before.rows:=[],halves:=[],table.conns:=[],table.waiting:=[]}:Door),x.2.2.2,()))⟩
theorem MM:LS Tryz.prog GF [0] (gc 0 m5 iq):=dd st (aL GG) _ iq [] trivial
theorem LX {v0 v1:Int}{v2:Curs}{v3 v4:Door}(h0:0≤v1)(h1:v0≤4611686018427387904)(h2:ah v2∧aC v3∧aC v4):(iq (v0,v1,v2,v3,v4,())).U v0 (λv1 a=>ah a.1∧aC a.2.1∧aC a.2.2) (λ_=>True):=
 ju (a:=(v2,v3,v4)) h0 h1 h2
noncomputable def Fa:FT (Curs×Unit) (Door×Curs) (λx=>ah x.1) (λx v=>aC v.1∧ah v.2):=⟨λ(y0,_)=>
  .cal aj.c (y0,99,()) λc1=>
  .cal Ph.c (c1.2,()) λc2=>
  .cal yl.c (c2.2,()) λc3=>
  .cal aj.c (c3.2,6,()) λc4=>
  .lp (iq (c4.1,0,c4.2,(⟨0,0,⟨0,⟨false,0,0,[]⟩,⟨false,0,0,[]⟩,false⟩,⟨0,0,0,0⟩,[],⟨[],[]⟩,0⟩:Door),(⟨80,c1.1,c2.1,c3.1,[],⟨[],[]⟩,0⟩:Door),())).lp λ(_,a21_0,_,a21_2)=>
  .ret (a21_2,a21_0),
 λ(y0,_) hp=>by
  refine Tr.C ?_ λ_ _ _=>Tr.C ?_ λ_ _ _=>Tr.C ?_ λ_ _ _=>Tr.C ?_ λ_ _ _=>Tr.L (LX ?_ ?_ ?_) (λ(a21_0,a21_1,a21_2) _=>Tr.R ?_) (λp=>Empty.elim p)
  all_goals ((try simp only[iq,LC.lp,LC.ct,Ct.lp]at*)<;>grind)⟩
noncomputable def Gq:=cq st GF GG [(gc 0 m5 iq)] [.wr false [.ptr 0]] [.box [.st .curs]] (λx y=>(y.1.1,())) Fa (λv=>[(true,kC (.o true) (.o true) (.o true) (.o true) (.o true) v.1)]) (λx y v=>((v.2,()),())) Tryz.func225 (by kernel_rfl) ⟨MM,trivial⟩
noncomputable def Cj:FT (Curs×Unit) (Stac×Curs) (λx=>ah x.1) (λx v=>az v.1∧ah v.2):= .mk λ(y0,_)=>
  .cal ww.c (y0,()) λc1=>
  .cal Fa.c (c1.2,()) λc2=>
  .cal oY.c (c1.1,167772162,12,()) λc3=>
  .ret ((⟨⟨11,167772161,c3⟩,c2.1⟩:Stac),c2.2)
noncomputable def EK:=cq st ⟨110,Tryz.f110,[],1⟩ [wN,Gq,tP] [] [.wr false [.ptr 0]] [.box [.st .curs]] (λx y=>(y.1.1,())) Cj (λv=>[(true,nz (.o true) (.o true) (.o true) (.o true) (.o true) (.o true) v.1)]) (λx y v=>((v.2,()),())) Tryz.func110 (by kernel_rfl) trivial
noncomputable def DT:FT (Curs×Unit) (Int×Curs) (λx=>ah x.1) (λx v=>ah v.2):= .mk λ(y0,_)=>
  .cal aD.c (y0,[11,12,13,281474976710655,0,2199023255552],()) λc1=>
  .ret (c1.1,c1.2)
noncomputable def OM:=cq st ⟨483,Tryz.f483,[],1⟩ [aJ] [] [.wr false [.ptr 0]] [.box [.st .curs]] (λx y=>(y.1.1,())) DT (λv=>[(false,[.c (.int .i64 v.1)])]) (λx y v=>((v.2,()),())) Tryz.func483 (by kernel_rfl) trivial
noncomputable def Yt:FT (Curs×Unit) (Arpm×Curs) (λx=>ah x.1) (λx v=>ah v.2):= .mk λ(y0,_)=>
  .cal aj.c (y0,2,()) λc1=>
  .cal DT.c (c1.2,()) λc2=>
  .cal E8.c (c2.2,()) λc3=>
  .cal DT.c (c3.2,()) λc4=>
  .cal E8.c (c4.2,()) λc5=>
  .cal aj.c (c5.2,14,()) λc6=>
  .ite (c6.1==0) (.cal aj.c (c6.2,5,()) λc7=>
   .ret ((⟨(IntKind.wrap .i64 (c7.1-1)),c2.1,c3.1,c4.1,c5.1⟩:Arpm),c7.2))<|
  .ite (c6.1==1) (.cal du.c (c6.2,()) λc8=>
   .ret ((⟨(IntKind.wrap .i64 (1+c1.1)),c8.1,c3.1,c4.1,c5.1⟩:Arpm),c8.2))<|
  .ite (c6.1==2) (.cal du.c (c6.2,()) λc9=>
   .ret ((⟨(IntKind.wrap .i64 (1+c1.1)),c2.1,c9.1,c4.1,c5.1⟩:Arpm),c9.2))<|
  .ite (c6.1==3) (.cal du.c (c6.2,()) λc10=>
   .ret ((⟨(IntKind.wrap .i64 (1+c1.1)),c2.1,c3.1,c4.1,c10.1⟩:Arpm),c10.2))<|
  .ret ((⟨(IntKind.wrap .i64 (1+c1.1)),c2.1,c3.1,c4.1,c5.1⟩:Arpm),c6.2)
noncomputable def aai:=cq st ⟨457,Tryz.f457,[],1⟩ [ax,OM,JM,fQ] [] [.wr false [.ptr 0]] [.box [.st .curs]] (λx y=>(y.1.1,())) Yt (λv=>[(true,ML v.1)]) (λx y v=>((v.2,()),())) Tryz.func457 (by kernel_rfl) trivial
noncomputable def OS:FT (Curs×Unit) (Fram×Curs) (λx=>ah x.1) (λx v=>pt v.1∧ah v.2):= .mk λ(y0,_)=>
  .cal DT.c (y0,()) λc1=>
  .cal DT.c (c1.2,()) λc2=>
  .cal aD.c (c2.2,[2048,2054,1536,65535],()) λc3=>
  .cal aj.c (c3.2,6,()) λc4=>
  .cal jB.c (c4.2,c4.1,()) λc5=>
  .cal aj.c (c5.2,12,()) λc6=>
  .ite (c6.1==0) (.cal du.c (c6.2,()) λc7=>
   .ret ((⟨c7.1,c2.1,c3.1,(aw c5.1)⟩:Fram),c7.2))<|
  .ite (c6.1==1) (.cal du.c (c6.2,()) λc8=>
   .ret ((⟨c1.1,c8.1,c3.1,(aw c5.1)⟩:Fram),c8.2))<|
  .ite (c6.1==2) (.cal aD.c (c6.2,[0,1535,65536,(-1)],()) λc9=>
   .ret ((⟨c1.1,c2.1,c9.1,(aw c5.1)⟩:Fram),c9.2))<|
  .ite (c6.1==3) (.cal aj.c (c6.2,4,()) λc10=>
   .cal yV.c ((IntKind.wrap .i64 (1584+c10.1)),()) λc11=>
   .ret ((⟨c1.1,c2.1,c3.1,c11⟩:Fram),c10.2))<|
  .ret ((⟨c1.1,c2.1,c3.1,(aw c5.1)⟩:Fram),c6.2)
noncomputable def S6:=cq st ⟨458,Tryz.f458,[],1⟩ [OM,aJ,ax,iM,fQ,wL] [] [.wr false [.ptr 0]] [.box [.st .curs]] (λx y=>(y.1.1,())) OS (λv=>[(true,WA v.1)]) (λx y v=>((v.2,()),())) Tryz.func458 (by kernel_rfl) trivial
noncomputable def JP:FT (Curs×Unit) (Pack×Curs) (λx=>ah x.1) (λx v=>iZ v.1∧ah v.2):= .mk λ(y0,_)=>
  .cal E8.c (y0,()) λc1=>
  .cal E8.c (c1.2,()) λc2=>
  .cal aj.c (c2.2,64,()) λc3=>
  .cal aD.c (c3.2,[6,6,17,0],()) λc4=>
  .cal aj.c (c4.2,65536,()) λc5=>
  .cal aj.c (c5.2,8,()) λc6=>
  .cal jB.c (c6.2,c6.1,()) λc7=>
  .cal aj.c (c7.2,14,()) λc8=>
  .ite (c8.1==0) (.cal du.c (c8.2,()) λc9=>
   .ret ((⟨c9.1,c2.1,(IntKind.wrap .i64 (1+c3.1)),c4.1,c5.1,(aw c7.1)⟩:Pack),c9.2))<|
  .ite (c8.1==1) (.cal aD.c (c8.2,[0,255,256],()) λc10=>
   .ret ((⟨c1.1,c2.1,c10.1,c4.1,c5.1,(aw c7.1)⟩:Pack),c10.2))<|
  .ite (c8.1==2) (.cal aj.c (c8.2,3,()) λc11=>
   .cal yV.c ((IntKind.wrap .i64 (1479+c11.1)),()) λc12=>
   .ret ((⟨c1.1,c2.1,(IntKind.wrap .i64 (1+c3.1)),c4.1,c5.1,c12⟩:Pack),c11.2))<|
  .ite (c8.1==3) (.cal du.c (c8.2,()) λc13=>
   .ret ((⟨c1.1,c2.1,(IntKind.wrap .i64 (1+c3.1)),c4.1,c13.1,(aw c7.1)⟩:Pack),c13.2))<|
  .ret ((⟨c1.1,c2.1,(IntKind.wrap .i64 (1+c3.1)),c4.1,c5.1,(aw c7.1)⟩:Pack),c8.2)
noncomputable def RE:=cq st ⟨459,Tryz.f459,[],1⟩ [JM,ax,aJ,iM,fQ,wL] [] [.wr false [.ptr 0]] [.box [.st .curs]] (λx y=>(y.1.1,())) JP (λv=>[(true,yc v.1)]) (λx y v=>((v.2,()),())) Tryz.func459 (by kernel_rfl) trivial
noncomputable def Ew:FT (Curs×List aa×Unit) (aa×Curs) (λx=>ah x.1∧sL sS x.2.1∧0<x.2.1.length) (λx v=>sS v.1∧ah v.2∧(dg (λb:aa=>b.length≤64) x.2.1→v.1.length≤64)):=⟨λ(y0,x1,_)=>
  .cal aj.c (y0,(x1.length:Int),()) λc1=>
  .grd (cG x1 c1.1)<|
  .ret ((x1.getD c1.1.toNat []),c1.2),
 λ(y0,x1,_) hp=>by
  refine Tr.C ?_ λc1 hc1 qc1=>Tr.G2 ?_ λg0=>Tr.R ?_
  all_goals ((first|grind|(refine⟨by grind,by grind,λhn=> ?_⟩;exact cX (p:=λb:aa=>b.length≤64) hn (Nat.zero_le _) _)))⟩
noncomputable def B3:=cq st ⟨421,Tryz.f421,[],1⟩ [ax] [] [.wr false [.ptr 0],.sc (.sl .str)] [.box [.st .curs]] (λx y=>(y.1.1,x.2.1,())) Ew (λv=>[(false,[.c (.str v.1)])]) (λx y v=>((v.2,()),())) Tryz.func421 (by kernel_rfl) trivial
noncomputable def we:FT (Curs×aa×List aa×Unit) (aa×Curs) (λx=>ah x.1∧sS x.2.1∧sL sS x.2.2.1∧x.2.1.length≤65536∧0<x.2.2.1.length∧dg (λb:aa=>b.length≤64) x.2.2.1) (λx v=>sS v.1∧ah v.2∧v.1.length≤131072):= .mk λ(y0,x1,x2,_)=>
  .cal aj.c (y0,(IntKind.wrap .i64 ((x1.length:Int)+1)),()) λc1=>
  .cal aj.c (c1.2,6,()) λc2=>
  .ite (c2.1==0) (.grd ((decide (0≤c1.1))&&(decide (c1.1≤(x1.length:Int))))<|
   .cal Ew.c (c2.2,x2,()) λc3=>
   .grd (Nat.ble (((x1.take c1.1.toNat).drop 0).length+c3.1.length) ao)<|
   .grd (KN x1 c1.1 (x1.length:Int))<|
   .grd (Nat.ble ((((x1.take c1.1.toNat).drop 0)++c3.1).length+((x1.take ((x1.length:Int).toNat)).drop c1.1.toNat).length) ao)<|
   .val ((((x1.take c1.1.toNat).drop 0)++c3.1)++((x1.take ((x1.length:Int).toNat)).drop c1.1.toNat)) λe4=>
   .ret (e4,c3.2))<|
  .ite (c2.1==1) (.grd ((decide (0≤c1.1))&&(decide (c1.1≤(x1.length:Int))))<|
   .ret (((x1.take c1.1.toNat).drop 0),c2.2))<|
  .ret (x1,c2.2)
noncomputable def C5:=cq st ⟨419,Tryz.f419,[],1⟩ [ax,B3] [] [.wr false [.ptr 0],.sc .str,.sc (.sl .str)] [.box [.st .curs]] (λx y=>(y.1.1,x.2.1,x.2.2.1,())) we (λv=>[(false,[.c (.str v.1)])]) (λx y v=>((v.2,()),())) Tryz.func419 (by kernel_rfl) trivial
noncomputable def LN:FT (Curs×aa×Unit) (aa×Curs) (λx=>ah x.1∧sS x.2.1∧x.2.1.length≤65536) (λx v=>sS v.1∧ah v.2∧v.1.length≤131072):=⟨λ(y0,x1,_)=>
  .ite (decide ((x1.length:Int)<20)) (.cal we.c (y0,x1,[[0],[69],[120]],()) λc1=>
   .ret (c1.1,c1.2))<|
  .cal bg.c (y0,3,()) λc2=>
  .ite c2.1 (.cal we.c (c2.2,x1,[[0],[69],[120]],()) λc3=>
   .ret (c3.1,c3.2))<|
  .grd (Nat.ble x1.length bc)<|
  .cal aD.c (c2.2,[0,1,2,3,6,7,8,10,19],()) λc4=>
  .cal aD.c (c4.2,[0,64,32,69,70,1,255],()) λc5=>
  .grd (cG (eu x1) c4.1)<|
  .cal bg.c (c5.2,4,()) λc6=>
  .ite c6.1 (.ret ((aw ((eu x1).set c4.1.toNat (IntKind.wrap .u8 c5.1))),c6.2))<|
  .grd (decide (10<(((eu x1).set c4.1.toNat (IntKind.wrap .u8 c5.1)).length:Int)))<|
  .grd (decide (11<((((eu x1).set c4.1.toNat (IntKind.wrap .u8 c5.1)).set 10 0).length:Int)))<|
  .grd (decide (20≤(((((eu x1).set c4.1.toNat (IntKind.wrap .u8 c5.1)).set 10 0).set 11 0).length:Int)))<|
  .val (aw ((((((eu x1).set c4.1.toNat (IntKind.wrap .u8 c5.1)).set 10 0).set 11 0).take 20).drop 0)) λe7=>
  .cal tX.c (e7,()) λc8=>
  .grd (decide (10<(((((eu x1).set c4.1.toNat (IntKind.wrap .u8 c5.1)).set 10 0).set 11 0).length:Int)))<|
  .val (((((eu x1).set c4.1.toNat (IntKind.wrap .u8 c5.1)).set 10 0).set 11 0).set 10 (IntKind.wrap .u8 (IntKind.wrap .i64 (c8.tdiv 256)))) λl9=>
  .grd (decide (11<(l9.length:Int)))<|
  .ret ((aw (l9.set 11 (IntKind.wrap .u8 (c8.tmod 256)))),c6.2),
 λ(y0,x1,_) hp=>by
  refine Tr.I (λb0=>Tr.C ?_ λc1 hc1 qc1=>Tr.R ?_) λb0=>Tr.C ?_ λc2 hc2 qc2=>Tr.I (λb1=>Tr.C ?_ λc3 hc3 qc3=>Tr.R ?_) λb1=>Tr.Gb ?_ λg2=>Tr.C ?_ λc4 hc4 qc4=>Tr.C ?_ λc5 hc5 qc5=>Tr.G2 ?_ λg3=>Tr.C ?_ λc6 hc6 qc6=>Tr.I (λb4=>Tr.R ?_) λb4=>Tr.G1 ?_ λg5=>Tr.G1 ?_ λg6=>Tr.G1 ?_ λg7=>Tr.V λe7 he7=>Tr.C ?_ λc8 hc8 qc8=>Tr.G1 ?_ λg8=>Tr.V λl9 hl9=>Tr.G1 ?_ λg9=>Tr.R ?_
  all_goals ((first|grind|(simp only[sS,List.length_cons,List.length_nil];grind)|(have h1:=qc4.2.2 (by simp[dg]);first|grind|(simp only[sS,List.length_cons,List.length_nil];grind))))⟩
noncomputable def Qj:=cq st ⟨462,Tryz.f462,[],1⟩ [bT,C5,aJ,Ad] [] [.wr false [.ptr 0],.sc .str] [.box [.st .curs]] (λx y=>(y.1.1,x.2.1,())) LN (λv=>[(false,[.c (.str v.1)])]) (λx y v=>((v.2,()),())) Tryz.func462 (by kernel_rfl) trivial
noncomputable def zd:FT (Curs×aa×Unit) (aa×Curs) (λx=>ah x.1∧sS x.2.1∧x.2.1.length≤65536) (λx v=>sS v.1∧ah v.2∧v.1.length≤131072):= .mk λ(y0,x1,_)=>
  .cal bg.c (y0,5,()) λc1=>
  .ite c1.1 (.cal LN.c (c1.2,x1,()) λc2=>
   .ret (c2.1,c2.2))<|
  .ret (x1,c1.2)
noncomputable def Bc:=cq st ⟨420,Tryz.f420,[],1⟩ [bT,Qj] [] [.wr false [.ptr 0],.sc .str] [.box [.st .curs]] (λx y=>(y.1.1,x.2.1,())) zd (λv=>[(false,[.c (.str v.1)])]) (λx y v=>((v.2,()),())) Tryz.func420 (by kernel_rfl) trivial
noncomputable def V7:=[aJ,ax,aai,bT,yX,lF,S6,iM,RE,sG,Bc]
def KC:An:=⟨⟨[],[],false,1⟩,⟨[0,2,3,4,5],[],false,1⟩,⟨[],[]⟩,[(.normal,⟨[zp 0 0,zs 2,zi 3,zi 4,zp 5 1],[.box [.st .curs [.sl .any]],zx .arpm]⟩)]⟩
def La:An:=⟨⟨[],[],false,1⟩,⟨[0,2,3,4,6],[],false,1⟩,⟨[],[]⟩,[(.normal,⟨[zp 0 0,zs 2,zi 3,zi 4,zp 6 1],[.box [.st .curs [.sl .any]],zx .pack]⟩)]⟩
noncomputable def Xg:Fx:=⟨417,Tryz.f417,[(1000020,KC),(1000044,La)],1⟩
noncomputable def Tj:FT (Curs×Unit) (aa×Curs) (λx=>ah x.1) (λx v=>sS v.1∧ah v.2):= .mk λ(y0,_)=>
  .cal aD.c (y0,[11,11,11,281474976710655,12],()) λc1=>
  .cal aD.c (c1.2,[12,13],()) λc2=>
  .cal aj.c (c2.2,4,()) λc3=>
  .ite (c3.1==0) (.cal Yt.c (c3.2,()) λc4=>
   .cal bg.c (c4.2,2,()) λc5=>
   .bnd (β:=aa×Int×Int×Curs×Arpm×Unit) (.as (λw=>sS w.1∧ah w.2.2.2.1) (.ite c5.1 (.ret ([],c1.1,c2.1,c5.2,(⟨1,c2.1,167772162,0,167772161⟩:Arpm),()))<|
    .ret ([],c1.1,c2.1,c5.2,c4.1,()))) λ(_,u6a1,u6a2,u6a3,u6a4,_)=>
   .cal rq.c (u6a4,()) λc7=>
   .cal fE.c ((⟨u6a1,u6a2,2054,c7⟩:Fram),()) λc8=>
   .ret (c8,u6a3))<|
  .ite (c3.1==1) (.cal OS.c (c3.2,()) λc9=>
   .cal fE.c (c9.1,()) λc10=>
   .ret (c10,c9.2))<|
  .cal aj.c (c3.2,2,()) λc11=>
  .cal aj.c (c11.2,4,()) λc12=>
  .cal jB.c (c12.2,c12.1,()) λc13=>
  .cal bg.c (c13.2,4,()) λc14=>
  .bnd (β:=aa×Int×Int×Curs×Pack×Unit) (.as (λw=>sS w.1∧ah w.2.2.2.1∧iZ w.2.2.2.2.1) (.ite c14.1 (.cal JP.c (c14.2,()) λc15=>
    .ret ([],c1.1,c2.1,c15.2,c15.1,()))<|
   .ret ([],c1.1,c2.1,c14.2,(⟨(IntKind.wrap .i64 (167772162+c11.1)),167772161,9,6,0,(aw c13.1)⟩:Pack),()))) λ(_,u16a1,u16a2,u16a3,u16a4,_)=>
  .cal kX.c (u16a4,()) λc17=>
  .cal zd.c (u16a3,c17,()) λc18=>
  .cal fE.c ((⟨u16a1,u16a2,2048,c18.1⟩:Fram),()) λc19=>
  .ret (c19,c18.2)
noncomputable def WU:=cq st Xg V7 [] [.wr false [.ptr 0]] [.box [.st .curs]] (λx y=>(y.1.1,())) Tj (λv=>[(false,[.c (.str v.1)])]) (λx y v=>((v.2,()),())) Tryz.func417 (by kernel_rfl) trivial
noncomputable def AV:=[ax,gI,bT,iM,dh]
def kL:Sh:=⟨[zp 0 0,zp 3 1,zi 7,zi 8,zo 9 2,zi 10],[.box [.st .curs [.sl .any]],zg .recv,za .u8]⟩
def Dw:An:=⟨⟨[],[],false,1⟩,⟨[0,3,4,5,6,7,9],[],false,1⟩,⟨[],[]⟩,[(.normal,⟨[zp 0 0,zp 3 1,zu 4,zu 5,zu 6,zi 7,zo 9 2],[.box [.st .curs [.sl .any]],zg .recv,za .u8]⟩)]⟩
noncomputable def AZ:Fx:=⟨460,Tryz.f460,[(0,la ⟨[0,3,7,8,9,10],[],false,1⟩ ⟨[0,3,4,5,6,7,8,9],[],false,1⟩),(1000036,Dw)],1⟩
noncomputable def Fm (v0:Int)(v4:Recv)(v2:Int)(a:List Int):Tr (Stp (List Int) (Empty)):=
 .val (bQ.f ((IntKind.wrap .i64 ((IntKind.wrap .i64 (v4.next+v0))+v2)),())) λc3=>
 .grd (px a 1 1)<|
 .ret (.next (a++[(IntKind.wrap .u8 (IntKind.wrap .i64 (97+(c3.tmod 26))))]))
noncomputable def fJ:kL.V→qf kL (List Int):=λ(v0,v1,v2,v3,v4,v5,_)=>⟨v2,v5,λv2 a=>(v0,v1,v2,v3,v4,a,()),λv2 _=>(decide (v2<v1)),Fm v0 v4,up,1,(Int.toNat (v1-v2)),Empty.elim,Prod.mk,oN (.exit 0) ⟨[zp 0 0,zp 3 1,zu 4,zu 5,zu 6,zi 7,zi 8,zo 9 2],[.box [.st .curs [.sl .any]],zg .recv,za .u8]⟩ (λx=>(v0,v1,v3,v4,x.2,()))⟩
theorem FH:LS Tryz.prog AZ [0] (gc 0 kL fJ):=dd st (aL AV) _ fJ [] trivial
theorem FM {v0 v1 v2:Int}{v3:Curs}{v4:Recv}{v5:List Int}(h0:0≤v2)(h1:v1≤4611686018427387904)(h2:ay v4)(h3:v1≤4294967296)(h4:(v5.length:Int)=v2):(fJ (v0,v1,v2,v3,v4,v5,())).U v1 (λv2 a=>(a.length:Int)=v2) (λ_=>True):=
 ju (a:=v5) h0 h1 h4
noncomputable def yv:FT (Curs×Recv×Unit) (Int×aa×Bool×Curs) (λx=>ah x.1∧ay x.2.1) (λx v=>sS v.2.1∧ah v.2.2.2):=⟨λ(y0,x1,_)=>
  .cal aj.c (y0,40,()) λc1=>
  .cal aj.c (c1.2,9,()) λc2=>
  .lp (fJ ((IntKind.wrap .i64 (c1.1-6)),c2.1,0,c2.2,x1,[],())).lp λ(_,a4_0)=>
  .cal bg.c (c2.2,6,()) λc5=>
  .bnd (β:=Int×Curs×Recv×List Int×Unit) (.ite c5.1 (.cal jB.c (c5.2,c2.1,()) λc6=>
    .ret ((IntKind.wrap .i64 (c1.1-6)),c6.2,x1,c6.1,()))<|
   .ret ((IntKind.wrap .i64 (c1.1-6)),c5.2,x1,a4_0,())) λ(u7a0,u7a1,u7a2,u7a3,_)=>
  .val (bJ.f (u7a2.next,u7a0,())) λc8=>
  .cal bg.c (u7a1,6,()) λc9=>
  .ret (c8,(aw u7a3),c9.1,c9.2),
 λ(y0,x1,_) hp=>by
  refine Tr.C ?_ λ_ _ _=>Tr.C ?_ λ_ _ _=>Tr.L (FM ?_ ?_ ?_ ?_ ?_) (λa4_0 _=>Tr.C ?_ λ_ _ _=>Tr.B (Q':=λw=>ah w.2.1∧ay w.2.2.1∧sS w.2.2.2.1) (Tr.I (λ_=>Tr.C ?_ λ_ _ _=>Tr.R ?_) λ_=>Tr.R ?_) (λ(u7a0,u7a1,u7a2,u7a3,_) _ _=>Tr.V λ_ _=>Tr.C ?_ λ_ _ _=>Tr.R ?_)) (λp=>Empty.elim p)
  all_goals ((try simp only[fJ,LC.lp,LC.ct,Ct.lp,Tr.nice,j5]at*)<;>grind)⟩
noncomputable def A8:=cq st AZ AV [(gc 0 kL fJ)] [.wr false [.ptr 0],.st .recv] [.box [.st .curs]] (λx y=>(y.1.1,x.2.1,())) yv (λv=>[(false,[.c (.int .i64 v.1)]),(false,[.c (.str v.2.1)]),(false,[.c (.bool v.2.2.1)])]) (λx y v=>((v.2.2.2,()),())) Tryz.func460 (by kernel_rfl) ⟨FH,trivial⟩
noncomputable def Pu:FT (Curs×Unit) (Int×Curs) (λx=>ah x.1) (λx v=>ah v.2):=⟨λ(y0,_)=>
  .cal aj.c (y0,64,()) λc1=>
  .cal aD.c (c1.2,[2,16,16,18,24,17,4,20,0,c1.1],()) λc2=>
  .ret (c2.1,c2.2),
 λ(y0,_) hp=>by
  refine Tr.C ?_ λ_ _ _=>Tr.C ?_ λ_ _ _=>Tr.R ?_
  all_goals (first|grind|(simp only[sS,List.length_cons,List.length_nil];grind))⟩
noncomputable def Vi:=cq st ⟨461,Tryz.f461,[],1⟩ [ax,aJ] [] [.wr false [.ptr 0]] [.box [.st .curs]] (λx y=>(y.1.1,())) Pu (λv=>[(false,[.c (.int .i64 v.1)])]) (λx y v=>((v.2,()),())) Tryz.func461 (by kernel_rfl) trivial
noncomputable def Lf:=[A8,bT,jg,ax,dh,aJ,eA,Vi,LG,gI]
def B1:An:=⟨⟨[],[],false,1⟩,⟨[0,3,4,5,6,7],[],false,1⟩,⟨[],[]⟩,[(.normal,⟨[zp 0 0,zp 3 1,zp 4 2,zi 5,zs 6,zb 7],[.box [.st .curs [.sl .any]],zg .conn,zx .segm]⟩)]⟩
def Cg:An:=⟨⟨[],[],false,1⟩,⟨[0,3,4,8],[],false,1⟩,⟨[],[]⟩,[(.normal,⟨[zp 0 0,zp 3 1,zp 4 2,zp 8 3],[.box [.st .curs [.sl .any]],zg .conn,zx .segm,zx .segm]⟩)]⟩
def BT:An:=⟨⟨[],[],false,1⟩,⟨[4,8],[],false,1⟩,⟨[],[]⟩,[(.normal,⟨[zp 4 1,zp 8 2],[.box [.st .curs [.sl .any]],zx .segm,zx .segm]⟩)]⟩
noncomputable def MT:Fx:=⟨418,Tryz.f418,[(1000018,B1),(1000045,Cg),(1000052,BT)],1⟩
noncomputable def vP:FT (Curs×Conn×Unit) (Segm×Curs) (λx=>ah x.1∧ac x.2.1) (λx v=>am v.1∧ah v.2):= .mk λ(y0,x1,_)=>
  .cal yv.c (y0,x1.r,()) λc1=>
  .cal bg.c (c1.2.2.2,2,()) λc2=>
  .bnd (β:=Int×aa×Bool×Curs×Conn×Segm×Unit) (.as (λw=>sS w.2.1∧ah w.2.2.2.1∧ac w.2.2.2.2.1∧am w.2.2.2.2.2.1) (.ite c2.1 (.ret (x1.r.next,c1.2.1,c1.2.2.1,c2.2,x1,(⟨0,0,0,0,0,0,⟨0,0,false,false,0,0⟩,[]⟩:Segm),()))<|
   .ret (c1.1,c1.2.1,c1.2.2.1,c2.2,x1,(⟨0,0,0,0,0,0,⟨0,0,false,false,0,0⟩,[]⟩:Segm),()))) λ(u3a0,u3a1,u3a2,u3a3,u3a4,u3a5,_)=>
  .cal gN.c (u3a4.s,()) λc4=>
  .cal aj.c (u3a3,(IntKind.wrap .i64 (c4+1)),()) λc5=>
  .val (bJ.f (u3a4.s.una,c5.1,())) λc6=>
  .cal aD.c (c5.2,[0,1,8,64,65535],()) λc7=>
  .val (bX.f (())) λc8=>
  .bnd (β:=Curs×Conn×Segm×Segm×Unit) (.as (λw=>ah w.1∧ac w.2.1∧am w.2.2.1∧am w.2.2.2.1) (.ite u3a2 (.ret (c7.2,u3a4,u3a5,(⟨u3a4.tuple.port,u3a4.tuple.my,u3a0,c6,17,c7.1,c8,u3a1⟩:Segm),()))<|
   .ret (c7.2,u3a4,u3a5,(⟨u3a4.tuple.port,u3a4.tuple.my,u3a0,c6,16,c7.1,c8,u3a1⟩:Segm),()))) λ(u9a0,u9a1,u9a2,u9a3,_)=>
  .cal aj.c (u9a0,10,()) λc10=>
  .bnd (β:=Curs×Segm×Segm×Unit) (.as (λw=>ah w.1∧am w.2.1∧am w.2.2.1) (.ite (c10.1==0) (.cal Pu.c (c10.2,()) λc11=>
    .ret (c11.2,u9a2,({u9a3 with flags:=c11.1}:Segm),()))<|
   .ite (c10.1==1) (.cal sB.c (c10.2,u9a1.s.una,()) λc12=>
    .ret (c12.2,u9a2,({u9a3 with ack:=c12.1}:Segm),()))<|
   .ite (c10.1==2) (.cal sB.c (c10.2,u9a1.r.next,()) λc13=>
    .ret (c13.2,u9a2,({u9a3 with seq:=c13.1}:Segm),()))<|
   .ite (c10.1==3) (.ret (c10.2,u9a2,({u9a3 with body:=[]}:Segm),()))<|
   .ret (c10.2,u9a2,u9a3,()))) λ(u14a0,_,u14a2,_)=>
  .val (bQ.f (u14a2.seq,())) λc15=>
  .val (bQ.f (u14a2.ack,())) λc16=>
  .ret (({u14a2 with seq:=c15,ack:=c16}:Segm),u14a0)
noncomputable def ze:=cq st MT Lf [] [.wr false [.ptr 0],.st .conn] [.box [.st .curs]] (λx y=>(y.1.1,x.2.1,())) vP (λv=>[(true,oK v.1)]) (λx y v=>((v.2,()),())) Tryz.func418 (by kernel_rfl) trivial
noncomputable def XW:=[bT,WU,ax,J9,Lh,Lr,tS,ze,xp,C5,sG,Bc,lF]
def LK:An:=⟨⟨[],[],false,1⟩,⟨[0,4,6,7],[],false,1⟩,⟨[],[]⟩,[(.normal,⟨[zp 0 0,zs 4,zi 6,zp 7 1],[.box [.st .curs [.sl .any]],zx .segm]⟩)]⟩
def Iy:An:=⟨⟨[],[],false,1⟩,⟨[0,4,6,11],[],false,1⟩,⟨[],[]⟩,[(.normal,⟨[zp 0 0,zs 4,zi 6,zs 11],[.box [.st .curs [.sl .any]]]⟩)]⟩
noncomputable def Ye:Fx:=⟨340,Tryz.f340,[(1000026,LK),(1000111,Iy)],1⟩
noncomputable def Mp:FT (Curs×Stac×Unit) (aa×Curs) (λx=>ah x.1∧az x.2.1) (λx v=>sS v.1∧ah v.2):= .mk λ(y0,x1,_)=>
  .cal bg.c (y0,5,()) λc1=>
  .ite c1.1 (.cal Tj.c (c1.2,()) λc2=>
   .ret (c2.1,c2.2))<|
  .cal aj.c (c1.2,2,()) λc3=>
  .cal J6.c (c3.2,()) λc4=>
  .cal aj.c (c4.2,4,()) λc5=>
  .bnd (β:=aa×Int×Curs×Segm×Unit) (.as (λw=>sS w.1∧ah w.2.2.1∧am w.2.2.2.1) (.ite (c5.1==0) (.ite (decide (0<(x1.door.halves.length:Int))) (.cal aj.c (c5.2,(x1.door.halves.length:Int),()) λc6=>
     .grd (cG x1.door.halves c6.1)<|
     .cal sY.c (x1.door,(x1.door.halves.getD c6.1.toNat (Ty.zero .half)).tuple,({c4.1 with from_:=(x1.door.halves.getD c6.1.toNat (Ty.zero .half)).tuple.port,seq:=(x1.door.halves.getD c6.1.toNat (Ty.zero .half)).irs}:Segm),()) λc7=>
     .cal yf.c (c6.2,({c4.1 with from_:=(x1.door.halves.getD c6.1.toNat (Ty.zero .half)).tuple.port,seq:=(x1.door.halves.getD c6.1.toNat (Ty.zero .half)).irs}:Segm),({c7 with seq:=(x1.door.halves.getD c6.1.toNat (Ty.zero .half)).iss}:Segm),()) λc8=>
     .ret ([],(x1.door.halves.getD c6.1.toNat (Ty.zero .half)).tuple.ip,c8.2,c8.1,()))<|
    .val (mH.f ((IntKind.wrap .i64 (167772162+c3.1)),c4.1,())) λc9=>
    .cal sY.c (x1.door,c9,c4.1,()) λc10=>
    .cal yf.c (c5.2,c4.1,c10,()) λc11=>
    .ret ([],(IntKind.wrap .i64 (167772162+c3.1)),c11.2,c11.1,()))<|
   .ite (c5.1==1) (.ite (decide (0<(x1.door.table.conns.length:Int))) (.cal aj.c (c5.2,(x1.door.table.conns.length:Int),()) λc12=>
     .grd (cG x1.door.table.conns c12.1)<|
     .cal vP.c (c12.2,(x1.door.table.conns.getD c12.1.toNat (Ty.zero .conn)),()) λc13=>
     .ret ([],(x1.door.table.conns.getD c12.1.toNat (Ty.zero .conn)).tuple.ip,c13.2,c13.1,()))<|
    .ret ([],(IntKind.wrap .i64 (167772162+c3.1)),c5.2,c4.1,()))<|
   .ite (c5.1==2) (.val (mH.f ((IntKind.wrap .i64 (167772162+c3.1)),c4.1,())) λc14=>
    .cal sY.c (x1.door,c14,c4.1,()) λc15=>
    .cal yf.c (c5.2,c4.1,c15,()) λc16=>
    .ret ([],(IntKind.wrap .i64 (167772162+c3.1)),c16.2,c16.1,()))<|
   .ret ([],(IntKind.wrap .i64 (167772162+c3.1)),c5.2,c4.1,()))) λ(u17a0,u17a1,u17a2,u17a3,_)=>
  .cal lm.c (u17a3,u17a1,167772161,()) λc18=>
  .cal bg.c (u17a2,10,()) λc19=>
  .bnd (β:=aa×Int×aa×Curs×Unit) (.as (λw=>sS w.1∧sS w.2.2.1∧ah w.2.2.2.1) (.ite c19.1 (.cal we.c (c19.2,c18,[[0],[120]],()) λc20=>
    .ret (u17a0,u17a1,c20.1,c20.2,()))<|
   .ret (u17a0,u17a1,c18,c19.2,()))) λ(_,u21a1,u21a2,u21a3,_)=>
  .cal kX.c ((⟨u21a1,167772161,9,6,0,u21a2⟩:Pack),()) λc22=>
  .cal zd.c (u21a3,c22,()) λc23=>
  .cal fE.c ((⟨11,12,2048,c23.1⟩:Fram),()) λc24=>
  .ret (c24,c23.2)
noncomputable def Wb:=cq st Ye XW [] [.wr false [.ptr 0],.st .stac] [.box [.st .curs]] (λx y=>(y.1.1,x.2.1,())) Mp (λv=>[(false,[.c (.str v.1)])]) (λx y v=>((v.2,()),())) Tryz.func340 (by kernel_rfl) trivial
noncomputable def Wj:=[nr,bT,ax,wM,wi,iM,Wb]
def Ka:An:=⟨⟨[],[],false,1⟩,⟨[0,3,4,5],[],false,1⟩,⟨[],[]⟩,[(.normal,⟨[zp 0 0,zp 3 1,zp 4 2,zp 5 3],[.box [.st .curs [.sl .any]],.box [.st .stac [.sl .arg,.sl .arg,.sl .arg,.sl .arg,.sl .arg,.sl .arg]],.box [.st .acti [.nil .macRow]],zx .tupl]⟩)]⟩
noncomputable def X3:Fx:=⟨227,Tryz.f227,[(1000018,Ka)],1⟩
noncomputable def Lc:FT (Curs×Stac×Unit) (Acti×Curs) (λx=>ah x.1∧az x.2.1) (λx v=>ba v.1∧ah v.2):= .mk λ(y0,x1,_)=>
  .cal pg.c (y0,()) λc1=>
  .ite (decide (0<(x1.door.table.conns.length:Int))) (.cal bg.c (c1.2,6,()) λc2=>
   .bnd (β:=Curs×Stac×Acti×Tupl×Unit) (.as (λw=>ah w.1∧az w.2.1∧ba w.2.2.1) (.ite (!c2.1) (.cal aj.c (c2.2,(x1.door.table.conns.length:Int),()) λc3=>
     .grd (cG x1.door.table.conns c3.1)<|
     .ret (c3.2,x1,(⟨0,⟨0,0,0⟩,0,[],⟨false,0,0,[]⟩⟩:Acti),(x1.door.table.conns.getD c3.1.toNat (Ty.zero .conn)).tuple,()))<|
    .ret (c2.2,x1,(⟨0,⟨0,0,0⟩,0,[],⟨false,0,0,[]⟩⟩:Acti),c1.1,()))) λ(u4a0,u4a1,_,u4a3,_)=>
   .cal aj.c (u4a0,12,()) λc5=>
   .ite (c5.1==0) (.ret ((⟨2,⟨0,0,0⟩,0,[],⟨false,0,0,[]⟩⟩:Acti),c5.2))<|
   .ite (c5.1==1) (.cal bg.c (c5.2,2,()) λc6=>
    .ite c6.1 (.cal gv.c (c6.2,()) λc7=>
     .cal gv.c (c7.2,()) λc8=>
     .cal pX.c (c7.1,c8.1,()) λc9=>
     .ret ((⟨3,⟨0,0,0⟩,0,[],c9⟩:Acti),c8.2))<|
    .ret ((⟨4,⟨0,0,0⟩,0,[],⟨false,0,0,[]⟩⟩:Acti),c6.2))<|
   .ite (c5.1==2) (.ret ((⟨4,⟨0,0,0⟩,0,[],⟨false,0,0,[]⟩⟩:Acti),c5.2))<|
   .ite (c5.1==3) (.cal aj.c (c5.2,20,()) λc10=>
    .cal jB.c (c10.2,c10.1,()) λc11=>
    .ret ((⟨5,u4a3,0,(aw c11.1),⟨false,0,0,[]⟩⟩:Acti),c11.2))<|
   .ite (c5.1==4) (.cal aj.c (c5.2,20,()) λc12=>
    .ret ((⟨6,u4a3,c12.1,[],⟨false,0,0,[]⟩⟩:Acti),c12.2))<|
   .ite (c5.1==5) (.cal bg.c (c5.2,2,()) λc13=>
    .ite c13.1 (.ret ((⟨8,u4a3,0,[],⟨false,0,0,[]⟩⟩:Acti),c13.2))<|
    .ret ((⟨7,u4a3,0,[],⟨false,0,0,[]⟩⟩:Acti),c13.2))<|
   .cal Mp.c (c5.2,u4a1,()) λc14=>
   .ret ((⟨1,⟨0,0,0⟩,0,c14.1,⟨false,0,0,[]⟩⟩:Acti),c14.2))<|
  .cal aj.c (c1.2,12,()) λc15=>
  .ite (c15.1==0) (.ret ((⟨2,⟨0,0,0⟩,0,[],⟨false,0,0,[]⟩⟩:Acti),c15.2))<|
  .ite (c15.1==1) (.cal bg.c (c15.2,2,()) λc16=>
   .ite c16.1 (.cal gv.c (c16.2,()) λc17=>
    .cal gv.c (c17.2,()) λc18=>
    .cal pX.c (c17.1,c18.1,()) λc19=>
    .ret ((⟨3,⟨0,0,0⟩,0,[],c19⟩:Acti),c18.2))<|
   .ret ((⟨4,⟨0,0,0⟩,0,[],⟨false,0,0,[]⟩⟩:Acti),c16.2))<|
  .ite (c15.1==2) (.ret ((⟨4,⟨0,0,0⟩,0,[],⟨false,0,0,[]⟩⟩:Acti),c15.2))<|
  .ite (c15.1==3) (.cal aj.c (c15.2,20,()) λc20=>
   .cal jB.c (c20.2,c20.1,()) λc21=>
   .ret ((⟨5,c1.1,0,(aw c21.1),⟨false,0,0,[]⟩⟩:Acti),c21.2))<|
  .ite (c15.1==4) (.cal aj.c (c15.2,20,()) λc22=>
   .ret ((⟨6,c1.1,c22.1,[],⟨false,0,0,[]⟩⟩:Acti),c22.2))<|
  .ite (c15.1==5) (.cal bg.c (c15.2,2,()) λc23=>
   .ite c23.1 (.ret ((⟨8,c1.1,0,[],⟨false,0,0,[]⟩⟩:Acti),c23.2))<|
   .ret ((⟨7,c1.1,0,[],⟨false,0,0,[]⟩⟩:Acti),c23.2))<|
  .cal Mp.c (c15.2,x1,()) λc24=>
  .ret ((⟨1,⟨0,0,0⟩,0,c24.1,⟨false,0,0,[]⟩⟩:Acti),c24.2)
noncomputable def Jw:=cq st X3 Wj [] [.wr false [.ptr 0],.st .stac] [.box [.st .curs]] (λx y=>(y.1.1,x.2.1,())) Lc (λv=>[(true,abt (.o true) v.1)]) (λx y v=>((v.2,()),())) Tryz.func227 (by kernel_rfl) trivial
noncomputable def GB:=[ax,Jw,CH]
def nU:Sh:=⟨[zp 0 0,zp 3 1,zo 5 2,zi 6,zi 7],[.box [.st .curs [.sl .any]],.box [.st .stac [.sl .any,.sl .any,.sl .any,.sl .any,.sl .any,.sl .any]],za .acti]⟩
noncomputable def GI:Fx:=⟨111,Tryz.f111,[(0,la ⟨[0,3,5,6,7],[.softb 3 2,.softb 3 9,.softb 3 13,.softb 3 19,.softb 3 20,.softb 3 21],false,1⟩ ⟨[4,5],[],false,1⟩)],1⟩
noncomputable def Jq (v1:Int)(a:Curs×Stac×List Acti):Tr (Stp (Curs×Stac×List Acti) (Empty)):=
 .cal Lc.c (a.1,a.2.1,()) λc4=>
 .grd (px a.2.2 1 104)<|
 .cal uq.c (a.2.1,c4.1,()) λc5=>
 .ret (.next (c4.2,c5.1,(a.2.2++[c4.1])))
noncomputable def hY:nU.V→qf nU (Curs×Stac×List Acti):=λ(v0,v1,v2,v3,v4,_)=>⟨v1,(v2,v3,v4),λv1 a=>(v0,v1,a.1,a.2.1,a.2.2,()),λv1 _=>(decide (v1<v0)),Jq,up,1,(Int.toNat (v0-v1)),Empty.elim,Prod.mk,oN (.exit 0) ⟨[zu 4,zo 5 1],[.box [.st .curs [.sl .any]],za .acti]⟩ (λx=>(x.2.1,x.2.2.2,()))⟩
theorem KX:LS Tryz.prog GI [0] (gc 0 nU hY):=dd st (aL GB) _ hY [] trivial
theorem LU {v0 v1:Int}{v2:Curs}{v3:Stac}{v4:List Acti}(h0:0≤v1)(h1:v0≤4611686018427387904)(h2:v0≤4294967296)(h3:ah v2∧az v3∧(v4.length:Int)=v1∧dg ba v4):(hY (v0,v1,v2,v3,v4,())).U v0 (λv1 a=>ah a.1∧az a.2.1∧(a.2.2.length:Int)=v1∧dg ba a.2.2) (λ_=>True):=
 ju (a:=(v2,v3,v4)) h0 h1 h3
noncomputable def OQ:FT (Curs×Stac×Unit) (List Acti×Curs) (λx=>ah x.1∧az x.2.1) (λx v=>sL ba v.1∧ah v.2∧v.1.length≤12):=⟨λ(y0,x1,_)=>
  .cal aj.c (y0,12,()) λc1=>
  .lp (hY (c1.1,0,c1.2,x1,[],())).lp λ(_,a6_0,_,a6_2)=>
  .ret (a6_2,a6_0),
 λ(y0,x1,_) hp=>by
  refine Tr.C ?_ λ_ _ _=>Tr.L (LU ?_ ?_ ?_ ?_) (λ(a6_0,a6_1,a6_2) _=>Tr.R ?_) (λp=>Empty.elim p)
  all_goals ((try simp only[hY,LC.lp,LC.ct,Ct.lp]at*)<;>grind)⟩
noncomputable def S1:=cq st GI GB [(gc 0 nU hY)] [.wr false [.ptr 0],.st .stac] [.box [.st .curs]] (λx y=>(y.1.1,x.2.1,())) OQ (λv=>[(false,[sc (.o true) .acti v.1])]) (λx y v=>((v.2,()),())) Tryz.func111 (by kernel_rfl) ⟨KX,trivial⟩
noncomputable def F8:=[ax,B3,aJ,bT,yO]
def m6:Sh:=⟨[zp 0 0,zo 3 1,zi 4,zi 5],[.box [.st .curs [.sl .any]],za .macRow]⟩
noncomputable def GD:Fx:=⟨342,Tryz.f342,[(0,la ⟨[0,3,4,5],[],false,1⟩ ⟨[0,2,3,4],[],false,1⟩)],1⟩
noncomputable def Kc (v1:Int)(a:Curs×List MacRow):Tr (Stp (Curs×List MacRow) (Empty)):=
 .cal Ew.c (a.1,[[],[97],[98],[99,100],[97]],()) λc2=>
 .cal aj.c (c2.2,16777216,()) λc3=>
 .cal aD.c (c3.2,[0,1,5,16777215,c3.1],()) λc4=>
 .grd (px a.2 1 24)<|
 .ret (.next (c4.2,(a.2++[(⟨c2.1,c4.1⟩:MacRow)])))
noncomputable def iy:m6.V→qf m6 (Curs×List MacRow):=λ(v0,v1,v2,v3,_)=>⟨v1,(v2,v3),λv1 a=>(v0,v1,a.1,a.2,()),λv1 _=>(decide (v1<v0)),Kc,up,1,(Int.toNat (v0-v1)),Empty.elim,Prod.mk,oN (.exit 0) ⟨[zp 0 0,zu 2,zo 3 1,zi 4],[.box [.st .curs [.sl .any]],za .macRow]⟩ (λx=>(v0,x.2.1,x.2.2,()))⟩
theorem Jl:LS Tryz.prog GD [0] (gc 0 m6 iy):=dd st (aL F8) _ iy [] trivial
theorem Je {v0 v1:Int}{v2:Curs}{v3:List MacRow}(h0:0≤v1)(h1:v0≤4611686018427387904)(h2:v0≤4294967296)(h3:ah v2∧(v3.length:Int)=v1∧dg bm v3):(iy (v0,v1,v2,v3,())).U v0 (λv1 a=>ah a.1∧(a.2.length:Int)=v1∧dg bm a.2) (λ_=>True):=
 ju (a:=(v2,v3)) h0 h1 h3
noncomputable def FS:FT (Curs×Unit) (List MacRow×Curs) (λx=>ah x.1) (λx v=>sL bm v.1∧ah v.2):=⟨λ(y0,_)=>
  .cal aj.c (y0,5,()) λc1=>
  .lp (iy (c1.1,0,c1.2,[],())).lp λ(_,a5_0,a5_1)=>
  .ite (decide (0<c1.1)) (.cal bg.c (a5_0,6,()) λc6=>
   .ite c6.1 (.cal Ah.c (c6.2,()) λc7=>
    .grd (decide (0<(a5_1.length:Int)))<|
    .ret ((a5_1.set 0 (⟨(a5_1.getD 0 (Ty.zero .macRow)).input,c7.1⟩:MacRow)),c7.2))<|
   .ret (a5_1,c6.2))<|
  .ret (a5_1,a5_0),
 λ(y0,_) hp=>by
  refine Tr.C ?_ λ_ _ _=>Tr.L (Je ?_ ?_ ?_ ?_) (λ(a5_0,a5_1) _=>Tr.I (λ_=>Tr.C ?_ λ_ _ _=>Tr.I (λ_=>Tr.C ?_ λ_ _ _=>Tr.G1 ?_ λ_=>Tr.R ?_) λ_=>Tr.R ?_) λ_=>Tr.R ?_) (λp=>Empty.elim p)
  all_goals ((try simp only[iy,LC.lp,LC.ct,Ct.lp]at*)<;>grind)⟩
noncomputable def Vn:=cq st GD F8 [(gc 0 m6 iy)] [.wr false [.ptr 0]] [.box [.st .curs]] (λx y=>(y.1.1,())) FS (λv=>[(false,[sc (.o true) .macRow v.1])]) (λx y v=>((v.2,()),())) Tryz.func342 (by kernel_rfl) ⟨Jl,trivial⟩
noncomputable def EB:FT (Curs×Unit) (Mac×Curs) (λx=>ah x.1) (λx v=>dV v.1∧ah v.2):= .mk λ(y0,_)=>
  .cal bg.c (y0,2,()) λc1=>
  .ite c1.1 (.cal FS.c (c1.2,()) λc2=>
   .cal rV.c (c2.1,()) λc3=>
   .ret (c3,c2.2))<|
  .cal gv.c (c1.2,()) λc4=>
  .cal gv.c (c4.2,()) λc5=>
  .cal pX.c (c4.1,c5.1,()) λc6=>
  .cal aj.c (c5.2,10,()) λc7=>
  .ite (c7.1==0) (.ret (({c6 with use:=true}:Mac),c7.2))<|
  .ite (c7.1==1) (.cal FS.c (c7.2,()) λc8=>
   .ret (({c6 with rows:=c8.1}:Mac),c8.2))<|
  .ret (c6,c7.2)
noncomputable def Lq:=cq st ⟨228,Tryz.f228,[],1⟩ [bT,Vn,Df,wM,wi,ax] [] [.wr false [.ptr 0]] [.box [.st .curs]] (λx y=>(y.1.1,())) EB (λv=>[(true,KS (.o true) v.1)]) (λx y v=>((v.2,()),())) Tryz.func228 (by kernel_rfl) trivial
noncomputable def Pf:FT (Curs×Stac×Unit) (Acti×Curs) (λx=>ah x.1∧az x.2.1) (λx v=>ba v.1∧ah v.2):= .mk λ(y0,x1,_)=>
  .cal Lc.c (y0,x1,()) λc1=>
  .cal aj.c (c1.2,14,()) λc2=>
  .ite (c2.1==0) (.cal aj.c (c2.2,11,()) λc3=>
   .ret (({c1.1 with kind:=(IntKind.wrap .i64 (c3.1-1))}:Acti),c3.2))<|
  .ite (c2.1==1) (.cal aD.c (c2.2,[(-1),0,65535,65536],()) λc4=>
   .ret (({c1.1 with n:=c4.1}:Acti),c4.2))<|
  .ite (c2.1==2) (.cal Av.c (c2.2,()) λc5=>
   .ret (({c1.1 with tuple.ip:=c5.1.ip,tuple.port:=c5.1.port,tuple.my:=c5.1.my}:Acti),c5.2))<|
  .ite (c2.1==3) (.cal EB.c (c2.2,()) λc6=>
   .ret (({c1.1 with mac.use:=c6.1.use,mac.k:=c6.1.k,mac.l:=c6.1.l,mac.rows:=c6.1.rows}:Acti),c6.2))<|
  .ret (c1.1,c2.2)
noncomputable def Td:=cq st ⟨113,Tryz.f113,[],1⟩ [Jw,ax,aJ,yC,Lq] [] [.wr false [.ptr 0],.st .stac] [.box [.st .curs]] (λx y=>(y.1.1,x.2.1,())) Pf (λv=>[(true,abt (.o true) v.1)]) (λx y v=>((v.2,()),())) Tryz.func113 (by kernel_rfl) trivial
noncomputable def O7:FT (Curs×Unit) (Link×Curs) (λx=>ah x.1) (λx v=>fb v.1∧ah v.2):= .mk λ(y0,_)=>
  .cal ww.c (y0,()) λc1=>
  .ret ((⟨11,167772161,c1.1⟩:Link),c1.2)
noncomputable def TH:=cq st ⟨343,Tryz.f343,[],1⟩ [wN] [] [.wr false [.ptr 0]] [.box [.st .curs]] (λx y=>(y.1.1,())) O7 (λv=>[(true,BJ (.o true) v.1)]) (λx y v=>((v.2,()),())) Tryz.func343 (by kernel_rfl) trivial
noncomputable def Hg:=[wN,ax,fQ,aJ]
def nM:Sh:=⟨[zp 0 0,zo 3 1],[.box [.st .curs [.sl .any]],za .entr]⟩
noncomputable def GM:Fx:=⟨344,Tryz.f344,[(1,la ⟨[0,3],[],false,1⟩ ⟨[2,3],[],false,1⟩)],1⟩
noncomputable def MG (a:Curs×List Entr):Tr (Stp (Curs×List Entr) ((Curs×List Entr))):=
 .cal aj.c (a.1,2,()) λc6=>
 .ite (decide ((a.2.length:Int)<(IntKind.wrap .i64 (4+c6.1)))) (.cal aj.c (c6.2,10,()) λc7=>
  .grd (px a.2 1 24)<|
  .ret (.next (c7.2,(a.2++[(⟨(a.2.length:Int),0,c7.1⟩:Entr)]))))<|
 .ret (.out (c6.2,a.2))
noncomputable def kf:nM.V→LW nM (Curs×List Entr) ((Curs×List Entr)):=λ(v0,v1,_)=>⟨(v0,v1),λa=>(a.1,a.2,()),MG,Int.toNat (6-(v1.length:Int)),oN (.exit 1) ⟨[zu 2,zo 3 1],[.box [.st .curs [.sl .any]],za .entr]⟩ (λp=>(p.1,p.2,()))⟩
theorem Mq:LS Tryz.prog GM [0] (leW 1 nM kf):=Tt st (aL Hg) _ kf [] trivial
theorem Lw {v0:Curs}{v1:List Entr}(h0:ah v0∧sS v1∧v1.length≤8):(kf (v0,v1,())).W (λp=>ah p.1∧sS p.2):=
 lwW (a:=(v0,v1)) (λa=>ah a.1∧sS a.2∧a.2.length≤8) (λa=>Int.toNat (6-(a.2.length:Int))) h0
noncomputable def PC:FT (Curs×Unit) (List Entr×Curs) (λx=>ah x.1) (λx v=>sS v.1∧ah v.2):= .mk (λ(y0,_)=>
  .cal ww.c (y0,()) λc1=>
  .cal aj.c (c1.2,8,()) λc2=>
  .ite (c2.1==0) (.cal du.c (c2.2,()) λc3=>
   .cal du.c (c3.2,()) λc4=>
   .cal aD.c (c4.2,[0,9,10,(-1)],()) λc5=>
   .grd (px c1.1 1 24)<|
   .ret ((c1.1++[(⟨c3.1,c4.1,c5.1⟩:Entr)]),c5.2))<|
  .ite (c2.1==1) (.lp (kf (c2.2,c1.1,())).lp λ(p8a0,p8a1)=>
   .ret (p8a1,p8a0))<|
  .ret (c1.1,c2.2)) (qU @Lw)
noncomputable def VT:=cq st GM Hg [(leW 1 nM kf)] [.wr false [.ptr 0]] [.box [.st .curs]] (λx y=>(y.1.1,())) PC (λv=>[(false,[sc (.o true) .entr v.1])]) (λx y v=>((v.2,()),())) Tryz.func344 (by kernel_rfl) ⟨Mq,trivial⟩
noncomputable def OX:FT (Curs×Unit) (Link×Curs) (λx=>ah x.1) (λx v=>fb v.1∧ah v.2):= .mk λ(y0,_)=>
  .cal O7.c (y0,()) λc1=>
  .cal aj.c (c1.2,10,()) λc2=>
  .ite (c2.1==0) (.cal du.c (c2.2,()) λc3=>
   .ret (({c1.1 with mac:=c3.1}:Link),c3.2))<|
  .ite (c2.1==1) (.cal du.c (c2.2,()) λc4=>
   .ret (({c1.1 with ip:=c4.1}:Link),c4.2))<|
  .ite (c2.1==2) (.cal PC.c (c2.2,()) λc5=>
   .ret (({c1.1 with cache:=c5.1}:Link),c5.2))<|
  .ite (c2.1==3) (.ret (({c1.1 with mac:=281474976710655}:Link),c2.2))<|
  .ret (c1.1,c2.2)
noncomputable def UM:=cq st ⟨229,Tryz.f229,[],1⟩ [TH,ax,fQ,VT] [] [.wr false [.ptr 0]] [.box [.st .curs]] (λx y=>(y.1.1,())) OX (λv=>[(true,BJ (.o true) v.1)]) (λx y v=>((v.2,()),())) Tryz.func229 (by kernel_rfl) trivial
noncomputable def Vd:=[aJ,wM,wi,bT,Df]
def xg:An:=⟨⟨[],[],false,1⟩,⟨[0,2,3],[],false,1⟩,⟨[],[]⟩,[(.normal,⟨[zp 0 0,zp 2 1,zp 3 2],[.box [.st .curs [.sl .any]],.box [.st .keys [.nil .macRow,.nil .macRow]],.box [.st .keys [.own 3,.own 4]],zf,zf]⟩),(.normal,⟨[zp 0 0,zp 2 1,zp 3 2],[.box [.st .curs [.sl .any]],.box [.st .keys [.nil .macRow,.nil .macRow]],.box [.st .keys [.own 3,.nil .macRow]],zf]⟩)]⟩
noncomputable def SA:Fx:=⟨422,Tryz.f422,[(1000019,xg)],1⟩
noncomputable def Po:FT (Curs×Unit) (Keys×Curs) (λx=>ah x.1) (λx v=>cU v.1∧ah v.2):=⟨λ(y0,_)=>
  .cal aD.c (y0,[0,1,2,30,31,32,33,4294967295],()) λc1=>
  .cal gv.c (c1.2,()) λc2=>
  .cal gv.c (c2.2,()) λc3=>
  .cal pX.c (c2.1,c3.1,()) λc4=>
  .ite (decide (0<c1.1)) (.cal bg.c (c3.2,2,()) λc5=>
   .bnd (β:=WT xg.es) (.ite c5.1 (.cal gv.c (c5.2,()) λc6=>
     .cal gv.c (c6.2,()) λc7=>
     .cal pX.c (c6.1,c7.1,()) λc8=>
     .ret (.inl (c7.2,(⟨0,⟨false,0,0,[]⟩,⟨false,0,0,[]⟩,false⟩:Keys),(⟨c1.1,c4,c8,true⟩:Keys),())))<|
    .ret (.inr ((c5.2,(⟨0,⟨false,0,0,[]⟩,⟨false,0,0,[]⟩,false⟩:Keys),(⟨c1.1,c4,⟨false,0,0,[]⟩,false⟩:Keys),())))) λw9=> .sum w9 (λ(u9a0,_,u9a2,_)=>
   .cal bg.c (u9a0,3,()) λc10=>
   .ite c10.1 (.cal rV.c ([],()) λc11=>
    .ret (({u9a2 with now.use:=c11.use,now.k:=c11.k,now.l:=c11.l,now.rows:=c11.rows}:Keys),c10.2))<|
   .ret (u9a2,c10.2))<|
   λ(u9b0,_,u9b2,_)=>
   .cal bg.c (u9b0,3,()) λc12=>
   .ite c12.1 (.cal rV.c ([],()) λc13=>
    .ret (({u9b2 with now.use:=c13.use,now.k:=c13.k,now.l:=c13.l,now.rows:=c13.rows,before.rows:=[]}:Keys),c12.2))<|
   .ret (({u9b2 with before.rows:=[]}:Keys),c12.2))<|
  .cal bg.c (c3.2,3,()) λc14=>
  .ite c14.1 (.cal rV.c ([],()) λc15=>
   .ret ((⟨c1.1,c15,⟨false,0,0,[]⟩,false⟩:Keys),c14.2))<|
  .ret ((⟨c1.1,c4,⟨false,0,0,[]⟩,false⟩:Keys),c14.2),
 λ(y0,_) hp=>by
  refine Tr.C ?_ λ_ _ _=>Tr.C ?_ λ_ _ _=>Tr.C ?_ λ_ _ _=>Tr.C trivial λ_ _ _=>Tr.I (λ_=>Tr.C ?_ λ_ _ _=>Tr.B (Q':=(Sum.elim (λw=>ah w.1∧cU w.2.1∧cU w.2.2.1) (λw=>ah w.1∧cU w.2.1∧cU w.2.2.1))) (Tr.I (λ_=>Tr.C ?_ λ_ _ _=>Tr.C ?_ λ_ _ _=>Tr.C trivial λ_ _ _=>Tr.R ?_) λ_=>Tr.R ?_) (λ_ _ q9=>Tr.E q9 (λ(u9a0,u9a1,u9a2,_) _=>Tr.C ?_ λ_ _ _=>Tr.I (λ_=>Tr.C ?_ λ_ _ _=>Tr.R ?_) λ_=>Tr.R ?_) (λ(u9b0,u9b1,u9b2,_) _=>Tr.C ?_ λ_ _ _=>Tr.I (λ_=>Tr.C ?_ λ_ _ _=>Tr.R ?_) λ_=>Tr.R ?_))) λ_=>Tr.C ?_ λ_ _ _=>Tr.I (λ_=>Tr.C ?_ λ_ _ _=>Tr.R ?_) λ_=>Tr.R ?_
  all_goals ((try simp only[Tr.nice,j5]at*)<;>first|grind|(simp only[sS,List.length_cons,List.length_nil];grind))⟩
noncomputable def Tf:=cq st SA Vd [] [.wr false [.ptr 0]] [.box [.st .curs]] (λx y=>(y.1.1,())) Po (λv=>[(true,BI (.o true) (.o true) v.1)]) (λx y v=>((v.2,()),())) Tryz.func422 (by kernel_rfl) trivial
noncomputable def Ot:FT (Curs×Unit) (Keys×Curs) (λx=>ah x.1) (λx v=>cU v.1∧ah v.2):= .mk λ(y0,_)=>
  .cal Po.c (y0,()) λc1=>
  .cal aj.c (c1.2,10,()) λc2=>
  .ite (c2.1==0) (.cal aD.c (c2.2,[(-1),0,4294967296],()) λc3=>
   .ret (({c1.1 with epoch:=c3.1}:Keys),c3.2))<|
  .ite (c2.1==1) (.ret (({c1.1 with two:=(!c1.1.two)}:Keys),c2.2))<|
  .ite (c2.1==2) (.cal EB.c (c2.2,()) λc4=>
   .ret (({c1.1 with now.use:=c4.1.use,now.k:=c4.1.k,now.l:=c4.1.l,now.rows:=c4.1.rows}:Keys),c4.2))<|
  .ite (c2.1==3) (.cal EB.c (c2.2,()) λc5=>
   .ret (({c1.1 with before.use:=c5.1.use,before.k:=c5.1.k,before.l:=c5.1.l,before.rows:=c5.1.rows}:Keys),c5.2))<|
  .ret (c1.1,c2.2)
noncomputable def Vc:=cq st ⟨345,Tryz.f345,[],1⟩ [Tf,ax,aJ,Lq] [] [.wr false [.ptr 0]] [.box [.st .curs]] (λx y=>(y.1.1,())) Ot (λv=>[(true,BI (.o true) (.o true) v.1)]) (λx y v=>((v.2,()),())) Tryz.func345 (by kernel_rfl) trivial
noncomputable def uF:FT (Curs×Unit) (Half×Curs) (λx=>ah x.1) (λx v=>ah v.2):= .mk λ(y0,_)=>
  .cal pg.c (y0,()) λc1=>
  .cal kg.c (c1.2,()) λc2=>
  .cal kg.c (c2.2,()) λc3=>
  .cal qa.c (c3.2,()) λc4=>
  .cal aj.c (c4.2,7,()) λc5=>
  .cal aD.c (c5.2,[0,64,65535],()) λc6=>
  .ret ((⟨c1.1,c2.1,c3.1,c4.1,c5.1,c6.1⟩:Half),c6.2)
noncomputable def GU:=cq st ⟨424,Tryz.f424,[],1⟩ [nr,mv,pF,ax,aJ] [] [.wr false [.ptr 0]] [.box [.st .curs]] (λx y=>(y.1.1,())) uF (λv=>[(true,aeL v.1)]) (λx y v=>((v.2,()),())) Tryz.func424 (by kernel_rfl) trivial
noncomputable def GA:=[ax,GU,Hb]
def na:Sh:=⟨[zp 0 0,zo 3 1,zi 4,zi 5],[.box [.st .curs [.sl .any]],za .half]⟩
noncomputable def GL:Fx:=⟨423,Tryz.f423,[(0,la ⟨[0,3,4,5],[],false,1⟩ ⟨[2,3],[],false,1⟩)],1⟩
noncomputable def M3 (v1:Int)(a:Curs×List Half):Tr (Stp (Curs×List Half) (Empty)):=
 .cal uF.c (a.1,()) λc2=>
 .cal u4.c (a.2,c2.1,64,()) λc3=>
 .ret (.next (c2.2,c3.1))
noncomputable def iv:na.V→qf na (Curs×List Half):=λ(v0,v1,v2,v3,_)=>⟨v1,(v2,v3),λv1 a=>(v0,v1,a.1,a.2,()),λv1 _=>(decide (v1<v0)),M3,up,1,(Int.toNat (v0-v1)),Empty.elim,Prod.mk,oN (.exit 0) ⟨[zu 2,zo 3 1],[.box [.st .curs [.sl .any]],za .half]⟩ (λx=>(x.2.1,x.2.2,()))⟩
theorem Mg:LS Tryz.prog GL [0] (gc 0 na iv):=dd st (aL GA) _ iv [] trivial
theorem Kd {v0 v1:Int}{v2:Curs}{v3:List Half}(h0:0≤v1)(h1:v0≤4611686018427387904)(h2:ah v2∧sS v3∧(v3.length:Int)≤v1):(iv (v0,v1,v2,v3,())).U v0 (λv1 a=>ah a.1∧sS a.2∧(a.2.length:Int)≤v1) (λ_=>True):=
 ju (a:=(v2,v3)) h0 h1 h2
noncomputable def PB:FT (Curs×Unit) (List Half×Curs) (λx=>ah x.1) (λx v=>sS v.1∧ah v.2∧(v.1.length:Int)≤5):=⟨λ(y0,_)=>
  .cal aj.c (y0,5,()) λc1=>
  .lp (iv (c1.1,0,c1.2,[],())).lp λ(_,a4_0,a4_1)=>
  .ret (a4_1,a4_0),
 λ(y0,_) hp=>by
  refine Tr.C ?_ λ_ _ _=>Tr.L (Kd ?_ ?_ ?_) (λ(a4_0,a4_1) _=>Tr.R ?_) (λp=>Empty.elim p)
  all_goals ((try simp only[iv,LC.lp,LC.ct,Ct.lp]at*)<;>grind)⟩
noncomputable def VU:=cq st GL GA [(gc 0 na iv)] [.wr false [.ptr 0]] [.box [.st .curs]] (λx y=>(y.1.1,())) PB (λv=>[(false,[sc (.o true) .half v.1])]) (λx y v=>((v.2,()),())) Tryz.func423 (by kernel_rfl) ⟨Mg,trivial⟩
noncomputable def Mb:FT (Curs×Unit) (Opti×Curs) (λx=>ah x.1) (λx v=>ah v.2):= .mk λ(y0,_)=>
  .cal qa.c (y0,()) λc1=>
  .cal aj.c (c1.2,10,()) λc2=>
  .ite (c2.1==0) (.cal du.c (c2.2,()) λc3=>
   .ret (({c1.1 with mss:=c3.1}:Opti),c3.2))<|
  .ite (c2.1==1) (.cal aD.c (c2.2,[(-2),(-1),14,15],()) λc4=>
   .ret (({c1.1 with scale:=c4.1}:Opti),c4.2))<|
  .ite (c2.1==2) (.ret (({c1.1 with stamp:=(!c1.1.stamp)}:Opti),c2.2))<|
  .ite (c2.1==3) (.cal du.c (c2.2,()) λc5=>
   .ret (({c1.1 with val:=c5.1}:Opti),c5.2))<|
  .ret (c1.1,c2.2)
noncomputable def Mr:=cq st ⟨425,Tryz.f425,[],1⟩ [pF,ax,fQ,aJ] [] [.wr false [.ptr 0]] [.box [.st .curs]] (λx y=>(y.1.1,())) Mb (λv=>[(true,oU v.1)]) (λx y v=>((v.2,()),())) Tryz.func425 (by kernel_rfl) trivial
noncomputable def Oz:FT (Curs×Unit) (List Half×Curs) (λx=>ah x.1) (λx v=>sS v.1∧ah v.2):=⟨λ(y0,_)=>
  .cal PB.c (y0,()) λc1=>
  .cal aj.c (c1.2,8,()) λc2=>
  .ite (c2.1==0) (.cal uF.c (c2.2,()) λc3=>
   .cal aD.c (c3.2,[(-1),6,7],()) λc4=>
   .grd (px c1.1 1 96)<|
   .ret ((c1.1++[({c3.1 with age:=c4.1}:Half)]),c4.2))<|
  .ite (c2.1==1) (.cal uF.c (c2.2,()) λc5=>
   .cal Av.c (c5.2,()) λc6=>
   .cal du.c (c6.2,()) λc7=>
   .grd (px c1.1 1 96)<|
   .val (c1.1++[({c5.1 with tuple.ip:=c6.1.ip,tuple.port:=c6.1.port,tuple.my:=c6.1.my,iss:=c7.1}:Half)]) λl8=>
   .ret (l8,c7.2))<|
  .ite (c2.1==2) (.cal uF.c (c2.2,()) λc9=>
   .cal Mb.c (c9.2,()) λc10=>
   .grd (px c1.1 1 96)<|
   .val (c1.1++[({c9.1 with opts.mss:=c10.1.mss,opts.scale:=c10.1.scale,opts.sack:=c10.1.sack,opts.stamp:=c10.1.stamp,opts.val:=c10.1.val,opts.echo:=c10.1.echo}:Half)]) λl11=>
   .ret (l11,c10.2))<|
  .ret (c1.1,c2.2),
 λ(y0,_) hp=>by
  refine Tr.C ?_ λc1 hc1 qc1=>Tr.C ?_ λc2 hc2 qc2=>Tr.I (λb0=>Tr.C ?_ λc3 hc3 qc3=>Tr.C ?_ λc4 hc4 qc4=>Tr.Gb ?_ λg1=>Tr.R ?_) λb0=>Tr.I (λb1=>Tr.C ?_ λc5 hc5 qc5=>Tr.C ?_ λc6 hc6 qc6=>Tr.C ?_ λc7 hc7 qc7=>Tr.Gb ?_ λg2=>Tr.V λl8 hl8=>Tr.R ?_) λb1=>Tr.I (λb2=>Tr.C ?_ λc9 hc9 qc9=>Tr.C ?_ λc10 hc10 qc10=>Tr.Gb ?_ λg3=>Tr.V λl11 hl11=>Tr.R ?_) λb2=>Tr.R ?_
  all_goals ((first|grind|(refine⟨?_,by grind⟩;have hl:∀v:List Half×Curs,v.1.length≤5→∀h:Half,sS (v.1++[h]):=λv hv h=>(by simp only[sS,List.length_append,List.length_cons,List.length_nil];omega);subst_vars;apply hl;grind)))⟩
noncomputable def TA:=cq st ⟨346,Tryz.f346,[],1⟩ [VU,ax,GU,aJ,yC,fQ,Mr] [] [.wr false [.ptr 0]] [.box [.st .curs]] (λx y=>(y.1.1,())) Oz (λv=>[(false,[sc (.o true) .half v.1])]) (λx y v=>((v.2,()),())) Tryz.func346 (by kernel_rfl) trivial
noncomputable def GK:=[nr,mv,pF,aJ,Gt,ax,iM,OV,vY,bT,Sv,Dy,ze,zJ]
def n8:Sh:=⟨[zp 0 0,zp 2 1,zp 3 2,zi 4,zi 5],[.box [.st .curs [.sl .any]],.box [.st .conn [.nil .piec]],zk .conn 3,zf]⟩
noncomputable def Hc:Fx:=⟨463,Tryz.f463,[(0,la ⟨[0,2,3,4,5],[],false,1⟩ ⟨[2,3],[],false,1⟩)],1⟩
noncomputable def Jx (v1:Int)(a:Curs×Conn×Conn):Tr (Stp (Curs×Conn×Conn) (Empty)):=
 .cal aj.c (a.1,8,()) λc8=>
 .ite (c8.1==0) (.cal aj.c (c8.2,20,()) λc9=>
  .cal jB.c (c9.2,c9.1,()) λc10=>
  .cal CW.c (a.2.2,(aw c10.1),()) λc11=>
  .ret (.next (c10.2,({a.2.1 with r.held:=[]}:Conn),c11.1)))<|
 .ite (c8.1==1) (.cal oq.c (a.2.2,()) λc12=>
  .ret (.next (c8.2,({a.2.1 with r.held:=[]}:Conn),c12.1)))<|
 .ite (c8.1==2) (.cal bg.c (c8.2,2,()) λc13=>
  .ite c13.1 (.cal Ki.c (a.2.2,()) λc14=>
   .ret (.next (c13.2,({a.2.1 with r.held:=[]}:Conn),c14.1)))<|
  .ret (.next (c13.2,({a.2.1 with r.held:=[]}:Conn),a.2.2)))<|
 .ite (c8.1==3) (.cal aj.c (c8.2,9,()) λc15=>
  .cal rL.c (a.2.2,c15.1,()) λc16=>
  .ret (.next (c15.2,({a.2.1 with r.held:=[]}:Conn),c16.1)))<|
 .cal vP.c (c8.2,a.2.2,()) λc17=>
 .cal rt.c (a.2.2,c17.1,()) λc18=>
 .ret (.next (c17.2,({a.2.1 with r.held:=[]}:Conn),c18.1))
noncomputable def iu:n8.V→qf n8 (Curs×Conn×Conn):=λ(v0,v1,v2,v3,v4,_)=>⟨v1,(v2,v3,v4),λv1 a=>(v0,v1,a.1,a.2.1,a.2.2,()),λv1 _=>(decide (v1<v0)),Jx,up,1,(Int.toNat (v0-v1)),Empty.elim,Prod.mk,oN (.exit 0) ⟨[zp 2 1,zp 3 2],[.box [.st .curs [.sl .any]],.box [.st .conn [.nil .piec]],zk .conn 3,zf]⟩ (λx=>(x.2.1,({x.2.2.1 with r.held:=[]}:Conn),x.2.2.2,()))⟩
theorem KZ:LS Tryz.prog Hc [0] (gc 0 n8 iu):=dd st (aL GK) _ iu [] trivial
theorem L8 {v0 v1:Int}{v2:Curs}{v3 v4:Conn}(h0:0≤v1)(h1:v0≤4611686018427387904)(h2:ah v2∧ac v3∧ac v4):(iu (v0,v1,v2,v3,v4,())).U v0 (λv1 a=>ah a.1∧ac a.2.1∧ac a.2.2) (λ_=>True):=
 ju (a:=(v2,v3,v4)) h0 h1 h2
noncomputable def EZ:FT (Curs×Unit) (Conn×Curs) (λx=>ah x.1) (λx v=>ac v.1∧ah v.2):=⟨λ(y0,_)=>
  .cal pg.c (y0,()) λc1=>
  .cal kg.c (c1.2,()) λc2=>
  .cal kg.c (c2.2,()) λc3=>
  .cal qa.c (c3.2,()) λc4=>
  .cal aD.c (c4.2,[0,4,64,65535],()) λc5=>
  .cal ry.c (c1.1,c2.1,c3.1,c4.1,c5.1,()) λc6=>
  .cal aj.c (c5.2,9,()) λc7=>
  .lp (iu (c7.1,0,c7.2,(⟨⟨0,0,0⟩,0,⟨0,[],0,false,false,false⟩,⟨0,[],[],0,false⟩,0,0,⟨0,0,false,false,0,0⟩,0,0⟩:Conn),c6,())).lp λ(_,a19_0,_,a19_2)=>
  .ret (a19_2,a19_0),
 λ(y0,_) hp=>by
  refine Tr.C ?_ λ_ _ _=>Tr.C ?_ λ_ _ _=>Tr.C ?_ λ_ _ _=>Tr.C ?_ λ_ _ _=>Tr.C ?_ λ_ _ _=>Tr.C trivial λ_ _ _=>Tr.C ?_ λ_ _ _=>Tr.L (L8 ?_ ?_ ?_) (λ(a19_0,a19_1,a19_2) _=>Tr.R ?_) (λp=>Empty.elim p)
  all_goals ((try simp only[iu,LC.lp,LC.ct,Ct.lp]at*)<;>grind)⟩
noncomputable def Gv:=cq st Hc GK [(gc 0 n8 iu)] [.wr false [.ptr 0]] [.box [.st .curs]] (λx y=>(y.1.1,())) EZ (λv=>[(true,fh (.o true) v.1)]) (λx y v=>((v.2,()),())) Tryz.func463 (by kernel_rfl) ⟨KZ,trivial⟩
noncomputable def C9:=[ax,Gv,GH,bT,xf]
def lS:Sh:=⟨[zp 0 0,zp 3 1,zp 4 2,zp 5 3,zi 6,zi 7],[.box [.st .curs [.sl .any]],zx .limi,.box [.st .tabl [.nil .conn,.nil .tupl]],.box [.st .tabl [.own 4,.own 5]],zf,zf]⟩
noncomputable def Da:Fx:=⟨426,Tryz.f426,[(0,la ⟨[0,3,4,5,6,7],[.box 5 0 .conn,.box 5 1 .tupl],false,1⟩ ⟨[4,5],[],false,1⟩)],1⟩
noncomputable def It (v3:Limi)(v1:Int)(a:Curs×Tabl×Tabl):Tr (Stp (Curs×Tabl×Tabl) (Empty)):=
 .cal EZ.c (a.1,()) λc6=>
 .cal uY.c (a.2.2,c6.1,v3,()) λc7=>
 .cal bg.c (c6.2,3,()) λc8=>
 .ite c8.1 (.cal lC.c (c7.1,()) λc9=>
  .ret (.next (c8.2,(⟨[],[]⟩:Tabl),c9.1)))<|
 .ret (.next (c8.2,(⟨[],[]⟩:Tabl),c7.1))
noncomputable def gi:lS.V→qf lS (Curs×Tabl×Tabl):=λ(v0,v1,v2,v3,v4,v5,_)=>⟨v1,(v2,v4,v5),λv1 a=>(v0,v1,a.1,v3,a.2.1,a.2.2,()),λv1 _=>(decide (v1<v0)),It v3,up,1,(Int.toNat (v0-v1)),Empty.elim,Prod.mk,oN (.exit 0) ⟨[zp 4 1,zp 5 2],[.box [.st .curs [.sl .any]],.box [.st .tabl [.nil .conn,.nil .tupl]],.box [.st .tabl [.own 3,.own 4]],zf,zf]⟩ (λx=>(x.2.1,(⟨[],[]⟩:Tabl),x.2.2.2,()))⟩
theorem Ii:LS Tryz.prog Da [0] (gc 0 lS gi):=dd st (aL C9) _ gi [] trivial
theorem HU {v0 v1:Int}{v2:Curs}{v3:Limi}{v4 v5:Tabl}(h0:0≤v1)(h1:v0≤4611686018427387904)(h2:ah v2∧aV v4∧aV v5∧v5.conns.length≤16∧v5.waiting.length≤16):(gi (v0,v1,v2,v3,v4,v5,())).U v0 (λv1 a=>ah a.1∧aV a.2.1∧aV a.2.2∧a.2.2.conns.length≤16∧a.2.2.waiting.length≤16) (λ_=>True):=
 ju (a:=(v2,v4,v5)) h0 h1 h2
noncomputable def Lt:FT (Curs×Limi×Unit) (Tabl×Curs) (λx=>ah x.1) (λx v=>aV v.1∧ah v.2∧v.1.conns.length≤16∧v.1.waiting.length≤16):=⟨λ(y0,x1,_)=>
  .cal aj.c (y0,4,()) λc1=>
  .lp (gi (c1.1,0,c1.2,x1,(⟨[],[]⟩:Tabl),(⟨[],[]⟩:Tabl),())).lp λ(_,a10_0,_,a10_2)=>
  .ret (a10_2,a10_0),
 λ(y0,x1,_) hp=>by
  refine Tr.C ?_ λ_ _ _=>Tr.L (HU ?_ ?_ ?_) (λ(a10_0,a10_1,a10_2) _=>Tr.R ?_) (λp=>Empty.elim p)
  all_goals ((try simp only[gi,LC.lp,LC.ct,Ct.lp]at*)<;>grind)⟩
noncomputable def Sb:=cq st Da C9 [(gc 0 lS gi)] [.wr false [.ptr 0],.st .limi] [.box [.st .curs]] (λx y=>(y.1.1,x.2.1,())) Lt (λv=>[(true,qh (.o true) (.o true) v.1)]) (λx y v=>((v.2,()),())) Tryz.func426 (by kernel_rfl) ⟨Ii,trivial⟩
noncomputable def Bt:=[mv,ax,iM,K4,Bu,Gi,jg,dh,Pc,bT]
def kN:Sh:=⟨[zp 0 0,zp 2 1,zp 3 2,zi 4,zi 5],[.box [.st .curs [.sl .any]],zx .sndr,zx .sndr]⟩
noncomputable def Br:Fx:=⟨485,Tryz.f485,[(0,la ⟨[0,2,3,4,5],[],false,1⟩ ⟨[2,3],[],false,1⟩)],1⟩
noncomputable def Fd (v1:Int)(a:Curs×Sndr):Tr (Stp (Curs×Sndr) (Empty)):=
 .cal aj.c (a.1,4,()) λc3=>
 .ite (c3.1==0) (.cal aj.c (c3.2,20,()) λc4=>
  .cal jB.c (c4.2,c4.1,()) λc5=>
  .cal yR.c (a.2,(aw c5.1),()) λc6=>
  .ret (.next (c5.2,c6.1)))<|
 .ite (c3.1==1) (.cal aj.c (c3.2,40,()) λc7=>
  .cal aj.c (c7.2,16,()) λc8=>
  .cal p8.c (a.2,(IntKind.wrap .i64 (1+c7.1)),(IntKind.wrap .i64 (1+c8.1)),()) λc9=>
  .ite c9.2 (.cal mF.c (a.2,c9.1,()) λc10=>
   .ret (.next (c8.2,c10)))<|
  .ret (.next (c8.2,a.2)))<|
 .ite (c3.1==2) (.cal gN.c (a.2,()) λc11=>
  .cal aj.c (c3.2,(IntKind.wrap .i64 (c11+1)),()) λc12=>
  .val (bJ.f (a.2.una,c12.1,())) λc13=>
  .cal CL.c (a.2,c13,()) λc14=>
  .ret (.next (c12.2,c14.1)))<|
 .ite a.2.fin (.ret (.next (c3.2,({a.2 with fin:=true}:Sndr))))<|
 .cal bg.c (c3.2,2,()) λc15=>
 .ret (.next (c15.2,({a.2 with fin:=c15.1}:Sndr)))
noncomputable def fK:kN.V→qf kN (Curs×Sndr):=λ(v0,v1,v2,v3,v4,_)=>⟨v1,(v2,v4),λv1 a=>(v0,v1,a.1,v3,a.2,()),λv1 _=>(decide (v1<v0)),Fd,up,1,(Int.toNat (v0-v1)),Empty.elim,Prod.mk,oN (.exit 0) ⟨[zp 2 1,zp 3 2],[.box [.st .curs [.sl .any]],zx .sndr,zx .sndr]⟩ (λx=>(x.2.1,v3,x.2.2,()))⟩
theorem F3:LS Tryz.prog Br [0] (gc 0 kN fK):=dd st (aL Bt) _ fK [] trivial
theorem F2 {v0 v1:Int}{v2:Curs}{v3 v4:Sndr}(h0:0≤v1)(h1:v0≤4611686018427387904)(h2:ah v2∧bZ v4):(fK (v0,v1,v2,v3,v4,())).U v0 (λv1 a=>ah a.1∧bZ a.2) (λ_=>True):=
 ju (a:=(v2,v4)) h0 h1 h2
noncomputable def GX:FT (Curs×Unit) (Sndr×Curs) (λx=>ah x.1) (λx v=>bZ v.1∧ah v.2):=⟨λ(y0,_)=>
  .cal kg.c (y0,()) λc1=>
  .cal aj.c (c1.2,6,()) λc2=>
  .lp (fK (c2.1,0,c2.2,(⟨0,[],0,false,false,false⟩:Sndr),(⟨c1.1,[],0,false,false,false⟩:Sndr),())).lp λ(_,a16_0,a16_1)=>
  .ret (a16_1,a16_0),
 λ(y0,_) hp=>by
  refine Tr.C ?_ λ_ _ _=>Tr.C ?_ λ_ _ _=>Tr.L (F2 ?_ ?_ ?_) (λ(a16_0,a16_1) _=>Tr.R ?_) (λp=>Empty.elim p)
  all_goals ((try simp only[fK,LC.lp,LC.ct,Ct.lp]at*)<;>grind)⟩
noncomputable def N2:=cq st Br Bt [(gc 0 kN fK)] [.wr false [.ptr 0]] [.box [.st .curs]] (λx y=>(y.1.1,())) GX (λv=>[(true,uo v.1)]) (λx y v=>((v.2,()),())) Tryz.func485 (by kernel_rfl) ⟨F3,trivial⟩
noncomputable def OD:FT (Curs×Unit) (Sndr×Curs) (λx=>ah x.1) (λx v=>bZ v.1∧ah v.2):= .mk λ(y0,_)=>
  .cal GX.c (y0,()) λc1=>
  .cal aj.c (c1.2,10,()) λc2=>
  .ite (c2.1==0) (.cal du.c (c2.2,()) λc3=>
   .ret (({c1.1 with una:=c3.1}:Sndr),c3.2))<|
  .ite (c2.1==1) (.cal aD.c (c2.2,[(-1),0,48,49,(IntKind.wrap .i64 ((c1.1.data.length:Int)+1))],()) λc4=>
   .ret (({c1.1 with sent:=c4.1}:Sndr),c4.2))<|
  .ite (c2.1==2) (.ret (({c1.1 with finSent:=(!c1.1.finSent)}:Sndr),c2.2))<|
  .ite (c2.1==3) (.ret (({c1.1 with done:=(!c1.1.done)}:Sndr),c2.2))<|
  .ite (c2.1==4) (.cal aj.c (c2.2,3,()) λc5=>
   .cal yV.c ((IntKind.wrap .i64 (47+c5.1)),()) λc6=>
   .ret (({c1.1 with data:=c6}:Sndr),c5.2))<|
  .ret (c1.1,c2.2)
noncomputable def SD:=cq st ⟨464,Tryz.f464,[],1⟩ [N2,ax,fQ,aJ,wL] [] [.wr false [.ptr 0]] [.box [.st .curs]] (λx y=>(y.1.1,())) OD (λv=>[(true,uo v.1)]) (λx y v=>((v.2,()),())) Tryz.func464 (by kernel_rfl) trivial
noncomputable def xw:=[mv,xt,ax,A8,GN,bT,GZ]
def jc:Sh:=⟨[zp 0 0,zp 2 1,zp 3 2,zi 4,zi 5],[.box [.st .curs [.sl .any]],.box [.st .recv [.nil .piec]],zk .recv 3,zf]⟩
noncomputable def xJ:Fx:=⟨486,Tryz.f486,[(0,la ⟨[0,2,3,4,5],[],false,1⟩ ⟨[2,3],[],false,1⟩)],1⟩
noncomputable def BN (v1:Int)(a:Curs×Recv×Recv):Tr (Stp (Curs×Recv×Recv) (Empty)):=
 .cal yv.c (a.1,a.2.2,()) λc4=>
 .cal rp.c (a.2.2,c4.1,c4.2.1,c4.2.2.1,()) λc5=>
 .cal bg.c (c4.2.2.2,3,()) λc6=>
 .ite c6.1 (.cal aj.c (c6.2,20,()) λc7=>
  .cal uE.c (c5,c7.1,()) λc8=>
  .ret (.next (c7.2,({a.2.1 with held:=[]}:Recv),c8.1)))<|
 .ret (.next (c6.2,({a.2.1 with held:=[]}:Recv),c5))
noncomputable def er:jc.V→qf jc (Curs×Recv×Recv):=λ(v0,v1,v2,v3,v4,_)=>⟨v1,(v2,v3,v4),λv1 a=>(v0,v1,a.1,a.2.1,a.2.2,()),λv1 _=>(decide (v1<v0)),BN,up,1,(Int.toNat (v0-v1)),Empty.elim,Prod.mk,oN (.exit 0) ⟨[zp 2 1,zp 3 2],[.box [.st .curs [.sl .any]],.box [.st .recv [.nil .piec]],zk .recv 3,zf]⟩ (λx=>(x.2.1,({x.2.2.1 with held:=[]}:Recv),x.2.2.2,()))⟩
theorem Co:LS Tryz.prog xJ [0] (gc 0 jc er):=dd st (aL xw) _ er [] trivial
theorem BQ {v0 v1:Int}{v2:Curs}{v3 v4:Recv}(h0:0≤v1)(h1:v0≤4611686018427387904)(h2:ah v2∧ay v3∧ay v4∧v4.held.length≤3):(er (v0,v1,v2,v3,v4,())).U v0 (λv1 a=>ah a.1∧ay a.2.1∧ay a.2.2∧a.2.2.held.length≤3) (λ_=>True):=
 ju (a:=(v2,v3,v4)) h0 h1 h2
noncomputable def Bz:FT (Curs×Unit) (Recv×Curs) (λx=>ah x.1) (λx v=>ay v.1∧ah v.2∧v.1.held.length≤3):=⟨λ(y0,_)=>
  .cal kg.c (y0,()) λc1=>
  .cal lv.c (c1.1,()) λc2=>
  .cal aj.c (c1.2,7,()) λc3=>
  .lp (er (c3.1,0,c3.2,(⟨0,[],[],0,false⟩:Recv),c2,())).lp λ(_,a9_0,_,a9_2)=>
  .ret (a9_2,a9_0),
 λ(y0,_) hp=>by
  refine Tr.C ?_ λ_ _ _=>Tr.C trivial λ_ _ _=>Tr.C ?_ λ_ _ _=>Tr.L (BQ ?_ ?_ ?_) (λ(a9_0,a9_1,a9_2) _=>Tr.R ?_) (λp=>Empty.elim p)
  all_goals ((try simp only[er,LC.lp,LC.ct,Ct.lp]at*)<;>grind)⟩
noncomputable def Iw:=cq st xJ xw [(gc 0 jc er)] [.wr false [.ptr 0]] [.box [.st .curs]] (λx y=>(y.1.1,())) Bz (λv=>[(true,uw (.o true) v.1)]) (λx y v=>((v.2,()),())) Tryz.func486 (by kernel_rfl) ⟨Co,trivial⟩
noncomputable def OA:FT (Curs×Unit) (Recv×Curs) (λx=>ah x.1) (λx v=>ay v.1∧ah v.2):= .mk λ(y0,_)=>
  .cal Bz.c (y0,()) λc1=>
  .cal aj.c (c1.2,12,()) λc2=>
  .ite (c2.1==0) (.cal du.c (c2.2,()) λc3=>
   .ret (({c1.1 with next:=c3.1}:Recv),c3.2))<|
  .ite (c2.1==1) (.cal aD.c (c2.2,[(-2),(-1),0,5,32,33],()) λc4=>
   .ret (({c1.1 with fin:=c4.1}:Recv),c4.2))<|
  .ite (c2.1==2) (.ret (({c1.1 with done:=(!c1.1.done)}:Recv),c2.2))<|
  .ite (c2.1==3) (.cal aD.c (c2.2,[0,1,20,31,32,(-1),9223372036854775807],()) λc5=>
   .cal Ew.c (c5.2,[[],[120],[121,122]],()) λc6=>
   .grd (px c1.1.held 1 24)<|
   .ret (({c1.1 with held:=(c1.1.held++[(⟨c5.1,c6.1⟩:Piec)])}:Recv),c6.2))<|
  .ite (c2.1==4) (.cal aj.c (c2.2,3,()) λc7=>
   .cal yV.c ((IntKind.wrap .i64 (31+c7.1)),()) λc8=>
   .ret (({c1.1 with data:=c8}:Recv),c7.2))<|
  .ret (c1.1,c2.2)
noncomputable def Ve:=cq st ⟨465,Tryz.f465,[],1⟩ [Iw,ax,fQ,aJ,B3,wL] [] [.wr false [.ptr 0]] [.box [.st .curs]] (λx y=>(y.1.1,())) OA (λv=>[(true,uw (.o true) v.1)]) (λx y v=>((v.2,()),())) Tryz.func465 (by kernel_rfl) trivial
noncomputable def Tz:=[Gv,ax,SD,Ve,aJ,Mr,yC]
def yD:An:=⟨⟨[],[],false,1⟩,⟨[2,3],[],false,1⟩,⟨[],[]⟩,[(.normal,⟨[zp 2 1,zp 3 2],[.box [.st .curs [.sl .any]],.box [.st .conn [.nil .piec]],zk .conn 3,zf]⟩)]⟩
noncomputable def Ul:Fx:=⟨427,Tryz.f427,[(1000008,yD)],1⟩
noncomputable def Pg:FT (Curs×Unit) (Conn×Curs) (λx=>ah x.1) (λx v=>ac v.1∧ah v.2):= .mk λ(y0,_)=>
  .cal EZ.c (y0,()) λc1=>
  .cal aj.c (c1.2,16,()) λc2=>
  .bnd (β:=WT yD.es) (.as (λw=>ah w.1∧ac w.2.1∧ac w.2.2.1) (.ite (c2.1==0) (.cal aj.c (c2.2,11,()) λc3=>
    .ret (c3.2,(⟨⟨0,0,0⟩,0,⟨0,[],0,false,false,false⟩,⟨0,[],[],0,false⟩,0,0,⟨0,0,false,false,0,0⟩,0,0⟩:Conn),({c1.1 with state:=(IntKind.wrap .i64 (c3.1-1))}:Conn),()))<|
   .ite (c2.1==1) (.cal OD.c (c2.2,()) λc4=>
    .ret (c4.2,(⟨⟨0,0,0⟩,0,⟨0,[],0,false,false,false⟩,⟨0,[],[],0,false⟩,0,0,⟨0,0,false,false,0,0⟩,0,0⟩:Conn),({c1.1 with s.una:=c4.1.una,s.data:=c4.1.data,s.sent:=c4.1.sent,s.fin:=c4.1.fin,s.finSent:=c4.1.finSent,s.done:=c4.1.done}:Conn),()))<|
   .ite (c2.1==2) (.cal OA.c (c2.2,()) λc5=>
    .ret (c5.2,(⟨⟨0,0,0⟩,0,⟨0,[],0,false,false,false⟩,⟨0,[],[],0,false⟩,0,0,⟨0,0,false,false,0,0⟩,0,0⟩:Conn),({c1.1 with r.next:=c5.1.next,r.data:=c5.1.data,r.held:=c5.1.held,r.fin:=c5.1.fin,r.done:=c5.1.done}:Conn),()))<|
   .ite (c2.1==3) (.cal aD.c (c2.2,[(-1),0,c1.1.most,(IntKind.wrap .i64 (c1.1.most+1))],()) λc6=>
    .ret (c6.2,(⟨⟨0,0,0⟩,0,⟨0,[],0,false,false,false⟩,⟨0,[],[],0,false⟩,0,0,⟨0,0,false,false,0,0⟩,0,0⟩:Conn),({c1.1 with window:=c6.1}:Conn),()))<|
   .ite (c2.1==4) (.cal aD.c (c2.2,[(-1),0,3,4,5],()) λc7=>
    .ret (c7.2,(⟨⟨0,0,0⟩,0,⟨0,[],0,false,false,false⟩,⟨0,[],[],0,false⟩,0,0,⟨0,0,false,false,0,0⟩,0,0⟩:Conn),({c1.1 with timer:=c7.1}:Conn),()))<|
   .ite (c2.1==5) (.cal aD.c (c2.2,[(-1),0,3,4],()) λc8=>
    .ret (c8.2,(⟨⟨0,0,0⟩,0,⟨0,[],0,false,false,false⟩,⟨0,[],[],0,false⟩,0,0,⟨0,0,false,false,0,0⟩,0,0⟩:Conn),({c1.1 with tries:=c8.1}:Conn),()))<|
   .ite (c2.1==6) (.cal Mb.c (c2.2,()) λc9=>
    .ret (c9.2,(⟨⟨0,0,0⟩,0,⟨0,[],0,false,false,false⟩,⟨0,[],[],0,false⟩,0,0,⟨0,0,false,false,0,0⟩,0,0⟩:Conn),({c1.1 with opts.mss:=c9.1.mss,opts.scale:=c9.1.scale,opts.sack:=c9.1.sack,opts.stamp:=c9.1.stamp,opts.val:=c9.1.val,opts.echo:=c9.1.echo}:Conn),()))<|
   .ite (c2.1==7) (.cal Av.c (c2.2,()) λc10=>
    .ret (c10.2,(⟨⟨0,0,0⟩,0,⟨0,[],0,false,false,false⟩,⟨0,[],[],0,false⟩,0,0,⟨0,0,false,false,0,0⟩,0,0⟩:Conn),({c1.1 with tuple.ip:=c10.1.ip,tuple.port:=c10.1.port,tuple.my:=c10.1.my}:Conn),()))<|
   .ret (c2.2,(⟨⟨0,0,0⟩,0,⟨0,[],0,false,false,false⟩,⟨0,[],[],0,false⟩,0,0,⟨0,0,false,false,0,0⟩,0,0⟩:Conn),c1.1,()))) λ(u11a0,_,u11a2,_)=>
  .ret (u11a2,u11a0)
noncomputable def UC:=cq st Ul Tz [] [.wr false [.ptr 0]] [.box [.st .curs]] (λx y=>(y.1.1,())) Pg (λv=>[(true,fh (.o true) v.1)]) (λx y v=>((v.2,()),())) Tryz.func427 (by kernel_rfl) trivial
noncomputable def VY:=[AY,Sb,ax,UC,nr,aJ]
def xm:An:=⟨⟨[],[],false,1⟩,⟨[2,3,4,5],[],false,1⟩,⟨[],[]⟩,[(.normal,⟨[zp 2 1,zp 3 2,zp 4 3,zp 5 4],[.box [.st .curs [.sl .any]],.box [.st .tabl [.nil .conn,.nil .tupl]],zx .limi,zx .limi,.box [.st .tabl [.own 5,.own 6]],zf,zf]⟩)]⟩
noncomputable def Ug:Fx:=⟨347,Tryz.f347,[(1000013,xm)],1⟩
noncomputable def Oy:FT (Curs×Unit) (Tabl×Limi×Curs) (λx=>ah x.1) (λx v=>aV v.1∧ah v.2.2):= .mk λ(y0,_)=>
  .cal yl.c (y0,()) λc1=>
  .cal Lt.c (c1.2,c1.1,()) λc2=>
  .cal aj.c (c2.2,10,()) λc3=>
  .bnd (β:=WT xm.es) (.as (λw=>ah w.1∧aV w.2.1∧aV w.2.2.2.2.1) (.ite (c3.1==0) (.cal Pg.c (c3.2,()) λc4=>
    .grd (px c2.1.conns 1 208)<|
    .ret (c4.2,(⟨[],[]⟩:Tabl),(⟨0,0,0,0⟩:Limi),c1.1,(⟨(c2.1.conns++[c4.1]),c2.1.waiting⟩:Tabl),()))<|
   .ite (c3.1==1) (.cal pg.c (c3.2,()) λc5=>
    .grd (px c2.1.waiting 1 24)<|
    .ret (c5.2,(⟨[],[]⟩:Tabl),(⟨0,0,0,0⟩:Limi),c1.1,(⟨c2.1.conns,(c2.1.waiting++[c5.1])⟩:Tabl),()))<|
   .ite (c3.1==2) (.cal aD.c (c3.2,[0,16,17,1],()) λc6=>
    .ret (c6.2,(⟨[],[]⟩:Tabl),(⟨0,0,0,0⟩:Limi),({c1.1 with conns:=c6.1}:Limi),c2.1,()))<|
   .ite (c3.1==3) (.cal aD.c (c3.2,[(-1),1000,1001],()) λc7=>
    .ret (c7.2,(⟨[],[]⟩:Tabl),(⟨0,0,0,0⟩:Limi),({c1.1 with chal:=c7.1}:Limi),c2.1,()))<|
   .ite (c3.1==4) (.ite (decide (0<(c2.1.conns.length:Int))) (.grd (decide (0<(c2.1.conns.length:Int)))<|
     .grd (px c2.1.conns 1 208)<|
     .ret (c3.2,(⟨[],[]⟩:Tabl),(⟨0,0,0,0⟩:Limi),c1.1,(⟨(c2.1.conns++[(c2.1.conns.getD 0 (Ty.zero .conn))]),c2.1.waiting⟩:Tabl),()))<|
    .ret (c3.2,(⟨[],[]⟩:Tabl),(⟨0,0,0,0⟩:Limi),c1.1,c2.1,()))<|
   .ret (c3.2,(⟨[],[]⟩:Tabl),(⟨0,0,0,0⟩:Limi),c1.1,c2.1,()))) λ(u8a0,_,_,u8a3,u8a4,_)=>
  .ret (u8a4,u8a3,u8a0)
noncomputable def TG:=cq st Ug VY [] [.wr false [.ptr 0]] [.box [.st .curs]] (λx y=>(y.1.1,())) Oy (λv=>[(true,qh (.o true) (.o true) v.1),(true,acF v.2.1)]) (λx y v=>((v.2.2,()),())) Tryz.func347 (by kernel_rfl) trivial

end
end Go.Proofs.YtfpdenjmlnhnnaaGreat
