/-
  Contracts of functions and plain laws (printed by a program): each theorem says what a function of the program returns; conditions are its hypotheses.
-/
import Derived.Test.YteiiknfadjnmgaaGreatEK1
set_option linter.all false
set_option maxRecDepth 4000
namespace Go.Proofs.YteiiknfadjnmgaaGreat
open Go Go.RowKit
noncomputable section
noncomputable def fU:=[Fz]
def bV:Sh:=⟨[zl 0 .half,(1,false,[.fn 328 [0]]),zi 7,zi 8],[zx .tupl]⟩
noncomputable def fW:Fx:=⟨314,Tryz.f314,[(0,la ⟨[0,1,7,8],[],false,1⟩ ⟨[4],[],false,1⟩)],1⟩
noncomputable def fp (v0:List Half)(v3:Tupl)(v2:Int)(a:Unit):Tr (Stp (Unit) ((Int))):=
 .grd (dr v0 v2)<|
 .cal ru.c ((v0.getD v2.toNat (Ty.zero .half)),v3,()) λc1=>
 .ite c1 (.ret (.out v2))<|
 .ret (.next ())
noncomputable def bc:bV.V→tM bV Unit (Int):=λ(v0,v1,v2,v3,_)=>⟨v2,(),λv2 _=>(v0,v1,v2,v3,()),λv2 _=>(decide (v2<v1)),fp v0 v3,up,1,(Int.toNat (v1-v2)),.inl,eR,oB .ret ⟨[zi 4],[zx .tupl]⟩ (λp=>(p,v3,())) (.exit 0) ⟨[zu 4],[zx .tupl]⟩ (λ_=>(v3,()))⟩
theorem kn:LS Tryz.prog fW [0] (jz 0 bV bc):=eB st (aV fU) _ bc [] trivial
theorem ke {v0:List Half}{v1 v2:Int}{v3:Tupl}(h0:0≤v2)(h1:v1≤4611686018427387904)(h2:v1≤(v0.length:Int)):(bc (v0,v1,v2,v3,())).U v1 (λ_ _=>True) (λp=>v2≤p∧p<v1):=
 kN h0 h1 trivial
noncomputable def dM:FT (List Half×Tupl×Unit) (Int) (λx=>wS x.1) (λx v=> -1≤v∧v<x.1.length):= .mk (λ(x0,y1_0,_)=>
  .lp (bc (x0,(x0.length:Int),0,y1_0,())).lp λw2=> .sum w2 (λp2a0=>
  .ret p2a0)<|
  λ_=>
  .ret (-1)) (pQ @ke)
noncomputable def lO:=cy st fW fU [(jz 0 bV bc)] [.sc (.sl .half),.fn 328 [0]] [.box [.st .tupl]] (λx y=>(x.1,y.1.1,())) dM rI (λx y v=>((y.1.1,()),())) Tryz.func314 (by kernel_rfl) ⟨kn,trivial⟩
noncomputable def ah:FT (Curs×Int×Unit) (Int×Curs) (λx=>ae x.1) (λx v=>ae v.2∧0≤v.1∧(0<x.2.1→v.1<x.2.1)):=⟨λ(y0,x1,_)=>
  .ite (decide (x1≤0)) (.ret (0,y0))<|
  .ite (decide (x1≤256)) (.cal lC.c (y0,()) λc1=>
   .grd (x1 != 0)<|
   .ret ((c1.1.tmod x1),c1.2))<|
  .cal lC.c (y0,()) λc2=>
  .cal lC.c (c2.2,()) λc3=>
  .cal lC.c (c3.2,()) λc4=>
  .cal lC.c (c4.2,()) λc5=>
  .val (IntKind.wrap .i64 ((IntKind.wrap .i64 (c2.1*16777216))+(IntKind.wrap .i64 (c3.1*65536)))) λe6=>
  .val (IntKind.wrap .i64 ((IntKind.wrap .i64 (e6+(IntKind.wrap .i64 (c4.1*256))))+c5.1)) λe7=>
  .grd (x1 != 0)<|
  .ret ((e7.tmod x1),c5.2),
 λ(y0,x1,_) hp=>by
  refine Tr.I (λb0=>Tr.R ?_) λb0=>Tr.I (λb1=>Tr.C ?_ λc1 hc1 qc1=>Tr.G ?_ λg2=>Tr.R ?_) λb1=>Tr.C ?_ λc2 hc2 qc2=>Tr.C ?_ λc3 hc3 qc3=>Tr.C ?_ λc4 hc4 qc4=>Tr.C ?_ λc5 hc5 qc5=>Tr.V λe6 he6=>Tr.V λe7 he7=>Tr.G ?_ λg2=>Tr.R ?_
  all_goals ((first|grind|(refine⟨by grind,Dz ?_,λh=>yt h⟩;first|grind|(subst_vars;simp only[dh];omega))))⟩
noncomputable def aw:=cy st ⟨99,Tryz.f99,[],1⟩ [rJ] [] [.wr false [.ptr 0],.sc (.int .i64)] [.box [.st .curs]] (λx y=>(y.1.1,x.2.1,())) ah (λv=>[(false,[.c (.int .i64 v.1)])]) (λx y v=>((v.2,()),())) Tryz.func99 (by kernel_rfl) trivial
noncomputable def jq:FT (Stac×Unit) (Bool) (λx=>bL x.1) (λx v=>(v=true→x.1.door.table.conns.length≤16)):= .mk λ(x0,_)=>
  .cal qM.c (x0.link,()) λc1=>
  .ite c1 (.cal oW.c (x0.door,()) λc2=>
   .ret c2)<|
  .ret false
noncomputable def p8:=bm st Tryz.func19 [xk,sG] (ks:=[.st .stac]) jq rB
noncomputable def aO:FT (Tabl×Tupl×Unit) (Int) (λx=>wS x.1.conns) (λx v=> -1≤v∧v<x.1.conns.length):= .mk λ(x0,x1,_)=>
  .cal d5.c (x0.conns,x1,()) λc1=>
  .ret c1
noncomputable def nz:=bm st Tryz.func59 [lN] (ks:=[.st .tabl,.st .tupl]) aO rI
noncomputable def n6:FT (Tabl×Conn×Unit) (Tabl) (λx=>bg x.1∧ak x.2.1) (λx v=>bg v∧v.conns.length=x.1.conns.length):= .mk λ(x0,x1,_)=>
  .cal gS.c (x0,()) λc1=>
  .cal aO.c (x0,x1.tuple,()) λc2=>
  .ite (decide (0≤c2)) (.cal ja.c (x1,()) λc3=>
   .grd (dr c1.conns c2)<|
   .ret (⟨(c1.conns.set c2.toNat c3),c1.waiting⟩:Tabl))<|
  .ret c1
noncomputable def WM:=bm st Tryz.func62 [pf,nz,mC] (ks:=[.st .tabl,.st .conn]) n6 (λv=>[(true,qg (.o true) (.o true) v)])
noncomputable def n5:FT (Stac×Unit) (Stac) (λx=>bL x.1) (λx v=>bL v):= .mk λ(x0,_)=>
  .cal oc.c (x0.link,()) λc1=>
  .cal dq.c (x0.door,()) λc2=>
  .ret (⟨c1,c2⟩:Stac)
noncomputable def u9:=bm st Tryz.func64 [BD,fE] (ks:=[.st .stac]) n5 (λv=>[(true,sI (.o true) (.o true) (.o true) (.o true) (.o true) (.o true) v)])
noncomputable def Bc:FT (Door×Mac×Unit) (Door) (λx=>aU x.1∧dF x.2.1) (λx v=>aU v):= .mk λ(x0,x1,_)=>
  .cal dq.c (x0,()) λc1=>
  .cal H7.c (x0.keys,x1,()) λc2=>
  .ret (⟨c1.port,c1.clock,c2,c1.limits,c1.halves,c1.table,c1.chal⟩:Door)
noncomputable def HK:=bm st Tryz.func67 [fE,N7] (ks:=[.st .door,.st .mac]) Bc (λv=>[(true,lZ (.o true) (.o true) (.o true) (.o true) (.o true) v)])
noncomputable def Q4:=[wG,uo,CC]
noncomputable def Pw:Fx:=⟨95,Tryz.f95,[(3000003,rA 0 27)],0⟩
noncomputable def jH:FT (ac×Unit) (Pack×Segm×Bool) (λx=>sS x.1) (λx v=>gT v.1∧ar v.2.1):= .mk λ(x0,_)=>
  .cal iZ.c (x0,()) λc1=>
  .cal dI.c (c1.1.body,()) λc2=>
  .bnd (β:=Bool×Unit) (.ite (!c1.2) (.ret (true,()))<|
   .ret ((c2.2 != 0),())) λ(u3a0,_)=>
  .ite u3a0 (.ret ((⟨0,0,0,0,0,[]⟩:Pack),(⟨0,0,0,0,0,0,⟨0,0,false,false,0,0⟩,[]⟩:Segm),false))<|
  .cal aH.c (c2.1.body,c2.1.src,c2.1.dst,()) λc4=>
  .ret (c2.1,c4.1,c4.2)
noncomputable def Pm:=ck st Pw Q4 [] (ks:=[.sc .str]) jH (λv=>[(true,uJ v.1),(true,mq v.2.1),(false,[.c (.bool v.2.2)])]) Tryz.func95 trivial
noncomputable def ic:FT (ac×Unit) (Pack×Segm×Bool) (λx=>sS x.1) (λx v=>gT v.1∧ar v.2.1):= .mk λ(x0,_)=>
  .cal kI.c (x0,()) λc1=>
  .cal jc.c (c1.1.body,()) λc2=>
  .cal iu.c (c2.1.body,c2.1.src,c2.1.dst,()) λc3=>
  .ite c1.2 (.ite (c2.2==0) (.ret (c2.1,c3.1,c3.2))<|
   .ret (c2.1,c3.1,false))<|
  .ret (c2.1,c3.1,false)
noncomputable def LB:=bm st Tryz.func117 [wJ,uS,sU] (ks:=[.sc .str]) ic (λv=>[(true,uJ v.1),(true,mq v.2.1),(false,[.c (.bool v.2.2)])])
noncomputable def O6:=[Hk,wG,xd,Se,N4,M6,J5,LY,ww,uo]
noncomputable def QF:Fx:=⟨137,Tryz.f137,[(3000003,rA 0 37),(3000008,rA 0 58),(3000016,rA 0 117)],0⟩
noncomputable def bk:FT (Link×ac×Unit) (Link×Int×Pack×ac) (λx=>d8 x.1∧sS x.2.1) (λx v=>d8 v.1∧gT v.2.2.1∧sS v.2.2.2∧v.2.2.1.body.length≤1500):= .mk λ(x0,x1,_)=>
  .cal pN.c (x0,()) λc1=>
  .cal iZ.c (x1,()) λc2=>
  .bnd (β:=Bool×Unit) (.cal d7.c (x0,()) λc3=>
   .ite (!c3) (.ret (true,()))<|
   .ite (!c2.2) (.ret (true,()))<|
   .val (nQ.f (c2.1,x0.mac,())) λc4=>
   .ret ((!c4),())) λ(u5a0,_)=>
  .ite u5a0 (.ret (c1,0,(⟨0,0,0,0,0,[]⟩:Pack),[]))<|
  .ite (c2.1.type==2054) (.cal kH.c (c2.1.body,()) λc6=>
   .bnd (β:=Bool×Unit) (.ite (!c6.2) (.ret (true,()))<|
    .ret ((c6.1.dstIp != x0.ip),())) λ(u7a0,_)=>
   .ite u7a0 (.ret (c1,0,(⟨0,0,0,0,0,[]⟩:Pack),[]))<|
   .cal qK.c (x0.cache,c6.1.srcIp,c6.1.srcHw,()) λc8=>
   .cal kj.c (c6.1,x0.mac,x0.ip,()) λc9=>
   .ite c9.2 (.cal dE.c (c9.1,()) λc10=>
    .cal cm.c ((⟨c6.1.srcHw,x0.mac,2054,c10⟩:Fram),()) λc11=>
    .ret (({c1 with cache:=c8}:Link),1,(⟨0,0,0,0,0,[]⟩:Pack),c11))<|
   .ret (({c1 with cache:=c8}:Link),0,(⟨0,0,0,0,0,[]⟩:Pack),[]))<|
  .ite (c2.1.type==2048) (.cal dI.c (c2.1.body,()) λc12=>
   .bnd (β:=Bool×Unit) (.ite (c12.2 != 0) (.ret (true,()))<|
    .ite (c12.1.dst != x0.ip) (.ret (true,()))<|
    .ite (c12.1.proto != 6) (.ret (true,()))<|
    .ret ((c12.1.src==x0.ip),())) λ(u13a0,_)=>
   .ite u13a0 (.ret (c1,0,(⟨0,0,0,0,0,[]⟩:Pack),[]))<|
   .cal qK.c (x0.cache,c12.1.src,c2.1.src,()) λc14=>
   .ret (({c1 with cache:=c14}:Link),2,c12.1,[]))<|
  .ret (c1,0,(⟨0,0,0,0,0,[]⟩:Pack),[])
noncomputable def Xn:=ck st QF O6 [] (ks:=[.st .link,.sc .str]) bk (λv=>[(true,xn (.o true) v.1),(false,[.c (.int .i64 v.2.1)]),(true,uJ v.2.2.1),(false,[.c (.str v.2.2.2)])]) Tryz.func137 trivial
noncomputable def OV:=[BD,wJ,xk,Sy,Q3,uS,pW]
noncomputable def Qz:Fx:=⟨158,Tryz.f158,[(3000003,rA 0 33),(3000010,rA 0 77),(4000000,la ⟨[],[],false,0⟩ ⟨[],[.softb 4 2],false,0⟩)],0⟩
noncomputable def y3:FT (Link×ac×Unit) (Link×Int×Pack×ac) (λx=>d8 x.1∧sS x.2.1) (λx v=>d8 v.1∧gT v.2.2.1∧sS v.2.2.2∧v.2.2.1.body.length≤1500):= .mk λ(x0,x1,_)=>
  .cal oc.c (x0,()) λc1=>
  .cal kI.c (x1,()) λc2=>
  .bnd (β:=Bool×Unit) (.cal qM.c (x0,()) λc3=>
   .ite (!c3) (.ret (true,()))<|
   .ite (!c2.2) (.ret (true,()))<|
   .val (Dp.f (c2.1,x0.mac,())) λc4=>
   .ret ((!c4),())) λ(u5a0,_)=>
  .ite u5a0 (.ret (c1,0,(⟨0,0,0,0,0,[]⟩:Pack),[]))<|
  .ite (c2.1.type==2054) (.cal FL.c (c1,c2.1,()) λc6=>
   .ret (c6.1,c6.2.1,c6.2.2.1,c6.2.2.2))<|
  .ite (c2.1.type != 2048) (.ret (c1,0,(⟨0,0,0,0,0,[]⟩:Pack),[]))<|
  .cal jc.c (c2.1.body,()) λc7=>
  .bnd (β:=Bool×Unit) (.ite (c7.2 != 0) (.ret (true,()))<|
   .ite (c7.1.dst != x0.ip) (.ret (true,()))<|
   .ite (c7.1.proto != 6) (.ret (true,()))<|
   .ret ((c7.1.src==x0.ip),())) λ(u8a0,_)=>
  .ite u8a0 (.ret (c1,0,(⟨0,0,0,0,0,[]⟩:Pack),[]))<|
  .cal lV.c (c1.cache,c7.1.src,c2.1.src,()) λc9=>
  .ret (({c1 with cache:=c9}:Link),2,c7.1,[])
noncomputable def QZ:=ck st Qz OV [] (ks:=[.st .link,.sc .str]) y3 (λv=>[(true,xn .c v.1),(false,[.c (.int .i64 v.2.1)]),(true,uJ v.2.2.1),(false,[.c (.str v.2.2.2)])]) Tryz.func158 trivial
def u3:Sh:=⟨[zi 1,zl 2 .segm,zp 3 0,zo 7 1,zi 8],[.box [.st .stac [.sl .arg,.sl .arg,.sl .arg,.sl .arg,.sl .arg,.sl .arg]],za .str]⟩
noncomputable def pb (v0:Int)(v1:List Segm)(v3:Stac)(v2:Int)(a:List ac):Tr (Stp (List ac) (Empty)):=
 .grd (dr v1 v2)<|
 .cal jD.c ((v1.getD v2.toNat (Ty.zero .segm)),v3.link.ip,v0,()) λc1=>
 .cal vA.c (v3.link,v0,c1,()) λc2=>
 .ite c2.2 (.grd (qi a 1 16)<|
  .ret (.next (a++[c2.1])))<|
 .ret (.next a)
noncomputable def gf:u3.V→sD u3 (List ac):=λ(v0,v1,v2,v3,v4,_)=>⟨v2,v4,λv2 a=>(v0,v1,v2,v3,a,()),λv2 _=>(decide (v2<(v1.length:Int))),pb v0 v1 v3,up,1,(Int.toNat ((v1.length:Int)-v2)),Empty.elim,Prod.mk,oN (.exit 0) ⟨[zu 6,zo 7 0],[za .str]⟩ (λx=>(x.2,()))⟩
theorem DF {v0 v2:Int}{v1:List Segm}{v3:Stac}{v4:List ac}(h0:0≤v2)(h1:(v1.length:Int)≤4611686018427387904)(h2:sL ar v1)(h3:bL v3)(h4:(v4.length:Int)≤v2∧cY sS v4):(gf (v0,v1,v2,v3,v4,())).U (v1.length:Int) (λv2 a=>(a.length:Int)≤v2∧cY sS a) (λ_=>True):=
 kN (a:=v4) h0 h1 h4
noncomputable def gc:FT (Stac×Int×List Segm×Unit) (List ac) (λx=>bL x.1∧sL ar x.2.2.1) (λx v=>sL sS v∧v.length≤x.2.2.1.length):=⟨λ(x0,x1,x2,_)=>
  .lp (gf (x1,x2,0,x0,[],())).lp λ(_,a3_0)=>
  .ret a3_0,
 λ(x0,x1,x2,_) hp=>by
  refine Tr.L (DF ?_ ?_ ?_ ?_ ?_) (λa3_0 _=>Tr.R ?_) (λp=>Empty.elim p)
  all_goals ((try simp only[gf,LC.lp,LC.ct,Ct.lp]at*)<;>grind)⟩
noncomputable def vq:=fD st Tryz.func161 [(0,lb [1,2,3,7,8] [6,7])] [th,MP] 0 gf (ks:=[.st .stac,.sc (.int .i64),.sc (.sl .segm)]) gc (λv=>[(false,[sc (.o true) .str v])])
noncomputable def lU:FT (Stac×Conn×List Segm×Resu×Unit) (Stac×Resu) (λx=>bL x.1∧ak x.2.1∧sL ar x.2.2.1∧j7 x.2.2.2.1) (λx v=>bL v.1∧j7 v.2):= .mk λ(x0,x1,x2,x3,_)=>
  .cal rj.c (x0.door.table,x1,()) λc1=>
  .cal Du.c (c1,()) λc2=>
  .cal gc.c (({x0 with door.table.conns:=c2.conns,door.table.waiting:=c2.waiting}:Stac),x1.tuple.ip,x2,()) λc3=>
  .ret (({x0 with door.table.conns:=c2.conns,door.table.waiting:=c2.waiting}:Stac),({x3 with frames:=c3,ok:=true}:Resu))
noncomputable def L3:=bm st Tryz.func170 [BN,AQ,vq] (ks:=[.st .stac,.st .conn,.sc (.sl .segm),.st .resu]) lU (λv=>[(true,sI .c .c .c .c (.o true) (.o true) v.1),(true,PT (.o true) v.2)])
noncomputable def tU:=[JO,EF,nz,De]
def lf:Sh:=⟨[zp 2 0,zl 29 .conn,zi 30,zi 31],[.box [.st .tabl [.sl .arg,.sl .arg]]]⟩
def k8:Sh:=⟨[zp 2 0,zl 49 .tupl,zi 50,zi 51],[.box [.st .tabl [.sl .arg,.sl .arg]]]⟩
noncomputable def ul:Fx:=⟨186,Tryz.f186,[(0,lb [2,29,30,31] [2,4]),(2,lb [2,49,50,51] [4]),(3000001,rA 0 27)],0⟩
noncomputable def dS (v0:List Conn)(v3:Tabl)(v2:Int)(a:Unit):Tr (Stp (Unit) ((Unit))):=
 .grd (dr v0 v2)<|
 .cal cJ.c ((v0.getD v2.toNat (Ty.zero .conn)),()) λc3=>
 .ite (!c3) (.ret (.out ()))<|
 .cal aO.c (v3,(v0.getD v2.toNat (Ty.zero .conn)).tuple,()) λc4=>
 .ite (c4 != v2) (.ret (.out ()))<|
 .ret (.next ())
noncomputable def ff:lf.V→tM lf Unit (Unit):=λ(v0,v1,v2,v3,_)=>⟨v2,(),λv2 _=>(v0,v1,v2,v3,()),λv2 _=>(decide (v2<v1)),dS v0 v3,up,1,(Int.toNat (v1-v2)),.inl,eR,oB .ret ⟨[zp 2 0,zb 4],[.box [.st .tabl [.sl .arg,.sl .arg]]]⟩ (λ_=>(false,v3,())) (.exit 0) ⟨[zp 2 0,zu 4],[.box [.st .tabl [.sl .arg,.sl .arg]]]⟩ (λ_=>(v3,()))⟩
theorem Gp:LS Tryz.prog ul [0] (jz 0 lf ff):=eB st (aV tU) _ ff [] trivial
theorem Gn {v0:List Conn}{v1 v2:Int}{v3:Tabl}(h0:0≤v2)(h1:v1≤4611686018427387904)(h2:sL ak v0)(h3:bg v3)(h4:v1≤(v0.length:Int)):(ff (v0,v1,v2,v3,())).U v1 (λ_ _=>True) (λ_=>True):=
 kN h0 h1 trivial
noncomputable def dY (v0:List Tupl)(v3:Tabl)(v2:Int)(a:Unit):Tr (Stp (Unit) ((Unit))):=
 .grd (dr v0 v2)<|
 .cal aO.c (v3,(v0.getD v2.toNat (Ty.zero .tupl)),()) λc6=>
 .ite (decide (c6<0)) (.ret (.out ()))<|
 .cal mG.c (v3.waiting,(v0.getD v2.toNat (Ty.zero .tupl)),()) λc7=>
 .ite (c7 != v2) (.ret (.out ()))<|
 .ret (.next ())
noncomputable def fc:k8.V→tM k8 Unit (Unit):=λ(v0,v1,v2,v3,_)=>⟨v2,(),λv2 _=>(v0,v1,v2,v3,()),λv2 _=>(decide (v2<v1)),dY v0 v3,up,1,(Int.toNat (v1-v2)),.inl,eR,oB .ret ⟨[zb 4],[]⟩ (λ_=>(false,())) (.exit 2) ⟨[zu 4],[]⟩ (λ_=>())⟩
theorem Fe:LS Tryz.prog ul [1] (jz 2 k8 fc):=eB st (aV tU) _ fc [] trivial
theorem ou {v0:List Tupl}{v1 v2:Int}{v3:Tabl}(h0:0≤v2)(h1:v1≤4611686018427387904)(h2:sS v0)(h3:bg v3)(h4:v1≤(v0.length:Int)):(fc (v0,v1,v2,v3,())).U v1 (λ_ _=>True) (λ_=>True):=
 kN h0 h1 trivial
noncomputable def dk:FT (Tabl×Limi×Unit) (Bool) (λx=>wS x.1.conns∧cY ak x.1.conns∧wS x.1.waiting) (λx v=>(v=true→x.1.conns.length≤16∧x.1.waiting.length≤16)):= .mk (λ(x0,x1,_)=>
  .bnd (β:=Bool×Unit) (.as (λw=>(w.1=false→x1.halves≤64∧x1.waiting≤16∧x1.conns≤16)) (.cal fo.c (x1,()) λc1=>
   .ite (!c1) (.ret (true,()))<|
   .ite (decide (x1.conns<(x0.conns.length:Int))) (.ret (true,()))<|
   .ret ((decide (x1.waiting<(x0.waiting.length:Int))),()))) λ(u2a0,_)=>
  .ite u2a0 (.ret false)<|
  .lp (ff (x0.conns,(x0.conns.length:Int),0,x0,())).lp λw5=> .sum w5 (λ_=>
  .ret false)<|
  λ_=>
  .lp (fc (x0.waiting,(x0.waiting.length:Int),0,x0,())).lp λw8=> .sum w8 (λ_=>
  .ret false)<|
  λ_=>
  .ret true) (YL @Gn @ou @ou @ou)
noncomputable def Cf:=ck st ul tU [(jz 0 lf ff),(jz 2 k8 fc)] (ks:=[.st .tabl,.st .limi]) dk rB Tryz.func186 ⟨Gp,Fe,trivial⟩
def y9:Sh:=⟨[zs 1,zp 2 0,zi 5],[zg .mac]⟩
noncomputable def rG (v0:ac)(v2:Mac)(v1:Int)(a:Unit):Tr (Stp (Unit) ((Int))):=
 .grd (dr v2.rows v1)<|
 .ite ((v2.rows.getD v1.toNat (Ty.zero .macRow)).input==v0) (.grd (dr v2.rows v1)<|
  .ite (decide ((((v2.rows.getD v1.toNat (Ty.zero .macRow)).value).tmod 16777216)<0)) (.val (IntKind.wrap .i64 ((((v2.rows.getD v1.toNat (Ty.zero .macRow)).value).tmod 16777216)+16777216)) λe2=>
   .ret (.out e2))<|
  .ret (.out (((v2.rows.getD v1.toNat (Ty.zero .macRow)).value).tmod 16777216)))<|
 .ret (.next ())
noncomputable def nI:y9.V→tM y9 Unit (Int):=λ(v0,v1,v2,_)=>⟨v1,(),λv1 _=>(v0,v1,v2,()),λv1 _=>(decide (v1<(v2.rows.length:Int))),rG v0 v2,up,1,(Int.toNat ((v2.rows.length:Int)-v1)),.inl,eR,oB .ret ⟨[zi 4],[]⟩ (λp=>(p,())) (.exit 0) ⟨[zu 4],[]⟩ (λ_=>())⟩
theorem KP {v0:ac}{v1:Int}{v2:Mac}(h0:0≤v1)(h1:(v2.rows.length:Int)≤4611686018427387904):(nI (v0,v1,v2,())).U (v2.rows.length:Int) (λ_ _=>True) (λ_=>True):=
 kN h0 h1 trivial
noncomputable def Dn:FT (Mac×ac×Unit) (Int) (λx=>dF x.1∧sS x.2.1) (λ_ _=>True):= .mk (λ(x0,x1,_)=>
  .ite (!x0.use) (.cal vW.c (x0.k,x0.l,x1,()) λc1=>
   .ret (IntKind.wrap .i64 (c1.tmod 16777216)))<|
  .lp (nI (x1,0,x0,())).lp λw3=> .sum w3 (λp3a0=>
  .ret p3a0)<|
  λ_=>
  .ret 0) (pQ @KP)
noncomputable def Tl:=fD st Tryz.func195 [(0,lb [1,2,5] [4])] [Od] 0 nI (ks:=[.st .mac,.sc .str]) Dn rI
noncomputable def aP:FT (List Half×Tupl×Unit) (Int) (λx=>wS x.1) (λx v=> -1≤v∧v<x.1.length):= .mk λ(x0,x1,_)=>
  .cal dM.c (x0,x1,()) λc1=>
  .ret c1
noncomputable def zN:=bm st Tryz.func214 [lO] (ks:=[.sc (.sl .half),.st .tupl]) aP rI
noncomputable def rp:FT (Tabl×Conn×Limi×Unit) (Tabl×Bool) (λx=>bg x.1∧ak x.2.1) (λx v=>bg v.1∧v.1.conns.length≤max x.1.conns.length 16∧v.1.waiting.length≤max x.1.waiting.length 16∧x.1.conns.length≤v.1.conns.length):= .mk λ(x0,x1,x2,_)=>
  .cal gS.c (x0,()) λc1=>
  .cal ja.c (x1,()) λc2=>
  .grd (qi c1.conns 1 208)<|
  .grd (qi c1.waiting 1 24)<|
  .cal dk.c ((⟨(c1.conns++[c2]),(c1.waiting++[x1.tuple])⟩:Tabl),x2,()) λc3=>
  .ite (!c3) (.cal gS.c (x0,()) λc4=>
   .ret (c4,false))<|
  .ret ((⟨(c1.conns++[c2]),(c1.waiting++[x1.tuple])⟩:Tabl),true)
noncomputable def Wp:=bm st Tryz.func335 [pf,mC,Cf] (ks:=[.st .tabl,.st .conn,.st .limi]) rp (λv=>[(true,qg (.o true) (.o true) v.1),(false,[.c (.bool v.2)])])
noncomputable def MN:=[cT,BT,rN,rl,SW,yH,pm]
def nj:An:=⟨⟨[],[],false,0⟩,⟨[2,3,4,5,6,7,8,9],[],false,0⟩,⟨[],[]⟩,[(.normal,⟨[zp 2 0,zp 3 1,zp 4 2,(5,false,[.nil]),zi 6,zp 7 3,zo 8 4,zi 9],[zg .conn,zx .segm,.box [.st .conn [.nil .piec]],zk .conn 5,za .segm,zf]⟩)]⟩
noncomputable def MR:Fx:=⟨392,Tryz.f392,[(1000046,nj),(3000014,rA 0 46),(3000022,rA 0 78)],0⟩
noncomputable def nX:FT (Conn×Segm×Unit) (Conn×List Segm×Int) (λx=>ak x.1∧ar x.2.1) (λx v=>ak v.1∧sL ar v.2.1):= .mk λ(x0,x1,_)=>
  .cal cS.c (x0,()) λc1=>
  .cal rk.c (x0,x1,()) λc2=>
  .ite (c2==1) (.ret (c1,[],c2))<|
  .ite (c2==2) (.ret (({c1 with state:=8,timer:=0,tries:=0}:Conn),[],c2))<|
  .ite (c2==3) (.ite (c2==3) (.bnd (β:=Bool×Unit) (.ite (c2==4) (.ite (x0.state==7) (.val (fV.f (x1,1,())) λc3=>
       .ret (c3,()))<|
      .ret (false,()))<|
     .ret (false,())) λ(u4a0,_)=>
    .bnd (β:=WT nj.es) (.as (λw=>ak w.2.2.1∧ar w.2.2.2.1∧ak w.2.2.2.2.1∧ak w.2.2.2.2.2.1∧sL ar w.2.2.2.2.2.2.1) (.ite u4a0 (.ret (0,c2,x0,x1,(⟨⟨0,0,0⟩,0,⟨0,[],0,false,false,false⟩,⟨0,[],[],0,false⟩,0,0,⟨0,0,false,false,0,0⟩,0,0⟩:Conn),({c1 with timer:=4}:Conn),[],()))<|
     .ret (0,c2,x0,x1,(⟨⟨0,0,0⟩,0,⟨0,[],0,false,false,false⟩,⟨0,[],[],0,false⟩,0,0,⟨0,0,false,false,0,0⟩,0,0⟩:Conn),c1,[],()))) λ(_,u5a1,u5a2,_,_,u5a5,_,_)=>
    .cal eH.c (u5a2,()) λc6=>
    .ret (u5a5,[c6],u5a1))<|
   .cal z4.c (x0,x1,()) λc7=>
   .ite (c7.state==8) (.ret (c7,[],c2))<|
   .cal eH.c (c7,()) λc8=>
   .cal jA.c (c7,c7.window,()) λc9=>
   .bnd (β:=Bool×Unit) (.cal gQ.c (x1,()) λc10=>
    .ite (decide (0<c10)) (.ret (((c9.2.length:Int)==0),()))<|
    .ret (false,())) λ(u11a0,_)=>
   .ite u11a0 (.grd (qi c9.2 1 104)<|
    .ret (c9.1,(c9.2++[c8]),c2))<|
   .ret (c9.1,c9.2,c2))<|
  .ite (c2==4) (.bnd (β:=Bool×Unit) (.ite (c2==4) (.ite (x0.state==7) (.val (fV.f (x1,1,())) λc12=>
      .ret (c12,()))<|
     .ret (false,()))<|
    .ret (false,())) λ(u13a0,_)=>
   .bnd (β:=WT nj.es) (.as (λw=>ak w.2.2.1∧ar w.2.2.2.1∧ak w.2.2.2.2.1∧ak w.2.2.2.2.2.1∧sL ar w.2.2.2.2.2.2.1) (.ite u13a0 (.ret (0,c2,x0,x1,(⟨⟨0,0,0⟩,0,⟨0,[],0,false,false,false⟩,⟨0,[],[],0,false⟩,0,0,⟨0,0,false,false,0,0⟩,0,0⟩:Conn),({c1 with timer:=4}:Conn),[],()))<|
    .ret (0,c2,x0,x1,(⟨⟨0,0,0⟩,0,⟨0,[],0,false,false,false⟩,⟨0,[],[],0,false⟩,0,0,⟨0,0,false,false,0,0⟩,0,0⟩:Conn),c1,[],()))) λ(_,u14a1,u14a2,_,_,u14a5,_,_)=>
   .cal eH.c (u14a2,()) λc15=>
   .ret (u14a5,[c15],u14a1))<|
  .cal z4.c (x0,x1,()) λc16=>
  .ite (c16.state==8) (.ret (c16,[],c2))<|
  .cal eH.c (c16,()) λc17=>
  .cal jA.c (c16,c16.window,()) λc18=>
  .bnd (β:=Bool×Unit) (.cal gQ.c (x1,()) λc19=>
   .ite (decide (0<c19)) (.ret (((c18.2.length:Int)==0),()))<|
   .ret (false,())) λ(u20a0,_)=>
  .ite u20a0 (.grd (qi c18.2 1 104)<|
   .ret (c18.1,(c18.2++[c17]),c2))<|
  .ret (c18.1,c18.2,c2)
noncomputable def uj:=ck st MR MN [] (ks:=[.st .conn,.st .segm]) nX (λv=>[(true,kg (.o true) v.1),(false,[sc (.o true) .segm v.2.1]),(false,[.c (.int .i64 v.2.2)])]) Tryz.func392 trivial
noncomputable def ve:FT (Door×Conn×Segm×Int×Unit) (Door×List Segm×Int) (λx=>aU x.1∧ak x.2.1∧ar x.2.2.1) (λx v=>aU v.1∧sL ar v.2.1):= .mk λ(x0,x1,x2,x3,_)=>
  .cal dq.c (x0,()) λc1=>
  .cal qD.c (x0.table,x1,x0.limits,()) λc2=>
  .ite (!c2.2) (.ret (c1,[],0))<|
  .cal nX.c (x1,x2,()) λc3=>
  .cal rj.c (c2.1,c3.1,()) λc4=>
  .cal oO.c (c1.halves,x1.tuple,()) λc5=>
  .ret (({c1 with halves:=c5,table.conns:=c4.conns,table.waiting:=c4.waiting}:Door),c3.2.1,x3)
noncomputable def Px:=bm st Tryz.func396 [fE,BZ,uj,BN,zd] (ks:=[.st .door,.st .conn,.st .segm,.sc (.int .i64)]) ve (λv=>[(true,lZ (.o true) (.o true) (.o true) (.o true) (.o true) v.1),(false,[sc (.o true) .segm v.2.1]),(false,[.c (.int .i64 v.2.2)])])
def yL:Sh:=⟨[zs 1,zl 19 .macRow,zi 20,zi 21],[]⟩
noncomputable def jk (v0:ac)(v1:List MacRow)(v3:Int)(a:Unit):Tr (Stp (Unit) ((Int))):=
 .grd (dr v1 v3)<|
 .ite ((v1.getD v3.toNat (Ty.zero .macRow)).input==v0) (.val (IntKind.wrap .i64 ((((v1.getD v3.toNat (Ty.zero .macRow)).value).tmod 16777216)+16777216)) λe2=>
  .ret (.out (e2.tmod 16777216)))<|
 .ret (.next ())
noncomputable def lF:yL.V→tM yL Unit (Int):=λ(v0,v1,v2,v3,_)=>⟨v3,(),λv3 _=>(v0,v1,v2,v3,()),λv3 _=>(decide (v3<v2)),jk v0 v1,up,1,(Int.toNat (v2-v3)),.inl,eR,oB .ret ⟨[zi 4],[]⟩ (λp=>(p,())) (.exit 0) ⟨[zu 4],[]⟩ (λ_=>())⟩
theorem K1 {v0:ac}{v1:List MacRow}{v2 v3:Int}(h0:0≤v3)(h1:v2≤4611686018427387904)(h2:v2≤(v1.length:Int)):(lF (v0,v1,v2,v3,())).U v2 (λ_ _=>True) (λ_=>True):=
 kN h0 h1 trivial
noncomputable def nK:FT (Mac×ac×Unit) (Int) (λx=>dF x.1∧sS x.2.1) (λ_ _=>True):= .mk (λ(x0,x1,_)=>
  .ite (!x0.use) (.cal mn.c (x0.k,x0.l,x1,()) λc1=>
   .ret (IntKind.wrap .i64 (c1.tmod 16777216)))<|
  .lp (lF (x1,x0.rows,(x0.rows.length:Int),0,())).lp λw3=> .sum w3 (λp3a0=>
  .ret p3a0)<|
  λ_=>
  .ret 0) (pQ @K1)
noncomputable def Tf:=fD st Tryz.func414 [(0,lb [1,19,20,21] [4])] [Nn] 0 lF (ks:=[.st .mac,.sc .str]) nK rI
noncomputable def az:FT (Curs×List Int×Unit) (Int×Curs) (λx=>ae x.1∧sS x.2.1∧0<x.2.1.length) (λx v=>ae v.2∧(cY (λn:Int=>0≤n∧n≤1048576) x.2.1→0≤v.1∧v.1≤1048576)∧(cY (λn:Int=>0≤n∧n≤19) x.2.1→0≤v.1∧v.1≤19)):=⟨λ(y0,x1,_)=>
  .cal ah.c (y0,(x1.length:Int),()) λc1=>
  .grd (dr x1 c1.1)<|
  .ret ((x1.getD c1.1.toNat 0),c1.2),
 λ(y0,x1,_) hp=>by
  refine Tr.C ?_ λc1 hc1 qc1=>Tr.G2 ?_ λg0=>Tr.R ?_
  all_goals ((first|grind|(refine⟨by grind,λhn=> ?_,λhn=> ?_⟩;exact cr (p:=λn:Int=>0≤n∧n≤1048576) hn (by omega) _;exact cr (p:=λn:Int=>0≤n∧n≤19) hn (by omega) _)))⟩
noncomputable def aE:=cy st ⟨133,Tryz.f133,[],1⟩ [aw] [] [.wr false [.ptr 0],.sc (.sl .i64)] [.box [.st .curs]] (λx y=>(y.1.1,x.2.1,())) az (λv=>[(false,[.c (.int .i64 v.1)])]) (λx y v=>((v.2,()),())) Tryz.func133 (by kernel_rfl) trivial
noncomputable def Ay:FT (MacRow×MacRow×Unit) (Bool) (λ_=>True) (λ_ _=>True):= .mk λ(x0,y1,_)=>
  .ret (x0.input==y1.input)
noncomputable def MM:=cy st ⟨178,Tryz.f178,[],1⟩ [] [] [.st .macRow,.wr false [.ptr 0]] [.box [.st .macRow]] (λx y=>(x.1,y.1.1,())) Ay rB (λx y v=>((y.1.1,()),())) Tryz.func178 (by kernel_rfl) trivial
noncomputable def gp:=[MM]
def ca:Sh:=⟨[zl 0 .macRow,(1,false,[.fn 178 [0]]),zi 7,zi 8],[zx .macRow]⟩
noncomputable def ge:Fx:=⟨310,Tryz.f310,[(0,la ⟨[0,1,7,8],[],false,1⟩ ⟨[4],[],false,1⟩)],1⟩
noncomputable def fu (v0:List MacRow)(v3:MacRow)(v2:Int)(a:Unit):Tr (Stp (Unit) ((Int))):=
 .grd (dr v0 v2)<|
 .cal Ay.c ((v0.getD v2.toNat (Ty.zero .macRow)),v3,()) λc1=>
 .ite c1 (.ret (.out v2))<|
 .ret (.next ())
noncomputable def bh:ca.V→tM ca Unit (Int):=λ(v0,v1,v2,v3,_)=>⟨v2,(),λv2 _=>(v0,v1,v2,v3,()),λv2 _=>(decide (v2<v1)),fu v0 v3,up,1,(Int.toNat (v1-v2)),.inl,eR,oB .ret ⟨[zi 4],[zx .macRow]⟩ (λp=>(p,v3,())) (.exit 0) ⟨[zu 4],[zx .macRow]⟩ (λ_=>(v3,()))⟩
theorem kK:LS Tryz.prog ge [0] (jz 0 ca bh):=eB st (aV gp) _ bh [] trivial
theorem kM {v0:List MacRow}{v1 v2:Int}{v3:MacRow}(h0:0≤v2)(h1:v1≤4611686018427387904)(h2:v1≤(v0.length:Int)):(bh (v0,v1,v2,v3,())).U v1 (λ_ _=>True) (λp=>v2≤p∧p<v1):=
 kN h0 h1 trivial
noncomputable def ez:FT (List MacRow×MacRow×Unit) (Int) (λx=>wS x.1) (λx v=> -1≤v∧v<x.1.length):= .mk (λ(x0,y1_0,_)=>
  .lp (bh (x0,(x0.length:Int),0,y1_0,())).lp λw2=> .sum w2 (λp2a0=>
  .ret p2a0)<|
  λ_=>
  .ret (-1)) (pQ @kM)
noncomputable def lX:=cy st ge gp [(jz 0 ca bh)] [.sc (.sl .macRow),.fn 178 [0]] [.box [.st .macRow]] (λx y=>(x.1,y.1.1,())) ez rI (λx y v=>((y.1.1,()),())) Tryz.func310 (by kernel_rfl) ⟨kK,trivial⟩
def tG:Sh:=⟨[zo 5 0,zl 13 .str,zi 14,zi 15],[za .issu]⟩
noncomputable def tt (v0:List ac)(v2:Int)(a:List Issu):Tr (Stp (List Issu) (Empty)):=
 .grd (dr v0 v2)<|
 .cal jH.c ((v0.getD v2.toNat []),()) λc1=>
 .bnd (β:=Bool×Unit) (.ite c1.2.2 (.val (br.f (c1.2.1,18,())) λc2=>
   .ret (c2,()))<|
  .ret (false,())) λ(u3a0,_)=>
 .ite u3a0 (.val (lD.f (c1.2.1.ack,(-1),())) λc4=>
  .grd (qi a 1 40)<|
  .ret (.next (a++[(⟨⟨c1.1.dst,c1.2.1.to,c1.2.1.from_⟩,c4,c1.2.1.seq⟩:Issu)])))<|
 .ret (.next a)
noncomputable def ib:tG.V→sD tG (List Issu):=λ(v0,v1,v2,v3,_)=>⟨v2,v3,λv2 a=>(v0,v1,v2,a,()),λv2 _=>(decide (v2<v1)),tt v0,up,1,(Int.toNat (v1-v2)),Empty.elim,Prod.mk,oN (.exit 0) ⟨[zu 4,zo 5 0],[za .issu]⟩ (λx=>(x.2,()))⟩
theorem CK {v0:List ac}{v1 v2:Int}{v3:List Issu}(h0:0≤v2)(h1:v1≤4611686018427387904)(h2:sL sS v0)(h3:v1≤4294967296)(h4:v1≤(v0.length:Int))(h5:(v3.length:Int)≤v2):(ib (v0,v1,v2,v3,())).U v1 (λv2 a=>(a.length:Int)≤v2) (λ_=>True):=
 kN (a:=v3) h0 h1 h5
noncomputable def si:FT (Stac×Resu×Unit) (List Issu) (λx=>bL x.1∧j7 x.2.1) (λx v=>sS v):=⟨λ(x0,x1,_)=>
  .lp (ib (x1.frames,(x1.frames.length:Int),0,[],())).lp λ(_,a5_0)=>
  .ret a5_0,
 λ(x0,x1,_) hp=>by
  refine Tr.L (CK ?_ ?_ ?_ ?_ ?_ ?_) (λa5_0 _=>Tr.R ?_) (λp=>Empty.elim p)
  all_goals ((try simp only[ib,LC.lp,LC.ct,Ct.lp]at*)<;>grind)⟩
noncomputable def La:=fD st Tryz.func34 [(0,lb [5,13,14,15] [4,5]),(3000006,rA 0 29)] [Pm,KQ,pa] 0 ib (ks:=[.st .stac,.st .resu]) si (λv=>[(false,[sc (.o true) .issu v])])
def tL:Sh:=⟨[zp 3 0,zo 5 1,zi 6],[zg .resu,za .issu]⟩
noncomputable def tn (v1:Resu)(v0:Int)(a:List Issu):Tr (Stp (List Issu) (Empty)):=
 .grd (dr v1.frames v0)<|
 .cal ic.c ((v1.frames.getD v0.toNat []),()) λc1=>
 .bnd (β:=Bool×Unit) (.ite c1.2.2 (.val (fV.f (c1.2.1,18,())) λc2=>
   .ret (c2,()))<|
  .ret (false,())) λ(u3a0,_)=>
 .ite u3a0 (.val (bH.f (c1.2.1.ack,(-1),())) λc4=>
  .grd (qi a 1 40)<|
  .ret (.next (a++[(⟨⟨c1.1.dst,c1.2.1.to,c1.2.1.from_⟩,c4,c1.2.1.seq⟩:Issu)])))<|
 .ret (.next a)
noncomputable def gZ:tL.V→sD tL (List Issu):=λ(v0,v1,v2,_)=>⟨v0,v2,λv0 a=>(v0,v1,a,()),λv0 _=>(decide (v0<(v1.frames.length:Int))),tn v1,up,1,(Int.toNat ((v1.frames.length:Int)-v0)),Empty.elim,Prod.mk,oN (.exit 0) ⟨[zu 4,zo 5 0],[za .issu]⟩ (λx=>(x.2,()))⟩
theorem Dc {v0:Int}{v1:Resu}{v2:List Issu}(h0:0≤v0)(h1:(v1.frames.length:Int)≤4611686018427387904)(h2:j7 v1)(h3:(v2.length:Int)≤v0):(gZ (v0,v1,v2,())).U (v1.frames.length:Int) (λv0 a=>(a.length:Int)≤v0) (λ_=>True):=
 kN (a:=v2) h0 h1 h3
noncomputable def rY:FT (Stac×Resu×Unit) (List Issu) (λx=>bL x.1∧j7 x.2.1) (λx v=>sS v):=⟨λ(x0,x1,_)=>
  .lp (gZ (0,x1,[],())).lp λ(_,a5_0)=>
  .ret a5_0,
 λ(x0,x1,_) hp=>by
  refine Tr.L (Dc ?_ ?_ ?_ ?_) (λa5_0 _=>Tr.R ?_) (λp=>Empty.elim p)
  all_goals ((try simp only[gZ,LC.lp,LC.ct,Ct.lp]at*)<;>grind)⟩
noncomputable def Kw:=fD st Tryz.func48 [(0,lb [3,5,6] [4,5]),(3000006,rA 0 32)] [LB,rN,cP] 0 gZ (ks:=[.st .stac,.st .resu]) rY (λv=>[(false,[sc (.o true) .issu v])])
def qY:Sh:=⟨[zp 1 0,zp 2 1,zp 4 2,zo 5 3,zi 6],[.box [.st .stac [.sl .arg,.sl .arg,.sl .arg,.sl .arg,.sl .arg,.sl .arg]],.box [.st .stac [.nil .entr,.nil .macRow,.nil .macRow,.nil .half,.nil .conn,.nil .tupl]],.box [.st .stac [.own 4,.own 5,.own 6,.own 7,.own 8,.own 9]],za .str,zf,zf,zf,zf,zf,zf]⟩
noncomputable def lP (v1:Stac)(v0:Int)(a:Stac×List ac):Tr (Stp (Stac×List ac) (Empty)):=
 .grd (dr v1.door.table.conns v0)<|
 .cal kx.c ((v1.door.table.conns.getD v0.toNat (Ty.zero .conn)),()) λc3=>
 .cal gc.c (v1,(v1.door.table.conns.getD v0.toNat (Ty.zero .conn)).tuple.ip,c3.2,()) λc4=>
 .grd (Nat.ble ((2*(a.2.length+c4.length)+1024)*16) bj)<|
 .ret (.next (({a.1 with link.cache:=[],door.keys.now.rows:=[],door.keys.before.rows:=[],door.halves:=[],door.table.conns:=[],door.table.waiting:=[]}:Stac),(a.2++c4)))
noncomputable def gg:qY.V→sD qY (Stac×List ac):=λ(v0,v1,v2,v3,v4,_)=>⟨v0,(v2,v4),λv0 a=>(v0,v1,a.1,v3,a.2,()),λv0 _=>(decide (v0<(v1.door.table.conns.length:Int))),lP v1,up,1,(Int.toNat ((v1.door.table.conns.length:Int)-v0)),Empty.elim,Prod.mk,oN (.exit 0) ⟨[zp 1 0,zp 2 1,zu 3,zp 4 2,zo 5 3],[.box [.st .stac [.sl .arg,.sl .arg,.sl .arg,.sl .arg,.sl .arg,.sl .arg]],.box [.st .stac [.nil .entr,.nil .macRow,.nil .macRow,.nil .half,.nil .conn,.nil .tupl]],.box [.st .stac [.own 4,.own 5,.own 6,.own 7,.own 8,.own 9]],za .str,zf,zf,zf,zf,zf,zf]⟩ (λx=>(v1,({x.2.1 with link.cache:=[],door.keys.now.rows:=[],door.keys.before.rows:=[],door.halves:=[],door.table.conns:=[],door.table.waiting:=[]}:Stac),v3,x.2.2,()))⟩
theorem AW {v0:Int}{v1 v2 v3:Stac}{v4:List ac}(h0:0≤v0)(h1:(v1.door.table.conns.length:Int)≤4611686018427387904)(h2:v1.door.table.conns.length≤16)(h3:bL v1)(h4:bL v2∧sL sS v4∧(v4.length:Int)≤49*v0):(gg (v0,v1,v2,v3,v4,())).U (v1.door.table.conns.length:Int) (λv0 a=>bL a.1∧sL sS a.2∧(a.2.length:Int)≤49*v0) (λ_=>True):=
 kN (a:=(v2,v4)) h0 h1 h4
noncomputable def pT:FT (Stac×Unit) (Stac×List ac) (λx=>bL x.1) (λx v=>bL v.1∧sL sS v.2):=⟨λ(x0,_)=>
  .cal n5.c (x0,()) λc1=>
  .cal jq.c (x0,()) λc2=>
  .ite (!c2) (.ret (c1,[]))<|
  .lp (gg (0,x0,(⟨⟨0,0,[]⟩,⟨0,0,⟨0,⟨false,0,0,[]⟩,⟨false,0,0,[]⟩,false⟩,⟨0,0,0,0⟩,[],⟨[],[]⟩,0⟩⟩:Stac),c1,[],())).lp λ(_,_,a5_1)=>
  .cal DL.c (x0.door,()) λc6=>
  .cal Qb.c (x0.link.cache,()) λc7=>
  .ret ((⟨⟨c1.link.mac,c1.link.ip,c7⟩,c6.1⟩:Stac),a5_1),
 λ(x0,_) hp=>by
  refine Tr.C ?_ λ_ _ _=>Tr.C ?_ λ_ _ _=>Tr.I (λ_=>Tr.R ?_) λ_=>Tr.L (AW ?_ ?_ ?_ ?_ ?_) (λ(a5_0,a5_1) _=>Tr.C ?_ λ_ _ _=>Tr.C ?_ λ_ _ _=>Tr.R ?_) (λp=>Empty.elim p)
  all_goals ((try simp only[gg,LC.lp,LC.ct,Ct.lp]at*)<;>grind)⟩
noncomputable def GS:=fD st Tryz.func66 [(0,lb [1,2,4,5,6] [1,2,3,4,5])] [u9,p8,rz,vq,Jx,NP] 0 gg (ks:=[.st .stac]) pT (λv=>[(true,sI (.o true) (.o true) (.o true) (.o true) (.o true) (.o true) v.1),(false,[sc (.o true) .str v.2])])
noncomputable def OH:=[eG,rq,Iu,L3,zO,OB,Sn]
noncomputable def Mb:Fx:=⟨70,Tryz.f70,[(3000002,rA 0 34),(4000000,la ⟨[],[],false,0⟩ ⟨[],[.softb 4 20,.softb 4 21],false,0⟩)],0⟩
noncomputable def vu:FT (Stac×Acti×Unit) (Stac×Resu) (λx=>bL x.1∧f7 x.2.1) (λx v=>bL v.1∧j7 v.2):= .mk λ(x0,x1,_)=>
  .cal cO.c (x0.door.table,x1.tuple,()) λc1=>
  .bnd (β:=Bool×Unit) (.ite (decide (c1<0)) (.ret (true,()))<|
   .cal kw.c (x0.door.table.waiting,x1.tuple,()) λc2=>
   .ret (c2,())) λ(u3a0,_)=>
  .ite u3a0 (.ret (x0,(⟨[],0,⟨0,0,0⟩,0,[],false⟩:Resu)))<|
  .grd (dr x0.door.table.conns c1)<|
  .ite (x1.kind==5) (.cal zt.c ((x0.door.table.conns.getD c1.toNat (Ty.zero .conn)),x1.text,()) λc4=>
   .cal lU.c (x0,c4.1,c4.2.2,(⟨[],0,⟨0,0,0⟩,c4.2.1,[],false⟩:Resu),()) λc5=>
   .ret (c5.1,c5.2))<|
  .ite (x1.kind==6) (.cal oo.c ((x0.door.table.conns.getD c1.toNat (Ty.zero .conn)),x1.n,()) λc6=>
   .cal lU.c (x0,c6.1,c6.2.2,(⟨[],0,⟨0,0,0⟩,0,c6.2.1,false⟩:Resu),()) λc7=>
   .ret (c7.1,c7.2))<|
  .ite (x1.kind==7) (.cal ET.c ((x0.door.table.conns.getD c1.toNat (Ty.zero .conn)),()) λc8=>
   .cal lU.c (x0,c8.1,c8.2,(⟨[],0,⟨0,0,0⟩,0,[],false⟩:Resu),()) λc9=>
   .ret (c9.1,c9.2))<|
  .cal Dx.c ((x0.door.table.conns.getD c1.toNat (Ty.zero .conn)),()) λc10=>
  .cal lU.c (x0,c10.1,c10.2,(⟨[],0,⟨0,0,0⟩,0,[],false⟩:Resu),()) λc11=>
  .ret (c11.1,c11.2)
noncomputable def L2:=ck st Mb OH [] (ks:=[.st .stac,.st .acti]) vu (λv=>[(true,sI .c .c .c .c .c .c v.1),(true,PT (.o true) v.2)]) Tryz.func70 trivial
noncomputable def oJ:FT (Mac×Tupl×Int×Int×Int×Unit) (Int) (λx=>dF x.1) (λ_ _=>True):= .mk λ(x0,x1,x2,x3,x4,_)=>
  .cal sF.c (x1,x2,x3,x4,()) λc1=>
  .ite (c1==[]) (.ret (-1))<|
  .val (IntKind.wrap .i64 ((IntKind.wrap .i64 ((x3.tmod 32)*134217728))+(IntKind.wrap .i64 (x4*16777216)))) λe2=>
  .cal Dn.c (x0,c1,()) λc3=>
  .ret (IntKind.wrap .i64 (e2+c3))
noncomputable def yh:=bm st Tryz.func93 [Kq,Tl] (ks:=[.st .mac,.st .tupl,.sc (.int .i64),.sc (.int .i64),.sc (.int .i64)]) oJ rI
def tq:Sh:=⟨[zl 0 .half,zl 8 .half,zi 9,zi 10],[]⟩
noncomputable def nk (v0 v1:List Half)(v3:Int)(a:Unit):Tr (Stp (Unit) ((Unit))):=
 .grd (dr v1 v3)<|
 .cal aL.c ((v1.getD v3.toNat (Ty.zero .half)).tuple,()) λc1=>
 .ite (!c1) (.ret (.out ()))<|
 .cal aa.c ((v1.getD v3.toNat (Ty.zero .half)).iss,32,()) λc2=>
 .ite (!c2) (.ret (.out ()))<|
 .cal aa.c ((v1.getD v3.toNat (Ty.zero .half)).irs,32,()) λc3=>
 .ite (!c3) (.ret (.out ()))<|
 .cal aa.c ((v1.getD v3.toNat (Ty.zero .half)).window,16,()) λc4=>
 .ite (!c4) (.ret (.out ()))<|
 .cal ay.c ((v1.getD v3.toNat (Ty.zero .half)).opts,()) λc5=>
 .ite (!c5) (.ret (.out ()))<|
 .val (bt.f ((v1.getD v3.toNat (Ty.zero .half)).age,0,6,())) λc6=>
 .ite (!c6) (.ret (.out ()))<|
 .cal aP.c (v0,(v1.getD v3.toNat (Ty.zero .half)).tuple,()) λc7=>
 .ite (c7 != v3) (.ret (.out ()))<|
 .ret (.next ())
noncomputable def jQ:tq.V→tM tq Unit (Unit):=λ(v0,v1,v2,v3,_)=>⟨v3,(),λv3 _=>(v0,v1,v2,v3,()),λv3 _=>(decide (v3<v2)),nk v0 v1,up,1,(Int.toNat (v2-v3)),.inl,eR,oB .ret ⟨[zb 2],[]⟩ (λ_=>(false,())) (.exit 0) ⟨[zu 2],[]⟩ (λ_=>())⟩
theorem Dg {v0 v1:List Half}{v2 v3:Int}(h0:0≤v3)(h1:v2≤4611686018427387904)(h2:wS v0)(h3:v2≤(v1.length:Int)):(jQ (v0,v1,v2,v3,())).U v2 (λ_ _=>True) (λ_=>True):=
 kN h0 h1 trivial
noncomputable def ev:FT (List Half×Unit) (Bool) (λx=>wS x.1) (λx v=>(v=true→x.1.length≤64)):= .mk (λ(x0,_)=>
  .ite (decide (64<(x0.length:Int))) (.ret false)<|
  .lp (jQ (x0,x0,(x0.length:Int),0,())).lp λw8=> .sum w8 (λ_=>
  .ret false)<|
  λ_=>
  .ret true) (pQ @Dg)
noncomputable def yU:=fD st Tryz.func187 [(0,lb [0,8,9,10] [2])] [pR,bZ,mP,bO,zN] 0 jQ (ks:=[.sc (.sl .half)]) ev rB
noncomputable def vQ:FT (Door×Int×Segm×Unit) (Door×List Segm×Int) (λx=>aU x.1∧ar x.2.2.1∧0≤x.2.1∧x.2.1<x.1.table.conns.length) (λx v=>aU v.1∧sL ar v.2.1):= .mk λ(x0,x1,x2,_)=>
  .cal dq.c (x0,()) λc1=>
  .grd (dr x0.table.conns x1)<|
  .cal nX.c ((x0.table.conns.getD x1.toNat (Ty.zero .conn)),x2,()) λc2=>
  .grd (dr c1.table.conns x1)<|
  .ite (c2.2.2==3) (.ite (x0.chal==x0.limits.chal) (.ret (({c1 with table.conns:=(c1.table.conns.set x1.toNat c2.1)}:Door),[],0))<|
   .ret (({c1 with table.conns:=(c1.table.conns.set x1.toNat c2.1),chal:=(IntKind.wrap .i64 (x0.chal+1))}:Door),c2.2.1,0))<|
  .ret (({c1 with table.conns:=(c1.table.conns.set x1.toNat c2.1)}:Door),c2.2.1,0)
noncomputable def L5:=bm st Tryz.func291 [fE,uj] (ks:=[.st .door,.sc (.int .i64),.st .segm]) vQ (λv=>[(true,lZ (.o true) (.o true) (.o true) (.o true) (.o true) v.1),(false,[sc (.o true) .segm v.2.1]),(false,[.c (.int .i64 v.2.2)])])
noncomputable def cZ:FT (Mac×Tupl×Int×Int×Int×Unit) (Int) (λx=>dF x.1) (λ_ _=>True):= .mk λ(x0,x1,x2,x3,x4,_)=>
  .cal er.c (x1,x2,x3,x4,()) λc1=>
  .ite (c1==[]) (.ret (-1))<|
  .val (IntKind.wrap .i64 ((IntKind.wrap .i64 ((x3.tmod 32)*134217728))+(IntKind.wrap .i64 (x4*16777216)))) λe2=>
  .cal nK.c (x0,c1,()) λc3=>
  .ret (IntKind.wrap .i64 (e2+c3))
noncomputable def z3:=bm st Tryz.func323 [Kz,Tf] (ks:=[.st .mac,.st .tupl,.sc (.int .i64),.sc (.int .i64),.sc (.int .i64)]) cZ rI
noncomputable def Og:=[t7,yU]
noncomputable def Mc:Fx:=⟨331,Tryz.f331,[(3000002,rA 0 22)],0⟩
noncomputable def l0:FT (List Half×Half×Int×Unit) (List Half×Bool) (λx=>sS x.1) (λx v=>sS v.1):= .mk λ(x0,x1,x2,_)=>
  .cal fA.c (x0,()) λc1=>
  .grd (qi c1 1 96)<|
  .bnd (β:=Bool×Unit) (.as (λw=>(w.1=false→(c1++[x1]).length≤64)) (.ite (decide (x2≤(x0.length:Int))) (.ret (true,()))<|
   .cal ev.c ((c1++[x1]),()) λc2=>
   .ret ((!c2),()))) λ(u3a0,_)=>
  .ite u3a0 (.cal fA.c (x0,()) λc4=>
   .ret (c4,false))<|
  .ret ((c1++[x1]),true)
noncomputable def NE:=ck st Mc Og [] (ks:=[.sc (.sl .half),.st .half,.sc (.int .i64)]) l0 (λv=>[(false,[sc (.o true) .half v.1]),(false,[.c (.bool v.2)])]) Tryz.func331 trivial
noncomputable def fL:FT (Door×Tupl×Segm×Unit) (Int) (λx=>aU x.1∧ar x.2.2.1) (λ_ _=>True):= .mk λ(x0,x1,x2,_)=>
  .val (nY.f (x2.opts,())) λc1=>
  .cal fM.c (c1,()) λc2=>
  .cal cZ.c (x0.keys.now,x1,x2.seq,x0.keys.epoch,c2,()) λc3=>
  .ret (if 0<c3 then c3 else 0)
noncomputable def JE:=bm st Tryz.func423 [OI,Kl,z3] (ks:=[.st .door,.st .tupl,.st .segm]) fL rI
noncomputable def Kf:=[JV,yh,kD]
def AL:An:=⟨⟨[],[],false,0⟩,⟨[3,4,5,6,7],[],false,0⟩,⟨[],[]⟩,[(.normal,⟨[zp 3 0,zp 4 1,zp 5 2,zi 6,zi 7],[.box [.st .door [.sl .arg,.sl .arg,.sl .arg,.sl .arg,.sl .arg]],zx .tupl,zx .segm]⟩)]⟩
noncomputable def K9:Fx:=⟨442,Tryz.f442,[(1000012,AL)],0⟩
noncomputable def sK:FT (Door×Tupl×Segm×Unit) (Int) (λx=>aU x.1∧ar x.2.2.1) (λ_ _=>True):= .mk λ(x0,x1,x2,_)=>
  .bnd (β:=Int×Int×Door×Tupl×Segm×Unit) (.as (λw=>aU w.2.2.1∧ar w.2.2.2.2.1) (.ite (x2.opts.mss==0) (.ret (0,536,x0,x1,x2,()))<|
   .ret (0,x2.opts.mss,x0,x1,x2,()))) λ(_,u1a1,u1a2,u1a3,u1a4,_)=>
  .cal sm.c (u1a1,()) λc2=>
  .cal oJ.c (u1a2.keys.now,u1a3,u1a4.seq,u1a2.keys.epoch,c2,()) λc3=>
  .val (eE.f (0,c3,())) λc4=>
  .ret c4
noncomputable def Kh:=ck st K9 Kf [] (ks:=[.st .door,.st .tupl,.st .segm]) sK rI Tryz.func442 trivial
noncomputable def cl:FT (List MacRow×MacRow×Unit) (Bool) (λx=>sL bA x.1∧bA x.2.1) (λ_ _=>True):= .mk λ(x0,y1_0,_)=>
  .cal ez.c (x0,y1_0,()) λc1=>
  .ret (decide (0≤c1))
noncomputable def kL:=cy st ⟨177,Tryz.f177,[],1⟩ [lX] [] [.sc (.sl .macRow),.fn 178 [0]] [.box [.st .macRow]] (λx y=>(x.1,y.1.1,())) cl rB (λx y v=>((y.1.1,()),())) Tryz.func177 (by kernel_rfl) trivial
noncomputable def bf:FT (Curs×Int×Unit) (Bool×Curs) (λx=>ae x.1) (λx v=>ae v.2):= .mk λ(y0,x1,_)=>
  .cal ah.c (y0,x1,()) λc1=>
  .ret ((c1.1==0),c1.2)
noncomputable def bK:=cy st ⟨191,Tryz.f191,[],1⟩ [aw] [] [.wr false [.ptr 0],.sc (.int .i64)] [.box [.st .curs]] (λx y=>(y.1.1,x.2.1,())) bf (λv=>[(false,[.c (.bool v.1)])]) (λx y v=>((v.2,()),())) Tryz.func191 (by kernel_rfl) trivial
noncomputable def yG:=[aw,pW,bK,NP]
def jT:Sh:=⟨[zp 0 0,zo 3 1,zi 4,zi 5],[.box [.st .curs [.sl .any]],za .entr]⟩
noncomputable def yy:Fx:=⟨239,Tryz.f239,[(0,la ⟨[0,3,4,5],[],false,1⟩ ⟨[2,3],[],false,1⟩)],1⟩
noncomputable def CJ (v1:Int)(a:Curs×List Entr):Tr (Stp (Curs×List Entr) (Empty)):=
 .cal ah.c (a.1,7,()) λc2=>
 .cal ah.c (c2.2,3,()) λc3=>
 .cal lV.c (a.2,(IntKind.wrap .i64 (167772160+c2.1)),(IntKind.wrap .i64 (11+c3.1)),()) λc4=>
 .cal bf.c (c3.2,2,()) λc5=>
 .ite c5.1 (.cal Qb.c (c4,()) λc6=>
  .ret (.next (c5.2,c6)))<|
 .ret (.next (c5.2,c4))
noncomputable def fx:jT.V→sD jT (Curs×List Entr):=λ(v0,v1,v2,v3,_)=>⟨v1,(v2,v3),λv1 a=>(v0,v1,a.1,a.2,()),λv1 _=>(decide (v1<v0)),CJ,up,1,(Int.toNat (v0-v1)),Empty.elim,Prod.mk,oN (.exit 0) ⟨[zu 2,zo 3 1],[.box [.st .curs [.sl .any]],za .entr]⟩ (λx=>(x.2.1,x.2.2,()))⟩
theorem Dh:LS Tryz.prog yy [0] (jz 0 jT fx):=eB st (aV yG) _ fx [] trivial
theorem CR {v0 v1:Int}{v2:Curs}{v3:List Entr}(h0:0≤v1)(h1:v0≤4611686018427387904)(h2:v0≤6)(h3:ae v2∧sS v3∧(v3.length:Int)≤v1):(fx (v0,v1,v2,v3,())).U v0 (λv1 a=>ae a.1∧sS a.2∧(a.2.length:Int)≤v1) (λ_=>True):=
 kN (a:=(v2,v3)) h0 h1 h3
noncomputable def sj:FT (Curs×Unit) (List Entr×Curs) (λx=>ae x.1) (λx v=>sS v.1∧ae v.2∧v.1.length≤6):=⟨λ(y0,_)=>
  .cal ah.c (y0,6,()) λc1=>
  .lp (fx (c1.1,0,c1.2,[],())).lp λ(_,a7_0,a7_1)=>
  .ret (a7_1,a7_0),
 λ(y0,_) hp=>by
  refine Tr.C ?_ λ_ _ _=>Tr.L (CR ?_ ?_ ?_ ?_) (λ(a7_0,a7_1) _=>Tr.R ?_) (λp=>Empty.elim p)
  all_goals ((try simp only[fx,LC.lp,LC.ct,Ct.lp]at*)<;>grind)⟩
noncomputable def sk:=cy st yy yG [(jz 0 jT fx)] [.wr false [.ptr 0]] [.box [.st .curs]] (λx y=>(y.1.1,())) sj (λv=>[(false,[sc (.o true) .entr v.1])]) (λx y v=>((v.2,()),())) Tryz.func239 (by kernel_rfl) ⟨Dh,trivial⟩
def oV:Sh:=⟨[zi 2,zi 3,zp 4 0,zp 5 1,zi 12,zi 14],[.box [.st .keys [.sl .arg,.sl .arg]],zx .tupl]⟩
noncomputable def kp (v0 v1 v2:Int)(v4:Keys)(v5:Tupl)(v3:Int)(a:Unit):Tr (Stp (Unit) ((Int)⊕(Unit))):=
 .ite (decide ((IntKind.wrap .i64 (v4.epoch-1))≤v3)) (.cal sA.c (v4,v3,()) λc4=>
  .bnd (β:=Bool×Unit) (.ite c4.2 (.cal oJ.c (c4.1,v5,v0,v3,v2,()) λc5=>
    .ret ((c5==v1),()))<|
   .ret (false,())) λ(u6a0,_)=>
  .ite u6a0 (.ret (.out (.inl v3)))<|
  .ret (.next ()))<|
 .ret (.out (.inr (())))
noncomputable def gX:oV.V→tM oV Unit ((Int)⊕(Unit)):=λ(v0,v1,v2,v3,v4,v5,_)=>⟨v3,(),λv3 _=>(v0,v1,v2,v3,v4,v5,()),λv3 _=>(decide (0≤v3)),kp v0 v1 v2 v4 v5,dn,(-1),(Int.toNat (v3-0+1)),.inl,eR,λ_ k w=>Sum.elim (oB .ret ⟨[zi 8,zi 9,zb 10],[]⟩ (λp=>(p,v2,true,())) (.exit 0) ⟨[zu 8,zu 9,zu 10],[]⟩ (λ_=>()) _ k) (λ_=>k (.exit 0) (Sh.enc ⟨[zu 8,zu 9,zu 10],[]⟩ ())) w⟩
theorem xu {v0 v1 v2 v3:Int}{v4:Keys}{v5:Tupl}(h0:v3≤9223372036854775807)(h1:cE v4):(gX (v0,v1,v2,v3,v4,v5,())).D 0 (λ_ _=>True) (λ_=>True):=
 XS h0 (by decide) trivial
noncomputable def jK:FT (Keys×Tupl×Int×Int×Unit) (Int×Int×Bool) (λx=>cE x.1) (λ_ _=>True):= .mk (λ(x0,x1,x2,x3,_)=>
  .cal mJ.c (x3,()) λc1=>
  .bnd (β:=Bool×Unit) (.as (λw=>(w.1=false→0≤x0.epoch∧x0.epoch≤4294967295)) (.cal rf.c (x0,()) λc2=>
   .ite (!c2) (.ret (true,()))<|
   .ret ((decide (c1.2.1<0)),()))) λ(u3a0,_)=>
  .ite u3a0 (.ret (0,0,false))<|
  .lp (gX (x2,x3,c1.2.1,x0.epoch,x0,x1,())).lp λw7=> .sum w7 (λq7=> .sum q7 (λp7a0=>
  .ret (p7a0,c1.2.1,true))<|
  λ_=>
  .ret (0,0,false))<|
  λ_=>
  .ret (0,0,false)) (pQ @xu)
noncomputable def s9:=fD st Tryz.func31 [(0,lb [2,3,4,5,12,14] [8,9,10]),(3000002,rA 0 29),(3000008,rA 0 59)] [Dj,xz,JU,yh] 0 gX (ks:=[.st .keys,.st .tupl,.sc (.int .i64),.sc (.int .i64)]) jK (λv=>[(false,[.c (.int .i64 v.1)]),(false,[.c (.int .i64 v.2.1)]),(false,[.c (.bool v.2.2)])])
def ye:Sh:=⟨[zp 1 0,zl 27 .macRow,zi 28,zi 29],[zg .mac]⟩
noncomputable def nM (v0:List MacRow)(v3:Mac)(v2:Int)(a:Unit):Tr (Stp (Unit) ((Unit))):=
 .grd (dr v0 v2)<|
 .val (bt.f ((v0.getD v2.toNat (Ty.zero .macRow)).value,0,16777215,())) λc2=>
 .ite (!c2) (.ret (.out ()))<|
 .grd ((decide (0≤v2))&&(decide (v2≤(v3.rows.length:Int))))<|
 .cal cl.c (((v3.rows.take v2.toNat).drop 0),(v0.getD v2.toNat (Ty.zero .macRow)),()) λc3=>
 .ite c3 (.ret (.out ()))<|
 .ret (.next ())
noncomputable def nR:ye.V→tM ye Unit (Unit):=λ(v0,v1,v2,v3,_)=>⟨v2,(),λv2 _=>(v0,v1,v2,v3,()),λv2 _=>(decide (v2<v1)),nM v0 v3,up,1,(Int.toNat (v1-v2)),.inl,eR,oB .ret ⟨[zb 2],[]⟩ (λ_=>(false,())) (.exit 0) ⟨[zu 2],[]⟩ (λ_=>())⟩
theorem Kc {v0:List MacRow}{v1 v2:Int}{v3:Mac}(h0:0≤v2)(h1:v1≤4611686018427387904)(h2:sL bA v0)(h3:dF v3)(h4:v1≤(v0.length:Int))(h5:v1≤(v3.rows.length:Int)):(nR (v0,v1,v2,v3,())).U v1 (λ_ _=>True) (λ_=>True):=
 kN h0 h1 trivial
noncomputable def sy:FT (Mac×Unit) (Bool) (λx=>dF x.1) (λx v=>(v=true→x.1.rows.length≤64)):= .mk (λ(x0,_)=>
  .ite (!x0.use) (.ret ((x0.rows.length:Int)==0))<|
  .bnd (β:=Bool×Unit) (.ite (x0.k != 0) (.ret (true,()))<|
   .ite (x0.l != 0) (.ret (true,()))<|
   .ret ((decide (64<(x0.rows.length:Int))),())) λ(u1a0,_)=>
  .ite u1a0 (.ret false)<|
  .lp (nR (x0.rows,(x0.rows.length:Int),0,x0,())).lp λw4=> .sum w4 (λ_=>
  .ret false)<|
  λ_=>
  .ret true) (pQ @Kc)
noncomputable def R4:=fD st Tryz.func75 [(0,lb [1,27,28,29] [2]),(3000003,rA 0 25)] [bO,kL] 0 nR (ks:=[.st .mac]) sy rB
noncomputable def Pb:=[bO,R4,OJ]
def GQ:An:=⟨⟨[],[],false,0⟩,⟨[1,2,3],[],false,0⟩,⟨[],[]⟩,[(.normal,⟨[zp 1 0,zb 2,zi 3],[.box [.st .keys [.sl .arg,.sl .arg]]]⟩)]⟩
noncomputable def Qk:Fx:=⟨185,Tryz.f185,[(1000005,GQ)],0⟩
noncomputable def eS:FT (Keys×Unit) (Bool) (λx=>cE x.1) (λx v=>(v=true→0≤x.1.epoch∧x.1.epoch≤4294967295)):= .mk λ(x0,_)=>
  .bnd (β:=Bool×Int×Keys×Unit) (.as (λw=>cE w.2.2.1∧0≤w.2.1∧w.2.2.1=x0) (.ite x0.two (.ret (false,1,x0,()))<|
   .ret (false,0,x0,()))) λ(_,u1a1,u1a2,_)=>
  .val (bt.f (u1a2.epoch,u1a1,4294967295,())) λc2=>
  .ite c2 (.cal sy.c (u1a2.now,()) λc3=>
   .ite c3 (.cal sy.c (u1a2.before,()) λc4=>
    .ite c4 (.ite u1a2.two (.ret true)<|
     .cal vO.c (u1a2.before,(⟨false,0,0,[]⟩:Mac),()) λc5=>
     .ret c5)<|
    .ret false)<|
   .ret false)<|
  .ret false
noncomputable def DW:=ck st Qk Pb [] (ks:=[.st .keys]) eS rB Tryz.func185 trivial
def oK:Sh:=⟨[zi 2,zi 3,zp 4 0,zp 5 1,zi 12,zi 14],[.box [.st .keys [.sl .arg,.sl .arg]],zx .tupl]⟩
noncomputable def gN (v0 v1 v2:Int)(v4:Keys)(v5:Tupl)(v3:Int)(a:Unit):Tr (Stp (Unit) ((Int))):=
 .cal kh.c (v4,v3,()) λc5=>
 .bnd (β:=Bool×Unit) (.ite c5.2 (.cal cZ.c (c5.1,v5,v0,v3,v2,()) λc6=>
   .ret ((c6==v1),()))<|
  .ret (false,())) λ(u7a0,_)=>
 .ite u7a0 (.ret (.out v3))<|
 .ret (.next ())
noncomputable def fb:oK.V→tM oK Unit (Int):=λ(v0,v1,v2,v3,v4,v5,_)=>⟨v3,(),λv3 _=>(v0,v1,v2,v3,v4,v5,()),λv3 _=>(decide ((if 0<(IntKind.wrap .i64 (v4.epoch-1))then(IntKind.wrap .i64 (v4.epoch-1))else 0)≤v3)),gN v0 v1 v2 v4 v5,dn,(-1),(Int.toNat (v3-(if 0<(IntKind.wrap .i64 (v4.epoch-1))then(IntKind.wrap .i64 (v4.epoch-1))else 0)+1)),.inl,eR,oB .ret ⟨[zi 8,zi 9,zb 10],[]⟩ (λp=>(p,v2,true,())) (.exit 0) ⟨[zu 8,zu 9,zu 10],[]⟩ (λ_=>())⟩
theorem xm {v0 v1 v2 v3:Int}{v4:Keys}{v5:Tupl}(h0:v3≤9223372036854775807)(h1:0≤(if 0<(IntKind.wrap .i64 (v4.epoch-1))then(IntKind.wrap .i64 (v4.epoch-1))else 0))(h2:cE v4):(fb (v0,v1,v2,v3,v4,v5,())).D (if 0<(IntKind.wrap .i64 (v4.epoch-1))then(IntKind.wrap .i64 (v4.epoch-1))else 0) (λ_ _=>True) (λ_=>True):=
 XS h0 h1 trivial
noncomputable def cb:FT (Keys×Tupl×Int×Int×Unit) (Int×Int×Bool) (λx=>cE x.1) (λ_ _=>True):= .mk (λ(x0,x1,x2,x3,_)=>
  .bnd (β:=Bool×Unit) (.as (λw=>(w.1=false→0≤x0.epoch∧x0.epoch≤4294967295)) (.cal eS.c (x0,()) λc1=>
   .ite (!c1) (.ret (true,()))<|
   .cal aa.c (x3,32,()) λc2=>
   .ret ((!c2),()))) λ(u3a0,_)=>
  .ite u3a0 (.ret (0,0,false))<|
  .cal dL.c (x3,()) λc4=>
  .lp (fb (x2,x3,c4.2.1,x0.epoch,x0,x1,())).lp λw8=> .sum w8 (λp8a0=>
  .ret (p8a0,c4.2.1,true))<|
  λ_=>
  .ret (0,0,false)) (pQ @xm)
noncomputable def Tm:=fD st Tryz.func207 [(0,lb [2,3,4,5,12,14] [8,9,10]),(3000001,rA 0 24),(3000008,rA 0 57)] [DW,bZ,C1,KY,z3] 0 fb (ks:=[.st .keys,.st .tupl,.sc (.int .i64),.sc (.int .i64)]) cb (λv=>[(false,[.c (.int .i64 v.1)]),(false,[.c (.int .i64 v.2.1)]),(false,[.c (.bool v.2.2)])])
noncomputable def R1:=[zR,eG,fE,ji,cP,yF,Bm,Px,s9,xx]
noncomputable def SY:Fx:=⟨294,Tryz.f294,[(3000001,rA 0 27)],0⟩
noncomputable def yD:FT (Door×Tupl×Segm×Unit) (Door×List Segm×Int) (λx=>aU x.1∧ar x.2.2.1) (λx v=>aU v.1∧sL ar v.2.1):= .mk λ(x0,x1,x2,_)=>
  .bnd (β:=Bool×Unit) (.cal oE.c (x0,x1,x2,()) λc1=>
   .ite (!c1) (.ret (true,()))<|
   .cal cO.c (x0.table,x1,()) λc2=>
   .ret ((decide (0≤c2)),())) λ(u3a0,_)=>
  .ite u3a0 (.cal dq.c (x0,()) λc4=>
   .ret (c4,[],0))<|
  .cal fN.c (x0.halves,x1,()) λc5=>
  .ite (decide (0≤c5)) (.grd (dr x0.halves c5)<|
   .val (bH.f ((x0.halves.getD c5.toNat (Ty.zero .half)).iss,1,())) λc6=>
   .ite (x2.ack != c6) (.cal kv.c (x0,x2,()) λc7=>
    .ret (c7.1,c7.2.1,c7.2.2))<|
   .val (bH.f ((x0.halves.getD c5.toNat (Ty.zero .half)).irs,1,())) λc8=>
   .ite (x2.seq != c8) (.cal dq.c (x0,()) λc9=>
    .ret (c9,[],0))<|
   .cal oe.c (x1,(x0.halves.getD c5.toNat (Ty.zero .half)).iss,(x0.halves.getD c5.toNat (Ty.zero .half)).irs,(x0.halves.getD c5.toNat (Ty.zero .half)).opts,x2.window,()) λc10=>
   .cal ve.c (x0,c10,x2,1,()) λc11=>
   .ret (c11.1,c11.2.1,c11.2.2))<|
  .val (bH.f (x2.seq,(-1),())) λc12=>
  .val (bH.f (x2.ack,(-1),())) λc13=>
  .cal jK.c (x0.keys,x1,c12,c13,()) λc14=>
  .ite (!c14.2.2) (.cal kv.c (x0,x2,()) λc15=>
   .ret (c15.1,c15.2.1,c15.2.2))<|
  .cal jt.c (c14.2.1,x2.opts,()) λc16=>
  .cal oe.c (x1,c13,c12,c16,x2.window,()) λc17=>
  .cal ve.c (x0,c17,x2,2,()) λc18=>
  .ret (c18.1,c18.2.1,c18.2.2)
noncomputable def HU:=ck st SY R1 [] (ks:=[.st .door,.st .tupl,.st .segm]) yD (λv=>[(true,lZ (.o true) (.o true) (.o true) (.o true) (.o true) v.1),(false,[sc (.o true) .segm v.2.1]),(false,[.c (.int .i64 v.2.2)])]) Tryz.func294 trivial
noncomputable def cA:FT (Door×Tupl×Segm×Unit) (Segm) (λx=>aU x.1∧ar x.2.2.1) (λx v=>ar v):= .mk λ(x0,x1,x2,_)=>
  .cal fL.c (x0,x1,x2,()) λc1=>
  .val (lD.f (x2.seq,1,())) λc2=>
  .val (fv.f (x2.opts,x0.clock,())) λc3=>
  .ret (⟨x1.my,x1.port,c1,c2,18,32,c3,[]⟩:Segm)
noncomputable def Qa:=bm st Tryz.func330 [JE,pa,yN] (ks:=[.st .door,.st .tupl,.st .segm]) cA (λv=>[(true,mq v)])
noncomputable def ol:FT (Door×Tupl×Segm×Unit) (Segm) (λx=>aU x.1∧ar x.2.2.1) (λx v=>ar v):= .mk λ(x0,x1,x2,_)=>
  .cal sK.c (x0,x1,x2,()) λc1=>
  .val (bH.f (x2.seq,1,())) λc2=>
  .val (jR.f (x2.opts,x0.clock,())) λc3=>
  .ret (⟨x1.my,x1.port,c1,c2,18,32,c3,[]⟩:Segm)
noncomputable def Gq:=bm st Tryz.func364 [Kh,cP,yA] (ks:=[.st .door,.st .tupl,.st .segm]) ol (λv=>[(true,mq v)])
noncomputable def ze:FT (Door×Tupl×Segm×Unit) (Door×List Segm) (λx=>aU x.1∧ar x.2.2.1) (λx v=>aU v.1∧sL ar v.2):= .mk λ(x0,x1,x2,_)=>
  .cal dq.c (x0,()) λc1=>
  .cal oE.c (x0,x1,x2,()) λc2=>
  .ite (!c2) (.ret (c1,[]))<|
  .cal ol.c (x0,x1,x2,()) λc3=>
  .cal fN.c (x0.halves,x1,()) λc4=>
  .ite (decide (0≤c4)) (.grd (dr x0.halves c4)<|
   .ite ((x0.halves.getD c4.toNat (Ty.zero .half)).irs != x2.seq) (.ret (c1,[]))<|
   .grd (dr x0.halves c4)<|
   .ret (c1,[({c3 with seq:=(x0.halves.getD c4.toNat (Ty.zero .half)).iss}:Segm)]))<|
  .cal cO.c (x0.table,x1,()) λc5=>
  .ite (decide (c5<0)) (.val (mv.f (x2.opts,())) λc6=>
   .cal qI.c (c1.halves,(⟨x1,c3.seq,x2.seq,c6,0,x2.window⟩:Half),x0.limits.halves,()) λc7=>
   .ret (({c1 with halves:=c7.1}:Door),[c3]))<|
  .ret (c1,[c3])
noncomputable def Ia:=bm st Tryz.func293 [fE,zR,Gq,ji,eG,C4,Bd] (ks:=[.st .door,.st .tupl,.st .segm]) ze (λv=>[(true,lZ (.o true) (.o true) (.o true) (.o true) (.o true) v.1),(false,[sc (.o true) .segm v.2])])
noncomputable def Ap:FT (Curs×Unit) (Int×Curs) (λx=>ae x.1) (λx v=>ae v.2):= .mk λ(y0,_)=>
  .cal az.c (y0,[167772161,167772162,167772163,0,4294967295],()) λc1=>
  .ret (c1.1,c1.2)
noncomputable def Gd:=cy st ⟨362,Tryz.f362,[],1⟩ [aE] [] [.wr false [.ptr 0]] [.box [.st .curs]] (λx y=>(y.1.1,())) Ap (λv=>[(false,[.c (.int .i64 v.1)])]) (λx y v=>((v.2,()),())) Tryz.func362 (by kernel_rfl) trivial
noncomputable def Te:=[sG,bP,jM,fE,uh,eG,yF,L5,rN,ji,cP,zd,Ia,HU]
def wu:An:=⟨⟨[],[],false,0⟩,⟨[3,6,7,8,9,12],[],false,0⟩,⟨[],[]⟩,[(.normal,⟨[zp 3 0,zp 6 1,(7,false,[.nil]),zi 8,zo 9 2,zp 12 3],[.box [.st .door [.sl .arg,.sl .arg,.sl .arg,.sl .arg,.sl .arg]],.box [.st .door [.nil .macRow,.nil .macRow,.nil .half,.nil .conn,.nil .tupl]],za .segm,.box [.st .door [.own 4,.own 5,.own 6,.own 7,.own 8]],zf,zf,zf,zf,zf]⟩)]⟩
noncomputable def Sz:Fx:=⟨160,Tryz.f160,[(1000084,wu),(3000002,rA 0 29),(3000013,rA 0 84),(3000016,rA 0 92),(3000019,rA 0 114)],0⟩
noncomputable def Dm:FT (Door×Int×Segm×Unit) (Door×List Segm×Int) (λx=>aU x.1∧ar x.2.2.1) (λx v=>aU v.1∧sL ar v.2.1):= .mk λ(x0,x1,x2,_)=>
  .bnd (β:=Bool×Unit) (.as (λw=>(w.1=false→x0.table.conns.length≤16∧x2.body.length≤1420)) (.cal oW.c (x0,()) λc1=>
   .ite (!c1) (.ret (true,()))<|
   .cal aD.c (x1,32,()) λc2=>
   .ite (!c2) (.ret (true,()))<|
   .cal gD.c (x2,()) λc3=>
   .ret ((!c3),()))) λ(u4a0,_)=>
  .ite u4a0 (.cal dq.c (x0,()) λc5=>
   .ret (c5,[],0))<|
  .val (me.f (x1,x2,())) λc6=>
  .cal cO.c (x0.table,c6,()) λc7=>
  .ite (x2.to != x0.port) (.cal kv.c (x0,x2,()) λc8=>
   .ret (c8.1,c8.2.1,c8.2.2))<|
  .ite (decide (0≤c7)) (.cal vQ.c (x0,c7,x2,()) λc9=>
   .ret (c9.1,c9.2.1,c9.2.2))<|
  .val (fV.f (x2,4,())) λc10=>
  .ite c10 (.cal dq.c (x0,()) λc11=>
   .cal fN.c (x0.halves,c6,()) λc12=>
   .bnd (β:=Bool×Unit) (.ite (decide (0≤c12)) (.grd (dr x0.halves c12)<|
     .val (bH.f ((x0.halves.getD c12.toNat (Ty.zero .half)).irs,1,())) λc13=>
     .ret ((x2.seq==c13),()))<|
    .ret (false,())) λ(u14a0,_)=>
   .bnd (β:=WT wu.es) (.as (λw=>aU w.2.1∧aU w.2.2.1∧sL ar w.2.2.2.1∧aU w.2.2.2.2.1) (.ite u14a0 (.cal oO.c (x0.halves,c6,()) λc15=>
     .ret (0,x0,(⟨0,0,⟨0,⟨false,0,0,[]⟩,⟨false,0,0,[]⟩,false⟩,⟨0,0,0,0⟩,[],⟨[],[]⟩,0⟩:Door),[],({c11 with halves:=c15}:Door),()))<|
    .ret (0,x0,(⟨0,0,⟨0,⟨false,0,0,[]⟩,⟨false,0,0,[]⟩,false⟩,⟨0,0,0,0⟩,[],⟨[],[]⟩,0⟩:Door),[],c11,()))) λ(_,_,_,u16a3,u16a4,_)=>
   .ret (u16a4,u16a3,0))<|
  .bnd (β:=Bool×Unit) (.val (fV.f (x2,2,())) λc17=>
   .ite c17 (.val (fV.f (x2,16,())) λc18=>
    .ite (!c18) (.val (fV.f (x2,1,())) λc19=>
     .ret ((!c19),()))<|
    .ret (false,()))<|
   .ret (false,())) λ(u20a0,_)=>
  .ite u20a0 (.cal ze.c (x0,c6,x2,()) λc21=>
   .ret (c21.1,c21.2,0))<|
  .bnd (β:=Bool×Unit) (.val (fV.f (x2,16,())) λc22=>
   .ite c22 (.val (fV.f (x2,2,())) λc23=>
    .ret ((!c23),()))<|
   .ret (false,())) λ(u24a0,_)=>
  .ite u24a0 (.cal yD.c (x0,c6,x2,()) λc25=>
   .ret (c25.1,c25.2.1,c25.2.2))<|
  .val (fV.f (x2,16,())) λc26=>
  .ite c26 (.cal kv.c (x0,x2,()) λc27=>
   .ret (c27.1,c27.2.1,c27.2.2))<|
  .cal dq.c (x0,()) λc28=>
  .ret (c28,[],0)
noncomputable def Tj:=ck st Sz Te [] (ks:=[.st .door,.sc (.int .i64),.st .segm]) Dm (λv=>[(true,lZ (.o true) (.o true) (.o true) (.o true) (.o true) v.1),(false,[sc (.o true) .segm v.2.1]),(false,[.c (.int .i64 v.2.2)])]) Tryz.func160 trivial
noncomputable def lR:FT (Curs×Unit) (Tupl×Curs) (λx=>ae x.1) (λx v=>ae v.2):= .mk λ(y0,_)=>
  .cal Ap.c (y0,()) λc1=>
  .cal az.c (c1.2,[40000,40001,40002],()) λc2=>
  .ret ((⟨c1.1,c2.1,80⟩:Tupl),c2.2)
noncomputable def ly:=cy st ⟨248,Tryz.f248,[],1⟩ [Gd,aE] [] [.wr false [.ptr 0]] [.box [.st .curs]] (λx y=>(y.1.1,())) lR (λv=>[(true,JT v.1)]) (λx y v=>((v.2,()),())) Tryz.func248 (by kernel_rfl) trivial
noncomputable def Mj:=[u9,p8,QZ,sU,Tj,vq]
noncomputable def LI:Fx:=⟨65,Tryz.f65,[(3000009,rA 0 55),(4000000,la ⟨[],[],false,0⟩ ⟨[],[.softb 4 2],false,0⟩)],0⟩
noncomputable def ro:FT (Stac×ac×Unit) (Stac×List ac×Int) (λx=>bL x.1∧sS x.2.1) (λx v=>bL v.1∧sL sS v.2.1):= .mk λ(x0,x1,_)=>
  .cal n5.c (x0,()) λc1=>
  .cal jq.c (x0,()) λc2=>
  .ite (!c2) (.ret (c1,[],0))<|
  .cal y3.c (x0.link,x1,()) λc3=>
  .ite (c3.2.1==1) (.ret (({c1 with link.mac:=c3.1.mac,link.ip:=c3.1.ip,link.cache:=c3.1.cache}:Stac),[c3.2.2.2],0))<|
  .cal iu.c (c3.2.2.1.body,c3.2.2.1.src,c3.2.2.1.dst,()) λc4=>
  .bnd (β:=Bool×Unit) (.ite (c3.2.1 != 2) (.ret (true,()))<|
   .ret ((!c4.2),())) λ(u5a0,_)=>
  .ite u5a0 (.ret (({c1 with link.mac:=c3.1.mac,link.ip:=c3.1.ip,link.cache:=c3.1.cache}:Stac),[],0))<|
  .cal Dm.c (x0.door,c3.2.2.1.src,c4.1,()) λc6=>
  .cal gc.c ((⟨c3.1,c6.1⟩:Stac),c3.2.2.1.src,c6.2.1,()) λc7=>
  .ret ((⟨c3.1,c6.1⟩:Stac),c7,c6.2.2)
noncomputable def Oi:=ck st LI Mj [] (ks:=[.st .stac,.sc .str]) ro (λv=>[(true,sI .c (.o true) (.o true) (.o true) (.o true) (.o true) v.1),(false,[sc (.o true) .str v.2.1]),(false,[.c (.int .i64 v.2.2)])]) Tryz.func65 trivial
noncomputable def Ga:=[aw,rJ]
def mL:Sh:=⟨[zp 0 0,(3,false,[.int .u64]),zi 4],[.box [.st .curs [.sl .any]]]⟩
noncomputable def D6:Fx:=⟨250,Tryz.f250,[(1,la ⟨[0,3,4],[],false,1⟩ ⟨[2,3],[],false,1⟩)],1⟩
noncomputable def HC (v1:Int)(a:Int×Curs):Tr (Stp (Int×Curs) (Empty)):=
 .cal lC.c (a.2,()) λc2=>
 .val (bits .or .u64 (IntKind.wrap .u64 (a.1*256)) (IntKind.wrap .u64 c2.1)) λe3=>
 .ret (.next (e3,c2.2))
noncomputable def ij:mL.V→sD mL (Int×Curs):=λ(v0,v1,v2,_)=>⟨v1,(v0,v2),λv1 a=>(a.1,v1,a.2,()),λv1 _=>(decide (v1<8)),HC,up,1,(Int.toNat (8-v1)),Empty.elim,Prod.mk,oN (.exit 1) ⟨[zu 2,(3,false,[.int .u64])],[.box [.st .curs [.sl .any]]]⟩ (λx=>(x.2.1,x.2.2,()))⟩
theorem Hy:LS Tryz.prog D6 [0] (jz 1 mL ij):=eB st (aV Ga) _ ij [] trivial
theorem He {v0 v1:Int}{v2:Curs}(h0:0≤v1)(h1:ae v2):(ij (v0,v1,v2,())).U 8 (λv1 a=>ae a.2) (λ_=>True):=
 kN (a:=(v0,v2)) h0 (by decide) h1
noncomputable def fH:FT (Curs×Unit) (Int×Curs) (λx=>ae x.1) (λx v=>ae v.2):=⟨λ(y0,_)=>
  .cal ah.c (y0,3,()) λc1=>
  .ite (c1.1==0) (.ret (0,c1.2))<|
  .ite (c1.1==1) (.ret (506097522914230528,c1.2))<|
  .lp (ij (0,0,c1.2,())).lp λ(_,a4_0,a4_1)=>
  .ret (a4_0,a4_1),
 λ(y0,_) hp=>by
  refine Tr.C ?_ λ_ _ _=>Tr.I (λ_=>Tr.R ?_) λ_=>Tr.I (λ_=>Tr.R ?_) λ_=>Tr.L (He ?_ ?_) (λ(a4_0,a4_1) _=>Tr.R ?_) (λp=>Empty.elim p)
  all_goals ((try simp only[ij,LC.lp,LC.ct,Ct.lp]at*)<;>grind)⟩
noncomputable def rV:=cy st D6 Ga [(jz 1 mL ij)] [.wr false [.ptr 0]] [.box [.st .curs]] (λx y=>(y.1.1,())) fH (λv=>[(false,[.c (.int .u64 v.1)])]) (λx y v=>((v.2,()),())) Tryz.func250 (by kernel_rfl) ⟨Hy,trivial⟩
noncomputable def IK:FT (Curs×Unit) (Keys×Curs) (λx=>ae x.1) (λx v=>cE v.1∧ae v.2):= .mk λ(y0,_)=>
  .cal ah.c (y0,40,()) λc1=>
  .cal fH.c (c1.2,()) λc2=>
  .cal fH.c (c2.2,()) λc3=>
  .cal m6.c (c2.1,c3.1,()) λc4=>
  .ite (decide (0<c1.1)) (.cal bf.c (c3.2,2,()) λc5=>
   .ite c5.1 (.cal fH.c (c5.2,()) λc6=>
    .cal m6.c (c6.1,5,()) λc7=>
    .ret ((⟨c1.1,c4,c7,true⟩:Keys),c6.2))<|
   .ret ((⟨c1.1,c4,⟨false,0,0,[]⟩,false⟩:Keys),c5.2))<|
  .ret ((⟨c1.1,c4,⟨false,0,0,[]⟩,false⟩:Keys),c3.2)
noncomputable def Oh:=cy st ⟨352,Tryz.f352,[],1⟩ [aw,rV,sB,bK] [] [.wr false [.ptr 0]] [.box [.st .curs]] (λx y=>(y.1.1,())) IK (λv=>[(true,Ao (.o true) (.o true) v.1)]) (λx y v=>((v.2,()),())) Tryz.func352 (by kernel_rfl) trivial
noncomputable def UZ:=[u9,p8,Ss,Oi,GS,HK,tJ,AQ,L2]
noncomputable def Ux:Fx:=⟨13,Tryz.f13,[(3000002,rA 0 24),(4000000,la ⟨[],[],false,0⟩ ⟨[],[.softb 4 2,.softb 4 9,.softb 4 13,.softb 4 19,.softb 4 20,.softb 4 21],false,0⟩)],0⟩
noncomputable def qf:FT (Stac×Acti×Unit) (Stac×Resu) (λx=>bL x.1∧f7 x.2.1) (λx v=>bL v.1∧j7 v.2):= .mk λ(x0,x1,_)=>
  .cal n5.c (x0,()) λc1=>
  .bnd (β:=Bool×Unit) (.as (λw=>(w.1=false→x0.door.table.conns.length≤16)) (.cal jq.c (x0,()) λc2=>
   .ite (!c2) (.ret (true,()))<|
   .cal K3.c (x1,()) λc3=>
   .ret ((!c3),()))) λ(u4a0,_)=>
  .ite u4a0 (.ret (c1,(⟨[],0,⟨0,0,0⟩,0,[],false⟩:Resu)))<|
  .ite (x1.kind==1) (.cal ro.c (x0,x1.text,()) λc5=>
   .ret (c5.1,(⟨c5.2.1,c5.2.2,⟨0,0,0⟩,0,[],true⟩:Resu)))<|
  .ite (x1.kind==2) (.cal pT.c (x0,()) λc6=>
   .ret (c6.1,(⟨c6.2,0,⟨0,0,0⟩,0,[],true⟩:Resu)))<|
  .ite (x1.kind==3) (.cal Bc.c (x0.door,x1.mac,()) λc7=>
   .ret ((⟨c1.link,c7⟩:Stac),(⟨[],0,⟨0,0,0⟩,0,[],true⟩:Resu)))<|
  .ite (x1.kind==4) (.cal qh.c (x0.door.table,()) λc8=>
   .cal Du.c (c8.1,()) λc9=>
   .ret (({c1 with door.table.conns:=c9.conns,door.table.waiting:=c9.waiting}:Stac),(⟨[],0,c8.2.1,0,[],c8.2.2⟩:Resu)))<|
  .cal vu.c (c1,x1,()) λc10=>
  .ret (c10.1,c10.2)
noncomputable def TB:=ck st Ux UZ [] (ks:=[.st .stac,.st .acti]) qf (λv=>[(true,sI .c .c .c .c .c .c v.1),(true,PT (.o true) v.2)]) Tryz.func13 trivial
noncomputable def xh:FT (Half×Door×Unit) (Bool) (λx=>aU x.2.1) (λ_ _=>True):= .mk λ(x0,y1,_)=>
  .cal aO.c (y1.table,x0.tuple,()) λc1=>
  .ret (decide (0≤c1))
noncomputable def J7:=cy st ⟨189,Tryz.f189,[],1⟩ [nz] [] [.st .half,.wr false [.ptr 0]] [.box [.st .door]] (λx y=>(x.1,y.1.1,())) xh rB (λx y v=>((y.1.1,()),())) Tryz.func189 (by kernel_rfl) trivial
noncomputable def gG:=[J7]
def ce:Sh:=⟨[zl 0 .half,(1,false,[.fn 189 [0]]),zi 7,zi 8],[.box [.st .door [.sl .any,.sl .any,.sl .any,.sl .any,.sl .any]]]⟩
noncomputable def gF:Fx:=⟨314,Tryz.f314,[(0,la ⟨[0,1,7,8],[.softo 0 6,.softo 0 10,.softo 0 16,.softo 0 17,.softo 0 18],false,1⟩ ⟨[4],[],false,1⟩)],1⟩
noncomputable def fK (v0:List Half)(v3:Door)(v2:Int)(a:Unit):Tr (Stp (Unit) ((Int))):=
 .grd (dr v0 v2)<|
 .cal xh.c ((v0.getD v2.toNat (Ty.zero .half)),v3,()) λc2=>
 .ite c2 (.ret (.out v2))<|
 .ret (.next ())
noncomputable def bp:ce.V→tM ce Unit (Int):=λ(v0,v1,v2,v3,_)=>⟨v2,(),λv2 _=>(v0,v1,v2,v3,()),λv2 _=>(decide (v2<v1)),fK v0 v3,up,1,(Int.toNat (v1-v2)),.inl,eR,oB .ret ⟨[zi 4],[.box [.st .door [.sl .any,.sl .any,.sl .any,.sl .any,.sl .any]]]⟩ (λp=>(p,v3,())) (.exit 0) ⟨[zu 4],[.box [.st .door [.sl .any,.sl .any,.sl .any,.sl .any,.sl .any]]]⟩ (λ_=>(v3,()))⟩
theorem lJ:LS Tryz.prog gF [0] (jz 0 ce bp):=eB st (aV gG) _ bp [] trivial
theorem lg {v0:List Half}{v1 v2:Int}{v3:Door}(h0:0≤v2)(h1:v1≤4611686018427387904)(h2:sS v0)(h3:aU v3)(h4:v1≤(v0.length:Int)):(bp (v0,v1,v2,v3,())).U v1 (λ_ _=>True) (λp=>v2≤p∧p<v1):=
 kN h0 h1 trivial
noncomputable def eJ:FT (List Half×Door×Unit) (Int) (λx=>sS x.1∧aU x.2.1) (λx v=> -1≤v∧v<x.1.length):= .mk (λ(x0,y1_0,_)=>
  .lp (bp (x0,(x0.length:Int),0,y1_0,())).lp λw3=> .sum w3 (λp3a0=>
  .ret p3a0)<|
  λ_=>
  .ret (-1)) (pQ @lg)
noncomputable def na:=cy st gF gG [(jz 0 ce bp)] [.sc (.sl .half),.fn 189 [0]] [.box [.st .door]] (λx y=>(x.1,y.1.1,())) eJ rI (λx y v=>((y.1.1,()),())) Tryz.func314 (by kernel_rfl) ⟨lJ,trivial⟩
noncomputable def cx:FT (List Half×Door×Unit) (Bool) (λx=>sS x.1∧aU x.2.1) (λ_ _=>True):= .mk λ(x0,y1_0,_)=>
  .cal eJ.c (x0,y1_0,()) λc1=>
  .ret (decide (0≤c1))
noncomputable def lH:=cy st ⟨188,Tryz.f188,[],1⟩ [na] [] [.sc (.sl .half),.fn 189 [0]] [.box [.st .door]] (λx y=>(x.1,y.1.1,())) cx rB (λx y v=>((y.1.1,()),())) Tryz.func188 (by kernel_rfl) trivial
noncomputable def vX:FT (Curs×Unit) (Int×Curs) (λx=>ae x.1) (λx v=>ae v.2):=⟨λ(y0,_)=>
  .cal ah.c (y0,3,()) λc1=>
  .ite (c1.1==0) (.cal az.c (c1.2,[0,1,(-1),9,10,999999999999,1000000000000,9223372036854775807,4294967295,4294967296,65535,65536,(-9223372036854775808)],()) λc2=>
   .ret (c2.1,c2.2))<|
  .ite (c1.1==1) (.cal ah.c (c1.2,1000000,()) λc3=>
   .ret ((IntKind.wrap .i64 (c3.1-500000)),c3.2))<|
  .cal ah.c (c1.2,20,()) λc4=>
  .ret (c4.1,c4.2),
 λ(y0,_) hp=>by
  refine Tr.C ?_ λ_ _ _=>Tr.I (λ_=>Tr.C ?_ λ_ _ _=>Tr.R ?_) λ_=>Tr.I (λ_=>Tr.C ?_ λ_ _ _=>Tr.R ?_) λ_=>Tr.C ?_ λ_ _ _=>Tr.R ?_
  all_goals (first|grind|(simp only[sS,List.length_cons,List.length_nil];grind))⟩
noncomputable def tS:=cy st ⟨318,Tryz.f318,[],1⟩ [aw,aE] [] [.wr false [.ptr 0]] [.box [.st .curs]] (λx y=>(y.1.1,())) vX (λv=>[(false,[.c (.int .i64 v.1)])]) (λx y v=>((v.2,()),())) Tryz.func318 (by kernel_rfl) trivial
noncomputable def uU:FT (Curs×Unit) (Limi×Curs) (λx=>ae x.1) (λx v=>ae v.2):= .mk λ(y0,_)=>
  .cal ah.c (y0,3,()) λc1=>
  .cal ah.c (c1.2,3,()) λc2=>
  .cal ah.c (c2.2,4,()) λc3=>
  .cal ah.c (c3.2,4,()) λc4=>
  .ret ((⟨(IntKind.wrap .i64 (1+c1.1)),(IntKind.wrap .i64 (1+c2.1)),(IntKind.wrap .i64 (1+c3.1)),c4.1⟩:Limi),c4.2)
noncomputable def wt:=cy st ⟨353,Tryz.f353,[],1⟩ [aw] [] [.wr false [.ptr 0]] [.box [.st .curs]] (λx y=>(y.1.1,())) uU (λv=>[(true,Ud v.1)]) (λx y v=>((v.2,()),())) Tryz.func353 (by kernel_rfl) trivial
noncomputable def QG:=[bZ,DW,Cf,yU,bO,lH]
noncomputable def O3:Fx:=⟨85,Tryz.f85,[(3000001,rA 0 50)],0⟩
noncomputable def dz:FT (Door×Unit) (Bool) (λx=>aU x.1) (λx v=>(v=true→x.1.table.conns.length≤16)):= .mk λ(x0,_)=>
  .bnd (β:=Bool×Unit) (.as (λw=>(w.1=false→0≤x0.keys.epoch∧x0.keys.epoch≤4294967295∧x0.table.conns.length≤16∧x0.table.waiting.length≤16∧x0.halves.length≤64)) (.cal aa.c (x0.port,16,()) λc1=>
   .ite (!c1) (.ret (true,()))<|
   .cal aa.c (x0.clock,32,()) λc2=>
   .ite (!c2) (.ret (true,()))<|
   .cal eS.c (x0.keys,()) λc3=>
   .ite (!c3) (.ret (true,()))<|
   .cal dk.c (x0.table,x0.limits,()) λc4=>
   .ite (!c4) (.ret (true,()))<|
   .cal ev.c (x0.halves,()) λc5=>
   .ite (!c5) (.ret (true,()))<|
   .ite (decide (x0.limits.halves<(x0.halves.length:Int))) (.ret (true,()))<|
   .val (bt.f (x0.chal,0,x0.limits.chal,())) λc6=>
   .ret ((!c6),()))) λ(u7a0,_)=>
  .ite u7a0 (.ret false)<|
  .cal cx.c (x0.halves,x0,()) λc8=>
  .ret (!c8)
noncomputable def E9:=ck st O3 QG [] (ks:=[.st .door]) dz rB Tryz.func85 trivial
noncomputable def SZ:=[Ha,E9,pR,qm,Qa,zN,nz,CG,NE]
noncomputable def S7:Fx:=⟨216,Tryz.f216,[(3000002,rA 0 25)],0⟩
noncomputable def kT:FT (Door×Tupl×Segm×Unit) (Door×List Segm) (λx=>aU x.1∧ar x.2.2.1) (λx v=>aU v.1∧sL ar v.2∧v.1.table.conns.length=x.1.table.conns.length):= .mk λ(x0,x1,x2,_)=>
  .cal p0.c (x0,()) λc1=>
  .bnd (β:=Bool×Unit) (.as (λw=>(w.1=false→x0.table.conns.length≤16∧x2.body.length≤1420)) (.cal dz.c (x0,()) λc2=>
   .ite (!c2) (.ret (true,()))<|
   .cal aL.c (x1,()) λc3=>
   .ite (!c3) (.ret (true,()))<|
   .cal aj.c (x2,()) λc4=>
   .ret ((!c4),()))) λ(u5a0,_)=>
  .ite u5a0 (.ret (c1,[]))<|
  .cal cA.c (x0,x1,x2,()) λc6=>
  .cal aP.c (x0.halves,x1,()) λc7=>
  .ite (decide (0≤c7)) (.grd (dr x0.halves c7)<|
   .ite ((x0.halves.getD c7.toNat (Ty.zero .half)).irs != x2.seq) (.ret (c1,[]))<|
   .grd (dr x0.halves c7)<|
   .ret (c1,[({c6 with seq:=(x0.halves.getD c7.toNat (Ty.zero .half)).iss}:Segm)]))<|
  .cal aO.c (x0.table,x1,()) λc8=>
  .ite (decide (c8<0)) (.val (iy.f (x2.opts,())) λc9=>
   .cal l0.c (x0.halves,(⟨x1,c6.seq,x2.seq,c9,0,x2.window⟩:Half),x0.limits.halves,()) λc10=>
   .ret (({c1 with halves:=c10.1}:Door),[c6]))<|
  .ret (c1,[c6])
noncomputable def XR:=ck st S7 SZ [] (ks:=[.st .door,.st .tupl,.st .segm]) kT (λv=>[(true,lZ (.o true) (.o true) (.o true) (.o true) (.o true) v.1),(false,[sc (.o true) .segm v.2])]) Tryz.func216 trivial
noncomputable def gz:FT (Stac×Unit) (Bool) (λx=>bL x.1) (λx v=>(v=true→x.1.door.table.conns.length≤16)):= .mk λ(x0,_)=>
  .cal d7.c (x0.link,()) λc1=>
  .ite c1 (.cal dz.c (x0.door,()) λc2=>
   .ret c2)<|
  .ret false
noncomputable def WG:=bm st Tryz.func20 [xd,E9] (ks:=[.st .stac]) gz rB
noncomputable def Gw:=[bK,aE,rJ]
def mr:Sh:=⟨[zp 0 0,zi 3,zi 4],[.box [.st .curs [.sl .any]]]⟩
noncomputable def Gf:Fx:=⟨319,Tryz.f319,[(0,la ⟨[0,3,4],[],false,1⟩ ⟨[2,3],[],false,1⟩)],1⟩
noncomputable def GR (v1:Int)(a:Int×Curs):Tr (Stp (Int×Curs) (Empty)):=
 .cal lC.c (a.2,()) λc3=>
 .ret (.next ((IntKind.wrap .i64 ((IntKind.wrap .i64 (256*a.1))+c3.1)),c3.2))
noncomputable def iv:mr.V→sD mr (Int×Curs):=λ(v0,v1,v2,_)=>⟨v1,(v0,v2),λv1 a=>(a.1,v1,a.2,()),λv1 _=>(decide (v1<4)),GR,up,1,(Int.toNat (4-v1)),Empty.elim,Prod.mk,oN (.exit 0) ⟨[zu 2,zi 3],[.box [.st .curs [.sl .any]]]⟩ (λx=>(x.2.1,x.2.2,()))⟩
theorem Hn:LS Tryz.prog Gf [0] (jz 0 mr iv):=eB st (aV Gw) _ iv [] trivial
theorem Hw {v0 v1:Int}{v2:Curs}(h0:0≤v1)(h1:ae v2):(iv (v0,v1,v2,())).U 4 (λv1 a=>ae a.2) (λ_=>True):=
 kN (a:=(v0,v2)) h0 (by decide) h1
noncomputable def i2:FT (Curs×Unit) (Int×Curs) (λx=>ae x.1) (λx v=>ae v.2):=⟨λ(y0,_)=>
  .cal bf.c (y0,3,()) λc1=>
  .ite c1.1 (.cal az.c (c1.2,[0,1,4294967295,2147483647,2147483648,4294967294],()) λc2=>
   .ret (c2.1,c2.2))<|
  .lp (iv (0,0,c1.2,())).lp λ(_,a4_0,a4_1)=>
  .ret (a4_0,a4_1),
 λ(y0,_) hp=>by
  refine Tr.C ?_ λ_ _ _=>Tr.I (λ_=>Tr.C ?_ λ_ _ _=>Tr.R ?_) λ_=>Tr.L (Hw ?_ ?_) (λ(a4_0,a4_1) _=>Tr.R ?_) (λp=>Empty.elim p)
  all_goals ((try simp only[iv,LC.lp,LC.ct,Ct.lp]at*)<;>grind)⟩
noncomputable def ko:=cy st Gf Gw [(jz 0 mr iv)] [.wr false [.ptr 0]] [.box [.st .curs]] (λx y=>(y.1.1,())) i2 (λv=>[(false,[.c (.int .i64 v.1)])]) (λx y v=>((v.2,()),())) Tryz.func319 (by kernel_rfl) ⟨Hn,trivial⟩
noncomputable def IR:FT (Curs×Unit) (Int×Curs) (λx=>ae x.1) (λx v=>ae v.2):= .mk λ(y0,_)=>
  .cal bf.c (y0,12,()) λc1=>
  .ite c1.1 (.cal vX.c (c1.2,()) λc2=>
   .ret (c2.1,c2.2))<|
  .cal i2.c (c1.2,()) λc3=>
  .ret (c3.1,c3.2)
noncomputable def NR:=cy st ⟨200,Tryz.f200,[],1⟩ [bK,tS,ko] [] [.wr false [.ptr 0]] [.box [.st .curs]] (λx y=>(y.1.1,())) IR (λv=>[(false,[.c (.int .i64 v.1)])]) (λx y v=>((v.2,()),())) Tryz.func200 (by kernel_rfl) trivial
noncomputable def GT:=[dJ,bK,aE,aw,ko]
def Ag:An:=⟨⟨[],[],false,1⟩,⟨[0,2,3],[],false,1⟩,⟨[],[]⟩,[(.normal,⟨[zp 0 0,zp 2 1,zp 3 2],[.box [.st .curs [.sl .any]],zx .opti,zx .opti]⟩)]⟩
def y5:An:=⟨⟨[],[],false,1⟩,⟨[0,2,3],[],false,1⟩,⟨[],[]⟩,[(.normal,⟨[zp 0 0,zp 2 1,zp 3 2],[.box [.st .curs [.sl .any]],zx .opti,zx .opti]⟩)]⟩
noncomputable def Hr:Fx:=⟨433,Tryz.f433,[(1000007,Ag),(1000013,y5)],1⟩
noncomputable def mT:FT (Curs×Unit) (Opti×Curs) (λx=>ae x.1) (λx v=>ae v.2):= .mk λ(y0,_)=>
  .val (bI.f (())) λc1=>
  .cal bf.c (y0,3,()) λc2=>
  .bnd (β:=Curs×Opti×Opti×Unit) (.as (λw=>ae w.1) (.ite (!c2.1) (.cal az.c (c2.2,[536,1460,1300,64,65535,1],()) λc3=>
    .ret (c3.2,(⟨0,0,false,false,0,0⟩:Opti),({c1 with mss:=c3.1}:Opti),()))<|
   .ret (c2.2,(⟨0,0,false,false,0,0⟩:Opti),c1,()))) λ(u4a0,u4a1,u4a2,_)=>
  .cal bf.c (u4a0,2,()) λc5=>
  .bnd (β:=Curs×Opti×Opti×Unit) (.as (λw=>ae w.1) (.ite c5.1 (.cal ah.c (c5.2,15,()) λc6=>
    .ret (c6.2,u4a1,({u4a2 with scale:=c6.1}:Opti),()))<|
   .ret (c5.2,u4a1,u4a2,()))) λ(u7a0,_,u7a2,_)=>
  .cal bf.c (u7a0,2,()) λc8=>
  .cal bf.c (c8.2,2,()) λc9=>
  .ite c9.1 (.cal i2.c (c9.2,()) λc10=>
   .cal i2.c (c10.2,()) λc11=>
   .ret ((⟨u7a2.mss,u7a2.scale,c8.1,true,c10.1,c11.1⟩:Opti),c11.2))<|
  .ret (({u7a2 with sack:=c8.1}:Opti),c9.2)
noncomputable def mE:=cy st Hr GT [] [.wr false [.ptr 0]] [.box [.st .curs]] (λx y=>(y.1.1,())) mT (λv=>[(true,ml v.1)]) (λx y v=>((v.2,()),())) Tryz.func433 (by kernel_rfl) trivial
noncomputable def E1:FT (Curs×Unit) (Segm×Curs) (λx=>ae x.1) (λx v=>ar v.1∧ae v.2):= .mk λ(y0,_)=>
  .cal az.c (y0,[40000,40001,40002],()) λc1=>
  .cal i2.c (c1.2,()) λc2=>
  .cal az.c (c2.2,[0,64,65535],()) λc3=>
  .cal mT.c (c3.2,()) λc4=>
  .ret ((⟨c1.1,80,c2.1,0,2,c3.1,c4.1,[]⟩:Segm),c4.2)
noncomputable def DZ:=cy st ⟨354,Tryz.f354,[],1⟩ [aE,ko,mE] [] [.wr false [.ptr 0]] [.box [.st .curs]] (λx y=>(y.1.1,())) E1 (λv=>[(true,mq v.1)]) (λx y v=>((v.2,()),())) Tryz.func354 (by kernel_rfl) trivial
noncomputable def cI:FT (Curs×Unit) (Int×Curs) (λx=>ae x.1) (λx v=>ae v.2):=⟨λ(y0,_)=>
  .cal ah.c (y0,3,()) λc1=>
  .ite (c1.1==0) (.cal vX.c (c1.2,()) λc2=>
   .ret (c2.1,c2.2))<|
  .ite (c1.1==1) (.cal az.c (c1.2,[0,1,255,256,65535,65536,16777215,4294967295,4294967296,281474976710655,281474976710656],()) λc3=>
   .ret (c3.1,c3.2))<|
  .cal ah.c (c1.2,65536,()) λc4=>
  .ret (c4.1,c4.2),
 λ(y0,_) hp=>by
  refine Tr.C ?_ λ_ _ _=>Tr.I (λ_=>Tr.C ?_ λ_ _ _=>Tr.R ?_) λ_=>Tr.I (λ_=>Tr.C ?_ λ_ _ _=>Tr.R ?_) λ_=>Tr.C ?_ λ_ _ _=>Tr.R ?_
  all_goals (first|grind|(simp only[sS,List.length_cons,List.length_nil];grind))⟩
noncomputable def eU:=cy st ⟨243,Tryz.f243,[],1⟩ [aw,tS,aE] [] [.wr false [.ptr 0]] [.box [.st .curs]] (λx y=>(y.1.1,())) cI (λv=>[(false,[.c (.int .i64 v.1)])]) (λx y v=>((v.2,()),())) Tryz.func243 (by kernel_rfl) trivial
noncomputable def vD:FT (Curs×Unit) (Tupl×Curs) (λx=>ae x.1) (λx v=>ae v.2):= .mk λ(y0,_)=>
  .cal lR.c (y0,()) λc1=>
  .cal ah.c (c1.2,10,()) λc2=>
  .ite (c2.1==0) (.cal cI.c (c2.2,()) λc3=>
   .ret (({c1.1 with ip:=c3.1}:Tupl),c3.2))<|
  .ite (c2.1==1) (.cal cI.c (c2.2,()) λc4=>
   .ret (({c1.1 with port:=c4.1}:Tupl),c4.2))<|
  .ite (c2.1==2) (.cal cI.c (c2.2,()) λc5=>
   .ret (({c1.1 with my:=c5.1}:Tupl),c5.2))<|
  .ret (c1.1,c2.2)
noncomputable def uq:=cy st ⟨134,Tryz.f134,[],1⟩ [ly,aw,eU] [] [.wr false [.ptr 0]] [.box [.st .curs]] (λx y=>(y.1.1,())) vD (λv=>[(true,JT v.1)]) (λx y v=>((v.2,()),())) Tryz.func134 (by kernel_rfl) trivial
noncomputable def Bq:=[rJ]
def lu:Sh:=⟨[zp 0 0,zi 1,zo 5 1,zi 6],[.box [.st .curs [.sl .any]],za .u8]⟩
noncomputable def BG:Fx:=⟨251,Tryz.f251,[(0,la ⟨[0,1,5,6],[.softo 0 0],false,1⟩ ⟨[4,5],[],false,1⟩)],1⟩
noncomputable def Gs (v1:Int)(a:Curs×List Int):Tr (Stp (Curs×List Int) (Empty)):=
 .cal lC.c (a.1,()) λc2=>
 .grd (qi a.2 1 1)<|
 .ret (.next (c2.2,(a.2++[(IntKind.wrap .u8 c2.1)])))
noncomputable def gv:lu.V→sD lu (Curs×List Int):=λ(v0,v1,v2,v3,_)=>⟨v1,(v2,v3),λv1 a=>(v0,v1,a.1,a.2,()),λv1 _=>(decide (v1<v0)),Gs,up,1,(Int.toNat (v0-v1)),Empty.elim,Prod.mk,oN (.exit 0) ⟨[zu 4,zo 5 1],[.box [.st .curs [.sl .any]],za .u8]⟩ (λx=>(x.2.1,x.2.2,()))⟩
theorem Fu:LS Tryz.prog BG [0] (jz 0 lu gv):=eB st (aV Bq) _ gv [] trivial
theorem DE {v0 v1:Int}{v2:Curs}{v3:List Int}(h0:0≤v1)(h1:v0≤4611686018427387904)(h2:v0≤4294967296)(h3:ae v2∧(v3.length:Int)=v1):(gv (v0,v1,v2,v3,())).U v0 (λv1 a=>ae a.1∧(a.2.length:Int)=v1) (λ_=>True):=
 kN (a:=(v2,v3)) h0 h1 h3
noncomputable def ig:FT (Curs×Int×Unit) (List Int×Curs) (λx=>ae x.1∧x.2.1≤1048576) (λx v=>sS v.1∧ae v.2):=⟨λ(y0,x1,_)=>
  .lp (gv (x1,0,y0,[],())).lp λ(_,a3_0,a3_1)=>
  .ret (a3_1,a3_0),
 λ(y0,x1,_) hp=>by
  refine Tr.L (DE ?_ ?_ ?_ ?_) (λ(a3_0,a3_1) _=>Tr.R ?_) (λp=>Empty.elim p)
  all_goals ((try simp only[gv,LC.lp,LC.ct,Ct.lp]at*)<;>grind)⟩
noncomputable def gE:=cy st BG Bq [(jz 0 lu gv)] [.wr false [.ptr 0],.sc (.int .i64)] [.box [.st .curs]] (λx y=>(y.1.1,x.2.1,())) ig (λv=>[(false,[sc (.o true) .u8 v.1])]) (λx y v=>((v.2,()),())) Tryz.func251 (by kernel_rfl) ⟨Fu,trivial⟩
noncomputable def oS:FT (Curs×Int×Unit) (Int×Curs) (λx=>ae x.1) (λx v=>ae v.2):= .mk λ(y0,x1,_)=>
  .cal ah.c (y0,4,()) λc1=>
  .ite (c1.1==0) (.cal IR.c (c1.2,()) λc2=>
   .ret (c2.1,c2.2))<|
  .ite (c1.1==1) (.cal az.c (c1.2,[2147483647,2147483648,(-1),1,0],()) λc3=>
   .val (bH.f (x1,c3.1,())) λc4=>
   .ret (c4,c3.2))<|
  .cal ah.c (c1.2,41,()) λc5=>
  .val (bH.f (x1,(IntKind.wrap .i64 (c5.1-20)),())) λc6=>
  .ret (c6,c5.2)
noncomputable def D4:=cy st ⟨434,Tryz.f434,[],1⟩ [aw,NR,aE,cP] [] [.wr false [.ptr 0],.sc (.int .i64)] [.box [.st .curs]] (λx y=>(y.1.1,x.2.1,())) oS (λv=>[(false,[.c (.int .i64 v.1)])]) (λx y v=>((v.2,()),())) Tryz.func434 (by kernel_rfl) trivial
noncomputable def QP:=[cP,aE,dJ,aw,gE,bK,D4,fP]
def GN:An:=⟨⟨[],[],false,1⟩,⟨[0,6,7],[],false,1⟩,⟨[],[]⟩,[(.normal,⟨[zp 0 0,zp 6 1,zp 7 2],[.box [.st .curs [.sl .any]],zx .segm,zx .segm]⟩)]⟩
noncomputable def OY:Fx:=⟨355,Tryz.f355,[(1000035,GN)],1⟩
noncomputable def uA:FT (Curs×Segm×Segm×Unit) (Segm×Curs) (λx=>ae x.1∧ar x.2.1∧ar x.2.2.1) (λx v=>ar v.1∧ae v.2):= .mk λ(y0,x1,x2,_)=>
  .val (bH.f (x1.seq,1,())) λc1=>
  .val (bH.f (x2.seq,1,())) λc2=>
  .cal az.c (y0,[0,9,65535],()) λc3=>
  .val (bI.f (())) λc4=>
  .cal ah.c (c3.2,3,()) λc5=>
  .cal ig.c (c5.2,c5.1,()) λc6=>
  .ite x2.opts.stamp (.cal bf.c (c6.2,6,()) λc7=>
   .bnd (β:=Curs×Segm×Segm×Unit) (.as (λw=>ae w.1∧ar w.2.1∧ar w.2.2.1) (.ite (!c7.1) (.val (bH.f (x1.opts.val,1,())) λc8=>
     .ret (c7.2,(⟨0,0,0,0,0,0,⟨0,0,false,false,0,0⟩,[]⟩:Segm),(⟨x1.from_,x1.to,c1,c2,16,c3.1,⟨c4.mss,c4.scale,c4.sack,true,c8,x2.opts.val⟩,(aA c6.1)⟩:Segm),()))<|
    .ret (c7.2,(⟨0,0,0,0,0,0,⟨0,0,false,false,0,0⟩,[]⟩:Segm),(⟨x1.from_,x1.to,c1,c2,16,c3.1,c4,(aA c6.1)⟩:Segm),()))) λ(u9a0,_,u9a2,_)=>
   .cal ah.c (u9a0,12,()) λc10=>
   .ite (c10.1==0) (.cal oS.c (c10.2,u9a2.ack,()) λc11=>
    .val (bJ.f (c11.1,())) λc12=>
    .ret (({u9a2 with ack:=c12}:Segm),c11.2))<|
   .ite (c10.1==1) (.cal oS.c (c10.2,u9a2.seq,()) λc13=>
    .val (bJ.f (c13.1,())) λc14=>
    .ret (({u9a2 with seq:=c14}:Segm),c13.2))<|
   .ret (u9a2,c10.2))<|
  .cal ah.c (c6.2,12,()) λc15=>
  .ite (c15.1==0) (.cal oS.c (c15.2,c2,()) λc16=>
   .val (bJ.f (c16.1,())) λc17=>
   .ret ((⟨x1.from_,x1.to,c1,c17,16,c3.1,c4,(aA c6.1)⟩:Segm),c16.2))<|
  .ite (c15.1==1) (.cal oS.c (c15.2,c1,()) λc18=>
   .val (bJ.f (c18.1,())) λc19=>
   .ret ((⟨x1.from_,x1.to,c19,c2,16,c3.1,c4,(aA c6.1)⟩:Segm),c18.2))<|
  .ret ((⟨x1.from_,x1.to,c1,c2,16,c3.1,c4,(aA c6.1)⟩:Segm),c15.2)
noncomputable def GF:=cy st OY QP [] [.wr false [.ptr 0],.st .segm,.st .segm] [.box [.st .curs]] (λx y=>(y.1.1,x.2.1,x.2.2.1,())) uA (λv=>[(true,mq v.1)]) (λx y v=>((v.2,()),())) Tryz.func355 (by kernel_rfl) trivial
noncomputable def BW:=[aw,Oh,wt,DZ,uh,eG,Ia,bK,GF,HU]
def kX:Sh:=⟨[zp 0 0,zp 2 1,zp 3 2,zi 4,zi 5],[.box [.st .curs [.sl .any]],.box [.st .door [.nil .macRow,.nil .macRow,.nil .half,.nil .conn,.nil .tupl]],.box [.st .door [.own 3,.own 4,.own 5,.own 6,.own 7]],zf,zf,zf,zf,zf]⟩
noncomputable def BR:Fx:=⟨240,Tryz.f240,[(0,la ⟨[0,2,3,4,5],[.box 3 16 .half,.box 3 17 .conn,.box 3 18 .tupl],false,1⟩ ⟨[2,3],[],false,1⟩)],1⟩
noncomputable def Ev (v1:Int)(a:Curs×Door×Door):Tr (Stp (Curs×Door×Door) (Empty)):=
 .cal E1.c (a.1,()) λc13=>
 .cal ah.c (c13.2,2,()) λc14=>
 .val (me.f ((IntKind.wrap .i64 (167772162+c14.1)),c13.1,())) λc15=>
 .cal cO.c (a.2.2.table,c15,()) λc16=>
 .ite (decide (0≤c16)) (.ret (.next (c14.2,({a.2.1 with keys.now.rows:=[],keys.before.rows:=[],halves:=[],table.conns:=[],table.waiting:=[]}:Door),a.2.2)))<|
 .cal ze.c (a.2.2,c15,c13.1,()) λc17=>
 .ite (decide (0<(c17.2.length:Int))) (.cal bf.c (c14.2,2,()) λc18=>
  .ite c18.1 (.grd (decide (0<(c17.2.length:Int)))<|
   .cal uA.c (c18.2,c13.1,(c17.2.getD 0 (Ty.zero .segm)),()) λc19=>
   .cal yD.c (c17.1,c15,c19.1,()) λc20=>
   .ret (.next (c19.2,({a.2.1 with keys.now.rows:=[],keys.before.rows:=[],halves:=[],table.conns:=[],table.waiting:=[]}:Door),c20.1)))<|
  .ret (.next (c18.2,({a.2.1 with keys.now.rows:=[],keys.before.rows:=[],halves:=[],table.conns:=[],table.waiting:=[]}:Door),c17.1)))<|
 .ret (.next (c14.2,({a.2.1 with keys.now.rows:=[],keys.before.rows:=[],halves:=[],table.conns:=[],table.waiting:=[]}:Door),c17.1))
noncomputable def gr:kX.V→sD kX (Curs×Door×Door):=λ(v0,v1,v2,v3,v4,_)=>⟨v1,(v2,v3,v4),λv1 a=>(v0,v1,a.1,a.2.1,a.2.2,()),λv1 _=>(decide (v1<v0)),Ev,up,1,(Int.toNat (v0-v1)),Empty.elim,Prod.mk,oN (.exit 0) ⟨[zp 2 1,zp 3 2],[.box [.st .curs [.sl .any]],.box [.st .door [.nil .macRow,.nil .macRow,.nil .half,.nil .conn,.nil .tupl]],.box [.st .door [.own 3,.own 4,.own 5,.own 6,.own 7]],zf,zf,zf,zf,zf]⟩ (λx=>(x.2.1,({x.2.2.1 with keys.now.rows:=[],keys.before.rows:=[],halves:=[],table.conns:=[],table.waiting:=[]}:Door),x.2.2.2,()))⟩
theorem EC:LS Tryz.prog BR [0] (jz 0 kX gr):=eB st (aV BW) _ gr [] trivial
theorem FE {v0 v1:Int}{v2:Curs}{v3 v4:Door}(h0:0≤v1)(h1:v0≤4611686018427387904)(h2:ae v2∧aU v3∧aU v4):(gr (v0,v1,v2,v3,v4,())).U v0 (λv1 a=>ae a.1∧aU a.2.1∧aU a.2.2) (λ_=>True):=
 kN (a:=(v2,v3,v4)) h0 h1 h2
noncomputable def Ad:FT (Curs×Unit) (Door×Curs) (λx=>ae x.1) (λx v=>aU v.1∧ae v.2):=⟨λ(y0,_)=>
  .cal ah.c (y0,99,()) λc1=>
  .cal IK.c (c1.2,()) λc2=>
  .cal uU.c (c2.2,()) λc3=>
  .cal ah.c (c3.2,6,()) λc4=>
  .lp (gr (c4.1,0,c4.2,(⟨0,0,⟨0,⟨false,0,0,[]⟩,⟨false,0,0,[]⟩,false⟩,⟨0,0,0,0⟩,[],⟨[],[]⟩,0⟩:Door),(⟨80,c1.1,c2.1,c3.1,[],⟨[],[]⟩,0⟩:Door),())).lp λ(_,a21_0,_,a21_2)=>
  .ret (a21_2,a21_0),
 λ(y0,_) hp=>by
  refine Tr.C ?_ λ_ _ _=>Tr.C ?_ λ_ _ _=>Tr.C ?_ λ_ _ _=>Tr.C ?_ λ_ _ _=>Tr.L (FE ?_ ?_ ?_) (λ(a21_0,a21_1,a21_2) _=>Tr.R ?_) (λp=>Empty.elim p)
  all_goals ((try simp only[gr,LC.lp,LC.ct,Ct.lp]at*)<;>grind)⟩
noncomputable def Bx:=cy st BR BW [(jz 0 kX gr)] [.wr false [.ptr 0]] [.box [.st .curs]] (λx y=>(y.1.1,())) Ad (λv=>[(true,lZ (.o true) (.o true) (.o true) (.o true) (.o true) v.1)]) (λx y v=>((v.2,()),())) Tryz.func240 (by kernel_rfl) ⟨EC,trivial⟩
noncomputable def Fp:FT (Curs×Unit) (Stac×Curs) (λx=>ae x.1) (λx v=>bL v.1∧ae v.2):= .mk λ(y0,_)=>
  .cal sj.c (y0,()) λc1=>
  .cal Ad.c (c1.2,()) λc2=>
  .cal lV.c (c1.1,167772162,12,()) λc3=>
  .ret ((⟨⟨11,167772161,c3⟩,c2.1⟩:Stac),c2.2)
noncomputable def K2:=cy st ⟨129,Tryz.f129,[],1⟩ [sk,Bx,pW] [] [.wr false [.ptr 0]] [.box [.st .curs]] (λx y=>(y.1.1,())) Fp (λv=>[(true,sI (.o true) (.o true) (.o true) (.o true) (.o true) (.o true) v.1)]) (λx y v=>((v.2,()),())) Tryz.func129 (by kernel_rfl) trivial
noncomputable def Id:FT (Curs×Unit) (Link×Curs) (λx=>ae x.1) (λx v=>d8 v.1∧ae v.2):= .mk λ(y0,_)=>
  .cal sj.c (y0,()) λc1=>
  .ret ((⟨11,167772161,c1.1⟩:Link),c1.2)
noncomputable def ME:=cy st ⟨242,Tryz.f242,[],1⟩ [sk] [] [.wr false [.ptr 0]] [.box [.st .curs]] (λx y=>(y.1.1,())) Id (λv=>[(true,xn (.o true) v.1)]) (λx y v=>((v.2,()),())) Tryz.func242 (by kernel_rfl) trivial
noncomputable def B1:=[sk,aw,eU,aE]
def lI:Sh:=⟨[zp 0 0,zo 3 1],[.box [.st .curs [.sl .any]],za .entr]⟩
noncomputable def BV:Fx:=⟨244,Tryz.f244,[(1,la ⟨[0,3],[],false,1⟩ ⟨[2,3],[],false,1⟩)],1⟩
noncomputable def GJ (a:Curs×List Entr):Tr (Stp (Curs×List Entr) ((Curs×List Entr))):=
 .cal ah.c (a.1,2,()) λc6=>
 .ite (decide ((a.2.length:Int)<(IntKind.wrap .i64 (4+c6.1)))) (.cal ah.c (c6.2,10,()) λc7=>
  .grd (qi a.2 1 24)<|
  .ret (.next (c7.2,(a.2++[(⟨(a.2.length:Int),0,c7.1⟩:Entr)]))))<|
 .ret (.out (c6.2,a.2))
noncomputable def iW:lI.V→LW lI (Curs×List Entr) ((Curs×List Entr)):=λ(v0,v1,_)=>⟨(v0,v1),λa=>(a.1,a.2,()),GJ,Int.toNat (6-(v1.length:Int)),oN (.exit 1) ⟨[zu 2,zo 3 1],[.box [.st .curs [.sl .any]],za .entr]⟩ (λp=>(p.1,p.2,()))⟩
theorem F8:LS Tryz.prog BV [0] (Vk 1 lI iW):=Rf st (aV B1) _ iW [] trivial
theorem Eo {v0:Curs}{v1:List Entr}(h0:ae v0∧sS v1∧v1.length≤8):(iW (v0,v1,())).W (λp=>ae p.1∧sS p.2):=
 Xz (a:=(v0,v1)) (λa=>ae a.1∧sS a.2∧a.2.length≤8) (λa=>Int.toNat (6-(a.2.length:Int))) h0
noncomputable def H3:FT (Curs×Unit) (List Entr×Curs) (λx=>ae x.1) (λx v=>sS v.1∧ae v.2):= .mk (λ(y0,_)=>
  .cal sj.c (y0,()) λc1=>
  .cal ah.c (c1.2,8,()) λc2=>
  .ite (c2.1==0) (.cal cI.c (c2.2,()) λc3=>
   .cal cI.c (c3.2,()) λc4=>
   .cal az.c (c4.2,[0,9,10,(-1)],()) λc5=>
   .grd (qi c1.1 1 24)<|
   .ret ((c1.1++[(⟨c3.1,c4.1,c5.1⟩:Entr)]),c5.2))<|
  .ite (c2.1==1) (.lp (iW (c2.2,c1.1,())).lp λ(p8a0,p8a1)=>
   .ret (p8a1,p8a0))<|
  .ret (c1.1,c2.2)) (pQ @Eo)
noncomputable def Oe:=cy st BV B1 [(Vk 1 lI iW)] [.wr false [.ptr 0]] [.box [.st .curs]] (λx y=>(y.1.1,())) H3 (λv=>[(false,[sc (.o true) .entr v.1])]) (λx y v=>((v.2,()),())) Tryz.func244 (by kernel_rfl) ⟨F8,trivial⟩
noncomputable def HY:FT (Curs×Unit) (Link×Curs) (λx=>ae x.1) (λx v=>d8 v.1∧ae v.2):= .mk λ(y0,_)=>
  .cal Id.c (y0,()) λc1=>
  .cal ah.c (c1.2,10,()) λc2=>
  .ite (c2.1==0) (.cal cI.c (c2.2,()) λc3=>
   .ret (({c1.1 with mac:=c3.1}:Link),c3.2))<|
  .ite (c2.1==1) (.cal cI.c (c2.2,()) λc4=>
   .ret (({c1.1 with ip:=c4.1}:Link),c4.2))<|
  .ite (c2.1==2) (.cal H3.c (c2.2,()) λc5=>
   .ret (({c1.1 with cache:=c5.1}:Link),c5.2))<|
  .ite (c2.1==3) (.ret (({c1.1 with mac:=281474976710655}:Link),c2.2))<|
  .ret (c1.1,c2.2)
noncomputable def LU:=cy st ⟨130,Tryz.f130,[],1⟩ [ME,aw,eU,Oe] [] [.wr false [.ptr 0]] [.box [.st .curs]] (λx y=>(y.1.1,())) HY (λv=>[(true,xn (.o true) v.1)]) (λx y v=>((v.2,()),())) Tryz.func130 (by kernel_rfl) trivial
noncomputable def zK:FT (Curs×Unit) (Int×Curs) (λx=>ae x.1) (λx v=>ae v.2):= .mk λ(y0,_)=>
  .cal az.c (y0,[11,12,13,281474976710655,0,2199023255552],()) λc1=>
  .ret (c1.1,c1.2)
noncomputable def Ic:=cy st ⟨476,Tryz.f476,[],1⟩ [aE] [] [.wr false [.ptr 0]] [.box [.st .curs]] (λx y=>(y.1.1,())) zK (λv=>[(false,[.c (.int .i64 v.1)])]) (λx y v=>((v.2,()),())) Tryz.func476 (by kernel_rfl) trivial
noncomputable def Rb:FT (Curs×Unit) (Arpm×Curs) (λx=>ae x.1) (λx v=>ae v.2):= .mk λ(y0,_)=>
  .cal ah.c (y0,2,()) λc1=>
  .cal zK.c (c1.2,()) λc2=>
  .cal Ap.c (c2.2,()) λc3=>
  .cal zK.c (c3.2,()) λc4=>
  .cal Ap.c (c4.2,()) λc5=>
  .cal ah.c (c5.2,14,()) λc6=>
  .ite (c6.1==0) (.cal ah.c (c6.2,5,()) λc7=>
   .ret ((⟨(IntKind.wrap .i64 (c7.1-1)),c2.1,c3.1,c4.1,c5.1⟩:Arpm),c7.2))<|
  .ite (c6.1==1) (.cal cI.c (c6.2,()) λc8=>
   .ret ((⟨(IntKind.wrap .i64 (1+c1.1)),c8.1,c3.1,c4.1,c5.1⟩:Arpm),c8.2))<|
  .ite (c6.1==2) (.cal cI.c (c6.2,()) λc9=>
   .ret ((⟨(IntKind.wrap .i64 (1+c1.1)),c2.1,c9.1,c4.1,c5.1⟩:Arpm),c9.2))<|
  .ite (c6.1==3) (.cal cI.c (c6.2,()) λc10=>
   .ret ((⟨(IntKind.wrap .i64 (1+c1.1)),c2.1,c3.1,c4.1,c10.1⟩:Arpm),c10.2))<|
  .ret ((⟨(IntKind.wrap .i64 (1+c1.1)),c2.1,c3.1,c4.1,c5.1⟩:Arpm),c6.2)
noncomputable def S6:=cy st ⟨439,Tryz.f439,[],1⟩ [aw,Ic,Gd,eU] [] [.wr false [.ptr 0]] [.box [.st .curs]] (λx y=>(y.1.1,())) Rb (λv=>[(true,ED v.1)]) (λx y v=>((v.2,()),())) Tryz.func439 (by kernel_rfl) trivial
noncomputable def Lv:=[aE,rV,sB,bK,y4]
def tF:An:=⟨⟨[],[],false,1⟩,⟨[0,2,3],[],false,1⟩,⟨[],[]⟩,[(.normal,⟨[zp 0 0,zp 2 1,zp 3 2],[.box [.st .curs [.sl .any]],.box [.st .keys [.nil .macRow,.nil .macRow]],.box [.st .keys [.own 3,.own 4]],zf,zf]⟩),(.normal,⟨[zp 0 0,zp 2 1,zp 3 2],[.box [.st .curs [.sl .any]],.box [.st .keys [.nil .macRow,.nil .macRow]],.box [.st .keys [.own 3,.nil .macRow]],zf]⟩)]⟩
noncomputable def LM:Fx:=⟨356,Tryz.f356,[(1000019,tF)],1⟩
noncomputable def H2:FT (Curs×Unit) (Keys×Curs) (λx=>ae x.1) (λx v=>cE v.1∧ae v.2):=⟨λ(y0,_)=>
  .cal az.c (y0,[0,1,2,30,31,32,33,4294967295],()) λc1=>
  .cal fH.c (c1.2,()) λc2=>
  .cal fH.c (c2.2,()) λc3=>
  .cal m6.c (c2.1,c3.1,()) λc4=>
  .ite (decide (0<c1.1)) (.cal bf.c (c3.2,2,()) λc5=>
   .bnd (β:=WT tF.es) (.ite c5.1 (.cal fH.c (c5.2,()) λc6=>
     .cal fH.c (c6.2,()) λc7=>
     .cal m6.c (c6.1,c7.1,()) λc8=>
     .ret (.inl (c7.2,(⟨0,⟨false,0,0,[]⟩,⟨false,0,0,[]⟩,false⟩:Keys),(⟨c1.1,c4,c8,true⟩:Keys),())))<|
    .ret (.inr ((c5.2,(⟨0,⟨false,0,0,[]⟩,⟨false,0,0,[]⟩,false⟩:Keys),(⟨c1.1,c4,⟨false,0,0,[]⟩,false⟩:Keys),())))) λw9=> .sum w9 (λ(u9a0,_,u9a2,_)=>
   .cal bf.c (u9a0,3,()) λc10=>
   .ite c10.1 (.cal oA.c ([],()) λc11=>
    .ret (({u9a2 with now.use:=c11.use,now.k:=c11.k,now.l:=c11.l,now.rows:=c11.rows}:Keys),c10.2))<|
   .ret (u9a2,c10.2))<|
   λ(u9b0,_,u9b2,_)=>
   .cal bf.c (u9b0,3,()) λc12=>
   .ite c12.1 (.cal oA.c ([],()) λc13=>
    .ret (({u9b2 with now.use:=c13.use,now.k:=c13.k,now.l:=c13.l,now.rows:=c13.rows,before.rows:=[]}:Keys),c12.2))<|
   .ret (({u9b2 with before.rows:=[]}:Keys),c12.2))<|
  .cal bf.c (c3.2,3,()) λc14=>
  .ite c14.1 (.cal oA.c ([],()) λc15=>
   .ret ((⟨c1.1,c15,⟨false,0,0,[]⟩,false⟩:Keys),c14.2))<|
  .ret ((⟨c1.1,c4,⟨false,0,0,[]⟩,false⟩:Keys),c14.2),
 λ(y0,_) hp=>by
  refine Tr.C ?_ λ_ _ _=>Tr.C ?_ λ_ _ _=>Tr.C ?_ λ_ _ _=>Tr.C trivial λ_ _ _=>Tr.I (λ_=>Tr.C ?_ λ_ _ _=>Tr.B (Q':=(Sum.elim (λw=>ae w.1∧cE w.2.1∧cE w.2.2.1) (λw=>ae w.1∧cE w.2.1∧cE w.2.2.1))) (Tr.I (λ_=>Tr.C ?_ λ_ _ _=>Tr.C ?_ λ_ _ _=>Tr.C trivial λ_ _ _=>Tr.R ?_) λ_=>Tr.R ?_) (λ_ _ q9=>Tr.E q9 (λ(u9a0,u9a1,u9a2,_) _=>Tr.C ?_ λ_ _ _=>Tr.I (λ_=>Tr.C ?_ λ_ _ _=>Tr.R ?_) λ_=>Tr.R ?_) (λ(u9b0,u9b1,u9b2,_) _=>Tr.C ?_ λ_ _ _=>Tr.I (λ_=>Tr.C ?_ λ_ _ _=>Tr.R ?_) λ_=>Tr.R ?_))) λ_=>Tr.C ?_ λ_ _ _=>Tr.I (λ_=>Tr.C ?_ λ_ _ _=>Tr.R ?_) λ_=>Tr.R ?_
  all_goals ((try simp only[Tr.nice,jy]at*)<;>first|grind|(simp only[sS,List.length_cons,List.length_nil];grind))⟩
noncomputable def MD:=cy st LM Lv [] [.wr false [.ptr 0]] [.box [.st .curs]] (λx y=>(y.1.1,())) H2 (λv=>[(true,Ao (.o true) (.o true) v.1)]) (λx y v=>((v.2,()),())) Tryz.func356 (by kernel_rfl) trivial
noncomputable def IJ:FT (Curs×Unit) (Fram×Curs) (λx=>ae x.1) (λx v=>mt v.1∧ae v.2):= .mk λ(y0,_)=>
  .cal zK.c (y0,()) λc1=>
  .cal zK.c (c1.2,()) λc2=>
  .cal az.c (c2.2,[2048,2054,1536,65535],()) λc3=>
  .cal ah.c (c3.2,6,()) λc4=>
  .cal ig.c (c4.2,c4.1,()) λc5=>
  .cal ah.c (c5.2,12,()) λc6=>
  .ite (c6.1==0) (.cal cI.c (c6.2,()) λc7=>
   .ret ((⟨c7.1,c2.1,c3.1,(aA c5.1)⟩:Fram),c7.2))<|
  .ite (c6.1==1) (.cal cI.c (c6.2,()) λc8=>
   .ret ((⟨c1.1,c8.1,c3.1,(aA c5.1)⟩:Fram),c8.2))<|
  .ite (c6.1==2) (.cal az.c (c6.2,[0,1535,65536,(-1)],()) λc9=>
   .ret ((⟨c1.1,c2.1,c9.1,(aA c5.1)⟩:Fram),c9.2))<|
  .ite (c6.1==3) (.cal ah.c (c6.2,4,()) λc10=>
   .cal tY.c ((IntKind.wrap .i64 (1584+c10.1)),()) λc11=>
   .ret ((⟨c1.1,c2.1,c3.1,c11⟩:Fram),c10.2))<|
  .ret ((⟨c1.1,c2.1,c3.1,(aA c5.1)⟩:Fram),c6.2)
noncomputable def L6:=cy st ⟨440,Tryz.f440,[],1⟩ [Ic,aE,aw,gE,eU,sx] [] [.wr false [.ptr 0]] [.box [.st .curs]] (λx y=>(y.1.1,())) IJ (λv=>[(true,QL v.1)]) (λx y v=>((v.2,()),())) Tryz.func440 (by kernel_rfl) trivial
noncomputable def EX:FT (Curs×Unit) (Pack×Curs) (λx=>ae x.1) (λx v=>gT v.1∧ae v.2):= .mk λ(y0,_)=>
  .cal Ap.c (y0,()) λc1=>
  .cal Ap.c (c1.2,()) λc2=>
  .cal ah.c (c2.2,64,()) λc3=>
  .cal az.c (c3.2,[6,6,17,0],()) λc4=>
  .cal ah.c (c4.2,65536,()) λc5=>
  .cal ah.c (c5.2,8,()) λc6=>
  .cal ig.c (c6.2,c6.1,()) λc7=>
  .cal ah.c (c7.2,14,()) λc8=>
  .ite (c8.1==0) (.cal cI.c (c8.2,()) λc9=>
   .ret ((⟨c9.1,c2.1,(IntKind.wrap .i64 (1+c3.1)),c4.1,c5.1,(aA c7.1)⟩:Pack),c9.2))<|
  .ite (c8.1==1) (.cal az.c (c8.2,[0,255,256],()) λc10=>
   .ret ((⟨c1.1,c2.1,c10.1,c4.1,c5.1,(aA c7.1)⟩:Pack),c10.2))<|
  .ite (c8.1==2) (.cal ah.c (c8.2,3,()) λc11=>
   .cal tY.c ((IntKind.wrap .i64 (1479+c11.1)),()) λc12=>
   .ret ((⟨c1.1,c2.1,(IntKind.wrap .i64 (1+c3.1)),c4.1,c5.1,c12⟩:Pack),c11.2))<|
  .ite (c8.1==3) (.cal cI.c (c8.2,()) λc13=>
   .ret ((⟨c1.1,c2.1,(IntKind.wrap .i64 (1+c3.1)),c4.1,c13.1,(aA c7.1)⟩:Pack),c13.2))<|
  .ret ((⟨c1.1,c2.1,(IntKind.wrap .i64 (1+c3.1)),c4.1,c5.1,(aA c7.1)⟩:Pack),c8.2)
noncomputable def Lh:=cy st ⟨441,Tryz.f441,[],1⟩ [Gd,aw,aE,gE,eU,sx] [] [.wr false [.ptr 0]] [.box [.st .curs]] (λx y=>(y.1.1,())) EX (λv=>[(true,uJ v.1)]) (λx y v=>((v.2,()),())) Tryz.func441 (by kernel_rfl) trivial
noncomputable def x7:FT (Curs×List ac×Unit) (ac×Curs) (λx=>ae x.1∧sL sS x.2.1∧0<x.2.1.length) (λx v=>sS v.1∧ae v.2∧(cY (λb:ac=>b.length≤64) x.2.1→v.1.length≤64)):=⟨λ(y0,x1,_)=>
  .cal ah.c (y0,(x1.length:Int),()) λc1=>
  .grd (dr x1 c1.1)<|
  .ret ((x1.getD c1.1.toNat []),c1.2),
 λ(y0,x1,_) hp=>by
  refine Tr.C ?_ λc1 hc1 qc1=>Tr.G2 ?_ λg0=>Tr.R ?_
  all_goals ((first|grind|(refine⟨by grind,by grind,λhn=> ?_⟩;exact cr (p:=λb:ac=>b.length≤64) hn (Nat.zero_le _) _)))⟩
noncomputable def xG:=cy st ⟨369,Tryz.f369,[],1⟩ [aw] [] [.wr false [.ptr 0],.sc (.sl .str)] [.box [.st .curs]] (λx y=>(y.1.1,x.2.1,())) x7 (λv=>[(false,[.c (.str v.1)])]) (λx y v=>((v.2,()),())) Tryz.func369 (by kernel_rfl) trivial
noncomputable def Ch:=[aw,xG,aE,bK,tS]
def k9:Sh:=⟨[zp 0 0,zo 3 1,zi 4,zi 5],[.box [.st .curs [.sl .any]],za .macRow]⟩
noncomputable def B5:Fx:=⟨254,Tryz.f254,[(0,la ⟨[0,3,4,5],[],false,1⟩ ⟨[0,2,3,4],[],false,1⟩)],1⟩
noncomputable def EE (v1:Int)(a:Curs×List MacRow):Tr (Stp (Curs×List MacRow) (Empty)):=
 .cal x7.c (a.1,[[],[97],[98],[99,100],[97]],()) λc2=>
 .cal ah.c (c2.2,16777216,()) λc3=>
 .cal az.c (c3.2,[0,1,5,16777215,c3.1],()) λc4=>
 .grd (qi a.2 1 24)<|
 .ret (.next (c4.2,(a.2++[(⟨c2.1,c4.1⟩:MacRow)])))
noncomputable def gh:k9.V→sD k9 (Curs×List MacRow):=λ(v0,v1,v2,v3,_)=>⟨v1,(v2,v3),λv1 a=>(v0,v1,a.1,a.2,()),λv1 _=>(decide (v1<v0)),EE,up,1,(Int.toNat (v0-v1)),Empty.elim,Prod.mk,oN (.exit 0) ⟨[zp 0 0,zu 2,zo 3 1,zi 4],[.box [.st .curs [.sl .any]],za .macRow]⟩ (λx=>(v0,x.2.1,x.2.2,()))⟩
theorem Fd:LS Tryz.prog B5 [0] (jz 0 k9 gh):=eB st (aV Ch) _ gh [] trivial
theorem E7 {v0 v1:Int}{v2:Curs}{v3:List MacRow}(h0:0≤v1)(h1:v0≤4611686018427387904)(h2:v0≤4294967296)(h3:ae v2∧(v3.length:Int)=v1∧cY bA v3):(gh (v0,v1,v2,v3,())).U v0 (λv1 a=>ae a.1∧(a.2.length:Int)=v1∧cY bA a.2) (λ_=>True):=
 kN (a:=(v2,v3)) h0 h1 h3
noncomputable def AM:FT (Curs×Unit) (List MacRow×Curs) (λx=>ae x.1) (λx v=>sL bA v.1∧ae v.2):=⟨λ(y0,_)=>
  .cal ah.c (y0,5,()) λc1=>
  .lp (gh (c1.1,0,c1.2,[],())).lp λ(_,a5_0,a5_1)=>
  .ite (decide (0<c1.1)) (.cal bf.c (a5_0,6,()) λc6=>
   .ite c6.1 (.cal vX.c (c6.2,()) λc7=>
    .grd (decide (0<(a5_1.length:Int)))<|
    .ret ((a5_1.set 0 (⟨(a5_1.getD 0 (Ty.zero .macRow)).input,c7.1⟩:MacRow)),c7.2))<|
   .ret (a5_1,c6.2))<|
  .ret (a5_1,a5_0),
 λ(y0,_) hp=>by
  refine Tr.C ?_ λ_ _ _=>Tr.L (E7 ?_ ?_ ?_ ?_) (λ(a5_0,a5_1) _=>Tr.I (λ_=>Tr.C ?_ λ_ _ _=>Tr.I (λ_=>Tr.C ?_ λ_ _ _=>Tr.G1 ?_ λ_=>Tr.R ?_) λ_=>Tr.R ?_) λ_=>Tr.R ?_) (λp=>Empty.elim p)
  all_goals ((try simp only[gh,LC.lp,LC.ct,Ct.lp]at*)<;>grind)⟩
noncomputable def NB:=cy st B5 Ch [(jz 0 k9 gh)] [.wr false [.ptr 0]] [.box [.st .curs]] (λx y=>(y.1.1,())) AM (λv=>[(false,[sc (.o true) .macRow v.1])]) (λx y v=>((v.2,()),())) Tryz.func254 (by kernel_rfl) ⟨Fd,trivial⟩
noncomputable def yk:FT (Curs×Unit) (Mac×Curs) (λx=>ae x.1) (λx v=>dF v.1∧ae v.2):= .mk λ(y0,_)=>
  .cal bf.c (y0,2,()) λc1=>
  .ite c1.1 (.cal AM.c (c1.2,()) λc2=>
   .cal oA.c (c2.1,()) λc3=>
   .ret (c3,c2.2))<|
  .cal fH.c (c1.2,()) λc4=>
  .cal fH.c (c4.2,()) λc5=>
  .cal m6.c (c4.1,c5.1,()) λc6=>
  .cal ah.c (c5.2,10,()) λc7=>
  .ite (c7.1==0) (.ret (({c6 with use:=true}:Mac),c7.2))<|
  .ite (c7.1==1) (.cal AM.c (c7.2,()) λc8=>
   .ret (({c6 with rows:=c8.1}:Mac),c8.2))<|
  .ret (c6,c7.2)
noncomputable def DK:=cy st ⟨135,Tryz.f135,[],1⟩ [bK,NB,y4,rV,sB,aw] [] [.wr false [.ptr 0]] [.box [.st .curs]] (λx y=>(y.1.1,())) yk (λv=>[(true,DT (.o true) v.1)]) (λx y v=>((v.2,()),())) Tryz.func135 (by kernel_rfl) trivial
noncomputable def H9:FT (Curs×Unit) (Keys×Curs) (λx=>ae x.1) (λx v=>cE v.1∧ae v.2):= .mk λ(y0,_)=>
  .cal H2.c (y0,()) λc1=>
  .cal ah.c (c1.2,10,()) λc2=>
  .ite (c2.1==0) (.cal az.c (c2.2,[(-1),0,4294967296],()) λc3=>
   .ret (({c1.1 with epoch:=c3.1}:Keys),c3.2))<|
  .ite (c2.1==1) (.ret (({c1.1 with two:=(!c1.1.two)}:Keys),c2.2))<|
  .ite (c2.1==2) (.cal yk.c (c2.2,()) λc4=>
   .ret (({c1.1 with now.use:=c4.1.use,now.k:=c4.1.k,now.l:=c4.1.l,now.rows:=c4.1.rows}:Keys),c4.2))<|
  .ite (c2.1==3) (.cal yk.c (c2.2,()) λc5=>
   .ret (({c1.1 with before.use:=c5.1.use,before.k:=c5.1.k,before.l:=c5.1.l,before.rows:=c5.1.rows}:Keys),c5.2))<|
  .ret (c1.1,c2.2)
noncomputable def M0:=cy st ⟨245,Tryz.f245,[],1⟩ [MD,aw,aE,DK] [] [.wr false [.ptr 0]] [.box [.st .curs]] (λx y=>(y.1.1,())) H9 (λv=>[(true,Ao (.o true) (.o true) v.1)]) (λx y v=>((v.2,()),())) Tryz.func245 (by kernel_rfl) trivial
noncomputable def rQ:FT (Curs×ac×List ac×Unit) (ac×Curs) (λx=>ae x.1∧sS x.2.1∧sL sS x.2.2.1∧x.2.1.length≤65536∧0<x.2.2.1.length∧cY (λb:ac=>b.length≤64) x.2.2.1) (λx v=>sS v.1∧ae v.2∧v.1.length≤131072):= .mk λ(y0,x1,x2,_)=>
  .cal ah.c (y0,(IntKind.wrap .i64 ((x1.length:Int)+1)),()) λc1=>
  .cal ah.c (c1.2,6,()) λc2=>
  .ite (c2.1==0) (.grd ((decide (0≤c1.1))&&(decide (c1.1≤(x1.length:Int))))<|
   .cal x7.c (c2.2,x2,()) λc3=>
   .grd (Nat.ble (((x1.take c1.1.toNat).drop 0).length+c3.1.length) ao)<|
   .grd (Rg x1 c1.1 (x1.length:Int))<|
   .grd (Nat.ble ((((x1.take c1.1.toNat).drop 0)++c3.1).length+((x1.take ((x1.length:Int).toNat)).drop c1.1.toNat).length) ao)<|
   .val ((((x1.take c1.1.toNat).drop 0)++c3.1)++((x1.take ((x1.length:Int).toNat)).drop c1.1.toNat)) λe4=>
   .ret (e4,c3.2))<|
  .ite (c2.1==1) (.grd ((decide (0≤c1.1))&&(decide (c1.1≤(x1.length:Int))))<|
   .ret (((x1.take c1.1.toNat).drop 0),c2.2))<|
  .ret (x1,c2.2)
noncomputable def yj:=cy st ⟨366,Tryz.f366,[],1⟩ [aw,xG] [] [.wr false [.ptr 0],.sc .str,.sc (.sl .str)] [.box [.st .curs]] (λx y=>(y.1.1,x.2.1,x.2.2.1,())) rQ (λv=>[(false,[.c (.str v.1)])]) (λx y v=>((v.2,()),())) Tryz.func366 (by kernel_rfl) trivial
noncomputable def EZ:FT (Curs×ac×Unit) (ac×Curs) (λx=>ae x.1∧sS x.2.1∧x.2.1.length≤65536) (λx v=>sS v.1∧ae v.2∧v.1.length≤131072):=⟨λ(y0,x1,_)=>
  .ite (decide ((x1.length:Int)<20)) (.cal rQ.c (y0,x1,[[0],[69],[120]],()) λc1=>
   .ret (c1.1,c1.2))<|
  .cal bf.c (y0,3,()) λc2=>
  .ite c2.1 (.cal rQ.c (c2.2,x1,[[0],[69],[120]],()) λc3=>
   .ret (c3.1,c3.2))<|
  .grd (Nat.ble x1.length bj)<|
  .cal az.c (c2.2,[0,1,2,3,6,7,8,10,19],()) λc4=>
  .cal az.c (c4.2,[0,64,32,69,70,1,255],()) λc5=>
  .grd (dr (dB x1) c4.1)<|
  .cal bf.c (c5.2,4,()) λc6=>
  .ite c6.1 (.ret ((aA ((dB x1).set c4.1.toNat (IntKind.wrap .u8 c5.1))),c6.2))<|
  .grd (decide (10<(((dB x1).set c4.1.toNat (IntKind.wrap .u8 c5.1)).length:Int)))<|
  .grd (decide (11<((((dB x1).set c4.1.toNat (IntKind.wrap .u8 c5.1)).set 10 0).length:Int)))<|
  .grd (decide (20≤(((((dB x1).set c4.1.toNat (IntKind.wrap .u8 c5.1)).set 10 0).set 11 0).length:Int)))<|
  .val (aA ((((((dB x1).set c4.1.toNat (IntKind.wrap .u8 c5.1)).set 10 0).set 11 0).take 20).drop 0)) λe7=>
  .cal qe.c (e7,()) λc8=>
  .grd (decide (10<(((((dB x1).set c4.1.toNat (IntKind.wrap .u8 c5.1)).set 10 0).set 11 0).length:Int)))<|
  .val (((((dB x1).set c4.1.toNat (IntKind.wrap .u8 c5.1)).set 10 0).set 11 0).set 10 (IntKind.wrap .u8 (IntKind.wrap .i64 (c8.tdiv 256)))) λl9=>
  .grd (decide (11<(l9.length:Int)))<|
  .ret ((aA (l9.set 11 (IntKind.wrap .u8 (c8.tmod 256)))),c6.2),
 λ(y0,x1,_) hp=>by
  refine Tr.I (λb0=>Tr.C ?_ λc1 hc1 qc1=>Tr.R ?_) λb0=>Tr.C ?_ λc2 hc2 qc2=>Tr.I (λb1=>Tr.C ?_ λc3 hc3 qc3=>Tr.R ?_) λb1=>Tr.Gb ?_ λg2=>Tr.C ?_ λc4 hc4 qc4=>Tr.C ?_ λc5 hc5 qc5=>Tr.G2 ?_ λg3=>Tr.C ?_ λc6 hc6 qc6=>Tr.I (λb4=>Tr.R ?_) λb4=>Tr.G1 ?_ λg5=>Tr.G1 ?_ λg6=>Tr.G1 ?_ λg7=>Tr.V λe7 he7=>Tr.C ?_ λc8 hc8 qc8=>Tr.G1 ?_ λg8=>Tr.V λl9 hl9=>Tr.G1 ?_ λg9=>Tr.R ?_
  all_goals ((first|grind|(simp only[sS,List.length_cons,List.length_nil];grind)|(have h1:=qc4.2.2 (by simp[cY]);first|grind|(simp only[sS,List.length_cons,List.length_nil];grind))))⟩
noncomputable def JY:=cy st ⟨448,Tryz.f448,[],1⟩ [bK,yj,aE,vL] [] [.wr false [.ptr 0],.sc .str] [.box [.st .curs]] (λx y=>(y.1.1,x.2.1,())) EZ (λv=>[(false,[.c (.str v.1)])]) (λx y v=>((v.2,()),())) Tryz.func448 (by kernel_rfl) trivial
noncomputable def uO:FT (Curs×ac×Unit) (ac×Curs) (λx=>ae x.1∧sS x.2.1∧x.2.1.length≤65536) (λx v=>sS v.1∧ae v.2∧v.1.length≤131072):= .mk λ(y0,x1,_)=>
  .cal bf.c (y0,5,()) λc1=>
  .ite c1.1 (.cal EZ.c (c1.2,x1,()) λc2=>
   .ret (c2.1,c2.2))<|
  .ret (x1,c1.2)
noncomputable def wP:=cy st ⟨368,Tryz.f368,[],1⟩ [bK,JY] [] [.wr false [.ptr 0],.sc .str] [.box [.st .curs]] (λx y=>(y.1.1,x.2.1,())) uO (λv=>[(false,[.c (.str v.1)])]) (λx y v=>((v.2,()),())) Tryz.func368 (by kernel_rfl) trivial
noncomputable def QQ:=[aE,aw,S6,bK,uQ,jC,L6,gE,Lh,pn,wP]
def Fc:An:=⟨⟨[],[],false,1⟩,⟨[0,2,3,4,5],[],false,1⟩,⟨[],[]⟩,[(.normal,⟨[zp 0 0,zs 2,zi 3,zi 4,zp 5 1],[.box [.st .curs [.sl .any]],zx .arpm]⟩)]⟩
def GM:An:=⟨⟨[],[],false,1⟩,⟨[0,2,3,4,6],[],false,1⟩,⟨[],[]⟩,[(.normal,⟨[zp 0 0,zs 2,zi 3,zi 4,zp 6 1],[.box [.st .curs [.sl .any]],zx .pack]⟩)]⟩
noncomputable def Qp:Fx:=⟨363,Tryz.f363,[(1000020,Fc),(1000044,GM)],1⟩
noncomputable def OA:FT (Curs×Unit) (ac×Curs) (λx=>ae x.1) (λx v=>sS v.1∧ae v.2):= .mk λ(y0,_)=>
  .cal az.c (y0,[11,11,11,281474976710655,12],()) λc1=>
  .cal az.c (c1.2,[12,13],()) λc2=>
  .cal ah.c (c2.2,4,()) λc3=>
  .ite (c3.1==0) (.cal Rb.c (c3.2,()) λc4=>
   .cal bf.c (c4.2,2,()) λc5=>
   .bnd (β:=ac×Int×Int×Curs×Arpm×Unit) (.as (λw=>sS w.1∧ae w.2.2.2.1) (.ite c5.1 (.ret ([],c1.1,c2.1,c5.2,(⟨1,c2.1,167772162,0,167772161⟩:Arpm),()))<|
    .ret ([],c1.1,c2.1,c5.2,c4.1,()))) λ(_,u6a1,u6a2,u6a3,u6a4,_)=>
   .cal n9.c (u6a4,()) λc7=>
   .cal eK.c ((⟨u6a1,u6a2,2054,c7⟩:Fram),()) λc8=>
   .ret (c8,u6a3))<|
  .ite (c3.1==1) (.cal IJ.c (c3.2,()) λc9=>
   .cal eK.c (c9.1,()) λc10=>
   .ret (c10,c9.2))<|
  .cal ah.c (c3.2,2,()) λc11=>
  .cal ah.c (c11.2,4,()) λc12=>
  .cal ig.c (c12.2,c12.1,()) λc13=>
  .cal bf.c (c13.2,4,()) λc14=>
  .bnd (β:=ac×Int×Int×Curs×Pack×Unit) (.as (λw=>sS w.1∧ae w.2.2.2.1∧gT w.2.2.2.2.1) (.ite c14.1 (.cal EX.c (c14.2,()) λc15=>
    .ret ([],c1.1,c2.1,c15.2,c15.1,()))<|
   .ret ([],c1.1,c2.1,c14.2,(⟨(IntKind.wrap .i64 (167772162+c11.1)),167772161,9,6,0,(aA c13.1)⟩:Pack),()))) λ(_,u16a1,u16a2,u16a3,u16a4,_)=>
  .cal jo.c (u16a4,()) λc17=>
  .cal uO.c (u16a3,c17,()) λc18=>
  .cal eK.c ((⟨u16a1,u16a2,2048,c18.1⟩:Fram),()) λc19=>
  .ret (c19,c18.2)
noncomputable def QI:=cy st Qp QQ [] [.wr false [.ptr 0]] [.box [.st .curs]] (λx y=>(y.1.1,())) OA (λv=>[(false,[.c (.str v.1)])]) (λx y v=>((v.2,()),())) Tryz.func363 (by kernel_rfl) trivial
noncomputable def qJ:FT (Curs×Unit) (Half×Curs) (λx=>ae x.1) (λx v=>ae v.2):= .mk λ(y0,_)=>
  .cal lR.c (y0,()) λc1=>
  .cal i2.c (c1.2,()) λc2=>
  .cal i2.c (c2.2,()) λc3=>
  .cal mT.c (c3.2,()) λc4=>
  .cal ah.c (c4.2,7,()) λc5=>
  .cal az.c (c5.2,[0,64,65535],()) λc6=>
  .ret ((⟨c1.1,c2.1,c3.1,c4.1,c5.1,c6.1⟩:Half),c6.2)
noncomputable def Bv:=cy st ⟨358,Tryz.f358,[],1⟩ [ly,ko,mE,aw,aE] [] [.wr false [.ptr 0]] [.box [.st .curs]] (λx y=>(y.1.1,())) qJ (λv=>[(true,WZ v.1)]) (λx y v=>((v.2,()),())) Tryz.func358 (by kernel_rfl) trivial
noncomputable def Cd:=[aw,Bv,Bd]
def ld:Sh:=⟨[zp 0 0,zo 3 1,zi 4,zi 5],[.box [.st .curs [.sl .any]],za .half]⟩
noncomputable def BS:Fx:=⟨357,Tryz.f357,[(0,la ⟨[0,3,4,5],[],false,1⟩ ⟨[2,3],[],false,1⟩)],1⟩
noncomputable def D8 (v1:Int)(a:Curs×List Half):Tr (Stp (Curs×List Half) (Empty)):=
 .cal qJ.c (a.1,()) λc2=>
 .cal qI.c (a.2,c2.1,64,()) λc3=>
 .ret (.next (c2.2,c3.1))
noncomputable def gj:ld.V→sD ld (Curs×List Half):=λ(v0,v1,v2,v3,_)=>⟨v1,(v2,v3),λv1 a=>(v0,v1,a.1,a.2,()),λv1 _=>(decide (v1<v0)),D8,up,1,(Int.toNat (v0-v1)),Empty.elim,Prod.mk,oN (.exit 0) ⟨[zu 2,zo 3 1],[.box [.st .curs [.sl .any]],za .half]⟩ (λx=>(x.2.1,x.2.2,()))⟩
theorem Ej:LS Tryz.prog BS [0] (jz 0 ld gj):=eB st (aV Cd) _ gj [] trivial
theorem DX {v0 v1:Int}{v2:Curs}{v3:List Half}(h0:0≤v1)(h1:v0≤4611686018427387904)(h2:ae v2∧sS v3∧(v3.length:Int)≤v1):(gj (v0,v1,v2,v3,())).U v0 (λv1 a=>ae a.1∧sS a.2∧(a.2.length:Int)≤v1) (λ_=>True):=
 kN (a:=(v2,v3)) h0 h1 h2
noncomputable def I6:FT (Curs×Unit) (List Half×Curs) (λx=>ae x.1) (λx v=>sS v.1∧ae v.2∧(v.1.length:Int)≤5):=⟨λ(y0,_)=>
  .cal ah.c (y0,5,()) λc1=>
  .lp (gj (c1.1,0,c1.2,[],())).lp λ(_,a4_0,a4_1)=>
  .ret (a4_1,a4_0),
 λ(y0,_) hp=>by
  refine Tr.C ?_ λ_ _ _=>Tr.L (DX ?_ ?_ ?_) (λ(a4_0,a4_1) _=>Tr.R ?_) (λp=>Empty.elim p)
  all_goals ((try simp only[gj,LC.lp,LC.ct,Ct.lp]at*)<;>grind)⟩
noncomputable def MG:=cy st BS Cd [(jz 0 ld gj)] [.wr false [.ptr 0]] [.box [.st .curs]] (λx y=>(y.1.1,())) I6 (λv=>[(false,[sc (.o true) .half v.1])]) (λx y v=>((v.2,()),())) Tryz.func357 (by kernel_rfl) ⟨Ej,trivial⟩
noncomputable def wT:=[aw,fP,bK,gE,cP]
def je:Sh:=⟨[zp 0 0,zp 3 1,zi 7,zi 8,zo 9 2,zi 10],[.box [.st .curs [.sl .any]],zg .recv,za .u8]⟩
def zH:An:=⟨⟨[],[],false,1⟩,⟨[0,3,4,5,6,7,9],[],false,1⟩,⟨[],[]⟩,[(.normal,⟨[zp 0 0,zp 3 1,zu 4,zu 5,zu 6,zi 7,zo 9 2],[.box [.st .curs [.sl .any]],zg .recv,za .u8]⟩)]⟩
noncomputable def wZ:Fx:=⟨444,Tryz.f444,[(0,la ⟨[0,3,7,8,9,10],[],false,1⟩ ⟨[0,3,4,5,6,7,8,9],[],false,1⟩),(1000036,zH)],1⟩
noncomputable def Aq (v0:Int)(v4:Recv)(v2:Int)(a:List Int):Tr (Stp (List Int) (Empty)):=
 .val (bJ.f ((IntKind.wrap .i64 ((IntKind.wrap .i64 (v4.next+v0))+v2)),())) λc3=>
 .grd (qi a 1 1)<|
 .ret (.next (a++[(IntKind.wrap .u8 (IntKind.wrap .i64 (97+(c3.tmod 26))))]))
noncomputable def eO:je.V→sD je (List Int):=λ(v0,v1,v2,v3,v4,v5,_)=>⟨v2,v5,λv2 a=>(v0,v1,v2,v3,v4,a,()),λv2 _=>(decide (v2<v1)),Aq v0 v4,up,1,(Int.toNat (v1-v2)),Empty.elim,Prod.mk,oN (.exit 0) ⟨[zp 0 0,zp 3 1,zu 4,zu 5,zu 6,zi 7,zi 8,zo 9 2],[.box [.st .curs [.sl .any]],zg .recv,za .u8]⟩ (λx=>(v0,v1,v3,v4,x.2,()))⟩
theorem AY:LS Tryz.prog wZ [0] (jz 0 je eO):=eB st (aV wT) _ eO [] trivial
theorem Aw {v0 v1 v2:Int}{v3:Curs}{v4:Recv}{v5:List Int}(h0:0≤v2)(h1:v1≤4611686018427387904)(h2:aZ v4)(h3:v1≤4294967296)(h4:(v5.length:Int)=v2):(eO (v0,v1,v2,v3,v4,v5,())).U v1 (λv2 a=>(a.length:Int)=v2) (λ_=>True):=
 kN (a:=v5) h0 h1 h4
noncomputable def uc:FT (Curs×Recv×Unit) (Int×ac×Bool×Curs) (λx=>ae x.1∧aZ x.2.1) (λx v=>sS v.2.1∧ae v.2.2.2):=⟨λ(y0,x1,_)=>
  .cal ah.c (y0,40,()) λc1=>
  .cal ah.c (c1.2,9,()) λc2=>
  .lp (eO ((IntKind.wrap .i64 (c1.1-6)),c2.1,0,c2.2,x1,[],())).lp λ(_,a4_0)=>
  .cal bf.c (c2.2,6,()) λc5=>
  .bnd (β:=Int×Curs×Recv×List Int×Unit) (.ite c5.1 (.cal ig.c (c5.2,c2.1,()) λc6=>
    .ret ((IntKind.wrap .i64 (c1.1-6)),c6.2,x1,c6.1,()))<|
   .ret ((IntKind.wrap .i64 (c1.1-6)),c5.2,x1,a4_0,())) λ(u7a0,u7a1,u7a2,u7a3,_)=>
  .val (bH.f (u7a2.next,u7a0,())) λc8=>
  .cal bf.c (u7a1,6,()) λc9=>
  .ret (c8,(aA u7a3),c9.1,c9.2),
 λ(y0,x1,_) hp=>by
  refine Tr.C ?_ λ_ _ _=>Tr.C ?_ λ_ _ _=>Tr.L (Aw ?_ ?_ ?_ ?_ ?_) (λa4_0 _=>Tr.C ?_ λ_ _ _=>Tr.B (Q':=λw=>ae w.2.1∧aZ w.2.2.1∧sS w.2.2.2.1) (Tr.I (λ_=>Tr.C ?_ λ_ _ _=>Tr.R ?_) λ_=>Tr.R ?_) (λ(u7a0,u7a1,u7a2,u7a3,_) _ _=>Tr.V λ_ _=>Tr.C ?_ λ_ _ _=>Tr.R ?_)) (λp=>Empty.elim p)
  all_goals ((try simp only[eO,LC.lp,LC.ct,Ct.lp,Tr.nice,jy]at*)<;>grind)⟩
noncomputable def wv:=cy st wZ wT [(jz 0 je eO)] [.wr false [.ptr 0],.st .recv] [.box [.st .curs]] (λx y=>(y.1.1,x.2.1,())) uc (λv=>[(false,[.c (.int .i64 v.1)]),(false,[.c (.str v.2.1)]),(false,[.c (.bool v.2.2.1)])]) (λx y v=>((v.2.2.2,()),())) Tryz.func444 (by kernel_rfl) ⟨AY,trivial⟩
noncomputable def GI:FT (Curs×Unit) (Opti×Curs) (λx=>ae x.1) (λx v=>ae v.2):= .mk λ(y0,_)=>
  .cal mT.c (y0,()) λc1=>
  .cal ah.c (c1.2,10,()) λc2=>
  .ite (c2.1==0) (.cal cI.c (c2.2,()) λc3=>
   .ret (({c1.1 with mss:=c3.1}:Opti),c3.2))<|
  .ite (c2.1==1) (.cal az.c (c2.2,[(-2),(-1),14,15],()) λc4=>
   .ret (({c1.1 with scale:=c4.1}:Opti),c4.2))<|
  .ite (c2.1==2) (.ret (({c1.1 with stamp:=(!c1.1.stamp)}:Opti),c2.2))<|
  .ite (c2.1==3) (.cal cI.c (c2.2,()) λc5=>
   .ret (({c1.1 with val:=c5.1}:Opti),c5.2))<|
  .ret (c1.1,c2.2)
noncomputable def FM:=cy st ⟨359,Tryz.f359,[],1⟩ [mE,aw,eU,aE] [] [.wr false [.ptr 0]] [.box [.st .curs]] (λx y=>(y.1.1,())) GI (λv=>[(true,ml v.1)]) (λx y v=>((v.2,()),())) Tryz.func359 (by kernel_rfl) trivial
noncomputable def Il:FT (Curs×Unit) (List Half×Curs) (λx=>ae x.1) (λx v=>sS v.1∧ae v.2):=⟨λ(y0,_)=>
  .cal I6.c (y0,()) λc1=>
  .cal ah.c (c1.2,8,()) λc2=>
  .ite (c2.1==0) (.cal qJ.c (c2.2,()) λc3=>
   .cal az.c (c3.2,[(-1),6,7],()) λc4=>
   .grd (qi c1.1 1 96)<|
   .ret ((c1.1++[({c3.1 with age:=c4.1}:Half)]),c4.2))<|
  .ite (c2.1==1) (.cal qJ.c (c2.2,()) λc5=>
   .cal vD.c (c5.2,()) λc6=>
   .cal cI.c (c6.2,()) λc7=>
   .grd (qi c1.1 1 96)<|
   .val (c1.1++[({c5.1 with tuple.ip:=c6.1.ip,tuple.port:=c6.1.port,tuple.my:=c6.1.my,iss:=c7.1}:Half)]) λl8=>
   .ret (l8,c7.2))<|
  .ite (c2.1==2) (.cal qJ.c (c2.2,()) λc9=>
   .cal GI.c (c9.2,()) λc10=>
   .grd (qi c1.1 1 96)<|
   .val (c1.1++[({c9.1 with opts.mss:=c10.1.mss,opts.scale:=c10.1.scale,opts.sack:=c10.1.sack,opts.stamp:=c10.1.stamp,opts.val:=c10.1.val,opts.echo:=c10.1.echo}:Half)]) λl11=>
   .ret (l11,c10.2))<|
  .ret (c1.1,c2.2),
 λ(y0,_) hp=>by
  refine Tr.C ?_ λc1 hc1 qc1=>Tr.C ?_ λc2 hc2 qc2=>Tr.I (λb0=>Tr.C ?_ λc3 hc3 qc3=>Tr.C ?_ λc4 hc4 qc4=>Tr.Gb ?_ λg1=>Tr.R ?_) λb0=>Tr.I (λb1=>Tr.C ?_ λc5 hc5 qc5=>Tr.C ?_ λc6 hc6 qc6=>Tr.C ?_ λc7 hc7 qc7=>Tr.Gb ?_ λg2=>Tr.V λl8 hl8=>Tr.R ?_) λb1=>Tr.I (λb2=>Tr.C ?_ λc9 hc9 qc9=>Tr.C ?_ λc10 hc10 qc10=>Tr.Gb ?_ λg3=>Tr.V λl11 hl11=>Tr.R ?_) λb2=>Tr.R ?_
  all_goals ((first|grind|(refine⟨?_,by grind⟩;have hl:∀v:List Half×Curs,v.1.length≤5→∀h:Half,sS (v.1++[h]):=λv hv h=>(by simp only[sS,List.length_append,List.length_cons,List.length_nil];omega);subst_vars;apply hl;grind)))⟩
noncomputable def MH:=cy st ⟨246,Tryz.f246,[],1⟩ [MG,aw,Bv,aE,uq,eU,FM] [] [.wr false [.ptr 0]] [.box [.st .curs]] (λx y=>(y.1.1,())) Il (λv=>[(false,[sc (.o true) .half v.1])]) (λx y v=>((v.2,()),())) Tryz.func246 (by kernel_rfl) trivial
noncomputable def HZ:FT (Curs×Unit) (Int×Curs) (λx=>ae x.1) (λx v=>ae v.2):=⟨λ(y0,_)=>
  .cal ah.c (y0,64,()) λc1=>
  .cal az.c (c1.2,[2,16,16,18,24,17,4,20,0,c1.1],()) λc2=>
  .ret (c2.1,c2.2),
 λ(y0,_) hp=>by
  refine Tr.C ?_ λ_ _ _=>Tr.C ?_ λ_ _ _=>Tr.R ?_
  all_goals (first|grind|(simp only[sS,List.length_cons,List.length_nil];grind))⟩
noncomputable def Ok:=cy st ⟨446,Tryz.f446,[],1⟩ [aw,aE] [] [.wr false [.ptr 0]] [.box [.st .curs]] (λx y=>(y.1.1,())) HZ (λv=>[(false,[.c (.int .i64 v.1)])]) (λx y v=>((v.2,()),())) Tryz.func446 (by kernel_rfl) trivial
noncomputable def Fa:=[wv,bK,gH,aw,cP,aE,dJ,Ok,D4,fP]
def xb:An:=⟨⟨[],[],false,1⟩,⟨[0,3,4,5,6,7],[],false,1⟩,⟨[],[]⟩,[(.normal,⟨[zp 0 0,zp 3 1,zp 4 2,zi 5,zs 6,zb 7],[.box [.st .curs [.sl .any]],zg .conn,zx .segm]⟩)]⟩
def xH:An:=⟨⟨[],[],false,1⟩,⟨[0,3,4,8],[],false,1⟩,⟨[],[]⟩,[(.normal,⟨[zp 0 0,zp 3 1,zp 4 2,zp 8 3],[.box [.st .curs [.sl .any]],zg .conn,zx .segm,zx .segm]⟩)]⟩
def xl:An:=⟨⟨[],[],false,1⟩,⟨[4,8],[],false,1⟩,⟨[],[]⟩,[(.normal,⟨[zp 4 1,zp 8 2],[.box [.st .curs [.sl .any]],zx .segm,zx .segm]⟩)]⟩
noncomputable def EQ:Fx:=⟨365,Tryz.f365,[(1000018,xb),(1000045,xH),(1000052,xl)],1⟩
noncomputable def rt:FT (Curs×Conn×Unit) (Segm×Curs) (λx=>ae x.1∧ak x.2.1) (λx v=>ar v.1∧ae v.2):= .mk λ(y0,x1,_)=>
  .cal uc.c (y0,x1.r,()) λc1=>
  .cal bf.c (c1.2.2.2,2,()) λc2=>
  .bnd (β:=Int×ac×Bool×Curs×Conn×Segm×Unit) (.as (λw=>sS w.2.1∧ae w.2.2.2.1∧ak w.2.2.2.2.1∧ar w.2.2.2.2.2.1) (.ite c2.1 (.ret (x1.r.next,c1.2.1,c1.2.2.1,c2.2,x1,(⟨0,0,0,0,0,0,⟨0,0,false,false,0,0⟩,[]⟩:Segm),()))<|
   .ret (c1.1,c1.2.1,c1.2.2.1,c2.2,x1,(⟨0,0,0,0,0,0,⟨0,0,false,false,0,0⟩,[]⟩:Segm),()))) λ(u3a0,u3a1,u3a2,u3a3,u3a4,u3a5,_)=>
  .cal fO.c (u3a4.s,()) λc4=>
  .cal ah.c (u3a3,(IntKind.wrap .i64 (c4+1)),()) λc5=>
  .val (bH.f (u3a4.s.una,c5.1,())) λc6=>
  .cal az.c (c5.2,[0,1,8,64,65535],()) λc7=>
  .val (bI.f (())) λc8=>
  .bnd (β:=Curs×Conn×Segm×Segm×Unit) (.as (λw=>ae w.1∧ak w.2.1∧ar w.2.2.1∧ar w.2.2.2.1) (.ite u3a2 (.ret (c7.2,u3a4,u3a5,(⟨u3a4.tuple.port,u3a4.tuple.my,u3a0,c6,17,c7.1,c8,u3a1⟩:Segm),()))<|
   .ret (c7.2,u3a4,u3a5,(⟨u3a4.tuple.port,u3a4.tuple.my,u3a0,c6,16,c7.1,c8,u3a1⟩:Segm),()))) λ(u9a0,u9a1,u9a2,u9a3,_)=>
  .cal ah.c (u9a0,10,()) λc10=>
  .bnd (β:=Curs×Segm×Segm×Unit) (.as (λw=>ae w.1∧ar w.2.1∧ar w.2.2.1) (.ite (c10.1==0) (.cal HZ.c (c10.2,()) λc11=>
    .ret (c11.2,u9a2,({u9a3 with flags:=c11.1}:Segm),()))<|
   .ite (c10.1==1) (.cal oS.c (c10.2,u9a1.s.una,()) λc12=>
    .ret (c12.2,u9a2,({u9a3 with ack:=c12.1}:Segm),()))<|
   .ite (c10.1==2) (.cal oS.c (c10.2,u9a1.r.next,()) λc13=>
    .ret (c13.2,u9a2,({u9a3 with seq:=c13.1}:Segm),()))<|
   .ite (c10.1==3) (.ret (c10.2,u9a2,({u9a3 with body:=[]}:Segm),()))<|
   .ret (c10.2,u9a2,u9a3,()))) λ(u14a0,_,u14a2,_)=>
  .val (bJ.f (u14a2.seq,())) λc15=>
  .val (bJ.f (u14a2.ack,())) λc16=>
  .ret (({u14a2 with seq:=c15,ack:=c16}:Segm),u14a0)
noncomputable def ua:=cy st EQ Fa [] [.wr false [.ptr 0],.st .conn] [.box [.st .curs]] (λx y=>(y.1.1,x.2.1,())) rt (λv=>[(true,mq v.1)]) (λx y v=>((v.2,()),())) Tryz.func365 (by kernel_rfl) trivial
noncomputable def Qx:=[bK,QI,aw,DZ,Gq,GF,uh,ua,th,yj,pn,wP,jC]
def E2:An:=⟨⟨[],[],false,1⟩,⟨[0,4,6,7],[],false,1⟩,⟨[],[]⟩,[(.normal,⟨[zp 0 0,zs 4,zi 6,zp 7 1],[.box [.st .curs [.sl .any]],zx .segm]⟩)]⟩
def Cm:An:=⟨⟨[],[],false,1⟩,⟨[0,4,6,11],[],false,1⟩,⟨[],[]⟩,[(.normal,⟨[zp 0 0,zs 4,zi 6,zs 11],[.box [.st .curs [.sl .any]]]⟩)]⟩
noncomputable def Ps:Fx:=⟨252,Tryz.f252,[(1000026,E2),(1000111,Cm)],1⟩
noncomputable def EN:FT (Curs×Stac×Unit) (ac×Curs) (λx=>ae x.1∧bL x.2.1) (λx v=>sS v.1∧ae v.2):= .mk λ(y0,x1,_)=>
  .cal bf.c (y0,5,()) λc1=>
  .ite c1.1 (.cal OA.c (c1.2,()) λc2=>
   .ret (c2.1,c2.2))<|
  .cal ah.c (c1.2,2,()) λc3=>
  .cal E1.c (c3.2,()) λc4=>
  .cal ah.c (c4.2,4,()) λc5=>
  .bnd (β:=ac×Int×Curs×Segm×Unit) (.as (λw=>sS w.1∧ae w.2.2.1∧ar w.2.2.2.1) (.ite (c5.1==0) (.ite (decide (0<(x1.door.halves.length:Int))) (.cal ah.c (c5.2,(x1.door.halves.length:Int),()) λc6=>
     .grd (dr x1.door.halves c6.1)<|
     .cal ol.c (x1.door,(x1.door.halves.getD c6.1.toNat (Ty.zero .half)).tuple,({c4.1 with from_:=(x1.door.halves.getD c6.1.toNat (Ty.zero .half)).tuple.port,seq:=(x1.door.halves.getD c6.1.toNat (Ty.zero .half)).irs}:Segm),()) λc7=>
     .cal uA.c (c6.2,({c4.1 with from_:=(x1.door.halves.getD c6.1.toNat (Ty.zero .half)).tuple.port,seq:=(x1.door.halves.getD c6.1.toNat (Ty.zero .half)).irs}:Segm),({c7 with seq:=(x1.door.halves.getD c6.1.toNat (Ty.zero .half)).iss}:Segm),()) λc8=>
     .ret ([],(x1.door.halves.getD c6.1.toNat (Ty.zero .half)).tuple.ip,c8.2,c8.1,()))<|
    .val (me.f ((IntKind.wrap .i64 (167772162+c3.1)),c4.1,())) λc9=>
    .cal ol.c (x1.door,c9,c4.1,()) λc10=>
    .cal uA.c (c5.2,c4.1,c10,()) λc11=>
    .ret ([],(IntKind.wrap .i64 (167772162+c3.1)),c11.2,c11.1,()))<|
   .ite (c5.1==1) (.ite (decide (0<(x1.door.table.conns.length:Int))) (.cal ah.c (c5.2,(x1.door.table.conns.length:Int),()) λc12=>
     .grd (dr x1.door.table.conns c12.1)<|
     .cal rt.c (c12.2,(x1.door.table.conns.getD c12.1.toNat (Ty.zero .conn)),()) λc13=>
     .ret ([],(x1.door.table.conns.getD c12.1.toNat (Ty.zero .conn)).tuple.ip,c13.2,c13.1,()))<|
    .ret ([],(IntKind.wrap .i64 (167772162+c3.1)),c5.2,c4.1,()))<|
   .ite (c5.1==2) (.val (me.f ((IntKind.wrap .i64 (167772162+c3.1)),c4.1,())) λc14=>
    .cal ol.c (x1.door,c14,c4.1,()) λc15=>
    .cal uA.c (c5.2,c4.1,c15,()) λc16=>
    .ret ([],(IntKind.wrap .i64 (167772162+c3.1)),c16.2,c16.1,()))<|
   .ret ([],(IntKind.wrap .i64 (167772162+c3.1)),c5.2,c4.1,()))) λ(u17a0,u17a1,u17a2,u17a3,_)=>
  .cal jD.c (u17a3,u17a1,167772161,()) λc18=>
  .cal bf.c (u17a2,10,()) λc19=>
  .bnd (β:=ac×Int×ac×Curs×Unit) (.as (λw=>sS w.1∧sS w.2.2.1∧ae w.2.2.2.1) (.ite c19.1 (.cal rQ.c (c19.2,c18,[[0],[120]],()) λc20=>
    .ret (u17a0,u17a1,c20.1,c20.2,()))<|
   .ret (u17a0,u17a1,c18,c19.2,()))) λ(_,u21a1,u21a2,u21a3,_)=>
  .cal jo.c ((⟨u21a1,167772161,9,6,0,u21a2⟩:Pack),()) λc22=>
  .cal uO.c (u21a3,c22,()) λc23=>
  .cal eK.c ((⟨11,12,2048,c23.1⟩:Fram),()) λc24=>
  .ret (c24,c23.2)
noncomputable def Qt:=cy st Ps Qx [] [.wr false [.ptr 0],.st .stac] [.box [.st .curs]] (λx y=>(y.1.1,x.2.1,())) EN (λv=>[(false,[.c (.str v.1)])]) (λx y v=>((v.2,()),())) Tryz.func252 (by kernel_rfl) trivial
noncomputable def O8:=[ly,bK,aw,rV,sB,gE,Qt]
def Ff:An:=⟨⟨[],[],false,1⟩,⟨[0,3,4,5],[],false,1⟩,⟨[],[]⟩,[(.normal,⟨[zp 0 0,zp 3 1,zp 4 2,zp 5 3],[.box [.st .curs [.sl .any]],.box [.st .stac [.sl .arg,.sl .arg,.sl .arg,.sl .arg,.sl .arg,.sl .arg]],.box [.st .acti [.nil .macRow]],zx .tupl]⟩)]⟩
noncomputable def Qc:Fx:=⟨132,Tryz.f132,[(1000018,Ff)],1⟩
noncomputable def Ma:FT (Curs×Stac×Unit) (Acti×Curs) (λx=>ae x.1∧bL x.2.1) (λx v=>f7 v.1∧ae v.2):= .mk λ(y0,x1,_)=>
  .cal lR.c (y0,()) λc1=>
  .ite (decide (0<(x1.door.table.conns.length:Int))) (.cal bf.c (c1.2,6,()) λc2=>
   .bnd (β:=Curs×Stac×Acti×Tupl×Unit) (.as (λw=>ae w.1∧bL w.2.1∧f7 w.2.2.1) (.ite (!c2.1) (.cal ah.c (c2.2,(x1.door.table.conns.length:Int),()) λc3=>
     .grd (dr x1.door.table.conns c3.1)<|
     .ret (c3.2,x1,(⟨0,⟨0,0,0⟩,0,[],⟨false,0,0,[]⟩⟩:Acti),(x1.door.table.conns.getD c3.1.toNat (Ty.zero .conn)).tuple,()))<|
    .ret (c2.2,x1,(⟨0,⟨0,0,0⟩,0,[],⟨false,0,0,[]⟩⟩:Acti),c1.1,()))) λ(u4a0,u4a1,_,u4a3,_)=>
   .cal ah.c (u4a0,12,()) λc5=>
   .ite (c5.1==0) (.ret ((⟨2,⟨0,0,0⟩,0,[],⟨false,0,0,[]⟩⟩:Acti),c5.2))<|
   .ite (c5.1==1) (.cal bf.c (c5.2,2,()) λc6=>
    .ite c6.1 (.cal fH.c (c6.2,()) λc7=>
     .cal fH.c (c7.2,()) λc8=>
     .cal m6.c (c7.1,c8.1,()) λc9=>
     .ret ((⟨3,⟨0,0,0⟩,0,[],c9⟩:Acti),c8.2))<|
    .ret ((⟨4,⟨0,0,0⟩,0,[],⟨false,0,0,[]⟩⟩:Acti),c6.2))<|
   .ite (c5.1==2) (.ret ((⟨4,⟨0,0,0⟩,0,[],⟨false,0,0,[]⟩⟩:Acti),c5.2))<|
   .ite (c5.1==3) (.cal ah.c (c5.2,20,()) λc10=>
    .cal ig.c (c10.2,c10.1,()) λc11=>
    .ret ((⟨5,u4a3,0,(aA c11.1),⟨false,0,0,[]⟩⟩:Acti),c11.2))<|
   .ite (c5.1==4) (.cal ah.c (c5.2,20,()) λc12=>
    .ret ((⟨6,u4a3,c12.1,[],⟨false,0,0,[]⟩⟩:Acti),c12.2))<|
   .ite (c5.1==5) (.cal bf.c (c5.2,2,()) λc13=>
    .ite c13.1 (.ret ((⟨8,u4a3,0,[],⟨false,0,0,[]⟩⟩:Acti),c13.2))<|
    .ret ((⟨7,u4a3,0,[],⟨false,0,0,[]⟩⟩:Acti),c13.2))<|
   .cal EN.c (c5.2,u4a1,()) λc14=>
   .ret ((⟨1,⟨0,0,0⟩,0,c14.1,⟨false,0,0,[]⟩⟩:Acti),c14.2))<|
  .cal ah.c (c1.2,12,()) λc15=>
  .ite (c15.1==0) (.ret ((⟨2,⟨0,0,0⟩,0,[],⟨false,0,0,[]⟩⟩:Acti),c15.2))<|
  .ite (c15.1==1) (.cal bf.c (c15.2,2,()) λc16=>
   .ite c16.1 (.cal fH.c (c16.2,()) λc17=>
    .cal fH.c (c17.2,()) λc18=>
    .cal m6.c (c17.1,c18.1,()) λc19=>
    .ret ((⟨3,⟨0,0,0⟩,0,[],c19⟩:Acti),c18.2))<|
   .ret ((⟨4,⟨0,0,0⟩,0,[],⟨false,0,0,[]⟩⟩:Acti),c16.2))<|
  .ite (c15.1==2) (.ret ((⟨4,⟨0,0,0⟩,0,[],⟨false,0,0,[]⟩⟩:Acti),c15.2))<|
  .ite (c15.1==3) (.cal ah.c (c15.2,20,()) λc20=>
   .cal ig.c (c20.2,c20.1,()) λc21=>
   .ret ((⟨5,c1.1,0,(aA c21.1),⟨false,0,0,[]⟩⟩:Acti),c21.2))<|
  .ite (c15.1==4) (.cal ah.c (c15.2,20,()) λc22=>
   .ret ((⟨6,c1.1,c22.1,[],⟨false,0,0,[]⟩⟩:Acti),c22.2))<|
  .ite (c15.1==5) (.cal bf.c (c15.2,2,()) λc23=>
   .ite c23.1 (.ret ((⟨8,c1.1,0,[],⟨false,0,0,[]⟩⟩:Acti),c23.2))<|
   .ret ((⟨7,c1.1,0,[],⟨false,0,0,[]⟩⟩:Acti),c23.2))<|
  .cal EN.c (c15.2,x1,()) λc24=>
  .ret ((⟨1,⟨0,0,0⟩,0,c24.1,⟨false,0,0,[]⟩⟩:Acti),c24.2)
noncomputable def Qw:=cy st Qc O8 [] [.wr false [.ptr 0],.st .stac] [.box [.st .curs]] (λx y=>(y.1.1,x.2.1,())) Ma (λv=>[(true,PC (.o true) v.1)]) (λx y v=>((v.2,()),())) Tryz.func132 (by kernel_rfl) trivial
noncomputable def BA:=[ly,ko,mE,aE,Bm,aw,gE,Iu,rz,bK,OB,zO,ua,uj]
def ll:Sh:=⟨[zp 0 0,zp 2 1,zp 3 2,zi 4,zi 5],[.box [.st .curs [.sl .any]],.box [.st .conn [.nil .piec]],zk .conn 3,zf]⟩
noncomputable def BQ:Fx:=⟨435,Tryz.f435,[(0,la ⟨[0,2,3,4,5],[],false,1⟩ ⟨[2,3],[],false,1⟩)],1⟩
noncomputable def Gg (v1:Int)(a:Curs×Conn×Conn):Tr (Stp (Curs×Conn×Conn) (Empty)):=
 .cal ah.c (a.1,8,()) λc8=>
 .ite (c8.1==0) (.cal ah.c (c8.2,20,()) λc9=>
  .cal ig.c (c9.2,c9.1,()) λc10=>
  .cal zt.c (a.2.2,(aA c10.1),()) λc11=>
  .ret (.next (c10.2,({a.2.1 with r.held:=[]}:Conn),c11.1)))<|
 .ite (c8.1==1) (.cal kx.c (a.2.2,()) λc12=>
  .ret (.next (c8.2,({a.2.1 with r.held:=[]}:Conn),c12.1)))<|
 .ite (c8.1==2) (.cal bf.c (c8.2,2,()) λc13=>
  .ite c13.1 (.cal ET.c (a.2.2,()) λc14=>
   .ret (.next (c13.2,({a.2.1 with r.held:=[]}:Conn),c14.1)))<|
  .ret (.next (c13.2,({a.2.1 with r.held:=[]}:Conn),a.2.2)))<|
 .ite (c8.1==3) (.cal ah.c (c8.2,9,()) λc15=>
  .cal oo.c (a.2.2,c15.1,()) λc16=>
  .ret (.next (c15.2,({a.2.1 with r.held:=[]}:Conn),c16.1)))<|
 .cal rt.c (c8.2,a.2.2,()) λc17=>
 .cal nX.c (a.2.2,c17.1,()) λc18=>
 .ret (.next (c17.2,({a.2.1 with r.held:=[]}:Conn),c18.1))
noncomputable def gy:ll.V→sD ll (Curs×Conn×Conn):=λ(v0,v1,v2,v3,v4,_)=>⟨v1,(v2,v3,v4),λv1 a=>(v0,v1,a.1,a.2.1,a.2.2,()),λv1 _=>(decide (v1<v0)),Gg,up,1,(Int.toNat (v0-v1)),Empty.elim,Prod.mk,oN (.exit 0) ⟨[zp 2 1,zp 3 2],[.box [.st .curs [.sl .any]],.box [.st .conn [.nil .piec]],zk .conn 3,zf]⟩ (λx=>(x.2.1,({x.2.2.1 with r.held:=[]}:Conn),x.2.2.2,()))⟩
theorem Fv:LS Tryz.prog BQ [0] (jz 0 ll gy):=eB st (aV BA) _ gy [] trivial
theorem EH {v0 v1:Int}{v2:Curs}{v3 v4:Conn}(h0:0≤v1)(h1:v0≤4611686018427387904)(h2:ae v2∧ak v3∧ak v4):(gy (v0,v1,v2,v3,v4,())).U v0 (λv1 a=>ae a.1∧ak a.2.1∧ak a.2.2) (λ_=>True):=
 kN (a:=(v2,v3,v4)) h0 h1 h2
noncomputable def Am:FT (Curs×Unit) (Conn×Curs) (λx=>ae x.1) (λx v=>ak v.1∧ae v.2):=⟨λ(y0,_)=>
  .cal lR.c (y0,()) λc1=>
  .cal i2.c (c1.2,()) λc2=>
  .cal i2.c (c2.2,()) λc3=>
  .cal mT.c (c3.2,()) λc4=>
  .cal az.c (c4.2,[0,4,64,65535],()) λc5=>
  .cal oe.c (c1.1,c2.1,c3.1,c4.1,c5.1,()) λc6=>
  .cal ah.c (c5.2,9,()) λc7=>
  .lp (gy (c7.1,0,c7.2,(⟨⟨0,0,0⟩,0,⟨0,[],0,false,false,false⟩,⟨0,[],[],0,false⟩,0,0,⟨0,0,false,false,0,0⟩,0,0⟩:Conn),c6,())).lp λ(_,a19_0,_,a19_2)=>
  .ret (a19_2,a19_0),
 λ(y0,_) hp=>by
  refine Tr.C ?_ λ_ _ _=>Tr.C ?_ λ_ _ _=>Tr.C ?_ λ_ _ _=>Tr.C ?_ λ_ _ _=>Tr.C ?_ λ_ _ _=>Tr.C trivial λ_ _ _=>Tr.C ?_ λ_ _ _=>Tr.L (EH ?_ ?_ ?_) (λ(a19_0,a19_1,a19_2) _=>Tr.R ?_) (λp=>Empty.elim p)
  all_goals ((try simp only[gy,LC.lp,LC.ct,Ct.lp]at*)<;>grind)⟩
noncomputable def Bg:=cy st BQ BA [(jz 0 ll gy)] [.wr false [.ptr 0]] [.box [.st .curs]] (λx y=>(y.1.1,())) Am (λv=>[(true,kg (.o true) v.1)]) (λx y v=>((v.2,()),())) Tryz.func435 (by kernel_rfl) ⟨Fv,trivial⟩
noncomputable def Jh:FT (Curs×Stac×Unit) (Acti×Curs) (λx=>ae x.1∧bL x.2.1) (λx v=>f7 v.1∧ae v.2):= .mk λ(y0,x1,_)=>
  .cal Ma.c (y0,x1,()) λc1=>
  .cal ah.c (c1.2,14,()) λc2=>
  .ite (c2.1==0) (.cal ah.c (c2.2,11,()) λc3=>
   .ret (({c1.1 with kind:=(IntKind.wrap .i64 (c3.1-1))}:Acti),c3.2))<|
  .ite (c2.1==1) (.cal az.c (c2.2,[(-1),0,65535,65536],()) λc4=>
   .ret (({c1.1 with n:=c4.1}:Acti),c4.2))<|
  .ite (c2.1==2) (.cal vD.c (c2.2,()) λc5=>
   .ret (({c1.1 with tuple.ip:=c5.1.ip,tuple.port:=c5.1.port,tuple.my:=c5.1.my}:Acti),c5.2))<|
  .ite (c2.1==3) (.cal yk.c (c2.2,()) λc6=>
   .ret (({c1.1 with mac.use:=c6.1.use,mac.k:=c6.1.k,mac.l:=c6.1.l,mac.rows:=c6.1.rows}:Acti),c6.2))<|
  .ret (c1.1,c2.2)
noncomputable def MB:=cy st ⟨52,Tryz.f52,[],1⟩ [Qw,aw,aE,uq,DK] [] [.wr false [.ptr 0],.st .stac] [.box [.st .curs]] (λx y=>(y.1.1,x.2.1,())) Jh (λv=>[(true,PC (.o true) v.1)]) (λx y v=>((v.2,()),())) Tryz.func52 (by kernel_rfl) trivial
noncomputable def ym:=[aw,Bg,BZ,bK,tJ]
def j6:Sh:=⟨[zp 0 0,zp 3 1,zp 4 2,zp 5 3,zi 6,zi 7],[.box [.st .curs [.sl .any]],zx .limi,.box [.st .tabl [.nil .conn,.nil .tupl]],.box [.st .tabl [.own 4,.own 5]],zf,zf]⟩
noncomputable def zE:Fx:=⟨360,Tryz.f360,[(0,la ⟨[0,3,4,5,6,7],[.box 5 0 .conn,.box 5 1 .tupl],false,1⟩ ⟨[4,5],[],false,1⟩)],1⟩
noncomputable def C2 (v3:Limi)(v1:Int)(a:Curs×Tabl×Tabl):Tr (Stp (Curs×Tabl×Tabl) (Empty)):=
 .cal Am.c (a.1,()) λc6=>
 .cal qD.c (a.2.2,c6.1,v3,()) λc7=>
 .cal bf.c (c6.2,3,()) λc8=>
 .ite c8.1 (.cal qh.c (c7.1,()) λc9=>
  .ret (.next (c8.2,(⟨[],[]⟩:Tabl),c9.1)))<|
 .ret (.next (c8.2,(⟨[],[]⟩:Tabl),c7.1))
noncomputable def fw:j6.V→sD j6 (Curs×Tabl×Tabl):=λ(v0,v1,v2,v3,v4,v5,_)=>⟨v1,(v2,v4,v5),λv1 a=>(v0,v1,a.1,v3,a.2.1,a.2.2,()),λv1 _=>(decide (v1<v0)),C2 v3,up,1,(Int.toNat (v0-v1)),Empty.elim,Prod.mk,oN (.exit 0) ⟨[zp 4 1,zp 5 2],[.box [.st .curs [.sl .any]],.box [.st .tabl [.nil .conn,.nil .tupl]],.box [.st .tabl [.own 3,.own 4]],zf,zf]⟩ (λx=>(x.2.1,(⟨[],[]⟩:Tabl),x.2.2.2,()))⟩
theorem CQ:LS Tryz.prog zE [0] (jz 0 j6 fw):=eB st (aV ym) _ fw [] trivial
theorem C0 {v0 v1:Int}{v2:Curs}{v3:Limi}{v4 v5:Tabl}(h0:0≤v1)(h1:v0≤4611686018427387904)(h2:ae v2∧bg v4∧bg v5∧v5.conns.length≤16∧v5.waiting.length≤16):(fw (v0,v1,v2,v3,v4,v5,())).U v0 (λv1 a=>ae a.1∧bg a.2.1∧bg a.2.2∧a.2.2.conns.length≤16∧a.2.2.waiting.length≤16) (λ_=>True):=
 kN (a:=(v2,v4,v5)) h0 h1 h2
noncomputable def FK:FT (Curs×Limi×Unit) (Tabl×Curs) (λx=>ae x.1) (λx v=>bg v.1∧ae v.2∧v.1.conns.length≤16∧v.1.waiting.length≤16):=⟨λ(y0,x1,_)=>
  .cal ah.c (y0,4,()) λc1=>
  .lp (fw (c1.1,0,c1.2,x1,(⟨[],[]⟩:Tabl),(⟨[],[]⟩:Tabl),())).lp λ(_,a10_0,_,a10_2)=>
  .ret (a10_2,a10_0),
 λ(y0,x1,_) hp=>by
  refine Tr.C ?_ λ_ _ _=>Tr.L (C0 ?_ ?_ ?_) (λ(a10_0,a10_1,a10_2) _=>Tr.R ?_) (λp=>Empty.elim p)
  all_goals ((try simp only[fw,LC.lp,LC.ct,Ct.lp]at*)<;>grind)⟩
noncomputable def K7:=cy st zE ym [(jz 0 j6 fw)] [.wr false [.ptr 0],.st .limi] [.box [.st .curs]] (λx y=>(y.1.1,x.2.1,())) FK (λv=>[(true,qg (.o true) (.o true) v.1)]) (λx y v=>((v.2,()),())) Tryz.func360 (by kernel_rfl) ⟨CQ,trivial⟩
noncomputable def wV:=[ko,aw,gE,FV,wU,Bo,gH,cP,I8,bK]
def jv:Sh:=⟨[zp 0 0,zp 2 1,zp 3 2,zi 4,zi 5],[.box [.st .curs [.sl .any]],zx .sndr,zx .sndr]⟩
noncomputable def wy:Fx:=⟨473,Tryz.f473,[(0,la ⟨[0,2,3,4,5],[],false,1⟩ ⟨[2,3],[],false,1⟩)],1⟩
noncomputable def A4 (v1:Int)(a:Curs×Sndr):Tr (Stp (Curs×Sndr) (Empty)):=
 .cal ah.c (a.1,4,()) λc3=>
 .ite (c3.1==0) (.cal ah.c (c3.2,20,()) λc4=>
  .cal ig.c (c4.2,c4.1,()) λc5=>
  .cal Fy.c (a.2,(aA c5.1),()) λc6=>
  .ret (.next (c5.2,c6.1)))<|
 .ite (c3.1==1) (.cal ah.c (c3.2,40,()) λc7=>
  .cal ah.c (c7.2,16,()) λc8=>
  .cal iU.c (a.2,(IntKind.wrap .i64 (1+c7.1)),(IntKind.wrap .i64 (1+c8.1)),()) λc9=>
  .ite c9.2 (.cal kJ.c (a.2,c9.1,()) λc10=>
   .ret (.next (c8.2,c10)))<|
  .ret (.next (c8.2,a.2)))<|
 .ite (c3.1==2) (.cal fO.c (a.2,()) λc11=>
  .cal ah.c (c3.2,(IntKind.wrap .i64 (c11+1)),()) λc12=>
  .val (bH.f (a.2.una,c12.1,())) λc13=>
  .cal yv.c (a.2,c13,()) λc14=>
  .ret (.next (c12.2,c14.1)))<|
 .ite a.2.fin (.ret (.next (c3.2,({a.2 with fin:=true}:Sndr))))<|
 .cal bf.c (c3.2,2,()) λc15=>
 .ret (.next (c15.2,({a.2 with fin:=c15.1}:Sndr)))
noncomputable def eP:jv.V→sD jv (Curs×Sndr):=λ(v0,v1,v2,v3,v4,_)=>⟨v1,(v2,v4),λv1 a=>(v0,v1,a.1,v3,a.2,()),λv1 _=>(decide (v1<v0)),A4,up,1,(Int.toNat (v0-v1)),Empty.elim,Prod.mk,oN (.exit 0) ⟨[zp 2 1,zp 3 2],[.box [.st .curs [.sl .any]],zx .sndr,zx .sndr]⟩ (λx=>(x.2.1,v3,x.2.2,()))⟩
theorem Af:LS Tryz.prog wy [0] (jz 0 jv eP):=eB st (aV wV) _ eP [] trivial
theorem Al {v0 v1:Int}{v2:Curs}{v3 v4:Sndr}(h0:0≤v1)(h1:v0≤4611686018427387904)(h2:ae v2∧ci v4):(eP (v0,v1,v2,v3,v4,())).U v0 (λv1 a=>ae a.1∧ci a.2) (λ_=>True):=
 kN (a:=(v2,v4)) h0 h1 h2
noncomputable def Bj:FT (Curs×Unit) (Sndr×Curs) (λx=>ae x.1) (λx v=>ci v.1∧ae v.2):=⟨λ(y0,_)=>
  .cal i2.c (y0,()) λc1=>
  .cal ah.c (c1.2,6,()) λc2=>
  .lp (eP (c2.1,0,c2.2,(⟨0,[],0,false,false,false⟩:Sndr),(⟨c1.1,[],0,false,false,false⟩:Sndr),())).lp λ(_,a16_0,a16_1)=>
  .ret (a16_1,a16_0),
 λ(y0,_) hp=>by
  refine Tr.C ?_ λ_ _ _=>Tr.C ?_ λ_ _ _=>Tr.L (Al ?_ ?_ ?_) (λ(a16_0,a16_1) _=>Tr.R ?_) (λp=>Empty.elim p)
  all_goals ((try simp only[eP,LC.lp,LC.ct,Ct.lp]at*)<;>grind)⟩
noncomputable def Hs:=cy st wy wV [(jz 0 jv eP)] [.wr false [.ptr 0]] [.box [.st .curs]] (λx y=>(y.1.1,())) Bj (λv=>[(true,xg v.1)]) (λx y v=>((v.2,()),())) Tryz.func473 (by kernel_rfl) ⟨Af,trivial⟩
noncomputable def IU:FT (Curs×Unit) (Sndr×Curs) (λx=>ae x.1) (λx v=>ci v.1∧ae v.2):= .mk λ(y0,_)=>
  .cal Bj.c (y0,()) λc1=>
  .cal ah.c (c1.2,10,()) λc2=>
  .ite (c2.1==0) (.cal cI.c (c2.2,()) λc3=>
   .ret (({c1.1 with una:=c3.1}:Sndr),c3.2))<|
  .ite (c2.1==1) (.cal az.c (c2.2,[(-1),0,48,49,(IntKind.wrap .i64 ((c1.1.data.length:Int)+1))],()) λc4=>
   .ret (({c1.1 with sent:=c4.1}:Sndr),c4.2))<|
  .ite (c2.1==2) (.ret (({c1.1 with finSent:=(!c1.1.finSent)}:Sndr),c2.2))<|
  .ite (c2.1==3) (.ret (({c1.1 with done:=(!c1.1.done)}:Sndr),c2.2))<|
  .ite (c2.1==4) (.cal ah.c (c2.2,3,()) λc5=>
   .cal tY.c ((IntKind.wrap .i64 (47+c5.1)),()) λc6=>
   .ret (({c1.1 with data:=c6}:Sndr),c5.2))<|
  .ret (c1.1,c2.2)
noncomputable def OK:=cy st ⟨437,Tryz.f437,[],1⟩ [Hs,aw,eU,aE,sx] [] [.wr false [.ptr 0]] [.box [.st .curs]] (λx y=>(y.1.1,())) IU (λv=>[(true,xg v.1)]) (λx y v=>((v.2,()),())) Tryz.func437 (by kernel_rfl) trivial
noncomputable def tv:=[ko,sX,aw,wv,BM,bK,B4]
def gP:Sh:=⟨[zp 0 0,zp 2 1,zp 3 2,zi 4,zi 5],[.box [.st .curs [.sl .any]],.box [.st .recv [.nil .piec]],zk .recv 3,zf]⟩
noncomputable def ta:Fx:=⟨475,Tryz.f475,[(0,la ⟨[0,2,3,4,5],[],false,1⟩ ⟨[2,3],[],false,1⟩)],1⟩
noncomputable def xA (v1:Int)(a:Curs×Recv×Recv):Tr (Stp (Curs×Recv×Recv) (Empty)):=
 .cal uc.c (a.1,a.2.2,()) λc4=>
 .cal od.c (a.2.2,c4.1,c4.2.1,c4.2.2.1,()) λc5=>
 .cal bf.c (c4.2.2.2,3,()) λc6=>
 .ite c6.1 (.cal ah.c (c6.2,20,()) λc7=>
  .cal A6.c (c5,c7.1,()) λc8=>
  .ret (.next (c7.2,({a.2.1 with held:=[]}:Recv),c8.1)))<|
 .ret (.next (c6.2,({a.2.1 with held:=[]}:Recv),c5))
noncomputable def dC:gP.V→sD gP (Curs×Recv×Recv):=λ(v0,v1,v2,v3,v4,_)=>⟨v1,(v2,v3,v4),λv1 a=>(v0,v1,a.1,a.2.1,a.2.2,()),λv1 _=>(decide (v1<v0)),xA,up,1,(Int.toNat (v0-v1)),Empty.elim,Prod.mk,oN (.exit 0) ⟨[zp 2 1,zp 3 2],[.box [.st .curs [.sl .any]],.box [.st .recv [.nil .piec]],zk .recv 3,zf]⟩ (λx=>(x.2.1,({x.2.2.1 with held:=[]}:Recv),x.2.2.2,()))⟩
theorem xy:LS Tryz.prog ta [0] (jz 0 gP dC):=eB st (aV tv) _ dC [] trivial
theorem xt {v0 v1:Int}{v2:Curs}{v3 v4:Recv}(h0:0≤v1)(h1:v0≤4611686018427387904)(h2:ae v2∧aZ v3∧aZ v4∧v4.held.length≤3):(dC (v0,v1,v2,v3,v4,())).U v0 (λv1 a=>ae a.1∧aZ a.2.1∧aZ a.2.2∧a.2.2.held.length≤3) (λ_=>True):=
 kN (a:=(v2,v3,v4)) h0 h1 h2
noncomputable def wx:FT (Curs×Unit) (Recv×Curs) (λx=>ae x.1) (λx v=>aZ v.1∧ae v.2∧v.1.held.length≤3):=⟨λ(y0,_)=>
  .cal i2.c (y0,()) λc1=>
  .cal jE.c (c1.1,()) λc2=>
  .cal ah.c (c1.2,7,()) λc3=>
  .lp (dC (c3.1,0,c3.2,(⟨0,[],[],0,false⟩:Recv),c2,())).lp λ(_,a9_0,_,a9_2)=>
  .ret (a9_2,a9_0),
 λ(y0,_) hp=>by
  refine Tr.C ?_ λ_ _ _=>Tr.C trivial λ_ _ _=>Tr.C ?_ λ_ _ _=>Tr.L (xt ?_ ?_ ?_) (λ(a9_0,a9_1,a9_2) _=>Tr.R ?_) (λp=>Empty.elim p)
  all_goals ((try simp only[dC,LC.lp,LC.ct,Ct.lp]at*)<;>grind)⟩
noncomputable def Ck:=cy st ta tv [(jz 0 gP dC)] [.wr false [.ptr 0]] [.box [.st .curs]] (λx y=>(y.1.1,())) wx (λv=>[(true,uy (.o true) v.1)]) (λx y v=>((v.2,()),())) Tryz.func475 (by kernel_rfl) ⟨xy,trivial⟩
noncomputable def IO:FT (Curs×Unit) (Recv×Curs) (λx=>ae x.1) (λx v=>aZ v.1∧ae v.2):= .mk λ(y0,_)=>
  .cal wx.c (y0,()) λc1=>
  .cal ah.c (c1.2,12,()) λc2=>
  .ite (c2.1==0) (.cal cI.c (c2.2,()) λc3=>
   .ret (({c1.1 with next:=c3.1}:Recv),c3.2))<|
  .ite (c2.1==1) (.cal az.c (c2.2,[(-2),(-1),0,5,32,33],()) λc4=>
   .ret (({c1.1 with fin:=c4.1}:Recv),c4.2))<|
  .ite (c2.1==2) (.ret (({c1.1 with done:=(!c1.1.done)}:Recv),c2.2))<|
  .ite (c2.1==3) (.cal az.c (c2.2,[0,1,20,31,32,(-1),9223372036854775807],()) λc5=>
   .cal x7.c (c5.2,[[],[120],[121,122]],()) λc6=>
   .grd (qi c1.1.held 1 24)<|
   .ret (({c1.1 with held:=(c1.1.held++[(⟨c5.1,c6.1⟩:Piec)])}:Recv),c6.2))<|
  .ite (c2.1==4) (.cal ah.c (c2.2,3,()) λc7=>
   .cal tY.c ((IntKind.wrap .i64 (31+c7.1)),()) λc8=>
   .ret (({c1.1 with data:=c8}:Recv),c7.2))<|
  .ret (c1.1,c2.2)
noncomputable def Nc:=cy st ⟨438,Tryz.f438,[],1⟩ [Ck,aw,eU,aE,xG,sx] [] [.wr false [.ptr 0]] [.box [.st .curs]] (λx y=>(y.1.1,())) IO (λv=>[(true,uy (.o true) v.1)]) (λx y v=>((v.2,()),())) Tryz.func438 (by kernel_rfl) trivial
noncomputable def Na:=[Bg,aw,OK,Nc,aE,FM,uq]
def vk:An:=⟨⟨[],[],false,1⟩,⟨[2,3],[],false,1⟩,⟨[],[]⟩,[(.normal,⟨[zp 2 1,zp 3 2],[.box [.st .curs [.sl .any]],.box [.st .conn [.nil .piec]],zk .conn 3,zf]⟩)]⟩
noncomputable def Ml:Fx:=⟨361,Tryz.f361,[(1000008,vk)],1⟩
noncomputable def Ji:FT (Curs×Unit) (Conn×Curs) (λx=>ae x.1) (λx v=>ak v.1∧ae v.2):= .mk λ(y0,_)=>
  .cal Am.c (y0,()) λc1=>
  .cal ah.c (c1.2,16,()) λc2=>
  .bnd (β:=WT vk.es) (.as (λw=>ae w.1∧ak w.2.1∧ak w.2.2.1) (.ite (c2.1==0) (.cal ah.c (c2.2,11,()) λc3=>
    .ret (c3.2,(⟨⟨0,0,0⟩,0,⟨0,[],0,false,false,false⟩,⟨0,[],[],0,false⟩,0,0,⟨0,0,false,false,0,0⟩,0,0⟩:Conn),({c1.1 with state:=(IntKind.wrap .i64 (c3.1-1))}:Conn),()))<|
   .ite (c2.1==1) (.cal IU.c (c2.2,()) λc4=>
    .ret (c4.2,(⟨⟨0,0,0⟩,0,⟨0,[],0,false,false,false⟩,⟨0,[],[],0,false⟩,0,0,⟨0,0,false,false,0,0⟩,0,0⟩:Conn),({c1.1 with s.una:=c4.1.una,s.data:=c4.1.data,s.sent:=c4.1.sent,s.fin:=c4.1.fin,s.finSent:=c4.1.finSent,s.done:=c4.1.done}:Conn),()))<|
   .ite (c2.1==2) (.cal IO.c (c2.2,()) λc5=>
    .ret (c5.2,(⟨⟨0,0,0⟩,0,⟨0,[],0,false,false,false⟩,⟨0,[],[],0,false⟩,0,0,⟨0,0,false,false,0,0⟩,0,0⟩:Conn),({c1.1 with r.next:=c5.1.next,r.data:=c5.1.data,r.held:=c5.1.held,r.fin:=c5.1.fin,r.done:=c5.1.done}:Conn),()))<|
   .ite (c2.1==3) (.cal az.c (c2.2,[(-1),0,c1.1.most,(IntKind.wrap .i64 (c1.1.most+1))],()) λc6=>
    .ret (c6.2,(⟨⟨0,0,0⟩,0,⟨0,[],0,false,false,false⟩,⟨0,[],[],0,false⟩,0,0,⟨0,0,false,false,0,0⟩,0,0⟩:Conn),({c1.1 with window:=c6.1}:Conn),()))<|
   .ite (c2.1==4) (.cal az.c (c2.2,[(-1),0,3,4,5],()) λc7=>
    .ret (c7.2,(⟨⟨0,0,0⟩,0,⟨0,[],0,false,false,false⟩,⟨0,[],[],0,false⟩,0,0,⟨0,0,false,false,0,0⟩,0,0⟩:Conn),({c1.1 with timer:=c7.1}:Conn),()))<|
   .ite (c2.1==5) (.cal az.c (c2.2,[(-1),0,3,4],()) λc8=>
    .ret (c8.2,(⟨⟨0,0,0⟩,0,⟨0,[],0,false,false,false⟩,⟨0,[],[],0,false⟩,0,0,⟨0,0,false,false,0,0⟩,0,0⟩:Conn),({c1.1 with tries:=c8.1}:Conn),()))<|
   .ite (c2.1==6) (.cal GI.c (c2.2,()) λc9=>
    .ret (c9.2,(⟨⟨0,0,0⟩,0,⟨0,[],0,false,false,false⟩,⟨0,[],[],0,false⟩,0,0,⟨0,0,false,false,0,0⟩,0,0⟩:Conn),({c1.1 with opts.mss:=c9.1.mss,opts.scale:=c9.1.scale,opts.sack:=c9.1.sack,opts.stamp:=c9.1.stamp,opts.val:=c9.1.val,opts.echo:=c9.1.echo}:Conn),()))<|
   .ite (c2.1==7) (.cal vD.c (c2.2,()) λc10=>
    .ret (c10.2,(⟨⟨0,0,0⟩,0,⟨0,[],0,false,false,false⟩,⟨0,[],[],0,false⟩,0,0,⟨0,0,false,false,0,0⟩,0,0⟩:Conn),({c1.1 with tuple.ip:=c10.1.ip,tuple.port:=c10.1.port,tuple.my:=c10.1.my}:Conn),()))<|
   .ret (c2.2,(⟨⟨0,0,0⟩,0,⟨0,[],0,false,false,false⟩,⟨0,[],[],0,false⟩,0,0,⟨0,0,false,false,0,0⟩,0,0⟩:Conn),c1.1,()))) λ(u11a0,_,u11a2,_)=>
  .ret (u11a2,u11a0)
noncomputable def Nm:=cy st Ml Na [] [.wr false [.ptr 0]] [.box [.st .curs]] (λx y=>(y.1.1,())) Ji (λv=>[(true,kg (.o true) v.1)]) (λx y v=>((v.2,()),())) Tryz.func361 (by kernel_rfl) trivial
noncomputable def Nr:=[wt,K7,aw,Nm,ly,aE]
def tu:An:=⟨⟨[],[],false,1⟩,⟨[2,3,4,5],[],false,1⟩,⟨[],[]⟩,[(.normal,⟨[zp 2 1,zp 3 2,zp 4 3,zp 5 4],[.box [.st .curs [.sl .any]],.box [.st .tabl [.nil .conn,.nil .tupl]],zx .limi,zx .limi,.box [.st .tabl [.own 5,.own 6]],zf,zf]⟩)]⟩
noncomputable def Oy:Fx:=⟨247,Tryz.f247,[(1000013,tu)],1⟩
noncomputable def IG:FT (Curs×Unit) (Tabl×Limi×Curs) (λx=>ae x.1) (λx v=>bg v.1∧ae v.2.2):= .mk λ(y0,_)=>
  .cal uU.c (y0,()) λc1=>
  .cal FK.c (c1.2,c1.1,()) λc2=>
  .cal ah.c (c2.2,10,()) λc3=>
  .bnd (β:=WT tu.es) (.as (λw=>ae w.1∧bg w.2.1∧bg w.2.2.2.2.1) (.ite (c3.1==0) (.cal Ji.c (c3.2,()) λc4=>
    .grd (qi c2.1.conns 1 208)<|
    .ret (c4.2,(⟨[],[]⟩:Tabl),(⟨0,0,0,0⟩:Limi),c1.1,(⟨(c2.1.conns++[c4.1]),c2.1.waiting⟩:Tabl),()))<|
   .ite (c3.1==1) (.cal lR.c (c3.2,()) λc5=>
    .grd (qi c2.1.waiting 1 24)<|
    .ret (c5.2,(⟨[],[]⟩:Tabl),(⟨0,0,0,0⟩:Limi),c1.1,(⟨c2.1.conns,(c2.1.waiting++[c5.1])⟩:Tabl),()))<|
   .ite (c3.1==2) (.cal az.c (c3.2,[0,16,17,1],()) λc6=>
    .ret (c6.2,(⟨[],[]⟩:Tabl),(⟨0,0,0,0⟩:Limi),({c1.1 with conns:=c6.1}:Limi),c2.1,()))<|
   .ite (c3.1==3) (.cal az.c (c3.2,[(-1),1000,1001],()) λc7=>
    .ret (c7.2,(⟨[],[]⟩:Tabl),(⟨0,0,0,0⟩:Limi),({c1.1 with chal:=c7.1}:Limi),c2.1,()))<|
   .ite (c3.1==4) (.ite (decide (0<(c2.1.conns.length:Int))) (.grd (decide (0<(c2.1.conns.length:Int)))<|
     .grd (qi c2.1.conns 1 208)<|
     .ret (c3.2,(⟨[],[]⟩:Tabl),(⟨0,0,0,0⟩:Limi),c1.1,(⟨(c2.1.conns++[(c2.1.conns.getD 0 (Ty.zero .conn))]),c2.1.waiting⟩:Tabl),()))<|
    .ret (c3.2,(⟨[],[]⟩:Tabl),(⟨0,0,0,0⟩:Limi),c1.1,c2.1,()))<|
   .ret (c3.2,(⟨[],[]⟩:Tabl),(⟨0,0,0,0⟩:Limi),c1.1,c2.1,()))) λ(u8a0,_,_,u8a3,u8a4,_)=>
  .ret (u8a4,u8a3,u8a0)
noncomputable def Ni:=cy st Oy Nr [] [.wr false [.ptr 0]] [.box [.st .curs]] (λx y=>(y.1.1,())) IG (λv=>[(true,qg (.o true) (.o true) v.1),(true,Ud v.2.1)]) (λx y v=>((v.2.2,()),())) Tryz.func247 (by kernel_rfl) trivial
noncomputable def Jd:FT (Curs×Unit) (Door×Curs) (λx=>ae x.1) (λx v=>aU v.1∧ae v.2):= .mk λ(y0,_)=>
  .cal Ad.c (y0,()) λc1=>
  .cal ah.c (c1.2,16,()) λc2=>
  .ite (c2.1==0) (.cal cI.c (c2.2,()) λc3=>
   .ret (({c1.1 with port:=c3.1}:Door),c3.2))<|
  .ite (c2.1==1) (.cal H9.c (c2.2,()) λc4=>
   .ret ((⟨c1.1.port,c1.1.clock,c4.1,c1.1.limits,c1.1.halves,c1.1.table,c1.1.chal⟩:Door),c4.2))<|
  .ite (c2.1==2) (.cal Il.c (c2.2,()) λc5=>
   .ret (({c1.1 with halves:=c5.1}:Door),c5.2))<|
  .ite (c2.1==3) (.cal IG.c (c2.2,()) λc6=>
   .ret (({c1.1 with table.conns:=c6.1.conns,table.waiting:=c6.1.waiting}:Door),c6.2.2))<|
  .ite (c2.1==4) (.cal az.c (c2.2,[(-1),0,c1.1.limits.chal,(IntKind.wrap .i64 (c1.1.limits.chal+1))],()) λc7=>
   .ret (({c1.1 with chal:=c7.1}:Door),c7.2))<|
  .ite (c2.1==5) (.cal az.c (c2.2,[(-1),4294967295,4294967296],()) λc8=>
   .ret (({c1.1 with clock:=c8.1}:Door),c8.2))<|
  .ret (c1.1,c2.2)
noncomputable def Ng:=cy st ⟨131,Tryz.f131,[],1⟩ [Bx,aw,eU,M0,MH,Ni,aE] [] [.wr false [.ptr 0]] [.box [.st .curs]] (λx y=>(y.1.1,())) Jd (λv=>[(true,lZ (.o true) (.o true) (.o true) (.o true) (.o true) v.1)]) (λx y v=>((v.2,()),())) Tryz.func131 (by kernel_rfl) trivial
noncomputable def Ig:FT (Curs×Unit) (Stac×Curs) (λx=>ae x.1) (λx v=>bL v.1∧ae v.2):= .mk λ(y0,_)=>
  .cal Fp.c (y0,()) λc1=>
  .cal ah.c (c1.2,12,()) λc2=>
  .ite (c2.1==0) (.cal HY.c (c2.2,()) λc3=>
   .ret (({c1.1 with link.mac:=c3.1.mac,link.ip:=c3.1.ip,link.cache:=c3.1.cache}:Stac),c3.2))<|
  .ite (c2.1==1) (.cal Jd.c (c2.2,()) λc4=>
   .ret ((⟨c1.1.link,c4.1⟩:Stac),c4.2))<|
  .ret (c1.1,c2.2)
noncomputable def MW:=cy st ⟨51,Tryz.f51,[],1⟩ [K2,aw,LU,Ng] [] [.wr false [.ptr 0]] [.box [.st .curs]] (λx y=>(y.1.1,())) Ig (λv=>[(true,sI (.o true) (.o true) (.o true) (.o true) (.o true) (.o true) v.1)]) (λx y v=>((v.2,()),())) Tryz.func51 (by kernel_rfl) trivial
noncomputable def rK:FT (List Int×Unit) (Stac×Acti) (λx=>sS x.1∧x.1.length≤1048576) (λx v=>bL v.1∧f7 v.2):= .mk λ(x0,_)=>
  .cal Rj.c (x0,()) λc1=>
  .cal Ig.c (c1,()) λc2=>
  .cal Jh.c (c2.2,c2.1,()) λc3=>
  .ret (c2.1,c3.1)
noncomputable def Jk:=bm st Tryz.func11 [RM,MW,MB] (ks:=[.sc (.sl .u8)]) rK (λv=>[(true,sI .c .c .c .c .c .c v.1),(true,PC (.o true) v.2)])
noncomputable def yY:=[VG,Jk,TB,La,Kw,p8,s9,ji]
def jV:Sh:=⟨[zp 3 0,zo 7 1,zi 8],[.box [.st .stac [.sl .any,.sl .any,.sl .any,.sl .any,.sl .any,.sl .any]],za .issu]⟩
noncomputable def yC:Fx:=⟨9,Tryz.f9,[(0,lb [3,7,8] [2])],0⟩
noncomputable def ni (v1:Stac)(v2:List Issu)(v0:Int)(a:Unit):Tr (Stp (Unit) ((Unit)⊕(Unit))):=
 .cal jq.c (v1,()) λc6=>
 .ite c6 (.grd (dr v2 v0)<|
  .cal jK.c (v1.door.keys,(v2.getD v0.toNat (Ty.zero .issu)).tuple,(v2.getD v0.toNat (Ty.zero .issu)).seq,(v2.getD v0.toNat (Ty.zero .issu)).cookie,()) λc7=>
  .cal fN.c (v1.door.halves,(v2.getD v0.toNat (Ty.zero .issu)).tuple,()) λc8=>
  .ite (!c7.2.2) (.ite (decide (c8<0)) (.ret (.out (.inl ())))<|
   .grd (dr v1.door.halves c8)<|
   .ite ((v1.door.halves.getD c8.toNat (Ty.zero .half)).iss != (v2.getD v0.toNat (Ty.zero .issu)).cookie) (.ret (.out (.inl ())))<|
   .ret (.next ()))<|
  .ret (.next ()))<|
 .ret (.out (.inr (())))
noncomputable def ew:jV.V→tM jV Unit ((Unit)⊕(Unit)):=λ(v0,v1,v2,_)=>⟨v0,(),λv0 _=>(v0,v1,v2,()),λv0 _=>(decide (v0<(v2.length:Int))),ni v1 v2,up,1,(Int.toNat ((v2.length:Int)-v0)),.inl,eR,λ_ k w=>Sum.elim (oB .ret ⟨[zb 2],[]⟩ (λ_=>(false,())) (.exit 0) ⟨[zu 2],[]⟩ (λ_=>()) _ k) (λ_=>k (.exit 0) (Sh.enc ⟨[zu 2],[]⟩ ())) w⟩
theorem Di:LS Tryz.prog yC [0] (jz 0 jV ew):=eB st (aV yY) _ ew [] trivial
theorem C9 {v0:Int}{v1:Stac}{v2:List Issu}(h0:0≤v0)(h1:(v2.length:Int)≤4611686018427387904)(h2:bL v1):(ew (v0,v1,v2,())).U (v2.length:Int) (λ_ _=>True) (λ_=>True):=
 kN h0 h1 trivial
noncomputable def pr:FX (List Int×Unit) (Bool) (λ_=>True) (x9 [.sc (.sl .u8)]):=⟨λ(x0,_)=>
  .val (F4.f (x0,())) λc1=>
  .ite c1 (.ret true)<|
  .cal rK.c (x0,()) λc2=>
  .cal qf.c (c2.1,c2.2,()) λc3=>
  .cal si.c (c2.1,c3.2,()) λc4=>
  .cal rY.c (c2.1,c3.2,()) λc5=>
  .ite ((c4.length:Int) != (c5.length:Int)) (.ret false)<|
  .lp (ew (0,c2.1,c4,())).lp λw9=> .sum w9 (λq9=> .sum q9 (λ_=>
  .ret false)<|
  λ_=>
  .ret true)<|
  λ_=>
  .ret true,
 λ(x0,_) hp hf=>by
  simp only[x9,Pk.fact,Ms,BI,Fl.fact,Ty.fl,Ty.toH]at hf
  refine Tr.V λ_ _=>Tr.I (λ_=>Tr.R trivial) λ_=>Tr.C ?_ λ_ _ _=>Tr.C ?_ λ_ _ _=>Tr.C ?_ λ_ _ _=>Tr.C ?_ λ_ _ _=>Tr.I (λ_=>Tr.R trivial) λ_=>Tr.L (C9 ?_ ?_ ?_) (λ_ _=>Tr.Sr (Tr.R trivial)) (Tr.W2 (λ_ _=>Tr.Sl (Tr.Sl (Tr.R trivial))) (λ_ _=>Tr.Sl (Tr.Sr (Tr.R trivial))))
  all_goals ((try simp only[ew,LC.lp,LC.ct,Ct.lp]at*)<;>grind)⟩
noncomputable def Ld:=Yv st yC yY [(jz 0 jV ew)] (ks:=[.sc (.sl .u8)]) pr rB Tryz.func9 ⟨Di,trivial⟩
theorem cK (n b:Int):aD.f (n,b,())=aa.f (n,b,()):=by
 simp only[PX,aD,aa,bE,ax]
 cases h:(decide (1≤b)&&decide (b≤62))with
 |false=>simp only[cond_false]
 |true=>
  have h1:1≤b∧b≤62:=by simpa using h
  rw[NI (by omega) (by omega)]
theorem qv (x:Tupl):jh.f (x,())=aL.f (x,()):=by
 simp only[PX,jh,aL,cK]
theorem gC (x:Opti):dX.f (x,())=ay.f (x,()):=by
 simp only[PX,dX,ay,cK,bE,ax]
theorem Rv (x:Int):yB.f (x,())=fq.f (x,()):=by
 simp only[PX,yB,fq,bE,ax]
theorem Yl:fq.f (0,())=64∧fq.f (1,())=256∧fq.f (2,())=536∧fq.f (3,())=1024∧fq.f (4,())=1300∧fq.f (5,())=1400∧fq.f (6,())=1440∧fq.f (7,())=1460:=by
 simp[PX,fq,ax]
theorem O0 (x:Int):sm.f (x,())=fM.f (x,()):=by
 obtain⟨h0,h1,h2,h3,h4,h5,h6,h7⟩:=Yl
 simp only[PX,sm,fM,jW,du,show Int.toNat (8-0)=8 from rfl,show Int.toNat (7-0)=7 from rfl,aX,tB,jY,Rv]
 simp only[show(0:Int)+1=1 from rfl,show(1:Int)+1=2 from rfl,show(2:Int)+1=3 from rfl,show(3:Int)+1=4 from rfl,show(4:Int)+1=5 from rfl,show(5:Int)+1=6 from rfl,show(6:Int)+1=7 from rfl,
  show(7:Int)+ -1=6 from rfl,show(6:Int)+ -1=5 from rfl,show(5:Int)+ -1=4 from rfl,show(4:Int)+ -1=3 from rfl,show(3:Int)+ -1=2 from rfl,show(2:Int)+ -1=1 from rfl,h0,h1,h2,h3,h4,h5,h6,h7]
 grind [Stp.elim]
theorem lQ (x:Int):bJ.f (x,())=x%4294967296:=by
 simp only[PX,bJ]
 rcases Int.lt_or_le x 0 with h|h
 ·rw[(eY 4294967296).2 h,dh]
  cases hd:decide (-(-x%4294967296)<0)with
  |true=>simp only[decide_eq_true_eq]at hd;simp only[cond_true];omega
  |false=>simp only[decide_eq_false_iff_not]at hd;simp only[cond_false];omega
 ·rw[(eY 4294967296).1 h,dh]
  cases hd:decide (x%4294967296<0)with
  |true=>simp only[decide_eq_true_eq]at hd;omega
  |false=>rfl
theorem cC (a b:Int):lD.f (a,b,())=(a+b)%4294967296:=by
 simp only[PX,lD]
 rw[sa,dh];omega
theorem gY (a b:Int):bH.f (a,b,())=lD.f (a,b,()):=by
 rw[cC]
 simp only[PX,bH,lQ,dh];omega
theorem RR (x y:Mac):nZ.f (x,y,())=vO.f (x,y,()):=by
 simp only[PX,nZ,vO,oQ,kO,f8,ub,nr]
 have e1:(x.k != y.k)= !(x.k==y.k):=rfl
 have e2:(x.l != y.l)= !(x.l==y.l):=rfl
 rw[e1,e2]
 cases(x.use==y.use)<;>cases(x.k==y.k)<;>cases(x.l==y.l)<;>cases((x.rows.length:Int) != (y.rows.length:Int))<;>rfl
theorem mp (n b:Int):aM.f (n,b,())=av.f (n,b,()):=by
 simp only[PX,aM,av,cK,bE,ax,iX,dW]
 cases h1:(decide (1≤b)&&decide (b≤6))with
 |false=>rfl
 |true=>
  cases h2:aa.f (n,(IntKind.wrap .i64 (8*b)),())with
  |false=>rfl
  |true=>
   have hb:0≤n∧n≤9223372036854775807:=by
    revert h2
    simp only[PX,aa,ax]
    cases(decide (1≤IntKind.wrap .i64 (8*b))&&decide (IntKind.wrap .i64 (8*b)≤62))with
    |false=>simp
    |true=>
     simp only[cond_true,Bool.and_eq_true,decide_eq_true_eq]
     generalize(IntKind.wrap .i64 (1*2 ^ (min (IntKind.wrap .i64 (8*b)).toNat 64)))=z
     rw[dh]
     omega
   have e:∀k i r,aX (λj a=>(lG j a).nice) (-1) k i (n,r)=aX (λj a=>(dd j a).nice) (-1) k i (n,r):=by
    intro k i r
    refine Bh (P:=λa=>0≤a.1∧a.1≤9223372036854775807) (λi a ha=> ?_) (λi a a' ha he=> ?_) k i (n,r) hb
    ·simp only[PX,lG,dd]
     rw[(pt 256).1 ha.1,(eY 256).1 ha.1,au (by omega) (by omega),Int.fdiv_eq_ediv_of_nonneg a.1 (by omega),n8,n8,Int.emod_emod]
    ·simp only[PX,lG]at he
     cases he
     show 0≤IntKind.wrap .i64 (a.1.tdiv 256)∧_
     rw[(pt 256).1 ha.1,au (by omega) (by omega)]
     omega
   simp only[e]
theorem HR (x:Int):mJ.f (x,())=dL.f (x,()):=by simp only[PX,mJ,dL,cK]
theorem Qf (x:Tupl)(a b c:Int):sF.f (x,a,b,c,())=er.f (x,a,b,c,()):=by simp only[PX,sF,er,mp,qv,cK,bE,ax]
theorem UB (x:Mac)(r:List MacRow)(j:Nat)(hj:j<r.length)(hr:x.rows=r):
  Stp.elim (γ:=Stp Unit Unit) (λ_=> .next ()) (λ_=> .out ()) (aX (λi a=>(pj (j:Int) x i a).nice) 1 (Int.toNat ((j:Int)-0)) 0 ())=
  bif cl.f (((r.take j).drop 0),(r.getD j (Ty.zero .macRow)),())then .out ()else .next ():=by
 subst hr
 let p:MacRow→Bool:=λy=>y.input==(x.rows.getD j (Ty.zero .macRow)).input
 simp only[PX,cl,ez,bh]
 rw[List.drop_zero]
 have hl:(x.rows.take j).length=j:=by rw[List.length_take];omega
 rw[eb (x.rows.take j) _ (by rw[hl];simp) (F:=λq y a=>bif p y then .out ()else .next ()) (by
  intro q y a h
  have hq:q<j:=by
   have:=(List.getElem?_eq_some_iff.1 h).1;omega
  have h2:x.rows[q]? =some y:=by rw[List.getElem?_take]at h;simpa [hq]using h
  simp only[PX,pj,ai,getD_some h2,p])]
 rw[eb (x.rows.take j) _ (by simp) (F:=λq y a=>bif p y then .out (q:Int)else .next ()) (by
  intro q y a h
  simp only[PX,fu,Ay,ai,getD_some h,p])]
 rw[iY (w:=λ_ _=>()),iY (w:=λj _=>(j:Int))]
 cases h:(x.rows.take j).findIdx? p with
 |none=>simp[PX,Stp.elim]
 |some i=>
  have:=(List.findIdx?_eq_some_iff_getElem.1 h).1
  simp only[List.getElem?_eq_getElem this,Stp.elim]
  simp[PX]
theorem V3 (x:Mac):pK.f (x,())=sy.f (x,()):=by
 simp only[PX,pK,sy,jm,nR]
 have e:aX (λj a=>(r9 x j a).nice) 1 (Int.toNat ((x.rows.length:Int)-0)) 0 ()=aX (λj a=>(nM x.rows x j a).nice) 1 (Int.toNat ((x.rows.length:Int)-0)) 0 ():=by
  rw[bq]
  refine Oo x.rows.length 0 () (λj a hj=> ?_)
  have:=UB x x.rows j (by omega) rfl
  simp only[PX,r9,nM,fa,ai,bE,ax]at this⊢
  rw[this]
 rw[e]
 have e1:(x.k != 0)= !(x.k==0):=rfl
 have e2:(x.l != 0)= !(x.l==0):=rfl
 have e3:decide (64<(x.rows.length:Int))= !decide ((x.rows.length:Int)≤64):=by
  rcases Int.lt_or_le 64 (x.rows.length:Int)with h|h
  ·simp[h,show¬((x.rows.length:Int)≤64) by omega]
  ·simp[h,show¬(64<(x.rows.length:Int)) by omega]
 rw[e1,e2,e3]
 generalize aX (λj a=>(nM x.rows x j a).nice) 1 (Int.toNat ((x.rows.length:Int)-0)) 0 ()=z
 cases x.use<;>cases z<;>cases(x.k==0)<;>cases(x.l==0)<;>cases decide ((x.rows.length:Int)≤64)<;>simp[PX,Stp.elim]
theorem LR (k:Keys):rf.f (k,())=eS.f (k,()):=by
 simp only[PX,rf,eS,cK,V3,RR,bb,ax]
 cases ht:k.two<;>simp only[PX,cond_true,cond_false,ht]<;>cases sy.f (k.now,())<;>cases sy.f (k.before,())<;>grind
theorem D5 (x n:Int)(h:bits .and .u64 (IntKind.wrap .u64 n) 63=n):cM.f (x,n,())=jp.f (x,n,()):=by
 simp only[PX,cM,jp,h]
theorem E3 (x:Sipr):gL.f (x,())=jb.f (x,()):=by
 simp only[PX,gL,jb,D5 _ 13 (by decide+kernel),D5 _ 16 (by decide+kernel),D5 _ 17 (by decide+kernel),D5 _ 21 (by decide+kernel),D5 _ 32 (by decide+kernel)]
theorem Jb (x:Sipr)(m:Int):qL.f (x,m,())=rg.f (x,m,()):=by
 simp only[PX,qL,rg,E3]
theorem PA (k l:Int):sN.f (k,l,())=oG.f (k,l,()):=by simp only[PX,sN,oG]
theorem UT (x:Sipr):x8.f (x,())=qR.f (x,()):=by
 simp only[PX,x8,qR,jJ,E3]
 have e:(λ(j:Int) a=>(qr j a).nice)=λ_ a=>Stp.next (jb.f (a,())):=rfl
 rw[e]
 generalize FT.f jb=R
 rfl
theorem oi (n:Int)(h0:0≤n)(h1:n<2 ^ 64):IntKind.u64.wrap n=n:=by rw[vH];omega
theorem Y0 (a b:Int)(ha:0≤a)(ha1:a<72057594037927936)(hb:0≤b)(hb1:b<256):bits .or .u64 (IntKind.wrap .u64 (a*256)) (IntKind.wrap .u64 b)=a*256+b:=by
 rw[oi _ (by omega) (by omega),oi _ (by omega) (by omega)]
 exact bits_join .u64 64 (by decide) oi 8 _ _ (by omega) (by omega) (by omega) (by omega) (by omega) (by omega)
def Em (g:Nat→Int):Nat→Int→Int
 |0,a=>a
 |k+1,a=>Em g k (a*256+g k)
theorem AF {g h:Nat→Int}:∀(k:Nat) (a:Int),(∀j,j<k→g j=h j)→Em g k a=Em h k a
 |0,_,_=>rfl
 |k+1,a,e=>by simp only[Em,e k (Nat.lt_succ_self _)];exact AF k _ λj hj=>e j (by omega)
theorem Ds {g:Nat→Int}:∀(k:Nat) (a:Int),Em g k a=a*256 ^ k+Em g k 0
 |0,a=>by simp[Em]
 |k+1,a=>by
  simp only[Em]
  rw[Ds k (a*256+g k),Ds k (0*256+g k),Int.pow_succ,Int.add_mul,Int.zero_mul,Int.zero_add,Int.mul_assoc,Int.mul_comm 256 (256 ^ k),Int.add_assoc]
theorem U7 (k:Nat):(1:Int)≤256 ^ k:=by
 have:=Int.pow_pos (n:=256) (m:=k) (by decide)
 omega
theorem TU {g:Nat→Int}(hg:∀k,0≤g k∧g k≤255):∀(k:Nat),0≤Em g k 0∧Em g k 0<256 ^ k
 |0=>by simp[Em]
 |k+1=>by
  have h:=TU hg k
  simp only[Em]
  rw[Ds,Int.zero_mul,Int.zero_add,Int.pow_succ]
  have h1:=hg k
  have h2:=U7 k
  have h3:0≤g k*256 ^ k:=Int.mul_nonneg h1.1 (by omega)
  have h4:g k*256 ^ k≤255*256 ^ k:=Int.mul_le_mul_of_nonneg_right h1.2 (by omega)
  omega
theorem Ge {f:Int→Int→Stp Int Empty}{g:Nat→Int}(hg:∀k,0≤g k∧g k≤255)(hf:∀(k:Nat) a,f (k:Int) a= .next (bits .or .u64 (IntKind.wrap .u64 (a*256)) (IntKind.wrap .u64 (g k)))):
  ∀(k:Nat) (a:Int),0≤a→(a+1)*256 ^ k≤18446744073709551616→aX f (-1) k ((k:Int)-1) a= .next (Em g k a)
 |0,a,_,_=>rfl
 |k+1,a,h0,h1=>by
  have hp:=U7 k
  rw[Int.pow_succ,Int.mul_comm (256 ^ k) 256,←Int.mul_assoc]at h1
  have h2:(a+1)*256*1≤(a+1)*256*256 ^ k:=Int.mul_le_mul_of_nonneg_left hp (by omega)
  have h3:=hg k
  simp only[aX,Em]
  rw[show((k+1:Nat):Int)-1=(k:Int) by omega,hf,Y0 a (g k) h0 (by omega) h3.1 (by omega)]
  simp only[Stp.elim]
  rw[show(k:Int)+ -1=(k:Int)-1 by omega]
  refine Ge hg hf k _ (by omega) ?_
  have h4:(a*256+g k+1)*256 ^ k≤(a+1)*256*256 ^ k:=Int.mul_le_mul_of_nonneg_right (by omega) (by omega)
  omega
theorem vU (s:ac)(k:Nat):0≤af s k∧af s k≤255:=fS s k
theorem Ik (s:ac)(h:s.length≤8):oj.f (s,())=Em (af s) s.length 0:=by
 simp only[PX,oj,mB]
 rw[au (by omega) (by omega)]
 rw[show Int.toNat ((s.length:Int)-1-0+1)=s.length by omega]
 rw[Ge (g:=af s) (vU s) (λk a=>rfl) s.length 0 (by omega) ?_]
 ·rfl
 ·have:∀k:Nat,k≤8→(0+1:Int)*256 ^ k≤18446744073709551616:=by decide
  exact this _ h
theorem IL (l:List Int)(h:∀k,0≤l.getD k 0∧l.getD k 0≤255):ph.f (l,())=Em (λk=>l.getD k 0) 8 0:=by
 simp only[PX,ph,mA]
 rw[show Int.toNat (7-0+1)=8 from rfl,show(7:Int)=((8:Nat):Int)-1 from rfl]
 rw[Ge (g:=λk=>l.getD k 0) h (λk a=>rfl) 8 0 (by omega) (by decide)]
 rfl
theorem Fi {A B W W':Type}[Inhabited W][Inhabited W']{f:A→Stp A W}{g:B→Stp B W'}{R:A→B→Prop}{Q:W→W'→Prop}{ma:A→Nat}{mb:B→Nat}
  (h:∀a b,R a b→(∃a' b',f a= .next a'∧g b= .next b'∧R a' b'∧ma a'<ma a∧mb b'<mb b)∨(∃w w',f a= .out w∧g b= .out w'∧Q w w')):
  ∀(m m':Nat) (a:A) (b:B),ma a<m→mb b<m'→R a b→Q (bG f m a) (bG g m' b)
 |0,_,_,_,h1,_,_=>absurd h1 (Nat.not_lt_zero _)
 |_+1,0,_,_,_,h2,_=>absurd h2 (Nat.not_lt_zero _)
 |m+1,m'+1,a,b,h1,h2,hr=>by
  rcases h a b hr with⟨a',b',e1,e2,hr',l1,l2⟩|⟨w,w',e1,e2,hq⟩
  ·simp only[bG,e1,e2,Stp.elim]
   exact Fi h m m' a' b' (by omega) (by omega) hr'
  ·simp only[bG,e1,e2,Stp.elim]
   exact hq
theorem Uz {g:Nat→Int}(k:Nat)(a:Int):Em g (k+1) a=Em g k (a*256+g k):=rfl
theorem U4 {α:Type}{xs:List α}{j:Nat}(h:j<xs.length)(v z:α):(xs.set j v).getD j z=v:=by
 simp[List.getD,List.getElem?_set,h]
theorem vo (s:ac)(k:Nat):(dB s).getD k 0=af s k:=by
 simp only[dB,af,List.getD,List.getElem?_map]
 cases s[k]? <;>rfl
theorem B9 (s:ac)(n k:Nat):af (s.drop n) k=af s (n+k):=by
 simp only[af,List.getD,List.getElem?_drop]
theorem Nj (s:ac)(n k:Nat)(h:k<n):af (s.take n) k=af s k:=by
 simp only[af,List.getD,List.getElem?_take,if_pos h]
theorem Bz (s:ac)(k:Nat)(h:s.length≤k):af s k=0:=by
 simp[af,List.getD,h]
theorem Rm {g:Nat→Int}(r:Nat):∀(m:Nat),(∀j,r≤j→j<r+m→g j=0)→Em g (r+m) 0=Em g r 0
 |0,_=>rfl
 |m+1,h=>by
  rw[show r+(m+1)=(r+m)+1 from rfl]
  simp only[Em]
  rw[h (r+m) (by omega) (by omega)]
  exact Rm r m λj h1 h2=>h j h1 (by omega)
theorem Kt (k:IntKind)(a b:Int):bits .or k a b=bits .or k b a:=by
 simp only[bits,BitVec.or_comm]
def XC (x:ac)(a:Int×Sipr)(b:List Int×Sipr):Prop:=0≤a.1∧a.1≤x.length∧b.1=dB (x.drop a.1.toNat)∧a.2=b.2
theorem N3 (s:ac)(n:Nat):(dB s).drop n=dB (s.drop n):=by simp[dB]
theorem Sg (x:ac)(hx:x.length≤4294967296)(z:Sipr):XC x (bG (λa=>(iV x (x.length:Int) a).nice) (Int.toNat ((x.length:Int)-0)+1) (0,z)) (bG (λa=>(kP a).nice) ((dB x).length+1) (dB x,z))∧
  (x.length:Int)<(bG (λa=>(iV x (x.length:Int) a).nice) (Int.toNat ((x.length:Int)-0)+1) (0,z)).1+8:=by
  refine Fi (R:=XC x) (Q:=λw w'=>XC x w w'∧(x.length:Int)<w.1+8) (ma:=λa=>Int.toNat ((x.length:Int)-a.1)) (mb:=λb=>b.1.length) ?_ _ _ _ _ ?_ ?_ ?_
  ·intro a b hr
   obtain⟨h1,h2,h3,h4⟩:=hr
   have hb:(b.1.length:Int)=(x.length:Int)-a.1:=by rw[h3,mK,List.length_drop];omega
   simp only[PX,iV,kP]
   rw[au (by omega) (by omega)]
   cases hd:decide (a.1+8≤(x.length:Int))with
   |true=>
    simp only[decide_eq_true_eq]at hd
    rw[show decide (8≤(b.1.length:Int))=true by simp only[decide_eq_true_eq];omega]
    refine .inl ⟨_,_,rfl,rfl,⟨?_, ?_, ?_, ?_⟩, ?_, ?_⟩
    ·simp only[];omega
    ·simp only[];omega
    ·simp only[]
     rw[ai,List.take_length,h3,N3,List.drop_drop,show(a.1+8).toNat=a.1.toNat+8 by omega]
    ·have e:oj.f ((x.take (a.1+8).toNat).drop a.1.toNat,())=ph.f (b.1,()):=by
      have hl:((x.take (a.1+8).toNat).drop a.1.toNat).length=8:=by rw[List.length_drop,List.length_take];omega
      rw[Ik _ (by omega),hl,IL _ (λk=>by rw[h3,vo];exact vU _ _)]
      refine AF 8 0 λj hj=> ?_
      rw[h3,vo,B9,B9,Nj _ _ _ (by omega)]
     simp only[e,h4,Jb]
    ·simp only[];omega
    ·simp only[ai,List.take_length,List.length_drop];omega
   |false=>
    simp only[decide_eq_false_iff_not]at hd
    rw[show decide (8≤(b.1.length:Int))=false by simp only[decide_eq_false_iff_not];omega]
    exact .inr ⟨_,_,rfl,rfl,⟨h1,h2,h3,h4⟩,by show(x.length:Int)<a.1+8;omega⟩
  ·exact Nat.lt_succ_self _
  ·exact Nat.lt_succ_self _
  ·exact⟨by simp,by simp,by simp,rfl⟩
theorem Uy (x:ac)(hx:x.length≤4294967296)(p:Int)(q:List Int)(h1:0≤p)(h2:p≤x.length)(h3:q=dB (x.drop p.toNat))(h5:(x.length:Int)<p+8):
  bits .or .u64 (oj.f (x.drop p.toNat,())) (IntKind.wrap .u64 ((IntKind.wrap .u64 ((x.length:Int).tmod 256))*72057594037927936))=ph.f ((q++(List.replicate 8 0).drop q.length).set 7 (IntKind.wrap .u8 (x.length:Int)),()):=by
 have hl:(x.drop p.toNat).length=x.length-p.toNat:=by simp
 have hq:q.length=x.length-p.toNat:=by rw[h3,mK,hl]
 generalize hy:x.drop p.toNat=y at h3 hl
 have hy8:y.length≤7:=by omega
 rw[Ik y (by omega)]
 have hb7:IntKind.u8.wrap (x.length:Int)=(x.length:Int)%256:=n8 _
 have hm:IntKind.u64.wrap ((x.length:Int).tmod 256)=(x.length:Int)%256:=by
  rw[(eY 256).1 (by omega),oi _ (by omega) (by omega)]
 rw[hb7,hm]
 have hg:∀k,((q++(List.replicate 8 (0:Int)).drop q.length).set 7 ((x.length:Int)%256)).getD k 0=if k=7 then(x.length:Int)%256 else af y k:=by
  intro k
  by_cases e:k=7
  ·subst e
   rw[if_pos rfl]
   exact U4 (by simp;omega) _ _
  ·rw[if_neg e,List.getD,List.getElem?_set_ne (by omega)]
   by_cases hk:k<q.length
   ·rw[List.getElem?_append_left hk,h3,←List.getD_eq_getElem?_getD,vo]
   ·rw[List.getElem?_append_right (by omega),List.getElem?_drop,List.getElem?_replicate,Bz y k (by omega)]
    split<;>rfl
 rw[IL _ (λk=>by
  rw[hg]
  split
  ·omega
  ·exact vU _ _)]
 have hbd:=TU (g:=af y) (vU y) y.length
 have hp7:(256:Int) ^ y.length≤72057594037927936:=by
  have:∀k:Nat,k≤7→(256:Int) ^ k≤72057594037927936:=by decide
  exact this _ hy8
 have e1:Em (λk=>((q++(List.replicate 8 (0:Int)).drop q.length).set 7 ((x.length:Int)%256)).getD k 0) 8 0=((x.length:Int)%256)*72057594037927936+Em (af y) y.length 0:=by
  refine(Uz 7 0).trans ?_
  rw[hg 7,if_pos rfl,Ds,Int.zero_mul,Int.zero_add,show(256:Int) ^ 7=72057594037927936 from rfl]
  congr 1
  rw[AF 7 0 (h:=af y) λj hj=>by rw[hg,if_neg (by omega)]]
  have:=Rm (g:=af y) y.length (7-y.length) λj h1 _=>Bz y j h1
  rw[show y.length+(7-y.length)=7 by omega]at this
  exact this
 rw[e1,Kt,oi ((x.length:Int)%256*72057594037927936) (by omega) (by omega)]
 exact bits_join .u64 64 (by decide) oi 56 _ _ (by omega) (by omega) (by omega) (by omega) (by omega) (by omega)
theorem SH (k l:Int)(x:ac)(hx:x.length≤4294967296):vW.f (k,l,x,())=mn.f (k,l,x,()):=by
 simp only[PX,vW,mn,lv,kR,PA,List.length_replicate]
 generalize oG.f (k,l,())=z
 have key:=Sg x hx z
 generalize bG (λa=>(iV x (x.length:Int) a).nice) (Int.toNat ((x.length:Int)-0)+1) (0,z)=p at key⊢
 generalize bG (λa=>(kP a).nice) ((dB x).length+1) (dB x,z)=q at key⊢
 obtain⟨⟨h1,h2,h3,h4⟩,h5⟩:=key
 have hq:q.1.length=x.length-p.1.toNat:=by rw[h3,mK,List.length_drop]
 have ht:q.1.take 8=q.1:=List.take_of_length_le (by omega)
 obtain⟨p,pz⟩:=p
 obtain⟨q,qz⟩:=q
 simp only[PX,ht,UT,Jb]at*
 rw[h4,show((x.take (x.length:Int).toNat).drop p.toNat)=x.drop p.toNat by rw[ai,List.take_length]]
 rw[Uy x hx p q h1 h2 h3 h5]
theorem Vs (m:Mac)(x:ac)(hx:x.length≤4294967296):Dn.f (m,x,())=nK.f (m,x,()):=by
 simp only[PX,Dn,nK,nI,lF,SH _ _ _ hx]
 rw[show aX (λj a=>(rG x m j a).nice) 1 (Int.toNat ((m.rows.length:Int)-0)) 0 ()=aX (λj a=>(jk x m.rows j a).nice) 1 (Int.toNat ((m.rows.length:Int)-0)) 0 () from OX (λi a=>by
  simp only[PX,rG,jk]
  generalize(m.rows.getD i.toNat (Ty.zero .macRow))=r
  cases(r.input==x)with
  |false=>rfl
  |true=>
   simp only[cond_true]
   have h1:=eY (a:=r.value) 16777216
   rcases Int.lt_or_le r.value 0 with h|h
   ·have e:=h1.2 h
    generalize r.value.tmod 16777216=t at e
    rw[au (by omega) (by omega)]
    cases hd:decide (t<0)with
    |true=>simp only[decide_eq_true_eq]at hd;simp only[cond_true];rw[(eY 16777216).1 (by omega),Int.emod_eq_of_lt (by omega) (by omega)]
    |false=>simp only[decide_eq_false_iff_not]at hd;simp only[cond_false];rw[(eY 16777216).1 (by omega),show t=0 by omega];rfl
   ·have e:=h1.1 h
    generalize r.value.tmod 16777216=t at e
    rw[au (by omega) (by omega)]
    cases hd:decide (t<0)with
    |true=>simp only[decide_eq_true_eq]at hd;omega
    |false=>simp only[cond_false];rw[(eY 16777216).1 (by omega)];congr 1;omega) _ _ _]
theorem KC (t:Tupl)(a b c:Int):(er.f (t,a,b,c,())).length≤40:=(er.c.h (t,a,b,c,()) trivial).2
theorem Gr (m:Mac)(t:Tupl)(a b c:Int):oJ.f (m,t,a,b,c,())=cZ.f (m,t,a,b,c,()):=by
 simp only[PX,oJ,cZ,Qf]
 rw[Vs _ _ (by have:=KC t a b c;omega)]
theorem I4 (m:Mac):jg.f (m,())=m:=by simp only[PX,jg,List.nil_append]
theorem xQ (m:Mac):kf.f (m,())=m:=by simp only[PX,kf,lc]
theorem Qs (k:Keys)(e:Int):sA.f (k,e,())=kh.f (k,e,()):=by
 simp only[PX,sA,kh,I4,xQ]
theorem VV (f:Int→Unit→Stp Unit (Int⊕Unit))(g:Int→Unit→Stp Unit Int)(E:Int)(h0:0≤E)(h1:E≤4294967295)
  (hfg:∀e,E-1≤e→f e ()=Stp.elim (λ_=> .next ()) (λw=> .out (.inl w)) (g e ()))(hend:∀e,e<E-1→f e ()= .out (.inr ()))(i:Int):
  Stp.elim (λ_=>((0:Int),(0:Int),false)) (Sum.elim (λp=>(p,i,true)) (λ_=>(0,0,false))) (aX f (-1) (Int.toNat (E-0+1)) E ())=
  Stp.elim (λ_=>(0,0,false)) (λp=>(p,i,true)) (aX g (-1) (Int.toNat (E-(if 0<(IntKind.wrap .i64 (E-1))then(IntKind.wrap .i64 (E-1))else 0)+1)) E ()):=by
 rw[au (by omega) (by omega)]
 rcases(show E=0∨E=1∨2≤E by omega)with rfl|rfl|h
 ·rw[if_neg (by omega),show Int.toNat (0-0+1)=1 from rfl]
  simp only[aX,hfg 0 (by omega)]
  cases g 0 ()<;>rfl
 ·rw[if_neg (by omega),show Int.toNat (1-0+1)=2 from rfl]
  simp only[aX,hfg 1 (by omega),show(1:Int)+ -1=0 from rfl,hfg 0 (by omega)]
  cases g 1 ()with
  |out w=>rfl
  |next a=>simp only[Stp.elim];cases g 0 ()<;>rfl
 ·rw[if_pos (by omega),show Int.toNat (E-(E-1)+1)=2 by omega]
  obtain⟨m,hm⟩:∃m:Nat,Int.toNat (E-0+1)=m+3:=⟨Int.toNat (E-2),by omega⟩
  rw[hm]
  simp only[aX,hfg E (by omega),hfg (E+ -1) (by omega),hend (E+ -1+ -1) (by omega)]
  cases g E ()with
  |out w=>rfl
  |next a=>simp only[Stp.elim];cases g (E+ -1) ()<;>rfl
theorem CV (x:Int):decide ((dL.f (x,())).2.1<0)= !aa.f (x,32,()):=by
 simp only[PX,dL,bb]
 cases hd:(decide (0≤x)&&decide (x≤4294967295))with
 |false=>rfl
 |true=>
  simp only[Bool.and_eq_true,decide_eq_true_eq]at hd
  simp only[Bool.not_true,cond_false]
  rw[(pt 16777216).1 hd.1,au (by omega) (by omega),(eY 8).1 (by omega)]
  simp only[decide_eq_false_iff_not]
  omega
theorem nT (k:Keys)(h:eS.f (k,())=true):0≤k.epoch∧k.epoch≤4294967295:=by
 simp only[PX,eS,ax]at h
 revert h
 cases k.two<;>simp only[PX,cond_true,cond_false]<;>grind
theorem wC (k:Keys)(t:Tupl)(a b:Int):jK.f (k,t,a,b,())=cb.f (k,t,a,b,()):=by
 simp only[PX,jK,cb,gX,fb,LR,HR,CV]
 cases hk:eS.f (k,())with
 |false=>rfl
 |true=>
  simp only[Bool.not_true,cond_false]
  cases aa.f (b,32,())with
  |false=>rfl
  |true=>
   simp only[Bool.not_true,cond_false]
   have he:=nT k hk
   refine VV _ _ k.epoch he.1 he.2 (λe h=> ?_) (λe h=> ?_) _
   ·simp only[PX,kp,gN]
    rw[au (by omega) (by omega)]
    simp only[Qs,Gr,decide_eq_true h,cond_true]
    cases(kh.f (k,e,())).2 with
    |false=>rfl
    |true=>
     simp only[cond_true]
     cases(cZ.f ((kh.f (k,e,())).1,t,a,e,(dL.f (b,())).2.1,())==b)<;>rfl
   ·simp only[PX,kp]
    rw[au (by omega) (by omega)]
    simp only[decide_eq_false (show¬(k.epoch-1≤e) by omega),cond_false]
theorem mQ (x:Segm):gD.f (x,())=aj.f (x,()):=by simp only[PX,gD,aj,cK,gC]
theorem UO (x:Int):eE.f (0,x,())=(if 0<x then x else 0):=by
 rw[oH];grind
theorem PR (d:Door)(t:Tupl)(g:Segm):sK.f (d,t,g,())=fL.f (d,t,g,()):=by
 simp only[PX,sK,fL,nY]
 cases(g.opts.mss==0)<;>simp only[PX,cond_true,cond_false]<;>simp only[O0,Gr,UO]
theorem SE (a b:Int)(c:Bool):vB.f (a,b,c,())=lW.f (a,b,c,()):=by
 simp only[PX,vB,lW,ax,sa]
 cases c<;>simp only[PX,cond_true,cond_false]<;>simp only[bE,lQ]<;>cases(decide (0≤b)&&decide (b≤14))<;>simp only[cond_true,cond_false,Bool.not_true,Bool.not_false,dh]<;>omega
theorem Cy (o:Opti)(c:Int):jR.f (o,c,())=fv.f (o,c,()):=by
 simp only[PX,jR,fv,bE,ax]
 cases(decide (0≤o.scale)&&decide (o.scale≤14))<;>simp only[PX,cond_true,cond_false]<;>simp only[SE]
theorem Uq (d:Door)(t:Tupl)(g:Segm):ol.f (d,t,g,())=cA.f (d,t,g,()):=by
 simp only[PX,ol,cA,PR,gY,Cy]
theorem A8 {A W:Type}{f:Int→A→Stp A W}{st:Int}:∀(k:Nat) (i:Int) (a:A) (w:W),aX f st k i a= .out w→∃(n:Nat) (b:A),n<k∧f (i+st*(n:Int)) b= .out w
 |0,_,_,_,h=>by cases h
 |k+1,i,a,w,h=>by
  simp only[aX]at h
  cases hf:f i a with
  |out w'=>rw[hf]at h;simp only[Stp.elim]at h;cases h;exact⟨0,a,by omega,by simpa using hf⟩
  |next a'=>
   rw[hf]at h
   obtain⟨n,b,h1,h2⟩:=A8 k (i+st) a' w h
   exact⟨n+1,b,by omega,by rw[show i+st*((n+1:Nat):Int)=i+st+st*(n:Int) by rw[Int.natCast_add,Int.mul_add];omega];exact h2⟩
theorem xC {A W:Type}{f:Int→A→Stp A W}{st:Int}{P:A→Prop}(hp:∀i a a',P a→f i a= .next a'→P a'):∀(k:Nat) (i:Int) (a a':A),P a→aX f st k i a= .next a'→P a'
 |0,_,_,_,ha,h=>by cases h;exact ha
 |k+1,i,a,a',ha,h=>by
  simp only[aX]at h
  cases hf:f i a with
  |out w'=>rw[hf]at h;cases h
  |next a1=>rw[hf]at h;exact xC hp k _ a1 a' (hp i a a1 ha hf) h
theorem Tg (x:Sipr):0≤qR.f (x,()):=by
 simp only[PX,qR,jJ]
 cases aX (λj a=>(qr j a).nice) 1 (Int.toNat (4-0)) 0 ({x with c:=(bits .xor .u64 x.c 255)}:Sipr)with
 |next a=>exact(zL .xor .u64 _ _ (.inr (.inr (.inl rfl)))).1
 |out e=>exact Empty.elim e
theorem PP (k l:Int)(x:ac):0≤mn.f (k,l,x,()):=by
 simp only[PX,mn]
 exact Tg _
theorem YE (s:Int)(h:0≤s):0≤IntKind.wrap .i64 (s.tmod 16777216)∧IntKind.wrap .i64 (s.tmod 16777216)≤16777215:=by
 have h1:=Dz (b:=16777216) h
 have h2:=yt (a:=s) (show(0:Int)<16777216 by omega)
 rw[au (by omega) (by omega)];omega
theorem XZ (r:Int):0≤(IntKind.wrap .i64 (r.tmod 16777216+16777216)).tmod 16777216∧(IntKind.wrap .i64 (r.tmod 16777216+16777216)).tmod 16777216≤16777215:=by
 have h1: -16777216<r.tmod 16777216:=Int.lt_tmod_of_pos _ (by omega)
 have h2:=yt (a:=r) (show(0:Int)<16777216 by omega)
 rw[au (by omega) (by omega)]
 have h3:=Dz (a:=r.tmod 16777216+16777216) (b:=16777216) (by omega)
 have h4:=yt (a:=r.tmod 16777216+16777216) (show(0:Int)<16777216 by omega)
 omega
theorem S3 (m:Mac)(x:ac)(k:Nat)(i:Int)(w:Int)(hf:aX (λj a=>(jk x m.rows j a).nice) 1 k i ()= .out w):0≤w∧w≤16777215:=by
 obtain⟨n,b,_,h⟩:=A8 _ _ _ _ hf
 simp only[PX,jk]at h
 revert h
 generalize(m.rows.getD (i+1*(n:Int)).toNat (Ty.zero .macRow))=r
 cases(r.input==x)with
 |false=>simp only[cond_false];intro h;cases h
 |true=>simp only[cond_true];intro h;injection h with h;rw[←h];exact XZ r.value
theorem Ul (m:Mac)(x:ac):nK.f (m,x,())=bif !m.use then IntKind.wrap .i64 ((mn.f (m.k,m.l,x,())).tmod 16777216)else Stp.elim (λ_=>0) (λp=>p) (aX (λj a=>(jk x m.rows j a).nice) 1 (Int.toNat ((m.rows.length:Int)-0)) 0 ()):=by
 simp only[PX,nK,lF]
theorem Yb (u:Bool)(s:Int)(z:Stp Unit Int)(hs:0≤s)(hk:∀w,z= .out w→0≤w∧w≤16777215):
  0≤(bif !u then IntKind.wrap .i64 (s.tmod 16777216)else Stp.elim (λ_=>0) (λp=>p) z)∧(bif !u then IntKind.wrap .i64 (s.tmod 16777216)else Stp.elim (λ_=>0) (λp=>p) z)≤16777215:=by
 cases u with
 |false=>simp only[Bool.not_false,cond_true];exact YE s hs
 |true=>
  simp only[Bool.not_true,cond_false]
  cases z with
  |next a=>simp only[Stp.elim];omega
  |out w=>exact hk w rfl
theorem A3 (m:Mac)(x:ac):0≤nK.f (m,x,())∧nK.f (m,x,())≤16777215:=by
 rw[Ul]
 exact Yb m.use _ _ (PP m.k m.l x) (S3 m x (Int.toNat ((m.rows.length:Int)-0)) 0)
theorem Pl (n:Int)(h:aa.f (n,32,())=true):(av.f (n,4,())).length=4:=by
 simp only[PX,av,ax,dW,show IntKind.wrap .i64 (8*4)=32 from rfl,h,show(decide ((1:Int)≤4)&&decide ((4:Int)≤6))=true from rfl,Bool.not_true,cond_false,show IntKind.wrap .i64 (4-1)=3 from rfl,show Int.toNat (3-0+1)=4 from rfl,show Int.toNat 4=4 from rfl]
 cases hf:aX (λj a=>(dd j a).nice) (-1) 4 3 (n,List.replicate 4 0)with
 |out e=>exact Empty.elim e
 |next a=>
  have:=xC (P:=λa:Int×List Int=>a.2.length=4) (λi a a' ha h=>by
   simp only[PX,dd]at h
   cases h
   simpa using ha) _ _ _ _ (by simp) hf
  simp only[PX,Stp.elim,bi]
  exact this
theorem QE (t:Tupl)(h:aL.f (t,())=true):(0≤t.ip∧t.ip≤4294967295)∧(0≤t.port∧t.port≤65535)∧(0≤t.my∧t.my≤65535):=by
 simp only[PX,aL,bb,bz]at h
 revert h
 cases h1:(decide (0≤t.ip)&&decide (t.ip≤4294967295))<;>cases h2:(decide (0≤t.port)&&decide (t.port≤65535))<;>simp only[cond_true,cond_false,Bool.and_eq_true,decide_eq_true_eq]at* <;>simp_all
theorem MZ (t:Tupl)(seq e i:Int)(ht:aL.f (t,())=true)(hs:0≤seq∧seq≤4294967295)(he:0≤e∧e≤4294967295)(hi:0≤i∧i≤7):(er.f (t,seq,e,i,())==[])=false:=by
 have h1:=Pl t.ip (by rw[bb];have:=(QE t ht).1;simp[this])
 simp only[PX,er,ht,bb,ax,decide_eq_true hs.1,decide_eq_true hs.2,decide_eq_true he.1,decide_eq_true he.2,decide_eq_true hi.1,decide_eq_true hi.2,Bool.and_self,Bool.not_true,cond_false]
 generalize av.f (t.ip,4,())=a at*
 match a,h1 with
 |x::r,_=>simp
theorem Br (m:Mac)(t:Tupl)(seq e i:Int)(ht:aL.f (t,())=true)(hs:0≤seq∧seq≤4294967295)(he:0≤e∧e≤4294967295)(hi:0≤i∧i≤7):
  cZ.f (m,t,seq,e,i,())=(e%32)*134217728+i*16777216+nK.f (m,er.f (t,seq,e,i,()),()):=by
 simp only[PX,cZ,MZ t seq e i ht hs he hi,cond_false]
 have h:=A3 m (er.f (t,seq,e,i,()))
 rw[(eY 32).1 he.1,au (m:=e%32*134217728) (by omega) (by omega),au (m:=i*16777216) (by omega) (by omega),au (m:=e%32*134217728+i*16777216) (by omega) (by omega),au (by omega) (by omega)]
theorem yW (x:Int):0≤fM.f (x,())∧fM.f (x,())≤7:=by
 simp only[PX,fM,du]
 cases hf:aX (λj a=>(jY x j a).nice) (-1) (Int.toNat (7-0)) 7 ()with
 |next a=>simp[PX,Stp.elim]
 |out w=>
  obtain⟨n,b,hn,h⟩:=A8 _ _ _ _ hf
  simp only[PX,jY]at h
  simp only[PX,Stp.elim]
  rw[show Int.toNat (7-0)=7 from rfl]at hn
  revert h
  cases decide (fq.f (7+ -1*(n:Int),())≤x)with
  |false=>simp only[cond_false];intro h;cases h
  |true=>simp only[cond_true];intro h;cases h;omega
theorem CZ (k:Keys)(t:Tupl)(seq a i:Int)(hk:eS.f (k,())=true)(ha:0≤a∧a≤4294967295)(hi:a/16777216%8=i)(hc:cZ.f (k.now,t,seq,k.epoch,i,())=a):
  cb.f (k,t,seq,a,())=(k.epoch,i,true):=by
 have he:=nT k hk
 have hp:(dL.f (a,())).2.1=i:=by
  simp only[PX,dL,bb,decide_eq_true ha.1,decide_eq_true ha.2,Bool.and_self,Bool.not_true,cond_false]
  rw[(pt 16777216).1 ha.1,au (by omega) (by omega),(eY 8).1 (by omega),hi]
 simp only[PX,cb,fb,hk,bb,decide_eq_true ha.1,decide_eq_true ha.2,Bool.and_self,Bool.not_true,cond_false,hp]
 obtain⟨m,hm⟩:∃m:Nat,Int.toNat (k.epoch-(if 0<(IntKind.wrap .i64 (k.epoch-1))then(IntKind.wrap .i64 (k.epoch-1))else 0)+1)=m+1:=by
  rw[au (by omega) (by omega)]
  split
  ·exact⟨Int.toNat (k.epoch-(k.epoch-1)+1)-1,by omega⟩
  ·exact⟨Int.toNat (k.epoch-0+1)-1,by omega⟩
 rw[hm]
 have hf:(gN seq a i k t k.epoch ()).nice= .out k.epoch:=by
  simp only[PX,gN,kh,xQ,beq_self_eq_true,cond_true,hc]
 simp only[aX,hf,Stp.elim,PX]
theorem A9 (o:Opti)(c:Int)(ho:dX.f (o,())=true):dX.f (fv.f (o,c,()),())=true:=by
 have hv:∀a b:Int,∀s:Bool,0≤lW.f (a,b,s,())∧lW.f (a,b,s,())≤4294967295:=by
  intro a b s
  simp only[PX,lW,sa]
  cases s<;>simp only[cond_true,cond_false]<;>cases bt.f (b,0,14,())<;>simp only[Bool.not_true,Bool.not_false,cond_true,cond_false]<;>omega
 simp only[PX,dX,bE,Lw,NJ]at ho⊢
 simp only[PX,fv,ax]
 have h1:=hv c o.scale o.sack
 cases hst:o.stamp with
 |false=>simp[PX]
 |true=>
  simp only[hst,Bool.not_true,cond_false]at ho⊢
  revert ho
  cases(decide (0≤o.mss)&&decide (o.mss≤65535))<;>cases(decide (-1≤o.scale)&&decide (o.scale≤14))<;>cases hval:(decide (0≤o.val)&&decide (o.val≤4294967295))<;>simp only[cond_true,cond_false]<;>intro ho
  all_goals first|(exfalso;exact Bool.noConfusion ho)|skip
  cases(decide (0≤o.scale)&&decide (o.scale≤14))<;>simp only[PX,cond_true,cond_false]<;>simp only[decide_eq_true h1.1,decide_eq_true h1.2,ho,hval,Bool.and_self,cond_true]<;>rfl
def gK {T:Type}(p:T→Bool)(xs:List T):Int:=match xs.findIdx? p with|none=> -1|some i=>(i:Int)
theorem mg {T:Type}(p:T→Bool)(xs:List T){f:Int→Unit→Stp Unit Int}(h:∀(j:Nat) x a,xs[j]? =some x→f j a=bif p x then .out (j:Int)else .next ()):
  aX f 1 (Int.toNat ((xs.length:Int)-0)) 0 ()=match xs.findIdx? p with|none=> .next ()|some i=> .out (i:Int):=by
 rw[bq,eb xs _ rfl h,iY (w:=λj _=>(j:Int))]
 cases hf:xs.findIdx? p with
 |none=>rfl
 |some i=>
  obtain⟨h1,_,_⟩:=List.findIdx?_eq_some_iff_getElem.1 hf
  simp only[List.getElem?_eq_getElem h1,Nat.zero_add]
theorem nF {T:Type}(p:T→Bool)(xs:List T):decide (0≤gK p xs)=xs.any p:=by
 unfold gK
 cases h:xs.findIdx? p with
 |none=>
  rw[List.findIdx?_eq_none_iff]at h
  symm
  show xs.any p=false
  rw[List.any_eq_false]
  intro x hx;simp[h x hx]
 |some i=>
  obtain⟨h1,h2,_⟩:=List.findIdx?_eq_some_iff_getElem.1 h
  have:xs.any p=true:=by rw[List.any_eq_true];exact⟨xs[i],List.getElem_mem h1,h2⟩
  rw[this];simp
theorem VB {T:Type}(p:T→Bool)(xs:List T):decide (gK p xs<0)= !xs.any p:=by
 rw[←nF]
 by_cases h:0≤gK p xs
 ·rw[decide_eq_true h,decide_eq_false (by omega)];rfl
 ·rw[decide_eq_false h,decide_eq_true (by omega)];rfl
theorem yK {T:Type}(p:T→Bool)(xs:List T)(j:Nat)(x:T)(hx:xs[j]? =some x)(hp:p x=true):(gK p xs != (j:Int))=(xs.take j).any p:=by
 obtain⟨hj,rfl⟩:=List.getElem?_eq_some_iff.1 hx
 unfold gK
 cases h:xs.findIdx? p with
 |none=>
  rw[List.findIdx?_eq_none_iff]at h
  have:=h _ (List.getElem_mem hj)
  rw[hp]at this;cases this
 |some i=>
  obtain⟨h1,h2,h3⟩:=List.findIdx?_eq_some_iff_getElem.1 h
  simp only[]
  rw[Bool.eq_iff_iff]
  simp only[bne_iff_ne,ne_eq,List.any_eq_true]
  constructor
  ·intro hne
   have hij:i<j:=by
    rcases Nat.lt_or_ge i j with h4|h4
    ·exact h4
    ·have h5:j<i:=by omega
     have:=h3 j h5
     simp[hp]at this
   refine⟨xs[i], ?_,h2⟩
   rw[List.mem_take_iff_getElem]
   exact⟨i,by omega,rfl⟩
  ·rintro⟨y,hy,hpy⟩ he
   rw[List.mem_take_iff_getElem]at hy
   obtain⟨k,hk,rfl⟩:=hy
   have:k<i:=by omega
   have:=h3 k this
   simp[hpy]at this
def kC (t y:Tupl):Bool:=(y.ip==t.ip)&&((y.port==t.port)&&((y.my==t.my)&&true))
theorem tZ (t:Tupl):kC t t=true:=by simp[kC]
theorem o8 (xs:List Half)(t:Tupl):fN.f (xs,t,())=gK (λh=>kC t h.tuple) xs:=by
 simp only[PX,fN,j5]
 rw[mg (λh:Half=>kC t h.tuple) xs (λj x a h=>by
  simp only[PX,tk,ai,getD_some h,kC])]
 unfold gK
 cases xs.findIdx? (λh=>kC t h.tuple)<;>rfl
theorem iI (xs:List Half)(t:Tupl):aP.f (xs,t,())=gK (λh=>kC t h.tuple) xs:=by
 simp only[PX,aP,dM,bc]
 rw[mg (λh:Half=>kC t h.tuple) xs (λj x a h=>by
  simp only[PX,fp,ru,ai,getD_some h,kC])]
 unfold gK
 cases xs.findIdx? (λh=>kC t h.tuple)<;>rfl
theorem oZ (xs:List Half)(t:Tupl):fN.f (xs,t,())=aP.f (xs,t,()):=by rw[o8,iI]
theorem DN (x:Tabl)(t:Tupl):cO.f (x,t,())=gK (λh=>kC t h.tuple) x.conns:=by
 simp only[PX,cO,jX]
 rw[mg (λh:Conn=>kC t h.tuple) x.conns (λj x a h=>by
  simp only[PX,sZ,ai,getD_some h,kC])]
 unfold gK
 cases x.conns.findIdx? (λh=>kC t h.tuple)<;>rfl
theorem eX (x:Tabl)(t:Tupl):aO.f (x,t,())=gK (λh=>kC t h.tuple) x.conns:=by
 simp only[PX,aO,d5,be]
 rw[mg (λh:Conn=>kC t h.tuple) x.conns (λj x a h=>by
  simp only[PX,eZ,rP,ai,getD_some h,kC])]
 unfold gK
 cases x.conns.findIdx? (λh=>kC t h.tuple)<;>rfl
theorem ki (x:Tabl)(t:Tupl):cO.f (x,t,())=aO.f (x,t,()):=by rw[DN,eX]
theorem pe (x:Recv):fR.f (x,())=cD.f (x,()):=by
 simp only[PX,fR,cD,UO]
theorem LX (x:Recv)(h:(x.data.length:Int)≤32):cD.f (x,())≤32:=by
 simp only[PX,cD]
 cases x.done with
 |true=>simp only[cond_true];omega
 |false=>
  simp only[cond_false]
  rw[au (by omega) (by omega)]
  split<;>omega
theorem rZ (x:Sndr):ey.f (x,())=bQ.f (x,()):=by
 simp only[PX,ey,bQ,cK,bE,ax]
def eM (L:Int):Int→List Piec→Option Int
 |a,[]=>some a
 |a,p::r=>bif (p.text==[])||decide (p.off≤a)||decide (L<p.off+(p.text.length:Int))then none else eM L (p.off+(p.text.length:Int)) r
theorem Ov (L:Int):∀(r:List Piec) (a b:Int),eM L a r=some b→a≤b∧(a≤L→b≤L)
 |[],a,b,h=>by cases h;exact⟨Int.le_refl _,λh=>h⟩
 |p::r,a,b,h=>by
  simp only[eM]at h
  cases hc:((p.text==[])||decide (p.off≤a)||decide (L<p.off+(p.text.length:Int)))with
  |true=>rw[hc]at h;cases h
  |false=>
   rw[hc]at h
   simp only[Bool.or_eq_false_iff,decide_eq_false_iff_not]at hc
   have:=Ov L r _ b h
   omega
theorem IP (L M:Int)(hLM:L≤M):∀(r:List Piec) (a:Int),a≤L→eM L a r=(match eM M a r with|some b=>bif decide (b≤L)then some b else none|none=>none)
 |[],a,h=>by simp only[eM,decide_eq_true h,cond_true]
 |p::r,a,h=>by
  simp only[eM]
  cases h1:((p.text==[])||decide (p.off≤a))with
  |true=>simp only[Bool.true_or,cond_true]
  |false=>
   simp only[Bool.false_or]
   by_cases h2:L<p.off+(p.text.length:Int)
   ·rw[decide_eq_true h2]
    simp only[cond_true]
    by_cases h3:M<p.off+(p.text.length:Int)
    ·rw[decide_eq_true h3];rfl
    ·rw[decide_eq_false h3]
     simp only[cond_false]
     cases hw:eM M (p.off+(p.text.length:Int)) r with
     |none=>rfl
     |some b=>
      have:=(Ov M r _ b hw).1
      simp only[]
      rw[decide_eq_false (by omega)]
      rfl
   ·rw[decide_eq_false h2,decide_eq_false (show¬M<p.off+(p.text.length:Int) by omega)]
    simp only[cond_false]
    exact IP L M hLM r _ (by omega)
def cz (xs:List Piec):Prop:=∀y∈xs,y.text.length≤4611686018427387904
theorem cz.getD {xs:List Piec}(h:cz xs)(i:Nat):(xs.getD i (Ty.zero .piec)).text.length≤4611686018427387904:=LT (p:=λy:Piec=>y.text.length≤4611686018427387904) (by decide+kernel) h i
theorem M5 {s:ac}(h:(s==[])=false):0<s.length:=by
 cases s with
 |nil=>cases h
 |cons=>simp
theorem xM {W:Type}{F:Nat→Piec→Int→Stp Int W}{L:Int}{w:W}:∀(r:List Piec) (j:Nat) (a:Int),0≤a→a≤32→L≤32→(∀p∈r,∀j a,0≤a→a≤32→(∃w,(p.text==[]||decide (p.off≤a)||decide (L<p.off+(p.text.length:Int)))=true∧F j p a= .out w)∨((p.text==[]||decide (p.off≤a)||decide (L<p.off+(p.text.length:Int)))=false∧F j p a= .next (p.off+(p.text.length:Int))))→
  (match eM L a r with|some b=>kB F j r a= .next b|none=>∃w,kB F j r a= .out w)
 |[],j,a,_,_,_,_=>rfl
 |p::r,j,a,h0,h1,hL,hF=>by
  rcases hF p List.mem_cons_self j a h0 h1 with⟨w,hc,hf⟩|⟨hc,hf⟩
  ·simp only[eM,hc,cond_true,kB,hf,Stp.elim]
   exact⟨w,rfl⟩
  ·simp only[eM,hc,cond_false,kB,hf,Stp.elim]
   simp only[Bool.or_eq_false_iff,decide_eq_false_iff_not]at hc
   exact xM (w:=w) r (j+1) _ (by omega) (by omega) hL λq hq=>hF q (List.mem_cons_of_mem _ hq)
theorem Xw (x:Recv)(L:Int)(hL:L≤32)(hs:cz x.held):match eM L 0 x.held with|some b=>aX (λj a=>(d9 L x j a).nice) 1 (Int.toNat ((x.held.length:Int)-0)) 0 0= .next b|none=>∃w,aX (λj a=>(d9 L x j a).nice) 1 (Int.toNat ((x.held.length:Int)-0)) 0 0= .out w:=by
 rw[bq,eb x.held _ rfl (F:=λj p a=>(d9 L {x with held:=[p]} 0 a).nice) (by
  intro j p a h
  simp only[PX,d9,ai,getD_some h]
  rfl)]
 refine xM (w:=(0:Int)) _ _ _ (by omega) (by omega) hL λp hp j a h0 h1=> ?_
 have hl:=hs p hp
 simp only[PX,d9,show Int.toNat 0=0 from rfl,List.getD_cons_zero]
 cases h2:(p.text==[])with
 |true=>exact .inl ⟨_,rfl,rfl⟩
 |false=>
  have hp:=M5 h2
  cases h3:decide (p.off≤a)with
  |true=>exact .inl ⟨_,rfl,rfl⟩
  |false=>
   simp only[decide_eq_false_iff_not]at h3
   simp only[cond_false,Bool.false_or]
   by_cases h4:L<p.off
   ·refine .inl ⟨a,decide_eq_true (by omega), ?_⟩
    rw[decide_eq_true h4];rfl
   ·rw[decide_eq_false h4,au (by omega) (by omega)]
    simp only[cond_false]
    by_cases h5:L<p.off+(p.text.length:Int)
    ·rw[decide_eq_true h5];exact .inl ⟨_,rfl,rfl⟩
    ·rw[decide_eq_false h5];exact .inr ⟨rfl,rfl⟩
theorem Pu (x:Recv)(L:Int)(hL0: -9223372036854775808≤L-4611686018427387904)(hL:L≤32)(hs:cz x.held):match eM L 0 x.held with|some b=>aX (λj a=>(dg L x.held j a).nice) 1 (Int.toNat ((x.held.length:Int)-0)) 0 0= .next b|none=>∃w,aX (λj a=>(dg L x.held j a).nice) 1 (Int.toNat ((x.held.length:Int)-0)) 0 0= .out w:=by
 rw[bq,eb x.held _ rfl (F:=λj p a=>(dg L [p] 0 a).nice) (by
  intro j p a h
  simp only[PX,dg,ai,getD_some h]
  rfl)]
 refine xM (w:=()) _ _ _ (by omega) (by omega) hL λp hp j a h0 h1=> ?_
 have hl:=hs p hp
 simp only[PX,dg,show Int.toNat 0=0 from rfl,List.getD_cons_zero]
 cases h2:(p.text==[])with
 |true=>exact .inl ⟨_,rfl,rfl⟩
 |false=>
  have hp:=M5 h2
  cases h3:decide (p.off≤a)with
  |true=>exact .inl ⟨_,rfl,rfl⟩
  |false=>
   simp only[decide_eq_false_iff_not]at h3
   simp only[cond_false,Bool.false_or]
   rw[au (m:=L-(p.text.length:Int)) (by omega) (by omega)]
   by_cases h5:L<p.off+(p.text.length:Int)
   ·rw[decide_eq_true h5,decide_eq_true (by omega)];exact .inl ⟨_,rfl,rfl⟩
   ·rw[decide_eq_false h5,decide_eq_false (by omega),au (by omega) (by omega)];exact .inr ⟨rfl,rfl⟩
theorem zW (x:Recv)(hs:cz x.held):ju.f (x,())=cf.f (x,()):=by
 simp only[PX,ju,cf,fC,ec,cK,bE,pe]
 cases aa.f (x.next,32,())with
 |false=>rfl
 |true=>
  by_cases hd:32<(x.data.length:Int)
  ·rw[decide_eq_true hd];rfl
  ·rw[decide_eq_false hd]
   have hw:=LX x (by omega)
   simp only[Bool.not_true,cond_false]
   cases decide (3<(x.held.length:Int))with
   |true=>rfl
   |false=>
    simp only[cond_false]
    rw[ax]
    by_cases hf: -1≤x.fin∧x.fin≤cD.f (x,())
    ·rw[decide_eq_true hf.1,decide_eq_true hf.2]
     simp only[Bool.and_self,Bool.not_true,cond_false]
     cases h0:(x.fin==0)with
     |true=>rfl
     |false=>
      simp only[cond_false]
      have h0:x.fin≠0:=by simpa using h0
      have k1:=Xw x (cD.f (x,())) hw hs
      by_cases h1:x.fin= -1
      ·have k2:=Pu x (cD.f (x,())) (by omega) hw hs
       rw[show(x.fin != -1)=false by simp[h1],show decide (x.fin<0)=true from decide_eq_true (by omega)]
       simp only[cond_true,cond_false]
       cases hp:eM (cD.f (x,())) 0 x.held with
       |some b=>rw[hp]at k1 k2;simp only[]at k1 k2;rw[k1,k2];rfl
       |none=>rw[hp]at k1 k2;obtain⟨w1,k1⟩:=k1;obtain⟨w2,k2⟩:=k2;rw[k1,k2];rfl
      ·have k2:=Pu x x.fin (by omega) (by omega) hs
       rw[show(x.fin != -1)=true by simp[h1],show decide (x.fin<0)=false from decide_eq_false (by omega)]
       simp only[cond_true,cond_false]
       rw[IP x.fin (cD.f (x,())) (by omega) x.held 0 (by omega)]at k2
       cases hp:eM (cD.f (x,())) 0 x.held with
       |none=>rw[hp]at k1 k2;obtain⟨w1,k1⟩:=k1;obtain⟨w2,k2⟩:=k2;rw[k1,k2];rfl
       |some b=>
        rw[hp]at k1 k2
        simp only[]at k1 k2
        rw[k1]
        by_cases hb:b≤x.fin
        ·rw[decide_eq_true hb]at k2
         simp only[cond_true]at k2
         rw[k2];simp only[Stp.elim,decide_eq_true hb,cond_true]
        ·rw[decide_eq_false hb]at k2
         obtain⟨w2,k2⟩:=k2
         rw[k2];simp only[Stp.elim,decide_eq_false hb,cond_false]
    ·have:(decide (-1≤x.fin)&&decide (x.fin≤cD.f (x,())))=false:=by
      rw[Bool.and_eq_false_iff];simp only[decide_eq_false_iff_not];omega
     rw[this];rfl
theorem z6 (x:Conn)(hs:cz x.r.held):fj.f (x,())=cJ.f (x,()):=by
 simp only[PX,fj,cJ,Fg,qv,rZ,zW x.r hs,gC,bE,ax]
 cases aL.f (x.tuple,())with
 |false=>rfl
 |true=>
 cases bQ.f (x.s,())with
 |false=>rfl
 |true=>
 cases cf.f (x.r,())with
 |false=>rfl
 |true=>
 cases ay.f (x.opts,())with
 |false=>rfl
 |true=>
 simp only[Bool.not_true,cond_false]
 have hm:(bif !(decide (0≤x.window)&&decide (x.window≤x.most))then true else decide (1073725440<x.most))=(bif !(decide (0≤x.most)&&decide (x.most≤1073725440))then true else !(decide (0≤x.window)&&decide (x.window≤x.most))):=by
  rw[Bool.eq_iff_iff]
  by_cases h1:0≤x.window<;>by_cases h2:x.window≤x.most<;>by_cases h3:1073725440<x.most<;>by_cases h4:0≤x.most<;>by_cases h5:x.most≤1073725440<;>simp[h1,h2,h3,h4,h5]<;>omega
 have ej:∀b:Bool,(bif b then(false,(4:Int),x,())else(false,3,x,()))=(false,(bif b then 4 else 3),x,()):=λb=>by cases b<;>rfl
 have et:∀b:Bool,decide (x.timer≤bif b then 4 else 3)=bif b then decide (x.timer≤4)else decide (x.timer≤3):=λb=>by cases b<;>rfl
 simp only[ej,et]
 revert hm
 generalize(decide (0≤x.window)&&decide (x.window≤x.most))=W
 generalize decide (1073725440<x.most)=M
 generalize(decide (0≤x.most)&&decide (x.most≤1073725440))=N
 generalize(decide (0≤x.tries)&&decide (x.tries≤3))=T
 generalize decide (0≤x.timer)=T0
 generalize decide (x.timer≤4)=T4
 generalize decide (x.timer≤3)=T3
 generalize x.s.fin=sf
 generalize x.s.done=sd
 generalize x.r.done=rd
 generalize x.state=k
 have hk:k=1∨k=2∨k=3∨k=4∨k=5∨k=6∨k=7∨k=8∨(decide (1≤k)&&decide (k≤8))=false:=by
  simp only[Bool.and_eq_false_iff,decide_eq_false_iff_not];omega
 rcases hk with rfl|rfl|rfl|rfl|rfl|rfl|rfl|rfl|hk
 iterate 8 (revert W M N T T0 T4 T3 sf sd rd;decide+kernel)
 intro _;simp only[hk];rfl
theorem Qv (x:Limi):sC.f (x,())=fo.f (x,()):=by
 simp only[PX,sC,fo,bE,ax]
theorem vY {T V W:Type}(xs:List T){f:Int→Unit→Stp Unit V}{g:Int→Unit→Stp Unit W}{k:Nat}(hk:k=xs.length)(h:∀(j:Nat) x,xs[j]? =some x→(∃v w,f j ()= .out v∧g j ()= .out w)∨(f j ()= .next ()∧g j ()= .next ())):
  (∃v w,aX f 1 k 0 ()= .out v∧aX g 1 k 0 ()= .out w)∨(aX f 1 k 0 ()= .next ()∧aX g 1 k 0 ()= .next ()):=by
 subst hk
 have:∀(n i:Nat),i+n=xs.length→(∃v w,aX f 1 n (i:Int) ()= .out v∧aX g 1 n (i:Int) ()= .out w)∨(aX f 1 n (i:Int) ()= .next ()∧aX g 1 n (i:Int) ()= .next ()):=by
  intro n
  induction n with
  |zero=>intro i _;exact .inr ⟨rfl,rfl⟩
  |succ n ih=>
   intro i hi
   rcases h i xs[i] (List.getElem?_eq_getElem (by omega))with⟨v,w,h1,h2⟩|⟨h1,h2⟩
   ·exact .inl ⟨v,w,by simp only[aX,h1,Stp.elim],by simp only[aX,h2,Stp.elim]⟩
   ·simp only[aX,h1,h2,Stp.elim]
    have:=ih (i+1) (by omega)
    rwa [show((i+1:Nat):Int)=(i:Int)+1 by omega]at this
 exact this xs.length 0 (by omega)
theorem JM (xs:List Tupl)(t:Tupl):kw.f (xs,t,())=xs.any (kC t):=by
 simp only[PX,kw,ka]
 rw[bq,eb xs _ rfl (F:=λj y a=>bif kC t y then .out ()else .next ()) (by
  intro j y a h
  simp only[PX,tC,ai,getD_some h,kC])]
 rw[iY (p:=kC t) (w:=λ_ _=>())]
 cases h:xs.findIdx? (kC t)with
 |none=>
  rw[List.findIdx?_eq_none_iff]at h
  simp only[Stp.elim]
  symm
  rw[List.any_eq_false]
  intro x hx;simp[h x hx]
 |some i=>
  obtain⟨h1,h2,_⟩:=List.findIdx?_eq_some_iff_getElem.1 h
  simp only[List.getElem?_eq_getElem h1,Stp.elim]
  symm
  rw[List.any_eq_true];exact⟨xs[i],List.getElem_mem h1,h2⟩
theorem tc (xs:List Tupl)(t:Tupl):mG.f (xs,t,())=gK (kC t) xs:=by
 have e:∀a b:Int,(a==b)=(b==a):=λa b=>by rw[Bool.eq_iff_iff];simp only[beq_iff_eq];exact eq_comm
 simp only[PX,mG,gU]
 rw[mg (kC t) xs (λj x a h=>by
  simp only[PX,ov,ai,getD_some h,kC,e t.ip,e t.port,e t.my])]
 unfold gK
 cases xs.findIdx? (kC t)<;>rfl
theorem sQ {T:Type}{xs:List T}{j:Nat}{x:T}(h:xs[j]? =some x):x∈xs:=List.mem_of_getElem? h
theorem IW (x:Tabl)(l:Limi)(hs:∀y∈x.conns,cz y.r.held):qw.f (x,l,())=dk.f (x,l,()):=by
 simp only[PX,qw,dk,gq,ff,gm,fc,Qv]
 have h1:=vY x.conns (f:=λj a=>(px x j a).nice) (g:=λj a=>(dS x.conns x j a).nice) (k:=Int.toNat ((x.conns.length:Int)-0)) (bq _) (λj y hy=>by
  simp only[PX,px,dS,ai,getD_some hy,z6 y (hs y (sQ hy)),ki]
  cases cJ.f (y,())with
  |false=>exact .inl ⟨_,_,rfl,rfl⟩
  |true=>cases(aO.f (x,y.tuple,()) != (j:Int))with
   |true=>exact .inl ⟨_,_,rfl,rfl⟩
   |false=>exact .inr ⟨rfl,rfl⟩)
 have h2:=vY x.waiting (f:=λj a=>(om x j a).nice) (g:=λj a=>(dY x.waiting x j a).nice) (k:=Int.toNat ((x.waiting.length:Int)-0)) (bq _) (λj y hy=>by
  simp only[PX,om,dY,ai,getD_some hy,JM,tc,ki,List.drop_zero]
  rw[yK (kC y) x.waiting j y hy (tZ y)]
  cases(x.waiting.take j).any (kC y)<;>cases decide (aO.f (x,y,())<0)<;>first|exact .inl ⟨_,_,rfl,rfl⟩|exact .inr ⟨rfl,rfl⟩)
 rcases h1 with⟨v,w,h3,h4⟩|⟨h3,h4⟩
 ·rw[h3,h4]
  cases(fo.f (l,()))<;>cases decide (l.conns<(x.conns.length:Int))<;>cases decide (l.waiting<(x.waiting.length:Int))<;>rfl
 ·rw[h3,h4]
  rcases h2 with⟨v,w,h5,h6⟩|⟨h5,h6⟩
  ·rw[h5,h6]
   all_goals (cases(fo.f (l,()))<;>cases decide (l.conns<(x.conns.length:Int))<;>cases decide (l.waiting<(x.waiting.length:Int))<;>rfl)
  ·rw[h5,h6]
   all_goals (cases(fo.f (l,()))<;>cases decide (l.conns<(x.conns.length:Int))<;>cases decide (l.waiting<(x.waiting.length:Int))<;>rfl)
theorem xO (xs:List Half):lT.f (xs,())=ev.f (xs,()):=by
 simp only[PX,lT,ev,ia,jQ]
 have h1:=vY xs (f:=λj a=>(ep xs j a).nice) (g:=λj a=>(nk xs xs j a).nice) (k:=Int.toNat ((xs.length:Int)-0)) (bq _) (λj y hy=>by
  simp only[PX,ep,nk,ai,getD_some hy,qv,cK,gC,bE,ax,o8,iI,List.drop_zero,nF]
  rw[yK (λh:Half=>kC y.tuple h.tuple) xs j y hy (tZ _)]
  cases aL.f (y.tuple,())with
  |false=>exact .inl ⟨_,_,rfl,rfl⟩
  |true=>
  cases aa.f (y.iss,32,())with
  |false=>exact .inl ⟨_,_,rfl,rfl⟩
  |true=>
  cases aa.f (y.irs,32,())with
  |false=>exact .inl ⟨_,_,rfl,rfl⟩
  |true=>
  cases aa.f (y.window,16,())with
  |false=>exact .inl ⟨_,_,rfl,rfl⟩
  |true=>
  cases ay.f (y.opts,())with
  |false=>exact .inl ⟨_,_,rfl,rfl⟩
  |true=>
  cases(decide (0≤y.age)&&decide (y.age≤6))with
  |false=>exact .inl ⟨_,_,rfl,rfl⟩
  |true=>
  cases(xs.take j).any (λh=>kC y.tuple h.tuple)with
  |true=>exact .inl ⟨_,_,rfl,rfl⟩
  |false=>exact .inr ⟨rfl,rfl⟩)
 rcases h1 with⟨v,w,h3,h4⟩|⟨h3,h4⟩<;>rw[h3,h4]<;>by_cases h:64<(xs.length:Int)
 ·rw[decide_eq_true h];rfl
 ·rw[decide_eq_false h];rfl
 ·rw[decide_eq_true h];simp only[Stp.elim,cond_true];exact decide_eq_false (by omega)
 ·rw[decide_eq_false h];simp only[Stp.elim,cond_false];exact decide_eq_true (by omega)
theorem Fn (d:Door)(xs:List Half):cx.f (xs,d,())=xs.any (λh=>decide (0≤aO.f (d.table,h.tuple,()))):=by
 simp only[PX,cx,eJ,bp]
 rw[mg (λh:Half=>decide (0≤aO.f (d.table,h.tuple,()))) xs (λj y a h=>by
  simp only[PX,fK,xh,ai,getD_some h])]
 rw[←nF]
 unfold gK
 cases xs.findIdx? (λh=>decide (0≤aO.f (d.table,h.tuple,())))<;>rfl
theorem RL {T:Type}(p:T→Bool)(xs:List T)(j:Nat):kB (W:=Unit) (λ_ y (_:Unit)=>bif p y then .out ()else .next ()) j xs ()=bif xs.any p then .out ()else .next ():=by
 rw[iY (w:=λ_ _=>())]
 cases h:xs.findIdx? p with
 |none=>
  rw[List.findIdx?_eq_none_iff]at h
  have:xs.any p=false:=by
   rw[List.any_eq_false]
   intro y hy;simp[h y hy]
  rw[this];rfl
 |some i=>
  obtain⟨h1,h2,_⟩:=List.findIdx?_eq_some_iff_getElem.1 h
  have:xs.any p=true:=by rw[List.any_eq_true];exact⟨xs[i],List.getElem_mem h1,h2⟩
  rw[this];simp only[List.getElem?_eq_getElem h1];rfl
theorem FU (x:Door)(hs:∀y∈x.table.conns,cz y.r.held):oW.f (x,())=dz.f (x,()):=by
 simp only[PX,oW,dz,mw,cK,LR,IW x.table x.limits hs,xO,bE,ax,Fn]
 rw[bq,eb x.halves _ rfl (F:=λj y a=>bif decide (0≤aO.f (x.table,y.tuple,()))then .out ()else .next ()) (by
  intro j y a h
  simp only[PX,wO,ai,getD_some h,ki])]
 rw[RL (λy:Half=>decide (0≤aO.f (x.table,y.tuple,())))]
 cases x.halves.any (λy=>decide (0≤aO.f (x.table,y.tuple,())))<;>rfl
theorem xK:∀(r:List Conn) (j:Nat) (c:List Conn) (w:List Tupl),kB (W:=Empty) (λ_ x (a:Tabl×Tabl)=> .next ((⟨[],[]⟩:Tabl),(⟨a.2.conns++[x],a.2.waiting⟩:Tabl))) j r (⟨[],[]⟩,⟨c,w⟩)= .next (⟨[],[]⟩,⟨c++r,w⟩)
 |[],_,c,w=>by simp only[kB,List.append_nil]
 |x::r,j,c,w=>by
  simp only[kB,Stp.elim]
  rw[xK r]
  simp
theorem rh (x:Recv):dj.f (x,())=x:=by simp only[PX,dj,List.nil_append]
theorem Df (x:Recv):j9.f (x,())=x:=by simp only[PX,j9,mH]
theorem eQ (x:Conn):cS.f (x,())=x:=by simp only[PX,cS,rh]
theorem eL (x:Conn):ja.f (x,())=x:=by simp only[PX,ja,Df]
theorem Su (x:Keys):qC.f (x,())=x:=by simp only[PX,qC,I4]
theorem NV (x:Keys):pC.f (x,())=x:=by simp only[PX,pC,xQ]
theorem Ah (x:Tabl):kE.f (x,())=x:=by
 simp only[PX,kE,i4,List.nil_append]
 rw[bq,eb x.conns _ rfl (F:=λ_ y (a:Tabl×Tabl)=> .next ((⟨[],[]⟩:Tabl),(⟨a.2.conns++[y],a.2.waiting⟩:Tabl))) (by
  intro j y a h
  simp only[PX,uk,ai,getD_some h,eQ]),xK]
 simp only[Stp.elim,PX,List.nil_append]
theorem kU (x:Tabl):gS.f (x,())=x:=by
 simp only[PX,gS,fy,mN]
 rw[bq,eb x.conns _ rfl (F:=λ_ y (a:Tabl×Tabl)=> .next ((⟨[],[]⟩:Tabl),(⟨a.2.conns++[y],a.2.waiting⟩:Tabl))) (by
  intro j y a h
  simp only[PX,pJ,ai,getD_some h,eL]),xK]
 simp only[Stp.elim,PX,List.nil_append]
theorem mi (x:Door):dq.f (x,())=x:=by simp only[PX,dq,Su,Ah,List.nil_append]
theorem NX (x:Door):p0.f (x,())=x:=by simp only[PX,p0,NV,kU,fA]
theorem Hb (o:Opti):mv.f (o,())=iy.f (o,()):=by
 simp only[PX,mv,iy,bI,bM]
theorem SP (xs:List Half)(h:Half)(n:Int):qI.f (xs,h,n,())=l0.f (xs,h,n,()):=by
 simp only[PX,qI,l0,fA,xO,List.nil_append]
def kW (d:Door):Prop:=∀y∈d.table.conns,cz y.r.held
theorem RN {d:Door}(hd:aU d):kW d:=by
 intro y hy p hp
 have h1:ak y:=hd.2.2.2.2.2.2.1 y hy
 have h2:j8 p:=h1.2.2.2 p hp
 simp only[j8]at h2
 omega
theorem GB (d:Door)(t:Tupl)(g:Segm)(hs:kW d):oE.f (d,t,g,())=(dz.f (d,())&&(aL.f (t,())&&aj.f (g,()))):=by
 simp only[PX,oE,FU d hs,qv,mQ]
 cases dz.f (d,())<;>cases aL.f (t,())<;>rfl
theorem z8 (d:Door)(t:Tupl)(g:Segm):kT.f (d,t,g,())=
  bif (dz.f (d,())&&(aL.f (t,())&&aj.f (g,())))then
   bif decide (0≤aP.f (d.halves,t,()))then
    bif ((d.halves.getD (aP.f (d.halves,t,())).toNat (Ty.zero .half)).irs != g.seq)then(d,[])else(d,[({cA.f (d,t,g,())with seq:=(d.halves.getD (aP.f (d.halves,t,())).toNat (Ty.zero .half)).iss}:Segm)])
   else bif decide (aO.f (d.table,t,())<0)then
    ({d with halves:=(l0.f (d.halves,(⟨t,(cA.f (d,t,g,())).seq,g.seq,iy.f (g.opts,()),0,g.window⟩:Half),d.limits.halves,())).1},[cA.f (d,t,g,())])
   else(d,[cA.f (d,t,g,())])
  else(d,[]):=by
 simp only[PX,kT,NX]
 cases dz.f (d,())<;>cases aL.f (t,())<;>cases aj.f (g,())<;>rfl
theorem V1 (d:Door)(t:Tupl)(g:Segm)(hs:kW d):ze.f (d,t,g,())=kT.f (d,t,g,()):=by
 rw[z8]
 simp only[PX,ze,mi,GB d t g hs,Uq,oZ,ki,Hb,SP]
 cases(dz.f (d,())&&(aL.f (t,())&&aj.f (g,())))<;>rfl
theorem qx {W:Type}{f:Int→Unit→Stp Unit W}:∀(k i:Nat),aX f 1 k (i:Int) ()= .next ()↔∀j:Nat,i≤j→j<i+k→f (j:Int) ()= .next ()
 |0,i=>⟨λ_ j h1 h2=>by omega,λ_=>rfl⟩
 |k+1,i=>by
  constructor
  ·intro h j h1 h2
   simp only[aX]at h
   cases hf:f (i:Int) ()with
   |out w=>rw[hf]at h;cases h
   |next a=>
    rw[hf]at h
    simp only[Stp.elim]at h
    rcases Nat.eq_or_lt_of_le h1 with h3|h3
    ·rw[←h3];exact hf
    ·rw[show(i:Int)+1=((i+1:Nat):Int) by omega]at h
     exact(qx k (i+1)).1 h j h3 (by omega)
  ·intro h
   simp only[aX,h i (Nat.le_refl _) (by omega),Stp.elim]
   rw[show(i:Int)+1=((i+1:Nat):Int) by omega]
   exact(qx k (i+1)).2 λj h1 h2=>h j (by omega) (by omega)
def xi (h:Half):Bool:=aL.f (h.tuple,())&&(aa.f (h.iss,32,())&&(aa.f (h.irs,32,())&&(aa.f (h.window,16,())&&(ay.f (h.opts,())&&(decide (0≤h.age)&&decide (h.age≤6))))))
theorem Gy (xs:List Half)(j:Nat)(y:Half)(hy:xs[j]? =some y):((ep xs (j:Int) ()).nice= .next ())↔(xi y=true∧(xs.take j).any (λh=>kC y.tuple h.tuple)=false):=by
 simp only[PX,ep,ai,getD_some hy,qv,cK,gC,bE,o8,List.drop_zero,nF,xi]
 cases aL.f (y.tuple,())<;>cases aa.f (y.iss,32,())<;>cases aa.f (y.irs,32,())<;>cases aa.f (y.window,16,())<;>cases ay.f (y.opts,())<;>cases(decide (0≤y.age)&&decide (y.age≤6))<;>cases(xs.take j).any (λh=>kC y.tuple h.tuple)<;>simp
theorem Jp (xs:List Half):ev.f (xs,())=true↔(∀(j:Nat) (y:Half),xs[j]? =some y→xi y=true∧(xs.take j).any (λh=>kC y.tuple h.tuple)=false)∧xs.length≤64:=by
 rw[←xO]
 have hT:aX (λj a=>(ep xs j a).nice) 1 xs.length ((0:Nat):Int) ()= .next ()↔∀(j:Nat) (y:Half),xs[j]? =some y→xi y=true∧(xs.take j).any (λh=>kC y.tuple h.tuple)=false:=by
  rw[qx]
  constructor
  ·intro h j y hy
   exact(Gy xs j y hy).1 (h j (Nat.zero_le _) (by have:=(List.getElem?_eq_some_iff.1 hy).1;omega))
  ·intro h j _ h2
   exact(Gy xs j xs[j] (List.getElem?_eq_getElem (by omega))).2 (h j _ (List.getElem?_eq_getElem (by omega)))
 simp only[PX,lT,ia]
 rw[bq,show(0:Int)=((0:Nat):Int) from rfl,←hT]
 cases aX (λj a=>(ep xs j a).nice) 1 xs.length ((0:Nat):Int) ()with
 |next a=>simp only[Stp.elim,PX,decide_eq_true_eq,true_and];omega
 |out w=>simp[Stp.elim,PX]
theorem O5 (d:Door)(t:Tupl)(g:Segm):0≤(cA.f (d,t,g,())).seq∧(aL.f (t,())=true→eS.f (d.keys,())=true→0≤g.seq∧g.seq≤4294967295→(cA.f (d,t,g,())).seq≤4294967295):=by
 have hseq:(cA.f (d,t,g,())).seq=fL.f (d,t,g,()):=by simp only[PX,cA]
 rw[hseq]
 simp only[PX,fL]
 generalize nY.f (g.opts,())=mss
 refine⟨by split<;>omega,λht hk hs=> ?_⟩
 have hi:=yW mss
 have he:=nT d.keys hk
 have hc:=Br d.keys.now t g.seq d.keys.epoch (fM.f (mss,())) ht hs he hi
 have hr:=A3 d.keys.now (er.f (t,g.seq,d.keys.epoch,fM.f (mss,()),()))
 rw[hc];split<;>omega
theorem KE (x:Sndr):bQ.f (x,())=true↔SO x:=by
 have h:=bQ.c.h (x,()) trivial
 simpa using h
theorem vt (x:Sndr):fO.f (x,())=dU.f (x,()):=by simp only[PX,fO,dU]
theorem LP (x:Sndr):u7.f (x,())=i6.f (x,()):=by simp only[PX,u7,i6,vt,gY]
theorem yo (c:Conn):eH.f (c,())=cL.f (c,()):=by simp only[PX,eH,cL,LP,pe,bI,bM]
theorem T6 (c:Conn):qy.f (c,())=cB.f (c,()):=by
 simp only[PX,qy,cB,md,oH]
 cases(c.opts.mss==0)with
 |true=>rfl
 |false=>
  simp only[cond_false]
  generalize(if 1460<c.opts.mss then(1460:Int)else c.opts.mss)=m
  split<;>split<;>omega
theorem SN (x:Sndr)(y:Chun):kJ.f (x,y,())=cU.f (x,y,()):=by
 simp only[PX,kJ,cU,rZ]
 obtain⟨u,dt,se,fi,fs,dn⟩:=x
 cases fi with
 |true=>simp only[Bool.not_true,cond_false]
 |false=>
  cases hy:y.fin with
  |false=>simp only[cond_false]
  |true=>
   have k1:∀n:Int,bQ.f ((⟨u,dt,n,false,true,dn⟩:Sndr),())=false:=by
    intro n
    cases h:bQ.f ((⟨u,dt,n,false,true,dn⟩:Sndr),())with
    |false=>rfl
    |true=>
     have:=(KE _).1 h
     have h2:=this.2.2.2.2.2.1 rfl
     exact Bool.noConfusion h2.1
   simp only[k1,Bool.not_false,cond_true]
theorem Iw (x:Sndr)(h:SO x):dU.f (x,())=if x.finSent then x.sent+1 else x.sent:=by
 simp only[PX,dU]
 have h1:=h.2.2.2.1
 have h2:=h.2.2.2.2.1
 have h3:=h.2.2.1
 cases x.finSent with
 |true=>simp only[cond_true,if_true];rw[au (by omega) (by omega)]
 |false=>rfl
theorem OZ (l:ac)(S n:Int)(h0:0≤S)(h1:0≤n):(l.take (S+n).toNat).drop S.toNat=(l.drop S.toNat).take n.toNat:=by
 rw[List.drop_take];congr 1;omega
theorem NT (x:Sndr)(w m:Int)(hw:w≤9223372036854775807):iU.f (x,w,m,())=aR.f (x,w,m,()):=by
 simp only[PX,iU,aR,rZ,vt,LP,md,oH]
 cases h:bQ.f (x,())with
 |false=>rfl
 |true=>
 have hs:=(KE x).1 h
 have h1:=hs.2.2.2.1
 have h2:=hs.2.2.2.2.1
 have h3:=hs.2.2.1
 simp only[Bool.not_true,cond_false]
 have hF:x.sent≤dU.f (x,())∧dU.f (x,())≤x.sent+1:=by
  rw[Iw x hs];split<;>omega
 obtain⟨F,eF⟩:∃F,dU.f (x,())=F:=⟨_,rfl⟩
 rw[eF]at hF
 simp only[eF]
 generalize i6.f (x,())=q
 rw[ai,List.take_length,List.length_drop]
 rw[au (m:=(x.data.length:Int)-x.sent) (by omega) (by omega)]
 rw[show((x.data.length-x.sent.toNat:Nat):Int)=(x.data.length:Int)-x.sent by omega]
 obtain⟨c2,e2⟩:∃z:Int,(if w<1000000 then w else 1000000)=z:=⟨_,rfl⟩
 simp only[e2]
 obtain⟨c3,e3⟩:∃z:Int,(if c2<0 then 0 else c2)=z:=⟨_,rfl⟩
 simp only[e3]
 have b3:0≤c3∧c3≤1000000:=by grind
 rw[au (m:=c3-F) (by omega) (by omega)]
 obtain⟨c5,e5⟩:∃z:Int,(if c3-F<0 then 0 else c3-F)=z:=⟨_,rfl⟩
 simp only[e5]
 obtain⟨W,eW⟩:∃z:Int,(if w< -1 then-1 else w)=z:=⟨_,rfl⟩
 simp only[eW]
 have bW: -1≤W∧W≤9223372036854775807:=by grind
 rw[au (m:=W-F) (by omega) (by omega)]
 obtain⟨D,eD⟩:∃z:Int,(x.data.length:Int)-x.sent=z:=⟨_,rfl⟩
 simp only[eD]
 obtain⟨c6,e6⟩:∃z:Int,(if m<c5 then m else c5)=z:=⟨_,rfl⟩
 simp only[e6]
 obtain⟨c7,e7⟩:∃z:Int,(if c6<D then c6 else D)=z:=⟨_,rfl⟩
 simp only[e7]
 obtain⟨n,e8⟩:∃z:Int,(if c7<0 then 0 else c7)=z:=⟨_,rfl⟩
 simp only[e8]
 obtain⟨d3,f3⟩:∃z:Int,(if m<D then m else D)=z:=⟨_,rfl⟩
 simp only[f3]
 obtain⟨d4,f4⟩:∃z:Int,(if W-F<d3 then W-F else d3)=z:=⟨_,rfl⟩
 simp only[f4]
 have en:(if 0<d4 then d4 else 0)=n:=by grind
 rw[en]
 have bn:0≤n∧n≤D:=by grind
 have bw:decide (n<W-F)=decide (n<c5):=by
  rw[decide_eq_decide];grind
 rw[bw,au (m:=x.sent+n) (by omega) (by omega),OZ x.data x.sent n h1 bn.1,List.drop_zero]
 have el:(((x.data.drop x.sent.toNat).take n.toNat)==[])=(n==0):=by
  have hl:((x.data.drop x.sent.toNat).take n.toNat).length=n.toNat:=by rw[List.length_take,List.length_drop];omega
  generalize(x.data.drop x.sent.toNat).take n.toNat=z at*
  cases z with
  |nil=>simp only[List.length_nil]at hl;rw[show n=0 by omega];rfl
  |cons a r=>simp only[List.length_cons]at hl;rw[Bool.eq_iff_iff];simp;omega
 have ed:(x.sent+n==(x.data.length:Int))=(n==D):=by
  rw[Bool.eq_iff_iff];simp only[beq_iff_eq];omega
 rw[el,ed]
theorem Cg {A B W W':Type}[Inhabited W][Inhabited W']{f:A→Stp A W}{g:B→Stp B W'}{R:A→B→Prop}{Q:W→W'→Prop}(hd:Q default default)
  (h:∀a b,R a b→(∃a' b',f a= .next a'∧g b= .next b'∧R a' b')∨(∃w w',f a= .out w∧g b= .out w'∧Q w w')):
  ∀(m:Nat) (a:A) (b:B),R a b→Q (bG f m a) (bG g m b)
 |0,_,_,_=>hd
 |m+1,a,b,hr=>by
  rcases h a b hr with⟨a',b',e1,e2,hr'⟩|⟨w,w',e1,e2,hq⟩
  ·simp only[bG,e1,e2,Stp.elim]
   exact Cg hd h m a' b' hr'
  ·simp only[bG,e1,e2,Stp.elim]
   exact hq
def zX (c:Conn)(l:List Segm):Conn:={c with timer:=if l=[]then c.timer else if c.timer=0 then 3 else c.timer}
theorem GO (c:Conn):zX c []=c:=by simp[zX]
theorem RI (c:Conn)(l:List Segm)(g:Segm)(x:Sndr):(bif ((zX c l).timer==0)then({zX c l with s:=x,timer:=3}:Conn)else{zX c l with s:=x})=zX {c with s:=x} (l++[g]):=by
 simp only[zX]
 have h1:¬(l++[g]=[]):=by simp
 rw[if_neg h1]
 by_cases hl:l=[]
 ·rw[if_pos hl]
  by_cases ht:c.timer=0
  ·rw[if_pos ht,show(c.timer==0)=true by simp[ht]];rfl
  ·rw[if_neg ht,show(c.timer==0)=false by simp[ht]];rfl
 ·rw[if_neg hl]
  by_cases ht:c.timer=0
  ·rw[if_pos ht];rfl
  ·rw[if_neg ht,show(c.timer==0)=false by simp[ht]];rfl
theorem Xq (c:Conn)(w:Int)(hw:w≤9223372036854775807)(hs:cz c.r.held):jA.f (c,w,())=gt.f (c,w,()):=by
 simp only[PX,jA,gt,eQ,eL,z6 c hs,iK,gA]
 cases(bif !cJ.f (c,())then(true,())else bif (c.state==8)then(true,())else((c.state==7),())).1 with
 |true=>rfl
 |false=>
 simp only[cond_false]
 have key:=Cg (f:=λa=>(iQ w a).nice) (g:=λa=>(bx w a).nice) (R:=λa b=>a.1=zX b.2.1 b.2.2∧a.2.2=b.2.2) (Q:=λp q=>p.1=zX q.2.1 q.2.2∧p.2=q.2.2) ⟨(GO _).symm,rfl⟩ (by
  rintro⟨a1,a2,al⟩ ⟨b1,b2,bl⟩ ⟨h1,h2⟩
  simp only[]at h1 h2
  subst h1;subst h2
  have hm:cB.f (zX b2 al,())=cB.f (b2,()):=rfl
  have ha:cL.f (zX b2 al,())=cL.f (b2,()):=rfl
  have hx:(zX b2 al).s=b2.s:=rfl
  simp only[PX,iQ,bx,T6,NT _ _ _ hw,yo,SN,hm,ha,hx]
  obtain⟨z,hz⟩:∃z,aR.f (b2.s,w,cB.f (b2,()),())=z:=⟨_,rfl⟩
  simp only[hz]
  obtain⟨g,hg⟩:∃g,cL.f (b2,())=g:=⟨_,rfl⟩
  simp only[hg]
  obtain⟨x,hx2⟩:∃x,cU.f (b2.s,z.1,())=x:=⟨_,rfl⟩
  simp only[hx2]
  cases z.2 with
  |false=>exact .inr ⟨_,_,rfl,rfl,rfl,rfl⟩
  |true=>
   have hf:∀g':Segm,_:=λg'=>RI b2 al g' x
   cases ht:((zX b2 al).timer==0)<;>rw[ht]at hf<;>simp only[cond_true,cond_false]at hf<;>cases(z.1.text==[])<;>cases z.1.fin<;>exact .inl ⟨_,_,rfl,rfl,hf _,rfl⟩) (Be c.s+1) (c,⟨⟨0,0,0⟩,0,⟨0,[],0,false,false,false⟩,⟨0,[],[],0,false⟩,0,0,⟨0,0,false,false,0,0⟩,0,0⟩,[]) (⟨⟨0,0,0⟩,0,⟨0,[],0,false,false,false⟩,⟨0,[],[],0,false⟩,0,0,⟨0,0,false,false,0,0⟩,0,0⟩,c,[]) ⟨(GO c).symm,rfl⟩
 obtain⟨p,hp⟩:∃p,bG (λa=>(iQ w a).nice) (Be c.s+1) (c,⟨⟨0,0,0⟩,0,⟨0,[],0,false,false,false⟩,⟨0,[],[],0,false⟩,0,0,⟨0,0,false,false,0,0⟩,0,0⟩,[])=p:=⟨_,rfl⟩
 obtain⟨q,hq⟩:∃q,bG (λa=>(bx w a).nice) (Be c.s+1) (⟨⟨0,0,0⟩,0,⟨0,[],0,false,false,false⟩,⟨0,[],[],0,false⟩,0,0,⟨0,0,false,false,0,0⟩,0,0⟩,c,[])=q:=⟨_,rfl⟩
 rw[hp,hq]at key
 simp only[hp,hq]
 obtain⟨p1,p2⟩:=p
 obtain⟨q1,q2,q3⟩:=q
 obtain⟨k1,k2⟩:=key
 simp only[]at k1 k2
 subst k1;subst k2
 cases p2 with
 |nil=>simp only[PX,GO,List.length_nil];rfl
 |cons g r=>
  simp only[PX,decide_eq_true (show 0<((g::r).length:Int) by simp only[List.length_cons];omega),cond_true,zX,if_neg (show¬(g::r=[]) by simp)]
  by_cases ht:q2.timer=0
  ·simp only[ht,if_true,beq_self_eq_true,cond_true]
  ·simp only[if_neg ht,show(q2.timer==0)=false by simp[ht],cond_false]
def Wm (k:Int)(sf sd rd:Bool):Bool:=bif k==8 then true else(sf== !(k==1||k==4))&&((sd==(k==3||k==7))&&(rd==(k==4||decide (5≤k))))
theorem T5 (x:Conn):cJ.f (x,())=(aL.f (x.tuple,())&&(bQ.f (x.s,())&&(cf.f (x.r,())&&(ay.f (x.opts,())&&((decide (1≤x.state)&&decide (x.state≤8))&&((decide (0≤x.most)&&decide (x.most≤1073725440))&&((decide (0≤x.window)&&decide (x.window≤x.most))&&((decide (0≤x.timer)&&bif x.state==7 then decide (x.timer≤4)else decide (x.timer≤3))&&((decide (0≤x.tries)&&decide (x.tries≤3))&&Wm x.state x.s.fin x.s.done x.r.done))))))))):=by
 simp only[PX,cJ,ax]
 cases aL.f (x.tuple,())with
 |false=>rfl
 |true=>
 cases bQ.f (x.s,())with
 |false=>rfl
 |true=>
 cases cf.f (x.r,())with
 |false=>rfl
 |true=>
 cases ay.f (x.opts,())with
 |false=>rfl
 |true=>
 simp only[Bool.not_true,cond_false,Bool.true_and]
 have ej:∀b:Bool,(bif b then(false,(4:Int),x,())else(false,3,x,()))=(false,(bif b then 4 else 3),x,()):=λb=>by cases b<;>rfl
 have et:∀b:Bool,decide (x.timer≤bif b then 4 else 3)=bif b then decide (x.timer≤4)else decide (x.timer≤3):=λb=>by cases b<;>rfl
 simp only[ej,et]
 generalize(decide (0≤x.window)&&decide (x.window≤x.most))=W
 generalize(decide (0≤x.most)&&decide (x.most≤1073725440))=N
 generalize(decide (0≤x.tries)&&decide (x.tries≤3))=T
 generalize decide (0≤x.timer)=T0
 generalize decide (x.timer≤4)=T4
 generalize decide (x.timer≤3)=T3
 generalize x.s.fin=sf
 generalize x.s.done=sd
 generalize x.r.done=rd
 generalize x.state=k
 have hk:k=1∨k=2∨k=3∨k=4∨k=5∨k=6∨k=7∨k=8∨(decide (1≤k)&&decide (k≤8))=false:=by
  simp only[Bool.and_eq_false_iff,decide_eq_false_iff_not];omega
 rcases hk with rfl|rfl|rfl|rfl|rfl|rfl|rfl|rfl|hk
 iterate 8 (revert W N T T0 T4 T3 sf sd rd;decide+kernel)
 simp only[hk];rfl
structure CO (x:Conn):Prop where
 tup:aL.f (x.tuple,())=true
 snd:SO x.s
 rcv:cf.f (x.r,())=true
 opt:ay.f (x.opts,())=true
 s1:1≤x.state
 s8:x.state≤8
 m0:0≤x.most
 m1:x.most≤1073725440
 w0:0≤x.window
 w1:x.window≤x.most
 t0:0≤x.timer
 t4:x.timer≤4
 t3:x.state≠7→x.timer≤3
 r0:0≤x.tries
 r3:x.tries≤3
 fl:Wm x.state x.s.fin x.s.done x.r.done=true
theorem JF (x:Conn):cJ.f (x,())=true↔CO x:=by
 rw[T5]
 simp only[Bool.and_eq_true,decide_eq_true_eq,KE]
 have et:(bif x.state==7 then decide (x.timer≤4)else decide (x.timer≤3))=true↔x.timer≤4∧(x.state≠7→x.timer≤3):=by
  by_cases h:x.state=7
  ·simp[h]
  ·have h2:(x.state==7)=false:=by simpa using h
   simp only[h2,cond_false,decide_eq_true_eq]
   exact⟨λh3=>⟨by omega,λ_=>h3⟩,λh3=>h3.2 h⟩
 rw[et]
 constructor
 ·rintro⟨h1,h2,h3,h4,⟨h5,h6⟩,⟨h7,h8⟩,⟨h9,h10⟩,⟨h11,h12,h13⟩,⟨h14,h15⟩,h16⟩
  exact⟨h1,h2,h3,h4,h5,h6,h7,h8,h9,h10,h11,h12,h13,h14,h15,h16⟩
 ·rintro⟨h1,h2,h3,h4,h5,h6,h7,h8,h9,h10,h11,h12,h13,h14,h15,h16⟩
  exact⟨h1,h2,h3,h4,⟨h5,h6⟩,⟨h7,h8⟩,⟨h9,h10⟩,⟨h11,h12,h13⟩,⟨h14,h15⟩,h16⟩
structure Sent (c d:Conn):Prop where
 so:SO d.s
 s1:d.s.data=c.s.data
 s2:d.s.fin=c.s.fin
 s3:d.s.done=c.s.done
 s4:d.s.una=c.s.una
 tm:d.timer=c.timer∨d.timer=3
 re:d={c with s:=d.s,timer:=d.timer}
theorem Sent.refl (c:Conn)(h:SO c.s):Sent c c:=⟨h,rfl,rfl,rfl,rfl,.inl rfl,rfl⟩
theorem Sent.ok {c d:Conn}(h:Sent c d)(hc:CO c)(ht:d.timer≤3∨d.timer=c.timer):CO d:=by
 obtain⟨so,s1,s2,s3,s4,tm,re⟩:=h
 obtain⟨t,st,s,r,w,m,o,ti,tr⟩:=c
 obtain⟨t',st',s',r',w',m',o',ti',tr'⟩:=d
 simp only[Conn.mk.injEq]at re
 obtain⟨rfl,rfl,-,rfl,rfl,rfl,rfl,-,rfl⟩:=re
 simp only[]at*
 refine⟨hc.tup,so,hc.rcv,hc.opt,hc.s1,hc.s8,hc.m0,hc.m1,hc.w0,hc.w1, ?_, ?_, ?_,hc.r0,hc.r3, ?_⟩
 ·have:=hc.t0;simp only[]at*;omega
 ·have:=hc.t4;simp only[]at*;omega
 ·intro h7;have:=hc.t3 h7;simp only[]at*;omega
 ·have:=hc.fl;simp only[]at*;rw[s2,s3];exact this
theorem Gz {x:Sndr}(h:SO x):ci x:=by
 have:=h.2.2.1
 unfold ci;grind
theorem KG (x:Sndr)(w m:Int)(y:Chun)(hy:(aR.f (x,w,m,()))=(y,true))(hx:SO x):SO (cU.f (x,y,()))∧(cU.f (x,y,())).data=x.data∧(cU.f (x,y,())).fin=x.fin∧(cU.f (x,y,())).done=x.done∧(cU.f (x,y,())).una=x.una∧Be (cU.f (x,y,()))<Be x:=by
 have h1:=aR.c.h (x,w,m,()) (Gz hx)
 change nL (aR.f (x,w,m,())).1∧((aR.f (x,w,m,())).2=true→_)at h1
 have e1:(aR.f (x,w,m,())).1=y:=by rw[hy]
 have e2:(aR.f (x,w,m,())).2=true:=by rw[hy]
 obtain⟨h2,h3⟩:=h1
 obtain⟨-,h4,h5,h6,h7⟩:=h3 e2
 simp only[e1]at h2 h4 h5 h6 h7
 clear e1 e2
 have h8:=(cU.c.h (x,y,()) ⟨Gz hx,h2⟩).2 hx h4 h5 h7
 change cU.f (x,y,())=_ at h8
 rw[h8]
 obtain⟨e1,e2,e3,e4,e5,e6,e7⟩:=hx
 refine⟨⟨e1,e2,e3, ?_, ?_, ?_, ?_⟩,rfl,rfl,rfl,rfl, ?_⟩
 ·show 0≤x.sent+(y.text.length:Int);omega
 ·show x.sent+(y.text.length:Int)≤(x.data.length:Int);omega
 ·intro hf;exact⟨(h7 hf).1,(h7 hf).2.2⟩
 ·intro hd
  refine⟨(e7 hd).1, ?_,(e7 hd).2.2⟩
  show y.fin=false
  cases hf:y.fin with
  |false=>rfl
  |true=>have:=(h7 hf).2.1;rw[this]at hd;cases hd
 ·show((x.data.length:Int)-(x.sent+(y.text.length:Int))).toNat+(if y.fin=true then 0 else 1)<((x.data.length:Int)-x.sent).toNat+(if x.finSent=true then 0 else 1)
  rw[h5]
  simp only[Bool.false_eq_true,if_false]
  have hl:y.text=[]∨0<y.text.length:=by cases y.text<;>simp
  rcases hl with hl|hl
  ·rw[h6 hl];simp only[if_true];omega
  ·split<;>omega
theorem n3 (w:Int)(c:Conn)(a:Conn×Conn×List Segm)(h:Sent c a.2.1):(∃l,(bx w a).nice= .out (({a.1 with r.held:=[]}:Conn),a.2.1,l))∨(∃a',(bx w a).nice= .next a'∧Sent c a'.2.1∧Be a'.2.1.s<Be a.2.1.s):=by
 obtain⟨a1,a2,al⟩:=a
 simp only[]at h
 simp only[PX,bx]
 obtain⟨z,hz⟩:∃z,aR.f (a2.s,w,cB.f (a2,()),())=z:=⟨_,rfl⟩
 simp only[hz]
 obtain⟨y,b⟩:=z
 cases b with
 |false=>exact .inl ⟨_,rfl⟩
 |true=>
  obtain⟨k1,k2,k3,k4,k5,k6⟩:=KG a2.s w _ y hz h.so
  obtain⟨x,hx⟩:∃x,cU.f (a2.s,y,())=x:=⟨_,rfl⟩
  rw[hx]at k1 k2 k3 k4 k5 k6
  simp only[hx]
  have hs:Sent c ({a2 with s:=x}:Conn):=by
   obtain⟨so,s1,s2,s3,s4,tm,re⟩:=h
   refine⟨k1,k2.trans s1,k3.trans s2,k4.trans s3,k5.trans s4,tm, ?_⟩
   rw[re]
  cases(y.text==[])<;>cases y.fin<;>exact .inr ⟨_,rfl,hs,k6⟩
theorem R6 (c:Conn)(w:Int)(hc:SO c.s):Sent c (gt.f (c,w,())).1:=by
 simp only[PX,gt,eL,gA]
 cases(bif !cJ.f (c,())then(true,())else bif (c.state==8)then(true,())else((c.state==7),())).1 with
 |true=>exact Sent.refl c hc
 |false=>
 simp only[cond_false]
 have key:=pV (f:=λa=>(bx w a).nice) (Inv:=λa=>Sent c a.2.1) (Q:=λp=>Sent c p.2.1) (meas:=λa=>Be a.2.1.s) (λa hi a' he=>by
  rcases n3 w c a hi with⟨l,e⟩|⟨a2,e,h1,h2⟩
  ·simp only[e]at he;cases he
  ·simp only[e,Stp.next.injEq]at he;subst he;exact⟨h1,h2⟩) (λa hi p he=>by
  rcases n3 w c a hi with⟨l,e⟩|⟨a2,e,h1,h2⟩
  ·simp only[e,Stp.out.injEq]at he;subst he;exact hi
  ·simp only[e]at he;cases he) (Be c.s+1) (⟨⟨0,0,0⟩,0,⟨0,[],0,false,false,false⟩,⟨0,[],[],0,false⟩,0,0,⟨0,0,false,false,0,0⟩,0,0⟩,c,[]) (Nat.lt_succ_self _) (Sent.refl c hc)
 obtain⟨q,hq⟩:∃q,bG (λa=>(bx w a).nice) (Be c.s+1) (⟨⟨0,0,0⟩,0,⟨0,[],0,false,false,false⟩,⟨0,[],[],0,false⟩,0,0,⟨0,0,false,false,0,0⟩,0,0⟩,c,[])=q:=⟨_,rfl⟩
 rw[hq]at key
 simp only[hq]
 obtain⟨q1,q2,q3⟩:=q
 simp only[]at key⊢
 cases(bif decide (0<(q3.length:Int))then((q2.timer==0),())else(false,())).1 with
 |false=>exact key
 |true=>
  obtain⟨so,s1,s2,s3,s4,tm,re⟩:=key
  refine⟨so,s1,s2,s3,s4,.inr rfl, ?_⟩
  exact congrArg (λd:Conn=>({d with timer:=3}:Conn)) re
theorem yn (a b:Tupl):kC a b=true↔a=b:=by
 obtain⟨a1,a2,a3⟩:=a
 obtain⟨b1,b2,b3⟩:=b
 simp only[kC,Bool.and_true,Bool.and_eq_true,beq_iff_eq,Tupl.mk.injEq]
 constructor<;>rintro⟨rfl,rfl,rfl⟩<;>exact⟨rfl,rfl,rfl⟩
theorem yl {T:Type}(f:T→Tupl)(xs:List T)(t:Tupl):xs.any (λh=>kC t (f h))=true↔t∈xs.map f:=by
 simp only[List.any_eq_true,List.mem_map,yn]
 constructor
 ·rintro⟨x,h1,h2⟩;exact⟨x,h1,h2.symm⟩
 ·rintro⟨x,h1,h2⟩;exact⟨x,h1,h2.symm⟩
theorem vT {T:Type}(f:T→Tupl)(xs:List T):(∀(j:Nat) (y:T),xs[j]? =some y→(xs.take j).any (λh=>kC (f y) (f h))=false)↔(xs.map f).Nodup:=by
 unfold List.Nodup
 rw[List.pairwise_iff_getElem]
 constructor
 ·intro h i j hi hj hij he
  rw[List.length_map]at hi hj
  simp only[List.getElem_map]at he
  have:=h j xs[j] (List.getElem?_eq_getElem hj)
  rw[List.any_eq_false]at this
  refine this xs[i] ?_ ((yn _ _).2 he.symm)
  rw[List.mem_take_iff_getElem]
  exact⟨i,by omega,rfl⟩
 ·intro h j y hy
  rw[List.any_eq_false]
  intro z hz he
  rw[List.mem_take_iff_getElem]at hz
  obtain⟨i,hi,rfl⟩:=hz
  obtain⟨hj,rfl⟩:=List.getElem?_eq_some_iff.1 hy
  have:=h i j (by rw[List.length_map];omega) (by rw[List.length_map];exact hj) (by omega)
  simp only[List.getElem_map]at this
  exact this ((yn _ _).1 he).symm
structure LO (l:Limi):Prop where
 h1:1≤l.halves
 h2:l.halves≤64
 w1:1≤l.waiting
 w2:l.waiting≤16
 c1:1≤l.conns
 c2:l.conns≤16
 k0:0≤l.chal
 k1:l.chal≤1000
theorem Xy (l:Limi):fo.f (l,())=true↔LO l:=by
 simp only[PX,fo,ax]
 have e:(bif decide (1≤l.halves)&&decide (l.halves≤64)then bif decide (1≤l.waiting)&&decide (l.waiting≤16)then bif decide (1≤l.conns)&&decide (l.conns≤16)then decide (0≤l.chal)&&decide (l.chal≤1000)else false else false else false)=((decide (1≤l.halves)&&decide (l.halves≤64))&&((decide (1≤l.waiting)&&decide (l.waiting≤16))&&((decide (1≤l.conns)&&decide (l.conns≤16))&&(decide (0≤l.chal)&&decide (l.chal≤1000))))):=by
  cases(decide (1≤l.halves)&&decide (l.halves≤64))<;>cases(decide (1≤l.waiting)&&decide (l.waiting≤16))<;>cases(decide (1≤l.conns)&&decide (l.conns≤16))<;>simp
 rw[e]
 simp only[Bool.and_eq_true,decide_eq_true_eq]
 constructor
 ·rintro⟨⟨h1,h2⟩,⟨h3,h4⟩,⟨h5,h6⟩,h7,h8⟩;exact⟨h1,h2,h3,h4,h5,h6,h7,h8⟩
 ·rintro⟨h1,h2,h3,h4,h5,h6,h7,h8⟩;exact⟨⟨h1,h2⟩,⟨h3,h4⟩,⟨h5,h6⟩,h7,h8⟩
structure TO (t:Tabl)(l:Limi):Prop where
 lim:LO l
 nc:(t.conns.length:Int)≤l.conns
 nw:(t.waiting.length:Int)≤l.waiting
 co:∀c∈t.conns,CO c
 dc:(t.conns.map Conn.tuple).Nodup
 dw:t.waiting.Nodup
 wc:∀w∈t.waiting,w∈t.conns.map Conn.tuple
theorem sO {T:Type}{P:T→Prop}{xs:List T}:(∀(j:Nat) (y:T),xs[j]? =some y→P y)↔∀y∈xs,P y:=by
 constructor
 ·intro h y hy
  obtain⟨j,hj,rfl⟩:=List.getElem_of_mem hy
  exact h j _ (List.getElem?_eq_getElem hj)
 ·intro h j y hy;exact h y (sQ hy)
theorem Et {T W:Type}{f:Int→Unit→Stp Unit W}(xs:List T){P:Nat→T→Prop}(h:∀(j:Nat) (y:T),xs[j]? =some y→(f (j:Int) ()= .next ()↔P j y)):aX f 1 (Int.toNat ((xs.length:Int)-0)) 0 ()= .next ()↔∀(j:Nat) (y:T),xs[j]? =some y→P j y:=by
 rw[bq,show(0:Int)=((0:Nat):Int) from rfl,qx]
 constructor
 ·intro h1 j y hy
  exact(h j y hy).1 (h1 j (Nat.zero_le _) (by have:=(List.getElem?_eq_some_iff.1 hy).1;omega))
 ·intro h1 j _ h2
  exact(h j xs[j] (List.getElem?_eq_getElem (by omega))).2 (h1 j _ (List.getElem?_eq_getElem (by omega)))
theorem O9 (t:Tabl)(l:Limi):dk.f (t,l,())=true↔TO t l:=by
 have f1:=Et t.conns (f:=λj a=>(dS t.conns t j a).nice) (P:=λj y=>CO y∧(t.conns.take j).any (λh=>kC y.tuple h.tuple)=false) (λj y hy=>by
  simp only[PX,dS,ai,getD_some hy,eX]
  rw[yK (λh:Conn=>kC y.tuple h.tuple) t.conns j y hy (tZ _),←JF]
  cases cJ.f (y,())<;>cases(t.conns.take j).any (λh=>kC y.tuple h.tuple)<;>simp)
 have f2:=Et t.waiting (f:=λj a=>(dY t.waiting t j a).nice) (P:=λj y=>y∈t.conns.map Conn.tuple∧(t.waiting.take j).any (λh=>kC y h)=false) (λj y hy=>by
  simp only[PX,dY,ai,getD_some hy,eX,tc,VB]
  rw[yK (kC y) t.waiting j y hy (tZ _),←yl]
  cases t.conns.any (λh=>kC y h.tuple)<;>cases(t.waiting.take j).any (λh=>kC y h)<;>simp)
 have f3:=vT Conn.tuple t.conns
 have f4:=vT (λx=>x) t.waiting
 rw[List.map_id']at f4
 have f5:aX (λj a=>(dS t.conns t j a).nice) 1 (Int.toNat ((t.conns.length:Int)-0)) 0 ()= .next ()↔(∀c∈t.conns,CO c)∧(t.conns.map Conn.tuple).Nodup:=by
  rw[f1,←f3,←sO]
  exact⟨λh=>⟨λj y hy=>(h j y hy).1,λj y hy=>(h j y hy).2⟩,λh j y hy=>⟨h.1 j y hy,h.2 j y hy⟩⟩
 have f6:aX (λj a=>(dY t.waiting t j a).nice) 1 (Int.toNat ((t.waiting.length:Int)-0)) 0 ()= .next ()↔(∀w∈t.waiting,w∈t.conns.map Conn.tuple)∧t.waiting.Nodup:=by
  rw[f2,←f4,←sO]
  exact⟨λh=>⟨λj y hy=>(h j y hy).1,λj y hy=>(h j y hy).2⟩,λh j y hy=>⟨h.1 j y hy,h.2 j y hy⟩⟩
 have e:dk.f (t,l,())=true↔fo.f (l,())=true∧(t.conns.length:Int)≤l.conns∧(t.waiting.length:Int)≤l.waiting∧aX (λj a=>(dS t.conns t j a).nice) 1 (Int.toNat ((t.conns.length:Int)-0)) 0 ()= .next ()∧aX (λj a=>(dY t.waiting t j a).nice) 1 (Int.toNat ((t.waiting.length:Int)-0)) 0 ()= .next ():=by
  simp only[PX,dk,ff,fc]
  rw[show((t.conns.length:Int)≤l.conns)↔decide (l.conns<(t.conns.length:Int))=false by simp,show((t.waiting.length:Int)≤l.waiting)↔decide (l.waiting<(t.waiting.length:Int))=false by simp]
  cases fo.f (l,())<;>cases decide (l.conns<(t.conns.length:Int))<;>cases decide (l.waiting<(t.waiting.length:Int))<;>cases aX (λj a=>(dS t.conns t j a).nice) 1 (Int.toNat ((t.conns.length:Int)-0)) 0 ()<;>cases aX (λj a=>(dY t.waiting t j a).nice) 1 (Int.toNat ((t.waiting.length:Int)-0)) 0 ()<;>simp[Stp.elim]
 rw[e,Xy,f5,f6]
 constructor
 ·rintro⟨h1,h2,h3,⟨h4,h5⟩,h6,h7⟩;exact⟨h1,h2,h3,h4,h5,h7,h6⟩
 ·rintro⟨h1,h2,h3,h4,h5,h7,h6⟩;exact⟨h1,h2,h3,⟨h4,h5⟩,h6,h7⟩
structure HO (xs:List Half):Prop where
 ok:∀h∈xs,xi h=true
 nd:(xs.map Half.tuple).Nodup
 len:xs.length≤64
theorem U6 (xs:List Half):ev.f (xs,())=true↔HO xs:=by
 rw[Jp]
 have f3:=vT Half.tuple xs
 constructor
 ·rintro⟨h1,h2⟩
  exact⟨sO.1 λj y hy=>(h1 j y hy).1,f3.1 λj y hy=>(h1 j y hy).2,h2⟩
 ·rintro⟨h1,h2,h3⟩
  exact⟨λj y hy=>⟨h1 y (sQ hy),f3.2 h2 j y hy⟩,h3⟩
structure DO (d:Door):Prop where
 port:aa.f (d.port,16,())=true
 c0:0≤d.clock
 c1:d.clock≤4294967295
 keys:eS.f (d.keys,())=true
 tab:TO d.table d.limits
 hal:HO d.halves
 nh:(d.halves.length:Int)≤d.limits.halves
 k0:0≤d.chal
 k1:d.chal≤d.limits.chal
 ap:∀h∈d.halves,h.tuple∉d.table.conns.map Conn.tuple
theorem A1 (d:Door):dz.f (d,())=true↔DO d:=by
 have e:dz.f (d,())=true↔aa.f (d.port,16,())=true∧aa.f (d.clock,32,())=true∧eS.f (d.keys,())=true∧dk.f (d.table,d.limits,())=true∧ev.f (d.halves,())=true∧(d.halves.length:Int)≤d.limits.halves∧(decide (0≤d.chal)&&decide (d.chal≤d.limits.chal))=true∧(d.halves.any (λh=>decide (0≤aO.f (d.table,h.tuple,()))))=false:=by
  simp only[PX,dz,Fn,ax]
  rw[show((d.halves.length:Int)≤d.limits.halves)↔decide (d.limits.halves<(d.halves.length:Int))=false by simp]
  generalize(decide (0≤d.chal)&&decide (d.chal≤d.limits.chal))=b1
  generalize decide (d.limits.halves<(d.halves.length:Int))=b2
  generalize(d.halves.any (λh=>decide (0≤aO.f (d.table,h.tuple,()))))=b3
  cases aa.f (d.port,16,())<;>cases aa.f (d.clock,32,())<;>cases eS.f (d.keys,())<;>cases dk.f (d.table,d.limits,())<;>cases ev.f (d.halves,())<;>cases b1<;>cases b2<;>cases b3<;>simp
 rw[e,O9,U6,bb]
 simp only[Bool.and_eq_true,decide_eq_true_eq,eX,nF]
 have f:(d.halves.any λh=>d.table.conns.any λc=>kC h.tuple c.tuple)=false↔∀h∈d.halves,h.tuple∉d.table.conns.map Conn.tuple:=by
  rw[List.any_eq_false]
  constructor
  ·intro h x hx hm;exact h x hx ((yl Conn.tuple _ _).2 hm)
  ·intro h x hx hm;exact h x hx ((yl Conn.tuple _ _).1 hm)
 rw[f]
 constructor
 ·rintro⟨h1,⟨h2,h2'⟩,h3,h4,h5,h6,⟨h7,h8⟩,h9⟩;exact⟨h1,h2,h2',h3,h4,h5,h6,h7,h8,h9⟩
 ·rintro⟨h1,h2,h2',h3,h4,h5,h6,h7,h8,h9⟩;exact⟨h1,⟨h2,h2'⟩,h3,h4,h5,h6,⟨h7,h8⟩,h9⟩
def nN (x:Recv):Int:=if x.done=true then 0 else 32-(x.data.length:Int)
theorem sE (x:Recv)(h:x.data.length≤32):0≤nN x∧nN x≤32:=by unfold nN;split<;>omega
structure RV (x:Recv):Prop where
 n0:0≤x.next
 n1:x.next≤4294967295
 dl:x.data.length≤32
 hl:x.held.length≤3
 f0: -1≤x.fin
 f1:x.fin≤nN x
 fz:x.fin≠0
 wk:∃b,eM (if x.fin= -1 then nN x else x.fin) 0 x.held=some b
 dn:x.done=true→x.held=[]∧x.fin= -1
theorem mU (x:Recv)(h:x.data.length≤32):cD.f (x,())=nN x:=by
 simp only[PX,cD]
 unfold nN
 rw[au (by omega) (by omega)]
 cases x.done with
 |true=>rfl
 |false=>simp only[cond_false,Bool.false_eq_true,if_false];split<;>omega
theorem tW (x:Recv)(hs:cz x.held):cf.f (x,())=true↔RV x:=by
 simp only[PX,cf,ec,bb]
 by_cases hn:0≤x.next∧x.next≤4294967295
 ·rw[decide_eq_true hn.1,decide_eq_true hn.2]
  by_cases hd:32<(x.data.length:Int)
  ·rw[decide_eq_true hd]
   exact⟨λh=>(by cases h),λh=>by have:=h.dl;omega⟩
  ·rw[decide_eq_false hd,mU x (by omega)]
   have hw:=sE x (by omega)
   simp only[Bool.and_self,Bool.not_true,cond_false]
   by_cases hl:3<(x.held.length:Int)
   ·rw[decide_eq_true hl]
    exact⟨λh=>(by cases h),λh=>by have:=h.hl;omega⟩
   ·rw[decide_eq_false hl,ax]
    simp only[cond_false]
    by_cases hf: -1≤x.fin∧x.fin≤nN x
    ·rw[decide_eq_true hf.1,decide_eq_true hf.2]
     simp only[Bool.and_self,Bool.not_true,cond_false]
     by_cases h0:x.fin=0
     ·rw[show(x.fin==0)=true by simp[h0]]
      exact⟨λh=>(by cases h),λh=>absurd h0 h.fz⟩
     ·rw[show(x.fin==0)=false by simp[h0]]
      simp only[cond_false]
      have ed:(bif !x.done then true else bif ((x.held.length:Int)==0)then(x.fin== -1)else false)=true↔(x.done=true→x.held=[]∧x.fin= -1):=by
       cases x.done with
       |false=>simp
       |true=>
        cases hh:x.held with
        |nil=>simp
        |cons p r=>
         have:(((p::r).length:Int)==0)=false:=by
          rw[beq_eq_false_iff_ne];simp only[List.length_cons];omega
         rw[this];simp
      have k2:=Pu x (if x.fin= -1 then nN x else x.fin) (by split<;>omega) (by split<;>omega) hs
      have fin:∀L:Int,L=(if x.fin= -1 then nN x else x.fin)→(Stp.elim (λ_=>bif !x.done then true else bif ((x.held.length:Int)==0)then(x.fin== -1)else false) (λ_=>false) (aX (λj a=>(dg L x.held j a).nice) 1 (Int.toNat ((x.held.length:Int)-0)) 0 0)=true↔RV x):=by
       intro L hL
       rw[hL]
       cases hp:eM (if x.fin= -1 then nN x else x.fin) 0 x.held with
       |some b=>
        rw[hp]at k2;simp only[]at k2
        rw[k2]
        simp only[Stp.elim]
        rw[ed]
        exact⟨λh=>⟨hn.1,hn.2,by omega,by omega,hf.1,hf.2,h0,⟨b,hp⟩,h⟩,λh=>h.dn⟩
       |none=>
        rw[hp]at k2;obtain⟨w,k2⟩:=k2
        rw[k2]
        simp only[Stp.elim]
        refine⟨λh=>(by cases h),λh=> ?_⟩
        obtain⟨b,hb⟩:=h.wk
        rw[hp]at hb;cases hb
      by_cases h1:x.fin= -1
      ·rw[show(x.fin != -1)=false by simp[h1]]
       exact fin (nN x) (by rw[if_pos h1])
      ·rw[show(x.fin != -1)=true by simp[h1]]
       exact fin x.fin (by rw[if_neg h1])
    ·have:(decide (-1≤x.fin)&&decide (x.fin≤nN x))=false:=by
      rw[Bool.and_eq_false_iff];simp only[decide_eq_false_iff_not];omega
     rw[this]
     exact⟨λh=>(by cases h),λh=>absurd ⟨h.f0,h.f1⟩ hf⟩
 ·have:(decide (0≤x.next)&&decide (x.next≤4294967295))=false:=by
   rw[Bool.and_eq_false_iff];simp only[decide_eq_false_iff_not];omega
  rw[this]
  exact⟨λh=>(by cases h),λh=>absurd ⟨h.n0,h.n1⟩ hn⟩
theorem CO.set {c:Conn}(h:CO c)(k t r:Int)(hk:k=c.state∨k=8)(t0:0≤t)(t4:t≤4)(t3:k≠7→t≤3)(r0:0≤r)(r3:r≤3):CO ({c with state:=k,timer:=t,tries:=r}:Conn):=by
 have h1:=h.s1
 have h8:=h.s8
 refine⟨h.tup,h.snd,h.rcv,h.opt, ?_, ?_,h.m0,h.m1,h.w0,h.w1,t0,t4,t3,r0,r3, ?_⟩
 ·show 1≤k;omega
 ·show k≤8;omega
 ·show Wm k c.s.fin c.s.done c.r.done=true
  rcases hk with rfl|rfl
  ·exact h.fl
  ·rfl
def p9 (p:Piec):Int:=p.off+(p.text.length:Int)
def HT:List Piec→Int→List Int→List Piec
 |out,_,[]=>out
 |out,i,s::r=>if s<0 then HT out (i+1) r else
  match out.getLast? with
  |none=>HT (out++[⟨i,aA [s]⟩]) (i+1) r
  |some p=>if p9 p=i then HT (out.dropLast++[⟨p.off,p.text++aA [s]⟩]) (i+1) r else HT (out++[⟨i,aA [s]⟩]) (i+1) r
def dP:Nat→Int→List Int→List Piec
 |_,_,[]=>[]
 |0,_,_::_=>[]
 |k+1,i,s::r=>if s<0 then dP k (i+1) r else
  ⟨i,aA (s::r.takeWhile (λx=>decide (0≤x)))⟩::dP k (i+1+((r.takeWhile (λx=>decide (0≤x))).length:Int)) (r.dropWhile (λx=>decide (0≤x)))
theorem Bp (a b:List Int):aA (a++b)=aA a++aA b:=by simp[aA]
theorem Ra (out:List Piec)(o:Int)(x:ac):∀(t r:List Int) (x:ac),(∀s∈t,0≤s)→HT (out++[⟨o,x⟩]) (o+(x.length:Int)) (t++r)=HT (out++[⟨o,x++aA t⟩]) (o+(x.length:Int)+(t.length:Int)) r
 |[],r,x,_=>by simp[aA]
 |s::t,r,x,h=>by
  have hs:¬s<0:=by have:=h s (List.mem_cons_self ..);omega
  have ih:=Ra out o x t r (x++aA [s]) (λy hy=>h y (List.mem_cons_of_mem _ hy))
  simp only[List.cons_append,HT,if_neg hs,List.getLast?_append,List.getLast?_singleton,Option.some_or,p9,if_true,List.dropLast_concat]
  have e:o+(x.length:Int)+1=o+((x++aA [s]).length:Int):=by rw[List.length_append,bi];simp;omega
  rw[e,ih]
  rw[List.append_assoc,←Bp]
  congr 1
  rw[List.length_append,bi];simp;omega
theorem E5:∀(k:Nat) (out:List Piec) (i:Int) (r:List Int),r.length≤k→(∀p,out.getLast? =some p→p9 p<i)→HT out i r=out++dP k i r
 |_,out,i,[],_,_=>by simp[HT,dP]
 |0,_,_,_::_,h,_=>by simp at h
 |k+1,out,i,s::r,h,hl=>by
  simp only[List.length_cons]at h
  by_cases hs:s<0
  ·simp only[HT,dP,if_pos hs]
   exact E5 k out (i+1) r (by omega) (λp hp=>by have:=hl p hp;omega)
  ·have e0:HT out i (s::r)=HT (out++[⟨i,aA [s]⟩]) (i+1) r:=by
    simp only[HT,if_neg hs]
    cases hg:out.getLast? with
    |none=>rfl
    |some p=>simp only[if_neg (show¬p9 p=i by have:=hl p hg;omega)]
   simp only[dP,if_neg hs]
   rw[e0]
   have hr:r=r.takeWhile (λx=>decide (0≤x))++r.dropWhile (λx=>decide (0≤x)):=(List.takeWhile_append_dropWhile).symm
   have hrun:=Ra out i (aA [s]) (r.takeWhile (λx=>decide (0≤x))) (r.dropWhile (λx=>decide (0≤x))) (aA [s]) (λy hy=>by
    have:=List.all_eq_true.1 (List.all_takeWhile (p:=λx:Int=>decide (0≤x)) (l:=r)) y hy;simpa using this)
   rw[←hr,show((aA [s]).length:Int)=1 by simp[bi]]at hrun
   rw[hrun,←Bp,List.singleton_append]
   generalize hT:r.takeWhile (λx=>decide (0≤x))=T at*
   generalize hD:r.dropWhile (λx=>decide (0≤x))=D at*
   have hDl:D.length≤k:=by
    have:=congrArg List.length hr
    rw[List.length_append]at this;omega
   cases D with
   |nil=>simp[HT,dP]
   |cons d D=>
    have hd:d<0:=by
     have:=List.head?_dropWhile_not (λx=>decide (0≤x)) r
     rw[hD]at this
     simp at this;omega
    cases k with
    |zero=>simp at hDl
    |succ k=>
     simp only[HT,dP,if_pos hd]
     simp only[List.length_cons]at hDl
     rw[E5 k _ _ D (by omega) (λp hp=>by
      simp only[List.getLast?_append,List.getLast?_singleton,Option.some_or,Option.some.injEq]at hp
      subst hp
      simp only[p9,bi,List.length_cons]
      omega)]
     simp
theorem qt {p:Int→Bool}:∀(r:List Int) (j:Nat),j<(r.takeWhile p).length→∃s,r[j]? =some s∧p s=true
 |[],j,h=>by simp at h
 |s::r,j,h=>by
  cases hp:p s with
  |false=>simp[List.takeWhile_cons,hp]at h
  |true=>
   cases j with
   |zero=>exact⟨s,rfl,hp⟩
   |succ j=>
    simp only[List.takeWhile_cons,hp,if_true,List.length_cons]at h
    obtain⟨t,h1,h2⟩:=qt (p:=p) r j (by omega)
    exact⟨t,by simpa using h1,h2⟩
theorem AC (L:Int):∀(k:Nat) (i:Int) (r:List Int) (a:Int),r.length≤k→a<i→(∀(p:Nat) (s:Int),r[p]? =some s→0≤s→i+(p:Int)+1≤L)→∃b,eM L a (dP k i r)=some b
 |0,_,[],a,_,_,_=>⟨a,by simp[dP,eM]⟩
 |_+1,_,[],a,_,_,_=>⟨a,by simp[dP,eM]⟩
 |0,_,_::_,_,h,_,_=>by simp at h
 |k+1,i,s::r,a,h,ha,hL=>by
  simp only[List.length_cons]at h
  by_cases hs:s<0
  ·simp only[dP,if_pos hs]
   exact AC L k (i+1) r a (by omega) (by omega) (λp t hp ht=>by
    have:=hL (p+1) t (by simpa using hp) ht;omega)
  ·simp only[dP,if_neg hs,eM]
   generalize hT:r.takeWhile (λx=>decide (0≤x))=T at*
   have hn:(aA (s::T)==[])=false:=by rw[beq_eq_false_iff_ne];simp[aA]
   have hend:i+((aA (s::T)).length:Int)≤L:=by
    rw[bi,List.length_cons]
    rcases Nat.eq_zero_or_pos T.length with h0|h0
    ·have:=hL 0 s rfl (by omega);omega
    ·obtain⟨t,h1,h2⟩:=qt (p:=λx:Int=>decide (0≤x)) r (T.length-1) (by rw[hT];omega)
     have:=hL (T.length-1+1) t (by simpa using h1) (by simpa using h2)
     omega
   rw[hn,decide_eq_false (show¬i≤a by omega),decide_eq_false (show¬L<i+((aA (s::T)).length:Int) by omega)]
   simp only[Bool.or_false,cond_false]
   have hr:r=T++r.dropWhile (λx=>decide (0≤x)):=by rw[←hT];exact(List.takeWhile_append_dropWhile).symm
   generalize hD:r.dropWhile (λx=>decide (0≤x))=D at*
   have hDl:D.length≤k:=by
    have:=congrArg List.length hr
    rw[List.length_append]at this;omega
   cases D with
   |nil=>exact⟨_,by simp[dP,eM];rfl⟩
   |cons d D=>
    have hd:d<0:=by
     have:=List.head?_dropWhile_not (λx=>decide (0≤x)) r
     rw[hD]at this
     simp at this;omega
    cases k with
    |zero=>simp at hDl
    |succ k=>
     simp only[dP,if_pos hd]
     simp only[List.length_cons]at hDl
     rw[bi,List.length_cons]
     exact AC L k _ D _ (by omega) (by omega) (λp t hp ht=>by
      have:=hL (1+T.length+(p+1)) t (by
       rw[hr,show 1+T.length+(p+1)=(T.length+(p+1))+1 by omega,List.getElem?_cons_succ,List.getElem?_append_right (by omega),show T.length+(p+1)-T.length=p+1 by omega]
       simpa using hp) ht
      omega)
theorem MI:∀(k:Nat) (i:Int) (r:List Int),(∀s∈r,s<0)→dP k i r=[]
 |0,_,[],_=>by simp[dP]
 |0,_,_::_,_=>by simp[dP]
 |_+1,_,[],_=>by simp[dP]
 |k+1,i,s::r,h=>by
  simp only[dP,if_pos (h s (List.mem_cons_self ..))]
  exact MI k (i+1) r (λt ht=>h t (List.mem_cons_of_mem _ ht))
def ba (sl:List Int):Nat:=(sl.takeWhile (λx=>decide (0≤x))).length
theorem Lc (sl:List Int)(j:Nat)(h:j<ba sl):∃s,sl[j]? =some s∧0≤s:=by
 obtain⟨s,h1,h2⟩:=qt (p:=λx:Int=>decide (0≤x)) sl j h
 exact⟨s,h1,by simpa using h2⟩
theorem IZ (sl:List Int)(s:Int)(h:sl[ba sl]? =some s):s<0:=by
 unfold ba at h
 have e:sl=sl.takeWhile (λx=>decide (0≤x))++sl.dropWhile (λx=>decide (0≤x)):=(List.takeWhile_append_dropWhile).symm
 have h2:(sl.dropWhile (λx=>decide (0≤x)))[0]? =some s:=by
  have h3:=h
  rw[e,List.getElem?_append_right (by rw[←e];exact Nat.le_refl _)]at h3
  rw[←e,Nat.sub_self]at h3
  exact h3
 have:=List.head?_dropWhile_not (λx:Int=>decide (0≤x)) sl
 rw[List.head?_eq_getElem?,h2]at this
 simp at this;omega
def TS (x:Recv)(sl:List Int)(F:Int):Recv:=
 if 3<(dP 33 0 (sl.drop (ba sl))).length then x
 else if F-(ba sl:Int)=0 then⟨(x.next+(ba sl:Int)+1)%4294967296,x.data++aA (sl.take (ba sl)),dP 33 0 (sl.drop (ba sl)),-1,true⟩
 else⟨(x.next+(ba sl:Int))%4294967296,x.data++aA (sl.take (ba sl)),dP 33 0 (sl.drop (ba sl)),if F= -1 then-1 else F-(ba sl:Int),x.done⟩
theorem RE (x:Recv)(sl:List Int)(F:Int)(hx:RV x)(hd:x.done=false)(hl:sl.length=33)(h0: -1≤F)(hF:F≤nN x)(hz:∀(k:Nat) (s:Int),sl[k]? =some s→0≤s→(k:Int)<(if F= -1 then nN x else F)):RV (TS x sl F):=by
 have hw:nN x=32-(x.data.length:Int):=by unfold nN;rw[hd];rfl
 have hdl:=hx.dl
 have hn:(ba sl:Int)≤(if F= -1 then nN x else F):=by
  rcases Nat.eq_zero_or_pos (ba sl)with h|h
  ·rw[h];split<;>omega
  ·obtain⟨s,h1,h2⟩:=Lc sl (ba sl-1) (by omega)
   have:=hz _ s h1 h2
   omega
 have hn2:(ba sl:Int)≤nN x:=by split at hn<;>omega
 have htk:(sl.take (ba sl)).length=ba sl:=by rw[List.length_take];omega
 have hdd:∀(p:Nat) (s:Int),(sl.drop (ba sl))[p]? =some s→0≤s→(p:Int)+1≤(if F= -1 then nN x else F)-(ba sl:Int)∧0<p:=by
  intro p s hp hs
  rw[List.getElem?_drop]at hp
  have h1:=hz _ s hp hs
  refine⟨by omega, ?_⟩
  rcases Nat.eq_zero_or_pos p with h|h
  ·subst h
   have:=IZ sl s (by simpa using hp)
   omega
  ·exact h
 have hwk:∃b,eM ((if F= -1 then nN x else F)-(ba sl:Int)) 0 (dP 33 0 (sl.drop (ba sl)))=some b:=by
  cases hD:sl.drop (ba sl)with
  |nil=>exact⟨0,by simp[dP,eM]⟩
  |cons d D=>
   have hd0:d<0:=by
    apply Int.not_le.1
    intro h
    have:=(hdd 0 d (by rw[hD];rfl) h).2
    omega
   have hDl:D.length≤32:=by
    have:=congrArg List.length hD
    rw[List.length_drop,List.length_cons]at this;omega
   show∃b,eM _ 0 (dP (32+1) 0 (d::D))=some b
   simp only[dP,if_pos hd0]
   exact AC _ 32 (0+1) D 0 hDl (by omega) (λp s hp hs=>by
    have:=(hdd (p+1) s (by rw[hD];simpa using hp) hs).1
    omega)
 unfold TS
 by_cases h3:3<(dP 33 0 (sl.drop (ba sl))).length
 ·rw[if_pos h3];exact hx
 ·rw[if_neg h3]
  by_cases h4:F-(ba sl:Int)=0
  ·rw[if_pos h4]
   have hne:∀s∈sl.drop (ba sl),s<0:=by
    intro s hs
    obtain⟨p,hp,rfl⟩:=List.getElem_of_mem hs
    apply Int.not_le.1
    intro h
    have:=(hdd p _ (List.getElem?_eq_getElem hp) h).1
    have hm1:F≠-1:=by omega
    rw[if_neg hm1]at this
    omega
   rw[MI _ _ _ hne]
   refine⟨by show 0≤(x.next+(ba sl:Int)+1)%4294967296;omega,by show(x.next+(ba sl:Int)+1)%4294967296≤4294967295;omega, ?_,Nat.zero_le _,Int.le_refl _, ?_,by show(-1:Int)≠0;omega,⟨0,by simp[eM]⟩,λ_=>⟨rfl,rfl⟩⟩
   ·show(x.data++aA (sl.take (ba sl))).length≤32
    rw[List.length_append,bi,htk];omega
   ·show(-1:Int)≤nN _
    unfold nN;rw[if_pos rfl];omega
  ·rw[if_neg h4]
   have hlen:(x.data++aA (sl.take (ba sl))).length=x.data.length+ba sl:=by rw[List.length_append,bi,htk]
   have hwin:∀(nx:Int) (hh:List Piec) (f:Int),nN ⟨nx,x.data++aA (sl.take (ba sl)),hh,f,x.done⟩=nN x-(ba sl:Int):=by
    intro nx hh f
    unfold nN
    simp only[hd,Bool.false_eq_true,if_false,hlen]
    omega
   refine⟨by show 0≤(x.next+(ba sl:Int))%4294967296;omega,by show(x.next+(ba sl:Int))%4294967296≤4294967295;omega,by show(x.data++aA (sl.take (ba sl))).length≤32;omega,by show(dP 33 0 (sl.drop (ba sl))).length≤3;omega, ?_, ?_, ?_, ?_,λh=>by rw[show({next:=(x.next+(ba sl:Int))%4294967296,data:=x.data++aA (sl.take (ba sl)),held:=dP 33 0 (sl.drop (ba sl)),fin:=if F= -1 then-1 else F-(ba sl:Int),done:=x.done}:Recv).done=x.done from rfl,hd]at h;cases h⟩
   ·show-1≤(if F= -1 then-1 else F-(ba sl:Int))
    split
    ·omega
    ·rename_i hm;rw[if_neg hm]at hn;omega
   ·show(if F= -1 then-1 else F-(ba sl:Int))≤nN _
    rw[hwin]
    split<;>omega
   ·show(if F= -1 then-1 else F-(ba sl:Int))≠0
    split<;>omega
   ·show∃b,eM (if(if F= -1 then-1 else F-(ba sl:Int))= -1 then nN _ else(if F= -1 then-1 else F-(ba sl:Int))) 0 (dP 33 0 (sl.drop (ba sl)))=some b
    rw[hwin]
    by_cases hm:F= -1
    ·simp only[if_pos hm]at hwk⊢
     exact hwk
    ·rw[if_neg hm]at hn
     simp only[if_neg hm]at hwk⊢
     rw[if_neg (show¬F-(ba sl:Int)= -1 by omega)]
     exact hwk
def Cr:List Int→Nat→ac→List Int
 |sl,_,[]=>sl
 |sl,o,b::t=>Cr (sl.set o (b.toNat:Int)) (o+1) t
theorem Oc:∀(t:ac) (sl:List Int) (o:Nat),(Cr sl o t).length=sl.length
 |[],_,_=>rfl
 |_::t,sl,o=>by simp only[Cr,Oc t,List.length_set]
def vr (held:List Piec):List Int:=held.foldl (λsl p=>Cr sl p.off.toNat p.text) (List.replicate 33 (-1))
theorem iq (t:ac)(k:Nat)(hk:k<t.length):af t k=(t[k].toNat:Int):=by
 simp[af,List.getD,hk]
theorem lj (b:UInt8):(b.toNat:Int)≤255:=by have:=b.toNat_lt;omega
theorem Q9 (p:Piec)(h1:1≤p.off)(h2:p.off+(p.text.length:Int)≤32){f:Int×List Int→Stp (Int×List Int) (List Int)}(hf:∀(k:Nat) sl,f ((k:Int),sl)=bif decide ((k:Int)<(p.text.length:Int))then .next (IntKind.wrap .i64 ((k:Int)+1),sl.set (IntKind.wrap .i64 (p.off+(k:Int))).toNat (IntKind.wrap .i64 (af p.text k)))else .out sl):∀(n k:Nat) (sl:List Int),k+n=p.text.length→bG f (n+1) ((k:Int),sl)=Cr sl (p.off.toNat+k) (p.text.drop k)
 |0,k,sl,h=>by
  simp only[bG,hf,decide_eq_false (show¬(k:Int)<(p.text.length:Int) by omega),cond_false,Stp.elim]
  rw[List.drop_of_length_le (by omega)]
  rfl
 |n+1,k,sl,h=>by
  have hk:k<p.text.length:=by omega
  rw[bG]
  simp only[hf,decide_eq_true (show(k:Int)<(p.text.length:Int) by omega),cond_true,Stp.elim]
  rw[au (m:=p.off+(k:Int)) (by omega) (by omega),au (m:=(k:Int)+1) (by omega) (by omega),iq _ _ hk,au (by omega) (by have:=lj p.text[k];omega)]
  rw[show(k:Int)+1=((k+1:Nat):Int) by omega,show(p.off+(k:Int)).toNat=p.off.toNat+k by omega]
  rw[Q9 p h1 h2 hf n (k+1) _ (by omega),List.drop_eq_getElem_cons hk]
  rfl
theorem Pq (x:Recv)(h:cY po x.held):rL.f (x,())=vr x.held:=by
 have e0:aX (λj a=>(tA j a).nice) 1 (Int.toNat (((List.replicate 33 (0:Int)).length:Int)-0)) 0 (List.replicate 33 (0:Int))= .next (List.replicate 33 (-1)):=by rfl
 simp only[PX,rL,b9,ex]
 rw[e0]
 simp only[Stp.elim]
 rw[bq,eb x.held _ rfl (F:=λ_ p (a:List Int)=> .next (Cr a p.off.toNat p.text)) (by
  intro j p a hp
  have hpo:=h p (sQ hp)
  unfold po at hpo
  have:=Q9 p hpo.1 hpo.2 (f:=λa=>(lB (j:Int) x a).nice) (λk sl=>by
   simp only[lB,PX,ai,getD_some hp]) p.text.length 0 a (by omega)
  simp only[PX,tg,de,ai,getD_some hp]
  rw[show Int.toNat ((p.text.length:Int)-0)=p.text.length by omega]
  exact congrArg Stp.next this)]
 have:∀(r:List Piec) (j:Nat) (a:List Int),kB (W:=Empty) (λ_ p (a:List Int)=> .next (Cr a p.off.toNat p.text)) j r a= .next (r.foldl (λsl p=>Cr sl p.off.toNat p.text) a):=by
  intro r
  induction r with
  |nil=>intro j a;rfl
  |cons p r ih=>intro j a;simp only[kB,Stp.elim,ih,List.foldl_cons]
 rw[this]
 simp only[Stp.elim]
 rfl
theorem WC {m:Int}(h0:0≤m)(h1:m≤255):IntKind.wrap .u8 m=m:=by
 rw[n8];omega
def Kb (x:Recv)(seq w:Int)(sl:List Int)(j:Nat)(b:UInt8):List Int:=
 if(seq+(j:Int)-x.next)%4294967296<w∧(x.fin<0∨(seq+(j:Int)-x.next)%4294967296<x.fin)∧sl.getD ((seq+(j:Int)-x.next)%4294967296).toNat 0<0 then sl.set ((seq+(j:Int)-x.next)%4294967296).toNat (b.toNat:Int)else sl
def F5 (x:Recv)(seq w:Int):List Int→Nat→ac→List Int
 |sl,_,[]=>sl
 |sl,j,b::t=>F5 x seq w (Kb x seq w sl j b) (j+1) t
theorem Vb (x:Recv)(seq w:Int)(sl:List Int)(j:Nat)(b:UInt8):(Kb x seq w sl j b).length=sl.length:=by
 unfold Kb;split<;>simp
theorem OC (x:Recv)(seq w:Int):∀(t:ac) (sl:List Int) (j:Nat),(F5 x seq w sl j t).length=sl.length
 |[],_,_=>rfl
 |b::t,sl,j=>by simp only[F5,OC x seq w t,Vb]
theorem Re (a n:Int):((a%4294967296)-n)%4294967296=(a-n)%4294967296:=by omega
theorem IQ {A W:Type}(z:A→A)(g:List Int→Nat→UInt8→List Int):∀(t:ac) (j:Nat) (r:A) (sl:List Int),∃r2,kB (W:=W) (λj b (a:A×List Int)=> .next (z a.1,g a.2 j b)) j t (r,sl)= .next (r2,(t.foldl (λ(p:List Int×Nat) b=>(g p.1 p.2 b,p.2+1)) (sl,j)).1)
 |[],j,r,sl=>⟨r,rfl⟩
 |b::t,j,r,sl=>by
  obtain⟨r2,e⟩:=IQ z g t (j+1) (z r) (g sl j b)
  refine⟨r2, ?_⟩
  simp only[kB,Stp.elim,List.foldl_cons]
  exact e
theorem II (x:Recv)(seq w:Int):∀(t:ac) (sl:List Int) (j:Nat),(t.foldl (λ(p:List Int×Nat) b=>(Kb x seq w p.1 p.2 b,p.2+1)) (sl,j)).1=F5 x seq w sl j t
 |[],_,_=>rfl
 |b::t,sl,j=>by simp only[List.foldl_cons,F5,II x seq w t]
theorem Yd (x:Recv)(seq w:Int)(t:ac)(hn:0≤x.next∧x.next≤4294967295)(ht:t.length≤4294967296)(r:Recv)(sl:List Int):∃r2,aX (λj a=>(pg seq t w x j a).nice) 1 (Int.toNat ((t.length:Int)-0)) 0 (r,sl)= .next (r2,F5 x seq w sl 0 t):=by
 obtain⟨r2,e⟩:=IQ (W:=Empty) (λr:Recv=>({r with held:=[]}:Recv)) (Kb x seq w) t 0 r sl
 refine⟨r2, ?_⟩
 rw[bq,eb t _ rfl (F:=λj b (a:Recv×List Int)=> .next (({a.1 with held:=[]}:Recv),Kb x seq w a.2 j b)) (by
  intro j b a hb
  have hbt:af t j=(b.toNat:Int):=by simp[af,List.getD,hb]
  have hb8:=lj b
  have e1:(IntKind.wrap .i64 ((seq+(j:Int))%4294967296-x.next))%4294967296=(seq+(j:Int)-x.next)%4294967296:=by
   rw[au (by omega) (by omega),Re]
  simp only[PX,pg,gY,cC,lQ,ai,hbt,e1]
  rw[au (by omega) (by omega)]
  unfold Kb
  generalize(seq+(j:Int)-x.next)%4294967296=o
  by_cases c1:o<w
  ·by_cases c2:x.fin<0
   ·by_cases c3:a.2.getD o.toNat 0<0
    ·simp only[decide_eq_true c1,decide_eq_true c2,decide_eq_true c3,cond_true,if_pos (show o<w∧(x.fin<0∨o<x.fin)∧a.2.getD o.toNat 0<0 from⟨c1,.inl c2,c3⟩)]
    ·simp only[decide_eq_true c1,decide_eq_true c2,decide_eq_false c3,cond_true,cond_false,if_neg (show¬(o<w∧(x.fin<0∨o<x.fin)∧a.2.getD o.toNat 0<0) from λh=>c3 h.2.2)]
   ·by_cases c4:o<x.fin
    ·by_cases c3:a.2.getD o.toNat 0<0
     ·simp only[decide_eq_true c1,decide_eq_false c2,decide_eq_true c4,decide_eq_true c3,cond_true,cond_false,if_pos (show o<w∧(x.fin<0∨o<x.fin)∧a.2.getD o.toNat 0<0 from⟨c1,.inr c4,c3⟩)]
     ·simp only[decide_eq_true c1,decide_eq_false c2,decide_eq_true c4,decide_eq_false c3,cond_true,cond_false,if_neg (show¬(o<w∧(x.fin<0∨o<x.fin)∧a.2.getD o.toNat 0<0) from λh=>c3 h.2.2)]
    ·simp only[decide_eq_true c1,decide_eq_false c2,decide_eq_false c4,cond_true,cond_false,if_neg (show¬(o<w∧(x.fin<0∨o<x.fin)∧a.2.getD o.toNat 0<0) from λh=>h.2.1.elim c2 c4)]
  ·simp only[decide_eq_false c1,cond_false,if_neg (show¬(o<w∧(x.fin<0∨o<x.fin)∧a.2.getD o.toNat 0<0) from λh=>c1 h.1)])]
 rw[e,II]
theorem Sf (sl:List Int)(e:Nat)(he:e≤sl.length):qQ.f (sl,(e:Int),())=(sl.drop e).all (λs=>decide (s<0)):=by
 have key:∀(n j:Nat),j+n=sl.length→aX (λj a=>(lm sl j a).nice) 1 n (j:Int) ()=bif (sl.drop j).all (λs=>decide (s<0))then .next ()else .out ():=by
  intro n
  induction n with
  |zero=>intro j h;rw[List.drop_of_length_le (by omega)];rfl
  |succ n ih=>
   intro j h
   have hj:j<sl.length:=by omega
   have ih:=ih (j+1) (by omega)
   rw[List.drop_eq_getElem_cons hj,List.all_cons]
   simp only[lm,PX]at ih
   simp only[aX,lm,PX,ai,getD_some (List.getElem?_eq_getElem hj)]
   by_cases h0:0≤sl[j]
   ·rw[decide_eq_true h0,decide_eq_false (show¬sl[j]<0 by omega)];rfl
   ·rw[decide_eq_false h0,decide_eq_true (show sl[j]<0 by omega)]
    simp only[cond_false,Stp.elim,Bool.true_and]
    rw[show(j:Int)+1=((j+1:Nat):Int) by omega]
    exact ih
 simp only[PX,qQ,kY]
 rw[show Int.toNat ((sl.length:Int)-(e:Int))=sl.length-e by omega,key _ _ (by omega)]
 cases(sl.drop e).all (λs=>decide (s<0))<;>rfl
theorem U8 (sl:List Int)(hr:∀s∈sl,s≤255)(hl:ba sl<sl.length):∀(n j:Nat) (r:Recv),j+n=ba sl→aX (λj a=>(i3 sl j a).nice) 1 (sl.length-j) (j:Int) (r,sl.take j)= .out ((ba sl:Int),({r with held:=[]}:Recv),sl.take (ba sl))
 |0,j,r,h=>by
  have hj:j=ba sl:=by omega
  subst hj
  have hg:=List.getElem?_eq_getElem hl
  have h0:=IZ sl _ hg
  rw[show sl.length-ba sl=(sl.length-ba sl-1)+1 by omega]
  simp only[aX,i3,PX,ai,getD_some hg,decide_eq_false (show¬0≤sl[ba sl] by omega),cond_false,Stp.elim]
 |n+1,j,r,h=>by
  obtain⟨s,hs1,pL⟩:=Lc sl j (by omega)
  have hj:j<sl.length:=by omega
  have ih:=U8 sl hr hl n (j+1) ({r with held:=[]}:Recv) (by omega)
  have Yc:=hr s (sQ hs1)
  rw[show sl.length-j=(sl.length-(j+1))+1 by omega]
  rw[List.take_succ_eq_append_getElem hj]at ih
  have he:sl[j]=s:=by rw[List.getElem?_eq_getElem hj]at hs1;exact Option.some.inj hs1
  rw[he]at ih
  simp only[i3,PX]at ih
  simp only[aX,i3,PX,ai,getD_some hs1,decide_eq_true pL,cond_true,Stp.elim]
  rw[WC pL Yc,show(j:Int)+1=((j+1:Nat):Int) by omega]
  exact ih

end
end Go.Proofs.YteiiknfadjnmgaaGreat
