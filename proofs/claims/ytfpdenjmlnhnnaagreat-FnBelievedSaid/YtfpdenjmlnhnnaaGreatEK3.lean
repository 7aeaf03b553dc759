/-
  Contracts of functions and plain laws (printed by a program): each theorem says what a function of the program returns; conditions are its hypotheses.
-/
import Derived.Test.YtfpdenjmlnhnnaaGreatEK2
set_option linter.all false
set_option maxRecDepth 4000
namespace Go.Proofs.YtfpdenjmlnhnnaaGreat
open Go Go.RowKit
noncomputable section
noncomputable def Pr:FT (Curs×Unit) (Door×Curs) (λx=>ah x.1) (λx v=>aC v.1∧ah v.2):= .mk λ(y0,_)=>
  .cal Fa.c (y0,()) λc1=>
  .cal aj.c (c1.2,16,()) λc2=>
  .ite (c2.1==0) (.cal du.c (c2.2,()) λc3=>
   .ret (({c1.1 with port:=c3.1}:Door),c3.2))<|
  .ite (c2.1==1) (.cal Ot.c (c2.2,()) λc4=>
   .ret ((⟨c1.1.port,c1.1.clock,c4.1,c1.1.limits,c1.1.halves,c1.1.table,c1.1.chal⟩:Door),c4.2))<|
  .ite (c2.1==2) (.cal Oz.c (c2.2,()) λc5=>
   .ret (({c1.1 with halves:=c5.1}:Door),c5.2))<|
  .ite (c2.1==3) (.cal Oy.c (c2.2,()) λc6=>
   .ret (({c1.1 with table.conns:=c6.1.conns,table.waiting:=c6.1.waiting}:Door),c6.2.2))<|
  .ite (c2.1==4) (.cal aD.c (c2.2,[(-1),0,c1.1.limits.chal,(IntKind.wrap .i64 (c1.1.limits.chal+1))],()) λc7=>
   .ret (({c1.1 with chal:=c7.1}:Door),c7.2))<|
  .ite (c2.1==5) (.cal aD.c (c2.2,[(-1),4294967295,4294967296],()) λc8=>
   .ret (({c1.1 with clock:=c8.1}:Door),c8.2))<|
  .ret (c1.1,c2.2)
noncomputable def TJ:=cq st ⟨230,Tryz.f230,[],1⟩ [Gq,ax,fQ,Vc,TA,TG,aJ] [] [.wr false [.ptr 0]] [.box [.st .curs]] (λx y=>(y.1.1,())) Pr (λv=>[(true,kC (.o true) (.o true) (.o true) (.o true) (.o true) v.1)]) (λx y v=>((v.2,()),())) Tryz.func230 (by kernel_rfl) trivial
noncomputable def Fb:FT (Curs×Unit) (Stac×Curs) (λx=>ah x.1) (λx v=>az v.1∧ah v.2):= .mk λ(y0,_)=>
  .cal Cj.c (y0,()) λc1=>
  .cal aj.c (c1.2,12,()) λc2=>
  .ite (c2.1==0) (.cal OX.c (c2.2,()) λc3=>
   .ret (({c1.1 with link.mac:=c3.1.mac,link.ip:=c3.1.ip,link.cache:=c3.1.cache}:Stac),c3.2))<|
  .ite (c2.1==1) (.cal Pr.c (c2.2,()) λc4=>
   .ret ((⟨c1.1.link,c4.1⟩:Stac),c4.2))<|
  .ret (c1.1,c2.2)
noncomputable def Sz:=cq st ⟨114,Tryz.f114,[],1⟩ [EK,ax,UM,TJ] [] [.wr false [.ptr 0]] [.box [.st .curs]] (λx y=>(y.1.1,())) Fb (λv=>[(true,nz (.o true) (.o true) (.o true) (.o true) (.o true) (.o true) v.1)]) (λx y v=>((v.2,()),())) Tryz.func114 (by kernel_rfl) trivial
def yB:Sh:=⟨[zp 2 0,zp 4 1,zp 5 2,zo 6 3],[.box [.st .stac [.nil .entr,.nil .macRow,.nil .macRow,.nil .half,.nil .conn,.nil .tupl]],.box [.st .curs [.sl .any]],.box [.st .stac [.own 4,.own 5,.own 6,.own 7,.own 8,.own 9]],za .acti,.of true true,.of true true,.of true true,.of true true,.of true true,.of true true]⟩
@[reducible] def xU:An:=⟨⟨[],[],false,0⟩,⟨[2,3,4,5,6],[],false,0⟩,⟨[],[]⟩,[(.normal,⟨[zp 2 0,(3,false,[.nil]),zp 4 1,zp 5 2,zo 6 3],[.box [.st .stac [.nil .entr,.nil .macRow,.nil .macRow,.nil .half,.nil .conn,.nil .tupl]],.box [.st .curs [.sl .any]],.box [.st .stac [.own 4,.own 5,.own 6,.own 7,.own 8,.own 9]],za .acti,.of true true,.of true true,.of true true,.of true true,.of true true,.of true true]⟩)]⟩
@[reducible] def xM:An:=⟨⟨[],[],false,0⟩,⟨[2,3,4,5,6],[],false,0⟩,⟨[],[]⟩,[(.normal,⟨[zp 2 0,zu 3,zp 4 1,zp 5 2,zo 6 3],[.box [.st .stac [.nil .entr,.nil .macRow,.nil .macRow,.nil .half,.nil .conn,.nil .tupl]],.box [.st .curs [.sl .any]],.box [.st .stac [.own 4,.own 5,.own 6,.own 7,.own 8,.own 9]],za .acti,.of true true,.of true true,.of true true,.of true true,.of true true,.of true true]⟩),(.normal,⟨[zp 2 0,(3,false,[.nil]),zp 4 1,zp 5 2,zo 6 3],[.box [.st .stac [.nil .entr,.nil .macRow,.nil .macRow,.nil .half,.nil .conn,.nil .tupl]],.box [.st .curs [.sl .any]],.box [.st .stac [.own 4,.own 5,.own 6,.own 7,.own 8,.own 9]],za .acti,.of true true,.of true true,.of true true,.of true true,.of true true,.of true true]⟩)]⟩
noncomputable def Ma (a:Stac×Curs×List Acti):Tr (Stp (Stac×Curs×List Acti) ((Stac×Curs×List Acti))):=
 .cal aj.c (a.2.1,3,()) λc8=>
 .ite (decide ((a.2.2.length:Int)<(IntKind.wrap .i64 (59+c8.1)))) (.grd (px a.2.2 1 104)<|
  .ret (.next (({a.1 with link.cache:=[],door.keys.now.rows:=[],door.keys.before.rows:=[],door.halves:=[],door.table.conns:=[],door.table.waiting:=[]}:Stac),c8.2,(a.2.2++[(⟨2,⟨0,0,0⟩,0,[],⟨false,0,0,[]⟩⟩:Acti)]))))<|
 .ret (.out (({a.1 with link.cache:=[],door.keys.now.rows:=[],door.keys.before.rows:=[],door.halves:=[],door.table.conns:=[],door.table.waiting:=[]}:Stac),c8.2,a.2.2))
noncomputable def oc:yB.V→LW yB (Stac×Curs×List Acti) ((Stac×Curs×List Acti)):=λ(v0,v1,v2,v3,_)=>⟨(v0,v1,v3),λa=>(a.1,a.2.1,v2,a.2.2,()),Ma,Int.toNat (61-(v3.length:Int)),oN (.exit 0) ⟨[zp 2 0,zu 3,zp 4 1,zp 5 2,zo 6 3],[.box [.st .stac [.nil .entr,.nil .macRow,.nil .macRow,.nil .half,.nil .conn,.nil .tupl]],.box [.st .curs [.sl .any]],.box [.st .stac [.own 4,.own 5,.own 6,.own 7,.own 8,.own 9]],za .acti,.of true true,.of true true,.of true true,.of true true,.of true true,.of true true]⟩ (λp=>(p.1,p.2.1,v2,p.2.2,()))⟩
theorem Lx {v0 v2:Stac}{v1:Curs}{v3:List Acti}(h0:az v0∧ah v1∧sL ba v3∧v3.length≤61):(oc (v0,v1,v2,v3,())).W (λp=>az p.1∧ah p.2.1∧sL ba p.2.2):=
 lwW (a:=(v0,v1,v3)) (λa=>az a.1∧ah a.2.1∧sL ba a.2.2∧a.2.2.length≤61) (λa=>Int.toNat (61-(a.2.2.length:Int))) h0
noncomputable def Ox:FT (List Int×Unit) (Stac×List Acti) (λx=>sS x.1∧x.1.length≤1048576) (λx v=>az v.1∧sL ba v.2):=⟨λ(x0,_)=>
  .cal Yv.c (x0,()) λc1=>
  .cal Cj.c (c1,()) λc2=>
  .cal OQ.c (c2.2,c2.1,()) λc3=>
  .cal bg.c (c3.2,12,()) λc4=>
  .bnd (β:=WT xU.es) (.ite c4.1 (.cal Pf.c (c4.2,c2.1,()) λc5=>
    .grd (px c3.1 1 104)<|
    .ret ((⟨⟨0,0,[]⟩,⟨0,0,⟨0,⟨false,0,0,[]⟩,⟨false,0,0,[]⟩,false⟩,⟨0,0,0,0⟩,[],⟨[],[]⟩,0⟩⟩:Stac),c5.2,c2.1,(c3.1++[c5.1]),()))<|
   .ret ((⟨⟨0,0,[]⟩,⟨0,0,⟨0,⟨false,0,0,[]⟩,⟨false,0,0,[]⟩,false⟩,⟨0,0,0,0⟩,[],⟨[],[]⟩,0⟩⟩:Stac),c4.2,c2.1,c3.1,())) λ(u6a0,u6a1,u6a2,u6a3,_)=>
  .cal bg.c (u6a1,30,()) λc7=>
  .bnd (β:=WT xM.es) (.ite c7.1 (.lp (oc (({u6a0 with link.cache:=[],door.keys.now.rows:=[],door.keys.before.rows:=[],door.halves:=[],door.table.conns:=[],door.table.waiting:=[]}:Stac),c7.2,u6a2,u6a3,())).lp λ(p9a0,p9a1,p9a2)=>
    .ret (.inl (({p9a0 with link.cache:=[],door.keys.now.rows:=[],door.keys.before.rows:=[],door.halves:=[],door.table.conns:=[],door.table.waiting:=[]}:Stac),p9a1,u6a2,p9a2,())))<|
   .ret (.inr ((({u6a0 with link.cache:=[],door.keys.now.rows:=[],door.keys.before.rows:=[],door.halves:=[],door.table.conns:=[],door.table.waiting:=[]}:Stac),c7.2,u6a2,u6a3,())))) λw10=> .sum w10 (λ(_,u10a1,u10a2,u10a3,_)=>
  .cal bg.c (u10a1,12,()) λc11=>
  .ite c11.1 (.cal Fb.c (c11.2,()) λc12=>
   .ret (c12.1,u10a3))<|
  .ret (u10a2,u10a3))<|
  λ(_,u10b1,u10b2,u10b3,_)=>
  .cal bg.c (u10b1,12,()) λc13=>
  .ite c13.1 (.cal Fb.c (c13.2,()) λc14=>
   .ret (c14.1,u10b3))<|
  .ret (u10b2,u10b3),
 λ(x0,_) hp=>by
  refine Tr.C ?_ λ_ _ _=>Tr.C ?_ λ_ _ _=>Tr.C ?_ λ_ _ _=>Tr.C ?_ λ_ _ _=>Tr.B (Q':=λw=>az w.1∧ah w.2.1∧az w.2.2.1∧sL ba w.2.2.2.1) (Tr.I (λ_=>Tr.C ?_ λ_ _ _=>Tr.Gb ?_ λ_=>Tr.R ?_) λ_=>Tr.R ?_) (λ(u6a0,u6a1,u6a2,u6a3,_) _ _=>Tr.C ?_ λ_ _ _=>Tr.B (Q':=(Sum.elim (λw=>az w.1∧ah w.2.1∧az w.2.2.1∧sL ba w.2.2.2.1) (λw=>az w.1∧ah w.2.1∧az w.2.2.1∧sL ba w.2.2.2.1))) (Tr.I (λ_=>Tr.L (Lx ?_) (λa=>Empty.elim a) (λ(p9a0,p9a1,p9a2) _=>Tr.R ?_)) λ_=>Tr.R ?_) (λ_ _ q10=>Tr.E q10 (λ(u10a0,u10a1,u10a2,u10a3,_) _=>Tr.C ?_ λ_ _ _=>Tr.I (λ_=>Tr.C ?_ λ_ _ _=>Tr.R ?_) λ_=>Tr.R ?_) (λ(u10b0,u10b1,u10b2,u10b3,_) _=>Tr.C ?_ λ_ _ _=>Tr.I (λ_=>Tr.C ?_ λ_ _ _=>Tr.R ?_) λ_=>Tr.R ?_)))
  all_goals ((try simp only[oc,LW.lp,LW.cw,Cw.lp,Tr.nice,j5]at*)<;>grind)⟩
noncomputable def UI:=NI st Tryz.func39 [(0,lb [2,4,5,6] [2,3,4,5,6]),(1000015,xU),(1000023,xM),(4000000,la ⟨[],[],false,0⟩ ⟨[],[.softb 2 2,.softb 2 9,.softb 2 13,.softb 2 19,.softb 2 20,.softb 2 21],false,0⟩)] [Zi,EK,S1,bT,Td,ax,Sz] 0 oc (ks:=[.sc (.sl .u8)]) Ox (λv=>[(true,nz .c .c .c .c .c .c v.1),(false,[sc (.o true) .acti v.2])])
noncomputable def k8:FT (List Int×Unit) (Stac×List Acti) (λx=>sS x.1∧x.1.length≤1048576) (λx v=>az v.1∧sL ba v.2):= .mk λ(x0,_)=>
  .cal Ox.c (x0,()) λc1=>
  .ret (c1.1,c1.2)
noncomputable def LQ:=a9 st Tryz.func7 [UI] (ks:=[.sc (.sl .u8)]) k8 (λv=>[(true,nz .c .c .c .c .c .c v.1),(false,[sc (.o true) .acti v.2])])
noncomputable def rY:=[ada,LQ,XZ,WQ,JD,xN,DM,Em,CH,CT]
def j3:Sh:=⟨[zp 3 0,zo 4 1,zo 5 2,zo 6 3,zi 7],[.box [.st .stac [.sl .any,.sl .any,.sl .any,.sl .any,.sl .any,.sl .any]],za .acti,za .issu,za .issu]⟩
def jT:Sh:=⟨[zo 4 0,zo 5 1,zp 8 2,zo 9 3,zi 10],[za .acti,za .issu,.box [.st .stac [.sl .any,.sl .any,.sl .any,.sl .any,.sl .any,.sl .any]],za .issu]⟩
noncomputable def si:Fx:=⟨3,Tryz.f3,[(0,lb [3,4,5,6,7] [2,3,4,5]),(2,lb [4,5,8,9,10] [2]),(3000021,rA 0 103)],0⟩
noncomputable def nG (v3 v4:List Issu)(v0:Int)(a:Unit):Tr (Stp (Unit) ((Unit))):=
 .grd (cG v3 v0)<|
 .grd (cG v4 v0)<|
 .ite (!((((v3.getD v0.toNat (Ty.zero .issu)).tuple.ip==(v4.getD v0.toNat (Ty.zero .issu)).tuple.ip)&&(((v3.getD v0.toNat (Ty.zero .issu)).tuple.port==(v4.getD v0.toNat (Ty.zero .issu)).tuple.port)&&(((v3.getD v0.toNat (Ty.zero .issu)).tuple.my==(v4.getD v0.toNat (Ty.zero .issu)).tuple.my)&&true)))&&(((v3.getD v0.toNat (Ty.zero .issu)).seq==(v4.getD v0.toNat (Ty.zero .issu)).seq)&&(((v3.getD v0.toNat (Ty.zero .issu)).cookie==(v4.getD v0.toNat (Ty.zero .issu)).cookie)&&true)))) (.ret (.out ()))<|
 .ret (.next ())
noncomputable def dR:j3.V→tq j3 Unit (Unit):=λ(v0,v1,v2,v3,v4,_)=>⟨v0,(),λv0 _=>(v0,v1,v2,v3,v4,()),λv0 _=>(decide (v0<(v3.length:Int))),nG v3 v4,up,1,(Int.toNat ((v3.length:Int)-v0)),.inl,eR,oB .ret ⟨[zb 2,zp 3 0,zo 4 1,zo 5 2],[.box [.st .stac [.sl .any,.sl .any,.sl .any,.sl .any,.sl .any,.sl .any]],za .acti,za .issu]⟩ (λ_=>(false,v1,v2,v3,())) (.exit 0) ⟨[zu 2,zp 3 0,zo 4 1,zo 5 2],[.box [.st .stac [.sl .any,.sl .any,.sl .any,.sl .any,.sl .any,.sl .any]],za .acti,za .issu]⟩ (λ_=>(v1,v2,v3,()))⟩
theorem Eo:LS Tryz.prog si [0] (gc 0 j3 dR):=dd st (aL rY) _ dR [] trivial
theorem Ez {v0:Int}{v1:Stac}{v2:List Acti}{v3 v4:List Issu}(h0:0≤v0)(h1:(v3.length:Int)≤4611686018427387904)(h2:(v3.length:Int)≤(v4.length:Int)):(dR (v0,v1,v2,v3,v4,())).U (v3.length:Int) (λ_ _=>True) (λ_=>True):=
 ju h0 h1 trivial
noncomputable def d7 (v1:List Acti)(v2:List Issu)(v0:Int)(a:Stac×List Issu):Tr (Stp (Stac×List Issu) ((Unit)⊕(Unit))):=
 .ite (decide (v0<60)) (.grd (cG v1 v0)<|
  .cal qR.c (a.1,(v1.getD v0.toNat (Ty.zero .acti)),()) λc6=>
  .ite c6.2 (.cal lq.c (a.1.door.keys,c6.1.tuple,c6.1.seq,c6.1.cookie,()) λc7=>
   .bnd (β:=Bool×Unit) (.ite (!c7.2.2) (.ret (true,()))<|
    .cal rU.c (a.2,c6.1,()) λc8=>
    .cal oy.c (v2,c6.1,()) λc9=>
    .ite (c8==c9) (.cal oy.c (a.2,c6.1,()) λc10=>
     .ret ((!c10),()))<|
    .ret (false,())) λ(u11a0,_)=>
   .ite u11a0 (.ret (.out (.inl ())))<|
   .grd (cG v1 v0)<|
   .cal uq.c (a.1,(v1.getD v0.toNat (Ty.zero .acti)),()) λc12=>
   .cal mn.c (a.1,c12.2,()) λc13=>
   .grd (Nat.ble ((2*(a.2.length+c13.length)+1024)*40) bc)<|
   .ret (.next (c12.1,(a.2++c13))))<|
  .grd (cG v1 v0)<|
  .cal uq.c (a.1,(v1.getD v0.toNat (Ty.zero .acti)),()) λc14=>
  .cal mn.c (a.1,c14.2,()) λc15=>
  .grd (Nat.ble ((2*(a.2.length+c15.length)+1024)*40) bc)<|
  .ret (.next (c14.1,(a.2++c15))))<|
 .ret (.out (.inr (())))
noncomputable def dN:jT.V→tq jT (Stac×List Issu) ((Unit)⊕(Unit)):=λ(v0,v1,v2,v3,v4,_)=>⟨v0,(v3,v4),λv0 a=>(v0,v1,v2,a.1,a.2,()),λv0 _=>(decide (v0<(v1.length:Int))),d7 v1 v2,up,1,(Int.toNat ((v1.length:Int)-v0)),.inl,eR,λ_ k w=>Sum.elim (oB .ret ⟨[zb 2],[]⟩ (λ_=>(false,())) (.exit 2) ⟨[zu 2],[]⟩ (λ_=>()) _ k) (λ_=>k (.exit 2) (Sh.enc ⟨[zu 2],[]⟩ ())) w⟩
theorem EA:LS Tryz.prog si [1] (gc 2 jT dN):=dd st (aL rY) _ dN [] trivial
theorem Eh {v0:Int}{v1:List Acti}{v2 v4:List Issu}{v3:Stac}(h0:0≤v0)(h1:(v1.length:Int)≤4611686018427387904)(h2:sL ba v1)(h3:sS v2)(h4:az v3∧(v4.length:Int)≤4294967296*v0):(dN (v0,v1,v2,v3,v4,())).U (v1.length:Int) (λv0 a=>az a.1∧(a.2.length:Int)≤4294967296*v0) (λ_=>True):=
 ju (a:=(v3,v4)) h0 h1 h4
noncomputable def nu:FX (List Int×Unit) (Bool) (λ_=>True) (D5 [.sc (.sl .u8)]):=⟨λ(x0,_)=>
  .val (LH.f (x0,())) λc1=>
  .ite c1 (.ret true)<|
  .cal k8.c (x0,()) λc2=>
  .cal ES.c (c2.1,c2.2,()) λc3=>
  .cal Dm.c (c2.1,c2.2,()) λc4=>
  .ite ((c3.length:Int) != (c4.length:Int)) (.ret false)<|
  .lp (dR (0,c2.1,c2.2,c3,c4,())).lp λw5=> .sum w5 (λ_=>
  .ret false)<|
  λ_=>
  .lp (dN (0,c2.2,c3,c2.1,[],())).lp λw16=> .sum w16 (λq16=> .sum q16 (λ_=>
  .ret false)<|
  λ_=>
  .ret true)<|
  λ_=>
  .ret true,
 λ(x0,_) hp hf=>by
  simp only[D5,Pk.fact,Ut,Gr,Fl.fact,Ty.fl,Ty.toH]at hf
  refine Tr.V λ_ _=>Tr.I (λ_=>Tr.R trivial) λ_=>Tr.C ?_ λ_ _ _=>Tr.C ?_ λ_ _ _=>Tr.C ?_ λ_ _ _=>Tr.I (λ_=>Tr.R trivial) λ_=>Tr.L (Ez ?_ ?_ ?_) (λ_ _=>Tr.Sr (Tr.L (Eh ?_ ?_ ?_ ?_ ?_) (λ(a16_0,a16_1) _=>Tr.Sr (Tr.R trivial)) (Tr.W2 (λ_ _=>Tr.Sl (Tr.Sl (Tr.R trivial))) (λ_ _=>Tr.Sl (Tr.Sr (Tr.R trivial)))))) (λ_ _=>Tr.Sl (Tr.R trivial))
  all_goals ((try simp only[dR,dN,LC.lp,LC.ct,Ct.lp]at*)<;>grind)⟩
noncomputable def Jb:=afX st si rY [(gc 0 j3 dR),(gc 2 jT dN)] (ks:=[.sc (.sl .u8)]) nu rB Tryz.func3 ⟨Eo,EA,trivial⟩
theorem dr (n b:Int):aI.f (n,b,())=ae.f (n,b,()):=by
 simp only[PX,aI,ae,bH,au]
 cases h:(decide (1≤b)&&decide (b≤62))with
 |false=>simp only[cond_false]
 |true=>
  have h1:1≤b∧b≤62:=by simpa using h
  rw[Us (by omega) (by omega)]
theorem rC (x:Tupl):k7.f (x,())=aG.f (x,()):=by
 simp only[PX,k7,aG,dr]
theorem iO (x:Opti):eT.f (x,())=aM.f (x,()):=by
 simp only[PX,eT,aM,dr,bH,au]
theorem YC (x:Int):Ee.f (x,())=gb.f (x,()):=by
 simp only[PX,Ee,gb,bH,au]
theorem afD:gb.f (0,())=64∧gb.f (1,())=256∧gb.f (2,())=536∧gb.f (3,())=1024∧gb.f (4,())=1300∧gb.f (5,())=1400∧gb.f (6,())=1440∧gb.f (7,())=1460:=by
 simp[PX,gb,au]
theorem W4 (x:Int):wh.f (x,())=jr.f (x,()):=by
 obtain⟨h0,h1,h2,h3,h4,h5,h6,h7⟩:=afD
 simp only[PX,wh,jr,lH,ec,show Int.toNat (8-0)=8 from rfl,show Int.toNat (7-0)=7 from rfl,aP,xj,lP,YC]
 simp only[show(0:Int)+1=1 from rfl,show(1:Int)+1=2 from rfl,show(2:Int)+1=3 from rfl,show(3:Int)+1=4 from rfl,show(4:Int)+1=5 from rfl,show(5:Int)+1=6 from rfl,show(6:Int)+1=7 from rfl,
  show(7:Int)+ -1=6 from rfl,show(6:Int)+ -1=5 from rfl,show(5:Int)+ -1=4 from rfl,show(4:Int)+ -1=3 from rfl,show(3:Int)+ -1=2 from rfl,show(2:Int)+ -1=1 from rfl,h0,h1,h2,h3,h4,h5,h6,h7]
 grind [Stp.elim]
theorem mG (x:Int):bQ.f (x,())=x%4294967296:=by
 simp only[PX,bQ]
 rcases Int.lt_or_le x 0 with h|h
 ·rw[(iC 4294967296).2 h,di]
  cases hd:decide (-(-x%4294967296)<0)with
  |true=>simp only[decide_eq_true_eq]at hd;simp only[cond_true];omega
  |false=>simp only[decide_eq_false_iff_not]at hd;simp only[cond_false];omega
 ·rw[(iC 4294967296).1 h,di]
  cases hd:decide (x%4294967296<0)with
  |true=>simp only[decide_eq_true_eq]at hd;omega
  |false=>rfl
theorem bt (a b:Int):bK.f (a,b,())=(a+b)%4294967296:=by
 simp only[PX,bK]
 rw[tk,di];omega
theorem iH (a b:Int):bJ.f (a,b,())=bK.f (a,b,()):=by
 rw[bt]
 simp only[PX,bJ,mG,di];omega
theorem Fh (x y:Mac):mK.f (x,y,())=fF.f (x,y,()):=by
 simp only[PX,mK,fF,nC,kn,gX,sR,qw]
 have e1:(x.k != y.k)= !(x.k==y.k):=rfl
 have e2:(x.l != y.l)= !(x.l==y.l):=rfl
 rw[e1,e2]
 cases(x.use==y.use)<;>cases(x.k==y.k)<;>cases(x.l==y.l)<;>cases((x.rows.length:Int) != (y.rows.length:Int))<;>rfl
theorem oE (n b:Int):aX.f (n,b,())=aA.f (n,b,()):=by
 simp only[PX,aX,aA,dr,bH,au,kI,eL]
 cases h1:(decide (1≤b)&&decide (b≤6))with
 |false=>rfl
 |true=>
  cases h2:ae.f (n,(IntKind.wrap .i64 (8*b)),())with
  |false=>rfl
  |true=>
   have hb:0≤n∧n≤9223372036854775807:=by
    revert h2
    simp only[PX,ae,au]
    cases(decide (1≤IntKind.wrap .i64 (8*b))&&decide (IntKind.wrap .i64 (8*b)≤62))with
    |false=>simp
    |true=>
     simp only[cond_true,Bool.and_eq_true,decide_eq_true_eq]
     generalize(IntKind.wrap .i64 (1*2 ^ (min (IntKind.wrap .i64 (8*b)).toNat 64)))=z
     rw[di]
     omega
   have e:∀k i r,aP (λj a=>(m9 j a).nice) (-1) k i (n,r)=aP (λj a=>(dP j a).nice) (-1) k i (n,r):=by
    intro k i r
    refine Hi (P:=λa=>0≤a.1∧a.1≤9223372036854775807) (λi a ha=> ?_) (λi a a' ha he=> ?_) k i (n,r) hb
    ·simp only[PX,m9,dP]
     rw[(Es 256).1 ha.1,(iC 256).1 ha.1,aq (by omega) (by omega),Int.fdiv_eq_ediv_of_nonneg a.1 (by omega),rz,rz,Int.emod_emod]
    ·simp only[PX,m9]at he
     cases he
     show 0≤IntKind.wrap .i64 (a.1.tdiv 256)∧_
     rw[(Es 256).1 ha.1,aq (by omega) (by omega)]
     omega
   simp only[e]
theorem Nx (x:Int):pK.f (x,())=gH.f (x,()):=by simp only[PX,pK,gH,dr]
theorem Xs (x:Tupl)(a b c:Int):xa.f (x,a,b,c,())=fN.f (x,a,b,c,()):=by simp only[PX,xa,fN,oE,rC,dr,bH,au]
theorem aaZ (x:Mac)(r:List MacRow)(j:Nat)(hj:j<r.length)(hr:x.rows=r):
  Stp.elim (γ:=Stp Unit Unit) (λ_=> .next ()) (λ_=> .out ()) (aP (λi a=>(sH (j:Int) x i a).nice) 1 (Int.toNat ((j:Int)-0)) 0 ())=
  bif cT.f (((r.take j).drop 0),(r.getD j (Ty.zero .macRow)),())then .out ()else .next ():=by
 subst hr
 let p:MacRow→Bool:=λy=>y.input==(x.rows.getD j (Ty.zero .macRow)).input
 simp only[PX,cT,fu,bz]
 rw[List.drop_zero]
 have hl:(x.rows.take j).length=j:=by rw[List.length_take];omega
 rw[cS (x.rows.take j) _ (by rw[hl];simp) (F:=λq y a=>bif p y then .out ()else .next ()) (by
  intro q y a h
  have hq:q<j:=by
   have:=(List.getElem?_eq_some_iff.1 h).1;omega
  have h2:x.rows[q]? =some y:=by rw[List.getElem?_take]at h;simpa [hq]using h
  simp only[PX,sH,af,getD_some h2,p])]
 rw[cS (x.rows.take j) _ (by simp) (F:=λq y a=>bif p y then .out (q:Int)else .next ()) (by
  intro q y a h
  simp only[PX,ge,E7,af,getD_some h,p])]
 rw[kK (w:=λ_ _=>()),kK (w:=λj _=>(j:Int))]
 cases h:(x.rows.take j).findIdx? p with
 |none=>simp[PX,Stp.elim]
 |some i=>
  have:=(List.findIdx?_eq_some_iff_getElem.1 h).1
  simp only[List.getElem?_eq_getElem this,Stp.elim]
  simp[PX]
theorem QC (x:Mac):uc.f (x,())=jR.f (x,()):=by
 simp only[PX,uc,jR,ld,qT]
 have e:aP (λj a=>(vL x j a).nice) 1 (Int.toNat ((x.rows.length:Int)-0)) 0 ()=aP (λj a=>(qD x.rows x j a).nice) 1 (Int.toNat ((x.rows.length:Int)-0)) 0 ():=by
  rw[aN]
  refine UL x.rows.length 0 () (λj a hj=> ?_)
  have:=aaZ x x.rows j (by omega) rfl
  simp only[PX,vL,qD,fX,af,bH,au]at this⊢
  rw[this]
 rw[e]
 have e1:(x.k != 0)= !(x.k==0):=rfl
 have e2:(x.l != 0)= !(x.l==0):=rfl
 have e3:decide (64<(x.rows.length:Int))= !decide ((x.rows.length:Int)≤64):=by
  rcases Int.lt_or_le 64 (x.rows.length:Int)with h|h
  ·simp[h,show¬((x.rows.length:Int)≤64) by omega]
  ·simp[h,show¬(64<(x.rows.length:Int)) by omega]
 rw[e1,e2,e3]
 generalize aP (λj a=>(qD x.rows x j a).nice) 1 (Int.toNat ((x.rows.length:Int)-0)) 0 ()=z
 cases x.use<;>cases z<;>cases(x.k==0)<;>cases(x.l==0)<;>cases decide ((x.rows.length:Int)≤64)<;>simp[PX,Stp.elim]
theorem L4 (k:Keys):uC.f (k,())=eh.f (k,()):=by
 simp only[PX,uC,eh,dr,QC,Fh,cb,au]
 cases ht:k.two<;>simp only[PX,cond_true,cond_false,ht]<;>cases jR.f (k.now,())<;>cases jR.f (k.before,())<;>grind
theorem J8 (x n:Int)(h:bits .and .u64 (IntKind.wrap .u64 n) 63=n):dB.f (x,n,())=kV.f (x,n,()):=by
 simp only[PX,dB,kV,h]
theorem LT (x:Sipr):iX.f (x,())=kD.f (x,()):=by
 simp only[PX,iX,kD,J8 _ 13 (by decide+kernel),J8 _ 16 (by decide+kernel),J8 _ 17 (by decide+kernel),J8 _ 21 (by decide+kernel),J8 _ 32 (by decide+kernel)]
theorem PI (x:Sipr)(m:Int):uS.f (x,m,())=va.f (x,m,()):=by
 simp only[PX,uS,va,LT]
theorem W8 (k l:Int):vQ.f (k,l,())=th.f (k,l,()):=by simp only[PX,vQ,th]
theorem aa6 (x:Sipr):EH.f (x,())=vb.f (x,()):=by
 simp only[PX,EH,vb,li,LT]
 have e:(λ(j:Int) a=>(ut j a).nice)=λ_ a=>Stp.next (kD.f (a,())):=rfl
 rw[e]
 generalize FT.f kD=R
 rfl
theorem ro (n:Int)(h0:0≤n)(h1:n<2 ^ 64):IntKind.u64.wrap n=n:=by rw[zT];omega
theorem or8 (a b:Int)(ha:0≤a)(ha1:a<72057594037927936)(hb:0≤b)(hb1:b<256):bits .or .u64 (IntKind.wrap .u64 (a*256)) (IntKind.wrap .u64 b)=a*256+b:=by
 rw[ro _ (by omega) (by omega),ro _ (by omega) (by omega)]
 exact bits_join .u64 64 (by decide) ro 8 _ _ (by omega) (by omega) (by omega) (by omega) (by omega) (by omega)
def JJ (g:Nat→Int):Nat→Int→Int
 |0,a=>a
 |k+1,a=>JJ g k (a*256+g k)
theorem EW {g h:Nat→Int}:∀(k:Nat) (a:Int),(∀j,j<k→g j=h j)→JJ g k a=JJ h k a
 |0,_,_=>rfl
 |k+1,a,e=>by simp only[JJ,e k (Nat.lt_succ_self _)];exact EW k _ λj hj=>e j (by omega)
theorem IU {g:Nat→Int}:∀(k:Nat) (a:Int),JJ g k a=a*256 ^ k+JJ g k 0
 |0,a=>by simp[JJ]
 |k+1,a=>by
  simp only[JJ]
  rw[IU k (a*256+g k),IU k (0*256+g k),Int.pow_succ,Int.add_mul,Int.zero_mul,Int.zero_add,Int.mul_assoc,Int.mul_comm 256 (256 ^ k),Int.add_assoc]
theorem abg (k:Nat):(1:Int)≤256 ^ k:=by
 have:=Int.pow_pos (n:=256) (m:=k) (by decide)
 omega
theorem acu {g:Nat→Int}(hg:∀k,0≤g k∧g k≤255):∀(k:Nat),0≤JJ g k 0∧JJ g k 0<256 ^ k
 |0=>by simp[JJ]
 |k+1=>by
  have h:=acu hg k
  simp only[JJ]
  rw[IU,Int.zero_mul,Int.zero_add,Int.pow_succ]
  have h1:=hg k
  have h2:=abg k
  have h3:0≤g k*256 ^ k:=Int.mul_nonneg h1.1 (by omega)
  have h4:g k*256 ^ k≤255*256 ^ k:=Int.mul_le_mul_of_nonneg_right h1.2 (by omega)
  omega
theorem Kw {f:Int→Int→Stp Int Empty}{g:Nat→Int}(hg:∀k,0≤g k∧g k≤255)(hf:∀(k:Nat) a,f (k:Int) a= .next (bits .or .u64 (IntKind.wrap .u64 (a*256)) (IntKind.wrap .u64 (g k)))):
  ∀(k:Nat) (a:Int),0≤a→(a+1)*256 ^ k≤18446744073709551616→aP f (-1) k ((k:Int)-1) a= .next (JJ g k a)
 |0,a,_,_=>rfl
 |k+1,a,h0,h1=>by
  have hp:=abg k
  rw[Int.pow_succ,Int.mul_comm (256 ^ k) 256,←Int.mul_assoc]at h1
  have h2:(a+1)*256*1≤(a+1)*256*256 ^ k:=Int.mul_le_mul_of_nonneg_left hp (by omega)
  have h3:=hg k
  simp only[aP,JJ]
  rw[show((k+1:Nat):Int)-1=(k:Int) by omega,hf,or8 a (g k) h0 (by omega) h3.1 (by omega)]
  simp only[Stp.elim]
  rw[show(k:Int)+ -1=(k:Int)-1 by omega]
  refine Kw hg hf k _ (by omega) ?_
  have h4:(a*256+g k+1)*256 ^ k≤(a+1)*256*256 ^ k:=Int.mul_le_mul_of_nonneg_right (by omega) (by omega)
  omega
theorem Ak (s:aa)(k:Nat):0≤ai s k∧ai s k≤255:=gK s k
theorem OJ (s:aa)(h:s.length≤8):sA.f (s,())=JJ (ai s) s.length 0:=by
 simp only[PX,sA,pH]
 rw[aq (by omega) (by omega)]
 rw[show Int.toNat ((s.length:Int)-1-0+1)=s.length by omega]
 rw[Kw (g:=ai s) (Ak s) (λk a=>rfl) s.length 0 (by omega) ?_]
 ·rfl
 ·have:∀k:Nat,k≤8→(0+1:Int)*256 ^ k≤18446744073709551616:=by decide
  exact this _ h
theorem PM (l:List Int)(h:∀k,0≤l.getD k 0∧l.getD k 0≤255):rK.f (l,())=JJ (λk=>l.getD k 0) 8 0:=by
 simp only[PX,rK,pI]
 rw[show Int.toNat (7-0+1)=8 from rfl,show(7:Int)=((8:Nat):Int)-1 from rfl]
 rw[Kw (g:=λk=>l.getD k 0) h (λk a=>rfl) 8 0 (by omega) (by decide)]
 rfl
theorem LB {A B W W':Type}[Inhabited W][Inhabited W']{f:A→Stp A W}{g:B→Stp B W'}{R:A→B→Prop}{Q:W→W'→Prop}{ma:A→Nat}{mb:B→Nat}
  (h:∀a b,R a b→(∃a' b',f a= .next a'∧g b= .next b'∧R a' b'∧ma a'<ma a∧mb b'<mb b)∨(∃w w',f a= .out w∧g b= .out w'∧Q w w')):
  ∀(m m':Nat) (a:A) (b:B),ma a<m→mb b<m'→R a b→Q (cl f m a) (cl g m' b)
 |0,_,_,_,h1,_,_=>absurd h1 (Nat.not_lt_zero _)
 |_+1,0,_,_,_,h2,_=>absurd h2 (Nat.not_lt_zero _)
 |m+1,m'+1,a,b,h1,h2,hr=>by
  rcases h a b hr with⟨a',b',e1,e2,hr',l1,l2⟩|⟨w,w',e1,e2,hq⟩
  ·simp only[cl,e1,e2,Stp.elim]
   exact LB h m m' a' b' (by omega) (by omega) hr'
  ·simp only[cl,e1,e2,Stp.elim]
   exact hq
theorem ab2 {g:Nat→Int}(k:Nat)(a:Int):JJ g (k+1) a=JJ g k (a*256+g k):=rfl
theorem abG {α:Type}{xs:List α}{j:Nat}(h:j<xs.length)(v z:α):(xs.set j v).getD j z=v:=by
 simp[List.getD,List.getElem?_set,h]
theorem x6 (s:aa)(k:Nat):(eu s).getD k 0=ai s k:=by
 simp only[eu,ai,List.getD,List.getElem?_map]
 cases s[k]? <;>rfl
theorem Gm (s:aa)(n k:Nat):ai (s.drop n) k=ai s (n+k):=by
 simp only[ai,List.getD,List.getElem?_drop]
theorem Su (s:aa)(n k:Nat)(h:k<n):ai (s.take n) k=ai s k:=by
 simp only[ai,List.getD,List.getElem?_take,if_pos h]
theorem Gh (s:aa)(k:Nat)(h:s.length≤k):ai s k=0:=by
 simp[ai,List.getD,h]
theorem Yz {g:Nat→Int}(r:Nat):∀(m:Nat),(∀j,r≤j→j<r+m→g j=0)→JJ g (r+m) 0=JJ g r 0
 |0,_=>rfl
 |m+1,h=>by
  rw[show r+(m+1)=(r+m)+1 from rfl]
  simp only[JJ]
  rw[h (r+m) (by omega) (by omega)]
  exact Yz r m λj h1 h2=>h j h1 (by omega)
theorem Qr (k:IntKind)(a b:Int):bits .or k a b=bits .or k b a:=by
 simp only[bits,BitVec.or_comm]
def aeM (x:aa)(a:Int×Sipr)(b:List Int×Sipr):Prop:=0≤a.1∧a.1≤x.length∧b.1=eu (x.drop a.1.toNat)∧a.2=b.2
theorem S3 (s:aa)(n:Nat):(eu s).drop n=eu (s.drop n):=by simp[eu]
theorem ZZ (x:aa)(hx:x.length≤4294967296)(z:Sipr):aeM x (cl (λa=>(kF x (x.length:Int) a).nice) (Int.toNat ((x.length:Int)-0)+1) (0,z)) (cl (λa=>(nT a).nice) ((eu x).length+1) (eu x,z))∧
  (x.length:Int)<(cl (λa=>(kF x (x.length:Int) a).nice) (Int.toNat ((x.length:Int)-0)+1) (0,z)).1+8:=by
  refine LB (R:=aeM x) (Q:=λw w'=>aeM x w w'∧(x.length:Int)<w.1+8) (ma:=λa=>Int.toNat ((x.length:Int)-a.1)) (mb:=λb=>b.1.length) ?_ _ _ _ _ ?_ ?_ ?_
  ·intro a b hr
   obtain⟨h1,h2,h3,h4⟩:=hr
   have hb:(b.1.length:Int)=(x.length:Int)-a.1:=by rw[h3,pD,List.length_drop];omega
   simp only[PX,kF,nT]
   rw[aq (by omega) (by omega)]
   cases hd:decide (a.1+8≤(x.length:Int))with
   |true=>
    simp only[decide_eq_true_eq]at hd
    rw[show decide (8≤(b.1.length:Int))=true by simp only[decide_eq_true_eq];omega]
    refine .inl ⟨_,_,rfl,rfl,⟨?_, ?_, ?_, ?_⟩, ?_, ?_⟩
    ·simp only[];omega
    ·simp only[];omega
    ·simp only[]
     rw[af,List.take_length,h3,S3,List.drop_drop,show(a.1+8).toNat=a.1.toNat+8 by omega]
    ·have e:sA.f ((x.take (a.1+8).toNat).drop a.1.toNat,())=rK.f (b.1,()):=by
      have hl:((x.take (a.1+8).toNat).drop a.1.toNat).length=8:=by rw[List.length_drop,List.length_take];omega
      rw[OJ _ (by omega),hl,PM _ (λk=>by rw[h3,x6];exact Ak _ _)]
      refine EW 8 0 λj hj=> ?_
      rw[h3,x6,Gm,Gm,Su _ _ _ (by omega)]
     simp only[e,h4,PI]
    ·simp only[];omega
    ·simp only[af,List.take_length,List.length_drop];omega
   |false=>
    simp only[decide_eq_false_iff_not]at hd
    rw[show decide (8≤(b.1.length:Int))=false by simp only[decide_eq_false_iff_not];omega]
    exact .inr ⟨_,_,rfl,rfl,⟨h1,h2,h3,h4⟩,by show(x.length:Int)<a.1+8;omega⟩
  ·exact Nat.lt_succ_self _
  ·exact Nat.lt_succ_self _
  ·exact⟨by simp,by simp,by simp,rfl⟩
theorem ace (x:aa)(hx:x.length≤4294967296)(p:Int)(q:List Int)(h1:0≤p)(h2:p≤x.length)(h3:q=eu (x.drop p.toNat))(h5:(x.length:Int)<p+8):
  bits .or .u64 (sA.f (x.drop p.toNat,())) (IntKind.wrap .u64 ((IntKind.wrap .u64 ((x.length:Int).tmod 256))*72057594037927936))=rK.f ((q++(List.replicate 8 0).drop q.length).set 7 (IntKind.wrap .u8 (x.length:Int)),()):=by
 have hl:(x.drop p.toNat).length=x.length-p.toNat:=by simp
 have hq:q.length=x.length-p.toNat:=by rw[h3,pD,hl]
 generalize hy:x.drop p.toNat=y at h3 hl
 have hy8:y.length≤7:=by omega
 rw[OJ y (by omega)]
 have hb7:IntKind.u8.wrap (x.length:Int)=(x.length:Int)%256:=rz _
 have hm:IntKind.u64.wrap ((x.length:Int).tmod 256)=(x.length:Int)%256:=by
  rw[(iC 256).1 (by omega),ro _ (by omega) (by omega)]
 rw[hb7,hm]
 have hg:∀k,((q++(List.replicate 8 (0:Int)).drop q.length).set 7 ((x.length:Int)%256)).getD k 0=if k=7 then(x.length:Int)%256 else ai y k:=by
  intro k
  by_cases e:k=7
  ·subst e
   rw[if_pos rfl]
   exact abG (by simp;omega) _ _
  ·rw[if_neg e,List.getD,List.getElem?_set_ne (by omega)]
   by_cases hk:k<q.length
   ·rw[List.getElem?_append_left hk,h3,←List.getD_eq_getElem?_getD,x6]
   ·rw[List.getElem?_append_right (by omega),List.getElem?_drop,List.getElem?_replicate,Gh y k (by omega)]
    split<;>rfl
 rw[PM _ (λk=>by
  rw[hg]
  split
  ·omega
  ·exact Ak _ _)]
 have hbd:=acu (g:=ai y) (Ak y) y.length
 have hp7:(256:Int) ^ y.length≤72057594037927936:=by
  have:∀k:Nat,k≤7→(256:Int) ^ k≤72057594037927936:=by decide
  exact this _ hy8
 have e1:JJ (λk=>((q++(List.replicate 8 (0:Int)).drop q.length).set 7 ((x.length:Int)%256)).getD k 0) 8 0=((x.length:Int)%256)*72057594037927936+JJ (ai y) y.length 0:=by
  refine(ab2 7 0).trans ?_
  rw[hg 7,if_pos rfl,IU,Int.zero_mul,Int.zero_add,show(256:Int) ^ 7=72057594037927936 from rfl]
  congr 1
  rw[EW 7 0 (h:=ai y) λj hj=>by rw[hg,if_neg (by omega)]]
  have:=Yz (g:=ai y) y.length (7-y.length) λj h1 _=>Gh y j h1
  rw[show y.length+(7-y.length)=7 by omega]at this
  exact this
 rw[e1,Qr,ro ((x.length:Int)%256*72057594037927936) (by omega) (by omega)]
 exact bits_join .u64 64 (by decide) ro 56 _ _ (by omega) (by omega) (by omega) (by omega) (by omega) (by omega)
theorem aaw (k l:Int)(x:aa)(hx:x.length≤4294967296):AA.f (k,l,x,())=pd.f (k,l,x,()):=by
 simp only[PX,AA,pd,np,nj,W8,List.length_replicate]
 generalize th.f (k,l,())=z
 have key:=ZZ x hx z
 generalize cl (λa=>(kF x (x.length:Int) a).nice) (Int.toNat ((x.length:Int)-0)+1) (0,z)=p at key⊢
 generalize cl (λa=>(nT a).nice) ((eu x).length+1) (eu x,z)=q at key⊢
 obtain⟨⟨h1,h2,h3,h4⟩,h5⟩:=key
 have hq:q.1.length=x.length-p.1.toNat:=by rw[h3,pD,List.length_drop]
 have ht:q.1.take 8=q.1:=List.take_of_length_le (by omega)
 obtain⟨p,pz⟩:=p
 obtain⟨q,qz⟩:=q
 simp only[PX,ht,aa6,PI]at*
 rw[h4,show((x.take (x.length:Int).toNat).drop p.toNat)=x.drop p.toNat by rw[af,List.take_length]]
 rw[ace x hx p q h1 h2 h3 h5]
theorem adJ (m:Mac)(x:aa)(hx:x.length≤4294967296):IY.f (m,x,())=qC.f (m,x,()):=by
 simp only[PX,IY,qC,qG,nQ,aaw _ _ _ hx]
 rw[show aP (λj a=>(wy x m j a).nice) 1 (Int.toNat ((m.rows.length:Int)-0)) 0 ()=aP (λj a=>(kT x m.rows j a).nice) 1 (Int.toNat ((m.rows.length:Int)-0)) 0 () from Xw (λi a=>by
  simp only[PX,wy,kT]
  generalize(m.rows.getD i.toNat (Ty.zero .macRow))=r
  cases(r.input==x)with
  |false=>rfl
  |true=>
   simp only[cond_true]
   have h1:=iC (a:=r.value) 16777216
   rcases Int.lt_or_le r.value 0 with h|h
   ·have e:=h1.2 h
    generalize r.value.tmod 16777216=t at e
    rw[aq (by omega) (by omega)]
    cases hd:decide (t<0)with
    |true=>simp only[decide_eq_true_eq]at hd;simp only[cond_true];rw[(iC 16777216).1 (by omega),Int.emod_eq_of_lt (by omega) (by omega)]
    |false=>simp only[decide_eq_false_iff_not]at hd;simp only[cond_false];rw[(iC 16777216).1 (by omega),show t=0 by omega];rfl
   ·have e:=h1.1 h
    generalize r.value.tmod 16777216=t at e
    rw[aq (by omega) (by omega)]
    cases hd:decide (t<0)with
    |true=>simp only[decide_eq_true_eq]at hd;omega
    |false=>simp only[cond_false];rw[(iC 16777216).1 (by omega)];congr 1;omega) _ _ _]
theorem R8 (t:Tupl)(a b c:Int):(fN.f (t,a,b,c,())).length≤40:=(fN.c.h (t,a,b,c,()) trivial).2
theorem MZ (m:Mac)(t:Tupl)(a b c:Int):sD.f (m,t,a,b,c,())=kw.f (m,t,a,b,c,()):=by
 simp only[PX,sD,kw,Xs]
 rw[adJ _ _ (by have:=R8 t a b c;omega)]
theorem Fq (m:Mac):kS.f (m,())=m:=by simp only[PX,kS,List.nil_append]
theorem wg (m:Mac):kG.f (m,())=m:=by simp only[PX,kG,nb]
theorem Xc (k:Keys)(e:Int):wv.f (k,e,())=oT.f (k,e,()):=by
 simp only[PX,wv,oT,Fq,wg]
theorem adf (f:Int→Unit→Stp Unit (Int⊕Unit))(g:Int→Unit→Stp Unit Int)(E:Int)(h0:0≤E)(h1:E≤4294967295)
  (hfg:∀e,E-1≤e→f e ()=Stp.elim (λ_=> .next ()) (λw=> .out (.inl w)) (g e ()))(hend:∀e,e<E-1→f e ()= .out (.inr ()))(i:Int):
  Stp.elim (λ_=>((0:Int),(0:Int),false)) (Sum.elim (λp=>(p,i,true)) (λ_=>(0,0,false))) (aP f (-1) (Int.toNat (E-0+1)) E ())=
  Stp.elim (λ_=>(0,0,false)) (λp=>(p,i,true)) (aP g (-1) (Int.toNat (E-(if 0<(IntKind.wrap .i64 (E-1))then(IntKind.wrap .i64 (E-1))else 0)+1)) E ()):=by
 rw[aq (by omega) (by omega)]
 rcases(show E=0∨E=1∨2≤E by omega)with rfl|rfl|h
 ·rw[if_neg (by omega),show Int.toNat (0-0+1)=1 from rfl]
  simp only[aP,hfg 0 (by omega)]
  cases g 0 ()<;>rfl
 ·rw[if_neg (by omega),show Int.toNat (1-0+1)=2 from rfl]
  simp only[aP,hfg 1 (by omega),show(1:Int)+ -1=0 from rfl,hfg 0 (by omega)]
  cases g 1 ()with
  |out w=>rfl
  |next a=>simp only[Stp.elim];cases g 0 ()<;>rfl
 ·rw[if_pos (by omega),show Int.toNat (E-(E-1)+1)=2 by omega]
  obtain⟨m,hm⟩:∃m:Nat,Int.toNat (E-0+1)=m+3:=⟨Int.toNat (E-2),by omega⟩
  rw[hm]
  simp only[aP,hfg E (by omega),hfg (E+ -1) (by omega),hend (E+ -1+ -1) (by omega)]
  cases g E ()with
  |out w=>rfl
  |next a=>simp only[Stp.elim];cases g (E+ -1) ()<;>rfl
theorem HE (x:Int):decide ((gH.f (x,())).2.1<0)= !ae.f (x,32,()):=by
 simp only[PX,gH,cb]
 cases hd:(decide (0≤x)&&decide (x≤4294967295))with
 |false=>rfl
 |true=>
  simp only[Bool.and_eq_true,decide_eq_true_eq]at hd
  simp only[Bool.not_true,cond_false]
  rw[(Es 16777216).1 hd.1,aq (by omega) (by omega),(iC 8).1 (by omega)]
  simp only[decide_eq_false_iff_not]
  omega
theorem wZ (k:Keys)(h:eh.f (k,())=true):0≤k.epoch∧k.epoch≤4294967295:=by
 simp only[PX,eh,au]at h
 revert h
 cases k.two<;>simp only[PX,cond_true,cond_false]<;>grind
theorem A4 (k:Keys)(t:Tupl)(a b:Int):lq.f (k,t,a,b,())=bG.f (k,t,a,b,()):=by
 simp only[PX,lq,bG,jf,i1,L4,Nx,HE]
 cases hk:eh.f (k,())with
 |false=>rfl
 |true=>
  simp only[Bool.not_true,cond_false]
  cases ae.f (b,32,())with
  |false=>rfl
  |true=>
   simp only[Bool.not_true,cond_false]
   have he:=wZ k hk
   refine adf _ _ k.epoch he.1 he.2 (λe h=> ?_) (λe h=> ?_) _
   ·simp only[PX,mg,su]
    rw[aq (by omega) (by omega)]
    simp only[Xc,MZ,decide_eq_true h,cond_true]
    cases(oT.f (k,e,())).2 with
    |false=>rfl
    |true=>
     simp only[cond_true]
     cases(kw.f ((oT.f (k,e,())).1,t,a,e,(gH.f (b,())).2.1,())==b)<;>rfl
   ·simp only[PX,mg]
    rw[aq (by omega) (by omega)]
    simp only[decide_eq_false (show¬(k.epoch-1≤e) by omega),cond_false]
theorem qe (x:Segm):iU.f (x,())=ak.f (x,()):=by simp only[PX,iU,ak,dr,iO]
theorem acy (x:Int):fD.f (0,x,())=(if 0<x then x else 0):=by
 rw[mt];grind
theorem WV (d:Door)(t:Tupl)(g:Segm):vO.f (d,t,g,())=o8.f (d,t,g,()):=by
 simp only[PX,vO,o8,z5]
 cases(g.opts.mss==0)<;>simp only[PX,cond_true,cond_false]<;>simp only[W4,MZ,acy]
theorem aar (a b:Int)(c:Bool):Ai.f (a,b,c,())=ov.f (a,b,c,()):=by
 simp only[PX,Ai,ov,au,tk]
 cases c<;>simp only[PX,cond_true,cond_false]<;>simp only[bH,mG]<;>cases(decide (0≤b)&&decide (b≤14))<;>simp only[cond_true,cond_false,Bool.not_true,Bool.not_false,di]<;>omega
theorem Iq (o:Opti)(c:Int):lW.f (o,c,())=gh.f (o,c,()):=by
 simp only[PX,lW,gh,bH,au]
 cases(decide (0≤o.scale)&&decide (o.scale≤14))<;>simp only[PX,cond_true,cond_false]<;>simp only[aar]
theorem abp (d:Door)(t:Tupl)(g:Segm):sY.f (d,t,g,())=eG.f (d,t,g,()):=by
 simp only[PX,sY,eG,WV,iH,Iq]
theorem F4 {A W:Type}{f:Int→A→Stp A W}{st:Int}:∀(k:Nat) (i:Int) (a:A) (w:W),aP f st k i a= .out w→∃(n:Nat) (b:A),n<k∧f (i+st*(n:Int)) b= .out w
 |0,_,_,_,h=>by cases h
 |k+1,i,a,w,h=>by
  simp only[aP]at h
  cases hf:f i a with
  |out w'=>rw[hf]at h;simp only[Stp.elim]at h;cases h;exact⟨0,a,by omega,by simpa using hf⟩
  |next a'=>
   rw[hf]at h
   obtain⟨n,b,h1,h2⟩:=F4 k (i+st) a' w h
   exact⟨n+1,b,by omega,by rw[show i+st*((n+1:Nat):Int)=i+st+st*(n:Int) by rw[Int.natCast_add,Int.mul_add];omega];exact h2⟩
theorem B7 {A W:Type}{f:Int→A→Stp A W}{st:Int}{P:A→Prop}(hp:∀i a a',P a→f i a= .next a'→P a'):∀(k:Nat) (i:Int) (a a':A),P a→aP f st k i a= .next a'→P a'
 |0,_,_,_,ha,h=>by cases h;exact ha
 |k+1,i,a,a',ha,h=>by
  simp only[aP]at h
  cases hf:f i a with
  |out w'=>rw[hf]at h;cases h
  |next a1=>rw[hf]at h;exact B7 hp k _ a1 a' (hp i a a1 ha hf) h
theorem aaN (x:Sipr):0≤vb.f (x,()):=by
 simp only[PX,vb,li]
 cases aP (λj a=>(ut j a).nice) 1 (Int.toNat (4-0)) 0 ({x with c:=(bits .xor .u64 x.c 255)}:Sipr)with
 |next a=>exact(DF .xor .u64 _ _ (.inr (.inr (.inl rfl)))).1
 |out e=>exact Empty.elim e
theorem Wq (k l:Int)(x:aa):0≤pd.f (k,l,x,()):=by
 simp only[PX,pd]
 exact aaN _
theorem afW (s:Int)(h:0≤s):0≤IntKind.wrap .i64 (s.tmod 16777216)∧IntKind.wrap .i64 (s.tmod 16777216)≤16777215:=by
 have h1:=I5 (b:=16777216) h
 have h2:=ED (a:=s) (show(0:Int)<16777216 by omega)
 rw[aq (by omega) (by omega)];omega
theorem afn (r:Int):0≤(IntKind.wrap .i64 (r.tmod 16777216+16777216)).tmod 16777216∧(IntKind.wrap .i64 (r.tmod 16777216+16777216)).tmod 16777216≤16777215:=by
 have h1: -16777216<r.tmod 16777216:=Int.lt_tmod_of_pos _ (by omega)
 have h2:=ED (a:=r) (show(0:Int)<16777216 by omega)
 rw[aq (by omega) (by omega)]
 have h3:=I5 (a:=r.tmod 16777216+16777216) (b:=16777216) (by omega)
 have h4:=ED (a:=r.tmod 16777216+16777216) (show(0:Int)<16777216 by omega)
 omega
theorem Zz (m:Mac)(x:aa)(k:Nat)(i:Int)(w:Int)(hf:aP (λj a=>(kT x m.rows j a).nice) 1 k i ()= .out w):0≤w∧w≤16777215:=by
 obtain⟨n,b,_,h⟩:=F4 _ _ _ _ hf
 simp only[PX,kT]at h
 revert h
 generalize(m.rows.getD (i+1*(n:Int)).toNat (Ty.zero .macRow))=r
 cases(r.input==x)with
 |false=>simp only[cond_false];intro h;cases h
 |true=>simp only[cond_true];intro h;injection h with h;rw[←h];exact afn r.value
theorem acK (m:Mac)(x:aa):qC.f (m,x,())=bif !m.use then IntKind.wrap .i64 ((pd.f (m.k,m.l,x,())).tmod 16777216)else Stp.elim (λ_=>0) (λp=>p) (aP (λj a=>(kT x m.rows j a).nice) 1 (Int.toNat ((m.rows.length:Int)-0)) 0 ()):=by
 simp only[PX,qC,nQ]
theorem afo (u:Bool)(s:Int)(z:Stp Unit Int)(hs:0≤s)(hk:∀w,z= .out w→0≤w∧w≤16777215):
  0≤(bif !u then IntKind.wrap .i64 (s.tmod 16777216)else Stp.elim (λ_=>0) (λp=>p) z)∧(bif !u then IntKind.wrap .i64 (s.tmod 16777216)else Stp.elim (λ_=>0) (λp=>p) z)≤16777215:=by
 cases u with
 |false=>simp only[Bool.not_false,cond_true];exact afW s hs
 |true=>
  simp only[Bool.not_true,cond_false]
  cases z with
  |next a=>simp only[Stp.elim];omega
  |out w=>exact hk w rfl
theorem PG (m:Mac)(x:aa):0≤qC.f (m,x,())∧qC.f (m,x,())≤16777215:=by
 rw[acK]
 exact afo m.use _ _ (Wq m.k m.l x) (Zz m x (Int.toNat ((m.rows.length:Int)-0)) 0)
theorem W9 (n:Int)(h:ae.f (n,32,())=true):(aA.f (n,4,())).length=4:=by
 simp only[PX,aA,au,eL,show IntKind.wrap .i64 (8*4)=32 from rfl,h,show(decide ((1:Int)≤4)&&decide ((4:Int)≤6))=true from rfl,Bool.not_true,cond_false,show IntKind.wrap .i64 (4-1)=3 from rfl,show Int.toNat (3-0+1)=4 from rfl,show Int.toNat 4=4 from rfl]
 cases hf:aP (λj a=>(dP j a).nice) (-1) 4 3 (n,List.replicate 4 0)with
 |out e=>exact Empty.elim e
 |next a=>
  have:=B7 (P:=λa:Int×List Int=>a.2.length=4) (λi a a' ha h=>by
   simp only[PX,dP]at h
   cases h
   simpa using ha) _ _ _ _ (by simp) hf
  simp only[PX,Stp.elim,bC]
  exact this
theorem Xd (t:Tupl)(h:aG.f (t,())=true):(0≤t.ip∧t.ip≤4294967295)∧(0≤t.port∧t.port≤65535)∧(0≤t.my∧t.my≤65535):=by
 simp only[PX,aG,cb,dj]at h
 revert h
 cases h1:(decide (0≤t.ip)&&decide (t.ip≤4294967295))<;>cases h2:(decide (0≤t.port)&&decide (t.port≤65535))<;>simp only[cond_true,cond_false,Bool.and_eq_true,decide_eq_true_eq]at* <;>simp_all
theorem Tp (t:Tupl)(seq e i:Int)(ht:aG.f (t,())=true)(hs:0≤seq∧seq≤4294967295)(he:0≤e∧e≤4294967295)(hi:0≤i∧i≤7):(fN.f (t,seq,e,i,())==[])=false:=by
 have h1:=W9 t.ip (by rw[cb];have:=(Xd t ht).1;simp[this])
 simp only[PX,fN,ht,cb,au,decide_eq_true hs.1,decide_eq_true hs.2,decide_eq_true he.1,decide_eq_true he.2,decide_eq_true hi.1,decide_eq_true hi.2,Bool.and_self,Bool.not_true,cond_false]
 generalize aA.f (t.ip,4,())=a at*
 match a,h1 with
 |x::r,_=>simp
theorem VH (m:Mac)(t:Tupl)(seq e i:Int)(ht:aG.f (t,())=true)(hs:0≤seq∧seq≤4294967295)(he:0≤e∧e≤4294967295)(hi:0≤i∧i≤7):
  kw.f (m,t,seq,e,i,())=(e%32)*134217728+i*16777216+qC.f (m,fN.f (t,seq,e,i,()),()):=by
 simp only[PX,kw,Tp t seq e i ht hs he hi,cond_false]
 have h:=PG m (fN.f (t,seq,e,i,()))
 rw[(iC 32).1 he.1,aq (m:=e%32*134217728) (by omega) (by omega),aq (m:=i*16777216) (by omega) (by omega),aq (m:=e%32*134217728+i*16777216) (by omega) (by omega),aq (by omega) (by omega)]
theorem Sd (x:Int):0≤jr.f (x,())∧jr.f (x,())≤7:=by
 simp only[PX,jr,ec]
 cases hf:aP (λj a=>(lP x j a).nice) (-1) (Int.toNat (7-0)) 7 ()with
 |next a=>simp[PX,Stp.elim]
 |out w=>
  obtain⟨n,b,hn,h⟩:=F4 _ _ _ _ hf
  simp only[PX,lP]at h
  simp only[PX,Stp.elim]
  rw[show Int.toNat (7-0)=7 from rfl]at hn
  revert h
  cases decide (gb.f (7+ -1*(n:Int),())≤x)with
  |false=>simp only[cond_false];intro h;cases h
  |true=>simp only[cond_true];intro h;cases h;omega
theorem Fp (o:Opti)(c:Int)(ho:eT.f (o,())=true):eT.f (gh.f (o,c,()),())=true:=by
 have hv:∀a b:Int,∀s:Bool,0≤ov.f (a,b,s,())∧ov.f (a,b,s,())≤4294967295:=by
  intro a b s
  simp only[PX,ov,tk]
  cases s<;>simp only[cond_true,cond_false]<;>cases bk.f (b,0,14,())<;>simp only[Bool.not_true,Bool.not_false,cond_true,cond_false]<;>omega
 simp only[PX,eT,bH,UA,UV]at ho⊢
 simp only[PX,gh,au]
 have h1:=hv c o.scale o.sack
 cases hst:o.stamp with
 |false=>simp[PX]
 |true=>
  simp only[hst,Bool.not_true,cond_false]at ho⊢
  revert ho
  cases(decide (0≤o.mss)&&decide (o.mss≤65535))<;>cases(decide (-1≤o.scale)&&decide (o.scale≤14))<;>cases hval:(decide (0≤o.val)&&decide (o.val≤4294967295))<;>simp only[cond_true,cond_false]<;>intro ho
  all_goals first|(exfalso;exact Bool.noConfusion ho)|skip
  cases(decide (0≤o.scale)&&decide (o.scale≤14))<;>simp only[PX,cond_true,cond_false]<;>simp only[decide_eq_true h1.1,decide_eq_true h1.2,ho,hval,Bool.and_self,cond_true]<;>rfl
def dK {T:Type}(p:T→Bool)(xs:List T):Int:=match xs.findIdx? p with|none=> -1|some i=>(i:Int)
theorem iB {T:Type}(p:T→Bool)(xs:List T){f:Int→Unit→Stp Unit Int}(h:∀(j:Nat) x a,xs[j]? =some x→f j a=bif p x then .out (j:Int)else .next ()):
  aP f 1 (Int.toNat ((xs.length:Int)-0)) 0 ()=match xs.findIdx? p with|none=> .next ()|some i=> .out (i:Int):=by
 rw[aN,cS xs _ rfl h,kK (w:=λj _=>(j:Int))]
 cases hf:xs.findIdx? p with
 |none=>rfl
 |some i=>
  obtain⟨h1,_,_⟩:=List.findIdx?_eq_some_iff_getElem.1 hf
  simp only[List.getElem?_eq_getElem h1,Nat.zero_add]
theorem Z5 {T:Type}(p:T→Bool)(xs:List T){f:Int→Unit→Stp Unit Int}(h:∀(j:Nat) x a,xs[j]? =some x→f j a=bif p x then .out (j:Int)else .next ()):
  Stp.elim (λ_=>(-1:Int)) (λq=>q) (aP f 1 (Int.toNat ((xs.length:Int)-0)) 0 ())=dK p xs:=by
 rw[iB p xs h]
 unfold dK
 cases xs.findIdx? p<;>rfl
theorem jU {T:Type}(p:T→Bool)(xs:List T):decide (0≤dK p xs)=xs.any p:=by
 unfold dK
 cases h:xs.findIdx? p with
 |none=>
  rw[List.findIdx?_eq_none_iff]at h
  symm
  show xs.any p=false
  rw[List.any_eq_false]
  intro x hx;simp[h x hx]
 |some i=>
  obtain⟨h1,h2,_⟩:=List.findIdx?_eq_some_iff_getElem.1 h
  have:xs.any p=true:=by rw[List.any_eq_true];exact⟨xs[i],List.getElem_mem h1,h2⟩
  rw[this];simp
theorem ac4 {T:Type}(p:T→Bool)(xs:List T):decide (dK p xs<0)= !xs.any p:=by
 rw[←jU]
 by_cases h:0≤dK p xs
 ·rw[decide_eq_true h,decide_eq_false (by omega)];rfl
 ·rw[decide_eq_false h,decide_eq_true (by omega)];rfl
theorem CM {T:Type}(p:T→Bool)(xs:List T)(j:Nat)(x:T)(hx:xs[j]? =some x)(hp:p x=true):(dK p xs != (j:Int))=(xs.take j).any p:=by
 obtain⟨hj,rfl⟩:=List.getElem?_eq_some_iff.1 hx
 unfold dK
 cases h:xs.findIdx? p with
 |none=>
  rw[List.findIdx?_eq_none_iff]at h
  have:=h _ (List.getElem_mem hj)
  rw[hp]at this;cases this
 |some i=>
  obtain⟨h1,h2,h3⟩:=List.findIdx?_eq_some_iff_getElem.1 h
  simp only[]
  rw[Bool.eq_iff_iff]
  simp only[bne_iff_ne,ne_eq,List.any_eq_true]
  constructor
  ·intro hne
   have hij:i<j:=by
    rcases Nat.lt_or_ge i j with h4|h4
    ·exact h4
    ·have h5:j<i:=by omega
     have:=h3 j h5
     simp[hp]at this
   refine⟨xs[i], ?_,h2⟩
   rw[List.mem_take_iff_getElem]
   exact⟨i,by omega,rfl⟩
  ·rintro⟨y,hy,hpy⟩ he
   rw[List.mem_take_iff_getElem]at hy
   obtain⟨k,hk,rfl⟩:=hy
   have:k<i:=by omega
   have:=h3 k this
   simp[hpy]at this
def j6 (t y:Tupl):Bool:=(y.ip==t.ip)&&((y.port==t.port)&&((y.my==t.my)&&true))
theorem p6 (t:Tupl):j6 t t=true:=by simp[j6]
theorem rS (xs:List Half)(t:Tupl):i5.f (xs,t,())=dK (λh=>j6 t h.tuple) xs:=by
 simp only[PX,i5,lX]
 rw[iB (λh:Half=>j6 t h.tuple) xs (λj x a h=>by
  simp only[PX,xk,af,getD_some h,j6])]
 unfold dK
 cases xs.findIdx? (λh=>j6 t h.tuple)<;>rfl
theorem eO (xs:List Half)(t:Tupl):aE.f (xs,t,())=dK (λh=>j6 t h.tuple) xs:=by
 simp only[PX,aE,eY,bx]
 rw[iB (λh:Half=>j6 t h.tuple) xs (λj x a h=>by
  simp only[PX,fU,vN,af,getD_some h,j6])]
 unfold dK
 cases xs.findIdx? (λh=>j6 t h.tuple)<;>rfl
theorem wz (xs:List Half)(t:Tupl):i5.f (xs,t,())=aE.f (xs,t,()):=by rw[rS,eO]
theorem Ky (x:Tabl)(t:Tupl):dT.f (x,t,())=dK (λh=>j6 t h.tuple) x.conns:=by
 simp only[PX,dT,lT]
 rw[iB (λh:Conn=>j6 t h.tuple) x.conns (λj x a h=>by
  simp only[PX,xL,af,getD_some h,j6])]
 unfold dK
 cases x.conns.findIdx? (λh=>j6 t h.tuple)<;>rfl
theorem eM (x:Tabl)(t:Tupl):av.f (x,t,())=dK (λh=>j6 t h.tuple) x.conns:=by
 simp only[PX,av,eJ,bv]
 rw[iB (λh:Conn=>j6 t h.tuple) x.conns (λj x a h=>by
  simp only[PX,fV,wP,af,getD_some h,j6])]
 unfold dK
 cases x.conns.findIdx? (λh=>j6 t h.tuple)<;>rfl
theorem jt (x:Tabl)(t:Tupl):dT.f (x,t,())=av.f (x,t,()):=by rw[Ky,eM]
theorem ph (x:Recv):gO.f (x,())=bB.f (x,()):=by
 simp only[PX,gO,bB,acy]
theorem Uj (x:Recv)(h:(x.data.length:Int)≤32):bB.f (x,())≤32:=by
 simp only[PX,bB]
 cases x.done with
 |true=>simp only[cond_true];omega
 |false=>
  simp only[cond_false]
  rw[aq (by omega) (by omega)]
  split<;>omega
theorem oL (x:Sndr):fj.f (x,())=bj.f (x,()):=by
 simp only[PX,fj,bj,dr,bH,au]
def ev (L:Int):Int→List Piec→Option Int
 |a,[]=>some a
 |a,p::r=>bif (p.text==[])||decide (p.off≤a)||decide (L<p.off+(p.text.length:Int))then none else ev L (p.off+(p.text.length:Int)) r
theorem SU (L:Int):∀(r:List Piec) (a b:Int),ev L a r=some b→a≤b∧(a≤L→b≤L)
 |[],a,b,h=>by cases h;exact⟨Int.le_refl _,λh=>h⟩
 |p::r,a,b,h=>by
  simp only[ev]at h
  cases hc:((p.text==[])||decide (p.off≤a)||decide (L<p.off+(p.text.length:Int)))with
  |true=>rw[hc]at h;cases h
  |false=>
   rw[hc]at h
   simp only[Bool.or_eq_false_iff,decide_eq_false_iff_not]at hc
   have:=SU L r _ b h
   omega
theorem FZ (L M:Int)(hLM:L≤M):∀(r:List Piec) (a:Int),a≤L→ev L a r=(match ev M a r with|some b=>bif decide (b≤L)then some b else none|none=>none)
 |[],a,h=>by simp only[ev,decide_eq_true h,cond_true]
 |p::r,a,h=>by
  simp only[ev]
  cases h1:((p.text==[])||decide (p.off≤a))with
  |true=>simp only[Bool.true_or,cond_true]
  |false=>
   simp only[Bool.false_or]
   by_cases h2:L<p.off+(p.text.length:Int)
   ·rw[decide_eq_true h2]
    simp only[cond_true]
    by_cases h3:M<p.off+(p.text.length:Int)
    ·rw[decide_eq_true h3];rfl
    ·rw[decide_eq_false h3]
     simp only[cond_false]
     cases hw:ev M (p.off+(p.text.length:Int)) r with
     |none=>rfl
     |some b=>
      have:=(SU M r _ b hw).1
      simp only[]
      rw[decide_eq_false (by omega)]
      rfl
   ·rw[decide_eq_false h2,decide_eq_false (show¬M<p.off+(p.text.length:Int) by omega)]
    simp only[cond_false]
    exact FZ L M hLM r _ (by omega)
def be (xs:List Piec):Prop:=∀y∈xs,y.text.length≤4611686018427387904
theorem be.getD {xs:List Piec}(h:be xs)(i:Nat):(xs.getD i (Ty.zero .piec)).text.length≤4611686018427387904:=Uw (p:=λy:Piec=>y.text.length≤4611686018427387904) (by decide+kernel) h i
theorem UT {s:aa}(h:(s==[])=false):0<s.length:=by
 cases s with
 |nil=>cases h
 |cons=>simp
theorem BS {W:Type}{F:Nat→Piec→Int→Stp Int W}{L:Int}{w:W}:∀(r:List Piec) (j:Nat) (a:Int),0≤a→a≤32→L≤32→(∀p∈r,∀j a,0≤a→a≤32→(∃w,(p.text==[]||decide (p.off≤a)||decide (L<p.off+(p.text.length:Int)))=true∧F j p a= .out w)∨((p.text==[]||decide (p.off≤a)||decide (L<p.off+(p.text.length:Int)))=false∧F j p a= .next (p.off+(p.text.length:Int))))→
  (match ev L a r with|some b=>fP F j r a= .next b|none=>∃w,fP F j r a= .out w)
 |[],j,a,_,_,_,_=>rfl
 |p::r,j,a,h0,h1,hL,hF=>by
  rcases hF p List.mem_cons_self j a h0 h1 with⟨w,hc,hf⟩|⟨hc,hf⟩
  ·simp only[ev,hc,cond_true,fP,hf,Stp.elim]
   exact⟨w,rfl⟩
  ·simp only[ev,hc,cond_false,fP,hf,Stp.elim]
   simp only[Bool.or_eq_false_iff,decide_eq_false_iff_not]at hc
   exact BS (w:=w) r (j+1) _ (by omega) (by omega) hL λq hq=>hF q (List.mem_cons_of_mem _ hq)
theorem aex (x:Recv)(L:Int)(hL:L≤32)(hs:be x.held):match ev L 0 x.held with|some b=>aP (λj a=>(eZ L x j a).nice) 1 (Int.toNat ((x.held.length:Int)-0)) 0 0= .next b|none=>∃w,aP (λj a=>(eZ L x j a).nice) 1 (Int.toNat ((x.held.length:Int)-0)) 0 0= .out w:=by
 rw[aN,cS x.held _ rfl (F:=λj p a=>(eZ L {x with held:=[p]} 0 a).nice) (by
  intro j p a h
  simp only[PX,eZ,af,getD_some h]
  rfl)]
 refine BS (w:=(0:Int)) _ _ _ (by omega) (by omega) hL λp hp j a h0 h1=> ?_
 have hl:=hs p hp
 simp only[PX,eZ,show Int.toNat 0=0 from rfl,List.getD_cons_zero]
 cases h2:(p.text==[])with
 |true=>exact .inl ⟨_,rfl,rfl⟩
 |false=>
  have hp:=UT h2
  cases h3:decide (p.off≤a)with
  |true=>exact .inl ⟨_,rfl,rfl⟩
  |false=>
   simp only[decide_eq_false_iff_not]at h3
   simp only[cond_false,Bool.false_or]
   by_cases h4:L<p.off
   ·refine .inl ⟨a,decide_eq_true (by omega), ?_⟩
    rw[decide_eq_true h4];rfl
   ·rw[decide_eq_false h4,aq (by omega) (by omega)]
    simp only[cond_false]
    by_cases h5:L<p.off+(p.text.length:Int)
    ·rw[decide_eq_true h5];exact .inl ⟨_,rfl,rfl⟩
    ·rw[decide_eq_false h5];exact .inr ⟨rfl,rfl⟩
theorem XO (x:Recv)(L:Int)(hL0: -9223372036854775808≤L-4611686018427387904)(hL:L≤32)(hs:be x.held):match ev L 0 x.held with|some b=>aP (λj a=>(dY L x.held j a).nice) 1 (Int.toNat ((x.held.length:Int)-0)) 0 0= .next b|none=>∃w,aP (λj a=>(dY L x.held j a).nice) 1 (Int.toNat ((x.held.length:Int)-0)) 0 0= .out w:=by
 rw[aN,cS x.held _ rfl (F:=λj p a=>(dY L [p] 0 a).nice) (by
  intro j p a h
  simp only[PX,dY,af,getD_some h]
  rfl)]
 refine BS (w:=()) _ _ _ (by omega) (by omega) hL λp hp j a h0 h1=> ?_
 have hl:=hs p hp
 simp only[PX,dY,show Int.toNat 0=0 from rfl,List.getD_cons_zero]
 cases h2:(p.text==[])with
 |true=>exact .inl ⟨_,rfl,rfl⟩
 |false=>
  have hp:=UT h2
  cases h3:decide (p.off≤a)with
  |true=>exact .inl ⟨_,rfl,rfl⟩
  |false=>
   simp only[decide_eq_false_iff_not]at h3
   simp only[cond_false,Bool.false_or]
   rw[aq (m:=L-(p.text.length:Int)) (by omega) (by omega)]
   by_cases h5:L<p.off+(p.text.length:Int)
   ·rw[decide_eq_true h5,decide_eq_true (by omega)];exact .inl ⟨_,rfl,rfl⟩
   ·rw[decide_eq_false h5,decide_eq_false (by omega),aq (by omega) (by omega)];exact .inr ⟨rfl,rfl⟩
theorem xb (x:Recv)(hs:be x.held):lc.f (x,())=br.f (x,()):=by
 simp only[PX,lc,br,gE,fa,dr,bH,ph]
 cases ae.f (x.next,32,())with
 |false=>rfl
 |true=>
  by_cases hd:32<(x.data.length:Int)
  ·rw[decide_eq_true hd];rfl
  ·rw[decide_eq_false hd]
   have hw:=Uj x (by omega)
   simp only[Bool.not_true,cond_false]
   cases decide (3<(x.held.length:Int))with
   |true=>rfl
   |false=>
    simp only[cond_false]
    rw[au]
    by_cases hf: -1≤x.fin∧x.fin≤bB.f (x,())
    ·rw[decide_eq_true hf.1,decide_eq_true hf.2]
     simp only[Bool.and_self,Bool.not_true,cond_false]
     cases h0:(x.fin==0)with
     |true=>rfl
     |false=>
      simp only[cond_false]
      have h0:x.fin≠0:=by simpa using h0
      have k1:=aex x (bB.f (x,())) hw hs
      by_cases h1:x.fin= -1
      ·have k2:=XO x (bB.f (x,())) (by omega) hw hs
       rw[show(x.fin != -1)=false by simp[h1],show decide (x.fin<0)=true from decide_eq_true (by omega)]
       simp only[cond_true,cond_false]
       cases hp:ev (bB.f (x,())) 0 x.held with
       |some b=>rw[hp]at k1 k2;simp only[]at k1 k2;rw[k1,k2];rfl
       |none=>rw[hp]at k1 k2;obtain⟨w1,k1⟩:=k1;obtain⟨w2,k2⟩:=k2;rw[k1,k2];rfl
      ·have k2:=XO x x.fin (by omega) (by omega) hs
       rw[show(x.fin != -1)=true by simp[h1],show decide (x.fin<0)=false from decide_eq_false (by omega)]
       simp only[cond_true,cond_false]
       rw[FZ x.fin (bB.f (x,())) (by omega) x.held 0 (by omega)]at k2
       cases hp:ev (bB.f (x,())) 0 x.held with
       |none=>rw[hp]at k1 k2;obtain⟨w1,k1⟩:=k1;obtain⟨w2,k2⟩:=k2;rw[k1,k2];rfl
       |some b=>
        rw[hp]at k1 k2
        simp only[]at k1 k2
        rw[k1]
        by_cases hb:b≤x.fin
        ·rw[decide_eq_true hb]at k2
         simp only[cond_true]at k2
         rw[k2];simp only[Stp.elim,decide_eq_true hb,cond_true]
        ·rw[decide_eq_false hb]at k2
         obtain⟨w2,k2⟩:=k2
         rw[k2];simp only[Stp.elim,decide_eq_false hb,cond_false]
    ·have:(decide (-1≤x.fin)&&decide (x.fin≤bB.f (x,())))=false:=by
      rw[Bool.and_eq_false_iff];simp only[decide_eq_false_iff_not];omega
     rw[this];rfl
theorem ll (x:Conn)(hs:be x.r.held):hZ.f (x,())=aO.f (x,()):=by
 simp only[PX,hZ,aO,Ml,rC,oL,xb x.r hs,iO,bH,au]
 cases aG.f (x.tuple,())with
 |false=>rfl
 |true=>
 cases bj.f (x.s,())with
 |false=>rfl
 |true=>
 cases br.f (x.r,())with
 |false=>rfl
 |true=>
 cases aM.f (x.opts,())with
 |false=>rfl
 |true=>
 simp only[Bool.not_true,cond_false]
 have hm:(bif !(decide (0≤x.window)&&decide (x.window≤x.most))then true else decide (1073725440<x.most))=(bif !(decide (0≤x.most)&&decide (x.most≤1073725440))then true else !(decide (0≤x.window)&&decide (x.window≤x.most))):=by
  rw[Bool.eq_iff_iff]
  by_cases h1:0≤x.window<;>by_cases h2:x.window≤x.most<;>by_cases h3:1073725440<x.most<;>by_cases h4:0≤x.most<;>by_cases h5:x.most≤1073725440<;>simp[h1,h2,h3,h4,h5]<;>omega
 have ej:∀b:Bool,(bif b then(false,(4:Int),x,())else(false,3,x,()))=(false,(bif b then 4 else 3),x,()):=λb=>by cases b<;>rfl
 have et:∀b:Bool,decide (x.timer≤bif b then 4 else 3)=bif b then decide (x.timer≤4)else decide (x.timer≤3):=λb=>by cases b<;>rfl
 simp only[ej,et]
 revert hm
 generalize(decide (0≤x.window)&&decide (x.window≤x.most))=W
 generalize decide (1073725440<x.most)=M
 generalize(decide (0≤x.most)&&decide (x.most≤1073725440))=N
 generalize(decide (0≤x.tries)&&decide (x.tries≤3))=T
 generalize decide (0≤x.timer)=T0
 generalize decide (x.timer≤4)=T4
 generalize decide (x.timer≤3)=T3
 generalize x.s.fin=sf
 generalize x.s.done=sd
 generalize x.r.done=rd
 generalize x.state=k
 have hk:k=1∨k=2∨k=3∨k=4∨k=5∨k=6∨k=7∨k=8∨(decide (1≤k)&&decide (k≤8))=false:=by
  simp only[Bool.and_eq_false_iff,decide_eq_false_iff_not];omega
 rcases hk with rfl|rfl|rfl|rfl|rfl|rfl|rfl|rfl|hk
 iterate 8 (revert W M N T T0 T4 T3 sf sd rd;decide+kernel)
 intro _;simp only[hk];rfl
theorem XJ (x:Limi):wx.f (x,())=fL.f (x,()):=by
 simp only[PX,wx,fL,bH,au]
theorem AC {T V W:Type}(xs:List T){f:Int→Unit→Stp Unit V}{g:Int→Unit→Stp Unit W}{k:Nat}(hk:k=xs.length)(h:∀(j:Nat) x,xs[j]? =some x→(∃v w,f j ()= .out v∧g j ()= .out w)∨(f j ()= .next ()∧g j ()= .next ())):
  (∃v w,aP f 1 k 0 ()= .out v∧aP g 1 k 0 ()= .out w)∨(aP f 1 k 0 ()= .next ()∧aP g 1 k 0 ()= .next ()):=by
 subst hk
 have:∀(n i:Nat),i+n=xs.length→(∃v w,aP f 1 n (i:Int) ()= .out v∧aP g 1 n (i:Int) ()= .out w)∨(aP f 1 n (i:Int) ()= .next ()∧aP g 1 n (i:Int) ()= .next ()):=by
  intro n
  induction n with
  |zero=>intro i _;exact .inr ⟨rfl,rfl⟩
  |succ n ih=>
   intro i hi
   rcases h i xs[i] (List.getElem?_eq_getElem (by omega))with⟨v,w,h1,h2⟩|⟨h1,h2⟩
   ·exact .inl ⟨v,w,by simp only[aP,h1,Stp.elim],by simp only[aP,h2,Stp.elim]⟩
   ·simp only[aP,h1,h2,Stp.elim]
    have:=ih (i+1) (by omega)
    rwa [show((i+1:Nat):Int)=(i:Int)+1 by omega]at this
 exact this xs.length 0 (by omega)
theorem wB (xs:List Tupl)(t:Tupl):oZ.f (xs,t,())=xs.any (j6 t):=by
 simp only[PX,oZ,lK]
 rw[aN,cS xs _ rfl (F:=λj y a=>bif j6 t y then .out ()else .next ()) (by
  intro j y a h
  simp only[PX,xS,af,getD_some h,j6])]
 rw[kK (p:=j6 t) (w:=λ_ _=>())]
 cases h:xs.findIdx? (j6 t)with
 |none=>
  rw[List.findIdx?_eq_none_iff]at h
  simp only[Stp.elim]
  symm
  rw[List.any_eq_false]
  intro x hx;simp[h x hx]
 |some i=>
  obtain⟨h1,h2,_⟩:=List.findIdx?_eq_some_iff_getElem.1 h
  simp only[List.getElem?_eq_getElem h1,Stp.elim]
  symm
  rw[List.any_eq_true];exact⟨xs[i],List.getElem_mem h1,h2⟩
theorem qp (xs:List Tupl)(t:Tupl):lr.f (xs,t,())=dK (j6 t) xs:=by
 have e:∀a b:Int,(a==b)=(b==a):=λa b=>by rw[Bool.eq_iff_iff];simp only[beq_iff_eq];exact eq_comm
 simp only[PX,lr,jq]
 rw[iB (j6 t) xs (λj x a h=>by
  simp only[PX,rF,af,getD_some h,j6,e t.ip,e t.port,e t.my])]
 unfold dK
 cases xs.findIdx? (j6 t)<;>rfl
theorem ke {T:Type}{xs:List T}{j:Nat}{x:T}(h:xs[j]? =some x):x∈xs:=List.mem_of_getElem? h
theorem Oo (x:Tabl)(l:Limi)(hs:∀y∈x.conns,be y.r.held):uJ.f (x,l,())=cQ.f (x,l,()):=by
 simp only[PX,uJ,cQ,iK,fW,ia,fO,XJ]
 have h1:=AC x.conns (f:=λj a=>(sZ x j a).nice) (g:=λj a=>(eP x.conns x j a).nice) (k:=Int.toNat ((x.conns.length:Int)-0)) (aN _) (λj y hy=>by
  simp only[PX,sZ,eP,af,getD_some hy,ll y (hs y (ke hy)),jt]
  cases aO.f (y,())with
  |false=>exact .inl ⟨_,_,rfl,rfl⟩
  |true=>cases(av.f (x,y.tuple,()) != (j:Int))with
   |true=>exact .inl ⟨_,_,rfl,rfl⟩
   |false=>exact .inr ⟨rfl,rfl⟩)
 have h2:=AC x.waiting (f:=λj a=>(ss x j a).nice) (g:=λj a=>(eX x.waiting x j a).nice) (k:=Int.toNat ((x.waiting.length:Int)-0)) (aN _) (λj y hy=>by
  simp only[PX,ss,eX,af,getD_some hy,wB,qp,jt,List.drop_zero]
  rw[CM (j6 y) x.waiting j y hy (p6 y)]
  cases(x.waiting.take j).any (j6 y)<;>cases decide (av.f (x,y,())<0)<;>first|exact .inl ⟨_,_,rfl,rfl⟩|exact .inr ⟨rfl,rfl⟩)
 rcases h1 with⟨v,w,h3,h4⟩|⟨h3,h4⟩
 ·rw[h3,h4]
  cases(fL.f (l,()))<;>cases decide (l.conns<(x.conns.length:Int))<;>cases decide (l.waiting<(x.waiting.length:Int))<;>rfl
 ·rw[h3,h4]
  rcases h2 with⟨v,w,h5,h6⟩|⟨h5,h6⟩
  ·rw[h5,h6]
   all_goals (cases(fL.f (l,()))<;>cases decide (l.conns<(x.conns.length:Int))<;>cases decide (l.waiting<(x.waiting.length:Int))<;>rfl)
  ·rw[h5,h6]
   all_goals (cases(fL.f (l,()))<;>cases decide (l.conns<(x.conns.length:Int))<;>cases decide (l.waiting<(x.waiting.length:Int))<;>rfl)
theorem Cq (xs:List Half):pi.f (xs,())=fk.f (xs,()):=by
 simp only[PX,pi,fk,jv,lY]
 have h1:=AC xs (f:=λj a=>(fw xs j a).nice) (g:=λj a=>(qs xs xs j a).nice) (k:=Int.toNat ((xs.length:Int)-0)) (aN _) (λj y hy=>by
  simp only[PX,fw,qs,af,getD_some hy,rC,dr,iO,bH,au,rS,eO,List.drop_zero,jU]
  rw[CM (λh:Half=>j6 y.tuple h.tuple) xs j y hy (p6 _)]
  cases aG.f (y.tuple,())with
  |false=>exact .inl ⟨_,_,rfl,rfl⟩
  |true=>
  cases ae.f (y.iss,32,())with
  |false=>exact .inl ⟨_,_,rfl,rfl⟩
  |true=>
  cases ae.f (y.irs,32,())with
  |false=>exact .inl ⟨_,_,rfl,rfl⟩
  |true=>
  cases ae.f (y.window,16,())with
  |false=>exact .inl ⟨_,_,rfl,rfl⟩
  |true=>
  cases aM.f (y.opts,())with
  |false=>exact .inl ⟨_,_,rfl,rfl⟩
  |true=>
  cases(decide (0≤y.age)&&decide (y.age≤6))with
  |false=>exact .inl ⟨_,_,rfl,rfl⟩
  |true=>
  cases(xs.take j).any (λh=>j6 y.tuple h.tuple)with
  |true=>exact .inl ⟨_,_,rfl,rfl⟩
  |false=>exact .inr ⟨rfl,rfl⟩)
 rcases h1 with⟨v,w,h3,h4⟩|⟨h3,h4⟩<;>rw[h3,h4]<;>by_cases h:64<(xs.length:Int)
 ·rw[decide_eq_true h];rfl
 ·rw[decide_eq_false h];rfl
 ·rw[decide_eq_true h];simp only[Stp.elim,cond_true];exact decide_eq_false (by omega)
 ·rw[decide_eq_false h];simp only[Stp.elim,cond_false];exact decide_eq_true (by omega)
theorem Kl (d:Door)(xs:List Half):df.f (xs,d,())=xs.any (λh=>decide (0≤av.f (d.table,h.tuple,()))):=by
 simp only[PX,df,fC,bE]
 rw[iB (λh:Half=>decide (0≤av.f (d.table,h.tuple,()))) xs (λj y a h=>by
  simp only[PX,gy,BW,af,getD_some h])]
 rw[←jU]
 unfold dK
 cases xs.findIdx? (λh=>decide (0≤av.f (d.table,h.tuple,())))<;>rfl
theorem O6 {T:Type}(p:T→Bool)(xs:List T)(j:Nat):fP (W:=Unit) (λ_ y (_:Unit)=>bif p y then .out ()else .next ()) j xs ()=bif xs.any p then .out ()else .next ():=by
 rw[kK (w:=λ_ _=>())]
 cases h:xs.findIdx? p with
 |none=>
  rw[List.findIdx?_eq_none_iff]at h
  have:xs.any p=false:=by
   rw[List.any_eq_false]
   intro y hy;simp[h y hy]
  rw[this];rfl
 |some i=>
  obtain⟨h1,h2,_⟩:=List.findIdx?_eq_some_iff_getElem.1 h
  have:xs.any p=true:=by rw[List.any_eq_true];exact⟨xs[i],List.getElem_mem h1,h2⟩
  rw[this];simp only[List.getElem?_eq_getElem h1];rfl
theorem D1 (x:Door)(hs:∀y∈x.table.conns,be y.r.held):sr.f (x,())=bP.f (x,()):=by
 simp only[PX,sr,bP,pE,dr,L4,Oo x.table x.limits hs,Cq,bH,au,Kl]
 rw[aN,cS x.halves _ rfl (F:=λj y a=>bif decide (0≤av.f (x.table,y.tuple,()))then .out ()else .next ()) (by
  intro j y a h
  simp only[PX,A7,af,getD_some h,jt])]
 rw[O6 (λy:Half=>decide (0≤av.f (x.table,y.tuple,())))]
 cases x.halves.any (λy=>decide (0≤av.f (x.table,y.tuple,())))<;>rfl
theorem BU:∀(r:List Conn) (j:Nat) (c:List Conn) (w:List Tupl),fP (W:=Empty) (λ_ x (a:Tabl×Tabl)=> .next ((⟨[],[]⟩:Tabl),(⟨a.2.conns++[x],a.2.waiting⟩:Tabl))) j r (⟨[],[]⟩,⟨c,w⟩)= .next (⟨[],[]⟩,⟨c++r,w⟩)
 |[],_,c,w=>by simp only[fP,List.append_nil]
 |x::r,j,c,w=>by
  simp only[fP,Stp.elim]
  rw[BU r]
  simp
theorem rj (x:Recv):eb.f (x,())=x:=by simp only[PX,eb,List.nil_append]
theorem qk (x:Recv):gg.f (x,())=x:=by simp only[PX,gg,pm]
theorem fG (x:Conn):dF.f (x,())=x:=by simp only[PX,dF,rj]
theorem cj (x:Conn):ci.f (x,())=x:=by simp only[PX,ci,qk]
theorem Ov (x:Keys):uO.f (x,())=x:=by simp only[PX,uO,Fq]
theorem zL (x:Keys):qd.f (x,())=x:=by simp only[PX,qd,wg]
theorem Ag (x:Tabl):mz.f (x,())=x:=by
 simp only[PX,mz,j8,List.nil_append]
 rw[aN,cS x.conns _ rfl (F:=λ_ y (a:Tabl×Tabl)=> .next ((⟨[],[]⟩:Tabl),(⟨a.2.conns++[y],a.2.waiting⟩:Tabl))) (by
  intro j y a h
  simp only[PX,xZ,af,getD_some h,fG]),BU]
 simp only[Stp.elim,PX,List.nil_append]
theorem jd (x:Tabl):fB.f (x,())=x:=by
 simp only[PX,fB,gA,pk]
 rw[aN,cS x.conns _ rfl (F:=λ_ y (a:Tabl×Tabl)=> .next ((⟨[],[]⟩:Tabl),(⟨a.2.conns++[y],a.2.waiting⟩:Tabl))) (by
  intro j y a h
  simp only[PX,tI,af,getD_some h,cj]),BU]
 simp only[Stp.elim,PX,List.nil_append]
theorem kO (x:Door):d9.f (x,())=x:=by simp only[PX,d9,Ov,Ag,List.nil_append]
theorem kj (x:Door):gF.f (x,())=x:=by simp only[PX,gF,zL,jd,eB]
theorem ZL (k:Keys)(m:Mac):zY.f (k,m,())=oW.f (k,m,()):=by
 simp only[PX,zY,oW,Ov,zL,Fq,wg,L4,QC]
theorem SM (d:Door)(m:Mac):t5.f (d,m,())=kp.f (d,m,()):=by
 simp only[PX,t5,kp,kO,kj,ZL]
theorem O9 {W:Type}{f:Int→Unit→Stp Unit W}:∀(k:Nat) (i:Int),(∀j,f j ()= .next ())→aP f 1 k i ()= .next ()
 |0,_,_=>rfl
 |k+1,i,h=>by simp only[aP,h,Stp.elim];exact O9 k _ h
theorem Q4 (m:Mac):mK.f (m,m,())=true:=by
 simp only[PX,mK,kn]
 rw[O9 _ _ λj=>by simp only[PX,sR,beq_self_eq_true,Bool.and_self,Bool.not_true,cond_false]]
 simp[PX,Stp.elim]
theorem XQ (k:Keys)(m:Mac)(hk:eh.f (k,())=true):eh.f (oW.f (k,m,()),())=true:=by
 simp only[PX,oW,hk,zL,wg,Bool.not_true,cond_false]
 cases hm:jR.f (m,())with
 |false=>exact hk
 |true=>
  simp only[Bool.not_true,cond_false]
  cases he:(k.epoch==4294967295)with
  |true=>exact hk
  |false=>
   have h1:=wZ k hk
   have h2:k.epoch≠4294967295:=by simpa using he
   have h3:jR.f (k.now,())=true:=by
    simp only[PX,eh,au]at hk
    revert hk
    cases k.two<;>simp only[PX,cond_true,cond_false]<;>cases jR.f (k.now,())<;>simp
   simp only[cond_false]
   simp only[PX,eh,au,cond_true,hm,h3]
   rw[aq (by omega) (by omega),decide_eq_true (show 1≤k.epoch+1 by omega),decide_eq_true (show k.epoch+1≤4294967295 by omega)]
   rfl
theorem NW (m:Mac):fF.f (m,m,())=true:=by rw[←Fh];exact Q4 m
theorem Nm (o:Opti):pj.f (o,())=jO.f (o,()):=by
 simp only[PX,pj,jO,bX,bV]
theorem Y3 (xs:List Half)(h:Half)(n:Int):u4.f (xs,h,n,())=oJ.f (xs,h,n,()):=by
 simp only[PX,u4,oJ,eB,Cq,List.nil_append]
def gf (d:Door):Prop:=∀y∈d.table.conns,be y.r.held
theorem aaD {d:Door}(hd:aC d):gf d:=by
 intro y hy p hp
 have h1:ac y:=hd.2.2.2.2.2.2.1 y hy
 have h2:jS p:=h1.2.2.2 p hp
 simp only[jS]at h2
 omega
theorem KK (d:Door)(t:Tupl)(g:Segm)(hs:gf d):rG.f (d,t,g,())=(bP.f (d,())&&(aG.f (t,())&&ak.f (g,()))):=by
 simp only[PX,rG,D1 d hs,rC,qe]
 cases bP.f (d,())<;>cases aG.f (t,())<;>rfl
theorem Oq (d:Door)(t:Tupl)(g:Segm):lG.f (d,t,g,())=
  bif (bP.f (d,())&&(aG.f (t,())&&ak.f (g,())))then
   bif decide (0≤aE.f (d.halves,t,()))then
    bif ((d.halves.getD (aE.f (d.halves,t,())).toNat (Ty.zero .half)).irs != g.seq)then(d,[])else(d,[({eG.f (d,t,g,())with seq:=(d.halves.getD (aE.f (d.halves,t,())).toNat (Ty.zero .half)).iss}:Segm)])
   else bif decide (av.f (d.table,t,())<0)then
    ({d with halves:=(oJ.f (d.halves,(⟨t,(eG.f (d,t,g,())).seq,g.seq,jO.f (g.opts,()),0,g.window⟩:Half),d.limits.halves,())).1},[eG.f (d,t,g,())])
   else(d,[eG.f (d,t,g,())])
  else(d,[]):=by
 simp only[PX,lG,kj]
 cases bP.f (d,())<;>cases aG.f (t,())<;>cases ak.f (g,())<;>rfl
theorem adM (d:Door)(t:Tupl)(g:Segm)(hs:gf d):Dq.f (d,t,g,())=lG.f (d,t,g,()):=by
 rw[Oq]
 simp only[PX,Dq,kO,KK d t g hs,abp,wz,jt,Nm,Y3]
 cases(bP.f (d,())&&(aG.f (t,())&&ak.f (g,())))<;>rfl
theorem u3 {W:Type}{f:Int→Unit→Stp Unit W}:∀(k i:Nat),aP f 1 k (i:Int) ()= .next ()↔∀j:Nat,i≤j→j<i+k→f (j:Int) ()= .next ()
 |0,i=>⟨λ_ j h1 h2=>by omega,λ_=>rfl⟩
 |k+1,i=>by
  constructor
  ·intro h j h1 h2
   simp only[aP]at h
   cases hf:f (i:Int) ()with
   |out w=>rw[hf]at h;cases h
   |next a=>
    rw[hf]at h
    simp only[Stp.elim]at h
    rcases Nat.eq_or_lt_of_le h1 with h3|h3
    ·rw[←h3];exact hf
    ·rw[show(i:Int)+1=((i+1:Nat):Int) by omega]at h
     exact(u3 k (i+1)).1 h j h3 (by omega)
  ·intro h
   simp only[aP,h i (Nat.le_refl _) (by omega),Stp.elim]
   rw[show(i:Int)+1=((i+1:Nat):Int) by omega]
   exact(u3 k (i+1)).2 λj h1 h2=>h j (by omega) (by omega)
def sE (h:Half):Bool:=aG.f (h.tuple,())&&(ae.f (h.iss,32,())&&(ae.f (h.irs,32,())&&(ae.f (h.window,16,())&&(aM.f (h.opts,())&&(decide (0≤h.age)&&decide (h.age≤6))))))
theorem MQ (xs:List Half)(j:Nat)(y:Half)(hy:xs[j]? =some y):((fw xs (j:Int) ()).nice= .next ())↔(sE y=true∧(xs.take j).any (λh=>j6 y.tuple h.tuple)=false):=by
 simp only[PX,fw,af,getD_some hy,rC,dr,iO,bH,rS,List.drop_zero,jU,sE]
 cases aG.f (y.tuple,())<;>cases ae.f (y.iss,32,())<;>cases ae.f (y.irs,32,())<;>cases ae.f (y.window,16,())<;>cases aM.f (y.opts,())<;>cases(decide (0≤y.age)&&decide (y.age≤6))<;>cases(xs.take j).any (λh=>j6 y.tuple h.tuple)<;>simp
theorem QZ (xs:List Half):fk.f (xs,())=true↔(∀(j:Nat) (y:Half),xs[j]? =some y→sE y=true∧(xs.take j).any (λh=>j6 y.tuple h.tuple)=false)∧xs.length≤64:=by
 rw[←Cq]
 have hT:aP (λj a=>(fw xs j a).nice) 1 xs.length ((0:Nat):Int) ()= .next ()↔∀(j:Nat) (y:Half),xs[j]? =some y→sE y=true∧(xs.take j).any (λh=>j6 y.tuple h.tuple)=false:=by
  rw[u3]
  constructor
  ·intro h j y hy
   exact(MQ xs j y hy).1 (h j (Nat.zero_le _) (by have:=(List.getElem?_eq_some_iff.1 hy).1;omega))
  ·intro h j _ h2
   exact(MQ xs j xs[j] (List.getElem?_eq_getElem (by omega))).2 (h j _ (List.getElem?_eq_getElem (by omega)))
 simp only[PX,pi,jv]
 rw[aN,show(0:Int)=((0:Nat):Int) from rfl,←hT]
 cases aP (λj a=>(fw xs j a).nice) 1 xs.length ((0:Nat):Int) ()with
 |next a=>simp only[Stp.elim,PX,decide_eq_true_eq,true_and];omega
 |out w=>simp[Stp.elim,PX]
theorem Y1 {T:Type}(p:T→Bool)(xs:List T)(x:T)(h:xs.any p=false)(hx:p x=true):dK p (xs++[x])=(xs.length:Int):=by
 have hn:∀y∈xs,p y=false:=by simpa using List.any_eq_false.1 h
 unfold dK
 have e:(xs++[x]).findIdx? p=some xs.length:=by
  rw[List.findIdx?_eq_some_iff_getElem]
  refine⟨by simp,by simpa using hx,λj hj=> ?_⟩
  rw[List.getElem_append_left hj]
  simp[hn _ (List.getElem_mem hj)]
 rw[e]
theorem Wy (d:Door)(t:Tupl)(g:Segm):0≤(eG.f (d,t,g,())).seq∧(aG.f (t,())=true→eh.f (d.keys,())=true→0≤g.seq∧g.seq≤4294967295→(eG.f (d,t,g,())).seq≤4294967295):=by
 have hseq:(eG.f (d,t,g,())).seq=o8.f (d,t,g,()):=by simp only[PX,eG]
 rw[hseq]
 simp only[PX,o8]
 generalize z5.f (g.opts,())=mss
 refine⟨by split<;>omega,λht hk hs=> ?_⟩
 have hi:=Sd mss
 have he:=wZ d.keys hk
 have hc:=VH d.keys.now t g.seq d.keys.epoch (jr.f (mss,())) ht hs he hi
 have hr:=PG d.keys.now (fN.f (t,g.seq,d.keys.epoch,jr.f (mss,()),()))
 rw[hc];split<;>omega
theorem yZ (x:Sndr):bj.f (x,())=true↔SO x:=by
 have h:=bj.c.h (x,()) trivial
 simpa using h
theorem yI (x:Sndr):gN.f (x,())=dz.f (x,()):=by simp only[PX,gN,dz]
theorem VX (x:Sndr):zD.f (x,())=gZ.f (x,()):=by simp only[PX,zD,gZ,yI,iH]
theorem tB (c:Conn):jX.f (c,())=bD.f (c,()):=by simp only[PX,jX,bD,VX,ph,bX,bV]
theorem abS (c:Conn):CJ.f (c,())=dH.f (c,()):=by
 simp only[PX,CJ,dH,kA,mt]
 cases(c.opts.mss==0)with
 |true=>rfl
 |false=>
  simp only[cond_false]
  generalize(if 1460<c.opts.mss then(1460:Int)else c.opts.mss)=m
  split<;>split<;>omega
theorem Zc (x:Sndr)(y:Chun):mF.f (x,y,())=dG.f (x,y,()):=by
 simp only[PX,mF,dG,oL]
 obtain⟨u,dt,se,fi,fs,dn⟩:=x
 cases fi with
 |true=>simp only[Bool.not_true,cond_false]
 |false=>
  cases hy:y.fin with
  |false=>simp only[cond_false]
  |true=>
   have k1:∀n:Int,bj.f ((⟨u,dt,n,false,true,dn⟩:Sndr),())=false:=by
    intro n
    cases h:bj.f ((⟨u,dt,n,false,true,dn⟩:Sndr),())with
    |false=>rfl
    |true=>
     have:=(yZ _).1 h
     have h2:=this.2.2.2.2.2.1 rfl
     exact Bool.noConfusion h2.1
   simp only[k1,Bool.not_false,cond_true]
theorem Z9 (x:Sndr):zS.f (x,())=jM.f (x,()):=by
 simp only[PX,zS,jM,oL]
 cases bj.f (x,())<;>rfl
theorem aci (c:Conn):Dz.f (c,())=CI.f (c,()):=by simp only[PX,Dz,CI]
theorem ady (c:Conn)(hs:be c.r.held):IP.f (c,())=nl.f (c,()):=by
 simp only[PX,IP,nl,ll c hs,aci]
theorem Px (x:Sndr)(h:SO x):dz.f (x,())=if x.finSent then x.sent+1 else x.sent:=by
 simp only[PX,dz]
 have h1:=h.2.2.2.1
 have h2:=h.2.2.2.2.1
 have h3:=h.2.2.1
 cases x.finSent with
 |true=>simp only[cond_true,if_true];rw[aq (by omega) (by omega)]
 |false=>rfl
theorem Wi (l:aa)(S n:Int)(h0:0≤S)(h1:0≤n):(l.take (S+n).toNat).drop S.toNat=(l.drop S.toNat).take n.toNat:=by
 rw[List.drop_take];congr 1;omega
theorem U1 (x:Sndr)(w m:Int)(hw:w≤9223372036854775807):p8.f (x,w,m,())=bh.f (x,w,m,()):=by
 simp only[PX,p8,bh,oL,yI,VX,kA,mt]
 cases h:bj.f (x,())with
 |false=>rfl
 |true=>
 have hs:=(yZ x).1 h
 have h1:=hs.2.2.2.1
 have h2:=hs.2.2.2.2.1
 have h3:=hs.2.2.1
 simp only[Bool.not_true,cond_false]
 have hF:x.sent≤dz.f (x,())∧dz.f (x,())≤x.sent+1:=by
  rw[Px x hs];split<;>omega
 obtain⟨F,eF⟩:∃F,dz.f (x,())=F:=⟨_,rfl⟩
 rw[eF]at hF
 simp only[eF]
 generalize gZ.f (x,())=q
 rw[af,List.take_length,List.length_drop]
 rw[aq (m:=(x.data.length:Int)-x.sent) (by omega) (by omega)]
 rw[show((x.data.length-x.sent.toNat:Nat):Int)=(x.data.length:Int)-x.sent by omega]
 obtain⟨c2,e2⟩:∃z:Int,(if w<1000000 then w else 1000000)=z:=⟨_,rfl⟩
 simp only[e2]
 obtain⟨c3,e3⟩:∃z:Int,(if c2<0 then 0 else c2)=z:=⟨_,rfl⟩
 simp only[e3]
 have b3:0≤c3∧c3≤1000000:=by grind
 rw[aq (m:=c3-F) (by omega) (by omega)]
 obtain⟨c5,e5⟩:∃z:Int,(if c3-F<0 then 0 else c3-F)=z:=⟨_,rfl⟩
 simp only[e5]
 obtain⟨W,eW⟩:∃z:Int,(if w< -1 then-1 else w)=z:=⟨_,rfl⟩
 simp only[eW]
 have bW: -1≤W∧W≤9223372036854775807:=by grind
 rw[aq (m:=W-F) (by omega) (by omega)]
 obtain⟨D,eD⟩:∃z:Int,(x.data.length:Int)-x.sent=z:=⟨_,rfl⟩
 simp only[eD]
 obtain⟨c6,e6⟩:∃z:Int,(if m<c5 then m else c5)=z:=⟨_,rfl⟩
 simp only[e6]
 obtain⟨c7,e7⟩:∃z:Int,(if c6<D then c6 else D)=z:=⟨_,rfl⟩
 simp only[e7]
 obtain⟨n,e8⟩:∃z:Int,(if c7<0 then 0 else c7)=z:=⟨_,rfl⟩
 simp only[e8]
 obtain⟨d3,f3⟩:∃z:Int,(if m<D then m else D)=z:=⟨_,rfl⟩
 simp only[f3]
 obtain⟨d4,f4⟩:∃z:Int,(if W-F<d3 then W-F else d3)=z:=⟨_,rfl⟩
 simp only[f4]
 have en:(if 0<d4 then d4 else 0)=n:=by grind
 rw[en]
 have bn:0≤n∧n≤D:=by grind
 have bw:decide (n<W-F)=decide (n<c5):=by
  rw[decide_eq_decide];grind
 rw[bw,aq (m:=x.sent+n) (by omega) (by omega),Wi x.data x.sent n h1 bn.1,List.drop_zero]
 have el:(((x.data.drop x.sent.toNat).take n.toNat)==[])=(n==0):=by
  have hl:((x.data.drop x.sent.toNat).take n.toNat).length=n.toNat:=by rw[List.length_take,List.length_drop];omega
  generalize(x.data.drop x.sent.toNat).take n.toNat=z at*
  cases z with
  |nil=>simp only[List.length_nil]at hl;rw[show n=0 by omega];rfl
  |cons a r=>simp only[List.length_cons]at hl;rw[Bool.eq_iff_iff];simp;omega
 have ed:(x.sent+n==(x.data.length:Int))=(n==D):=by
  rw[Bool.eq_iff_iff];simp only[beq_iff_eq];omega
 rw[el,ed]
theorem Ga {A B W W':Type}[Inhabited W][Inhabited W']{f:A→Stp A W}{g:B→Stp B W'}{R:A→B→Prop}{Q:W→W'→Prop}(hd:Q default default)
  (h:∀a b,R a b→(∃a' b',f a= .next a'∧g b= .next b'∧R a' b')∨(∃w w',f a= .out w∧g b= .out w'∧Q w w')):
  ∀(m:Nat) (a:A) (b:B),R a b→Q (cl f m a) (cl g m b)
 |0,_,_,_=>hd
 |m+1,a,b,hr=>by
  rcases h a b hr with⟨a',b',e1,e2,hr'⟩|⟨w,w',e1,e2,hq⟩
  ·simp only[cl,e1,e2,Stp.elim]
   exact Ga hd h m a' b' hr'
  ·simp only[cl,e1,e2,Stp.elim]
   exact hq
def C2 (c:Conn)(l:List Segm):Conn:={c with timer:=if l=[]then c.timer else if c.timer=0 then 3 else c.timer}
theorem Mx (c:Conn):C2 c []=c:=by simp[C2]
theorem Zl (c:Conn)(l:List Segm)(g:Segm)(x:Sndr):(bif ((C2 c l).timer==0)then({C2 c l with s:=x,timer:=3}:Conn)else{C2 c l with s:=x})=C2 {c with s:=x} (l++[g]):=by
 simp only[C2]
 have h1:¬(l++[g]=[]):=by simp
 rw[if_neg h1]
 by_cases hl:l=[]
 ·rw[if_pos hl]
  by_cases ht:c.timer=0
  ·rw[if_pos ht,show(c.timer==0)=true by simp[ht]];rfl
  ·rw[if_neg ht,show(c.timer==0)=false by simp[ht]];rfl
 ·rw[if_neg hl]
  by_cases ht:c.timer=0
  ·rw[if_pos ht];rfl
  ·rw[if_neg ht,show(c.timer==0)=false by simp[ht]];rfl
theorem MW (c:Conn)(w:Int)(hw:w≤9223372036854775807)(hs:be c.r.held):nY.f (c,w,())=cN.f (c,w,()):=by
 simp only[PX,nY,cN,fG,cj,ll c hs,mE,kb]
 cases(bif !aO.f (c,())then(true,())else bif (c.state==8)then(true,())else((c.state==7),())).1 with
 |true=>rfl
 |false=>
 simp only[cond_false]
 have key:=Ga (f:=λa=>(tG w a).nice) (g:=λa=>(cf w a).nice) (R:=λa b=>a.1=C2 b.2.1 b.2.2∧a.2.2=b.2.2) (Q:=λp q=>p.1=C2 q.2.1 q.2.2∧p.2=q.2.2) ⟨(Mx _).symm,rfl⟩ (by
  rintro⟨a1,a2,al⟩ ⟨b1,b2,bl⟩ ⟨h1,h2⟩
  simp only[]at h1 h2
  subst h1;subst h2
  have hm:dH.f (C2 b2 al,())=dH.f (b2,()):=rfl
  have ha:bD.f (C2 b2 al,())=bD.f (b2,()):=rfl
  have hx:(C2 b2 al).s=b2.s:=rfl
  simp only[PX,tG,cf,abS,U1 _ _ _ hw,tB,Zc,hm,ha,hx]
  obtain⟨z,hz⟩:∃z,bh.f (b2.s,w,dH.f (b2,()),())=z:=⟨_,rfl⟩
  simp only[hz]
  obtain⟨g,hg⟩:∃g,bD.f (b2,())=g:=⟨_,rfl⟩
  simp only[hg]
  obtain⟨x,hx2⟩:∃x,dG.f (b2.s,z.1,())=x:=⟨_,rfl⟩
  simp only[hx2]
  cases z.2 with
  |false=>exact .inr ⟨_,_,rfl,rfl,rfl,rfl⟩
  |true=>
   have hf:∀g':Segm,_:=λg'=>Zl b2 al g' x
   cases ht:((C2 b2 al).timer==0)<;>rw[ht]at hf<;>simp only[cond_true,cond_false]at hf<;>cases(z.1.text==[])<;>cases z.1.fin<;>exact .inl ⟨_,_,rfl,rfl,hf _,rfl⟩) (IO c.s+1) (c,⟨⟨0,0,0⟩,0,⟨0,[],0,false,false,false⟩,⟨0,[],[],0,false⟩,0,0,⟨0,0,false,false,0,0⟩,0,0⟩,[]) (⟨⟨0,0,0⟩,0,⟨0,[],0,false,false,false⟩,⟨0,[],[],0,false⟩,0,0,⟨0,0,false,false,0,0⟩,0,0⟩,c,[]) ⟨(Mx c).symm,rfl⟩
 obtain⟨p,hp⟩:∃p,cl (λa=>(tG w a).nice) (IO c.s+1) (c,⟨⟨0,0,0⟩,0,⟨0,[],0,false,false,false⟩,⟨0,[],[],0,false⟩,0,0,⟨0,0,false,false,0,0⟩,0,0⟩,[])=p:=⟨_,rfl⟩
 obtain⟨q,hq⟩:∃q,cl (λa=>(cf w a).nice) (IO c.s+1) (⟨⟨0,0,0⟩,0,⟨0,[],0,false,false,false⟩,⟨0,[],[],0,false⟩,0,0,⟨0,0,false,false,0,0⟩,0,0⟩,c,[])=q:=⟨_,rfl⟩
 rw[hp,hq]at key
 simp only[hp,hq]
 obtain⟨p1,p2⟩:=p
 obtain⟨q1,q2,q3⟩:=q
 obtain⟨k1,k2⟩:=key
 simp only[]at k1 k2
 subst k1;subst k2
 cases p2 with
 |nil=>simp only[PX,Mx,List.length_nil];rfl
 |cons g r=>
  simp only[PX,decide_eq_true (show 0<((g::r).length:Int) by simp only[List.length_cons];omega),cond_true,C2,if_neg (show¬(g::r=[]) by simp)]
  by_cases ht:q2.timer=0
  ·simp only[ht,if_true,beq_self_eq_true,cond_true]
  ·simp only[if_neg ht,show(q2.timer==0)=false by simp[ht],cond_false]
def Yq (k:Int)(sf sd rd:Bool):Bool:=bif k==8 then true else(sf== !(k==1||k==4))&&((sd==(k==3||k==7))&&(rd==(k==4||decide (5≤k))))
theorem M0 (x:Conn):aO.f (x,())=(aG.f (x.tuple,())&&(bj.f (x.s,())&&(br.f (x.r,())&&(aM.f (x.opts,())&&((decide (1≤x.state)&&decide (x.state≤8))&&((decide (0≤x.most)&&decide (x.most≤1073725440))&&((decide (0≤x.window)&&decide (x.window≤x.most))&&((decide (0≤x.timer)&&bif x.state==7 then decide (x.timer≤4)else decide (x.timer≤3))&&((decide (0≤x.tries)&&decide (x.tries≤3))&&Yq x.state x.s.fin x.s.done x.r.done))))))))):=by
 simp only[PX,aO,au]
 cases aG.f (x.tuple,())with
 |false=>rfl
 |true=>
 cases bj.f (x.s,())with
 |false=>rfl
 |true=>
 cases br.f (x.r,())with
 |false=>rfl
 |true=>
 cases aM.f (x.opts,())with
 |false=>rfl
 |true=>
 simp only[Bool.not_true,cond_false,Bool.true_and]
 have ej:∀b:Bool,(bif b then(false,(4:Int),x,())else(false,3,x,()))=(false,(bif b then 4 else 3),x,()):=λb=>by cases b<;>rfl
 have et:∀b:Bool,decide (x.timer≤bif b then 4 else 3)=bif b then decide (x.timer≤4)else decide (x.timer≤3):=λb=>by cases b<;>rfl
 simp only[ej,et]
 generalize(decide (0≤x.window)&&decide (x.window≤x.most))=W
 generalize(decide (0≤x.most)&&decide (x.most≤1073725440))=N
 generalize(decide (0≤x.tries)&&decide (x.tries≤3))=T
 generalize decide (0≤x.timer)=T0
 generalize decide (x.timer≤4)=T4
 generalize decide (x.timer≤3)=T3
 generalize x.s.fin=sf
 generalize x.s.done=sd
 generalize x.r.done=rd
 generalize x.state=k
 have hk:k=1∨k=2∨k=3∨k=4∨k=5∨k=6∨k=7∨k=8∨(decide (1≤k)&&decide (k≤8))=false:=by
  simp only[Bool.and_eq_false_iff,decide_eq_false_iff_not];omega
 rcases hk with rfl|rfl|rfl|rfl|rfl|rfl|rfl|rfl|hk
 iterate 8 (revert W N T T0 T4 T3 sf sd rd;decide+kernel)
 simp only[hk];rfl
structure CO (x:Conn):Prop where
 tup:aG.f (x.tuple,())=true
 snd:SO x.s
 rcv:br.f (x.r,())=true
 opt:aM.f (x.opts,())=true
 s1:1≤x.state
 s8:x.state≤8
 m0:0≤x.most
 m1:x.most≤1073725440
 w0:0≤x.window
 w1:x.window≤x.most
 t0:0≤x.timer
 t4:x.timer≤4
 t3:x.state≠7→x.timer≤3
 r0:0≤x.tries
 r3:x.tries≤3
 fl:Yq x.state x.s.fin x.s.done x.r.done=true
theorem qi (x:Conn):aO.f (x,())=true↔CO x:=by
 rw[M0]
 simp only[Bool.and_eq_true,decide_eq_true_eq,yZ]
 have et:(bif x.state==7 then decide (x.timer≤4)else decide (x.timer≤3))=true↔x.timer≤4∧(x.state≠7→x.timer≤3):=by
  by_cases h:x.state=7
  ·simp[h]
  ·have h2:(x.state==7)=false:=by simpa using h
   simp only[h2,cond_false,decide_eq_true_eq]
   exact⟨λh3=>⟨by omega,λ_=>h3⟩,λh3=>h3.2 h⟩
 rw[et]
 constructor
 ·rintro⟨h1,h2,h3,h4,⟨h5,h6⟩,⟨h7,h8⟩,⟨h9,h10⟩,⟨h11,h12,h13⟩,⟨h14,h15⟩,h16⟩
  exact⟨h1,h2,h3,h4,h5,h6,h7,h8,h9,h10,h11,h12,h13,h14,h15,h16⟩
 ·rintro⟨h1,h2,h3,h4,h5,h6,h7,h8,h9,h10,h11,h12,h13,h14,h15,h16⟩
  exact⟨h1,h2,h3,h4,⟨h5,h6⟩,⟨h7,h8⟩,⟨h9,h10⟩,⟨h11,h12,h13⟩,⟨h14,h15⟩,h16⟩
structure Sent (c d:Conn):Prop where
 so:SO d.s
 s1:d.s.data=c.s.data
 s2:d.s.fin=c.s.fin
 s3:d.s.done=c.s.done
 s4:d.s.una=c.s.una
 tm:d.timer=c.timer∨d.timer=3
 re:d={c with s:=d.s,timer:=d.timer}
theorem Sent.refl (c:Conn)(h:SO c.s):Sent c c:=⟨h,rfl,rfl,rfl,rfl,.inl rfl,rfl⟩
theorem Sent.ok {c d:Conn}(h:Sent c d)(hc:CO c)(ht:d.timer≤3∨d.timer=c.timer):CO d:=by
 obtain⟨so,s1,s2,s3,s4,tm,re⟩:=h
 obtain⟨t,st,s,r,w,m,o,ti,tr⟩:=c
 obtain⟨t',st',s',r',w',m',o',ti',tr'⟩:=d
 simp only[Conn.mk.injEq]at re
 obtain⟨rfl,rfl,-,rfl,rfl,rfl,rfl,-,rfl⟩:=re
 simp only[]at*
 refine⟨hc.tup,so,hc.rcv,hc.opt,hc.s1,hc.s8,hc.m0,hc.m1,hc.w0,hc.w1, ?_, ?_, ?_,hc.r0,hc.r3, ?_⟩
 ·have:=hc.t0;simp only[]at*;omega
 ·have:=hc.t4;simp only[]at*;omega
 ·intro h7;have:=hc.t3 h7;simp only[]at*;omega
 ·have:=hc.fl;simp only[]at*;rw[s2,s3];exact this
theorem LM {x:Sndr}(h:SO x):bZ x:=by
 have:=h.2.2.1
 unfold bZ;grind
theorem QK (x:Sndr)(w m:Int)(y:Chun)(hy:(bh.f (x,w,m,()))=(y,true))(hx:SO x):SO (dG.f (x,y,()))∧(dG.f (x,y,())).data=x.data∧(dG.f (x,y,())).fin=x.fin∧(dG.f (x,y,())).done=x.done∧(dG.f (x,y,())).una=x.una∧IO (dG.f (x,y,()))<IO x:=by
 have h1:=bh.c.h (x,w,m,()) (LM hx)
 change qK (bh.f (x,w,m,())).1∧((bh.f (x,w,m,())).2=true→_)at h1
 have e1:(bh.f (x,w,m,())).1=y:=by rw[hy]
 have e2:(bh.f (x,w,m,())).2=true:=by rw[hy]
 obtain⟨h2,h3⟩:=h1
 obtain⟨-,h4,h5,h6,h7⟩:=h3 e2
 simp only[e1]at h2 h4 h5 h6 h7
 clear e1 e2
 have h8:=(dG.c.h (x,y,()) ⟨LM hx,h2⟩).2 hx h4 h5 h7
 change dG.f (x,y,())=_ at h8
 rw[h8]
 obtain⟨e1,e2,e3,e4,e5,e6,e7⟩:=hx
 refine⟨⟨e1,e2,e3, ?_, ?_, ?_, ?_⟩,rfl,rfl,rfl,rfl, ?_⟩
 ·show 0≤x.sent+(y.text.length:Int);omega
 ·show x.sent+(y.text.length:Int)≤(x.data.length:Int);omega
 ·intro hf;exact⟨(h7 hf).1,(h7 hf).2.2⟩
 ·intro hd
  refine⟨(e7 hd).1, ?_,(e7 hd).2.2⟩
  show y.fin=false
  cases hf:y.fin with
  |false=>rfl
  |true=>have:=(h7 hf).2.1;rw[this]at hd;cases hd
 ·show((x.data.length:Int)-(x.sent+(y.text.length:Int))).toNat+(if y.fin=true then 0 else 1)<((x.data.length:Int)-x.sent).toNat+(if x.finSent=true then 0 else 1)
  rw[h5]
  simp only[Bool.false_eq_true,if_false]
  have hl:y.text=[]∨0<y.text.length:=by cases y.text<;>simp
  rcases hl with hl|hl
  ·rw[h6 hl];simp only[if_true];omega
  ·split<;>omega
theorem rg (w:Int)(c:Conn)(a:Conn×Conn×List Segm)(h:Sent c a.2.1):(∃l,(cf w a).nice= .out (({a.1 with r.held:=[]}:Conn),a.2.1,l))∨(∃a',(cf w a).nice= .next a'∧Sent c a'.2.1∧IO a'.2.1.s<IO a.2.1.s):=by
 obtain⟨a1,a2,al⟩:=a
 simp only[]at h
 simp only[PX,cf]
 obtain⟨z,hz⟩:∃z,bh.f (a2.s,w,dH.f (a2,()),())=z:=⟨_,rfl⟩
 simp only[hz]
 obtain⟨y,b⟩:=z
 cases b with
 |false=>exact .inl ⟨_,rfl⟩
 |true=>
  obtain⟨k1,k2,k3,k4,k5,k6⟩:=QK a2.s w _ y hz h.so
  obtain⟨x,hx⟩:∃x,dG.f (a2.s,y,())=x:=⟨_,rfl⟩
  rw[hx]at k1 k2 k3 k4 k5 k6
  simp only[hx]
  have hs:Sent c ({a2 with s:=x}:Conn):=by
   obtain⟨so,s1,s2,s3,s4,tm,re⟩:=h
   refine⟨k1,k2.trans s1,k3.trans s2,k4.trans s3,k5.trans s4,tm, ?_⟩
   rw[re]
  cases(y.text==[])<;>cases y.fin<;>exact .inr ⟨_,rfl,hs,k6⟩
theorem E1 (c:Conn)(w:Int)(hc:SO c.s):Sent c (cN.f (c,w,())).1:=by
 simp only[PX,cN,cj,kb]
 cases(bif !aO.f (c,())then(true,())else bif (c.state==8)then(true,())else((c.state==7),())).1 with
 |true=>exact Sent.refl c hc
 |false=>
 simp only[cond_false]
 have key:=tU (f:=λa=>(cf w a).nice) (Inv:=λa=>Sent c a.2.1) (Q:=λp=>Sent c p.2.1) (meas:=λa=>IO a.2.1.s) (λa hi a' he=>by
  rcases rg w c a hi with⟨l,e⟩|⟨a2,e,h1,h2⟩
  ·simp only[e]at he;cases he
  ·simp only[e,Stp.next.injEq]at he;subst he;exact⟨h1,h2⟩) (λa hi p he=>by
  rcases rg w c a hi with⟨l,e⟩|⟨a2,e,h1,h2⟩
  ·simp only[e,Stp.out.injEq]at he;subst he;exact hi
  ·simp only[e]at he;cases he) (IO c.s+1) (⟨⟨0,0,0⟩,0,⟨0,[],0,false,false,false⟩,⟨0,[],[],0,false⟩,0,0,⟨0,0,false,false,0,0⟩,0,0⟩,c,[]) (Nat.lt_succ_self _) (Sent.refl c hc)
 obtain⟨q,hq⟩:∃q,cl (λa=>(cf w a).nice) (IO c.s+1) (⟨⟨0,0,0⟩,0,⟨0,[],0,false,false,false⟩,⟨0,[],[],0,false⟩,0,0,⟨0,0,false,false,0,0⟩,0,0⟩,c,[])=q:=⟨_,rfl⟩
 rw[hq]at key
 simp only[hq]
 obtain⟨q1,q2,q3⟩:=q
 simp only[]at key⊢
 cases(bif decide (0<(q3.length:Int))then((q2.timer==0),())else(false,())).1 with
 |false=>exact key
 |true=>
  obtain⟨so,s1,s2,s3,s4,tm,re⟩:=key
  refine⟨so,s1,s2,s3,s4,.inr rfl, ?_⟩
  exact congrArg (λd:Conn=>({d with timer:=3}:Conn)) re
theorem SR (c:Conn)(h:nl.f (c,())=true):aO.f (c,())=true∧c.state≠8:=by
 simp only[PX,nl]at h
 cases hc:aO.f (c,())with
 |false=>rw[hc]at h;cases h
 |true=>
  rw[hc]at h
  refine⟨rfl,λh8=> ?_⟩
  rw[h8]at h;cases h
def lh (c:Conn):Int:=if c.timer=0 then(if c.state=7 then 4 else 3)else c.timer
theorem FU {c:Conn}(h:CO c):1≤lh c∧lh c≤4:=by
 have:=h.t0;have:=h.t4
 unfold lh;split
 ·split<;>omega
 ·omega
def TC (c:Conn):Conn×List Segm:=
 if nl.f (c,())=true then
  if 0<lh c-1 then({c with timer:=lh c-1},[])
  else if c.state=7 then({c with state:=8,timer:=0,tries:=0},[])
  else if c.tries=3 then({c with state:=8,timer:=0,tries:=0},[{bD.f (c,())with flags:=bits .or .i64 (bD.f (c,())).flags 4}])
  else({(cN.f ({c with s:=jM.f (c.s,()),timer:=0,tries:=c.tries+1},(if c.window=0 then 1 else c.window),())).1 with timer:=3},(cN.f ({c with s:=jM.f (c.s,()),timer:=0,tries:=c.tries+1},(if c.window=0 then 1 else c.window),())).2)
 else if aO.f (c,())=true then({c with timer:=0,tries:=0},[])else(c,[])
theorem NJ (c:Conn):wG.f (c,())=TC c:=by
 simp only[PX,wG,cj]
 unfold TC
 cases hw:nl.f (c,())with
 |false=>
  simp only[Bool.not_false,cond_true,Bool.false_eq_true,if_false]
  cases aO.f (c,())<;>rfl
 |true=>
  obtain⟨h1,h2⟩:=SR c hw
  have hc:=(qi c).1 h1
  have hr:=FU hc
  have r0:=hc.r0
  have r3:=hc.r3
  have w0:=hc.w0
  have w1:=hc.w1
  have m1:=hc.m1
  simp only[Bool.not_true,cond_false,if_true]
  by_cases e1:c.timer=0
  ·have t1:(c.timer==0)=true:=by simp[e1]
   by_cases e2:c.state=7
   ·have t2:(c.state==7)=true:=by simp[e2]
    have t3:lh c-1=3:=by unfold lh;rw[if_pos e1,if_pos e2];rfl
    rw[t3]
    simp only[t1,t2,cond_true]
    rfl
   ·have t2:(c.state==7)=false:=by simp[e2]
    have t3:lh c-1=2:=by unfold lh;rw[if_pos e1,if_neg e2];rfl
    rw[t3]
    simp only[t1,t2,cond_true,cond_false]
    rfl
  have t1:(c.timer==0)=false:=by simp[e1]
  have t3:lh c=c.timer:=by unfold lh;rw[if_neg e1]
  rw[t3]at hr⊢
  have e1:IntKind.wrap .i64 (c.timer-1)=c.timer-1:=aq (by omega) (by omega)
  have e2:IntKind.wrap .i64 (c.tries+1)=c.tries+1:=aq (by omega) (by omega)
  have e4:(if c.window<1 then 1 else c.window)=if c.window=0 then 1 else c.window:=by split<;>split<;>omega
  simp only[t1,cond_false]
  dsimp only[Tr.nice]
  simp only[PX,e1,e2]
  by_cases c1:0<c.timer-1
  ·simp only[if_pos c1,decide_eq_true c1,cond_true]
  have e3:c.timer-1=0:=by omega
  simp only[e3,Int.lt_irrefl,if_false,decide_false,cond_false,wu]
  by_cases c2:c.state=7
  ·simp only[if_pos c2,show(c.state==7)=true by simp[c2],cond_true]
  simp only[if_neg c2,show(c.state==7)=false by simp[c2],cond_false]
  by_cases c3:c.tries=3
  ·simp only[if_pos c3,show(c.tries==3)=true by simp[c3],cond_true]
  simp only[if_neg c3,show(c.tries==3)=false by simp[c3],cond_false]
  by_cases c4:c.window=0
  ·simp only[if_pos c4,show(c.window==0)=true by simp[c4],cond_true]
   rfl
  ·simp only[if_neg c4,show(c.window==0)=false by simp[c4],cond_false]
   rfl
theorem Bk (c:Conn)(hs:be c.r.held):oq.f (c,())=TC c:=by
 simp only[PX,oq,fG,ady c hs,ll c hs]
 unfold TC
 cases hw:nl.f (c,())with
 |false=>
  simp only[Bool.not_false,cond_true,Bool.false_eq_true,if_false]
  cases aO.f (c,())<;>rfl
 |true=>
  obtain⟨h1,h2⟩:=SR c hw
  have hc:=(qi c).1 h1
  have hr:=FU hc
  have r0:=hc.r0
  have r3:=hc.r3
  have w0:=hc.w0
  have w1:=hc.w1
  have m1:=hc.m1
  simp only[Bool.not_true,cond_false,if_true]
  by_cases e1:c.timer=0
  ·have t1:(c.timer==0)=true:=by simp[e1]
   by_cases e2:c.state=7
   ·have t2:(c.state==7)=true:=by simp[e2]
    have t3:lh c-1=3:=by unfold lh;rw[if_pos e1,if_pos e2];rfl
    rw[t3]
    simp only[t1,t2,cond_true]
    rfl
   ·have t2:(c.state==7)=false:=by simp[e2]
    have t3:lh c-1=2:=by unfold lh;rw[if_pos e1,if_neg e2];rfl
    rw[t3]
    simp only[t1,t2,cond_true,cond_false]
    rfl
  have t1:(c.timer==0)=false:=by simp[e1]
  have t3:lh c=c.timer:=by unfold lh;rw[if_neg e1]
  rw[t3]at hr⊢
  have e1:IntKind.wrap .i64 (c.timer-1)=c.timer-1:=aq (by omega) (by omega)
  have e2:IntKind.wrap .i64 (c.tries+1)=c.tries+1:=aq (by omega) (by omega)
  have e4:(if c.window<1 then 1 else c.window)=if c.window=0 then 1 else c.window:=by split<;>split<;>omega
  simp only[t1,cond_false]
  dsimp only[Tr.nice]
  simp only[PX,e1,e2,mt,Z9,tB,e4]
  by_cases c1:0<c.timer-1
  ·simp only[if_pos c1,decide_eq_true c1,cond_true]
  have e3:c.timer-1=0:=by omega
  simp only[e3,Int.lt_irrefl,if_false,decide_false,cond_false,wu]
  by_cases c2:c.state=7
  ·simp only[if_pos c2,show(c.state==7)=true by simp[c2],cond_true]
  simp only[if_neg c2,show(c.state==7)=false by simp[c2],cond_false]
  by_cases c3:c.tries=3
  ·simp only[if_pos c3,show(c.tries==3)=true by simp[c3],cond_true]
  simp only[if_neg c3,show(c.tries==3)=false by simp[c3],cond_false]
  have e5:=MW ({c with s:=jM.f (c.s,()),timer:=0,tries:=c.tries+1}) (if c.window=0 then 1 else c.window) (by split<;>omega) hs
  simp only[e5]
theorem Le {T A W:Type}(p:T→Bool)(g:T→A):∀(r:List T) (j:Nat) (a:List A),fP (W:=W) (λ_ x (a:List A)=>bif p x then .next (a++[g x])else .next a) j r a= .next (a++(r.filter p).map g)
 |[],_,a=>by simp[fP]
 |x::r,j,a=>by
  cases h:p x<;>simp only[fP,h,cond_true,cond_false,Stp.elim,Le p g r,List.filter_cons,if_true,Bool.false_eq_true,if_false,List.map_cons,List.append_assoc,List.cons_append,List.nil_append]
def pS (xs:List Half):List Half:=(xs.filter (λh=>decide (h.age<6))).map (λh=>({h with age:=IntKind.wrap .i64 (h.age+1)}:Half))
theorem HF (xs:List Half):qM.f (xs,())=pS xs:=by
 simp only[PX,qM,gz]
 rw[aN,cS xs _ rfl (F:=λ_ x (a:List Half)=>bif decide (x.age<6)then .next (a++[({x with age:=IntKind.wrap .i64 (x.age+1)}:Half)])else .next a) (by
  intro j x a h
  simp only[PX,t6,af,getD_some h])]
 rw[Le (λx:Half=>decide (x.age<6)) (λx=>({x with age:=IntKind.wrap .i64 (x.age+1)}:Half))]
 rfl
theorem H5 (xs:List Half)(ha:∀y∈xs,y.age≤6)(hb:∀y∈xs,0≤y.age):qN.f (xs,())=pS xs:=by
 simp only[PX,qN,gr]
 rw[aN,cS xs _ rfl (F:=λ_ x (a:List Half)=>bif decide (x.age<6)then .next (a++[({x with age:=IntKind.wrap .i64 (x.age+1)}:Half)])else .next a) (by
  intro j x a h
  have h1:=ha x (ke h)
  have h2:=hb x (ke h)
  have h3:decide (IntKind.wrap .i64 (x.age+1)≤6)=decide (x.age<6):=by rw[aq (by omega) (by omega)];apply decide_eq_decide.2;omega
  simp only[PX,ue,af,getD_some h,h3])]
 rw[Le (λx:Half=>decide (x.age<6)) (λx=>({x with age:=IntKind.wrap .i64 (x.age+1)}:Half))]
 rfl
theorem Ed {T:Type}(p:T→Bool)(xs:List T){f:Int→Int×List T→Stp (Int×List T) Empty}(hf:∀(j k:Nat) (ys:List T) x,ys[j]? =some x→k≤j→j<xs.length→f (j:Int) ((k:Int),ys)=bif p x then .next ((k:Int),ys)else .next (((k+1:Nat):Int),ys.set k x)):
  ∀(n j k:Nat) (ys:List T),ys.length=xs.length→k≤j→j+n=xs.length→ys.take k=(xs.take j).filter (λx=> !p x)→ys.drop j=xs.drop j→∃(k':Nat) (zs:List T),aP f 1 n (j:Int) ((k:Int),ys)= .next ((k':Int),zs)∧zs.length=xs.length∧k'≤xs.length∧zs.take k'=xs.filter (λx=> !p x)
 |0,j,k,ys,hl,hk,hn,ht,hd=>⟨k,ys,rfl,hl,by omega,by rw[ht,List.take_of_length_le (by omega)]⟩
 |n+1,j,k,ys,hl,hk,hn,ht,hd=>by
  have hj:j<xs.length:=by omega
  have hy:ys[j]? =some xs[j]:=by
   have:(ys.drop j)[0]? =(xs.drop j)[0]? :=by rw[hd]
   simpa [List.getElem?_drop,hj]using this
  have e:(xs.take (j+1)).filter (λx=> !p x)=(xs.take j).filter (λx=> !p x)++(if p xs[j]=true then[]else[xs[j]]):=by
   rw[List.take_succ_eq_append_getElem hj,List.filter_append]
   congr 1
   cases hp:p xs[j]<;>simp[hp]
  have hd2:ys.drop (j+1)=xs.drop (j+1):=by
   rw[←List.drop_drop,←List.drop_drop,hd]
  simp only[aP,hf j k ys xs[j] hy hk hj]
  have c1:((j:Int)+1)=((j+1:Nat):Int):=by omega
  cases hp:p xs[j]with
  |true=>
   simp only[cond_true,Stp.elim]
   rw[c1]
   exact Ed p xs hf n (j+1) k ys hl (by omega) (by omega) (by rw[e,hp,ht];simp) hd2
  |false=>
   simp only[cond_false,Stp.elim]
   rw[c1]
   refine Ed p xs hf n (j+1) (k+1) (ys.set k xs[j]) (by rw[List.length_set];exact hl) (by omega) (by omega) ?_ ?_
   ·rw[e,hp,List.take_succ_eq_append_getElem (by rw[List.length_set];omega),List.take_set_of_le (Nat.le_refl _),ht]
    simp
   ·rw[List.drop_set_of_lt (by omega)];exact hd2
theorem C4 (xs:List Tupl)(t:Tupl):iE.f (xs,t,())=xs.any (j6 t):=by
 simp only[PX,iE,qp,jU]
def lg (t:Tabl)(c:Conn):Bool:=bif c.state != 8 then true else t.waiting.any (j6 c.tuple)
def mI (t:Tabl)(x:Tupl):Bool:=decide (0≤av.f (t,x,()))
def mh (t:Tabl):Tabl:=⟨t.conns.filter (lg t),t.waiting.filter (mI t)⟩
theorem Om {A B W:Type}(p:A→Bool)(mk:List A→B)(z:B)(get:B→List A)(hg:∀l,get (mk l)=l):∀(r:List A) (j:Nat) (l:List A),fP (W:=W) (λ_ x (a:B×B)=>bif p x then .next (z,mk (get a.2++[x]))else .next (z,mk (get a.2))) j r (z,mk l)= .next (z,mk (l++r.filter p))
 |[],_,l=>by simp[fP]
 |x::r,j,l=>by
  cases h:p x<;>simp only[fP,h,cond_true,cond_false,Stp.elim,hg,Om p mk z get hg r,List.filter_cons,if_true,Bool.false_eq_true,if_false,List.append_assoc,List.cons_append,List.nil_append]
theorem Cm (t:Tabl):Ax.f (t,())=mh t:=by
 simp only[PX,Ax,iV,jl]
 have h1:aP (λj a=>(vI t j a).nice) 1 (Int.toNat ((t.conns.length:Int)-0)) 0 ((⟨[],[]⟩:Tabl),(⟨[],[]⟩:Tabl))= .next ((⟨[],[]⟩:Tabl),(⟨t.conns.filter (lg t),[]⟩:Tabl)):=by
  rw[aN,cS t.conns _ rfl (F:=λ_ x (a:Tabl×Tabl)=>bif lg t x then .next (⟨[],[]⟩,(⟨a.2.conns++[x],[]⟩:Tabl))else .next (⟨[],[]⟩,(⟨a.2.conns,[]⟩:Tabl))) (by
   intro j x a h
   simp only[PX,vI,af,getD_some h,wB,fG,lg]
   cases(x.state != 8)with
   |true=>rfl
   |false=>cases t.waiting.any (j6 x.tuple)<;>rfl)]
  exact Om (lg t) (λl=>(⟨l,[]⟩:Tabl)) ⟨[],[]⟩ Tabl.conns (λ_=>rfl) t.conns 0 []
 have h2:∀l:List Conn,aP (λj a=>(vv t j a).nice) 1 (Int.toNat ((t.waiting.length:Int)-0)) 0 ((⟨[],[]⟩:Tabl),(⟨l,[]⟩:Tabl))= .next ((⟨[],[]⟩:Tabl),(⟨l,t.waiting.filter (mI t)⟩:Tabl)):=by
  intro l
  rw[aN,cS t.waiting _ rfl (F:=λ_ x (a:Tabl×Tabl)=>bif mI t x then .next (⟨[],[]⟩,(⟨a.2.conns,a.2.waiting++[x]⟩:Tabl))else .next (⟨[],[]⟩,a.2)) (by
   intro j x a h
   simp only[PX,vv,af,getD_some h,jt,mI])]
  have:∀(r:List Tupl) (j:Nat) (l2:List Tupl),fP (W:=Empty) (λ_ x (a:Tabl×Tabl)=>bif mI t x then .next (⟨[],[]⟩,(⟨a.2.conns,a.2.waiting++[x]⟩:Tabl))else .next (⟨[],[]⟩,a.2)) j r (⟨[],[]⟩,(⟨l,l2⟩:Tabl))= .next (⟨[],[]⟩,(⟨l,l2++r.filter (mI t)⟩:Tabl)):=by
   intro r
   induction r with
   |nil=>intro j l2;simp[fP]
   |cons x r ih=>
    intro j l2
    cases h:mI t x<;>simp only[fP,h,cond_true,cond_false,Stp.elim,ih,List.filter_cons,if_true,Bool.false_eq_true,if_false,List.append_assoc,List.cons_append,List.nil_append]
  exact this t.waiting 0 []
 simp only[h1,Stp.elim,PX,h2]
 rfl
theorem Pe {T:Type}(p:T→Bool)(xs:List T)(h:(dK p xs== -1)=true):xs.filter (λx=> !p x)=xs:=by
 unfold dK at h
 cases hf:xs.findIdx? p with
 |some i=>rw[hf]at h;simp at h
 |none=>
  rw[List.findIdx?_eq_none_iff]at hf
  rw[List.filter_eq_self];intro x hx;simp[hf x hx]
theorem OI {T:Type}(p:T→Bool)(xs:List T)(h:(dK p xs== -1)=false):∃i:Nat,dK p xs=(i:Int)∧∃hi:i<xs.length,xs.take i=(xs.take (i+1)).filter (λx=> !p x):=by
 unfold dK at h⊢
 cases hf:xs.findIdx? p with
 |none=>rw[hf]at h;simp at h
 |some i=>
  obtain⟨h1,h2,h3⟩:=List.findIdx?_eq_some_iff_getElem.1 hf
  refine⟨i,rfl,h1, ?_⟩
  rw[List.take_succ_eq_append_getElem h1,List.filter_append]
  have e1:(xs.take i).filter (λx=> !p x)=xs.take i:=by
   rw[List.filter_eq_self]
   intro x hx
   obtain⟨j,hj,rfl⟩:=List.getElem_of_mem hx
   have hj2:j<i:=by rw[List.length_take]at hj;omega
   have:=h3 j hj2
   simp only[List.getElem_take]
   simp[this]
  have e2:[xs[i]].filter (λx=> !p x)=[]:=by simp[h2]
  rw[e1,e2,List.append_nil]
theorem af2 (xs:List Conn)(t:Tabl)(hl:xs.length≤4294967296):(cL.f (xs,t,())).2.take (cL.f (xs,t,())).1=xs.filter (lg t):=by
 have ep:∀x,vm.f (x,t,())= !lg t x:=by
  intro x
  simp only[PX,vm,C4,lg]
  by_cases h:x.state=8
  ·rw[show(x.state==8)=true by simp[h],show(x.state != 8)=false by simp[h]];rfl
  ·rw[show(x.state==8)=false by simp[h],show(x.state != 8)=true by simp[h]];rfl
 have en:∀l:List Conn,l.filter (lg t)=l.filter (λx=> !(!lg t x)):=λl=>by simp only[Bool.not_not]
 have ei:dA.f (xs,t,())=dK (λx=> !lg t x) xs:=by
  simp only[PX,dA,bA]
  rw[iB (λx=> !lg t x) xs (λj x a h=>by
   simp only[PX,gd,af,getD_some h,ep])]
  unfold dK
  cases xs.findIdx? (λx=> !lg t x)<;>rfl
 simp only[PX,cL,aH,ei]
 rw[en]
 cases hf:(dK (λx=> !lg t x) xs== -1)with
 |true=>simp only[cond_true,List.take_length];exact(Pe _ _ hf).symm
 |false=>
  obtain⟨i,hi,hlt,ht⟩:=OI _ _ hf
  simp only[hi,cond_false]
  rw[aq (by omega) (by omega)]
  obtain⟨k',zs,e,z1,z2,z3⟩:=Ed (λx=> !lg t x) xs (f:=λj a=>(dW t j a).nice) (λj k ys x hx hk hj=>by
   simp only[PX,dW,af,getD_some hx,ep]
   rw[aq (by omega) (by omega)]
   cases lg t x<;>rfl) (xs.length-(i+1)) (i+1) i xs rfl (by omega) (by omega) ht rfl
  rw[show Int.toNat ((xs.length:Int)-((i:Int)+1))=xs.length-(i+1) by omega]
  have e2:((i:Int)+1)=((i+1:Nat):Int):=by omega
  rw[e2,e]
  simp only[Stp.elim,PX]
  rw[←z3,List.append_assoc,List.take_append_of_le_length (by simp;omega)]
  simp
  rw[List.take_take,Nat.min_self]
theorem afT (xs:List Tupl)(t:Tabl)(hl:xs.length≤4294967296):(cu.f (xs,t,())).2.take (cu.f (xs,t,())).1=xs.filter (mI t):=by
 have ep:∀x,u6.f (x,t,())= !mI t x:=by
  intro x
  simp only[PX,u6,mI]
  rw[←decide_not];apply decide_eq_decide.2;omega
 have en:∀l:List Tupl,l.filter (mI t)=l.filter (λx=> !(!mI t x)):=λl=>by simp only[Bool.not_not]
 have ei:dk.f (xs,t,())=dK (λx=> !mI t x) xs:=by
  simp only[PX,dk,bu]
  rw[iB (λx=> !mI t x) xs (λj x a h=>by
   simp only[PX,fM,af,getD_some h,ep])]
  unfold dK
  cases xs.findIdx? (λx=> !mI t x)<;>rfl
 simp only[PX,cu,aF,ei]
 rw[en]
 cases hf:(dK (λx=> !mI t x) xs== -1)with
 |true=>simp only[cond_true,List.take_length];exact(Pe _ _ hf).symm
 |false=>
  obtain⟨i,hi,hlt,ht⟩:=OI _ _ hf
  simp only[hi,cond_false]
  rw[aq (by omega) (by omega)]
  obtain⟨k',zs,e,z1,z2,z3⟩:=Ed (λx=> !mI t x) xs (f:=λj a=>(dL t j a).nice) (λj k ys x hx hk hj=>by
   simp only[PX,dL,af,getD_some hx,ep]
   rw[aq (by omega) (by omega)]
   cases mI t x<;>rfl) (xs.length-(i+1)) (i+1) i xs rfl (by omega) (by omega) ht rfl
  rw[show Int.toNat ((xs.length:Int)-((i:Int)+1))=xs.length-(i+1) by omega]
  have e2:((i:Int)+1)=((i+1:Nat):Int):=by omega
  rw[e2,e]
  simp only[Stp.elim,PX]
  rw[←z3,List.append_assoc,List.take_append_of_le_length (by simp;omega)]
  simp
  rw[List.take_take,Nat.min_self]
theorem Cd (t:Tabl)(h1:t.conns.length≤4294967296)(h2:t.waiting.length≤4294967296):tQ.f (t,())=mh t:=by
 simp only[PX,tQ,jd,af2 _ _ h1,afT _ _ h2,mh]
theorem YP (ip:Int)(xs:List Segm){f:Int→Door×List Mail→Stp (Door×List Mail) Empty}(hf:∀(j:Nat) x a,xs[j]? =some x→∃d,f (j:Int) a= .next (d,a.2++[(⟨ip,x⟩:Mail)])):
  ∀(n j:Nat) (d:Door) (l:List Mail),j+n=xs.length→∃d2,aP f 1 n (j:Int) (d,l)= .next (d2,l++(xs.drop j).map (λg=>(⟨ip,g⟩:Mail)))
 |0,j,d,l,h=>⟨d,by rw[List.drop_of_length_le (by omega)];simp[aP]⟩
 |n+1,j,d,l,h=>by
  have hj:j<xs.length:=by omega
  obtain⟨d1,e1⟩:=hf j xs[j] (d,l) (List.getElem?_eq_getElem hj)
  obtain⟨d2,e2⟩:=YP ip xs hf n (j+1) d1 (l++[⟨ip,xs[j]⟩]) (by omega)
  refine⟨d2, ?_⟩
  simp only[aP,e1,Stp.elim]
  rw[show(j:Int)+1=((j+1:Nat):Int) by omega,e2,List.drop_eq_getElem_cons hj]
  simp only[List.map_cons,List.append_assoc,List.cons_append,List.nil_append]
def ex (xs:List Conn):List Conn:=xs.map (λc=>(TC c).1)
def Yr (xs:List Conn):List Mail:=xs.flatMap (λc=>(TC c).2.map (λg=>(⟨c.tuple.ip,g⟩:Mail)))
theorem Fy {E:Type}(out:Conn→List E)(xs:List Conn)(d:Door){f:Int→Door×Door×List E→Stp (Door×Door×List E) Empty}(hf:∀(j:Nat) x (a:Door×Door×List E),a.2.1.table.conns[j]? =some x→xs[j]? =some x→∃z,f (j:Int) a= .next (z,({a.2.1 with table.conns:=a.2.1.table.conns.set j (TC x).1}:Door),a.2.2++out x)):
  ∀(n j:Nat) (z:Door) (ys:List Conn) (l:List E),j+n=xs.length→ys.length=xs.length→ys.drop j=xs.drop j→ys.take j=ex (xs.take j)→∃z2,aP f 1 n (j:Int) (z,({d with table.conns:=ys}:Door),l)= .next (z2,({d with table.conns:=ex xs}:Door),l++(xs.drop j).flatMap out)
 |0,j,z,ys,l,h,hl,hd,ht=>⟨z,by
  rw[List.take_of_length_le (by omega),List.take_of_length_le (by omega)]at ht
  rw[List.drop_of_length_le (by omega),ht];simp[aP]⟩
 |n+1,j,z,ys,l,h,hl,hd,ht=>by
  have hj:j<xs.length:=by omega
  have hy:ys[j]? =some xs[j]:=by
   have:(ys.drop j)[0]? =(xs.drop j)[0]? :=by rw[hd]
   simpa [List.getElem?_drop,hj]using this
  obtain⟨z1,e1⟩:=hf j xs[j] (z,({d with table.conns:=ys}:Door),l) hy (List.getElem?_eq_getElem hj)
  have hd2:ys.drop (j+1)=xs.drop (j+1):=by
   rw[←List.drop_drop,←List.drop_drop,hd]
  obtain⟨z2,e2⟩:=Fy out xs d hf n (j+1) z1 (ys.set j (TC xs[j]).1) (l++out xs[j]) (by omega) (by rw[List.length_set];exact hl) (by rw[List.drop_set_of_lt (by omega)];exact hd2) (by
   rw[List.take_succ_eq_append_getElem (by rw[List.length_set];omega),List.take_set_of_le (Nat.le_refl _),ht,List.take_succ_eq_append_getElem hj]
   simp only[ex,List.map_append,List.map_cons,List.map_nil,List.getElem_set_self])
  refine⟨z2, ?_⟩
  simp only[aP,e1,Stp.elim]
  rw[show(j:Int)+1=((j+1:Nat):Int) by omega]
  refine e2.trans ?_
  rw[List.drop_eq_getElem_cons hj]
  simp only[List.flatMap_cons,List.append_assoc]
theorem Nj (d:Door)(hs:gf d):wq.f (d,())=bif bP.f (d,())then({d with clock:=bQ.f (IntKind.wrap .i64 (d.clock+1),()),chal:=0,halves:=pS d.halves,table:=mh ⟨ex d.table.conns,d.table.waiting⟩},d.table.conns.flatMap (λc=>(TC c).2))else(d,[]):=by
 simp only[PX,wq,kO,D1 d hs,HF,cx]
 cases bP.f (d,())with
 |false=>rfl
 |true=>
  simp only[Bool.not_true,cond_false,cond_true]
  obtain⟨z2,e⟩:=Fy (λc=>(TC c).2) d.table.conns ({d with clock:=bQ.f (IntKind.wrap .i64 (d.clock+1),()),chal:=0,halves:=pS d.halves}:Door) (f:=λj a=>(qq j a).nice) (λj x a h1 h2=>by
   simp only[PX,qq,af,getD_some h1,Bk x (hs x (ke h2))]
   exact⟨_,rfl⟩) d.table.conns.length 0 (⟨0,0,⟨0,⟨false,0,0,[]⟩,⟨false,0,0,[]⟩,false⟩,⟨0,0,0,0⟩,[],⟨[],[]⟩,0⟩:Door) d.table.conns [] (by omega) rfl rfl rfl
  rw[aN]
  refine(congrArg (Stp.elim _ _) e).trans ?_
  simp only[Stp.elim,Cm,List.nil_append,List.drop_zero]
theorem Ns (d:Door)(ha:∀y∈d.halves,y.age≤6)(hb:∀y∈d.halves,0≤y.age)(h1:d.table.conns.length≤4294967296)(h2:d.table.waiting.length≤4294967296)(hd:bP.f (d,())=true):wa.f (d,())=({d with clock:=bK.f (d.clock,1,()),chal:=0,halves:=pS d.halves,table:=mh ⟨ex d.table.conns,d.table.waiting⟩},Yr d.table.conns):=by
 simp only[PX,wa,kj,hd,H5 _ ha hb,fm,Bool.not_true,cond_false]
 obtain⟨z2,e⟩:=Fy (λc=>(TC c).2.map (λg=>(⟨c.tuple.ip,g⟩:Mail))) d.table.conns ({d with clock:=bK.f (d.clock,1,()),chal:=0,halves:=pS d.halves}:Door) (f:=λj a=>(qj d.table.conns (d.table.conns.length:Int) j a).nice) (λj x a h1 h2=>by
  simp only[PX,qj,af,getD_some h2,NJ,dS]
  obtain⟨d2,e2⟩:=YP x.tuple.ip (TC x).2 (f:=λk a=>(n7 x (TC x).2 k a).nice) (λj y a h=>by
   simp only[PX,n7,af,getD_some h]
   exact⟨_,rfl⟩) (TC x).2.length 0 ({a.1 with keys.now.rows:=[],keys.before.rows:=[],halves:=[],table.conns:=[],table.waiting:=[]}:Door) a.2.2 (by omega)
  rw[aN]
  exact⟨_,(congrArg (Stp.elim _ _) e2).trans rfl⟩) d.table.conns.length 0 (⟨0,0,⟨0,⟨false,0,0,[]⟩,⟨false,0,0,[]⟩,false⟩,⟨0,0,0,0⟩,[],⟨[],[]⟩,0⟩:Door) d.table.conns [] (by omega) rfl rfl rfl
 rw[aN]
 refine(congrArg (Stp.elim _ _) e).trans ?_
 simp only[Stp.elim,List.nil_append,List.drop_zero]
 rw[Cd ⟨ex d.table.conns,d.table.waiting⟩ (by simp only[ex,List.length_map];exact h1) h2]
 rfl
theorem Ei (a b:Tupl):j6 a b=true↔a=b:=by
 obtain⟨a1,a2,a3⟩:=a
 obtain⟨b1,b2,b3⟩:=b
 simp only[j6,Bool.and_true,Bool.and_eq_true,beq_iff_eq,Tupl.mk.injEq]
 constructor<;>rintro⟨rfl,rfl,rfl⟩<;>exact⟨rfl,rfl,rfl⟩
theorem vz {T:Type}(f:T→Tupl)(xs:List T)(t:Tupl):xs.any (λh=>j6 t (f h))=true↔t∈xs.map f:=by
 simp only[List.any_eq_true,List.mem_map,Ei]
 constructor
 ·rintro⟨x,h1,h2⟩;exact⟨x,h1,h2.symm⟩
 ·rintro⟨x,h1,h2⟩;exact⟨x,h1,h2.symm⟩
theorem Ap {T:Type}(f:T→Tupl)(xs:List T):(∀(j:Nat) (y:T),xs[j]? =some y→(xs.take j).any (λh=>j6 (f y) (f h))=false)↔(xs.map f).Nodup:=by
 unfold List.Nodup
 rw[List.pairwise_iff_getElem]
 constructor
 ·intro h i j hi hj hij he
  rw[List.length_map]at hi hj
  simp only[List.getElem_map]at he
  have:=h j xs[j] (List.getElem?_eq_getElem hj)
  rw[List.any_eq_false]at this
  refine this xs[i] ?_ ((Ei _ _).2 he.symm)
  rw[List.mem_take_iff_getElem]
  exact⟨i,by omega,rfl⟩
 ·intro h j y hy
  rw[List.any_eq_false]
  intro z hz he
  rw[List.mem_take_iff_getElem]at hz
  obtain⟨i,hi,rfl⟩:=hz
  obtain⟨hj,rfl⟩:=List.getElem?_eq_some_iff.1 hy
  have:=h i j (by rw[List.length_map];omega) (by rw[List.length_map];exact hj) (by omega)
  simp only[List.getElem_map]at this
  exact this ((Ei _ _).1 he).symm
structure LO (l:Limi):Prop where
 h1:1≤l.halves
 h2:l.halves≤64
 w1:1≤l.waiting
 w2:l.waiting≤16
 c1:1≤l.conns
 c2:l.conns≤16
 k0:0≤l.chal
 k1:l.chal≤1000
theorem aeG (l:Limi):fL.f (l,())=true↔LO l:=by
 simp only[PX,fL,au]
 have e:(bif decide (1≤l.halves)&&decide (l.halves≤64)then bif decide (1≤l.waiting)&&decide (l.waiting≤16)then bif decide (1≤l.conns)&&decide (l.conns≤16)then decide (0≤l.chal)&&decide (l.chal≤1000)else false else false else false)=((decide (1≤l.halves)&&decide (l.halves≤64))&&((decide (1≤l.waiting)&&decide (l.waiting≤16))&&((decide (1≤l.conns)&&decide (l.conns≤16))&&(decide (0≤l.chal)&&decide (l.chal≤1000))))):=by
  cases(decide (1≤l.halves)&&decide (l.halves≤64))<;>cases(decide (1≤l.waiting)&&decide (l.waiting≤16))<;>cases(decide (1≤l.conns)&&decide (l.conns≤16))<;>simp
 rw[e]
 simp only[Bool.and_eq_true,decide_eq_true_eq]
 constructor
 ·rintro⟨⟨h1,h2⟩,⟨h3,h4⟩,⟨h5,h6⟩,h7,h8⟩;exact⟨h1,h2,h3,h4,h5,h6,h7,h8⟩
 ·rintro⟨h1,h2,h3,h4,h5,h6,h7,h8⟩;exact⟨⟨h1,h2⟩,⟨h3,h4⟩,⟨h5,h6⟩,h7,h8⟩
structure TO (t:Tabl)(l:Limi):Prop where
 lim:LO l
 nc:(t.conns.length:Int)≤l.conns
 nw:(t.waiting.length:Int)≤l.waiting
 co:∀c∈t.conns,CO c
 dc:(t.conns.map Conn.tuple).Nodup
 dw:t.waiting.Nodup
 wc:∀w∈t.waiting,w∈t.conns.map Conn.tuple
theorem wQ {T:Type}{P:T→Prop}{xs:List T}:(∀(j:Nat) (y:T),xs[j]? =some y→P y)↔∀y∈xs,P y:=by
 constructor
 ·intro h y hy
  obtain⟨j,hj,rfl⟩:=List.getElem_of_mem hy
  exact h j _ (List.getElem?_eq_getElem hj)
 ·intro h j y hy;exact h y (ke hy)
theorem Jp {T W:Type}{f:Int→Unit→Stp Unit W}(xs:List T){P:Nat→T→Prop}(h:∀(j:Nat) (y:T),xs[j]? =some y→(f (j:Int) ()= .next ()↔P j y)):aP f 1 (Int.toNat ((xs.length:Int)-0)) 0 ()= .next ()↔∀(j:Nat) (y:T),xs[j]? =some y→P j y:=by
 rw[aN,show(0:Int)=((0:Nat):Int) from rfl,u3]
 constructor
 ·intro h1 j y hy
  exact(h j y hy).1 (h1 j (Nat.zero_le _) (by have:=(List.getElem?_eq_some_iff.1 hy).1;omega))
 ·intro h1 j _ h2
  exact(h j xs[j] (List.getElem?_eq_getElem (by omega))).2 (h1 j _ (List.getElem?_eq_getElem (by omega)))
theorem Rp (t:Tabl)(l:Limi):cQ.f (t,l,())=true↔TO t l:=by
 have f1:=Jp t.conns (f:=λj a=>(eP t.conns t j a).nice) (P:=λj y=>CO y∧(t.conns.take j).any (λh=>j6 y.tuple h.tuple)=false) (λj y hy=>by
  simp only[PX,eP,af,getD_some hy,eM]
  rw[CM (λh:Conn=>j6 y.tuple h.tuple) t.conns j y hy (p6 _),←qi]
  cases aO.f (y,())<;>cases(t.conns.take j).any (λh=>j6 y.tuple h.tuple)<;>simp)
 have f2:=Jp t.waiting (f:=λj a=>(eX t.waiting t j a).nice) (P:=λj y=>y∈t.conns.map Conn.tuple∧(t.waiting.take j).any (λh=>j6 y h)=false) (λj y hy=>by
  simp only[PX,eX,af,getD_some hy,eM,qp,ac4]
  rw[CM (j6 y) t.waiting j y hy (p6 _),←vz]
  cases t.conns.any (λh=>j6 y h.tuple)<;>cases(t.waiting.take j).any (λh=>j6 y h)<;>simp)
 have f3:=Ap Conn.tuple t.conns
 have f4:=Ap (λx=>x) t.waiting
 rw[List.map_id']at f4
 have f5:aP (λj a=>(eP t.conns t j a).nice) 1 (Int.toNat ((t.conns.length:Int)-0)) 0 ()= .next ()↔(∀c∈t.conns,CO c)∧(t.conns.map Conn.tuple).Nodup:=by
  rw[f1,←f3,←wQ]
  exact⟨λh=>⟨λj y hy=>(h j y hy).1,λj y hy=>(h j y hy).2⟩,λh j y hy=>⟨h.1 j y hy,h.2 j y hy⟩⟩
 have f6:aP (λj a=>(eX t.waiting t j a).nice) 1 (Int.toNat ((t.waiting.length:Int)-0)) 0 ()= .next ()↔(∀w∈t.waiting,w∈t.conns.map Conn.tuple)∧t.waiting.Nodup:=by
  rw[f2,←f4,←wQ]
  exact⟨λh=>⟨λj y hy=>(h j y hy).1,λj y hy=>(h j y hy).2⟩,λh j y hy=>⟨h.1 j y hy,h.2 j y hy⟩⟩
 have e:cQ.f (t,l,())=true↔fL.f (l,())=true∧(t.conns.length:Int)≤l.conns∧(t.waiting.length:Int)≤l.waiting∧aP (λj a=>(eP t.conns t j a).nice) 1 (Int.toNat ((t.conns.length:Int)-0)) 0 ()= .next ()∧aP (λj a=>(eX t.waiting t j a).nice) 1 (Int.toNat ((t.waiting.length:Int)-0)) 0 ()= .next ():=by
  simp only[PX,cQ,fW,fO]
  rw[show((t.conns.length:Int)≤l.conns)↔decide (l.conns<(t.conns.length:Int))=false by simp,show((t.waiting.length:Int)≤l.waiting)↔decide (l.waiting<(t.waiting.length:Int))=false by simp]
  cases fL.f (l,())<;>cases decide (l.conns<(t.conns.length:Int))<;>cases decide (l.waiting<(t.waiting.length:Int))<;>cases aP (λj a=>(eP t.conns t j a).nice) 1 (Int.toNat ((t.conns.length:Int)-0)) 0 ()<;>cases aP (λj a=>(eX t.waiting t j a).nice) 1 (Int.toNat ((t.waiting.length:Int)-0)) 0 ()<;>simp[Stp.elim]
 rw[e,aeG,f5,f6]
 constructor
 ·rintro⟨h1,h2,h3,⟨h4,h5⟩,h6,h7⟩;exact⟨h1,h2,h3,h4,h5,h7,h6⟩
 ·rintro⟨h1,h2,h3,h4,h5,h7,h6⟩;exact⟨h1,h2,h3,⟨h4,h5⟩,h6,h7⟩
structure HO (xs:List Half):Prop where
 ok:∀h∈xs,sE h=true
 nd:(xs.map Half.tuple).Nodup
 len:xs.length≤64
theorem abN (xs:List Half):fk.f (xs,())=true↔HO xs:=by
 rw[QZ]
 have f3:=Ap Half.tuple xs
 constructor
 ·rintro⟨h1,h2⟩
  exact⟨wQ.1 λj y hy=>(h1 j y hy).1,f3.1 λj y hy=>(h1 j y hy).2,h2⟩
 ·rintro⟨h1,h2,h3⟩
  exact⟨λj y hy=>⟨h1 y (ke hy),f3.2 h2 j y hy⟩,h3⟩
structure DO (d:Door):Prop where
 port:ae.f (d.port,16,())=true
 c0:0≤d.clock
 c1:d.clock≤4294967295
 keys:eh.f (d.keys,())=true
 tab:TO d.table d.limits
 hal:HO d.halves
 nh:(d.halves.length:Int)≤d.limits.halves
 k0:0≤d.chal
 k1:d.chal≤d.limits.chal
 ap:∀h∈d.halves,h.tuple∉d.table.conns.map Conn.tuple
theorem ji (d:Door):bP.f (d,())=true↔DO d:=by
 have e:bP.f (d,())=true↔ae.f (d.port,16,())=true∧ae.f (d.clock,32,())=true∧eh.f (d.keys,())=true∧cQ.f (d.table,d.limits,())=true∧fk.f (d.halves,())=true∧(d.halves.length:Int)≤d.limits.halves∧(decide (0≤d.chal)&&decide (d.chal≤d.limits.chal))=true∧(d.halves.any (λh=>decide (0≤av.f (d.table,h.tuple,()))))=false:=by
  simp only[PX,bP,Kl,au]
  rw[show((d.halves.length:Int)≤d.limits.halves)↔decide (d.limits.halves<(d.halves.length:Int))=false by simp]
  generalize(decide (0≤d.chal)&&decide (d.chal≤d.limits.chal))=b1
  generalize decide (d.limits.halves<(d.halves.length:Int))=b2
  generalize(d.halves.any (λh=>decide (0≤av.f (d.table,h.tuple,()))))=b3
  cases ae.f (d.port,16,())<;>cases ae.f (d.clock,32,())<;>cases eh.f (d.keys,())<;>cases cQ.f (d.table,d.limits,())<;>cases fk.f (d.halves,())<;>cases b1<;>cases b2<;>cases b3<;>simp
 rw[e,Rp,abN,cb]
 simp only[Bool.and_eq_true,decide_eq_true_eq,eM,jU]
 have f:(d.halves.any λh=>d.table.conns.any λc=>j6 h.tuple c.tuple)=false↔∀h∈d.halves,h.tuple∉d.table.conns.map Conn.tuple:=by
  rw[List.any_eq_false]
  constructor
  ·intro h x hx hm;exact h x hx ((vz Conn.tuple _ _).2 hm)
  ·intro h x hx hm;exact h x hx ((vz Conn.tuple _ _).1 hm)
 rw[f]
 constructor
 ·rintro⟨h1,⟨h2,h2'⟩,h3,h4,h5,h6,⟨h7,h8⟩,h9⟩;exact⟨h1,h2,h2',h3,h4,h5,h6,h7,h8,h9⟩
 ·rintro⟨h1,h2,h2',h3,h4,h5,h6,h7,h8,h9⟩;exact⟨h1,⟨h2,h2'⟩,h3,h4,h5,h6,⟨h7,h8⟩,h9⟩
def mN (x:Recv):Int:=if x.done=true then 0 else 32-(x.data.length:Int)
theorem oi (x:Recv)(h:x.data.length≤32):0≤mN x∧mN x≤32:=by unfold mN;split<;>omega
structure RV (x:Recv):Prop where
 n0:0≤x.next
 n1:x.next≤4294967295
 dl:x.data.length≤32
 hl:x.held.length≤3
 f0: -1≤x.fin
 f1:x.fin≤mN x
 fz:x.fin≠0
 wk:∃b,ev (if x.fin= -1 then mN x else x.fin) 0 x.held=some b
 dn:x.done=true→x.held=[]∧x.fin= -1
theorem gD (x:Recv)(h:x.data.length≤32):bB.f (x,())=mN x:=by
 simp only[PX,bB]
 unfold mN
 rw[aq (by omega) (by omega)]
 cases x.done with
 |true=>rfl
 |false=>simp only[cond_false,Bool.false_eq_true,if_false];split<;>omega
theorem mf (x:Recv)(hs:be x.held):br.f (x,())=true↔RV x:=by
 simp only[PX,br,fa,cb]
 by_cases hn:0≤x.next∧x.next≤4294967295
 ·rw[decide_eq_true hn.1,decide_eq_true hn.2]
  by_cases hd:32<(x.data.length:Int)
  ·rw[decide_eq_true hd]
   exact⟨λh=>(by cases h),λh=>by have:=h.dl;omega⟩
  ·rw[decide_eq_false hd,gD x (by omega)]
   have hw:=oi x (by omega)
   simp only[Bool.and_self,Bool.not_true,cond_false]
   by_cases hl:3<(x.held.length:Int)
   ·rw[decide_eq_true hl]
    exact⟨λh=>(by cases h),λh=>by have:=h.hl;omega⟩
   ·rw[decide_eq_false hl,au]
    simp only[cond_false]
    by_cases hf: -1≤x.fin∧x.fin≤mN x
    ·rw[decide_eq_true hf.1,decide_eq_true hf.2]
     simp only[Bool.and_self,Bool.not_true,cond_false]
     by_cases h0:x.fin=0
     ·rw[show(x.fin==0)=true by simp[h0]]
      exact⟨λh=>(by cases h),λh=>absurd h0 h.fz⟩
     ·rw[show(x.fin==0)=false by simp[h0]]
      simp only[cond_false]
      have ed:(bif !x.done then true else bif ((x.held.length:Int)==0)then(x.fin== -1)else false)=true↔(x.done=true→x.held=[]∧x.fin= -1):=by
       cases x.done with
       |false=>simp
       |true=>
        cases hh:x.held with
        |nil=>simp
        |cons p r=>
         have:(((p::r).length:Int)==0)=false:=by
          rw[beq_eq_false_iff_ne];simp only[List.length_cons];omega
         rw[this];simp
      have k2:=XO x (if x.fin= -1 then mN x else x.fin) (by split<;>omega) (by split<;>omega) hs
      have fin:∀L:Int,L=(if x.fin= -1 then mN x else x.fin)→(Stp.elim (λ_=>bif !x.done then true else bif ((x.held.length:Int)==0)then(x.fin== -1)else false) (λ_=>false) (aP (λj a=>(dY L x.held j a).nice) 1 (Int.toNat ((x.held.length:Int)-0)) 0 0)=true↔RV x):=by
       intro L hL
       rw[hL]
       cases hp:ev (if x.fin= -1 then mN x else x.fin) 0 x.held with
       |some b=>
        rw[hp]at k2;simp only[]at k2
        rw[k2]
        simp only[Stp.elim]
        rw[ed]
        exact⟨λh=>⟨hn.1,hn.2,by omega,by omega,hf.1,hf.2,h0,⟨b,hp⟩,h⟩,λh=>h.dn⟩
       |none=>
        rw[hp]at k2;obtain⟨w,k2⟩:=k2
        rw[k2]
        simp only[Stp.elim]
        refine⟨λh=>(by cases h),λh=> ?_⟩
        obtain⟨b,hb⟩:=h.wk
        rw[hp]at hb;cases hb
      by_cases h1:x.fin= -1
      ·rw[show(x.fin != -1)=false by simp[h1]]
       exact fin (mN x) (by rw[if_pos h1])
      ·rw[show(x.fin != -1)=true by simp[h1]]
       exact fin x.fin (by rw[if_neg h1])
    ·have:(decide (-1≤x.fin)&&decide (x.fin≤mN x))=false:=by
      rw[Bool.and_eq_false_iff];simp only[decide_eq_false_iff_not];omega
     rw[this]
     exact⟨λh=>(by cases h),λh=>absurd ⟨h.f0,h.f1⟩ hf⟩
 ·have:(decide (0≤x.next)&&decide (x.next≤4294967295))=false:=by
   rw[Bool.and_eq_false_iff];simp only[decide_eq_false_iff_not];omega
  rw[this]
  exact⟨λh=>(by cases h),λh=>absurd ⟨h.n0,h.n1⟩ hn⟩
theorem CO.set {c:Conn}(h:CO c)(k t r:Int)(hk:k=c.state∨k=8)(t0:0≤t)(t4:t≤4)(t3:k≠7→t≤3)(r0:0≤r)(r3:r≤3):CO ({c with state:=k,timer:=t,tries:=r}:Conn):=by
 have h1:=h.s1
 have h8:=h.s8
 refine⟨h.tup,h.snd,h.rcv,h.opt, ?_, ?_,h.m0,h.m1,h.w0,h.w1,t0,t4,t3,r0,r3, ?_⟩
 ·show 1≤k;omega
 ·show k≤8;omega
 ·show Yq k c.s.fin c.s.done c.r.done=true
  rcases hk with rfl|rfl
  ·exact h.fl
  ·rfl
theorem Md (x:Sndr)(h:SO x):jM.f (x,())={x with sent:=0,finSent:=false}:=by
 simp only[PX,jM,(yZ x).2 h,Bool.not_true,cond_false]
theorem aba {x:Sndr}(h:SO x):SO ({x with sent:=0,finSent:=false}:Sndr):=by
 obtain⟨h1,h2,h3,h4,h5,h6,h7⟩:=h
 exact⟨h1,h2,h3,Int.le_refl _,by show(0:Int)≤_;omega,λh=>(by cases h),λhd=>⟨(h7 hd).1,rfl,(h7 hd).2.2⟩⟩
theorem ad7 (c:Conn)(h:CO c):CO (TC c).1∧(TC c).1.tuple=c.tuple∧(TC c).1.r=c.r:=by
 have hr:=FU h
 have h7:c.state≠7→lh c≤3:=by
  intro hn;have:=h.t3 hn
  unfold lh;rw[if_neg hn];split<;>omega
 have r0:=h.r0
 have r3:=h.r3
 unfold TC
 by_cases hw:nl.f (c,())=true
 ·rw[if_pos hw]
  by_cases c1:0<lh c-1
  ·rw[if_pos c1]
   exact⟨CO.set h c.state (lh c-1) c.tries (.inl rfl) (by omega) (by omega) (λhn=>by have:=h7 hn;omega) r0 r3,rfl,rfl⟩
  ·rw[if_neg c1]
   by_cases c2:c.state=7
   ·rw[if_pos c2]
    exact⟨CO.set h 8 0 0 (.inr rfl) (by omega) (by omega) (λ_=>by omega) (by omega) (by omega),rfl,rfl⟩
   ·rw[if_neg c2]
    by_cases c3:c.tries=3
    ·rw[if_pos c3]
     exact⟨CO.set h 8 0 0 (.inr rfl) (by omega) (by omega) (λ_=>by omega) (by omega) (by omega),rfl,rfl⟩
    ·rw[if_neg c3]
     have hc':CO ({c with s:=jM.f (c.s,()),timer:=0,tries:=c.tries+1}:Conn):=by
      rw[Md c.s h.snd]
      exact⟨h.tup,aba h.snd,h.rcv,h.opt,h.s1,h.s8,h.m0,h.m1,h.w0,h.w1,Int.le_refl _,by show(0:Int)≤4;omega,λ_=>by show(0:Int)≤3;omega,by show 0≤c.tries+1;omega,by show c.tries+1≤3;omega,h.fl⟩
     have hS:=E1 _ (if c.window=0 then 1 else c.window) hc'.snd
     have hp:=Sent.ok hS hc' (.inl (by
      rcases hS.tm with e|e
      ·rw[e];show(0:Int)≤3;omega
      ·rw[e];omega))
     refine⟨CO.set hp _ 3 _ (.inl rfl) (by omega) (by omega) (λ_=>by omega) hp.r0 hp.r3, ?_, ?_⟩
     ·have e:=congrArg Conn.tuple hS.re;exact e
     ·have e:=congrArg Conn.r hS.re;exact e
 ·rw[if_neg hw,if_pos ((qi c).2 h)]
  exact⟨CO.set h c.state 0 0 (.inl rfl) (by omega) (by omega) (λ_=>by omega) (by omega) (by omega),rfl,rfl⟩
theorem ac8 (xs:List Half)(h:HO xs):HO (pS xs):=by
 refine⟨?_, ?_, ?_⟩
 ·intro y hy
  unfold pS at hy
  rw[List.mem_map]at hy
  obtain⟨x,hx,rfl⟩:=hy
  rw[List.mem_filter]at hx
  have h1:=h.ok x hx.1
  have h2:x.age<6:=by simpa using hx.2
  unfold sE at h1⊢
  simp only[Bool.and_eq_true,decide_eq_true_eq]at h1⊢
  obtain⟨a1,a2,a3,a4,a5,a6,a7⟩:=h1
  rw[aq (by omega) (by omega)]
  exact⟨a1,a2,a3,a4,a5,by omega,by omega⟩
 ·have e:(pS xs).map Half.tuple=(xs.filter (λh=>decide (h.age<6))).map Half.tuple:=by
   unfold pS;rw[List.map_map];rfl
  rw[e]
  exact List.Nodup.sublist (List.Sublist.map _ (List.filter_sublist)) h.nd
 ·unfold pS
  rw[List.length_map]
  have:=List.length_filter_le (λh:Half=>decide (h.age<6)) xs
  have:=h.len
  omega
theorem Gy (xs:List Conn)(h:∀c∈xs,CO c):(ex xs).map Conn.tuple=xs.map Conn.tuple:=by
 unfold ex
 rw[List.map_map]
 apply List.map_congr_left
 intro c hc
 exact(ad7 c (h c hc)).2.1
theorem adD (t:Tabl)(l:Limi)(h:TO t l):TO (mh ⟨ex t.conns,t.waiting⟩) l:=by
 have hm:=Gy t.conns h.co
 have hl:(ex t.conns).length=t.conns.length:=by unfold ex;rw[List.length_map]
 refine⟨h.lim, ?_, ?_, ?_, ?_, ?_, ?_⟩
 ·have:=List.length_filter_le (lg ⟨ex t.conns,t.waiting⟩) (ex t.conns)
  have h2:=h.nc
  show((List.filter _ _).length:Int)≤_
  simp only[]at this⊢;omega
 ·have:=List.length_filter_le (mI ⟨ex t.conns,t.waiting⟩) t.waiting
  have h2:=h.nw
  show((List.filter _ _).length:Int)≤_
  simp only[]at this⊢;omega
 ·intro c hc
  have hc1:c∈ex t.conns:=(List.mem_filter.1 hc).1
  unfold ex at hc1
  rw[List.mem_map]at hc1
  obtain⟨x,hx,rfl⟩:=hc1
  exact(ad7 x (h.co x hx)).1
 ·refine List.Nodup.sublist (List.Sublist.map _ (List.filter_sublist)) ?_
  show((ex t.conns).map Conn.tuple).Nodup
  rw[hm];exact h.dc
 ·exact List.Nodup.sublist (List.filter_sublist) h.dw
 ·intro w hw
  have hw1:w∈t.waiting:=(List.mem_filter.1 hw).1
  have hw2:=h.wc w hw1
  rw[←hm,List.mem_map]at hw2
  obtain⟨c,hc,rfl⟩:=hw2
  rw[List.mem_map]
  refine⟨c,List.mem_filter.2 ⟨hc, ?_⟩,rfl⟩
  unfold lg
  have:t.waiting.any (j6 c.tuple)=true:=by
   rw[List.any_eq_true];exact⟨_,hw1,p6 _⟩
  simp only[this]
  cases(c.state != 8)<;>rfl
theorem acY (d:Door)(h:DO d):DO ({d with clock:=bK.f (d.clock,1,()),chal:=0,halves:=pS d.halves,table:=mh ⟨ex d.table.conns,d.table.waiting⟩}:Door):=by
 have k0:=h.k0
 have k1:=h.k1
 have hm:=Gy d.table.conns h.tab.co
 refine⟨h.port, ?_, ?_,h.keys,adD _ _ h.tab,ac8 _ h.hal, ?_,Int.le_refl _, ?_, ?_⟩
 ·show 0≤bK.f (d.clock,1,());rw[bt];omega
 ·show bK.f (d.clock,1,())≤4294967295;rw[bt];omega
 ·show((pS d.halves).length:Int)≤d.limits.halves
  unfold pS
  rw[List.length_map]
  have:=List.length_filter_le (λh:Half=>decide (h.age<6)) d.halves
  have:=h.nh
  omega
 ·show 0≤d.limits.chal;omega
 ·intro y hy hm2
  have hy2:∃x∈d.halves,x.tuple=y.tuple:=by
   have hy1:y∈pS d.halves:=hy
   unfold pS at hy1
   rw[List.mem_map]at hy1
   obtain⟨x,hx,rfl⟩:=hy1
   exact⟨x,(List.mem_filter.1 hx).1,rfl⟩
  obtain⟨x,hx,e⟩:=hy2
  refine h.ap x hx ?_
  rw[e,←hm]
  exact(List.Sublist.map Conn.tuple (List.filter_sublist (p:=lg ⟨ex d.table.conns,d.table.waiting⟩))).subset hm2
theorem Kz {h:Half}(hh:sE h=true):0≤h.age∧h.age≤6:=by
 unfold sE at hh
 simp only[Bool.and_eq_true,decide_eq_true_eq]at hh
 exact hh.2.2.2.2.2
def ud (p:Piec):Int:=p.off+(p.text.length:Int)
def N5:List Piec→Int→List Int→List Piec
 |out,_,[]=>out
 |out,i,s::r=>if s<0 then N5 out (i+1) r else
  match out.getLast? with
  |none=>N5 (out++[⟨i,aw [s]⟩]) (i+1) r
  |some p=>if ud p=i then N5 (out.dropLast++[⟨p.off,p.text++aw [s]⟩]) (i+1) r else N5 (out++[⟨i,aw [s]⟩]) (i+1) r
def cO:Nat→Int→List Int→List Piec
 |_,_,[]=>[]
 |0,_,_::_=>[]
 |k+1,i,s::r=>if s<0 then cO k (i+1) r else
  ⟨i,aw (s::r.takeWhile (λx=>decide (0≤x)))⟩::cO k (i+1+((r.takeWhile (λx=>decide (0≤x))).length:Int)) (r.dropWhile (λx=>decide (0≤x)))
theorem Gg (a b:List Int):aw (a++b)=aw a++aw b:=by simp[aw]
theorem Yw (out:List Piec)(o:Int)(x:aa):∀(t r:List Int) (x:aa),(∀s∈t,0≤s)→N5 (out++[⟨o,x⟩]) (o+(x.length:Int)) (t++r)=N5 (out++[⟨o,x++aw t⟩]) (o+(x.length:Int)+(t.length:Int)) r
 |[],r,x,_=>by simp[aw]
 |s::t,r,x,h=>by
  have hs:¬s<0:=by have:=h s (List.mem_cons_self ..);omega
  have ih:=Yw out o x t r (x++aw [s]) (λy hy=>h y (List.mem_cons_of_mem _ hy))
  simp only[List.cons_append,N5,if_neg hs,List.getLast?_append,List.getLast?_singleton,Option.some_or,ud,if_true,List.dropLast_concat]
  have e:o+(x.length:Int)+1=o+((x++aw [s]).length:Int):=by rw[List.length_append,bC];simp;omega
  rw[e,ih]
  rw[List.append_assoc,←Gg]
  congr 1
  rw[List.length_append,bC];simp;omega
theorem I9:∀(k:Nat) (out:List Piec) (i:Int) (r:List Int),r.length≤k→(∀p,out.getLast? =some p→ud p<i)→N5 out i r=out++cO k i r
 |_,out,i,[],_,_=>by simp[N5,cO]
 |0,_,_,_::_,h,_=>by simp at h
 |k+1,out,i,s::r,h,hl=>by
  simp only[List.length_cons]at h
  by_cases hs:s<0
  ·simp only[N5,cO,if_pos hs]
   exact I9 k out (i+1) r (by omega) (λp hp=>by have:=hl p hp;omega)
  ·have e0:N5 out i (s::r)=N5 (out++[⟨i,aw [s]⟩]) (i+1) r:=by
    simp only[N5,if_neg hs]
    cases hg:out.getLast? with
    |none=>rfl
    |some p=>simp only[if_neg (show¬ud p=i by have:=hl p hg;omega)]
   simp only[cO,if_neg hs]
   rw[e0]
   have hr:r=r.takeWhile (λx=>decide (0≤x))++r.dropWhile (λx=>decide (0≤x)):=(List.takeWhile_append_dropWhile).symm
   have hrun:=Yw out i (aw [s]) (r.takeWhile (λx=>decide (0≤x))) (r.dropWhile (λx=>decide (0≤x))) (aw [s]) (λy hy=>by
    have:=List.all_eq_true.1 (List.all_takeWhile (p:=λx:Int=>decide (0≤x)) (l:=r)) y hy;simpa using this)
   rw[←hr,show((aw [s]).length:Int)=1 by simp[bC]]at hrun
   rw[hrun,←Gg,List.singleton_append]
   generalize hT:r.takeWhile (λx=>decide (0≤x))=T at*
   generalize hD:r.dropWhile (λx=>decide (0≤x))=D at*
   have hDl:D.length≤k:=by
    have:=congrArg List.length hr
    rw[List.length_append]at this;omega
   cases D with
   |nil=>simp[N5,cO]
   |cons d D=>
    have hd:d<0:=by
     have:=List.head?_dropWhile_not (λx=>decide (0≤x)) r
     rw[hD]at this
     simp at this;omega
    cases k with
    |zero=>simp at hDl
    |succ k=>
     simp only[N5,cO,if_pos hd]
     simp only[List.length_cons]at hDl
     rw[I9 k _ _ D (by omega) (λp hp=>by
      simp only[List.getLast?_append,List.getLast?_singleton,Option.some_or,Option.some.injEq]at hp
      subst hp
      simp only[ud,bC,List.length_cons]
      omega)]
     simp
theorem uv {p:Int→Bool}:∀(r:List Int) (j:Nat),j<(r.takeWhile p).length→∃s,r[j]? =some s∧p s=true
 |[],j,h=>by simp at h
 |s::r,j,h=>by
  cases hp:p s with
  |false=>simp[List.takeWhile_cons,hp]at h
  |true=>
   cases j with
   |zero=>exact⟨s,rfl,hp⟩
   |succ j=>
    simp only[List.takeWhile_cons,hp,if_true,List.length_cons]at h
    obtain⟨t,h1,h2⟩:=uv (p:=p) r j (by omega)
    exact⟨t,by simpa using h1,h2⟩
theorem F5 (L:Int):∀(k:Nat) (i:Int) (r:List Int) (a:Int),r.length≤k→a<i→(∀(p:Nat) (s:Int),r[p]? =some s→0≤s→i+(p:Int)+1≤L)→∃b,ev L a (cO k i r)=some b
 |0,_,[],a,_,_,_=>⟨a,by simp[cO,ev]⟩
 |_+1,_,[],a,_,_,_=>⟨a,by simp[cO,ev]⟩
 |0,_,_::_,_,h,_,_=>by simp at h
 |k+1,i,s::r,a,h,ha,hL=>by
  simp only[List.length_cons]at h
  by_cases hs:s<0
  ·simp only[cO,if_pos hs]
   exact F5 L k (i+1) r a (by omega) (by omega) (λp t hp ht=>by
    have:=hL (p+1) t (by simpa using hp) ht;omega)
  ·simp only[cO,if_neg hs,ev]
   generalize hT:r.takeWhile (λx=>decide (0≤x))=T at*
   have hn:(aw (s::T)==[])=false:=by rw[beq_eq_false_iff_ne];simp[aw]
   have hend:i+((aw (s::T)).length:Int)≤L:=by
    rw[bC,List.length_cons]
    rcases Nat.eq_zero_or_pos T.length with h0|h0
    ·have:=hL 0 s rfl (by omega);omega
    ·obtain⟨t,h1,h2⟩:=uv (p:=λx:Int=>decide (0≤x)) r (T.length-1) (by rw[hT];omega)
     have:=hL (T.length-1+1) t (by simpa using h1) (by simpa using h2)
     omega
   rw[hn,decide_eq_false (show¬i≤a by omega),decide_eq_false (show¬L<i+((aw (s::T)).length:Int) by omega)]
   simp only[Bool.or_false,cond_false]
   have hr:r=T++r.dropWhile (λx=>decide (0≤x)):=by rw[←hT];exact(List.takeWhile_append_dropWhile).symm
   generalize hD:r.dropWhile (λx=>decide (0≤x))=D at*
   have hDl:D.length≤k:=by
    have:=congrArg List.length hr
    rw[List.length_append]at this;omega
   cases D with
   |nil=>exact⟨_,by simp[cO,ev];rfl⟩
   |cons d D=>
    have hd:d<0:=by
     have:=List.head?_dropWhile_not (λx=>decide (0≤x)) r
     rw[hD]at this
     simp at this;omega
    cases k with
    |zero=>simp at hDl
    |succ k=>
     simp only[cO,if_pos hd]
     simp only[List.length_cons]at hDl
     rw[bC,List.length_cons]
     exact F5 L k _ D _ (by omega) (by omega) (λp t hp ht=>by
      have:=hL (1+T.length+(p+1)) t (by
       rw[hr,show 1+T.length+(p+1)=(T.length+(p+1))+1 by omega,List.getElem?_cons_succ,List.getElem?_append_right (by omega),show T.length+(p+1)-T.length=p+1 by omega]
       simpa using hp) ht
      omega)
theorem L1:∀(k:Nat) (i:Int) (r:List Int),(∀s∈r,s<0)→cO k i r=[]
 |0,_,[],_=>by simp[cO]
 |0,_,_::_,_=>by simp[cO]
 |_+1,_,[],_=>by simp[cO]
 |k+1,i,s::r,h=>by
  simp only[cO,if_pos (h s (List.mem_cons_self ..))]
  exact L1 k (i+1) r (λt ht=>h t (List.mem_cons_of_mem _ ht))
def aK (sl:List Int):Nat:=(sl.takeWhile (λx=>decide (0≤x))).length
theorem tC (sl:List Int)(j:Nat)(h:j<aK sl):∃s,sl[j]? =some s∧0≤s:=by
 obtain⟨s,h1,h2⟩:=uv (p:=λx:Int=>decide (0≤x)) sl j h
 exact⟨s,h1,by simpa using h2⟩
theorem Ft (sl:List Int)(s:Int)(h:sl[aK sl]? =some s):s<0:=by
 unfold aK at h
 have e:sl=sl.takeWhile (λx=>decide (0≤x))++sl.dropWhile (λx=>decide (0≤x)):=(List.takeWhile_append_dropWhile).symm
 have h2:(sl.dropWhile (λx=>decide (0≤x)))[0]? =some s:=by
  have h3:=h
  rw[e,List.getElem?_append_right (by rw[←e];exact Nat.le_refl _)]at h3
  rw[←e,Nat.sub_self]at h3
  exact h3
 have:=List.head?_dropWhile_not (λx:Int=>decide (0≤x)) sl
 rw[List.head?_eq_getElem?,h2]at this
 simp at this;omega
def Vx (x:Recv)(sl:List Int)(F:Int):Recv:=
 if 3<(cO 33 0 (sl.drop (aK sl))).length then x
 else if F-(aK sl:Int)=0 then⟨(x.next+(aK sl:Int)+1)%4294967296,x.data++aw (sl.take (aK sl)),cO 33 0 (sl.drop (aK sl)),-1,true⟩
 else⟨(x.next+(aK sl:Int))%4294967296,x.data++aw (sl.take (aK sl)),cO 33 0 (sl.drop (aK sl)),if F= -1 then-1 else F-(aK sl:Int),x.done⟩
theorem Yl (x:Recv)(sl:List Int)(F:Int)(hx:RV x)(hd:x.done=false)(hl:sl.length=33)(h0: -1≤F)(hF:F≤mN x)(hz:∀(k:Nat) (s:Int),sl[k]? =some s→0≤s→(k:Int)<(if F= -1 then mN x else F)):RV (Vx x sl F):=by
 have hw:mN x=32-(x.data.length:Int):=by unfold mN;rw[hd];rfl
 have hdl:=hx.dl
 have hn:(aK sl:Int)≤(if F= -1 then mN x else F):=by
  rcases Nat.eq_zero_or_pos (aK sl)with h|h
  ·rw[h];split<;>omega
  ·obtain⟨s,h1,h2⟩:=tC sl (aK sl-1) (by omega)
   have:=hz _ s h1 h2
   omega
 have hn2:(aK sl:Int)≤mN x:=by split at hn<;>omega
 have htk:(sl.take (aK sl)).length=aK sl:=by rw[List.length_take];omega
 have hdd:∀(p:Nat) (s:Int),(sl.drop (aK sl))[p]? =some s→0≤s→(p:Int)+1≤(if F= -1 then mN x else F)-(aK sl:Int)∧0<p:=by
  intro p s hp hs
  rw[List.getElem?_drop]at hp
  have h1:=hz _ s hp hs
  refine⟨by omega, ?_⟩
  rcases Nat.eq_zero_or_pos p with h|h
  ·subst h
   have:=Ft sl s (by simpa using hp)
   omega
  ·exact h
 have hwk:∃b,ev ((if F= -1 then mN x else F)-(aK sl:Int)) 0 (cO 33 0 (sl.drop (aK sl)))=some b:=by
  cases hD:sl.drop (aK sl)with
  |nil=>exact⟨0,by simp[cO,ev]⟩
  |cons d D=>
   have hd0:d<0:=by
    apply Int.not_le.1
    intro h
    have:=(hdd 0 d (by rw[hD];rfl) h).2
    omega
   have hDl:D.length≤32:=by
    have:=congrArg List.length hD
    rw[List.length_drop,List.length_cons]at this;omega
   show∃b,ev _ 0 (cO (32+1) 0 (d::D))=some b
   simp only[cO,if_pos hd0]
   exact F5 _ 32 (0+1) D 0 hDl (by omega) (λp s hp hs=>by
    have:=(hdd (p+1) s (by rw[hD];simpa using hp) hs).1
    omega)
 unfold Vx
 by_cases h3:3<(cO 33 0 (sl.drop (aK sl))).length
 ·rw[if_pos h3];exact hx
 ·rw[if_neg h3]
  by_cases h4:F-(aK sl:Int)=0
  ·rw[if_pos h4]
   have hne:∀s∈sl.drop (aK sl),s<0:=by
    intro s hs
    obtain⟨p,hp,rfl⟩:=List.getElem_of_mem hs
    apply Int.not_le.1
    intro h
    have:=(hdd p _ (List.getElem?_eq_getElem hp) h).1
    have hm1:F≠-1:=by omega
    rw[if_neg hm1]at this
    omega
   rw[L1 _ _ _ hne]
   refine⟨by show 0≤(x.next+(aK sl:Int)+1)%4294967296;omega,by show(x.next+(aK sl:Int)+1)%4294967296≤4294967295;omega, ?_,Nat.zero_le _,Int.le_refl _, ?_,by show(-1:Int)≠0;omega,⟨0,by simp[ev]⟩,λ_=>⟨rfl,rfl⟩⟩
   ·show(x.data++aw (sl.take (aK sl))).length≤32
    rw[List.length_append,bC,htk];omega
   ·show(-1:Int)≤mN _
    unfold mN;rw[if_pos rfl];omega
  ·rw[if_neg h4]
   have hlen:(x.data++aw (sl.take (aK sl))).length=x.data.length+aK sl:=by rw[List.length_append,bC,htk]
   have hwin:∀(nx:Int) (hh:List Piec) (f:Int),mN ⟨nx,x.data++aw (sl.take (aK sl)),hh,f,x.done⟩=mN x-(aK sl:Int):=by
    intro nx hh f
    unfold mN
    simp only[hd,Bool.false_eq_true,if_false,hlen]
    omega
   refine⟨by show 0≤(x.next+(aK sl:Int))%4294967296;omega,by show(x.next+(aK sl:Int))%4294967296≤4294967295;omega,by show(x.data++aw (sl.take (aK sl))).length≤32;omega,by show(cO 33 0 (sl.drop (aK sl))).length≤3;omega, ?_, ?_, ?_, ?_,λh=>by rw[show({next:=(x.next+(aK sl:Int))%4294967296,data:=x.data++aw (sl.take (aK sl)),held:=cO 33 0 (sl.drop (aK sl)),fin:=if F= -1 then-1 else F-(aK sl:Int),done:=x.done}:Recv).done=x.done from rfl,hd]at h;cases h⟩
   ·show-1≤(if F= -1 then-1 else F-(aK sl:Int))
    split
    ·omega
    ·rename_i hm;rw[if_neg hm]at hn;omega
   ·show(if F= -1 then-1 else F-(aK sl:Int))≤mN _
    rw[hwin]
    split<;>omega
   ·show(if F= -1 then-1 else F-(aK sl:Int))≠0
    split<;>omega
   ·show∃b,ev (if(if F= -1 then-1 else F-(aK sl:Int))= -1 then mN _ else(if F= -1 then-1 else F-(aK sl:Int))) 0 (cO 33 0 (sl.drop (aK sl)))=some b
    rw[hwin]
    by_cases hm:F= -1
    ·simp only[if_pos hm]at hwk⊢
     exact hwk
    ·rw[if_neg hm]at hn
     simp only[if_neg hm]at hwk⊢
     rw[if_neg (show¬F-(aK sl:Int)= -1 by omega)]
     exact hwk
def rM:List Int→Nat→aa→List Int
 |sl,_,[]=>sl
 |sl,o,b::t=>rM (sl.set o (b.toNat:Int)) (o+1) t
theorem Mn:∀(t:aa) (sl:List Int) (o:Nat),(rM sl o t).length=sl.length
 |[],_,_=>rfl
 |_::t,sl,o=>by simp only[rM,Mn t,List.length_set]
def o9 (held:List Piec):List Int:=held.foldl (λsl p=>rM sl p.off.toNat p.text) (List.replicate 33 (-1))
theorem jH (t:aa)(k:Nat)(hk:k<t.length):ai t k=(t[k].toNat:Int):=by
 simp[ai,List.getD,hk]
theorem qX (b:UInt8):(b.toNat:Int)≤255:=by have:=b.toNat_lt;omega
theorem YW (p:Piec)(h1:1≤p.off)(h2:p.off+(p.text.length:Int)≤32){f:Int×List Int→Stp (Int×List Int) (List Int)}(hf:∀(k:Nat) sl,f ((k:Int),sl)=bif decide ((k:Int)<(p.text.length:Int))then .next (IntKind.wrap .i64 ((k:Int)+1),sl.set (IntKind.wrap .i64 (p.off+(k:Int))).toNat (IntKind.wrap .i64 (ai p.text k)))else .out sl):∀(n k:Nat) (sl:List Int),k+n=p.text.length→cl f (n+1) ((k:Int),sl)=rM sl (p.off.toNat+k) (p.text.drop k)
 |0,k,sl,h=>by
  simp only[cl,hf,decide_eq_false (show¬(k:Int)<(p.text.length:Int) by omega),cond_false,Stp.elim]
  rw[List.drop_of_length_le (by omega)]
  rfl
 |n+1,k,sl,h=>by
  have hk:k<p.text.length:=by omega
  rw[cl]
  simp only[hf,decide_eq_true (show(k:Int)<(p.text.length:Int) by omega),cond_true,Stp.elim]
  rw[aq (m:=p.off+(k:Int)) (by omega) (by omega),aq (m:=(k:Int)+1) (by omega) (by omega),jH _ _ hk,aq (by omega) (by have:=qX p.text[k];omega)]
  rw[show(k:Int)+1=((k+1:Nat):Int) by omega,show(p.off+(k:Int)).toNat=p.off.toNat+k by omega]
  rw[YW p h1 h2 hf n (k+1) _ (by omega),List.drop_eq_getElem_cons hk]
  rfl
theorem Xa (x:Recv)(h:dg po x.held):wD.f (x,())=o9 x.held:=by
 have e0:aP (λj a=>(xz j a).nice) 1 (Int.toNat (((List.replicate 33 (0:Int)).length:Int)-0)) 0 (List.replicate 33 (0:Int))= .next (List.replicate 33 (-1)):=by rfl
 simp only[PX,wD,cr,fg]
 rw[e0]
 simp only[Stp.elim]
 rw[aN,cS x.held _ rfl (F:=λ_ p (a:List Int)=> .next (rM a p.off.toNat p.text)) (by
  intro j p a hp
  have hpo:=h p (ke hp)
  unfold po at hpo
  have:=YW p hpo.1 hpo.2 (f:=λa=>(m8 (j:Int) x a).nice) (λk sl=>by
   simp only[m8,PX,af,getD_some hp]) p.text.length 0 a (by omega)
  simp only[PX,xG,d8,af,getD_some hp]
  rw[show Int.toNat ((p.text.length:Int)-0)=p.text.length by omega]
  exact congrArg Stp.next this)]
 have:∀(r:List Piec) (j:Nat) (a:List Int),fP (W:=Empty) (λ_ p (a:List Int)=> .next (rM a p.off.toNat p.text)) j r a= .next (r.foldl (λsl p=>rM sl p.off.toNat p.text) a):=by
  intro r
  induction r with
  |nil=>intro j a;rfl
  |cons p r ih=>intro j a;simp only[fP,Stp.elim,ih,List.foldl_cons]
 rw[this]
 simp only[Stp.elim]
 rfl
theorem adR {m:Int}(h0:0≤m)(h1:m≤255):IntKind.wrap .u8 m=m:=by
 rw[rz];omega
def CB (x:Recv)(seq w:Int)(sl:List Int)(j:Nat)(b:UInt8):List Int:=
 if(seq+(j:Int)-x.next)%4294967296<w∧(x.fin<0∨(seq+(j:Int)-x.next)%4294967296<x.fin)∧sl.getD ((seq+(j:Int)-x.next)%4294967296).toNat 0<0 then sl.set ((seq+(j:Int)-x.next)%4294967296).toNat (b.toNat:Int)else sl
def AI (x:Recv)(seq w:Int):List Int→Nat→aa→List Int
 |sl,_,[]=>sl
 |sl,j,b::t=>AI x seq w (CB x seq w sl j b) (j+1) t
theorem abA (x:Recv)(seq w:Int)(sl:List Int)(j:Nat)(b:UInt8):(CB x seq w sl j b).length=sl.length:=by
 unfold CB;split<;>simp
theorem UO (x:Recv)(seq w:Int):∀(t:aa) (sl:List Int) (j:Nat),(AI x seq w sl j t).length=sl.length
 |[],_,_=>rfl
 |b::t,sl,j=>by simp only[AI,UO x seq w t,abA]
theorem YJ (a n:Int):((a%4294967296)-n)%4294967296=(a-n)%4294967296:=by omega
theorem Ok {A W:Type}(z:A→A)(g:List Int→Nat→UInt8→List Int):∀(t:aa) (j:Nat) (r:A) (sl:List Int),∃r2,fP (W:=W) (λj b (a:A×List Int)=> .next (z a.1,g a.2 j b)) j t (r,sl)= .next (r2,(t.foldl (λ(p:List Int×Nat) b=>(g p.1 p.2 b,p.2+1)) (sl,j)).1)
 |[],j,r,sl=>⟨r,rfl⟩
 |b::t,j,r,sl=>by
  obtain⟨r2,e⟩:=Ok z g t (j+1) (z r) (g sl j b)
  refine⟨r2, ?_⟩
  simp only[fP,Stp.elim,List.foldl_cons]
  exact e
theorem OO (x:Recv)(seq w:Int):∀(t:aa) (sl:List Int) (j:Nat),(t.foldl (λ(p:List Int×Nat) b=>(CB x seq w p.1 p.2 b,p.2+1)) (sl,j)).1=AI x seq w sl j t
 |[],_,_=>rfl
 |b::t,sl,j=>by simp only[List.foldl_cons,AI,OO x seq w t]
theorem afu (x:Recv)(seq w:Int)(t:aa)(hn:0≤x.next∧x.next≤4294967295)(ht:t.length≤4294967296)(r:Recv)(sl:List Int):∃r2,aP (λj a=>(r7 seq t w x j a).nice) 1 (Int.toNat ((t.length:Int)-0)) 0 (r,sl)= .next (r2,AI x seq w sl 0 t):=by
 obtain⟨r2,e⟩:=Ok (W:=Empty) (λr:Recv=>({r with held:=[]}:Recv)) (CB x seq w) t 0 r sl
 refine⟨r2, ?_⟩
 rw[aN,cS t _ rfl (F:=λj b (a:Recv×List Int)=> .next (({a.1 with held:=[]}:Recv),CB x seq w a.2 j b)) (by
  intro j b a hb
  have hbt:ai t j=(b.toNat:Int):=by simp[ai,List.getD,hb]
  have hb8:=qX b
  have e1:(IntKind.wrap .i64 ((seq+(j:Int))%4294967296-x.next))%4294967296=(seq+(j:Int)-x.next)%4294967296:=by
   rw[aq (by omega) (by omega),YJ]
  simp only[PX,r7,iH,bt,mG,af,hbt,e1]
  rw[aq (by omega) (by omega)]
  unfold CB
  generalize(seq+(j:Int)-x.next)%4294967296=o
  by_cases c1:o<w
  ·by_cases c2:x.fin<0
   ·by_cases c3:a.2.getD o.toNat 0<0
    ·simp only[decide_eq_true c1,decide_eq_true c2,decide_eq_true c3,cond_true,if_pos (show o<w∧(x.fin<0∨o<x.fin)∧a.2.getD o.toNat 0<0 from⟨c1,.inl c2,c3⟩)]
    ·simp only[decide_eq_true c1,decide_eq_true c2,decide_eq_false c3,cond_true,cond_false,if_neg (show¬(o<w∧(x.fin<0∨o<x.fin)∧a.2.getD o.toNat 0<0) from λh=>c3 h.2.2)]
   ·by_cases c4:o<x.fin
    ·by_cases c3:a.2.getD o.toNat 0<0
     ·simp only[decide_eq_true c1,decide_eq_false c2,decide_eq_true c4,decide_eq_true c3,cond_true,cond_false,if_pos (show o<w∧(x.fin<0∨o<x.fin)∧a.2.getD o.toNat 0<0 from⟨c1,.inr c4,c3⟩)]
     ·simp only[decide_eq_true c1,decide_eq_false c2,decide_eq_true c4,decide_eq_false c3,cond_true,cond_false,if_neg (show¬(o<w∧(x.fin<0∨o<x.fin)∧a.2.getD o.toNat 0<0) from λh=>c3 h.2.2)]
    ·simp only[decide_eq_true c1,decide_eq_false c2,decide_eq_false c4,cond_true,cond_false,if_neg (show¬(o<w∧(x.fin<0∨o<x.fin)∧a.2.getD o.toNat 0<0) from λh=>h.2.1.elim c2 c4)]
  ·simp only[decide_eq_false c1,cond_false,if_neg (show¬(o<w∧(x.fin<0∨o<x.fin)∧a.2.getD o.toNat 0<0) from λh=>c1 h.1)])]
 rw[e,OO]
theorem aaI (sl:List Int)(e:Nat)(he:e≤sl.length):vc.f (sl,(e:Int),())=(sl.drop e).all (λs=>decide (s<0)):=by
 have key:∀(n j:Nat),j+n=sl.length→aP (λj a=>(nB sl j a).nice) 1 n (j:Int) ()=bif (sl.drop j).all (λs=>decide (s<0))then .next ()else .out ():=by
  intro n
  induction n with
  |zero=>intro j h;rw[List.drop_of_length_le (by omega)];rfl
  |succ n ih=>
   intro j h
   have hj:j<sl.length:=by omega
   have ih:=ih (j+1) (by omega)
   rw[List.drop_eq_getElem_cons hj,List.all_cons]
   simp only[nB,PX]at ih
   simp only[aP,nB,PX,af,getD_some (List.getElem?_eq_getElem hj)]
   by_cases h0:0≤sl[j]
   ·rw[decide_eq_true h0,decide_eq_false (show¬sl[j]<0 by omega)];rfl
   ·rw[decide_eq_false h0,decide_eq_true (show sl[j]<0 by omega)]
    simp only[cond_false,Stp.elim,Bool.true_and]
    rw[show(j:Int)+1=((j+1:Nat):Int) by omega]
    exact ih
 simp only[PX,vc,od]
 rw[show Int.toNat ((sl.length:Int)-(e:Int))=sl.length-e by omega,key _ _ (by omega)]
 cases(sl.drop e).all (λs=>decide (s<0))<;>rfl
theorem acd (sl:List Int)(hr:∀s∈sl,s≤255)(hl:aK sl<sl.length):∀(n j:Nat) (r:Recv),j+n=aK sl→aP (λj a=>(kE sl j a).nice) 1 (sl.length-j) (j:Int) (r,sl.take j)= .out ((aK sl:Int),({r with held:=[]}:Recv),sl.take (aK sl))
 |0,j,r,h=>by
  have hj:j=aK sl:=by omega
  subst hj
  have hg:=List.getElem?_eq_getElem hl
  have h0:=Ft sl _ hg
  rw[show sl.length-aK sl=(sl.length-aK sl-1)+1 by omega]
  simp only[aP,kE,PX,af,getD_some hg,decide_eq_false (show¬0≤sl[aK sl] by omega),cond_false,Stp.elim]
 |n+1,j,r,h=>by
  obtain⟨s,hs1,q0⟩:=tC sl j (by omega)
  have hj:j<sl.length:=by omega
  have ih:=acd sl hr hl n (j+1) ({r with held:=[]}:Recv) (by omega)
  have hs3:=hr s (ke hs1)
  rw[show sl.length-j=(sl.length-(j+1))+1 by omega]
  rw[List.take_succ_eq_append_getElem hj]at ih
  have he:sl[j]=s:=by rw[List.getElem?_eq_getElem hj]at hs1;exact Option.some.inj hs1
  rw[he]at ih
  simp only[kE,PX]at ih
  simp only[aP,kE,PX,af,getD_some hs1,decide_eq_true q0,cond_true,Stp.elim]
  rw[adR q0 hs3,show(j:Int)+1=((j+1:Nat):Int) by omega]
  exact ih
theorem adN (x:Recv)(seq w:Int)(sl:List Int)(j:Nat)(b:UInt8)(k:Nat)(s:Int)(h:(CB x seq w sl j b)[k]? =some s):sl[k]? =some s∨(s=(b.toNat:Int)∧(k:Int)<w∧(x.fin<0∨(k:Int)<x.fin)):=by
 unfold CB at h
 generalize ho:(seq+(j:Int)-x.next)%4294967296=o at h
 have h0:0≤o:=by omega
 split at h
 ·rename_i hc
  rw[List.getElem?_set]at h
  split at h
  ·rename_i hk
   split at h
   ·refine .inr ⟨(Option.some.inj h).symm,by omega, ?_⟩
    rcases hc.2.1 with h2|h2
    ·exact .inl h2
    ·exact .inr (by omega)
   ·cases h
  ·exact .inl h
 ·exact .inl h
theorem YR (x:Recv)(seq w:Int):∀(t:aa) (sl:List Int) (j:Nat) (k:Nat) (s:Int),(AI x seq w sl j t)[k]? =some s→sl[k]? =some s∨(0≤s∧s≤255∧(k:Int)<w∧(x.fin<0∨(k:Int)<x.fin))
 |[],_,_,_,_,h=> .inl h
 |b::t,sl,j,k,s,h=>by
  rcases YR x seq w t _ (j+1) k s h with h1|h1
  ·rcases adN x seq w sl j b k s h1 with h2|⟨h2,h3,h4⟩
   ·exact .inl h2
   ·exact .inr ⟨by omega,by have:=qX b;omega,h3,h4⟩
  ·exact .inr h1
theorem YQ:∀(t:aa) (sl:List Int) (o k:Nat) (s:Int),(rM sl o t)[k]? =some s→sl[k]? =some s∨(0≤s∧s≤255∧o≤k∧k<o+t.length)
 |[],_,_,_,_,h=> .inl h
 |b::t,sl,o,k,s,h=>by
  simp only[rM]at h
  rcases YQ t _ (o+1) k s h with h1|⟨h1,h2,h3,h4⟩
  ·rw[List.getElem?_set]at h1
   split at h1
   ·rename_i hk
    split at h1
    ·have e:=(Option.some.inj h1).symm
     exact .inr ⟨by omega,by have:=qX b;omega,by omega,by simp only[List.length_cons];omega⟩
    ·cases h1
   ·exact .inl h1
  ·exact .inr ⟨h1,h2,by omega,by simp only[List.length_cons];omega⟩
theorem Vg (L:Int):∀(held:List Piec) (a b:Int) (sl:List Int),0≤a→ev L a held=some b→a≤L→∀(k:Nat) (s:Int),(held.foldl (λsl p=>rM sl p.off.toNat p.text) sl)[k]? =some s→sl[k]? =some s∨(0≤s∧s≤255∧(k:Int)<L)
 |[],_,_,_,_,_,_,_,_,h=> .inl h
 |p::r,a,b,sl,h0,hw,ha,k,s,h=>by
  simp only[ev]at hw
  cases hc:((p.text==[])||decide (p.off≤a)||decide (L<p.off+(p.text.length:Int)))with
  |true=>rw[hc]at hw;cases hw
  |false=>
   rw[hc]at hw
   simp only[Bool.or_eq_false_iff,decide_eq_false_iff_not]at hc
   simp only[List.foldl_cons]at h
   rcases Vg L r _ b _ (by omega) hw (by omega) k s h with h1|h1
   ·rcases YQ p.text sl p.off.toNat k s h1 with h2|⟨h2,h3,h4,h5⟩
    ·exact .inl h2
    ·exact .inr ⟨h2,h3,by omega⟩
   ·exact .inr h1
theorem rQ:∀(held:List Piec) (sl:List Int),(held.foldl (λsl p=>rM sl p.off.toNat p.text) sl).length=sl.length
 |[],_=>rfl
 |p::r,sl=>by simp only[List.foldl_cons,rQ r,Mn]
theorem KH (x:Recv)(hx:RV x)(seq:Int)(t:aa):(AI x seq (mN x) (o9 x.held) 0 t).length=33∧∀(k:Nat) (s:Int),(AI x seq (mN x) (o9 x.held) 0 t)[k]? =some s→-1≤s∧s≤255∧(0≤s→(k:Int)<(if x.fin= -1 then mN x else x.fin)):=by
 have hw:=oi x hx.dl
 have hf0:=hx.f0
 have hf1:=hx.f1
 have hfz:=hx.fz
 refine⟨by rw[UO];unfold o9;rw[rQ];rfl,λk s h=> ?_⟩
 rcases YR x seq (mN x) t _ 0 k s h with h1|⟨h1,h2,h3,h4⟩
 ·obtain⟨b,hb⟩:=hx.wk
  unfold o9 at h1
  rcases Vg _ x.held 0 b _ (Int.le_refl _) hb (by split<;>omega) k s h1 with h2|⟨h2,h3,h4⟩
  ·have:s= -1:=by
    have hm:=List.mem_of_getElem? h2
    exact List.eq_of_mem_replicate hm
   omega
  ·exact⟨by omega,h3,λ_=>h4⟩
 ·refine⟨by omega,h2,λ_=> ?_⟩
  split
  ·exact h3
  ·rcases h4 with h5|h5<;>omega
theorem Uo (sl:List Int)(hr:∀s∈sl,s≤255)(hl:sl.length=33)(n:Nat):∀(m j:Nat) (a:List Piec),n≤j→j+m=33→a.length≤33→(∀p,a.getLast? =some p→0≤p.off∧ud p≤(j:Int)-(n:Int))→a.length+m≤33→aP (λj a=>(cD sl (n:Int) j a).nice) 1 m (j:Int) a= .next (N5 a ((j:Int)-(n:Int)) (sl.drop j))
 |0,j,a,h1,h2,_,_,_=>by rw[List.drop_of_length_le (by omega)];simp only[aP,N5]
 |m+1,j,a,h1,h2,h3,h4,h5=>by
  have hj:j<sl.length:=by omega
  have hs:=List.getElem?_eq_getElem hj
  have hs8:=hr _ (ke hs)
  rw[List.drop_eq_getElem_cons hj]
  generalize sl[j]=s at hs hs8⊢
  have ej:(j:Int)+1=((j+1:Nat):Int):=by omega
  have en:(j:Int)-(n:Int)+1=((j+1:Nat):Int)-(n:Int):=by omega
  by_cases h0:s<0
  ·have ih:=Uo sl hr hl n m (j+1) a (by omega) (by omega) h3 (λp hp=>by have:=h4 p hp;omega) (by omega)
   simp only[PX,cD]at ih
   simp only[aP,PX,cD,af,getD_some hs,decide_eq_true h0,cond_true,Stp.elim,N5,if_pos h0]
   rw[ej,en]
   exact ih
  ·have hw8:IntKind.wrap .u8 s=s:=adR (by omega) hs8
   rcases List.eq_nil_or_concat a with rfl|⟨b,p,rfl⟩
   ·have ih:=Uo sl hr hl n m (j+1) [⟨(j:Int)-(n:Int),aw [s]⟩] (by omega) (by omega) (by simp) (λp hp=>by
     simp only[List.getLast?_singleton,Option.some.injEq]at hp
     subst hp
     simp only[ud,bC,List.length_singleton];omega) (by simp;omega)
    simp only[PX,cD]at ih
    have e0:decide (0<(([]:List Piec).length:Int))=false:=by simp
    simp only[aP,PX,cD,af,getD_some hs,decide_eq_false h0,cond_false,Stp.elim,N5,if_neg h0,e0,List.getLast?_nil,hw8,List.nil_append]
    rw[ej,en,aq (m:=(j:Int)-(n:Int)) (by omega) (by omega)]
    exact ih
   ·simp only[List.concat_eq_append]at*
    have hp:=h4 p (by simp)
    have hbl:(b++[p]).length=b.length+1:=by simp
    have e0:decide (0<((b++[p]).length:Int))=true:=by rw[decide_eq_true_iff,hbl];omega
    have e1:(IntKind.wrap .i64 (((b++[p]).length:Int)-1)).toNat=b.length:=by rw[hbl,aq (by omega) (by omega)];omega
    have e2:(b++[p]).getD b.length (Ty.zero .piec)=p:=by simp[List.getD]
    have e3:∀q,(b++[p]).set b.length q=b++[q]:=λq=>by simp
    have hoff:=hp.1
    have hend:=hp.2
    unfold ud at hend
    by_cases he:ud p=(j:Int)-(n:Int)
    ·have ih:=Uo sl hr hl n m (j+1) (b++[⟨p.off,p.text++aw [s]⟩]) (by omega) (by omega) (by simp at h3⊢;omega) (λq hq=>by
      simp only[List.getLast?_append,List.getLast?_singleton,Option.some_or,Option.some.injEq]at hq
      subst hq
      unfold ud at he
      simp only[ud,List.length_append,bC,List.length_singleton];omega) (by simp at h5⊢;omega)
     simp only[PX,cD]at ih
     have e4:(IntKind.wrap .i64 (p.off+(p.text.length:Int))==IntKind.wrap .i64 ((j:Int)-(n:Int)))=true:=by
      unfold ud at he
      rw[he];exact beq_self_eq_true _
     simp only[aP,PX,cD,af,getD_some hs,decide_eq_false h0,cond_false,Stp.elim,N5,if_neg h0,e0,e1,e2,e3,e4,cond_true,hw8,List.getLast?_append,List.getLast?_singleton,Option.some_or,if_pos he,List.dropLast_concat]
     rw[ej,en]
     exact ih
    ·have ih:=Uo sl hr hl n m (j+1) (b++[p]++[⟨(j:Int)-(n:Int),aw [s]⟩]) (by omega) (by omega) (by simp at h3 h5⊢;omega) (λq hq=>by
      simp only[List.getLast?_append,List.getLast?_singleton,Option.some_or,Option.some.injEq]at hq
      subst hq
      simp only[ud,bC,List.length_singleton];omega) (by simp at h5⊢;omega)
     simp only[PX,cD]at ih
     have e4:(IntKind.wrap .i64 (p.off+(p.text.length:Int))==IntKind.wrap .i64 ((j:Int)-(n:Int)))=false:=by
      unfold ud at he
      rw[aq (by omega) (by omega),aq (by omega) (by omega),beq_eq_false_iff_ne];exact he
     simp only[aP,PX,cD,af,getD_some hs,decide_eq_false h0,cond_false,Stp.elim,N5,if_neg h0,e0,e1,e2,e4,cond_true,hw8,List.getLast?_append,List.getLast?_singleton,Option.some_or,if_neg he]
     rw[ej,en,aq (m:=(j:Int)-(n:Int)) (by omega) (by omega)]
     exact ih
theorem Ha (sl:List Int)(hr:∀s∈sl,s≤255)(hl:sl.length=33)(n:Nat)(hn:n≤33):pP.f (sl,(n:Int),())=cO 33 0 (sl.drop n):=by
 simp only[PX,pP,il]
 rw[show Int.toNat ((sl.length:Int)-(n:Int))=33-n by omega]
 rw[Uo sl hr hl n (33-n) n [] (Nat.le_refl _) (by omega) (by simp) (λp hp=>by simp at hp) (by simp)]
 simp only[Stp.elim]
 rw[Int.sub_self,I9 33 [] 0 (sl.drop n) (by rw[List.length_drop];omega) (λp hp=>by simp at hp)]
 rfl
def Kr (x:Recv)(sl:List Int)(e:Int)(fin:Bool):Int:=if fin=true∧x.fin<0∧e≤mN x∧(sl.drop e.toNat).all (λs=>decide (s<0))=true then e else x.fin
def Kx (x:Recv)(seq:Int)(t:aa):List Int:=AI x seq (mN x) (o9 x.held) 0 t
def nK (x:Recv)(seq:Int)(t:aa)(fin:Bool):Recv:=
 if br.f (x,())=true∧x.done=false then Vx x (Kx x seq t) (Kr x (Kx x seq t) ((seq+(t.length:Int)-x.next)%4294967296) fin)else x
theorem Hh (L:Int):∀(r:List Piec) (a b:Int),0≤a→L≤32→ev L a r=some b→dg po r
 |[],_,_,_,_,_=>λ_ h=>by cases h
 |p::r,a,b,h0,hL,h=>by
  simp only[ev]at h
  cases hc:((p.text==[])||decide (p.off≤a)||decide (L<p.off+(p.text.length:Int)))with
  |true=>rw[hc]at h;cases h
  |false=>
   rw[hc]at h
   simp only[Bool.or_eq_false_iff,decide_eq_false_iff_not]at hc
   have ih:=Hh L r _ b (by omega) hL h
   intro y hy
   rcases List.mem_cons.1 hy with rfl|hy
   ·unfold po;omega
   ·exact ih y hy
theorem Mo (x:Recv)(hx:RV x):dg po x.held:=by
 obtain⟨b,hb⟩:=hx.wk
 have h1:=oi x hx.dl
 have h2:=hx.f1
 exact Hh _ x.held 0 b (Int.le_refl _) (by split<;>omega) hb
theorem Sc (x:Recv)(seq:Int)(t:aa)(fin:Bool)(hs:be x.held)(ht:t.length≤4294967296):rp.f (x,seq,t,fin,())=nK x seq t fin:=by
 simp only[PX,rp,rj,xb x hs]
 unfold nK
 cases hok:br.f (x,())with
 |false=>rfl
 |true=>
 cases hdn:x.done with
 |true=>rfl
 |false=>
 have hx:=(mf x hs).1 hok
 have hpo:dg po x.held:=Mo x hx
 obtain⟨r2,e1⟩:=afu x seq (mN x) t ⟨hx.n0,hx.n1⟩ ht (⟨0,[],[],0,false⟩:Recv) (o9 x.held)
 have hsl:=KH x hx seq t
 have hw:=oi x hx.dl
 have hn0:=hx.n0
 have hn1:=hx.n1
 have hf0:=hx.f0
 have hf1:=hx.f1
 have hL:Kx x seq t=AI x seq (mN x) (o9 x.held) 0 t:=rfl
 rw[←hL]at e1 hsl
 have ee:IntKind.wrap .i64 ((seq+(t.length:Int))%4294967296-x.next)%4294967296=(seq+(t.length:Int)-x.next)%4294967296:=by
  rw[aq (by omega) (by omega),YJ]
 simp only[Bool.not_true,cond_false,ph,gD x hx.dl,Xa x hpo,fS,e1,Stp.elim,PX,iH,bt,mG,true_and,if_true,ee]
 obtain⟨e,he⟩:∃e,(seq+(t.length:Int)-x.next)%4294967296=e:=⟨_,rfl⟩
 have he0:0≤e:=by omega
 obtain⟨sl,hsl2⟩:∃sl,Kx x seq t=sl:=⟨_,rfl⟩
 simp only[he,hsl2]at hsl⊢
 clear e1 ee hL he hsl2
 obtain⟨hl,hat⟩:=hsl
 have hr:∀s∈sl,s≤255:=λs hs=>by
  obtain⟨k,hk,rfl⟩:=List.getElem_of_mem hs
  exact(hat k _ (List.getElem?_eq_getElem hk)).2.1
 have hld:aK sl<sl.length:=by
  rcases Nat.lt_or_ge (aK sl) sl.length with h|h
  ·exact h
  ·obtain⟨s,h1,h2⟩:=tC sl 32 (by omega)
   have:=(hat 32 s h1).2.2 h2
   split at this<;>omega
 have hc:(bif fin then bif decide (x.fin<0)then bif decide (e≤mN x)then(vc.f (sl,e,()),())else(false,())else(false,())else(false,())).1=decide (fin=true∧x.fin<0∧e≤mN x∧(sl.drop e.toNat).all (λs=>decide (s<0))=true):=by
  cases fin with
  |false=>simp
  |true=>
   by_cases c1:x.fin<0
   ·by_cases c2:e≤mN x
    ·have h1:=aaI sl e.toNat (by omega)
     rw[show((e.toNat:Nat):Int)=e by omega]at h1
     simp only[cond_true,decide_eq_true c1,decide_eq_true c2,h1]
     simp only[c1,c2,true_and,Bool.decide_eq_true]
    ·simp[c1,c2]
   ·simp[c1]
 have tail:∀(r u:Recv),(eU (0,x,r,u,sl,[],())).lp.s= .out ((aK sl:Int),({r with held:=[]}:Recv),sl.take (aK sl)):=by
  intro r u
  have:=acd sl hr hld (aK sl) 0 r (by omega)
  rw[←aN sl.length]at this
  exact this
 have tp:∀(r u:Recv) (w:Int×Recv×List Int),(eU (0,x,r,u,sl,[],())).lp.o w= .inl w:=λ_ _ _=>rfl
 have hld2:(aK sl:Int)≤33:=by omega
 by_cases hcc:fin=true∧x.fin<0∧e≤mN x∧(sl.drop e.toNat).all (λs=>decide (s<0))=true
 ·have hfn:Kr x sl e fin=e:=if_pos hcc
  have hew:=hcc.2.2.1
  rw[hfn]
  simp only[hc,decide_eq_true hcc,cond_true]
  dsimp only[Tr.nice]
  simp only[PX,tail,tp,Stp.elim,Sum.elim_inl,wu,Ha sl hr hl (aK sl) (by omega)]
  unfold Vx
  have hd:decide (0≤e)=true:=decide_eq_true (by omega)
  simp only[hd,cond_true]
  rw[aq (m:=e-(aK sl:Int)) (by omega) (by omega)]
  change (bif ((e-(aK sl:Int))==0)then(bif decide ((3:Int)<((cO 33 0 (sl.drop (aK sl))).length:Int))then eb.f (x,())else(⟨((x.next+(aK sl:Int))%4294967296+1)%4294967296,x.data++aw (sl.take (aK sl)),cO 33 0 (sl.drop (aK sl)),-1,true⟩:Recv))else(bif decide ((3:Int)<((cO 33 0 (sl.drop (aK sl))).length:Int))then eb.f (x,())else(⟨(x.next+(aK sl:Int))%4294967296,x.data++aw (sl.take (aK sl)),cO 33 0 (sl.drop (aK sl)),(e-(aK sl:Int)),false⟩:Recv)))=_
  rw[rj]
  by_cases h3:3<(cO 33 0 (sl.drop (aK sl))).length
  ·rw[if_pos h3,decide_eq_true (show(3:Int)<((cO 33 0 (sl.drop (aK sl))).length:Int) by omega)]
   cases(e-(aK sl:Int)==0)<;>rfl
  ·rw[if_neg h3,decide_eq_false (show¬(3:Int)<((cO 33 0 (sl.drop (aK sl))).length:Int) by omega)]
   by_cases h4:e-(aK sl:Int)=0
   ·rw[if_pos h4,show(e-(aK sl:Int)==0)=true by simp[h4]]
    simp only[cond_true,cond_false]
    rw[show((x.next+(aK sl:Int))%4294967296+1)%4294967296=(x.next+(aK sl:Int)+1)%4294967296 by omega]
   ·rw[if_neg h4,show(e-(aK sl:Int)==0)=false by simp[h4]]
    simp only[cond_false,if_neg (show¬e= -1 by omega),hdn]
 ·have hfn:Kr x sl e fin=x.fin:=if_neg hcc
  rw[hfn]
  simp only[hc,decide_eq_false hcc,cond_false]
  dsimp only[Tr.nice]
  simp only[PX,tail,tp,Stp.elim,Sum.elim_inl,wu,Ha sl hr hl (aK sl) (by omega)]
  unfold Vx
  by_cases hF:0≤x.fin
  ·have hd:decide (0≤x.fin)=true:=decide_eq_true (by omega)
   simp only[hd,cond_true]
   rw[aq (m:=x.fin-(aK sl:Int)) (by omega) (by omega)]
   change (bif ((x.fin-(aK sl:Int))==0)then(bif decide ((3:Int)<((cO 33 0 (sl.drop (aK sl))).length:Int))then eb.f (x,())else(⟨((x.next+(aK sl:Int))%4294967296+1)%4294967296,x.data++aw (sl.take (aK sl)),cO 33 0 (sl.drop (aK sl)),-1,true⟩:Recv))else(bif decide ((3:Int)<((cO 33 0 (sl.drop (aK sl))).length:Int))then eb.f (x,())else(⟨(x.next+(aK sl:Int))%4294967296,x.data++aw (sl.take (aK sl)),cO 33 0 (sl.drop (aK sl)),(x.fin-(aK sl:Int)),x.done⟩:Recv)))=_
   rw[rj]
   by_cases h3:3<(cO 33 0 (sl.drop (aK sl))).length
   ·rw[if_pos h3,decide_eq_true (show(3:Int)<((cO 33 0 (sl.drop (aK sl))).length:Int) by omega)]
    cases(x.fin-(aK sl:Int)==0)<;>rfl
   ·rw[if_neg h3,decide_eq_false (show¬(3:Int)<((cO 33 0 (sl.drop (aK sl))).length:Int) by omega)]
    by_cases h4:x.fin-(aK sl:Int)=0
    ·rw[if_pos h4,show(x.fin-(aK sl:Int)==0)=true by simp[h4]]
     simp only[cond_true,cond_false]
     rw[show((x.next+(aK sl:Int))%4294967296+1)%4294967296=(x.next+(aK sl:Int)+1)%4294967296 by omega]
    ·rw[if_neg h4,show(x.fin-(aK sl:Int)==0)=false by simp[h4]]
     simp only[cond_false,if_neg (show¬x.fin= -1 by omega),hdn]
  ·have hF1:x.fin= -1:=by omega
   have hd:decide (0≤x.fin)=false:=decide_eq_false hF
   simp only[hd,cond_false]
   change (bif (x.fin==0)then(bif decide ((3:Int)<((cO 33 0 (sl.drop (aK sl))).length:Int))then eb.f (x,())else(⟨((x.next+(aK sl:Int))%4294967296+1)%4294967296,x.data++aw (sl.take (aK sl)),cO 33 0 (sl.drop (aK sl)),-1,true⟩:Recv))else(bif decide ((3:Int)<((cO 33 0 (sl.drop (aK sl))).length:Int))then eb.f (x,())else(⟨(x.next+(aK sl:Int))%4294967296,x.data++aw (sl.take (aK sl)),cO 33 0 (sl.drop (aK sl)),x.fin,x.done⟩:Recv)))=_
   rw[rj]
   rw[show(x.fin==0)=false by simp[hF1]]
   by_cases h3:3<(cO 33 0 (sl.drop (aK sl))).length
   ·rw[if_pos h3,decide_eq_true (show(3:Int)<((cO 33 0 (sl.drop (aK sl))).length:Int) by omega)]
    rfl
   ·rw[if_neg h3,decide_eq_false (show¬(3:Int)<((cO 33 0 (sl.drop (aK sl))).length:Int) by omega)]
    rw[if_neg (show¬x.fin-(aK sl:Int)=0 by omega),if_pos hF1,hF1,hdn]
    rfl
theorem Jz (x:Recv)(seq:Int)(t:aa)(fin:Bool)(hx:RV x):RV (nK x seq t fin):=by
 unfold nK
 by_cases hc:br.f (x,())=true∧x.done=false
 ·rw[if_pos hc]
  obtain⟨hl,hat⟩:=KH x hx seq t
  have hw:=oi x hx.dl
  have hf0:=hx.f0
  have hf1:=hx.f1
  change (Kx x seq t).length=33 at hl
  change ∀(k:Nat) (s:Int),(Kx x seq t)[k]? =some s→_ at hat
  generalize Kx x seq t=sl at hl hat
  have he0:0≤(seq+(t.length:Int)-x.next)%4294967296:=by omega
  generalize(seq+(t.length:Int)-x.next)%4294967296=e at he0
  unfold Kr
  split
  ·rename_i h
   obtain⟨h1,h2,h3,h4⟩:=h
   refine Yl x sl e hx hc.2 hl (by omega) h3 (λk s hk hs=> ?_)
   rw[if_neg (show¬e= -1 by omega)]
   apply Int.not_le.1
   intro hke
   rw[List.all_eq_true]at h4
   have hm:s∈sl.drop e.toNat:=by
    refine List.mem_of_getElem? (i:=k-e.toNat) ?_
    rw[List.getElem?_drop,show e.toNat+(k-e.toNat)=k by omega];exact hk
   have:=h4 s hm
   simp only[decide_eq_true_eq]at this
   omega
  ·exact Yl x sl x.fin hx hc.2 hl (by omega) hf1 (λk s hk hs=>(hat k s hk).2.2 hs)
 ·rw[if_neg hc];exact hx
def tt (a b:Int):Int:=if 2147483647<(a-b)%4294967296 then(a-b)%4294967296-4294967296 else(a-b)%4294967296
theorem vE (a b:Int):ri.f (a,b,())=tt a b:=by
 simp only[PX,ri,mG,wu]
 rw[aq (m:=a%4294967296-b%4294967296) (by omega) (by omega),show(a%4294967296-b%4294967296)%4294967296=(a-b)%4294967296 by omega]
 unfold tt
 by_cases h:2147483647<(a-b)%4294967296
 ·rw[decide_eq_true h,if_pos h,aq (by omega) (by omega)];rfl
 ·rw[decide_eq_false h,if_neg h];rfl
def IJ (s:Sndr):Int:=if s.finSent=true then s.sent+1 else s.sent
theorem vq (s:Sndr)(h:SO s):dz.f (s,())=IJ s:=by
 rw[Px s h];rfl
def cW (s:Sndr)(n:Int):Sndr:=⟨(s.una+n)%4294967296,s.data.drop (if s.sent<n then s.sent else n).toNat,s.sent-(if s.sent<n then s.sent else n),s.fin,if s.sent<n then false else s.finSent,if s.sent<n then true else s.done⟩
def uQ (s:Sndr)(ack:Int):Bool:=bj.f (s,())&&(decide (0≤tt ack s.una)&&decide (tt ack s.una≤IJ s))
theorem WL (s:Sndr)(ack:Int):CL.f (s,ack,())=if uQ s ack=true then(cW s (tt ack s.una),true)else(s,false):=by
 simp only[PX,CL,vE,oL,yI,bH,iH,bt]
 unfold uQ
 cases hk:bj.f (s,())with
 |false=>rfl
 |true=>
  have hs:=(yZ s).1 hk
  rw[vq s hs]
  have h1:=hs.2.2.2.1
  have h2:=hs.2.2.2.2.1
  have h3:=hs.2.2.1
  generalize tt ack s.una=n
  simp only[Bool.not_true,cond_false,Bool.true_and]
  by_cases hn:0≤n∧n≤IJ s
  ·rw[decide_eq_true hn.1,decide_eq_true hn.2]
   simp only[Bool.and_self,Bool.not_true,cond_false,if_true]
   unfold cW
   by_cases hc:s.sent<n
   ·simp only[decide_eq_true hc,if_pos hc,cond_true]
    simp only[PX,af,List.take_length]
    rw[aq (by omega) (by omega)]
   ·simp only[decide_eq_false hc,if_neg hc,cond_false]
    simp only[PX,af,List.take_length]
    rw[aq (by omega) (by omega)]
  ·have e:(decide (0≤n)&&decide (n≤IJ s))=false:=by
    rw[Bool.and_eq_false_iff];simp only[decide_eq_false_iff_not];omega
   rw[e];rfl
theorem Lg (s:Sndr)(hs:SO s)(n:Int)(h0:0≤n)(h1:n≤IJ s):SO (cW s n)∧(cW s n).fin=s.fin∧(s.done=true→(cW s n).done=true):=by
 obtain⟨e1,e2,e3,e4,e5,e6,e7⟩:=hs
 unfold IJ at h1
 by_cases hc:s.sent<n
 ·have ea:cW s n=⟨(s.una+n)%4294967296,s.data.drop s.sent.toNat,s.sent-s.sent,s.fin,false,true⟩:=by unfold cW;simp only[if_pos hc]
  rw[ea]
  have hf:s.finSent=true:=by
   cases hfs:s.finSent with
   |true=>rfl
   |false=>rw[hfs]at h1;simp only[Bool.false_eq_true,if_false]at h1;omega
  have hl:=(e6 hf).2
  refine⟨⟨by show 0≤(s.una+n)%4294967296;omega,by show(s.una+n)%4294967296≤4294967295;omega, ?_, ?_, ?_,λh=>(by cases h),λ_=>⟨(e6 hf).1,rfl, ?_⟩⟩,rfl,λ_=>rfl⟩
  ·show(s.data.drop s.sent.toNat).length≤48
   rw[List.length_drop];omega
  ·show 0≤s.sent-s.sent;omega
  ·show s.sent-s.sent≤((s.data.drop s.sent.toNat).length:Int)
   omega
  ·show s.data.drop s.sent.toNat=[]
   exact List.drop_of_length_le (by omega)
 ·have ea:cW s n=⟨(s.una+n)%4294967296,s.data.drop n.toNat,s.sent-n,s.fin,s.finSent,s.done⟩:=by unfold cW;simp only[if_neg hc]
  rw[ea]
  refine⟨⟨by show 0≤(s.una+n)%4294967296;omega,by show(s.una+n)%4294967296≤4294967295;omega, ?_, ?_, ?_, ?_, ?_⟩,rfl,λh=>h⟩
  ·show(s.data.drop n.toNat).length≤48
   rw[List.length_drop];omega
  ·show 0≤s.sent-n;omega
  ·show s.sent-n≤((s.data.drop n.toNat).length:Int)
   rw[List.length_drop];omega
  ·intro h
   refine⟨(e6 h).1, ?_⟩
   have:=(e6 h).2
   show s.sent-n=((s.data.drop n.toNat).length:Int)
   rw[List.length_drop];omega
  ·intro h
   refine⟨(e7 h).1,(e7 h).2.1, ?_⟩
   show s.data.drop n.toNat=[]
   rw[(e7 h).2.2];simp
def oO (k:Int)(sd rd:Bool):Int:=if k=1 then(if rd=true then 4 else 1)else if k=2 then(if sd=true then(if rd=true then 7 else 3)else if rd=true then 5 else 2)else if k=3 then(if rd=true then 7 else 3)else if k=5 then(if sd=true then 7 else 5)else if k=6 then(if sd=true then 8 else 6)else k
theorem abz (x:Conn):vH.f (x,())=oO x.state x.s.done x.r.done:=by
 simp only[PX,vH]
 unfold oO
 by_cases h1:x.state=1
 ·rw[if_pos h1,h1];cases x.r.done<;>first|rfl|exact h1
 by_cases h2:x.state=2
 ·rw[if_neg h1,if_pos h2,h2];cases x.s.done<;>cases x.r.done<;>first|rfl|exact h2
 by_cases h3:x.state=3
 ·rw[if_neg h1,if_neg h2,if_pos h3,h3];cases x.r.done<;>first|rfl|exact h3
 by_cases h5:x.state=5
 ·rw[if_neg h1,if_neg h2,if_neg h3,if_pos h5,h5];cases x.s.done<;>first|rfl|exact h5
 by_cases h6:x.state=6
 ·rw[if_neg h1,if_neg h2,if_neg h3,if_neg h5,if_pos h6,h6];cases x.s.done<;>first|rfl|exact h6
 rw[if_neg h1,if_neg h2,if_neg h3,if_neg h5,if_neg h6]
 rw[show(x.state==1)=false by simp[h1],show(x.state==2)=false by simp[h2],show(x.state==3)=false by simp[h3],show(x.state==5)=false by simp[h5],show(x.state==6)=false by simp[h6]]
 rfl
def Ld (x:Conn):Bool:=aO.f ({x with state:=oO x.state x.s.done x.r.done,timer:=0,tries:=0},())&&((decide (0≤x.timer)&&decide (x.timer≤4))&&(decide (0≤x.tries)&&decide (x.tries≤3)))
def d5 (x:Conn):Conn:=
 if Ld x=true then
  if oO x.state x.s.done x.r.done=x.state then x
  else if oO x.state x.s.done x.r.done=7 then{x with state:=7,timer:=4,tries:=0}
  else if oO x.state x.s.done x.r.done=8 then{x with state:=8,timer:=0,tries:=0}
  else{x with state:=oO x.state x.s.done x.r.done}
 else x
theorem GR (x:Conn)(hs:be x.r.held):tc.f (x,())=d5 x:=by
 simp only[PX,tc,fG,abz,bH]
 rw[ll ({x with state:=oO x.state x.s.done x.r.done,timer:=0,tries:=0}:Conn) hs]
 unfold d5 Ld
 generalize(decide (0≤x.timer)&&decide (x.timer≤4))=b1
 generalize(decide (0≤x.tries)&&decide (x.tries≤3))=b2
 generalize oO x.state x.s.done x.r.done=k
 cases aO.f (({x with state:=k,timer:=0,tries:=0}:Conn),())with
 |false=>rfl
 |true=>
 cases b1 with
 |false=>rfl
 |true=>
 cases b2 with
 |false=>rfl
 |true=>
 simp only[Bool.not_true,cond_false,Bool.and_self,if_true]
 by_cases h1:k=x.state
 ·subst h1
  simp only[if_true,beq_self_eq_true,cond_true]
 ·rw[if_neg h1,show(k==x.state)=false by simp[h1]]
  simp only[cond_false]
  by_cases h7:k=7
  ·subst h7;rfl
  ·rw[if_neg h7,show(k==7)=false by simp[h7]]
   simp only[cond_false]
   by_cases h8:k=8
   ·subst h8;rfl
   ·rw[if_neg h8,show(k==8)=false by simp[h8]];rfl
structure TR (x:Conn):Prop where
 tup:aG.f (x.tuple,())=true
 snd:SO x.s
 rcv:br.f (x.r,())=true
 opt:aM.f (x.opts,())=true
 s1:1≤x.state
 s7:x.state≤7
 m0:0≤x.most
 m1:x.most≤1073725440
 w0:0≤x.window
 w1:x.window≤x.most
 t0:0≤x.timer
 t4:x.timer≤4
 t3:x.state≠7→x.timer≤3
 r0:0≤x.tries
 r3:x.tries≤3
 fl:Yq (oO x.state x.s.done x.r.done) x.s.fin x.s.done x.r.done=true
theorem ado (k:Int)(sd rd:Bool)(h1:1≤k)(h7:k≤7):1≤oO k sd rd∧oO k sd rd≤8:=by
 unfold oO;repeat' split
 all_goals omega
theorem TR.turned {x:Conn}(h:TR x):CO (d5 x):=by
 have hk:=ado x.state x.s.done x.r.done h.s1 h.s7
 have hfl:=h.fl
 have hs1:=h.s1
 have hs7:=h.s7
 have hr0:=h.r0
 have hr3:=h.r3
 have ht0:=h.t0
 have ht4:=h.t4
 have hco:CO ({x with state:=oO x.state x.s.done x.r.done,timer:=0,tries:=0}:Conn):=⟨h.tup,h.snd,h.rcv,h.opt,hk.1,hk.2,h.m0,h.m1,h.w0,h.w1,Int.le_refl _,by show(0:Int)≤4;omega,λ_=>by show(0:Int)≤3;omega,Int.le_refl _,by show(0:Int)≤3;omega,hfl⟩
 have hok:Ld x=true:=by
  unfold Ld
  rw[(qi _).2 hco,decide_eq_true ht0,decide_eq_true ht4,decide_eq_true hr0,decide_eq_true hr3];rfl
 unfold d5
 rw[if_pos hok]
 by_cases h1:oO x.state x.s.done x.r.done=x.state
 ·rw[if_pos h1]
  rw[h1]at hfl
  exact⟨h.tup,h.snd,h.rcv,h.opt,hs1,by omega,h.m0,h.m1,h.w0,h.w1,ht0,ht4,h.t3,hr0,hr3,hfl⟩
 ·rw[if_neg h1]
  have hn7:x.state≠7:=by
   intro h7;apply h1;rw[h7];rfl
  have ht3:=h.t3 hn7
  by_cases h7:oO x.state x.s.done x.r.done=7
  ·rw[if_pos h7]
   rw[h7]at hfl
   exact⟨h.tup,h.snd,h.rcv,h.opt,by show(1:Int)≤7;omega,by show(7:Int)≤8;omega,h.m0,h.m1,h.w0,h.w1,by show(0:Int)≤4;omega,Int.le_refl _,λhh=>absurd rfl hh,Int.le_refl _,by show(0:Int)≤3;omega,hfl⟩
  ·rw[if_neg h7]
   by_cases h8:oO x.state x.s.done x.r.done=8
   ·rw[if_pos h8]
    rw[h8]at hfl
    exact⟨h.tup,h.snd,h.rcv,h.opt,by show(1:Int)≤8;omega,Int.le_refl _,h.m0,h.m1,h.w0,h.w1,Int.le_refl _,by show(0:Int)≤4;omega,λ_=>by show(0:Int)≤3;omega,Int.le_refl _,by show(0:Int)≤3;omega,hfl⟩
   ·rw[if_neg h8]
    exact⟨h.tup,h.snd,h.rcv,h.opt,hk.1,hk.2,h.m0,h.m1,h.w0,h.w1,ht0,ht4,λ_=>ht3,hr0,hr3,hfl⟩
theorem DB (x:Conn):(d5 x).tuple=x.tuple:=by
 unfold d5;repeat' split
 all_goals rfl
def jp (w sc:Int):Int:=w*2 ^ (if sc<0 then 0 else sc).toNat
theorem KA (w sc:Int)(h0:0≤w)(h1:w≤65535)(h2:sc≤14):0≤jp w sc∧jp w sc≤1073725440:=by
 unfold jp
 have hk:(if sc<0 then 0 else sc).toNat≤14:=by split<;>omega
 generalize(if sc<0 then 0 else sc).toNat=k at hk
 have:k=0∨k=1∨k=2∨k=3∨k=4∨k=5∨k=6∨k=7∨k=8∨k=9∨k=10∨k=11∨k=12∨k=13∨k=14:=by omega
 rcases this with rfl|rfl|rfl|rfl|rfl|rfl|rfl|rfl|rfl|rfl|rfl|rfl|rfl|rfl|rfl<;>simp only[Int.reducePow,Int.pow_zero]<;>omega
theorem fv (o:Opti)(h:aM.f (o,())=true): -1≤o.scale∧o.scale≤14:=by
 simp only[PX,aM,au]at h
 revert h
 cases hq:(decide (-1≤o.scale)&&decide (o.scale≤14))with
 |true=>
  intro _
  simpa [Bool.and_eq_true,decide_eq_true_eq]using hq
 |false=>
  cases ae.f (o.mss,16,())<;>cases o.stamp<;>cases(o.val != 0)<;>cases(o.echo != 0)<;>simp
def wO (c:Conn)(g:Segm):Conn:=
 if uQ c.s g.ack=true then
  if((cW c.s (tt g.ack c.s.una)).una≠c.s.una∨IJ (cW c.s (tt g.ack c.s.una))=0)∧c.state≠7 then
   ⟨c.tuple,c.state,cW c.s (tt g.ack c.s.una),c.r,jp g.window c.opts.scale,if c.most<jp g.window c.opts.scale then jp g.window c.opts.scale else c.most,c.opts,if 0<IJ (cW c.s (tt g.ack c.s.una))then 3 else 0,0⟩
  else⟨c.tuple,c.state,cW c.s (tt g.ack c.s.una),c.r,jp g.window c.opts.scale,if c.most<jp g.window c.opts.scale then jp g.window c.opts.scale else c.most,c.opts,c.timer,c.tries⟩
 else c
def fY (c:Conn)(g:Segm):Conn:=
 if 1≤c.state∧c.state≤3 then d5 {wO c g with r:=nK c.r g.seq g.body (gn.f (g,1,()))}else d5 (wO c g)
theorem abi (k:Int)(h1:1≤k)(h7:k≤7)(sf sd rd sd' rd':Bool)(h:Yq k sf sd rd=true)(hsd:sd=true→sd'=true)(hsf:sd'=true→sf=true)(hrd:rd'=rd∨(rd=false∧k≤3)):Yq (oO k sd' rd') sf sd' rd'=true:=by
 have hk:k=1∨k=2∨k=3∨k=4∨k=5∨k=6∨k=7:=by omega
 rcases hk with rfl|rfl|rfl|rfl|rfl|rfl|rfl<;>revert h hsd hsf hrd<;>revert sf sd rd sd' rd'<;>decide+kernel
theorem RV.small {x:Recv}(h:RV x):be x.held:=by
 intro y hy
 have:=Mo x h y hy
 unfold po at this;omega
theorem Tm (m:Int):IntKind.u32.wrap m=m%4294967296:=by
 unfold IntKind.wrap
 simp[IntKind.signed,IntKind.bits]
theorem Ur (m:Int):IntKind.i32.wrap m=(m+2147483648)%4294967296-2147483648:=by
 unfold IntKind.wrap
 simp only[IntKind.signed,IntKind.bits]
 simp
 omega
theorem vR (a b:Int):rD.f (a,b,())=tt a b:=by
 simp only[PX,rD,Tm,Ur,di]
 unfold tt
 split<;>omega
theorem LZ (g:Segm)(n:Int):gn.f (g,n,())=bp.f (g,n,()):=by simp only[PX,gn,bp]
theorem vM (g:Segm):i2.f (g,())=aU.f (g,()):=by simp only[PX,i2,aU,LZ]
theorem sI (a b:Int):tv.f (a,b,())=(a-b)%4294967296:=Vu a b
def vT (x o n:Int):Bool:=decide (0<n)&&decide ((x-o)%4294967296<n)
theorem pA (x o n:Int):pc.f (x,o,n,())=vT x o n:=by
 simp only[PX,pc,mG]
 unfold vT
 rw[aq (by omega) (by omega),show(x%4294967296-o%4294967296)%4294967296=(x-o)%4294967296 by omega]
 cases decide (0<n)<;>rfl
theorem uz (x o n:Int):oC.f (x,o,n,())=vT x o n:=by
 simp only[PX,oC,sI]
 unfold vT
 by_cases h:4294967295<n
 ·rw[decide_eq_true h,decide_eq_true (show 0<n by omega),decide_eq_true (show(x-o)%4294967296<n by omega)];rfl
 ·rw[decide_eq_false h]
  by_cases h1:0<n
  ·rw[decide_eq_true h1,decide_eq_true (show 1≤n by omega)];rfl
  ·rw[decide_eq_false h1,decide_eq_false (show¬1≤n by omega)];rfl
def ovN (x n o w:Int):Bool:=decide (0<n)&&(decide (0<w)&&(decide ((x-o)%4294967296<w)||decide ((o-x)%4294967296<n)))
theorem Ng (x n o w:Int)(hn:n≤65536):wH.f (x,n,o,w,())=ovN x n o w:=by
 simp only[PX,wH,sI,uz]
 rw[if_neg (show¬65536<n by omega)]
 unfold ovN vT
 by_cases h1:0<n
 ·rw[decide_eq_true h1,decide_eq_false (show¬n<1 by omega)]
  by_cases h2:0<w
  ·rw[decide_eq_true h2,decide_eq_false (show¬w<1 by omega)]
   cases decide ((x-o)%4294967296<w)<;>rfl
  ·rw[decide_eq_false h2,decide_eq_true (show w<1 by omega)];rfl
 ·rw[decide_eq_false h1,decide_eq_true (show n<1 by omega)];rfl
theorem Py (x o w:Int):∀(k j:Nat),j+k≤65536→(aP (λj a=>(jy x o w j a).nice) 1 k (j:Int) ()= .next ()∧∀i:Nat,j≤i→i<j+k→vT (x+(i:Int)) o w=false)∨(aP (λj a=>(jy x o w j a).nice) 1 k (j:Int) ()= .out (.inl ())∧∃i:Nat,j≤i∧i<j+k∧vT (x+(i:Int)) o w=true)
 |0,j,_=> .inl ⟨rfl,λi h1 h2=>by omega⟩
 |k+1,j,h=>by
  have ih:=Py x o w k (j+1) (by omega)
  have e:vT ((x+(j:Int))%4294967296) o w=vT (x+(j:Int)) o w:=by
   unfold vT
   rw[show((x+(j:Int))%4294967296-o)%4294967296=(x+(j:Int)-o)%4294967296 by omega]
  simp only[aP,PX,jy,iH,bt,pA,decide_eq_true (show(j:Int)<65536 by omega),cond_true,e]
  simp only[PX,jy,iH,bt,pA]at ih
  cases hj:vT (x+(j:Int)) o w with
  |true=>exact .inr ⟨rfl,j,Nat.le_refl _,by omega,hj⟩
  |false=>
   simp only[cond_false,Stp.elim]
   rw[show(j:Int)+1=((j+1:Nat):Int) by omega]
   rcases ih with⟨h1,h2⟩|⟨h1,i,h2,h3,h4⟩
   ·refine .inl ⟨h1,λi h3 h4=> ?_⟩
    rcases Nat.eq_or_lt_of_le h3 with h5|h5
    ·rw[←h5];exact hj
    ·exact h2 i h5 (by omega)
   ·exact .inr ⟨h1,i,by omega,by omega,h4⟩
theorem NE (x n o w:Int)(hn:n≤65536)(hw:w≤2147483648):vK.f (x,n,o,w,())=ovN x n o w:=by
 simp only[PX,vK,lN]
 have key:=Py x o w (Int.toNat (n-0)) 0 (by omega)
 rw[show((0:Nat):Int)=0 from rfl]at key
 unfold ovN
 rcases key with⟨h1,h2⟩|⟨h1,i,h2,h3,h4⟩
 ·rw[h1]
  simp only[Stp.elim,Sum.elim_inr,Sum.elim_inl]
  by_cases c1:0<n
  ·by_cases c2:0<w
   ·have a0:=h2 0 (Nat.le_refl _) (by omega)
    unfold vT at a0
    rw[decide_eq_true c2,show x+((0:Nat):Int)=x by omega,Bool.true_and,decide_eq_false_iff_not]at a0
    have a1:¬(o-x)%4294967296<n:=by
     intro h
     have:=h2 ((o-x)%4294967296).toNat (by omega) (by omega)
     unfold vT at this
     rw[decide_eq_true c2,Bool.true_and,decide_eq_false_iff_not]at this
     omega
    rw[decide_eq_true c1,decide_eq_true c2,decide_eq_false a0,decide_eq_false a1];rfl
   ·rw[decide_eq_false c2];cases decide (0<n)<;>rfl
  ·rw[decide_eq_false c1];rfl
 ·rw[h1]
  simp only[Stp.elim,Sum.elim_inr,Sum.elim_inl]
  unfold vT at h4
  simp only[Bool.and_eq_true,decide_eq_true_eq]at h4
  have c1:0<n:=by omega
  rw[decide_eq_true c1,decide_eq_true h4.1]
  by_cases c3:(x-o)%4294967296<w
  ·rw[decide_eq_true c3];rfl
  ·rw[decide_eq_true (show(o-x)%4294967296<n by omega),Bool.or_true];rfl
def Wp (c:Conn)(g:Segm):Bool:=bif aU.f (g,())==0 then tt g.seq c.r.next==0||vT g.seq c.r.next (mN c.r)else ovN g.seq (aU.f (g,())) c.r.next (mN c.r)
theorem sU (g:Segm)(hb:g.body.length≤60000):0≤aU.f (g,())∧aU.f (g,())≤(g.body.length:Int)+2:=by
 simp only[PX,aU]
 rw[aq (m:=(g.body.length:Int)+1) (by omega) (by omega),aq (m:=(g.body.length:Int)+1+1) (by omega) (by omega)]
 cases bp.f (g,2,())<;>cases bp.f (g,1,())<;>simp only[cond_true,cond_false]<;>omega
theorem HA (c:Conn)(g:Segm)(hd:c.r.data.length≤32)(hb:g.body.length≤60000):qF.f (c,g,())=Wp c g:=by
 have h1:=sU g hb
 have hw:=oi c.r hd
 simp only[PX,qF,vM,ph,gD c.r hd,vE,pA,NE _ _ _ _ (show aU.f (g,())≤65536 by omega) (show mN c.r≤2147483648 by omega)]
 unfold Wp
 cases(aU.f (g,())==0)with
 |false=>rfl
 |true=>cases(tt g.seq c.r.next==0)<;>rfl
theorem Ia (c:Conn)(g:Segm)(hd:c.r.data.length≤32)(hb:g.body.length≤60000):qI.f (c,g,())=Wp c g:=by
 have h1:=sU g hb
 have hw:=oi c.r hd
 simp only[PX,qI,gD c.r hd,vR,uz,Ng _ _ _ _ (show aU.f (g,())≤65536 by omega)]
 unfold Wp
 cases(aU.f (g,())==0)with
 |false=>rfl
 |true=>cases(tt g.seq c.r.next==0)<;>rfl
def Th (c:Conn)(a:Int):Bool:=decide (tt a c.s.una≤IJ c.s)&&(decide (0≤tt a c.s.una)||decide (-c.most≤tt a c.s.una))
theorem R2 (c:Conn)(a:Int)(hs:SO c.s)(h0:0≤c.most)(h1:c.most≤1073725440):Ao.f (c,a,())=Th c a:=by
 simp only[PX,Ao,vE,yI,vq c.s hs]
 unfold Th
 rw[aq (by omega) (by omega),decide_eq_false (show¬2147483648≤c.most by omega)]
 generalize tt a c.s.una=d
 cases decide (d≤IJ c.s)with
 |false=>rfl
 |true=>
  by_cases h2:0≤d
  ·rw[decide_eq_true h2];rfl
  ·rw[decide_eq_false h2]
   by_cases h3:0<c.most
   ·rw[decide_eq_true h3,show(0-c.most)= -c.most by omega];rfl
   ·rw[decide_eq_false h3,decide_eq_false (show¬-c.most≤d by omega)];rfl
theorem QO (c:Conn)(a:Int)(hs:SO c.s)(h0:0≤c.most)(h1:c.most≤1073725440):Am.f (c,a,())=Th c a:=by
 simp only[PX,Am,vR,vq c.s hs,au]
 unfold Th
 rw[if_neg (show¬2147483648<c.most by omega),show(if 0<c.most then c.most else 0)=c.most by split<;>omega,aq (by omega) (by omega),show(0-c.most)= -c.most by omega]
 generalize tt a c.s.una=d
 by_cases h2:0≤d
 ·rw[decide_eq_true h2,decide_eq_true (show-c.most≤d by omega)];simp
 ·rw[decide_eq_false h2,Bool.and_comm];simp
def EU (c:Conn)(g:Segm):Int:=
 bif aO.f (c,())&&(!(c.state==8)&&ak.f (g,()))then
  bif bp.f (g,4,())then(bif g.seq==c.r.next then 2 else bif vT g.seq c.r.next (mN c.r)then 3 else 1)
  else bif bp.f (g,2,())then 3
  else bif !Wp c g then 4
  else bif !bp.f (g,16,())then 1
  else bif !Th c g.ack then 3 else 5
 else 1
theorem iI (g:Segm)(h:ak.f (g,())=true):g.body.length≤1420:=by
 simp only[PX,ak]at h
 revert h
 cases ae.f (g.from_,16,())<;>cases ae.f (g.to,16,())<;>cases ae.f (g.seq,32,())<;>cases ae.f (g.ack,32,())<;>cases ae.f (g.flags,6,())<;>cases ae.f (g.window,16,())<;>cases aM.f (g.opts,())<;>simp<;>omega
theorem CF (c:Conn)(g:Segm)(hs:be c.r.held):vf.f (c,g,())=EU c g:=by
 simp only[PX,vf,ll c hs,qe,LZ]
 unfold EU
 rcases Bool.eq_false_or_eq_true (aO.f (c,()))with h1|h1
 case inr=>rw[h1];rfl
 rcases Bool.eq_false_or_eq_true (c.state==8)with h2|h2
 ·rw[h1,h2];rfl
 rcases Bool.eq_false_or_eq_true (ak.f (g,()))with h3|h3
 case inr=>rw[h1,h2,h3];rfl
 have hc:=(qi c).1 h1
 have hr:=(mf c.r hs).1 hc.rcv
 have hb:=iI g h3
 simp only[h1,h2,h3,ph,gD c.r hr.dl,pA,HA c g hr.dl (by omega),R2 c g.ack hc.snd hc.m0 hc.m1,Bool.not_true,Bool.not_false,cond_true,cond_false,Bool.and_self]
 cases bp.f (g,4,())with
 |false=>rfl
 |true=>cases(g.seq==c.r.next)<;>cases vT g.seq c.r.next (mN c.r)<;>rfl
theorem Dr (c:Conn)(g:Segm)(hs:be c.r.held):uT.f (c,g,())=EU c g:=by
 simp only[PX,uT]
 unfold EU
 rcases Bool.eq_false_or_eq_true (aO.f (c,()))with h1|h1
 case inr=>rw[h1];rfl
 rcases Bool.eq_false_or_eq_true (c.state==8)with h2|h2
 ·rw[h1,h2];rfl
 rcases Bool.eq_false_or_eq_true (ak.f (g,()))with h3|h3
 case inr=>rw[h1,h2,h3];rfl
 have hc:=(qi c).1 h1
 have hr:=(mf c.r hs).1 hc.rcv
 have hb:=iI g h3
 simp only[h1,h2,h3,gD c.r hr.dl,uz,Ia c g hr.dl (by omega),QO c g.ack hc.snd hc.m0 hc.m1,Bool.not_true,Bool.not_false,cond_true,cond_false,Bool.and_self]
def ja (w:Nat)(sl:List Int):List Bool:=(sl.take w).map (λs=>decide (0≤s))
def mS (w:Nat)(sl:List Int):List Int:=(sl.take w).map (λs=>if s<0 then 0 else s)
def st1 (sl:List Int)(o b:Int):List Int:=if sl.getD o.toNat 0<0 then sl.set o.toNat b else sl
theorem abV (w:Nat)(sl:List Int)(o:Nat)(b:Int)(hb:0≤b):ja w (sl.set o b)=(ja w sl).set o true:=by
 unfold ja
 rw[List.take_set,List.map_set,decide_eq_true hb]
theorem acH (w:Nat)(sl:List Int)(o:Nat)(b:Int)(hb:0≤b):mS w (sl.set o b)=(mS w sl).set o b:=by
 unfold mS
 rw[List.take_set,List.map_set,if_neg (show¬b<0 by omega)]
theorem uW (w:Nat)(sl:List Int)(o:Nat)(ho:o<w)(hl:w≤sl.length):(ja w sl).getD o false=decide (0≤sl.getD o 0):=by
 unfold ja
 simp[List.getD,List.getElem?_take,ho,show o<sl.length by omega]
theorem MJ (w:Nat)(sl:List Int)(o b:Int)(h0:0≤o)(h1:o<(w:Int))(hl:w≤sl.length)(hb:0≤b):gM.f (o,b,ja w sl,mS w sl,())=(ja w (st1 sl o b),mS w (st1 sl o b)):=by
 simp only[PX,gM]
 rw[uW w sl o.toNat (by omega) hl]
 unfold st1
 by_cases h:sl.getD o.toNat 0<0
 ·rw[decide_eq_false (by omega),if_pos h,abV _ _ _ _ hb,acH _ _ _ _ hb];rfl
 ·rw[decide_eq_true (by omega),if_neg h];rfl
theorem aec (p:Piec)(w:Nat)(h1:1≤p.off)(h2:p.off+(p.text.length:Int)≤(w:Int))(hw:w≤33):∀(n k:Nat) (sl:List Int) (r:Recv),w≤sl.length→k+n=p.text.length→(∀(j:Nat) (s:Int),p.off.toNat+k≤j→sl[j]? =some s→s<0)→∃r2,aP (λj a=>(oX p j a).nice) 1 n (k:Int) (r,mS w sl,ja w sl)= .next (r2,mS w (rM sl (p.off.toNat+k) (p.text.drop k)),ja w (rM sl (p.off.toNat+k) (p.text.drop k)))
 |0,k,sl,r,hl,h,hf=>⟨r,by rw[List.drop_of_length_le (by omega)];rfl⟩
 |n+1,k,sl,r,hl,h,hf=>by
  have hk:k<p.text.length:=by omega
  have ho:p.off.toNat+k<sl.length:=by omega
  have hfree:=hf (p.off.toNat+k) sl[p.off.toNat+k] (Nat.le_refl _) (List.getElem?_eq_getElem ho)
  have hst:st1 sl (p.off+(k:Int)) (p.text[k].toNat:Int)=sl.set (p.off.toNat+k) (p.text[k].toNat:Int):=by
   unfold st1
   rw[show(p.off+(k:Int)).toNat=p.off.toNat+k by omega,getD_some (List.getElem?_eq_getElem ho),if_pos hfree]
  obtain⟨r2,e⟩:=aec p w h1 h2 hw n (k+1) (sl.set (p.off.toNat+k) (p.text[k].toNat:Int)) ({r with held:=[]}:Recv) (by rw[List.length_set];exact hl) (by omega) (λj s hj hs=>by
   rw[List.getElem?_set_ne (by omega)]at hs
   exact hf j s (by omega) hs)
  refine⟨r2, ?_⟩
  rw[List.drop_eq_getElem_cons hk]
  simp only[rM]
  simp only[aP,PX,oX,af,jH _ _ hk]
  rw[aq (by omega) (by omega),MJ w sl _ _ (by omega) (by omega) hl (by omega),hst]
  simp only[Stp.elim]
  rw[show(k:Int)+1=((k+1:Nat):Int) by omega]
  exact e
theorem O3:∀(t:aa) (sl:List Int) (o:Nat) (a:Int),((o:Int)+(t.length:Int)≤a)→(∀(j:Nat) (s:Int),a≤(j:Int)→sl[j]? =some s→s<0)→∀(j:Nat) (s:Int),a≤(j:Int)→(rM sl o t)[j]? =some s→s<0
 |[],_,_,_,_,h,j,s,hj,hs=>h j s hj hs
 |b::t,sl,o,a,ha,h,j,s,hj,hs=>by
  simp only[rM]at hs
  simp only[List.length_cons]at ha
  refine O3 t (sl.set o (b.toNat:Int)) (o+1) a (by omega) (λj s hj hs=> ?_) j s hj hs
  rw[List.getElem?_set_ne (by omega)]at hs
  exact h j s hj hs
theorem Yu (v0:Int)(v1:aa)(v2:Bool)(v3:Int)(v4:List Piec)(v5:Int)(v7 v9:Recv)(w:Nat)(hw:w≤33):∀(held:List Piec) (j:Nat) (a b:Int) (L:Int) (sl:List Int) (r:Recv),ev L a held=some b→0≤a→L≤(w:Int)→w≤sl.length→(∀(j:Nat) (s:Int),a≤(j:Int)→sl[j]? =some s→s<0)→(∀p∈held,p.text.length≤33)→∃r2,fP (W:=Empty) (λ_ p (x:Recv×List Int×List Bool)=>(iz v0 v1 v2 v3 [p] v5 v7 v9 0 x).nice) j held (r,mS w sl,ja w sl)= .next (r2,mS w (held.foldl (λsl p=>rM sl p.off.toNat p.text) sl),ja w (held.foldl (λsl p=>rM sl p.off.toNat p.text) sl))
 |[],_,a,b,L,sl,r,_,_,_,_,_,_=>⟨r,rfl⟩
 |p::held,j,a,b,L,sl,r,hp,ha,hL,hl,hf,ht=>by
  simp only[ev]at hp
  cases hc:((p.text==[])||decide (p.off≤a)||decide (L<p.off+(p.text.length:Int)))with
  |true=>rw[hc]at hp;cases hp
  |false=>
   rw[hc]at hp
   simp only[Bool.or_eq_false_iff,decide_eq_false_iff_not]at hc
   have hpl:=ht p (List.mem_cons_self ..)
   obtain⟨r1,e1⟩:=aec p w (by omega) (by omega) hw p.text.length 0 sl ({r with held:=[]}:Recv) hl (by omega) (λj s hj hs=>hf j s (by omega) hs)
   rw[List.drop_zero,Nat.add_zero]at e1
   obtain⟨r2,e2⟩:=Yu v0 v1 v2 v3 v4 v5 v7 v9 w hw held (j+1) _ b L (rM sl p.off.toNat p.text) ({r1 with held:=[]}:Recv) hp (by omega) hL (by rw[Mn];exact hl) (O3 p.text sl p.off.toNat _ (by omega) (λj s hj hs=>hf j s (by omega) hs)) (λq hq=>ht q (List.mem_cons_of_mem _ hq))
   refine⟨r2, ?_⟩
   rw[fP]
   rw[show(iz v0 v1 v2 v3 [p] v5 v7 v9 0 (r,mS w sl,ja w sl)).nice= .next (({r1 with held:=[]}:Recv),mS w (rM sl p.off.toNat p.text),ja w (rM sl p.off.toNat p.text)) by
    simp only[PX,iz,dI,show Int.toNat 0=0 from rfl,List.getD_cons_zero]
    rw[aN]
    refine(congrArg (Stp.elim _ _) e1).trans ?_
    rfl]
   simp only[Stp.elim]
   exact e2
theorem aen (v0:Int)(v1:aa)(x:Recv)(w:Nat)(hw:w≤33)(hf: -1≤x.fin):∀(t:aa) (j:Nat) (sl:List Int) (r:Recv),w≤sl.length→(∀i,t[i]? =v1[j+i]?)→∃r2,aP (λj a=>(nS v0 v1 (w:Int) x j a).nice) 1 t.length (j:Int) (r,mS w sl,ja w sl)= .next (r2,mS w (AI x v0 (w:Int) sl j t),ja w (AI x v0 (w:Int) sl j t))
 |[],j,sl,r,hl,ht=>⟨r,rfl⟩
 |b::t,j,sl,r,hl,ht=>by
  have hb:v1[j]? =some b:=by have:=ht 0;simpa using this.symm
  have hbt:ai v1 j=(b.toNat:Int):=by simp[ai,List.getD,hb]
  have hll:(CB x v0 (w:Int) sl j b).length=sl.length:=by unfold CB;split<;>simp
  obtain⟨r2,e⟩:=aen v0 v1 x w hw hf t (j+1) (CB x v0 (w:Int) sl j b) ({r with held:=[]}:Recv) (by rw[hll];exact hl) (λi=>by have:=ht (i+1);simp only[List.getElem?_cons_succ]at this;rw[this];congr 1;omega)
  refine⟨r2, ?_⟩
  have eo:((v0+(j:Int))%4294967296-x.next)%4294967296=(v0+(j:Int)-x.next)%4294967296:=by omega
  have hst:(bif (bif decide ((v0+(j:Int)-x.next)%4294967296<(w:Int))then bif x.fin== -1 then(true,())else(decide ((v0+(j:Int)-x.next)%4294967296<x.fin),())else(false,())).1 then(.next (({r with held:=[]}:Recv),(gM.f ((v0+(j:Int)-x.next)%4294967296,(b.toNat:Int),ja w sl,mS w sl,())).2,(gM.f ((v0+(j:Int)-x.next)%4294967296,(b.toNat:Int),ja w sl,mS w sl,())).1):Stp (Recv×List Int×List Bool) Empty)else .next (({r with held:=[]}:Recv),mS w sl,ja w sl))= .next (({r with held:=[]}:Recv),mS w (CB x v0 (w:Int) sl j b),ja w (CB x v0 (w:Int) sl j b)):=by
   have h0:0≤(v0+(j:Int)-x.next)%4294967296:=by omega
   unfold CB
   generalize(v0+(j:Int)-x.next)%4294967296=o at h0
   by_cases c1:o<(w:Int)
   ·rw[MJ w sl o _ h0 c1 hl (by omega)]
    unfold st1
    rw[decide_eq_true c1]
    by_cases c2:x.fin= -1
    ·rw[show(x.fin== -1)=true by simp[c2]]
     by_cases c3:sl.getD o.toNat 0<0
     ·rw[if_pos c3,if_pos ⟨c1,.inl (by omega),c3⟩];rfl
     ·rw[if_neg c3,if_neg (λh=>c3 h.2.2)];rfl
    ·rw[show(x.fin== -1)=false by simp[c2]]
     by_cases c4:o<x.fin
     ·rw[decide_eq_true c4]
      by_cases c3:sl.getD o.toNat 0<0
      ·rw[if_pos c3,if_pos ⟨c1,.inr c4,c3⟩];rfl
      ·rw[if_neg c3,if_neg (λh=>c3 h.2.2)];rfl
     ·rw[decide_eq_false c4,if_neg (show¬(o<(w:Int)∧(x.fin<0∨o<x.fin)∧sl.getD o.toNat 0<0) from λh=>h.2.1.elim (λh=>by omega) c4)];rfl
   ·rw[decide_eq_false c1,if_neg (show¬(o<(w:Int)∧(x.fin<0∨o<x.fin)∧sl.getD o.toNat 0<0) from λh=>c1 h.1)];rfl
  simp only[List.length_cons,aP,PX,nS,bt,sI,eo,af,hbt,AI]
  rw[hst]
  simp only[Stp.elim]
  rw[show(j:Int)+1=((j+1:Nat):Int) by omega]
  simp only[PX,nS,bt,sI]at e
  exact e
theorem KJ {f:Int→Recv→Stp Recv (Int×Recv)}{g:Recv→Recv}(w:Nat)(sl:List Int)(hl:w≤sl.length)(hf:∀(j:Nat) r,f (j:Int) r=bif (ja w sl).getD j false then .next (g r)else .out ((j:Int),g r))(i:Nat)(hi:i+aK (sl.drop i)≤w):∀(n j:Nat) (r:Recv),j+n=w→i≤j→j≤i+aK (sl.drop i)→∃r2,(i+aK (sl.drop i)<w∧aP f 1 n (j:Int) r= .out (((i+aK (sl.drop i):Nat):Int),r2))∨(i+aK (sl.drop i)=w∧aP f 1 n (j:Int) r= .next r2)
 |0,j,r,h,_,h2=>⟨r,.inr ⟨by omega,rfl⟩⟩
 |n+1,j,r,h,h1,h2=>by
  have hj:j<w:=by omega
  rcases Nat.eq_or_lt_of_le h2 with h3|h3
  ·refine⟨g r,.inl ⟨by omega, ?_⟩⟩
   have hjl:j<sl.length:=by omega
   have hneg:=Ft (sl.drop i) sl[j] (by rw[List.getElem?_drop,show i+aK (sl.drop i)=j by omega];exact List.getElem?_eq_getElem hjl)
   simp only[aP,hf]
   rw[uW w sl j hj hl,getD_some (List.getElem?_eq_getElem hjl),decide_eq_false (by omega),←h3]
   rfl
  ·obtain⟨s,hs1,q0⟩:=tC (sl.drop i) (j-i) (by omega)
   rw[List.getElem?_drop,show i+(j-i)=j by omega]at hs1
   obtain⟨r2,h4⟩:=KJ (g:=g) w sl hl hf i hi n (j+1) (g r) (by omega) (by omega) (by omega)
   refine⟨r2, ?_⟩
   have e:aP f 1 (n+1) (j:Int) r=aP f 1 n ((j+1:Nat):Int) (g r):=by
    simp only[aP,hf]
    rw[uW w sl j hj hl,getD_some hs1,decide_eq_true q0]
    simp only[cond_true,Stp.elim]
    rw[show(j:Int)+1=((j+1:Nat):Int) by omega]
   rw[e];exact h4
theorem Af:∀(k k':Nat) (i:Int) (r:List Int),r.length≤k→r.length≤k'→cO k i r=cO k' i r
 |0,k',_,r,h,_=>by
  have:r=[]:=List.eq_nil_of_length_eq_zero (by omega)
  subst this;cases k'<;>simp[cO]
 |k+1,0,_,r,_,h=>by
  have:r=[]:=List.eq_nil_of_length_eq_zero (by omega)
  subst this;simp[cO]
 |k+1,k'+1,i,[],_,_=>by simp[cO]
 |k+1,k'+1,i,s::r,h1,h2=>by
  simp only[List.length_cons]at h1 h2
  simp only[cO]
  have hd:(r.dropWhile (λx=>decide (0≤x))).length≤r.length:=(List.dropWhile_sublist _).length_le
  rw[Af k k' (i+1) r (by omega) (by omega),Af k k' _ (r.dropWhile (λx=>decide (0≤x))) (by omega) (by omega)]
theorem Vz (w:Nat)(sl:List Int)(i n:Nat)(h:i+n≤w)(hn:∀(j:Nat) (s:Int),i≤j→j<i+n→sl[j]? =some s→0≤s):((mS w sl).take (i+n)).drop i=(sl.drop i).take n:=by
 apply List.ext_getElem?
 intro k
 unfold mS
 rw[List.getElem?_drop,List.getElem?_take,List.getElem?_take,List.getElem?_drop,List.getElem?_map,List.getElem?_take]
 by_cases hk:k<n
 ·rw[if_pos (by omega),if_pos hk,if_pos (by omega)]
  cases hs:sl[i+k]? with
  |none=>rfl
  |some s=>
   have:=hn (i+k) s (by omega) (by omega) hs
   simp only[Option.map_some,if_neg (show¬s<0 by omega)]
 ·rw[if_neg (by omega),if_neg hk]
theorem Jm {p:Int→Bool}(r:List Int):r.take (r.takeWhile p).length=r.takeWhile p:=by
 have h:=List.takeWhile_append_dropWhile (p:=p) (l:=r)
 conv=>lhs;arg 2;rw[←h]
 rw[List.take_left'];rfl
theorem Lk {p:Int→Bool}(r:List Int):r.drop (r.takeWhile p).length=r.dropWhile p:=by
 have h:=List.takeWhile_append_dropWhile (p:=p) (l:=r)
 conv=>lhs;arg 2;rw[←h]
 rw[List.drop_left'];rfl
theorem X6 (v4:Recv)(w:Nat)(sl:List Int)(hw:w≤32)(hl:sl.length=33)(hneg:∀(j:Nat) (s:Int),w≤j→sl[j]? =some s→s<0)(n:Nat):∀(m i:Nat) (r o:Recv),i≤w→w-i<m→n≤i→∃r2,cl (λa=>(fR (w:Int) (n:Int) v4 (ja w sl) (mS w sl) a).nice) m ((i:Int),r,o)=(r2,{o with held:=o.held++cO 33 ((i:Int)-(n:Int)) (sl.drop i)})
 |0,i,r,o,_,h,_=>by omega
 |m+1,i,r,o,hi,hm,hn=>by
  rcases Nat.eq_or_lt_of_le hi with h|h
  ·subst h
   refine⟨{r with held:=[]}, ?_⟩
   rw[L1 33 _ (sl.drop i) (λs hs=>by
    obtain⟨p,hp,rfl⟩:=List.getElem_of_mem hs
    rw[List.getElem_drop]
    exact hneg (i+p) _ (by omega) (List.getElem?_eq_getElem (by rw[List.length_drop]at hp;omega))),List.append_nil]
   simp only[cl,PX,fR,decide_eq_false (show¬((i:Int)<(i:Int)) by omega),cond_false,Stp.elim]
  ·have hil:i<sl.length:=by omega
   have hd:sl.drop i=sl[i]::sl.drop (i+1):=List.drop_eq_getElem_cons hil
   have hdl:(sl.drop (i+1)).length≤32:=by rw[List.length_drop];omega
   by_cases hs:sl[i]<0
   ·obtain⟨r2,e⟩:=X6 v4 w sl hw hl hneg n m (i+1) ({r with held:=[]}:Recv) o (by omega) (by omega) (by omega)
    refine⟨r2, ?_⟩
    rw[hd,show cO 33 ((i:Int)-(n:Int)) (sl[i]::sl.drop (i+1))=cO 33 (((i+1:Nat):Int)-(n:Int)) (sl.drop (i+1)) by
     rw[←Af 32 33 _ (sl.drop (i+1)) hdl (by omega)]
     simp only[cO,if_pos hs]
     congr 1;omega]
    rw[←e]
    rw[cl]
    rw[show(fR (w:Int) (n:Int) v4 (ja w sl) (mS w sl) ((i:Int),r,o)).nice= .next (((i+1:Nat):Int),({r with held:=[]}:Recv),o) by
     simp only[PX,fR,decide_eq_true (show((i:Int)<(w:Int)) by omega),cond_true,af]
     rw[uW w sl i h (by omega),getD_some (List.getElem?_eq_getElem hil),decide_eq_false (by omega),aq (by omega) (by omega)]
     rfl]
    rfl
   ·have hlead:i+aK (sl.drop i)≤w:=by
     apply Nat.le_of_not_lt
     intro hc
     obtain⟨s,h1,h2⟩:=tC (sl.drop i) (w-i) (by omega)
     rw[List.getElem?_drop,show i+(w-i)=w by omega]at h1
     have:=hneg w s (Nat.le_refl _) h1
     omega
    have hle:aK (sl.drop i)=1+((sl.drop (i+1)).takeWhile (λx=>decide (0≤x))).length:=by
     unfold aK
     rw[hd,List.takeWhile_cons,decide_eq_true (show 0≤sl[i] by omega)]
     simp only[if_true,List.length_cons];omega
    obtain⟨r1,e1⟩:=KJ (g:=λr:Recv=>({r with held:=[]}:Recv)) (f:=λj a=>(oQ (ja w sl) j a).nice) w sl (by omega) (λj r=>by
     simp only[PX,oQ,af]) i hlead (w-i) i ({r with held:=[]}:Recv) (by omega) (Nat.le_refl _) (by omega)
    have hseg:((mS w sl).take (i+aK (sl.drop i))).drop i=sl[i]::(sl.drop (i+1)).takeWhile (λx=>decide (0≤x)):=by
     rw[Vz w sl i (aK (sl.drop i)) hlead (λj s h1 h2 h3=>by
      obtain⟨s2,h4,h5⟩:=tC (sl.drop i) (j-i) (by omega)
      rw[List.getElem?_drop,show i+(j-i)=j by omega,h3]at h4
      cases h4;exact h5)]
     have:aK (sl.drop i)=((sl.drop i).takeWhile (λx=>decide (0≤x))).length:=rfl
     rw[this,Jm,hd,List.takeWhile_cons,decide_eq_true (show 0≤sl[i] by omega)]
     rfl
    have hdd:sl.drop (i+aK (sl.drop i))=(sl.drop (i+1)).dropWhile (λx=>decide (0≤x)):=by
     rw[hle,←Nat.add_assoc,←List.drop_drop,Lk]
    have hr:cO 33 ((i:Int)-(n:Int)) (sl.drop i)=⟨(i:Int)-(n:Int),aw (sl[i]::(sl.drop (i+1)).takeWhile (λx=>decide (0≤x)))⟩::cO 33 (((i+aK (sl.drop i):Nat):Int)-(n:Int)) (sl.drop (i+aK (sl.drop i))):=by
     conv=>lhs;rw[hd]
     rw[hdd]
     have hdw:((sl.drop (i+1)).dropWhile (λx=>decide (0≤x))).length≤32:=Nat.le_trans (List.dropWhile_sublist _).length_le hdl
     rw[←Af 32 33 _ _ hdw (by omega)]
     simp only[cO,if_neg hs]
     congr 2;omega
    rw[hr]
    have hstep:∃r3:Recv,(fR (w:Int) (n:Int) v4 (ja w sl) (mS w sl) ((i:Int),r,o)).nice= .next (((i+aK (sl.drop i):Nat):Int),r3,({o with held:=o.held++[⟨(i:Int)-(n:Int),aw (sl[i]::(sl.drop (i+1)).takeWhile (λx=>decide (0≤x)))⟩]}:Recv)):=by
     simp only[PX,fR,decide_eq_true (show((i:Int)<(w:Int)) by omega),cond_true,af,eq]
     rw[uW w sl i h (by omega),getD_some (List.getElem?_eq_getElem hil),decide_eq_true (show 0≤sl[i] by omega),aq (m:=(i:Int)-(n:Int)) (by omega) (by omega)]
     simp only[Bool.not_true,cond_false]
     rw[show Int.toNat ((w:Int)-(i:Int))=w-i by omega]
     rcases e1 with⟨h1,h2⟩|⟨h1,h2⟩
     ·rw[h2]
      simp only[Stp.elim,Sum.elim_inl,af,hseg]
      exact⟨_,rfl⟩
     ·rw[h2]
      rw[h1]at hseg
      simp only[Stp.elim,Sum.elim_inr,h1]
      rw[show(i:Int)+1*((w-i:Nat):Int)=(w:Int) by omega,af,hseg]
      exact⟨_,rfl⟩
    obtain⟨r3,hst⟩:=hstep
    obtain⟨r2,e⟩:=X6 v4 w sl hw hl hneg n m (i+aK (sl.drop i)) r3 ({o with held:=o.held++[⟨(i:Int)-(n:Int),aw (sl[i]::(sl.drop (i+1)).takeWhile (λx=>decide (0≤x)))⟩]}:Recv) hlead (by omega) (by omega)
    refine⟨r2, ?_⟩
    rw[cl,hst]
    simp only[Stp.elim]
    rw[e]
    simp only[List.append_assoc,List.singleton_append]
def IQ (x:Recv)(w:Nat)(sl:List Int)(z o:Recv):Tr Recv:=
 .lp (dU ((w:Int),(aK sl:Int),(aK sl:Int),({z with held:=[]}:Recv),x,ja w sl,({o with held:=[]}:Recv),mS w sl,())).lp λp=>
  .ite (decide (3<(p.2.held.length:Int))) (.ret x)<| .ite (p.2.fin==0) (.val ((p.2.next+1)%4294967296) λc=> .ret (⟨c,p.2.data,p.2.held,-1,true⟩:Recv))<| .ret p.2
theorem P0 (x:Recv)(w:Nat)(sl:List Int)(z o:Recv)(hw:w≤32)(hl:sl.length=33)(hneg:∀(j:Nat) (s:Int),w≤j→sl[j]? =some s→s<0)(hld:aK sl≤w):(IQ x w sl z o).nice=if 3<(cO 33 0 (sl.drop (aK sl))).length then x else if o.fin=0 then(⟨(o.next+1)%4294967296,o.data,cO 33 0 (sl.drop (aK sl)),-1,true⟩:Recv)else⟨o.next,o.data,cO 33 0 (sl.drop (aK sl)),o.fin,o.done⟩:=by
 obtain⟨r5,e5⟩:=X6 x w sl hw hl hneg (aK sl) (w-aK sl+1) (aK sl) ({z with held:=[]}:Recv) ({o with held:=[]}:Recv) hld (by omega) (Nat.le_refl _)
 rw[Int.sub_self]at e5
 simp only[IQ,PX,dU]
 rw[show Int.toNat ((w:Int)-(aK sl:Int))=w-aK sl by omega,e5]
 simp only[List.nil_append]
 by_cases h3:3<(cO 33 0 (sl.drop (aK sl))).length
 ·rw[if_pos h3,decide_eq_true (show(3:Int)<((cO 33 0 (sl.drop (aK sl))).length:Int) by omega)];rfl
 ·rw[if_neg h3,decide_eq_false (show¬(3:Int)<((cO 33 0 (sl.drop (aK sl))).length:Int) by omega)]
  by_cases h0:o.fin=0
  ·rw[if_pos h0,show(o.fin==0)=true by simp[h0]];rfl
  ·rw[if_neg h0,show(o.fin==0)=false by simp[h0]];rfl
theorem Uh (x:Recv)(w:Nat)(sl:List Int)(z:Recv)(F f:Int)(hw:w≤32)(hl:sl.length=33)(hneg:∀(j:Nat) (s:Int),w≤j→sl[j]? =some s→s<0)(hld:aK sl≤w)(hF: -1≤F)(hdn:x.done=false)(hn:0≤x.next)(hf:(F= -1∧f=F)∨(F≠-1∧f=F-(aK sl:Int))):(IQ x w sl z (⟨(x.next+(aK sl:Int))%4294967296,x.data++aw (sl.take (aK sl)),x.held,f,false⟩:Recv)).nice=Vx x sl F:=by
 rw[P0 x w sl z _ hw hl hneg hld]
 unfold Vx
 by_cases h3:3<(cO 33 0 (sl.drop (aK sl))).length
 ·rw[if_pos h3,if_pos h3]
 ·rw[if_neg h3,if_neg h3]
  simp only[]
  rcases hf with⟨h1,h2⟩|⟨h1,h2⟩
  ·rw[if_neg (show¬f=0 by omega),if_neg (show¬F-(aK sl:Int)=0 by omega),if_pos h1,h2,h1,hdn]
  ·by_cases h4:F-(aK sl:Int)=0
   ·rw[if_pos (show f=0 by omega),if_pos h4,show((x.next+(aK sl:Int))%4294967296+1)%4294967296=(x.next+(aK sl:Int)+1)%4294967296 by omega]
   ·rw[if_neg (show¬f=0 by omega),if_neg h4,if_neg h1,h2,hdn]
theorem Pq {α β:Type}{K:α→β}{r:β}{s:α⊕α}(P:α→Prop)(hs:Sum.elim P P s)(h:∀z,P z→K z=r):Sum.elim K K s=r:=by
 cases s with
 |inl a=>exact h a hs
 |inr a=>exact h a hs
theorem afV (x:Recv)(hx:RV x):∃w:Nat,mN x=(w:Int)∧w≤32:=by
 have:=oi x hx.dl
 exact⟨(mN x).toNat,by omega,by omega⟩
theorem Ni (xs:List Bool)(t:Bool):qA.f (xs,t,())=dK (λb=>t==b) xs:=by
 simp only[PX,qA,jV]
 rw[iB (λb=>t==b) xs (λj x a h=>by
  simp only[PX,tT,af,getD_some h])]
 unfold dK
 cases xs.findIdx? (λb=>t==b)<;>rfl
theorem EY (xs:List Bool)(t:Bool):fp.f (xs,t,())=xs.any (λb=>t==b):=by
 simp only[PX,fp,Ni,jU]
theorem PZ (x:Recv)(seq:Int)(t:aa)(fin:Bool)(hs:be x.held):uR.f (x,seq,t,fin,())=nK x seq t fin:=by
 simp only[PX,uR,qk]
 unfold nK
 cases hok:br.f (x,())with
 |false=>rfl
 |true=>
 cases hdn:x.done with
 |true=>rfl
 |false=>
 have hx:=(mf x hs).1 hok
 have hpo:dg po x.held:=Mo x hx
 obtain⟨w,hwe,hw⟩:=afV x hx
 have hsl:=KH x hx seq t
 have hn0:=hx.n0
 have hn1:=hx.n1
 have hf0:=hx.f0
 have hf1:=hx.f1
 obtain⟨bb,hwk⟩:=hx.wk
 simp only[Bool.not_true,cond_false,gD x hx.dl,hwe,fZ,f8,af]
 have z1:List.replicate w (0:Int)=mS w (List.replicate 33 (-1)):=by
  unfold mS;rw[List.take_replicate,Nat.min_eq_left (by omega),List.map_replicate];rfl
 have z2:List.replicate w false=ja w (List.replicate 33 (-1)):=by
  unfold ja;rw[List.take_replicate,Nat.min_eq_left (by omega),List.map_replicate];rfl
 rw[z1,z2]
 obtain⟨r1,e1⟩:=Yu seq t fin (w:Int) x.held (x.held.length:Int) x x w (by omega) x.held 0 0 bb _ (List.replicate 33 (-1)) (⟨0,[],[],0,false⟩:Recv) hwk (Int.le_refl _) (by split<;>omega) (by rw[List.length_replicate];omega) (λj s _ h=>by
  have:=List.eq_of_mem_replicate (List.mem_of_getElem? h);omega) (λp hp=>by have:=hpo p hp;unfold po at this;omega)
 rw[cS x.held _ (aN _) (F:=λ_ p (a:Recv×List Int×List Bool)=>(iz seq t fin (w:Int) [p] (x.held.length:Int) x x 0 a).nice) (by
  intro j p a hp
  simp only[PX,iz,dI,af,getD_some hp,show Int.toNat 0=0 from rfl,List.getD_cons_zero])]
 rw[e1]
 simp only[Stp.elim]
 have hsn:x.held.foldl (λsl p=>rM sl p.off.toNat p.text) (List.replicate 33 (-1))=o9 x.held:=rfl
 rw[hsn]
 obtain⟨r2,e2⟩:=aen seq t x w (by omega) hf0 t 0 (o9 x.held) ({r1 with held:=[]}:Recv) (by unfold o9;rw[rQ,List.length_replicate];omega) (λi=>by rw[Nat.zero_add])
 rw[show((0:Nat):Int)=0 from rfl]at e2
 rw[aN,e2]
 simp only[Stp.elim,bt,sI]
 have hL:AI x seq (w:Int) (o9 x.held) 0 t=Kx x seq t:=by unfold Kx;rw[hwe]
 rw[hL]
 have hL2:AI x seq (mN x) (o9 x.held) 0 t=Kx x seq t:=rfl
 rw[hL2]at hsl
 have ee:((seq+(t.length:Int))%4294967296-x.next)%4294967296=(seq+(t.length:Int)-x.next)%4294967296:=by omega
 rw[ee]
 have he0:0≤(seq+(t.length:Int)-x.next)%4294967296:=by omega
 generalize(seq+(t.length:Int)-x.next)%4294967296=e at he0
 generalize Kx x seq t=sl at hsl
 clear e1 e2 hL hL2 hsn z1 z2 ee
 obtain⟨hl,hat⟩:=hsl
 have hneg:∀(j:Nat) (s:Int),w≤j→sl[j]? =some s→s<0:=λj s hj h=>by
  apply Int.not_le.1
  intro h0
  have:=(hat j s h).2.2 h0
  rw[hwe]at this hf1
  split at this<;>omega
 have hany:(ja w sl).drop e.toNat=((sl.drop e.toNat).take (w-e.toNat)).map (λs=>decide (0≤s)):=by
  unfold ja
  rw[←List.map_drop,List.drop_take]
 have hcont:e≤(w:Int)→fp.f (((ja w sl).take (ja w sl).length).drop e.toNat,true,())= !(sl.drop e.toNat).all (λs=>decide (s<0)):=by
  intro hew
  rw[List.take_length,EY,hany]
  rw[Bool.eq_iff_iff]
  simp only[List.any_eq_true,List.mem_map,Bool.not_eq_true',List.all_eq_false]
  constructor
  ·rintro⟨b,⟨s,hs1,rfl⟩,hb⟩
   refine⟨s,List.mem_of_mem_take hs1, ?_⟩
   simp at hb⊢;omega
  ·rintro⟨s,hs1,q0⟩
   refine⟨true,⟨s, ?_, ?_⟩,rfl⟩
   ·obtain⟨k,hk,rfl⟩:=List.getElem_of_mem hs1
    rw[List.getElem_drop]at q0⊢
    have hk2:e.toNat+k<w:=by
     apply Nat.lt_of_not_le
     intro hc
     have:=hneg (e.toNat+k) _ hc (List.getElem?_eq_getElem (by rw[List.length_drop]at hk;omega))
     simp at q0;omega
    rw[List.mem_take_iff_getElem]
    refine⟨k,by rw[List.length_drop];omega, ?_⟩
    rw[List.getElem_drop]
   ·simp at q0⊢;omega
 have hF0: -1≤Kr x sl e fin:=by unfold Kr;split<;>omega
 have hF1:Kr x sl e fin≤(w:Int):=by unfold Kr;rw[hwe]at hf1⊢;split<;>omega
 have hcond:(bif (bif fin then bif x.fin== -1 then bif decide (e≤(w:Int))then(!fp.f (((ja w sl).take (ja w sl).length).drop e.toNat,true,()),())else(false,())else(false,())else(false,())).1 then((w:Int),x,({r2 with held:=[]}:Recv),x,ja w sl,(⟨x.next,x.data,x.held,e,false⟩:Recv),mS w sl,())else((w:Int),x,({r2 with held:=[]}:Recv),x,ja w sl,x,mS w sl,()))=((w:Int),x,({r2 with held:=[]}:Recv),x,ja w sl,(⟨x.next,x.data,x.held,Kr x sl e fin,x.done⟩:Recv),mS w sl,()):=by
  unfold Kr
  cases fin with
  |false=>simp
  |true=>
   by_cases c1:x.fin= -1
   ·rw[show(x.fin== -1)=true by simp[c1]]
    by_cases c2:e≤(w:Int)
    ·rw[decide_eq_true c2,hcont c2,hwe]
     cases hall:(sl.drop e.toNat).all (λs=>decide (s<0))with
     |true=>simp only[cond_true,Bool.not_true,Bool.not_false,true_and,if_pos (show x.fin<0∧e≤(w:Int)∧True from⟨by omega,c2,trivial⟩),hdn]
     |false=>simp
    ·rw[decide_eq_false c2,hwe,if_neg (λh=>c2 h.2.2.1)];rfl
   ·rw[show(x.fin== -1)=false by simp[c1],if_neg (λh=>by have:=h.2.1;omega)];rfl
 have hld0:aK sl≤w:=by
  apply Nat.le_of_not_lt
  intro hc
  obtain⟨s,h1,h2⟩:=tC sl w hc
  have:=hneg w s (Nat.le_refl _) h1
  omega
 obtain⟨r3,e3⟩:=KJ (g:=λr:Recv=>({r with held:=[]}:Recv)) (f:=λj a=>(sj (ja w sl) j a).nice) w sl (by omega) (λj r=>by
  simp only[PX,sj,af]) 0 (by rw[List.drop_zero,Nat.zero_add];exact hld0) w 0 ({r2 with held:=[]}:Recv) (by omega) (Nat.le_refl _) (Nat.zero_le _)
 rw[List.drop_zero,Nat.zero_add,show((0:Nat):Int)=0 from rfl]at e3
 have hdat:aw (((mS w sl).take (aK sl)).drop 0)=aw (sl.take (aK sl)):=by
  have:=Vz w sl 0 (aK sl) (by omega) (λj s _ h2 h3=>by
   obtain⟨s2,h4,h5⟩:=tC sl j (by omega)
   rw[h3]at h4;cases h4;exact h5)
  rw[Nat.zero_add]at this
  rw[this,List.drop_zero]
 generalize hF:Kr x sl e fin=F at hF0 hF1 hcond⊢
 generalize(bif fin then bif x.fin== -1 then bif decide (e≤(w:Int))then(!fp.f (((ja w sl).take (ja w sl).length).drop e.toNat,true,()),())else(false,())else(false,())else(false,())).1=b at hcond⊢
 rw[if_pos (⟨trivial,trivial⟩:True∧True)]
 have hE:∀(z:Recv),(IQ x w sl z (⟨(x.next+(aK sl:Int))%4294967296,x.data++aw (sl.take (aK sl)),x.held,if F= -1 then F else F-(aK sl:Int),false⟩:Recv)).nice=Vx x sl F:=λz=>Uh x w sl z F _ hw hl hneg hld0 hF0 hdn hn0 (by
  by_cases hh:F= -1
  ·exact .inl ⟨hh,if_pos hh⟩
  ·exact .inr ⟨hh,if_neg hh⟩)
 have hwr:IntKind.wrap .i64 (F-(aK sl:Int))=F-(aK sl:Int):=aq (by omega) (by omega)
 cases b with
 |true=>
  simp only[cond_true]at hcond⊢
  have hfin:e=F:=(by simpa using congrArg (λp=>p.2.2.2.2.2.1.fin) hcond)
  clear hcond
  dsimp only[Tr.nice]
  simp only[PX,eS,hfin]
  rw[show Int.toNat ((w:Int)-0)=w by omega]
  rcases e3 with⟨h1,h2⟩|⟨h1,h2⟩<;>refine(congrArg (Stp.elim _ _) h2).trans ?_ <;>simp only[Stp.elim]<;>refine Pq (λz:Int×Recv=>z.1=(aK sl:Int)) (by first|rfl|(show(0:Int)+1*((w:Nat):Int)=_;omega)) ?_ <;>rintro⟨z1,z2⟩ hz<;>simp only[]at hz<;>subst hz<;>simp only[wu,af,hdat,hwr]<;>by_cases hF2:F= -1
  all_goals (have hE2:=hE z2)
  all_goals (first|rw[if_pos hF2]at hE2|rw[if_neg hF2]at hE2)
  ·rw[show(F != -1)=false by simp[hF2]];exact hE2
  ·rw[show(F != -1)=true by simp[hF2]];exact hE2
  ·rw[show(F != -1)=false by simp[hF2]];exact hE2
  ·rw[show(F != -1)=true by simp[hF2]];exact hE2
 |false=>
  simp only[cond_false]at hcond⊢
  have hfin:x.fin=F:=(by simpa using congrArg (λp=>p.2.2.2.2.2.1.fin) hcond)
  clear hcond
  dsimp only[Tr.nice]
  simp only[PX,eS,hfin,hdn]
  rw[show Int.toNat ((w:Int)-0)=w by omega]
  rcases e3 with⟨h1,h2⟩|⟨h1,h2⟩<;>refine(congrArg (Stp.elim _ _) h2).trans ?_ <;>simp only[Stp.elim]<;>refine Pq (λz:Int×Recv=>z.1=(aK sl:Int)) (by first|rfl|(show(0:Int)+1*((w:Nat):Int)=_;omega)) ?_ <;>rintro⟨z1,z2⟩ hz<;>simp only[]at hz<;>subst hz<;>simp only[wu,af,hdat,hwr]<;>by_cases hF2:F= -1
  all_goals (have hE2:=hE z2)
  all_goals (first|rw[if_pos hF2]at hE2|rw[if_neg hF2]at hE2)
  ·rw[show(F != -1)=false by simp[hF2]];exact hE2
  ·rw[show(F != -1)=true by simp[hF2]];exact hE2
  ·rw[show(F != -1)=false by simp[hF2]];exact hE2
  ·rw[show(F != -1)=true by simp[hF2]];exact hE2
theorem Wo (s:Sndr)(ack:Int):I6.f (s,ack,())=if uQ s ack=true then(cW s (tt ack s.una),true)else(s,false):=by
 simp only[PX,I6,vR,au,bt]
 unfold uQ
 cases hk:bj.f (s,())with
 |false=>rfl
 |true=>
  have hs:=(yZ s).1 hk
  simp only[vq s hs]
  obtain⟨e1,e2,e3,e4,e5,e6,e7⟩:=hs
  generalize tt ack s.una=n
  simp only[Bool.not_true,cond_false,Bool.true_and]
  by_cases hn:0≤n∧n≤IJ s
  ·rw[decide_eq_true hn.1,decide_eq_true hn.2]
   simp only[Bool.and_self,Bool.not_true,cond_false,if_true]
   have hfl:=hn.2
   unfold IJ at hfl
   unfold cW
   by_cases hc:s.sent<n
   ·have hf:s.finSent=true:=by
     cases hfs:s.finSent with
     |true=>rfl
     |false=>rw[hfs]at hfl;simp only[Bool.false_eq_true,if_false]at hfl;omega
    have hl:=(e6 hf).2
    rw[hf]at hfl;simp only[if_true]at hfl
    have e:(if(s.data.length:Int)<n then(s.data.length:Int)else n)=s.sent:=by rw[if_pos (by omega)];omega
    simp only[if_pos hc,e]
    rw[aq (m:=s.sent+1) (by omega) (by omega),show(n==s.sent+1)=true by simp;omega,aq (by omega) (by omega)]
    simp only[PX,af,List.take_length,cond_true]
   ·have e:(if(s.data.length:Int)<n then(s.data.length:Int)else n)=n:=by rw[if_neg (by omega)]
    simp only[if_neg hc,e]
    rw[aq (m:=s.sent+1) (by omega) (by omega),show(n==s.sent+1)=false by simp;omega,aq (by omega) (by omega)]
    simp only[PX,af,List.take_length,cond_false]
  ·have e:(decide (0≤n)&&decide (n≤IJ s))=false:=by
    rw[Bool.and_eq_false_iff];simp only[decide_eq_false_iff_not];omega
   rw[e];rfl
theorem X1 (w sc:Int)(h0:0≤w)(h1:w≤65535)(h2:sc≤14):IntKind.wrap .i64 (w*2 ^ (min (if sc<0 then 0 else sc).toNat 64))=jp w sc∧jp w sc≤1073725440:=by
 have hr:=KA w sc h0 h1 h2
 have hk:(if sc<0 then 0 else sc).toNat≤14:=by split<;>omega
 rw[Nat.min_eq_left (by omega)]
 unfold jp at hr⊢
 exact⟨aq (by omega) (by omega),hr.2⟩
theorem GP (w:Int)(o:Opti)(h0:0≤w)(h1:w≤65535)(h2:o.scale≤14):ya.f (w,o,())=jp w o.scale:=by
 obtain⟨e1,e2⟩:=X1 w o.scale h0 h1 h2
 simp only[PX,ya,e1]
 rw[if_neg (by omega)]
theorem JQ (n:Int)(h0:0≤n)(h1:n≤100):IntKind.wrap .u64 n=n:=by rw[zT];omega
theorem RQ (x:Conn):aO.f (x,())=(aO.f ({x with tries:=0},())&&(decide (0≤x.tries)&&decide (x.tries≤3))):=by
 rw[M0,M0]
 simp only[]
 generalize aG.f (x.tuple,())=b1
 generalize bj.f (x.s,())=b2
 generalize br.f (x.r,())=b3
 generalize aM.f (x.opts,())=b4
 generalize(decide (1≤x.state)&&decide (x.state≤8))=b5
 generalize(decide (0≤x.most)&&decide (x.most≤1073725440))=b6
 generalize(decide (0≤x.window)&&decide (x.window≤x.most))=b7
 generalize(decide (0≤x.timer)&&bif x.state==7 then decide (x.timer≤4)else decide (x.timer≤3))=b8
 generalize(decide (0≤x.tries)&&decide (x.tries≤3))=b9
 generalize Yq x.state x.s.fin x.s.done x.r.done=b10
 have z:(decide ((0:Int)≤0)&&decide ((0:Int)≤3))=true:=rfl
 rw[z]
 cases b1<;>cases b2<;>cases b3<;>cases b4<;>cases b5<;>cases b6<;>cases b7<;>cases b8<;>simp[Bool.and_comm]
def Yo (x:Conn)(k:Int):Conn:=bif (bif !aO.f ({x with state:=k,timer:=0},())then(true,())else(!(decide (0≤x.timer)&&decide (x.timer≤4)),())).1 then x else bif k==7 then{x with state:=k,timer:=4,tries:=0}else bif k==8 then{x with state:=k,timer:=0,tries:=0}else{x with state:=k}
theorem Yd (x:Conn)(hk:oO x.state x.s.done x.r.done≠x.state):Yo x (oO x.state x.s.done x.r.done)=d5 x:=by
 unfold Yo d5 Ld
 rw[RQ]
 simp only[]
 generalize oO x.state x.s.done x.r.done=k at hk
 rw[if_neg hk]
 generalize(decide (0≤x.timer)&&decide (x.timer≤4))=b1
 generalize(decide (0≤x.tries)&&decide (x.tries≤3))=b2
 cases aO.f (({x with state:=k,timer:=0,tries:=0}:Conn),())with
 |false=>rfl
 |true=>
 cases b1 with
 |false=>cases b2<;>rfl
 |true=>
 cases b2 with
 |false=>rfl
 |true=>
 simp only[Bool.not_true,cond_false,Bool.and_self,if_true]
 by_cases h7:k=7
 ·subst h7;rfl
 ·rw[if_neg h7,show(k==7)=false by simp[h7]]
  simp only[cond_false]
  by_cases h8:k=8
  ·subst h8;rfl
  ·rw[if_neg h8,show(k==8)=false by simp[h8]];rfl
theorem Rt (x:Conn)(hk:oO x.state x.s.done x.r.done=x.state):d5 x=x:=by
 unfold d5
 split
 ·rfl
 ·rfl
theorem GS (x:Conn):rO.f (x,())=d5 x:=by
 simp only[PX,rO,cj,au]
 have t1:=Yd x
 have t2:=Rt x
 have hst:x.state=1∨x.state=2∨x.state=3∨x.state=5∨x.state=6∨(x.state≠1∧x.state≠2∧x.state≠3∧x.state≠5∧x.state≠6):=by omega
 rcases hst with h|h|h|h|h|⟨h1,h2,h3,h5,h6⟩
 case inr.inr.inr.inr.inr=>
  have e:oO x.state x.s.done x.r.done=x.state:=by
   unfold oO;rw[if_neg h1,if_neg h2,if_neg h3,if_neg h5,if_neg h6]
  rw[t2 e,show(x.state==1)=false by simp[h1],show(x.state==2)=false by simp[h2],show(x.state==3)=false by simp[h3],show(x.state==5)=false by simp[h5],show(x.state==6)=false by simp[h6]]
  rfl
 all_goals (rw[h]at t1 t2⊢;cases hs:x.s.done<;>cases hr:x.r.done<;>rw[hs,hr]at t1 t2<;>first|exact(t2 rfl).symm|exact t1 (by decide))
structure V5 (c:Conn)(g:Segm):Prop where
 co:CO c
 s8:c.state≠8
 sg:ak.f (g,())=true
 n4:bp.f (g,4,())=false
 n2:bp.f (g,2,())=false
 fit:Th c g.ack=true
theorem vd5 (c:Conn)(g:Segm)(h:EU c g=5):V5 c g:=by
 unfold EU at h
 cases h1:aO.f (c,())with
 |false=>rw[h1]at h;simp at h
 |true=>
 cases h2:(c.state==8)with
 |true=>rw[h1,h2]at h;simp at h
 |false=>
 cases h3:ak.f (g,())with
 |false=>rw[h1,h2,h3]at h;simp at h
 |true=>
 rw[h1,h2,h3]at h
 simp only[Bool.not_false,Bool.and_self,cond_true]at h
 cases h4:bp.f (g,4,())with
 |true=>
  rw[h4]at h
  simp only[cond_true]at h
  exfalso;revert h
  cases(g.seq==c.r.next)<;>cases vT g.seq c.r.next (mN c.r)<;>simp
 |false=>
 rw[h4]at h
 simp only[cond_false]at h
 cases h5:bp.f (g,2,())with
 |true=>rw[h5]at h;simp at h
 |false=>
 rw[h5]at h
 simp only[cond_false]at h
 refine⟨(qi c).1 h1,by simpa using h2,h3,h4,h5, ?_⟩
 revert h
 cases Wp c g<;>cases bp.f (g,16,())<;>cases Th c g.ack<;>simp
theorem bq (g:Segm):ak.f (g,())=true↔((0≤g.from_∧g.from_≤65535)∧(0≤g.to∧g.to≤65535)∧(0≤g.seq∧g.seq≤4294967295)∧(0≤g.ack∧g.ack≤4294967295)∧(0≤g.flags∧g.flags≤63)∧(0≤g.window∧g.window≤65535)∧aM.f (g.opts,())=true∧g.body.length≤1420):=by
 simp only[PX,ak,dj,cb,Wk]
 rw[show((g.body.length≤1420)↔decide (((g.body.length:Nat):Int)≤1420)=true) by simp;omega]
 simp only[←Bool.decide_and,Bool.cond_eq_ite,Bool.if_false_right,Bool.decide_eq_true,Bool.and_eq_true,decide_eq_true_eq]
 constructor
 ·rintro⟨a,b,w,s,k,f,o,bd⟩;exact⟨a,b,s,k,f,w,o,bd⟩
 ·rintro⟨a,b,s,k,f,w,o,bd⟩;exact⟨a,b,w,s,k,f,o,bd⟩
theorem abj (a b:Int):jZ.f (a,b,())=if a<b then a else b:=kA a b
theorem Ke (a b:Int):fD.f (a,b,())=if b<a then a else b:=mt a b
theorem V1 (w sc:Int)(h0:0≤w)(h1:w≤65535)(h2:sc≤14):jZ.f (1073725440,IntKind.wrap .i64 (w*2 ^ (min (IntKind.wrap .u64 (fD.f (0,sc,()))).toNat 64)),())=jp w sc:=by
 obtain⟨e1,e2⟩:=X1 w sc h0 h1 h2
 rw[Ke,show(if sc<0 then(0:Int)else sc)=(if sc<0 then 0 else sc) from rfl,JQ _ (by split<;>omega) (by split<;>omega),e1,abj,if_neg (by omega)]
theorem LD (a b f k:Int):(bif a != b then(k != 7,())else bif f==0 then(k != 7,())else(false,())).1=decide ((a≠b∨f=0)∧k≠7):=by
 cases h1:(a != b)<;>cases h2:(f==0)<;>cases h3:(k != 7)<;>simp_all
theorem OW (x:Recv)(seq:Int)(t:aa)(fin:Bool)(hx:RV x):be (nK x seq t fin).held:=(Jz x seq t fin hx).small
theorem WR (c:Conn)(g:Segm)(hs:be c.r.held):Ek.f (c,g,())=if EU c g=5 then fY c g else c:=by
 simp only[PX,Ek,fG,CF c g hs]
 by_cases hv:EU c g=5
 ·rw[if_pos hv,show(EU c g != 5)=false by simp[hv]]
  have h:=vd5 c g hv
  have hr:=(mf c.r hs).1 h.co.rcv
  have hb:=iI g h.sg
  have hw:=((bq g).1 h.sg).2.2.2.2.2.1
  have hsc:=(fv c.opts h.co.opt).2
  have hS:=V1 g.window c.opts.scale hw.1 hw.2 hsc
  have tl:∀u:Conn,u.r=c.r→(bif ce.f (c.state,1,3,())then tc.f (({u with r:=rp.f (c.r,g.seq,g.body,gn.f (g,1,()),())}:Conn),())else tc.f (u,()))=if 1≤c.state∧c.state≤3 then d5 {u with r:=nK c.r g.seq g.body (gn.f (g,1,()))}else d5 u:=by
   intro u hu
   rw[Sc c.r _ _ _ hs (by omega),GR u (by rw[hu];exact hs),GR _ (OW c.r _ _ _ hr),bH]
   by_cases h3:1≤c.state∧c.state≤3
   ·rw[if_pos h3,decide_eq_true h3.1,decide_eq_true h3.2];rfl
   ·rw[if_neg h3,show(decide (1≤c.state)&&decide (c.state≤3))=false by rw[Bool.and_eq_false_iff];simp only[decide_eq_false_iff_not];omega];rfl
  simp only[WL,cond_false]
  unfold fY wO
  by_cases ha:uQ c.s g.ack=true
  ·have hso:=Lg c.s h.co.snd (tt g.ack c.s.una) (by
    unfold uQ at ha;simp only[Bool.and_eq_true,decide_eq_true_eq]at ha;exact ha.2.1) (by
    unfold uQ at ha;simp only[Bool.and_eq_true,decide_eq_true_eq]at ha;exact ha.2.2)
   have hM:fD.f (c.most,jp g.window c.opts.scale,())=if c.most<jp g.window c.opts.scale then jp g.window c.opts.scale else c.most:=by
    rw[Ke];split<;>split<;>omega
   simp only[if_pos ha,cond_true,yI,vq _ hso.1,hS,hM]
   have hcnd:(bif (cW c.s (tt g.ack c.s.una)).una != c.s.una then(c.state != 7,())else bif IJ (cW c.s (tt g.ack c.s.una))==0 then(c.state != 7,())else(false,())).1=decide (((cW c.s (tt g.ack c.s.una)).una≠c.s.una∨IJ (cW c.s (tt g.ack c.s.una))=0)∧c.state≠7):=LD _ _ _ _
   rw[hcnd]
   have tl2:=λ(t r:Int)=>tl ({c with s:=cW c.s (tt g.ack c.s.una),window:=jp g.window c.opts.scale,most:=(if c.most<jp g.window c.opts.scale then jp g.window c.opts.scale else c.most),timer:=t,tries:=r}:Conn) rfl
   by_cases hq:((cW c.s (tt g.ack c.s.una)).una≠c.s.una∨IJ (cW c.s (tt g.ack c.s.una))=0)∧c.state≠7
   ·simp only[decide_eq_true hq,if_pos hq,cond_true]
    by_cases h0:0<IJ (cW c.s (tt g.ack c.s.una))
    ·simp only[decide_eq_true h0,if_pos h0,cond_true]
     dsimp only[Tr.nice]
     exact tl2 3 0
    ·simp only[decide_eq_false h0,if_neg h0,cond_false]
     dsimp only[Tr.nice]
     exact tl2 0 0
   ·simp only[decide_eq_false hq,if_neg hq,cond_false]
    dsimp only[Tr.nice]
    exact tl2 c.timer c.tries
  ·simp only[if_neg ha,cond_false]
   dsimp only[Tr.nice]
   exact tl c rfl
 ·rw[if_neg hv,show(EU c g != 5)=true by simp[hv]];rfl
theorem Yh (c:Conn)(g:Segm)(hs:be c.r.held):DX.f (c,g,())=if EU c g=5 then fY c g else c:=by
 simp only[PX,DX,cj,Dr c g hs]
 by_cases hv:EU c g=5
 ·rw[if_pos hv,show(EU c g != 5)=false by simp[hv]]
  have h:=vd5 c g hv
  have hr:=(mf c.r hs).1 h.co.rcv
  have hw:=((bq g).1 h.sg).2.2.2.2.2.1
  have hsc:=(fv c.opts h.co.opt).2
  have tl:∀u:Conn,u.r=c.r→(bif (bif c.state==1 then(true,())else bif c.state==2 then(true,())else(c.state==3,())).1 then rO.f (({u with r:=uR.f (c.r,g.seq,g.body,bp.f (g,1,()),())}:Conn),())else rO.f (u,()))=if 1≤c.state∧c.state≤3 then d5 {u with r:=nK c.r g.seq g.body (gn.f (g,1,()))}else d5 u:=by
   intro u hu
   rw[PZ c.r _ _ _ hs,GS u,GS,LZ]
   have hk:(bif c.state==1 then(true,())else bif c.state==2 then(true,())else(c.state==3,())).1=decide (1≤c.state∧c.state≤3):=by
    by_cases k1:c.state=1
    ·simp[k1]
    ·by_cases k2:c.state=2
     ·simp[k2]
     ·by_cases k3:c.state=3
      ·simp[k3]
      ·rw[show(c.state==1)=false by simp[k1],show(c.state==2)=false by simp[k2],show(c.state==3)=false by simp[k3],decide_eq_false (by omega)];rfl
   rw[hk]
   by_cases h3:1≤c.state∧c.state≤3
   ·rw[if_pos h3,decide_eq_true h3];rfl
   ·rw[if_neg h3,decide_eq_false h3];rfl
  simp only[Wo,cond_false]
  unfold fY wO
  by_cases ha:uQ c.s g.ack=true
  ·have hso:=Lg c.s h.co.snd (tt g.ack c.s.una) (by
    unfold uQ at ha;simp only[Bool.and_eq_true,decide_eq_true_eq]at ha;exact ha.2.1) (by
    unfold uQ at ha;simp only[Bool.and_eq_true,decide_eq_true_eq]at ha;exact ha.2.2)
   simp only[if_pos ha,cond_true,vq _ hso.1,GP _ _ hw.1 hw.2 hsc]
   have hcnd:(bif (cW c.s (tt g.ack c.s.una)).una != c.s.una then(c.state != 7,())else bif IJ (cW c.s (tt g.ack c.s.una))==0 then(c.state != 7,())else(false,())).1=decide (((cW c.s (tt g.ack c.s.una)).una≠c.s.una∨IJ (cW c.s (tt g.ack c.s.una))=0)∧c.state≠7):=LD _ _ _ _
   rw[hcnd]
   have tl2:=λ(t r:Int)=>tl ({c with s:=cW c.s (tt g.ack c.s.una),window:=jp g.window c.opts.scale,most:=(if c.most<jp g.window c.opts.scale then jp g.window c.opts.scale else c.most),timer:=t,tries:=r}:Conn) rfl
   by_cases hq:((cW c.s (tt g.ack c.s.una)).una≠c.s.una∨IJ (cW c.s (tt g.ack c.s.una))=0)∧c.state≠7
   ·simp only[decide_eq_true hq,if_pos hq,cond_true]
    by_cases h0:0<IJ (cW c.s (tt g.ack c.s.una))
    ·simp only[decide_eq_true h0,if_pos h0,cond_true]
     dsimp only[Tr.nice]
     exact tl2 3 0
    ·simp only[decide_eq_false h0,if_neg h0,cond_false]
     dsimp only[Tr.nice]
     exact tl2 0 0
   ·simp only[decide_eq_false hq,if_neg hq,cond_false]
    dsimp only[Tr.nice]
    exact tl2 c.timer c.tries
  ·simp only[if_neg ha,cond_false]
   dsimp only[Tr.nice]
   exact tl c rfl
 ·rw[if_neg hv,show(EU c g != 5)=true by simp[hv]];rfl
structure H1 (c u:Conn):Prop where
 tup:u.tuple=c.tuple
 st:u.state=c.state
 op:u.opts=c.opts
 rr:u.r=c.r
 so:SO u.s
 fin:u.s.fin=c.s.fin
 dn:c.s.done=true→u.s.done=true
 m0:0≤u.most
 m1:u.most≤1073725440
 w0:0≤u.window
 w1:u.window≤u.most
 t0:0≤u.timer
 t4:u.timer≤4
 t3:c.state≠7→u.timer≤3
 r0:0≤u.tries
 r3:u.tries≤3
theorem aa5 (c:Conn)(g:Segm)(h:V5 c g):H1 c (wO c g):=by
 have hc:=h.co
 have hw:=((bq g).1 h.sg).2.2.2.2.2.1
 have hsc:=(fv c.opts hc.opt).2
 have hr:=KA g.window c.opts.scale hw.1 hw.2 hsc
 have a1:=hc.m0
 have a2:=hc.m1
 have a3:=hc.w0
 have a4:=hc.w1
 have a5:=hc.t0
 have a6:=hc.t4
 have a7:=hc.r0
 have a8:=hc.r3
 unfold wO
 split
 ·rename_i ha
  have hso:=Lg c.s hc.snd (tt g.ack c.s.una) (by
    unfold uQ at ha;simp only[Bool.and_eq_true,decide_eq_true_eq]at ha;exact ha.2.1) (by
    unfold uQ at ha;simp only[Bool.and_eq_true,decide_eq_true_eq]at ha;exact ha.2.2)
  split
  ·refine⟨rfl,rfl,rfl,rfl,hso.1,hso.2.1,hso.2.2, ?_, ?_,hr.1, ?_, ?_, ?_,λ_=> ?_,Int.le_refl _,by show(0:Int)≤3;omega⟩
   ·show 0≤(if c.most<jp g.window c.opts.scale then jp g.window c.opts.scale else c.most);split<;>omega
   ·show(if c.most<jp g.window c.opts.scale then jp g.window c.opts.scale else c.most)≤1073725440;split<;>omega
   ·show jp g.window c.opts.scale≤(if c.most<jp g.window c.opts.scale then jp g.window c.opts.scale else c.most);split<;>omega
   ·show 0≤(if 0<IJ (cW c.s (tt g.ack c.s.una))then(3:Int)else 0);split<;>omega
   ·show(if 0<IJ (cW c.s (tt g.ack c.s.una))then(3:Int)else 0)≤4;split<;>omega
   ·show(if 0<IJ (cW c.s (tt g.ack c.s.una))then(3:Int)else 0)≤3;split<;>omega
  ·refine⟨rfl,rfl,rfl,rfl,hso.1,hso.2.1,hso.2.2, ?_, ?_,hr.1, ?_,a5,a6,hc.t3,a7,a8⟩
   ·show 0≤(if c.most<jp g.window c.opts.scale then jp g.window c.opts.scale else c.most);split<;>omega
   ·show(if c.most<jp g.window c.opts.scale then jp g.window c.opts.scale else c.most)≤1073725440;split<;>omega
   ·show jp g.window c.opts.scale≤(if c.most<jp g.window c.opts.scale then jp g.window c.opts.scale else c.most);split<;>omega
 ·exact⟨rfl,rfl,rfl,rfl,hc.snd,rfl,λh=>h,a1,a2,a3,a4,a5,a6,hc.t3,a7,a8⟩
theorem TP {s:Sndr}(h:SO s)(hd:s.done=true):s.fin=true:=(h.2.2.2.2.2.2 hd).1
theorem YO {c u:Conn}(hc:CO c)(h8:c.state≠8)(h:H1 c u)(rv:Recv)(hrv:RV rv)(hd:rv.done=c.r.done∨(c.r.done=false∧c.state≤3)):TR ({u with r:=rv}:Conn):=by
 have s1:=hc.s1
 have s8:=hc.s8
 refine⟨by show aG.f (u.tuple,())=true;rw[h.tup];exact hc.tup,h.so,(mf rv hrv.small).2 hrv,by show aM.f (u.opts,())=true;rw[h.op];exact hc.opt,by show 1≤u.state;rw[h.st];exact s1,by show u.state≤7;rw[h.st];omega,h.m0,h.m1,h.w0,h.w1,h.t0,h.t4,λhn=>h.t3 (by rw[←h.st];exact hn),h.r0,h.r3, ?_⟩
 show Yq (oO u.state u.s.done rv.done) u.s.fin u.s.done rv.done=true
 rw[h.st,h.fin]
 exact abi c.state s1 (by omega) c.s.fin c.s.done c.r.done u.s.done rv.done hc.fl h.dn (λhh=>by rw[←h.fin];exact TP h.so hh) hd
theorem afc (k:Int)(sf sd rd:Bool)(h:Yq k sf sd rd=true)(h1:1≤k)(h3:k≤3):rd=false:=by
 have hk:k=1∨k=2∨k=3:=by omega
 rcases hk with rfl|rfl|rfl<;>revert h<;>revert sf sd rd<;>decide+kernel
theorem Ss (x:Conn):(d5 x).s=x.s:=by
 unfold d5;repeat' split
 all_goals rfl
theorem VD (x:Conn):(d5 x).r=x.r:=by
 unfold d5;repeat' split
 all_goals rfl
theorem S0 (x:Conn)(h:(d5 x).state=8)(h8:x.state≠8):x.state=6∧x.s.done=true:=by
 have hl:oO x.state x.s.done x.r.done=8:=by
  unfold d5 at h
  split at h
  ·split at h
   ·exact absurd h h8
   ·split at h
    ·simp at h
    ·split at h
     ·assumption
     ·exact h
  ·exact absurd h h8
 unfold oO at hl
 repeat' split at hl
 all_goals first|omega|(rename_i h6 hd;exact⟨by assumption,by assumption⟩)
theorem VK (c:Conn)(g:Segm)(hs:be c.r.held)(hv:EU c g=5):CO (fY c g)∧(fY c g).tuple=c.tuple∧((fY c g).state=8→c.state=6∧(fY c g).s.done=true)∧be (fY c g).r.held:=by
 have h:=vd5 c g hv
 have hH:=aa5 c g h
 have hr:=(mf c.r hs).1 h.co.rcv
 unfold fY
 by_cases h3:1≤c.state∧c.state≤3
 ·rw[if_pos h3]
  have hT:=YO h.co h.s8 hH (nK c.r g.seq g.body (gn.f (g,1,()))) (Jz _ _ _ _ hr) (.inr ⟨afc _ _ _ _ h.co.fl h3.1 h3.2,h3.2⟩)
  refine⟨hT.turned,by rw[DB];exact hH.tup,λh8=> ?_, ?_⟩
  ·have:=S0 _ h8 (by show(wO c g).state≠8;rw[hH.st];exact h.s8)
   rw[Ss]
   exact⟨by rw[←hH.st];exact this.1,this.2⟩
  ·rw[VD];exact OW _ _ _ _ hr
 ·rw[if_neg h3]
  have hT:=YO h.co h.s8 hH c.r hr (.inl rfl)
  have e:({wO c g with r:=c.r}:Conn)=wO c g:=by rw[←hH.rr]
  rw[e]at hT
  refine⟨hT.turned,by rw[DB];exact hH.tup,λh8=> ?_, ?_⟩
  ·have:=S0 _ h8 (by rw[hH.st];exact h.s8)
   rw[Ss]
   exact⟨by rw[←hH.st];exact this.1,this.2⟩
  ·rw[VD,hH.rr];exact hs
theorem aco (c:Conn)(g:Segm):EU c g=1∨EU c g=2∨EU c g=3∨EU c g=4∨EU c g=5:=by
 unfold EU
 cases(aO.f (c,())&&(!(c.state==8)&&ak.f (g,())))with
 |false=>exact .inl rfl
 |true=>
  cases bp.f (g,4,())<;>cases(g.seq==c.r.next)<;>cases vT g.seq c.r.next (mN c.r)<;>cases bp.f (g,2,())<;>cases Wp c g<;>cases bp.f (g,16,())<;>cases Th c g.ack<;>simp
def dZ (c:Conn)(g:Segm):Conn×List Segm×Int:=
 if EU c g=2 then({c with state:=8,timer:=0,tries:=0},[],2)
 else if EU c g=3 then(c,[bD.f (c,())],3)
 else if EU c g=4 then(if c.state=7∧bp.f (g,1,())=true then{c with timer:=4}else c,[bD.f (c,())],4)
 else if EU c g=5 then
  (if(fY c g).state=8 then(fY c g,[],5)
  else((cN.f (fY c g,(fY c g).window,())).1,if(cN.f (fY c g,(fY c g).window,())).2=[]∧aU.f (g,())≠0 then[bD.f ((cN.f (fY c g,(fY c g).window,())).1,())]else(cN.f (fY c g,(fY c g).window,())).2,5))
 else(c,[],1)
theorem CX (c:Conn)(g:Segm)(hs:be c.r.held):oV.f (c,g,())=dZ c g:=by
 simp only[PX,oV,cj,Dr c g hs,Yh c g hs]
 have hv:=aco c g
 unfold dZ
 generalize EU c g=v at hv⊢
 rcases hv with rfl|rfl|rfl|rfl|rfl
 ·rfl
 ·rfl
 ·rfl
 ·have e:(bif (4:Int)==4 then bif c.state==7 then(bp.f (g,1,()),())else(false,())else(false,())).1=decide (c.state=7∧bp.f (g,1,())=true):=by
   by_cases h7:c.state=7
   ·simp[h7]
   ·rw[show(c.state==7)=false by simp[h7],decide_eq_false (λh=>h7 h.1)];rfl
  rw[e]
  by_cases hq:c.state=7∧bp.f (g,1,())=true
  ·rw[decide_eq_true hq];simp only[if_pos hq];rfl
  ·rw[decide_eq_false hq];simp only[if_neg hq];rfl
 ·simp only[if_true]
  rw[if_neg (show¬(5:Int)=2 by omega),if_neg (show¬(5:Int)=3 by omega),if_neg (show¬(5:Int)=4 by omega)]
  generalize fY c g=x
  change (bif x.state==8 then(x,[],(5:Int))else bif (bif ((cN.f (x,x.window,())).2.length:Int)==0 then(aU.f (g,()) != 0,())else(false,())).1 then((cN.f (x,x.window,())).1,[bD.f ((cN.f (x,x.window,())).1,())],5)else((cN.f (x,x.window,())).1,(cN.f (x,x.window,())).2,5))=_
  by_cases h8:x.state=8
  ·rw[if_pos h8,show(x.state==8)=true by simp[h8]];rfl
  ·rw[if_neg h8,show(x.state==8)=false by simp[h8]]
   generalize cN.f (x,x.window,())=p
   obtain⟨p1,p2⟩:=p
   cases p2 with
   |nil=>
    by_cases h0:aU.f (g,())=0
    ·simp[h0]
    ·have h0':(aU.f (g,()) != 0)=true:=by simp[h0]
     simp[h0,h0']
   |cons a r=>
    have h0:(((a::r).length:Int)==0)=false:=by rw[beq_eq_false_iff_ne];simp only[List.length_cons];omega
    simp only[h0,cond_false,if_neg (show¬((a::r:List Segm)=[]∧aU.f (g,())≠0) by simp)]
theorem ab1 (c:Conn)(w:Int)(hc:SO c.s)(h:(cN.f (c,w,())).2=[]):(cN.f (c,w,())).1=c:=by
 revert h
 simp only[PX,cN,cj,kb]
 cases(bif !aO.f (c,())then(true,())else bif (c.state==8)then(true,())else((c.state==7),())).1 with
 |true=>exact λ_=>rfl
 |false=>
 simp only[cond_false]
 have key:=tU (f:=λa=>(cf w a).nice) (Inv:=λa=>Sent c a.2.1∧(a.2.2=[]→a.2.1=c)) (Q:=λp=>p.2.2=[]→p.2.1=c) (meas:=λa=>IO a.2.1.s) (λa hi a' he=>by
  rcases rg w c a hi.1 with⟨l,e⟩|⟨a2,e,h1,h2⟩
  ·simp only[e]at he;cases he
  ·simp only[e,Stp.next.injEq]at he;subst he
   refine⟨⟨h1,λh3=> ?_⟩,h2⟩
   exfalso
   obtain⟨a1,a2',al⟩:=a
   revert e
   simp only[PX,cf]
   cases(bh.f (a2'.s,w,dH.f (a2',()),())).2 with
   |false=>intro e;cases e
   |true=>
    cases((bh.f (a2'.s,w,dH.f (a2',()),())).1.text==[])<;>cases(bh.f (a2'.s,w,dH.f (a2',()),())).1.fin<;>(intro e;simp only[Stp.next.injEq,cond_true,cond_false,Bool.not_true,Bool.not_false]at e;subst e;simp at h3)) (λa hi p he=>by
  rcases rg w c a hi.1 with⟨l,e⟩|⟨a2,e,h1,h2⟩
  ·obtain⟨a1,a2',al⟩:=a
   have hl:l=al:=by
    revert e
    simp only[PX,cf]
    cases(bh.f (a2'.s,w,dH.f (a2',()),())).2 with
    |false=>intro e;cases e;rfl
    |true=>cases((bh.f (a2'.s,w,dH.f (a2',()),())).1.text==[])<;>cases(bh.f (a2'.s,w,dH.f (a2',()),())).1.fin<;>(intro e;cases e)
   simp only[e,Stp.out.injEq]at he;subst he;subst hl;exact hi.2
  ·simp only[e]at he;cases he) (IO c.s+1) (⟨⟨0,0,0⟩,0,⟨0,[],0,false,false,false⟩,⟨0,[],[],0,false⟩,0,0,⟨0,0,false,false,0,0⟩,0,0⟩,c,[]) (Nat.lt_succ_self _) ⟨Sent.refl c hc,λ_=>rfl⟩
 obtain⟨q,hq⟩:∃q,cl (λa=>(cf w a).nice) (IO c.s+1) (⟨⟨0,0,0⟩,0,⟨0,[],0,false,false,false⟩,⟨0,[],[],0,false⟩,0,0,⟨0,0,false,false,0,0⟩,0,0⟩,c,[])=q:=⟨_,rfl⟩
 rw[hq]at key
 simp only[hq]
 obtain⟨q1,q2,q3⟩:=q
 simp only[]at key⊢
 intro h3
 have h4:q3=[]:=by
  revert h3
  cases(bif decide (0<(q3.length:Int))then((q2.timer==0),())else(false,())).1<;>exact λh=>h
 subst h4
 rw[key rfl]
 rfl
theorem C1 (c:Conn)(g:Segm)(hs:be c.r.held):rt.f (c,g,())=dZ c g:=by
 simp only[PX,rt,fG,CF c g hs,WR c g hs,tB,vM,LZ]
 have hv:=aco c g
 have h5:=VK c g hs
 have hb:EU c g=5→g.body.length≤1420:=λh=>iI g (vd5 c g h).sg
 unfold dZ
 generalize EU c g=v at hv h5 hb⊢
 rcases hv with rfl|rfl|rfl|rfl|rfl
 ·rfl
 ·rfl
 ·show(c,[jX.f (c,())],(3:Int))=_
  rw[tB];rfl
 ·have e:(bif (4:Int)==4 then bif c.state==7 then(bp.f (g,1,()),())else(false,())else(false,())).1=decide (c.state=7∧bp.f (g,1,())=true):=by
   by_cases h7:c.state=7
   ·simp[h7]
   ·rw[show(c.state==7)=false by simp[h7],decide_eq_false (λh=>h7 h.1)];rfl
  rw[e]
  by_cases hq:c.state=7∧bp.f (g,1,())=true
  ·rw[decide_eq_true hq];simp only[if_pos hq]
   show(({c with timer:=4}:Conn),[jX.f (c,())],(4:Int))=_
   rw[tB];rfl
  ·rw[decide_eq_false hq];simp only[if_neg hq]
   show(c,[jX.f (c,())],(4:Int))=_
   rw[tB];rfl
 ·simp only[if_true]
  rw[if_neg (show¬(5:Int)=2 by omega),if_neg (show¬(5:Int)=3 by omega),if_neg (show¬(5:Int)=4 by omega)]
  obtain⟨hx,-,-,hxs⟩:=h5 rfl
  have hl:=sU g (by have:=hb rfl;omega)
  generalize fY c g=x at hx hxs⊢
  have hP:=MW x x.window (by have:=hx.w1;have:=hx.m1;omega) hxs
  have hN:=ab1 x x.window hx.snd
  change (bif x.state==8 then(x,[],(5:Int))else bif (bif decide (0<aU.f (g,()))then(((nY.f (x,x.window,())).2.length:Int)==0,())else(false,())).1 then((nY.f (x,x.window,())).1,(nY.f (x,x.window,())).2++[bD.f (x,())],5)else((nY.f (x,x.window,())).1,(nY.f (x,x.window,())).2,5))=_
  rw[hP]
  by_cases h8:x.state=8
  ·rw[if_pos h8,show(x.state==8)=true by simp[h8]];rfl
  ·rw[if_neg h8,show(x.state==8)=false by simp[h8]]
   generalize cN.f (x,x.window,())=p at hN⊢
   obtain⟨p1,p2⟩:=p
   cases p2 with
   |nil=>
    have hN:=hN rfl
    simp only[]at hN
    subst hN
    by_cases h0:aU.f (g,())=0
    ·simp[h0]
    ·rw[decide_eq_true (show 0<aU.f (g,()) by omega)]
     simp[h0]
   |cons a r=>
    have h0:(((a::r).length:Int)==0)=false:=by rw[beq_eq_false_iff_ne];simp only[List.length_cons];omega
    cases decide (0<aU.f (g,()))<;>simp only[h0,cond_true,cond_false,if_neg (show¬((a::r:List Segm)=[]∧aU.f (g,())≠0) by simp)]
theorem Ou (n:Int):bits .and .i64 n 15=n%16:=by
 have h:(BitVec.ofInt 64 15).toNat=2 ^ 4-1:=by decide
 have key:(BitVec.ofInt 64 n&&& BitVec.ofInt 64 15).toNat=(n%((2 ^ 64:Nat):Int)).toNat%2 ^ 4:=by
  rw[BitVec.toNat_and,BitVec.toNat_ofInt,h,Nat.and_two_pow_sub_one_eq_mod]
 show IntKind.i64.wrap ((BitVec.ofInt 64 n&&& BitVec.ofInt 64 15).toNat:Nat)=n%16
 rw[key,di]
 omega
theorem Zx (v:Int):zZ.f (v,())=mA.f (v,()):=by
 simp only[PX,zZ,mA,dr,Ou]
 rcases Bool.eq_false_or_eq_true (ae.f (v,32,()))with h|h
 ·rw[h]
  rw[cb]at h
  simp only[Bool.and_eq_true,decide_eq_true_eq]at h
  rw[Int.tmod_eq_emod_of_nonneg h.1]
 ·rw[h];rfl
theorem E2 (i:Int)(o:Opti):kW.f (i,o,())=bL.f (i,o,()):=by
 simp only[PX,kW,bL,Zx,YC,bX,bV]
theorem OG (t:Tupl)(h:aG.f (t,())=true):(0≤t.ip∧t.ip≤4294967295)∧(0≤t.port∧t.port≤65535)∧(0≤t.my∧t.my≤65535):=by
 simp only[PX,aG,dj,cb]at h
 by_cases h1:0≤t.ip∧t.ip≤4294967295
 ·by_cases h2:0≤t.port∧t.port≤65535
  ·by_cases h3:0≤t.my∧t.my≤65535
   ·exact⟨h1,h2,h3⟩
   ·rw[show(decide (0≤t.my)&&decide (t.my≤65535))=false by rw[Bool.and_eq_false_iff];simp only[decide_eq_false_iff_not];omega]at h
    revert h
    cases(decide (0≤t.ip)&&decide (t.ip≤4294967295))<;>cases(decide (0≤t.port)&&decide (t.port≤65535))<;>simp
  ·rw[show(decide (0≤t.port)&&decide (t.port≤65535))=false by rw[Bool.and_eq_false_iff];simp only[decide_eq_false_iff_not];omega]at h
   revert h
   cases(decide (0≤t.ip)&&decide (t.ip≤4294967295))<;>simp
 ·rw[show(decide (0≤t.ip)&&decide (t.ip≤4294967295))=false by rw[Bool.and_eq_false_iff];simp only[decide_eq_false_iff_not];omega]at h
  simp at h
theorem Fc (s:Sndr):gZ.f (s,())=(s.una+dz.f (s,()))%4294967296:=by simp only[PX,gZ,bt]
theorem wJ:aM.f (bV.f (()),())=true:=by decide+kernel
theorem Yg (c:Conn)(hc:aG.f (c.tuple,())=true)(hd:c.r.data.length≤32)(hn:0≤c.r.next∧c.r.next≤4294967295)(sq fl:Int)(b:aa)(h0:0≤sq∧sq≤4294967295)(hf:0≤fl∧fl≤63)(hb:b.length≤1420):ak.f ({bD.f (c,())with seq:=sq,flags:=fl,body:=b},())=true:=by
 rw[bq]
 have ht:=OG c.tuple hc
 have hw:=oi c.r hd
 simp only[PX,bD,gD c.r hd]
 exact⟨ht.2.2,ht.2.1,h0,hn,hf,⟨hw.1,by omega⟩,wJ,hb⟩
theorem Dn (c:Conn)(hc:CO c)(hs:be c.r.held):ak.f (bD.f (c,()),())=true:=by
 have hr:=(mf c.r hs).1 hc.rcv
 have h:=Yg c hc.tup hr.dl ⟨hr.n0,hr.n1⟩ (gZ.f (c.s,())) 16 [] (by rw[Fc];omega) (by omega) (by simp)
 have e:({bD.f (c,())with seq:=gZ.f (c.s,()),flags:=16,body:=[]}:Segm)=bD.f (c,()):=by simp only[PX,bD]
 rw[e]at h;exact h
theorem NQ (s:Sndr)(w m:Int)(h:(bh.f (s,w,m,())).2=true):(bh.f (s,w,m,())).1.seq=gZ.f (s,()):=by
 revert h
 simp only[PX,bh]
 generalize(if 0<(if(IntKind.wrap .i64 ((if w<(-1)then(-1)else w)-dz.f (s,())))<(if m<(((s.data.take ((s.data.length:Int).toNat)).drop s.sent.toNat).length:Int)then m else(((s.data.take ((s.data.length:Int).toNat)).drop s.sent.toNat).length:Int))then(IntKind.wrap .i64 ((if w<(-1)then(-1)else w)-dz.f (s,())))else(if m<(((s.data.take ((s.data.length:Int).toNat)).drop s.sent.toNat).length:Int)then m else(((s.data.take ((s.data.length:Int).toNat)).drop s.sent.toNat).length:Int)))then(if(IntKind.wrap .i64 ((if w<(-1)then(-1)else w)-dz.f (s,())))<(if m<(((s.data.take ((s.data.length:Int).toNat)).drop s.sent.toNat).length:Int)then m else(((s.data.take ((s.data.length:Int).toNat)).drop s.sent.toNat).length:Int))then(IntKind.wrap .i64 ((if w<(-1)then(-1)else w)-dz.f (s,())))else(if m<(((s.data.take ((s.data.length:Int).toNat)).drop s.sent.toNat).length:Int)then m else(((s.data.take ((s.data.length:Int).toNat)).drop s.sent.toNat).length:Int)))else 0)=n
 generalize(IntKind.wrap .i64 ((if w<(-1)then(-1)else w)-dz.f (s,())))=v
 generalize(((s.data.take ((s.data.length:Int).toNat)).drop s.sent.toNat).take n.toNat).drop 0=tx
 generalize(((s.data.take ((s.data.length:Int).toNat)).drop s.sent.toNat).length:Int)=ln
 cases bj.f (s,())<;>cases s.fin<;>cases s.finSent<;>cases s.done<;>cases(n==ln)<;>cases(tx==[])<;>cases decide (n<v)<;>simp
theorem FA (c:Conn)(w:Int)(hc:CO c)(hs:be c.r.held):∀g∈(cN.f (c,w,())).2,ak.f (g,())=true:=by
 have hr:=(mf c.r hs).1 hc.rcv
 simp only[PX,cN,cj,kb]
 cases(bif !aO.f (c,())then(true,())else bif (c.state==8)then(true,())else((c.state==7),())).1 with
 |true=>intro g hg;cases hg
 |false=>
 simp only[cond_false]
 have key:=tU (f:=λa=>(cf w a).nice) (Inv:=λa=>Sent c a.2.1∧(∀g∈a.2.2,ak.f (g,())=true)) (Q:=λp=>∀g∈p.2.2,ak.f (g,())=true) (meas:=λa=>IO a.2.1.s) (λa hi a' he=>by
  rcases rg w c a hi.1 with⟨l,e⟩|⟨a2,e,h1,h2⟩
  ·simp only[e]at he;cases he
  ·simp only[e,Stp.next.injEq]at he;subst he
   refine⟨⟨h1, ?_⟩,h2⟩
   obtain⟨hS,hl⟩:=hi
   obtain⟨a1,b2,al⟩:=a
   simp only[]at hS hl
   have hre:=hS.re
   have htup:aG.f (b2.tuple,())=true:=by rw[hre];exact hc.tup
   have hrr:b2.r=c.r:=by rw[hre]
   have hch:=bh.c.h (b2.s,w,dH.f (b2,()),()) (LM hS.so)
   have hsq:=NQ b2.s w (dH.f (b2,()))
   revert e
   simp only[PX,cf]
   simp only[PX]at hch
   generalize bh.f (b2.s,w,dH.f (b2,()),())=z at hch hsq⊢
   obtain⟨y,b⟩:=z
   cases b with
   |false=>intro e;cases e
   |true=>
    obtain⟨-,hch⟩:=hch
    obtain⟨-,hlen,-,-,-⟩:=hch rfl
    have hsq:=hsq rfl
    simp only[]at hlen hsq
    have hdl:=hS.so.2.2.1
    have hs0:=hS.so.2.2.2.1
    have ok:∀fl:Int,0≤fl∧fl≤63→ak.f (({bD.f (b2,())with seq:=y.seq,flags:=fl,body:=y.text}:Segm),())=true:=λfl hf=>Yg b2 htup (by rw[hrr];exact hr.dl) (by rw[hrr];exact⟨hr.n0,hr.n1⟩) y.seq fl y.text (by rw[hsq,Fc];omega) hf (by omega)
    have fin:∀fl:Int,0≤fl∧fl≤63→∀g∈al++[({bD.f (b2,())with seq:=y.seq,flags:=fl,body:=y.text}:Segm)],ak.f (g,())=true:=by
     intro fl hf g hg
     rcases List.mem_append.1 hg with h3|h3
     ·exact hl g h3
     ·rw[List.mem_singleton.1 h3];exact ok fl hf
    have hfl:(bD.f (b2,())).flags=16:=by simp only[PX,bD]
    simp only[hfl]
    cases(y.text==[])<;>cases y.fin<;>(intro e;simp only[Stp.next.injEq,cond_true,cond_false,Bool.not_true,Bool.not_false]at e;subst e;refine fin _ (by decide+kernel))) (λa hi p he=>by
  rcases rg w c a hi.1 with⟨l,e⟩|⟨a2,e,h1,h2⟩
  ·obtain⟨a1,a2',al⟩:=a
   have hl:l=al:=by
    revert e
    simp only[PX,cf]
    cases(bh.f (a2'.s,w,dH.f (a2',()),())).2 with
    |false=>intro e;cases e;rfl
    |true=>cases((bh.f (a2'.s,w,dH.f (a2',()),())).1.text==[])<;>cases(bh.f (a2'.s,w,dH.f (a2',()),())).1.fin<;>(intro e;cases e)
   simp only[e,Stp.out.injEq]at he;subst he;subst hl;exact hi.2
  ·simp only[e]at he;cases he) (IO c.s+1) (⟨⟨0,0,0⟩,0,⟨0,[],0,false,false,false⟩,⟨0,[],[],0,false⟩,0,0,⟨0,0,false,false,0,0⟩,0,0⟩,c,[]) (Nat.lt_succ_self _) ⟨Sent.refl c hc.snd,λg hg=>by cases hg⟩
 obtain⟨q,hq⟩:∃q,cl (λa=>(cf w a).nice) (IO c.s+1) (⟨⟨0,0,0⟩,0,⟨0,[],0,false,false,false⟩,⟨0,[],[],0,false⟩,0,0,⟨0,0,false,false,0,0⟩,0,0⟩,c,[])=q:=⟨_,rfl⟩
 rw[hq]at key
 simp only[hq]
 obtain⟨q1,q2,q3⟩:=q
 simp only[]at key⊢
 cases(bif decide (0<(q3.length:Int))then((q2.timer==0),())else(false,())).1<;>exact key
theorem D3 (c:Conn)(g:Segm)(hc:CO c)(hs:be c.r.held):CO (dZ c g).1∧(dZ c g).1.tuple=c.tuple∧(∀y∈(dZ c g).2.1,ak.f (y,())=true)∧be (dZ c g).1.r.held:=by
 have one:∀y∈[bD.f (c,())],ak.f (y,())=true:=λy hy=>by rw[List.mem_singleton.1 hy];exact Dn c hc hs
 have nil:∀y∈([]:List Segm),ak.f (y,())=true:=λy hy=>by cases hy
 unfold dZ
 split
 ·exact⟨CO.set hc 8 0 0 (.inr rfl) (by omega) (by omega) (λ_=>by omega) (by omega) (by omega),rfl,nil,hs⟩
 ·split
  ·exact⟨hc,rfl,one,hs⟩
  ·split
   ·split
    ·rename_i h7
     exact⟨CO.set hc c.state 4 c.tries (.inl rfl) (by omega) (by omega) (λh=>absurd h7.1 h) hc.r0 hc.r3,rfl,one,hs⟩
    ·exact⟨hc,rfl,one,hs⟩
   ·split
    ·rename_i hv
     obtain⟨hx,hxt,-,hxs⟩:=VK c g hs hv
     generalize fY c g=x at hx hxt hxs⊢
     split
     ·exact⟨hx,hxt,nil,hxs⟩
     ·have hS:=E1 x x.window hx.snd
      have hp:=Sent.ok hS hx (hS.tm.elim .inr λe=> .inl (by omega))
      have ht:(cN.f (x,x.window,())).1.tuple=x.tuple:=by rw[hS.re]
      have hr:(cN.f (x,x.window,())).1.r=x.r:=by rw[hS.re]
      refine⟨hp,ht.trans hxt, ?_,by show be (cN.f (x,x.window,())).1.r.held;rw[hr];exact hxs⟩
      simp only[]
      split
      ·intro y hy
       rw[List.mem_singleton.1 hy];exact Dn _ hp (by rw[hr];exact hxs)
      ·exact FA x x.window hx hxs
    ·exact⟨hc,rfl,nil,hs⟩
theorem OU (t:Tabl)(c:Conn):uB.f (t,c,())=de.f (t,c,()):=by
 simp only[PX,uB,de,Ag,jd,jt,fG,cj]
theorem ZB (t:Tabl)(c:Conn)(l:Limi)(hs:∀y∈t.conns,be y.r.held)(hc:be c.r.held):uY.f (t,c,l,())=mO.f (t,c,l,()):=by
 simp only[PX,uY,mO,Ag,jd,fG,cj]
 rw[Oo _ _ (λy hy=>by
  rcases List.mem_append.1 hy with h|h
  ·exact hs y h
  ·rw[List.mem_singleton.1 h];exact hc)]
theorem adx (xs:List Conn)(t:Tupl)(h:decide (0≤dK (λh=>j6 t h.tuple) xs)=true):∃i:Nat,dK (λh:Conn=>j6 t h.tuple) xs=(i:Int)∧∃hi:i<xs.length,xs[i].tuple=t:=by
 unfold dK at h⊢
 cases hf:xs.findIdx? (λh=>j6 t h.tuple)with
 |none=>rw[hf]at h;simp at h
 |some i=>
  obtain⟨h1,h2,-⟩:=List.findIdx?_eq_some_iff_getElem.1 hf
  exact⟨i,rfl,h1,((Ei _ _).1 h2).symm⟩
theorem wX (xs:List Half)(t:Tupl)(h:decide (0≤dK (λh=>j6 t h.tuple) xs)=true):∃i:Nat,dK (λh:Half=>j6 t h.tuple) xs=(i:Int)∧∃hi:i<xs.length,xs[i].tuple=t:=by
 unfold dK at h⊢
 cases hf:xs.findIdx? (λh=>j6 t h.tuple)with
 |none=>rw[hf]at h;simp at h
 |some i=>
  obtain⟨h1,h2,-⟩:=List.findIdx?_eq_some_iff_getElem.1 hf
  exact⟨i,rfl,h1,((Ei _ _).1 h2).symm⟩
theorem TO.set {t:Tabl}{l:Limi}(h:TO t l)(i:Nat)(c:Conn)(hc:CO c)(hi:i<t.conns.length)(ht:c.tuple=t.conns[i].tuple):TO (⟨t.conns.set i c,t.waiting⟩:Tabl) l:=by
 have hm:(t.conns.set i c).map Conn.tuple=t.conns.map Conn.tuple:=by
  rw[List.map_set,ht]
  apply List.ext_getElem?
  intro j
  rw[List.getElem?_set]
  split
  ·rename_i hj
   subst hj
   simp[hi]
  ·rfl
 refine⟨h.lim,by show((t.conns.set i c).length:Int)≤l.conns;rw[List.length_set];exact h.nc,h.nw, ?_, ?_,h.dw, ?_⟩
 ·intro y hy
  rcases List.mem_or_eq_of_mem_set hy with h1|h1
  ·exact h.co y h1
  ·rw[h1];exact hc
 ·show((t.conns.set i c).map Conn.tuple).Nodup
  rw[hm];exact h.dc
 ·intro w hw
  show w∈(t.conns.set i c).map Conn.tuple
  rw[hm];exact h.wc w hw
theorem YN (xs:List Conn)(i:Nat)(c:Conn)(hi:i<xs.length)(ht:c.tuple=xs[i].tuple):(xs.set i c).map Conn.tuple=xs.map Conn.tuple:=by
 rw[List.map_set,ht]
 apply List.ext_getElem?
 intro j
 rw[List.getElem?_set]
 split
 ·rename_i hj
  subst hj
  simp[hi]
 ·rfl
theorem X2 (xs:List Conn)(hd:(xs.map Conn.tuple).Nodup)(i:Nat)(hi:i<xs.length):dK (λh:Conn=>j6 xs[i].tuple h.tuple) xs=(i:Int):=by
 have h:=(Ap Conn.tuple xs).2 hd i xs[i] (List.getElem?_eq_getElem hi)
 have h2:=CM (λh:Conn=>j6 xs[i].tuple h.tuple) xs i xs[i] (List.getElem?_eq_getElem hi) (p6 _)
 rw[h]at h2
 simpa using h2
theorem qS (t:Tabl)(c:Conn)(hd:(t.conns.map Conn.tuple).Nodup)(i:Nat)(hi:i<t.conns.length)(ht:c.tuple=t.conns[i].tuple):de.f (t,c,())=⟨t.conns.set i c,t.waiting⟩:=by
 simp only[PX,de,jd,cj,eM]
 rw[ht,X2 t.conns hd i hi,decide_eq_true (show(0:Int)≤(i:Int) by omega),af]
 rfl
theorem EQ (t:Tabl)(c:Conn)(l:Limi):mO.f (t,c,l,())=if cQ.f ((⟨t.conns++[c],t.waiting++[c.tuple]⟩:Tabl),l,())=true then(⟨t.conns++[c],t.waiting++[c.tuple]⟩,true)else(t,false):=by
 simp only[PX,mO,jd,cj]
 cases cQ.f ((⟨t.conns++[c],t.waiting++[c.tuple]⟩:Tabl),l,())<;>rfl
def vj (xs:List Half)(t:Tupl):List Half:=bif decide (0≤dK (λh:Half=>j6 t h.tuple) xs)then xs.take (dK (λh:Half=>j6 t h.tuple) xs).toNat++xs.drop ((dK (λh:Half=>j6 t h.tuple) xs).toNat+1)else xs
theorem AW (xs:List Half)(t:Tupl)(hl:xs.length≤4294967296):sv.f (xs,t,())=vj xs t:=by
 simp only[PX,sv,wz,eO]
 unfold vj
 cases h:decide (0≤dK (λh:Half=>j6 t h.tuple) xs)with
 |false=>
  rw[show decide (dK (λh:Half=>j6 t h.tuple) xs<0)=true by simp at h⊢;exact h]
  simp
 |true=>
  obtain⟨i,e,hi,-⟩:=wX xs t h
  rw[e,decide_eq_false (show¬(i:Int)<0 by omega),aq (by omega) (by omega),af,show((i:Int)+1).toNat=i+1 by omega]
  simp
theorem A1 (xs:List Half)(t:Tupl)(hl:xs.length≤4294967296):pf.f (xs,t,())=vj xs t:=by
 simp only[PX,pf,eB,um,eO]
 unfold vj
 cases h:decide (0≤dK (λh:Half=>j6 t h.tuple) xs)with
 |false=>simp
 |true=>
  obtain⟨i,e,hi,-⟩:=wX xs t h
  rw[e,aq (by omega) (by omega),show((i:Int)==(i:Int)+1)=false by simp;omega,af,show((i:Int)+1).toNat=i+1 by omega]
  simp only[cond_false,cond_true]
  have hL:(xs.take i++xs.drop (i+1)).length=i+(xs.length-(i+1)):=by
   rw[List.length_append,List.length_take,List.length_drop];omega
  generalize xs.take i++xs.drop (i+1)=L at hL⊢
  rw[List.drop_zero,List.take_left' hL,af,hL,List.take_left' hL,List.append_assoc,List.take_left' hL]
theorem Pi (xs:List Half)(t:Tupl):(vj xs t).Sublist xs:=by
 unfold vj
 cases h:decide (0≤dK (λh:Half=>j6 t h.tuple) xs)with
 |false=>exact List.Sublist.refl _
 |true=>
  obtain⟨i,e,hi,-⟩:=wX xs t h
  rw[e,af,cond_true]
  have h1:(xs.take i++xs.drop (i+1)).Sublist (xs.take i++xs.drop i):=List.Sublist.append (List.Sublist.refl _) (by
   rw[←List.drop_drop];exact List.drop_sublist _ _)
  rw[List.take_append_drop]at h1
  exact h1
theorem HO.sub {xs ys:List Half}(h:HO xs)(hs:ys.Sublist xs):HO ys:=⟨λy hy=>h.ok y (hs.subset hy),List.Nodup.sublist (hs.map _) h.nd,Nat.le_trans hs.length_le h.len⟩
theorem LR (xs:List Half)(t:Tupl)(hd:(xs.map Half.tuple).Nodup):t∉(vj xs t).map Half.tuple:=by
 unfold vj
 cases h:decide (0≤dK (λh:Half=>j6 t h.tuple) xs)with
 |false=>
  rw[jU]at h
  rw[cond_false,←vz,h];simp
 |true=>
  obtain⟨i,e,hi,ht⟩:=wX xs t h
  rw[e,af,cond_true,List.map_append,List.mem_append]
  have h1:xs.map Half.tuple=(xs.take i).map Half.tuple++t::(xs.drop (i+1)).map Half.tuple:=by
   conv=>lhs;rw[←List.take_append_drop i xs,List.drop_eq_getElem_cons hi]
   rw[List.map_append,List.map_cons,ht]
  rw[h1]at hd
  obtain⟨-,h3,h4⟩:=List.nodup_append.1 hd
  rintro(h5|h5)
  ·exact h4 t h5 t (List.mem_cons_self ..) rfl
  ·exact(List.nodup_cons.1 h3).1 h5
theorem Pn (g:Segm):f9.f (g,())=bif bp.f (g,4,())then[]else[(kq.f (g,())).1]:=by
 simp only[PX,f9,kq]
 cases bp.f (g,4,())with
 |true=>rfl
 |false=>cases bp.f (g,16,())<;>rfl
theorem XL (g:Segm):wR.f (g,())=kq.f (g,()):=by
 simp only[PX,wR,kq,LZ,vM,iH,bX,bV]
theorem MY (d:Door)(g:Segm):mj.f (d,g,())=(d,f9.f (g,()),0):=by
 simp only[PX,mj,XL,kO,f9]
 cases(kq.f (g,())).2<;>rfl
theorem Aw (g:Segm)(hg:ak.f (g,())=true):∀y∈f9.f (g,()),ak.f (y,())=true:=by
 have h:=(bq g).1 hg
 rw[Pn]
 cases h4:bp.f (g,4,())with
 |true=>intro y hy;cases hy
 |false=>
  intro y hy
  rw[cond_false,List.mem_singleton]at hy
  subst hy
  simp only[PX,kq,h4,bt,cond_false]
  cases bp.f (g,16,())with
  |true=>
   rw[bq]
   exact⟨h.2.1,h.1,h.2.2.2.1,by show(0:Int)≤0∧(0:Int)≤4294967295;omega,by show(0:Int)≤4∧(4:Int)≤63;omega,by show(0:Int)≤0∧(0:Int)≤65535;omega,wJ,by simp⟩
  |false=>
   rw[bq]
   refine⟨h.2.1,h.1,by show(0:Int)≤0∧(0:Int)≤4294967295;omega, ?_,by show(0:Int)≤20∧(20:Int)≤63;omega,by show(0:Int)≤0∧(0:Int)≤65535;omega,wJ,by simp⟩
   show 0≤(g.seq+aU.f (g,()))%4294967296∧(g.seq+aU.f (g,()))%4294967296≤4294967295
   omega
theorem NV (n:Int):lv.f (n,())=jD.f (n,()):=by
 simp only[PX,lv,jD,mG,bt,Int.add_zero]
def yW (t:Tupl)(iss irs:Int)(o:Opti)(w:Int):Conn:=⟨t,1,⟨(iss+1)%4294967296,[],0,false,false,false⟩,⟨(irs+1)%4294967296,[],[],-1,false⟩,jp w o.scale,jp w o.scale,o,0,0⟩
theorem CK (t:Tupl)(iss irs:Int)(o:Opti)(w:Int)(ho:aM.f (o,())=true)(h0:0≤w)(h1:w≤65535):uZ.f (t,iss,irs,o,w,())=yW t iss irs o w:=by
 have hs:=(fv o ho).2
 have hw:ae.f (w,16,())=true:=by rw[dj,decide_eq_true h0,decide_eq_true h1];rfl
 simp only[PX,uZ,ho,hw,Bool.not_true,cond_false,jD,bt,Int.add_zero]
 rw[GP w o h0 h1 hs,show((irs+1)%4294967296%4294967296)=(irs+1)%4294967296 by omega]
 rfl
theorem ER (t:Tupl)(iss irs:Int)(o:Opti)(w:Int)(ho:aM.f (o,())=true)(h0:0≤w)(h1:w≤65535):ry.f (t,iss,irs,o,w,())=yW t iss irs o w:=by
 have hs:=(fv o ho).2
 have hw:ae.f (w,16,())=true:=by rw[dj,decide_eq_true h0,decide_eq_true h1];rfl
 have e:=(X1 w o.scale h0 h1 hs).1
 have hl:IntKind.wrap .u64 (fD.f (0,o.scale,()))=if o.scale<0 then 0 else o.scale:=by
  rw[Ke,JQ _ (by split<;>omega) (by split<;>omega)]
 simp only[PX,ry,iO,dr,ho,hw,Bool.not_true,cond_false,NV,jD,iH,bt,Int.add_zero]
 rw[hl,e,show((irs+1)%4294967296%4294967296)=(irs+1)%4294967296 by omega]
 rfl
theorem yF (t:Tupl)(iss irs:Int)(o:Opti)(w:Int)(ht:aG.f (t,())=true)(ho:aM.f (o,())=true)(h0:0≤w)(h1:w≤65535):CO (yW t iss irs o w)∧be (yW t iss irs o w).r.held:=by
 have hs:=(fv o ho).2
 have hr:=KA w o.scale h0 h1 hs
 have hsm:be (yW t iss irs o w).r.held:=λy hy=>by cases hy
 refine⟨⟨ht, ?_, ?_,ho,by show(1:Int)≤1;omega,by show(1:Int)≤8;omega,hr.1,hr.2,hr.1,Int.le_refl _,Int.le_refl _,by show(0:Int)≤4;omega,λ_=>by show(0:Int)≤3;omega,Int.le_refl _,by show(0:Int)≤3;omega,rfl⟩,hsm⟩
 ·refine⟨by show 0≤(iss+1)%4294967296;omega,by show(iss+1)%4294967296≤4294967295;omega,by show(0:Nat)≤48;omega,Int.le_refl _,by show(0:Int)≤((0:Nat):Int);omega,λh=>(by cases h),λh=>(by cases h)⟩
 ·rw[mf _ hsm]
  exact⟨by show 0≤(irs+1)%4294967296;omega,by show(irs+1)%4294967296≤4294967295;omega,by show(0:Nat)≤32;omega,by show(0:Nat)≤3;omega,Int.le_refl _,by show(-1:Int)≤mN _;unfold mN;simp[yW],by show(-1:Int)≠0;omega,⟨0,by simp[yW,ev]⟩,λh=>(by cases h)⟩
theorem vF (i:Int)(o:Opti)(ho:aM.f (o,())=true):aM.f (bL.f (i,o,()),())=true:=by
 have hm:0≤gb.f (i,())∧gb.f (i,())≤65535:=by
  simp only[PX,gb,au]
  by_cases h:0≤i∧i≤7
  ·rw[decide_eq_true h.1,decide_eq_true h.2]
   have:i=0∨i=1∨i=2∨i=3∨i=4∨i=5∨i=6∨i=7:=by omega
   rcases this with rfl|rfl|rfl|rfl|rfl|rfl|rfl|rfl<;>decide+kernel
  ·rw[show(decide (0≤i)&&decide (i≤7))=false by rw[Bool.and_eq_false_iff];simp only[decide_eq_false_iff_not];omega]
   simp
 have hsc: -1≤(mA.f (o.echo,())).1∧(mA.f (o.echo,())).1≤14:=by
  simp only[PX,mA,Ou]
  cases(bif !ae.f (o.echo,32,())then(true,())else((bits .and .i64 o.echo 32)==0,())).1 with
  |true=>simp only[cond_true];omega
  |false=>
   by_cases h:o.echo%16=15
   ·rw[show(o.echo%16==15)=true by simp[h]];simp only[cond_true,cond_false];omega
   ·rw[show(o.echo%16==15)=false by simp[h]];simp only[cond_false];omega
 simp only[PX,bL,bV]
 cases hs:o.stamp with
 |false=>
  simp only[cond_false]
  simp only[PX,aM,au,dj,cb,decide_eq_true hm.1,decide_eq_true hm.2]
  rfl
 |true=>
  have hv:0≤o.val∧o.val≤4294967295:=by
   simp only[PX,aM,hs,au,dj,cb,Bool.not_true,cond_false]at ho
   by_cases h:0≤o.val∧o.val≤4294967295
   ·exact h
   ·rw[show(decide (0≤o.val)&&decide (o.val≤4294967295))=false by rw[Bool.and_eq_false_iff];simp only[decide_eq_false_iff_not];omega]at ho
    revert ho
    cases(decide (0≤o.mss)&&decide (o.mss≤65535))<;>cases(decide (-1≤o.scale)&&decide (o.scale≤14))<;>simp
  simp only[cond_true]
  cases(mA.f (o.echo,())).2.2 with
  |false=>
   simp only[cond_false]
   simp only[PX,aM,au,dj,cb,decide_eq_true hm.1,decide_eq_true hm.2]
   rfl
  |true=>
   simp only[cond_true]
   simp only[PX,aM,au,dj,cb,decide_eq_true hm.1,decide_eq_true hm.2,decide_eq_true hsc.1,decide_eq_true hsc.2,decide_eq_true hv.1,decide_eq_true hv.2]
   rfl
def yz (d:Door)(c:Conn)(g:Segm)(made:Int):Door×List Segm×Int:=
 if cQ.f ((⟨d.table.conns++[c],d.table.waiting++[c.tuple]⟩:Tabl),d.limits,())=true then
  ({d with halves:=vj d.halves c.tuple,table:=⟨d.table.conns++[(dZ c g).1],d.table.waiting++[c.tuple]⟩},(dZ c g).2.1,made)
 else(d,[],0)
theorem PR (t:Tabl)(l:Limi)(c:Conn)(g:Segm)(hs:be c.r.held)(hT:cQ.f ((⟨t.conns++[c],t.waiting++[c.tuple]⟩:Tabl),l,())=true):de.f ((⟨t.conns++[c],t.waiting++[c.tuple]⟩:Tabl),(dZ c g).1,())=⟨t.conns++[(dZ c g).1],t.waiting++[c.tuple]⟩:=by
 have h:=(Rp _ _).1 hT
 have hc:=h.co c (by simp)
 have hr:=D3 c g hc hs
 rw[qS _ _ h.dc t.conns.length (by simp) (by simp[hr.2.1])]
 simp
theorem SQ (d:Door)(c:Conn)(g:Segm)(m:Int)(hd:gf d)(hc:be c.r.held)(hl:d.halves.length≤4294967296):yi.f (d,c,g,m,())=yz d c g m:=by
 simp only[PX,yi,kO,ZB d.table c d.limits hd hc,EQ,C1 c g hc,OU,AW _ _ hl]
 unfold yz
 by_cases hT:cQ.f ((⟨d.table.conns++[c],d.table.waiting++[c.tuple]⟩:Tabl),d.limits,())=true
 ·rw[if_pos hT,if_pos hT,PR d.table d.limits c g hc hT];rfl
 ·rw[if_neg hT,if_neg hT];rfl
def AP (d:Door)(t:Tupl)(g:Segm):Door×List Segm×Int:=
 if bP.f (d,())=true∧aG.f (t,())=true∧ak.f (g,())=true∧¬0≤av.f (d.table,t,())then
  if 0≤aE.f (d.halves,t,())then
   if g.ack≠((d.halves.getD (aE.f (d.halves,t,())).toNat (Ty.zero .half)).iss+1)%4294967296 then(d,f9.f (g,()),0)
   else if g.seq≠((d.halves.getD (aE.f (d.halves,t,())).toNat (Ty.zero .half)).irs+1)%4294967296 then(d,[],0)
   else yz d (yW t (d.halves.getD (aE.f (d.halves,t,())).toNat (Ty.zero .half)).iss (d.halves.getD (aE.f (d.halves,t,())).toNat (Ty.zero .half)).irs (d.halves.getD (aE.f (d.halves,t,())).toNat (Ty.zero .half)).opts g.window) g 1
  else if(bG.f (d.keys,t,(g.seq+ -1)%4294967296,(g.ack+ -1)%4294967296,())).2.2=true then
   yz d (yW t ((g.ack+ -1)%4294967296) ((g.seq+ -1)%4294967296) (bL.f ((bG.f (d.keys,t,(g.seq+ -1)%4294967296,(g.ack+ -1)%4294967296,())).2.1,g.opts,())) g.window) g 2
  else(d,f9.f (g,()),0)
 else(d,[],0)
theorem Aj (xs:List Half)(t:Tupl)(h:HO xs)(hf:0≤aE.f (xs,t,())):aM.f ((xs.getD (aE.f (xs,t,())).toNat (Ty.zero .half)).opts,())=true:=by
 rw[eO]at hf⊢
 obtain⟨i,e,hi,-⟩:=wX xs t (decide_eq_true hf)
 rw[e,af,getD_some (List.getElem?_eq_getElem hi)]
 have:=h.ok _ (List.getElem_mem hi)
 unfold sE at this
 simp only[Bool.and_eq_true]at this
 exact this.2.2.2.2.1
theorem afY {A B C:Type}(x:A×B×C):(x.1,x.2.1,x.2.2)=x:=rfl
theorem Xn (d:Door)(t:Tupl)(g:Segm)(hs:gf d)(hl:d.halves.length≤4294967296):EC.f (d,t,g,())=AP d t g:=by
 simp only[PX,EC,kO,KK d t g hs,jt,wz,iH,bt,MY,A4,E2]
 unfold AP
 cases h1:bP.f (d,())with
 |false=>simp
 |true=>
 cases h2:aG.f (t,())with
 |false=>simp
 |true=>
 cases h3:ak.f (g,())with
 |false=>simp
 |true=>
 have hD:=(ji d).1 h1
 have hg:=(bq g).1 h3
 have hw:=hg.2.2.2.2.2.1
 by_cases h4:0≤av.f (d.table,t,())
 ·rw[if_neg (λh=>h.2.2.2 h4),decide_eq_true h4];rfl
 rw[if_pos ⟨rfl,rfl,rfl,h4⟩,decide_eq_false h4]
 simp only[Bool.and_self,Bool.not_true,cond_false]
 by_cases h5:0≤aE.f (d.halves,t,())
 ·rw[if_pos h5,decide_eq_true h5]
  have ho:=Aj d.halves t hD.hal h5
  obtain⟨h,hh⟩:∃h,d.halves.getD (aE.f (d.halves,t,())).toNat (Ty.zero .half)=h:=⟨_,rfl⟩
  rw[hh]at ho
  rw[cond_true,hh]
  by_cases h6:g.ack=(h.iss+1)%4294967296
  ·rw[if_neg (λhh=>hh h6),show(g.ack != (h.iss+1)%4294967296)=false by simp[h6]]
   by_cases h7:g.seq=(h.irs+1)%4294967296
   ·rw[if_neg (λhh=>hh h7),show(g.seq != (h.irs+1)%4294967296)=false by simp[h7]]
    rw[ER t h.iss h.irs h.opts g.window ho hw.1 hw.2,SQ d _ g 1 hs (yF t h.iss h.irs h.opts g.window h2 ho hw.1 hw.2).2 hl]
    generalize yz d (yW t h.iss h.irs h.opts g.window) g 1=z
    exact afY z
   ·rw[if_pos h7,show(g.seq != (h.irs+1)%4294967296)=true by simp[h7]];rfl
  ·rw[if_pos h6,show(g.ack != (h.iss+1)%4294967296)=true by simp[h6]];rfl
 ·rw[if_neg h5,decide_eq_false h5]
  have ho:=vF (bG.f (d.keys,t,(g.seq+ -1)%4294967296,(g.ack+ -1)%4294967296,())).2.1 g.opts hg.2.2.2.2.2.2.1
  generalize bG.f (d.keys,t,(g.seq+ -1)%4294967296,(g.ack+ -1)%4294967296,())=k at ho⊢
  rw[cond_false]
  cases h6:k.2.2 with
  |false=>simp
  |true=>
   simp only[Bool.not_true,cond_false,if_true]
   have e1:=ER t ((g.ack+ -1)%4294967296) ((g.seq+ -1)%4294967296) (bL.f (k.2.1,g.opts,())) g.window ho hw.1 hw.2
   have e2:=SQ d (yW t ((g.ack+ -1)%4294967296) ((g.seq+ -1)%4294967296) (bL.f (k.2.1,g.opts,())) g.window) g 2 hs (yF t _ _ _ g.window h2 ho hw.1 hw.2).2 hl
   simp only[e1,e2]
theorem X9 (d:Door)(t:Tupl)(g:Segm)(hl:d.halves.length≤4294967296):I4.f (d,t,g,())=AP d t g:=by
 simp only[PX,I4,kj,bt]
 unfold AP
 have e:(bif !bP.f (d,())then(true,())else bif !aG.f (t,())then(true,())else bif !ak.f (g,())then(true,())else(decide (0≤av.f (d.table,t,())),())).1= !decide (bP.f (d,())=true∧aG.f (t,())=true∧ak.f (g,())=true∧¬0≤av.f (d.table,t,())):=by
  by_cases h4:0≤av.f (d.table,t,())
  ·rw[decide_eq_true h4];cases bP.f (d,())<;>cases aG.f (t,())<;>cases ak.f (g,())<;>simp[h4]
  ·rw[decide_eq_false h4];cases bP.f (d,())<;>cases aG.f (t,())<;>cases ak.f (g,())<;>simp[h4]
 rw[e]
 by_cases hq:bP.f (d,())=true∧aG.f (t,())=true∧ak.f (g,())=true∧¬0≤av.f (d.table,t,())
 case neg=>rw[decide_eq_false hq,if_neg hq];rfl
 rw[decide_eq_true hq,if_pos hq]
 obtain⟨h1,h2,h3,h4⟩:=hq
 have hD:=(ji d).1 h1
 have hg:=(bq g).1 h3
 have hw:=hg.2.2.2.2.2.1
 have L:∀(c:Conn) (m:Int),be c.r.held→(c.tuple=t)→(bif !(mO.f (d.table,c,d.limits,())).2 then(d,([]:List Segm),(0:Int))else(({d with halves:=pf.f (d.halves,t,()),table:=de.f ((mO.f (d.table,c,d.limits,())).1,(oV.f (c,g,())).1,())}:Door),(oV.f (c,g,())).2.1,m))=yz d c g m:=by
  intro c m hc ht
  rw[EQ,CX c g hc,A1 _ _ hl]
  unfold yz
  by_cases hT:cQ.f ((⟨d.table.conns++[c],d.table.waiting++[c.tuple]⟩:Tabl),d.limits,())=true
  ·rw[if_pos hT,if_pos hT]
   simp only[Bool.not_true,cond_false]
   rw[PR d.table d.limits c g hc hT,ht]
  ·rw[if_neg hT,if_neg hT];rfl
 simp only[Bool.not_true,cond_false]
 by_cases h5:0≤aE.f (d.halves,t,())
 ·rw[if_pos h5]
  simp only[decide_eq_true h5,cond_true]
  have ho:=Aj d.halves t hD.hal h5
  generalize d.halves.getD (aE.f (d.halves,t,())).toNat (Ty.zero .half)=h at ho⊢
  by_cases h6:g.ack=(h.iss+1)%4294967296
  ·rw[if_neg (λhh=>hh h6)]
   simp only[show(g.ack != (h.iss+1)%4294967296)=false by simp[h6],cond_false]
   by_cases h7:g.seq=(h.irs+1)%4294967296
   ·rw[if_neg (λhh=>hh h7)]
    simp only[show(g.seq != (h.irs+1)%4294967296)=false by simp[h7],cond_false]
    rw[←L _ 1 (yF t h.iss h.irs h.opts g.window h2 ho hw.1 hw.2).2 rfl,←CK t h.iss h.irs h.opts g.window ho hw.1 hw.2]
    rfl
   ·rw[if_pos h7]
    simp only[show(g.seq != (h.irs+1)%4294967296)=true by simp[h7],cond_true]
    rfl
  ·rw[if_pos h6]
   simp only[show(g.ack != (h.iss+1)%4294967296)=true by simp[h6],cond_true]
   rfl
 ·rw[if_neg h5]
  simp only[decide_eq_false h5,cond_false]
  have ho:=vF (bG.f (d.keys,t,(g.seq+ -1)%4294967296,(g.ack+ -1)%4294967296,())).2.1 g.opts hg.2.2.2.2.2.2.1
  generalize bG.f (d.keys,t,(g.seq+ -1)%4294967296,(g.ack+ -1)%4294967296,())=k at ho⊢
  cases h6:k.2.2 with
  |false=>
   simp only[Bool.not_false,cond_true,Bool.false_eq_true,if_false]
   rfl
  |true=>
   simp only[Bool.not_true,cond_false,if_true]
   rw[←L _ 2 (yF t _ _ _ g.window h2 ho hw.1 hw.2).2 rfl,←CK t _ _ _ g.window ho hw.1 hw.2]
   rfl
def uj (src:Int)(g:Segm):Tupl:=⟨src,g.from_,g.to⟩

end
end Go.Proofs.YtfpdenjmlnhnnaaGreat
