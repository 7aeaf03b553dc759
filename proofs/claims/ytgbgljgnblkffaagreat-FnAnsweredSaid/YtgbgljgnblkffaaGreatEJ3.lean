/-
  Contracts of functions and plain laws (printed by a program): each theorem says what a function of the program returns; conditions are its hypotheses.
-/
import Derived.Test.YtgbgljgnblkffaaGreatEJ2
set_option linter.all false
set_option maxRecDepth 4000
namespace Go.Proofs.YtgbgljgnblkffaaGreat
open Go Go.RowKit
noncomputable section
noncomputable def OV:FT (Curs×Unit) (Link×Curs) (λx=>af x.1) (λx v=>dH v.1∧af v.2):=⟨λ(y0,_)=>
  .cal NP.c (y0,()) λc1=>
  .cal am.c (c1.2,10,()) λc2=>
  .ite (c2.1==0) (.cal cX.c (c2.2,()) λc3=>
   .ret (({c1.1 with mac:=c3.1}:Link),c3.2))<|
  .ite (c2.1==1) (.cal cX.c (c2.2,()) λc4=>
   .ret (({c1.1 with ip:=c4.1}:Link),c4.2))<|
  .ite (c2.1==2) (.cal OG.c (c2.2,()) λc5=>
   .ret (({c1.1 with cache:=c5.1}:Link),c5.2))<|
  .ite (c2.1==3) (.ret (({c1.1 with mac:=281474976710655}:Link),c2.2))<|
  .ret (c1.1,c2.2),
 λ(y0,_) hp=>by
  refine Tr.C ?_ λ_ _ _=>Tr.C ?_ λ_ _ _=>Tr.I (λ_=>Tr.C ?_ λ_ _ _=>Tr.R ?_) λ_=>Tr.I (λ_=>Tr.C ?_ λ_ _ _=>Tr.R ?_) λ_=>Tr.I (λ_=>Tr.C ?_ λ_ _ _=>Tr.R ?_) λ_=>Tr.I (λ_=>Tr.R ?_) λ_=>Tr.R ?_
  all_goals (grind)⟩
noncomputable def TN:=cJ st ⟨142,Tryz.f142,[],1⟩ [UY,aA,gt,SA] [] [.wr false [.ptr 0]] [.box [.st .curs]] (λx y=>(y.1.1,())) OV (λv=>[(true,z5 (.o true) v.1)]) (λx y v=>((v.2,()),())) Tryz.func142 (by kernel_rfl) trivial
noncomputable def CQ:FT (Curs×List ac×Unit) (ac×Curs) (λx=>af x.1∧sL sS x.2.1∧0<x.2.1.length) (λx v=>sS v.1∧af v.2∧(eb (λb:ac=>b.length≤64) x.2.1→v.1.length≤64)):=⟨λ(y0,x1,_)=>
  .cal am.c (y0,(x1.length:Int),()) λc1=>
  .grd ((decide (0≤c1.1))&&(decide (c1.1<(x1.length:Int))))<|
  .ret ((x1.getD c1.1.toNat []),c1.2),
 λ(y0,x1,_) hp=>by
  refine Tr.C ?_ λc1 hc1 qc1=>Tr.G2 ?_ λg0=>Tr.R ?_
  all_goals ((first|grind|(refine⟨by grind,by grind,λhn=> ?_⟩;exact cO (p:=λb:ac=>b.length≤64) hn (Nat.zero_le _) _)))⟩
noncomputable def AI:=cJ st ⟨335,Tryz.f335,[],1⟩ [aA] [] [.wr false [.ptr 0],.sc (.sl .str)] [.box [.st .curs]] (λx y=>(y.1.1,x.2.1,())) CQ (λv=>[(false,[.c (.str v.1)])]) (λx y v=>((v.2,()),())) Tryz.func335 (by kernel_rfl) trivial
noncomputable def Gg:=[aA,AI,aH,bT,wT]
def mH:Sh:=⟨[zp 0 0,(3,false,[.own 1]),zi 4,zi 5],[.box [.st .curs [.sl .any]],.arr .macRow false true]⟩
noncomputable def FV:Fx:=⟨269,Tryz.f269,[(0,la ⟨[0,3,4,5],[],false,1⟩ ⟨[0,2,3,4],[],false,1⟩)],1⟩
noncomputable def K1 (v1:Int)(a:Curs×List MacRow):Tr (Stp (Curs×List MacRow) (Empty)):=
 .cal CQ.c (a.1,[[],[97],[98],[99,100],[97]],()) λc2=>
 .cal am.c (c2.2,16777216,()) λc3=>
 .cal aC.c (c3.2,[0,1,5,16777215,c3.1],()) λc4=>
 .grd (Nat.ble ((2*(a.2.length+1)+1024)*24) aF)<|
 .ret (.next (c4.2,(a.2++[(⟨c2.1,c4.1⟩:MacRow)])))
noncomputable def iB:mH.V→LC mH (Curs×List MacRow) (Empty) (Int×(Curs×List MacRow)):=λ(v0,v1,v2,v3,_)=>⟨v1,(v2,v3),λv1 a=>(v0,v1,a.1,a.2,()),λv1 _=>(decide (v1<v0)),K1,up,1,(Int.toNat (v0-v1)),(λp=>Empty.elim p),λi a=>(i,a),λ_ k x=>k (.exit 0) (Sh.enc ⟨[zp 0 0,zu 2,(3,false,[.own 1]),zi 4],[.box [.st .curs [.sl .any]],.arr .macRow false true]⟩ (v0,x.2.1,x.2.2,()))⟩
theorem Kj:LS Tryz.prog FV [0] (bR 0 mH iB):=aW st (aj Gg) _ iB [] trivial
theorem Kp {v0 v1:Int}{v2:Curs}{v3:List MacRow}(h0:0≤v1)(h1:v0≤4611686018427387904)(h2:v0≤4294967296)(h3:af v2∧(v3.length:Int)=v1∧eb cm v3):(iB (v0,v1,v2,v3,())).U v0 (λv1 a=>af a.1∧(a.2.length:Int)=v1∧eb cm a.2) (λ_=>True):=
 LC.okU (i:=v1) (a:=(v2,v3)) (λ_ _=>rfl) (λ_=>rfl) rfl h0 h1 h3 λv1 (v2,v3) hj hk hv=>by
  refine Tr.C ?_ λ_ _ _=>Tr.C ?_ λ_ _ _=>Tr.C ?_ λ_ _ _=>Tr.Gb ?_ λ_=>Tr.Rn ?_
  all_goals (grind)
noncomputable def Ea:FT (Curs×Unit) (List MacRow×Curs) (λx=>af x.1) (λx v=>sL cm v.1∧af v.2):=⟨λ(y0,_)=>
  .cal am.c (y0,5,()) λc1=>
  .lp (iB (c1.1,0,c1.2,[],())).lp λ(_,a5_0,a5_1)=>
  .ite (decide (0<c1.1)) (.cal bG.c (a5_0,6,()) λc6=>
   .ite c6.1 (.cal yR.c (c6.2,()) λc7=>
    .grd (decide (0<(a5_1.length:Int)))<|
    .ret ((a5_1.set 0 (⟨(a5_1.getD 0 (Ty.zero .macRow)).input,c7.1⟩:MacRow)),c7.2))<|
   .ret (a5_1,c6.2))<|
  .ret (a5_1,a5_0),
 λ(y0,_) hp=>by
  refine Tr.C ?_ λ_ _ _=>Tr.L (Kp ?_ ?_ ?_ ?_) (λ(a5_0,a5_1) _=>Tr.I (λ_=>Tr.C ?_ λ_ _ _=>Tr.I (λ_=>Tr.C ?_ λ_ _ _=>Tr.G1 ?_ λ_=>Tr.R ?_) λ_=>Tr.R ?_) λ_=>Tr.R ?_) (λp=>Empty.elim p)
  all_goals ((try simp only[iB,LC.lp,LC.ct,Ct.lp]at*)<;>grind)⟩
noncomputable def SR:=cJ st FV Gg [(bR 0 mH iB)] [.wr false [.ptr 0]] [.box [.st .curs]] (λx y=>(y.1.1,())) Ea (λv=>[(false,[sc (.o true) .macRow v.1])]) (λx y v=>((v.2,()),())) Tryz.func269 (by kernel_rfl) ⟨Kj,trivial⟩
noncomputable def LF:FT (Curs×Unit) (Mac×Curs) (λx=>af x.1) (λx v=>fH v.1∧af v.2):=⟨λ(y0,_)=>
  .cal bG.c (y0,2,()) λc1=>
  .ite c1.1 (.cal Ea.c (c1.2,()) λc2=>
   .cal qG.c (c2.1,()) λc3=>
   .ret (c3,c2.2))<|
  .cal kY.c (c1.2,()) λc4=>
  .cal kY.c (c4.2,()) λc5=>
  .cal tA.c (c4.1,c5.1,()) λc6=>
  .cal am.c (c5.2,10,()) λc7=>
  .ite (c7.1==0) (.ret (({c6 with use:=true}:Mac),c7.2))<|
  .ite (c7.1==1) (.cal Ea.c (c7.2,()) λc8=>
   .ret (({c6 with rows:=c8.1}:Mac),c8.2))<|
  .ret (c6,c7.2),
 λ(y0,_) hp=>by
  refine Tr.C ?_ λ_ _ _=>Tr.I (λ_=>Tr.C ?_ λ_ _ _=>Tr.C ?_ λ_ _ _=>Tr.R ?_) λ_=>Tr.C ?_ λ_ _ _=>Tr.C ?_ λ_ _ _=>Tr.C trivial λ_ _ _=>Tr.C ?_ λ_ _ _=>Tr.I (λ_=>Tr.R ?_) λ_=>Tr.I (λ_=>Tr.C ?_ λ_ _ _=>Tr.R ?_) λ_=>Tr.R ?_
  all_goals (grind)⟩
noncomputable def WB:=cJ st ⟨145,Tryz.f145,[],1⟩ [bT,SR,BA,AQ,Av,aA] [] [.wr false [.ptr 0]] [.box [.st .curs]] (λx y=>(y.1.1,())) LF (λv=>[(true,Jp (.o true) v.1)]) (λx y v=>((v.2,()),())) Tryz.func145 (by kernel_rfl) trivial
noncomputable def O5:FT (Curs×Unit) (Keys×Curs) (λx=>af x.1) (λx v=>cC v.1∧af v.2):=⟨λ(y0,_)=>
  .cal N7.c (y0,()) λc1=>
  .cal am.c (c1.2,10,()) λc2=>
  .ite (c2.1==0) (.cal aC.c (c2.2,[(-1),0,4294967296],()) λc3=>
   .ret (({c1.1 with epoch:=c3.1}:Keys),c3.2))<|
  .ite (c2.1==1) (.ret (({c1.1 with two:=(!c1.1.two)}:Keys),c2.2))<|
  .ite (c2.1==2) (.cal LF.c (c2.2,()) λc4=>
   .ret (({c1.1 with now.use:=c4.1.use,now.k:=c4.1.k,now.l:=c4.1.l,now.rows:=c4.1.rows}:Keys),c4.2))<|
  .ite (c2.1==3) (.cal LF.c (c2.2,()) λc5=>
   .ret (({c1.1 with before.use:=c5.1.use,before.k:=c5.1.k,before.l:=c5.1.l,before.rows:=c5.1.rows}:Keys),c5.2))<|
  .ret (c1.1,c2.2),
 λ(y0,_) hp=>by
  refine Tr.C ?_ λ_ _ _=>Tr.C ?_ λ_ _ _=>Tr.I (λ_=>Tr.C ?_ λ_ _ _=>Tr.R ?_) λ_=>Tr.I (λ_=>Tr.R ?_) λ_=>Tr.I (λ_=>Tr.C ?_ λ_ _ _=>Tr.R ?_) λ_=>Tr.I (λ_=>Tr.C ?_ λ_ _ _=>Tr.R ?_) λ_=>Tr.R ?_
  all_goals (grind)⟩
noncomputable def Ts:=cJ st ⟨167,Tryz.f167,[],1⟩ [Sy,aA,aH,WB] [] [.wr false [.ptr 0]] [.box [.st .curs]] (λx y=>(y.1.1,())) O5 (λv=>[(true,KA (.o true) (.o true) v.1)]) (λx y v=>((v.2,()),())) Tryz.func167 (by kernel_rfl) trivial
noncomputable def Er:FT (Curs×Unit) (Int×Curs) (λx=>af x.1) (λx v=>af v.2):=⟨λ(y0,_)=>
  .cal aC.c (y0,[167772161,167772162,167772163,0,4294967295],()) λc1=>
  .ret (c1.1,c1.2),
 λ(y0,_) hp=>by
  refine Tr.C ?_ λ_ _ _=>Tr.R ?_
  all_goals (grind)⟩
noncomputable def Kz:=cJ st ⟨364,Tryz.f364,[],1⟩ [aH] [] [.wr false [.ptr 0]] [.box [.st .curs]] (λx y=>(y.1.1,())) Er (λv=>[(false,[.c (.int .i64 v.1)])]) (λx y v=>((v.2,()),())) Tryz.func364 (by kernel_rfl) trivial
noncomputable def qN:FT (Curs×Unit) (Tupl×Curs) (λx=>af x.1) (λx v=>af v.2):=⟨λ(y0,_)=>
  .cal Er.c (y0,()) λc1=>
  .cal aC.c (c1.2,[40000,40001,40002],()) λc2=>
  .ret ((⟨c1.1,c2.1,80⟩:Tupl),c2.2),
 λ(y0,_) hp=>by
  refine Tr.C ?_ λ_ _ _=>Tr.C ?_ λ_ _ _=>Tr.R ?_
  all_goals (grind)⟩
noncomputable def pU:=cJ st ⟨266,Tryz.f266,[],1⟩ [Kz,aH] [] [.wr false [.ptr 0]] [.box [.st .curs]] (λx y=>(y.1.1,())) qN (λv=>[(true,J7 v.1)]) (λx y v=>((v.2,()),())) Tryz.func266 (by kernel_rfl) trivial
noncomputable def tG:FT (Curs×Unit) (Half×Curs) (λx=>af x.1) (λx v=>af v.2):=⟨λ(y0,_)=>
  .cal qN.c (y0,()) λc1=>
  .cal ke.c (c1.2,()) λc2=>
  .cal ke.c (c2.2,()) λc3=>
  .cal pn.c (c3.2,()) λc4=>
  .cal am.c (c4.2,7,()) λc5=>
  .cal aC.c (c5.2,[0,64,65535],()) λc6=>
  .ret ((⟨c1.1,c2.1,c3.1,c4.1,c5.1,c6.1⟩:Half),c6.2),
 λ(y0,_) hp=>by
  refine Tr.C ?_ λ_ _ _=>Tr.C ?_ λ_ _ _=>Tr.C ?_ λ_ _ _=>Tr.C ?_ λ_ _ _=>Tr.C ?_ λ_ _ _=>Tr.C ?_ λ_ _ _=>Tr.R ?_
  all_goals (grind)⟩
noncomputable def FH:=cJ st ⟨287,Tryz.f287,[],1⟩ [pU,lW,oZ,aA,aH] [] [.wr false [.ptr 0]] [.box [.st .curs]] (λx y=>(y.1.1,())) tG (λv=>[(true,act v.1)]) (λx y v=>((v.2,()),())) Tryz.func287 (by kernel_rfl) trivial
noncomputable def F2:=[aA,FH,FC]
def ny:Sh:=⟨[zp 0 0,(3,false,[.own 1]),zi 4,zi 5],[.box [.st .curs [.sl .any]],.arr .half false true]⟩
noncomputable def F8:Fx:=⟨286,Tryz.f286,[(0,la ⟨[0,3,4,5],[],false,1⟩ ⟨[2,3],[],false,1⟩)],1⟩
noncomputable def KC (v1:Int)(a:Curs×List Half):Tr (Stp (Curs×List Half) (Empty)):=
 .cal tG.c (a.1,()) λc2=>
 .cal ub.c (a.2,c2.1,64,()) λc3=>
 .ret (.next (c2.2,c3.1))
noncomputable def iv:ny.V→LC ny (Curs×List Half) (Empty) (Int×(Curs×List Half)):=λ(v0,v1,v2,v3,_)=>⟨v1,(v2,v3),λv1 a=>(v0,v1,a.1,a.2,()),λv1 _=>(decide (v1<v0)),KC,up,1,(Int.toNat (v0-v1)),(λp=>Empty.elim p),λi a=>(i,a),λ_ k x=>k (.exit 0) (Sh.enc ⟨[zu 2,(3,false,[.own 1])],[.box [.st .curs [.sl .any]],.arr .half false true]⟩ (x.2.1,x.2.2,()))⟩
theorem KP:LS Tryz.prog F8 [0] (bR 0 ny iv):=aW st (aj F2) _ iv [] trivial
theorem LT {v0 v1:Int}{v2:Curs}{v3:List Half}(h0:0≤v1)(h1:v0≤4611686018427387904)(h2:af v2∧sS v3∧(v3.length:Int)≤v1):(iv (v0,v1,v2,v3,())).U v0 (λv1 a=>af a.1∧sS a.2∧(a.2.length:Int)≤v1) (λ_=>True):=
 LC.okU (i:=v1) (a:=(v2,v3)) (λ_ _=>rfl) (λ_=>rfl) rfl h0 h1 h2 λv1 (v2,v3) hj hk hv=>by
  refine Tr.C ?_ λ_ _ _=>Tr.C ?_ λ_ _ _=>Tr.Rn ?_
  all_goals (grind)
noncomputable def OI:FT (Curs×Unit) (List Half×Curs) (λx=>af x.1) (λx v=>sS v.1∧af v.2∧(v.1.length:Int)≤5):=⟨λ(y0,_)=>
  .cal am.c (y0,5,()) λc1=>
  .lp (iv (c1.1,0,c1.2,[],())).lp λ(_,a4_0,a4_1)=>
  .ret (a4_1,a4_0),
 λ(y0,_) hp=>by
  refine Tr.C ?_ λ_ _ _=>Tr.L (LT ?_ ?_ ?_) (λ(a4_0,a4_1) _=>Tr.R ?_) (λp=>Empty.elim p)
  all_goals ((try simp only[iv,LC.lp,LC.ct,Ct.lp]at*)<;>grind)⟩
noncomputable def TF:=cJ st F8 F2 [(bR 0 ny iv)] [.wr false [.ptr 0]] [.box [.st .curs]] (λx y=>(y.1.1,())) OI (λv=>[(false,[sc (.o true) .half v.1])]) (λx y v=>((v.2,()),())) Tryz.func286 (by kernel_rfl) ⟨KP,trivial⟩
noncomputable def DN:FT (Curs×Unit) (Tupl×Curs) (λx=>af x.1) (λx v=>af v.2):=⟨λ(y0,_)=>
  .cal qN.c (y0,()) λc1=>
  .cal am.c (c1.2,10,()) λc2=>
  .ite (c2.1==0) (.cal cX.c (c2.2,()) λc3=>
   .ret (({c1.1 with ip:=c3.1}:Tupl),c3.2))<|
  .ite (c2.1==1) (.cal cX.c (c2.2,()) λc4=>
   .ret (({c1.1 with port:=c4.1}:Tupl),c4.2))<|
  .ite (c2.1==2) (.cal cX.c (c2.2,()) λc5=>
   .ret (({c1.1 with my:=c5.1}:Tupl),c5.2))<|
  .ret (c1.1,c2.2),
 λ(y0,_) hp=>by
  refine Tr.C ?_ λ_ _ _=>Tr.C ?_ λ_ _ _=>Tr.I (λ_=>Tr.C ?_ λ_ _ _=>Tr.R ?_) λ_=>Tr.I (λ_=>Tr.C ?_ λ_ _ _=>Tr.R ?_) λ_=>Tr.I (λ_=>Tr.C ?_ λ_ _ _=>Tr.R ?_) λ_=>Tr.R ?_
  all_goals (grind)⟩
noncomputable def EQ:=cJ st ⟨144,Tryz.f144,[],1⟩ [pU,aA,gt] [] [.wr false [.ptr 0]] [.box [.st .curs]] (λx y=>(y.1.1,())) DN (λv=>[(true,J7 v.1)]) (λx y v=>((v.2,()),())) Tryz.func144 (by kernel_rfl) trivial
noncomputable def LA:FT (Curs×Unit) (Opti×Curs) (λx=>af x.1) (λx v=>af v.2):=⟨λ(y0,_)=>
  .cal pn.c (y0,()) λc1=>
  .cal am.c (c1.2,10,()) λc2=>
  .ite (c2.1==0) (.cal cX.c (c2.2,()) λc3=>
   .ret (({c1.1 with mss:=c3.1}:Opti),c3.2))<|
  .ite (c2.1==1) (.cal aC.c (c2.2,[(-2),(-1),14,15],()) λc4=>
   .ret (({c1.1 with scale:=c4.1}:Opti),c4.2))<|
  .ite (c2.1==2) (.ret (({c1.1 with stamp:=(!c1.1.stamp)}:Opti),c2.2))<|
  .ite (c2.1==3) (.cal cX.c (c2.2,()) λc5=>
   .ret (({c1.1 with val:=c5.1}:Opti),c5.2))<|
  .ret (c1.1,c2.2),
 λ(y0,_) hp=>by
  refine Tr.C ?_ λ_ _ _=>Tr.C ?_ λ_ _ _=>Tr.I (λ_=>Tr.C ?_ λ_ _ _=>Tr.R ?_) λ_=>Tr.I (λ_=>Tr.C ?_ λ_ _ _=>Tr.R ?_) λ_=>Tr.I (λ_=>Tr.R ?_) λ_=>Tr.I (λ_=>Tr.C ?_ λ_ _ _=>Tr.R ?_) λ_=>Tr.R ?_
  all_goals (grind)⟩
noncomputable def IR:=cJ st ⟨172,Tryz.f172,[],1⟩ [oZ,aA,gt,aH] [] [.wr false [.ptr 0]] [.box [.st .curs]] (λx y=>(y.1.1,())) LA (λv=>[(true,nV v.1)]) (λx y v=>((v.2,()),())) Tryz.func172 (by kernel_rfl) trivial
noncomputable def Oi:FT (Curs×Unit) (List Half×Curs) (λx=>af x.1) (λx v=>sS v.1∧af v.2):=⟨λ(y0,_)=>
  .cal OI.c (y0,()) λc1=>
  .cal am.c (c1.2,8,()) λc2=>
  .ite (c2.1==0) (.cal tG.c (c2.2,()) λc3=>
   .cal aC.c (c3.2,[(-1),6,7],()) λc4=>
   .grd (Nat.ble ((2*(c1.1.length+1)+1024)*96) aF)<|
   .ret ((c1.1++[({c3.1 with age:=c4.1}:Half)]),c4.2))<|
  .ite (c2.1==1) (.cal tG.c (c2.2,()) λc5=>
   .cal DN.c (c5.2,()) λc6=>
   .cal cX.c (c6.2,()) λc7=>
   .grd (Nat.ble ((2*(c1.1.length+1)+1024)*96) aF)<|
   .val (c1.1++[({c5.1 with tuple.ip:=c6.1.ip,tuple.port:=c6.1.port,tuple.my:=c6.1.my,iss:=c7.1}:Half)]) λl8=>
   .ret (l8,c7.2))<|
  .ite (c2.1==2) (.cal tG.c (c2.2,()) λc9=>
   .cal LA.c (c9.2,()) λc10=>
   .grd (Nat.ble ((2*(c1.1.length+1)+1024)*96) aF)<|
   .val (c1.1++[({c9.1 with opts.mss:=c10.1.mss,opts.scale:=c10.1.scale,opts.sack:=c10.1.sack,opts.stamp:=c10.1.stamp,opts.val:=c10.1.val,opts.echo:=c10.1.echo}:Half)]) λl11=>
   .ret (l11,c10.2))<|
  .ret (c1.1,c2.2),
 λ(y0,_) hp=>by
  refine Tr.C ?_ λc1 hc1 qc1=>Tr.C ?_ λc2 hc2 qc2=>Tr.I (λb0=>Tr.C ?_ λc3 hc3 qc3=>Tr.C ?_ λc4 hc4 qc4=>Tr.Gb ?_ λg1=>Tr.R ?_) λb0=>Tr.I (λb1=>Tr.C ?_ λc5 hc5 qc5=>Tr.C ?_ λc6 hc6 qc6=>Tr.C ?_ λc7 hc7 qc7=>Tr.Gb ?_ λg2=>Tr.V λl8 hl8=>Tr.R ?_) λb1=>Tr.I (λb2=>Tr.C ?_ λc9 hc9 qc9=>Tr.C ?_ λc10 hc10 qc10=>Tr.Gb ?_ λg3=>Tr.V λl11 hl11=>Tr.R ?_) λb2=>Tr.R ?_
  all_goals ((first|grind|(refine⟨?_,by grind⟩;have hl:∀v:List Half×Curs,v.1.length≤5→∀h:Half,sS (v.1++[h]):=λv hv h=>(by simp only[sS,List.length_append,List.length_cons,List.length_nil];omega);subst_vars;apply hl;grind)))⟩
noncomputable def Tz:=cJ st ⟨168,Tryz.f168,[],1⟩ [TF,aA,FH,aH,EQ,gt,IR] [] [.wr false [.ptr 0]] [.box [.st .curs]] (λx y=>(y.1.1,())) Oi (λv=>[(false,[sc (.o true) .half v.1])]) (λx y v=>((v.2,()),())) Tryz.func168 (by kernel_rfl) trivial
noncomputable def zR:=[aA,iZ,bT,j7,dJ]
def kH:Sh:=⟨[zp 0 0,zp 3 1,zi 7,zi 8,(9,false,[.own 2]),zi 10],[.box [.st .curs [.sl .any]],.box [.st .recv [.sl .arg]],.arr .u8 false true]⟩
def C7:An:=⟨⟨[],[],false,1⟩,⟨[0,3,4,5,6,7,9],[],false,1⟩,⟨[],[]⟩,[(.normal,⟨[zp 0 0,zp 3 1,zu 4,zu 5,zu 6,zi 7,(9,false,[.own 2])],[.box [.st .curs [.sl .any]],.box [.st .recv [.sl .arg]],.arr .u8 false true]⟩)]⟩
noncomputable def zO:Fx:=⟨331,Tryz.f331,[(0,la ⟨[0,3,7,8,9,10],[],false,1⟩ ⟨[0,3,4,5,6,7,8,9],[],false,1⟩),(1000036,C7)],1⟩
noncomputable def EA (v0:Int)(v4:Recv)(v2:Int)(a:List Int):Tr (Stp (List Int) (Empty)):=
 .val (bS.f ((IntKind.wrap .i64 ((IntKind.wrap .i64 (v4.next+v0))+v2)),())) λc3=>
 .grd (Nat.ble ((2*(a.length+1)+1024)*1) aF)<|
 .ret (.next (a++[(IntKind.wrap .u8 (IntKind.wrap .i64 (97+(c3.tmod 26))))]))
noncomputable def fX:kH.V→LC kH (List Int) (Empty) (Int×(List Int)):=λ(v0,v1,v2,v3,v4,v5,_)=>⟨v2,v5,λv2 a=>(v0,v1,v2,v3,v4,a,()),λv2 _=>(decide (v2<v1)),EA v0 v4,up,1,(Int.toNat (v1-v2)),(λp=>Empty.elim p),λi a=>(i,a),λ_ k x=>k (.exit 0) (Sh.enc ⟨[zp 0 0,zp 3 1,zu 4,zu 5,zu 6,zi 7,zi 8,(9,false,[.own 2])],[.box [.st .curs [.sl .any]],.box [.st .recv [.sl .arg]],.arr .u8 false true]⟩ (v0,v1,v3,v4,x.2,()))⟩
theorem D5:LS Tryz.prog zO [0] (bR 0 kH fX):=aW st (aj zR) _ fX [] trivial
theorem Ek {v0 v1 v2:Int}{v3:Curs}{v4:Recv}{v5:List Int}(h0:0≤v2)(h1:v1≤4611686018427387904)(h2:ax v4)(h3:v1≤4294967296)(h4:(v5.length:Int)=v2):(fX (v0,v1,v2,v3,v4,v5,())).U v1 (λv2 a=>(a.length:Int)=v2) (λ_=>True):=
 LC.okU (i:=v2) (a:=v5) (λ_ _=>rfl) (λ_=>rfl) rfl h0 h1 h4 λv2 v5 hj hk hv=>by
  refine Tr.V λ_ _=>Tr.Gb ?_ λ_=>Tr.Rn ?_
  all_goals (grind)
noncomputable def wG:FT (Curs×Recv×Unit) (Int×ac×Bool×Curs) (λx=>af x.1∧ax x.2.1) (λx v=>sS v.2.1∧af v.2.2.2):=⟨λ(y0,x1,_)=>
  .cal am.c (y0,40,()) λc1=>
  .cal am.c (c1.2,9,()) λc2=>
  .lp (fX ((IntKind.wrap .i64 (c1.1-6)),c2.1,0,c2.2,x1,[],())).lp λ(_,a4_0)=>
  .cal bG.c (c2.2,6,()) λc5=>
  .bnd (β:=Int×Curs×Recv×List Int×Unit) (.ite c5.1 (.cal mg.c (c5.2,c2.1,()) λc6=>
    .ret ((IntKind.wrap .i64 (c1.1-6)),c6.2,x1,c6.1,()))<|
   .ret ((IntKind.wrap .i64 (c1.1-6)),c5.2,x1,a4_0,())) λ(u7a0,u7a1,u7a2,u7a3,_)=>
  .val (bN.f (u7a2.next,u7a0,())) λc8=>
  .cal bG.c (u7a1,6,()) λc9=>
  .ret (c8,(av u7a3),c9.1,c9.2),
 λ(y0,x1,_) hp=>by
  refine Tr.C ?_ λ_ _ _=>Tr.C ?_ λ_ _ _=>Tr.L (Ek ?_ ?_ ?_ ?_ ?_) (λa4_0 _=>Tr.C ?_ λ_ _ _=>Tr.B (Q':=λw=>af w.2.1∧ax w.2.2.1∧sS w.2.2.2.1) (Tr.I (λ_=>Tr.C ?_ λ_ _ _=>Tr.R ?_) λ_=>Tr.R ?_) (λ(u7a0,u7a1,u7a2,u7a3,_) _ _=>Tr.V λ_ _=>Tr.C ?_ λ_ _ _=>Tr.R ?_)) (λp=>Empty.elim p)
  all_goals ((try simp only[fX,LC.lp,LC.ct,Ct.lp,Tr.nice,bo]at*)<;>grind)⟩
noncomputable def zG:=cJ st zO zR [(bR 0 kH fX)] [.wr false [.ptr 0],.st .recv] [.box [.st .curs]] (λx y=>(y.1.1,x.2.1,())) wG (λv=>[(false,[.c (.int .i64 v.1)]),(false,[.c (.str v.2.1)]),(false,[.c (.bool v.2.2.1)])]) (λx y v=>((v.2.2.2,()),())) Tryz.func331 (by kernel_rfl) ⟨D5,trivial⟩
noncomputable def OH:FT (Curs×Unit) (Int×Curs) (λx=>af x.1) (λx v=>af v.2):=⟨λ(y0,_)=>
  .cal am.c (y0,64,()) λc1=>
  .cal aC.c (c1.2,[2,16,16,18,24,17,4,20,0,c1.1],()) λc2=>
  .ret (c2.1,c2.2),
 λ(y0,_) hp=>by
  refine Tr.C ?_ λ_ _ _=>Tr.C ?_ λ_ _ _=>Tr.R ?_
  all_goals (first|grind|(simp only[sS,List.length_cons,List.length_nil];grind))⟩
noncomputable def Ui:=cJ st ⟨333,Tryz.f333,[],1⟩ [aA,aH] [] [.wr false [.ptr 0]] [.box [.st .curs]] (λx y=>(y.1.1,())) OH (λv=>[(false,[.c (.int .i64 v.1)])]) (λx y v=>((v.2,()),())) Tryz.func333 (by kernel_rfl) trivial
noncomputable def LB:=[zG,bT,je,aA,dJ,aH,eB,Ui,L6,iZ]
def AZ:An:=⟨⟨[],[],false,1⟩,⟨[0,3,4,5,6,7],[],false,1⟩,⟨[],[]⟩,[(.normal,⟨[zp 0 0,zp 3 1,zp 4 2,zi 5,zs 6,zb 7],[.box [.st .curs [.sl .any]],.box [.st .conn [.sl .arg]],.box [.st .segm []]]⟩)]⟩
def Ar:An:=⟨⟨[],[],false,1⟩,⟨[0,3,4,8],[],false,1⟩,⟨[],[]⟩,[(.normal,⟨[zp 0 0,zp 3 1,zp 4 2,zp 8 3],[.box [.st .curs [.sl .any]],.box [.st .conn [.sl .arg]],.box [.st .segm []],.box [.st .segm []]]⟩)]⟩
def z6:An:=⟨⟨[],[],false,1⟩,⟨[4,8],[],false,1⟩,⟨[],[]⟩,[(.normal,⟨[zp 4 1,zp 8 2],[.box [.st .curs [.sl .any]],.box [.st .segm []],.box [.st .segm []]]⟩)]⟩
noncomputable def I4:Fx:=⟨213,Tryz.f213,[(1000018,AZ),(1000045,Ar),(1000052,z6)],1⟩
noncomputable def vg:FT (Curs×Conn×Unit) (Segm×Curs) (λx=>af x.1∧ai x.2.1) (λx v=>ao v.1∧af v.2):=⟨λ(y0,x1,_)=>
  .cal wG.c (y0,x1.r,()) λc1=>
  .cal bG.c (c1.2.2.2,2,()) λc2=>
  .bnd (β:=Int×ac×Bool×Curs×Conn×Segm×Unit) (.ite c2.1 (.ret (x1.r.next,c1.2.1,c1.2.2.1,c2.2,x1,(⟨0,0,0,0,0,0,⟨0,0,false,false,0,0⟩,[]⟩:Segm),()))<|
   .ret (c1.1,c1.2.1,c1.2.2.1,c2.2,x1,(⟨0,0,0,0,0,0,⟨0,0,false,false,0,0⟩,[]⟩:Segm),())) λ(u3a0,u3a1,u3a2,u3a3,u3a4,u3a5,_)=>
  .cal gS.c (u3a4.s,()) λc4=>
  .cal am.c (u3a3,(IntKind.wrap .i64 (c4+1)),()) λc5=>
  .val (bN.f (u3a4.s.una,c5.1,())) λc6=>
  .cal aC.c (c5.2,[0,1,8,64,65535],()) λc7=>
  .val (bM.f (())) λc8=>
  .bnd (β:=Curs×Conn×Segm×Segm×Unit) (.ite u3a2 (.ret (c7.2,u3a4,u3a5,(⟨u3a4.tuple.port,u3a4.tuple.my,u3a0,c6,17,c7.1,c8,u3a1⟩:Segm),()))<|
   .ret (c7.2,u3a4,u3a5,(⟨u3a4.tuple.port,u3a4.tuple.my,u3a0,c6,16,c7.1,c8,u3a1⟩:Segm),())) λ(u9a0,u9a1,u9a2,u9a3,_)=>
  .cal am.c (u9a0,10,()) λc10=>
  .bnd (β:=Curs×Segm×Segm×Unit) (.ite (c10.1==0) (.cal OH.c (c10.2,()) λc11=>
    .ret (c11.2,u9a2,({u9a3 with flags:=c11.1}:Segm),()))<|
   .ite (c10.1==1) (.cal rF.c (c10.2,u9a1.s.una,()) λc12=>
    .ret (c12.2,u9a2,({u9a3 with ack:=c12.1}:Segm),()))<|
   .ite (c10.1==2) (.cal rF.c (c10.2,u9a1.r.next,()) λc13=>
    .ret (c13.2,u9a2,({u9a3 with seq:=c13.1}:Segm),()))<|
   .ite (c10.1==3) (.ret (c10.2,u9a2,({u9a3 with body:=[]}:Segm),()))<|
   .ret (c10.2,u9a2,u9a3,())) λ(u14a0,_,u14a2,_)=>
  .val (bS.f (u14a2.seq,())) λc15=>
  .val (bS.f (u14a2.ack,())) λc16=>
  .ret (({u14a2 with seq:=c15,ack:=c16}:Segm),u14a0),
 λ(y0,x1,_) hp=>by
  refine Tr.C ?_ λ_ _ _=>Tr.C ?_ λ_ _ _=>Tr.B (Q':=λw=>sS w.2.1∧af w.2.2.2.1∧ai w.2.2.2.2.1∧ao w.2.2.2.2.2.1) (Tr.I (λ_=>Tr.R ?_) λ_=>Tr.R ?_) (λ(u3a0,u3a1,u3a2,u3a3,u3a4,u3a5,_) _ _=>Tr.C ?_ λ_ _ _=>Tr.C ?_ λ_ _ _=>Tr.V λ_ _=>Tr.C ?_ λ_ _ _=>Tr.V λ_ _=>Tr.B (Q':=λw=>af w.1∧ai w.2.1∧ao w.2.2.1∧ao w.2.2.2.1) (Tr.I (λ_=>Tr.R ?_) λ_=>Tr.R ?_) (λ(u9a0,u9a1,u9a2,u9a3,_) _ _=>Tr.C ?_ λ_ _ _=>Tr.B (Q':=λw=>af w.1∧ao w.2.1∧ao w.2.2.1) (Tr.I (λ_=>Tr.C ?_ λ_ _ _=>Tr.R ?_) λ_=>Tr.I (λ_=>Tr.C ?_ λ_ _ _=>Tr.R ?_) λ_=>Tr.I (λ_=>Tr.C ?_ λ_ _ _=>Tr.R ?_) λ_=>Tr.I (λ_=>Tr.R ?_) λ_=>Tr.R ?_) (λ(u14a0,u14a1,u14a2,_) _ _=>Tr.V λ_ _=>Tr.V λ_ _=>Tr.R ?_)))
  all_goals ((try simp only[Tr.nice,bo]at*)<;>grind)⟩
noncomputable def xL:=cJ st I4 LB [] [.wr false [.ptr 0],.st .conn] [.box [.st .curs]] (λx y=>(y.1.1,x.2.1,())) vg (λv=>[(true,qU v.1)]) (λx y v=>((v.2,()),())) Tryz.func213 (by kernel_rfl) trivial
noncomputable def EZ:=[pU,lW,oZ,aH,FY,aA,j7,X6,Po,bT,aad,QK,xL,yg]
def nj:Sh:=⟨[zp 0 0,zp 2 1,zp 3 2,zi 4,zi 5],[.box [.st .curs [.sl .any]],.box [.st .conn [.nil .piec]],.box [.st .conn [.own 3]],.of false true]⟩
noncomputable def EV:Fx:=⟨374,Tryz.f374,[(0,la ⟨[0,2,3,4,5],[],false,1⟩ ⟨[2,3],[],false,1⟩)],1⟩
noncomputable def Ku (v1:Int)(a:Curs×Conn×Conn):Tr (Stp (Curs×Conn×Conn) (Empty)):=
 .cal am.c (a.1,8,()) λc8=>
 .ite (c8.1==0) (.cal am.c (c8.2,20,()) λc9=>
  .cal mg.c (c9.2,c9.1,()) λc10=>
  .cal XD.c (a.2.2,(av c10.1),()) λc11=>
  .ret (.next (c10.2,({a.2.1 with r.held:=[]}:Conn),c11.1)))<|
 .ite (c8.1==1) (.cal K5.c (a.2.2,()) λc12=>
  .ret (.next (c8.2,({a.2.1 with r.held:=[]}:Conn),c12.1)))<|
 .ite (c8.1==2) (.cal bG.c (c8.2,2,()) λc13=>
  .ite c13.1 (.cal aal.c (a.2.2,()) λc14=>
   .ret (.next (c13.2,({a.2.1 with r.held:=[]}:Conn),c14.1)))<|
  .ret (.next (c13.2,({a.2.1 with r.held:=[]}:Conn),a.2.2)))<|
 .ite (c8.1==3) (.cal am.c (c8.2,9,()) λc15=>
  .cal Mc.c (a.2.2,c15.1,()) λc16=>
  .ret (.next (c15.2,({a.2.1 with r.held:=[]}:Conn),c16.1)))<|
 .cal vg.c (c8.2,a.2.2,()) λc17=>
 .cal qA.c (a.2.2,c17.1,()) λc18=>
 .ret (.next (c17.2,({a.2.1 with r.held:=[]}:Conn),c18.1))
noncomputable def iA:nj.V→LC nj (Curs×Conn×Conn) (Empty) (Int×(Curs×Conn×Conn)):=λ(v0,v1,v2,v3,v4,_)=>⟨v1,(v2,v3,v4),λv1 a=>(v0,v1,a.1,a.2.1,a.2.2,()),λv1 _=>(decide (v1<v0)),Ku,up,1,(Int.toNat (v0-v1)),(λp=>Empty.elim p),λi a=>(i,a),λ_ k x=>k (.exit 0) (Sh.enc ⟨[zp 2 1,zp 3 2],[.box [.st .curs [.sl .any]],.box [.st .conn [.nil .piec]],.box [.st .conn [.own 3]],.of false true]⟩ (x.2.1,({x.2.2.1 with r.held:=[]}:Conn),x.2.2.2,()))⟩
theorem IJ:LS Tryz.prog EV [0] (bR 0 nj iA):=aW st (aj EZ) _ iA [] trivial
theorem Ip {v0 v1:Int}{v2:Curs}{v3 v4:Conn}(h0:0≤v1)(h1:v0≤4611686018427387904)(h2:af v2∧ai v3∧ai v4):(iA (v0,v1,v2,v3,v4,())).U v0 (λv1 a=>af a.1∧ai a.2.1∧ai a.2.2) (λ_=>True):=
 LC.okU (i:=v1) (a:=(v2,v3,v4)) (λ_ _=>rfl) (λ_=>rfl) rfl h0 h1 h2 λv1 (v2,v3,v4) hj hk hv=>by
  refine Tr.C ?_ λ_ _ _=>Tr.I (λ_=>Tr.C ?_ λ_ _ _=>Tr.C ?_ λ_ _ _=>Tr.C ?_ λ_ _ _=>Tr.Rn ?_) λ_=>Tr.I (λ_=>Tr.C ?_ λ_ _ _=>Tr.Rn ?_) λ_=>Tr.I (λ_=>Tr.C ?_ λ_ _ _=>Tr.I (λ_=>Tr.C ?_ λ_ _ _=>Tr.Rn ?_) λ_=>Tr.Rn ?_) λ_=>Tr.I (λ_=>Tr.C ?_ λ_ _ _=>Tr.C ?_ λ_ _ _=>Tr.Rn ?_) λ_=>Tr.C ?_ λ_ _ _=>Tr.C ?_ λ_ _ _=>Tr.Rn ?_
  all_goals (grind)
noncomputable def En:FT (Curs×Unit) (Conn×Curs) (λx=>af x.1) (λx v=>ai v.1∧af v.2):=⟨λ(y0,_)=>
  .cal qN.c (y0,()) λc1=>
  .cal ke.c (c1.2,()) λc2=>
  .cal ke.c (c2.2,()) λc3=>
  .cal pn.c (c3.2,()) λc4=>
  .cal aC.c (c4.2,[0,4,64,65535],()) λc5=>
  .cal qp.c (c1.1,c2.1,c3.1,c4.1,c5.1,()) λc6=>
  .cal am.c (c5.2,9,()) λc7=>
  .lp (iA (c7.1,0,c7.2,(⟨⟨0,0,0⟩,0,⟨0,[],0,false,false,false⟩,⟨0,[],[],0,false⟩,0,0,⟨0,0,false,false,0,0⟩,0,0⟩:Conn),c6,())).lp λ(_,a19_0,_,a19_2)=>
  .ret (a19_2,a19_0),
 λ(y0,_) hp=>by
  refine Tr.C ?_ λ_ _ _=>Tr.C ?_ λ_ _ _=>Tr.C ?_ λ_ _ _=>Tr.C ?_ λ_ _ _=>Tr.C ?_ λ_ _ _=>Tr.C trivial λ_ _ _=>Tr.C ?_ λ_ _ _=>Tr.L (Ip ?_ ?_ ?_) (λ(a19_0,a19_1,a19_2) _=>Tr.R ?_) (λp=>Empty.elim p)
  all_goals ((try simp only[iA,LC.lp,LC.ct,Ct.lp]at*)<;>grind)⟩
noncomputable def E1:=cJ st EV EZ [(bR 0 nj iA)] [.wr false [.ptr 0]] [.box [.st .curs]] (λx y=>(y.1.1,())) En (λv=>[(true,jP (.o true) v.1)]) (λx y v=>((v.2,()),())) Tryz.func374 (by kernel_rfl) ⟨IJ,trivial⟩
noncomputable def BO:=[aA,E1,Fc,bT,GQ]
def lk:Sh:=⟨[zp 0 0,zp 3 1,zp 4 2,zp 5 3,zi 6,zi 7],[.box [.st .curs [.sl .any]],.box [.st .limi []],.box [.st .tabl [.nil .conn,.nil .tupl]],.box [.st .tabl [.own 4,.own 5]],.of false true,.of false true]⟩
noncomputable def CR:Fx:=⟨288,Tryz.f288,[(0,la ⟨[0,3,4,5,6,7],[.box 5 0 .conn,.box 5 1 .tupl],false,1⟩ ⟨[4,5],[],false,1⟩)],1⟩
noncomputable def GN (v3:Limi)(v1:Int)(a:Curs×Tabl×Tabl):Tr (Stp (Curs×Tabl×Tabl) (Empty)):=
 .cal En.c (a.1,()) λc6=>
 .cal ug.c (a.2.2,c6.1,v3,()) λc7=>
 .cal bG.c (c6.2,3,()) λc8=>
 .ite c8.1 (.cal zQ.c (c7.1,()) λc9=>
  .ret (.next (c8.2,(⟨[],[]⟩:Tabl),c9.1)))<|
 .ret (.next (c8.2,(⟨[],[]⟩:Tabl),c7.1))
noncomputable def gI:lk.V→LC lk (Curs×Tabl×Tabl) (Empty) (Int×(Curs×Tabl×Tabl)):=λ(v0,v1,v2,v3,v4,v5,_)=>⟨v1,(v2,v4,v5),λv1 a=>(v0,v1,a.1,v3,a.2.1,a.2.2,()),λv1 _=>(decide (v1<v0)),GN v3,up,1,(Int.toNat (v0-v1)),(λp=>Empty.elim p),λi a=>(i,a),λ_ k x=>k (.exit 0) (Sh.enc ⟨[zp 4 1,zp 5 2],[.box [.st .curs [.sl .any]],.box [.st .tabl [.nil .conn,.nil .tupl]],.box [.st .tabl [.own 3,.own 4]],.of false true,.of false true]⟩ (x.2.1,(⟨[],[]⟩:Tabl),x.2.2.2,()))⟩
theorem GB:LS Tryz.prog CR [0] (bR 0 lk gI):=aW st (aj BO) _ gI [] trivial
theorem Gl {v0 v1:Int}{v2:Curs}{v3:Limi}{v4 v5:Tabl}(h0:0≤v1)(h1:v0≤4611686018427387904)(h2:af v2∧bu v4∧bu v5∧v5.conns.length≤16∧v5.waiting.length≤16):(gI (v0,v1,v2,v3,v4,v5,())).U v0 (λv1 a=>af a.1∧bu a.2.1∧bu a.2.2∧a.2.2.conns.length≤16∧a.2.2.waiting.length≤16) (λ_=>True):=
 LC.okU (i:=v1) (a:=(v2,v4,v5)) (λ_ _=>rfl) (λ_=>rfl) rfl h0 h1 h2 λv1 (v2,v4,v5) hj hk hv=>by
  refine Tr.C ?_ λ_ _ _=>Tr.C ?_ λ_ _ _=>Tr.C ?_ λ_ _ _=>Tr.I (λ_=>Tr.C ?_ λ_ _ _=>Tr.Rn ?_) λ_=>Tr.Rn ?_
  all_goals (grind)
noncomputable def Jm:FT (Curs×Limi×Unit) (Tabl×Curs) (λx=>af x.1) (λx v=>bu v.1∧af v.2∧v.1.conns.length≤16∧v.1.waiting.length≤16):=⟨λ(y0,x1,_)=>
  .cal am.c (y0,4,()) λc1=>
  .lp (gI (c1.1,0,c1.2,x1,(⟨[],[]⟩:Tabl),(⟨[],[]⟩:Tabl),())).lp λ(_,a10_0,_,a10_2)=>
  .ret (a10_2,a10_0),
 λ(y0,x1,_) hp=>by
  refine Tr.C ?_ λ_ _ _=>Tr.L (Gl ?_ ?_ ?_) (λ(a10_0,a10_1,a10_2) _=>Tr.R ?_) (λp=>Empty.elim p)
  all_goals ((try simp only[gI,LC.lp,LC.ct,Ct.lp]at*)<;>grind)⟩
noncomputable def QN:=cJ st CR BO [(bR 0 lk gI)] [.wr false [.ptr 0],.st .limi] [.box [.st .curs]] (λx y=>(y.1.1,x.2.1,())) Jm (λv=>[(true,uy (.o true) (.o true) v.1)]) (λx y v=>((v.2,()),())) Tryz.func288 (by kernel_rfl) ⟨GB,trivial⟩
noncomputable def zk:=[lW,aA,j7,Mg,zf,Fb,je,dJ,NZ,bT]
def kD:Sh:=⟨[zp 0 0,zp 2 1,zp 3 2,zi 4,zi 5],[.box [.st .curs [.sl .any]],.box [.st .sndr []],.box [.st .sndr []]]⟩
noncomputable def zF:Fx:=⟨421,Tryz.f421,[(0,la ⟨[0,2,3,4,5],[],false,1⟩ ⟨[2,3],[],false,1⟩)],1⟩
noncomputable def DS (v1:Int)(a:Curs×Sndr):Tr (Stp (Curs×Sndr) (Empty)):=
 .cal am.c (a.1,4,()) λc3=>
 .ite (c3.1==0) (.cal am.c (c3.2,20,()) λc4=>
  .cal mg.c (c4.2,c4.1,()) λc5=>
  .cal JJ.c (a.2,(av c5.1),()) λc6=>
  .ret (.next (c5.2,c6.1)))<|
 .ite (c3.1==1) (.cal am.c (c3.2,40,()) λc7=>
  .cal am.c (c7.2,16,()) λc8=>
  .cal pA.c (a.2,(IntKind.wrap .i64 (1+c7.1)),(IntKind.wrap .i64 (1+c8.1)),()) λc9=>
  .ite c9.2 (.cal l0.c (a.2,c9.1,()) λc10=>
   .ret (.next (c8.2,c10)))<|
  .ret (.next (c8.2,a.2)))<|
 .ite (c3.1==2) (.cal gS.c (a.2,()) λc11=>
  .cal am.c (c3.2,(IntKind.wrap .i64 (c11+1)),()) λc12=>
  .val (bN.f (a.2.una,c12.1,())) λc13=>
  .cal BH.c (a.2,c13,()) λc14=>
  .ret (.next (c12.2,c14.1)))<|
 .ite a.2.fin (.ret (.next (c3.2,({a.2 with fin:=true}:Sndr))))<|
 .cal bG.c (c3.2,2,()) λc15=>
 .ret (.next (c15.2,({a.2 with fin:=c15.1}:Sndr)))
noncomputable def fV:kD.V→LC kD (Curs×Sndr) (Empty) (Int×(Curs×Sndr)):=λ(v0,v1,v2,v3,v4,_)=>⟨v1,(v2,v4),λv1 a=>(v0,v1,a.1,v3,a.2,()),λv1 _=>(decide (v1<v0)),DS,up,1,(Int.toNat (v0-v1)),(λp=>Empty.elim p),λi a=>(i,a),λ_ k x=>k (.exit 0) (Sh.enc ⟨[zp 2 1,zp 3 2],[.box [.st .curs [.sl .any]],.box [.st .sndr []],.box [.st .sndr []]]⟩ (x.2.1,v3,x.2.2,()))⟩
theorem DE:LS Tryz.prog zF [0] (bR 0 kD fV):=aW st (aj zk) _ fV [] trivial
theorem Ep {v0 v1:Int}{v2:Curs}{v3 v4:Sndr}(h0:0≤v1)(h1:v0≤4611686018427387904)(h2:af v2∧cf v4):(fV (v0,v1,v2,v3,v4,())).U v0 (λv1 a=>af a.1∧cf a.2) (λ_=>True):=
 LC.okU (i:=v1) (a:=(v2,v4)) (λ_ _=>rfl) (λ_=>rfl) rfl h0 h1 h2 λv1 (v2,v4) hj hk hv=>by
  refine Tr.C ?_ λ_ _ _=>Tr.I (λ_=>Tr.C ?_ λ_ _ _=>Tr.C ?_ λ_ _ _=>Tr.C ?_ λ_ _ _=>Tr.Rn ?_) λ_=>Tr.I (λ_=>Tr.C ?_ λ_ _ _=>Tr.C ?_ λ_ _ _=>Tr.C ?_ λ_ _ _=>Tr.I (λ_=>Tr.C ?_ λ_ _ _=>Tr.Rn ?_) λ_=>Tr.Rn ?_) λ_=>Tr.I (λ_=>Tr.C ?_ λ_ _ _=>Tr.C ?_ λ_ _ _=>Tr.V λ_ _=>Tr.C ?_ λ_ _ _=>Tr.Rn ?_) λ_=>Tr.I (λ_=>Tr.Rn ?_) λ_=>Tr.C ?_ λ_ _ _=>Tr.Rn ?_
  all_goals (grind)
noncomputable def EL:FT (Curs×Unit) (Sndr×Curs) (λx=>af x.1) (λx v=>cf v.1∧af v.2):=⟨λ(y0,_)=>
  .cal ke.c (y0,()) λc1=>
  .cal am.c (c1.2,6,()) λc2=>
  .lp (fV (c2.1,0,c2.2,(⟨0,[],0,false,false,false⟩:Sndr),(⟨c1.1,[],0,false,false,false⟩:Sndr),())).lp λ(_,a16_0,a16_1)=>
  .ret (a16_1,a16_0),
 λ(y0,_) hp=>by
  refine Tr.C ?_ λ_ _ _=>Tr.C ?_ λ_ _ _=>Tr.L (Ep ?_ ?_ ?_) (λ(a16_0,a16_1) _=>Tr.R ?_) (λp=>Empty.elim p)
  all_goals ((try simp only[fV,LC.lp,LC.ct,Ct.lp]at*)<;>grind)⟩
noncomputable def Ni:=cJ st zF zk [(bR 0 kD fV)] [.wr false [.ptr 0]] [.box [.st .curs]] (λx y=>(y.1.1,())) EL (λv=>[(true,ya v.1)]) (λx y v=>((v.2,()),())) Tryz.func421 (by kernel_rfl) ⟨DE,trivial⟩
noncomputable def OJ:FT (Curs×Unit) (Sndr×Curs) (λx=>af x.1) (λx v=>cf v.1∧af v.2):=⟨λ(y0,_)=>
  .cal EL.c (y0,()) λc1=>
  .cal am.c (c1.2,10,()) λc2=>
  .ite (c2.1==0) (.cal cX.c (c2.2,()) λc3=>
   .ret (({c1.1 with una:=c3.1}:Sndr),c3.2))<|
  .ite (c2.1==1) (.cal aC.c (c2.2,[(-1),0,48,49,(IntKind.wrap .i64 ((c1.1.data.length:Int)+1))],()) λc4=>
   .ret (({c1.1 with sent:=c4.1}:Sndr),c4.2))<|
  .ite (c2.1==2) (.ret (({c1.1 with finSent:=(!c1.1.finSent)}:Sndr),c2.2))<|
  .ite (c2.1==3) (.ret (({c1.1 with done:=(!c1.1.done)}:Sndr),c2.2))<|
  .ite (c2.1==4) (.cal am.c (c2.2,3,()) λc5=>
   .cal xf.c ((IntKind.wrap .i64 (47+c5.1)),()) λc6=>
   .ret (({c1.1 with data:=c6}:Sndr),c5.2))<|
  .ret (c1.1,c2.2),
 λ(y0,_) hp=>by
  refine Tr.C ?_ λ_ _ _=>Tr.C ?_ λ_ _ _=>Tr.I (λ_=>Tr.C ?_ λ_ _ _=>Tr.R ?_) λ_=>Tr.I (λ_=>Tr.C ?_ λ_ _ _=>Tr.R ?_) λ_=>Tr.I (λ_=>Tr.R ?_) λ_=>Tr.I (λ_=>Tr.R ?_) λ_=>Tr.I (λ_=>Tr.C ?_ λ_ _ _=>Tr.C ?_ λ_ _ _=>Tr.R ?_) λ_=>Tr.R ?_
  all_goals (grind)⟩
noncomputable def RN:=cJ st ⟨376,Tryz.f376,[],1⟩ [Ni,aA,gt,aH,vx] [] [.wr false [.ptr 0]] [.box [.st .curs]] (λx y=>(y.1.1,())) OJ (λv=>[(true,ya v.1)]) (λx y v=>((v.2,()),())) Tryz.func376 (by kernel_rfl) trivial
noncomputable def vV:=[lW,ww,aA,zG,Fn,bT,Fz]
def jv:Sh:=⟨[zp 0 0,zp 2 1,zp 3 2,zi 4,zi 5],[.box [.st .curs [.sl .any]],.box [.st .recv [.nil .piec]],.box [.st .recv [.own 3]],.of false true]⟩
noncomputable def vZ:Fx:=⟨422,Tryz.f422,[(0,la ⟨[0,2,3,4,5],[],false,1⟩ ⟨[2,3],[],false,1⟩)],1⟩
noncomputable def AA (v1:Int)(a:Curs×Recv×Recv):Tr (Stp (Curs×Recv×Recv) (Empty)):=
 .cal wG.c (a.1,a.2.2,()) λc4=>
 .cal qB.c (a.2.2,c4.1,c4.2.1,c4.2.2.1,()) λc5=>
 .cal bG.c (c4.2.2.2,3,()) λc6=>
 .ite c6.1 (.cal am.c (c6.2,20,()) λc7=>
  .cal DF.c (c5,c7.1,()) λc8=>
  .ret (.next (c7.2,({a.2.1 with held:=[]}:Recv),c8.1)))<|
 .ret (.next (c6.2,({a.2.1 with held:=[]}:Recv),c5))
noncomputable def ev:jv.V→LC jv (Curs×Recv×Recv) (Empty) (Int×(Curs×Recv×Recv)):=λ(v0,v1,v2,v3,v4,_)=>⟨v1,(v2,v3,v4),λv1 a=>(v0,v1,a.1,a.2.1,a.2.2,()),λv1 _=>(decide (v1<v0)),AA,up,1,(Int.toNat (v0-v1)),(λp=>Empty.elim p),λi a=>(i,a),λ_ k x=>k (.exit 0) (Sh.enc ⟨[zp 2 1,zp 3 2],[.box [.st .curs [.sl .any]],.box [.st .recv [.nil .piec]],.box [.st .recv [.own 3]],.of false true]⟩ (x.2.1,({x.2.2.1 with held:=[]}:Recv),x.2.2.2,()))⟩
theorem Az:LS Tryz.prog vZ [0] (bR 0 jv ev):=aW st (aj vV) _ ev [] trivial
theorem AM {v0 v1:Int}{v2:Curs}{v3 v4:Recv}(h0:0≤v1)(h1:v0≤4611686018427387904)(h2:af v2∧ax v3∧ax v4∧v4.held.length≤3):(ev (v0,v1,v2,v3,v4,())).U v0 (λv1 a=>af a.1∧ax a.2.1∧ax a.2.2∧a.2.2.held.length≤3) (λ_=>True):=
 LC.okU (i:=v1) (a:=(v2,v3,v4)) (λ_ _=>rfl) (λ_=>rfl) rfl h0 h1 h2 λv1 (v2,v3,v4) hj hk hv=>by
  refine Tr.C ?_ λ_ _ _=>Tr.C ?_ λ_ _ _=>Tr.C ?_ λ_ _ _=>Tr.I (λ_=>Tr.C ?_ λ_ _ _=>Tr.C ?_ λ_ _ _=>Tr.Rn ?_) λ_=>Tr.Rn ?_
  all_goals (grind)
noncomputable def zd:FT (Curs×Unit) (Recv×Curs) (λx=>af x.1) (λx v=>ax v.1∧af v.2∧v.1.held.length≤3):=⟨λ(y0,_)=>
  .cal ke.c (y0,()) λc1=>
  .cal k9.c (c1.1,()) λc2=>
  .cal am.c (c1.2,7,()) λc3=>
  .lp (ev (c3.1,0,c3.2,(⟨0,[],[],0,false⟩:Recv),c2,())).lp λ(_,a9_0,_,a9_2)=>
  .ret (a9_2,a9_0),
 λ(y0,_) hp=>by
  refine Tr.C ?_ λ_ _ _=>Tr.C trivial λ_ _ _=>Tr.C ?_ λ_ _ _=>Tr.L (AM ?_ ?_ ?_) (λ(a9_0,a9_1,a9_2) _=>Tr.R ?_) (λp=>Empty.elim p)
  all_goals ((try simp only[ev,LC.lp,LC.ct,Ct.lp]at*)<;>grind)⟩
noncomputable def Hc:=cJ st vZ vV [(bR 0 jv ev)] [.wr false [.ptr 0]] [.box [.st .curs]] (λx y=>(y.1.1,())) zd (λv=>[(true,vm (.o true) v.1)]) (λx y v=>((v.2,()),())) Tryz.func422 (by kernel_rfl) ⟨Az,trivial⟩
noncomputable def Pc:FT (Curs×Unit) (Recv×Curs) (λx=>af x.1) (λx v=>ax v.1∧af v.2):=⟨λ(y0,_)=>
  .cal zd.c (y0,()) λc1=>
  .cal am.c (c1.2,12,()) λc2=>
  .ite (c2.1==0) (.cal cX.c (c2.2,()) λc3=>
   .ret (({c1.1 with next:=c3.1}:Recv),c3.2))<|
  .ite (c2.1==1) (.cal aC.c (c2.2,[(-2),(-1),0,5,32,33],()) λc4=>
   .ret (({c1.1 with fin:=c4.1}:Recv),c4.2))<|
  .ite (c2.1==2) (.ret (({c1.1 with done:=(!c1.1.done)}:Recv),c2.2))<|
  .ite (c2.1==3) (.cal aC.c (c2.2,[0,1,20,31,32,(-1),9223372036854775807],()) λc5=>
   .cal CQ.c (c5.2,[[],[120],[121,122]],()) λc6=>
   .grd (Nat.ble ((2*(c1.1.held.length+1)+1024)*24) aF)<|
   .ret (({c1.1 with held:=(c1.1.held++[(⟨c5.1,c6.1⟩:Piec)])}:Recv),c6.2))<|
  .ite (c2.1==4) (.cal am.c (c2.2,3,()) λc7=>
   .cal xf.c ((IntKind.wrap .i64 (31+c7.1)),()) λc8=>
   .ret (({c1.1 with data:=c8}:Recv),c7.2))<|
  .ret (c1.1,c2.2),
 λ(y0,_) hp=>by
  refine Tr.C ?_ λ_ _ _=>Tr.C ?_ λ_ _ _=>Tr.I (λ_=>Tr.C ?_ λ_ _ _=>Tr.R ?_) λ_=>Tr.I (λ_=>Tr.C ?_ λ_ _ _=>Tr.R ?_) λ_=>Tr.I (λ_=>Tr.R ?_) λ_=>Tr.I (λ_=>Tr.C ?_ λ_ _ _=>Tr.C ?_ λ_ _ _=>Tr.Gb ?_ λ_=>Tr.R ?_) λ_=>Tr.I (λ_=>Tr.C ?_ λ_ _ _=>Tr.C ?_ λ_ _ _=>Tr.R ?_) λ_=>Tr.R ?_
  all_goals (grind)⟩
noncomputable def Un:=cJ st ⟨377,Tryz.f377,[],1⟩ [Hc,aA,gt,aH,AI,vx] [] [.wr false [.ptr 0]] [.box [.st .curs]] (λx y=>(y.1.1,())) Pc (λv=>[(true,vm (.o true) v.1)]) (λx y v=>((v.2,()),())) Tryz.func377 (by kernel_rfl) trivial
noncomputable def Tc:=[E1,aA,RN,Un,aH,IR,EQ]
def wO:An:=⟨⟨[],[],false,1⟩,⟨[2,3],[],false,1⟩,⟨[],[]⟩,[(.normal,⟨[zp 2 1,zp 3 2],[.box [.st .curs [.sl .any]],.box [.st .conn [.nil .piec]],.box [.st .conn [.own 3]],.of false true]⟩)]⟩
noncomputable def Sg:Fx:=⟨289,Tryz.f289,[(1000008,wO)],1⟩
noncomputable def O9:FT (Curs×Unit) (Conn×Curs) (λx=>af x.1) (λx v=>ai v.1∧af v.2):=⟨λ(y0,_)=>
  .cal En.c (y0,()) λc1=>
  .cal am.c (c1.2,16,()) λc2=>
  .bnd (β:=WT wO.es) (.ite (c2.1==0) (.cal am.c (c2.2,11,()) λc3=>
    .ret (c3.2,(⟨⟨0,0,0⟩,0,⟨0,[],0,false,false,false⟩,⟨0,[],[],0,false⟩,0,0,⟨0,0,false,false,0,0⟩,0,0⟩:Conn),({c1.1 with state:=(IntKind.wrap .i64 (c3.1-1))}:Conn),()))<|
   .ite (c2.1==1) (.cal OJ.c (c2.2,()) λc4=>
    .ret (c4.2,(⟨⟨0,0,0⟩,0,⟨0,[],0,false,false,false⟩,⟨0,[],[],0,false⟩,0,0,⟨0,0,false,false,0,0⟩,0,0⟩:Conn),({c1.1 with s.una:=c4.1.una,s.data:=c4.1.data,s.sent:=c4.1.sent,s.fin:=c4.1.fin,s.finSent:=c4.1.finSent,s.done:=c4.1.done}:Conn),()))<|
   .ite (c2.1==2) (.cal Pc.c (c2.2,()) λc5=>
    .ret (c5.2,(⟨⟨0,0,0⟩,0,⟨0,[],0,false,false,false⟩,⟨0,[],[],0,false⟩,0,0,⟨0,0,false,false,0,0⟩,0,0⟩:Conn),({c1.1 with r.next:=c5.1.next,r.data:=c5.1.data,r.held:=c5.1.held,r.fin:=c5.1.fin,r.done:=c5.1.done}:Conn),()))<|
   .ite (c2.1==3) (.cal aC.c (c2.2,[(-1),0,c1.1.most,(IntKind.wrap .i64 (c1.1.most+1))],()) λc6=>
    .ret (c6.2,(⟨⟨0,0,0⟩,0,⟨0,[],0,false,false,false⟩,⟨0,[],[],0,false⟩,0,0,⟨0,0,false,false,0,0⟩,0,0⟩:Conn),({c1.1 with window:=c6.1}:Conn),()))<|
   .ite (c2.1==4) (.cal aC.c (c2.2,[(-1),0,3,4,5],()) λc7=>
    .ret (c7.2,(⟨⟨0,0,0⟩,0,⟨0,[],0,false,false,false⟩,⟨0,[],[],0,false⟩,0,0,⟨0,0,false,false,0,0⟩,0,0⟩:Conn),({c1.1 with timer:=c7.1}:Conn),()))<|
   .ite (c2.1==5) (.cal aC.c (c2.2,[(-1),0,3,4],()) λc8=>
    .ret (c8.2,(⟨⟨0,0,0⟩,0,⟨0,[],0,false,false,false⟩,⟨0,[],[],0,false⟩,0,0,⟨0,0,false,false,0,0⟩,0,0⟩:Conn),({c1.1 with tries:=c8.1}:Conn),()))<|
   .ite (c2.1==6) (.cal LA.c (c2.2,()) λc9=>
    .ret (c9.2,(⟨⟨0,0,0⟩,0,⟨0,[],0,false,false,false⟩,⟨0,[],[],0,false⟩,0,0,⟨0,0,false,false,0,0⟩,0,0⟩:Conn),({c1.1 with opts.mss:=c9.1.mss,opts.scale:=c9.1.scale,opts.sack:=c9.1.sack,opts.stamp:=c9.1.stamp,opts.val:=c9.1.val,opts.echo:=c9.1.echo}:Conn),()))<|
   .ite (c2.1==7) (.cal DN.c (c2.2,()) λc10=>
    .ret (c10.2,(⟨⟨0,0,0⟩,0,⟨0,[],0,false,false,false⟩,⟨0,[],[],0,false⟩,0,0,⟨0,0,false,false,0,0⟩,0,0⟩:Conn),({c1.1 with tuple.ip:=c10.1.ip,tuple.port:=c10.1.port,tuple.my:=c10.1.my}:Conn),()))<|
   .ret (c2.2,(⟨⟨0,0,0⟩,0,⟨0,[],0,false,false,false⟩,⟨0,[],[],0,false⟩,0,0,⟨0,0,false,false,0,0⟩,0,0⟩:Conn),c1.1,())) λ(u11a0,_,u11a2,_)=>
  .ret (u11a2,u11a0),
 λ(y0,_) hp=>by
  refine Tr.C ?_ λ_ _ _=>Tr.C ?_ λ_ _ _=>Tr.B (Q':=λw=>af w.1∧ai w.2.1∧ai w.2.2.1) (Tr.I (λ_=>Tr.C ?_ λ_ _ _=>Tr.R ?_) λ_=>Tr.I (λ_=>Tr.C ?_ λ_ _ _=>Tr.R ?_) λ_=>Tr.I (λ_=>Tr.C ?_ λ_ _ _=>Tr.R ?_) λ_=>Tr.I (λ_=>Tr.C ?_ λ_ _ _=>Tr.R ?_) λ_=>Tr.I (λ_=>Tr.C ?_ λ_ _ _=>Tr.R ?_) λ_=>Tr.I (λ_=>Tr.C ?_ λ_ _ _=>Tr.R ?_) λ_=>Tr.I (λ_=>Tr.C ?_ λ_ _ _=>Tr.R ?_) λ_=>Tr.I (λ_=>Tr.C ?_ λ_ _ _=>Tr.R ?_) λ_=>Tr.R ?_) (λ(u11a0,u11a1,u11a2,_) _ _=>Tr.R ?_)
  all_goals ((try simp only[Tr.nice,bo]at*)<;>grind)⟩
noncomputable def RB:=cJ st Sg Tc [] [.wr false [.ptr 0]] [.box [.st .curs]] (λx y=>(y.1.1,())) O9 (λv=>[(true,jP (.o true) v.1)]) (λx y v=>((v.2,()),())) Tryz.func289 (by kernel_rfl) trivial
noncomputable def Te:=[zK,QN,aA,RB,pU,aH]
def vF:An:=⟨⟨[],[],false,1⟩,⟨[2,3,4,5],[],false,1⟩,⟨[],[]⟩,[(.normal,⟨[zp 2 1,zp 3 2,zp 4 3,zp 5 4],[.box [.st .curs [.sl .any]],.box [.st .tabl [.nil .conn,.nil .tupl]],.box [.st .limi []],.box [.st .limi []],.box [.st .tabl [.own 5,.own 6]],.of false true,.of false true]⟩)]⟩
noncomputable def SX:Fx:=⟨169,Tryz.f169,[(1000013,vF)],1⟩
noncomputable def OD:FT (Curs×Unit) (Tabl×Limi×Curs) (λx=>af x.1) (λx v=>bu v.1∧af v.2.2):=⟨λ(y0,_)=>
  .cal xk.c (y0,()) λc1=>
  .cal Jm.c (c1.2,c1.1,()) λc2=>
  .cal am.c (c2.2,10,()) λc3=>
  .bnd (β:=WT vF.es) (.ite (c3.1==0) (.cal O9.c (c3.2,()) λc4=>
    .grd (Nat.ble ((2*(c2.1.conns.length+1)+1024)*208) aF)<|
    .ret (c4.2,(⟨[],[]⟩:Tabl),(⟨0,0,0,0⟩:Limi),c1.1,(⟨(c2.1.conns++[c4.1]),c2.1.waiting⟩:Tabl),()))<|
   .ite (c3.1==1) (.cal qN.c (c3.2,()) λc5=>
    .grd (Nat.ble ((2*(c2.1.waiting.length+1)+1024)*24) aF)<|
    .ret (c5.2,(⟨[],[]⟩:Tabl),(⟨0,0,0,0⟩:Limi),c1.1,(⟨c2.1.conns,(c2.1.waiting++[c5.1])⟩:Tabl),()))<|
   .ite (c3.1==2) (.cal aC.c (c3.2,[0,16,17,1],()) λc6=>
    .ret (c6.2,(⟨[],[]⟩:Tabl),(⟨0,0,0,0⟩:Limi),({c1.1 with conns:=c6.1}:Limi),c2.1,()))<|
   .ite (c3.1==3) (.cal aC.c (c3.2,[(-1),1000,1001],()) λc7=>
    .ret (c7.2,(⟨[],[]⟩:Tabl),(⟨0,0,0,0⟩:Limi),({c1.1 with chal:=c7.1}:Limi),c2.1,()))<|
   .ite (c3.1==4) (.ite (decide (0<(c2.1.conns.length:Int))) (.grd (decide (0<(c2.1.conns.length:Int)))<|
     .grd (Nat.ble ((2*(c2.1.conns.length+1)+1024)*208) aF)<|
     .ret (c3.2,(⟨[],[]⟩:Tabl),(⟨0,0,0,0⟩:Limi),c1.1,(⟨(c2.1.conns++[(c2.1.conns.getD 0 (Ty.zero .conn))]),c2.1.waiting⟩:Tabl),()))<|
    .ret (c3.2,(⟨[],[]⟩:Tabl),(⟨0,0,0,0⟩:Limi),c1.1,c2.1,()))<|
   .ret (c3.2,(⟨[],[]⟩:Tabl),(⟨0,0,0,0⟩:Limi),c1.1,c2.1,())) λ(u8a0,_,_,u8a3,u8a4,_)=>
  .ret (u8a4,u8a3,u8a0),
 λ(y0,_) hp=>by
  refine Tr.C ?_ λ_ _ _=>Tr.C ?_ λ_ _ _=>Tr.C ?_ λ_ _ _=>Tr.B (Q':=λw=>af w.1∧bu w.2.1∧bu w.2.2.2.2.1) (Tr.I (λ_=>Tr.C ?_ λ_ _ _=>Tr.Gb ?_ λ_=>Tr.R ?_) λ_=>Tr.I (λ_=>Tr.C ?_ λ_ _ _=>Tr.Gb ?_ λ_=>Tr.R ?_) λ_=>Tr.I (λ_=>Tr.C ?_ λ_ _ _=>Tr.R ?_) λ_=>Tr.I (λ_=>Tr.C ?_ λ_ _ _=>Tr.R ?_) λ_=>Tr.I (λ_=>Tr.I (λ_=>Tr.G1 ?_ λ_=>Tr.Gb ?_ λ_=>Tr.R ?_) λ_=>Tr.R ?_) λ_=>Tr.R ?_) (λ(u8a0,u8a1,u8a2,u8a3,u8a4,_) _ _=>Tr.R ?_)
  all_goals ((try simp only[Tr.nice,bo]at*)<;>grind)⟩
noncomputable def Uz:=cJ st SX Te [] [.wr false [.ptr 0]] [.box [.st .curs]] (λx y=>(y.1.1,())) OD (λv=>[(true,uy (.o true) (.o true) v.1),(true,Zz v.2.1)]) (λx y v=>((v.2.2,()),())) Tryz.func169 (by kernel_rfl) trivial
noncomputable def Oy:FT (Curs×Unit) (Door×Curs) (λx=>af x.1) (λx v=>aD v.1∧af v.2):=⟨λ(y0,_)=>
  .cal Eh.c (y0,()) λc1=>
  .cal am.c (c1.2,16,()) λc2=>
  .ite (c2.1==0) (.cal cX.c (c2.2,()) λc3=>
   .ret (({c1.1 with port:=c3.1}:Door),c3.2))<|
  .ite (c2.1==1) (.cal O5.c (c2.2,()) λc4=>
   .ret ((⟨c1.1.port,c1.1.clock,c4.1,c1.1.limits,c1.1.halves,c1.1.table,c1.1.chal⟩:Door),c4.2))<|
  .ite (c2.1==2) (.cal Oi.c (c2.2,()) λc5=>
   .ret (({c1.1 with halves:=c5.1}:Door),c5.2))<|
  .ite (c2.1==3) (.cal OD.c (c2.2,()) λc6=>
   .ret (({c1.1 with table.conns:=c6.1.conns,table.waiting:=c6.1.waiting}:Door),c6.2.2))<|
  .ite (c2.1==4) (.cal aC.c (c2.2,[(-1),0,c1.1.limits.chal,(IntKind.wrap .i64 (c1.1.limits.chal+1))],()) λc7=>
   .ret (({c1.1 with chal:=c7.1}:Door),c7.2))<|
  .ite (c2.1==5) (.cal aC.c (c2.2,[(-1),4294967295,4294967296],()) λc8=>
   .ret (({c1.1 with clock:=c8.1}:Door),c8.2))<|
  .ret (c1.1,c2.2),
 λ(y0,_) hp=>by
  refine Tr.C ?_ λ_ _ _=>Tr.C ?_ λ_ _ _=>Tr.I (λ_=>Tr.C ?_ λ_ _ _=>Tr.R ?_) λ_=>Tr.I (λ_=>Tr.C ?_ λ_ _ _=>Tr.R ?_) λ_=>Tr.I (λ_=>Tr.C ?_ λ_ _ _=>Tr.R ?_) λ_=>Tr.I (λ_=>Tr.C ?_ λ_ _ _=>Tr.R ?_) λ_=>Tr.I (λ_=>Tr.C ?_ λ_ _ _=>Tr.R ?_) λ_=>Tr.I (λ_=>Tr.C ?_ λ_ _ _=>Tr.R ?_) λ_=>Tr.R ?_
  all_goals (grind)⟩
noncomputable def TA:=cJ st ⟨69,Tryz.f69,[],1⟩ [E4,aA,gt,Ts,Tz,Uz,aH] [] [.wr false [.ptr 0]] [.box [.st .curs]] (λx y=>(y.1.1,())) Oy (λv=>[(true,oz (.o true) (.o true) (.o true) (.o true) (.o true) v.1)]) (λx y v=>((v.2,()),())) Tryz.func69 (by kernel_rfl) trivial
noncomputable def OA:FT (Curs×Unit) (Stac×Curs) (λx=>af x.1) (λx v=>cU v.1∧af v.2):=⟨λ(y0,_)=>
  .cal Kv.c (y0,()) λc1=>
  .cal am.c (c1.2,12,()) λc2=>
  .ite (c2.1==0) (.cal OV.c (c2.2,()) λc3=>
   .ret (({c1.1 with link.mac:=c3.1.mac,link.ip:=c3.1.ip,link.cache:=c3.1.cache}:Stac),c3.2))<|
  .ite (c2.1==1) (.cal Oy.c (c2.2,()) λc4=>
   .ret ((⟨c1.1.link,c4.1⟩:Stac),c4.2))<|
  .ret (c1.1,c2.2),
 λ(y0,_) hp=>by
  refine Tr.C ?_ λ_ _ _=>Tr.C ?_ λ_ _ _=>Tr.I (λ_=>Tr.C ?_ λ_ _ _=>Tr.R ?_) λ_=>Tr.I (λ_=>Tr.C ?_ λ_ _ _=>Tr.R ?_) λ_=>Tr.R ?_
  all_goals (grind)⟩
noncomputable def Ti:=cJ st ⟨49,Tryz.f49,[],1⟩ [Pp,aA,TN,TA] [] [.wr false [.ptr 0]] [.box [.st .curs]] (λx y=>(y.1.1,())) OA (λv=>[(true,Aj (.o true) (.o true) (.o true) (.o true) (.o true) (.o true) v.1)]) (λx y v=>((v.2,()),())) Tryz.func49 (by kernel_rfl) trivial
noncomputable def B6:FT (Curs×Unit) (Int×Curs) (λx=>af x.1) (λx v=>af v.2):=⟨λ(y0,_)=>
  .cal aC.c (y0,[11,12,13,281474976710655,0,2199023255552],()) λc1=>
  .ret (c1.1,c1.2),
 λ(y0,_) hp=>by
  refine Tr.C ?_ λ_ _ _=>Tr.R ?_
  all_goals (grind)⟩
noncomputable def O4:=cJ st ⟨405,Tryz.f405,[],1⟩ [aH] [] [.wr false [.ptr 0]] [.box [.st .curs]] (λx y=>(y.1.1,())) B6 (λv=>[(false,[.c (.int .i64 v.1)])]) (λx y v=>((v.2,()),())) Tryz.func405 (by kernel_rfl) trivial
noncomputable def Xv:FT (Curs×Unit) (Arpm×Curs) (λx=>af x.1) (λx v=>af v.2):=⟨λ(y0,_)=>
  .cal am.c (y0,2,()) λc1=>
  .cal B6.c (c1.2,()) λc2=>
  .cal Er.c (c2.2,()) λc3=>
  .cal B6.c (c3.2,()) λc4=>
  .cal Er.c (c4.2,()) λc5=>
  .cal am.c (c5.2,14,()) λc6=>
  .ite (c6.1==0) (.cal am.c (c6.2,5,()) λc7=>
   .ret ((⟨(IntKind.wrap .i64 (c7.1-1)),c2.1,c3.1,c4.1,c5.1⟩:Arpm),c7.2))<|
  .ite (c6.1==1) (.cal cX.c (c6.2,()) λc8=>
   .ret ((⟨(IntKind.wrap .i64 (1+c1.1)),c8.1,c3.1,c4.1,c5.1⟩:Arpm),c8.2))<|
  .ite (c6.1==2) (.cal cX.c (c6.2,()) λc9=>
   .ret ((⟨(IntKind.wrap .i64 (1+c1.1)),c2.1,c9.1,c4.1,c5.1⟩:Arpm),c9.2))<|
  .ite (c6.1==3) (.cal cX.c (c6.2,()) λc10=>
   .ret ((⟨(IntKind.wrap .i64 (1+c1.1)),c2.1,c3.1,c4.1,c10.1⟩:Arpm),c10.2))<|
  .ret ((⟨(IntKind.wrap .i64 (1+c1.1)),c2.1,c3.1,c4.1,c5.1⟩:Arpm),c6.2),
 λ(y0,_) hp=>by
  refine Tr.C ?_ λ_ _ _=>Tr.C ?_ λ_ _ _=>Tr.C ?_ λ_ _ _=>Tr.C ?_ λ_ _ _=>Tr.C ?_ λ_ _ _=>Tr.C ?_ λ_ _ _=>Tr.I (λ_=>Tr.C ?_ λ_ _ _=>Tr.R ?_) λ_=>Tr.I (λ_=>Tr.C ?_ λ_ _ _=>Tr.R ?_) λ_=>Tr.I (λ_=>Tr.C ?_ λ_ _ _=>Tr.R ?_) λ_=>Tr.I (λ_=>Tr.C ?_ λ_ _ _=>Tr.R ?_) λ_=>Tr.R ?_
  all_goals (grind)⟩
noncomputable def YN:=cJ st ⟨325,Tryz.f325,[],1⟩ [aA,O4,Kz,gt] [] [.wr false [.ptr 0]] [.box [.st .curs]] (λx y=>(y.1.1,())) Xv (λv=>[(true,Jv v.1)]) (λx y v=>((v.2,()),())) Tryz.func325 (by kernel_rfl) trivial
noncomputable def Oj:FT (Curs×Unit) (Fram×Curs) (λx=>af x.1) (λx v=>ll v.1∧af v.2):=⟨λ(y0,_)=>
  .cal B6.c (y0,()) λc1=>
  .cal B6.c (c1.2,()) λc2=>
  .cal aC.c (c2.2,[2048,2054,1536,65535],()) λc3=>
  .cal am.c (c3.2,6,()) λc4=>
  .cal mg.c (c4.2,c4.1,()) λc5=>
  .cal am.c (c5.2,12,()) λc6=>
  .ite (c6.1==0) (.cal cX.c (c6.2,()) λc7=>
   .ret ((⟨c7.1,c2.1,c3.1,(av c5.1)⟩:Fram),c7.2))<|
  .ite (c6.1==1) (.cal cX.c (c6.2,()) λc8=>
   .ret ((⟨c1.1,c8.1,c3.1,(av c5.1)⟩:Fram),c8.2))<|
  .ite (c6.1==2) (.cal aC.c (c6.2,[0,1535,65536,(-1)],()) λc9=>
   .ret ((⟨c1.1,c2.1,c9.1,(av c5.1)⟩:Fram),c9.2))<|
  .ite (c6.1==3) (.cal am.c (c6.2,4,()) λc10=>
   .cal xf.c ((IntKind.wrap .i64 (1584+c10.1)),()) λc11=>
   .ret ((⟨c1.1,c2.1,c3.1,c11⟩:Fram),c10.2))<|
  .ret ((⟨c1.1,c2.1,c3.1,(av c5.1)⟩:Fram),c6.2),
 λ(y0,_) hp=>by
  refine Tr.C ?_ λ_ _ _=>Tr.C ?_ λ_ _ _=>Tr.C ?_ λ_ _ _=>Tr.C ?_ λ_ _ _=>Tr.C ?_ λ_ _ _=>Tr.C ?_ λ_ _ _=>Tr.I (λ_=>Tr.C ?_ λ_ _ _=>Tr.R ?_) λ_=>Tr.I (λ_=>Tr.C ?_ λ_ _ _=>Tr.R ?_) λ_=>Tr.I (λ_=>Tr.C ?_ λ_ _ _=>Tr.R ?_) λ_=>Tr.I (λ_=>Tr.C ?_ λ_ _ _=>Tr.C ?_ λ_ _ _=>Tr.R ?_) λ_=>Tr.R ?_
  all_goals (grind)⟩
noncomputable def R8:=cJ st ⟨326,Tryz.f326,[],1⟩ [O4,aH,aA,j7,gt,vx] [] [.wr false [.ptr 0]] [.box [.st .curs]] (λx y=>(y.1.1,())) Oj (λv=>[(true,VM v.1)]) (λx y v=>((v.2,()),())) Tryz.func326 (by kernel_rfl) trivial
noncomputable def Id:FT (Curs×Unit) (Pack×Curs) (λx=>af x.1) (λx v=>kN v.1∧af v.2):=⟨λ(y0,_)=>
  .cal Er.c (y0,()) λc1=>
  .cal Er.c (c1.2,()) λc2=>
  .cal am.c (c2.2,64,()) λc3=>
  .cal aC.c (c3.2,[6,6,17,0],()) λc4=>
  .cal am.c (c4.2,65536,()) λc5=>
  .cal am.c (c5.2,8,()) λc6=>
  .cal mg.c (c6.2,c6.1,()) λc7=>
  .cal am.c (c7.2,14,()) λc8=>
  .ite (c8.1==0) (.cal cX.c (c8.2,()) λc9=>
   .ret ((⟨c9.1,c2.1,(IntKind.wrap .i64 (1+c3.1)),c4.1,c5.1,(av c7.1)⟩:Pack),c9.2))<|
  .ite (c8.1==1) (.cal aC.c (c8.2,[0,255,256],()) λc10=>
   .ret ((⟨c1.1,c2.1,c10.1,c4.1,c5.1,(av c7.1)⟩:Pack),c10.2))<|
  .ite (c8.1==2) (.cal am.c (c8.2,3,()) λc11=>
   .cal xf.c ((IntKind.wrap .i64 (1479+c11.1)),()) λc12=>
   .ret ((⟨c1.1,c2.1,(IntKind.wrap .i64 (1+c3.1)),c4.1,c5.1,c12⟩:Pack),c11.2))<|
  .ite (c8.1==3) (.cal cX.c (c8.2,()) λc13=>
   .ret ((⟨c1.1,c2.1,(IntKind.wrap .i64 (1+c3.1)),c4.1,c13.1,(av c7.1)⟩:Pack),c13.2))<|
  .ret ((⟨c1.1,c2.1,(IntKind.wrap .i64 (1+c3.1)),c4.1,c5.1,(av c7.1)⟩:Pack),c8.2),
 λ(y0,_) hp=>by
  refine Tr.C ?_ λ_ _ _=>Tr.C ?_ λ_ _ _=>Tr.C ?_ λ_ _ _=>Tr.C ?_ λ_ _ _=>Tr.C ?_ λ_ _ _=>Tr.C ?_ λ_ _ _=>Tr.C ?_ λ_ _ _=>Tr.C ?_ λ_ _ _=>Tr.I (λ_=>Tr.C ?_ λ_ _ _=>Tr.R ?_) λ_=>Tr.I (λ_=>Tr.C ?_ λ_ _ _=>Tr.R ?_) λ_=>Tr.I (λ_=>Tr.C ?_ λ_ _ _=>Tr.C ?_ λ_ _ _=>Tr.R ?_) λ_=>Tr.I (λ_=>Tr.C ?_ λ_ _ _=>Tr.R ?_) λ_=>Tr.R ?_
  all_goals (grind)⟩
noncomputable def QO:=cJ st ⟨327,Tryz.f327,[],1⟩ [Kz,aA,aH,j7,gt,vx] [] [.wr false [.ptr 0]] [.box [.st .curs]] (λx y=>(y.1.1,())) Id (λv=>[(true,D1 v.1)]) (λx y v=>((v.2,()),())) Tryz.func327 (by kernel_rfl) trivial
noncomputable def u3:FT (Curs×ac×List ac×Unit) (ac×Curs) (λx=>af x.1∧sS x.2.1∧sL sS x.2.2.1∧x.2.1.length≤65536∧0<x.2.2.1.length∧eb (λb:ac=>b.length≤64) x.2.2.1) (λx v=>sS v.1∧af v.2∧v.1.length≤131072):=⟨λ(y0,x1,x2,_)=>
  .cal am.c (y0,(IntKind.wrap .i64 ((x1.length:Int)+1)),()) λc1=>
  .cal am.c (c1.2,6,()) λc2=>
  .ite (c2.1==0) (.grd ((decide (0≤c1.1))&&(decide (c1.1≤(x1.length:Int))))<|
   .cal CQ.c (c2.2,x2,()) λc3=>
   .grd (Nat.ble (((x1.take c1.1.toNat).drop 0).length+c3.1.length) an)<|
   .grd (((decide (0≤c1.1))&&(decide (c1.1≤(x1.length:Int))))&&(decide ((x1.length:Int)≤(x1.length:Int))))<|
   .grd (Nat.ble ((((x1.take c1.1.toNat).drop 0)++c3.1).length+((x1.take ((x1.length:Int).toNat)).drop c1.1.toNat).length) an)<|
   .val ((((x1.take c1.1.toNat).drop 0)++c3.1)++((x1.take ((x1.length:Int).toNat)).drop c1.1.toNat)) λe4=>
   .ret (e4,c3.2))<|
  .ite (c2.1==1) (.grd ((decide (0≤c1.1))&&(decide (c1.1≤(x1.length:Int))))<|
   .ret (((x1.take c1.1.toNat).drop 0),c2.2))<|
  .ret (x1,c2.2),
 λ(y0,x1,x2,_) hp=>by
  refine Tr.C ?_ λ_ _ _=>Tr.C ?_ λ_ _ _=>Tr.I (λ_=>Tr.G2 ?_ λ_=>Tr.C ?_ λ_ _ _=>Tr.Gb ?_ λ_=>Tr.G3 ?_ λ_=>Tr.Gb ?_ λ_=>Tr.V λ_ _=>Tr.R ?_) λ_=>Tr.I (λ_=>Tr.G2 ?_ λ_=>Tr.R ?_) λ_=>Tr.R ?_
  all_goals (grind)⟩
noncomputable def Bz:=cJ st ⟨215,Tryz.f215,[],1⟩ [aA,AI] [] [.wr false [.ptr 0],.sc .str,.sc (.sl .str)] [.box [.st .curs]] (λx y=>(y.1.1,x.2.1,x.2.2.1,())) u3 (λv=>[(false,[.c (.str v.1)])]) (λx y v=>((v.2,()),())) Tryz.func215 (by kernel_rfl) trivial
noncomputable def Kt:FT (Curs×ac×Unit) (ac×Curs) (λx=>af x.1∧sS x.2.1∧x.2.1.length≤65536) (λx v=>sS v.1∧af v.2∧v.1.length≤131072):=⟨λ(y0,x1,_)=>
  .ite (decide ((x1.length:Int)<20)) (.cal u3.c (y0,x1,[[0],[69],[120]],()) λc1=>
   .ret (c1.1,c1.2))<|
  .cal bG.c (y0,3,()) λc2=>
  .ite c2.1 (.cal u3.c (c2.2,x1,[[0],[69],[120]],()) λc3=>
   .ret (c3.1,c3.2))<|
  .grd (Nat.ble x1.length aF)<|
  .cal aC.c (c2.2,[0,1,2,3,6,7,8,10,19],()) λc4=>
  .cal aC.c (c4.2,[0,64,32,69,70,1,255],()) λc5=>
  .grd ((decide (0≤c4.1))&&(decide (c4.1<((eA x1).length:Int))))<|
  .cal bG.c (c5.2,4,()) λc6=>
  .ite c6.1 (.ret ((av ((eA x1).set c4.1.toNat (IntKind.wrap .u8 c5.1))),c6.2))<|
  .grd (decide (10<(((eA x1).set c4.1.toNat (IntKind.wrap .u8 c5.1)).length:Int)))<|
  .grd (decide (11<((((eA x1).set c4.1.toNat (IntKind.wrap .u8 c5.1)).set 10 0).length:Int)))<|
  .grd (decide (20≤(((((eA x1).set c4.1.toNat (IntKind.wrap .u8 c5.1)).set 10 0).set 11 0).length:Int)))<|
  .val (av ((((((eA x1).set c4.1.toNat (IntKind.wrap .u8 c5.1)).set 10 0).set 11 0).take 20).drop 0)) λe7=>
  .cal sC.c (e7,()) λc8=>
  .grd (decide (10<(((((eA x1).set c4.1.toNat (IntKind.wrap .u8 c5.1)).set 10 0).set 11 0).length:Int)))<|
  .val (((((eA x1).set c4.1.toNat (IntKind.wrap .u8 c5.1)).set 10 0).set 11 0).set 10 (IntKind.wrap .u8 (IntKind.wrap .i64 (c8.tdiv 256)))) λl9=>
  .grd (decide (11<(l9.length:Int)))<|
  .ret ((av (l9.set 11 (IntKind.wrap .u8 (c8.tmod 256)))),c6.2),
 λ(y0,x1,_) hp=>by
  refine Tr.I (λb0=>Tr.C ?_ λc1 hc1 qc1=>Tr.R ?_) λb0=>Tr.C ?_ λc2 hc2 qc2=>Tr.I (λb1=>Tr.C ?_ λc3 hc3 qc3=>Tr.R ?_) λb1=>Tr.Gb ?_ λg2=>Tr.C ?_ λc4 hc4 qc4=>Tr.C ?_ λc5 hc5 qc5=>Tr.G2 ?_ λg3=>Tr.C ?_ λc6 hc6 qc6=>Tr.I (λb4=>Tr.R ?_) λb4=>Tr.G1 ?_ λg5=>Tr.G1 ?_ λg6=>Tr.G1 ?_ λg7=>Tr.V λe7 he7=>Tr.C ?_ λc8 hc8 qc8=>Tr.G1 ?_ λg8=>Tr.V λl9 hl9=>Tr.G1 ?_ λg9=>Tr.R ?_
  all_goals ((first|grind|(simp only[sS,List.length_cons,List.length_nil];grind)|(have h1:=qc4.2.2 (by simp[eb]);first|grind|(simp only[sS,List.length_cons,List.length_nil];grind))))⟩
noncomputable def QD:=cJ st ⟨337,Tryz.f337,[],1⟩ [bT,Bz,aH,yL] [] [.wr false [.ptr 0],.sc .str] [.box [.st .curs]] (λx y=>(y.1.1,x.2.1,())) Kt (λv=>[(false,[.c (.str v.1)])]) (λx y v=>((v.2,()),())) Tryz.func337 (by kernel_rfl) trivial
noncomputable def xR:FT (Curs×ac×Unit) (ac×Curs) (λx=>af x.1∧sS x.2.1∧x.2.1.length≤65536) (λx v=>sS v.1∧af v.2∧v.1.length≤131072):=⟨λ(y0,x1,_)=>
  .cal bG.c (y0,5,()) λc1=>
  .ite c1.1 (.cal Kt.c (c1.2,x1,()) λc2=>
   .ret (c2.1,c2.2))<|
  .ret (x1,c1.2),
 λ(y0,x1,_) hp=>by
  refine Tr.C ?_ λ_ _ _=>Tr.I (λ_=>Tr.C ?_ λ_ _ _=>Tr.R ?_) λ_=>Tr.R ?_
  all_goals (grind)⟩
noncomputable def zD:=cJ st ⟨217,Tryz.f217,[],1⟩ [bT,QD] [] [.wr false [.ptr 0],.sc .str] [.box [.st .curs]] (λx y=>(y.1.1,x.2.1,())) xR (λv=>[(false,[.c (.str v.1)])]) (λx y v=>((v.2,()),())) Tryz.func217 (by kernel_rfl) trivial
noncomputable def WW:=[aH,aA,YN,bT,xT,lh,R8,j7,QO,ri,zD]
def LZ:An:=⟨⟨[],[],false,1⟩,⟨[0,2,3,4,5],[],false,1⟩,⟨[],[]⟩,[(.normal,⟨[zp 0 0,zs 2,zi 3,zi 4,zp 5 1],[.box [.st .curs [.sl .any]],.box [.st .arpm []]]⟩)]⟩
def IT:An:=⟨⟨[],[],false,1⟩,⟨[0,2,3,4,6],[],false,1⟩,⟨[],[]⟩,[(.normal,⟨[zp 0 0,zs 2,zi 3,zi 4,zp 6 1],[.box [.st .curs [.sl .any]],.box [.st .pack []]]⟩)]⟩
noncomputable def Wu:Fx:=⟨209,Tryz.f209,[(1000020,LZ),(1000044,IT)],1⟩
noncomputable def Us:FT (Curs×Unit) (ac×Curs) (λx=>af x.1) (λx v=>sS v.1∧af v.2):=⟨λ(y0,_)=>
  .cal aC.c (y0,[11,11,11,281474976710655,12],()) λc1=>
  .cal aC.c (c1.2,[12,13],()) λc2=>
  .cal am.c (c2.2,4,()) λc3=>
  .ite (c3.1==0) (.cal Xv.c (c3.2,()) λc4=>
   .cal bG.c (c4.2,2,()) λc5=>
   .bnd (β:=ac×Int×Int×Curs×Arpm×Unit) (.ite c5.1 (.ret ([],c1.1,c2.1,c5.2,(⟨1,c2.1,167772162,0,167772161⟩:Arpm),()))<|
    .ret ([],c1.1,c2.1,c5.2,c4.1,())) λ(_,u6a1,u6a2,u6a3,u6a4,_)=>
   .cal qC.c (u6a4,()) λc7=>
   .cal fR.c ((⟨u6a1,u6a2,2054,c7⟩:Fram),()) λc8=>
   .ret (c8,u6a3))<|
  .ite (c3.1==1) (.cal Oj.c (c3.2,()) λc9=>
   .cal fR.c (c9.1,()) λc10=>
   .ret (c10,c9.2))<|
  .cal am.c (c3.2,2,()) λc11=>
  .cal am.c (c11.2,4,()) λc12=>
  .cal mg.c (c12.2,c12.1,()) λc13=>
  .cal bG.c (c13.2,4,()) λc14=>
  .bnd (β:=ac×Int×Int×Curs×Pack×Unit) (.ite c14.1 (.cal Id.c (c14.2,()) λc15=>
    .ret ([],c1.1,c2.1,c15.2,c15.1,()))<|
   .ret ([],c1.1,c2.1,c14.2,(⟨(IntKind.wrap .i64 (167772162+c11.1)),167772161,9,6,0,(av c13.1)⟩:Pack),())) λ(_,u16a1,u16a2,u16a3,u16a4,_)=>
  .cal kG.c (u16a4,()) λc17=>
  .cal xR.c (u16a3,c17,()) λc18=>
  .cal fR.c ((⟨u16a1,u16a2,2048,c18.1⟩:Fram),()) λc19=>
  .ret (c19,c18.2),
 λ(y0,_) hp=>by
  refine Tr.C ?_ λ_ _ _=>Tr.C ?_ λ_ _ _=>Tr.C ?_ λ_ _ _=>Tr.I (λ_=>Tr.C ?_ λ_ _ _=>Tr.C ?_ λ_ _ _=>Tr.B (Q':=λw=>sS w.1∧af w.2.2.2.1) (Tr.I (λ_=>Tr.R ?_) λ_=>Tr.R ?_) (λ(u6a0,u6a1,u6a2,u6a3,u6a4,_) _ _=>Tr.C trivial λ_ _ _=>Tr.C ?_ λ_ _ _=>Tr.R ?_)) λ_=>Tr.I (λ_=>Tr.C ?_ λ_ _ _=>Tr.C ?_ λ_ _ _=>Tr.R ?_) λ_=>Tr.C ?_ λ_ _ _=>Tr.C ?_ λ_ _ _=>Tr.C ?_ λ_ _ _=>Tr.C ?_ λ_ _ _=>Tr.B (Q':=λw=>sS w.1∧af w.2.2.2.1∧kN w.2.2.2.2.1) (Tr.I (λ_=>Tr.C ?_ λ_ _ _=>Tr.R ?_) λ_=>Tr.R ?_) (λ(u16a0,u16a1,u16a2,u16a3,u16a4,_) _ _=>Tr.C ?_ λ_ _ _=>Tr.C ?_ λ_ _ _=>Tr.C ?_ λ_ _ _=>Tr.R ?_)
  all_goals ((try simp only[Tr.nice,bo]at*)<;>grind)⟩
noncomputable def WI:=cJ st Wu WW [] [.wr false [.ptr 0]] [.box [.st .curs]] (λx y=>(y.1.1,())) Us (λv=>[(false,[.c (.str v.1)])]) (λx y v=>((v.2,()),())) Tryz.func209 (by kernel_rfl) trivial
noncomputable def VU:=[bT,WI,aA,K7,IU,Kf,x9,xL,wh,Bz,ri,zD,lh]
def I5:An:=⟨⟨[],[],false,1⟩,⟨[0,4,6,7],[],false,1⟩,⟨[],[]⟩,[(.normal,⟨[zp 0 0,zs 4,zi 6,zp 7 1],[.box [.st .curs [.sl .any]],.box [.st .segm []]]⟩)]⟩
def GH:An:=⟨⟨[],[],false,1⟩,⟨[0,4,6,11],[],false,1⟩,⟨[],[]⟩,[(.normal,⟨[zp 0 0,zs 4,zi 6,zs 11],[.box [.st .curs [.sl .any]]]⟩)]⟩
noncomputable def U8:Fx:=⟨107,Tryz.f107,[(1000026,I5),(1000111,GH)],1⟩
noncomputable def T6:FT (Curs×Stac×Unit) (ac×Curs) (λx=>af x.1∧cU x.2.1) (λx v=>sS v.1∧af v.2):=⟨λ(y0,x1,_)=>
  .cal bG.c (y0,5,()) λc1=>
  .ite c1.1 (.cal Us.c (c1.2,()) λc2=>
   .ret (c2.1,c2.2))<|
  .cal am.c (c1.2,2,()) λc3=>
  .cal Lv.c (c3.2,()) λc4=>
  .cal am.c (c4.2,4,()) λc5=>
  .bnd (β:=ac×Int×Curs×Segm×Unit) (.ite (c5.1==0) (.ite (decide (0<(x1.door.halves.length:Int))) (.cal am.c (c5.2,(x1.door.halves.length:Int),()) λc6=>
     .grd ((decide (0≤c6.1))&&(decide (c6.1<(x1.door.halves.length:Int))))<|
     .cal qY.c (x1.door,(x1.door.halves.getD c6.1.toNat (Ty.zero .half)).tuple,({c4.1 with from_:=(x1.door.halves.getD c6.1.toNat (Ty.zero .half)).tuple.port,seq:=(x1.door.halves.getD c6.1.toNat (Ty.zero .half)).irs}:Segm),()) λc7=>
     .cal x5.c (c6.2,({c4.1 with from_:=(x1.door.halves.getD c6.1.toNat (Ty.zero .half)).tuple.port,seq:=(x1.door.halves.getD c6.1.toNat (Ty.zero .half)).irs}:Segm),({c7 with seq:=(x1.door.halves.getD c6.1.toNat (Ty.zero .half)).iss}:Segm),()) λc8=>
     .ret ([],(x1.door.halves.getD c6.1.toNat (Ty.zero .half)).tuple.ip,c8.2,c8.1,()))<|
    .val (nX.f ((IntKind.wrap .i64 (167772162+c3.1)),c4.1,())) λc9=>
    .cal qY.c (x1.door,c9,c4.1,()) λc10=>
    .cal x5.c (c5.2,c4.1,c10,()) λc11=>
    .ret ([],(IntKind.wrap .i64 (167772162+c3.1)),c11.2,c11.1,()))<|
   .ite (c5.1==1) (.ite (decide (0<(x1.door.table.conns.length:Int))) (.cal am.c (c5.2,(x1.door.table.conns.length:Int),()) λc12=>
     .grd ((decide (0≤c12.1))&&(decide (c12.1<(x1.door.table.conns.length:Int))))<|
     .cal vg.c (c12.2,(x1.door.table.conns.getD c12.1.toNat (Ty.zero .conn)),()) λc13=>
     .ret ([],(x1.door.table.conns.getD c12.1.toNat (Ty.zero .conn)).tuple.ip,c13.2,c13.1,()))<|
    .ret ([],(IntKind.wrap .i64 (167772162+c3.1)),c5.2,c4.1,()))<|
   .ite (c5.1==2) (.val (nX.f ((IntKind.wrap .i64 (167772162+c3.1)),c4.1,())) λc14=>
    .cal qY.c (x1.door,c14,c4.1,()) λc15=>
    .cal x5.c (c5.2,c4.1,c15,()) λc16=>
    .ret ([],(IntKind.wrap .i64 (167772162+c3.1)),c16.2,c16.1,()))<|
   .ret ([],(IntKind.wrap .i64 (167772162+c3.1)),c5.2,c4.1,())) λ(u17a0,u17a1,u17a2,u17a3,_)=>
  .cal lf.c (u17a3,u17a1,167772161,()) λc18=>
  .cal bG.c (u17a2,10,()) λc19=>
  .bnd (β:=ac×Int×ac×Curs×Unit) (.ite c19.1 (.cal u3.c (c19.2,c18,[[0],[120]],()) λc20=>
    .ret (u17a0,u17a1,c20.1,c20.2,()))<|
   .ret (u17a0,u17a1,c18,c19.2,())) λ(_,u21a1,u21a2,u21a3,_)=>
  .cal kG.c ((⟨u21a1,167772161,9,6,0,u21a2⟩:Pack),()) λc22=>
  .cal xR.c (u21a3,c22,()) λc23=>
  .cal fR.c ((⟨11,12,2048,c23.1⟩:Fram),()) λc24=>
  .ret (c24,c23.2),
 λ(y0,x1,_) hp=>by
  refine Tr.C ?_ λ_ _ _=>Tr.I (λ_=>Tr.C ?_ λ_ _ _=>Tr.R ?_) λ_=>Tr.C ?_ λ_ _ _=>Tr.C ?_ λ_ _ _=>Tr.C ?_ λ_ _ _=>Tr.B (Q':=λw=>sS w.1∧af w.2.2.1∧ao w.2.2.2.1) (Tr.I (λ_=>Tr.I (λ_=>Tr.C ?_ λ_ _ _=>Tr.G2 ?_ λ_=>Tr.C ?_ λ_ _ _=>Tr.C ?_ λ_ _ _=>Tr.R ?_) λ_=>Tr.V λ_ _=>Tr.C ?_ λ_ _ _=>Tr.C ?_ λ_ _ _=>Tr.R ?_) λ_=>Tr.I (λ_=>Tr.I (λ_=>Tr.C ?_ λ_ _ _=>Tr.G2 ?_ λ_=>Tr.C ?_ λ_ _ _=>Tr.R ?_) λ_=>Tr.R ?_) λ_=>Tr.I (λ_=>Tr.V λ_ _=>Tr.C ?_ λ_ _ _=>Tr.C ?_ λ_ _ _=>Tr.R ?_) λ_=>Tr.R ?_) (λ(u17a0,u17a1,u17a2,u17a3,_) _ _=>Tr.C ?_ λ_ _ _=>Tr.C ?_ λ_ _ _=>Tr.B (Q':=λw=>sS w.1∧sS w.2.2.1∧af w.2.2.2.1) (Tr.I (λ_=>Tr.C ?_ λ_ _ _=>Tr.R ?_) λ_=>Tr.R ?_) (λ(u21a0,u21a1,u21a2,u21a3,_) _ _=>Tr.C ?_ λ_ _ _=>Tr.C ?_ λ_ _ _=>Tr.C ?_ λ_ _ _=>Tr.R ?_))
  all_goals ((try simp only[Tr.nice,bo]at*)<;>grind)⟩
noncomputable def W0:=cJ st U8 VU [] [.wr false [.ptr 0],.st .stac] [.box [.st .curs]] (λx y=>(y.1.1,x.2.1,())) T6 (λv=>[(false,[.c (.str v.1)])]) (λx y v=>((v.2,()),())) Tryz.func107 (by kernel_rfl) trivial
noncomputable def gY:FT (List Int×Unit) (Stac×ac) (λx=>sS x.1∧x.1.length≤1048576) (λx v=>cU v.1∧sS v.2):=⟨λ(x0,_)=>
  .cal Xz.c (x0,()) λc1=>
  .cal OA.c (c1,()) λc2=>
  .cal T6.c (c2.2,c2.1,()) λc3=>
  .ret (c2.1,c3.1),
 λ(x0,_) hp=>by
  refine Tr.C ?_ λ_ _ _=>Tr.C ?_ λ_ _ _=>Tr.C ?_ λ_ _ _=>Tr.R ?_
  all_goals (grind)⟩
noncomputable def wn:=bf st Tryz.func27 [YF,Ti,W0] (ks:=[.sc (.sl .u8)]) gY (λv=>[(true,Aj .c .c .c .c .c .c v.1),(false,[.c (.str v.2)])])
noncomputable def M5:=[Xi,wn,EH,E7,ML,zM,EW,wW,z8,pC,CP,Nr]
noncomputable def Nl:Fx:=⟨5,Tryz.f5,[(3000006,rA 0 59),(3000009,rA 0 2),(3000012,rA 0 95),(3000013,rA 0 2)],0⟩
noncomputable def lY:FX (List Int×Unit) (Bool) (λ_=>True) (xP [.sc (.sl .u8)]):=⟨λ(x0,_)=>
  .val (CH.f (x0,())) λc1=>
  .ite c1 (.ret true)<|
  .cal gY.c (x0,()) λc2=>
  .cal tZ.c (c2.1,c2.2,()) λc3=>
  .cal qx.c (c2.1,c2.2,()) λc4=>
  .bnd (β:=Bool×Unit) (.ite (c3.2.2 != c4.2.2) (.ret (true,()))<|
   .cal pj.c (c3.1,c4.1,()) λc5=>
   .ite (!c5) (.ret (true,()))<|
   .cal mn.c (c3.2.1,c4.2.1,()) λc6=>
   .ite (!c6) (.ret (true,()))<|
   .cal d5.c (c2.1,()) λc7=>
   .cal oq.c (c2.1,()) λc8=>
   .ret ((!(c7==c8)),())) λ(u9a0,_)=>
  .ite u9a0 (.ret false)<|
  .cal oq.c (c2.1,()) λc10=>
  .ite (!c10) (.bnd (β:=Bool×Unit) (.ite ((c3.2.1.length:Int)==0) (.cal pj.c (c3.1,c2.1,()) λc11=>
     .ret (c11,()))<|
    .ret (false,())) λ(u12a0,_)=>
   .ret u12a0)<|
  .cal tT.c (c2.1.link,c2.2,()) λc13=>
  .cal hZ.c (c13.2.2.1.body,c13.2.2.1.src,c13.2.2.1.dst,()) λc14=>
  .bnd (β:=Bool×Unit) (.ite (c13.2.1 != 2) (.ret (true,()))<|
   .ret ((!c14.2),())) λ(u15a0,_)=>
  .ite u15a0 (.bnd (β:=Bool×Unit) (.cal rx.c (c3.1.door,c2.1.door,()) λc16=>
    .ite c16 (.ite ((c3.2.1.length:Int)==0) (.cal d5.c (c3.1,()) λc17=>
      .ret (c17,()))<|
     .ite (c13.2.1==1) (.cal d5.c (c3.1,()) λc18=>
      .ret (c18,()))<|
     .ret (false,()))<|
    .ret (false,())) λ(u19a0,_)=>
   .ret u19a0)<|
  .cal d5.c (c3.1,()) λc20=>
  .ite c20 (.cal sQ.c (c3.1,c4.1,()) λc21=>
   .ret c21)<|
  .ret false,
 λ(x0,_) hp hf=>by
  simp only[xP,Pk.fact,Pe,Bd,Fl.fact,Ty.fl,Ty.toH]at hf
  refine Tr.V λ_ _=>Tr.I (λ_=>Tr.R trivial) λ_=>Tr.C ?_ λ_ _ _=>Tr.C ?_ λc3 _ _=>Tr.C ?_ λ_ _ _=>Tr.B (Q':=λ_=>True) (Tr.I (λ_=>Tr.R trivial) λ_=>Tr.C ?_ λ_ _ _=>Tr.I (λ_=>Tr.R trivial) λ_=>Tr.C ?_ λ_ _ _=>Tr.I (λ_=>Tr.R trivial) λ_=>Tr.C ?_ λ_ _ _=>Tr.C ?_ λ_ _ _=>Tr.R trivial) (λ(u9a0,_) _ _=>Tr.I (λ_=>Tr.R trivial) λ_=>Tr.C ?_ λ_ _ _=>Tr.I (λ_=>Tr.B (Q':=λ_=>True) (Tr.I (λ_=>Tr.C ?_ λ_ _ _=>Tr.R trivial) λ_=>Tr.R trivial) (λ(u12a0,_) _ _=>Tr.R trivial)) λ_=>Tr.C ?_ λ_ _ _=>Tr.C ?_ λ_ _ _=>Tr.B (Q':=λ_=>True) (Tr.F (by kernel_rfl) trivial) (λ(u15a0,_) _ _=>Tr.I (λ_=>Tr.B (Q':=λw=>(w.1=true→c3.1.door.table.conns.length≤16)) (Tr.C ?_ λ_ _ _=>Tr.I (λ_=>Tr.I (λ_=>Tr.C ?_ λ_ _ _=>Tr.R ?_) λ_=>Tr.I (λ_=>Tr.C ?_ λ_ _ _=>Tr.R ?_) λ_=>Tr.R ?_) λ_=>Tr.R ?_) (λ(u19a0,_) _ _=>Tr.R trivial)) λ_=>Tr.C ?_ λ_ _ _=>Tr.I (λ_=>Tr.C ?_ λ_ _ _=>Tr.R trivial) λ_=>Tr.R trivial))
  all_goals ((try simp only[Tr.nice,bo]at*)<;>grind)⟩
noncomputable def Mv:=adp st Nl M5 [] (ks:=[.sc (.sl .u8)]) lY (λv=>[(false,[.c (.bool v)])]) Tryz.func5 trivial
noncomputable def xa:=[Xi,wn,EH,E7,zM,wW,z8,zH,wM,pC]
def jS:Sh:=⟨[zp 3 0,(6,false,[.own 1]),zi 12,zp 13 2,zp 15 3,zi 17],[.box [.st .stac [.sl .any,.sl .any,.sl .any,.sl .any,.sl .any,.sl .any]],.arr .str false true,.box [.st .pack []],.box [.st .fram []]]⟩
noncomputable def xl:Fx:=⟨6,Tryz.f6,[(0,lb [3,6,12,13,15,17] [2]),(3000006,rA 0 53)],0⟩
noncomputable def jW (v0:Int)(v2:Stac)(v3:List ac)(v4:Pack)(v5:Fram)(v1:Int)(a:Unit):Tr (Stp (Unit) ((Unit)⊕(Unit))):=
 .ite (v0==2) (.grd ((decide (0≤v1))&&(decide (v1<(v3.length:Int))))<|
  .cal kh.c ((v3.getD v1.toNat []),()) λc11=>
  .cal kC.c (c11.1.body,()) λc12=>
  .cal hZ.c (c12.1.body,c12.1.src,c12.1.dst,()) λc13=>
  .ite (!c11.2) (.ret (.out (.inl ())))<|
  .ite (c12.2 != 0) (.ret (.out (.inl ())))<|
  .ite (!c13.2) (.ret (.out (.inl ())))<|
  .ite (c11.1.dst != v5.src) (.ret (.out (.inl ())))<|
  .ite (c12.1.dst != v4.src) (.ret (.out (.inl ())))<|
  .ite (c12.1.src != v2.link.ip) (.ret (.out (.inl ())))<|
  .ret (.next ()))<|
 .ret (.out (.inr (())))
noncomputable def dT:jS.V→LC jS (Unit) ((Unit)⊕(Unit)) (((Unit)⊕(Unit))⊕(Int×Unit)):=λ(v0,v1,v2,v3,v4,v5,_)=>⟨v1,(),λv1 _=>(v0,v1,v2,v3,v4,v5,()),λv1 _=>(decide (v1<(v3.length:Int))),jW v0 v2 v3 v4 v5,up,1,(Int.toNat ((v3.length:Int)-v1)),.inl,λi a=> .inr (i,a),λ_ k w=>Sum.elim (λq=>Sum.elim (λ_=>k .ret (Sh.enc ⟨[zb 2],[]⟩ (false,()))) (λ_=>k (.exit 0) (Sh.enc ⟨[zu 2],[]⟩ ())) q) (λ_=>k (.exit 0) (Sh.enc ⟨[zu 2],[]⟩ ())) w⟩
theorem Dd:LS Tryz.prog xl [0] (bR 0 jS dT):=aW st (aj xa) _ dT [] trivial
theorem Bm {v0 v1:Int}{v2:Stac}{v3:List ac}{v4:Pack}{v5:Fram}(h0:0≤v1)(h1:(v3.length:Int)≤4611686018427387904)(h2:eb sS v3):(dT (v0,v1,v2,v3,v4,v5,())).U (v3.length:Int) (λ_ _=>True) (λ_=>True):=
 LC.okU (i:=v1) (a:=()) (λ_ _=>rfl) (λ_=>rfl) rfl h0 h1 trivial λv1 _ hj hk hv=>by
  refine Tr.I (λ_=>Tr.G2 ?_ λ_=>Tr.C ?_ λ_ _ _=>Tr.C ?_ λ_ _ _=>Tr.C ?_ λ_ _ _=>Tr.Z (by kernel_rfl)) λ_=>Tr.Ro trivial
  all_goals (grind)
noncomputable def kI:FX (List Int×Unit) (Bool) (λ_=>True) (xP [.sc (.sl .u8)]):=⟨λ(x0,_)=>
  .val (CH.f (x0,())) λc1=>
  .ite c1 (.ret true)<|
  .cal gY.c (x0,()) λc2=>
  .cal tZ.c (c2.1,c2.2,()) λc3=>
  .cal qx.c (c2.1,c2.2,()) λc4=>
  .bnd (β:=Bool×Unit) (.cal mn.c (c3.2.1,c4.2.1,()) λc5=>
   .ite (!c5) (.ret (true,()))<|
   .cal oq.c (c2.1,()) λc6=>
   .ret ((!c6),())) λ(u7a0,_)=>
  .ite u7a0 (.cal mn.c (c3.2.1,c4.2.1,()) λc8=>
   .ret c8)<|
  .cal tT.c (c2.1.link,c2.2,()) λc9=>
  .cal kh.c (c2.2,()) λc10=>
  .lp (dT (c9.2.1,0,c2.1,c3.2.1,c9.2.2.1,c10.1,())).lp λw14=> .sum w14 (λq14=> .sum q14 (λ_=>
  .ret false)<|
  λ_=>
  .ret true)<|
  λ_=>
  .ret true,
 λ(x0,_) hp hf=>by
  simp only[xP,Pk.fact,Pe,Bd,Fl.fact,Ty.fl,Ty.toH]at hf
  refine Tr.V λ_ _=>Tr.I (λ_=>Tr.R trivial) λ_=>Tr.C ?_ λc2 _ _=>Tr.C ?_ λ_ _ _=>Tr.C ?_ λ_ _ _=>Tr.B (Q':=λw=>(w.1=false→c2.1.door.table.conns.length≤16)) (Tr.C ?_ λ_ _ _=>Tr.I (λ_=>Tr.R ?_) λ_=>Tr.C ?_ λ_ _ _=>Tr.R ?_) (λ(u7a0,_) _ _=>Tr.I (λ_=>Tr.C ?_ λ_ _ _=>Tr.R trivial) λ_=>Tr.C ?_ λ_ _ _=>Tr.C ?_ λ_ _ _=>Tr.L (Bm ?_ ?_ ?_) (λ_ _=>Tr.Sr (Tr.R trivial)) (Tr.W2 (λ_ _=>Tr.Sl (Tr.Sl (Tr.R trivial))) (λ_ _=>Tr.Sl (Tr.Sr (Tr.R trivial)))))
  all_goals ((try simp only[dT,LC.lp,LC.ct,Ct.lp,Tr.nice,bo]at*)<;>grind)⟩
noncomputable def Lh:=adp st xl xa [(bR 0 jS dT)] (ks:=[.sc (.sl .u8)]) kI (λv=>[(false,[.c (.bool v)])]) Tryz.func6 ⟨Dd,trivial⟩
theorem cW (n b:Int):aE.f (n,b,())=aa.f (n,b,()):=by
 simp only[PX,aE,aa,bK,aw]
 cases h:(decide (1≤b)&&decide (b≤62))with
 |false=>simp only[cond_false]
 |true=>
  have h1:1≤b∧b≤62:=by simpa using h
  rw[TW (by omega) (by omega)]
theorem t7 (x:Tupl):oc.f (x,())=aJ.f (x,()):=by
 simp only[PX,oc,aJ,cW]
theorem iQ (x:Opti):eT.f (x,())=az.f (x,()):=by
 simp only[PX,eT,az,cW,bK,aw]
theorem Xx (x:Int):BT.f (x,())=gC.f (x,()):=by
 simp only[PX,BT,gC,bK,aw]
theorem adu:gC.f (0,())=64∧gC.f (1,())=256∧gC.f (2,())=536∧gC.f (3,())=1024∧gC.f (4,())=1300∧gC.f (5,())=1400∧gC.f (6,())=1440∧gC.f (7,())=1460:=by
 simp[PX,gC,aw]
theorem VC (x:Int):uY.f (x,())=jy.f (x,()):=by
 obtain⟨h0,h1,h2,h3,h4,h5,h6,h7⟩:=adu
 simp only[PX,uY,jy,fw,ck,show Int.toNat (8-0)=8 from rfl,show Int.toNat (7-0)=7 from rfl,a9,vG,lG,Xx]
 simp only[show(0:Int)+1=1 from rfl,show(1:Int)+1=2 from rfl,show(2:Int)+1=3 from rfl,show(3:Int)+1=4 from rfl,show(4:Int)+1=5 from rfl,show(5:Int)+1=6 from rfl,show(6:Int)+1=7 from rfl,
  show(7:Int)+ -1=6 from rfl,show(6:Int)+ -1=5 from rfl,show(5:Int)+ -1=4 from rfl,show(4:Int)+ -1=3 from rfl,show(3:Int)+ -1=2 from rfl,show(2:Int)+ -1=1 from rfl,h0,h1,h2,h3,h4,h5,h6,h7]
 grind [Stp.elim]
theorem oC (x:Int):bS.f (x,())=x%4294967296:=by
 simp only[PX,bS]
 rcases Int.lt_or_le x 0 with h|h
 ·rw[(gP 4294967296).2 h,cQ]
  cases hd:decide (-(-x%4294967296)<0)with
  |true=>simp only[decide_eq_true_eq]at hd;simp only[cond_true];omega
  |false=>simp only[decide_eq_false_iff_not]at hd;simp only[cond_false];omega
 ·rw[(gP 4294967296).1 h,cQ]
  cases hd:decide (x%4294967296<0)with
  |true=>simp only[decide_eq_true_eq]at hd;omega
  |false=>rfl
theorem bZ (a b:Int):cN.f (a,b,())=(a+b)%4294967296:=by
 simp only[PX,cN]
 rw[rk,cQ];omega
theorem j8 (a b:Int):bN.f (a,b,())=cN.f (a,b,()):=by
 rw[bZ]
 simp only[PX,bN,oC,cQ];omega
theorem Oe (x y:Mac):mi.f (x,y,())=n7.f (x,y,()):=by
 simp only[PX,mi,n7,rK,fa,cS,rN,pM]
 have e1:(x.k != y.k)= !(x.k==y.k):=rfl
 have e2:(x.l != y.l)= !(x.l==y.l):=rfl
 rw[e1,e2]
 cases(x.use==y.use)<;>cases(x.k==y.k)<;>cases(x.l==y.l)<;>cases((x.rows.length:Int) != (y.rows.length:Int))<;>rfl
theorem nT (n b:Int):aQ.f (n,b,())=ay.f (n,b,()):=by
 simp only[PX,aQ,ay,cW,bK,aw,f9,dd]
 cases h1:(decide (1≤b)&&decide (b≤6))with
 |false=>rfl
 |true=>
  cases h2:aa.f (n,(IntKind.wrap .i64 (8*b)),())with
  |false=>rfl
  |true=>
   have hb:0≤n∧n≤9223372036854775807:=by
    revert h2
    simp only[PX,aa,aw]
    cases(decide (1≤IntKind.wrap .i64 (8*b))&&decide (IntKind.wrap .i64 (8*b)≤62))with
    |false=>simp
    |true=>
     simp only[cond_true,Bool.and_eq_true,decide_eq_true_eq]
     generalize(IntKind.wrap .i64 (1*2 ^ (min (IntKind.wrap .i64 (8*b)).toNat 64)))=z
     rw[cQ]
     omega
   have e:∀k i r,a9 (λj a=>(mU j a).nice) (-1) k i (n,r)=a9 (λj a=>(dV j a).nice) (-1) k i (n,r):=by
    intro k i r
    refine Fp (P:=λa=>0≤a.1∧a.1≤9223372036854775807) (λi a ha=> ?_) (λi a a' ha he=> ?_) k i (n,r) hb
    ·simp only[PX,mU,dV]
     rw[(un 256).1 ha.1,(gP 256).1 ha.1,ar (by omega) (by omega),Int.fdiv_eq_ediv_of_nonneg a.1 (by omega),qu,qu,Int.emod_emod]
    ·simp only[PX,mU]at he
     cases he
     show 0≤IntKind.wrap .i64 (a.1.tdiv 256)∧_
     rw[(un 256).1 ha.1,ar (by omega) (by omega)]
     omega
   simp only[e]
theorem Nm (x:Int):oQ.f (x,())=ib.f (x,()):=by simp only[PX,oQ,ib,cW]
theorem VN (x:Tupl)(a b c:Int):ux.f (x,a,b,c,())=fZ.f (x,a,b,c,()):=by simp only[PX,ux,fZ,nT,t7,cW,bK,aw]
theorem aaF (x:Mac)(r:List MacRow)(j:Nat)(hj:j<r.length)(hr:x.rows=r):
  Stp.elim (γ:=Stp Unit Unit) (λ_=> .next ()) (λ_=> .out ()) (a9 (λi a=>(qT (j:Int) x i a).nice) 1 (Int.toNat ((j:Int)-0)) 0 ())=
  bif cD.f (((r.take j).drop 0),(r.getD j (Ty.zero .macRow)),())then .out ()else .next ():=by
 subst hr
 let p:MacRow→Bool:=λy=>y.input==(x.rows.getD j (Ty.zero .macRow)).input
 simp only[PX,cD,fG,bc]
 rw[List.drop_zero]
 have hl:(x.rows.take j).length=j:=by rw[List.length_take];omega
 rw[eu (x.rows.take j) _ (by rw[hl];simp) (F:=λq y a=>bif p y then .out ()else .next ()) (by
  intro q y a h
  have hq:q<j:=by
   have:=(List.getElem?_eq_some_iff.1 h).1;omega
  have h2:x.rows[q]? =some y:=by rw[List.getElem?_take]at h;simpa [hq]using h
  simp only[PX,qT,ah,getD_some h2,p])]
 rw[eu (x.rows.take j) _ (by simp) (F:=λq y a=>bif p y then .out (q:Int)else .next ()) (by
  intro q y a h
  simp only[PX,gE,Dp,ah,getD_some h,p])]
 rw[kd (w:=λ_ _=>()),kd (w:=λj _=>(j:Int))]
 cases h:(x.rows.take j).findIdx? p with
 |none=>simp[PX,Stp.elim]
 |some i=>
  have:=(List.findIdx?_eq_some_iff_getElem.1 h).1
  simp only[List.getElem?_eq_getElem this,Stp.elim]
  simp[PX]
theorem abf (x:Mac):CG.f (x,())=vt.f (x,()):=by
 simp only[PX,CG,vt,i2,jf]
 have e:a9 (λj a=>(u6 x j a).nice) 1 (Int.toNat ((x.rows.length:Int)-0)) 0 ()=a9 (λj a=>(pW x.rows x j a).nice) 1 (Int.toNat ((x.rows.length:Int)-0)) 0 ():=by
  rw[bp]
  refine Tt x.rows.length 0 () (λj a hj=> ?_)
  have:=aaF x x.rows j (by omega) rfl
  simp only[PX,u6,pW,gd,ah,bK,aw]at this⊢
  rw[this]
 rw[e]
 have e1:(x.k != 0)= !(x.k==0):=rfl
 have e2:(x.l != 0)= !(x.l==0):=rfl
 have e3:decide (64<(x.rows.length:Int))= !decide ((x.rows.length:Int)≤64):=by
  rcases Int.lt_or_le 64 (x.rows.length:Int)with h|h
  ·simp[h,show¬((x.rows.length:Int)≤64) by omega]
  ·simp[h,show¬(64<(x.rows.length:Int)) by omega]
 rw[e1,e2,e3]
 generalize a9 (λj a=>(pW x.rows x j a).nice) 1 (Int.toNat ((x.rows.length:Int)-0)) 0 ()=z
 cases x.use<;>cases z<;>cases(x.k==0)<;>cases(x.l==0)<;>cases decide ((x.rows.length:Int)≤64)<;>simp[PX,Stp.elim]
theorem Sz (k:Keys):xu.f (k,())=iD.f (k,()):=by
 simp only[PX,xu,iD,cW,abf,Oe,bz,aw]
 cases ht:k.two<;>simp only[PX,cond_true,cond_false,ht]<;>cases vt.f (k.now,())<;>cases vt.f (k.before,())<;>grind
theorem KD (x n:Int)(h:bits .and .u64 (IntKind.wrap .u64 n) 63=n):df.f (x,n,())=kK.f (x,n,()):=by
 simp only[PX,df,kK,h]
theorem K2 (x:Sipr):jp.f (x,())=kf.f (x,()):=by
 simp only[PX,jp,kf,KD _ 13 (by decide+kernel),KD _ 16 (by decide+kernel),KD _ 17 (by decide+kernel),KD _ 21 (by decide+kernel),KD _ 32 (by decide+kernel)]
theorem NI (x:Sipr)(m:Int):ue.f (x,m,())=tu.f (x,m,()):=by
 simp only[PX,ue,tu,K2]
theorem Wo (k l:Int):vh.f (k,l,())=qR.f (k,l,()):=by simp only[PX,vh,qR]
theorem aaB (x:Sipr):Cq.f (x,())=tJ.f (x,()):=by
 simp only[PX,Cq,tJ,fS,K2]
 have e:(λ(j:Int) a=>(tk j a).nice)=λ_ a=>Stp.next (kf.f (a,())):=rfl
 rw[e]
 generalize FT.f kf=R
 rfl
theorem qr (n:Int)(h0:0≤n)(h1:n<2 ^ 64):IntKind.u64.wrap n=n:=by rw[yj];omega
theorem or8 (a b:Int)(ha:0≤a)(ha1:a<72057594037927936)(hb:0≤b)(hb1:b<256):bits .or .u64 (IntKind.wrap .u64 (a*256)) (IntKind.wrap .u64 b)=a*256+b:=by
 rw[qr _ (by omega) (by omega),qr _ (by omega) (by omega)]
 exact bits_join .u64 64 (by decide) qr 8 _ _ (by omega) (by omega) (by omega) (by omega) (by omega) (by omega)
def Io (g:Nat→Int):Nat→Int→Int
 |0,a=>a
 |k+1,a=>Io g k (a*256+g k)
theorem Ec {g h:Nat→Int}:∀(k:Nat) (a:Int),(∀j,j<k→g j=h j)→Io g k a=Io h k a
 |0,_,_=>rfl
 |k+1,a,e=>by simp only[Io,e k (Nat.lt_succ_self _)];exact Ec k _ λj hj=>e j (by omega)
theorem HR {g:Nat→Int}:∀(k:Nat) (a:Int),Io g k a=a*256 ^ k+Io g k 0
 |0,a=>by simp[Io]
 |k+1,a=>by
  simp only[Io]
  rw[HR k (a*256+g k),HR k (0*256+g k),Int.pow_succ,Int.add_mul,Int.zero_mul,Int.zero_add,Int.mul_assoc,Int.mul_comm 256 (256 ^ k),Int.add_assoc]
theorem aaq (k:Nat):(1:Int)≤256 ^ k:=by
 have:=Int.pow_pos (n:=256) (m:=k) (by decide)
 omega
theorem aaN {g:Nat→Int}(hg:∀k,0≤g k∧g k≤255):∀(k:Nat),0≤Io g k 0∧Io g k 0<256 ^ k
 |0=>by simp[Io]
 |k+1=>by
  have h:=aaN hg k
  simp only[Io]
  rw[HR,Int.zero_mul,Int.zero_add,Int.pow_succ]
  have h1:=hg k
  have h2:=aaq k
  have h3:0≤g k*256 ^ k:=Int.mul_nonneg h1.1 (by omega)
  have h4:g k*256 ^ k≤255*256 ^ k:=Int.mul_le_mul_of_nonneg_right h1.2 (by omega)
  omega
theorem IG {f:Int→Int→Stp Int Empty}{g:Nat→Int}(hg:∀k,0≤g k∧g k≤255)(hf:∀(k:Nat) a,f (k:Int) a= .next (bits .or .u64 (IntKind.wrap .u64 (a*256)) (IntKind.wrap .u64 (g k)))):
  ∀(k:Nat) (a:Int),0≤a→(a+1)*256 ^ k≤18446744073709551616→a9 f (-1) k ((k:Int)-1) a= .next (Io g k a)
 |0,a,_,_=>rfl
 |k+1,a,h0,h1=>by
  have hp:=aaq k
  rw[Int.pow_succ,Int.mul_comm (256 ^ k) 256,←Int.mul_assoc]at h1
  have h2:(a+1)*256*1≤(a+1)*256*256 ^ k:=Int.mul_le_mul_of_nonneg_left hp (by omega)
  have h3:=hg k
  simp only[a9,Io]
  rw[show((k+1:Nat):Int)-1=(k:Int) by omega,hf,or8 a (g k) h0 (by omega) h3.1 (by omega)]
  simp only[Stp.elim]
  rw[show(k:Int)+ -1=(k:Int)-1 by omega]
  refine IG hg hf k _ (by omega) ?_
  have h4:(a*256+g k+1)*256 ^ k≤(a+1)*256*256 ^ k:=Int.mul_le_mul_of_nonneg_right (by omega) (by omega)
  omega
theorem yF (s:ac)(k:Nat):0≤ae s k∧ae s k≤255:=gV s k
theorem N3 (s:ac)(h:s.length≤8):rm.f (s,())=Io (ae s) s.length 0:=by
 simp only[PX,rm,gX]
 rw[ar (by omega) (by omega)]
 rw[show Int.toNat ((s.length:Int)-1-0+1)=s.length by omega]
 rw[IG (g:=ae s) (yF s) (λk a=>rfl) s.length 0 (by omega) ?_]
 ·rfl
 ·have:∀k:Nat,k≤8→(0+1:Int)*256 ^ k≤18446744073709551616:=by decide
  exact this _ h
theorem OE (l:List Int)(h:∀k,0≤l.getD k 0∧l.getD k 0≤255):rc.f (l,())=Io (λk=>l.getD k 0) 8 0:=by
 simp only[PX,rc,gT]
 rw[show Int.toNat (7-0+1)=8 from rfl,show(7:Int)=((8:Nat):Int)-1 from rfl]
 rw[IG (g:=λk=>l.getD k 0) h (λk a=>rfl) 8 0 (by omega) (by decide)]
 rfl
theorem KS {A B W W':Type}[Inhabited W][Inhabited W']{f:A→Stp A W}{g:B→Stp B W'}{R:A→B→Prop}{Q:W→W'→Prop}{ma:A→Nat}{mb:B→Nat}
  (h:∀a b,R a b→(∃a' b',f a= .next a'∧g b= .next b'∧R a' b'∧ma a'<ma a∧mb b'<mb b)∨(∃w w',f a= .out w∧g b= .out w'∧Q w w')):
  ∀(m m':Nat) (a:A) (b:B),ma a<m→mb b<m'→R a b→Q (bI f m a) (bI g m' b)
 |0,_,_,_,h1,_,_=>absurd h1 (Nat.not_lt_zero _)
 |_+1,0,_,_,_,h2,_=>absurd h2 (Nat.not_lt_zero _)
 |m+1,m'+1,a,b,h1,h2,hr=>by
  rcases h a b hr with⟨a',b',e1,e2,hr',l1,l2⟩|⟨w,w',e1,e2,hq⟩
  ·simp only[bI,e1,e2,Stp.elim]
   exact KS h m m' a' b' (by omega) (by omega) hr'
  ·simp only[bI,e1,e2,Stp.elim]
   exact hq
theorem aaz {g:Nat→Int}(k:Nat)(a:Int):Io g (k+1) a=Io g k (a*256+g k):=rfl
theorem Zw {α:Type}{xs:List α}{j:Nat}(h:j<xs.length)(v z:α):(xs.set j v).getD j z=v:=by
 simp[List.getD,List.getElem?_set,h]
theorem wQ (s:ac)(k:Nat):(eA s).getD k 0=ae s k:=by
 simp only[eA,ae,List.getD,List.getElem?_map]
 cases s[k]? <;>rfl
theorem EE (s:ac)(n k:Nat):ae (s.drop n) k=ae s (n+k):=by
 simp only[ae,List.getD,List.getElem?_drop]
theorem Tk (s:ac)(n k:Nat)(h:k<n):ae (s.take n) k=ae s k:=by
 simp only[ae,List.getD,List.getElem?_take,if_pos h]
theorem FU (s:ac)(k:Nat)(h:s.length≤k):ae s k=0:=by
 simp[ae,List.getD,h]
theorem Xj {g:Nat→Int}(r:Nat):∀(m:Nat),(∀j,r≤j→j<r+m→g j=0)→Io g (r+m) 0=Io g r 0
 |0,_=>rfl
 |m+1,h=>by
  rw[show r+(m+1)=(r+m)+1 from rfl]
  simp only[Io]
  rw[h (r+m) (by omega) (by omega)]
  exact Xj r m λj h1 h2=>h j h1 (by omega)
theorem Rm (k:IntKind)(a b:Int):bits .or k a b=bits .or k b a:=by
 simp only[bits,BitVec.or_comm]
def acz (x:ac)(a:Int×Sipr)(b:List Int×Sipr):Prop:=0≤a.1∧a.1≤x.length∧b.1=eA (x.drop a.1.toNat)∧a.2=b.2
theorem Ux (s:ac)(n:Nat):(eA s).drop n=eA (s.drop n):=by simp[eA]
theorem YB (x:ac)(hx:x.length≤4294967296)(z:Sipr):acz x (bI (λa=>(j6 x (x.length:Int) a).nice) (Int.toNat ((x.length:Int)-0)+1) (0,z)) (bI (λa=>(ne a).nice) ((eA x).length+1) (eA x,z))∧
  (x.length:Int)<(bI (λa=>(j6 x (x.length:Int) a).nice) (Int.toNat ((x.length:Int)-0)+1) (0,z)).1+8:=by
  refine KS (R:=acz x) (Q:=λw w'=>acz x w w'∧(x.length:Int)<w.1+8) (ma:=λa=>Int.toNat ((x.length:Int)-a.1)) (mb:=λb=>b.1.length) ?_ _ _ _ _ ?_ ?_ ?_
  ·intro a b hr
   obtain⟨h1,h2,h3,h4⟩:=hr
   have hb:(b.1.length:Int)=(x.length:Int)-a.1:=by rw[h3,oG,List.length_drop];omega
   simp only[PX,j6,ne]
   rw[ar (by omega) (by omega)]
   cases hd:decide (a.1+8≤(x.length:Int))with
   |true=>
    simp only[decide_eq_true_eq]at hd
    rw[show decide (8≤(b.1.length:Int))=true by simp only[decide_eq_true_eq];omega]
    refine .inl ⟨_,_,rfl,rfl,⟨?_, ?_, ?_, ?_⟩, ?_, ?_⟩
    ·simp only[];omega
    ·simp only[];omega
    ·simp only[]
     rw[ah,List.take_length,h3,Ux,List.drop_drop,show(a.1+8).toNat=a.1.toNat+8 by omega]
    ·have e:rm.f ((x.take (a.1+8).toNat).drop a.1.toNat,())=rc.f (b.1,()):=by
      have hl:((x.take (a.1+8).toNat).drop a.1.toNat).length=8:=by rw[List.length_drop,List.length_take];omega
      rw[N3 _ (by omega),hl,OE _ (λk=>by rw[h3,wQ];exact yF _ _)]
      refine Ec 8 0 λj hj=> ?_
      rw[h3,wQ,EE,EE,Tk _ _ _ (by omega)]
     simp only[e,h4,NI]
    ·simp only[];omega
    ·simp only[ah,List.take_length,List.length_drop];omega
   |false=>
    simp only[decide_eq_false_iff_not]at hd
    rw[show decide (8≤(b.1.length:Int))=false by simp only[decide_eq_false_iff_not];omega]
    exact .inr ⟨_,_,rfl,rfl,⟨h1,h2,h3,h4⟩,by show(x.length:Int)<a.1+8;omega⟩
  ·exact Nat.lt_succ_self _
  ·exact Nat.lt_succ_self _
  ·exact⟨by simp,by simp,by simp,rfl⟩
theorem aaH (x:ac)(hx:x.length≤4294967296)(p:Int)(q:List Int)(h1:0≤p)(h2:p≤x.length)(h3:q=eA (x.drop p.toNat))(h5:(x.length:Int)<p+8):
  bits .or .u64 (rm.f (x.drop p.toNat,())) (IntKind.wrap .u64 ((IntKind.wrap .u64 ((x.length:Int).tmod 256))*72057594037927936))=rc.f ((q++(List.replicate 8 0).drop q.length).set 7 (IntKind.wrap .u8 (x.length:Int)),()):=by
 have hl:(x.drop p.toNat).length=x.length-p.toNat:=by simp
 have hq:q.length=x.length-p.toNat:=by rw[h3,oG,hl]
 generalize hy:x.drop p.toNat=y at h3 hl
 have hy8:y.length≤7:=by omega
 rw[N3 y (by omega)]
 have hb7:IntKind.u8.wrap (x.length:Int)=(x.length:Int)%256:=qu _
 have hm:IntKind.u64.wrap ((x.length:Int).tmod 256)=(x.length:Int)%256:=by
  rw[(gP 256).1 (by omega),qr _ (by omega) (by omega)]
 rw[hb7,hm]
 have hg:∀k,((q++(List.replicate 8 (0:Int)).drop q.length).set 7 ((x.length:Int)%256)).getD k 0=if k=7 then(x.length:Int)%256 else ae y k:=by
  intro k
  by_cases e:k=7
  ·subst e
   rw[if_pos rfl]
   exact Zw (by simp;omega) _ _
  ·rw[if_neg e,List.getD,List.getElem?_set_ne (by omega)]
   by_cases hk:k<q.length
   ·rw[List.getElem?_append_left hk,h3,←List.getD_eq_getElem?_getD,wQ]
   ·rw[List.getElem?_append_right (by omega),List.getElem?_drop,List.getElem?_replicate,FU y k (by omega)]
    split<;>rfl
 rw[OE _ (λk=>by
  rw[hg]
  split
  ·omega
  ·exact yF _ _)]
 have hbd:=aaN (g:=ae y) (yF y) y.length
 have hp7:(256:Int) ^ y.length≤72057594037927936:=by
  have:∀k:Nat,k≤7→(256:Int) ^ k≤72057594037927936:=by decide
  exact this _ hy8
 have e1:Io (λk=>((q++(List.replicate 8 (0:Int)).drop q.length).set 7 ((x.length:Int)%256)).getD k 0) 8 0=((x.length:Int)%256)*72057594037927936+Io (ae y) y.length 0:=by
  refine(aaz 7 0).trans ?_
  rw[hg 7,if_pos rfl,HR,Int.zero_mul,Int.zero_add,show(256:Int) ^ 7=72057594037927936 from rfl]
  congr 1
  rw[Ec 7 0 (h:=ae y) λj hj=>by rw[hg,if_neg (by omega)]]
  have:=Xj (g:=ae y) y.length (7-y.length) λj h1 _=>FU y j h1
  rw[show y.length+(7-y.length)=7 by omega]at this
  exact this
 rw[e1,Rm,qr ((x.length:Int)%256*72057594037927936) (by omega) (by omega)]
 exact bits_join .u64 64 (by decide) qr 56 _ _ (by omega) (by omega) (by omega) (by omega) (by omega) (by omega)
theorem YV (k l:Int)(x:ac)(hx:x.length≤4294967296):yC.f (k,l,x,())=ov.f (k,l,x,()):=by
 simp only[PX,yC,ov,gm,gg,Wo,List.length_replicate]
 generalize qR.f (k,l,())=z
 have key:=YB x hx z
 generalize bI (λa=>(j6 x (x.length:Int) a).nice) (Int.toNat ((x.length:Int)-0)+1) (0,z)=p at key⊢
 generalize bI (λa=>(ne a).nice) ((eA x).length+1) (eA x,z)=q at key⊢
 obtain⟨⟨h1,h2,h3,h4⟩,h5⟩:=key
 have hq:q.1.length=x.length-p.1.toNat:=by rw[h3,oG,List.length_drop]
 have ht:q.1.take 8=q.1:=List.take_of_length_le (by omega)
 obtain⟨p,pz⟩:=p
 obtain⟨q,qz⟩:=q
 simp only[PX,ht,aaB,NI]at*
 rw[h4,show((x.take (x.length:Int).toNat).drop p.toNat)=x.drop p.toNat by rw[ah,List.take_length]]
 rw[aaH x hx p q h1 h2 h3 h5]
theorem aa7 (m:Mac)(x:ac)(hx:x.length≤4294967296):HD.f (m,x,())=qm.f (m,x,()):=by
 simp only[PX,HD,qm,iY,gQ,YV _ _ _ hx]
 rw[show a9 (λj a=>(vb x m j a).nice) 1 (Int.toNat ((m.rows.length:Int)-0)) 0 ()=a9 (λj a=>(kP x m.rows j a).nice) 1 (Int.toNat ((m.rows.length:Int)-0)) 0 () from Wt (λi a=>by
  simp only[PX,vb,kP]
  generalize(m.rows.getD i.toNat (Ty.zero .macRow))=r
  cases(r.input==x)with
  |false=>rfl
  |true=>
   simp only[cond_true]
   have h1:=gP (a:=r.value) 16777216
   rcases Int.lt_or_le r.value 0 with h|h
   ·have e:=h1.2 h
    generalize r.value.tmod 16777216=t at e
    rw[ar (by omega) (by omega)]
    cases hd:decide (t<0)with
    |true=>simp only[decide_eq_true_eq]at hd;simp only[cond_true];rw[(gP 16777216).1 (by omega),Int.emod_eq_of_lt (by omega) (by omega)]
    |false=>simp only[decide_eq_false_iff_not]at hd;simp only[cond_false];rw[(gP 16777216).1 (by omega),show t=0 by omega];rfl
   ·have e:=h1.1 h
    generalize r.value.tmod 16777216=t at e
    rw[ar (by omega) (by omega)]
    cases hd:decide (t<0)with
    |true=>simp only[decide_eq_true_eq]at hd;omega
    |false=>simp only[cond_false];rw[(gP 16777216).1 (by omega)];congr 1;omega) _ _ _]
theorem QF (t:Tupl)(a b c:Int):(fZ.f (t,a,b,c,())).length≤40:=(fZ.c.h (t,a,b,c,()) trivial).2
theorem IL (m:Mac)(t:Tupl)(a b c:Int):rC.f (m,t,a,b,c,())=kb.f (m,t,a,b,c,()):=by
 simp only[PX,rC,kb,VN]
 rw[aa7 _ _ (by have:=QF t a b c;omega)]
theorem Oo (m:Mac):nU.f (m,())=m:=by simp only[PX,nU,List.nil_append]
theorem Me (m:Mac):lV.f (m,())=m:=by simp only[PX,lV,mO]
theorem Vq (k:Keys)(e:Int):uG.f (k,e,())=oo.f (k,e,()):=by
 simp only[PX,uG,oo,Oo,Me]
theorem aa5 (f:Int→Unit→Stp Unit (Int⊕Unit))(g:Int→Unit→Stp Unit Int)(E:Int)(h0:0≤E)(h1:E≤4294967295)
  (hfg:∀e,E-1≤e→f e ()=Stp.elim (λ_=> .next ()) (λw=> .out (.inl w)) (g e ()))(hend:∀e,e<E-1→f e ()= .out (.inr ()))(i:Int):
  Stp.elim (λ_=>((0:Int),(0:Int),false)) (Sum.elim (λp=>(p,i,true)) (λ_=>(0,0,false))) (a9 f (-1) (Int.toNat (E-0+1)) E ())=
  Stp.elim (λ_=>(0,0,false)) (λp=>(p,i,true)) (a9 g (-1) (Int.toNat (E-(if 0<(IntKind.wrap .i64 (E-1))then(IntKind.wrap .i64 (E-1))else 0)+1)) E ()):=by
 rw[ar (by omega) (by omega)]
 rcases(show E=0∨E=1∨2≤E by omega)with rfl|rfl|h
 ·rw[if_neg (by omega),show Int.toNat (0-0+1)=1 from rfl]
  simp only[a9,hfg 0 (by omega)]
  cases g 0 ()<;>rfl
 ·rw[if_neg (by omega),show Int.toNat (1-0+1)=2 from rfl]
  simp only[a9,hfg 1 (by omega),show(1:Int)+ -1=0 from rfl,hfg 0 (by omega)]
  cases g 1 ()with
  |out w=>rfl
  |next a=>simp only[Stp.elim];cases g 0 ()<;>rfl
 ·rw[if_pos (by omega),show Int.toNat (E-(E-1)+1)=2 by omega]
  obtain⟨m,hm⟩:∃m:Nat,Int.toNat (E-0+1)=m+3:=⟨Int.toNat (E-2),by omega⟩
  rw[hm]
  simp only[a9,hfg E (by omega),hfg (E+ -1) (by omega),hend (E+ -1+ -1) (by omega)]
  cases g E ()with
  |out w=>rfl
  |next a=>simp only[Stp.elim];cases g (E+ -1) ()<;>rfl
theorem GP (x:Int):decide ((ib.f (x,())).2.1<0)= !aa.f (x,32,()):=by
 simp only[PX,ib,bz]
 cases hd:(decide (0≤x)&&decide (x≤4294967295))with
 |false=>rfl
 |true=>
  simp only[Bool.and_eq_true,decide_eq_true_eq]at hd
  simp only[Bool.not_true,cond_false]
  rw[(un 16777216).1 hd.1,ar (by omega) (by omega),(gP 8).1 (by omega)]
  simp only[decide_eq_false_iff_not]
  omega
theorem Ci (k:Keys)(h:iD.f (k,())=true):0≤k.epoch∧k.epoch≤4294967295:=by
 simp only[PX,iD,aw]at h
 revert h
 cases k.two<;>simp only[PX,cond_true,cond_false]<;>grind
theorem Ns (k:Keys)(t:Tupl)(a b:Int):oL.f (k,t,a,b,())=de.f (k,t,a,b,()):=by
 simp only[PX,oL,de,dz,dA,Sz,Nm,GP]
 cases hk:iD.f (k,())with
 |false=>rfl
 |true=>
  simp only[Bool.not_true,cond_false]
  cases aa.f (b,32,())with
  |false=>rfl
  |true=>
   simp only[Bool.not_true,cond_false]
   have he:=Ci k hk
   refine aa5 _ _ k.epoch he.1 he.2 (λe h=> ?_) (λe h=> ?_) _
   ·simp only[PX,lQ,rz]
    rw[ar (by omega) (by omega)]
    simp only[Vq,IL,decide_eq_true h,cond_true]
    cases(oo.f (k,e,())).2 with
    |false=>rfl
    |true=>
     simp only[cond_true]
     cases(kb.f ((oo.f (k,e,())).1,t,a,e,(ib.f (b,())).2.1,())==b)<;>rfl
   ·simp only[PX,lQ]
    rw[ar (by omega) (by omega)]
    simp only[decide_eq_false (show¬(k.epoch-1≤e) by omega),cond_false]
theorem pf (x:Segm):iP.f (x,())=ak.f (x,()):=by simp only[PX,iP,ak,cW,iQ]
theorem Zy (x:Int):fO.f (0,x,())=(if 0<x then x else 0):=by
 rw[qQ];grind
theorem V7 (d:Door)(t:Tupl)(g:Segm):uH.f (d,t,g,())=oi.f (d,t,g,()):=by
 simp only[PX,uH,oi,yq]
 cases(g.opts.mss==0)<;>simp only[PX,cond_true,cond_false]<;>simp only[VC,IL,Zy]
theorem Yd (a b:Int)(c:Bool):yA.f (a,b,c,())=oA.f (a,b,c,()):=by
 simp only[PX,yA,oA,aw,rk]
 cases c<;>simp only[PX,cond_true,cond_false]<;>simp only[bK,oC]<;>cases(decide (0≤b)&&decide (b≤14))<;>simp only[cond_true,cond_false,Bool.not_true,Bool.not_false,cQ]<;>omega
theorem Hy (o:Opti)(c:Int):lA.f (o,c,())=gH.f (o,c,()):=by
 simp only[PX,lA,gH,bK,aw]
 cases(decide (0≤o.scale)&&decide (o.scale≤14))<;>simp only[PX,cond_true,cond_false]<;>simp only[Yd]
theorem aai (d:Door)(t:Tupl)(g:Segm):qY.f (d,t,g,())=eI.f (d,t,g,()):=by
 simp only[PX,qY,eI,V7,j8,Hy]
theorem Dy {A W:Type}{f:Int→A→Stp A W}{st:Int}:∀(k:Nat) (i:Int) (a:A) (w:W),a9 f st k i a= .out w→∃(n:Nat) (b:A),n<k∧f (i+st*(n:Int)) b= .out w
 |0,_,_,_,h=>by cases h
 |k+1,i,a,w,h=>by
  simp only[a9]at h
  cases hf:f i a with
  |out w'=>rw[hf]at h;simp only[Stp.elim]at h;cases h;exact⟨0,a,by omega,by simpa using hf⟩
  |next a'=>
   rw[hf]at h
   obtain⟨n,b,h1,h2⟩:=Dy k (i+st) a' w h
   exact⟨n+1,b,by omega,by rw[show i+st*((n+1:Nat):Int)=i+st+st*(n:Int) by rw[Int.natCast_add,Int.mul_add];omega];exact h2⟩
theorem A6 {A W:Type}{f:Int→A→Stp A W}{st:Int}{P:A→Prop}(hp:∀i a a',P a→f i a= .next a'→P a'):∀(k:Nat) (i:Int) (a a':A),P a→a9 f st k i a= .next a'→P a'
 |0,_,_,_,ha,h=>by cases h;exact ha
 |k+1,i,a,a',ha,h=>by
  simp only[a9]at h
  cases hf:f i a with
  |out w'=>rw[hf]at h;cases h
  |next a1=>rw[hf]at h;exact A6 hp k _ a1 a' (hp i a a1 ha hf) h
theorem Yv (x:Sipr):0≤tJ.f (x,()):=by
 simp only[PX,tJ,fS]
 cases a9 (λj a=>(tk j a).nice) 1 (Int.toNat (4-0)) 0 ({x with c:=(bits .xor .u64 x.c 255)}:Sipr)with
 |next a=>exact(CI .xor .u64 _ _ (.inr (.inr (.inl rfl)))).1
 |out e=>exact Empty.elim e
theorem Vf (k l:Int)(x:ac):0≤ov.f (k,l,x,()):=by
 simp only[PX,ov]
 exact Yv _
theorem adH (s:Int)(h:0≤s):0≤IntKind.wrap .i64 (s.tmod 16777216)∧IntKind.wrap .i64 (s.tmod 16777216)≤16777215:=by
 have h1:=HQ (b:=16777216) h
 have h2:=Bx (a:=s) (show(0:Int)<16777216 by omega)
 rw[ar (by omega) (by omega)];omega
theorem adv (r:Int):0≤(IntKind.wrap .i64 (r.tmod 16777216+16777216)).tmod 16777216∧(IntKind.wrap .i64 (r.tmod 16777216+16777216)).tmod 16777216≤16777215:=by
 have h1: -16777216<r.tmod 16777216:=Int.lt_tmod_of_pos _ (by omega)
 have h2:=Bx (a:=r) (show(0:Int)<16777216 by omega)
 rw[ar (by omega) (by omega)]
 have h3:=HQ (a:=r.tmod 16777216+16777216) (b:=16777216) (by omega)
 have h4:=Bx (a:=r.tmod 16777216+16777216) (show(0:Int)<16777216 by omega)
 omega
theorem YK (m:Mac)(x:ac)(k:Nat)(i:Int)(w:Int)(hf:a9 (λj a=>(kP x m.rows j a).nice) 1 k i ()= .out w):0≤w∧w≤16777215:=by
 obtain⟨n,b,_,h⟩:=Dy _ _ _ _ hf
 simp only[PX,kP]at h
 revert h
 generalize(m.rows.getD (i+1*(n:Int)).toNat (Ty.zero .macRow))=r
 cases(r.input==x)with
 |false=>simp only[cond_false];intro h;cases h
 |true=>simp only[cond_true];intro h;injection h with h;rw[←h];exact adv r.value
theorem ZQ (m:Mac)(x:ac):qm.f (m,x,())=bif !m.use then IntKind.wrap .i64 ((ov.f (m.k,m.l,x,())).tmod 16777216)else Stp.elim (λ_=>0) (λp=>p) (a9 (λj a=>(kP x m.rows j a).nice) 1 (Int.toNat ((m.rows.length:Int)-0)) 0 ()):=by
 simp only[PX,qm,gQ]
theorem adt (u:Bool)(s:Int)(z:Stp Unit Int)(hs:0≤s)(hk:∀w,z= .out w→0≤w∧w≤16777215):
  0≤(bif !u then IntKind.wrap .i64 (s.tmod 16777216)else Stp.elim (λ_=>0) (λp=>p) z)∧(bif !u then IntKind.wrap .i64 (s.tmod 16777216)else Stp.elim (λ_=>0) (λp=>p) z)≤16777215:=by
 cases u with
 |false=>simp only[Bool.not_false,cond_true];exact adH s hs
 |true=>
  simp only[Bool.not_true,cond_false]
  cases z with
  |next a=>simp only[Stp.elim];omega
  |out w=>exact hk w rfl
theorem NJ (m:Mac)(x:ac):0≤qm.f (m,x,())∧qm.f (m,x,())≤16777215:=by
 rw[ZQ]
 exact adt m.use _ _ (Vf m.k m.l x) (YK m x (Int.toNat ((m.rows.length:Int)-0)) 0)
theorem VT (n:Int)(h:aa.f (n,32,())=true):(ay.f (n,4,())).length=4:=by
 simp only[PX,ay,aw,dd,show IntKind.wrap .i64 (8*4)=32 from rfl,h,show(decide ((1:Int)≤4)&&decide ((4:Int)≤6))=true from rfl,Bool.not_true,cond_false,show IntKind.wrap .i64 (4-1)=3 from rfl,show Int.toNat (3-0+1)=4 from rfl,show Int.toNat 4=4 from rfl]
 cases hf:a9 (λj a=>(dV j a).nice) (-1) 4 3 (n,List.replicate 4 0)with
 |out e=>exact Empty.elim e
 |next a=>
  have:=A6 (P:=λa:Int×List Int=>a.2.length=4) (λi a a' ha h=>by
   simp only[PX,dV]at h
   cases h
   simpa using ha) _ _ _ _ (by simp) hf
  simp only[PX,Stp.elim,br]
  exact this
theorem Vg (t:Tupl)(h:aJ.f (t,())=true):(0≤t.ip∧t.ip≤4294967295)∧(0≤t.port∧t.port≤65535)∧(0≤t.my∧t.my≤65535):=by
 simp only[PX,aJ,bz,bx]at h
 revert h
 cases h1:(decide (0≤t.ip)&&decide (t.ip≤4294967295))<;>cases h2:(decide (0≤t.port)&&decide (t.port≤65535))<;>simp only[cond_true,cond_false,Bool.and_eq_true,decide_eq_true_eq]at* <;>simp_all
theorem SY (t:Tupl)(seq e i:Int)(ht:aJ.f (t,())=true)(hs:0≤seq∧seq≤4294967295)(he:0≤e∧e≤4294967295)(hi:0≤i∧i≤7):(fZ.f (t,seq,e,i,())==[])=false:=by
 have h1:=VT t.ip (by rw[bz];have:=(Vg t ht).1;simp[this])
 simp only[PX,fZ,ht,bz,aw,decide_eq_true hs.1,decide_eq_true hs.2,decide_eq_true he.1,decide_eq_true he.2,decide_eq_true hi.1,decide_eq_true hi.2,Bool.and_self,Bool.not_true,cond_false]
 generalize ay.f (t.ip,4,())=a at*
 match a,h1 with
 |x::r,_=>simp
theorem SW (m:Mac)(t:Tupl)(seq e i:Int)(ht:aJ.f (t,())=true)(hs:0≤seq∧seq≤4294967295)(he:0≤e∧e≤4294967295)(hi:0≤i∧i≤7):
  kb.f (m,t,seq,e,i,())=(e%32)*134217728+i*16777216+qm.f (m,fZ.f (t,seq,e,i,()),()):=by
 simp only[PX,kb,SY t seq e i ht hs he hi,cond_false]
 have h:=NJ m (fZ.f (t,seq,e,i,()))
 rw[(gP 32).1 he.1,ar (m:=e%32*134217728) (by omega) (by omega),ar (m:=i*16777216) (by omega) (by omega),ar (m:=e%32*134217728+i*16777216) (by omega) (by omega),ar (by omega) (by omega)]
theorem QL (x:Int):0≤jy.f (x,())∧jy.f (x,())≤7:=by
 simp only[PX,jy,ck]
 cases hf:a9 (λj a=>(lG x j a).nice) (-1) (Int.toNat (7-0)) 7 ()with
 |next a=>simp[PX,Stp.elim]
 |out w=>
  obtain⟨n,b,hn,h⟩:=Dy _ _ _ _ hf
  simp only[PX,lG]at h
  simp only[PX,Stp.elim]
  rw[show Int.toNat (7-0)=7 from rfl]at hn
  revert h
  cases decide (gC.f (7+ -1*(n:Int),())≤x)with
  |false=>simp only[cond_false];intro h;cases h
  |true=>simp only[cond_true];intro h;cases h;omega
theorem DG (o:Opti)(c:Int)(ho:eT.f (o,())=true):eT.f (gH.f (o,c,()),())=true:=by
 have hv:∀a b:Int,∀s:Bool,0≤oA.f (a,b,s,())∧oA.f (a,b,s,())≤4294967295:=by
  intro a b s
  simp only[PX,oA,rk]
  cases s<;>simp only[cond_true,cond_false]<;>cases bq.f (b,0,14,())<;>simp only[Bool.not_true,Bool.not_false,cond_true,cond_false]<;>omega
 simp only[PX,eT,bK,Uv,Sb]at ho⊢
 simp only[PX,gH,aw]
 have h1:=hv c o.scale o.sack
 cases hst:o.stamp with
 |false=>simp[PX]
 |true=>
  simp only[hst,Bool.not_true,cond_false]at ho⊢
  revert ho
  cases(decide (0≤o.mss)&&decide (o.mss≤65535))<;>cases(decide (-1≤o.scale)&&decide (o.scale≤14))<;>cases hval:(decide (0≤o.val)&&decide (o.val≤4294967295))<;>simp only[cond_true,cond_false]<;>intro ho
  all_goals first|(exfalso;exact Bool.noConfusion ho)|skip
  cases(decide (0≤o.scale)&&decide (o.scale≤14))<;>simp only[PX,cond_true,cond_false]<;>simp only[decide_eq_true h1.1,decide_eq_true h1.2,ho,hval,Bool.and_self,cond_true]<;>rfl
def gD {T:Type}(p:T→Bool)(xs:List T):Int:=match xs.findIdx? p with|none=> -1|some i=>(i:Int)
theorem ml {T:Type}(p:T→Bool)(xs:List T){f:Int→Unit→Stp Unit Int}(h:∀(j:Nat) x a,xs[j]? =some x→f j a=bif p x then .out (j:Int)else .next ()):
  a9 f 1 (Int.toNat ((xs.length:Int)-0)) 0 ()=match xs.findIdx? p with|none=> .next ()|some i=> .out (i:Int):=by
 rw[bp,eu xs _ rfl h,kd (w:=λj _=>(j:Int))]
 cases hf:xs.findIdx? p with
 |none=>rfl
 |some i=>
  obtain⟨h1,_,_⟩:=List.findIdx?_eq_some_iff_getElem.1 hf
  simp only[List.getElem?_eq_getElem h1,Nat.zero_add]
theorem ly {T:Type}(p:T→Bool)(xs:List T):decide (0≤gD p xs)=xs.any p:=by
 unfold gD
 cases h:xs.findIdx? p with
 |none=>
  rw[List.findIdx?_eq_none_iff]at h
  symm
  show xs.any p=false
  rw[List.any_eq_false]
  intro x hx;simp[h x hx]
 |some i=>
  obtain⟨h1,h2,_⟩:=List.findIdx?_eq_some_iff_getElem.1 h
  have:xs.any p=true:=by rw[List.any_eq_true];exact⟨xs[i],List.getElem_mem h1,h2⟩
  rw[this];simp
theorem abD {T:Type}(p:T→Bool)(xs:List T):decide (gD p xs<0)= !xs.any p:=by
 rw[←ly]
 by_cases h:0≤gD p xs
 ·rw[decide_eq_true h,decide_eq_false (by omega)];rfl
 ·rw[decide_eq_false h,decide_eq_true (by omega)];rfl
theorem C0 {T:Type}(p:T→Bool)(xs:List T)(j:Nat)(x:T)(hx:xs[j]? =some x)(hp:p x=true):(gD p xs != (j:Int))=(xs.take j).any p:=by
 obtain⟨hj,rfl⟩:=List.getElem?_eq_some_iff.1 hx
 unfold gD
 cases h:xs.findIdx? p with
 |none=>
  rw[List.findIdx?_eq_none_iff]at h
  have:=h _ (List.getElem_mem hj)
  rw[hp]at this;cases this
 |some i=>
  obtain⟨h1,h2,h3⟩:=List.findIdx?_eq_some_iff_getElem.1 h
  simp only[]
  rw[Bool.eq_iff_iff]
  simp only[bne_iff_ne,ne_eq,List.any_eq_true]
  constructor
  ·intro hne
   have hij:i<j:=by
    rcases Nat.lt_or_ge i j with h4|h4
    ·exact h4
    ·have h5:j<i:=by omega
     have:=h3 j h5
     simp[hp]at this
   refine⟨xs[i], ?_,h2⟩
   rw[List.mem_take_iff_getElem]
   exact⟨i,by omega,rfl⟩
  ·rintro⟨y,hy,hpy⟩ he
   rw[List.mem_take_iff_getElem]at hy
   obtain⟨k,hk,rfl⟩:=hy
   have:k<i:=by omega
   have:=h3 k this
   simp[hpy]at this
def lS (t y:Tupl):Bool:=(y.ip==t.ip)&&((y.port==t.port)&&((y.my==t.my)&&true))
theorem xr (t:Tupl):lS t t=true:=by simp[lS]
theorem rH (xs:List Half)(t:Tupl):jt.f (xs,t,())=gD (λh=>lS t h.tuple) xs:=by
 simp only[PX,jt,fp]
 rw[ml (λh:Half=>lS t h.tuple) xs (λj x a h=>by
  simp only[PX,wu,ah,getD_some h,lS])]
 unfold gD
 cases xs.findIdx? (λh=>lS t h.tuple)<;>rfl
theorem iH (xs:List Half)(t:Tupl):aR.f (xs,t,())=gD (λh=>lS t h.tuple) xs:=by
 simp only[PX,aR,eV,aY]
 rw[ml (λh:Half=>lS t h.tuple) xs (λj x a h=>by
  simp only[PX,gl,vi,ah,getD_some h,lS])]
 unfold gD
 cases xs.findIdx? (λh=>lS t h.tuple)<;>rfl
theorem uK (xs:List Half)(t:Tupl):jt.f (xs,t,())=aR.f (xs,t,()):=by rw[rH,iH]
theorem IQ (x:Tabl)(t:Tupl):fx.f (x,t,())=gD (λh=>lS t h.tuple) x.conns:=by
 simp only[PX,fx,fJ]
 rw[ml (λh:Conn=>lS t h.tuple) x.conns (λj x a h=>by
  simp only[PX,vU,ah,getD_some h,lS])]
 unfold gD
 cases x.conns.findIdx? (λh=>lS t h.tuple)<;>rfl
theorem gf (x:Tabl)(t:Tupl):aK.f (x,t,())=gD (λh=>lS t h.tuple) x.conns:=by
 simp only[PX,aK,eZ,aZ]
 rw[ml (λh:Conn=>lS t h.tuple) x.conns (λj x a h=>by
  simp only[PX,gy,vd,ah,getD_some h,lS])]
 unfold gD
 cases x.conns.findIdx? (λh=>lS t h.tuple)<;>rfl
theorem lL (x:Tabl)(t:Tupl):fx.f (x,t,())=aK.f (x,t,()):=by rw[IQ,gf]
theorem rI (x:Recv):gZ.f (x,())=ce.f (x,()):=by
 simp only[PX,gZ,ce,Zy]
theorem R3 (x:Recv)(h:(x.data.length:Int)≤32):ce.f (x,())≤32:=by
 simp only[PX,ce]
 cases x.done with
 |true=>simp only[cond_true];omega
 |false=>
  simp only[cond_false]
  rw[ar (by omega) (by omega)]
  split<;>omega
theorem uX (x:Sndr):fm.f (x,())=bE.f (x,()):=by
 simp only[PX,fm,bE,cW,bK,aw]
def fe (L:Int):Int→List Piec→Option Int
 |a,[]=>some a
 |a,p::r=>bif (p.text==[])||decide (p.off≤a)||decide (L<p.off+(p.text.length:Int))then none else fe L (p.off+(p.text.length:Int)) r
theorem TD (L:Int):∀(r:List Piec) (a b:Int),fe L a r=some b→a≤b∧(a≤L→b≤L)
 |[],a,b,h=>by cases h;exact⟨Int.le_refl _,λh=>h⟩
 |p::r,a,b,h=>by
  simp only[fe]at h
  cases hc:((p.text==[])||decide (p.off≤a)||decide (L<p.off+(p.text.length:Int)))with
  |true=>rw[hc]at h;cases h
  |false=>
   rw[hc]at h
   simp only[Bool.or_eq_false_iff,decide_eq_false_iff_not]at hc
   have:=TD L r _ b h
   omega
theorem OM (L M:Int)(hLM:L≤M):∀(r:List Piec) (a:Int),a≤L→fe L a r=(match fe M a r with|some b=>bif decide (b≤L)then some b else none|none=>none)
 |[],a,h=>by simp only[fe,decide_eq_true h,cond_true]
 |p::r,a,h=>by
  simp only[fe]
  cases h1:((p.text==[])||decide (p.off≤a))with
  |true=>simp only[Bool.true_or,cond_true]
  |false=>
   simp only[Bool.false_or]
   by_cases h2:L<p.off+(p.text.length:Int)
   ·rw[decide_eq_true h2]
    simp only[cond_true]
    by_cases h3:M<p.off+(p.text.length:Int)
    ·rw[decide_eq_true h3];rfl
    ·rw[decide_eq_false h3]
     simp only[cond_false]
     cases hw:fe M (p.off+(p.text.length:Int)) r with
     |none=>rfl
     |some b=>
      have:=(TD M r _ b hw).1
      simp only[]
      rw[decide_eq_false (by omega)]
      rfl
   ·rw[decide_eq_false h2,decide_eq_false (show¬M<p.off+(p.text.length:Int) by omega)]
    simp only[cond_false]
    exact OM L M hLM r _ (by omega)
def ca (xs:List Piec):Prop:=∀y∈xs,y.text.length≤4611686018427387904
theorem ca.getD {xs:List Piec}(h:ca xs)(i:Nat):(xs.getD i (Ty.zero .piec)).text.length≤4611686018427387904:=RM (p:=λy:Piec=>y.text.length≤4611686018427387904) (by decide+kernel) h i
theorem RU {s:ac}(h:(s==[])=false):0<s.length:=by
 cases s with
 |nil=>cases h
 |cons=>simp
theorem Ac {W:Type}{F:Nat→Piec→Int→Stp Int W}{L:Int}{w:W}:∀(r:List Piec) (j:Nat) (a:Int),0≤a→a≤32→L≤32→(∀p∈r,∀j a,0≤a→a≤32→(∃w,(p.text==[]||decide (p.off≤a)||decide (L<p.off+(p.text.length:Int)))=true∧F j p a= .out w)∨((p.text==[]||decide (p.off≤a)||decide (L<p.off+(p.text.length:Int)))=false∧F j p a= .next (p.off+(p.text.length:Int))))→
  (match fe L a r with|some b=>kV F j r a= .next b|none=>∃w,kV F j r a= .out w)
 |[],j,a,_,_,_,_=>rfl
 |p::r,j,a,h0,h1,hL,hF=>by
  rcases hF p List.mem_cons_self j a h0 h1 with⟨w,hc,hf⟩|⟨hc,hf⟩
  ·simp only[fe,hc,cond_true,kV,hf,Stp.elim]
   exact⟨w,rfl⟩
  ·simp only[fe,hc,cond_false,kV,hf,Stp.elim]
   simp only[Bool.or_eq_false_iff,decide_eq_false_iff_not]at hc
   exact Ac (w:=w) r (j+1) _ (by omega) (by omega) hL λq hq=>hF q (List.mem_cons_of_mem _ hq)
theorem aco (x:Recv)(L:Int)(hL:L≤32)(hs:ca x.held):match fe L 0 x.held with|some b=>a9 (λj a=>(ff L x j a).nice) 1 (Int.toNat ((x.held.length:Int)-0)) 0 0= .next b|none=>∃w,a9 (λj a=>(ff L x j a).nice) 1 (Int.toNat ((x.held.length:Int)-0)) 0 0= .out w:=by
 rw[bp,eu x.held _ rfl (F:=λj p a=>(ff L {x with held:=[p]} 0 a).nice) (by
  intro j p a h
  simp only[PX,ff,ah,getD_some h]
  rfl)]
 refine Ac (w:=(0:Int)) _ _ _ (by omega) (by omega) hL λp hp j a h0 h1=> ?_
 have hl:=hs p hp
 simp only[PX,ff,show Int.toNat 0=0 from rfl,List.getD_cons_zero]
 cases h2:(p.text==[])with
 |true=>exact .inl ⟨_,rfl,rfl⟩
 |false=>
  have hp:=RU h2
  cases h3:decide (p.off≤a)with
  |true=>exact .inl ⟨_,rfl,rfl⟩
  |false=>
   simp only[decide_eq_false_iff_not]at h3
   simp only[cond_false,Bool.false_or]
   by_cases h4:L<p.off
   ·refine .inl ⟨a,decide_eq_true (by omega), ?_⟩
    rw[decide_eq_true h4];rfl
   ·rw[decide_eq_false h4,ar (by omega) (by omega)]
    simp only[cond_false]
    by_cases h5:L<p.off+(p.text.length:Int)
    ·rw[decide_eq_true h5];exact .inl ⟨_,rfl,rfl⟩
    ·rw[decide_eq_false h5];exact .inr ⟨rfl,rfl⟩
theorem W6 (x:Recv)(L:Int)(hL0: -9223372036854775808≤L-4611686018427387904)(hL:L≤32)(hs:ca x.held):match fe L 0 x.held with|some b=>a9 (λj a=>(dX L x.held j a).nice) 1 (Int.toNat ((x.held.length:Int)-0)) 0 0= .next b|none=>∃w,a9 (λj a=>(dX L x.held j a).nice) 1 (Int.toNat ((x.held.length:Int)-0)) 0 0= .out w:=by
 rw[bp,eu x.held _ rfl (F:=λj p a=>(dX L [p] 0 a).nice) (by
  intro j p a h
  simp only[PX,dX,ah,getD_some h]
  rfl)]
 refine Ac (w:=()) _ _ _ (by omega) (by omega) hL λp hp j a h0 h1=> ?_
 have hl:=hs p hp
 simp only[PX,dX,show Int.toNat 0=0 from rfl,List.getD_cons_zero]
 cases h2:(p.text==[])with
 |true=>exact .inl ⟨_,rfl,rfl⟩
 |false=>
  have hp:=RU h2
  cases h3:decide (p.off≤a)with
  |true=>exact .inl ⟨_,rfl,rfl⟩
  |false=>
   simp only[decide_eq_false_iff_not]at h3
   simp only[cond_false,Bool.false_or]
   rw[ar (m:=L-(p.text.length:Int)) (by omega) (by omega)]
   by_cases h5:L<p.off+(p.text.length:Int)
   ·rw[decide_eq_true h5,decide_eq_true (by omega)];exact .inl ⟨_,rfl,rfl⟩
   ·rw[decide_eq_false h5,decide_eq_false (by omega),ar (by omega) (by omega)];exact .inr ⟨rfl,rfl⟩
theorem Di (x:Recv)(hs:ca x.held):kB.f (x,())=bP.f (x,()):=by
 simp only[PX,kB,bP,dQ,cV,cW,bK,rI]
 cases aa.f (x.next,32,())with
 |false=>rfl
 |true=>
  by_cases hd:32<(x.data.length:Int)
  ·rw[decide_eq_true hd];rfl
  ·rw[decide_eq_false hd]
   have hw:=R3 x (by omega)
   simp only[Bool.not_true,cond_false]
   cases decide (3<(x.held.length:Int))with
   |true=>rfl
   |false=>
    simp only[cond_false]
    rw[aw]
    by_cases hf: -1≤x.fin∧x.fin≤ce.f (x,())
    ·rw[decide_eq_true hf.1,decide_eq_true hf.2]
     simp only[Bool.and_self,Bool.not_true,cond_false]
     cases h0:(x.fin==0)with
     |true=>rfl
     |false=>
      simp only[cond_false]
      have h0:x.fin≠0:=by simpa using h0
      have k1:=aco x (ce.f (x,())) hw hs
      by_cases h1:x.fin= -1
      ·have k2:=W6 x (ce.f (x,())) (by omega) hw hs
       rw[show(x.fin != -1)=false by simp[h1],show decide (x.fin<0)=true from decide_eq_true (by omega)]
       simp only[cond_true,cond_false]
       cases hp:fe (ce.f (x,())) 0 x.held with
       |some b=>rw[hp]at k1 k2;simp only[]at k1 k2;rw[k1,k2];rfl
       |none=>rw[hp]at k1 k2;obtain⟨w1,k1⟩:=k1;obtain⟨w2,k2⟩:=k2;rw[k1,k2];rfl
      ·have k2:=W6 x x.fin (by omega) (by omega) hs
       rw[show(x.fin != -1)=true by simp[h1],show decide (x.fin<0)=false from decide_eq_false (by omega)]
       simp only[cond_true,cond_false]
       rw[OM x.fin (ce.f (x,())) (by omega) x.held 0 (by omega)]at k2
       cases hp:fe (ce.f (x,())) 0 x.held with
       |none=>rw[hp]at k1 k2;obtain⟨w1,k1⟩:=k1;obtain⟨w2,k2⟩:=k2;rw[k1,k2];rfl
       |some b=>
        rw[hp]at k1 k2
        simp only[]at k1 k2
        rw[k1]
        by_cases hb:b≤x.fin
        ·rw[decide_eq_true hb]at k2
         simp only[cond_true]at k2
         rw[k2];simp only[Stp.elim,decide_eq_true hb,cond_true]
        ·rw[decide_eq_false hb]at k2
         obtain⟨w2,k2⟩:=k2
         rw[k2];simp only[Stp.elim,decide_eq_false hb,cond_false]
    ·have:(decide (-1≤x.fin)&&decide (x.fin≤ce.f (x,())))=false:=by
      rw[Bool.and_eq_false_iff];simp only[decide_eq_false_iff_not];omega
     rw[this];rfl
theorem B0 (x:Conn)(hs:ca x.r.held):jC.f (x,())=bV.f (x,()):=by
 simp only[PX,jC,bV,LI,t7,uX,Di x.r hs,iQ,bK,aw]
 cases aJ.f (x.tuple,())with
 |false=>rfl
 |true=>
 cases bE.f (x.s,())with
 |false=>rfl
 |true=>
 cases bP.f (x.r,())with
 |false=>rfl
 |true=>
 cases az.f (x.opts,())with
 |false=>rfl
 |true=>
 simp only[Bool.not_true,cond_false]
 have hm:(bif !(decide (0≤x.window)&&decide (x.window≤x.most))then true else decide (1073725440<x.most))=(bif !(decide (0≤x.most)&&decide (x.most≤1073725440))then true else !(decide (0≤x.window)&&decide (x.window≤x.most))):=by
  rw[Bool.eq_iff_iff]
  by_cases h1:0≤x.window<;>by_cases h2:x.window≤x.most<;>by_cases h3:1073725440<x.most<;>by_cases h4:0≤x.most<;>by_cases h5:x.most≤1073725440<;>simp[h1,h2,h3,h4,h5]<;>omega
 have ej:∀b:Bool,(bif b then(false,(4:Int),x,())else(false,3,x,()))=(false,(bif b then 4 else 3),x,()):=λb=>by cases b<;>rfl
 have et:∀b:Bool,decide (x.timer≤bif b then 4 else 3)=bif b then decide (x.timer≤4)else decide (x.timer≤3):=λb=>by cases b<;>rfl
 simp only[ej,et]
 revert hm
 generalize(decide (0≤x.window)&&decide (x.window≤x.most))=W
 generalize decide (1073725440<x.most)=M
 generalize(decide (0≤x.most)&&decide (x.most≤1073725440))=N
 generalize(decide (0≤x.tries)&&decide (x.tries≤3))=T
 generalize decide (0≤x.timer)=T0
 generalize decide (x.timer≤4)=T4
 generalize decide (x.timer≤3)=T3
 generalize x.s.fin=sf
 generalize x.s.done=sd
 generalize x.r.done=rd
 generalize x.state=k
 have hk:k=1∨k=2∨k=3∨k=4∨k=5∨k=6∨k=7∨k=8∨(decide (1≤k)&&decide (k≤8))=false:=by
  simp only[Bool.and_eq_false_iff,decide_eq_false_iff_not];omega
 rcases hk with rfl|rfl|rfl|rfl|rfl|rfl|rfl|rfl|hk
 iterate 8 (revert W M N T T0 T4 T3 sf sd rd;decide+kernel)
 intro _;simp only[hk];rfl
theorem V3 (x:Limi):uC.f (x,())=gz.f (x,()):=by
 simp only[PX,uC,gz,bK,aw]
theorem yo {T V W:Type}(xs:List T){f:Int→Unit→Stp Unit V}{g:Int→Unit→Stp Unit W}{k:Nat}(hk:k=xs.length)(h:∀(j:Nat) x,xs[j]? =some x→(∃v w,f j ()= .out v∧g j ()= .out w)∨(f j ()= .next ()∧g j ()= .next ())):
  (∃v w,a9 f 1 k 0 ()= .out v∧a9 g 1 k 0 ()= .out w)∨(a9 f 1 k 0 ()= .next ()∧a9 g 1 k 0 ()= .next ()):=by
 subst hk
 have:∀(n i:Nat),i+n=xs.length→(∃v w,a9 f 1 n (i:Int) ()= .out v∧a9 g 1 n (i:Int) ()= .out w)∨(a9 f 1 n (i:Int) ()= .next ()∧a9 g 1 n (i:Int) ()= .next ()):=by
  intro n
  induction n with
  |zero=>intro i _;exact .inr ⟨rfl,rfl⟩
  |succ n ih=>
   intro i hi
   rcases h i xs[i] (List.getElem?_eq_getElem (by omega))with⟨v,w,h1,h2⟩|⟨h1,h2⟩
   ·exact .inl ⟨v,w,by simp only[a9,h1,Stp.elim],by simp only[a9,h2,Stp.elim]⟩
   ·simp only[a9,h1,h2,Stp.elim]
    have:=ih (i+1) (by omega)
    rwa [show((i+1:Nat):Int)=(i:Int)+1 by omega]at this
 exact this xs.length 0 (by omega)
theorem P2 (xs:List Tupl)(t:Tupl):uQ.f (xs,t,())=xs.any (lS t):=by
 simp only[PX,uQ,fv]
 rw[bp,eu xs _ rfl (F:=λj y a=>bif lS t y then .out ()else .next ()) (by
  intro j y a h
  simp only[PX,wj,ah,getD_some h,lS])]
 rw[kd (p:=lS t) (w:=λ_ _=>())]
 cases h:xs.findIdx? (lS t)with
 |none=>
  rw[List.findIdx?_eq_none_iff]at h
  simp only[Stp.elim]
  symm
  rw[List.any_eq_false]
  intro x hx;simp[h x hx]
 |some i=>
  obtain⟨h1,h2,_⟩:=List.findIdx?_eq_some_iff_getElem.1 h
  simp only[List.getElem?_eq_getElem h1,Stp.elim]
  symm
  rw[List.any_eq_true];exact⟨xs[i],List.getElem_mem h1,h2⟩
theorem vK (xs:List Tupl)(t:Tupl):oU.f (xs,t,())=gD (lS t) xs:=by
 have e:∀a b:Int,(a==b)=(b==a):=λa b=>by rw[Bool.eq_iff_iff];simp only[beq_iff_eq];exact eq_comm
 simp only[PX,oU,dq]
 rw[ml (lS t) xs (λj x a h=>by
  simp only[PX,rL,ah,getD_some h,lS,e t.ip,e t.port,e t.my])]
 unfold gD
 cases xs.findIdx? (lS t)<;>rfl
theorem Ap {T:Type}{xs:List T}{j:Nat}{x:T}(h:xs[j]? =some x):x∈xs:=List.mem_of_getElem? h
theorem OS (x:Tabl)(l:Limi)(hs:∀y∈x.conns,ca y.r.held):tz.f (x,l,())=dE.f (x,l,()):=by
 simp only[PX,tz,dE,gk,eJ,gq,eU,V3]
 have h1:=yo x.conns (f:=λj a=>(rP x j a).nice) (g:=λj a=>(eX x.conns x j a).nice) (k:=Int.toNat ((x.conns.length:Int)-0)) (bp _) (λj y hy=>by
  simp only[PX,rP,eX,ah,getD_some hy,B0 y (hs y (Ap hy)),lL]
  cases bV.f (y,())with
  |false=>exact .inl ⟨_,_,rfl,rfl⟩
  |true=>cases(aK.f (x,y.tuple,()) != (j:Int))with
   |true=>exact .inl ⟨_,_,rfl,rfl⟩
   |false=>exact .inr ⟨rfl,rfl⟩)
 have h2:=yo x.waiting (f:=λj a=>(qP x j a).nice) (g:=λj a=>(eP x.waiting x j a).nice) (k:=Int.toNat ((x.waiting.length:Int)-0)) (bp _) (λj y hy=>by
  simp only[PX,qP,eP,ah,getD_some hy,P2,vK,lL,List.drop_zero]
  rw[C0 (lS y) x.waiting j y hy (xr y)]
  cases(x.waiting.take j).any (lS y)<;>cases decide (aK.f (x,y,())<0)<;>first|exact .inl ⟨_,_,rfl,rfl⟩|exact .inr ⟨rfl,rfl⟩)
 rcases h1 with⟨v,w,h3,h4⟩|⟨h3,h4⟩
 ·rw[h3,h4]
  cases(gz.f (l,()))<;>cases decide (l.conns<(x.conns.length:Int))<;>cases decide (l.waiting<(x.waiting.length:Int))<;>rfl
 ·rw[h3,h4]
  rcases h2 with⟨v,w,h5,h6⟩|⟨h5,h6⟩
  ·rw[h5,h6]
   all_goals (cases(gz.f (l,()))<;>cases decide (l.conns<(x.conns.length:Int))<;>cases decide (l.waiting<(x.waiting.length:Int))<;>rfl)
  ·rw[h5,h6]
   all_goals (cases(gz.f (l,()))<;>cases decide (l.conns<(x.conns.length:Int))<;>cases decide (l.waiting<(x.waiting.length:Int))<;>rfl)
theorem AG (xs:List Half):n5.f (xs,())=fE.f (xs,()):=by
 simp only[PX,n5,fE,d9,fB]
 have h1:=yo xs (f:=λj a=>(fy xs j a).nice) (g:=λj a=>(pG xs xs j a).nice) (k:=Int.toNat ((xs.length:Int)-0)) (bp _) (λj y hy=>by
  simp only[PX,fy,pG,ah,getD_some hy,t7,cW,iQ,bK,aw,rH,iH,List.drop_zero,ly]
  rw[C0 (λh:Half=>lS y.tuple h.tuple) xs j y hy (xr _)]
  cases aJ.f (y.tuple,())with
  |false=>exact .inl ⟨_,_,rfl,rfl⟩
  |true=>
  cases aa.f (y.iss,32,())with
  |false=>exact .inl ⟨_,_,rfl,rfl⟩
  |true=>
  cases aa.f (y.irs,32,())with
  |false=>exact .inl ⟨_,_,rfl,rfl⟩
  |true=>
  cases aa.f (y.window,16,())with
  |false=>exact .inl ⟨_,_,rfl,rfl⟩
  |true=>
  cases az.f (y.opts,())with
  |false=>exact .inl ⟨_,_,rfl,rfl⟩
  |true=>
  cases(decide (0≤y.age)&&decide (y.age≤6))with
  |false=>exact .inl ⟨_,_,rfl,rfl⟩
  |true=>
  cases(xs.take j).any (λh=>lS y.tuple h.tuple)with
  |true=>exact .inl ⟨_,_,rfl,rfl⟩
  |false=>exact .inr ⟨rfl,rfl⟩)
 rcases h1 with⟨v,w,h3,h4⟩|⟨h3,h4⟩<;>rw[h3,h4]<;>by_cases h:64<(xs.length:Int)
 ·rw[decide_eq_true h];rfl
 ·rw[decide_eq_false h];rfl
 ·rw[decide_eq_true h];simp only[Stp.elim,cond_true];exact decide_eq_false (by omega)
 ·rw[decide_eq_false h];simp only[Stp.elim,cond_false];exact decide_eq_true (by omega)
theorem La (d:Door)(xs:List Half):cK.f (xs,d,())=xs.any (λh=>decide (0≤aK.f (d.table,h.tuple,()))):=by
 simp only[PX,cK,fQ,bj]
 rw[ml (λh:Half=>decide (0≤aK.f (d.table,h.tuple,()))) xs (λj y a h=>by
  simp only[PX,gN,z4,ah,getD_some h])]
 rw[←ly]
 unfold gD
 cases xs.findIdx? (λh=>decide (0≤aK.f (d.table,h.tuple,())))<;>rfl
theorem YO {T:Type}(p:T→Bool)(xs:List T)(j:Nat):kV (W:=Unit) (λ_ y (_:Unit)=>bif p y then .out ()else .next ()) j xs ()=bif xs.any p then .out ()else .next ():=by
 rw[kd (w:=λ_ _=>())]
 cases h:xs.findIdx? p with
 |none=>
  rw[List.findIdx?_eq_none_iff]at h
  have:xs.any p=false:=by
   rw[List.any_eq_false]
   intro y hy;simp[h y hy]
  rw[this];rfl
 |some i=>
  obtain⟨h1,h2,_⟩:=List.findIdx?_eq_some_iff_getElem.1 h
  have:xs.any p=true:=by rw[List.any_eq_true];exact⟨xs[i],List.getElem_mem h1,h2⟩
  rw[this];simp only[List.getElem?_eq_getElem h1];rfl
theorem JQ (x:Door)(hs:∀y∈x.table.conns,ca y.r.held):tC.f (x,())=cc.f (x,()):=by
 simp only[PX,tC,cc,gW,cW,Sz,OS x.table x.limits hs,AG,bK,aw,La]
 rw[bp,eu x.halves _ rfl (F:=λj y a=>bif decide (0≤aK.f (x.table,y.tuple,()))then .out ()else .next ()) (by
  intro j y a h
  simp only[PX,zz,ah,getD_some h,lL])]
 rw[YO (λy:Half=>decide (0≤aK.f (x.table,y.tuple,())))]
 cases x.halves.any (λy=>decide (0≤aK.f (x.table,y.tuple,())))<;>rfl
theorem A4:∀(r:List Conn) (j:Nat) (c:List Conn) (w:List Tupl),kV (W:=Empty) (λ_ x (a:Tabl×Tabl)=> .next ((⟨[],[]⟩:Tabl),(⟨a.2.conns++[x],a.2.waiting⟩:Tabl))) j r (⟨[],[]⟩,⟨c,w⟩)= .next (⟨[],[]⟩,⟨c++r,w⟩)
 |[],_,c,w=>by simp only[kV,List.append_nil]
 |x::r,j,c,w=>by
  simp only[kV,Stp.elim]
  rw[A4 r]
  simp
theorem uj (x:Recv):dY.f (x,())=x:=by simp only[PX,dY,List.nil_append]
theorem wd (x:Recv):jD.f (x,())=x:=by simp only[PX,jD,oE]
theorem nZ (x:Conn):ez.f (x,())=x:=by simp only[PX,ez,uj]
theorem d8 (x:Conn):d7.f (x,())=x:=by simp only[PX,d7,wd]
theorem Yo (x:Keys):yy.f (x,())=x:=by simp only[PX,yy,Oo]
theorem Tv (x:Keys):sv.f (x,())=x:=by simp only[PX,sv,Me]
theorem D2 (x:Tabl):mh.f (x,())=x:=by
 simp only[PX,mh,gj,List.nil_append]
 rw[bp,eu x.conns _ rfl (F:=λ_ y (a:Tabl×Tabl)=> .next ((⟨[],[]⟩:Tabl),(⟨a.2.conns++[y],a.2.waiting⟩:Tabl))) (by
  intro j y a h
  simp only[PX,xn,ah,getD_some h,nZ]),A4]
 simp only[Stp.elim,PX,List.nil_append]
theorem mQ (x:Tabl):jq.f (x,())=x:=by
 simp only[PX,jq,dS,oI]
 rw[bp,eu x.conns _ rfl (F:=λ_ y (a:Tabl×Tabl)=> .next ((⟨[],[]⟩:Tabl),(⟨a.2.conns++[y],a.2.waiting⟩:Tabl))) (by
  intro j y a h
  simp only[PX,sM,ah,getD_some h,d8]),A4]
 simp only[Stp.elim,PX,List.nil_append]
theorem om (x:Door):fj.f (x,())=x:=by simp only[PX,fj,Yo,D2,List.nil_append]
theorem sr (x:Door):kv.f (x,())=x:=by simp only[PX,kv,Tv,mQ,eE]
theorem fW {W:Type}{f:Int→Unit→Stp Unit W}:∀(k:Nat) (i:Int),(∀j,f j ()= .next ())→a9 f 1 k i ()= .next ()
 |0,_,_=>rfl
 |k+1,i,h=>by simp only[a9,h,Stp.elim];exact fW k _ h
theorem Br (m:Mac):mi.f (m,m,())=true:=by
 simp only[PX,mi,fa]
 rw[fW _ _ λj=>by simp only[PX,rN,beq_self_eq_true,Bool.and_self,Bool.not_true,cond_false]]
 simp[PX,Stp.elim]
theorem CE (m:Recv):nm.f (m,m,())=true:=by
 simp only[PX,nm,cP]
 rw[fW _ _ λj=>by simp only[PX,pK,beq_self_eq_true,Bool.and_self,Bool.not_true,cond_false]]
 simp[PX,Stp.elim]
theorem Nq (m:Conn):uF.f (m,m,())=true:=by
 simp only[PX,uF,CE,beq_self_eq_true,Bool.and_self,cond_true]
theorem Hu (m:List Half):p7.f (m,m,())=true:=by
 simp only[PX,p7,dN]
 rw[fW _ _ λj=>by simp only[PX,rY,beq_self_eq_true,Bool.and_self,Bool.not_true,cond_false]]
 simp[PX,Stp.elim]
theorem Ky (m:Tabl):sm.f (m,m,())=true:=by
 simp only[PX,sm,em,ew]
 rw[fW (f:=λj a=>(ot m m j a).nice) _ _ λj=>by simp only[PX,ot,Nq,Bool.not_true,cond_false]]
 simp only[Stp.elim,PX]
 rw[fW (f:=λj a=>(n8 m m j a).nice) _ _ λj=>by simp only[PX,n8,beq_self_eq_true,Bool.and_self,Bool.not_true,cond_false]]
 simp[PX,Stp.elim]
theorem Mt (m:Keys):uN.f (m,m,())=true:=by
 simp only[PX,uN,Br,beq_self_eq_true,cond_true]
theorem tg (m:Door):rx.f (m,m,())=true:=by
 simp only[PX,rx,Mt,Hu,Ky,beq_self_eq_true,Bool.and_self,cond_true]
theorem Na (m:Mac):n7.f (m,m,())=true:=by rw[←Oe];exact Br m
theorem UN (m:List Half):qa.f (m,m,())=true:=by
 simp only[PX,qa,dR]
 rw[fW _ _ λj=>by simp only[PX,su,beq_self_eq_true,Bool.and_self,Bool.not_true,cond_false]]
 simp[PX,Stp.elim]
theorem QY (m:List Tupl):oM.f (m,m,())=true:=by
 simp only[PX,oM,dk]
 rw[fW _ _ λj=>by simp only[PX,qX,beq_self_eq_true,Bool.and_self,Bool.not_true,cond_false]]
 simp[PX,Stp.elim]
theorem Qj (m:List Piec):o7.f (m,m,())=true:=by
 simp only[PX,o7,dm]
 rw[fW _ _ λj=>by simp only[PX,qH,beq_self_eq_true,Bool.and_self,Bool.not_true,cond_false]]
 simp[PX,Stp.elim]
theorem zS (m:Recv):mW.f (m,m,())=true:=by
 simp only[PX,mW,Qj,beq_self_eq_true,cond_true]
theorem Le (m:Conn):uU.f (m,m,())=true:=by
 simp only[PX,uU,zS,beq_self_eq_true,Bool.and_self,cond_true]
theorem Pw (m:List Conn):dI.f (m,m,())=true:=by
 simp only[PX,dI,bi]
 rw[fW _ _ λj=>by simp only[PX,gM,Le,Bool.not_true,cond_false]]
 simp[PX,Stp.elim]
theorem Hi (m:Tabl):sR.f (m,m,())=true:=by
 simp only[PX,sR,Pw,QY,cond_true]
theorem I8 (m:Keys):ve.f (m,m,())=true:=by
 simp only[PX,ve,Na,beq_self_eq_true,cond_true]
theorem D9 (m:List Half):p0.f (m,m,())=true:=by
 simp only[PX,p0,UN]
theorem KZ (m:Door):uL.f (m,m,())=true:=by
 simp only[PX,uL,I8,D9,Hi,beq_self_eq_true,Bool.and_self,cond_true]
theorem MR (o:Opti):oW.f (o,())=jG.f (o,()):=by
 simp only[PX,oW,jG,bM,bO]
theorem YQ (xs:List Half)(h:Half)(n:Int):ub.f (xs,h,n,())=oy.f (xs,h,n,()):=by
 simp only[PX,ub,oy,eE,AG,List.nil_append]
def kX (d:Door):Prop:=∀y∈d.table.conns,ca y.r.held
theorem Oz {d:Door}(hd:aD d):kX d:=by
 intro y hy p hp
 have h1:ai y:=hd.2.2.2.2.2.2.1 y hy
 have h2:im p:=h1.2.2.2 p hp
 simp only[im]at h2
 omega
theorem Ma (d:Door)(t:Tupl)(g:Segm)(hs:kX d):qL.f (d,t,g,())=(cc.f (d,())&&(aJ.f (t,())&&ak.f (g,()))):=by
 simp only[PX,qL,JQ d hs,t7,pf]
 cases cc.f (d,())<;>cases aJ.f (t,())<;>rfl
theorem N0 (d:Door)(t:Tupl)(g:Segm):lF.f (d,t,g,())=
  bif (cc.f (d,())&&(aJ.f (t,())&&ak.f (g,())))then
   bif decide (0≤aR.f (d.halves,t,()))then
    bif ((d.halves.getD (aR.f (d.halves,t,())).toNat (Ty.zero .half)).irs != g.seq)then(d,[])else(d,[({eI.f (d,t,g,())with seq:=(d.halves.getD (aR.f (d.halves,t,())).toNat (Ty.zero .half)).iss}:Segm)])
   else bif decide (aK.f (d.table,t,())<0)then
    ({d with halves:=(oy.f (d.halves,(⟨t,(eI.f (d,t,g,())).seq,g.seq,jG.f (g.opts,()),0,g.window⟩:Half),d.limits.halves,())).1},[eI.f (d,t,g,())])
   else(d,[eI.f (d,t,g,())])
  else(d,[]):=by
 simp only[PX,lF,sr]
 cases cc.f (d,())<;>cases aJ.f (t,())<;>cases ak.f (g,())<;>rfl
theorem abc (d:Door)(t:Tupl)(g:Segm)(hs:kX d):BZ.f (d,t,g,())=lF.f (d,t,g,()):=by
 rw[N0]
 simp only[PX,BZ,om,Ma d t g hs,aai,uK,lL,MR,YQ]
 cases(cc.f (d,())&&(aJ.f (t,())&&ak.f (g,())))<;>rfl
theorem tF {W:Type}{f:Int→Unit→Stp Unit W}:∀(k i:Nat),a9 f 1 k (i:Int) ()= .next ()↔∀j:Nat,i≤j→j<i+k→f (j:Int) ()= .next ()
 |0,i=>⟨λ_ j h1 h2=>by omega,λ_=>rfl⟩
 |k+1,i=>by
  constructor
  ·intro h j h1 h2
   simp only[a9]at h
   cases hf:f (i:Int) ()with
   |out w=>rw[hf]at h;cases h
   |next a=>
    rw[hf]at h
    simp only[Stp.elim]at h
    rcases Nat.eq_or_lt_of_le h1 with h3|h3
    ·rw[←h3];exact hf
    ·rw[show(i:Int)+1=((i+1:Nat):Int) by omega]at h
     exact(tF k (i+1)).1 h j h3 (by omega)
  ·intro h
   simp only[a9,h i (Nat.le_refl _) (by omega),Stp.elim]
   rw[show(i:Int)+1=((i+1:Nat):Int) by omega]
   exact(tF k (i+1)).2 λj h1 h2=>h j (by omega) (by omega)
def AN (h:Half):Bool:=aJ.f (h.tuple,())&&(aa.f (h.iss,32,())&&(aa.f (h.irs,32,())&&(aa.f (h.window,16,())&&(az.f (h.opts,())&&(decide (0≤h.age)&&decide (h.age≤6))))))
theorem K4 (xs:List Half)(j:Nat)(y:Half)(hy:xs[j]? =some y):((fy xs (j:Int) ()).nice= .next ())↔(AN y=true∧(xs.take j).any (λh=>lS y.tuple h.tuple)=false):=by
 simp only[PX,fy,ah,getD_some hy,t7,cW,iQ,bK,rH,List.drop_zero,ly,AN]
 cases aJ.f (y.tuple,())<;>cases aa.f (y.iss,32,())<;>cases aa.f (y.irs,32,())<;>cases aa.f (y.window,16,())<;>cases az.f (y.opts,())<;>cases(decide (0≤y.age)&&decide (y.age≤6))<;>cases(xs.take j).any (λh=>lS y.tuple h.tuple)<;>simp
theorem QW (xs:List Half):fE.f (xs,())=true↔(∀(j:Nat) (y:Half),xs[j]? =some y→AN y=true∧(xs.take j).any (λh=>lS y.tuple h.tuple)=false)∧xs.length≤64:=by
 rw[←AG]
 have hT:a9 (λj a=>(fy xs j a).nice) 1 xs.length ((0:Nat):Int) ()= .next ()↔∀(j:Nat) (y:Half),xs[j]? =some y→AN y=true∧(xs.take j).any (λh=>lS y.tuple h.tuple)=false:=by
  rw[tF]
  constructor
  ·intro h j y hy
   exact(K4 xs j y hy).1 (h j (Nat.zero_le _) (by have:=(List.getElem?_eq_some_iff.1 hy).1;omega))
  ·intro h j _ h2
   exact(K4 xs j xs[j] (List.getElem?_eq_getElem (by omega))).2 (h j _ (List.getElem?_eq_getElem (by omega)))
 simp only[PX,n5,d9]
 rw[bp,show(0:Int)=((0:Nat):Int) from rfl,←hT]
 cases a9 (λj a=>(fy xs j a).nice) 1 xs.length ((0:Nat):Int) ()with
 |next a=>simp only[Stp.elim,PX,decide_eq_true_eq,true_and];omega
 |out w=>simp[Stp.elim,PX]
theorem Ve (d:Door)(t:Tupl)(g:Segm):0≤(eI.f (d,t,g,())).seq∧(aJ.f (t,())=true→iD.f (d.keys,())=true→0≤g.seq∧g.seq≤4294967295→(eI.f (d,t,g,())).seq≤4294967295):=by
 have hseq:(eI.f (d,t,g,())).seq=oi.f (d,t,g,()):=by simp only[PX,eI]
 rw[hseq]
 simp only[PX,oi]
 generalize yq.f (g.opts,())=mss
 refine⟨by split<;>omega,λht hk hs=> ?_⟩
 have hi:=QL mss
 have he:=Ci d.keys hk
 have hc:=SW d.keys.now t g.seq d.keys.epoch (jy.f (mss,())) ht hs he hi
 have hr:=NJ d.keys.now (fZ.f (t,g.seq,d.keys.epoch,jy.f (mss,()),()))
 rw[hc];split<;>omega
theorem LH (x:Sndr):bE.f (x,())=true↔SO x:=by
 have h:=bE.c.h (x,()) trivial
 simpa using h
theorem x8 (x:Sndr):gS.f (x,())=cZ.f (x,()):=by simp only[PX,gS,cZ]
theorem UD (x:Sndr):xM.f (x,())=ki.f (x,()):=by simp only[PX,xM,ki,x8,j8]
theorem C6 (c:Conn):kR.f (c,())=cL.f (c,()):=by simp only[PX,kR,cL,UD,rI,bM,bO]
theorem Z5 (c:Conn):Cv.f (c,())=dF.f (c,()):=by
 simp only[PX,Cv,dF,oj,qQ]
 cases(c.opts.mss==0)with
 |true=>rfl
 |false=>
  simp only[cond_false]
  generalize(if 1460<c.opts.mss then(1460:Int)else c.opts.mss)=m
  split<;>split<;>omega
theorem XO (x:Sndr)(y:Chun):l0.f (x,y,())=dC.f (x,y,()):=by
 simp only[PX,l0,dC,uX]
 obtain⟨u,dt,se,fi,fs,dn⟩:=x
 cases fi with
 |true=>simp only[Bool.not_true,cond_false]
 |false=>
  cases hy:y.fin with
  |false=>simp only[cond_false]
  |true=>
   have k1:∀n:Int,bE.f ((⟨u,dt,n,false,true,dn⟩:Sndr),())=false:=by
    intro n
    cases h:bE.f ((⟨u,dt,n,false,true,dn⟩:Sndr),())with
    |false=>rfl
    |true=>
     have:=(LH _).1 h
     have h2:=this.2.2.2.2.2.1 rfl
     exact Bool.noConfusion h2.1
   simp only[k1,Bool.not_false,cond_true]
theorem OU (x:Sndr)(h:SO x):cZ.f (x,())=if x.finSent then x.sent+1 else x.sent:=by
 simp only[PX,cZ]
 have h1:=h.2.2.2.1
 have h2:=h.2.2.2.2.1
 have h3:=h.2.2.1
 cases x.finSent with
 |true=>simp only[cond_true,if_true];rw[ar (by omega) (by omega)]
 |false=>rfl
theorem Vl (l:ac)(S n:Int)(h0:0≤S)(h1:0≤n):(l.take (S+n).toNat).drop S.toNat=(l.drop S.toNat).take n.toNat:=by
 rw[List.drop_take];congr 1;omega
theorem ST (x:Sndr)(w m:Int)(hw:w≤9223372036854775807):pA.f (x,w,m,())=bg.f (x,w,m,()):=by
 simp only[PX,pA,bg,uX,x8,UD,oj,qQ]
 cases h:bE.f (x,())with
 |false=>rfl
 |true=>
 have hs:=(LH x).1 h
 have h1:=hs.2.2.2.1
 have h2:=hs.2.2.2.2.1
 have h3:=hs.2.2.1
 simp only[Bool.not_true,cond_false]
 have hF:x.sent≤cZ.f (x,())∧cZ.f (x,())≤x.sent+1:=by
  rw[OU x hs];split<;>omega
 obtain⟨F,eF⟩:∃F,cZ.f (x,())=F:=⟨_,rfl⟩
 rw[eF]at hF
 simp only[eF]
 generalize ki.f (x,())=q
 rw[ah,List.take_length,List.length_drop]
 rw[ar (m:=(x.data.length:Int)-x.sent) (by omega) (by omega)]
 rw[show((x.data.length-x.sent.toNat:Nat):Int)=(x.data.length:Int)-x.sent by omega]
 obtain⟨c2,e2⟩:∃z:Int,(if w<1000000 then w else 1000000)=z:=⟨_,rfl⟩
 simp only[e2]
 obtain⟨c3,e3⟩:∃z:Int,(if c2<0 then 0 else c2)=z:=⟨_,rfl⟩
 simp only[e3]
 have b3:0≤c3∧c3≤1000000:=by grind
 rw[ar (m:=c3-F) (by omega) (by omega)]
 obtain⟨c5,e5⟩:∃z:Int,(if c3-F<0 then 0 else c3-F)=z:=⟨_,rfl⟩
 simp only[e5]
 obtain⟨W,eW⟩:∃z:Int,(if w< -1 then-1 else w)=z:=⟨_,rfl⟩
 simp only[eW]
 have bW: -1≤W∧W≤9223372036854775807:=by grind
 rw[ar (m:=W-F) (by omega) (by omega)]
 obtain⟨D,eD⟩:∃z:Int,(x.data.length:Int)-x.sent=z:=⟨_,rfl⟩
 simp only[eD]
 obtain⟨c6,e6⟩:∃z:Int,(if m<c5 then m else c5)=z:=⟨_,rfl⟩
 simp only[e6]
 obtain⟨c7,e7⟩:∃z:Int,(if c6<D then c6 else D)=z:=⟨_,rfl⟩
 simp only[e7]
 obtain⟨n,e8⟩:∃z:Int,(if c7<0 then 0 else c7)=z:=⟨_,rfl⟩
 simp only[e8]
 obtain⟨d3,f3⟩:∃z:Int,(if m<D then m else D)=z:=⟨_,rfl⟩
 simp only[f3]
 obtain⟨d4,f4⟩:∃z:Int,(if W-F<d3 then W-F else d3)=z:=⟨_,rfl⟩
 simp only[f4]
 have en:(if 0<d4 then d4 else 0)=n:=by grind
 rw[en]
 have bn:0≤n∧n≤D:=by grind
 have bw:decide (n<W-F)=decide (n<c5):=by
  rw[decide_eq_decide];grind
 rw[bw,ar (m:=x.sent+n) (by omega) (by omega),Vl x.data x.sent n h1 bn.1,List.drop_zero]
 have el:(((x.data.drop x.sent.toNat).take n.toNat)==[])=(n==0):=by
  have hl:((x.data.drop x.sent.toNat).take n.toNat).length=n.toNat:=by rw[List.length_take,List.length_drop];omega
  generalize(x.data.drop x.sent.toNat).take n.toNat=z at*
  cases z with
  |nil=>simp only[List.length_nil]at hl;rw[show n=0 by omega];rfl
  |cons a r=>simp only[List.length_cons]at hl;rw[Bool.eq_iff_iff];simp;omega
 have ed:(x.sent+n==(x.data.length:Int))=(n==D):=by
  rw[Bool.eq_iff_iff];simp only[beq_iff_eq];omega
 rw[el,ed]
theorem E9 {A B W W':Type}[Inhabited W][Inhabited W']{f:A→Stp A W}{g:B→Stp B W'}{R:A→B→Prop}{Q:W→W'→Prop}(hd:Q default default)
  (h:∀a b,R a b→(∃a' b',f a= .next a'∧g b= .next b'∧R a' b')∨(∃w w',f a= .out w∧g b= .out w'∧Q w w')):
  ∀(m:Nat) (a:A) (b:B),R a b→Q (bI f m a) (bI g m b)
 |0,_,_,_=>hd
 |m+1,a,b,hr=>by
  rcases h a b hr with⟨a',b',e1,e2,hr'⟩|⟨w,w',e1,e2,hq⟩
  ·simp only[bI,e1,e2,Stp.elim]
   exact E9 hd h m a' b' hr'
  ·simp only[bI,e1,e2,Stp.elim]
   exact hq
def BS (c:Conn)(l:List Segm):Conn:={c with timer:=if l=[]then c.timer else if c.timer=0 then 3 else c.timer}
theorem L7 (c:Conn):BS c []=c:=by simp[BS]
theorem X8 (c:Conn)(l:List Segm)(g:Segm)(x:Sndr):(bif ((BS c l).timer==0)then({BS c l with s:=x,timer:=3}:Conn)else{BS c l with s:=x})=BS {c with s:=x} (l++[g]):=by
 simp only[BS]
 have h1:¬(l++[g]=[]):=by simp
 rw[if_neg h1]
 by_cases hl:l=[]
 ·rw[if_pos hl]
  by_cases ht:c.timer=0
  ·rw[if_pos ht,show(c.timer==0)=true by simp[ht]];rfl
  ·rw[if_neg ht,show(c.timer==0)=false by simp[ht]];rfl
 ·rw[if_neg hl]
  by_cases ht:c.timer=0
  ·rw[if_pos ht];rfl
  ·rw[if_neg ht,show(c.timer==0)=false by simp[ht]];rfl
theorem acO (c:Conn)(w:Int)(hw:w≤9223372036854775807)(hs:ca c.r.held):mI.f (c,w,())=eG.f (c,w,()):=by
 simp only[PX,mI,eG,nZ,d8,B0 c hs,ko,fT]
 cases(bif !bV.f (c,())then(true,())else bif (c.state==8)then(true,())else((c.state==7),())).1 with
 |true=>rfl
 |false=>
 simp only[cond_false]
 have key:=E9 (f:=λa=>(sP w a).nice) (g:=λa=>(cd w a).nice) (R:=λa b=>a.1=BS b.2.1 b.2.2∧a.2.2=b.2.2) (Q:=λp q=>p.1=BS q.2.1 q.2.2∧p.2=q.2.2) ⟨(L7 _).symm,rfl⟩ (by
  rintro⟨a1,a2,al⟩ ⟨b1,b2,bl⟩ ⟨h1,h2⟩
  simp only[]at h1 h2
  subst h1;subst h2
  have hm:dF.f (BS b2 al,())=dF.f (b2,()):=rfl
  have ha:cL.f (BS b2 al,())=cL.f (b2,()):=rfl
  have hx:(BS b2 al).s=b2.s:=rfl
  simp only[PX,sP,cd,Z5,ST _ _ _ hw,C6,XO,hm,ha,hx]
  obtain⟨z,hz⟩:∃z,bg.f (b2.s,w,dF.f (b2,()),())=z:=⟨_,rfl⟩
  simp only[hz]
  obtain⟨g,hg⟩:∃g,cL.f (b2,())=g:=⟨_,rfl⟩
  simp only[hg]
  obtain⟨x,hx2⟩:∃x,dC.f (b2.s,z.1,())=x:=⟨_,rfl⟩
  simp only[hx2]
  cases z.2 with
  |false=>exact .inr ⟨_,_,rfl,rfl,rfl,rfl⟩
  |true=>
   have hf:∀g':Segm,_:=λg'=>X8 b2 al g' x
   cases ht:((BS b2 al).timer==0)<;>rw[ht]at hf<;>simp only[cond_true,cond_false]at hf<;>cases(z.1.text==[])<;>cases z.1.fin<;>exact .inl ⟨_,_,rfl,rfl,hf _,rfl⟩) (H2 c.s+1) (c,⟨⟨0,0,0⟩,0,⟨0,[],0,false,false,false⟩,⟨0,[],[],0,false⟩,0,0,⟨0,0,false,false,0,0⟩,0,0⟩,[]) (⟨⟨0,0,0⟩,0,⟨0,[],0,false,false,false⟩,⟨0,[],[],0,false⟩,0,0,⟨0,0,false,false,0,0⟩,0,0⟩,c,[]) ⟨(L7 c).symm,rfl⟩
 obtain⟨p,hp⟩:∃p,bI (λa=>(sP w a).nice) (H2 c.s+1) (c,⟨⟨0,0,0⟩,0,⟨0,[],0,false,false,false⟩,⟨0,[],[],0,false⟩,0,0,⟨0,0,false,false,0,0⟩,0,0⟩,[])=p:=⟨_,rfl⟩
 obtain⟨q,hq⟩:∃q,bI (λa=>(cd w a).nice) (H2 c.s+1) (⟨⟨0,0,0⟩,0,⟨0,[],0,false,false,false⟩,⟨0,[],[],0,false⟩,0,0,⟨0,0,false,false,0,0⟩,0,0⟩,c,[])=q:=⟨_,rfl⟩
 rw[hp,hq]at key
 simp only[hp,hq]
 obtain⟨p1,p2⟩:=p
 obtain⟨q1,q2,q3⟩:=q
 obtain⟨k1,k2⟩:=key
 simp only[]at k1 k2
 subst k1;subst k2
 cases p2 with
 |nil=>simp only[PX,L7,List.length_nil];rfl
 |cons g r=>
  simp only[PX,decide_eq_true (show 0<((g::r).length:Int) by simp only[List.length_cons];omega),cond_true,BS,if_neg (show¬(g::r=[]) by simp)]
  by_cases ht:q2.timer=0
  ·simp only[ht,if_true,beq_self_eq_true,cond_true]
  ·simp only[if_neg ht,show(q2.timer==0)=false by simp[ht],cond_false]
def kst (k:Int)(sf sd rd:Bool):Bool:=bif k==8 then true else(sf== !(k==1||k==4))&&((sd==(k==3||k==7))&&(rd==(k==4||decide (5≤k))))
theorem Kk (x:Conn):bV.f (x,())=(aJ.f (x.tuple,())&&(bE.f (x.s,())&&(bP.f (x.r,())&&(az.f (x.opts,())&&((decide (1≤x.state)&&decide (x.state≤8))&&((decide (0≤x.most)&&decide (x.most≤1073725440))&&((decide (0≤x.window)&&decide (x.window≤x.most))&&((decide (0≤x.timer)&&bif x.state==7 then decide (x.timer≤4)else decide (x.timer≤3))&&((decide (0≤x.tries)&&decide (x.tries≤3))&&kst x.state x.s.fin x.s.done x.r.done))))))))):=by
 simp only[PX,bV,aw]
 cases aJ.f (x.tuple,())with
 |false=>rfl
 |true=>
 cases bE.f (x.s,())with
 |false=>rfl
 |true=>
 cases bP.f (x.r,())with
 |false=>rfl
 |true=>
 cases az.f (x.opts,())with
 |false=>rfl
 |true=>
 simp only[Bool.not_true,cond_false,Bool.true_and]
 have ej:∀b:Bool,(bif b then(false,(4:Int),x,())else(false,3,x,()))=(false,(bif b then 4 else 3),x,()):=λb=>by cases b<;>rfl
 have et:∀b:Bool,decide (x.timer≤bif b then 4 else 3)=bif b then decide (x.timer≤4)else decide (x.timer≤3):=λb=>by cases b<;>rfl
 simp only[ej,et]
 generalize(decide (0≤x.window)&&decide (x.window≤x.most))=W
 generalize(decide (0≤x.most)&&decide (x.most≤1073725440))=N
 generalize(decide (0≤x.tries)&&decide (x.tries≤3))=T
 generalize decide (0≤x.timer)=T0
 generalize decide (x.timer≤4)=T4
 generalize decide (x.timer≤3)=T3
 generalize x.s.fin=sf
 generalize x.s.done=sd
 generalize x.r.done=rd
 generalize x.state=k
 have hk:k=1∨k=2∨k=3∨k=4∨k=5∨k=6∨k=7∨k=8∨(decide (1≤k)&&decide (k≤8))=false:=by
  simp only[Bool.and_eq_false_iff,decide_eq_false_iff_not];omega
 rcases hk with rfl|rfl|rfl|rfl|rfl|rfl|rfl|rfl|hk
 iterate 8 (revert W N T T0 T4 T3 sf sd rd;decide+kernel)
 simp only[hk];rfl
structure CO (x:Conn):Prop where
 tup:aJ.f (x.tuple,())=true
 snd:SO x.s
 rcv:bP.f (x.r,())=true
 opt:az.f (x.opts,())=true
 s1:1≤x.state
 s8:x.state≤8
 m0:0≤x.most
 m1:x.most≤1073725440
 w0:0≤x.window
 w1:x.window≤x.most
 t0:0≤x.timer
 t4:x.timer≤4
 t3:x.state≠7→x.timer≤3
 r0:0≤x.tries
 r3:x.tries≤3
 fl:kst x.state x.s.fin x.s.done x.r.done=true
theorem Mn (x:Conn):bV.f (x,())=true↔CO x:=by
 rw[Kk]
 simp only[Bool.and_eq_true,decide_eq_true_eq,LH]
 have et:(bif x.state==7 then decide (x.timer≤4)else decide (x.timer≤3))=true↔x.timer≤4∧(x.state≠7→x.timer≤3):=by
  by_cases h:x.state=7
  ·simp[h]
  ·have h2:(x.state==7)=false:=by simpa using h
   simp only[h2,cond_false,decide_eq_true_eq]
   exact⟨λh3=>⟨by omega,λ_=>h3⟩,λh3=>h3.2 h⟩
 rw[et]
 constructor
 ·rintro⟨h1,h2,h3,h4,⟨h5,h6⟩,⟨h7,h8⟩,⟨h9,h10⟩,⟨h11,h12,h13⟩,⟨h14,h15⟩,h16⟩
  exact⟨h1,h2,h3,h4,h5,h6,h7,h8,h9,h10,h11,h12,h13,h14,h15,h16⟩
 ·rintro⟨h1,h2,h3,h4,h5,h6,h7,h8,h9,h10,h11,h12,h13,h14,h15,h16⟩
  exact⟨h1,h2,h3,h4,⟨h5,h6⟩,⟨h7,h8⟩,⟨h9,h10⟩,⟨h11,h12,h13⟩,⟨h14,h15⟩,h16⟩
structure Sent (c d:Conn):Prop where
 so:SO d.s
 s1:d.s.data=c.s.data
 s2:d.s.fin=c.s.fin
 s3:d.s.done=c.s.done
 s4:d.s.una=c.s.una
 tm:d.timer=c.timer∨d.timer=3
 re:d={c with s:=d.s,timer:=d.timer}
theorem Sent.refl (c:Conn)(h:SO c.s):Sent c c:=⟨h,rfl,rfl,rfl,rfl,.inl rfl,rfl⟩
theorem Sent.ok {c d:Conn}(h:Sent c d)(hc:CO c)(ht:d.timer≤3∨d.timer=c.timer):CO d:=by
 obtain⟨so,s1,s2,s3,s4,tm,re⟩:=h
 obtain⟨t,st,s,r,w,m,o,ti,tr⟩:=c
 obtain⟨t',st',s',r',w',m',o',ti',tr'⟩:=d
 simp only[Conn.mk.injEq]at re
 obtain⟨rfl,rfl,-,rfl,rfl,rfl,rfl,-,rfl⟩:=re
 simp only[]at*
 refine⟨hc.tup,so,hc.rcv,hc.opt,hc.s1,hc.s8,hc.m0,hc.m1,hc.w0,hc.w1, ?_, ?_, ?_,hc.r0,hc.r3, ?_⟩
 ·have:=hc.t0;simp only[]at*;omega
 ·have:=hc.t4;simp only[]at*;omega
 ·intro h7;have:=hc.t3 h7;simp only[]at*;omega
 ·have:=hc.fl;simp only[]at*;rw[s2,s3];exact this
theorem Kg {x:Sndr}(h:SO x):cf x:=by
 have:=h.2.2.1
 unfold cf;grind
theorem Qa (x:Sndr)(w m:Int)(y:Chun)(hy:(bg.f (x,w,m,()))=(y,true))(hx:SO x):SO (dC.f (x,y,()))∧(dC.f (x,y,())).data=x.data∧(dC.f (x,y,())).fin=x.fin∧(dC.f (x,y,())).done=x.done∧(dC.f (x,y,())).una=x.una∧H2 (dC.f (x,y,()))<H2 x:=by
 have h1:=bg.c.h (x,w,m,()) (Kg hx)
 change qn (bg.f (x,w,m,())).1∧((bg.f (x,w,m,())).2=true→_)at h1
 have e1:(bg.f (x,w,m,())).1=y:=by rw[hy]
 have e2:(bg.f (x,w,m,())).2=true:=by rw[hy]
 obtain⟨h2,h3⟩:=h1
 obtain⟨-,h4,h5,h6,h7⟩:=h3 e2
 simp only[e1]at h2 h4 h5 h6 h7
 clear e1 e2
 have h8:=(dC.c.h (x,y,()) ⟨Kg hx,h2⟩).2 hx h4 h5 h7
 change dC.f (x,y,())=_ at h8
 rw[h8]
 obtain⟨e1,e2,e3,e4,e5,e6,e7⟩:=hx
 refine⟨⟨e1,e2,e3, ?_, ?_, ?_, ?_⟩,rfl,rfl,rfl,rfl, ?_⟩
 ·show 0≤x.sent+(y.text.length:Int);omega
 ·show x.sent+(y.text.length:Int)≤(x.data.length:Int);omega
 ·intro hf;exact⟨(h7 hf).1,(h7 hf).2.2⟩
 ·intro hd
  refine⟨(e7 hd).1, ?_,(e7 hd).2.2⟩
  show y.fin=false
  cases hf:y.fin with
  |false=>rfl
  |true=>have:=(h7 hf).2.1;rw[this]at hd;cases hd
 ·show((x.data.length:Int)-(x.sent+(y.text.length:Int))).toNat+(if y.fin=true then 0 else 1)<((x.data.length:Int)-x.sent).toNat+(if x.finSent=true then 0 else 1)
  rw[h5]
  simp only[Bool.false_eq_true,if_false]
  have hl:y.text=[]∨0<y.text.length:=by cases y.text<;>simp
  rcases hl with hl|hl
  ·rw[h6 hl];simp only[if_true];omega
  ·split<;>omega
theorem qq (w:Int)(c:Conn)(a:Conn×Conn×List Segm)(h:Sent c a.2.1):(∃l,(cd w a).nice= .out (({a.1 with r.held:=[]}:Conn),a.2.1,l))∨(∃a',(cd w a).nice= .next a'∧Sent c a'.2.1∧H2 a'.2.1.s<H2 a.2.1.s):=by
 obtain⟨a1,a2,al⟩:=a
 simp only[]at h
 simp only[PX,cd]
 obtain⟨z,hz⟩:∃z,bg.f (a2.s,w,dF.f (a2,()),())=z:=⟨_,rfl⟩
 simp only[hz]
 obtain⟨y,b⟩:=z
 cases b with
 |false=>exact .inl ⟨_,rfl⟩
 |true=>
  obtain⟨k1,k2,k3,k4,k5,k6⟩:=Qa a2.s w _ y hz h.so
  obtain⟨x,hx⟩:∃x,dC.f (a2.s,y,())=x:=⟨_,rfl⟩
  rw[hx]at k1 k2 k3 k4 k5 k6
  simp only[hx]
  have hs:Sent c ({a2 with s:=x}:Conn):=by
   obtain⟨so,s1,s2,s3,s4,tm,re⟩:=h
   refine⟨k1,k2.trans s1,k3.trans s2,k4.trans s3,k5.trans s4,tm, ?_⟩
   rw[re]
  cases(y.text==[])<;>cases y.fin<;>exact .inr ⟨_,rfl,hs,k6⟩
theorem Ym (c:Conn)(w:Int)(hc:SO c.s):Sent c (eG.f (c,w,())).1:=by
 simp only[PX,eG,d8,fT]
 cases(bif !bV.f (c,())then(true,())else bif (c.state==8)then(true,())else((c.state==7),())).1 with
 |true=>exact Sent.refl c hc
 |false=>
 simp only[cond_false]
 have key:=rV (f:=λa=>(cd w a).nice) (Inv:=λa=>Sent c a.2.1) (Q:=λp=>Sent c p.2.1) (meas:=λa=>H2 a.2.1.s) (λa hi a' he=>by
  rcases qq w c a hi with⟨l,e⟩|⟨a2,e,h1,h2⟩
  ·simp only[e]at he;cases he
  ·simp only[e,Stp.next.injEq]at he;subst he;exact⟨h1,h2⟩) (λa hi p he=>by
  rcases qq w c a hi with⟨l,e⟩|⟨a2,e,h1,h2⟩
  ·simp only[e,Stp.out.injEq]at he;subst he;exact hi
  ·simp only[e]at he;cases he) (H2 c.s+1) (⟨⟨0,0,0⟩,0,⟨0,[],0,false,false,false⟩,⟨0,[],[],0,false⟩,0,0,⟨0,0,false,false,0,0⟩,0,0⟩,c,[]) (Nat.lt_succ_self _) (Sent.refl c hc)
 obtain⟨q,hq⟩:∃q,bI (λa=>(cd w a).nice) (H2 c.s+1) (⟨⟨0,0,0⟩,0,⟨0,[],0,false,false,false⟩,⟨0,[],[],0,false⟩,0,0,⟨0,0,false,false,0,0⟩,0,0⟩,c,[])=q:=⟨_,rfl⟩
 rw[hq]at key
 simp only[hq]
 obtain⟨q1,q2,q3⟩:=q
 simp only[]at key⊢
 cases(bif decide (0<(q3.length:Int))then((q2.timer==0),())else(false,())).1 with
 |false=>exact key
 |true=>
  obtain⟨so,s1,s2,s3,s4,tm,re⟩:=key
  refine⟨so,s1,s2,s3,s4,.inr rfl, ?_⟩
  exact congrArg (λd:Conn=>({d with timer:=3}:Conn)) re
theorem B2 (a b:Tupl):lS a b=true↔a=b:=by
 obtain⟨a1,a2,a3⟩:=a
 obtain⟨b1,b2,b3⟩:=b
 simp only[lS,Bool.and_true,Bool.and_eq_true,beq_iff_eq,Tupl.mk.injEq]
 constructor<;>rintro⟨rfl,rfl,rfl⟩<;>exact⟨rfl,rfl,rfl⟩
theorem Da {T:Type}(f:T→Tupl)(xs:List T)(t:Tupl):xs.any (λh=>lS t (f h))=true↔t∈xs.map f:=by
 simp only[List.any_eq_true,List.mem_map,B2]
 constructor
 ·rintro⟨x,h1,h2⟩;exact⟨x,h1,h2.symm⟩
 ·rintro⟨x,h1,h2⟩;exact⟨x,h1,h2.symm⟩
theorem yU {T:Type}(f:T→Tupl)(xs:List T):(∀(j:Nat) (y:T),xs[j]? =some y→(xs.take j).any (λh=>lS (f y) (f h))=false)↔(xs.map f).Nodup:=by
 unfold List.Nodup
 rw[List.pairwise_iff_getElem]
 constructor
 ·intro h i j hi hj hij he
  rw[List.length_map]at hi hj
  simp only[List.getElem_map]at he
  have:=h j xs[j] (List.getElem?_eq_getElem hj)
  rw[List.any_eq_false]at this
  refine this xs[i] ?_ ((B2 _ _).2 he.symm)
  rw[List.mem_take_iff_getElem]
  exact⟨i,by omega,rfl⟩
 ·intro h j y hy
  rw[List.any_eq_false]
  intro z hz he
  rw[List.mem_take_iff_getElem]at hz
  obtain⟨i,hi,rfl⟩:=hz
  obtain⟨hj,rfl⟩:=List.getElem?_eq_some_iff.1 hy
  have:=h i j (by rw[List.length_map];omega) (by rw[List.length_map];exact hj) (by omega)
  simp only[List.getElem_map]at this
  exact this ((B2 _ _).1 he).symm
structure LO (l:Limi):Prop where
 h1:1≤l.halves
 h2:l.halves≤64
 w1:1≤l.waiting
 w2:l.waiting≤16
 c1:1≤l.conns
 c2:l.conns≤16
 k0:0≤l.chal
 k1:l.chal≤1000
theorem acM (l:Limi):gz.f (l,())=true↔LO l:=by
 simp only[PX,gz,aw]
 have e:(bif decide (1≤l.halves)&&decide (l.halves≤64)then bif decide (1≤l.waiting)&&decide (l.waiting≤16)then bif decide (1≤l.conns)&&decide (l.conns≤16)then decide (0≤l.chal)&&decide (l.chal≤1000)else false else false else false)=((decide (1≤l.halves)&&decide (l.halves≤64))&&((decide (1≤l.waiting)&&decide (l.waiting≤16))&&((decide (1≤l.conns)&&decide (l.conns≤16))&&(decide (0≤l.chal)&&decide (l.chal≤1000))))):=by
  cases(decide (1≤l.halves)&&decide (l.halves≤64))<;>cases(decide (1≤l.waiting)&&decide (l.waiting≤16))<;>cases(decide (1≤l.conns)&&decide (l.conns≤16))<;>simp
 rw[e]
 simp only[Bool.and_eq_true,decide_eq_true_eq]
 constructor
 ·rintro⟨⟨h1,h2⟩,⟨h3,h4⟩,⟨h5,h6⟩,h7,h8⟩;exact⟨h1,h2,h3,h4,h5,h6,h7,h8⟩
 ·rintro⟨h1,h2,h3,h4,h5,h6,h7,h8⟩;exact⟨⟨h1,h2⟩,⟨h3,h4⟩,⟨h5,h6⟩,h7,h8⟩
structure TO (t:Tabl)(l:Limi):Prop where
 lim:LO l
 nc:(t.conns.length:Int)≤l.conns
 nw:(t.waiting.length:Int)≤l.waiting
 co:∀c∈t.conns,CO c
 dc:(t.conns.map Conn.tuple).Nodup
 dw:t.waiting.Nodup
 wc:∀w∈t.waiting,w∈t.conns.map Conn.tuple
theorem vp {T:Type}{P:T→Prop}{xs:List T}:(∀(j:Nat) (y:T),xs[j]? =some y→P y)↔∀y∈xs,P y:=by
 constructor
 ·intro h y hy
  obtain⟨j,hj,rfl⟩:=List.getElem_of_mem hy
  exact h j _ (List.getElem?_eq_getElem hj)
 ·intro h j y hy;exact h y (Ap hy)
theorem L4 {T W:Type}{f:Int→Unit→Stp Unit W}(xs:List T){P:Nat→T→Prop}(h:∀(j:Nat) (y:T),xs[j]? =some y→(f (j:Int) ()= .next ()↔P j y)):a9 f 1 (Int.toNat ((xs.length:Int)-0)) 0 ()= .next ()↔∀(j:Nat) (y:T),xs[j]? =some y→P j y:=by
 rw[bp,show(0:Int)=((0:Nat):Int) from rfl,tF]
 constructor
 ·intro h1 j y hy
  exact(h j y hy).1 (h1 j (Nat.zero_le _) (by have:=(List.getElem?_eq_some_iff.1 hy).1;omega))
 ·intro h1 j _ h2
  exact(h j xs[j] (List.getElem?_eq_getElem (by omega))).2 (h1 j _ (List.getElem?_eq_getElem (by omega)))
theorem WG (t:Tabl)(l:Limi):dE.f (t,l,())=true↔TO t l:=by
 have f1:=L4 t.conns (f:=λj a=>(eX t.conns t j a).nice) (P:=λj y=>CO y∧(t.conns.take j).any (λh=>lS y.tuple h.tuple)=false) (λj y hy=>by
  simp only[PX,eX,ah,getD_some hy,gf]
  rw[C0 (λh:Conn=>lS y.tuple h.tuple) t.conns j y hy (xr _),←Mn]
  cases bV.f (y,())<;>cases(t.conns.take j).any (λh=>lS y.tuple h.tuple)<;>simp)
 have f2:=L4 t.waiting (f:=λj a=>(eP t.waiting t j a).nice) (P:=λj y=>y∈t.conns.map Conn.tuple∧(t.waiting.take j).any (λh=>lS y h)=false) (λj y hy=>by
  simp only[PX,eP,ah,getD_some hy,gf,vK,abD]
  rw[C0 (lS y) t.waiting j y hy (xr _),←Da]
  cases t.conns.any (λh=>lS y h.tuple)<;>cases(t.waiting.take j).any (λh=>lS y h)<;>simp)
 have f3:=yU Conn.tuple t.conns
 have f4:=yU (λx=>x) t.waiting
 rw[List.map_id']at f4
 have f5:a9 (λj a=>(eX t.conns t j a).nice) 1 (Int.toNat ((t.conns.length:Int)-0)) 0 ()= .next ()↔(∀c∈t.conns,CO c)∧(t.conns.map Conn.tuple).Nodup:=by
  rw[f1,←f3,←vp]
  exact⟨λh=>⟨λj y hy=>(h j y hy).1,λj y hy=>(h j y hy).2⟩,λh j y hy=>⟨h.1 j y hy,h.2 j y hy⟩⟩
 have f6:a9 (λj a=>(eP t.waiting t j a).nice) 1 (Int.toNat ((t.waiting.length:Int)-0)) 0 ()= .next ()↔(∀w∈t.waiting,w∈t.conns.map Conn.tuple)∧t.waiting.Nodup:=by
  rw[f2,←f4,←vp]
  exact⟨λh=>⟨λj y hy=>(h j y hy).1,λj y hy=>(h j y hy).2⟩,λh j y hy=>⟨h.1 j y hy,h.2 j y hy⟩⟩
 have e:dE.f (t,l,())=true↔gz.f (l,())=true∧(t.conns.length:Int)≤l.conns∧(t.waiting.length:Int)≤l.waiting∧a9 (λj a=>(eX t.conns t j a).nice) 1 (Int.toNat ((t.conns.length:Int)-0)) 0 ()= .next ()∧a9 (λj a=>(eP t.waiting t j a).nice) 1 (Int.toNat ((t.waiting.length:Int)-0)) 0 ()= .next ():=by
  simp only[PX,dE,eJ,eU]
  rw[show((t.conns.length:Int)≤l.conns)↔decide (l.conns<(t.conns.length:Int))=false by simp,show((t.waiting.length:Int)≤l.waiting)↔decide (l.waiting<(t.waiting.length:Int))=false by simp]
  cases gz.f (l,())<;>cases decide (l.conns<(t.conns.length:Int))<;>cases decide (l.waiting<(t.waiting.length:Int))<;>cases a9 (λj a=>(eX t.conns t j a).nice) 1 (Int.toNat ((t.conns.length:Int)-0)) 0 ()<;>cases a9 (λj a=>(eP t.waiting t j a).nice) 1 (Int.toNat ((t.waiting.length:Int)-0)) 0 ()<;>simp[Stp.elim]
 rw[e,acM,f5,f6]
 constructor
 ·rintro⟨h1,h2,h3,⟨h4,h5⟩,h6,h7⟩;exact⟨h1,h2,h3,h4,h5,h7,h6⟩
 ·rintro⟨h1,h2,h3,h4,h5,h7,h6⟩;exact⟨h1,h2,h3,⟨h4,h5⟩,h6,h7⟩
structure HO (xs:List Half):Prop where
 ok:∀h∈xs,AN h=true
 nd:(xs.map Half.tuple).Nodup
 len:xs.length≤64
theorem ZX (xs:List Half):fE.f (xs,())=true↔HO xs:=by
 rw[QW]
 have f3:=yU Half.tuple xs
 constructor
 ·rintro⟨h1,h2⟩
  exact⟨vp.1 λj y hy=>(h1 j y hy).1,f3.1 λj y hy=>(h1 j y hy).2,h2⟩
 ·rintro⟨h1,h2,h3⟩
  exact⟨λj y hy=>⟨h1 y (Ap hy),f3.2 h2 j y hy⟩,h3⟩
structure DO (d:Door):Prop where
 port:aa.f (d.port,16,())=true
 c0:0≤d.clock
 c1:d.clock≤4294967295
 keys:iD.f (d.keys,())=true
 tab:TO d.table d.limits
 hal:HO d.halves
 nh:(d.halves.length:Int)≤d.limits.halves
 k0:0≤d.chal
 k1:d.chal≤d.limits.chal
 ap:∀h∈d.halves,h.tuple∉d.table.conns.map Conn.tuple
theorem uP (d:Door):cc.f (d,())=true↔DO d:=by
 have e:cc.f (d,())=true↔aa.f (d.port,16,())=true∧aa.f (d.clock,32,())=true∧iD.f (d.keys,())=true∧dE.f (d.table,d.limits,())=true∧fE.f (d.halves,())=true∧(d.halves.length:Int)≤d.limits.halves∧(decide (0≤d.chal)&&decide (d.chal≤d.limits.chal))=true∧(d.halves.any (λh=>decide (0≤aK.f (d.table,h.tuple,()))))=false:=by
  simp only[PX,cc,La,aw]
  rw[show((d.halves.length:Int)≤d.limits.halves)↔decide (d.limits.halves<(d.halves.length:Int))=false by simp]
  generalize(decide (0≤d.chal)&&decide (d.chal≤d.limits.chal))=b1
  generalize decide (d.limits.halves<(d.halves.length:Int))=b2
  generalize(d.halves.any (λh=>decide (0≤aK.f (d.table,h.tuple,()))))=b3
  cases aa.f (d.port,16,())<;>cases aa.f (d.clock,32,())<;>cases iD.f (d.keys,())<;>cases dE.f (d.table,d.limits,())<;>cases fE.f (d.halves,())<;>cases b1<;>cases b2<;>cases b3<;>simp
 rw[e,WG,ZX,bz]
 simp only[Bool.and_eq_true,decide_eq_true_eq,gf,ly]
 have f:(d.halves.any λh=>d.table.conns.any λc=>lS h.tuple c.tuple)=false↔∀h∈d.halves,h.tuple∉d.table.conns.map Conn.tuple:=by
  rw[List.any_eq_false]
  constructor
  ·intro h x hx hm;exact h x hx ((Da Conn.tuple _ _).2 hm)
  ·intro h x hx hm;exact h x hx ((Da Conn.tuple _ _).1 hm)
 rw[f]
 constructor
 ·rintro⟨h1,⟨h2,h2'⟩,h3,h4,h5,h6,⟨h7,h8⟩,h9⟩;exact⟨h1,h2,h2',h3,h4,h5,h6,h7,h8,h9⟩
 ·rintro⟨h1,h2,h2',h3,h4,h5,h6,h7,h8,h9⟩;exact⟨h1,⟨h2,h2'⟩,h3,h4,h5,h6,⟨h7,h8⟩,h9⟩
def pB (x:Recv):Int:=if x.done=true then 0 else 32-(x.data.length:Int)
theorem pT (x:Recv)(h:x.data.length≤32):0≤pB x∧pB x≤32:=by unfold pB;split<;>omega
structure RV (x:Recv):Prop where
 n0:0≤x.next
 n1:x.next≤4294967295
 dl:x.data.length≤32
 hl:x.held.length≤3
 f0: -1≤x.fin
 f1:x.fin≤pB x
 fz:x.fin≠0
 wk:∃b,fe (if x.fin= -1 then pB x else x.fin) 0 x.held=some b
 dn:x.done=true→x.held=[]∧x.fin= -1
theorem iU (x:Recv)(h:x.data.length≤32):ce.f (x,())=pB x:=by
 simp only[PX,ce]
 unfold pB
 rw[ar (by omega) (by omega)]
 cases x.done with
 |true=>rfl
 |false=>simp only[cond_false,Bool.false_eq_true,if_false];split<;>omega
theorem rD (x:Recv)(hs:ca x.held):bP.f (x,())=true↔RV x:=by
 simp only[PX,bP,cV,bz]
 by_cases hn:0≤x.next∧x.next≤4294967295
 ·rw[decide_eq_true hn.1,decide_eq_true hn.2]
  by_cases hd:32<(x.data.length:Int)
  ·rw[decide_eq_true hd]
   exact⟨λh=>(by cases h),λh=>by have:=h.dl;omega⟩
  ·rw[decide_eq_false hd,iU x (by omega)]
   have hw:=pT x (by omega)
   simp only[Bool.and_self,Bool.not_true,cond_false]
   by_cases hl:3<(x.held.length:Int)
   ·rw[decide_eq_true hl]
    exact⟨λh=>(by cases h),λh=>by have:=h.hl;omega⟩
   ·rw[decide_eq_false hl,aw]
    simp only[cond_false]
    by_cases hf: -1≤x.fin∧x.fin≤pB x
    ·rw[decide_eq_true hf.1,decide_eq_true hf.2]
     simp only[Bool.and_self,Bool.not_true,cond_false]
     by_cases h0:x.fin=0
     ·rw[show(x.fin==0)=true by simp[h0]]
      exact⟨λh=>(by cases h),λh=>absurd h0 h.fz⟩
     ·rw[show(x.fin==0)=false by simp[h0]]
      simp only[cond_false]
      have ed:(bif !x.done then true else bif ((x.held.length:Int)==0)then(x.fin== -1)else false)=true↔(x.done=true→x.held=[]∧x.fin= -1):=by
       cases x.done with
       |false=>simp
       |true=>
        cases hh:x.held with
        |nil=>simp
        |cons p r=>
         have:(((p::r).length:Int)==0)=false:=by
          rw[beq_eq_false_iff_ne];simp only[List.length_cons];omega
         rw[this];simp
      have k2:=W6 x (if x.fin= -1 then pB x else x.fin) (by split<;>omega) (by split<;>omega) hs
      have fin:∀L:Int,L=(if x.fin= -1 then pB x else x.fin)→(Stp.elim (λ_=>bif !x.done then true else bif ((x.held.length:Int)==0)then(x.fin== -1)else false) (λ_=>false) (a9 (λj a=>(dX L x.held j a).nice) 1 (Int.toNat ((x.held.length:Int)-0)) 0 0)=true↔RV x):=by
       intro L hL
       rw[hL]
       cases hp:fe (if x.fin= -1 then pB x else x.fin) 0 x.held with
       |some b=>
        rw[hp]at k2;simp only[]at k2
        rw[k2]
        simp only[Stp.elim]
        rw[ed]
        exact⟨λh=>⟨hn.1,hn.2,by omega,by omega,hf.1,hf.2,h0,⟨b,hp⟩,h⟩,λh=>h.dn⟩
       |none=>
        rw[hp]at k2;obtain⟨w,k2⟩:=k2
        rw[k2]
        simp only[Stp.elim]
        refine⟨λh=>(by cases h),λh=> ?_⟩
        obtain⟨b,hb⟩:=h.wk
        rw[hp]at hb;cases hb
      by_cases h1:x.fin= -1
      ·rw[show(x.fin != -1)=false by simp[h1]]
       exact fin (pB x) (by rw[if_pos h1])
      ·rw[show(x.fin != -1)=true by simp[h1]]
       exact fin x.fin (by rw[if_neg h1])
    ·have:(decide (-1≤x.fin)&&decide (x.fin≤pB x))=false:=by
      rw[Bool.and_eq_false_iff];simp only[decide_eq_false_iff_not];omega
     rw[this]
     exact⟨λh=>(by cases h),λh=>absurd ⟨h.f0,h.f1⟩ hf⟩
 ·have:(decide (0≤x.next)&&decide (x.next≤4294967295))=false:=by
   rw[Bool.and_eq_false_iff];simp only[decide_eq_false_iff_not];omega
  rw[this]
  exact⟨λh=>(by cases h),λh=>absurd ⟨h.n0,h.n1⟩ hn⟩
theorem CO.set {c:Conn}(h:CO c)(k t r:Int)(hk:k=c.state∨k=8)(t0:0≤t)(t4:t≤4)(t3:k≠7→t≤3)(r0:0≤r)(r3:r≤3):CO ({c with state:=k,timer:=t,tries:=r}:Conn):=by
 have h1:=h.s1
 have h8:=h.s8
 refine⟨h.tup,h.snd,h.rcv,h.opt, ?_, ?_,h.m0,h.m1,h.w0,h.w1,t0,t4,t3,r0,r3, ?_⟩
 ·show 1≤k;omega
 ·show k≤8;omega
 ·show kst k c.s.fin c.s.done c.r.done=true
  rcases hk with rfl|rfl
  ·exact h.fl
  ·rfl
def rU (p:Piec):Int:=p.off+(p.text.length:Int)
def Nf:List Piec→Int→List Int→List Piec
 |out,_,[]=>out
 |out,i,s::r=>if s<0 then Nf out (i+1) r else
  match out.getLast? with
  |none=>Nf (out++[⟨i,av [s]⟩]) (i+1) r
  |some p=>if rU p=i then Nf (out.dropLast++[⟨p.off,p.text++av [s]⟩]) (i+1) r else Nf (out++[⟨i,av [s]⟩]) (i+1) r
def cA:Nat→Int→List Int→List Piec
 |_,_,[]=>[]
 |0,_,_::_=>[]
 |k+1,i,s::r=>if s<0 then cA k (i+1) r else
  ⟨i,av (s::r.takeWhile (λx=>decide (0≤x)))⟩::cA k (i+1+((r.takeWhile (λx=>decide (0≤x))).length:Int)) (r.dropWhile (λx=>decide (0≤x)))
theorem FQ (a b:List Int):av (a++b)=av a++av b:=by simp[av]
theorem Xb (out:List Piec)(o:Int)(x:ac):∀(t r:List Int) (x:ac),(∀s∈t,0≤s)→Nf (out++[⟨o,x⟩]) (o+(x.length:Int)) (t++r)=Nf (out++[⟨o,x++av t⟩]) (o+(x.length:Int)+(t.length:Int)) r
 |[],r,x,_=>by simp[av]
 |s::t,r,x,h=>by
  have hs:¬s<0:=by have:=h s (List.mem_cons_self ..);omega
  have ih:=Xb out o x t r (x++av [s]) (λy hy=>h y (List.mem_cons_of_mem _ hy))
  simp only[List.cons_append,Nf,if_neg hs,List.getLast?_append,List.getLast?_singleton,Option.some_or,rU,if_true,List.dropLast_concat]
  have e:o+(x.length:Int)+1=o+((x++av [s]).length:Int):=by rw[List.length_append,br];simp;omega
  rw[e,ih]
  rw[List.append_assoc,←FQ]
  congr 1
  rw[List.length_append,br];simp;omega
theorem JS:∀(k:Nat) (out:List Piec) (i:Int) (r:List Int),r.length≤k→(∀p,out.getLast? =some p→rU p<i)→Nf out i r=out++cA k i r
 |_,out,i,[],_,_=>by simp[Nf,cA]
 |0,_,_,_::_,h,_=>by simp at h
 |k+1,out,i,s::r,h,hl=>by
  simp only[List.length_cons]at h
  by_cases hs:s<0
  ·simp only[Nf,cA,if_pos hs]
   exact JS k out (i+1) r (by omega) (λp hp=>by have:=hl p hp;omega)
  ·have e0:Nf out i (s::r)=Nf (out++[⟨i,av [s]⟩]) (i+1) r:=by
    simp only[Nf,if_neg hs]
    cases hg:out.getLast? with
    |none=>rfl
    |some p=>simp only[if_neg (show¬rU p=i by have:=hl p hg;omega)]
   simp only[cA,if_neg hs]
   rw[e0]
   have hr:r=r.takeWhile (λx=>decide (0≤x))++r.dropWhile (λx=>decide (0≤x)):=(List.takeWhile_append_dropWhile).symm
   have hrun:=Xb out i (av [s]) (r.takeWhile (λx=>decide (0≤x))) (r.dropWhile (λx=>decide (0≤x))) (av [s]) (λy hy=>by
    have:=List.all_eq_true.1 (List.all_takeWhile (p:=λx:Int=>decide (0≤x)) (l:=r)) y hy;simpa using this)
   rw[←hr,show((av [s]).length:Int)=1 by simp[br]]at hrun
   rw[hrun,←FQ,List.singleton_append]
   generalize hT:r.takeWhile (λx=>decide (0≤x))=T at*
   generalize hD:r.dropWhile (λx=>decide (0≤x))=D at*
   have hDl:D.length≤k:=by
    have:=congrArg List.length hr
    rw[List.length_append]at this;omega
   cases D with
   |nil=>simp[Nf,cA]
   |cons d D=>
    have hd:d<0:=by
     have:=List.head?_dropWhile_not (λx=>decide (0≤x)) r
     rw[hD]at this
     simp at this;omega
    cases k with
    |zero=>simp at hDl
    |succ k=>
     simp only[Nf,cA,if_pos hd]
     simp only[List.length_cons]at hDl
     rw[JS k _ _ D (by omega) (λp hp=>by
      simp only[List.getLast?_append,List.getLast?_singleton,Option.some_or,Option.some.injEq]at hp
      subst hp
      simp only[rU,br,List.length_cons]
      omega)]
     simp
theorem sU {p:Int→Bool}:∀(r:List Int) (j:Nat),j<(r.takeWhile p).length→∃s,r[j]? =some s∧p s=true
 |[],j,h=>by simp at h
 |s::r,j,h=>by
  cases hp:p s with
  |false=>simp[List.takeWhile_cons,hp]at h
  |true=>
   cases j with
   |zero=>exact⟨s,rfl,hp⟩
   |succ j=>
    simp only[List.takeWhile_cons,hp,if_true,List.length_cons]at h
    obtain⟨t,h1,h2⟩:=sU (p:=p) r j (by omega)
    exact⟨t,by simpa using h1,h2⟩
theorem DL (L:Int):∀(k:Nat) (i:Int) (r:List Int) (a:Int),r.length≤k→a<i→(∀(p:Nat) (s:Int),r[p]? =some s→0≤s→i+(p:Int)+1≤L)→∃b,fe L a (cA k i r)=some b
 |0,_,[],a,_,_,_=>⟨a,by simp[cA,fe]⟩
 |_+1,_,[],a,_,_,_=>⟨a,by simp[cA,fe]⟩
 |0,_,_::_,_,h,_,_=>by simp at h
 |k+1,i,s::r,a,h,ha,hL=>by
  simp only[List.length_cons]at h
  by_cases hs:s<0
  ·simp only[cA,if_pos hs]
   exact DL L k (i+1) r a (by omega) (by omega) (λp t hp ht=>by
    have:=hL (p+1) t (by simpa using hp) ht;omega)
  ·simp only[cA,if_neg hs,fe]
   generalize hT:r.takeWhile (λx=>decide (0≤x))=T at*
   have hn:(av (s::T)==[])=false:=by rw[beq_eq_false_iff_ne];simp[av]
   have hend:i+((av (s::T)).length:Int)≤L:=by
    rw[br,List.length_cons]
    rcases Nat.eq_zero_or_pos T.length with h0|h0
    ·have:=hL 0 s rfl (by omega);omega
    ·obtain⟨t,h1,h2⟩:=sU (p:=λx:Int=>decide (0≤x)) r (T.length-1) (by rw[hT];omega)
     have:=hL (T.length-1+1) t (by simpa using h1) (by simpa using h2)
     omega
   rw[hn,decide_eq_false (show¬i≤a by omega),decide_eq_false (show¬L<i+((av (s::T)).length:Int) by omega)]
   simp only[Bool.or_false,cond_false]
   have hr:r=T++r.dropWhile (λx=>decide (0≤x)):=by rw[←hT];exact(List.takeWhile_append_dropWhile).symm
   generalize hD:r.dropWhile (λx=>decide (0≤x))=D at*
   have hDl:D.length≤k:=by
    have:=congrArg List.length hr
    rw[List.length_append]at this;omega
   cases D with
   |nil=>exact⟨_,by simp[cA,fe];rfl⟩
   |cons d D=>
    have hd:d<0:=by
     have:=List.head?_dropWhile_not (λx=>decide (0≤x)) r
     rw[hD]at this
     simp at this;omega
    cases k with
    |zero=>simp at hDl
    |succ k=>
     simp only[cA,if_pos hd]
     simp only[List.length_cons]at hDl
     rw[br,List.length_cons]
     exact DL L k _ D _ (by omega) (by omega) (λp t hp ht=>by
      have:=hL (1+T.length+(p+1)) t (by
       rw[hr,show 1+T.length+(p+1)=(T.length+(p+1))+1 by omega,List.getElem?_cons_succ,List.getElem?_append_right (by omega),show T.length+(p+1)-T.length=p+1 by omega]
       simpa using hp) ht
      omega)
theorem Iu:∀(k:Nat) (i:Int) (r:List Int),(∀s∈r,s<0)→cA k i r=[]
 |0,_,[],_=>by simp[cA]
 |0,_,_::_,_=>by simp[cA]
 |_+1,_,[],_=>by simp[cA]
 |k+1,i,s::r,h=>by
  simp only[cA,if_pos (h s (List.mem_cons_self ..))]
  exact Iu k (i+1) r (λt ht=>h t (List.mem_cons_of_mem _ ht))
def aG (sl:List Int):Nat:=(sl.takeWhile (λx=>decide (0≤x))).length
theorem sa (sl:List Int)(j:Nat)(h:j<aG sl):∃s,sl[j]? =some s∧0≤s:=by
 obtain⟨s,h1,h2⟩:=sU (p:=λx:Int=>decide (0≤x)) sl j h
 exact⟨s,h1,by simpa using h2⟩
theorem DU (sl:List Int)(s:Int)(h:sl[aG sl]? =some s):s<0:=by
 unfold aG at h
 have e:sl=sl.takeWhile (λx=>decide (0≤x))++sl.dropWhile (λx=>decide (0≤x)):=(List.takeWhile_append_dropWhile).symm
 have h2:(sl.dropWhile (λx=>decide (0≤x)))[0]? =some s:=by
  have h3:=h
  rw[e,List.getElem?_append_right (by rw[←e];exact Nat.le_refl _)]at h3
  rw[←e,Nat.sub_self]at h3
  exact h3
 have:=List.head?_dropWhile_not (λx:Int=>decide (0≤x)) sl
 rw[List.head?_eq_getElem?,h2]at this
 simp at this;omega
def RK (x:Recv)(sl:List Int)(F:Int):Recv:=
 if 3<(cA 33 0 (sl.drop (aG sl))).length then x
 else if F-(aG sl:Int)=0 then⟨(x.next+(aG sl:Int)+1)%4294967296,x.data++av (sl.take (aG sl)),cA 33 0 (sl.drop (aG sl)),-1,true⟩
 else⟨(x.next+(aG sl:Int))%4294967296,x.data++av (sl.take (aG sl)),cA 33 0 (sl.drop (aG sl)),if F= -1 then-1 else F-(aG sl:Int),x.done⟩
theorem Xp (x:Recv)(sl:List Int)(F:Int)(hx:RV x)(hd:x.done=false)(hl:sl.length=33)(h0: -1≤F)(hF:F≤pB x)(hz:∀(k:Nat) (s:Int),sl[k]? =some s→0≤s→(k:Int)<(if F= -1 then pB x else F)):RV (RK x sl F):=by
 have hw:pB x=32-(x.data.length:Int):=by unfold pB;rw[hd];rfl
 have hdl:=hx.dl
 have hn:(aG sl:Int)≤(if F= -1 then pB x else F):=by
  rcases Nat.eq_zero_or_pos (aG sl)with h|h
  ·rw[h];split<;>omega
  ·obtain⟨s,h1,h2⟩:=sa sl (aG sl-1) (by omega)
   have:=hz _ s h1 h2
   omega
 have hn2:(aG sl:Int)≤pB x:=by split at hn<;>omega
 have htk:(sl.take (aG sl)).length=aG sl:=by rw[List.length_take];omega
 have hdd:∀(p:Nat) (s:Int),(sl.drop (aG sl))[p]? =some s→0≤s→(p:Int)+1≤(if F= -1 then pB x else F)-(aG sl:Int)∧0<p:=by
  intro p s hp hs
  rw[List.getElem?_drop]at hp
  have h1:=hz _ s hp hs
  refine⟨by omega, ?_⟩
  rcases Nat.eq_zero_or_pos p with h|h
  ·subst h
   have:=DU sl s (by simpa using hp)
   omega
  ·exact h
 have hwk:∃b,fe ((if F= -1 then pB x else F)-(aG sl:Int)) 0 (cA 33 0 (sl.drop (aG sl)))=some b:=by
  cases hD:sl.drop (aG sl)with
  |nil=>exact⟨0,by simp[cA,fe]⟩
  |cons d D=>
   have hd0:d<0:=by
    apply Int.not_le.1
    intro h
    have:=(hdd 0 d (by rw[hD];rfl) h).2
    omega
   have hDl:D.length≤32:=by
    have:=congrArg List.length hD
    rw[List.length_drop,List.length_cons]at this;omega
   show∃b,fe _ 0 (cA (32+1) 0 (d::D))=some b
   simp only[cA,if_pos hd0]
   exact DL _ 32 (0+1) D 0 hDl (by omega) (λp s hp hs=>by
    have:=(hdd (p+1) s (by rw[hD];simpa using hp) hs).1
    omega)
 unfold RK
 by_cases h3:3<(cA 33 0 (sl.drop (aG sl))).length
 ·rw[if_pos h3];exact hx
 ·rw[if_neg h3]
  by_cases h4:F-(aG sl:Int)=0
  ·rw[if_pos h4]
   have hne:∀s∈sl.drop (aG sl),s<0:=by
    intro s hs
    obtain⟨p,hp,rfl⟩:=List.getElem_of_mem hs
    apply Int.not_le.1
    intro h
    have:=(hdd p _ (List.getElem?_eq_getElem hp) h).1
    have hm1:F≠-1:=by omega
    rw[if_neg hm1]at this
    omega
   rw[Iu _ _ _ hne]
   refine⟨by show 0≤(x.next+(aG sl:Int)+1)%4294967296;omega,by show(x.next+(aG sl:Int)+1)%4294967296≤4294967295;omega, ?_,Nat.zero_le _,Int.le_refl _, ?_,by show(-1:Int)≠0;omega,⟨0,by simp[fe]⟩,λ_=>⟨rfl,rfl⟩⟩
   ·show(x.data++av (sl.take (aG sl))).length≤32
    rw[List.length_append,br,htk];omega
   ·show(-1:Int)≤pB _
    unfold pB;rw[if_pos rfl];omega
  ·rw[if_neg h4]
   have hlen:(x.data++av (sl.take (aG sl))).length=x.data.length+aG sl:=by rw[List.length_append,br,htk]
   have hwin:∀(nx:Int) (hh:List Piec) (f:Int),pB ⟨nx,x.data++av (sl.take (aG sl)),hh,f,x.done⟩=pB x-(aG sl:Int):=by
    intro nx hh f
    unfold pB
    simp only[hd,Bool.false_eq_true,if_false,hlen]
    omega
   refine⟨by show 0≤(x.next+(aG sl:Int))%4294967296;omega,by show(x.next+(aG sl:Int))%4294967296≤4294967295;omega,by show(x.data++av (sl.take (aG sl))).length≤32;omega,by show(cA 33 0 (sl.drop (aG sl))).length≤3;omega, ?_, ?_, ?_, ?_,λh=>by rw[show({next:=(x.next+(aG sl:Int))%4294967296,data:=x.data++av (sl.take (aG sl)),held:=cA 33 0 (sl.drop (aG sl)),fin:=if F= -1 then-1 else F-(aG sl:Int),done:=x.done}:Recv).done=x.done from rfl,hd]at h;cases h⟩
   ·show-1≤(if F= -1 then-1 else F-(aG sl:Int))
    split
    ·omega
    ·rename_i hm;rw[if_neg hm]at hn;omega
   ·show(if F= -1 then-1 else F-(aG sl:Int))≤pB _
    rw[hwin]
    split<;>omega
   ·show(if F= -1 then-1 else F-(aG sl:Int))≠0
    split<;>omega
   ·show∃b,fe (if(if F= -1 then-1 else F-(aG sl:Int))= -1 then pB _ else(if F= -1 then-1 else F-(aG sl:Int))) 0 (cA 33 0 (sl.drop (aG sl)))=some b
    rw[hwin]
    by_cases hm:F= -1
    ·simp only[if_pos hm]at hwk⊢
     exact hwk
    ·rw[if_neg hm]at hn
     simp only[if_neg hm]at hwk⊢
     rw[if_neg (show¬F-(aG sl:Int)= -1 by omega)]
     exact hwk
def rJ:List Int→Nat→ac→List Int
 |sl,_,[]=>sl
 |sl,o,b::t=>rJ (sl.set o (b.toNat:Int)) (o+1) t
theorem KL:∀(t:ac) (sl:List Int) (o:Nat),(rJ sl o t).length=sl.length
 |[],_,_=>rfl
 |_::t,sl,o=>by simp only[rJ,KL t,List.length_set]
def n9 (held:List Piec):List Int:=held.foldl (λsl p=>rJ sl p.off.toNat p.text) (List.replicate 33 (-1))
theorem iM (t:ac)(k:Nat)(hk:k<t.length):ae t k=(t[k].toNat:Int):=by
 simp[ae,List.getD,hk]
theorem nv (b:UInt8):(b.toNat:Int)≤255:=by have:=b.toNat_lt;omega
theorem W9 (p:Piec)(h1:1≤p.off)(h2:p.off+(p.text.length:Int)≤32){f:Int×List Int→Stp (Int×List Int) (List Int)}(hf:∀(k:Nat) sl,f ((k:Int),sl)=bif decide ((k:Int)<(p.text.length:Int))then .next (IntKind.wrap .i64 ((k:Int)+1),sl.set (IntKind.wrap .i64 (p.off+(k:Int))).toNat (IntKind.wrap .i64 (ae p.text k)))else .out sl):∀(n k:Nat) (sl:List Int),k+n=p.text.length→bI f (n+1) ((k:Int),sl)=rJ sl (p.off.toNat+k) (p.text.drop k)
 |0,k,sl,h=>by
  simp only[bI,hf,decide_eq_false (show¬(k:Int)<(p.text.length:Int) by omega),cond_false,Stp.elim]
  rw[List.drop_of_length_le (by omega)]
  rfl
 |n+1,k,sl,h=>by
  have hk:k<p.text.length:=by omega
  rw[bI]
  simp only[hf,decide_eq_true (show(k:Int)<(p.text.length:Int) by omega),cond_true,Stp.elim]
  rw[ar (m:=p.off+(k:Int)) (by omega) (by omega),ar (m:=(k:Int)+1) (by omega) (by omega),iM _ _ hk,ar (by omega) (by have:=nv p.text[k];omega)]
  rw[show(k:Int)+1=((k+1:Nat):Int) by omega,show(p.off+(k:Int)).toNat=p.off.toNat+k by omega]
  rw[W9 p h1 h2 hf n (k+1) _ (by omega),List.drop_eq_getElem_cons hk]
  rfl
theorem U6 (x:Recv)(h:eb po x.held):uu.f (x,())=n9 x.held:=by
 have e0:a9 (λj a=>(wx j a).nice) 1 (Int.toNat (((List.replicate 33 (0:Int)).length:Int)-0)) 0 (List.replicate 33 (0:Int))= .next (List.replicate 33 (-1)):=by rfl
 simp only[PX,uu,cj,fq]
 rw[e0]
 simp only[Stp.elim]
 rw[bp,eu x.held _ rfl (F:=λ_ p (a:List Int)=> .next (rJ a p.off.toNat p.text)) (by
  intro j p a hp
  have hpo:=h p (Ap hp)
  unfold po at hpo
  have:=W9 p hpo.1 hpo.2 (f:=λa=>(mE (j:Int) x a).nice) (λk sl=>by
   simp only[mE,PX,ah,getD_some hp]) p.text.length 0 a (by omega)
  simp only[PX,vY,dM,ah,getD_some hp]
  rw[show Int.toNat ((p.text.length:Int)-0)=p.text.length by omega]
  exact congrArg Stp.next this)]
 have:∀(r:List Piec) (j:Nat) (a:List Int),kV (W:=Empty) (λ_ p (a:List Int)=> .next (rJ a p.off.toNat p.text)) j r a= .next (r.foldl (λsl p=>rJ sl p.off.toNat p.text) a):=by
  intro r
  induction r with
  |nil=>intro j a;rfl
  |cons p r ih=>intro j a;simp only[kV,Stp.elim,ih,List.foldl_cons]
 rw[this]
 simp only[Stp.elim]
 rfl
theorem ab9 {m:Int}(h0:0≤m)(h1:m≤255):IntKind.wrap .u8 m=m:=by
 rw[qu];omega
def Af (x:Recv)(seq w:Int)(sl:List Int)(j:Nat)(b:UInt8):List Int:=
 if(seq+(j:Int)-x.next)%4294967296<w∧(x.fin<0∨(seq+(j:Int)-x.next)%4294967296<x.fin)∧sl.getD ((seq+(j:Int)-x.next)%4294967296).toNat 0<0 then sl.set ((seq+(j:Int)-x.next)%4294967296).toNat (b.toNat:Int)else sl
def y5 (x:Recv)(seq w:Int):List Int→Nat→ac→List Int
 |sl,_,[]=>sl
 |sl,j,b::t=>y5 x seq w (Af x seq w sl j b) (j+1) t
theorem aav (x:Recv)(seq w:Int)(sl:List Int)(j:Nat)(b:UInt8):(Af x seq w sl j b).length=sl.length:=by
 unfold Af;split<;>simp
theorem Sc (x:Recv)(seq w:Int):∀(t:ac) (sl:List Int) (j:Nat),(y5 x seq w sl j t).length=sl.length
 |[],_,_=>rfl
 |b::t,sl,j=>by simp only[y5,Sc x seq w t,aav]
theorem Xu (a n:Int):((a%4294967296)-n)%4294967296=(a-n)%4294967296:=by omega
theorem N5 {A W:Type}(z:A→A)(g:List Int→Nat→UInt8→List Int):∀(t:ac) (j:Nat) (r:A) (sl:List Int),∃r2,kV (W:=W) (λj b (a:A×List Int)=> .next (z a.1,g a.2 j b)) j t (r,sl)= .next (r2,(t.foldl (λ(p:List Int×Nat) b=>(g p.1 p.2 b,p.2+1)) (sl,j)).1)
 |[],j,r,sl=>⟨r,rfl⟩
 |b::t,j,r,sl=>by
  obtain⟨r2,e⟩:=N5 z g t (j+1) (z r) (g sl j b)
  refine⟨r2, ?_⟩
  simp only[kV,Stp.elim,List.foldl_cons]
  exact e
theorem O7 (x:Recv)(seq w:Int):∀(t:ac) (sl:List Int) (j:Nat),(t.foldl (λ(p:List Int×Nat) b=>(Af x seq w p.1 p.2 b,p.2+1)) (sl,j)).1=y5 x seq w sl j t
 |[],_,_=>rfl
 |b::t,sl,j=>by simp only[List.foldl_cons,y5,O7 x seq w t]
theorem adi (x:Recv)(seq w:Int)(t:ac)(hn:0≤x.next∧x.next≤4294967295)(ht:t.length≤4294967296)(r:Recv)(sl:List Int):∃r2,a9 (λj a=>(rq seq t w x j a).nice) 1 (Int.toNat ((t.length:Int)-0)) 0 (r,sl)= .next (r2,y5 x seq w sl 0 t):=by
 obtain⟨r2,e⟩:=N5 (W:=Empty) (λr:Recv=>({r with held:=[]}:Recv)) (Af x seq w) t 0 r sl
 refine⟨r2, ?_⟩
 rw[bp,eu t _ rfl (F:=λj b (a:Recv×List Int)=> .next (({a.1 with held:=[]}:Recv),Af x seq w a.2 j b)) (by
  intro j b a hb
  have hbt:ae t j=(b.toNat:Int):=by simp[ae,List.getD,hb]
  have hb8:=nv b
  have e1:(IntKind.wrap .i64 ((seq+(j:Int))%4294967296-x.next))%4294967296=(seq+(j:Int)-x.next)%4294967296:=by
   rw[ar (by omega) (by omega),Xu]
  simp only[PX,rq,j8,bZ,oC,ah,hbt,e1]
  rw[ar (by omega) (by omega)]
  unfold Af
  generalize(seq+(j:Int)-x.next)%4294967296=o
  by_cases c1:o<w
  ·by_cases c2:x.fin<0
   ·by_cases c3:a.2.getD o.toNat 0<0
    ·simp only[decide_eq_true c1,decide_eq_true c2,decide_eq_true c3,cond_true,if_pos (show o<w∧(x.fin<0∨o<x.fin)∧a.2.getD o.toNat 0<0 from⟨c1,.inl c2,c3⟩)]
    ·simp only[decide_eq_true c1,decide_eq_true c2,decide_eq_false c3,cond_true,cond_false,if_neg (show¬(o<w∧(x.fin<0∨o<x.fin)∧a.2.getD o.toNat 0<0) from λh=>c3 h.2.2)]
   ·by_cases c4:o<x.fin
    ·by_cases c3:a.2.getD o.toNat 0<0
     ·simp only[decide_eq_true c1,decide_eq_false c2,decide_eq_true c4,decide_eq_true c3,cond_true,cond_false,if_pos (show o<w∧(x.fin<0∨o<x.fin)∧a.2.getD o.toNat 0<0 from⟨c1,.inr c4,c3⟩)]
     ·simp only[decide_eq_true c1,decide_eq_false c2,decide_eq_true c4,decide_eq_false c3,cond_true,cond_false,if_neg (show¬(o<w∧(x.fin<0∨o<x.fin)∧a.2.getD o.toNat 0<0) from λh=>c3 h.2.2)]
    ·simp only[decide_eq_true c1,decide_eq_false c2,decide_eq_false c4,cond_true,cond_false,if_neg (show¬(o<w∧(x.fin<0∨o<x.fin)∧a.2.getD o.toNat 0<0) from λh=>h.2.1.elim c2 c4)]
  ·simp only[decide_eq_false c1,cond_false,if_neg (show¬(o<w∧(x.fin<0∨o<x.fin)∧a.2.getD o.toNat 0<0) from λh=>c1 h.1)])]
 rw[e,O7]
theorem XU (sl:List Int)(e:Nat)(he:e≤sl.length):uk.f (sl,(e:Int),())=(sl.drop e).all (λs=>decide (s<0)):=by
 have key:∀(n j:Nat),j+n=sl.length→a9 (λj a=>(nz sl j a).nice) 1 n (j:Int) ()=bif (sl.drop j).all (λs=>decide (s<0))then .next ()else .out ():=by
  intro n
  induction n with
  |zero=>intro j h;rw[List.drop_of_length_le (by omega)];rfl
  |succ n ih=>
   intro j h
   have hj:j<sl.length:=by omega
   have ih:=ih (j+1) (by omega)
   rw[List.drop_eq_getElem_cons hj,List.all_cons]
   simp only[nz,PX]at ih
   simp only[a9,nz,PX,ah,getD_some (List.getElem?_eq_getElem hj)]
   by_cases h0:0≤sl[j]
   ·rw[decide_eq_true h0,decide_eq_false (show¬sl[j]<0 by omega)];rfl
   ·rw[decide_eq_false h0,decide_eq_true (show sl[j]<0 by omega)]
    simp only[cond_false,Stp.elim,Bool.true_and]
    rw[show(j:Int)+1=((j+1:Nat):Int) by omega]
    exact ih
 simp only[PX,uk,f7]
 rw[show Int.toNat ((sl.length:Int)-(e:Int))=sl.length-e by omega,key _ _ (by omega)]
 cases(sl.drop e).all (λs=>decide (s<0))<;>rfl
theorem aap (sl:List Int)(hr:∀s∈sl,s≤255)(hl:aG sl<sl.length):∀(n j:Nat) (r:Recv),j+n=aG sl→a9 (λj a=>(kj sl j a).nice) 1 (sl.length-j) (j:Int) (r,sl.take j)= .out ((aG sl:Int),({r with held:=[]}:Recv),sl.take (aG sl))
 |0,j,r,h=>by
  have hj:j=aG sl:=by omega
  subst hj
  have hg:=List.getElem?_eq_getElem hl
  have h0:=DU sl _ hg
  rw[show sl.length-aG sl=(sl.length-aG sl-1)+1 by omega]
  simp only[a9,kj,PX,ah,getD_some hg,decide_eq_false (show¬0≤sl[aG sl] by omega),cond_false,Stp.elim]
 |n+1,j,r,h=>by
  obtain⟨s,hs1,pE⟩:=sa sl j (by omega)
  have hj:j<sl.length:=by omega
  have ih:=aap sl hr hl n (j+1) ({r with held:=[]}:Recv) (by omega)
  have hs3:=hr s (Ap hs1)
  rw[show sl.length-j=(sl.length-(j+1))+1 by omega]
  rw[List.take_succ_eq_append_getElem hj]at ih
  have he:sl[j]=s:=by rw[List.getElem?_eq_getElem hj]at hs1;exact Option.some.inj hs1
  rw[he]at ih
  simp only[kj,PX]at ih
  simp only[a9,kj,PX,ah,getD_some hs1,decide_eq_true pE,cond_true,Stp.elim]
  rw[ab9 pE hs3,show(j:Int)+1=((j+1:Nat):Int) by omega]
  exact ih
theorem aa6 (x:Recv)(seq w:Int)(sl:List Int)(j:Nat)(b:UInt8)(k:Nat)(s:Int)(h:(Af x seq w sl j b)[k]? =some s):sl[k]? =some s∨(s=(b.toNat:Int)∧(k:Int)<w∧(x.fin<0∨(k:Int)<x.fin)):=by
 unfold Af at h
 generalize ho:(seq+(j:Int)-x.next)%4294967296=o at h
 have h0:0≤o:=by omega
 split at h
 ·rename_i hc
  rw[List.getElem?_set]at h
  split at h
  ·rename_i hk
   split at h
   ·refine .inr ⟨(Option.some.inj h).symm,by omega, ?_⟩
    rcases hc.2.1 with h2|h2
    ·exact .inl h2
    ·exact .inr (by omega)
   ·cases h
  ·exact .inl h
 ·exact .inl h
theorem Xn (x:Recv)(seq w:Int):∀(t:ac) (sl:List Int) (j:Nat) (k:Nat) (s:Int),(y5 x seq w sl j t)[k]? =some s→sl[k]? =some s∨(0≤s∧s≤255∧(k:Int)<w∧(x.fin<0∨(k:Int)<x.fin))
 |[],_,_,_,_,h=> .inl h
 |b::t,sl,j,k,s,h=>by
  rcases Xn x seq w t _ (j+1) k s h with h1|h1
  ·rcases aa6 x seq w sl j b k s h1 with h2|⟨h2,h3,h4⟩
   ·exact .inl h2
   ·exact .inr ⟨by omega,by have:=nv b;omega,h3,h4⟩
  ·exact .inr h1
theorem Xm:∀(t:ac) (sl:List Int) (o k:Nat) (s:Int),(rJ sl o t)[k]? =some s→sl[k]? =some s∨(0≤s∧s≤255∧o≤k∧k<o+t.length)
 |[],_,_,_,_,h=> .inl h
 |b::t,sl,o,k,s,h=>by
  simp only[rJ]at h
  rcases Xm t _ (o+1) k s h with h1|⟨h1,h2,h3,h4⟩
  ·rw[List.getElem?_set]at h1
   split at h1
   ·rename_i hk
    split at h1
    ·have e:=(Option.some.inj h1).symm
     exact .inr ⟨by omega,by have:=nv b;omega,by omega,by simp only[List.length_cons];omega⟩
    ·cases h1
   ·exact .inl h1
  ·exact .inr ⟨h1,h2,by omega,by simp only[List.length_cons];omega⟩
theorem RI (L:Int):∀(held:List Piec) (a b:Int) (sl:List Int),0≤a→fe L a held=some b→a≤L→∀(k:Nat) (s:Int),(held.foldl (λsl p=>rJ sl p.off.toNat p.text) sl)[k]? =some s→sl[k]? =some s∨(0≤s∧s≤255∧(k:Int)<L)
 |[],_,_,_,_,_,_,_,_,h=> .inl h
 |p::r,a,b,sl,h0,hw,ha,k,s,h=>by
  simp only[fe]at hw
  cases hc:((p.text==[])||decide (p.off≤a)||decide (L<p.off+(p.text.length:Int)))with
  |true=>rw[hc]at hw;cases hw
  |false=>
   rw[hc]at hw
   simp only[Bool.or_eq_false_iff,decide_eq_false_iff_not]at hc
   simp only[List.foldl_cons]at h
   rcases RI L r _ b _ (by omega) hw (by omega) k s h with h1|h1
   ·rcases Xm p.text sl p.off.toNat k s h1 with h2|⟨h2,h3,h4,h5⟩
    ·exact .inl h2
    ·exact .inr ⟨h2,h3,by omega⟩
   ·exact .inr h1
theorem qO:∀(held:List Piec) (sl:List Int),(held.foldl (λsl p=>rJ sl p.off.toNat p.text) sl).length=sl.length
 |[],_=>rfl
 |p::r,sl=>by simp only[List.foldl_cons,qO r,KL]
theorem H6 (x:Recv)(hx:RV x)(seq:Int)(t:ac):(y5 x seq (pB x) (n9 x.held) 0 t).length=33∧∀(k:Nat) (s:Int),(y5 x seq (pB x) (n9 x.held) 0 t)[k]? =some s→-1≤s∧s≤255∧(0≤s→(k:Int)<(if x.fin= -1 then pB x else x.fin)):=by
 have hw:=pT x hx.dl
 have hf0:=hx.f0
 have hf1:=hx.f1
 have hfz:=hx.fz
 refine⟨by rw[Sc];unfold n9;rw[qO];rfl,λk s h=> ?_⟩
 rcases Xn x seq (pB x) t _ 0 k s h with h1|⟨h1,h2,h3,h4⟩
 ·obtain⟨b,hb⟩:=hx.wk
  unfold n9 at h1
  rcases RI _ x.held 0 b _ (Int.le_refl _) hb (by split<;>omega) k s h1 with h2|⟨h2,h3,h4⟩
  ·have:s= -1:=by
    have hm:=List.mem_of_getElem? h2
    exact List.eq_of_mem_replicate hm
   omega
  ·exact⟨by omega,h3,λ_=>h4⟩
 ·refine⟨by omega,h2,λ_=> ?_⟩
  split
  ·exact h3
  ·rcases h4 with h5|h5<;>omega
theorem T2 (sl:List Int)(hr:∀s∈sl,s≤255)(hl:sl.length=33)(n:Nat):∀(m j:Nat) (a:List Piec),n≤j→j+m=33→a.length≤33→(∀p,a.getLast? =some p→0≤p.off∧rU p≤(j:Int)-(n:Int))→a.length+m≤33→a9 (λj a=>(cp sl (n:Int) j a).nice) 1 m (j:Int) a= .next (Nf a ((j:Int)-(n:Int)) (sl.drop j))
 |0,j,a,h1,h2,_,_,_=>by rw[List.drop_of_length_le (by omega)];simp only[a9,Nf]
 |m+1,j,a,h1,h2,h3,h4,h5=>by
  have hj:j<sl.length:=by omega
  have hs:=List.getElem?_eq_getElem hj
  have hs8:=hr _ (Ap hs)
  rw[List.drop_eq_getElem_cons hj]
  generalize sl[j]=s at hs hs8⊢
  have ej:(j:Int)+1=((j+1:Nat):Int):=by omega
  have en:(j:Int)-(n:Int)+1=((j+1:Nat):Int)-(n:Int):=by omega
  by_cases h0:s<0
  ·have ih:=T2 sl hr hl n m (j+1) a (by omega) (by omega) h3 (λp hp=>by have:=h4 p hp;omega) (by omega)
   simp only[PX,cp]at ih
   simp only[a9,PX,cp,ah,getD_some hs,decide_eq_true h0,cond_true,Stp.elim,Nf,if_pos h0]
   rw[ej,en]
   exact ih
  ·have hw8:IntKind.wrap .u8 s=s:=ab9 (by omega) hs8
   rcases List.eq_nil_or_concat a with rfl|⟨b,p,rfl⟩
   ·have ih:=T2 sl hr hl n m (j+1) [⟨(j:Int)-(n:Int),av [s]⟩] (by omega) (by omega) (by simp) (λp hp=>by
     simp only[List.getLast?_singleton,Option.some.injEq]at hp
     subst hp
     simp only[rU,br,List.length_singleton];omega) (by simp;omega)
    simp only[PX,cp]at ih
    have e0:decide (0<(([]:List Piec).length:Int))=false:=by simp
    simp only[a9,PX,cp,ah,getD_some hs,decide_eq_false h0,cond_false,Stp.elim,Nf,if_neg h0,e0,List.getLast?_nil,hw8,List.nil_append]
    rw[ej,en,ar (m:=(j:Int)-(n:Int)) (by omega) (by omega)]
    exact ih
   ·simp only[List.concat_eq_append]at*
    have hp:=h4 p (by simp)
    have hbl:(b++[p]).length=b.length+1:=by simp
    have e0:decide (0<((b++[p]).length:Int))=true:=by rw[decide_eq_true_iff,hbl];omega
    have e1:(IntKind.wrap .i64 (((b++[p]).length:Int)-1)).toNat=b.length:=by rw[hbl,ar (by omega) (by omega)];omega
    have e2:(b++[p]).getD b.length (Ty.zero .piec)=p:=by simp[List.getD]
    have e3:∀q,(b++[p]).set b.length q=b++[q]:=λq=>by simp
    have hoff:=hp.1
    have hend:=hp.2
    unfold rU at hend
    by_cases he:rU p=(j:Int)-(n:Int)
    ·have ih:=T2 sl hr hl n m (j+1) (b++[⟨p.off,p.text++av [s]⟩]) (by omega) (by omega) (by simp at h3⊢;omega) (λq hq=>by
      simp only[List.getLast?_append,List.getLast?_singleton,Option.some_or,Option.some.injEq]at hq
      subst hq
      unfold rU at he
      simp only[rU,List.length_append,br,List.length_singleton];omega) (by simp at h5⊢;omega)
     simp only[PX,cp]at ih
     have e4:(IntKind.wrap .i64 (p.off+(p.text.length:Int))==IntKind.wrap .i64 ((j:Int)-(n:Int)))=true:=by
      unfold rU at he
      rw[he];exact beq_self_eq_true _
     simp only[a9,PX,cp,ah,getD_some hs,decide_eq_false h0,cond_false,Stp.elim,Nf,if_neg h0,e0,e1,e2,e3,e4,cond_true,hw8,List.getLast?_append,List.getLast?_singleton,Option.some_or,if_pos he,List.dropLast_concat]
     rw[ej,en]
     exact ih
    ·have ih:=T2 sl hr hl n m (j+1) (b++[p]++[⟨(j:Int)-(n:Int),av [s]⟩]) (by omega) (by omega) (by simp at h3 h5⊢;omega) (λq hq=>by
      simp only[List.getLast?_append,List.getLast?_singleton,Option.some_or,Option.some.injEq]at hq
      subst hq
      simp only[rU,br,List.length_singleton];omega) (by simp at h5⊢;omega)
     simp only[PX,cp]at ih
     have e4:(IntKind.wrap .i64 (p.off+(p.text.length:Int))==IntKind.wrap .i64 ((j:Int)-(n:Int)))=false:=by
      unfold rU at he
      rw[ar (by omega) (by omega),ar (by omega) (by omega),beq_eq_false_iff_ne];exact he
     simp only[a9,PX,cp,ah,getD_some hs,decide_eq_false h0,cond_false,Stp.elim,Nf,if_neg h0,e0,e1,e2,e4,cond_true,hw8,List.getLast?_append,List.getLast?_singleton,Option.some_or,if_neg he]
     rw[ej,en,ar (m:=(j:Int)-(n:Int)) (by omega) (by omega)]
     exact ih
theorem EY (sl:List Int)(hr:∀s∈sl,s≤255)(hl:sl.length=33)(n:Nat)(hn:n≤33):pd.f (sl,(n:Int),())=cA 33 0 (sl.drop n):=by
 simp only[PX,pd,eq]
 rw[show Int.toNat ((sl.length:Int)-(n:Int))=33-n by omega]
 rw[T2 sl hr hl n (33-n) n [] (Nat.le_refl _) (by omega) (by simp) (λp hp=>by simp at hp) (by simp)]
 simp only[Stp.elim]
 rw[Int.sub_self,JS 33 [] 0 (sl.drop n) (by rw[List.length_drop];omega) (λp hp=>by simp at hp)]
 rfl
def Lt (x:Recv)(sl:List Int)(e:Int)(fin:Bool):Int:=if fin=true∧x.fin<0∧e≤pB x∧(sl.drop e.toNat).all (λs=>decide (s<0))=true then e else x.fin
def J5 (x:Recv)(seq:Int)(t:ac):List Int:=y5 x seq (pB x) (n9 x.held) 0 t
def ng (x:Recv)(seq:Int)(t:ac)(fin:Bool):Recv:=
 if bP.f (x,())=true∧x.done=false then RK x (J5 x seq t) (Lt x (J5 x seq t) ((seq+(t.length:Int)-x.next)%4294967296) fin)else x
theorem Gh (L:Int):∀(r:List Piec) (a b:Int),0≤a→L≤32→fe L a r=some b→eb po r
 |[],_,_,_,_,_=>λ_ h=>by cases h
 |p::r,a,b,h0,hL,h=>by
  simp only[fe]at h
  cases hc:((p.text==[])||decide (p.off≤a)||decide (L<p.off+(p.text.length:Int)))with
  |true=>rw[hc]at h;cases h
  |false=>
   rw[hc]at h
   simp only[Bool.or_eq_false_iff,decide_eq_false_iff_not]at hc
   have ih:=Gh L r _ b (by omega) hL h
   intro y hy
   rcases List.mem_cons.1 hy with rfl|hy
   ·unfold po;omega
   ·exact ih y hy
theorem KY (x:Recv)(hx:RV x):eb po x.held:=by
 obtain⟨b,hb⟩:=hx.wk
 have h1:=pT x hx.dl
 have h2:=hx.f1
 exact Gh _ x.held 0 b (Int.le_refl _) (by split<;>omega) hb
theorem QB (x:Recv)(seq:Int)(t:ac)(fin:Bool)(hs:ca x.held)(ht:t.length≤4294967296):qB.f (x,seq,t,fin,())=ng x seq t fin:=by
 simp only[PX,qB,uj,Di x hs]
 unfold ng
 cases hok:bP.f (x,())with
 |false=>rfl
 |true=>
 cases hdn:x.done with
 |true=>rfl
 |false=>
 have hx:=(rD x hs).1 hok
 have hpo:eb po x.held:=KY x hx
 obtain⟨r2,e1⟩:=adi x seq (pB x) t ⟨hx.n0,hx.n1⟩ ht (⟨0,[],[],0,false⟩:Recv) (n9 x.held)
 have hsl:=H6 x hx seq t
 have hw:=pT x hx.dl
 have hn0:=hx.n0
 have hn1:=hx.n1
 have hf0:=hx.f0
 have hf1:=hx.f1
 have hL:J5 x seq t=y5 x seq (pB x) (n9 x.held) 0 t:=rfl
 rw[←hL]at e1 hsl
 have ee:IntKind.wrap .i64 ((seq+(t.length:Int))%4294967296-x.next)%4294967296=(seq+(t.length:Int)-x.next)%4294967296:=by
  rw[ar (by omega) (by omega),Xu]
 simp only[Bool.not_true,cond_false,rI,iU x hx.dl,U6 x hpo,gb,e1,Stp.elim,PX,j8,bZ,oC,true_and,if_true,ee]
 obtain⟨e,he⟩:∃e,(seq+(t.length:Int)-x.next)%4294967296=e:=⟨_,rfl⟩
 have he0:0≤e:=by omega
 obtain⟨sl,hsl2⟩:∃sl,J5 x seq t=sl:=⟨_,rfl⟩
 simp only[he,hsl2]at hsl⊢
 clear e1 ee hL he hsl2
 obtain⟨hl,hat⟩:=hsl
 have hr:∀s∈sl,s≤255:=λs hs=>by
  obtain⟨k,hk,rfl⟩:=List.getElem_of_mem hs
  exact(hat k _ (List.getElem?_eq_getElem hk)).2.1
 have hld:aG sl<sl.length:=by
  rcases Nat.lt_or_ge (aG sl) sl.length with h|h
  ·exact h
  ·obtain⟨s,h1,h2⟩:=sa sl 32 (by omega)
   have:=(hat 32 s h1).2.2 h2
   split at this<;>omega
 have hc:(bif fin then bif decide (x.fin<0)then bif decide (e≤pB x)then(uk.f (sl,e,()),())else(false,())else(false,())else(false,())).1=decide (fin=true∧x.fin<0∧e≤pB x∧(sl.drop e.toNat).all (λs=>decide (s<0))=true):=by
  cases fin with
  |false=>simp
  |true=>
   by_cases c1:x.fin<0
   ·by_cases c2:e≤pB x
    ·have h1:=XU sl e.toNat (by omega)
     rw[show((e.toNat:Nat):Int)=e by omega]at h1
     simp only[cond_true,decide_eq_true c1,decide_eq_true c2,h1]
     simp only[c1,c2,true_and,Bool.decide_eq_true]
    ·simp[c1,c2]
   ·simp[c1]
 have tail:∀(r u:Recv),(eS (0,x,r,u,sl,[],())).lp.s= .out ((aG sl:Int),({r with held:=[]}:Recv),sl.take (aG sl)):=by
  intro r u
  have:=aap sl hr hld (aG sl) 0 r (by omega)
  rw[←bp sl.length]at this
  exact this
 have tp:∀(r u:Recv) (w:Int×Recv×List Int),(eS (0,x,r,u,sl,[],())).lp.o w= .inl w:=λ_ _ _=>rfl
 have hld2:(aG sl:Int)≤33:=by omega
 by_cases hcc:fin=true∧x.fin<0∧e≤pB x∧(sl.drop e.toNat).all (λs=>decide (s<0))=true
 ·have hfn:Lt x sl e fin=e:=if_pos hcc
  have hew:=hcc.2.2.1
  rw[hfn]
  simp only[hc,decide_eq_true hcc,cond_true]
  dsimp only[Tr.nice]
  simp only[PX,tail,tp,Stp.elim,Sum.elim_inl,Bu,EY sl hr hl (aG sl) (by omega)]
  unfold RK
  have hd:decide (0≤e)=true:=decide_eq_true (by omega)
  simp only[hd,cond_true]
  rw[ar (m:=e-(aG sl:Int)) (by omega) (by omega)]
  change (bif ((e-(aG sl:Int))==0)then(bif decide ((3:Int)<((cA 33 0 (sl.drop (aG sl))).length:Int))then dY.f (x,())else(⟨((x.next+(aG sl:Int))%4294967296+1)%4294967296,x.data++av (sl.take (aG sl)),cA 33 0 (sl.drop (aG sl)),-1,true⟩:Recv))else(bif decide ((3:Int)<((cA 33 0 (sl.drop (aG sl))).length:Int))then dY.f (x,())else(⟨(x.next+(aG sl:Int))%4294967296,x.data++av (sl.take (aG sl)),cA 33 0 (sl.drop (aG sl)),(e-(aG sl:Int)),false⟩:Recv)))=_
  rw[uj]
  by_cases h3:3<(cA 33 0 (sl.drop (aG sl))).length
  ·rw[if_pos h3,decide_eq_true (show(3:Int)<((cA 33 0 (sl.drop (aG sl))).length:Int) by omega)]
   cases(e-(aG sl:Int)==0)<;>rfl
  ·rw[if_neg h3,decide_eq_false (show¬(3:Int)<((cA 33 0 (sl.drop (aG sl))).length:Int) by omega)]
   by_cases h4:e-(aG sl:Int)=0
   ·rw[if_pos h4,show(e-(aG sl:Int)==0)=true by simp[h4]]
    simp only[cond_true,cond_false]
    rw[show((x.next+(aG sl:Int))%4294967296+1)%4294967296=(x.next+(aG sl:Int)+1)%4294967296 by omega]
   ·rw[if_neg h4,show(e-(aG sl:Int)==0)=false by simp[h4]]
    simp only[cond_false,if_neg (show¬e= -1 by omega),hdn]
 ·have hfn:Lt x sl e fin=x.fin:=if_neg hcc
  rw[hfn]
  simp only[hc,decide_eq_false hcc,cond_false]
  dsimp only[Tr.nice]
  simp only[PX,tail,tp,Stp.elim,Sum.elim_inl,Bu,EY sl hr hl (aG sl) (by omega)]
  unfold RK
  by_cases hF:0≤x.fin
  ·have hd:decide (0≤x.fin)=true:=decide_eq_true (by omega)
   simp only[hd,cond_true]
   rw[ar (m:=x.fin-(aG sl:Int)) (by omega) (by omega)]
   change (bif ((x.fin-(aG sl:Int))==0)then(bif decide ((3:Int)<((cA 33 0 (sl.drop (aG sl))).length:Int))then dY.f (x,())else(⟨((x.next+(aG sl:Int))%4294967296+1)%4294967296,x.data++av (sl.take (aG sl)),cA 33 0 (sl.drop (aG sl)),-1,true⟩:Recv))else(bif decide ((3:Int)<((cA 33 0 (sl.drop (aG sl))).length:Int))then dY.f (x,())else(⟨(x.next+(aG sl:Int))%4294967296,x.data++av (sl.take (aG sl)),cA 33 0 (sl.drop (aG sl)),(x.fin-(aG sl:Int)),x.done⟩:Recv)))=_
   rw[uj]
   by_cases h3:3<(cA 33 0 (sl.drop (aG sl))).length
   ·rw[if_pos h3,decide_eq_true (show(3:Int)<((cA 33 0 (sl.drop (aG sl))).length:Int) by omega)]
    cases(x.fin-(aG sl:Int)==0)<;>rfl
   ·rw[if_neg h3,decide_eq_false (show¬(3:Int)<((cA 33 0 (sl.drop (aG sl))).length:Int) by omega)]
    by_cases h4:x.fin-(aG sl:Int)=0
    ·rw[if_pos h4,show(x.fin-(aG sl:Int)==0)=true by simp[h4]]
     simp only[cond_true,cond_false]
     rw[show((x.next+(aG sl:Int))%4294967296+1)%4294967296=(x.next+(aG sl:Int)+1)%4294967296 by omega]
    ·rw[if_neg h4,show(x.fin-(aG sl:Int)==0)=false by simp[h4]]
     simp only[cond_false,if_neg (show¬x.fin= -1 by omega),hdn]
  ·have hF1:x.fin= -1:=by omega
   have hd:decide (0≤x.fin)=false:=decide_eq_false hF
   simp only[hd,cond_false]
   change (bif (x.fin==0)then(bif decide ((3:Int)<((cA 33 0 (sl.drop (aG sl))).length:Int))then dY.f (x,())else(⟨((x.next+(aG sl:Int))%4294967296+1)%4294967296,x.data++av (sl.take (aG sl)),cA 33 0 (sl.drop (aG sl)),-1,true⟩:Recv))else(bif decide ((3:Int)<((cA 33 0 (sl.drop (aG sl))).length:Int))then dY.f (x,())else(⟨(x.next+(aG sl:Int))%4294967296,x.data++av (sl.take (aG sl)),cA 33 0 (sl.drop (aG sl)),x.fin,x.done⟩:Recv)))=_
   rw[uj]
   rw[show(x.fin==0)=false by simp[hF1]]
   by_cases h3:3<(cA 33 0 (sl.drop (aG sl))).length
   ·rw[if_pos h3,decide_eq_true (show(3:Int)<((cA 33 0 (sl.drop (aG sl))).length:Int) by omega)]
    rfl
   ·rw[if_neg h3,decide_eq_false (show¬(3:Int)<((cA 33 0 (sl.drop (aG sl))).length:Int) by omega)]
    rw[if_neg (show¬x.fin-(aG sl:Int)=0 by omega),if_pos hF1,hF1,hdn]
    rfl
theorem Ik (x:Recv)(seq:Int)(t:ac)(fin:Bool)(hx:RV x):RV (ng x seq t fin):=by
 unfold ng
 by_cases hc:bP.f (x,())=true∧x.done=false
 ·rw[if_pos hc]
  obtain⟨hl,hat⟩:=H6 x hx seq t
  have hw:=pT x hx.dl
  have hf0:=hx.f0
  have hf1:=hx.f1
  change (J5 x seq t).length=33 at hl
  change ∀(k:Nat) (s:Int),(J5 x seq t)[k]? =some s→_ at hat
  generalize J5 x seq t=sl at hl hat
  have he0:0≤(seq+(t.length:Int)-x.next)%4294967296:=by omega
  generalize(seq+(t.length:Int)-x.next)%4294967296=e at he0
  unfold Lt
  split
  ·rename_i h
   obtain⟨h1,h2,h3,h4⟩:=h
   refine Xp x sl e hx hc.2 hl (by omega) h3 (λk s hk hs=> ?_)
   rw[if_neg (show¬e= -1 by omega)]
   apply Int.not_le.1
   intro hke
   rw[List.all_eq_true]at h4
   have hm:s∈sl.drop e.toNat:=by
    refine List.mem_of_getElem? (i:=k-e.toNat) ?_
    rw[List.getElem?_drop,show e.toNat+(k-e.toNat)=k by omega];exact hk
   have:=h4 s hm
   simp only[decide_eq_true_eq]at this
   omega
  ·exact Xp x sl x.fin hx hc.2 hl (by omega) hf1 (λk s hk hs=>(hat k s hk).2.2 hs)
 ·rw[if_neg hc];exact hx
def rS (a b:Int):Int:=if 2147483647<(a-b)%4294967296 then(a-b)%4294967296-4294967296 else(a-b)%4294967296
theorem vc (a b:Int):qt.f (a,b,())=rS a b:=by
 simp only[PX,qt,oC,Bu]
 rw[ar (m:=a%4294967296-b%4294967296) (by omega) (by omega),show(a%4294967296-b%4294967296)%4294967296=(a-b)%4294967296 by omega]
 unfold rS
 by_cases h:2147483647<(a-b)%4294967296
 ·rw[decide_eq_true h,if_pos h,ar (by omega) (by omega)];rfl
 ·rw[decide_eq_false h,if_neg h];rfl
def HV (s:Sndr):Int:=if s.finSent=true then s.sent+1 else s.sent
theorem tP (s:Sndr)(h:SO s):cZ.f (s,())=HV s:=by
 rw[OU s h];rfl
def cI (s:Sndr)(n:Int):Sndr:=⟨(s.una+n)%4294967296,s.data.drop (if s.sent<n then s.sent else n).toNat,s.sent-(if s.sent<n then s.sent else n),s.fin,if s.sent<n then false else s.finSent,if s.sent<n then true else s.done⟩
def ud (s:Sndr)(ack:Int):Bool:=bE.f (s,())&&(decide (0≤rS ack s.una)&&decide (rS ack s.una≤HV s))
theorem WJ (s:Sndr)(ack:Int):BH.f (s,ack,())=if ud s ack=true then(cI s (rS ack s.una),true)else(s,false):=by
 simp only[PX,BH,vc,uX,x8,bK,j8,bZ]
 unfold ud
 cases hk:bE.f (s,())with
 |false=>rfl
 |true=>
  have hs:=(LH s).1 hk
  rw[tP s hs]
  have h1:=hs.2.2.2.1
  have h2:=hs.2.2.2.2.1
  have h3:=hs.2.2.1
  generalize rS ack s.una=n
  simp only[Bool.not_true,cond_false,Bool.true_and]
  by_cases hn:0≤n∧n≤HV s
  ·rw[decide_eq_true hn.1,decide_eq_true hn.2]
   simp only[Bool.and_self,Bool.not_true,cond_false,if_true]
   unfold cI
   by_cases hc:s.sent<n
   ·simp only[decide_eq_true hc,if_pos hc,cond_true]
    simp only[PX,ah,List.take_length]
    rw[ar (by omega) (by omega)]
   ·simp only[decide_eq_false hc,if_neg hc,cond_false]
    simp only[PX,ah,List.take_length]
    rw[ar (by omega) (by omega)]
  ·have e:(decide (0≤n)&&decide (n≤HV s))=false:=by
    rw[Bool.and_eq_false_iff];simp only[decide_eq_false_iff_not];omega
   rw[e];rfl
theorem JX (s:Sndr)(hs:SO s)(n:Int)(h0:0≤n)(h1:n≤HV s):SO (cI s n)∧(cI s n).fin=s.fin∧(s.done=true→(cI s n).done=true):=by
 obtain⟨e1,e2,e3,e4,e5,e6,e7⟩:=hs
 unfold HV at h1
 by_cases hc:s.sent<n
 ·have ea:cI s n=⟨(s.una+n)%4294967296,s.data.drop s.sent.toNat,s.sent-s.sent,s.fin,false,true⟩:=by unfold cI;simp only[if_pos hc]
  rw[ea]
  have hf:s.finSent=true:=by
   cases hfs:s.finSent with
   |true=>rfl
   |false=>rw[hfs]at h1;simp only[Bool.false_eq_true,if_false]at h1;omega
  have hl:=(e6 hf).2
  refine⟨⟨by show 0≤(s.una+n)%4294967296;omega,by show(s.una+n)%4294967296≤4294967295;omega, ?_, ?_, ?_,λh=>(by cases h),λ_=>⟨(e6 hf).1,rfl, ?_⟩⟩,rfl,λ_=>rfl⟩
  ·show(s.data.drop s.sent.toNat).length≤48
   rw[List.length_drop];omega
  ·show 0≤s.sent-s.sent;omega
  ·show s.sent-s.sent≤((s.data.drop s.sent.toNat).length:Int)
   omega
  ·show s.data.drop s.sent.toNat=[]
   exact List.drop_of_length_le (by omega)
 ·have ea:cI s n=⟨(s.una+n)%4294967296,s.data.drop n.toNat,s.sent-n,s.fin,s.finSent,s.done⟩:=by unfold cI;simp only[if_neg hc]
  rw[ea]
  refine⟨⟨by show 0≤(s.una+n)%4294967296;omega,by show(s.una+n)%4294967296≤4294967295;omega, ?_, ?_, ?_, ?_, ?_⟩,rfl,λh=>h⟩
  ·show(s.data.drop n.toNat).length≤48
   rw[List.length_drop];omega
  ·show 0≤s.sent-n;omega
  ·show s.sent-n≤((s.data.drop n.toNat).length:Int)
   rw[List.length_drop];omega
  ·intro h
   refine⟨(e6 h).1, ?_⟩
   have:=(e6 h).2
   show s.sent-n=((s.data.drop n.toNat).length:Int)
   rw[List.length_drop];omega
  ·intro h
   refine⟨(e7 h).1,(e7 h).2.1, ?_⟩
   show s.data.drop n.toNat=[]
   rw[(e7 h).2.2];simp
def oD (k:Int)(sd rd:Bool):Int:=if k=1 then(if rd=true then 4 else 1)else if k=2 then(if sd=true then(if rd=true then 7 else 3)else if rd=true then 5 else 2)else if k=3 then(if rd=true then 7 else 3)else if k=5 then(if sd=true then 7 else 5)else if k=6 then(if sd=true then 8 else 6)else k
theorem aaI (x:Conn):va.f (x,())=oD x.state x.s.done x.r.done:=by
 simp only[PX,va]
 unfold oD
 by_cases h1:x.state=1
 ·rw[if_pos h1,h1];cases x.r.done<;>first|rfl|exact h1
 by_cases h2:x.state=2
 ·rw[if_neg h1,if_pos h2,h2];cases x.s.done<;>cases x.r.done<;>first|rfl|exact h2
 by_cases h3:x.state=3
 ·rw[if_neg h1,if_neg h2,if_pos h3,h3];cases x.r.done<;>first|rfl|exact h3
 by_cases h5:x.state=5
 ·rw[if_neg h1,if_neg h2,if_neg h3,if_pos h5,h5];cases x.s.done<;>first|rfl|exact h5
 by_cases h6:x.state=6
 ·rw[if_neg h1,if_neg h2,if_neg h3,if_neg h5,if_pos h6,h6];cases x.s.done<;>first|rfl|exact h6
 rw[if_neg h1,if_neg h2,if_neg h3,if_neg h5,if_neg h6]
 rw[show(x.state==1)=false by simp[h1],show(x.state==2)=false by simp[h2],show(x.state==3)=false by simp[h3],show(x.state==5)=false by simp[h5],show(x.state==6)=false by simp[h6]]
 rfl
def K6 (x:Conn):Bool:=bV.f ({x with state:=oD x.state x.s.done x.r.done,timer:=0,tries:=0},())&&((decide (0≤x.timer)&&decide (x.timer≤4))&&(decide (0≤x.tries)&&decide (x.tries≤3)))
def dL (x:Conn):Conn:=
 if K6 x=true then
  if oD x.state x.s.done x.r.done=x.state then x
  else if oD x.state x.s.done x.r.done=7 then{x with state:=7,timer:=4,tries:=0}
  else if oD x.state x.s.done x.r.done=8 then{x with state:=8,timer:=0,tries:=0}
  else{x with state:=oD x.state x.s.done x.r.done}
 else x
theorem ET (x:Conn)(hs:ca x.r.held):rj.f (x,())=dL x:=by
 simp only[PX,rj,nZ,aaI,bK]
 rw[B0 ({x with state:=oD x.state x.s.done x.r.done,timer:=0,tries:=0}:Conn) hs]
 unfold dL K6
 generalize(decide (0≤x.timer)&&decide (x.timer≤4))=b1
 generalize(decide (0≤x.tries)&&decide (x.tries≤3))=b2
 generalize oD x.state x.s.done x.r.done=k
 cases bV.f (({x with state:=k,timer:=0,tries:=0}:Conn),())with
 |false=>rfl
 |true=>
 cases b1 with
 |false=>rfl
 |true=>
 cases b2 with
 |false=>rfl
 |true=>
 simp only[Bool.not_true,cond_false,Bool.and_self,if_true]
 by_cases h1:k=x.state
 ·subst h1
  simp only[if_true,beq_self_eq_true,cond_true]
 ·rw[if_neg h1,show(k==x.state)=false by simp[h1]]
  simp only[cond_false]
  by_cases h7:k=7
  ·subst h7;rfl
  ·rw[if_neg h7,show(k==7)=false by simp[h7]]
   simp only[cond_false]
   by_cases h8:k=8
   ·subst h8;rfl
   ·rw[if_neg h8,show(k==8)=false by simp[h8]];rfl
structure TR (x:Conn):Prop where
 tup:aJ.f (x.tuple,())=true
 snd:SO x.s
 rcv:bP.f (x.r,())=true
 opt:az.f (x.opts,())=true
 s1:1≤x.state
 s7:x.state≤7
 m0:0≤x.most
 m1:x.most≤1073725440
 w0:0≤x.window
 w1:x.window≤x.most
 t0:0≤x.timer
 t4:x.timer≤4
 t3:x.state≠7→x.timer≤3
 r0:0≤x.tries
 r3:x.tries≤3
 fl:kst (oD x.state x.s.done x.r.done) x.s.fin x.s.done x.r.done=true
theorem abb (k:Int)(sd rd:Bool)(h1:1≤k)(h7:k≤7):1≤oD k sd rd∧oD k sd rd≤8:=by
 unfold oD;repeat' split
 all_goals omega
theorem TR.turned {x:Conn}(h:TR x):CO (dL x):=by
 have hk:=abb x.state x.s.done x.r.done h.s1 h.s7
 have hfl:=h.fl
 have hs1:=h.s1
 have hs7:=h.s7
 have hr0:=h.r0
 have hr3:=h.r3
 have ht0:=h.t0
 have ht4:=h.t4
 have hco:CO ({x with state:=oD x.state x.s.done x.r.done,timer:=0,tries:=0}:Conn):=⟨h.tup,h.snd,h.rcv,h.opt,hk.1,hk.2,h.m0,h.m1,h.w0,h.w1,Int.le_refl _,by show(0:Int)≤4;omega,λ_=>by show(0:Int)≤3;omega,Int.le_refl _,by show(0:Int)≤3;omega,hfl⟩
 have hok:K6 x=true:=by
  unfold K6
  rw[(Mn _).2 hco,decide_eq_true ht0,decide_eq_true ht4,decide_eq_true hr0,decide_eq_true hr3];rfl
 unfold dL
 rw[if_pos hok]
 by_cases h1:oD x.state x.s.done x.r.done=x.state
 ·rw[if_pos h1]
  rw[h1]at hfl
  exact⟨h.tup,h.snd,h.rcv,h.opt,hs1,by omega,h.m0,h.m1,h.w0,h.w1,ht0,ht4,h.t3,hr0,hr3,hfl⟩
 ·rw[if_neg h1]
  have hn7:x.state≠7:=by
   intro h7;apply h1;rw[h7];rfl
  have ht3:=h.t3 hn7
  by_cases h7:oD x.state x.s.done x.r.done=7
  ·rw[if_pos h7]
   rw[h7]at hfl
   exact⟨h.tup,h.snd,h.rcv,h.opt,by show(1:Int)≤7;omega,by show(7:Int)≤8;omega,h.m0,h.m1,h.w0,h.w1,by show(0:Int)≤4;omega,Int.le_refl _,λhh=>absurd rfl hh,Int.le_refl _,by show(0:Int)≤3;omega,hfl⟩
  ·rw[if_neg h7]
   by_cases h8:oD x.state x.s.done x.r.done=8
   ·rw[if_pos h8]
    rw[h8]at hfl
    exact⟨h.tup,h.snd,h.rcv,h.opt,by show(1:Int)≤8;omega,Int.le_refl _,h.m0,h.m1,h.w0,h.w1,Int.le_refl _,by show(0:Int)≤4;omega,λ_=>by show(0:Int)≤3;omega,Int.le_refl _,by show(0:Int)≤3;omega,hfl⟩
   ·rw[if_neg h8]
    exact⟨h.tup,h.snd,h.rcv,h.opt,hk.1,hk.2,h.m0,h.m1,h.w0,h.w1,ht0,ht4,λ_=>ht3,hr0,hr3,hfl⟩
theorem Dg (x:Conn):(dL x).tuple=x.tuple:=by
 unfold dL;repeat' split
 all_goals rfl
def jh (w sc:Int):Int:=w*2 ^ (if sc<0 then 0 else sc).toNat
theorem KG (w sc:Int)(h0:0≤w)(h1:w≤65535)(h2:sc≤14):0≤jh w sc∧jh w sc≤1073725440:=by
 unfold jh
 have hk:(if sc<0 then 0 else sc).toNat≤14:=by split<;>omega
 generalize(if sc<0 then 0 else sc).toNat=k at hk
 have:k=0∨k=1∨k=2∨k=3∨k=4∨k=5∨k=6∨k=7∨k=8∨k=9∨k=10∨k=11∨k=12∨k=13∨k=14:=by omega
 rcases this with rfl|rfl|rfl|rfl|rfl|rfl|rfl|rfl|rfl|rfl|rfl|rfl|rfl|rfl|rfl<;>simp only[Int.reducePow,Int.pow_zero]<;>omega
theorem fk (o:Opti)(h:az.f (o,())=true): -1≤o.scale∧o.scale≤14:=by
 simp only[PX,az,aw]at h
 revert h
 cases hq:(decide (-1≤o.scale)&&decide (o.scale≤14))with
 |true=>
  intro _
  simpa [Bool.and_eq_true,decide_eq_true_eq]using hq
 |false=>
  cases aa.f (o.mss,16,())<;>cases o.stamp<;>cases(o.val != 0)<;>cases(o.echo != 0)<;>simp
def uZ (c:Conn)(g:Segm):Conn:=
 if ud c.s g.ack=true then
  if((cI c.s (rS g.ack c.s.una)).una≠c.s.una∨HV (cI c.s (rS g.ack c.s.una))=0)∧c.state≠7 then
   ⟨c.tuple,c.state,cI c.s (rS g.ack c.s.una),c.r,jh g.window c.opts.scale,if c.most<jh g.window c.opts.scale then jh g.window c.opts.scale else c.most,c.opts,if 0<HV (cI c.s (rS g.ack c.s.una))then 3 else 0,0⟩
  else⟨c.tuple,c.state,cI c.s (rS g.ack c.s.una),c.r,jh g.window c.opts.scale,if c.most<jh g.window c.opts.scale then jh g.window c.opts.scale else c.most,c.opts,c.timer,c.tries⟩
 else c
def gv (c:Conn)(g:Segm):Conn:=
 if 1≤c.state∧c.state≤3 then dL {uZ c g with r:=ng c.r g.seq g.body (ic.f (g,1,()))}else dL (uZ c g)
theorem Zn (k:Int)(h1:1≤k)(h7:k≤7)(sf sd rd sd' rd':Bool)(h:kst k sf sd rd=true)(hsd:sd=true→sd'=true)(hsf:sd'=true→sf=true)(hrd:rd'=rd∨(rd=false∧k≤3)):kst (oD k sd' rd') sf sd' rd'=true:=by
 have hk:k=1∨k=2∨k=3∨k=4∨k=5∨k=6∨k=7:=by omega
 rcases hk with rfl|rfl|rfl|rfl|rfl|rfl|rfl<;>revert h hsd hsf hrd<;>revert sf sd rd sd' rd'<;>decide+kernel
theorem RV.small {x:Recv}(h:RV x):ca x.held:=by
 intro y hy
 have:=KY x h y hy
 unfold po at this;omega
theorem T9 (m:Int):IntKind.u32.wrap m=m%4294967296:=by
 unfold IntKind.wrap
 simp[IntKind.signed,IntKind.bits]
theorem Tu (m:Int):IntKind.i32.wrap m=(m+2147483648)%4294967296-2147483648:=by
 unfold IntKind.wrap
 simp only[IntKind.signed,IntKind.bits]
 simp
 omega
theorem uS (a b:Int):qy.f (a,b,())=rS a b:=by
 simp only[PX,qy,T9,Tu,cQ]
 unfold rS
 split<;>omega
theorem Og (g:Segm)(n:Int):ic.f (g,n,())=bB.f (g,n,()):=by simp only[PX,ic,bB]
theorem uW (g:Segm):jg.f (g,())=aO.f (g,()):=by simp only[PX,jg,aO,Og]
theorem qJ (a b:Int):sE.f (a,b,())=(a-b)%4294967296:=Ue a b
def vl (x o n:Int):Bool:=decide (0<n)&&decide ((x-o)%4294967296<n)
theorem oX (x o n:Int):n3.f (x,o,n,())=vl x o n:=by
 simp only[PX,n3,oC]
 unfold vl
 rw[ar (by omega) (by omega),show(x%4294967296-o%4294967296)%4294967296=(x-o)%4294967296 by omega]
 cases decide (0<n)<;>rfl
theorem sY (x o n:Int):nY.f (x,o,n,())=vl x o n:=by
 simp only[PX,nY,qJ]
 unfold vl
 by_cases h:4294967295<n
 ·rw[decide_eq_true h,decide_eq_true (show 0<n by omega),decide_eq_true (show(x-o)%4294967296<n by omega)];rfl
 ·rw[decide_eq_false h]
  by_cases h1:0<n
  ·rw[decide_eq_true h1,decide_eq_true (show 1≤n by omega)];rfl
  ·rw[decide_eq_false h1,decide_eq_false (show¬1≤n by omega)];rfl
def ovN (x n o w:Int):Bool:=decide (0<n)&&(decide (0<w)&&(decide ((x-o)%4294967296<w)||decide ((o-x)%4294967296<n)))
theorem MS (x n o w:Int)(hn:n≤65536):vv.f (x,n,o,w,())=ovN x n o w:=by
 simp only[PX,vv,qJ,sY]
 rw[if_neg (show¬65536<n by omega)]
 unfold ovN vl
 by_cases h1:0<n
 ·rw[decide_eq_true h1,decide_eq_false (show¬n<1 by omega)]
  by_cases h2:0<w
  ·rw[decide_eq_true h2,decide_eq_false (show¬w<1 by omega)]
   cases decide ((x-o)%4294967296<w)<;>rfl
  ·rw[decide_eq_false h2,decide_eq_true (show w<1 by omega)];rfl
 ·rw[decide_eq_false h1,decide_eq_true (show n<1 by omega)];rfl
theorem Ok (x o w:Int):∀(k j:Nat),j+k≤65536→(a9 (λj a=>(jB x o w j a).nice) 1 k (j:Int) ()= .next ()∧∀i:Nat,j≤i→i<j+k→vl (x+(i:Int)) o w=false)∨(a9 (λj a=>(jB x o w j a).nice) 1 k (j:Int) ()= .out (.inl ())∧∃i:Nat,j≤i∧i<j+k∧vl (x+(i:Int)) o w=true)
 |0,j,_=> .inl ⟨rfl,λi h1 h2=>by omega⟩
 |k+1,j,h=>by
  have ih:=Ok x o w k (j+1) (by omega)
  have e:vl ((x+(j:Int))%4294967296) o w=vl (x+(j:Int)) o w:=by
   unfold vl
   rw[show((x+(j:Int))%4294967296-o)%4294967296=(x+(j:Int)-o)%4294967296 by omega]
  simp only[a9,PX,jB,j8,bZ,oX,decide_eq_true (show(j:Int)<65536 by omega),cond_true,e]
  simp only[PX,jB,j8,bZ,oX]at ih
  cases hj:vl (x+(j:Int)) o w with
  |true=>exact .inr ⟨rfl,j,Nat.le_refl _,by omega,hj⟩
  |false=>
   simp only[cond_false,Stp.elim]
   rw[show(j:Int)+1=((j+1:Nat):Int) by omega]
   rcases ih with⟨h1,h2⟩|⟨h1,i,h2,h3,h4⟩
   ·refine .inl ⟨h1,λi h3 h4=> ?_⟩
    rcases Nat.eq_or_lt_of_le h3 with h5|h5
    ·rw[←h5];exact hj
    ·exact h2 i h5 (by omega)
   ·exact .inr ⟨h1,i,by omega,by omega,h4⟩
theorem Ms (x n o w:Int)(hn:n≤65536)(hw:w≤2147483648):vf.f (x,n,o,w,())=ovN x n o w:=by
 simp only[PX,vf,fA]
 have key:=Ok x o w (Int.toNat (n-0)) 0 (by omega)
 rw[show((0:Nat):Int)=0 from rfl]at key
 unfold ovN
 rcases key with⟨h1,h2⟩|⟨h1,i,h2,h3,h4⟩
 ·rw[h1]
  simp only[Stp.elim,Sum.elim_inr,Sum.elim_inl]
  by_cases c1:0<n
  ·by_cases c2:0<w
   ·have a0:=h2 0 (Nat.le_refl _) (by omega)
    unfold vl at a0
    rw[decide_eq_true c2,show x+((0:Nat):Int)=x by omega,Bool.true_and,decide_eq_false_iff_not]at a0
    have a1:¬(o-x)%4294967296<n:=by
     intro h
     have:=h2 ((o-x)%4294967296).toNat (by omega) (by omega)
     unfold vl at this
     rw[decide_eq_true c2,Bool.true_and,decide_eq_false_iff_not]at this
     omega
    rw[decide_eq_true c1,decide_eq_true c2,decide_eq_false a0,decide_eq_false a1];rfl
   ·rw[decide_eq_false c2];cases decide (0<n)<;>rfl
  ·rw[decide_eq_false c1];rfl
 ·rw[h1]
  simp only[Stp.elim,Sum.elim_inr,Sum.elim_inl]
  unfold vl at h4
  simp only[Bool.and_eq_true,decide_eq_true_eq]at h4
  have c1:0<n:=by omega
  rw[decide_eq_true c1,decide_eq_true h4.1]
  by_cases c3:(x-o)%4294967296<w
  ·rw[decide_eq_true c3];rfl
  ·rw[decide_eq_true (show(o-x)%4294967296<n by omega),Bool.or_true];rfl
def Wz (c:Conn)(g:Segm):Bool:=bif aO.f (g,())==0 then rS g.seq c.r.next==0||vl g.seq c.r.next (pB c.r)else ovN g.seq (aO.f (g,())) c.r.next (pB c.r)
theorem ru (g:Segm)(hb:g.body.length≤60000):0≤aO.f (g,())∧aO.f (g,())≤(g.body.length:Int)+2:=by
 simp only[PX,aO]
 rw[ar (m:=(g.body.length:Int)+1) (by omega) (by omega),ar (m:=(g.body.length:Int)+1+1) (by omega) (by omega)]
 cases bB.f (g,2,())<;>cases bB.f (g,1,())<;>simp only[cond_true,cond_false]<;>omega
theorem HA (c:Conn)(g:Segm)(hd:c.r.data.length≤32)(hb:g.body.length≤60000):qi.f (c,g,())=Wz c g:=by
 have h1:=ru g hb
 have hw:=pT c.r hd
 simp only[PX,qi,uW,rI,iU c.r hd,vc,oX,Ms _ _ _ _ (show aO.f (g,())≤65536 by omega) (show pB c.r≤2147483648 by omega)]
 unfold Wz
 cases(aO.f (g,())==0)with
 |false=>rfl
 |true=>cases(rS g.seq c.r.next==0)<;>rfl
theorem Hp (c:Conn)(g:Segm)(hd:c.r.data.length≤32)(hb:g.body.length≤60000):pQ.f (c,g,())=Wz c g:=by
 have h1:=ru g hb
 have hw:=pT c.r hd
 simp only[PX,pQ,iU c.r hd,uS,sY,MS _ _ _ _ (show aO.f (g,())≤65536 by omega)]
 unfold Wz
 cases(aO.f (g,())==0)with
 |false=>rfl
 |true=>cases(rS g.seq c.r.next==0)<;>rfl
def R9 (c:Conn)(a:Int):Bool:=decide (rS a c.s.una≤HV c.s)&&(decide (0≤rS a c.s.una)||decide (-c.most≤rS a c.s.una))
theorem PW (c:Conn)(a:Int)(hs:SO c.s)(h0:0≤c.most)(h1:c.most≤1073725440):yi.f (c,a,())=R9 c a:=by
 simp only[PX,yi,vc,x8,tP c.s hs]
 unfold R9
 rw[ar (by omega) (by omega),decide_eq_false (show¬2147483648≤c.most by omega)]
 generalize rS a c.s.una=d
 cases decide (d≤HV c.s)with
 |false=>rfl
 |true=>
  by_cases h2:0≤d
  ·rw[decide_eq_true h2];rfl
  ·rw[decide_eq_false h2]
   by_cases h3:0<c.most
   ·rw[decide_eq_true h3,show(0-c.most)= -c.most by omega];rfl
   ·rw[decide_eq_false h3,decide_eq_false (show¬-c.most≤d by omega)];rfl
theorem PT (c:Conn)(a:Int)(hs:SO c.s)(h0:0≤c.most)(h1:c.most≤1073725440):yM.f (c,a,())=R9 c a:=by
 simp only[PX,yM,uS,tP c.s hs,aw]
 unfold R9
 rw[if_neg (show¬2147483648<c.most by omega),show(if 0<c.most then c.most else 0)=c.most by split<;>omega,ar (by omega) (by omega),show(0-c.most)= -c.most by omega]
 generalize rS a c.s.una=d
 by_cases h2:0≤d
 ·rw[decide_eq_true h2,decide_eq_true (show-c.most≤d by omega)];simp
 ·rw[decide_eq_false h2,Bool.and_comm];simp
def Dl (c:Conn)(g:Segm):Int:=
 bif bV.f (c,())&&(!(c.state==8)&&ak.f (g,()))then
  bif bB.f (g,4,())then(bif g.seq==c.r.next then 2 else bif vl g.seq c.r.next (pB c.r)then 3 else 1)
  else bif bB.f (g,2,())then 3
  else bif !Wz c g then 4
  else bif !bB.f (g,16,())then 1
  else bif !R9 c g.ack then 3 else 5
 else 1
theorem eL (g:Segm)(h:ak.f (g,())=true):g.body.length≤1420:=by
 simp only[PX,ak]at h
 revert h
 cases aa.f (g.from_,16,())<;>cases aa.f (g.to,16,())<;>cases aa.f (g.seq,32,())<;>cases aa.f (g.ack,32,())<;>cases aa.f (g.flags,6,())<;>cases aa.f (g.window,16,())<;>cases az.f (g.opts,())<;>simp<;>omega
theorem B3 (c:Conn)(g:Segm)(hs:ca c.r.held):tX.f (c,g,())=Dl c g:=by
 simp only[PX,tX,B0 c hs,pf,Og]
 unfold Dl
 rcases Bool.eq_false_or_eq_true (bV.f (c,()))with h1|h1
 case inr=>rw[h1];rfl
 rcases Bool.eq_false_or_eq_true (c.state==8)with h2|h2
 ·rw[h1,h2];rfl
 rcases Bool.eq_false_or_eq_true (ak.f (g,()))with h3|h3
 case inr=>rw[h1,h2,h3];rfl
 have hc:=(Mn c).1 h1
 have hr:=(rD c.r hs).1 hc.rcv
 have hb:=eL g h3
 simp only[h1,h2,h3,rI,iU c.r hr.dl,oX,HA c g hr.dl (by omega),PW c g.ack hc.snd hc.m0 hc.m1,Bool.not_true,Bool.not_false,cond_true,cond_false,Bool.and_self]
 cases bB.f (g,4,())with
 |false=>rfl
 |true=>cases(g.seq==c.r.next)<;>cases vl g.seq c.r.next (pB c.r)<;>rfl
theorem BD (c:Conn)(g:Segm)(hs:ca c.r.held):um.f (c,g,())=Dl c g:=by
 simp only[PX,um]
 unfold Dl
 rcases Bool.eq_false_or_eq_true (bV.f (c,()))with h1|h1
 case inr=>rw[h1];rfl
 rcases Bool.eq_false_or_eq_true (c.state==8)with h2|h2
 ·rw[h1,h2];rfl
 rcases Bool.eq_false_or_eq_true (ak.f (g,()))with h3|h3
 case inr=>rw[h1,h2,h3];rfl
 have hc:=(Mn c).1 h1
 have hr:=(rD c.r hs).1 hc.rcv
 have hb:=eL g h3
 simp only[h1,h2,h3,iU c.r hr.dl,sY,Hp c g hr.dl (by omega),PT c g.ack hc.snd hc.m0 hc.m1,Bool.not_true,Bool.not_false,cond_true,cond_false,Bool.and_self]
def ju (w:Nat)(sl:List Int):List Bool:=(sl.take w).map (λs=>decide (0≤s))
def mt (w:Nat)(sl:List Int):List Int:=(sl.take w).map (λs=>if s<0 then 0 else s)
def st1 (sl:List Int)(o b:Int):List Int:=if sl.getD o.toNat 0<0 then sl.set o.toNat b else sl
theorem aaR (w:Nat)(sl:List Int)(o:Nat)(b:Int)(hb:0≤b):ju w (sl.set o b)=(ju w sl).set o true:=by
 unfold ju
 rw[List.take_set,List.map_set,decide_eq_true hb]
theorem aaQ (w:Nat)(sl:List Int)(o:Nat)(b:Int)(hb:0≤b):mt w (sl.set o b)=(mt w sl).set o b:=by
 unfold mt
 rw[List.take_set,List.map_set,if_neg (show¬b<0 by omega)]
theorem tR (w:Nat)(sl:List Int)(o:Nat)(ho:o<w)(hl:w≤sl.length):(ju w sl).getD o false=decide (0≤sl.getD o 0):=by
 unfold ju
 simp[List.getD,List.getElem?_take,ho,show o<sl.length by omega]
theorem KB (w:Nat)(sl:List Int)(o b:Int)(h0:0≤o)(h1:o<(w:Int))(hl:w≤sl.length)(hb:0≤b):hU.f (o,b,ju w sl,mt w sl,())=(ju w (st1 sl o b),mt w (st1 sl o b)):=by
 simp only[PX,hU]
 rw[tR w sl o.toNat (by omega) hl]
 unfold st1
 by_cases h:sl.getD o.toNat 0<0
 ·rw[decide_eq_false (by omega),if_pos h,aaR _ _ _ _ hb,aaQ _ _ _ _ hb];rfl
 ·rw[decide_eq_true (by omega),if_neg h];rfl
theorem abK (p:Piec)(w:Nat)(h1:1≤p.off)(h2:p.off+(p.text.length:Int)≤(w:Int))(hw:w≤33):∀(n k:Nat) (sl:List Int) (r:Recv),w≤sl.length→k+n=p.text.length→(∀(j:Nat) (s:Int),p.off.toNat+k≤j→sl[j]? =some s→s<0)→∃r2,a9 (λj a=>(oh p j a).nice) 1 n (k:Int) (r,mt w sl,ju w sl)= .next (r2,mt w (rJ sl (p.off.toNat+k) (p.text.drop k)),ju w (rJ sl (p.off.toNat+k) (p.text.drop k)))
 |0,k,sl,r,hl,h,hf=>⟨r,by rw[List.drop_of_length_le (by omega)];rfl⟩
 |n+1,k,sl,r,hl,h,hf=>by
  have hk:k<p.text.length:=by omega
  have ho:p.off.toNat+k<sl.length:=by omega
  have hfree:=hf (p.off.toNat+k) sl[p.off.toNat+k] (Nat.le_refl _) (List.getElem?_eq_getElem ho)
  have hst:st1 sl (p.off+(k:Int)) (p.text[k].toNat:Int)=sl.set (p.off.toNat+k) (p.text[k].toNat:Int):=by
   unfold st1
   rw[show(p.off+(k:Int)).toNat=p.off.toNat+k by omega,getD_some (List.getElem?_eq_getElem ho),if_pos hfree]
  obtain⟨r2,e⟩:=abK p w h1 h2 hw n (k+1) (sl.set (p.off.toNat+k) (p.text[k].toNat:Int)) ({r with held:=[]}:Recv) (by rw[List.length_set];exact hl) (by omega) (λj s hj hs=>by
   rw[List.getElem?_set_ne (by omega)]at hs
   exact hf j s (by omega) hs)
  refine⟨r2, ?_⟩
  rw[List.drop_eq_getElem_cons hk]
  simp only[rJ]
  simp only[a9,PX,oh,ah,iM _ _ hk]
  rw[ar (by omega) (by omega),KB w sl _ _ (by omega) (by omega) hl (by omega),hst]
  simp only[Stp.elim]
  rw[show(k:Int)+1=((k+1:Nat):Int) by omega]
  exact e
theorem Pi:∀(t:ac) (sl:List Int) (o:Nat) (a:Int),((o:Int)+(t.length:Int)≤a)→(∀(j:Nat) (s:Int),a≤(j:Int)→sl[j]? =some s→s<0)→∀(j:Nat) (s:Int),a≤(j:Int)→(rJ sl o t)[j]? =some s→s<0
 |[],_,_,_,_,h,j,s,hj,hs=>h j s hj hs
 |b::t,sl,o,a,ha,h,j,s,hj,hs=>by
  simp only[rJ]at hs
  simp only[List.length_cons]at ha
  refine Pi t (sl.set o (b.toNat:Int)) (o+1) a (by omega) (λj s hj hs=> ?_) j s hj hs
  rw[List.getElem?_set_ne (by omega)]at hs
  exact h j s hj hs
theorem Xd (v0:Int)(v1:ac)(v2:Bool)(v3:Int)(v4:List Piec)(v5:Int)(v7 v9:Recv)(w:Nat)(hw:w≤33):∀(held:List Piec) (j:Nat) (a b:Int) (L:Int) (sl:List Int) (r:Recv),fe L a held=some b→0≤a→L≤(w:Int)→w≤sl.length→(∀(j:Nat) (s:Int),a≤(j:Int)→sl[j]? =some s→s<0)→(∀p∈held,p.text.length≤33)→∃r2,kV (W:=Empty) (λ_ p (x:Recv×List Int×List Bool)=>(iK v0 v1 v2 v3 [p] v5 v7 v9 0 x).nice) j held (r,mt w sl,ju w sl)= .next (r2,mt w (held.foldl (λsl p=>rJ sl p.off.toNat p.text) sl),ju w (held.foldl (λsl p=>rJ sl p.off.toNat p.text) sl))
 |[],_,a,b,L,sl,r,_,_,_,_,_,_=>⟨r,rfl⟩
 |p::held,j,a,b,L,sl,r,hp,ha,hL,hl,hf,ht=>by
  simp only[fe]at hp
  cases hc:((p.text==[])||decide (p.off≤a)||decide (L<p.off+(p.text.length:Int)))with
  |true=>rw[hc]at hp;cases hp
  |false=>
   rw[hc]at hp
   simp only[Bool.or_eq_false_iff,decide_eq_false_iff_not]at hc
   have hpl:=ht p (List.mem_cons_self ..)
   obtain⟨r1,e1⟩:=abK p w (by omega) (by omega) hw p.text.length 0 sl ({r with held:=[]}:Recv) hl (by omega) (λj s hj hs=>hf j s (by omega) hs)
   rw[List.drop_zero,Nat.add_zero]at e1
   obtain⟨r2,e2⟩:=Xd v0 v1 v2 v3 v4 v5 v7 v9 w hw held (j+1) _ b L (rJ sl p.off.toNat p.text) ({r1 with held:=[]}:Recv) hp (by omega) hL (by rw[KL];exact hl) (Pi p.text sl p.off.toNat _ (by omega) (λj s hj hs=>hf j s (by omega) hs)) (λq hq=>ht q (List.mem_cons_of_mem _ hq))
   refine⟨r2, ?_⟩
   rw[kV]
   rw[show(iK v0 v1 v2 v3 [p] v5 v7 v9 0 (r,mt w sl,ju w sl)).nice= .next (({r1 with held:=[]}:Recv),mt w (rJ sl p.off.toNat p.text),ju w (rJ sl p.off.toNat p.text)) by
    simp only[PX,iK,dD,show Int.toNat 0=0 from rfl,List.getD_cons_zero]
    rw[bp]
    refine(congrArg (Stp.elim _ _) e1).trans ?_
    rfl]
   simp only[Stp.elim]
   exact e2
theorem abO (v0:Int)(v1:ac)(x:Recv)(w:Nat)(hw:w≤33)(hf: -1≤x.fin):∀(t:ac) (j:Nat) (sl:List Int) (r:Recv),w≤sl.length→(∀i,t[i]? =v1[j+i]?)→∃r2,a9 (λj a=>(nK v0 v1 (w:Int) x j a).nice) 1 t.length (j:Int) (r,mt w sl,ju w sl)= .next (r2,mt w (y5 x v0 (w:Int) sl j t),ju w (y5 x v0 (w:Int) sl j t))
 |[],j,sl,r,hl,ht=>⟨r,rfl⟩
 |b::t,j,sl,r,hl,ht=>by
  have hb:v1[j]? =some b:=by have:=ht 0;simpa using this.symm
  have hbt:ae v1 j=(b.toNat:Int):=by simp[ae,List.getD,hb]
  have hll:(Af x v0 (w:Int) sl j b).length=sl.length:=by unfold Af;split<;>simp
  obtain⟨r2,e⟩:=abO v0 v1 x w hw hf t (j+1) (Af x v0 (w:Int) sl j b) ({r with held:=[]}:Recv) (by rw[hll];exact hl) (λi=>by have:=ht (i+1);simp only[List.getElem?_cons_succ]at this;rw[this];congr 1;omega)
  refine⟨r2, ?_⟩
  have eo:((v0+(j:Int))%4294967296-x.next)%4294967296=(v0+(j:Int)-x.next)%4294967296:=by omega
  have hst:(bif (bif decide ((v0+(j:Int)-x.next)%4294967296<(w:Int))then bif x.fin== -1 then(true,())else(decide ((v0+(j:Int)-x.next)%4294967296<x.fin),())else(false,())).1 then(.next (({r with held:=[]}:Recv),(hU.f ((v0+(j:Int)-x.next)%4294967296,(b.toNat:Int),ju w sl,mt w sl,())).2,(hU.f ((v0+(j:Int)-x.next)%4294967296,(b.toNat:Int),ju w sl,mt w sl,())).1):Stp (Recv×List Int×List Bool) Empty)else .next (({r with held:=[]}:Recv),mt w sl,ju w sl))= .next (({r with held:=[]}:Recv),mt w (Af x v0 (w:Int) sl j b),ju w (Af x v0 (w:Int) sl j b)):=by
   have h0:0≤(v0+(j:Int)-x.next)%4294967296:=by omega
   unfold Af
   generalize(v0+(j:Int)-x.next)%4294967296=o at h0
   by_cases c1:o<(w:Int)
   ·rw[KB w sl o _ h0 c1 hl (by omega)]
    unfold st1
    rw[decide_eq_true c1]
    by_cases c2:x.fin= -1
    ·rw[show(x.fin== -1)=true by simp[c2]]
     by_cases c3:sl.getD o.toNat 0<0
     ·rw[if_pos c3,if_pos ⟨c1,.inl (by omega),c3⟩];rfl
     ·rw[if_neg c3,if_neg (λh=>c3 h.2.2)];rfl
    ·rw[show(x.fin== -1)=false by simp[c2]]
     by_cases c4:o<x.fin
     ·rw[decide_eq_true c4]
      by_cases c3:sl.getD o.toNat 0<0
      ·rw[if_pos c3,if_pos ⟨c1,.inr c4,c3⟩];rfl
      ·rw[if_neg c3,if_neg (λh=>c3 h.2.2)];rfl
     ·rw[decide_eq_false c4,if_neg (show¬(o<(w:Int)∧(x.fin<0∨o<x.fin)∧sl.getD o.toNat 0<0) from λh=>h.2.1.elim (λh=>by omega) c4)];rfl
   ·rw[decide_eq_false c1,if_neg (show¬(o<(w:Int)∧(x.fin<0∨o<x.fin)∧sl.getD o.toNat 0<0) from λh=>c1 h.1)];rfl
  simp only[List.length_cons,a9,PX,nK,bZ,qJ,eo,ah,hbt,y5]
  rw[hst]
  simp only[Stp.elim]
  rw[show(j:Int)+1=((j+1:Nat):Int) by omega]
  simp only[PX,nK,bZ,qJ]at e
  exact e
theorem LY {f:Int→Recv→Stp Recv (Int×Recv)}{g:Recv→Recv}(w:Nat)(sl:List Int)(hl:w≤sl.length)(hf:∀(j:Nat) r,f (j:Int) r=bif (ju w sl).getD j false then .next (g r)else .out ((j:Int),g r))(i:Nat)(hi:i+aG (sl.drop i)≤w):∀(n j:Nat) (r:Recv),j+n=w→i≤j→j≤i+aG (sl.drop i)→∃r2,(i+aG (sl.drop i)<w∧a9 f 1 n (j:Int) r= .out (((i+aG (sl.drop i):Nat):Int),r2))∨(i+aG (sl.drop i)=w∧a9 f 1 n (j:Int) r= .next r2)
 |0,j,r,h,_,h2=>⟨r,.inr ⟨by omega,rfl⟩⟩
 |n+1,j,r,h,h1,h2=>by
  have hj:j<w:=by omega
  rcases Nat.eq_or_lt_of_le h2 with h3|h3
  ·refine⟨g r,.inl ⟨by omega, ?_⟩⟩
   have hjl:j<sl.length:=by omega
   have hneg:=DU (sl.drop i) sl[j] (by rw[List.getElem?_drop,show i+aG (sl.drop i)=j by omega];exact List.getElem?_eq_getElem hjl)
   simp only[a9,hf]
   rw[tR w sl j hj hl,getD_some (List.getElem?_eq_getElem hjl),decide_eq_false (by omega),←h3]
   rfl
  ·obtain⟨s,hs1,pE⟩:=sa (sl.drop i) (j-i) (by omega)
   rw[List.getElem?_drop,show i+(j-i)=j by omega]at hs1
   obtain⟨r2,h4⟩:=LY (g:=g) w sl hl hf i hi n (j+1) (g r) (by omega) (by omega) (by omega)
   refine⟨r2, ?_⟩
   have e:a9 f 1 (n+1) (j:Int) r=a9 f 1 n ((j+1:Nat):Int) (g r):=by
    simp only[a9,hf]
    rw[tR w sl j hj hl,getD_some hs1,decide_eq_true pE]
    simp only[cond_true,Stp.elim]
    rw[show(j:Int)+1=((j+1:Nat):Int) by omega]
   rw[e];exact h4
theorem yu:∀(k k':Nat) (i:Int) (r:List Int),r.length≤k→r.length≤k'→cA k i r=cA k' i r
 |0,k',_,r,h,_=>by
  have:r=[]:=List.eq_nil_of_length_eq_zero (by omega)
  subst this;cases k'<;>simp[cA]
 |k+1,0,_,r,_,h=>by
  have:r=[]:=List.eq_nil_of_length_eq_zero (by omega)
  subst this;simp[cA]
 |k+1,k'+1,i,[],_,_=>by simp[cA]
 |k+1,k'+1,i,s::r,h1,h2=>by
  simp only[List.length_cons]at h1 h2
  simp only[cA]
  have hd:(r.dropWhile (λx=>decide (0≤x))).length≤r.length:=(List.dropWhile_sublist _).length_le
  rw[yu k k' (i+1) r (by omega) (by omega),yu k k' _ (r.dropWhile (λx=>decide (0≤x))) (by omega) (by omega)]
theorem TG (w:Nat)(sl:List Int)(i n:Nat)(h:i+n≤w)(hn:∀(j:Nat) (s:Int),i≤j→j<i+n→sl[j]? =some s→0≤s):((mt w sl).take (i+n)).drop i=(sl.drop i).take n:=by
 apply List.ext_getElem?
 intro k
 unfold mt
 rw[List.getElem?_drop,List.getElem?_take,List.getElem?_take,List.getElem?_drop,List.getElem?_map,List.getElem?_take]
 by_cases hk:k<n
 ·rw[if_pos (by omega),if_pos hk,if_pos (by omega)]
  cases hs:sl[i+k]? with
  |none=>rfl
  |some s=>
   have:=hn (i+k) s (by omega) (by omega) hs
   simp only[Option.map_some,if_neg (show¬s<0 by omega)]
 ·rw[if_neg (by omega),if_neg hk]
theorem Iw {p:Int→Bool}(r:List Int):r.take (r.takeWhile p).length=r.takeWhile p:=by
 have h:=List.takeWhile_append_dropWhile (p:=p) (l:=r)
 conv=>lhs;arg 2;rw[←h]
 rw[List.take_left'];rfl
theorem Lw {p:Int→Bool}(r:List Int):r.drop (r.takeWhile p).length=r.dropWhile p:=by
 have h:=List.takeWhile_append_dropWhile (p:=p) (l:=r)
 conv=>lhs;arg 2;rw[←h]
 rw[List.drop_left'];rfl
theorem We (v4:Recv)(w:Nat)(sl:List Int)(hw:w≤32)(hl:sl.length=33)(hneg:∀(j:Nat) (s:Int),w≤j→sl[j]? =some s→s<0)(n:Nat):∀(m i:Nat) (r o:Recv),i≤w→w-i<m→n≤i→∃r2,bI (λa=>(gp (w:Int) (n:Int) v4 (ju w sl) (mt w sl) a).nice) m ((i:Int),r,o)=(r2,{o with held:=o.held++cA 33 ((i:Int)-(n:Int)) (sl.drop i)})
 |0,i,r,o,_,h,_=>by omega
 |m+1,i,r,o,hi,hm,hn=>by
  rcases Nat.eq_or_lt_of_le hi with h|h
  ·subst h
   refine⟨{r with held:=[]}, ?_⟩
   rw[Iu 33 _ (sl.drop i) (λs hs=>by
    obtain⟨p,hp,rfl⟩:=List.getElem_of_mem hs
    rw[List.getElem_drop]
    exact hneg (i+p) _ (by omega) (List.getElem?_eq_getElem (by rw[List.length_drop]at hp;omega))),List.append_nil]
   simp only[bI,PX,gp,decide_eq_false (show¬((i:Int)<(i:Int)) by omega),cond_false,Stp.elim]
  ·have hil:i<sl.length:=by omega
   have hd:sl.drop i=sl[i]::sl.drop (i+1):=List.drop_eq_getElem_cons hil
   have hdl:(sl.drop (i+1)).length≤32:=by rw[List.length_drop];omega
   by_cases hs:sl[i]<0
   ·obtain⟨r2,e⟩:=We v4 w sl hw hl hneg n m (i+1) ({r with held:=[]}:Recv) o (by omega) (by omega) (by omega)
    refine⟨r2, ?_⟩
    rw[hd,show cA 33 ((i:Int)-(n:Int)) (sl[i]::sl.drop (i+1))=cA 33 (((i+1:Nat):Int)-(n:Int)) (sl.drop (i+1)) by
     rw[←yu 32 33 _ (sl.drop (i+1)) hdl (by omega)]
     simp only[cA,if_pos hs]
     congr 1;omega]
    rw[←e]
    rw[bI]
    rw[show(gp (w:Int) (n:Int) v4 (ju w sl) (mt w sl) ((i:Int),r,o)).nice= .next (((i+1:Nat):Int),({r with held:=[]}:Recv),o) by
     simp only[PX,gp,decide_eq_true (show((i:Int)<(w:Int)) by omega),cond_true,ah]
     rw[tR w sl i h (by omega),getD_some (List.getElem?_eq_getElem hil),decide_eq_false (by omega),ar (by omega) (by omega)]
     rfl]
    rfl
   ·have hlead:i+aG (sl.drop i)≤w:=by
     apply Nat.le_of_not_lt
     intro hc
     obtain⟨s,h1,h2⟩:=sa (sl.drop i) (w-i) (by omega)
     rw[List.getElem?_drop,show i+(w-i)=w by omega]at h1
     have:=hneg w s (Nat.le_refl _) h1
     omega
    have hle:aG (sl.drop i)=1+((sl.drop (i+1)).takeWhile (λx=>decide (0≤x))).length:=by
     unfold aG
     rw[hd,List.takeWhile_cons,decide_eq_true (show 0≤sl[i] by omega)]
     simp only[if_true,List.length_cons];omega
    obtain⟨r1,e1⟩:=LY (g:=λr:Recv=>({r with held:=[]}:Recv)) (f:=λj a=>(og (ju w sl) j a).nice) w sl (by omega) (λj r=>by
     simp only[PX,og,ah]) i hlead (w-i) i ({r with held:=[]}:Recv) (by omega) (Nat.le_refl _) (by omega)
    have hseg:((mt w sl).take (i+aG (sl.drop i))).drop i=sl[i]::(sl.drop (i+1)).takeWhile (λx=>decide (0≤x)):=by
     rw[TG w sl i (aG (sl.drop i)) hlead (λj s h1 h2 h3=>by
      obtain⟨s2,h4,h5⟩:=sa (sl.drop i) (j-i) (by omega)
      rw[List.getElem?_drop,show i+(j-i)=j by omega,h3]at h4
      cases h4;exact h5)]
     have:aG (sl.drop i)=((sl.drop i).takeWhile (λx=>decide (0≤x))).length:=rfl
     rw[this,Iw,hd,List.takeWhile_cons,decide_eq_true (show 0≤sl[i] by omega)]
     rfl
    have hdd:sl.drop (i+aG (sl.drop i))=(sl.drop (i+1)).dropWhile (λx=>decide (0≤x)):=by
     rw[hle,←Nat.add_assoc,←List.drop_drop,Lw]
    have hr:cA 33 ((i:Int)-(n:Int)) (sl.drop i)=⟨(i:Int)-(n:Int),av (sl[i]::(sl.drop (i+1)).takeWhile (λx=>decide (0≤x)))⟩::cA 33 (((i+aG (sl.drop i):Nat):Int)-(n:Int)) (sl.drop (i+aG (sl.drop i))):=by
     conv=>lhs;rw[hd]
     rw[hdd]
     have hdw:((sl.drop (i+1)).dropWhile (λx=>decide (0≤x))).length≤32:=Nat.le_trans (List.dropWhile_sublist _).length_le hdl
     rw[←yu 32 33 _ _ hdw (by omega)]
     simp only[cA,if_neg hs]
     congr 2;omega
    rw[hr]
    have hstep:∃r3:Recv,(gp (w:Int) (n:Int) v4 (ju w sl) (mt w sl) ((i:Int),r,o)).nice= .next (((i+aG (sl.drop i):Nat):Int),r3,({o with held:=o.held++[⟨(i:Int)-(n:Int),av (sl[i]::(sl.drop (i+1)).takeWhile (λx=>decide (0≤x)))⟩]}:Recv)):=by
     simp only[PX,gp,decide_eq_true (show((i:Int)<(w:Int)) by omega),cond_true,ah,ep]
     rw[tR w sl i h (by omega),getD_some (List.getElem?_eq_getElem hil),decide_eq_true (show 0≤sl[i] by omega),ar (m:=(i:Int)-(n:Int)) (by omega) (by omega)]
     simp only[Bool.not_true,cond_false]
     rw[show Int.toNat ((w:Int)-(i:Int))=w-i by omega]
     rcases e1 with⟨h1,h2⟩|⟨h1,h2⟩
     ·rw[h2]
      simp only[Stp.elim,Sum.elim_inl,ah,hseg]
      exact⟨_,rfl⟩
     ·rw[h2]
      rw[h1]at hseg
      simp only[Stp.elim,Sum.elim_inr,h1]
      rw[show(i:Int)+1*((w-i:Nat):Int)=(w:Int) by omega,ah,hseg]
      exact⟨_,rfl⟩
    obtain⟨r3,hst⟩:=hstep
    obtain⟨r2,e⟩:=We v4 w sl hw hl hneg n m (i+aG (sl.drop i)) r3 ({o with held:=o.held++[⟨(i:Int)-(n:Int),av (sl[i]::(sl.drop (i+1)).takeWhile (λx=>decide (0≤x)))⟩]}:Recv) hlead (by omega) (by omega)
    refine⟨r2, ?_⟩
    rw[bI,hst]
    simp only[Stp.elim]
    rw[e]
    simp only[List.append_assoc,List.singleton_append]
def HN (x:Recv)(w:Nat)(sl:List Int)(z o:Recv):Tr Recv:=
 .lp (dK ((w:Int),(aG sl:Int),(aG sl:Int),({z with held:=[]}:Recv),x,ju w sl,({o with held:=[]}:Recv),mt w sl,())).lp λp=>
  .ite (decide (3<(p.2.held.length:Int))) (.ret x)<| .ite (p.2.fin==0) (.val ((p.2.next+1)%4294967296) λc=> .ret (⟨c,p.2.data,p.2.held,-1,true⟩:Recv))<| .ret p.2
theorem PA (x:Recv)(w:Nat)(sl:List Int)(z o:Recv)(hw:w≤32)(hl:sl.length=33)(hneg:∀(j:Nat) (s:Int),w≤j→sl[j]? =some s→s<0)(hld:aG sl≤w):(HN x w sl z o).nice=if 3<(cA 33 0 (sl.drop (aG sl))).length then x else if o.fin=0 then(⟨(o.next+1)%4294967296,o.data,cA 33 0 (sl.drop (aG sl)),-1,true⟩:Recv)else⟨o.next,o.data,cA 33 0 (sl.drop (aG sl)),o.fin,o.done⟩:=by
 obtain⟨r5,e5⟩:=We x w sl hw hl hneg (aG sl) (w-aG sl+1) (aG sl) ({z with held:=[]}:Recv) ({o with held:=[]}:Recv) hld (by omega) (Nat.le_refl _)
 rw[Int.sub_self]at e5
 simp only[HN,PX,dK]
 rw[show Int.toNat ((w:Int)-(aG sl:Int))=w-aG sl by omega,e5]
 simp only[List.nil_append]
 by_cases h3:3<(cA 33 0 (sl.drop (aG sl))).length
 ·rw[if_pos h3,decide_eq_true (show(3:Int)<((cA 33 0 (sl.drop (aG sl))).length:Int) by omega)];rfl
 ·rw[if_neg h3,decide_eq_false (show¬(3:Int)<((cA 33 0 (sl.drop (aG sl))).length:Int) by omega)]
  by_cases h0:o.fin=0
  ·rw[if_pos h0,show(o.fin==0)=true by simp[h0]];rfl
  ·rw[if_neg h0,show(o.fin==0)=false by simp[h0]];rfl
theorem Sa (x:Recv)(w:Nat)(sl:List Int)(z:Recv)(F f:Int)(hw:w≤32)(hl:sl.length=33)(hneg:∀(j:Nat) (s:Int),w≤j→sl[j]? =some s→s<0)(hld:aG sl≤w)(hF: -1≤F)(hdn:x.done=false)(hn:0≤x.next)(hf:(F= -1∧f=F)∨(F≠-1∧f=F-(aG sl:Int))):(HN x w sl z (⟨(x.next+(aG sl:Int))%4294967296,x.data++av (sl.take (aG sl)),x.held,f,false⟩:Recv)).nice=RK x sl F:=by
 rw[PA x w sl z _ hw hl hneg hld]
 unfold RK
 by_cases h3:3<(cA 33 0 (sl.drop (aG sl))).length
 ·rw[if_pos h3,if_pos h3]
 ·rw[if_neg h3,if_neg h3]
  simp only[]
  rcases hf with⟨h1,h2⟩|⟨h1,h2⟩
  ·rw[if_neg (show¬f=0 by omega),if_neg (show¬F-(aG sl:Int)=0 by omega),if_pos h1,h2,h1,hdn]
  ·by_cases h4:F-(aG sl:Int)=0
   ·rw[if_pos (show f=0 by omega),if_pos h4,show((x.next+(aG sl:Int))%4294967296+1)%4294967296=(x.next+(aG sl:Int)+1)%4294967296 by omega]
   ·rw[if_neg (show¬f=0 by omega),if_neg h4,if_neg h1,h2,hdn]
theorem NH {α β:Type}{K:α→β}{r:β}{s:α⊕α}(P:α→Prop)(hs:Sum.elim P P s)(h:∀z,P z→K z=r):Sum.elim K K s=r:=by
 cases s with
 |inl a=>exact h a hs
 |inr a=>exact h a hs
theorem adM (x:Recv)(hx:RV x):∃w:Nat,pB x=(w:Int)∧w≤32:=by
 have:=pT x hx.dl
 exact⟨(pB x).toNat,by omega,by omega⟩
theorem NA (xs:List Bool)(t:Bool):qf.f (xs,t,())=gD (λb=>t==b) xs:=by
 simp only[PX,qf,dW]
 rw[ml (λb=>t==b) xs (λj x a h=>by
  simp only[PX,sF,ah,getD_some h])]
 unfold gD
 cases xs.findIdx? (λb=>t==b)<;>rfl
theorem DR (xs:List Bool)(t:Bool):fo.f (xs,t,())=xs.any (λb=>t==b):=by
 simp only[PX,fo,NA,ly]
theorem Rg (x:Recv)(seq:Int)(t:ac)(fin:Bool)(hs:ca x.held):t6.f (x,seq,t,fin,())=ng x seq t fin:=by
 simp only[PX,t6,wd]
 unfold ng
 cases hok:bP.f (x,())with
 |false=>rfl
 |true=>
 cases hdn:x.done with
 |true=>rfl
 |false=>
 have hx:=(rD x hs).1 hok
 have hpo:eb po x.held:=KY x hx
 obtain⟨w,hwe,hw⟩:=adM x hx
 have hsl:=H6 x hx seq t
 have hn0:=hx.n0
 have hn1:=hx.n1
 have hf0:=hx.f0
 have hf1:=hx.f1
 obtain⟨bb,hwk⟩:=hx.wk
 simp only[Bool.not_true,cond_false,iU x hx.dl,hwe,ge,f8,ah]
 have z1:List.replicate w (0:Int)=mt w (List.replicate 33 (-1)):=by
  unfold mt;rw[List.take_replicate,Nat.min_eq_left (by omega),List.map_replicate];rfl
 have z2:List.replicate w false=ju w (List.replicate 33 (-1)):=by
  unfold ju;rw[List.take_replicate,Nat.min_eq_left (by omega),List.map_replicate];rfl
 rw[z1,z2]
 obtain⟨r1,e1⟩:=Xd seq t fin (w:Int) x.held (x.held.length:Int) x x w (by omega) x.held 0 0 bb _ (List.replicate 33 (-1)) (⟨0,[],[],0,false⟩:Recv) hwk (Int.le_refl _) (by split<;>omega) (by rw[List.length_replicate];omega) (λj s _ h=>by
  have:=List.eq_of_mem_replicate (List.mem_of_getElem? h);omega) (λp hp=>by have:=hpo p hp;unfold po at this;omega)
 rw[eu x.held _ (bp _) (F:=λ_ p (a:Recv×List Int×List Bool)=>(iK seq t fin (w:Int) [p] (x.held.length:Int) x x 0 a).nice) (by
  intro j p a hp
  simp only[PX,iK,dD,ah,getD_some hp,show Int.toNat 0=0 from rfl,List.getD_cons_zero])]
 rw[e1]
 simp only[Stp.elim]
 have hsn:x.held.foldl (λsl p=>rJ sl p.off.toNat p.text) (List.replicate 33 (-1))=n9 x.held:=rfl
 rw[hsn]
 obtain⟨r2,e2⟩:=abO seq t x w (by omega) hf0 t 0 (n9 x.held) ({r1 with held:=[]}:Recv) (by unfold n9;rw[qO,List.length_replicate];omega) (λi=>by rw[Nat.zero_add])
 rw[show((0:Nat):Int)=0 from rfl]at e2
 rw[bp,e2]
 simp only[Stp.elim,bZ,qJ]
 have hL:y5 x seq (w:Int) (n9 x.held) 0 t=J5 x seq t:=by unfold J5;rw[hwe]
 rw[hL]
 have hL2:y5 x seq (pB x) (n9 x.held) 0 t=J5 x seq t:=rfl
 rw[hL2]at hsl
 have ee:((seq+(t.length:Int))%4294967296-x.next)%4294967296=(seq+(t.length:Int)-x.next)%4294967296:=by omega
 rw[ee]
 have he0:0≤(seq+(t.length:Int)-x.next)%4294967296:=by omega
 generalize(seq+(t.length:Int)-x.next)%4294967296=e at he0
 generalize J5 x seq t=sl at hsl
 clear e1 e2 hL hL2 hsn z1 z2 ee
 obtain⟨hl,hat⟩:=hsl
 have hneg:∀(j:Nat) (s:Int),w≤j→sl[j]? =some s→s<0:=λj s hj h=>by
  apply Int.not_le.1
  intro h0
  have:=(hat j s h).2.2 h0
  rw[hwe]at this hf1
  split at this<;>omega
 have hany:(ju w sl).drop e.toNat=((sl.drop e.toNat).take (w-e.toNat)).map (λs=>decide (0≤s)):=by
  unfold ju
  rw[←List.map_drop,List.drop_take]
 have hcont:e≤(w:Int)→fo.f (((ju w sl).take (ju w sl).length).drop e.toNat,true,())= !(sl.drop e.toNat).all (λs=>decide (s<0)):=by
  intro hew
  rw[List.take_length,DR,hany]
  rw[Bool.eq_iff_iff]
  simp only[List.any_eq_true,List.mem_map,Bool.not_eq_true',List.all_eq_false]
  constructor
  ·rintro⟨b,⟨s,hs1,rfl⟩,hb⟩
   refine⟨s,List.mem_of_mem_take hs1, ?_⟩
   simp at hb⊢;omega
  ·rintro⟨s,hs1,pE⟩
   refine⟨true,⟨s, ?_, ?_⟩,rfl⟩
   ·obtain⟨k,hk,rfl⟩:=List.getElem_of_mem hs1
    rw[List.getElem_drop]at pE⊢
    have hk2:e.toNat+k<w:=by
     apply Nat.lt_of_not_le
     intro hc
     have:=hneg (e.toNat+k) _ hc (List.getElem?_eq_getElem (by rw[List.length_drop]at hk;omega))
     simp at pE;omega
    rw[List.mem_take_iff_getElem]
    refine⟨k,by rw[List.length_drop];omega, ?_⟩
    rw[List.getElem_drop]
   ·simp at pE⊢;omega
 have hF0: -1≤Lt x sl e fin:=by unfold Lt;split<;>omega
 have hF1:Lt x sl e fin≤(w:Int):=by unfold Lt;rw[hwe]at hf1⊢;split<;>omega
 have hcond:(bif (bif fin then bif x.fin== -1 then bif decide (e≤(w:Int))then(!fo.f (((ju w sl).take (ju w sl).length).drop e.toNat,true,()),())else(false,())else(false,())else(false,())).1 then((w:Int),x,({r2 with held:=[]}:Recv),x,ju w sl,(⟨x.next,x.data,x.held,e,false⟩:Recv),mt w sl,())else((w:Int),x,({r2 with held:=[]}:Recv),x,ju w sl,x,mt w sl,()))=((w:Int),x,({r2 with held:=[]}:Recv),x,ju w sl,(⟨x.next,x.data,x.held,Lt x sl e fin,x.done⟩:Recv),mt w sl,()):=by
  unfold Lt
  cases fin with
  |false=>simp
  |true=>
   by_cases c1:x.fin= -1
   ·rw[show(x.fin== -1)=true by simp[c1]]
    by_cases c2:e≤(w:Int)
    ·rw[decide_eq_true c2,hcont c2,hwe]
     cases hall:(sl.drop e.toNat).all (λs=>decide (s<0))with
     |true=>simp only[cond_true,Bool.not_true,Bool.not_false,true_and,if_pos (show x.fin<0∧e≤(w:Int)∧True from⟨by omega,c2,trivial⟩),hdn]
     |false=>simp
    ·rw[decide_eq_false c2,hwe,if_neg (λh=>c2 h.2.2.1)];rfl
   ·rw[show(x.fin== -1)=false by simp[c1],if_neg (λh=>by have:=h.2.1;omega)];rfl
 have hld0:aG sl≤w:=by
  apply Nat.le_of_not_lt
  intro hc
  obtain⟨s,h1,h2⟩:=sa sl w hc
  have:=hneg w s (Nat.le_refl _) h1
  omega
 obtain⟨r3,e3⟩:=LY (g:=λr:Recv=>({r with held:=[]}:Recv)) (f:=λj a=>(rO (ju w sl) j a).nice) w sl (by omega) (λj r=>by
  simp only[PX,rO,ah]) 0 (by rw[List.drop_zero,Nat.zero_add];exact hld0) w 0 ({r2 with held:=[]}:Recv) (by omega) (Nat.le_refl _) (Nat.zero_le _)
 rw[List.drop_zero,Nat.zero_add,show((0:Nat):Int)=0 from rfl]at e3
 have hdat:av (((mt w sl).take (aG sl)).drop 0)=av (sl.take (aG sl)):=by
  have:=TG w sl 0 (aG sl) (by omega) (λj s _ h2 h3=>by
   obtain⟨s2,h4,h5⟩:=sa sl j (by omega)
   rw[h3]at h4;cases h4;exact h5)
  rw[Nat.zero_add]at this
  rw[this,List.drop_zero]
 generalize hF:Lt x sl e fin=F at hF0 hF1 hcond⊢
 generalize(bif fin then bif x.fin== -1 then bif decide (e≤(w:Int))then(!fo.f (((ju w sl).take (ju w sl).length).drop e.toNat,true,()),())else(false,())else(false,())else(false,())).1=b at hcond⊢
 rw[if_pos (⟨trivial,trivial⟩:True∧True)]
 have hE:∀(z:Recv),(HN x w sl z (⟨(x.next+(aG sl:Int))%4294967296,x.data++av (sl.take (aG sl)),x.held,if F= -1 then F else F-(aG sl:Int),false⟩:Recv)).nice=RK x sl F:=λz=>Sa x w sl z F _ hw hl hneg hld0 hF0 hdn hn0 (by
  by_cases hh:F= -1
  ·exact .inl ⟨hh,if_pos hh⟩
  ·exact .inr ⟨hh,if_neg hh⟩)
 have hwr:IntKind.wrap .i64 (F-(aG sl:Int))=F-(aG sl:Int):=ar (by omega) (by omega)
 cases b with
 |true=>
  simp only[cond_true]at hcond⊢
  have hfin:e=F:=(by simpa using congrArg (λp=>p.2.2.2.2.2.1.fin) hcond)
  clear hcond
  dsimp only[Tr.nice]
  simp only[PX,eK,hfin]
  rw[show Int.toNat ((w:Int)-0)=w by omega]
  rcases e3 with⟨h1,h2⟩|⟨h1,h2⟩<;>refine(congrArg (Stp.elim _ _) h2).trans ?_ <;>simp only[Stp.elim]<;>refine NH (λz:Int×Recv=>z.1=(aG sl:Int)) (by first|rfl|(show(0:Int)+1*((w:Nat):Int)=_;omega)) ?_ <;>rintro⟨z1,z2⟩ hz<;>simp only[]at hz<;>subst hz<;>simp only[Bu,ah,hdat,hwr]<;>by_cases hF2:F= -1
  all_goals (have hE2:=hE z2)
  all_goals (first|rw[if_pos hF2]at hE2|rw[if_neg hF2]at hE2)
  ·rw[show(F != -1)=false by simp[hF2]];exact hE2
  ·rw[show(F != -1)=true by simp[hF2]];exact hE2
  ·rw[show(F != -1)=false by simp[hF2]];exact hE2
  ·rw[show(F != -1)=true by simp[hF2]];exact hE2
 |false=>
  simp only[cond_false]at hcond⊢
  have hfin:x.fin=F:=(by simpa using congrArg (λp=>p.2.2.2.2.2.1.fin) hcond)
  clear hcond
  dsimp only[Tr.nice]
  simp only[PX,eK,hfin,hdn]
  rw[show Int.toNat ((w:Int)-0)=w by omega]
  rcases e3 with⟨h1,h2⟩|⟨h1,h2⟩<;>refine(congrArg (Stp.elim _ _) h2).trans ?_ <;>simp only[Stp.elim]<;>refine NH (λz:Int×Recv=>z.1=(aG sl:Int)) (by first|rfl|(show(0:Int)+1*((w:Nat):Int)=_;omega)) ?_ <;>rintro⟨z1,z2⟩ hz<;>simp only[]at hz<;>subst hz<;>simp only[Bu,ah,hdat,hwr]<;>by_cases hF2:F= -1
  all_goals (have hE2:=hE z2)
  all_goals (first|rw[if_pos hF2]at hE2|rw[if_neg hF2]at hE2)
  ·rw[show(F != -1)=false by simp[hF2]];exact hE2
  ·rw[show(F != -1)=true by simp[hF2]];exact hE2
  ·rw[show(F != -1)=false by simp[hF2]];exact hE2
  ·rw[show(F != -1)=true by simp[hF2]];exact hE2
theorem WE (s:Sndr)(ack:Int):HY.f (s,ack,())=if ud s ack=true then(cI s (rS ack s.una),true)else(s,false):=by
 simp only[PX,HY,uS,aw,bZ]
 unfold ud
 cases hk:bE.f (s,())with
 |false=>rfl
 |true=>
  have hs:=(LH s).1 hk
  simp only[tP s hs]
  obtain⟨e1,e2,e3,e4,e5,e6,e7⟩:=hs
  generalize rS ack s.una=n
  simp only[Bool.not_true,cond_false,Bool.true_and]
  by_cases hn:0≤n∧n≤HV s
  ·rw[decide_eq_true hn.1,decide_eq_true hn.2]
   simp only[Bool.and_self,Bool.not_true,cond_false,if_true]
   have hfl:=hn.2
   unfold HV at hfl
   unfold cI
   by_cases hc:s.sent<n
   ·have hf:s.finSent=true:=by
     cases hfs:s.finSent with
     |true=>rfl
     |false=>rw[hfs]at hfl;simp only[Bool.false_eq_true,if_false]at hfl;omega
    have hl:=(e6 hf).2
    rw[hf]at hfl;simp only[if_true]at hfl
    have e:(if(s.data.length:Int)<n then(s.data.length:Int)else n)=s.sent:=by rw[if_pos (by omega)];omega
    simp only[if_pos hc,e]
    rw[ar (m:=s.sent+1) (by omega) (by omega),show(n==s.sent+1)=true by simp;omega,ar (by omega) (by omega)]
    simp only[PX,ah,List.take_length,cond_true]
   ·have e:(if(s.data.length:Int)<n then(s.data.length:Int)else n)=n:=by rw[if_neg (by omega)]
    simp only[if_neg hc,e]
    rw[ar (m:=s.sent+1) (by omega) (by omega),show(n==s.sent+1)=false by simp;omega,ar (by omega) (by omega)]
    simp only[PX,ah,List.take_length,cond_false]
  ·have e:(decide (0≤n)&&decide (n≤HV s))=false:=by
    rw[Bool.and_eq_false_iff];simp only[decide_eq_false_iff_not];omega
   rw[e];rfl
theorem Vr (w sc:Int)(h0:0≤w)(h1:w≤65535)(h2:sc≤14):IntKind.wrap .i64 (w*2 ^ (min (if sc<0 then 0 else sc).toNat 64))=jh w sc∧jh w sc≤1073725440:=by
 have hr:=KG w sc h0 h1 h2
 have hk:(if sc<0 then 0 else sc).toNat≤14:=by split<;>omega
 rw[Nat.min_eq_left (by omega)]
 unfold jh at hr⊢
 exact⟨ar (by omega) (by omega),hr.2⟩
theorem ES (w:Int)(o:Opti)(h0:0≤w)(h1:w≤65535)(h2:o.scale≤14):xp.f (w,o,())=jh w o.scale:=by
 obtain⟨e1,e2⟩:=Vr w o.scale h0 h1 h2
 simp only[PX,xp,e1]
 rw[if_neg (by omega)]
theorem LL (n:Int)(h0:0≤n)(h1:n≤100):IntKind.wrap .u64 n=n:=by rw[yj];omega
theorem Rj (x:Conn):bV.f (x,())=(bV.f ({x with tries:=0},())&&(decide (0≤x.tries)&&decide (x.tries≤3))):=by
 rw[Kk,Kk]
 simp only[]
 generalize aJ.f (x.tuple,())=b1
 generalize bE.f (x.s,())=b2
 generalize bP.f (x.r,())=b3
 generalize az.f (x.opts,())=b4
 generalize(decide (1≤x.state)&&decide (x.state≤8))=b5
 generalize(decide (0≤x.most)&&decide (x.most≤1073725440))=b6
 generalize(decide (0≤x.window)&&decide (x.window≤x.most))=b7
 generalize(decide (0≤x.timer)&&bif x.state==7 then decide (x.timer≤4)else decide (x.timer≤3))=b8
 generalize(decide (0≤x.tries)&&decide (x.tries≤3))=b9
 generalize kst x.state x.s.fin x.s.done x.r.done=b10
 have z:(decide ((0:Int)≤0)&&decide ((0:Int)≤3))=true:=rfl
 rw[z]
 cases b1<;>cases b2<;>cases b3<;>cases b4<;>cases b5<;>cases b6<;>cases b7<;>cases b8<;>simp[Bool.and_comm]
def Xt (x:Conn)(k:Int):Conn:=bif (bif !bV.f ({x with state:=k,timer:=0},())then(true,())else(!(decide (0≤x.timer)&&decide (x.timer≤4)),())).1 then x else bif k==7 then{x with state:=k,timer:=4,tries:=0}else bif k==8 then{x with state:=k,timer:=0,tries:=0}else{x with state:=k}
theorem W3 (x:Conn)(hk:oD x.state x.s.done x.r.done≠x.state):Xt x (oD x.state x.s.done x.r.done)=dL x:=by
 unfold Xt dL K6
 rw[Rj]
 simp only[]
 generalize oD x.state x.s.done x.r.done=k at hk
 rw[if_neg hk]
 generalize(decide (0≤x.timer)&&decide (x.timer≤4))=b1
 generalize(decide (0≤x.tries)&&decide (x.tries≤3))=b2
 cases bV.f (({x with state:=k,timer:=0,tries:=0}:Conn),())with
 |false=>rfl
 |true=>
 cases b1 with
 |false=>cases b2<;>rfl
 |true=>
 cases b2 with
 |false=>rfl
 |true=>
 simp only[Bool.not_true,cond_false,Bool.and_self,if_true]
 by_cases h7:k=7
 ·subst h7;rfl
 ·rw[if_neg h7,show(k==7)=false by simp[h7]]
  simp only[cond_false]
  by_cases h8:k=8
  ·subst h8;rfl
  ·rw[if_neg h8,show(k==8)=false by simp[h8]];rfl
theorem Q6 (x:Conn)(hk:oD x.state x.s.done x.r.done=x.state):dL x=x:=by
 unfold dL
 split
 ·rfl
 ·rfl
theorem F4 (x:Conn):rG.f (x,())=dL x:=by
 simp only[PX,rG,d8,aw]
 have t1:=W3 x
 have t2:=Q6 x
 have hst:x.state=1∨x.state=2∨x.state=3∨x.state=5∨x.state=6∨(x.state≠1∧x.state≠2∧x.state≠3∧x.state≠5∧x.state≠6):=by omega
 rcases hst with h|h|h|h|h|⟨h1,h2,h3,h5,h6⟩
 case inr.inr.inr.inr.inr=>
  have e:oD x.state x.s.done x.r.done=x.state:=by
   unfold oD;rw[if_neg h1,if_neg h2,if_neg h3,if_neg h5,if_neg h6]
  rw[t2 e,show(x.state==1)=false by simp[h1],show(x.state==2)=false by simp[h2],show(x.state==3)=false by simp[h3],show(x.state==5)=false by simp[h5],show(x.state==6)=false by simp[h6]]
  rfl
 all_goals (rw[h]at t1 t2⊢;cases hs:x.s.done<;>cases hr:x.r.done<;>rw[hs,hr]at t1 t2<;>first|exact(t2 rfl).symm|exact t1 (by decide))
structure V5 (c:Conn)(g:Segm):Prop where
 co:CO c
 s8:c.state≠8
 sg:ak.f (g,())=true
 n4:bB.f (g,4,())=false
 n2:bB.f (g,2,())=false
 fit:R9 c g.ack=true
theorem vd5 (c:Conn)(g:Segm)(h:Dl c g=5):V5 c g:=by
 unfold Dl at h
 cases h1:bV.f (c,())with
 |false=>rw[h1]at h;simp at h
 |true=>
 cases h2:(c.state==8)with
 |true=>rw[h1,h2]at h;simp at h
 |false=>
 cases h3:ak.f (g,())with
 |false=>rw[h1,h2,h3]at h;simp at h
 |true=>
 rw[h1,h2,h3]at h
 simp only[Bool.not_false,Bool.and_self,cond_true]at h
 cases h4:bB.f (g,4,())with
 |true=>
  rw[h4]at h
  simp only[cond_true]at h
  exfalso;revert h
  cases(g.seq==c.r.next)<;>cases vl g.seq c.r.next (pB c.r)<;>simp
 |false=>
 rw[h4]at h
 simp only[cond_false]at h
 cases h5:bB.f (g,2,())with
 |true=>rw[h5]at h;simp at h
 |false=>
 rw[h5]at h
 simp only[cond_false]at h
 refine⟨(Mn c).1 h1,by simpa using h2,h3,h4,h5, ?_⟩
 revert h
 cases Wz c g<;>cases bB.f (g,16,())<;>cases R9 c g.ack<;>simp
theorem bv (g:Segm):ak.f (g,())=true↔((0≤g.from_∧g.from_≤65535)∧(0≤g.to∧g.to≤65535)∧(0≤g.seq∧g.seq≤4294967295)∧(0≤g.ack∧g.ack≤4294967295)∧(0≤g.flags∧g.flags≤63)∧(0≤g.window∧g.window≤65535)∧az.f (g.opts,())=true∧g.body.length≤1420):=by
 simp only[PX,ak,bx,bz,Jt]
 rw[show((g.body.length≤1420)↔decide (((g.body.length:Nat):Int)≤1420)=true) by simp;omega]
 simp only[←Bool.decide_and,Bool.cond_eq_ite,Bool.if_false_right,Bool.decide_eq_true,Bool.and_eq_true,decide_eq_true_eq]
 constructor
 ·rintro⟨a,b,w,s,k,f,o,bd⟩;exact⟨a,b,s,k,f,w,o,bd⟩
 ·rintro⟨a,b,s,k,f,w,o,bd⟩;exact⟨a,b,w,s,k,f,o,bd⟩
theorem Zq (a b:Int):j1.f (a,b,())=if a<b then a else b:=oj a b
theorem L1 (a b:Int):fO.f (a,b,())=if b<a then a else b:=qQ a b
theorem TC (w sc:Int)(h0:0≤w)(h1:w≤65535)(h2:sc≤14):j1.f (1073725440,IntKind.wrap .i64 (w*2 ^ (min (IntKind.wrap .u64 (fO.f (0,sc,()))).toNat 64)),())=jh w sc:=by
 obtain⟨e1,e2⟩:=Vr w sc h0 h1 h2
 rw[L1,show(if sc<0 then(0:Int)else sc)=(if sc<0 then 0 else sc) from rfl,LL _ (by split<;>omega) (by split<;>omega),e1,Zq,if_neg (by omega)]
theorem Jx (a b f k:Int):(bif a != b then(k != 7,())else bif f==0 then(k != 7,())else(false,())).1=decide ((a≠b∨f=0)∧k≠7):=by
 cases h1:(a != b)<;>cases h2:(f==0)<;>cases h3:(k != 7)<;>simp_all
theorem OW (x:Recv)(seq:Int)(t:ac)(fin:Bool)(hx:RV x):ca (ng x seq t fin).held:=(Ik x seq t fin hx).small
theorem Wf (c:Conn)(g:Segm)(hs:ca c.r.held):CF.f (c,g,())=if Dl c g=5 then gv c g else c:=by
 simp only[PX,CF,nZ,B3 c g hs]
 by_cases hv:Dl c g=5
 ·rw[if_pos hv,show(Dl c g != 5)=false by simp[hv]]
  have h:=vd5 c g hv
  have hr:=(rD c.r hs).1 h.co.rcv
  have hb:=eL g h.sg
  have hw:=((bv g).1 h.sg).2.2.2.2.2.1
  have hsc:=(fk c.opts h.co.opt).2
  have hS:=TC g.window c.opts.scale hw.1 hw.2 hsc
  have tl:∀u:Conn,u.r=c.r→(bif cr.f (c.state,1,3,())then rj.f (({u with r:=qB.f (c.r,g.seq,g.body,ic.f (g,1,()),())}:Conn),())else rj.f (u,()))=if 1≤c.state∧c.state≤3 then dL {u with r:=ng c.r g.seq g.body (ic.f (g,1,()))}else dL u:=by
   intro u hu
   rw[QB c.r _ _ _ hs (by omega),ET u (by rw[hu];exact hs),ET _ (OW c.r _ _ _ hr),bK]
   by_cases h3:1≤c.state∧c.state≤3
   ·rw[if_pos h3,decide_eq_true h3.1,decide_eq_true h3.2];rfl
   ·rw[if_neg h3,show(decide (1≤c.state)&&decide (c.state≤3))=false by rw[Bool.and_eq_false_iff];simp only[decide_eq_false_iff_not];omega];rfl
  simp only[WJ,cond_false]
  unfold gv uZ
  by_cases ha:ud c.s g.ack=true
  ·have hso:=JX c.s h.co.snd (rS g.ack c.s.una) (by
    unfold ud at ha;simp only[Bool.and_eq_true,decide_eq_true_eq]at ha;exact ha.2.1) (by
    unfold ud at ha;simp only[Bool.and_eq_true,decide_eq_true_eq]at ha;exact ha.2.2)
   have hM:fO.f (c.most,jh g.window c.opts.scale,())=if c.most<jh g.window c.opts.scale then jh g.window c.opts.scale else c.most:=by
    rw[L1];split<;>split<;>omega
   simp only[if_pos ha,cond_true,x8,tP _ hso.1,hS,hM]
   have hcnd:(bif (cI c.s (rS g.ack c.s.una)).una != c.s.una then(c.state != 7,())else bif HV (cI c.s (rS g.ack c.s.una))==0 then(c.state != 7,())else(false,())).1=decide (((cI c.s (rS g.ack c.s.una)).una≠c.s.una∨HV (cI c.s (rS g.ack c.s.una))=0)∧c.state≠7):=Jx _ _ _ _
   rw[hcnd]
   have tl2:=λ(t r:Int)=>tl ({c with s:=cI c.s (rS g.ack c.s.una),window:=jh g.window c.opts.scale,most:=(if c.most<jh g.window c.opts.scale then jh g.window c.opts.scale else c.most),timer:=t,tries:=r}:Conn) rfl
   by_cases hq:((cI c.s (rS g.ack c.s.una)).una≠c.s.una∨HV (cI c.s (rS g.ack c.s.una))=0)∧c.state≠7
   ·simp only[decide_eq_true hq,if_pos hq,cond_true]
    by_cases h0:0<HV (cI c.s (rS g.ack c.s.una))
    ·simp only[decide_eq_true h0,if_pos h0,cond_true]
     dsimp only[Tr.nice]
     exact tl2 3 0
    ·simp only[decide_eq_false h0,if_neg h0,cond_false]
     dsimp only[Tr.nice]
     exact tl2 0 0
   ·simp only[decide_eq_false hq,if_neg hq,cond_false]
    dsimp only[Tr.nice]
    exact tl2 c.timer c.tries
  ·simp only[if_neg ha,cond_false]
   dsimp only[Tr.nice]
   exact tl c rfl
 ·rw[if_neg hv,show(Dl c g != 5)=true by simp[hv]];rfl
theorem W1 (c:Conn)(g:Segm)(hs:ca c.r.held):CM.f (c,g,())=if Dl c g=5 then gv c g else c:=by
 simp only[PX,CM,d8,BD c g hs]
 by_cases hv:Dl c g=5
 ·rw[if_pos hv,show(Dl c g != 5)=false by simp[hv]]
  have h:=vd5 c g hv
  have hr:=(rD c.r hs).1 h.co.rcv
  have hw:=((bv g).1 h.sg).2.2.2.2.2.1
  have hsc:=(fk c.opts h.co.opt).2
  have tl:∀u:Conn,u.r=c.r→(bif (bif c.state==1 then(true,())else bif c.state==2 then(true,())else(c.state==3,())).1 then rG.f (({u with r:=t6.f (c.r,g.seq,g.body,bB.f (g,1,()),())}:Conn),())else rG.f (u,()))=if 1≤c.state∧c.state≤3 then dL {u with r:=ng c.r g.seq g.body (ic.f (g,1,()))}else dL u:=by
   intro u hu
   rw[Rg c.r _ _ _ hs,F4 u,F4,Og]
   have hk:(bif c.state==1 then(true,())else bif c.state==2 then(true,())else(c.state==3,())).1=decide (1≤c.state∧c.state≤3):=by
    by_cases k1:c.state=1
    ·simp[k1]
    ·by_cases k2:c.state=2
     ·simp[k2]
     ·by_cases k3:c.state=3
      ·simp[k3]
      ·rw[show(c.state==1)=false by simp[k1],show(c.state==2)=false by simp[k2],show(c.state==3)=false by simp[k3],decide_eq_false (by omega)];rfl
   rw[hk]
   by_cases h3:1≤c.state∧c.state≤3
   ·rw[if_pos h3,decide_eq_true h3];rfl
   ·rw[if_neg h3,decide_eq_false h3];rfl
  simp only[WE,cond_false]
  unfold gv uZ
  by_cases ha:ud c.s g.ack=true
  ·have hso:=JX c.s h.co.snd (rS g.ack c.s.una) (by
    unfold ud at ha;simp only[Bool.and_eq_true,decide_eq_true_eq]at ha;exact ha.2.1) (by
    unfold ud at ha;simp only[Bool.and_eq_true,decide_eq_true_eq]at ha;exact ha.2.2)
   simp only[if_pos ha,cond_true,tP _ hso.1,ES _ _ hw.1 hw.2 hsc]
   have hcnd:(bif (cI c.s (rS g.ack c.s.una)).una != c.s.una then(c.state != 7,())else bif HV (cI c.s (rS g.ack c.s.una))==0 then(c.state != 7,())else(false,())).1=decide (((cI c.s (rS g.ack c.s.una)).una≠c.s.una∨HV (cI c.s (rS g.ack c.s.una))=0)∧c.state≠7):=Jx _ _ _ _
   rw[hcnd]
   have tl2:=λ(t r:Int)=>tl ({c with s:=cI c.s (rS g.ack c.s.una),window:=jh g.window c.opts.scale,most:=(if c.most<jh g.window c.opts.scale then jh g.window c.opts.scale else c.most),timer:=t,tries:=r}:Conn) rfl
   by_cases hq:((cI c.s (rS g.ack c.s.una)).una≠c.s.una∨HV (cI c.s (rS g.ack c.s.una))=0)∧c.state≠7
   ·simp only[decide_eq_true hq,if_pos hq,cond_true]
    by_cases h0:0<HV (cI c.s (rS g.ack c.s.una))
    ·simp only[decide_eq_true h0,if_pos h0,cond_true]
     dsimp only[Tr.nice]
     exact tl2 3 0
    ·simp only[decide_eq_false h0,if_neg h0,cond_false]
     dsimp only[Tr.nice]
     exact tl2 0 0
   ·simp only[decide_eq_false hq,if_neg hq,cond_false]
    dsimp only[Tr.nice]
    exact tl2 c.timer c.tries
  ·simp only[if_neg ha,cond_false]
   dsimp only[Tr.nice]
   exact tl c rfl
 ·rw[if_neg hv,show(Dl c g != 5)=true by simp[hv]];rfl
structure H1 (c u:Conn):Prop where
 tup:u.tuple=c.tuple
 st:u.state=c.state
 op:u.opts=c.opts
 rr:u.r=c.r
 so:SO u.s
 fin:u.s.fin=c.s.fin
 dn:c.s.done=true→u.s.done=true
 m0:0≤u.most
 m1:u.most≤1073725440
 w0:0≤u.window
 w1:u.window≤u.most
 t0:0≤u.timer
 t4:u.timer≤4
 t3:c.state≠7→u.timer≤3
 r0:0≤u.tries
 r3:u.tries≤3
theorem aaJ (c:Conn)(g:Segm)(h:V5 c g):H1 c (uZ c g):=by
 have hc:=h.co
 have hw:=((bv g).1 h.sg).2.2.2.2.2.1
 have hsc:=(fk c.opts hc.opt).2
 have hr:=KG g.window c.opts.scale hw.1 hw.2 hsc
 have a1:=hc.m0
 have a2:=hc.m1
 have a3:=hc.w0
 have a4:=hc.w1
 have a5:=hc.t0
 have a6:=hc.t4
 have a7:=hc.r0
 have a8:=hc.r3
 unfold uZ
 split
 ·rename_i ha
  have hso:=JX c.s hc.snd (rS g.ack c.s.una) (by
    unfold ud at ha;simp only[Bool.and_eq_true,decide_eq_true_eq]at ha;exact ha.2.1) (by
    unfold ud at ha;simp only[Bool.and_eq_true,decide_eq_true_eq]at ha;exact ha.2.2)
  split
  ·refine⟨rfl,rfl,rfl,rfl,hso.1,hso.2.1,hso.2.2, ?_, ?_,hr.1, ?_, ?_, ?_,λ_=> ?_,Int.le_refl _,by show(0:Int)≤3;omega⟩
   ·show 0≤(if c.most<jh g.window c.opts.scale then jh g.window c.opts.scale else c.most);split<;>omega
   ·show(if c.most<jh g.window c.opts.scale then jh g.window c.opts.scale else c.most)≤1073725440;split<;>omega
   ·show jh g.window c.opts.scale≤(if c.most<jh g.window c.opts.scale then jh g.window c.opts.scale else c.most);split<;>omega
   ·show 0≤(if 0<HV (cI c.s (rS g.ack c.s.una))then(3:Int)else 0);split<;>omega
   ·show(if 0<HV (cI c.s (rS g.ack c.s.una))then(3:Int)else 0)≤4;split<;>omega
   ·show(if 0<HV (cI c.s (rS g.ack c.s.una))then(3:Int)else 0)≤3;split<;>omega
  ·refine⟨rfl,rfl,rfl,rfl,hso.1,hso.2.1,hso.2.2, ?_, ?_,hr.1, ?_,a5,a6,hc.t3,a7,a8⟩
   ·show 0≤(if c.most<jh g.window c.opts.scale then jh g.window c.opts.scale else c.most);split<;>omega
   ·show(if c.most<jh g.window c.opts.scale then jh g.window c.opts.scale else c.most)≤1073725440;split<;>omega
   ·show jh g.window c.opts.scale≤(if c.most<jh g.window c.opts.scale then jh g.window c.opts.scale else c.most);split<;>omega
 ·exact⟨rfl,rfl,rfl,rfl,hc.snd,rfl,λh=>h,a1,a2,a3,a4,a5,a6,hc.t3,a7,a8⟩
theorem S1 {s:Sndr}(h:SO s)(hd:s.done=true):s.fin=true:=(h.2.2.2.2.2.2 hd).1
theorem Xk {c u:Conn}(hc:CO c)(h8:c.state≠8)(h:H1 c u)(rv:Recv)(hrv:RV rv)(hd:rv.done=c.r.done∨(c.r.done=false∧c.state≤3)):TR ({u with r:=rv}:Conn):=by
 have s1:=hc.s1
 have s8:=hc.s8
 refine⟨by show aJ.f (u.tuple,())=true;rw[h.tup];exact hc.tup,h.so,(rD rv hrv.small).2 hrv,by show az.f (u.opts,())=true;rw[h.op];exact hc.opt,by show 1≤u.state;rw[h.st];exact s1,by show u.state≤7;rw[h.st];omega,h.m0,h.m1,h.w0,h.w1,h.t0,h.t4,λhn=>h.t3 (by rw[←h.st];exact hn),h.r0,h.r3, ?_⟩
 show kst (oD u.state u.s.done rv.done) u.s.fin u.s.done rv.done=true
 rw[h.st,h.fin]
 exact Zn c.state s1 (by omega) c.s.fin c.s.done c.r.done u.s.done rv.done hc.fl h.dn (λhh=>by rw[←h.fin];exact S1 h.so hh) hd
theorem ac0 (k:Int)(sf sd rd:Bool)(h:kst k sf sd rd=true)(h1:1≤k)(h3:k≤3):rd=false:=by
 have hk:k=1∨k=2∨k=3:=by omega
 rcases hk with rfl|rfl|rfl<;>revert h<;>revert sf sd rd<;>decide+kernel
theorem UV (x:Conn):(dL x).s=x.s:=by
 unfold dL;repeat' split
 all_goals rfl
theorem RJ (x:Conn):(dL x).r=x.r:=by
 unfold dL;repeat' split
 all_goals rfl
theorem Tg (x:Conn)(h:(dL x).state=8)(h8:x.state≠8):x.state=6∧x.s.done=true:=by
 have hl:oD x.state x.s.done x.r.done=8:=by
  unfold dL at h
  split at h
  ·split at h
   ·exact absurd h h8
   ·split at h
    ·simp at h
    ·split at h
     ·assumption
     ·exact h
  ·exact absurd h h8
 unfold oD at hl
 repeat' split at hl
 all_goals first|omega|(rename_i h6 hd;exact⟨by assumption,by assumption⟩)
theorem RP (c:Conn)(g:Segm)(hs:ca c.r.held)(hv:Dl c g=5):CO (gv c g)∧(gv c g).tuple=c.tuple∧((gv c g).state=8→c.state=6∧(gv c g).s.done=true)∧ca (gv c g).r.held:=by
 have h:=vd5 c g hv
 have hH:=aaJ c g h
 have hr:=(rD c.r hs).1 h.co.rcv
 unfold gv
 by_cases h3:1≤c.state∧c.state≤3
 ·rw[if_pos h3]
  have hT:=Xk h.co h.s8 hH (ng c.r g.seq g.body (ic.f (g,1,()))) (Ik _ _ _ _ hr) (.inr ⟨ac0 _ _ _ _ h.co.fl h3.1 h3.2,h3.2⟩)
  refine⟨hT.turned,by rw[Dg];exact hH.tup,λh8=> ?_, ?_⟩
  ·have:=Tg _ h8 (by show(uZ c g).state≠8;rw[hH.st];exact h.s8)
   rw[UV]
   exact⟨by rw[←hH.st];exact this.1,this.2⟩
  ·rw[RJ];exact OW _ _ _ _ hr
 ·rw[if_neg h3]
  have hT:=Xk h.co h.s8 hH c.r hr (.inl rfl)
  have e:({uZ c g with r:=c.r}:Conn)=uZ c g:=by rw[←hH.rr]
  rw[e]at hT
  refine⟨hT.turned,by rw[Dg];exact hH.tup,λh8=> ?_, ?_⟩
  ·have:=Tg _ h8 (by rw[hH.st];exact h.s8)
   rw[UV]
   exact⟨by rw[←hH.st];exact this.1,this.2⟩
  ·rw[RJ,hH.rr];exact hs
theorem Zo (c:Conn)(g:Segm):Dl c g=1∨Dl c g=2∨Dl c g=3∨Dl c g=4∨Dl c g=5:=by
 unfold Dl
 cases(bV.f (c,())&&(!(c.state==8)&&ak.f (g,())))with
 |false=>exact .inl rfl
 |true=>
  cases bB.f (g,4,())<;>cases(g.seq==c.r.next)<;>cases vl g.seq c.r.next (pB c.r)<;>cases bB.f (g,2,())<;>cases Wz c g<;>cases bB.f (g,16,())<;>cases R9 c g.ack<;>simp
def dU (c:Conn)(g:Segm):Conn×List Segm×Int:=
 if Dl c g=2 then({c with state:=8,timer:=0,tries:=0},[],2)
 else if Dl c g=3 then(c,[cL.f (c,())],3)
 else if Dl c g=4 then(if c.state=7∧bB.f (g,1,())=true then{c with timer:=4}else c,[cL.f (c,())],4)
 else if Dl c g=5 then
  (if(gv c g).state=8 then(gv c g,[],5)
  else((eG.f (gv c g,(gv c g).window,())).1,if(eG.f (gv c g,(gv c g).window,())).2=[]∧aO.f (g,())≠0 then[cL.f ((eG.f (gv c g,(gv c g).window,())).1,())]else(eG.f (gv c g,(gv c g).window,())).2,5))
 else(c,[],1)

end
end Go.Proofs.YtgbgljgnblkffaaGreat
