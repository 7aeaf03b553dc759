/-
  Contracts of functions and plain laws (printed by a program): each theorem says what a function of the program returns; conditions are its hypotheses.
-/
import Derived.Test.YtgbgljgnblkffaaGreatEJ1
set_option linter.all false
set_option maxRecDepth 4000
namespace Go.Proofs.YtgbgljgnblkffaaGreat
open Go Go.RowKit
noncomputable section
noncomputable def kG:FT (Pack×Unit) (ac) (λx=>kN x.1) (λx v=>sS v∧v.length≤1520):=⟨λ(x0,_)=>
  .cal vn.c (x0,()) λc1=>
  .ite (!c1) (.ret [])<|
  .cal aQ.c ((IntKind.wrap .i64 (20+(x0.body.length:Int))),2,()) λc2=>
  .grd (Nat.ble (2+c2.length) an)<|
  .cal aQ.c (x0.id,2,()) λc3=>
  .grd (Nat.ble (([69,0]++c2).length+c3.length) an)<|
  .grd (Nat.ble ((([69,0]++c2)++c3).length+2) an)<|
  .cal aQ.c (x0.ttl,1,()) λc4=>
  .grd (Nat.ble (((([69,0]++c2)++c3)++[0,0]).length+c4.length) an)<|
  .cal aQ.c (x0.proto,1,()) λc5=>
  .grd (Nat.ble ((((([69,0]++c2)++c3)++[0,0])++c4).length+c5.length) an)<|
  .cal aQ.c (x0.src,4,()) λc6=>
  .cal aQ.c (x0.dst,4,()) λc7=>
  .grd (Nat.ble (c6.length+c7.length) an)<|
  .grd (Nat.ble (((((([69,0]++c2)++c3)++[0,0])++c4)++c5).length+(c6++c7).length) an)<|
  .cal sC.c ((((((([69,0]++c2)++c3)++[0,0])++c4)++c5)++(c6++c7)),()) λc8=>
  .cal aQ.c (c8,2,()) λc9=>
  .grd (Nat.ble (((((([69,0]++c2)++c3)++[0,0])++c4)++c5).length+c9.length) an)<|
  .grd (Nat.ble ((((((([69,0]++c2)++c3)++[0,0])++c4)++c5)++c9).length+(c6++c7).length) an)<|
  .val ((((((([69,0]++c2)++c3)++[0,0])++c4)++c5)++c9)++(c6++c7)) λe10=>
  .grd (Nat.ble (e10.length+x0.body.length) an)<|
  .ret (e10++x0.body),
 λ(x0,_) hp=>by
  refine Tr.C trivial λc1 hc1 qc1=>Tr.I (λb0=>Tr.R ?_) λb0=>Tr.C trivial λc2 hc2 qc2=>Tr.Gb ?_ λg1=>Tr.C trivial λc3 hc3 qc3=>Tr.Gb ?_ λg2=>Tr.Gb ?_ λg3=>Tr.C trivial λc4 hc4 qc4=>Tr.Gb ?_ λg4=>Tr.C trivial λc5 hc5 qc5=>Tr.Gb ?_ λg5=>Tr.C trivial λc6 hc6 qc6=>Tr.C trivial λc7 hc7 qc7=>Tr.Gb ?_ λg6=>Tr.Gb ?_ λg7=>Tr.C ?_ λc8 hc8 qc8=>Tr.C trivial λc9 hc9 qc9=>Tr.Gb ?_ λg8=>Tr.Gb ?_ λg9=>Tr.V λe10 he10=>Tr.Gb ?_ λg10=>Tr.R ?_
  all_goals ((first|(simp only[List.length_append,List.length_cons,List.length_nil,an,sS]at*;omega)|grind))⟩
noncomputable def ri:=bf st Tryz.func216 [Rl,kp,yL] (ks:=[.st .pack]) kG (λv=>[(false,[.c (.str v)])])
noncomputable def Ul:=[yf,Dt]
noncomputable def RF:Fx:=⟨220,Tryz.f220,[(3000001,rA 0 12)],0⟩
noncomputable def tK:FT (ac×Unit) (Arpm×Bool) (λx=>sS x.1) (λ_ _=>True):=⟨λ(x0,_)=>
  .bnd (β:=Bool×Unit) (.ite (decide ((x0.length:Int)<28)) (.ret (true,()))<|
   .grd (decide (6≤(x0.length:Int)))<|
   .ret ((!(((x0.take 6).drop 0)==[0,1,8,0,6,4])),())) λ(u1a0,_)=>
  .ite u1a0 (.ret ((⟨0,0,0,0,0⟩:Arpm),false))<|
  .cal ex.c (x0,6,2,()) λc2=>
  .cal ex.c (x0,8,6,()) λc3=>
  .cal ex.c (x0,14,4,()) λc4=>
  .cal ex.c (x0,18,6,()) λc5=>
  .cal ex.c (x0,24,4,()) λc6=>
  .cal m6.c ((⟨c2,c3,c4,c5,c6⟩:Arpm),()) λc7=>
  .ite (!c7) (.ret ((⟨0,0,0,0,0⟩:Arpm),false))<|
  .ret ((⟨c2,c3,c4,c5,c6⟩:Arpm),true),
 λ(x0,_) hp=>by
  refine Tr.B (Q':=λ_=>True) (Tr.I (λ_=>Tr.R trivial) λ_=>Tr.G1 ?_ λ_=>Tr.R trivial) (λ(u1a0,_) _ _=>Tr.I (λ_=>Tr.R trivial) λ_=>Tr.C ?_ λ_ _ _=>Tr.C ?_ λ_ _ _=>Tr.C ?_ λ_ _ _=>Tr.C ?_ λ_ _ _=>Tr.C ?_ λ_ _ _=>Tr.C trivial λ_ _ _=>Tr.F (by kernel_rfl) trivial)
  all_goals ((try simp only[Tr.nice,bo]at*)<;>grind)⟩
noncomputable def SD:=aV st RF Ul [] (ks:=[.sc .str]) tK (λv=>[(true,Jv v.1),(false,[.c (.bool v.2)])]) Tryz.func220 trivial
noncomputable def xc:=[vH,F3,bQ,Ee]
def nN:Sh:=⟨[zi 1,zi 2,(7,false,[.own 0]),zi 29,zi 30],[.arr .entr false true]⟩
def mv:Sh:=⟨[zi 1,zi 2,(7,false,[.own 0]),zi 9,(54,false,[.own 0]),zi 55,zi 56],[.arr .entr false true]⟩
noncomputable def xJ:Fx:=⟨221,Tryz.f221,[(0,lb [1,2,7,29,30] [1,2,6,7]),(2,lb [1,2,7,9,54,55,56] [1,2,6,7,9]),(3000002,rA 0 26)],0⟩
noncomputable def xA (v0 v1:Int)(v4:List Entr)(v3:Int)(a:Unit):Tr (Stp (Unit) ((List Entr))):=
 .grd ((decide (0≤v3))&&(decide (v3<(v4.length:Int))))<|
 .ite ((v4.getD v3.toNat (Ty.zero .entr)).ip==v0) (.grd ((decide (0≤v3))&&(decide (v3<(v4.length:Int))))<|
  .grd ((decide (0≤v3))&&(decide (v3<((v4.set v3.toNat ({(v4.getD v3.toNat (Ty.zero .entr))with hw:=v1}:Entr)).length:Int))))<|
  .val ((v4.set v3.toNat ({(v4.getD v3.toNat (Ty.zero .entr))with hw:=v1}:Entr)).set v3.toNat ({((v4.set v3.toNat ({(v4.getD v3.toNat (Ty.zero .entr))with hw:=v1}:Entr)).getD v3.toNat (Ty.zero .entr))with age:=0}:Entr)) λl6=>
  .ret (.out l6))<|
 .ret (.next ())
noncomputable def ga:nN.V→LC nN (Unit) ((List Entr)) (((List Entr))⊕(Int×Unit)):=λ(v0,v1,v2,v3,v4,_)=>⟨v3,(),λv3 _=>(v0,v1,v2,v3,v4,()),λv3 _=>(decide (v3<v2)),xA v0 v1 v4,up,1,(Int.toNat (v2-v3)),.inl,λi a=> .inr (i,a),λ_ k w=>Sum.elim (λp=>k .ret (Sh.enc ⟨[zi 1,zi 2,(6,false,[.own 0]),(7,false,[.own 0])],[.arr .entr false true]⟩ (v0,v1,p,()))) (λ_=>k (.exit 0) (Sh.enc ⟨[zi 1,zi 2,zu 6,(7,false,[.own 0])],[.arr .entr false true]⟩ (v0,v1,v4,()))) w⟩
theorem JN:LS Tryz.prog xJ [0] (bR 0 nN ga):=aW st (aj xc) _ ga [] trivial
theorem LM {v0 v1 v2 v3:Int}{v4:List Entr}(h0:0≤v3)(h1:v2≤4611686018427387904)(h2:sS v4)(h3:v2≤(v4.length:Int)):(ga (v0,v1,v2,v3,v4,())).U v2 (λ_ _=>True) (λp=>sS p):=
 LC.okU (i:=v3) (a:=()) (λ_ _=>rfl) (λ_=>rfl) rfl h0 h1 trivial λv3 _ hj hk hv=>by
  refine Tr.G2 ?_ λ_=>Tr.I (λ_=>Tr.G2 ?_ λ_=>Tr.G2 ?_ λ_=>Tr.V λ_ _=>Tr.Ro ?_) λ_=>Tr.Rn trivial
  all_goals (grind)
noncomputable def eH (v5:List Entr)(v4:Int)(a:Int):Tr (Stp (Int) (Empty)):=
 .grd ((decide (0≤v4))&&(decide (v4<(v5.length:Int))))<|
 .grd ((decide (0≤a))&&(decide (a<(v5.length:Int))))<|
 .ite (decide ((v5.getD a.toNat (Ty.zero .entr)).age<(v5.getD v4.toNat (Ty.zero .entr)).age)) (.ret (.next v4))<|
 .ret (.next a)
noncomputable def gu:mv.V→LC mv (Int) (Empty) (Int×Int):=λ(v0,v1,v2,v3,v4,v5,_)=>⟨v4,v2,λv4 a=>(v0,v1,a,v3,v4,v5,()),λv4 _=>(decide (v4<v3)),eH v5,up,1,(Int.toNat (v3-v4)),(λp=>Empty.elim p),λi a=>(i,a),λ_ k x=>k (.exit 2) (Sh.enc ⟨[zi 1,zi 2,zu 6,(7,false,[.own 0]),zi 9],[.arr .entr false true]⟩ (v0,v1,x.2,v5,()))⟩
theorem Ka:LS Tryz.prog xJ [1] (bR 2 mv gu):=aW st (aj xc) _ gu [] trivial
theorem KT {v0 v1 v2 v3 v4:Int}{v5:List Entr}(h0:0≤v4)(h1:v3≤4611686018427387904)(h2:v3≤(v5.length:Int))(h3:0≤v2∧v2<v5.length):(gu (v0,v1,v2,v3,v4,v5,())).U v3 (λv4 a=>0≤a∧a<v5.length) (λ_=>True):=
 LC.okU (i:=v4) (a:=v2) (λ_ _=>rfl) (λ_=>rfl) rfl h0 h1 h3 λv4 v2 hj hk hv=>by
  refine Tr.G2 ?_ λ_=>Tr.G2 ?_ λ_=>Tr.I (λ_=>Tr.Rn ?_) λ_=>Tr.Rn ?_
  all_goals (grind)
noncomputable def tq:FT (List Entr×Int×Int×Unit) (List Entr) (λx=>sS x.1) (λx v=>sS v):=⟨λ(x0,x1,x2,_)=>
  .cal gU.c (x0,()) λc1=>
  .bnd (β:=Bool×Unit) (.cal gJ.c (x0,()) λc2=>
   .ite (!c2) (.ret (true,()))<|
   .cal aa.c (x1,32,()) λc3=>
   .ite (!c3) (.ret (true,()))<|
   .cal aa.c (x2,48,()) λc4=>
   .ret ((!c4),())) λ(u5a0,_)=>
  .ite u5a0 (.ret c1)<|
  .lp (ga (x1,x2,(c1.length:Int),0,c1,())).lp λw7=> .sum w7 (λp7a0=>
  .ret p7a0)<|
  λ_=>
  .ite ((c1.length:Int)==4) (.lp (gu (x1,x2,0,(c1.length:Int),0,c1,())).lp λ(_,a8_0)=>
   .cal qS.c (c1,a8_0,(IntKind.wrap .i64 (a8_0+1)),()) λc9=>
   .grd (Nat.ble ((2*((c9.2.take c9.1).length+1)+1024)*24) aF)<|
   .ret ((c9.2.take c9.1)++[(⟨x1,x2,0⟩:Entr)]))<|
  .grd (Nat.ble ((2*(c1.length+1)+1024)*24) aF)<|
  .ret (c1++[(⟨x1,x2,0⟩:Entr)]),
 λ(x0,x1,x2,_) hp=>by
  refine Tr.C ?_ λ_ _ _=>Tr.B (Q':=λw=>(w.1=false→x0.length≤4)) (Tr.C ?_ λ_ _ _=>Tr.I (λ_=>Tr.R ?_) λ_=>Tr.C trivial λ_ _ _=>Tr.I (λ_=>Tr.R ?_) λ_=>Tr.C trivial λ_ _ _=>Tr.R ?_) (λ(u5a0,_) _ _=>Tr.I (λ_=>Tr.R ?_) λ_=>Tr.L (LM ?_ ?_ ?_ ?_) (λ_ _=>Tr.Sr (Tr.I (λ_=>Tr.L (KT ?_ ?_ ?_ ?_) (λa8_0 _=>Tr.C ?_ λ_ _ _=>Tr.Gb ?_ λ_=>Tr.R ?_) (λp=>Empty.elim p)) λ_=>Tr.Gb ?_ λ_=>Tr.R ?_)) (λp7a0 _=>Tr.Sl (Tr.R ?_)))
  all_goals ((try simp only[ga,gu,LC.lp,LC.ct,Ct.lp,Tr.nice,bo]at*)<;>grind)⟩
noncomputable def S2:=aV st xJ xc [(bR 0 nN ga),(bR 2 mv gu)] (ks:=[.sc (.sl .entr),.sc (.int .i64),.sc (.int .i64)]) tq (λv=>[(false,[sc (.o true) .entr v])]) Tryz.func221 ⟨JN,Ka,trivial⟩
noncomputable def Pq:=[Dt]
noncomputable def PS:Fx:=⟨222,Tryz.f222,[(3000002,rA 0 29)],0⟩
noncomputable def oa:FT (Arpm×Int×Int×Unit) (Arpm×Bool) (λ_=>True) (λ_ _=>True):=⟨λ(x0,x1,x2,_)=>
  .bnd (β:=Bool×Unit) (.ite (x0.kind != 1) (.ret (true,()))<|
   .ite (x0.dstIp != x2) (.ret (true,()))<|
   .cal m6.c ((⟨2,x1,x2,x0.srcHw,x0.srcIp⟩:Arpm),()) λc1=>
   .ret ((!c1),())) λ(u2a0,_)=>
  .ite u2a0 (.ret ((⟨0,0,0,0,0⟩:Arpm),false))<|
  .ret ((⟨2,x1,x2,x0.srcHw,x0.srcIp⟩:Arpm),true),
 λ(x0,x1,x2,_) hp=>by
  refine Tr.B (Q':=λ_=>True) (Tr.I (λ_=>Tr.R trivial) λ_=>Tr.I (λ_=>Tr.R trivial) λ_=>Tr.C trivial λ_ _ _=>Tr.R trivial) (λ(u2a0,_) _ _=>Tr.F (by kernel_rfl) trivial)⟩
noncomputable def Qm:=aV st PS Pq [] (ks:=[.st .arpm,.sc (.int .i64),.sc (.int .i64)]) oa (λv=>[(true,Jv v.1),(false,[.c (.bool v.2)])]) Tryz.func222 trivial
noncomputable def dB:FT (Fram×Unit) (ac) (λx=>ll x.1) (λx v=>sS v∧v.length≤1600):=⟨λ(x0,_)=>
  .cal d6.c (x0,()) λc1=>
  .ite (!c1) (.ret [])<|
  .cal ay.c (x0.dst,6,()) λc2=>
  .cal ay.c (x0.src,6,()) λc3=>
  .grd (Nat.ble (c2.length+c3.length) an)<|
  .cal ay.c (x0.type,2,()) λc4=>
  .grd (Nat.ble ((c2++c3).length+c4.length) an)<|
  .grd (Nat.ble (((c2++c3)++c4).length+x0.body.length) an)<|
  .ret (((c2++c3)++c4)++x0.body),
 λ(x0,_) hp=>by
  refine Tr.C trivial λc1 hc1 qc1=>Tr.I (λb0=>Tr.R ?_) λb0=>Tr.C trivial λc2 hc2 qc2=>Tr.C trivial λc3 hc3 qc3=>Tr.Gb ?_ λg1=>Tr.C trivial λc4 hc4 qc4=>Tr.Gb ?_ λg2=>Tr.Gb ?_ λg3=>Tr.R ?_
  all_goals ((first|(simp only[List.length_append,List.length_cons,List.length_nil,an,sS]at*;omega)|grind))⟩
noncomputable def zN:=bf st Tryz.func223 [F9,ka] (ks:=[.st .fram]) dB (λv=>[(false,[.c (.str v)])])
noncomputable def kw:FT (Arpm×Unit) (ac) (λ_=>True) (λx v=>sS v∧v.length≤40):=⟨λ(x0,_)=>
  .cal m6.c (x0,()) λc1=>
  .ite (!c1) (.ret [])<|
  .cal ay.c (x0.kind,2,()) λc2=>
  .grd (Nat.ble (6+c2.length) an)<|
  .cal ay.c (x0.srcHw,6,()) λc3=>
  .grd (Nat.ble (([0,1,8,0,6,4]++c2).length+c3.length) an)<|
  .cal ay.c (x0.srcIp,4,()) λc4=>
  .grd (Nat.ble ((([0,1,8,0,6,4]++c2)++c3).length+c4.length) an)<|
  .cal ay.c (x0.dstHw,6,()) λc5=>
  .grd (Nat.ble (((([0,1,8,0,6,4]++c2)++c3)++c4).length+c5.length) an)<|
  .cal ay.c (x0.dstIp,4,()) λc6=>
  .grd (Nat.ble ((((([0,1,8,0,6,4]++c2)++c3)++c4)++c5).length+c6.length) an)<|
  .ret ((((([0,1,8,0,6,4]++c2)++c3)++c4)++c5)++c6),
 λ(x0,_) hp=>by
  refine Tr.C trivial λc1 hc1 qc1=>Tr.I (λb0=>Tr.R ?_) λb0=>Tr.C trivial λc2 hc2 qc2=>Tr.Gb ?_ λg1=>Tr.C trivial λc3 hc3 qc3=>Tr.Gb ?_ λg2=>Tr.C trivial λc4 hc4 qc4=>Tr.Gb ?_ λg3=>Tr.C trivial λc5 hc5 qc5=>Tr.Gb ?_ λg4=>Tr.C trivial λc6 hc6 qc6=>Tr.Gb ?_ λg5=>Tr.R ?_
  all_goals ((first|(simp only[List.length_append,List.length_cons,List.length_nil,an,sS]at*;omega)|grind))⟩
noncomputable def Sw:=bf st Tryz.func224 [Dt,ka] (ks:=[.st .arpm]) kw (λv=>[(false,[.c (.str v)])])
noncomputable def Lc:=[bQ,ka]
noncomputable def Kh:Fx:=⟨225,Tryz.f225,[(3000001,rA 0 19)],0⟩
noncomputable def bA:FT (Int×Int×Int×Unit) (ac) (λ_=>True) (λx v=>sS v∧v.length≤20):=⟨λ(x0,x1,x2,_)=>
  .bnd (β:=Bool×Unit) (.cal aa.c (x0,32,()) λc1=>
   .ite (!c1) (.ret (true,()))<|
   .cal aa.c (x1,32,()) λc2=>
   .ite (!c2) (.ret (true,()))<|
   .cal aa.c (x2,16,()) λc3=>
   .ret ((!c3),())) λ(u4a0,_)=>
  .ite u4a0 (.ret [])<|
  .cal ay.c (x0,4,()) λc5=>
  .cal ay.c (x1,4,()) λc6=>
  .grd (Nat.ble (c5.length+c6.length) an)<|
  .grd (Nat.ble ((c5++c6).length+2) an)<|
  .cal ay.c (x2,2,()) λc7=>
  .grd (Nat.ble (((c5++c6)++[0,6]).length+c7.length) an)<|
  .ret (((c5++c6)++[0,6])++c7),
 λ(x0,x1,x2,_) hp=>by
  refine Tr.B (Q':=λ_=>True) (Tr.C trivial λc1 hc1 qc1=>Tr.I (λb0=>Tr.R trivial) λb0=>Tr.C trivial λc2 hc2 qc2=>Tr.I (λb1=>Tr.R trivial) λb1=>Tr.C trivial λc3 hc3 qc3=>Tr.R trivial) (λ(u4a0,_) hj4 qj4=>Tr.I (λb0=>Tr.R ?_) λb0=>Tr.C trivial λc5 hc5 qc5=>Tr.C trivial λc6 hc6 qc6=>Tr.Gb ?_ λg1=>Tr.Gb ?_ λg2=>Tr.C trivial λc7 hc7 qc7=>Tr.Gb ?_ λg3=>Tr.R ?_)
  all_goals ((try simp only[Tr.nice,bo]at*)<;>(first|(simp only[List.length_append,List.length_cons,List.length_nil,an,sS]at*;omega)|grind))⟩
noncomputable def xF:=aV st Kh Lc [] (ks:=[.sc (.int .i64),.sc (.int .i64),.sc (.int .i64)]) bA (λv=>[(false,[.c (.str v)])]) Tryz.func225 trivial
noncomputable def fF:FT (ac×Unit) (Bool) (λx=>sS x.1) (λ_ _=>True):=⟨λ(x0,_)=>
  .cal iq.c (x0,()) λc1=>
  .ret (c1==0),
 λ(x0,_) hp=>by
  refine Tr.C ?_ λ_ _ _=>Tr.R trivial
  all_goals (grind)⟩
noncomputable def Bo:=bf st Tryz.func226 [Ez] (ks:=[.sc .str]) fF (λv=>[(false,[.c (.bool v)])])
noncomputable def vM:=[jK,yf]
def jd:Sh:=⟨[zs 0,zp 2 0,zp 4 1,zi 5],[.box [.st .opti []],.box [.st .opti []]]⟩
noncomputable def vW:Fx:=⟨227,Tryz.f227,[(0,lb [0,2,4,5] [2,3,4]),(3000011,rA 0 42),(3000013,rA 0 44),(3000015,rA 0 56),(3000017,rA 0 70),(3000019,rA 0 78)],0⟩
noncomputable def cF (v0:ac)(a:Int×Opti):Tr (Stp (Int×Opti) ((Opti)⊕(Opti×Opti))):=
 .ite (decide (a.1<(v0.length:Int))) (.grd ((decide (0≤a.1))&&(decide (a.1<(v0.length:Int))))<|
  .ite ((ae v0 a.1.toNat)==0) (.ret (.out (.inl a.2)))<|
  .ite ((ae v0 a.1.toNat)==1) (.ret (.next ((IntKind.wrap .i64 (a.1+1)),a.2)))<|
  .ite (decide ((v0.length:Int)≤(IntKind.wrap .i64 (a.1+1)))) (.val (bO.f (())) λc2=>
   .ret (.out (.inr ((c2,a.2)))))<|
  .grd ((decide (0≤(IntKind.wrap .i64 (a.1+1))))&&(decide ((IntKind.wrap .i64 (a.1+1))<(v0.length:Int))))<|
  .bnd (β:=Bool×Unit) (.ite (decide ((IntKind.wrap .i64 (ae v0 ((IntKind.wrap .i64 (a.1+1)).toNat)))<2)) (.ret (true,()))<|
   .ret ((decide ((IntKind.wrap .i64 ((v0.length:Int)-a.1))<(IntKind.wrap .i64 (ae v0 ((IntKind.wrap .i64 (a.1+1)).toNat))))),())) λ(u3a0,_)=>
  .ite u3a0 (.val (bO.f (())) λc4=>
   .ret (.out (.inr ((c4,a.2)))))<|
  .bnd (β:=Bool×Unit) (.ite ((ae v0 a.1.toNat)==2) (.ret (((IntKind.wrap .i64 (ae v0 ((IntKind.wrap .i64 (a.1+1)).toNat)))==4),()))<|
   .ret (false,())) λ(u5a0,_)=>
  .ite u5a0 (.cal ex.c (v0,(IntKind.wrap .i64 (a.1+2)),2,()) λc6=>
   .val (IntKind.wrap .i64 (a.1+(IntKind.wrap .i64 (ae v0 ((IntKind.wrap .i64 (a.1+1)).toNat))))) λe7=>
   .ret (.next (e7,({a.2 with mss:=c6}:Opti))))<|
  .bnd (β:=Bool×Unit) (.ite ((ae v0 a.1.toNat)==3) (.ret (((IntKind.wrap .i64 (ae v0 ((IntKind.wrap .i64 (a.1+1)).toNat)))==3),()))<|
   .ret (false,())) λ(u8a0,_)=>
  .ite u8a0 (.grd ((decide (0≤(IntKind.wrap .i64 (a.1+2))))&&(decide ((IntKind.wrap .i64 (a.1+2))<(v0.length:Int))))<|
   .val (β:=Int) (if 14<(IntKind.wrap .i64 (ae v0 ((IntKind.wrap .i64 (a.1+2)).toNat)))then 14 else(IntKind.wrap .i64 (ae v0 ((IntKind.wrap .i64 (a.1+2)).toNat)))) λe9=>
   .val (IntKind.wrap .i64 (a.1+(IntKind.wrap .i64 (ae v0 ((IntKind.wrap .i64 (a.1+1)).toNat))))) λe10=>
   .ret (.next (e10,({a.2 with scale:=e9}:Opti))))<|
  .bnd (β:=Bool×Unit) (.ite ((ae v0 a.1.toNat)==4) (.ret (((IntKind.wrap .i64 (ae v0 ((IntKind.wrap .i64 (a.1+1)).toNat)))==2),()))<|
   .ret (false,())) λ(u11a0,_)=>
  .ite u11a0 (.val (IntKind.wrap .i64 (a.1+(IntKind.wrap .i64 (ae v0 ((IntKind.wrap .i64 (a.1+1)).toNat))))) λe12=>
   .ret (.next (e12,({a.2 with sack:=true}:Opti))))<|
  .bnd (β:=Bool×Unit) (.ite ((ae v0 a.1.toNat)==8) (.ret (((IntKind.wrap .i64 (ae v0 ((IntKind.wrap .i64 (a.1+1)).toNat)))==10),()))<|
   .ret (false,())) λ(u13a0,_)=>
  .ite u13a0 (.cal ex.c (v0,(IntKind.wrap .i64 (a.1+2)),4,()) λc14=>
   .cal ex.c (v0,(IntKind.wrap .i64 (a.1+6)),4,()) λc15=>
   .val (IntKind.wrap .i64 (a.1+(IntKind.wrap .i64 (ae v0 ((IntKind.wrap .i64 (a.1+1)).toNat))))) λe16=>
   .ret (.next (e16,({a.2 with stamp:=true,val:=c14,echo:=c15}:Opti))))<|
  .val (IntKind.wrap .i64 (a.1+(IntKind.wrap .i64 (ae v0 ((IntKind.wrap .i64 (a.1+1)).toNat))))) λe17=>
  .ret (.next (e17,a.2)))<|
 .ret (.out (.inl a.2))
instance i_ReadOptions_L0_i:Inhabited ((Opti)⊕(Opti×Opti)):=⟨.inl default⟩
noncomputable def dj:jd.V→LW jd (Int×Opti) ((Opti)⊕(Opti×Opti)):=λ(v0,v1,v2,v3,_)=>⟨(v1,v3),λa=>(v0,a.1,v2,a.2,()),cF v0,Int.toNat ((v0.length:Int)-v1),λ_ k q=>Sum.elim (λp=>k (.exit 0) (Sh.enc ⟨[zp 2 0,zu 3,zp 4 1],[.box [.st .opti []],.box [.st .opti []]]⟩ (v2,p,()))) (λp=>k .ret (Sh.enc ⟨[zp 2 0,zb 3,zp 4 1],[.box [.st .opti []],.box [.st .opti []]]⟩ (false,p.1,p.2,()))) q⟩
theorem AC:LS Tryz.prog vW [0] (DJ 0 jd dj):=uf st (aj vM) _ dj [] trivial
theorem A0 {v0:ac}{v1:Int}{v2 v3:Opti}(h0:sS v0)(h1:0≤v1):(dj (v0,v1,v2,v3,())).W (λ_=>True):=
 LW.okW (a:=(v1,v3)) (λa=>0≤a.1) (λa=>Int.toNat ((v0.length:Int)-a.1)) rfl h1 λ(v1,v3) hv=>by
  refine Tr.I (λ_=>Tr.G2 ?_ λ_=>Tr.I (λ_=>Tr.Ro trivial) λ_=>Tr.I (λ_=>Tr.Rn ?_) λ_=>Tr.I (λ_=>Tr.V λ_ _=>Tr.Ro trivial) λ_=>Tr.G2 ?_ λ_=>Tr.B (Q':=λ_=>True) (Tr.I (λ_=>Tr.R trivial) λ_=>Tr.R trivial) (λ(u3a0,_) _ _=>Tr.I (λ_=>Tr.V λ_ _=>Tr.Ro trivial) λ_=>Tr.B (Q':=λ_=>True) (Tr.I (λ_=>Tr.R trivial) λ_=>Tr.R trivial) (λ(u5a0,_) _ _=>Tr.I (λ_=>Tr.C ?_ λ_ _ _=>Tr.V λ_ _=>Tr.Rn ?_) λ_=>Tr.B (Q':=λ_=>True) (Tr.I (λ_=>Tr.R trivial) λ_=>Tr.R trivial) (λ(u8a0,_) _ _=>Tr.I (λ_=>Tr.G2 ?_ λ_=>Tr.V λ_ _=>Tr.V λ_ _=>Tr.Rn ?_) λ_=>Tr.B (Q':=λ_=>True) (Tr.I (λ_=>Tr.R trivial) λ_=>Tr.R trivial) (λ(u11a0,_) _ _=>Tr.I (λ_=>Tr.V λ_ _=>Tr.Rn ?_) λ_=>Tr.B (Q':=λ_=>True) (Tr.I (λ_=>Tr.R trivial) λ_=>Tr.R trivial) (λ(u13a0,_) _ _=>Tr.I (λ_=>Tr.C ?_ λ_ _ _=>Tr.C ?_ λ_ _ _=>Tr.V λ_ _=>Tr.Rn ?_) λ_=>Tr.V λ_ _=>Tr.Rn ?_)))))) λ_=>Tr.Ro trivial
  all_goals ((try simp only[Tr.nice,bo]at*)<;>grind)
noncomputable def jE:FT (ac×Unit) (Opti×Bool) (λx=>sS x.1) (λ_ _=>True):=⟨λ(x0,_)=>
  .val (bO.f (())) λc1=>
  .lp (dj (x0,0,(⟨0,0,false,false,0,0⟩:Opti),c1,())).lp λq18=> .sum q18 (λp18a0=>
  .ret (p18a0,true))<|
  λ(p18b0,_)=>
  .ret (p18b0,false),
 λ(x0,_) hp=>by
  refine Tr.V λc1 hc1=>Tr.L (A0 ?_ ?_) (λa=>Empty.elim a) (Tr.W2 (λp18a0 hp18=>Tr.Sl (Tr.R trivial)) (λ(p18b0,p18b1) hp18=>Tr.Sr (Tr.R trivial)))
  all_goals ((try simp only[dj,LW.lp,LW.cw,Cw.lp]at*)<;>grind)⟩
noncomputable def Gk:=aV st vW vM [(DJ 0 jd dj)] (ks:=[.sc .str]) jE (λv=>[(true,nV v.1),(false,[.c (.bool v.2)])]) Tryz.func227 ⟨AC,trivial⟩
noncomputable def ba:FT (Segm×Int×Int×Unit) (ac) (λx=>ao x.1) (λx v=>sS v∧v.length≤1500):=⟨λ(x0,x1,x2,_)=>
  .cal ak.c (x0,()) λc1=>
  .ite (!c1) (.ret [])<|
  .cal aM.c (x0.opts,()) λc2=>
  .val (IntKind.wrap .i64 ((IntKind.wrap .i64 (20+(c2.length:Int)))+(x0.body.length:Int))) λe3=>
  .cal bA.c (x1,x2,e3,()) λc4=>
  .ite (c4==[]) (.ret [])<|
  .cal ay.c (x0.from_,2,()) λc5=>
  .cal ay.c (x0.to,2,()) λc6=>
  .grd (Nat.ble (c5.length+c6.length) an)<|
  .cal ay.c (x0.seq,4,()) λc7=>
  .grd (Nat.ble ((c5++c6).length+c7.length) an)<|
  .cal ay.c (x0.ack,4,()) λc8=>
  .grd (Nat.ble (((c5++c6)++c7).length+c8.length) an)<|
  .val (IntKind.wrap .i64 ((IntKind.wrap .i64 (20+(c2.length:Int))).tdiv 4)) λe9=>
  .cal ay.c ((IntKind.wrap .i64 (e9*16)),1,()) λc10=>
  .grd (Nat.ble ((((c5++c6)++c7)++c8).length+c10.length) an)<|
  .cal ay.c (x0.flags,1,()) λc11=>
  .grd (Nat.ble (((((c5++c6)++c7)++c8)++c10).length+c11.length) an)<|
  .cal ay.c (x0.window,2,()) λc12=>
  .grd (Nat.ble ((((((c5++c6)++c7)++c8)++c10)++c11).length+c12.length) an)<|
  .grd (Nat.ble (2+c2.length) an)<|
  .grd (Nat.ble (([0,0]++c2).length+x0.body.length) an)<|
  .grd (Nat.ble (c4.length+((((((c5++c6)++c7)++c8)++c10)++c11)++c12).length) an)<|
  .grd (Nat.ble ((c4++((((((c5++c6)++c7)++c8)++c10)++c11)++c12)).length+2) an)<|
  .val ((c4++((((((c5++c6)++c7)++c8)++c10)++c11)++c12))++[0,0]) λe13=>
  .grd (Nat.ble (e13.length+(([0,0]++c2)++x0.body).length) an)<|
  .cal iq.c ((e13++(([0,0]++c2)++x0.body)),()) λc14=>
  .cal ay.c (c14,2,()) λc15=>
  .grd (Nat.ble (((((((c5++c6)++c7)++c8)++c10)++c11)++c12).length+c15.length) an)<|
  .grd (Nat.ble ((((((((c5++c6)++c7)++c8)++c10)++c11)++c12)++c15).length+(([0,0]++c2)++x0.body).length) an)<|
  .val ((((((((c5++c6)++c7)++c8)++c10)++c11)++c12)++c15)++(([0,0]++c2)++x0.body)) λe16=>
  .ret e16,
 λ(x0,x1,x2,_) hp=>by
  refine Tr.C trivial λc1 hc1 qc1=>Tr.I (λb0=>Tr.R ?_) λb0=>Tr.C trivial λc2 hc2 qc2=>Tr.V λe3 he3=>Tr.C trivial λc4 hc4 qc4=>Tr.I (λb1=>Tr.R ?_) λb1=>Tr.C trivial λc5 hc5 qc5=>Tr.C trivial λc6 hc6 qc6=>Tr.Gb ?_ λg2=>Tr.C trivial λc7 hc7 qc7=>Tr.Gb ?_ λg3=>Tr.C trivial λc8 hc8 qc8=>Tr.Gb ?_ λg4=>Tr.V λe9 he9=>Tr.C trivial λc10 hc10 qc10=>Tr.Gb ?_ λg5=>Tr.C trivial λc11 hc11 qc11=>Tr.Gb ?_ λg6=>Tr.C trivial λc12 hc12 qc12=>Tr.Gb ?_ λg7=>Tr.Gb ?_ λg8=>Tr.Gb ?_ λg9=>Tr.Gb ?_ λg10=>Tr.Gb ?_ λg11=>Tr.V λe13 he13=>Tr.Gb ?_ λg12=>Tr.C ?_ λc14 hc14 qc14=>Tr.C trivial λc15 hc15 qc15=>Tr.Gb ?_ λg13=>Tr.Gb ?_ λg14=>Tr.V λe16 he16=>Tr.R ?_
  all_goals ((first|(simp only[List.length_append,List.length_cons,List.length_nil,an,sS]at*;omega)|grind))⟩
noncomputable def Ht:=bf st Tryz.func229 [jM,Hw,xF,ka,Ez] (ks:=[.st .segm,.sc (.int .i64),.sc (.int .i64)]) ba (λv=>[(false,[.c (.str v)])])
noncomputable def U0:=[aak,zT,ri,lh]
noncomputable def R4:Fx:=⟨231,Tryz.f231,[(3000002,rA 0 25)],0⟩
noncomputable def yp:FT (Link×Int×ac×Unit) (ac×Bool) (λx=>dH x.1∧sS x.2.2.1) (λx v=>sS v.1):=⟨λ(x0,x1,x2,_)=>
  .cal P0.c (x0.cache,x1,()) λc1=>
  .bnd (β:=Bool×Unit) (.cal tI.c (x0,()) λc2=>
   .ite (!c2) (.ret (true,()))<|
   .ret ((!c1.2),())) λ(u3a0,_)=>
  .ite u3a0 (.ret ([],false))<|
  .cal kG.c ((⟨x0.ip,x1,64,6,0,x2⟩:Pack),()) λc4=>
  .ite (c4==[]) (.ret ([],false))<|
  .cal fR.c ((⟨c1.1,x0.mac,2048,c4⟩:Fram),()) λc5=>
  .ret (c5,(!(c5==[]))),
 λ(x0,x1,x2,_) hp=>by
  refine Tr.C ?_ λ_ _ _=>Tr.B (Q':=λ_=>True) (Tr.C ?_ λ_ _ _=>Tr.F (by kernel_rfl) trivial) (λ(u3a0,_) _ _=>Tr.I (λ_=>Tr.R ?_) λ_=>Tr.C ?_ λ_ _ _=>Tr.I (λ_=>Tr.R ?_) λ_=>Tr.C ?_ λ_ _ _=>Tr.R ?_)
  all_goals ((try simp only[Tr.nice,bo]at*)<;>grind)⟩
noncomputable def T8:=aV st R4 U0 [] (ks:=[.st .link,.sc (.int .i64),.sc .str]) yp (λv=>[(false,[.c (.str v.1)]),(false,[.c (.bool v.2)])]) Tryz.func231 trivial
noncomputable def QX:=[Pg]
noncomputable def QA:Fx:=⟨234,Tryz.f234,[(3000002,rA 0 29)],0⟩
noncomputable def vo:FT (Arpm×Int×Int×Unit) (Arpm×Bool) (λ_=>True) (λ_ _=>True):=⟨λ(x0,x1,x2,_)=>
  .bnd (β:=Bool×Unit) (.ite (x0.kind != 1) (.ret (true,()))<|
   .ite (x0.dstIp != x2) (.ret (true,()))<|
   .cal CD.c ((⟨2,x1,x2,x0.srcHw,x0.srcIp⟩:Arpm),()) λc1=>
   .ret ((!c1),())) λ(u2a0,_)=>
  .ite u2a0 (.ret ((⟨0,0,0,0,0⟩:Arpm),false))<|
  .ret ((⟨2,x1,x2,x0.srcHw,x0.srcIp⟩:Arpm),true),
 λ(x0,x1,x2,_) hp=>by
  refine Tr.B (Q':=λ_=>True) (Tr.I (λ_=>Tr.R trivial) λ_=>Tr.I (λ_=>Tr.R trivial) λ_=>Tr.C trivial λ_ _ _=>Tr.R trivial) (λ(u2a0,_) _ _=>Tr.F (by kernel_rfl) trivial)⟩
noncomputable def Qh:=aV st QA QX [] (ks:=[.st .arpm,.sc (.int .i64),.sc (.int .i64)]) vo (λv=>[(true,Jv v.1),(false,[.c (.bool v.2)])]) Tryz.func234 trivial
noncomputable def qC:FT (Arpm×Unit) (ac) (λ_=>True) (λx v=>sS v∧v.length≤40):=⟨λ(x0,_)=>
  .cal CD.c (x0,()) λc1=>
  .ite (!c1) (.ret [])<|
  .cal aQ.c (x0.kind,2,()) λc2=>
  .grd (Nat.ble (6+c2.length) an)<|
  .cal aQ.c (x0.srcHw,6,()) λc3=>
  .grd (Nat.ble (([0,1,8,0,6,4]++c2).length+c3.length) an)<|
  .cal aQ.c (x0.srcIp,4,()) λc4=>
  .grd (Nat.ble ((([0,1,8,0,6,4]++c2)++c3).length+c4.length) an)<|
  .cal aQ.c (x0.dstHw,6,()) λc5=>
  .grd (Nat.ble (((([0,1,8,0,6,4]++c2)++c3)++c4).length+c5.length) an)<|
  .cal aQ.c (x0.dstIp,4,()) λc6=>
  .grd (Nat.ble ((((([0,1,8,0,6,4]++c2)++c3)++c4)++c5).length+c6.length) an)<|
  .ret ((((([0,1,8,0,6,4]++c2)++c3)++c4)++c5)++c6),
 λ(x0,_) hp=>by
  refine Tr.C trivial λc1 hc1 qc1=>Tr.I (λb0=>Tr.R ?_) λb0=>Tr.C trivial λc2 hc2 qc2=>Tr.Gb ?_ λg1=>Tr.C trivial λc3 hc3 qc3=>Tr.Gb ?_ λg2=>Tr.C trivial λc4 hc4 qc4=>Tr.Gb ?_ λg3=>Tr.C trivial λc5 hc5 qc5=>Tr.Gb ?_ λg4=>Tr.C trivial λc6 hc6 qc6=>Tr.Gb ?_ λg5=>Tr.R ?_
  all_goals ((first|(simp only[List.length_append,List.length_cons,List.length_nil,an,sS]at*;omega)|grind))⟩
noncomputable def xT:=bf st Tryz.func235 [Pg,kp] (ks:=[.st .arpm]) qC (λv=>[(false,[.c (.str v)])])
noncomputable def Xs:FT (Conn×Unit) (Bool) (λx=>ai x.1) (λ_ _=>True):=⟨λ(x0,_)=>
  .cal jC.c (x0,()) λc1=>
  .ite c1 (.ite (x0.state==7) (.ret true)<|
   .ite (x0.state != 8) (.val (Uf.f (x0,())) λc2=>
    .ret c2)<|
   .ret false)<|
  .ret false,
 λ(x0,_) hp=>by
  refine Tr.C ?_ λ_ _ _=>Tr.F (by kernel_rfl) trivial
  all_goals (grind)⟩
noncomputable def X1:=bf st Tryz.func270 [jb,Wq] (ks:=[.st .conn]) Xs (λv=>[(false,[.c (.bool v)])])
noncomputable def kR:FT (Conn×Unit) (Segm) (λx=>ai x.1) (λx v=>ao v):=⟨λ(x0,_)=>
  .cal xM.c (x0.s,()) λc1=>
  .cal gZ.c (x0.r,()) λc2=>
  .val (bM.f (())) λc3=>
  .ret (⟨x0.tuple.my,x0.tuple.port,c1,x0.r.next,16,c2,c3,[]⟩:Segm),
 λ(x0,_) hp=>by
  refine Tr.C ?_ λ_ _ _=>Tr.C ?_ λ_ _ _=>Tr.V λ_ _=>Tr.R ?_
  all_goals (grind)⟩
noncomputable def yH:=bf st Tryz.func271 [Lo,kT,eB] (ks:=[.st .conn]) kR (λv=>[(true,qU v)])
noncomputable def Ov:FT (Sndr×Unit) (Sndr) (λx=>cf x.1) (λx v=>cf v):=⟨λ(x0,_)=>
  .cal fm.c (x0,()) λc1=>
  .ite c1 (.ret ({x0 with sent:=0,finSent:=false}:Sndr))<|
  .ret x0,
 λ(x0,_) hp=>by
  refine Tr.C trivial λ_ _ _=>Tr.I (λ_=>Tr.R ?_) λ_=>Tr.R ?_
  all_goals (grind)⟩
noncomputable def SG:=bf st Tryz.func272 [kJ] (ks:=[.st .sndr]) Ov (λv=>[(true,ya v)])
noncomputable def TV:=[eY,jb,WX,zf,yH,Fb]
def sD:Sh:=⟨[zi 1,zp 2 0,zp 4 1,(6,false,[.own 2])],[.box [.st .conn [.own 3]],.box [.st .conn [.nil .piec]],.arr .segm false true,.of false true]⟩
noncomputable def Up:Fx:=⟨273,Tryz.f273,[(0,lb [1,2,4,6] [4,5]),(3000003,rA 0 25)],0⟩
noncomputable def sP (v0:Int)(a:Conn×Conn×List Segm):Tr (Stp (Conn×Conn×List Segm) ((Conn×List Segm))):=
 .val (Cv.f (a.1,())) λc4=>
 .cal pA.c (a.1.s,v0,c4,()) λc5=>
 .ite (!c5.2) (.ret (.out (a.1,a.2.2)))<|
 .cal kR.c (a.1,()) λc6=>
 .ite (!(c5.1.text==[])) (.ite c5.1.fin (.grd (Nat.ble ((2*(a.2.2.length+1)+1024)*104) aF)<|
   .val (a.2.2++[({c6 with seq:=c5.1.seq,flags:=(bits .or .i64 (bits .or .i64 c6.flags 8) 1),body:=c5.1.text}:Segm)]) λl7=>
   .cal l0.c (a.1.s,c5.1,()) λc8=>
   .ite (a.1.timer==0) (.ret (.next ((⟨a.1.tuple,a.1.state,c8,a.1.r,a.1.window,a.1.most,a.1.opts,3,a.1.tries⟩:Conn),({a.2.1 with r.held:=[]}:Conn),l7)))<|
   .ret (.next (({a.1 with s.una:=c8.una,s.data:=c8.data,s.sent:=c8.sent,s.fin:=c8.fin,s.finSent:=c8.finSent,s.done:=c8.done}:Conn),({a.2.1 with r.held:=[]}:Conn),l7)))<|
  .grd (Nat.ble ((2*(a.2.2.length+1)+1024)*104) aF)<|
  .val (a.2.2++[({c6 with seq:=c5.1.seq,flags:=(bits .or .i64 c6.flags 8),body:=c5.1.text}:Segm)]) λl9=>
  .cal l0.c (a.1.s,c5.1,()) λc10=>
  .ite (a.1.timer==0) (.ret (.next ((⟨a.1.tuple,a.1.state,c10,a.1.r,a.1.window,a.1.most,a.1.opts,3,a.1.tries⟩:Conn),({a.2.1 with r.held:=[]}:Conn),l9)))<|
  .ret (.next (({a.1 with s.una:=c10.una,s.data:=c10.data,s.sent:=c10.sent,s.fin:=c10.fin,s.finSent:=c10.finSent,s.done:=c10.done}:Conn),({a.2.1 with r.held:=[]}:Conn),l9)))<|
 .ite c5.1.fin (.grd (Nat.ble ((2*(a.2.2.length+1)+1024)*104) aF)<|
  .val (a.2.2++[({c6 with seq:=c5.1.seq,flags:=(bits .or .i64 c6.flags 1),body:=c5.1.text}:Segm)]) λl11=>
  .cal l0.c (a.1.s,c5.1,()) λc12=>
  .ite (a.1.timer==0) (.ret (.next ((⟨a.1.tuple,a.1.state,c12,a.1.r,a.1.window,a.1.most,a.1.opts,3,a.1.tries⟩:Conn),({a.2.1 with r.held:=[]}:Conn),l11)))<|
  .ret (.next (({a.1 with s.una:=c12.una,s.data:=c12.data,s.sent:=c12.sent,s.fin:=c12.fin,s.finSent:=c12.finSent,s.done:=c12.done}:Conn),({a.2.1 with r.held:=[]}:Conn),l11)))<|
 .grd (Nat.ble ((2*(a.2.2.length+1)+1024)*104) aF)<|
 .cal l0.c (a.1.s,c5.1,()) λc13=>
 .ite (a.1.timer==0) (.ret (.next ((⟨a.1.tuple,a.1.state,c13,a.1.r,a.1.window,a.1.most,a.1.opts,3,a.1.tries⟩:Conn),({a.2.1 with r.held:=[]}:Conn),(a.2.2++[({c6 with seq:=c5.1.seq,body:=c5.1.text}:Segm)]))))<|
 .ret (.next (({a.1 with s.una:=c13.una,s.data:=c13.data,s.sent:=c13.sent,s.fin:=c13.fin,s.finSent:=c13.finSent,s.done:=c13.done}:Conn),({a.2.1 with r.held:=[]}:Conn),(a.2.2++[({c6 with seq:=c5.1.seq,body:=c5.1.text}:Segm)])))
noncomputable def ko:sD.V→LW sD (Conn×Conn×List Segm) ((Conn×List Segm)):=λ(v0,v1,v2,v3,_)=>⟨(v1,v2,v3),λa=>(v0,a.1,a.2.1,a.2.2,()),sP v0,H2 v1.s,λ_ k p=>k .ret (Sh.enc ⟨[zp 4 0,(5,false,[.own 1])],[.box [.st .conn [.own 2]],.arr .segm false true,.of false true]⟩ (p.1,p.2,()))⟩
set_option maxHeartbeats 4000000 in
theorem Ud:LS Tryz.prog Up [0] (DJ 0 sD ko):=uf st (aj TV) _ ko [] trivial
theorem R5 {v0:Int}{v1 v2:Conn}{v3:List Segm}(h0:ai v1∧ai v2∧sL ao v3∧v3.length+H2 v1.s≤49):(ko (v0,v1,v2,v3,())).W (λp=>ai p.1∧sL ao p.2∧p.2.length≤49):=
 LW.okW (a:=(v1,v2,v3)) (λa=>ai a.1∧ai a.2.1∧sL ao a.2.2∧a.2.2.length+H2 a.1.s≤49) (λa=>H2 a.1.s) rfl h0 λ(v1,v2,v3) hv=>by
  refine Tr.V λc4 hc4=>Tr.C ?_ λc5 hc5 qc5=>Tr.I (λb0=>Tr.Ro ?_) λb0=>Tr.C ?_ λc6 hc6 qc6=>Tr.I (λb1=>Tr.I (λb2=>Tr.Gb ?_ λg3=>Tr.V λl7 hl7=>Tr.C ?_ λc8 hc8 qc8=>Tr.I (λb4=>Tr.Rn ?_) λb4=>Tr.Rn ?_) λb2=>Tr.Gb ?_ λg3=>Tr.V λl9 hl9=>Tr.C ?_ λc10 hc10 qc10=>Tr.I (λb4=>Tr.Rn ?_) λb4=>Tr.Rn ?_) λb1=>Tr.I (λb2=>Tr.Gb ?_ λg3=>Tr.V λl11 hl11=>Tr.C ?_ λc12 hc12 qc12=>Tr.I (λb4=>Tr.Rn ?_) λb4=>Tr.Rn ?_) λb2=>Tr.Gb ?_ λg3=>Tr.C ?_ λc13 hc13 qc13=>Tr.I (λb4=>Tr.Rn ?_) λb4=>Tr.Rn ?_
  all_goals ((first|grind|(have tl:∀s:ac,s=[]∨0<s.length:=(λs=>by cases s<;>simp);grind)))
noncomputable def mI:FT (Conn×Int×Unit) (Conn×List Segm) (λx=>ai x.1) (λx v=>ai v.1∧sL ao v.2∧v.2.length≤49):=⟨λ(x0,x1,_)=>
  .cal ez.c (x0,()) λc1=>
  .bnd (β:=Bool×Unit) (.cal jC.c (c1,()) λc2=>
   .ite (!c2) (.ret (true,()))<|
   .ite (c1.state==8) (.ret (true,()))<|
   .ret ((c1.state==7),())) λ(u3a0,_)=>
  .ite u3a0 (.ret (c1,[]))<|
  .lp (ko (x1,c1,(⟨⟨0,0,0⟩,0,⟨0,[],0,false,false,false⟩,⟨0,[],[],0,false⟩,0,0,⟨0,0,false,false,0,0⟩,0,0⟩:Conn),[],())).lp λ(p14a0,p14a1)=>
  .ret (p14a0,p14a1),
 λ(x0,x1,_) hp=>by
  refine Tr.C ?_ λc1 _ _=>Tr.B (Q':=λw=>(w.1=false→SO c1.s∧RO c1.r)) (Tr.C ?_ λ_ _ _=>Tr.I (λ_=>Tr.R ?_) λ_=>Tr.I (λ_=>Tr.R ?_) λ_=>Tr.R ?_) (λ(u3a0,_) _ _=>Tr.I (λ_=>Tr.R ?_) λ_=>Tr.L (R5 ?_) (λa=>Empty.elim a) (λ(p14a0,p14a1) _=>Tr.R ?_))
  all_goals ((try simp only[ko,LW.lp,LW.cw,Cw.lp,Tr.nice,bo]at*)<;>grind)⟩
noncomputable def Ck:=aV st Up TV [(DJ 0 sD ko)] (ks:=[.st .conn,.sc (.int .i64)]) mI (λv=>[(true,jP (.o true) v.1),(false,[sc (.o true) .segm v.2])]) Tryz.func273 ⟨Ud,trivial⟩
noncomputable def Vu:=[kJ,od]
noncomputable def Ws:Fx:=⟨276,Tryz.f276,[(3000001,rA 0 13)],0⟩
noncomputable def JJ:FT (Sndr×ac×Unit) (Sndr×Int) (λx=>cf x.1∧sS x.2.1) (λx v=>cf v.1):=⟨λ(x0,x1,_)=>
  .bnd (β:=Bool×Unit) (.cal fm.c (x0,()) λc1=>
   .ite (!c1) (.ret (true,()))<|
   .ret (x0.fin,())) λ(u2a0,_)=>
  .ite u2a0 (.ret (x0,0))<|
  .val (j1.f ((x1.length:Int),(IntKind.wrap .i64 (48-(x0.data.length:Int))),())) λc3=>
  .grd ((decide (0≤c3))&&(decide (c3≤(x1.length:Int))))<|
  .grd (Nat.ble (x0.data.length+((x1.take c3.toNat).drop 0).length) an)<|
  .ret (({x0 with data:=(x0.data++((x1.take c3.toNat).drop 0))}:Sndr),c3),
 λ(x0,x1,_) hp=>by
  refine Tr.B (Q':=λw=>(w.1=false→SO x0)) (Tr.C trivial λ_ _ _=>Tr.I (λ_=>Tr.R ?_) λ_=>Tr.R ?_) (λ(u2a0,_) _ _=>Tr.I (λ_=>Tr.R ?_) λ_=>Tr.V λ_ _=>Tr.G2 ?_ λ_=>Tr.Gb ?_ λ_=>Tr.R ?_)
  all_goals ((try simp only[Tr.nice,bo]at*)<;>grind)⟩
noncomputable def Mg:=aV st Ws Vu [] (ks:=[.st .sndr,.sc .str]) JJ (λv=>[(true,ya v.1),(false,[.c (.int .i64 v.2)])]) Tryz.func276 trivial
noncomputable def DF:FT (Recv×Int×Unit) (Recv×ac) (λx=>ax x.1) (λx v=>ax v.1∧sS v.2∧v.1.held.length=x.1.held.length):=⟨λ(x0,x1,_)=>
  .cal dY.c (x0,()) λc1=>
  .cal kB.c (x0,()) λc2=>
  .ite (!c2) (.ret (c1,[]))<|
  .val (j1.f (x1,(x0.data.length:Int),())) λc3=>
  .val (fO.f (0,c3,())) λc4=>
  .grd (((decide (0≤c4))&&(decide (c4≤(x0.data.length:Int))))&&(decide ((x0.data.length:Int)≤(x0.data.length:Int))))<|
  .grd ((decide (0≤c4))&&(decide (c4≤(x0.data.length:Int))))<|
  .ret (({c1 with data:=((x0.data.take ((x0.data.length:Int).toNat)).drop c4.toNat)}:Recv),((x0.data.take c4.toNat).drop 0)),
 λ(x0,x1,_) hp=>by
  refine Tr.C ?_ λ_ _ _=>Tr.C ?_ λ_ _ _=>Tr.I (λ_=>Tr.R ?_) λ_=>Tr.V λ_ _=>Tr.V λ_ _=>Tr.G3 ?_ λ_=>Tr.G2 ?_ λ_=>Tr.R ?_
  all_goals (grind)⟩
noncomputable def Fz:=bf st Tryz.func278 [xh,qI,od,mf] (ks:=[.st .recv,.sc (.int .i64)]) DF (λv=>[(true,vm (.o true) v.1),(false,[.c (.str v.2)])])
noncomputable def cL:FT (Conn×Unit) (Segm) (λx=>ai x.1) (λx v=>ao v):=⟨λ(x0,_)=>
  .cal ki.c (x0.s,()) λc1=>
  .cal ce.c (x0.r,()) λc2=>
  .val (bO.f (())) λc3=>
  .ret (⟨x0.tuple.my,x0.tuple.port,c1,x0.r.next,16,c2,c3,[]⟩:Segm),
 λ(x0,_) hp=>by
  refine Tr.C ?_ λ_ _ _=>Tr.C ?_ λ_ _ _=>Tr.V λ_ _=>Tr.R ?_
  all_goals (grind)⟩
noncomputable def N9:=bf st Tryz.func295 [Ki,nG,jK] (ks:=[.st .conn]) cL (λv=>[(true,qU v)])
noncomputable def UO:=[ia,uO,WD,M7,N9,S8]
def r8:Sh:=⟨[zi 1,zp 4 0,zp 6 1,(7,false,[.own 2])],[.box [.st .conn [.nil .piec]],.box [.st .conn [.own 3]],.arr .segm false true,.of false true]⟩
noncomputable def UQ:Fx:=⟨297,Tryz.f297,[(0,lb [1,4,6,7] [4,5,6,7]),(3000002,rA 0 25),(3000016,rA 0 76)],0⟩
noncomputable def cd (v0:Int)(a:Conn×Conn×List Segm):Tr (Stp (Conn×Conn×List Segm) ((Conn×Conn×List Segm))):=
 .val (dF.f (a.2.1,())) λc4=>
 .cal bg.c (a.2.1.s,v0,c4,()) λc5=>
 .ite (!c5.2) (.ret (.out (({a.1 with r.held:=[]}:Conn),a.2.1,a.2.2)))<|
 .cal cL.c (a.2.1,()) λc6=>
 .ite (!(c5.1.text==[])) (.ite c5.1.fin (.grd (Nat.ble ((2*(a.2.2.length+1)+1024)*104) aF)<|
   .val (a.2.2++[({c6 with seq:=c5.1.seq,flags:=(bits .or .i64 (bits .or .i64 c6.flags 8) 1),body:=c5.1.text}:Segm)]) λl7=>
   .cal dC.c (a.2.1.s,c5.1,()) λc8=>
   .ret (.next (({a.1 with r.held:=[]}:Conn),({a.2.1 with s.una:=c8.una,s.data:=c8.data,s.sent:=c8.sent,s.fin:=c8.fin,s.finSent:=c8.finSent,s.done:=c8.done}:Conn),l7)))<|
  .grd (Nat.ble ((2*(a.2.2.length+1)+1024)*104) aF)<|
  .val (a.2.2++[({c6 with seq:=c5.1.seq,flags:=(bits .or .i64 c6.flags 8),body:=c5.1.text}:Segm)]) λl9=>
  .cal dC.c (a.2.1.s,c5.1,()) λc10=>
  .ret (.next (({a.1 with r.held:=[]}:Conn),({a.2.1 with s.una:=c10.una,s.data:=c10.data,s.sent:=c10.sent,s.fin:=c10.fin,s.finSent:=c10.finSent,s.done:=c10.done}:Conn),l9)))<|
 .ite c5.1.fin (.grd (Nat.ble ((2*(a.2.2.length+1)+1024)*104) aF)<|
  .val (a.2.2++[({c6 with seq:=c5.1.seq,flags:=(bits .or .i64 c6.flags 1),body:=c5.1.text}:Segm)]) λl11=>
  .cal dC.c (a.2.1.s,c5.1,()) λc12=>
  .ret (.next (({a.1 with r.held:=[]}:Conn),({a.2.1 with s.una:=c12.una,s.data:=c12.data,s.sent:=c12.sent,s.fin:=c12.fin,s.finSent:=c12.finSent,s.done:=c12.done}:Conn),l11)))<|
 .grd (Nat.ble ((2*(a.2.2.length+1)+1024)*104) aF)<|
 .cal dC.c (a.2.1.s,c5.1,()) λc13=>
 .ret (.next (({a.1 with r.held:=[]}:Conn),({a.2.1 with s.una:=c13.una,s.data:=c13.data,s.sent:=c13.sent,s.fin:=c13.fin,s.finSent:=c13.finSent,s.done:=c13.done}:Conn),(a.2.2++[({c6 with seq:=c5.1.seq,body:=c5.1.text}:Segm)])))
noncomputable def fT:r8.V→LW r8 (Conn×Conn×List Segm) ((Conn×Conn×List Segm)):=λ(v0,v1,v2,v3,_)=>⟨(v1,v2,v3),λa=>(v0,a.1,a.2.1,a.2.2,()),cd v0,H2 v2.s,λ_ k p=>k (.exit 0) (Sh.enc ⟨[zp 4 0,zu 5,zp 6 1,(7,false,[.own 2])],[.box [.st .conn [.nil .piec]],.box [.st .conn [.own 3]],.arr .segm false true,.of false true]⟩ (p.1,p.2.1,p.2.2,()))⟩
theorem Uw:LS Tryz.prog UQ [0] (DJ 0 r8 fT):=uf st (aj UO) _ fT [] trivial
theorem RQ {v0:Int}{v1 v2:Conn}{v3:List Segm}(h0:ai v1∧ai v2∧sL ao v3∧v3.length+H2 v2.s≤49):(fT (v0,v1,v2,v3,())).W (λp=>ai p.1∧ai p.2.1∧sL ao p.2.2∧p.2.2.length≤49):=
 LW.okW (a:=(v1,v2,v3)) (λa=>ai a.1∧ai a.2.1∧sL ao a.2.2∧a.2.2.length+H2 a.2.1.s≤49) (λa=>H2 a.2.1.s) rfl h0 λ(v1,v2,v3) hv=>by
  refine Tr.V λc4 hc4=>Tr.C ?_ λc5 hc5 qc5=>Tr.I (λb0=>Tr.Ro ?_) λb0=>Tr.C ?_ λc6 hc6 qc6=>Tr.I (λb1=>Tr.I (λb2=>Tr.Gb ?_ λg3=>Tr.V λl7 hl7=>Tr.C ?_ λc8 hc8 qc8=>Tr.Rn ?_) λb2=>Tr.Gb ?_ λg3=>Tr.V λl9 hl9=>Tr.C ?_ λc10 hc10 qc10=>Tr.Rn ?_) λb1=>Tr.I (λb2=>Tr.Gb ?_ λg3=>Tr.V λl11 hl11=>Tr.C ?_ λc12 hc12 qc12=>Tr.Rn ?_) λb2=>Tr.Gb ?_ λg3=>Tr.C ?_ λc13 hc13 qc13=>Tr.Rn ?_
  all_goals ((first|grind|(have tl:∀s:ac,s=[]∨0<s.length:=(λs=>by cases s<;>simp);grind)))
noncomputable def eG:FT (Conn×Int×Unit) (Conn×List Segm) (λx=>ai x.1) (λx v=>ai v.1∧sL ao v.2∧v.2.length≤49):=⟨λ(x0,x1,_)=>
  .cal d7.c (x0,()) λc1=>
  .bnd (β:=Bool×Unit) (.cal bV.c (x0,()) λc2=>
   .ite (!c2) (.ret (true,()))<|
   .ite (x0.state==8) (.ret (true,()))<|
   .ret ((x0.state==7),())) λ(u3a0,_)=>
  .ite u3a0 (.ret (c1,[]))<|
  .lp (fT (x1,(⟨⟨0,0,0⟩,0,⟨0,[],0,false,false,false⟩,⟨0,[],[],0,false⟩,0,0,⟨0,0,false,false,0,0⟩,0,0⟩:Conn),c1,[],())).lp λ(_,p14a1,p14a2)=>
  .bnd (β:=Bool×Unit) (.ite (decide (0<(p14a2.length:Int))) (.ret ((p14a1.timer==0),()))<|
   .ret (false,())) λ(u15a0,_)=>
  .ite u15a0 (.ret (({p14a1 with timer:=3}:Conn),p14a2))<|
  .ret (p14a1,p14a2),
 λ(x0,x1,_) hp=>by
  refine Tr.C ?_ λ_ _ _=>Tr.B (Q':=λw=>(w.1=false→SO x0.s∧RO x0.r)) (Tr.C ?_ λ_ _ _=>Tr.I (λ_=>Tr.R ?_) λ_=>Tr.I (λ_=>Tr.R ?_) λ_=>Tr.R ?_) (λ(u3a0,_) _ _=>Tr.I (λ_=>Tr.R ?_) λ_=>Tr.L (RQ ?_) (λa=>Empty.elim a) (λ(p14a0,p14a1,p14a2) _=>Tr.B (Q':=λ_=>True) (Tr.F (by kernel_rfl) trivial) (λ(u15a0,_) _ _=>Tr.I (λ_=>Tr.R ?_) λ_=>Tr.R ?_)))
  all_goals ((try simp only[fT,LW.lp,LW.cw,Cw.lp,Tr.nice,bo]at*)<;>grind)⟩
noncomputable def aaA:=aV st UQ UO [(DJ 0 r8 fT)] (ks:=[.st .conn,.sc (.int .i64)]) eG (λv=>[(true,jP (.o true) v.1),(false,[sc (.o true) .segm v.2])]) Tryz.func297 ⟨Uw,trivial⟩
noncomputable def AW:=[jK,NM,S7]
noncomputable def Ae:Fx:=⟨306,Tryz.f306,[(3000004,rA 0 24)],0⟩
noncomputable def cM:FT (Int×Opti×Unit) (Opti) (λ_=>True) (λ_ _=>True):=⟨λ(x0,x1,_)=>
  .val (bO.f (())) λc1=>
  .cal gC.c (x0,()) λc2=>
  .cal mj.c (x1.echo,()) λc3=>
  .bnd (β:=Bool×Unit) (.ite x1.stamp (.ret (c3.2.2,()))<|
   .ret (false,())) λ(u4a0,_)=>
  .ite u4a0 (.ret (⟨c2,c3.1,c3.2.1,true,x1.val,c1.echo⟩:Opti))<|
  .ret ({c1 with mss:=c2}:Opti),
 λ(x0,x1,_) hp=>by
  refine Tr.V λ_ _=>Tr.C trivial λ_ _ _=>Tr.C trivial λ_ _ _=>Tr.F (by kernel_rfl) trivial⟩
noncomputable def Ah:=aV st Ae AW [] (ks:=[.sc (.int .i64),.st .opti]) cM (λv=>[(true,nV v)]) Tryz.func306 trivial
noncomputable def UJ:=[Dc]
noncomputable def RZ:Fx:=⟨312,Tryz.f312,[(3000003,rA 0 27)],0⟩
noncomputable def ub:FT (List Half×Half×Int×Unit) (List Half×Bool) (λx=>sS x.1) (λx v=>sS v.1∧(v.1.length:Int)≤x.1.length+1):=⟨λ(x0,x1,x2,_)=>
  .grd (Nat.ble ((2*(0+x0.length)+1024)*96) aF)<|
  .grd (Nat.ble ((2*(0+x0.length)+1024)*96) aF)<|
  .grd (Nat.ble ((2*(([]++x0).length+1)+1024)*96) aF)<|
  .bnd (β:=Bool×Unit) (.ite (decide (x2≤(x0.length:Int))) (.ret (true,()))<|
   .cal n5.c ((([]++x0)++[x1]),()) λc1=>
   .ret ((!c1),())) λ(u2a0,_)=>
  .ite u2a0 (.ret (([]++x0),false))<|
  .ret ((([]++x0)++[x1]),true),
 λ(x0,x1,x2,_) hp=>by
  refine Tr.Gb ?_ λ_=>Tr.Gb ?_ λ_=>Tr.Gb ?_ λ_=>Tr.B (Q':=λw=>(w.1=false→(([]++x0)++[x1]).length≤64)) (Tr.I (λ_=>Tr.R ?_) λ_=>Tr.C ?_ λ_ _ _=>Tr.R ?_) (λ(u2a0,_) _ _=>Tr.I (λ_=>Tr.R ?_) λ_=>Tr.R ?_)
  all_goals ((try simp only[Tr.nice,bo]at*)<;>grind)⟩
noncomputable def FC:=aV st RZ UJ [] (ks:=[.sc (.sl .half),.st .half,.sc (.int .i64)]) ub (λv=>[(false,[sc (.o true) .half v.1]),(false,[.c (.bool v.2)])]) Tryz.func312 trivial
noncomputable def Aa:=[eB,NW,Um]
noncomputable def Al:Fx:=⟨316,Tryz.f316,[(3000004,rA 0 24)],0⟩
noncomputable def kS:FT (Int×Opti×Unit) (Opti) (λ_=>True) (λ_ _=>True):=⟨λ(x0,x1,_)=>
  .val (bM.f (())) λc1=>
  .cal BT.c (x0,()) λc2=>
  .cal yQ.c (x1.echo,()) λc3=>
  .bnd (β:=Bool×Unit) (.ite x1.stamp (.ret (c3.2.2,()))<|
   .ret (false,())) λ(u4a0,_)=>
  .ite u4a0 (.ret (⟨c2,c3.1,c3.2.1,true,x1.val,c1.echo⟩:Opti))<|
  .ret ({c1 with mss:=c2}:Opti),
 λ(x0,x1,_) hp=>by
  refine Tr.V λ_ _=>Tr.C trivial λ_ _ _=>Tr.C trivial λ_ _ _=>Tr.F (by kernel_rfl) trivial⟩
noncomputable def zW:=aV st Al Aa [] (ks:=[.sc (.int .i64),.st .opti]) kS (λv=>[(true,nV v)]) Tryz.func316 trivial
noncomputable def fN:FT (Pack×Unit) (ac) (λx=>kN x.1) (λx v=>sS v∧v.length≤1520):=⟨λ(x0,_)=>
  .cal hY.c (x0,()) λc1=>
  .ite (!c1) (.ret [])<|
  .cal ay.c ((IntKind.wrap .i64 (20+(x0.body.length:Int))),2,()) λc2=>
  .grd (Nat.ble (2+c2.length) an)<|
  .cal ay.c (x0.id,2,()) λc3=>
  .grd (Nat.ble (([69,0]++c2).length+c3.length) an)<|
  .grd (Nat.ble ((([69,0]++c2)++c3).length+2) an)<|
  .cal ay.c (x0.ttl,1,()) λc4=>
  .grd (Nat.ble (((([69,0]++c2)++c3)++[0,0]).length+c4.length) an)<|
  .cal ay.c (x0.proto,1,()) λc5=>
  .grd (Nat.ble ((((([69,0]++c2)++c3)++[0,0])++c4).length+c5.length) an)<|
  .cal ay.c (x0.src,4,()) λc6=>
  .cal ay.c (x0.dst,4,()) λc7=>
  .grd (Nat.ble (c6.length+c7.length) an)<|
  .grd (Nat.ble (((((([69,0]++c2)++c3)++[0,0])++c4)++c5).length+2) an)<|
  .grd (Nat.ble ((((((([69,0]++c2)++c3)++[0,0])++c4)++c5)++[0,0]).length+(c6++c7).length) an)<|
  .val ((((((([69,0]++c2)++c3)++[0,0])++c4)++c5)++[0,0])++(c6++c7)) λe8=>
  .cal iq.c (e8,()) λc9=>
  .cal ay.c (c9,2,()) λc10=>
  .grd (Nat.ble (((((([69,0]++c2)++c3)++[0,0])++c4)++c5).length+c10.length) an)<|
  .grd (Nat.ble ((((((([69,0]++c2)++c3)++[0,0])++c4)++c5)++c10).length+(c6++c7).length) an)<|
  .val ((((((([69,0]++c2)++c3)++[0,0])++c4)++c5)++c10)++(c6++c7)) λe11=>
  .grd (Nat.ble (e11.length+x0.body.length) an)<|
  .ret (e11++x0.body),
 λ(x0,_) hp=>by
  refine Tr.C trivial λc1 hc1 qc1=>Tr.I (λb0=>Tr.R ?_) λb0=>Tr.C trivial λc2 hc2 qc2=>Tr.Gb ?_ λg1=>Tr.C trivial λc3 hc3 qc3=>Tr.Gb ?_ λg2=>Tr.Gb ?_ λg3=>Tr.C trivial λc4 hc4 qc4=>Tr.Gb ?_ λg4=>Tr.C trivial λc5 hc5 qc5=>Tr.Gb ?_ λg5=>Tr.C trivial λc6 hc6 qc6=>Tr.C trivial λc7 hc7 qc7=>Tr.Gb ?_ λg6=>Tr.Gb ?_ λg7=>Tr.Gb ?_ λg8=>Tr.V λe8 he8=>Tr.C ?_ λc9 hc9 qc9=>Tr.C trivial λc10 hc10 qc10=>Tr.Gb ?_ λg9=>Tr.Gb ?_ λg10=>Tr.V λe11 he11=>Tr.Gb ?_ λg11=>Tr.R ?_
  all_goals ((first|(simp only[List.length_append,List.length_cons,List.length_nil,an,sS]at*;omega)|grind))⟩
noncomputable def Ly:=bf st Tryz.func346 [QJ,ka,Ez] (ks:=[.st .pack]) fN (λv=>[(false,[.c (.str v)])])
noncomputable def uU:FT (Conn×Conn×Unit) (Bool) (λx=>ai x.1∧ai x.2.1) (λ_ _=>True):=⟨λ(x0,x1,_)=>
  .ite ((x0.tuple.ip==x1.tuple.ip)&&((x0.tuple.port==x1.tuple.port)&&((x0.tuple.my==x1.tuple.my)&&true))) (.ite (x0.state==x1.state) (.ite ((x0.s.una==x1.s.una)&&((x0.s.data==x1.s.data)&&((x0.s.sent==x1.s.sent)&&((x0.s.fin==x1.s.fin)&&((x0.s.finSent==x1.s.finSent)&&((x0.s.done==x1.s.done)&&true)))))) (.cal mW.c (x0.r,x1.r,()) λc1=>
     .ite c1 (.ite (x0.window==x1.window) (.ite (x0.most==x1.most) (.ite ((x0.opts.mss==x1.opts.mss)&&((x0.opts.scale==x1.opts.scale)&&((x0.opts.sack==x1.opts.sack)&&((x0.opts.stamp==x1.opts.stamp)&&((x0.opts.val==x1.opts.val)&&((x0.opts.echo==x1.opts.echo)&&true)))))) (.ite (x0.timer==x1.timer) (.ret (x0.tries==x1.tries))<|
         .ret false)<|
        .ret false)<|
       .ret false)<|
      .ret false)<|
     .ret false)<|
    .ret false)<|
   .ret false)<|
  .ret false,
 λ(x0,x1,_) hp=>by
  refine Tr.I (λ_=>Tr.I (λ_=>Tr.I (λ_=>Tr.C ?_ λ_ _ _=>Tr.F (by kernel_rfl) trivial) λ_=>Tr.R trivial) λ_=>Tr.R trivial) λ_=>Tr.R trivial
  all_goals (grind)⟩
noncomputable def Qb:=bf st Tryz.func353 [DI] (ks:=[.st .conn,.st .conn]) uU (λv=>[(false,[.c (.bool v)])])
noncomputable def ue:FT (Sipr×Int×Unit) (Sipr) (λ_=>True) (λ_ _=>True):=⟨λ(x0,x1,_)=>
  .cal jp.c (({x0 with d:=(bits .xor .u64 x0.d x1)}:Sipr),()) λc1=>
  .cal jp.c (c1,()) λc2=>
  .ret ({c2 with a:=(bits .xor .u64 c2.a x1)}:Sipr),
 λ(x0,x1,_) hp=>by
  refine Tr.C trivial λ_ _ _=>Tr.C trivial λ_ _ _=>Tr.R trivial⟩
noncomputable def Ta:=bf st Tryz.func371 [Bv] (ks:=[.st .sipr,.sc (.int .u64)]) ue (λv=>[(true,DP v)])
noncomputable def Cq:FT (Sipr×Unit) (Int) (λ_=>True) (λ_ _=>True):=⟨λ(x0,_)=>
  .cal jp.c (({x0 with c:=(bits .xor .u64 x0.c 255)}:Sipr),()) λc1=>
  .cal jp.c (c1,()) λc2=>
  .cal jp.c (c2,()) λc3=>
  .cal jp.c (c3,()) λc4=>
  .ret (bits .xor .u64 (bits .xor .u64 (bits .xor .u64 c4.a c4.b) c4.c) c4.d),
 λ(x0,_) hp=>by
  refine Tr.C trivial λ_ _ _=>Tr.C trivial λ_ _ _=>Tr.C trivial λ_ _ _=>Tr.C trivial λ_ _ _=>Tr.R trivial⟩
noncomputable def Vn:=bf st Tryz.func373 [Bv] (ks:=[.st .sipr]) Cq (λv=>[(false,[.c (.int .u64 v)])])
noncomputable def Kc:=[qZ,nG,xI,uz,Pn]
noncomputable def J0:Fx:=⟨380,Tryz.f380,[(3000003,rA 0 4)],0⟩
noncomputable def pQ:FT (Conn×Segm×Unit) (Bool) (λx=>ai x.1∧ao x.2.1) (λ_ _=>True):=⟨λ(x0,x1,_)=>
  .cal aO.c (x1,()) λc1=>
  .cal ce.c (x0.r,()) λc2=>
  .ite (c1==0) (.bnd (β:=Bool×Unit) (.val (qy.f (x1.seq,x0.r.next,())) λc3=>
    .ite (c3==0) (.ret (true,()))<|
    .val (nY.f (x1.seq,x0.r.next,c2,())) λc4=>
    .ret (c4,())) λ(u5a0,_)=>
   .ret u5a0)<|
  .val (vv.f (x1.seq,c1,x0.r.next,c2,())) λc6=>
  .ret c6,
 λ(x0,x1,_) hp=>by
  refine Tr.C ?_ λ_ _ _=>Tr.C ?_ λ_ _ _=>Tr.F (by kernel_rfl) trivial
  all_goals ((try simp only[Tr.nice,bo]at*)<;>grind)⟩
noncomputable def Lf:=aV st J0 Kc [] (ks:=[.st .conn,.st .segm]) pQ (λv=>[(false,[.c (.bool v)])]) Tryz.func380 trivial
noncomputable def kt:=[sO,xe,nG,ja,Eg,BM,Hk]
def kE:Sh:=⟨[zi 1,zs 2,zb 3,zp 4 0,zp 8 1,zp 9 2,zi 10,zp 11 3,zp 12 4,(13,false,[.fn 426 [4,3]]),zp 15 5,(42,false,[.sl .arg .piec]),zi 43,zi 44,zi 50,zi 51],[.box [.st .recv [.sl .arg]],.box [.st .recv [.nil .piec]],.box [.st .recv [.own 6]],.box [.own 7],.box [.own 8],.box [.st .piec []],.of false true,.arr .u8 false true,.arr .bool false true]⟩
def mG:Sh:=⟨[zi 1,zs 2,zb 3,zp 4 0,zp 8 1,zp 9 2,zi 10,zp 11 3,zp 12 4,(13,false,[.fn 426 [4,3]]),(42,false,[.sl .arg .piec]),zi 43,zi 44],[.box [.st .recv [.sl .arg]],.box [.st .recv [.nil .piec]],.box [.st .recv [.own 5]],.box [.own 6],.box [.own 7],.of false true,.arr .u8 false true,.arr .bool false true]⟩
def nA:Sh:=⟨[zi 1,zs 2,zb 3,zp 4 0,zp 8 1,zp 9 2,zi 10,zp 11 3,zp 12 4,(13,false,[.fn 426 [4,3]]),zi 67,zi 68],[.box [.st .recv [.sl .arg]],.box [.st .recv [.nil .piec]],.box [.st .recv [.own 5]],.box [.own 6],.box [.own 7],.of false true,.arr .u8 false true,.arr .bool false true]⟩
def mN:Sh:=⟨[zp 4 0,zp 8 1,zp 9 2,zi 10,zp 11 3,zp 12 4,zp 19 5,zi 21],[.box [.st .recv [.sl .arg]],.box [.st .recv [.nil .piec]],.box [.st .recv [.own 6]],.box [.own 7],.box [.sl .any .bool],.box [.st .recv [.sl .arg]],.of false true,.arr .u8 false true]⟩
def kM:Sh:=⟨[zp 8 0,zp 9 1,zi 10,zp 11 2,zp 12 3,zp 19 4,zi 21,zi 22,zi 23],[.box [.st .recv [.nil .piec]],.box [.st .recv [.own 5]],.box [.own 6],.box [.sl .any .bool],.box [.st .recv [.own 7]],.of false true,.arr .u8 false true,.of false true]⟩
def ni:Sh:=⟨[zp 8 0,zp 9 1,zi 10,zp 11 2,zp 12 3,zp 19 4,zi 21,zi 22],[.box [.st .recv [.nil .piec]],.box [.st .recv [.own 5]],.box [.own 6],.box [.sl .any .bool],.box [.st .recv [.own 7]],.of false true,.arr .u8 false true,.of false true]⟩
def t9:An:=⟨⟨[],[],false,0⟩,⟨[4,8,9,10,11,12,19],[],false,0⟩,⟨[],[]⟩,[(.normal,⟨[zp 4 0,zp 8 1,zp 9 2,zi 10,zp 11 3,zp 12 4,zp 19 5],[.box [.st .recv [.sl .arg]],.box [.st .recv [.nil .piec]],.box [.st .recv [.own 6]],.box [.own 7],.box [.sl .any .bool],.box [.st .recv [.sl .arg]],.of false true,.arr .u8 false true]⟩)]⟩
def ou:An:=⟨⟨[],[],false,0⟩,⟨[8,9,10,11,12,19,21],[],false,0⟩,⟨[],[]⟩,[(.normal,⟨[zp 8 0,zp 9 1,zi 10,zp 11 2,zp 12 3,zp 19 4,zi 21],[.box [.st .recv [.nil .piec]],.box [.st .recv [.own 5]],.box [.own 6],.box [.sl .any .bool],.box [.st .recv [.sl .arg]],.of false true,.arr .u8 false true]⟩)]⟩
noncomputable def kn:Fx:=⟨386,Tryz.f386,[(2,lb [1,2,3,4,8,9,10,11,12,13,15,42,43,44,50,51] [1,2,3,4,8,9,10,11,12,13,42,43,44]),(0,lb [1,2,3,4,8,9,10,11,12,13,42,43,44] [1,2,3,4,8,9,10,11,12,13]),(4,la ⟨[1,2,3,4,8,9,10,11,12,13,67,68],[],false,0⟩ ⟨[1,2,3,4,8,9,10,11,12],[.softb 12 0],false,0⟩),(6,lb [4,8,9,10,11,12,19,21] [4,8,9,10,11,12,19,21]),(10,lb [8,9,10,11,12,19,21,22,23] [8,9,10,11,12,19,21,22,23]),(8,la ⟨[8,9,10,11,12,19,21,22],[.box 19 2 .piec],false,0⟩ ⟨[8,9,19],[],false,0⟩),(1000123,t9),(1000152,ou),(3000002,rA 0 32),(3000021,rA 0 90),(3000026,rA 0 123)],0⟩
noncomputable def oh (vb12:Piec)(vb8:Int)(a:Recv×List Int×List Bool):Tr (Stp (Recv×List Int×List Bool) (Empty)):=
 .grd ((decide (0≤vb8))&&(decide (vb8<(vb12.text.length:Int))))<|
 .cal hU.c ((IntKind.wrap .i64 (vb12.off+vb8)),(ae vb12.text vb8.toNat),a.2.2,a.2.1,()) λc5=>
 .ret (.next (({a.1 with held:=[]}:Recv),c5.2,c5.1))
noncomputable def dD:kE.V→LC kE (Recv×List Int×List Bool) (Empty) (Int×(Recv×List Int×List Bool)):=λ(vb0,vb1,vb2,vb3,vb4,vb5,vb6,vb7,vb8,vb9,vb10,vb11,vb12,vb13,vb14,_)=>⟨vb8,(vb10,vb13,vb14),λvb8 a=>(vb0,vb1,vb2,vb3,vb4,vb5,vb6,vb7,vb8,vb9,a.1,vb11,vb12,a.2.1,a.2.2,()),λvb8 _=>(decide (vb8<vb7)),oh vb12,up,1,(Int.toNat (vb7-vb8)),(λp=>Empty.elim p),λi a=>(i,a),λ_ k x=>k (.exit 2) (Sh.enc ⟨[zi 1,zs 2,zb 3,zp 4 0,zp 8 1,zp 9 2,zi 10,zp 11 3,zp 12 4,(13,false,[.fn 426 [4,3]]),(42,false,[.sl .arg .piec]),zi 43,zi 44],[.box [.st .recv [.sl .arg]],.box [.st .recv [.nil .piec]],.box [.st .recv [.own 5]],.box [.own 6],.box [.own 7],.of false true,.arr .u8 false true,.arr .bool false true]⟩ (vb0,vb1,vb2,vb3,vb4,vb5,vb6,vb9,({x.2.1 with held:=[]}:Recv),vb11,x.2.2.1,x.2.2.2,()))⟩
theorem DM:LS Tryz.prog kn [0,0] (bR 2 kE dD):=aW st (aj kt) _ dD [] trivial
theorem Dn {vb0 vb3 vb5 vb6 vb7 vb8:Int}{vb1:ac}{vb2:Bool}{vb4:List Piec}{vb9 vb10 vb11:Recv}{vb12:Piec}{vb13:List Int}{vb14:List Bool}(h0:0≤vb8)(h1:vb7≤4611686018427387904)(h2:1≤vb12.off∧vb12.off+(vb12.text.length:Int)≤vb3)(h3:vb3≤32)(h4:im vb12)(h5:vb7≤(vb12.text.length:Int))(h6:ax vb10∧sS vb13∧sS vb14∧vb13.length=vb14.length∧(vb14.length:Int)=vb3):(dD (vb0,vb1,vb2,vb3,vb4,vb5,vb6,vb7,vb8,vb9,vb10,vb11,vb12,vb13,vb14,())).U vb7 (λvb8 a=>ax a.1∧sS a.2.1∧sS a.2.2∧a.2.1.length=a.2.2.length∧(a.2.2.length:Int)=vb3) (λ_=>True):=
 LC.okU (i:=vb8) (a:=(vb10,vb13,vb14)) (λ_ _=>rfl) (λ_=>rfl) rfl h0 h1 h6 λvb8 (vb10,vb13,vb14) hj hk hv=>by
  refine Tr.G2 ?_ λ_=>Tr.C ?_ λ_ _ _=>Tr.Rn ?_
  all_goals (grind)
noncomputable def iK (v0:Int)(v1:ac)(v2:Bool)(v3:Int)(v4:List Piec)(v5:Int)(v7 v9:Recv)(v6:Int)(a:Recv×List Int×List Bool):Tr (Stp (Recv×List Int×List Bool) (Empty)):=
 .grd ((decide (0≤v6))&&(decide (v6<(v4.length:Int))))<|
 .lp (dD (v0,v1,v2,v3,v4,v5,v6,(((v4.getD v6.toNat (Ty.zero .piec)).text).length:Int),0,v7,({a.1 with held:=[]}:Recv),v9,(v4.getD v6.toNat (Ty.zero .piec)),a.2.1,a.2.2,())).lp λ(_,a6_0,a6_1,a6_2)=>
 .ret (.next (({({a6_0 with held:=[]}:Recv)with held:=[]}:Recv),a6_1,a6_2))
noncomputable def ge:mG.V→LC mG (Recv×List Int×List Bool) (Empty) (Int×(Recv×List Int×List Bool)):=λ(v0,v1,v2,v3,v4,v5,v6,v7,v8,v9,v10,v11,_)=>⟨v6,(v8,v10,v11),λv6 a=>(v0,v1,v2,v3,v4,v5,v6,v7,a.1,v9,a.2.1,a.2.2,()),λv6 _=>(decide (v6<v5)),iK v0 v1 v2 v3 v4 v5 v7 v9,up,1,(Int.toNat (v5-v6)),(λp=>Empty.elim p),λi a=>(i,a),λ_ k x=>k (.exit 0) (Sh.enc ⟨[zi 1,zs 2,zb 3,zp 4 0,zp 8 1,zp 9 2,zi 10,zp 11 3,zp 12 4,(13,false,[.fn 426 [4,3]])],[.box [.st .recv [.sl .arg]],.box [.st .recv [.nil .piec]],.box [.st .recv [.own 5]],.box [.own 6],.box [.own 7],.of false true,.arr .u8 false true,.arr .bool false true]⟩ (v0,v1,v2,v3,v7,({x.2.1 with held:=[]}:Recv),v9,x.2.2.1,x.2.2.2,()))⟩
theorem It:LS Tryz.prog kn [0] (bR 0 mG ge):=aW st (aj kt) _ ge [(bR 2 kE dD)] ⟨DM,trivial⟩
theorem Mh {v0 v3 v5 v6:Int}{v1:ac}{v2:Bool}{v4:List Piec}{v7 v8 v9:Recv}{v10:List Int}{v11:List Bool}(h0:0≤v6)(h1:v5≤4611686018427387904)(h2:eb (pw v3) v4)(h3:v3≤32)(h4:sS v1)(h5:sL im v4)(h6:ax v7)(h7:ax v9)(h8:v5≤(v4.length:Int))(h9:ax v8∧sS v10∧sS v11∧v10.length=v11.length∧(v11.length:Int)=v3):(ge (v0,v1,v2,v3,v4,v5,v6,v7,v8,v9,v10,v11,())).U v5 (λv6 a=>ax a.1∧sS a.2.1∧sS a.2.2∧a.2.1.length=a.2.2.length∧(a.2.2.length:Int)=v3) (λ_=>True):=
 LC.okU (i:=v6) (a:=(v8,v10,v11)) (λ_ _=>rfl) (λ_=>rfl) rfl h0 h1 h9 λv6 (v8,v10,v11) hj hk hv=>by
  refine Tr.G2 ?_ λg0=>Tr.L (Dn ?_ ?_ ?_ ?_ ?_ ?_ ?_) (λ(a6_0,a6_1,a6_2) i6=>Tr.Rn ?_) (λp=>Empty.elim p)
  all_goals ((try simp only[dD,LC.lp,LC.ct,Ct.lp]at*)<;>(have hp:=adq (i:=v6.toNat) h2 (by omega);simp only[pw]at hp;grind))
noncomputable def nK (v0:Int)(v1:ac)(v3:Int)(v6:Recv)(v5:Int)(a:Recv×List Int×List Bool):Tr (Stp (Recv×List Int×List Bool) (Empty)):=
 .val (cN.f (v0,v5,())) λc8=>
 .val (sE.f (c8,v6.next,())) λc9=>
 .bnd (β:=Bool×Unit) (.ite (decide (c9<v3)) (.ite (v6.fin==(-1)) (.ret (true,()))<|
   .ret ((decide (c9<v6.fin)),()))<|
  .ret (false,())) λ(u10a0,_)=>
 .ite u10a0 (.grd ((decide (0≤v5))&&(decide (v5<(v1.length:Int))))<|
  .cal hU.c (c9,(ae v1 v5.toNat),a.2.2,a.2.1,()) λc11=>
  .ret (.next (({a.1 with held:=[]}:Recv),c11.2,c11.1)))<|
 .ret (.next (({a.1 with held:=[]}:Recv),a.2.1,a.2.2))
noncomputable def f8:nA.V→LC nA (Recv×List Int×List Bool) (Empty) (Int×(Recv×List Int×List Bool)):=λ(v0,v1,v2,v3,v4,v5,v6,v7,v8,v9,v10,_)=>⟨v5,(v7,v9,v10),λv5 a=>(v0,v1,v2,v3,v4,v5,v6,a.1,v8,a.2.1,a.2.2,()),λv5 _=>(decide (v5<v4)),nK v0 v1 v3 v6,up,1,(Int.toNat (v4-v5)),(λp=>Empty.elim p),λi a=>(i,a),λ_ k x=>k (.exit 4) (Sh.enc ⟨[zi 1,zs 2,zb 3,zp 4 0,zp 8 1,zp 9 2,zi 10,zp 11 3,zp 12 4],[.box [.st .recv [.sl .arg]],.box [.st .recv [.nil .piec]],.box [.st .recv [.own 5]],.box [.own 6],.box [.sl .any .bool],.of false true,.arr .u8 false true]⟩ (v0,v1,v2,v3,v6,({x.2.1 with held:=[]}:Recv),v8,x.2.2.2,x.2.2.1,()))⟩
theorem JO:LS Tryz.prog kn [1] (bR 4 nA f8):=aW st (aj kt) _ f8 [] trivial
theorem Ie {v0 v3 v4 v5:Int}{v1:ac}{v2:Bool}{v6 v7 v8:Recv}{v9:List Int}{v10:List Bool}(h0:0≤v5)(h1:v4≤4611686018427387904)(h2:v3≤32)(h3:sS v1)(h4:ax v6)(h5:v4≤(v1.length:Int))(h6:ax v7∧sS v9∧sS v10∧v9.length=v10.length∧(v10.length:Int)=v3):(f8 (v0,v1,v2,v3,v4,v5,v6,v7,v8,v9,v10,())).U v4 (λv5 a=>ax a.1∧sS a.2.1∧sS a.2.2∧a.2.1.length=a.2.2.length∧(a.2.2.length:Int)=v3) (λ_=>True):=
 LC.okU (i:=v5) (a:=(v7,v9,v10)) (λ_ _=>rfl) (λ_=>rfl) rfl h0 h1 h6 λv5 (v7,v9,v10) hj hk hv=>by
  refine Tr.V λ_ _=>Tr.V λ_ _=>Tr.B (Q':=λ_=>True) (Tr.F (by kernel_rfl) trivial) (λ(u10a0,_) _ _=>Tr.I (λ_=>Tr.G2 ?_ λ_=>Tr.C ?_ λ_ _ _=>Tr.Rn ?_) λ_=>Tr.Rn ?_)
  all_goals ((try simp only[Tr.nice,bo]at*)<;>grind)
noncomputable def rO (v5:List Bool)(v1:Int)(a:Recv):Tr (Stp (Recv) ((Int×Recv))):=
 .grd ((decide (0≤v1))&&(decide (v1<(v5.length:Int))))<|
 .ite (v5.getD v1.toNat false) (.ret (.next ({a with held:=[]}:Recv)))<|
 .ret (.out (v1,({a with held:=[]}:Recv)))
noncomputable def eK:mN.V→LC mN (Recv) ((Int×Recv)) (((Int×Recv))⊕(Int×Recv)):=λ(v0,v1,v2,v3,v4,v5,v6,v7,_)=>⟨v1,v3,λv1 a=>(v0,v1,v2,a,v4,v5,v6,v7,()),λv1 _=>(decide (v1<v0)),rO v5,up,1,(Int.toNat (v0-v1)),.inl,λi a=> .inr (i,a),λ_ k w=>Sum.elim (λp=>k (.exit 6) (Sh.enc ⟨[zp 4 0,zp 8 1,zp 9 2,zi 10,zp 11 3,zp 12 4,zp 19 5,zi 21],[.box [.st .recv [.sl .arg]],.box [.st .recv [.nil .piec]],.box [.st .recv [.own 6]],.box [.own 7],.box [.sl .any .bool],.box [.st .recv [.sl .arg]],.of false true,.arr .u8 false true]⟩ (v0,p.1,v2,p.2,v4,v5,v6,v7,()))) (λx=>k (.exit 6) (Sh.enc ⟨[zp 4 0,zp 8 1,zp 9 2,zi 10,zp 11 3,zp 12 4,zp 19 5,zi 21],[.box [.st .recv [.sl .arg]],.box [.st .recv [.nil .piec]],.box [.st .recv [.own 6]],.box [.own 7],.box [.sl .any .bool],.box [.st .recv [.sl .arg]],.of false true,.arr .u8 false true]⟩ (v0,x.1,v2,({x.2 with held:=[]}:Recv),v4,v5,v6,v7,()))) w⟩
theorem Mf:LS Tryz.prog kn [2] (bR 6 mN eK):=aW st (aj kt) _ eK [] trivial
theorem JE {v0 v1:Int}{v2 v3 v4 v6:Recv}{v5:List Bool}{v7:List Int}(h0:0≤v1)(h1:v0≤4611686018427387904)(h2:sS v5)(h3:v0≤(v5.length:Int))(h4:ax v3):(eK (v0,v1,v2,v3,v4,v5,v6,v7,())).U v0 (λv1 a=>ax a) (λp=>ax p.2∧v1≤p.1∧p.1<v0):=
 LC.okU (i:=v1) (a:=v3) (λ_ _=>rfl) (λ_=>rfl) rfl h0 h1 h4 λv1 v3 hj hk hv=>by
  refine Tr.G2 ?_ λ_=>Tr.I (λ_=>Tr.Rn ?_) λ_=>Tr.Ro ?_
  all_goals (grind)
noncomputable def og (vb6:List Bool)(vb2:Int)(a:Recv):Tr (Stp (Recv) ((Int×Recv))):=
 .grd ((decide (0≤vb2))&&(decide (vb2<(vb6.length:Int))))<|
 .ite (vb6.getD vb2.toNat false) (.ret (.next ({a with held:=[]}:Recv)))<|
 .ret (.out (vb2,({a with held:=[]}:Recv)))
noncomputable def ep:kM.V→LC kM (Recv) ((Int×Recv)) (((Int×Recv))⊕(Int×Recv)):=λ(vb0,vb1,vb2,vb3,vb4,vb5,vb6,vb7,vb8,_)=>⟨vb2,vb4,λvb2 a=>(vb0,vb1,vb2,vb3,a,vb5,vb6,vb7,vb8,()),λvb2 _=>(decide (vb2<vb0)),og vb6,up,1,(Int.toNat (vb0-vb2)),.inl,λi a=> .inr (i,a),λ_ k w=>Sum.elim (λp=>k (.exit 10) (Sh.enc ⟨[zp 8 0,zp 9 1,zi 10,zp 11 2,zp 12 3,zp 19 4,zi 21,zi 22,zi 23],[.box [.st .recv [.nil .piec]],.box [.st .recv [.own 5]],.box [.own 6],.box [.sl .any .bool],.box [.st .recv [.own 7]],.of false true,.arr .u8 false true,.of false true]⟩ (vb0,vb1,p.1,vb3,p.2,vb5,vb6,vb7,vb8,()))) (λx=>k (.exit 10) (Sh.enc ⟨[zp 8 0,zp 9 1,zi 10,zp 11 2,zp 12 3,zp 19 4,zi 21,zi 22,zi 23],[.box [.st .recv [.nil .piec]],.box [.st .recv [.own 5]],.box [.own 6],.box [.sl .any .bool],.box [.st .recv [.own 7]],.of false true,.arr .u8 false true,.of false true]⟩ (vb0,vb1,x.1,vb3,({x.2 with held:=[]}:Recv),vb5,vb6,vb7,vb8,()))) w⟩
theorem D7:LS Tryz.prog kn [3,0] (bR 10 kM ep):=aW st (aj kt) _ ep [] trivial
theorem DH {vb0 vb1 vb2 vb3:Int}{vb4 vb5 vb7:Recv}{vb6:List Bool}{vb8:List Int}(h0:0≤vb2)(h1:vb0≤4611686018427387904)(h2:vb3=vb2)(h3:vb6.getD vb3.toNat false=true)(h4:sS vb6)(h5:vb0≤(vb6.length:Int))(h6:ax vb4):(ep (vb0,vb1,vb2,vb3,vb4,vb5,vb6,vb7,vb8,())).U vb0 (λvb2 a=>ax a) (λp=>ax p.2∧vb2≤p.1∧p.1<vb0∧vb3<p.1):=
 LC.okU (i:=vb2) (a:=vb4) (λ_ _=>rfl) (λ_=>rfl) rfl h0 h1 h6 λvb2 vb4 hj hk hv=>by
  refine Tr.G2 ?_ λ_=>Tr.I (λ_=>Tr.Rn ?_) λ_=>Tr.Ro ?_
  all_goals (grind)
noncomputable def gp (v0 v1:Int)(v4:Recv)(v5:List Bool)(v7:List Int)(a:Int×Recv×Recv):Tr (Stp (Int×Recv×Recv) ((Recv×Recv))):=
 .ite (decide (a.1<v0)) (.grd ((decide (0≤a.1))&&(decide (a.1<(v5.length:Int))))<|
  .ite (!(v5.getD a.1.toNat false)) (.ret (.next ((IntKind.wrap .i64 (a.1+1)),({a.2.1 with held:=[]}:Recv),a.2.2)))<|
  .lp (ep (v0,v1,a.1,a.1,({a.2.1 with held:=[]}:Recv),v4,v5,a.2.2,v7,())).lp λw22=> .sum w22 (λ(p22a0,p22a1)=>
  .grd (((decide (0≤a.1))&&(decide (a.1≤p22a0)))&&(decide (p22a0≤(v7.length:Int))))<|
  .grd (Nat.ble ((2*(a.2.2.held.length+1)+1024)*24) aF)<|
  .val (a.2.2.held++[(⟨(IntKind.wrap .i64 (a.1-v1)),(av ((v7.take p22a0.toNat).drop a.1.toNat))⟩:Piec)]) λl23=>
  .ret (.next (p22a0,({p22a1 with held:=[]}:Recv),({a.2.2 with held:=l23}:Recv))))<|
  λ(n22,a22_0)=>
  .grd (((decide (0≤a.1))&&(decide (a.1≤n22)))&&(decide (n22≤(v7.length:Int))))<|
  .grd (Nat.ble ((2*(a.2.2.held.length+1)+1024)*24) aF)<|
  .val (a.2.2.held++[(⟨(IntKind.wrap .i64 (a.1-v1)),(av ((v7.take n22.toNat).drop a.1.toNat))⟩:Piec)]) λl24=>
  .ret (.next (n22,({({a22_0 with held:=[]}:Recv)with held:=[]}:Recv),({a.2.2 with held:=l24}:Recv))))<|
 .ret (.out (({a.2.1 with held:=[]}:Recv),a.2.2))
noncomputable def dK:ni.V→LW ni (Int×Recv×Recv) ((Recv×Recv)):=λ(v0,v1,v2,v3,v4,v5,v6,v7,_)=>⟨(v2,v3,v6),λa=>(v0,v1,a.1,a.2.1,v4,v5,a.2.2,v7,()),gp v0 v1 v4 v5 v7,Int.toNat (v0-v2),λ_ k p=>k (.exit 8) (Sh.enc ⟨[zp 8 0,zp 9 1,zp 19 2],[.box [.st .recv [.nil .piec]],.box [.st .recv [.own 3]],.box [.st .recv [.own 4]],.of false true,.of false true]⟩ (p.1,v4,p.2,()))⟩
theorem Mm:LS Tryz.prog kn [3] (DJ 8 ni dK):=uf st (aj kt) _ dK [(bR 10 kM ep)] ⟨D7,trivial⟩
theorem xo {v0 v1 v2:Int}{v3 v4 v6:Recv}{v5:List Bool}{v7:List Int}(h0:v0≤32)(h1:(v5.length:Int)=v0)(h2:v7.length=v5.length)(h3:0≤v1)(h4:ax v4)(h5:sS v5)(h6:sS v7)(h7:ax v3∧ax v6∧v1≤v2∧v2≤v0∧(v6.held.length:Int)≤v2):(dK (v0,v1,v2,v3,v4,v5,v6,v7,())).W (λp=>ax p.1∧ax p.2):=
 LW.okW (a:=(v2,v3,v6)) (λa=>ax a.2.1∧ax a.2.2∧v1≤a.1∧a.1≤v0∧(a.2.2.held.length:Int)≤a.1) (λa=>Int.toNat (v0-a.1)) rfl h7 λ(v2,v3,v6) hv=>by
  refine Tr.I (λ_=>Tr.G2 ?_ λ_=>Tr.I (λ_=>Tr.Rn ?_) λ_=>Tr.L (DH ?_ ?_ ?_ ?_ ?_ ?_ ?_) (λa22_0 _=>Tr.Sr (Tr.G3 ?_ λ_=>Tr.Gb ?_ λ_=>Tr.V λ_ _=>Tr.Rn ?_)) (λ(p22a0,p22a1) _=>Tr.Sl (Tr.G3 ?_ λ_=>Tr.Gb ?_ λ_=>Tr.V λ_ _=>Tr.Rn ?_))) λ_=>Tr.Ro ?_
  all_goals ((try simp only[ep,LC.lp,LC.ct,Ct.lp]at*)<;>grind)
noncomputable def t6:FT (Recv×Int×ac×Bool×Unit) (Recv) (λx=>ax x.1∧sS x.2.2.1) (λx v=>ax v):=⟨λ(x0,x1,x2,x3,_)=>
  .cal jD.c (x0,()) λc1=>
  .bnd (β:=Bool×Unit) (.cal bP.c (x0,()) λc2=>
   .ite (!c2) (.ret (true,()))<|
   .ret (x0.done,())) λ(u3a0,_)=>
  .ite u3a0 (.ret c1)<|
  .cal ce.c (x0,()) λc4=>
  .grd ((((decide (0≤c4))&&(decide (c4=c4)))&&(decide (c4*1≤(aF:Int))))&&(decide (c4≤(aF:Int))))<|
  .grd ((((decide (0≤c4))&&(decide (c4=c4)))&&(decide (c4*1≤(aF:Int))))&&(decide (c4≤(aF:Int))))<|
  .lp (ge (x1,x2,x3,c4,x0.held,(x0.held.length:Int),0,x0,(⟨0,[],[],0,false⟩:Recv),c1,(List.replicate c4.toNat 0),(List.replicate c4.toNat false),())).lp λ(_,a7_0,a7_1,a7_2)=>
  .lp (f8 (x1,x2,x3,c4,(x2.length:Int),0,x0,({({a7_0 with held:=[]}:Recv)with held:=[]}:Recv),c1,a7_1,a7_2,())).lp λ(_,a12_0,a12_1,a12_2)=>
  .val (cN.f (x1,(x2.length:Int),())) λc13=>
  .val (sE.f (c13,x0.next,())) λc14=>
  .bnd (β:=Bool×Unit) (.ite x3 (.ite (x0.fin==(-1)) (.ite (decide (c14≤c4)) (.grd (((decide (0≤c14))&&(decide (c14≤(a12_2.length:Int))))&&(decide ((a12_2.length:Int)≤(a12_2.length:Int))))<|
      .cal fo.c (((a12_2.take ((a12_2.length:Int).toNat)).drop c14.toNat),true,()) λc15=>
      .ret ((!c15),()))<|
     .ret (false,()))<|
    .ret (false,()))<|
   .ret (false,())) λ(u16a0,_)=>
  .bnd (β:=WT t9.es) (.ite u16a0 (.ret (c4,x0,({({a12_0 with held:=[]}:Recv)with held:=[]}:Recv),c1,a12_2,({x0 with fin:=c14}:Recv),a12_1,()))<|
   .ret (c4,x0,({({a12_0 with held:=[]}:Recv)with held:=[]}:Recv),c1,a12_2,x0,a12_1,())) λ(u17a0,u17a1,u17a2,u17a3,u17a4,u17a5,u17a6,_)=>
  .lp (eK (u17a0,0,u17a1,({u17a2 with held:=[]}:Recv),u17a3,u17a4,u17a5,u17a6,())).lp λw18=> .sum w18 (λ(p18a0,p18a1)=>
  .grd ((decide (0≤p18a0))&&(decide (p18a0≤(u17a6.length:Int))))<|
  .grd (Nat.ble (u17a5.data.length+(av ((u17a6.take p18a0.toNat).drop 0)).length) an)<|
  .val (cN.f (u17a1.next,p18a0,())) λc19=>
  .bnd (β:=WT ou.es) (.ite (u17a5.fin != (-1)) (.ret (u17a0,p18a0,({p18a1 with held:=[]}:Recv),u17a3,u17a4,(⟨c19,(u17a5.data++(av ((u17a6.take p18a0.toNat).drop 0))),u17a5.held,(IntKind.wrap .i64 (u17a5.fin-p18a0)),u17a5.done⟩:Recv),u17a6,()))<|
   .ret (u17a0,p18a0,({p18a1 with held:=[]}:Recv),u17a3,u17a4,({u17a5 with next:=c19,data:=(u17a5.data++(av ((u17a6.take p18a0.toNat).drop 0)))}:Recv),u17a6,())) λ(u20a0,u20a1,u20a2,u20a3,u20a4,u20a5,u20a6,_)=>
  .lp (dK (u20a0,u20a1,u20a1,({u20a2 with held:=[]}:Recv),u20a3,u20a4,({u20a5 with held:=[]}:Recv),u20a6,())).lp λ(_,p25a1)=>
  .ite (decide (3<(p25a1.held.length:Int))) (.ret u20a3)<|
  .ite (p25a1.fin==0) (.val (cN.f (p25a1.next,1,())) λc26=>
   .ret (⟨c26,p25a1.data,p25a1.held,(-1),true⟩:Recv))<|
  .ret p25a1)<|
  λ(n18,a18_0)=>
  .grd ((decide (0≤n18))&&(decide (n18≤(u17a6.length:Int))))<|
  .grd (Nat.ble (u17a5.data.length+(av ((u17a6.take n18.toNat).drop 0)).length) an)<|
  .val (cN.f (u17a1.next,n18,())) λc27=>
  .bnd (β:=WT ou.es) (.ite (u17a5.fin != (-1)) (.ret (u17a0,n18,({({a18_0 with held:=[]}:Recv)with held:=[]}:Recv),u17a3,u17a4,(⟨c27,(u17a5.data++(av ((u17a6.take n18.toNat).drop 0))),u17a5.held,(IntKind.wrap .i64 (u17a5.fin-n18)),u17a5.done⟩:Recv),u17a6,()))<|
   .ret (u17a0,n18,({({a18_0 with held:=[]}:Recv)with held:=[]}:Recv),u17a3,u17a4,({u17a5 with next:=c27,data:=(u17a5.data++(av ((u17a6.take n18.toNat).drop 0)))}:Recv),u17a6,())) λ(u28a0,u28a1,u28a2,u28a3,u28a4,u28a5,u28a6,_)=>
  .lp (dK (u28a0,u28a1,u28a1,({u28a2 with held:=[]}:Recv),u28a3,u28a4,({u28a5 with held:=[]}:Recv),u28a6,())).lp λ(_,p29a1)=>
  .ite (decide (3<(p29a1.held.length:Int))) (.ret u28a3)<|
  .ite (p29a1.fin==0) (.val (cN.f (p29a1.next,1,())) λc30=>
   .ret (⟨c30,p29a1.data,p29a1.held,(-1),true⟩:Recv))<|
  .ret p29a1,
 λ(x0,x1,x2,x3,_) hp=>by
  refine Tr.C ?_ λc1 hc1 qc1=>Tr.B (Q':=λw=>(w.1=false→RO x0∧eb (pw (Yf x0)) x0.held)) (Tr.C ?_ λc2 hc2 qc2=>Tr.I (λb0=>Tr.R ?_) λb0=>Tr.R ?_) (λ(u3a0,_) hj3 qj3=>Tr.I (λb0=>Tr.R ?_) λb0=>Tr.C ?_ λc4 hc4 qc4=>Tr.G4 ?_ λg1=>Tr.G4 ?_ λg2=>Tr.L (Mh ?_ ?_ ?_ ?_ ?_ ?_ ?_ ?_ ?_ ?_) (λ(a7_0,a7_1,a7_2) i7=>Tr.L (Ie ?_ ?_ ?_ ?_ ?_ ?_ ?_) (λ(a12_0,a12_1,a12_2) i12=>Tr.V λc13 hc13=>Tr.V λc14 hc14=>Tr.B (Q':=λ_=>True) (Tr.I (λb3=>Tr.I (λb4=>Tr.I (λb5=>Tr.G3 ?_ λg6=>Tr.C ?_ λc15 hc15 qc15=>Tr.R trivial) λb5=>Tr.R trivial) λb4=>Tr.R trivial) λb3=>Tr.R trivial) (λ(u16a0,_) hj16 qj16=>Tr.B (Q':=λw=>ax w.2.1∧ax w.2.2.1∧ax w.2.2.2.1∧sS w.2.2.2.2.1∧ax w.2.2.2.2.2.1∧sS w.2.2.2.2.2.2.1∧w.1≤32∧0≤w.1∧(w.2.2.2.2.1.length:Int)=w.1∧w.2.2.2.2.2.2.1.length=w.2.2.2.2.1.length∧w.2.2.2.2.2.1.data.length≤32) (Tr.I (λb3=>Tr.R ?_) λb3=>Tr.R ?_) (λ(u17a0,u17a1,u17a2,u17a3,u17a4,u17a5,u17a6,_) hj17 qj17=>Tr.L (JE ?_ ?_ ?_ ?_ ?_) (λa18_0 i18=>Tr.Sr (Tr.G2 ?_ λg3=>Tr.Gb ?_ λg4=>Tr.V λc27 hc27=>Tr.B (Q':=λw=>ax w.2.2.1∧ax w.2.2.2.1∧sS w.2.2.2.2.1∧ax w.2.2.2.2.2.1∧sS w.2.2.2.2.2.2.1∧w.1≤32∧0≤w.2.1∧w.2.1≤w.1∧(w.2.2.2.2.1.length:Int)=w.1∧w.2.2.2.2.2.2.1.length=w.2.2.2.2.1.length∧w.2.2.2.2.2.1.data.length≤64) (Tr.I (λb5=>Tr.R ?_) λb5=>Tr.R ?_) (λ(u28a0,u28a1,u28a2,u28a3,u28a4,u28a5,u28a6,_) hj28 qj28=>Tr.L (xo ?_ ?_ ?_ ?_ ?_ ?_ ?_ ?_) (λa=>Empty.elim a) (λ(p29a0,p29a1) hp29=>Tr.I (λb5=>Tr.R ?_) λb5=>Tr.I (λb6=>Tr.V λc30 hc30=>Tr.R ?_) λb6=>Tr.R ?_)))) (λ(p18a0,p18a1) hp18=>Tr.Sl (Tr.G2 ?_ λg3=>Tr.Gb ?_ λg4=>Tr.V λc19 hc19=>Tr.B (Q':=λw=>ax w.2.2.1∧ax w.2.2.2.1∧sS w.2.2.2.2.1∧ax w.2.2.2.2.2.1∧sS w.2.2.2.2.2.2.1∧w.1≤32∧0≤w.2.1∧w.2.1≤w.1∧(w.2.2.2.2.1.length:Int)=w.1∧w.2.2.2.2.2.2.1.length=w.2.2.2.2.1.length∧w.2.2.2.2.2.1.data.length≤64) (Tr.I (λb5=>Tr.R ?_) λb5=>Tr.R ?_) (λ(u20a0,u20a1,u20a2,u20a3,u20a4,u20a5,u20a6,_) hj20 qj20=>Tr.L (xo ?_ ?_ ?_ ?_ ?_ ?_ ?_ ?_) (λa=>Empty.elim a) (λ(p25a0,p25a1) hp25=>Tr.I (λb5=>Tr.R ?_) λb5=>Tr.I (λb6=>Tr.V λc26 hc26=>Tr.R ?_) λb6=>Tr.R ?_))))))) (λp=>Empty.elim p)) (λp=>Empty.elim p))
  all_goals ((try simp only[ge,f8,eK,dK,LC.lp,LC.ct,Ct.lp,LW.lp,LW.cw,Cw.lp,Tr.nice,bo]at*)<;>grind)⟩
noncomputable def T1:=aV st kn kt [(bR 0 mG ge),(bR 4 nA f8),(bR 6 mN eK),(DJ 8 ni dK)] (ks:=[.st .recv,.sc (.int .i64),.sc .str,.sc .bool]) t6 (λv=>[(true,vm (.o true) v)]) Tryz.func386 ⟨It,JO,Mf,Mm,trivial⟩
noncomputable def VY:=[ia,uO,bF]
def xm:An:=⟨⟨[],[],false,0⟩,⟨[1,2,3],[],false,0⟩,⟨[],[]⟩,[(.normal,⟨[zp 1 0,zp 2 1,zp 3 2],[.box [.st .conn [.sl .arg]],.box [.st .conn [.nil .piec]],.box [.st .conn [.own 3]],.of false true]⟩),(.ret,⟨[zp 1 0,zp 2 1,zp 3 2],[.box [.st .conn [.sl .arg]],.box [.st .conn [.own 3]],.box [.st .conn [.own 3]],.of false true]⟩)]⟩
noncomputable def VB:Fx:=⟨387,Tryz.f387,[(1000016,xm),(3000004,rA 0 16),(3000006,rA 0 24),(3000008,rA 0 35),(3000010,rA 0 43),(3000012,rA 0 51),(3000014,rA 0 59),(3000020,rA 0 85)],0⟩
noncomputable def rG:FT (Conn×Unit) (Conn) (λx=>ai x.1) (λx v=>ai v):=⟨λ(x0,_)=>
  .cal d7.c (x0,()) λc1=>
  .bnd (β:=Bool×Unit) (.ite (x0.state==1) (.ret (x0.r.done,()))<|
   .ret (false,())) λ(u2a0,_)=>
  .bnd (β:=WT xm.es) (.ite u2a0 (.ret (.inl (x0,(⟨⟨0,0,0⟩,0,⟨0,[],0,false,false,false⟩,⟨0,[],[],0,false⟩,0,0,⟨0,0,false,false,0,0⟩,0,0⟩:Conn),({c1 with state:=4}:Conn),())))<|
   .bnd (β:=Bool×Unit) (.ite (x0.state==2) (.ite x0.s.done (.ret (x0.r.done,()))<|
     .ret (false,()))<|
    .ret (false,())) λ(u3a0,_)=>
   .ite u3a0 (.ret (.inl (x0,(⟨⟨0,0,0⟩,0,⟨0,[],0,false,false,false⟩,⟨0,[],[],0,false⟩,0,0,⟨0,0,false,false,0,0⟩,0,0⟩:Conn),({c1 with state:=7}:Conn),())))<|
   .bnd (β:=Bool×Unit) (.ite (x0.state==2) (.ret (x0.s.done,()))<|
    .ret (false,())) λ(u4a0,_)=>
   .ite u4a0 (.ret (.inl (x0,(⟨⟨0,0,0⟩,0,⟨0,[],0,false,false,false⟩,⟨0,[],[],0,false⟩,0,0,⟨0,0,false,false,0,0⟩,0,0⟩:Conn),({c1 with state:=3}:Conn),())))<|
   .bnd (β:=Bool×Unit) (.ite (x0.state==2) (.ret (x0.r.done,()))<|
    .ret (false,())) λ(u5a0,_)=>
   .ite u5a0 (.ret (.inl (x0,(⟨⟨0,0,0⟩,0,⟨0,[],0,false,false,false⟩,⟨0,[],[],0,false⟩,0,0,⟨0,0,false,false,0,0⟩,0,0⟩:Conn),({c1 with state:=5}:Conn),())))<|
   .bnd (β:=Bool×Unit) (.ite (x0.state==3) (.ret (x0.r.done,()))<|
    .ret (false,())) λ(u6a0,_)=>
   .ite u6a0 (.ret (.inl (x0,(⟨⟨0,0,0⟩,0,⟨0,[],0,false,false,false⟩,⟨0,[],[],0,false⟩,0,0,⟨0,0,false,false,0,0⟩,0,0⟩:Conn),({c1 with state:=7}:Conn),())))<|
   .bnd (β:=Bool×Unit) (.ite (x0.state==5) (.ret (x0.s.done,()))<|
    .ret (false,())) λ(u7a0,_)=>
   .ite u7a0 (.ret (.inl (x0,(⟨⟨0,0,0⟩,0,⟨0,[],0,false,false,false⟩,⟨0,[],[],0,false⟩,0,0,⟨0,0,false,false,0,0⟩,0,0⟩:Conn),({c1 with state:=7}:Conn),())))<|
   .ite (x0.state==6) (.ite x0.s.done (.ret (.inl (x0,(⟨⟨0,0,0⟩,0,⟨0,[],0,false,false,false⟩,⟨0,[],[],0,false⟩,0,0,⟨0,0,false,false,0,0⟩,0,0⟩:Conn),({c1 with state:=8}:Conn),())))<|
    .ret (.inr ((x0,c1,c1,()))))<|
   .ret (.inr ((x0,c1,c1,())))) λw8=> .sum w8 (λ(u8a0,_,u8a2,_)=>
  .bnd (β:=Bool×Unit) (.cal bV.c (({u8a2 with timer:=0}:Conn),()) λc9=>
   .ite (!c9) (.ret (true,()))<|
   .val (bq.f (u8a0.timer,0,4,())) λc10=>
   .ret ((!c10),())) λ(u11a0,_)=>
  .ite u11a0 (.cal d7.c (u8a0,()) λc12=>
   .ret c12)<|
  .ite (u8a2.state==7) (.ret ({u8a2 with timer:=4,tries:=0}:Conn))<|
  .ite (u8a2.state==8) (.ret ({u8a2 with timer:=0,tries:=0}:Conn))<|
  .ret u8a2)<|
  λ(_,u8b1,_,_)=>
  .ret u8b1,
 λ(x0,_) hp=>by
  refine Tr.C ?_ λ_ _ _=>Tr.B (Q':=λ_=>True) (Tr.F (by kernel_rfl) trivial) (λ(u2a0,_) _ _=>Tr.B (Q':=(Sum.elim (λw=>ai w.1∧ai w.2.1∧ai w.2.2.1) (λw=>ai w.1∧ai w.2.1∧ai w.2.2.1))) (Tr.I (λ_=>Tr.R ?_) λ_=>Tr.B (Q':=λ_=>True) (Tr.F (by kernel_rfl) trivial) (λ(u3a0,_) _ _=>Tr.I (λ_=>Tr.R ?_) λ_=>Tr.B (Q':=λ_=>True) (Tr.F (by kernel_rfl) trivial) (λ(u4a0,_) _ _=>Tr.I (λ_=>Tr.R ?_) λ_=>Tr.B (Q':=λ_=>True) (Tr.F (by kernel_rfl) trivial) (λ(u5a0,_) _ _=>Tr.I (λ_=>Tr.R ?_) λ_=>Tr.B (Q':=λ_=>True) (Tr.F (by kernel_rfl) trivial) (λ(u6a0,_) _ _=>Tr.I (λ_=>Tr.R ?_) λ_=>Tr.B (Q':=λ_=>True) (Tr.F (by kernel_rfl) trivial) (λ(u7a0,_) _ _=>Tr.I (λ_=>Tr.R ?_) λ_=>Tr.I (λ_=>Tr.I (λ_=>Tr.R ?_) λ_=>Tr.R ?_) λ_=>Tr.R ?_)))))) (λ_ _ q8=>Tr.E q8 (λ(u8a0,u8a1,u8a2,_) _=>Tr.B (Q':=λw=>(w.1=false→SO ({u8a2 with timer:=0}:Conn).s∧RO ({u8a2 with timer:=0}:Conn).r)) (Tr.C ?_ λ_ _ _=>Tr.I (λ_=>Tr.R ?_) λ_=>Tr.V λ_ _=>Tr.R ?_) (λ(u11a0,_) _ _=>Tr.I (λ_=>Tr.C ?_ λ_ _ _=>Tr.R ?_) λ_=>Tr.I (λ_=>Tr.R ?_) λ_=>Tr.I (λ_=>Tr.R ?_) λ_=>Tr.R ?_)) (λ(u8b0,u8b1,u8b2,_) _=>Tr.R ?_)))
  all_goals ((try simp only[Tr.nice,bo]at*)<;>grind)⟩
noncomputable def WL:=aV st VB VY [] (ks:=[.st .conn]) rG (λv=>[(true,jP (.o true) v)]) Tryz.func387 trivial
noncomputable def IH:=[rR,kT,wZ,u5,PP]
noncomputable def Lb:Fx:=⟨432,Tryz.f432,[(3000004,rA 0 4)],0⟩
noncomputable def qi:FT (Conn×Segm×Unit) (Bool) (λx=>ai x.1∧ao x.2.1) (λ_ _=>True):=⟨λ(x0,x1,_)=>
  .cal jg.c (x1,()) λc1=>
  .cal gZ.c (x0.r,()) λc2=>
  .ite (c1==0) (.bnd (β:=Bool×Unit) (.val (qt.f (x1.seq,x0.r.next,())) λc3=>
    .ite (c3==0) (.ret (true,()))<|
    .val (n3.f (x1.seq,x0.r.next,c2,())) λc4=>
    .ret (c4,())) λ(u5a0,_)=>
   .ret u5a0)<|
  .cal vf.c (x1.seq,c1,x0.r.next,c2,()) λc6=>
  .ret c6,
 λ(x0,x1,_) hp=>by
  refine Tr.C ?_ λ_ _ _=>Tr.C ?_ λ_ _ _=>Tr.I (λ_=>Tr.F (by kernel_rfl) trivial) λ_=>Tr.C ?_ λ_ _ _=>Tr.R trivial
  all_goals ((try simp only[Tr.nice,bo]at*)<;>grind)⟩
noncomputable def Ju:=aV st Lb IH [] (ks:=[.st .conn,.st .segm]) qi (λv=>[(false,[.c (.bool v)])]) Tryz.func432 trivial
noncomputable def VE:=[eY,QH,jb,cz]
noncomputable def Vk:Fx:=⟨436,Tryz.f436,[(3000003,rA 0 37)],0⟩
noncomputable def rj:FT (Conn×Unit) (Conn) (λx=>ai x.1) (λx v=>ai v):=⟨λ(x0,_)=>
  .cal ez.c (x0,()) λc1=>
  .cal va.c (x0,()) λc2=>
  .bnd (β:=Bool×Unit) (.cal jC.c (({x0 with state:=c2,timer:=0,tries:=0}:Conn),()) λc3=>
   .ite (!c3) (.ret (true,()))<|
   .val (cr.f (x0.timer,0,4,())) λc4=>
   .ite (!c4) (.ret (true,()))<|
   .val (cr.f (x0.tries,0,3,())) λc5=>
   .ret ((!c5),())) λ(u6a0,_)=>
  .ite u6a0 (.cal ez.c (x0,()) λc7=>
   .ret c7)<|
  .ite (c2==x0.state) (.ret ({c1 with state:=c2}:Conn))<|
  .ite (c2==7) (.ite (c2==8) (.ret ({c1 with state:=c2,timer:=0,tries:=0}:Conn))<|
   .ret ({c1 with state:=c2,timer:=4,tries:=0}:Conn))<|
  .ite (c2==8) (.ret ({c1 with state:=c2,timer:=0,tries:=0}:Conn))<|
  .ret ({c1 with state:=c2}:Conn),
 λ(x0,_) hp=>by
  refine Tr.C ?_ λ_ _ _=>Tr.C ?_ λc2 _ _=>Tr.B (Q':=λw=>(w.1=false→SO ({x0 with state:=c2,timer:=0,tries:=0}:Conn).s∧RO ({x0 with state:=c2,timer:=0,tries:=0}:Conn).r)) (Tr.C ?_ λ_ _ _=>Tr.I (λ_=>Tr.R ?_) λ_=>Tr.V λ_ _=>Tr.I (λ_=>Tr.R ?_) λ_=>Tr.V λ_ _=>Tr.R ?_) (λ(u6a0,_) _ _=>Tr.I (λ_=>Tr.C ?_ λ_ _ _=>Tr.R ?_) λ_=>Tr.I (λ_=>Tr.R ?_) λ_=>Tr.I (λ_=>Tr.I (λ_=>Tr.R ?_) λ_=>Tr.R ?_) λ_=>Tr.I (λ_=>Tr.R ?_) λ_=>Tr.R ?_)
  all_goals ((try simp only[Tr.nice,bo]at*)<;>grind)⟩
noncomputable def Wj:=aV st Vk VE [] (ks:=[.st .conn]) rj (λv=>[(true,jP (.o true) v)]) Tryz.func436 trivial
noncomputable def tu:FT (Sipr×Int×Unit) (Sipr) (λ_=>True) (λ_ _=>True):=⟨λ(x0,x1,_)=>
  .cal kf.c (({x0 with d:=(bits .xor .u64 x0.d x1)}:Sipr),()) λc1=>
  .cal kf.c (c1,()) λc2=>
  .ret ({c2 with a:=(bits .xor .u64 c2.a x1)}:Sipr),
 λ(x0,x1,_) hp=>by
  refine Tr.C trivial λ_ _ _=>Tr.C trivial λ_ _ _=>Tr.R trivial⟩
noncomputable def R1:=bf st Tryz.func451 [Dk] (ks:=[.st .sipr,.sc (.int .u64)]) tu (λv=>[(true,DP v)])
noncomputable def H8:=[Dk]
def oY:Sh:=⟨[zp 1 0,zi 7],[.box [.st .sipr []]]⟩
noncomputable def Li:Fx:=⟨453,Tryz.f453,[(0,lb [1,7] [1,2])],0⟩
noncomputable def tk (v0:Int)(a:Sipr):Tr (Stp (Sipr) (Empty)):=
 .cal kf.c (a,()) λc1=>
 .ret (.next c1)
noncomputable def fS:oY.V→LC oY (Sipr) (Empty) (Int×Sipr):=λ(v0,v1,_)=>⟨v0,v1,λv0 a=>(v0,a,()),λv0 _=>(decide (v0<4)),tk,up,1,(Int.toNat (4-v0)),(λp=>Empty.elim p),λi a=>(i,a),λ_ k x=>k (.exit 0) (Sh.enc ⟨[zp 1 0,zu 2],[.box [.st .sipr []]]⟩ (x.2,()))⟩
theorem Mz:LS Tryz.prog Li [0] (bR 0 oY fS):=aW st (aj H8) _ fS [] trivial
theorem MN {v0:Int}{v1:Sipr}(h0:0≤v0):(fS (v0,v1,())).U 4 (λ_ _=>True) (λ_=>True):=
 LC.okU (i:=v0) (a:=v1) (λ_ _=>rfl) (λ_=>rfl) rfl h0 (by decide) trivial λv0 v1 hj hk hv=>by
  refine Tr.C trivial λ_ _ _=>Tr.Rn trivial
noncomputable def tJ:FT (Sipr×Unit) (Int) (λ_=>True) (λ_ _=>True):=⟨λ(x0,_)=>
  .lp (fS (0,({x0 with c:=(bits .xor .u64 x0.c 255)}:Sipr),())).lp λ(_,a2_0)=>
  .val (bits .xor .u64 (bits .xor .u64 (bits .xor .u64 a2_0.a a2_0.b) a2_0.c) a2_0.d) λe3=>
  .ret e3,
 λ(x0,_) hp=>by
  refine Tr.L (MN ?_) (λa2_0 _=>Tr.F (by kernel_rfl) trivial) (λp=>Empty.elim p)
  all_goals ((try simp only[fS,LC.lp,LC.ct,Ct.lp]at*)<;>grind)⟩
noncomputable def Wa:=aV st Li H8 [(bR 0 oY fS)] (ks:=[.st .sipr]) tJ (λv=>[(false,[.c (.int .u64 v)])]) Tryz.func453 ⟨Mz,trivial⟩
noncomputable def vd:FT (Conn×Tupl×Unit) (Bool) (λ_=>True) (λ_ _=>True):=⟨λ(x0,y1,_)=>
  .ret ((x0.tuple.ip==y1.ip)&&((x0.tuple.port==y1.port)&&((x0.tuple.my==y1.my)&&true))),
 λ(x0,y1,_) hp=>by
  refine Tr.R trivial⟩
noncomputable def I3:=cJ st ⟨189,Tryz.f189,[],1⟩ [] [] [.st .conn,.wr false [.ptr 0]] [.box [.st .tupl]] (λx y=>(x.1,y.1.1,())) vd (λv=>[(false,[.c (.bool v)])]) (λx y v=>((y.1.1,()),())) Tryz.func189 (by kernel_rfl) trivial
noncomputable def vi:FT (Half×Tupl×Unit) (Bool) (λ_=>True) (λ_ _=>True):=⟨λ(x0,y1,_)=>
  .ret ((x0.tuple.ip==y1.ip)&&((x0.tuple.port==y1.port)&&((x0.tuple.my==y1.my)&&true))),
 λ(x0,y1,_) hp=>by
  refine Tr.R trivial⟩
noncomputable def Ks:=cJ st ⟨299,Tryz.f299,[],1⟩ [] [] [.st .half,.wr false [.ptr 0]] [.box [.st .tupl]] (λx y=>(x.1,y.1.1,())) vi (λv=>[(false,[.c (.bool v)])]) (λx y v=>((y.1.1,()),())) Tryz.func299 (by kernel_rfl) trivial
noncomputable def iV:=[Qb]
def cu:Sh:=⟨[(1,false,[.sl .arg .conn]),(2,false,[.fn 353 []]),(15,false,[.sl .arg .conn]),zi 16,zi 17],[]⟩
noncomputable def iX:Fx:=⟨352,Tryz.f352,[(0,lb [1,2,15,16,17] [6])],0⟩
noncomputable def gM (v0 v1:List Conn)(v3:Int)(a:Unit):Tr (Stp (Unit) ((Unit))):=
 .grd ((decide (0≤v3))&&(decide (v3<(v1.length:Int))))<|
 .grd ((decide (0≤v3))&&(decide (v3<(v0.length:Int))))<|
 .cal uU.c ((v1.getD v3.toNat (Ty.zero .conn)),(v0.getD v3.toNat (Ty.zero .conn)),()) λc1=>
 .ite (!c1) (.ret (.out ()))<|
 .ret (.next ())
noncomputable def bi:cu.V→LC cu (Unit) ((Unit)) (((Unit))⊕(Int×Unit)):=λ(v0,v1,v2,v3,_)=>⟨v3,(),λv3 _=>(v0,v1,v2,v3,()),λv3 _=>(decide (v3<v2)),gM v0 v1,up,1,(Int.toNat (v2-v3)),.inl,λi a=> .inr (i,a),λ_ k w=>Sum.elim (λ_=>k .ret (Sh.enc ⟨[zb 6],[]⟩ (false,()))) (λ_=>k (.exit 0) (Sh.enc ⟨[zu 6],[]⟩ ())) w⟩
theorem mL:LS Tryz.prog iX [0] (bR 0 cu bi):=aW st (aj iV) _ bi [] trivial
theorem na {v0 v1:List Conn}{v2 v3:Int}(h0:0≤v3)(h1:v2≤4611686018427387904)(h2:sL ai v0)(h3:sL ai v1)(h4:v2≤(v1.length:Int))(h5:v2≤(v0.length:Int)):(bi (v0,v1,v2,v3,())).U v2 (λ_ _=>True) (λ_=>True):=
 LC.okU (i:=v3) (a:=()) (λ_ _=>rfl) (λ_=>rfl) rfl h0 h1 trivial λv3 _ hj hk hv=>by
  refine Tr.G2 ?_ λ_=>Tr.G2 ?_ λ_=>Tr.C ?_ λ_ _ _=>Tr.Z (by kernel_rfl)
  all_goals (grind)
noncomputable def dI:FT (List Conn×List Conn×Unit) (Bool) (λx=>sL ai x.1∧sL ai x.2.1) (λ_ _=>True):=⟨λ(x0,x1,_)=>
  .ite ((x0.length:Int) != (x1.length:Int)) (.ret false)<|
  .lp (bi (x1,x0,(x0.length:Int),0,())).lp λw2=> .sum w2 (λ_=>
  .ret false)<|
  λ_=>
  .ret true,
 λ(x0,x1,_) hp=>by
  refine Tr.I (λ_=>Tr.R trivial) λ_=>Tr.L (na ?_ ?_ ?_ ?_ ?_ ?_) (λ_ _=>Tr.Sr (Tr.R trivial)) (λ_ _=>Tr.Sl (Tr.R trivial))
  all_goals ((try simp only[bi,LC.lp,LC.ct,Ct.lp]at*)<;>grind)⟩
noncomputable def px:=cJ st iX iV [(bR 0 cu bi)] [.sc (.sl .conn),.sc (.sl .conn),.fn 353 []] [] (λx y=>(x.1,x.2.1,())) dI (λv=>[(false,[.c (.bool v)])]) (λx y v=>(())) Tryz.func352 (by kernel_rfl) ⟨mL,trivial⟩
noncomputable def Gt:=[xY,cz,B7,GE,pq,k7]
noncomputable def GZ:Fx:=⟨34,Tryz.f34,[(3000005,rA 0 42),(3000014,rA 0 96)],0⟩
noncomputable def hZ:FT (ac×Int×Int×Unit) (Segm×Bool) (λx=>sS x.1∧x.1.length≤4294967200) (λx v=>ao v.1):=⟨λ(x0,x1,x2,_)=>
  .ite (decide ((x0.length:Int)<20)) (.ret ((⟨0,0,0,0,0,0,⟨0,0,false,false,0,0⟩,[]⟩:Segm),false))<|
  .grd (decide (12<(x0.length:Int)))<|
  .val (IntKind.wrap .i64 ((IntKind.wrap .i64 ((IntKind.wrap .i64 (ae x0 12)).tdiv 16))*4)) λe1=>
  .cal mR.c (x1,x2,(x0.length:Int),()) λc2=>
  .bnd (β:=Bool×Unit) (.val (cr.f (e1,20,(x0.length:Int),())) λc3=>
   .ite (!c3) (.ret (true,()))<|
   .ite (c2==[]) (.ret (true,()))<|
   .grd (Nat.ble (c2.length+x0.length) an)<|
   .cal rM.c ((c2++x0),()) λc4=>
   .ret ((!c4),())) λ(u5a0,_)=>
  .ite u5a0 (.ret ((⟨0,0,0,0,0,0,⟨0,0,false,false,0,0⟩,[]⟩:Segm),false))<|
  .grd ((decide (20≤e1))&&(decide (e1≤(x0.length:Int))))<|
  .cal lc.c (((x0.take e1.toNat).drop 20),()) λc6=>
  .grd (decide (13<(x0.length:Int)))<|
  .grd (((decide (0≤e1))&&(decide (e1≤(x0.length:Int))))&&(decide ((x0.length:Int)≤(x0.length:Int))))<|
  .cal bL.c (x0,0,2,()) λc7=>
  .cal bL.c (x0,2,2,()) λc8=>
  .cal bL.c (x0,4,4,()) λc9=>
  .cal bL.c (x0,8,4,()) λc10=>
  .cal bL.c (x0,14,2,()) λc11=>
  .bnd (β:=Bool×Unit) (.ite (!c6.2) (.ret (true,()))<|
   .cal iP.c ((⟨c7.1,c8.1,c9.1,c10.1,((IntKind.wrap .i64 (ae x0 13)).tmod 64),c11.1,c6.1,((x0.take ((x0.length:Int).toNat)).drop e1.toNat)⟩:Segm),()) λc12=>
   .ret ((!c12),())) λ(u13a0,_)=>
  .ite u13a0 (.ret ((⟨0,0,0,0,0,0,⟨0,0,false,false,0,0⟩,[]⟩:Segm),false))<|
  .ret ((⟨c7.1,c8.1,c9.1,c10.1,((IntKind.wrap .i64 (ae x0 13)).tmod 64),c11.1,c6.1,((x0.take ((x0.length:Int).toNat)).drop e1.toNat)⟩:Segm),true),
 λ(x0,x1,x2,_) hp=>by
  refine Tr.I (λ_=>Tr.R ?_) λ_=>Tr.G1 ?_ λ_=>Tr.V λe1 _=>Tr.C trivial λ_ _ _=>Tr.B (Q':=λ_=>True) (Tr.V λ_ _=>Tr.I (λ_=>Tr.R trivial) λ_=>Tr.I (λ_=>Tr.R trivial) λ_=>Tr.Gb ?_ λ_=>Tr.C ?_ λ_ _ _=>Tr.R trivial) (λ(u5a0,_) _ _=>Tr.I (λ_=>Tr.R ?_) λ_=>Tr.G2 ?_ λ_=>Tr.C ?_ λc6 _ _=>Tr.G1 ?_ λ_=>Tr.G3 ?_ λ_=>Tr.C ?_ λc7 _ _=>Tr.C ?_ λc8 _ _=>Tr.C ?_ λc9 _ _=>Tr.C ?_ λc10 _ _=>Tr.C ?_ λc11 _ _=>Tr.B (Q':=λw=>(w.1=false→(⟨c7.1,c8.1,c9.1,c10.1,((IntKind.wrap .i64 (ae x0 13)).tmod 64),c11.1,c6.1,((x0.take ((x0.length:Int).toNat)).drop e1.toNat)⟩:Segm).body.length≤1420)) (Tr.I (λ_=>Tr.R ?_) λ_=>Tr.C trivial λ_ _ _=>Tr.R ?_) (λ(u13a0,_) _ _=>Tr.I (λ_=>Tr.R ?_) λ_=>Tr.R ?_))
  all_goals ((try simp only[Tr.nice,bo]at*)<;>grind)⟩
noncomputable def pC:=aV st GZ Gt [] (ks:=[.sc .str,.sc (.int .i64),.sc (.int .i64)]) hZ (λv=>[(true,qU v.1),(false,[.c (.bool v.2)])]) Tryz.func34 trivial
noncomputable def kh:FT (ac×Unit) (Fram×Bool) (λx=>sS x.1) (λx v=>ll v.1):=⟨λ(x0,_)=>
  .ite (decide ((x0.length:Int)<14)) (.ret ((⟨0,0,0,[]⟩:Fram),false))<|
  .grd ((decide (14≤(x0.length:Int)))&&(decide ((x0.length:Int)≤(x0.length:Int))))<|
  .cal bL.c (x0,0,6,()) λc1=>
  .cal bL.c (x0,6,6,()) λc2=>
  .cal bL.c (x0,12,2,()) λc3=>
  .cal fR.c ((⟨c1.1,c2.1,c3.1,((x0.take ((x0.length:Int).toNat)).drop 14)⟩:Fram),()) λc4=>
  .ite (!(c4==x0)) (.ret ((⟨0,0,0,[]⟩:Fram),false))<|
  .ret ((⟨c1.1,c2.1,c3.1,((x0.take ((x0.length:Int).toNat)).drop 14)⟩:Fram),true),
 λ(x0,_) hp=>by
  refine Tr.I (λ_=>Tr.R ?_) λ_=>Tr.G2 ?_ λ_=>Tr.C ?_ λ_ _ _=>Tr.C ?_ λ_ _ _=>Tr.C ?_ λ_ _ _=>Tr.C ?_ λ_ _ _=>Tr.I (λ_=>Tr.R ?_) λ_=>Tr.R ?_
  all_goals (grind)⟩
noncomputable def zH:=bf st Tryz.func36 [pq,lh] (ks:=[.sc .str]) kh (λv=>[(true,VM v.1),(false,[.c (.bool v.2)])])
noncomputable def Lr:=[B7,pq,od,cz]
noncomputable def Mp:Fx:=⟨37,Tryz.f37,[(3000010,rA 0 43)],0⟩
noncomputable def kC:FT (ac×Unit) (Pack×Int) (λx=>sS x.1) (λx v=>kN v.1∧v.1.body.length≤1500):=⟨λ(x0,_)=>
  .ite (decide ((x0.length:Int)<20)) (.ret ((⟨0,0,0,0,0,[]⟩:Pack),1))<|
  .grd (decide (0<(x0.length:Int)))<|
  .ite ((ae x0 0) != 69) (.ret ((⟨0,0,0,0,0,[]⟩:Pack),2))<|
  .grd (decide (20≤(x0.length:Int)))<|
  .cal rM.c (((x0.take 20).drop 0),()) λc1=>
  .ite (!c1) (.ret ((⟨0,0,0,0,0,[]⟩:Pack),3))<|
  .cal bL.c (x0,2,2,()) λc2=>
  .val (j1.f ((x0.length:Int),1500,())) λc3=>
  .val (cr.f (c2.1,20,c3,())) λc4=>
  .ite (!c4) (.ret ((⟨0,0,0,0,0,[]⟩:Pack),4))<|
  .bnd (β:=Bool×Unit) (.grd (decide (6<(x0.length:Int)))<|
   .ite ((bits .and .u8 (ae x0 6) 191) != 0) (.ret (true,()))<|
   .grd (decide (7<(x0.length:Int)))<|
   .ret (((ae x0 7) != 0),())) λ(u5a0,_)=>
  .ite u5a0 (.ret ((⟨0,0,0,0,0,[]⟩:Pack),5))<|
  .grd (decide (8<(x0.length:Int)))<|
  .grd (decide (9<(x0.length:Int)))<|
  .grd ((decide (20≤c2.1))&&(decide (c2.1≤(x0.length:Int))))<|
  .ite ((IntKind.wrap .i64 (ae x0 8))==0) (.ret ((⟨0,0,0,0,0,[]⟩:Pack),6))<|
  .cal bL.c (x0,4,2,()) λc6=>
  .cal bL.c (x0,12,4,()) λc7=>
  .cal bL.c (x0,16,4,()) λc8=>
  .ret ((⟨c7.1,c8.1,(IntKind.wrap .i64 (ae x0 8)),(IntKind.wrap .i64 (ae x0 9)),c6.1,((x0.take c2.1.toNat).drop 20)⟩:Pack),0),
 λ(x0,_) hp=>by
  refine Tr.I (λ_=>Tr.R ?_) λ_=>Tr.G1 ?_ λ_=>Tr.I (λ_=>Tr.R ?_) λ_=>Tr.G1 ?_ λ_=>Tr.C ?_ λ_ _ _=>Tr.I (λ_=>Tr.R ?_) λ_=>Tr.C ?_ λ_ _ _=>Tr.V λ_ _=>Tr.V λ_ _=>Tr.I (λ_=>Tr.R ?_) λ_=>Tr.B (Q':=λ_=>True) (Tr.G1 ?_ λ_=>Tr.I (λ_=>Tr.R trivial) λ_=>Tr.G1 ?_ λ_=>Tr.R trivial) (λ(u5a0,_) _ _=>Tr.I (λ_=>Tr.R ?_) λ_=>Tr.G1 ?_ λ_=>Tr.G1 ?_ λ_=>Tr.G2 ?_ λ_=>Tr.I (λ_=>Tr.R ?_) λ_=>Tr.C ?_ λ_ _ _=>Tr.C ?_ λ_ _ _=>Tr.C ?_ λ_ _ _=>Tr.R ?_)
  all_goals ((try simp only[Tr.nice,bo]at*)<;>grind)⟩
noncomputable def wM:=aV st Mp Lr [] (ks:=[.sc .str]) kC (λv=>[(true,D1 v.1),(false,[.c (.int .i64 v.2)])]) Tryz.func37 trivial
noncomputable def yI:FT (Stac×Unit) (Stac) (λx=>cU x.1) (λx v=>cU v):=⟨λ(x0,_)=>
  .cal qw.c (x0.link,()) λc1=>
  .cal fj.c (x0.door,()) λc2=>
  .ret (⟨c1,c2⟩:Stac),
 λ(x0,_) hp=>by
  refine Tr.C ?_ λ_ _ _=>Tr.C ?_ λ_ _ _=>Tr.R ?_
  all_goals (grind)⟩
noncomputable def TB:=bf st Tryz.func51 [Fu,kr] (ks:=[.st .stac]) yI (λv=>[(true,Aj (.o true) (.o true) (.o true) (.o true) (.o true) (.o true) v)])
noncomputable def kv:FT (Door×Unit) (Door) (λx=>aD x.1) (λx v=>aD v∧v.table.conns.length=x.1.table.conns.length∧v.table.waiting.length=x.1.table.waiting.length∧v.halves=x.1.halves):=⟨λ(x0,_)=>
  .cal sv.c (x0.keys,()) λc1=>
  .cal eE.c (x0.halves,()) λc2=>
  .cal jq.c (x0.table,()) λc3=>
  .ret (⟨x0.port,x0.clock,c1,x0.limits,c2,c3,x0.chal⟩:Door),
 λ(x0,_) hp=>by
  refine Tr.C ?_ λ_ _ _=>Tr.C ?_ λ_ _ _=>Tr.C ?_ λ_ _ _=>Tr.R ?_
  all_goals (grind)⟩
noncomputable def oS:=bf st Tryz.func75 [Ng,rB,rl] (ks:=[.st .door]) kv (λv=>[(true,oz (.o true) (.o true) (.o true) (.o true) (.o true) v)])
noncomputable def xV:=[P3,jb,jm,Rc]
def nC:Sh:=⟨[zp 2 0,zi 5],[.box [.st .tabl [.sl .arg,.sl .arg]]]⟩
def mz:Sh:=⟨[zp 2 0,zi 6],[.box [.st .tabl [.sl .arg,.sl .arg]]]⟩
noncomputable def wI:Fx:=⟨91,Tryz.f91,[(0,lb [2,5] [2,4]),(2,lb [2,6] [4]),(3000001,rA 0 25)],0⟩
noncomputable def rP (v1:Tabl)(v0:Int)(a:Unit):Tr (Stp (Unit) ((Unit))):=
 .grd ((decide (0≤v0))&&(decide (v0<(v1.conns.length:Int))))<|
 .cal jC.c ((v1.conns.getD v0.toNat (Ty.zero .conn)),()) λc3=>
 .ite (!c3) (.ret (.out ()))<|
 .grd ((decide (0≤v0))&&(decide (v0<(v1.conns.length:Int))))<|
 .cal fx.c (v1,(v1.conns.getD v0.toNat (Ty.zero .conn)).tuple,()) λc4=>
 .ite (c4 != v0) (.ret (.out ()))<|
 .ret (.next ())
noncomputable def gk:nC.V→LC nC (Unit) ((Unit)) (((Unit))⊕(Int×Unit)):=λ(v0,v1,_)=>⟨v0,(),λv0 _=>(v0,v1,()),λv0 _=>(decide (v0<(v1.conns.length:Int))),rP v1,up,1,(Int.toNat ((v1.conns.length:Int)-v0)),.inl,λi a=> .inr (i,a),λ_ k w=>Sum.elim (λ_=>k .ret (Sh.enc ⟨[zp 2 0,zb 4],[.box [.st .tabl [.sl .arg,.sl .arg]]]⟩ (false,v1,()))) (λ_=>k (.exit 0) (Sh.enc ⟨[zp 2 0,zu 4],[.box [.st .tabl [.sl .arg,.sl .arg]]]⟩ (v1,()))) w⟩
theorem Ke:LS Tryz.prog wI [0] (bR 0 nC gk):=aW st (aj xV) _ gk [] trivial
theorem IO {v0:Int}{v1:Tabl}(h0:0≤v0)(h1:(v1.conns.length:Int)≤4611686018427387904)(h2:bu v1):(gk (v0,v1,())).U (v1.conns.length:Int) (λ_ _=>True) (λ_=>True):=
 LC.okU (i:=v0) (a:=()) (λ_ _=>rfl) (λ_=>rfl) rfl h0 h1 trivial λv0 _ hj hk hv=>by
  refine Tr.G2 ?_ λ_=>Tr.C ?_ λ_ _ _=>Tr.I (λ_=>Tr.Ro trivial) λ_=>Tr.G2 ?_ λ_=>Tr.C ?_ λ_ _ _=>Tr.Z (by kernel_rfl)
  all_goals (grind)
noncomputable def qP (v1:Tabl)(v0:Int)(a:Unit):Tr (Stp (Unit) ((Unit))):=
 .grd ((decide (0≤v0))&&(decide (v0≤(v1.waiting.length:Int))))<|
 .grd ((decide (0≤v0))&&(decide (v0<(v1.waiting.length:Int))))<|
 .cal uQ.c (((v1.waiting.take v0.toNat).drop 0),(v1.waiting.getD v0.toNat (Ty.zero .tupl)),()) λc6=>
 .ite c6 (.ret (.out ()))<|
 .grd ((decide (0≤v0))&&(decide (v0<(v1.waiting.length:Int))))<|
 .cal fx.c (v1,(v1.waiting.getD v0.toNat (Ty.zero .tupl)),()) λc7=>
 .ite (decide (c7<0)) (.ret (.out ()))<|
 .ret (.next ())
noncomputable def gq:mz.V→LC mz (Unit) ((Unit)) (((Unit))⊕(Int×Unit)):=λ(v0,v1,_)=>⟨v0,(),λv0 _=>(v0,v1,()),λv0 _=>(decide (v0<(v1.waiting.length:Int))),qP v1,up,1,(Int.toNat ((v1.waiting.length:Int)-v0)),.inl,λi a=> .inr (i,a),λ_ k w=>Sum.elim (λ_=>k .ret (Sh.enc ⟨[zb 4],[]⟩ (false,()))) (λ_=>k (.exit 2) (Sh.enc ⟨[zu 4],[]⟩ ())) w⟩
theorem KU:LS Tryz.prog wI [1] (bR 2 mz gq):=aW st (aj xV) _ gq [] trivial
theorem Ii {v0:Int}{v1:Tabl}(h0:0≤v0)(h1:(v1.waiting.length:Int)≤4611686018427387904)(h2:bu v1):(gq (v0,v1,())).U (v1.waiting.length:Int) (λ_ _=>True) (λ_=>True):=
 LC.okU (i:=v0) (a:=()) (λ_ _=>rfl) (λ_=>rfl) rfl h0 h1 trivial λv0 _ hj hk hv=>by
  refine Tr.G2 ?_ λ_=>Tr.G2 ?_ λ_=>Tr.C ?_ λ_ _ _=>Tr.I (λ_=>Tr.Ro trivial) λ_=>Tr.G2 ?_ λ_=>Tr.C ?_ λ_ _ _=>Tr.Z (by kernel_rfl)
  all_goals (grind)
noncomputable def tz:FT (Tabl×Limi×Unit) (Bool) (λx=>wS x.1.conns∧eb ai x.1.conns∧wS x.1.waiting) (λx v=>(v=true→x.1.conns.length≤16∧x.1.waiting.length≤16)):=⟨λ(x0,x1,_)=>
  .bnd (β:=Bool×Unit) (.cal uC.c (x1,()) λc1=>
   .ite (!c1) (.ret (true,()))<|
   .ite (decide (x1.conns<(x0.conns.length:Int))) (.ret (true,()))<|
   .ret ((decide (x1.waiting<(x0.waiting.length:Int))),())) λ(u2a0,_)=>
  .ite u2a0 (.ret false)<|
  .lp (gk (0,x0,())).lp λw5=> .sum w5 (λ_=>
  .ret false)<|
  λ_=>
  .lp (gq (0,x0,())).lp λw8=> .sum w8 (λ_=>
  .ret false)<|
  λ_=>
  .ret true,
 λ(x0,x1,_) hp=>by
  refine Tr.B (Q':=λw=>(w.1=false→x1.halves≤64∧x1.waiting≤16∧x1.conns≤16)) (Tr.C trivial λ_ _ _=>Tr.I (λ_=>Tr.R ?_) λ_=>Tr.I (λ_=>Tr.R ?_) λ_=>Tr.R ?_) (λ(u2a0,_) _ _=>Tr.I (λ_=>Tr.R ?_) λ_=>Tr.L (IO ?_ ?_ ?_) (λ_ _=>Tr.Sr (Tr.L (Ii ?_ ?_ ?_) (λ_ _=>Tr.Sr (Tr.R ?_)) (λ_ _=>Tr.Sl (Tr.R ?_)))) (λ_ _=>Tr.Sl (Tr.R ?_)))
  all_goals ((try simp only[gk,gq,LC.lp,LC.ct,Ct.lp,Tr.nice,bo]at*)<;>grind)⟩
noncomputable def Ga:=aV st wI xV [(bR 0 nC gk),(bR 2 mz gq)] (ks:=[.st .tabl,.st .limi]) tz (λv=>[(false,[.c (.bool v)])]) Tryz.func91 ⟨Ke,KU,trivial⟩
noncomputable def pZ:FT (Stac×Unit) (Stac) (λx=>cU x.1) (λx v=>cU v):=⟨λ(x0,_)=>
  .cal lZ.c (x0.link,()) λc1=>
  .cal kv.c (x0.door,()) λc2=>
  .ret (⟨c1,c2⟩:Stac),
 λ(x0,_) hp=>by
  refine Tr.C ?_ λ_ _ _=>Tr.C ?_ λ_ _ _=>Tr.R ?_
  all_goals (grind)⟩
noncomputable def JM:=bf st Tryz.func108 [zL,oS] (ks:=[.st .stac]) pZ (λv=>[(true,Aj (.o true) (.o true) (.o true) (.o true) (.o true) (.o true) v)])
noncomputable def Hz:=[xF,Bo,Gk,yf,jM]
noncomputable def GM:Fx:=⟨110,Tryz.f110,[(3000005,rA 0 45),(3000009,rA 0 79)],0⟩
noncomputable def bh:FT (ac×Int×Int×Unit) (Segm×Bool) (λx=>sS x.1∧x.1.length≤4294967200) (λx v=>ao v.1):=⟨λ(x0,x1,x2,_)=>
  .ite (decide ((x0.length:Int)<20)) (.ret ((⟨0,0,0,0,0,0,⟨0,0,false,false,0,0⟩,[]⟩:Segm),false))<|
  .grd (decide (12<(x0.length:Int)))<|
  .val (IntKind.wrap .i64 ((IntKind.wrap .i64 ((IntKind.wrap .i64 (ae x0 12)).tdiv 16))*4)) λe1=>
  .cal bA.c (x1,x2,(x0.length:Int),()) λc2=>
  .bnd (β:=Bool×Unit) (.ite (decide (e1<20)) (.ret (true,()))<|
   .ite (decide ((x0.length:Int)<e1)) (.ret (true,()))<|
   .ite (c2==[]) (.ret (true,()))<|
   .grd (Nat.ble (c2.length+x0.length) an)<|
   .cal fF.c ((c2++x0),()) λc3=>
   .ret ((!c3),())) λ(u4a0,_)=>
  .ite u4a0 (.ret ((⟨0,0,0,0,0,0,⟨0,0,false,false,0,0⟩,[]⟩:Segm),false))<|
  .grd ((decide (20≤e1))&&(decide (e1≤(x0.length:Int))))<|
  .cal jE.c (((x0.take e1.toNat).drop 20),()) λc5=>
  .cal ex.c (x0,0,2,()) λc6=>
  .cal ex.c (x0,2,2,()) λc7=>
  .cal ex.c (x0,4,4,()) λc8=>
  .cal ex.c (x0,8,4,()) λc9=>
  .grd (decide (13<(x0.length:Int)))<|
  .cal ex.c (x0,14,2,()) λc10=>
  .grd (((decide (0≤e1))&&(decide (e1≤(x0.length:Int))))&&(decide ((x0.length:Int)≤(x0.length:Int))))<|
  .bnd (β:=Bool×Unit) (.ite (!c5.2) (.ret (true,()))<|
   .cal ak.c ((⟨c6,c7,c8,c9,(bits .and .i64 (IntKind.wrap .i64 (ae x0 13)) 63),c10,c5.1,((x0.take ((x0.length:Int).toNat)).drop e1.toNat)⟩:Segm),()) λc11=>
   .ret ((!c11),())) λ(u12a0,_)=>
  .ite u12a0 (.ret ((⟨0,0,0,0,0,0,⟨0,0,false,false,0,0⟩,[]⟩:Segm),false))<|
  .ret ((⟨c6,c7,c8,c9,(bits .and .i64 (IntKind.wrap .i64 (ae x0 13)) 63),c10,c5.1,((x0.take ((x0.length:Int).toNat)).drop e1.toNat)⟩:Segm),true),
 λ(x0,x1,x2,_) hp=>by
  refine Tr.I (λ_=>Tr.R ?_) λ_=>Tr.G1 ?_ λ_=>Tr.V λe1 _=>Tr.C trivial λ_ _ _=>Tr.B (Q':=λ_=>True) (Tr.I (λ_=>Tr.R trivial) λ_=>Tr.I (λ_=>Tr.R trivial) λ_=>Tr.I (λ_=>Tr.R trivial) λ_=>Tr.Gb ?_ λ_=>Tr.C ?_ λ_ _ _=>Tr.R trivial) (λ(u4a0,_) _ _=>Tr.I (λ_=>Tr.R ?_) λ_=>Tr.G2 ?_ λ_=>Tr.C ?_ λc5 _ _=>Tr.C ?_ λc6 _ _=>Tr.C ?_ λc7 _ _=>Tr.C ?_ λc8 _ _=>Tr.C ?_ λc9 _ _=>Tr.G1 ?_ λ_=>Tr.C ?_ λc10 _ _=>Tr.G3 ?_ λ_=>Tr.B (Q':=λw=>(w.1=false→(⟨c6,c7,c8,c9,(bits .and .i64 (IntKind.wrap .i64 (ae x0 13)) 63),c10,c5.1,((x0.take ((x0.length:Int).toNat)).drop e1.toNat)⟩:Segm).body.length≤1420)) (Tr.I (λ_=>Tr.R ?_) λ_=>Tr.C trivial λ_ _ _=>Tr.R ?_) (λ(u12a0,_) _ _=>Tr.I (λ_=>Tr.R ?_) λ_=>Tr.R ?_))
  all_goals ((try simp only[Tr.nice,bo]at*)<;>grind)⟩
noncomputable def Hl:=aV st GM Hz [] (ks:=[.sc .str,.sc (.int .i64),.sc (.int .i64)]) bh (λv=>[(true,qU v.1),(false,[.c (.bool v.2)])]) Tryz.func110 trivial
noncomputable def EP:=[wh,T8]
def mZ:Sh:=⟨[zi 1,(2,false,[.sl .arg .segm]),zp 3 0,(7,false,[.own 1]),zi 8],[.box [.st .stac [.sl .arg,.sl .arg,.sl .arg,.sl .arg,.sl .arg,.sl .arg]],.arr .str false true]⟩
noncomputable def FJ:Fx:=⟨112,Tryz.f112,[(0,lb [1,2,3,7,8] [6,7])],0⟩
noncomputable def xy (v0:Int)(v1:List Segm)(v3:Stac)(v2:Int)(a:List ac):Tr (Stp (List ac) (Empty)):=
 .grd ((decide (0≤v2))&&(decide (v2<(v1.length:Int))))<|
 .cal lf.c ((v1.getD v2.toNat (Ty.zero .segm)),v3.link.ip,v0,()) λc1=>
 .cal yp.c (v3.link,v0,c1,()) λc2=>
 .ite c2.2 (.grd (Nat.ble ((2*(a.length+1)+1024)*16) aF)<|
  .ret (.next (a++[c2.1])))<|
 .ret (.next a)
noncomputable def gn:mZ.V→LC mZ (List ac) (Empty) (Int×(List ac)):=λ(v0,v1,v2,v3,v4,_)=>⟨v2,v4,λv2 a=>(v0,v1,v2,v3,a,()),λv2 _=>(decide (v2<(v1.length:Int))),xy v0 v1 v3,up,1,(Int.toNat ((v1.length:Int)-v2)),(λp=>Empty.elim p),λi a=>(i,a),λ_ k x=>k (.exit 0) (Sh.enc ⟨[zu 6,(7,false,[.own 0])],[.arr .str false true]⟩ (x.2,()))⟩
theorem H5:LS Tryz.prog FJ [0] (bR 0 mZ gn):=aW st (aj EP) _ gn [] trivial
theorem Jo {v0 v2:Int}{v1:List Segm}{v3:Stac}{v4:List ac}(h0:0≤v2)(h1:(v1.length:Int)≤4611686018427387904)(h2:sL ao v1)(h3:cU v3)(h4:(v4.length:Int)≤v2∧eb sS v4):(gn (v0,v1,v2,v3,v4,())).U (v1.length:Int) (λv2 a=>(a.length:Int)≤v2∧eb sS a) (λ_=>True):=
 LC.okU (i:=v2) (a:=v4) (λ_ _=>rfl) (λ_=>rfl) rfl h0 h1 h4 λv2 v4 hj hk hv=>by
  refine Tr.G2 ?_ λ_=>Tr.C ?_ λ_ _ _=>Tr.C ?_ λ_ _ _=>Tr.I (λ_=>Tr.Gb ?_ λ_=>Tr.Rn ?_) λ_=>Tr.Rn ?_
  all_goals (grind)
noncomputable def yG:FT (Stac×Int×List Segm×Unit) (List ac) (λx=>cU x.1∧sL ao x.2.2.1) (λx v=>sL sS v∧v.length≤x.2.2.1.length):=⟨λ(x0,x1,x2,_)=>
  .lp (gn (x1,x2,0,x0,[],())).lp λ(_,a3_0)=>
  .ret a3_0,
 λ(x0,x1,x2,_) hp=>by
  refine Tr.L (Jo ?_ ?_ ?_ ?_ ?_) (λa3_0 _=>Tr.R ?_) (λp=>Empty.elim p)
  all_goals ((try simp only[gn,LC.lp,LC.ct,Ct.lp]at*)<;>grind)⟩
noncomputable def SU:=aV st FJ EP [(bR 0 mZ gn)] (ks:=[.st .stac,.sc (.int .i64),.sc (.sl .segm)]) yG (λv=>[(false,[sc (.o true) .str v])]) Tryz.func112 ⟨H5,trivial⟩
noncomputable def Qv:=[eY,X1,jb,yH,SG,mf,Ck]
def uo:An:=⟨⟨[],[],false,0⟩,⟨[2,3,4,5],[],false,0⟩,⟨[],[]⟩,[(.normal,⟨[zp 2 0,(3,false,[.nil]),zp 4 1,(5,false,[.own 2])],[.box [.st .conn [.nil .piec]],.box [.st .conn [.own 3]],.arr .segm false true,.of false true]⟩)]⟩
def tH:An:=⟨⟨[],[],false,0⟩,⟨[1,2,3,4,5],[],false,0⟩,⟨[],[]⟩,[(.normal,⟨[zp 1 0,zp 2 1,(3,false,[.nil]),zp 4 2,(5,false,[.own 3])],[.box [.st .conn [.sl .arg]],.box [.st .conn [.nil .piec]],.box [.st .conn [.own 4]],.arr .segm false true,.of false true]⟩)]⟩
noncomputable def Qe:Fx:=⟨148,Tryz.f148,[(1000016,uo),(1000023,tH)],0⟩
noncomputable def K5:FT (Conn×Unit) (Conn×List Segm) (λx=>ai x.1) (λx v=>ai v.1∧sL ao v.2∧v.2.length≤49):=⟨λ(x0,_)=>
  .cal ez.c (x0,()) λc1=>
  .cal Xs.c (x0,()) λc2=>
  .ite (!c2) (.cal jC.c (x0,()) λc3=>
   .bnd (β:=WT uo.es) (.ite c3 (.ret ((⟨⟨0,0,0⟩,0,⟨0,[],0,false,false,false⟩,⟨0,[],[],0,false⟩,0,0,⟨0,0,false,false,0,0⟩,0,0⟩:Conn),({c1 with timer:=0,tries:=0}:Conn),[],()))<|
    .ret ((⟨⟨0,0,0⟩,0,⟨0,[],0,false,false,false⟩,⟨0,[],[],0,false⟩,0,0,⟨0,0,false,false,0,0⟩,0,0⟩:Conn),c1,[],())) λ(_,u4a1,u4a2,_)=>
   .ret (u4a1,u4a2))<|
  .bnd (β:=WT tH.es) (.ite (c1.timer==0) (.ite (x0.state==7) (.ret (x0,(⟨⟨0,0,0⟩,0,⟨0,[],0,false,false,false⟩,⟨0,[],[],0,false⟩,0,0,⟨0,0,false,false,0,0⟩,0,0⟩:Conn),({c1 with timer:=4}:Conn),[],()))<|
    .ret (x0,(⟨⟨0,0,0⟩,0,⟨0,[],0,false,false,false⟩,⟨0,[],[],0,false⟩,0,0,⟨0,0,false,false,0,0⟩,0,0⟩:Conn),({c1 with timer:=3}:Conn),[],()))<|
   .ret (x0,(⟨⟨0,0,0⟩,0,⟨0,[],0,false,false,false⟩,⟨0,[],[],0,false⟩,0,0,⟨0,0,false,false,0,0⟩,0,0⟩:Conn),c1,[],())) λ(u5a0,_,u5a2,u5a3,_)=>
  .ite (decide (0<(IntKind.wrap .i64 (u5a2.timer-1)))) (.ret (({u5a2 with timer:=(IntKind.wrap .i64 (u5a2.timer-1))}:Conn),u5a3))<|
  .ite (u5a0.state==7) (.ret (({u5a2 with state:=8,timer:=(IntKind.wrap .i64 (u5a2.timer-1)),tries:=0}:Conn),u5a3))<|
  .ite (u5a0.tries==3) (.cal kR.c (u5a0,()) λc6=>
   .ret (({u5a2 with state:=8,timer:=(IntKind.wrap .i64 (u5a2.timer-1)),tries:=0}:Conn),[({c6 with flags:=(bits .or .i64 c6.flags 4)}:Segm)]))<|
  .cal Ov.c (u5a0.s,()) λc7=>
  .val (fO.f (1,u5a2.window,())) λc8=>
  .cal mI.c ((⟨u5a2.tuple,u5a2.state,c7,u5a2.r,u5a2.window,u5a2.most,u5a2.opts,(IntKind.wrap .i64 (u5a2.timer-1)),(IntKind.wrap .i64 (u5a0.tries+1))⟩:Conn),c8,()) λc9=>
  .ret (({c9.1 with timer:=3}:Conn),c9.2),
 λ(x0,_) hp=>by
  refine Tr.C ?_ λc1 hc1 qc1=>Tr.C ?_ λc2 hc2 qc2=>Tr.I (λb0=>Tr.C ?_ λc3 hc3 qc3=>Tr.B (Q':=λw=>ai w.1∧ai w.2.1∧sL ao w.2.2.1∧w.2.2.1.length≤49) (Tr.I (λb1=>Tr.R ?_) λb1=>Tr.R ?_) (λ(u4a0,u4a1,u4a2,_) hj4 qj4=>Tr.R ?_)) λb0=>Tr.B (Q':=λw=>ai w.1∧ai w.2.1∧ai w.2.2.1∧sL ao w.2.2.2.1∧w.2.2.2.1.length≤49) (Tr.I (λb1=>Tr.I (λb2=>Tr.R ?_) λb2=>Tr.R ?_) λb1=>Tr.R ?_) (λ(u5a0,u5a1,u5a2,u5a3,_) hj5 qj5=>Tr.I (λb1=>Tr.R ?_) λb1=>Tr.I (λb2=>Tr.R ?_) λb2=>Tr.I (λb3=>Tr.C ?_ λc6 hc6 qc6=>Tr.R ?_) λb3=>Tr.C ?_ λc7 hc7 qc7=>Tr.V λc8 hc8=>Tr.C ?_ λc9 hc9 qc9=>Tr.R ?_)
  all_goals ((try simp only[Tr.nice,bo]at*)<;>grind)⟩
noncomputable def Po:=aV st Qe Qv [] (ks:=[.st .conn]) K5 (λv=>[(true,jP (.o true) v.1),(false,[sc (.o true) .segm v.2])]) Tryz.func148 trivial
noncomputable def Y0:=[eY,jb,Mg,Ck]
noncomputable def Yz:Fx:=⟨154,Tryz.f154,[(3000002,rA 0 26)],0⟩
noncomputable def XD:FT (Conn×ac×Unit) (Conn×Int×List Segm) (λx=>ai x.1∧sS x.2.1) (λx v=>ai v.1∧sL ao v.2.2):=⟨λ(x0,x1,_)=>
  .cal ez.c (x0,()) λc1=>
  .bnd (β:=Bool×Unit) (.cal jC.c (x0,()) λc2=>
   .ite (!c2) (.ret (true,()))<|
   .ite (x0.state != 1) (.ret ((x0.state != 4),()))<|
   .ret (false,())) λ(u3a0,_)=>
  .ite u3a0 (.ret (c1,0,[]))<|
  .cal JJ.c (x0.s,x1,()) λc4=>
  .cal mI.c (({c1 with s.una:=c4.1.una,s.data:=c4.1.data,s.sent:=c4.1.sent,s.fin:=c4.1.fin,s.finSent:=c4.1.finSent,s.done:=c4.1.done}:Conn),c1.window,()) λc5=>
  .ret (c5.1,c4.2,c5.2),
 λ(x0,x1,_) hp=>by
  refine Tr.C ?_ λ_ _ _=>Tr.B (Q':=λ_=>True) (Tr.C ?_ λ_ _ _=>Tr.F (by kernel_rfl) trivial) (λ(u3a0,_) _ _=>Tr.I (λ_=>Tr.R ?_) λ_=>Tr.C ?_ λ_ _ _=>Tr.C ?_ λ_ _ _=>Tr.R ?_)
  all_goals ((try simp only[Tr.nice,bo]at*)<;>grind)⟩
noncomputable def X6:=aV st Yz Y0 [] (ks:=[.st .conn,.sc .str]) XD (λv=>[(true,jP (.o true) v.1),(false,[.c (.int .i64 v.2.1)]),(false,[sc (.o true) .segm v.2.2])]) Tryz.func154 trivial
noncomputable def PQ:=[eY,jb,Fz,kT,yH]
noncomputable def Qq:Fx:=⟨156,Tryz.f156,[(3000007,rA 0 46)],0⟩
noncomputable def Mc:FT (Conn×Int×Unit) (Conn×ac×List Segm) (λx=>ai x.1) (λx v=>ai v.1∧sS v.2.1∧sL ao v.2.2):=⟨λ(x0,x1,_)=>
  .cal ez.c (x0,()) λc1=>
  .cal jC.c (x0,()) λc2=>
  .ite (!c2) (.ret (c1,[],[]))<|
  .cal DF.c (x0.r,x1,()) λc3=>
  .bnd (β:=Bool×Unit) (.cal gZ.c (x0.r,()) λc4=>
   .ite (c4==0) (.cal gZ.c (c3.1,()) λc5=>
    .ite (decide (0<c5)) (.ite (x0.state != 8) (.ret ((x0.state != 7),()))<|
     .ret (false,()))<|
    .ret (false,()))<|
   .ret (false,())) λ(u6a0,_)=>
  .ite u6a0 (.cal kR.c (({c1 with r.next:=c3.1.next,r.data:=c3.1.data,r.held:=c3.1.held,r.fin:=c3.1.fin,r.done:=c3.1.done}:Conn),()) λc7=>
   .ret (({c1 with r.next:=c3.1.next,r.data:=c3.1.data,r.held:=c3.1.held,r.fin:=c3.1.fin,r.done:=c3.1.done}:Conn),c3.2,[c7]))<|
  .ret (({c1 with r.next:=c3.1.next,r.data:=c3.1.data,r.held:=c3.1.held,r.fin:=c3.1.fin,r.done:=c3.1.done}:Conn),c3.2,[]),
 λ(x0,x1,_) hp=>by
  refine Tr.C ?_ λ_ _ _=>Tr.C ?_ λ_ _ _=>Tr.I (λ_=>Tr.R ?_) λ_=>Tr.C ?_ λ_ _ _=>Tr.B (Q':=λ_=>True) (Tr.C ?_ λ_ _ _=>Tr.I (λ_=>Tr.C ?_ λ_ _ _=>Tr.F (by kernel_rfl) trivial) λ_=>Tr.R trivial) (λ(u6a0,_) _ _=>Tr.I (λ_=>Tr.C ?_ λ_ _ _=>Tr.R ?_) λ_=>Tr.R ?_)
  all_goals ((try simp only[Tr.nice,bo]at*)<;>grind)⟩
noncomputable def QK:=aV st Qq PQ [] (ks:=[.st .conn,.sc (.int .i64)]) Mc (λv=>[(true,jP (.o true) v.1),(false,[.c (.str v.2.1)]),(false,[sc (.o true) .segm v.2.2])]) Tryz.func156 trivial
noncomputable def ZU:=[eY,jb,Ck]
noncomputable def aaS:Fx:=⟨157,Tryz.f157,[(3000002,rA 0 19)],0⟩
noncomputable def aal:FT (Conn×Unit) (Conn×List Segm) (λx=>ai x.1) (λx v=>ai v.1∧sL ao v.2):=⟨λ(x0,_)=>
  .cal ez.c (x0,()) λc1=>
  .bnd (β:=Bool×Unit) (.cal jC.c (x0,()) λc2=>
   .ite (!c2) (.ret (true,()))<|
   .ite (x0.state != 1) (.ret ((x0.state != 4),()))<|
   .ret (false,())) λ(u3a0,_)=>
  .ite u3a0 (.ret (c1,[]))<|
  .ite (x0.state==4) (.cal mI.c (({c1 with state:=6,s.fin:=true}:Conn),c1.window,()) λc4=>
   .ret (c4.1,c4.2))<|
  .cal mI.c (({c1 with state:=2,s.fin:=true}:Conn),c1.window,()) λc5=>
  .ret (c5.1,c5.2),
 λ(x0,_) hp=>by
  refine Tr.C ?_ λ_ _ _=>Tr.B (Q':=λ_=>True) (Tr.C ?_ λ_ _ _=>Tr.F (by kernel_rfl) trivial) (λ(u3a0,_) _ _=>Tr.I (λ_=>Tr.R ?_) λ_=>Tr.I (λ_=>Tr.C ?_ λ_ _ _=>Tr.R ?_) λ_=>Tr.C ?_ λ_ _ _=>Tr.R ?_)
  all_goals ((try simp only[Tr.nice,bo]at*)<;>grind)⟩
noncomputable def aad:=aV st aaS ZU [] (ks:=[.st .conn]) aal (λv=>[(true,jP (.o true) v.1),(false,[sc (.o true) .segm v.2])]) Tryz.func157 trivial
noncomputable def LG:=[yf,Bo]
noncomputable def Iy:Fx:=⟨160,Tryz.f160,[(3000008,rA 0 22)],0⟩
noncomputable def nP:FT (ac×Unit) (Pack×Int) (λx=>sS x.1) (λx v=>kN v.1∧v.1.body.length≤1500):=⟨λ(x0,_)=>
  .ite (decide ((x0.length:Int)<20)) (.ret ((⟨0,0,0,0,0,[]⟩:Pack),1))<|
  .cal ex.c (x0,2,2,()) λc1=>
  .grd (decide (0<(x0.length:Int)))<|
  .ite ((ae x0 0) != 69) (.ret ((⟨0,0,0,0,0,[]⟩:Pack),2))<|
  .grd (decide (20≤(x0.length:Int)))<|
  .cal fF.c (((x0.take 20).drop 0),()) λc2=>
  .ite (!c2) (.ret ((⟨0,0,0,0,0,[]⟩:Pack),3))<|
  .bnd (β:=Bool×Unit) (.ite (decide (c1<20)) (.ret (true,()))<|
   .ite (decide ((x0.length:Int)<c1)) (.ret (true,()))<|
   .ret ((decide (1500<c1)),())) λ(u3a0,_)=>
  .ite u3a0 (.ret ((⟨0,0,0,0,0,[]⟩:Pack),4))<|
  .cal ex.c (x0,6,2,()) λc4=>
  .ite ((bits .andNot .i64 c4 16384) != 0) (.ret ((⟨0,0,0,0,0,[]⟩:Pack),5))<|
  .grd (decide (8<(x0.length:Int)))<|
  .ite ((ae x0 8)==0) (.ret ((⟨0,0,0,0,0,[]⟩:Pack),6))<|
  .cal ex.c (x0,12,4,()) λc5=>
  .cal ex.c (x0,16,4,()) λc6=>
  .grd (decide (8<(x0.length:Int)))<|
  .grd (decide (9<(x0.length:Int)))<|
  .cal ex.c (x0,4,2,()) λc7=>
  .grd ((decide (20≤c1))&&(decide (c1≤(x0.length:Int))))<|
  .ret ((⟨c5,c6,(IntKind.wrap .i64 (ae x0 8)),(IntKind.wrap .i64 (ae x0 9)),c7,((x0.take c1.toNat).drop 20)⟩:Pack),0),
 λ(x0,_) hp=>by
  refine Tr.I (λ_=>Tr.R ?_) λ_=>Tr.C ?_ λ_ _ _=>Tr.G1 ?_ λ_=>Tr.I (λ_=>Tr.R ?_) λ_=>Tr.G1 ?_ λ_=>Tr.C ?_ λ_ _ _=>Tr.I (λ_=>Tr.R ?_) λ_=>Tr.B (Q':=λ_=>True) (Tr.F (by kernel_rfl) trivial) (λ(u3a0,_) _ _=>Tr.I (λ_=>Tr.R ?_) λ_=>Tr.C ?_ λ_ _ _=>Tr.I (λ_=>Tr.R ?_) λ_=>Tr.G1 ?_ λ_=>Tr.I (λ_=>Tr.R ?_) λ_=>Tr.C ?_ λ_ _ _=>Tr.C ?_ λ_ _ _=>Tr.G1 ?_ λ_=>Tr.G1 ?_ λ_=>Tr.C ?_ λ_ _ _=>Tr.G2 ?_ λ_=>Tr.R ?_)
  all_goals ((try simp only[Tr.nice,bo]at*)<;>grind)⟩
noncomputable def L9:=aV st Iy LG [] (ks:=[.sc .str]) nP (λv=>[(true,D1 v.1),(false,[.c (.int .i64 v.2)])]) Tryz.func160 trivial
noncomputable def Sd:=[T7,Ly,Ao,zN]
noncomputable def Uk:Fx:=⟨230,Tryz.f230,[(3000003,rA 0 35)],0⟩
noncomputable def gF:FT (Link×Int×ac×Unit) (ac×Bool) (λx=>dH x.1∧sS x.2.2.1) (λx v=>sS v.1):=⟨λ(x0,x1,x2,_)=>
  .cal AO.c (x0.cache,x1,()) λc1=>
  .cal fN.c ((⟨x0.ip,x1,64,6,0,x2⟩:Pack),()) λc2=>
  .bnd (β:=Bool×Unit) (.cal dP.c (x0,()) λc3=>
   .ite (!c3) (.ret (true,()))<|
   .ite (!c1.2) (.ret (true,()))<|
   .ret ((c2==[]),())) λ(u4a0,_)=>
  .ite u4a0 (.ret ([],false))<|
  .cal dB.c ((⟨c1.1,x0.mac,2048,c2⟩:Fram),()) λc5=>
  .ret (c5,(!(c5==[]))),
 λ(x0,x1,x2,_) hp=>by
  refine Tr.C ?_ λ_ _ _=>Tr.C ?_ λ_ _ _=>Tr.B (Q':=λ_=>True) (Tr.C ?_ λ_ _ _=>Tr.F (by kernel_rfl) trivial) (λ(u4a0,_) _ _=>Tr.I (λ_=>Tr.R ?_) λ_=>Tr.C ?_ λ_ _ _=>Tr.R ?_)
  all_goals ((try simp only[Tr.nice,bo]at*)<;>grind)⟩
noncomputable def Tp:=aV st Uk Sd [] (ks:=[.st .link,.sc (.int .i64),.sc .str]) gF (λv=>[(false,[.c (.str v.1)]),(false,[.c (.bool v.2)])]) Tryz.func230 trivial
noncomputable def tV:FT (ac×Unit) (Arpm×Bool) (λx=>sS x.1) (λ_ _=>True):=⟨λ(x0,_)=>
  .ite (decide ((x0.length:Int)<28)) (.ret ((⟨0,0,0,0,0⟩:Arpm),false))<|
  .cal bL.c (x0,6,2,()) λc1=>
  .cal bL.c (x0,8,6,()) λc2=>
  .cal bL.c (x0,14,4,()) λc3=>
  .cal bL.c (x0,18,6,()) λc4=>
  .cal bL.c (x0,24,4,()) λc5=>
  .cal qC.c ((⟨c1.1,c2.1,c3.1,c4.1,c5.1⟩:Arpm),()) λc6=>
  .grd (decide (28≤(x0.length:Int)))<|
  .ite (!(c6==((x0.take 28).drop 0))) (.ret ((⟨0,0,0,0,0⟩:Arpm),false))<|
  .ret ((⟨c1.1,c2.1,c3.1,c4.1,c5.1⟩:Arpm),true),
 λ(x0,_) hp=>by
  refine Tr.I (λ_=>Tr.R trivial) λ_=>Tr.C ?_ λ_ _ _=>Tr.C ?_ λ_ _ _=>Tr.C ?_ λ_ _ _=>Tr.C ?_ λ_ _ _=>Tr.C ?_ λ_ _ _=>Tr.C trivial λ_ _ _=>Tr.G1 ?_ λ_=>Tr.F (by kernel_rfl) trivial
  all_goals (grind)⟩
noncomputable def Tn:=bf st Tryz.func233 [pq,xT] (ks:=[.sc .str]) tV (λv=>[(true,Jv v.1),(false,[.c (.bool v.2)])])
noncomputable def sR:FT (Tabl×Tabl×Unit) (Bool) (λx=>bu x.1∧bu x.2.1) (λ_ _=>True):=⟨λ(x0,x1,_)=>
  .cal dI.c (x0.conns,x1.conns,()) λc1=>
  .ite c1 (.cal oM.c (x0.waiting,x1.waiting,()) λc2=>
   .ret c2)<|
  .ret false,
 λ(x0,x1,_) hp=>by
  refine Tr.C ?_ λ_ _ _=>Tr.I (λ_=>Tr.C ?_ λ_ _ _=>Tr.R trivial) λ_=>Tr.R trivial
  all_goals (grind)⟩
noncomputable def MB:=bf st Tryz.func243 [px,Gx] (ks:=[.st .tabl,.st .tabl]) sR (λv=>[(false,[.c (.bool v)])])
noncomputable def Fm:=[Re,VI,Ta,Vn]
def mC:Sh:=⟨[zs 2,zp 7 0,zi 8,zi 9],[.box [.st .sipr []]]⟩
noncomputable def Fq:Fx:=⟨281,Tryz.f281,[(0,lb [2,7,8,9] [2,6,7,8,9])],0⟩
noncomputable def j6 (v0:ac)(v1:Int)(a:Int×Sipr):Tr (Stp (Int×Sipr) ((Int×Sipr))):=
 .ite (decide ((IntKind.wrap .i64 (a.1+8))≤v1)) (.grd (((decide (0≤a.1))&&(decide (a.1≤(IntKind.wrap .i64 (a.1+8)))))&&(decide ((IntKind.wrap .i64 (a.1+8))≤(v0.length:Int))))<|
  .cal rm.c (((v0.take ((IntKind.wrap .i64 (a.1+8)).toNat)).drop a.1.toNat),()) λc2=>
  .cal ue.c (a.2,c2,()) λc3=>
  .ret (.next ((IntKind.wrap .i64 (a.1+8)),c3)))<|
 .ret (.out (a.1,a.2))
noncomputable def gm:mC.V→LW mC (Int×Sipr) ((Int×Sipr)):=λ(v0,v1,v2,v3,_)=>⟨(v2,v3),λa=>(v0,v1,a.1,a.2,()),j6 v0 v1,Int.toNat (v1-v2),λ_ k p=>k (.exit 0) (Sh.enc ⟨[zs 2,zu 6,zp 7 0,zi 8,zi 9],[.box [.st .sipr []]]⟩ (v0,v1,p.1,p.2,()))⟩
theorem KW:LS Tryz.prog Fq [0] (DJ 0 mC gm):=uf st (aj Fm) _ gm [] trivial
theorem KK {v0:ac}{v1 v2:Int}{v3:Sipr}(h0:v1=(v0.length:Int))(h1:sS v0)(h2:0≤v2∧v2≤v1):(gm (v0,v1,v2,v3,())).W (λp=>0≤p.1∧p.1≤v0.length):=
 LW.okW (a:=(v2,v3)) (λa=>0≤a.1∧a.1≤v1) (λa=>Int.toNat (v1-a.1)) rfl h2 λ(v2,v3) hv=>by
  refine Tr.I (λ_=>Tr.G3 ?_ λ_=>Tr.C ?_ λ_ _ _=>Tr.C trivial λ_ _ _=>Tr.Rn ?_) λ_=>Tr.Ro ?_
  all_goals (grind)
noncomputable def yC:FT (Int×Int×ac×Unit) (Int) (λx=>sS x.2.2.1) (λ_ _=>True):=⟨λ(x0,x1,x2,_)=>
  .val (vh.f (x0,x1,())) λc1=>
  .lp (gm (x2,(x2.length:Int),0,c1,())).lp λ(p4a0,p4a1)=>
  .grd (((decide (0≤p4a0))&&(decide (p4a0≤(x2.length:Int))))&&(decide ((x2.length:Int)≤(x2.length:Int))))<|
  .cal rm.c (((x2.take ((x2.length:Int).toNat)).drop p4a0.toNat),()) λc5=>
  .val (IntKind.wrap .u64 ((IntKind.wrap .u64 ((x2.length:Int).tmod 256))*72057594037927936)) λe6=>
  .cal ue.c (p4a1,(bits .or .u64 c5 e6),()) λc7=>
  .cal Cq.c (c7,()) λc8=>
  .ret c8,
 λ(x0,x1,x2,_) hp=>by
  refine Tr.V λ_ _=>Tr.L (KK ?_ ?_ ?_) (λa=>Empty.elim a) (λ(p4a0,p4a1) _=>Tr.G3 ?_ λ_=>Tr.C ?_ λ_ _ _=>Tr.V λ_ _=>Tr.C trivial λ_ _ _=>Tr.C trivial λ_ _ _=>Tr.R trivial)
  all_goals ((try simp only[gm,LW.lp,LW.cw,Cw.lp]at*)<;>grind)⟩
noncomputable def TM:=aV st Fq Fm [(DJ 0 mC gm)] (ks:=[.sc (.int .u64),.sc (.int .u64),.sc .str]) yC (λv=>[(false,[.c (.int .u64 v)])]) Tryz.func281 ⟨KW,trivial⟩
noncomputable def Td:=[uO,jM,yz,nG,uz,Lf,SL]
noncomputable def RG:Fx:=⟨294,Tryz.f294,[(3000001,rA 0 17)],0⟩
noncomputable def um:FT (Conn×Segm×Unit) (Int) (λx=>ai x.1∧ao x.2.1) (λ_ _=>True):=⟨λ(x0,x1,_)=>
  .bnd (β:=Bool×Unit) (.cal bV.c (x0,()) λc1=>
   .ite (!c1) (.ret (true,()))<|
   .ite (x0.state==8) (.ret (true,()))<|
   .cal ak.c (x1,()) λc2=>
   .ret ((!c2),())) λ(u3a0,_)=>
  .ite u3a0 (.ret 1)<|
  .val (bB.f (x1,4,())) λc4=>
  .ite c4 (.ite (x1.seq==x0.r.next) (.ret 2)<|
   .cal ce.c (x0.r,()) λc5=>
   .val (nY.f (x1.seq,x0.r.next,c5,())) λc6=>
   .ite c6 (.ret 3)<|
   .ret 1)<|
  .val (bB.f (x1,2,())) λc7=>
  .ite c7 (.ret 3)<|
  .cal pQ.c (x0,x1,()) λc8=>
  .ite (!c8) (.ret 4)<|
  .val (bB.f (x1,16,())) λc9=>
  .ite (!c9) (.ret 1)<|
  .cal yM.c (x0,x1.ack,()) λc10=>
  .ite (!c10) (.ret 3)<|
  .ret 5,
 λ(x0,x1,_) hp=>by
  refine Tr.B (Q':=λw=>(w.1=false→SO x0.s∧RO x0.r∧x1.body.length≤1420)) (Tr.C ?_ λ_ _ _=>Tr.I (λ_=>Tr.R ?_) λ_=>Tr.I (λ_=>Tr.R ?_) λ_=>Tr.C trivial λ_ _ _=>Tr.R ?_) (λ(u3a0,_) _ _=>Tr.I (λ_=>Tr.R trivial) λ_=>Tr.V λ_ _=>Tr.I (λ_=>Tr.I (λ_=>Tr.R trivial) λ_=>Tr.C ?_ λ_ _ _=>Tr.F (by kernel_rfl) trivial) λ_=>Tr.V λ_ _=>Tr.I (λ_=>Tr.R trivial) λ_=>Tr.C ?_ λ_ _ _=>Tr.I (λ_=>Tr.R trivial) λ_=>Tr.V λ_ _=>Tr.I (λ_=>Tr.R trivial) λ_=>Tr.C ?_ λ_ _ _=>Tr.F (by kernel_rfl) trivial)
  all_goals ((try simp only[Tr.nice,bo]at*)<;>grind)⟩
noncomputable def FI:=aV st RG Td [] (ks:=[.st .conn,.st .segm]) um (λv=>[(false,[.c (.int .i64 v)])]) Tryz.func294 trivial
noncomputable def Y6:=[FI,ia,XM,Kn,rp,yz,T1,WL]
def zo:An:=⟨⟨[],[],false,0⟩,⟨[2,3,4,5],[],false,0⟩,⟨[],[]⟩,[(.normal,⟨[zp 2 0,zp 3 1,zp 4 2,zp 5 3],[.box [.st .conn [.sl .arg]],.box [.st .segm []],.box [.st .conn [.nil .piec]],.box [.st .conn [.own 4]],.of false true]⟩)]⟩
noncomputable def Ye:Fx:=⟨296,Tryz.f296,[(1000024,zo),(3000009,rA 0 54),(3000014,rA 0 73)],0⟩
noncomputable def CM:FT (Conn×Segm×Unit) (Conn) (λx=>ai x.1∧ao x.2.1) (λx v=>ai v):=⟨λ(x0,x1,_)=>
  .cal um.c (x0,x1,()) λc1=>
  .ite (c1 != 5) (.cal d7.c (x0,()) λc2=>
   .ret c2)<|
  .cal d7.c (x0,()) λc3=>
  .cal HY.c (x0.s,x1.ack,()) λc4=>
  .bnd (β:=WT zo.es) (.ite c4.2 (.cal xp.c (x1.window,x0.opts,()) λc5=>
    .bnd (β:=Bool×Unit) (.ite (c4.1.una != x0.s.una) (.ret ((x0.state != 7),()))<|
     .cal cZ.c (c4.1,()) λc6=>
     .ite (c6==0) (.ret ((x0.state != 7),()))<|
     .ret (false,())) λ(u7a0,_)=>
    .ite u7a0 (.cal cZ.c (c4.1,()) λc8=>
     .ite (decide (0<c8)) (.ret (x0,x1,(⟨⟨0,0,0⟩,0,⟨0,[],0,false,false,false⟩,⟨0,[],[],0,false⟩,0,0,⟨0,0,false,false,0,0⟩,0,0⟩:Conn),(⟨c3.tuple,c3.state,c4.1,c3.r,c5,(if c3.most<c5 then c5 else c3.most),c3.opts,3,0⟩:Conn),()))<|
     .ret (x0,x1,(⟨⟨0,0,0⟩,0,⟨0,[],0,false,false,false⟩,⟨0,[],[],0,false⟩,0,0,⟨0,0,false,false,0,0⟩,0,0⟩:Conn),(⟨c3.tuple,c3.state,c4.1,c3.r,c5,(if c3.most<c5 then c5 else c3.most),c3.opts,0,0⟩:Conn),()))<|
    .ret (x0,x1,(⟨⟨0,0,0⟩,0,⟨0,[],0,false,false,false⟩,⟨0,[],[],0,false⟩,0,0,⟨0,0,false,false,0,0⟩,0,0⟩:Conn),(⟨c3.tuple,c3.state,c4.1,c3.r,c5,(if c3.most<c5 then c5 else c3.most),c3.opts,c3.timer,c3.tries⟩:Conn),()))<|
   .ret (x0,x1,(⟨⟨0,0,0⟩,0,⟨0,[],0,false,false,false⟩,⟨0,[],[],0,false⟩,0,0,⟨0,0,false,false,0,0⟩,0,0⟩:Conn),c3,())) λ(u9a0,u9a1,_,u9a3,_)=>
  .bnd (β:=Bool×Unit) (.ite (u9a0.state==1) (.ret (true,()))<|
   .ite (u9a0.state==2) (.ret (true,()))<|
   .ret ((u9a0.state==3),())) λ(u10a0,_)=>
  .ite u10a0 (.val (bB.f (u9a1,1,())) λc11=>
   .cal t6.c (u9a0.r,u9a1.seq,u9a1.body,c11,()) λc12=>
   .cal rG.c (({u9a3 with r.next:=c12.next,r.data:=c12.data,r.held:=c12.held,r.fin:=c12.fin,r.done:=c12.done}:Conn),()) λc13=>
   .ret c13)<|
  .cal rG.c (u9a3,()) λc14=>
  .ret c14,
 λ(x0,x1,_) hp=>by
  refine Tr.C ?_ λ_ _ _=>Tr.I (λ_=>Tr.C ?_ λ_ _ _=>Tr.R ?_) λ_=>Tr.C ?_ λ_ _ _=>Tr.C ?_ λ_ _ _=>Tr.B (Q':=λw=>ai w.1∧ao w.2.1∧ai w.2.2.1∧ai w.2.2.2.1) (Tr.I (λ_=>Tr.C trivial λ_ _ _=>Tr.B (Q':=λ_=>True) (Tr.I (λ_=>Tr.R trivial) λ_=>Tr.C ?_ λ_ _ _=>Tr.F (by kernel_rfl) trivial) (λ(u7a0,_) _ _=>Tr.I (λ_=>Tr.C ?_ λ_ _ _=>Tr.I (λ_=>Tr.R ?_) λ_=>Tr.R ?_) λ_=>Tr.R ?_)) λ_=>Tr.R ?_) (λ(u9a0,u9a1,u9a2,u9a3,_) _ _=>Tr.B (Q':=λ_=>True) (Tr.F (by kernel_rfl) trivial) (λ(u10a0,_) _ _=>Tr.I (λ_=>Tr.V λ_ _=>Tr.C ?_ λ_ _ _=>Tr.C ?_ λ_ _ _=>Tr.R ?_) λ_=>Tr.C ?_ λ_ _ _=>Tr.R ?_))
  all_goals ((try simp only[Tr.nice,bo]at*)<;>grind)⟩
noncomputable def Yl:=aV st Ye Y6 [] (ks:=[.st .conn,.st .segm]) CM (λv=>[(true,jP (.o true) v)]) Tryz.func296 trivial
noncomputable def ug:FT (Tabl×Conn×Limi×Unit) (Tabl×Bool) (λx=>bu x.1∧ai x.2.1) (λx v=>bu v.1∧v.1.conns.length≤max x.1.conns.length 16∧v.1.waiting.length≤max x.1.waiting.length 16):=⟨λ(x0,x1,x2,_)=>
  .cal mh.c (x0,()) λc1=>
  .cal ez.c (x1,()) λc2=>
  .grd (Nat.ble ((2*(c1.conns.length+1)+1024)*208) aF)<|
  .grd (Nat.ble ((2*(c1.waiting.length+1)+1024)*24) aF)<|
  .cal tz.c ((⟨(c1.conns++[c2]),(c1.waiting++[x1.tuple])⟩:Tabl),x2,()) λc3=>
  .ite (!c3) (.cal mh.c (x0,()) λc4=>
   .ret (c4,false))<|
  .ret ((⟨(c1.conns++[c2]),(c1.waiting++[x1.tuple])⟩:Tabl),true),
 λ(x0,x1,x2,_) hp=>by
  refine Tr.C ?_ λ_ _ _=>Tr.C ?_ λ_ _ _=>Tr.Gb ?_ λ_=>Tr.Gb ?_ λ_=>Tr.C ?_ λ_ _ _=>Tr.I (λ_=>Tr.C ?_ λ_ _ _=>Tr.R ?_) λ_=>Tr.R ?_
  all_goals (grind)⟩
noncomputable def Fc:=bf st Tryz.func375 [sj,eY,Ga] (ks:=[.st .tabl,.st .conn,.st .limi]) ug (λv=>[(true,uy (.o true) (.o true) v.1),(false,[.c (.bool v.2)])])
noncomputable def Sf:=[jb,k7,yJ,kT,u5,Ju,UW]
noncomputable def RL:Fx:=⟨399,Tryz.f399,[(3000001,rA 0 5),(3000003,rA 0 19),(3000005,rA 0 30)],0⟩
noncomputable def tX:FT (Conn×Segm×Unit) (Int) (λx=>ai x.1∧ao x.2.1) (λ_ _=>True):=⟨λ(x0,x1,_)=>
  .bnd (β:=Bool×Unit) (.cal jC.c (x0,()) λc1=>
   .ite (!c1) (.ret (true,()))<|
   .ite (x0.state==8) (.ret (true,()))<|
   .cal iP.c (x1,()) λc2=>
   .ret ((!c2),())) λ(u3a0,_)=>
  .ite u3a0 (.ret 1)<|
  .bnd (β:=Bool×Unit) (.val (ic.f (x1,4,())) λc4=>
   .ite c4 (.ret ((x1.seq==x0.r.next),()))<|
   .ret (false,())) λ(u5a0,_)=>
  .ite u5a0 (.ret 2)<|
  .bnd (β:=Bool×Unit) (.val (ic.f (x1,4,())) λc6=>
   .ite c6 (.cal gZ.c (x0.r,()) λc7=>
    .val (n3.f (x1.seq,x0.r.next,c7,())) λc8=>
    .ret (c8,()))<|
   .ret (false,())) λ(u9a0,_)=>
  .ite u9a0 (.ret 3)<|
  .val (ic.f (x1,4,())) λc10=>
  .ite c10 (.ret 1)<|
  .val (ic.f (x1,2,())) λc11=>
  .ite c11 (.ret 3)<|
  .cal qi.c (x0,x1,()) λc12=>
  .ite (!c12) (.ret 4)<|
  .val (ic.f (x1,16,())) λc13=>
  .ite (!c13) (.ret 1)<|
  .cal yi.c (x0,x1.ack,()) λc14=>
  .ite (!c14) (.ret 3)<|
  .ret 5,
 λ(x0,x1,_) hp=>by
  refine Tr.B (Q':=λw=>(w.1=false→SO x0.s∧RO x0.r∧x1.body.length≤1420)) (Tr.C ?_ λ_ _ _=>Tr.I (λ_=>Tr.R ?_) λ_=>Tr.I (λ_=>Tr.R ?_) λ_=>Tr.C trivial λ_ _ _=>Tr.R ?_) (λ(u3a0,_) _ _=>Tr.I (λ_=>Tr.R trivial) λ_=>Tr.B (Q':=λ_=>True) (Tr.F (by kernel_rfl) trivial) (λ(u5a0,_) _ _=>Tr.I (λ_=>Tr.R trivial) λ_=>Tr.B (Q':=λ_=>True) (Tr.V λ_ _=>Tr.I (λ_=>Tr.C ?_ λ_ _ _=>Tr.F (by kernel_rfl) trivial) λ_=>Tr.R trivial) (λ(u9a0,_) _ _=>Tr.I (λ_=>Tr.R trivial) λ_=>Tr.V λ_ _=>Tr.I (λ_=>Tr.R trivial) λ_=>Tr.V λ_ _=>Tr.I (λ_=>Tr.R trivial) λ_=>Tr.C ?_ λ_ _ _=>Tr.I (λ_=>Tr.R trivial) λ_=>Tr.V λ_ _=>Tr.I (λ_=>Tr.R trivial) λ_=>Tr.C ?_ λ_ _ _=>Tr.F (by kernel_rfl) trivial)))
  all_goals ((try simp only[Tr.nice,bo]at*)<;>grind)⟩
noncomputable def EX:=aV st RL Sf [] (ks:=[.st .conn,.st .segm]) tX (λv=>[(false,[.c (.int .i64 v)])]) Tryz.func399 trivial
noncomputable def Y4:=[eY,EX,NZ,mf,od,je,cz,yJ,Fn,Wj]
def zr:An:=⟨⟨[],[],false,0⟩,⟨[2,3,4,5],[],false,0⟩,⟨[],[]⟩,[(.normal,⟨[zp 2 0,zp 3 1,zp 4 2,zp 5 3],[.box [.st .conn [.sl .arg]],.box [.st .segm []],.box [.st .conn [.nil .piec]],.box [.st .conn [.own 4]],.of false true]⟩)]⟩
noncomputable def Y1:Fx:=⟨400,Tryz.f400,[(1000024,zr),(3000010,rA 0 59)],0⟩
noncomputable def CF:FT (Conn×Segm×Unit) (Conn) (λx=>ai x.1∧ao x.2.1) (λx v=>ai v):=⟨λ(x0,x1,_)=>
  .cal ez.c (x0,()) λc1=>
  .cal tX.c (x0,x1,()) λc2=>
  .ite (c2 != 5) (.ret c1)<|
  .cal BH.c (x0.s,x1.ack,()) λc3=>
  .bnd (β:=WT zr.es) (.ite c3.2 (.val (fO.f (0,x0.opts.scale,())) λc4=>
    .grd (decide (0≤(IntKind.wrap .u64 c4)))<|
    .val (IntKind.wrap .i64 (x1.window*2 ^ (min (IntKind.wrap .u64 c4).toNat 64))) λe5=>
    .val (j1.f (1073725440,e5,())) λc6=>
    .val (fO.f (c1.most,c6,())) λc7=>
    .cal gS.c (c3.1,()) λc8=>
    .bnd (β:=Bool×Unit) (.ite (c3.1.una != x0.s.una) (.ret ((x0.state != 7),()))<|
     .ite (c8==0) (.ret ((x0.state != 7),()))<|
     .ret (false,())) λ(u9a0,_)=>
    .ite u9a0 (.ite (decide (0<c8)) (.ret (x0,x1,(⟨⟨0,0,0⟩,0,⟨0,[],0,false,false,false⟩,⟨0,[],[],0,false⟩,0,0,⟨0,0,false,false,0,0⟩,0,0⟩:Conn),(⟨c1.tuple,c1.state,c3.1,c1.r,c6,c7,c1.opts,3,0⟩:Conn),()))<|
     .ret (x0,x1,(⟨⟨0,0,0⟩,0,⟨0,[],0,false,false,false⟩,⟨0,[],[],0,false⟩,0,0,⟨0,0,false,false,0,0⟩,0,0⟩:Conn),(⟨c1.tuple,c1.state,c3.1,c1.r,c6,c7,c1.opts,0,0⟩:Conn),()))<|
    .ret (x0,x1,(⟨⟨0,0,0⟩,0,⟨0,[],0,false,false,false⟩,⟨0,[],[],0,false⟩,0,0,⟨0,0,false,false,0,0⟩,0,0⟩:Conn),(⟨c1.tuple,c1.state,c3.1,c1.r,c6,c7,c1.opts,c1.timer,c1.tries⟩:Conn),()))<|
   .ret (x0,x1,(⟨⟨0,0,0⟩,0,⟨0,[],0,false,false,false⟩,⟨0,[],[],0,false⟩,0,0,⟨0,0,false,false,0,0⟩,0,0⟩:Conn),c1,())) λ(u10a0,u10a1,_,u10a3,_)=>
  .val (cr.f (u10a0.state,1,3,())) λc11=>
  .ite c11 (.val (ic.f (u10a1,1,())) λc12=>
   .cal qB.c (u10a0.r,u10a1.seq,u10a1.body,c12,()) λc13=>
   .cal rj.c (({u10a3 with r.next:=c13.next,r.data:=c13.data,r.held:=c13.held,r.fin:=c13.fin,r.done:=c13.done}:Conn),()) λc14=>
   .ret c14)<|
  .cal rj.c (u10a3,()) λc15=>
  .ret c15,
 λ(x0,x1,_) hp=>by
  refine Tr.C ?_ λ_ _ _=>Tr.C ?_ λ_ _ _=>Tr.I (λ_=>Tr.R ?_) λ_=>Tr.C ?_ λ_ _ _=>Tr.B (Q':=λw=>ai w.1∧ao w.2.1∧ai w.2.2.1∧ai w.2.2.2.1) (Tr.I (λ_=>Tr.V λ_ _=>Tr.G1 ?_ λ_=>Tr.V λ_ _=>Tr.V λ_ _=>Tr.V λ_ _=>Tr.C ?_ λ_ _ _=>Tr.B (Q':=λ_=>True) (Tr.F (by kernel_rfl) trivial) (λ(u9a0,_) _ _=>Tr.I (λ_=>Tr.I (λ_=>Tr.R ?_) λ_=>Tr.R ?_) λ_=>Tr.R ?_)) λ_=>Tr.R ?_) (λ(u10a0,u10a1,u10a2,u10a3,_) _ _=>Tr.V λ_ _=>Tr.I (λ_=>Tr.V λ_ _=>Tr.C ?_ λ_ _ _=>Tr.C ?_ λ_ _ _=>Tr.R ?_) λ_=>Tr.C ?_ λ_ _ _=>Tr.R ?_)
  all_goals ((try simp only[Tr.nice,bo]at*)<;>grind)⟩
noncomputable def YD:=aV st Y1 Y4 [] (ks:=[.st .conn,.st .segm]) CF (λv=>[(true,jP (.o true) v)]) Tryz.func400 trivial
noncomputable def EG:=[Pr,Wg,R1,Wa]
def mM:Sh:=⟨[zs 2,zp 7 0,(8,false,[.sl .any .u8])],[.box [.st .sipr []]]⟩
noncomputable def FE:Fx:=⟨442,Tryz.f442,[(0,la ⟨[2,7,8],[.soft 8 0],false,0⟩ ⟨[2,6,7,8],[],false,0⟩)],0⟩
noncomputable def ne (a:List Int×Sipr):Tr (Stp (List Int×Sipr) ((List Int×Sipr))):=
 .ite (decide (8≤(a.1.length:Int))) (.cal rc.c (a.1,()) λc4=>
  .cal tu.c (a.2,c4,()) λc5=>
  .grd ((decide (8≤(a.1.length:Int)))&&(decide ((a.1.length:Int)≤(a.1.length:Int))))<|
  .ret (.next (((a.1.take ((a.1.length:Int).toNat)).drop 8),c5)))<|
 .ret (.out (a.1,a.2))
noncomputable def gg:mM.V→LW mM (List Int×Sipr) ((List Int×Sipr)):=λ(v0,v1,v2,_)=>⟨(v1,v2),λa=>(v0,a.1,a.2,()),ne,v1.length,λ_ k p=>k (.exit 0) (Sh.enc ⟨[zs 2,zu 6,zp 7 0,(8,false,[.sl .any .u8])],[.box [.st .sipr []]]⟩ (v0,p.1,p.2,()))⟩
theorem Jr:LS Tryz.prog FE [0] (DJ 0 mM gg):=uf st (aj EG) _ gg [] trivial
theorem Jz {v0:ac}{v1:List Int}{v2:Sipr}(h0:sS v1):(gg (v0,v1,v2,())).W (λp=>sS p.1):=
 LW.okW (a:=(v1,v2)) (λa=>sS a.1) (λa=>a.1.length) rfl h0 λ(v1,v2) hv=>by
  refine Tr.I (λ_=>Tr.C ?_ λ_ _ _=>Tr.C trivial λ_ _ _=>Tr.G2 ?_ λ_=>Tr.Rn ?_) λ_=>Tr.Ro ?_
  all_goals (grind)
noncomputable def ov:FT (Int×Int×ac×Unit) (Int) (λx=>sS x.2.2.1) (λ_ _=>True):=⟨λ(x0,x1,x2,_)=>
  .val (qR.f (x0,x1,())) λc1=>
  .grd (Nat.ble x2.length aF)<|
  .lp (gg (x2,(eA x2),c1,())).lp λ(p6a0,p6a1)=>
  .val ((p6a0.take (List.replicate 8 0).length)++(List.replicate 8 0).drop (p6a0.take (List.replicate 8 0).length).length) λl7=>
  .grd (decide (7<(l7.length:Int)))<|
  .cal rc.c ((l7.set 7 (IntKind.wrap .u8 (x2.length:Int))),()) λc8=>
  .cal tu.c (p6a1,c8,()) λc9=>
  .cal tJ.c (c9,()) λc10=>
  .ret c10,
 λ(x0,x1,x2,_) hp=>by
  refine Tr.V λ_ _=>Tr.Gb ?_ λ_=>Tr.L (Jz ?_) (λa=>Empty.elim a) (λ(p6a0,p6a1) _=>Tr.V λ_ _=>Tr.G1 ?_ λ_=>Tr.C ?_ λ_ _ _=>Tr.C trivial λ_ _ _=>Tr.C trivial λ_ _ _=>Tr.R trivial)
  all_goals ((try simp only[gg,LW.lp,LW.cw,Cw.lp]at*)<;>grind)⟩
noncomputable def RS:=aV st FE EG [(DJ 0 mM gg)] (ks:=[.sc (.int .u64),.sc (.int .u64),.sc .str]) ov (λv=>[(false,[.c (.int .u64 v)])]) Tryz.func442 ⟨Jr,trivial⟩
noncomputable def ij:=[I3]
def ci:Sh:=⟨[(0,false,[.sl .arg .conn]),(1,false,[.fn 189 [0]]),zi 7,zi 8],[.box [.st .tupl []]]⟩
noncomputable def ig:Fx:=⟨188,Tryz.f188,[(0,la ⟨[0,1,7,8],[],false,1⟩ ⟨[4],[],false,1⟩)],1⟩
noncomputable def gy (v0:List Conn)(v3:Tupl)(v2:Int)(a:Unit):Tr (Stp (Unit) ((Int))):=
 .grd ((decide (0≤v2))&&(decide (v2<(v0.length:Int))))<|
 .cal vd.c ((v0.getD v2.toNat (Ty.zero .conn)),v3,()) λc1=>
 .ite c1 (.ret (.out v2))<|
 .ret (.next ())
noncomputable def aZ:ci.V→LC ci (Unit) ((Int)) (((Int))⊕(Int×Unit)):=λ(v0,v1,v2,v3,_)=>⟨v2,(),λv2 _=>(v0,v1,v2,v3,()),λv2 _=>(decide (v2<v1)),gy v0 v3,up,1,(Int.toNat (v1-v2)),.inl,λi a=> .inr (i,a),λ_ k w=>Sum.elim (λp=>k .ret (Sh.enc ⟨[zi 4],[.box [.st .tupl []]]⟩ (p,v3,()))) (λ_=>k (.exit 0) (Sh.enc ⟨[zu 4],[.box [.st .tupl []]]⟩ (v3,()))) w⟩
theorem lO:LS Tryz.prog ig [0] (bR 0 ci aZ):=aW st (aj ij) _ aZ [] trivial
theorem lN {v0:List Conn}{v1 v2:Int}{v3:Tupl}(h0:0≤v2)(h1:v1≤4611686018427387904)(h2:v1≤(v0.length:Int)):(aZ (v0,v1,v2,v3,())).U v1 (λ_ _=>True) (λp=>v2≤p∧p<v1):=
 LC.okU (i:=v2) (a:=()) (λ_ _=>rfl) (λ_=>rfl) rfl h0 h1 trivial λv2 _ hj hk hv=>by
  refine Tr.G2 ?_ λ_=>Tr.C trivial λ_ _ _=>Tr.I (λ_=>Tr.Ro ?_) λ_=>Tr.Rn trivial
  all_goals (grind)
noncomputable def eZ:FT (List Conn×Tupl×Unit) (Int) (λx=>wS x.1) (λx v=> -1≤v∧v<x.1.length):=⟨λ(x0,y1_0,_)=>
  .lp (aZ (x0,(x0.length:Int),0,y1_0,())).lp λw2=> .sum w2 (λp2a0=>
  .ret p2a0)<|
  λ_=>
  .ret (-1),
 λ(x0,y1_0,_) hp=>by
  refine Tr.L (lN ?_ ?_ ?_) (λ_ _=>Tr.Sr (Tr.R ?_)) (λp2a0 _=>Tr.Sl (Tr.R ?_))
  all_goals ((try simp only[aZ,LC.lp,LC.ct,Ct.lp]at*)<;>grind)⟩
noncomputable def nR:=cJ st ig ij [(bR 0 ci aZ)] [.sc (.sl .conn),.fn 189 [0]] [.box [.st .tupl]] (λx y=>(x.1,y.1.1,())) eZ (λv=>[(false,[.c (.int .i64 v)])]) (λx y v=>((y.1.1,()),())) Tryz.func188 (by kernel_rfl) ⟨lO,trivial⟩
noncomputable def ii:=[Ks]
def cg:Sh:=⟨[(0,false,[.sl .arg .half]),(1,false,[.fn 299 [0]]),zi 7,zi 8],[.box [.st .tupl []]]⟩
noncomputable def ik:Fx:=⟨207,Tryz.f207,[(0,la ⟨[0,1,7,8],[],false,1⟩ ⟨[4],[],false,1⟩)],1⟩
noncomputable def gl (v0:List Half)(v3:Tupl)(v2:Int)(a:Unit):Tr (Stp (Unit) ((Int))):=
 .grd ((decide (0≤v2))&&(decide (v2<(v0.length:Int))))<|
 .cal vi.c ((v0.getD v2.toNat (Ty.zero .half)),v3,()) λc1=>
 .ite c1 (.ret (.out v2))<|
 .ret (.next ())
noncomputable def aY:cg.V→LC cg (Unit) ((Int)) (((Int))⊕(Int×Unit)):=λ(v0,v1,v2,v3,_)=>⟨v2,(),λv2 _=>(v0,v1,v2,v3,()),λv2 _=>(decide (v2<v1)),gl v0 v3,up,1,(Int.toNat (v1-v2)),.inl,λi a=> .inr (i,a),λ_ k w=>Sum.elim (λp=>k .ret (Sh.enc ⟨[zi 4],[.box [.st .tupl []]]⟩ (p,v3,()))) (λ_=>k (.exit 0) (Sh.enc ⟨[zu 4],[.box [.st .tupl []]]⟩ (v3,()))) w⟩
theorem lK:LS Tryz.prog ik [0] (bR 0 cg aY):=aW st (aj ii) _ aY [] trivial
theorem lR {v0:List Half}{v1 v2:Int}{v3:Tupl}(h0:0≤v2)(h1:v1≤4611686018427387904)(h2:v1≤(v0.length:Int)):(aY (v0,v1,v2,v3,())).U v1 (λ_ _=>True) (λp=>v2≤p∧p<v1):=
 LC.okU (i:=v2) (a:=()) (λ_ _=>rfl) (λ_=>rfl) rfl h0 h1 trivial λv2 _ hj hk hv=>by
  refine Tr.G2 ?_ λ_=>Tr.C trivial λ_ _ _=>Tr.I (λ_=>Tr.Ro ?_) λ_=>Tr.Rn trivial
  all_goals (grind)
noncomputable def eV:FT (List Half×Tupl×Unit) (Int) (λx=>wS x.1) (λx v=> -1≤v∧v<x.1.length):=⟨λ(x0,y1_0,_)=>
  .lp (aY (x0,(x0.length:Int),0,y1_0,())).lp λw2=> .sum w2 (λp2a0=>
  .ret p2a0)<|
  λ_=>
  .ret (-1),
 λ(x0,y1_0,_) hp=>by
  refine Tr.L (lR ?_ ?_ ?_) (λ_ _=>Tr.Sr (Tr.R ?_)) (λp2a0 _=>Tr.Sl (Tr.R ?_))
  all_goals ((try simp only[aY,LC.lp,LC.ct,Ct.lp]at*)<;>grind)⟩
noncomputable def nQ:=cJ st ik ii [(bR 0 cg aY)] [.sc (.sl .half),.fn 299 [0]] [.box [.st .tupl]] (λx y=>(x.1,y.1.1,())) eV (λv=>[(false,[.c (.int .i64 v)])]) (λx y v=>((y.1.1,()),())) Tryz.func207 (by kernel_rfl) ⟨lK,trivial⟩
noncomputable def Lz:=[bU,JP,Ga,Dc,cz,jm]
def oK:Sh:=⟨[zp 1 0,zi 3],[.box [.st .door [.sl .arg,.sl .arg,.sl .arg,.sl .arg,.sl .arg]]]⟩
noncomputable def KX:Fx:=⟨21,Tryz.f21,[(0,lb [1,3] [2]),(3000001,rA 0 51)],0⟩
noncomputable def zz (v1:Door)(v0:Int)(a:Unit):Tr (Stp (Unit) ((Unit))):=
 .grd ((decide (0≤v0))&&(decide (v0<(v1.halves.length:Int))))<|
 .cal fx.c (v1.table,(v1.halves.getD v0.toNat (Ty.zero .half)).tuple,()) λc8=>
 .ite (decide (0≤c8)) (.ret (.out ()))<|
 .ret (.next ())
noncomputable def gW:oK.V→LC oK (Unit) ((Unit)) (((Unit))⊕(Int×Unit)):=λ(v0,v1,_)=>⟨v0,(),λv0 _=>(v0,v1,()),λv0 _=>(decide (v0<(v1.halves.length:Int))),zz v1,up,1,(Int.toNat ((v1.halves.length:Int)-v0)),.inl,λi a=> .inr (i,a),λ_ k w=>Sum.elim (λ_=>k .ret (Sh.enc ⟨[zb 2],[]⟩ (false,()))) (λ_=>k (.exit 0) (Sh.enc ⟨[zu 2],[]⟩ ())) w⟩
theorem Ny:LS Tryz.prog KX [0] (bR 0 oK gW):=aW st (aj Lz) _ gW [] trivial
theorem NB {v0:Int}{v1:Door}(h0:0≤v0)(h1:(v1.halves.length:Int)≤4611686018427387904)(h2:aD v1):(gW (v0,v1,())).U (v1.halves.length:Int) (λ_ _=>True) (λ_=>True):=
 LC.okU (i:=v0) (a:=()) (λ_ _=>rfl) (λ_=>rfl) rfl h0 h1 trivial λv0 _ hj hk hv=>by
  refine Tr.G2 ?_ λ_=>Tr.C ?_ λ_ _ _=>Tr.Z (by kernel_rfl)
  all_goals (grind)
noncomputable def tC:FT (Door×Unit) (Bool) (λx=>aD x.1) (λx v=>(v=true→x.1.table.conns.length≤16)):=⟨λ(x0,_)=>
  .bnd (β:=Bool×Unit) (.cal aE.c (x0.port,16,()) λc1=>
   .ite (!c1) (.ret (true,()))<|
   .cal aE.c (x0.clock,32,()) λc2=>
   .ite (!c2) (.ret (true,()))<|
   .cal xu.c (x0.keys,()) λc3=>
   .ite (!c3) (.ret (true,()))<|
   .cal tz.c (x0.table,x0.limits,()) λc4=>
   .ite (!c4) (.ret (true,()))<|
   .cal n5.c (x0.halves,()) λc5=>
   .ite (!c5) (.ret (true,()))<|
   .ite (decide (x0.limits.halves<(x0.halves.length:Int))) (.ret (true,()))<|
   .val (cr.f (x0.chal,0,x0.limits.chal,())) λc6=>
   .ret ((!c6),())) λ(u7a0,_)=>
  .ite u7a0 (.ret false)<|
  .lp (gW (0,x0,())).lp λw9=> .sum w9 (λ_=>
  .ret false)<|
  λ_=>
  .ret true,
 λ(x0,_) hp=>by
  refine Tr.B (Q':=λw=>(w.1=false→0≤x0.keys.epoch∧x0.keys.epoch≤4294967295∧x0.table.conns.length≤16∧x0.table.waiting.length≤16∧x0.halves.length≤64)) (Tr.C trivial λ_ _ _=>Tr.I (λ_=>Tr.R ?_) λ_=>Tr.C trivial λ_ _ _=>Tr.I (λ_=>Tr.R ?_) λ_=>Tr.C ?_ λ_ _ _=>Tr.I (λ_=>Tr.R ?_) λ_=>Tr.C ?_ λ_ _ _=>Tr.I (λ_=>Tr.R ?_) λ_=>Tr.C ?_ λ_ _ _=>Tr.I (λ_=>Tr.R ?_) λ_=>Tr.I (λ_=>Tr.R ?_) λ_=>Tr.V λ_ _=>Tr.R ?_) (λ(u7a0,_) _ _=>Tr.I (λ_=>Tr.R ?_) λ_=>Tr.L (NB ?_ ?_ ?_) (λ_ _=>Tr.Sr (Tr.R ?_)) (λ_ _=>Tr.Sl (Tr.R ?_)))
  all_goals ((try simp only[gW,LC.lp,LC.ct,Ct.lp,Tr.nice,bo]at*)<;>grind)⟩
noncomputable def zV:=aV st KX Lz [(bR 0 oK gW)] (ks:=[.st .door]) tC (λv=>[(false,[.c (.bool v)])]) Tryz.func21 ⟨Ny,trivial⟩
noncomputable def aK:FT (Tabl×Tupl×Unit) (Int) (λx=>wS x.1.conns) (λx v=> -1≤v∧v<x.1.conns.length):=⟨λ(x0,x1,_)=>
  .cal eZ.c (x0.conns,x1,()) λc1=>
  .ret c1,
 λ(x0,x1,_) hp=>by
  refine Tr.C ?_ λ_ _ _=>Tr.R ?_
  all_goals (grind)⟩
noncomputable def kA:=bf st Tryz.func80 [nR] (ks:=[.st .tabl,.st .tupl]) aK (λv=>[(false,[.c (.int .i64 v)])])
noncomputable def xx:=[QZ,uO,kA,Hv]
def mJ:Sh:=⟨[zp 2 0,(29,false,[.sl .arg .conn]),zi 30,zi 31],[.box [.st .tabl [.sl .arg,.sl .arg]]]⟩
def mB:Sh:=⟨[zp 2 0,(49,false,[.sl .arg .tupl]),zi 50,zi 51],[.box [.st .tabl [.sl .arg,.sl .arg]]]⟩
noncomputable def xK:Fx:=⟨102,Tryz.f102,[(0,lb [2,29,30,31] [2,4]),(2,lb [2,49,50,51] [4]),(3000001,rA 0 27)],0⟩
noncomputable def eX (v0:List Conn)(v3:Tabl)(v2:Int)(a:Unit):Tr (Stp (Unit) ((Unit))):=
 .grd ((decide (0≤v2))&&(decide (v2<(v0.length:Int))))<|
 .cal bV.c ((v0.getD v2.toNat (Ty.zero .conn)),()) λc3=>
 .ite (!c3) (.ret (.out ()))<|
 .cal aK.c (v3,(v0.getD v2.toNat (Ty.zero .conn)).tuple,()) λc4=>
 .ite (c4 != v2) (.ret (.out ()))<|
 .ret (.next ())
noncomputable def eJ:mJ.V→LC mJ (Unit) ((Unit)) (((Unit))⊕(Int×Unit)):=λ(v0,v1,v2,v3,_)=>⟨v2,(),λv2 _=>(v0,v1,v2,v3,()),λv2 _=>(decide (v2<v1)),eX v0 v3,up,1,(Int.toNat (v1-v2)),.inl,λi a=> .inr (i,a),λ_ k w=>Sum.elim (λ_=>k .ret (Sh.enc ⟨[zp 2 0,zb 4],[.box [.st .tabl [.sl .arg,.sl .arg]]]⟩ (false,v3,()))) (λ_=>k (.exit 0) (Sh.enc ⟨[zp 2 0,zu 4],[.box [.st .tabl [.sl .arg,.sl .arg]]]⟩ (v3,()))) w⟩
theorem H9:LS Tryz.prog xK [0] (bR 0 mJ eJ):=aW st (aj xx) _ eJ [] trivial
theorem Lm {v0:List Conn}{v1 v2:Int}{v3:Tabl}(h0:0≤v2)(h1:v1≤4611686018427387904)(h2:sL ai v0)(h3:bu v3)(h4:v1≤(v0.length:Int)):(eJ (v0,v1,v2,v3,())).U v1 (λ_ _=>True) (λ_=>True):=
 LC.okU (i:=v2) (a:=()) (λ_ _=>rfl) (λ_=>rfl) rfl h0 h1 trivial λv2 _ hj hk hv=>by
  refine Tr.G2 ?_ λ_=>Tr.C ?_ λ_ _ _=>Tr.I (λ_=>Tr.Ro trivial) λ_=>Tr.C ?_ λ_ _ _=>Tr.Z (by kernel_rfl)
  all_goals (grind)
noncomputable def eP (v0:List Tupl)(v3:Tabl)(v2:Int)(a:Unit):Tr (Stp (Unit) ((Unit))):=
 .grd ((decide (0≤v2))&&(decide (v2<(v0.length:Int))))<|
 .cal aK.c (v3,(v0.getD v2.toNat (Ty.zero .tupl)),()) λc6=>
 .ite (decide (c6<0)) (.ret (.out ()))<|
 .cal oU.c (v3.waiting,(v0.getD v2.toNat (Ty.zero .tupl)),()) λc7=>
 .ite (c7 != v2) (.ret (.out ()))<|
 .ret (.next ())
noncomputable def eU:mB.V→LC mB (Unit) ((Unit)) (((Unit))⊕(Int×Unit)):=λ(v0,v1,v2,v3,_)=>⟨v2,(),λv2 _=>(v0,v1,v2,v3,()),λv2 _=>(decide (v2<v1)),eP v0 v3,up,1,(Int.toNat (v1-v2)),.inl,λi a=> .inr (i,a),λ_ k w=>Sum.elim (λ_=>k .ret (Sh.enc ⟨[zb 4],[]⟩ (false,()))) (λ_=>k (.exit 2) (Sh.enc ⟨[zu 4],[]⟩ ())) w⟩
theorem J3:LS Tryz.prog xK [1] (bR 2 mB eU):=aW st (aj xx) _ eU [] trivial
theorem Lj {v0:List Tupl}{v1 v2:Int}{v3:Tabl}(h0:0≤v2)(h1:v1≤4611686018427387904)(h2:sS v0)(h3:bu v3)(h4:v1≤(v0.length:Int)):(eU (v0,v1,v2,v3,())).U v1 (λ_ _=>True) (λ_=>True):=
 LC.okU (i:=v2) (a:=()) (λ_ _=>rfl) (λ_=>rfl) rfl h0 h1 trivial λv2 _ hj hk hv=>by
  refine Tr.G2 ?_ λ_=>Tr.C ?_ λ_ _ _=>Tr.I (λ_=>Tr.Ro trivial) λ_=>Tr.C ?_ λ_ _ _=>Tr.Z (by kernel_rfl)
  all_goals (grind)
noncomputable def dE:FT (Tabl×Limi×Unit) (Bool) (λx=>wS x.1.conns∧eb ai x.1.conns∧wS x.1.waiting) (λx v=>(v=true→x.1.conns.length≤16∧x.1.waiting.length≤16)):=⟨λ(x0,x1,_)=>
  .bnd (β:=Bool×Unit) (.cal gz.c (x1,()) λc1=>
   .ite (!c1) (.ret (true,()))<|
   .ite (decide (x1.conns<(x0.conns.length:Int))) (.ret (true,()))<|
   .ret ((decide (x1.waiting<(x0.waiting.length:Int))),())) λ(u2a0,_)=>
  .ite u2a0 (.ret false)<|
  .lp (eJ (x0.conns,(x0.conns.length:Int),0,x0,())).lp λw5=> .sum w5 (λ_=>
  .ret false)<|
  λ_=>
  .lp (eU (x0.waiting,(x0.waiting.length:Int),0,x0,())).lp λw8=> .sum w8 (λ_=>
  .ret false)<|
  λ_=>
  .ret true,
 λ(x0,x1,_) hp=>by
  refine Tr.B (Q':=λw=>(w.1=false→x1.halves≤64∧x1.waiting≤16∧x1.conns≤16)) (Tr.C trivial λ_ _ _=>Tr.I (λ_=>Tr.R ?_) λ_=>Tr.I (λ_=>Tr.R ?_) λ_=>Tr.R ?_) (λ(u2a0,_) _ _=>Tr.I (λ_=>Tr.R ?_) λ_=>Tr.L (Lm ?_ ?_ ?_ ?_ ?_) (λ_ _=>Tr.Sr (Tr.L (Lj ?_ ?_ ?_ ?_ ?_) (λ_ _=>Tr.Sr (Tr.R ?_)) (λ_ _=>Tr.Sl (Tr.R ?_)))) (λ_ _=>Tr.Sl (Tr.R ?_)))
  all_goals ((try simp only[eJ,eU,LC.lp,LC.ct,Ct.lp,Tr.nice,bo]at*)<;>grind)⟩
noncomputable def ER:=aV st xK xx [(bR 0 mJ eJ),(bR 2 mB eU)] (ks:=[.st .tabl,.st .limi]) dE (λv=>[(false,[.c (.bool v)])]) Tryz.func102 ⟨H9,J3,trivial⟩
noncomputable def Vy:=[zL,MQ,Ao,XP,SD,S2,Qm,Sw,zN,L9]
noncomputable def WO:Fx:=⟨109,Tryz.f109,[(3000003,rA 0 37),(3000008,rA 0 58),(3000016,rA 0 117)],0⟩
noncomputable def bH:FT (Link×ac×Unit) (Link×Int×Pack×ac) (λx=>dH x.1∧sS x.2.1) (λx v=>dH v.1∧kN v.2.2.1∧sS v.2.2.2∧v.2.2.1.body.length≤1500):=⟨λ(x0,x1,_)=>
  .cal lZ.c (x0,()) λc1=>
  .cal pi.c (x1,()) λc2=>
  .bnd (β:=Bool×Unit) (.cal dP.c (x0,()) λc3=>
   .ite (!c3) (.ret (true,()))<|
   .ite (!c2.2) (.ret (true,()))<|
   .val (sA.f (c2.1,x0.mac,())) λc4=>
   .ret ((!c4),())) λ(u5a0,_)=>
  .ite u5a0 (.ret (c1,0,(⟨0,0,0,0,0,[]⟩:Pack),[]))<|
  .ite (c2.1.type==2054) (.cal tK.c (c2.1.body,()) λc6=>
   .bnd (β:=Bool×Unit) (.ite (!c6.2) (.ret (true,()))<|
    .ret ((c6.1.dstIp != x0.ip),())) λ(u7a0,_)=>
   .ite u7a0 (.ret (c1,0,(⟨0,0,0,0,0,[]⟩:Pack),[]))<|
   .cal tq.c (x0.cache,c6.1.srcIp,c6.1.srcHw,()) λc8=>
   .cal oa.c (c6.1,x0.mac,x0.ip,()) λc9=>
   .ite c9.2 (.cal kw.c (c9.1,()) λc10=>
    .cal dB.c ((⟨c6.1.srcHw,x0.mac,2054,c10⟩:Fram),()) λc11=>
    .ret (({c1 with cache:=c8}:Link),1,(⟨0,0,0,0,0,[]⟩:Pack),c11))<|
   .ret (({c1 with cache:=c8}:Link),0,(⟨0,0,0,0,0,[]⟩:Pack),[]))<|
  .ite (c2.1.type==2048) (.cal nP.c (c2.1.body,()) λc12=>
   .bnd (β:=Bool×Unit) (.ite (c12.2 != 0) (.ret (true,()))<|
    .ite (c12.1.dst != x0.ip) (.ret (true,()))<|
    .ite (c12.1.proto != 6) (.ret (true,()))<|
    .ret ((c12.1.src==x0.ip),())) λ(u13a0,_)=>
   .ite u13a0 (.ret (c1,0,(⟨0,0,0,0,0,[]⟩:Pack),[]))<|
   .cal tq.c (x0.cache,c12.1.src,c2.1.src,()) λc14=>
   .ret (({c1 with cache:=c14}:Link),2,c12.1,[]))<|
  .ret (c1,0,(⟨0,0,0,0,0,[]⟩:Pack),[]),
 λ(x0,x1,_) hp=>by
  refine Tr.C ?_ λ_ _ _=>Tr.C ?_ λ_ _ _=>Tr.B (Q':=λ_=>True) (Tr.C ?_ λ_ _ _=>Tr.F (by kernel_rfl) trivial) (λ(u5a0,_) _ _=>Tr.I (λ_=>Tr.R ?_) λ_=>Tr.I (λ_=>Tr.C ?_ λ_ _ _=>Tr.B (Q':=λ_=>True) (Tr.F (by kernel_rfl) trivial) (λ(u7a0,_) _ _=>Tr.I (λ_=>Tr.R ?_) λ_=>Tr.C ?_ λ_ _ _=>Tr.C trivial λ_ _ _=>Tr.I (λ_=>Tr.C trivial λ_ _ _=>Tr.C ?_ λ_ _ _=>Tr.R ?_) λ_=>Tr.R ?_)) λ_=>Tr.I (λ_=>Tr.C ?_ λ_ _ _=>Tr.B (Q':=λ_=>True) (Tr.F (by kernel_rfl) trivial) (λ(u13a0,_) _ _=>Tr.I (λ_=>Tr.R ?_) λ_=>Tr.C ?_ λ_ _ _=>Tr.R ?_)) λ_=>Tr.R ?_)
  all_goals ((try simp only[Tr.nice,bo]at*)<;>grind)⟩
noncomputable def Vw:=aV st WO Vy [] (ks:=[.st .link,.sc .str]) bH (λv=>[(true,z5 (.o true) v.1),(false,[.c (.int .i64 v.2.1)]),(true,D1 v.2.2.1),(false,[.c (.str v.2.2.2)])]) Tryz.func109 trivial
noncomputable def F6:=[Ht,Tp]
def nu:Sh:=⟨[zi 1,zp 3 0,(7,false,[.own 1]),(14,false,[.sl .arg .segm]),zi 15,zi 16],[.box [.st .stac [.sl .arg,.sl .arg,.sl .arg,.sl .arg,.sl .arg,.sl .arg]],.arr .str false true]⟩
noncomputable def FK:Fx:=⟨111,Tryz.f111,[(0,lb [1,3,7,14,15,16] [6,7])],0⟩
noncomputable def xH (v0:Int)(v1:List Segm)(v4:Stac)(v3:Int)(a:List ac):Tr (Stp (List ac) (Empty)):=
 .grd ((decide (0≤v3))&&(decide (v3<(v1.length:Int))))<|
 .cal ba.c ((v1.getD v3.toNat (Ty.zero .segm)),v4.link.ip,v0,()) λc1=>
 .ite (c1==[]) (.ret (.next a))<|
 .cal gF.c (v4.link,v0,c1,()) λc2=>
 .ite c2.2 (.grd (Nat.ble ((2*(a.length+1)+1024)*16) aF)<|
  .ret (.next (a++[c2.1])))<|
 .ret (.next a)
noncomputable def gi:nu.V→LC nu (List ac) (Empty) (Int×(List ac)):=λ(v0,v1,v2,v3,v4,v5,_)=>⟨v3,v5,λv3 a=>(v0,v1,v2,v3,v4,a,()),λv3 _=>(decide (v3<v2)),xH v0 v1 v4,up,1,(Int.toNat (v2-v3)),(λp=>Empty.elim p),λi a=>(i,a),λ_ k x=>k (.exit 0) (Sh.enc ⟨[zu 6,(7,false,[.own 0])],[.arr .str false true]⟩ (x.2,()))⟩
theorem Jy:LS Tryz.prog FK [0] (bR 0 nu gi):=aW st (aj F6) _ gi [] trivial
theorem J6 {v0 v2 v3:Int}{v1:List Segm}{v4:Stac}{v5:List ac}(h0:0≤v3)(h1:v2≤4611686018427387904)(h2:sL ao v1)(h3:cU v4)(h4:v2≤4294967296)(h5:v2≤(v1.length:Int))(h6:(v5.length:Int)≤v3∧eb sS v5):(gi (v0,v1,v2,v3,v4,v5,())).U v2 (λv3 a=>(a.length:Int)≤v3∧eb sS a) (λ_=>True):=
 LC.okU (i:=v3) (a:=v5) (λ_ _=>rfl) (λ_=>rfl) rfl h0 h1 h6 λv3 v5 hj hk hv=>by
  refine Tr.G2 ?_ λ_=>Tr.C ?_ λ_ _ _=>Tr.I (λ_=>Tr.Rn ?_) λ_=>Tr.C ?_ λ_ _ _=>Tr.I (λ_=>Tr.Gb ?_ λ_=>Tr.Rn ?_) λ_=>Tr.Rn ?_
  all_goals (grind)
noncomputable def yh:FT (Stac×Int×List Segm×Unit) (List ac) (λx=>cU x.1∧sL ao x.2.2.1) (λx v=>sL sS v∧v.length≤x.2.2.1.length):=⟨λ(x0,x1,x2,_)=>
  .lp (gi (x1,x2,(x2.length:Int),0,x0,[],())).lp λ(_,a3_0)=>
  .ret a3_0,
 λ(x0,x1,x2,_) hp=>by
  refine Tr.L (J6 ?_ ?_ ?_ ?_ ?_ ?_ ?_) (λa3_0 _=>Tr.R ?_) (λp=>Empty.elim p)
  all_goals ((try simp only[gi,LC.lp,LC.ct,Ct.lp]at*)<;>grind)⟩
noncomputable def Tb:=aV st FK F6 [(bR 0 nu gi)] (ks:=[.st .stac,.sc (.int .i64),.sc (.sl .segm)]) yh (λv=>[(false,[sc (.o true) .str v])]) Tryz.func111 ⟨Jy,trivial⟩
noncomputable def VV:=[Tn,sH,Qh,xT,lh]
noncomputable def Wp:Fx:=⟨117,Tryz.f117,[(3000002,rA 0 26),(4000000,la ⟨[],[],false,0⟩ ⟨[],[.softb 4 2],false,0⟩)],0⟩
noncomputable def JT:FT (Link×Fram×Unit) (Link×Int×Pack×ac) (λx=>dH x.1∧ll x.2.1) (λx v=>dH v.1∧kN v.2.2.1∧sS v.2.2.2∧v.2.2.1.body.length≤1500):=⟨λ(x0,x1,_)=>
  .cal tV.c (x1.body,()) λc1=>
  .bnd (β:=Bool×Unit) (.ite (!c1.2) (.ret (true,()))<|
   .ret ((c1.1.dstIp != x0.ip),())) λ(u2a0,_)=>
  .ite u2a0 (.ret (x0,0,(⟨0,0,0,0,0,[]⟩:Pack),[]))<|
  .cal oe.c (x0.cache,c1.1.srcIp,c1.1.srcHw,()) λc3=>
  .cal vo.c (c1.1,x0.mac,x0.ip,()) λc4=>
  .ite (!c4.2) (.ret (({x0 with cache:=c3}:Link),0,(⟨0,0,0,0,0,[]⟩:Pack),[]))<|
  .cal qC.c (c4.1,()) λc5=>
  .cal fR.c ((⟨c1.1.srcHw,x0.mac,2054,c5⟩:Fram),()) λc6=>
  .ret (({x0 with cache:=c3}:Link),1,(⟨0,0,0,0,0,[]⟩:Pack),c6),
 λ(x0,x1,_) hp=>by
  refine Tr.C ?_ λ_ _ _=>Tr.B (Q':=λ_=>True) (Tr.F (by kernel_rfl) trivial) (λ(u2a0,_) _ _=>Tr.I (λ_=>Tr.R ?_) λ_=>Tr.C ?_ λ_ _ _=>Tr.C trivial λ_ _ _=>Tr.I (λ_=>Tr.R ?_) λ_=>Tr.C trivial λ_ _ _=>Tr.C ?_ λ_ _ _=>Tr.R ?_)
  all_goals ((try simp only[Tr.nice,bo]at*)<;>grind)⟩
noncomputable def Wh:=aV st Wp VV [] (ks:=[.st .link,.st .fram]) JT (λv=>[(true,z5 .c v.1),(false,[.c (.int .i64 v.2.1)]),(true,D1 v.2.2.1),(false,[.c (.str v.2.2.2)])]) Tryz.func117 trivial
noncomputable def uL:FT (Door×Door×Unit) (Bool) (λx=>aD x.1∧aD x.2.1) (λ_ _=>True):=⟨λ(x0,x1,_)=>
  .ite (x0.port==x1.port) (.ite (x0.clock==x1.clock) (.cal ve.c (x0.keys,x1.keys,()) λc1=>
    .ite c1 (.ite ((x0.limits.halves==x1.limits.halves)&&((x0.limits.waiting==x1.limits.waiting)&&((x0.limits.conns==x1.limits.conns)&&((x0.limits.chal==x1.limits.chal)&&true)))) (.cal p0.c (x0.halves,x1.halves,()) λc2=>
      .ite c2 (.cal sR.c (x0.table,x1.table,()) λc3=>
       .ite c3 (.ret (x0.chal==x1.chal))<|
       .ret false)<|
      .ret false)<|
     .ret false)<|
    .ret false)<|
   .ret false)<|
  .ret false,
 λ(x0,x1,_) hp=>by
  refine Tr.I (λ_=>Tr.I (λ_=>Tr.C ?_ λ_ _ _=>Tr.I (λ_=>Tr.I (λ_=>Tr.C ?_ λ_ _ _=>Tr.I (λ_=>Tr.C ?_ λ_ _ _=>Tr.F (by kernel_rfl) trivial) λ_=>Tr.R trivial) λ_=>Tr.R trivial) λ_=>Tr.R trivial) λ_=>Tr.R trivial) λ_=>Tr.R trivial
  all_goals (grind)⟩
noncomputable def Qt:=bf st Tryz.func125 [P7,Iv,MB] (ks:=[.st .door,.st .door]) uL (λv=>[(false,[.c (.bool v)])])
noncomputable def On:=[TM]
def ql:Sh:=⟨[zs 1,zp 2 0,zi 5],[.box [.st .mac [.sl .arg]]]⟩
noncomputable def ON:Fx:=⟨164,Tryz.f164,[(0,lb [1,2,5] [4])],0⟩
noncomputable def vb (v0:ac)(v2:Mac)(v1:Int)(a:Unit):Tr (Stp (Unit) ((Int))):=
 .grd ((decide (0≤v1))&&(decide (v1<(v2.rows.length:Int))))<|
 .ite ((v2.rows.getD v1.toNat (Ty.zero .macRow)).input==v0) (.grd ((decide (0≤v1))&&(decide (v1<(v2.rows.length:Int))))<|
  .ite (decide ((((v2.rows.getD v1.toNat (Ty.zero .macRow)).value).tmod 16777216)<0)) (.val (IntKind.wrap .i64 ((((v2.rows.getD v1.toNat (Ty.zero .macRow)).value).tmod 16777216)+16777216)) λe2=>
   .ret (.out e2))<|
  .ret (.out (((v2.rows.getD v1.toNat (Ty.zero .macRow)).value).tmod 16777216)))<|
 .ret (.next ())
noncomputable def iY:ql.V→LC ql (Unit) ((Int)) (((Int))⊕(Int×Unit)):=λ(v0,v1,v2,_)=>⟨v1,(),λv1 _=>(v0,v1,v2,()),λv1 _=>(decide (v1<(v2.rows.length:Int))),vb v0 v2,up,1,(Int.toNat ((v2.rows.length:Int)-v1)),.inl,λi a=> .inr (i,a),λ_ k w=>Sum.elim (λp=>k .ret (Sh.enc ⟨[zi 4],[]⟩ (p,()))) (λ_=>k (.exit 0) (Sh.enc ⟨[zu 4],[]⟩ ())) w⟩
theorem QM:LS Tryz.prog ON [0] (bR 0 ql iY):=aW st (aj On) _ iY [] trivial
theorem Ps {v0:ac}{v1:Int}{v2:Mac}(h0:0≤v1)(h1:(v2.rows.length:Int)≤4611686018427387904):(iY (v0,v1,v2,())).U (v2.rows.length:Int) (λ_ _=>True) (λ_=>True):=
 LC.okU (i:=v1) (a:=()) (λ_ _=>rfl) (λ_=>rfl) rfl h0 h1 trivial λv1 _ hj hk hv=>by
  refine Tr.G2 ?_ λ_=>Tr.I (λ_=>Tr.G2 ?_ λ_=>Tr.Z (by kernel_rfl)) λ_=>Tr.Rn trivial
  all_goals (grind)
noncomputable def HD:FT (Mac×ac×Unit) (Int) (λx=>fH x.1∧sS x.2.1) (λ_ _=>True):=⟨λ(x0,x1,_)=>
  .ite (!x0.use) (.cal yC.c (x0.k,x0.l,x1,()) λc1=>
   .ret (IntKind.wrap .i64 (c1.tmod 16777216)))<|
  .lp (iY (x1,0,x0,())).lp λw3=> .sum w3 (λp3a0=>
  .ret p3a0)<|
  λ_=>
  .ret 0,
 λ(x0,x1,_) hp=>by
  refine Tr.I (λ_=>Tr.C ?_ λ_ _ _=>Tr.R trivial) λ_=>Tr.L (Ps ?_ ?_) (λ_ _=>Tr.Sr (Tr.R trivial)) (λp3a0 _=>Tr.Sl (Tr.R trivial))
  all_goals ((try simp only[iY,LC.lp,LC.ct,Ct.lp]at*)<;>grind)⟩
noncomputable def Ya:=aV st ON On [(bR 0 ql iY)] (ks:=[.st .mac,.sc .str]) HD (λv=>[(false,[.c (.int .i64 v)])]) Tryz.func164 ⟨QM,trivial⟩
noncomputable def Sp:=[FI,ia,yz,N9,Yl,aaA,qZ]
def pI:An:=⟨⟨[],[],false,0⟩,⟨[2,4,5,6,7,8],[],false,0⟩,⟨[],[]⟩,[(.normal,⟨[zp 2 0,zp 4 1,(5,false,[.nil]),zi 6,zi 7,zp 8 2],[.box [.st .conn [.sl .arg]],.box [.st .conn [.nil .piec]],.box [.st .conn [.own 3]],.of false true]⟩)]⟩
noncomputable def RA:Fx:=⟨181,Tryz.f181,[(1000037,pI),(3000009,rA 0 37),(3000017,rA 0 68)],0⟩
noncomputable def nW:FT (Conn×Segm×Unit) (Conn×List Segm×Int) (λx=>ai x.1∧ao x.2.1) (λx v=>ai v.1∧sL ao v.2.1):=⟨λ(x0,x1,_)=>
  .cal um.c (x0,x1,()) λc1=>
  .cal d7.c (x0,()) λc2=>
  .ite (c1==2) (.ret (({c2 with state:=8,timer:=0,tries:=0}:Conn),[],c1))<|
  .ite (c1==3) (.ite (c1==3) (.bnd (β:=Bool×Unit) (.ite (c1==4) (.ite (x0.state==7) (.val (bB.f (x1,1,())) λc3=>
       .ret (c3,()))<|
      .ret (false,()))<|
     .ret (false,())) λ(u4a0,_)=>
    .bnd (β:=WT pI.es) (.ite u4a0 (.ret (0,c1,x0,(⟨⟨0,0,0⟩,0,⟨0,[],0,false,false,false⟩,⟨0,[],[],0,false⟩,0,0,⟨0,0,false,false,0,0⟩,0,0⟩:Conn),({c2 with timer:=4}:Conn),()))<|
     .ret (0,c1,x0,(⟨⟨0,0,0⟩,0,⟨0,[],0,false,false,false⟩,⟨0,[],[],0,false⟩,0,0,⟨0,0,false,false,0,0⟩,0,0⟩:Conn),c2,())) λ(_,u5a1,u5a2,_,u5a4,_)=>
    .cal cL.c (u5a2,()) λc6=>
    .ret (u5a4,[c6],u5a1))<|
   .ite (c1==5) (.cal CM.c (x0,x1,()) λc7=>
    .ite (c7.state==8) (.ret (c7,[],c1))<|
    .cal eG.c (c7,c7.window,()) λc8=>
    .bnd (β:=Bool×Unit) (.ite ((c8.2.length:Int)==0) (.cal aO.c (x1,()) λc9=>
      .ret ((c9 != 0),()))<|
     .ret (false,())) λ(u10a0,_)=>
    .ite u10a0 (.cal cL.c (c8.1,()) λc11=>
     .ret (c8.1,[c11],c1))<|
    .ret (c8.1,c8.2,c1))<|
   .ret (c2,[],c1))<|
  .ite (c1==4) (.bnd (β:=Bool×Unit) (.ite (c1==4) (.ite (x0.state==7) (.val (bB.f (x1,1,())) λc12=>
      .ret (c12,()))<|
     .ret (false,()))<|
    .ret (false,())) λ(u13a0,_)=>
   .bnd (β:=WT pI.es) (.ite u13a0 (.ret (0,c1,x0,(⟨⟨0,0,0⟩,0,⟨0,[],0,false,false,false⟩,⟨0,[],[],0,false⟩,0,0,⟨0,0,false,false,0,0⟩,0,0⟩:Conn),({c2 with timer:=4}:Conn),()))<|
    .ret (0,c1,x0,(⟨⟨0,0,0⟩,0,⟨0,[],0,false,false,false⟩,⟨0,[],[],0,false⟩,0,0,⟨0,0,false,false,0,0⟩,0,0⟩:Conn),c2,())) λ(_,u14a1,u14a2,_,u14a4,_)=>
   .cal cL.c (u14a2,()) λc15=>
   .ret (u14a4,[c15],u14a1))<|
  .ite (c1==5) (.cal CM.c (x0,x1,()) λc16=>
   .ite (c16.state==8) (.ret (c16,[],c1))<|
   .cal eG.c (c16,c16.window,()) λc17=>
   .bnd (β:=Bool×Unit) (.ite ((c17.2.length:Int)==0) (.cal aO.c (x1,()) λc18=>
     .ret ((c18 != 0),()))<|
    .ret (false,())) λ(u19a0,_)=>
   .ite u19a0 (.cal cL.c (c17.1,()) λc20=>
    .ret (c17.1,[c20],c1))<|
   .ret (c17.1,c17.2,c1))<|
  .ret (c2,[],c1),
 λ(x0,x1,_) hp=>by
  refine Tr.C ?_ λ_ _ _=>Tr.C ?_ λ_ _ _=>Tr.I (λ_=>Tr.R ?_) λ_=>Tr.I (λ_=>Tr.I (λ_=>Tr.B (Q':=λ_=>True) (Tr.F (by kernel_rfl) trivial) (λ(u4a0,_) _ _=>Tr.B (Q':=λw=>ai w.2.2.1∧ai w.2.2.2.1∧ai w.2.2.2.2.1) (Tr.I (λ_=>Tr.R ?_) λ_=>Tr.R ?_) (λ(u5a0,u5a1,u5a2,u5a3,u5a4,_) _ _=>Tr.C ?_ λ_ _ _=>Tr.R ?_))) λ_=>Tr.I (λ_=>Tr.C ?_ λ_ _ _=>Tr.I (λ_=>Tr.R ?_) λ_=>Tr.C ?_ λ_ _ _=>Tr.B (Q':=λ_=>True) (Tr.I (λ_=>Tr.C ?_ λ_ _ _=>Tr.R trivial) λ_=>Tr.R trivial) (λ(u10a0,_) _ _=>Tr.I (λ_=>Tr.C ?_ λ_ _ _=>Tr.R ?_) λ_=>Tr.R ?_)) λ_=>Tr.R ?_) λ_=>Tr.I (λ_=>Tr.B (Q':=λ_=>True) (Tr.F (by kernel_rfl) trivial) (λ(u13a0,_) _ _=>Tr.B (Q':=λw=>ai w.2.2.1∧ai w.2.2.2.1∧ai w.2.2.2.2.1) (Tr.I (λ_=>Tr.R ?_) λ_=>Tr.R ?_) (λ(u14a0,u14a1,u14a2,u14a3,u14a4,_) _ _=>Tr.C ?_ λ_ _ _=>Tr.R ?_))) λ_=>Tr.I (λ_=>Tr.C ?_ λ_ _ _=>Tr.I (λ_=>Tr.R ?_) λ_=>Tr.C ?_ λ_ _ _=>Tr.B (Q':=λ_=>True) (Tr.I (λ_=>Tr.C ?_ λ_ _ _=>Tr.R trivial) λ_=>Tr.R trivial) (λ(u19a0,_) _ _=>Tr.I (λ_=>Tr.C ?_ λ_ _ _=>Tr.R ?_) λ_=>Tr.R ?_)) λ_=>Tr.R ?_
  all_goals ((try simp only[Tr.nice,bo]at*)<;>grind)⟩
noncomputable def Gf:=aV st RA Sp [] (ks:=[.st .conn,.st .segm]) nW (λv=>[(true,jP (.o true) v.1),(false,[sc (.o true) .segm v.2.1]),(false,[.c (.int .i64 v.2.2)])]) Tryz.func181 trivial
noncomputable def fg:FT (Tabl×Conn×Unit) (Tabl) (λx=>bu x.1∧ai x.2.1) (λx v=>bu v∧v.conns.length=x.1.conns.length):=⟨λ(x0,x1,_)=>
  .cal jq.c (x0,()) λc1=>
  .cal aK.c (x0,x1.tuple,()) λc2=>
  .ite (decide (0≤c2)) (.cal d7.c (x1,()) λc3=>
   .grd ((decide (0≤c2))&&(decide (c2<(c1.conns.length:Int))))<|
   .ret (⟨(c1.conns.set c2.toNat c3),c1.waiting⟩:Tabl))<|
  .ret c1,
 λ(x0,x1,_) hp=>by
  refine Tr.C ?_ λ_ _ _=>Tr.C ?_ λ_ _ _=>Tr.I (λ_=>Tr.C ?_ λ_ _ _=>Tr.G2 ?_ λ_=>Tr.R ?_) λ_=>Tr.R ?_
  all_goals (grind)⟩
noncomputable def EM:=bf st Tryz.func182 [rl,kA,ia] (ks:=[.st .tabl,.st .conn]) fg (λv=>[(true,uy (.o true) (.o true) v)])
noncomputable def aR:FT (List Half×Tupl×Unit) (Int) (λx=>wS x.1) (λx v=> -1≤v∧v<x.1.length):=⟨λ(x0,x1,_)=>
  .cal eV.c (x0,x1,()) λc1=>
  .ret c1,
 λ(x0,x1,_) hp=>by
  refine Tr.C ?_ λ_ _ _=>Tr.R ?_
  all_goals (grind)⟩
noncomputable def nt:=bf st Tryz.func183 [nQ] (ks:=[.sc (.sl .half),.st .tupl]) aR (λv=>[(false,[.c (.int .i64 v)])])
noncomputable def ol:FT (List Half×Tupl×Unit) (List Half) (λx=>sS x.1) (λx v=>sS v):=⟨λ(x0,x1,_)=>
  .cal eE.c (x0,()) λc1=>
  .cal aR.c (x0,x1,()) λc2=>
  .ite (decide (0≤c2)) (.cal sZ.c (c1,c2,(IntKind.wrap .i64 (c2+1)),()) λc3=>
   .ret (c3.2.take c3.1))<|
  .ret c1,
 λ(x0,x1,_) hp=>by
  refine Tr.C ?_ λ_ _ _=>Tr.C ?_ λ_ _ _=>Tr.I (λ_=>Tr.C ?_ λ_ _ _=>Tr.R ?_) λ_=>Tr.R ?_
  all_goals (grind)⟩
noncomputable def CN:=bf st Tryz.func184 [rB,nt,G7] (ks:=[.sc (.sl .half),.st .tupl]) ol (λv=>[(false,[sc (.o true) .half v])])
noncomputable def mc:FT (Tabl×Conn×Limi×Unit) (Tabl×Bool) (λx=>bu x.1∧ai x.2.1) (λx v=>bu v.1∧v.1.conns.length≤max x.1.conns.length 16∧v.1.waiting.length≤max x.1.waiting.length 16∧x.1.conns.length≤v.1.conns.length):=⟨λ(x0,x1,x2,_)=>
  .cal jq.c (x0,()) λc1=>
  .cal d7.c (x1,()) λc2=>
  .grd (Nat.ble ((2*(c1.conns.length+1)+1024)*208) aF)<|
  .grd (Nat.ble ((2*(c1.waiting.length+1)+1024)*24) aF)<|
  .cal dE.c ((⟨(c1.conns++[c2]),(c1.waiting++[x1.tuple])⟩:Tabl),x2,()) λc3=>
  .ite (!c3) (.cal jq.c (x0,()) λc4=>
   .ret (c4,false))<|
  .ret ((⟨(c1.conns++[c2]),(c1.waiting++[x1.tuple])⟩:Tabl),true),
 λ(x0,x1,x2,_) hp=>by
  refine Tr.C ?_ λ_ _ _=>Tr.C ?_ λ_ _ _=>Tr.Gb ?_ λ_=>Tr.Gb ?_ λ_=>Tr.C ?_ λ_ _ _=>Tr.I (λ_=>Tr.C ?_ λ_ _ _=>Tr.R ?_) λ_=>Tr.R ?_
  all_goals (grind)⟩
noncomputable def UA:=bf st Tryz.func307 [rl,ia,ER] (ks:=[.st .tabl,.st .conn,.st .limi]) mc (λv=>[(true,uy (.o true) (.o true) v.1),(false,[.c (.bool v.2)])])
noncomputable def Su:=[eY,EX,yJ,yH,YD,Ck,rR]
def pH:An:=⟨⟨[],[],false,0⟩,⟨[2,3,4,5,6,7,8,9],[],false,0⟩,⟨[],[]⟩,[(.normal,⟨[zp 2 0,zp 3 1,zp 4 2,(5,false,[.nil]),zi 6,zp 7 3,(8,false,[.own 4]),zi 9],[.box [.st .conn [.sl .arg]],.box [.st .segm []],.box [.st .conn [.nil .piec]],.box [.st .conn [.own 5]],.arr .segm false true,.of false true]⟩)]⟩
noncomputable def Tq:Fx:=⟨310,Tryz.f310,[(1000046,pH),(3000014,rA 0 46),(3000022,rA 0 78)],0⟩
noncomputable def qA:FT (Conn×Segm×Unit) (Conn×List Segm×Int) (λx=>ai x.1∧ao x.2.1) (λx v=>ai v.1∧sL ao v.2.1):=⟨λ(x0,x1,_)=>
  .cal ez.c (x0,()) λc1=>
  .cal tX.c (x0,x1,()) λc2=>
  .ite (c2==1) (.ret (c1,[],c2))<|
  .ite (c2==2) (.ret (({c1 with state:=8,timer:=0,tries:=0}:Conn),[],c2))<|
  .ite (c2==3) (.ite (c2==3) (.bnd (β:=Bool×Unit) (.ite (c2==4) (.ite (x0.state==7) (.val (ic.f (x1,1,())) λc3=>
       .ret (c3,()))<|
      .ret (false,()))<|
     .ret (false,())) λ(u4a0,_)=>
    .bnd (β:=WT pH.es) (.ite u4a0 (.ret (0,c2,x0,x1,(⟨⟨0,0,0⟩,0,⟨0,[],0,false,false,false⟩,⟨0,[],[],0,false⟩,0,0,⟨0,0,false,false,0,0⟩,0,0⟩:Conn),({c1 with timer:=4}:Conn),[],()))<|
     .ret (0,c2,x0,x1,(⟨⟨0,0,0⟩,0,⟨0,[],0,false,false,false⟩,⟨0,[],[],0,false⟩,0,0,⟨0,0,false,false,0,0⟩,0,0⟩:Conn),c1,[],())) λ(_,u5a1,u5a2,_,_,u5a5,_,_)=>
    .cal kR.c (u5a2,()) λc6=>
    .ret (u5a5,[c6],u5a1))<|
   .cal CF.c (x0,x1,()) λc7=>
   .ite (c7.state==8) (.ret (c7,[],c2))<|
   .cal kR.c (c7,()) λc8=>
   .cal mI.c (c7,c7.window,()) λc9=>
   .bnd (β:=Bool×Unit) (.cal jg.c (x1,()) λc10=>
    .ite (decide (0<c10)) (.ret (((c9.2.length:Int)==0),()))<|
    .ret (false,())) λ(u11a0,_)=>
   .ite u11a0 (.grd (Nat.ble ((2*(c9.2.length+1)+1024)*104) aF)<|
    .ret (c9.1,(c9.2++[c8]),c2))<|
   .ret (c9.1,c9.2,c2))<|
  .ite (c2==4) (.bnd (β:=Bool×Unit) (.ite (c2==4) (.ite (x0.state==7) (.val (ic.f (x1,1,())) λc12=>
      .ret (c12,()))<|
     .ret (false,()))<|
    .ret (false,())) λ(u13a0,_)=>
   .bnd (β:=WT pH.es) (.ite u13a0 (.ret (0,c2,x0,x1,(⟨⟨0,0,0⟩,0,⟨0,[],0,false,false,false⟩,⟨0,[],[],0,false⟩,0,0,⟨0,0,false,false,0,0⟩,0,0⟩:Conn),({c1 with timer:=4}:Conn),[],()))<|
    .ret (0,c2,x0,x1,(⟨⟨0,0,0⟩,0,⟨0,[],0,false,false,false⟩,⟨0,[],[],0,false⟩,0,0,⟨0,0,false,false,0,0⟩,0,0⟩:Conn),c1,[],())) λ(_,u14a1,u14a2,_,_,u14a5,_,_)=>
   .cal kR.c (u14a2,()) λc15=>
   .ret (u14a5,[c15],u14a1))<|
  .cal CF.c (x0,x1,()) λc16=>
  .ite (c16.state==8) (.ret (c16,[],c2))<|
  .cal kR.c (c16,()) λc17=>
  .cal mI.c (c16,c16.window,()) λc18=>
  .bnd (β:=Bool×Unit) (.cal jg.c (x1,()) λc19=>
   .ite (decide (0<c19)) (.ret (((c18.2.length:Int)==0),()))<|
   .ret (false,())) λ(u20a0,_)=>
  .ite u20a0 (.grd (Nat.ble ((2*(c18.2.length+1)+1024)*104) aF)<|
   .ret (c18.1,(c18.2++[c17]),c2))<|
  .ret (c18.1,c18.2,c2),
 λ(x0,x1,_) hp=>by
  refine Tr.C ?_ λ_ _ _=>Tr.C ?_ λ_ _ _=>Tr.I (λ_=>Tr.R ?_) λ_=>Tr.I (λ_=>Tr.R ?_) λ_=>Tr.I (λ_=>Tr.I (λ_=>Tr.B (Q':=λ_=>True) (Tr.F (by kernel_rfl) trivial) (λ(u4a0,_) _ _=>Tr.B (Q':=λw=>ai w.2.2.1∧ao w.2.2.2.1∧ai w.2.2.2.2.1∧ai w.2.2.2.2.2.1∧sL ao w.2.2.2.2.2.2.1) (Tr.I (λ_=>Tr.R ?_) λ_=>Tr.R ?_) (λ(u5a0,u5a1,u5a2,u5a3,u5a4,u5a5,u5a6,_) _ _=>Tr.C ?_ λ_ _ _=>Tr.R ?_))) λ_=>Tr.C ?_ λ_ _ _=>Tr.I (λ_=>Tr.R ?_) λ_=>Tr.C ?_ λ_ _ _=>Tr.C ?_ λ_ _ _=>Tr.B (Q':=λ_=>True) (Tr.C ?_ λ_ _ _=>Tr.F (by kernel_rfl) trivial) (λ(u11a0,_) _ _=>Tr.I (λ_=>Tr.Gb ?_ λ_=>Tr.R ?_) λ_=>Tr.R ?_)) λ_=>Tr.I (λ_=>Tr.B (Q':=λ_=>True) (Tr.F (by kernel_rfl) trivial) (λ(u13a0,_) _ _=>Tr.B (Q':=λw=>ai w.2.2.1∧ao w.2.2.2.1∧ai w.2.2.2.2.1∧ai w.2.2.2.2.2.1∧sL ao w.2.2.2.2.2.2.1) (Tr.I (λ_=>Tr.R ?_) λ_=>Tr.R ?_) (λ(u14a0,u14a1,u14a2,u14a3,u14a4,u14a5,u14a6,_) _ _=>Tr.C ?_ λ_ _ _=>Tr.R ?_))) λ_=>Tr.C ?_ λ_ _ _=>Tr.I (λ_=>Tr.R ?_) λ_=>Tr.C ?_ λ_ _ _=>Tr.C ?_ λ_ _ _=>Tr.B (Q':=λ_=>True) (Tr.C ?_ λ_ _ _=>Tr.F (by kernel_rfl) trivial) (λ(u20a0,_) _ _=>Tr.I (λ_=>Tr.Gb ?_ λ_=>Tr.R ?_) λ_=>Tr.R ?_)
  all_goals ((try simp only[Tr.nice,bo]at*)<;>grind)⟩
noncomputable def yg:=aV st Tq Su [] (ks:=[.st .conn,.st .segm]) qA (λv=>[(true,jP (.o true) v.1),(false,[sc (.o true) .segm v.2.1]),(false,[.c (.int .i64 v.2.2)])]) Tryz.func310 trivial
noncomputable def qL:FT (Door×Tupl×Segm×Unit) (Bool) (λx=>aD x.1∧ao x.2.2.1) (λ_ _=>True):=⟨λ(x0,x1,x2,_)=>
  .cal tC.c (x0,()) λc1=>
  .ite c1 (.cal oc.c (x1,()) λc2=>
   .ite c2 (.cal iP.c (x2,()) λc3=>
    .ret c3)<|
   .ret false)<|
  .ret false,
 λ(x0,x1,x2,_) hp=>by
  refine Tr.C ?_ λ_ _ _=>Tr.I (λ_=>Tr.C trivial λ_ _ _=>Tr.I (λ_=>Tr.C trivial λ_ _ _=>Tr.R trivial) λ_=>Tr.R trivial) λ_=>Tr.R trivial
  all_goals (grind)⟩
noncomputable def CZ:=bf st Tryz.func311 [zV,r9,k7] (ks:=[.st .door,.st .tupl,.st .segm]) qL (λv=>[(false,[.c (.bool v)])])
noncomputable def wJ:FT (Door×Conn×Segm×Int×Unit) (Door×List Segm×Int) (λx=>aD x.1∧ai x.2.1∧ao x.2.2.1) (λx v=>aD v.1∧sL ao v.2.1):=⟨λ(x0,x1,x2,x3,_)=>
  .cal fj.c (x0,()) λc1=>
  .cal ug.c (x0.table,x1,x0.limits,()) λc2=>
  .ite (!c2.2) (.ret (c1,[],0))<|
  .cal qA.c (x1,x2,()) λc3=>
  .cal yP.c (c2.1,c3.1,()) λc4=>
  .cal ry.c (c1.halves,x1.tuple,()) λc5=>
  .ret (({c1 with halves:=c5,table.conns:=c4.conns,table.waiting:=c4.waiting}:Door),c3.2.1,x3),
 λ(x0,x1,x2,x3,_) hp=>by
  refine Tr.C ?_ λ_ _ _=>Tr.C ?_ λ_ _ _=>Tr.I (λ_=>Tr.R ?_) λ_=>Tr.C ?_ λ_ _ _=>Tr.C ?_ λ_ _ _=>Tr.C ?_ λ_ _ _=>Tr.R ?_
  all_goals (grind)⟩
noncomputable def Vm:=bf st Tryz.func314 [kr,Fc,yg,UK,Cr] (ks:=[.st .door,.st .conn,.st .segm,.sc (.int .i64)]) wJ (λv=>[(true,oz (.o true) (.o true) (.o true) (.o true) (.o true) v.1),(false,[sc (.o true) .segm v.2.1]),(false,[.c (.int .i64 v.2.2)])])
noncomputable def Oq:=[RS]
def p8:Sh:=⟨[zs 1,(19,false,[.sl .arg .macRow]),zi 20,zi 21],[]⟩
noncomputable def O8:Fx:=⟨430,Tryz.f430,[(0,lb [1,19,20,21] [4])],0⟩
noncomputable def kP (v0:ac)(v1:List MacRow)(v3:Int)(a:Unit):Tr (Stp (Unit) ((Int))):=
 .grd ((decide (0≤v3))&&(decide (v3<(v1.length:Int))))<|
 .ite ((v1.getD v3.toNat (Ty.zero .macRow)).input==v0) (.val (IntKind.wrap .i64 ((((v1.getD v3.toNat (Ty.zero .macRow)).value).tmod 16777216)+16777216)) λe2=>
  .ret (.out (e2.tmod 16777216)))<|
 .ret (.next ())
noncomputable def gQ:p8.V→LC p8 (Unit) ((Int)) (((Int))⊕(Int×Unit)):=λ(v0,v1,v2,v3,_)=>⟨v3,(),λv3 _=>(v0,v1,v2,v3,()),λv3 _=>(decide (v3<v2)),kP v0 v1,up,1,(Int.toNat (v2-v3)),.inl,λi a=> .inr (i,a),λ_ k w=>Sum.elim (λp=>k .ret (Sh.enc ⟨[zi 4],[]⟩ (p,()))) (λ_=>k (.exit 0) (Sh.enc ⟨[zu 4],[]⟩ ())) w⟩
theorem QG:LS Tryz.prog O8 [0] (bR 0 p8 gQ):=aW st (aj Oq) _ gQ [] trivial
theorem Qr {v0:ac}{v1:List MacRow}{v2 v3:Int}(h0:0≤v3)(h1:v2≤4611686018427387904)(h2:v2≤(v1.length:Int)):(gQ (v0,v1,v2,v3,())).U v2 (λ_ _=>True) (λ_=>True):=
 LC.okU (i:=v3) (a:=()) (λ_ _=>rfl) (λ_=>rfl) rfl h0 h1 trivial λv3 _ hj hk hv=>by
  refine Tr.G2 ?_ λ_=>Tr.Z (by kernel_rfl)
  all_goals (grind)
noncomputable def qm:FT (Mac×ac×Unit) (Int) (λx=>fH x.1∧sS x.2.1) (λ_ _=>True):=⟨λ(x0,x1,_)=>
  .ite (!x0.use) (.cal ov.c (x0.k,x0.l,x1,()) λc1=>
   .ret (IntKind.wrap .i64 (c1.tmod 16777216)))<|
  .lp (gQ (x1,x0.rows,(x0.rows.length:Int),0,())).lp λw3=> .sum w3 (λp3a0=>
  .ret p3a0)<|
  λ_=>
  .ret 0,
 λ(x0,x1,_) hp=>by
  refine Tr.I (λ_=>Tr.C ?_ λ_ _ _=>Tr.R trivial) λ_=>Tr.L (Qr ?_ ?_ ?_) (λ_ _=>Tr.Sr (Tr.R trivial)) (λp3a0 _=>Tr.Sl (Tr.R trivial))
  all_goals ((try simp only[gQ,LC.lp,LC.ct,Ct.lp]at*)<;>grind)⟩
noncomputable def XX:=aV st O8 Oq [(bR 0 p8 gQ)] (ks:=[.st .mac,.sc .str]) qm (λv=>[(false,[.c (.int .i64 v)])]) Tryz.func430 ⟨QG,trivial⟩
noncomputable def m5:FT (Curs×Unit) (Int×Curs) (λx=>af x.1) (λx v=>af v.2∧0≤v.1∧v.1≤255):=⟨λ(y0,_)=>
  .val (IntKind.wrap .i64 ((IntKind.wrap .i64 (y0.h*6364136223846793005))+1442695040888963407)) λe1=>
  .val (bits .and .i64 (bits .xor .i64 (e1.fdiv 8589934592) (e1.fdiv 35184372088832)) 255) λe2=>
  .ite (decide (y0.i<(y0.b.length:Int))) (.grd ((decide (0≤y0.i))&&(decide (y0.i<(y0.b.length:Int))))<|
   .val (IntKind.wrap .i64 (e2+(IntKind.wrap .i64 (y0.b.getD y0.i.toNat 0)))) λe3=>
   .ret ((bits .and .i64 e3 255),(⟨y0.b,(IntKind.wrap .i64 (y0.i+1)),e1⟩:Curs)))<|
  .ret (e2,({y0 with h:=e1}:Curs)),
 λ(y0,_) hp=>by
  refine Tr.V λ_ _=>Tr.V λ_ _=>Tr.I (λ_=>Tr.G2 ?_ λ_=>Tr.V λ_ _=>Tr.R ?_) λ_=>Tr.R ?_
  all_goals (grind)⟩
noncomputable def vq:=cJ st ⟨170,Tryz.f170,[],1⟩ [] [] [.wr false [.ptr 0]] [.box [.st .curs]] (λx y=>(y.1.1,())) m5 (λv=>[(false,[.c (.int .i64 v.1)])]) (λx y v=>((v.2,()),())) Tryz.func170 (by kernel_rfl) trivial
noncomputable def Dp:FT (MacRow×MacRow×Unit) (Bool) (λ_=>True) (λ_ _=>True):=⟨λ(x0,y1,_)=>
  .ret (x0.input==y1.input),
 λ(x0,y1,_) hp=>by
  refine Tr.R trivial⟩
noncomputable def TL:=cJ st ⟨321,Tryz.f321,[],1⟩ [] [] [.st .macRow,.wr false [.ptr 0]] [.box [.st .macRow]] (λx y=>(x.1,y.1.1,())) Dp (λv=>[(false,[.c (.bool v)])]) (λx y v=>((y.1.1,()),())) Tryz.func321 (by kernel_rfl) trivial
noncomputable def iI:=[TL]
def cl:Sh:=⟨[(0,false,[.sl .arg .macRow]),(1,false,[.fn 321 [0]]),zi 7,zi 8],[.box [.st .macRow []]]⟩
noncomputable def iL:Fx:=⟨404,Tryz.f404,[(0,la ⟨[0,1,7,8],[],false,1⟩ ⟨[4],[],false,1⟩)],1⟩
noncomputable def gE (v0:List MacRow)(v3:MacRow)(v2:Int)(a:Unit):Tr (Stp (Unit) ((Int))):=
 .grd ((decide (0≤v2))&&(decide (v2<(v0.length:Int))))<|
 .cal Dp.c ((v0.getD v2.toNat (Ty.zero .macRow)),v3,()) λc1=>
 .ite c1 (.ret (.out v2))<|
 .ret (.next ())
noncomputable def bc:cl.V→LC cl (Unit) ((Int)) (((Int))⊕(Int×Unit)):=λ(v0,v1,v2,v3,_)=>⟨v2,(),λv2 _=>(v0,v1,v2,v3,()),λv2 _=>(decide (v2<v1)),gE v0 v3,up,1,(Int.toNat (v1-v2)),.inl,λi a=> .inr (i,a),λ_ k w=>Sum.elim (λp=>k .ret (Sh.enc ⟨[zi 4],[.box [.st .macRow []]]⟩ (p,v3,()))) (λ_=>k (.exit 0) (Sh.enc ⟨[zu 4],[.box [.st .macRow []]]⟩ (v3,()))) w⟩
theorem mr:LS Tryz.prog iL [0] (bR 0 cl bc):=aW st (aj iI) _ bc [] trivial
theorem mp {v0:List MacRow}{v1 v2:Int}{v3:MacRow}(h0:0≤v2)(h1:v1≤4611686018427387904)(h2:v1≤(v0.length:Int)):(bc (v0,v1,v2,v3,())).U v1 (λ_ _=>True) (λp=>v2≤p∧p<v1):=
 LC.okU (i:=v2) (a:=()) (λ_ _=>rfl) (λ_=>rfl) rfl h0 h1 trivial λv2 _ hj hk hv=>by
  refine Tr.G2 ?_ λ_=>Tr.C trivial λ_ _ _=>Tr.I (λ_=>Tr.Ro ?_) λ_=>Tr.Rn trivial
  all_goals (grind)
noncomputable def fG:FT (List MacRow×MacRow×Unit) (Int) (λx=>wS x.1) (λx v=> -1≤v∧v<x.1.length):=⟨λ(x0,y1_0,_)=>
  .lp (bc (x0,(x0.length:Int),0,y1_0,())).lp λw2=> .sum w2 (λp2a0=>
  .ret p2a0)<|
  λ_=>
  .ret (-1),
 λ(x0,y1_0,_) hp=>by
  refine Tr.L (mp ?_ ?_ ?_) (λ_ _=>Tr.Sr (Tr.R ?_)) (λp2a0 _=>Tr.Sl (Tr.R ?_))
  all_goals ((try simp only[bc,LC.lp,LC.ct,Ct.lp]at*)<;>grind)⟩
noncomputable def n6:=cJ st iL iI [(bR 0 cl bc)] [.sc (.sl .macRow),.fn 321 [0]] [.box [.st .macRow]] (λx y=>(x.1,y.1.1,())) fG (λv=>[(false,[.c (.int .i64 v)])]) (λx y v=>((y.1.1,()),())) Tryz.func404 (by kernel_rfl) ⟨mr,trivial⟩
noncomputable def oq:FT (Stac×Unit) (Bool) (λx=>cU x.1) (λx v=>(v=true→x.1.door.table.conns.length≤16)):=⟨λ(x0,_)=>
  .cal tI.c (x0.link,()) λc1=>
  .ite c1 (.cal tC.c (x0.door,()) λc2=>
   .ret c2)<|
  .ret false,
 λ(x0,_) hp=>by
  refine Tr.C ?_ λ_ _ _=>Tr.I (λ_=>Tr.C ?_ λ_ _ _=>Tr.R ?_) λ_=>Tr.R ?_
  all_goals (grind)⟩
noncomputable def wW:=bf st Tryz.func13 [zT,zV] (ks:=[.st .stac]) oq (λv=>[(false,[.c (.bool v)])])
noncomputable def Wx:=[Fu,zH,zT,Yw,Wh,wM,sH]
noncomputable def Wi:Fx:=⟨33,Tryz.f33,[(3000003,rA 0 33),(3000010,rA 0 77),(4000000,la ⟨[],[],false,0⟩ ⟨[],[.softb 4 2],false,0⟩)],0⟩
noncomputable def tT:FT (Link×ac×Unit) (Link×Int×Pack×ac) (λx=>dH x.1∧sS x.2.1) (λx v=>dH v.1∧kN v.2.2.1∧sS v.2.2.2∧v.2.2.1.body.length≤1500):=⟨λ(x0,x1,_)=>
  .cal qw.c (x0,()) λc1=>
  .cal kh.c (x1,()) λc2=>
  .bnd (β:=Bool×Unit) (.cal tI.c (x0,()) λc3=>
   .ite (!c3) (.ret (true,()))<|
   .ite (!c2.2) (.ret (true,()))<|
   .val (HU.f (c2.1,x0.mac,())) λc4=>
   .ret ((!c4),())) λ(u5a0,_)=>
  .ite u5a0 (.ret (c1,0,(⟨0,0,0,0,0,[]⟩:Pack),[]))<|
  .ite (c2.1.type==2054) (.cal JT.c (c1,c2.1,()) λc6=>
   .ret (c6.1,c6.2.1,c6.2.2.1,c6.2.2.2))<|
  .ite (c2.1.type != 2048) (.ret (c1,0,(⟨0,0,0,0,0,[]⟩:Pack),[]))<|
  .cal kC.c (c2.1.body,()) λc7=>
  .bnd (β:=Bool×Unit) (.ite (c7.2 != 0) (.ret (true,()))<|
   .ite (c7.1.dst != x0.ip) (.ret (true,()))<|
   .ite (c7.1.proto != 6) (.ret (true,()))<|
   .ret ((c7.1.src==x0.ip),())) λ(u8a0,_)=>
  .ite u8a0 (.ret (c1,0,(⟨0,0,0,0,0,[]⟩:Pack),[]))<|
  .cal oe.c (c1.cache,c7.1.src,c2.1.src,()) λc9=>
  .ret (({c1 with cache:=c9}:Link),2,c7.1,[]),
 λ(x0,x1,_) hp=>by
  refine Tr.C ?_ λ_ _ _=>Tr.C ?_ λ_ _ _=>Tr.B (Q':=λ_=>True) (Tr.C ?_ λ_ _ _=>Tr.F (by kernel_rfl) trivial) (λ(u5a0,_) _ _=>Tr.I (λ_=>Tr.R ?_) λ_=>Tr.I (λ_=>Tr.C ?_ λ_ _ _=>Tr.R ?_) λ_=>Tr.I (λ_=>Tr.R ?_) λ_=>Tr.C ?_ λ_ _ _=>Tr.B (Q':=λ_=>True) (Tr.F (by kernel_rfl) trivial) (λ(u8a0,_) _ _=>Tr.I (λ_=>Tr.R ?_) λ_=>Tr.C ?_ λ_ _ _=>Tr.R ?_))
  all_goals ((try simp only[Tr.nice,bo]at*)<;>grind)⟩
noncomputable def z8:=aV st Wi Wx [] (ks:=[.st .link,.sc .str]) tT (λv=>[(true,z5 .c v.1),(false,[.c (.int .i64 v.2.1)]),(true,D1 v.2.2.1),(false,[.c (.str v.2.2.2)])]) Tryz.func33 trivial
noncomputable def sQ:FT (Stac×Stac×Unit) (Bool) (λx=>cU x.1∧cU x.2.1) (λ_ _=>True):=⟨λ(x0,x1,_)=>
  .cal uv.c (x0.link,x1.link,()) λc1=>
  .ite c1 (.cal uL.c (x0.door,x1.door,()) λc2=>
   .ret c2)<|
  .ret false,
 λ(x0,x1,_) hp=>by
  refine Tr.C ?_ λ_ _ _=>Tr.I (λ_=>Tr.C ?_ λ_ _ _=>Tr.R trivial) λ_=>Tr.R trivial
  all_goals (grind)⟩
noncomputable def Nr:=bf st Tryz.func35 [Rp,Qt] (ks:=[.st .stac,.st .stac]) sQ (λv=>[(false,[.c (.bool v)])])
noncomputable def rC:FT (Mac×Tupl×Int×Int×Int×Unit) (Int) (λx=>fH x.1) (λ_ _=>True):=⟨λ(x0,x1,x2,x3,x4,_)=>
  .cal ux.c (x1,x2,x3,x4,()) λc1=>
  .ite (c1==[]) (.ret (-1))<|
  .val (IntKind.wrap .i64 ((IntKind.wrap .i64 ((x3.tmod 32)*134217728))+(IntKind.wrap .i64 (x4*16777216)))) λe2=>
  .cal HD.c (x0,c1,()) λc3=>
  .ret (IntKind.wrap .i64 (e2+c3)),
 λ(x0,x1,x2,x3,x4,_) hp=>by
  refine Tr.C trivial λ_ _ _=>Tr.I (λ_=>Tr.R trivial) λ_=>Tr.V λ_ _=>Tr.C ?_ λ_ _ _=>Tr.R trivial
  all_goals (grind)⟩
noncomputable def B8:=bf st Tryz.func68 [Qz,Ya] (ks:=[.st .mac,.st .tupl,.sc (.int .i64),.sc (.int .i64),.sc (.int .i64)]) rC (λv=>[(false,[.c (.int .i64 v)])])
noncomputable def BQ:=[pu,bQ,k8,bF,nt]
def lr:Sh:=⟨[(0,false,[.sl .arg .half]),(8,false,[.sl .arg .half]),zi 9,zi 10],[]⟩
noncomputable def CX:Fx:=⟨103,Tryz.f103,[(0,lb [0,8,9,10] [2])],0⟩
noncomputable def pG (v0 v1:List Half)(v3:Int)(a:Unit):Tr (Stp (Unit) ((Unit))):=
 .grd ((decide (0≤v3))&&(decide (v3<(v1.length:Int))))<|
 .cal aJ.c ((v1.getD v3.toNat (Ty.zero .half)).tuple,()) λc1=>
 .ite (!c1) (.ret (.out ()))<|
 .cal aa.c ((v1.getD v3.toNat (Ty.zero .half)).iss,32,()) λc2=>
 .ite (!c2) (.ret (.out ()))<|
 .cal aa.c ((v1.getD v3.toNat (Ty.zero .half)).irs,32,()) λc3=>
 .ite (!c3) (.ret (.out ()))<|
 .cal aa.c ((v1.getD v3.toNat (Ty.zero .half)).window,16,()) λc4=>
 .ite (!c4) (.ret (.out ()))<|
 .cal az.c ((v1.getD v3.toNat (Ty.zero .half)).opts,()) λc5=>
 .ite (!c5) (.ret (.out ()))<|
 .val (bq.f ((v1.getD v3.toNat (Ty.zero .half)).age,0,6,())) λc6=>
 .ite (!c6) (.ret (.out ()))<|
 .cal aR.c (v0,(v1.getD v3.toNat (Ty.zero .half)).tuple,()) λc7=>
 .ite (c7 != v3) (.ret (.out ()))<|
 .ret (.next ())
noncomputable def fB:lr.V→LC lr (Unit) ((Unit)) (((Unit))⊕(Int×Unit)):=λ(v0,v1,v2,v3,_)=>⟨v3,(),λv3 _=>(v0,v1,v2,v3,()),λv3 _=>(decide (v3<v2)),pG v0 v1,up,1,(Int.toNat (v2-v3)),.inl,λi a=> .inr (i,a),λ_ k w=>Sum.elim (λ_=>k .ret (Sh.enc ⟨[zb 2],[]⟩ (false,()))) (λ_=>k (.exit 0) (Sh.enc ⟨[zu 2],[]⟩ ())) w⟩
theorem He:LS Tryz.prog CX [0] (bR 0 lr fB):=aW st (aj BQ) _ fB [] trivial
theorem Ho {v0 v1:List Half}{v2 v3:Int}(h0:0≤v3)(h1:v2≤4611686018427387904)(h2:wS v0)(h3:v2≤(v1.length:Int)):(fB (v0,v1,v2,v3,())).U v2 (λ_ _=>True) (λ_=>True):=
 LC.okU (i:=v3) (a:=()) (λ_ _=>rfl) (λ_=>rfl) rfl h0 h1 trivial λv3 _ hj hk hv=>by
  refine Tr.G2 ?_ λ_=>Tr.C trivial λ_ _ _=>Tr.I (λ_=>Tr.Ro trivial) λ_=>Tr.C trivial λ_ _ _=>Tr.I (λ_=>Tr.Ro trivial) λ_=>Tr.C trivial λ_ _ _=>Tr.I (λ_=>Tr.Ro trivial) λ_=>Tr.C trivial λ_ _ _=>Tr.I (λ_=>Tr.Ro trivial) λ_=>Tr.C trivial λ_ _ _=>Tr.I (λ_=>Tr.Ro trivial) λ_=>Tr.V λ_ _=>Tr.I (λ_=>Tr.Ro trivial) λ_=>Tr.C ?_ λ_ _ _=>Tr.Z (by kernel_rfl)
  all_goals (grind)
noncomputable def fE:FT (List Half×Unit) (Bool) (λx=>wS x.1) (λx v=>(v=true→x.1.length≤64)):=⟨λ(x0,_)=>
  .ite (decide (64<(x0.length:Int))) (.ret false)<|
  .lp (fB (x0,x0,(x0.length:Int),0,())).lp λw8=> .sum w8 (λ_=>
  .ret false)<|
  λ_=>
  .ret true,
 λ(x0,_) hp=>by
  refine Tr.I (λ_=>Tr.R ?_) λ_=>Tr.L (Ho ?_ ?_ ?_ ?_) (λ_ _=>Tr.Sr (Tr.R ?_)) (λ_ _=>Tr.Sl (Tr.R ?_))
  all_goals ((try simp only[fB,LC.lp,LC.ct,Ct.lp]at*)<;>grind)⟩
noncomputable def Dh:=aV st CX BQ [(bR 0 lr fB)] (ks:=[.sc (.sl .half)]) fE (λv=>[(false,[.c (.bool v)])]) Tryz.func103 ⟨He,trivial⟩
noncomputable def yl:FT (Door×Int×Segm×Unit) (Door×List Segm×Int) (λx=>aD x.1∧ao x.2.2.1∧0≤x.2.1∧x.2.1<x.1.table.conns.length) (λx v=>aD v.1∧sL ao v.2.1):=⟨λ(x0,x1,x2,_)=>
  .cal fj.c (x0,()) λc1=>
  .grd ((decide (0≤x1))&&(decide (x1<(x0.table.conns.length:Int))))<|
  .cal qA.c ((x0.table.conns.getD x1.toNat (Ty.zero .conn)),x2,()) λc2=>
  .grd ((decide (0≤x1))&&(decide (x1<(c1.table.conns.length:Int))))<|
  .ite (c2.2.2==3) (.ite (x0.chal==x0.limits.chal) (.ret (({c1 with table.conns:=(c1.table.conns.set x1.toNat c2.1)}:Door),[],0))<|
   .ret (({c1 with table.conns:=(c1.table.conns.set x1.toNat c2.1),chal:=(IntKind.wrap .i64 (x0.chal+1))}:Door),c2.2.1,0))<|
  .ret (({c1 with table.conns:=(c1.table.conns.set x1.toNat c2.1)}:Door),c2.2.1,0),
 λ(x0,x1,x2,_) hp=>by
  refine Tr.C ?_ λ_ _ _=>Tr.G2 ?_ λ_=>Tr.C ?_ λ_ _ _=>Tr.G2 ?_ λ_=>Tr.I (λ_=>Tr.I (λ_=>Tr.R ?_) λ_=>Tr.R ?_) λ_=>Tr.R ?_
  all_goals (grind)⟩
noncomputable def Rz:=bf st Tryz.func194 [kr,yg] (ks:=[.st .door,.sc (.int .i64),.st .segm]) yl (λv=>[(true,oz (.o true) (.o true) (.o true) (.o true) (.o true) v.1),(false,[sc (.o true) .segm v.2.1]),(false,[.c (.int .i64 v.2.2)])])
noncomputable def R2:=[rB,Dh]
noncomputable def R6:Fx:=⟨302,Tryz.f302,[(3000002,rA 0 22)],0⟩
noncomputable def oy:FT (List Half×Half×Int×Unit) (List Half×Bool) (λx=>sS x.1) (λx v=>sS v.1):=⟨λ(x0,x1,x2,_)=>
  .cal eE.c (x0,()) λc1=>
  .grd (Nat.ble ((2*(c1.length+1)+1024)*96) aF)<|
  .bnd (β:=Bool×Unit) (.ite (decide (x2≤(x0.length:Int))) (.ret (true,()))<|
   .cal fE.c ((c1++[x1]),()) λc2=>
   .ret ((!c2),())) λ(u3a0,_)=>
  .ite u3a0 (.cal eE.c (x0,()) λc4=>
   .ret (c4,false))<|
  .ret ((c1++[x1]),true),
 λ(x0,x1,x2,_) hp=>by
  refine Tr.C ?_ λc1 _ _=>Tr.Gb ?_ λ_=>Tr.B (Q':=λw=>(w.1=false→(c1++[x1]).length≤64)) (Tr.I (λ_=>Tr.R ?_) λ_=>Tr.C ?_ λ_ _ _=>Tr.R ?_) (λ(u3a0,_) _ _=>Tr.I (λ_=>Tr.C ?_ λ_ _ _=>Tr.R ?_) λ_=>Tr.R ?_)
  all_goals ((try simp only[Tr.nice,bo]at*)<;>grind)⟩
noncomputable def UZ:=aV st R6 R2 [] (ks:=[.sc (.sl .half),.st .half,.sc (.int .i64)]) oy (λv=>[(false,[sc (.o true) .half v.1]),(false,[.c (.bool v.2)])]) Tryz.func302 trivial
noncomputable def P5:=[QT,B8,mf]
def D8:An:=⟨⟨[],[],false,0⟩,⟨[3,4,5,6,7],[],false,0⟩,⟨[],[]⟩,[(.normal,⟨[zp 3 0,zp 4 1,zp 5 2,zi 6,zi 7],[.box [.st .door [.sl .arg,.sl .arg,.sl .arg,.sl .arg,.sl .arg]],.box [.st .tupl []],.box [.st .segm []]]⟩)]⟩
noncomputable def QP:Fx:=⟨328,Tryz.f328,[(1000012,D8)],0⟩
noncomputable def uH:FT (Door×Tupl×Segm×Unit) (Int) (λx=>aD x.1∧ao x.2.2.1) (λ_ _=>True):=⟨λ(x0,x1,x2,_)=>
  .bnd (β:=Int×Int×Door×Tupl×Segm×Unit) (.ite (x2.opts.mss==0) (.ret (0,536,x0,x1,x2,()))<|
   .ret (0,x2.opts.mss,x0,x1,x2,())) λ(_,u1a1,u1a2,u1a3,u1a4,_)=>
  .cal uY.c (u1a1,()) λc2=>
  .cal rC.c (u1a2.keys.now,u1a3,u1a4.seq,u1a2.keys.epoch,c2,()) λc3=>
  .val (fO.f (0,c3,())) λc4=>
  .ret c4,
 λ(x0,x1,x2,_) hp=>by
  refine Tr.B (Q':=λw=>aD w.2.2.1∧ao w.2.2.2.2.1) (Tr.I (λ_=>Tr.R ?_) λ_=>Tr.R ?_) (λ(u1a0,u1a1,u1a2,u1a3,u1a4,_) _ _=>Tr.C trivial λ_ _ _=>Tr.C ?_ λ_ _ _=>Tr.F (by kernel_rfl) trivial)
  all_goals ((try simp only[Tr.nice,bo]at*)<;>grind)⟩
noncomputable def QR:=aV st QP P5 [] (ks:=[.st .door,.st .tupl,.st .segm]) uH (λv=>[(false,[.c (.int .i64 v)])]) Tryz.func328 trivial
noncomputable def kb:FT (Mac×Tupl×Int×Int×Int×Unit) (Int) (λx=>fH x.1) (λ_ _=>True):=⟨λ(x0,x1,x2,x3,x4,_)=>
  .cal fZ.c (x1,x2,x3,x4,()) λc1=>
  .ite (c1==[]) (.ret (-1))<|
  .val (IntKind.wrap .i64 ((IntKind.wrap .i64 ((x3.tmod 32)*134217728))+(IntKind.wrap .i64 (x4*16777216)))) λe2=>
  .cal qm.c (x0,c1,()) λc3=>
  .ret (IntKind.wrap .i64 (e2+c3)),
 λ(x0,x1,x2,x3,x4,_) hp=>by
  refine Tr.C trivial λ_ _ _=>Tr.I (λ_=>Tr.R trivial) λ_=>Tr.V λ_ _=>Tr.C ?_ λ_ _ _=>Tr.R trivial
  all_goals (grind)⟩
noncomputable def A8:=bf st Tryz.func396 [Qg,XX] (ks:=[.st .mac,.st .tupl,.sc (.int .i64),.sc (.int .i64),.sc (.int .i64)]) kb (λv=>[(false,[.c (.int .i64 v)])])
noncomputable def am:FT (Curs×Int×Unit) (Int×Curs) (λx=>af x.1) (λx v=>af v.2∧0≤v.1∧(0<x.2.1→v.1<x.2.1)):=⟨λ(y0,x1,_)=>
  .ite (decide (x1≤0)) (.ret (0,y0))<|
  .ite (decide (x1≤256)) (.cal m5.c (y0,()) λc1=>
   .grd (x1 != 0)<|
   .ret ((c1.1.tmod x1),c1.2))<|
  .cal m5.c (y0,()) λc2=>
  .cal m5.c (c2.2,()) λc3=>
  .cal m5.c (c3.2,()) λc4=>
  .cal m5.c (c4.2,()) λc5=>
  .val (IntKind.wrap .i64 ((IntKind.wrap .i64 (c2.1*16777216))+(IntKind.wrap .i64 (c3.1*65536)))) λe6=>
  .val (IntKind.wrap .i64 ((IntKind.wrap .i64 (e6+(IntKind.wrap .i64 (c4.1*256))))+c5.1)) λe7=>
  .grd (x1 != 0)<|
  .ret ((e7.tmod x1),c5.2),
 λ(y0,x1,_) hp=>by
  refine Tr.I (λb0=>Tr.R ?_) λb0=>Tr.I (λb1=>Tr.C ?_ λc1 hc1 qc1=>Tr.G ?_ λg2=>Tr.R ?_) λb1=>Tr.C ?_ λc2 hc2 qc2=>Tr.C ?_ λc3 hc3 qc3=>Tr.C ?_ λc4 hc4 qc4=>Tr.C ?_ λc5 hc5 qc5=>Tr.V λe6 he6=>Tr.V λe7 he7=>Tr.G ?_ λg2=>Tr.R ?_
  all_goals ((first|grind|(refine⟨by grind,HQ ?_,λh=>Bx h⟩;first|grind|(subst_vars;simp only[cQ];omega))))⟩
noncomputable def aA:=cJ st ⟨141,Tryz.f141,[],1⟩ [vq] [] [.wr false [.ptr 0],.sc (.int .i64)] [.box [.st .curs]] (λx y=>(y.1.1,x.2.1,())) am (λv=>[(false,[.c (.int .i64 v.1)])]) (λx y v=>((v.2,()),())) Tryz.func141 (by kernel_rfl) trivial
noncomputable def cD:FT (List MacRow×MacRow×Unit) (Bool) (λx=>sL cm x.1∧cm x.2.1) (λ_ _=>True):=⟨λ(x0,y1_0,_)=>
  .cal fG.c (x0,y1_0,()) λc1=>
  .ret (decide (0≤c1)),
 λ(x0,y1_0,_) hp=>by
  refine Tr.C ?_ λ_ _ _=>Tr.R trivial
  all_goals (grind)⟩
noncomputable def mq:=cJ st ⟨320,Tryz.f320,[],1⟩ [n6] [] [.sc (.sl .macRow),.fn 321 [0]] [.box [.st .macRow]] (λx y=>(x.1,y.1.1,())) cD (λv=>[(false,[.c (.bool v)])]) (λx y v=>((y.1.1,()),())) Tryz.func320 (by kernel_rfl) trivial
noncomputable def vS:=[Gp,JP,QS,B8]
def i3:Sh:=⟨[zi 2,zi 3,zp 4 0,zp 5 1,zi 12,zi 14],[.box [.st .keys [.sl .arg,.sl .arg]],.box [.st .tupl []]]⟩
noncomputable def vR:Fx:=⟨14,Tryz.f14,[(0,lb [2,3,4,5,12,14] [8,9,10]),(3000002,rA 0 29),(3000008,rA 0 59)],0⟩
noncomputable def lQ (v0 v1 v2:Int)(v4:Keys)(v5:Tupl)(v3:Int)(a:Unit):Tr (Stp (Unit) ((Int)⊕(Unit))):=
 .ite (decide ((IntKind.wrap .i64 (v4.epoch-1))≤v3)) (.cal uG.c (v4,v3,()) λc4=>
  .bnd (β:=Bool×Unit) (.ite c4.2 (.cal rC.c (c4.1,v5,v0,v3,v2,()) λc5=>
    .ret ((c5==v1),()))<|
   .ret (false,())) λ(u6a0,_)=>
  .ite u6a0 (.ret (.out (.inl v3)))<|
  .ret (.next ()))<|
 .ret (.out (.inr (())))
noncomputable def dz:i3.V→LC i3 (Unit) ((Int)⊕(Unit)) (((Int)⊕(Unit))⊕(Int×Unit)):=λ(v0,v1,v2,v3,v4,v5,_)=>⟨v3,(),λv3 _=>(v0,v1,v2,v3,v4,v5,()),λv3 _=>(decide (0≤v3)),lQ v0 v1 v2 v4 v5,dn,(-1),(Int.toNat (v3-0+1)),.inl,λi a=> .inr (i,a),λ_ k w=>Sum.elim (λq=>Sum.elim (λp=>k .ret (Sh.enc ⟨[zi 8,zi 9,zb 10],[]⟩ (p,v2,true,()))) (λ_=>k (.exit 0) (Sh.enc ⟨[zu 8,zu 9,zu 10],[]⟩ ())) q) (λ_=>k (.exit 0) (Sh.enc ⟨[zu 8,zu 9,zu 10],[]⟩ ())) w⟩
theorem AP:LS Tryz.prog vR [0] (bR 0 i3 dz):=aW st (aj vS) _ dz [] trivial
theorem Au {v0 v1 v2 v3:Int}{v4:Keys}{v5:Tupl}(h0:v3≤9223372036854775807)(h1:cC v4):(dz (v0,v1,v2,v3,v4,v5,())).D 0 (λ_ _=>True) (λ_=>True):=
 LC.okD (i:=v3) (a:=()) (λ_ _=>rfl) (λ_=>rfl) rfl h0 (by decide) trivial λv3 _ hj hk hv=>by
  refine Tr.I (λ_=>Tr.C ?_ λ_ _ _=>Tr.B (Q':=λ_=>True) (Tr.I (λ_=>Tr.C ?_ λ_ _ _=>Tr.R trivial) λ_=>Tr.R trivial) (λ(u6a0,_) _ _=>Tr.Z (by kernel_rfl))) λ_=>Tr.Ro trivial
  all_goals ((try simp only[Tr.nice,bo]at*)<;>grind)
noncomputable def oL:FT (Keys×Tupl×Int×Int×Unit) (Int×Int×Bool) (λx=>cC x.1) (λ_ _=>True):=⟨λ(x0,x1,x2,x3,_)=>
  .cal oQ.c (x3,()) λc1=>
  .bnd (β:=Bool×Unit) (.cal xu.c (x0,()) λc2=>
   .ite (!c2) (.ret (true,()))<|
   .ret ((decide (c1.2.1<0)),())) λ(u3a0,_)=>
  .ite u3a0 (.ret (0,0,false))<|
  .lp (dz (x2,x3,c1.2.1,x0.epoch,x0,x1,())).lp λw7=> .sum w7 (λq7=> .sum q7 (λp7a0=>
  .ret (p7a0,c1.2.1,true))<|
  λ_=>
  .ret (0,0,false))<|
  λ_=>
  .ret (0,0,false),
 λ(x0,x1,x2,x3,_) hp=>by
  refine Tr.C trivial λ_ _ _=>Tr.B (Q':=λw=>(w.1=false→0≤x0.epoch∧x0.epoch≤4294967295)) (Tr.C ?_ λ_ _ _=>Tr.I (λ_=>Tr.R ?_) λ_=>Tr.R ?_) (λ(u3a0,_) _ _=>Tr.I (λ_=>Tr.R trivial) λ_=>Tr.L (Au ?_ ?_) (λ_ _=>Tr.Sr (Tr.R trivial)) (Tr.W2 (λp7a0 _=>Tr.Sl (Tr.Sl (Tr.R trivial))) (λ_ _=>Tr.Sl (Tr.Sr (Tr.R trivial)))))
  all_goals ((try simp only[dz,LC.lp,LC.ct,Ct.lp,Tr.nice,bo]at*)<;>grind)⟩
noncomputable def G8:=aV st vR vS [(bR 0 i3 dz)] (ks:=[.st .keys,.st .tupl,.sc (.int .i64),.sc (.int .i64)]) oL (λv=>[(false,[.c (.int .i64 v.1)]),(false,[.c (.int .i64 v.2.1)]),(false,[.c (.bool v.2.2)])]) Tryz.func14 ⟨AP,trivial⟩
noncomputable def YH:=[CZ,jm,kr,m9,dJ,Bn,FY,Vm,G8,zW]
noncomputable def YP:Fx:=⟨197,Tryz.f197,[(3000001,rA 0 27)],0⟩
noncomputable def De:FT (Door×Tupl×Segm×Unit) (Door×List Segm×Int) (λx=>aD x.1∧ao x.2.2.1) (λx v=>aD v.1∧sL ao v.2.1):=⟨λ(x0,x1,x2,_)=>
  .bnd (β:=Bool×Unit) (.cal qL.c (x0,x1,x2,()) λc1=>
   .ite (!c1) (.ret (true,()))<|
   .cal fx.c (x0.table,x1,()) λc2=>
   .ret ((decide (0≤c2)),())) λ(u3a0,_)=>
  .ite u3a0 (.cal fj.c (x0,()) λc4=>
   .ret (c4,[],0))<|
  .cal jt.c (x0.halves,x1,()) λc5=>
  .ite (decide (0≤c5)) (.grd ((decide (0≤c5))&&(decide (c5<(x0.halves.length:Int))))<|
   .val (bN.f ((x0.halves.getD c5.toNat (Ty.zero .half)).iss,1,())) λc6=>
   .ite (x2.ack != c6) (.cal lT.c (x0,x2,()) λc7=>
    .ret (c7.1,c7.2.1,c7.2.2))<|
   .val (bN.f ((x0.halves.getD c5.toNat (Ty.zero .half)).irs,1,())) λc8=>
   .ite (x2.seq != c8) (.cal fj.c (x0,()) λc9=>
    .ret (c9,[],0))<|
   .cal qp.c (x1,(x0.halves.getD c5.toNat (Ty.zero .half)).iss,(x0.halves.getD c5.toNat (Ty.zero .half)).irs,(x0.halves.getD c5.toNat (Ty.zero .half)).opts,x2.window,()) λc10=>
   .cal wJ.c (x0,c10,x2,1,()) λc11=>
   .ret (c11.1,c11.2.1,c11.2.2))<|
  .val (bN.f (x2.seq,(-1),())) λc12=>
  .val (bN.f (x2.ack,(-1),())) λc13=>
  .cal oL.c (x0.keys,x1,c12,c13,()) λc14=>
  .ite (!c14.2.2) (.cal lT.c (x0,x2,()) λc15=>
   .ret (c15.1,c15.2.1,c15.2.2))<|
  .cal kS.c (c14.2.1,x2.opts,()) λc16=>
  .cal qp.c (x1,c13,c12,c16,x2.window,()) λc17=>
  .cal wJ.c (x0,c17,x2,2,()) λc18=>
  .ret (c18.1,c18.2.1,c18.2.2),
 λ(x0,x1,x2,_) hp=>by
  refine Tr.B (Q':=λ_=>True) (Tr.C ?_ λ_ _ _=>Tr.I (λ_=>Tr.R trivial) λ_=>Tr.C ?_ λ_ _ _=>Tr.R trivial) (λ(u3a0,_) _ _=>Tr.I (λ_=>Tr.C ?_ λ_ _ _=>Tr.R ?_) λ_=>Tr.C ?_ λ_ _ _=>Tr.I (λ_=>Tr.G2 ?_ λ_=>Tr.V λ_ _=>Tr.I (λ_=>Tr.C ?_ λ_ _ _=>Tr.R ?_) λ_=>Tr.V λ_ _=>Tr.I (λ_=>Tr.C ?_ λ_ _ _=>Tr.R ?_) λ_=>Tr.C trivial λ_ _ _=>Tr.C ?_ λ_ _ _=>Tr.R ?_) λ_=>Tr.V λ_ _=>Tr.V λ_ _=>Tr.C ?_ λ_ _ _=>Tr.I (λ_=>Tr.C ?_ λ_ _ _=>Tr.R ?_) λ_=>Tr.C trivial λ_ _ _=>Tr.C trivial λ_ _ _=>Tr.C ?_ λ_ _ _=>Tr.R ?_)
  all_goals ((try simp only[Tr.nice,bo]at*)<;>grind)⟩
noncomputable def Ou:=aV st YP YH [] (ks:=[.st .door,.st .tupl,.st .segm]) De (λv=>[(true,oz (.o true) (.o true) (.o true) (.o true) (.o true) v.1),(false,[sc (.o true) .segm v.2.1]),(false,[.c (.int .i64 v.2.2)])]) Tryz.func197 trivial
noncomputable def NV:=[bF,mq]
def qh:Sh:=⟨[zp 1 0,(27,false,[.sl .arg .macRow]),zi 28,zi 29],[.box [.st .mac [.sl .arg]]]⟩
noncomputable def Pl:Fx:=⟨202,Tryz.f202,[(0,lb [1,27,28,29] [2]),(3000003,rA 0 25)],0⟩
noncomputable def pW (v0:List MacRow)(v3:Mac)(v2:Int)(a:Unit):Tr (Stp (Unit) ((Unit))):=
 .grd ((decide (0≤v2))&&(decide (v2<(v0.length:Int))))<|
 .val (bq.f ((v0.getD v2.toNat (Ty.zero .macRow)).value,0,16777215,())) λc2=>
 .ite (!c2) (.ret (.out ()))<|
 .grd ((decide (0≤v2))&&(decide (v2≤(v3.rows.length:Int))))<|
 .cal cD.c (((v3.rows.take v2.toNat).drop 0),(v0.getD v2.toNat (Ty.zero .macRow)),()) λc3=>
 .ite c3 (.ret (.out ()))<|
 .ret (.next ())
noncomputable def jf:qh.V→LC qh (Unit) ((Unit)) (((Unit))⊕(Int×Unit)):=λ(v0,v1,v2,v3,_)=>⟨v2,(),λv2 _=>(v0,v1,v2,v3,()),λv2 _=>(decide (v2<v1)),pW v0 v3,up,1,(Int.toNat (v1-v2)),.inl,λi a=> .inr (i,a),λ_ k w=>Sum.elim (λ_=>k .ret (Sh.enc ⟨[zb 2],[]⟩ (false,()))) (λ_=>k (.exit 0) (Sh.enc ⟨[zu 2],[]⟩ ())) w⟩
theorem Qi:LS Tryz.prog Pl [0] (bR 0 qh jf):=aW st (aj NV) _ jf [] trivial
theorem Q5 {v0:List MacRow}{v1 v2:Int}{v3:Mac}(h0:0≤v2)(h1:v1≤4611686018427387904)(h2:sL cm v0)(h3:fH v3)(h4:v1≤(v0.length:Int))(h5:v1≤(v3.rows.length:Int)):(jf (v0,v1,v2,v3,())).U v1 (λ_ _=>True) (λ_=>True):=
 LC.okU (i:=v2) (a:=()) (λ_ _=>rfl) (λ_=>rfl) rfl h0 h1 trivial λv2 _ hj hk hv=>by
  refine Tr.G2 ?_ λ_=>Tr.V λ_ _=>Tr.I (λ_=>Tr.Ro trivial) λ_=>Tr.G2 ?_ λ_=>Tr.C ?_ λ_ _ _=>Tr.Z (by kernel_rfl)
  all_goals (grind)
noncomputable def vt:FT (Mac×Unit) (Bool) (λx=>fH x.1) (λx v=>(v=true→x.1.rows.length≤64)):=⟨λ(x0,_)=>
  .ite (!x0.use) (.ret ((x0.rows.length:Int)==0))<|
  .bnd (β:=Bool×Unit) (.ite (x0.k != 0) (.ret (true,()))<|
   .ite (x0.l != 0) (.ret (true,()))<|
   .ret ((decide (64<(x0.rows.length:Int))),())) λ(u1a0,_)=>
  .ite u1a0 (.ret false)<|
  .lp (jf (x0.rows,(x0.rows.length:Int),0,x0,())).lp λw4=> .sum w4 (λ_=>
  .ret false)<|
  λ_=>
  .ret true,
 λ(x0,_) hp=>by
  refine Tr.I (λ_=>Tr.R ?_) λ_=>Tr.B (Q':=λ_=>True) (Tr.F (by kernel_rfl) trivial) (λ(u1a0,_) _ _=>Tr.I (λ_=>Tr.R ?_) λ_=>Tr.L (Q5 ?_ ?_ ?_ ?_ ?_ ?_) (λ_ _=>Tr.Sr (Tr.R ?_)) (λ_ _=>Tr.Sl (Tr.R ?_)))
  all_goals ((try simp only[jf,LC.lp,LC.ct,Ct.lp,Tr.nice,bo]at*)<;>grind)⟩
noncomputable def XN:=aV st Pl NV [(bR 0 qh jf)] (ks:=[.st .mac]) vt (λv=>[(false,[.c (.bool v)])]) Tryz.func202 ⟨Qi,trivial⟩
noncomputable def qY:FT (Door×Tupl×Segm×Unit) (Segm) (λx=>aD x.1∧ao x.2.2.1) (λx v=>ao v):=⟨λ(x0,x1,x2,_)=>
  .cal uH.c (x0,x1,x2,()) λc1=>
  .val (bN.f (x2.seq,1,())) λc2=>
  .val (lA.f (x2.opts,x0.clock,())) λc3=>
  .ret (⟨x1.my,x1.port,c1,c2,18,32,c3,[]⟩:Segm),
 λ(x0,x1,x2,_) hp=>by
  refine Tr.C ?_ λ_ _ _=>Tr.V λ_ _=>Tr.V λ_ _=>Tr.R ?_
  all_goals (grind)⟩
noncomputable def IU:=bf st Tryz.func211 [QR,dJ,BX] (ks:=[.st .door,.st .tupl,.st .segm]) qY (λv=>[(true,qU v)])
noncomputable def oi:FT (Door×Tupl×Segm×Unit) (Int) (λx=>aD x.1∧ao x.2.2.1) (λ_ _=>True):=⟨λ(x0,x1,x2,_)=>
  .val (yq.f (x2.opts,())) λc1=>
  .cal jy.c (c1,()) λc2=>
  .cal kb.c (x0.keys.now,x1,x2.seq,x0.keys.epoch,c2,()) λc3=>
  .ret (if 0<c3 then c3 else 0),
 λ(x0,x1,x2,_) hp=>by
  refine Tr.V λ_ _=>Tr.C trivial λ_ _ _=>Tr.C ?_ λ_ _ _=>Tr.R trivial
  all_goals (grind)⟩
noncomputable def Px:=bf st Tryz.func391 [SE,P9,A8] (ks:=[.st .door,.st .tupl,.st .segm]) oi (λv=>[(false,[.c (.int .i64 v)])])
noncomputable def bG:FT (Curs×Int×Unit) (Bool×Curs) (λx=>af x.1) (λx v=>af v.2):=⟨λ(y0,x1,_)=>
  .cal am.c (y0,x1,()) λc1=>
  .ret ((c1.1==0),c1.2),
 λ(y0,x1,_) hp=>by
  refine Tr.C ?_ λ_ _ _=>Tr.R ?_
  all_goals (grind)⟩
noncomputable def bT:=cJ st ⟨208,Tryz.f208,[],1⟩ [aA] [] [.wr false [.ptr 0],.sc (.int .i64)] [.box [.st .curs]] (λx y=>(y.1.1,x.2.1,())) bG (λv=>[(false,[.c (.bool v.1)])]) (λx y v=>((v.2,()),())) Tryz.func208 (by kernel_rfl) trivial
noncomputable def CU:=[aA,sH,bT,aar]
def lC:Sh:=⟨[zp 0 0,(3,false,[.own 1]),zi 4,zi 5],[.box [.st .curs [.sl .any]],.arr .entr false true]⟩
noncomputable def BF:Fx:=⟨263,Tryz.f263,[(0,la ⟨[0,3,4,5],[],false,1⟩ ⟨[2,3],[],false,1⟩)],1⟩
noncomputable def GA (v1:Int)(a:Curs×List Entr):Tr (Stp (Curs×List Entr) (Empty)):=
 .cal am.c (a.1,7,()) λc2=>
 .cal am.c (c2.2,3,()) λc3=>
 .cal oe.c (a.2,(IntKind.wrap .i64 (167772160+c2.1)),(IntKind.wrap .i64 (11+c3.1)),()) λc4=>
 .cal bG.c (c3.2,2,()) λc5=>
 .ite c5.1 (.cal Zm.c (c4,()) λc6=>
  .ret (.next (c5.2,c6)))<|
 .ret (.next (c5.2,c4))
noncomputable def gG:lC.V→LC lC (Curs×List Entr) (Empty) (Int×(Curs×List Entr)):=λ(v0,v1,v2,v3,_)=>⟨v1,(v2,v3),λv1 a=>(v0,v1,a.1,a.2,()),λv1 _=>(decide (v1<v0)),GA,up,1,(Int.toNat (v0-v1)),(λp=>Empty.elim p),λi a=>(i,a),λ_ k x=>k (.exit 0) (Sh.enc ⟨[zu 2,(3,false,[.own 1])],[.box [.st .curs [.sl .any]],.arr .entr false true]⟩ (x.2.1,x.2.2,()))⟩
theorem G5:LS Tryz.prog BF [0] (bR 0 lC gG):=aW st (aj CU) _ gG [] trivial
theorem Gy {v0 v1:Int}{v2:Curs}{v3:List Entr}(h0:0≤v1)(h1:v0≤4611686018427387904)(h2:v0≤6)(h3:af v2∧sS v3∧(v3.length:Int)≤v1):(gG (v0,v1,v2,v3,())).U v0 (λv1 a=>af a.1∧sS a.2∧(a.2.length:Int)≤v1) (λ_=>True):=
 LC.okU (i:=v1) (a:=(v2,v3)) (λ_ _=>rfl) (λ_=>rfl) rfl h0 h1 h3 λv1 (v2,v3) hj hk hv=>by
  refine Tr.C ?_ λ_ _ _=>Tr.C ?_ λ_ _ _=>Tr.C ?_ λ_ _ _=>Tr.C ?_ λ_ _ _=>Tr.I (λ_=>Tr.C ?_ λ_ _ _=>Tr.Rn ?_) λ_=>Tr.Rn ?_
  all_goals (grind)
noncomputable def u7:FT (Curs×Unit) (List Entr×Curs) (λx=>af x.1) (λx v=>sS v.1∧af v.2∧v.1.length≤6):=⟨λ(y0,_)=>
  .cal am.c (y0,6,()) λc1=>
  .lp (gG (c1.1,0,c1.2,[],())).lp λ(_,a7_0,a7_1)=>
  .ret (a7_1,a7_0),
 λ(y0,_) hp=>by
  refine Tr.C ?_ λ_ _ _=>Tr.L (Gy ?_ ?_ ?_ ?_) (λ(a7_0,a7_1) _=>Tr.R ?_) (λp=>Empty.elim p)
  all_goals ((try simp only[gG,LC.lp,LC.ct,Ct.lp]at*)<;>grind)⟩
noncomputable def uV:=cJ st BF CU [(bR 0 lC gG)] [.wr false [.ptr 0]] [.box [.st .curs]] (λx y=>(y.1.1,())) u7 (λv=>[(false,[sc (.o true) .entr v.1])]) (λx y v=>((v.2,()),())) Tryz.func263 (by kernel_rfl) ⟨G5,trivial⟩
noncomputable def V2:=[bF,XN,Fi]
def MV:An:=⟨⟨[],[],false,0⟩,⟨[1,2,3],[],false,0⟩,⟨[],[]⟩,[(.normal,⟨[zp 1 0,zb 2,zi 3],[.box [.st .keys [.sl .arg,.sl .arg]]]⟩)]⟩
noncomputable def WC:Fx:=⟨101,Tryz.f101,[(1000005,MV)],0⟩
noncomputable def iD:FT (Keys×Unit) (Bool) (λx=>cC x.1) (λx v=>(v=true→0≤x.1.epoch∧x.1.epoch≤4294967295)):=⟨λ(x0,_)=>
  .bnd (β:=Bool×Int×Keys×Unit) (.ite x0.two (.ret (false,1,x0,()))<|
   .ret (false,0,x0,())) λ(_,u1a1,u1a2,_)=>
  .val (bq.f (u1a2.epoch,u1a1,4294967295,())) λc2=>
  .ite c2 (.cal vt.c (u1a2.now,()) λc3=>
   .ite c3 (.cal vt.c (u1a2.before,()) λc4=>
    .ite c4 (.ite u1a2.two (.ret true)<|
     .cal n7.c (u1a2.before,(⟨false,0,0,[]⟩:Mac),()) λc5=>
     .ret c5)<|
    .ret false)<|
   .ret false)<|
  .ret false,
 λ(x0,_) hp=>by
  refine Tr.B (Q':=λw=>cC w.2.2.1∧0≤w.2.1∧w.2.2.1=x0) (Tr.I (λb0=>Tr.R ?_) λb0=>Tr.R ?_) (λ(u1a0,u1a1,u1a2,_) hj1 qj1=>Tr.V λc2 hc2=>Tr.I (λb0=>Tr.C ?_ λc3 hc3 qc3=>Tr.I (λb1=>Tr.C ?_ λc4 hc4 qc4=>Tr.I (λb2=>Tr.I (λb3=>Tr.R ?_) λb3=>Tr.C ?_ λc5 hc5 qc5=>Tr.R ?_) λb2=>Tr.R ?_) λb1=>Tr.R ?_) λb0=>Tr.R ?_)
  all_goals ((try simp only[Tr.nice,bo]at*)<;>grind)⟩
noncomputable def LN:=aV st WC V2 [] (ks:=[.st .keys]) iD (λv=>[(false,[.c (.bool v)])]) Tryz.func101 trivial
noncomputable def BZ:FT (Door×Tupl×Segm×Unit) (Door×List Segm) (λx=>aD x.1∧ao x.2.2.1) (λx v=>aD v.1∧sL ao v.2):=⟨λ(x0,x1,x2,_)=>
  .cal fj.c (x0,()) λc1=>
  .cal qL.c (x0,x1,x2,()) λc2=>
  .ite (!c2) (.ret (c1,[]))<|
  .cal qY.c (x0,x1,x2,()) λc3=>
  .cal jt.c (x0.halves,x1,()) λc4=>
  .ite (decide (0≤c4)) (.grd ((decide (0≤c4))&&(decide (c4<(x0.halves.length:Int))))<|
   .ite ((x0.halves.getD c4.toNat (Ty.zero .half)).irs != x2.seq) (.ret (c1,[]))<|
   .grd ((decide (0≤c4))&&(decide (c4<(x0.halves.length:Int))))<|
   .ret (c1,[({c3 with seq:=(x0.halves.getD c4.toNat (Ty.zero .half)).iss}:Segm)]))<|
  .cal fx.c (x0.table,x1,()) λc5=>
  .ite (decide (c5<0)) (.val (oW.f (x2.opts,())) λc6=>
   .cal ub.c (c1.halves,(⟨x1,c3.seq,x2.seq,c6,0,x2.window⟩:Half),x0.limits.halves,()) λc7=>
   .ret (({c1 with halves:=c7.1}:Door),[c3]))<|
  .ret (c1,[c3]),
 λ(x0,x1,x2,_) hp=>by
  refine Tr.C ?_ λ_ _ _=>Tr.C ?_ λ_ _ _=>Tr.I (λ_=>Tr.R ?_) λ_=>Tr.C ?_ λ_ _ _=>Tr.C ?_ λ_ _ _=>Tr.I (λ_=>Tr.G2 ?_ λ_=>Tr.I (λ_=>Tr.R ?_) λ_=>Tr.G2 ?_ λ_=>Tr.R ?_) λ_=>Tr.C ?_ λ_ _ _=>Tr.I (λ_=>Tr.V λ_ _=>Tr.C ?_ λ_ _ _=>Tr.R ?_) λ_=>Tr.R ?_
  all_goals (grind)⟩
noncomputable def OO:=bf st Tryz.func196 [kr,CZ,IU,m9,jm,Hq,FC] (ks:=[.st .door,.st .tupl,.st .segm]) BZ (λv=>[(true,oz (.o true) (.o true) (.o true) (.o true) (.o true) v.1),(false,[sc (.o true) .segm v.2])])
noncomputable def eI:FT (Door×Tupl×Segm×Unit) (Segm) (λx=>aD x.1∧ao x.2.2.1) (λx v=>ao v):=⟨λ(x0,x1,x2,_)=>
  .cal oi.c (x0,x1,x2,()) λc1=>
  .val (cN.f (x2.seq,1,())) λc2=>
  .val (gH.f (x2.opts,x0.clock,())) λc3=>
  .ret (⟨x1.my,x1.port,c1,c2,18,32,c3,[]⟩:Segm),
 λ(x0,x1,x2,_) hp=>by
  refine Tr.C ?_ λ_ _ _=>Tr.V λ_ _=>Tr.V λ_ _=>Tr.R ?_
  all_goals (grind)⟩
noncomputable def Vj:=bf st Tryz.func301 [Px,ja,BI] (ks:=[.st .door,.st .tupl,.st .segm]) eI (λv=>[(true,qU v)])
noncomputable def vE:=[LN,bQ,GT,QU,A8]
def jo:Sh:=⟨[zi 2,zi 3,zp 4 0,zp 5 1,zi 12,zi 14],[.box [.st .keys [.sl .arg,.sl .arg]],.box [.st .tupl []]]⟩
noncomputable def wa:Fx:=⟨305,Tryz.f305,[(0,lb [2,3,4,5,12,14] [8,9,10]),(3000001,rA 0 24),(3000008,rA 0 57)],0⟩
noncomputable def rz (v0 v1 v2:Int)(v4:Keys)(v5:Tupl)(v3:Int)(a:Unit):Tr (Stp (Unit) ((Int))):=
 .cal oo.c (v4,v3,()) λc5=>
 .bnd (β:=Bool×Unit) (.ite c5.2 (.cal kb.c (c5.1,v5,v0,v3,v2,()) λc6=>
   .ret ((c6==v1),()))<|
  .ret (false,())) λ(u7a0,_)=>
 .ite u7a0 (.ret (.out v3))<|
 .ret (.next ())
noncomputable def dA:jo.V→LC jo (Unit) ((Int)) (((Int))⊕(Int×Unit)):=λ(v0,v1,v2,v3,v4,v5,_)=>⟨v3,(),λv3 _=>(v0,v1,v2,v3,v4,v5,()),λv3 _=>(decide ((if 0<(IntKind.wrap .i64 (v4.epoch-1))then(IntKind.wrap .i64 (v4.epoch-1))else 0)≤v3)),rz v0 v1 v2 v4 v5,dn,(-1),(Int.toNat (v3-(if 0<(IntKind.wrap .i64 (v4.epoch-1))then(IntKind.wrap .i64 (v4.epoch-1))else 0)+1)),.inl,λi a=> .inr (i,a),λ_ k w=>Sum.elim (λp=>k .ret (Sh.enc ⟨[zi 8,zi 9,zb 10],[]⟩ (p,v2,true,()))) (λ_=>k (.exit 0) (Sh.enc ⟨[zu 8,zu 9,zu 10],[]⟩ ())) w⟩
theorem AY:LS Tryz.prog wa [0] (bR 0 jo dA):=aW st (aj vE) _ dA [] trivial
theorem AX {v0 v1 v2 v3:Int}{v4:Keys}{v5:Tupl}(h0:v3≤9223372036854775807)(h1:0≤(if 0<(IntKind.wrap .i64 (v4.epoch-1))then(IntKind.wrap .i64 (v4.epoch-1))else 0))(h2:cC v4):(dA (v0,v1,v2,v3,v4,v5,())).D (if 0<(IntKind.wrap .i64 (v4.epoch-1))then(IntKind.wrap .i64 (v4.epoch-1))else 0) (λ_ _=>True) (λ_=>True):=
 LC.okD (i:=v3) (a:=()) (λ_ _=>rfl) (λ_=>rfl) rfl h0 h1 trivial λv3 _ hj hk hv=>by
  refine Tr.C ?_ λ_ _ _=>Tr.B (Q':=λ_=>True) (Tr.I (λ_=>Tr.C ?_ λ_ _ _=>Tr.R trivial) λ_=>Tr.R trivial) (λ(u7a0,_) _ _=>Tr.Z (by kernel_rfl))
  all_goals ((try simp only[Tr.nice,bo]at*)<;>grind)
noncomputable def de:FT (Keys×Tupl×Int×Int×Unit) (Int×Int×Bool) (λx=>cC x.1) (λ_ _=>True):=⟨λ(x0,x1,x2,x3,_)=>
  .bnd (β:=Bool×Unit) (.cal iD.c (x0,()) λc1=>
   .ite (!c1) (.ret (true,()))<|
   .cal aa.c (x3,32,()) λc2=>
   .ret ((!c2),())) λ(u3a0,_)=>
  .ite u3a0 (.ret (0,0,false))<|
  .cal ib.c (x3,()) λc4=>
  .lp (dA (x2,x3,c4.2.1,x0.epoch,x0,x1,())).lp λw8=> .sum w8 (λp8a0=>
  .ret (p8a0,c4.2.1,true))<|
  λ_=>
  .ret (0,0,false),
 λ(x0,x1,x2,x3,_) hp=>by
  refine Tr.B (Q':=λw=>(w.1=false→0≤x0.epoch∧x0.epoch≤4294967295)) (Tr.C ?_ λ_ _ _=>Tr.I (λ_=>Tr.R ?_) λ_=>Tr.C trivial λ_ _ _=>Tr.R ?_) (λ(u3a0,_) _ _=>Tr.I (λ_=>Tr.R trivial) λ_=>Tr.C trivial λ_ _ _=>Tr.L (AX ?_ ?_ ?_) (λ_ _=>Tr.Sr (Tr.R trivial)) (λp8a0 _=>Tr.Sl (Tr.R trivial)))
  all_goals ((try simp only[dA,LC.lp,LC.ct,Ct.lp,Tr.nice,bo]at*)<;>grind)⟩
noncomputable def Gs:=aV st wa vE [(bR 0 jo dA)] (ks:=[.st .keys,.st .tupl,.sc (.int .i64),.sc (.int .i64)]) de (λv=>[(false,[.c (.int .i64 v.1)]),(false,[.c (.int .i64 v.2.1)]),(false,[.c (.bool v.2.2)])]) Tryz.func305 ⟨AY,trivial⟩
noncomputable def I6:=[aA,vq]
def oT:Sh:=⟨[zp 0 0,(3,false,[.int .u64]),zi 4],[.box [.st .curs [.sl .any]]]⟩
noncomputable def Kr:Fx:=⟨72,Tryz.f72,[(1,la ⟨[0,3,4],[],false,1⟩ ⟨[2,3],[],false,1⟩)],1⟩
noncomputable def MT (v1:Int)(a:Int×Curs):Tr (Stp (Int×Curs) (Empty)):=
 .cal m5.c (a.2,()) λc2=>
 .val (bits .or .u64 (IntKind.wrap .u64 (a.1*256)) (IntKind.wrap .u64 c2.1)) λe3=>
 .ret (.next (e3,c2.2))
noncomputable def jH:oT.V→LC oT (Int×Curs) (Empty) (Int×(Int×Curs)):=λ(v0,v1,v2,_)=>⟨v1,(v0,v2),λv1 a=>(a.1,v1,a.2,()),λv1 _=>(decide (v1<8)),MT,up,1,(Int.toNat (8-v1)),(λp=>Empty.elim p),λi a=>(i,a),λ_ k x=>k (.exit 1) (Sh.enc ⟨[zu 2,(3,false,[.int .u64])],[.box [.st .curs [.sl .any]]]⟩ (x.2.1,x.2.2,()))⟩
theorem NG:LS Tryz.prog Kr [0] (bR 1 oT jH):=aW st (aj I6) _ jH [] trivial
theorem Nc {v0 v1:Int}{v2:Curs}(h0:0≤v1)(h1:af v2):(jH (v0,v1,v2,())).U 8 (λv1 a=>af a.2) (λ_=>True):=
 LC.okU (i:=v1) (a:=(v0,v2)) (λ_ _=>rfl) (λ_=>rfl) rfl h0 (by decide) h1 λv1 (v0,v2) hj hk hv=>by
  refine Tr.C ?_ λ_ _ _=>Tr.V λ_ _=>Tr.Rn ?_
  all_goals (grind)
noncomputable def kY:FT (Curs×Unit) (Int×Curs) (λx=>af x.1) (λx v=>af v.2):=⟨λ(y0,_)=>
  .cal am.c (y0,3,()) λc1=>
  .ite (c1.1==0) (.ret (0,c1.2))<|
  .ite (c1.1==1) (.ret (506097522914230528,c1.2))<|
  .lp (jH (0,0,c1.2,())).lp λ(_,a4_0,a4_1)=>
  .ret (a4_0,a4_1),
 λ(y0,_) hp=>by
  refine Tr.C ?_ λ_ _ _=>Tr.I (λ_=>Tr.R ?_) λ_=>Tr.I (λ_=>Tr.R ?_) λ_=>Tr.L (Nc ?_ ?_) (λ(a4_0,a4_1) _=>Tr.R ?_) (λp=>Empty.elim p)
  all_goals ((try simp only[jH,LC.lp,LC.ct,Ct.lp]at*)<;>grind)⟩
noncomputable def AQ:=cJ st Kr I6 [(bR 1 oT jH)] [.wr false [.ptr 0]] [.box [.st .curs]] (λx y=>(y.1.1,())) kY (λv=>[(false,[.c (.int .u64 v.1)])]) (λx y v=>((v.2,()),())) Tryz.func72 (by kernel_rfl) ⟨NG,trivial⟩
noncomputable def XZ:=[zV,bU,k7,kr,x9,jm,Bn,Rz,yJ,m9,dJ,Cr,OO,Ou]
def zy:An:=⟨⟨[],[],false,0⟩,⟨[3,6,7,8,9,12],[],false,0⟩,⟨[],[]⟩,[(.normal,⟨[zp 3 0,zp 6 1,(7,false,[.nil]),zi 8,(9,false,[.own 2]),zp 12 3],[.box [.st .door [.sl .arg,.sl .arg,.sl .arg,.sl .arg,.sl .arg]],.box [.st .door [.nil .macRow,.nil .macRow,.nil .half,.nil .conn,.nil .tupl]],.arr .segm false true,.box [.st .door [.own 4,.own 5,.own 6,.own 7,.own 8]],.of false true,.of false true,.of false true,.of false true,.of false true]⟩)]⟩
noncomputable def YU:Fx:=⟨83,Tryz.f83,[(1000084,zy),(3000002,rA 0 29),(3000013,rA 0 84),(3000016,rA 0 92),(3000019,rA 0 114)],0⟩
noncomputable def H0:FT (Door×Int×Segm×Unit) (Door×List Segm×Int) (λx=>aD x.1∧ao x.2.2.1) (λx v=>aD v.1∧sL ao v.2.1):=⟨λ(x0,x1,x2,_)=>
  .bnd (β:=Bool×Unit) (.cal tC.c (x0,()) λc1=>
   .ite (!c1) (.ret (true,()))<|
   .cal aE.c (x1,32,()) λc2=>
   .ite (!c2) (.ret (true,()))<|
   .cal iP.c (x2,()) λc3=>
   .ret ((!c3),())) λ(u4a0,_)=>
  .ite u4a0 (.cal fj.c (x0,()) λc5=>
   .ret (c5,[],0))<|
  .val (nX.f (x1,x2,())) λc6=>
  .cal fx.c (x0.table,c6,()) λc7=>
  .ite (x2.to != x0.port) (.cal lT.c (x0,x2,()) λc8=>
   .ret (c8.1,c8.2.1,c8.2.2))<|
  .ite (decide (0≤c7)) (.cal yl.c (x0,c7,x2,()) λc9=>
   .ret (c9.1,c9.2.1,c9.2.2))<|
  .val (ic.f (x2,4,())) λc10=>
  .ite c10 (.cal fj.c (x0,()) λc11=>
   .cal jt.c (x0.halves,c6,()) λc12=>
   .bnd (β:=Bool×Unit) (.ite (decide (0≤c12)) (.grd ((decide (0≤c12))&&(decide (c12<(x0.halves.length:Int))))<|
     .val (bN.f ((x0.halves.getD c12.toNat (Ty.zero .half)).irs,1,())) λc13=>
     .ret ((x2.seq==c13),()))<|
    .ret (false,())) λ(u14a0,_)=>
   .bnd (β:=WT zy.es) (.ite u14a0 (.cal ry.c (x0.halves,c6,()) λc15=>
     .ret (0,x0,(⟨0,0,⟨0,⟨false,0,0,[]⟩,⟨false,0,0,[]⟩,false⟩,⟨0,0,0,0⟩,[],⟨[],[]⟩,0⟩:Door),[],({c11 with halves:=c15}:Door),()))<|
    .ret (0,x0,(⟨0,0,⟨0,⟨false,0,0,[]⟩,⟨false,0,0,[]⟩,false⟩,⟨0,0,0,0⟩,[],⟨[],[]⟩,0⟩:Door),[],c11,())) λ(_,_,_,u16a3,u16a4,_)=>
   .ret (u16a4,u16a3,0))<|
  .bnd (β:=Bool×Unit) (.val (ic.f (x2,2,())) λc17=>
   .ite c17 (.val (ic.f (x2,16,())) λc18=>
    .ite (!c18) (.val (ic.f (x2,1,())) λc19=>
     .ret ((!c19),()))<|
    .ret (false,()))<|
   .ret (false,())) λ(u20a0,_)=>
  .ite u20a0 (.cal BZ.c (x0,c6,x2,()) λc21=>
   .ret (c21.1,c21.2,0))<|
  .bnd (β:=Bool×Unit) (.val (ic.f (x2,16,())) λc22=>
   .ite c22 (.val (ic.f (x2,2,())) λc23=>
    .ret ((!c23),()))<|
   .ret (false,())) λ(u24a0,_)=>
  .ite u24a0 (.cal De.c (x0,c6,x2,()) λc25=>
   .ret (c25.1,c25.2.1,c25.2.2))<|
  .val (ic.f (x2,16,())) λc26=>
  .ite c26 (.cal lT.c (x0,x2,()) λc27=>
   .ret (c27.1,c27.2.1,c27.2.2))<|
  .cal fj.c (x0,()) λc28=>
  .ret (c28,[],0),
 λ(x0,x1,x2,_) hp=>by
  refine Tr.B (Q':=λw=>(w.1=false→x0.table.conns.length≤16∧x2.body.length≤1420)) (Tr.C ?_ λ_ _ _=>Tr.I (λ_=>Tr.R ?_) λ_=>Tr.C trivial λ_ _ _=>Tr.I (λ_=>Tr.R ?_) λ_=>Tr.C trivial λ_ _ _=>Tr.R ?_) (λ(u4a0,_) _ _=>Tr.I (λ_=>Tr.C ?_ λ_ _ _=>Tr.R ?_) λ_=>Tr.V λ_ _=>Tr.C ?_ λ_ _ _=>Tr.I (λ_=>Tr.C ?_ λ_ _ _=>Tr.R ?_) λ_=>Tr.I (λ_=>Tr.C ?_ λ_ _ _=>Tr.R ?_) λ_=>Tr.V λ_ _=>Tr.I (λ_=>Tr.C ?_ λ_ _ _=>Tr.C ?_ λ_ _ _=>Tr.B (Q':=λ_=>True) (Tr.I (λ_=>Tr.G2 ?_ λ_=>Tr.F (by kernel_rfl) trivial) λ_=>Tr.R trivial) (λ(u14a0,_) _ _=>Tr.B (Q':=λw=>aD w.2.1∧aD w.2.2.1∧sL ao w.2.2.2.1∧aD w.2.2.2.2.1) (Tr.I (λ_=>Tr.C ?_ λ_ _ _=>Tr.R ?_) λ_=>Tr.R ?_) (λ(u16a0,u16a1,u16a2,u16a3,u16a4,_) _ _=>Tr.R ?_))) λ_=>Tr.B (Q':=λ_=>True) (Tr.F (by kernel_rfl) trivial) (λ(u20a0,_) _ _=>Tr.I (λ_=>Tr.C ?_ λ_ _ _=>Tr.R ?_) λ_=>Tr.B (Q':=λ_=>True) (Tr.F (by kernel_rfl) trivial) (λ(u24a0,_) _ _=>Tr.I (λ_=>Tr.C ?_ λ_ _ _=>Tr.R ?_) λ_=>Tr.V λ_ _=>Tr.I (λ_=>Tr.C ?_ λ_ _ _=>Tr.R ?_) λ_=>Tr.C ?_ λ_ _ _=>Tr.R ?_)))
  all_goals ((try simp only[Tr.nice,bo]at*)<;>grind)⟩
noncomputable def YZ:=aV st YU XZ [] (ks:=[.st .door,.sc (.int .i64),.st .segm]) H0 (λv=>[(true,oz (.o true) (.o true) (.o true) (.o true) (.o true) v.1),(false,[sc (.o true) .segm v.2.1]),(false,[.c (.int .i64 v.2.2)])]) Tryz.func83 trivial
noncomputable def O1:FT (Curs×Unit) (Keys×Curs) (λx=>af x.1) (λx v=>cC v.1∧af v.2):=⟨λ(y0,_)=>
  .cal am.c (y0,40,()) λc1=>
  .cal kY.c (c1.2,()) λc2=>
  .cal kY.c (c2.2,()) λc3=>
  .cal tA.c (c2.1,c3.1,()) λc4=>
  .ite (decide (0<c1.1)) (.cal bG.c (c3.2,2,()) λc5=>
   .ite c5.1 (.cal kY.c (c5.2,()) λc6=>
    .cal tA.c (c6.1,5,()) λc7=>
    .ret ((⟨c1.1,c4,c7,true⟩:Keys),c6.2))<|
   .ret ((⟨c1.1,c4,⟨false,0,0,[]⟩,false⟩:Keys),c5.2))<|
  .ret ((⟨c1.1,c4,⟨false,0,0,[]⟩,false⟩:Keys),c3.2),
 λ(y0,_) hp=>by
  refine Tr.C ?_ λ_ _ _=>Tr.C ?_ λ_ _ _=>Tr.C ?_ λ_ _ _=>Tr.C trivial λ_ _ _=>Tr.I (λ_=>Tr.C ?_ λ_ _ _=>Tr.I (λ_=>Tr.C ?_ λ_ _ _=>Tr.C trivial λ_ _ _=>Tr.R ?_) λ_=>Tr.R ?_) λ_=>Tr.R ?_
  all_goals (grind)⟩
noncomputable def SK:=cJ st ⟨282,Tryz.f282,[],1⟩ [aA,AQ,Av,bT] [] [.wr false [.ptr 0]] [.box [.st .curs]] (λx y=>(y.1.1,())) O1 (λv=>[(true,KA (.o true) (.o true) v.1)]) (λx y v=>((v.2,()),())) Tryz.func282 (by kernel_rfl) trivial
noncomputable def SM:=[TB,wW,z8,pC,YZ,SU]
noncomputable def S6:Fx:=⟨29,Tryz.f29,[(3000009,rA 0 55),(4000000,la ⟨[],[],false,0⟩ ⟨[],[.softb 4 2],false,0⟩)],0⟩
noncomputable def qx:FT (Stac×ac×Unit) (Stac×List ac×Int) (λx=>cU x.1∧sS x.2.1) (λx v=>cU v.1∧sL sS v.2.1):=⟨λ(x0,x1,_)=>
  .cal yI.c (x0,()) λc1=>
  .cal oq.c (x0,()) λc2=>
  .ite (!c2) (.ret (c1,[],0))<|
  .cal tT.c (x0.link,x1,()) λc3=>
  .ite (c3.2.1==1) (.ret (({c1 with link.mac:=c3.1.mac,link.ip:=c3.1.ip,link.cache:=c3.1.cache}:Stac),[c3.2.2.2],0))<|
  .cal hZ.c (c3.2.2.1.body,c3.2.2.1.src,c3.2.2.1.dst,()) λc4=>
  .bnd (β:=Bool×Unit) (.ite (c3.2.1 != 2) (.ret (true,()))<|
   .ret ((!c4.2),())) λ(u5a0,_)=>
  .ite u5a0 (.ret (({c1 with link.mac:=c3.1.mac,link.ip:=c3.1.ip,link.cache:=c3.1.cache}:Stac),[],0))<|
  .cal H0.c (x0.door,c3.2.2.1.src,c4.1,()) λc6=>
  .cal yG.c ((⟨c3.1,c6.1⟩:Stac),c3.2.2.1.src,c6.2.1,()) λc7=>
  .ret ((⟨c3.1,c6.1⟩:Stac),c7,c6.2.2),
 λ(x0,x1,_) hp=>by
  refine Tr.C ?_ λ_ _ _=>Tr.C ?_ λ_ _ _=>Tr.I (λ_=>Tr.R ?_) λ_=>Tr.C ?_ λ_ _ _=>Tr.I (λ_=>Tr.R ?_) λ_=>Tr.C ?_ λ_ _ _=>Tr.B (Q':=λ_=>True) (Tr.F (by kernel_rfl) trivial) (λ(u5a0,_) _ _=>Tr.I (λ_=>Tr.R ?_) λ_=>Tr.C ?_ λ_ _ _=>Tr.C ?_ λ_ _ _=>Tr.R ?_)
  all_goals ((try simp only[Tr.nice,bo]at*)<;>grind)⟩
noncomputable def E7:=aV st S6 SM [] (ks:=[.st .stac,.sc .str]) qx (λv=>[(true,Aj .c (.o true) (.o true) (.o true) (.o true) (.o true) v.1),(false,[sc (.o true) .str v.2.1]),(false,[.c (.int .i64 v.2.2)])]) Tryz.func29 trivial
noncomputable def xk:FT (Curs×Unit) (Limi×Curs) (λx=>af x.1) (λx v=>af v.2):=⟨λ(y0,_)=>
  .cal am.c (y0,3,()) λc1=>
  .cal am.c (c1.2,3,()) λc2=>
  .cal am.c (c2.2,4,()) λc3=>
  .cal am.c (c3.2,4,()) λc4=>
  .ret ((⟨(IntKind.wrap .i64 (1+c1.1)),(IntKind.wrap .i64 (1+c2.1)),(IntKind.wrap .i64 (1+c3.1)),c4.1⟩:Limi),c4.2),
 λ(y0,_) hp=>by
  refine Tr.C ?_ λ_ _ _=>Tr.C ?_ λ_ _ _=>Tr.C ?_ λ_ _ _=>Tr.C ?_ λ_ _ _=>Tr.R ?_
  all_goals (grind)⟩
noncomputable def zK:=cJ st ⟨283,Tryz.f283,[],1⟩ [aA] [] [.wr false [.ptr 0]] [.box [.st .curs]] (λx y=>(y.1.1,())) xk (λv=>[(true,Zz v.1)]) (λx y v=>((v.2,()),())) Tryz.func283 (by kernel_rfl) trivial
noncomputable def z4:FT (Half×Door×Unit) (Bool) (λx=>aD x.2.1) (λ_ _=>True):=⟨λ(x0,y1,_)=>
  .cal aK.c (y1.table,x0.tuple,()) λc1=>
  .ret (decide (0≤c1)),
 λ(x0,y1,_) hp=>by
  refine Tr.C ?_ λ_ _ _=>Tr.R trivial
  all_goals (grind)⟩
noncomputable def P8:=cJ st ⟨106,Tryz.f106,[],1⟩ [kA] [] [.st .half,.wr false [.ptr 0]] [.box [.st .door]] (λx y=>(x.1,y.1.1,())) z4 (λv=>[(false,[.c (.bool v)])]) (λx y v=>((y.1.1,()),())) Tryz.func106 (by kernel_rfl) trivial
noncomputable def iR:=[P8]
def cx:Sh:=⟨[(0,false,[.sl .arg .half]),(1,false,[.fn 106 [0]]),zi 7,zi 8],[.box [.st .door [.sl .any,.sl .any,.sl .any,.sl .any,.sl .any]]]⟩
noncomputable def iW:Fx:=⟨207,Tryz.f207,[(0,la ⟨[0,1,7,8],[.softo 0 6,.softo 0 10,.softo 0 16,.softo 0 17,.softo 0 18],false,1⟩ ⟨[4],[],false,1⟩)],1⟩
noncomputable def gN (v0:List Half)(v3:Door)(v2:Int)(a:Unit):Tr (Stp (Unit) ((Int))):=
 .grd ((decide (0≤v2))&&(decide (v2<(v0.length:Int))))<|
 .cal z4.c ((v0.getD v2.toNat (Ty.zero .half)),v3,()) λc2=>
 .ite c2 (.ret (.out v2))<|
 .ret (.next ())
noncomputable def bj:cx.V→LC cx (Unit) ((Int)) (((Int))⊕(Int×Unit)):=λ(v0,v1,v2,v3,_)=>⟨v2,(),λv2 _=>(v0,v1,v2,v3,()),λv2 _=>(decide (v2<v1)),gN v0 v3,up,1,(Int.toNat (v1-v2)),.inl,λi a=> .inr (i,a),λ_ k w=>Sum.elim (λp=>k .ret (Sh.enc ⟨[zi 4],[.box [.st .door [.sl .any,.sl .any,.sl .any,.sl .any,.sl .any]]]⟩ (p,v3,()))) (λ_=>k (.exit 0) (Sh.enc ⟨[zu 4],[.box [.st .door [.sl .any,.sl .any,.sl .any,.sl .any,.sl .any]]]⟩ (v3,()))) w⟩
theorem nk:LS Tryz.prog iW [0] (bR 0 cx bj):=aW st (aj iR) _ bj [] trivial
theorem mD {v0:List Half}{v1 v2:Int}{v3:Door}(h0:0≤v2)(h1:v1≤4611686018427387904)(h2:sS v0)(h3:aD v3)(h4:v1≤(v0.length:Int)):(bj (v0,v1,v2,v3,())).U v1 (λ_ _=>True) (λp=>v2≤p∧p<v1):=
 LC.okU (i:=v2) (a:=()) (λ_ _=>rfl) (λ_=>rfl) rfl h0 h1 trivial λv2 _ hj hk hv=>by
  refine Tr.G2 ?_ λ_=>Tr.C ?_ λ_ _ _=>Tr.I (λ_=>Tr.Ro ?_) λ_=>Tr.Rn trivial
  all_goals (grind)
noncomputable def fQ:FT (List Half×Door×Unit) (Int) (λx=>sS x.1∧aD x.2.1) (λx v=> -1≤v∧v<x.1.length):=⟨λ(x0,y1_0,_)=>
  .lp (bj (x0,(x0.length:Int),0,y1_0,())).lp λw3=> .sum w3 (λp3a0=>
  .ret p3a0)<|
  λ_=>
  .ret (-1),
 λ(x0,y1_0,_) hp=>by
  refine Tr.L (mD ?_ ?_ ?_ ?_ ?_) (λ_ _=>Tr.Sr (Tr.R ?_)) (λp3a0 _=>Tr.Sl (Tr.R ?_))
  all_goals ((try simp only[bj,LC.lp,LC.ct,Ct.lp]at*)<;>grind)⟩
noncomputable def pe:=cJ st iW iR [(bR 0 cx bj)] [.sc (.sl .half),.fn 106 [0]] [.box [.st .door]] (λx y=>(x.1,y.1.1,())) fQ (λv=>[(false,[.c (.int .i64 v)])]) (λx y v=>((y.1.1,()),())) Tryz.func207 (by kernel_rfl) ⟨nk,trivial⟩
noncomputable def cK:FT (List Half×Door×Unit) (Bool) (λx=>sS x.1∧aD x.2.1) (λ_ _=>True):=⟨λ(x0,y1_0,_)=>
  .cal fQ.c (x0,y1_0,()) λc1=>
  .ret (decide (0≤c1)),
 λ(x0,y1_0,_) hp=>by
  refine Tr.C ?_ λ_ _ _=>Tr.R trivial
  all_goals (grind)⟩
noncomputable def mK:=cJ st ⟨105,Tryz.f105,[],1⟩ [pe] [] [.sc (.sl .half),.fn 106 [0]] [.box [.st .door]] (λx y=>(x.1,y.1.1,())) cK (λv=>[(false,[.c (.bool v)])]) (λx y v=>((y.1.1,()),())) Tryz.func105 (by kernel_rfl) trivial
noncomputable def VQ:=[bQ,LN,ER,Dh,bF,mK]
noncomputable def WH:Fx:=⟨25,Tryz.f25,[(3000001,rA 0 50)],0⟩
noncomputable def cc:FT (Door×Unit) (Bool) (λx=>aD x.1) (λx v=>(v=true→x.1.table.conns.length≤16)):=⟨λ(x0,_)=>
  .bnd (β:=Bool×Unit) (.cal aa.c (x0.port,16,()) λc1=>
   .ite (!c1) (.ret (true,()))<|
   .cal aa.c (x0.clock,32,()) λc2=>
   .ite (!c2) (.ret (true,()))<|
   .cal iD.c (x0.keys,()) λc3=>
   .ite (!c3) (.ret (true,()))<|
   .cal dE.c (x0.table,x0.limits,()) λc4=>
   .ite (!c4) (.ret (true,()))<|
   .cal fE.c (x0.halves,()) λc5=>
   .ite (!c5) (.ret (true,()))<|
   .ite (decide (x0.limits.halves<(x0.halves.length:Int))) (.ret (true,()))<|
   .val (bq.f (x0.chal,0,x0.limits.chal,())) λc6=>
   .ret ((!c6),())) λ(u7a0,_)=>
  .ite u7a0 (.ret false)<|
  .cal cK.c (x0.halves,x0,()) λc8=>
  .ret (!c8),
 λ(x0,_) hp=>by
  refine Tr.B (Q':=λw=>(w.1=false→0≤x0.keys.epoch∧x0.keys.epoch≤4294967295∧x0.table.conns.length≤16∧x0.table.waiting.length≤16∧x0.halves.length≤64)) (Tr.C trivial λ_ _ _=>Tr.I (λ_=>Tr.R ?_) λ_=>Tr.C trivial λ_ _ _=>Tr.I (λ_=>Tr.R ?_) λ_=>Tr.C ?_ λ_ _ _=>Tr.I (λ_=>Tr.R ?_) λ_=>Tr.C ?_ λ_ _ _=>Tr.I (λ_=>Tr.R ?_) λ_=>Tr.C ?_ λ_ _ _=>Tr.I (λ_=>Tr.R ?_) λ_=>Tr.I (λ_=>Tr.R ?_) λ_=>Tr.V λ_ _=>Tr.R ?_) (λ(u7a0,_) _ _=>Tr.I (λ_=>Tr.R ?_) λ_=>Tr.C ?_ λ_ _ _=>Tr.R ?_)
  all_goals ((try simp only[Tr.nice,bo]at*)<;>grind)⟩
noncomputable def vu:=aV st WH VQ [] (ks:=[.st .door]) cc (λv=>[(false,[.c (.bool v)])]) Tryz.func25 trivial
noncomputable def d5:FT (Stac×Unit) (Bool) (λx=>cU x.1) (λx v=>(v=true→x.1.door.table.conns.length≤16)):=⟨λ(x0,_)=>
  .cal dP.c (x0.link,()) λc1=>
  .ite c1 (.cal cc.c (x0.door,()) λc2=>
   .ret c2)<|
  .ret false,
 λ(x0,_) hp=>by
  refine Tr.C ?_ λ_ _ _=>Tr.I (λ_=>Tr.C ?_ λ_ _ _=>Tr.R ?_) λ_=>Tr.R ?_
  all_goals (grind)⟩
noncomputable def EW:=bf st Tryz.func32 [Ao,vu] (ks:=[.st .stac]) d5 (λv=>[(false,[.c (.bool v)])])
noncomputable def YY:=[oS,vu,pu,jM,Vj,nt,kA,Hg,UZ]
noncomputable def XI:Fx:=⟨185,Tryz.f185,[(3000002,rA 0 25)],0⟩
noncomputable def lF:FT (Door×Tupl×Segm×Unit) (Door×List Segm) (λx=>aD x.1∧ao x.2.2.1) (λx v=>aD v.1∧sL ao v.2∧v.1.table.conns.length=x.1.table.conns.length):=⟨λ(x0,x1,x2,_)=>
  .cal kv.c (x0,()) λc1=>
  .bnd (β:=Bool×Unit) (.cal cc.c (x0,()) λc2=>
   .ite (!c2) (.ret (true,()))<|
   .cal aJ.c (x1,()) λc3=>
   .ite (!c3) (.ret (true,()))<|
   .cal ak.c (x2,()) λc4=>
   .ret ((!c4),())) λ(u5a0,_)=>
  .ite u5a0 (.ret (c1,[]))<|
  .cal eI.c (x0,x1,x2,()) λc6=>
  .cal aR.c (x0.halves,x1,()) λc7=>
  .ite (decide (0≤c7)) (.grd ((decide (0≤c7))&&(decide (c7<(x0.halves.length:Int))))<|
   .ite ((x0.halves.getD c7.toNat (Ty.zero .half)).irs != x2.seq) (.ret (c1,[]))<|
   .grd ((decide (0≤c7))&&(decide (c7<(x0.halves.length:Int))))<|
   .ret (c1,[({c6 with seq:=(x0.halves.getD c7.toNat (Ty.zero .half)).iss}:Segm)]))<|
  .cal aK.c (x0.table,x1,()) λc8=>
  .ite (decide (c8<0)) (.val (jG.f (x2.opts,())) λc9=>
   .cal oy.c (x0.halves,(⟨x1,c6.seq,x2.seq,c9,0,x2.window⟩:Half),x0.limits.halves,()) λc10=>
   .ret (({c1 with halves:=c10.1}:Door),[c6]))<|
  .ret (c1,[c6]),
 λ(x0,x1,x2,_) hp=>by
  refine Tr.C ?_ λ_ _ _=>Tr.B (Q':=λw=>(w.1=false→x0.table.conns.length≤16∧x2.body.length≤1420)) (Tr.C ?_ λ_ _ _=>Tr.I (λ_=>Tr.R ?_) λ_=>Tr.C trivial λ_ _ _=>Tr.I (λ_=>Tr.R ?_) λ_=>Tr.C trivial λ_ _ _=>Tr.R ?_) (λ(u5a0,_) _ _=>Tr.I (λ_=>Tr.R ?_) λ_=>Tr.C ?_ λ_ _ _=>Tr.C ?_ λ_ _ _=>Tr.I (λ_=>Tr.G2 ?_ λ_=>Tr.I (λ_=>Tr.R ?_) λ_=>Tr.G2 ?_ λ_=>Tr.R ?_) λ_=>Tr.C ?_ λ_ _ _=>Tr.I (λ_=>Tr.V λ_ _=>Tr.C ?_ λ_ _ _=>Tr.R ?_) λ_=>Tr.R ?_)
  all_goals ((try simp only[Tr.nice,bo]at*)<;>grind)⟩
noncomputable def Y5:=aV st XI YY [] (ks:=[.st .door,.st .tupl,.st .segm]) lF (λv=>[(true,oz (.o true) (.o true) (.o true) (.o true) (.o true) v.1),(false,[sc (.o true) .segm v.2])]) Tryz.func185 trivial
noncomputable def Yq:=[oS,vu,pu,jM,kA,nt,ja,Jh,UF,Gs,Ah,UA,Gf,EM,CN]
def zn:An:=⟨⟨[],[],false,0⟩,⟨[3,4,5,6,7,8,9,10,11],[],false,0⟩,⟨[],[]⟩,[(.ret,⟨[zp 3 0,zp 4 1,zp 5 2,zp 6 3,(7,false,[.own 4]),zi 8,zp 9 5,zp 10 6,zi 11],[.box [.st .door [.sl .arg,.sl .arg,.sl .arg,.sl .arg,.sl .arg]],.box [.st .tupl []],.box [.st .segm []],.box [.st .door [.own 7,.own 8,.own 9,.own 10,.own 11]],.arr .segm false true,.box [.st .door [.own 7,.own 8,.own 9,.own 10,.own 11]],.box [.st .conn [.nil .piec]],.of false true,.of false true,.of false true,.of false true,.of false true]⟩),(.ret,⟨[zp 3 0,zp 4 1,zp 5 2,zp 6 3,(7,false,[.nil]),zi 8,zp 9 4,zp 10 5,zi 11],[.box [.st .door [.sl .arg,.sl .arg,.sl .arg,.sl .arg,.sl .arg]],.box [.st .tupl []],.box [.st .segm []],.box [.st .door [.own 6,.own 7,.own 8,.own 9,.own 10]],.box [.st .door [.own 6,.own 7,.own 8,.own 9,.own 10]],.box [.st .conn [.nil .piec]],.of false true,.of false true,.of false true,.of false true,.of false true]⟩),(.normal,⟨[zp 3 0,zp 4 1,zp 5 2,zp 6 3,(7,false,[.nil]),zi 8,zp 9 4,zp 10 5,zi 11],[.box [.st .door [.sl .arg,.sl .arg,.sl .arg,.sl .arg,.sl .arg]],.box [.st .tupl []],.box [.st .segm []],.box [.st .door [.nil .macRow,.nil .macRow,.nil .half,.nil .conn,.nil .tupl]],.box [.st .door [.own 6,.own 7,.own 8,.own 9,.own 10]],.box [.st .conn [.own 11]],.of false true,.of false true,.of false true,.of false true,.of false true,.of false true]⟩)]⟩
noncomputable def Yx:Fx:=⟨186,Tryz.f186,[(1000051,zn),(3000002,rA 0 44)],0⟩
noncomputable def HF:FT (Door×Tupl×Segm×Unit) (Door×List Segm×Int) (λx=>aD x.1∧ao x.2.2.1) (λx v=>aD v.1∧sL ao v.2.1∧x.1.table.conns.length≤v.1.table.conns.length):=⟨λ(x0,x1,x2,_)=>
  .cal kv.c (x0,()) λc1=>
  .bnd (β:=Bool×Unit) (.cal cc.c (x0,()) λc2=>
   .ite (!c2) (.ret (true,()))<|
   .cal aJ.c (x1,()) λc3=>
   .ite (!c3) (.ret (true,()))<|
   .cal ak.c (x2,()) λc4=>
   .ite (!c4) (.ret (true,()))<|
   .cal aK.c (x0.table,x1,()) λc5=>
   .ret ((decide (0≤c5)),())) λ(u6a0,_)=>
  .ite u6a0 (.ret (c1,[],0))<|
  .cal aR.c (x0.halves,x1,()) λc7=>
  .bnd (β:=WT zn.es) (.ite (decide (0≤c7)) (.grd ((decide (0≤c7))&&(decide (c7<(x0.halves.length:Int))))<|
    .val (cN.f ((x0.halves.getD c7.toNat (Ty.zero .half)).iss,1,())) λc8=>
    .ite (x2.ack != c8) (.cal gL.c (x2,()) λc9=>
     .ret (.inl (0,1,x0,x1,x2,c1,c9,c1,(⟨⟨0,0,0⟩,0,⟨0,[],0,false,false,false⟩,⟨0,[],[],0,false⟩,0,0,⟨0,0,false,false,0,0⟩,0,0⟩:Conn),())))<|
    .val (cN.f ((x0.halves.getD c7.toNat (Ty.zero .half)).irs,1,())) λc10=>
    .ite (x2.seq != c10) (.ret (.inr (.inl (0,1,x0,x1,x2,c1,c1,(⟨⟨0,0,0⟩,0,⟨0,[],0,false,false,false⟩,⟨0,[],[],0,false⟩,0,0,⟨0,0,false,false,0,0⟩,0,0⟩:Conn),()))))<|
    .cal tS.c (x1,(x0.halves.getD c7.toNat (Ty.zero .half)).iss,(x0.halves.getD c7.toNat (Ty.zero .half)).irs,(x0.halves.getD c7.toNat (Ty.zero .half)).opts,x2.window,()) λc11=>
    .ret (.inr (.inr ((0,1,x0,x1,x2,(⟨0,0,⟨0,⟨false,0,0,[]⟩,⟨false,0,0,[]⟩,false⟩,⟨0,0,0,0⟩,[],⟨[],[]⟩,0⟩:Door),c1,c11,())))))<|
   .val (cN.f (x2.seq,(-1),())) λc12=>
   .val (cN.f (x2.ack,(-1),())) λc13=>
   .cal de.c (x0.keys,x1,c12,c13,()) λc14=>
   .ite (!c14.2.2) (.cal gL.c (x2,()) λc15=>
    .ret (.inl (0,1,x0,x1,x2,c1,c15,c1,(⟨⟨0,0,0⟩,0,⟨0,[],0,false,false,false⟩,⟨0,[],[],0,false⟩,0,0,⟨0,0,false,false,0,0⟩,0,0⟩:Conn),())))<|
   .cal cM.c (c14.2.1,x2.opts,()) λc16=>
   .cal tS.c (x1,c13,c12,c16,x2.window,()) λc17=>
   .ret (.inr (.inr ((0,2,x0,x1,x2,(⟨0,0,⟨0,⟨false,0,0,[]⟩,⟨false,0,0,[]⟩,false⟩,⟨0,0,0,0⟩,[],⟨[],[]⟩,0⟩:Door),c1,c17,()))))) λw18=> .sum w18 (λ(u18a0,_,_,_,_,u18a5,u18a6,_,_,_)=>
  .ret (u18a5,u18a6,u18a0))<|
  λw18=> .sum w18 (λ(u18b0,_,_,_,_,u18b5,_,_,_)=>
  .ret (u18b5,[],u18b0))<|
  λ(_,u18c1,u18c2,u18c3,u18c4,_,u18c6,u18c7,_)=>
  .cal mc.c (u18c2.table,u18c7,u18c2.limits,()) λc19=>
  .ite (!c19.2) (.ret (u18c6,[],0))<|
  .cal nW.c (u18c7,u18c4,()) λc20=>
  .cal fg.c (c19.1,c20.1,()) λc21=>
  .cal ol.c (u18c2.halves,u18c3,()) λc22=>
  .ret (({u18c6 with halves:=c22,table.conns:=c21.conns,table.waiting:=c21.waiting}:Door),c20.2.1,u18c1),
 λ(x0,x1,x2,_) hp=>by
  refine Tr.C ?_ λc1 hc1 qc1=>Tr.B (Q':=λw=>(w.1=false→x0.table.conns.length≤16∧x2.body.length≤1420)) (Tr.C ?_ λc2 hc2 qc2=>Tr.I (λb0=>Tr.R ?_) λb0=>Tr.C trivial λc3 hc3 qc3=>Tr.I (λb1=>Tr.R ?_) λb1=>Tr.C trivial λc4 hc4 qc4=>Tr.I (λb2=>Tr.R ?_) λb2=>Tr.C ?_ λc5 hc5 qc5=>Tr.R ?_) (λ(u6a0,_) hj6 qj6=>Tr.I (λb0=>Tr.R ?_) λb0=>Tr.C ?_ λc7 hc7 qc7=>Tr.B (Q':=(Sum.elim (λw=>aD w.2.2.1∧ao w.2.2.2.2.1∧aD w.2.2.2.2.2.1∧sL ao w.2.2.2.2.2.2.1∧aD w.2.2.2.2.2.2.2.1∧ai w.2.2.2.2.2.2.2.2.1∧x0.table.conns.length≤w.2.2.2.2.2.1.table.conns.length) (Sum.elim (λw=>aD w.2.2.1∧ao w.2.2.2.2.1∧aD w.2.2.2.2.2.1∧aD w.2.2.2.2.2.2.1∧ai w.2.2.2.2.2.2.2.1∧x0.table.conns.length≤w.2.2.2.2.2.1.table.conns.length) (λw=>aD w.2.2.1∧ao w.2.2.2.2.1∧aD w.2.2.2.2.2.1∧aD w.2.2.2.2.2.2.1∧ai w.2.2.2.2.2.2.2.1∧w.2.2.1=x0∧x0.table.conns.length≤w.2.2.2.2.2.2.1.table.conns.length)))) (Tr.I (λb1=>Tr.G2 ?_ λg2=>Tr.V λc8 hc8=>Tr.I (λb3=>Tr.C ?_ λc9 hc9 qc9=>Tr.R ?_) λb3=>Tr.V λc10 hc10=>Tr.I (λb4=>Tr.R ?_) λb4=>Tr.C trivial λc11 hc11 qc11=>Tr.R ?_) λb1=>Tr.V λc12 hc12=>Tr.V λc13 hc13=>Tr.C ?_ λc14 hc14 qc14=>Tr.I (λb2=>Tr.C ?_ λc15 hc15 qc15=>Tr.R ?_) λb2=>Tr.C trivial λc16 hc16 qc16=>Tr.C trivial λc17 hc17 qc17=>Tr.R ?_) (λ_ _ q18=>Tr.E q18 (λ(u18a0,u18a1,u18a2,u18a3,u18a4,u18a5,u18a6,u18a7,u18a8,_) _=>Tr.R ?_) (λ_ q18=>Tr.E q18 (λ(u18b0,u18b1,u18b2,u18b3,u18b4,u18b5,u18b6,u18b7,_) _=>Tr.R ?_) (λ(u18c0,u18c1,u18c2,u18c3,u18c4,u18c5,u18c6,u18c7,_) _=>Tr.C ?_ λc19 hc19 qc19=>Tr.I (λb1=>Tr.R ?_) λb1=>Tr.C ?_ λc20 hc20 qc20=>Tr.C ?_ λc21 hc21 qc21=>Tr.C ?_ λc22 hc22 qc22=>Tr.R ?_))))
  all_goals ((try simp only[Tr.nice,bo]at*)<;>grind)⟩
noncomputable def XS:=aV st Yx Yq [] (ks:=[.st .door,.st .tupl,.st .segm]) HF (λv=>[(true,oz (.o true) (.o true) (.o true) (.o true) (.o true) v.1),(false,[sc (.o true) .segm v.2.1]),(false,[.c (.int .i64 v.2.2)])]) Tryz.func186 trivial
noncomputable def aC:FT (Curs×List Int×Unit) (Int×Curs) (λx=>af x.1∧sS x.2.1∧0<x.2.1.length) (λx v=>af v.2∧(eb (λn:Int=>0≤n∧n≤1048576) x.2.1→0≤v.1∧v.1≤1048576)∧(eb (λn:Int=>0≤n∧n≤19) x.2.1→0≤v.1∧v.1≤19)):=⟨λ(y0,x1,_)=>
  .cal am.c (y0,(x1.length:Int),()) λc1=>
  .grd ((decide (0≤c1.1))&&(decide (c1.1<(x1.length:Int))))<|
  .ret ((x1.getD c1.1.toNat 0),c1.2),
 λ(y0,x1,_) hp=>by
  refine Tr.C ?_ λc1 hc1 qc1=>Tr.G2 ?_ λg0=>Tr.R ?_
  all_goals ((first|grind|(refine⟨by grind,λhn=> ?_,λhn=> ?_⟩;exact cO (p:=λn:Int=>0≤n∧n≤1048576) hn (by omega) _;exact cO (p:=λn:Int=>0≤n∧n≤19) hn (by omega) _)))⟩
noncomputable def aH:=cJ st ⟨70,Tryz.f70,[],1⟩ [aA] [] [.wr false [.ptr 0],.sc (.sl .i64)] [.box [.st .curs]] (λx y=>(y.1.1,x.2.1,())) aC (λv=>[(false,[.c (.int .i64 v.1)])]) (λx y v=>((v.2,()),())) Tryz.func70 (by kernel_rfl) trivial
noncomputable def XK:=[oS,vu,bQ,jM,S4,Jh,kA,Gf,EM,yz,nt,ja,CN,Y5,XS]
def zx:An:=⟨⟨[],[],false,0⟩,⟨[3,6,7,8,9,12,13],[],false,0⟩,⟨[],[]⟩,[(.normal,⟨[zp 3 0,zp 6 1,(7,false,[.nil]),zi 8,zp 9 2,zp 12 3,(13,false,[.nil])],[.box [.st .door [.sl .arg,.sl .arg,.sl .arg,.sl .arg,.sl .arg]],.box [.st .door [.nil .macRow,.nil .macRow,.nil .half,.nil .conn,.nil .tupl]],.box [.st .door [.own 4,.own 5,.own 6,.own 7,.own 8]],.box [.st .conn [.own 9]],.of false true,.of false true,.of false true,.of false true,.of false true,.of false true]⟩),(.normal,⟨[zp 3 0,zp 6 1,(7,false,[.nil]),zi 8,zp 9 2,zp 12 3,(13,false,[.own 4])],[.box [.st .door [.sl .arg,.sl .arg,.sl .arg,.sl .arg,.sl .arg]],.box [.st .door [.nil .macRow,.nil .macRow,.nil .half,.nil .conn,.nil .tupl]],.box [.st .door [.own 5,.own 6,.own 7,.own 8,.own 9]],.box [.st .conn [.own 10]],.arr .segm false true,.of false true,.of false true,.of false true,.of false true,.of false true,.of false true]⟩)]⟩
noncomputable def YL:Fx:=⟨76,Tryz.f76,[(1000064,zx),(3000002,rA 0 32),(3000018,rA 0 102),(3000021,rA 0 109),(3000024,rA 0 131)],0⟩
noncomputable def HS:FT (Door×Int×Segm×Unit) (Door×List Segm×Int) (λx=>aD x.1∧ao x.2.2.1) (λx v=>aD v.1∧sL ao v.2.1∧x.1.table.conns.length≤v.1.table.conns.length):=⟨λ(x0,x1,x2,_)=>
  .cal kv.c (x0,()) λc1=>
  .bnd (β:=Bool×Unit) (.cal cc.c (x0,()) λc2=>
   .ite (!c2) (.ret (true,()))<|
   .cal aa.c (x1,32,()) λc3=>
   .ite (!c3) (.ret (true,()))<|
   .cal ak.c (x2,()) λc4=>
   .ret ((!c4),())) λ(u5a0,_)=>
  .ite u5a0 (.ret (c1,[],0))<|
  .val (yx.f (x1,x2,())) λc6=>
  .ite (x2.to != x0.port) (.cal gL.c (x2,()) λc7=>
   .ret (c1,c7,0))<|
  .cal aK.c (x0.table,c6,()) λc8=>
  .ite (decide (0≤c8)) (.grd ((decide (0≤c8))&&(decide (c8<(x0.table.conns.length:Int))))<|
   .cal nW.c ((x0.table.conns.getD c8.toNat (Ty.zero .conn)),x2,()) λc9=>
   .bnd (β:=WT zx.es) (.ite (c9.2.2==3) (.ite (x0.chal==x0.limits.chal) (.ret (.inl (0,x0,(⟨0,0,⟨0,⟨false,0,0,[]⟩,⟨false,0,0,[]⟩,false⟩,⟨0,0,0,0⟩,[],⟨[],[]⟩,0⟩:Door),c1,c9.1,())))<|
     .ret (.inr ((0,x0,(⟨0,0,⟨0,⟨false,0,0,[]⟩,⟨false,0,0,[]⟩,false⟩,⟨0,0,0,0⟩,[],⟨[],[]⟩,0⟩:Door),({c1 with chal:=(IntKind.wrap .i64 (c1.chal+1))}:Door),c9.1,c9.2.1,()))))<|
    .ret (.inr ((0,x0,(⟨0,0,⟨0,⟨false,0,0,[]⟩,⟨false,0,0,[]⟩,false⟩,⟨0,0,0,0⟩,[],⟨[],[]⟩,0⟩:Door),c1,c9.1,c9.2.1,())))) λw10=> .sum w10 (λ(_,u10a1,_,u10a3,u10a4,_)=>
   .cal fg.c (u10a1.table,u10a4,()) λc11=>
   .ret (({u10a3 with table.conns:=c11.conns,table.waiting:=c11.waiting}:Door),[],0))<|
   λ(_,u10b1,_,u10b3,u10b4,u10b5,_)=>
   .cal fg.c (u10b1.table,u10b4,()) λc12=>
   .ret (({u10b3 with table.conns:=c12.conns,table.waiting:=c12.waiting}:Door),u10b5,0))<|
  .val (bB.f (x2,4,())) λc13=>
  .ite c13 (.cal aR.c (x0.halves,c6,()) λc14=>
   .bnd (β:=Bool×Unit) (.ite (decide (0≤c14)) (.grd ((decide (0≤c14))&&(decide (c14<(x0.halves.length:Int))))<|
     .val (cN.f ((x0.halves.getD c14.toNat (Ty.zero .half)).irs,1,())) λc15=>
     .ret ((x2.seq==c15),()))<|
    .ret (false,())) λ(u16a0,_)=>
   .ite u16a0 (.cal ol.c (x0.halves,c6,()) λc17=>
    .ret (({c1 with halves:=c17}:Door),[],0))<|
   .ret (c1,[],0))<|
  .bnd (β:=Bool×Unit) (.val (bB.f (x2,2,())) λc18=>
   .ite c18 (.val (bB.f (x2,16,())) λc19=>
    .ite (!c19) (.val (bB.f (x2,1,())) λc20=>
     .ret ((!c20),()))<|
    .ret (false,()))<|
   .ret (false,())) λ(u21a0,_)=>
  .ite u21a0 (.cal lF.c (x0,c6,x2,()) λc22=>
   .ret (c22.1,c22.2,0))<|
  .bnd (β:=Bool×Unit) (.val (bB.f (x2,16,())) λc23=>
   .ite c23 (.val (bB.f (x2,2,())) λc24=>
    .ret ((!c24),()))<|
   .ret (false,())) λ(u25a0,_)=>
  .ite u25a0 (.cal HF.c (x0,c6,x2,()) λc26=>
   .ret (c26.1,c26.2.1,c26.2.2))<|
  .val (bB.f (x2,16,())) λc27=>
  .ite c27 (.cal gL.c (x2,()) λc28=>
   .ret (c1,c28,0))<|
  .ret (c1,[],0),
 λ(x0,x1,x2,_) hp=>by
  refine Tr.C ?_ λc1 hc1 qc1=>Tr.B (Q':=λw=>(w.1=false→x0.table.conns.length≤16∧x2.body.length≤1420)) (Tr.C ?_ λc2 hc2 qc2=>Tr.I (λb0=>Tr.R ?_) λb0=>Tr.C trivial λc3 hc3 qc3=>Tr.I (λb1=>Tr.R ?_) λb1=>Tr.C trivial λc4 hc4 qc4=>Tr.R ?_) (λ(u5a0,_) hj5 qj5=>Tr.I (λb0=>Tr.R ?_) λb0=>Tr.V λc6 hc6=>Tr.I (λb1=>Tr.C ?_ λc7 hc7 qc7=>Tr.R ?_) λb1=>Tr.C ?_ λc8 hc8 qc8=>Tr.I (λb2=>Tr.G2 ?_ λg3=>Tr.C ?_ λc9 hc9 qc9=>Tr.B (Q':=(Sum.elim (λw=>aD w.2.1∧aD w.2.2.1∧aD w.2.2.2.1∧ai w.2.2.2.2.1∧w.2.1=x0) (λw=>aD w.2.1∧aD w.2.2.1∧aD w.2.2.2.1∧ai w.2.2.2.2.1∧sL ao w.2.2.2.2.2.1∧w.2.1=x0))) (Tr.I (λb4=>Tr.I (λb5=>Tr.R ?_) λb5=>Tr.R ?_) λb4=>Tr.R ?_) (λ_ _ q10=>Tr.E q10 (λ(u10a0,u10a1,u10a2,u10a3,u10a4,_) _=>Tr.C ?_ λc11 hc11 qc11=>Tr.R ?_) (λ(u10b0,u10b1,u10b2,u10b3,u10b4,u10b5,_) _=>Tr.C ?_ λc12 hc12 qc12=>Tr.R ?_))) λb2=>Tr.V λc13 hc13=>Tr.I (λb3=>Tr.C ?_ λc14 hc14 qc14=>Tr.B (Q':=λ_=>True) (Tr.I (λb4=>Tr.G2 ?_ λg5=>Tr.F (by kernel_rfl) trivial) λb4=>Tr.R trivial) (λ(u16a0,_) hj16 qj16=>Tr.I (λb4=>Tr.C ?_ λc17 hc17 qc17=>Tr.R ?_) λb4=>Tr.R ?_)) λb3=>Tr.B (Q':=λ_=>True) (Tr.F (by kernel_rfl) trivial) (λ(u21a0,_) hj21 qj21=>Tr.I (λb4=>Tr.C ?_ λc22 hc22 qc22=>Tr.R ?_) λb4=>Tr.B (Q':=λ_=>True) (Tr.F (by kernel_rfl) trivial) (λ(u25a0,_) hj25 qj25=>Tr.I (λb5=>Tr.C ?_ λc26 hc26 qc26=>Tr.R ?_) λb5=>Tr.V λc27 hc27=>Tr.I (λb6=>Tr.C ?_ λc28 hc28 qc28=>Tr.R ?_) λb6=>Tr.R ?_)))
  all_goals ((try simp only[Tr.nice,bo]at*)<;>grind)⟩
noncomputable def YI:=aV st YL XK [] (ks:=[.st .door,.sc (.int .i64),.st .segm]) HS (λv=>[(true,oz (.o true) (.o true) (.o true) (.o true) (.o true) v.1),(false,[sc (.o true) .segm v.2.1]),(false,[.c (.int .i64 v.2.2)])]) Tryz.func76 trivial
noncomputable def tZ:FT (Stac×ac×Unit) (Stac×List ac×Int) (λx=>cU x.1∧sS x.2.1) (λx v=>cU v.1∧sL sS v.2.1):=⟨λ(x0,x1,_)=>
  .cal pZ.c (x0,()) λc1=>
  .cal d5.c (x0,()) λc2=>
  .ite (!c2) (.ret (c1,[],0))<|
  .cal bH.c (x0.link,x1,()) λc3=>
  .ite (c3.2.1==1) (.ret (({c1 with link.mac:=c3.1.mac,link.ip:=c3.1.ip,link.cache:=c3.1.cache}:Stac),[c3.2.2.2],0))<|
  .ite (c3.2.1 != 2) (.ret (({c1 with link.mac:=c3.1.mac,link.ip:=c3.1.ip,link.cache:=c3.1.cache}:Stac),[],0))<|
  .cal bh.c (c3.2.2.1.body,c3.2.2.1.src,c3.2.2.1.dst,()) λc4=>
  .ite (!c4.2) (.ret (({c1 with link.mac:=c3.1.mac,link.ip:=c3.1.ip,link.cache:=c3.1.cache}:Stac),[],0))<|
  .cal HS.c (x0.door,c3.2.2.1.src,c4.1,()) λc5=>
  .cal yh.c ((⟨c3.1,c5.1⟩:Stac),c3.2.2.1.src,c5.2.1,()) λc6=>
  .ret ((⟨c3.1,c5.1⟩:Stac),c6,c5.2.2),
 λ(x0,x1,_) hp=>by
  refine Tr.C ?_ λ_ _ _=>Tr.C ?_ λ_ _ _=>Tr.I (λ_=>Tr.R ?_) λ_=>Tr.C ?_ λ_ _ _=>Tr.I (λ_=>Tr.R ?_) λ_=>Tr.I (λ_=>Tr.R ?_) λ_=>Tr.C ?_ λ_ _ _=>Tr.I (λ_=>Tr.R ?_) λ_=>Tr.C ?_ λ_ _ _=>Tr.C ?_ λ_ _ _=>Tr.R ?_
  all_goals (grind)⟩
noncomputable def EH:=bf st Tryz.func28 [JM,EW,Vw,Hl,YI,Tb] (ks:=[.st .stac,.sc .str]) tZ (λv=>[(true,Aj (.o true) (.o true) (.o true) (.o true) (.o true) (.o true) v.1),(false,[sc (.o true) .str v.2.1]),(false,[.c (.int .i64 v.2.2)])])
noncomputable def Jd:=[bT,aH,vq]
def o8:Sh:=⟨[zp 0 0,zi 3,zi 4],[.box [.st .curs [.sl .any]]]⟩
noncomputable def LQ:Fx:=⟨290,Tryz.f290,[(0,la ⟨[0,3,4],[],false,1⟩ ⟨[2,3],[],false,1⟩)],1⟩
noncomputable def Mx (v1:Int)(a:Int×Curs):Tr (Stp (Int×Curs) (Empty)):=
 .cal m5.c (a.2,()) λc3=>
 .ret (.next ((IntKind.wrap .i64 ((IntKind.wrap .i64 (256*a.1))+c3.1)),c3.2))
noncomputable def jI:o8.V→LC o8 (Int×Curs) (Empty) (Int×(Int×Curs)):=λ(v0,v1,v2,_)=>⟨v1,(v0,v2),λv1 a=>(a.1,v1,a.2,()),λv1 _=>(decide (v1<4)),Mx,up,1,(Int.toNat (4-v1)),(λp=>Empty.elim p),λi a=>(i,a),λ_ k x=>k (.exit 0) (Sh.enc ⟨[zu 2,zi 3],[.box [.st .curs [.sl .any]]]⟩ (x.2.1,x.2.2,()))⟩
theorem MH:LS Tryz.prog LQ [0] (bR 0 o8 jI):=aW st (aj Jd) _ jI [] trivial
theorem Mu {v0 v1:Int}{v2:Curs}(h0:0≤v1)(h1:af v2):(jI (v0,v1,v2,())).U 4 (λv1 a=>af a.2) (λ_=>True):=
 LC.okU (i:=v1) (a:=(v0,v2)) (λ_ _=>rfl) (λ_=>rfl) rfl h0 (by decide) h1 λv1 (v0,v2) hj hk hv=>by
  refine Tr.C ?_ λ_ _ _=>Tr.Rn ?_
  all_goals (grind)
noncomputable def ke:FT (Curs×Unit) (Int×Curs) (λx=>af x.1) (λx v=>af v.2):=⟨λ(y0,_)=>
  .cal bG.c (y0,3,()) λc1=>
  .ite c1.1 (.cal aC.c (c1.2,[0,1,4294967295,2147483647,2147483648,4294967294],()) λc2=>
   .ret (c2.1,c2.2))<|
  .lp (jI (0,0,c1.2,())).lp λ(_,a4_0,a4_1)=>
  .ret (a4_0,a4_1),
 λ(y0,_) hp=>by
  refine Tr.C ?_ λ_ _ _=>Tr.I (λ_=>Tr.C ?_ λ_ _ _=>Tr.R ?_) λ_=>Tr.L (Mu ?_ ?_) (λ(a4_0,a4_1) _=>Tr.R ?_) (λp=>Empty.elim p)
  all_goals ((try simp only[jI,LC.lp,LC.ct,Ct.lp]at*)<;>grind)⟩
noncomputable def lW:=cJ st LQ Jd [(bR 0 o8 jI)] [.wr false [.ptr 0]] [.box [.st .curs]] (λx y=>(y.1.1,())) ke (λv=>[(false,[.c (.int .i64 v.1)])]) (λx y v=>((v.2,()),())) Tryz.func290 (by kernel_rfl) ⟨MH,trivial⟩
noncomputable def M8:=[eB,bT,aH,aA,lW]
def Ef:An:=⟨⟨[],[],false,1⟩,⟨[0,2,3],[],false,1⟩,⟨[],[]⟩,[(.normal,⟨[zp 0 0,zp 2 1,zp 3 2],[.box [.st .curs [.sl .any]],.box [.st .opti []],.box [.st .opti []]]⟩)]⟩
def A9:An:=⟨⟨[],[],false,1⟩,⟨[0,2,3],[],false,1⟩,⟨[],[]⟩,[(.normal,⟨[zp 0 0,zp 2 1,zp 3 2],[.box [.st .curs [.sl .any]],.box [.st .opti []],.box [.st .opti []]]⟩)]⟩
noncomputable def Nn:Fx:=⟨291,Tryz.f291,[(1000007,Ef),(1000013,A9)],1⟩
noncomputable def pn:FT (Curs×Unit) (Opti×Curs) (λx=>af x.1) (λx v=>af v.2):=⟨λ(y0,_)=>
  .val (bM.f (())) λc1=>
  .cal bG.c (y0,3,()) λc2=>
  .bnd (β:=Curs×Opti×Opti×Unit) (.ite (!c2.1) (.cal aC.c (c2.2,[536,1460,1300,64,65535,1],()) λc3=>
    .ret (c3.2,(⟨0,0,false,false,0,0⟩:Opti),({c1 with mss:=c3.1}:Opti),()))<|
   .ret (c2.2,(⟨0,0,false,false,0,0⟩:Opti),c1,())) λ(u4a0,u4a1,u4a2,_)=>
  .cal bG.c (u4a0,2,()) λc5=>
  .bnd (β:=Curs×Opti×Opti×Unit) (.ite c5.1 (.cal am.c (c5.2,15,()) λc6=>
    .ret (c6.2,u4a1,({u4a2 with scale:=c6.1}:Opti),()))<|
   .ret (c5.2,u4a1,u4a2,())) λ(u7a0,_,u7a2,_)=>
  .cal bG.c (u7a0,2,()) λc8=>
  .cal bG.c (c8.2,2,()) λc9=>
  .ite c9.1 (.cal ke.c (c9.2,()) λc10=>
   .cal ke.c (c10.2,()) λc11=>
   .ret ((⟨u7a2.mss,u7a2.scale,c8.1,true,c10.1,c11.1⟩:Opti),c11.2))<|
  .ret (({u7a2 with sack:=c8.1}:Opti),c9.2),
 λ(y0,_) hp=>by
  refine Tr.V λ_ _=>Tr.C ?_ λ_ _ _=>Tr.B (Q':=λw=>af w.1) (Tr.I (λ_=>Tr.C ?_ λ_ _ _=>Tr.R ?_) λ_=>Tr.R ?_) (λ(u4a0,u4a1,u4a2,_) _ _=>Tr.C ?_ λ_ _ _=>Tr.B (Q':=λw=>af w.1) (Tr.I (λ_=>Tr.C ?_ λ_ _ _=>Tr.R ?_) λ_=>Tr.R ?_) (λ(u7a0,u7a1,u7a2,_) _ _=>Tr.C ?_ λ_ _ _=>Tr.C ?_ λ_ _ _=>Tr.I (λ_=>Tr.C ?_ λ_ _ _=>Tr.C ?_ λ_ _ _=>Tr.R ?_) λ_=>Tr.R ?_))
  all_goals ((try simp only[Tr.nice,bo]at*)<;>grind)⟩
noncomputable def oZ:=cJ st Nn M8 [] [.wr false [.ptr 0]] [.box [.st .curs]] (λx y=>(y.1.1,())) pn (λv=>[(true,nV v.1)]) (λx y v=>((v.2,()),())) Tryz.func291 (by kernel_rfl) trivial
noncomputable def Lv:FT (Curs×Unit) (Segm×Curs) (λx=>af x.1) (λx v=>ao v.1∧af v.2):=⟨λ(y0,_)=>
  .cal aC.c (y0,[40000,40001,40002],()) λc1=>
  .cal ke.c (c1.2,()) λc2=>
  .cal aC.c (c2.2,[0,64,65535],()) λc3=>
  .cal pn.c (c3.2,()) λc4=>
  .ret ((⟨c1.1,80,c2.1,0,2,c3.1,c4.1,[]⟩:Segm),c4.2),
 λ(y0,_) hp=>by
  refine Tr.C ?_ λ_ _ _=>Tr.C ?_ λ_ _ _=>Tr.C ?_ λ_ _ _=>Tr.C ?_ λ_ _ _=>Tr.R ?_
  all_goals (grind)⟩
noncomputable def K7:=cJ st ⟨210,Tryz.f210,[],1⟩ [aH,lW,oZ] [] [.wr false [.ptr 0]] [.box [.st .curs]] (λx y=>(y.1.1,())) Lv (λv=>[(true,qU v.1)]) (λx y v=>((v.2,()),())) Tryz.func210 (by kernel_rfl) trivial
noncomputable def E3:=[vq]
def nL:Sh:=⟨[zp 0 0,zi 1,(5,false,[.own 1]),zi 6],[.box [.st .curs [.sl .any]],.arr .u8 false true]⟩
noncomputable def FW:Fx:=⟨267,Tryz.f267,[(0,la ⟨[0,1,5,6],[.softo 0 0],false,1⟩ ⟨[4,5],[],false,1⟩)],1⟩
noncomputable def Lx (v1:Int)(a:Curs×List Int):Tr (Stp (Curs×List Int) (Empty)):=
 .cal m5.c (a.1,()) λc2=>
 .grd (Nat.ble ((2*(a.2.length+1)+1024)*1) aF)<|
 .ret (.next (c2.2,(a.2++[(IntKind.wrap .u8 c2.1)])))
noncomputable def iC:nL.V→LC nL (Curs×List Int) (Empty) (Int×(Curs×List Int)):=λ(v0,v1,v2,v3,_)=>⟨v1,(v2,v3),λv1 a=>(v0,v1,a.1,a.2,()),λv1 _=>(decide (v1<v0)),Lx,up,1,(Int.toNat (v0-v1)),(λp=>Empty.elim p),λi a=>(i,a),λ_ k x=>k (.exit 0) (Sh.enc ⟨[zu 4,(5,false,[.own 1])],[.box [.st .curs [.sl .any]],.arr .u8 false true]⟩ (x.2.1,x.2.2,()))⟩
theorem Jl:LS Tryz.prog FW [0] (bR 0 nL iC):=aW st (aj E3) _ iC [] trivial
theorem IX {v0 v1:Int}{v2:Curs}{v3:List Int}(h0:0≤v1)(h1:v0≤4611686018427387904)(h2:v0≤4294967296)(h3:af v2∧(v3.length:Int)=v1):(iC (v0,v1,v2,v3,())).U v0 (λv1 a=>af a.1∧(a.2.length:Int)=v1) (λ_=>True):=
 LC.okU (i:=v1) (a:=(v2,v3)) (λ_ _=>rfl) (λ_=>rfl) rfl h0 h1 h3 λv1 (v2,v3) hj hk hv=>by
  refine Tr.C ?_ λ_ _ _=>Tr.Gb ?_ λ_=>Tr.Rn ?_
  all_goals (grind)
noncomputable def mg:FT (Curs×Int×Unit) (List Int×Curs) (λx=>af x.1∧x.2.1≤1048576) (λx v=>sS v.1∧af v.2):=⟨λ(y0,x1,_)=>
  .lp (iC (x1,0,y0,[],())).lp λ(_,a3_0,a3_1)=>
  .ret (a3_1,a3_0),
 λ(y0,x1,_) hp=>by
  refine Tr.L (IX ?_ ?_ ?_ ?_) (λ(a3_0,a3_1) _=>Tr.R ?_) (λp=>Empty.elim p)
  all_goals ((try simp only[iC,LC.lp,LC.ct,Ct.lp]at*)<;>grind)⟩
noncomputable def j7:=cJ st FW E3 [(bR 0 nL iC)] [.wr false [.ptr 0],.sc (.int .i64)] [.box [.st .curs]] (λx y=>(y.1.1,x.2.1,())) mg (λv=>[(false,[sc (.o true) .u8 v.1])]) (λx y v=>((v.2,()),())) Tryz.func267 (by kernel_rfl) ⟨Jl,trivial⟩
noncomputable def yR:FT (Curs×Unit) (Int×Curs) (λx=>af x.1) (λx v=>af v.2):=⟨λ(y0,_)=>
  .cal am.c (y0,3,()) λc1=>
  .ite (c1.1==0) (.cal aC.c (c1.2,[0,1,(-1),9,10,999999999999,1000000000000,9223372036854775807,4294967295,4294967296,65535,65536,(-9223372036854775808)],()) λc2=>
   .ret (c2.1,c2.2))<|
  .ite (c1.1==1) (.cal am.c (c1.2,1000000,()) λc3=>
   .ret ((IntKind.wrap .i64 (c3.1-500000)),c3.2))<|
  .cal am.c (c1.2,20,()) λc4=>
  .ret (c4.1,c4.2),
 λ(y0,_) hp=>by
  refine Tr.C ?_ λ_ _ _=>Tr.I (λ_=>Tr.C ?_ λ_ _ _=>Tr.R ?_) λ_=>Tr.I (λ_=>Tr.C ?_ λ_ _ _=>Tr.R ?_) λ_=>Tr.C ?_ λ_ _ _=>Tr.R ?_
  all_goals (first|grind|(simp only[sS,List.length_cons,List.length_nil];grind))⟩
noncomputable def wT:=cJ st ⟨284,Tryz.f284,[],1⟩ [aA,aH] [] [.wr false [.ptr 0]] [.box [.st .curs]] (λx y=>(y.1.1,())) yR (λv=>[(false,[.c (.int .i64 v.1)])]) (λx y v=>((v.2,()),())) Tryz.func284 (by kernel_rfl) trivial
noncomputable def OL:FT (Curs×Unit) (Int×Curs) (λx=>af x.1) (λx v=>af v.2):=⟨λ(y0,_)=>
  .cal bG.c (y0,12,()) λc1=>
  .ite c1.1 (.cal yR.c (c1.2,()) λc2=>
   .ret (c2.1,c2.2))<|
  .cal ke.c (c1.2,()) λc3=>
  .ret (c3.1,c3.2),
 λ(y0,_) hp=>by
  refine Tr.C ?_ λ_ _ _=>Tr.I (λ_=>Tr.C ?_ λ_ _ _=>Tr.R ?_) λ_=>Tr.C ?_ λ_ _ _=>Tr.R ?_
  all_goals (grind)⟩
noncomputable def UU:=cJ st ⟨409,Tryz.f409,[],1⟩ [bT,wT,lW] [] [.wr false [.ptr 0]] [.box [.st .curs]] (λx y=>(y.1.1,())) OL (λv=>[(false,[.c (.int .i64 v.1)])]) (λx y v=>((v.2,()),())) Tryz.func409 (by kernel_rfl) trivial
noncomputable def rF:FT (Curs×Int×Unit) (Int×Curs) (λx=>af x.1) (λx v=>af v.2):=⟨λ(y0,x1,_)=>
  .cal am.c (y0,4,()) λc1=>
  .ite (c1.1==0) (.cal OL.c (c1.2,()) λc2=>
   .ret (c2.1,c2.2))<|
  .ite (c1.1==1) (.cal aC.c (c1.2,[2147483647,2147483648,(-1),1,0],()) λc3=>
   .val (bN.f (x1,c3.1,())) λc4=>
   .ret (c4,c3.2))<|
  .cal am.c (c1.2,41,()) λc5=>
  .val (bN.f (x1,(IntKind.wrap .i64 (c5.1-20)),())) λc6=>
  .ret (c6,c5.2),
 λ(y0,x1,_) hp=>by
  refine Tr.C ?_ λ_ _ _=>Tr.I (λ_=>Tr.C ?_ λ_ _ _=>Tr.R ?_) λ_=>Tr.I (λ_=>Tr.C ?_ λ_ _ _=>Tr.V λ_ _=>Tr.R ?_) λ_=>Tr.C ?_ λ_ _ _=>Tr.V λ_ _=>Tr.R ?_
  all_goals (grind)⟩
noncomputable def L6:=cJ st ⟨330,Tryz.f330,[],1⟩ [aA,UU,aH,dJ] [] [.wr false [.ptr 0],.sc (.int .i64)] [.box [.st .curs]] (λx y=>(y.1.1,x.2.1,())) rF (λv=>[(false,[.c (.int .i64 v.1)])]) (λx y v=>((v.2,()),())) Tryz.func330 (by kernel_rfl) trivial
noncomputable def U9:=[dJ,aH,eB,aA,j7,bT,L6,iZ]
def ID:An:=⟨⟨[],[],false,1⟩,⟨[0,6,7],[],false,1⟩,⟨[],[]⟩,[(.normal,⟨[zp 0 0,zp 6 1,zp 7 2],[.box [.st .curs [.sl .any]],.box [.st .segm []],.box [.st .segm []]]⟩)]⟩
noncomputable def VZ:Fx:=⟨212,Tryz.f212,[(1000035,ID)],1⟩
noncomputable def x5:FT (Curs×Segm×Segm×Unit) (Segm×Curs) (λx=>af x.1∧ao x.2.1∧ao x.2.2.1) (λx v=>ao v.1∧af v.2):=⟨λ(y0,x1,x2,_)=>
  .val (bN.f (x1.seq,1,())) λc1=>
  .val (bN.f (x2.seq,1,())) λc2=>
  .cal aC.c (y0,[0,9,65535],()) λc3=>
  .val (bM.f (())) λc4=>
  .cal am.c (c3.2,3,()) λc5=>
  .cal mg.c (c5.2,c5.1,()) λc6=>
  .ite x2.opts.stamp (.cal bG.c (c6.2,6,()) λc7=>
   .bnd (β:=Curs×Segm×Segm×Unit) (.ite (!c7.1) (.val (bN.f (x1.opts.val,1,())) λc8=>
     .ret (c7.2,(⟨0,0,0,0,0,0,⟨0,0,false,false,0,0⟩,[]⟩:Segm),(⟨x1.from_,x1.to,c1,c2,16,c3.1,⟨c4.mss,c4.scale,c4.sack,true,c8,x2.opts.val⟩,(av c6.1)⟩:Segm),()))<|
    .ret (c7.2,(⟨0,0,0,0,0,0,⟨0,0,false,false,0,0⟩,[]⟩:Segm),(⟨x1.from_,x1.to,c1,c2,16,c3.1,c4,(av c6.1)⟩:Segm),())) λ(u9a0,_,u9a2,_)=>
   .cal am.c (u9a0,12,()) λc10=>
   .ite (c10.1==0) (.cal rF.c (c10.2,u9a2.ack,()) λc11=>
    .val (bS.f (c11.1,())) λc12=>
    .ret (({u9a2 with ack:=c12}:Segm),c11.2))<|
   .ite (c10.1==1) (.cal rF.c (c10.2,u9a2.seq,()) λc13=>
    .val (bS.f (c13.1,())) λc14=>
    .ret (({u9a2 with seq:=c14}:Segm),c13.2))<|
   .ret (u9a2,c10.2))<|
  .cal am.c (c6.2,12,()) λc15=>
  .ite (c15.1==0) (.cal rF.c (c15.2,c2,()) λc16=>
   .val (bS.f (c16.1,())) λc17=>
   .ret ((⟨x1.from_,x1.to,c1,c17,16,c3.1,c4,(av c6.1)⟩:Segm),c16.2))<|
  .ite (c15.1==1) (.cal rF.c (c15.2,c1,()) λc18=>
   .val (bS.f (c18.1,())) λc19=>
   .ret ((⟨x1.from_,x1.to,c19,c2,16,c3.1,c4,(av c6.1)⟩:Segm),c18.2))<|
  .ret ((⟨x1.from_,x1.to,c1,c2,16,c3.1,c4,(av c6.1)⟩:Segm),c15.2),
 λ(y0,x1,x2,_) hp=>by
  refine Tr.V λ_ _=>Tr.V λ_ _=>Tr.C ?_ λ_ _ _=>Tr.V λ_ _=>Tr.C ?_ λ_ _ _=>Tr.C ?_ λ_ _ _=>Tr.I (λ_=>Tr.C ?_ λ_ _ _=>Tr.B (Q':=λw=>af w.1∧ao w.2.1∧ao w.2.2.1) (Tr.I (λ_=>Tr.V λ_ _=>Tr.R ?_) λ_=>Tr.R ?_) (λ(u9a0,u9a1,u9a2,_) _ _=>Tr.C ?_ λ_ _ _=>Tr.I (λ_=>Tr.C ?_ λ_ _ _=>Tr.V λ_ _=>Tr.R ?_) λ_=>Tr.I (λ_=>Tr.C ?_ λ_ _ _=>Tr.V λ_ _=>Tr.R ?_) λ_=>Tr.R ?_)) λ_=>Tr.C ?_ λ_ _ _=>Tr.I (λ_=>Tr.C ?_ λ_ _ _=>Tr.V λ_ _=>Tr.R ?_) λ_=>Tr.I (λ_=>Tr.C ?_ λ_ _ _=>Tr.V λ_ _=>Tr.R ?_) λ_=>Tr.R ?_
  all_goals ((try simp only[Tr.nice,bo]at*)<;>grind)⟩
noncomputable def Kf:=cJ st VZ U9 [] [.wr false [.ptr 0],.st .segm,.st .segm] [.box [.st .curs]] (λx y=>(y.1.1,x.2.1,x.2.2.1,())) x5 (λv=>[(true,qU v.1)]) (λx y v=>((v.2,()),())) Tryz.func212 (by kernel_rfl) trivial
noncomputable def Ge:=[aA,SK,zK,K7,x9,jm,OO,bT,Kf,Ou]
def mw:Sh:=⟨[zp 0 0,zp 2 1,zp 3 2,zi 4,zi 5],[.box [.st .curs [.sl .any]],.box [.st .door [.nil .macRow,.nil .macRow,.nil .half,.nil .conn,.nil .tupl]],.box [.st .door [.own 3,.own 4,.own 5,.own 6,.own 7]],.of false true,.of false true,.of false true,.of false true,.of false true]⟩
noncomputable def Fo:Fx:=⟨165,Tryz.f165,[(0,la ⟨[0,2,3,4,5],[.box 3 16 .half,.box 3 17 .conn,.box 3 18 .tupl],false,1⟩ ⟨[2,3],[],false,1⟩)],1⟩
noncomputable def Md (v1:Int)(a:Curs×Door×Door):Tr (Stp (Curs×Door×Door) (Empty)):=
 .cal Lv.c (a.1,()) λc13=>
 .cal am.c (c13.2,2,()) λc14=>
 .val (nX.f ((IntKind.wrap .i64 (167772162+c14.1)),c13.1,())) λc15=>
 .cal fx.c (a.2.2.table,c15,()) λc16=>
 .ite (decide (0≤c16)) (.ret (.next (c14.2,({a.2.1 with keys.now.rows:=[],keys.before.rows:=[],halves:=[],table.conns:=[],table.waiting:=[]}:Door),a.2.2)))<|
 .cal BZ.c (a.2.2,c15,c13.1,()) λc17=>
 .ite (decide (0<(c17.2.length:Int))) (.cal bG.c (c14.2,2,()) λc18=>
  .ite c18.1 (.grd (decide (0<(c17.2.length:Int)))<|
   .cal x5.c (c18.2,c13.1,(c17.2.getD 0 (Ty.zero .segm)),()) λc19=>
   .cal De.c (c17.1,c15,c19.1,()) λc20=>
   .ret (.next (c19.2,({a.2.1 with keys.now.rows:=[],keys.before.rows:=[],halves:=[],table.conns:=[],table.waiting:=[]}:Door),c20.1)))<|
  .ret (.next (c18.2,({a.2.1 with keys.now.rows:=[],keys.before.rows:=[],halves:=[],table.conns:=[],table.waiting:=[]}:Door),c17.1)))<|
 .ret (.next (c14.2,({a.2.1 with keys.now.rows:=[],keys.before.rows:=[],halves:=[],table.conns:=[],table.waiting:=[]}:Door),c17.1))
noncomputable def iE:mw.V→LC mw (Curs×Door×Door) (Empty) (Int×(Curs×Door×Door)):=λ(v0,v1,v2,v3,v4,_)=>⟨v1,(v2,v3,v4),λv1 a=>(v0,v1,a.1,a.2.1,a.2.2,()),λv1 _=>(decide (v1<v0)),Md,up,1,(Int.toNat (v0-v1)),(λp=>Empty.elim p),λi a=>(i,a),λ_ k x=>k (.exit 0) (Sh.enc ⟨[zp 2 1,zp 3 2],[.box [.st .curs [.sl .any]],.box [.st .door [.nil .macRow,.nil .macRow,.nil .half,.nil .conn,.nil .tupl]],.box [.st .door [.own 3,.own 4,.own 5,.own 6,.own 7]],.of false true,.of false true,.of false true,.of false true,.of false true]⟩ (x.2.1,({x.2.2.1 with keys.now.rows:=[],keys.before.rows:=[],halves:=[],table.conns:=[],table.waiting:=[]}:Door),x.2.2.2,()))⟩
theorem JB:LS Tryz.prog Fo [0] (bR 0 mw iE):=aW st (aj Ge) _ iE [] trivial
theorem Ij {v0 v1:Int}{v2:Curs}{v3 v4:Door}(h0:0≤v1)(h1:v0≤4611686018427387904)(h2:af v2∧aD v3∧aD v4):(iE (v0,v1,v2,v3,v4,())).U v0 (λv1 a=>af a.1∧aD a.2.1∧aD a.2.2) (λ_=>True):=
 LC.okU (i:=v1) (a:=(v2,v3,v4)) (λ_ _=>rfl) (λ_=>rfl) rfl h0 h1 h2 λv1 (v2,v3,v4) hj hk hv=>by
  refine Tr.C ?_ λ_ _ _=>Tr.C ?_ λ_ _ _=>Tr.V λ_ _=>Tr.C ?_ λ_ _ _=>Tr.I (λ_=>Tr.Rn ?_) λ_=>Tr.C ?_ λ_ _ _=>Tr.I (λ_=>Tr.C ?_ λ_ _ _=>Tr.I (λ_=>Tr.G1 ?_ λ_=>Tr.C ?_ λ_ _ _=>Tr.C ?_ λ_ _ _=>Tr.Rn ?_) λ_=>Tr.Rn ?_) λ_=>Tr.Rn ?_
  all_goals (grind)
noncomputable def Eh:FT (Curs×Unit) (Door×Curs) (λx=>af x.1) (λx v=>aD v.1∧af v.2):=⟨λ(y0,_)=>
  .cal am.c (y0,99,()) λc1=>
  .cal O1.c (c1.2,()) λc2=>
  .cal xk.c (c2.2,()) λc3=>
  .cal am.c (c3.2,6,()) λc4=>
  .lp (iE (c4.1,0,c4.2,(⟨0,0,⟨0,⟨false,0,0,[]⟩,⟨false,0,0,[]⟩,false⟩,⟨0,0,0,0⟩,[],⟨[],[]⟩,0⟩:Door),(⟨80,c1.1,c2.1,c3.1,[],⟨[],[]⟩,0⟩:Door),())).lp λ(_,a21_0,_,a21_2)=>
  .ret (a21_2,a21_0),
 λ(y0,_) hp=>by
  refine Tr.C ?_ λ_ _ _=>Tr.C ?_ λ_ _ _=>Tr.C ?_ λ_ _ _=>Tr.C ?_ λ_ _ _=>Tr.L (Ij ?_ ?_ ?_) (λ(a21_0,a21_1,a21_2) _=>Tr.R ?_) (λp=>Empty.elim p)
  all_goals ((try simp only[iE,LC.lp,LC.ct,Ct.lp]at*)<;>grind)⟩
noncomputable def E4:=cJ st Fo Ge [(bR 0 mw iE)] [.wr false [.ptr 0]] [.box [.st .curs]] (λx y=>(y.1.1,())) Eh (λv=>[(true,oz (.o true) (.o true) (.o true) (.o true) (.o true) v.1)]) (λx y v=>((v.2,()),())) Tryz.func165 (by kernel_rfl) ⟨JB,trivial⟩
noncomputable def Kv:FT (Curs×Unit) (Stac×Curs) (λx=>af x.1) (λx v=>cU v.1∧af v.2):=⟨λ(y0,_)=>
  .cal u7.c (y0,()) λc1=>
  .cal Eh.c (c1.2,()) λc2=>
  .cal oe.c (c1.1,167772162,12,()) λc3=>
  .ret ((⟨⟨11,167772161,c3⟩,c2.1⟩:Stac),c2.2),
 λ(y0,_) hp=>by
  refine Tr.C ?_ λ_ _ _=>Tr.C ?_ λ_ _ _=>Tr.C ?_ λ_ _ _=>Tr.R ?_
  all_goals (grind)⟩
noncomputable def Pp:=cJ st ⟨140,Tryz.f140,[],1⟩ [uV,E4,sH] [] [.wr false [.ptr 0]] [.box [.st .curs]] (λx y=>(y.1.1,())) Kv (λv=>[(true,Aj (.o true) (.o true) (.o true) (.o true) (.o true) (.o true) v.1)]) (λx y v=>((v.2,()),())) Tryz.func140 (by kernel_rfl) trivial
noncomputable def cX:FT (Curs×Unit) (Int×Curs) (λx=>af x.1) (λx v=>af v.2):=⟨λ(y0,_)=>
  .cal am.c (y0,3,()) λc1=>
  .ite (c1.1==0) (.cal yR.c (c1.2,()) λc2=>
   .ret (c2.1,c2.2))<|
  .ite (c1.1==1) (.cal aC.c (c1.2,[0,1,255,256,65535,65536,16777215,4294967295,4294967296,281474976710655,281474976710656],()) λc3=>
   .ret (c3.1,c3.2))<|
  .cal am.c (c1.2,65536,()) λc4=>
  .ret (c4.1,c4.2),
 λ(y0,_) hp=>by
  refine Tr.C ?_ λ_ _ _=>Tr.I (λ_=>Tr.C ?_ λ_ _ _=>Tr.R ?_) λ_=>Tr.I (λ_=>Tr.C ?_ λ_ _ _=>Tr.R ?_) λ_=>Tr.C ?_ λ_ _ _=>Tr.R ?_
  all_goals (first|grind|(simp only[sS,List.length_cons,List.length_nil];grind))⟩
noncomputable def gt:=cJ st ⟨166,Tryz.f166,[],1⟩ [aA,wT,aH] [] [.wr false [.ptr 0]] [.box [.st .curs]] (λx y=>(y.1.1,())) cX (λv=>[(false,[.c (.int .i64 v.1)])]) (λx y v=>((v.2,()),())) Tryz.func166 (by kernel_rfl) trivial
noncomputable def NP:FT (Curs×Unit) (Link×Curs) (λx=>af x.1) (λx v=>dH v.1∧af v.2):=⟨λ(y0,_)=>
  .cal u7.c (y0,()) λc1=>
  .ret ((⟨11,167772161,c1.1⟩:Link),c1.2),
 λ(y0,_) hp=>by
  refine Tr.C ?_ λ_ _ _=>Tr.R ?_
  all_goals (grind)⟩
noncomputable def UY:=cJ st ⟨264,Tryz.f264,[],1⟩ [uV] [] [.wr false [.ptr 0]] [.box [.st .curs]] (λx y=>(y.1.1,())) NP (λv=>[(true,z5 (.o true) v.1)]) (λx y v=>((v.2,()),())) Tryz.func264 (by kernel_rfl) trivial
noncomputable def Th:=[aH,AQ,Av,bT,BA]
def vO:An:=⟨⟨[],[],false,1⟩,⟨[0,2,3],[],false,1⟩,⟨[],[]⟩,[(.normal,⟨[zp 0 0,zp 2 1,zp 3 2],[.box [.st .curs [.sl .any]],.box [.st .keys [.nil .macRow,.nil .macRow]],.box [.st .keys [.own 3,.own 4]],.of false true,.of false true]⟩),(.normal,⟨[zp 0 0,zp 2 1,zp 3 2],[.box [.st .curs [.sl .any]],.box [.st .keys [.nil .macRow,.nil .macRow]],.box [.st .keys [.own 3,.nil .macRow]],.of false true]⟩)]⟩
noncomputable def Ut:Fx:=⟨285,Tryz.f285,[(1000019,vO)],1⟩
noncomputable def N7:FT (Curs×Unit) (Keys×Curs) (λx=>af x.1) (λx v=>cC v.1∧af v.2):=⟨λ(y0,_)=>
  .cal aC.c (y0,[0,1,2,30,31,32,33,4294967295],()) λc1=>
  .cal kY.c (c1.2,()) λc2=>
  .cal kY.c (c2.2,()) λc3=>
  .cal tA.c (c2.1,c3.1,()) λc4=>
  .ite (decide (0<c1.1)) (.cal bG.c (c3.2,2,()) λc5=>
   .bnd (β:=WT vO.es) (.ite c5.1 (.cal kY.c (c5.2,()) λc6=>
     .cal kY.c (c6.2,()) λc7=>
     .cal tA.c (c6.1,c7.1,()) λc8=>
     .ret (.inl (c7.2,(⟨0,⟨false,0,0,[]⟩,⟨false,0,0,[]⟩,false⟩:Keys),(⟨c1.1,c4,c8,true⟩:Keys),())))<|
    .ret (.inr ((c5.2,(⟨0,⟨false,0,0,[]⟩,⟨false,0,0,[]⟩,false⟩:Keys),(⟨c1.1,c4,⟨false,0,0,[]⟩,false⟩:Keys),())))) λw9=> .sum w9 (λ(u9a0,_,u9a2,_)=>
   .cal bG.c (u9a0,3,()) λc10=>
   .ite c10.1 (.cal qG.c ([],()) λc11=>
    .ret (({u9a2 with now.use:=c11.use,now.k:=c11.k,now.l:=c11.l,now.rows:=c11.rows}:Keys),c10.2))<|
   .ret (u9a2,c10.2))<|
   λ(u9b0,_,u9b2,_)=>
   .cal bG.c (u9b0,3,()) λc12=>
   .ite c12.1 (.cal qG.c ([],()) λc13=>
    .ret (({u9b2 with now.use:=c13.use,now.k:=c13.k,now.l:=c13.l,now.rows:=c13.rows,before.rows:=[]}:Keys),c12.2))<|
   .ret (({u9b2 with before.rows:=[]}:Keys),c12.2))<|
  .cal bG.c (c3.2,3,()) λc14=>
  .ite c14.1 (.cal qG.c ([],()) λc15=>
   .ret ((⟨c1.1,c15,⟨false,0,0,[]⟩,false⟩:Keys),c14.2))<|
  .ret ((⟨c1.1,c4,⟨false,0,0,[]⟩,false⟩:Keys),c14.2),
 λ(y0,_) hp=>by
  refine Tr.C ?_ λ_ _ _=>Tr.C ?_ λ_ _ _=>Tr.C ?_ λ_ _ _=>Tr.C trivial λ_ _ _=>Tr.I (λ_=>Tr.C ?_ λ_ _ _=>Tr.B (Q':=(Sum.elim (λw=>af w.1∧cC w.2.1∧cC w.2.2.1) (λw=>af w.1∧cC w.2.1∧cC w.2.2.1))) (Tr.I (λ_=>Tr.C ?_ λ_ _ _=>Tr.C ?_ λ_ _ _=>Tr.C trivial λ_ _ _=>Tr.R ?_) λ_=>Tr.R ?_) (λ_ _ q9=>Tr.E q9 (λ(u9a0,u9a1,u9a2,_) _=>Tr.C ?_ λ_ _ _=>Tr.I (λ_=>Tr.C ?_ λ_ _ _=>Tr.R ?_) λ_=>Tr.R ?_) (λ(u9b0,u9b1,u9b2,_) _=>Tr.C ?_ λ_ _ _=>Tr.I (λ_=>Tr.C ?_ λ_ _ _=>Tr.R ?_) λ_=>Tr.R ?_))) λ_=>Tr.C ?_ λ_ _ _=>Tr.I (λ_=>Tr.C ?_ λ_ _ _=>Tr.R ?_) λ_=>Tr.R ?_
  all_goals ((try simp only[Tr.nice,bo]at*)<;>first|grind|(simp only[sS,List.length_cons,List.length_nil];grind))⟩
noncomputable def Sy:=cJ st Ut Th [] [.wr false [.ptr 0]] [.box [.st .curs]] (λx y=>(y.1.1,())) N7 (λv=>[(true,KA (.o true) (.o true) v.1)]) (λx y v=>((v.2,()),())) Tryz.func285 (by kernel_rfl) trivial
noncomputable def FL:=[uV,aA,gt,aH]
def nb:Sh:=⟨[zp 0 0,(3,false,[.own 1])],[.box [.st .curs [.sl .any]],.arr .entr false true]⟩
noncomputable def Ft:Fx:=⟨265,Tryz.f265,[(1,la ⟨[0,3],[],false,1⟩ ⟨[2,3],[],false,1⟩)],1⟩
noncomputable def Lg (a:Curs×List Entr):Tr (Stp (Curs×List Entr) ((Curs×List Entr))):=
 .cal am.c (a.1,2,()) λc6=>
 .ite (decide ((a.2.length:Int)<(IntKind.wrap .i64 (4+c6.1)))) (.cal am.c (c6.2,10,()) λc7=>
  .grd (Nat.ble ((2*(a.2.length+1)+1024)*24) aF)<|
  .ret (.next (c7.2,(a.2++[(⟨(a.2.length:Int),0,c7.1⟩:Entr)]))))<|
 .ret (.out (c6.2,a.2))
noncomputable def iO:nb.V→LW nb (Curs×List Entr) ((Curs×List Entr)):=λ(v0,v1,_)=>⟨(v0,v1),λa=>(a.1,a.2,()),Lg,Int.toNat (6-(v1.length:Int)),λ_ k p=>k (.exit 1) (Sh.enc ⟨[zu 2,(3,false,[.own 1])],[.box [.st .curs [.sl .any]],.arr .entr false true]⟩ (p.1,p.2,()))⟩
theorem Km:LS Tryz.prog Ft [0] (DJ 1 nb iO):=uf st (aj FL) _ iO [] trivial
theorem IW {v0:Curs}{v1:List Entr}(h0:af v0∧sS v1∧v1.length≤8):(iO (v0,v1,())).W (λp=>af p.1∧sS p.2):=
 LW.okW (a:=(v0,v1)) (λa=>af a.1∧sS a.2∧a.2.length≤8) (λa=>Int.toNat (6-(a.2.length:Int))) rfl h0 λ(v0,v1) hv=>by
  refine Tr.C ?_ λ_ _ _=>Tr.I (λ_=>Tr.C ?_ λ_ _ _=>Tr.Gb ?_ λ_=>Tr.Rn ?_) λ_=>Tr.Ro ?_
  all_goals (grind)
noncomputable def OG:FT (Curs×Unit) (List Entr×Curs) (λx=>af x.1) (λx v=>sS v.1∧af v.2):=⟨λ(y0,_)=>
  .cal u7.c (y0,()) λc1=>
  .cal am.c (c1.2,8,()) λc2=>
  .ite (c2.1==0) (.cal cX.c (c2.2,()) λc3=>
   .cal cX.c (c3.2,()) λc4=>
   .cal aC.c (c4.2,[0,9,10,(-1)],()) λc5=>
   .grd (Nat.ble ((2*(c1.1.length+1)+1024)*24) aF)<|
   .ret ((c1.1++[(⟨c3.1,c4.1,c5.1⟩:Entr)]),c5.2))<|
  .ite (c2.1==1) (.lp (iO (c2.2,c1.1,())).lp λ(p8a0,p8a1)=>
   .ret (p8a1,p8a0))<|
  .ret (c1.1,c2.2),
 λ(y0,_) hp=>by
  refine Tr.C ?_ λ_ _ _=>Tr.C ?_ λ_ _ _=>Tr.I (λ_=>Tr.C ?_ λ_ _ _=>Tr.C ?_ λ_ _ _=>Tr.C ?_ λ_ _ _=>Tr.Gb ?_ λ_=>Tr.R ?_) λ_=>Tr.I (λ_=>Tr.L (IW ?_) (λa=>Empty.elim a) (λ(p8a0,p8a1) _=>Tr.R ?_)) λ_=>Tr.R ?_
  all_goals ((try simp only[iO,LW.lp,LW.cw,Cw.lp]at*)<;>grind)⟩
noncomputable def SA:=cJ st Ft FL [(DJ 1 nb iO)] [.wr false [.ptr 0]] [.box [.st .curs]] (λx y=>(y.1.1,())) OG (λv=>[(false,[sc (.o true) .entr v.1])]) (λx y v=>((v.2,()),())) Tryz.func265 (by kernel_rfl) ⟨Km,trivial⟩

end
end Go.Proofs.YtgbgljgnblkffaaGreat
