/-
  Contracts of functions and plain laws (printed by a program): each theorem says what a function of the program returns; conditions are its hypotheses.
-/
import Derived.Test.YtgbgljgnblkffaaGreatEW1
set_option linter.all false
set_option maxRecDepth 4000
namespace Go.Proofs.YtgbgljgnblkffaaGreat
open Go Go.RowKit
noncomputable section
noncomputable def R1:=[n9,jT,qt,kt,dR,Sg]
def HE:An:=⟨⟨[],[],false,0⟩,⟨[1,2,3],[],false,0⟩,⟨[],[]⟩,[(.normal,⟨[zp 1 0,zb 2,zi 3],[.box [.st .conn [.sl .arg]]]⟩)]⟩
noncomputable def Tj:Fx:=⟨201,Tryz.f201,[(1000055,HE),(3000001,rA 0 52),(3000010,rA 0 4),(3000011,rA 0 5)],0⟩
noncomputable def iZ:FT (Conn×Unit) (Bool) (λx=>aa x.1) (λx v=>(v=true→SO x.1.s∧RO x.1.r)):=⟨λ(x0,_)=>
  .bnd (β:=Bool×Unit) (.cal lD.c (x0.tuple,()) λc1=>
   .ite (!c1) (.ret (true,()))<|
   .cal eS.c (x0.s,()) λc2=>
   .ite (!c2) (.ret (true,()))<|
   .cal kb.c (x0.r,()) λc3=>
   .ite (!c3) (.ret (true,()))<|
   .cal gZ.c (x0.opts,()) λc4=>
   .ite (!c4) (.ret (true,()))<|
   .val (dk.f (x0.state,1,8,())) λc5=>
   .ite (!c5) (.ret (true,()))<|
   .val (dk.f (x0.window,0,x0.most,())) λc6=>
   .ite (!c6) (.ret (true,()))<|
   .ite (decide (1073725440<x0.most)) (.ret (true,()))<|
   .val (dk.f (x0.tries,0,3,())) λc7=>
   .ret ((!c7),())) λ(u8a0,_)=>
  .ite u8a0 (.ret false)<|
  .bnd (β:=Bool×Int×Conn×Unit) (.ite (x0.state==7) (.ret (false,4,x0,()))<|
   .ret (false,3,x0,())) λ(_,u9a1,u9a2,_)=>
  .val (dk.f (u9a2.timer,0,u9a1,())) λc10=>
  .ite (!c10) (.ret false)<|
  .ite (u9a2.state==8) (.ret true)<|
  .bnd (β:=Bool×Unit) (.ite (u9a2.state==3) (.ret (true,()))<|
   .ret ((u9a2.state==7),())) λ(u11a0,_)=>
  .bnd (β:=Bool×Unit) (.ite (u9a2.state==4) (.ret (true,()))<|
   .ret ((decide (5≤u9a2.state)),())) λ(u12a0,_)=>
  .val (Gi.f (u9a2.state,())) λc13=>
  .ite (u9a2.s.fin==c13) (.ite (u9a2.s.done==u11a0) (.ret (u9a2.r.done==u12a0))<|
   .ret false)<|
  .ret false,
 λ(x0,_) hp=>by
  refine Tr.B (Q':=λw=>(w.1=false→SO x0.s∧RO x0.r)) (Tr.C trivial λ_ _ _=>Tr.I (λ_=>Tr.R ?_) λ_=>Tr.C trivial λ_ _ _=>Tr.I (λ_=>Tr.R ?_) λ_=>Tr.C ?_ λ_ _ _=>Tr.I (λ_=>Tr.R ?_) λ_=>Tr.C trivial λ_ _ _=>Tr.I (λ_=>Tr.R ?_) λ_=>Tr.V λ_ _=>Tr.I (λ_=>Tr.R ?_) λ_=>Tr.V λ_ _=>Tr.I (λ_=>Tr.R ?_) λ_=>Tr.I (λ_=>Tr.R ?_) λ_=>Tr.V λ_ _=>Tr.R ?_) (λ(u8a0,_) _ _=>Tr.I (λ_=>Tr.R ?_) λ_=>Tr.B (Q':=λw=>aa w.2.2.1) (Tr.I (λ_=>Tr.R ?_) λ_=>Tr.R ?_) (λ(u9a0,u9a1,u9a2,_) _ _=>Tr.V λ_ _=>Tr.I (λ_=>Tr.R ?_) λ_=>Tr.I (λ_=>Tr.R ?_) λ_=>Tr.B (Q':=λ_=>True) (Tr.F (by kernel_rfl) trivial) (λ(u11a0,_) _ _=>Tr.B (Q':=λ_=>True) (Tr.F (by kernel_rfl) trivial) (λ(u12a0,_) _ _=>Tr.V λ_ _=>Tr.I (λ_=>Tr.I (λ_=>Tr.R ?_) λ_=>Tr.R ?_) λ_=>Tr.R ?_))))
  all_goals ((try simp only[Tr.nice,bu]at*)<;>grind)⟩
noncomputable def iv:=aZ st Tj R1 [] (ks:=[.st .conn]) iZ (λv=>[(false,[.c (.bool v)])]) Tryz.func201 trivial
noncomputable def Ta:=[lG,oO,uO,kB,bV]
def HS:An:=⟨⟨[],[],false,0⟩,⟨[1,2,3],[],false,0⟩,⟨[],[]⟩,[(.normal,⟨[zp 1 0,zb 2,zi 3],[.box [.st .conn [.sl .arg]]]⟩)]⟩
noncomputable def R6:Fx:=⟨205,Tryz.f205,[(1000037,HS),(3000001,rA 0 34),(3000006,rA 0 62)],0⟩
noncomputable def bI:FT (Conn×Unit) (Bool) (λx=>aa x.1) (λx v=>(v=true→SO x.1.s∧RO x.1.r)):=⟨λ(x0,_)=>
  .bnd (β:=Bool×Unit) (.cal aD.c (x0.tuple,()) λc1=>
   .ite (!c1) (.ret (true,()))<|
   .cal bt.c (x0.s,()) λc2=>
   .ite (!c2) (.ret (true,()))<|
   .cal bC.c (x0.r,()) λc3=>
   .ite (!c3) (.ret (true,()))<|
   .cal aq.c (x0.opts,()) λc4=>
   .ite (!c4) (.ret (true,()))<|
   .val (bo.f (x0.state,1,8,())) λc5=>
   .ret ((!c5),())) λ(u6a0,_)=>
  .ite u6a0 (.ret false)<|
  .bnd (β:=Bool×Int×Conn×Unit) (.ite (x0.state==7) (.ret (false,4,x0,()))<|
   .ret (false,3,x0,())) λ(_,u7a1,u7a2,_)=>
  .bnd (β:=Bool×Unit) (.val (bo.f (u7a2.most,0,1073725440,())) λc8=>
   .ite (!c8) (.ret (true,()))<|
   .val (bo.f (u7a2.window,0,u7a2.most,())) λc9=>
   .ite (!c9) (.ret (true,()))<|
   .val (bo.f (u7a2.timer,0,u7a1,())) λc10=>
   .ite (!c10) (.ret (true,()))<|
   .val (bo.f (u7a2.tries,0,3,())) λc11=>
   .ret ((!c11),())) λ(u12a0,_)=>
  .ite u12a0 (.ret false)<|
  .ite (u7a2.state==1) (.ite (!u7a2.s.fin) (.ite (!u7a2.s.done) (.ret (!u7a2.r.done))<|
    .ret false)<|
   .ret false)<|
  .ite (u7a2.state==2) (.ite u7a2.s.fin (.ite (!u7a2.s.done) (.ret (!u7a2.r.done))<|
    .ret false)<|
   .ret false)<|
  .ite (u7a2.state==3) (.ite u7a2.s.fin (.ite u7a2.s.done (.ret (!u7a2.r.done))<|
    .ret false)<|
   .ret false)<|
  .ite (u7a2.state==4) (.ite (!u7a2.s.fin) (.ite (!u7a2.s.done) (.ret u7a2.r.done)<|
    .ret false)<|
   .ret false)<|
  .ite (u7a2.state==5) (.ite (u7a2.state==5) (.ite u7a2.s.fin (.ite (!u7a2.s.done) (.ret u7a2.r.done)<|
     .ret false)<|
    .ret false)<|
   .ite (u7a2.state==7) (.ite u7a2.s.fin (.ite u7a2.s.done (.ret u7a2.r.done)<|
     .ret false)<|
    .ret false)<|
   .ret true)<|
  .ite (u7a2.state==6) (.ite u7a2.s.fin (.ite (!u7a2.s.done) (.ret u7a2.r.done)<|
    .ret false)<|
   .ret false)<|
  .ite (u7a2.state==7) (.ite u7a2.s.fin (.ite u7a2.s.done (.ret u7a2.r.done)<|
    .ret false)<|
   .ret false)<|
  .ret true,
 λ(x0,_) hp=>by
  refine Tr.B (Q':=λw=>(w.1=false→SO x0.s∧RO x0.r∧dP (pw (Vl x0.r)) x0.r.held)) (Tr.C trivial λ_ _ _=>Tr.I (λ_=>Tr.R ?_) λ_=>Tr.C trivial λ_ _ _=>Tr.I (λ_=>Tr.R ?_) λ_=>Tr.C ?_ λ_ _ _=>Tr.I (λ_=>Tr.R ?_) λ_=>Tr.C trivial λ_ _ _=>Tr.I (λ_=>Tr.R ?_) λ_=>Tr.V λ_ _=>Tr.R ?_) (λ(u6a0,_) _ _=>Tr.I (λ_=>Tr.R ?_) λ_=>Tr.B (Q':=λw=>aa w.2.2.1) (Tr.I (λ_=>Tr.R ?_) λ_=>Tr.R ?_) (λ(u7a0,u7a1,u7a2,_) _ _=>Tr.B (Q':=λ_=>True) (Tr.F (by kernel_rfl) trivial) (λ(u12a0,_) _ _=>Tr.I (λ_=>Tr.R ?_) λ_=>Tr.I (λ_=>Tr.I (λ_=>Tr.I (λ_=>Tr.R ?_) λ_=>Tr.R ?_) λ_=>Tr.R ?_) λ_=>Tr.I (λ_=>Tr.I (λ_=>Tr.I (λ_=>Tr.R ?_) λ_=>Tr.R ?_) λ_=>Tr.R ?_) λ_=>Tr.I (λ_=>Tr.I (λ_=>Tr.I (λ_=>Tr.R ?_) λ_=>Tr.R ?_) λ_=>Tr.R ?_) λ_=>Tr.I (λ_=>Tr.I (λ_=>Tr.I (λ_=>Tr.R ?_) λ_=>Tr.R ?_) λ_=>Tr.R ?_) λ_=>Tr.I (λ_=>Tr.I (λ_=>Tr.I (λ_=>Tr.I (λ_=>Tr.R ?_) λ_=>Tr.R ?_) λ_=>Tr.R ?_) λ_=>Tr.I (λ_=>Tr.I (λ_=>Tr.I (λ_=>Tr.R ?_) λ_=>Tr.R ?_) λ_=>Tr.R ?_) λ_=>Tr.R ?_) λ_=>Tr.I (λ_=>Tr.I (λ_=>Tr.I (λ_=>Tr.R ?_) λ_=>Tr.R ?_) λ_=>Tr.R ?_) λ_=>Tr.I (λ_=>Tr.I (λ_=>Tr.I (λ_=>Tr.R ?_) λ_=>Tr.R ?_) λ_=>Tr.R ?_) λ_=>Tr.R ?_)))
  all_goals ((try simp only[Tr.nice,bu]at*)<;>grind)⟩
noncomputable def tk:=aZ st R6 Ta [] (ks:=[.st .conn]) bI (λv=>[(false,[.c (.bool v)])]) Tryz.func205 trivial
noncomputable def AL:FT (Keys×Keys×Unit) (Bool) (λx=>bE x.1∧bE x.2.1) (λ_ _=>True):=⟨λ(x0,x1,_)=>
  .ite (x0.epoch != x1.epoch) (.ret false)<|
  .cal ww.c (x0.now,x1.now,()) λc1=>
  .ite (!c1) (.ret false)<|
  .cal ww.c (x0.before,x1.before,()) λc2=>
  .ite (!c2) (.ret false)<|
  .ite (!(x0.two==x1.two)) (.ret false)<|
  .ret true,
 λ(x0,x1,_) hp=>by
  refine Tr.I (λ_=>Tr.R trivial) λ_=>Tr.C ?_ λ_ _ _=>Tr.I (λ_=>Tr.R trivial) λ_=>Tr.C ?_ λ_ _ _=>Tr.F (by kernel_rfl) trivial
  all_goals (grind)⟩
noncomputable def SA:=bi st Tryz.func249 [Le] (ks:=[.st .keys,.st .keys]) AL (λv=>[(false,[.c (.bool v)])])
noncomputable def D2:=[SJ]
def me:Sh:=⟨[(0,false,[.sl .arg .half]),(1,false,[.sl .arg .half]),zi 5],[]⟩
noncomputable def D5:Fx:=⟨251,Tryz.f251,[(0,lb [0,1,5] [4])],0⟩
noncomputable def vQ (v0 v1:List Half)(v2:Int)(a:Unit):Tr (Stp (Unit) ((Unit))):=
 .grd ((decide (0≤v2))&&(decide (v2<(v0.length:Int))))<|
 .grd ((decide (0≤v2))&&(decide (v2<(v1.length:Int))))<|
 .val (AO.f ((v0.getD v2.toNat (Ty.zero .half)),(v1.getD v2.toNat (Ty.zero .half)),())) λc1=>
 .ite (!c1) (.ret (.out ()))<|
 .ret (.next ())
noncomputable def fR:me.V→LC me (Unit) ((Unit)) (((Unit))⊕(Int×Unit)):=λ(v0,v1,v2,_)=>⟨v2,(),λv2 _=>(v0,v1,v2,()),λv2 _=>(decide (v2<(v0.length:Int))),vQ v0 v1,up,1,(Int.toNat ((v0.length:Int)-v2)),.inl,λi a=> .inr (i,a),λ_ k w=>Sum.elim (λ_=>k .ret (Sh.enc ⟨[zb 4],[]⟩ (false,()))) (λ_=>k (.exit 0) (Sh.enc ⟨[zu 4],[]⟩ ())) w⟩
theorem F4:LS Tryz.prog D5 [0] (bx 0 me fR):=aN st (ac D2) _ fR [] trivial
theorem GD {v0 v1:List Half}{v2:Int}(h0:0≤v2)(h1:(v0.length:Int)≤4611686018427387904)(h2:(v0.length:Int)≤(v1.length:Int)):(fR (v0,v1,v2,())).U (v0.length:Int) (λ_ _=>True) (λ_=>True):=
 LC.okU (i:=v2) (a:=()) (λ_ _=>rfl) (λ_=>rfl) rfl h0 h1 trivial λv2 _ hj hk hv=>by
  refine Tr.G2 ?_ λ_=>Tr.G2 ?_ λ_=>Tr.Z (by kernel_rfl)
  all_goals (grind)
noncomputable def wg:FT (List Half×List Half×Unit) (Bool) (λx=>sS x.1∧sS x.2.1) (λ_ _=>True):=⟨λ(x0,x1,_)=>
  .ite ((x0.length:Int) != (x1.length:Int)) (.ret false)<|
  .lp (fR (x0,x1,0,())).lp λw2=> .sum w2 (λ_=>
  .ret false)<|
  λ_=>
  .ret true,
 λ(x0,x1,_) hp=>by
  refine Tr.I (λ_=>Tr.R trivial) λ_=>Tr.L (GD ?_ ?_ ?_) (λ_ _=>Tr.Sr (Tr.R trivial)) (λ_ _=>Tr.Sl (Tr.R trivial))
  all_goals ((try simp only[fR,LC.lp,LC.ct,Ct.lp]at*)<;>grind)⟩
noncomputable def Oz:=aZ st D5 D2 [(bx 0 me fR)] (ks:=[.sc (.sl .half),.sc (.sl .half)]) wg (λv=>[(false,[.c (.bool v)])]) Tryz.func251 ⟨F4,trivial⟩
noncomputable def y7:FT (Keys×Int×Unit) (Int×List MacRow×List MacRow) (λx=>bE x.1∧x.2.1≤9223372036854775807) (λx v=>sL ay v.2.1∧sL ay v.2.2∧v.1≤9223372036854775807):=⟨λ(x0,x1,_)=>
  .cal sk.c (x0.now,x1,()) λc1=>
  .cal sk.c (x0.before,c1.1,()) λc2=>
  .ret (c2.1,c1.2,c2.2),
 λ(x0,x1,_) hp=>by
  refine Tr.C ?_ λ_ _ _=>Tr.C ?_ λ_ _ _=>Tr.R ?_
  all_goals (grind)⟩
noncomputable def NN:=cI st ⟨256,Tryz.f256,[],2⟩ [DX] [] [.wr true [.c (.int .i64),.c .bool,.c (.int .u64),.c (.int .u64),.own 0,.c .bool,.c (.int .u64),.c (.int .u64),.own 1,.c .bool],.sc (.int .i64)] [.arr .macRow,.arr .macRow] (λx y=>((⟨x.1.1,⟨x.1.2.1,x.1.2.2.1,x.1.2.2.2.1,y.1⟩,⟨x.1.2.2.2.2.1,x.1.2.2.2.2.2.1,x.1.2.2.2.2.2.2.1,y.2.1⟩,x.1.2.2.2.2.2.2.2.1⟩:Keys),x.2.1,())) y7 (λv=>[(false,[.c (.int .i64 v.1)])]) (λx y v=>(v.2.1,v.2.2,())) Tryz.func256 (by kernel_rfl) trivial
noncomputable def yt:FT (Keys×Int×Unit) (Int) (λx=>bE x.1∧x.2.1≤9223372036854775807) (λx v=>v≤9223372036854775807):=⟨λ(x0,x1,_)=>
  .cal wt.c (x0.now,x1,()) λc1=>
  .ite (decide (c1<0)) (.ret (-1))<|
  .cal wt.c (x0.before,c1,()) λc2=>
  .ite (decide (c2<0)) (.ret (-1))<|
  .ret c2,
 λ(x0,x1,_) hp=>by
  refine Tr.C ?_ λ_ _ _=>Tr.I (λ_=>Tr.R ?_) λ_=>Tr.C ?_ λ_ _ _=>Tr.I (λ_=>Tr.R ?_) λ_=>Tr.R ?_
  all_goals (grind)⟩
noncomputable def ND:=bi st Tryz.func260 [O7] (ks:=[.st .keys,.sc (.int .i64)]) yt (λv=>[(false,[.c (.int .i64 v)])])
noncomputable def u5:FT (Tabl×Int×Unit) (Int) (λx=>bh x.1∧x.2.1≤9223372036854775807) (λx v=>v≤9223372036854775807):=⟨λ(x0,x1,_)=>
  .cal qV.c (x0.conns,x1,()) λc1=>
  .ite (decide (c1<0)) (.ret (-1))<|
  .cal oy.c (x0.waiting,c1,()) λc2=>
  .ite (decide (c2<0)) (.ret (-1))<|
  .ret c2,
 λ(x0,x1,_) hp=>by
  refine Tr.C ?_ λ_ _ _=>Tr.I (λ_=>Tr.R ?_) λ_=>Tr.C ?_ λ_ _ _=>Tr.I (λ_=>Tr.R ?_) λ_=>Tr.R ?_
  all_goals (grind)⟩
noncomputable def Kh:=bi st Tryz.func262 [JR,Jf] (ks:=[.st .tabl,.sc (.int .i64)]) u5 (λv=>[(false,[.c (.int .i64 v)])])
noncomputable def TJ:FT (Conn×Unit) (Bool) (λx=>aa x.1) (λ_ _=>True):=⟨λ(x0,_)=>
  .cal iZ.c (x0,()) λc1=>
  .ite c1 (.ite (x0.state==7) (.ret true)<|
   .ite (x0.state != 8) (.val (Pq.f (x0,())) λc2=>
    .ret c2)<|
   .ret false)<|
  .ret false,
 λ(x0,_) hp=>by
  refine Tr.C ?_ λ_ _ _=>Tr.F (by kernel_rfl) trivial
  all_goals (grind)⟩
noncomputable def UE:=bi st Tryz.func270 [iv,Sj] (ks:=[.st .conn]) TJ (λv=>[(false,[.c (.bool v)])])
noncomputable def j6:FT (Conn×Unit) (Segm) (λx=>aa x.1) (λx v=>aj v):=⟨λ(x0,_)=>
  .cal vJ.c (x0.s,()) λc1=>
  .cal gy.c (x0.r,()) λc2=>
  .val (cr.f (())) λc3=>
  .ret (⟨x0.tuple.my,x0.tuple.port,c1,x0.r.next,16,c2,c3,[]⟩:Segm),
 λ(x0,_) hp=>by
  refine Tr.C ?_ λ_ _ _=>Tr.C ?_ λ_ _ _=>Tr.V λ_ _=>Tr.R ?_
  all_goals (grind)⟩
noncomputable def wx:=bi st Tryz.func271 [Iv,j8,em] (ks:=[.st .conn]) j6 (λv=>[(true,nk v)])
noncomputable def LF:FT (Sndr×Unit) (Sndr) (λx=>bU x.1) (λx v=>bU v):=⟨λ(x0,_)=>
  .cal eS.c (x0,()) λc1=>
  .ite c1 (.ret ({x0 with sent:=0,finSent:=false}:Sndr))<|
  .ret x0,
 λ(x0,_) hp=>by
  refine Tr.C trivial λ_ _ _=>Tr.I (λ_=>Tr.R ?_) λ_=>Tr.R ?_
  all_goals (grind)⟩
noncomputable def P0:=bi st Tryz.func272 [jT] (ks:=[.st .sndr]) LF (λv=>[(true,vg v)])
noncomputable def Ou:=[dK,iv,SH,xE,wx,C6]
def rc:Sh:=⟨[zi 1,zp 2 0,zp 4 1,(6,false,[.own 2])],[.box [.st .conn [.own 3]],.box [.st .conn [.nil .piec]],.arr .segm false true,.of false true]⟩
noncomputable def P4:Fx:=⟨273,Tryz.f273,[(0,lb [1,2,4,6] [4,5]),(3000003,rA 0 25)],0⟩
noncomputable def qC (v0:Int)(a:Conn×Conn×List Segm):Tr (Stp (Conn×Conn×List Segm) ((Conn×List Segm))):=
 .val (A4.f (a.1,())) λc4=>
 .cal n5.c (a.1.s,v0,c4,()) λc5=>
 .ite (!c5.2) (.ret (.out (a.1,a.2.2)))<|
 .cal j6.c (a.1,()) λc6=>
 .ite (!(c5.1.text==[])) (.ite c5.1.fin (.grd (Nat.ble ((2*(a.2.2.length+1)+1024)*104) aF)<|
   .val (a.2.2++[({c6 with seq:=c5.1.seq,flags:=(bits .or .i64 (bits .or .i64 c6.flags 8) 1),body:=c5.1.text}:Segm)]) λl7=>
   .cal lm.c (a.1.s,c5.1,()) λc8=>
   .ite (a.1.timer==0) (.ret (.next ((⟨a.1.tuple,a.1.state,c8,a.1.r,a.1.window,a.1.most,a.1.opts,3,a.1.tries⟩:Conn),({a.2.1 with r.held:=[]}:Conn),l7)))<|
   .ret (.next (({a.1 with s.una:=c8.una,s.data:=c8.data,s.sent:=c8.sent,s.fin:=c8.fin,s.finSent:=c8.finSent,s.done:=c8.done}:Conn),({a.2.1 with r.held:=[]}:Conn),l7)))<|
  .grd (Nat.ble ((2*(a.2.2.length+1)+1024)*104) aF)<|
  .val (a.2.2++[({c6 with seq:=c5.1.seq,flags:=(bits .or .i64 c6.flags 8),body:=c5.1.text}:Segm)]) λl9=>
  .cal lm.c (a.1.s,c5.1,()) λc10=>
  .ite (a.1.timer==0) (.ret (.next ((⟨a.1.tuple,a.1.state,c10,a.1.r,a.1.window,a.1.most,a.1.opts,3,a.1.tries⟩:Conn),({a.2.1 with r.held:=[]}:Conn),l9)))<|
  .ret (.next (({a.1 with s.una:=c10.una,s.data:=c10.data,s.sent:=c10.sent,s.fin:=c10.fin,s.finSent:=c10.finSent,s.done:=c10.done}:Conn),({a.2.1 with r.held:=[]}:Conn),l9)))<|
 .ite c5.1.fin (.grd (Nat.ble ((2*(a.2.2.length+1)+1024)*104) aF)<|
  .val (a.2.2++[({c6 with seq:=c5.1.seq,flags:=(bits .or .i64 c6.flags 1),body:=c5.1.text}:Segm)]) λl11=>
  .cal lm.c (a.1.s,c5.1,()) λc12=>
  .ite (a.1.timer==0) (.ret (.next ((⟨a.1.tuple,a.1.state,c12,a.1.r,a.1.window,a.1.most,a.1.opts,3,a.1.tries⟩:Conn),({a.2.1 with r.held:=[]}:Conn),l11)))<|
  .ret (.next (({a.1 with s.una:=c12.una,s.data:=c12.data,s.sent:=c12.sent,s.fin:=c12.fin,s.finSent:=c12.finSent,s.done:=c12.done}:Conn),({a.2.1 with r.held:=[]}:Conn),l11)))<|
 .grd (Nat.ble ((2*(a.2.2.length+1)+1024)*104) aF)<|
 .cal lm.c (a.1.s,c5.1,()) λc13=>
 .ite (a.1.timer==0) (.ret (.next ((⟨a.1.tuple,a.1.state,c13,a.1.r,a.1.window,a.1.most,a.1.opts,3,a.1.tries⟩:Conn),({a.2.1 with r.held:=[]}:Conn),(a.2.2++[({c6 with seq:=c5.1.seq,body:=c5.1.text}:Segm)]))))<|
 .ret (.next (({a.1 with s.una:=c13.una,s.data:=c13.data,s.sent:=c13.sent,s.fin:=c13.fin,s.finSent:=c13.finSent,s.done:=c13.done}:Conn),({a.2.1 with r.held:=[]}:Conn),(a.2.2++[({c6 with seq:=c5.1.seq,body:=c5.1.text}:Segm)])))
noncomputable def jK:rc.V→LW rc (Conn×Conn×List Segm) ((Conn×List Segm)):=λ(v0,v1,v2,v3,_)=>⟨(v1,v2,v3),λa=>(v0,a.1,a.2.1,a.2.2,()),qC v0,Fz v1.s,λ_ k p=>k .ret (Sh.enc ⟨[zp 4 0,(5,false,[.own 1])],[.box [.st .conn [.own 2]],.arr .segm false true,.of false true]⟩ (p.1,p.2,()))⟩
set_option maxHeartbeats 4000000 in
theorem OX:LS Tryz.prog P4 [0] (SX 0 rc jK):=Hz st (ac Ou) _ jK [] trivial
theorem Oq {v0:Int}{v1 v2:Conn}{v3:List Segm}(h0:aa v1∧aa v2∧sL aj v3∧v3.length+Fz v1.s≤49):(jK (v0,v1,v2,v3,())).W (λp=>aa p.1∧sL aj p.2∧p.2.length≤49):=
 LW.okW (a:=(v1,v2,v3)) (λa=>aa a.1∧aa a.2.1∧sL aj a.2.2∧a.2.2.length+Fz a.1.s≤49) (λa=>Fz a.1.s) rfl h0 λ(v1,v2,v3) hv=>by
  refine Tr.V λc4 hc4=>Tr.C ?_ λc5 hc5 qc5=>Tr.I (λb0=>Tr.Ro ?_) λb0=>Tr.C ?_ λc6 hc6 qc6=>Tr.I (λb1=>Tr.I (λb2=>Tr.Gb ?_ λg3=>Tr.V λl7 hl7=>Tr.C ?_ λc8 hc8 qc8=>Tr.I (λb4=>Tr.Rn ?_) λb4=>Tr.Rn ?_) λb2=>Tr.Gb ?_ λg3=>Tr.V λl9 hl9=>Tr.C ?_ λc10 hc10 qc10=>Tr.I (λb4=>Tr.Rn ?_) λb4=>Tr.Rn ?_) λb1=>Tr.I (λb2=>Tr.Gb ?_ λg3=>Tr.V λl11 hl11=>Tr.C ?_ λc12 hc12 qc12=>Tr.I (λb4=>Tr.Rn ?_) λb4=>Tr.Rn ?_) λb2=>Tr.Gb ?_ λg3=>Tr.C ?_ λc13 hc13 qc13=>Tr.I (λb4=>Tr.Rn ?_) λb4=>Tr.Rn ?_
  all_goals ((first|grind|(have tl:∀s:ax,s=[]∨0<s.length:=(λs=>by cases s<;>simp);grind)))
noncomputable def mS:FT (Conn×Int×Unit) (Conn×List Segm) (λx=>aa x.1) (λx v=>aa v.1∧sL aj v.2∧v.2.length≤49):=⟨λ(x0,x1,_)=>
  .cal dI.c (x0,()) λc1=>
  .bnd (β:=Bool×Unit) (.cal iZ.c (c1,()) λc2=>
   .ite (!c2) (.ret (true,()))<|
   .ite (c1.state==8) (.ret (true,()))<|
   .ret ((c1.state==7),())) λ(u3a0,_)=>
  .ite u3a0 (.ret (c1,[]))<|
  .lp (jK (x1,c1,(⟨⟨0,0,0⟩,0,⟨0,[],0,false,false,false⟩,⟨0,[],[],0,false⟩,0,0,⟨0,0,false,false,0,0⟩,0,0⟩:Conn),[],())).lp λ(p14a0,p14a1)=>
  .ret (p14a0,p14a1),
 λ(x0,x1,_) hp=>by
  refine Tr.C ?_ λc1 _ _=>Tr.B (Q':=λw=>(w.1=false→SO c1.s∧RO c1.r)) (Tr.C ?_ λ_ _ _=>Tr.I (λ_=>Tr.R ?_) λ_=>Tr.I (λ_=>Tr.R ?_) λ_=>Tr.R ?_) (λ(u3a0,_) _ _=>Tr.I (λ_=>Tr.R ?_) λ_=>Tr.L (Oq ?_) (λa=>Empty.elim a) (λ(p14a0,p14a1) _=>Tr.R ?_))
  all_goals ((try simp only[jK,LW.lp,LW.cw,Cw.lp,Tr.nice,bu]at*)<;>grind)⟩
noncomputable def zy:=aZ st P4 Ou [(SX 0 rc jK)] (ks:=[.st .conn,.sc (.int .i64)]) mS (λv=>[(true,gO (.o true) v.1),(false,[sc (.o true) .segm v.2])]) Tryz.func273 ⟨OX,trivial⟩
noncomputable def Rz:=[jT,sx]
noncomputable def Sf:Fx:=⟨276,Tryz.f276,[(3000001,rA 0 13)],0⟩
noncomputable def Hi:FT (Sndr×ax×Unit) (Sndr×Int) (λx=>bU x.1∧sS x.2.1) (λx v=>bU v.1):=⟨λ(x0,x1,_)=>
  .bnd (β:=Bool×Unit) (.cal eS.c (x0,()) λc1=>
   .ite (!c1) (.ret (true,()))<|
   .ret (x0.fin,())) λ(u2a0,_)=>
  .ite u2a0 (.ret (x0,0))<|
  .val (kW.f ((x1.length:Int),(IntKind.wrap .i64 (48-(x0.data.length:Int))),())) λc3=>
  .grd ((decide (0≤c3))&&(decide (c3≤(x1.length:Int))))<|
  .grd (Nat.ble (x0.data.length+((x1.take c3.toNat).drop 0).length) dq)<|
  .ret (({x0 with data:=(x0.data++((x1.take c3.toNat).drop 0))}:Sndr),c3),
 λ(x0,x1,_) hp=>by
  refine Tr.B (Q':=λw=>(w.1=false→SO x0)) (Tr.C trivial λ_ _ _=>Tr.I (λ_=>Tr.R ?_) λ_=>Tr.R ?_) (λ(u2a0,_) _ _=>Tr.I (λ_=>Tr.R ?_) λ_=>Tr.V λ_ _=>Tr.G2 ?_ λ_=>Tr.Gb ?_ λ_=>Tr.R ?_)
  all_goals ((try simp only[Tr.nice,bu]at*)<;>grind)⟩
noncomputable def GJ:=aZ st Sf Rz [] (ks:=[.st .sndr,.sc .str]) Hi (λv=>[(true,vg v.1),(false,[.c (.int .i64 v.2)])]) Tryz.func276 trivial
noncomputable def CM:FT (Recv×Int×Unit) (Recv×ax) (λx=>an x.1) (λx v=>an v.1∧sS v.2∧v.1.held.length=x.1.held.length):=⟨λ(x0,x1,_)=>
  .cal dJ.c (x0,()) λc1=>
  .cal kb.c (x0,()) λc2=>
  .ite (!c2) (.ret (c1,[]))<|
  .val (kW.f (x1,(x0.data.length:Int),())) λc3=>
  .val (fq.f (0,c3,())) λc4=>
  .grd (((decide (0≤c4))&&(decide (c4≤(x0.data.length:Int))))&&(decide ((x0.data.length:Int)≤(x0.data.length:Int))))<|
  .grd ((decide (0≤c4))&&(decide (c4≤(x0.data.length:Int))))<|
  .ret (({c1 with data:=((x0.data.take ((x0.data.length:Int).toNat)).drop c4.toNat)}:Recv),((x0.data.take c4.toNat).drop 0)),
 λ(x0,x1,_) hp=>by
  refine Tr.C ?_ λ_ _ _=>Tr.C ?_ λ_ _ _=>Tr.I (λ_=>Tr.R ?_) λ_=>Tr.V λ_ _=>Tr.V λ_ _=>Tr.G3 ?_ λ_=>Tr.G2 ?_ λ_=>Tr.R ?_
  all_goals (grind)⟩
noncomputable def Ec:=bi st Tryz.func278 [vG,qt,sx,lA] (ks:=[.st .recv,.sc (.int .i64)]) CM (λv=>[(true,sT (.o true) v.1),(false,[.c (.str v.2)])])
noncomputable def cC:FT (Conn×Unit) (Segm) (λx=>aa x.1) (λx v=>aj v):=⟨λ(x0,_)=>
  .cal jG.c (x0.s,()) λc1=>
  .cal bR.c (x0.r,()) λc2=>
  .val (bG.f (())) λc3=>
  .ret (⟨x0.tuple.my,x0.tuple.port,c1,x0.r.next,16,c2,c3,[]⟩:Segm),
 λ(x0,_) hp=>by
  refine Tr.C ?_ λ_ _ _=>Tr.C ?_ λ_ _ _=>Tr.V λ_ _=>Tr.R ?_
  all_goals (grind)⟩
noncomputable def K1:=bi st Tryz.func295 [FQ,lS,gD] (ks:=[.st .conn]) cC (λv=>[(true,nk v)])
noncomputable def OT:=[fw,tk,Ts,J4,K1,Qi]
def qB:Sh:=⟨[zi 1,zp 4 0,zp 6 1,(7,false,[.own 2])],[.box [.st .conn [.nil .piec]],.box [.st .conn [.own 3]],.arr .segm false true,.of false true]⟩
noncomputable def Q3:Fx:=⟨297,Tryz.f297,[(0,lb [1,4,6,7] [4,5,6,7]),(3000002,rA 0 25),(3000016,rA 0 76)],0⟩
noncomputable def bO (v0:Int)(a:Conn×Conn×List Segm):Tr (Stp (Conn×Conn×List Segm) ((Conn×Conn×List Segm))):=
 .val (df.f (a.2.1,())) λc4=>
 .cal aV.c (a.2.1.s,v0,c4,()) λc5=>
 .ite (!c5.2) (.ret (.out (({a.1 with r.held:=[]}:Conn),a.2.1,a.2.2)))<|
 .cal cC.c (a.2.1,()) λc6=>
 .ite (!(c5.1.text==[])) (.ite c5.1.fin (.grd (Nat.ble ((2*(a.2.2.length+1)+1024)*104) aF)<|
   .val (a.2.2++[({c6 with seq:=c5.1.seq,flags:=(bits .or .i64 (bits .or .i64 c6.flags 8) 1),body:=c5.1.text}:Segm)]) λl7=>
   .cal di.c (a.2.1.s,c5.1,()) λc8=>
   .ret (.next (({a.1 with r.held:=[]}:Conn),({a.2.1 with s.una:=c8.una,s.data:=c8.data,s.sent:=c8.sent,s.fin:=c8.fin,s.finSent:=c8.finSent,s.done:=c8.done}:Conn),l7)))<|
  .grd (Nat.ble ((2*(a.2.2.length+1)+1024)*104) aF)<|
  .val (a.2.2++[({c6 with seq:=c5.1.seq,flags:=(bits .or .i64 c6.flags 8),body:=c5.1.text}:Segm)]) λl9=>
  .cal di.c (a.2.1.s,c5.1,()) λc10=>
  .ret (.next (({a.1 with r.held:=[]}:Conn),({a.2.1 with s.una:=c10.una,s.data:=c10.data,s.sent:=c10.sent,s.fin:=c10.fin,s.finSent:=c10.finSent,s.done:=c10.done}:Conn),l9)))<|
 .ite c5.1.fin (.grd (Nat.ble ((2*(a.2.2.length+1)+1024)*104) aF)<|
  .val (a.2.2++[({c6 with seq:=c5.1.seq,flags:=(bits .or .i64 c6.flags 1),body:=c5.1.text}:Segm)]) λl11=>
  .cal di.c (a.2.1.s,c5.1,()) λc12=>
  .ret (.next (({a.1 with r.held:=[]}:Conn),({a.2.1 with s.una:=c12.una,s.data:=c12.data,s.sent:=c12.sent,s.fin:=c12.fin,s.finSent:=c12.finSent,s.done:=c12.done}:Conn),l11)))<|
 .grd (Nat.ble ((2*(a.2.2.length+1)+1024)*104) aF)<|
 .cal di.c (a.2.1.s,c5.1,()) λc13=>
 .ret (.next (({a.1 with r.held:=[]}:Conn),({a.2.1 with s.una:=c13.una,s.data:=c13.data,s.sent:=c13.sent,s.fin:=c13.fin,s.finSent:=c13.finSent,s.done:=c13.done}:Conn),(a.2.2++[({c6 with seq:=c5.1.seq,body:=c5.1.text}:Segm)])))
noncomputable def fy:qB.V→LW qB (Conn×Conn×List Segm) ((Conn×Conn×List Segm)):=λ(v0,v1,v2,v3,_)=>⟨(v1,v2,v3),λa=>(v0,a.1,a.2.1,a.2.2,()),bO v0,Fz v2.s,λ_ k p=>k (.exit 0) (Sh.enc ⟨[zp 4 0,zu 5,zp 6 1,(7,false,[.own 2])],[.box [.st .conn [.nil .piec]],.box [.st .conn [.own 3]],.arr .segm false true,.of false true]⟩ (p.1,p.2.1,p.2.2,()))⟩
theorem Pf:LS Tryz.prog Q3 [0] (SX 0 qB fy):=Hz st (ac OT) _ fy [] trivial
theorem QA {v0:Int}{v1 v2:Conn}{v3:List Segm}(h0:aa v1∧aa v2∧sL aj v3∧v3.length+Fz v2.s≤49):(fy (v0,v1,v2,v3,())).W (λp=>aa p.1∧aa p.2.1∧sL aj p.2.2∧p.2.2.length≤49):=
 LW.okW (a:=(v1,v2,v3)) (λa=>aa a.1∧aa a.2.1∧sL aj a.2.2∧a.2.2.length+Fz a.2.1.s≤49) (λa=>Fz a.2.1.s) rfl h0 λ(v1,v2,v3) hv=>by
  refine Tr.V λc4 hc4=>Tr.C ?_ λc5 hc5 qc5=>Tr.I (λb0=>Tr.Ro ?_) λb0=>Tr.C ?_ λc6 hc6 qc6=>Tr.I (λb1=>Tr.I (λb2=>Tr.Gb ?_ λg3=>Tr.V λl7 hl7=>Tr.C ?_ λc8 hc8 qc8=>Tr.Rn ?_) λb2=>Tr.Gb ?_ λg3=>Tr.V λl9 hl9=>Tr.C ?_ λc10 hc10 qc10=>Tr.Rn ?_) λb1=>Tr.I (λb2=>Tr.Gb ?_ λg3=>Tr.V λl11 hl11=>Tr.C ?_ λc12 hc12 qc12=>Tr.Rn ?_) λb2=>Tr.Gb ?_ λg3=>Tr.C ?_ λc13 hc13 qc13=>Tr.Rn ?_
  all_goals ((first|grind|(have tl:∀s:ax,s=[]∨0<s.length:=(λs=>by cases s<;>simp);grind)))
noncomputable def dQ:FT (Conn×Int×Unit) (Conn×List Segm) (λx=>aa x.1) (λx v=>aa v.1∧sL aj v.2∧v.2.length≤49):=⟨λ(x0,x1,_)=>
  .cal dj.c (x0,()) λc1=>
  .bnd (β:=Bool×Unit) (.cal bI.c (x0,()) λc2=>
   .ite (!c2) (.ret (true,()))<|
   .ite (x0.state==8) (.ret (true,()))<|
   .ret ((x0.state==7),())) λ(u3a0,_)=>
  .ite u3a0 (.ret (c1,[]))<|
  .lp (fy (x1,(⟨⟨0,0,0⟩,0,⟨0,[],0,false,false,false⟩,⟨0,[],[],0,false⟩,0,0,⟨0,0,false,false,0,0⟩,0,0⟩:Conn),c1,[],())).lp λ(_,p14a1,p14a2)=>
  .bnd (β:=Bool×Unit) (.ite (decide (0<(p14a2.length:Int))) (.ret ((p14a1.timer==0),()))<|
   .ret (false,())) λ(u15a0,_)=>
  .ite u15a0 (.ret (({p14a1 with timer:=3}:Conn),p14a2))<|
  .ret (p14a1,p14a2),
 λ(x0,x1,_) hp=>by
  refine Tr.C ?_ λ_ _ _=>Tr.B (Q':=λw=>(w.1=false→SO x0.s∧RO x0.r)) (Tr.C ?_ λ_ _ _=>Tr.I (λ_=>Tr.R ?_) λ_=>Tr.I (λ_=>Tr.R ?_) λ_=>Tr.R ?_) (λ(u3a0,_) _ _=>Tr.I (λ_=>Tr.R ?_) λ_=>Tr.L (QA ?_) (λa=>Empty.elim a) (λ(p14a0,p14a1,p14a2) _=>Tr.B (Q':=λ_=>True) (Tr.F (by kernel_rfl) trivial) (λ(u15a0,_) _ _=>Tr.I (λ_=>Tr.R ?_) λ_=>Tr.R ?_)))
  all_goals ((try simp only[fy,LW.lp,LW.cw,Cw.lp,Tr.nice,bu]at*)<;>grind)⟩
noncomputable def Xo:=aZ st Q3 OT [(SX 0 qB fy)] (ks:=[.st .conn,.sc (.int .i64)]) dQ (λv=>[(true,gO (.o true) v.1),(false,[sc (.o true) .segm v.2])]) Tryz.func297 ⟨Pf,trivial⟩
noncomputable def yx:=[gD,CN,Rc]
noncomputable def yh:Fx:=⟨306,Tryz.f306,[(3000004,rA 0 24)],0⟩
noncomputable def bp:FT (Int×Opti×Unit) (Opti) (λ_=>True) (λ_ _=>True):=⟨λ(x0,x1,_)=>
  .val (bG.f (())) λc1=>
  .cal fu.c (x0,()) λc2=>
  .cal jg.c (x1.echo,()) λc3=>
  .bnd (β:=Bool×Unit) (.ite x1.stamp (.ret (c3.2.2,()))<|
   .ret (false,())) λ(u4a0,_)=>
  .ite u4a0 (.ret (⟨c2,c3.1,c3.2.1,true,x1.val,c1.echo⟩:Opti))<|
  .ret ({c1 with mss:=c2}:Opti),
 λ(x0,x1,_) hp=>by
  refine Tr.V λ_ _=>Tr.C trivial λ_ _ _=>Tr.C trivial λ_ _ _=>Tr.F (by kernel_rfl) trivial⟩
noncomputable def yB:=aZ st yh yx [] (ks:=[.sc (.int .i64),.st .opti]) bp (λv=>[(true,pS v)]) Tryz.func306 trivial
noncomputable def Ov:=[z9]
noncomputable def Pi:Fx:=⟨312,Tryz.f312,[(3000003,rA 0 27)],0⟩
noncomputable def rE:FT (List Half×Half×Int×Unit) (List Half×Bool) (λx=>sS x.1) (λx v=>sS v.1∧(v.1.length:Int)≤x.1.length+1):=⟨λ(x0,x1,x2,_)=>
  .grd (Nat.ble ((2*(0+x0.length)+1024)*96) aF)<|
  .grd (Nat.ble ((2*(0+x0.length)+1024)*96) aF)<|
  .grd (Nat.ble ((2*(([]++x0).length+1)+1024)*96) aF)<|
  .bnd (β:=Bool×Unit) (.ite (decide (x2≤(x0.length:Int))) (.ret (true,()))<|
   .cal nf.c ((([]++x0)++[x1]),()) λc1=>
   .ret ((!c1),())) λ(u2a0,_)=>
  .ite u2a0 (.ret (([]++x0),false))<|
  .ret ((([]++x0)++[x1]),true),
 λ(x0,x1,x2,_) hp=>by
  refine Tr.Gb ?_ λ_=>Tr.Gb ?_ λ_=>Tr.Gb ?_ λ_=>Tr.B (Q':=λw=>(w.1=false→(([]++x0)++[x1]).length≤64)) (Tr.I (λ_=>Tr.R ?_) λ_=>Tr.C ?_ λ_ _ _=>Tr.R ?_) (λ(u2a0,_) _ _=>Tr.I (λ_=>Tr.R ?_) λ_=>Tr.R ?_)
  all_goals ((try simp only[Tr.nice,bu]at*)<;>grind)⟩
noncomputable def C0:=aZ st Pi Ov [] (ks:=[.sc (.sl .half),.st .half,.sc (.int .i64)]) rE (λv=>[(false,[sc (.o true) .half v.1]),(false,[.c (.bool v.2)])]) Tryz.func312 trivial
noncomputable def yL:=[em,KM,PI]
noncomputable def yH:Fx:=⟨316,Tryz.f316,[(3000004,rA 0 24)],0⟩
noncomputable def kd:FT (Int×Opti×Unit) (Opti) (λ_=>True) (λ_ _=>True):=⟨λ(x0,x1,_)=>
  .val (cr.f (())) λc1=>
  .cal A9.c (x0,()) λc2=>
  .cal wT.c (x1.echo,()) λc3=>
  .bnd (β:=Bool×Unit) (.ite x1.stamp (.ret (c3.2.2,()))<|
   .ret (false,())) λ(u4a0,_)=>
  .ite u4a0 (.ret (⟨c2,c3.1,c3.2.1,true,x1.val,c1.echo⟩:Opti))<|
  .ret ({c1 with mss:=c2}:Opti),
 λ(x0,x1,_) hp=>by
  refine Tr.V λ_ _=>Tr.C trivial λ_ _ _=>Tr.C trivial λ_ _ _=>Tr.F (by kernel_rfl) trivial⟩
noncomputable def yg:=aZ st yH yL [] (ks:=[.sc (.int .i64),.st .opti]) kd (λv=>[(true,pS v)]) Tryz.func316 trivial
noncomputable def rZ:FT (Sipr×Int×Unit) (Sipr) (λ_=>True) (λ_ _=>True):=⟨λ(x0,x1,_)=>
  .cal ik.c (({x0 with d:=(bits .xor .u64 x0.d x1)}:Sipr),()) λc1=>
  .cal ik.c (c1,()) λc2=>
  .ret ({c2 with a:=(bits .xor .u64 c2.a x1)}:Sipr),
 λ(x0,x1,_) hp=>by
  refine Tr.C trivial λ_ _ _=>Tr.C trivial λ_ _ _=>Tr.R trivial⟩
noncomputable def Rf:=bi st Tryz.func371 [zW] (ks:=[.st .sipr,.sc (.int .u64)]) rZ (λv=>[(true,Cg v)])
noncomputable def Ag:FT (Sipr×Unit) (Int) (λ_=>True) (λ_ _=>True):=⟨λ(x0,_)=>
  .cal ik.c (({x0 with c:=(bits .xor .u64 x0.c 255)}:Sipr),()) λc1=>
  .cal ik.c (c1,()) λc2=>
  .cal ik.c (c2,()) λc3=>
  .cal ik.c (c3,()) λc4=>
  .ret (bits .xor .u64 (bits .xor .u64 (bits .xor .u64 c4.a c4.b) c4.c) c4.d),
 λ(x0,_) hp=>by
  refine Tr.C trivial λ_ _ _=>Tr.C trivial λ_ _ _=>Tr.C trivial λ_ _ _=>Tr.C trivial λ_ _ _=>Tr.R trivial⟩
noncomputable def R0:=bi st Tryz.func373 [zW] (ks:=[.st .sipr]) Ag (λv=>[(false,[.c (.int .u64 v)])])
noncomputable def Hn:=[pX,lS,vA,tY,Ni]
noncomputable def IQ:Fx:=⟨380,Tryz.f380,[(3000003,rA 0 4)],0⟩
noncomputable def oM:FT (Conn×Segm×Unit) (Bool) (λx=>aa x.1∧aj x.2.1) (λ_ _=>True):=⟨λ(x0,x1,_)=>
  .cal aI.c (x1,()) λc1=>
  .cal bR.c (x0.r,()) λc2=>
  .ite (c1==0) (.bnd (β:=Bool×Unit) (.val (pe.f (x1.seq,x0.r.next,())) λc3=>
    .ite (c3==0) (.ret (true,()))<|
    .val (m7.f (x1.seq,x0.r.next,c2,())) λc4=>
    .ret (c4,())) λ(u5a0,_)=>
   .ret u5a0)<|
  .val (ta.f (x1.seq,c1,x0.r.next,c2,())) λc6=>
  .ret c6,
 λ(x0,x1,_) hp=>by
  refine Tr.C ?_ λ_ _ _=>Tr.C ?_ λ_ _ _=>Tr.F (by kernel_rfl) trivial
  all_goals ((try simp only[Tr.nice,bu]at*)<;>grind)⟩
noncomputable def FS:=aZ st IQ Hn [] (ks:=[.st .conn,.st .segm]) oM (λv=>[(false,[.c (.bool v)])]) Tryz.func380 trivial
noncomputable def jP:=[qZ,uO,lS,fH,Cf,zf,E3]
def jY:Sh:=⟨[zi 1,zs 2,zb 3,zp 4 0,zp 8 1,zp 9 2,zi 10,zp 11 3,zp 12 4,(13,false,[.fn 426 [4,3]]),zp 15 5,(42,false,[.sl .arg .piec]),zi 43,zi 44,zi 50,zi 51],[.box [.st .recv [.sl .arg]],.box [.st .recv [.nil .piec]],.box [.st .recv [.own 6]],.box [.own 7],.box [.own 8],.box [.st .piec []],.of false true,.arr .u8 false true,.arr .bool false true]⟩
def mz:Sh:=⟨[zi 1,zs 2,zb 3,zp 4 0,zp 8 1,zp 9 2,zi 10,zp 11 3,zp 12 4,(13,false,[.fn 426 [4,3]]),(42,false,[.sl .arg .piec]),zi 43,zi 44],[.box [.st .recv [.sl .arg]],.box [.st .recv [.nil .piec]],.box [.st .recv [.own 5]],.box [.own 6],.box [.own 7],.of false true,.arr .u8 false true,.arr .bool false true]⟩
def mU:Sh:=⟨[zi 1,zs 2,zb 3,zp 4 0,zp 8 1,zp 9 2,zi 10,zp 11 3,zp 12 4,(13,false,[.fn 426 [4,3]]),zi 67,zi 68],[.box [.st .recv [.sl .arg]],.box [.st .recv [.nil .piec]],.box [.st .recv [.own 5]],.box [.own 6],.box [.own 7],.of false true,.arr .u8 false true,.arr .bool false true]⟩
def mB:Sh:=⟨[zp 4 0,zp 8 1,zp 9 2,zi 10,zp 11 3,zp 12 4,zp 19 5,zi 21],[.box [.st .recv [.sl .arg]],.box [.st .recv [.nil .piec]],.box [.st .recv [.own 6]],.box [.own 7],.box [.sl .any .bool],.box [.st .recv [.sl .arg]],.of false true,.arr .u8 false true]⟩
def ka:Sh:=⟨[zp 8 0,zp 9 1,zi 10,zp 11 2,zp 12 3,zp 19 4,zi 21,zi 22,zi 23],[.box [.st .recv [.nil .piec]],.box [.st .recv [.own 5]],.box [.own 6],.box [.sl .any .bool],.box [.st .recv [.own 7]],.of false true,.arr .u8 false true,.of false true]⟩
def mc:Sh:=⟨[zp 8 0,zp 9 1,zi 10,zp 11 2,zp 12 3,zp 19 4,zi 21,zi 22],[.box [.st .recv [.nil .piec]],.box [.st .recv [.own 5]],.box [.own 6],.box [.sl .any .bool],.box [.st .recv [.own 7]],.of false true,.arr .u8 false true,.of false true]⟩
def rS:An:=⟨⟨[],[],false,0⟩,⟨[4,8,9,10,11,12,19],[],false,0⟩,⟨[],[]⟩,[(.normal,⟨[zp 4 0,zp 8 1,zp 9 2,zi 10,zp 11 3,zp 12 4,zp 19 5],[.box [.st .recv [.sl .arg]],.box [.st .recv [.nil .piec]],.box [.st .recv [.own 6]],.box [.own 7],.box [.sl .any .bool],.box [.st .recv [.sl .arg]],.of false true,.arr .u8 false true]⟩)]⟩
def np:An:=⟨⟨[],[],false,0⟩,⟨[8,9,10,11,12,19,21],[],false,0⟩,⟨[],[]⟩,[(.normal,⟨[zp 8 0,zp 9 1,zi 10,zp 11 2,zp 12 3,zp 19 4,zi 21],[.box [.st .recv [.nil .piec]],.box [.st .recv [.own 5]],.box [.own 6],.box [.sl .any .bool],.box [.st .recv [.sl .arg]],.of false true,.arr .u8 false true]⟩)]⟩
noncomputable def jN:Fx:=⟨386,Tryz.f386,[(2,lb [1,2,3,4,8,9,10,11,12,13,15,42,43,44,50,51] [1,2,3,4,8,9,10,11,12,13,42,43,44]),(0,lb [1,2,3,4,8,9,10,11,12,13,42,43,44] [1,2,3,4,8,9,10,11,12,13]),(4,la ⟨[1,2,3,4,8,9,10,11,12,13,67,68],[],false,0⟩ ⟨[1,2,3,4,8,9,10,11,12],[.softb 12 0],false,0⟩),(6,lb [4,8,9,10,11,12,19,21] [4,8,9,10,11,12,19,21]),(10,lb [8,9,10,11,12,19,21,22,23] [8,9,10,11,12,19,21,22,23]),(8,la ⟨[8,9,10,11,12,19,21,22],[.box 19 2 .piec],false,0⟩ ⟨[8,9,19],[],false,0⟩),(1000123,rS),(1000152,np),(3000002,rA 0 32),(3000021,rA 0 90),(3000026,rA 0 123)],0⟩
noncomputable def m8 (vb12:Piec)(vb8:Int)(a:Recv×List Int×List Bool):Tr (Stp (Recv×List Int×List Bool) (Empty)):=
 .grd ((decide (0≤vb8))&&(decide (vb8<(vb12.text.length:Int))))<|
 .cal gv.c ((IntKind.wrap .i64 (vb12.off+vb8)),(ci vb12.text vb8.toNat),a.2.2,a.2.1,()) λc5=>
 .ret (.next (({a.1 with held:=[]}:Recv),c5.2,c5.1))
noncomputable def de:jY.V→LC jY (Recv×List Int×List Bool) (Empty) (Int×(Recv×List Int×List Bool)):=λ(vb0,vb1,vb2,vb3,vb4,vb5,vb6,vb7,vb8,vb9,vb10,vb11,vb12,vb13,vb14,_)=>⟨vb8,(vb10,vb13,vb14),λvb8 a=>(vb0,vb1,vb2,vb3,vb4,vb5,vb6,vb7,vb8,vb9,a.1,vb11,vb12,a.2.1,a.2.2,()),λvb8 _=>(decide (vb8<vb7)),m8 vb12,up,1,(Int.toNat (vb7-vb8)),(λp=>Empty.elim p),λi a=>(i,a),λ_ k x=>k (.exit 2) (Sh.enc ⟨[zi 1,zs 2,zb 3,zp 4 0,zp 8 1,zp 9 2,zi 10,zp 11 3,zp 12 4,(13,false,[.fn 426 [4,3]]),(42,false,[.sl .arg .piec]),zi 43,zi 44],[.box [.st .recv [.sl .arg]],.box [.st .recv [.nil .piec]],.box [.st .recv [.own 5]],.box [.own 6],.box [.own 7],.of false true,.arr .u8 false true,.arr .bool false true]⟩ (vb0,vb1,vb2,vb3,vb4,vb5,vb6,vb9,({x.2.1 with held:=[]}:Recv),vb11,x.2.2.1,x.2.2.2,()))⟩
theorem B4:LS Tryz.prog jN [0,0] (bx 2 jY de):=aN st (ac jP) _ de [] trivial
theorem BH {vb0 vb3 vb5 vb6 vb7 vb8:Int}{vb1:ax}{vb2:Bool}{vb4:List Piec}{vb9 vb10 vb11:Recv}{vb12:Piec}{vb13:List Int}{vb14:List Bool}(h0:0≤vb8)(h1:vb7≤4611686018427387904)(h2:1≤vb12.off∧vb12.off+(vb12.text.length:Int)≤vb3)(h3:vb3≤32)(h4:ge vb12)(h5:vb7≤(vb12.text.length:Int))(h6:an vb10∧sS vb13∧sS vb14∧vb13.length=vb14.length∧(vb14.length:Int)=vb3):(de (vb0,vb1,vb2,vb3,vb4,vb5,vb6,vb7,vb8,vb9,vb10,vb11,vb12,vb13,vb14,())).U vb7 (λvb8 a=>an a.1∧sS a.2.1∧sS a.2.2∧a.2.1.length=a.2.2.length∧(a.2.2.length:Int)=vb3) (λ_=>True):=
 LC.okU (i:=vb8) (a:=(vb10,vb13,vb14)) (λ_ _=>rfl) (λ_=>rfl) rfl h0 h1 h6 λvb8 (vb10,vb13,vb14) hj hk hv=>by
  refine Tr.G2 ?_ λ_=>Tr.C ?_ λ_ _ _=>Tr.Rn ?_
  all_goals (grind)
noncomputable def gP (v0:Int)(v1:ax)(v2:Bool)(v3:Int)(v4:List Piec)(v5:Int)(v7 v9:Recv)(v6:Int)(a:Recv×List Int×List Bool):Tr (Stp (Recv×List Int×List Bool) (Empty)):=
 .grd ((decide (0≤v6))&&(decide (v6<(v4.length:Int))))<|
 .lp (de (v0,v1,v2,v3,v4,v5,v6,(((v4.getD v6.toNat (Ty.zero .piec)).text).length:Int),0,v7,({a.1 with held:=[]}:Recv),v9,(v4.getD v6.toNat (Ty.zero .piec)),a.2.1,a.2.2,())).lp λ(_,a6_0,a6_1,a6_2)=>
 .ret (.next (({({a6_0 with held:=[]}:Recv)with held:=[]}:Recv),a6_1,a6_2))
noncomputable def fF:mz.V→LC mz (Recv×List Int×List Bool) (Empty) (Int×(Recv×List Int×List Bool)):=λ(v0,v1,v2,v3,v4,v5,v6,v7,v8,v9,v10,v11,_)=>⟨v6,(v8,v10,v11),λv6 a=>(v0,v1,v2,v3,v4,v5,v6,v7,a.1,v9,a.2.1,a.2.2,()),λv6 _=>(decide (v6<v5)),gP v0 v1 v2 v3 v4 v5 v7 v9,up,1,(Int.toNat (v5-v6)),(λp=>Empty.elim p),λi a=>(i,a),λ_ k x=>k (.exit 0) (Sh.enc ⟨[zi 1,zs 2,zb 3,zp 4 0,zp 8 1,zp 9 2,zi 10,zp 11 3,zp 12 4,(13,false,[.fn 426 [4,3]])],[.box [.st .recv [.sl .arg]],.box [.st .recv [.nil .piec]],.box [.st .recv [.own 5]],.box [.own 6],.box [.own 7],.of false true,.arr .u8 false true,.arr .bool false true]⟩ (v0,v1,v2,v3,v7,({x.2.1 with held:=[]}:Recv),v9,x.2.2.1,x.2.2.2,()))⟩
theorem Gt:LS Tryz.prog jN [0] (bx 0 mz fF):=aN st (ac jP) _ fF [(bx 2 jY de)] ⟨B4,trivial⟩
theorem GA {v0 v3 v5 v6:Int}{v1:ax}{v2:Bool}{v4:List Piec}{v7 v8 v9:Recv}{v10:List Int}{v11:List Bool}(h0:0≤v6)(h1:v5≤4611686018427387904)(h2:dP (pw v3) v4)(h3:v3≤32)(h4:sS v1)(h5:sL ge v4)(h6:an v7)(h7:an v9)(h8:v5≤(v4.length:Int))(h9:an v8∧sS v10∧sS v11∧v10.length=v11.length∧(v11.length:Int)=v3):(fF (v0,v1,v2,v3,v4,v5,v6,v7,v8,v9,v10,v11,())).U v5 (λv6 a=>an a.1∧sS a.2.1∧sS a.2.2∧a.2.1.length=a.2.2.length∧(a.2.2.length:Int)=v3) (λ_=>True):=
 LC.okU (i:=v6) (a:=(v8,v10,v11)) (λ_ _=>rfl) (λ_=>rfl) rfl h0 h1 h9 λv6 (v8,v10,v11) hj hk hv=>by
  refine Tr.G2 ?_ λg0=>Tr.L (BH ?_ ?_ ?_ ?_ ?_ ?_ ?_) (λ(a6_0,a6_1,a6_2) i6=>Tr.Rn ?_) (λp=>Empty.elim p)
  all_goals ((try simp only[de,LC.lp,LC.ct,Ct.lp]at*)<;>(have hp:=aaa (i:=v6.toNat) h2 (by omega);simp only[pw]at hp;grind))
noncomputable def lP (v0:Int)(v1:ax)(v3:Int)(v6:Recv)(v5:Int)(a:Recv×List Int×List Bool):Tr (Stp (Recv×List Int×List Bool) (Empty)):=
 .val (bM.f (v0,v5,())) λc8=>
 .val (qJ.f (c8,v6.next,())) λc9=>
 .bnd (β:=Bool×Unit) (.ite (decide (c9<v3)) (.ite (v6.fin==(-1)) (.ret (true,()))<|
   .ret ((decide (c9<v6.fin)),()))<|
  .ret (false,())) λ(u10a0,_)=>
 .ite u10a0 (.grd ((decide (0≤v5))&&(decide (v5<(v1.length:Int))))<|
  .cal gv.c (c9,(ci v1 v5.toNat),a.2.2,a.2.1,()) λc11=>
  .ret (.next (({a.1 with held:=[]}:Recv),c11.2,c11.1)))<|
 .ret (.next (({a.1 with held:=[]}:Recv),a.2.1,a.2.2))
noncomputable def fK:mU.V→LC mU (Recv×List Int×List Bool) (Empty) (Int×(Recv×List Int×List Bool)):=λ(v0,v1,v2,v3,v4,v5,v6,v7,v8,v9,v10,_)=>⟨v5,(v7,v9,v10),λv5 a=>(v0,v1,v2,v3,v4,v5,v6,a.1,v8,a.2.1,a.2.2,()),λv5 _=>(decide (v5<v4)),lP v0 v1 v3 v6,up,1,(Int.toNat (v4-v5)),(λp=>Empty.elim p),λi a=>(i,a),λ_ k x=>k (.exit 4) (Sh.enc ⟨[zi 1,zs 2,zb 3,zp 4 0,zp 8 1,zp 9 2,zi 10,zp 11 3,zp 12 4],[.box [.st .recv [.sl .arg]],.box [.st .recv [.nil .piec]],.box [.st .recv [.own 5]],.box [.own 6],.box [.sl .any .bool],.of false true,.arr .u8 false true]⟩ (v0,v1,v2,v3,v6,({x.2.1 with held:=[]}:Recv),v8,x.2.2.2,x.2.2.1,()))⟩
theorem Jo:LS Tryz.prog jN [1] (bx 4 mU fK):=aN st (ac jP) _ fK [] trivial
theorem HV {v0 v3 v4 v5:Int}{v1:ax}{v2:Bool}{v6 v7 v8:Recv}{v9:List Int}{v10:List Bool}(h0:0≤v5)(h1:v4≤4611686018427387904)(h2:v3≤32)(h3:sS v1)(h4:an v6)(h5:v4≤(v1.length:Int))(h6:an v7∧sS v9∧sS v10∧v9.length=v10.length∧(v10.length:Int)=v3):(fK (v0,v1,v2,v3,v4,v5,v6,v7,v8,v9,v10,())).U v4 (λv5 a=>an a.1∧sS a.2.1∧sS a.2.2∧a.2.1.length=a.2.2.length∧(a.2.2.length:Int)=v3) (λ_=>True):=
 LC.okU (i:=v5) (a:=(v7,v9,v10)) (λ_ _=>rfl) (λ_=>rfl) rfl h0 h1 h6 λv5 (v7,v9,v10) hj hk hv=>by
  refine Tr.V λ_ _=>Tr.V λ_ _=>Tr.B (Q':=λ_=>True) (Tr.F (by kernel_rfl) trivial) (λ(u10a0,_) _ _=>Tr.I (λ_=>Tr.G2 ?_ λ_=>Tr.C ?_ λ_ _ _=>Tr.Rn ?_) λ_=>Tr.Rn ?_)
  all_goals ((try simp only[Tr.nice,bu]at*)<;>grind)
noncomputable def pT (v5:List Bool)(v1:Int)(a:Recv):Tr (Stp (Recv) ((Int×Recv))):=
 .grd ((decide (0≤v1))&&(decide (v1<(v5.length:Int))))<|
 .ite (v5.getD v1.toNat false) (.ret (.next ({a with held:=[]}:Recv)))<|
 .ret (.out (v1,({a with held:=[]}:Recv)))
noncomputable def eB:mB.V→LC mB (Recv) ((Int×Recv)) (((Int×Recv))⊕(Int×Recv)):=λ(v0,v1,v2,v3,v4,v5,v6,v7,_)=>⟨v1,v3,λv1 a=>(v0,v1,v2,a,v4,v5,v6,v7,()),λv1 _=>(decide (v1<v0)),pT v5,up,1,(Int.toNat (v0-v1)),.inl,λi a=> .inr (i,a),λ_ k w=>Sum.elim (λp=>k (.exit 6) (Sh.enc ⟨[zp 4 0,zp 8 1,zp 9 2,zi 10,zp 11 3,zp 12 4,zp 19 5,zi 21],[.box [.st .recv [.sl .arg]],.box [.st .recv [.nil .piec]],.box [.st .recv [.own 6]],.box [.own 7],.box [.sl .any .bool],.box [.st .recv [.sl .arg]],.of false true,.arr .u8 false true]⟩ (v0,p.1,v2,p.2,v4,v5,v6,v7,()))) (λx=>k (.exit 6) (Sh.enc ⟨[zp 4 0,zp 8 1,zp 9 2,zi 10,zp 11 3,zp 12 4,zp 19 5,zi 21],[.box [.st .recv [.sl .arg]],.box [.st .recv [.nil .piec]],.box [.st .recv [.own 6]],.box [.own 7],.box [.sl .any .bool],.box [.st .recv [.sl .arg]],.of false true,.arr .u8 false true]⟩ (v0,x.1,v2,({x.2 with held:=[]}:Recv),v4,v5,v6,v7,()))) w⟩
theorem Hk:LS Tryz.prog jN [2] (bx 6 mB eB):=aN st (ac jP) _ eB [] trivial
theorem HZ {v0 v1:Int}{v2 v3 v4 v6:Recv}{v5:List Bool}{v7:List Int}(h0:0≤v1)(h1:v0≤4611686018427387904)(h2:sS v5)(h3:v0≤(v5.length:Int))(h4:an v3):(eB (v0,v1,v2,v3,v4,v5,v6,v7,())).U v0 (λv1 a=>an a) (λp=>an p.2∧v1≤p.1∧p.1<v0):=
 LC.okU (i:=v1) (a:=v3) (λ_ _=>rfl) (λ_=>rfl) rfl h0 h1 h4 λv1 v3 hj hk hv=>by
  refine Tr.G2 ?_ λ_=>Tr.I (λ_=>Tr.Rn ?_) λ_=>Tr.Ro ?_
  all_goals (grind)
noncomputable def nt (vb6:List Bool)(vb2:Int)(a:Recv):Tr (Stp (Recv) ((Int×Recv))):=
 .grd ((decide (0≤vb2))&&(decide (vb2<(vb6.length:Int))))<|
 .ite (vb6.getD vb2.toNat false) (.ret (.next ({a with held:=[]}:Recv)))<|
 .ret (.out (vb2,({a with held:=[]}:Recv)))
noncomputable def dZ:ka.V→LC ka (Recv) ((Int×Recv)) (((Int×Recv))⊕(Int×Recv)):=λ(vb0,vb1,vb2,vb3,vb4,vb5,vb6,vb7,vb8,_)=>⟨vb2,vb4,λvb2 a=>(vb0,vb1,vb2,vb3,a,vb5,vb6,vb7,vb8,()),λvb2 _=>(decide (vb2<vb0)),nt vb6,up,1,(Int.toNat (vb0-vb2)),.inl,λi a=> .inr (i,a),λ_ k w=>Sum.elim (λp=>k (.exit 10) (Sh.enc ⟨[zp 8 0,zp 9 1,zi 10,zp 11 2,zp 12 3,zp 19 4,zi 21,zi 22,zi 23],[.box [.st .recv [.nil .piec]],.box [.st .recv [.own 5]],.box [.own 6],.box [.sl .any .bool],.box [.st .recv [.own 7]],.of false true,.arr .u8 false true,.of false true]⟩ (vb0,vb1,p.1,vb3,p.2,vb5,vb6,vb7,vb8,()))) (λx=>k (.exit 10) (Sh.enc ⟨[zp 8 0,zp 9 1,zi 10,zp 11 2,zp 12 3,zp 19 4,zi 21,zi 22,zi 23],[.box [.st .recv [.nil .piec]],.box [.st .recv [.own 5]],.box [.own 6],.box [.sl .any .bool],.box [.st .recv [.own 7]],.of false true,.arr .u8 false true,.of false true]⟩ (vb0,vb1,x.1,vb3,({x.2 with held:=[]}:Recv),vb5,vb6,vb7,vb8,()))) w⟩
theorem BU:LS Tryz.prog jN [3,0] (bx 10 ka dZ):=aN st (ac jP) _ dZ [] trivial
theorem Cb {vb0 vb1 vb2 vb3:Int}{vb4 vb5 vb7:Recv}{vb6:List Bool}{vb8:List Int}(h0:0≤vb2)(h1:vb0≤4611686018427387904)(h2:vb3=vb2)(h3:vb6.getD vb3.toNat false=true)(h4:sS vb6)(h5:vb0≤(vb6.length:Int))(h6:an vb4):(dZ (vb0,vb1,vb2,vb3,vb4,vb5,vb6,vb7,vb8,())).U vb0 (λvb2 a=>an a) (λp=>an p.2∧vb2≤p.1∧p.1<vb0∧vb3<p.1):=
 LC.okU (i:=vb2) (a:=vb4) (λ_ _=>rfl) (λ_=>rfl) rfl h0 h1 h6 λvb2 vb4 hj hk hv=>by
  refine Tr.G2 ?_ λ_=>Tr.I (λ_=>Tr.Rn ?_) λ_=>Tr.Ro ?_
  all_goals (grind)
noncomputable def ga (v0 v1:Int)(v4:Recv)(v5:List Bool)(v7:List Int)(a:Int×Recv×Recv):Tr (Stp (Int×Recv×Recv) ((Recv×Recv))):=
 .ite (decide (a.1<v0)) (.grd ((decide (0≤a.1))&&(decide (a.1<(v5.length:Int))))<|
  .ite (!(v5.getD a.1.toNat false)) (.ret (.next ((IntKind.wrap .i64 (a.1+1)),({a.2.1 with held:=[]}:Recv),a.2.2)))<|
  .lp (dZ (v0,v1,a.1,a.1,({a.2.1 with held:=[]}:Recv),v4,v5,a.2.2,v7,())).lp λw22=> .sum w22 (λ(p22a0,p22a1)=>
  .grd (((decide (0≤a.1))&&(decide (a.1≤p22a0)))&&(decide (p22a0≤(v7.length:Int))))<|
  .grd (Nat.ble ((2*(a.2.2.held.length+1)+1024)*24) aF)<|
  .val (a.2.2.held++[(⟨(IntKind.wrap .i64 (a.1-v1)),(ar ((v7.take p22a0.toNat).drop a.1.toNat))⟩:Piec)]) λl23=>
  .ret (.next (p22a0,({p22a1 with held:=[]}:Recv),({a.2.2 with held:=l23}:Recv))))<|
  λ(n22,a22_0)=>
  .grd (((decide (0≤a.1))&&(decide (a.1≤n22)))&&(decide (n22≤(v7.length:Int))))<|
  .grd (Nat.ble ((2*(a.2.2.held.length+1)+1024)*24) aF)<|
  .val (a.2.2.held++[(⟨(IntKind.wrap .i64 (a.1-v1)),(ar ((v7.take n22.toNat).drop a.1.toNat))⟩:Piec)]) λl24=>
  .ret (.next (n22,({({a22_0 with held:=[]}:Recv)with held:=[]}:Recv),({a.2.2 with held:=l24}:Recv))))<|
 .ret (.out (({a.2.1 with held:=[]}:Recv),a.2.2))
noncomputable def dA:mc.V→LW mc (Int×Recv×Recv) ((Recv×Recv)):=λ(v0,v1,v2,v3,v4,v5,v6,v7,_)=>⟨(v2,v3,v6),λa=>(v0,v1,a.1,a.2.1,v4,v5,a.2.2,v7,()),ga v0 v1 v4 v5 v7,Int.toNat (v0-v2),λ_ k p=>k (.exit 8) (Sh.enc ⟨[zp 8 0,zp 9 1,zp 19 2],[.box [.st .recv [.nil .piec]],.box [.st .recv [.own 3]],.box [.st .recv [.own 4]],.of false true,.of false true]⟩ (p.1,v4,p.2,()))⟩
theorem GX:LS Tryz.prog jN [3] (SX 8 mc dA):=Hz st (ac jP) _ dA [(bx 10 ka dZ)] ⟨BU,trivial⟩
theorem va {v0 v1 v2:Int}{v3 v4 v6:Recv}{v5:List Bool}{v7:List Int}(h0:v0≤32)(h1:(v5.length:Int)=v0)(h2:v7.length=v5.length)(h3:0≤v1)(h4:an v4)(h5:sS v5)(h6:sS v7)(h7:an v3∧an v6∧v1≤v2∧v2≤v0∧(v6.held.length:Int)≤v2):(dA (v0,v1,v2,v3,v4,v5,v6,v7,())).W (λp=>an p.1∧an p.2):=
 LW.okW (a:=(v2,v3,v6)) (λa=>an a.2.1∧an a.2.2∧v1≤a.1∧a.1≤v0∧(a.2.2.held.length:Int)≤a.1) (λa=>Int.toNat (v0-a.1)) rfl h7 λ(v2,v3,v6) hv=>by
  refine Tr.I (λ_=>Tr.G2 ?_ λ_=>Tr.I (λ_=>Tr.Rn ?_) λ_=>Tr.L (Cb ?_ ?_ ?_ ?_ ?_ ?_ ?_) (λa22_0 _=>Tr.Sr (Tr.G3 ?_ λ_=>Tr.Gb ?_ λ_=>Tr.V λ_ _=>Tr.Rn ?_)) (λ(p22a0,p22a1) _=>Tr.Sl (Tr.G3 ?_ λ_=>Tr.Gb ?_ λ_=>Tr.V λ_ _=>Tr.Rn ?_))) λ_=>Tr.Ro ?_
  all_goals ((try simp only[dZ,LC.lp,LC.ct,Ct.lp]at*)<;>grind)
noncomputable def rM:FT (Recv×Int×ax×Bool×Unit) (Recv) (λx=>an x.1∧sS x.2.2.1) (λx v=>an v):=⟨λ(x0,x1,x2,x3,_)=>
  .cal iY.c (x0,()) λc1=>
  .bnd (β:=Bool×Unit) (.cal bC.c (x0,()) λc2=>
   .ite (!c2) (.ret (true,()))<|
   .ret (x0.done,())) λ(u3a0,_)=>
  .ite u3a0 (.ret c1)<|
  .cal bR.c (x0,()) λc4=>
  .grd ((((decide (0≤c4))&&(decide (c4=c4)))&&(decide (c4*1≤(aF:Int))))&&(decide (c4≤(aF:Int))))<|
  .grd ((((decide (0≤c4))&&(decide (c4=c4)))&&(decide (c4*1≤(aF:Int))))&&(decide (c4≤(aF:Int))))<|
  .lp (fF (x1,x2,x3,c4,x0.held,(x0.held.length:Int),0,x0,(⟨0,[],[],0,false⟩:Recv),c1,(List.replicate c4.toNat 0),(List.replicate c4.toNat false),())).lp λ(_,a7_0,a7_1,a7_2)=>
  .lp (fK (x1,x2,x3,c4,(x2.length:Int),0,x0,({({a7_0 with held:=[]}:Recv)with held:=[]}:Recv),c1,a7_1,a7_2,())).lp λ(_,a12_0,a12_1,a12_2)=>
  .val (bM.f (x1,(x2.length:Int),())) λc13=>
  .val (qJ.f (c13,x0.next,())) λc14=>
  .bnd (β:=Bool×Unit) (.ite x3 (.ite (x0.fin==(-1)) (.ite (decide (c14≤c4)) (.grd (((decide (0≤c14))&&(decide (c14≤(a12_2.length:Int))))&&(decide ((a12_2.length:Int)≤(a12_2.length:Int))))<|
      .cal eP.c (((a12_2.take ((a12_2.length:Int).toNat)).drop c14.toNat),true,()) λc15=>
      .ret ((!c15),()))<|
     .ret (false,()))<|
    .ret (false,()))<|
   .ret (false,())) λ(u16a0,_)=>
  .bnd (β:=WT rS.es) (.ite u16a0 (.ret (c4,x0,({({a12_0 with held:=[]}:Recv)with held:=[]}:Recv),c1,a12_2,({x0 with fin:=c14}:Recv),a12_1,()))<|
   .ret (c4,x0,({({a12_0 with held:=[]}:Recv)with held:=[]}:Recv),c1,a12_2,x0,a12_1,())) λ(u17a0,u17a1,u17a2,u17a3,u17a4,u17a5,u17a6,_)=>
  .lp (eB (u17a0,0,u17a1,({u17a2 with held:=[]}:Recv),u17a3,u17a4,u17a5,u17a6,())).lp λw18=> .sum w18 (λ(p18a0,p18a1)=>
  .grd ((decide (0≤p18a0))&&(decide (p18a0≤(u17a6.length:Int))))<|
  .grd (Nat.ble (u17a5.data.length+(ar ((u17a6.take p18a0.toNat).drop 0)).length) dq)<|
  .val (bM.f (u17a1.next,p18a0,())) λc19=>
  .bnd (β:=WT np.es) (.ite (u17a5.fin != (-1)) (.ret (u17a0,p18a0,({p18a1 with held:=[]}:Recv),u17a3,u17a4,(⟨c19,(u17a5.data++(ar ((u17a6.take p18a0.toNat).drop 0))),u17a5.held,(IntKind.wrap .i64 (u17a5.fin-p18a0)),u17a5.done⟩:Recv),u17a6,()))<|
   .ret (u17a0,p18a0,({p18a1 with held:=[]}:Recv),u17a3,u17a4,({u17a5 with next:=c19,data:=(u17a5.data++(ar ((u17a6.take p18a0.toNat).drop 0)))}:Recv),u17a6,())) λ(u20a0,u20a1,u20a2,u20a3,u20a4,u20a5,u20a6,_)=>
  .lp (dA (u20a0,u20a1,u20a1,({u20a2 with held:=[]}:Recv),u20a3,u20a4,({u20a5 with held:=[]}:Recv),u20a6,())).lp λ(_,p25a1)=>
  .ite (decide (3<(p25a1.held.length:Int))) (.ret u20a3)<|
  .ite (p25a1.fin==0) (.val (bM.f (p25a1.next,1,())) λc26=>
   .ret (⟨c26,p25a1.data,p25a1.held,(-1),true⟩:Recv))<|
  .ret p25a1)<|
  λ(n18,a18_0)=>
  .grd ((decide (0≤n18))&&(decide (n18≤(u17a6.length:Int))))<|
  .grd (Nat.ble (u17a5.data.length+(ar ((u17a6.take n18.toNat).drop 0)).length) dq)<|
  .val (bM.f (u17a1.next,n18,())) λc27=>
  .bnd (β:=WT np.es) (.ite (u17a5.fin != (-1)) (.ret (u17a0,n18,({({a18_0 with held:=[]}:Recv)with held:=[]}:Recv),u17a3,u17a4,(⟨c27,(u17a5.data++(ar ((u17a6.take n18.toNat).drop 0))),u17a5.held,(IntKind.wrap .i64 (u17a5.fin-n18)),u17a5.done⟩:Recv),u17a6,()))<|
   .ret (u17a0,n18,({({a18_0 with held:=[]}:Recv)with held:=[]}:Recv),u17a3,u17a4,({u17a5 with next:=c27,data:=(u17a5.data++(ar ((u17a6.take n18.toNat).drop 0)))}:Recv),u17a6,())) λ(u28a0,u28a1,u28a2,u28a3,u28a4,u28a5,u28a6,_)=>
  .lp (dA (u28a0,u28a1,u28a1,({u28a2 with held:=[]}:Recv),u28a3,u28a4,({u28a5 with held:=[]}:Recv),u28a6,())).lp λ(_,p29a1)=>
  .ite (decide (3<(p29a1.held.length:Int))) (.ret u28a3)<|
  .ite (p29a1.fin==0) (.val (bM.f (p29a1.next,1,())) λc30=>
   .ret (⟨c30,p29a1.data,p29a1.held,(-1),true⟩:Recv))<|
  .ret p29a1,
 λ(x0,x1,x2,x3,_) hp=>by
  refine Tr.C ?_ λc1 hc1 qc1=>Tr.B (Q':=λw=>(w.1=false→RO x0∧dP (pw (Vl x0)) x0.held)) (Tr.C ?_ λc2 hc2 qc2=>Tr.I (λb0=>Tr.R ?_) λb0=>Tr.R ?_) (λ(u3a0,_) hj3 qj3=>Tr.I (λb0=>Tr.R ?_) λb0=>Tr.C ?_ λc4 hc4 qc4=>Tr.G4 ?_ λg1=>Tr.G4 ?_ λg2=>Tr.L (GA ?_ ?_ ?_ ?_ ?_ ?_ ?_ ?_ ?_ ?_) (λ(a7_0,a7_1,a7_2) i7=>Tr.L (HV ?_ ?_ ?_ ?_ ?_ ?_ ?_) (λ(a12_0,a12_1,a12_2) i12=>Tr.V λc13 hc13=>Tr.V λc14 hc14=>Tr.B (Q':=λ_=>True) (Tr.I (λb3=>Tr.I (λb4=>Tr.I (λb5=>Tr.G3 ?_ λg6=>Tr.C ?_ λc15 hc15 qc15=>Tr.R trivial) λb5=>Tr.R trivial) λb4=>Tr.R trivial) λb3=>Tr.R trivial) (λ(u16a0,_) hj16 qj16=>Tr.B (Q':=λw=>an w.2.1∧an w.2.2.1∧an w.2.2.2.1∧sS w.2.2.2.2.1∧an w.2.2.2.2.2.1∧sS w.2.2.2.2.2.2.1∧w.1≤32∧0≤w.1∧(w.2.2.2.2.1.length:Int)=w.1∧w.2.2.2.2.2.2.1.length=w.2.2.2.2.1.length∧w.2.2.2.2.2.1.data.length≤32) (Tr.I (λb3=>Tr.R ?_) λb3=>Tr.R ?_) (λ(u17a0,u17a1,u17a2,u17a3,u17a4,u17a5,u17a6,_) hj17 qj17=>Tr.L (HZ ?_ ?_ ?_ ?_ ?_) (λa18_0 i18=>Tr.Sr (Tr.G2 ?_ λg3=>Tr.Gb ?_ λg4=>Tr.V λc27 hc27=>Tr.B (Q':=λw=>an w.2.2.1∧an w.2.2.2.1∧sS w.2.2.2.2.1∧an w.2.2.2.2.2.1∧sS w.2.2.2.2.2.2.1∧w.1≤32∧0≤w.2.1∧w.2.1≤w.1∧(w.2.2.2.2.1.length:Int)=w.1∧w.2.2.2.2.2.2.1.length=w.2.2.2.2.1.length∧w.2.2.2.2.2.1.data.length≤64) (Tr.I (λb5=>Tr.R ?_) λb5=>Tr.R ?_) (λ(u28a0,u28a1,u28a2,u28a3,u28a4,u28a5,u28a6,_) hj28 qj28=>Tr.L (va ?_ ?_ ?_ ?_ ?_ ?_ ?_ ?_) (λa=>Empty.elim a) (λ(p29a0,p29a1) hp29=>Tr.I (λb5=>Tr.R ?_) λb5=>Tr.I (λb6=>Tr.V λc30 hc30=>Tr.R ?_) λb6=>Tr.R ?_)))) (λ(p18a0,p18a1) hp18=>Tr.Sl (Tr.G2 ?_ λg3=>Tr.Gb ?_ λg4=>Tr.V λc19 hc19=>Tr.B (Q':=λw=>an w.2.2.1∧an w.2.2.2.1∧sS w.2.2.2.2.1∧an w.2.2.2.2.2.1∧sS w.2.2.2.2.2.2.1∧w.1≤32∧0≤w.2.1∧w.2.1≤w.1∧(w.2.2.2.2.1.length:Int)=w.1∧w.2.2.2.2.2.2.1.length=w.2.2.2.2.1.length∧w.2.2.2.2.2.1.data.length≤64) (Tr.I (λb5=>Tr.R ?_) λb5=>Tr.R ?_) (λ(u20a0,u20a1,u20a2,u20a3,u20a4,u20a5,u20a6,_) hj20 qj20=>Tr.L (va ?_ ?_ ?_ ?_ ?_ ?_ ?_ ?_) (λa=>Empty.elim a) (λ(p25a0,p25a1) hp25=>Tr.I (λb5=>Tr.R ?_) λb5=>Tr.I (λb6=>Tr.V λc26 hc26=>Tr.R ?_) λb6=>Tr.R ?_))))))) (λp=>Empty.elim p)) (λp=>Empty.elim p))
  all_goals ((try simp only[fF,fK,eB,dA,LC.lp,LC.ct,Ct.lp,LW.lp,LW.cw,Cw.lp,Tr.nice,bu]at*)<;>grind)⟩
noncomputable def QZ:=aZ st jN jP [(bx 0 mz fF),(bx 4 mU fK),(bx 6 mB eB),(SX 8 mc dA)] (ks:=[.st .recv,.sc (.int .i64),.sc .str,.sc .bool]) rM (λv=>[(true,sT (.o true) v)]) Tryz.func386 ⟨Gt,Jo,Hk,GX,trivial⟩
noncomputable def Sv:=[fw,tk,bV]
def vH:An:=⟨⟨[],[],false,0⟩,⟨[1,2,3],[],false,0⟩,⟨[],[]⟩,[(.normal,⟨[zp 1 0,zp 2 1,zp 3 2],[.box [.st .conn [.sl .arg]],.box [.st .conn [.nil .piec]],.box [.st .conn [.own 3]],.of false true]⟩),(.ret,⟨[zp 1 0,zp 2 1,zp 3 2],[.box [.st .conn [.sl .arg]],.box [.st .conn [.own 3]],.box [.st .conn [.own 3]],.of false true]⟩)]⟩
noncomputable def Ry:Fx:=⟨387,Tryz.f387,[(1000016,vH),(3000004,rA 0 16),(3000006,rA 0 24),(3000008,rA 0 35),(3000010,rA 0 43),(3000012,rA 0 51),(3000014,rA 0 59),(3000020,rA 0 85)],0⟩
noncomputable def pu:FT (Conn×Unit) (Conn) (λx=>aa x.1) (λx v=>aa v):=⟨λ(x0,_)=>
  .cal dj.c (x0,()) λc1=>
  .bnd (β:=Bool×Unit) (.ite (x0.state==1) (.ret (x0.r.done,()))<|
   .ret (false,())) λ(u2a0,_)=>
  .bnd (β:=WT vH.es) (.ite u2a0 (.ret (.inl (x0,(⟨⟨0,0,0⟩,0,⟨0,[],0,false,false,false⟩,⟨0,[],[],0,false⟩,0,0,⟨0,0,false,false,0,0⟩,0,0⟩:Conn),({c1 with state:=4}:Conn),())))<|
   .bnd (β:=Bool×Unit) (.ite (x0.state==2) (.ite x0.s.done (.ret (x0.r.done,()))<|
     .ret (false,()))<|
    .ret (false,())) λ(u3a0,_)=>
   .ite u3a0 (.ret (.inl (x0,(⟨⟨0,0,0⟩,0,⟨0,[],0,false,false,false⟩,⟨0,[],[],0,false⟩,0,0,⟨0,0,false,false,0,0⟩,0,0⟩:Conn),({c1 with state:=7}:Conn),())))<|
   .bnd (β:=Bool×Unit) (.ite (x0.state==2) (.ret (x0.s.done,()))<|
    .ret (false,())) λ(u4a0,_)=>
   .ite u4a0 (.ret (.inl (x0,(⟨⟨0,0,0⟩,0,⟨0,[],0,false,false,false⟩,⟨0,[],[],0,false⟩,0,0,⟨0,0,false,false,0,0⟩,0,0⟩:Conn),({c1 with state:=3}:Conn),())))<|
   .bnd (β:=Bool×Unit) (.ite (x0.state==2) (.ret (x0.r.done,()))<|
    .ret (false,())) λ(u5a0,_)=>
   .ite u5a0 (.ret (.inl (x0,(⟨⟨0,0,0⟩,0,⟨0,[],0,false,false,false⟩,⟨0,[],[],0,false⟩,0,0,⟨0,0,false,false,0,0⟩,0,0⟩:Conn),({c1 with state:=5}:Conn),())))<|
   .bnd (β:=Bool×Unit) (.ite (x0.state==3) (.ret (x0.r.done,()))<|
    .ret (false,())) λ(u6a0,_)=>
   .ite u6a0 (.ret (.inl (x0,(⟨⟨0,0,0⟩,0,⟨0,[],0,false,false,false⟩,⟨0,[],[],0,false⟩,0,0,⟨0,0,false,false,0,0⟩,0,0⟩:Conn),({c1 with state:=7}:Conn),())))<|
   .bnd (β:=Bool×Unit) (.ite (x0.state==5) (.ret (x0.s.done,()))<|
    .ret (false,())) λ(u7a0,_)=>
   .ite u7a0 (.ret (.inl (x0,(⟨⟨0,0,0⟩,0,⟨0,[],0,false,false,false⟩,⟨0,[],[],0,false⟩,0,0,⟨0,0,false,false,0,0⟩,0,0⟩:Conn),({c1 with state:=7}:Conn),())))<|
   .ite (x0.state==6) (.ite x0.s.done (.ret (.inl (x0,(⟨⟨0,0,0⟩,0,⟨0,[],0,false,false,false⟩,⟨0,[],[],0,false⟩,0,0,⟨0,0,false,false,0,0⟩,0,0⟩:Conn),({c1 with state:=8}:Conn),())))<|
    .ret (.inr ((x0,c1,c1,()))))<|
   .ret (.inr ((x0,c1,c1,())))) λw8=> .sum w8 (λ(u8a0,_,u8a2,_)=>
  .bnd (β:=Bool×Unit) (.cal bI.c (({u8a2 with timer:=0}:Conn),()) λc9=>
   .ite (!c9) (.ret (true,()))<|
   .val (bo.f (u8a0.timer,0,4,())) λc10=>
   .ret ((!c10),())) λ(u11a0,_)=>
  .ite u11a0 (.cal dj.c (u8a0,()) λc12=>
   .ret c12)<|
  .ite (u8a2.state==7) (.ret ({u8a2 with timer:=4,tries:=0}:Conn))<|
  .ite (u8a2.state==8) (.ret ({u8a2 with timer:=0,tries:=0}:Conn))<|
  .ret u8a2)<|
  λ(_,u8b1,_,_)=>
  .ret u8b1,
 λ(x0,_) hp=>by
  refine Tr.C ?_ λ_ _ _=>Tr.B (Q':=λ_=>True) (Tr.F (by kernel_rfl) trivial) (λ(u2a0,_) _ _=>Tr.B (Q':=(Sum.elim (λw=>aa w.1∧aa w.2.1∧aa w.2.2.1) (λw=>aa w.1∧aa w.2.1∧aa w.2.2.1))) (Tr.I (λ_=>Tr.R ?_) λ_=>Tr.B (Q':=λ_=>True) (Tr.F (by kernel_rfl) trivial) (λ(u3a0,_) _ _=>Tr.I (λ_=>Tr.R ?_) λ_=>Tr.B (Q':=λ_=>True) (Tr.F (by kernel_rfl) trivial) (λ(u4a0,_) _ _=>Tr.I (λ_=>Tr.R ?_) λ_=>Tr.B (Q':=λ_=>True) (Tr.F (by kernel_rfl) trivial) (λ(u5a0,_) _ _=>Tr.I (λ_=>Tr.R ?_) λ_=>Tr.B (Q':=λ_=>True) (Tr.F (by kernel_rfl) trivial) (λ(u6a0,_) _ _=>Tr.I (λ_=>Tr.R ?_) λ_=>Tr.B (Q':=λ_=>True) (Tr.F (by kernel_rfl) trivial) (λ(u7a0,_) _ _=>Tr.I (λ_=>Tr.R ?_) λ_=>Tr.I (λ_=>Tr.I (λ_=>Tr.R ?_) λ_=>Tr.R ?_) λ_=>Tr.R ?_)))))) (λ_ _ q8=>Tr.E q8 (λ(u8a0,u8a1,u8a2,_) _=>Tr.B (Q':=λw=>(w.1=false→SO ({u8a2 with timer:=0}:Conn).s∧RO ({u8a2 with timer:=0}:Conn).r)) (Tr.C ?_ λ_ _ _=>Tr.I (λ_=>Tr.R ?_) λ_=>Tr.V λ_ _=>Tr.R ?_) (λ(u11a0,_) _ _=>Tr.I (λ_=>Tr.C ?_ λ_ _ _=>Tr.R ?_) λ_=>Tr.I (λ_=>Tr.R ?_) λ_=>Tr.I (λ_=>Tr.R ?_) λ_=>Tr.R ?_)) (λ(u8b0,u8b1,u8b2,_) _=>Tr.R ?_)))
  all_goals ((try simp only[Tr.nice,bu]at*)<;>grind)⟩
noncomputable def SZ:=aZ st Ry Sv [] (ks:=[.st .conn]) pu (λv=>[(true,gO (.o true) v)]) Tryz.func387 trivial
noncomputable def IP:=[pQ,j8,vb,tC,NI]
noncomputable def Ik:Fx:=⟨432,Tryz.f432,[(3000004,rA 0 4)],0⟩
noncomputable def oL:FT (Conn×Segm×Unit) (Bool) (λx=>aa x.1∧aj x.2.1) (λ_ _=>True):=⟨λ(x0,x1,_)=>
  .cal ij.c (x1,()) λc1=>
  .cal gy.c (x0.r,()) λc2=>
  .ite (c1==0) (.bnd (β:=Bool×Unit) (.val (pg.f (x1.seq,x0.r.next,())) λc3=>
    .ite (c3==0) (.ret (true,()))<|
    .val (nr.f (x1.seq,x0.r.next,c2,())) λc4=>
    .ret (c4,())) λ(u5a0,_)=>
   .ret u5a0)<|
  .cal sP.c (x1.seq,c1,x0.r.next,c2,()) λc6=>
  .ret c6,
 λ(x0,x1,_) hp=>by
  refine Tr.C ?_ λ_ _ _=>Tr.C ?_ λ_ _ _=>Tr.I (λ_=>Tr.F (by kernel_rfl) trivial) λ_=>Tr.C ?_ λ_ _ _=>Tr.R trivial
  all_goals ((try simp only[Tr.nice,bu]at*)<;>grind)⟩
noncomputable def Hc:=aZ st Ik IP [] (ks:=[.st .conn,.st .segm]) oL (λv=>[(false,[.c (.bool v)])]) Tryz.func432 trivial
noncomputable def R3:=[dK,MS,iv,dR]
noncomputable def Tm:Fx:=⟨436,Tryz.f436,[(3000003,rA 0 37)],0⟩
noncomputable def qa:FT (Conn×Unit) (Conn) (λx=>aa x.1) (λx v=>aa v):=⟨λ(x0,_)=>
  .cal dI.c (x0,()) λc1=>
  .cal sO.c (x0,()) λc2=>
  .bnd (β:=Bool×Unit) (.cal iZ.c (({x0 with state:=c2,timer:=0,tries:=0}:Conn),()) λc3=>
   .ite (!c3) (.ret (true,()))<|
   .val (dk.f (x0.timer,0,4,())) λc4=>
   .ite (!c4) (.ret (true,()))<|
   .val (dk.f (x0.tries,0,3,())) λc5=>
   .ret ((!c5),())) λ(u6a0,_)=>
  .ite u6a0 (.cal dI.c (x0,()) λc7=>
   .ret c7)<|
  .ite (c2==x0.state) (.ret ({c1 with state:=c2}:Conn))<|
  .ite (c2==7) (.ite (c2==8) (.ret ({c1 with state:=c2,timer:=0,tries:=0}:Conn))<|
   .ret ({c1 with state:=c2,timer:=4,tries:=0}:Conn))<|
  .ite (c2==8) (.ret ({c1 with state:=c2,timer:=0,tries:=0}:Conn))<|
  .ret ({c1 with state:=c2}:Conn),
 λ(x0,_) hp=>by
  refine Tr.C ?_ λ_ _ _=>Tr.C ?_ λc2 _ _=>Tr.B (Q':=λw=>(w.1=false→SO ({x0 with state:=c2,timer:=0,tries:=0}:Conn).s∧RO ({x0 with state:=c2,timer:=0,tries:=0}:Conn).r)) (Tr.C ?_ λ_ _ _=>Tr.I (λ_=>Tr.R ?_) λ_=>Tr.V λ_ _=>Tr.I (λ_=>Tr.R ?_) λ_=>Tr.V λ_ _=>Tr.R ?_) (λ(u6a0,_) _ _=>Tr.I (λ_=>Tr.C ?_ λ_ _ _=>Tr.R ?_) λ_=>Tr.I (λ_=>Tr.R ?_) λ_=>Tr.I (λ_=>Tr.I (λ_=>Tr.R ?_) λ_=>Tr.R ?_) λ_=>Tr.I (λ_=>Tr.R ?_) λ_=>Tr.R ?_)
  all_goals ((try simp only[Tr.nice,bu]at*)<;>grind)⟩
noncomputable def RX:=aZ st Tm R3 [] (ks:=[.st .conn]) qa (λv=>[(true,gO (.o true) v)]) Tryz.func436 trivial
noncomputable def oK:FT (Recv×Recv×Unit) (Bool) (λx=>an x.1∧an x.2.1) (λ_ _=>True):=⟨λ(x0,x1,_)=>
  .ite (x0.next != x1.next) (.ret false)<|
  .ite (!(x0.data==x1.data)) (.ret false)<|
  .cal tH.c (x0.held,x1.held,()) λc1=>
  .ite (!c1) (.ret false)<|
  .ite (x0.fin != x1.fin) (.ret false)<|
  .ite (!(x0.done==x1.done)) (.ret false)<|
  .ret true,
 λ(x0,x1,_) hp=>by
  refine Tr.I (λ_=>Tr.R trivial) λ_=>Tr.I (λ_=>Tr.R trivial) λ_=>Tr.C ?_ λ_ _ _=>Tr.F (by kernel_rfl) trivial
  all_goals (grind)⟩
noncomputable def HY:=bi st Tryz.func439 [My] (ks:=[.st .recv,.st .recv]) oK (λv=>[(false,[.c (.bool v)])])
noncomputable def rR:FT (Sipr×Int×Unit) (Sipr) (λ_=>True) (λ_ _=>True):=⟨λ(x0,x1,_)=>
  .cal jJ.c (({x0 with d:=(bits .xor .u64 x0.d x1)}:Sipr),()) λc1=>
  .cal jJ.c (c1,()) λc2=>
  .ret ({c2 with a:=(bits .xor .u64 c2.a x1)}:Sipr),
 λ(x0,x1,_) hp=>by
  refine Tr.C trivial λ_ _ _=>Tr.C trivial λ_ _ _=>Tr.R trivial⟩
noncomputable def OS:=bi st Tryz.func451 [zM] (ks:=[.st .sipr,.sc (.int .u64)]) rR (λv=>[(true,Cg v)])
noncomputable def HR:=[zM]
def nL:Sh:=⟨[zp 1 0,zi 7],[.box [.st .sipr []]]⟩
noncomputable def G7:Fx:=⟨453,Tryz.f453,[(0,lb [1,7] [1,2])],0⟩
noncomputable def ro (v0:Int)(a:Sipr):Tr (Stp (Sipr) (Empty)):=
 .cal jJ.c (a,()) λc1=>
 .ret (.next c1)
noncomputable def fA:nL.V→LC nL (Sipr) (Empty) (Int×Sipr):=λ(v0,v1,_)=>⟨v0,v1,λv0 a=>(v0,a,()),λv0 _=>(decide (v0<4)),ro,up,1,(Int.toNat (4-v0)),(λp=>Empty.elim p),λi a=>(i,a),λ_ k x=>k (.exit 0) (Sh.enc ⟨[zp 1 0,zu 2],[.box [.st .sipr []]]⟩ (x.2,()))⟩
theorem KC:LS Tryz.prog G7 [0] (bx 0 nL fA):=aN st (ac HR) _ fA [] trivial
theorem KG {v0:Int}{v1:Sipr}(h0:0≤v0):(fA (v0,v1,())).U 4 (λ_ _=>True) (λ_=>True):=
 LC.okU (i:=v0) (a:=v1) (λ_ _=>rfl) (λ_=>rfl) rfl h0 (by decide) trivial λv0 v1 hj hk hv=>by
  refine Tr.C trivial λ_ _ _=>Tr.Rn trivial
noncomputable def rG:FT (Sipr×Unit) (Int) (λ_=>True) (λ_ _=>True):=⟨λ(x0,_)=>
  .lp (fA (0,({x0 with c:=(bits .xor .u64 x0.c 255)}:Sipr),())).lp λ(_,a2_0)=>
  .val (bits .xor .u64 (bits .xor .u64 (bits .xor .u64 a2_0.a a2_0.b) a2_0.c) a2_0.d) λe3=>
  .ret e3,
 λ(x0,_) hp=>by
  refine Tr.L (KG ?_) (λa2_0 _=>Tr.F (by kernel_rfl) trivial) (λp=>Empty.elim p)
  all_goals ((try simp only[fA,LC.lp,LC.ct,Ct.lp]at*)<;>grind)⟩
noncomputable def S3:=aZ st G7 HR [(bx 0 nL fA)] (ks:=[.st .sipr]) rG (λv=>[(false,[.c (.int .u64 v)])]) Tryz.func453 ⟨KC,trivial⟩
noncomputable def tt:FT (Conn×Tupl×Unit) (Bool) (λ_=>True) (λ_ _=>True):=⟨λ(x0,y1,_)=>
  .ret ((x0.tuple.ip==y1.ip)&&((x0.tuple.port==y1.port)&&((x0.tuple.my==y1.my)&&true))),
 λ(x0,y1,_) hp=>by
  refine Tr.R trivial⟩
noncomputable def Ja:=cI st ⟨189,Tryz.f189,[],1⟩ [] [] [.st .conn,.wr false [.ptr 0]] [.box [.st .tupl]] (λx y=>(x.1,y.1.1,())) tt (λv=>[(false,[.c (.bool v)])]) (λx y v=>((y.1.1,()),())) Tryz.func189 (by kernel_rfl) trivial
noncomputable def tS:FT (Half×Tupl×Unit) (Bool) (λ_=>True) (λ_ _=>True):=⟨λ(x0,y1,_)=>
  .ret ((x0.tuple.ip==y1.ip)&&((x0.tuple.port==y1.port)&&((x0.tuple.my==y1.my)&&true))),
 λ(x0,y1,_) hp=>by
  refine Tr.R trivial⟩
noncomputable def IW:=cI st ⟨299,Tryz.f299,[],1⟩ [] [] [.st .half,.wr false [.ptr 0]] [.box [.st .tupl]] (λx y=>(x.1,y.1.1,())) tS (λv=>[(false,[.c (.bool v)])]) (λx y v=>((y.1.1,()),())) Tryz.func299 (by kernel_rfl) trivial
noncomputable def qv:FT (Door×Mac×Unit) (Door) (λx=>am x.1∧bv x.2.1) (λx v=>am v):=⟨λ(x0,x1,_)=>
  .cal dh.c (x0,()) λc1=>
  .cal wH.c (x0.keys,x1,()) λc2=>
  .ret (⟨c1.port,c1.clock,c2,c1.limits,c1.halves,c1.table,c1.chal⟩:Door),
 λ(x0,x1,_) hp=>by
  refine Tr.C ?_ λ_ _ _=>Tr.C ?_ λ_ _ _=>Tr.R ?_
  all_goals (grind)⟩
noncomputable def Ku:=bi st Tryz.func54 [g9,PN] (ks:=[.st .door,.st .mac]) qv (λv=>[(true,ji (.o true) (.o true) (.o true) (.o true) (.o true) v)])
noncomputable def eE:FT (Door×Unit) (Door) (λx=>am x.1) (λx v=>am v∧v.table.conns.length=x.1.table.conns.length∧v.table.waiting.length=x.1.table.waiting.length∧v.halves=x.1.halves):=⟨λ(x0,_)=>
  .cal n8.c (x0.keys,()) λc1=>
  .cal ep.c (x0.halves,()) λc2=>
  .cal iD.c (x0.table,()) λc3=>
  .ret (⟨x0.port,x0.clock,c1,x0.limits,c2,c3,x0.chal⟩:Door),
 λ(x0,_) hp=>by
  refine Tr.C ?_ λ_ _ _=>Tr.C ?_ λ_ _ _=>Tr.C ?_ λ_ _ _=>Tr.R ?_
  all_goals (grind)⟩
noncomputable def kq:=bi st Tryz.func75 [xO,ql,p0] (ks:=[.st .door]) eE (λv=>[(true,ji (.o true) (.o true) (.o true) (.o true) (.o true) v)])
noncomputable def vv:=[Nd,iv,fo,N7]
def lU:Sh:=⟨[zp 2 0,zi 5],[.box [.st .tabl [.sl .arg,.sl .arg]]]⟩
def ml:Sh:=⟨[zp 2 0,zi 6],[.box [.st .tabl [.sl .arg,.sl .arg]]]⟩
noncomputable def vC:Fx:=⟨91,Tryz.f91,[(0,lb [2,5] [2,4]),(2,lb [2,6] [4]),(3000001,rA 0 25)],0⟩
noncomputable def pK (v1:Tabl)(v0:Int)(a:Unit):Tr (Stp (Unit) ((Unit))):=
 .grd ((decide (0≤v0))&&(decide (v0<(v1.conns.length:Int))))<|
 .cal iZ.c ((v1.conns.getD v0.toNat (Ty.zero .conn)),()) λc3=>
 .ite (!c3) (.ret (.out ()))<|
 .grd ((decide (0≤v0))&&(decide (v0<(v1.conns.length:Int))))<|
 .cal cu.c (v1,(v1.conns.getD v0.toNat (Ty.zero .conn)).tuple,()) λc4=>
 .ite (c4 != v0) (.ret (.out ()))<|
 .ret (.next ())
noncomputable def fL:lU.V→LC lU (Unit) ((Unit)) (((Unit))⊕(Int×Unit)):=λ(v0,v1,_)=>⟨v0,(),λv0 _=>(v0,v1,()),λv0 _=>(decide (v0<(v1.conns.length:Int))),pK v1,up,1,(Int.toNat ((v1.conns.length:Int)-v0)),.inl,λi a=> .inr (i,a),λ_ k w=>Sum.elim (λ_=>k .ret (Sh.enc ⟨[zp 2 0,zb 4],[.box [.st .tabl [.sl .arg,.sl .arg]]]⟩ (false,v1,()))) (λ_=>k (.exit 0) (Sh.enc ⟨[zp 2 0,zu 4],[.box [.st .tabl [.sl .arg,.sl .arg]]]⟩ (v1,()))) w⟩
theorem G9:LS Tryz.prog vC [0] (bx 0 lU fL):=aN st (ac vv) _ fL [] trivial
theorem FO {v0:Int}{v1:Tabl}(h0:0≤v0)(h1:(v1.conns.length:Int)≤4611686018427387904)(h2:bh v1):(fL (v0,v1,())).U (v1.conns.length:Int) (λ_ _=>True) (λ_=>True):=
 LC.okU (i:=v0) (a:=()) (λ_ _=>rfl) (λ_=>rfl) rfl h0 h1 trivial λv0 _ hj hk hv=>by
  refine Tr.G2 ?_ λ_=>Tr.C ?_ λ_ _ _=>Tr.I (λ_=>Tr.Ro trivial) λ_=>Tr.G2 ?_ λ_=>Tr.C ?_ λ_ _ _=>Tr.Z (by kernel_rfl)
  all_goals (grind)
noncomputable def qh (v1:Tabl)(v0:Int)(a:Unit):Tr (Stp (Unit) ((Unit))):=
 .grd ((decide (0≤v0))&&(decide (v0≤(v1.waiting.length:Int))))<|
 .grd ((decide (0≤v0))&&(decide (v0<(v1.waiting.length:Int))))<|
 .cal tA.c (((v1.waiting.take v0.toNat).drop 0),(v1.waiting.getD v0.toNat (Ty.zero .tupl)),()) λc6=>
 .ite c6 (.ret (.out ()))<|
 .grd ((decide (0≤v0))&&(decide (v0<(v1.waiting.length:Int))))<|
 .cal cu.c (v1,(v1.waiting.getD v0.toNat (Ty.zero .tupl)),()) λc7=>
 .ite (decide (c7<0)) (.ret (.out ()))<|
 .ret (.next ())
noncomputable def fV:ml.V→LC ml (Unit) ((Unit)) (((Unit))⊕(Int×Unit)):=λ(v0,v1,_)=>⟨v0,(),λv0 _=>(v0,v1,()),λv0 _=>(decide (v0<(v1.waiting.length:Int))),qh v1,up,1,(Int.toNat ((v1.waiting.length:Int)-v0)),.inl,λi a=> .inr (i,a),λ_ k w=>Sum.elim (λ_=>k .ret (Sh.enc ⟨[zb 4],[]⟩ (false,()))) (λ_=>k (.exit 2) (Sh.enc ⟨[zu 4],[]⟩ ())) w⟩
theorem Ge:LS Tryz.prog vC [1] (bx 2 ml fV):=aN st (ac vv) _ fV [] trivial
theorem Js {v0:Int}{v1:Tabl}(h0:0≤v0)(h1:(v1.waiting.length:Int)≤4611686018427387904)(h2:bh v1):(fV (v0,v1,())).U (v1.waiting.length:Int) (λ_ _=>True) (λ_=>True):=
 LC.okU (i:=v0) (a:=()) (λ_ _=>rfl) (λ_=>rfl) rfl h0 h1 trivial λv0 _ hj hk hv=>by
  refine Tr.G2 ?_ λ_=>Tr.G2 ?_ λ_=>Tr.C ?_ λ_ _ _=>Tr.I (λ_=>Tr.Ro trivial) λ_=>Tr.G2 ?_ λ_=>Tr.C ?_ λ_ _ _=>Tr.Z (by kernel_rfl)
  all_goals (grind)
noncomputable def sw:FT (Tabl×Limi×Unit) (Bool) (λx=>wS x.1.conns∧dP aa x.1.conns∧wS x.1.waiting) (λx v=>(v=true→x.1.conns.length≤16∧x.1.waiting.length≤16)):=⟨λ(x0,x1,_)=>
  .bnd (β:=Bool×Unit) (.cal tn.c (x1,()) λc1=>
   .ite (!c1) (.ret (true,()))<|
   .ite (decide (x1.conns<(x0.conns.length:Int))) (.ret (true,()))<|
   .ret ((decide (x1.waiting<(x0.waiting.length:Int))),())) λ(u2a0,_)=>
  .ite u2a0 (.ret false)<|
  .lp (fL (0,x0,())).lp λw5=> .sum w5 (λ_=>
  .ret false)<|
  λ_=>
  .lp (fV (0,x0,())).lp λw8=> .sum w8 (λ_=>
  .ret false)<|
  λ_=>
  .ret true,
 λ(x0,x1,_) hp=>by
  refine Tr.B (Q':=λw=>(w.1=false→x1.halves≤64∧x1.waiting≤16∧x1.conns≤16)) (Tr.C trivial λ_ _ _=>Tr.I (λ_=>Tr.R ?_) λ_=>Tr.I (λ_=>Tr.R ?_) λ_=>Tr.R ?_) (λ(u2a0,_) _ _=>Tr.I (λ_=>Tr.R ?_) λ_=>Tr.L (FO ?_ ?_ ?_) (λ_ _=>Tr.Sr (Tr.L (Js ?_ ?_ ?_) (λ_ _=>Tr.Sr (Tr.R ?_)) (λ_ _=>Tr.Sl (Tr.R ?_)))) (λ_ _=>Tr.Sl (Tr.R ?_)))
  all_goals ((try simp only[fL,fV,LC.lp,LC.ct,Ct.lp,Tr.nice,bu]at*)<;>grind)⟩
noncomputable def Dj:=aZ st vC vv [(bx 0 lU fL),(bx 2 ml fV)] (ks:=[.st .tabl,.st .limi]) sw (λv=>[(false,[.c (.bool v)])]) Tryz.func91 ⟨G9,Ge,trivial⟩
noncomputable def yU:FT (Door×Int×Unit) (Int×List MacRow×List MacRow×List Half×List Tupl) (λx=>am x.1∧x.1.table.conns=[]∧x.2.1≤9223372036854775807) (λx v=>sL ay v.2.1∧sL ay v.2.2.1∧sS v.2.2.2.1∧sS v.2.2.2.2∧v.1≤9223372036854775807):=⟨λ(x0,x1,_)=>
  .cal y7.c (x0.keys,x1,()) λc1=>
  .cal ra.c (x0.halves,c1.1,()) λc2=>
  .cal vq.c (x0.table,c2.1,()) λc3=>
  .ret (c3.1,c1.2.1,c1.2.2,c2.2,c3.2),
 λ(x0,x1,_) hp=>by
  refine Tr.C ?_ λ_ _ _=>Tr.C ?_ λ_ _ _=>Tr.C ?_ λ_ _ _=>Tr.R ?_
  all_goals (grind)⟩
noncomputable def N6:=cI st ⟨137,Tryz.f137,[],5⟩ [NN,KH,J8] [] [.wr true [.c (.int .i64),.c (.int .i64),.c (.int .i64),.c .bool,.c (.int .u64),.c (.int .u64),.own 0,.c .bool,.c (.int .u64),.c (.int .u64),.own 1,.c .bool,.c (.int .i64),.c (.int .i64),.c (.int .i64),.c (.int .i64),.own 2,.own 3,.own 4,.c (.int .i64)],.sc (.int .i64)] [.arr .macRow,.arr .macRow,.arr .half,.arr .conn,.arr .tupl] (λx y=>((⟨x.1.1,x.1.2.1,⟨x.1.2.2.1,⟨x.1.2.2.2.1,x.1.2.2.2.2.1,x.1.2.2.2.2.2.1,y.1⟩,⟨x.1.2.2.2.2.2.2.1,x.1.2.2.2.2.2.2.2.1,x.1.2.2.2.2.2.2.2.2.1,y.2.1⟩,x.1.2.2.2.2.2.2.2.2.2.1⟩,⟨x.1.2.2.2.2.2.2.2.2.2.2.1,x.1.2.2.2.2.2.2.2.2.2.2.2.1,x.1.2.2.2.2.2.2.2.2.2.2.2.2.1,x.1.2.2.2.2.2.2.2.2.2.2.2.2.2.1⟩,y.2.2.1,⟨y.2.2.2.1,y.2.2.2.2.1⟩,x.1.2.2.2.2.2.2.2.2.2.2.2.2.2.2.1⟩:Door),x.2.1,())) yU (λv=>[(false,[.c (.int .i64 v.1)])]) (λx y v=>(v.2.1,v.2.2.1,v.2.2.2.1,(⟨x.1.1,x.1.2.1,⟨x.1.2.2.1,⟨x.1.2.2.2.1,x.1.2.2.2.2.1,x.1.2.2.2.2.2.1,y.1⟩,⟨x.1.2.2.2.2.2.2.1,x.1.2.2.2.2.2.2.2.1,x.1.2.2.2.2.2.2.2.2.1,y.2.1⟩,x.1.2.2.2.2.2.2.2.2.2.1⟩,⟨x.1.2.2.2.2.2.2.2.2.2.2.1,x.1.2.2.2.2.2.2.2.2.2.2.2.1,x.1.2.2.2.2.2.2.2.2.2.2.2.2.1,x.1.2.2.2.2.2.2.2.2.2.2.2.2.2.1⟩,y.2.2.1,⟨y.2.2.2.1,y.2.2.2.2.1⟩,x.1.2.2.2.2.2.2.2.2.2.2.2.2.2.2.1⟩:Door).table.conns,v.2.2.2.2,())) Tryz.func137 (by kernel_rfl) trivial
noncomputable def x9:FT (Door×Int×Unit) (Int) (λx=>am x.1∧x.2.1≤9223372036854775807) (λx v=>v≤9223372036854775807):=⟨λ(x0,x1,_)=>
  .cal yt.c (x0.keys,x1,()) λc1=>
  .ite (decide (c1<0)) (.ret (-1))<|
  .cal qQ.c (x0.halves,c1,()) λc2=>
  .ite (decide (c2<0)) (.ret (-1))<|
  .cal u5.c (x0.table,c2,()) λc3=>
  .ite (decide (c3<0)) (.ret (-1))<|
  .ret c3,
 λ(x0,x1,_) hp=>by
  refine Tr.C ?_ λ_ _ _=>Tr.I (λ_=>Tr.R ?_) λ_=>Tr.C ?_ λ_ _ _=>Tr.I (λ_=>Tr.R ?_) λ_=>Tr.C ?_ λ_ _ _=>Tr.I (λ_=>Tr.R ?_) λ_=>Tr.R ?_
  all_goals (grind)⟩
noncomputable def NZ:=bi st Tryz.func139 [ND,Kf,Kh] (ks:=[.st .door,.sc (.int .i64)]) x9 (λv=>[(false,[.c (.int .i64 v)])])
noncomputable def Mu:=[dK,UE,iv,wx,P0,lA,zy]
def rP:An:=⟨⟨[],[],false,0⟩,⟨[2,3,4,5],[],false,0⟩,⟨[],[]⟩,[(.normal,⟨[zp 2 0,(3,false,[.nil]),zp 4 1,(5,false,[.own 2])],[.box [.st .conn [.nil .piec]],.box [.st .conn [.own 3]],.arr .segm false true,.of false true]⟩)]⟩
def rX:An:=⟨⟨[],[],false,0⟩,⟨[1,2,3,4,5],[],false,0⟩,⟨[],[]⟩,[(.normal,⟨[zp 1 0,zp 2 1,(3,false,[.nil]),zp 4 2,(5,false,[.own 3])],[.box [.st .conn [.sl .arg]],.box [.st .conn [.nil .piec]],.box [.st .conn [.own 4]],.arr .segm false true,.of false true]⟩)]⟩
noncomputable def Nj:Fx:=⟨148,Tryz.f148,[(1000016,rP),(1000023,rX)],0⟩
noncomputable def I3:FT (Conn×Unit) (Conn×List Segm) (λx=>aa x.1) (λx v=>aa v.1∧sL aj v.2∧v.2.length≤49):=⟨λ(x0,_)=>
  .cal dI.c (x0,()) λc1=>
  .cal TJ.c (x0,()) λc2=>
  .ite (!c2) (.cal iZ.c (x0,()) λc3=>
   .bnd (β:=WT rP.es) (.ite c3 (.ret ((⟨⟨0,0,0⟩,0,⟨0,[],0,false,false,false⟩,⟨0,[],[],0,false⟩,0,0,⟨0,0,false,false,0,0⟩,0,0⟩:Conn),({c1 with timer:=0,tries:=0}:Conn),[],()))<|
    .ret ((⟨⟨0,0,0⟩,0,⟨0,[],0,false,false,false⟩,⟨0,[],[],0,false⟩,0,0,⟨0,0,false,false,0,0⟩,0,0⟩:Conn),c1,[],())) λ(_,u4a1,u4a2,_)=>
   .ret (u4a1,u4a2))<|
  .bnd (β:=WT rX.es) (.ite (c1.timer==0) (.ite (x0.state==7) (.ret (x0,(⟨⟨0,0,0⟩,0,⟨0,[],0,false,false,false⟩,⟨0,[],[],0,false⟩,0,0,⟨0,0,false,false,0,0⟩,0,0⟩:Conn),({c1 with timer:=4}:Conn),[],()))<|
    .ret (x0,(⟨⟨0,0,0⟩,0,⟨0,[],0,false,false,false⟩,⟨0,[],[],0,false⟩,0,0,⟨0,0,false,false,0,0⟩,0,0⟩:Conn),({c1 with timer:=3}:Conn),[],()))<|
   .ret (x0,(⟨⟨0,0,0⟩,0,⟨0,[],0,false,false,false⟩,⟨0,[],[],0,false⟩,0,0,⟨0,0,false,false,0,0⟩,0,0⟩:Conn),c1,[],())) λ(u5a0,_,u5a2,u5a3,_)=>
  .ite (decide (0<(IntKind.wrap .i64 (u5a2.timer-1)))) (.ret (({u5a2 with timer:=(IntKind.wrap .i64 (u5a2.timer-1))}:Conn),u5a3))<|
  .ite (u5a0.state==7) (.ret (({u5a2 with state:=8,timer:=(IntKind.wrap .i64 (u5a2.timer-1)),tries:=0}:Conn),u5a3))<|
  .ite (u5a0.tries==3) (.cal j6.c (u5a0,()) λc6=>
   .ret (({u5a2 with state:=8,timer:=(IntKind.wrap .i64 (u5a2.timer-1)),tries:=0}:Conn),[({c6 with flags:=(bits .or .i64 c6.flags 4)}:Segm)]))<|
  .cal LF.c (u5a0.s,()) λc7=>
  .val (fq.f (1,u5a2.window,())) λc8=>
  .cal mS.c ((⟨u5a2.tuple,u5a2.state,c7,u5a2.r,u5a2.window,u5a2.most,u5a2.opts,(IntKind.wrap .i64 (u5a2.timer-1)),(IntKind.wrap .i64 (u5a0.tries+1))⟩:Conn),c8,()) λc9=>
  .ret (({c9.1 with timer:=3}:Conn),c9.2),
 λ(x0,_) hp=>by
  refine Tr.C ?_ λc1 hc1 qc1=>Tr.C ?_ λc2 hc2 qc2=>Tr.I (λb0=>Tr.C ?_ λc3 hc3 qc3=>Tr.B (Q':=λw=>aa w.1∧aa w.2.1∧sL aj w.2.2.1∧w.2.2.1.length≤49) (Tr.I (λb1=>Tr.R ?_) λb1=>Tr.R ?_) (λ(u4a0,u4a1,u4a2,_) hj4 qj4=>Tr.R ?_)) λb0=>Tr.B (Q':=λw=>aa w.1∧aa w.2.1∧aa w.2.2.1∧sL aj w.2.2.2.1∧w.2.2.2.1.length≤49) (Tr.I (λb1=>Tr.I (λb2=>Tr.R ?_) λb2=>Tr.R ?_) λb1=>Tr.R ?_) (λ(u5a0,u5a1,u5a2,u5a3,_) hj5 qj5=>Tr.I (λb1=>Tr.R ?_) λb1=>Tr.I (λb2=>Tr.R ?_) λb2=>Tr.I (λb3=>Tr.C ?_ λc6 hc6 qc6=>Tr.R ?_) λb3=>Tr.C ?_ λc7 hc7 qc7=>Tr.V λc8 hc8=>Tr.C ?_ λc9 hc9 qc9=>Tr.R ?_)
  all_goals ((try simp only[Tr.nice,bu]at*)<;>grind)⟩
noncomputable def N8:=aZ st Nj Mu [] (ks:=[.st .conn]) I3 (λv=>[(true,gO (.o true) v.1),(false,[sc (.o true) .segm v.2])]) Tryz.func148 trivial
noncomputable def UI:=[dK,iv,GJ,zy]
noncomputable def Vh:Fx:=⟨154,Tryz.f154,[(3000002,rA 0 26)],0⟩
noncomputable def TV:FT (Conn×ax×Unit) (Conn×Int×List Segm) (λx=>aa x.1∧sS x.2.1) (λx v=>aa v.1∧sL aj v.2.2):=⟨λ(x0,x1,_)=>
  .cal dI.c (x0,()) λc1=>
  .bnd (β:=Bool×Unit) (.cal iZ.c (x0,()) λc2=>
   .ite (!c2) (.ret (true,()))<|
   .ite (x0.state != 1) (.ret ((x0.state != 4),()))<|
   .ret (false,())) λ(u3a0,_)=>
  .ite u3a0 (.ret (c1,0,[]))<|
  .cal Hi.c (x0.s,x1,()) λc4=>
  .cal mS.c (({c1 with s.una:=c4.1.una,s.data:=c4.1.data,s.sent:=c4.1.sent,s.fin:=c4.1.fin,s.finSent:=c4.1.finSent,s.done:=c4.1.done}:Conn),c1.window,()) λc5=>
  .ret (c5.1,c4.2,c5.2),
 λ(x0,x1,_) hp=>by
  refine Tr.C ?_ λ_ _ _=>Tr.B (Q':=λ_=>True) (Tr.C ?_ λ_ _ _=>Tr.F (by kernel_rfl) trivial) (λ(u3a0,_) _ _=>Tr.I (λ_=>Tr.R ?_) λ_=>Tr.C ?_ λ_ _ _=>Tr.C ?_ λ_ _ _=>Tr.R ?_)
  all_goals ((try simp only[Tr.nice,bu]at*)<;>grind)⟩
noncomputable def VH:=aZ st Vh UI [] (ks:=[.st .conn,.sc .str]) TV (λv=>[(true,gO (.o true) v.1),(false,[.c (.int .i64 v.2.1)]),(false,[sc (.o true) .segm v.2.2])]) Tryz.func154 trivial
noncomputable def Ma:=[dK,iv,Ec,j8,wx]
noncomputable def Nh:Fx:=⟨156,Tryz.f156,[(3000007,rA 0 46)],0⟩
noncomputable def Gw:FT (Conn×Int×Unit) (Conn×ax×List Segm) (λx=>aa x.1) (λx v=>aa v.1∧sS v.2.1∧sL aj v.2.2):=⟨λ(x0,x1,_)=>
  .cal dI.c (x0,()) λc1=>
  .cal iZ.c (x0,()) λc2=>
  .ite (!c2) (.ret (c1,[],[]))<|
  .cal CM.c (x0.r,x1,()) λc3=>
  .bnd (β:=Bool×Unit) (.cal gy.c (x0.r,()) λc4=>
   .ite (c4==0) (.cal gy.c (c3.1,()) λc5=>
    .ite (decide (0<c5)) (.ite (x0.state != 8) (.ret ((x0.state != 7),()))<|
     .ret (false,()))<|
    .ret (false,()))<|
   .ret (false,())) λ(u6a0,_)=>
  .ite u6a0 (.cal j6.c (({c1 with r.next:=c3.1.next,r.data:=c3.1.data,r.held:=c3.1.held,r.fin:=c3.1.fin,r.done:=c3.1.done}:Conn),()) λc7=>
   .ret (({c1 with r.next:=c3.1.next,r.data:=c3.1.data,r.held:=c3.1.held,r.fin:=c3.1.fin,r.done:=c3.1.done}:Conn),c3.2,[c7]))<|
  .ret (({c1 with r.next:=c3.1.next,r.data:=c3.1.data,r.held:=c3.1.held,r.fin:=c3.1.fin,r.done:=c3.1.done}:Conn),c3.2,[]),
 λ(x0,x1,_) hp=>by
  refine Tr.C ?_ λ_ _ _=>Tr.C ?_ λ_ _ _=>Tr.I (λ_=>Tr.R ?_) λ_=>Tr.C ?_ λ_ _ _=>Tr.B (Q':=λ_=>True) (Tr.C ?_ λ_ _ _=>Tr.I (λ_=>Tr.C ?_ λ_ _ _=>Tr.F (by kernel_rfl) trivial) λ_=>Tr.R trivial) (λ(u6a0,_) _ _=>Tr.I (λ_=>Tr.C ?_ λ_ _ _=>Tr.R ?_) λ_=>Tr.R ?_)
  all_goals ((try simp only[Tr.nice,bu]at*)<;>grind)⟩
noncomputable def Nv:=aZ st Nh Ma [] (ks:=[.st .conn,.sc (.int .i64)]) Gw (λv=>[(true,gO (.o true) v.1),(false,[.c (.str v.2.1)]),(false,[sc (.o true) .segm v.2.2])]) Tryz.func156 trivial
noncomputable def WD:=[dK,iv,zy]
noncomputable def VU:Fx:=⟨157,Tryz.f157,[(3000002,rA 0 19)],0⟩
noncomputable def Xj:FT (Conn×Unit) (Conn×List Segm) (λx=>aa x.1) (λx v=>aa v.1∧sL aj v.2):=⟨λ(x0,_)=>
  .cal dI.c (x0,()) λc1=>
  .bnd (β:=Bool×Unit) (.cal iZ.c (x0,()) λc2=>
   .ite (!c2) (.ret (true,()))<|
   .ite (x0.state != 1) (.ret ((x0.state != 4),()))<|
   .ret (false,())) λ(u3a0,_)=>
  .ite u3a0 (.ret (c1,[]))<|
  .ite (x0.state==4) (.cal mS.c (({c1 with state:=6,s.fin:=true}:Conn),c1.window,()) λc4=>
   .ret (c4.1,c4.2))<|
  .cal mS.c (({c1 with state:=2,s.fin:=true}:Conn),c1.window,()) λc5=>
  .ret (c5.1,c5.2),
 λ(x0,_) hp=>by
  refine Tr.C ?_ λ_ _ _=>Tr.B (Q':=λ_=>True) (Tr.C ?_ λ_ _ _=>Tr.F (by kernel_rfl) trivial) (λ(u3a0,_) _ _=>Tr.I (λ_=>Tr.R ?_) λ_=>Tr.I (λ_=>Tr.C ?_ λ_ _ _=>Tr.R ?_) λ_=>Tr.C ?_ λ_ _ _=>Tr.R ?_)
  all_goals ((try simp only[Tr.nice,bu]at*)<;>grind)⟩
noncomputable def WY:=aZ st VU WD [] (ks:=[.st .conn]) Xj (λv=>[(true,gO (.o true) v.1),(false,[sc (.o true) .segm v.2])]) Tryz.func157 trivial
noncomputable def D8:=[Mp,Sx,Rf,R0]
def lL:Sh:=⟨[zs 2,zp 7 0,zi 8,zi 9],[.box [.st .sipr []]]⟩
noncomputable def Di:Fx:=⟨281,Tryz.f281,[(0,lb [2,7,8,9] [2,6,7,8,9])],0⟩
noncomputable def jI (v0:ax)(v1:Int)(a:Int×Sipr):Tr (Stp (Int×Sipr) ((Int×Sipr))):=
 .ite (decide ((IntKind.wrap .i64 (a.1+8))≤v1)) (.grd (((decide (0≤a.1))&&(decide (a.1≤(IntKind.wrap .i64 (a.1+8)))))&&(decide ((IntKind.wrap .i64 (a.1+8))≤(v0.length:Int))))<|
  .cal qs.c (((v0.take ((IntKind.wrap .i64 (a.1+8)).toNat)).drop a.1.toNat),()) λc2=>
  .cal rZ.c (a.2,c2,()) λc3=>
  .ret (.next ((IntKind.wrap .i64 (a.1+8)),c3)))<|
 .ret (.out (a.1,a.2))
noncomputable def gd:lL.V→LW lL (Int×Sipr) ((Int×Sipr)):=λ(v0,v1,v2,v3,_)=>⟨(v2,v3),λa=>(v0,v1,a.1,a.2,()),jI v0 v1,Int.toNat (v1-v2),λ_ k p=>k (.exit 0) (Sh.enc ⟨[zs 2,zu 6,zp 7 0,zi 8,zi 9],[.box [.st .sipr []]]⟩ (v0,v1,p.1,p.2,()))⟩
theorem FZ:LS Tryz.prog Di [0] (SX 0 lL gd):=Hz st (ac D8) _ gd [] trivial
theorem Jq {v0:ax}{v1 v2:Int}{v3:Sipr}(h0:v1=(v0.length:Int))(h1:sS v0)(h2:0≤v2∧v2≤v1):(gd (v0,v1,v2,v3,())).W (λp=>0≤p.1∧p.1≤v0.length):=
 LW.okW (a:=(v2,v3)) (λa=>0≤a.1∧a.1≤v1) (λa=>Int.toNat (v1-a.1)) rfl h2 λ(v2,v3) hv=>by
  refine Tr.I (λ_=>Tr.G3 ?_ λ_=>Tr.C ?_ λ_ _ _=>Tr.C trivial λ_ _ _=>Tr.Rn ?_) λ_=>Tr.Ro ?_
  all_goals (grind)
noncomputable def wF:FT (Int×Int×ax×Unit) (Int) (λx=>sS x.2.2.1) (λ_ _=>True):=⟨λ(x0,x1,x2,_)=>
  .val (tL.f (x0,x1,())) λc1=>
  .lp (gd (x2,(x2.length:Int),0,c1,())).lp λ(p4a0,p4a1)=>
  .grd (((decide (0≤p4a0))&&(decide (p4a0≤(x2.length:Int))))&&(decide ((x2.length:Int)≤(x2.length:Int))))<|
  .cal qs.c (((x2.take ((x2.length:Int).toNat)).drop p4a0.toNat),()) λc5=>
  .val (IntKind.wrap .u64 ((IntKind.wrap .u64 ((x2.length:Int).tmod 256))*72057594037927936)) λe6=>
  .cal rZ.c (p4a1,(bits .or .u64 c5 e6),()) λc7=>
  .cal Ag.c (c7,()) λc8=>
  .ret c8,
 λ(x0,x1,x2,_) hp=>by
  refine Tr.V λ_ _=>Tr.L (Jq ?_ ?_ ?_) (λa=>Empty.elim a) (λ(p4a0,p4a1) _=>Tr.G3 ?_ λ_=>Tr.C ?_ λ_ _ _=>Tr.V λ_ _=>Tr.C trivial λ_ _ _=>Tr.C trivial λ_ _ _=>Tr.R trivial)
  all_goals ((try simp only[gd,LW.lp,LW.cw,Cw.lp]at*)<;>grind)⟩
noncomputable def Ql:=aZ st Di D8 [(SX 0 lL gd)] (ks:=[.sc (.int .u64),.sc (.int .u64),.sc .str]) wF (λv=>[(false,[.c (.int .u64 v)])]) Tryz.func281 ⟨FZ,trivial⟩
noncomputable def Ph:=[tk,nK,wG,lS,tY,FS,Qw]
noncomputable def Rm:Fx:=⟨294,Tryz.f294,[(3000001,rA 0 17)],0⟩
noncomputable def sI:FT (Conn×Segm×Unit) (Int) (λx=>aa x.1∧aj x.2.1) (λ_ _=>True):=⟨λ(x0,x1,_)=>
  .bnd (β:=Bool×Unit) (.cal bI.c (x0,()) λc1=>
   .ite (!c1) (.ret (true,()))<|
   .ite (x0.state==8) (.ret (true,()))<|
   .cal ao.c (x1,()) λc2=>
   .ret ((!c2),())) λ(u3a0,_)=>
  .ite u3a0 (.ret 1)<|
  .val (bc.f (x1,4,())) λc4=>
  .ite c4 (.ite (x1.seq==x0.r.next) (.ret 2)<|
   .cal bR.c (x0.r,()) λc5=>
   .val (m7.f (x1.seq,x0.r.next,c5,())) λc6=>
   .ite c6 (.ret 3)<|
   .ret 1)<|
  .val (bc.f (x1,2,())) λc7=>
  .ite c7 (.ret 3)<|
  .cal oM.c (x0,x1,()) λc8=>
  .ite (!c8) (.ret 4)<|
  .val (bc.f (x1,16,())) λc9=>
  .ite (!c9) (.ret 1)<|
  .cal wv.c (x0,x1.ack,()) λc10=>
  .ite (!c10) (.ret 3)<|
  .ret 5,
 λ(x0,x1,_) hp=>by
  refine Tr.B (Q':=λw=>(w.1=false→SO x0.s∧RO x0.r∧x1.body.length≤1420)) (Tr.C ?_ λ_ _ _=>Tr.I (λ_=>Tr.R ?_) λ_=>Tr.I (λ_=>Tr.R ?_) λ_=>Tr.C trivial λ_ _ _=>Tr.R ?_) (λ(u3a0,_) _ _=>Tr.I (λ_=>Tr.R trivial) λ_=>Tr.V λ_ _=>Tr.I (λ_=>Tr.I (λ_=>Tr.R trivial) λ_=>Tr.C ?_ λ_ _ _=>Tr.F (by kernel_rfl) trivial) λ_=>Tr.V λ_ _=>Tr.I (λ_=>Tr.R trivial) λ_=>Tr.C ?_ λ_ _ _=>Tr.I (λ_=>Tr.R trivial) λ_=>Tr.V λ_ _=>Tr.I (λ_=>Tr.R trivial) λ_=>Tr.C ?_ λ_ _ _=>Tr.F (by kernel_rfl) trivial)
  all_goals ((try simp only[Tr.nice,bu]at*)<;>grind)⟩
noncomputable def Ea:=aZ st Rm Ph [] (ks:=[.st .conn,.st .segm]) sI (λv=>[(false,[.c (.int .i64 v)])]) Tryz.func294 trivial
noncomputable def Vt:=[Ea,fw,Vx,H3,pN,wG,QZ,SZ]
def xt:An:=⟨⟨[],[],false,0⟩,⟨[2,3,4,5],[],false,0⟩,⟨[],[]⟩,[(.normal,⟨[zp 2 0,zp 3 1,zp 4 2,zp 5 3],[.box [.st .conn [.sl .arg]],.box [.st .segm []],.box [.st .conn [.nil .piec]],.box [.st .conn [.own 4]],.of false true]⟩)]⟩
noncomputable def Uh:Fx:=⟨296,Tryz.f296,[(1000024,xt),(3000009,rA 0 54),(3000014,rA 0 73)],0⟩
noncomputable def zB:FT (Conn×Segm×Unit) (Conn) (λx=>aa x.1∧aj x.2.1) (λx v=>aa v):=⟨λ(x0,x1,_)=>
  .cal sI.c (x0,x1,()) λc1=>
  .ite (c1 != 5) (.cal dj.c (x0,()) λc2=>
   .ret c2)<|
  .cal dj.c (x0,()) λc3=>
  .cal FI.c (x0.s,x1.ack,()) λc4=>
  .bnd (β:=WT xt.es) (.ite c4.2 (.cal uW.c (x1.window,x0.opts,()) λc5=>
    .bnd (β:=Bool×Unit) (.ite (c4.1.una != x0.s.una) (.ret ((x0.state != 7),()))<|
     .cal cJ.c (c4.1,()) λc6=>
     .ite (c6==0) (.ret ((x0.state != 7),()))<|
     .ret (false,())) λ(u7a0,_)=>
    .ite u7a0 (.cal cJ.c (c4.1,()) λc8=>
     .ite (decide (0<c8)) (.ret (x0,x1,(⟨⟨0,0,0⟩,0,⟨0,[],0,false,false,false⟩,⟨0,[],[],0,false⟩,0,0,⟨0,0,false,false,0,0⟩,0,0⟩:Conn),(⟨c3.tuple,c3.state,c4.1,c3.r,c5,(if c3.most<c5 then c5 else c3.most),c3.opts,3,0⟩:Conn),()))<|
     .ret (x0,x1,(⟨⟨0,0,0⟩,0,⟨0,[],0,false,false,false⟩,⟨0,[],[],0,false⟩,0,0,⟨0,0,false,false,0,0⟩,0,0⟩:Conn),(⟨c3.tuple,c3.state,c4.1,c3.r,c5,(if c3.most<c5 then c5 else c3.most),c3.opts,0,0⟩:Conn),()))<|
    .ret (x0,x1,(⟨⟨0,0,0⟩,0,⟨0,[],0,false,false,false⟩,⟨0,[],[],0,false⟩,0,0,⟨0,0,false,false,0,0⟩,0,0⟩:Conn),(⟨c3.tuple,c3.state,c4.1,c3.r,c5,(if c3.most<c5 then c5 else c3.most),c3.opts,c3.timer,c3.tries⟩:Conn),()))<|
   .ret (x0,x1,(⟨⟨0,0,0⟩,0,⟨0,[],0,false,false,false⟩,⟨0,[],[],0,false⟩,0,0,⟨0,0,false,false,0,0⟩,0,0⟩:Conn),c3,())) λ(u9a0,u9a1,_,u9a3,_)=>
  .bnd (β:=Bool×Unit) (.ite (u9a0.state==1) (.ret (true,()))<|
   .ite (u9a0.state==2) (.ret (true,()))<|
   .ret ((u9a0.state==3),())) λ(u10a0,_)=>
  .ite u10a0 (.val (bc.f (u9a1,1,())) λc11=>
   .cal rM.c (u9a0.r,u9a1.seq,u9a1.body,c11,()) λc12=>
   .cal pu.c (({u9a3 with r.next:=c12.next,r.data:=c12.data,r.held:=c12.held,r.fin:=c12.fin,r.done:=c12.done}:Conn),()) λc13=>
   .ret c13)<|
  .cal pu.c (u9a3,()) λc14=>
  .ret c14,
 λ(x0,x1,_) hp=>by
  refine Tr.C ?_ λ_ _ _=>Tr.I (λ_=>Tr.C ?_ λ_ _ _=>Tr.R ?_) λ_=>Tr.C ?_ λ_ _ _=>Tr.C ?_ λ_ _ _=>Tr.B (Q':=λw=>aa w.1∧aj w.2.1∧aa w.2.2.1∧aa w.2.2.2.1) (Tr.I (λ_=>Tr.C trivial λ_ _ _=>Tr.B (Q':=λ_=>True) (Tr.I (λ_=>Tr.R trivial) λ_=>Tr.C ?_ λ_ _ _=>Tr.F (by kernel_rfl) trivial) (λ(u7a0,_) _ _=>Tr.I (λ_=>Tr.C ?_ λ_ _ _=>Tr.I (λ_=>Tr.R ?_) λ_=>Tr.R ?_) λ_=>Tr.R ?_)) λ_=>Tr.R ?_) (λ(u9a0,u9a1,u9a2,u9a3,_) _ _=>Tr.B (Q':=λ_=>True) (Tr.F (by kernel_rfl) trivial) (λ(u10a0,_) _ _=>Tr.I (λ_=>Tr.V λ_ _=>Tr.C ?_ λ_ _ _=>Tr.C ?_ λ_ _ _=>Tr.R ?_) λ_=>Tr.C ?_ λ_ _ _=>Tr.R ?_))
  all_goals ((try simp only[Tr.nice,bu]at*)<;>grind)⟩
noncomputable def Vb:=aZ st Uh Vt [] (ks:=[.st .conn,.st .segm]) zB (λv=>[(true,gO (.o true) v)]) Tryz.func296 trivial
noncomputable def pc:FT (Tabl×Conn×Limi×Unit) (Tabl×Bool) (λx=>bh x.1∧aa x.2.1) (λx v=>bh v.1∧v.1.conns.length≤max x.1.conns.length 16∧v.1.waiting.length≤max x.1.waiting.length 16):=⟨λ(x0,x1,x2,_)=>
  .cal lq.c (x0,()) λc1=>
  .cal dI.c (x1,()) λc2=>
  .grd (Nat.ble ((2*(c1.conns.length+1)+1024)*208) aF)<|
  .grd (Nat.ble ((2*(c1.waiting.length+1)+1024)*24) aF)<|
  .cal sw.c ((⟨(c1.conns++[c2]),(c1.waiting++[x1.tuple])⟩:Tabl),x2,()) λc3=>
  .ite (!c3) (.cal lq.c (x0,()) λc4=>
   .ret (c4,false))<|
  .ret ((⟨(c1.conns++[c2]),(c1.waiting++[x1.tuple])⟩:Tabl),true),
 λ(x0,x1,x2,_) hp=>by
  refine Tr.C ?_ λ_ _ _=>Tr.C ?_ λ_ _ _=>Tr.Gb ?_ λ_=>Tr.Gb ?_ λ_=>Tr.C ?_ λ_ _ _=>Tr.I (λ_=>Tr.C ?_ λ_ _ _=>Tr.R ?_) λ_=>Tr.R ?_
  all_goals (grind)⟩
noncomputable def DT:=bi st Tryz.func375 [qR,dK,Dj] (ks:=[.st .tabl,.st .conn,.st .limi]) pc (λv=>[(true,tJ (.o true) (.o true) v.1),(false,[.c (.bool v.2)])])
noncomputable def Q6:=[iv,rh,wh,j8,tC,Hc,PF]
noncomputable def P2:Fx:=⟨399,Tryz.f399,[(3000001,rA 0 5),(3000003,rA 0 19),(3000005,rA 0 30)],0⟩
noncomputable def sH:FT (Conn×Segm×Unit) (Int) (λx=>aa x.1∧aj x.2.1) (λ_ _=>True):=⟨λ(x0,x1,_)=>
  .bnd (β:=Bool×Unit) (.cal iZ.c (x0,()) λc1=>
   .ite (!c1) (.ret (true,()))<|
   .ite (x0.state==8) (.ret (true,()))<|
   .cal lu.c (x1,()) λc2=>
   .ret ((!c2),())) λ(u3a0,_)=>
  .ite u3a0 (.ret 1)<|
  .bnd (β:=Bool×Unit) (.val (gJ.f (x1,4,())) λc4=>
   .ite c4 (.ret ((x1.seq==x0.r.next),()))<|
   .ret (false,())) λ(u5a0,_)=>
  .ite u5a0 (.ret 2)<|
  .bnd (β:=Bool×Unit) (.val (gJ.f (x1,4,())) λc6=>
   .ite c6 (.cal gy.c (x0.r,()) λc7=>
    .val (nr.f (x1.seq,x0.r.next,c7,())) λc8=>
    .ret (c8,()))<|
   .ret (false,())) λ(u9a0,_)=>
  .ite u9a0 (.ret 3)<|
  .val (gJ.f (x1,4,())) λc10=>
  .ite c10 (.ret 1)<|
  .val (gJ.f (x1,2,())) λc11=>
  .ite c11 (.ret 3)<|
  .cal oL.c (x0,x1,()) λc12=>
  .ite (!c12) (.ret 4)<|
  .val (gJ.f (x1,16,())) λc13=>
  .ite (!c13) (.ret 1)<|
  .cal wn.c (x0,x1.ack,()) λc14=>
  .ite (!c14) (.ret 3)<|
  .ret 5,
 λ(x0,x1,_) hp=>by
  refine Tr.B (Q':=λw=>(w.1=false→SO x0.s∧RO x0.r∧x1.body.length≤1420)) (Tr.C ?_ λ_ _ _=>Tr.I (λ_=>Tr.R ?_) λ_=>Tr.I (λ_=>Tr.R ?_) λ_=>Tr.C trivial λ_ _ _=>Tr.R ?_) (λ(u3a0,_) _ _=>Tr.I (λ_=>Tr.R trivial) λ_=>Tr.B (Q':=λ_=>True) (Tr.F (by kernel_rfl) trivial) (λ(u5a0,_) _ _=>Tr.I (λ_=>Tr.R trivial) λ_=>Tr.B (Q':=λ_=>True) (Tr.V λ_ _=>Tr.I (λ_=>Tr.C ?_ λ_ _ _=>Tr.F (by kernel_rfl) trivial) λ_=>Tr.R trivial) (λ(u9a0,_) _ _=>Tr.I (λ_=>Tr.R trivial) λ_=>Tr.V λ_ _=>Tr.I (λ_=>Tr.R trivial) λ_=>Tr.V λ_ _=>Tr.I (λ_=>Tr.R trivial) λ_=>Tr.C ?_ λ_ _ _=>Tr.I (λ_=>Tr.R trivial) λ_=>Tr.V λ_ _=>Tr.I (λ_=>Tr.R trivial) λ_=>Tr.C ?_ λ_ _ _=>Tr.F (by kernel_rfl) trivial)))
  all_goals ((try simp only[Tr.nice,bu]at*)<;>grind)⟩
noncomputable def CZ:=aZ st P2 Q6 [] (ks:=[.st .conn,.st .segm]) sH (λv=>[(false,[.c (.int .i64 v)])]) Tryz.func399 trivial
noncomputable def Vp:=[dK,CZ,LV,lA,sx,iu,dR,wh,Dt,RX]
def xl:An:=⟨⟨[],[],false,0⟩,⟨[2,3,4,5],[],false,0⟩,⟨[],[]⟩,[(.normal,⟨[zp 2 0,zp 3 1,zp 4 2,zp 5 3],[.box [.st .conn [.sl .arg]],.box [.st .segm []],.box [.st .conn [.nil .piec]],.box [.st .conn [.own 4]],.of false true]⟩)]⟩
noncomputable def Ut:Fx:=⟨400,Tryz.f400,[(1000024,xl),(3000010,rA 0 59)],0⟩
noncomputable def AE:FT (Conn×Segm×Unit) (Conn) (λx=>aa x.1∧aj x.2.1) (λx v=>aa v):=⟨λ(x0,x1,_)=>
  .cal dI.c (x0,()) λc1=>
  .cal sH.c (x0,x1,()) λc2=>
  .ite (c2 != 5) (.ret c1)<|
  .cal AQ.c (x0.s,x1.ack,()) λc3=>
  .bnd (β:=WT xl.es) (.ite c3.2 (.val (fq.f (0,x0.opts.scale,())) λc4=>
    .grd (decide (0≤(IntKind.wrap .u64 c4)))<|
    .val (IntKind.wrap .i64 (x1.window*2 ^ (min (IntKind.wrap .u64 c4).toNat 64))) λe5=>
    .val (kW.f (1073725440,e5,())) λc6=>
    .val (fq.f (c1.most,c6,())) λc7=>
    .cal gC.c (c3.1,()) λc8=>
    .bnd (β:=Bool×Unit) (.ite (c3.1.una != x0.s.una) (.ret ((x0.state != 7),()))<|
     .ite (c8==0) (.ret ((x0.state != 7),()))<|
     .ret (false,())) λ(u9a0,_)=>
    .ite u9a0 (.ite (decide (0<c8)) (.ret (x0,x1,(⟨⟨0,0,0⟩,0,⟨0,[],0,false,false,false⟩,⟨0,[],[],0,false⟩,0,0,⟨0,0,false,false,0,0⟩,0,0⟩:Conn),(⟨c1.tuple,c1.state,c3.1,c1.r,c6,c7,c1.opts,3,0⟩:Conn),()))<|
     .ret (x0,x1,(⟨⟨0,0,0⟩,0,⟨0,[],0,false,false,false⟩,⟨0,[],[],0,false⟩,0,0,⟨0,0,false,false,0,0⟩,0,0⟩:Conn),(⟨c1.tuple,c1.state,c3.1,c1.r,c6,c7,c1.opts,0,0⟩:Conn),()))<|
    .ret (x0,x1,(⟨⟨0,0,0⟩,0,⟨0,[],0,false,false,false⟩,⟨0,[],[],0,false⟩,0,0,⟨0,0,false,false,0,0⟩,0,0⟩:Conn),(⟨c1.tuple,c1.state,c3.1,c1.r,c6,c7,c1.opts,c1.timer,c1.tries⟩:Conn),()))<|
   .ret (x0,x1,(⟨⟨0,0,0⟩,0,⟨0,[],0,false,false,false⟩,⟨0,[],[],0,false⟩,0,0,⟨0,0,false,false,0,0⟩,0,0⟩:Conn),c1,())) λ(u10a0,u10a1,_,u10a3,_)=>
  .val (dk.f (u10a0.state,1,3,())) λc11=>
  .ite c11 (.val (gJ.f (u10a1,1,())) λc12=>
   .cal pa.c (u10a0.r,u10a1.seq,u10a1.body,c12,()) λc13=>
   .cal qa.c (({u10a3 with r.next:=c13.next,r.data:=c13.data,r.held:=c13.held,r.fin:=c13.fin,r.done:=c13.done}:Conn),()) λc14=>
   .ret c14)<|
  .cal qa.c (u10a3,()) λc15=>
  .ret c15,
 λ(x0,x1,_) hp=>by
  refine Tr.C ?_ λ_ _ _=>Tr.C ?_ λ_ _ _=>Tr.I (λ_=>Tr.R ?_) λ_=>Tr.C ?_ λ_ _ _=>Tr.B (Q':=λw=>aa w.1∧aj w.2.1∧aa w.2.2.1∧aa w.2.2.2.1) (Tr.I (λ_=>Tr.V λ_ _=>Tr.G1 ?_ λ_=>Tr.V λ_ _=>Tr.V λ_ _=>Tr.V λ_ _=>Tr.C ?_ λ_ _ _=>Tr.B (Q':=λ_=>True) (Tr.F (by kernel_rfl) trivial) (λ(u9a0,_) _ _=>Tr.I (λ_=>Tr.I (λ_=>Tr.R ?_) λ_=>Tr.R ?_) λ_=>Tr.R ?_)) λ_=>Tr.R ?_) (λ(u10a0,u10a1,u10a2,u10a3,_) _ _=>Tr.V λ_ _=>Tr.I (λ_=>Tr.V λ_ _=>Tr.C ?_ λ_ _ _=>Tr.C ?_ λ_ _ _=>Tr.R ?_) λ_=>Tr.C ?_ λ_ _ _=>Tr.R ?_)
  all_goals ((try simp only[Tr.nice,bu]at*)<;>grind)⟩
noncomputable def VK:=aZ st Ut Vp [] (ks:=[.st .conn,.st .segm]) AE (λv=>[(true,gO (.o true) v)]) Tryz.func400 trivial
noncomputable def A5:FT (Conn×Conn×Unit) (Bool) (λx=>aa x.1∧aa x.2.1) (λ_ _=>True):=⟨λ(x0,x1,_)=>
  .val (ph.f (x0.tuple,x1.tuple,())) λc1=>
  .ite (!c1) (.ret false)<|
  .ite (x0.state != x1.state) (.ret false)<|
  .val (tg.f (x0.s,x1.s,())) λc2=>
  .ite (!c2) (.ret false)<|
  .cal oK.c (x0.r,x1.r,()) λc3=>
  .ite (!c3) (.ret false)<|
  .ite (x0.window != x1.window) (.ret false)<|
  .ite (x0.most != x1.most) (.ret false)<|
  .val (n6.f (x0.opts,x1.opts,())) λc4=>
  .ite (!c4) (.ret false)<|
  .ite (x0.timer != x1.timer) (.ret false)<|
  .ite (x0.tries != x1.tries) (.ret false)<|
  .ret true,
 λ(x0,x1,_) hp=>by
  refine Tr.V λ_ _=>Tr.I (λ_=>Tr.R trivial) λ_=>Tr.I (λ_=>Tr.R trivial) λ_=>Tr.V λ_ _=>Tr.I (λ_=>Tr.R trivial) λ_=>Tr.C ?_ λ_ _ _=>Tr.F (by kernel_rfl) trivial
  all_goals (grind)⟩
noncomputable def Tt:=bi st Tryz.func416 [vj,Mz,HY,xU] (ks:=[.st .conn,.st .conn]) A5 (λv=>[(false,[.c (.bool v)])])
noncomputable def D6:=[Nn,SM,OS,S3]
def lM:Sh:=⟨[zs 2,zp 7 0,(8,false,[.sl .any .u8])],[.box [.st .sipr []]]⟩
noncomputable def Du:Fx:=⟨442,Tryz.f442,[(0,la ⟨[2,7,8],[.soft 8 0],false,0⟩ ⟨[2,6,7,8],[],false,0⟩)],0⟩
noncomputable def md (a:List Int×Sipr):Tr (Stp (List Int×Sipr) ((List Int×Sipr))):=
 .ite (decide (8≤(a.1.length:Int))) (.cal pY.c (a.1,()) λc4=>
  .cal rR.c (a.2,c4,()) λc5=>
  .grd ((decide (8≤(a.1.length:Int)))&&(decide ((a.1.length:Int)≤(a.1.length:Int))))<|
  .ret (.next (((a.1.take ((a.1.length:Int).toNat)).drop 8),c5)))<|
 .ret (.out (a.1,a.2))
noncomputable def fT:lM.V→LW lM (List Int×Sipr) ((List Int×Sipr)):=λ(v0,v1,v2,_)=>⟨(v1,v2),λa=>(v0,a.1,a.2,()),md,v1.length,λ_ k p=>k (.exit 0) (Sh.enc ⟨[zs 2,zu 6,zp 7 0,(8,false,[.sl .any .u8])],[.box [.st .sipr []]]⟩ (v0,p.1,p.2,()))⟩
theorem GL:LS Tryz.prog Du [0] (SX 0 lM fT):=Hz st (ac D6) _ fT [] trivial
theorem I7 {v0:ax}{v1:List Int}{v2:Sipr}(h0:sS v1):(fT (v0,v1,v2,())).W (λp=>sS p.1):=
 LW.okW (a:=(v1,v2)) (λa=>sS a.1) (λa=>a.1.length) rfl h0 λ(v1,v2) hv=>by
  refine Tr.I (λ_=>Tr.C ?_ λ_ _ _=>Tr.C trivial λ_ _ _=>Tr.G2 ?_ λ_=>Tr.Rn ?_) λ_=>Tr.Ro ?_
  all_goals (grind)
noncomputable def m6:FT (Int×Int×ax×Unit) (Int) (λx=>sS x.2.2.1) (λ_ _=>True):=⟨λ(x0,x1,x2,_)=>
  .val (qp.f (x0,x1,())) λc1=>
  .grd (Nat.ble x2.length aF)<|
  .lp (fT (x2,(mV x2),c1,())).lp λ(p6a0,p6a1)=>
  .val ((p6a0.take (List.replicate 8 0).length)++(List.replicate 8 0).drop (p6a0.take (List.replicate 8 0).length).length) λl7=>
  .grd (decide (7<(l7.length:Int)))<|
  .cal pY.c ((l7.set 7 (IntKind.wrap .u8 (x2.length:Int))),()) λc8=>
  .cal rR.c (p6a1,c8,()) λc9=>
  .cal rG.c (c9,()) λc10=>
  .ret c10,
 λ(x0,x1,x2,_) hp=>by
  refine Tr.V λ_ _=>Tr.Gb ?_ λ_=>Tr.L (I7 ?_) (λa=>Empty.elim a) (λ(p6a0,p6a1) _=>Tr.V λ_ _=>Tr.G1 ?_ λ_=>Tr.C ?_ λ_ _ _=>Tr.C trivial λ_ _ _=>Tr.C trivial λ_ _ _=>Tr.R trivial)
  all_goals ((try simp only[fT,LW.lp,LW.cw,Cw.lp]at*)<;>grind)⟩
noncomputable def QL:=aZ st Du D6 [(SX 0 lM fT)] (ks:=[.sc (.int .u64),.sc (.int .u64),.sc .str]) m6 (λv=>[(false,[.c (.int .u64 v)])]) Tryz.func442 ⟨GL,trivial⟩
noncomputable def gH:=[Ja]
def bS:Sh:=⟨[(0,false,[.sl .arg .conn]),(1,false,[.fn 189 [0]]),zi 7,zi 8],[.box [.st .tupl []]]⟩
noncomputable def gI:Fx:=⟨188,Tryz.f188,[(0,la ⟨[0,1,7,8],[],false,1⟩ ⟨[4],[],false,1⟩)],1⟩
noncomputable def fQ (v0:List Conn)(v3:Tupl)(v2:Int)(a:Unit):Tr (Stp (Unit) ((Int))):=
 .grd ((decide (0≤v2))&&(decide (v2<(v0.length:Int))))<|
 .cal tt.c ((v0.getD v2.toNat (Ty.zero .conn)),v3,()) λc1=>
 .ite c1 (.ret (.out v2))<|
 .ret (.next ())
noncomputable def aQ:bS.V→LC bS (Unit) ((Int)) (((Int))⊕(Int×Unit)):=λ(v0,v1,v2,v3,_)=>⟨v2,(),λv2 _=>(v0,v1,v2,v3,()),λv2 _=>(decide (v2<v1)),fQ v0 v3,up,1,(Int.toNat (v1-v2)),.inl,λi a=> .inr (i,a),λ_ k w=>Sum.elim (λp=>k .ret (Sh.enc ⟨[zi 4],[.box [.st .tupl []]]⟩ (p,v3,()))) (λ_=>k (.exit 0) (Sh.enc ⟨[zu 4],[.box [.st .tupl []]]⟩ (v3,()))) w⟩
theorem lj:LS Tryz.prog gI [0] (bx 0 bS aQ):=aN st (ac gH) _ aQ [] trivial
theorem kZ {v0:List Conn}{v1 v2:Int}{v3:Tupl}(h0:0≤v2)(h1:v1≤4611686018427387904)(h2:v1≤(v0.length:Int)):(aQ (v0,v1,v2,v3,())).U v1 (λ_ _=>True) (λp=>v2≤p∧p<v1):=
 LC.okU (i:=v2) (a:=()) (λ_ _=>rfl) (λ_=>rfl) rfl h0 h1 trivial λv2 _ hj hk hv=>by
  refine Tr.G2 ?_ λ_=>Tr.C trivial λ_ _ _=>Tr.I (λ_=>Tr.Ro ?_) λ_=>Tr.Rn trivial
  all_goals (grind)
noncomputable def eC:FT (List Conn×Tupl×Unit) (Int) (λx=>wS x.1) (λx v=> -1≤v∧v<x.1.length):=⟨λ(x0,y1_0,_)=>
  .lp (aQ (x0,(x0.length:Int),0,y1_0,())).lp λw2=> .sum w2 (λp2a0=>
  .ret p2a0)<|
  λ_=>
  .ret (-1),
 λ(x0,y1_0,_) hp=>by
  refine Tr.L (kZ ?_ ?_ ?_) (λ_ _=>Tr.Sr (Tr.R ?_)) (λp2a0 _=>Tr.Sl (Tr.R ?_))
  all_goals ((try simp only[aQ,LC.lp,LC.ct,Ct.lp]at*)<;>grind)⟩
noncomputable def mW:=cI st gI gH [(bx 0 bS aQ)] [.sc (.sl .conn),.fn 189 [0]] [.box [.st .tupl]] (λx y=>(x.1,y.1.1,())) eC (λv=>[(false,[.c (.int .i64 v)])]) (λx y v=>((y.1.1,()),())) Tryz.func188 (by kernel_rfl) ⟨lj,trivial⟩
noncomputable def gE:=[IW]
def bT:Sh:=⟨[(0,false,[.sl .arg .half]),(1,false,[.fn 299 [0]]),zi 7,zi 8],[.box [.st .tupl []]]⟩
noncomputable def gF:Fx:=⟨207,Tryz.f207,[(0,la ⟨[0,1,7,8],[],false,1⟩ ⟨[4],[],false,1⟩)],1⟩
noncomputable def gc (v0:List Half)(v3:Tupl)(v2:Int)(a:Unit):Tr (Stp (Unit) ((Int))):=
 .grd ((decide (0≤v2))&&(decide (v2<(v0.length:Int))))<|
 .cal tS.c ((v0.getD v2.toNat (Ty.zero .half)),v3,()) λc1=>
 .ite c1 (.ret (.out v2))<|
 .ret (.next ())
noncomputable def aP:bT.V→LC bT (Unit) ((Int)) (((Int))⊕(Int×Unit)):=λ(v0,v1,v2,v3,_)=>⟨v2,(),λv2 _=>(v0,v1,v2,v3,()),λv2 _=>(decide (v2<v1)),gc v0 v3,up,1,(Int.toNat (v1-v2)),.inl,λi a=> .inr (i,a),λ_ k w=>Sum.elim (λp=>k .ret (Sh.enc ⟨[zi 4],[.box [.st .tupl []]]⟩ (p,v3,()))) (λ_=>k (.exit 0) (Sh.enc ⟨[zu 4],[.box [.st .tupl []]]⟩ (v3,()))) w⟩
theorem lf:LS Tryz.prog gF [0] (bx 0 bT aP):=aN st (ac gE) _ aP [] trivial
theorem lh {v0:List Half}{v1 v2:Int}{v3:Tupl}(h0:0≤v2)(h1:v1≤4611686018427387904)(h2:v1≤(v0.length:Int)):(aP (v0,v1,v2,v3,())).U v1 (λ_ _=>True) (λp=>v2≤p∧p<v1):=
 LC.okU (i:=v2) (a:=()) (λ_ _=>rfl) (λ_=>rfl) rfl h0 h1 trivial λv2 _ hj hk hv=>by
  refine Tr.G2 ?_ λ_=>Tr.C trivial λ_ _ _=>Tr.I (λ_=>Tr.Ro ?_) λ_=>Tr.Rn trivial
  all_goals (grind)
noncomputable def ey:FT (List Half×Tupl×Unit) (Int) (λx=>wS x.1) (λx v=> -1≤v∧v<x.1.length):=⟨λ(x0,y1_0,_)=>
  .lp (aP (x0,(x0.length:Int),0,y1_0,())).lp λw2=> .sum w2 (λp2a0=>
  .ret p2a0)<|
  λ_=>
  .ret (-1),
 λ(x0,y1_0,_) hp=>by
  refine Tr.L (lh ?_ ?_ ?_) (λ_ _=>Tr.Sr (Tr.R ?_)) (λp2a0 _=>Tr.Sl (Tr.R ?_))
  all_goals ((try simp only[aP,LC.lp,LC.ct,Ct.lp]at*)<;>grind)⟩
noncomputable def mX:=cI st gF gE [(bx 0 bT aP)] [.sc (.sl .half),.fn 299 [0]] [.box [.st .tupl]] (λx y=>(x.1,y.1.1,())) ey (λv=>[(false,[.c (.int .i64 v)])]) (λx y v=>((y.1.1,()),())) Tryz.func207 (by kernel_rfl) ⟨lf,trivial⟩
noncomputable def FM:=[cq,yA,Dj,z9,dR,fo]
def nC:Sh:=⟨[zp 1 0,zi 3],[.box [.st .door [.sl .arg,.sl .arg,.sl .arg,.sl .arg,.sl .arg]]]⟩
noncomputable def Hp:Fx:=⟨21,Tryz.f21,[(0,lb [1,3] [2]),(3000001,rA 0 51)],0⟩
noncomputable def xR (v1:Door)(v0:Int)(a:Unit):Tr (Stp (Unit) ((Unit))):=
 .grd ((decide (0≤v0))&&(decide (v0<(v1.halves.length:Int))))<|
 .cal cu.c (v1.table,(v1.halves.getD v0.toNat (Ty.zero .half)).tuple,()) λc8=>
 .ite (decide (0≤c8)) (.ret (.out ()))<|
 .ret (.next ())
noncomputable def gu:nC.V→LC nC (Unit) ((Unit)) (((Unit))⊕(Int×Unit)):=λ(v0,v1,_)=>⟨v0,(),λv0 _=>(v0,v1,()),λv0 _=>(decide (v0<(v1.halves.length:Int))),xR v1,up,1,(Int.toNat ((v1.halves.length:Int)-v0)),.inl,λi a=> .inr (i,a),λ_ k w=>Sum.elim (λ_=>k .ret (Sh.enc ⟨[zb 2],[]⟩ (false,()))) (λ_=>k (.exit 0) (Sh.enc ⟨[zu 2],[]⟩ ())) w⟩
theorem J5:LS Tryz.prog Hp [0] (bx 0 nC gu):=aN st (ac FM) _ gu [] trivial
theorem KD {v0:Int}{v1:Door}(h0:0≤v0)(h1:(v1.halves.length:Int)≤4611686018427387904)(h2:am v1):(gu (v0,v1,())).U (v1.halves.length:Int) (λ_ _=>True) (λ_=>True):=
 LC.okU (i:=v0) (a:=()) (λ_ _=>rfl) (λ_=>rfl) rfl h0 h1 trivial λv0 _ hj hk hv=>by
  refine Tr.G2 ?_ λ_=>Tr.C ?_ λ_ _ _=>Tr.Z (by kernel_rfl)
  all_goals (grind)
noncomputable def qb:FT (Door×Unit) (Bool) (λx=>am x.1) (λx v=>(v=true→x.1.table.conns.length≤16)):=⟨λ(x0,_)=>
  .bnd (β:=Bool×Unit) (.cal aL.c (x0.port,16,()) λc1=>
   .ite (!c1) (.ret (true,()))<|
   .cal aL.c (x0.clock,32,()) λc2=>
   .ite (!c2) (.ret (true,()))<|
   .cal sy.c (x0.keys,()) λc3=>
   .ite (!c3) (.ret (true,()))<|
   .cal sw.c (x0.table,x0.limits,()) λc4=>
   .ite (!c4) (.ret (true,()))<|
   .cal nf.c (x0.halves,()) λc5=>
   .ite (!c5) (.ret (true,()))<|
   .ite (decide (x0.limits.halves<(x0.halves.length:Int))) (.ret (true,()))<|
   .val (dk.f (x0.chal,0,x0.limits.chal,())) λc6=>
   .ret ((!c6),())) λ(u7a0,_)=>
  .ite u7a0 (.ret false)<|
  .lp (gu (0,x0,())).lp λw9=> .sum w9 (λ_=>
  .ret false)<|
  λ_=>
  .ret true,
 λ(x0,_) hp=>by
  refine Tr.B (Q':=λw=>(w.1=false→0≤x0.keys.epoch∧x0.keys.epoch≤4294967295∧x0.table.conns.length≤16∧x0.table.waiting.length≤16∧x0.halves.length≤64)) (Tr.C trivial λ_ _ _=>Tr.I (λ_=>Tr.R ?_) λ_=>Tr.C trivial λ_ _ _=>Tr.I (λ_=>Tr.R ?_) λ_=>Tr.C ?_ λ_ _ _=>Tr.I (λ_=>Tr.R ?_) λ_=>Tr.C ?_ λ_ _ _=>Tr.I (λ_=>Tr.R ?_) λ_=>Tr.C ?_ λ_ _ _=>Tr.I (λ_=>Tr.R ?_) λ_=>Tr.I (λ_=>Tr.R ?_) λ_=>Tr.V λ_ _=>Tr.R ?_) (λ(u7a0,_) _ _=>Tr.I (λ_=>Tr.R ?_) λ_=>Tr.L (KD ?_ ?_ ?_) (λ_ _=>Tr.Sr (Tr.R ?_)) (λ_ _=>Tr.Sl (Tr.R ?_)))
  all_goals ((try simp only[gu,LC.lp,LC.ct,Ct.lp,Tr.nice,bu]at*)<;>grind)⟩
noncomputable def tR:=aZ st Hp FM [(bx 0 nC gu)] (ks:=[.st .door]) qb (λv=>[(false,[.c (.bool v)])]) Tryz.func21 ⟨J5,trivial⟩
noncomputable def vf:FT (Stac×Int×Unit) (Int×List Entr×List MacRow×List MacRow×List Half×List Tupl) (λx=>kJ x.1∧x.1.door.table.conns=[]∧x.2.1≤9223372036854775807) (λx v=>sS v.2.1∧sL ay v.2.2.1∧sL ay v.2.2.2.1∧sS v.2.2.2.2.1∧sS v.2.2.2.2.2∧v.1≤9223372036854775807):=⟨λ(x0,x1,_)=>
  .cal yJ.c (x0.link,x1,()) λc1=>
  .cal yU.c (x0.door,c1.1,()) λc2=>
  .ret (c2.1,c1.2,c2.2.1,c2.2.2.1,c2.2.2.2.1,c2.2.2.2.2),
 λ(x0,x1,_) hp=>by
  refine Tr.C ?_ λ_ _ _=>Tr.C ?_ λ_ _ _=>Tr.R ?_
  all_goals (grind)⟩
noncomputable def KI:=cI st ⟨46,Tryz.f46,[],6⟩ [NG,N6] [] [.wr true [.c (.int .i64),.c (.int .i64),.own 0,.c (.int .i64),.c (.int .i64),.c (.int .i64),.c .bool,.c (.int .u64),.c (.int .u64),.own 1,.c .bool,.c (.int .u64),.c (.int .u64),.own 2,.c .bool,.c (.int .i64),.c (.int .i64),.c (.int .i64),.c (.int .i64),.own 3,.own 4,.own 5,.c (.int .i64)],.sc (.int .i64)] [.arr .entr,.arr .macRow,.arr .macRow,.arr .half,.arr .conn,.arr .tupl] (λx y=>((⟨⟨x.1.1,x.1.2.1,y.1⟩,⟨x.1.2.2.1,x.1.2.2.2.1,⟨x.1.2.2.2.2.1,⟨x.1.2.2.2.2.2.1,x.1.2.2.2.2.2.2.1,x.1.2.2.2.2.2.2.2.1,y.2.1⟩,⟨x.1.2.2.2.2.2.2.2.2.1,x.1.2.2.2.2.2.2.2.2.2.1,x.1.2.2.2.2.2.2.2.2.2.2.1,y.2.2.1⟩,x.1.2.2.2.2.2.2.2.2.2.2.2.1⟩,⟨x.1.2.2.2.2.2.2.2.2.2.2.2.2.1,x.1.2.2.2.2.2.2.2.2.2.2.2.2.2.1,x.1.2.2.2.2.2.2.2.2.2.2.2.2.2.2.1,x.1.2.2.2.2.2.2.2.2.2.2.2.2.2.2.2.1⟩,y.2.2.2.1,⟨y.2.2.2.2.1,y.2.2.2.2.2.1⟩,x.1.2.2.2.2.2.2.2.2.2.2.2.2.2.2.2.2.1⟩⟩:Stac),x.2.1,())) vf (λv=>[(false,[.c (.int .i64 v.1)])]) (λx y v=>(v.2.1,v.2.2.1,v.2.2.2.1,v.2.2.2.2.1,(⟨⟨x.1.1,x.1.2.1,y.1⟩,⟨x.1.2.2.1,x.1.2.2.2.1,⟨x.1.2.2.2.2.1,⟨x.1.2.2.2.2.2.1,x.1.2.2.2.2.2.2.1,x.1.2.2.2.2.2.2.2.1,y.2.1⟩,⟨x.1.2.2.2.2.2.2.2.2.1,x.1.2.2.2.2.2.2.2.2.2.1,x.1.2.2.2.2.2.2.2.2.2.2.1,y.2.2.1⟩,x.1.2.2.2.2.2.2.2.2.2.2.2.1⟩,⟨x.1.2.2.2.2.2.2.2.2.2.2.2.2.1,x.1.2.2.2.2.2.2.2.2.2.2.2.2.2.1,x.1.2.2.2.2.2.2.2.2.2.2.2.2.2.2.1,x.1.2.2.2.2.2.2.2.2.2.2.2.2.2.2.2.1⟩,y.2.2.2.1,⟨y.2.2.2.2.1,y.2.2.2.2.2.1⟩,x.1.2.2.2.2.2.2.2.2.2.2.2.2.2.2.2.2.1⟩⟩:Stac).door.table.conns,v.2.2.2.2.2,())) Tryz.func46 (by kernel_rfl) trivial
noncomputable def qD:FT (Stac×Int×Unit) (Int) (λx=>kJ x.1∧x.2.1≤9223372036854775807) (λx v=>v≤9223372036854775807):=⟨λ(x0,x1,_)=>
  .cal yK.c (x0.link,x1,()) λc1=>
  .ite (decide (c1<0)) (.ret (-1))<|
  .cal x9.c (x0.door,c1,()) λc2=>
  .ite (decide (c2<0)) (.ret (-1))<|
  .ret c2,
 λ(x0,x1,_) hp=>by
  refine Tr.C ?_ λ_ _ _=>Tr.I (λ_=>Tr.R ?_) λ_=>Tr.C ?_ λ_ _ _=>Tr.I (λ_=>Tr.R ?_) λ_=>Tr.R ?_
  all_goals (grind)⟩
noncomputable def JU:=bi st Tryz.func47 [NP,NZ] (ks:=[.st .stac,.sc (.int .i64)]) qD (λv=>[(false,[.c (.int .i64 v)])])
noncomputable def au:FT (Tabl×Tupl×Unit) (Int) (λx=>wS x.1.conns) (λx v=> -1≤v∧v<x.1.conns.length):=⟨λ(x0,x1,_)=>
  .cal eC.c (x0.conns,x1,()) λc1=>
  .ret c1,
 λ(x0,x1,_) hp=>by
  refine Tr.C ?_ λ_ _ _=>Tr.R ?_
  all_goals (grind)⟩
noncomputable def iA:=bi st Tryz.func80 [mW] (ks:=[.st .tabl,.st .tupl]) au (λv=>[(false,[.c (.int .i64 v)])])
noncomputable def uS:=[Nc,tk,iA,Fe]
def mp:Sh:=⟨[zp 2 0,(29,false,[.sl .arg .conn]),zi 30,zi 31],[.box [.st .tabl [.sl .arg,.sl .arg]]]⟩
def lN:Sh:=⟨[zp 2 0,(49,false,[.sl .arg .tupl]),zi 50,zi 51],[.box [.st .tabl [.sl .arg,.sl .arg]]]⟩
noncomputable def vX:Fx:=⟨102,Tryz.f102,[(0,lb [2,29,30,31] [2,4]),(2,lb [2,49,50,51] [4]),(3000001,rA 0 27)],0⟩
noncomputable def ev (v0:List Conn)(v3:Tabl)(v2:Int)(a:Unit):Tr (Stp (Unit) ((Unit))):=
 .grd ((decide (0≤v2))&&(decide (v2<(v0.length:Int))))<|
 .cal bI.c ((v0.getD v2.toNat (Ty.zero .conn)),()) λc3=>
 .ite (!c3) (.ret (.out ()))<|
 .cal au.c (v3,(v0.getD v2.toNat (Ty.zero .conn)).tuple,()) λc4=>
 .ite (c4 != v2) (.ret (.out ()))<|
 .ret (.next ())
noncomputable def eu:mp.V→LC mp (Unit) ((Unit)) (((Unit))⊕(Int×Unit)):=λ(v0,v1,v2,v3,_)=>⟨v2,(),λv2 _=>(v0,v1,v2,v3,()),λv2 _=>(decide (v2<v1)),ev v0 v3,up,1,(Int.toNat (v1-v2)),.inl,λi a=> .inr (i,a),λ_ k w=>Sum.elim (λ_=>k .ret (Sh.enc ⟨[zp 2 0,zb 4],[.box [.st .tabl [.sl .arg,.sl .arg]]]⟩ (false,v3,()))) (λ_=>k (.exit 0) (Sh.enc ⟨[zp 2 0,zu 4],[.box [.st .tabl [.sl .arg,.sl .arg]]]⟩ (v3,()))) w⟩
theorem IA:LS Tryz.prog vX [0] (bx 0 mp eu):=aN st (ac uS) _ eu [] trivial
theorem Gu {v0:List Conn}{v1 v2:Int}{v3:Tabl}(h0:0≤v2)(h1:v1≤4611686018427387904)(h2:sL aa v0)(h3:bh v3)(h4:v1≤(v0.length:Int)):(eu (v0,v1,v2,v3,())).U v1 (λ_ _=>True) (λ_=>True):=
 LC.okU (i:=v2) (a:=()) (λ_ _=>rfl) (λ_=>rfl) rfl h0 h1 trivial λv2 _ hj hk hv=>by
  refine Tr.G2 ?_ λ_=>Tr.C ?_ λ_ _ _=>Tr.I (λ_=>Tr.Ro trivial) λ_=>Tr.C ?_ λ_ _ _=>Tr.Z (by kernel_rfl)
  all_goals (grind)
noncomputable def ez (v0:List Tupl)(v3:Tabl)(v2:Int)(a:Unit):Tr (Stp (Unit) ((Unit))):=
 .grd ((decide (0≤v2))&&(decide (v2<(v0.length:Int))))<|
 .cal au.c (v3,(v0.getD v2.toNat (Ty.zero .tupl)),()) λc6=>
 .ite (decide (c6<0)) (.ret (.out ()))<|
 .cal nM.c (v3.waiting,(v0.getD v2.toNat (Ty.zero .tupl)),()) λc7=>
 .ite (c7 != v2) (.ret (.out ()))<|
 .ret (.next ())
noncomputable def er:lN.V→LC lN (Unit) ((Unit)) (((Unit))⊕(Int×Unit)):=λ(v0,v1,v2,v3,_)=>⟨v2,(),λv2 _=>(v0,v1,v2,v3,()),λv2 _=>(decide (v2<v1)),ez v0 v3,up,1,(Int.toNat (v1-v2)),.inl,λi a=> .inr (i,a),λ_ k w=>Sum.elim (λ_=>k .ret (Sh.enc ⟨[zb 4],[]⟩ (false,()))) (λ_=>k (.exit 2) (Sh.enc ⟨[zu 4],[]⟩ ())) w⟩
theorem Gx:LS Tryz.prog vX [1] (bx 2 lN er):=aN st (ac uS) _ er [] trivial
theorem Gz {v0:List Tupl}{v1 v2:Int}{v3:Tabl}(h0:0≤v2)(h1:v1≤4611686018427387904)(h2:sS v0)(h3:bh v3)(h4:v1≤(v0.length:Int)):(er (v0,v1,v2,v3,())).U v1 (λ_ _=>True) (λ_=>True):=
 LC.okU (i:=v2) (a:=()) (λ_ _=>rfl) (λ_=>rfl) rfl h0 h1 trivial λv2 _ hj hk hv=>by
  refine Tr.G2 ?_ λ_=>Tr.C ?_ λ_ _ _=>Tr.I (λ_=>Tr.Ro trivial) λ_=>Tr.C ?_ λ_ _ _=>Tr.Z (by kernel_rfl)
  all_goals (grind)
noncomputable def ck:FT (Tabl×Limi×Unit) (Bool) (λx=>wS x.1.conns∧dP aa x.1.conns∧wS x.1.waiting) (λx v=>(v=true→x.1.conns.length≤16∧x.1.waiting.length≤16)):=⟨λ(x0,x1,_)=>
  .bnd (β:=Bool×Unit) (.cal fX.c (x1,()) λc1=>
   .ite (!c1) (.ret (true,()))<|
   .ite (decide (x1.conns<(x0.conns.length:Int))) (.ret (true,()))<|
   .ret ((decide (x1.waiting<(x0.waiting.length:Int))),())) λ(u2a0,_)=>
  .ite u2a0 (.ret false)<|
  .lp (eu (x0.conns,(x0.conns.length:Int),0,x0,())).lp λw5=> .sum w5 (λ_=>
  .ret false)<|
  λ_=>
  .lp (er (x0.waiting,(x0.waiting.length:Int),0,x0,())).lp λw8=> .sum w8 (λ_=>
  .ret false)<|
  λ_=>
  .ret true,
 λ(x0,x1,_) hp=>by
  refine Tr.B (Q':=λw=>(w.1=false→x1.halves≤64∧x1.waiting≤16∧x1.conns≤16)) (Tr.C trivial λ_ _ _=>Tr.I (λ_=>Tr.R ?_) λ_=>Tr.I (λ_=>Tr.R ?_) λ_=>Tr.R ?_) (λ(u2a0,_) _ _=>Tr.I (λ_=>Tr.R ?_) λ_=>Tr.L (Gu ?_ ?_ ?_ ?_ ?_) (λ_ _=>Tr.Sr (Tr.L (Gz ?_ ?_ ?_ ?_ ?_) (λ_ _=>Tr.Sr (Tr.R ?_)) (λ_ _=>Tr.Sl (Tr.R ?_)))) (λ_ _=>Tr.Sl (Tr.R ?_)))
  all_goals ((try simp only[eu,er,LC.lp,LC.ct,Ct.lp,Tr.nice,bu]at*)<;>grind)⟩
noncomputable def D4:=aZ st vX uS [(bx 0 mp eu),(bx 2 lN er)] (ks:=[.st .tabl,.st .limi]) ck (λv=>[(false,[.c (.bool v)])]) Tryz.func102 ⟨IA,Gx,trivial⟩
noncomputable def K0:=[Ql]
def oJ:Sh:=⟨[zs 1,zp 2 0,zi 5],[.box [.st .mac [.sl .arg]]]⟩
noncomputable def K5:Fx:=⟨164,Tryz.f164,[(0,lb [1,2,5] [4])],0⟩
noncomputable def tZ (v0:ax)(v2:Mac)(v1:Int)(a:Unit):Tr (Stp (Unit) ((Int))):=
 .grd ((decide (0≤v1))&&(decide (v1<(v2.rows.length:Int))))<|
 .ite ((v2.rows.getD v1.toNat (Ty.zero .macRow)).input==v0) (.grd ((decide (0≤v1))&&(decide (v1<(v2.rows.length:Int))))<|
  .ite (decide ((((v2.rows.getD v1.toNat (Ty.zero .macRow)).value).tmod 16777216)<0)) (.val (IntKind.wrap .i64 ((((v2.rows.getD v1.toNat (Ty.zero .macRow)).value).tmod 16777216)+16777216)) λe2=>
   .ret (.out e2))<|
  .ret (.out (((v2.rows.getD v1.toNat (Ty.zero .macRow)).value).tmod 16777216)))<|
 .ret (.next ())
noncomputable def iy:oJ.V→LC oJ (Unit) ((Int)) (((Int))⊕(Int×Unit)):=λ(v0,v1,v2,_)=>⟨v1,(),λv1 _=>(v0,v1,v2,()),λv1 _=>(decide (v1<(v2.rows.length:Int))),tZ v0 v2,up,1,(Int.toNat ((v2.rows.length:Int)-v1)),.inl,λi a=> .inr (i,a),λ_ k w=>Sum.elim (λp=>k .ret (Sh.enc ⟨[zi 4],[]⟩ (p,()))) (λ_=>k (.exit 0) (Sh.enc ⟨[zu 4],[]⟩ ())) w⟩
theorem L8:LS Tryz.prog K5 [0] (bx 0 oJ iy):=aN st (ac K0) _ iy [] trivial
theorem MB {v0:ax}{v1:Int}{v2:Mac}(h0:0≤v1)(h1:(v2.rows.length:Int)≤4611686018427387904):(iy (v0,v1,v2,())).U (v2.rows.length:Int) (λ_ _=>True) (λ_=>True):=
 LC.okU (i:=v1) (a:=()) (λ_ _=>rfl) (λ_=>rfl) rfl h0 h1 trivial λv1 _ hj hk hv=>by
  refine Tr.G2 ?_ λ_=>Tr.I (λ_=>Tr.G2 ?_ λ_=>Tr.Z (by kernel_rfl)) λ_=>Tr.Rn trivial
  all_goals (grind)
noncomputable def Fr:FT (Mac×ax×Unit) (Int) (λx=>bv x.1∧sS x.2.1) (λ_ _=>True):=⟨λ(x0,x1,_)=>
  .ite (!x0.use) (.cal wF.c (x0.k,x0.l,x1,()) λc1=>
   .ret (IntKind.wrap .i64 (c1.tmod 16777216)))<|
  .lp (iy (x1,0,x0,())).lp λw3=> .sum w3 (λp3a0=>
  .ret p3a0)<|
  λ_=>
  .ret 0,
 λ(x0,x1,_) hp=>by
  refine Tr.I (λ_=>Tr.C ?_ λ_ _ _=>Tr.R trivial) λ_=>Tr.L (MB ?_ ?_) (λ_ _=>Tr.Sr (Tr.R trivial)) (λp3a0 _=>Tr.Sl (Tr.R trivial))
  all_goals ((try simp only[iy,LC.lp,LC.ct,Ct.lp]at*)<;>grind)⟩
noncomputable def UA:=aZ st K5 K0 [(bx 0 oJ iy)] (ks:=[.st .mac,.sc .str]) Fr (λv=>[(false,[.c (.int .i64 v)])]) Tryz.func164 ⟨L8,trivial⟩
noncomputable def Ri:=[Ea,fw,wG,K1,Vb,Xo,pX]
def oh:An:=⟨⟨[],[],false,0⟩,⟨[2,4,5,6,7,8],[],false,0⟩,⟨[],[]⟩,[(.normal,⟨[zp 2 0,zp 4 1,(5,false,[.nil]),zi 6,zi 7,zp 8 2],[.box [.st .conn [.sl .arg]],.box [.st .conn [.nil .piec]],.box [.st .conn [.own 3]],.of false true]⟩)]⟩
noncomputable def O1:Fx:=⟨181,Tryz.f181,[(1000037,oh),(3000009,rA 0 37),(3000017,rA 0 68)],0⟩
noncomputable def nj:FT (Conn×Segm×Unit) (Conn×List Segm×Int) (λx=>aa x.1∧aj x.2.1) (λx v=>aa v.1∧sL aj v.2.1):=⟨λ(x0,x1,_)=>
  .cal sI.c (x0,x1,()) λc1=>
  .cal dj.c (x0,()) λc2=>
  .ite (c1==2) (.ret (({c2 with state:=8,timer:=0,tries:=0}:Conn),[],c1))<|
  .ite (c1==3) (.ite (c1==3) (.bnd (β:=Bool×Unit) (.ite (c1==4) (.ite (x0.state==7) (.val (bc.f (x1,1,())) λc3=>
       .ret (c3,()))<|
      .ret (false,()))<|
     .ret (false,())) λ(u4a0,_)=>
    .bnd (β:=WT oh.es) (.ite u4a0 (.ret (0,c1,x0,(⟨⟨0,0,0⟩,0,⟨0,[],0,false,false,false⟩,⟨0,[],[],0,false⟩,0,0,⟨0,0,false,false,0,0⟩,0,0⟩:Conn),({c2 with timer:=4}:Conn),()))<|
     .ret (0,c1,x0,(⟨⟨0,0,0⟩,0,⟨0,[],0,false,false,false⟩,⟨0,[],[],0,false⟩,0,0,⟨0,0,false,false,0,0⟩,0,0⟩:Conn),c2,())) λ(_,u5a1,u5a2,_,u5a4,_)=>
    .cal cC.c (u5a2,()) λc6=>
    .ret (u5a4,[c6],u5a1))<|
   .ite (c1==5) (.cal zB.c (x0,x1,()) λc7=>
    .ite (c7.state==8) (.ret (c7,[],c1))<|
    .cal dQ.c (c7,c7.window,()) λc8=>
    .bnd (β:=Bool×Unit) (.ite ((c8.2.length:Int)==0) (.cal aI.c (x1,()) λc9=>
      .ret ((c9 != 0),()))<|
     .ret (false,())) λ(u10a0,_)=>
    .ite u10a0 (.cal cC.c (c8.1,()) λc11=>
     .ret (c8.1,[c11],c1))<|
    .ret (c8.1,c8.2,c1))<|
   .ret (c2,[],c1))<|
  .ite (c1==4) (.bnd (β:=Bool×Unit) (.ite (c1==4) (.ite (x0.state==7) (.val (bc.f (x1,1,())) λc12=>
      .ret (c12,()))<|
     .ret (false,()))<|
    .ret (false,())) λ(u13a0,_)=>
   .bnd (β:=WT oh.es) (.ite u13a0 (.ret (0,c1,x0,(⟨⟨0,0,0⟩,0,⟨0,[],0,false,false,false⟩,⟨0,[],[],0,false⟩,0,0,⟨0,0,false,false,0,0⟩,0,0⟩:Conn),({c2 with timer:=4}:Conn),()))<|
    .ret (0,c1,x0,(⟨⟨0,0,0⟩,0,⟨0,[],0,false,false,false⟩,⟨0,[],[],0,false⟩,0,0,⟨0,0,false,false,0,0⟩,0,0⟩:Conn),c2,())) λ(_,u14a1,u14a2,_,u14a4,_)=>
   .cal cC.c (u14a2,()) λc15=>
   .ret (u14a4,[c15],u14a1))<|
  .ite (c1==5) (.cal zB.c (x0,x1,()) λc16=>
   .ite (c16.state==8) (.ret (c16,[],c1))<|
   .cal dQ.c (c16,c16.window,()) λc17=>
   .bnd (β:=Bool×Unit) (.ite ((c17.2.length:Int)==0) (.cal aI.c (x1,()) λc18=>
     .ret ((c18 != 0),()))<|
    .ret (false,())) λ(u19a0,_)=>
   .ite u19a0 (.cal cC.c (c17.1,()) λc20=>
    .ret (c17.1,[c20],c1))<|
   .ret (c17.1,c17.2,c1))<|
  .ret (c2,[],c1),
 λ(x0,x1,_) hp=>by
  refine Tr.C ?_ λ_ _ _=>Tr.C ?_ λ_ _ _=>Tr.I (λ_=>Tr.R ?_) λ_=>Tr.I (λ_=>Tr.I (λ_=>Tr.B (Q':=λ_=>True) (Tr.F (by kernel_rfl) trivial) (λ(u4a0,_) _ _=>Tr.B (Q':=λw=>aa w.2.2.1∧aa w.2.2.2.1∧aa w.2.2.2.2.1) (Tr.I (λ_=>Tr.R ?_) λ_=>Tr.R ?_) (λ(u5a0,u5a1,u5a2,u5a3,u5a4,_) _ _=>Tr.C ?_ λ_ _ _=>Tr.R ?_))) λ_=>Tr.I (λ_=>Tr.C ?_ λ_ _ _=>Tr.I (λ_=>Tr.R ?_) λ_=>Tr.C ?_ λ_ _ _=>Tr.B (Q':=λ_=>True) (Tr.I (λ_=>Tr.C ?_ λ_ _ _=>Tr.R trivial) λ_=>Tr.R trivial) (λ(u10a0,_) _ _=>Tr.I (λ_=>Tr.C ?_ λ_ _ _=>Tr.R ?_) λ_=>Tr.R ?_)) λ_=>Tr.R ?_) λ_=>Tr.I (λ_=>Tr.B (Q':=λ_=>True) (Tr.F (by kernel_rfl) trivial) (λ(u13a0,_) _ _=>Tr.B (Q':=λw=>aa w.2.2.1∧aa w.2.2.2.1∧aa w.2.2.2.2.1) (Tr.I (λ_=>Tr.R ?_) λ_=>Tr.R ?_) (λ(u14a0,u14a1,u14a2,u14a3,u14a4,_) _ _=>Tr.C ?_ λ_ _ _=>Tr.R ?_))) λ_=>Tr.I (λ_=>Tr.C ?_ λ_ _ _=>Tr.I (λ_=>Tr.R ?_) λ_=>Tr.C ?_ λ_ _ _=>Tr.B (Q':=λ_=>True) (Tr.I (λ_=>Tr.C ?_ λ_ _ _=>Tr.R trivial) λ_=>Tr.R trivial) (λ(u19a0,_) _ _=>Tr.I (λ_=>Tr.C ?_ λ_ _ _=>Tr.R ?_) λ_=>Tr.R ?_)) λ_=>Tr.R ?_
  all_goals ((try simp only[Tr.nice,bu]at*)<;>grind)⟩
noncomputable def De:=aZ st O1 Ri [] (ks:=[.st .conn,.st .segm]) nj (λv=>[(true,gO (.o true) v.1),(false,[sc (.o true) .segm v.2.1]),(false,[.c (.int .i64 v.2.2)])]) Tryz.func181 trivial
noncomputable def eN:FT (Tabl×Conn×Unit) (Tabl) (λx=>bh x.1∧aa x.2.1) (λx v=>bh v∧v.conns.length=x.1.conns.length):=⟨λ(x0,x1,_)=>
  .cal iD.c (x0,()) λc1=>
  .cal au.c (x0,x1.tuple,()) λc2=>
  .ite (decide (0≤c2)) (.cal dj.c (x1,()) λc3=>
   .grd ((decide (0≤c2))&&(decide (c2<(c1.conns.length:Int))))<|
   .ret (⟨(c1.conns.set c2.toNat c3),c1.waiting⟩:Tabl))<|
  .ret c1,
 λ(x0,x1,_) hp=>by
  refine Tr.C ?_ λ_ _ _=>Tr.C ?_ λ_ _ _=>Tr.I (λ_=>Tr.C ?_ λ_ _ _=>Tr.G2 ?_ λ_=>Tr.R ?_) λ_=>Tr.R ?_
  all_goals (grind)⟩
noncomputable def C1:=bi st Tryz.func182 [p0,iA,fw] (ks:=[.st .tabl,.st .conn]) eN (λv=>[(true,tJ (.o true) (.o true) v)])
noncomputable def aC:FT (List Half×Tupl×Unit) (Int) (λx=>wS x.1) (λx v=> -1≤v∧v<x.1.length):=⟨λ(x0,x1,_)=>
  .cal ey.c (x0,x1,()) λc1=>
  .ret c1,
 λ(x0,x1,_) hp=>by
  refine Tr.C ?_ λ_ _ _=>Tr.R ?_
  all_goals (grind)⟩
noncomputable def mj:=bi st Tryz.func183 [mX] (ks:=[.sc (.sl .half),.st .tupl]) aC (λv=>[(false,[.c (.int .i64 v)])])
noncomputable def ne:FT (List Half×Tupl×Unit) (List Half) (λx=>sS x.1) (λx v=>sS v):=⟨λ(x0,x1,_)=>
  .cal ep.c (x0,()) λc1=>
  .cal aC.c (x0,x1,()) λc2=>
  .ite (decide (0≤c2)) (.cal rl.c (c1,c2,(IntKind.wrap .i64 (c2+1)),()) λc3=>
   .ret (c3.2.take c3.1))<|
  .ret c1,
 λ(x0,x1,_) hp=>by
  refine Tr.C ?_ λ_ _ _=>Tr.C ?_ λ_ _ _=>Tr.I (λ_=>Tr.C ?_ λ_ _ _=>Tr.R ?_) λ_=>Tr.R ?_
  all_goals (grind)⟩
noncomputable def AH:=bi st Tryz.func184 [ql,mj,EE] (ks:=[.sc (.sl .half),.st .tupl]) ne (λv=>[(false,[sc (.o true) .half v])])
noncomputable def lv:FT (Tabl×Conn×Limi×Unit) (Tabl×Bool) (λx=>bh x.1∧aa x.2.1) (λx v=>bh v.1∧v.1.conns.length≤max x.1.conns.length 16∧v.1.waiting.length≤max x.1.waiting.length 16∧x.1.conns.length≤v.1.conns.length):=⟨λ(x0,x1,x2,_)=>
  .cal iD.c (x0,()) λc1=>
  .cal dj.c (x1,()) λc2=>
  .grd (Nat.ble ((2*(c1.conns.length+1)+1024)*208) aF)<|
  .grd (Nat.ble ((2*(c1.waiting.length+1)+1024)*24) aF)<|
  .cal ck.c ((⟨(c1.conns++[c2]),(c1.waiting++[x1.tuple])⟩:Tabl),x2,()) λc3=>
  .ite (!c3) (.cal iD.c (x0,()) λc4=>
   .ret (c4,false))<|
  .ret ((⟨(c1.conns++[c2]),(c1.waiting++[x1.tuple])⟩:Tabl),true),
 λ(x0,x1,x2,_) hp=>by
  refine Tr.C ?_ λ_ _ _=>Tr.C ?_ λ_ _ _=>Tr.Gb ?_ λ_=>Tr.Gb ?_ λ_=>Tr.C ?_ λ_ _ _=>Tr.I (λ_=>Tr.C ?_ λ_ _ _=>Tr.R ?_) λ_=>Tr.R ?_
  all_goals (grind)⟩
noncomputable def Rj:=bi st Tryz.func307 [p0,fw,D4] (ks:=[.st .tabl,.st .conn,.st .limi]) lv (λv=>[(true,tJ (.o true) (.o true) v.1),(false,[.c (.bool v.2)])])
noncomputable def QE:=[dK,CZ,wh,wx,VK,zy,pQ]
def oi:An:=⟨⟨[],[],false,0⟩,⟨[2,3,4,5,6,7,8,9],[],false,0⟩,⟨[],[]⟩,[(.normal,⟨[zp 2 0,zp 3 1,zp 4 2,(5,false,[.nil]),zi 6,zp 7 3,(8,false,[.own 4]),zi 9],[.box [.st .conn [.sl .arg]],.box [.st .segm []],.box [.st .conn [.nil .piec]],.box [.st .conn [.own 5]],.arr .segm false true,.of false true]⟩)]⟩
noncomputable def Pu:Fx:=⟨310,Tryz.f310,[(1000046,oi),(3000014,rA 0 46),(3000022,rA 0 78)],0⟩
noncomputable def pq:FT (Conn×Segm×Unit) (Conn×List Segm×Int) (λx=>aa x.1∧aj x.2.1) (λx v=>aa v.1∧sL aj v.2.1):=⟨λ(x0,x1,_)=>
  .cal dI.c (x0,()) λc1=>
  .cal sH.c (x0,x1,()) λc2=>
  .ite (c2==1) (.ret (c1,[],c2))<|
  .ite (c2==2) (.ret (({c1 with state:=8,timer:=0,tries:=0}:Conn),[],c2))<|
  .ite (c2==3) (.ite (c2==3) (.bnd (β:=Bool×Unit) (.ite (c2==4) (.ite (x0.state==7) (.val (gJ.f (x1,1,())) λc3=>
       .ret (c3,()))<|
      .ret (false,()))<|
     .ret (false,())) λ(u4a0,_)=>
    .bnd (β:=WT oi.es) (.ite u4a0 (.ret (0,c2,x0,x1,(⟨⟨0,0,0⟩,0,⟨0,[],0,false,false,false⟩,⟨0,[],[],0,false⟩,0,0,⟨0,0,false,false,0,0⟩,0,0⟩:Conn),({c1 with timer:=4}:Conn),[],()))<|
     .ret (0,c2,x0,x1,(⟨⟨0,0,0⟩,0,⟨0,[],0,false,false,false⟩,⟨0,[],[],0,false⟩,0,0,⟨0,0,false,false,0,0⟩,0,0⟩:Conn),c1,[],())) λ(_,u5a1,u5a2,_,_,u5a5,_,_)=>
    .cal j6.c (u5a2,()) λc6=>
    .ret (u5a5,[c6],u5a1))<|
   .cal AE.c (x0,x1,()) λc7=>
   .ite (c7.state==8) (.ret (c7,[],c2))<|
   .cal j6.c (c7,()) λc8=>
   .cal mS.c (c7,c7.window,()) λc9=>
   .bnd (β:=Bool×Unit) (.cal ij.c (x1,()) λc10=>
    .ite (decide (0<c10)) (.ret (((c9.2.length:Int)==0),()))<|
    .ret (false,())) λ(u11a0,_)=>
   .ite u11a0 (.grd (Nat.ble ((2*(c9.2.length+1)+1024)*104) aF)<|
    .ret (c9.1,(c9.2++[c8]),c2))<|
   .ret (c9.1,c9.2,c2))<|
  .ite (c2==4) (.bnd (β:=Bool×Unit) (.ite (c2==4) (.ite (x0.state==7) (.val (gJ.f (x1,1,())) λc12=>
      .ret (c12,()))<|
     .ret (false,()))<|
    .ret (false,())) λ(u13a0,_)=>
   .bnd (β:=WT oi.es) (.ite u13a0 (.ret (0,c2,x0,x1,(⟨⟨0,0,0⟩,0,⟨0,[],0,false,false,false⟩,⟨0,[],[],0,false⟩,0,0,⟨0,0,false,false,0,0⟩,0,0⟩:Conn),({c1 with timer:=4}:Conn),[],()))<|
    .ret (0,c2,x0,x1,(⟨⟨0,0,0⟩,0,⟨0,[],0,false,false,false⟩,⟨0,[],[],0,false⟩,0,0,⟨0,0,false,false,0,0⟩,0,0⟩:Conn),c1,[],())) λ(_,u14a1,u14a2,_,_,u14a5,_,_)=>
   .cal j6.c (u14a2,()) λc15=>
   .ret (u14a5,[c15],u14a1))<|
  .cal AE.c (x0,x1,()) λc16=>
  .ite (c16.state==8) (.ret (c16,[],c2))<|
  .cal j6.c (c16,()) λc17=>
  .cal mS.c (c16,c16.window,()) λc18=>
  .bnd (β:=Bool×Unit) (.cal ij.c (x1,()) λc19=>
   .ite (decide (0<c19)) (.ret (((c18.2.length:Int)==0),()))<|
   .ret (false,())) λ(u20a0,_)=>
  .ite u20a0 (.grd (Nat.ble ((2*(c18.2.length+1)+1024)*104) aF)<|
   .ret (c18.1,(c18.2++[c17]),c2))<|
  .ret (c18.1,c18.2,c2),
 λ(x0,x1,_) hp=>by
  refine Tr.C ?_ λ_ _ _=>Tr.C ?_ λ_ _ _=>Tr.I (λ_=>Tr.R ?_) λ_=>Tr.I (λ_=>Tr.R ?_) λ_=>Tr.I (λ_=>Tr.I (λ_=>Tr.B (Q':=λ_=>True) (Tr.F (by kernel_rfl) trivial) (λ(u4a0,_) _ _=>Tr.B (Q':=λw=>aa w.2.2.1∧aj w.2.2.2.1∧aa w.2.2.2.2.1∧aa w.2.2.2.2.2.1∧sL aj w.2.2.2.2.2.2.1) (Tr.I (λ_=>Tr.R ?_) λ_=>Tr.R ?_) (λ(u5a0,u5a1,u5a2,u5a3,u5a4,u5a5,u5a6,_) _ _=>Tr.C ?_ λ_ _ _=>Tr.R ?_))) λ_=>Tr.C ?_ λ_ _ _=>Tr.I (λ_=>Tr.R ?_) λ_=>Tr.C ?_ λ_ _ _=>Tr.C ?_ λ_ _ _=>Tr.B (Q':=λ_=>True) (Tr.C ?_ λ_ _ _=>Tr.F (by kernel_rfl) trivial) (λ(u11a0,_) _ _=>Tr.I (λ_=>Tr.Gb ?_ λ_=>Tr.R ?_) λ_=>Tr.R ?_)) λ_=>Tr.I (λ_=>Tr.B (Q':=λ_=>True) (Tr.F (by kernel_rfl) trivial) (λ(u13a0,_) _ _=>Tr.B (Q':=λw=>aa w.2.2.1∧aj w.2.2.2.1∧aa w.2.2.2.2.1∧aa w.2.2.2.2.2.1∧sL aj w.2.2.2.2.2.2.1) (Tr.I (λ_=>Tr.R ?_) λ_=>Tr.R ?_) (λ(u14a0,u14a1,u14a2,u14a3,u14a4,u14a5,u14a6,_) _ _=>Tr.C ?_ λ_ _ _=>Tr.R ?_))) λ_=>Tr.C ?_ λ_ _ _=>Tr.I (λ_=>Tr.R ?_) λ_=>Tr.C ?_ λ_ _ _=>Tr.C ?_ λ_ _ _=>Tr.B (Q':=λ_=>True) (Tr.C ?_ λ_ _ _=>Tr.F (by kernel_rfl) trivial) (λ(u20a0,_) _ _=>Tr.I (λ_=>Tr.Gb ?_ λ_=>Tr.R ?_) λ_=>Tr.R ?_)
  all_goals ((try simp only[Tr.nice,bu]at*)<;>grind)⟩
noncomputable def vO:=aZ st Pu QE [] (ks:=[.st .conn,.st .segm]) pq (λv=>[(true,gO (.o true) v.1),(false,[sc (.o true) .segm v.2.1]),(false,[.c (.int .i64 v.2.2)])]) Tryz.func310 trivial
noncomputable def ld:FT (Door×Tupl×Segm×Unit) (Bool) (λx=>am x.1∧aj x.2.2.1) (λ_ _=>True):=⟨λ(x0,x1,x2,_)=>
  .cal qb.c (x0,()) λc1=>
  .ite c1 (.cal lD.c (x1,()) λc2=>
   .ite c2 (.cal lu.c (x2,()) λc3=>
    .ret c3)<|
   .ret false)<|
  .ret false,
 λ(x0,x1,x2,_) hp=>by
  refine Tr.C ?_ λ_ _ _=>Tr.I (λ_=>Tr.C trivial λ_ _ _=>Tr.I (λ_=>Tr.C trivial λ_ _ _=>Tr.R trivial) λ_=>Tr.R trivial) λ_=>Tr.R trivial
  all_goals (grind)⟩
noncomputable def z6:=bi st Tryz.func311 [tR,n9,rh] (ks:=[.st .door,.st .tupl,.st .segm]) ld (λv=>[(false,[.c (.bool v)])])
noncomputable def pU:FT (Door×Conn×Segm×Int×Unit) (Door×List Segm×Int) (λx=>am x.1∧aa x.2.1∧aj x.2.2.1) (λx v=>am v.1∧sL aj v.2.1):=⟨λ(x0,x1,x2,x3,_)=>
  .cal dh.c (x0,()) λc1=>
  .cal pc.c (x0.table,x1,x0.limits,()) λc2=>
  .ite (!c2.2) (.ret (c1,[],0))<|
  .cal pq.c (x1,x2,()) λc3=>
  .cal wL.c (c2.1,c3.1,()) λc4=>
  .cal py.c (c1.halves,x1.tuple,()) λc5=>
  .ret (({c1 with halves:=c5,table.conns:=c4.conns,table.waiting:=c4.waiting}:Door),c3.2.1,x3),
 λ(x0,x1,x2,x3,_) hp=>by
  refine Tr.C ?_ λ_ _ _=>Tr.C ?_ λ_ _ _=>Tr.I (λ_=>Tr.R ?_) λ_=>Tr.C ?_ λ_ _ _=>Tr.C ?_ λ_ _ _=>Tr.C ?_ λ_ _ _=>Tr.R ?_
  all_goals (grind)⟩
noncomputable def SU:=bi st Tryz.func314 [g9,DT,vO,OH,zq] (ks:=[.st .door,.st .conn,.st .segm,.sc (.int .i64)]) pU (λv=>[(true,ji (.o true) (.o true) (.o true) (.o true) (.o true) v.1),(false,[sc (.o true) .segm v.2.1]),(false,[.c (.int .i64 v.2.2)])])
noncomputable def CU:=[Tt]
def mr:Sh:=⟨[(0,false,[.sl .arg .conn]),(1,false,[.sl .arg .conn]),zi 5],[]⟩
noncomputable def DA:Fx:=⟨357,Tryz.f357,[(0,lb [0,1,5] [4])],0⟩
noncomputable def uP (v0 v1:List Conn)(v2:Int)(a:Unit):Tr (Stp (Unit) ((Unit))):=
 .grd ((decide (0≤v2))&&(decide (v2<(v0.length:Int))))<|
 .grd ((decide (0≤v2))&&(decide (v2<(v1.length:Int))))<|
 .cal A5.c ((v0.getD v2.toNat (Ty.zero .conn)),(v1.getD v2.toNat (Ty.zero .conn)),()) λc1=>
 .ite (!c1) (.ret (.out ()))<|
 .ret (.next ())
noncomputable def fO:mr.V→LC mr (Unit) ((Unit)) (((Unit))⊕(Int×Unit)):=λ(v0,v1,v2,_)=>⟨v2,(),λv2 _=>(v0,v1,v2,()),λv2 _=>(decide (v2<(v0.length:Int))),uP v0 v1,up,1,(Int.toNat ((v0.length:Int)-v2)),.inl,λi a=> .inr (i,a),λ_ k w=>Sum.elim (λ_=>k .ret (Sh.enc ⟨[zb 4],[]⟩ (false,()))) (λ_=>k (.exit 0) (Sh.enc ⟨[zu 4],[]⟩ ())) w⟩
theorem Ih:LS Tryz.prog DA [0] (bx 0 mr fO):=aN st (ac CU) _ fO [] trivial
theorem FP {v0 v1:List Conn}{v2:Int}(h0:0≤v2)(h1:(v0.length:Int)≤4611686018427387904)(h2:sL aa v0)(h3:sL aa v1)(h4:(v0.length:Int)≤(v1.length:Int)):(fO (v0,v1,v2,())).U (v0.length:Int) (λ_ _=>True) (λ_=>True):=
 LC.okU (i:=v2) (a:=()) (λ_ _=>rfl) (λ_=>rfl) rfl h0 h1 trivial λv2 _ hj hk hv=>by
  refine Tr.G2 ?_ λ_=>Tr.G2 ?_ λ_=>Tr.C ?_ λ_ _ _=>Tr.Z (by kernel_rfl)
  all_goals (grind)
noncomputable def wz:FT (List Conn×List Conn×Unit) (Bool) (λx=>sL aa x.1∧sL aa x.2.1) (λ_ _=>True):=⟨λ(x0,x1,_)=>
  .ite ((x0.length:Int) != (x1.length:Int)) (.ret false)<|
  .lp (fO (x0,x1,0,())).lp λw2=> .sum w2 (λ_=>
  .ret false)<|
  λ_=>
  .ret true,
 λ(x0,x1,_) hp=>by
  refine Tr.I (λ_=>Tr.R trivial) λ_=>Tr.L (FP ?_ ?_ ?_ ?_ ?_) (λ_ _=>Tr.Sr (Tr.R trivial)) (λ_ _=>Tr.Sl (Tr.R trivial))
  all_goals ((try simp only[fO,LC.lp,LC.ct,Ct.lp]at*)<;>grind)⟩
noncomputable def ON:=aZ st DA CU [(bx 0 mr fO)] (ks:=[.sc (.sl .conn),.sc (.sl .conn)]) wz (λv=>[(false,[.c (.bool v)])]) Tryz.func357 ⟨Ih,trivial⟩
noncomputable def K4:=[QL]
def oB:Sh:=⟨[zs 1,(19,false,[.sl .arg .macRow]),zi 20,zi 21],[]⟩
noncomputable def LH:Fx:=⟨430,Tryz.f430,[(0,lb [1,19,20,21] [4])],0⟩
noncomputable def jU (v0:ax)(v1:List MacRow)(v3:Int)(a:Unit):Tr (Stp (Unit) ((Int))):=
 .grd ((decide (0≤v3))&&(decide (v3<(v1.length:Int))))<|
 .ite ((v1.getD v3.toNat (Ty.zero .macRow)).input==v0) (.val (IntKind.wrap .i64 ((((v1.getD v3.toNat (Ty.zero .macRow)).value).tmod 16777216)+16777216)) λe2=>
  .ret (.out (e2.tmod 16777216)))<|
 .ret (.next ())
noncomputable def gm:oB.V→LC oB (Unit) ((Int)) (((Int))⊕(Int×Unit)):=λ(v0,v1,v2,v3,_)=>⟨v3,(),λv3 _=>(v0,v1,v2,v3,()),λv3 _=>(decide (v3<v2)),jU v0 v1,up,1,(Int.toNat (v2-v3)),.inl,λi a=> .inr (i,a),λ_ k w=>Sum.elim (λp=>k .ret (Sh.enc ⟨[zi 4],[]⟩ (p,()))) (λ_=>k (.exit 0) (Sh.enc ⟨[zu 4],[]⟩ ())) w⟩
theorem Nl:LS Tryz.prog LH [0] (bx 0 oB gm):=aN st (ac K4) _ gm [] trivial
theorem MY {v0:ax}{v1:List MacRow}{v2 v3:Int}(h0:0≤v3)(h1:v2≤4611686018427387904)(h2:v2≤(v1.length:Int)):(gm (v0,v1,v2,v3,())).U v2 (λ_ _=>True) (λ_=>True):=
 LC.okU (i:=v3) (a:=()) (λ_ _=>rfl) (λ_=>rfl) rfl h0 h1 trivial λv3 _ hj hk hv=>by
  refine Tr.G2 ?_ λ_=>Tr.Z (by kernel_rfl)
  all_goals (grind)
noncomputable def oA:FT (Mac×ax×Unit) (Int) (λx=>bv x.1∧sS x.2.1) (λ_ _=>True):=⟨λ(x0,x1,_)=>
  .ite (!x0.use) (.cal m6.c (x0.k,x0.l,x1,()) λc1=>
   .ret (IntKind.wrap .i64 (c1.tmod 16777216)))<|
  .lp (gm (x1,x0.rows,(x0.rows.length:Int),0,())).lp λw3=> .sum w3 (λp3a0=>
  .ret p3a0)<|
  λ_=>
  .ret 0,
 λ(x0,x1,_) hp=>by
  refine Tr.I (λ_=>Tr.C ?_ λ_ _ _=>Tr.R trivial) λ_=>Tr.L (MY ?_ ?_ ?_) (λ_ _=>Tr.Sr (Tr.R trivial)) (λp3a0 _=>Tr.Sl (Tr.R trivial))
  all_goals ((try simp only[gm,LC.lp,LC.ct,Ct.lp]at*)<;>grind)⟩
noncomputable def Va:=aZ st LH K4 [(bx 0 oB gm)] (ks:=[.st .mac,.sc .str]) oA (λv=>[(false,[.c (.int .i64 v)])]) Tryz.func430 ⟨Nl,trivial⟩
noncomputable def kA:FT (Curs×Unit) (Int×Curs) (λx=>ae x.1) (λx v=>ae v.2∧0≤v.1∧v.1≤255):=⟨λ(y0,_)=>
  .val (IntKind.wrap .i64 ((IntKind.wrap .i64 (y0.h*6364136223846793005))+1442695040888963407)) λe1=>
  .val (bits .and .i64 (bits .xor .i64 (e1.fdiv 8589934592) (e1.fdiv 35184372088832)) 255) λe2=>
  .ite (decide (y0.i<(y0.b.length:Int))) (.grd ((decide (0≤y0.i))&&(decide (y0.i<(y0.b.length:Int))))<|
   .val (IntKind.wrap .i64 (e2+(IntKind.wrap .i64 (y0.b.getD y0.i.toNat 0)))) λe3=>
   .ret ((bits .and .i64 e3 255),(⟨y0.b,(IntKind.wrap .i64 (y0.i+1)),e1⟩:Curs)))<|
  .ret (e2,({y0 with h:=e1}:Curs)),
 λ(y0,_) hp=>by
  refine Tr.V λ_ _=>Tr.V λ_ _=>Tr.I (λ_=>Tr.G2 ?_ λ_=>Tr.V λ_ _=>Tr.R ?_) λ_=>Tr.R ?_
  all_goals (grind)⟩
noncomputable def th:=cI st ⟨170,Tryz.f170,[],1⟩ [] [] [.wr false [.ptr 0]] [.box [.st .curs]] (λx y=>(y.1.1,())) kA (λv=>[(false,[.c (.int .i64 v.1)])]) (λx y v=>((v.2,()),())) Tryz.func170 (by kernel_rfl) trivial
noncomputable def BI:FT (MacRow×MacRow×Unit) (Bool) (λ_=>True) (λ_ _=>True):=⟨λ(x0,y1,_)=>
  .ret (x0.input==y1.input),
 λ(x0,y1,_) hp=>by
  refine Tr.R trivial⟩
noncomputable def Px:=cI st ⟨321,Tryz.f321,[],1⟩ [] [] [.st .macRow,.wr false [.ptr 0]] [.box [.st .macRow]] (λx y=>(x.1,y.1.1,())) BI (λv=>[(false,[.c (.bool v)])]) (λx y v=>((y.1.1,()),())) Tryz.func321 (by kernel_rfl) trivial
noncomputable def gV:=[Px]
def cb:Sh:=⟨[(0,false,[.sl .arg .macRow]),(1,false,[.fn 321 [0]]),zi 7,zi 8],[.box [.st .macRow []]]⟩
noncomputable def gU:Fx:=⟨404,Tryz.f404,[(0,la ⟨[0,1,7,8],[],false,1⟩ ⟨[4],[],false,1⟩)],1⟩
noncomputable def gf (v0:List MacRow)(v3:MacRow)(v2:Int)(a:Unit):Tr (Stp (Unit) ((Int))):=
 .grd ((decide (0≤v2))&&(decide (v2<(v0.length:Int))))<|
 .cal BI.c ((v0.getD v2.toNat (Ty.zero .macRow)),v3,()) λc1=>
 .ite c1 (.ret (.out v2))<|
 .ret (.next ())
noncomputable def aR:cb.V→LC cb (Unit) ((Int)) (((Int))⊕(Int×Unit)):=λ(v0,v1,v2,v3,_)=>⟨v2,(),λv2 _=>(v0,v1,v2,v3,()),λv2 _=>(decide (v2<v1)),gf v0 v3,up,1,(Int.toNat (v1-v2)),.inl,λi a=> .inr (i,a),λ_ k w=>Sum.elim (λp=>k .ret (Sh.enc ⟨[zi 4],[.box [.st .macRow []]]⟩ (p,v3,()))) (λ_=>k (.exit 0) (Sh.enc ⟨[zu 4],[.box [.st .macRow []]]⟩ (v3,()))) w⟩
theorem lH:LS Tryz.prog gU [0] (bx 0 cb aR):=aN st (ac gV) _ aR [] trivial
theorem lI {v0:List MacRow}{v1 v2:Int}{v3:MacRow}(h0:0≤v2)(h1:v1≤4611686018427387904)(h2:v1≤(v0.length:Int)):(aR (v0,v1,v2,v3,())).U v1 (λ_ _=>True) (λp=>v2≤p∧p<v1):=
 LC.okU (i:=v2) (a:=()) (λ_ _=>rfl) (λ_=>rfl) rfl h0 h1 trivial λv2 _ hj hk hv=>by
  refine Tr.G2 ?_ λ_=>Tr.C trivial λ_ _ _=>Tr.I (λ_=>Tr.Ro ?_) λ_=>Tr.Rn trivial
  all_goals (grind)
noncomputable def fa:FT (List MacRow×MacRow×Unit) (Int) (λx=>wS x.1) (λx v=> -1≤v∧v<x.1.length):=⟨λ(x0,y1_0,_)=>
  .lp (aR (x0,(x0.length:Int),0,y1_0,())).lp λw2=> .sum w2 (λp2a0=>
  .ret p2a0)<|
  λ_=>
  .ret (-1),
 λ(x0,y1_0,_) hp=>by
  refine Tr.L (lI ?_ ?_ ?_) (λ_ _=>Tr.Sr (Tr.R ?_)) (λp2a0 _=>Tr.Sl (Tr.R ?_))
  all_goals ((try simp only[aR,LC.lp,LC.ct,Ct.lp]at*)<;>grind)⟩
noncomputable def nn:=cI st gU gV [(bx 0 cb aR)] [.sc (.sl .macRow),.fn 321 [0]] [.box [.st .macRow]] (λx y=>(x.1,y.1.1,())) fa (λv=>[(false,[.c (.int .i64 v)])]) (λx y v=>((y.1.1,()),())) Tryz.func404 (by kernel_rfl) ⟨lH,trivial⟩
noncomputable def su:FT (Stac×Unit) (Bool) (λx=>kJ x.1) (λx v=>(v=true→x.1.door.table.conns.length≤16)):=⟨λ(x0,_)=>
  .cal Av.c (x0.link,()) λc1=>
  .ite c1 (.cal qb.c (x0.door,()) λc2=>
   .ret c2)<|
  .ret false,
 λ(x0,_) hp=>by
  refine Tr.C ?_ λ_ _ _=>Tr.I (λ_=>Tr.C ?_ λ_ _ _=>Tr.R ?_) λ_=>Tr.R ?_
  all_goals (grind)⟩
noncomputable def Qg:=bi st Tryz.func13 [RB,tR] (ks:=[.st .stac]) su (λv=>[(false,[.c (.bool v)])])
noncomputable def sX:FT (Int×Int×Int×Limi×Mac×Unit) (Stac×Bool) (λx=>bv x.2.2.2.2.1) (λx v=>kJ v.1):=⟨λ(x0,x1,x2,x3,x4,_)=>
  .cal jh.c (x4,()) λc1=>
  .cal su.c ((⟨⟨x0,x1,[]⟩,⟨x2,0,⟨0,c1,⟨false,0,0,[]⟩,false⟩,x3,[],⟨[],[]⟩,0⟩⟩:Stac),()) λc2=>
  .ite (!c2) (.ret ((⟨⟨0,0,[]⟩,⟨0,0,⟨0,⟨false,0,0,[]⟩,⟨false,0,0,[]⟩,false⟩,⟨0,0,0,0⟩,[],⟨[],[]⟩,0⟩⟩:Stac),false))<|
  .ret ((⟨⟨x0,x1,[]⟩,⟨x2,0,⟨0,c1,⟨false,0,0,[]⟩,false⟩,x3,[],⟨[],[]⟩,0⟩⟩:Stac),true),
 λ(x0,x1,x2,x3,x4,_) hp=>by
  refine Tr.C ?_ λ_ _ _=>Tr.C ?_ λ_ _ _=>Tr.I (λ_=>Tr.R ?_) λ_=>Tr.R ?_
  all_goals (grind)⟩
noncomputable def Mr:=bi st Tryz.func39 [qK,Qg] (ks:=[.sc (.int .i64),.sc (.int .i64),.sc (.int .i64),.st .limi,.st .mac]) sX (λv=>[(true,V0 (.o true) (.o true) (.o true) (.o true) (.o true) (.o true) v.1),(false,[.c (.bool v.2)])])
noncomputable def pR:FT (Mac×Tupl×Int×Int×Int×Unit) (Int) (λx=>bv x.1) (λ_ _=>True):=⟨λ(x0,x1,x2,x3,x4,_)=>
  .cal tV.c (x1,x2,x3,x4,()) λc1=>
  .ite (c1==[]) (.ret (-1))<|
  .val (IntKind.wrap .i64 ((IntKind.wrap .i64 ((x3.tmod 32)*134217728))+(IntKind.wrap .i64 (x4*16777216)))) λe2=>
  .cal Fr.c (x0,c1,()) λc3=>
  .ret (IntKind.wrap .i64 (e2+c3)),
 λ(x0,x1,x2,x3,x4,_) hp=>by
  refine Tr.C trivial λ_ _ _=>Tr.I (λ_=>Tr.R trivial) λ_=>Tr.V λ_ _=>Tr.C ?_ λ_ _ _=>Tr.R trivial
  all_goals (grind)⟩
noncomputable def AK:=bi st Tryz.func68 [N1,UA] (ks:=[.st .mac,.st .tupl,.sc (.int .i64),.sc (.int .i64),.sc (.int .i64)]) pR (λv=>[(false,[.c (.int .i64 v)])])
noncomputable def z4:=[lG,cx,kB,bV,mj]
def kV:Sh:=⟨[(0,false,[.sl .arg .half]),(8,false,[.sl .arg .half]),zi 9,zi 10],[]⟩
noncomputable def zX:Fx:=⟨103,Tryz.f103,[(0,lb [0,8,9,10] [2])],0⟩
noncomputable def og (v0 v1:List Half)(v3:Int)(a:Unit):Tr (Stp (Unit) ((Unit))):=
 .grd ((decide (0≤v3))&&(decide (v3<(v1.length:Int))))<|
 .cal aD.c ((v1.getD v3.toNat (Ty.zero .half)).tuple,()) λc1=>
 .ite (!c1) (.ret (.out ()))<|
 .cal ai.c ((v1.getD v3.toNat (Ty.zero .half)).iss,32,()) λc2=>
 .ite (!c2) (.ret (.out ()))<|
 .cal ai.c ((v1.getD v3.toNat (Ty.zero .half)).irs,32,()) λc3=>
 .ite (!c3) (.ret (.out ()))<|
 .cal ai.c ((v1.getD v3.toNat (Ty.zero .half)).window,16,()) λc4=>
 .ite (!c4) (.ret (.out ()))<|
 .cal aq.c ((v1.getD v3.toNat (Ty.zero .half)).opts,()) λc5=>
 .ite (!c5) (.ret (.out ()))<|
 .val (bo.f ((v1.getD v3.toNat (Ty.zero .half)).age,0,6,())) λc6=>
 .ite (!c6) (.ret (.out ()))<|
 .cal aC.c (v0,(v1.getD v3.toNat (Ty.zero .half)).tuple,()) λc7=>
 .ite (c7 != v3) (.ret (.out ()))<|
 .ret (.next ())
noncomputable def fb:kV.V→LC kV (Unit) ((Unit)) (((Unit))⊕(Int×Unit)):=λ(v0,v1,v2,v3,_)=>⟨v3,(),λv3 _=>(v0,v1,v2,v3,()),λv3 _=>(decide (v3<v2)),og v0 v1,up,1,(Int.toNat (v2-v3)),.inl,λi a=> .inr (i,a),λ_ k w=>Sum.elim (λ_=>k .ret (Sh.enc ⟨[zb 2],[]⟩ (false,()))) (λ_=>k (.exit 0) (Sh.enc ⟨[zu 2],[]⟩ ())) w⟩
theorem EH:LS Tryz.prog zX [0] (bx 0 kV fb):=aN st (ac z4) _ fb [] trivial
theorem EY {v0 v1:List Half}{v2 v3:Int}(h0:0≤v3)(h1:v2≤4611686018427387904)(h2:wS v0)(h3:v2≤(v1.length:Int)):(fb (v0,v1,v2,v3,())).U v2 (λ_ _=>True) (λ_=>True):=
 LC.okU (i:=v3) (a:=()) (λ_ _=>rfl) (λ_=>rfl) rfl h0 h1 trivial λv3 _ hj hk hv=>by
  refine Tr.G2 ?_ λ_=>Tr.C trivial λ_ _ _=>Tr.I (λ_=>Tr.Ro trivial) λ_=>Tr.C trivial λ_ _ _=>Tr.I (λ_=>Tr.Ro trivial) λ_=>Tr.C trivial λ_ _ _=>Tr.I (λ_=>Tr.Ro trivial) λ_=>Tr.C trivial λ_ _ _=>Tr.I (λ_=>Tr.Ro trivial) λ_=>Tr.C trivial λ_ _ _=>Tr.I (λ_=>Tr.Ro trivial) λ_=>Tr.V λ_ _=>Tr.I (λ_=>Tr.Ro trivial) λ_=>Tr.C ?_ λ_ _ _=>Tr.Z (by kernel_rfl)
  all_goals (grind)
noncomputable def fW:FT (List Half×Unit) (Bool) (λx=>wS x.1) (λx v=>(v=true→x.1.length≤64)):=⟨λ(x0,_)=>
  .ite (decide (64<(x0.length:Int))) (.ret false)<|
  .lp (fb (x0,x0,(x0.length:Int),0,())).lp λw8=> .sum w8 (λ_=>
  .ret false)<|
  λ_=>
  .ret true,
 λ(x0,_) hp=>by
  refine Tr.I (λ_=>Tr.R ?_) λ_=>Tr.L (EY ?_ ?_ ?_ ?_) (λ_ _=>Tr.Sr (Tr.R ?_)) (λ_ _=>Tr.Sl (Tr.R ?_))
  all_goals ((try simp only[fb,LC.lp,LC.ct,Ct.lp]at*)<;>grind)⟩
noncomputable def zC:=aZ st zX z4 [(bx 0 kV fb)] (ks:=[.sc (.sl .half)]) fW (λv=>[(false,[.c (.bool v)])]) Tryz.func103 ⟨EH,trivial⟩
noncomputable def wu:FT (Door×Int×Segm×Unit) (Door×List Segm×Int) (λx=>am x.1∧aj x.2.2.1∧0≤x.2.1∧x.2.1<x.1.table.conns.length) (λx v=>am v.1∧sL aj v.2.1):=⟨λ(x0,x1,x2,_)=>
  .cal dh.c (x0,()) λc1=>
  .grd ((decide (0≤x1))&&(decide (x1<(x0.table.conns.length:Int))))<|
  .cal pq.c ((x0.table.conns.getD x1.toNat (Ty.zero .conn)),x2,()) λc2=>
  .grd ((decide (0≤x1))&&(decide (x1<(c1.table.conns.length:Int))))<|
  .ite (c2.2.2==3) (.ite (x0.chal==x0.limits.chal) (.ret (({c1 with table.conns:=(c1.table.conns.set x1.toNat c2.1)}:Door),[],0))<|
   .ret (({c1 with table.conns:=(c1.table.conns.set x1.toNat c2.1),chal:=(IntKind.wrap .i64 (x0.chal+1))}:Door),c2.2.1,0))<|
  .ret (({c1 with table.conns:=(c1.table.conns.set x1.toNat c2.1)}:Door),c2.2.1,0),
 λ(x0,x1,x2,_) hp=>by
  refine Tr.C ?_ λ_ _ _=>Tr.G2 ?_ λ_=>Tr.C ?_ λ_ _ _=>Tr.G2 ?_ λ_=>Tr.I (λ_=>Tr.I (λ_=>Tr.R ?_) λ_=>Tr.R ?_) λ_=>Tr.R ?_
  all_goals (grind)⟩
noncomputable def Qs:=bi st Tryz.func194 [g9,vO] (ks:=[.st .door,.sc (.int .i64),.st .segm]) wu (λv=>[(true,ji (.o true) (.o true) (.o true) (.o true) (.o true) v.1),(false,[sc (.o true) .segm v.2.1]),(false,[.c (.int .i64 v.2.2)])])
noncomputable def wo:FT (Tabl×Tabl×Unit) (Bool) (λx=>bh x.1∧bh x.2.1) (λ_ _=>True):=⟨λ(x0,x1,_)=>
  .cal wz.c (x0.conns,x1.conns,()) λc1=>
  .ite (!c1) (.ret false)<|
  .cal tE.c (x0.waiting,x1.waiting,()) λc2=>
  .ite (!c2) (.ret false)<|
  .ret true,
 λ(x0,x1,_) hp=>by
  refine Tr.C ?_ λ_ _ _=>Tr.I (λ_=>Tr.R trivial) λ_=>Tr.C ?_ λ_ _ _=>Tr.F (by kernel_rfl) trivial
  all_goals (grind)⟩
noncomputable def Q2:=bi st Tryz.func252 [ON,Nq] (ks:=[.st .tabl,.st .tabl]) wo (λv=>[(false,[.c (.bool v)])])
noncomputable def Qv:=[ql,zC]
noncomputable def OD:Fx:=⟨302,Tryz.f302,[(3000002,rA 0 22)],0⟩
noncomputable def ni:FT (List Half×Half×Int×Unit) (List Half×Bool) (λx=>sS x.1) (λx v=>sS v.1):=⟨λ(x0,x1,x2,_)=>
  .cal ep.c (x0,()) λc1=>
  .grd (Nat.ble ((2*(c1.length+1)+1024)*96) aF)<|
  .bnd (β:=Bool×Unit) (.ite (decide (x2≤(x0.length:Int))) (.ret (true,()))<|
   .cal fW.c ((c1++[x1]),()) λc2=>
   .ret ((!c2),())) λ(u3a0,_)=>
  .ite u3a0 (.cal ep.c (x0,()) λc4=>
   .ret (c4,false))<|
  .ret ((c1++[x1]),true),
 λ(x0,x1,x2,_) hp=>by
  refine Tr.C ?_ λc1 _ _=>Tr.Gb ?_ λ_=>Tr.B (Q':=λw=>(w.1=false→(c1++[x1]).length≤64)) (Tr.I (λ_=>Tr.R ?_) λ_=>Tr.C ?_ λ_ _ _=>Tr.R ?_) (λ(u3a0,_) _ _=>Tr.I (λ_=>Tr.C ?_ λ_ _ _=>Tr.R ?_) λ_=>Tr.R ?_)
  all_goals ((try simp only[Tr.nice,bu]at*)<;>grind)⟩
noncomputable def Od:=aZ st OD Qv [] (ks:=[.sc (.sl .half),.st .half,.sc (.int .i64)]) ni (λv=>[(false,[sc (.o true) .half v.1]),(false,[.c (.bool v.2)])]) Tryz.func302 trivial
noncomputable def NR:=[NK,AK,lA]
def Cm:An:=⟨⟨[],[],false,0⟩,⟨[3,4,5,6,7],[],false,0⟩,⟨[],[]⟩,[(.normal,⟨[zp 3 0,zp 4 1,zp 5 2,zi 6,zi 7],[.box [.st .door [.sl .arg,.sl .arg,.sl .arg,.sl .arg,.sl .arg]],.box [.st .tupl []],.box [.st .segm []]]⟩)]⟩
noncomputable def Ms:Fx:=⟨328,Tryz.f328,[(1000012,Cm)],0⟩
noncomputable def t5:FT (Door×Tupl×Segm×Unit) (Int) (λx=>am x.1∧aj x.2.2.1) (λ_ _=>True):=⟨λ(x0,x1,x2,_)=>
  .bnd (β:=Int×Int×Door×Tupl×Segm×Unit) (.ite (x2.opts.mss==0) (.ret (0,536,x0,x1,x2,()))<|
   .ret (0,x2.opts.mss,x0,x1,x2,())) λ(_,u1a1,u1a2,u1a3,u1a4,_)=>
  .cal sU.c (u1a1,()) λc2=>
  .cal pR.c (u1a2.keys.now,u1a3,u1a4.seq,u1a2.keys.epoch,c2,()) λc3=>
  .val (fq.f (0,c3,())) λc4=>
  .ret c4,
 λ(x0,x1,x2,_) hp=>by
  refine Tr.B (Q':=λw=>am w.2.2.1∧aj w.2.2.2.2.1) (Tr.I (λ_=>Tr.R ?_) λ_=>Tr.R ?_) (λ(u1a0,u1a1,u1a2,u1a3,u1a4,_) _ _=>Tr.C trivial λ_ _ _=>Tr.C ?_ λ_ _ _=>Tr.F (by kernel_rfl) trivial)
  all_goals ((try simp only[Tr.nice,bu]at*)<;>grind)⟩
noncomputable def MP:=aZ st Ms NR [] (ks:=[.st .door,.st .tupl,.st .segm]) t5 (λv=>[(false,[.c (.int .i64 v)])]) Tryz.func328 trivial
noncomputable def aG:FT (Mac×Tupl×Int×Int×Int×Unit) (Int) (λx=>bv x.1) (λ_ _=>True):=⟨λ(x0,x1,x2,x3,x4,_)=>
  .cal f8.c (x1,x2,x3,x4,()) λc1=>
  .ite (c1==[]) (.ret (-1))<|
  .val (IntKind.wrap .i64 ((IntKind.wrap .i64 ((x3.tmod 32)*134217728))+(IntKind.wrap .i64 (x4*16777216)))) λe2=>
  .cal oA.c (x0,c1,()) λc3=>
  .ret (IntKind.wrap .i64 (e2+c3)),
 λ(x0,x1,x2,x3,x4,_) hp=>by
  refine Tr.C trivial λ_ _ _=>Tr.I (λ_=>Tr.R trivial) λ_=>Tr.V λ_ _=>Tr.C ?_ λ_ _ _=>Tr.R trivial
  all_goals (grind)⟩
noncomputable def AW:=bi st Tryz.func396 [Mb,Va] (ks:=[.st .mac,.st .tupl,.sc (.int .i64),.sc (.int .i64),.sc (.int .i64)]) aG (λv=>[(false,[.c (.int .i64 v)])])
noncomputable def af:FT (Curs×Int×Unit) (Int×Curs) (λx=>ae x.1) (λx v=>ae v.2∧0≤v.1∧(0<x.2.1→v.1<x.2.1)):=⟨λ(y0,x1,_)=>
  .ite (decide (x1≤0)) (.ret (0,y0))<|
  .ite (decide (x1≤256)) (.cal kA.c (y0,()) λc1=>
   .grd (x1 != 0)<|
   .ret ((c1.1.tmod x1),c1.2))<|
  .cal kA.c (y0,()) λc2=>
  .cal kA.c (c2.2,()) λc3=>
  .cal kA.c (c3.2,()) λc4=>
  .cal kA.c (c4.2,()) λc5=>
  .val (IntKind.wrap .i64 ((IntKind.wrap .i64 (c2.1*16777216))+(IntKind.wrap .i64 (c3.1*65536)))) λe6=>
  .val (IntKind.wrap .i64 ((IntKind.wrap .i64 (e6+(IntKind.wrap .i64 (c4.1*256))))+c5.1)) λe7=>
  .grd (x1 != 0)<|
  .ret ((e7.tmod x1),c5.2),
 λ(y0,x1,_) hp=>by
  refine Tr.I (λb0=>Tr.R ?_) λb0=>Tr.I (λb1=>Tr.C ?_ λc1 hc1 qc1=>Tr.G ?_ λg2=>Tr.R ?_) λb1=>Tr.C ?_ λc2 hc2 qc2=>Tr.C ?_ λc3 hc3 qc3=>Tr.C ?_ λc4 hc4 qc4=>Tr.C ?_ λc5 hc5 qc5=>Tr.V λe6 he6=>Tr.V λe7 he7=>Tr.G ?_ λg2=>Tr.R ?_
  all_goals ((first|grind|(refine⟨by grind,FC ?_,λh=>wK h⟩;first|grind|(subst_vars;simp only[cm];omega))))⟩
noncomputable def aE:=cI st ⟨141,Tryz.f141,[],1⟩ [th] [] [.wr false [.ptr 0],.sc (.int .i64)] [.box [.st .curs]] (λx y=>(y.1.1,x.2.1,())) af (λv=>[(false,[.c (.int .i64 v.1)])]) (λx y v=>((v.2,()),())) Tryz.func141 (by kernel_rfl) trivial
noncomputable def cl:FT (List MacRow×MacRow×Unit) (Bool) (λx=>sL ay x.1∧ay x.2.1) (λ_ _=>True):=⟨λ(x0,y1_0,_)=>
  .cal fa.c (x0,y1_0,()) λc1=>
  .ret (decide (0≤c1)),
 λ(x0,y1_0,_) hp=>by
  refine Tr.C ?_ λ_ _ _=>Tr.R trivial
  all_goals (grind)⟩
noncomputable def lK:=cI st ⟨320,Tryz.f320,[],1⟩ [nn] [] [.sc (.sl .macRow),.fn 321 [0]] [.box [.st .macRow]] (λx y=>(x.1,y.1.1,())) cl (λv=>[(false,[.c (.bool v)])]) (λx y v=>((y.1.1,()),())) Tryz.func320 (by kernel_rfl) trivial
noncomputable def uo:=[Er,yA,NU,AK]
def iG:Sh:=⟨[zi 2,zi 3,zp 4 0,zp 5 1,zi 12,zi 14],[.box [.st .keys [.sl .arg,.sl .arg]],.box [.st .tupl []]]⟩
noncomputable def ux:Fx:=⟨14,Tryz.f14,[(0,lb [2,3,4,5,12,14] [8,9,10]),(3000002,rA 0 29),(3000008,rA 0 59)],0⟩
noncomputable def kX (v0 v1 v2:Int)(v4:Keys)(v5:Tupl)(v3:Int)(a:Unit):Tr (Stp (Unit) ((Int)⊕(Unit))):=
 .ite (decide ((IntKind.wrap .i64 (v4.epoch-1))≤v3)) (.cal tD.c (v4,v3,()) λc4=>
  .bnd (β:=Bool×Unit) (.ite c4.2 (.cal pR.c (c4.1,v5,v0,v3,v2,()) λc5=>
    .ret ((c5==v1),()))<|
   .ret (false,())) λ(u6a0,_)=>
  .ite u6a0 (.ret (.out (.inl v3)))<|
  .ret (.next ()))<|
 .ret (.out (.inr (())))
noncomputable def cY:iG.V→LC iG (Unit) ((Int)⊕(Unit)) (((Int)⊕(Unit))⊕(Int×Unit)):=λ(v0,v1,v2,v3,v4,v5,_)=>⟨v3,(),λv3 _=>(v0,v1,v2,v3,v4,v5,()),λv3 _=>(decide (0≤v3)),kX v0 v1 v2 v4 v5,dn,(-1),(Int.toNat (v3-0+1)),.inl,λi a=> .inr (i,a),λ_ k w=>Sum.elim (λq=>Sum.elim (λp=>k .ret (Sh.enc ⟨[zi 8,zi 9,zb 10],[]⟩ (p,v2,true,()))) (λ_=>k (.exit 0) (Sh.enc ⟨[zu 8,zu 9,zu 10],[]⟩ ())) q) (λ_=>k (.exit 0) (Sh.enc ⟨[zu 8,zu 9,zu 10],[]⟩ ())) w⟩
theorem ye:LS Tryz.prog ux [0] (bx 0 iG cY):=aN st (ac uo) _ cY [] trivial
theorem x8 {v0 v1 v2 v3:Int}{v4:Keys}{v5:Tupl}(h0:v3≤9223372036854775807)(h1:bE v4):(cY (v0,v1,v2,v3,v4,v5,())).D 0 (λ_ _=>True) (λ_=>True):=
 LC.okD (i:=v3) (a:=()) (λ_ _=>rfl) (λ_=>rfl) rfl h0 (by decide) trivial λv3 _ hj hk hv=>by
  refine Tr.I (λ_=>Tr.C ?_ λ_ _ _=>Tr.B (Q':=λ_=>True) (Tr.I (λ_=>Tr.C ?_ λ_ _ _=>Tr.R trivial) λ_=>Tr.R trivial) (λ(u6a0,_) _ _=>Tr.Z (by kernel_rfl))) λ_=>Tr.Ro trivial
  all_goals ((try simp only[Tr.nice,bu]at*)<;>grind)
noncomputable def kn:FT (Keys×Tupl×Int×Int×Unit) (Int×Int×Bool) (λx=>bE x.1) (λ_ _=>True):=⟨λ(x0,x1,x2,x3,_)=>
  .cal nQ.c (x3,()) λc1=>
  .bnd (β:=Bool×Unit) (.cal sy.c (x0,()) λc2=>
   .ite (!c2) (.ret (true,()))<|
   .ret ((decide (c1.2.1<0)),())) λ(u3a0,_)=>
  .ite u3a0 (.ret (0,0,false))<|
  .lp (cY (x2,x3,c1.2.1,x0.epoch,x0,x1,())).lp λw7=> .sum w7 (λq7=> .sum q7 (λp7a0=>
  .ret (p7a0,c1.2.1,true))<|
  λ_=>
  .ret (0,0,false))<|
  λ_=>
  .ret (0,0,false),
 λ(x0,x1,x2,x3,_) hp=>by
  refine Tr.C trivial λ_ _ _=>Tr.B (Q':=λw=>(w.1=false→0≤x0.epoch∧x0.epoch≤4294967295)) (Tr.C ?_ λ_ _ _=>Tr.I (λ_=>Tr.R ?_) λ_=>Tr.R ?_) (λ(u3a0,_) _ _=>Tr.I (λ_=>Tr.R trivial) λ_=>Tr.L (x8 ?_ ?_) (λ_ _=>Tr.Sr (Tr.R trivial)) (Tr.W2 (λp7a0 _=>Tr.Sl (Tr.Sl (Tr.R trivial))) (λ_ _=>Tr.Sl (Tr.Sr (Tr.R trivial)))))
  all_goals ((try simp only[cY,LC.lp,LC.ct,Ct.lp,Tr.nice,bu]at*)<;>grind)⟩
noncomputable def EJ:=aZ st ux uo [(bx 0 iG cY)] (ks:=[.st .keys,.st .tupl,.sc (.int .i64),.sc (.int .i64)]) kn (λv=>[(false,[.c (.int .i64 v.1)]),(false,[.c (.int .i64 v.2.1)]),(false,[.c (.bool v.2.2)])]) Tryz.func14 ⟨ye,trivial⟩
noncomputable def zm:FT (Door×Door×Unit) (Bool) (λx=>am x.1∧am x.2.1) (λ_ _=>True):=⟨λ(x0,x1,_)=>
  .ite (x0.port != x1.port) (.ret false)<|
  .ite (x0.clock != x1.clock) (.ret false)<|
  .cal AL.c (x0.keys,x1.keys,()) λc1=>
  .ite (!c1) (.ret false)<|
  .val (sN.f (x0.limits,x1.limits,())) λc2=>
  .ite (!c2) (.ret false)<|
  .cal wg.c (x0.halves,x1.halves,()) λc3=>
  .ite (!c3) (.ret false)<|
  .cal wo.c (x0.table,x1.table,()) λc4=>
  .ite (!c4) (.ret false)<|
  .ite (x0.chal != x1.chal) (.ret false)<|
  .ret true,
 λ(x0,x1,_) hp=>by
  refine Tr.I (λ_=>Tr.R trivial) λ_=>Tr.I (λ_=>Tr.R trivial) λ_=>Tr.C ?_ λ_ _ _=>Tr.I (λ_=>Tr.R trivial) λ_=>Tr.V λ_ _=>Tr.I (λ_=>Tr.R trivial) λ_=>Tr.C ?_ λ_ _ _=>Tr.I (λ_=>Tr.R trivial) λ_=>Tr.C ?_ λ_ _ _=>Tr.F (by kernel_rfl) trivial
  all_goals (grind)⟩
noncomputable def SL:=bi st Tryz.func133 [SA,NV,Oz,Q2] (ks:=[.st .door,.st .door]) zm (λv=>[(false,[.c (.bool v)])])
noncomputable def T8:=[z6,fo,g9,j7,cW,zZ,Eb,SU,EJ,yg]
noncomputable def UZ:Fx:=⟨197,Tryz.f197,[(3000001,rA 0 27)],0⟩
noncomputable def sQ:FT (Door×Tupl×Segm×Unit) (Door×List Segm×Int) (λx=>am x.1∧aj x.2.2.1) (λx v=>am v.1∧sL aj v.2.1):=⟨λ(x0,x1,x2,_)=>
  .bnd (β:=Bool×Unit) (.cal ld.c (x0,x1,x2,()) λc1=>
   .ite (!c1) (.ret (true,()))<|
   .cal cu.c (x0.table,x1,()) λc2=>
   .ret ((decide (0≤c2)),())) λ(u3a0,_)=>
  .ite u3a0 (.cal dh.c (x0,()) λc4=>
   .ret (c4,[],0))<|
  .cal cZ.c (x0.halves,x1,()) λc5=>
  .ite (decide (0≤c5)) (.grd ((decide (0≤c5))&&(decide (c5<(x0.halves.length:Int))))<|
   .val (bg.f ((x0.halves.getD c5.toNat (Ty.zero .half)).iss,1,())) λc6=>
   .ite (x2.ack != c6) (.cal ia.c (x0,x2,()) λc7=>
    .ret (c7.1,c7.2.1,c7.2.2))<|
   .val (bg.f ((x0.halves.getD c5.toNat (Ty.zero .half)).irs,1,())) λc8=>
   .ite (x2.seq != c8) (.cal dh.c (x0,()) λc9=>
    .ret (c9,[],0))<|
   .cal pj.c (x1,(x0.halves.getD c5.toNat (Ty.zero .half)).iss,(x0.halves.getD c5.toNat (Ty.zero .half)).irs,(x0.halves.getD c5.toNat (Ty.zero .half)).opts,x2.window,()) λc10=>
   .cal pU.c (x0,c10,x2,1,()) λc11=>
   .ret (c11.1,c11.2.1,c11.2.2))<|
  .val (bg.f (x2.seq,(-1),())) λc12=>
  .val (bg.f (x2.ack,(-1),())) λc13=>
  .cal kn.c (x0.keys,x1,c12,c13,()) λc14=>
  .ite (!c14.2.2) (.cal ia.c (x0,x2,()) λc15=>
   .ret (c15.1,c15.2.1,c15.2.2))<|
  .cal kd.c (c14.2.1,x2.opts,()) λc16=>
  .cal pj.c (x1,c13,c12,c16,x2.window,()) λc17=>
  .cal pU.c (x0,c17,x2,2,()) λc18=>
  .ret (c18.1,c18.2.1,c18.2.2),
 λ(x0,x1,x2,_) hp=>by
  refine Tr.B (Q':=λ_=>True) (Tr.C ?_ λ_ _ _=>Tr.I (λ_=>Tr.R trivial) λ_=>Tr.C ?_ λ_ _ _=>Tr.R trivial) (λ(u3a0,_) _ _=>Tr.I (λ_=>Tr.C ?_ λ_ _ _=>Tr.R ?_) λ_=>Tr.C ?_ λ_ _ _=>Tr.I (λ_=>Tr.G2 ?_ λ_=>Tr.V λ_ _=>Tr.I (λ_=>Tr.C ?_ λ_ _ _=>Tr.R ?_) λ_=>Tr.V λ_ _=>Tr.I (λ_=>Tr.C ?_ λ_ _ _=>Tr.R ?_) λ_=>Tr.C trivial λ_ _ _=>Tr.C ?_ λ_ _ _=>Tr.R ?_) λ_=>Tr.V λ_ _=>Tr.V λ_ _=>Tr.C ?_ λ_ _ _=>Tr.I (λ_=>Tr.C ?_ λ_ _ _=>Tr.R ?_) λ_=>Tr.C trivial λ_ _ _=>Tr.C trivial λ_ _ _=>Tr.C ?_ λ_ _ _=>Tr.R ?_)
  all_goals ((try simp only[Tr.nice,bu]at*)<;>grind)⟩
noncomputable def LN:=aZ st UZ T8 [] (ks:=[.st .door,.st .tupl,.st .segm]) sQ (λv=>[(true,ji (.o true) (.o true) (.o true) (.o true) (.o true) v.1),(false,[sc (.o true) .segm v.2.1]),(false,[.c (.int .i64 v.2.2)])]) Tryz.func197 trivial
noncomputable def Ld:=[bV,lK]
def oW:Sh:=⟨[zp 1 0,(27,false,[.sl .arg .macRow]),zi 28,zi 29],[.box [.st .mac [.sl .arg]]]⟩
noncomputable def L1:Fx:=⟨202,Tryz.f202,[(0,lb [1,27,28,29] [2]),(3000003,rA 0 25)],0⟩
noncomputable def ou (v0:List MacRow)(v3:Mac)(v2:Int)(a:Unit):Tr (Stp (Unit) ((Unit))):=
 .grd ((decide (0≤v2))&&(decide (v2<(v0.length:Int))))<|
 .val (bo.f ((v0.getD v2.toNat (Ty.zero .macRow)).value,0,16777215,())) λc2=>
 .ite (!c2) (.ret (.out ()))<|
 .grd ((decide (0≤v2))&&(decide (v2≤(v3.rows.length:Int))))<|
 .cal cl.c (((v3.rows.take v2.toNat).drop 0),(v0.getD v2.toNat (Ty.zero .macRow)),()) λc3=>
 .ite c3 (.ret (.out ()))<|
 .ret (.next ())
noncomputable def iK:oW.V→LC oW (Unit) ((Unit)) (((Unit))⊕(Int×Unit)):=λ(v0,v1,v2,v3,_)=>⟨v2,(),λv2 _=>(v0,v1,v2,v3,()),λv2 _=>(decide (v2<v1)),ou v0 v3,up,1,(Int.toNat (v1-v2)),.inl,λi a=> .inr (i,a),λ_ k w=>Sum.elim (λ_=>k .ret (Sh.enc ⟨[zb 2],[]⟩ (false,()))) (λ_=>k (.exit 0) (Sh.enc ⟨[zu 2],[]⟩ ())) w⟩
theorem N4:LS Tryz.prog L1 [0] (bx 0 oW iK):=aN st (ac Ld) _ iK [] trivial
theorem Ml {v0:List MacRow}{v1 v2:Int}{v3:Mac}(h0:0≤v2)(h1:v1≤4611686018427387904)(h2:sL ay v0)(h3:bv v3)(h4:v1≤(v0.length:Int))(h5:v1≤(v3.rows.length:Int)):(iK (v0,v1,v2,v3,())).U v1 (λ_ _=>True) (λ_=>True):=
 LC.okU (i:=v2) (a:=()) (λ_ _=>rfl) (λ_=>rfl) rfl h0 h1 trivial λv2 _ hj hk hv=>by
  refine Tr.G2 ?_ λ_=>Tr.V λ_ _=>Tr.I (λ_=>Tr.Ro trivial) λ_=>Tr.G2 ?_ λ_=>Tr.C ?_ λ_ _ _=>Tr.Z (by kernel_rfl)
  all_goals (grind)
noncomputable def dF:FT (Mac×Unit) (Bool) (λx=>bv x.1) (λx v=>(v=true→x.1.rows.length≤64)):=⟨λ(x0,_)=>
  .ite (!x0.use) (.ret ((x0.rows.length:Int)==0))<|
  .bnd (β:=Bool×Unit) (.ite (x0.k != 0) (.ret (true,()))<|
   .ite (x0.l != 0) (.ret (true,()))<|
   .ret ((decide (64<(x0.rows.length:Int))),())) λ(u1a0,_)=>
  .ite u1a0 (.ret false)<|
  .lp (iK (x0.rows,(x0.rows.length:Int),0,x0,())).lp λw4=> .sum w4 (λ_=>
  .ret false)<|
  λ_=>
  .ret true,
 λ(x0,_) hp=>by
  refine Tr.I (λ_=>Tr.R ?_) λ_=>Tr.B (Q':=λ_=>True) (Tr.F (by kernel_rfl) trivial) (λ(u1a0,_) _ _=>Tr.I (λ_=>Tr.R ?_) λ_=>Tr.L (Ml ?_ ?_ ?_ ?_ ?_ ?_) (λ_ _=>Tr.Sr (Tr.R ?_)) (λ_ _=>Tr.Sl (Tr.R ?_)))
  all_goals ((try simp only[iK,LC.lp,LC.ct,Ct.lp,Tr.nice,bu]at*)<;>grind)⟩
noncomputable def Lu:=aZ st L1 Ld [(bx 0 oW iK)] (ks:=[.st .mac]) dF (λv=>[(false,[.c (.bool v)])]) Tryz.func202 ⟨N4,trivial⟩
noncomputable def Ad:FT (Door×Tupl×Segm×Unit) (Segm) (λx=>am x.1∧aj x.2.2.1) (λx v=>aj v):=⟨λ(x0,x1,x2,_)=>
  .cal t5.c (x0,x1,x2,()) λc1=>
  .val (bg.f (x2.seq,1,())) λc2=>
  .val (kN.f (x2.opts,x0.clock,())) λc3=>
  .ret (⟨x1.my,x1.port,c1,c2,18,32,c3,[]⟩:Segm),
 λ(x0,x1,x2,_) hp=>by
  refine Tr.C ?_ λ_ _ _=>Tr.V λ_ _=>Tr.V λ_ _=>Tr.R ?_
  all_goals (grind)⟩
noncomputable def Si:=bi st Tryz.func211 [MP,cW,Ah] (ks:=[.st .door,.st .tupl,.st .segm]) Ad (λv=>[(true,nk v)])
noncomputable def li:FT (Door×Tupl×Segm×Unit) (Int) (λx=>am x.1∧aj x.2.2.1) (λ_ _=>True):=⟨λ(x0,x1,x2,_)=>
  .val (ng.f (x2.opts,())) λc1=>
  .cal iq.c (c1,()) λc2=>
  .cal aG.c (x0.keys.now,x1,x2.seq,x0.keys.epoch,c2,()) λc3=>
  .ret (if 0<c3 then c3 else 0),
 λ(x0,x1,x2,_) hp=>by
  refine Tr.V λ_ _=>Tr.C trivial λ_ _ _=>Tr.C ?_ λ_ _ _=>Tr.R trivial
  all_goals (grind)⟩
noncomputable def Mf:=bi st Tryz.func391 [C8,zG,AW] (ks:=[.st .door,.st .tupl,.st .segm]) li (λv=>[(false,[.c (.int .i64 v)])])
noncomputable def bQ:FT (Curs×Int×Unit) (Bool×Curs) (λx=>ae x.1) (λx v=>ae v.2):=⟨λ(y0,x1,_)=>
  .cal af.c (y0,x1,()) λc1=>
  .ret ((c1.1==0),c1.2),
 λ(y0,x1,_) hp=>by
  refine Tr.C ?_ λ_ _ _=>Tr.R ?_
  all_goals (grind)⟩
noncomputable def cV:=cI st ⟨208,Tryz.f208,[],1⟩ [aE] [] [.wr false [.ptr 0],.sc (.int .i64)] [.box [.st .curs]] (λx y=>(y.1.1,x.2.1,())) bQ (λv=>[(false,[.c (.bool v.1)])]) (λx y v=>((v.2,()),())) Tryz.func208 (by kernel_rfl) trivial
noncomputable def pb:FT (Stac×Stac×Unit) (Bool) (λx=>kJ x.1∧kJ x.2.1) (λ_ _=>True):=⟨λ(x0,x1,_)=>
  .cal BF.c (x0.link,x1.link,()) λc1=>
  .ite (!c1) (.ret false)<|
  .cal zm.c (x0.door,x1.door,()) λc2=>
  .ite (!c2) (.ret false)<|
  .ret true,
 λ(x0,x1,_) hp=>by
  refine Tr.C ?_ λ_ _ _=>Tr.I (λ_=>Tr.R trivial) λ_=>Tr.C ?_ λ_ _ _=>Tr.F (by kernel_rfl) trivial
  all_goals (grind)⟩
noncomputable def OU:=bi st Tryz.func43 [Sd,SL] (ks:=[.st .stac,.st .stac]) pb (λv=>[(false,[.c (.bool v)])])
noncomputable def Tb:=[bV,Lu,OO]
def JG:An:=⟨⟨[],[],false,0⟩,⟨[1,2,3],[],false,0⟩,⟨[],[]⟩,[(.normal,⟨[zp 1 0,zb 2,zi 3],[.box [.st .keys [.sl .arg,.sl .arg]]]⟩)]⟩
noncomputable def S8:Fx:=⟨101,Tryz.f101,[(1000005,JG)],0⟩
noncomputable def bL:FT (Keys×Unit) (Bool) (λx=>bE x.1) (λx v=>(v=true→0≤x.1.epoch∧x.1.epoch≤4294967295)):=⟨λ(x0,_)=>
  .bnd (β:=Bool×Int×Keys×Unit) (.ite x0.two (.ret (false,1,x0,()))<|
   .ret (false,0,x0,())) λ(_,u1a1,u1a2,_)=>
  .val (bo.f (u1a2.epoch,u1a1,4294967295,())) λc2=>
  .ite c2 (.cal dF.c (u1a2.now,()) λc3=>
   .ite c3 (.cal dF.c (u1a2.before,()) λc4=>
    .ite c4 (.ite u1a2.two (.ret true)<|
     .cal wE.c (u1a2.before,(⟨false,0,0,[]⟩:Mac),()) λc5=>
     .ret c5)<|
    .ret false)<|
   .ret false)<|
  .ret false,
 λ(x0,_) hp=>by
  refine Tr.B (Q':=λw=>bE w.2.2.1∧0≤w.2.1∧w.2.2.1=x0) (Tr.I (λb0=>Tr.R ?_) λb0=>Tr.R ?_) (λ(u1a0,u1a1,u1a2,_) hj1 qj1=>Tr.V λc2 hc2=>Tr.I (λb0=>Tr.C ?_ λc3 hc3 qc3=>Tr.I (λb1=>Tr.C ?_ λc4 hc4 qc4=>Tr.I (λb2=>Tr.I (λb3=>Tr.R ?_) λb3=>Tr.C ?_ λc5 hc5 qc5=>Tr.R ?_) λb2=>Tr.R ?_) λb1=>Tr.R ?_) λb0=>Tr.R ?_)
  all_goals ((try simp only[Tr.nice,bu]at*)<;>grind)⟩
noncomputable def yc:=aZ st S8 Tb [] (ks:=[.st .keys]) bL (λv=>[(false,[.c (.bool v)])]) Tryz.func101 trivial
noncomputable def QQ:=[xO,yc,Lu,oT]
noncomputable def QU:Fx:=⟨187,Tryz.f187,[(3000002,rA 0 20)],0⟩
noncomputable def d8:FT (Keys×Mac×Unit) (Keys) (λx=>bE x.1∧bv x.2.1) (λx v=>bE v):=⟨λ(x0,x1,_)=>
  .cal n8.c (x0,()) λc1=>
  .bnd (β:=Bool×Unit) (.cal bL.c (x0,()) λc2=>
   .ite (!c2) (.ret (true,()))<|
   .cal dF.c (x1,()) λc3=>
   .ite (!c3) (.ret (true,()))<|
   .ret ((x0.epoch==4294967295),())) λ(u4a0,_)=>
  .ite u4a0 (.ret c1)<|
  .cal iO.c (x1,()) λc5=>
  .ret (⟨(IntKind.wrap .i64 (x0.epoch+1)),c5,c1.now,true⟩:Keys),
 λ(x0,x1,_) hp=>by
  refine Tr.C ?_ λ_ _ _=>Tr.B (Q':=λw=>(w.1=false→0≤x0.epoch∧x0.epoch≤4294967295∧x1.rows.length≤64)) (Tr.C ?_ λ_ _ _=>Tr.I (λ_=>Tr.R ?_) λ_=>Tr.C ?_ λ_ _ _=>Tr.I (λ_=>Tr.R ?_) λ_=>Tr.R ?_) (λ(u4a0,_) _ _=>Tr.I (λ_=>Tr.R ?_) λ_=>Tr.C ?_ λ_ _ _=>Tr.R ?_)
  all_goals ((try simp only[Tr.nice,bu]at*)<;>grind)⟩
noncomputable def QH:=aZ st QU QQ [] (ks:=[.st .keys,.st .mac]) d8 (λv=>[(true,yE (.o true) (.o true) v)]) Tryz.func187 trivial
noncomputable def qU:FT (Door×Tupl×Segm×Unit) (Door×List Segm) (λx=>am x.1∧aj x.2.2.1) (λx v=>am v.1∧sL aj v.2):=⟨λ(x0,x1,x2,_)=>
  .cal dh.c (x0,()) λc1=>
  .cal ld.c (x0,x1,x2,()) λc2=>
  .ite (!c2) (.ret (c1,[]))<|
  .cal Ad.c (x0,x1,x2,()) λc3=>
  .cal cZ.c (x0.halves,x1,()) λc4=>
  .ite (decide (0≤c4)) (.grd ((decide (0≤c4))&&(decide (c4<(x0.halves.length:Int))))<|
   .ite ((x0.halves.getD c4.toNat (Ty.zero .half)).irs != x2.seq) (.ret (c1,[]))<|
   .grd ((decide (0≤c4))&&(decide (c4<(x0.halves.length:Int))))<|
   .ret (c1,[({c3 with seq:=(x0.halves.getD c4.toNat (Ty.zero .half)).iss}:Segm)]))<|
  .cal cu.c (x0.table,x1,()) λc5=>
  .ite (decide (c5<0)) (.val (nN.f (x2.opts,())) λc6=>
   .cal rE.c (c1.halves,(⟨x1,c3.seq,x2.seq,c6,0,x2.window⟩:Half),x0.limits.halves,()) λc7=>
   .ret (({c1 with halves:=c7.1}:Door),[c3]))<|
  .ret (c1,[c3]),
 λ(x0,x1,x2,_) hp=>by
  refine Tr.C ?_ λ_ _ _=>Tr.C ?_ λ_ _ _=>Tr.I (λ_=>Tr.R ?_) λ_=>Tr.C ?_ λ_ _ _=>Tr.C ?_ λ_ _ _=>Tr.I (λ_=>Tr.G2 ?_ λ_=>Tr.I (λ_=>Tr.R ?_) λ_=>Tr.G2 ?_ λ_=>Tr.R ?_) λ_=>Tr.C ?_ λ_ _ _=>Tr.I (λ_=>Tr.V λ_ _=>Tr.C ?_ λ_ _ _=>Tr.R ?_) λ_=>Tr.R ?_
  all_goals (grind)⟩
noncomputable def KW:=bi st Tryz.func196 [g9,z6,Si,j7,fo,EU,C0] (ks:=[.st .door,.st .tupl,.st .segm]) qU (λv=>[(true,ji (.o true) (.o true) (.o true) (.o true) (.o true) v.1),(false,[sc (.o true) .segm v.2])])
noncomputable def fj:FT (Door×Tupl×Segm×Unit) (Segm) (λx=>am x.1∧aj x.2.2.1) (λx v=>aj v):=⟨λ(x0,x1,x2,_)=>
  .cal li.c (x0,x1,x2,()) λc1=>
  .val (bM.f (x2.seq,1,())) λc2=>
  .val (bH.f (x2.opts,x0.clock,())) λc3=>
  .ret (⟨x1.my,x1.port,c1,c2,18,32,c3,[]⟩:Segm),
 λ(x0,x1,x2,_) hp=>by
  refine Tr.C ?_ λ_ _ _=>Tr.V λ_ _=>Tr.V λ_ _=>Tr.R ?_
  all_goals (grind)⟩
noncomputable def Tc:=bi st Tryz.func301 [Mf,fH,zD] (ks:=[.st .door,.st .tupl,.st .segm]) fj (λv=>[(true,nk v)])
noncomputable def ud:=[yc,cx,EO,L9,AW]
def iL:Sh:=⟨[zi 2,zi 3,zp 4 0,zp 5 1,zi 12,zi 14],[.box [.st .keys [.sl .arg,.sl .arg]],.box [.st .tupl []]]⟩
noncomputable def uv:Fx:=⟨305,Tryz.f305,[(0,lb [2,3,4,5,12,14] [8,9,10]),(3000001,rA 0 24),(3000008,rA 0 57)],0⟩
noncomputable def cy (v0 v1 v2:Int)(v4:Keys)(v5:Tupl)(v3:Int)(a:Unit):Tr (Stp (Unit) ((Int))):=
 .cal ig.c (v4,v3,()) λc5=>
 .bnd (β:=Bool×Unit) (.ite c5.2 (.cal aG.c (c5.1,v5,v0,v3,v2,()) λc6=>
   .ret ((c6==v1),()))<|
  .ret (false,())) λ(u7a0,_)=>
 .ite u7a0 (.ret (.out v3))<|
 .ret (.next ())
noncomputable def bX:iL.V→LC iL (Unit) ((Int)) (((Int))⊕(Int×Unit)):=λ(v0,v1,v2,v3,v4,v5,_)=>⟨v3,(),λv3 _=>(v0,v1,v2,v3,v4,v5,()),λv3 _=>(decide ((if 0<(IntKind.wrap .i64 (v4.epoch-1))then(IntKind.wrap .i64 (v4.epoch-1))else 0)≤v3)),cy v0 v1 v2 v4 v5,dn,(-1),(Int.toNat (v3-(if 0<(IntKind.wrap .i64 (v4.epoch-1))then(IntKind.wrap .i64 (v4.epoch-1))else 0)+1)),.inl,λi a=> .inr (i,a),λ_ k w=>Sum.elim (λp=>k .ret (Sh.enc ⟨[zi 8,zi 9,zb 10],[]⟩ (p,v2,true,()))) (λ_=>k (.exit 0) (Sh.enc ⟨[zu 8,zu 9,zu 10],[]⟩ ())) w⟩
theorem yX:LS Tryz.prog uv [0] (bx 0 iL bX):=aN st (ac ud) _ bX [] trivial
theorem yv {v0 v1 v2 v3:Int}{v4:Keys}{v5:Tupl}(h0:v3≤9223372036854775807)(h1:0≤(if 0<(IntKind.wrap .i64 (v4.epoch-1))then(IntKind.wrap .i64 (v4.epoch-1))else 0))(h2:bE v4):(bX (v0,v1,v2,v3,v4,v5,())).D (if 0<(IntKind.wrap .i64 (v4.epoch-1))then(IntKind.wrap .i64 (v4.epoch-1))else 0) (λ_ _=>True) (λ_=>True):=
 LC.okD (i:=v3) (a:=()) (λ_ _=>rfl) (λ_=>rfl) rfl h0 h1 trivial λv3 _ hj hk hv=>by
  refine Tr.C ?_ λ_ _ _=>Tr.B (Q':=λ_=>True) (Tr.I (λ_=>Tr.C ?_ λ_ _ _=>Tr.R trivial) λ_=>Tr.R trivial) (λ(u7a0,_) _ _=>Tr.Z (by kernel_rfl))
  all_goals ((try simp only[Tr.nice,bu]at*)<;>grind)
noncomputable def ba:FT (Keys×Tupl×Int×Int×Unit) (Int×Int×Bool) (λx=>bE x.1) (λ_ _=>True):=⟨λ(x0,x1,x2,x3,_)=>
  .bnd (β:=Bool×Unit) (.cal bL.c (x0,()) λc1=>
   .ite (!c1) (.ret (true,()))<|
   .cal ai.c (x3,32,()) λc2=>
   .ret ((!c2),())) λ(u3a0,_)=>
  .ite u3a0 (.ret (0,0,false))<|
  .cal cK.c (x3,()) λc4=>
  .lp (bX (x2,x3,c4.2.1,x0.epoch,x0,x1,())).lp λw8=> .sum w8 (λp8a0=>
  .ret (p8a0,c4.2.1,true))<|
  λ_=>
  .ret (0,0,false),
 λ(x0,x1,x2,x3,_) hp=>by
  refine Tr.B (Q':=λw=>(w.1=false→0≤x0.epoch∧x0.epoch≤4294967295)) (Tr.C ?_ λ_ _ _=>Tr.I (λ_=>Tr.R ?_) λ_=>Tr.C trivial λ_ _ _=>Tr.R ?_) (λ(u3a0,_) _ _=>Tr.I (λ_=>Tr.R trivial) λ_=>Tr.C trivial λ_ _ _=>Tr.L (yv ?_ ?_ ?_) (λ_ _=>Tr.Sr (Tr.R trivial)) (λp8a0 _=>Tr.Sl (Tr.R trivial)))
  all_goals ((try simp only[bX,LC.lp,LC.ct,Ct.lp,Tr.nice,bu]at*)<;>grind)⟩
noncomputable def En:=aZ st uv ud [(bx 0 iL bX)] (ks:=[.st .keys,.st .tupl,.sc (.int .i64),.sc (.int .i64)]) ba (λv=>[(false,[.c (.int .i64 v.1)]),(false,[.c (.int .i64 v.2.1)]),(false,[.c (.bool v.2.2)])]) Tryz.func305 ⟨yX,trivial⟩
noncomputable def I6:=[aE,th]
def nz:Sh:=⟨[zp 0 0,(3,false,[.int .u64]),zi 4],[.box [.st .curs [.sl .any]]]⟩
noncomputable def FU:Fx:=⟨72,Tryz.f72,[(1,la ⟨[0,3,4],[],false,1⟩ ⟨[2,3],[],false,1⟩)],1⟩
noncomputable def JZ (v1:Int)(a:Int×Curs):Tr (Stp (Int×Curs) (Empty)):=
 .cal kA.c (a.2,()) λc2=>
 .val (bits .or .u64 (IntKind.wrap .u64 (a.1*256)) (IntKind.wrap .u64 c2.1)) λe3=>
 .ret (.next (e3,c2.2))
noncomputable def i4:nz.V→LC nz (Int×Curs) (Empty) (Int×(Int×Curs)):=λ(v0,v1,v2,_)=>⟨v1,(v0,v2),λv1 a=>(a.1,v1,a.2,()),λv1 _=>(decide (v1<8)),JZ,up,1,(Int.toNat (8-v1)),(λp=>Empty.elim p),λi a=>(i,a),λ_ k x=>k (.exit 1) (Sh.enc ⟨[zu 2,(3,false,[.int .u64])],[.box [.st .curs [.sl .any]]]⟩ (x.2.1,x.2.2,()))⟩
theorem Kb:LS Tryz.prog FU [0] (bx 1 nz i4):=aN st (ac I6) _ i4 [] trivial
theorem JY {v0 v1:Int}{v2:Curs}(h0:0≤v1)(h1:ae v2):(i4 (v0,v1,v2,())).U 8 (λv1 a=>ae a.2) (λ_=>True):=
 LC.okU (i:=v1) (a:=(v0,v2)) (λ_ _=>rfl) (λ_=>rfl) rfl h0 (by decide) h1 λv1 (v0,v2) hj hk hv=>by
  refine Tr.C ?_ λ_ _ _=>Tr.V λ_ _=>Tr.Rn ?_
  all_goals (grind)
noncomputable def fE:FT (Curs×Unit) (Int×Curs) (λx=>ae x.1) (λx v=>ae v.2):=⟨λ(y0,_)=>
  .cal af.c (y0,3,()) λc1=>
  .ite (c1.1==0) (.ret (0,c1.2))<|
  .ite (c1.1==1) (.ret (506097522914230528,c1.2))<|
  .lp (i4 (0,0,c1.2,())).lp λ(_,a4_0,a4_1)=>
  .ret (a4_0,a4_1),
 λ(y0,_) hp=>by
  refine Tr.C ?_ λ_ _ _=>Tr.I (λ_=>Tr.R ?_) λ_=>Tr.I (λ_=>Tr.R ?_) λ_=>Tr.L (JY ?_ ?_) (λ(a4_0,a4_1) _=>Tr.R ?_) (λp=>Empty.elim p)
  all_goals ((try simp only[i4,LC.lp,LC.ct,Ct.lp]at*)<;>grind)⟩
noncomputable def tW:=cI st FU I6 [(bx 1 nz i4)] [.wr false [.ptr 0]] [.box [.st .curs]] (λx y=>(y.1.1,())) fE (λv=>[(false,[.c (.int .u64 v.1)])]) (λx y v=>((v.2,()),())) Tryz.func72 (by kernel_rfl) ⟨Kb,trivial⟩
noncomputable def lz:FT (Door×Mac×Unit) (Door) (λx=>am x.1∧bv x.2.1) (λx v=>am v):=⟨λ(x0,x1,_)=>
  .cal eE.c (x0,()) λc1=>
  .cal d8.c (x0.keys,x1,()) λc2=>
  .ret (⟨c1.port,c1.clock,c2,c1.limits,c1.halves,c1.table,c1.chal⟩:Door),
 λ(x0,x1,_) hp=>by
  refine Tr.C ?_ λ_ _ _=>Tr.C ?_ λ_ _ _=>Tr.R ?_
  all_goals (grind)⟩
noncomputable def JX:=bi st Tryz.func78 [kq,QH] (ks:=[.st .door,.st .mac]) lz (λv=>[(true,ji (.o true) (.o true) (.o true) (.o true) (.o true) v)])
noncomputable def U4:=[tR,cq,rh,g9,DQ,fo,zZ,Qs,wh,j7,cW,zq,KW,LN]
def xV:An:=⟨⟨[],[],false,0⟩,⟨[3,6,7,8,9,12],[],false,0⟩,⟨[],[]⟩,[(.normal,⟨[zp 3 0,zp 6 1,(7,false,[.nil]),zi 8,(9,false,[.own 2]),zp 12 3],[.box [.st .door [.sl .arg,.sl .arg,.sl .arg,.sl .arg,.sl .arg]],.box [.st .door [.nil .macRow,.nil .macRow,.nil .half,.nil .conn,.nil .tupl]],.arr .segm false true,.box [.st .door [.own 4,.own 5,.own 6,.own 7,.own 8]],.of false true,.of false true,.of false true,.of false true,.of false true]⟩)]⟩
noncomputable def Vm:Fx:=⟨83,Tryz.f83,[(1000084,xV),(3000002,rA 0 29),(3000013,rA 0 84),(3000016,rA 0 92),(3000019,rA 0 114)],0⟩
noncomputable def AG:FT (Door×Int×Segm×Unit) (Door×List Segm×Int) (λx=>am x.1∧aj x.2.2.1) (λx v=>am v.1∧sL aj v.2.1):=⟨λ(x0,x1,x2,_)=>
  .bnd (β:=Bool×Unit) (.cal qb.c (x0,()) λc1=>
   .ite (!c1) (.ret (true,()))<|
   .cal aL.c (x1,32,()) λc2=>
   .ite (!c2) (.ret (true,()))<|
   .cal lu.c (x2,()) λc3=>
   .ret ((!c3),())) λ(u4a0,_)=>
  .ite u4a0 (.cal dh.c (x0,()) λc5=>
   .ret (c5,[],0))<|
  .val (nb.f (x1,x2,())) λc6=>
  .cal cu.c (x0.table,c6,()) λc7=>
  .ite (x2.to != x0.port) (.cal ia.c (x0,x2,()) λc8=>
   .ret (c8.1,c8.2.1,c8.2.2))<|
  .ite (decide (0≤c7)) (.cal wu.c (x0,c7,x2,()) λc9=>
   .ret (c9.1,c9.2.1,c9.2.2))<|
  .val (gJ.f (x2,4,())) λc10=>
  .ite c10 (.cal dh.c (x0,()) λc11=>
   .cal cZ.c (x0.halves,c6,()) λc12=>
   .bnd (β:=Bool×Unit) (.ite (decide (0≤c12)) (.grd ((decide (0≤c12))&&(decide (c12<(x0.halves.length:Int))))<|
     .val (bg.f ((x0.halves.getD c12.toNat (Ty.zero .half)).irs,1,())) λc13=>
     .ret ((x2.seq==c13),()))<|
    .ret (false,())) λ(u14a0,_)=>
   .bnd (β:=WT xV.es) (.ite u14a0 (.cal py.c (x0.halves,c6,()) λc15=>
     .ret (0,x0,(⟨0,0,⟨0,⟨false,0,0,[]⟩,⟨false,0,0,[]⟩,false⟩,⟨0,0,0,0⟩,[],⟨[],[]⟩,0⟩:Door),[],({c11 with halves:=c15}:Door),()))<|
    .ret (0,x0,(⟨0,0,⟨0,⟨false,0,0,[]⟩,⟨false,0,0,[]⟩,false⟩,⟨0,0,0,0⟩,[],⟨[],[]⟩,0⟩:Door),[],c11,())) λ(_,_,_,u16a3,u16a4,_)=>
   .ret (u16a4,u16a3,0))<|
  .bnd (β:=Bool×Unit) (.val (gJ.f (x2,2,())) λc17=>
   .ite c17 (.val (gJ.f (x2,16,())) λc18=>
    .ite (!c18) (.val (gJ.f (x2,1,())) λc19=>
     .ret ((!c19),()))<|
    .ret (false,()))<|
   .ret (false,())) λ(u20a0,_)=>
  .ite u20a0 (.cal qU.c (x0,c6,x2,()) λc21=>
   .ret (c21.1,c21.2,0))<|
  .bnd (β:=Bool×Unit) (.val (gJ.f (x2,16,())) λc22=>
   .ite c22 (.val (gJ.f (x2,2,())) λc23=>
    .ret ((!c23),()))<|
   .ret (false,())) λ(u24a0,_)=>
  .ite u24a0 (.cal sQ.c (x0,c6,x2,()) λc25=>
   .ret (c25.1,c25.2.1,c25.2.2))<|
  .val (gJ.f (x2,16,())) λc26=>
  .ite c26 (.cal ia.c (x0,x2,()) λc27=>
   .ret (c27.1,c27.2.1,c27.2.2))<|
  .cal dh.c (x0,()) λc28=>
  .ret (c28,[],0),
 λ(x0,x1,x2,_) hp=>by
  refine Tr.B (Q':=λw=>(w.1=false→x0.table.conns.length≤16∧x2.body.length≤1420)) (Tr.C ?_ λ_ _ _=>Tr.I (λ_=>Tr.R ?_) λ_=>Tr.C trivial λ_ _ _=>Tr.I (λ_=>Tr.R ?_) λ_=>Tr.C trivial λ_ _ _=>Tr.R ?_) (λ(u4a0,_) _ _=>Tr.I (λ_=>Tr.C ?_ λ_ _ _=>Tr.R ?_) λ_=>Tr.V λ_ _=>Tr.C ?_ λ_ _ _=>Tr.I (λ_=>Tr.C ?_ λ_ _ _=>Tr.R ?_) λ_=>Tr.I (λ_=>Tr.C ?_ λ_ _ _=>Tr.R ?_) λ_=>Tr.V λ_ _=>Tr.I (λ_=>Tr.C ?_ λ_ _ _=>Tr.C ?_ λ_ _ _=>Tr.B (Q':=λ_=>True) (Tr.I (λ_=>Tr.G2 ?_ λ_=>Tr.F (by kernel_rfl) trivial) λ_=>Tr.R trivial) (λ(u14a0,_) _ _=>Tr.B (Q':=λw=>am w.2.1∧am w.2.2.1∧sL aj w.2.2.2.1∧am w.2.2.2.2.1) (Tr.I (λ_=>Tr.C ?_ λ_ _ _=>Tr.R ?_) λ_=>Tr.R ?_) (λ(u16a0,u16a1,u16a2,u16a3,u16a4,_) _ _=>Tr.R ?_))) λ_=>Tr.B (Q':=λ_=>True) (Tr.F (by kernel_rfl) trivial) (λ(u20a0,_) _ _=>Tr.I (λ_=>Tr.C ?_ λ_ _ _=>Tr.R ?_) λ_=>Tr.B (Q':=λ_=>True) (Tr.F (by kernel_rfl) trivial) (λ(u24a0,_) _ _=>Tr.I (λ_=>Tr.C ?_ λ_ _ _=>Tr.R ?_) λ_=>Tr.V λ_ _=>Tr.I (λ_=>Tr.C ?_ λ_ _ _=>Tr.R ?_) λ_=>Tr.C ?_ λ_ _ _=>Tr.R ?_)))
  all_goals ((try simp only[Tr.nice,bu]at*)<;>grind)⟩
noncomputable def UN:=aZ st Vm U4 [] (ks:=[.st .door,.sc (.int .i64),.st .segm]) AG (λv=>[(true,ji (.o true) (.o true) (.o true) (.o true) (.o true) v.1),(false,[sc (.o true) .segm v.2.1]),(false,[.c (.int .i64 v.2.2)])]) Tryz.func83 trivial
noncomputable def lE:FT (Curs×Unit) (Keys×Curs) (λx=>ae x.1) (λx v=>bE v.1∧ae v.2):=⟨λ(y0,_)=>
  .cal af.c (y0,40,()) λc1=>
  .cal fE.c (c1.2,()) λc2=>
  .cal fE.c (c2.2,()) λc3=>
  .cal mi.c (c2.1,c3.1,()) λc4=>
  .ite (decide (0<c1.1)) (.cal bQ.c (c3.2,2,()) λc5=>
   .ite c5.1 (.cal fE.c (c5.2,()) λc6=>
    .cal mi.c (c6.1,5,()) λc7=>
    .ret ((⟨c1.1,c4,c7,true⟩:Keys),c6.2))<|
   .ret ((⟨c1.1,c4,⟨false,0,0,[]⟩,false⟩:Keys),c5.2))<|
  .ret ((⟨c1.1,c4,⟨false,0,0,[]⟩,false⟩:Keys),c3.2),
 λ(y0,_) hp=>by
  refine Tr.C ?_ λ_ _ _=>Tr.C ?_ λ_ _ _=>Tr.C ?_ λ_ _ _=>Tr.C trivial λ_ _ _=>Tr.I (λ_=>Tr.C ?_ λ_ _ _=>Tr.I (λ_=>Tr.C ?_ λ_ _ _=>Tr.C trivial λ_ _ _=>Tr.R ?_) λ_=>Tr.R ?_) λ_=>Tr.R ?_
  all_goals (grind)⟩
noncomputable def Rp:=cI st ⟨282,Tryz.f282,[],1⟩ [aE,tW,sZ,cV] [] [.wr false [.ptr 0]] [.box [.st .curs]] (λx y=>(y.1.1,())) lE (λv=>[(true,yE (.o true) (.o true) v.1)]) (λx y v=>((v.2,()),())) Tryz.func282 (by kernel_rfl) trivial
noncomputable def C5:=[zv,g9,T7,UN,Ku,OW,fo,dK]
def mK:Sh:=⟨[(2,false,[.sl .arg .mac]),zp 3 0,zp 4 1,zp 6 2,zp 7 3,zp 9 4,(10,false,[.own 5]),zi 12],[.box [.st .door [.sl .arg,.sl .arg,.sl .arg,.sl .arg,.sl .arg]],.box [.st .clie []],.box [.st .door [.nil .macRow,.nil .macRow,.nil .half,.nil .conn,.nil .tupl]],.box [.st .conn [.nil .piec]],.box [.st .door [.own 6,.own 7,.own 8,.own 9,.own 10]],.arr .segm false true,.of false true,.of false true,.of false true,.of false true,.of false true]⟩
noncomputable def Ds:Fx:=⟨18,Tryz.f18,[(0,lb [2,3,4,6,7,9,10,12] [3,4,6,7,8,9,10]),(3000013,rA 0 86)],0⟩
noncomputable def qo (v0:List Mac)(v1:Int)(a:Door×Conn×Door):Tr (Stp (Door×Conn×Door) (Empty)):=
 .grd ((decide (0≤v1))&&(decide (v1<(v0.length:Int))))<|
 .cal qv.c (a.2.2,(v0.getD v1.toNat (Ty.zero .mac)),()) λc5=>
 .ret (.next (({a.1 with keys.now.rows:=[],keys.before.rows:=[],halves:=[],table.conns:=[],table.waiting:=[]}:Door),({a.2.1 with r.held:=[]}:Conn),c5))
noncomputable def fN:mK.V→LC mK (Door×Conn×Door) (Empty) (Int×(Door×Conn×Door)):=λ(v0,v1,v2,v3,v4,v5,v6,v7,_)=>⟨v1,(v4,v5,v6),λv1 a=>(v0,v1,v2,v3,a.1,a.2.1,a.2.2,v7,()),λv1 _=>(decide (v1<(v0.length:Int))),qo v0,up,1,(Int.toNat ((v0.length:Int)-v1)),(λp=>Empty.elim p),λi a=>(i,a),λ_ k x=>k (.exit 0) (Sh.enc ⟨[zp 3 0,zp 4 1,zp 6 2,zp 7 3,zu 8,zp 9 4,(10,false,[.own 5])],[.box [.st .door [.sl .arg,.sl .arg,.sl .arg,.sl .arg,.sl .arg]],.box [.st .clie []],.box [.st .door [.nil .macRow,.nil .macRow,.nil .half,.nil .conn,.nil .tupl]],.box [.st .conn [.nil .piec]],.box [.st .door [.own 6,.own 7,.own 8,.own 9,.own 10]],.arr .segm false true,.of false true,.of false true,.of false true,.of false true,.of false true]⟩ (v2,v3,({x.2.1 with keys.now.rows:=[],keys.before.rows:=[],halves:=[],table.conns:=[],table.waiting:=[]}:Door),({x.2.2.1 with r.held:=[]}:Conn),x.2.2.2,v7,()))⟩
theorem Ix:LS Tryz.prog Ds [0] (bx 0 mK fN):=aN st (ac C5) _ fN [] trivial
theorem F3 {v0:List Mac}{v1:Int}{v2 v4 v6:Door}{v3:Clie}{v5:Conn}{v7:List Segm}(h0:0≤v1)(h1:(v0.length:Int)≤4611686018427387904)(h2:sL bv v0)(h3:am v4∧aa v5∧am v6):(fN (v0,v1,v2,v3,v4,v5,v6,v7,())).U (v0.length:Int) (λv1 a=>am a.1∧aa a.2.1∧am a.2.2) (λ_=>True):=
 LC.okU (i:=v1) (a:=(v4,v5,v6)) (λ_ _=>rfl) (λ_=>rfl) rfl h0 h1 h3 λv1 (v4,v5,v6) hj hk hv=>by
  refine Tr.G2 ?_ λ_=>Tr.C ?_ λ_ _ _=>Tr.Rn ?_
  all_goals (grind)
noncomputable def rH:FT (Door×Clie×List Mac×Unit) (Door×Conn×Int) (λx=>am x.1∧sL bv x.2.2.1) (λx v=>am v.1∧aa v.2.1):=⟨λ(x0,x1,x2,_)=>
  .cal pH.c (x1,()) λc1=>
  .ite (!c1) (.cal dh.c (x0,()) λc2=>
   .ret (c2,(⟨⟨0,0,0⟩,0,⟨0,[],0,false,false,false⟩,⟨0,[],[],0,false⟩,0,0,⟨0,0,false,false,0,0⟩,0,0⟩:Conn),0))<|
  .cal Fv.c (x1,()) λc3=>
  .cal AG.c (x0,x1.tuple.ip,c3,()) λc4=>
  .lp (fN (x2,0,x0,x1,(⟨0,0,⟨0,⟨false,0,0,[]⟩,⟨false,0,0,[]⟩,false⟩,⟨0,0,0,0⟩,[],⟨[],[]⟩,0⟩:Door),(⟨⟨0,0,0⟩,0,⟨0,[],0,false,false,false⟩,⟨0,[],[],0,false⟩,0,0,⟨0,0,false,false,0,0⟩,0,0⟩:Conn),c4.1,c4.2.1,())).lp λ(_,_,_,a6_2)=>
  .ite ((c4.2.1.length:Int)==0) (.cal dh.c (x0,()) λc7=>
   .ret (c7,(⟨⟨0,0,0⟩,0,⟨0,[],0,false,false,false⟩,⟨0,[],[],0,false⟩,0,0,⟨0,0,false,false,0,0⟩,0,0⟩:Conn),0))<|
  .grd (decide (0<(c4.2.1.length:Int)))<|
  .cal wC.c (x1,(c4.2.1.getD 0 (Ty.zero .segm)),()) λc8=>
  .cal AG.c (a6_2,x1.tuple.ip,c8.1,()) λc9=>
  .cal cu.c (c9.1.table,x1.tuple,()) λc10=>
  .bnd (β:=Bool×Unit) (.ite (!c8.2) (.ret (true,()))<|
   .ite (c9.2.2==0) (.ret (true,()))<|
   .ret ((decide (c10<0)),())) λ(u11a0,_)=>
  .ite u11a0 (.cal dh.c (x0,()) λc12=>
   .ret (c12,(⟨⟨0,0,0⟩,0,⟨0,[],0,false,false,false⟩,⟨0,[],[],0,false⟩,0,0,⟨0,0,false,false,0,0⟩,0,0⟩:Conn),0))<|
  .grd ((decide (0≤c10))&&(decide (c10<(c9.1.table.conns.length:Int))))<|
  .cal dI.c ((c9.1.table.conns.getD c10.toNat (Ty.zero .conn)),()) λc13=>
  .ret (c9.1,c13,c9.2.2),
 λ(x0,x1,x2,_) hp=>by
  refine Tr.C trivial λ_ _ _=>Tr.I (λ_=>Tr.C ?_ λ_ _ _=>Tr.R ?_) λ_=>Tr.C trivial λ_ _ _=>Tr.C ?_ λ_ _ _=>Tr.L (F3 ?_ ?_ ?_ ?_) (λ(a6_0,a6_1,a6_2) _=>Tr.I (λ_=>Tr.C ?_ λ_ _ _=>Tr.R ?_) λ_=>Tr.G1 ?_ λ_=>Tr.C ?_ λ_ _ _=>Tr.C ?_ λ_ _ _=>Tr.C ?_ λ_ _ _=>Tr.B (Q':=λ_=>True) (Tr.F (by kernel_rfl) trivial) (λ(u11a0,_) _ _=>Tr.I (λ_=>Tr.C ?_ λ_ _ _=>Tr.R ?_) λ_=>Tr.G2 ?_ λ_=>Tr.C ?_ λ_ _ _=>Tr.R ?_)) (λp=>Empty.elim p)
  all_goals ((try simp only[fN,LC.lp,LC.ct,Ct.lp,Tr.nice,bu]at*)<;>grind)⟩
noncomputable def QY:=aZ st Ds C5 [(bx 0 mK fN)] (ks:=[.st .door,.st .clie,.sc (.sl .mac)]) rH (λv=>[(true,ji (.o true) (.o true) (.o true) (.o true) (.o true) v.1),(true,gO (.o true) v.2.1),(false,[.c (.int .i64 v.2.2)])]) Tryz.func18 ⟨Ix,trivial⟩
noncomputable def lw:FT (Curs×Unit) (Limi×Curs) (λx=>ae x.1) (λx v=>ae v.2):=⟨λ(y0,_)=>
  .cal af.c (y0,3,()) λc1=>
  .cal af.c (c1.2,3,()) λc2=>
  .cal af.c (c2.2,4,()) λc3=>
  .cal af.c (c3.2,4,()) λc4=>
  .ret ((⟨(IntKind.wrap .i64 (1+c1.1)),(IntKind.wrap .i64 (1+c2.1)),(IntKind.wrap .i64 (1+c3.1)),c4.1⟩:Limi),c4.2),
 λ(y0,_) hp=>by
  refine Tr.C ?_ λ_ _ _=>Tr.C ?_ λ_ _ _=>Tr.C ?_ λ_ _ _=>Tr.C ?_ λ_ _ _=>Tr.R ?_
  all_goals (grind)⟩
noncomputable def xp:=cI st ⟨283,Tryz.f283,[],1⟩ [aE] [] [.wr false [.ptr 0]] [.box [.st .curs]] (λx y=>(y.1.1,())) lw (λv=>[(true,SR v.1)]) (λx y v=>((v.2,()),())) Tryz.func283 (by kernel_rfl) trivial
noncomputable def ym:FT (Half×Door×Unit) (Bool) (λx=>am x.2.1) (λ_ _=>True):=⟨λ(x0,y1,_)=>
  .cal au.c (y1.table,x0.tuple,()) λc1=>
  .ret (decide (0≤c1)),
 λ(x0,y1,_) hp=>by
  refine Tr.C ?_ λ_ _ _=>Tr.R trivial
  all_goals (grind)⟩
noncomputable def Mt:=cI st ⟨106,Tryz.f106,[],1⟩ [iA] [] [.st .half,.wr false [.ptr 0]] [.box [.st .door]] (λx y=>(x.1,y.1.1,())) ym (λv=>[(false,[.c (.bool v)])]) (λx y v=>((y.1.1,()),())) Tryz.func106 (by kernel_rfl) trivial
noncomputable def hY:=[Mt]
def cf:Sh:=⟨[(0,false,[.sl .arg .half]),(1,false,[.fn 106 [0]]),zi 7,zi 8],[.box [.st .door [.sl .any,.sl .any,.sl .any,.sl .any,.sl .any]]]⟩
noncomputable def gY:Fx:=⟨207,Tryz.f207,[(0,la ⟨[0,1,7,8],[.softo 0 6,.softo 0 10,.softo 0 16,.softo 0 17,.softo 0 18],false,1⟩ ⟨[4],[],false,1⟩)],1⟩
noncomputable def gt (v0:List Half)(v3:Door)(v2:Int)(a:Unit):Tr (Stp (Unit) ((Int))):=
 .grd ((decide (0≤v2))&&(decide (v2<(v0.length:Int))))<|
 .cal ym.c ((v0.getD v2.toNat (Ty.zero .half)),v3,()) λc2=>
 .ite c2 (.ret (.out v2))<|
 .ret (.next ())
noncomputable def aW:cf.V→LC cf (Unit) ((Int)) (((Int))⊕(Int×Unit)):=λ(v0,v1,v2,v3,_)=>⟨v2,(),λv2 _=>(v0,v1,v2,v3,()),λv2 _=>(decide (v2<v1)),gt v0 v3,up,1,(Int.toNat (v1-v2)),.inl,λi a=> .inr (i,a),λ_ k w=>Sum.elim (λp=>k .ret (Sh.enc ⟨[zi 4],[.box [.st .door [.sl .any,.sl .any,.sl .any,.sl .any,.sl .any]]]⟩ (p,v3,()))) (λ_=>k (.exit 0) (Sh.enc ⟨[zu 4],[.box [.st .door [.sl .any,.sl .any,.sl .any,.sl .any,.sl .any]]]⟩ (v3,()))) w⟩
theorem mM:LS Tryz.prog gY [0] (bx 0 cf aW):=aN st (ac hY) _ aW [] trivial
theorem lO {v0:List Half}{v1 v2:Int}{v3:Door}(h0:0≤v2)(h1:v1≤4611686018427387904)(h2:sS v0)(h3:am v3)(h4:v1≤(v0.length:Int)):(aW (v0,v1,v2,v3,())).U v1 (λ_ _=>True) (λp=>v2≤p∧p<v1):=
 LC.okU (i:=v2) (a:=()) (λ_ _=>rfl) (λ_=>rfl) rfl h0 h1 trivial λv2 _ hj hk hv=>by
  refine Tr.G2 ?_ λ_=>Tr.C ?_ λ_ _ _=>Tr.I (λ_=>Tr.Ro ?_) λ_=>Tr.Rn trivial
  all_goals (grind)
noncomputable def fv:FT (List Half×Door×Unit) (Int) (λx=>sS x.1∧am x.2.1) (λx v=> -1≤v∧v<x.1.length):=⟨λ(x0,y1_0,_)=>
  .lp (aW (x0,(x0.length:Int),0,y1_0,())).lp λw3=> .sum w3 (λp3a0=>
  .ret p3a0)<|
  λ_=>
  .ret (-1),
 λ(x0,y1_0,_) hp=>by
  refine Tr.L (lO ?_ ?_ ?_ ?_ ?_) (λ_ _=>Tr.Sr (Tr.R ?_)) (λp3a0 _=>Tr.Sl (Tr.R ?_))
  all_goals ((try simp only[aW,LC.lp,LC.ct,Ct.lp]at*)<;>grind)⟩
noncomputable def n3:=cI st gY hY [(bx 0 cf aW)] [.sc (.sl .half),.fn 106 [0]] [.box [.st .door]] (λx y=>(x.1,y.1.1,())) fv (λv=>[(false,[.c (.int .i64 v)])]) (λx y v=>((y.1.1,()),())) Tryz.func207 (by kernel_rfl) ⟨mM,trivial⟩
noncomputable def cA:FT (List Half×Door×Unit) (Bool) (λx=>sS x.1∧am x.2.1) (λ_ _=>True):=⟨λ(x0,y1_0,_)=>
  .cal fv.c (x0,y1_0,()) λc1=>
  .ret (decide (0≤c1)),
 λ(x0,y1_0,_) hp=>by
  refine Tr.C ?_ λ_ _ _=>Tr.R trivial
  all_goals (grind)⟩
noncomputable def lQ:=cI st ⟨105,Tryz.f105,[],1⟩ [n3] [] [.sc (.sl .half),.fn 106 [0]] [.box [.st .door]] (λx y=>(x.1,y.1.1,())) cA (λv=>[(false,[.c (.bool v)])]) (λx y v=>((y.1.1,()),())) Tryz.func105 (by kernel_rfl) trivial
noncomputable def Tl:=[cx,yc,D4,zC,bV,lQ]
noncomputable def Tp:Fx:=⟨25,Tryz.f25,[(3000001,rA 0 50)],0⟩
noncomputable def bB:FT (Door×Unit) (Bool) (λx=>am x.1) (λx v=>(v=true→x.1.table.conns.length≤16)):=⟨λ(x0,_)=>
  .bnd (β:=Bool×Unit) (.cal ai.c (x0.port,16,()) λc1=>
   .ite (!c1) (.ret (true,()))<|
   .cal ai.c (x0.clock,32,()) λc2=>
   .ite (!c2) (.ret (true,()))<|
   .cal bL.c (x0.keys,()) λc3=>
   .ite (!c3) (.ret (true,()))<|
   .cal ck.c (x0.table,x0.limits,()) λc4=>
   .ite (!c4) (.ret (true,()))<|
   .cal fW.c (x0.halves,()) λc5=>
   .ite (!c5) (.ret (true,()))<|
   .ite (decide (x0.limits.halves<(x0.halves.length:Int))) (.ret (true,()))<|
   .val (bo.f (x0.chal,0,x0.limits.chal,())) λc6=>
   .ret ((!c6),())) λ(u7a0,_)=>
  .ite u7a0 (.ret false)<|
  .cal cA.c (x0.halves,x0,()) λc8=>
  .ret (!c8),
 λ(x0,_) hp=>by
  refine Tr.B (Q':=λw=>(w.1=false→0≤x0.keys.epoch∧x0.keys.epoch≤4294967295∧x0.table.conns.length≤16∧x0.table.waiting.length≤16∧x0.halves.length≤64)) (Tr.C trivial λ_ _ _=>Tr.I (λ_=>Tr.R ?_) λ_=>Tr.C trivial λ_ _ _=>Tr.I (λ_=>Tr.R ?_) λ_=>Tr.C ?_ λ_ _ _=>Tr.I (λ_=>Tr.R ?_) λ_=>Tr.C ?_ λ_ _ _=>Tr.I (λ_=>Tr.R ?_) λ_=>Tr.C ?_ λ_ _ _=>Tr.I (λ_=>Tr.R ?_) λ_=>Tr.I (λ_=>Tr.R ?_) λ_=>Tr.V λ_ _=>Tr.R ?_) (λ(u7a0,_) _ _=>Tr.I (λ_=>Tr.R ?_) λ_=>Tr.C ?_ λ_ _ _=>Tr.R ?_)
  all_goals ((try simp only[Tr.nice,bu]at*)<;>grind)⟩
noncomputable def pC:=aZ st Tp Tl [] (ks:=[.st .door]) bB (λv=>[(false,[.c (.bool v)])]) Tryz.func25 trivial
noncomputable def j3:FT (Stac×Unit) (Bool) (λx=>kJ x.1) (λx v=>(v=true→x.1.door.table.conns.length≤16)):=⟨λ(x0,_)=>
  .cal AC.c (x0.link,()) λc1=>
  .ite c1 (.cal bB.c (x0.door,()) λc2=>
   .ret c2)<|
  .ret false,
 λ(x0,_) hp=>by
  refine Tr.C ?_ λ_ _ _=>Tr.I (λ_=>Tr.C ?_ λ_ _ _=>Tr.R ?_) λ_=>Tr.R ?_
  all_goals (grind)⟩
noncomputable def QT:=bi st Tryz.func32 [S5,pC] (ks:=[.st .stac]) j3 (λv=>[(false,[.c (.bool v)])])
noncomputable def qg:FT (Int×Int×Int×Limi×Mac×Unit) (Stac×Bool) (λx=>bv x.2.2.2.2.1) (λx v=>kJ v.1∧v.1.door.table.conns=[]):=⟨λ(x0,x1,x2,x3,x4,_)=>
  .cal iO.c (x4,()) λc1=>
  .cal j3.c ((⟨⟨x0,x1,[]⟩,⟨x2,0,⟨0,c1,⟨false,0,0,[]⟩,false⟩,x3,[],⟨[],[]⟩,0⟩⟩:Stac),()) λc2=>
  .ite (!c2) (.ret ((⟨⟨0,0,[]⟩,⟨0,0,⟨0,⟨false,0,0,[]⟩,⟨false,0,0,[]⟩,false⟩,⟨0,0,0,0⟩,[],⟨[],[]⟩,0⟩⟩:Stac),false))<|
  .ret ((⟨⟨x0,x1,[]⟩,⟨x2,0,⟨0,c1,⟨false,0,0,[]⟩,false⟩,x3,[],⟨[],[]⟩,0⟩⟩:Stac),true),
 λ(x0,x1,x2,x3,x4,_) hp=>by
  refine Tr.C ?_ λ_ _ _=>Tr.C ?_ λ_ _ _=>Tr.I (λ_=>Tr.R ?_) λ_=>Tr.R ?_
  all_goals (grind)⟩
noncomputable def Ns:=bi st Tryz.func42 [oT,QT] (ks:=[.sc (.int .i64),.sc (.int .i64),.sc (.int .i64),.st .limi,.st .mac]) qg (λv=>[(true,V0 (.o true) (.o true) (.o true) (.o true) (.o true) (.o true) v.1),(false,[.c (.bool v.2)])])
noncomputable def Uu:=[kq,pC,lG,nK,Tc,mj,iA,ED,Od]
noncomputable def Vd:Fx:=⟨185,Tryz.f185,[(3000002,rA 0 25)],0⟩
noncomputable def qX:FT (Door×Tupl×Segm×Unit) (Door×List Segm) (λx=>am x.1∧aj x.2.2.1) (λx v=>am v.1∧sL aj v.2∧v.1.table.conns.length=x.1.table.conns.length):=⟨λ(x0,x1,x2,_)=>
  .cal eE.c (x0,()) λc1=>
  .bnd (β:=Bool×Unit) (.cal bB.c (x0,()) λc2=>
   .ite (!c2) (.ret (true,()))<|
   .cal aD.c (x1,()) λc3=>
   .ite (!c3) (.ret (true,()))<|
   .cal ao.c (x2,()) λc4=>
   .ret ((!c4),())) λ(u5a0,_)=>
  .ite u5a0 (.ret (c1,[]))<|
  .cal fj.c (x0,x1,x2,()) λc6=>
  .cal aC.c (x0.halves,x1,()) λc7=>
  .ite (decide (0≤c7)) (.grd ((decide (0≤c7))&&(decide (c7<(x0.halves.length:Int))))<|
   .ite ((x0.halves.getD c7.toNat (Ty.zero .half)).irs != x2.seq) (.ret (c1,[]))<|
   .grd ((decide (0≤c7))&&(decide (c7<(x0.halves.length:Int))))<|
   .ret (c1,[({c6 with seq:=(x0.halves.getD c7.toNat (Ty.zero .half)).iss}:Segm)]))<|
  .cal au.c (x0.table,x1,()) λc8=>
  .ite (decide (c8<0)) (.val (kx.f (x2.opts,())) λc9=>
   .cal ni.c (x0.halves,(⟨x1,c6.seq,x2.seq,c9,0,x2.window⟩:Half),x0.limits.halves,()) λc10=>
   .ret (({c1 with halves:=c10.1}:Door),[c6]))<|
  .ret (c1,[c6]),
 λ(x0,x1,x2,_) hp=>by
  refine Tr.C ?_ λ_ _ _=>Tr.B (Q':=λw=>(w.1=false→x0.table.conns.length≤16∧x2.body.length≤1420)) (Tr.C ?_ λ_ _ _=>Tr.I (λ_=>Tr.R ?_) λ_=>Tr.C trivial λ_ _ _=>Tr.I (λ_=>Tr.R ?_) λ_=>Tr.C trivial λ_ _ _=>Tr.R ?_) (λ(u5a0,_) _ _=>Tr.I (λ_=>Tr.R ?_) λ_=>Tr.C ?_ λ_ _ _=>Tr.C ?_ λ_ _ _=>Tr.I (λ_=>Tr.G2 ?_ λ_=>Tr.I (λ_=>Tr.R ?_) λ_=>Tr.G2 ?_ λ_=>Tr.R ?_) λ_=>Tr.C ?_ λ_ _ _=>Tr.I (λ_=>Tr.V λ_ _=>Tr.C ?_ λ_ _ _=>Tr.R ?_) λ_=>Tr.R ?_)
  all_goals ((try simp only[Tr.nice,bu]at*)<;>grind)⟩
noncomputable def UJ:=aZ st Vd Uu [] (ks:=[.st .door,.st .tupl,.st .segm]) qX (λv=>[(true,ji (.o true) (.o true) (.o true) (.o true) (.o true) v.1),(false,[sc (.o true) .segm v.2])]) Tryz.func185 trivial
noncomputable def UC:=[kq,pC,lG,nK,iA,mj,fH,Gs,Qd,En,yB,Rj,De,C1,AH]
def xw:An:=⟨⟨[],[],false,0⟩,⟨[3,4,5,6,7,8,9,10,11],[],false,0⟩,⟨[],[]⟩,[(.ret,⟨[zp 3 0,zp 4 1,zp 5 2,zp 6 3,(7,false,[.own 4]),zi 8,zp 9 5,zp 10 6,zi 11],[.box [.st .door [.sl .arg,.sl .arg,.sl .arg,.sl .arg,.sl .arg]],.box [.st .tupl []],.box [.st .segm []],.box [.st .door [.own 7,.own 8,.own 9,.own 10,.own 11]],.arr .segm false true,.box [.st .door [.own 7,.own 8,.own 9,.own 10,.own 11]],.box [.st .conn [.nil .piec]],.of false true,.of false true,.of false true,.of false true,.of false true]⟩),(.ret,⟨[zp 3 0,zp 4 1,zp 5 2,zp 6 3,(7,false,[.nil]),zi 8,zp 9 4,zp 10 5,zi 11],[.box [.st .door [.sl .arg,.sl .arg,.sl .arg,.sl .arg,.sl .arg]],.box [.st .tupl []],.box [.st .segm []],.box [.st .door [.own 6,.own 7,.own 8,.own 9,.own 10]],.box [.st .door [.own 6,.own 7,.own 8,.own 9,.own 10]],.box [.st .conn [.nil .piec]],.of false true,.of false true,.of false true,.of false true,.of false true]⟩),(.normal,⟨[zp 3 0,zp 4 1,zp 5 2,zp 6 3,(7,false,[.nil]),zi 8,zp 9 4,zp 10 5,zi 11],[.box [.st .door [.sl .arg,.sl .arg,.sl .arg,.sl .arg,.sl .arg]],.box [.st .tupl []],.box [.st .segm []],.box [.st .door [.nil .macRow,.nil .macRow,.nil .half,.nil .conn,.nil .tupl]],.box [.st .door [.own 6,.own 7,.own 8,.own 9,.own 10]],.box [.st .conn [.own 11]],.of false true,.of false true,.of false true,.of false true,.of false true,.of false true]⟩)]⟩
noncomputable def VE:Fx:=⟨186,Tryz.f186,[(1000051,xw),(3000002,rA 0 44)],0⟩
noncomputable def FE:FT (Door×Tupl×Segm×Unit) (Door×List Segm×Int) (λx=>am x.1∧aj x.2.2.1) (λx v=>am v.1∧sL aj v.2.1∧x.1.table.conns.length≤v.1.table.conns.length):=⟨λ(x0,x1,x2,_)=>
  .cal eE.c (x0,()) λc1=>
  .bnd (β:=Bool×Unit) (.cal bB.c (x0,()) λc2=>
   .ite (!c2) (.ret (true,()))<|
   .cal aD.c (x1,()) λc3=>
   .ite (!c3) (.ret (true,()))<|
   .cal ao.c (x2,()) λc4=>
   .ite (!c4) (.ret (true,()))<|
   .cal au.c (x0.table,x1,()) λc5=>
   .ret ((decide (0≤c5)),())) λ(u6a0,_)=>
  .ite u6a0 (.ret (c1,[],0))<|
  .cal aC.c (x0.halves,x1,()) λc7=>
  .bnd (β:=WT xw.es) (.ite (decide (0≤c7)) (.grd ((decide (0≤c7))&&(decide (c7<(x0.halves.length:Int))))<|
    .val (bM.f ((x0.halves.getD c7.toNat (Ty.zero .half)).iss,1,())) λc8=>
    .ite (x2.ack != c8) (.cal iV.c (x2,()) λc9=>
     .ret (.inl (0,1,x0,x1,x2,c1,c9,c1,(⟨⟨0,0,0⟩,0,⟨0,[],0,false,false,false⟩,⟨0,[],[],0,false⟩,0,0,⟨0,0,false,false,0,0⟩,0,0⟩:Conn),())))<|
    .val (bM.f ((x0.halves.getD c7.toNat (Ty.zero .half)).irs,1,())) λc10=>
    .ite (x2.seq != c10) (.ret (.inr (.inl (0,1,x0,x1,x2,c1,c1,(⟨⟨0,0,0⟩,0,⟨0,[],0,false,false,false⟩,⟨0,[],[],0,false⟩,0,0,⟨0,0,false,false,0,0⟩,0,0⟩:Conn),()))))<|
    .cal sE.c (x1,(x0.halves.getD c7.toNat (Ty.zero .half)).iss,(x0.halves.getD c7.toNat (Ty.zero .half)).irs,(x0.halves.getD c7.toNat (Ty.zero .half)).opts,x2.window,()) λc11=>
    .ret (.inr (.inr ((0,1,x0,x1,x2,(⟨0,0,⟨0,⟨false,0,0,[]⟩,⟨false,0,0,[]⟩,false⟩,⟨0,0,0,0⟩,[],⟨[],[]⟩,0⟩:Door),c1,c11,())))))<|
   .val (bM.f (x2.seq,(-1),())) λc12=>
   .val (bM.f (x2.ack,(-1),())) λc13=>
   .cal ba.c (x0.keys,x1,c12,c13,()) λc14=>
   .ite (!c14.2.2) (.cal iV.c (x2,()) λc15=>
    .ret (.inl (0,1,x0,x1,x2,c1,c15,c1,(⟨⟨0,0,0⟩,0,⟨0,[],0,false,false,false⟩,⟨0,[],[],0,false⟩,0,0,⟨0,0,false,false,0,0⟩,0,0⟩:Conn),())))<|
   .cal bp.c (c14.2.1,x2.opts,()) λc16=>
   .cal sE.c (x1,c13,c12,c16,x2.window,()) λc17=>
   .ret (.inr (.inr ((0,2,x0,x1,x2,(⟨0,0,⟨0,⟨false,0,0,[]⟩,⟨false,0,0,[]⟩,false⟩,⟨0,0,0,0⟩,[],⟨[],[]⟩,0⟩:Door),c1,c17,()))))) λw18=> .sum w18 (λ(u18a0,_,_,_,_,u18a5,u18a6,_,_,_)=>
  .ret (u18a5,u18a6,u18a0))<|
  λw18=> .sum w18 (λ(u18b0,_,_,_,_,u18b5,_,_,_)=>
  .ret (u18b5,[],u18b0))<|
  λ(_,u18c1,u18c2,u18c3,u18c4,_,u18c6,u18c7,_)=>
  .cal lv.c (u18c2.table,u18c7,u18c2.limits,()) λc19=>
  .ite (!c19.2) (.ret (u18c6,[],0))<|
  .cal nj.c (u18c7,u18c4,()) λc20=>
  .cal eN.c (c19.1,c20.1,()) λc21=>
  .cal ne.c (u18c2.halves,u18c3,()) λc22=>
  .ret (({u18c6 with halves:=c22,table.conns:=c21.conns,table.waiting:=c21.waiting}:Door),c20.2.1,u18c1),
 λ(x0,x1,x2,_) hp=>by
  refine Tr.C ?_ λc1 hc1 qc1=>Tr.B (Q':=λw=>(w.1=false→x0.table.conns.length≤16∧x2.body.length≤1420)) (Tr.C ?_ λc2 hc2 qc2=>Tr.I (λb0=>Tr.R ?_) λb0=>Tr.C trivial λc3 hc3 qc3=>Tr.I (λb1=>Tr.R ?_) λb1=>Tr.C trivial λc4 hc4 qc4=>Tr.I (λb2=>Tr.R ?_) λb2=>Tr.C ?_ λc5 hc5 qc5=>Tr.R ?_) (λ(u6a0,_) hj6 qj6=>Tr.I (λb0=>Tr.R ?_) λb0=>Tr.C ?_ λc7 hc7 qc7=>Tr.B (Q':=(Sum.elim (λw=>am w.2.2.1∧aj w.2.2.2.2.1∧am w.2.2.2.2.2.1∧sL aj w.2.2.2.2.2.2.1∧am w.2.2.2.2.2.2.2.1∧aa w.2.2.2.2.2.2.2.2.1∧x0.table.conns.length≤w.2.2.2.2.2.1.table.conns.length) (Sum.elim (λw=>am w.2.2.1∧aj w.2.2.2.2.1∧am w.2.2.2.2.2.1∧am w.2.2.2.2.2.2.1∧aa w.2.2.2.2.2.2.2.1∧x0.table.conns.length≤w.2.2.2.2.2.1.table.conns.length) (λw=>am w.2.2.1∧aj w.2.2.2.2.1∧am w.2.2.2.2.2.1∧am w.2.2.2.2.2.2.1∧aa w.2.2.2.2.2.2.2.1∧w.2.2.1=x0∧x0.table.conns.length≤w.2.2.2.2.2.2.1.table.conns.length)))) (Tr.I (λb1=>Tr.G2 ?_ λg2=>Tr.V λc8 hc8=>Tr.I (λb3=>Tr.C ?_ λc9 hc9 qc9=>Tr.R ?_) λb3=>Tr.V λc10 hc10=>Tr.I (λb4=>Tr.R ?_) λb4=>Tr.C trivial λc11 hc11 qc11=>Tr.R ?_) λb1=>Tr.V λc12 hc12=>Tr.V λc13 hc13=>Tr.C ?_ λc14 hc14 qc14=>Tr.I (λb2=>Tr.C ?_ λc15 hc15 qc15=>Tr.R ?_) λb2=>Tr.C trivial λc16 hc16 qc16=>Tr.C trivial λc17 hc17 qc17=>Tr.R ?_) (λ_ _ q18=>Tr.E q18 (λ(u18a0,u18a1,u18a2,u18a3,u18a4,u18a5,u18a6,u18a7,u18a8,_) _=>Tr.R ?_) (λ_ q18=>Tr.E q18 (λ(u18b0,u18b1,u18b2,u18b3,u18b4,u18b5,u18b6,u18b7,_) _=>Tr.R ?_) (λ(u18c0,u18c1,u18c2,u18c3,u18c4,u18c5,u18c6,u18c7,_) _=>Tr.C ?_ λc19 hc19 qc19=>Tr.I (λb1=>Tr.R ?_) λb1=>Tr.C ?_ λc20 hc20 qc20=>Tr.C ?_ λc21 hc21 qc21=>Tr.C ?_ λc22 hc22 qc22=>Tr.R ?_))))
  all_goals ((try simp only[Tr.nice,bu]at*)<;>grind)⟩
noncomputable def Uq:=aZ st VE UC [] (ks:=[.st .door,.st .tupl,.st .segm]) FE (λv=>[(true,ji (.o true) (.o true) (.o true) (.o true) (.o true) v.1),(false,[sc (.o true) .segm v.2.1]),(false,[.c (.int .i64 v.2.2)])]) Tryz.func186 trivial
noncomputable def aw:FT (Curs×List Int×Unit) (Int×Curs) (λx=>ae x.1∧sS x.2.1∧0<x.2.1.length) (λx v=>ae v.2∧(dP (λn:Int=>0≤n∧n≤1048576) x.2.1→0≤v.1∧v.1≤1048576)∧(dP (λn:Int=>0≤n∧n≤19) x.2.1→0≤v.1∧v.1≤19)):=⟨λ(y0,x1,_)=>
  .cal af.c (y0,(x1.length:Int),()) λc1=>
  .grd ((decide (0≤c1.1))&&(decide (c1.1<(x1.length:Int))))<|
  .ret ((x1.getD c1.1.toNat 0),c1.2),
 λ(y0,x1,_) hp=>by
  refine Tr.C ?_ λc1 hc1 qc1=>Tr.G2 ?_ λg0=>Tr.R ?_
  all_goals ((first|grind|(refine⟨by grind,λhn=> ?_,λhn=> ?_⟩;exact cD (p:=λn:Int=>0≤n∧n≤1048576) hn (by omega) _;exact cD (p:=λn:Int=>0≤n∧n≤19) hn (by omega) _)))⟩
noncomputable def aJ:=cI st ⟨70,Tryz.f70,[],1⟩ [aE] [] [.wr false [.ptr 0],.sc (.sl .i64)] [.box [.st .curs]] (λx y=>(y.1.1,x.2.1,())) aw (λv=>[(false,[.c (.int .i64 v.1)])]) (λx y v=>((v.2,()),())) Tryz.func70 (by kernel_rfl) trivial
noncomputable def xf:=[Vs,MZ,UX,Mr,Ns,OU,Le,DX,KI,JU]
noncomputable def xh:Fx:=⟨7,Tryz.f7,[(3000008,rA 0 58),(3000014,rA 0 79),(3000025,rA 0 110)],0⟩
noncomputable def gq:FX (Int×Int×Int×Limi×Mac×Unit) (Bool) (λ_=>True) (lx [.sc (.int .i64),.sc (.int .i64),.sc (.int .i64),.st .limi,.st .mac]):=⟨λ(x0,x1,x2,x3,x4,_)=>
  .cal wM.c (x4,1048576,()) λc1=>
  .ite (decide (c1<0)) (.ret true)<|
  .val (nq.f (x3,())) λc2=>
  .cal sW.c (x4,()) λc3=>
  .cal sX.c (x0,x1,x2,c2,c3,()) λc4=>
  .cal sW.c (x4,()) λc5=>
  .val (nq.f (x3,())) λc6=>
  .cal qg.c (x0,x1,x2,c6,c5,()) λc7=>
  .bnd (β:=Bool×Unit) (.cal pb.c (c7.1,c4.1,()) λc8=>
   .ite (!c8) (.ret (true,()))<|
   .ret ((!(c7.2==c4.2)),())) λ(u9a0,_)=>
  .ite u9a0 (.ret false)<|
  .cal sW.c (x4,()) λc10=>
  .cal ww.c (c5,c10,()) λc11=>
  .ite (!c11) (.ret false)<|
  .cal sk.c (c5,1,()) λc12=>
  .bnd (β:=Bool×Unit) (.ite (decide (c12.1<0)) (.ret (true,()))<|
   .cal pb.c (c7.1,c4.1,()) λc13=>
   .ite (!c13) (.ret (true,()))<|
   .ret ((!(c7.2==c4.2)),())) λ(u14a0,_)=>
  .ite u14a0 (.ret false)<|
  .cal vf.c (c7.1,1,()) λc15=>
  .cal qD.c (({c7.1 with link.cache:=c15.2.1,door.keys.now.rows:=c15.2.2.1,door.keys.before.rows:=c15.2.2.2.1,door.halves:=c15.2.2.2.2.1,door.table.waiting:=c15.2.2.2.2.2}:Stac),1,()) λc16=>
  .ite (decide (c16<0)) (.ret false)<|
  .ite (c16 != c15.1) (.ret false)<|
  .val (nq.f (x3,())) λc17=>
  .cal sW.c (x4,()) λc18=>
  .cal qg.c (x0,x1,x2,c17,c18,()) λc19=>
  .bnd (β:=Bool×Unit) (.cal pb.c (c19.1,c4.1,()) λc20=>
   .ite (!c20) (.ret (true,()))<|
   .ret ((!(c19.2==c4.2)),())) λ(u21a0,_)=>
  .ite u21a0 (.ret false)<|
  .cal qD.c (({c7.1 with link.cache:=c15.2.1,door.keys.now.rows:=c15.2.2.1,door.keys.before.rows:=c15.2.2.2.1,door.halves:=c15.2.2.2.2.1,door.table.waiting:=c15.2.2.2.2.2}:Stac),1,()) λc22=>
  .ite (decide (c22<0)) (.ret false)<|
  .ite (c22 != c15.1) (.ret false)<|
  .ret true,
 λ(x0,x1,x2,x3,x4,_) hp hf=>by
  simp only[lx,Pk.fact,xS,sr,Fl.fact,Ty.fl,Ty.toH]at hf
  refine Tr.C trivial λc1 hc1 qc1=>Tr.I (λb0=>Tr.R trivial) λb0=>Tr.V λc2 hc2=>Tr.C ?_ λc3 hc3 qc3=>Tr.C ?_ λc4 hc4 qc4=>Tr.C ?_ λc5 hc5 qc5=>Tr.V λc6 hc6=>Tr.C ?_ λc7 hc7 qc7=>Tr.B (Q':=λ_=>True) (Tr.C ?_ λc8 hc8 qc8=>Tr.F (by kernel_rfl) trivial) (λ(u9a0,_) hj9 qj9=>Tr.I (λb1=>Tr.R trivial) λb1=>Tr.C ?_ λc10 hc10 qc10=>Tr.C ?_ λc11 hc11 qc11=>Tr.I (λb2=>Tr.R trivial) λb2=>Tr.C ?_ λc12 hc12 qc12=>Tr.B (Q':=λ_=>True) (Tr.I (λb3=>Tr.R trivial) λb3=>Tr.C ?_ λc13 hc13 qc13=>Tr.F (by kernel_rfl) trivial) (λ(u14a0,_) hj14 qj14=>Tr.I (λb3=>Tr.R trivial) λb3=>Tr.C ?_ λc15 hc15 qc15=>Tr.C ?_ λc16 hc16 qc16=>Tr.I (λb4=>Tr.R trivial) λb4=>Tr.I (λb5=>Tr.R trivial) λb5=>Tr.V λc17 hc17=>Tr.C ?_ λc18 hc18 qc18=>Tr.C ?_ λc19 hc19 qc19=>Tr.B (Q':=λ_=>True) (Tr.C ?_ λc20 hc20 qc20=>Tr.F (by kernel_rfl) trivial) (λ(u21a0,_) hj21 qj21=>Tr.I (λb6=>Tr.R trivial) λb6=>Tr.C ?_ λc22 hc22 qc22=>Tr.F (by kernel_rfl) trivial)))
  all_goals ((try simp only[Tr.nice,bu]at*)<;>(first|grind|(have hm:=(PG x4 hf.2.2.2.2.1.2.2.2.1.1 hf.2.2.2.2.1.2.2.2.1.2 (by rw[←hc1];simpa using b0)).1;grind)))⟩
noncomputable def wY:=Xy st xh xf [] (ks:=[.sc (.int .i64),.sc (.int .i64),.sc (.int .i64),.st .limi,.st .mac]) gq (λv=>[(false,[.c (.bool v)])]) Tryz.func7 trivial
noncomputable def Ve:=[kq,pC,cx,nK,Q1,Gs,iA,De,C1,wG,mj,fH,AH,UJ,Uq]
def xm:An:=⟨⟨[],[],false,0⟩,⟨[3,6,7,8,9,12,13],[],false,0⟩,⟨[],[]⟩,[(.normal,⟨[zp 3 0,zp 6 1,(7,false,[.nil]),zi 8,zp 9 2,zp 12 3,(13,false,[.nil])],[.box [.st .door [.sl .arg,.sl .arg,.sl .arg,.sl .arg,.sl .arg]],.box [.st .door [.nil .macRow,.nil .macRow,.nil .half,.nil .conn,.nil .tupl]],.box [.st .door [.own 4,.own 5,.own 6,.own 7,.own 8]],.box [.st .conn [.own 9]],.of false true,.of false true,.of false true,.of false true,.of false true,.of false true]⟩),(.normal,⟨[zp 3 0,zp 6 1,(7,false,[.nil]),zi 8,zp 9 2,zp 12 3,(13,false,[.own 4])],[.box [.st .door [.sl .arg,.sl .arg,.sl .arg,.sl .arg,.sl .arg]],.box [.st .door [.nil .macRow,.nil .macRow,.nil .half,.nil .conn,.nil .tupl]],.box [.st .door [.own 5,.own 6,.own 7,.own 8,.own 9]],.box [.st .conn [.own 10]],.arr .segm false true,.of false true,.of false true,.of false true,.of false true,.of false true,.of false true]⟩)]⟩
noncomputable def Ui:Fx:=⟨76,Tryz.f76,[(1000064,xm),(3000002,rA 0 32),(3000018,rA 0 102),(3000021,rA 0 109),(3000024,rA 0 131)],0⟩
noncomputable def wX:FT (Door×Int×Segm×Unit) (Door×List Segm×Int) (λx=>am x.1∧aj x.2.2.1) (λx v=>am v.1∧sL aj v.2.1∧x.1.table.conns.length≤v.1.table.conns.length):=⟨λ(x0,x1,x2,_)=>
  .cal eE.c (x0,()) λc1=>
  .bnd (β:=Bool×Unit) (.cal bB.c (x0,()) λc2=>
   .ite (!c2) (.ret (true,()))<|
   .cal ai.c (x1,32,()) λc3=>
   .ite (!c3) (.ret (true,()))<|
   .cal ao.c (x2,()) λc4=>
   .ret ((!c4),())) λ(u5a0,_)=>
  .ite u5a0 (.ret (c1,[],0))<|
  .val (wN.f (x1,x2,())) λc6=>
  .ite (x2.to != x0.port) (.cal iV.c (x2,()) λc7=>
   .ret (c1,c7,0))<|
  .cal au.c (x0.table,c6,()) λc8=>
  .ite (decide (0≤c8)) (.grd ((decide (0≤c8))&&(decide (c8<(x0.table.conns.length:Int))))<|
   .cal nj.c ((x0.table.conns.getD c8.toNat (Ty.zero .conn)),x2,()) λc9=>
   .bnd (β:=WT xm.es) (.ite (c9.2.2==3) (.ite (x0.chal==x0.limits.chal) (.ret (.inl (0,x0,(⟨0,0,⟨0,⟨false,0,0,[]⟩,⟨false,0,0,[]⟩,false⟩,⟨0,0,0,0⟩,[],⟨[],[]⟩,0⟩:Door),c1,c9.1,())))<|
     .ret (.inr ((0,x0,(⟨0,0,⟨0,⟨false,0,0,[]⟩,⟨false,0,0,[]⟩,false⟩,⟨0,0,0,0⟩,[],⟨[],[]⟩,0⟩:Door),({c1 with chal:=(IntKind.wrap .i64 (c1.chal+1))}:Door),c9.1,c9.2.1,()))))<|
    .ret (.inr ((0,x0,(⟨0,0,⟨0,⟨false,0,0,[]⟩,⟨false,0,0,[]⟩,false⟩,⟨0,0,0,0⟩,[],⟨[],[]⟩,0⟩:Door),c1,c9.1,c9.2.1,())))) λw10=> .sum w10 (λ(_,u10a1,_,u10a3,u10a4,_)=>
   .cal eN.c (u10a1.table,u10a4,()) λc11=>
   .ret (({u10a3 with table.conns:=c11.conns,table.waiting:=c11.waiting}:Door),[],0))<|
   λ(_,u10b1,_,u10b3,u10b4,u10b5,_)=>
   .cal eN.c (u10b1.table,u10b4,()) λc12=>
   .ret (({u10b3 with table.conns:=c12.conns,table.waiting:=c12.waiting}:Door),u10b5,0))<|
  .val (bc.f (x2,4,())) λc13=>
  .ite c13 (.cal aC.c (x0.halves,c6,()) λc14=>
   .bnd (β:=Bool×Unit) (.ite (decide (0≤c14)) (.grd ((decide (0≤c14))&&(decide (c14<(x0.halves.length:Int))))<|
     .val (bM.f ((x0.halves.getD c14.toNat (Ty.zero .half)).irs,1,())) λc15=>
     .ret ((x2.seq==c15),()))<|
    .ret (false,())) λ(u16a0,_)=>
   .ite u16a0 (.cal ne.c (x0.halves,c6,()) λc17=>
    .ret (({c1 with halves:=c17}:Door),[],0))<|
   .ret (c1,[],0))<|
  .bnd (β:=Bool×Unit) (.val (bc.f (x2,2,())) λc18=>
   .ite c18 (.val (bc.f (x2,16,())) λc19=>
    .ite (!c19) (.val (bc.f (x2,1,())) λc20=>
     .ret ((!c20),()))<|
    .ret (false,()))<|
   .ret (false,())) λ(u21a0,_)=>
  .ite u21a0 (.cal qX.c (x0,c6,x2,()) λc22=>
   .ret (c22.1,c22.2,0))<|
  .bnd (β:=Bool×Unit) (.val (bc.f (x2,16,())) λc23=>
   .ite c23 (.val (bc.f (x2,2,())) λc24=>
    .ret ((!c24),()))<|
   .ret (false,())) λ(u25a0,_)=>
  .ite u25a0 (.cal FE.c (x0,c6,x2,()) λc26=>
   .ret (c26.1,c26.2.1,c26.2.2))<|
  .val (bc.f (x2,16,())) λc27=>
  .ite c27 (.cal iV.c (x2,()) λc28=>
   .ret (c1,c28,0))<|
  .ret (c1,[],0),
 λ(x0,x1,x2,_) hp=>by
  refine Tr.C ?_ λc1 hc1 qc1=>Tr.B (Q':=λw=>(w.1=false→x0.table.conns.length≤16∧x2.body.length≤1420)) (Tr.C ?_ λc2 hc2 qc2=>Tr.I (λb0=>Tr.R ?_) λb0=>Tr.C trivial λc3 hc3 qc3=>Tr.I (λb1=>Tr.R ?_) λb1=>Tr.C trivial λc4 hc4 qc4=>Tr.R ?_) (λ(u5a0,_) hj5 qj5=>Tr.I (λb0=>Tr.R ?_) λb0=>Tr.V λc6 hc6=>Tr.I (λb1=>Tr.C ?_ λc7 hc7 qc7=>Tr.R ?_) λb1=>Tr.C ?_ λc8 hc8 qc8=>Tr.I (λb2=>Tr.G2 ?_ λg3=>Tr.C ?_ λc9 hc9 qc9=>Tr.B (Q':=(Sum.elim (λw=>am w.2.1∧am w.2.2.1∧am w.2.2.2.1∧aa w.2.2.2.2.1∧w.2.1=x0) (λw=>am w.2.1∧am w.2.2.1∧am w.2.2.2.1∧aa w.2.2.2.2.1∧sL aj w.2.2.2.2.2.1∧w.2.1=x0))) (Tr.I (λb4=>Tr.I (λb5=>Tr.R ?_) λb5=>Tr.R ?_) λb4=>Tr.R ?_) (λ_ _ q10=>Tr.E q10 (λ(u10a0,u10a1,u10a2,u10a3,u10a4,_) _=>Tr.C ?_ λc11 hc11 qc11=>Tr.R ?_) (λ(u10b0,u10b1,u10b2,u10b3,u10b4,u10b5,_) _=>Tr.C ?_ λc12 hc12 qc12=>Tr.R ?_))) λb2=>Tr.V λc13 hc13=>Tr.I (λb3=>Tr.C ?_ λc14 hc14 qc14=>Tr.B (Q':=λ_=>True) (Tr.I (λb4=>Tr.G2 ?_ λg5=>Tr.F (by kernel_rfl) trivial) λb4=>Tr.R trivial) (λ(u16a0,_) hj16 qj16=>Tr.I (λb4=>Tr.C ?_ λc17 hc17 qc17=>Tr.R ?_) λb4=>Tr.R ?_)) λb3=>Tr.B (Q':=λ_=>True) (Tr.F (by kernel_rfl) trivial) (λ(u21a0,_) hj21 qj21=>Tr.I (λb4=>Tr.C ?_ λc22 hc22 qc22=>Tr.R ?_) λb4=>Tr.B (Q':=λ_=>True) (Tr.F (by kernel_rfl) trivial) (λ(u25a0,_) hj25 qj25=>Tr.I (λb5=>Tr.C ?_ λc26 hc26 qc26=>Tr.R ?_) λb5=>Tr.V λc27 hc27=>Tr.I (λb6=>Tr.C ?_ λc28 hc28 qc28=>Tr.R ?_) λb6=>Tr.R ?_)))
  all_goals ((try simp only[Tr.nice,bu]at*)<;>grind)⟩
noncomputable def Vk:=aZ st Ui Ve [] (ks:=[.st .door,.sc (.int .i64),.st .segm]) wX (λv=>[(true,ji (.o true) (.o true) (.o true) (.o true) (.o true) v.1),(false,[sc (.o true) .segm v.2.1]),(false,[.c (.int .i64 v.2.2)])]) Tryz.func76 trivial
noncomputable def Dn:=[MK,kq,Vo,Vk,JX,Rh,iA,fw]
def mv:Sh:=⟨[zp 3 0,zp 4 1,zp 6 2,zp 7 3,zp 9 4,(10,false,[.own 5]),(42,false,[.sl .arg .mac]),zi 43,zi 44],[.box [.st .door [.sl .arg,.sl .arg,.sl .arg,.sl .arg,.sl .arg]],.box [.st .clie []],.box [.st .door [.nil .macRow,.nil .macRow,.nil .half,.nil .conn,.nil .tupl]],.box [.st .conn [.nil .piec]],.box [.st .door [.own 6,.own 7,.own 8,.own 9,.own 10]],.arr .segm false true,.of false true,.of false true,.of false true,.of false true,.of false true]⟩
noncomputable def DY:Fx:=⟨17,Tryz.f17,[(0,lb [3,4,6,7,9,10,42,43,44] [3,4,6,7,8,9,10]),(3000016,rA 0 85)],0⟩
noncomputable def pG (v0:List Mac)(v2:Int)(a:Door×Conn×Door):Tr (Stp (Door×Conn×Door) (Empty)):=
 .grd ((decide (0≤v2))&&(decide (v2<(v0.length:Int))))<|
 .cal lz.c (a.2.2,(v0.getD v2.toNat (Ty.zero .mac)),()) λc6=>
 .ret (.next (({a.1 with keys.now.rows:=[],keys.before.rows:=[],halves:=[],table.conns:=[],table.waiting:=[]}:Door),({a.2.1 with r.held:=[]}:Conn),c6))
noncomputable def fU:mv.V→LC mv (Door×Conn×Door) (Empty) (Int×(Door×Conn×Door)):=λ(v0,v1,v2,v3,v4,v5,v6,v7,v8,_)=>⟨v2,(v5,v6,v7),λv2 a=>(v0,v1,v2,v3,v4,a.1,a.2.1,a.2.2,v8,()),λv2 _=>(decide (v2<v1)),pG v0,up,1,(Int.toNat (v1-v2)),(λp=>Empty.elim p),λi a=>(i,a),λ_ k x=>k (.exit 0) (Sh.enc ⟨[zp 3 0,zp 4 1,zp 6 2,zp 7 3,zu 8,zp 9 4,(10,false,[.own 5])],[.box [.st .door [.sl .arg,.sl .arg,.sl .arg,.sl .arg,.sl .arg]],.box [.st .clie []],.box [.st .door [.nil .macRow,.nil .macRow,.nil .half,.nil .conn,.nil .tupl]],.box [.st .conn [.nil .piec]],.box [.st .door [.own 6,.own 7,.own 8,.own 9,.own 10]],.arr .segm false true,.of false true,.of false true,.of false true,.of false true,.of false true]⟩ (v3,v4,({x.2.1 with keys.now.rows:=[],keys.before.rows:=[],halves:=[],table.conns:=[],table.waiting:=[]}:Door),({x.2.2.1 with r.held:=[]}:Conn),x.2.2.2,v8,()))⟩
theorem Jc:LS Tryz.prog DY [0] (bx 0 mv fU):=aN st (ac Dn) _ fU [] trivial
theorem FY {v0:List Mac}{v1 v2:Int}{v3 v5 v7:Door}{v4:Clie}{v6:Conn}{v8:List Segm}(h0:0≤v2)(h1:v1≤4611686018427387904)(h2:sL bv v0)(h3:v1≤(v0.length:Int))(h4:am v5∧aa v6∧am v7):(fU (v0,v1,v2,v3,v4,v5,v6,v7,v8,())).U v1 (λv2 a=>am a.1∧aa a.2.1∧am a.2.2) (λ_=>True):=
 LC.okU (i:=v2) (a:=(v5,v6,v7)) (λ_ _=>rfl) (λ_=>rfl) rfl h0 h1 h4 λv2 (v5,v6,v7) hj hk hv=>by
  refine Tr.G2 ?_ λ_=>Tr.C ?_ λ_ _ _=>Tr.Rn ?_
  all_goals (grind)
noncomputable def sm:FT (Door×Clie×List Mac×Unit) (Door×Conn×Int) (λx=>am x.1∧sL bv x.2.2.1) (λx v=>am v.1∧aa v.2.1):=⟨λ(x0,x1,x2,_)=>
  .cal cU.c (x1,()) λc1=>
  .ite (!c1) (.cal eE.c (x0,()) λc2=>
   .ret (c2,(⟨⟨0,0,0⟩,0,⟨0,[],0,false,false,false⟩,⟨0,[],[],0,false⟩,0,0,⟨0,0,false,false,0,0⟩,0,0⟩:Conn),0))<|
  .cal FG.c (x1,()) λc3=>
  .cal wX.c (x0,x1.tuple.ip,c3,()) λc4=>
  .ite ((c4.2.1.length:Int)==0) (.cal eE.c (x0,()) λc5=>
   .ret (c5,(⟨⟨0,0,0⟩,0,⟨0,[],0,false,false,false⟩,⟨0,[],[],0,false⟩,0,0,⟨0,0,false,false,0,0⟩,0,0⟩:Conn),0))<|
  .lp (fU (x2,(x2.length:Int),0,x0,x1,(⟨0,0,⟨0,⟨false,0,0,[]⟩,⟨false,0,0,[]⟩,false⟩,⟨0,0,0,0⟩,[],⟨[],[]⟩,0⟩:Door),(⟨⟨0,0,0⟩,0,⟨0,[],0,false,false,false⟩,⟨0,[],[],0,false⟩,0,0,⟨0,0,false,false,0,0⟩,0,0⟩:Conn),c4.1,c4.2.1,())).lp λ(_,_,_,a7_2)=>
  .grd (decide (0<(c4.2.1.length:Int)))<|
  .cal jf.c (x1,(c4.2.1.getD 0 (Ty.zero .segm)),()) λc8=>
  .ite (!c8.2) (.cal eE.c (x0,()) λc9=>
   .ret (c9,(⟨⟨0,0,0⟩,0,⟨0,[],0,false,false,false⟩,⟨0,[],[],0,false⟩,0,0,⟨0,0,false,false,0,0⟩,0,0⟩:Conn),0))<|
  .cal wX.c (a7_2,x1.tuple.ip,c8.1,()) λc10=>
  .cal au.c (c10.1.table,x1.tuple,()) λc11=>
  .bnd (β:=Bool×Unit) (.ite (c10.2.2==0) (.ret (true,()))<|
   .ret ((decide (c11<0)),())) λ(u12a0,_)=>
  .ite u12a0 (.cal eE.c (x0,()) λc13=>
   .ret (c13,(⟨⟨0,0,0⟩,0,⟨0,[],0,false,false,false⟩,⟨0,[],[],0,false⟩,0,0,⟨0,0,false,false,0,0⟩,0,0⟩:Conn),0))<|
  .grd ((decide (0≤c11))&&(decide (c11<(c10.1.table.conns.length:Int))))<|
  .cal dj.c ((c10.1.table.conns.getD c11.toNat (Ty.zero .conn)),()) λc14=>
  .ret (c10.1,c14,c10.2.2),
 λ(x0,x1,x2,_) hp=>by
  refine Tr.C trivial λ_ _ _=>Tr.I (λ_=>Tr.C ?_ λ_ _ _=>Tr.R ?_) λ_=>Tr.C trivial λ_ _ _=>Tr.C ?_ λ_ _ _=>Tr.I (λ_=>Tr.C ?_ λ_ _ _=>Tr.R ?_) λ_=>Tr.L (FY ?_ ?_ ?_ ?_ ?_) (λ(a7_0,a7_1,a7_2) _=>Tr.G1 ?_ λ_=>Tr.C ?_ λ_ _ _=>Tr.I (λ_=>Tr.C ?_ λ_ _ _=>Tr.R ?_) λ_=>Tr.C ?_ λ_ _ _=>Tr.C ?_ λ_ _ _=>Tr.B (Q':=λ_=>True) (Tr.F (by kernel_rfl) trivial) (λ(u12a0,_) _ _=>Tr.I (λ_=>Tr.C ?_ λ_ _ _=>Tr.R ?_) λ_=>Tr.G2 ?_ λ_=>Tr.C ?_ λ_ _ _=>Tr.R ?_)) (λp=>Empty.elim p)
  all_goals ((try simp only[fU,LC.lp,LC.ct,Ct.lp,Tr.nice,bu]at*)<;>grind)⟩
noncomputable def Og:=aZ st DY Dn [(bx 0 mv fU)] (ks:=[.st .door,.st .clie,.sc (.sl .mac)]) sm (λv=>[(true,ji (.o true) (.o true) (.o true) (.o true) (.o true) v.1),(true,gO (.o true) v.2.1),(false,[.c (.int .i64 v.2.2)])]) Tryz.func17 ⟨Jc,trivial⟩
noncomputable def Iq:=[cV,aJ,th]
def nH:Sh:=⟨[zp 0 0,zi 3,zi 4],[.box [.st .curs [.sl .any]]]⟩
noncomputable def GF:Fx:=⟨290,Tryz.f290,[(0,la ⟨[0,3,4],[],false,1⟩ ⟨[2,3],[],false,1⟩)],1⟩
noncomputable def JL (v1:Int)(a:Int×Curs):Tr (Stp (Int×Curs) (Empty)):=
 .cal kA.c (a.2,()) λc3=>
 .ret (.next ((IntKind.wrap .i64 ((IntKind.wrap .i64 (256*a.1))+c3.1)),c3.2))
noncomputable def i2:nH.V→LC nH (Int×Curs) (Empty) (Int×(Int×Curs)):=λ(v0,v1,v2,_)=>⟨v1,(v0,v2),λv1 a=>(a.1,v1,a.2,()),λv1 _=>(decide (v1<4)),JL,up,1,(Int.toNat (4-v1)),(λp=>Empty.elim p),λi a=>(i,a),λ_ k x=>k (.exit 0) (Sh.enc ⟨[zu 2,zi 3],[.box [.st .curs [.sl .any]]]⟩ (x.2.1,x.2.2,()))⟩
theorem JO:LS Tryz.prog GF [0] (bx 0 nH i2):=aN st (ac Iq) _ i2 [] trivial
theorem Ki {v0 v1:Int}{v2:Curs}(h0:0≤v1)(h1:ae v2):(i2 (v0,v1,v2,())).U 4 (λv1 a=>ae a.2) (λ_=>True):=
 LC.okU (i:=v1) (a:=(v0,v2)) (λ_ _=>rfl) (λ_=>rfl) rfl h0 (by decide) h1 λv1 (v0,v2) hj hk hv=>by
  refine Tr.C ?_ λ_ _ _=>Tr.Rn ?_
  all_goals (grind)
noncomputable def iU:FT (Curs×Unit) (Int×Curs) (λx=>ae x.1) (λx v=>ae v.2):=⟨λ(y0,_)=>
  .cal bQ.c (y0,3,()) λc1=>
  .ite c1.1 (.cal aw.c (c1.2,[0,1,4294967295,2147483647,2147483648,4294967294],()) λc2=>
   .ret (c2.1,c2.2))<|
  .lp (i2 (0,0,c1.2,())).lp λ(_,a4_0,a4_1)=>
  .ret (a4_0,a4_1),
 λ(y0,_) hp=>by
  refine Tr.C ?_ λ_ _ _=>Tr.I (λ_=>Tr.C ?_ λ_ _ _=>Tr.R ?_) λ_=>Tr.L (Ki ?_ ?_) (λ(a4_0,a4_1) _=>Tr.R ?_) (λp=>Empty.elim p)
  all_goals ((try simp only[i2,LC.lp,LC.ct,Ct.lp]at*)<;>grind)⟩
noncomputable def jO:=cI st GF Iq [(bx 0 nH i2)] [.wr false [.ptr 0]] [.box [.st .curs]] (λx y=>(y.1.1,())) iU (λv=>[(false,[.c (.int .i64 v.1)])]) (λx y v=>((v.2,()),())) Tryz.func290 (by kernel_rfl) ⟨JO,trivial⟩
noncomputable def Kq:=[em,cV,aJ,aE,jO]
def CI:An:=⟨⟨[],[],false,1⟩,⟨[0,2,3],[],false,1⟩,⟨[],[]⟩,[(.normal,⟨[zp 0 0,zp 2 1,zp 3 2],[.box [.st .curs [.sl .any]],.box [.st .opti []],.box [.st .opti []]]⟩)]⟩
def ze:An:=⟨⟨[],[],false,1⟩,⟨[0,2,3],[],false,1⟩,⟨[],[]⟩,[(.normal,⟨[zp 0 0,zp 2 1,zp 3 2],[.box [.st .curs [.sl .any]],.box [.st .opti []],.box [.st .opti []]]⟩)]⟩
noncomputable def Kn:Fx:=⟨291,Tryz.f291,[(1000007,CI),(1000013,ze)],1⟩
noncomputable def lB:FT (Curs×Unit) (Opti×Curs) (λx=>ae x.1) (λx v=>ae v.2):=⟨λ(y0,_)=>
  .val (cr.f (())) λc1=>
  .cal bQ.c (y0,3,()) λc2=>
  .bnd (β:=Curs×Opti×Opti×Unit) (.ite (!c2.1) (.cal aw.c (c2.2,[536,1460,1300,64,65535,1],()) λc3=>
    .ret (c3.2,(⟨0,0,false,false,0,0⟩:Opti),({c1 with mss:=c3.1}:Opti),()))<|
   .ret (c2.2,(⟨0,0,false,false,0,0⟩:Opti),c1,())) λ(u4a0,u4a1,u4a2,_)=>
  .cal bQ.c (u4a0,2,()) λc5=>
  .bnd (β:=Curs×Opti×Opti×Unit) (.ite c5.1 (.cal af.c (c5.2,15,()) λc6=>
    .ret (c6.2,u4a1,({u4a2 with scale:=c6.1}:Opti),()))<|
   .ret (c5.2,u4a1,u4a2,())) λ(u7a0,_,u7a2,_)=>
  .cal bQ.c (u7a0,2,()) λc8=>
  .cal bQ.c (c8.2,2,()) λc9=>
  .ite c9.1 (.cal iU.c (c9.2,()) λc10=>
   .cal iU.c (c10.2,()) λc11=>
   .ret ((⟨u7a2.mss,u7a2.scale,c8.1,true,c10.1,c11.1⟩:Opti),c11.2))<|
  .ret (({u7a2 with sack:=c8.1}:Opti),c9.2),
 λ(y0,_) hp=>by
  refine Tr.V λ_ _=>Tr.C ?_ λ_ _ _=>Tr.B (Q':=λw=>ae w.1) (Tr.I (λ_=>Tr.C ?_ λ_ _ _=>Tr.R ?_) λ_=>Tr.R ?_) (λ(u4a0,u4a1,u4a2,_) _ _=>Tr.C ?_ λ_ _ _=>Tr.B (Q':=λw=>ae w.1) (Tr.I (λ_=>Tr.C ?_ λ_ _ _=>Tr.R ?_) λ_=>Tr.R ?_) (λ(u7a0,u7a1,u7a2,_) _ _=>Tr.C ?_ λ_ _ _=>Tr.C ?_ λ_ _ _=>Tr.I (λ_=>Tr.C ?_ λ_ _ _=>Tr.C ?_ λ_ _ _=>Tr.R ?_) λ_=>Tr.R ?_))
  all_goals ((try simp only[Tr.nice,bu]at*)<;>grind)⟩
noncomputable def kp:=cI st Kn Kq [] [.wr false [.ptr 0]] [.box [.st .curs]] (λx y=>(y.1.1,())) lB (λv=>[(true,pS v.1)]) (λx y v=>((v.2,()),())) Tryz.func291 (by kernel_rfl) trivial
noncomputable def nY:FT (Curs×Unit) (Segm×Curs) (λx=>ae x.1) (λx v=>aj v.1∧ae v.2):=⟨λ(y0,_)=>
  .cal aw.c (y0,[40000,40001,40002],()) λc1=>
  .cal iU.c (c1.2,()) λc2=>
  .cal aw.c (c2.2,[0,64,65535],()) λc3=>
  .cal lB.c (c3.2,()) λc4=>
  .ret ((⟨c1.1,80,c2.1,0,2,c3.1,c4.1,[]⟩:Segm),c4.2),
 λ(y0,_) hp=>by
  refine Tr.C ?_ λ_ _ _=>Tr.C ?_ λ_ _ _=>Tr.C ?_ λ_ _ _=>Tr.C ?_ λ_ _ _=>Tr.R ?_
  all_goals (grind)⟩
noncomputable def SF:=cI st ⟨210,Tryz.f210,[],1⟩ [aJ,jO,kp] [] [.wr false [.ptr 0]] [.box [.st .curs]] (λx y=>(y.1.1,())) nY (λv=>[(true,nk v.1)]) (λx y v=>((v.2,()),())) Tryz.func210 (by kernel_rfl) trivial
noncomputable def DG:=[th]
def l0:Sh:=⟨[zp 0 0,zi 1,(5,false,[.own 1]),zi 6],[.box [.st .curs [.sl .any]],.arr .u8 false true]⟩
noncomputable def CY:Fx:=⟨267,Tryz.f267,[(0,la ⟨[0,1,5,6],[.softo 0 0],false,1⟩ ⟨[4,5],[],false,1⟩)],1⟩
noncomputable def Gj (v1:Int)(a:Curs×List Int):Tr (Stp (Curs×List Int) (Empty)):=
 .cal kA.c (a.1,()) λc2=>
 .grd (Nat.ble ((2*(a.2.length+1)+1024)*1) aF)<|
 .ret (.next (c2.2,(a.2++[(IntKind.wrap .u8 c2.1)])))
noncomputable def gT:l0.V→LC l0 (Curs×List Int) (Empty) (Int×(Curs×List Int)):=λ(v0,v1,v2,v3,_)=>⟨v1,(v2,v3),λv1 a=>(v0,v1,a.1,a.2,()),λv1 _=>(decide (v1<v0)),Gj,up,1,(Int.toNat (v0-v1)),(λp=>Empty.elim p),λi a=>(i,a),λ_ k x=>k (.exit 0) (Sh.enc ⟨[zu 4,(5,false,[.own 1])],[.box [.st .curs [.sl .any]],.arr .u8 false true]⟩ (x.2.1,x.2.2,()))⟩
theorem H6:LS Tryz.prog CY [0] (bx 0 l0 gT):=aN st (ac DG) _ gT [] trivial
theorem GR {v0 v1:Int}{v2:Curs}{v3:List Int}(h0:0≤v1)(h1:v0≤4611686018427387904)(h2:v0≤4294967296)(h3:ae v2∧(v3.length:Int)=v1):(gT (v0,v1,v2,v3,())).U v0 (λv1 a=>ae a.1∧(a.2.length:Int)=v1) (λ_=>True):=
 LC.okU (i:=v1) (a:=(v2,v3)) (λ_ _=>rfl) (λ_=>rfl) rfl h0 h1 h3 λv1 (v2,v3) hj hk hv=>by
  refine Tr.C ?_ λ_ _ _=>Tr.Gb ?_ λ_=>Tr.Rn ?_
  all_goals (grind)
noncomputable def sa:FT (Curs×Int×Unit) (List Int×Curs) (λx=>ae x.1∧x.2.1≤1048576) (λx v=>sS v.1∧ae v.2):=⟨λ(y0,x1,_)=>
  .lp (gT (x1,0,y0,[],())).lp λ(_,a3_0,a3_1)=>
  .ret (a3_1,a3_0),
 λ(y0,x1,_) hp=>by
  refine Tr.L (GR ?_ ?_ ?_ ?_) (λ(a3_0,a3_1) _=>Tr.R ?_) (λp=>Empty.elim p)
  all_goals ((try simp only[gT,LC.lp,LC.ct,Ct.lp]at*)<;>grind)⟩
noncomputable def qY:=cI st CY DG [(bx 0 l0 gT)] [.wr false [.ptr 0],.sc (.int .i64)] [.box [.st .curs]] (λx y=>(y.1.1,x.2.1,())) sa (λv=>[(false,[sc (.o true) .u8 v.1])]) (λx y v=>((v.2,()),())) Tryz.func267 (by kernel_rfl) ⟨H6,trivial⟩
noncomputable def wB:FT (Curs×Unit) (Int×Curs) (λx=>ae x.1) (λx v=>ae v.2):=⟨λ(y0,_)=>
  .cal af.c (y0,3,()) λc1=>
  .ite (c1.1==0) (.cal aw.c (c1.2,[0,1,(-1),9,10,999999999999,1000000000000,9223372036854775807,4294967295,4294967296,65535,65536,(-9223372036854775808)],()) λc2=>
   .ret (c2.1,c2.2))<|
  .ite (c1.1==1) (.cal af.c (c1.2,1000000,()) λc3=>
   .ret ((IntKind.wrap .i64 (c3.1-500000)),c3.2))<|
  .cal af.c (c1.2,20,()) λc4=>
  .ret (c4.1,c4.2),
 λ(y0,_) hp=>by
  refine Tr.C ?_ λ_ _ _=>Tr.I (λ_=>Tr.C ?_ λ_ _ _=>Tr.R ?_) λ_=>Tr.I (λ_=>Tr.C ?_ λ_ _ _=>Tr.R ?_) λ_=>Tr.C ?_ λ_ _ _=>Tr.R ?_
  all_goals (first|grind|(simp only[sS,List.length_cons,List.length_nil];grind))⟩
noncomputable def vS:=cI st ⟨284,Tryz.f284,[],1⟩ [aE,aJ] [] [.wr false [.ptr 0]] [.box [.st .curs]] (λx y=>(y.1.1,())) wB (λv=>[(false,[.c (.int .i64 v.1)])]) (λx y v=>((v.2,()),())) Tryz.func284 (by kernel_rfl) trivial
noncomputable def Lj:FT (Curs×Unit) (Int×Curs) (λx=>ae x.1) (λx v=>ae v.2):=⟨λ(y0,_)=>
  .cal bQ.c (y0,12,()) λc1=>
  .ite c1.1 (.cal wB.c (c1.2,()) λc2=>
   .ret (c2.1,c2.2))<|
  .cal iU.c (c1.2,()) λc3=>
  .ret (c3.1,c3.2),
 λ(y0,_) hp=>by
  refine Tr.C ?_ λ_ _ _=>Tr.I (λ_=>Tr.C ?_ λ_ _ _=>Tr.R ?_) λ_=>Tr.C ?_ λ_ _ _=>Tr.R ?_
  all_goals (grind)⟩
noncomputable def Pb:=cI st ⟨409,Tryz.f409,[],1⟩ [cV,vS,jO] [] [.wr false [.ptr 0]] [.box [.st .curs]] (λx y=>(y.1.1,())) Lj (λv=>[(false,[.c (.int .i64 v.1)])]) (λx y v=>((v.2,()),())) Tryz.func409 (by kernel_rfl) trivial
noncomputable def qq:FT (Curs×Int×Unit) (Int×Curs) (λx=>ae x.1) (λx v=>ae v.2):=⟨λ(y0,x1,_)=>
  .cal af.c (y0,4,()) λc1=>
  .ite (c1.1==0) (.cal Lj.c (c1.2,()) λc2=>
   .ret (c2.1,c2.2))<|
  .ite (c1.1==1) (.cal aw.c (c1.2,[2147483647,2147483648,(-1),1,0],()) λc3=>
   .val (bg.f (x1,c3.1,())) λc4=>
   .ret (c4,c3.2))<|
  .cal af.c (c1.2,41,()) λc5=>
  .val (bg.f (x1,(IntKind.wrap .i64 (c5.1-20)),())) λc6=>
  .ret (c6,c5.2),
 λ(y0,x1,_) hp=>by
  refine Tr.C ?_ λ_ _ _=>Tr.I (λ_=>Tr.C ?_ λ_ _ _=>Tr.R ?_) λ_=>Tr.I (λ_=>Tr.C ?_ λ_ _ _=>Tr.V λ_ _=>Tr.R ?_) λ_=>Tr.C ?_ λ_ _ _=>Tr.V λ_ _=>Tr.R ?_
  all_goals (grind)⟩
noncomputable def ID:=cI st ⟨330,Tryz.f330,[],1⟩ [aE,Pb,aJ,cW] [] [.wr false [.ptr 0],.sc (.int .i64)] [.box [.st .curs]] (λx y=>(y.1.1,x.2.1,())) qq (λv=>[(false,[.c (.int .i64 v.1)])]) (λx y v=>((v.2,()),())) Tryz.func330 (by kernel_rfl) trivial
noncomputable def RQ:=[cW,aJ,em,aE,qY,cV,ID,ic]
def GC:An:=⟨⟨[],[],false,1⟩,⟨[0,6,7],[],false,1⟩,⟨[],[]⟩,[(.normal,⟨[zp 0 0,zp 6 1,zp 7 2],[.box [.st .curs [.sl .any]],.box [.st .segm []],.box [.st .segm []]]⟩)]⟩
noncomputable def RF:Fx:=⟨212,Tryz.f212,[(1000035,GC)],1⟩
noncomputable def Qk:FT (Curs×Segm×Segm×Unit) (Segm×Curs) (λx=>ae x.1∧aj x.2.1∧aj x.2.2.1) (λx v=>aj v.1∧ae v.2):=⟨λ(y0,x1,x2,_)=>
  .val (bg.f (x1.seq,1,())) λc1=>
  .val (bg.f (x2.seq,1,())) λc2=>
  .cal aw.c (y0,[0,9,65535],()) λc3=>
  .val (cr.f (())) λc4=>
  .cal af.c (c3.2,3,()) λc5=>
  .cal sa.c (c5.2,c5.1,()) λc6=>
  .ite x2.opts.stamp (.cal bQ.c (c6.2,6,()) λc7=>
   .bnd (β:=Curs×Segm×Segm×Unit) (.ite (!c7.1) (.val (bg.f (x1.opts.val,1,())) λc8=>
     .ret (c7.2,(⟨0,0,0,0,0,0,⟨0,0,false,false,0,0⟩,[]⟩:Segm),(⟨x1.from_,x1.to,c1,c2,16,c3.1,⟨c4.mss,c4.scale,c4.sack,true,c8,x2.opts.val⟩,(ar c6.1)⟩:Segm),()))<|
    .ret (c7.2,(⟨0,0,0,0,0,0,⟨0,0,false,false,0,0⟩,[]⟩:Segm),(⟨x1.from_,x1.to,c1,c2,16,c3.1,c4,(ar c6.1)⟩:Segm),())) λ(u9a0,_,u9a2,_)=>
   .cal af.c (u9a0,12,()) λc10=>
   .ite (c10.1==0) (.cal qq.c (c10.2,u9a2.ack,()) λc11=>
    .val (bF.f (c11.1,())) λc12=>
    .ret (({u9a2 with ack:=c12}:Segm),c11.2))<|
   .ite (c10.1==1) (.cal qq.c (c10.2,u9a2.seq,()) λc13=>
    .val (bF.f (c13.1,())) λc14=>
    .ret (({u9a2 with seq:=c14}:Segm),c13.2))<|
   .ret (u9a2,c10.2))<|
  .cal af.c (c6.2,12,()) λc15=>
  .ite (c15.1==0) (.cal qq.c (c15.2,c2,()) λc16=>
   .val (bF.f (c16.1,())) λc17=>
   .ret ((⟨x1.from_,x1.to,c1,c17,16,c3.1,c4,(ar c6.1)⟩:Segm),c16.2))<|
  .ite (c15.1==1) (.cal qq.c (c15.2,c1,()) λc18=>
   .val (bF.f (c18.1,())) λc19=>
   .ret ((⟨x1.from_,x1.to,c19,c2,16,c3.1,c4,(ar c6.1)⟩:Segm),c18.2))<|
  .ret ((⟨x1.from_,x1.to,c1,c2,16,c3.1,c4,(ar c6.1)⟩:Segm),c15.2),
 λ(y0,x1,x2,_) hp=>by
  refine Tr.V λ_ _=>Tr.V λ_ _=>Tr.C ?_ λ_ _ _=>Tr.V λ_ _=>Tr.C ?_ λ_ _ _=>Tr.C ?_ λ_ _ _=>Tr.I (λ_=>Tr.C ?_ λ_ _ _=>Tr.B (Q':=λw=>ae w.1∧aj w.2.1∧aj w.2.2.1) (Tr.I (λ_=>Tr.V λ_ _=>Tr.R ?_) λ_=>Tr.R ?_) (λ(u9a0,u9a1,u9a2,_) _ _=>Tr.C ?_ λ_ _ _=>Tr.I (λ_=>Tr.C ?_ λ_ _ _=>Tr.V λ_ _=>Tr.R ?_) λ_=>Tr.I (λ_=>Tr.C ?_ λ_ _ _=>Tr.V λ_ _=>Tr.R ?_) λ_=>Tr.R ?_)) λ_=>Tr.C ?_ λ_ _ _=>Tr.I (λ_=>Tr.C ?_ λ_ _ _=>Tr.V λ_ _=>Tr.R ?_) λ_=>Tr.I (λ_=>Tr.C ?_ λ_ _ _=>Tr.V λ_ _=>Tr.R ?_) λ_=>Tr.R ?_
  all_goals ((try simp only[Tr.nice,bu]at*)<;>grind)⟩
noncomputable def R4:=cI st RF RQ [] [.wr false [.ptr 0],.st .segm,.st .segm] [.box [.st .curs]] (λx y=>(y.1.1,x.2.1,x.2.2.1,())) Qk (λv=>[(true,nk v.1)]) (λx y v=>((v.2,()),())) Tryz.func212 (by kernel_rfl) trivial
noncomputable def Dm:=[aE,Rp,xp,SF,DQ,fo,KW,cV,R4,LN]
def mf:Sh:=⟨[zp 0 0,zp 2 1,zp 3 2,zi 4,zi 5],[.box [.st .curs [.sl .any]],.box [.st .door [.nil .macRow,.nil .macRow,.nil .half,.nil .conn,.nil .tupl]],.box [.st .door [.own 3,.own 4,.own 5,.own 6,.own 7]],.of false true,.of false true,.of false true,.of false true,.of false true]⟩
noncomputable def C3:Fx:=⟨165,Tryz.f165,[(0,la ⟨[0,2,3,4,5],[.box 3 16 .half,.box 3 17 .conn,.box 3 18 .tupl],false,1⟩ ⟨[2,3],[],false,1⟩)],1⟩
noncomputable def pW (v1:Int)(a:Curs×Door×Door):Tr (Stp (Curs×Door×Door) (Empty)):=
 .cal nY.c (a.1,()) λc13=>
 .cal af.c (c13.2,2,()) λc14=>
 .val (nb.f ((IntKind.wrap .i64 (167772162+c14.1)),c13.1,())) λc15=>
 .cal cu.c (a.2.2.table,c15,()) λc16=>
 .ite (decide (0≤c16)) (.ret (.next (c14.2,({a.2.1 with keys.now.rows:=[],keys.before.rows:=[],halves:=[],table.conns:=[],table.waiting:=[]}:Door),a.2.2)))<|
 .cal qU.c (a.2.2,c15,c13.1,()) λc17=>
 .ite (decide (0<(c17.2.length:Int))) (.cal bQ.c (c14.2,2,()) λc18=>
  .ite c18.1 (.grd (decide (0<(c17.2.length:Int)))<|
   .cal Qk.c (c18.2,c13.1,(c17.2.getD 0 (Ty.zero .segm)),()) λc19=>
   .cal sQ.c (c17.1,c15,c19.1,()) λc20=>
   .ret (.next (c19.2,({a.2.1 with keys.now.rows:=[],keys.before.rows:=[],halves:=[],table.conns:=[],table.waiting:=[]}:Door),c20.1)))<|
  .ret (.next (c18.2,({a.2.1 with keys.now.rows:=[],keys.before.rows:=[],halves:=[],table.conns:=[],table.waiting:=[]}:Door),c17.1)))<|
 .ret (.next (c14.2,({a.2.1 with keys.now.rows:=[],keys.before.rows:=[],halves:=[],table.conns:=[],table.waiting:=[]}:Door),c17.1))
noncomputable def fM:mf.V→LC mf (Curs×Door×Door) (Empty) (Int×(Curs×Door×Door)):=λ(v0,v1,v2,v3,v4,_)=>⟨v1,(v2,v3,v4),λv1 a=>(v0,v1,a.1,a.2.1,a.2.2,()),λv1 _=>(decide (v1<v0)),pW,up,1,(Int.toNat (v0-v1)),(λp=>Empty.elim p),λi a=>(i,a),λ_ k x=>k (.exit 0) (Sh.enc ⟨[zp 2 1,zp 3 2],[.box [.st .curs [.sl .any]],.box [.st .door [.nil .macRow,.nil .macRow,.nil .half,.nil .conn,.nil .tupl]],.box [.st .door [.own 3,.own 4,.own 5,.own 6,.own 7]],.of false true,.of false true,.of false true,.of false true,.of false true]⟩ (x.2.1,({x.2.2.1 with keys.now.rows:=[],keys.before.rows:=[],halves:=[],table.conns:=[],table.waiting:=[]}:Door),x.2.2.2,()))⟩
theorem IJ:LS Tryz.prog C3 [0] (bx 0 mf fM):=aN st (ac Dm) _ fM [] trivial
theorem IG {v0 v1:Int}{v2:Curs}{v3 v4:Door}(h0:0≤v1)(h1:v0≤4611686018427387904)(h2:ae v2∧am v3∧am v4):(fM (v0,v1,v2,v3,v4,())).U v0 (λv1 a=>ae a.1∧am a.2.1∧am a.2.2) (λ_=>True):=
 LC.okU (i:=v1) (a:=(v2,v3,v4)) (λ_ _=>rfl) (λ_=>rfl) rfl h0 h1 h2 λv1 (v2,v3,v4) hj hk hv=>by
  refine Tr.C ?_ λ_ _ _=>Tr.C ?_ λ_ _ _=>Tr.V λ_ _=>Tr.C ?_ λ_ _ _=>Tr.I (λ_=>Tr.Rn ?_) λ_=>Tr.C ?_ λ_ _ _=>Tr.I (λ_=>Tr.C ?_ λ_ _ _=>Tr.I (λ_=>Tr.G1 ?_ λ_=>Tr.C ?_ λ_ _ _=>Tr.C ?_ λ_ _ _=>Tr.Rn ?_) λ_=>Tr.Rn ?_) λ_=>Tr.Rn ?_
  all_goals (grind)
noncomputable def rO:FT (Curs×Unit) (Door×Curs) (λx=>ae x.1) (λx v=>am v.1∧ae v.2):=⟨λ(y0,_)=>
  .cal af.c (y0,99,()) λc1=>
  .cal lE.c (c1.2,()) λc2=>
  .cal lw.c (c2.2,()) λc3=>
  .cal af.c (c3.2,6,()) λc4=>
  .lp (fM (c4.1,0,c4.2,(⟨0,0,⟨0,⟨false,0,0,[]⟩,⟨false,0,0,[]⟩,false⟩,⟨0,0,0,0⟩,[],⟨[],[]⟩,0⟩:Door),(⟨80,c1.1,c2.1,c3.1,[],⟨[],[]⟩,0⟩:Door),())).lp λ(_,a21_0,_,a21_2)=>
  .ret (a21_2,a21_0),
 λ(y0,_) hp=>by
  refine Tr.C ?_ λ_ _ _=>Tr.C ?_ λ_ _ _=>Tr.C ?_ λ_ _ _=>Tr.C ?_ λ_ _ _=>Tr.L (IG ?_ ?_ ?_) (λ(a21_0,a21_1,a21_2) _=>Tr.R ?_) (λp=>Empty.elim p)
  all_goals ((try simp only[fM,LC.lp,LC.ct,Ct.lp]at*)<;>grind)⟩
noncomputable def QB:=cI st C3 Dm [(bx 0 mf fM)] [.wr false [.ptr 0]] [.box [.st .curs]] (λx y=>(y.1.1,())) rO (λv=>[(true,ji (.o true) (.o true) (.o true) (.o true) (.o true) v.1)]) (λx y v=>((v.2,()),())) Tryz.func165 (by kernel_rfl) ⟨IJ,trivial⟩
noncomputable def iX:FT (Curs×Unit) (Int×Curs) (λx=>ae x.1) (λx v=>ae v.2):=⟨λ(y0,_)=>
  .cal af.c (y0,3,()) λc1=>
  .ite (c1.1==0) (.cal wB.c (c1.2,()) λc2=>
   .ret (c2.1,c2.2))<|
  .ite (c1.1==1) (.cal aw.c (c1.2,[0,1,255,256,65535,65536,16777215,4294967295,4294967296,281474976710655,281474976710656],()) λc3=>
   .ret (c3.1,c3.2))<|
  .cal af.c (c1.2,65536,()) λc4=>
  .ret (c4.1,c4.2),
 λ(y0,_) hp=>by
  refine Tr.C ?_ λ_ _ _=>Tr.I (λ_=>Tr.C ?_ λ_ _ _=>Tr.R ?_) λ_=>Tr.I (λ_=>Tr.C ?_ λ_ _ _=>Tr.R ?_) λ_=>Tr.C ?_ λ_ _ _=>Tr.R ?_
  all_goals (first|grind|(simp only[sS,List.length_cons,List.length_nil];grind))⟩
noncomputable def k8:=cI st ⟨166,Tryz.f166,[],1⟩ [aE,vS,aJ] [] [.wr false [.ptr 0]] [.box [.st .curs]] (λx y=>(y.1.1,())) iX (λv=>[(false,[.c (.int .i64 v.1)])]) (λx y v=>((v.2,()),())) Tryz.func166 (by kernel_rfl) trivial
noncomputable def Oh:=[aJ,tW,sZ,cV,Bc]
def uq:An:=⟨⟨[],[],false,1⟩,⟨[0,2,3],[],false,1⟩,⟨[],[]⟩,[(.normal,⟨[zp 0 0,zp 2 1,zp 3 2],[.box [.st .curs [.sl .any]],.box [.st .keys [.nil .macRow,.nil .macRow]],.box [.st .keys [.own 3,.own 4]],.of false true,.of false true]⟩),(.normal,⟨[zp 0 0,zp 2 1,zp 3 2],[.box [.st .curs [.sl .any]],.box [.st .keys [.nil .macRow,.nil .macRow]],.box [.st .keys [.own 3,.nil .macRow]],.of false true]⟩)]⟩
noncomputable def PY:Fx:=⟨285,Tryz.f285,[(1000019,uq)],1⟩
noncomputable def sC:FT (Curs×Unit) (Keys×Curs) (λx=>ae x.1) (λx v=>bE v.1∧ae v.2):=⟨λ(y0,_)=>
  .cal aw.c (y0,[0,1,2,30,31,32,33,4294967295],()) λc1=>
  .cal fE.c (c1.2,()) λc2=>
  .cal fE.c (c2.2,()) λc3=>
  .cal mi.c (c2.1,c3.1,()) λc4=>
  .ite (decide (0<c1.1)) (.cal bQ.c (c3.2,2,()) λc5=>
   .bnd (β:=WT uq.es) (.ite c5.1 (.cal fE.c (c5.2,()) λc6=>
     .cal fE.c (c6.2,()) λc7=>
     .cal mi.c (c6.1,c7.1,()) λc8=>
     .ret (.inl (c7.2,(⟨0,⟨false,0,0,[]⟩,⟨false,0,0,[]⟩,false⟩:Keys),(⟨c1.1,c4,c8,true⟩:Keys),())))<|
    .ret (.inr ((c5.2,(⟨0,⟨false,0,0,[]⟩,⟨false,0,0,[]⟩,false⟩:Keys),(⟨c1.1,c4,⟨false,0,0,[]⟩,false⟩:Keys),())))) λw9=> .sum w9 (λ(u9a0,_,u9a2,_)=>
   .cal bQ.c (u9a0,3,()) λc10=>
   .ite c10.1 (.cal pI.c ([],()) λc11=>
    .ret (({u9a2 with now.use:=c11.use,now.k:=c11.k,now.l:=c11.l,now.rows:=c11.rows}:Keys),c10.2))<|
   .ret (u9a2,c10.2))<|
   λ(u9b0,_,u9b2,_)=>
   .cal bQ.c (u9b0,3,()) λc12=>
   .ite c12.1 (.cal pI.c ([],()) λc13=>
    .ret (({u9b2 with now.use:=c13.use,now.k:=c13.k,now.l:=c13.l,now.rows:=c13.rows,before.rows:=[]}:Keys),c12.2))<|
   .ret (({u9b2 with before.rows:=[]}:Keys),c12.2))<|
  .cal bQ.c (c3.2,3,()) λc14=>
  .ite c14.1 (.cal pI.c ([],()) λc15=>
   .ret ((⟨c1.1,c15,⟨false,0,0,[]⟩,false⟩:Keys),c14.2))<|
  .ret ((⟨c1.1,c4,⟨false,0,0,[]⟩,false⟩:Keys),c14.2),
 λ(y0,_) hp=>by
  refine Tr.C ?_ λ_ _ _=>Tr.C ?_ λ_ _ _=>Tr.C ?_ λ_ _ _=>Tr.C trivial λ_ _ _=>Tr.I (λ_=>Tr.C ?_ λ_ _ _=>Tr.B (Q':=(Sum.elim (λw=>ae w.1∧bE w.2.1∧bE w.2.2.1) (λw=>ae w.1∧bE w.2.1∧bE w.2.2.1))) (Tr.I (λ_=>Tr.C ?_ λ_ _ _=>Tr.C ?_ λ_ _ _=>Tr.C trivial λ_ _ _=>Tr.R ?_) λ_=>Tr.R ?_) (λ_ _ q9=>Tr.E q9 (λ(u9a0,u9a1,u9a2,_) _=>Tr.C ?_ λ_ _ _=>Tr.I (λ_=>Tr.C ?_ λ_ _ _=>Tr.R ?_) λ_=>Tr.R ?_) (λ(u9b0,u9b1,u9b2,_) _=>Tr.C ?_ λ_ _ _=>Tr.I (λ_=>Tr.C ?_ λ_ _ _=>Tr.R ?_) λ_=>Tr.R ?_))) λ_=>Tr.C ?_ λ_ _ _=>Tr.I (λ_=>Tr.C ?_ λ_ _ _=>Tr.R ?_) λ_=>Tr.R ?_
  all_goals ((try simp only[Tr.nice,bu]at*)<;>first|grind|(simp only[sS,List.length_cons,List.length_nil];grind))⟩
noncomputable def Ra:=cI st PY Oh [] [.wr false [.ptr 0]] [.box [.st .curs]] (λx y=>(y.1.1,())) sC (λv=>[(true,yE (.o true) (.o true) v.1)]) (λx y v=>((v.2,()),())) Tryz.func285 (by kernel_rfl) trivial
noncomputable def Jt:FT (Curs×List ax×Unit) (ax×Curs) (λx=>ae x.1∧sL sS x.2.1∧0<x.2.1.length) (λx v=>sS v.1∧ae v.2∧(dP (λb:ax=>b.length≤64) x.2.1→v.1.length≤64)):=⟨λ(y0,x1,_)=>
  .cal af.c (y0,(x1.length:Int),()) λc1=>
  .grd ((decide (0≤c1.1))&&(decide (c1.1<(x1.length:Int))))<|
  .ret ((x1.getD c1.1.toNat []),c1.2),
 λ(y0,x1,_) hp=>by
  refine Tr.C ?_ λc1 hc1 qc1=>Tr.G2 ?_ λg0=>Tr.R ?_
  all_goals ((first|grind|(refine⟨by grind,by grind,λhn=> ?_⟩;exact cD (p:=λb:ax=>b.length≤64) hn (Nat.zero_le _) _)))⟩
noncomputable def IU:=cI st ⟨335,Tryz.f335,[],1⟩ [aE] [] [.wr false [.ptr 0],.sc (.sl .str)] [.box [.st .curs]] (λx y=>(y.1.1,x.2.1,())) Jt (λv=>[(false,[.c (.str v.1)])]) (λx y v=>((v.2,()),())) Tryz.func335 (by kernel_rfl) trivial
noncomputable def Eg:=[aE,IU,aJ,cV,vS]
def mn:Sh:=⟨[zp 0 0,(3,false,[.own 1]),zi 4,zi 5],[.box [.st .curs [.sl .any]],.arr .macRow false true]⟩
noncomputable def D9:Fx:=⟨269,Tryz.f269,[(0,la ⟨[0,3,4,5],[],false,1⟩ ⟨[0,2,3,4],[],false,1⟩)],1⟩
noncomputable def Hm (v1:Int)(a:Curs×List MacRow):Tr (Stp (Curs×List MacRow) (Empty)):=
 .cal Jt.c (a.1,[[],[97],[98],[99,100],[97]],()) λc2=>
 .cal af.c (c2.2,16777216,()) λc3=>
 .cal aw.c (c3.2,[0,1,5,16777215,c3.1],()) λc4=>
 .grd (Nat.ble ((2*(a.2.length+1)+1024)*24) aF)<|
 .ret (.next (c4.2,(a.2++[(⟨c2.1,c4.1⟩:MacRow)])))
noncomputable def gS:mn.V→LC mn (Curs×List MacRow) (Empty) (Int×(Curs×List MacRow)):=λ(v0,v1,v2,v3,_)=>⟨v1,(v2,v3),λv1 a=>(v0,v1,a.1,a.2,()),λv1 _=>(decide (v1<v0)),Hm,up,1,(Int.toNat (v0-v1)),(λp=>Empty.elim p),λi a=>(i,a),λ_ k x=>k (.exit 0) (Sh.enc ⟨[zp 0 0,zu 2,(3,false,[.own 1]),zi 4],[.box [.st .curs [.sl .any]],.arr .macRow false true]⟩ (v0,x.2.1,x.2.2,()))⟩
theorem I4:LS Tryz.prog D9 [0] (bx 0 mn gS):=aN st (ac Eg) _ gS [] trivial
theorem Jp {v0 v1:Int}{v2:Curs}{v3:List MacRow}(h0:0≤v1)(h1:v0≤4611686018427387904)(h2:v0≤4294967296)(h3:ae v2∧(v3.length:Int)=v1∧dP ay v3):(gS (v0,v1,v2,v3,())).U v0 (λv1 a=>ae a.1∧(a.2.length:Int)=v1∧dP ay a.2) (λ_=>True):=
 LC.okU (i:=v1) (a:=(v2,v3)) (λ_ _=>rfl) (λ_=>rfl) rfl h0 h1 h3 λv1 (v2,v3) hj hk hv=>by
  refine Tr.C ?_ λ_ _ _=>Tr.C ?_ λ_ _ _=>Tr.C ?_ λ_ _ _=>Tr.Gb ?_ λ_=>Tr.Rn ?_
  all_goals (grind)
noncomputable def BQ:FT (Curs×Unit) (List MacRow×Curs) (λx=>ae x.1) (λx v=>sL ay v.1∧ae v.2):=⟨λ(y0,_)=>
  .cal af.c (y0,5,()) λc1=>
  .lp (gS (c1.1,0,c1.2,[],())).lp λ(_,a5_0,a5_1)=>
  .ite (decide (0<c1.1)) (.cal bQ.c (a5_0,6,()) λc6=>
   .ite c6.1 (.cal wB.c (c6.2,()) λc7=>
    .grd (decide (0<(a5_1.length:Int)))<|
    .ret ((a5_1.set 0 (⟨(a5_1.getD 0 (Ty.zero .macRow)).input,c7.1⟩:MacRow)),c7.2))<|
   .ret (a5_1,c6.2))<|
  .ret (a5_1,a5_0),
 λ(y0,_) hp=>by
  refine Tr.C ?_ λ_ _ _=>Tr.L (Jp ?_ ?_ ?_ ?_) (λ(a5_0,a5_1) _=>Tr.I (λ_=>Tr.C ?_ λ_ _ _=>Tr.I (λ_=>Tr.C ?_ λ_ _ _=>Tr.G1 ?_ λ_=>Tr.R ?_) λ_=>Tr.R ?_) λ_=>Tr.R ?_) (λp=>Empty.elim p)
  all_goals ((try simp only[gS,LC.lp,LC.ct,Ct.lp]at*)<;>grind)⟩
noncomputable def QV:=cI st D9 Eg [(bx 0 mn gS)] [.wr false [.ptr 0]] [.box [.st .curs]] (λx y=>(y.1.1,())) BQ (λv=>[(false,[sc (.o true) .macRow v.1])]) (λx y v=>((v.2,()),())) Tryz.func269 (by kernel_rfl) ⟨I4,trivial⟩
noncomputable def Hy:FT (Curs×Unit) (Mac×Curs) (λx=>ae x.1) (λx v=>bv v.1∧ae v.2):=⟨λ(y0,_)=>
  .cal bQ.c (y0,2,()) λc1=>
  .ite c1.1 (.cal BQ.c (c1.2,()) λc2=>
   .cal pI.c (c2.1,()) λc3=>
   .ret (c3,c2.2))<|
  .cal fE.c (c1.2,()) λc4=>
  .cal fE.c (c4.2,()) λc5=>
  .cal mi.c (c4.1,c5.1,()) λc6=>
  .cal af.c (c5.2,10,()) λc7=>
  .ite (c7.1==0) (.ret (({c6 with use:=true}:Mac),c7.2))<|
  .ite (c7.1==1) (.cal BQ.c (c7.2,()) λc8=>
   .ret (({c6 with rows:=c8.1}:Mac),c8.2))<|
  .ret (c6,c7.2),
 λ(y0,_) hp=>by
  refine Tr.C ?_ λ_ _ _=>Tr.I (λ_=>Tr.C ?_ λ_ _ _=>Tr.C ?_ λ_ _ _=>Tr.R ?_) λ_=>Tr.C ?_ λ_ _ _=>Tr.C ?_ λ_ _ _=>Tr.C trivial λ_ _ _=>Tr.C ?_ λ_ _ _=>Tr.I (λ_=>Tr.R ?_) λ_=>Tr.I (λ_=>Tr.C ?_ λ_ _ _=>Tr.R ?_) λ_=>Tr.R ?_
  all_goals (grind)⟩
noncomputable def S1:=cI st ⟨145,Tryz.f145,[],1⟩ [cV,QV,Bc,tW,sZ,aE] [] [.wr false [.ptr 0]] [.box [.st .curs]] (λx y=>(y.1.1,())) Hy (λv=>[(true,DJ (.o true) v.1)]) (λx y v=>((v.2,()),())) Tryz.func145 (by kernel_rfl) trivial
noncomputable def wd:FT (Curs×Unit) (Keys×Curs) (λx=>ae x.1) (λx v=>bE v.1∧ae v.2):=⟨λ(y0,_)=>
  .cal sC.c (y0,()) λc1=>
  .cal af.c (c1.2,10,()) λc2=>
  .ite (c2.1==0) (.cal aw.c (c2.2,[(-1),0,4294967296],()) λc3=>
   .ret (({c1.1 with epoch:=c3.1}:Keys),c3.2))<|
  .ite (c2.1==1) (.ret (({c1.1 with two:=(!c1.1.two)}:Keys),c2.2))<|
  .ite (c2.1==2) (.cal Hy.c (c2.2,()) λc4=>
   .ret (({c1.1 with now.use:=c4.1.use,now.k:=c4.1.k,now.l:=c4.1.l,now.rows:=c4.1.rows}:Keys),c4.2))<|
  .ite (c2.1==3) (.cal Hy.c (c2.2,()) λc5=>
   .ret (({c1.1 with before.use:=c5.1.use,before.k:=c5.1.k,before.l:=c5.1.l,before.rows:=c5.1.rows}:Keys),c5.2))<|
  .ret (c1.1,c2.2),
 λ(y0,_) hp=>by
  refine Tr.C ?_ λ_ _ _=>Tr.C ?_ λ_ _ _=>Tr.I (λ_=>Tr.C ?_ λ_ _ _=>Tr.R ?_) λ_=>Tr.I (λ_=>Tr.R ?_) λ_=>Tr.I (λ_=>Tr.C ?_ λ_ _ _=>Tr.R ?_) λ_=>Tr.I (λ_=>Tr.C ?_ λ_ _ _=>Tr.R ?_) λ_=>Tr.R ?_
  all_goals (grind)⟩
noncomputable def Oc:=cI st ⟨167,Tryz.f167,[],1⟩ [Ra,aE,aJ,S1] [] [.wr false [.ptr 0]] [.box [.st .curs]] (λx y=>(y.1.1,())) wd (λv=>[(true,yE (.o true) (.o true) v.1)]) (λx y v=>((v.2,()),())) Tryz.func167 (by kernel_rfl) trivial
noncomputable def WU:FT (Curs×Unit) (Int×Curs) (λx=>ae x.1) (λx v=>ae v.2):=⟨λ(y0,_)=>
  .cal aw.c (y0,[167772161,167772162,167772163,0,4294967295],()) λc1=>
  .ret (c1.1,c1.2),
 λ(y0,_) hp=>by
  refine Tr.C ?_ λ_ _ _=>Tr.R ?_
  all_goals (grind)⟩
noncomputable def WA:=cI st ⟨364,Tryz.f364,[],1⟩ [aJ] [] [.wr false [.ptr 0]] [.box [.st .curs]] (λx y=>(y.1.1,())) WU (λv=>[(false,[.c (.int .i64 v.1)])]) (λx y v=>((v.2,()),())) Tryz.func364 (by kernel_rfl) trivial
noncomputable def qd:FT (Curs×Unit) (Tupl×Curs) (λx=>ae x.1) (λx v=>ae v.2):=⟨λ(y0,_)=>
  .cal WU.c (y0,()) λc1=>
  .cal aw.c (c1.2,[40000,40001,40002],()) λc2=>
  .ret ((⟨c1.1,c2.1,80⟩:Tupl),c2.2),
 λ(y0,_) hp=>by
  refine Tr.C ?_ λ_ _ _=>Tr.C ?_ λ_ _ _=>Tr.R ?_
  all_goals (grind)⟩
noncomputable def oD:=cI st ⟨266,Tryz.f266,[],1⟩ [WA,aJ] [] [.wr false [.ptr 0]] [.box [.st .curs]] (λx y=>(y.1.1,())) qd (λv=>[(true,Gq v.1)]) (λx y v=>((v.2,()),())) Tryz.func266 (by kernel_rfl) trivial
noncomputable def sv:FT (Curs×Unit) (Half×Curs) (λx=>ae x.1) (λx v=>ae v.2):=⟨λ(y0,_)=>
  .cal qd.c (y0,()) λc1=>
  .cal iU.c (c1.2,()) λc2=>
  .cal iU.c (c2.2,()) λc3=>
  .cal lB.c (c3.2,()) λc4=>
  .cal af.c (c4.2,7,()) λc5=>
  .cal aw.c (c5.2,[0,64,65535],()) λc6=>
  .ret ((⟨c1.1,c2.1,c3.1,c4.1,c5.1,c6.1⟩:Half),c6.2),
 λ(y0,_) hp=>by
  refine Tr.C ?_ λ_ _ _=>Tr.C ?_ λ_ _ _=>Tr.C ?_ λ_ _ _=>Tr.C ?_ λ_ _ _=>Tr.C ?_ λ_ _ _=>Tr.C ?_ λ_ _ _=>Tr.R ?_
  all_goals (grind)⟩
noncomputable def CW:=cI st ⟨287,Tryz.f287,[],1⟩ [oD,jO,kp,aE,aJ] [] [.wr false [.ptr 0]] [.box [.st .curs]] (λx y=>(y.1.1,())) sv (λv=>[(true,Y1 v.1)]) (λx y v=>((v.2,()),())) Tryz.func287 (by kernel_rfl) trivial
noncomputable def Dc:=[aE,CW,C0]
def lR:Sh:=⟨[zp 0 0,(3,false,[.own 1]),zi 4,zi 5],[.box [.st .curs [.sl .any]],.arr .half false true]⟩
noncomputable def DI:Fx:=⟨286,Tryz.f286,[(0,la ⟨[0,3,4,5],[],false,1⟩ ⟨[2,3],[],false,1⟩)],1⟩
noncomputable def I9 (v1:Int)(a:Curs×List Half):Tr (Stp (Curs×List Half) (Empty)):=
 .cal sv.c (a.1,()) λc2=>
 .cal rE.c (a.2,c2.1,64,()) λc3=>
 .ret (.next (c2.2,c3.1))
noncomputable def gN:lR.V→LC lR (Curs×List Half) (Empty) (Int×(Curs×List Half)):=λ(v0,v1,v2,v3,_)=>⟨v1,(v2,v3),λv1 a=>(v0,v1,a.1,a.2,()),λv1 _=>(decide (v1<v0)),I9,up,1,(Int.toNat (v0-v1)),(λp=>Empty.elim p),λi a=>(i,a),λ_ k x=>k (.exit 0) (Sh.enc ⟨[zu 2,(3,false,[.own 1])],[.box [.st .curs [.sl .any]],.arr .half false true]⟩ (x.2.1,x.2.2,()))⟩
theorem Gy:LS Tryz.prog DI [0] (bx 0 lR gN):=aN st (ac Dc) _ gN [] trivial
theorem GB {v0 v1:Int}{v2:Curs}{v3:List Half}(h0:0≤v1)(h1:v0≤4611686018427387904)(h2:ae v2∧sS v3∧(v3.length:Int)≤v1):(gN (v0,v1,v2,v3,())).U v0 (λv1 a=>ae a.1∧sS a.2∧(a.2.length:Int)≤v1) (λ_=>True):=
 LC.okU (i:=v1) (a:=(v2,v3)) (λ_ _=>rfl) (λ_=>rfl) rfl h0 h1 h2 λv1 (v2,v3) hj hk hv=>by
  refine Tr.C ?_ λ_ _ _=>Tr.C ?_ λ_ _ _=>Tr.Rn ?_
  all_goals (grind)
noncomputable def L5:FT (Curs×Unit) (List Half×Curs) (λx=>ae x.1) (λx v=>sS v.1∧ae v.2∧(v.1.length:Int)≤5):=⟨λ(y0,_)=>
  .cal af.c (y0,5,()) λc1=>
  .lp (gN (c1.1,0,c1.2,[],())).lp λ(_,a4_0,a4_1)=>
  .ret (a4_1,a4_0),
 λ(y0,_) hp=>by
  refine Tr.C ?_ λ_ _ _=>Tr.L (GB ?_ ?_ ?_) (λ(a4_0,a4_1) _=>Tr.R ?_) (λp=>Empty.elim p)
  all_goals ((try simp only[gN,LC.lp,LC.ct,Ct.lp]at*)<;>grind)⟩
noncomputable def Qc:=cI st DI Dc [(bx 0 lR gN)] [.wr false [.ptr 0]] [.box [.st .curs]] (λx y=>(y.1.1,())) L5 (λv=>[(false,[sc (.o true) .half v.1])]) (λx y v=>((v.2,()),())) Tryz.func286 (by kernel_rfl) ⟨Gy,trivial⟩
noncomputable def wA:FT (Curs×Unit) (Tupl×Curs) (λx=>ae x.1) (λx v=>ae v.2):=⟨λ(y0,_)=>
  .cal qd.c (y0,()) λc1=>
  .cal af.c (c1.2,10,()) λc2=>
  .ite (c2.1==0) (.cal iX.c (c2.2,()) λc3=>
   .ret (({c1.1 with ip:=c3.1}:Tupl),c3.2))<|
  .ite (c2.1==1) (.cal iX.c (c2.2,()) λc4=>
   .ret (({c1.1 with port:=c4.1}:Tupl),c4.2))<|
  .ite (c2.1==2) (.cal iX.c (c2.2,()) λc5=>
   .ret (({c1.1 with my:=c5.1}:Tupl),c5.2))<|
  .ret (c1.1,c2.2),
 λ(y0,_) hp=>by
  refine Tr.C ?_ λ_ _ _=>Tr.C ?_ λ_ _ _=>Tr.I (λ_=>Tr.C ?_ λ_ _ _=>Tr.R ?_) λ_=>Tr.I (λ_=>Tr.C ?_ λ_ _ _=>Tr.R ?_) λ_=>Tr.I (λ_=>Tr.C ?_ λ_ _ _=>Tr.R ?_) λ_=>Tr.R ?_
  all_goals (grind)⟩
noncomputable def vR:=cI st ⟨144,Tryz.f144,[],1⟩ [oD,aE,k8] [] [.wr false [.ptr 0]] [.box [.st .curs]] (λx y=>(y.1.1,())) wA (λv=>[(true,Gq v.1)]) (λx y v=>((v.2,()),())) Tryz.func144 (by kernel_rfl) trivial
noncomputable def Ak:FT (Curs×Unit) (Opti×Curs) (λx=>ae x.1) (λx v=>ae v.2):=⟨λ(y0,_)=>
  .cal lB.c (y0,()) λc1=>
  .cal af.c (c1.2,10,()) λc2=>
  .ite (c2.1==0) (.cal iX.c (c2.2,()) λc3=>
   .ret (({c1.1 with mss:=c3.1}:Opti),c3.2))<|
  .ite (c2.1==1) (.cal aw.c (c2.2,[(-2),(-1),14,15],()) λc4=>
   .ret (({c1.1 with scale:=c4.1}:Opti),c4.2))<|
  .ite (c2.1==2) (.ret (({c1.1 with stamp:=(!c1.1.stamp)}:Opti),c2.2))<|
  .ite (c2.1==3) (.cal iX.c (c2.2,()) λc5=>
   .ret (({c1.1 with val:=c5.1}:Opti),c5.2))<|
  .ret (c1.1,c2.2),
 λ(y0,_) hp=>by
  refine Tr.C ?_ λ_ _ _=>Tr.C ?_ λ_ _ _=>Tr.I (λ_=>Tr.C ?_ λ_ _ _=>Tr.R ?_) λ_=>Tr.I (λ_=>Tr.C ?_ λ_ _ _=>Tr.R ?_) λ_=>Tr.I (λ_=>Tr.R ?_) λ_=>Tr.I (λ_=>Tr.C ?_ λ_ _ _=>Tr.R ?_) λ_=>Tr.R ?_
  all_goals (grind)⟩
noncomputable def y6:=cI st ⟨172,Tryz.f172,[],1⟩ [kp,aE,k8,aJ] [] [.wr false [.ptr 0]] [.box [.st .curs]] (λx y=>(y.1.1,())) Ak (λv=>[(true,pS v.1)]) (λx y v=>((v.2,()),())) Tryz.func172 (by kernel_rfl) trivial
noncomputable def LG:FT (Curs×Unit) (List Half×Curs) (λx=>ae x.1) (λx v=>sS v.1∧ae v.2):=⟨λ(y0,_)=>
  .cal L5.c (y0,()) λc1=>
  .cal af.c (c1.2,8,()) λc2=>
  .ite (c2.1==0) (.cal sv.c (c2.2,()) λc3=>
   .cal aw.c (c3.2,[(-1),6,7],()) λc4=>
   .grd (Nat.ble ((2*(c1.1.length+1)+1024)*96) aF)<|
   .ret ((c1.1++[({c3.1 with age:=c4.1}:Half)]),c4.2))<|
  .ite (c2.1==1) (.cal sv.c (c2.2,()) λc5=>
   .cal wA.c (c5.2,()) λc6=>
   .cal iX.c (c6.2,()) λc7=>
   .grd (Nat.ble ((2*(c1.1.length+1)+1024)*96) aF)<|
   .val (c1.1++[({c5.1 with tuple.ip:=c6.1.ip,tuple.port:=c6.1.port,tuple.my:=c6.1.my,iss:=c7.1}:Half)]) λl8=>
   .ret (l8,c7.2))<|
  .ite (c2.1==2) (.cal sv.c (c2.2,()) λc9=>
   .cal Ak.c (c9.2,()) λc10=>
   .grd (Nat.ble ((2*(c1.1.length+1)+1024)*96) aF)<|
   .val (c1.1++[({c9.1 with opts.mss:=c10.1.mss,opts.scale:=c10.1.scale,opts.sack:=c10.1.sack,opts.stamp:=c10.1.stamp,opts.val:=c10.1.val,opts.echo:=c10.1.echo}:Half)]) λl11=>
   .ret (l11,c10.2))<|
  .ret (c1.1,c2.2),
 λ(y0,_) hp=>by
  refine Tr.C ?_ λc1 hc1 qc1=>Tr.C ?_ λc2 hc2 qc2=>Tr.I (λb0=>Tr.C ?_ λc3 hc3 qc3=>Tr.C ?_ λc4 hc4 qc4=>Tr.Gb ?_ λg1=>Tr.R ?_) λb0=>Tr.I (λb1=>Tr.C ?_ λc5 hc5 qc5=>Tr.C ?_ λc6 hc6 qc6=>Tr.C ?_ λc7 hc7 qc7=>Tr.Gb ?_ λg2=>Tr.V λl8 hl8=>Tr.R ?_) λb1=>Tr.I (λb2=>Tr.C ?_ λc9 hc9 qc9=>Tr.C ?_ λc10 hc10 qc10=>Tr.Gb ?_ λg3=>Tr.V λl11 hl11=>Tr.R ?_) λb2=>Tr.R ?_
  all_goals ((first|grind|(refine⟨?_,by grind⟩;have hl:∀v:List Half×Curs,v.1.length≤5→∀h:Half,sS (v.1++[h]):=λv hv h=>(by simp only[sS,List.length_append,List.length_cons,List.length_nil];omega);subst_vars;apply hl;grind)))⟩
noncomputable def Ol:=cI st ⟨168,Tryz.f168,[],1⟩ [Qc,aE,CW,aJ,vR,k8,y6] [] [.wr false [.ptr 0]] [.box [.st .curs]] (λx y=>(y.1.1,())) LG (λv=>[(false,[sc (.o true) .half v.1])]) (λx y v=>((v.2,()),())) Tryz.func168 (by kernel_rfl) trivial
noncomputable def xM:=[aE,ic,cV,qY,cW]
def kf:Sh:=⟨[zp 0 0,zp 3 1,zi 7,zi 8,(9,false,[.own 2]),zi 10],[.box [.st .curs [.sl .any]],.box [.st .recv [.sl .arg]],.arr .u8 false true]⟩
def Az:An:=⟨⟨[],[],false,1⟩,⟨[0,3,4,5,6,7,9],[],false,1⟩,⟨[],[]⟩,[(.normal,⟨[zp 0 0,zp 3 1,zu 4,zu 5,zu 6,zi 7,(9,false,[.own 2])],[.box [.st .curs [.sl .any]],.box [.st .recv [.sl .arg]],.arr .u8 false true]⟩)]⟩
noncomputable def xH:Fx:=⟨331,Tryz.f331,[(0,la ⟨[0,3,7,8,9,10],[],false,1⟩ ⟨[0,3,4,5,6,7,8,9],[],false,1⟩),(1000036,Az)],1⟩
noncomputable def BS (v0:Int)(v4:Recv)(v2:Int)(a:List Int):Tr (Stp (List Int) (Empty)):=
 .val (bF.f ((IntKind.wrap .i64 ((IntKind.wrap .i64 (v4.next+v0))+v2)),())) λc3=>
 .grd (Nat.ble ((2*(a.length+1)+1024)*1) aF)<|
 .ret (.next (a++[(IntKind.wrap .u8 (IntKind.wrap .i64 (97+(c3.tmod 26))))]))
noncomputable def fB:kf.V→LC kf (List Int) (Empty) (Int×(List Int)):=λ(v0,v1,v2,v3,v4,v5,_)=>⟨v2,v5,λv2 a=>(v0,v1,v2,v3,v4,a,()),λv2 _=>(decide (v2<v1)),BS v0 v4,up,1,(Int.toNat (v1-v2)),(λp=>Empty.elim p),λi a=>(i,a),λ_ k x=>k (.exit 0) (Sh.enc ⟨[zp 0 0,zp 3 1,zu 4,zu 5,zu 6,zi 7,zi 8,(9,false,[.own 2])],[.box [.st .curs [.sl .any]],.box [.st .recv [.sl .arg]],.arr .u8 false true]⟩ (v0,v1,v3,v4,x.2,()))⟩
theorem BV:LS Tryz.prog xH [0] (bx 0 kf fB):=aN st (ac xM) _ fB [] trivial
theorem B3 {v0 v1 v2:Int}{v3:Curs}{v4:Recv}{v5:List Int}(h0:0≤v2)(h1:v1≤4611686018427387904)(h2:an v4)(h3:v1≤4294967296)(h4:(v5.length:Int)=v2):(fB (v0,v1,v2,v3,v4,v5,())).U v1 (λv2 a=>(a.length:Int)=v2) (λ_=>True):=
 LC.okU (i:=v2) (a:=v5) (λ_ _=>rfl) (λ_=>rfl) rfl h0 h1 h4 λv2 v5 hj hk hv=>by
  refine Tr.V λ_ _=>Tr.Gb ?_ λ_=>Tr.Rn ?_
  all_goals (grind)
noncomputable def uT:FT (Curs×Recv×Unit) (Int×ax×Bool×Curs) (λx=>ae x.1∧an x.2.1) (λx v=>sS v.2.1∧ae v.2.2.2):=⟨λ(y0,x1,_)=>
  .cal af.c (y0,40,()) λc1=>
  .cal af.c (c1.2,9,()) λc2=>
  .lp (fB ((IntKind.wrap .i64 (c1.1-6)),c2.1,0,c2.2,x1,[],())).lp λ(_,a4_0)=>
  .cal bQ.c (c2.2,6,()) λc5=>
  .bnd (β:=Int×Curs×Recv×List Int×Unit) (.ite c5.1 (.cal sa.c (c5.2,c2.1,()) λc6=>
    .ret ((IntKind.wrap .i64 (c1.1-6)),c6.2,x1,c6.1,()))<|
   .ret ((IntKind.wrap .i64 (c1.1-6)),c5.2,x1,a4_0,())) λ(u7a0,u7a1,u7a2,u7a3,_)=>
  .val (bg.f (u7a2.next,u7a0,())) λc8=>
  .cal bQ.c (u7a1,6,()) λc9=>
  .ret (c8,(ar u7a3),c9.1,c9.2),
 λ(y0,x1,_) hp=>by
  refine Tr.C ?_ λ_ _ _=>Tr.C ?_ λ_ _ _=>Tr.L (B3 ?_ ?_ ?_ ?_ ?_) (λa4_0 _=>Tr.C ?_ λ_ _ _=>Tr.B (Q':=λw=>ae w.2.1∧an w.2.2.1∧sS w.2.2.2.1) (Tr.I (λ_=>Tr.C ?_ λ_ _ _=>Tr.R ?_) λ_=>Tr.R ?_) (λ(u7a0,u7a1,u7a2,u7a3,_) _ _=>Tr.V λ_ _=>Tr.C ?_ λ_ _ _=>Tr.R ?_)) (λp=>Empty.elim p)
  all_goals ((try simp only[fB,LC.lp,LC.ct,Ct.lp,Tr.nice,bu]at*)<;>grind)⟩
noncomputable def xT:=cI st xH xM [(bx 0 kf fB)] [.wr false [.ptr 0],.st .recv] [.box [.st .curs]] (λx y=>(y.1.1,x.2.1,())) uT (λv=>[(false,[.c (.int .i64 v.1)]),(false,[.c (.str v.2.1)]),(false,[.c (.bool v.2.2.1)])]) (λx y v=>((v.2.2.2,()),())) Tryz.func331 (by kernel_rfl) ⟨BV,trivial⟩
noncomputable def Lv:FT (Curs×Unit) (Int×Curs) (λx=>ae x.1) (λx v=>ae v.2):=⟨λ(y0,_)=>
  .cal af.c (y0,64,()) λc1=>
  .cal aw.c (c1.2,[2,16,16,18,24,17,4,20,0,c1.1],()) λc2=>
  .ret (c2.1,c2.2),
 λ(y0,_) hp=>by
  refine Tr.C ?_ λ_ _ _=>Tr.C ?_ λ_ _ _=>Tr.R ?_
  all_goals (first|grind|(simp only[sS,List.length_cons,List.length_nil];grind))⟩
noncomputable def PB:=cI st ⟨333,Tryz.f333,[],1⟩ [aE,aJ] [] [.wr false [.ptr 0]] [.box [.st .curs]] (λx y=>(y.1.1,())) Lv (λv=>[(false,[.c (.int .i64 v.1)])]) (λx y v=>((v.2,()),())) Tryz.func333 (by kernel_rfl) trivial
noncomputable def Jl:=[xT,cV,iu,aE,cW,aJ,em,PB,ID,ic]
def yw:An:=⟨⟨[],[],false,1⟩,⟨[0,3,4,5,6,7],[],false,1⟩,⟨[],[]⟩,[(.normal,⟨[zp 0 0,zp 3 1,zp 4 2,zi 5,zs 6,zb 7],[.box [.st .curs [.sl .any]],.box [.st .conn [.sl .arg]],.box [.st .segm []]]⟩)]⟩
def yZ:An:=⟨⟨[],[],false,1⟩,⟨[0,3,4,8],[],false,1⟩,⟨[],[]⟩,[(.normal,⟨[zp 0 0,zp 3 1,zp 4 2,zp 8 3],[.box [.st .curs [.sl .any]],.box [.st .conn [.sl .arg]],.box [.st .segm []],.box [.st .segm []]]⟩)]⟩
def yl:An:=⟨⟨[],[],false,1⟩,⟨[4,8],[],false,1⟩,⟨[],[]⟩,[(.normal,⟨[zp 4 1,zp 8 2],[.box [.st .curs [.sl .any]],.box [.st .segm []],.box [.st .segm []]]⟩)]⟩
noncomputable def IL:Fx:=⟨213,Tryz.f213,[(1000018,yw),(1000045,yZ),(1000052,yl)],1⟩
noncomputable def Bb:FT (Curs×Conn×Unit) (Segm×Curs) (λx=>ae x.1∧aa x.2.1) (λx v=>aj v.1∧ae v.2):=⟨λ(y0,x1,_)=>
  .cal uT.c (y0,x1.r,()) λc1=>
  .cal bQ.c (c1.2.2.2,2,()) λc2=>
  .bnd (β:=Int×ax×Bool×Curs×Conn×Segm×Unit) (.ite c2.1 (.ret (x1.r.next,c1.2.1,c1.2.2.1,c2.2,x1,(⟨0,0,0,0,0,0,⟨0,0,false,false,0,0⟩,[]⟩:Segm),()))<|
   .ret (c1.1,c1.2.1,c1.2.2.1,c2.2,x1,(⟨0,0,0,0,0,0,⟨0,0,false,false,0,0⟩,[]⟩:Segm),())) λ(u3a0,u3a1,u3a2,u3a3,u3a4,u3a5,_)=>
  .cal gC.c (u3a4.s,()) λc4=>
  .cal af.c (u3a3,(IntKind.wrap .i64 (c4+1)),()) λc5=>
  .val (bg.f (u3a4.s.una,c5.1,())) λc6=>
  .cal aw.c (c5.2,[0,1,8,64,65535],()) λc7=>
  .val (cr.f (())) λc8=>
  .bnd (β:=Curs×Conn×Segm×Segm×Unit) (.ite u3a2 (.ret (c7.2,u3a4,u3a5,(⟨u3a4.tuple.port,u3a4.tuple.my,u3a0,c6,17,c7.1,c8,u3a1⟩:Segm),()))<|
   .ret (c7.2,u3a4,u3a5,(⟨u3a4.tuple.port,u3a4.tuple.my,u3a0,c6,16,c7.1,c8,u3a1⟩:Segm),())) λ(u9a0,u9a1,u9a2,u9a3,_)=>
  .cal af.c (u9a0,10,()) λc10=>
  .bnd (β:=Curs×Segm×Segm×Unit) (.ite (c10.1==0) (.cal Lv.c (c10.2,()) λc11=>
    .ret (c11.2,u9a2,({u9a3 with flags:=c11.1}:Segm),()))<|
   .ite (c10.1==1) (.cal qq.c (c10.2,u9a1.s.una,()) λc12=>
    .ret (c12.2,u9a2,({u9a3 with ack:=c12.1}:Segm),()))<|
   .ite (c10.1==2) (.cal qq.c (c10.2,u9a1.r.next,()) λc13=>
    .ret (c13.2,u9a2,({u9a3 with seq:=c13.1}:Segm),()))<|
   .ite (c10.1==3) (.ret (c10.2,u9a2,({u9a3 with body:=[]}:Segm),()))<|
   .ret (c10.2,u9a2,u9a3,())) λ(u14a0,_,u14a2,_)=>
  .val (bF.f (u14a2.seq,())) λc15=>
  .val (bF.f (u14a2.ack,())) λc16=>
  .ret (({u14a2 with seq:=c15,ack:=c16}:Segm),u14a0),
 λ(y0,x1,_) hp=>by
  refine Tr.C ?_ λ_ _ _=>Tr.C ?_ λ_ _ _=>Tr.B (Q':=λw=>sS w.2.1∧ae w.2.2.2.1∧aa w.2.2.2.2.1∧aj w.2.2.2.2.2.1) (Tr.I (λ_=>Tr.R ?_) λ_=>Tr.R ?_) (λ(u3a0,u3a1,u3a2,u3a3,u3a4,u3a5,_) _ _=>Tr.C ?_ λ_ _ _=>Tr.C ?_ λ_ _ _=>Tr.V λ_ _=>Tr.C ?_ λ_ _ _=>Tr.V λ_ _=>Tr.B (Q':=λw=>ae w.1∧aa w.2.1∧aj w.2.2.1∧aj w.2.2.2.1) (Tr.I (λ_=>Tr.R ?_) λ_=>Tr.R ?_) (λ(u9a0,u9a1,u9a2,u9a3,_) _ _=>Tr.C ?_ λ_ _ _=>Tr.B (Q':=λw=>ae w.1∧aj w.2.1∧aj w.2.2.1) (Tr.I (λ_=>Tr.C ?_ λ_ _ _=>Tr.R ?_) λ_=>Tr.I (λ_=>Tr.C ?_ λ_ _ _=>Tr.R ?_) λ_=>Tr.I (λ_=>Tr.C ?_ λ_ _ _=>Tr.R ?_) λ_=>Tr.I (λ_=>Tr.R ?_) λ_=>Tr.R ?_) (λ(u14a0,u14a1,u14a2,_) _ _=>Tr.V λ_ _=>Tr.V λ_ _=>Tr.R ?_)))
  all_goals ((try simp only[Tr.nice,bu]at*)<;>grind)⟩
noncomputable def FV:=cI st IL Jl [] [.wr false [.ptr 0],.st .conn] [.box [.st .curs]] (λx y=>(y.1.1,x.2.1,())) Bb (λv=>[(true,nk v.1)]) (λx y v=>((v.2,()),())) Tryz.func213 (by kernel_rfl) trivial
noncomputable def DK:=[oD,jO,kp,aJ,Eb,aE,qY,VH,N8,cV,WY,Nv,FV,vO]
def mR:Sh:=⟨[zp 0 0,zp 2 1,zp 3 2,zi 4,zi 5],[.box [.st .curs [.sl .any]],.box [.st .conn [.nil .piec]],.box [.st .conn [.own 3]],.of false true]⟩
noncomputable def D3:Fx:=⟨374,Tryz.f374,[(0,la ⟨[0,2,3,4,5],[],false,1⟩ ⟨[2,3],[],false,1⟩)],1⟩
noncomputable def IX (v1:Int)(a:Curs×Conn×Conn):Tr (Stp (Curs×Conn×Conn) (Empty)):=
 .cal af.c (a.1,8,()) λc8=>
 .ite (c8.1==0) (.cal af.c (c8.2,20,()) λc9=>
  .cal sa.c (c9.2,c9.1,()) λc10=>
  .cal TV.c (a.2.2,(ar c10.1),()) λc11=>
  .ret (.next (c10.2,({a.2.1 with r.held:=[]}:Conn),c11.1)))<|
 .ite (c8.1==1) (.cal I3.c (a.2.2,()) λc12=>
  .ret (.next (c8.2,({a.2.1 with r.held:=[]}:Conn),c12.1)))<|
 .ite (c8.1==2) (.cal bQ.c (c8.2,2,()) λc13=>
  .ite c13.1 (.cal Xj.c (a.2.2,()) λc14=>
   .ret (.next (c13.2,({a.2.1 with r.held:=[]}:Conn),c14.1)))<|
  .ret (.next (c13.2,({a.2.1 with r.held:=[]}:Conn),a.2.2)))<|
 .ite (c8.1==3) (.cal af.c (c8.2,9,()) λc15=>
  .cal Gw.c (a.2.2,c15.1,()) λc16=>
  .ret (.next (c15.2,({a.2.1 with r.held:=[]}:Conn),c16.1)))<|
 .cal Bb.c (c8.2,a.2.2,()) λc17=>
 .cal pq.c (a.2.2,c17.1,()) λc18=>
 .ret (.next (c17.2,({a.2.1 with r.held:=[]}:Conn),c18.1))
noncomputable def gQ:mR.V→LC mR (Curs×Conn×Conn) (Empty) (Int×(Curs×Conn×Conn)):=λ(v0,v1,v2,v3,v4,_)=>⟨v1,(v2,v3,v4),λv1 a=>(v0,v1,a.1,a.2.1,a.2.2,()),λv1 _=>(decide (v1<v0)),IX,up,1,(Int.toNat (v0-v1)),(λp=>Empty.elim p),λi a=>(i,a),λ_ k x=>k (.exit 0) (Sh.enc ⟨[zp 2 1,zp 3 2],[.box [.st .curs [.sl .any]],.box [.st .conn [.nil .piec]],.box [.st .conn [.own 3]],.of false true]⟩ (x.2.1,({x.2.2.1 with r.held:=[]}:Conn),x.2.2.2,()))⟩
theorem F1:LS Tryz.prog D3 [0] (bx 0 mR gQ):=aN st (ac DK) _ gQ [] trivial
theorem Hb {v0 v1:Int}{v2:Curs}{v3 v4:Conn}(h0:0≤v1)(h1:v0≤4611686018427387904)(h2:ae v2∧aa v3∧aa v4):(gQ (v0,v1,v2,v3,v4,())).U v0 (λv1 a=>ae a.1∧aa a.2.1∧aa a.2.2) (λ_=>True):=
 LC.okU (i:=v1) (a:=(v2,v3,v4)) (λ_ _=>rfl) (λ_=>rfl) rfl h0 h1 h2 λv1 (v2,v3,v4) hj hk hv=>by
  refine Tr.C ?_ λ_ _ _=>Tr.I (λ_=>Tr.C ?_ λ_ _ _=>Tr.C ?_ λ_ _ _=>Tr.C ?_ λ_ _ _=>Tr.Rn ?_) λ_=>Tr.I (λ_=>Tr.C ?_ λ_ _ _=>Tr.Rn ?_) λ_=>Tr.I (λ_=>Tr.C ?_ λ_ _ _=>Tr.I (λ_=>Tr.C ?_ λ_ _ _=>Tr.Rn ?_) λ_=>Tr.Rn ?_) λ_=>Tr.I (λ_=>Tr.C ?_ λ_ _ _=>Tr.C ?_ λ_ _ _=>Tr.Rn ?_) λ_=>Tr.C ?_ λ_ _ _=>Tr.C ?_ λ_ _ _=>Tr.Rn ?_
  all_goals (grind)
noncomputable def CL:FT (Curs×Unit) (Conn×Curs) (λx=>ae x.1) (λx v=>aa v.1∧ae v.2):=⟨λ(y0,_)=>
  .cal qd.c (y0,()) λc1=>
  .cal iU.c (c1.2,()) λc2=>
  .cal iU.c (c2.2,()) λc3=>
  .cal lB.c (c3.2,()) λc4=>
  .cal aw.c (c4.2,[0,4,64,65535],()) λc5=>
  .cal pj.c (c1.1,c2.1,c3.1,c4.1,c5.1,()) λc6=>
  .cal af.c (c5.2,9,()) λc7=>
  .lp (gQ (c7.1,0,c7.2,(⟨⟨0,0,0⟩,0,⟨0,[],0,false,false,false⟩,⟨0,[],[],0,false⟩,0,0,⟨0,0,false,false,0,0⟩,0,0⟩:Conn),c6,())).lp λ(_,a19_0,_,a19_2)=>
  .ret (a19_2,a19_0),
 λ(y0,_) hp=>by
  refine Tr.C ?_ λ_ _ _=>Tr.C ?_ λ_ _ _=>Tr.C ?_ λ_ _ _=>Tr.C ?_ λ_ _ _=>Tr.C ?_ λ_ _ _=>Tr.C trivial λ_ _ _=>Tr.C ?_ λ_ _ _=>Tr.L (Hb ?_ ?_ ?_) (λ(a19_0,a19_1,a19_2) _=>Tr.R ?_) (λp=>Empty.elim p)
  all_goals ((try simp only[gQ,LC.lp,LC.ct,Ct.lp]at*)<;>grind)⟩
noncomputable def DF:=cI st D3 DK [(bx 0 mR gQ)] [.wr false [.ptr 0]] [.box [.st .curs]] (λx y=>(y.1.1,())) CL (λv=>[(true,gO (.o true) v.1)]) (λx y v=>((v.2,()),())) Tryz.func374 (by kernel_rfl) ⟨F1,trivial⟩

end
end Go.Proofs.YtgbgljgnblkffaaGreat
