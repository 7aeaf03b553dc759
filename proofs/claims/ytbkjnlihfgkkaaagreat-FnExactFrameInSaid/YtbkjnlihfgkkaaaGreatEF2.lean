/-
  Contracts of functions and plain laws (printed by a program): each theorem says what a function of the program returns; conditions are its hypotheses.
-/
import Derived.Test.YtbkjnlihfgkkaaaGreatEF1
set_option linter.all false
set_option maxRecDepth 4000
namespace Go.Proofs.YtbkjnlihfgkkaaaGreat
open Go Go.RowKit
noncomputable section
noncomputable def dg:FT (Sndr×Chun×Unit) (Sndr) (λx=>dW x.1/\Cj x.2.1) (λx v=>dW v/\(SO x.1->(x.2.1.text.length:Int)+x.1.sent<=x.1.data.length->x.1.finSent=false->(x.2.1.fin=true->x.1.fin=true/\x.1.done=false/\x.1.sent+x.2.1.text.length=x.1.data.length)->v={x.1 with sent:=x.1.sent+x.2.1.text.length,finSent:=x.2.1.fin})):= .mk λ(x0,x1,_)=>
  .ite x0.finSent (.cal br.c (x0,()) λc1=>
   .ite (!c1) (.ret x0)<|
   .cal br.c (({x0 with sent:=(IntKind.wrap .i64 (x0.sent+(x1.text.length:Int))),finSent:=true}:Sndr),()) λc2=>
   .ite (!c2) (.ret x0)<|
   .ite x1.fin (.ite (!x0.fin) (.ret x0)<|
    .ite x0.done (.ret x0)<|
    .ret ({x0 with sent:=(IntKind.wrap .i64 (x0.sent+(x1.text.length:Int))),finSent:=true}:Sndr))<|
   .ret ({x0 with sent:=(IntKind.wrap .i64 (x0.sent+(x1.text.length:Int))),finSent:=true}:Sndr))<|
  .cal br.c (x0,()) λc3=>
  .ite (!c3) (.ret x0)<|
  .cal br.c (({x0 with sent:=(IntKind.wrap .i64 (x0.sent+(x1.text.length:Int))),finSent:=x1.fin}:Sndr),()) λc4=>
  .ite (!c4) (.ret x0)<|
  .ite x1.fin (.ite (!x0.fin) (.ret x0)<|
   .ite x0.done (.ret x0)<|
   .ret ({x0 with sent:=(IntKind.wrap .i64 (x0.sent+(x1.text.length:Int))),finSent:=x1.fin}:Sndr))<|
  .ret ({x0 with sent:=(IntKind.wrap .i64 (x0.sent+(x1.text.length:Int))),finSent:=x1.fin}:Sndr)
noncomputable def QI:=aU ao Tryz.func318 [pP] (ks:=[.st .sndr,.st .chun]) dg (λv=>[(true,Kg v)])
noncomputable def Un:=[sD,pV,xZ,kN,cu,TY]
def IX:An:=⟨⟨[],[],false,0⟩,⟨[1,2,3],[],false,0⟩,⟨[],[]⟩,[(.normal,⟨[zp 1 0,zb 2,zi 3],[zg .conn]⟩)]⟩
noncomputable def Tc:Fx:=⟨320,Tryz.f320,[(1000055,IX),(3000001,rA 0 52),(3000010,rA 0 4),(3000011,rA 0 5)],0⟩
noncomputable def qB:FT (Conn×Unit) (Bool) (λx=>ah x.1) (λx v=>(v=true->SO x.1.s/\RO x.1.r)):= .mk λ(x0,_)=>
  .bnd (β:=Bool×Unit) (.as (λw=>(w.1=false->SO x0.s/\RO x0.r)) (.cal nS.c (x0.tuple,()) λc1=>
   .ite (!c1) (.ret (true,()))<|
   .cal fZ.c (x0.s,()) λc2=>
   .ite (!c2) (.ret (true,()))<|
   .cal m9.c (x0.r,()) λc3=>
   .ite (!c3) (.ret (true,()))<|
   .cal d9.c (x0.opts,()) λc4=>
   .ite (!c4) (.ret (true,()))<|
   .val (cm.f (x0.state,1,8,())) λc5=>
   .ite (!c5) (.ret (true,()))<|
   .val (cm.f (x0.window,0,x0.most,())) λc6=>
   .ite (!c6) (.ret (true,()))<|
   .ite (decide (1073725440<x0.most)) (.ret (true,()))<|
   .val (cm.f (x0.tries,0,3,())) λc7=>
   .ret ((!c7),()))) λ(u8a0,_)=>
  .ite u8a0 (.ret false)<|
  .bnd (β:=Bool×Int×Conn×Unit) (.as (λw=>ah w.2.2.1) (.ite (x0.state==7) (.ret (false,4,x0,()))<|
   .ret (false,3,x0,()))) λ(_,u9a1,u9a2,_)=>
  .val (cm.f (u9a2.timer,0,u9a1,())) λc10=>
  .ite (!c10) (.ret false)<|
  .ite (u9a2.state==8) (.ret true)<|
  .bnd (β:=Bool×Unit) (.ite (u9a2.state==3) (.ret (true,()))<|
   .ret ((u9a2.state==7),())) λ(u11a0,_)=>
  .bnd (β:=Bool×Unit) (.ite (u9a2.state==4) (.ret (true,()))<|
   .ret ((decide (5<=u9a2.state)),())) λ(u12a0,_)=>
  .val (Hd.f (u9a2.state,())) λc13=>
  .ite (u9a2.s.fin==c13) (.ite (u9a2.s.done==u11a0) (.ret (u9a2.r.done==u12a0))<|
   .ret false)<|
  .ret false
noncomputable def uS:=cI st Tc Un [] (ks:=[.st .conn]) qB rB Tryz.func320 trivial
noncomputable def MV:=[L9]
noncomputable def NT:Fx:=⟨324,Tryz.f324,[(3000002,rA 0 29)],0⟩
noncomputable def ux:FT (Arpm×Int×Int×Unit) (Arpm×Bool) (λ_=>True) (λ_ _=>True):= .mk λ(x0,x1,x2,_)=>
  .bnd (β:=Bool×Unit) (.ite (x0.kind != 1) (.ret (true,()))<|
   .ite (x0.dstIp != x2) (.ret (true,()))<|
   .cal CL.c ((⟨2,x1,x2,x0.srcHw,x0.srcIp⟩:Arpm),()) λc1=>
   .ret ((!c1),())) λ(u2a0,_)=>
  .ite u2a0 (.ret ((⟨0,0,0,0,0⟩:Arpm),false))<|
  .ret ((⟨2,x1,x2,x0.srcHw,x0.srcIp⟩:Arpm),true)
noncomputable def NG:=cI st NT MV [] (ks:=[.st .arpm,.sc (.int .i64),.sc (.int .i64)]) ux (λv=>[(true,NE v.1),(false,[.c (.bool v.2)])]) Tryz.func324 trivial
noncomputable def tP:FT (Arpm×Unit) (ac) (λ_=>True) (λx v=>sS v/\v.length<=40):=⟨λ(x0,_)=>
  .cal CL.c (x0,()) λc1=>
  .ite (!c1) (.ret [])<|
  .cal aN.c (x0.kind,2,()) λc2=>
  .grd (Nat.ble (6+c2.length) am)<|
  .cal aN.c (x0.srcHw,6,()) λc3=>
  .grd (Nat.ble (([0,1,8,0,6,4]++c2).length+c3.length) am)<|
  .cal aN.c (x0.srcIp,4,()) λc4=>
  .grd (Nat.ble ((([0,1,8,0,6,4]++c2)++c3).length+c4.length) am)<|
  .cal aN.c (x0.dstHw,6,()) λc5=>
  .grd (Nat.ble (((([0,1,8,0,6,4]++c2)++c3)++c4).length+c5.length) am)<|
  .cal aN.c (x0.dstIp,4,()) λc6=>
  .grd (Nat.ble ((((([0,1,8,0,6,4]++c2)++c3)++c4)++c5).length+c6.length) am)<|
  .ret ((((([0,1,8,0,6,4]++c2)++c3)++c4)++c5)++c6),
 λ(x0,_) hp=>by
  refine Tr.C trivial λc1 hc1 qc1=>Tr.I (λb0=>Tr.R ?_) λb0=>Tr.C trivial λc2 hc2 qc2=>Tr.Gb ?_ λg1=>Tr.C trivial λc3 hc3 qc3=>Tr.Gb ?_ λg2=>Tr.C trivial λc4 hc4 qc4=>Tr.Gb ?_ λg3=>Tr.C trivial λc5 hc5 qc5=>Tr.Gb ?_ λg4=>Tr.C trivial λc6 hc6 qc6=>Tr.Gb ?_ λg5=>Tr.R ?_
  all_goals ((first|(simp only[List.length_append,List.length_cons,List.length_nil,am,sS]at*;omega)|grind))⟩
noncomputable def EG:=aU st Tryz.func325 [L9,jP] (ks:=[.st .arpm]) tP (λv=>[(false,[.c (.str v)])])
noncomputable def pH:FT (Pack×Unit) (ac) (λx=>uO x.1) (λx v=>sS v/\v.length<=1520):=⟨λ(x0,_)=>
  .cal uy.c (x0,()) λc1=>
  .ite (!c1) (.ret [])<|
  .cal aN.c ((IntKind.wrap .i64 (20+(x0.body.length:Int))),2,()) λc2=>
  .grd (Nat.ble (2+c2.length) am)<|
  .cal aN.c (x0.id,2,()) λc3=>
  .grd (Nat.ble (([69,0]++c2).length+c3.length) am)<|
  .grd (Nat.ble ((([69,0]++c2)++c3).length+2) am)<|
  .cal aN.c (x0.ttl,1,()) λc4=>
  .grd (Nat.ble (((([69,0]++c2)++c3)++[0,0]).length+c4.length) am)<|
  .cal aN.c (x0.proto,1,()) λc5=>
  .grd (Nat.ble ((((([69,0]++c2)++c3)++[0,0])++c4).length+c5.length) am)<|
  .cal aN.c (x0.src,4,()) λc6=>
  .cal aN.c (x0.dst,4,()) λc7=>
  .grd (Nat.ble (c6.length+c7.length) am)<|
  .grd (Nat.ble (((((([69,0]++c2)++c3)++[0,0])++c4)++c5).length+(c6++c7).length) am)<|
  .cal u9.c ((((((([69,0]++c2)++c3)++[0,0])++c4)++c5)++(c6++c7)),()) λc8=>
  .cal aN.c (c8,2,()) λc9=>
  .grd (Nat.ble (((((([69,0]++c2)++c3)++[0,0])++c4)++c5).length+c9.length) am)<|
  .grd (Nat.ble ((((((([69,0]++c2)++c3)++[0,0])++c4)++c5)++c9).length+(c6++c7).length) am)<|
  .val ((((((([69,0]++c2)++c3)++[0,0])++c4)++c5)++c9)++(c6++c7)) λe10=>
  .grd (Nat.ble (e10.length+x0.body.length) am)<|
  .ret (e10++x0.body),
 λ(x0,_) hp=>by
  refine Tr.C trivial λc1 hc1 qc1=>Tr.I (λb0=>Tr.R ?_) λb0=>Tr.C trivial λc2 hc2 qc2=>Tr.Gb ?_ λg1=>Tr.C trivial λc3 hc3 qc3=>Tr.Gb ?_ λg2=>Tr.Gb ?_ λg3=>Tr.C trivial λc4 hc4 qc4=>Tr.Gb ?_ λg4=>Tr.C trivial λc5 hc5 qc5=>Tr.Gb ?_ λg5=>Tr.C trivial λc6 hc6 qc6=>Tr.C trivial λc7 hc7 qc7=>Tr.Gb ?_ λg6=>Tr.Gb ?_ λg7=>Tr.C ?_ λc8 hc8 qc8=>Tr.C trivial λc9 hc9 qc9=>Tr.Gb ?_ λg8=>Tr.Gb ?_ λg9=>Tr.V λe10 he10=>Tr.Gb ?_ λg10=>Tr.R ?_
  all_goals ((first|(simp only[List.length_append,List.length_cons,List.length_nil,am,sS]at*;omega)|grind))⟩
noncomputable def Ij:=aU st Tryz.func331 [N4,jP,Dg] (ks:=[.st .pack]) pH (λv=>[(false,[.c (.str v)])])
noncomputable def pI:FT (Pack×Unit) (ac) (λx=>uO x.1) (λx v=>sS v/\v.length<=1520):=⟨λ(x0,_)=>
  .cal lB.c (x0,()) λc1=>
  .ite (!c1) (.ret [])<|
  .cal au.c ((IntKind.wrap .i64 (20+(x0.body.length:Int))),2,()) λc2=>
  .grd (Nat.ble (2+c2.length) am)<|
  .cal au.c (x0.id,2,()) λc3=>
  .grd (Nat.ble (([69,0]++c2).length+c3.length) am)<|
  .grd (Nat.ble ((([69,0]++c2)++c3).length+2) am)<|
  .cal au.c (x0.ttl,1,()) λc4=>
  .grd (Nat.ble (((([69,0]++c2)++c3)++[0,0]).length+c4.length) am)<|
  .cal au.c (x0.proto,1,()) λc5=>
  .grd (Nat.ble ((((([69,0]++c2)++c3)++[0,0])++c4).length+c5.length) am)<|
  .cal au.c (x0.src,4,()) λc6=>
  .cal au.c (x0.dst,4,()) λc7=>
  .grd (Nat.ble (c6.length+c7.length) am)<|
  .grd (Nat.ble (((((([69,0]++c2)++c3)++[0,0])++c4)++c5).length+2) am)<|
  .grd (Nat.ble ((((((([69,0]++c2)++c3)++[0,0])++c4)++c5)++[0,0]).length+(c6++c7).length) am)<|
  .val ((((((([69,0]++c2)++c3)++[0,0])++c4)++c5)++[0,0])++(c6++c7)) λe8=>
  .cal r7.c (e8,()) λc9=>
  .cal au.c (c9,2,()) λc10=>
  .grd (Nat.ble (((((([69,0]++c2)++c3)++[0,0])++c4)++c5).length+c10.length) am)<|
  .grd (Nat.ble ((((((([69,0]++c2)++c3)++[0,0])++c4)++c5)++c10).length+(c6++c7).length) am)<|
  .val ((((((([69,0]++c2)++c3)++[0,0])++c4)++c5)++c10)++(c6++c7)) λe11=>
  .grd (Nat.ble (e11.length+x0.body.length) am)<|
  .ret (e11++x0.body),
 λ(x0,_) hp=>by
  refine Tr.C trivial λc1 hc1 qc1=>Tr.I (λb0=>Tr.R ?_) λb0=>Tr.C trivial λc2 hc2 qc2=>Tr.Gb ?_ λg1=>Tr.C trivial λc3 hc3 qc3=>Tr.Gb ?_ λg2=>Tr.Gb ?_ λg3=>Tr.C trivial λc4 hc4 qc4=>Tr.Gb ?_ λg4=>Tr.C trivial λc5 hc5 qc5=>Tr.Gb ?_ λg5=>Tr.C trivial λc6 hc6 qc6=>Tr.C trivial λc7 hc7 qc7=>Tr.Gb ?_ λg6=>Tr.Gb ?_ λg7=>Tr.Gb ?_ λg8=>Tr.V λe8 he8=>Tr.C ?_ λc9 hc9 qc9=>Tr.C trivial λc10 hc10 qc10=>Tr.Gb ?_ λg9=>Tr.Gb ?_ λg10=>Tr.V λe11 he11=>Tr.Gb ?_ λg11=>Tr.R ?_
  all_goals ((first|(simp only[List.length_append,List.length_cons,List.length_nil,am,sS]at*;omega)|grind))⟩
noncomputable def Kc:=aU ao Tryz.func342 [MK,jx,D7] (ks:=[.st .pack]) pI (λv=>[(false,[.c (.str v)])])
noncomputable def fO:FX (Recv×Int×Unit) (Int) (λ_=>True) (cG [.st .recv,.sc (.int .i64)]):=⟨λ(x0,x1,_)=>
  .ite (decide ((IntKind.wrap .i64 (x1-(x0.data.length:Int)))<0)) (.ret (-1))<|
  .cal lw.c (x0.held,(IntKind.wrap .i64 (x1-(x0.data.length:Int))),()) λc1=>
  .ite (decide (c1<0)) (.ret (-1))<|
  .ret c1,
 λ(x0,x1,_) hp hf=>by
  simp only[cG,Pk.fact,jT,gy,Fl.fact,Ty.fl,Ty.toH]at hf
  refine Tr.I (λ_=>Tr.R trivial) λ_=>Tr.C trivial λ_ _ _=>Tr.F (by kernel_rfl) trivial⟩
theorem NX (x:Recv)(k:Int)(h0:0<=k)(h1:k<=1048576)(hd:x.data.length<=4611686018427387904)(hl:x.held.length<=140737488355328)(he:EV .piec x.held)(h:0<=fO.f (x,k,())):fO.f (x,k,())<=k/\x.data.length<=1048576/\x.held.length<=1048576/\dP bD x.held:=by
 have w:IntKind.wrap .i64 (k-(x.data.length:Int))=k-(x.data.length:Int):=aj (by omega) (by omega)
 have e:fO.f (x,k,())=(bif decide (k-(x.data.length:Int)<0)then-1 else(bif decide (lw.f (x.held,k-(x.data.length:Int),())<0)then-1 else lw.f (x.held,k-(x.data.length:Int),()))):=by simp only[FX.f,PX,fO,w]
 rw[e]at h|-
 obtain⟨p0,e0⟩:=kA h
 rw[e0]at h|-
 obtain⟨p1,e1⟩:=kA h
 rw[e1]at h|-
 have b:=T6 x.held _ p0 (by omega) hl he p1
 exact⟨by omega,by omega,b.2.1,b.2.2⟩
noncomputable def GM:=sC st Tryz.func346 [OS] (ks:=[.st .recv,.sc (.int .i64)]) fO rI
noncomputable def p7:FT (Recv×Unit) (Recv) (λx=>ax x.1) (λx v=>ax v):= .mk λ(x0,_)=>
  .cal u6.c (x0.held,()) λc1=>
  .ret ({x0 with held:=c1}:Recv)
noncomputable def IK:=aU ao Tryz.func348 [NJ] (ks:=[.st .recv]) p7 (λv=>[(true,Ah (.o true) v)])
noncomputable def Il:=[rx,mY,xC,uu,ON]
noncomputable def I4:Fx:=⟨356,Tryz.f356,[(3000004,rA 0 4)],0⟩
noncomputable def pK:FT (Conn×Segm×Unit) (Bool) (λx=>ah x.1/\aw x.2.1) (λ_ _=>True):= .mk λ(x0,x1,_)=>
  .cal gZ.c (x1,()) λc1=>
  .cal ju.c (x0.r,()) λc2=>
  .ite (c1==0) (.bnd (β:=Bool×Unit) (.val (qi.f (x1.seq,x0.r.next,())) λc3=>
    .ite (c3==0) (.ret (true,()))<|
    .val (nF.f (x1.seq,x0.r.next,c2,())) λc4=>
    .ret (c4,())) λ(u5a0,_)=>
   .ret u5a0)<|
  .cal uc.c (x1.seq,c1,x0.r.next,c2,()) λc6=>
  .ret c6
noncomputable def I5:=cI st I4 Il [] (ks:=[.st .conn,.st .segm]) pK rB Tryz.func356 trivial
noncomputable def XE:=[xC,pV,mI,cu,ib]
def Kw:An:=⟨⟨[],[],false,0⟩,⟨[2,4,5,6,7],[],false,0⟩,⟨[],[]⟩,[(.normal,⟨[zp 2 0,zp 4 1,zb 5,zi 6,zp 7 2],[zx .sndr,zx .sndr,zx .sndr]⟩)]⟩
noncomputable def WO:Fx:=⟨359,Tryz.f359,[(1000032,Kw),(3000002,rA 0 21)],0⟩
noncomputable def Gp:FT (Sndr×Int×Unit) (Sndr×Bool) (λx=>dW x.1) (λx v=>dW v.1):= .mk λ(x0,x1,_)=>
  .val (qi.f (x1,x0.una,())) λc1=>
  .bnd (β:=Bool×Unit) (.as (λw=>(w.1=false->SO x0)/\(w.1=false->0<=c1/\c1<=x0.sent+1)) (.cal fZ.c (x0,()) λc2=>
   .ite (!c2) (.ret (true,()))<|
   .cal jG.c (x0,()) λc3=>
   .val (cm.f (c1,0,c3,())) λc4=>
   .ret ((!c4),()))) λ(u5a0,_)=>
  .ite u5a0 (.ret (x0,false))<|
  .val (cX.f (x0.una,c1,())) λc6=>
  .bnd (β:=Bool×Int×Sndr×Sndr×Sndr×Unit) (.as (λw=>dW w.2.2.1/\dW w.2.2.2.1/\dW w.2.2.2.2.1/\0<=w.2.1/\w.2.1<=x0.data.length/\w.2.2.1=x0) (.ite (decide (x0.sent<c1)) (.ret (false,x0.sent,x0,(⟨0,[],0,false,false,false⟩:Sndr),({x0 with una:=c6,finSent:=false,done:=true}:Sndr),()))<|
   .ret (false,c1,x0,(⟨0,[],0,false,false,false⟩:Sndr),({x0 with una:=c6}:Sndr),()))) λ(_,u7a1,u7a2,_,u7a4,_)=>
  .grd (O3 u7a2.data u7a1 (u7a2.data.length:Int))<|
  .ret (({u7a4 with data:=((u7a2.data.take ((u7a2.data.length:Int).toNat)).drop u7a1.toNat),sent:=(IntKind.wrap .i64 (u7a2.sent-u7a1))}:Sndr),true)
noncomputable def W5:=cI st WO XE [] (ks:=[.st .sndr,.sc (.int .i64)]) Gp (λv=>[(true,Kg v.1),(false,[.c (.bool v.2)])]) Tryz.func359 trivial
noncomputable def xk:=[ES,xZ,mY,Nv,ib,nD,Pf,KA]
def m7:Sh:=⟨[zi 1,zs 2,zb 3,zp 4 0,zp 8 1,zp 9 2,zi 10,zo 11 3,zi 12],[zg .recv,.box [.st .recv [.nil .piec]],zk .recv 4,za .i64,zf]⟩
def ml:Sh:=⟨[zp 4 0,zp 8 1,zp 9 2,zo 11 3,zi 15,zo 16 4],[zg .recv,.box [.st .recv [.nil .piec]],zk .recv 5,za .i64,za .u8,zf]⟩
def vN:An:=⟨⟨[],[],false,0⟩,⟨[4,8,9,11],[],false,0⟩,⟨[],[]⟩,[(.normal,⟨[zp 4 0,zp 8 1,zp 9 2,zo 11 3],[zg .recv,.box [.st .recv [.nil .piec]],zk .recv 4,za .i64,zf]⟩)]⟩
def oa:An:=⟨⟨[],[],false,0⟩,⟨[4,8,9],[],false,0⟩,⟨[],[]⟩,[(.normal,⟨[zp 4 0,zp 8 1,zp 9 2],[zg .recv,.box [.st .recv [.nil .piec]],zk .recv 3,zf]⟩)]⟩
noncomputable def wV:Fx:=⟨361,Tryz.f361,[(0,lb [1,2,3,4,8,9,10,11,12] [1,2,3,4,8,9,10,11]),(2,lb [4,8,9,11,15,16] [4,8,9,11,15,16]),(1000095,vN),(1000137,oa),(3000002,rA 0 25),(3000010,rA 0 64),(3000013,rA 0 95)],0⟩
noncomputable def qY (v0:Int)(v1:ac)(v3:Int)(v5:Recv)(v4:Int)(a:Recv×List Int):Tr (Stp (Recv×List Int) (Empty)):=
 .val (cX.f (v0,v4,())) λc6=>
 .val (cS.f ((IntKind.wrap .i64 (c6-v5.next)),())) λc7=>
 .bnd (β:=Bool×Unit) (.ite (decide (c7<v3)) (.ite (decide (v5.fin<0)) (.grd (ba a.2 c7)<|
    .ret ((decide ((a.2.getD c7.toNat 0)<0)),()))<|
   .ite (decide (c7<v5.fin)) (.grd (ba a.2 c7)<|
    .ret ((decide ((a.2.getD c7.toNat 0)<0)),()))<|
   .ret (false,()))<|
  .ret (false,())) λ(u8a0,_)=>
 .ite u8a0 (.grd (ba v1 v4)<|
  .grd (ba a.2 c7)<|
  .ret (.next (({a.1 with held:=[]}:Recv),(a.2.set c7.toNat (IntKind.wrap .i64 (af v1 v4.toNat))))))<|
 .ret (.next (({a.1 with held:=[]}:Recv),a.2))
noncomputable def fx:m7.V->wa m7 (Recv×List Int):=λ(v0,v1,v2,v3,v4,v5,v6,v7,v8,_)=>⟨v4,(v6,v8),λv4 a=>(v0,v1,v2,v3,v4,v5,a.1,v7,a.2,()),λv4 _=>(decide (v4<(v1.length:Int))),qY v0 v1 v3 v5,up,1,(Int.toNat ((v1.length:Int)-v4)),Empty.elim,Prod.mk,oN (.exit 0) ⟨[zi 1,zs 2,zb 3,zp 4 0,zp 8 1,zp 9 2,zi 10,zo 11 3],[zg .recv,.box [.st .recv [.nil .piec]],zk .recv 4,za .i64,zf]⟩ (λx=>(v0,v1,v2,v3,v5,({x.2.1 with held:=[]}:Recv),v7,x.2.2,()))⟩
theorem HV:LS Tryz.prog wV [0] (kD 0 m7 fx):=fa st (aW xk) _ fx [] trivial
theorem J4 {v0 v3 v4:Int}{v1:ac}{v2:Bool}{v5 v6 v7:Recv}{v8:List Int}(h0:0<=v4)(h1:(v1.length:Int)<=4611686018427387904)(h2:v3<=32)(h3:sS v1)(h4:ax v5)(h5:sS v8)(h6:ax v6/\v8.length=v8.length/\v8.length=33):(fx (v0,v1,v2,v3,v4,v5,v6,v7,v8,())).U (v1.length:Int) (λv4 a=>ax a.1/\a.2.length=v8.length/\a.2.length=33) (λ_=>True):=
 kx (a:=(v6,v8)) h0 h1 h6
noncomputable def jF (v4:List Int)(v0:Int)(a:Recv×List Int):Tr (Stp (Recv×List Int) ((Int×Recv×List Int))):=
 .grd (ba v4 v0)<|
 .ite (decide (0<=(v4.getD v0.toNat 0))) (.grd (ba v4 v0)<|
  .grd (De a.2 1 1)<|
  .ret (.next (({a.1 with held:=[]}:Recv),(a.2++[(IntKind.wrap .u8 (v4.getD v0.toNat 0))]))))<|
 .ret (.out (v0,({a.1 with held:=[]}:Recv),a.2))
noncomputable def eh:ml.V->nL ml (Recv×List Int) (Int×Recv×List Int):=λ(v0,v1,v2,v3,v4,v5,_)=>⟨v0,(v2,v5),λv0 a=>(v0,v1,a.1,v3,v4,a.2,()),λv0 _=>(decide (v0<(v4.length:Int))),jF v4,up,1,(Int.toNat ((v4.length:Int)-v0)),.inl,eR,oB (.exit 2) ⟨[zp 4 0,zp 8 1,zp 9 2,zo 11 3,zi 15,zo 16 4],[zg .recv,.box [.st .recv [.nil .piec]],zk .recv 5,za .i64,za .u8,zf]⟩ (λp=>(p.1,v1,p.2.1,v3,v4,p.2.2,())) (.exit 2) ⟨[zp 4 0,zp 8 1,zp 9 2,zo 11 3,zi 15,zo 16 4],[zg .recv,.box [.st .recv [.nil .piec]],zk .recv 5,za .i64,za .u8,zf]⟩ (λx=>(x.1,v1,({x.2.1 with held:=[]}:Recv),v3,v4,x.2.2,()))⟩
theorem J6:LS Tryz.prog wV [1] (kD 2 ml eh):=fa st (aW xk) _ eh [] trivial
theorem Ji {v0:Int}{v1 v2 v3:Recv}{v4 v5:List Int}(h0:0<=v0)(h1:(v4.length:Int)<=4611686018427387904)(h2:sS v4)(h3:ax v2/\(v5.length:Int)=v0):(eh (v0,v1,v2,v3,v4,v5,())).U (v4.length:Int) (λv0 a=>ax a.1/\(a.2.length:Int)=v0) (λp=>ax p.2.1/\sS p.2.2/\v0<=p.1/\p.1<(v4.length:Int)/\p.2.2.length<=v4.length):=
 kx (a:=(v2,v5)) h0 h1 h3
noncomputable def tQ:FT (Recv×Int×ac×Bool×Unit) (Recv) (λx=>ax x.1/\sS x.2.2.1) (λx v=>ax v/\(v.held.length:Int)<=max x.1.held.length 3):=⟨λ(x0,x1,x2,x3,_)=>
  .cal dT.c (x0,()) λc1=>
  .bnd (β:=Bool×Unit) (.cal m9.c (x0,()) λc2=>
   .ite (!c2) (.ret (true,()))<|
   .ret (x0.done,())) λ(u3a0,_)=>
  .ite u3a0 (.ret c1)<|
  .cal ju.c (x0,()) λc4=>
  .cal uB.c (x0,()) λc5=>
  .lp (fx (x1,x2,x3,c4,0,x0,(⟨0,[],[],0,false⟩:Recv),c1,c5,())).lp λ(_,a9_0,a9_1)=>
  .val (cX.f (x1,(x2.length:Int),())) λc10=>
  .val (cS.f ((IntKind.wrap .i64 (c10-x0.next)),())) λc11=>
  .bnd (β:=Bool×Unit) (.ite x3 (.ite (decide (x0.fin<0)) (.ite (decide (c11<=c4)) (.cal tg.c (a9_1,c11,()) λc12=>
      .ret (c12,()))<|
     .ret (false,()))<|
    .ret (false,()))<|
   .ret (false,())) λ(u13a0,_)=>
  .bnd (β:=WT vN.es) (.ite u13a0 (.ret (x0,({({a9_0 with held:=[]}:Recv)with held:=[]}:Recv),({c1 with fin:=c11}:Recv),a9_1,()))<|
   .ret (x0,({({a9_0 with held:=[]}:Recv)with held:=[]}:Recv),c1,a9_1,())) λ(u14a0,u14a1,u14a2,u14a3,_)=>
  .lp (eh (0,u14a0,({u14a1 with held:=[]}:Recv),u14a2,u14a3,[],())).lp λw15=> .sum w15 (λ(p15a0,p15a1,p15a2)=>
  .grd (Nat.ble (u14a0.data.length+(az p15a2).length) am)<|
  .val (cX.f (u14a0.next,p15a0,())) λc16=>
  .cal oS.c (u14a3,p15a0,()) λc17=>
  .bnd (β:=WT oa.es) (.ite (decide (0<=u14a2.fin)) (.ret (u14a0,({p15a1 with held:=[]}:Recv),(⟨c16,(u14a0.data++(az p15a2)),c17,(IntKind.wrap .i64 (u14a2.fin-p15a0)),u14a2.done⟩:Recv),()))<|
   .ret (u14a0,({p15a1 with held:=[]}:Recv),(⟨c16,(u14a0.data++(az p15a2)),c17,u14a2.fin,u14a2.done⟩:Recv),())) λ(u18a0,_,u18a2,_)=>
  .ite (u18a2.fin==0) (.val (cX.f (u18a2.next,1,())) λc19=>
   .ite (decide (3<(u18a2.held.length:Int))) (.cal dT.c (u18a0,()) λc20=>
    .ret c20)<|
   .ret (⟨c19,u18a2.data,u18a2.held,(-1),true⟩:Recv))<|
  .ite (decide (3<(u18a2.held.length:Int))) (.cal dT.c (u18a0,()) λc21=>
   .ret c21)<|
  .ret u18a2)<|
  λ(n15,a15_0,a15_1)=>
  .grd (Nat.ble (u14a0.data.length+(az a15_1).length) am)<|
  .val (cX.f (u14a0.next,n15,())) λc22=>
  .cal oS.c (u14a3,n15,()) λc23=>
  .bnd (β:=WT oa.es) (.ite (decide (0<=u14a2.fin)) (.ret (u14a0,({({a15_0 with held:=[]}:Recv)with held:=[]}:Recv),(⟨c22,(u14a0.data++(az a15_1)),c23,(IntKind.wrap .i64 (u14a2.fin-n15)),u14a2.done⟩:Recv),()))<|
   .ret (u14a0,({({a15_0 with held:=[]}:Recv)with held:=[]}:Recv),(⟨c22,(u14a0.data++(az a15_1)),c23,u14a2.fin,u14a2.done⟩:Recv),())) λ(u24a0,_,u24a2,_)=>
  .ite (u24a2.fin==0) (.val (cX.f (u24a2.next,1,())) λc25=>
   .ite (decide (3<(u24a2.held.length:Int))) (.cal dT.c (u24a0,()) λc26=>
    .ret c26)<|
   .ret (⟨c25,u24a2.data,u24a2.held,(-1),true⟩:Recv))<|
  .ite (decide (3<(u24a2.held.length:Int))) (.cal dT.c (u24a0,()) λc27=>
   .ret c27)<|
  .ret u24a2,
 λ(x0,x1,x2,x3,_) hp=>by
  refine Tr.C ?_ λc1 hc1 qc1=>Tr.B (Q':=λw=>(w.1=false->RO x0)) (Tr.C ?_ λc2 hc2 qc2=>Tr.I (λb0=>Tr.R ?_) λb0=>Tr.R ?_) (λ(u3a0,_) hj3 qj3=>Tr.I (λb0=>Tr.R ?_) λb0=>Tr.C ?_ λc4 hc4 qc4=>Tr.C ?_ λc5 hc5 qc5=>Tr.L (J4 ?_ ?_ ?_ ?_ ?_ ?_ ?_) (λ(a9_0,a9_1) i9=>Tr.V λc10 hc10=>Tr.V λc11 hc11=>Tr.B (Q':=λ_=>True) (Tr.I (λb1=>Tr.I (λb2=>Tr.I (λb3=>Tr.C ?_ λc12 hc12 qc12=>Tr.R trivial) λb3=>Tr.R trivial) λb2=>Tr.R trivial) λb1=>Tr.R trivial) (λ(u13a0,_) hj13 qj13=>Tr.B (Q':=λw=>ax w.1/\ax w.2.1/\ax w.2.2.1/\sS w.2.2.2.1/\w.1=x0/\w.2.2.2.1.length=33/\w.1.data.length<=32) (Tr.I (λb1=>Tr.R ?_) λb1=>Tr.R ?_) (λ(u14a0,u14a1,u14a2,u14a3,_) hj14 qj14=>Tr.L (Ji ?_ ?_ ?_ ?_) (λ(a15_0,a15_1) i15=>Tr.Sr (Tr.Gb ?_ λg1=>Tr.V λc22 hc22=>Tr.C ?_ λc23 hc23 qc23=>Tr.B (Q':=λw=>ax w.1/\ax w.2.1/\ax w.2.2.1/\w.1=x0) (Tr.I (λb2=>Tr.R ?_) λb2=>Tr.R ?_) (λ(u24a0,u24a1,u24a2,_) hj24 qj24=>Tr.I (λb2=>Tr.V λc25 hc25=>Tr.I (λb3=>Tr.C ?_ λc26 hc26 qc26=>Tr.R ?_) λb3=>Tr.R ?_) λb2=>Tr.I (λb3=>Tr.C ?_ λc27 hc27 qc27=>Tr.R ?_) λb3=>Tr.R ?_))) (λ(p15a0,p15a1,p15a2) hp15=>Tr.Sl (Tr.Gb ?_ λg1=>Tr.V λc16 hc16=>Tr.C ?_ λc17 hc17 qc17=>Tr.B (Q':=λw=>ax w.1/\ax w.2.1/\ax w.2.2.1/\w.1=x0) (Tr.I (λb2=>Tr.R ?_) λb2=>Tr.R ?_) (λ(u18a0,u18a1,u18a2,_) hj18 qj18=>Tr.I (λb2=>Tr.V λc19 hc19=>Tr.I (λb3=>Tr.C ?_ λc20 hc20 qc20=>Tr.R ?_) λb3=>Tr.R ?_) λb2=>Tr.I (λb3=>Tr.C ?_ λc21 hc21 qc21=>Tr.R ?_) λb3=>Tr.R ?_)))))) (λp=>Empty.elim p))
  all_goals ((try simp only[fx,eh,LC.lp,LC.ct,Ct.lp,Tr.nice,kt]at*)<;>grind)⟩
noncomputable def Qw:=cI st wV xk [(kD 0 m7 fx),(kD 2 ml eh)] (ks:=[.st .recv,.sc (.int .i64),.sc .str,.sc .bool]) tQ (λv=>[(true,Ah (.o true) v)]) Tryz.func361 ⟨HV,J6,trivial⟩
noncomputable def US:=[jQ,OU,uS,cu]
noncomputable def Tp:Fx:=⟨362,Tryz.f362,[(3000003,rA 0 37)],0⟩
noncomputable def qG:FT (Conn×Unit) (Conn) (λx=>ah x.1) (λx v=>ah v):= .mk λ(x0,_)=>
  .cal gt.c (x0,()) λc1=>
  .cal vb.c (x0,()) λc2=>
  .bnd (β:=Bool×Unit) (.as (λw=>(w.1=false->SO ({x0 with state:=c2,timer:=0,tries:=0}:Conn).s/\RO ({x0 with state:=c2,timer:=0,tries:=0}:Conn).r)) (.cal qB.c (({x0 with state:=c2,timer:=0,tries:=0}:Conn),()) λc3=>
   .ite (!c3) (.ret (true,()))<|
   .val (cm.f (x0.timer,0,4,())) λc4=>
   .ite (!c4) (.ret (true,()))<|
   .val (cm.f (x0.tries,0,3,())) λc5=>
   .ret ((!c5),()))) λ(u6a0,_)=>
  .ite u6a0 (.cal gt.c (x0,()) λc7=>
   .ret c7)<|
  .ite (c2==x0.state) (.ret ({c1 with state:=c2}:Conn))<|
  .ite (c2==7) (.ite (c2==8) (.ret ({c1 with state:=c2,timer:=0,tries:=0}:Conn))<|
   .ret ({c1 with state:=c2,timer:=4,tries:=0}:Conn))<|
  .ite (c2==8) (.ret ({c1 with state:=c2,timer:=0,tries:=0}:Conn))<|
  .ret ({c1 with state:=c2}:Conn)
noncomputable def TC:=cI st Tp US [] (ks:=[.st .conn]) qG (λv=>[(true,nJ (.o true) v)]) Tryz.func362 trivial
noncomputable def Kz:=[pV,tI,qj,mI,J0]
noncomputable def KW:Fx:=⟨363,Tryz.f363,[(3000007,rA 0 79)],0⟩
noncomputable def rG:FT (Sndr×Int×Int×Unit) (Chun×Bool) (λx=>dW x.1) (λx v=>Cj v.1/\(v.2=true->SO x.1/\(v.1.text.length:Int)+x.1.sent<=x.1.data.length/\x.1.finSent=false/\(v.1.text=[]->v.1.fin=true)/\(v.1.fin=true->x.1.fin=true/\x.1.done=false/\x.1.sent+v.1.text.length=x.1.data.length))):=⟨λ(x0,x1,x2,_)=>
  .cal fZ.c (x0,()) λc1=>
  .ite (!c1) (.ret ((⟨0,[],false⟩:Chun),false))<|
  .val (kX.f (x1,1000000,())) λc2=>
  .val (fM.f (0,c2,())) λc3=>
  .cal jG.c (x0,()) λc4=>
  .val (fM.f (0,(IntKind.wrap .i64 (c3-c4)),())) λc5=>
  .val (kX.f (x2,c5,())) λc6=>
  .val (kX.f (c6,(IntKind.wrap .i64 ((x0.data.length:Int)-x0.sent)),())) λc7=>
  .val (fM.f (0,c7,())) λc8=>
  .cal xv.c (x0,()) λc9=>
  .grd (O3 x0.data x0.sent (IntKind.wrap .i64 (x0.sent+c8)))<|
  .val ((x0.data.take ((IntKind.wrap .i64 (x0.sent+c8)).toNat)).drop x0.sent.toNat) λe10=>
  .ite x0.fin (.ite (!x0.finSent) (.ite (!x0.done) (.ite ((IntKind.wrap .i64 (x0.sent+c8))==(x0.data.length:Int)) (.bnd (β:=Bool×Unit) (.ite (c8==0) (.ret ((!(decide (c8<c5))),()))<|
       .ret (false,())) λ(u11a0,_)=>
      .ite u11a0 (.ret ((⟨0,[],false⟩:Chun),false))<|
      .ret ((⟨c9,e10,(decide (c8<c5))⟩:Chun),true))<|
     .bnd (β:=Bool×Unit) (.ite (c8==0) (.ret (true,()))<|
      .ret (false,())) λ(u12a0,_)=>
     .ite u12a0 (.ret ((⟨0,[],false⟩:Chun),false))<|
     .ret ((⟨c9,e10,false⟩:Chun),true))<|
    .bnd (β:=Bool×Unit) (.ite (c8==0) (.ret (true,()))<|
     .ret (false,())) λ(u13a0,_)=>
    .ite u13a0 (.ret ((⟨0,[],false⟩:Chun),false))<|
    .ret ((⟨c9,e10,false⟩:Chun),true))<|
   .bnd (β:=Bool×Unit) (.ite (c8==0) (.ret (true,()))<|
    .ret (false,())) λ(u14a0,_)=>
   .ite u14a0 (.ret ((⟨0,[],false⟩:Chun),false))<|
   .ret ((⟨c9,e10,false⟩:Chun),true))<|
  .bnd (β:=Bool×Unit) (.ite (c8==0) (.ret (true,()))<|
   .ret (false,())) λ(u15a0,_)=>
  .ite u15a0 (.ret ((⟨0,[],false⟩:Chun),false))<|
  .ret ((⟨c9,e10,false⟩:Chun),true),
 λ(x0,x1,x2,_) hp=>by
  refine Tr.C trivial λc1 hc1 qc1=>Tr.I (λb0=>Tr.R ?_) λb0=>Tr.V λc2 hc2=>Tr.V λc3 hc3=>Tr.C ?_ λc4 hc4 qc4=>Tr.V λc5 hc5=>Tr.V λc6 hc6=>Tr.V λc7 hc7=>Tr.V λc8 hc8=>Tr.C ?_ λc9 hc9 qc9=>Tr.G3 ?_ λg1=>Tr.V λe10 he10=>Tr.I (λb2=>Tr.I (λb3=>Tr.I (λb4=>Tr.I (λb5=>Tr.B (Q':=λ_=>True) (Tr.F (by kernel_rfl) trivial) (λ(u11a0,_) hj11 qj11=>Tr.I (λb6=>Tr.R ?_) λb6=>Tr.R ?_)) λb5=>Tr.B (Q':=λ_=>True) (Tr.F (by kernel_rfl) trivial) (λ(u12a0,_) hj12 qj12=>Tr.I (λb6=>Tr.R ?_) λb6=>Tr.R ?_)) λb4=>Tr.B (Q':=λ_=>True) (Tr.F (by kernel_rfl) trivial) (λ(u13a0,_) hj13 qj13=>Tr.I (λb5=>Tr.R ?_) λb5=>Tr.R ?_)) λb3=>Tr.B (Q':=λ_=>True) (Tr.F (by kernel_rfl) trivial) (λ(u14a0,_) hj14 qj14=>Tr.I (λb4=>Tr.R ?_) λb4=>Tr.R ?_)) λb2=>Tr.B (Q':=λ_=>True) (Tr.F (by kernel_rfl) trivial) (λ(u15a0,_) hj15 qj15=>Tr.I (λb3=>Tr.R ?_) λb3=>Tr.R ?_)
  all_goals ((try simp only[Tr.nice,kt]at*)<;>(first|grind|(have hs:SO x0:=(by grind);have h7:c7<=(x0.data.length:Int)-x0.sent:=(by rw[hc7,nY,aj (by grind) (by grind)];split<;>omega);have h8:0<=c8/\c8<=(x0.data.length:Int)-x0.sent:=(by rw[hc8,rq];have:=hs.2.2.2.2.1;split<;>omega);clear hc7 hc8 hc4 hc2 hc3 hc6 hc5;grind)))⟩
noncomputable def KY:=cI st KW Kz [] (ks:=[.st .sndr,.sc (.int .i64),.sc (.int .i64)]) rG (λv=>[(true,YP v.1),(false,[.c (.bool v.2)])]) Tryz.func363 trivial
noncomputable def nG:FT (Sndr×Chun×Unit) (Sndr) (λx=>dW x.1/\Cj x.2.1) (λx v=>dW v/\(SO x.1->(x.2.1.text.length:Int)+x.1.sent<=x.1.data.length->x.1.finSent=false->(x.2.1.fin=true->x.1.fin=true/\x.1.done=false/\x.1.sent+x.2.1.text.length=x.1.data.length)->v={x.1 with sent:=x.1.sent+x.2.1.text.length,finSent:=x.2.1.fin})):= .mk λ(x0,x1,_)=>
  .ite x0.finSent (.cal fZ.c (x0,()) λc1=>
   .ite (!c1) (.ret x0)<|
   .cal fZ.c (({x0 with sent:=(IntKind.wrap .i64 (x0.sent+(x1.text.length:Int))),finSent:=true}:Sndr),()) λc2=>
   .ite (!c2) (.ret x0)<|
   .ite x1.fin (.ite x0.done (.ret x0)<|
    .ret ({x0 with sent:=(IntKind.wrap .i64 (x0.sent+(x1.text.length:Int))),finSent:=true}:Sndr))<|
   .ret ({x0 with sent:=(IntKind.wrap .i64 (x0.sent+(x1.text.length:Int))),finSent:=true}:Sndr))<|
  .cal fZ.c (x0,()) λc3=>
  .ite (!c3) (.ret x0)<|
  .cal fZ.c (({x0 with sent:=(IntKind.wrap .i64 (x0.sent+(x1.text.length:Int))),finSent:=x1.fin}:Sndr),()) λc4=>
  .ite (!c4) (.ret x0)<|
  .ite x1.fin (.ite x0.done (.ret x0)<|
   .ret ({x0 with sent:=(IntKind.wrap .i64 (x0.sent+(x1.text.length:Int))),finSent:=x1.fin}:Sndr))<|
  .ret ({x0 with sent:=(IntKind.wrap .i64 (x0.sent+(x1.text.length:Int))),finSent:=x1.fin}:Sndr)
noncomputable def RZ:=aU st Tryz.func365 [pV] (ks:=[.st .sndr,.st .chun]) nG (λv=>[(true,Kg v)])
noncomputable def tn:FT (Sipr×Int×Unit) (Sipr) (λ_=>True) (λ_ _=>True):= .mk λ(x0,x1,_)=>
  .cal iq.c (({x0 with d:=(bits .xor .u64 x0.d x1)}:Sipr),()) λc1=>
  .cal iq.c (c1,()) λc2=>
  .ret ({c2 with a:=(bits .xor .u64 c2.a x1)}:Sipr)
noncomputable def RL:=aU st Tryz.func392 [BX] (ks:=[.st .sipr,.sc (.int .u64)]) tn (λv=>[(true,DR v)])
noncomputable def BL:FT (Sipr×Unit) (Int) (λ_=>True) (λ_ _=>True):= .mk λ(x0,_)=>
  .cal iq.c (({x0 with c:=(bits .xor .u64 x0.c 255)}:Sipr),()) λc1=>
  .cal iq.c (c1,()) λc2=>
  .cal iq.c (c2,()) λc3=>
  .cal iq.c (c3,()) λc4=>
  .ret (bits .xor .u64 (bits .xor .u64 (bits .xor .u64 c4.a c4.b) c4.c) c4.d)
noncomputable def Ti:=aU st Tryz.func394 [BX] (ks:=[.st .sipr]) BL (λv=>[(false,[.c (.int .u64 v)])])
noncomputable def tG:FT (Sipr×Int×Unit) (Sipr) (λ_=>True) (λ_ _=>True):= .mk λ(x0,x1,_)=>
  .cal jz.c (({x0 with d:=(bits .xor .u64 x0.d x1)}:Sipr),()) λc1=>
  .cal jz.c (c1,()) λc2=>
  .ret ({c2 with a:=(bits .xor .u64 c2.a x1)}:Sipr)
noncomputable def Pi:=aU ao Tryz.func396 [C0] (ks:=[.st .sipr,.sc (.int .u64)]) tG (λv=>[(true,DR v)])
def zC:Sh:=⟨[zp 1 0,zi 7],[zx .sipr]⟩
noncomputable def sK (v0:Int)(a:Sipr):Tr (Stp (Sipr) (Empty)):=
 .cal jz.c (a,()) λc1=>
 .ret (.next c1)
noncomputable def kK:zC.V->wa zC Sipr:=λ(v0,v1,_)=>⟨v0,v1,λv0 a=>(v0,a,()),λv0 _=>(decide (v0<4)),sK,up,1,(Int.toNat (4-v0)),Empty.elim,Prod.mk,oN (.exit 0) ⟨[zp 1 0,zu 2],[zx .sipr]⟩ (λx=>(x.2,()))⟩
theorem K0 {v0:Int}{v1:Sipr}(h0:0<=v0):(kK (v0,v1,())).U 4 (λ_ _=>True) (λ_=>True):=
 kx (a:=v1) h0 (by decide) trivial
noncomputable def sW:FT (Sipr×Unit) (Int) (λ_=>True) (λ_ _=>True):= .mk (λ(x0,_)=>
  .lp (kK (0,({x0 with c:=(bits .xor .u64 x0.c 255)}:Sipr),())).lp λ(_,a2_0)=>
  .val (bits .xor .u64 (bits .xor .u64 (bits .xor .u64 a2_0.a a2_0.b) a2_0.c) a2_0.d) λe3=>
  .ret e3) (np @K0)
noncomputable def Uv:=dr ao Tryz.func398 [(0,lb [1,7] [1,2])] [C0] 0 kK (ks:=[.st .sipr]) sW (λv=>[(false,[.c (.int .u64 v)])])
noncomputable def uK:FT (Half×Tupl×Unit) (Bool) (λ_=>True) (λ_ _=>True):= .mk λ(x0,y1,_)=>
  .ret ((x0.tuple.ip==y1.ip)&&((x0.tuple.port==y1.port)&&((x0.tuple.my==y1.my)&&true)))
noncomputable def Jj:=oV ao ⟨213,Tryz.f213,[],1⟩ [] [] [.st .half,.wr false [.ptr 0]] [.box [.st .tupl]] (λx y=>(x.1,y.1.1,())) uK rB (λx y v=>((y.1.1,()),())) Tryz.func213 (by kernel_rfl) trivial
noncomputable def ud:FT (Conn×Tupl×Unit) (Bool) (λ_=>True) (λ_ _=>True):= .mk λ(x0,y1,_)=>
  .ret ((x0.tuple.ip==y1.ip)&&((x0.tuple.port==y1.port)&&((x0.tuple.my==y1.my)&&true)))
noncomputable def IU:=oV ao ⟨215,Tryz.f215,[],1⟩ [] [] [.st .conn,.wr false [.ptr 0]] [.box [.st .tupl]] (λx y=>(x.1,y.1.1,())) ud rB (λx y v=>((y.1.1,()),())) Tryz.func215 (by kernel_rfl) trivial
noncomputable def f7:FT (Int×Int×List Bool×List Int×Unit) (List Bool×List Int) (λx=>sS x.2.2.1/\sS x.2.2.2.1/\0<=x.1/\x.1<x.2.2.1.length/\x.2.2.1.length=x.2.2.2.1.length) (λx v=>sS v.1/\sS v.2/\v.1.length=x.2.2.1.length/\v.2.length=x.2.2.2.1.length):= .mk λ(x0,x1,y2,y3,_)=>
  .grd (ba y2 x0)<|
  .ite (!(y2.getD x0.toNat false)) (.grd (ba y2 x0)<|
   .grd (ba y3 x0)<|
   .ret ((y2.set x0.toNat true),(y3.set x0.toNat x1)))<|
  .ret (y2,y3)
noncomputable def Fh:=oV ao ⟨371,Tryz.f371,[],4⟩ [] [] [.sc (.int .i64),.sc (.int .u8),.wr false [.ptr 1],.wr false [.ptr 3]] [.arr .bool,.box [.own 0],.arr .u8,.box [.own 2]] (λx y=>(x.1,x.2.1,y.1,y.2.2.1,())) f7 (λv=>[]) (λx y v=>(v.1,(()),v.2,(()),())) Tryz.func371 (by kernel_rfl) trivial
noncomputable def B9:FT (Conn×Conn×Unit) (Bool) (λx=>ah x.1/\ah x.2.1) (λ_ _=>True):= .mk λ(x0,x1,_)=>
  .val (qd.f (x0.tuple,x1.tuple,())) λc1=>
  .ite (!c1) (.ret false)<|
  .ite (x0.state != x1.state) (.ret false)<|
  .val (uk.f (x0.s,x1.s,())) λc2=>
  .ite (!c2) (.ret false)<|
  .cal p9.c (x0.r,x1.r,()) λc3=>
  .ite (!c3) (.ret false)<|
  .ite (x0.window != x1.window) (.ret false)<|
  .ite (x0.most != x1.most) (.ret false)<|
  .val (pc.f (x0.opts,x1.opts,())) λc4=>
  .ite (!c4) (.ret false)<|
  .ite (x0.timer != x1.timer) (.ret false)<|
  .ite (x0.tries != x1.tries) (.ret false)<|
  .ret true
noncomputable def UQ:=aU st Tryz.func57 [wW,NR,Ih,zJ] (ks:=[.st .conn,.st .conn]) B9 rB
noncomputable def jU:FT (Door×Unit) (Door) (λx=>ay x.1) (λx v=>ay v/\v.table.conns.length=x.1.table.conns.length/\v.table.waiting.length=x.1.table.waiting.length/\v.halves=x.1.halves):= .mk λ(x0,_)=>
  .cal rN.c (x0.keys,()) λc1=>
  .cal dU.c (x0.halves,()) λc2=>
  .cal ig.c (x0.table,()) λc3=>
  .ret (⟨x0.port,x0.clock,c1,x0.limits,c2,c3,x0.chal⟩:Door)
noncomputable def ot:=aU ao Tryz.func73 [Kv,rk,qT] (ks:=[.st .door]) jU (λv=>[(true,pn (.o true) (.o true) (.o true) .d (.o true) v)])
noncomputable def R4:=[C9]
noncomputable def Rq:Fx:=⟨105,Tryz.f105,[(3000003,rA 0 27)],0⟩
noncomputable def x7:FT (List Half×Half×Int×Unit) (List Half×Bool) (λx=>sS x.1) (λx v=>sS v.1/\(v.1.length:Int)<=x.1.length+1):= .mk λ(x0,x1,x2,_)=>
  .grd (Nat.ble ((2*(0+x0.length)+1024)*96) aM)<|
  .grd (Nat.ble ((2*(0+x0.length)+1024)*96) aM)<|
  .grd (De ([]++x0) 1 96)<|
  .bnd (β:=Bool×Unit) (.as (λw=>(w.1=false->(([]++x0)++[x1]).length<=64)) (.ite (decide (x2<=(x0.length:Int))) (.ret (true,()))<|
   .cal nR.c ((([]++x0)++[x1]),()) λc1=>
   .ret ((!c1),()))) λ(u2a0,_)=>
  .ite u2a0 (.ret (([]++x0),false))<|
  .ret ((([]++x0)++[x1]),true)
noncomputable def QQ:=cI st Rq R4 [] (ks:=[.sc (.sl .half),.st .half,.sc (.int .i64)]) x7 (λv=>[(false,[sc (.o true) .half v.1]),(false,[.c (.bool v.2)])]) Tryz.func105 trivial
noncomputable def FG:=[xp,cu,CY,FW,oZ,kF]
noncomputable def F1:Fx:=⟨142,Tryz.f142,[(3000005,rA 0 42),(3000014,rA 0 96)],0⟩
noncomputable def kO:FT (ac×Int×Int×Unit) (Segm×Bool) (λx=>sS x.1/\x.1.length<=4294967200) (λx v=>aw v.1):= .mk λ(x0,x1,x2,_)=>
  .ite (decide ((x0.length:Int)<20)) (.ret ((⟨0,0,0,0,0,0,⟨0,0,false,false,0,0⟩,[]⟩:Segm),false))<|
  .grd (decide (12<(x0.length:Int)))<|
  .val (IntKind.wrap .i64 ((IntKind.wrap .i64 ((IntKind.wrap .i64 (af x0 12)).tdiv 16))*4)) λe1=>
  .cal mP.c (x1,x2,(x0.length:Int),()) λc2=>
  .bnd (β:=Bool×Unit) (.val (cm.f (e1,20,(x0.length:Int),())) λc3=>
   .ite (!c3) (.ret (true,()))<|
   .ite (c2==[]) (.ret (true,()))<|
   .grd (Nat.ble (c2.length+x0.length) am)<|
   .cal qv.c ((c2++x0),()) λc4=>
   .ret ((!c4),())) λ(u5a0,_)=>
  .ite u5a0 (.ret ((⟨0,0,0,0,0,0,⟨0,0,false,false,0,0⟩,[]⟩:Segm),false))<|
  .grd ((decide (20<=e1))&&(decide (e1<=(x0.length:Int))))<|
  .cal kP.c (((x0.take e1.toNat).drop 20),()) λc6=>
  .grd (decide (13<(x0.length:Int)))<|
  .grd (O3 x0 e1 (x0.length:Int))<|
  .cal bv.c (x0,0,2,()) λc7=>
  .cal bv.c (x0,2,2,()) λc8=>
  .cal bv.c (x0,4,4,()) λc9=>
  .cal bv.c (x0,8,4,()) λc10=>
  .cal bv.c (x0,14,2,()) λc11=>
  .bnd (β:=Bool×Unit) (.as (λw=>(w.1=false->(⟨c7.1,c8.1,c9.1,c10.1,((IntKind.wrap .i64 (af x0 13)).tmod 64),c11.1,c6.1,((x0.take ((x0.length:Int).toNat)).drop e1.toNat)⟩:Segm).body.length<=1420)) (.ite (!c6.2) (.ret (true,()))<|
   .cal gT.c ((⟨c7.1,c8.1,c9.1,c10.1,((IntKind.wrap .i64 (af x0 13)).tmod 64),c11.1,c6.1,((x0.take ((x0.length:Int).toNat)).drop e1.toNat)⟩:Segm),()) λc12=>
   .ret ((!c12),()))) λ(u13a0,_)=>
  .ite u13a0 (.ret ((⟨0,0,0,0,0,0,⟨0,0,false,false,0,0⟩,[]⟩:Segm),false))<|
  .ret ((⟨c7.1,c8.1,c9.1,c10.1,((IntKind.wrap .i64 (af x0 13)).tmod 64),c11.1,c6.1,((x0.take ((x0.length:Int).toNat)).drop e1.toNat)⟩:Segm),true)
noncomputable def FI:=cI st F1 FG [] (ks:=[.sc .str,.sc (.int .i64),.sc (.int .i64)]) kO (λv=>[(true,xG v.1),(false,[.c (.bool v.2)])]) Tryz.func142 trivial
noncomputable def pX:FT (Stac×Unit) (Stac) (λx=>cL x.1) (λx v=>cL v):= .mk λ(x0,_)=>
  .cal lI.c (x0.link,()) λc1=>
  .cal jU.c (x0.door,()) λc2=>
  .ret (⟨c1,c2⟩:Stac)
noncomputable def Jd:=aU ao Tryz.func144 [zV,ot] (ks:=[.st .stac]) pX (λv=>[(true,H6 (.o true) (.o true) (.o true) (.o true) .d (.o true) v)])
noncomputable def Fz:=[xa,CR,Gg,xT,iV]
noncomputable def FM:Fx:=⟨147,Tryz.f147,[(3000005,rA 0 45),(3000009,rA 0 79)],0⟩
noncomputable def cT:FT (ac×Int×Int×Unit) (Segm×Bool) (λx=>sS x.1/\x.1.length<=4294967200) (λx v=>aw v.1):= .mk λ(x0,x1,x2,_)=>
  .ite (decide ((x0.length:Int)<20)) (.ret ((⟨0,0,0,0,0,0,⟨0,0,false,false,0,0⟩,[]⟩:Segm),false))<|
  .grd (decide (12<(x0.length:Int)))<|
  .val (IntKind.wrap .i64 ((IntKind.wrap .i64 ((IntKind.wrap .i64 (af x0 12)).tdiv 16))*4)) λe1=>
  .cal dV.c (x1,x2,(x0.length:Int),()) λc2=>
  .bnd (β:=Bool×Unit) (.ite (decide (e1<20)) (.ret (true,()))<|
   .ite (decide ((x0.length:Int)<e1)) (.ret (true,()))<|
   .ite (c2==[]) (.ret (true,()))<|
   .grd (Nat.ble (c2.length+x0.length) am)<|
   .cal lv.c ((c2++x0),()) λc3=>
   .ret ((!c3),())) λ(u4a0,_)=>
  .ite u4a0 (.ret ((⟨0,0,0,0,0,0,⟨0,0,false,false,0,0⟩,[]⟩:Segm),false))<|
  .grd ((decide (20<=e1))&&(decide (e1<=(x0.length:Int))))<|
  .cal kM.c (((x0.take e1.toNat).drop 20),()) λc5=>
  .cal dR.c (x0,0,2,()) λc6=>
  .cal dR.c (x0,2,2,()) λc7=>
  .cal dR.c (x0,4,4,()) λc8=>
  .cal dR.c (x0,8,4,()) λc9=>
  .grd (decide (13<(x0.length:Int)))<|
  .cal dR.c (x0,14,2,()) λc10=>
  .grd (O3 x0 e1 (x0.length:Int))<|
  .bnd (β:=Bool×Unit) (.as (λw=>(w.1=false->(⟨c6,c7,c8,c9,(bits .and .i64 (IntKind.wrap .i64 (af x0 13)) 63),c10,c5.1,((x0.take ((x0.length:Int).toNat)).drop e1.toNat)⟩:Segm).body.length<=1420)) (.ite (!c5.2) (.ret (true,()))<|
   .cal ai.c ((⟨c6,c7,c8,c9,(bits .and .i64 (IntKind.wrap .i64 (af x0 13)) 63),c10,c5.1,((x0.take ((x0.length:Int).toNat)).drop e1.toNat)⟩:Segm),()) λc11=>
   .ret ((!c11),()))) λ(u12a0,_)=>
  .ite u12a0 (.ret ((⟨0,0,0,0,0,0,⟨0,0,false,false,0,0⟩,[]⟩:Segm),false))<|
  .ret ((⟨c6,c7,c8,c9,(bits .and .i64 (IntKind.wrap .i64 (af x0 13)) 63),c10,c5.1,((x0.take ((x0.length:Int).toNat)).drop e1.toNat)⟩:Segm),true)
noncomputable def Fj:=cI ao FM Fz [] (ks:=[.sc .str,.sc (.int .i64),.sc (.int .i64)]) cT (λv=>[(true,xG v.1),(false,[.c (.bool v.2)])]) Tryz.func147 trivial
def wG:Sh:=⟨[zl 0 .conn,zl 1 .conn,zi 5],[]⟩
noncomputable def xQ (v0 v1:List Conn)(v2:Int)(a:Unit):Tr (Stp (Unit) ((Unit))):=
 .grd (ba v0 v2)<|
 .grd (ba v1 v2)<|
 .cal B9.c ((v0.getD v2.toNat (Ty.zero .conn)),(v1.getD v2.toNat (Ty.zero .conn)),()) λc1=>
 .ite (!c1) (.ret (.out ()))<|
 .ret (.next ())
noncomputable def mi:wG.V->nL wG Unit (Unit):=λ(v0,v1,v2,_)=>⟨v2,(),λv2 _=>(v0,v1,v2,()),λv2 _=>(decide (v2<(v0.length:Int))),xQ v0 v1,up,1,(Int.toNat ((v0.length:Int)-v2)),.inl,eR,oB .ret ⟨[zb 4],[]⟩ (λ_=>(false,())) (.exit 0) ⟨[zu 4],[]⟩ (λ_=>())⟩
theorem Jh {v0 v1:List Conn}{v2:Int}(h0:0<=v2)(h1:(v0.length:Int)<=4611686018427387904)(h2:sL ah v0)(h3:sL ah v1)(h4:(v0.length:Int)<=(v1.length:Int)):(mi (v0,v1,v2,())).U (v0.length:Int) (λ_ _=>True) (λ_=>True):=
 kx h0 h1 trivial
noncomputable def x6:FT (List Conn×List Conn×Unit) (Bool) (λx=>sL ah x.1/\sL ah x.2.1) (λ_ _=>True):= .mk (λ(x0,x1,_)=>
  .ite ((x0.length:Int) != (x1.length:Int)) (.ret false)<|
  .lp (mi (x0,x1,0,())).lp λw2=> .sum w2 (λ_=>
  .ret false)<|
  λ_=>
  .ret true) (np @Jh)
noncomputable def Sq:=dr st Tryz.func182 [(0,lb [0,1,5] [4])] [UQ] 0 mi (ks:=[.sc (.sl .conn),.sc (.sl .conn)]) x6 rB
noncomputable def oT:FT (ac×Unit) (Fram×Bool) (λx=>sS x.1) (λx v=>CP v.1):= .mk λ(x0,_)=>
  .ite (decide ((x0.length:Int)<14)) (.ret ((⟨0,0,0,[]⟩:Fram),false))<|
  .grd ((decide (14<=(x0.length:Int)))&&(decide ((x0.length:Int)<=(x0.length:Int))))<|
  .cal bv.c (x0,0,6,()) λc1=>
  .cal bv.c (x0,6,6,()) λc2=>
  .cal bv.c (x0,12,2,()) λc3=>
  .cal lP.c ((⟨c1.1,c2.1,c3.1,((x0.take ((x0.length:Int).toNat)).drop 14)⟩:Fram),()) λc4=>
  .ite (!(c4==x0)) (.ret ((⟨0,0,0,[]⟩:Fram),false))<|
  .ret ((⟨c1.1,c2.1,c3.1,((x0.take ((x0.length:Int).toNat)).drop 14)⟩:Fram),true)
noncomputable def K5:=aU st Tryz.func191 [oZ,sN] (ks:=[.sc .str]) oT (λv=>[(true,Yh v.1),(false,[.c (.bool v.2)])])
noncomputable def JZ:=[CY,oZ,tI,cu]
noncomputable def HB:Fx:=⟨192,Tryz.f192,[(3000010,rA 0 43)],0⟩
noncomputable def mE:FT (ac×Unit) (Pack×Int) (λx=>sS x.1) (λx v=>uO v.1/\v.1.body.length<=1500):= .mk λ(x0,_)=>
  .ite (decide ((x0.length:Int)<20)) (.ret ((⟨0,0,0,0,0,[]⟩:Pack),1))<|
  .grd (decide (0<(x0.length:Int)))<|
  .ite ((af x0 0) != 69) (.ret ((⟨0,0,0,0,0,[]⟩:Pack),2))<|
  .grd (decide (20<=(x0.length:Int)))<|
  .cal qv.c (((x0.take 20).drop 0),()) λc1=>
  .ite (!c1) (.ret ((⟨0,0,0,0,0,[]⟩:Pack),3))<|
  .cal bv.c (x0,2,2,()) λc2=>
  .val (kX.f ((x0.length:Int),1500,())) λc3=>
  .val (cm.f (c2.1,20,c3,())) λc4=>
  .ite (!c4) (.ret ((⟨0,0,0,0,0,[]⟩:Pack),4))<|
  .bnd (β:=Bool×Unit) (.grd (decide (6<(x0.length:Int)))<|
   .ite ((bits .and .u8 (af x0 6) 191) != 0) (.ret (true,()))<|
   .grd (decide (7<(x0.length:Int)))<|
   .ret (((af x0 7) != 0),())) λ(u5a0,_)=>
  .ite u5a0 (.ret ((⟨0,0,0,0,0,[]⟩:Pack),5))<|
  .grd (decide (8<(x0.length:Int)))<|
  .grd (decide (9<(x0.length:Int)))<|
  .grd ((decide (20<=c2.1))&&(decide (c2.1<=(x0.length:Int))))<|
  .ite ((IntKind.wrap .i64 (af x0 8))==0) (.ret ((⟨0,0,0,0,0,[]⟩:Pack),6))<|
  .cal bv.c (x0,4,2,()) λc6=>
  .cal bv.c (x0,12,4,()) λc7=>
  .cal bv.c (x0,16,4,()) λc8=>
  .ret ((⟨c7.1,c8.1,(IntKind.wrap .i64 (af x0 8)),(IntKind.wrap .i64 (af x0 9)),c6.1,((x0.take c2.1.toNat).drop 20)⟩:Pack),0)
noncomputable def GQ:=cI st HB JZ [] (ks:=[.sc .str]) mE (λv=>[(true,Hb v.1),(false,[.c (.int .i64 v.2)])]) Tryz.func192 trivial
noncomputable def H9:=[xT,CR]
noncomputable def GV:Fx:=⟨196,Tryz.f196,[(3000008,rA 0 22)],0⟩
noncomputable def lZ:FT (ac×Unit) (Pack×Int) (λx=>sS x.1) (λx v=>uO v.1/\v.1.body.length<=1500):= .mk λ(x0,_)=>
  .ite (decide ((x0.length:Int)<20)) (.ret ((⟨0,0,0,0,0,[]⟩:Pack),1))<|
  .cal dR.c (x0,2,2,()) λc1=>
  .grd (decide (0<(x0.length:Int)))<|
  .ite ((af x0 0) != 69) (.ret ((⟨0,0,0,0,0,[]⟩:Pack),2))<|
  .grd (decide (20<=(x0.length:Int)))<|
  .cal lv.c (((x0.take 20).drop 0),()) λc2=>
  .ite (!c2) (.ret ((⟨0,0,0,0,0,[]⟩:Pack),3))<|
  .bnd (β:=Bool×Unit) (.ite (decide (c1<20)) (.ret (true,()))<|
   .ite (decide ((x0.length:Int)<c1)) (.ret (true,()))<|
   .ret ((decide (1500<c1)),())) λ(u3a0,_)=>
  .ite u3a0 (.ret ((⟨0,0,0,0,0,[]⟩:Pack),4))<|
  .cal dR.c (x0,6,2,()) λc4=>
  .ite ((bits .andNot .i64 c4 16384) != 0) (.ret ((⟨0,0,0,0,0,[]⟩:Pack),5))<|
  .grd (decide (8<(x0.length:Int)))<|
  .ite ((af x0 8)==0) (.ret ((⟨0,0,0,0,0,[]⟩:Pack),6))<|
  .cal dR.c (x0,12,4,()) λc5=>
  .cal dR.c (x0,16,4,()) λc6=>
  .grd (decide (8<(x0.length:Int)))<|
  .grd (decide (9<(x0.length:Int)))<|
  .cal dR.c (x0,4,2,()) λc7=>
  .grd ((decide (20<=c1))&&(decide (c1<=(x0.length:Int))))<|
  .ret ((⟨c5,c6,(IntKind.wrap .i64 (af x0 8)),(IntKind.wrap .i64 (af x0 9)),c7,((x0.take c1.toNat).drop 20)⟩:Pack),0)
noncomputable def Iq:=cI ao GV H9 [] (ks:=[.sc .str]) lZ (λv=>[(true,Hb v.1),(false,[.c (.int .i64 v.2)])]) Tryz.func196 trivial
noncomputable def PM:=[ul,iV,yo,na,uT,HZ,Rt]
noncomputable def Rf:Fx:=⟨237,Tryz.f237,[(3000001,rA 0 17)],0⟩
noncomputable def tj:FT (Conn×Segm×Unit) (Int) (λx=>ah x.1/\aw x.2.1) (λ_ _=>True):= .mk λ(x0,x1,_)=>
  .bnd (β:=Bool×Unit) (.as (λw=>(w.1=false->SO x0.s/\RO x0.r/\x1.body.length<=1420)) (.cal bR.c (x0,()) λc1=>
   .ite (!c1) (.ret (true,()))<|
   .ite (x0.state==8) (.ret (true,()))<|
   .cal ai.c (x1,()) λc2=>
   .ret ((!c2),()))) λ(u3a0,_)=>
  .ite u3a0 (.ret 1)<|
  .val (bm.f (x1,4,())) λc4=>
  .ite c4 (.ite (x1.seq==x0.r.next) (.ret 2)<|
   .cal bX.c (x0.r,()) λc5=>
   .val (nK.f (x1.seq,x0.r.next,c5,())) λc6=>
   .ite c6 (.ret 3)<|
   .ret 1)<|
  .val (bm.f (x1,2,())) λc7=>
  .ite c7 (.ret 3)<|
  .cal pM.c (x0,x1,()) λc8=>
  .ite (!c8) (.ret 4)<|
  .val (bm.f (x1,16,())) λc9=>
  .ite (!c9) (.ret 1)<|
  .cal yx.c (x0,x1.ack,()) λc10=>
  .ite (!c10) (.ret 3)<|
  .ret 5
noncomputable def E4:=cI ao Rf PM [] (ks:=[.st .conn,.st .segm]) tj rI Tryz.func237 trivial
def Ej:Sh:=⟨[zi 1,zp 4 0,zp 6 1,zo 7 2],[.box [.st .conn [.nil .piec]],zk .conn 3,za .segm,zf]⟩
noncomputable def bT (v0:Int)(a:Conn×Conn×List Segm):Tr (Stp (Conn×Conn×List Segm) ((Conn×Conn×List Segm))):=
 .val (dj.f (a.2.1,())) λc4=>
 .cal aV.c (a.2.1.s,v0,c4,()) λc5=>
 .ite (!c5.2) (.ret (.out (({a.1 with r.held:=[]}:Conn),a.2.1,a.2.2)))<|
 .cal cJ.c (a.2.1,()) λc6=>
 .ite (!(c5.1.text==[])) (.ite c5.1.fin (.grd (De a.2.2 1 104)<|
   .val (a.2.2++[({c6 with seq:=c5.1.seq,flags:=(bits .or .i64 (bits .or .i64 c6.flags 8) 1),body:=c5.1.text}:Segm)]) λl7=>
   .cal dg.c (a.2.1.s,c5.1,()) λc8=>
   .ret (.next (({a.1 with r.held:=[]}:Conn),({a.2.1 with s.una:=c8.una,s.data:=c8.data,s.sent:=c8.sent,s.fin:=c8.fin,s.finSent:=c8.finSent,s.done:=c8.done}:Conn),l7)))<|
  .grd (De a.2.2 1 104)<|
  .val (a.2.2++[({c6 with seq:=c5.1.seq,flags:=(bits .or .i64 c6.flags 8),body:=c5.1.text}:Segm)]) λl9=>
  .cal dg.c (a.2.1.s,c5.1,()) λc10=>
  .ret (.next (({a.1 with r.held:=[]}:Conn),({a.2.1 with s.una:=c10.una,s.data:=c10.data,s.sent:=c10.sent,s.fin:=c10.fin,s.finSent:=c10.finSent,s.done:=c10.done}:Conn),l9)))<|
 .ite c5.1.fin (.grd (De a.2.2 1 104)<|
  .val (a.2.2++[({c6 with seq:=c5.1.seq,flags:=(bits .or .i64 c6.flags 1),body:=c5.1.text}:Segm)]) λl11=>
  .cal dg.c (a.2.1.s,c5.1,()) λc12=>
  .ret (.next (({a.1 with r.held:=[]}:Conn),({a.2.1 with s.una:=c12.una,s.data:=c12.data,s.sent:=c12.sent,s.fin:=c12.fin,s.finSent:=c12.finSent,s.done:=c12.done}:Conn),l11)))<|
 .grd (De a.2.2 1 104)<|
 .cal dg.c (a.2.1.s,c5.1,()) λc13=>
 .ret (.next (({a.1 with r.held:=[]}:Conn),({a.2.1 with s.una:=c13.una,s.data:=c13.data,s.sent:=c13.sent,s.fin:=c13.fin,s.finSent:=c13.finSent,s.done:=c13.done}:Conn),(a.2.2++[({c6 with seq:=c5.1.seq,body:=c5.1.text}:Segm)])))
noncomputable def jW:Ej.V->LW Ej (Conn×Conn×List Segm) ((Conn×Conn×List Segm)):=λ(v0,v1,v2,v3,_)=>⟨(v1,v2,v3),λa=>(v0,a.1,a.2.1,a.2.2,()),bT v0,GJ v2.s,oN (.exit 0) ⟨[zp 4 0,zu 5,zp 6 1,zo 7 2],[.box [.st .conn [.nil .piec]],zk .conn 3,za .segm,zf]⟩ (λp=>(p.1,p.2.1,p.2.2,()))⟩
theorem RR {v0:Int}{v1 v2:Conn}{v3:List Segm}(h0:ah v1/\ah v2/\sL aw v3/\v3.length+GJ v2.s<=49):(jW (v0,v1,v2,v3,())).W (λp=>ah p.1/\ah p.2.1/\sL aw p.2.2/\p.2.2.length<=49):=
 LW.okW (a:=(v1,v2,v3)) (λa=>ah a.1/\ah a.2.1/\sL aw a.2.2/\a.2.2.length+GJ a.2.1.s<=49) (λa=>GJ a.2.1.s) rfl h0 λ(v1,v2,v3) hv=>by
  refine Tr.V λc4 hc4=>Tr.C ?_ λc5 hc5 qc5=>Tr.I (λb0=>Tr.Ro ?_) λb0=>Tr.C ?_ λc6 hc6 qc6=>Tr.I (λb1=>Tr.I (λb2=>Tr.Gb ?_ λg3=>Tr.V λl7 hl7=>Tr.C ?_ λc8 hc8 qc8=>Tr.Rn ?_) λb2=>Tr.Gb ?_ λg3=>Tr.V λl9 hl9=>Tr.C ?_ λc10 hc10 qc10=>Tr.Rn ?_) λb1=>Tr.I (λb2=>Tr.Gb ?_ λg3=>Tr.V λl11 hl11=>Tr.C ?_ λc12 hc12 qc12=>Tr.Rn ?_) λb2=>Tr.Gb ?_ λg3=>Tr.C ?_ λc13 hc13 qc13=>Tr.Rn ?_
  all_goals ((first|grind|(have tl:∀s:ac,s=[]\/0<s.length:=(λs=>by cases s<;>simp);grind)))
noncomputable def er:FT (Conn×Int×Unit) (Conn×List Segm) (λx=>ah x.1) (λx v=>ah v.1/\sL aw v.2/\v.2.length<=49):= .mk (λ(x0,x1,_)=>
  .cal dI.c (x0,()) λc1=>
  .bnd (β:=Bool×Unit) (.as (λw=>(w.1=false->SO x0.s/\RO x0.r)) (.cal bR.c (x0,()) λc2=>
   .ite (!c2) (.ret (true,()))<|
   .ite (x0.state==8) (.ret (true,()))<|
   .ret ((x0.state==7),()))) λ(u3a0,_)=>
  .ite u3a0 (.ret (c1,[]))<|
  .lp (jW (x1,(⟨⟨0,0,0⟩,0,⟨0,[],0,false,false,false⟩,⟨0,[],[],0,false⟩,0,0,⟨0,0,false,false,0,0⟩,0,0⟩:Conn),c1,[],())).lp λ(_,p14a1,p14a2)=>
  .bnd (β:=Bool×Unit) (.ite (decide (0<(p14a2.length:Int))) (.ret ((p14a1.timer==0),()))<|
   .ret (false,())) λ(u15a0,_)=>
  .ite u15a0 (.ret (({p14a1 with timer:=3}:Conn),p14a2))<|
  .ret (p14a1,p14a2)) (np @RR)
noncomputable def Zh:=KG ao Tryz.func240 [(0,lb [1,4,6,7] [4,5,6,7]),(3000002,rA 0 25),(3000016,rA 0 76)] [fX,ul,TZ,K3,Mr,QI] 0 jW (ks:=[.st .conn,.sc (.int .i64)]) er (λv=>[(true,nJ (.o true) v.1),(false,[sc (.o true) .segm v.2])])
noncomputable def xx:=[OC,uS,kp,OM]
def mK:Sh:=⟨[zp 2 0,zi 5],[.box [.st .tabl [.sl .arg,.sl .arg]]]⟩
def ne:Sh:=⟨[zp 2 0,zi 6],[.box [.st .tabl [.sl .arg,.sl .arg]]]⟩
noncomputable def xE:Fx:=⟨243,Tryz.f243,[(0,lb [2,5] [2,4]),(2,lb [2,6] [4]),(3000001,rA 0 25)],0⟩
noncomputable def ro (v1:Tabl)(v0:Int)(a:Unit):Tr (Stp (Unit) ((Unit))):=
 .grd (ba v1.conns v0)<|
 .cal qB.c ((v1.conns.getD v0.toNat (Ty.zero .conn)),()) λc3=>
 .ite (!c3) (.ret (.out ()))<|
 .grd (ba v1.conns v0)<|
 .cal fu.c (v1,(v1.conns.getD v0.toNat (Ty.zero .conn)).tuple,()) λc4=>
 .ite (c4 != v0) (.ret (.out ()))<|
 .ret (.next ())
noncomputable def gJ:mK.V->nL mK Unit (Unit):=λ(v0,v1,_)=>⟨v0,(),λv0 _=>(v0,v1,()),λv0 _=>(decide (v0<(v1.conns.length:Int))),ro v1,up,1,(Int.toNat ((v1.conns.length:Int)-v0)),.inl,eR,oB .ret ⟨[zp 2 0,zb 4],[.box [.st .tabl [.sl .arg,.sl .arg]]]⟩ (λ_=>(false,v1,())) (.exit 0) ⟨[zp 2 0,zu 4],[.box [.st .tabl [.sl .arg,.sl .arg]]]⟩ (λ_=>(v1,()))⟩
theorem J8:LS Tryz.prog xE [0] (kD 0 mK gJ):=fa st (aW xx) _ gJ [] trivial
theorem Ie {v0:Int}{v1:Tabl}(h0:0<=v0)(h1:(v1.conns.length:Int)<=4611686018427387904)(h2:ce v1):(gJ (v0,v1,())).U (v1.conns.length:Int) (λ_ _=>True) (λ_=>True):=
 kx h0 h1 trivial
noncomputable def ri (v1:Tabl)(v0:Int)(a:Unit):Tr (Stp (Unit) ((Unit))):=
 .grd ((decide (0<=v0))&&(decide (v0<=(v1.waiting.length:Int))))<|
 .grd (ba v1.waiting v0)<|
 .cal uE.c (((v1.waiting.take v0.toNat).drop 0),(v1.waiting.getD v0.toNat (Ty.zero .tupl)),()) λc6=>
 .ite c6 (.ret (.out ()))<|
 .grd (ba v1.waiting v0)<|
 .cal fu.c (v1,(v1.waiting.getD v0.toNat (Ty.zero .tupl)),()) λc7=>
 .ite (decide (c7<0)) (.ret (.out ()))<|
 .ret (.next ())
noncomputable def gq:ne.V->nL ne Unit (Unit):=λ(v0,v1,_)=>⟨v0,(),λv0 _=>(v0,v1,()),λv0 _=>(decide (v0<(v1.waiting.length:Int))),ri v1,up,1,(Int.toNat ((v1.waiting.length:Int)-v0)),.inl,eR,oB .ret ⟨[zb 4],[]⟩ (λ_=>(false,())) (.exit 2) ⟨[zu 4],[]⟩ (λ_=>())⟩
theorem J9:LS Tryz.prog xE [1] (kD 2 ne gq):=fa st (aW xx) _ gq [] trivial
theorem qM {v0:Int}{v1:Tabl}(h0:0<=v0)(h1:(v1.waiting.length:Int)<=4611686018427387904)(h2:ce v1):(gq (v0,v1,())).U (v1.waiting.length:Int) (λ_ _=>True) (λ_=>True):=
 kx h0 h1 trivial
noncomputable def tA:FT (Tabl×Limi×Unit) (Bool) (λx=>wS x.1.conns/\dP ah x.1.conns/\wS x.1.waiting) (λx v=>(v=true->x.1.conns.length<=16/\x.1.waiting.length<=16)):= .mk (λ(x0,x1,_)=>
  .bnd (β:=Bool×Unit) (.as (λw=>(w.1=false->x1.halves<=64/\x1.waiting<=16/\x1.conns<=16)) (.cal uW.c (x1,()) λc1=>
   .ite (!c1) (.ret (true,()))<|
   .ite (decide (x1.conns<(x0.conns.length:Int))) (.ret (true,()))<|
   .ret ((decide (x1.waiting<(x0.waiting.length:Int))),()))) λ(u2a0,_)=>
  .ite u2a0 (.ret false)<|
  .lp (gJ (0,x0,())).lp λw5=> .sum w5 (λ_=>
  .ret false)<|
  λ_=>
  .lp (gq (0,x0,())).lp λw8=> .sum w8 (λ_=>
  .ret false)<|
  λ_=>
  .ret true) (sk4 @Ie @qM @qM @qM)
noncomputable def E5:=cI st xE xx [(kD 0 mK gJ),(kD 2 ne gq)] (ks:=[.st .tabl,.st .limi]) tA rB Tryz.func243 ⟨J8,J9,trivial⟩
noncomputable def Ql:=[Yu,A0,Ij,sN]
noncomputable def Rg:Fx:=⟨254,Tryz.f254,[(3000002,rA 0 25)],0⟩
noncomputable def ye:FT (Link×Int×ac×Unit) (ac×Bool) (λx=>eA x.1/\sS x.2.2.1) (λx v=>sS v.1):= .mk λ(x0,x1,x2,_)=>
  .cal OK.c (x0.cache,x1,()) λc1=>
  .bnd (β:=Bool×Unit) (.cal tz.c (x0,()) λc2=>
   .ite (!c2) (.ret (true,()))<|
   .ret ((!c1.2),())) λ(u3a0,_)=>
  .ite u3a0 (.ret ([],false))<|
  .cal pH.c ((⟨x0.ip,x1,64,6,0,x2⟩:Pack),()) λc4=>
  .ite (c4==[]) (.ret ([],false))<|
  .cal lP.c ((⟨c1.1,x0.mac,2048,c4⟩:Fram),()) λc5=>
  .ret (c5,(!(c5==[])))
noncomputable def O7:=cI st Rg Ql [] (ks:=[.st .link,.sc (.int .i64),.sc .str]) ye (λv=>[(false,[.c (.str v.1)]),(false,[.c (.bool v.2)])]) Tryz.func254 trivial
noncomputable def Qu:=[QB,Kc,AK,zz]
noncomputable def RJ:Fx:=⟨269,Tryz.f269,[(3000003,rA 0 35)],0⟩
noncomputable def i4:FT (Link×Int×ac×Unit) (ac×Bool) (λx=>eA x.1/\sS x.2.2.1) (λx v=>sS v.1):= .mk λ(x0,x1,x2,_)=>
  .cal AI.c (x0.cache,x1,()) λc1=>
  .cal pI.c ((⟨x0.ip,x1,64,6,0,x2⟩:Pack),()) λc2=>
  .bnd (β:=Bool×Unit) (.cal eV.c (x0,()) λc3=>
   .ite (!c3) (.ret (true,()))<|
   .ite (!c1.2) (.ret (true,()))<|
   .ret ((c2==[]),())) λ(u4a0,_)=>
  .ite u4a0 (.ret ([],false))<|
  .cal fR.c ((⟨c1.1,x0.mac,2048,c2⟩:Fram),()) λc5=>
  .ret (c5,(!(c5==[])))
noncomputable def PE:=cI ao RJ Qu [] (ks:=[.st .link,.sc (.int .i64),.sc .str]) i4 (λv=>[(false,[.c (.str v.1)]),(false,[.c (.bool v.2)])]) Tryz.func269 trivial
noncomputable def em:FX (Conn×Int×Unit) (Int) (λ_=>True) (cG [.st .conn,.sc (.int .i64)]):=⟨λ(x0,x1,_)=>
  .cal jM.c (x0.s,x1,()) λc1=>
  .ite (decide (c1<0)) (.ret (-1))<|
  .cal fO.c (x0.r,c1,()) λc2=>
  .ite (decide (c2<0)) (.ret (-1))<|
  .ret c2,
 λ(x0,x1,_) hp hf=>by
  simp only[cG,Pk.fact,jT,gy,Fl.fact,Ty.fl,Ty.toH]at hf
  refine Tr.C trivial λ_ _ _=>Tr.I (λ_=>Tr.R trivial) λ_=>Tr.C trivial λ_ _ _=>Tr.F (by kernel_rfl) trivial⟩
theorem Y7 (x:Conn)(k:Int)(h0:0<=k)(h1:k<=1048576)(hf:∀c∈Ty.conn.cells x,FactC c)(h:0<=em.f (x,k,())):em.f (x,k,())<=k/\ah x:=by
 have e:em.f (x,k,())=(bif decide (jM.f (x.s,k,())<0)then-1 else(bif decide (fO.f (x.r,jM.f (x.s,k,()),())<0)then-1 else fO.f (x.r,jM.f (x.s,k,()),()))):=by first|(simp only[FX.f,PX,em];done)|(simp only[FX.f,PX,em];rfl)
 rw[e]at h|-
 obtain⟨p0,e0⟩:=kA h
 rw[e0]at h|-
 obtain⟨p1,e1⟩:=kA h
 rw[e1]at h|-
 have b0:=TH _ _ h0 (by omega) (hf (.str x.s.data) (by simp[Ty.cells,Ty.fl,Ty.toH,dL,Fl.cell])).slen p0
 have b1:=NX _ _ p0 (by omega) (hf (.str x.r.data) (by simp[Ty.cells,Ty.fl,Ty.toH,dL,Fl.cell])).slen (hf (.sl .piec x.r.held) (by simp[Ty.cells,Ty.fl,Ty.toH,dL,Fl.cell])).len (λy hy=>(hf (.sl .piec x.r.held) (by simp[Ty.cells,Ty.fl,Ty.toH,dL,Fl.cell])).elem hy) p1
 refine⟨by omega, ?_⟩
 unfold ah
 exact⟨by omega,by omega,by omega,b1.2.2.2⟩
noncomputable def SL:=sC st Tryz.func276 [OA,GM] (ks:=[.st .conn,.sc (.int .i64)]) em rI
noncomputable def BT:FT (Conn×Unit) (Conn) (λx=>ah x.1) (λx v=>ah v):= .mk λ(x0,_)=>
  .val (qc.f (x0.tuple,())) λc1=>
  .cal ut.c (x0.s,()) λc2=>
  .cal p7.c (x0.r,()) λc3=>
  .val (oJ.f (x0.opts,())) λc4=>
  .ret (⟨c1,x0.state,c2,c3,x0.window,x0.most,c4,x0.timer,x0.tries⟩:Conn)
noncomputable def UN:=aU ao Tryz.func278 [wX,Oj,IK,zS] (ks:=[.st .conn]) BT (λv=>[(true,nJ (.o true) v)])
noncomputable def QS:=[uS,kF,yW,mY,uu,I5,Px]
noncomputable def Pa:Fx:=⟨299,Tryz.f299,[(3000001,rA 0 5),(3000003,rA 0 19),(3000005,rA 0 30)],0⟩
noncomputable def td:FT (Conn×Segm×Unit) (Int) (λx=>ah x.1/\aw x.2.1) (λ_ _=>True):= .mk λ(x0,x1,_)=>
  .bnd (β:=Bool×Unit) (.as (λw=>(w.1=false->SO x0.s/\RO x0.r/\x1.body.length<=1420)) (.cal qB.c (x0,()) λc1=>
   .ite (!c1) (.ret (true,()))<|
   .ite (x0.state==8) (.ret (true,()))<|
   .cal gT.c (x1,()) λc2=>
   .ret ((!c2),()))) λ(u3a0,_)=>
  .ite u3a0 (.ret 1)<|
  .bnd (β:=Bool×Unit) (.val (gg.f (x1,4,())) λc4=>
   .ite c4 (.ret ((x1.seq==x0.r.next),()))<|
   .ret (false,())) λ(u5a0,_)=>
  .ite u5a0 (.ret 2)<|
  .bnd (β:=Bool×Unit) (.val (gg.f (x1,4,())) λc6=>
   .ite c6 (.cal ju.c (x0.r,()) λc7=>
    .val (nF.f (x1.seq,x0.r.next,c7,())) λc8=>
    .ret (c8,()))<|
   .ret (false,())) λ(u9a0,_)=>
  .ite u9a0 (.ret 3)<|
  .val (gg.f (x1,4,())) λc10=>
  .ite c10 (.ret 1)<|
  .val (gg.f (x1,2,())) λc11=>
  .ite c11 (.ret 3)<|
  .cal pK.c (x0,x1,()) λc12=>
  .ite (!c12) (.ret 4)<|
  .val (gg.f (x1,16,())) λc13=>
  .ite (!c13) (.ret 1)<|
  .cal y7.c (x0,x1.ack,()) λc14=>
  .ite (!c14) (.ret 3)<|
  .ret 5
noncomputable def EB:=cI st Pa QS [] (ks:=[.st .conn,.st .segm]) td rI Tryz.func299 trivial
noncomputable def VZ:=[jQ,EB,W5,qj,tI,mI,cu,yW,Qw,TC]
def z4:An:=⟨⟨[],[],false,0⟩,⟨[2,3,4,5],[],false,0⟩,⟨[],[]⟩,[(.normal,⟨[zp 2 0,zp 3 1,zp 4 2,zp 5 3],[zg .conn,zx .segm,.box [.st .conn [.nil .piec]],zk .conn 4,zf]⟩)]⟩
noncomputable def Wj:Fx:=⟨301,Tryz.f301,[(1000024,z4),(3000010,rA 0 59)],0⟩
noncomputable def B8:FT (Conn×Segm×Unit) (Conn) (λx=>ah x.1/\aw x.2.1) (λx v=>ah v):= .mk λ(x0,x1,_)=>
  .cal gt.c (x0,()) λc1=>
  .cal td.c (x0,x1,()) λc2=>
  .ite (c2 != 5) (.ret c1)<|
  .cal Gp.c (x0.s,x1.ack,()) λc3=>
  .bnd (β:=WT z4.es) (.as (λw=>ah w.1/\aw w.2.1/\ah w.2.2.1/\ah w.2.2.2.1) (.ite c3.2 (.val (fM.f (0,x0.opts.scale,())) λc4=>
    .grd (decide (0<=(IntKind.wrap .u64 c4)))<|
    .val (IntKind.wrap .i64 (x1.window*2 ^ (min (IntKind.wrap .u64 c4).toNat 64))) λe5=>
    .val (kX.f (1073725440,e5,())) λc6=>
    .val (fM.f (c1.most,c6,())) λc7=>
    .cal jG.c (c3.1,()) λc8=>
    .bnd (β:=Bool×Unit) (.ite (c3.1.una != x0.s.una) (.ret ((x0.state != 7),()))<|
     .ite (c8==0) (.ret ((x0.state != 7),()))<|
     .ret (false,())) λ(u9a0,_)=>
    .ite u9a0 (.ite (decide (0<c8)) (.ret (x0,x1,(⟨⟨0,0,0⟩,0,⟨0,[],0,false,false,false⟩,⟨0,[],[],0,false⟩,0,0,⟨0,0,false,false,0,0⟩,0,0⟩:Conn),(⟨c1.tuple,c1.state,c3.1,c1.r,c6,c7,c1.opts,3,0⟩:Conn),()))<|
     .ret (x0,x1,(⟨⟨0,0,0⟩,0,⟨0,[],0,false,false,false⟩,⟨0,[],[],0,false⟩,0,0,⟨0,0,false,false,0,0⟩,0,0⟩:Conn),(⟨c1.tuple,c1.state,c3.1,c1.r,c6,c7,c1.opts,0,0⟩:Conn),()))<|
    .ret (x0,x1,(⟨⟨0,0,0⟩,0,⟨0,[],0,false,false,false⟩,⟨0,[],[],0,false⟩,0,0,⟨0,0,false,false,0,0⟩,0,0⟩:Conn),(⟨c1.tuple,c1.state,c3.1,c1.r,c6,c7,c1.opts,c1.timer,c1.tries⟩:Conn),()))<|
   .ret (x0,x1,(⟨⟨0,0,0⟩,0,⟨0,[],0,false,false,false⟩,⟨0,[],[],0,false⟩,0,0,⟨0,0,false,false,0,0⟩,0,0⟩:Conn),c1,()))) λ(u10a0,u10a1,_,u10a3,_)=>
  .val (cm.f (u10a0.state,1,3,())) λc11=>
  .ite c11 (.val (gg.f (u10a1,1,())) λc12=>
   .cal tQ.c (u10a0.r,u10a1.seq,u10a1.body,c12,()) λc13=>
   .cal qG.c (({u10a3 with r.next:=c13.next,r.data:=c13.data,r.held:=c13.held,r.fin:=c13.fin,r.done:=c13.done}:Conn),()) λc14=>
   .ret c14)<|
  .cal qG.c (u10a3,()) λc15=>
  .ret c15
noncomputable def W0:=cI st Wj VZ [] (ks:=[.st .conn,.st .segm]) B8 (λv=>[(true,nJ (.o true) v)]) Tryz.func301 trivial
noncomputable def Rs:=[jQ,uS,S8,KY,Lx,RZ]
def rX:Sh:=⟨[zi 1,zp 2 0,zp 4 1,zo 6 2],[zk .conn 3,.box [.st .conn [.nil .piec]],za .segm,zf]⟩
noncomputable def PK:Fx:=⟨302,Tryz.f302,[(0,lb [1,2,4,6] [4,5]),(3000003,rA 0 25)],0⟩
noncomputable def rY (v0:Int)(a:Conn×Conn×List Segm):Tr (Stp (Conn×Conn×List Segm) ((Conn×List Segm))):=
 .val (CF.f (a.1,())) λc4=>
 .cal rG.c (a.1.s,v0,c4,()) λc5=>
 .ite (!c5.2) (.ret (.out (a.1,a.2.2)))<|
 .cal nb.c (a.1,()) λc6=>
 .ite (!(c5.1.text==[])) (.ite c5.1.fin (.grd (De a.2.2 1 104)<|
   .val (a.2.2++[({c6 with seq:=c5.1.seq,flags:=(bits .or .i64 (bits .or .i64 c6.flags 8) 1),body:=c5.1.text}:Segm)]) λl7=>
   .cal nG.c (a.1.s,c5.1,()) λc8=>
   .ite (a.1.timer==0) (.ret (.next ((⟨a.1.tuple,a.1.state,c8,a.1.r,a.1.window,a.1.most,a.1.opts,3,a.1.tries⟩:Conn),({a.2.1 with r.held:=[]}:Conn),l7)))<|
   .ret (.next (({a.1 with s.una:=c8.una,s.data:=c8.data,s.sent:=c8.sent,s.fin:=c8.fin,s.finSent:=c8.finSent,s.done:=c8.done}:Conn),({a.2.1 with r.held:=[]}:Conn),l7)))<|
  .grd (De a.2.2 1 104)<|
  .val (a.2.2++[({c6 with seq:=c5.1.seq,flags:=(bits .or .i64 c6.flags 8),body:=c5.1.text}:Segm)]) λl9=>
  .cal nG.c (a.1.s,c5.1,()) λc10=>
  .ite (a.1.timer==0) (.ret (.next ((⟨a.1.tuple,a.1.state,c10,a.1.r,a.1.window,a.1.most,a.1.opts,3,a.1.tries⟩:Conn),({a.2.1 with r.held:=[]}:Conn),l9)))<|
  .ret (.next (({a.1 with s.una:=c10.una,s.data:=c10.data,s.sent:=c10.sent,s.fin:=c10.fin,s.finSent:=c10.finSent,s.done:=c10.done}:Conn),({a.2.1 with r.held:=[]}:Conn),l9)))<|
 .ite c5.1.fin (.grd (De a.2.2 1 104)<|
  .val (a.2.2++[({c6 with seq:=c5.1.seq,flags:=(bits .or .i64 c6.flags 1),body:=c5.1.text}:Segm)]) λl11=>
  .cal nG.c (a.1.s,c5.1,()) λc12=>
  .ite (a.1.timer==0) (.ret (.next ((⟨a.1.tuple,a.1.state,c12,a.1.r,a.1.window,a.1.most,a.1.opts,3,a.1.tries⟩:Conn),({a.2.1 with r.held:=[]}:Conn),l11)))<|
  .ret (.next (({a.1 with s.una:=c12.una,s.data:=c12.data,s.sent:=c12.sent,s.fin:=c12.fin,s.finSent:=c12.finSent,s.done:=c12.done}:Conn),({a.2.1 with r.held:=[]}:Conn),l11)))<|
 .grd (De a.2.2 1 104)<|
 .cal nG.c (a.1.s,c5.1,()) λc13=>
 .ite (a.1.timer==0) (.ret (.next ((⟨a.1.tuple,a.1.state,c13,a.1.r,a.1.window,a.1.most,a.1.opts,3,a.1.tries⟩:Conn),({a.2.1 with r.held:=[]}:Conn),(a.2.2++[({c6 with seq:=c5.1.seq,body:=c5.1.text}:Segm)]))))<|
 .ret (.next (({a.1 with s.una:=c13.una,s.data:=c13.data,s.sent:=c13.sent,s.fin:=c13.fin,s.finSent:=c13.finSent,s.done:=c13.done}:Conn),({a.2.1 with r.held:=[]}:Conn),(a.2.2++[({c6 with seq:=c5.1.seq,body:=c5.1.text}:Segm)])))
noncomputable def lE:rX.V->LW rX (Conn×Conn×List Segm) ((Conn×List Segm)):=λ(v0,v1,v2,v3,_)=>⟨(v1,v2,v3),λa=>(v0,a.1,a.2.1,a.2.2,()),rY v0,GJ v1.s,oN .ret ⟨[zp 4 0,zo 5 1],[zk .conn 2,za .segm,zf]⟩ (λp=>(p.1,p.2,()))⟩
set_option maxHeartbeats 4000000 in
theorem Q7:LS Tryz.prog PK [0] (Zt 0 rX lE):=VA st (aW Rs) _ lE [] trivial
theorem Rm {v0:Int}{v1 v2:Conn}{v3:List Segm}(h0:ah v1/\ah v2/\sL aw v3/\v3.length+GJ v1.s<=49):(lE (v0,v1,v2,v3,())).W (λp=>ah p.1/\sL aw p.2/\p.2.length<=49):=
 LW.okW (a:=(v1,v2,v3)) (λa=>ah a.1/\ah a.2.1/\sL aw a.2.2/\a.2.2.length+GJ a.1.s<=49) (λa=>GJ a.1.s) rfl h0 λ(v1,v2,v3) hv=>by
  refine Tr.V λc4 hc4=>Tr.C ?_ λc5 hc5 qc5=>Tr.I (λb0=>Tr.Ro ?_) λb0=>Tr.C ?_ λc6 hc6 qc6=>Tr.I (λb1=>Tr.I (λb2=>Tr.Gb ?_ λg3=>Tr.V λl7 hl7=>Tr.C ?_ λc8 hc8 qc8=>Tr.I (λb4=>Tr.Rn ?_) λb4=>Tr.Rn ?_) λb2=>Tr.Gb ?_ λg3=>Tr.V λl9 hl9=>Tr.C ?_ λc10 hc10 qc10=>Tr.I (λb4=>Tr.Rn ?_) λb4=>Tr.Rn ?_) λb1=>Tr.I (λb2=>Tr.Gb ?_ λg3=>Tr.V λl11 hl11=>Tr.C ?_ λc12 hc12 qc12=>Tr.I (λb4=>Tr.Rn ?_) λb4=>Tr.Rn ?_) λb2=>Tr.Gb ?_ λg3=>Tr.C ?_ λc13 hc13 qc13=>Tr.I (λb4=>Tr.Rn ?_) λb4=>Tr.Rn ?_
  all_goals ((first|grind|(have tl:∀s:ac,s=[]\/0<s.length:=(λs=>by cases s<;>simp);grind)))
noncomputable def sI:FT (Conn×Int×Unit) (Conn×List Segm) (λx=>ah x.1) (λx v=>ah v.1/\sL aw v.2/\v.2.length<=49):= .mk (λ(x0,x1,_)=>
  .cal gt.c (x0,()) λc1=>
  .bnd (β:=Bool×Unit) (.as (λw=>(w.1=false->SO c1.s/\RO c1.r)) (.cal qB.c (c1,()) λc2=>
   .ite (!c2) (.ret (true,()))<|
   .ite (c1.state==8) (.ret (true,()))<|
   .ret ((c1.state==7),()))) λ(u3a0,_)=>
  .ite u3a0 (.ret (c1,[]))<|
  .lp (lE (x1,c1,(⟨⟨0,0,0⟩,0,⟨0,[],0,false,false,false⟩,⟨0,[],[],0,false⟩,0,0,⟨0,0,false,false,0,0⟩,0,0⟩:Conn),[],())).lp λ(p14a0,p14a1)=>
  .ret (p14a0,p14a1)) (np @Rm)
noncomputable def Yq:=cI st PK Rs [(Zt 0 rX lE)] (ks:=[.st .conn,.sc (.int .i64)]) sI (λv=>[(true,nJ (.o true) v.1),(false,[sc (.o true) .segm v.2])]) Tryz.func302 ⟨Q7,trivial⟩
noncomputable def jJ:=[sv,wO,na,ik,DG,BP,Fh]
def jZ:Sh:=⟨[zi 1,zs 2,zb 3,zp 4 0,zp 8 1,zp 9 2,zi 10,zp 11 3,zp 12 4,(13,false,[.fn 371 [4,3]]),zp 15 5,zl 42 .piec,zi 43,zi 44,zi 50,zi 51],[zg .recv,.box [.st .recv [.nil .piec]],zk .recv 6,.box [.own 7],.box [.own 8],zx .piec,zf,za .u8,za .bool]⟩
def mG:Sh:=⟨[zi 1,zs 2,zb 3,zp 4 0,zp 8 1,zp 9 2,zi 10,zp 11 3,zp 12 4,(13,false,[.fn 371 [4,3]]),zl 42 .piec,zi 43,zi 44],[zg .recv,.box [.st .recv [.nil .piec]],zk .recv 5,.box [.own 6],.box [.own 7],zf,za .u8,za .bool]⟩
def mj:Sh:=⟨[zi 1,zs 2,zb 3,zp 4 0,zp 8 1,zp 9 2,zi 10,zp 11 3,zp 12 4,(13,false,[.fn 371 [4,3]]),zi 67,zi 68],[zg .recv,.box [.st .recv [.nil .piec]],zk .recv 5,.box [.own 6],.box [.own 7],zf,za .u8,za .bool]⟩
def mT:Sh:=⟨[zp 4 0,zp 8 1,zp 9 2,zi 10,zp 11 3,zp 12 4,zp 19 5,zi 21],[zg .recv,.box [.st .recv [.nil .piec]],zk .recv 6,.box [.own 7],.box [.sl .any .bool],zg .recv,zf,za .u8]⟩
def kj:Sh:=⟨[zp 8 0,zp 9 1,zi 10,zp 11 2,zp 12 3,zp 19 4,zi 21,zi 22,zi 23],[.box [.st .recv [.nil .piec]],zk .recv 5,.box [.own 6],.box [.sl .any .bool],zk .recv 7,zf,za .u8,zf]⟩
def nm:Sh:=⟨[zp 8 0,zp 9 1,zi 10,zp 11 2,zp 12 3,zp 19 4,zi 21,zi 22],[.box [.st .recv [.nil .piec]],zk .recv 5,.box [.own 6],.box [.sl .any .bool],zk .recv 7,zf,za .u8,zf]⟩
def tu:An:=⟨⟨[],[],false,0⟩,⟨[4,8,9,10,11,12,19],[],false,0⟩,⟨[],[]⟩,[(.normal,⟨[zp 4 0,zp 8 1,zp 9 2,zi 10,zp 11 3,zp 12 4,zp 19 5],[zg .recv,.box [.st .recv [.nil .piec]],zk .recv 6,.box [.own 7],.box [.sl .any .bool],zg .recv,zf,za .u8]⟩)]⟩
def nA:An:=⟨⟨[],[],false,0⟩,⟨[8,9,10,11,12,19,21],[],false,0⟩,⟨[],[]⟩,[(.normal,⟨[zp 8 0,zp 9 1,zi 10,zp 11 2,zp 12 3,zp 19 4,zi 21],[.box [.st .recv [.nil .piec]],zk .recv 5,.box [.own 6],.box [.sl .any .bool],zg .recv,zf,za .u8]⟩)]⟩
noncomputable def jO:Fx:=⟨314,Tryz.f314,[(2,lb [1,2,3,4,8,9,10,11,12,13,15,42,43,44,50,51] [1,2,3,4,8,9,10,11,12,13,42,43,44]),(0,lb [1,2,3,4,8,9,10,11,12,13,42,43,44] [1,2,3,4,8,9,10,11,12,13]),(4,la ⟨[1,2,3,4,8,9,10,11,12,13,67,68],[],false,0⟩ ⟨[1,2,3,4,8,9,10,11,12],[.softb 12 0],false,0⟩),(6,lb [4,8,9,10,11,12,19,21] [4,8,9,10,11,12,19,21]),(10,lb [8,9,10,11,12,19,21,22,23] [8,9,10,11,12,19,21,22,23]),(8,la ⟨[8,9,10,11,12,19,21,22],[.box 19 2 .piec],false,0⟩ ⟨[8,9,19],[],false,0⟩),(1000123,tu),(1000152,nA),(3000002,rA 0 32),(3000021,rA 0 90),(3000026,rA 0 123)],0⟩
noncomputable def nz (vb12:Piec)(vb8:Int)(a:Recv×List Int×List Bool):Tr (Stp (Recv×List Int×List Bool) (Empty)):=
 .grd (ba vb12.text vb8)<|
 .cal f7.c ((IntKind.wrap .i64 (vb12.off+vb8)),(af vb12.text vb8.toNat),a.2.2,a.2.1,()) λc5=>
 .ret (.next (({a.1 with held:=[]}:Recv),c5.2,c5.1))
noncomputable def di:jZ.V->wa jZ (Recv×List Int×List Bool):=λ(vb0,vb1,vb2,vb3,vb4,vb5,vb6,vb7,vb8,vb9,vb10,vb11,vb12,vb13,vb14,_)=>⟨vb8,(vb10,vb13,vb14),λvb8 a=>(vb0,vb1,vb2,vb3,vb4,vb5,vb6,vb7,vb8,vb9,a.1,vb11,vb12,a.2.1,a.2.2,()),λvb8 _=>(decide (vb8<vb7)),nz vb12,up,1,(Int.toNat (vb7-vb8)),Empty.elim,Prod.mk,oN (.exit 2) ⟨[zi 1,zs 2,zb 3,zp 4 0,zp 8 1,zp 9 2,zi 10,zp 11 3,zp 12 4,(13,false,[.fn 371 [4,3]]),zl 42 .piec,zi 43,zi 44],[zg .recv,.box [.st .recv [.nil .piec]],zk .recv 5,.box [.own 6],.box [.own 7],zf,za .u8,za .bool]⟩ (λx=>(vb0,vb1,vb2,vb3,vb4,vb5,vb6,vb9,({x.2.1 with held:=[]}:Recv),vb11,x.2.2.1,x.2.2.2,()))⟩
theorem Ec:LS Tryz.prog jO [0,0] (kD 2 jZ di):=fa ao (aW jJ) _ di [] trivial
theorem Dy {vb0 vb3 vb5 vb6 vb7 vb8:Int}{vb1:ac}{vb2:Bool}{vb4:List Piec}{vb9 vb10 vb11:Recv}{vb12:Piec}{vb13:List Int}{vb14:List Bool}(h0:0<=vb8)(h1:vb7<=4611686018427387904)(h2:1<=vb12.off/\vb12.off+(vb12.text.length:Int)<=vb3)(h3:vb3<=32)(h4:bD vb12)(h5:vb7<=(vb12.text.length:Int))(h6:ax vb10/\sS vb13/\sS vb14/\vb13.length=vb14.length/\(vb14.length:Int)=vb3):(di (vb0,vb1,vb2,vb3,vb4,vb5,vb6,vb7,vb8,vb9,vb10,vb11,vb12,vb13,vb14,())).U vb7 (λvb8 a=>ax a.1/\sS a.2.1/\sS a.2.2/\a.2.1.length=a.2.2.length/\(a.2.2.length:Int)=vb3) (λ_=>True):=
 kx (a:=(vb10,vb13,vb14)) h0 h1 h6
noncomputable def gL (v0:Int)(v1:ac)(v2:Bool)(v3:Int)(v4:List Piec)(v5:Int)(v7 v9:Recv)(v6:Int)(a:Recv×List Int×List Bool):Tr (Stp (Recv×List Int×List Bool) (Empty)):=
 .grd (ba v4 v6)<|
 .lp (di (v0,v1,v2,v3,v4,v5,v6,(((v4.getD v6.toNat (Ty.zero .piec)).text).length:Int),0,v7,({a.1 with held:=[]}:Recv),v9,(v4.getD v6.toNat (Ty.zero .piec)),a.2.1,a.2.2,())).lp λ(_,a6_0,a6_1,a6_2)=>
 .ret (.next (({({a6_0 with held:=[]}:Recv)with held:=[]}:Recv),a6_1,a6_2))
noncomputable def fv:mG.V->wa mG (Recv×List Int×List Bool):=λ(v0,v1,v2,v3,v4,v5,v6,v7,v8,v9,v10,v11,_)=>⟨v6,(v8,v10,v11),λv6 a=>(v0,v1,v2,v3,v4,v5,v6,v7,a.1,v9,a.2.1,a.2.2,()),λv6 _=>(decide (v6<v5)),gL v0 v1 v2 v3 v4 v5 v7 v9,up,1,(Int.toNat (v5-v6)),Empty.elim,Prod.mk,oN (.exit 0) ⟨[zi 1,zs 2,zb 3,zp 4 0,zp 8 1,zp 9 2,zi 10,zp 11 3,zp 12 4,(13,false,[.fn 371 [4,3]])],[zg .recv,.box [.st .recv [.nil .piec]],zk .recv 5,.box [.own 6],.box [.own 7],zf,za .u8,za .bool]⟩ (λx=>(v0,v1,v2,v3,v7,({x.2.1 with held:=[]}:Recv),v9,x.2.2.1,x.2.2.2,()))⟩
theorem HF:LS Tryz.prog jO [0] (kD 0 mG fv):=fa ao (aW jJ) _ fv [(kD 2 jZ di)] ⟨Ec,trivial⟩
theorem IQ {v0 v3 v5 v6:Int}{v1:ac}{v2:Bool}{v4:List Piec}{v7 v8 v9:Recv}{v10:List Int}{v11:List Bool}(h0:0<=v6)(h1:v5<=4611686018427387904)(h2:dP (pw v3) v4)(h3:v3<=32)(h4:sS v1)(h5:sL bD v4)(h6:ax v7)(h7:ax v9)(h8:v5<=(v4.length:Int))(h9:ax v8/\sS v10/\sS v11/\v10.length=v11.length/\(v11.length:Int)=v3):(fv (v0,v1,v2,v3,v4,v5,v6,v7,v8,v9,v10,v11,())).U v5 (λv6 a=>ax a.1/\sS a.2.1/\sS a.2.2/\a.2.1.length=a.2.2.length/\(a.2.2.length:Int)=v3) (λ_=>True):=
 LC.okU (i:=v6) (a:=(v8,v10,v11)) (λ_ _=>rfl) (λ_=>rfl) rfl h0 h1 h9 λv6 (v8,v10,v11) hj hk hv=>by
  refine Tr.G2 ?_ λg0=>Tr.L (Dy ?_ ?_ ?_ ?_ ?_ ?_ ?_) (λ(a6_0,a6_1,a6_2) i6=>Tr.Rn ?_) (λp=>Empty.elim p)
  all_goals ((try simp only[di,LC.lp,LC.ct,Ct.lp]at*)<;>(have hp:=abN (i:=v6.toNat) h2 (by omega);simp only[pw]at hp;grind))
noncomputable def nj (v0:Int)(v1:ac)(v3:Int)(v6:Recv)(v5:Int)(a:Recv×List Int×List Bool):Tr (Stp (Recv×List Int×List Bool) (Empty)):=
 .val (cM.f (v0,v5,())) λc8=>
 .val (rP.f (c8,v6.next,())) λc9=>
 .bnd (β:=Bool×Unit) (.ite (decide (c9<v3)) (.ite (v6.fin==(-1)) (.ret (true,()))<|
   .ret ((decide (c9<v6.fin)),()))<|
  .ret (false,())) λ(u10a0,_)=>
 .ite u10a0 (.grd (ba v1 v5)<|
  .cal f7.c (c9,(af v1 v5.toNat),a.2.2,a.2.1,()) λc11=>
  .ret (.next (({a.1 with held:=[]}:Recv),c11.2,c11.1)))<|
 .ret (.next (({a.1 with held:=[]}:Recv),a.2.1,a.2.2))
noncomputable def fk:mj.V->wa mj (Recv×List Int×List Bool):=λ(v0,v1,v2,v3,v4,v5,v6,v7,v8,v9,v10,_)=>⟨v5,(v7,v9,v10),λv5 a=>(v0,v1,v2,v3,v4,v5,v6,a.1,v8,a.2.1,a.2.2,()),λv5 _=>(decide (v5<v4)),nj v0 v1 v3 v6,up,1,(Int.toNat (v4-v5)),Empty.elim,Prod.mk,oN (.exit 4) ⟨[zi 1,zs 2,zb 3,zp 4 0,zp 8 1,zp 9 2,zi 10,zp 11 3,zp 12 4],[zg .recv,.box [.st .recv [.nil .piec]],zk .recv 5,.box [.own 6],.box [.sl .any .bool],zf,za .u8]⟩ (λx=>(v0,v1,v2,v3,v6,({x.2.1 with held:=[]}:Recv),v8,x.2.2.2,x.2.2.1,()))⟩
theorem Ha:LS Tryz.prog jO [1] (kD 4 mj fk):=fa ao (aW jJ) _ fk [] trivial
theorem GS {v0 v3 v4 v5:Int}{v1:ac}{v2:Bool}{v6 v7 v8:Recv}{v9:List Int}{v10:List Bool}(h0:0<=v5)(h1:v4<=4611686018427387904)(h2:v3<=32)(h3:sS v1)(h4:ax v6)(h5:v4<=(v1.length:Int))(h6:ax v7/\sS v9/\sS v10/\v9.length=v10.length/\(v10.length:Int)=v3):(fk (v0,v1,v2,v3,v4,v5,v6,v7,v8,v9,v10,())).U v4 (λv5 a=>ax a.1/\sS a.2.1/\sS a.2.2/\a.2.1.length=a.2.2.length/\(a.2.2.length:Int)=v3) (λ_=>True):=
 kx (a:=(v7,v9,v10)) h0 h1 h6
noncomputable def qV (v5:List Bool)(v1:Int)(a:Recv):Tr (Stp (Recv) ((Int×Recv))):=
 .grd (ba v5 v1)<|
 .ite (v5.getD v1.toNat false) (.ret (.next ({a with held:=[]}:Recv)))<|
 .ret (.out (v1,({a with held:=[]}:Recv)))
noncomputable def ep:mT.V->nL mT Recv (Int×Recv):=λ(v0,v1,v2,v3,v4,v5,v6,v7,_)=>⟨v1,v3,λv1 a=>(v0,v1,v2,a,v4,v5,v6,v7,()),λv1 _=>(decide (v1<v0)),qV v5,up,1,(Int.toNat (v0-v1)),.inl,eR,oB (.exit 6) ⟨[zp 4 0,zp 8 1,zp 9 2,zi 10,zp 11 3,zp 12 4,zp 19 5,zi 21],[zg .recv,.box [.st .recv [.nil .piec]],zk .recv 6,.box [.own 7],.box [.sl .any .bool],zg .recv,zf,za .u8]⟩ (λp=>(v0,p.1,v2,p.2,v4,v5,v6,v7,())) (.exit 6) ⟨[zp 4 0,zp 8 1,zp 9 2,zi 10,zp 11 3,zp 12 4,zp 19 5,zi 21],[zg .recv,.box [.st .recv [.nil .piec]],zk .recv 6,.box [.own 7],.box [.sl .any .bool],zg .recv,zf,za .u8]⟩ (λx=>(v0,x.1,v2,({x.2 with held:=[]}:Recv),v4,v5,v6,v7,()))⟩
theorem Jo:LS Tryz.prog jO [2] (kD 6 mT ep):=fa ao (aW jJ) _ ep [] trivial
theorem IB {v0 v1:Int}{v2 v3 v4 v6:Recv}{v5:List Bool}{v7:List Int}(h0:0<=v1)(h1:v0<=4611686018427387904)(h2:sS v5)(h3:v0<=(v5.length:Int))(h4:ax v3):(ep (v0,v1,v2,v3,v4,v5,v6,v7,())).U v0 (λv1 a=>ax a) (λp=>ax p.2/\v1<=p.1/\p.1<v0):=
 kx (a:=v3) h0 h1 h4
noncomputable def nM (vb6:List Bool)(vb2:Int)(a:Recv):Tr (Stp (Recv) ((Int×Recv))):=
 .grd (ba vb6 vb2)<|
 .ite (vb6.getD vb2.toNat false) (.ret (.next ({a with held:=[]}:Recv)))<|
 .ret (.out (vb2,({a with held:=[]}:Recv)))
noncomputable def dS:kj.V->nL kj Recv (Int×Recv):=λ(vb0,vb1,vb2,vb3,vb4,vb5,vb6,vb7,vb8,_)=>⟨vb2,vb4,λvb2 a=>(vb0,vb1,vb2,vb3,a,vb5,vb6,vb7,vb8,()),λvb2 _=>(decide (vb2<vb0)),nM vb6,up,1,(Int.toNat (vb0-vb2)),.inl,eR,oB (.exit 10) ⟨[zp 8 0,zp 9 1,zi 10,zp 11 2,zp 12 3,zp 19 4,zi 21,zi 22,zi 23],[.box [.st .recv [.nil .piec]],zk .recv 5,.box [.own 6],.box [.sl .any .bool],zk .recv 7,zf,za .u8,zf]⟩ (λp=>(vb0,vb1,p.1,vb3,p.2,vb5,vb6,vb7,vb8,())) (.exit 10) ⟨[zp 8 0,zp 9 1,zi 10,zp 11 2,zp 12 3,zp 19 4,zi 21,zi 22,zi 23],[.box [.st .recv [.nil .piec]],zk .recv 5,.box [.own 6],.box [.sl .any .bool],zk .recv 7,zf,za .u8,zf]⟩ (λx=>(vb0,vb1,x.1,vb3,({x.2 with held:=[]}:Recv),vb5,vb6,vb7,vb8,()))⟩
theorem Eh:LS Tryz.prog jO [3,0] (kD 10 kj dS):=fa ao (aW jJ) _ dS [] trivial
theorem Df {vb0 vb1 vb2 vb3:Int}{vb4 vb5 vb7:Recv}{vb6:List Bool}{vb8:List Int}(h0:0<=vb2)(h1:vb0<=4611686018427387904)(h2:vb3=vb2)(h3:vb6.getD vb3.toNat false=true)(h4:sS vb6)(h5:vb0<=(vb6.length:Int))(h6:ax vb4):(dS (vb0,vb1,vb2,vb3,vb4,vb5,vb6,vb7,vb8,())).U vb0 (λvb2 a=>ax a) (λp=>ax p.2/\vb2<=p.1/\p.1<vb0/\vb3<p.1):=
 kx (a:=vb4) h0 h1 h6
noncomputable def fo (v0 v1:Int)(v4:Recv)(v5:List Bool)(v7:List Int)(a:Int×Recv×Recv):Tr (Stp (Int×Recv×Recv) ((Recv×Recv))):=
 .ite (decide (a.1<v0)) (.grd (ba v5 a.1)<|
  .ite (!(v5.getD a.1.toNat false)) (.ret (.next ((IntKind.wrap .i64 (a.1+1)),({a.2.1 with held:=[]}:Recv),a.2.2)))<|
  .lp (dS (v0,v1,a.1,a.1,({a.2.1 with held:=[]}:Recv),v4,v5,a.2.2,v7,())).lp λw22=> .sum w22 (λ(p22a0,p22a1)=>
  .grd (O3 v7 a.1 p22a0)<|
  .grd (De a.2.2.held 1 24)<|
  .val (a.2.2.held++[(⟨(IntKind.wrap .i64 (a.1-v1)),(az ((v7.take p22a0.toNat).drop a.1.toNat))⟩:Piec)]) λl23=>
  .ret (.next (p22a0,({p22a1 with held:=[]}:Recv),({a.2.2 with held:=l23}:Recv))))<|
  λ(n22,a22_0)=>
  .grd (O3 v7 a.1 n22)<|
  .grd (De a.2.2.held 1 24)<|
  .val (a.2.2.held++[(⟨(IntKind.wrap .i64 (a.1-v1)),(az ((v7.take n22.toNat).drop a.1.toNat))⟩:Piec)]) λl24=>
  .ret (.next (n22,({({a22_0 with held:=[]}:Recv)with held:=[]}:Recv),({a.2.2 with held:=l24}:Recv))))<|
 .ret (.out (({a.2.1 with held:=[]}:Recv),a.2.2))
noncomputable def dC:nm.V->LW nm (Int×Recv×Recv) ((Recv×Recv)):=λ(v0,v1,v2,v3,v4,v5,v6,v7,_)=>⟨(v2,v3,v6),λa=>(v0,v1,a.1,a.2.1,v4,v5,a.2.2,v7,()),fo v0 v1 v4 v5 v7,Int.toNat (v0-v2),oN (.exit 8) ⟨[zp 8 0,zp 9 1,zp 19 2],[.box [.st .recv [.nil .piec]],zk .recv 3,zk .recv 4,zf,zf]⟩ (λp=>(p.1,v4,p.2,()))⟩
theorem It:LS Tryz.prog jO [3] (Zt 8 nm dC):=VA ao (aW jJ) _ dC [(kD 10 kj dS)] ⟨Eh,trivial⟩
theorem wn {v0 v1 v2:Int}{v3 v4 v6:Recv}{v5:List Bool}{v7:List Int}(h0:v0<=32)(h1:(v5.length:Int)=v0)(h2:v7.length=v5.length)(h3:0<=v1)(h4:ax v4)(h5:sS v5)(h6:sS v7)(h7:ax v3/\ax v6/\v1<=v2/\v2<=v0/\(v6.held.length:Int)<=v2):(dC (v0,v1,v2,v3,v4,v5,v6,v7,())).W (λp=>ax p.1/\ax p.2):=
 LW.okW (a:=(v2,v3,v6)) (λa=>ax a.2.1/\ax a.2.2/\v1<=a.1/\a.1<=v0/\(a.2.2.held.length:Int)<=a.1) (λa=>Int.toNat (v0-a.1)) rfl h7 λ(v2,v3,v6) hv=>by
  refine Tr.I (λ_=>Tr.G2 ?_ λ_=>Tr.I (λ_=>Tr.Rn ?_) λ_=>Tr.L (Df ?_ ?_ ?_ ?_ ?_ ?_ ?_) (λa22_0 _=>Tr.Sr (Tr.G3 ?_ λ_=>Tr.Gb ?_ λ_=>Tr.V λ_ _=>Tr.Rn ?_)) (λ(p22a0,p22a1) _=>Tr.Sl (Tr.G3 ?_ λ_=>Tr.Gb ?_ λ_=>Tr.V λ_ _=>Tr.Rn ?_))) λ_=>Tr.Ro ?_
  all_goals ((try simp only[dS,LC.lp,LC.ct,Ct.lp]at*)<;>grind)
noncomputable def tv:FT (Recv×Int×ac×Bool×Unit) (Recv) (λx=>ax x.1/\sS x.2.2.1) (λx v=>ax v):=⟨λ(x0,x1,x2,x3,_)=>
  .cal iQ.c (x0,()) λc1=>
  .bnd (β:=Bool×Unit) (.cal bB.c (x0,()) λc2=>
   .ite (!c2) (.ret (true,()))<|
   .ret (x0.done,())) λ(u3a0,_)=>
  .ite u3a0 (.ret c1)<|
  .cal bX.c (x0,()) λc4=>
  .grd ((((decide (0<=c4))&&(decide (c4=c4)))&&(decide (c4*1<=(aM:Int))))&&(decide (c4<=(aM:Int))))<|
  .grd ((((decide (0<=c4))&&(decide (c4=c4)))&&(decide (c4*1<=(aM:Int))))&&(decide (c4<=(aM:Int))))<|
  .lp (fv (x1,x2,x3,c4,x0.held,(x0.held.length:Int),0,x0,(⟨0,[],[],0,false⟩:Recv),c1,(List.replicate c4.toNat 0),(List.replicate c4.toNat false),())).lp λ(_,a7_0,a7_1,a7_2)=>
  .lp (fk (x1,x2,x3,c4,(x2.length:Int),0,x0,({({a7_0 with held:=[]}:Recv)with held:=[]}:Recv),c1,a7_1,a7_2,())).lp λ(_,a12_0,a12_1,a12_2)=>
  .val (cM.f (x1,(x2.length:Int),())) λc13=>
  .val (rP.f (c13,x0.next,())) λc14=>
  .bnd (β:=Bool×Unit) (.ite x3 (.ite (x0.fin==(-1)) (.ite (decide (c14<=c4)) (.grd (O3 a12_2 c14 (a12_2.length:Int))<|
      .cal eI.c (((a12_2.take ((a12_2.length:Int).toNat)).drop c14.toNat),true,()) λc15=>
      .ret ((!c15),()))<|
     .ret (false,()))<|
    .ret (false,()))<|
   .ret (false,())) λ(u16a0,_)=>
  .bnd (β:=WT tu.es) (.ite u16a0 (.ret (c4,x0,({({a12_0 with held:=[]}:Recv)with held:=[]}:Recv),c1,a12_2,({x0 with fin:=c14}:Recv),a12_1,()))<|
   .ret (c4,x0,({({a12_0 with held:=[]}:Recv)with held:=[]}:Recv),c1,a12_2,x0,a12_1,())) λ(u17a0,u17a1,u17a2,u17a3,u17a4,u17a5,u17a6,_)=>
  .lp (ep (u17a0,0,u17a1,({u17a2 with held:=[]}:Recv),u17a3,u17a4,u17a5,u17a6,())).lp λw18=> .sum w18 (λ(p18a0,p18a1)=>
  .grd ((decide (0<=p18a0))&&(decide (p18a0<=(u17a6.length:Int))))<|
  .grd (Nat.ble (u17a5.data.length+(az ((u17a6.take p18a0.toNat).drop 0)).length) am)<|
  .val (cM.f (u17a1.next,p18a0,())) λc19=>
  .bnd (β:=WT nA.es) (.ite (u17a5.fin != (-1)) (.ret (u17a0,p18a0,({p18a1 with held:=[]}:Recv),u17a3,u17a4,(⟨c19,(u17a5.data++(az ((u17a6.take p18a0.toNat).drop 0))),u17a5.held,(IntKind.wrap .i64 (u17a5.fin-p18a0)),u17a5.done⟩:Recv),u17a6,()))<|
   .ret (u17a0,p18a0,({p18a1 with held:=[]}:Recv),u17a3,u17a4,({u17a5 with next:=c19,data:=(u17a5.data++(az ((u17a6.take p18a0.toNat).drop 0)))}:Recv),u17a6,())) λ(u20a0,u20a1,u20a2,u20a3,u20a4,u20a5,u20a6,_)=>
  .lp (dC (u20a0,u20a1,u20a1,({u20a2 with held:=[]}:Recv),u20a3,u20a4,({u20a5 with held:=[]}:Recv),u20a6,())).lp λ(_,p25a1)=>
  .ite (decide (3<(p25a1.held.length:Int))) (.ret u20a3)<|
  .ite (p25a1.fin==0) (.val (cM.f (p25a1.next,1,())) λc26=>
   .ret (⟨c26,p25a1.data,p25a1.held,(-1),true⟩:Recv))<|
  .ret p25a1)<|
  λ(n18,a18_0)=>
  .grd ((decide (0<=n18))&&(decide (n18<=(u17a6.length:Int))))<|
  .grd (Nat.ble (u17a5.data.length+(az ((u17a6.take n18.toNat).drop 0)).length) am)<|
  .val (cM.f (u17a1.next,n18,())) λc27=>
  .bnd (β:=WT nA.es) (.ite (u17a5.fin != (-1)) (.ret (u17a0,n18,({({a18_0 with held:=[]}:Recv)with held:=[]}:Recv),u17a3,u17a4,(⟨c27,(u17a5.data++(az ((u17a6.take n18.toNat).drop 0))),u17a5.held,(IntKind.wrap .i64 (u17a5.fin-n18)),u17a5.done⟩:Recv),u17a6,()))<|
   .ret (u17a0,n18,({({a18_0 with held:=[]}:Recv)with held:=[]}:Recv),u17a3,u17a4,({u17a5 with next:=c27,data:=(u17a5.data++(az ((u17a6.take n18.toNat).drop 0)))}:Recv),u17a6,())) λ(u28a0,u28a1,u28a2,u28a3,u28a4,u28a5,u28a6,_)=>
  .lp (dC (u28a0,u28a1,u28a1,({u28a2 with held:=[]}:Recv),u28a3,u28a4,({u28a5 with held:=[]}:Recv),u28a6,())).lp λ(_,p29a1)=>
  .ite (decide (3<(p29a1.held.length:Int))) (.ret u28a3)<|
  .ite (p29a1.fin==0) (.val (cM.f (p29a1.next,1,())) λc30=>
   .ret (⟨c30,p29a1.data,p29a1.held,(-1),true⟩:Recv))<|
  .ret p29a1,
 λ(x0,x1,x2,x3,_) hp=>by
  refine Tr.C ?_ λc1 hc1 qc1=>Tr.B (Q':=λw=>(w.1=false->RO x0/\dP (pw (Wv x0)) x0.held)) (Tr.C ?_ λc2 hc2 qc2=>Tr.I (λb0=>Tr.R ?_) λb0=>Tr.R ?_) (λ(u3a0,_) hj3 qj3=>Tr.I (λb0=>Tr.R ?_) λb0=>Tr.C ?_ λc4 hc4 qc4=>Tr.G4 ?_ λg1=>Tr.G4 ?_ λg2=>Tr.L (IQ ?_ ?_ ?_ ?_ ?_ ?_ ?_ ?_ ?_ ?_) (λ(a7_0,a7_1,a7_2) i7=>Tr.L (GS ?_ ?_ ?_ ?_ ?_ ?_ ?_) (λ(a12_0,a12_1,a12_2) i12=>Tr.V λc13 hc13=>Tr.V λc14 hc14=>Tr.B (Q':=λ_=>True) (Tr.I (λb3=>Tr.I (λb4=>Tr.I (λb5=>Tr.G3 ?_ λg6=>Tr.C ?_ λc15 hc15 qc15=>Tr.R trivial) λb5=>Tr.R trivial) λb4=>Tr.R trivial) λb3=>Tr.R trivial) (λ(u16a0,_) hj16 qj16=>Tr.B (Q':=λw=>ax w.2.1/\ax w.2.2.1/\ax w.2.2.2.1/\sS w.2.2.2.2.1/\ax w.2.2.2.2.2.1/\sS w.2.2.2.2.2.2.1/\w.1<=32/\0<=w.1/\(w.2.2.2.2.1.length:Int)=w.1/\w.2.2.2.2.2.2.1.length=w.2.2.2.2.1.length/\w.2.2.2.2.2.1.data.length<=32) (Tr.I (λb3=>Tr.R ?_) λb3=>Tr.R ?_) (λ(u17a0,u17a1,u17a2,u17a3,u17a4,u17a5,u17a6,_) hj17 qj17=>Tr.L (IB ?_ ?_ ?_ ?_ ?_) (λa18_0 i18=>Tr.Sr (Tr.G2 ?_ λg3=>Tr.Gb ?_ λg4=>Tr.V λc27 hc27=>Tr.B (Q':=λw=>ax w.2.2.1/\ax w.2.2.2.1/\sS w.2.2.2.2.1/\ax w.2.2.2.2.2.1/\sS w.2.2.2.2.2.2.1/\w.1<=32/\0<=w.2.1/\w.2.1<=w.1/\(w.2.2.2.2.1.length:Int)=w.1/\w.2.2.2.2.2.2.1.length=w.2.2.2.2.1.length/\w.2.2.2.2.2.1.data.length<=64) (Tr.I (λb5=>Tr.R ?_) λb5=>Tr.R ?_) (λ(u28a0,u28a1,u28a2,u28a3,u28a4,u28a5,u28a6,_) hj28 qj28=>Tr.L (wn ?_ ?_ ?_ ?_ ?_ ?_ ?_ ?_) (λa=>Empty.elim a) (λ(p29a0,p29a1) hp29=>Tr.I (λb5=>Tr.R ?_) λb5=>Tr.I (λb6=>Tr.V λc30 hc30=>Tr.R ?_) λb6=>Tr.R ?_)))) (λ(p18a0,p18a1) hp18=>Tr.Sl (Tr.G2 ?_ λg3=>Tr.Gb ?_ λg4=>Tr.V λc19 hc19=>Tr.B (Q':=λw=>ax w.2.2.1/\ax w.2.2.2.1/\sS w.2.2.2.2.1/\ax w.2.2.2.2.2.1/\sS w.2.2.2.2.2.2.1/\w.1<=32/\0<=w.2.1/\w.2.1<=w.1/\(w.2.2.2.2.1.length:Int)=w.1/\w.2.2.2.2.2.2.1.length=w.2.2.2.2.1.length/\w.2.2.2.2.2.1.data.length<=64) (Tr.I (λb5=>Tr.R ?_) λb5=>Tr.R ?_) (λ(u20a0,u20a1,u20a2,u20a3,u20a4,u20a5,u20a6,_) hj20 qj20=>Tr.L (wn ?_ ?_ ?_ ?_ ?_ ?_ ?_ ?_) (λa=>Empty.elim a) (λ(p25a0,p25a1) hp25=>Tr.I (λb5=>Tr.R ?_) λb5=>Tr.I (λb6=>Tr.V λc26 hc26=>Tr.R ?_) λb6=>Tr.R ?_))))))) (λp=>Empty.elim p)) (λp=>Empty.elim p))
  all_goals ((try simp only[fv,fk,ep,dC,LC.lp,LC.ct,Ct.lp,LW.lp,LW.cw,Cw.lp,Tr.nice,kt]at*)<;>grind)⟩
noncomputable def QX:=cI ao jO jJ [(kD 0 mG fv),(kD 4 mj fk),(kD 6 mT ep),(Zt 8 nm dC)] (ks:=[.st .recv,.sc (.int .i64),.sc .str,.sc .bool]) tv (λv=>[(true,Ah (.o true) v)]) Tryz.func314 ⟨HF,Ha,Jo,It,trivial⟩
noncomputable def t5:FT (ac×Unit) (Arpm×Bool) (λx=>sS x.1) (λ_ _=>True):= .mk λ(x0,_)=>
  .ite (decide ((x0.length:Int)<28)) (.ret ((⟨0,0,0,0,0⟩:Arpm),false))<|
  .cal bv.c (x0,6,2,()) λc1=>
  .cal bv.c (x0,8,6,()) λc2=>
  .cal bv.c (x0,14,4,()) λc3=>
  .cal bv.c (x0,18,6,()) λc4=>
  .cal bv.c (x0,24,4,()) λc5=>
  .cal tP.c ((⟨c1.1,c2.1,c3.1,c4.1,c5.1⟩:Arpm),()) λc6=>
  .grd (decide (28<=(x0.length:Int)))<|
  .ite (!(c6==((x0.take 28).drop 0))) (.ret ((⟨0,0,0,0,0⟩:Arpm),false))<|
  .ret ((⟨c1.1,c2.1,c3.1,c4.1,c5.1⟩:Arpm),true)
noncomputable def Sj:=aU st Tryz.func323 [oZ,EG] (ks:=[.sc .str]) t5 (λv=>[(true,NE v.1),(false,[.c (.bool v.2)])])
def wh:Sh:=⟨[zs 2,zp 7 0,zi 8,zi 9],[zx .sipr]⟩
noncomputable def jL (v0:ac)(v1:Int)(a:Int×Sipr):Tr (Stp (Int×Sipr) ((Int×Sipr))):=
 .ite (decide ((IntKind.wrap .i64 (a.1+8))<=v1)) (.grd (O3 v0 a.1 (IntKind.wrap .i64 (a.1+8)))<|
  .cal qN.c (((v0.take ((IntKind.wrap .i64 (a.1+8)).toNat)).drop a.1.toNat),()) λc2=>
  .cal tn.c (a.2,c2,()) λc3=>
  .ret (.next ((IntKind.wrap .i64 (a.1+8)),c3)))<|
 .ret (.out (a.1,a.2))
noncomputable def mz:wh.V->LW wh (Int×Sipr) ((Int×Sipr)):=λ(v0,v1,v2,v3,_)=>⟨(v2,v3),λa=>(v0,v1,a.1,a.2,()),jL v0 v1,Int.toNat (v1-v2),oN (.exit 0) ⟨[zs 2,zu 6,zp 7 0,zi 8,zi 9],[zx .sipr]⟩ (λp=>(v0,v1,p.1,p.2,()))⟩
theorem GT {v0:ac}{v1 v2:Int}{v3:Sipr}(h0:v1=(v0.length:Int))(h1:sS v0)(h2:0<=v2/\v2<=v1):(mz (v0,v1,v2,v3,())).W (λp=>0<=p.1/\p.1<=v0.length):=
 lwW (a:=(v2,v3)) (λa=>0<=a.1/\a.1<=v1) (λa=>Int.toNat (v1-a.1)) h2
noncomputable def yq:FT (Int×Int×ac×Unit) (Int) (λx=>sS x.2.2.1) (λ_ _=>True):= .mk (λ(x0,x1,x2,_)=>
  .val (va.f (x0,x1,())) λc1=>
  .lp (mz (x2,(x2.length:Int),0,c1,())).lp λ(p4a0,p4a1)=>
  .grd (O3 x2 p4a0 (x2.length:Int))<|
  .cal qN.c (((x2.take ((x2.length:Int).toNat)).drop p4a0.toNat),()) λc5=>
  .val (IntKind.wrap .u64 ((IntKind.wrap .u64 ((x2.length:Int).tmod 256))*72057594037927936)) λe6=>
  .cal tn.c (p4a1,(bits .or .u64 c5 e6),()) λc7=>
  .cal BL.c (c7,()) λc8=>
  .ret c8) (np @GT)
noncomputable def PW:=KG st Tryz.func366 [(0,lb [2,7,8,9] [2,6,7,8,9])] [ME,Td,RL,Ti] 0 mz (ks:=[.sc (.int .u64),.sc (.int .u64),.sc .str]) yq (λv=>[(false,[.c (.int .u64 v)])])
def xO:Sh:=⟨[zs 2,zp 7 0,(8,false,[.sl .any .u8])],[zx .sipr]⟩
noncomputable def mq (a:List Int×Sipr):Tr (Stp (List Int×Sipr) ((List Int×Sipr))):=
 .ite (decide (8<=(a.1.length:Int))) (.cal rg.c (a.1,()) λc4=>
  .cal tG.c (a.2,c4,()) λc5=>
  .grd ((decide (8<=(a.1.length:Int)))&&(decide ((a.1.length:Int)<=(a.1.length:Int))))<|
  .ret (.next (((a.1.take ((a.1.length:Int).toNat)).drop 8),c5)))<|
 .ret (.out (a.1,a.2))
noncomputable def md:xO.V->LW xO (List Int×Sipr) ((List Int×Sipr)):=λ(v0,v1,v2,_)=>⟨(v1,v2),λa=>(v0,a.1,a.2,()),mq,v1.length,oN (.exit 0) ⟨[zs 2,zu 6,zp 7 0,(8,false,[.sl .any .u8])],[zx .sipr]⟩ (λp=>(v0,p.1,p.2,()))⟩
theorem J5 {v0:ac}{v1:List Int}{v2:Sipr}(h0:sS v1):(md (v0,v1,v2,())).W (λp=>sS p.1):=
 lwW (a:=(v1,v2)) (λa=>sS a.1) (λa=>a.1.length) h0
noncomputable def nB:FT (Int×Int×ac×Unit) (Int) (λx=>sS x.2.2.1) (λ_ _=>True):= .mk (λ(x0,x1,x2,_)=>
  .val (qA.f (x0,x1,())) λc1=>
  .grd (Nat.ble x2.length aM)<|
  .lp (md (x2,(il x2),c1,())).lp λ(p6a0,p6a1)=>
  .val ((p6a0.take (List.replicate 8 0).length)++(List.replicate 8 0).drop (p6a0.take (List.replicate 8 0).length).length) λl7=>
  .grd (decide (7<(l7.length:Int)))<|
  .cal rg.c ((l7.set 7 (IntKind.wrap .u8 (x2.length:Int))),()) λc8=>
  .cal tG.c (p6a1,c8,()) λc9=>
  .cal sW.c (c9,()) λc10=>
  .ret c10) (np @J5)
noncomputable def Sm:=KG ao Tryz.func367 [(0,la ⟨[2,7,8],[.soft 8 0],false,0⟩ ⟨[2,6,7,8],[],false,0⟩)] [Oy,Uw,Pi,Uv] 0 md (ks:=[.sc (.int .u64),.sc (.int .u64),.sc .str]) nB (λv=>[(false,[.c (.int .u64 v)])])
noncomputable def gf:=[Jj]
def bZ:Sh:=⟨[zl 0 .half,(1,false,[.fn 213 [0]]),zi 7,zi 8],[zx .tupl]⟩
noncomputable def gi:Fx:=⟨212,Tryz.f212,[(0,la ⟨[0,1,7,8],[],false,1⟩ ⟨[4],[],false,1⟩)],1⟩
noncomputable def fw (v0:List Half)(v3:Tupl)(v2:Int)(a:Unit):Tr (Stp (Unit) ((Int))):=
 .grd (ba v0 v2)<|
 .cal uK.c ((v0.getD v2.toNat (Ty.zero .half)),v3,()) λc1=>
 .ite c1 (.ret (.out v2))<|
 .ret (.next ())
noncomputable def aY:bZ.V->nL bZ Unit (Int):=λ(v0,v1,v2,v3,_)=>⟨v2,(),λv2 _=>(v0,v1,v2,v3,()),λv2 _=>(decide (v2<v1)),fw v0 v3,up,1,(Int.toNat (v1-v2)),.inl,eR,oB .ret ⟨[zi 4],[zx .tupl]⟩ (λp=>(p,v3,())) (.exit 0) ⟨[zu 4],[zx .tupl]⟩ (λ_=>(v3,()))⟩
theorem lA:LS Tryz.prog gi [0] (kD 0 bZ aY):=fa st (aW gf) _ aY [] trivial
theorem lz {v0:List Half}{v1 v2:Int}{v3:Tupl}(h0:0<=v2)(h1:v1<=4611686018427387904)(h2:v1<=(v0.length:Int)):(aY (v0,v1,v2,v3,())).U v1 (λ_ _=>True) (λp=>v2<=p/\p<v1):=
 kx h0 h1 trivial
noncomputable def dZ:FT (List Half×Tupl×Unit) (Int) (λx=>wS x.1) (λx v=> -1<=v/\v<x.1.length):= .mk (λ(x0,y1_0,_)=>
  .lp (aY (x0,(x0.length:Int),0,y1_0,())).lp λw2=> .sum w2 (λp2a0=>
  .ret p2a0)<|
  λ_=>
  .ret (-1)) (np @lz)
noncomputable def nq:=oV st gi gf [(kD 0 bZ aY)] [.sc (.sl .half),.fn 213 [0]] [.box [.st .tupl]] (λx y=>(x.1,y.1.1,())) dZ rI (λx y v=>((y.1.1,()),())) Tryz.func212 (by kernel_rfl) ⟨lA,trivial⟩
noncomputable def gh:=[IU]
def cb:Sh:=⟨[zl 0 .conn,(1,false,[.fn 215 [0]]),zi 7,zi 8],[zx .tupl]⟩
noncomputable def ge:Fx:=⟨214,Tryz.f214,[(0,la ⟨[0,1,7,8],[],false,1⟩ ⟨[4],[],false,1⟩)],1⟩
noncomputable def fD (v0:List Conn)(v3:Tupl)(v2:Int)(a:Unit):Tr (Stp (Unit) ((Int))):=
 .grd (ba v0 v2)<|
 .cal ud.c ((v0.getD v2.toNat (Ty.zero .conn)),v3,()) λc1=>
 .ite c1 (.ret (.out v2))<|
 .ret (.next ())
noncomputable def aZ:cb.V->nL cb Unit (Int):=λ(v0,v1,v2,v3,_)=>⟨v2,(),λv2 _=>(v0,v1,v2,v3,()),λv2 _=>(decide (v2<v1)),fD v0 v3,up,1,(Int.toNat (v1-v2)),.inl,eR,oB .ret ⟨[zi 4],[zx .tupl]⟩ (λp=>(p,v3,())) (.exit 0) ⟨[zu 4],[zx .tupl]⟩ (λ_=>(v3,()))⟩
theorem lu:LS Tryz.prog ge [0] (kD 0 cb aZ):=fa st (aW gh) _ aZ [] trivial
theorem lj {v0:List Conn}{v1 v2:Int}{v3:Tupl}(h0:0<=v2)(h1:v1<=4611686018427387904)(h2:v1<=(v0.length:Int)):(aZ (v0,v1,v2,v3,())).U v1 (λ_ _=>True) (λp=>v2<=p/\p<v1):=
 kx h0 h1 trivial
noncomputable def ec:FT (List Conn×Tupl×Unit) (Int) (λx=>wS x.1) (λx v=> -1<=v/\v<x.1.length):= .mk (λ(x0,y1_0,_)=>
  .lp (aZ (x0,(x0.length:Int),0,y1_0,())).lp λw2=> .sum w2 (λp2a0=>
  .ret p2a0)<|
  λ_=>
  .ret (-1)) (np @lj)
noncomputable def nt:=oV st ge gh [(kD 0 cb aZ)] [.sc (.sl .conn),.fn 215 [0]] [.box [.st .tupl]] (λx y=>(x.1,y.1.1,())) ec rI (λx y v=>((y.1.1,()),())) Tryz.func214 (by kernel_rfl) ⟨lu,trivial⟩
noncomputable def yf:FT (Tabl×Tabl×Unit) (Bool) (λx=>ce x.1/\ce x.2.1) (λ_ _=>True):= .mk λ(x0,x1,_)=>
  .cal x6.c (x0.conns,x1.conns,()) λc1=>
  .ite (!c1) (.ret false)<|
  .cal ue.c (x0.waiting,x1.waiting,()) λc2=>
  .ite (!c2) (.ret false)<|
  .ret true
noncomputable def QD:=aU st Tryz.func78 [Sq,M9] (ks:=[.st .tabl,.st .tabl]) yf rB
noncomputable def aO:FT (List Half×Tupl×Unit) (Int) (λx=>wS x.1) (λx v=> -1<=v/\v<x.1.length):= .mk λ(x0,x1,_)=>
  .cal dZ.c (x0,x1,()) λc1=>
  .ret c1
noncomputable def mX:=aU ao Tryz.func112 [nq] (ks:=[.sc (.sl .half),.st .tupl]) aO rI
noncomputable def aH:FT (Tabl×Tupl×Unit) (Int) (λx=>wS x.1.conns) (λx v=> -1<=v/\v<x.1.conns.length):= .mk λ(x0,x1,_)=>
  .cal ec.c (x0.conns,x1,()) λc1=>
  .ret c1
noncomputable def ka:=aU ao Tryz.func113 [nt] (ks:=[.st .tabl,.st .tupl]) aH rI
noncomputable def eC:FT (Tabl×Conn×Unit) (Tabl) (λx=>ce x.1/\ah x.2.1) (λx v=>ce v/\v.conns.length=x.1.conns.length):= .mk λ(x0,x1,_)=>
  .cal ig.c (x0,()) λc1=>
  .cal aH.c (x0,x1.tuple,()) λc2=>
  .ite (decide (0<=c2)) (.cal dI.c (x1,()) λc3=>
   .grd (ba c1.conns c2)<|
   .ret (⟨(c1.conns.set c2.toNat c3),c1.waiting⟩:Tabl))<|
  .ret c1
noncomputable def EK:=aU ao Tryz.func129 [qT,ka,fX] (ks:=[.st .tabl,.st .conn]) eC (λv=>[(true,AE .d (.o true) v)])
noncomputable def n7:FT (List Half×Tupl×Unit) (List Half) (λx=>sS x.1) (λx v=>sS v):= .mk λ(x0,x1,_)=>
  .cal dU.c (x0,()) λc1=>
  .cal aO.c (x0,x1,()) λc2=>
  .ite (decide (0<=c2)) (.cal sR.c (c1,c2,(IntKind.wrap .i64 (c2+1)),()) λc3=>
   .ret (c3.2.take c3.1))<|
  .ret c1
noncomputable def Ce:=aU ao Tryz.func130 [rk,mX,FN] (ks:=[.sc (.sl .half),.st .tupl]) n7 (λv=>[(false,[sc (.o true) .half v])])
def zH:Sh:=⟨[zp 1 0,zi 3],[.box [.st .door [.sl .arg,.sl .arg,.sl .arg,.sl .arg,.sl .arg]]]⟩
noncomputable def zy (v1:Door)(v0:Int)(a:Unit):Tr (Stp (Unit) ((Unit))):=
 .grd (ba v1.halves v0)<|
 .cal fu.c (v1.table,(v1.halves.getD v0.toNat (Ty.zero .half)).tuple,()) λc8=>
 .ite (decide (0<=c8)) (.ret (.out ()))<|
 .ret (.next ())
noncomputable def od:zH.V->nL zH Unit (Unit):=λ(v0,v1,_)=>⟨v0,(),λv0 _=>(v0,v1,()),λv0 _=>(decide (v0<(v1.halves.length:Int))),zy v1,up,1,(Int.toNat ((v1.halves.length:Int)-v0)),.inl,eR,oB .ret ⟨[zb 2],[]⟩ (λ_=>(false,())) (.exit 0) ⟨[zu 2],[]⟩ (λ_=>())⟩
theorem Lg {v0:Int}{v1:Door}(h0:0<=v0)(h1:(v1.halves.length:Int)<=4611686018427387904)(h2:ay v1):(od (v0,v1,())).U (v1.halves.length:Int) (λ_ _=>True) (λ_=>True):=
 kx h0 h1 trivial
noncomputable def tw:FT (Door×Unit) (Bool) (λx=>ay x.1) (λx v=>(v=true->x.1.table.conns.length<=16)):= .mk (λ(x0,_)=>
  .bnd (β:=Bool×Unit) (.as (λw=>(w.1=false->0<=x0.keys.epoch/\x0.keys.epoch<=4294967295/\x0.table.conns.length<=16/\x0.table.waiting.length<=16/\x0.halves.length<=64)) (.cal aA.c (x0.port,16,()) λc1=>
   .ite (!c1) (.ret (true,()))<|
   .cal aA.c (x0.clock,32,()) λc2=>
   .ite (!c2) (.ret (true,()))<|
   .cal wm.c (x0.keys,()) λc3=>
   .ite (!c3) (.ret (true,()))<|
   .cal tA.c (x0.table,x0.limits,()) λc4=>
   .ite (!c4) (.ret (true,()))<|
   .cal nR.c (x0.halves,()) λc5=>
   .ite (!c5) (.ret (true,()))<|
   .ite (decide (x0.limits.halves<(x0.halves.length:Int))) (.ret (true,()))<|
   .val (cm.f (x0.chal,0,x0.limits.chal,())) λc6=>
   .ret ((!c6),()))) λ(u7a0,_)=>
  .ite u7a0 (.ret false)<|
  .lp (od (0,x0,())).lp λw9=> .sum w9 (λ_=>
  .ret false)<|
  λ_=>
  .ret true) (np @Lg)
noncomputable def Ad:=dr st Tryz.func131 [(0,lb [1,3] [2]),(3000001,rA 0 51)] [bN,JA,E5,C9,cu,kp] 0 od (ks:=[.st .door]) tw rB
noncomputable def yb:FT (Stac×Unit) (Bool) (λx=>cL x.1) (λx v=>(v=true->x.1.door.table.conns.length<=16)):= .mk λ(x0,_)=>
  .cal tz.c (x0.link,()) λc1=>
  .ite c1 (.cal tw.c (x0.door,()) λc2=>
   .ret c2)<|
  .ret false
noncomputable def Sk:=aU st Tryz.func140 [A0,Ad] (ks:=[.st .stac]) yb rB
def xy:Sh:=⟨[zi 1,zl 2 .segm,zp 3 0,zo 7 1,zi 8],[.box [.st .stac [.sl .arg,.sl .arg,.sl .arg,.sl .arg,.sl .arg,.sl .arg]],za .str]⟩
noncomputable def xR (v0:Int)(v1:List Segm)(v3:Stac)(v2:Int)(a:List ac):Tr (Stp (List ac) (Empty)):=
 .grd (ba v1 v2)<|
 .cal ol.c ((v1.getD v2.toNat (Ty.zero .segm)),v3.link.ip,v0,()) λc1=>
 .cal ye.c (v3.link,v0,c1,()) λc2=>
 .ite c2.2 (.grd (De a 1 16)<|
  .ret (.next (a++[c2.1])))<|
 .ret (.next a)
noncomputable def jC:xy.V->wa xy (List ac):=λ(v0,v1,v2,v3,v4,_)=>⟨v2,v4,λv2 a=>(v0,v1,v2,v3,a,()),λv2 _=>(decide (v2<(v1.length:Int))),xR v0 v1 v3,up,1,(Int.toNat ((v1.length:Int)-v2)),Empty.elim,Prod.mk,oN (.exit 0) ⟨[zu 6,zo 7 0],[za .str]⟩ (λx=>(x.2,()))⟩
theorem JU {v0 v2:Int}{v1:List Segm}{v3:Stac}{v4:List ac}(h0:0<=v2)(h1:(v1.length:Int)<=4611686018427387904)(h2:sL aw v1)(h3:cL v3)(h4:(v4.length:Int)<=v2/\dP sS v4):(jC (v0,v1,v2,v3,v4,())).U (v1.length:Int) (λv2 a=>(a.length:Int)<=v2/\dP sS a) (λ_=>True):=
 kx (a:=v4) h0 h1 h4
noncomputable def y9:FT (Stac×Int×List Segm×Unit) (List ac) (λx=>cL x.1/\sL aw x.2.2.1) (λx v=>sL sS v/\v.length<=x.2.2.1.length):=⟨λ(x0,x1,x2,_)=>
  .lp (jC (x1,x2,0,x0,[],())).lp λ(_,a3_0)=>
  .ret a3_0,
 λ(x0,x1,x2,_) hp=>by
  refine Tr.L (JU ?_ ?_ ?_ ?_ ?_) (λa3_0 _=>Tr.R ?_) (λp=>Empty.elim p)
  all_goals ((try simp only[jC,LC.lp,LC.ct,Ct.lp]at*)<;>grind)⟩
noncomputable def Pw:=dr st Tryz.func143 [(0,lb [1,2,3,7,8] [6,7])] [FR,O7] 0 jC (ks:=[.st .stac,.sc (.int .i64),.sc (.sl .segm)]) y9 (λv=>[(false,[sc (.o true) .str v])])
noncomputable def UZ:=[zV,KE,AK,XK,SG,Rv,Ny,Sb,zz,Iq]
noncomputable def TB:Fx:=⟨146,Tryz.f146,[(3000003,rA 0 37),(3000008,rA 0 58),(3000016,rA 0 117)],0⟩
noncomputable def bq:FT (Link×ac×Unit) (Link×Int×Pack×ac) (λx=>eA x.1/\sS x.2.1) (λx v=>eA v.1/\uO v.2.2.1/\sS v.2.2.2/\v.2.2.1.body.length<=1500):= .mk λ(x0,x1,_)=>
  .cal lI.c (x0,()) λc1=>
  .cal oO.c (x1,()) λc2=>
  .bnd (β:=Bool×Unit) (.cal eV.c (x0,()) λc3=>
   .ite (!c3) (.ret (true,()))<|
   .ite (!c2.2) (.ret (true,()))<|
   .val (ss.f (c2.1,x0.mac,())) λc4=>
   .ret ((!c4),())) λ(u5a0,_)=>
  .ite u5a0 (.ret (c1,0,(⟨0,0,0,0,0,[]⟩:Pack),[]))<|
  .ite (c2.1.type==2054) (.cal sV.c (c2.1.body,()) λc6=>
   .bnd (β:=Bool×Unit) (.ite (!c6.2) (.ret (true,()))<|
    .ret ((c6.1.dstIp != x0.ip),())) λ(u7a0,_)=>
   .ite u7a0 (.ret (c1,0,(⟨0,0,0,0,0,[]⟩:Pack),[]))<|
   .cal tB.c (x0.cache,c6.1.srcIp,c6.1.srcHw,()) λc8=>
   .cal n6.c (c6.1,x0.mac,x0.ip,()) λc9=>
   .ite c9.2 (.cal j5.c (c9.1,()) λc10=>
    .cal fR.c ((⟨c6.1.srcHw,x0.mac,2054,c10⟩:Fram),()) λc11=>
    .ret (({c1 with cache:=c8}:Link),1,(⟨0,0,0,0,0,[]⟩:Pack),c11))<|
   .ret (({c1 with cache:=c8}:Link),0,(⟨0,0,0,0,0,[]⟩:Pack),[]))<|
  .ite (c2.1.type==2048) (.cal lZ.c (c2.1.body,()) λc12=>
   .bnd (β:=Bool×Unit) (.ite (c12.2 != 0) (.ret (true,()))<|
    .ite (c12.1.dst != x0.ip) (.ret (true,()))<|
    .ite (c12.1.proto != 6) (.ret (true,()))<|
    .ret ((c12.1.src==x0.ip),())) λ(u13a0,_)=>
   .ite u13a0 (.ret (c1,0,(⟨0,0,0,0,0,[]⟩:Pack),[]))<|
   .cal tB.c (x0.cache,c12.1.src,c2.1.src,()) λc14=>
   .ret (({c1 with cache:=c14}:Link),2,c12.1,[]))<|
  .ret (c1,0,(⟨0,0,0,0,0,[]⟩:Pack),[])
noncomputable def UK:=cI ao TB UZ [] (ks:=[.st .link,.sc .str]) bq (λv=>[(true,DQ (.o true) v.1),(false,[.c (.int .i64 v.2.1)]),(true,Hb v.2.2.1),(false,[.c (.str v.2.2.2)])]) Tryz.func146 trivial
def ww:Sh:=⟨[zi 1,zp 3 0,zo 7 1,zl 14 .segm,zi 15,zi 16],[.box [.st .stac [.sl .arg,.sl .arg,.sl .arg,.sl .arg,.sl .arg,.sl .arg]],za .str]⟩
noncomputable def xH (v0:Int)(v1:List Segm)(v4:Stac)(v3:Int)(a:List ac):Tr (Stp (List ac) (Empty)):=
 .grd (ba v1 v3)<|
 .cal cj.c ((v1.getD v3.toNat (Ty.zero .segm)),v4.link.ip,v0,()) λc1=>
 .ite (c1==[]) (.ret (.next a))<|
 .cal i4.c (v4.link,v0,c1,()) λc2=>
 .ite c2.2 (.grd (De a 1 16)<|
  .ret (.next (a++[c2.1])))<|
 .ret (.next a)
noncomputable def jR:ww.V->wa ww (List ac):=λ(v0,v1,v2,v3,v4,v5,_)=>⟨v3,v5,λv3 a=>(v0,v1,v2,v3,v4,a,()),λv3 _=>(decide (v3<v2)),xH v0 v1 v4,up,1,(Int.toNat (v2-v3)),Empty.elim,Prod.mk,oN (.exit 0) ⟨[zu 6,zo 7 0],[za .str]⟩ (λx=>(x.2,()))⟩
theorem GR {v0 v2 v3:Int}{v1:List Segm}{v4:Stac}{v5:List ac}(h0:0<=v3)(h1:v2<=4611686018427387904)(h2:sL aw v1)(h3:cL v4)(h4:v2<=4294967296)(h5:v2<=(v1.length:Int))(h6:(v5.length:Int)<=v3/\dP sS v5):(jR (v0,v1,v2,v3,v4,v5,())).U v2 (λv3 a=>(a.length:Int)<=v3/\dP sS a) (λ_=>True):=
 kx (a:=v5) h0 h1 h6
noncomputable def yP:FT (Stac×Int×List Segm×Unit) (List ac) (λx=>cL x.1/\sL aw x.2.2.1) (λx v=>sL sS v/\v.length<=x.2.2.1.length):=⟨λ(x0,x1,x2,_)=>
  .lp (jR (x1,x2,(x2.length:Int),0,x0,[],())).lp λ(_,a3_0)=>
  .ret a3_0,
 λ(x0,x1,x2,_) hp=>by
  refine Tr.L (GR ?_ ?_ ?_ ?_ ?_ ?_ ?_) (λa3_0 _=>Tr.R ?_) (λp=>Empty.elim p)
  all_goals ((try simp only[jR,LC.lp,LC.ct,Ct.lp]at*)<;>grind)⟩
noncomputable def O9:=dr ao Tryz.func148 [(0,lb [1,3,7,14,15,16] [6,7])] [Gd,PE] 0 jR (ks:=[.st .stac,.sc (.int .i64),.sc (.sl .segm)]) yP (λv=>[(false,[sc (.o true) .str v])])
noncomputable def EJ:=[SL]
def mu:Sh:=⟨[zl 0 .conn,zi 1,zi 5],[]⟩
noncomputable def Eu:Fx:=⟨163,Tryz.f163,[(0,lb [0,1,5] [1,4])],0⟩
noncomputable def ru (v0:List Conn)(v2:Int)(a:Int):Tr (Stp (Int) ((Int))):=
 .grd (ba v0 v2)<|
 .cal em.c ((v0.getD v2.toNat (Ty.zero .conn)),a,()) λc1=>
 .ite (decide (c1<0)) (.ret (.out c1))<|
 .ret (.next c1)
noncomputable def fq:mu.V->nL mu Int (Int):=λ(v0,v1,v2,_)=>⟨v2,v1,λv2 a=>(v0,a,v2,()),λv2 _=>(decide (v2<(v0.length:Int))),ru v0,up,1,(Int.toNat ((v0.length:Int)-v2)),.inl,eR,oB .ret ⟨[zi 1,zi 4],[]⟩ (λp=>(p,(-1),())) (.exit 0) ⟨[zi 1,zu 4],[]⟩ (λx=>(x.2,()))⟩
theorem HS:LS Tryz.prog Eu [0] (kD 0 mu fq):=fa st (aW EJ) _ fq [] trivial
theorem Hu {v0:List Conn}{v1 v2:Int}(h0:0<=v2)(h1:(v0.length:Int)<=4611686018427387904):(fq (v0,v1,v2,())).U (v0.length:Int) (λ_ _=>True) (λ_=>True):=
 kx (a:=v1) h0 h1 trivial
noncomputable def gD:FX (List Conn×Int×Unit) (Int) (λ_=>True) (cG [.sc (.sl .conn),.sc (.int .i64)]):=⟨λ(x0,x1,_)=>
  .ite (decide ((IntKind.wrap .i64 (x1-(x0.length:Int)))<0)) (.ret (-1))<|
  .lp (fq (x0,(IntKind.wrap .i64 (x1-(x0.length:Int))),0,())).lp λw2=> .sum w2 (λ_=>
  .ret (-1))<|
  λ(_,a2_0)=>
  .ret a2_0,
 λ(x0,x1,_) hp hf=>by
  simp only[cG,Pk.fact,jT,gy,Fl.fact,Ty.fl,Ty.toH]at hf
  refine Tr.I (λ_=>Tr.R trivial) λ_=>Tr.L (Hu ?_ ?_) (λa2_0 _=>Tr.Sr (Tr.R trivial)) (λp2a0 _=>Tr.Sl (Tr.R trivial))
  all_goals ((try simp only[fq,LC.lp,LC.ct,Ct.lp]at*)<;>grind)⟩
theorem L8 (xs:List Conn)(k:Int)(h0:0<=k)(h1:k<=1048576)(hl:xs.length<=140737488355328)(he:EV .conn xs)(h:0<=gD.f (xs,k,())):gD.f (xs,k,())<=k/\xs.length<=1048576/\dP ah xs:=by
 have w:IntKind.wrap .i64 (k-(xs.length:Int))=k-(xs.length:Int):=aj (by omega) (by omega)
 simp only[FX.f,PX,gD,fq,w,av]at h|-
 by_cases c:k-(xs.length:Int)<0
 ·rw[decide_eq_true c,cond_true]at h;omega
 rw[decide_eq_false c,cond_false]at h|-
 have hf:∀(j:Nat) x a,xs[j]? =some x->(ru xs (j:Int) a).nice=(bif decide (em.f (x,a,())<0)then Stp.out (em.f (x,a,()))else Stp.next (em.f (x,a,()))):=λj x a hx=>by
  simp only[PX,ru,aa,getD_some hx]
 rw[bA xs _ rfl (F:=λ_ x a=>(bif decide (em.f (x,a,())<0)then Stp.out (em.f (x,a,()))else Stp.next (em.f (x,a,())))) hf]at h|-
 cases hn:eT (λ_ x a=>(bif decide (em.f (x,a,())<0)then Stp.out (em.f (x,a,()))else Stp.next (em.f (x,a,())))) 0 xs (k-(xs.length:Int))with
 |out p=>rw[hn]at h;simp only[Stp.elim]at h;omega
 |next b=>
  obtain⟨h2,h3⟩:=Gr (λx a=>em.f (x,a,())) ah xs 0 _ b (λx hx k h0 h1 h=>Y7 x k h0 h1 (he x hx) h) (by omega) (by omega) hn
  simp only[Stp.elim]
  exact⟨by omega,by omega,h3⟩
noncomputable def QA:=YH st Eu EJ [(kD 0 mu fq)] (ks:=[.sc (.sl .conn),.sc (.int .i64)]) gD rI Tryz.func163 ⟨HS,trivial⟩
def xP:Sh:=⟨[zl 0 .conn,(3,false,[.down 0]),zi 4],[.dar .conn]⟩
noncomputable def wJ (v0:List Conn)(v1:Int)(a:List Conn):Tr (Stp (List Conn) (Empty)):=
 .grd (ba v0 v1)<|
 .cal BT.c ((v0.getD v1.toNat (Ty.zero .conn)),()) λc2=>
 .grd (ba a v1)<|
 .ret (.next (a.set v1.toNat c2))
noncomputable def jB:xP.V->wa xP (List Conn):=λ(v0,v1,v2,_)=>⟨v1,v2,λv1 a=>(v0,v1,a,()),λv1 _=>(decide (v1<(v0.length:Int))),wJ v0,up,1,(Int.toNat ((v0.length:Int)-v1)),Empty.elim,Prod.mk,oN (.exit 0) ⟨[zu 2,(3,false,[.down 0])],[.dar .conn]⟩ (λx=>(x.2,()))⟩
theorem Jz {v0 v2:List Conn}{v1:Int}(h0:0<=v1)(h1:(v0.length:Int)<=4611686018427387904)(h2:sL ah v0)(h3:sL ah v2)(h4:v2.length=v2.length/\dP ah v2/\(v0.length:Int)<=(v2.length:Int)):(jB (v0,v1,v2,())).U (v0.length:Int) (λv1 a=>a.length=v2.length/\dP ah a/\(v0.length:Int)<=(a.length:Int)) (λ_=>True):=
 kx (a:=v2) h0 h1 h4
noncomputable def yd:FT (List Conn×Unit) (List Conn) (λx=>sL ah x.1) (λx v=>sL ah v):=⟨λ(x0,_)=>
  .grd ((((decide (0<=(x0.length:Int)))&&(decide ((x0.length:Int)=(x0.length:Int))))&&(decide ((x0.length:Int)*208<=(aM:Int))))&&(decide ((x0.length:Int)<=(aM:Int))))<|
  .val (List.replicate ((x0.length:Int).toNat) (⟨⟨0,0,0⟩,0,⟨0,[],0,false,false,false⟩,⟨0,[],[],0,false⟩,0,0,⟨0,0,false,false,0,0⟩,0,0⟩:Conn)) λl1=>
  .lp (jB (x0,0,l1,())).lp λ(_,a3_0)=>
  .ret a3_0,
 λ(x0,_) hp=>by
  refine Tr.G4 ?_ λ_=>Tr.V λ_ _=>Tr.L (Jz ?_ ?_ ?_ ?_ ?_) (λa3_0 _=>Tr.R ?_) (λp=>Empty.elim p)
  all_goals ((try simp only[jB,LC.lp,LC.ct,Ct.lp]at*)<;>grind)⟩
noncomputable def Pr:=dr ao Tryz.func172 [(0,lb [0,3,4] [2,3])] [UN] 0 jB (ks:=[.sc (.sl .conn)]) yd (λv=>[(false,[sc .d .conn v])])
noncomputable def xo:=[OB,ul,ka,Gj]
def mO:Sh:=⟨[zp 2 0,zl 29 .conn,zi 30,zi 31],[.box [.st .tabl [.sl .arg,.sl .arg]]]⟩
def m5:Sh:=⟨[zp 2 0,zl 49 .tupl,zi 50,zi 51],[.box [.st .tabl [.sl .arg,.sl .arg]]]⟩
noncomputable def xF:Fx:=⟨204,Tryz.f204,[(0,lb [2,29,30,31] [2,4]),(2,lb [2,49,50,51] [4]),(3000001,rA 0 27)],0⟩
noncomputable def ev (v0:List Conn)(v3:Tabl)(v2:Int)(a:Unit):Tr (Stp (Unit) ((Unit))):=
 .grd (ba v0 v2)<|
 .cal bR.c ((v0.getD v2.toNat (Ty.zero .conn)),()) λc3=>
 .ite (!c3) (.ret (.out ()))<|
 .cal aH.c (v3,(v0.getD v2.toNat (Ty.zero .conn)).tuple,()) λc4=>
 .ite (c4 != v2) (.ret (.out ()))<|
 .ret (.next ())
noncomputable def fe:mO.V->nL mO Unit (Unit):=λ(v0,v1,v2,v3,_)=>⟨v2,(),λv2 _=>(v0,v1,v2,v3,()),λv2 _=>(decide (v2<v1)),ev v0 v3,up,1,(Int.toNat (v1-v2)),.inl,eR,oB .ret ⟨[zp 2 0,zb 4],[.box [.st .tabl [.sl .arg,.sl .arg]]]⟩ (λ_=>(false,v3,())) (.exit 0) ⟨[zp 2 0,zu 4],[.box [.st .tabl [.sl .arg,.sl .arg]]]⟩ (λ_=>(v3,()))⟩
theorem HA:LS Tryz.prog xF [0] (kD 0 mO fe):=fa ao (aW xo) _ fe [] trivial
theorem Ic {v0:List Conn}{v1 v2:Int}{v3:Tabl}(h0:0<=v2)(h1:v1<=4611686018427387904)(h2:sL ah v0)(h3:ce v3)(h4:v1<=(v0.length:Int)):(fe (v0,v1,v2,v3,())).U v1 (λ_ _=>True) (λ_=>True):=
 kx h0 h1 trivial
noncomputable def eq (v0:List Tupl)(v3:Tabl)(v2:Int)(a:Unit):Tr (Stp (Unit) ((Unit))):=
 .grd (ba v0 v2)<|
 .cal aH.c (v3,(v0.getD v2.toNat (Ty.zero .tupl)),()) λc6=>
 .ite (decide (c6<0)) (.ret (.out ()))<|
 .cal oy.c (v3.waiting,(v0.getD v2.toNat (Ty.zero .tupl)),()) λc7=>
 .ite (c7 != v2) (.ret (.out ()))<|
 .ret (.next ())
noncomputable def fh:m5.V->nL m5 Unit (Unit):=λ(v0,v1,v2,v3,_)=>⟨v2,(),λv2 _=>(v0,v1,v2,v3,()),λv2 _=>(decide (v2<v1)),eq v0 v3,up,1,(Int.toNat (v1-v2)),.inl,eR,oB .ret ⟨[zb 4],[]⟩ (λ_=>(false,())) (.exit 2) ⟨[zu 4],[]⟩ (λ_=>())⟩
theorem Hj:LS Tryz.prog xF [1] (kD 2 m5 fh):=fa ao (aW xo) _ fh [] trivial
theorem qZ {v0:List Tupl}{v1 v2:Int}{v3:Tabl}(h0:0<=v2)(h1:v1<=4611686018427387904)(h2:sS v0)(h3:ce v3)(h4:v1<=(v0.length:Int)):(fh (v0,v1,v2,v3,())).U v1 (λ_ _=>True) (λ_=>True):=
 kx h0 h1 trivial
noncomputable def dk:FT (Tabl×Limi×Unit) (Bool) (λx=>wS x.1.conns/\dP ah x.1.conns/\wS x.1.waiting) (λx v=>(v=true->x.1.conns.length<=16/\x.1.waiting.length<=16)):= .mk (λ(x0,x1,_)=>
  .bnd (β:=Bool×Unit) (.as (λw=>(w.1=false->x1.halves<=64/\x1.waiting<=16/\x1.conns<=16)) (.cal ff.c (x1,()) λc1=>
   .ite (!c1) (.ret (true,()))<|
   .ite (decide (x1.conns<(x0.conns.length:Int))) (.ret (true,()))<|
   .ret ((decide (x1.waiting<(x0.waiting.length:Int))),()))) λ(u2a0,_)=>
  .ite u2a0 (.ret false)<|
  .lp (fe (x0.conns,(x0.conns.length:Int),0,x0,())).lp λw5=> .sum w5 (λ_=>
  .ret false)<|
  λ_=>
  .lp (fh (x0.waiting,(x0.waiting.length:Int),0,x0,())).lp λw8=> .sum w8 (λ_=>
  .ret false)<|
  λ_=>
  .ret true) (sk4 @Ic @qZ @qZ @qZ)
noncomputable def EP:=cI ao xF xo [(kD 0 mO fe),(kD 2 m5 fh)] (ks:=[.st .tabl,.st .limi]) dk rB Tryz.func204 ⟨HA,Hj,trivial⟩
def vr:Sh:=⟨[zl 0 .half,zl 8 .half,zi 9,zi 10],[]⟩
noncomputable def pf (v0 v1:List Half)(v3:Int)(a:Unit):Tr (Stp (Unit) ((Unit))):=
 .grd (ba v1 v3)<|
 .cal aG.c ((v1.getD v3.toNat (Ty.zero .half)).tuple,()) λc1=>
 .ite (!c1) (.ret (.out ()))<|
 .cal ae.c ((v1.getD v3.toNat (Ty.zero .half)).iss,32,()) λc2=>
 .ite (!c2) (.ret (.out ()))<|
 .cal ae.c ((v1.getD v3.toNat (Ty.zero .half)).irs,32,()) λc3=>
 .ite (!c3) (.ret (.out ()))<|
 .cal ae.c ((v1.getD v3.toNat (Ty.zero .half)).window,16,()) λc4=>
 .ite (!c4) (.ret (.out ()))<|
 .cal aF.c ((v1.getD v3.toNat (Ty.zero .half)).opts,()) λc5=>
 .ite (!c5) (.ret (.out ()))<|
 .val (a9.f ((v1.getD v3.toNat (Ty.zero .half)).age,0,6,())) λc6=>
 .ite (!c6) (.ret (.out ()))<|
 .cal aO.c (v0,(v1.getD v3.toNat (Ty.zero .half)).tuple,()) λc7=>
 .ite (c7 != v3) (.ret (.out ()))<|
 .ret (.next ())
noncomputable def kY:vr.V->nL vr Unit (Unit):=λ(v0,v1,v2,v3,_)=>⟨v3,(),λv3 _=>(v0,v1,v2,v3,()),λv3 _=>(decide (v3<v2)),pf v0 v1,up,1,(Int.toNat (v2-v3)),.inl,eR,oB .ret ⟨[zb 2],[]⟩ (λ_=>(false,())) (.exit 0) ⟨[zu 2],[]⟩ (λ_=>())⟩
theorem FA {v0 v1:List Half}{v2 v3:Int}(h0:0<=v3)(h1:v2<=4611686018427387904)(h2:wS v0)(h3:v2<=(v1.length:Int)):(kY (v0,v1,v2,v3,())).U v2 (λ_ _=>True) (λ_=>True):=
 kx h0 h1 trivial
noncomputable def eL:FT (List Half×Unit) (Bool) (λx=>wS x.1) (λx v=>(v=true->x.1.length<=64)):= .mk (λ(x0,_)=>
  .ite (decide (64<(x0.length:Int))) (.ret false)<|
  .lp (kY (x0,x0,(x0.length:Int),0,())).lp λw8=> .sum w8 (λ_=>
  .ret false)<|
  λ_=>
  .ret true) (np @FA)
noncomputable def B6:=dr ao Tryz.func205 [(0,lb [0,8,9,10] [2])] [oU,bI,kG,bu,mX] 0 kY (ks:=[.sc (.sl .half)]) eL rB
noncomputable def yR:FT (Tabl×Conn×Limi×Unit) (Tabl×Bool) (λx=>ce x.1/\ah x.2.1) (λx v=>ce v.1/\v.1.conns.length<=max x.1.conns.length 16/\v.1.waiting.length<=max x.1.waiting.length 16):= .mk λ(x0,x1,x2,_)=>
  .cal n9.c (x0,()) λc1=>
  .cal gt.c (x1,()) λc2=>
  .grd (De c1.conns 1 208)<|
  .grd (De c1.waiting 1 24)<|
  .cal tA.c ((⟨(c1.conns++[c2]),(c1.waiting++[x1.tuple])⟩:Tabl),x2,()) λc3=>
  .ite (!c3) (.cal n9.c (x0,()) λc4=>
   .ret (c4,false))<|
  .ret ((⟨(c1.conns++[c2]),(c1.waiting++[x1.tuple])⟩:Tabl),true)
noncomputable def QM:=aU st Tryz.func218 [wH,jQ,E5] (ks:=[.st .tabl,.st .conn,.st .limi]) yR (λv=>[(true,AE (.o true) (.o true) v.1),(false,[.c (.bool v.2)])])
noncomputable def Sz:=[jQ,EB,yW,Lx,W0,Yq,rx]
def pk:An:=⟨⟨[],[],false,0⟩,⟨[2,3,4,5,6,7,8,9],[],false,0⟩,⟨[],[]⟩,[(.normal,⟨[zp 2 0,zp 3 1,zp 4 2,(5,false,[.nil]),zi 6,zp 7 3,zo 8 4,zi 9],[zg .conn,zx .segm,.box [.st .conn [.nil .piec]],zk .conn 5,za .segm,zf]⟩)]⟩
noncomputable def PC:Fx:=⟨219,Tryz.f219,[(1000046,pk),(3000014,rA 0 46),(3000022,rA 0 78)],0⟩
noncomputable def tV:FT (Conn×Segm×Unit) (Conn×List Segm×Int) (λx=>ah x.1/\aw x.2.1) (λx v=>ah v.1/\sL aw v.2.1):= .mk λ(x0,x1,_)=>
  .cal gt.c (x0,()) λc1=>
  .cal td.c (x0,x1,()) λc2=>
  .ite (c2==1) (.ret (c1,[],c2))<|
  .ite (c2==2) (.ret (({c1 with state:=8,timer:=0,tries:=0}:Conn),[],c2))<|
  .ite (c2==3) (.ite (c2==3) (.bnd (β:=Bool×Unit) (.ite (c2==4) (.ite (x0.state==7) (.val (gg.f (x1,1,())) λc3=>
       .ret (c3,()))<|
      .ret (false,()))<|
     .ret (false,())) λ(u4a0,_)=>
    .bnd (β:=WT pk.es) (.as (λw=>ah w.2.2.1/\aw w.2.2.2.1/\ah w.2.2.2.2.1/\ah w.2.2.2.2.2.1/\sL aw w.2.2.2.2.2.2.1) (.ite u4a0 (.ret (0,c2,x0,x1,(⟨⟨0,0,0⟩,0,⟨0,[],0,false,false,false⟩,⟨0,[],[],0,false⟩,0,0,⟨0,0,false,false,0,0⟩,0,0⟩:Conn),({c1 with timer:=4}:Conn),[],()))<|
     .ret (0,c2,x0,x1,(⟨⟨0,0,0⟩,0,⟨0,[],0,false,false,false⟩,⟨0,[],[],0,false⟩,0,0,⟨0,0,false,false,0,0⟩,0,0⟩:Conn),c1,[],()))) λ(_,u5a1,u5a2,_,_,u5a5,_,_)=>
    .cal nb.c (u5a2,()) λc6=>
    .ret (u5a5,[c6],u5a1))<|
   .cal B8.c (x0,x1,()) λc7=>
   .ite (c7.state==8) (.ret (c7,[],c2))<|
   .cal nb.c (c7,()) λc8=>
   .cal sI.c (c7,c7.window,()) λc9=>
   .bnd (β:=Bool×Unit) (.cal gZ.c (x1,()) λc10=>
    .ite (decide (0<c10)) (.ret (((c9.2.length:Int)==0),()))<|
    .ret (false,())) λ(u11a0,_)=>
   .ite u11a0 (.grd (De c9.2 1 104)<|
    .ret (c9.1,(c9.2++[c8]),c2))<|
   .ret (c9.1,c9.2,c2))<|
  .ite (c2==4) (.bnd (β:=Bool×Unit) (.ite (c2==4) (.ite (x0.state==7) (.val (gg.f (x1,1,())) λc12=>
      .ret (c12,()))<|
     .ret (false,()))<|
    .ret (false,())) λ(u13a0,_)=>
   .bnd (β:=WT pk.es) (.as (λw=>ah w.2.2.1/\aw w.2.2.2.1/\ah w.2.2.2.2.1/\ah w.2.2.2.2.2.1/\sL aw w.2.2.2.2.2.2.1) (.ite u13a0 (.ret (0,c2,x0,x1,(⟨⟨0,0,0⟩,0,⟨0,[],0,false,false,false⟩,⟨0,[],[],0,false⟩,0,0,⟨0,0,false,false,0,0⟩,0,0⟩:Conn),({c1 with timer:=4}:Conn),[],()))<|
    .ret (0,c2,x0,x1,(⟨⟨0,0,0⟩,0,⟨0,[],0,false,false,false⟩,⟨0,[],[],0,false⟩,0,0,⟨0,0,false,false,0,0⟩,0,0⟩:Conn),c1,[],()))) λ(_,u14a1,u14a2,_,_,u14a5,_,_)=>
   .cal nb.c (u14a2,()) λc15=>
   .ret (u14a5,[c15],u14a1))<|
  .cal B8.c (x0,x1,()) λc16=>
  .ite (c16.state==8) (.ret (c16,[],c2))<|
  .cal nb.c (c16,()) λc17=>
  .cal sI.c (c16,c16.window,()) λc18=>
  .bnd (β:=Bool×Unit) (.cal gZ.c (x1,()) λc19=>
   .ite (decide (0<c19)) (.ret (((c18.2.length:Int)==0),()))<|
   .ret (false,())) λ(u20a0,_)=>
  .ite u20a0 (.grd (De c18.2 1 104)<|
   .ret (c18.1,(c18.2++[c17]),c2))<|
  .ret (c18.1,c18.2,c2)
noncomputable def Em:=cI st PC Sz [] (ks:=[.st .conn,.st .segm]) tV (λv=>[(true,nJ (.o true) v.1),(false,[sc (.o true) .segm v.2.1]),(false,[.c (.int .i64 v.2.2)])]) Tryz.func219 trivial
noncomputable def XI:=[E4,fX,Wp,He,qI,yo,QX,UF]
def zN:An:=⟨⟨[],[],false,0⟩,⟨[2,3,4,5],[],false,0⟩,⟨[],[]⟩,[(.normal,⟨[zp 2 0,zp 3 1,zp 4 2,zp 5 3],[zg .conn,zx .segm,.box [.st .conn [.nil .piec]],zk .conn 4,zf]⟩)]⟩
noncomputable def Xa:Fx:=⟨239,Tryz.f239,[(1000024,zN),(3000009,rA 0 54),(3000014,rA 0 73)],0⟩
noncomputable def B5:FT (Conn×Segm×Unit) (Conn) (λx=>ah x.1/\aw x.2.1) (λx v=>ah v):= .mk λ(x0,x1,_)=>
  .cal tj.c (x0,x1,()) λc1=>
  .ite (c1 != 5) (.cal dI.c (x0,()) λc2=>
   .ret c2)<|
  .cal dI.c (x0,()) λc3=>
  .cal Gu.c (x0.s,x1.ack,()) λc4=>
  .bnd (β:=WT zN.es) (.as (λw=>ah w.1/\aw w.2.1/\ah w.2.2.1/\ah w.2.2.2.1) (.ite c4.2 (.cal wC.c (x1.window,x0.opts,()) λc5=>
    .bnd (β:=Bool×Unit) (.ite (c4.1.una != x0.s.una) (.ret ((x0.state != 7),()))<|
     .cal cY.c (c4.1,()) λc6=>
     .ite (c6==0) (.ret ((x0.state != 7),()))<|
     .ret (false,())) λ(u7a0,_)=>
    .ite u7a0 (.cal cY.c (c4.1,()) λc8=>
     .ite (decide (0<c8)) (.ret (x0,x1,(⟨⟨0,0,0⟩,0,⟨0,[],0,false,false,false⟩,⟨0,[],[],0,false⟩,0,0,⟨0,0,false,false,0,0⟩,0,0⟩:Conn),(⟨c3.tuple,c3.state,c4.1,c3.r,c5,(if c3.most<c5 then c5 else c3.most),c3.opts,3,0⟩:Conn),()))<|
     .ret (x0,x1,(⟨⟨0,0,0⟩,0,⟨0,[],0,false,false,false⟩,⟨0,[],[],0,false⟩,0,0,⟨0,0,false,false,0,0⟩,0,0⟩:Conn),(⟨c3.tuple,c3.state,c4.1,c3.r,c5,(if c3.most<c5 then c5 else c3.most),c3.opts,0,0⟩:Conn),()))<|
    .ret (x0,x1,(⟨⟨0,0,0⟩,0,⟨0,[],0,false,false,false⟩,⟨0,[],[],0,false⟩,0,0,⟨0,0,false,false,0,0⟩,0,0⟩:Conn),(⟨c3.tuple,c3.state,c4.1,c3.r,c5,(if c3.most<c5 then c5 else c3.most),c3.opts,c3.timer,c3.tries⟩:Conn),()))<|
   .ret (x0,x1,(⟨⟨0,0,0⟩,0,⟨0,[],0,false,false,false⟩,⟨0,[],[],0,false⟩,0,0,⟨0,0,false,false,0,0⟩,0,0⟩:Conn),c3,()))) λ(u9a0,u9a1,_,u9a3,_)=>
  .bnd (β:=Bool×Unit) (.ite (u9a0.state==1) (.ret (true,()))<|
   .ite (u9a0.state==2) (.ret (true,()))<|
   .ret ((u9a0.state==3),())) λ(u10a0,_)=>
  .ite u10a0 (.val (bm.f (u9a1,1,())) λc11=>
   .cal tv.c (u9a0.r,u9a1.seq,u9a1.body,c11,()) λc12=>
   .cal qx.c (({u9a3 with r.next:=c12.next,r.data:=c12.data,r.held:=c12.held,r.fin:=c12.fin,r.done:=c12.done}:Conn),()) λc13=>
   .ret c13)<|
  .cal qx.c (u9a3,()) λc14=>
  .ret c14
noncomputable def Xl:=cI ao Xa XI [] (ks:=[.st .conn,.st .segm]) B5 (λv=>[(true,nJ (.o true) v)]) Tryz.func239 trivial
noncomputable def TN:=[Sj,E3,NG,EG,sN]
noncomputable def SM:Fx:=⟨248,Tryz.f248,[(3000002,rA 0 26),(4000000,la ⟨[],[],false,0⟩ ⟨[],[.softb 4 2],false,0⟩)],0⟩
noncomputable def JL:FT (Link×Fram×Unit) (Link×Int×Pack×ac) (λx=>eA x.1/\CP x.2.1) (λx v=>eA v.1/\uO v.2.2.1/\sS v.2.2.2/\v.2.2.1.body.length<=1500):= .mk λ(x0,x1,_)=>
  .cal t5.c (x1.body,()) λc1=>
  .bnd (β:=Bool×Unit) (.ite (!c1.2) (.ret (true,()))<|
   .ret ((c1.1.dstIp != x0.ip),())) λ(u2a0,_)=>
  .ite u2a0 (.ret (x0,0,(⟨0,0,0,0,0,[]⟩:Pack),[]))<|
  .cal tH.c (x0.cache,c1.1.srcIp,c1.1.srcHw,()) λc3=>
  .cal ux.c (c1.1,x0.mac,x0.ip,()) λc4=>
  .ite (!c4.2) (.ret (({x0 with cache:=c3}:Link),0,(⟨0,0,0,0,0,[]⟩:Pack),[]))<|
  .cal tP.c (c4.1,()) λc5=>
  .cal lP.c ((⟨c1.1.srcHw,x0.mac,2054,c5⟩:Fram),()) λc6=>
  .ret (({x0 with cache:=c3}:Link),1,(⟨0,0,0,0,0,[]⟩:Pack),c6)
noncomputable def U7:=cI st SM TN [] (ks:=[.st .link,.st .fram]) JL (λv=>[(true,DQ .c v.1),(false,[.c (.int .i64 v.2.1)]),(true,Hb v.2.2.1),(false,[.c (.str v.2.2.2)])]) Tryz.func248 trivial
def Bq:Sh:=⟨[zs 1,zp 2 0,zi 5],[zg .mac]⟩
noncomputable def uU (v0:ac)(v2:Mac)(v1:Int)(a:Unit):Tr (Stp (Unit) ((Int))):=
 .grd (ba v2.rows v1)<|
 .ite ((v2.rows.getD v1.toNat (Ty.zero .macRow)).input==v0) (.grd (ba v2.rows v1)<|
  .ite (decide ((((v2.rows.getD v1.toNat (Ty.zero .macRow)).value).tmod 16777216)<0)) (.val (IntKind.wrap .i64 ((((v2.rows.getD v1.toNat (Ty.zero .macRow)).value).tmod 16777216)+16777216)) λe2=>
   .ret (.out e2))<|
  .ret (.out (((v2.rows.getD v1.toNat (Ty.zero .macRow)).value).tmod 16777216)))<|
 .ret (.next ())
noncomputable def pQ:Bq.V->nL Bq Unit (Int):=λ(v0,v1,v2,_)=>⟨v1,(),λv1 _=>(v0,v1,v2,()),λv1 _=>(decide (v1<(v2.rows.length:Int))),uU v0 v2,up,1,(Int.toNat ((v2.rows.length:Int)-v1)),.inl,eR,oB .ret ⟨[zi 4],[]⟩ (λp=>(p,())) (.exit 0) ⟨[zu 4],[]⟩ (λ_=>())⟩
theorem OX {v0:ac}{v1:Int}{v2:Mac}(h0:0<=v1)(h1:(v2.rows.length:Int)<=4611686018427387904):(pQ (v0,v1,v2,())).U (v2.rows.length:Int) (λ_ _=>True) (λ_=>True):=
 kx h0 h1 trivial
noncomputable def GG:FT (Mac×ac×Unit) (Int) (λx=>cN x.1/\sS x.2.1) (λ_ _=>True):= .mk (λ(x0,x1,_)=>
  .ite (!x0.use) (.cal yq.c (x0.k,x0.l,x1,()) λc1=>
   .ret (IntKind.wrap .i64 (c1.tmod 16777216)))<|
  .lp (pQ (x1,0,x0,())).lp λw3=> .sum w3 (λp3a0=>
  .ret p3a0)<|
  λ_=>
  .ret 0) (np @OX)
noncomputable def WM:=dr st Tryz.func304 [(0,lb [1,2,5] [4])] [PW] 0 pQ (ks:=[.st .mac,.sc .str]) GG rI
def Bi:Sh:=⟨[zs 1,zl 19 .macRow,zi 20,zi 21],[]⟩
noncomputable def kf (v0:ac)(v1:List MacRow)(v3:Int)(a:Unit):Tr (Stp (Unit) ((Int))):=
 .grd (ba v1 v3)<|
 .ite ((v1.getD v3.toNat (Ty.zero .macRow)).input==v0) (.val (IntKind.wrap .i64 ((((v1.getD v3.toNat (Ty.zero .macRow)).value).tmod 16777216)+16777216)) λe2=>
  .ret (.out (e2.tmod 16777216)))<|
 .ret (.next ())
noncomputable def mV:Bi.V->nL Bi Unit (Int):=λ(v0,v1,v2,v3,_)=>⟨v3,(),λv3 _=>(v0,v1,v2,v3,()),λv3 _=>(decide (v3<v2)),kf v0 v1,up,1,(Int.toNat (v2-v3)),.inl,eR,oB .ret ⟨[zi 4],[]⟩ (λp=>(p,())) (.exit 0) ⟨[zu 4],[]⟩ (λ_=>())⟩
theorem OL {v0:ac}{v1:List MacRow}{v2 v3:Int}(h0:0<=v3)(h1:v2<=4611686018427387904)(h2:v2<=(v1.length:Int)):(mV (v0,v1,v2,v3,())).U v2 (λ_ _=>True) (λ_=>True):=
 kx h0 h1 trivial
noncomputable def pD:FT (Mac×ac×Unit) (Int) (λx=>cN x.1/\sS x.2.1) (λ_ _=>True):= .mk (λ(x0,x1,_)=>
  .ite (!x0.use) (.cal nB.c (x0.k,x0.l,x1,()) λc1=>
   .ret (IntKind.wrap .i64 (c1.tmod 16777216)))<|
  .lp (mV (x1,x0.rows,(x0.rows.length:Int),0,())).lp λw3=> .sum w3 (λp3a0=>
  .ret p3a0)<|
  λ_=>
  .ret 0) (np @OL)
noncomputable def W9:=dr ao Tryz.func306 [(0,lb [1,19,20,21] [4])] [Sm] 0 mV (ks:=[.st .mac,.sc .str]) pD rI
noncomputable def Cl:FT (Door×Door×Unit) (Bool) (λx=>ay x.1/\ay x.2.1) (λ_ _=>True):= .mk λ(x0,x1,_)=>
  .ite (x0.port != x1.port) (.ret false)<|
  .ite (x0.clock != x1.clock) (.ret false)<|
  .cal Bt.c (x0.keys,x1.keys,()) λc1=>
  .ite (!c1) (.ret false)<|
  .val (uA.f (x0.limits,x1.limits,())) λc2=>
  .ite (!c2) (.ret false)<|
  .cal y6.c (x0.halves,x1.halves,()) λc3=>
  .ite (!c3) (.ret false)<|
  .cal yf.c (x0.table,x1.table,()) λc4=>
  .ite (!c4) (.ret false)<|
  .ite (x0.chal != x1.chal) (.ret false)<|
  .ret true
noncomputable def Th:=aU st Tryz.func16 [Tg,Nn,Pl,QD] (ks:=[.st .door,.st .door]) Cl rB
noncomputable def nQ:FT (Stac×Stac×Unit) (Bool) (λx=>cL x.1/\cL x.2.1) (λ_ _=>True):= .mk λ(x0,x1,_)=>
  .cal BI.c (x0.link,x1.link,()) λc1=>
  .ite (!c1) (.ret false)<|
  .cal Cl.c (x0.door,x1.door,()) λc2=>
  .ite (!c2) (.ret false)<|
  .ret true
noncomputable def Qn:=aU st Tryz.func28 [TU,Th] (ks:=[.st .stac,.st .stac]) nQ rB
noncomputable def dF:FX (Tabl×Int×Unit) (Int) (λ_=>True) (cG [.st .tabl,.sc (.int .i64)]):=⟨λ(x0,x1,_)=>
  .cal gD.c (x0.conns,x1,()) λc1=>
  .ite (decide (c1<0)) (.ret (-1))<|
  .cal iJ.c (x0.waiting,c1,()) λc2=>
  .ite (decide (c2<0)) (.ret (-1))<|
  .ret c2,
 λ(x0,x1,_) hp hf=>by
  simp only[cG,Pk.fact,jT,gy,Fl.fact,Ty.fl,Ty.toH]at hf
  refine Tr.C trivial λ_ _ _=>Tr.I (λ_=>Tr.R trivial) λ_=>Tr.C trivial λ_ _ _=>Tr.F (by kernel_rfl) trivial⟩
theorem Xj (x:Tabl)(k:Int)(h0:0<=k)(h1:k<=1048576)(hl:x.conns.length<=140737488355328)(he:EV .conn x.conns)(hw:x.waiting.length<=140737488355328)(h:0<=dF.f (x,k,())):dF.f (x,k,())<=k/\ce x:=by
 have e:dF.f (x,k,())=(bif decide (gD.f (x.conns,k,())<0)then-1 else(bif decide (iJ.f (x.waiting,gD.f (x.conns,k,()),())<0)then-1 else iJ.f (x.waiting,gD.f (x.conns,k,()),()))):=by first|(simp only[FX.f,PX,dF];done)|(simp only[FX.f,PX,dF];rfl)
 rw[e]at h|-
 obtain⟨p0,e0⟩:=kA h
 rw[e0]at h|-
 obtain⟨p1,e1⟩:=kA h
 rw[e1]at h|-
 have b0:=L8 _ _ h0 (by omega) hl he p0
 have b1:=Ia _ _ p0 (by omega) hw p1
 refine⟨by omega, ?_⟩
 unfold ce
 exact⟨by omega,b0.2.2,by omega⟩
theorem XG (x:Tabl)(k:Int)(h0:0<=k)(h1:k<=1048576)(hl:x.conns.length<=140737488355328)(he:EV .conn x.conns)(hw:x.waiting.length<=140737488355328)(h:0<=dF.f (x,k,())):dF.f (x,k,())<=k/\x.conns.length<=1048576:=by
 have e:dF.f (x,k,())=(bif decide (gD.f (x.conns,k,())<0)then-1 else(bif decide (iJ.f (x.waiting,gD.f (x.conns,k,()),())<0)then-1 else iJ.f (x.waiting,gD.f (x.conns,k,()),()))):=by first|(simp only[FX.f,PX,dF];done)|(simp only[FX.f,PX,dF];rfl)
 rw[e]at h|-
 obtain⟨p0,e0⟩:=kA h
 rw[e0]at h|-
 obtain⟨p1,e1⟩:=kA h
 rw[e1]at h|-
 have b0:=L8 _ _ h0 (by omega) hl he p0
 have b1:=Ia _ _ p0 (by omega) hw p1
 refine⟨by omega, ?_⟩
 exact b0.2.1
noncomputable def PN:=sC st Tryz.func64 [QA,Nj] (ks:=[.st .tabl,.sc (.int .i64)]) dF rI
noncomputable def yK:FT (Tabl×Unit) (Tabl) (λx=>ce x.1) (λx v=>ce v):= .mk λ(x0,_)=>
  .cal yd.c (x0.conns,()) λc1=>
  .cal uI.c (x0.waiting,()) λc2=>
  .ret (⟨c1,c2⟩:Tabl)
noncomputable def P8:=aU ao Tryz.func71 [Pr,Oo] (ks:=[.st .tabl]) yK (λv=>[(true,AE .d (.o true) v)])
noncomputable def rb:FT (Door×Tupl×Segm×Unit) (Bool) (λx=>ay x.1/\aw x.2.2.1) (λ_ _=>True):= .mk λ(x0,x1,x2,_)=>
  .cal tw.c (x0,()) λc1=>
  .ite c1 (.cal nS.c (x1,()) λc2=>
   .ite c2 (.cal gT.c (x2,()) λc3=>
    .ret c3)<|
   .ret false)<|
  .ret false
noncomputable def Ci:=aU st Tryz.func101 [Ad,sD,kF] (ks:=[.st .door,.st .tupl,.st .segm]) rb rB
noncomputable def Sn:=[rk,B6]
noncomputable def PB:Fx:=⟨114,Tryz.f114,[(3000002,rA 0 22)],0⟩
noncomputable def nX:FT (List Half×Half×Int×Unit) (List Half×Bool) (λx=>sS x.1) (λx v=>sS v.1):= .mk λ(x0,x1,x2,_)=>
  .cal dU.c (x0,()) λc1=>
  .grd (De c1 1 96)<|
  .bnd (β:=Bool×Unit) (.as (λw=>(w.1=false->(c1++[x1]).length<=64)) (.ite (decide (x2<=(x0.length:Int))) (.ret (true,()))<|
   .cal eL.c ((c1++[x1]),()) λc2=>
   .ret ((!c2),()))) λ(u3a0,_)=>
  .ite u3a0 (.cal dU.c (x0,()) λc4=>
   .ret (c4,false))<|
  .ret ((c1++[x1]),true)
noncomputable def RF:=cI ao PB Sn [] (ks:=[.sc (.sl .half),.st .half,.sc (.int .i64)]) nX (λv=>[(false,[sc (.o true) .half v.1]),(false,[.c (.bool v.2)])]) Tryz.func114 trivial
noncomputable def wQ:FT (Door×Conn×Segm×Int×Unit) (Door×List Segm×Int) (λx=>ay x.1/\ah x.2.1/\aw x.2.2.1) (λx v=>ay v.1/\sL aw v.2.1):= .mk λ(x0,x1,x2,x3,_)=>
  .cal eE.c (x0,()) λc1=>
  .cal yR.c (x0.table,x1,x0.limits,()) λc2=>
  .ite (!c2.2) (.ret (c1,[],0))<|
  .cal tV.c (x1,x2,()) λc3=>
  .cal yN.c (c2.1,c3.1,()) λc4=>
  .cal qu.c (c1.halves,x1.tuple,()) λc5=>
  .ret (({c1 with halves:=c5,table.conns:=c4.conns,table.waiting:=c4.waiting}:Door),c3.2.1,x3)
noncomputable def T5:=aU st Tryz.func119 [jS,QM,Em,RY,Cv] (ks:=[.st .door,.st .conn,.st .segm,.sc (.int .i64)]) wQ (λv=>[(true,pn (.o true) (.o true) (.o true) (.o true) (.o true) v.1),(false,[sc (.o true) .segm v.2.1]),(false,[.c (.int .i64 v.2.2)])])
noncomputable def lM:FT (Tabl×Conn×Limi×Unit) (Tabl×Bool) (λx=>ce x.1/\ah x.2.1) (λx v=>ce v.1/\v.1.conns.length<=max x.1.conns.length 16/\v.1.waiting.length<=max x.1.waiting.length 16/\x.1.conns.length<=v.1.conns.length):= .mk λ(x0,x1,x2,_)=>
  .cal ig.c (x0,()) λc1=>
  .cal dI.c (x1,()) λc2=>
  .grd (De c1.conns 1 208)<|
  .grd (De c1.waiting 1 24)<|
  .cal dk.c ((⟨(c1.conns++[c2]),(c1.waiting++[x1.tuple])⟩:Tabl),x2,()) λc3=>
  .ite (!c3) (.cal ig.c (x0,()) λc4=>
   .ret (c4,false))<|
  .ret ((⟨(c1.conns++[c2]),(c1.waiting++[x1.tuple])⟩:Tabl),true)
noncomputable def PL:=aU ao Tryz.func127 [qT,fX,EP] (ks:=[.st .tabl,.st .conn,.st .limi]) lM (λv=>[(true,AE .d (.o true) v.1),(false,[.c (.bool v.2)])])
noncomputable def QZ:=[E4,fX,yo,Mr,Xl,Zh,rj]
def pm:An:=⟨⟨[],[],false,0⟩,⟨[2,4,5,6,7,8],[],false,0⟩,⟨[],[]⟩,[(.normal,⟨[zp 2 0,zp 4 1,(5,false,[.nil]),zi 6,zi 7,zp 8 2],[zg .conn,.box [.st .conn [.nil .piec]],zk .conn 3,zf]⟩)]⟩
noncomputable def Rz:Fx:=⟨128,Tryz.f128,[(1000037,pm),(3000009,rA 0 37),(3000017,rA 0 68)],0⟩
noncomputable def nN:FT (Conn×Segm×Unit) (Conn×List Segm×Int) (λx=>ah x.1/\aw x.2.1) (λx v=>ah v.1/\sL aw v.2.1):= .mk λ(x0,x1,_)=>
  .cal tj.c (x0,x1,()) λc1=>
  .cal dI.c (x0,()) λc2=>
  .ite (c1==2) (.ret (({c2 with state:=8,timer:=0,tries:=0}:Conn),[],c1))<|
  .ite (c1==3) (.ite (c1==3) (.bnd (β:=Bool×Unit) (.ite (c1==4) (.ite (x0.state==7) (.val (bm.f (x1,1,())) λc3=>
       .ret (c3,()))<|
      .ret (false,()))<|
     .ret (false,())) λ(u4a0,_)=>
    .bnd (β:=WT pm.es) (.as (λw=>ah w.2.2.1/\ah w.2.2.2.1/\ah w.2.2.2.2.1) (.ite u4a0 (.ret (0,c1,x0,(⟨⟨0,0,0⟩,0,⟨0,[],0,false,false,false⟩,⟨0,[],[],0,false⟩,0,0,⟨0,0,false,false,0,0⟩,0,0⟩:Conn),({c2 with timer:=4}:Conn),()))<|
     .ret (0,c1,x0,(⟨⟨0,0,0⟩,0,⟨0,[],0,false,false,false⟩,⟨0,[],[],0,false⟩,0,0,⟨0,0,false,false,0,0⟩,0,0⟩:Conn),c2,()))) λ(_,u5a1,u5a2,_,u5a4,_)=>
    .cal cJ.c (u5a2,()) λc6=>
    .ret (u5a4,[c6],u5a1))<|
   .ite (c1==5) (.cal B5.c (x0,x1,()) λc7=>
    .ite (c7.state==8) (.ret (c7,[],c1))<|
    .cal er.c (c7,c7.window,()) λc8=>
    .bnd (β:=Bool×Unit) (.ite ((c8.2.length:Int)==0) (.cal aK.c (x1,()) λc9=>
      .ret ((c9 != 0),()))<|
     .ret (false,())) λ(u10a0,_)=>
    .ite u10a0 (.cal cJ.c (c8.1,()) λc11=>
     .ret (c8.1,[c11],c1))<|
    .ret (c8.1,c8.2,c1))<|
   .ret (c2,[],c1))<|
  .ite (c1==4) (.bnd (β:=Bool×Unit) (.ite (c1==4) (.ite (x0.state==7) (.val (bm.f (x1,1,())) λc12=>
      .ret (c12,()))<|
     .ret (false,()))<|
    .ret (false,())) λ(u13a0,_)=>
   .bnd (β:=WT pm.es) (.as (λw=>ah w.2.2.1/\ah w.2.2.2.1/\ah w.2.2.2.2.1) (.ite u13a0 (.ret (0,c1,x0,(⟨⟨0,0,0⟩,0,⟨0,[],0,false,false,false⟩,⟨0,[],[],0,false⟩,0,0,⟨0,0,false,false,0,0⟩,0,0⟩:Conn),({c2 with timer:=4}:Conn),()))<|
    .ret (0,c1,x0,(⟨⟨0,0,0⟩,0,⟨0,[],0,false,false,false⟩,⟨0,[],[],0,false⟩,0,0,⟨0,0,false,false,0,0⟩,0,0⟩:Conn),c2,()))) λ(_,u14a1,u14a2,_,u14a4,_)=>
   .cal cJ.c (u14a2,()) λc15=>
   .ret (u14a4,[c15],u14a1))<|
  .ite (c1==5) (.cal B5.c (x0,x1,()) λc16=>
   .ite (c16.state==8) (.ret (c16,[],c1))<|
   .cal er.c (c16,c16.window,()) λc17=>
   .bnd (β:=Bool×Unit) (.ite ((c17.2.length:Int)==0) (.cal aK.c (x1,()) λc18=>
     .ret ((c18 != 0),()))<|
    .ret (false,())) λ(u19a0,_)=>
   .ite u19a0 (.cal cJ.c (c17.1,()) λc20=>
    .ret (c17.1,[c20],c1))<|
   .ret (c17.1,c17.2,c1))<|
  .ret (c2,[],c1)
noncomputable def EZ:=cI ao Rz QZ [] (ks:=[.st .conn,.st .segm]) nN (λv=>[(true,nJ (.o true) v.1),(false,[sc (.o true) .segm v.2.1]),(false,[.c (.int .i64 v.2.2)])]) Tryz.func128 trivial
noncomputable def yH:FT (Door×Int×Segm×Unit) (Door×List Segm×Int) (λx=>ay x.1/\aw x.2.2.1/\0<=x.2.1/\x.2.1<x.1.table.conns.length) (λx v=>ay v.1/\sL aw v.2.1):= .mk λ(x0,x1,x2,_)=>
  .cal eE.c (x0,()) λc1=>
  .grd (ba x0.table.conns x1)<|
  .cal tV.c ((x0.table.conns.getD x1.toNat (Ty.zero .conn)),x2,()) λc2=>
  .grd (ba c1.table.conns x1)<|
  .ite (c2.2.2==3) (.ite (x0.chal==x0.limits.chal) (.ret (({c1 with table.conns:=(c1.table.conns.set x1.toNat c2.1)}:Door),[],0))<|
   .ret (({c1 with table.conns:=(c1.table.conns.set x1.toNat c2.1),chal:=(IntKind.wrap .i64 (x0.chal+1))}:Door),c2.2.1,0))<|
  .ret (({c1 with table.conns:=(c1.table.conns.set x1.toNat c2.1)}:Door),c2.2.1,0)
noncomputable def P9:=aU st Tryz.func135 [jS,Em] (ks:=[.st .door,.sc (.int .i64),.st .segm]) yH (λv=>[(true,pn (.o true) (.o true) (.o true) (.o true) (.o true) v.1),(false,[sc (.o true) .segm v.2.1]),(false,[.c (.int .i64 v.2.2)])])
noncomputable def UG:=[Et,K5,A0,Wn,U7,GQ,E3]
noncomputable def U3:Fx:=⟨141,Tryz.f141,[(3000003,rA 0 33),(3000010,rA 0 77),(4000000,la ⟨[],[],false,0⟩ ⟨[],[.softb 4 2],false,0⟩)],0⟩
noncomputable def Bv:FT (Link×ac×Unit) (Link×Int×Pack×ac) (λx=>eA x.1/\sS x.2.1) (λx v=>eA v.1/\uO v.2.2.1/\sS v.2.2.2/\v.2.2.1.body.length<=1500):= .mk λ(x0,x1,_)=>
  .cal ql.c (x0,()) λc1=>
  .cal oT.c (x1,()) λc2=>
  .bnd (β:=Bool×Unit) (.cal tz.c (x0,()) λc3=>
   .ite (!c3) (.ret (true,()))<|
   .ite (!c2.2) (.ret (true,()))<|
   .val (GA.f (c2.1,x0.mac,())) λc4=>
   .ret ((!c4),())) λ(u5a0,_)=>
  .ite u5a0 (.ret (c1,0,(⟨0,0,0,0,0,[]⟩:Pack),[]))<|
  .ite (c2.1.type==2054) (.cal JL.c (c1,c2.1,()) λc6=>
   .ret (c6.1,c6.2.1,c6.2.2.1,c6.2.2.2))<|
  .ite (c2.1.type != 2048) (.ret (c1,0,(⟨0,0,0,0,0,[]⟩:Pack),[]))<|
  .cal mE.c (c2.1.body,()) λc7=>
  .bnd (β:=Bool×Unit) (.ite (c7.2 != 0) (.ret (true,()))<|
   .ite (c7.1.dst != x0.ip) (.ret (true,()))<|
   .ite (c7.1.proto != 6) (.ret (true,()))<|
   .ret ((c7.1.src==x0.ip),())) λ(u8a0,_)=>
  .ite u8a0 (.ret (c1,0,(⟨0,0,0,0,0,[]⟩:Pack),[]))<|
  .cal tH.c (c1.cache,c7.1.src,c2.1.src,()) λc9=>
  .ret (({c1 with cache:=c9}:Link),2,c7.1,[])
noncomputable def S1:=cI st U3 UG [] (ks:=[.st .link,.sc .str]) Bv (λv=>[(true,DQ .c v.1),(false,[.c (.int .i64 v.2.1)]),(true,Hb v.2.2.1),(false,[.c (.str v.2.2.2)])]) Tryz.func141 trivial
noncomputable def qL:FT (Mac×Tupl×Int×Int×Int×Unit) (Int) (λx=>cN x.1) (λ_ _=>True):= .mk λ(x0,x1,x2,x3,x4,_)=>
  .cal uw.c (x1,x2,x3,x4,()) λc1=>
  .ite (c1==[]) (.ret (-1))<|
  .val (IntKind.wrap .i64 ((IntKind.wrap .i64 ((x3.tmod 32)*134217728))+(IntKind.wrap .i64 (x4*16777216)))) λe2=>
  .cal GG.c (x0,c1,()) λc3=>
  .ret (IntKind.wrap .i64 (e2+c3))
noncomputable def Bf:=aU st Tryz.func226 [NV,WM] (ks:=[.st .mac,.st .tupl,.sc (.int .i64),.sc (.int .i64),.sc (.int .i64)]) qL rI
noncomputable def jH:FT (Mac×Tupl×Int×Int×Int×Unit) (Int) (λx=>cN x.1) (λ_ _=>True):= .mk λ(x0,x1,x2,x3,x4,_)=>
  .cal fB.c (x1,x2,x3,x4,()) λc1=>
  .ite (c1==[]) (.ret (-1))<|
  .val (IntKind.wrap .i64 ((IntKind.wrap .i64 ((x3.tmod 32)*134217728))+(IntKind.wrap .i64 (x4*16777216)))) λe2=>
  .cal pD.c (x0,c1,()) λc3=>
  .ret (IntKind.wrap .i64 (e2+c3))
noncomputable def BE:=aU ao Tryz.func234 [Ou,W9] (ks:=[.st .mac,.st .tupl,.sc (.int .i64),.sc (.int .i64),.sc (.int .i64)]) jH rI
noncomputable def Dl:FT (MacRow×MacRow×Unit) (Bool) (λ_=>True) (λ_ _=>True):= .mk λ(x0,y1,_)=>
  .ret (x0.input==y1.input)
noncomputable def Sc:=oV ao ⟨282,Tryz.f282,[],1⟩ [] [] [.st .macRow,.wr false [.ptr 0]] [.box [.st .macRow]] (λx y=>(x.1,y.1.1,())) Dl rB (λx y v=>((y.1.1,()),())) Tryz.func282 (by kernel_rfl) trivial
noncomputable def gC:=[Sc]
def cd:Sh:=⟨[zl 0 .macRow,(1,false,[.fn 282 [0]]),zi 7,zi 8],[zx .macRow]⟩
noncomputable def gO:Fx:=⟨350,Tryz.f350,[(0,la ⟨[0,1,7,8],[],false,1⟩ ⟨[4],[],false,1⟩)],1⟩
noncomputable def fF (v0:List MacRow)(v3:MacRow)(v2:Int)(a:Unit):Tr (Stp (Unit) ((Int))):=
 .grd (ba v0 v2)<|
 .cal Dl.c ((v0.getD v2.toNat (Ty.zero .macRow)),v3,()) λc1=>
 .ite c1 (.ret (.out v2))<|
 .ret (.next ())
noncomputable def bc:cd.V->nL cd Unit (Int):=λ(v0,v1,v2,v3,_)=>⟨v2,(),λv2 _=>(v0,v1,v2,v3,()),λv2 _=>(decide (v2<v1)),fF v0 v3,up,1,(Int.toNat (v1-v2)),.inl,eR,oB .ret ⟨[zi 4],[zx .macRow]⟩ (λp=>(p,v3,())) (.exit 0) ⟨[zu 4],[zx .macRow]⟩ (λ_=>(v3,()))⟩
theorem lR:LS Tryz.prog gO [0] (kD 0 cd bc):=fa st (aW gC) _ bc [] trivial
theorem lT {v0:List MacRow}{v1 v2:Int}{v3:MacRow}(h0:0<=v2)(h1:v1<=4611686018427387904)(h2:v1<=(v0.length:Int)):(bc (v0,v1,v2,v3,())).U v1 (λ_ _=>True) (λp=>v2<=p/\p<v1):=
 kx h0 h1 trivial
noncomputable def eK:FT (List MacRow×MacRow×Unit) (Int) (λx=>wS x.1) (λx v=> -1<=v/\v<x.1.length):= .mk (λ(x0,y1_0,_)=>
  .lp (bc (x0,(x0.length:Int),0,y1_0,())).lp λw2=> .sum w2 (λp2a0=>
  .ret p2a0)<|
  λ_=>
  .ret (-1)) (np @lT)
noncomputable def n8:=oV st gO gC [(kD 0 cd bc)] [.sc (.sl .macRow),.fn 282 [0]] [.box [.st .macRow]] (λx y=>(x.1,y.1.1,())) eK rI (λx y v=>((y.1.1,()),())) Tryz.func350 (by kernel_rfl) ⟨lR,trivial⟩
noncomputable def eQ:FX (Door×Int×Unit) (Int) (λ_=>True) (cG [.st .door,.sc (.int .i64)]):=⟨λ(x0,x1,_)=>
  .cal fy.c (x0.keys,x1,()) λc1=>
  .ite (decide (c1<0)) (.ret (-1))<|
  .cal gA.c (x0.halves,c1,()) λc2=>
  .ite (decide (c2<0)) (.ret (-1))<|
  .cal dF.c (x0.table,c2,()) λc3=>
  .ite (decide (c3<0)) (.ret (-1))<|
  .ret c3,
 λ(x0,x1,_) hp hf=>by
  simp only[cG,Pk.fact,jT,gy,Fl.fact,Ty.fl,Ty.toH]at hf
  refine Tr.C trivial λ_ _ _=>Tr.I (λ_=>Tr.R trivial) λ_=>Tr.C trivial λ_ _ _=>Tr.I (λ_=>Tr.R trivial) λ_=>Tr.C trivial λ_ _ _=>Tr.F (by kernel_rfl) trivial⟩
theorem Zg (x:Door)(k:Int)(h0:0<=k)(h1:k<=1048576)(n1:x.keys.now.rows.length<=140737488355328)(n2:EV .macRow x.keys.now.rows)(m1:x.keys.before.rows.length<=140737488355328)(m2:EV .macRow x.keys.before.rows)(hh:x.halves.length<=140737488355328)(hl:x.table.conns.length<=140737488355328)(he:EV .conn x.table.conns)(hw:x.table.waiting.length<=140737488355328)(h:0<=eQ.f (x,k,())):eQ.f (x,k,())<=k/\ay x:=by
 have e:eQ.f (x,k,())=(bif decide (fy.f (x.keys,k,())<0)then-1 else(bif decide (gA.f (x.halves,fy.f (x.keys,k,()),())<0)then-1 else(bif decide (dF.f (x.table,gA.f (x.halves,fy.f (x.keys,k,()),()),())<0)then-1 else dF.f (x.table,gA.f (x.halves,fy.f (x.keys,k,()),()),())))):=by first|(simp only[FX.f,PX,eQ];done)|(simp only[FX.f,PX,eQ];rfl)
 rw[e]at h|-
 obtain⟨p0,e0⟩:=kA h
 rw[e0]at h|-
 obtain⟨p1,e1⟩:=kA h
 rw[e1]at h|-
 obtain⟨p2,e2⟩:=kA h
 rw[e2]at h|-
 have b0:=Pj _ _ h0 (by omega) n1 n2 m1 m2 p0
 have b1:=LV _ _ p0 (by omega) hh p1
 have b2:=Xj _ _ p1 (by omega) hl he hw p2
 refine⟨by omega, ?_⟩
 have q0:=b0.2
 have q1:=b1.2
 have q2:=b2.2
 unfold dM at q0
 unfold ce at q2
 unfold ay
 exact⟨q0.1,q0.2.1,q0.2.2.1,q0.2.2.2,by omega,q2.1,q2.2.1,q2.2.2⟩
theorem Zl (x:Door)(k:Int)(h0:0<=k)(h1:k<=1048576)(n1:x.keys.now.rows.length<=140737488355328)(n2:EV .macRow x.keys.now.rows)(m1:x.keys.before.rows.length<=140737488355328)(m2:EV .macRow x.keys.before.rows)(hh:x.halves.length<=140737488355328)(hl:x.table.conns.length<=140737488355328)(he:EV .conn x.table.conns)(hw:x.table.waiting.length<=140737488355328)(h:0<=eQ.f (x,k,())):eQ.f (x,k,())<=k/\x.table.conns.length<=1048576:=by
 have e:eQ.f (x,k,())=(bif decide (fy.f (x.keys,k,())<0)then-1 else(bif decide (gA.f (x.halves,fy.f (x.keys,k,()),())<0)then-1 else(bif decide (dF.f (x.table,gA.f (x.halves,fy.f (x.keys,k,()),()),())<0)then-1 else dF.f (x.table,gA.f (x.halves,fy.f (x.keys,k,()),()),())))):=by first|(simp only[FX.f,PX,eQ];done)|(simp only[FX.f,PX,eQ];rfl)
 rw[e]at h|-
 obtain⟨p0,e0⟩:=kA h
 rw[e0]at h|-
 obtain⟨p1,e1⟩:=kA h
 rw[e1]at h|-
 obtain⟨p2,e2⟩:=kA h
 rw[e2]at h|-
 have b0:=Pj _ _ h0 (by omega) n1 n2 m1 m2 p0
 have b1:=LV _ _ p0 (by omega) hh p1
 have b2:=XG _ _ p1 (by omega) hl he hw p2
 refine⟨by omega, ?_⟩
 exact b2.2
noncomputable def SZ:=sC st Tryz.func10 [Tb,Pp,PN] (ks:=[.st .door,.sc (.int .i64)]) eQ rI
noncomputable def Dc:FT (Door×Unit) (Door) (λx=>ay x.1) (λx v=>ay v):= .mk λ(x0,_)=>
  .cal Cz.c (x0.keys,()) λc1=>
  .val (u5.f (x0.limits,())) λc2=>
  .cal yE.c (x0.halves,()) λc3=>
  .cal yK.c (x0.table,()) λc4=>
  .ret (⟨x0.port,x0.clock,c1,c2,c3,c4,x0.chal⟩:Door)
noncomputable def Te:=aU ao Tryz.func13 [TG,MQ,Qf,P8] (ks:=[.st .door]) Dc (λv=>[(true,pn (.o true) (.o true) (.o true) .d (.o true) v)])
noncomputable def dG:FX (Stac×Int×Unit) (Int) (λ_=>True) (cG [.st .stac,.sc (.int .i64)]):=⟨λ(x0,x1,_)=>
  .cal gG.c (x0.link,x1,()) λc1=>
  .ite (decide (c1<0)) (.ret (-1))<|
  .cal eQ.c (x0.door,c1,()) λc2=>
  .ite (decide (c2<0)) (.ret (-1))<|
  .ret c2,
 λ(x0,x1,_) hp hf=>by
  simp only[cG,Pk.fact,jT,gy,Fl.fact,Ty.fl,Ty.toH]at hf
  refine Tr.C trivial λ_ _ _=>Tr.I (λ_=>Tr.R trivial) λ_=>Tr.C trivial λ_ _ _=>Tr.F (by kernel_rfl) trivial⟩
theorem My (x:Stac)(k:Int)(h0:0<=k)(h1:k<=1048576)(hc:x.link.cache.length<=140737488355328)(n1:x.door.keys.now.rows.length<=140737488355328)(n2:EV .macRow x.door.keys.now.rows)(m1:x.door.keys.before.rows.length<=140737488355328)(m2:EV .macRow x.door.keys.before.rows)(hh:x.door.halves.length<=140737488355328)(hl:x.door.table.conns.length<=140737488355328)(he:EV .conn x.door.table.conns)(hw:x.door.table.waiting.length<=140737488355328)(h:0<=dG.f (x,k,())):dG.f (x,k,())<=k/\cL x:=by
 have e:dG.f (x,k,())=(bif decide (gG.f (x.link,k,())<0)then-1 else(bif decide (eQ.f (x.door,gG.f (x.link,k,()),())<0)then-1 else eQ.f (x.door,gG.f (x.link,k,()),()))):=by first|(simp only[FX.f,PX,dG];done)|(simp only[FX.f,PX,dG];rfl)
 rw[e]at h|-
 obtain⟨p0,e0⟩:=kA h
 rw[e0]at h|-
 obtain⟨p1,e1⟩:=kA h
 rw[e1]at h|-
 have b0:=Se _ _ h0 (by omega) hc p0
 have b1:=Zg _ _ p0 (by omega) n1 n2 m1 m2 hh hl he hw p1
 refine⟨by omega, ?_⟩
 have q0:=b0.2
 have q1:=b1.2
 unfold ay at q1
 unfold cL
 exact⟨by omega,q1⟩
theorem WB (x:Stac)(k:Int)(h0:0<=k)(h1:k<=1048576)(hc:x.link.cache.length<=140737488355328)(n1:x.door.keys.now.rows.length<=140737488355328)(n2:EV .macRow x.door.keys.now.rows)(m1:x.door.keys.before.rows.length<=140737488355328)(m2:EV .macRow x.door.keys.before.rows)(hh:x.door.halves.length<=140737488355328)(hl:x.door.table.conns.length<=140737488355328)(he:EV .conn x.door.table.conns)(hw:x.door.table.waiting.length<=140737488355328)(h:0<=dG.f (x,k,())):dG.f (x,k,())<=k/\x.door.table.conns.length<=1048576:=by
 have e:dG.f (x,k,())=(bif decide (gG.f (x.link,k,())<0)then-1 else(bif decide (eQ.f (x.door,gG.f (x.link,k,()),())<0)then-1 else eQ.f (x.door,gG.f (x.link,k,()),()))):=by first|(simp only[FX.f,PX,dG];done)|(simp only[FX.f,PX,dG];rfl)
 rw[e]at h|-
 obtain⟨p0,e0⟩:=kA h
 rw[e0]at h|-
 obtain⟨p1,e1⟩:=kA h
 rw[e1]at h|-
 have b0:=Se _ _ h0 (by omega) hc p0
 have b1:=Zl _ _ p0 (by omega) n1 n2 m1 m2 hh hl he hw p1
 refine⟨by omega, ?_⟩
 exact b1.2
noncomputable def Q6:=sC st Tryz.func21 [UX,SZ] (ks:=[.st .stac,.sc (.int .i64)]) dG rI
noncomputable def nV:FT (Stac×Unit) (Stac) (λx=>cL x.1) (λx v=>cL v):= .mk λ(x0,_)=>
  .cal C6.c (x0.link,()) λc1=>
  .cal Dc.c (x0.door,()) λc2=>
  .ret (⟨c1,c2⟩:Stac)
noncomputable def PZ:=aU ao Tryz.func24 [S3,Te] (ks:=[.st .stac]) nV (λv=>[(true,H6 (.o true) (.o true) (.o true) (.o true) .d (.o true) v)])
def qJ:Sh:=⟨[zi 2,zi 3,zp 4 0,zp 5 1,zi 12,zi 14],[.box [.st .keys [.sl .arg,.sl .arg]],zx .tupl]⟩
noncomputable def lC (v0 v1 v2:Int)(v4:Keys)(v5:Tupl)(v3:Int)(a:Unit):Tr (Stp (Unit) ((Int)⊕(Unit))):=
 .ite (decide ((IntKind.wrap .i64 (v4.epoch-1))<=v3)) (.cal ub.c (v4,v3,()) λc4=>
  .bnd (β:=Bool×Unit) (.ite c4.2 (.cal qL.c (c4.1,v5,v0,v3,v2,()) λc5=>
    .ret ((c5==v1),()))<|
   .ret (false,())) λ(u6a0,_)=>
  .ite u6a0 (.ret (.out (.inl v3)))<|
  .ret (.next ()))<|
 .ret (.out (.inr (())))
noncomputable def ia:qJ.V->nL qJ Unit ((Int)⊕(Unit)):=λ(v0,v1,v2,v3,v4,v5,_)=>⟨v3,(),λv3 _=>(v0,v1,v2,v3,v4,v5,()),λv3 _=>(decide (0<=v3)),lC v0 v1 v2 v4 v5,dn,(-1),(Int.toNat (v3-0+1)),.inl,eR,λ_ k w=>Sum.elim (oB .ret ⟨[zi 8,zi 9,zb 10],[]⟩ (λp=>(p,v2,true,())) (.exit 0) ⟨[zu 8,zu 9,zu 10],[]⟩ (λ_=>()) _ k) (λ_=>k (.exit 0) (Sh.enc ⟨[zu 8,zu 9,zu 10],[]⟩ ())) w⟩
theorem AV {v0 v1 v2 v3:Int}{v4:Keys}{v5:Tupl}(h0:v3<=9223372036854775807)(h1:dM v4):(ia (v0,v1,v2,v3,v4,v5,())).D 0 (λ_ _=>True) (λ_=>True):=
 lcD h0 (by decide) trivial
noncomputable def oH:FT (Keys×Tupl×Int×Int×Unit) (Int×Int×Bool) (λx=>dM x.1) (λ_ _=>True):= .mk (λ(x0,x1,x2,x3,_)=>
  .cal oD.c (x3,()) λc1=>
  .bnd (β:=Bool×Unit) (.as (λw=>(w.1=false->0<=x0.epoch/\x0.epoch<=4294967295)) (.cal wm.c (x0,()) λc2=>
   .ite (!c2) (.ret (true,()))<|
   .ret ((decide (c1.2.1<0)),()))) λ(u3a0,_)=>
  .ite u3a0 (.ret (0,0,false))<|
  .lp (ia (x2,x3,c1.2.1,x0.epoch,x0,x1,())).lp λw7=> .sum w7 (λq7=> .sum q7 (λp7a0=>
  .ret (p7a0,c1.2.1,true))<|
  λ_=>
  .ret (0,0,false))<|
  λ_=>
  .ret (0,0,false)) (np @AV)
noncomputable def Fi:=dr st Tryz.func121 [(0,lb [2,3,4,5,12,14] [8,9,10]),(3000002,rA 0 29),(3000008,rA 0 59)] [FY,JA,OY,Bf] 0 ia (ks:=[.st .keys,.st .tupl,.sc (.int .i64),.sc (.int .i64)]) oH (λv=>[(false,[.c (.int .i64 v.1)]),(false,[.c (.int .i64 v.2.1)]),(false,[.c (.bool v.2.2)])])
noncomputable def Nz:=[M5,Bf,qj]
def DN:An:=⟨⟨[],[],false,0⟩,⟨[3,4,5,6,7],[],false,0⟩,⟨[],[]⟩,[(.normal,⟨[zp 3 0,zp 4 1,zp 5 2,zi 6,zi 7],[.box [.st .door [.sl .arg,.sl .arg,.sl .arg,.sl .arg,.sl .arg]],zx .tupl,zx .segm]⟩)]⟩
noncomputable def Oi:Fx:=⟨200,Tryz.f200,[(1000012,DN)],0⟩
noncomputable def t8:FT (Door×Tupl×Segm×Unit) (Int) (λx=>ay x.1/\aw x.2.2.1) (λ_ _=>True):= .mk λ(x0,x1,x2,_)=>
  .bnd (β:=Int×Int×Door×Tupl×Segm×Unit) (.as (λw=>ay w.2.2.1/\aw w.2.2.2.2.1) (.ite (x2.opts.mss==0) (.ret (0,536,x0,x1,x2,()))<|
   .ret (0,x2.opts.mss,x0,x1,x2,()))) λ(_,u1a1,u1a2,u1a3,u1a4,_)=>
  .cal um.c (u1a1,()) λc2=>
  .cal qL.c (u1a2.keys.now,u1a3,u1a4.seq,u1a2.keys.epoch,c2,()) λc3=>
  .val (fM.f (0,c3,())) λc4=>
  .ret c4
noncomputable def On:=cI st Oi Nz [] (ks:=[.st .door,.st .tupl,.st .segm]) t8 rI Tryz.func200 trivial
noncomputable def nC:FT (Door×Tupl×Segm×Unit) (Int) (λx=>ay x.1/\aw x.2.2.1) (λ_ _=>True):= .mk λ(x0,x1,x2,_)=>
  .val (yk.f (x2.opts,())) λc1=>
  .cal ij.c (c1,()) λc2=>
  .cal jH.c (x0.keys.now,x1,x2.seq,x0.keys.epoch,c2,()) λc3=>
  .ret (if 0<c3 then c3 else 0)
noncomputable def O1:=aU ao Tryz.func210 [Q5,OT,BE] (ks:=[.st .door,.st .tupl,.st .segm]) nC rI
noncomputable def cz:FT (List MacRow×MacRow×Unit) (Bool) (λx=>sL aE x.1/\aE x.2.1) (λ_ _=>True):= .mk λ(x0,y1_0,_)=>
  .cal eK.c (x0,y1_0,()) λc1=>
  .ret (decide (0<=c1))
noncomputable def lS:=oV st ⟨281,Tryz.f281,[],1⟩ [n8] [] [.sc (.sl .macRow),.fn 282 [0]] [.box [.st .macRow]] (λx y=>(x.1,y.1.1,())) cz rB (λx y v=>((y.1.1,()),())) Tryz.func281 (by kernel_rfl) trivial
noncomputable def Wm:=[Ci,kp,jS,mW,ib,BN,Pg,T5,Fi,AY]
noncomputable def We:Fx:=⟨42,Tryz.f42,[(3000001,rA 0 27)],0⟩
noncomputable def GF:FT (Door×Tupl×Segm×Unit) (Door×List Segm×Int) (λx=>ay x.1/\aw x.2.2.1) (λx v=>ay v.1/\sL aw v.2.1):= .mk λ(x0,x1,x2,_)=>
  .bnd (β:=Bool×Unit) (.cal rb.c (x0,x1,x2,()) λc1=>
   .ite (!c1) (.ret (true,()))<|
   .cal fu.c (x0.table,x1,()) λc2=>
   .ret ((decide (0<=c2)),())) λ(u3a0,_)=>
  .ite u3a0 (.cal eE.c (x0,()) λc4=>
   .ret (c4,[],0))<|
  .cal iC.c (x0.halves,x1,()) λc5=>
  .ite (decide (0<=c5)) (.grd (ba x0.halves c5)<|
   .val (cX.f ((x0.halves.getD c5.toNat (Ty.zero .half)).iss,1,())) λc6=>
   .ite (x2.ack != c6) (.cal ll.c (x0,x2,()) λc7=>
    .ret (c7.1,c7.2.1,c7.2.2))<|
   .val (cX.f ((x0.halves.getD c5.toNat (Ty.zero .half)).irs,1,())) λc8=>
   .ite (x2.seq != c8) (.cal eE.c (x0,()) λc9=>
    .ret (c9,[],0))<|
   .cal tR.c (x1,(x0.halves.getD c5.toNat (Ty.zero .half)).iss,(x0.halves.getD c5.toNat (Ty.zero .half)).irs,(x0.halves.getD c5.toNat (Ty.zero .half)).opts,x2.window,()) λc10=>
   .cal wQ.c (x0,c10,x2,1,()) λc11=>
   .ret (c11.1,c11.2.1,c11.2.2))<|
  .val (cX.f (x2.seq,(-1),())) λc12=>
  .val (cX.f (x2.ack,(-1),())) λc13=>
  .cal oH.c (x0.keys,x1,c12,c13,()) λc14=>
  .ite (!c14.2.2) (.cal ll.c (x0,x2,()) λc15=>
   .ret (c15.1,c15.2.1,c15.2.2))<|
  .cal j4.c (c14.2.1,x2.opts,()) λc16=>
  .cal tR.c (x1,c13,c12,c16,x2.window,()) λc17=>
  .cal wQ.c (x0,c17,x2,2,()) λc18=>
  .ret (c18.1,c18.2.1,c18.2.2)
noncomputable def WF:=cI st We Wm [] (ks:=[.st .door,.st .tupl,.st .segm]) GF (λv=>[(true,pn (.o true) (.o true) (.o true) (.o true) (.o true) v.1),(false,[sc (.o true) .segm v.2.1]),(false,[.c (.int .i64 v.2.2)])]) Tryz.func42 trivial
noncomputable def Bz:FT (Door×Tupl×Segm×Unit) (Segm) (λx=>ay x.1/\aw x.2.2.1) (λx v=>aw v):= .mk λ(x0,x1,x2,_)=>
  .cal t8.c (x0,x1,x2,()) λc1=>
  .val (cX.f (x2.seq,1,())) λc2=>
  .val (le.f (x2.opts,x0.clock,())) λc3=>
  .ret (⟨x1.my,x1.port,c1,c2,18,32,c3,[]⟩:Segm)
noncomputable def Ub:=aU st Tryz.func102 [On,ib,BC] (ks:=[.st .door,.st .tupl,.st .segm]) Bz (λv=>[(true,xG v)])
noncomputable def eu:FT (Door×Tupl×Segm×Unit) (Segm) (λx=>ay x.1/\aw x.2.2.1) (λx v=>aw v):= .mk λ(x0,x1,x2,_)=>
  .cal nC.c (x0,x1,x2,()) λc1=>
  .val (cM.f (x2.seq,1,())) λc2=>
  .val (fG.f (x2.opts,x0.clock,())) λc3=>
  .ret (⟨x1.my,x1.port,c1,c2,18,32,c3,[]⟩:Segm)
noncomputable def Ux:=aU ao Tryz.func111 [O1,ik,B4] (ks:=[.st .door,.st .tupl,.st .segm]) eu (λv=>[(true,xG v)])
def Db:Sh:=⟨[zp 1 0,zl 27 .macRow,zi 28,zi 29],[zg .mac]⟩
noncomputable def pS (v0:List MacRow)(v3:Mac)(v2:Int)(a:Unit):Tr (Stp (Unit) ((Unit))):=
 .grd (ba v0 v2)<|
 .val (a9.f ((v0.getD v2.toNat (Ty.zero .macRow)).value,0,16777215,())) λc2=>
 .ite (!c2) (.ret (.out ()))<|
 .grd ((decide (0<=v2))&&(decide (v2<=(v3.rows.length:Int))))<|
 .cal cz.c (((v3.rows.take v2.toNat).drop 0),(v0.getD v2.toNat (Ty.zero .macRow)),()) λc3=>
 .ite c3 (.ret (.out ()))<|
 .ret (.next ())
noncomputable def pY:Db.V->nL Db Unit (Unit):=λ(v0,v1,v2,v3,_)=>⟨v2,(),λv2 _=>(v0,v1,v2,v3,()),λv2 _=>(decide (v2<v1)),pS v0 v3,up,1,(Int.toNat (v1-v2)),.inl,eR,oB .ret ⟨[zb 2],[]⟩ (λ_=>(false,())) (.exit 0) ⟨[zu 2],[]⟩ (λ_=>())⟩
theorem MY {v0:List MacRow}{v1 v2:Int}{v3:Mac}(h0:0<=v2)(h1:v1<=4611686018427387904)(h2:sL aE v0)(h3:cN v3)(h4:v1<=(v0.length:Int))(h5:v1<=(v3.rows.length:Int)):(pY (v0,v1,v2,v3,())).U v1 (λ_ _=>True) (λ_=>True):=
 kx h0 h1 trivial
noncomputable def ui:FT (Mac×Unit) (Bool) (λx=>cN x.1) (λx v=>(v=true->x.1.rows.length<=64)):= .mk (λ(x0,_)=>
  .ite (!x0.use) (.ret ((x0.rows.length:Int)==0))<|
  .bnd (β:=Bool×Unit) (.ite (x0.k != 0) (.ret (true,()))<|
   .ite (x0.l != 0) (.ret (true,()))<|
   .ret ((decide (64<(x0.rows.length:Int))),())) λ(u1a0,_)=>
  .ite u1a0 (.ret false)<|
  .lp (pY (x0.rows,(x0.rows.length:Int),0,x0,())).lp λw4=> .sum w4 (λ_=>
  .ret false)<|
  λ_=>
  .ret true) (np @MY)
noncomputable def VN:=dr ao Tryz.func179 [(0,lb [1,27,28,29] [2]),(3000003,rA 0 25)] [bu,lS] 0 pY (ks:=[.st .mac]) ui rB
noncomputable def Gy:FT (Door×Tupl×Segm×Unit) (Door×List Segm) (λx=>ay x.1/\aw x.2.2.1) (λx v=>ay v.1/\sL aw v.2):= .mk λ(x0,x1,x2,_)=>
  .cal eE.c (x0,()) λc1=>
  .cal rb.c (x0,x1,x2,()) λc2=>
  .ite (!c2) (.ret (c1,[]))<|
  .cal Bz.c (x0,x1,x2,()) λc3=>
  .cal iC.c (x0.halves,x1,()) λc4=>
  .ite (decide (0<=c4)) (.grd (ba x0.halves c4)<|
   .ite ((x0.halves.getD c4.toNat (Ty.zero .half)).irs != x2.seq) (.ret (c1,[]))<|
   .grd (ba x0.halves c4)<|
   .ret (c1,[({c3 with seq:=(x0.halves.getD c4.toNat (Ty.zero .half)).iss}:Segm)]))<|
  .cal fu.c (x0.table,x1,()) λc5=>
  .ite (decide (c5<0)) (.val (oq.f (x2.opts,())) λc6=>
   .cal x7.c (c1.halves,(⟨x1,c3.seq,x2.seq,c6,0,x2.window⟩:Half),x0.limits.halves,()) λc7=>
   .ret (({c1 with halves:=c7.1}:Door),[c3]))<|
  .ret (c1,[c3])
noncomputable def VT:=aU st Tryz.func35 [jS,Ci,Ub,mW,kp,Fv,QQ] (ks:=[.st .door,.st .tupl,.st .segm]) Gy (λv=>[(true,pn (.o true) (.o true) (.o true) (.o true) (.o true) v.1),(false,[sc (.o true) .segm v.2])])
noncomputable def Xo:=[Ad,bN,kF,jS,RN,kp,BN,P9,yW,mW,ib,Cv,VT,WF]
def z7:An:=⟨⟨[],[],false,0⟩,⟨[3,6,7,8,9,12],[],false,0⟩,⟨[],[]⟩,[(.normal,⟨[zp 3 0,zp 6 1,(7,false,[.nil]),zi 8,zo 9 2,zp 12 3],[.box [.st .door [.sl .arg,.sl .arg,.sl .arg,.sl .arg,.sl .arg]],.box [.st .door [.nil .macRow,.nil .macRow,.nil .half,.nil .conn,.nil .tupl]],za .segm,.box [.st .door [.own 4,.own 5,.own 6,.own 7,.own 8]],zf,zf,zf,zf,zf]⟩)]⟩
noncomputable def Xb:Fx:=⟨44,Tryz.f44,[(1000084,z7),(3000002,rA 0 29),(3000013,rA 0 84),(3000016,rA 0 92),(3000019,rA 0 114)],0⟩
noncomputable def GE:FT (Door×Int×Segm×Unit) (Door×List Segm×Int) (λx=>ay x.1/\aw x.2.2.1) (λx v=>ay v.1/\sL aw v.2.1):= .mk λ(x0,x1,x2,_)=>
  .bnd (β:=Bool×Unit) (.as (λw=>(w.1=false->x0.table.conns.length<=16/\x2.body.length<=1420)) (.cal tw.c (x0,()) λc1=>
   .ite (!c1) (.ret (true,()))<|
   .cal aA.c (x1,32,()) λc2=>
   .ite (!c2) (.ret (true,()))<|
   .cal gT.c (x2,()) λc3=>
   .ret ((!c3),()))) λ(u4a0,_)=>
  .ite u4a0 (.cal eE.c (x0,()) λc5=>
   .ret (c5,[],0))<|
  .val (yO.f (x1,x2,())) λc6=>
  .cal fu.c (x0.table,c6,()) λc7=>
  .ite (x2.to != x0.port) (.cal ll.c (x0,x2,()) λc8=>
   .ret (c8.1,c8.2.1,c8.2.2))<|
  .ite (decide (0<=c7)) (.cal yH.c (x0,c7,x2,()) λc9=>
   .ret (c9.1,c9.2.1,c9.2.2))<|
  .val (gg.f (x2,4,())) λc10=>
  .ite c10 (.cal eE.c (x0,()) λc11=>
   .cal iC.c (x0.halves,c6,()) λc12=>
   .bnd (β:=Bool×Unit) (.ite (decide (0<=c12)) (.grd (ba x0.halves c12)<|
     .val (cX.f ((x0.halves.getD c12.toNat (Ty.zero .half)).irs,1,())) λc13=>
     .ret ((x2.seq==c13),()))<|
    .ret (false,())) λ(u14a0,_)=>
   .bnd (β:=WT z7.es) (.as (λw=>ay w.2.1/\ay w.2.2.1/\sL aw w.2.2.2.1/\ay w.2.2.2.2.1) (.ite u14a0 (.cal qu.c (x0.halves,c6,()) λc15=>
     .ret (0,x0,(⟨0,0,⟨0,⟨false,0,0,[]⟩,⟨false,0,0,[]⟩,false⟩,⟨0,0,0,0⟩,[],⟨[],[]⟩,0⟩:Door),[],({c11 with halves:=c15}:Door),()))<|
    .ret (0,x0,(⟨0,0,⟨0,⟨false,0,0,[]⟩,⟨false,0,0,[]⟩,false⟩,⟨0,0,0,0⟩,[],⟨[],[]⟩,0⟩:Door),[],c11,()))) λ(_,_,_,u16a3,u16a4,_)=>
   .ret (u16a4,u16a3,0))<|
  .bnd (β:=Bool×Unit) (.val (gg.f (x2,2,())) λc17=>
   .ite c17 (.val (gg.f (x2,16,())) λc18=>
    .ite (!c18) (.val (gg.f (x2,1,())) λc19=>
     .ret ((!c19),()))<|
    .ret (false,()))<|
   .ret (false,())) λ(u20a0,_)=>
  .ite u20a0 (.cal Gy.c (x0,c6,x2,()) λc21=>
   .ret (c21.1,c21.2,0))<|
  .bnd (β:=Bool×Unit) (.val (gg.f (x2,16,())) λc22=>
   .ite c22 (.val (gg.f (x2,2,())) λc23=>
    .ret ((!c23),()))<|
   .ret (false,())) λ(u24a0,_)=>
  .ite u24a0 (.cal GF.c (x0,c6,x2,()) λc25=>
   .ret (c25.1,c25.2.1,c25.2.2))<|
  .val (gg.f (x2,16,())) λc26=>
  .ite c26 (.cal ll.c (x0,x2,()) λc27=>
   .ret (c27.1,c27.2.1,c27.2.2))<|
  .cal eE.c (x0,()) λc28=>
  .ret (c28,[],0)
noncomputable def W4:=cI st Xb Xo [] (ks:=[.st .door,.sc (.int .i64),.st .segm]) GE (λv=>[(true,pn (.o true) (.o true) (.o true) (.o true) (.o true) v.1),(false,[sc (.o true) .segm v.2.1]),(false,[.c (.int .i64 v.2.2)])]) Tryz.func44 trivial
noncomputable def QK:=[QR,Sk,S1,FI,W4,Pw]
noncomputable def QC:Fx:=⟨46,Tryz.f46,[(3000009,rA 0 55),(4000000,la ⟨[],[],false,0⟩ ⟨[],[.softb 4 2],false,0⟩)],0⟩
noncomputable def qk:FT (Stac×ac×Unit) (Stac×List ac×Int) (λx=>cL x.1/\sS x.2.1) (λx v=>cL v.1/\sL sS v.2.1):= .mk λ(x0,x1,_)=>
  .cal yB.c (x0,()) λc1=>
  .cal yb.c (x0,()) λc2=>
  .ite (!c2) (.ret (c1,[],0))<|
  .cal Bv.c (x0.link,x1,()) λc3=>
  .ite (c3.2.1==1) (.ret (({c1 with link.mac:=c3.1.mac,link.ip:=c3.1.ip,link.cache:=c3.1.cache}:Stac),[c3.2.2.2],0))<|
  .cal kO.c (c3.2.2.1.body,c3.2.2.1.src,c3.2.2.1.dst,()) λc4=>
  .bnd (β:=Bool×Unit) (.ite (c3.2.1 != 2) (.ret (true,()))<|
   .ret ((!c4.2),())) λ(u5a0,_)=>
  .ite u5a0 (.ret (({c1 with link.mac:=c3.1.mac,link.ip:=c3.1.ip,link.cache:=c3.1.cache}:Stac),[],0))<|
  .cal GE.c (x0.door,c3.2.2.1.src,c4.1,()) λc6=>
  .cal y9.c ((⟨c3.1,c6.1⟩:Stac),c3.2.2.1.src,c6.2.1,()) λc7=>
  .ret ((⟨c3.1,c6.1⟩:Stac),c7,c6.2.2)
noncomputable def RH:=cI st QC QK [] (ks:=[.st .stac,.sc .str]) qk (λv=>[(true,H6 .c (.o true) (.o true) (.o true) (.o true) (.o true) v.1),(false,[sc (.o true) .str v.2.1]),(false,[.c (.int .i64 v.2.2)])]) Tryz.func46 trivial
noncomputable def TW:=[bu,VN,Rl]
def Lf:An:=⟨⟨[],[],false,0⟩,⟨[1,2,3],[],false,0⟩,⟨[],[]⟩,[(.normal,⟨[zp 1 0,zb 2,zi 3],[.box [.st .keys [.sl .arg,.sl .arg]]]⟩)]⟩
noncomputable def Tt:Fx:=⟨178,Tryz.f178,[(1000005,Lf)],0⟩
noncomputable def gH:FT (Keys×Unit) (Bool) (λx=>dM x.1) (λx v=>(v=true->0<=x.1.epoch/\x.1.epoch<=4294967295)):= .mk λ(x0,_)=>
  .bnd (β:=Bool×Int×Keys×Unit) (.as (λw=>dM w.2.2.1/\0<=w.2.1/\w.2.2.1=x0) (.ite x0.two (.ret (false,1,x0,()))<|
   .ret (false,0,x0,()))) λ(_,u1a1,u1a2,_)=>
  .val (a9.f (u1a2.epoch,u1a1,4294967295,())) λc2=>
  .ite c2 (.cal ui.c (u1a2.now,()) λc3=>
   .ite c3 (.cal ui.c (u1a2.before,()) λc4=>
    .ite c4 (.ite u1a2.two (.ret true)<|
     .cal yV.c (u1a2.before,(⟨false,0,0,[]⟩:Mac),()) λc5=>
     .ret c5)<|
    .ret false)<|
   .ret false)<|
  .ret false
noncomputable def H3:=cI ao Tt TW [] (ks:=[.st .keys]) gH rB Tryz.func178 trivial
def qO:Sh:=⟨[zi 2,zi 3,zp 4 0,zp 5 1,zi 12,zi 14],[.box [.st .keys [.sl .arg,.sl .arg]],zx .tupl]⟩
noncomputable def qC (v0 v1 v2:Int)(v4:Keys)(v5:Tupl)(v3:Int)(a:Unit):Tr (Stp (Unit) ((Int))):=
 .cal nT.c (v4,v3,()) λc5=>
 .bnd (β:=Bool×Unit) (.ite c5.2 (.cal jH.c (c5.1,v5,v0,v3,v2,()) λc6=>
   .ret ((c6==v1),()))<|
  .ret (false,())) λ(u7a0,_)=>
 .ite u7a0 (.ret (.out v3))<|
 .ret (.next ())
noncomputable def hY:qO.V->nL qO Unit (Int):=λ(v0,v1,v2,v3,v4,v5,_)=>⟨v3,(),λv3 _=>(v0,v1,v2,v3,v4,v5,()),λv3 _=>(decide ((if 0<(IntKind.wrap .i64 (v4.epoch-1))then(IntKind.wrap .i64 (v4.epoch-1))else 0)<=v3)),qC v0 v1 v2 v4 v5,dn,(-1),(Int.toNat (v3-(if 0<(IntKind.wrap .i64 (v4.epoch-1))then(IntKind.wrap .i64 (v4.epoch-1))else 0)+1)),.inl,eR,oB .ret ⟨[zi 8,zi 9,zb 10],[]⟩ (λp=>(p,v2,true,())) (.exit 0) ⟨[zu 8,zu 9,zu 10],[]⟩ (λ_=>())⟩
theorem Am {v0 v1 v2 v3:Int}{v4:Keys}{v5:Tupl}(h0:v3<=9223372036854775807)(h1:0<=(if 0<(IntKind.wrap .i64 (v4.epoch-1))then(IntKind.wrap .i64 (v4.epoch-1))else 0))(h2:dM v4):(hY (v0,v1,v2,v3,v4,v5,())).D (if 0<(IntKind.wrap .i64 (v4.epoch-1))then(IntKind.wrap .i64 (v4.epoch-1))else 0) (λ_ _=>True) (λ_=>True):=
 lcD h0 h1 trivial
noncomputable def cV:FT (Keys×Tupl×Int×Int×Unit) (Int×Int×Bool) (λx=>dM x.1) (λ_ _=>True):= .mk (λ(x0,x1,x2,x3,_)=>
  .bnd (β:=Bool×Unit) (.as (λw=>(w.1=false->0<=x0.epoch/\x0.epoch<=4294967295)) (.cal gH.c (x0,()) λc1=>
   .ite (!c1) (.ret (true,()))<|
   .cal ae.c (x3,32,()) λc2=>
   .ret ((!c2),()))) λ(u3a0,_)=>
  .ite u3a0 (.ret (0,0,false))<|
  .cal gc.c (x3,()) λc4=>
  .lp (hY (x2,x3,c4.2.1,x0.epoch,x0,x1,())).lp λw8=> .sum w8 (λp8a0=>
  .ret (p8a0,c4.2.1,true))<|
  λ_=>
  .ret (0,0,false)) (np @Am)
noncomputable def E6:=dr ao Tryz.func125 [(0,lb [2,3,4,5,12,14] [8,9,10]),(3000001,rA 0 24),(3000008,rA 0 57)] [H3,bI,Fs,Nr,BE] 0 hY (ks:=[.st .keys,.st .tupl,.sc (.int .i64),.sc (.int .i64)]) cV (λv=>[(false,[.c (.int .i64 v.1)]),(false,[.c (.int .i64 v.2.1)]),(false,[.c (.bool v.2.2)])])
noncomputable def Ae:FT (Half×Door×Unit) (Bool) (λx=>ay x.2.1) (λ_ _=>True):= .mk λ(x0,y1,_)=>
  .cal aH.c (y1.table,x0.tuple,()) λc1=>
  .ret (decide (0<=c1))
noncomputable def Nk:=oV ao ⟨208,Tryz.f208,[],1⟩ [ka] [] [.st .half,.wr false [.ptr 0]] [.box [.st .door]] (λx y=>(x.1,y.1.1,())) Ae rB (λx y v=>((y.1.1,()),())) Tryz.func208 (by kernel_rfl) trivial
noncomputable def gY:=[Nk]
def cq:Sh:=⟨[zl 0 .half,(1,false,[.fn 208 [0]]),zi 7,zi 8],[.box [.st .door [.sl .any,.sl .any,.sl .any,.sl .any,.sl .any]]]⟩
noncomputable def gV:Fx:=⟨212,Tryz.f212,[(0,la ⟨[0,1,7,8],[.softo 0 6,.softo 0 10,.softo 0 16,.softo 0 17,.softo 0 18],false,1⟩ ⟨[4],[],false,1⟩)],1⟩
noncomputable def fN (v0:List Half)(v3:Door)(v2:Int)(a:Unit):Tr (Stp (Unit) ((Int))):=
 .grd (ba v0 v2)<|
 .cal Ae.c ((v0.getD v2.toNat (Ty.zero .half)),v3,()) λc2=>
 .ite c2 (.ret (.out v2))<|
 .ret (.next ())
noncomputable def bh:cq.V->nL cq Unit (Int):=λ(v0,v1,v2,v3,_)=>⟨v2,(),λv2 _=>(v0,v1,v2,v3,()),λv2 _=>(decide (v2<v1)),fN v0 v3,up,1,(Int.toNat (v1-v2)),.inl,eR,oB .ret ⟨[zi 4],[.box [.st .door [.sl .any,.sl .any,.sl .any,.sl .any,.sl .any]]]⟩ (λp=>(p,v3,())) (.exit 0) ⟨[zu 4],[.box [.st .door [.sl .any,.sl .any,.sl .any,.sl .any,.sl .any]]]⟩ (λ_=>(v3,()))⟩
theorem lY:LS Tryz.prog gV [0] (kD 0 cq bh):=fa st (aW gY) _ bh [] trivial
theorem mL {v0:List Half}{v1 v2:Int}{v3:Door}(h0:0<=v2)(h1:v1<=4611686018427387904)(h2:sS v0)(h3:ay v3)(h4:v1<=(v0.length:Int)):(bh (v0,v1,v2,v3,())).U v1 (λ_ _=>True) (λp=>v2<=p/\p<v1):=
 kx h0 h1 trivial
noncomputable def eY:FT (List Half×Door×Unit) (Int) (λx=>sS x.1/\ay x.2.1) (λx v=> -1<=v/\v<x.1.length):= .mk (λ(x0,y1_0,_)=>
  .lp (bh (x0,(x0.length:Int),0,y1_0,())).lp λw3=> .sum w3 (λp3a0=>
  .ret p3a0)<|
  λ_=>
  .ret (-1)) (np @mL)
noncomputable def pa:=oV st gV gY [(kD 0 cq bh)] [.sc (.sl .half),.fn 208 [0]] [.box [.st .door]] (λx y=>(x.1,y.1.1,())) eY rI (λx y v=>((y.1.1,()),())) Tryz.func212 (by kernel_rfl) ⟨lY,trivial⟩
noncomputable def cH:FT (List Half×Door×Unit) (Bool) (λx=>sS x.1/\ay x.2.1) (λ_ _=>True):= .mk λ(x0,y1_0,_)=>
  .cal eY.c (x0,y1_0,()) λc1=>
  .ret (decide (0<=c1))
noncomputable def mJ:=oV st ⟨207,Tryz.f207,[],1⟩ [pa] [] [.sc (.sl .half),.fn 208 [0]] [.box [.st .door]] (λx y=>(x.1,y.1.1,())) cH rB (λx y v=>((y.1.1,()),())) Tryz.func207 (by kernel_rfl) trivial
noncomputable def UV:=[bI,H3,EP,B6,bu,mJ]
noncomputable def Uc:Fx:=⟨108,Tryz.f108,[(3000001,rA 0 50)],0⟩
noncomputable def bQ:FT (Door×Unit) (Bool) (λx=>ay x.1) (λx v=>(v=true->x.1.table.conns.length<=16)):= .mk λ(x0,_)=>
  .bnd (β:=Bool×Unit) (.as (λw=>(w.1=false->0<=x0.keys.epoch/\x0.keys.epoch<=4294967295/\x0.table.conns.length<=16/\x0.table.waiting.length<=16/\x0.halves.length<=64)) (.cal ae.c (x0.port,16,()) λc1=>
   .ite (!c1) (.ret (true,()))<|
   .cal ae.c (x0.clock,32,()) λc2=>
   .ite (!c2) (.ret (true,()))<|
   .cal gH.c (x0.keys,()) λc3=>
   .ite (!c3) (.ret (true,()))<|
   .cal dk.c (x0.table,x0.limits,()) λc4=>
   .ite (!c4) (.ret (true,()))<|
   .cal eL.c (x0.halves,()) λc5=>
   .ite (!c5) (.ret (true,()))<|
   .ite (decide (x0.limits.halves<(x0.halves.length:Int))) (.ret (true,()))<|
   .val (a9.f (x0.chal,0,x0.limits.chal,())) λc6=>
   .ret ((!c6),()))) λ(u7a0,_)=>
  .ite u7a0 (.ret false)<|
  .cal cH.c (x0.halves,x0,()) λc8=>
  .ret (!c8)
noncomputable def uL:=cI ao Uc UV [] (ks:=[.st .door]) bQ rB Tryz.func108 trivial
noncomputable def lH:FT (Stac×Unit) (Bool) (λx=>cL x.1) (λx v=>(v=true->x.1.door.table.conns.length<=16)):= .mk λ(x0,_)=>
  .cal eV.c (x0.link,()) λc1=>
  .ite c1 (.cal bQ.c (x0.door,()) λc2=>
   .ret c2)<|
  .ret false
noncomputable def PA:=aU ao Tryz.func145 [AK,uL] (ks:=[.st .stac]) lH rB
noncomputable def WS:=[ot,uL,oU,iV,Ux,mX,ka,Ff,RF]
noncomputable def VQ:Fx:=⟨38,Tryz.f38,[(3000002,rA 0 25)],0⟩
noncomputable def lf:FT (Door×Tupl×Segm×Unit) (Door×List Segm) (λx=>ay x.1/\aw x.2.2.1) (λx v=>ay v.1/\sL aw v.2/\v.1.table.conns.length=x.1.table.conns.length):= .mk λ(x0,x1,x2,_)=>
  .cal jU.c (x0,()) λc1=>
  .bnd (β:=Bool×Unit) (.as (λw=>(w.1=false->x0.table.conns.length<=16/\x2.body.length<=1420)) (.cal bQ.c (x0,()) λc2=>
   .ite (!c2) (.ret (true,()))<|
   .cal aG.c (x1,()) λc3=>
   .ite (!c3) (.ret (true,()))<|
   .cal ai.c (x2,()) λc4=>
   .ret ((!c4),()))) λ(u5a0,_)=>
  .ite u5a0 (.ret (c1,[]))<|
  .cal eu.c (x0,x1,x2,()) λc6=>
  .cal aO.c (x0.halves,x1,()) λc7=>
  .ite (decide (0<=c7)) (.grd (ba x0.halves c7)<|
   .ite ((x0.halves.getD c7.toNat (Ty.zero .half)).irs != x2.seq) (.ret (c1,[]))<|
   .grd (ba x0.halves c7)<|
   .ret (c1,[({c6 with seq:=(x0.halves.getD c7.toNat (Ty.zero .half)).iss}:Segm)]))<|
  .cal aH.c (x0.table,x1,()) λc8=>
  .ite (decide (c8<0)) (.val (i3.f (x2.opts,())) λc9=>
   .cal nX.c (x0.halves,(⟨x1,c6.seq,x2.seq,c9,0,x2.window⟩:Half),x0.limits.halves,()) λc10=>
   .ret (({c1 with halves:=c10.1}:Door),[c6]))<|
  .ret (c1,[c6])
noncomputable def WL:=cI ao VQ WS [] (ks:=[.st .door,.st .tupl,.st .segm]) lf (λv=>[(true,pn (.o true) (.o true) (.o true) .d (.o true) v.1),(false,[sc (.o true) .segm v.2])]) Tryz.func38 trivial
noncomputable def Wh:=[ot,uL,oU,iV,ka,mX,ik,JT,Pe,E6,AQ,PL,EZ,EK,Ce]
@[reducible] def zR:An:=⟨⟨[],[],false,0⟩,⟨[3,4,5,6,7,8,9,10,11],[],false,0⟩,⟨[],[]⟩,[(.ret,⟨[zp 3 0,zp 4 1,zp 5 2,zp 6 3,zo 7 4,zi 8,zp 9 5,zp 10 6,zi 11],[.box [.st .door [.sl .arg,.sl .arg,.sl .arg,.sl .arg,.sl .arg]],zx .tupl,zx .segm,.box [.st .door [.own 7,.own 8,.own 9,.down 10,.own 11]],za .segm,.box [.st .door [.own 7,.own 8,.own 9,.down 10,.own 11]],.box [.st .conn [.nil .piec]],zf,zf,zf,.ofd,zf]⟩),(.ret,⟨[zp 3 0,zp 4 1,zp 5 2,zp 6 3,(7,false,[.nil]),zi 8,zp 9 4,zp 10 5,zi 11],[.box [.st .door [.sl .arg,.sl .arg,.sl .arg,.sl .arg,.sl .arg]],zx .tupl,zx .segm,.box [.st .door [.own 6,.own 7,.own 8,.down 9,.own 10]],.box [.st .door [.own 6,.own 7,.own 8,.down 9,.own 10]],.box [.st .conn [.nil .piec]],zf,zf,zf,.ofd,zf]⟩),(.normal,⟨[zp 3 0,zp 4 1,zp 5 2,zp 6 3,(7,false,[.nil]),zi 8,zp 9 4,zp 10 5,zi 11],[.box [.st .door [.sl .arg,.sl .arg,.sl .arg,.sl .arg,.sl .arg]],zx .tupl,zx .segm,.box [.st .door [.nil .macRow,.nil .macRow,.nil .half,.nil .conn,.nil .tupl]],.box [.st .door [.own 6,.own 7,.own 8,.down 9,.own 10]],zk .conn 11,zf,zf,zf,.ofd,zf,zf]⟩)]⟩
noncomputable def WA:Fx:=⟨43,Tryz.f43,[(1000051,zR),(3000002,rA 0 44)],0⟩
noncomputable def Gm:FT (Door×Tupl×Segm×Unit) (Door×List Segm×Int) (λx=>ay x.1/\aw x.2.2.1) (λx v=>ay v.1/\sL aw v.2.1/\x.1.table.conns.length<=v.1.table.conns.length):= .mk λ(x0,x1,x2,_)=>
  .cal jU.c (x0,()) λc1=>
  .bnd (β:=Bool×Unit) (.as (λw=>(w.1=false->x0.table.conns.length<=16/\x2.body.length<=1420)) (.cal bQ.c (x0,()) λc2=>
   .ite (!c2) (.ret (true,()))<|
   .cal aG.c (x1,()) λc3=>
   .ite (!c3) (.ret (true,()))<|
   .cal ai.c (x2,()) λc4=>
   .ite (!c4) (.ret (true,()))<|
   .cal aH.c (x0.table,x1,()) λc5=>
   .ret ((decide (0<=c5)),()))) λ(u6a0,_)=>
  .ite u6a0 (.ret (c1,[],0))<|
  .cal aO.c (x0.halves,x1,()) λc7=>
  .bnd (β:=WT zR.es) (.as (Sum.elim (λw=>ay w.2.2.1/\aw w.2.2.2.2.1/\ay w.2.2.2.2.2.1/\sL aw w.2.2.2.2.2.2.1/\ay w.2.2.2.2.2.2.2.1/\ah w.2.2.2.2.2.2.2.2.1/\x0.table.conns.length<=w.2.2.2.2.2.1.table.conns.length) (Sum.elim (λw=>ay w.2.2.1/\aw w.2.2.2.2.1/\ay w.2.2.2.2.2.1/\ay w.2.2.2.2.2.2.1/\ah w.2.2.2.2.2.2.2.1/\x0.table.conns.length<=w.2.2.2.2.2.1.table.conns.length) (λw=>ay w.2.2.1/\aw w.2.2.2.2.1/\ay w.2.2.2.2.2.1/\ay w.2.2.2.2.2.2.1/\ah w.2.2.2.2.2.2.2.1/\w.2.2.1=x0/\x0.table.conns.length<=w.2.2.2.2.2.2.1.table.conns.length))) (.ite (decide (0<=c7)) (.grd (ba x0.halves c7)<|
    .val (cM.f ((x0.halves.getD c7.toNat (Ty.zero .half)).iss,1,())) λc8=>
    .ite (x2.ack != c8) (.cal fL.c (x2,()) λc9=>
     .ret (.inl (0,1,x0,x1,x2,c1,c9,c1,(⟨⟨0,0,0⟩,0,⟨0,[],0,false,false,false⟩,⟨0,[],[],0,false⟩,0,0,⟨0,0,false,false,0,0⟩,0,0⟩:Conn),())))<|
    .val (cM.f ((x0.halves.getD c7.toNat (Ty.zero .half)).irs,1,())) λc10=>
    .ite (x2.seq != c10) (.ret (.inr (.inl (0,1,x0,x1,x2,c1,c1,(⟨⟨0,0,0⟩,0,⟨0,[],0,false,false,false⟩,⟨0,[],[],0,false⟩,0,0,⟨0,0,false,false,0,0⟩,0,0⟩:Conn),()))))<|
    .cal tK.c (x1,(x0.halves.getD c7.toNat (Ty.zero .half)).iss,(x0.halves.getD c7.toNat (Ty.zero .half)).irs,(x0.halves.getD c7.toNat (Ty.zero .half)).opts,x2.window,()) λc11=>
    .ret (.inr (.inr ((0,1,x0,x1,x2,(⟨0,0,⟨0,⟨false,0,0,[]⟩,⟨false,0,0,[]⟩,false⟩,⟨0,0,0,0⟩,[],⟨[],[]⟩,0⟩:Door),c1,c11,())))))<|
   .val (cM.f (x2.seq,(-1),())) λc12=>
   .val (cM.f (x2.ack,(-1),())) λc13=>
   .cal cV.c (x0.keys,x1,c12,c13,()) λc14=>
   .ite (!c14.2.2) (.cal fL.c (x2,()) λc15=>
    .ret (.inl (0,1,x0,x1,x2,c1,c15,c1,(⟨⟨0,0,0⟩,0,⟨0,[],0,false,false,false⟩,⟨0,[],[],0,false⟩,0,0,⟨0,0,false,false,0,0⟩,0,0⟩:Conn),())))<|
   .cal cK.c (c14.2.1,x2.opts,()) λc16=>
   .cal tK.c (x1,c13,c12,c16,x2.window,()) λc17=>
   .ret (.inr (.inr ((0,2,x0,x1,x2,(⟨0,0,⟨0,⟨false,0,0,[]⟩,⟨false,0,0,[]⟩,false⟩,⟨0,0,0,0⟩,[],⟨[],[]⟩,0⟩:Door),c1,c17,())))))) λw18=> .sum w18 (λ(u18a0,_,_,_,_,u18a5,u18a6,_,_,_)=>
  .ret (u18a5,u18a6,u18a0))<|
  λw18=> .sum w18 (λ(u18b0,_,_,_,_,u18b5,_,_,_)=>
  .ret (u18b5,[],u18b0))<|
  λ(_,u18c1,u18c2,u18c3,u18c4,_,u18c6,u18c7,_)=>
  .cal lM.c (u18c2.table,u18c7,u18c2.limits,()) λc19=>
  .ite (!c19.2) (.ret (u18c6,[],0))<|
  .cal nN.c (u18c7,u18c4,()) λc20=>
  .cal eC.c (c19.1,c20.1,()) λc21=>
  .cal n7.c (u18c2.halves,u18c3,()) λc22=>
  .ret (({u18c6 with halves:=c22,table.conns:=c21.conns,table.waiting:=c21.waiting}:Door),c20.2.1,u18c1)
noncomputable def WG:=cI ao WA Wh [] (ks:=[.st .door,.st .tupl,.st .segm]) Gm (λv=>[(true,pn (.o true) (.o true) (.o true) .d (.o true) v.1),(false,[sc (.o true) .segm v.2.1]),(false,[.c (.int .i64 v.2.2)])]) Tryz.func43 trivial
noncomputable def Wc:=[ot,uL,bI,iV,Qk,JT,ka,EZ,EK,yo,mX,ik,Ce,WL,WG]
@[reducible] def zD:An:=⟨⟨[],[],false,0⟩,⟨[3,6,7,8,9,12,13],[],false,0⟩,⟨[],[]⟩,[(.normal,⟨[zp 3 0,zp 6 1,(7,false,[.nil]),zi 8,zp 9 2,zp 12 3,(13,false,[.nil])],[.box [.st .door [.sl .arg,.sl .arg,.sl .arg,.sl .arg,.sl .arg]],.box [.st .door [.nil .macRow,.nil .macRow,.nil .half,.nil .conn,.nil .tupl]],.box [.st .door [.own 4,.own 5,.own 6,.down 7,.own 8]],zk .conn 9,zf,zf,zf,.ofd,zf,zf]⟩),(.normal,⟨[zp 3 0,zp 6 1,(7,false,[.nil]),zi 8,zp 9 2,zp 12 3,zo 13 4],[.box [.st .door [.sl .arg,.sl .arg,.sl .arg,.sl .arg,.sl .arg]],.box [.st .door [.nil .macRow,.nil .macRow,.nil .half,.nil .conn,.nil .tupl]],.box [.st .door [.own 5,.own 6,.own 7,.down 8,.own 9]],zk .conn 10,za .segm,zf,zf,zf,.ofd,zf,zf]⟩)]⟩
noncomputable def XF:Fx:=⟨45,Tryz.f45,[(1000064,zD),(3000002,rA 0 32),(3000018,rA 0 102),(3000021,rA 0 109),(3000024,rA 0 131)],0⟩
noncomputable def GH:FT (Door×Int×Segm×Unit) (Door×List Segm×Int) (λx=>ay x.1/\aw x.2.2.1) (λx v=>ay v.1/\sL aw v.2.1/\x.1.table.conns.length<=v.1.table.conns.length):= .mk λ(x0,x1,x2,_)=>
  .cal jU.c (x0,()) λc1=>
  .bnd (β:=Bool×Unit) (.as (λw=>(w.1=false->x0.table.conns.length<=16/\x2.body.length<=1420)) (.cal bQ.c (x0,()) λc2=>
   .ite (!c2) (.ret (true,()))<|
   .cal ae.c (x1,32,()) λc3=>
   .ite (!c3) (.ret (true,()))<|
   .cal ai.c (x2,()) λc4=>
   .ret ((!c4),()))) λ(u5a0,_)=>
  .ite u5a0 (.ret (c1,[],0))<|
  .val (yj.f (x1,x2,())) λc6=>
  .ite (x2.to != x0.port) (.cal fL.c (x2,()) λc7=>
   .ret (c1,c7,0))<|
  .cal aH.c (x0.table,c6,()) λc8=>
  .ite (decide (0<=c8)) (.grd (ba x0.table.conns c8)<|
   .cal nN.c ((x0.table.conns.getD c8.toNat (Ty.zero .conn)),x2,()) λc9=>
   .bnd (β:=WT zD.es) (.as (Sum.elim (λw=>ay w.2.1/\ay w.2.2.1/\ay w.2.2.2.1/\ah w.2.2.2.2.1/\w.2.1=x0) (λw=>ay w.2.1/\ay w.2.2.1/\ay w.2.2.2.1/\ah w.2.2.2.2.1/\sL aw w.2.2.2.2.2.1/\w.2.1=x0)) (.ite (c9.2.2==3) (.ite (x0.chal==x0.limits.chal) (.ret (.inl (0,x0,(⟨0,0,⟨0,⟨false,0,0,[]⟩,⟨false,0,0,[]⟩,false⟩,⟨0,0,0,0⟩,[],⟨[],[]⟩,0⟩:Door),c1,c9.1,())))<|
     .ret (.inr ((0,x0,(⟨0,0,⟨0,⟨false,0,0,[]⟩,⟨false,0,0,[]⟩,false⟩,⟨0,0,0,0⟩,[],⟨[],[]⟩,0⟩:Door),({c1 with chal:=(IntKind.wrap .i64 (c1.chal+1))}:Door),c9.1,c9.2.1,()))))<|
    .ret (.inr ((0,x0,(⟨0,0,⟨0,⟨false,0,0,[]⟩,⟨false,0,0,[]⟩,false⟩,⟨0,0,0,0⟩,[],⟨[],[]⟩,0⟩:Door),c1,c9.1,c9.2.1,()))))) λw10=> .sum w10 (λ(_,u10a1,_,u10a3,u10a4,_)=>
   .cal eC.c (u10a1.table,u10a4,()) λc11=>
   .ret (({u10a3 with table.conns:=c11.conns,table.waiting:=c11.waiting}:Door),[],0))<|
   λ(_,u10b1,_,u10b3,u10b4,u10b5,_)=>
   .cal eC.c (u10b1.table,u10b4,()) λc12=>
   .ret (({u10b3 with table.conns:=c12.conns,table.waiting:=c12.waiting}:Door),u10b5,0))<|
  .val (bm.f (x2,4,())) λc13=>
  .ite c13 (.cal aO.c (x0.halves,c6,()) λc14=>
   .bnd (β:=Bool×Unit) (.ite (decide (0<=c14)) (.grd (ba x0.halves c14)<|
     .val (cM.f ((x0.halves.getD c14.toNat (Ty.zero .half)).irs,1,())) λc15=>
     .ret ((x2.seq==c15),()))<|
    .ret (false,())) λ(u16a0,_)=>
   .ite u16a0 (.cal n7.c (x0.halves,c6,()) λc17=>
    .ret (({c1 with halves:=c17}:Door),[],0))<|
   .ret (c1,[],0))<|
  .bnd (β:=Bool×Unit) (.val (bm.f (x2,2,())) λc18=>
   .ite c18 (.val (bm.f (x2,16,())) λc19=>
    .ite (!c19) (.val (bm.f (x2,1,())) λc20=>
     .ret ((!c20),()))<|
    .ret (false,()))<|
   .ret (false,())) λ(u21a0,_)=>
  .ite u21a0 (.cal lf.c (x0,c6,x2,()) λc22=>
   .ret (c22.1,c22.2,0))<|
  .bnd (β:=Bool×Unit) (.val (bm.f (x2,16,())) λc23=>
   .ite c23 (.val (bm.f (x2,2,())) λc24=>
    .ret ((!c24),()))<|
   .ret (false,())) λ(u25a0,_)=>
  .ite u25a0 (.cal Gm.c (x0,c6,x2,()) λc26=>
   .ret (c26.1,c26.2.1,c26.2.2))<|
  .val (bm.f (x2,16,())) λc27=>
  .ite c27 (.cal fL.c (x2,()) λc28=>
   .ret (c1,c28,0))<|
  .ret (c1,[],0)
noncomputable def Xy:=cI ao XF Wc [] (ks:=[.st .door,.sc (.int .i64),.st .segm]) GH (λv=>[(true,pn (.o true) (.o true) (.o true) .d (.o true) v.1),(false,[sc (.o true) .segm v.2.1]),(false,[.c (.int .i64 v.2.2)])]) Tryz.func45 trivial
noncomputable def fH:FT (Stac×ac×Unit) (Stac×List ac×Int) (λx=>cL x.1/\sS x.2.1) (λx v=>cL v.1/\sL sS v.2.1):= .mk λ(x0,x1,_)=>
  .cal pX.c (x0,()) λc1=>
  .cal lH.c (x0,()) λc2=>
  .ite (!c2) (.ret (c1,[],0))<|
  .cal bq.c (x0.link,x1,()) λc3=>
  .ite (c3.2.1==1) (.ret (({c1 with link.mac:=c3.1.mac,link.ip:=c3.1.ip,link.cache:=c3.1.cache}:Stac),[c3.2.2.2],0))<|
  .ite (c3.2.1 != 2) (.ret (({c1 with link.mac:=c3.1.mac,link.ip:=c3.1.ip,link.cache:=c3.1.cache}:Stac),[],0))<|
  .cal cT.c (c3.2.2.1.body,c3.2.2.1.src,c3.2.2.1.dst,()) λc4=>
  .ite (!c4.2) (.ret (({c1 with link.mac:=c3.1.mac,link.ip:=c3.1.ip,link.cache:=c3.1.cache}:Stac),[],0))<|
  .cal GH.c (x0.door,c3.2.2.1.src,c4.1,()) λc5=>
  .cal yP.c ((⟨c3.1,c5.1⟩:Stac),c3.2.2.1.src,c5.2.1,()) λc6=>
  .ret ((⟨c3.1,c5.1⟩:Stac),c6,c5.2.2)
noncomputable def QT:=aU ao Tryz.func47 [Jd,PA,UK,Fj,Xy,O9] (ks:=[.st .stac,.sc .str]) fH (λv=>[(true,H6 (.o true) (.o true) (.o true) (.o true) .d (.o true) v.1),(false,[sc (.o true) .str v.2.1]),(false,[.c (.int .i64 v.2.2)])])
noncomputable def zL:List (Ent1 Tryz.prog):=[]
def kd:Sh:=⟨[zo 0 0,zi 1,zi 5],[.arr .half false false]⟩
noncomputable def zO:Fx:=⟨81,Tryz.f81,[(0,la ⟨[0,1,5],[],false,1⟩ ⟨[1,4],[],false,1⟩)],1⟩
noncomputable def kg (v1:Int)(a:Int×List Half):Tr (Stp (Int×List Half) (Empty)):=
 .grd (ba a.2 v1)<|
 .grd ((decide (0<=v1))&&(decide (v1<((a.2.set v1.toNat ({(a.2.getD v1.toNat (Ty.zero .half))with tuple.ip:=a.1}:Half)).length:Int))))<|
 .val ((a.2.set v1.toNat ({(a.2.getD v1.toNat (Ty.zero .half))with tuple.ip:=a.1}:Half)).set v1.toNat ({((a.2.set v1.toNat ({(a.2.getD v1.toNat (Ty.zero .half))with tuple.ip:=a.1}:Half)).getD v1.toNat (Ty.zero .half))with tuple.port:=(IntKind.wrap .i64 (a.1+1))}:Half)) λl1=>
 .grd (ba l1 v1)<|
 .val (l1.set v1.toNat ({(l1.getD v1.toNat (Ty.zero .half))with tuple.my:=(IntKind.wrap .i64 ((IntKind.wrap .i64 (a.1+1))+1))}:Half)) λl2=>
 .val (IntKind.wrap .i64 ((IntKind.wrap .i64 ((IntKind.wrap .i64 (a.1+1))+1))+1)) λe3=>
 .grd (ba l2 v1)<|
 .grd ((decide (0<=v1))&&(decide (v1<((l2.set v1.toNat ({(l2.getD v1.toNat (Ty.zero .half))with iss:=e3}:Half)).length:Int))))<|
 .val ((l2.set v1.toNat ({(l2.getD v1.toNat (Ty.zero .half))with iss:=e3}:Half)).set v1.toNat ({((l2.set v1.toNat ({(l2.getD v1.toNat (Ty.zero .half))with iss:=e3}:Half)).getD v1.toNat (Ty.zero .half))with irs:=(IntKind.wrap .i64 (e3+1))}:Half)) λl4=>
 .grd (ba l4 v1)<|
 .val (l4.set v1.toNat ({(l4.getD v1.toNat (Ty.zero .half))with opts.mss:=(IntKind.wrap .i64 ((IntKind.wrap .i64 (e3+1))+1))}:Half)) λl5=>
 .val (IntKind.wrap .i64 ((IntKind.wrap .i64 ((IntKind.wrap .i64 (e3+1))+1))+1)) λe6=>
 .grd (ba l5 v1)<|
 .grd ((decide (0<=v1))&&(decide (v1<((l5.set v1.toNat ({(l5.getD v1.toNat (Ty.zero .half))with opts.scale:=e6}:Half)).length:Int))))<|
 .val ((l5.set v1.toNat ({(l5.getD v1.toNat (Ty.zero .half))with opts.scale:=e6}:Half)).set v1.toNat ({((l5.set v1.toNat ({(l5.getD v1.toNat (Ty.zero .half))with opts.scale:=e6}:Half)).getD v1.toNat (Ty.zero .half))with opts.sack:=(((IntKind.wrap .i64 (e6+1)).tmod 3)==0)}:Half)) λl7=>
 .grd (ba l7 v1)<|
 .val (l7.set v1.toNat ({(l7.getD v1.toNat (Ty.zero .half))with opts.stamp:=(((IntKind.wrap .i64 ((IntKind.wrap .i64 (e6+1))+1)).tmod 3)==0)}:Half)) λl8=>
 .val (IntKind.wrap .i64 ((IntKind.wrap .i64 ((IntKind.wrap .i64 (e6+1))+1))+1)) λe9=>
 .grd (ba l8 v1)<|
 .grd ((decide (0<=v1))&&(decide (v1<((l8.set v1.toNat ({(l8.getD v1.toNat (Ty.zero .half))with opts.val:=e9}:Half)).length:Int))))<|
 .val ((l8.set v1.toNat ({(l8.getD v1.toNat (Ty.zero .half))with opts.val:=e9}:Half)).set v1.toNat ({((l8.set v1.toNat ({(l8.getD v1.toNat (Ty.zero .half))with opts.val:=e9}:Half)).getD v1.toNat (Ty.zero .half))with opts.echo:=(IntKind.wrap .i64 (e9+1))}:Half)) λl10=>
 .grd (ba l10 v1)<|
 .val (l10.set v1.toNat ({(l10.getD v1.toNat (Ty.zero .half))with age:=(IntKind.wrap .i64 ((IntKind.wrap .i64 (e9+1))+1))}:Half)) λl11=>
 .val (IntKind.wrap .i64 ((IntKind.wrap .i64 ((IntKind.wrap .i64 (e9+1))+1))+1)) λe12=>
 .grd (ba l11 v1)<|
 .ret (.next ((IntKind.wrap .i64 (e12+1)),(l11.set v1.toNat ({(l11.getD v1.toNat (Ty.zero .half))with window:=e12}:Half))))
noncomputable def bL:kd.V->wa kd (Int×List Half):=λ(v0,v1,v2,_)=>⟨v1,(v0,v2),λv1 a=>(a.1,v1,a.2,()),λv1 a=>(decide (v1<(a.2.length:Int))),kg,up,1,(Int.toNat ((v2.length:Int)-v1)),Empty.elim,Prod.mk,oN (.exit 0) ⟨[zi 1,zu 4],[.arr .half false false]⟩ (λx=>(x.2.1,x.2.2,()))⟩
theorem Dz:LS Tryz.prog zO [0] (kD 0 kd bL):=fa st (aW zL) _ bL [] trivial
theorem D8 {v0 v1:Int}{v2:List Half}(h0:0<=v1)(h1:(v2.length:Int)<=4611686018427387904)(h2:sS v2)(h3:v2.length=v2.length/\v0<=9223372036854775807):(bL (v0,v1,v2,())).S (λv1 a=>a.2.length=v2.length/\a.2.length=v2.length/\a.1<=9223372036854775807) (λ_=>True):=by
 refine LC.okS ⟨rfl,h3⟩ (λj a hj hv=>⟨⟨?_, ?_⟩, ?_⟩) (λa hv=> ?_)
 ·simp only[bL,decide_eq_true_eq]at*;omega
 ·simp only[bL]at*;exact upw (by omega) (by omega)
 ·refine Tr.G2 ?_ λ_=>Tr.G2 ?_ λ_=>Tr.V λ_ _=>Tr.G2 ?_ λ_=>Tr.V λ_ _=>Tr.V λ_ _=>Tr.G2 ?_ λ_=>Tr.G2 ?_ λ_=>Tr.V λ_ _=>Tr.G2 ?_ λ_=>Tr.V λ_ _=>Tr.V λ_ _=>Tr.G2 ?_ λ_=>Tr.G2 ?_ λ_=>Tr.V λ_ _=>Tr.G2 ?_ λ_=>Tr.V λ_ _=>Tr.V λ_ _=>Tr.G2 ?_ λ_=>Tr.G2 ?_ λ_=>Tr.V λ_ _=>Tr.G2 ?_ λ_=>Tr.V λ_ _=>Tr.V λ_ _=>Tr.G2 ?_ λ_=>Tr.Rn ?_
  all_goals (try simp only[bL]at*)<;>(grind)
 ·simp only[bL,decide_eq_false_iff_not]at*;omega
noncomputable def su:FT (List Half×Int×Unit) (Int×List Half) (λx=>sS x.1/\x.2.1<=9223372036854775807) (λx v=>sS v.2/\v.1<=9223372036854775807):=⟨λ(x0,x1,_)=>
  .lp (bL (x1,0,x0,())).lp λ(_,a13_0,a13_1)=>
  .ret (a13_0,a13_1),
 λ(x0,x1,_) hp=>by
  refine Tr.L (D8 ?_ ?_ ?_ ?_) (λ(a13_0,a13_1) _=>Tr.R ?_) (λp=>Empty.elim p)
  all_goals ((try simp only[bL,LC.lp,LC.ct,Ct.lp]at*)<;>grind)⟩
noncomputable def Lh:=oV st zO zL [(kD 0 kd bL)] [.wr false [.own 0],.sc (.int .i64)] [.arr .half] (λx y=>(y.1,x.2.1,())) su (λv=>[(false,[.c (.int .i64 v.1)])]) (λx y v=>(v.2,())) Tryz.func81 (by kernel_rfl) ⟨Dz,trivial⟩
def tY:Sh:=⟨[zl 0 .half,zi 1,zi 5],[]⟩
noncomputable def ki (v0:List Half)(v2:Int)(a:Int):Tr (Stp (Int) ((Int))):=
 .grd (ba v0 v2)<|
 .ite ((v0.getD v2.toNat (Ty.zero .half)).tuple.ip != a) (.ret (.out a))<|
 .grd (ba v0 v2)<|
 .ite ((v0.getD v2.toNat (Ty.zero .half)).tuple.port != (IntKind.wrap .i64 (a+1))) (.ret (.out (IntKind.wrap .i64 (a+1))))<|
 .grd (ba v0 v2)<|
 .ite ((v0.getD v2.toNat (Ty.zero .half)).tuple.my != (IntKind.wrap .i64 ((IntKind.wrap .i64 (a+1))+1))) (.ret (.out (IntKind.wrap .i64 ((IntKind.wrap .i64 (a+1))+1))))<|
 .val (IntKind.wrap .i64 ((IntKind.wrap .i64 ((IntKind.wrap .i64 (a+1))+1))+1)) λe1=>
 .grd (ba v0 v2)<|
 .ite ((v0.getD v2.toNat (Ty.zero .half)).iss != e1) (.ret (.out e1))<|
 .grd (ba v0 v2)<|
 .ite ((v0.getD v2.toNat (Ty.zero .half)).irs != (IntKind.wrap .i64 (e1+1))) (.ret (.out (IntKind.wrap .i64 (e1+1))))<|
 .grd (ba v0 v2)<|
 .ite ((v0.getD v2.toNat (Ty.zero .half)).opts.mss != (IntKind.wrap .i64 ((IntKind.wrap .i64 (e1+1))+1))) (.ret (.out (IntKind.wrap .i64 ((IntKind.wrap .i64 (e1+1))+1))))<|
 .val (IntKind.wrap .i64 ((IntKind.wrap .i64 ((IntKind.wrap .i64 (e1+1))+1))+1)) λe2=>
 .grd (ba v0 v2)<|
 .ite ((v0.getD v2.toNat (Ty.zero .half)).opts.scale != e2) (.ret (.out e2))<|
 .grd (ba v0 v2)<|
 .ite (!((v0.getD v2.toNat (Ty.zero .half)).opts.sack==(((IntKind.wrap .i64 (e2+1)).tmod 3)==0))) (.ret (.out (IntKind.wrap .i64 (e2+1))))<|
 .grd (ba v0 v2)<|
 .ite (!((v0.getD v2.toNat (Ty.zero .half)).opts.stamp==(((IntKind.wrap .i64 ((IntKind.wrap .i64 (e2+1))+1)).tmod 3)==0))) (.ret (.out (IntKind.wrap .i64 ((IntKind.wrap .i64 (e2+1))+1))))<|
 .val (IntKind.wrap .i64 ((IntKind.wrap .i64 ((IntKind.wrap .i64 (e2+1))+1))+1)) λe3=>
 .grd (ba v0 v2)<|
 .ite ((v0.getD v2.toNat (Ty.zero .half)).opts.val != e3) (.ret (.out e3))<|
 .grd (ba v0 v2)<|
 .ite ((v0.getD v2.toNat (Ty.zero .half)).opts.echo != (IntKind.wrap .i64 (e3+1))) (.ret (.out (IntKind.wrap .i64 (e3+1))))<|
 .grd (ba v0 v2)<|
 .ite ((v0.getD v2.toNat (Ty.zero .half)).age != (IntKind.wrap .i64 ((IntKind.wrap .i64 (e3+1))+1))) (.ret (.out (IntKind.wrap .i64 ((IntKind.wrap .i64 (e3+1))+1))))<|
 .val (IntKind.wrap .i64 ((IntKind.wrap .i64 ((IntKind.wrap .i64 (e3+1))+1))+1)) λe4=>
 .grd (ba v0 v2)<|
 .ite ((v0.getD v2.toNat (Ty.zero .half)).window != e4) (.ret (.out e4))<|
 .ret (.next (IntKind.wrap .i64 (e4+1)))
noncomputable def j7:tY.V->nL tY Int (Int):=λ(v0,v1,v2,_)=>⟨v2,v1,λv2 a=>(v0,a,v2,()),λv2 _=>(decide (v2<(v0.length:Int))),ki v0,up,1,(Int.toNat ((v0.length:Int)-v2)),.inl,eR,oB .ret ⟨[zi 1,zi 4],[]⟩ (λp=>(p,(-1),())) (.exit 0) ⟨[zi 1,zu 4],[]⟩ (λx=>(x.2,()))⟩
theorem DK {v0:List Half}{v1 v2:Int}(h0:0<=v2)(h1:(v0.length:Int)<=4611686018427387904)(h2:v1<=9223372036854775807):(j7 (v0,v1,v2,())).U (v0.length:Int) (λv2 a=>a<=9223372036854775807) (λ_=>True):=
 kx (a:=v1) h0 h1 h2
noncomputable def sy:FT (List Half×Int×Unit) (Int) (λx=>sS x.1/\x.2.1<=9223372036854775807) (λx v=>v<=9223372036854775807):= .mk (λ(x0,x1,_)=>
  .lp (j7 (x0,x1,0,())).lp λw5=> .sum w5 (λ_=>
  .ret (-1))<|
  λ(_,a5_0)=>
  .ret a5_0) (np @DK)
noncomputable def KP:=dr st Tryz.func85 [(0,lb [0,1,5] [1,4])] [] 0 j7 (ks:=[.sc (.sl .half),.sc (.int .i64)]) sy rI
noncomputable def gd:FT (Door×Int×Unit) (Int×List MacRow×List MacRow×List Half×List Conn×List Tupl) (λx=>ay x.1/\x.2.1<=9223372036854775807) (λx v=>sL aE v.2.1/\sL aE v.2.2.1/\sS v.2.2.2.1/\sL ah v.2.2.2.2.1/\sS v.2.2.2.2.2/\v.1<=9223372036854775807):= .mk λ(x0,x1,_)=>
  .cal uf.c (x0.keys,x1,()) λc1=>
  .cal su.c (x0.halves,c1.1,()) λc2=>
  .cal sA.c (x0.table,c2.1,()) λc3=>
  .ret (c3.1,c1.2.1,c1.2.2,c2.2,c3.2.1,c3.2.2)
noncomputable def NP:=oV st ⟨18,Tryz.f18,[],5⟩ [Ot,Lh,KL] [] [.wr true [.c (.int .i64),.c (.int .i64),.c (.int .i64),.c .bool,.c (.int .u64),.c (.int .u64),.own 0,.c .bool,.c (.int .u64),.c (.int .u64),.own 1,.c .bool,.c (.int .i64),.c (.int .i64),.c (.int .i64),.c (.int .i64),.own 2,.down 3,.own 4,.c (.int .i64)],.sc (.int .i64)] [.arr .macRow,.arr .macRow,.arr .half,.dar .conn,.arr .tupl] (λx y=>((⟨x.1.1,x.1.2.1,⟨x.1.2.2.1,⟨x.1.2.2.2.1,x.1.2.2.2.2.1,x.1.2.2.2.2.2.1,y.1⟩,⟨x.1.2.2.2.2.2.2.1,x.1.2.2.2.2.2.2.2.1,x.1.2.2.2.2.2.2.2.2.1,y.2.1⟩,x.1.2.2.2.2.2.2.2.2.2.1⟩,⟨x.1.2.2.2.2.2.2.2.2.2.2.1,x.1.2.2.2.2.2.2.2.2.2.2.2.1,x.1.2.2.2.2.2.2.2.2.2.2.2.2.1,x.1.2.2.2.2.2.2.2.2.2.2.2.2.2.1⟩,y.2.2.1,⟨y.2.2.2.1,y.2.2.2.2.1⟩,x.1.2.2.2.2.2.2.2.2.2.2.2.2.2.2.1⟩:Door),x.2.1,())) gd (λv=>[(false,[.c (.int .i64 v.1)])]) (λx y v=>(v.2.1,v.2.2.1,v.2.2.2.1,v.2.2.2.2.1,v.2.2.2.2.2,())) Tryz.func18 (by kernel_rfl) trivial
noncomputable def ua:FT (Door×Int×Unit) (Int) (λx=>ay x.1/\x.2.1<=9223372036854775807) (λx v=>v<=9223372036854775807):= .mk λ(x0,x1,_)=>
  .cal ur.c (x0.keys,x1,()) λc1=>
  .ite (decide (c1<0)) (.ret (-1))<|
  .cal sy.c (x0.halves,c1,()) λc2=>
  .ite (decide (c2<0)) (.ret (-1))<|
  .cal sk.c (x0.table,c2,()) λc3=>
  .ite (decide (c3<0)) (.ret (-1))<|
  .ret c3
noncomputable def MR:=aU st Tryz.func20 [Np,KP,K7] (ks:=[.st .door,.sc (.int .i64)]) ua rI
noncomputable def oY:FT (Stac×Int×Unit) (Int×List Entr×List MacRow×List MacRow×List Half×List Conn×List Tupl) (λx=>cL x.1/\x.2.1<=9223372036854775807) (λx v=>sS v.2.1/\sL aE v.2.2.1/\sL aE v.2.2.2.1/\sS v.2.2.2.2.1/\sL ah v.2.2.2.2.2.1/\sS v.2.2.2.2.2.2/\v.1<=9223372036854775807):= .mk λ(x0,x1,_)=>
  .cal Az.c (x0.link,x1,()) λc1=>
  .cal gd.c (x0.door,c1.1,()) λc2=>
  .ret (c2.1,c1.2,c2.2.1,c2.2.2.1,c2.2.2.2.1,c2.2.2.2.2.1,c2.2.2.2.2.2)
noncomputable def KJ:=oV st ⟨30,Tryz.f30,[],6⟩ [NQ,NP] [] [.wr true [.c (.int .i64),.c (.int .i64),.own 0,.c (.int .i64),.c (.int .i64),.c (.int .i64),.c .bool,.c (.int .u64),.c (.int .u64),.own 1,.c .bool,.c (.int .u64),.c (.int .u64),.own 2,.c .bool,.c (.int .i64),.c (.int .i64),.c (.int .i64),.c (.int .i64),.own 3,.down 4,.own 5,.c (.int .i64)],.sc (.int .i64)] [.arr .entr,.arr .macRow,.arr .macRow,.arr .half,.dar .conn,.arr .tupl] (λx y=>((⟨⟨x.1.1,x.1.2.1,y.1⟩,⟨x.1.2.2.1,x.1.2.2.2.1,⟨x.1.2.2.2.2.1,⟨x.1.2.2.2.2.2.1,x.1.2.2.2.2.2.2.1,x.1.2.2.2.2.2.2.2.1,y.2.1⟩,⟨x.1.2.2.2.2.2.2.2.2.1,x.1.2.2.2.2.2.2.2.2.2.1,x.1.2.2.2.2.2.2.2.2.2.2.1,y.2.2.1⟩,x.1.2.2.2.2.2.2.2.2.2.2.2.1⟩,⟨x.1.2.2.2.2.2.2.2.2.2.2.2.2.1,x.1.2.2.2.2.2.2.2.2.2.2.2.2.2.1,x.1.2.2.2.2.2.2.2.2.2.2.2.2.2.2.1,x.1.2.2.2.2.2.2.2.2.2.2.2.2.2.2.2.1⟩,y.2.2.2.1,⟨y.2.2.2.2.1,y.2.2.2.2.2.1⟩,x.1.2.2.2.2.2.2.2.2.2.2.2.2.2.2.2.2.1⟩⟩:Stac),x.2.1,())) oY (λv=>[(false,[.c (.int .i64 v.1)])]) (λx y v=>(v.2.1,v.2.2.1,v.2.2.2.1,v.2.2.2.2.1,v.2.2.2.2.2.1,v.2.2.2.2.2.2,())) Tryz.func30 (by kernel_rfl) trivial
noncomputable def oX:FT (Stac×Int×Unit) (Int) (λx=>cL x.1/\x.2.1<=9223372036854775807) (λx v=>v<=9223372036854775807):= .mk λ(x0,x1,_)=>
  .cal AL.c (x0.link,x1,()) λc1=>
  .ite (decide (c1<0)) (.ret (-1))<|
  .cal ua.c (x0.door,c1,()) λc2=>
  .ite (decide (c2<0)) (.ret (-1))<|
  .ret c2
noncomputable def KU:=aU st Tryz.func50 [Oh,MR] (ks:=[.st .stac,.sc (.int .i64)]) oX rI
noncomputable def Al:=[Q6,PZ,RH,QT,Qn,Ln,KJ,Ft,KU,Fe]
noncomputable def Ax:Fx:=⟨8,Tryz.f8,[(3000010,rA 0 58),(3000016,rA 0 85),(3000031,rA 0 127)],0⟩
noncomputable def nH:FX (Stac×ac×Unit) (Bool) (λ_=>True) (cG [.st .stac,.sc .str]):=⟨λ(x0,x1,_)=>
  .ite (decide (1048576<(x1.length:Int))) (.ret true)<|
  .cal dG.c (x0,1048576,()) λc1=>
  .ite (decide (c1<0)) (.ret true)<|
  .cal nV.c (x0,()) λc2=>
  .cal qk.c (c2,x1,()) λc3=>
  .cal nV.c (x0,()) λc4=>
  .cal fH.c (c4,x1,()) λc5=>
  .bnd (β:=Bool×Unit) (.cal nQ.c (c5.1,c3.1,()) λc6=>
   .ite (!c6) (.ret (true,()))<|
   .cal lK.c (c5.2.1,c3.2.1,()) λc7=>
   .ite (!c7) (.ret (true,()))<|
   .ret ((c5.2.2 != c3.2.2),())) λ(u8a0,_)=>
  .ite u8a0 (.ret false)<|
  .cal nV.c (x0,()) λc9=>
  .cal nQ.c (c4,c9,()) λc10=>
  .ite (!c10) (.ret false)<|
  .cal oY.c (c4,1,()) λc11=>
  .bnd (β:=Bool×Unit) (.ite (decide (c11.1<0)) (.ret (true,()))<|
   .cal nQ.c (c5.1,c3.1,()) λc12=>
   .ite (!c12) (.ret (true,()))<|
   .cal lK.c (c5.2.1,c3.2.1,()) λc13=>
   .ite (!c13) (.ret (true,()))<|
   .ret ((c5.2.2 != c3.2.2),())) λ(u14a0,_)=>
  .ite u14a0 (.ret false)<|
  .cal oY.c (c5.1,1,()) λc15=>
  .cal oc.c (c5.2.1,c15.1,()) λc16=>
  .cal oX.c (({c5.1 with link.cache:=c15.2.1,door.keys.now.rows:=c15.2.2.1,door.keys.before.rows:=c15.2.2.2.1,door.halves:=c15.2.2.2.2.1,door.table.conns:=c15.2.2.2.2.2.1,door.table.waiting:=c15.2.2.2.2.2.2}:Stac),1,()) λc17=>
  .ite (decide (c17<0)) (.ret false)<|
  .cal kL.c (c16.2,c17,()) λc18=>
  .ite (decide (c18<0)) (.ret false)<|
  .ite (c18 != c16.1) (.ret false)<|
  .cal nV.c (x0,()) λc19=>
  .cal fH.c (c19,x1,()) λc20=>
  .bnd (β:=Bool×Unit) (.cal nQ.c (c20.1,c3.1,()) λc21=>
   .ite (!c21) (.ret (true,()))<|
   .cal lK.c (c20.2.1,c3.2.1,()) λc22=>
   .ite (!c22) (.ret (true,()))<|
   .ret ((c20.2.2 != c3.2.2),())) λ(u23a0,_)=>
  .ite u23a0 (.ret false)<|
  .cal oX.c (({c5.1 with link.cache:=c15.2.1,door.keys.now.rows:=c15.2.2.1,door.keys.before.rows:=c15.2.2.2.1,door.halves:=c15.2.2.2.2.1,door.table.conns:=c15.2.2.2.2.2.1,door.table.waiting:=c15.2.2.2.2.2.2}:Stac),1,()) λc24=>
  .ite (decide (c24<0)) (.ret false)<|
  .cal kL.c (c16.2,c24,()) λc25=>
  .ite (decide (c25<0)) (.ret false)<|
  .ite (c25 != c16.1) (.ret false)<|
  .ret true,
 λ(x0,x1,_) hp hf=>by
  simp only[cG,Pk.fact,jT,gy,Fl.fact,Ty.fl,Ty.toH]at hf
  refine Tr.I (λb0=>Tr.R trivial) λb0=>Tr.C trivial λc1 hc1 qc1=>Tr.I (λb1=>Tr.R trivial) λb1=>Tr.C ?_ λc2 hc2 qc2=>Tr.C ?_ λc3 hc3 qc3=>Tr.C ?_ λc4 hc4 qc4=>Tr.C ?_ λc5 hc5 qc5=>Tr.B (Q':=λ_=>True) (Tr.C ?_ λc6 hc6 qc6=>Tr.I (λb2=>Tr.R trivial) λb2=>Tr.C ?_ λc7 hc7 qc7=>Tr.F (by kernel_rfl) trivial) (λ(u8a0,_) hj8 qj8=>Tr.I (λb2=>Tr.R trivial) λb2=>Tr.C ?_ λc9 hc9 qc9=>Tr.C ?_ λc10 hc10 qc10=>Tr.I (λb3=>Tr.R trivial) λb3=>Tr.C ?_ λc11 hc11 qc11=>Tr.B (Q':=λ_=>True) (Tr.I (λb4=>Tr.R trivial) λb4=>Tr.C ?_ λc12 hc12 qc12=>Tr.I (λb5=>Tr.R trivial) λb5=>Tr.C ?_ λc13 hc13 qc13=>Tr.F (by kernel_rfl) trivial) (λ(u14a0,_) hj14 qj14=>Tr.I (λb4=>Tr.R trivial) λb4=>Tr.C ?_ λc15 hc15 qc15=>Tr.C ?_ λc16 hc16 qc16=>Tr.C ?_ λc17 hc17 qc17=>Tr.I (λb5=>Tr.R trivial) λb5=>Tr.C ?_ λc18 hc18 qc18=>Tr.I (λb6=>Tr.R trivial) λb6=>Tr.I (λb7=>Tr.R trivial) λb7=>Tr.C ?_ λc19 hc19 qc19=>Tr.C ?_ λc20 hc20 qc20=>Tr.B (Q':=λ_=>True) (Tr.C ?_ λc21 hc21 qc21=>Tr.I (λb8=>Tr.R trivial) λb8=>Tr.C ?_ λc22 hc22 qc22=>Tr.F (by kernel_rfl) trivial) (λ(u23a0,_) hj23 qj23=>Tr.I (λb8=>Tr.R trivial) λb8=>Tr.C ?_ λc24 hc24 qc24=>Tr.I (λb9=>Tr.R trivial) λb9=>Tr.C ?_ λc25 hc25 qc25=>Tr.F (by kernel_rfl) trivial)))
  all_goals ((try simp only[Tr.nice,kt]at*)<;>((obtain⟨⟨_,_,⟨hc,_⟩,_,_,_,_,_,_,⟨n1,n2⟩,_,_,_,⟨m1,m2⟩,_,_,_,_,_,⟨hh,_⟩,⟨hl,he⟩,⟨hw,_⟩,_⟩,_,_⟩:=hf;have k1:0<=dG.f (x0,1048576,()):=(by rw[<-hc1];simpa using b1);have hS:=(My x0 1048576 (by omega) (by omega) hc n1 n2 m1 m2 hh hl he hw k1);have hS2:=hS.2;have hr:=of_decide_eq_false b0;grind)))⟩
noncomputable def Bb:=YH st Ax Al [] (ks:=[.st .stac,.sc .str]) nH rB Tryz.func8 trivial
theorem cU (n b:Int):aA.f (n,b,())=ae.f (n,b,()):=by
 simp only[PX,aA,ae,bx,ar]
 cases h:(decide (1<=b)&&decide (b<=62))with
 |false=>simp only[cond_false]
 |true=>
  have h1:1<=b/\b<=62:=by simpa using h
  rw[Qd (by omega) (by omega)]
theorem tJ (x:Tupl):nS.f (x,())=aG.f (x,()):=by
 simp only[PX,nS,aG,cU]
theorem gW (x:Opti):d9.f (x,())=aF.f (x,()):=by
 simp only[PX,d9,aF,cU,bx,ar]
theorem Vc (x:Int):CM.f (x,())=fE.f (x,()):=by
 simp only[PX,CM,fE,bx,ar]
theorem abZ:fE.f (0,())=64/\fE.f (1,())=256/\fE.f (2,())=536/\fE.f (3,())=1024/\fE.f (4,())=1300/\fE.f (5,())=1400/\fE.f (6,())=1440/\fE.f (7,())=1460:=by
 simp[PX,fE,ar]
theorem S2 (x:Int):um.f (x,())=ij.f (x,()):=by
 obtain⟨h0,h1,h2,h3,h4,h5,h6,h7⟩:=abZ
 simp only[PX,um,ij,kZ,dH,show Int.toNat (8-0)=8 from rfl,show Int.toNat (7-0)=7 from rfl,aR,vA,k8,Vc]
 simp only[show(0:Int)+1=1 from rfl,show(1:Int)+1=2 from rfl,show(2:Int)+1=3 from rfl,show(3:Int)+1=4 from rfl,show(4:Int)+1=5 from rfl,show(5:Int)+1=6 from rfl,show(6:Int)+1=7 from rfl,
  show(7:Int)+ -1=6 from rfl,show(6:Int)+ -1=5 from rfl,show(5:Int)+ -1=4 from rfl,show(4:Int)+ -1=3 from rfl,show(3:Int)+ -1=2 from rfl,show(2:Int)+ -1=1 from rfl,h0,h1,h2,h3,h4,h5,h6,h7]
 grind [Stp.elim]
theorem ny (x:Int):cS.f (x,())=x%4294967296:=by
 simp only[PX,cS]
 rcases Int.lt_or_le x 0 with h|h
 ·rw[(gF 4294967296).2 h,cO]
  cases hd:decide (-(-x%4294967296)<0)with
  |true=>simp only[decide_eq_true_eq]at hd;simp only[cond_true];omega
  |false=>simp only[decide_eq_false_iff_not]at hd;simp only[cond_false];omega
 ·rw[(gF 4294967296).1 h,cO]
  cases hd:decide (x%4294967296<0)with
  |true=>simp only[decide_eq_true_eq]at hd;omega
  |false=>rfl
theorem bO (a b:Int):cM.f (a,b,())=(a+b)%4294967296:=by
 simp only[PX,cM]
 rw[rp,cO];omega
theorem jy (a b:Int):cX.f (a,b,())=cM.f (a,b,()):=by
 rw[bO]
 simp only[PX,cX,ny,cO];omega
theorem VX (x y:Mac):y8.f (x,y,())=yV.f (x,y,()):=by
 simp only[PX,y8,yV,qS,ng,gn,wR,py]
 have e1:(x.k != y.k)= !(x.k==y.k):=rfl
 have e2:(x.l != y.l)= !(x.l==y.l):=rfl
 rw[e1,e2]
 cases(x.use==y.use)<;>cases(x.k==y.k)<;>cases(x.l==y.l)<;>cases((x.rows.length:Int) != (y.rows.length:Int))<;>rfl
theorem nW (n b:Int):aN.f (n,b,())=au.f (n,b,()):=by
 simp only[PX,aN,au,cU,bx,ar,jv,d7]
 cases h1:(decide (1<=b)&&decide (b<=6))with
 |false=>rfl
 |true=>
  cases h2:ae.f (n,(IntKind.wrap .i64 (8*b)),())with
  |false=>rfl
  |true=>
   have hb:0<=n/\n<=9223372036854775807:=by
    revert h2
    simp only[PX,ae,ar]
    cases(decide (1<=IntKind.wrap .i64 (8*b))&&decide (IntKind.wrap .i64 (8*b)<=62))with
    |false=>simp
    |true=>
     simp only[cond_true,Bool.and_eq_true,decide_eq_true_eq]
     generalize(IntKind.wrap .i64 (1*2 ^ (min (IntKind.wrap .i64 (8*b)).toNat 64)))=z
     rw[cO]
     omega
   have e:∀k i r,aR (λj a=>(nf j a).nice) (-1) k i (n,r)=aR (λj a=>(dD j a).nice) (-1) k i (n,r):=by
    intro k i r
    refine Ey (P:=λa=>0<=a.1/\a.1<=9223372036854775807) (λi a ha=> ?_) (λi a a' ha he=> ?_) k i (n,r) hb
    ·simp only[PX,nf,dD]
     rw[(xV 256).1 ha.1,(gF 256).1 ha.1,aj (by omega) (by omega),Int.fdiv_eq_ediv_of_nonneg a.1 (by omega),qe,qe,Int.emod_emod]
    ·simp only[PX,nf]at he
     cases he
     show 0<=IntKind.wrap .i64 (a.1.tdiv 256)/\_
     rw[(xV 256).1 ha.1,aj (by omega) (by omega)]
     omega
   simp only[e]
theorem KK (x:Int):oD.f (x,())=gc.f (x,()):=by simp only[PX,oD,gc,cU]
theorem Tz (x:Tupl)(a b c:Int):uw.f (x,a,b,c,())=fB.f (x,a,b,c,()):=by simp only[PX,uw,fB,nW,tJ,cU,bx,ar]
theorem Y5 (x:Mac)(r:List MacRow)(j:Nat)(hj:j<r.length)(hr:x.rows=r):
  Stp.elim (γ:=Stp Unit Unit) (λ_=> .next ()) (λ_=> .out ()) (aR (λi a=>(rl (j:Int) x i a).nice) 1 (Int.toNat ((j:Int)-0)) 0 ())=
  bif cz.f (((r.take j).drop 0),(r.getD j (Ty.zero .macRow)),())then .out ()else .next ():=by
 subst hr
 let p:MacRow->Bool:=λy=>y.input==(x.rows.getD j (Ty.zero .macRow)).input
 simp only[PX,cz,eK,bc]
 rw[List.drop_zero]
 have hl:(x.rows.take j).length=j:=by rw[List.length_take];omega
 rw[bA (x.rows.take j) _ (by rw[hl];simp) (F:=λq y a=>bif p y then .out ()else .next ()) (by
  intro q y a h
  have hq:q<j:=by
   have:=(List.getElem?_eq_some_iff.1 h).1;omega
  have h2:x.rows[q]? =some y:=by rw[List.getElem?_take]at h;simpa [hq]using h
  simp only[PX,rl,aa,getD_some h2,p])]
 rw[bA (x.rows.take j) _ (by simp) (F:=λq y a=>bif p y then .out (q:Int)else .next ()) (by
  intro q y a h
  simp only[PX,fF,Dl,aa,getD_some h,p])]
 rw[jY (w:=λ_ _=>()),jY (w:=λj _=>(j:Int))]
 cases h:(x.rows.take j).findIdx? p with
 |none=>simp[PX,Stp.elim]
 |some i=>
  have:=(List.findIdx?_eq_some_iff_getElem.1 h).1
  simp only[List.getElem?_eq_getElem this,Stp.elim]
  simp[PX]
theorem ZM (x:Mac):CQ.f (x,())=ui.f (x,()):=by
 simp only[PX,CQ,ui,ko,pY]
 have e:aR (λj a=>(u7 x j a).nice) 1 (Int.toNat ((x.rows.length:Int)-0)) 0 ()=aR (λj a=>(pS x.rows x j a).nice) 1 (Int.toNat ((x.rows.length:Int)-0)) 0 ():=by
  rw[av]
  refine Sg x.rows.length 0 () (λj a hj=> ?_)
  have:=Y5 x x.rows j (by omega) rfl
  simp only[PX,u7,pS,fm,aa,bx,ar]at this|-
  rw[this]
 rw[e]
 have e1:(x.k != 0)= !(x.k==0):=rfl
 have e2:(x.l != 0)= !(x.l==0):=rfl
 have e3:decide (64<(x.rows.length:Int))= !decide ((x.rows.length:Int)<=64):=by
  rcases Int.lt_or_le 64 (x.rows.length:Int)with h|h
  ·simp[h,show¬((x.rows.length:Int)<=64) by omega]
  ·simp[h,show¬(64<(x.rows.length:Int)) by omega]
 rw[e1,e2,e3]
 generalize aR (λj a=>(pS x.rows x j a).nice) 1 (Int.toNat ((x.rows.length:Int)-0)) 0 ()=z
 cases x.use<;>cases z<;>cases(x.k==0)<;>cases(x.l==0)<;>cases decide ((x.rows.length:Int)<=64)<;>simp[PX,Stp.elim]
theorem RT (k:Keys):wm.f (k,())=gH.f (k,()):=by
 simp only[PX,wm,gH,cU,ZM,VX,bU,ar]
 cases ht:k.two<;>simp only[PX,cond_true,cond_false,ht]<;>cases ui.f (k.now,())<;>cases ui.f (k.before,())<;>grind
theorem Hs (x n:Int)(h:bits .and .u64 (IntKind.wrap .u64 n) 63=n):dd.f (x,n,())=j6.f (x,n,()):=by
 simp only[PX,dd,j6,h]
theorem Jg (x:Sipr):iq.f (x,())=jz.f (x,()):=by
 simp only[PX,iq,jz,Hs _ 13 (by decide+kernel),Hs _ 16 (by decide+kernel),Hs _ 17 (by decide+kernel),Hs _ 21 (by decide+kernel),Hs _ 32 (by decide+kernel)]
theorem Mv (x:Sipr)(m:Int):tn.f (x,m,())=tG.f (x,m,()):=by
 simp only[PX,tn,tG,Jg]
theorem Tf (k l:Int):va.f (k,l,())=qA.f (k,l,()):=by simp only[PX,va,qA]
theorem Zo (x:Sipr):BL.f (x,())=sW.f (x,()):=by
 simp only[PX,BL,sW,kK,Jg]
 have e:(λ(j:Int) a=>(sK j a).nice)=λ_ a=>Stp.next (jz.f (a,())):=rfl
 rw[e]
 generalize FT.f jz=R
 rfl
theorem qf (n:Int)(h0:0<=n)(h1:n<2 ^ 64):IntKind.u64.wrap n=n:=by rw[yG];omega
theorem or8 (a b:Int)(ha:0<=a)(ha1:a<72057594037927936)(hb:0<=b)(hb1:b<256):bits .or .u64 (IntKind.wrap .u64 (a*256)) (IntKind.wrap .u64 b)=a*256+b:=by
 rw[qf _ (by omega) (by omega),qf _ (by omega) (by omega)]
 exact bits_join .u64 64 (by decide) qf 8 _ _ (by omega) (by omega) (by omega) (by omega) (by omega) (by omega)
def Kb (g:Nat->Int):Nat->Int->Int
 |0,a=>a
 |k+1,a=>Kb g k (a*256+g k)
theorem Ed {g h:Nat->Int}:∀(k:Nat) (a:Int),(∀j,j<k->g j=h j)->Kb g k a=Kb h k a
 |0,_,_=>rfl
 |k+1,a,e=>by simp only[Kb,e k (Nat.lt_succ_self _)];exact Ed k _ λj hj=>e j (by omega)
theorem Gz {g:Nat->Int}:∀(k:Nat) (a:Int),Kb g k a=a*256 ^ k+Kb g k 0
 |0,a=>by simp[Kb]
 |k+1,a=>by
  simp only[Kb]
  rw[Gz k (a*256+g k),Gz k (0*256+g k),Int.pow_succ,Int.add_mul,Int.zero_mul,Int.zero_add,Int.mul_assoc,Int.mul_comm 256 (256 ^ k),Int.add_assoc]
theorem X2 (k:Nat):(1:Int)<=256 ^ k:=by
 have:=Int.pow_pos (n:=256) (m:=k) (by decide)
 omega
theorem Ze {g:Nat->Int}(hg:∀k,0<=g k/\g k<=255):∀(k:Nat),0<=Kb g k 0/\Kb g k 0<256 ^ k
 |0=>by simp[Kb]
 |k+1=>by
  have h:=Ze hg k
  simp only[Kb]
  rw[Gz,Int.zero_mul,Int.zero_add,Int.pow_succ]
  have h1:=hg k
  have h2:=X2 k
  have h3:0<=g k*256 ^ k:=Int.mul_nonneg h1.1 (by omega)
  have h4:g k*256 ^ k<=255*256 ^ k:=Int.mul_le_mul_of_nonneg_right h1.2 (by omega)
  omega
theorem HU {f:Int->Int->Stp Int Empty}{g:Nat->Int}(hg:∀k,0<=g k/\g k<=255)(hf:∀(k:Nat) a,f (k:Int) a= .next (bits .or .u64 (IntKind.wrap .u64 (a*256)) (IntKind.wrap .u64 (g k)))):
  ∀(k:Nat) (a:Int),0<=a->(a+1)*256 ^ k<=18446744073709551616->aR f (-1) k ((k:Int)-1) a= .next (Kb g k a)
 |0,a,_,_=>rfl
 |k+1,a,h0,h1=>by
  have hp:=X2 k
  rw[Int.pow_succ,Int.mul_comm (256 ^ k) 256,<-Int.mul_assoc]at h1
  have h2:(a+1)*256*1<=(a+1)*256*256 ^ k:=Int.mul_le_mul_of_nonneg_left hp (by omega)
  have h3:=hg k
  simp only[aR,Kb]
  rw[show((k+1:Nat):Int)-1=(k:Int) by omega,hf,or8 a (g k) h0 (by omega) h3.1 (by omega)]
  simp only[Stp.elim]
  rw[show(k:Int)+ -1=(k:Int)-1 by omega]
  refine HU hg hf k _ (by omega) ?_
  have h4:(a*256+g k+1)*256 ^ k<=(a+1)*256*256 ^ k:=Int.mul_le_mul_of_nonneg_right (by omega) (by omega)
  omega
theorem yc (s:ac)(k:Nat):0<=af s k/\af s k<=255:=fY s k
theorem LM (s:ac)(h:s.length<=8):qN.f (s,())=Kb (af s) s.length 0:=by
 simp only[PX,qN,oG]
 rw[aj (by omega) (by omega)]
 rw[show Int.toNat ((s.length:Int)-1-0+1)=s.length by omega]
 rw[HU (g:=af s) (yc s) (λk a=>rfl) s.length 0 (by omega) ?_]
 ·rfl
 ·have:∀k:Nat,k<=8->(0+1:Int)*256 ^ k<=18446744073709551616:=by decide
  exact this _ h
theorem LT (l:List Int)(h:∀k,0<=l.getD k 0/\l.getD k 0<=255):rg.f (l,())=Kb (λk=>l.getD k 0) 8 0:=by
 simp only[PX,rg,oe]
 rw[show Int.toNat (7-0+1)=8 from rfl,show(7:Int)=((8:Nat):Int)-1 from rfl]
 rw[HU (g:=λk=>l.getD k 0) h (λk a=>rfl) 8 0 (by omega) (by decide)]
 rfl
theorem G0 {A B W W':Type}[Inhabited W][Inhabited W']{f:A->Stp A W}{g:B->Stp B W'}{R:A->B->Prop}{Q:W->W'->Prop}{ma:A->Nat}{mb:B->Nat}
  (h:∀a b,R a b->(∃a' b',f a= .next a'/\g b= .next b'/\R a' b'/\ma a'<ma a/\mb b'<mb b)\/(∃w w',f a= .out w/\g b= .out w'/\Q w w')):
  ∀(m m':Nat) (a:A) (b:B),ma a<m->mb b<m'->R a b->Q (ca f m a) (ca g m' b)
 |0,_,_,_,h1,_,_=>absurd h1 (Nat.not_lt_zero _)
 |_+1,0,_,_,_,h2,_=>absurd h2 (Nat.not_lt_zero _)
 |m+1,m'+1,a,b,h1,h2,hr=>by
  rcases h a b hr with⟨a',b',e1,e2,hr',l1,l2⟩|⟨w,w',e1,e2,hq⟩
  ·simp only[ca,e1,e2,Stp.elim]
   exact G0 h m m' a' b' (by omega) (by omega) hr'
  ·simp only[ca,e1,e2,Stp.elim]
   exact hq
theorem Yz {g:Nat->Int}(k:Nat)(a:Int):Kb g (k+1) a=Kb g k (a*256+g k):=rfl
theorem YJ {α:Type}{xs:List α}{j:Nat}(h:j<xs.length)(v z:α):(xs.set j v).getD j z=v:=by
 simp[List.getD,List.getElem?_set,h]
theorem wF (s:ac)(k:Nat):(il s).getD k 0=af s k:=by
 simp only[il,af,List.getD,List.getElem?_map]
 cases s[k]? <;>rfl
theorem EW (s:ac)(n k:Nat):af (s.drop n) k=af s (n+k):=by
 simp only[af,List.getD,List.getElem?_drop]
theorem RD (s:ac)(n k:Nat)(h:k<n):af (s.take n) k=af s k:=by
 simp only[af,List.getD,List.getElem?_take,if_pos h]
theorem ED (s:ac)(k:Nat)(h:s.length<=k):af s k=0:=by
 simp[af,List.getD,h]
theorem Vw {g:Nat->Int}(r:Nat):∀(m:Nat),(∀j,r<=j->j<r+m->g j=0)->Kb g (r+m) 0=Kb g r 0
 |0,_=>rfl
 |m+1,h=>by
  rw[show r+(m+1)=(r+m)+1 from rfl]
  simp only[Kb]
  rw[h (r+m) (by omega) (by omega)]
  exact Vw r m λj h1 h2=>h j h1 (by omega)
theorem Ox (k:IntKind)(a b:Int):bits .or k a b=bits .or k b a:=by
 simp only[bits,BitVec.or_comm]
def abk (x:ac)(a:Int×Sipr)(b:List Int×Sipr):Prop:=0<=a.1/\a.1<=x.length/\b.1=il (x.drop a.1.toNat)/\a.2=b.2
theorem Qy (s:ac)(n:Nat):(il s).drop n=il (s.drop n):=by simp[il]
theorem V7 (x:ac)(hx:x.length<=4294967296)(z:Sipr):abk x (ca (λa=>(jL x (x.length:Int) a).nice) (Int.toNat ((x.length:Int)-0)+1) (0,z)) (ca (λa=>(mq a).nice) ((il x).length+1) (il x,z))/\
  (x.length:Int)<(ca (λa=>(jL x (x.length:Int) a).nice) (Int.toNat ((x.length:Int)-0)+1) (0,z)).1+8:=by
  refine G0 (R:=abk x) (Q:=λw w'=>abk x w w'/\(x.length:Int)<w.1+8) (ma:=λa=>Int.toNat ((x.length:Int)-a.1)) (mb:=λb=>b.1.length) ?_ _ _ _ _ ?_ ?_ ?_
  ·intro a b hr
   obtain⟨h1,h2,h3,h4⟩:=hr
   have hb:(b.1.length:Int)=(x.length:Int)-a.1:=by rw[h3,oC,List.length_drop];omega
   simp only[PX,jL,mq]
   rw[aj (by omega) (by omega)]
   cases hd:decide (a.1+8<=(x.length:Int))with
   |true=>
    simp only[decide_eq_true_eq]at hd
    rw[show decide (8<=(b.1.length:Int))=true by simp only[decide_eq_true_eq];omega]
    refine .inl ⟨_,_,rfl,rfl,⟨?_, ?_, ?_, ?_⟩, ?_, ?_⟩
    ·simp only[];omega
    ·simp only[];omega
    ·simp only[]
     rw[aa,List.take_length,h3,Qy,List.drop_drop,show(a.1+8).toNat=a.1.toNat+8 by omega]
    ·have e:qN.f ((x.take (a.1+8).toNat).drop a.1.toNat,())=rg.f (b.1,()):=by
      have hl:((x.take (a.1+8).toNat).drop a.1.toNat).length=8:=by rw[List.length_drop,List.length_take];omega
      rw[LM _ (by omega),hl,LT _ (λk=>by rw[h3,wF];exact yc _ _)]
      refine Ed 8 0 λj hj=> ?_
      rw[h3,wF,EW,EW,RD _ _ _ (by omega)]
     simp only[e,h4,Mv]
    ·simp only[];omega
    ·simp only[aa,List.take_length,List.length_drop];omega
   |false=>
    simp only[decide_eq_false_iff_not]at hd
    rw[show decide (8<=(b.1.length:Int))=false by simp only[decide_eq_false_iff_not];omega]
    exact .inr ⟨_,_,rfl,rfl,⟨h1,h2,h3,h4⟩,by show(x.length:Int)<a.1+8;omega⟩
  ·exact Nat.lt_succ_self _
  ·exact Nat.lt_succ_self _
  ·exact⟨by simp,by simp,by simp,rfl⟩
theorem Yt (x:ac)(hx:x.length<=4294967296)(p:Int)(q:List Int)(h1:0<=p)(h2:p<=x.length)(h3:q=il (x.drop p.toNat))(h5:(x.length:Int)<p+8):
  bits .or .u64 (qN.f (x.drop p.toNat,())) (IntKind.wrap .u64 ((IntKind.wrap .u64 ((x.length:Int).tmod 256))*72057594037927936))=rg.f ((q++(List.replicate 8 0).drop q.length).set 7 (IntKind.wrap .u8 (x.length:Int)),()):=by
 have hl:(x.drop p.toNat).length=x.length-p.toNat:=by simp
 have hq:q.length=x.length-p.toNat:=by rw[h3,oC,hl]
 generalize hy:x.drop p.toNat=y at h3 hl
 have hy8:y.length<=7:=by omega
 rw[LM y (by omega)]
 have hb7:IntKind.u8.wrap (x.length:Int)=(x.length:Int)%256:=qe _
 have hm:IntKind.u64.wrap ((x.length:Int).tmod 256)=(x.length:Int)%256:=by
  rw[(gF 256).1 (by omega),qf _ (by omega) (by omega)]
 rw[hb7,hm]
 have hg:∀k,((q++(List.replicate 8 (0:Int)).drop q.length).set 7 ((x.length:Int)%256)).getD k 0=if k=7 then(x.length:Int)%256 else af y k:=by
  intro k
  by_cases e:k=7
  ·subst e
   rw[if_pos rfl]
   exact YJ (by simp;omega) _ _
  ·rw[if_neg e,List.getD,List.getElem?_set_ne (by omega)]
   by_cases hk:k<q.length
   ·rw[List.getElem?_append_left hk,h3,<-List.getD_eq_getElem?_getD,wF]
   ·rw[List.getElem?_append_right (by omega),List.getElem?_drop,List.getElem?_replicate,ED y k (by omega)]
    split<;>rfl
 rw[LT _ (λk=>by
  rw[hg]
  split
  ·omega
  ·exact yc _ _)]
 have hbd:=Ze (g:=af y) (yc y) y.length
 have hp7:(256:Int) ^ y.length<=72057594037927936:=by
  have:∀k:Nat,k<=7->(256:Int) ^ k<=72057594037927936:=by decide
  exact this _ hy8
 have e1:Kb (λk=>((q++(List.replicate 8 (0:Int)).drop q.length).set 7 ((x.length:Int)%256)).getD k 0) 8 0=((x.length:Int)%256)*72057594037927936+Kb (af y) y.length 0:=by
  refine(Yz 7 0).trans ?_
  rw[hg 7,if_pos rfl,Gz,Int.zero_mul,Int.zero_add,show(256:Int) ^ 7=72057594037927936 from rfl]
  congr 1
  rw[Ed 7 0 (h:=af y) λj hj=>by rw[hg,if_neg (by omega)]]
  have:=Vw (g:=af y) y.length (7-y.length) λj h1 _=>ED y j h1
  rw[show y.length+(7-y.length)=7 by omega]at this
  exact this
 rw[e1,Ox,qf ((x.length:Int)%256*72057594037927936) (by omega) (by omega)]
 exact bits_join .u64 64 (by decide) qf 56 _ _ (by omega) (by omega) (by omega) (by omega) (by omega) (by omega)
theorem XJ (k l:Int)(x:ac)(hx:x.length<=4294967296):yq.f (k,l,x,())=nB.f (k,l,x,()):=by
 simp only[PX,yq,nB,mz,md,Tf,List.length_replicate]
 generalize qA.f (k,l,())=z
 have key:=V7 x hx z
 generalize ca (λa=>(jL x (x.length:Int) a).nice) (Int.toNat ((x.length:Int)-0)+1) (0,z)=p at key|-
 generalize ca (λa=>(mq a).nice) ((il x).length+1) (il x,z)=q at key|-
 obtain⟨⟨h1,h2,h3,h4⟩,h5⟩:=key
 have hq:q.1.length=x.length-p.1.toNat:=by rw[h3,oC,List.length_drop]
 have ht:q.1.take 8=q.1:=List.take_of_length_le (by omega)
 obtain⟨p,pz⟩:=p
 obtain⟨q,qz⟩:=q
 simp only[PX,ht,Zo,Mv]at*
 rw[h4,show((x.take (x.length:Int).toNat).drop p.toNat)=x.drop p.toNat by rw[aa,List.take_length]]
 rw[Yt x hx p q h1 h2 h3 h5]
theorem aaf (m:Mac)(x:ac)(hx:x.length<=4294967296):GG.f (m,x,())=pD.f (m,x,()):=by
 simp only[PX,GG,pD,pQ,mV,XJ _ _ _ hx]
 rw[show aR (λj a=>(uU x m j a).nice) 1 (Int.toNat ((m.rows.length:Int)-0)) 0 ()=aR (λj a=>(kf x m.rows j a).nice) 1 (Int.toNat ((m.rows.length:Int)-0)) 0 () from Tq (λi a=>by
  simp only[PX,uU,kf]
  generalize(m.rows.getD i.toNat (Ty.zero .macRow))=r
  cases(r.input==x)with
  |false=>rfl
  |true=>
   simp only[cond_true]
   have h1:=gF (a:=r.value) 16777216
   rcases Int.lt_or_le r.value 0 with h|h
   ·have e:=h1.2 h
    generalize r.value.tmod 16777216=t at e
    rw[aj (by omega) (by omega)]
    cases hd:decide (t<0)with
    |true=>simp only[decide_eq_true_eq]at hd;simp only[cond_true];rw[(gF 16777216).1 (by omega),Int.emod_eq_of_lt (by omega) (by omega)]
    |false=>simp only[decide_eq_false_iff_not]at hd;simp only[cond_false];rw[(gF 16777216).1 (by omega),show t=0 by omega];rfl
   ·have e:=h1.1 h
    generalize r.value.tmod 16777216=t at e
    rw[aj (by omega) (by omega)]
    cases hd:decide (t<0)with
    |true=>simp only[decide_eq_true_eq]at hd;omega
    |false=>simp only[cond_false];rw[(gF 16777216).1 (by omega)];congr 1;omega) _ _ _]
theorem Oc (t:Tupl)(a b c:Int):(fB.f (t,a,b,c,())).length<=40:=(fB.c.h (t,a,b,c,()) trivial).2
theorem H4 (m:Mac)(t:Tupl)(a b c:Int):qL.f (m,t,a,b,c,())=jH.f (m,t,a,b,c,()):=by
 simp only[PX,qL,jH,Tz]
 rw[aaf _ _ (by have:=Oc t a b c;omega)]
theorem MB (m:Mac):nP.f (m,())=m:=by simp only[PX,nP,List.nil_append]
theorem H7 (m:Mac):lm.f (m,())=m:=by simp only[PX,lm,lW]
theorem UT (k:Keys)(e:Int):ub.f (k,e,())=nT.f (k,e,()):=by
 simp only[PX,ub,nT,MB,H7]
theorem ZL (f:Int->Unit->Stp Unit (Int⊕Unit))(g:Int->Unit->Stp Unit Int)(E:Int)(h0:0<=E)(h1:E<=4294967295)
  (hfg:∀e,E-1<=e->f e ()=Stp.elim (λ_=> .next ()) (λw=> .out (.inl w)) (g e ()))(hend:∀e,e<E-1->f e ()= .out (.inr ()))(i:Int):
  Stp.elim (λ_=>((0:Int),(0:Int),false)) (Sum.elim (λp=>(p,i,true)) (λ_=>(0,0,false))) (aR f (-1) (Int.toNat (E-0+1)) E ())=
  Stp.elim (λ_=>(0,0,false)) (λp=>(p,i,true)) (aR g (-1) (Int.toNat (E-(if 0<(IntKind.wrap .i64 (E-1))then(IntKind.wrap .i64 (E-1))else 0)+1)) E ()):=by
 rw[aj (by omega) (by omega)]
 rcases(show E=0\/E=1\/2<=E by omega)with rfl|rfl|h
 ·rw[if_neg (by omega),show Int.toNat (0-0+1)=1 from rfl]
  simp only[aR,hfg 0 (by omega)]
  cases g 0 ()<;>rfl
 ·rw[if_neg (by omega),show Int.toNat (1-0+1)=2 from rfl]
  simp only[aR,hfg 1 (by omega),show(1:Int)+ -1=0 from rfl,hfg 0 (by omega)]
  cases g 1 ()with
  |out w=>rfl
  |next a=>simp only[Stp.elim];cases g 0 ()<;>rfl
 ·rw[if_pos (by omega),show Int.toNat (E-(E-1)+1)=2 by omega]
  obtain⟨m,hm⟩:∃m:Nat,Int.toNat (E-0+1)=m+3:=⟨Int.toNat (E-2),by omega⟩
  rw[hm]
  simp only[aR,hfg E (by omega),hfg (E+ -1) (by omega),hend (E+ -1+ -1) (by omega)]
  cases g E ()with
  |out w=>rfl
  |next a=>simp only[Stp.elim];cases g (E+ -1) ()<;>rfl
theorem FH (x:Int):decide ((gc.f (x,())).2.1<0)= !ae.f (x,32,()):=by
 simp only[PX,gc,bU]
 cases hd:(decide (0<=x)&&decide (x<=4294967295))with
 |false=>rfl
 |true=>
  simp only[Bool.and_eq_true,decide_eq_true_eq]at hd
  simp only[Bool.not_true,cond_false]
  rw[(xV 16777216).1 hd.1,aj (by omega) (by omega),(gF 8).1 (by omega)]
  simp only[decide_eq_false_iff_not]
  omega
theorem BU (k:Keys)(h:gH.f (k,())=true):0<=k.epoch/\k.epoch<=4294967295:=by
 simp only[PX,gH,ar]at h
 revert h
 cases k.two<;>simp only[PX,cond_true,cond_false]<;>grind
theorem Ks (k:Keys)(t:Tupl)(a b:Int):oH.f (k,t,a,b,())=cV.f (k,t,a,b,()):=by
 simp only[PX,oH,cV,ia,hY,RT,KK,FH]
 cases hk:gH.f (k,())with
 |false=>rfl
 |true=>
  simp only[Bool.not_true,cond_false]
  cases ae.f (b,32,())with
  |false=>rfl
  |true=>
   simp only[Bool.not_true,cond_false]
   have he:=BU k hk
   refine ZL _ _ k.epoch he.1 he.2 (λe h=> ?_) (λe h=> ?_) _
   ·simp only[PX,lC,qC]
    rw[aj (by omega) (by omega)]
    simp only[UT,H4,decide_eq_true h,cond_true]
    cases(nT.f (k,e,())).2 with
    |false=>rfl
    |true=>
     simp only[cond_true]
     cases(jH.f ((nT.f (k,e,())).1,t,a,e,(gc.f (b,())).2.1,())==b)<;>rfl
   ·simp only[PX,lC]
    rw[aj (by omega) (by omega)]
    simp only[decide_eq_false (show¬(k.epoch-1<=e) by omega),cond_false]
theorem pb (x:Segm):gT.f (x,())=ai.f (x,()):=by simp only[PX,gT,ai,cU,gW]
theorem Yn (x:Int):fM.f (0,x,())=(if 0<x then x else 0):=by
 rw[rq];grind
theorem Ul (d:Door)(t:Tupl)(g:Segm):t8.f (d,t,g,())=nC.f (d,t,g,()):=by
 simp only[PX,t8,nC,yk]
 cases(g.opts.mss==0)<;>simp only[PX,cond_true,cond_false]<;>simp only[S2,H4,Yn]
theorem Xs (a b:Int)(c:Bool):yI.f (a,b,c,())=n5.f (a,b,c,()):=by
 simp only[PX,yI,n5,ar,rp]
 cases c<;>simp only[PX,cond_true,cond_false]<;>simp only[bx,ny]<;>cases(decide (0<=b)&&decide (b<=14))<;>simp only[cond_true,cond_false,Bool.not_true,Bool.not_false,cO]<;>omega
theorem Gh (o:Opti)(c:Int):le.f (o,c,())=fG.f (o,c,()):=by
 simp only[PX,le,fG,bx,ar]
 cases(decide (0<=o.scale)&&decide (o.scale<=14))<;>simp only[PX,cond_true,cond_false]<;>simp only[Xs]
theorem Zc (d:Door)(t:Tupl)(g:Segm):Bz.f (d,t,g,())=eu.f (d,t,g,()):=by
 simp only[PX,Bz,eu,Ul,jy,Gh]
theorem Dr {A W:Type}{f:Int->A->Stp A W}{st:Int}:∀(k:Nat) (i:Int) (a:A) (w:W),aR f st k i a= .out w->∃(n:Nat) (b:A),n<k/\f (i+st*(n:Int)) b= .out w
 |0,_,_,_,h=>by cases h
 |k+1,i,a,w,h=>by
  simp only[aR]at h
  cases hf:f i a with
  |out w'=>rw[hf]at h;simp only[Stp.elim]at h;cases h;exact⟨0,a,by omega,by simpa using hf⟩
  |next a'=>
   rw[hf]at h
   obtain⟨n,b,h1,h2⟩:=Dr k (i+st) a' w h
   exact⟨n+1,b,by omega,by rw[show i+st*((n+1:Nat):Int)=i+st+st*(n:Int) by rw[Int.natCast_add,Int.mul_add];omega];exact h2⟩
theorem Ap {A W:Type}{f:Int->A->Stp A W}{st:Int}{P:A->Prop}(hp:∀i a a',P a->f i a= .next a'->P a'):∀(k:Nat) (i:Int) (a a':A),P a->aR f st k i a= .next a'->P a'
 |0,_,_,_,ha,h=>by cases h;exact ha
 |k+1,i,a,a',ha,h=>by
  simp only[aR]at h
  cases hf:f i a with
  |out w'=>rw[hf]at h;cases h
  |next a1=>rw[hf]at h;exact Ap hp k _ a1 a' (hp i a a1 ha hf) h
theorem V9 (x:Sipr):0<=sW.f (x,()):=by
 simp only[PX,sW,kK]
 cases aR (λj a=>(sK j a).nice) 1 (Int.toNat (4-0)) 0 ({x with c:=(bits .xor .u64 x.c 255)}:Sipr)with
 |next a=>exact(BA .xor .u64 _ _ (.inr (.inr (.inl rfl)))).1
 |out e=>exact Empty.elim e
theorem SQ (k l:Int)(x:ac):0<=nB.f (k,l,x,()):=by
 simp only[PX,nB]
 exact V9 _
theorem act (s:Int)(h:0<=s):0<=IntKind.wrap .i64 (s.tmod 16777216)/\IntKind.wrap .i64 (s.tmod 16777216)<=16777215:=by
 have h1:=OH (b:=16777216) h
 have h2:=Gv (a:=s) (show(0:Int)<16777216 by omega)
 rw[aj (by omega) (by omega)];omega
theorem ab9 (r:Int):0<=(IntKind.wrap .i64 (r.tmod 16777216+16777216)).tmod 16777216/\(IntKind.wrap .i64 (r.tmod 16777216+16777216)).tmod 16777216<=16777215:=by
 have h1: -16777216<r.tmod 16777216:=Int.lt_tmod_of_pos _ (by omega)
 have h2:=Gv (a:=r) (show(0:Int)<16777216 by omega)
 rw[aj (by omega) (by omega)]
 have h3:=OH (a:=r.tmod 16777216+16777216) (b:=16777216) (by omega)
 have h4:=Gv (a:=r.tmod 16777216+16777216) (show(0:Int)<16777216 by omega)
 omega
theorem Wg (m:Mac)(x:ac)(k:Nat)(i:Int)(w:Int)(hf:aR (λj a=>(kf x m.rows j a).nice) 1 k i ()= .out w):0<=w/\w<=16777215:=by
 obtain⟨n,b,_,h⟩:=Dr _ _ _ _ hf
 simp only[PX,kf]at h
 revert h
 generalize(m.rows.getD (i+1*(n:Int)).toNat (Ty.zero .macRow))=r
 cases(r.input==x)with
 |false=>simp only[cond_false];intro h;cases h
 |true=>simp only[cond_true];intro h;injection h with h;rw[<-h];exact ab9 r.value
theorem YF (m:Mac)(x:ac):pD.f (m,x,())=bif !m.use then IntKind.wrap .i64 ((nB.f (m.k,m.l,x,())).tmod 16777216)else Stp.elim (λ_=>0) (λp=>p) (aR (λj a=>(kf x m.rows j a).nice) 1 (Int.toNat ((m.rows.length:Int)-0)) 0 ()):=by
 simp only[PX,pD,mV]
theorem ab8 (u:Bool)(s:Int)(z:Stp Unit Int)(hs:0<=s)(hk:∀w,z= .out w->0<=w/\w<=16777215):
  0<=(bif !u then IntKind.wrap .i64 (s.tmod 16777216)else Stp.elim (λ_=>0) (λp=>p) z)/\(bif !u then IntKind.wrap .i64 (s.tmod 16777216)else Stp.elim (λ_=>0) (λp=>p) z)<=16777215:=by
 cases u with
 |false=>simp only[Bool.not_false,cond_true];exact act s hs
 |true=>
  simp only[Bool.not_true,cond_false]
  cases z with
  |next a=>simp only[Stp.elim];omega
  |out w=>exact hk w rfl
theorem Mo (m:Mac)(x:ac):0<=pD.f (m,x,())/\pD.f (m,x,())<=16777215:=by
 rw[YF]
 exact ab8 m.use _ _ (SQ m.k m.l x) (Wg m x (Int.toNat ((m.rows.length:Int)-0)) 0)
theorem SP (n:Int)(h:ae.f (n,32,())=true):(au.f (n,4,())).length=4:=by
 simp only[PX,au,ar,d7,show IntKind.wrap .i64 (8*4)=32 from rfl,h,show(decide ((1:Int)<=4)&&decide ((4:Int)<=6))=true from rfl,Bool.not_true,cond_false,show IntKind.wrap .i64 (4-1)=3 from rfl,show Int.toNat (3-0+1)=4 from rfl,show Int.toNat 4=4 from rfl]
 cases hf:aR (λj a=>(dD j a).nice) (-1) 4 3 (n,List.replicate 4 0)with
 |out e=>exact Empty.elim e
 |next a=>
  have:=Ap (P:=λa:Int×List Int=>a.2.length=4) (λi a a' ha h=>by
   simp only[PX,dD]at h
   cases h
   simpa using ha) _ _ _ _ (by simp) hf
  simp only[PX,Stp.elim,aX]
  exact this
theorem Tu (t:Tupl)(h:aG.f (t,())=true):(0<=t.ip/\t.ip<=4294967295)/\(0<=t.port/\t.port<=65535)/\(0<=t.my/\t.my<=65535):=by
 simp only[PX,aG,bU,cQ]at h
 revert h
 cases h1:(decide (0<=t.ip)&&decide (t.ip<=4294967295))<;>cases h2:(decide (0<=t.port)&&decide (t.port<=65535))<;>simp only[cond_true,cond_false,Bool.and_eq_true,decide_eq_true_eq]at* <;>simp_all
theorem R6 (t:Tupl)(seq e i:Int)(ht:aG.f (t,())=true)(hs:0<=seq/\seq<=4294967295)(he:0<=e/\e<=4294967295)(hi:0<=i/\i<=7):(fB.f (t,seq,e,i,())==[])=false:=by
 have h1:=SP t.ip (by rw[bU];have:=(Tu t ht).1;simp[this])
 simp only[PX,fB,ht,bU,ar,decide_eq_true hs.1,decide_eq_true hs.2,decide_eq_true he.1,decide_eq_true he.2,decide_eq_true hi.1,decide_eq_true hi.2,Bool.and_self,Bool.not_true,cond_false]
 generalize au.f (t.ip,4,())=a at*
 match a,h1 with
 |x::r,_=>simp
theorem QO (m:Mac)(t:Tupl)(seq e i:Int)(ht:aG.f (t,())=true)(hs:0<=seq/\seq<=4294967295)(he:0<=e/\e<=4294967295)(hi:0<=i/\i<=7):
  jH.f (m,t,seq,e,i,())=(e%32)*134217728+i*16777216+pD.f (m,fB.f (t,seq,e,i,()),()):=by
 simp only[PX,jH,R6 t seq e i ht hs he hi,cond_false]
 have h:=Mo m (fB.f (t,seq,e,i,()))
 rw[(gF 32).1 he.1,aj (m:=e%32*134217728) (by omega) (by omega),aj (m:=i*16777216) (by omega) (by omega),aj (m:=e%32*134217728+i*16777216) (by omega) (by omega),aj (by omega) (by omega)]
theorem MG (x:Int):0<=ij.f (x,())/\ij.f (x,())<=7:=by
 simp only[PX,ij,dH]
 cases hf:aR (λj a=>(k8 x j a).nice) (-1) (Int.toNat (7-0)) 7 ()with
 |next a=>simp[PX,Stp.elim]
 |out w=>
  obtain⟨n,b,hn,h⟩:=Dr _ _ _ _ hf
  simp only[PX,k8]at h
  simp only[PX,Stp.elim]
  rw[show Int.toNat (7-0)=7 from rfl]at hn
  revert h
  cases decide (fE.f (7+ -1*(n:Int),())<=x)with
  |false=>simp only[cond_false];intro h;cases h
  |true=>simp only[cond_true];intro h;cases h;omega
theorem Dp (o:Opti)(c:Int)(ho:d9.f (o,())=true):d9.f (fG.f (o,c,()),())=true:=by
 have hv:∀a b:Int,∀s:Bool,0<=n5.f (a,b,s,())/\n5.f (a,b,s,())<=4294967295:=by
  intro a b s
  simp only[PX,n5,rp]
  cases s<;>simp only[cond_true,cond_false]<;>cases a9.f (b,0,14,())<;>simp only[Bool.not_true,Bool.not_false,cond_true,cond_false]<;>omega
 simp only[PX,d9,bx,SA,P6]at ho|-
 simp only[PX,fG,ar]
 have h1:=hv c o.scale o.sack
 cases hst:o.stamp with
 |false=>simp[PX]
 |true=>
  simp only[hst,Bool.not_true,cond_false]at ho|-
  revert ho
  cases(decide (0<=o.mss)&&decide (o.mss<=65535))<;>cases(decide (-1<=o.scale)&&decide (o.scale<=14))<;>cases hval:(decide (0<=o.val)&&decide (o.val<=4294967295))<;>simp only[cond_true,cond_false]<;>intro ho
  all_goals first|(exfalso;exact Bool.noConfusion ho)|skip
  cases(decide (0<=o.scale)&&decide (o.scale<=14))<;>simp only[PX,cond_true,cond_false]<;>simp only[decide_eq_true h1.1,decide_eq_true h1.2,ho,hval,Bool.and_self,cond_true]<;>rfl
def gk {T:Type}(p:T->Bool)(xs:List T):Int:=match xs.findIdx? p with|none=> -1|some i=>(i:Int)
theorem lL {T:Type}(p:T->Bool)(xs:List T){f:Int->Unit->Stp Unit Int}(h:∀(j:Nat) x a,xs[j]? =some x->f j a=bif p x then .out (j:Int)else .next ()):
  aR f 1 (Int.toNat ((xs.length:Int)-0)) 0 ()=match xs.findIdx? p with|none=> .next ()|some i=> .out (i:Int):=by
 rw[av,bA xs _ rfl h,jY (w:=λj _=>(j:Int))]
 cases hf:xs.findIdx? p with
 |none=>rfl
 |some i=>
  obtain⟨h1,_,_⟩:=List.findIdx?_eq_some_iff_getElem.1 hf
  simp only[List.getElem?_eq_getElem h1,Nat.zero_add]
theorem oh {T:Type}(p:T->Bool)(xs:List T):decide (0<=gk p xs)=xs.any p:=by
 unfold gk
 cases h:xs.findIdx? p with
 |none=>
  rw[List.findIdx?_eq_none_iff]at h
  symm
  show xs.any p=false
  rw[List.any_eq_false]
  intro x hx;simp[h x hx]
 |some i=>
  obtain⟨h1,h2,_⟩:=List.findIdx?_eq_some_iff_getElem.1 h
  have:xs.any p=true:=by rw[List.any_eq_true];exact⟨xs[i],List.getElem_mem h1,h2⟩
  rw[this];simp
theorem Zy {T:Type}(p:T->Bool)(xs:List T):decide (gk p xs<0)= !xs.any p:=by
 rw[<-oh]
 by_cases h:0<=gk p xs
 ·rw[decide_eq_true h,decide_eq_false (by omega)];rfl
 ·rw[decide_eq_false h,decide_eq_true (by omega)];rfl
theorem BB {T:Type}(p:T->Bool)(xs:List T)(j:Nat)(x:T)(hx:xs[j]? =some x)(hp:p x=true):(gk p xs != (j:Int))=(xs.take j).any p:=by
 obtain⟨hj,rfl⟩:=List.getElem?_eq_some_iff.1 hx
 unfold gk
 cases h:xs.findIdx? p with
 |none=>
  rw[List.findIdx?_eq_none_iff]at h
  have:=h _ (List.getElem_mem hj)
  rw[hp]at this;cases this
 |some i=>
  obtain⟨h1,h2,h3⟩:=List.findIdx?_eq_some_iff_getElem.1 h
  simp only[]
  rw[Bool.eq_iff_iff]
  simp only[bne_iff_ne,ne_eq,List.any_eq_true]
  constructor
  ·intro hne
   have hij:i<j:=by
    rcases Nat.lt_or_ge i j with h4|h4
    ·exact h4
    ·have h5:j<i:=by omega
     have:=h3 j h5
     simp[hp]at this
   refine⟨xs[i], ?_,h2⟩
   rw[List.mem_take_iff_getElem]
   exact⟨i,by omega,rfl⟩
  ·rintro⟨y,hy,hpy⟩ he
   rw[List.mem_take_iff_getElem]at hy
   obtain⟨k,hk,rfl⟩:=hy
   have:k<i:=by omega
   have:=h3 k this
   simp[hpy]at this
def lh (t y:Tupl):Bool:=(y.ip==t.ip)&&((y.port==t.port)&&((y.my==t.my)&&true))
theorem wP (t:Tupl):lh t t=true:=by simp[lh]
theorem qU (xs:List Half)(t:Tupl):iC.f (xs,t,())=gk (λh=>lh t h.tuple) xs:=by
 simp only[PX,iC,kU]
 rw[lL (λh:Half=>lh t h.tuple) xs (λj x a h=>by
  simp only[PX,vM,aa,getD_some h,lh])]
 unfold gk
 cases xs.findIdx? (λh=>lh t h.tuple)<;>rfl
theorem gv (xs:List Half)(t:Tupl):aO.f (xs,t,())=gk (λh=>lh t h.tuple) xs:=by
 simp only[PX,aO,dZ,aY]
 rw[lL (λh:Half=>lh t h.tuple) xs (λj x a h=>by
  simp only[PX,fw,uK,aa,getD_some h,lh])]
 unfold gk
 cases xs.findIdx? (λh=>lh t h.tuple)<;>rfl
theorem uz (xs:List Half)(t:Tupl):iC.f (xs,t,())=aO.f (xs,t,()):=by rw[qU,gv]
theorem G6 (x:Tabl)(t:Tupl):fu.f (x,t,())=gk (λh=>lh t h.tuple) x.conns:=by
 simp only[PX,fu,lc]
 rw[lL (λh:Conn=>lh t h.tuple) x.conns (λj x a h=>by
  simp only[PX,vp,aa,getD_some h,lh])]
 unfold gk
 cases x.conns.findIdx? (λh=>lh t h.tuple)<;>rfl
theorem fj (x:Tabl)(t:Tupl):aH.f (x,t,())=gk (λh=>lh t h.tuple) x.conns:=by
 simp only[PX,aH,ec,aZ]
 rw[lL (λh:Conn=>lh t h.tuple) x.conns (λj x a h=>by
  simp only[PX,fD,ud,aa,getD_some h,lh])]
 unfold gk
 cases x.conns.findIdx? (λh=>lh t h.tuple)<;>rfl
theorem lD (x:Tabl)(t:Tupl):fu.f (x,t,())=aH.f (x,t,()):=by rw[G6,fj]
theorem qF (x:Recv):ju.f (x,())=bX.f (x,()):=by
 simp only[PX,ju,bX,Yn]
theorem QL (x:Recv)(h:(x.data.length:Int)<=32):bX.f (x,())<=32:=by
 simp only[PX,bX]
 cases x.done with
 |true=>simp only[cond_true];omega
 |false=>
  simp only[cond_false]
  rw[aj (by omega) (by omega)]
  split<;>omega
theorem uh (x:Sndr):fZ.f (x,())=br.f (x,()):=by
 simp only[PX,fZ,br,cU,bx,ar]
def ex (L:Int):Int->List Piec->Option Int
 |a,[]=>some a
 |a,p::r=>bif (p.text==[])||decide (p.off<=a)||decide (L<p.off+(p.text.length:Int))then none else ex L (p.off+(p.text.length:Int)) r
theorem Rc (L:Int):∀(r:List Piec) (a b:Int),ex L a r=some b->a<=b/\(a<=L->b<=L)
 |[],a,b,h=>by cases h;exact⟨Int.le_refl _,λh=>h⟩
 |p::r,a,b,h=>by
  simp only[ex]at h
  cases hc:((p.text==[])||decide (p.off<=a)||decide (L<p.off+(p.text.length:Int)))with
  |true=>rw[hc]at h;cases h
  |false=>
   rw[hc]at h
   simp only[Bool.or_eq_false_iff,decide_eq_false_iff_not]at hc
   have:=Rc L r _ b h
   omega
theorem LR (L M:Int)(hLM:L<=M):∀(r:List Piec) (a:Int),a<=L->ex L a r=(match ex M a r with|some b=>bif decide (b<=L)then some b else none|none=>none)
 |[],a,h=>by simp only[ex,decide_eq_true h,cond_true]
 |p::r,a,h=>by
  simp only[ex]
  cases h1:((p.text==[])||decide (p.off<=a))with
  |true=>simp only[Bool.true_or,cond_true]
  |false=>
   simp only[Bool.false_or]
   by_cases h2:L<p.off+(p.text.length:Int)
   ·rw[decide_eq_true h2]
    simp only[cond_true]
    by_cases h3:M<p.off+(p.text.length:Int)
    ·rw[decide_eq_true h3];rfl
    ·rw[decide_eq_false h3]
     simp only[cond_false]
     cases hw:ex M (p.off+(p.text.length:Int)) r with
     |none=>rfl
     |some b=>
      have:=(Rc M r _ b hw).1
      simp only[]
      rw[decide_eq_false (by omega)]
      rfl
   ·rw[decide_eq_false h2,decide_eq_false (show¬M<p.off+(p.text.length:Int) by omega)]
    simp only[cond_false]
    exact LR L M hLM r _ (by omega)
def bS (xs:List Piec):Prop:=∀y∈xs,y.text.length<=4611686018427387904
theorem bS.getD {xs:List Piec}(h:bS xs)(i:Nat):(xs.getD i (Ty.zero .piec)).text.length<=4611686018427387904:=Sy (p:=λy:Piec=>y.text.length<=4611686018427387904) (by decide+kernel) h i
theorem Q1 {s:ac}(h:(s==[])=false):0<s.length:=by
 cases s with
 |nil=>cases h
 |cons=>simp
theorem Aw {W:Type}{F:Nat->Piec->Int->Stp Int W}{L:Int}{w:W}:∀(r:List Piec) (j:Nat) (a:Int),0<=a->a<=32->L<=32->(∀p∈r,∀j a,0<=a->a<=32->(∃w,(p.text==[]||decide (p.off<=a)||decide (L<p.off+(p.text.length:Int)))=true/\F j p a= .out w)\/((p.text==[]||decide (p.off<=a)||decide (L<p.off+(p.text.length:Int)))=false/\F j p a= .next (p.off+(p.text.length:Int))))->
  (match ex L a r with|some b=>eT F j r a= .next b|none=>∃w,eT F j r a= .out w)
 |[],j,a,_,_,_,_=>rfl
 |p::r,j,a,h0,h1,hL,hF=>by
  rcases hF p List.mem_cons_self j a h0 h1 with⟨w,hc,hf⟩|⟨hc,hf⟩
  ·simp only[ex,hc,cond_true,eT,hf,Stp.elim]
   exact⟨w,rfl⟩
  ·simp only[ex,hc,cond_false,eT,hf,Stp.elim]
   simp only[Bool.or_eq_false_iff,decide_eq_false_iff_not]at hc
   exact Aw (w:=w) r (j+1) _ (by omega) (by omega) hL λq hq=>hF q (List.mem_cons_of_mem _ hq)
theorem aaY (x:Recv)(L:Int)(hL:L<=32)(hs:bS x.held):match ex L 0 x.held with|some b=>aR (λj a=>(eG L x j a).nice) 1 (Int.toNat ((x.held.length:Int)-0)) 0 0= .next b|none=>∃w,aR (λj a=>(eG L x j a).nice) 1 (Int.toNat ((x.held.length:Int)-0)) 0 0= .out w:=by
 rw[av,bA x.held _ rfl (F:=λj p a=>(eG L {x with held:=[p]} 0 a).nice) (by
  intro j p a h
  simp only[PX,eG,aa,getD_some h]
  rfl)]
 refine Aw (w:=(0:Int)) _ _ _ (by omega) (by omega) hL λp hp j a h0 h1=> ?_
 have hl:=hs p hp
 simp only[PX,eG,show Int.toNat 0=0 from rfl,List.getD_cons_zero]
 cases h2:(p.text==[])with
 |true=>exact .inl ⟨_,rfl,rfl⟩
 |false=>
  have hp:=Q1 h2
  cases h3:decide (p.off<=a)with
  |true=>exact .inl ⟨_,rfl,rfl⟩
  |false=>
   simp only[decide_eq_false_iff_not]at h3
   simp only[cond_false,Bool.false_or]
   by_cases h4:L<p.off
   ·refine .inl ⟨a,decide_eq_true (by omega), ?_⟩
    rw[decide_eq_true h4];rfl
   ·rw[decide_eq_false h4,aj (by omega) (by omega)]
    simp only[cond_false]
    by_cases h5:L<p.off+(p.text.length:Int)
    ·rw[decide_eq_true h5];exact .inl ⟨_,rfl,rfl⟩
    ·rw[decide_eq_false h5];exact .inr ⟨rfl,rfl⟩
theorem TS (x:Recv)(L:Int)(hL0: -9223372036854775808<=L-4611686018427387904)(hL:L<=32)(hs:bS x.held):match ex L 0 x.held with|some b=>aR (λj a=>(dE L x.held j a).nice) 1 (Int.toNat ((x.held.length:Int)-0)) 0 0= .next b|none=>∃w,aR (λj a=>(dE L x.held j a).nice) 1 (Int.toNat ((x.held.length:Int)-0)) 0 0= .out w:=by
 rw[av,bA x.held _ rfl (F:=λj p a=>(dE L [p] 0 a).nice) (by
  intro j p a h
  simp only[PX,dE,aa,getD_some h]
  rfl)]
 refine Aw (w:=()) _ _ _ (by omega) (by omega) hL λp hp j a h0 h1=> ?_
 have hl:=hs p hp
 simp only[PX,dE,show Int.toNat 0=0 from rfl,List.getD_cons_zero]
 cases h2:(p.text==[])with
 |true=>exact .inl ⟨_,rfl,rfl⟩
 |false=>
  have hp:=Q1 h2
  cases h3:decide (p.off<=a)with
  |true=>exact .inl ⟨_,rfl,rfl⟩
  |false=>
   simp only[decide_eq_false_iff_not]at h3
   simp only[cond_false,Bool.false_or]
   rw[aj (m:=L-(p.text.length:Int)) (by omega) (by omega)]
   by_cases h5:L<p.off+(p.text.length:Int)
   ·rw[decide_eq_true h5,decide_eq_true (by omega)];exact .inl ⟨_,rfl,rfl⟩
   ·rw[decide_eq_false h5,decide_eq_false (by omega),aj (by omega) (by omega)];exact .inr ⟨rfl,rfl⟩
theorem Cm (x:Recv)(hs:bS x.held):m9.f (x,())=bB.f (x,()):=by
 simp only[PX,m9,bB,fV,ew,cU,bx,qF]
 cases ae.f (x.next,32,())with
 |false=>rfl
 |true=>
  by_cases hd:32<(x.data.length:Int)
  ·rw[decide_eq_true hd];rfl
  ·rw[decide_eq_false hd]
   have hw:=QL x (by omega)
   simp only[Bool.not_true,cond_false]
   cases decide (3<(x.held.length:Int))with
   |true=>rfl
   |false=>
    simp only[cond_false]
    rw[ar]
    by_cases hf: -1<=x.fin/\x.fin<=bX.f (x,())
    ·rw[decide_eq_true hf.1,decide_eq_true hf.2]
     simp only[Bool.and_self,Bool.not_true,cond_false]
     cases h0:(x.fin==0)with
     |true=>rfl
     |false=>
      simp only[cond_false]
      have h0:x.fin≠0:=by simpa using h0
      have k1:=aaY x (bX.f (x,())) hw hs
      by_cases h1:x.fin= -1
      ·have k2:=TS x (bX.f (x,())) (by omega) hw hs
       rw[show(x.fin != -1)=false by simp[h1],show decide (x.fin<0)=true from decide_eq_true (by omega)]
       simp only[cond_true,cond_false]
       cases hp:ex (bX.f (x,())) 0 x.held with
       |some b=>rw[hp]at k1 k2;simp only[]at k1 k2;rw[k1,k2];rfl
       |none=>rw[hp]at k1 k2;obtain⟨w1,k1⟩:=k1;obtain⟨w2,k2⟩:=k2;rw[k1,k2];rfl
      ·have k2:=TS x x.fin (by omega) (by omega) hs
       rw[show(x.fin != -1)=true by simp[h1],show decide (x.fin<0)=false from decide_eq_false (by omega)]
       simp only[cond_true,cond_false]
       rw[LR x.fin (bX.f (x,())) (by omega) x.held 0 (by omega)]at k2
       cases hp:ex (bX.f (x,())) 0 x.held with
       |none=>rw[hp]at k1 k2;obtain⟨w1,k1⟩:=k1;obtain⟨w2,k2⟩:=k2;rw[k1,k2];rfl
       |some b=>
        rw[hp]at k1 k2
        simp only[]at k1 k2
        rw[k1]
        by_cases hb:b<=x.fin
        ·rw[decide_eq_true hb]at k2
         simp only[cond_true]at k2
         rw[k2];simp only[Stp.elim,decide_eq_true hb,cond_true]
        ·rw[decide_eq_false hb]at k2
         obtain⟨w2,k2⟩:=k2
         rw[k2];simp only[Stp.elim,decide_eq_false hb,cond_false]
    ·have:(decide (-1<=x.fin)&&decide (x.fin<=bX.f (x,())))=false:=by
      rw[Bool.and_eq_false_iff];simp only[decide_eq_false_iff_not];omega
     rw[this];rfl
theorem B2 (x:Conn)(hs:bS x.r.held):qB.f (x,())=bR.f (x,()):=by
 simp only[PX,qB,bR,Hd,tJ,uh,Cm x.r hs,gW,bx,ar]
 cases aG.f (x.tuple,())with
 |false=>rfl
 |true=>
 cases br.f (x.s,())with
 |false=>rfl
 |true=>
 cases bB.f (x.r,())with
 |false=>rfl
 |true=>
 cases aF.f (x.opts,())with
 |false=>rfl
 |true=>
 simp only[Bool.not_true,cond_false]
 have hm:(bif !(decide (0<=x.window)&&decide (x.window<=x.most))then true else decide (1073725440<x.most))=(bif !(decide (0<=x.most)&&decide (x.most<=1073725440))then true else !(decide (0<=x.window)&&decide (x.window<=x.most))):=by
  rw[Bool.eq_iff_iff]
  by_cases h1:0<=x.window<;>by_cases h2:x.window<=x.most<;>by_cases h3:1073725440<x.most<;>by_cases h4:0<=x.most<;>by_cases h5:x.most<=1073725440<;>simp[h1,h2,h3,h4,h5]<;>omega
 have ej:∀b:Bool,(bif b then(false,(4:Int),x,())else(false,3,x,()))=(false,(bif b then 4 else 3),x,()):=λb=>by cases b<;>rfl
 have et:∀b:Bool,decide (x.timer<=bif b then 4 else 3)=bif b then decide (x.timer<=4)else decide (x.timer<=3):=λb=>by cases b<;>rfl
 simp only[ej,et]
 revert hm
 generalize(decide (0<=x.window)&&decide (x.window<=x.most))=W
 generalize decide (1073725440<x.most)=M
 generalize(decide (0<=x.most)&&decide (x.most<=1073725440))=N
 generalize(decide (0<=x.tries)&&decide (x.tries<=3))=T
 generalize decide (0<=x.timer)=T0
 generalize decide (x.timer<=4)=T4
 generalize decide (x.timer<=3)=T3
 generalize x.s.fin=sf
 generalize x.s.done=sd
 generalize x.r.done=rd
 generalize x.state=k
 have hk:k=1\/k=2\/k=3\/k=4\/k=5\/k=6\/k=7\/k=8\/(decide (1<=k)&&decide (k<=8))=false:=by
  simp only[Bool.and_eq_false_iff,decide_eq_false_iff_not];omega
 rcases hk with rfl|rfl|rfl|rfl|rfl|rfl|rfl|rfl|hk
 iterate 8 (revert W M N T T0 T4 T3 sf sd rd;decide+kernel)
 intro _;simp only[hk];rfl
theorem S4 (x:Limi):uW.f (x,())=ff.f (x,()):=by
 simp only[PX,uW,ff,bx,ar]
theorem yS {T V W:Type}(xs:List T){f:Int->Unit->Stp Unit V}{g:Int->Unit->Stp Unit W}{k:Nat}(hk:k=xs.length)(h:∀(j:Nat) x,xs[j]? =some x->(∃v w,f j ()= .out v/\g j ()= .out w)\/(f j ()= .next ()/\g j ()= .next ())):
  (∃v w,aR f 1 k 0 ()= .out v/\aR g 1 k 0 ()= .out w)\/(aR f 1 k 0 ()= .next ()/\aR g 1 k 0 ()= .next ()):=by
 subst hk
 have:∀(n i:Nat),i+n=xs.length->(∃v w,aR f 1 n (i:Int) ()= .out v/\aR g 1 n (i:Int) ()= .out w)\/(aR f 1 n (i:Int) ()= .next ()/\aR g 1 n (i:Int) ()= .next ()):=by
  intro n
  induction n with
  |zero=>intro i _;exact .inr ⟨rfl,rfl⟩
  |succ n ih=>
   intro i hi
   rcases h i xs[i] (List.getElem?_eq_getElem (by omega))with⟨v,w,h1,h2⟩|⟨h1,h2⟩
   ·exact .inl ⟨v,w,by simp only[aR,h1,Stp.elim],by simp only[aR,h2,Stp.elim]⟩
   ·simp only[aR,h1,h2,Stp.elim]
    have:=ih (i+1) (by omega)
    rwa [show((i+1:Nat):Int)=(i:Int)+1 by omega]at this
 exact this xs.length 0 (by omega)
theorem Oa (xs:List Tupl)(t:Tupl):uE.f (xs,t,())=xs.any (lh t):=by
 simp only[PX,uE,kV]
 rw[av,bA xs _ rfl (F:=λj y a=>bif lh t y then .out ()else .next ()) (by
  intro j y a h
  simp only[PX,vR,aa,getD_some h,lh])]
 rw[jY (p:=lh t) (w:=λ_ _=>())]
 cases h:xs.findIdx? (lh t)with
 |none=>
  rw[List.findIdx?_eq_none_iff]at h
  simp only[Stp.elim]
  symm
  rw[List.any_eq_false]
  intro x hx;simp[h x hx]
 |some i=>
  obtain⟨h1,h2,_⟩:=List.findIdx?_eq_some_iff_getElem.1 h
  simp only[List.getElem?_eq_getElem h1,Stp.elim]
  symm
  rw[List.any_eq_true];exact⟨xs[i],List.getElem_mem h1,h2⟩
theorem vu (xs:List Tupl)(t:Tupl):oy.f (xs,t,())=gk (lh t) xs:=by
 have e:∀a b:Int,(a==b)=(b==a):=λa b=>by rw[Bool.eq_iff_iff];simp only[beq_iff_eq];exact eq_comm
 simp only[PX,oy,iI]
 rw[lL (lh t) xs (λj x a h=>by
  simp only[PX,qw,aa,getD_some h,lh,e t.ip,e t.port,e t.my])]
 unfold gk
 cases xs.findIdx? (lh t)<;>rfl
theorem Bc {T:Type}{xs:List T}{j:Nat}{x:T}(h:xs[j]? =some x):x∈xs:=List.mem_of_getElem? h
theorem Ly (x:Tabl)(l:Limi)(hs:∀y∈x.conns,bS y.r.held):tA.f (x,l,())=dk.f (x,l,()):=by
 simp only[PX,tA,dk,gJ,fe,gq,fh,S4]
 have h1:=yS x.conns (f:=λj a=>(ro x j a).nice) (g:=λj a=>(ev x.conns x j a).nice) (k:=Int.toNat ((x.conns.length:Int)-0)) (av _) (λj y hy=>by
  simp only[PX,ro,ev,aa,getD_some hy,B2 y (hs y (Bc hy)),lD]
  cases bR.f (y,())with
  |false=>exact .inl ⟨_,_,rfl,rfl⟩
  |true=>cases(aH.f (x,y.tuple,()) != (j:Int))with
   |true=>exact .inl ⟨_,_,rfl,rfl⟩
   |false=>exact .inr ⟨rfl,rfl⟩)
 have h2:=yS x.waiting (f:=λj a=>(ri x j a).nice) (g:=λj a=>(eq x.waiting x j a).nice) (k:=Int.toNat ((x.waiting.length:Int)-0)) (av _) (λj y hy=>by
  simp only[PX,ri,eq,aa,getD_some hy,Oa,vu,lD,List.drop_zero]
  rw[BB (lh y) x.waiting j y hy (wP y)]
  cases(x.waiting.take j).any (lh y)<;>cases decide (aH.f (x,y,())<0)<;>first|exact .inl ⟨_,_,rfl,rfl⟩|exact .inr ⟨rfl,rfl⟩)
 rcases h1 with⟨v,w,h3,h4⟩|⟨h3,h4⟩
 ·rw[h3,h4]
  cases(ff.f (l,()))<;>cases decide (l.conns<(x.conns.length:Int))<;>cases decide (l.waiting<(x.waiting.length:Int))<;>rfl
 ·rw[h3,h4]
  rcases h2 with⟨v,w,h5,h6⟩|⟨h5,h6⟩
  ·rw[h5,h6]
   all_goals (cases(ff.f (l,()))<;>cases decide (l.conns<(x.conns.length:Int))<;>cases decide (l.waiting<(x.waiting.length:Int))<;>rfl)
  ·rw[h5,h6]
   all_goals (cases(ff.f (l,()))<;>cases decide (l.conns<(x.conns.length:Int))<;>cases decide (l.waiting<(x.waiting.length:Int))<;>rfl)
theorem Af (xs:List Half):nR.f (xs,())=eL.f (xs,()):=by
 simp only[PX,nR,eL,iT,kY]
 have h1:=yS xs (f:=λj a=>(eO xs j a).nice) (g:=λj a=>(pf xs xs j a).nice) (k:=Int.toNat ((xs.length:Int)-0)) (av _) (λj y hy=>by
  simp only[PX,eO,pf,aa,getD_some hy,tJ,cU,gW,bx,ar,qU,gv,List.drop_zero,oh]
  rw[BB (λh:Half=>lh y.tuple h.tuple) xs j y hy (wP _)]
  cases aG.f (y.tuple,())with
  |false=>exact .inl ⟨_,_,rfl,rfl⟩
  |true=>
  cases ae.f (y.iss,32,())with
  |false=>exact .inl ⟨_,_,rfl,rfl⟩
  |true=>
  cases ae.f (y.irs,32,())with
  |false=>exact .inl ⟨_,_,rfl,rfl⟩
  |true=>
  cases ae.f (y.window,16,())with
  |false=>exact .inl ⟨_,_,rfl,rfl⟩
  |true=>
  cases aF.f (y.opts,())with
  |false=>exact .inl ⟨_,_,rfl,rfl⟩
  |true=>
  cases(decide (0<=y.age)&&decide (y.age<=6))with
  |false=>exact .inl ⟨_,_,rfl,rfl⟩
  |true=>
  cases(xs.take j).any (λh=>lh y.tuple h.tuple)with
  |true=>exact .inl ⟨_,_,rfl,rfl⟩
  |false=>exact .inr ⟨rfl,rfl⟩)
 rcases h1 with⟨v,w,h3,h4⟩|⟨h3,h4⟩<;>rw[h3,h4]<;>by_cases h:64<(xs.length:Int)
 ·rw[decide_eq_true h];rfl
 ·rw[decide_eq_false h];rfl
 ·rw[decide_eq_true h];simp only[Stp.elim,cond_true];exact decide_eq_false (by omega)
 ·rw[decide_eq_false h];simp only[Stp.elim,cond_false];exact decide_eq_true (by omega)
theorem Ib (d:Door)(xs:List Half):cH.f (xs,d,())=xs.any (λh=>decide (0<=aH.f (d.table,h.tuple,()))):=by
 simp only[PX,cH,eY,bh]
 rw[lL (λh:Half=>decide (0<=aH.f (d.table,h.tuple,()))) xs (λj y a h=>by
  simp only[PX,fN,Ae,aa,getD_some h])]
 rw[<-oh]
 unfold gk
 cases xs.findIdx? (λh=>decide (0<=aH.f (d.table,h.tuple,())))<;>rfl
theorem Xz {T:Type}(p:T->Bool)(xs:List T)(j:Nat):eT (W:=Unit) (λ_ y (_:Unit)=>bif p y then .out ()else .next ()) j xs ()=bif xs.any p then .out ()else .next ():=by
 rw[jY (w:=λ_ _=>())]
 cases h:xs.findIdx? p with
 |none=>
  rw[List.findIdx?_eq_none_iff]at h
  have:xs.any p=false:=by
   rw[List.any_eq_false]
   intro y hy;simp[h y hy]
  rw[this];rfl
 |some i=>
  obtain⟨h1,h2,_⟩:=List.findIdx?_eq_some_iff_getElem.1 h
  have:xs.any p=true:=by rw[List.any_eq_true];exact⟨xs[i],List.getElem_mem h1,h2⟩
  rw[this];simp only[List.getElem?_eq_getElem h1];rfl
theorem Iw (x:Door)(hs:∀y∈x.table.conns,bS y.r.held):tw.f (x,())=bQ.f (x,()):=by
 simp only[PX,tw,bQ,od,cU,RT,Ly x.table x.limits hs,Af,bx,ar,Ib]
 rw[av,bA x.halves _ rfl (F:=λj y a=>bif decide (0<=aH.f (x.table,y.tuple,()))then .out ()else .next ()) (by
  intro j y a h
  simp only[PX,zy,aa,getD_some h,lD])]
 rw[Xz (λy:Half=>decide (0<=aH.f (x.table,y.tuple,())))]
 cases x.halves.any (λy=>decide (0<=aH.f (x.table,y.tuple,())))<;>rfl
theorem Au:∀(r:List Conn) (j:Nat) (c:List Conn) (w:List Tupl),eT (W:=Empty) (λ_ x (a:Tabl×Tabl)=> .next ((⟨[],[]⟩:Tabl),(⟨a.2.conns++[x],a.2.waiting⟩:Tabl))) j r (⟨[],[]⟩,⟨c,w⟩)= .next (⟨[],[]⟩,⟨c++r,w⟩)
 |[],_,c,w=>by simp only[eT,List.append_nil]
 |x::r,j,c,w=>by
  simp only[eT,Stp.elim]
  rw[Au r]
  simp
theorem tS (x:Recv):dT.f (x,())=x:=by simp only[PX,dT,List.nil_append]
theorem vn (x:Recv):iQ.f (x,())=x:=by simp only[PX,iQ,oi]
theorem nI (x:Conn):gt.f (x,())=x:=by simp only[PX,gt,tS]
theorem dJ (x:Conn):dI.f (x,())=x:=by simp only[PX,dI,vn]
theorem Wy (x:Keys):yu.f (x,())=x:=by simp only[PX,yu,MB]
theorem PG (x:Keys):rN.f (x,())=x:=by simp only[PX,rN,H7]
theorem DU (x:Tabl):n9.f (x,())=x:=by
 simp only[PX,n9,jA,List.nil_append]
 rw[av,bA x.conns _ rfl (F:=λ_ y (a:Tabl×Tabl)=> .next ((⟨[],[]⟩:Tabl),(⟨a.2.conns++[y],a.2.waiting⟩:Tabl))) (by
  intro j y a h
  simp only[PX,xh,aa,getD_some h,nI]),Au]
 simp only[Stp.elim,PX,List.nil_append]
theorem mB (x:Tabl):ig.f (x,())=x:=by
 simp only[PX,ig,fS,ov]
 rw[av,bA x.conns _ rfl (F:=λ_ y (a:Tabl×Tabl)=> .next ((⟨[],[]⟩:Tabl),(⟨a.2.conns++[y],a.2.waiting⟩:Tabl))) (by
  intro j y a h
  simp only[PX,rH,aa,getD_some h,dJ]),Au]
 simp only[Stp.elim,PX,List.nil_append]
theorem n3 (x:Door):eE.f (x,())=x:=by simp only[PX,eE,Wy,DU,List.nil_append]
theorem rS (x:Door):jU.f (x,())=x:=by simp only[PX,jU,PG,mB,dU]
theorem lO {W:Type}{f:Int->Unit->Stp Unit W}:∀(k:Nat) (i:Int),(∀j,f j ()= .next ())->aR f 1 k i ()= .next ()
 |0,_,_=>rfl
 |k+1,i,h=>by simp only[aR,h,Stp.elim];exact lO k _ h
theorem KN (o:Opti):oq.f (o,())=i3.f (o,()):=by
 simp only[PX,oq,i3,ck,bH]
theorem W7 (xs:List Half)(h:Half)(n:Int):x7.f (xs,h,n,())=nX.f (xs,h,n,()):=by
 simp only[PX,x7,nX,dU,Af,List.nil_append]
def lx (d:Door):Prop:=∀y∈d.table.conns,bS y.r.held
theorem Xf {d:Door}(hd:ay d):lx d:=by
 intro y hy p hp
 have h1:ah y:=hd.2.2.2.2.2.2.1 y hy
 have h2:bD p:=h1.2.2.2 p hp
 simp only[bD]at h2
 omega
theorem IG (d:Door)(t:Tupl)(g:Segm)(hs:lx d):rb.f (d,t,g,())=(bQ.f (d,())&&(aG.f (t,())&&ai.f (g,()))):=by
 simp only[PX,rb,Iw d hs,tJ,pb]
 cases bQ.f (d,())<;>cases aG.f (t,())<;>rfl
theorem Mb (d:Door)(t:Tupl)(g:Segm):lf.f (d,t,g,())=
  bif (bQ.f (d,())&&(aG.f (t,())&&ai.f (g,())))then
   bif decide (0<=aO.f (d.halves,t,()))then
    bif ((d.halves.getD (aO.f (d.halves,t,())).toNat (Ty.zero .half)).irs != g.seq)then(d,[])else(d,[({eu.f (d,t,g,())with seq:=(d.halves.getD (aO.f (d.halves,t,())).toNat (Ty.zero .half)).iss}:Segm)])
   else bif decide (aH.f (d.table,t,())<0)then
    ({d with halves:=(nX.f (d.halves,(⟨t,(eu.f (d,t,g,())).seq,g.seq,i3.f (g.opts,()),0,g.window⟩:Half),d.limits.halves,())).1},[eu.f (d,t,g,())])
   else(d,[eu.f (d,t,g,())])
  else(d,[]):=by
 simp only[PX,lf,rS]
 cases bQ.f (d,())<;>cases aG.f (t,())<;>cases ai.f (g,())<;>rfl
theorem ZU (d:Door)(t:Tupl)(g:Segm)(hs:lx d):Gy.f (d,t,g,())=lf.f (d,t,g,()):=by
 rw[Mb]
 simp only[PX,Gy,n3,IG d t g hs,Zc,uz,lD,KN,W7]
 cases(bQ.f (d,())&&(aG.f (t,())&&ai.f (g,())))<;>rfl
theorem yJ {W:Type}{f:Int->Unit->Stp Unit W}:∀(k i:Nat),aR f 1 k (i:Int) ()= .next ()↔∀j:Nat,i<=j->j<i+k->f (j:Int) ()= .next ()
 |0,i=>⟨λ_ j h1 h2=>by omega,λ_=>rfl⟩
 |k+1,i=>by
  constructor
  ·intro h j h1 h2
   simp only[aR]at h
   cases hf:f (i:Int) ()with
   |out w=>rw[hf]at h;cases h
   |next a=>
    rw[hf]at h
    simp only[Stp.elim]at h
    rcases Nat.eq_or_lt_of_le h1 with h3|h3
    ·rw[<-h3];exact hf
    ·rw[show(i:Int)+1=((i+1:Nat):Int) by omega]at h
     exact(yJ k (i+1)).1 h j h3 (by omega)
  ·intro h
   simp only[aR,h i (Nat.le_refl _) (by omega),Stp.elim]
   rw[show(i:Int)+1=((i+1:Nat):Int) by omega]
   exact(yJ k (i+1)).2 λj h1 h2=>h j (by omega) (by omega)
def z9 (h:Half):Bool:=aG.f (h.tuple,())&&(ae.f (h.iss,32,())&&(ae.f (h.irs,32,())&&(ae.f (h.window,16,())&&(aF.f (h.opts,())&&(decide (0<=h.age)&&decide (h.age<=6))))))
theorem JX (xs:List Half)(j:Nat)(y:Half)(hy:xs[j]? =some y):((eO xs (j:Int) ()).nice= .next ())↔(z9 y=true/\(xs.take j).any (λh=>lh y.tuple h.tuple)=false):=by
 simp only[PX,eO,aa,getD_some hy,tJ,cU,gW,bx,qU,List.drop_zero,oh,z9]
 cases aG.f (y.tuple,())<;>cases ae.f (y.iss,32,())<;>cases ae.f (y.irs,32,())<;>cases ae.f (y.window,16,())<;>cases aF.f (y.opts,())<;>cases(decide (0<=y.age)&&decide (y.age<=6))<;>cases(xs.take j).any (λh=>lh y.tuple h.tuple)<;>simp
theorem NZ (xs:List Half):eL.f (xs,())=true↔(∀(j:Nat) (y:Half),xs[j]? =some y->z9 y=true/\(xs.take j).any (λh=>lh y.tuple h.tuple)=false)/\xs.length<=64:=by
 rw[<-Af]
 have hT:aR (λj a=>(eO xs j a).nice) 1 xs.length ((0:Nat):Int) ()= .next ()↔∀(j:Nat) (y:Half),xs[j]? =some y->z9 y=true/\(xs.take j).any (λh=>lh y.tuple h.tuple)=false:=by
  rw[yJ]
  constructor
  ·intro h j y hy
   exact(JX xs j y hy).1 (h j (Nat.zero_le _) (by have:=(List.getElem?_eq_some_iff.1 hy).1;omega))
  ·intro h j _ h2
   exact(JX xs j xs[j] (List.getElem?_eq_getElem (by omega))).2 (h j _ (List.getElem?_eq_getElem (by omega)))
 simp only[PX,nR,iT]
 rw[av,show(0:Int)=((0:Nat):Int) from rfl,<-hT]
 cases aR (λj a=>(eO xs j a).nice) 1 xs.length ((0:Nat):Int) ()with
 |next a=>simp only[Stp.elim,PX,decide_eq_true_eq,true_and];omega
 |out w=>simp[Stp.elim,PX]
theorem UW (d:Door)(t:Tupl)(g:Segm):0<=(eu.f (d,t,g,())).seq/\(aG.f (t,())=true->gH.f (d.keys,())=true->0<=g.seq/\g.seq<=4294967295->(eu.f (d,t,g,())).seq<=4294967295):=by
 have hseq:(eu.f (d,t,g,())).seq=nC.f (d,t,g,()):=by simp only[PX,eu]
 rw[hseq]
 simp only[PX,nC]
 generalize yk.f (g.opts,())=mss
 refine⟨by split<;>omega,λht hk hs=> ?_⟩
 have hi:=MG mss
 have he:=BU d.keys hk
 have hc:=QO d.keys.now t g.seq d.keys.epoch (ij.f (mss,())) ht hs he hi
 have hr:=Mo d.keys.now (fB.f (t,g.seq,d.keys.epoch,ij.f (mss,()),()))
 rw[hc];split<;>omega
theorem Ip (x:Sndr):br.f (x,())=true↔SO x:=by
 have h:=br.c.h (x,()) trivial
 simpa using h
theorem xz (x:Sndr):jG.f (x,())=cY.f (x,()):=by simp only[PX,jG,cY]
theorem Qa (x:Sndr):xv.f (x,())=jN.f (x,()):=by simp only[PX,xv,jN,xz,jy]
theorem BF (c:Conn):nb.f (c,())=cJ.f (c,()):=by simp only[PX,nb,cJ,Qa,qF,ck,bH]
theorem X9 (c:Conn):CF.f (c,())=dj.f (c,()):=by
 simp only[PX,CF,dj,nY,rq]
 cases(c.opts.mss==0)with
 |true=>rfl
 |false=>
  simp only[cond_false]
  generalize(if 1460<c.opts.mss then(1460:Int)else c.opts.mss)=m
  split<;>split<;>omega
theorem WZ (x:Sndr)(y:Chun):nG.f (x,y,())=dg.f (x,y,()):=by
 simp only[PX,nG,dg,uh]
 obtain⟨u,dt,se,fi,fs,dn⟩:=x
 cases fi with
 |true=>simp only[Bool.not_true,cond_false]
 |false=>
  cases hy:y.fin with
  |false=>simp only[cond_false]
  |true=>
   have k1:∀n:Int,br.f ((⟨u,dt,n,false,true,dn⟩:Sndr),())=false:=by
    intro n
    cases h:br.f ((⟨u,dt,n,false,true,dn⟩:Sndr),())with
    |false=>rfl
    |true=>
     have:=(Ip _).1 h
     have h2:=this.2.2.2.2.2.1 rfl
     exact Bool.noConfusion h2.1
   simp only[k1,Bool.not_false,cond_true]
theorem Mx (x:Sndr)(h:SO x):cY.f (x,())=if x.finSent then x.sent+1 else x.sent:=by
 simp only[PX,cY]
 have h1:=h.2.2.2.1
 have h2:=h.2.2.2.2.1
 have h3:=h.2.2.1
 cases x.finSent with
 |true=>simp only[cond_true,if_true];rw[aj (by omega) (by omega)]
 |false=>rfl
theorem U4 (l:ac)(S n:Int)(h0:0<=S)(h1:0<=n):(l.take (S+n).toNat).drop S.toNat=(l.drop S.toNat).take n.toNat:=by
 rw[List.drop_take];congr 1;omega
theorem Q2 (x:Sndr)(w m:Int)(hw:w<=9223372036854775807):rG.f (x,w,m,())=aV.f (x,w,m,()):=by
 simp only[PX,rG,aV,uh,xz,Qa,nY,rq]
 cases h:br.f (x,())with
 |false=>rfl
 |true=>
 have hs:=(Ip x).1 h
 have h1:=hs.2.2.2.1
 have h2:=hs.2.2.2.2.1
 have h3:=hs.2.2.1
 simp only[Bool.not_true,cond_false]
 have hF:x.sent<=cY.f (x,())/\cY.f (x,())<=x.sent+1:=by
  rw[Mx x hs];split<;>omega
 obtain⟨F,eF⟩:∃F,cY.f (x,())=F:=⟨_,rfl⟩
 rw[eF]at hF
 simp only[eF]
 generalize jN.f (x,())=q
 rw[aa,List.take_length,List.length_drop]
 rw[aj (m:=(x.data.length:Int)-x.sent) (by omega) (by omega)]
 rw[show((x.data.length-x.sent.toNat:Nat):Int)=(x.data.length:Int)-x.sent by omega]
 obtain⟨c2,e2⟩:∃z:Int,(if w<1000000 then w else 1000000)=z:=⟨_,rfl⟩
 simp only[e2]
 obtain⟨c3,e3⟩:∃z:Int,(if c2<0 then 0 else c2)=z:=⟨_,rfl⟩
 simp only[e3]
 have b3:0<=c3/\c3<=1000000:=by grind
 rw[aj (m:=c3-F) (by omega) (by omega)]
 obtain⟨c5,e5⟩:∃z:Int,(if c3-F<0 then 0 else c3-F)=z:=⟨_,rfl⟩
 simp only[e5]
 obtain⟨W,eW⟩:∃z:Int,(if w< -1 then-1 else w)=z:=⟨_,rfl⟩
 simp only[eW]
 have bW: -1<=W/\W<=9223372036854775807:=by grind
 rw[aj (m:=W-F) (by omega) (by omega)]
 obtain⟨D,eD⟩:∃z:Int,(x.data.length:Int)-x.sent=z:=⟨_,rfl⟩
 simp only[eD]
 obtain⟨c6,e6⟩:∃z:Int,(if m<c5 then m else c5)=z:=⟨_,rfl⟩
 simp only[e6]
 obtain⟨c7,e7⟩:∃z:Int,(if c6<D then c6 else D)=z:=⟨_,rfl⟩
 simp only[e7]
 obtain⟨n,e8⟩:∃z:Int,(if c7<0 then 0 else c7)=z:=⟨_,rfl⟩
 simp only[e8]
 obtain⟨d3,f3⟩:∃z:Int,(if m<D then m else D)=z:=⟨_,rfl⟩
 simp only[f3]
 obtain⟨d4,f4⟩:∃z:Int,(if W-F<d3 then W-F else d3)=z:=⟨_,rfl⟩
 simp only[f4]
 have en:(if 0<d4 then d4 else 0)=n:=by grind
 rw[en]
 have bn:0<=n/\n<=D:=by grind
 have bw:decide (n<W-F)=decide (n<c5):=by
  rw[decide_eq_decide];grind
 rw[bw,aj (m:=x.sent+n) (by omega) (by omega),U4 x.data x.sent n h1 bn.1,List.drop_zero]
 have el:(((x.data.drop x.sent.toNat).take n.toNat)==[])=(n==0):=by
  have hl:((x.data.drop x.sent.toNat).take n.toNat).length=n.toNat:=by rw[List.length_take,List.length_drop];omega
  generalize(x.data.drop x.sent.toNat).take n.toNat=z at*
  cases z with
  |nil=>simp only[List.length_nil]at hl;rw[show n=0 by omega];rfl
  |cons a r=>simp only[List.length_cons]at hl;rw[Bool.eq_iff_iff];simp;omega
 have ed:(x.sent+n==(x.data.length:Int))=(n==D):=by
  rw[Bool.eq_iff_iff];simp only[beq_iff_eq];omega
 rw[el,ed]
theorem EQ {A B W W':Type}[Inhabited W][Inhabited W']{f:A->Stp A W}{g:B->Stp B W'}{R:A->B->Prop}{Q:W->W'->Prop}(hd:Q default default)
  (h:∀a b,R a b->(∃a' b',f a= .next a'/\g b= .next b'/\R a' b')\/(∃w w',f a= .out w/\g b= .out w'/\Q w w')):
  ∀(m:Nat) (a:A) (b:B),R a b->Q (ca f m a) (ca g m b)
 |0,_,_,_=>hd
 |m+1,a,b,hr=>by
  rcases h a b hr with⟨a',b',e1,e2,hr'⟩|⟨w,w',e1,e2,hq⟩
  ·simp only[ca,e1,e2,Stp.elim]
   exact EQ hd h m a' b' hr'
  ·simp only[ca,e1,e2,Stp.elim]
   exact hq
def C5 (c:Conn)(l:List Segm):Conn:={c with timer:=if l=[]then c.timer else if c.timer=0 then 3 else c.timer}
theorem IV (c:Conn):C5 c []=c:=by simp[C5]
theorem Ww (c:Conn)(l:List Segm)(g:Segm)(x:Sndr):(bif ((C5 c l).timer==0)then({C5 c l with s:=x,timer:=3}:Conn)else{C5 c l with s:=x})=C5 {c with s:=x} (l++[g]):=by
 simp only[C5]
 have h1:¬(l++[g]=[]):=by simp
 rw[if_neg h1]
 by_cases hl:l=[]
 ·rw[if_pos hl]
  by_cases ht:c.timer=0
  ·rw[if_pos ht,show(c.timer==0)=true by simp[ht]];rfl
  ·rw[if_neg ht,show(c.timer==0)=false by simp[ht]];rfl
 ·rw[if_neg hl]
  by_cases ht:c.timer=0
  ·rw[if_pos ht];rfl
  ·rw[if_neg ht,show(c.timer==0)=false by simp[ht]];rfl

end
end Go.Proofs.YtbkjnlihfgkkaaaGreat
