/-
  Contracts of functions and plain laws (printed by a program): each theorem says what a function of the program returns; conditions are its hypotheses.
-/
import Derived.Test.YtbkjnlihfgkkaaaGreatES1
set_option linter.all false
set_option maxRecDepth 4000
namespace Go.Proofs.YtbkjnlihfgkkaaaGreat
open Go Go.RowKit
noncomputable section
noncomputable def Mn:=[gC,tj,O7,GP,IG,Lb]
def qA:Sh:=⟨[zi 1,zp 2 0,zp 4 1,zo 6 2],[zk .conn 3,.box [.st .conn [.nil .piec]],za .segm,zf]⟩
noncomputable def MM:Fx:=⟨302,Tryz.f302,[(0,lb [1,2,4,6] [4,5]),(3000003,rA 0 25)],0⟩
noncomputable def qQ (v0:Int)(a:Conn×Conn×List Segm):Tr (Stp (Conn×Conn×List Segm) ((Conn×List Segm))):=
 .val (y9.f (a.1,())) λc4=>
 .cal qU.c (a.1.s,v0,c4,()) λc5=>
 .ite (!c5.2) (.ret (.out (a.1,a.2.2)))<|
 .cal lk.c (a.1,()) λc6=>
 .ite (!(c5.1.text==[])) (.ite c5.1.fin (.grd (GN a.2.2 1 104)<|
   .val (a.2.2++[({c6 with seq:=c5.1.seq,flags:=(bits .or .i64 (bits .or .i64 c6.flags 8) 1),body:=c5.1.text}:Segm)]) λl7=>
   .cal mG.c (a.1.s,c5.1,()) λc8=>
   .ite (a.1.timer==0) (.ret (.next ((⟨a.1.tuple,a.1.state,c8,a.1.r,a.1.window,a.1.most,a.1.opts,3,a.1.tries⟩:Conn),({a.2.1 with r.held:=[]}:Conn),l7)))<|
   .ret (.next (({a.1 with s.una:=c8.una,s.data:=c8.data,s.sent:=c8.sent,s.fin:=c8.fin,s.finSent:=c8.finSent,s.done:=c8.done}:Conn),({a.2.1 with r.held:=[]}:Conn),l7)))<|
  .grd (GN a.2.2 1 104)<|
  .val (a.2.2++[({c6 with seq:=c5.1.seq,flags:=(bits .or .i64 c6.flags 8),body:=c5.1.text}:Segm)]) λl9=>
  .cal mG.c (a.1.s,c5.1,()) λc10=>
  .ite (a.1.timer==0) (.ret (.next ((⟨a.1.tuple,a.1.state,c10,a.1.r,a.1.window,a.1.most,a.1.opts,3,a.1.tries⟩:Conn),({a.2.1 with r.held:=[]}:Conn),l9)))<|
  .ret (.next (({a.1 with s.una:=c10.una,s.data:=c10.data,s.sent:=c10.sent,s.fin:=c10.fin,s.finSent:=c10.finSent,s.done:=c10.done}:Conn),({a.2.1 with r.held:=[]}:Conn),l9)))<|
 .ite c5.1.fin (.grd (GN a.2.2 1 104)<|
  .val (a.2.2++[({c6 with seq:=c5.1.seq,flags:=(bits .or .i64 c6.flags 1),body:=c5.1.text}:Segm)]) λl11=>
  .cal mG.c (a.1.s,c5.1,()) λc12=>
  .ite (a.1.timer==0) (.ret (.next ((⟨a.1.tuple,a.1.state,c12,a.1.r,a.1.window,a.1.most,a.1.opts,3,a.1.tries⟩:Conn),({a.2.1 with r.held:=[]}:Conn),l11)))<|
  .ret (.next (({a.1 with s.una:=c12.una,s.data:=c12.data,s.sent:=c12.sent,s.fin:=c12.fin,s.finSent:=c12.finSent,s.done:=c12.done}:Conn),({a.2.1 with r.held:=[]}:Conn),l11)))<|
 .grd (GN a.2.2 1 104)<|
 .cal mG.c (a.1.s,c5.1,()) λc13=>
 .ite (a.1.timer==0) (.ret (.next ((⟨a.1.tuple,a.1.state,c13,a.1.r,a.1.window,a.1.most,a.1.opts,3,a.1.tries⟩:Conn),({a.2.1 with r.held:=[]}:Conn),(a.2.2++[({c6 with seq:=c5.1.seq,body:=c5.1.text}:Segm)]))))<|
 .ret (.next (({a.1 with s.una:=c13.una,s.data:=c13.data,s.sent:=c13.sent,s.fin:=c13.fin,s.finSent:=c13.finSent,s.done:=c13.done}:Conn),({a.2.1 with r.held:=[]}:Conn),(a.2.2++[({c6 with seq:=c5.1.seq,body:=c5.1.text}:Segm)])))
noncomputable def kT:qA.V→LW qA (Conn×Conn×List Segm) ((Conn×List Segm)):=λ(v0,v1,v2,v3,_)=>⟨(v1,v2,v3),λa=>(v0,a.1,a.2.1,a.2.2,()),qQ v0,DX v1.s,oN .ret ⟨[zp 4 0,zo 5 1],[zk .conn 2,za .segm,zf]⟩ (λp=>(p.1,p.2,()))⟩
set_option maxHeartbeats 4000000 in
theorem Lk:LS Tryz.prog MM [0] (Uf 0 qA kT):=Qu st (aR Mn) _ kT [] trivial
theorem N3 {v0:Int}{v1 v2:Conn}{v3:List Segm}(h0:ac v1∧ac v2∧sL ah v3∧v3.length+DX v1.s≤49):(kT (v0,v1,v2,v3,())).W (λp=>ac p.1∧sL ah p.2∧p.2.length≤49):=
 LW.okW (a:=(v1,v2,v3)) (λa=>ac a.1∧ac a.2.1∧sL ah a.2.2∧a.2.2.length+DX a.1.s≤49) (λa=>DX a.1.s) rfl h0 λ(v1,v2,v3) hv=>by
  refine Tr.V λc4 hc4=>Tr.C ?_ λc5 hc5 qc5=>Tr.I (λb0=>Tr.Ro ?_) λb0=>Tr.C ?_ λc6 hc6 qc6=>Tr.I (λb1=>Tr.I (λb2=>Tr.Gb ?_ λg3=>Tr.V λl7 hl7=>Tr.C ?_ λc8 hc8 qc8=>Tr.I (λb4=>Tr.Rn ?_) λb4=>Tr.Rn ?_) λb2=>Tr.Gb ?_ λg3=>Tr.V λl9 hl9=>Tr.C ?_ λc10 hc10 qc10=>Tr.I (λb4=>Tr.Rn ?_) λb4=>Tr.Rn ?_) λb1=>Tr.I (λb2=>Tr.Gb ?_ λg3=>Tr.V λl11 hl11=>Tr.C ?_ λc12 hc12 qc12=>Tr.I (λb4=>Tr.Rn ?_) λb4=>Tr.Rn ?_) λb2=>Tr.Gb ?_ λg3=>Tr.C ?_ λc13 hc13 qc13=>Tr.I (λb4=>Tr.Rn ?_) λb4=>Tr.Rn ?_
  all_goals ((first|grind|(have tl:∀s:aA,s=[]∨0<s.length:=(λs=>by cases s<;>simp);grind)))
noncomputable def rg:FT (Conn×Int×Unit) (Conn×List Segm) (λx=>ac x.1) (λx v=>ac v.1∧sL ah v.2∧v.2.length≤49):= .mk (λ(x0,x1,_)=>
  .cal fx.c (x0,()) λc1=>
  .bnd (β:=Bool×Unit) (.as (λw=>(w.1=false→SO c1.s∧RO c1.r)) (.cal pd.c (c1,()) λc2=>
   .ite (!c2) (.ret (true,()))<|
   .ite (c1.state==8) (.ret (true,()))<|
   .ret ((c1.state==7),()))) λ(u3a0,_)=>
  .ite u3a0 (.ret (c1,[]))<|
  .lp (kT (x1,c1,(⟨⟨0,0,0⟩,0,⟨0,[],0,false,false,false⟩,⟨0,[],[],0,false⟩,0,0,⟨0,0,false,false,0,0⟩,0,0⟩:Conn),[],())).lp λ(p14a0,p14a1)=>
  .ret (p14a0,p14a1)) (ql @N3)
noncomputable def TX:=dI st MM Mn [(Uf 0 qA kT)] (ks:=[.st .conn,.sc (.int .i64)]) rg (λv=>[(true,kJ (.o true) v.1),(false,[sc (.o true) .segm v.2])]) Tryz.func302 ⟨Lk,trivial⟩
noncomputable def jl:=[qB,vv,mf,fP,BI,zA,Dd]
def jA:Sh:=⟨[zi 1,zs 2,zb 3,zp 4 0,zp 8 1,zp 9 2,zi 10,zp 11 3,zp 12 4,(13,false,[.fn 371 [4,3]]),zp 15 5,zl 42 .piec,zi 43,zi 44,zi 50,zi 51],[zg .recv,.box [.st .recv [.nil .piec]],zk .recv 6,.box [.own 7],.box [.own 8],zx .piec,zf,za .u8,za .bool]⟩
def mq:Sh:=⟨[zi 1,zs 2,zb 3,zp 4 0,zp 8 1,zp 9 2,zi 10,zp 11 3,zp 12 4,(13,false,[.fn 371 [4,3]]),zl 42 .piec,zi 43,zi 44],[zg .recv,.box [.st .recv [.nil .piec]],zk .recv 5,.box [.own 6],.box [.own 7],zf,za .u8,za .bool]⟩
def lR:Sh:=⟨[zi 1,zs 2,zb 3,zp 4 0,zp 8 1,zp 9 2,zi 10,zp 11 3,zp 12 4,(13,false,[.fn 371 [4,3]]),zi 67,zi 68],[zg .recv,.box [.st .recv [.nil .piec]],zk .recv 5,.box [.own 6],.box [.own 7],zf,za .u8,za .bool]⟩
def lu:Sh:=⟨[zp 4 0,zp 8 1,zp 9 2,zi 10,zp 11 3,zp 12 4,zp 19 5,zi 21],[zg .recv,.box [.st .recv [.nil .piec]],zk .recv 6,.box [.own 7],.box [.sl .any .bool],zg .recv,zf,za .u8]⟩
def jL:Sh:=⟨[zp 8 0,zp 9 1,zi 10,zp 11 2,zp 12 3,zp 19 4,zi 21,zi 22,zi 23],[.box [.st .recv [.nil .piec]],zk .recv 5,.box [.own 6],.box [.sl .any .bool],zk .recv 7,zf,za .u8,zf]⟩
def lN:Sh:=⟨[zp 8 0,zp 9 1,zi 10,zp 11 2,zp 12 3,zp 19 4,zi 21,zi 22],[.box [.st .recv [.nil .piec]],zk .recv 5,.box [.own 6],.box [.sl .any .bool],zk .recv 7,zf,za .u8,zf]⟩
def rN:An:=⟨⟨[],[],false,0⟩,⟨[4,8,9,10,11,12,19],[],false,0⟩,⟨[],[]⟩,[(.normal,⟨[zp 4 0,zp 8 1,zp 9 2,zi 10,zp 11 3,zp 12 4,zp 19 5],[zg .recv,.box [.st .recv [.nil .piec]],zk .recv 6,.box [.own 7],.box [.sl .any .bool],zg .recv,zf,za .u8]⟩)]⟩
def mK:An:=⟨⟨[],[],false,0⟩,⟨[8,9,10,11,12,19,21],[],false,0⟩,⟨[],[]⟩,[(.normal,⟨[zp 8 0,zp 9 1,zi 10,zp 11 2,zp 12 3,zp 19 4,zi 21],[.box [.st .recv [.nil .piec]],zk .recv 5,.box [.own 6],.box [.sl .any .bool],zg .recv,zf,za .u8]⟩)]⟩
noncomputable def i5:Fx:=⟨314,Tryz.f314,[(2,lb [1,2,3,4,8,9,10,11,12,13,15,42,43,44,50,51] [1,2,3,4,8,9,10,11,12,13,42,43,44]),(0,lb [1,2,3,4,8,9,10,11,12,13,42,43,44] [1,2,3,4,8,9,10,11,12,13]),(4,la ⟨[1,2,3,4,8,9,10,11,12,13,67,68],[],false,0⟩ ⟨[1,2,3,4,8,9,10,11,12],[.softb 12 0],false,0⟩),(6,lb [4,8,9,10,11,12,19,21] [4,8,9,10,11,12,19,21]),(10,lb [8,9,10,11,12,19,21,22,23] [8,9,10,11,12,19,21,22,23]),(8,la ⟨[8,9,10,11,12,19,21,22],[.box 19 2 .piec],false,0⟩ ⟨[8,9,19],[],false,0⟩),(1000123,rN),(1000152,mK),(3000002,rA 0 32),(3000021,rA 0 90),(3000026,rA 0 123)],0⟩
noncomputable def mH (vb12:Piec)(vb8:Int)(a:Recv×List Int×List Bool):Tr (Stp (Recv×List Int×List Bool) (Empty)):=
 .grd (aY vb12.text vb8)<|
 .cal fS.c ((IntKind.wrap .i64 (vb12.off+vb8)),(ce vb12.text vb8.toNat),a.2.2,a.2.1,()) λc5=>
 .ret (.next (({a.1 with held:=[]}:Recv),c5.2,c5.1))
noncomputable def cQ:jA.V→yQ jA (Recv×List Int×List Bool):=λ(vb0,vb1,vb2,vb3,vb4,vb5,vb6,vb7,vb8,vb9,vb10,vb11,vb12,vb13,vb14,_)=>⟨vb8,(vb10,vb13,vb14),λvb8 a=>(vb0,vb1,vb2,vb3,vb4,vb5,vb6,vb7,vb8,vb9,a.1,vb11,vb12,a.2.1,a.2.2,()),λvb8 _=>(decide (vb8<vb7)),mH vb12,up,1,(Int.toNat (vb7-vb8)),Empty.elim,Prod.mk,oN (.exit 2) ⟨[zi 1,zs 2,zb 3,zp 4 0,zp 8 1,zp 9 2,zi 10,zp 11 3,zp 12 4,(13,false,[.fn 371 [4,3]]),zl 42 .piec,zi 43,zi 44],[zg .recv,.box [.st .recv [.nil .piec]],zk .recv 5,.box [.own 6],.box [.own 7],zf,za .u8,za .bool]⟩ (λx=>(vb0,vb1,vb2,vb3,vb4,vb5,vb6,vb9,({x.2.1 with held:=[]}:Recv),vb11,x.2.2.1,x.2.2.2,()))⟩
theorem A5:LS Tryz.prog i5 [0,0] (kf 2 jA cQ):=fe aq (aR jl) _ cQ [] trivial
theorem BO {vb0 vb3 vb5 vb6 vb7 vb8:Int}{vb1:aA}{vb2:Bool}{vb4:List Piec}{vb9 vb10 vb11:Recv}{vb12:Piec}{vb13:List Int}{vb14:List Bool}(h0:0≤vb8)(h1:vb7≤4611686018427387904)(h2:1≤vb12.off∧vb12.off+(vb12.text.length:Int)≤vb3)(h3:vb3≤32)(h4:bq vb12)(h5:vb7≤(vb12.text.length:Int))(h6:am vb10∧sS vb13∧sS vb14∧vb13.length=vb14.length∧(vb14.length:Int)=vb3):(cQ (vb0,vb1,vb2,vb3,vb4,vb5,vb6,vb7,vb8,vb9,vb10,vb11,vb12,vb13,vb14,())).U vb7 (λvb8 a=>am a.1∧sS a.2.1∧sS a.2.2∧a.2.1.length=a.2.2.length∧(a.2.2.length:Int)=vb3) (λ_=>True):=
 mw (a:=(vb10,vb13,vb14)) h0 h1 h6
noncomputable def gv (v0:Int)(v1:aA)(v2:Bool)(v3:Int)(v4:List Piec)(v5:Int)(v7 v9:Recv)(v6:Int)(a:Recv×List Int×List Bool):Tr (Stp (Recv×List Int×List Bool) (Empty)):=
 .grd (aY v4 v6)<|
 .lp (cQ (v0,v1,v2,v3,v4,v5,v6,(((v4.getD v6.toNat (Ty.zero .piec)).text).length:Int),0,v7,({a.1 with held:=[]}:Recv),v9,(v4.getD v6.toNat (Ty.zero .piec)),a.2.1,a.2.2,())).lp λ(_,a6_0,a6_1,a6_2)=>
 .ret (.next (({({a6_0 with held:=[]}:Recv)with held:=[]}:Recv),a6_1,a6_2))
noncomputable def fp:mq.V→yQ mq (Recv×List Int×List Bool):=λ(v0,v1,v2,v3,v4,v5,v6,v7,v8,v9,v10,v11,_)=>⟨v6,(v8,v10,v11),λv6 a=>(v0,v1,v2,v3,v4,v5,v6,v7,a.1,v9,a.2.1,a.2.2,()),λv6 _=>(decide (v6<v5)),gv v0 v1 v2 v3 v4 v5 v7 v9,up,1,(Int.toNat (v5-v6)),Empty.elim,Prod.mk,oN (.exit 0) ⟨[zi 1,zs 2,zb 3,zp 4 0,zp 8 1,zp 9 2,zi 10,zp 11 3,zp 12 4,(13,false,[.fn 371 [4,3]])],[zg .recv,.box [.st .recv [.nil .piec]],zk .recv 5,.box [.own 6],.box [.own 7],zf,za .u8,za .bool]⟩ (λx=>(v0,v1,v2,v3,v7,({x.2.1 with held:=[]}:Recv),v9,x.2.2.1,x.2.2.2,()))⟩
theorem El:LS Tryz.prog i5 [0] (kf 0 mq fp):=fe aq (aR jl) _ fp [(kf 2 jA cQ)] ⟨A5,trivial⟩
theorem Gq {v0 v3 v5 v6:Int}{v1:aA}{v2:Bool}{v4:List Piec}{v7 v8 v9:Recv}{v10:List Int}{v11:List Bool}(h0:0≤v6)(h1:v5≤4611686018427387904)(h2:cU (pw v3) v4)(h3:v3≤32)(h4:sS v1)(h5:sL bq v4)(h6:am v7)(h7:am v9)(h8:v5≤(v4.length:Int))(h9:am v8∧sS v10∧sS v11∧v10.length=v11.length∧(v11.length:Int)=v3):(fp (v0,v1,v2,v3,v4,v5,v6,v7,v8,v9,v10,v11,())).U v5 (λv6 a=>am a.1∧sS a.2.1∧sS a.2.2∧a.2.1.length=a.2.2.length∧(a.2.2.length:Int)=v3) (λ_=>True):=
 LC.okU (i:=v6) (a:=(v8,v10,v11)) (λ_ _=>rfl) (λ_=>rfl) rfl h0 h1 h9 λv6 (v8,v10,v11) hj hk hv=>by
  refine Tr.G2 ?_ λg0=>Tr.L (BO ?_ ?_ ?_ ?_ ?_ ?_ ?_) (λ(a6_0,a6_1,a6_2) i6=>Tr.Rn ?_) (λp=>Empty.elim p)
  all_goals ((try simp only[cQ,LC.lp,LC.ct,Ct.lp]at*)<;>(have hp:=WZ (i:=v6.toNat) h2 (by omega);simp only[pw]at hp;grind))
noncomputable def lB (v0:Int)(v1:aA)(v3:Int)(v6:Recv)(v5:Int)(a:Recv×List Int×List Bool):Tr (Stp (Recv×List Int×List Bool) (Empty)):=
 .val (bM.f (v0,v5,())) λc8=>
 .val (qN.f (c8,v6.next,())) λc9=>
 .bnd (β:=Bool×Unit) (.ite (decide (c9<v3)) (.ite (v6.fin==(-1)) (.ret (true,()))<|
   .ret ((decide (c9<v6.fin)),()))<|
  .ret (false,())) λ(u10a0,_)=>
 .ite u10a0 (.grd (aY v1 v5)<|
  .cal fS.c (c9,(ce v1 v5.toNat),a.2.2,a.2.1,()) λc11=>
  .ret (.next (({a.1 with held:=[]}:Recv),c11.2,c11.1)))<|
 .ret (.next (({a.1 with held:=[]}:Recv),a.2.1,a.2.2))
noncomputable def fc:lR.V→yQ lR (Recv×List Int×List Bool):=λ(v0,v1,v2,v3,v4,v5,v6,v7,v8,v9,v10,_)=>⟨v5,(v7,v9,v10),λv5 a=>(v0,v1,v2,v3,v4,v5,v6,a.1,v8,a.2.1,a.2.2,()),λv5 _=>(decide (v5<v4)),lB v0 v1 v3 v6,up,1,(Int.toNat (v4-v5)),Empty.elim,Prod.mk,oN (.exit 4) ⟨[zi 1,zs 2,zb 3,zp 4 0,zp 8 1,zp 9 2,zi 10,zp 11 3,zp 12 4],[zg .recv,.box [.st .recv [.nil .piec]],zk .recv 5,.box [.own 6],.box [.sl .any .bool],zf,za .u8]⟩ (λx=>(v0,v1,v2,v3,v6,({x.2.1 with held:=[]}:Recv),v8,x.2.2.2,x.2.2.1,()))⟩
theorem Gn:LS Tryz.prog i5 [1] (kf 4 lR fc):=fe aq (aR jl) _ fc [] trivial
theorem Et {v0 v3 v4 v5:Int}{v1:aA}{v2:Bool}{v6 v7 v8:Recv}{v9:List Int}{v10:List Bool}(h0:0≤v5)(h1:v4≤4611686018427387904)(h2:v3≤32)(h3:sS v1)(h4:am v6)(h5:v4≤(v1.length:Int))(h6:am v7∧sS v9∧sS v10∧v9.length=v10.length∧(v10.length:Int)=v3):(fc (v0,v1,v2,v3,v4,v5,v6,v7,v8,v9,v10,())).U v4 (λv5 a=>am a.1∧sS a.2.1∧sS a.2.2∧a.2.1.length=a.2.2.length∧(a.2.2.length:Int)=v3) (λ_=>True):=
 mw (a:=(v7,v9,v10)) h0 h1 h6
noncomputable def pR (v5:List Bool)(v1:Int)(a:Recv):Tr (Stp (Recv) ((Int×Recv))):=
 .grd (aY v5 v1)<|
 .ite (v5.getD v1.toNat false) (.ret (.next ({a with held:=[]}:Recv)))<|
 .ret (.out (v1,({a with held:=[]}:Recv)))
noncomputable def dV:lu.V→oi lu Recv (Int×Recv):=λ(v0,v1,v2,v3,v4,v5,v6,v7,_)=>⟨v1,v3,λv1 a=>(v0,v1,v2,a,v4,v5,v6,v7,()),λv1 _=>(decide (v1<v0)),pR v5,up,1,(Int.toNat (v0-v1)),.inl,eR,oB (.exit 6) ⟨[zp 4 0,zp 8 1,zp 9 2,zi 10,zp 11 3,zp 12 4,zp 19 5,zi 21],[zg .recv,.box [.st .recv [.nil .piec]],zk .recv 6,.box [.own 7],.box [.sl .any .bool],zg .recv,zf,za .u8]⟩ (λp=>(v0,p.1,v2,p.2,v4,v5,v6,v7,())) (.exit 6) ⟨[zp 4 0,zp 8 1,zp 9 2,zi 10,zp 11 3,zp 12 4,zp 19 5,zi 21],[zg .recv,.box [.st .recv [.nil .piec]],zk .recv 6,.box [.own 7],.box [.sl .any .bool],zg .recv,zf,za .u8]⟩ (λx=>(v0,x.1,v2,({x.2 with held:=[]}:Recv),v4,v5,v6,v7,()))⟩
theorem EN:LS Tryz.prog i5 [2] (kf 6 lu dV):=fe aq (aR jl) _ dV [] trivial
theorem Fn {v0 v1:Int}{v2 v3 v4 v6:Recv}{v5:List Bool}{v7:List Int}(h0:0≤v1)(h1:v0≤4611686018427387904)(h2:sS v5)(h3:v0≤(v5.length:Int))(h4:am v3):(dV (v0,v1,v2,v3,v4,v5,v6,v7,())).U v0 (λv1 a=>am a) (λp=>am p.2∧v1≤p.1∧p.1<v0):=
 mw (a:=v3) h0 h1 h4
noncomputable def mV (vb6:List Bool)(vb2:Int)(a:Recv):Tr (Stp (Recv) ((Int×Recv))):=
 .grd (aY vb6 vb2)<|
 .ite (vb6.getD vb2.toNat false) (.ret (.next ({a with held:=[]}:Recv)))<|
 .ret (.out (vb2,({a with held:=[]}:Recv)))
noncomputable def dK:jL.V→oi jL Recv (Int×Recv):=λ(vb0,vb1,vb2,vb3,vb4,vb5,vb6,vb7,vb8,_)=>⟨vb2,vb4,λvb2 a=>(vb0,vb1,vb2,vb3,a,vb5,vb6,vb7,vb8,()),λvb2 _=>(decide (vb2<vb0)),mV vb6,up,1,(Int.toNat (vb0-vb2)),.inl,eR,oB (.exit 10) ⟨[zp 8 0,zp 9 1,zi 10,zp 11 2,zp 12 3,zp 19 4,zi 21,zi 22,zi 23],[.box [.st .recv [.nil .piec]],zk .recv 5,.box [.own 6],.box [.sl .any .bool],zk .recv 7,zf,za .u8,zf]⟩ (λp=>(vb0,vb1,p.1,vb3,p.2,vb5,vb6,vb7,vb8,())) (.exit 10) ⟨[zp 8 0,zp 9 1,zi 10,zp 11 2,zp 12 3,zp 19 4,zi 21,zi 22,zi 23],[.box [.st .recv [.nil .piec]],zk .recv 5,.box [.own 6],.box [.sl .any .bool],zk .recv 7,zf,za .u8,zf]⟩ (λx=>(vb0,vb1,x.1,vb3,({x.2 with held:=[]}:Recv),vb5,vb6,vb7,vb8,()))⟩
theorem BA:LS Tryz.prog i5 [3,0] (kf 10 jL dK):=fe aq (aR jl) _ dK [] trivial
theorem Bf {vb0 vb1 vb2 vb3:Int}{vb4 vb5 vb7:Recv}{vb6:List Bool}{vb8:List Int}(h0:0≤vb2)(h1:vb0≤4611686018427387904)(h2:vb3=vb2)(h3:vb6.getD vb3.toNat false=true)(h4:sS vb6)(h5:vb0≤(vb6.length:Int))(h6:am vb4):(dK (vb0,vb1,vb2,vb3,vb4,vb5,vb6,vb7,vb8,())).U vb0 (λvb2 a=>am a) (λp=>am p.2∧vb2≤p.1∧p.1<vb0∧vb3<p.1):=
 mw (a:=vb4) h0 h1 h6
noncomputable def fj (v0 v1:Int)(v4:Recv)(v5:List Bool)(v7:List Int)(a:Int×Recv×Recv):Tr (Stp (Int×Recv×Recv) ((Recv×Recv))):=
 .ite (decide (a.1<v0)) (.grd (aY v5 a.1)<|
  .ite (!(v5.getD a.1.toNat false)) (.ret (.next ((IntKind.wrap .i64 (a.1+1)),({a.2.1 with held:=[]}:Recv),a.2.2)))<|
  .lp (dK (v0,v1,a.1,a.1,({a.2.1 with held:=[]}:Recv),v4,v5,a.2.2,v7,())).lp λw22=> .sum w22 (λ(p22a0,p22a1)=>
  .grd (SC v7 a.1 p22a0)<|
  .grd (GN a.2.2.held 1 24)<|
  .val (a.2.2.held++[(⟨(IntKind.wrap .i64 (a.1-v1)),(ay ((v7.take p22a0.toNat).drop a.1.toNat))⟩:Piec)]) λl23=>
  .ret (.next (p22a0,({p22a1 with held:=[]}:Recv),({a.2.2 with held:=l23}:Recv))))<|
  λ(n22,a22_0)=>
  .grd (SC v7 a.1 n22)<|
  .grd (GN a.2.2.held 1 24)<|
  .val (a.2.2.held++[(⟨(IntKind.wrap .i64 (a.1-v1)),(ay ((v7.take n22.toNat).drop a.1.toNat))⟩:Piec)]) λl24=>
  .ret (.next (n22,({({a22_0 with held:=[]}:Recv)with held:=[]}:Recv),({a.2.2 with held:=l24}:Recv))))<|
 .ret (.out (({a.2.1 with held:=[]}:Recv),a.2.2))
noncomputable def di:lN.V→LW lN (Int×Recv×Recv) ((Recv×Recv)):=λ(v0,v1,v2,v3,v4,v5,v6,v7,_)=>⟨(v2,v3,v6),λa=>(v0,v1,a.1,a.2.1,v4,v5,a.2.2,v7,()),fj v0 v1 v4 v5 v7,Int.toNat (v0-v2),oN (.exit 8) ⟨[zp 8 0,zp 9 1,zp 19 2],[.box [.st .recv [.nil .piec]],zk .recv 3,zk .recv 4,zf,zf]⟩ (λp=>(p.1,v4,p.2,()))⟩
theorem EX:LS Tryz.prog i5 [3] (Uf 8 lN di):=Qu aq (aR jl) _ di [(kf 10 jL dK)] ⟨BA,trivial⟩
theorem vQ {v0 v1 v2:Int}{v3 v4 v6:Recv}{v5:List Bool}{v7:List Int}(h0:v0≤32)(h1:(v5.length:Int)=v0)(h2:v7.length=v5.length)(h3:0≤v1)(h4:am v4)(h5:sS v5)(h6:sS v7)(h7:am v3∧am v6∧v1≤v2∧v2≤v0∧(v6.held.length:Int)≤v2):(di (v0,v1,v2,v3,v4,v5,v6,v7,())).W (λp=>am p.1∧am p.2):=
 LW.okW (a:=(v2,v3,v6)) (λa=>am a.2.1∧am a.2.2∧v1≤a.1∧a.1≤v0∧(a.2.2.held.length:Int)≤a.1) (λa=>Int.toNat (v0-a.1)) rfl h7 λ(v2,v3,v6) hv=>by
  refine Tr.I (λ_=>Tr.G2 ?_ λ_=>Tr.I (λ_=>Tr.Rn ?_) λ_=>Tr.L (Bf ?_ ?_ ?_ ?_ ?_ ?_ ?_) (λa22_0 _=>Tr.Sr (Tr.G3 ?_ λ_=>Tr.Gb ?_ λ_=>Tr.V λ_ _=>Tr.Rn ?_)) (λ(p22a0,p22a1) _=>Tr.Sl (Tr.G3 ?_ λ_=>Tr.Gb ?_ λ_=>Tr.V λ_ _=>Tr.Rn ?_))) λ_=>Tr.Ro ?_
  all_goals ((try simp only[dK,LC.lp,LC.ct,Ct.lp]at*)<;>grind)
noncomputable def r6:FT (Recv×Int×aA×Bool×Unit) (Recv) (λx=>am x.1∧sS x.2.2.1) (λx v=>am v):=⟨λ(x0,x1,x2,x3,_)=>
  .cal im.c (x0,()) λc1=>
  .bnd (β:=Bool×Unit) (.cal br.c (x0,()) λc2=>
   .ite (!c2) (.ret (true,()))<|
   .ret (x0.done,())) λ(u3a0,_)=>
  .ite u3a0 (.ret c1)<|
  .cal bQ.c (x0,()) λc4=>
  .grd ((((decide (0≤c4))&&(decide (c4=c4)))&&(decide (c4*1≤(aM:Int))))&&(decide (c4≤(aM:Int))))<|
  .grd ((((decide (0≤c4))&&(decide (c4=c4)))&&(decide (c4*1≤(aM:Int))))&&(decide (c4≤(aM:Int))))<|
  .lp (fp (x1,x2,x3,c4,x0.held,(x0.held.length:Int),0,x0,(⟨0,[],[],0,false⟩:Recv),c1,(List.replicate c4.toNat 0),(List.replicate c4.toNat false),())).lp λ(_,a7_0,a7_1,a7_2)=>
  .lp (fc (x1,x2,x3,c4,(x2.length:Int),0,x0,({({a7_0 with held:=[]}:Recv)with held:=[]}:Recv),c1,a7_1,a7_2,())).lp λ(_,a12_0,a12_1,a12_2)=>
  .val (bM.f (x1,(x2.length:Int),())) λc13=>
  .val (qN.f (c13,x0.next,())) λc14=>
  .bnd (β:=Bool×Unit) (.ite x3 (.ite (x0.fin==(-1)) (.ite (decide (c14≤c4)) (.grd (SC a12_2 c14 (a12_2.length:Int))<|
      .cal ew.c (((a12_2.take ((a12_2.length:Int).toNat)).drop c14.toNat),true,()) λc15=>
      .ret ((!c15),()))<|
     .ret (false,()))<|
    .ret (false,()))<|
   .ret (false,())) λ(u16a0,_)=>
  .bnd (β:=WT rN.es) (.ite u16a0 (.ret (c4,x0,({({a12_0 with held:=[]}:Recv)with held:=[]}:Recv),c1,a12_2,({x0 with fin:=c14}:Recv),a12_1,()))<|
   .ret (c4,x0,({({a12_0 with held:=[]}:Recv)with held:=[]}:Recv),c1,a12_2,x0,a12_1,())) λ(u17a0,u17a1,u17a2,u17a3,u17a4,u17a5,u17a6,_)=>
  .lp (dV (u17a0,0,u17a1,({u17a2 with held:=[]}:Recv),u17a3,u17a4,u17a5,u17a6,())).lp λw18=> .sum w18 (λ(p18a0,p18a1)=>
  .grd ((decide (0≤p18a0))&&(decide (p18a0≤(u17a6.length:Int))))<|
  .grd (Nat.ble (u17a5.data.length+(ay ((u17a6.take p18a0.toNat).drop 0)).length) dF)<|
  .val (bM.f (u17a1.next,p18a0,())) λc19=>
  .bnd (β:=WT mK.es) (.ite (u17a5.fin != (-1)) (.ret (u17a0,p18a0,({p18a1 with held:=[]}:Recv),u17a3,u17a4,(⟨c19,(u17a5.data++(ay ((u17a6.take p18a0.toNat).drop 0))),u17a5.held,(IntKind.wrap .i64 (u17a5.fin-p18a0)),u17a5.done⟩:Recv),u17a6,()))<|
   .ret (u17a0,p18a0,({p18a1 with held:=[]}:Recv),u17a3,u17a4,({u17a5 with next:=c19,data:=(u17a5.data++(ay ((u17a6.take p18a0.toNat).drop 0)))}:Recv),u17a6,())) λ(u20a0,u20a1,u20a2,u20a3,u20a4,u20a5,u20a6,_)=>
  .lp (di (u20a0,u20a1,u20a1,({u20a2 with held:=[]}:Recv),u20a3,u20a4,({u20a5 with held:=[]}:Recv),u20a6,())).lp λ(_,p25a1)=>
  .ite (decide (3<(p25a1.held.length:Int))) (.ret u20a3)<|
  .ite (p25a1.fin==0) (.val (bM.f (p25a1.next,1,())) λc26=>
   .ret (⟨c26,p25a1.data,p25a1.held,(-1),true⟩:Recv))<|
  .ret p25a1)<|
  λ(n18,a18_0)=>
  .grd ((decide (0≤n18))&&(decide (n18≤(u17a6.length:Int))))<|
  .grd (Nat.ble (u17a5.data.length+(ay ((u17a6.take n18.toNat).drop 0)).length) dF)<|
  .val (bM.f (u17a1.next,n18,())) λc27=>
  .bnd (β:=WT mK.es) (.ite (u17a5.fin != (-1)) (.ret (u17a0,n18,({({a18_0 with held:=[]}:Recv)with held:=[]}:Recv),u17a3,u17a4,(⟨c27,(u17a5.data++(ay ((u17a6.take n18.toNat).drop 0))),u17a5.held,(IntKind.wrap .i64 (u17a5.fin-n18)),u17a5.done⟩:Recv),u17a6,()))<|
   .ret (u17a0,n18,({({a18_0 with held:=[]}:Recv)with held:=[]}:Recv),u17a3,u17a4,({u17a5 with next:=c27,data:=(u17a5.data++(ay ((u17a6.take n18.toNat).drop 0)))}:Recv),u17a6,())) λ(u28a0,u28a1,u28a2,u28a3,u28a4,u28a5,u28a6,_)=>
  .lp (di (u28a0,u28a1,u28a1,({u28a2 with held:=[]}:Recv),u28a3,u28a4,({u28a5 with held:=[]}:Recv),u28a6,())).lp λ(_,p29a1)=>
  .ite (decide (3<(p29a1.held.length:Int))) (.ret u28a3)<|
  .ite (p29a1.fin==0) (.val (bM.f (p29a1.next,1,())) λc30=>
   .ret (⟨c30,p29a1.data,p29a1.held,(-1),true⟩:Recv))<|
  .ret p29a1,
 λ(x0,x1,x2,x3,_) hp=>by
  refine Tr.C ?_ λc1 hc1 qc1=>Tr.B (Q':=λw=>(w.1=false→RO x0∧cU (pw (R7 x0)) x0.held)) (Tr.C ?_ λc2 hc2 qc2=>Tr.I (λb0=>Tr.R ?_) λb0=>Tr.R ?_) (λ(u3a0,_) hj3 qj3=>Tr.I (λb0=>Tr.R ?_) λb0=>Tr.C ?_ λc4 hc4 qc4=>Tr.G4 ?_ λg1=>Tr.G4 ?_ λg2=>Tr.L (Gq ?_ ?_ ?_ ?_ ?_ ?_ ?_ ?_ ?_ ?_) (λ(a7_0,a7_1,a7_2) i7=>Tr.L (Et ?_ ?_ ?_ ?_ ?_ ?_ ?_) (λ(a12_0,a12_1,a12_2) i12=>Tr.V λc13 hc13=>Tr.V λc14 hc14=>Tr.B (Q':=λ_=>True) (Tr.I (λb3=>Tr.I (λb4=>Tr.I (λb5=>Tr.G3 ?_ λg6=>Tr.C ?_ λc15 hc15 qc15=>Tr.R trivial) λb5=>Tr.R trivial) λb4=>Tr.R trivial) λb3=>Tr.R trivial) (λ(u16a0,_) hj16 qj16=>Tr.B (Q':=λw=>am w.2.1∧am w.2.2.1∧am w.2.2.2.1∧sS w.2.2.2.2.1∧am w.2.2.2.2.2.1∧sS w.2.2.2.2.2.2.1∧w.1≤32∧0≤w.1∧(w.2.2.2.2.1.length:Int)=w.1∧w.2.2.2.2.2.2.1.length=w.2.2.2.2.1.length∧w.2.2.2.2.2.1.data.length≤32) (Tr.I (λb3=>Tr.R ?_) λb3=>Tr.R ?_) (λ(u17a0,u17a1,u17a2,u17a3,u17a4,u17a5,u17a6,_) hj17 qj17=>Tr.L (Fn ?_ ?_ ?_ ?_ ?_) (λa18_0 i18=>Tr.Sr (Tr.G2 ?_ λg3=>Tr.Gb ?_ λg4=>Tr.V λc27 hc27=>Tr.B (Q':=λw=>am w.2.2.1∧am w.2.2.2.1∧sS w.2.2.2.2.1∧am w.2.2.2.2.2.1∧sS w.2.2.2.2.2.2.1∧w.1≤32∧0≤w.2.1∧w.2.1≤w.1∧(w.2.2.2.2.1.length:Int)=w.1∧w.2.2.2.2.2.2.1.length=w.2.2.2.2.1.length∧w.2.2.2.2.2.1.data.length≤64) (Tr.I (λb5=>Tr.R ?_) λb5=>Tr.R ?_) (λ(u28a0,u28a1,u28a2,u28a3,u28a4,u28a5,u28a6,_) hj28 qj28=>Tr.L (vQ ?_ ?_ ?_ ?_ ?_ ?_ ?_ ?_) (λa=>Empty.elim a) (λ(p29a0,p29a1) hp29=>Tr.I (λb5=>Tr.R ?_) λb5=>Tr.I (λb6=>Tr.V λc30 hc30=>Tr.R ?_) λb6=>Tr.R ?_)))) (λ(p18a0,p18a1) hp18=>Tr.Sl (Tr.G2 ?_ λg3=>Tr.Gb ?_ λg4=>Tr.V λc19 hc19=>Tr.B (Q':=λw=>am w.2.2.1∧am w.2.2.2.1∧sS w.2.2.2.2.1∧am w.2.2.2.2.2.1∧sS w.2.2.2.2.2.2.1∧w.1≤32∧0≤w.2.1∧w.2.1≤w.1∧(w.2.2.2.2.1.length:Int)=w.1∧w.2.2.2.2.2.2.1.length=w.2.2.2.2.1.length∧w.2.2.2.2.2.1.data.length≤64) (Tr.I (λb5=>Tr.R ?_) λb5=>Tr.R ?_) (λ(u20a0,u20a1,u20a2,u20a3,u20a4,u20a5,u20a6,_) hj20 qj20=>Tr.L (vQ ?_ ?_ ?_ ?_ ?_ ?_ ?_ ?_) (λa=>Empty.elim a) (λ(p25a0,p25a1) hp25=>Tr.I (λb5=>Tr.R ?_) λb5=>Tr.I (λb6=>Tr.V λc26 hc26=>Tr.R ?_) λb6=>Tr.R ?_))))))) (λp=>Empty.elim p)) (λp=>Empty.elim p))
  all_goals ((try simp only[fp,fc,dV,di,LC.lp,LC.ct,Ct.lp,LW.lp,LW.cw,Cw.lp,Tr.nice,iq]at*)<;>grind)⟩
noncomputable def Nj:=dI aq i5 jl [(kf 0 mq fp),(kf 4 lR fc),(kf 6 lu dV),(Uf 8 lN di)] (ks:=[.st .recv,.sc (.int .i64),.sc .str,.sc .bool]) r6 (λv=>[(true,yz (.o true) v)]) Tryz.func314 ⟨El,Gn,EN,EX,trivial⟩
def vD:Sh:=⟨[zs 2,zp 7 0,zi 8,zi 9],[zx .sipr]⟩
noncomputable def jg (v0:aA)(v1:Int)(a:Int×Sipr):Tr (Stp (Int×Sipr) ((Int×Sipr))):=
 .ite (decide ((IntKind.wrap .i64 (a.1+8))≤v1)) (.grd (SC v0 a.1 (IntKind.wrap .i64 (a.1+8)))<|
  .cal px.c (((v0.take ((IntKind.wrap .i64 (a.1+8)).toNat)).drop a.1.toNat),()) λc2=>
  .cal rF.c (a.2,c2,()) λc3=>
  .ret (.next ((IntKind.wrap .i64 (a.1+8)),c3)))<|
 .ret (.out (a.1,a.2))
noncomputable def lK:vD.V→LW vD (Int×Sipr) ((Int×Sipr)):=λ(v0,v1,v2,v3,_)=>⟨(v2,v3),λa=>(v0,v1,a.1,a.2,()),jg v0 v1,Int.toNat (v1-v2),oN (.exit 0) ⟨[zs 2,zu 6,zp 7 0,zi 8,zi 9],[zx .sipr]⟩ (λp=>(v0,v1,p.1,p.2,()))⟩
theorem GM {v0:aA}{v1 v2:Int}{v3:Sipr}(h0:v1=(v0.length:Int))(h1:sS v0)(h2:0≤v2∧v2≤v1):(lK (v0,v1,v2,v3,())).W (λp=>0≤p.1∧p.1≤v0.length):=
 Xy (a:=(v2,v3)) (λa=>0≤a.1∧a.1≤v1) (λa=>Int.toNat (v1-a.1)) h2
noncomputable def xa:FT (Int×Int×aA×Unit) (Int) (λx=>sS x.2.2.1) (λ_ _=>True):= .mk (λ(x0,x1,x2,_)=>
  .val (sM.f (x0,x1,())) λc1=>
  .lp (lK (x2,(x2.length:Int),0,c1,())).lp λ(p4a0,p4a1)=>
  .grd (SC x2 p4a0 (x2.length:Int))<|
  .cal px.c (((x2.take ((x2.length:Int).toNat)).drop p4a0.toNat),()) λc5=>
  .val (IntKind.wrap .u64 ((IntKind.wrap .u64 ((x2.length:Int).tmod 256))*72057594037927936)) λe6=>
  .cal rF.c (p4a1,(bits .or .u64 c5 e6),()) λc7=>
  .cal zz.c (c7,()) λc8=>
  .ret c8) (ql @GM)
noncomputable def Nr:=UN st Tryz.func366 [(0,lb [2,7,8,9] [2,6,7,8,9])] [Jx,PJ,Nn,O6] 0 lK (ks:=[.sc (.int .u64),.sc (.int .u64),.sc .str]) xa (λv=>[(false,[.c (.int .u64 v)])])
def u5:Sh:=⟨[zs 2,zp 7 0,(8,false,[.sl .any .u8])],[zx .sipr]⟩
noncomputable def l0 (a:List Int×Sipr):Tr (Stp (List Int×Sipr) ((List Int×Sipr))):=
 .ite (decide (8≤(a.1.length:Int))) (.cal pN.c (a.1,()) λc4=>
  .cal rq.c (a.2,c4,()) λc5=>
  .grd ((decide (8≤(a.1.length:Int)))&&(decide ((a.1.length:Int)≤(a.1.length:Int))))<|
  .ret (.next (((a.1.take ((a.1.length:Int).toNat)).drop 8),c5)))<|
 .ret (.out (a.1,a.2))
noncomputable def me:u5.V→LW u5 (List Int×Sipr) ((List Int×Sipr)):=λ(v0,v1,v2,_)=>⟨(v1,v2),λa=>(v0,a.1,a.2,()),l0,v1.length,oN (.exit 0) ⟨[zs 2,zu 6,zp 7 0,(8,false,[.sl .any .u8])],[zx .sipr]⟩ (λp=>(v0,p.1,p.2,()))⟩
theorem Gd {v0:aA}{v1:List Int}{v2:Sipr}(h0:sS v1):(me (v0,v1,v2,())).W (λp=>sS p.1):=
 Xy (a:=(v1,v2)) (λa=>sS a.1) (λa=>a.1.length) h0
noncomputable def mS:FT (Int×Int×aA×Unit) (Int) (λx=>sS x.2.2.1) (λ_ _=>True):= .mk (λ(x0,x1,x2,_)=>
  .val (qc.f (x0,x1,())) λc1=>
  .grd (Nat.ble x2.length aM)<|
  .lp (me (x2,(lV x2),c1,())).lp λ(p6a0,p6a1)=>
  .val ((p6a0.take (List.replicate 8 0).length)++(List.replicate 8 0).drop (p6a0.take (List.replicate 8 0).length).length) λl7=>
  .grd (decide (7<(l7.length:Int)))<|
  .cal pN.c ((l7.set 7 (IntKind.wrap .u8 (x2.length:Int))),()) λc8=>
  .cal rq.c (p6a1,c8,()) λc9=>
  .cal sx.c (c9,()) λc10=>
  .ret c10) (ql @Gd)
noncomputable def M8:=UN aq Tryz.func367 [(0,la ⟨[2,7,8],[.soft 8 0],false,0⟩ ⟨[2,6,7,8],[],false,0⟩)] [Jg,Od,NS,O5] 0 me (ks:=[.sc (.int .u64),.sc (.int .u64),.sc .str]) mS (λv=>[(false,[.c (.int .u64 v)])])
noncomputable def fW:=[Ed]
def bP:Sh:=⟨[zl 0 .half,(1,false,[.fn 213 [0]]),zi 7,zi 8],[zx .tupl]⟩
noncomputable def f8:Fx:=⟨212,Tryz.f212,[(0,la ⟨[0,1,7,8],[],false,1⟩ ⟨[4],[],false,1⟩)],1⟩
noncomputable def eY (v0:List Half)(v3:Tupl)(v2:Int)(a:Unit):Tr (Stp (Unit) ((Int))):=
 .grd (aY v0 v2)<|
 .cal tq.c ((v0.getD v2.toNat (Ty.zero .half)),v3,()) λc1=>
 .ite c1 (.ret (.out v2))<|
 .ret (.next ())
noncomputable def aV:bP.V→oi bP Unit (Int):=λ(v0,v1,v2,v3,_)=>⟨v2,(),λv2 _=>(v0,v1,v2,v3,()),λv2 _=>(decide (v2<v1)),eY v0 v3,up,1,(Int.toNat (v1-v2)),.inl,eR,oB .ret ⟨[zi 4],[zx .tupl]⟩ (λp=>(p,v3,())) (.exit 0) ⟨[zu 4],[zx .tupl]⟩ (λ_=>(v3,()))⟩
theorem kE:LS Tryz.prog f8 [0] (kf 0 bP aV):=fe st (aR fW) _ aV [] trivial
theorem kL {v0:List Half}{v1 v2:Int}{v3:Tupl}(h0:0≤v2)(h1:v1≤4611686018427387904)(h2:v1≤(v0.length:Int)):(aV (v0,v1,v2,v3,())).U v1 (λ_ _=>True) (λp=>v2≤p∧p<v1):=
 mw h0 h1 trivial
noncomputable def dS:FT (List Half×Tupl×Unit) (Int) (λx=>wS x.1) (λx v=> -1≤v∧v<x.1.length):= .mk (λ(x0,y1_0,_)=>
  .lp (aV (x0,(x0.length:Int),0,y1_0,())).lp λw2=> .sum w2 (λp2a0=>
  .ret p2a0)<|
  λ_=>
  .ret (-1)) (ql @kL)
noncomputable def mA:=n7 st f8 fW [(kf 0 bP aV)] [.sc (.sl .half),.fn 213 [0]] [.box [.st .tupl]] (λx y=>(x.1,y.1.1,())) dS rI (λx y v=>((y.1.1,()),())) Tryz.func212 (by kernel_rfl) ⟨kE,trivial⟩
noncomputable def fY:=[Ej]
def bO:Sh:=⟨[zl 0 .conn,(1,false,[.fn 215 [0]]),zi 7,zi 8],[zx .tupl]⟩
noncomputable def fV:Fx:=⟨214,Tryz.f214,[(0,la ⟨[0,1,7,8],[],false,1⟩ ⟨[4],[],false,1⟩)],1⟩
noncomputable def eU (v0:List Conn)(v3:Tupl)(v2:Int)(a:Unit):Tr (Stp (Unit) ((Int))):=
 .grd (aY v0 v2)<|
 .cal tM.c ((v0.getD v2.toNat (Ty.zero .conn)),v3,()) λc1=>
 .ite c1 (.ret (.out v2))<|
 .ret (.next ())
noncomputable def aW:bO.V→oi bO Unit (Int):=λ(v0,v1,v2,v3,_)=>⟨v2,(),λv2 _=>(v0,v1,v2,v3,()),λv2 _=>(decide (v2<v1)),eU v0 v3,up,1,(Int.toNat (v1-v2)),.inl,eR,oB .ret ⟨[zi 4],[zx .tupl]⟩ (λp=>(p,v3,())) (.exit 0) ⟨[zu 4],[zx .tupl]⟩ (λ_=>(v3,()))⟩
theorem kD:LS Tryz.prog fV [0] (kf 0 bO aW):=fe st (aR fY) _ aW [] trivial
theorem kx {v0:List Conn}{v1 v2:Int}{v3:Tupl}(h0:0≤v2)(h1:v1≤4611686018427387904)(h2:v1≤(v0.length:Int)):(aW (v0,v1,v2,v3,())).U v1 (λ_ _=>True) (λp=>v2≤p∧p<v1):=
 mw h0 h1 trivial
noncomputable def dX:FT (List Conn×Tupl×Unit) (Int) (λx=>wS x.1) (λx v=> -1≤v∧v<x.1.length):= .mk (λ(x0,y1_0,_)=>
  .lp (aW (x0,(x0.length:Int),0,y1_0,())).lp λw2=> .sum w2 (λp2a0=>
  .ret p2a0)<|
  λ_=>
  .ret (-1)) (ql @kx)
noncomputable def mz:=n7 st fV fY [(kf 0 bO aW)] [.sc (.sl .conn),.fn 215 [0]] [.box [.st .tupl]] (λx y=>(x.1,y.1.1,())) dX rI (λx y v=>((y.1.1,()),())) Tryz.func214 (by kernel_rfl) ⟨kD,trivial⟩
noncomputable def qI:FT (Door×Mac×Unit) (Door) (λx=>ai x.1∧aP x.2.1) (λx v=>ai v):= .mk λ(x0,x1,_)=>
  .cal cW.c (x0,()) λc1=>
  .cal wv.c (x0.keys,x1,()) λc2=>
  .ret (⟨c1.port,c1.clock,c2,c1.limits,c1.halves,c1.table,c1.chal⟩:Door)
noncomputable def GX:=bh st Tryz.func12 [gK,MN] (ks:=[.st .door,.st .mac]) qI (λv=>[(true,jW (.o true) (.o true) (.o true) (.o true) (.o true) v)])
noncomputable def wt:FT (Tabl×Tabl×Unit) (Bool) (λx=>bA x.1∧bA x.2.1) (λ_ _=>True):= .mk λ(x0,x1,_)=>
  .cal wR.c (x0.conns,x1.conns,()) λc1=>
  .ite (!c1) (.ret false)<|
  .cal sZ.c (x0.waiting,x1.waiting,()) λc2=>
  .ite (!c2) (.ret false)<|
  .ret true
noncomputable def NN:=bh st Tryz.func78 [LT,K2] (ks:=[.st .tabl,.st .tabl]) wt rB
noncomputable def aJ:FT (List Half×Tupl×Unit) (Int) (λx=>wS x.1) (λx v=> -1≤v∧v<x.1.length):= .mk λ(x0,x1,_)=>
  .cal dS.c (x0,x1,()) λc1=>
  .ret c1
noncomputable def lG:=bh aq Tryz.func112 [mA] (ks:=[.sc (.sl .half),.st .tupl]) aJ rI
noncomputable def aw:FT (Tabl×Tupl×Unit) (Int) (λx=>wS x.1.conns) (λx v=> -1≤v∧v<x.1.conns.length):= .mk λ(x0,x1,_)=>
  .cal dX.c (x0.conns,x1,()) λc1=>
  .ret c1
noncomputable def gY:=bh aq Tryz.func113 [mz] (ks:=[.st .tabl,.st .tupl]) aw rI
noncomputable def er:FT (Tabl×Conn×Unit) (Tabl) (λx=>bA x.1∧ac x.2.1) (λx v=>bA v∧v.conns.length=x.1.conns.length):= .mk λ(x0,x1,_)=>
  .cal gQ.c (x0,()) λc1=>
  .cal aw.c (x0,x1.tuple,()) λc2=>
  .ite (decide (0≤c2)) (.cal cV.c (x1,()) λc3=>
   .grd (aY c1.conns c2)<|
   .ret (⟨(c1.conns.set c2.toNat c3),c1.waiting⟩:Tabl))<|
  .ret c1
noncomputable def Cp:=bh aq Tryz.func129 [pP,gY,eN] (ks:=[.st .tabl,.st .conn]) er (λv=>[(true,xW .d (.o true) v)])
noncomputable def mZ:FT (List Half×Tupl×Unit) (List Half) (λx=>sS x.1) (λx v=>sS v):= .mk λ(x0,x1,_)=>
  .cal dQ.c (x0,()) λc1=>
  .cal aJ.c (x0,x1,()) λc2=>
  .ite (decide (0≤c2)) (.cal qZ.c (c1,c2,(IntKind.wrap .i64 (c2+1)),()) λc3=>
   .ret (c3.2.take c3.1))<|
  .ret c1
noncomputable def Av:=bh aq Tryz.func130 [pF,lG,Dh] (ks:=[.sc (.sl .half),.st .tupl]) mZ (λv=>[(false,[sc (.o true) .half v])])
def xG:Sh:=⟨[zp 1 0,zi 3],[.box [.st .door [.sl .arg,.sl .arg,.sl .arg,.sl .arg,.sl .arg]]]⟩
noncomputable def xz (v1:Door)(v0:Int)(a:Unit):Tr (Stp (Unit) ((Unit))):=
 .grd (aY v1.halves v0)<|
 .cal eA.c (v1.table,(v1.halves.getD v0.toNat (Ty.zero .half)).tuple,()) λc8=>
 .ite (decide (0≤c8)) (.ret (.out ()))<|
 .ret (.next ())
noncomputable def nC:xG.V→oi xG Unit (Unit):=λ(v0,v1,_)=>⟨v0,(),λv0 _=>(v0,v1,()),λv0 _=>(decide (v0<(v1.halves.length:Int))),xz v1,up,1,(Int.toNat ((v1.halves.length:Int)-v0)),.inl,eR,oB .ret ⟨[zb 2],[]⟩ (λ_=>(false,())) (.exit 0) ⟨[zu 2],[]⟩ (λ_=>())⟩
theorem G5 {v0:Int}{v1:Door}(h0:0≤v0)(h1:(v1.halves.length:Int)≤4611686018427387904)(h2:ai v1):(nC (v0,v1,())).U (v1.halves.length:Int) (λ_ _=>True) (λ_=>True):=
 mw h0 h1 trivial
noncomputable def vh:FT (Door×Unit) (Bool) (λx=>ai x.1) (λx v=>(v=true→x.1.table.conns.length≤16)):= .mk (λ(x0,_)=>
  .bnd (β:=Bool×Unit) (.as (λw=>(w.1=false→0≤x0.keys.epoch∧x0.keys.epoch≤4294967295∧x0.table.conns.length≤16∧x0.table.waiting.length≤16∧x0.halves.length≤64)) (.cal aN.c (x0.port,16,()) λc1=>
   .ite (!c1) (.ret (true,()))<|
   .cal aN.c (x0.clock,32,()) λc2=>
   .ite (!c2) (.ret (true,()))<|
   .cal rL.c (x0.keys,()) λc3=>
   .ite (!c3) (.ret (true,()))<|
   .cal rx.c (x0.table,x0.limits,()) λc4=>
   .ite (!c4) (.ret (true,()))<|
   .cal mF.c (x0.halves,()) λc5=>
   .ite (!c5) (.ret (true,()))<|
   .ite (decide (x0.limits.halves<(x0.halves.length:Int))) (.ret (true,()))<|
   .val (dz.f (x0.chal,0,x0.limits.chal,())) λc6=>
   .ret ((!c6),()))) λ(u7a0,_)=>
  .ite u7a0 (.ret false)<|
  .lp (nC (0,x0,())).lp λw9=> .sum w9 (λ_=>
  .ret false)<|
  λ_=>
  .ret true) (ql @G5)
noncomputable def ES:=eC st Tryz.func131 [(0,lb [1,3] [2]),(3000001,rA 0 51)] [cM,xV,Cf,zn,dZ,gM] 0 nC (ks:=[.st .door]) vh rB
noncomputable def Ca:=[P0]
def lm:Sh:=⟨[zl 0 .conn,zi 1,zi 5],[]⟩
noncomputable def Cl:Fx:=⟨163,Tryz.f163,[(0,lb [0,1,5] [1,4])],0⟩
noncomputable def py (v0:List Conn)(v2:Int)(a:Int):Tr (Stp (Int) ((Int))):=
 .grd (aY v0 v2)<|
 .cal dU.c ((v0.getD v2.toNat (Ty.zero .conn)),a,()) λc1=>
 .ite (decide (c1<0)) (.ret (.out c1))<|
 .ret (.next c1)
noncomputable def fh:lm.V→oi lm Int (Int):=λ(v0,v1,v2,_)=>⟨v2,v1,λv2 a=>(v0,a,v2,()),λv2 _=>(decide (v2<(v0.length:Int))),py v0,up,1,(Int.toNat ((v0.length:Int)-v2)),.inl,eR,oB .ret ⟨[zi 1,zi 4],[]⟩ (λp=>(p,(-1),())) (.exit 0) ⟨[zi 1,zu 4],[]⟩ (λx=>(x.2,()))⟩
theorem Gr:LS Tryz.prog Cl [0] (kf 0 lm fh):=fe st (aR Ca) _ fh [] trivial
theorem E1 {v0:List Conn}{v1 v2:Int}(h0:0≤v2)(h1:(v0.length:Int)≤4611686018427387904):(fh (v0,v1,v2,())).U (v0.length:Int) (λ_ _=>True) (λ_=>True):=
 mw (a:=v1) h0 h1 trivial
noncomputable def gi:FX (List Conn×Int×Unit) (Int) (λ_=>True) (bC [.sc (.sl .conn),.sc (.int .i64)]):=⟨λ(x0,x1,_)=>
  .ite (decide ((IntKind.wrap .i64 (x1-(x0.length:Int)))<0)) (.ret (-1))<|
  .lp (fh (x0,(IntKind.wrap .i64 (x1-(x0.length:Int))),0,())).lp λw2=> .sum w2 (λ_=>
  .ret (-1))<|
  λ(_,a2_0)=>
  .ret a2_0,
 λ(x0,x1,_) hp hf=>by
  simp only[bC,Pk.fact,fX,eK,Fl.fact,Ty.fl,Ty.toH]at hf
  refine Tr.I (λ_=>Tr.R trivial) λ_=>Tr.L (E1 ?_ ?_) (λa2_0 _=>Tr.Sr (Tr.R trivial)) (λp2a0 _=>Tr.Sl (Tr.R trivial))
  all_goals ((try simp only[fh,LC.lp,LC.ct,Ct.lp]at*)<;>grind)⟩
theorem HZ (xs:List Conn)(k:Int)(h0:0≤k)(h1:k≤1048576)(hl:xs.length≤140737488355328)(he:HR .conn xs)(h:0≤gi.f (xs,k,())):gi.f (xs,k,())≤k∧xs.length≤1048576∧cU ac xs:=by
 have w:IntKind.wrap .i64 (k-(xs.length:Int))=k-(xs.length:Int):=au (by omega) (by omega)
 simp only[FX.f,PX,gi,fh,w,ar]at h⊢
 by_cases c:k-(xs.length:Int)<0
 ·rw[decide_eq_true c,cond_true]at h;omega
 rw[decide_eq_false c,cond_false]at h⊢
 have hf:∀(j:Nat) x a,xs[j]? =some x→(py xs (j:Int) a).nice=(bif decide (dU.f (x,a,())<0)then Stp.out (dU.f (x,a,()))else Stp.next (dU.f (x,a,()))):=λj x a hx=>by
  simp only[PX,py,aa,getD_some hx]
 rw[bE xs _ rfl (F:=λ_ x a=>(bif decide (dU.f (x,a,())<0)then Stp.out (dU.f (x,a,()))else Stp.next (dU.f (x,a,())))) hf]at h⊢
 cases hn:eJ (λ_ x a=>(bif decide (dU.f (x,a,())<0)then Stp.out (dU.f (x,a,()))else Stp.next (dU.f (x,a,())))) 0 xs (k-(xs.length:Int))with
 |out p=>rw[hn]at h;simp only[Stp.elim]at h;omega
 |next b=>
  obtain⟨h2,h3⟩:=yU (λx a=>dU.f (x,a,())) ac xs 0 _ b (λx hx k h0 h1 h=>Ub x k h0 h1 (he x hx) h) (by omega) (by omega) hn
  simp only[Stp.elim]
  exact⟨by omega,by omega,h3⟩
noncomputable def Mi:=JW st Cl Ca [(kf 0 lm fh)] (ks:=[.sc (.sl .conn),.sc (.int .i64)]) gi rI Tryz.func163 ⟨Gr,trivial⟩
def vK:Sh:=⟨[zl 0 .conn,(3,false,[.down 0]),zi 4],[.dar .conn]⟩
noncomputable def vT (v0:List Conn)(v1:Int)(a:List Conn):Tr (Stp (List Conn) (Empty)):=
 .grd (aY v0 v1)<|
 .cal y8.c ((v0.getD v1.toNat (Ty.zero .conn)),()) λc2=>
 .grd (aY a v1)<|
 .ret (.next (a.set v1.toNat c2))
noncomputable def jd:vK.V→yQ vK (List Conn):=λ(v0,v1,v2,_)=>⟨v1,v2,λv1 a=>(v0,v1,a,()),λv1 _=>(decide (v1<(v0.length:Int))),vT v0,up,1,(Int.toNat ((v0.length:Int)-v1)),Empty.elim,Prod.mk,oN (.exit 0) ⟨[zu 2,(3,false,[.down 0])],[.dar .conn]⟩ (λx=>(x.2,()))⟩
theorem Fa {v0 v2:List Conn}{v1:Int}(h0:0≤v1)(h1:(v0.length:Int)≤4611686018427387904)(h2:sL ac v0)(h3:sL ac v2)(h4:v2.length=v2.length∧cU ac v2∧(v0.length:Int)≤(v2.length:Int)):(jd (v0,v1,v2,())).U (v0.length:Int) (λv1 a=>a.length=v2.length∧cU ac a∧(v0.length:Int)≤(a.length:Int)) (λ_=>True):=
 mw (a:=v2) h0 h1 h4
noncomputable def wT:FT (List Conn×Unit) (List Conn) (λx=>sL ac x.1) (λx v=>sL ac v):=⟨λ(x0,_)=>
  .grd ((((decide (0≤(x0.length:Int)))&&(decide ((x0.length:Int)=(x0.length:Int))))&&(decide ((x0.length:Int)*208≤(aM:Int))))&&(decide ((x0.length:Int)≤(aM:Int))))<|
  .val (List.replicate ((x0.length:Int).toNat) (⟨⟨0,0,0⟩,0,⟨0,[],0,false,false,false⟩,⟨0,[],[],0,false⟩,0,0,⟨0,0,false,false,0,0⟩,0,0⟩:Conn)) λl1=>
  .lp (jd (x0,0,l1,())).lp λ(_,a3_0)=>
  .ret a3_0,
 λ(x0,_) hp=>by
  refine Tr.G4 ?_ λ_=>Tr.V λ_ _=>Tr.L (Fa ?_ ?_ ?_ ?_ ?_) (λa3_0 _=>Tr.R ?_) (λp=>Empty.elim p)
  all_goals ((try simp only[jd,LC.lp,LC.ct,Ct.lp]at*)<;>grind)⟩
noncomputable def L2:=eC aq Tryz.func172 [(0,lb [0,3,4] [2,3])] [OK] 0 jd (ks:=[.sc (.sl .conn)]) wT (λv=>[(false,[sc .d .conn v])])
noncomputable def uR:=[Jr,tH,gY,Di]
def lM:Sh:=⟨[zp 2 0,zl 29 .conn,zi 30,zi 31],[.box [.st .tabl [.sl .arg,.sl .arg]]]⟩
def mv:Sh:=⟨[zp 2 0,zl 49 .tupl,zi 50,zi 51],[.box [.st .tabl [.sl .arg,.sl .arg]]]⟩
noncomputable def vL:Fx:=⟨204,Tryz.f204,[(0,lb [2,29,30,31] [2,4]),(2,lb [2,49,50,51] [4]),(3000001,rA 0 27)],0⟩
noncomputable def eg (v0:List Conn)(v3:Tabl)(v2:Int)(a:Unit):Tr (Stp (Unit) ((Unit))):=
 .grd (aY v0 v2)<|
 .cal bG.c ((v0.getD v2.toNat (Ty.zero .conn)),()) λc3=>
 .ite (!c3) (.ret (.out ()))<|
 .cal aw.c (v3,(v0.getD v2.toNat (Ty.zero .conn)).tuple,()) λc4=>
 .ite (c4 != v2) (.ret (.out ()))<|
 .ret (.next ())
noncomputable def fm:lM.V→oi lM Unit (Unit):=λ(v0,v1,v2,v3,_)=>⟨v2,(),λv2 _=>(v0,v1,v2,v3,()),λv2 _=>(decide (v2<v1)),eg v0 v3,up,1,(Int.toNat (v1-v2)),.inl,eR,oB .ret ⟨[zp 2 0,zb 4],[.box [.st .tabl [.sl .arg,.sl .arg]]]⟩ (λ_=>(false,v3,())) (.exit 0) ⟨[zp 2 0,zu 4],[.box [.st .tabl [.sl .arg,.sl .arg]]]⟩ (λ_=>(v3,()))⟩
theorem Gs:LS Tryz.prog vL [0] (kf 0 lM fm):=fe aq (aR uR) _ fm [] trivial
theorem Fm {v0:List Conn}{v1 v2:Int}{v3:Tabl}(h0:0≤v2)(h1:v1≤4611686018427387904)(h2:sL ac v0)(h3:bA v3)(h4:v1≤(v0.length:Int)):(fm (v0,v1,v2,v3,())).U v1 (λ_ _=>True) (λ_=>True):=
 mw h0 h1 trivial
noncomputable def d8 (v0:List Tupl)(v3:Tabl)(v2:Int)(a:Unit):Tr (Stp (Unit) ((Unit))):=
 .grd (aY v0 v2)<|
 .cal aw.c (v3,(v0.getD v2.toNat (Ty.zero .tupl)),()) λc6=>
 .ite (decide (c6<0)) (.ret (.out ()))<|
 .cal nf.c (v3.waiting,(v0.getD v2.toNat (Ty.zero .tupl)),()) λc7=>
 .ite (c7 != v2) (.ret (.out ()))<|
 .ret (.next ())
noncomputable def fb:mv.V→oi mv Unit (Unit):=λ(v0,v1,v2,v3,_)=>⟨v2,(),λv2 _=>(v0,v1,v2,v3,()),λv2 _=>(decide (v2<v1)),d8 v0 v3,up,1,(Int.toNat (v1-v2)),.inl,eR,oB .ret ⟨[zb 4],[]⟩ (λ_=>(false,())) (.exit 2) ⟨[zu 4],[]⟩ (λ_=>())⟩
theorem Gg:LS Tryz.prog vL [1] (kf 2 mv fb):=fe aq (aR uR) _ fb [] trivial
theorem p5 {v0:List Tupl}{v1 v2:Int}{v3:Tabl}(h0:0≤v2)(h1:v1≤4611686018427387904)(h2:sS v0)(h3:bA v3)(h4:v1≤(v0.length:Int)):(fb (v0,v1,v2,v3,())).U v1 (λ_ _=>True) (λ_=>True):=
 mw h0 h1 trivial
noncomputable def cX:FT (Tabl×Limi×Unit) (Bool) (λx=>wS x.1.conns∧cU ac x.1.conns∧wS x.1.waiting) (λx v=>(v=true→x.1.conns.length≤16∧x.1.waiting.length≤16)):= .mk (λ(x0,x1,_)=>
  .bnd (β:=Bool×Unit) (.as (λw=>(w.1=false→x1.halves≤64∧x1.waiting≤16∧x1.conns≤16)) (.cal ff.c (x1,()) λc1=>
   .ite (!c1) (.ret (true,()))<|
   .ite (decide (x1.conns<(x0.conns.length:Int))) (.ret (true,()))<|
   .ret ((decide (x1.waiting<(x0.waiting.length:Int))),()))) λ(u2a0,_)=>
  .ite u2a0 (.ret false)<|
  .lp (fm (x0.conns,(x0.conns.length:Int),0,x0,())).lp λw5=> .sum w5 (λ_=>
  .ret false)<|
  λ_=>
  .lp (fb (x0.waiting,(x0.waiting.length:Int),0,x0,())).lp λw8=> .sum w8 (λ_=>
  .ret false)<|
  λ_=>
  .ret true) (XF @Fm @p5 @p5 @p5)
noncomputable def CA:=dI aq vL uR [(kf 0 lM fm),(kf 2 mv fb)] (ks:=[.st .tabl,.st .limi]) cX rB Tryz.func204 ⟨Gs,Gg,trivial⟩
def ur:Sh:=⟨[zl 0 .half,zl 8 .half,zi 9,zi 10],[]⟩
noncomputable def n8 (v0 v1:List Half)(v3:Int)(a:Unit):Tr (Stp (Unit) ((Unit))):=
 .grd (aY v1 v3)<|
 .cal az.c ((v1.getD v3.toNat (Ty.zero .half)).tuple,()) λc1=>
 .ite (!c1) (.ret (.out ()))<|
 .cal aj.c ((v1.getD v3.toNat (Ty.zero .half)).iss,32,()) λc2=>
 .ite (!c2) (.ret (.out ()))<|
 .cal aj.c ((v1.getD v3.toNat (Ty.zero .half)).irs,32,()) λc3=>
 .ite (!c3) (.ret (.out ()))<|
 .cal aj.c ((v1.getD v3.toNat (Ty.zero .half)).window,16,()) λc4=>
 .ite (!c4) (.ret (.out ()))<|
 .cal aF.c ((v1.getD v3.toNat (Ty.zero .half)).opts,()) λc5=>
 .ite (!c5) (.ret (.out ()))<|
 .val (bo.f ((v1.getD v3.toNat (Ty.zero .half)).age,0,6,())) λc6=>
 .ite (!c6) (.ret (.out ()))<|
 .cal aJ.c (v0,(v1.getD v3.toNat (Ty.zero .half)).tuple,()) λc7=>
 .ite (c7 != v3) (.ret (.out ()))<|
 .ret (.next ())
noncomputable def kj:ur.V→oi ur Unit (Unit):=λ(v0,v1,v2,v3,_)=>⟨v3,(),λv3 _=>(v0,v1,v2,v3,()),λv3 _=>(decide (v3<v2)),n8 v0 v1,up,1,(Int.toNat (v2-v3)),.inl,eR,oB .ret ⟨[zb 2],[]⟩ (λ_=>(false,())) (.exit 0) ⟨[zu 2],[]⟩ (λ_=>())⟩
theorem CS {v0 v1:List Half}{v2 v3:Int}(h0:0≤v3)(h1:v2≤4611686018427387904)(h2:wS v0)(h3:v2≤(v1.length:Int)):(kj (v0,v1,v2,v3,())).U v2 (λ_ _=>True) (λ_=>True):=
 mw h0 h1 trivial
noncomputable def ez:FT (List Half×Unit) (Bool) (λx=>wS x.1) (λx v=>(v=true→x.1.length≤64)):= .mk (λ(x0,_)=>
  .ite (decide (64<(x0.length:Int))) (.ret false)<|
  .lp (kj (x0,x0,(x0.length:Int),0,())).lp λw8=> .sum w8 (λ_=>
  .ret false)<|
  λ_=>
  .ret true) (ql @CS)
noncomputable def zL:=eC aq Tryz.func205 [(0,lb [0,8,9,10] [2])] [kU,cL,j5,bZ,lG] 0 kj (ks:=[.sc (.sl .half)]) ez rB
noncomputable def xb:FT (Tabl×Conn×Limi×Unit) (Tabl×Bool) (λx=>bA x.1∧ac x.2.1) (λx v=>bA v.1∧v.1.conns.length≤max x.1.conns.length 16∧v.1.waiting.length≤max x.1.waiting.length 16):= .mk λ(x0,x1,x2,_)=>
  .cal mX.c (x0,()) λc1=>
  .cal fx.c (x1,()) λc2=>
  .grd (GN c1.conns 1 208)<|
  .grd (GN c1.waiting 1 24)<|
  .cal rx.c ((⟨(c1.conns++[c2]),(c1.waiting++[x1.tuple])⟩:Tabl),x2,()) λc3=>
  .ite (!c3) (.cal mX.c (x0,()) λc4=>
   .ret (c4,false))<|
  .ret ((⟨(c1.conns++[c2]),(c1.waiting++[x1.tuple])⟩:Tabl),true)
noncomputable def Nw:=bh st Tryz.func218 [vj,gC,Cf] (ks:=[.st .tabl,.st .conn,.st .limi]) xb (λv=>[(true,xW (.o true) (.o true) v.1),(false,[.c (.bool v.2)])])
noncomputable def L8:=[gC,Cr,wn,IG,SA,TX,pZ]
def n6:An:=⟨⟨[],[],false,0⟩,⟨[2,3,4,5,6,7,8,9],[],false,0⟩,⟨[],[]⟩,[(.normal,⟨[zp 2 0,zp 3 1,zp 4 2,(5,false,[.nil]),zi 6,zp 7 3,zo 8 4,zi 9],[zg .conn,zx .segm,.box [.st .conn [.nil .piec]],zk .conn 5,za .segm,zf]⟩)]⟩
noncomputable def Mx:Fx:=⟨219,Tryz.f219,[(1000046,n6),(3000014,rA 0 46),(3000022,rA 0 78)],0⟩
noncomputable def sm:FT (Conn×Segm×Unit) (Conn×List Segm×Int) (λx=>ac x.1∧ah x.2.1) (λx v=>ac v.1∧sL ah v.2.1):= .mk λ(x0,x1,_)=>
  .cal fx.c (x0,()) λc1=>
  .cal rZ.c (x0,x1,()) λc2=>
  .ite (c2==1) (.ret (c1,[],c2))<|
  .ite (c2==2) (.ret (({c1 with state:=8,timer:=0,tries:=0}:Conn),[],c2))<|
  .ite (c2==3) (.ite (c2==3) (.bnd (β:=Bool×Unit) (.ite (c2==4) (.ite (x0.state==7) (.val (fZ.f (x1,1,())) λc3=>
       .ret (c3,()))<|
      .ret (false,()))<|
     .ret (false,())) λ(u4a0,_)=>
    .bnd (β:=WT n6.es) (.as (λw=>ac w.2.2.1∧ah w.2.2.2.1∧ac w.2.2.2.2.1∧ac w.2.2.2.2.2.1∧sL ah w.2.2.2.2.2.2.1) (.ite u4a0 (.ret (0,c2,x0,x1,(⟨⟨0,0,0⟩,0,⟨0,[],0,false,false,false⟩,⟨0,[],[],0,false⟩,0,0,⟨0,0,false,false,0,0⟩,0,0⟩:Conn),({c1 with timer:=4}:Conn),[],()))<|
     .ret (0,c2,x0,x1,(⟨⟨0,0,0⟩,0,⟨0,[],0,false,false,false⟩,⟨0,[],[],0,false⟩,0,0,⟨0,0,false,false,0,0⟩,0,0⟩:Conn),c1,[],()))) λ(_,u5a1,u5a2,_,_,u5a5,_,_)=>
    .cal lk.c (u5a2,()) λc6=>
    .ret (u5a5,[c6],u5a1))<|
   .cal Ao.c (x0,x1,()) λc7=>
   .ite (c7.state==8) (.ret (c7,[],c2))<|
   .cal lk.c (c7,()) λc8=>
   .cal rg.c (c7,c7.window,()) λc9=>
   .bnd (β:=Bool×Unit) (.cal gX.c (x1,()) λc10=>
    .ite (decide (0<c10)) (.ret (((c9.2.length:Int)==0),()))<|
    .ret (false,())) λ(u11a0,_)=>
   .ite u11a0 (.grd (GN c9.2 1 104)<|
    .ret (c9.1,(c9.2++[c8]),c2))<|
   .ret (c9.1,c9.2,c2))<|
  .ite (c2==4) (.bnd (β:=Bool×Unit) (.ite (c2==4) (.ite (x0.state==7) (.val (fZ.f (x1,1,())) λc12=>
      .ret (c12,()))<|
     .ret (false,()))<|
    .ret (false,())) λ(u13a0,_)=>
   .bnd (β:=WT n6.es) (.as (λw=>ac w.2.2.1∧ah w.2.2.2.1∧ac w.2.2.2.2.1∧ac w.2.2.2.2.2.1∧sL ah w.2.2.2.2.2.2.1) (.ite u13a0 (.ret (0,c2,x0,x1,(⟨⟨0,0,0⟩,0,⟨0,[],0,false,false,false⟩,⟨0,[],[],0,false⟩,0,0,⟨0,0,false,false,0,0⟩,0,0⟩:Conn),({c1 with timer:=4}:Conn),[],()))<|
    .ret (0,c2,x0,x1,(⟨⟨0,0,0⟩,0,⟨0,[],0,false,false,false⟩,⟨0,[],[],0,false⟩,0,0,⟨0,0,false,false,0,0⟩,0,0⟩:Conn),c1,[],()))) λ(_,u14a1,u14a2,_,_,u14a5,_,_)=>
   .cal lk.c (u14a2,()) λc15=>
   .ret (u14a5,[c15],u14a1))<|
  .cal Ao.c (x0,x1,()) λc16=>
  .ite (c16.state==8) (.ret (c16,[],c2))<|
  .cal lk.c (c16,()) λc17=>
  .cal rg.c (c16,c16.window,()) λc18=>
  .bnd (β:=Bool×Unit) (.cal gX.c (x1,()) λc19=>
   .ite (decide (0<c19)) (.ret (((c18.2.length:Int)==0),()))<|
   .ret (false,())) λ(u20a0,_)=>
  .ite u20a0 (.grd (GN c18.2 1 104)<|
   .ret (c18.1,(c18.2++[c17]),c2))<|
  .ret (c18.1,c18.2,c2)
noncomputable def Ch:=dI st Mx L8 [] (ks:=[.st .conn,.st .segm]) sm (λv=>[(true,kJ (.o true) v.1),(false,[sc (.o true) .segm v.2.1]),(false,[.c (.int .i64 v.2.2)])]) Tryz.func219 trivial
noncomputable def R1:=[B5,eN,Sm,D7,pD,wJ,Nj,OU]
def xP:An:=⟨⟨[],[],false,0⟩,⟨[2,3,4,5],[],false,0⟩,⟨[],[]⟩,[(.normal,⟨[zp 2 0,zp 3 1,zp 4 2,zp 5 3],[zg .conn,zx .segm,.box [.st .conn [.nil .piec]],zk .conn 4,zf]⟩)]⟩
noncomputable def Rs:Fx:=⟨239,Tryz.f239,[(1000024,xP),(3000009,rA 0 54),(3000014,rA 0 73)],0⟩
noncomputable def Ak:FT (Conn×Segm×Unit) (Conn) (λx=>ac x.1∧ah x.2.1) (λx v=>ac v):= .mk λ(x0,x1,_)=>
  .cal rE.c (x0,x1,()) λc1=>
  .ite (c1 != 5) (.cal cV.c (x0,()) λc2=>
   .ret c2)<|
  .cal cV.c (x0,()) λc3=>
  .cal DN.c (x0.s,x1.ack,()) λc4=>
  .bnd (β:=WT xP.es) (.as (λw=>ac w.1∧ah w.2.1∧ac w.2.2.1∧ac w.2.2.2.1) (.ite c4.2 (.cal vc.c (x1.window,x0.opts,()) λc5=>
    .bnd (β:=Bool×Unit) (.ite (c4.1.una != x0.s.una) (.ret ((x0.state != 7),()))<|
     .cal cG.c (c4.1,()) λc6=>
     .ite (c6==0) (.ret ((x0.state != 7),()))<|
     .ret (false,())) λ(u7a0,_)=>
    .ite u7a0 (.cal cG.c (c4.1,()) λc8=>
     .ite (decide (0<c8)) (.ret (x0,x1,(⟨⟨0,0,0⟩,0,⟨0,[],0,false,false,false⟩,⟨0,[],[],0,false⟩,0,0,⟨0,0,false,false,0,0⟩,0,0⟩:Conn),(⟨c3.tuple,c3.state,c4.1,c3.r,c5,(if c3.most<c5 then c5 else c3.most),c3.opts,3,0⟩:Conn),()))<|
     .ret (x0,x1,(⟨⟨0,0,0⟩,0,⟨0,[],0,false,false,false⟩,⟨0,[],[],0,false⟩,0,0,⟨0,0,false,false,0,0⟩,0,0⟩:Conn),(⟨c3.tuple,c3.state,c4.1,c3.r,c5,(if c3.most<c5 then c5 else c3.most),c3.opts,0,0⟩:Conn),()))<|
    .ret (x0,x1,(⟨⟨0,0,0⟩,0,⟨0,[],0,false,false,false⟩,⟨0,[],[],0,false⟩,0,0,⟨0,0,false,false,0,0⟩,0,0⟩:Conn),(⟨c3.tuple,c3.state,c4.1,c3.r,c5,(if c3.most<c5 then c5 else c3.most),c3.opts,c3.timer,c3.tries⟩:Conn),()))<|
   .ret (x0,x1,(⟨⟨0,0,0⟩,0,⟨0,[],0,false,false,false⟩,⟨0,[],[],0,false⟩,0,0,⟨0,0,false,false,0,0⟩,0,0⟩:Conn),c3,()))) λ(u9a0,u9a1,_,u9a3,_)=>
  .bnd (β:=Bool×Unit) (.ite (u9a0.state==1) (.ret (true,()))<|
   .ite (u9a0.state==2) (.ret (true,()))<|
   .ret ((u9a0.state==3),())) λ(u10a0,_)=>
  .ite u10a0 (.val (bk.f (u9a1,1,())) λc11=>
   .cal r6.c (u9a0.r,u9a1.seq,u9a1.body,c11,()) λc12=>
   .cal qi.c (({u9a3 with r.next:=c12.next,r.data:=c12.data,r.held:=c12.held,r.fin:=c12.fin,r.done:=c12.done}:Conn),()) λc13=>
   .ret c13)<|
  .cal qi.c (u9a3,()) λc14=>
  .ret c14
noncomputable def Rl:=dI aq Rs R1 [] (ks:=[.st .conn,.st .segm]) Ak (λv=>[(true,kJ (.o true) v)]) Tryz.func239 trivial
def z5:Sh:=⟨[zs 1,zp 2 0,zi 5],[zg .mac]⟩
noncomputable def sA (v0:aA)(v2:Mac)(v1:Int)(a:Unit):Tr (Stp (Unit) ((Int))):=
 .grd (aY v2.rows v1)<|
 .ite ((v2.rows.getD v1.toNat (Ty.zero .macRow)).input==v0) (.grd (aY v2.rows v1)<|
  .ite (decide ((((v2.rows.getD v1.toNat (Ty.zero .macRow)).value).tmod 16777216)<0)) (.val (IntKind.wrap .i64 ((((v2.rows.getD v1.toNat (Ty.zero .macRow)).value).tmod 16777216)+16777216)) λe2=>
   .ret (.out e2))<|
  .ret (.out (((v2.rows.getD v1.toNat (Ty.zero .macRow)).value).tmod 16777216)))<|
 .ret (.next ())
noncomputable def oS:z5.V→oi z5 Unit (Int):=λ(v0,v1,v2,_)=>⟨v1,(),λv1 _=>(v0,v1,v2,()),λv1 _=>(decide (v1<(v2.rows.length:Int))),sA v0 v2,up,1,(Int.toNat ((v2.rows.length:Int)-v1)),.inl,eR,oB .ret ⟨[zi 4],[]⟩ (λp=>(p,())) (.exit 0) ⟨[zu 4],[]⟩ (λ_=>())⟩
theorem Ji {v0:aA}{v1:Int}{v2:Mac}(h0:0≤v1)(h1:(v2.rows.length:Int)≤4611686018427387904):(oS (v0,v1,v2,())).U (v2.rows.length:Int) (λ_ _=>True) (λ_=>True):=
 mw h0 h1 trivial
noncomputable def Dz:FT (Mac×aA×Unit) (Int) (λx=>aP x.1∧sS x.2.1) (λ_ _=>True):= .mk (λ(x0,x1,_)=>
  .ite (!x0.use) (.cal xa.c (x0.k,x0.l,x1,()) λc1=>
   .ret (IntKind.wrap .i64 (c1.tmod 16777216)))<|
  .lp (oS (x1,0,x0,())).lp λw3=> .sum w3 (λp3a0=>
  .ret p3a0)<|
  λ_=>
  .ret 0) (ql @Ji)
noncomputable def Su:=eC st Tryz.func304 [(0,lb [1,2,5] [4])] [Nr] 0 oS (ks:=[.st .mac,.sc .str]) Dz rI
def y7:Sh:=⟨[zs 1,zl 19 .macRow,zi 20,zi 21],[]⟩
noncomputable def jB (v0:aA)(v1:List MacRow)(v3:Int)(a:Unit):Tr (Stp (Unit) ((Int))):=
 .grd (aY v1 v3)<|
 .ite ((v1.getD v3.toNat (Ty.zero .macRow)).input==v0) (.val (IntKind.wrap .i64 ((((v1.getD v3.toNat (Ty.zero .macRow)).value).tmod 16777216)+16777216)) λe2=>
  .ret (.out (e2.tmod 16777216)))<|
 .ret (.next ())
noncomputable def lU:y7.V→oi y7 Unit (Int):=λ(v0,v1,v2,v3,_)=>⟨v3,(),λv3 _=>(v0,v1,v2,v3,()),λv3 _=>(decide (v3<v2)),jB v0 v1,up,1,(Int.toNat (v2-v3)),.inl,eR,oB .ret ⟨[zi 4],[]⟩ (λp=>(p,())) (.exit 0) ⟨[zu 4],[]⟩ (λ_=>())⟩
theorem Kv {v0:aA}{v1:List MacRow}{v2 v3:Int}(h0:0≤v3)(h1:v2≤4611686018427387904)(h2:v2≤(v1.length:Int)):(lU (v0,v1,v2,v3,())).U v2 (λ_ _=>True) (λ_=>True):=
 mw h0 h1 trivial
noncomputable def ot:FT (Mac×aA×Unit) (Int) (λx=>aP x.1∧sS x.2.1) (λ_ _=>True):= .mk (λ(x0,x1,_)=>
  .ite (!x0.use) (.cal mS.c (x0.k,x0.l,x1,()) λc1=>
   .ret (IntKind.wrap .i64 (c1.tmod 16777216)))<|
  .lp (lU (x1,x0.rows,(x0.rows.length:Int),0,())).lp λw3=> .sum w3 (λp3a0=>
  .ret p3a0)<|
  λ_=>
  .ret 0) (ql @Kv)
noncomputable def Q1:=eC aq Tryz.func306 [(0,lb [1,19,20,21] [4])] [M8] 0 lU (ks:=[.st .mac,.sc .str]) ot rI
noncomputable def dq:FT (Door×Door×Unit) (Bool) (λx=>ai x.1∧ai x.2.1) (λ_ _=>True):= .mk λ(x0,x1,_)=>
  .ite (x0.port != x1.port) (.ret false)<|
  .ite (x0.clock != x1.clock) (.ret false)<|
  .cal zE.c (x0.keys,x1.keys,()) λc1=>
  .ite (!c1) (.ret false)<|
  .val (tw.f (x0.limits,x1.limits,())) λc2=>
  .ite (!c2) (.ret false)<|
  .cal wV.c (x0.halves,x1.halves,()) λc3=>
  .ite (!c3) (.ret false)<|
  .cal wt.c (x0.table,x1.table,()) λc4=>
  .ite (!c4) (.ret false)<|
  .ite (x0.chal != x1.chal) (.ret false)<|
  .ret true
noncomputable def td:=bh st Tryz.func16 [P6,K0,Le,NN] (ks:=[.st .door,.st .door]) dq rB
noncomputable def dB:FX (Tabl×Int×Unit) (Int) (λ_=>True) (bC [.st .tabl,.sc (.int .i64)]):=⟨λ(x0,x1,_)=>
  .cal gi.c (x0.conns,x1,()) λc1=>
  .ite (decide (c1<0)) (.ret (-1))<|
  .cal gW.c (x0.waiting,c1,()) λc2=>
  .ite (decide (c2<0)) (.ret (-1))<|
  .ret c2,
 λ(x0,x1,_) hp hf=>by
  simp only[bC,Pk.fact,fX,eK,Fl.fact,Ty.fl,Ty.toH]at hf
  refine Tr.C trivial λ_ _ _=>Tr.I (λ_=>Tr.R trivial) λ_=>Tr.C trivial λ_ _ _=>Tr.F (by kernel_rfl) trivial⟩
theorem Rz (x:Tabl)(k:Int)(h0:0≤k)(h1:k≤1048576)(hl:x.conns.length≤140737488355328)(he:HR .conn x.conns)(hw:x.waiting.length≤140737488355328)(h:0≤dB.f (x,k,())):dB.f (x,k,())≤k∧bA x:=by
 have e:dB.f (x,k,())=(bif decide (gi.f (x.conns,k,())<0)then-1 else(bif decide (gW.f (x.waiting,gi.f (x.conns,k,()),())<0)then-1 else gW.f (x.waiting,gi.f (x.conns,k,()),()))):=by first|(simp only[FX.f,PX,dB];done)|(simp only[FX.f,PX,dB];rfl)
 rw[e]at h⊢
 obtain⟨p0,e0⟩:=nP h
 rw[e0]at h⊢
 obtain⟨p1,e1⟩:=nP h
 rw[e1]at h⊢
 have b0:=HZ _ _ h0 (by omega) hl he p0
 have b1:=EA _ _ p0 (by omega) hw p1
 refine⟨by omega, ?_⟩
 unfold bA
 exact⟨by omega,b0.2.2,by omega⟩
theorem Se (x:Tabl)(k:Int)(h0:0≤k)(h1:k≤1048576)(hl:x.conns.length≤140737488355328)(he:HR .conn x.conns)(hw:x.waiting.length≤140737488355328)(h:0≤dB.f (x,k,())):dB.f (x,k,())≤k∧x.conns.length≤1048576:=by
 have e:dB.f (x,k,())=(bif decide (gi.f (x.conns,k,())<0)then-1 else(bif decide (gW.f (x.waiting,gi.f (x.conns,k,()),())<0)then-1 else gW.f (x.waiting,gi.f (x.conns,k,()),()))):=by first|(simp only[FX.f,PX,dB];done)|(simp only[FX.f,PX,dB];rfl)
 rw[e]at h⊢
 obtain⟨p0,e0⟩:=nP h
 rw[e0]at h⊢
 obtain⟨p1,e1⟩:=nP h
 rw[e1]at h⊢
 have b0:=HZ _ _ h0 (by omega) hl he p0
 have b1:=EA _ _ p0 (by omega) hw p1
 refine⟨by omega, ?_⟩
 exact b0.2.1
noncomputable def Mf:=uh st Tryz.func64 [Mi,Je] (ks:=[.st .tabl,.sc (.int .i64)]) dB rI
noncomputable def wg:FT (Tabl×Unit) (Tabl) (λx=>bA x.1) (λx v=>bA v):= .mk λ(x0,_)=>
  .cal wT.c (x0.conns,()) λc1=>
  .cal tD.c (x0.waiting,()) λc2=>
  .ret (⟨c1,c2⟩:Tabl)
noncomputable def M7:=bh aq Tryz.func71 [L2,KY] (ks:=[.st .tabl]) wg (λv=>[(true,xW .d (.o true) v)])
noncomputable def qa:FT (Door×Tupl×Segm×Unit) (Bool) (λx=>ai x.1∧ah x.2.2.1) (λ_ _=>True):= .mk λ(x0,x1,x2,_)=>
  .cal vh.c (x0,()) λc1=>
  .ite c1 (.cal lc.c (x1,()) λc2=>
   .ite c2 (.cal k8.c (x2,()) λc3=>
    .ret c3)<|
   .ret false)<|
  .ret false
noncomputable def Ad:=bh st Tryz.func101 [ES,nU,rc] (ks:=[.st .door,.st .tupl,.st .segm]) qa rB
noncomputable def Nm:=[pF,zL]
noncomputable def Mr:Fx:=⟨114,Tryz.f114,[(3000002,rA 0 22)],0⟩
noncomputable def m6:FT (List Half×Half×Int×Unit) (List Half×Bool) (λx=>sS x.1) (λx v=>sS v.1):= .mk λ(x0,x1,x2,_)=>
  .cal dQ.c (x0,()) λc1=>
  .grd (GN c1 1 96)<|
  .bnd (β:=Bool×Unit) (.as (λw=>(w.1=false→(c1++[x1]).length≤64)) (.ite (decide (x2≤(x0.length:Int))) (.ret (true,()))<|
   .cal ez.c ((c1++[x1]),()) λc2=>
   .ret ((!c2),()))) λ(u3a0,_)=>
  .ite u3a0 (.cal dQ.c (x0,()) λc4=>
   .ret (c4,false))<|
  .ret ((c1++[x1]),true)
noncomputable def L5:=dI aq Mr Nm [] (ks:=[.sc (.sl .half),.st .half,.sc (.int .i64)]) m6 (λv=>[(false,[sc (.o true) .half v.1]),(false,[.c (.bool v.2)])]) Tryz.func114 trivial
noncomputable def uY:FT (Door×Conn×Segm×Int×Unit) (Door×List Segm×Int) (λx=>ai x.1∧ac x.2.1∧ah x.2.2.1) (λx v=>ai v.1∧sL ah v.2.1):= .mk λ(x0,x1,x2,x3,_)=>
  .cal cW.c (x0,()) λc1=>
  .cal xb.c (x0.table,x1,x0.limits,()) λc2=>
  .ite (!c2.2) (.ret (c1,[],0))<|
  .cal sm.c (x1,x2,()) λc3=>
  .cal wl.c (c2.1,c3.1,()) λc4=>
  .cal pW.c (c1.halves,x1.tuple,()) λc5=>
  .ret (({c1 with halves:=c5,table.conns:=c4.conns,table.waiting:=c4.waiting}:Door),c3.2.1,x3)
noncomputable def OS:=bh st Tryz.func119 [gK,Nw,Ch,NP,Ar] (ks:=[.st .door,.st .conn,.st .segm,.sc (.int .i64)]) uY (λv=>[(true,jW (.o true) (.o true) (.o true) (.o true) (.o true) v.1),(false,[sc (.o true) .segm v.2.1]),(false,[.c (.int .i64 v.2.2)])])
noncomputable def kY:FT (Tabl×Conn×Limi×Unit) (Tabl×Bool) (λx=>bA x.1∧ac x.2.1) (λx v=>bA v.1∧v.1.conns.length≤max x.1.conns.length 16∧v.1.waiting.length≤max x.1.waiting.length 16∧x.1.conns.length≤v.1.conns.length):= .mk λ(x0,x1,x2,_)=>
  .cal gQ.c (x0,()) λc1=>
  .cal cV.c (x1,()) λc2=>
  .grd (GN c1.conns 1 208)<|
  .grd (GN c1.waiting 1 24)<|
  .cal cX.c ((⟨(c1.conns++[c2]),(c1.waiting++[x1.tuple])⟩:Tabl),x2,()) λc3=>
  .ite (!c3) (.cal gQ.c (x0,()) λc4=>
   .ret (c4,false))<|
  .ret ((⟨(c1.conns++[c2]),(c1.waiting++[x1.tuple])⟩:Tabl),true)
noncomputable def K5:=bh aq Tryz.func127 [pP,eN,CA] (ks:=[.st .tabl,.st .conn,.st .limi]) kY (λv=>[(true,xW .d (.o true) v.1),(false,[.c (.bool v.2)])])
noncomputable def NI:=[B5,eN,wJ,IT,Rl,SV,pT]
def oa:An:=⟨⟨[],[],false,0⟩,⟨[2,4,5,6,7,8],[],false,0⟩,⟨[],[]⟩,[(.normal,⟨[zp 2 0,zp 4 1,(5,false,[.nil]),zi 6,zi 7,zp 8 2],[zg .conn,.box [.st .conn [.nil .piec]],zk .conn 3,zf]⟩)]⟩
noncomputable def LI:Fx:=⟨128,Tryz.f128,[(1000037,oa),(3000009,rA 0 37),(3000017,rA 0 68)],0⟩
noncomputable def mD:FT (Conn×Segm×Unit) (Conn×List Segm×Int) (λx=>ac x.1∧ah x.2.1) (λx v=>ac v.1∧sL ah v.2.1):= .mk λ(x0,x1,_)=>
  .cal rE.c (x0,x1,()) λc1=>
  .cal cV.c (x0,()) λc2=>
  .ite (c1==2) (.ret (({c2 with state:=8,timer:=0,tries:=0}:Conn),[],c1))<|
  .ite (c1==3) (.ite (c1==3) (.bnd (β:=Bool×Unit) (.ite (c1==4) (.ite (x0.state==7) (.val (bk.f (x1,1,())) λc3=>
       .ret (c3,()))<|
      .ret (false,()))<|
     .ret (false,())) λ(u4a0,_)=>
    .bnd (β:=WT oa.es) (.as (λw=>ac w.2.2.1∧ac w.2.2.2.1∧ac w.2.2.2.2.1) (.ite u4a0 (.ret (0,c1,x0,(⟨⟨0,0,0⟩,0,⟨0,[],0,false,false,false⟩,⟨0,[],[],0,false⟩,0,0,⟨0,0,false,false,0,0⟩,0,0⟩:Conn),({c2 with timer:=4}:Conn),()))<|
     .ret (0,c1,x0,(⟨⟨0,0,0⟩,0,⟨0,[],0,false,false,false⟩,⟨0,[],[],0,false⟩,0,0,⟨0,0,false,false,0,0⟩,0,0⟩:Conn),c2,()))) λ(_,u5a1,u5a2,_,u5a4,_)=>
    .cal cp.c (u5a2,()) λc6=>
    .ret (u5a4,[c6],u5a1))<|
   .ite (c1==5) (.cal Ak.c (x0,x1,()) λc7=>
    .ite (c7.state==8) (.ret (c7,[],c1))<|
    .cal dT.c (c7,c7.window,()) λc8=>
    .bnd (β:=Bool×Unit) (.ite ((c8.2.length:Int)==0) (.cal aH.c (x1,()) λc9=>
      .ret ((c9 != 0),()))<|
     .ret (false,())) λ(u10a0,_)=>
    .ite u10a0 (.cal cp.c (c8.1,()) λc11=>
     .ret (c8.1,[c11],c1))<|
    .ret (c8.1,c8.2,c1))<|
   .ret (c2,[],c1))<|
  .ite (c1==4) (.bnd (β:=Bool×Unit) (.ite (c1==4) (.ite (x0.state==7) (.val (bk.f (x1,1,())) λc12=>
      .ret (c12,()))<|
     .ret (false,()))<|
    .ret (false,())) λ(u13a0,_)=>
   .bnd (β:=WT oa.es) (.as (λw=>ac w.2.2.1∧ac w.2.2.2.1∧ac w.2.2.2.2.1) (.ite u13a0 (.ret (0,c1,x0,(⟨⟨0,0,0⟩,0,⟨0,[],0,false,false,false⟩,⟨0,[],[],0,false⟩,0,0,⟨0,0,false,false,0,0⟩,0,0⟩:Conn),({c2 with timer:=4}:Conn),()))<|
    .ret (0,c1,x0,(⟨⟨0,0,0⟩,0,⟨0,[],0,false,false,false⟩,⟨0,[],[],0,false⟩,0,0,⟨0,0,false,false,0,0⟩,0,0⟩:Conn),c2,()))) λ(_,u14a1,u14a2,_,u14a4,_)=>
   .cal cp.c (u14a2,()) λc15=>
   .ret (u14a4,[c15],u14a1))<|
  .ite (c1==5) (.cal Ak.c (x0,x1,()) λc16=>
   .ite (c16.state==8) (.ret (c16,[],c1))<|
   .cal dT.c (c16,c16.window,()) λc17=>
   .bnd (β:=Bool×Unit) (.ite ((c17.2.length:Int)==0) (.cal aH.c (x1,()) λc18=>
     .ret ((c18 != 0),()))<|
    .ret (false,())) λ(u19a0,_)=>
   .ite u19a0 (.cal cp.c (c17.1,()) λc20=>
    .ret (c17.1,[c20],c1))<|
   .ret (c17.1,c17.2,c1))<|
  .ret (c2,[],c1)
noncomputable def Cj:=dI aq LI NI [] (ks:=[.st .conn,.st .segm]) mD (λv=>[(true,kJ (.o true) v.1),(false,[sc (.o true) .segm v.2.1]),(false,[.c (.int .i64 v.2.2)])]) Tryz.func128 trivial
noncomputable def wK:FT (Door×Int×Segm×Unit) (Door×List Segm×Int) (λx=>ai x.1∧ah x.2.2.1∧0≤x.2.1∧x.2.1<x.1.table.conns.length) (λx v=>ai v.1∧sL ah v.2.1):= .mk λ(x0,x1,x2,_)=>
  .cal cW.c (x0,()) λc1=>
  .grd (aY x0.table.conns x1)<|
  .cal sm.c ((x0.table.conns.getD x1.toNat (Ty.zero .conn)),x2,()) λc2=>
  .grd (aY c1.table.conns x1)<|
  .ite (c2.2.2==3) (.ite (x0.chal==x0.limits.chal) (.ret (({c1 with table.conns:=(c1.table.conns.set x1.toNat c2.1)}:Door),[],0))<|
   .ret (({c1 with table.conns:=(c1.table.conns.set x1.toNat c2.1),chal:=(IntKind.wrap .i64 (x0.chal+1))}:Door),c2.2.1,0))<|
  .ret (({c1 with table.conns:=(c1.table.conns.set x1.toNat c2.1)}:Door),c2.2.1,0)
noncomputable def N5:=bh st Tryz.func135 [gK,Ch] (ks:=[.st .door,.sc (.int .i64),.st .segm]) wK (λv=>[(true,jW (.o true) (.o true) (.o true) (.o true) (.o true) v.1),(false,[sc (.o true) .segm v.2.1]),(false,[.c (.int .i64 v.2.2)])])
noncomputable def pH:FT (Mac×Tupl×Int×Int×Int×Unit) (Int) (λx=>aP x.1) (λ_ _=>True):= .mk λ(x0,x1,x2,x3,x4,_)=>
  .cal tW.c (x1,x2,x3,x4,()) λc1=>
  .ite (c1==[]) (.ret (-1))<|
  .val (IntKind.wrap .i64 ((IntKind.wrap .i64 ((x3.tmod 32)*134217728))+(IntKind.wrap .i64 (x4*16777216)))) λe2=>
  .cal Dz.c (x0,c1,()) λc3=>
  .ret (IntKind.wrap .i64 (e2+c3))
noncomputable def zX:=bh st Tryz.func226 [KG,Su] (ks:=[.st .mac,.st .tupl,.sc (.int .i64),.sc (.int .i64),.sc (.int .i64)]) pH rI
noncomputable def iZ:FT (Mac×Tupl×Int×Int×Int×Unit) (Int) (λx=>aP x.1) (λ_ _=>True):= .mk λ(x0,x1,x2,x3,x4,_)=>
  .cal eV.c (x1,x2,x3,x4,()) λc1=>
  .ite (c1==[]) (.ret (-1))<|
  .val (IntKind.wrap .i64 ((IntKind.wrap .i64 ((x3.tmod 32)*134217728))+(IntKind.wrap .i64 (x4*16777216)))) λe2=>
  .cal ot.c (x0,c1,()) λc3=>
  .ret (IntKind.wrap .i64 (e2+c3))
noncomputable def y5:=bh aq Tryz.func234 [KI,Q1] (ks:=[.st .mac,.st .tupl,.sc (.int .i64),.sc (.int .i64),.sc (.int .i64)]) iZ rI
noncomputable def BB:FT (MacRow×MacRow×Unit) (Bool) (λ_=>True) (λ_ _=>True):= .mk λ(x0,y1,_)=>
  .ret (x0.input==y1.input)
noncomputable def Ng:=n7 aq ⟨282,Tryz.f282,[],1⟩ [] [] [.st .macRow,.wr false [.ptr 0]] [.box [.st .macRow]] (λx y=>(x.1,y.1.1,())) BB rB (λx y v=>((y.1.1,()),())) Tryz.func282 (by kernel_rfl) trivial
noncomputable def gl:=[Ng]
def bU:Sh:=⟨[zl 0 .macRow,(1,false,[.fn 282 [0]]),zi 7,zi 8],[zx .macRow]⟩
noncomputable def gy:Fx:=⟨350,Tryz.f350,[(0,la ⟨[0,1,7,8],[],false,1⟩ ⟨[4],[],false,1⟩)],1⟩
noncomputable def fu (v0:List MacRow)(v3:MacRow)(v2:Int)(a:Unit):Tr (Stp (Unit) ((Int))):=
 .grd (aY v0 v2)<|
 .cal BB.c ((v0.getD v2.toNat (Ty.zero .macRow)),v3,()) λc1=>
 .ite c1 (.ret (.out v2))<|
 .ret (.next ())
noncomputable def aX:bU.V→oi bU Unit (Int):=λ(v0,v1,v2,v3,_)=>⟨v2,(),λv2 _=>(v0,v1,v2,v3,()),λv2 _=>(decide (v2<v1)),fu v0 v3,up,1,(Int.toNat (v1-v2)),.inl,eR,oB .ret ⟨[zi 4],[zx .macRow]⟩ (λp=>(p,v3,())) (.exit 0) ⟨[zu 4],[zx .macRow]⟩ (λ_=>(v3,()))⟩
theorem lh:LS Tryz.prog gy [0] (kf 0 bU aX):=fe st (aR gl) _ aX [] trivial
theorem lf {v0:List MacRow}{v1 v2:Int}{v3:MacRow}(h0:0≤v2)(h1:v1≤4611686018427387904)(h2:v1≤(v0.length:Int)):(aX (v0,v1,v2,v3,())).U v1 (λ_ _=>True) (λp=>v2≤p∧p<v1):=
 mw h0 h1 trivial
noncomputable def ev:FT (List MacRow×MacRow×Unit) (Int) (λx=>wS x.1) (λx v=> -1≤v∧v<x.1.length):= .mk (λ(x0,y1_0,_)=>
  .lp (aX (x0,(x0.length:Int),0,y1_0,())).lp λw2=> .sum w2 (λp2a0=>
  .ret p2a0)<|
  λ_=>
  .ret (-1)) (ql @lf)
noncomputable def mC:=n7 st gy gl [(kf 0 bU aX)] [.sc (.sl .macRow),.fn 282 [0]] [.box [.st .macRow]] (λx y=>(x.1,y.1.1,())) ev rI (λx y v=>((y.1.1,()),())) Tryz.func350 (by kernel_rfl) ⟨lh,trivial⟩
noncomputable def aQ:FX (Door×Int×Unit) (Int) (λ_=>True) (bC [.st .door,.sc (.int .i64)]):=⟨λ(x0,x1,_)=>
  .cal eT.c (x0.keys,x1,()) λc1=>
  .ite (decide (c1<0)) (.ret (-1))<|
  .cal gk.c (x0.halves,c1,()) λc2=>
  .ite (decide (c2<0)) (.ret (-1))<|
  .cal dB.c (x0.table,c2,()) λc3=>
  .ite (decide (c3<0)) (.ret (-1))<|
  .ret c3,
 λ(x0,x1,_) hp hf=>by
  simp only[bC,Pk.fact,fX,eK,Fl.fact,Ty.fl,Ty.toH]at hf
  refine Tr.C trivial λ_ _ _=>Tr.I (λ_=>Tr.R trivial) λ_=>Tr.C trivial λ_ _ _=>Tr.I (λ_=>Tr.R trivial) λ_=>Tr.C trivial λ_ _ _=>Tr.F (by kernel_rfl) trivial⟩
theorem nS (x:Door)(k:Int)(h0:0≤k)(h1:k≤1048576)(n1:x.keys.now.rows.length≤140737488355328)(n2:HR .macRow x.keys.now.rows)(m1:x.keys.before.rows.length≤140737488355328)(m2:HR .macRow x.keys.before.rows)(hh:x.halves.length≤140737488355328)(hl:x.table.conns.length≤140737488355328)(he:HR .conn x.table.conns)(hw:x.table.waiting.length≤140737488355328)(h:0≤aQ.f (x,k,())):aQ.f (x,k,())≤k∧ai x:=by
 have e:aQ.f (x,k,())=(bif decide (eT.f (x.keys,k,())<0)then-1 else(bif decide (gk.f (x.halves,eT.f (x.keys,k,()),())<0)then-1 else(bif decide (dB.f (x.table,gk.f (x.halves,eT.f (x.keys,k,()),()),())<0)then-1 else dB.f (x.table,gk.f (x.halves,eT.f (x.keys,k,()),()),())))):=by first|(simp only[FX.f,PX,aQ];done)|(simp only[FX.f,PX,aQ];rfl)
 rw[e]at h⊢
 obtain⟨p0,e0⟩:=nP h
 rw[e0]at h⊢
 obtain⟨p1,e1⟩:=nP h
 rw[e1]at h⊢
 obtain⟨p2,e2⟩:=nP h
 rw[e2]at h⊢
 have b0:=LL _ _ h0 (by omega) n1 n2 m1 m2 p0
 have b1:=IO _ _ p0 (by omega) hh p1
 have b2:=Rz _ _ p1 (by omega) hl he hw p2
 refine⟨by omega, ?_⟩
 have q0:=b0.2
 have q1:=b1.2
 have q2:=b2.2
 unfold bT at q0
 unfold bA at q2
 unfold ai
 exact⟨q0.1,q0.2.1,q0.2.2.1,q0.2.2.2,by omega,q2.1,q2.2.1,q2.2.2⟩
theorem Al (x:Door)(k:Int)(h0:0≤k)(h1:k≤1048576)(n1:x.keys.now.rows.length≤140737488355328)(n2:HR .macRow x.keys.now.rows)(m1:x.keys.before.rows.length≤140737488355328)(m2:HR .macRow x.keys.before.rows)(hh:x.halves.length≤140737488355328)(hl:x.table.conns.length≤140737488355328)(he:HR .conn x.table.conns)(hw:x.table.waiting.length≤140737488355328)(h:0≤aQ.f (x,k,())):aQ.f (x,k,())≤k∧x.table.conns.length≤1048576:=by
 have e:aQ.f (x,k,())=(bif decide (eT.f (x.keys,k,())<0)then-1 else(bif decide (gk.f (x.halves,eT.f (x.keys,k,()),())<0)then-1 else(bif decide (dB.f (x.table,gk.f (x.halves,eT.f (x.keys,k,()),()),())<0)then-1 else dB.f (x.table,gk.f (x.halves,eT.f (x.keys,k,()),()),())))):=by first|(simp only[FX.f,PX,aQ];done)|(simp only[FX.f,PX,aQ];rfl)
 rw[e]at h⊢
 obtain⟨p0,e0⟩:=nP h
 rw[e0]at h⊢
 obtain⟨p1,e1⟩:=nP h
 rw[e1]at h⊢
 obtain⟨p2,e2⟩:=nP h
 rw[e2]at h⊢
 have b0:=LL _ _ h0 (by omega) n1 n2 m1 m2 p0
 have b1:=IO _ _ p0 (by omega) hh p1
 have b2:=Se _ _ p1 (by omega) hl he hw p2
 refine⟨by omega, ?_⟩
 exact b2.2
noncomputable def tQ:=uh st Tryz.func10 [PT,MG,Mf] (ks:=[.st .door,.sc (.int .i64)]) aQ rI
noncomputable def dA:FT (Door×Unit) (Door) (λx=>ai x.1) (λx v=>ai v):= .mk λ(x0,_)=>
  .cal AL.c (x0.keys,()) λc1=>
  .val (sW.f (x0.limits,())) λc2=>
  .cal wh.c (x0.halves,()) λc3=>
  .cal wg.c (x0.table,()) λc4=>
  .ret (⟨x0.port,x0.clock,c1,c2,c3,c4,x0.chal⟩:Door)
noncomputable def tI:=bh aq Tryz.func13 [O0,J4,Ms,M7] (ks:=[.st .door]) dA (λv=>[(true,jW (.o true) (.o true) (.o true) .d (.o true) v)])
def pu:Sh:=⟨[zi 2,zi 3,zp 4 0,zp 5 1,zi 12,zi 14],[.box [.st .keys [.sl .arg,.sl .arg]],zx .tupl]⟩
noncomputable def kK (v0 v1 v2:Int)(v4:Keys)(v5:Tupl)(v3:Int)(a:Unit):Tr (Stp (Unit) ((Int)⊕(Unit))):=
 .ite (decide ((IntKind.wrap .i64 (v4.epoch-1))≤v3)) (.cal sF.c (v4,v3,()) λc4=>
  .bnd (β:=Bool×Unit) (.ite c4.2 (.cal pH.c (c4.1,v5,v0,v3,v2,()) λc5=>
    .ret ((c5==v1),()))<|
   .ret (false,())) λ(u6a0,_)=>
  .ite u6a0 (.ret (.out (.inl v3)))<|
  .ret (.next ()))<|
 .ret (.out (.inr (())))
noncomputable def ib:pu.V→oi pu Unit ((Int)⊕(Unit)):=λ(v0,v1,v2,v3,v4,v5,_)=>⟨v3,(),λv3 _=>(v0,v1,v2,v3,v4,v5,()),λv3 _=>(decide (0≤v3)),kK v0 v1 v2 v4 v5,dn,(-1),(Int.toNat (v3-0+1)),.inl,eR,λ_ k w=>Sum.elim (oB .ret ⟨[zi 8,zi 9,zb 10],[]⟩ (λp=>(p,v2,true,())) (.exit 0) ⟨[zu 8,zu 9,zu 10],[]⟩ (λ_=>()) _ k) (λ_=>k (.exit 0) (Sh.enc ⟨[zu 8,zu 9,zu 10],[]⟩ ())) w⟩
theorem x5 {v0 v1 v2 v3:Int}{v4:Keys}{v5:Tupl}(h0:v3≤9223372036854775807)(h1:bT v4):(ib (v0,v1,v2,v3,v4,v5,())).D 0 (λ_ _=>True) (λ_=>True):=
 WF h0 (by decide) trivial
noncomputable def nD:FT (Keys×Tupl×Int×Int×Unit) (Int×Int×Bool) (λx=>bT x.1) (λ_ _=>True):= .mk (λ(x0,x1,x2,x3,_)=>
  .cal nj.c (x3,()) λc1=>
  .bnd (β:=Bool×Unit) (.as (λw=>(w.1=false→0≤x0.epoch∧x0.epoch≤4294967295)) (.cal rL.c (x0,()) λc2=>
   .ite (!c2) (.ret (true,()))<|
   .ret ((decide (c1.2.1<0)),()))) λ(u3a0,_)=>
  .ite u3a0 (.ret (0,0,false))<|
  .lp (ib (x2,x3,c1.2.1,x0.epoch,x0,x1,())).lp λw7=> .sum w7 (λq7=> .sum q7 (λp7a0=>
  .ret (p7a0,c1.2.1,true))<|
  λ_=>
  .ret (0,0,false))<|
  λ_=>
  .ret (0,0,false)) (ql @x5)
noncomputable def C4:=eC st Tryz.func121 [(0,lb [2,3,4,5,12,14] [8,9,10]),(3000002,rA 0 29),(3000008,rA 0 59)] [CY,xV,Jw,zX] 0 ib (ks:=[.st .keys,.st .tupl,.sc (.int .i64),.sc (.int .i64)]) nD (λv=>[(false,[.c (.int .i64 v.1)]),(false,[.c (.int .i64 v.2.1)]),(false,[.c (.bool v.2.2)])])
noncomputable def Jt:=[J7,zX,oZ]
def Bb:An:=⟨⟨[],[],false,0⟩,⟨[3,4,5,6,7],[],false,0⟩,⟨[],[]⟩,[(.normal,⟨[zp 3 0,zp 4 1,zp 5 2,zi 6,zi 7],[.box [.st .door [.sl .arg,.sl .arg,.sl .arg,.sl .arg,.sl .arg]],zx .tupl,zx .segm]⟩)]⟩
noncomputable def Kn:Fx:=⟨200,Tryz.f200,[(1000012,Bb)],0⟩
noncomputable def tV:FT (Door×Tupl×Segm×Unit) (Int) (λx=>ai x.1∧ah x.2.2.1) (λ_ _=>True):= .mk λ(x0,x1,x2,_)=>
  .bnd (β:=Int×Int×Door×Tupl×Segm×Unit) (.as (λw=>ai w.2.2.1∧ah w.2.2.2.2.1) (.ite (x2.opts.mss==0) (.ret (0,536,x0,x1,x2,()))<|
   .ret (0,x2.opts.mss,x0,x1,x2,()))) λ(_,u1a1,u1a2,u1a3,u1a4,_)=>
  .cal tK.c (u1a1,()) λc2=>
  .cal pH.c (u1a2.keys.now,u1a3,u1a4.seq,u1a2.keys.epoch,c2,()) λc3=>
  .val (fL.f (0,c3,())) λc4=>
  .ret c4
noncomputable def KO:=dI st Kn Jt [] (ks:=[.st .door,.st .tupl,.st .segm]) tV rI Tryz.func200 trivial
noncomputable def m5:FT (Door×Tupl×Segm×Unit) (Int) (λx=>ai x.1∧ah x.2.2.1) (λ_ _=>True):= .mk λ(x0,x1,x2,_)=>
  .val (xd.f (x2.opts,())) λc1=>
  .cal gV.c (c1,()) λc2=>
  .cal iZ.c (x0.keys.now,x1,x2.seq,x0.keys.epoch,c2,()) λc3=>
  .ret (if 0<c3 then c3 else 0)
noncomputable def Kb:=bh aq Tryz.func210 [Mu,Jb,y5] (ks:=[.st .door,.st .tupl,.st .segm]) m5 rI
noncomputable def ci:FT (List MacRow×MacRow×Unit) (Bool) (λx=>sL aE x.1∧aE x.2.1) (λ_ _=>True):= .mk λ(x0,y1_0,_)=>
  .cal ev.c (x0,y1_0,()) λc1=>
  .ret (decide (0≤c1))
noncomputable def le:=n7 st ⟨281,Tryz.f281,[],1⟩ [mC] [] [.sc (.sl .macRow),.fn 282 [0]] [.box [.st .macRow]] (λx y=>(x.1,y.1.1,())) ci rB (λx y v=>((y.1.1,()),())) Tryz.func281 (by kernel_rfl) trivial
noncomputable def Q9:=[Ad,gM,gK,lr,fQ,zP,Mq,OS,C4,yF]
noncomputable def Sg:Fx:=⟨42,Tryz.f42,[(3000001,rA 0 27)],0⟩
noncomputable def wa:FT (Door×Tupl×Segm×Unit) (Door×List Segm×Int) (λx=>ai x.1∧ah x.2.2.1) (λx v=>ai v.1∧sL ah v.2.1):= .mk λ(x0,x1,x2,_)=>
  .bnd (β:=Bool×Unit) (.cal qa.c (x0,x1,x2,()) λc1=>
   .ite (!c1) (.ret (true,()))<|
   .cal eA.c (x0.table,x1,()) λc2=>
   .ret ((decide (0≤c2)),())) λ(u3a0,_)=>
  .ite u3a0 (.cal cW.c (x0,()) λc4=>
   .ret (c4,[],0))<|
  .cal hZ.c (x0.halves,x1,()) λc5=>
  .ite (decide (0≤c5)) (.grd (aY x0.halves c5)<|
   .val (cd.f ((x0.halves.getD c5.toNat (Ty.zero .half)).iss,1,())) λc6=>
   .ite (x2.ack != c6) (.cal kw.c (x0,x2,()) λc7=>
    .ret (c7.1,c7.2.1,c7.2.2))<|
   .val (cd.f ((x0.halves.getD c5.toNat (Ty.zero .half)).irs,1,())) λc8=>
   .ite (x2.seq != c8) (.cal cW.c (x0,()) λc9=>
    .ret (c9,[],0))<|
   .cal ru.c (x1,(x0.halves.getD c5.toNat (Ty.zero .half)).iss,(x0.halves.getD c5.toNat (Ty.zero .half)).irs,(x0.halves.getD c5.toNat (Ty.zero .half)).opts,x2.window,()) λc10=>
   .cal uY.c (x0,c10,x2,1,()) λc11=>
   .ret (c11.1,c11.2.1,c11.2.2))<|
  .val (cd.f (x2.seq,(-1),())) λc12=>
  .val (cd.f (x2.ack,(-1),())) λc13=>
  .cal nD.c (x0.keys,x1,c12,c13,()) λc14=>
  .ite (!c14.2.2) (.cal kw.c (x0,x2,()) λc15=>
   .ret (c15.1,c15.2.1,c15.2.2))<|
  .cal jI.c (c14.2.1,x2.opts,()) λc16=>
  .cal ru.c (x1,c13,c12,c16,x2.window,()) λc17=>
  .cal uY.c (x0,c17,x2,2,()) λc18=>
  .ret (c18.1,c18.2.1,c18.2.2)
noncomputable def It:=dI st Sg Q9 [] (ks:=[.st .door,.st .tupl,.st .segm]) wa (λv=>[(true,jW (.o true) (.o true) (.o true) (.o true) (.o true) v.1),(false,[sc (.o true) .segm v.2.1]),(false,[.c (.int .i64 v.2.2)])]) Tryz.func42 trivial
noncomputable def z9:FT (Door×Tupl×Segm×Unit) (Segm) (λx=>ai x.1∧ah x.2.2.1) (λx v=>ah v):= .mk λ(x0,x1,x2,_)=>
  .cal tV.c (x0,x1,x2,()) λc1=>
  .val (cd.f (x2.seq,1,())) λc2=>
  .val (kv.f (x2.opts,x0.clock,())) λc3=>
  .ret (⟨x1.my,x1.port,c1,c2,18,32,c3,[]⟩:Segm)
noncomputable def Oq:=bh st Tryz.func102 [KO,fQ,zT] (ks:=[.st .door,.st .tupl,.st .segm]) z9 (λv=>[(true,pc v)])
noncomputable def ec:FT (Door×Tupl×Segm×Unit) (Segm) (λx=>ai x.1∧ah x.2.2.1) (λx v=>ah v):= .mk λ(x0,x1,x2,_)=>
  .cal m5.c (x0,x1,x2,()) λc1=>
  .val (bM.f (x2.seq,1,())) λc2=>
  .val (fy.f (x2.opts,x0.clock,())) λc3=>
  .ret (⟨x1.my,x1.port,c1,c2,18,32,c3,[]⟩:Segm)
noncomputable def Oa:=bh aq Tryz.func111 [Kb,fP,zD] (ks:=[.st .door,.st .tupl,.st .segm]) ec (λv=>[(true,pc v)])
def Ae:Sh:=⟨[zp 1 0,zl 27 .macRow,zi 28,zi 29],[zg .mac]⟩
noncomputable def oI (v0:List MacRow)(v3:Mac)(v2:Int)(a:Unit):Tr (Stp (Unit) ((Unit))):=
 .grd (aY v0 v2)<|
 .val (bo.f ((v0.getD v2.toNat (Ty.zero .macRow)).value,0,16777215,())) λc2=>
 .ite (!c2) (.ret (.out ()))<|
 .grd ((decide (0≤v2))&&(decide (v2≤(v3.rows.length:Int))))<|
 .cal ci.c (((v3.rows.take v2.toNat).drop 0),(v0.getD v2.toNat (Ty.zero .macRow)),()) λc3=>
 .ite c3 (.ret (.out ()))<|
 .ret (.next ())
noncomputable def oM:Ae.V→oi Ae Unit (Unit):=λ(v0,v1,v2,v3,_)=>⟨v2,(),λv2 _=>(v0,v1,v2,v3,()),λv2 _=>(decide (v2<v1)),oI v0 v3,up,1,(Int.toNat (v1-v2)),.inl,eR,oB .ret ⟨[zb 2],[]⟩ (λ_=>(false,())) (.exit 0) ⟨[zu 2],[]⟩ (λ_=>())⟩
theorem KK {v0:List MacRow}{v1 v2:Int}{v3:Mac}(h0:0≤v2)(h1:v1≤4611686018427387904)(h2:sL aE v0)(h3:aP v3)(h4:v1≤(v0.length:Int))(h5:v1≤(v3.rows.length:Int)):(oM (v0,v1,v2,v3,())).U v1 (λ_ _=>True) (λ_=>True):=
 mw h0 h1 trivial
noncomputable def qW:FT (Mac×Unit) (Bool) (λx=>aP x.1) (λx v=>(v=true→x.1.rows.length≤64)):= .mk (λ(x0,_)=>
  .ite (!x0.use) (.ret ((x0.rows.length:Int)==0))<|
  .bnd (β:=Bool×Unit) (.ite (x0.k != 0) (.ret (true,()))<|
   .ite (x0.l != 0) (.ret (true,()))<|
   .ret ((decide (64<(x0.rows.length:Int))),())) λ(u1a0,_)=>
  .ite u1a0 (.ret false)<|
  .lp (oM (x0.rows,(x0.rows.length:Int),0,x0,())).lp λw4=> .sum w4 (λ_=>
  .ret false)<|
  λ_=>
  .ret true) (ql @KK)
noncomputable def IW:=eC aq Tryz.func179 [(0,lb [1,27,28,29] [2]),(3000003,rA 0 25)] [bZ,le] 0 oM (ks:=[.st .mac]) qW rB
noncomputable def zj:FT (Door×Tupl×Segm×Unit) (Door×List Segm) (λx=>ai x.1∧ah x.2.2.1) (λx v=>ai v.1∧sL ah v.2):= .mk λ(x0,x1,x2,_)=>
  .cal cW.c (x0,()) λc1=>
  .cal qa.c (x0,x1,x2,()) λc2=>
  .ite (!c2) (.ret (c1,[]))<|
  .cal z9.c (x0,x1,x2,()) λc3=>
  .cal hZ.c (x0.halves,x1,()) λc4=>
  .ite (decide (0≤c4)) (.grd (aY x0.halves c4)<|
   .ite ((x0.halves.getD c4.toNat (Ty.zero .half)).irs != x2.seq) (.ret (c1,[]))<|
   .grd (aY x0.halves c4)<|
   .ret (c1,[({c3 with seq:=(x0.halves.getD c4.toNat (Ty.zero .half)).iss}:Segm)]))<|
  .cal eA.c (x0.table,x1,()) λc5=>
  .ite (decide (c5<0)) (.val (nm.f (x2.opts,())) λc6=>
   .cal wU.c (c1.halves,(⟨x1,c3.seq,x2.seq,c6,0,x2.window⟩:Half),x0.limits.halves,()) λc7=>
   .ret (({c1 with halves:=c7.1}:Door),[c3]))<|
  .ret (c1,[c3])
noncomputable def Io:=bh st Tryz.func35 [gK,Ad,Oq,lr,gM,Dc,Nx] (ks:=[.st .door,.st .tupl,.st .segm]) zj (λv=>[(true,jW (.o true) (.o true) (.o true) (.o true) (.o true) v.1),(false,[sc (.o true) .segm v.2])])
noncomputable def RS:=[ES,cM,rc,gK,LH,gM,zP,N5,wn,lr,fQ,Ar,Io,It]
def xw:An:=⟨⟨[],[],false,0⟩,⟨[3,6,7,8,9,12],[],false,0⟩,⟨[],[]⟩,[(.normal,⟨[zp 3 0,zp 6 1,(7,false,[.nil]),zi 8,zo 9 2,zp 12 3],[.box [.st .door [.sl .arg,.sl .arg,.sl .arg,.sl .arg,.sl .arg]],.box [.st .door [.nil .macRow,.nil .macRow,.nil .half,.nil .conn,.nil .tupl]],za .segm,.box [.st .door [.own 4,.own 5,.own 6,.own 7,.own 8]],zf,zf,zf,zf,zf]⟩)]⟩
noncomputable def RP:Fx:=⟨44,Tryz.f44,[(1000084,xw),(3000002,rA 0 29),(3000013,rA 0 84),(3000016,rA 0 92),(3000019,rA 0 114)],0⟩
noncomputable def tS:FT (Door×Int×Segm×Unit) (Door×List Segm×Int) (λx=>ai x.1∧ah x.2.2.1) (λx v=>ai v.1∧sL ah v.2.1):= .mk λ(x0,x1,x2,_)=>
  .bnd (β:=Bool×Unit) (.as (λw=>(w.1=false→x0.table.conns.length≤16∧x2.body.length≤1420)) (.cal vh.c (x0,()) λc1=>
   .ite (!c1) (.ret (true,()))<|
   .cal aN.c (x1,32,()) λc2=>
   .ite (!c2) (.ret (true,()))<|
   .cal k8.c (x2,()) λc3=>
   .ret ((!c3),()))) λ(u4a0,_)=>
  .ite u4a0 (.cal cW.c (x0,()) λc5=>
   .ret (c5,[],0))<|
  .val (wM.f (x1,x2,())) λc6=>
  .cal eA.c (x0.table,c6,()) λc7=>
  .ite (x2.to != x0.port) (.cal kw.c (x0,x2,()) λc8=>
   .ret (c8.1,c8.2.1,c8.2.2))<|
  .ite (decide (0≤c7)) (.cal wK.c (x0,c7,x2,()) λc9=>
   .ret (c9.1,c9.2.1,c9.2.2))<|
  .val (fZ.f (x2,4,())) λc10=>
  .ite c10 (.cal cW.c (x0,()) λc11=>
   .cal hZ.c (x0.halves,c6,()) λc12=>
   .bnd (β:=Bool×Unit) (.ite (decide (0≤c12)) (.grd (aY x0.halves c12)<|
     .val (cd.f ((x0.halves.getD c12.toNat (Ty.zero .half)).irs,1,())) λc13=>
     .ret ((x2.seq==c13),()))<|
    .ret (false,())) λ(u14a0,_)=>
   .bnd (β:=WT xw.es) (.as (λw=>ai w.2.1∧ai w.2.2.1∧sL ah w.2.2.2.1∧ai w.2.2.2.2.1) (.ite u14a0 (.cal pW.c (x0.halves,c6,()) λc15=>
     .ret (0,x0,(⟨0,0,⟨0,⟨false,0,0,[]⟩,⟨false,0,0,[]⟩,false⟩,⟨0,0,0,0⟩,[],⟨[],[]⟩,0⟩:Door),[],({c11 with halves:=c15}:Door),()))<|
    .ret (0,x0,(⟨0,0,⟨0,⟨false,0,0,[]⟩,⟨false,0,0,[]⟩,false⟩,⟨0,0,0,0⟩,[],⟨[],[]⟩,0⟩:Door),[],c11,()))) λ(_,_,_,u16a3,u16a4,_)=>
   .ret (u16a4,u16a3,0))<|
  .bnd (β:=Bool×Unit) (.val (fZ.f (x2,2,())) λc17=>
   .ite c17 (.val (fZ.f (x2,16,())) λc18=>
    .ite (!c18) (.val (fZ.f (x2,1,())) λc19=>
     .ret ((!c19),()))<|
    .ret (false,()))<|
   .ret (false,())) λ(u20a0,_)=>
  .ite u20a0 (.cal zj.c (x0,c6,x2,()) λc21=>
   .ret (c21.1,c21.2,0))<|
  .bnd (β:=Bool×Unit) (.val (fZ.f (x2,16,())) λc22=>
   .ite c22 (.val (fZ.f (x2,2,())) λc23=>
    .ret ((!c23),()))<|
   .ret (false,())) λ(u24a0,_)=>
  .ite u24a0 (.cal wa.c (x0,c6,x2,()) λc25=>
   .ret (c25.1,c25.2.1,c25.2.2))<|
  .val (fZ.f (x2,16,())) λc26=>
  .ite c26 (.cal kw.c (x0,x2,()) λc27=>
   .ret (c27.1,c27.2.1,c27.2.2))<|
  .cal cW.c (x0,()) λc28=>
  .ret (c28,[],0)
noncomputable def Ie:=dI st RP RS [] (ks:=[.st .door,.sc (.int .i64),.st .segm]) tS (λv=>[(true,jW (.o true) (.o true) (.o true) (.o true) (.o true) v.1),(false,[sc (.o true) .segm v.2.1]),(false,[.c (.int .i64 v.2.2)])]) Tryz.func44 trivial
def vt:Sh:=⟨[zl 2 .mac,zp 3 0,zp 4 1,zp 6 2,zp 7 3,zp 9 4,zo 10 5,zi 12],[.box [.st .door [.sl .arg,.sl .arg,.sl .arg,.sl .arg,.sl .arg]],zx .clie,.box [.st .door [.nil .macRow,.nil .macRow,.nil .half,.nil .conn,.nil .tupl]],.box [.st .conn [.nil .piec]],.box [.st .door [.own 6,.own 7,.own 8,.own 9,.own 10]],za .segm,zf,zf,zf,zf,zf]⟩
noncomputable def pm (v0:List Mac)(v1:Int)(a:Door×Conn×Door):Tr (Stp (Door×Conn×Door) (Empty)):=
 .grd (aY v0 v1)<|
 .cal qI.c (a.2.2,(v0.getD v1.toNat (Ty.zero .mac)),()) λc5=>
 .ret (.next (({a.1 with keys.now.rows:=[],keys.before.rows:=[],halves:=[],table.conns:=[],table.waiting:=[]}:Door),({a.2.1 with r.held:=[]}:Conn),c5))
noncomputable def ja:vt.V→yQ vt (Door×Conn×Door):=λ(v0,v1,v2,v3,v4,v5,v6,v7,_)=>⟨v1,(v4,v5,v6),λv1 a=>(v0,v1,v2,v3,a.1,a.2.1,a.2.2,v7,()),λv1 _=>(decide (v1<(v0.length:Int))),pm v0,up,1,(Int.toNat ((v0.length:Int)-v1)),Empty.elim,Prod.mk,oN (.exit 0) ⟨[zp 3 0,zp 4 1,zp 6 2,zp 7 3,zu 8,zp 9 4,zo 10 5],[.box [.st .door [.sl .arg,.sl .arg,.sl .arg,.sl .arg,.sl .arg]],zx .clie,.box [.st .door [.nil .macRow,.nil .macRow,.nil .half,.nil .conn,.nil .tupl]],.box [.st .conn [.nil .piec]],.box [.st .door [.own 6,.own 7,.own 8,.own 9,.own 10]],za .segm,zf,zf,zf,zf,zf]⟩ (λx=>(v2,v3,({x.2.1 with keys.now.rows:=[],keys.before.rows:=[],halves:=[],table.conns:=[],table.waiting:=[]}:Door),({x.2.2.1 with r.held:=[]}:Conn),x.2.2.2,v7,()))⟩
theorem Fe {v0:List Mac}{v1:Int}{v2 v4 v6:Door}{v3:Clie}{v5:Conn}{v7:List Segm}(h0:0≤v1)(h1:(v0.length:Int)≤4611686018427387904)(h2:sL aP v0)(h3:ai v4∧ac v5∧ai v6):(ja (v0,v1,v2,v3,v4,v5,v6,v7,())).U (v0.length:Int) (λv1 a=>ai a.1∧ac a.2.1∧ai a.2.2) (λ_=>True):=
 mw (a:=(v4,v5,v6)) h0 h1 h3
noncomputable def r7:FT (Door×Clie×List Mac×Unit) (Door×Conn×Int) (λx=>ai x.1∧sL aP x.2.2.1) (λx v=>ai v.1∧ac v.2.1):=⟨λ(x0,x1,x2,_)=>
  .cal tB.c (x1,()) λc1=>
  .ite (!c1) (.cal cW.c (x0,()) λc2=>
   .ret (c2,(⟨⟨0,0,0⟩,0,⟨0,[],0,false,false,false⟩,⟨0,[],[],0,false⟩,0,0,⟨0,0,false,false,0,0⟩,0,0⟩:Conn),0))<|
  .cal DR.c (x1,()) λc3=>
  .cal tS.c (x0,x1.tuple.ip,c3,()) λc4=>
  .lp (ja (x2,0,x0,x1,(⟨0,0,⟨0,⟨false,0,0,[]⟩,⟨false,0,0,[]⟩,false⟩,⟨0,0,0,0⟩,[],⟨[],[]⟩,0⟩:Door),(⟨⟨0,0,0⟩,0,⟨0,[],0,false,false,false⟩,⟨0,[],[],0,false⟩,0,0,⟨0,0,false,false,0,0⟩,0,0⟩:Conn),c4.1,c4.2.1,())).lp λ(_,_,_,a6_2)=>
  .ite ((c4.2.1.length:Int)==0) (.cal cW.c (x0,()) λc7=>
   .ret (c7,(⟨⟨0,0,0⟩,0,⟨0,[],0,false,false,false⟩,⟨0,[],[],0,false⟩,0,0,⟨0,0,false,false,0,0⟩,0,0⟩:Conn),0))<|
  .grd (decide (0<(c4.2.1.length:Int)))<|
  .cal wq.c (x1,(c4.2.1.getD 0 (Ty.zero .segm)),()) λc8=>
  .cal tS.c (a6_2,x1.tuple.ip,c8.1,()) λc9=>
  .cal eA.c (c9.1.table,x1.tuple,()) λc10=>
  .bnd (β:=Bool×Unit) (.ite (!c8.2) (.ret (true,()))<|
   .ite (c9.2.2==0) (.ret (true,()))<|
   .ret ((decide (c10<0)),())) λ(u11a0,_)=>
  .ite u11a0 (.cal cW.c (x0,()) λc12=>
   .ret (c12,(⟨⟨0,0,0⟩,0,⟨0,[],0,false,false,false⟩,⟨0,[],[],0,false⟩,0,0,⟨0,0,false,false,0,0⟩,0,0⟩:Conn),0))<|
  .grd (aY c9.1.table.conns c10)<|
  .cal fx.c ((c9.1.table.conns.getD c10.toNat (Ty.zero .conn)),()) λc13=>
  .ret (c9.1,c13,c9.2.2),
 λ(x0,x1,x2,_) hp=>by
  refine Tr.C trivial λ_ _ _=>Tr.I (λ_=>Tr.C ?_ λ_ _ _=>Tr.R ?_) λ_=>Tr.C trivial λ_ _ _=>Tr.C ?_ λ_ _ _=>Tr.L (Fe ?_ ?_ ?_ ?_) (λ(a6_0,a6_1,a6_2) _=>Tr.I (λ_=>Tr.C ?_ λ_ _ _=>Tr.R ?_) λ_=>Tr.G1 ?_ λ_=>Tr.C ?_ λ_ _ _=>Tr.C ?_ λ_ _ _=>Tr.C ?_ λ_ _ _=>Tr.B (Q':=λ_=>True) (Tr.F (by kernel_rfl) trivial) (λ(u11a0,_) _ _=>Tr.I (λ_=>Tr.C ?_ λ_ _ _=>Tr.R ?_) λ_=>Tr.G2 ?_ λ_=>Tr.C ?_ λ_ _ _=>Tr.R ?_)) (λp=>Empty.elim p)
  all_goals ((try simp only[ja,LC.lp,LC.ct,Ct.lp,Tr.nice,iq]at*)<;>grind)⟩
noncomputable def MP:=eC st Tryz.func53 [(0,lb [2,3,4,6,7,9,10,12] [3,4,6,7,8,9,10]),(3000013,rA 0 86)] [KJ,gK,QR,Ie,GX,M6,gM,gC] 0 ja (ks:=[.st .door,.st .clie,.sc (.sl .mac)]) r7 (λv=>[(true,jW (.o true) (.o true) (.o true) (.o true) (.o true) v.1),(true,kJ (.o true) v.2.1),(false,[.c (.int .i64 v.2.2)])])
noncomputable def P8:=[bZ,IW,Nh]
def Hi:An:=⟨⟨[],[],false,0⟩,⟨[1,2,3],[],false,0⟩,⟨[],[]⟩,[(.normal,⟨[zp 1 0,zb 2,zi 3],[.box [.st .keys [.sl .arg,.sl .arg]]]⟩)]⟩
noncomputable def OY:Fx:=⟨178,Tryz.f178,[(1000005,Hi)],0⟩
noncomputable def fG:FT (Keys×Unit) (Bool) (λx=>bT x.1) (λx v=>(v=true→0≤x.1.epoch∧x.1.epoch≤4294967295)):= .mk λ(x0,_)=>
  .bnd (β:=Bool×Int×Keys×Unit) (.as (λw=>bT w.2.2.1∧0≤w.2.1∧w.2.2.1=x0) (.ite x0.two (.ret (false,1,x0,()))<|
   .ret (false,0,x0,()))) λ(_,u1a1,u1a2,_)=>
  .val (bo.f (u1a2.epoch,u1a1,4294967295,())) λc2=>
  .ite c2 (.cal qW.c (u1a2.now,()) λc3=>
   .ite c3 (.cal qW.c (u1a2.before,()) λc4=>
    .ite c4 (.ite u1a2.two (.ret true)<|
     .cal wy.c (u1a2.before,(⟨false,0,0,[]⟩:Mac),()) λc5=>
     .ret c5)<|
    .ret false)<|
   .ret false)<|
  .ret false
noncomputable def yu:=dI aq OY P8 [] (ks:=[.st .keys]) fG rB Tryz.func178 trivial
noncomputable def M4:=[xS,yu,IW,tR]
noncomputable def Lu:Fx:=⟨74,Tryz.f74,[(3000002,rA 0 20)],0⟩
noncomputable def mQ:FT (Keys×Mac×Unit) (Keys) (λx=>bT x.1∧aP x.2.1) (λx v=>bT v):= .mk λ(x0,x1,_)=>
  .cal nJ.c (x0,()) λc1=>
  .bnd (β:=Bool×Unit) (.as (λw=>(w.1=false→0≤x0.epoch∧x0.epoch≤4294967295∧x1.rows.length≤64)) (.cal fG.c (x0,()) λc2=>
   .ite (!c2) (.ret (true,()))<|
   .cal qW.c (x1,()) λc3=>
   .ite (!c3) (.ret (true,()))<|
   .ret ((x0.epoch==4294967295),()))) λ(u4a0,_)=>
  .ite u4a0 (.ret c1)<|
  .cal jq.c (x1,()) λc5=>
  .ret (⟨(IntKind.wrap .i64 (x0.epoch+1)),c5,c1.now,true⟩:Keys)
noncomputable def Ma:=dI aq Lu M4 [] (ks:=[.st .keys,.st .mac]) mQ (λv=>[(true,Gv (.o true) (.o true) v)]) Tryz.func74 trivial
def pU:Sh:=⟨[zi 2,zi 3,zp 4 0,zp 5 1,zi 12,zi 14],[.box [.st .keys [.sl .arg,.sl .arg]],zx .tupl]⟩
noncomputable def pr (v0 v1 v2:Int)(v4:Keys)(v5:Tupl)(v3:Int)(a:Unit):Tr (Stp (Unit) ((Int))):=
 .cal mO.c (v4,v3,()) λc5=>
 .bnd (β:=Bool×Unit) (.ite c5.2 (.cal iZ.c (c5.1,v5,v0,v3,v2,()) λc6=>
   .ret ((c6==v1),()))<|
  .ret (false,())) λ(u7a0,_)=>
 .ite u7a0 (.ret (.out v3))<|
 .ret (.next ())
noncomputable def hY:pU.V→oi pU Unit (Int):=λ(v0,v1,v2,v3,v4,v5,_)=>⟨v3,(),λv3 _=>(v0,v1,v2,v3,v4,v5,()),λv3 _=>(decide ((if 0<(IntKind.wrap .i64 (v4.epoch-1))then(IntKind.wrap .i64 (v4.epoch-1))else 0)≤v3)),pr v0 v1 v2 v4 v5,dn,(-1),(Int.toNat (v3-(if 0<(IntKind.wrap .i64 (v4.epoch-1))then(IntKind.wrap .i64 (v4.epoch-1))else 0)+1)),.inl,eR,oB .ret ⟨[zi 8,zi 9,zb 10],[]⟩ (λp=>(p,v2,true,())) (.exit 0) ⟨[zu 8,zu 9,zu 10],[]⟩ (λ_=>())⟩
theorem yi {v0 v1 v2 v3:Int}{v4:Keys}{v5:Tupl}(h0:v3≤9223372036854775807)(h1:0≤(if 0<(IntKind.wrap .i64 (v4.epoch-1))then(IntKind.wrap .i64 (v4.epoch-1))else 0))(h2:bT v4):(hY (v0,v1,v2,v3,v4,v5,())).D (if 0<(IntKind.wrap .i64 (v4.epoch-1))then(IntKind.wrap .i64 (v4.epoch-1))else 0) (λ_ _=>True) (λ_=>True):=
 WF h0 h1 trivial
noncomputable def cH:FT (Keys×Tupl×Int×Int×Unit) (Int×Int×Bool) (λx=>bT x.1) (λ_ _=>True):= .mk (λ(x0,x1,x2,x3,_)=>
  .bnd (β:=Bool×Unit) (.as (λw=>(w.1=false→0≤x0.epoch∧x0.epoch≤4294967295)) (.cal fG.c (x0,()) λc1=>
   .ite (!c1) (.ret (true,()))<|
   .cal aj.c (x3,32,()) λc2=>
   .ret ((!c2),()))) λ(u3a0,_)=>
  .ite u3a0 (.ret (0,0,false))<|
  .cal fU.c (x3,()) λc4=>
  .lp (hY (x2,x3,c4.2.1,x0.epoch,x0,x1,())).lp λw8=> .sum w8 (λp8a0=>
  .ret (p8a0,c4.2.1,true))<|
  λ_=>
  .ret (0,0,false)) (ql @yi)
noncomputable def CH:=eC aq Tryz.func125 [(0,lb [2,3,4,5,12,14] [8,9,10]),(3000001,rA 0 24),(3000008,rA 0 57)] [yu,cL,C5,Ky,y5] 0 hY (ks:=[.st .keys,.st .tupl,.sc (.int .i64),.sc (.int .i64)]) cH (λv=>[(false,[.c (.int .i64 v.1)]),(false,[.c (.int .i64 v.2.1)]),(false,[.c (.bool v.2.2)])])
noncomputable def k7:FT (Door×Mac×Unit) (Door) (λx=>ai x.1∧aP x.2.1) (λx v=>ai v):= .mk λ(x0,x1,_)=>
  .cal d7.c (x0,()) λc1=>
  .cal mQ.c (x0.keys,x1,()) λc2=>
  .ret (⟨c1.port,c1.clock,c2,c1.limits,c1.halves,c1.table,c1.chal⟩:Door)
noncomputable def Ht:=bh aq Tryz.func15 [j7,Ma] (ks:=[.st .door,.st .mac]) k7 (λv=>[(true,jW (.o true) (.o true) (.o true) .d (.o true) v)])
noncomputable def yf:FT (Half×Door×Unit) (Bool) (λx=>ai x.2.1) (λ_ _=>True):= .mk λ(x0,y1,_)=>
  .cal aw.c (y1.table,x0.tuple,()) λc1=>
  .ret (decide (0≤c1))
noncomputable def Jf:=n7 aq ⟨208,Tryz.f208,[],1⟩ [gY] [] [.st .half,.wr false [.ptr 0]] [.box [.st .door]] (λx y=>(x.1,y.1.1,())) yf rB (λx y v=>((y.1.1,()),())) Tryz.func208 (by kernel_rfl) trivial
noncomputable def gE:=[Jf]
def cc:Sh:=⟨[zl 0 .half,(1,false,[.fn 208 [0]]),zi 7,zi 8],[.box [.st .door [.sl .any,.sl .any,.sl .any,.sl .any,.sl .any]]]⟩
noncomputable def gD:Fx:=⟨212,Tryz.f212,[(0,la ⟨[0,1,7,8],[.softo 0 6,.softo 0 10,.softo 0 16,.softo 0 17,.softo 0 18],false,1⟩ ⟨[4],[],false,1⟩)],1⟩
noncomputable def fC (v0:List Half)(v3:Door)(v2:Int)(a:Unit):Tr (Stp (Unit) ((Int))):=
 .grd (aY v0 v2)<|
 .cal yf.c ((v0.getD v2.toNat (Ty.zero .half)),v3,()) λc2=>
 .ite c2 (.ret (.out v2))<|
 .ret (.next ())
noncomputable def bc:cc.V→oi cc Unit (Int):=λ(v0,v1,v2,v3,_)=>⟨v2,(),λv2 _=>(v0,v1,v2,v3,()),λv2 _=>(decide (v2<v1)),fC v0 v3,up,1,(Int.toNat (v1-v2)),.inl,eR,oB .ret ⟨[zi 4],[.box [.st .door [.sl .any,.sl .any,.sl .any,.sl .any,.sl .any]]]⟩ (λp=>(p,v3,())) (.exit 0) ⟨[zu 4],[.box [.st .door [.sl .any,.sl .any,.sl .any,.sl .any,.sl .any]]]⟩ (λ_=>(v3,()))⟩
theorem lz:LS Tryz.prog gD [0] (kf 0 cc bc):=fe st (aR gE) _ bc [] trivial
theorem lO {v0:List Half}{v1 v2:Int}{v3:Door}(h0:0≤v2)(h1:v1≤4611686018427387904)(h2:sS v0)(h3:ai v3)(h4:v1≤(v0.length:Int)):(bc (v0,v1,v2,v3,())).U v1 (λ_ _=>True) (λp=>v2≤p∧p<v1):=
 mw h0 h1 trivial
noncomputable def eH:FT (List Half×Door×Unit) (Int) (λx=>sS x.1∧ai x.2.1) (λx v=> -1≤v∧v<x.1.length):= .mk (λ(x0,y1_0,_)=>
  .lp (bc (x0,(x0.length:Int),0,y1_0,())).lp λw3=> .sum w3 (λp3a0=>
  .ret p3a0)<|
  λ_=>
  .ret (-1)) (ql @lO)
noncomputable def nV:=n7 st gD gE [(kf 0 cc bc)] [.sc (.sl .half),.fn 208 [0]] [.box [.st .door]] (λx y=>(x.1,y.1.1,())) eH rI (λx y v=>((y.1.1,()),())) Tryz.func212 (by kernel_rfl) ⟨lz,trivial⟩
noncomputable def cu:FT (List Half×Door×Unit) (Bool) (λx=>sS x.1∧ai x.2.1) (λ_ _=>True):= .mk λ(x0,y1_0,_)=>
  .cal eH.c (x0,y1_0,()) λc1=>
  .ret (decide (0≤c1))
noncomputable def lJ:=n7 st ⟨207,Tryz.f207,[],1⟩ [nV] [] [.sc (.sl .half),.fn 208 [0]] [.box [.st .door]] (λx y=>(x.1,y.1.1,())) cu rB (λx y v=>((y.1.1,()),())) Tryz.func207 (by kernel_rfl) trivial
noncomputable def O8:=[cL,yu,CA,zL,bZ,lJ]
noncomputable def OG:Fx:=⟨108,Tryz.f108,[(3000001,rA 0 50)],0⟩
noncomputable def bL:FT (Door×Unit) (Bool) (λx=>ai x.1) (λx v=>(v=true→x.1.table.conns.length≤16)):= .mk λ(x0,_)=>
  .bnd (β:=Bool×Unit) (.as (λw=>(w.1=false→0≤x0.keys.epoch∧x0.keys.epoch≤4294967295∧x0.table.conns.length≤16∧x0.table.waiting.length≤16∧x0.halves.length≤64)) (.cal aj.c (x0.port,16,()) λc1=>
   .ite (!c1) (.ret (true,()))<|
   .cal aj.c (x0.clock,32,()) λc2=>
   .ite (!c2) (.ret (true,()))<|
   .cal fG.c (x0.keys,()) λc3=>
   .ite (!c3) (.ret (true,()))<|
   .cal cX.c (x0.table,x0.limits,()) λc4=>
   .ite (!c4) (.ret (true,()))<|
   .cal ez.c (x0.halves,()) λc5=>
   .ite (!c5) (.ret (true,()))<|
   .ite (decide (x0.limits.halves<(x0.halves.length:Int))) (.ret (true,()))<|
   .val (bo.f (x0.chal,0,x0.limits.chal,())) λc6=>
   .ret ((!c6),()))) λ(u7a0,_)=>
  .ite u7a0 (.ret false)<|
  .cal cu.c (x0.halves,x0,()) λc8=>
  .ret (!c8)
noncomputable def yG:=dI aq OG O8 [] (ks:=[.st .door]) bL rB Tryz.func108 trivial
noncomputable def QU:=[j7,yG,kU,nz,Oa,lG,gY,Dr,L5]
noncomputable def R9:Fx:=⟨38,Tryz.f38,[(3000002,rA 0 25)],0⟩
noncomputable def dR:FT (Door×Tupl×Segm×Unit) (Door×List Segm) (λx=>ai x.1∧ah x.2.2.1) (λx v=>ai v.1∧sL ah v.2∧v.1.table.conns.length=x.1.table.conns.length):= .mk λ(x0,x1,x2,_)=>
  .cal d7.c (x0,()) λc1=>
  .bnd (β:=Bool×Unit) (.as (λw=>(w.1=false→x0.table.conns.length≤16∧x2.body.length≤1420)) (.cal bL.c (x0,()) λc2=>
   .ite (!c2) (.ret (true,()))<|
   .cal az.c (x1,()) λc3=>
   .ite (!c3) (.ret (true,()))<|
   .cal ae.c (x2,()) λc4=>
   .ret ((!c4),()))) λ(u5a0,_)=>
  .ite u5a0 (.ret (c1,[]))<|
  .cal ec.c (x0,x1,x2,()) λc6=>
  .cal aJ.c (x0.halves,x1,()) λc7=>
  .ite (decide (0≤c7)) (.grd (aY x0.halves c7)<|
   .ite ((x0.halves.getD c7.toNat (Ty.zero .half)).irs != x2.seq) (.ret (c1,[]))<|
   .grd (aY x0.halves c7)<|
   .ret (c1,[({c6 with seq:=(x0.halves.getD c7.toNat (Ty.zero .half)).iss}:Segm)]))<|
  .cal aw.c (x0.table,x1,()) λc8=>
  .ite (decide (c8<0)) (.val (iC.f (x2.opts,())) λc9=>
   .cal m6.c (x0.halves,(⟨x1,c6.seq,x2.seq,c9,0,x2.window⟩:Half),x0.limits.halves,()) λc10=>
   .ret (({c1 with halves:=c10.1}:Door),[c6]))<|
  .ret (c1,[c6])
noncomputable def Ij:=dI aq R9 QU [] (ks:=[.st .door,.st .tupl,.st .segm]) dR (λv=>[(true,jW (.o true) (.o true) (.o true) .d (.o true) v.1),(false,[sc (.o true) .segm v.2])]) Tryz.func38 trivial
noncomputable def Ss:=[j7,yG,kU,nz,gY,lG,fP,E3,Lc,CH,yy,K5,Cj,Cp,Av]
@[reducible] def xQ:An:=⟨⟨[],[],false,0⟩,⟨[3,4,5,6,7,8,9,10,11],[],false,0⟩,⟨[],[]⟩,[(.ret,⟨[zp 3 0,zp 4 1,zp 5 2,zp 6 3,zo 7 4,zi 8,zp 9 5,zp 10 6,zi 11],[.box [.st .door [.sl .arg,.sl .arg,.sl .arg,.sl .arg,.sl .arg]],zx .tupl,zx .segm,.box [.st .door [.own 7,.own 8,.own 9,.down 10,.own 11]],za .segm,.box [.st .door [.own 7,.own 8,.own 9,.down 10,.own 11]],.box [.st .conn [.nil .piec]],zf,zf,zf,.ofd,zf]⟩),(.ret,⟨[zp 3 0,zp 4 1,zp 5 2,zp 6 3,(7,false,[.nil]),zi 8,zp 9 4,zp 10 5,zi 11],[.box [.st .door [.sl .arg,.sl .arg,.sl .arg,.sl .arg,.sl .arg]],zx .tupl,zx .segm,.box [.st .door [.own 6,.own 7,.own 8,.down 9,.own 10]],.box [.st .door [.own 6,.own 7,.own 8,.down 9,.own 10]],.box [.st .conn [.nil .piec]],zf,zf,zf,.ofd,zf]⟩),(.normal,⟨[zp 3 0,zp 4 1,zp 5 2,zp 6 3,(7,false,[.nil]),zi 8,zp 9 4,zp 10 5,zi 11],[.box [.st .door [.sl .arg,.sl .arg,.sl .arg,.sl .arg,.sl .arg]],zx .tupl,zx .segm,.box [.st .door [.nil .macRow,.nil .macRow,.nil .half,.nil .conn,.nil .tupl]],.box [.st .door [.own 6,.own 7,.own 8,.down 9,.own 10]],zk .conn 11,zf,zf,zf,.ofd,zf,zf]⟩)]⟩
noncomputable def Re:Fx:=⟨43,Tryz.f43,[(1000051,xQ),(3000002,rA 0 44)],0⟩
noncomputable def jR:FT (Door×Tupl×Segm×Unit) (Door×List Segm×Int) (λx=>ai x.1∧ah x.2.2.1) (λx v=>ai v.1∧sL ah v.2.1∧x.1.table.conns.length≤v.1.table.conns.length):= .mk λ(x0,x1,x2,_)=>
  .cal d7.c (x0,()) λc1=>
  .bnd (β:=Bool×Unit) (.as (λw=>(w.1=false→x0.table.conns.length≤16∧x2.body.length≤1420)) (.cal bL.c (x0,()) λc2=>
   .ite (!c2) (.ret (true,()))<|
   .cal az.c (x1,()) λc3=>
   .ite (!c3) (.ret (true,()))<|
   .cal ae.c (x2,()) λc4=>
   .ite (!c4) (.ret (true,()))<|
   .cal aw.c (x0.table,x1,()) λc5=>
   .ret ((decide (0≤c5)),()))) λ(u6a0,_)=>
  .ite u6a0 (.ret (c1,[],0))<|
  .cal aJ.c (x0.halves,x1,()) λc7=>
  .bnd (β:=WT xQ.es) (.as (Sum.elim (λw=>ai w.2.2.1∧ah w.2.2.2.2.1∧ai w.2.2.2.2.2.1∧sL ah w.2.2.2.2.2.2.1∧ai w.2.2.2.2.2.2.2.1∧ac w.2.2.2.2.2.2.2.2.1∧x0.table.conns.length≤w.2.2.2.2.2.1.table.conns.length) (Sum.elim (λw=>ai w.2.2.1∧ah w.2.2.2.2.1∧ai w.2.2.2.2.2.1∧ai w.2.2.2.2.2.2.1∧ac w.2.2.2.2.2.2.2.1∧x0.table.conns.length≤w.2.2.2.2.2.1.table.conns.length) (λw=>ai w.2.2.1∧ah w.2.2.2.2.1∧ai w.2.2.2.2.2.1∧ai w.2.2.2.2.2.2.1∧ac w.2.2.2.2.2.2.2.1∧w.2.2.1=x0∧x0.table.conns.length≤w.2.2.2.2.2.2.1.table.conns.length))) (.ite (decide (0≤c7)) (.grd (aY x0.halves c7)<|
    .val (bM.f ((x0.halves.getD c7.toNat (Ty.zero .half)).iss,1,())) λc8=>
    .ite (x2.ack != c8) (.cal fB.c (x2,()) λc9=>
     .ret (.inl (0,1,x0,x1,x2,c1,c9,c1,(⟨⟨0,0,0⟩,0,⟨0,[],0,false,false,false⟩,⟨0,[],[],0,false⟩,0,0,⟨0,0,false,false,0,0⟩,0,0⟩:Conn),())))<|
    .val (bM.f ((x0.halves.getD c7.toNat (Ty.zero .half)).irs,1,())) λc10=>
    .ite (x2.seq != c10) (.ret (.inr (.inl (0,1,x0,x1,x2,c1,c1,(⟨⟨0,0,0⟩,0,⟨0,[],0,false,false,false⟩,⟨0,[],[],0,false⟩,0,0,⟨0,0,false,false,0,0⟩,0,0⟩:Conn),()))))<|
    .cal sj.c (x1,(x0.halves.getD c7.toNat (Ty.zero .half)).iss,(x0.halves.getD c7.toNat (Ty.zero .half)).irs,(x0.halves.getD c7.toNat (Ty.zero .half)).opts,x2.window,()) λc11=>
    .ret (.inr (.inr ((0,1,x0,x1,x2,(⟨0,0,⟨0,⟨false,0,0,[]⟩,⟨false,0,0,[]⟩,false⟩,⟨0,0,0,0⟩,[],⟨[],[]⟩,0⟩:Door),c1,c11,())))))<|
   .val (bM.f (x2.seq,(-1),())) λc12=>
   .val (bM.f (x2.ack,(-1),())) λc13=>
   .cal cH.c (x0.keys,x1,c12,c13,()) λc14=>
   .ite (!c14.2.2) (.cal fB.c (x2,()) λc15=>
    .ret (.inl (0,1,x0,x1,x2,c1,c15,c1,(⟨⟨0,0,0⟩,0,⟨0,[],0,false,false,false⟩,⟨0,[],[],0,false⟩,0,0,⟨0,0,false,false,0,0⟩,0,0⟩:Conn),())))<|
   .cal cr.c (c14.2.1,x2.opts,()) λc16=>
   .cal sj.c (x1,c13,c12,c16,x2.window,()) λc17=>
   .ret (.inr (.inr ((0,2,x0,x1,x2,(⟨0,0,⟨0,⟨false,0,0,[]⟩,⟨false,0,0,[]⟩,false⟩,⟨0,0,0,0⟩,[],⟨[],[]⟩,0⟩:Door),c1,c17,())))))) λw18=> .sum w18 (λ(u18a0,_,_,_,_,u18a5,u18a6,_,_,_)=>
  .ret (u18a5,u18a6,u18a0))<|
  λw18=> .sum w18 (λ(u18b0,_,_,_,_,u18b5,_,_,_)=>
  .ret (u18b5,[],u18b0))<|
  λ(_,u18c1,u18c2,u18c3,u18c4,_,u18c6,u18c7,_)=>
  .cal kY.c (u18c2.table,u18c7,u18c2.limits,()) λc19=>
  .ite (!c19.2) (.ret (u18c6,[],0))<|
  .cal mD.c (u18c7,u18c4,()) λc20=>
  .cal er.c (c19.1,c20.1,()) λc21=>
  .cal mZ.c (u18c2.halves,u18c3,()) λc22=>
  .ret (({u18c6 with halves:=c22,table.conns:=c21.conns,table.waiting:=c21.waiting}:Door),c20.2.1,u18c1)
noncomputable def HU:=dI aq Re Ss [] (ks:=[.st .door,.st .tupl,.st .segm]) jR (λv=>[(true,jW (.o true) (.o true) (.o true) .d (.o true) v.1),(false,[sc (.o true) .segm v.2.1]),(false,[.c (.int .i64 v.2.2)])]) Tryz.func43 trivial
noncomputable def RG:=[j7,yG,cL,nz,Np,E3,gY,Cj,Cp,wJ,lG,fP,Av,Ij,HU]
@[reducible] def xJ:An:=⟨⟨[],[],false,0⟩,⟨[3,6,7,8,9,12,13],[],false,0⟩,⟨[],[]⟩,[(.normal,⟨[zp 3 0,zp 6 1,(7,false,[.nil]),zi 8,zp 9 2,zp 12 3,(13,false,[.nil])],[.box [.st .door [.sl .arg,.sl .arg,.sl .arg,.sl .arg,.sl .arg]],.box [.st .door [.nil .macRow,.nil .macRow,.nil .half,.nil .conn,.nil .tupl]],.box [.st .door [.own 4,.own 5,.own 6,.down 7,.own 8]],zk .conn 9,zf,zf,zf,.ofd,zf,zf]⟩),(.normal,⟨[zp 3 0,zp 6 1,(7,false,[.nil]),zi 8,zp 9 2,zp 12 3,zo 13 4],[.box [.st .door [.sl .arg,.sl .arg,.sl .arg,.sl .arg,.sl .arg]],.box [.st .door [.nil .macRow,.nil .macRow,.nil .half,.nil .conn,.nil .tupl]],.box [.st .door [.own 5,.own 6,.own 7,.down 8,.own 9]],zk .conn 10,za .segm,zf,zf,zf,.ofd,zf,zf]⟩)]⟩
noncomputable def QW:Fx:=⟨45,Tryz.f45,[(1000064,xJ),(3000002,rA 0 32),(3000018,rA 0 102),(3000021,rA 0 109),(3000024,rA 0 131)],0⟩
noncomputable def gR:FT (Door×Int×Segm×Unit) (Door×List Segm×Int) (λx=>ai x.1∧ah x.2.2.1) (λx v=>ai v.1∧sL ah v.2.1∧x.1.table.conns.length≤v.1.table.conns.length):= .mk λ(x0,x1,x2,_)=>
  .cal d7.c (x0,()) λc1=>
  .bnd (β:=Bool×Unit) (.as (λw=>(w.1=false→x0.table.conns.length≤16∧x2.body.length≤1420)) (.cal bL.c (x0,()) λc2=>
   .ite (!c2) (.ret (true,()))<|
   .cal aj.c (x1,32,()) λc3=>
   .ite (!c3) (.ret (true,()))<|
   .cal ae.c (x2,()) λc4=>
   .ret ((!c4),()))) λ(u5a0,_)=>
  .ite u5a0 (.ret (c1,[],0))<|
  .val (wF.f (x1,x2,())) λc6=>
  .ite (x2.to != x0.port) (.cal fB.c (x2,()) λc7=>
   .ret (c1,c7,0))<|
  .cal aw.c (x0.table,c6,()) λc8=>
  .ite (decide (0≤c8)) (.grd (aY x0.table.conns c8)<|
   .cal mD.c ((x0.table.conns.getD c8.toNat (Ty.zero .conn)),x2,()) λc9=>
   .bnd (β:=WT xJ.es) (.as (Sum.elim (λw=>ai w.2.1∧ai w.2.2.1∧ai w.2.2.2.1∧ac w.2.2.2.2.1∧w.2.1=x0) (λw=>ai w.2.1∧ai w.2.2.1∧ai w.2.2.2.1∧ac w.2.2.2.2.1∧sL ah w.2.2.2.2.2.1∧w.2.1=x0)) (.ite (c9.2.2==3) (.ite (x0.chal==x0.limits.chal) (.ret (.inl (0,x0,(⟨0,0,⟨0,⟨false,0,0,[]⟩,⟨false,0,0,[]⟩,false⟩,⟨0,0,0,0⟩,[],⟨[],[]⟩,0⟩:Door),c1,c9.1,())))<|
     .ret (.inr ((0,x0,(⟨0,0,⟨0,⟨false,0,0,[]⟩,⟨false,0,0,[]⟩,false⟩,⟨0,0,0,0⟩,[],⟨[],[]⟩,0⟩:Door),({c1 with chal:=(IntKind.wrap .i64 (c1.chal+1))}:Door),c9.1,c9.2.1,()))))<|
    .ret (.inr ((0,x0,(⟨0,0,⟨0,⟨false,0,0,[]⟩,⟨false,0,0,[]⟩,false⟩,⟨0,0,0,0⟩,[],⟨[],[]⟩,0⟩:Door),c1,c9.1,c9.2.1,()))))) λw10=> .sum w10 (λ(_,u10a1,_,u10a3,u10a4,_)=>
   .cal er.c (u10a1.table,u10a4,()) λc11=>
   .ret (({u10a3 with table.conns:=c11.conns,table.waiting:=c11.waiting}:Door),[],0))<|
   λ(_,u10b1,_,u10b3,u10b4,u10b5,_)=>
   .cal er.c (u10b1.table,u10b4,()) λc12=>
   .ret (({u10b3 with table.conns:=c12.conns,table.waiting:=c12.waiting}:Door),u10b5,0))<|
  .val (bk.f (x2,4,())) λc13=>
  .ite c13 (.cal aJ.c (x0.halves,c6,()) λc14=>
   .bnd (β:=Bool×Unit) (.ite (decide (0≤c14)) (.grd (aY x0.halves c14)<|
     .val (bM.f ((x0.halves.getD c14.toNat (Ty.zero .half)).irs,1,())) λc15=>
     .ret ((x2.seq==c15),()))<|
    .ret (false,())) λ(u16a0,_)=>
   .ite u16a0 (.cal mZ.c (x0.halves,c6,()) λc17=>
    .ret (({c1 with halves:=c17}:Door),[],0))<|
   .ret (c1,[],0))<|
  .bnd (β:=Bool×Unit) (.val (bk.f (x2,2,())) λc18=>
   .ite c18 (.val (bk.f (x2,16,())) λc19=>
    .ite (!c19) (.val (bk.f (x2,1,())) λc20=>
     .ret ((!c20),()))<|
    .ret (false,()))<|
   .ret (false,())) λ(u21a0,_)=>
  .ite u21a0 (.cal dR.c (x0,c6,x2,()) λc22=>
   .ret (c22.1,c22.2,0))<|
  .bnd (β:=Bool×Unit) (.val (bk.f (x2,16,())) λc23=>
   .ite c23 (.val (bk.f (x2,2,())) λc24=>
    .ret ((!c24),()))<|
   .ret (false,())) λ(u25a0,_)=>
  .ite u25a0 (.cal jR.c (x0,c6,x2,()) λc26=>
   .ret (c26.1,c26.2.1,c26.2.2))<|
  .val (bk.f (x2,16,())) λc27=>
  .ite c27 (.cal fB.c (x2,()) λc28=>
   .ret (c1,c28,0))<|
  .ret (c1,[],0)
noncomputable def Iu:=dI aq QW RG [] (ks:=[.st .door,.sc (.int .i64),.st .segm]) gR (λv=>[(true,jW (.o true) (.o true) (.o true) .d (.o true) v.1),(false,[sc (.o true) .segm v.2.1]),(false,[.c (.int .i64 v.2.2)])]) Tryz.func45 trivial
def vB:Sh:=⟨[zp 3 0,zp 4 1,zp 6 2,zp 7 3,zp 9 4,zo 10 5,zl 42 .mac,zi 43,zi 44],[.box [.st .door [.sl .arg,.sl .arg,.sl .arg,.sl .arg,.sl .arg]],zx .clie,.box [.st .door [.nil .macRow,.nil .macRow,.nil .half,.nil .conn,.nil .tupl]],.box [.st .conn [.nil .piec]],.box [.st .door [.own 6,.own 7,.own 8,.down 9,.own 10]],za .segm,zf,zf,zf,.ofd,zf]⟩
noncomputable def pL (v0:List Mac)(v2:Int)(a:Door×Conn×Door):Tr (Stp (Door×Conn×Door) (Empty)):=
 .grd (aY v0 v2)<|
 .cal k7.c (a.2.2,(v0.getD v2.toNat (Ty.zero .mac)),()) λc6=>
 .ret (.next (({a.1 with keys.now.rows:=[],keys.before.rows:=[],halves:=[],table.conns:=[],table.waiting:=[]}:Door),({a.2.1 with r.held:=[]}:Conn),c6))
noncomputable def iW:vB.V→yQ vB (Door×Conn×Door):=λ(v0,v1,v2,v3,v4,v5,v6,v7,v8,_)=>⟨v2,(v5,v6,v7),λv2 a=>(v0,v1,v2,v3,v4,a.1,a.2.1,a.2.2,v8,()),λv2 _=>(decide (v2<v1)),pL v0,up,1,(Int.toNat (v1-v2)),Empty.elim,Prod.mk,oN (.exit 0) ⟨[zp 3 0,zp 4 1,zp 6 2,zp 7 3,zu 8,zp 9 4,zo 10 5],[.box [.st .door [.sl .arg,.sl .arg,.sl .arg,.sl .arg,.sl .arg]],zx .clie,.box [.st .door [.nil .macRow,.nil .macRow,.nil .half,.nil .conn,.nil .tupl]],.box [.st .conn [.nil .piec]],.box [.st .door [.own 6,.own 7,.own 8,.down 9,.own 10]],za .segm,zf,zf,zf,.ofd,zf]⟩ (λx=>(v3,v4,({x.2.1 with keys.now.rows:=[],keys.before.rows:=[],halves:=[],table.conns:=[],table.waiting:=[]}:Door),({x.2.2.1 with r.held:=[]}:Conn),x.2.2.2,v8,()))⟩
theorem Fo {v0:List Mac}{v1 v2:Int}{v3 v5 v7:Door}{v4:Clie}{v6:Conn}{v8:List Segm}(h0:0≤v2)(h1:v1≤4611686018427387904)(h2:sL aP v0)(h3:v1≤(v0.length:Int))(h4:ai v5∧ac v6∧ai v7):(iW (v0,v1,v2,v3,v4,v5,v6,v7,v8,())).U v1 (λv2 a=>ai a.1∧ac a.2.1∧ai a.2.2) (λ_=>True):=
 mw (a:=(v5,v6,v7)) h0 h1 h4
noncomputable def dL:FT (Door×Clie×List Mac×Unit) (Door×Conn×Int) (λx=>ai x.1∧sL aP x.2.2.1) (λx v=>ai v.1∧ac v.2.1):=⟨λ(x0,x1,x2,_)=>
  .cal kC.c (x1,()) λc1=>
  .ite (!c1) (.cal d7.c (x0,()) λc2=>
   .ret (c2,(⟨⟨0,0,0⟩,0,⟨0,[],0,false,false,false⟩,⟨0,[],[],0,false⟩,0,0,⟨0,0,false,false,0,0⟩,0,0⟩:Conn),0))<|
  .cal DW.c (x1,()) λc3=>
  .cal gR.c (x0,x1.tuple.ip,c3,()) λc4=>
  .ite ((c4.2.1.length:Int)==0) (.cal d7.c (x0,()) λc5=>
   .ret (c5,(⟨⟨0,0,0⟩,0,⟨0,[],0,false,false,false⟩,⟨0,[],[],0,false⟩,0,0,⟨0,0,false,false,0,0⟩,0,0⟩:Conn),0))<|
  .lp (iW (x2,(x2.length:Int),0,x0,x1,(⟨0,0,⟨0,⟨false,0,0,[]⟩,⟨false,0,0,[]⟩,false⟩,⟨0,0,0,0⟩,[],⟨[],[]⟩,0⟩:Door),(⟨⟨0,0,0⟩,0,⟨0,[],0,false,false,false⟩,⟨0,[],[],0,false⟩,0,0,⟨0,0,false,false,0,0⟩,0,0⟩:Conn),c4.1,c4.2.1,())).lp λ(_,_,_,a7_2)=>
  .grd (decide (0<(c4.2.1.length:Int)))<|
  .cal kV.c (x1,(c4.2.1.getD 0 (Ty.zero .segm)),()) λc8=>
  .ite (!c8.2) (.cal d7.c (x0,()) λc9=>
   .ret (c9,(⟨⟨0,0,0⟩,0,⟨0,[],0,false,false,false⟩,⟨0,[],[],0,false⟩,0,0,⟨0,0,false,false,0,0⟩,0,0⟩:Conn),0))<|
  .cal gR.c (a7_2,x1.tuple.ip,c8.1,()) λc10=>
  .cal aw.c (c10.1.table,x1.tuple,()) λc11=>
  .bnd (β:=Bool×Unit) (.ite (c10.2.2==0) (.ret (true,()))<|
   .ret ((decide (c11<0)),())) λ(u12a0,_)=>
  .ite u12a0 (.cal d7.c (x0,()) λc13=>
   .ret (c13,(⟨⟨0,0,0⟩,0,⟨0,[],0,false,false,false⟩,⟨0,[],[],0,false⟩,0,0,⟨0,0,false,false,0,0⟩,0,0⟩:Conn),0))<|
  .grd (aY c10.1.table.conns c11)<|
  .cal cV.c ((c10.1.table.conns.getD c11.toNat (Ty.zero .conn)),()) λc14=>
  .ret (c10.1,c14,c10.2.2),
 λ(x0,x1,x2,_) hp=>by
  refine Tr.C trivial λ_ _ _=>Tr.I (λ_=>Tr.C ?_ λ_ _ _=>Tr.R ?_) λ_=>Tr.C trivial λ_ _ _=>Tr.C ?_ λ_ _ _=>Tr.I (λ_=>Tr.C ?_ λ_ _ _=>Tr.R ?_) λ_=>Tr.L (Fo ?_ ?_ ?_ ?_ ?_) (λ(a7_0,a7_1,a7_2) _=>Tr.G1 ?_ λ_=>Tr.C ?_ λ_ _ _=>Tr.I (λ_=>Tr.C ?_ λ_ _ _=>Tr.R ?_) λ_=>Tr.C ?_ λ_ _ _=>Tr.C ?_ λ_ _ _=>Tr.B (Q':=λ_=>True) (Tr.F (by kernel_rfl) trivial) (λ(u12a0,_) _ _=>Tr.I (λ_=>Tr.C ?_ λ_ _ _=>Tr.R ?_) λ_=>Tr.G2 ?_ λ_=>Tr.C ?_ λ_ _ _=>Tr.R ?_)) (λp=>Empty.elim p)
  all_goals ((try simp only[iW,LC.lp,LC.ct,Ct.lp,Tr.nice,iq]at*)<;>grind)⟩
noncomputable def NZ:=eC aq Tryz.func56 [(0,lb [3,4,6,7,9,10,42,43,44] [3,4,6,7,8,9,10]),(3000016,rA 0 85)] [JY,j7,RK,Iu,Ht,M0,gY,eN] 0 iW (ks:=[.st .door,.st .clie,.sc (.sl .mac)]) dL (λv=>[(true,jW (.o true) (.o true) (.o true) .d (.o true) v.1),(true,kJ (.o true) v.2.1),(false,[.c (.int .i64 v.2.2)])])
noncomputable def cO:FX (Segm×Int×Unit) (Int) (λ_=>True) (bC [.st .segm,.sc (.int .i64)]):=⟨λ(x0,x1,_)=>
  .ite (decide ((IntKind.wrap .i64 (x1-(x0.body.length:Int)))<0)) (.ret (-1))<|
  .ret (IntKind.wrap .i64 (x1-(x0.body.length:Int))),
 λ(x0,x1,_) hp hf=>by
  simp only[bC,Pk.fact,fX,eK,Fl.fact,Ty.fl,Ty.toH]at hf
  refine Tr.F (by kernel_rfl) trivial⟩
theorem kO (x:Segm)(k:Int)(h0:0≤k)(h1:k≤1048576)(hl:x.body.length≤4611686018427387904)(h:0≤cO.f (x,k,())):cO.f (x,k,())≤k∧x.body.length≤1048576:=by
 have w:IntKind.wrap .i64 (k-(x.body.length:Int))=k-(x.body.length:Int):=au (by omega) (by omega)
 simp only[FX.f,cO,Tr.nice,w]at h⊢
 by_cases c:k-(x.body.length:Int)<0
 ·rw[decide_eq_true c,cond_true]at h;omega
 ·rw[decide_eq_false c,cond_false];exact⟨by omega,by omega⟩
noncomputable def rh:=uh st Tryz.func34 [] (ks:=[.st .segm,.sc (.int .i64)]) cO rI
noncomputable def xN:List (Ent1 Tryz.prog):=[]
def jM:Sh:=⟨[zo 0 0,zi 1,zi 5],[.arr .half false false]⟩
noncomputable def xp:Fx:=⟨81,Tryz.f81,[(0,la ⟨[0,1,5],[],false,1⟩ ⟨[1,4],[],false,1⟩)],1⟩
noncomputable def jN (v1:Int)(a:Int×List Half):Tr (Stp (Int×List Half) (Empty)):=
 .grd (aY a.2 v1)<|
 .grd ((decide (0≤v1))&&(decide (v1<((a.2.set v1.toNat ({(a.2.getD v1.toNat (Ty.zero .half))with tuple.ip:=a.1}:Half)).length:Int))))<|
 .val ((a.2.set v1.toNat ({(a.2.getD v1.toNat (Ty.zero .half))with tuple.ip:=a.1}:Half)).set v1.toNat ({((a.2.set v1.toNat ({(a.2.getD v1.toNat (Ty.zero .half))with tuple.ip:=a.1}:Half)).getD v1.toNat (Ty.zero .half))with tuple.port:=(IntKind.wrap .i64 (a.1+1))}:Half)) λl1=>
 .grd (aY l1 v1)<|
 .val (l1.set v1.toNat ({(l1.getD v1.toNat (Ty.zero .half))with tuple.my:=(IntKind.wrap .i64 ((IntKind.wrap .i64 (a.1+1))+1))}:Half)) λl2=>
 .val (IntKind.wrap .i64 ((IntKind.wrap .i64 ((IntKind.wrap .i64 (a.1+1))+1))+1)) λe3=>
 .grd (aY l2 v1)<|
 .grd ((decide (0≤v1))&&(decide (v1<((l2.set v1.toNat ({(l2.getD v1.toNat (Ty.zero .half))with iss:=e3}:Half)).length:Int))))<|
 .val ((l2.set v1.toNat ({(l2.getD v1.toNat (Ty.zero .half))with iss:=e3}:Half)).set v1.toNat ({((l2.set v1.toNat ({(l2.getD v1.toNat (Ty.zero .half))with iss:=e3}:Half)).getD v1.toNat (Ty.zero .half))with irs:=(IntKind.wrap .i64 (e3+1))}:Half)) λl4=>
 .grd (aY l4 v1)<|
 .val (l4.set v1.toNat ({(l4.getD v1.toNat (Ty.zero .half))with opts.mss:=(IntKind.wrap .i64 ((IntKind.wrap .i64 (e3+1))+1))}:Half)) λl5=>
 .val (IntKind.wrap .i64 ((IntKind.wrap .i64 ((IntKind.wrap .i64 (e3+1))+1))+1)) λe6=>
 .grd (aY l5 v1)<|
 .grd ((decide (0≤v1))&&(decide (v1<((l5.set v1.toNat ({(l5.getD v1.toNat (Ty.zero .half))with opts.scale:=e6}:Half)).length:Int))))<|
 .val ((l5.set v1.toNat ({(l5.getD v1.toNat (Ty.zero .half))with opts.scale:=e6}:Half)).set v1.toNat ({((l5.set v1.toNat ({(l5.getD v1.toNat (Ty.zero .half))with opts.scale:=e6}:Half)).getD v1.toNat (Ty.zero .half))with opts.sack:=(((IntKind.wrap .i64 (e6+1)).tmod 3)==0)}:Half)) λl7=>
 .grd (aY l7 v1)<|
 .val (l7.set v1.toNat ({(l7.getD v1.toNat (Ty.zero .half))with opts.stamp:=(((IntKind.wrap .i64 ((IntKind.wrap .i64 (e6+1))+1)).tmod 3)==0)}:Half)) λl8=>
 .val (IntKind.wrap .i64 ((IntKind.wrap .i64 ((IntKind.wrap .i64 (e6+1))+1))+1)) λe9=>
 .grd (aY l8 v1)<|
 .grd ((decide (0≤v1))&&(decide (v1<((l8.set v1.toNat ({(l8.getD v1.toNat (Ty.zero .half))with opts.val:=e9}:Half)).length:Int))))<|
 .val ((l8.set v1.toNat ({(l8.getD v1.toNat (Ty.zero .half))with opts.val:=e9}:Half)).set v1.toNat ({((l8.set v1.toNat ({(l8.getD v1.toNat (Ty.zero .half))with opts.val:=e9}:Half)).getD v1.toNat (Ty.zero .half))with opts.echo:=(IntKind.wrap .i64 (e9+1))}:Half)) λl10=>
 .grd (aY l10 v1)<|
 .val (l10.set v1.toNat ({(l10.getD v1.toNat (Ty.zero .half))with age:=(IntKind.wrap .i64 ((IntKind.wrap .i64 (e9+1))+1))}:Half)) λl11=>
 .val (IntKind.wrap .i64 ((IntKind.wrap .i64 ((IntKind.wrap .i64 (e9+1))+1))+1)) λe12=>
 .grd (aY l11 v1)<|
 .ret (.next ((IntKind.wrap .i64 (e12+1)),(l11.set v1.toNat ({(l11.getD v1.toNat (Ty.zero .half))with window:=e12}:Half))))
noncomputable def bD:jM.V→yQ jM (Int×List Half):=λ(v0,v1,v2,_)=>⟨v1,(v0,v2),λv1 a=>(a.1,v1,a.2,()),λv1 a=>(decide (v1<(a.2.length:Int))),jN,up,1,(Int.toNat ((v2.length:Int)-v1)),Empty.elim,Prod.mk,oN (.exit 0) ⟨[zi 1,zu 4],[.arr .half false false]⟩ (λx=>(x.2.1,x.2.2,()))⟩
theorem BJ:LS Tryz.prog xp [0] (kf 0 jM bD):=fe st (aR xN) _ bD [] trivial
theorem AV {v0 v1:Int}{v2:List Half}(h0:0≤v1)(h1:(v2.length:Int)≤4611686018427387904)(h2:sS v2)(h3:v2.length=v2.length∧v0≤9223372036854775807):(bD (v0,v1,v2,())).S (λv1 a=>a.2.length=v2.length∧a.2.length=v2.length∧a.1≤9223372036854775807) (λ_=>True):=by
 refine LC.okS ⟨rfl,h3⟩ (λj a hj hv=>⟨⟨?_, ?_⟩, ?_⟩) (λa hv=> ?_)
 ·simp only[bD,decide_eq_true_eq]at*;omega
 ·simp only[bD]at*;exact U2 (by omega) (by omega)
 ·refine Tr.G2 ?_ λ_=>Tr.G2 ?_ λ_=>Tr.V λ_ _=>Tr.G2 ?_ λ_=>Tr.V λ_ _=>Tr.V λ_ _=>Tr.G2 ?_ λ_=>Tr.G2 ?_ λ_=>Tr.V λ_ _=>Tr.G2 ?_ λ_=>Tr.V λ_ _=>Tr.V λ_ _=>Tr.G2 ?_ λ_=>Tr.G2 ?_ λ_=>Tr.V λ_ _=>Tr.G2 ?_ λ_=>Tr.V λ_ _=>Tr.V λ_ _=>Tr.G2 ?_ λ_=>Tr.G2 ?_ λ_=>Tr.V λ_ _=>Tr.G2 ?_ λ_=>Tr.V λ_ _=>Tr.V λ_ _=>Tr.G2 ?_ λ_=>Tr.Rn ?_
  all_goals (try simp only[bD]at*)<;>(grind)
 ·simp only[bD,decide_eq_false_iff_not]at*;omega
noncomputable def qO:FT (List Half×Int×Unit) (Int×List Half) (λx=>sS x.1∧x.2.1≤9223372036854775807) (λx v=>sS v.2∧v.1≤9223372036854775807):=⟨λ(x0,x1,_)=>
  .lp (bD (x1,0,x0,())).lp λ(_,a13_0,a13_1)=>
  .ret (a13_0,a13_1),
 λ(x0,x1,_) hp=>by
  refine Tr.L (AV ?_ ?_ ?_ ?_) (λ(a13_0,a13_1) _=>Tr.R ?_) (λp=>Empty.elim p)
  all_goals ((try simp only[bD,LC.lp,LC.ct,Ct.lp]at*)<;>grind)⟩
noncomputable def G9:=n7 st xp xN [(kf 0 jM bD)] [.wr false [.own 0],.sc (.int .i64)] [.arr .half] (λx y=>(y.1,x.2.1,())) qO (λv=>[(false,[.c (.int .i64 v.1)])]) (λx y v=>(v.2,())) Tryz.func81 (by kernel_rfl) ⟨BJ,trivial⟩
def rJ:Sh:=⟨[zl 0 .half,zi 1,zi 5],[]⟩
noncomputable def jP (v0:List Half)(v2:Int)(a:Int):Tr (Stp (Int) ((Int))):=
 .grd (aY v0 v2)<|
 .ite ((v0.getD v2.toNat (Ty.zero .half)).tuple.ip != a) (.ret (.out a))<|
 .grd (aY v0 v2)<|
 .ite ((v0.getD v2.toNat (Ty.zero .half)).tuple.port != (IntKind.wrap .i64 (a+1))) (.ret (.out (IntKind.wrap .i64 (a+1))))<|
 .grd (aY v0 v2)<|
 .ite ((v0.getD v2.toNat (Ty.zero .half)).tuple.my != (IntKind.wrap .i64 ((IntKind.wrap .i64 (a+1))+1))) (.ret (.out (IntKind.wrap .i64 ((IntKind.wrap .i64 (a+1))+1))))<|
 .val (IntKind.wrap .i64 ((IntKind.wrap .i64 ((IntKind.wrap .i64 (a+1))+1))+1)) λe1=>
 .grd (aY v0 v2)<|
 .ite ((v0.getD v2.toNat (Ty.zero .half)).iss != e1) (.ret (.out e1))<|
 .grd (aY v0 v2)<|
 .ite ((v0.getD v2.toNat (Ty.zero .half)).irs != (IntKind.wrap .i64 (e1+1))) (.ret (.out (IntKind.wrap .i64 (e1+1))))<|
 .grd (aY v0 v2)<|
 .ite ((v0.getD v2.toNat (Ty.zero .half)).opts.mss != (IntKind.wrap .i64 ((IntKind.wrap .i64 (e1+1))+1))) (.ret (.out (IntKind.wrap .i64 ((IntKind.wrap .i64 (e1+1))+1))))<|
 .val (IntKind.wrap .i64 ((IntKind.wrap .i64 ((IntKind.wrap .i64 (e1+1))+1))+1)) λe2=>
 .grd (aY v0 v2)<|
 .ite ((v0.getD v2.toNat (Ty.zero .half)).opts.scale != e2) (.ret (.out e2))<|
 .grd (aY v0 v2)<|
 .ite (!((v0.getD v2.toNat (Ty.zero .half)).opts.sack==(((IntKind.wrap .i64 (e2+1)).tmod 3)==0))) (.ret (.out (IntKind.wrap .i64 (e2+1))))<|
 .grd (aY v0 v2)<|
 .ite (!((v0.getD v2.toNat (Ty.zero .half)).opts.stamp==(((IntKind.wrap .i64 ((IntKind.wrap .i64 (e2+1))+1)).tmod 3)==0))) (.ret (.out (IntKind.wrap .i64 ((IntKind.wrap .i64 (e2+1))+1))))<|
 .val (IntKind.wrap .i64 ((IntKind.wrap .i64 ((IntKind.wrap .i64 (e2+1))+1))+1)) λe3=>
 .grd (aY v0 v2)<|
 .ite ((v0.getD v2.toNat (Ty.zero .half)).opts.val != e3) (.ret (.out e3))<|
 .grd (aY v0 v2)<|
 .ite ((v0.getD v2.toNat (Ty.zero .half)).opts.echo != (IntKind.wrap .i64 (e3+1))) (.ret (.out (IntKind.wrap .i64 (e3+1))))<|
 .grd (aY v0 v2)<|
 .ite ((v0.getD v2.toNat (Ty.zero .half)).age != (IntKind.wrap .i64 ((IntKind.wrap .i64 (e3+1))+1))) (.ret (.out (IntKind.wrap .i64 ((IntKind.wrap .i64 (e3+1))+1))))<|
 .val (IntKind.wrap .i64 ((IntKind.wrap .i64 ((IntKind.wrap .i64 (e3+1))+1))+1)) λe4=>
 .grd (aY v0 v2)<|
 .ite ((v0.getD v2.toNat (Ty.zero .half)).window != e4) (.ret (.out e4))<|
 .ret (.next (IntKind.wrap .i64 (e4+1)))
noncomputable def jv:rJ.V→oi rJ Int (Int):=λ(v0,v1,v2,_)=>⟨v2,v1,λv2 a=>(v0,a,v2,()),λv2 _=>(decide (v2<(v0.length:Int))),jP v0,up,1,(Int.toNat ((v0.length:Int)-v2)),.inl,eR,oB .ret ⟨[zi 1,zi 4],[]⟩ (λp=>(p,(-1),())) (.exit 0) ⟨[zi 1,zu 4],[]⟩ (λx=>(x.2,()))⟩
theorem A8 {v0:List Half}{v1 v2:Int}(h0:0≤v2)(h1:(v0.length:Int)≤4611686018427387904)(h2:v1≤9223372036854775807):(jv (v0,v1,v2,())).U (v0.length:Int) (λv2 a=>a≤9223372036854775807) (λ_=>True):=
 mw (a:=v1) h0 h1 h2
noncomputable def qF:FT (List Half×Int×Unit) (Int) (λx=>sS x.1∧x.2.1≤9223372036854775807) (λx v=>v≤9223372036854775807):= .mk (λ(x0,x1,_)=>
  .lp (jv (x0,x1,0,())).lp λw5=> .sum w5 (λ_=>
  .ret (-1))<|
  λ(_,a5_0)=>
  .ret a5_0) (ql @A8)
noncomputable def HJ:=eC st Tryz.func85 [(0,lb [0,1,5] [1,4])] [] 0 jv (ks:=[.sc (.sl .half),.sc (.int .i64)]) qF rI
noncomputable def eZ:FT (Door×Int×Unit) (Int×List MacRow×List MacRow×List Half×List Conn×List Tupl) (λx=>ai x.1∧x.2.1≤9223372036854775807) (λx v=>sL aE v.2.1∧sL aE v.2.2.1∧sS v.2.2.2.1∧sL ac v.2.2.2.2.1∧sS v.2.2.2.2.2∧v.1≤9223372036854775807):= .mk λ(x0,x1,_)=>
  .cal sU.c (x0.keys,x1,()) λc1=>
  .cal qO.c (x0.halves,c1.1,()) λc2=>
  .cal qy.c (x0.table,c2.1,()) λc3=>
  .ret (c3.1,c1.2.1,c1.2.2,c2.2,c3.2.1,c3.2.2)
noncomputable def oG:=n7 st ⟨18,Tryz.f18,[],5⟩ [Jm,G9,Hu] [] [.wr true [.c (.int .i64),.c (.int .i64),.c (.int .i64),.c .bool,.c (.int .u64),.c (.int .u64),.own 0,.c .bool,.c (.int .u64),.c (.int .u64),.own 1,.c .bool,.c (.int .i64),.c (.int .i64),.c (.int .i64),.c (.int .i64),.own 2,.down 3,.own 4,.c (.int .i64)],.sc (.int .i64)] [.arr .macRow,.arr .macRow,.arr .half,.dar .conn,.arr .tupl] (λx y=>((⟨x.1.1,x.1.2.1,⟨x.1.2.2.1,⟨x.1.2.2.2.1,x.1.2.2.2.2.1,x.1.2.2.2.2.2.1,y.1⟩,⟨x.1.2.2.2.2.2.2.1,x.1.2.2.2.2.2.2.2.1,x.1.2.2.2.2.2.2.2.2.1,y.2.1⟩,x.1.2.2.2.2.2.2.2.2.2.1⟩,⟨x.1.2.2.2.2.2.2.2.2.2.2.1,x.1.2.2.2.2.2.2.2.2.2.2.2.1,x.1.2.2.2.2.2.2.2.2.2.2.2.2.1,x.1.2.2.2.2.2.2.2.2.2.2.2.2.2.1⟩,y.2.2.1,⟨y.2.2.2.1,y.2.2.2.2.1⟩,x.1.2.2.2.2.2.2.2.2.2.2.2.2.2.2.1⟩:Door),x.2.1,())) eZ (λv=>[(false,[.c (.int .i64 v.1)])]) (λx y v=>(v.2.1,v.2.2.1,v.2.2.2.1,v.2.2.2.2.1,v.2.2.2.2.2,())) Tryz.func18 (by kernel_rfl) trivial
noncomputable def fo:FT (Door×Int×Unit) (Int) (λx=>ai x.1∧x.2.1≤9223372036854775807) (λx v=>v≤9223372036854775807):= .mk λ(x0,x1,_)=>
  .cal tc.c (x0.keys,x1,()) λc1=>
  .ite (decide (c1<0)) (.ret (-1))<|
  .cal qF.c (x0.halves,c1,()) λc2=>
  .ite (decide (c2<0)) (.ret (-1))<|
  .cal qq.c (x0.table,c2,()) λc3=>
  .ite (decide (c3<0)) (.ret (-1))<|
  .ret c3
noncomputable def oo:=bh st Tryz.func20 [KZ,HJ,GS] (ks:=[.st .door,.sc (.int .i64)]) fo rI
noncomputable def Bj:=[tQ,rh,tI,kN,rk,Io,Ij,td,p4,oG,mI,oo,mN]
noncomputable def BM:Fx:=⟨5,Tryz.f5,[(3000011,rA 0 58),(3000017,rA 0 80),(3000032,rA 0 119)],0⟩
noncomputable def pI:FX (Door×Tupl×Segm×Unit) (Bool) (λ_=>True) (bC [.st .door,.st .tupl,.st .segm]):=⟨λ(x0,x1,x2,_)=>
  .cal aQ.c (x0,1048576,()) λc1=>
  .ite (decide (c1<0)) (.ret true)<|
  .cal cO.c (x2,c1,()) λc2=>
  .ite (decide (c2<0)) (.ret true)<|
  .cal dA.c (x0,()) λc3=>
  .val (eP.f (x1,())) λc4=>
  .cal dE.c (x2,()) λc5=>
  .cal zj.c (c3,c4,c5,()) λc6=>
  .cal dA.c (x0,()) λc7=>
  .val (eP.f (x1,())) λc8=>
  .cal dE.c (x2,()) λc9=>
  .cal dR.c (c7,c8,c9,()) λc10=>
  .bnd (β:=Bool×Unit) (.cal dq.c (c10.1,c6.1,()) λc11=>
   .ite (!c11) (.ret (true,()))<|
   .cal cJ.c (c10.2,c6.2,()) λc12=>
   .ret ((!c12),())) λ(u13a0,_)=>
  .ite u13a0 (.ret false)<|
  .cal dA.c (x0,()) λc14=>
  .cal dq.c (c7,c14,()) λc15=>
  .ite (!c15) (.ret false)<|
  .cal eZ.c (c7,1,()) λc16=>
  .bnd (β:=Bool×Unit) (.ite (decide (c16.1<0)) (.ret (true,()))<|
   .cal dq.c (c10.1,c6.1,()) λc17=>
   .ite (!c17) (.ret (true,()))<|
   .cal cJ.c (c10.2,c6.2,()) λc18=>
   .ret ((!c18),())) λ(u19a0,_)=>
  .ite u19a0 (.ret false)<|
  .cal eZ.c (c10.1,1,()) λc20=>
  .cal gj.c (c10.2,c20.1,()) λc21=>
  .cal fo.c (({c10.1 with keys.now.rows:=c20.2.1,keys.before.rows:=c20.2.2.1,halves:=c20.2.2.2.1,table.conns:=c20.2.2.2.2.1,table.waiting:=c20.2.2.2.2.2}:Door),1,()) λc22=>
  .ite (decide (c22<0)) (.ret false)<|
  .cal dj.c (c21.2,c22,()) λc23=>
  .ite (decide (c23<0)) (.ret false)<|
  .ite (c23 != c21.1) (.ret false)<|
  .cal dA.c (x0,()) λc24=>
  .val (eP.f (x1,())) λc25=>
  .cal dE.c (x2,()) λc26=>
  .cal dR.c (c24,c25,c26,()) λc27=>
  .bnd (β:=Bool×Unit) (.cal dq.c (c27.1,c6.1,()) λc28=>
   .ite (!c28) (.ret (true,()))<|
   .cal cJ.c (c27.2,c6.2,()) λc29=>
   .ret ((!c29),())) λ(u30a0,_)=>
  .ite u30a0 (.ret false)<|
  .cal fo.c (({c10.1 with keys.now.rows:=c20.2.1,keys.before.rows:=c20.2.2.1,halves:=c20.2.2.2.1,table.conns:=c20.2.2.2.2.1,table.waiting:=c20.2.2.2.2.2}:Door),1,()) λc31=>
  .ite (decide (c31<0)) (.ret false)<|
  .cal dj.c (c21.2,c31,()) λc32=>
  .ite (decide (c32<0)) (.ret false)<|
  .ite (c32 != c21.1) (.ret false)<|
  .ret true,
 λ(x0,x1,x2,_) hp hf=>by
  simp only[bC,Pk.fact,fX,eK,Fl.fact,Ty.fl,Ty.toH]at hf
  refine Tr.C trivial λc1 hc1 qc1=>Tr.I (λb0=>Tr.R trivial) λb0=>Tr.C trivial λc2 hc2 qc2=>Tr.I (λb1=>Tr.R trivial) λb1=>Tr.C ?_ λc3 hc3 qc3=>Tr.V λc4 hc4=>Tr.C ?_ λc5 hc5 qc5=>Tr.C ?_ λc6 hc6 qc6=>Tr.C ?_ λc7 hc7 qc7=>Tr.V λc8 hc8=>Tr.C ?_ λc9 hc9 qc9=>Tr.C ?_ λc10 hc10 qc10=>Tr.B (Q':=λ_=>True) (Tr.C ?_ λc11 hc11 qc11=>Tr.I (λb2=>Tr.R trivial) λb2=>Tr.C ?_ λc12 hc12 qc12=>Tr.R trivial) (λ(u13a0,_) hj13 qj13=>Tr.I (λb2=>Tr.R trivial) λb2=>Tr.C ?_ λc14 hc14 qc14=>Tr.C ?_ λc15 hc15 qc15=>Tr.I (λb3=>Tr.R trivial) λb3=>Tr.C ?_ λc16 hc16 qc16=>Tr.B (Q':=λ_=>True) (Tr.I (λb4=>Tr.R trivial) λb4=>Tr.C ?_ λc17 hc17 qc17=>Tr.I (λb5=>Tr.R trivial) λb5=>Tr.C ?_ λc18 hc18 qc18=>Tr.R trivial) (λ(u19a0,_) hj19 qj19=>Tr.I (λb4=>Tr.R trivial) λb4=>Tr.C ?_ λc20 hc20 qc20=>Tr.C ?_ λc21 hc21 qc21=>Tr.C ?_ λc22 hc22 qc22=>Tr.I (λb5=>Tr.R trivial) λb5=>Tr.C ?_ λc23 hc23 qc23=>Tr.I (λb6=>Tr.R trivial) λb6=>Tr.I (λb7=>Tr.R trivial) λb7=>Tr.C ?_ λc24 hc24 qc24=>Tr.V λc25 hc25=>Tr.C ?_ λc26 hc26 qc26=>Tr.C ?_ λc27 hc27 qc27=>Tr.B (Q':=λ_=>True) (Tr.C ?_ λc28 hc28 qc28=>Tr.I (λb8=>Tr.R trivial) λb8=>Tr.C ?_ λc29 hc29 qc29=>Tr.R trivial) (λ(u30a0,_) hj30 qj30=>Tr.I (λb8=>Tr.R trivial) λb8=>Tr.C ?_ λc31 hc31 qc31=>Tr.I (λb9=>Tr.R trivial) λb9=>Tr.C ?_ λc32 hc32 qc32=>Tr.F (by kernel_rfl) trivial)))
  all_goals ((try simp only[Tr.nice,iq]at*)<;>((obtain⟨⟨_,_,_,_,_,_,⟨n1,n2⟩,_,_,_,⟨m1,m2⟩,_,_,_,_,_,⟨hh,_⟩,⟨hl,he⟩,⟨hw,_⟩,_⟩,_,⟨_,_,_,_,_,_,_,_,_,_,_,_,hsb,_⟩,_⟩:=hf;have k1:0≤aQ.f (x0,1048576,()):=(by rw[←hc1];simpa using b0);have hD:=(nS x0 1048576 (by omega) (by omega) n1 n2 m1 m2 hh hl he hw k1);have hD2:=hD.2;have hS:=(kO x2 _ k1 (by omega) hsb (by rw[←hc1,←hc2];simpa using b1)).2;have hS2:ah x2:=(by unfold ah;omega);grind)))⟩
noncomputable def Bd:=JW st BM Bj [] (ks:=[.st .door,.st .tupl,.st .segm]) pI rB Tryz.func5 trivial
noncomputable def Bq:=[tQ,rh,tI,kN,rk,It,HU,td,p4,oG,mI,oo,mN]
noncomputable def A9:Fx:=⟨6,Tryz.f6,[(3000011,rA 0 68),(3000017,rA 0 95),(3000032,rA 0 140)],0⟩
noncomputable def pO:FX (Door×Tupl×Segm×Unit) (Bool) (λ_=>True) (bC [.st .door,.st .tupl,.st .segm]):=⟨λ(x0,x1,x2,_)=>
  .cal aQ.c (x0,1048576,()) λc1=>
  .ite (decide (c1<0)) (.ret true)<|
  .cal cO.c (x2,c1,()) λc2=>
  .ite (decide (c2<0)) (.ret true)<|
  .cal dA.c (x0,()) λc3=>
  .val (eP.f (x1,())) λc4=>
  .cal dE.c (x2,()) λc5=>
  .cal wa.c (c3,c4,c5,()) λc6=>
  .cal dA.c (x0,()) λc7=>
  .val (eP.f (x1,())) λc8=>
  .cal dE.c (x2,()) λc9=>
  .cal jR.c (c7,c8,c9,()) λc10=>
  .bnd (β:=Bool×Unit) (.cal dq.c (c10.1,c6.1,()) λc11=>
   .ite (!c11) (.ret (true,()))<|
   .cal cJ.c (c10.2.1,c6.2.1,()) λc12=>
   .ite (!c12) (.ret (true,()))<|
   .ret ((c10.2.2 != c6.2.2),())) λ(u13a0,_)=>
  .ite u13a0 (.ret false)<|
  .cal dA.c (x0,()) λc14=>
  .cal dq.c (c7,c14,()) λc15=>
  .ite (!c15) (.ret false)<|
  .cal eZ.c (c7,1,()) λc16=>
  .bnd (β:=Bool×Unit) (.ite (decide (c16.1<0)) (.ret (true,()))<|
   .cal dq.c (c10.1,c6.1,()) λc17=>
   .ite (!c17) (.ret (true,()))<|
   .cal cJ.c (c10.2.1,c6.2.1,()) λc18=>
   .ite (!c18) (.ret (true,()))<|
   .ret ((c10.2.2 != c6.2.2),())) λ(u19a0,_)=>
  .ite u19a0 (.ret false)<|
  .cal eZ.c (c10.1,1,()) λc20=>
  .cal gj.c (c10.2.1,c20.1,()) λc21=>
  .cal fo.c (({c10.1 with keys.now.rows:=c20.2.1,keys.before.rows:=c20.2.2.1,halves:=c20.2.2.2.1,table.conns:=c20.2.2.2.2.1,table.waiting:=c20.2.2.2.2.2}:Door),1,()) λc22=>
  .ite (decide (c22<0)) (.ret false)<|
  .cal dj.c (c21.2,c22,()) λc23=>
  .ite (decide (c23<0)) (.ret false)<|
  .ite (c23 != c21.1) (.ret false)<|
  .cal dA.c (x0,()) λc24=>
  .val (eP.f (x1,())) λc25=>
  .cal dE.c (x2,()) λc26=>
  .cal jR.c (c24,c25,c26,()) λc27=>
  .bnd (β:=Bool×Unit) (.cal dq.c (c27.1,c6.1,()) λc28=>
   .ite (!c28) (.ret (true,()))<|
   .cal cJ.c (c27.2.1,c6.2.1,()) λc29=>
   .ite (!c29) (.ret (true,()))<|
   .ret ((c27.2.2 != c6.2.2),())) λ(u30a0,_)=>
  .ite u30a0 (.ret false)<|
  .cal fo.c (({c10.1 with keys.now.rows:=c20.2.1,keys.before.rows:=c20.2.2.1,halves:=c20.2.2.2.1,table.conns:=c20.2.2.2.2.1,table.waiting:=c20.2.2.2.2.2}:Door),1,()) λc31=>
  .ite (decide (c31<0)) (.ret false)<|
  .cal dj.c (c21.2,c31,()) λc32=>
  .ite (decide (c32<0)) (.ret false)<|
  .ite (c32 != c21.1) (.ret false)<|
  .ret true,
 λ(x0,x1,x2,_) hp hf=>by
  simp only[bC,Pk.fact,fX,eK,Fl.fact,Ty.fl,Ty.toH]at hf
  refine Tr.C trivial λc1 hc1 qc1=>Tr.I (λb0=>Tr.R trivial) λb0=>Tr.C trivial λc2 hc2 qc2=>Tr.I (λb1=>Tr.R trivial) λb1=>Tr.C ?_ λc3 hc3 qc3=>Tr.V λc4 hc4=>Tr.C ?_ λc5 hc5 qc5=>Tr.C ?_ λc6 hc6 qc6=>Tr.C ?_ λc7 hc7 qc7=>Tr.V λc8 hc8=>Tr.C ?_ λc9 hc9 qc9=>Tr.C ?_ λc10 hc10 qc10=>Tr.B (Q':=λ_=>True) (Tr.C ?_ λc11 hc11 qc11=>Tr.I (λb2=>Tr.R trivial) λb2=>Tr.C ?_ λc12 hc12 qc12=>Tr.F (by kernel_rfl) trivial) (λ(u13a0,_) hj13 qj13=>Tr.I (λb2=>Tr.R trivial) λb2=>Tr.C ?_ λc14 hc14 qc14=>Tr.C ?_ λc15 hc15 qc15=>Tr.I (λb3=>Tr.R trivial) λb3=>Tr.C ?_ λc16 hc16 qc16=>Tr.B (Q':=λ_=>True) (Tr.I (λb4=>Tr.R trivial) λb4=>Tr.C ?_ λc17 hc17 qc17=>Tr.I (λb5=>Tr.R trivial) λb5=>Tr.C ?_ λc18 hc18 qc18=>Tr.F (by kernel_rfl) trivial) (λ(u19a0,_) hj19 qj19=>Tr.I (λb4=>Tr.R trivial) λb4=>Tr.C ?_ λc20 hc20 qc20=>Tr.C ?_ λc21 hc21 qc21=>Tr.C ?_ λc22 hc22 qc22=>Tr.I (λb5=>Tr.R trivial) λb5=>Tr.C ?_ λc23 hc23 qc23=>Tr.I (λb6=>Tr.R trivial) λb6=>Tr.I (λb7=>Tr.R trivial) λb7=>Tr.C ?_ λc24 hc24 qc24=>Tr.V λc25 hc25=>Tr.C ?_ λc26 hc26 qc26=>Tr.C ?_ λc27 hc27 qc27=>Tr.B (Q':=λ_=>True) (Tr.C ?_ λc28 hc28 qc28=>Tr.I (λb8=>Tr.R trivial) λb8=>Tr.C ?_ λc29 hc29 qc29=>Tr.F (by kernel_rfl) trivial) (λ(u30a0,_) hj30 qj30=>Tr.I (λb8=>Tr.R trivial) λb8=>Tr.C ?_ λc31 hc31 qc31=>Tr.I (λb9=>Tr.R trivial) λb9=>Tr.C ?_ λc32 hc32 qc32=>Tr.F (by kernel_rfl) trivial)))
  all_goals ((try simp only[Tr.nice,iq]at*)<;>((obtain⟨⟨_,_,_,_,_,_,⟨n1,n2⟩,_,_,_,⟨m1,m2⟩,_,_,_,_,_,⟨hh,_⟩,⟨hl,he⟩,⟨hw,_⟩,_⟩,_,⟨_,_,_,_,_,_,_,_,_,_,_,_,hsb,_⟩,_⟩:=hf;have k1:0≤aQ.f (x0,1048576,()):=(by rw[←hc1];simpa using b0);have hD:=(nS x0 1048576 (by omega) (by omega) n1 n2 m1 m2 hh hl he hw k1);have hD2:=hD.2;have hS:=(kO x2 _ k1 (by omega) hsb (by rw[←hc1,←hc2];simpa using b1)).2;have hS2:ah x2:=(by unfold ah;omega);grind)))⟩
noncomputable def Bu:=JW st A9 Bq [] (ks:=[.st .door,.st .tupl,.st .segm]) pO rB Tryz.func6 trivial
noncomputable def Bk:=[tQ,rh,tI,rk,Ie,Iu,td,p4,oG,mI,oo,mN]
noncomputable def Bv:Fx:=⟨7,Tryz.f7,[(3000011,rA 0 66),(3000017,rA 0 93),(3000032,rA 0 137)],0⟩
noncomputable def pB:FX (Door×Int×Segm×Unit) (Bool) (λ_=>True) (bC [.st .door,.sc (.int .i64),.st .segm]):=⟨λ(x0,x1,x2,_)=>
  .cal aQ.c (x0,1048576,()) λc1=>
  .ite (decide (c1<0)) (.ret true)<|
  .cal cO.c (x2,c1,()) λc2=>
  .ite (decide (c2<0)) (.ret true)<|
  .cal dA.c (x0,()) λc3=>
  .cal dE.c (x2,()) λc4=>
  .cal tS.c (c3,x1,c4,()) λc5=>
  .cal dA.c (x0,()) λc6=>
  .cal dE.c (x2,()) λc7=>
  .cal gR.c (c6,x1,c7,()) λc8=>
  .bnd (β:=Bool×Unit) (.cal dq.c (c8.1,c5.1,()) λc9=>
   .ite (!c9) (.ret (true,()))<|
   .cal cJ.c (c8.2.1,c5.2.1,()) λc10=>
   .ite (!c10) (.ret (true,()))<|
   .ret ((c8.2.2 != c5.2.2),())) λ(u11a0,_)=>
  .ite u11a0 (.ret false)<|
  .cal dA.c (x0,()) λc12=>
  .cal dq.c (c6,c12,()) λc13=>
  .ite (!c13) (.ret false)<|
  .cal eZ.c (c6,1,()) λc14=>
  .bnd (β:=Bool×Unit) (.ite (decide (c14.1<0)) (.ret (true,()))<|
   .cal dq.c (c8.1,c5.1,()) λc15=>
   .ite (!c15) (.ret (true,()))<|
   .cal cJ.c (c8.2.1,c5.2.1,()) λc16=>
   .ite (!c16) (.ret (true,()))<|
   .ret ((c8.2.2 != c5.2.2),())) λ(u17a0,_)=>
  .ite u17a0 (.ret false)<|
  .cal eZ.c (c8.1,1,()) λc18=>
  .cal gj.c (c8.2.1,c18.1,()) λc19=>
  .cal fo.c (({c8.1 with keys.now.rows:=c18.2.1,keys.before.rows:=c18.2.2.1,halves:=c18.2.2.2.1,table.conns:=c18.2.2.2.2.1,table.waiting:=c18.2.2.2.2.2}:Door),1,()) λc20=>
  .ite (decide (c20<0)) (.ret false)<|
  .cal dj.c (c19.2,c20,()) λc21=>
  .ite (decide (c21<0)) (.ret false)<|
  .ite (c21 != c19.1) (.ret false)<|
  .cal dA.c (x0,()) λc22=>
  .cal dE.c (x2,()) λc23=>
  .cal gR.c (c22,x1,c23,()) λc24=>
  .bnd (β:=Bool×Unit) (.cal dq.c (c24.1,c5.1,()) λc25=>
   .ite (!c25) (.ret (true,()))<|
   .cal cJ.c (c24.2.1,c5.2.1,()) λc26=>
   .ite (!c26) (.ret (true,()))<|
   .ret ((c24.2.2 != c5.2.2),())) λ(u27a0,_)=>
  .ite u27a0 (.ret false)<|
  .cal fo.c (({c8.1 with keys.now.rows:=c18.2.1,keys.before.rows:=c18.2.2.1,halves:=c18.2.2.2.1,table.conns:=c18.2.2.2.2.1,table.waiting:=c18.2.2.2.2.2}:Door),1,()) λc28=>
  .ite (decide (c28<0)) (.ret false)<|
  .cal dj.c (c19.2,c28,()) λc29=>
  .ite (decide (c29<0)) (.ret false)<|
  .ite (c29 != c19.1) (.ret false)<|
  .ret true,
 λ(x0,x1,x2,_) hp hf=>by
  simp only[bC,Pk.fact,fX,eK,Fl.fact,Ty.fl,Ty.toH]at hf
  refine Tr.C trivial λc1 hc1 qc1=>Tr.I (λb0=>Tr.R trivial) λb0=>Tr.C trivial λc2 hc2 qc2=>Tr.I (λb1=>Tr.R trivial) λb1=>Tr.C ?_ λc3 hc3 qc3=>Tr.C ?_ λc4 hc4 qc4=>Tr.C ?_ λc5 hc5 qc5=>Tr.C ?_ λc6 hc6 qc6=>Tr.C ?_ λc7 hc7 qc7=>Tr.C ?_ λc8 hc8 qc8=>Tr.B (Q':=λ_=>True) (Tr.C ?_ λc9 hc9 qc9=>Tr.I (λb2=>Tr.R trivial) λb2=>Tr.C ?_ λc10 hc10 qc10=>Tr.F (by kernel_rfl) trivial) (λ(u11a0,_) hj11 qj11=>Tr.I (λb2=>Tr.R trivial) λb2=>Tr.C ?_ λc12 hc12 qc12=>Tr.C ?_ λc13 hc13 qc13=>Tr.I (λb3=>Tr.R trivial) λb3=>Tr.C ?_ λc14 hc14 qc14=>Tr.B (Q':=λ_=>True) (Tr.I (λb4=>Tr.R trivial) λb4=>Tr.C ?_ λc15 hc15 qc15=>Tr.I (λb5=>Tr.R trivial) λb5=>Tr.C ?_ λc16 hc16 qc16=>Tr.F (by kernel_rfl) trivial) (λ(u17a0,_) hj17 qj17=>Tr.I (λb4=>Tr.R trivial) λb4=>Tr.C ?_ λc18 hc18 qc18=>Tr.C ?_ λc19 hc19 qc19=>Tr.C ?_ λc20 hc20 qc20=>Tr.I (λb5=>Tr.R trivial) λb5=>Tr.C ?_ λc21 hc21 qc21=>Tr.I (λb6=>Tr.R trivial) λb6=>Tr.I (λb7=>Tr.R trivial) λb7=>Tr.C ?_ λc22 hc22 qc22=>Tr.C ?_ λc23 hc23 qc23=>Tr.C ?_ λc24 hc24 qc24=>Tr.B (Q':=λ_=>True) (Tr.C ?_ λc25 hc25 qc25=>Tr.I (λb8=>Tr.R trivial) λb8=>Tr.C ?_ λc26 hc26 qc26=>Tr.F (by kernel_rfl) trivial) (λ(u27a0,_) hj27 qj27=>Tr.I (λb8=>Tr.R trivial) λb8=>Tr.C ?_ λc28 hc28 qc28=>Tr.I (λb9=>Tr.R trivial) λb9=>Tr.C ?_ λc29 hc29 qc29=>Tr.F (by kernel_rfl) trivial)))
  all_goals ((try simp only[Tr.nice,iq]at*)<;>((obtain⟨⟨_,_,_,_,_,_,⟨n1,n2⟩,_,_,_,⟨m1,m2⟩,_,_,_,_,_,⟨hh,_⟩,⟨hl,he⟩,⟨hw,_⟩,_⟩,_,⟨_,_,_,_,_,_,_,_,_,_,_,_,hsb,_⟩,_⟩:=hf;have k1:0≤aQ.f (x0,1048576,()):=(by rw[←hc1];simpa using b0);have hD:=(nS x0 1048576 (by omega) (by omega) n1 n2 m1 m2 hh hl he hw k1);have hD2:=hD.2;have hS:=(kO x2 _ k1 (by omega) hsb (by rw[←hc1,←hc2];simpa using b1)).2;have hS2:ah x2:=(by unfold ah;omega);grind)))⟩
noncomputable def Bz:=JW st Bv Bk [] (ks:=[.st .door,.sc (.int .i64),.st .segm]) pB rB Tryz.func7 trivial
noncomputable def yL:=[tQ,PH,tI,KE,Pd,MP,NZ,td,Gp,OI,oG,Kf,Kp,oo,KS]
noncomputable def xU:Fx:=⟨9,Tryz.f9,[(3000012,rA 0 70),(3000021,rA 0 105),(3000036,rA 0 150)],0⟩
noncomputable def m9:FX (Door×Clie×List Mac×Unit) (Bool) (λ_=>True) (bC [.st .door,.st .clie,.sc (.sl .mac)]):=⟨λ(x0,x1,x2,_)=>
  .cal aQ.c (x0,1048576,()) λc1=>
  .ite (decide (c1<0)) (.ret true)<|
  .cal pb.c (x2,c1,()) λc2=>
  .ite (decide (c2<0)) (.ret true)<|
  .cal dA.c (x0,()) λc3=>
  .val (mY.f (x1,())) λc4=>
  .cal pK.c (x2,()) λc5=>
  .cal r7.c (c3,c4,c5,()) λc6=>
  .cal dA.c (x0,()) λc7=>
  .cal pK.c (x2,()) λc8=>
  .val (mY.f (x1,())) λc9=>
  .cal dL.c (c7,c9,c8,()) λc10=>
  .bnd (β:=Bool×Unit) (.cal dq.c (c10.1,c6.1,()) λc11=>
   .ite (!c11) (.ret (true,()))<|
   .cal pE.c (c10.2.1,c6.2.1,()) λc12=>
   .ite (!c12) (.ret (true,()))<|
   .ret ((c10.2.2 != c6.2.2),())) λ(u13a0,_)=>
  .ite u13a0 (.ret false)<|
  .cal dA.c (x0,()) λc14=>
  .cal dq.c (c7,c14,()) λc15=>
  .ite (!c15) (.ret false)<|
  .cal pK.c (x2,()) λc16=>
  .cal AA.c (c8,c16,()) λc17=>
  .ite (!c17) (.ret false)<|
  .cal eZ.c (c7,1,()) λc18=>
  .cal sK.c (c8,c18.1,()) λc19=>
  .bnd (β:=Bool×Unit) (.ite (decide (c19.1<0)) (.ret (true,()))<|
   .cal dq.c (c10.1,c6.1,()) λc20=>
   .ite (!c20) (.ret (true,()))<|
   .cal pE.c (c10.2.1,c6.2.1,()) λc21=>
   .ite (!c21) (.ret (true,()))<|
   .ret ((c10.2.2 != c6.2.2),())) λ(u22a0,_)=>
  .ite u22a0 (.ret false)<|
  .cal eZ.c (c10.1,1,()) λc23=>
  .cal tz.c (c10.2.1,c23.1,()) λc24=>
  .cal fo.c (({c10.1 with keys.now.rows:=c23.2.1,keys.before.rows:=c23.2.2.1,halves:=c23.2.2.2.1,table.conns:=c23.2.2.2.2.1,table.waiting:=c23.2.2.2.2.2}:Door),1,()) λc25=>
  .ite (decide (c25<0)) (.ret false)<|
  .cal p6.c (({c10.2.1 with r.held:=c24.2}:Conn),c25,()) λc26=>
  .ite (decide (c26<0)) (.ret false)<|
  .ite (c26 != c24.1) (.ret false)<|
  .cal dA.c (x0,()) λc27=>
  .val (mY.f (x1,())) λc28=>
  .cal pK.c (x2,()) λc29=>
  .cal dL.c (c27,c28,c29,()) λc30=>
  .bnd (β:=Bool×Unit) (.cal dq.c (c30.1,c6.1,()) λc31=>
   .ite (!c31) (.ret (true,()))<|
   .cal pE.c (c30.2.1,c6.2.1,()) λc32=>
   .ite (!c32) (.ret (true,()))<|
   .ret ((c30.2.2 != c6.2.2),())) λ(u33a0,_)=>
  .ite u33a0 (.ret false)<|
  .cal fo.c (({c10.1 with keys.now.rows:=c23.2.1,keys.before.rows:=c23.2.2.1,halves:=c23.2.2.2.1,table.conns:=c23.2.2.2.2.1,table.waiting:=c23.2.2.2.2.2}:Door),1,()) λc34=>
  .ite (decide (c34<0)) (.ret false)<|
  .cal p6.c (({c10.2.1 with r.held:=c24.2}:Conn),c34,()) λc35=>
  .ite (decide (c35<0)) (.ret false)<|
  .ite (c35 != c24.1) (.ret false)<|
  .ret true,
 λ(x0,x1,x2,_) hp hf=>by
  simp only[bC,Pk.fact,fX,eK,Fl.fact,Ty.fl,Ty.toH]at hf
  refine Tr.C trivial λc1 hc1 qc1=>Tr.I (λb0=>Tr.R trivial) λb0=>Tr.C trivial λc2 hc2 qc2=>Tr.I (λb1=>Tr.R trivial) λb1=>Tr.C ?_ λc3 hc3 qc3=>Tr.V λc4 hc4=>Tr.C ?_ λc5 hc5 qc5=>Tr.C ?_ λc6 hc6 qc6=>Tr.C ?_ λc7 hc7 qc7=>Tr.C ?_ λc8 hc8 qc8=>Tr.V λc9 hc9=>Tr.C ?_ λc10 hc10 qc10=>Tr.B (Q':=λ_=>True) (Tr.C ?_ λc11 hc11 qc11=>Tr.I (λb2=>Tr.R trivial) λb2=>Tr.C ?_ λc12 hc12 qc12=>Tr.F (by kernel_rfl) trivial) (λ(u13a0,_) hj13 qj13=>Tr.I (λb2=>Tr.R trivial) λb2=>Tr.C ?_ λc14 hc14 qc14=>Tr.C ?_ λc15 hc15 qc15=>Tr.I (λb3=>Tr.R trivial) λb3=>Tr.C ?_ λc16 hc16 qc16=>Tr.C ?_ λc17 hc17 qc17=>Tr.I (λb4=>Tr.R trivial) λb4=>Tr.C ?_ λc18 hc18 qc18=>Tr.C ?_ λc19 hc19 qc19=>Tr.B (Q':=λ_=>True) (Tr.I (λb5=>Tr.R trivial) λb5=>Tr.C ?_ λc20 hc20 qc20=>Tr.I (λb6=>Tr.R trivial) λb6=>Tr.C ?_ λc21 hc21 qc21=>Tr.F (by kernel_rfl) trivial) (λ(u22a0,_) hj22 qj22=>Tr.I (λb5=>Tr.R trivial) λb5=>Tr.C ?_ λc23 hc23 qc23=>Tr.C ?_ λc24 hc24 qc24=>Tr.C ?_ λc25 hc25 qc25=>Tr.I (λb6=>Tr.R trivial) λb6=>Tr.C ?_ λc26 hc26 qc26=>Tr.I (λb7=>Tr.R trivial) λb7=>Tr.I (λb8=>Tr.R trivial) λb8=>Tr.C ?_ λc27 hc27 qc27=>Tr.V λc28 hc28=>Tr.C ?_ λc29 hc29 qc29=>Tr.C ?_ λc30 hc30 qc30=>Tr.B (Q':=λ_=>True) (Tr.C ?_ λc31 hc31 qc31=>Tr.I (λb9=>Tr.R trivial) λb9=>Tr.C ?_ λc32 hc32 qc32=>Tr.F (by kernel_rfl) trivial) (λ(u33a0,_) hj33 qj33=>Tr.I (λb9=>Tr.R trivial) λb9=>Tr.C ?_ λc34 hc34 qc34=>Tr.I (λb10=>Tr.R trivial) λb10=>Tr.C ?_ λc35 hc35 qc35=>Tr.F (by kernel_rfl) trivial)))
  all_goals ((try simp only[Tr.nice,iq]at*)<;>((obtain⟨⟨_,_,_,_,_,_,⟨n1,n2⟩,_,_,_,⟨m1,m2⟩,_,_,_,_,_,⟨hh,_⟩,⟨hl,he⟩,⟨hw,_⟩,_⟩,_,⟨f1,f2⟩,_⟩:=hf;have k1:0≤aQ.f (x0,1048576,()):=(by rw[←hc1];simpa using b0);have hD:=(nS x0 1048576 (by omega) (by omega) n1 n2 m1 m2 hh hl he hw k1);have hD2:=hD.2;have hR:=(MY x2 _ k1 (by omega) f1 f2 (by rw[←hc1,←hc2];simpa using b1)).2;have hR1:=hR.1;have hR2:=hR.2;grind)))⟩
noncomputable def yw:=JW st xU yL [] (ks:=[.st .door,.st .clie,.sc (.sl .mac)]) m9 rB Tryz.func9 trivial
theorem eE (n b:Int):aN.f (n,b,())=aj.f (n,b,()):=by
 simp only[PX,aN,aj,cx,aC]
 cases h:(decide (1≤b)&&decide (b≤62))with
 |false=>simp only[cond_false]
 |true=>
  have h1:1≤b∧b≤62:=by simpa using h
  rw[LA (by omega) (by omega)]
theorem oV (x:Tupl):lc.f (x,())=az.f (x,()):=by
 simp only[PX,lc,az,eE]
theorem gG (x:Opti):d9.f (x,())=aF.f (x,()):=by
 simp only[PX,d9,aF,eE,cx,aC]
theorem Qx (x:Int):y4.f (x,())=fq.f (x,()):=by
 simp only[PX,y4,fq,cx,aC]
theorem WJ:fq.f (0,())=64∧fq.f (1,())=256∧fq.f (2,())=536∧fq.f (3,())=1024∧fq.f (4,())=1300∧fq.f (5,())=1400∧fq.f (6,())=1440∧fq.f (7,())=1460:=by
 simp[PX,fq,aC]
theorem OZ (x:Int):tK.f (x,())=gV.f (x,()):=by
 obtain⟨h0,h1,h2,h3,h4,h5,h6,h7⟩:=WJ
 simp only[PX,tK,gV,kg,dD,show Int.toNat (8-0)=8 from rfl,show Int.toNat (7-0)=7 from rfl,aU,t9,kh,Qx]
 simp only[show(0:Int)+1=1 from rfl,show(1:Int)+1=2 from rfl,show(2:Int)+1=3 from rfl,show(3:Int)+1=4 from rfl,show(4:Int)+1=5 from rfl,show(5:Int)+1=6 from rfl,show(6:Int)+1=7 from rfl,
  show(7:Int)+ -1=6 from rfl,show(6:Int)+ -1=5 from rfl,show(5:Int)+ -1=4 from rfl,show(4:Int)+ -1=3 from rfl,show(3:Int)+ -1=2 from rfl,show(2:Int)+ -1=1 from rfl,h0,h1,h2,h3,h4,h5,h6,h7]
 grind [Stp.elim]
theorem m8 (x:Int):cE.f (x,())=x%4294967296:=by
 simp only[PX,cE]
 rcases Int.lt_or_le x 0 with h|h
 ·rw[(il 4294967296).2 h,dh]
  cases hd:decide (-(-x%4294967296)<0)with
  |true=>simp only[decide_eq_true_eq]at hd;simp only[cond_true];omega
  |false=>simp only[decide_eq_false_iff_not]at hd;simp only[cond_false];omega
 ·rw[(il 4294967296).1 h,dh]
  cases hd:decide (x%4294967296<0)with
  |true=>simp only[decide_eq_true_eq]at hd;omega
  |false=>rfl
theorem bH (a b:Int):bM.f (a,b,())=(a+b)%4294967296:=by
 simp only[PX,bM]
 rw[qe,dh];omega
theorem ig (a b:Int):cd.f (a,b,())=bM.f (a,b,()):=by
 rw[bH]
 simp only[PX,cd,m8,dh];omega
theorem Q5 (x y:Mac):xe.f (x,y,())=wy.f (x,y,()):=by
 simp only[PX,xe,wy,qh,mg,ga,u4,oc]
 have e1:(x.k != y.k)= !(x.k==y.k):=rfl
 have e2:(x.l != y.l)= !(x.l==y.l):=rfl
 rw[e1,e2]
 cases(x.use==y.use)<;>cases(x.k==y.k)<;>cases(x.l==y.l)<;>cases((x.rows.length:Int) != (y.rows.length:Int))<;>rfl
theorem Sq (n b:Int):jD.f (n,b,())=fv.f (n,b,()):=by
 simp only[PX,jD,fv,eE,cx,aC,i3,gt]
 cases h1:(decide (1≤b)&&decide (b≤6))with
 |false=>rfl
 |true=>
  cases h2:aj.f (n,(IntKind.wrap .i64 (8*b)),())with
  |false=>rfl
  |true=>
   have hb:0≤n∧n≤9223372036854775807:=by
    revert h2
    simp only[PX,aj,aC]
    cases(decide (1≤IntKind.wrap .i64 (8*b))&&decide (IntKind.wrap .i64 (8*b)≤62))with
    |false=>simp
    |true=>
     simp only[cond_true,Bool.and_eq_true,decide_eq_true_eq]
     generalize(IntKind.wrap .i64 (1*2 ^ (min (IntKind.wrap .i64 (8*b)).toNat 64)))=z
     rw[dh]
     omega
   have e:∀k i r,aU (λj a=>(lw j a).nice) (-1) k i (n,r)=aU (λj a=>(jb j a).nice) (-1) k i (n,r):=by
    intro k i r
    refine Cd (P:=λa=>0≤a.1∧a.1≤9223372036854775807) (λi a ha=> ?_) (λi a a' ha he=> ?_) k i (n,r) hb
    ·simp only[PX,lw,jb]
     rw[(Ac 256).1 ha.1,(il 256).1 ha.1,au (by omega) (by omega),Int.fdiv_eq_ediv_of_nonneg a.1 (by omega),rt,rt,Int.emod_emod]
    ·simp only[PX,lw]at he
     cases he
     show 0≤IntKind.wrap .i64 (a.1.tdiv 256)∧_
     rw[(Ac 256).1 ha.1,au (by omega) (by omega)]
     omega
   simp only[e]
theorem HG (x:Int):nj.f (x,())=fU.f (x,()):=by simp only[PX,nj,fU,eE]
theorem Oy (x:Tupl)(a b c:Int):tW.f (x,a,b,c,())=eV.f (x,a,b,c,()):=by simp only[PX,tW,eV,Sq,oV,eE,cx,aC]
theorem TL (x:Mac)(r:List MacRow)(j:Nat)(hj:j<r.length)(hr:x.rows=r):
  Stp.elim (γ:=Stp Unit Unit) (λ_=> .next ()) (λ_=> .out ()) (aU (λi a=>(pq (j:Int) x i a).nice) 1 (Int.toNat ((j:Int)-0)) 0 ())=
  bif ci.f (((r.take j).drop 0),(r.getD j (Ty.zero .macRow)),())then .out ()else .next ():=by
 subst hr
 let p:MacRow→Bool:=λy=>y.input==(x.rows.getD j (Ty.zero .macRow)).input
 simp only[PX,ci,ev,aX]
 rw[List.drop_zero]
 have hl:(x.rows.take j).length=j:=by rw[List.length_take];omega
 rw[bE (x.rows.take j) _ (by rw[hl];simp) (F:=λq y a=>bif p y then .out ()else .next ()) (by
  intro q y a h
  have hq:q<j:=by
   have:=(List.getElem?_eq_some_iff.1 h).1;omega
  have h2:x.rows[q]? =some y:=by rw[List.getElem?_take]at h;simpa [hq]using h
  simp only[PX,pq,aa,getD_some h2,p])]
 rw[bE (x.rows.take j) _ (by simp) (F:=λq y a=>bif p y then .out (q:Int)else .next ()) (by
  intro q y a h
  simp only[PX,fu,BB,aa,getD_some h,p])]
 rw[mL (w:=λ_ _=>()),mL (w:=λj _=>(j:Int))]
 cases h:(x.rows.take j).findIdx? p with
 |none=>simp[PX,Stp.elim]
 |some i=>
  have:=(List.findIdx?_eq_some_iff_getElem.1 h).1
  simp only[List.getElem?_eq_getElem this,Stp.elim]
  simp[PX]
theorem Qz (x:Mac):wB.f (x,())=qW.f (x,()):=by
 simp only[PX,wB,qW,jy,oM]
 have e:aU (λj a=>(tY x j a).nice) 1 (Int.toNat ((x.rows.length:Int)-0)) 0 ()=aU (λj a=>(oI x.rows x j a).nice) 1 (Int.toNat ((x.rows.length:Int)-0)) 0 ():=by
  rw[ar]
  refine Ly x.rows.length 0 () (λj a hj=> ?_)
  have:=TL x x.rows j (by omega) rfl
  simp only[PX,tY,oI,fk,aa,cx,aC]at this⊢
  rw[this]
 rw[e]
 have e1:(x.k != 0)= !(x.k==0):=rfl
 have e2:(x.l != 0)= !(x.l==0):=rfl
 have e3:decide (64<(x.rows.length:Int))= !decide ((x.rows.length:Int)≤64):=by
  rcases Int.lt_or_le 64 (x.rows.length:Int)with h|h
  ·simp[h,show¬((x.rows.length:Int)≤64) by omega]
  ·simp[h,show¬(64<(x.rows.length:Int)) by omega]
 rw[e1,e2,e3]
 generalize aU (λj a=>(oI x.rows x j a).nice) 1 (Int.toNat ((x.rows.length:Int)-0)) 0 ()=z
 cases x.use<;>cases z<;>cases(x.k==0)<;>cases(x.l==0)<;>cases decide ((x.rows.length:Int)≤64)<;>simp[PX,Stp.elim]
theorem EC (k:Keys):rL.f (k,())=fG.f (k,()):=by
 simp only[PX,rL,fG,eE,Qz,Q5,cl,aC]
 cases ht:k.two<;>simp only[PX,cond_true,cond_false,ht]<;>cases qW.f (k.now,())<;>cases qW.f (k.before,())<;>grind
theorem FC (x n:Int)(h:bits .and .u64 (IntKind.wrap .u64 n) 63=n):cK.f (x,n,())=jx.f (x,n,()):=by
 simp only[PX,cK,jx,h]
theorem GF (x:Sipr):gS.f (x,())=jt.f (x,()):=by
 simp only[PX,gS,jt,FC _ 13 (by decide+kernel),FC _ 16 (by decide+kernel),FC _ 17 (by decide+kernel),FC _ 21 (by decide+kernel),FC _ 32 (by decide+kernel)]
theorem H6 (x:Sipr)(m:Int):rF.f (x,m,())=rq.f (x,m,()):=by
 simp only[PX,rF,rq,GF]
theorem Ph (k l:Int):sM.f (k,l,())=qc.f (k,l,()):=by simp only[PX,sM,qc]
theorem SE (x:Sipr):zz.f (x,())=sx.f (x,()):=by
 simp only[PX,zz,sx,jX,GF]
 have e:(λ(j:Int) a=>(rb j a).nice)=λ_ a=>Stp.next (jt.f (a,())):=rfl
 rw[e]
 generalize FT.f jt=R
 rfl
theorem o8 (n:Int)(h0:0≤n)(h1:n<2 ^ 64):IntKind.u64.wrap n=n:=by rw[xc];omega
theorem XI (a b:Int)(ha:0≤a)(ha1:a<72057594037927936)(hb:0≤b)(hb1:b<256):bits .or .u64 (IntKind.wrap .u64 (a*256)) (IntKind.wrap .u64 b)=a*256+b:=by
 rw[o8 _ (by omega) (by omega),o8 _ (by omega) (by omega)]
 exact bits_join .u64 64 (by decide) o8 8 _ _ (by omega) (by omega) (by omega) (by omega) (by omega) (by omega)
def FN (g:Nat→Int):Nat→Int→Int
 |0,a=>a
 |k+1,a=>FN g k (a*256+g k)
theorem BC {g h:Nat→Int}:∀(k:Nat) (a:Int),(∀j,j<k→g j=h j)→FN g k a=FN h k a
 |0,_,_=>rfl
 |k+1,a,e=>by simp only[FN,e k (Nat.lt_succ_self _)];exact BC k _ λj hj=>e j (by omega)
theorem DI {g:Nat→Int}:∀(k:Nat) (a:Int),FN g k a=a*256 ^ k+FN g k 0
 |0,a=>by simp[FN]
 |k+1,a=>by
  simp only[FN]
  rw[DI k (a*256+g k),DI k (0*256+g k),Int.pow_succ,Int.add_mul,Int.zero_mul,Int.zero_add,Int.mul_assoc,Int.mul_comm 256 (256 ^ k),Int.add_assoc]
theorem TH (k:Nat):(1:Int)≤256 ^ k:=by
 have:=Int.pow_pos (n:=256) (m:=k) (by decide)
 omega
theorem S8 {g:Nat→Int}(hg:∀k,0≤g k∧g k≤255):∀(k:Nat),0≤FN g k 0∧FN g k 0<256 ^ k
 |0=>by simp[FN]
 |k+1=>by
  have h:=S8 hg k
  simp only[FN]
  rw[DI,Int.zero_mul,Int.zero_add,Int.pow_succ]
  have h1:=hg k
  have h2:=TH k
  have h3:0≤g k*256 ^ k:=Int.mul_nonneg h1.1 (by omega)
  have h4:g k*256 ^ k≤255*256 ^ k:=Int.mul_le_mul_of_nonneg_right h1.2 (by omega)
  omega
theorem FB {f:Int→Int→Stp Int Empty}{g:Nat→Int}(hg:∀k,0≤g k∧g k≤255)(hf:∀(k:Nat) a,f (k:Int) a= .next (bits .or .u64 (IntKind.wrap .u64 (a*256)) (IntKind.wrap .u64 (g k)))):
  ∀(k:Nat) (a:Int),0≤a→(a+1)*256 ^ k≤18446744073709551616→aU f (-1) k ((k:Int)-1) a= .next (FN g k a)
 |0,a,_,_=>rfl
 |k+1,a,h0,h1=>by
  have hp:=TH k
  rw[Int.pow_succ,Int.mul_comm (256 ^ k) 256,←Int.mul_assoc]at h1
  have h2:(a+1)*256*1≤(a+1)*256*256 ^ k:=Int.mul_le_mul_of_nonneg_left hp (by omega)
  have h3:=hg k
  simp only[aU,FN]
  rw[show((k+1:Nat):Int)-1=(k:Int) by omega,hf,XI a (g k) h0 (by omega) h3.1 (by omega)]
  simp only[Stp.elim]
  rw[show(k:Int)+ -1=(k:Int)-1 by omega]
  refine FB hg hf k _ (by omega) ?_
  have h4:(a*256+g k+1)*256 ^ k≤(a+1)*256*256 ^ k:=Int.mul_le_mul_of_nonneg_right (by omega) (by omega)
  omega
theorem wu (s:aA)(k:Nat):0≤ce s k∧ce s k≤255:=GG s k
theorem IA (s:aA)(h:s.length≤8):px.f (s,())=FN (ce s) s.length 0:=by
 simp only[PX,px,nv]
 rw[au (by omega) (by omega)]
 rw[show Int.toNat ((s.length:Int)-1-0+1)=s.length by omega]
 rw[FB (g:=ce s) (wu s) (λk a=>rfl) s.length 0 (by omega) ?_]
 ·rfl
 ·have:∀k:Nat,k≤8→(0+1:Int)*256 ^ k≤18446744073709551616:=by decide
  exact this _ h
theorem Id (l:List Int)(h:∀k,0≤l.getD k 0∧l.getD k 0≤255):pN.f (l,())=FN (λk=>l.getD k 0) 8 0:=by
 simp only[PX,pN,nH]
 rw[show Int.toNat (7-0+1)=8 from rfl,show(7:Int)=((8:Nat):Int)-1 from rfl]
 rw[FB (g:=λk=>l.getD k 0) h (λk a=>rfl) 8 0 (by omega) (by decide)]
 rfl
theorem Eh {A B W W':Type}[Inhabited W][Inhabited W']{f:A→Stp A W}{g:B→Stp B W'}{R:A→B→Prop}{Q:W→W'→Prop}{ma:A→Nat}{mb:B→Nat}
  (h:∀a b,R a b→(∃a' b',f a= .next a'∧g b= .next b'∧R a' b'∧ma a'<ma a∧mb b'<mb b)∨(∃w w',f a= .out w∧g b= .out w'∧Q w w')):
  ∀(m m':Nat) (a:A) (b:B),ma a<m→mb b<m'→R a b→Q (cz f m a) (cz g m' b)
 |0,_,_,_,h1,_,_=>absurd h1 (Nat.not_lt_zero _)
 |_+1,0,_,_,_,h2,_=>absurd h2 (Nat.not_lt_zero _)
 |m+1,m'+1,a,b,h1,h2,hr=>by
  rcases h a b hr with⟨a',b',e1,e2,hr',l1,l2⟩|⟨w,w',e1,e2,hq⟩
  ·simp only[cz,e1,e2,Stp.elim]
   exact Eh h m m' a' b' (by omega) (by omega) hr'
  ·simp only[cz,e1,e2,Stp.elim]
   exact hq
theorem T7 {g:Nat→Int}(k:Nat)(a:Int):FN g (k+1) a=FN g k (a*256+g k):=rfl
theorem TW {α:Type}{xs:List α}{j:Nat}(h:j<xs.length)(v z:α):(xs.set j v).getD j z=v:=by
 simp[List.getD,List.getElem?_set,h]
theorem vm (s:aA)(k:Nat):(lV s).getD k 0=ce s k:=by
 simp only[lV,ce,List.getD,List.getElem?_map]
 cases s[k]? <;>rfl
theorem B7 (s:aA)(n k:Nat):ce (s.drop n) k=ce s (n+k):=by
 simp only[ce,List.getD,List.getElem?_drop]
theorem Ni (s:aA)(n k:Nat)(h:k<n):ce (s.take n) k=ce s k:=by
 simp only[ce,List.getD,List.getElem?_take,if_pos h]
theorem Cn (s:aA)(k:Nat)(h:s.length≤k):ce s k=0:=by
 simp[ce,List.getD,h]
theorem Qp {g:Nat→Int}(r:Nat):∀(m:Nat),(∀j,r≤j→j<r+m→g j=0)→FN g (r+m) 0=FN g r 0
 |0,_=>rfl
 |m+1,h=>by
  rw[show r+(m+1)=(r+m)+1 from rfl]
  simp only[FN]
  rw[h (r+m) (by omega) (by omega)]
  exact Qp r m λj h1 h2=>h j h1 (by omega)
theorem Jc (k:IntKind)(a b:Int):bits .or k a b=bits .or k b a:=by
 simp only[bits,BitVec.or_comm]
def VN (x:aA)(a:Int×Sipr)(b:List Int×Sipr):Prop:=0≤a.1∧a.1≤x.length∧b.1=lV (x.drop a.1.toNat)∧a.2=b.2
theorem K7 (s:aA)(n:Nat):(lV s).drop n=lV (s.drop n):=by simp[lV]
theorem Q7 (x:aA)(hx:x.length≤4294967296)(z:Sipr):VN x (cz (λa=>(jg x (x.length:Int) a).nice) (Int.toNat ((x.length:Int)-0)+1) (0,z)) (cz (λa=>(l0 a).nice) ((lV x).length+1) (lV x,z))∧
  (x.length:Int)<(cz (λa=>(jg x (x.length:Int) a).nice) (Int.toNat ((x.length:Int)-0)+1) (0,z)).1+8:=by
  refine Eh (R:=VN x) (Q:=λw w'=>VN x w w'∧(x.length:Int)<w.1+8) (ma:=λa=>Int.toNat ((x.length:Int)-a.1)) (mb:=λb=>b.1.length) ?_ _ _ _ _ ?_ ?_ ?_
  ·intro a b hr
   obtain⟨h1,h2,h3,h4⟩:=hr
   have hb:(b.1.length:Int)=(x.length:Int)-a.1:=by rw[h3,np,List.length_drop];omega
   simp only[PX,jg,l0]
   rw[au (by omega) (by omega)]
   cases hd:decide (a.1+8≤(x.length:Int))with
   |true=>
    simp only[decide_eq_true_eq]at hd
    rw[show decide (8≤(b.1.length:Int))=true by simp only[decide_eq_true_eq];omega]
    refine .inl ⟨_,_,rfl,rfl,⟨?_, ?_, ?_, ?_⟩, ?_, ?_⟩
    ·simp only[];omega
    ·simp only[];omega
    ·simp only[]
     rw[aa,List.take_length,h3,K7,List.drop_drop,show(a.1+8).toNat=a.1.toNat+8 by omega]
    ·have e:px.f ((x.take (a.1+8).toNat).drop a.1.toNat,())=pN.f (b.1,()):=by
      have hl:((x.take (a.1+8).toNat).drop a.1.toNat).length=8:=by rw[List.length_drop,List.length_take];omega
      rw[IA _ (by omega),hl,Id _ (λk=>by rw[h3,vm];exact wu _ _)]
      refine BC 8 0 λj hj=> ?_
      rw[h3,vm,B7,B7,Ni _ _ _ (by omega)]
     simp only[e,h4,H6]
    ·simp only[];omega
    ·simp only[aa,List.take_length,List.length_drop];omega
   |false=>
    simp only[decide_eq_false_iff_not]at hd
    rw[show decide (8≤(b.1.length:Int))=false by simp only[decide_eq_false_iff_not];omega]
    exact .inr ⟨_,_,rfl,rfl,⟨h1,h2,h3,h4⟩,by show(x.length:Int)<a.1+8;omega⟩
  ·exact Nat.lt_succ_self _
  ·exact Nat.lt_succ_self _
  ·exact⟨by simp,by simp,by simp,rfl⟩
theorem Ts (x:aA)(hx:x.length≤4294967296)(p:Int)(q:List Int)(h1:0≤p)(h2:p≤x.length)(h3:q=lV (x.drop p.toNat))(h5:(x.length:Int)<p+8):
  bits .or .u64 (px.f (x.drop p.toNat,())) (IntKind.wrap .u64 ((IntKind.wrap .u64 ((x.length:Int).tmod 256))*72057594037927936))=pN.f ((q++(List.replicate 8 0).drop q.length).set 7 (IntKind.wrap .u8 (x.length:Int)),()):=by
 have hl:(x.drop p.toNat).length=x.length-p.toNat:=by simp
 have hq:q.length=x.length-p.toNat:=by rw[h3,np,hl]
 generalize hy:x.drop p.toNat=y at h3 hl
 have hy8:y.length≤7:=by omega
 rw[IA y (by omega)]
 have hb7:IntKind.u8.wrap (x.length:Int)=(x.length:Int)%256:=rt _
 have hm:IntKind.u64.wrap ((x.length:Int).tmod 256)=(x.length:Int)%256:=by
  rw[(il 256).1 (by omega),o8 _ (by omega) (by omega)]
 rw[hb7,hm]
 have hg:∀k,((q++(List.replicate 8 (0:Int)).drop q.length).set 7 ((x.length:Int)%256)).getD k 0=if k=7 then(x.length:Int)%256 else ce y k:=by
  intro k
  by_cases e:k=7
  ·subst e
   rw[if_pos rfl]
   exact TW (by simp;omega) _ _
  ·rw[if_neg e,List.getD,List.getElem?_set_ne (by omega)]
   by_cases hk:k<q.length
   ·rw[List.getElem?_append_left hk,h3,←List.getD_eq_getElem?_getD,vm]
   ·rw[List.getElem?_append_right (by omega),List.getElem?_drop,List.getElem?_replicate,Cn y k (by omega)]
    split<;>rfl
 rw[Id _ (λk=>by
  rw[hg]
  split
  ·omega
  ·exact wu _ _)]
 have hbd:=S8 (g:=ce y) (wu y) y.length
 have hp7:(256:Int) ^ y.length≤72057594037927936:=by
  have:∀k:Nat,k≤7→(256:Int) ^ k≤72057594037927936:=by decide
  exact this _ hy8
 have e1:FN (λk=>((q++(List.replicate 8 (0:Int)).drop q.length).set 7 ((x.length:Int)%256)).getD k 0) 8 0=((x.length:Int)%256)*72057594037927936+FN (ce y) y.length 0:=by
  refine(T7 7 0).trans ?_
  rw[hg 7,if_pos rfl,DI,Int.zero_mul,Int.zero_add,show(256:Int) ^ 7=72057594037927936 from rfl]
  congr 1
  rw[BC 7 0 (h:=ce y) λj hj=>by rw[hg,if_neg (by omega)]]
  have:=Qp (g:=ce y) y.length (7-y.length) λj h1 _=>Cn y j h1
  rw[show y.length+(7-y.length)=7 by omega]at this
  exact this
 rw[e1,Jc,o8 ((x.length:Int)%256*72057594037927936) (by omega) (by omega)]
 exact bits_join .u64 64 (by decide) o8 56 _ _ (by omega) (by omega) (by omega) (by omega) (by omega) (by omega)
theorem Rb (k l:Int)(x:aA)(hx:x.length≤4294967296):xa.f (k,l,x,())=mS.f (k,l,x,()):=by
 simp only[PX,xa,mS,lK,me,Ph,List.length_replicate]
 generalize qc.f (k,l,())=z
 have key:=Q7 x hx z
 generalize cz (λa=>(jg x (x.length:Int) a).nice) (Int.toNat ((x.length:Int)-0)+1) (0,z)=p at key⊢
 generalize cz (λa=>(l0 a).nice) ((lV x).length+1) (lV x,z)=q at key⊢
 obtain⟨⟨h1,h2,h3,h4⟩,h5⟩:=key
 have hq:q.1.length=x.length-p.1.toNat:=by rw[h3,np,List.length_drop]
 have ht:q.1.take 8=q.1:=List.take_of_length_le (by omega)
 obtain⟨p,pz⟩:=p
 obtain⟨q,qz⟩:=q
 simp only[PX,ht,SE,H6]at*
 rw[h4,show((x.take (x.length:Int).toNat).drop p.toNat)=x.drop p.toNat by rw[aa,List.take_length]]
 rw[Ts x hx p q h1 h2 h3 h5]
theorem Un (m:Mac)(x:aA)(hx:x.length≤4294967296):Dz.f (m,x,())=ot.f (m,x,()):=by
 simp only[PX,Dz,ot,oS,lU,Rb _ _ _ hx]
 rw[show aU (λj a=>(sA x m j a).nice) 1 (Int.toNat ((m.rows.length:Int)-0)) 0 ()=aU (λj a=>(jB x m.rows j a).nice) 1 (Int.toNat ((m.rows.length:Int)-0)) 0 () from Pz (λi a=>by
  simp only[PX,sA,jB]
  generalize(m.rows.getD i.toNat (Ty.zero .macRow))=r
  cases(r.input==x)with
  |false=>rfl
  |true=>
   simp only[cond_true]
   have h1:=il (a:=r.value) 16777216
   rcases Int.lt_or_le r.value 0 with h|h
   ·have e:=h1.2 h
    generalize r.value.tmod 16777216=t at e
    rw[au (by omega) (by omega)]
    cases hd:decide (t<0)with
    |true=>simp only[decide_eq_true_eq]at hd;simp only[cond_true];rw[(il 16777216).1 (by omega),Int.emod_eq_of_lt (by omega) (by omega)]
    |false=>simp only[decide_eq_false_iff_not]at hd;simp only[cond_false];rw[(il 16777216).1 (by omega),show t=0 by omega];rfl
   ·have e:=h1.1 h
    generalize r.value.tmod 16777216=t at e
    rw[au (by omega) (by omega)]
    cases hd:decide (t<0)with
    |true=>simp only[decide_eq_true_eq]at hd;omega
    |false=>simp only[cond_false];rw[(il 16777216).1 (by omega)];congr 1;omega) _ _ _]
theorem Jk (t:Tupl)(a b c:Int):(eV.f (t,a,b,c,())).length≤40:=(eV.c.h (t,a,b,c,()) trivial).2
theorem Fz (m:Mac)(t:Tupl)(a b c:Int):pH.f (m,t,a,b,c,())=iZ.f (m,t,a,b,c,()):=by
 simp only[PX,pH,iZ,Oy]
 rw[Un _ _ (by have:=Jk t a b c;omega)]
theorem AY (m:Mac):ju.f (m,())=m:=by simp only[PX,ju,List.nil_append]
theorem x8 (m:Mac):jq.f (m,())=m:=by simp only[PX,jq,lA]
theorem OQ (k:Keys)(e:Int):sF.f (k,e,())=mO.f (k,e,()):=by
 simp only[PX,sF,mO,AY,x8]
theorem U4 (f:Int→Unit→Stp Unit (Int⊕Unit))(g:Int→Unit→Stp Unit Int)(E:Int)(h0:0≤E)(h1:E≤4294967295)
  (hfg:∀e,E-1≤e→f e ()=Stp.elim (λ_=> .next ()) (λw=> .out (.inl w)) (g e ()))(hend:∀e,e<E-1→f e ()= .out (.inr ()))(i:Int):
  Stp.elim (λ_=>((0:Int),(0:Int),false)) (Sum.elim (λp=>(p,i,true)) (λ_=>(0,0,false))) (aU f (-1) (Int.toNat (E-0+1)) E ())=
  Stp.elim (λ_=>(0,0,false)) (λp=>(p,i,true)) (aU g (-1) (Int.toNat (E-(if 0<(IntKind.wrap .i64 (E-1))then(IntKind.wrap .i64 (E-1))else 0)+1)) E ()):=by
 rw[au (by omega) (by omega)]
 rcases(show E=0∨E=1∨2≤E by omega)with rfl|rfl|h
 ·rw[if_neg (by omega),show Int.toNat (0-0+1)=1 from rfl]
  simp only[aU,hfg 0 (by omega)]
  cases g 0 ()<;>rfl
 ·rw[if_neg (by omega),show Int.toNat (1-0+1)=2 from rfl]
  simp only[aU,hfg 1 (by omega),show(1:Int)+ -1=0 from rfl,hfg 0 (by omega)]
  cases g 1 ()with
  |out w=>rfl
  |next a=>simp only[Stp.elim];cases g 0 ()<;>rfl
 ·rw[if_pos (by omega),show Int.toNat (E-(E-1)+1)=2 by omega]
  obtain⟨m,hm⟩:∃m:Nat,Int.toNat (E-0+1)=m+3:=⟨Int.toNat (E-2),by omega⟩
  rw[hm]
  simp only[aU,hfg E (by omega),hfg (E+ -1) (by omega),hend (E+ -1+ -1) (by omega)]
  cases g E ()with
  |out w=>rfl
  |next a=>simp only[Stp.elim];cases g (E+ -1) ()<;>rfl
theorem Dn (x:Int):decide ((fU.f (x,())).2.1<0)= !aj.f (x,32,()):=by
 simp only[PX,fU,cl]
 cases hd:(decide (0≤x)&&decide (x≤4294967295))with
 |false=>rfl
 |true=>
  simp only[Bool.and_eq_true,decide_eq_true_eq]at hd
  simp only[Bool.not_true,cond_false]
  rw[(Ac 16777216).1 hd.1,au (by omega) (by omega),(il 8).1 (by omega)]
  simp only[decide_eq_false_iff_not]
  omega
theorem zU (k:Keys)(h:fG.f (k,())=true):0≤k.epoch∧k.epoch≤4294967295:=by
 simp only[PX,fG,aC]at h
 revert h
 cases k.two<;>simp only[PX,cond_true,cond_false]<;>grind
theorem GV (k:Keys)(t:Tupl)(a b:Int):nD.f (k,t,a,b,())=cH.f (k,t,a,b,()):=by
 simp only[PX,nD,cH,ib,hY,EC,HG,Dn]
 cases hk:fG.f (k,())with
 |false=>rfl
 |true=>
  simp only[Bool.not_true,cond_false]
  cases aj.f (b,32,())with
  |false=>rfl
  |true=>
   simp only[Bool.not_true,cond_false]
   have he:=zU k hk
   refine U4 _ _ k.epoch he.1 he.2 (λe h=> ?_) (λe h=> ?_) _
   ·simp only[PX,kK,pr]
    rw[au (by omega) (by omega)]
    simp only[OQ,Fz,decide_eq_true h,cond_true]
    cases(mO.f (k,e,())).2 with
    |false=>rfl
    |true=>
     simp only[cond_true]
     cases(iZ.f ((mO.f (k,e,())).1,t,a,e,(fU.f (b,())).2.1,())==b)<;>rfl
   ·simp only[PX,kK]
    rw[au (by omega) (by omega)]
    simp only[decide_eq_false (show¬(k.epoch-1≤e) by omega),cond_false]
theorem vr (x:Segm):k8.f (x,())=ae.f (x,()):=by simp only[PX,k8,ae,eE,gG]
theorem Tm (x:Int):fL.f (0,x,())=(if 0<x then x else 0):=by
 rw[pf];grind
theorem Pu (d:Door)(t:Tupl)(g:Segm):tV.f (d,t,g,())=m5.f (d,t,g,()):=by
 simp only[PX,tV,m5,xd]
 cases(g.opts.mss==0)<;>simp only[PX,cond_true,cond_false]<;>simp only[OZ,Fz,Tm]
theorem R6 (a b:Int)(c:Bool):wP.f (a,b,c,())=mU.f (a,b,c,()):=by
 simp only[PX,wP,mU,aC,qe]
 cases c<;>simp only[PX,cond_true,cond_false]<;>simp only[cx,m8]<;>cases(decide (0≤b)&&decide (b≤14))<;>simp only[cond_true,cond_false,Bool.not_true,Bool.not_false,dh]<;>omega
theorem C1 (o:Opti)(c:Int):kv.f (o,c,())=fy.f (o,c,()):=by
 simp only[PX,kv,fy,cx,aC]
 cases(decide (0≤o.scale)&&decide (o.scale≤14))<;>simp only[PX,cond_true,cond_false]<;>simp only[R6]
theorem TY (d:Door)(t:Tupl)(g:Segm):z9.f (d,t,g,())=ec.f (d,t,g,()):=by
 simp only[PX,z9,ec,Pu,ig,C1]
theorem AZ {A W:Type}{f:Int→A→Stp A W}{st:Int}:∀(k:Nat) (i:Int) (a:A) (w:W),aU f st k i a= .out w→∃(n:Nat) (b:A),n<k∧f (i+st*(n:Int)) b= .out w
 |0,_,_,_,h=>by cases h
 |k+1,i,a,w,h=>by
  simp only[aU]at h
  cases hf:f i a with
  |out w'=>rw[hf]at h;simp only[Stp.elim]at h;cases h;exact⟨0,a,by omega,by simpa using hf⟩
  |next a'=>
   rw[hf]at h
   obtain⟨n,b,h1,h2⟩:=AZ k (i+st) a' w h
   exact⟨n+1,b,by omega,by rw[show i+st*((n+1:Nat):Int)=i+st+st*(n:Int) by rw[Int.natCast_add,Int.mul_add];omega];exact h2⟩
theorem F4 {A W:Type}{f:Int→A→Stp A W}{st:Int}{P:A→Prop}(hp:∀i a a',P a→f i a= .next a'→P a'):∀(k:Nat) (i:Int) (a a':A),P a→aU f st k i a= .next a'→P a'
 |0,_,_,_,ha,h=>by cases h;exact ha
 |k+1,i,a,a',ha,h=>by
  simp only[aU]at h
  cases hf:f i a with
  |out w'=>rw[hf]at h;cases h
  |next a1=>rw[hf]at h;exact F4 hp k _ a1 a' (hp i a a1 ha hf) h
theorem Rf (x:Sipr):0≤sx.f (x,()):=by
 simp only[PX,sx,jX]
 cases aU (λj a=>(rb j a).nice) 1 (Int.toNat (4-0)) 0 ({x with c:=(bits .xor .u64 x.c 255)}:Sipr)with
 |next a=>exact(Ap .xor .u64 _ _ (.inr (.inr (.inl rfl)))).1
 |out e=>exact Empty.elim e
theorem Oi (k l:Int)(x:aA):0≤mS.f (k,l,x,()):=by
 simp only[PX,mS]
 exact Rf _
theorem Xk (s:Int)(h:0≤s):0≤IntKind.wrap .i64 (s.tmod 16777216)∧IntKind.wrap .i64 (s.tmod 16777216)≤16777215:=by
 have h1:=Jj (b:=16777216) h
 have h2:=DL (a:=s) (show(0:Int)<16777216 by omega)
 rw[au (by omega) (by omega)];omega
theorem Xa (r:Int):0≤(IntKind.wrap .i64 (r.tmod 16777216+16777216)).tmod 16777216∧(IntKind.wrap .i64 (r.tmod 16777216+16777216)).tmod 16777216≤16777215:=by
 have h1: -16777216<r.tmod 16777216:=Int.lt_tmod_of_pos _ (by omega)
 have h2:=DL (a:=r) (show(0:Int)<16777216 by omega)
 rw[au (by omega) (by omega)]
 have h3:=Jj (a:=r.tmod 16777216+16777216) (b:=16777216) (by omega)
 have h4:=DL (a:=r.tmod 16777216+16777216) (show(0:Int)<16777216 by omega)
 omega
theorem SB (m:Mac)(x:aA)(k:Nat)(i:Int)(w:Int)(hf:aU (λj a=>(jB x m.rows j a).nice) 1 k i ()= .out w):0≤w∧w≤16777215:=by
 obtain⟨n,b,_,h⟩:=AZ _ _ _ _ hf
 simp only[PX,jB]at h
 revert h
 generalize(m.rows.getD (i+1*(n:Int)).toNat (Ty.zero .macRow))=r
 cases(r.input==x)with
 |false=>simp only[cond_false];intro h;cases h
 |true=>simp only[cond_true];intro h;injection h with h;rw[←h];exact Xa r.value
theorem TD (m:Mac)(x:aA):ot.f (m,x,())=bif !m.use then IntKind.wrap .i64 ((mS.f (m.k,m.l,x,())).tmod 16777216)else Stp.elim (λ_=>0) (λp=>p) (aU (λj a=>(jB x m.rows j a).nice) 1 (Int.toNat ((m.rows.length:Int)-0)) 0 ()):=by
 simp only[PX,ot,lU]
theorem W0 (u:Bool)(s:Int)(z:Stp Unit Int)(hs:0≤s)(hk:∀w,z= .out w→0≤w∧w≤16777215):
  0≤(bif !u then IntKind.wrap .i64 (s.tmod 16777216)else Stp.elim (λ_=>0) (λp=>p) z)∧(bif !u then IntKind.wrap .i64 (s.tmod 16777216)else Stp.elim (λ_=>0) (λp=>p) z)≤16777215:=by
 cases u with
 |false=>simp only[Bool.not_false,cond_true];exact Xk s hs
 |true=>
  simp only[Bool.not_true,cond_false]
  cases z with
  |next a=>simp only[Stp.elim];omega
  |out w=>exact hk w rfl
theorem Il (m:Mac)(x:aA):0≤ot.f (m,x,())∧ot.f (m,x,())≤16777215:=by
 rw[TD]
 exact W0 m.use _ _ (Oi m.k m.l x) (SB m x (Int.toNat ((m.rows.length:Int)-0)) 0)
theorem PW (n:Int)(h:aj.f (n,32,())=true):(fv.f (n,4,())).length=4:=by
 simp only[PX,fv,aC,gt,show IntKind.wrap .i64 (8*4)=32 from rfl,h,show(decide ((1:Int)≤4)&&decide ((4:Int)≤6))=true from rfl,Bool.not_true,cond_false,show IntKind.wrap .i64 (4-1)=3 from rfl,show Int.toNat (3-0+1)=4 from rfl,show Int.toNat 4=4 from rfl]
 cases hf:aU (λj a=>(jb j a).nice) (-1) 4 3 (n,List.replicate 4 0)with
 |out e=>exact Empty.elim e
 |next a=>
  have:=F4 (P:=λa:Int×List Int=>a.2.length=4) (λi a a' ha h=>by
   simp only[PX,jb]at h
   cases h
   simpa using ha) _ _ _ _ (by simp) hf
  simp only[PX,Stp.elim,a9]
  exact this
theorem O9 (t:Tupl)(h:az.f (t,())=true):(0≤t.ip∧t.ip≤4294967295)∧(0≤t.port∧t.port≤65535)∧(0≤t.my∧t.my≤65535):=by
 simp only[PX,az,cl,eO]at h
 revert h
 cases h1:(decide (0≤t.ip)&&decide (t.ip≤4294967295))<;>cases h2:(decide (0≤t.port)&&decide (t.port≤65535))<;>simp only[cond_true,cond_false,Bool.and_eq_true,decide_eq_true_eq]at* <;>simp_all
theorem Nb (t:Tupl)(seq e i:Int)(ht:az.f (t,())=true)(hs:0≤seq∧seq≤4294967295)(he:0≤e∧e≤4294967295)(hi:0≤i∧i≤7):(eV.f (t,seq,e,i,())==[])=false:=by
 have h1:=PW t.ip (by rw[cl];have:=(O9 t ht).1;simp[this])
 simp only[PX,eV,ht,cl,aC,decide_eq_true hs.1,decide_eq_true hs.2,decide_eq_true he.1,decide_eq_true he.2,decide_eq_true hi.1,decide_eq_true hi.2,Bool.and_self,Bool.not_true,cond_false]
 generalize fv.f (t.ip,4,())=a at*
 match a,h1 with
 |x::r,_=>simp
theorem N0 (m:Mac)(t:Tupl)(seq e i:Int)(ht:az.f (t,())=true)(hs:0≤seq∧seq≤4294967295)(he:0≤e∧e≤4294967295)(hi:0≤i∧i≤7):
  iZ.f (m,t,seq,e,i,())=(e%32)*134217728+i*16777216+ot.f (m,eV.f (t,seq,e,i,()),()):=by
 simp only[PX,iZ,Nb t seq e i ht hs he hi,cond_false]
 have h:=Il m (eV.f (t,seq,e,i,()))
 rw[(il 32).1 he.1,au (m:=e%32*134217728) (by omega) (by omega),au (m:=i*16777216) (by omega) (by omega),au (m:=e%32*134217728+i*16777216) (by omega) (by omega),au (by omega) (by omega)]
theorem Jl (x:Int):0≤gV.f (x,())∧gV.f (x,())≤7:=by
 simp only[PX,gV,dD]
 cases hf:aU (λj a=>(kh x j a).nice) (-1) (Int.toNat (7-0)) 7 ()with
 |next a=>simp[PX,Stp.elim]
 |out w=>
  obtain⟨n,b,hn,h⟩:=AZ _ _ _ _ hf
  simp only[PX,kh]at h
  simp only[PX,Stp.elim]
  rw[show Int.toNat (7-0)=7 from rfl]at hn
  revert h
  cases decide (fq.f (7+ -1*(n:Int),())≤x)with
  |false=>simp only[cond_false];intro h;cases h
  |true=>simp only[cond_true];intro h;cases h;omega
theorem B0 (o:Opti)(c:Int)(ho:d9.f (o,())=true):d9.f (fy.f (o,c,()),())=true:=by
 have hv:∀a b:Int,∀s:Bool,0≤mU.f (a,b,s,())∧mU.f (a,b,s,())≤4294967295:=by
  intro a b s
  simp only[PX,mU,qe]
  cases s<;>simp only[cond_true,cond_false]<;>cases bo.f (b,0,14,())<;>simp only[Bool.not_true,Bool.not_false,cond_true,cond_false]<;>omega
 simp only[PX,d9,cx,NG,Mw]at ho⊢
 simp only[PX,fy,aC]
 have h1:=hv c o.scale o.sack
 cases hst:o.stamp with
 |false=>simp[PX]
 |true=>
  simp only[hst,Bool.not_true,cond_false]at ho⊢
  revert ho
  cases(decide (0≤o.mss)&&decide (o.mss≤65535))<;>cases(decide (-1≤o.scale)&&decide (o.scale≤14))<;>cases hval:(decide (0≤o.val)&&decide (o.val≤4294967295))<;>simp only[cond_true,cond_false]<;>intro ho
  all_goals first|(exfalso;exact Bool.noConfusion ho)|skip
  cases(decide (0≤o.scale)&&decide (o.scale≤14))<;>simp only[PX,cond_true,cond_false]<;>simp only[decide_eq_true h1.1,decide_eq_true h1.2,ho,hval,Bool.and_self,cond_true]<;>rfl
def jJ {T:Type}(p:T→Bool)(xs:List T):Int:=match xs.findIdx? p with|none=> -1|some i=>(i:Int)
theorem mR {T:Type}(p:T→Bool)(xs:List T){f:Int→Unit→Stp Unit Int}(h:∀(j:Nat) x a,xs[j]? =some x→f j a=bif p x then .out (j:Int)else .next ()):
  aU f 1 (Int.toNat ((xs.length:Int)-0)) 0 ()=match xs.findIdx? p with|none=> .next ()|some i=> .out (i:Int):=by
 rw[ar,bE xs _ rfl h,mL (w:=λj _=>(j:Int))]
 cases hf:xs.findIdx? p with
 |none=>rfl
 |some i=>
  obtain⟨h1,_,_⟩:=List.findIdx?_eq_some_iff_getElem.1 hf
  simp only[List.getElem?_eq_getElem h1,Nat.zero_add]
theorem qM {T:Type}(p:T→Bool)(xs:List T):decide (0≤jJ p xs)=xs.any p:=by
 unfold jJ
 cases h:xs.findIdx? p with
 |none=>
  rw[List.findIdx?_eq_none_iff]at h
  symm
  show xs.any p=false
  rw[List.any_eq_false]
  intro x hx;simp[h x hx]
 |some i=>
  obtain⟨h1,h2,_⟩:=List.findIdx?_eq_some_iff_getElem.1 h
  have:xs.any p=true:=by rw[List.any_eq_true];exact⟨xs[i],List.getElem_mem h1,h2⟩
  rw[this];simp
theorem U5 {T:Type}(p:T→Bool)(xs:List T):decide (jJ p xs<0)= !xs.any p:=by
 rw[←qM]
 by_cases h:0≤jJ p xs
 ·rw[decide_eq_true h,decide_eq_false (by omega)];rfl
 ·rw[decide_eq_false h,decide_eq_true (by omega)];rfl
theorem zO {T:Type}(p:T→Bool)(xs:List T)(j:Nat)(x:T)(hx:xs[j]? =some x)(hp:p x=true):(jJ p xs != (j:Int))=(xs.take j).any p:=by
 obtain⟨hj,rfl⟩:=List.getElem?_eq_some_iff.1 hx
 unfold jJ
 cases h:xs.findIdx? p with
 |none=>
  rw[List.findIdx?_eq_none_iff]at h
  have:=h _ (List.getElem_mem hj)
  rw[hp]at this;cases this
 |some i=>
  obtain⟨h1,h2,h3⟩:=List.findIdx?_eq_some_iff_getElem.1 h
  simp only[]
  rw[Bool.eq_iff_iff]
  simp only[bne_iff_ne,ne_eq,List.any_eq_true]
  constructor
  ·intro hne
   have hij:i<j:=by
    rcases Nat.lt_or_ge i j with h4|h4
    ·exact h4
    ·have h5:j<i:=by omega
     have:=h3 j h5
     simp[hp]at this
   refine⟨xs[i], ?_,h2⟩
   rw[List.mem_take_iff_getElem]
   exact⟨i,by omega,rfl⟩
  ·rintro⟨y,hy,hpy⟩ he
   rw[List.mem_take_iff_getElem]at hy
   obtain⟨k,hk,rfl⟩:=hy
   have:k<i:=by omega
   have:=h3 k this
   simp[hpy]at this
def kI (t y:Tupl):Bool:=(y.ip==t.ip)&&((y.port==t.port)&&((y.my==t.my)&&true))
theorem vp (t:Tupl):kI t t=true:=by simp[kI]
theorem pV (xs:List Half)(t:Tupl):hZ.f (xs,t,())=jJ (λh=>kI t h.tuple) xs:=by
 simp only[PX,hZ,kp]
 rw[mR (λh:Half=>kI t h.tuple) xs (λj x a h=>by
  simp only[PX,uj,aa,getD_some h,kI])]
 unfold jJ
 cases xs.findIdx? (λh=>kI t h.tuple)<;>rfl
theorem gu (xs:List Half)(t:Tupl):aJ.f (xs,t,())=jJ (λh=>kI t h.tuple) xs:=by
 simp only[PX,aJ,dS,aV]
 rw[mR (λh:Half=>kI t h.tuple) xs (λj x a h=>by
  simp only[PX,eY,tq,aa,getD_some h,kI])]
 unfold jJ
 cases xs.findIdx? (λh=>kI t h.tuple)<;>rfl
theorem tJ (xs:List Half)(t:Tupl):hZ.f (xs,t,())=aJ.f (xs,t,()):=by rw[pV,gu]
theorem GH (x:Tabl)(t:Tupl):eA.f (x,t,())=jJ (λh=>kI t h.tuple) x.conns:=by
 simp only[PX,eA,ka]
 rw[mR (λh:Conn=>kI t h.tuple) x.conns (λj x a h=>by
  simp only[PX,ut,aa,getD_some h,kI])]
 unfold jJ
 cases x.conns.findIdx? (λh=>kI t h.tuple)<;>rfl
theorem fg (x:Tabl)(t:Tupl):aw.f (x,t,())=jJ (λh=>kI t h.tuple) x.conns:=by
 simp only[PX,aw,dX,aW]
 rw[mR (λh:Conn=>kI t h.tuple) x.conns (λj x a h=>by
  simp only[PX,eU,tM,aa,getD_some h,kI])]
 unfold jJ
 cases x.conns.findIdx? (λh=>kI t h.tuple)<;>rfl
theorem ji (x:Tabl)(t:Tupl):eA.f (x,t,())=aw.f (x,t,()):=by rw[GH,fg]
theorem pg (x:Recv):jp.f (x,())=bQ.f (x,()):=by
 simp only[PX,jp,bQ,Tm]
theorem Lq (x:Recv)(h:(x.data.length:Int)≤32):bQ.f (x,())≤32:=by
 simp only[PX,bQ]
 cases x.done with
 |true=>simp only[cond_true];omega
 |false=>
  simp only[cond_false]
  rw[au (by omega) (by omega)]
  split<;>omega
theorem sG (x:Sndr):fT.f (x,())=bp.f (x,()):=by
 simp only[PX,fT,bp,eE,cx,aC]
def eh (L:Int):Int→List Piec→Option Int
 |a,[]=>some a
 |a,p::r=>bif (p.text==[])||decide (p.off≤a)||decide (L<p.off+(p.text.length:Int))then none else eh L (p.off+(p.text.length:Int)) r
theorem MH (L:Int):∀(r:List Piec) (a b:Int),eh L a r=some b→a≤b∧(a≤L→b≤L)
 |[],a,b,h=>by cases h;exact⟨Int.le_refl _,λh=>h⟩
 |p::r,a,b,h=>by
  simp only[eh]at h
  cases hc:((p.text==[])||decide (p.off≤a)||decide (L<p.off+(p.text.length:Int)))with
  |true=>rw[hc]at h;cases h
  |false=>
   rw[hc]at h
   simp only[Bool.or_eq_false_iff,decide_eq_false_iff_not]at hc
   have:=MH L r _ b h
   omega
theorem IK (L M:Int)(hLM:L≤M):∀(r:List Piec) (a:Int),a≤L→eh L a r=(match eh M a r with|some b=>bif decide (b≤L)then some b else none|none=>none)
 |[],a,h=>by simp only[eh,decide_eq_true h,cond_true]
 |p::r,a,h=>by
  simp only[eh]
  cases h1:((p.text==[])||decide (p.off≤a))with
  |true=>simp only[Bool.true_or,cond_true]
  |false=>
   simp only[Bool.false_or]
   by_cases h2:L<p.off+(p.text.length:Int)
   ·rw[decide_eq_true h2]
    simp only[cond_true]
    by_cases h3:M<p.off+(p.text.length:Int)
    ·rw[decide_eq_true h3];rfl
    ·rw[decide_eq_false h3]
     simp only[cond_false]
     cases hw:eh M (p.off+(p.text.length:Int)) r with
     |none=>rfl
     |some b=>
      have:=(MH M r _ b hw).1
      simp only[]
      rw[decide_eq_false (by omega)]
      rfl
   ·rw[decide_eq_false h2,decide_eq_false (show¬M<p.off+(p.text.length:Int) by omega)]
    simp only[cond_false]
    exact IK L M hLM r _ (by omega)
def bJ (xs:List Piec):Prop:=∀y∈xs,y.text.length≤4611686018427387904
theorem bJ.getD {xs:List Piec}(h:bJ xs)(i:Nat):(xs.getD i (Ty.zero .piec)).text.length≤4611686018427387904:=Lm (p:=λy:Piec=>y.text.length≤4611686018427387904) (by decide+kernel) h i
theorem Lh {s:aA}(h:(s==[])=false):0<s.length:=by
 cases s with
 |nil=>cases h
 |cons=>simp
theorem yq {W:Type}{F:Nat→Piec→Int→Stp Int W}{L:Int}{w:W}:∀(r:List Piec) (j:Nat) (a:Int),0≤a→a≤32→L≤32→(∀p∈r,∀j a,0≤a→a≤32→(∃w,(p.text==[]||decide (p.off≤a)||decide (L<p.off+(p.text.length:Int)))=true∧F j p a= .out w)∨((p.text==[]||decide (p.off≤a)||decide (L<p.off+(p.text.length:Int)))=false∧F j p a= .next (p.off+(p.text.length:Int))))→
  (match eh L a r with|some b=>eJ F j r a= .next b|none=>∃w,eJ F j r a= .out w)
 |[],j,a,_,_,_,_=>rfl
 |p::r,j,a,h0,h1,hL,hF=>by
  rcases hF p List.mem_cons_self j a h0 h1 with⟨w,hc,hf⟩|⟨hc,hf⟩
  ·simp only[eh,hc,cond_true,eJ,hf,Stp.elim]
   exact⟨w,rfl⟩
  ·simp only[eh,hc,cond_false,eJ,hf,Stp.elim]
   simp only[Bool.or_eq_false_iff,decide_eq_false_iff_not]at hc
   exact yq (w:=w) r (j+1) _ (by omega) (by omega) hL λq hq=>hF q (List.mem_cons_of_mem _ hq)
theorem VJ (x:Recv)(L:Int)(hL:L≤32)(hs:bJ x.held):match eh L 0 x.held with|some b=>aU (λj a=>(ek L x j a).nice) 1 (Int.toNat ((x.held.length:Int)-0)) 0 0= .next b|none=>∃w,aU (λj a=>(ek L x j a).nice) 1 (Int.toNat ((x.held.length:Int)-0)) 0 0= .out w:=by
 rw[ar,bE x.held _ rfl (F:=λj p a=>(ek L {x with held:=[p]} 0 a).nice) (by
  intro j p a h
  simp only[PX,ek,aa,getD_some h]
  rfl)]
 refine yq (w:=(0:Int)) _ _ _ (by omega) (by omega) hL λp hp j a h0 h1=> ?_
 have hl:=hs p hp
 simp only[PX,ek,show Int.toNat 0=0 from rfl,List.getD_cons_zero]
 cases h2:(p.text==[])with
 |true=>exact .inl ⟨_,rfl,rfl⟩
 |false=>
  have hp:=Lh h2
  cases h3:decide (p.off≤a)with
  |true=>exact .inl ⟨_,rfl,rfl⟩
  |false=>
   simp only[decide_eq_false_iff_not]at h3
   simp only[cond_false,Bool.false_or]
   by_cases h4:L<p.off
   ·refine .inl ⟨a,decide_eq_true (by omega), ?_⟩
    rw[decide_eq_true h4];rfl
   ·rw[decide_eq_false h4,au (by omega) (by omega)]
    simp only[cond_false]
    by_cases h5:L<p.off+(p.text.length:Int)
    ·rw[decide_eq_true h5];exact .inl ⟨_,rfl,rfl⟩
    ·rw[decide_eq_false h5];exact .inr ⟨rfl,rfl⟩
theorem PU (x:Recv)(L:Int)(hL0: -9223372036854775808≤L-4611686018427387904)(hL:L≤32)(hs:bJ x.held):match eh L 0 x.held with|some b=>aU (λj a=>(dk L x.held j a).nice) 1 (Int.toNat ((x.held.length:Int)-0)) 0 0= .next b|none=>∃w,aU (λj a=>(dk L x.held j a).nice) 1 (Int.toNat ((x.held.length:Int)-0)) 0 0= .out w:=by
 rw[ar,bE x.held _ rfl (F:=λj p a=>(dk L [p] 0 a).nice) (by
  intro j p a h
  simp only[PX,dk,aa,getD_some h]
  rfl)]
 refine yq (w:=()) _ _ _ (by omega) (by omega) hL λp hp j a h0 h1=> ?_
 have hl:=hs p hp
 simp only[PX,dk,show Int.toNat 0=0 from rfl,List.getD_cons_zero]
 cases h2:(p.text==[])with
 |true=>exact .inl ⟨_,rfl,rfl⟩
 |false=>
  have hp:=Lh h2
  cases h3:decide (p.off≤a)with
  |true=>exact .inl ⟨_,rfl,rfl⟩
  |false=>
   simp only[decide_eq_false_iff_not]at h3
   simp only[cond_false,Bool.false_or]
   rw[au (m:=L-(p.text.length:Int)) (by omega) (by omega)]
   by_cases h5:L<p.off+(p.text.length:Int)
   ·rw[decide_eq_true h5,decide_eq_true (by omega)];exact .inl ⟨_,rfl,rfl⟩
   ·rw[decide_eq_false h5,decide_eq_false (by omega),au (by omega) (by omega)];exact .inr ⟨rfl,rfl⟩
theorem zG (x:Recv)(hs:bJ x.held):lY.f (x,())=br.f (x,()):=by
 simp only[PX,lY,br,fJ,eq,eE,cx,pg]
 cases aj.f (x.next,32,())with
 |false=>rfl
 |true=>
  by_cases hd:32<(x.data.length:Int)
  ·rw[decide_eq_true hd];rfl
  ·rw[decide_eq_false hd]
   have hw:=Lq x (by omega)
   simp only[Bool.not_true,cond_false]
   cases decide (3<(x.held.length:Int))with
   |true=>rfl
   |false=>
    simp only[cond_false]
    rw[aC]
    by_cases hf: -1≤x.fin∧x.fin≤bQ.f (x,())
    ·rw[decide_eq_true hf.1,decide_eq_true hf.2]
     simp only[Bool.and_self,Bool.not_true,cond_false]
     cases h0:(x.fin==0)with
     |true=>rfl
     |false=>
      simp only[cond_false]
      have h0:x.fin≠0:=by simpa using h0
      have k1:=VJ x (bQ.f (x,())) hw hs
      by_cases h1:x.fin= -1
      ·have k2:=PU x (bQ.f (x,())) (by omega) hw hs
       rw[show(x.fin != -1)=false by simp[h1],show decide (x.fin<0)=true from decide_eq_true (by omega)]
       simp only[cond_true,cond_false]
       cases hp:eh (bQ.f (x,())) 0 x.held with
       |some b=>rw[hp]at k1 k2;simp only[]at k1 k2;rw[k1,k2];rfl
       |none=>rw[hp]at k1 k2;obtain⟨w1,k1⟩:=k1;obtain⟨w2,k2⟩:=k2;rw[k1,k2];rfl
      ·have k2:=PU x x.fin (by omega) (by omega) hs
       rw[show(x.fin != -1)=true by simp[h1],show decide (x.fin<0)=false from decide_eq_false (by omega)]
       simp only[cond_true,cond_false]
       rw[IK x.fin (bQ.f (x,())) (by omega) x.held 0 (by omega)]at k2
       cases hp:eh (bQ.f (x,())) 0 x.held with
       |none=>rw[hp]at k1 k2;obtain⟨w1,k1⟩:=k1;obtain⟨w2,k2⟩:=k2;rw[k1,k2];rfl
       |some b=>
        rw[hp]at k1 k2
        simp only[]at k1 k2
        rw[k1]
        by_cases hb:b≤x.fin
        ·rw[decide_eq_true hb]at k2
         simp only[cond_true]at k2
         rw[k2];simp only[Stp.elim,decide_eq_true hb,cond_true]
        ·rw[decide_eq_false hb]at k2
         obtain⟨w2,k2⟩:=k2
         rw[k2];simp only[Stp.elim,decide_eq_false hb,cond_false]
    ·have:(decide (-1≤x.fin)&&decide (x.fin≤bQ.f (x,())))=false:=by
      rw[Bool.and_eq_false_iff];simp only[decide_eq_false_iff_not];omega
     rw[this];rfl
theorem Af (x:Conn)(hs:bJ x.r.held):pd.f (x,())=bG.f (x,()):=by
 simp only[PX,pd,bG,D2,oV,sG,zG x.r hs,gG,cx,aC]
 cases az.f (x.tuple,())with
 |false=>rfl
 |true=>
 cases bp.f (x.s,())with
 |false=>rfl
 |true=>
 cases br.f (x.r,())with
 |false=>rfl
 |true=>
 cases aF.f (x.opts,())with
 |false=>rfl
 |true=>
 simp only[Bool.not_true,cond_false]
 have hm:(bif !(decide (0≤x.window)&&decide (x.window≤x.most))then true else decide (1073725440<x.most))=(bif !(decide (0≤x.most)&&decide (x.most≤1073725440))then true else !(decide (0≤x.window)&&decide (x.window≤x.most))):=by
  rw[Bool.eq_iff_iff]
  by_cases h1:0≤x.window<;>by_cases h2:x.window≤x.most<;>by_cases h3:1073725440<x.most<;>by_cases h4:0≤x.most<;>by_cases h5:x.most≤1073725440<;>simp[h1,h2,h3,h4,h5]<;>omega
 have ej:∀b:Bool,(bif b then(false,(4:Int),x,())else(false,3,x,()))=(false,(bif b then 4 else 3),x,()):=λb=>by cases b<;>rfl
 have et:∀b:Bool,decide (x.timer≤bif b then 4 else 3)=bif b then decide (x.timer≤4)else decide (x.timer≤3):=λb=>by cases b<;>rfl
 simp only[ej,et]
 revert hm
 generalize(decide (0≤x.window)&&decide (x.window≤x.most))=W
 generalize decide (1073725440<x.most)=M
 generalize(decide (0≤x.most)&&decide (x.most≤1073725440))=N
 generalize(decide (0≤x.tries)&&decide (x.tries≤3))=T
 generalize decide (0≤x.timer)=T0
 generalize decide (x.timer≤4)=T4
 generalize decide (x.timer≤3)=T3
 generalize x.s.fin=sf
 generalize x.s.done=sd
 generalize x.r.done=rd
 generalize x.state=k
 have hk:k=1∨k=2∨k=3∨k=4∨k=5∨k=6∨k=7∨k=8∨(decide (1≤k)&&decide (k≤8))=false:=by
  simp only[Bool.and_eq_false_iff,decide_eq_false_iff_not];omega
 rcases hk with rfl|rfl|rfl|rfl|rfl|rfl|rfl|rfl|hk
 iterate 8 (revert W M N T T0 T4 T3 sf sd rd;decide+kernel)
 intro _;simp only[hk];rfl
theorem Oh (x:Limi):sQ.f (x,())=ff.f (x,()):=by
 simp only[PX,sQ,ff,cx,aC]
theorem A0 {T V W:Type}(xs:List T){f:Int→Unit→Stp Unit V}{g:Int→Unit→Stp Unit W}{k:Nat}(hk:k=xs.length)(h:∀(j:Nat) x,xs[j]? =some x→(∃v w,f j ()= .out v∧g j ()= .out w)∨(f j ()= .next ()∧g j ()= .next ())):
  (∃v w,aU f 1 k 0 ()= .out v∧aU g 1 k 0 ()= .out w)∨(aU f 1 k 0 ()= .next ()∧aU g 1 k 0 ()= .next ()):=by
 subst hk
 have:∀(n i:Nat),i+n=xs.length→(∃v w,aU f 1 n (i:Int) ()= .out v∧aU g 1 n (i:Int) ()= .out w)∨(aU f 1 n (i:Int) ()= .next ()∧aU g 1 n (i:Int) ()= .next ()):=by
  intro n
  induction n with
  |zero=>intro i _;exact .inr ⟨rfl,rfl⟩
  |succ n ih=>
   intro i hi
   rcases h i xs[i] (List.getElem?_eq_getElem (by omega))with⟨v,w,h1,h2⟩|⟨h1,h2⟩
   ·exact .inl ⟨v,w,by simp only[aU,h1,Stp.elim],by simp only[aU,h2,Stp.elim]⟩
   ·simp only[aU,h1,h2,Stp.elim]
    have:=ih (i+1) (by omega)
    rwa [show((i+1:Nat):Int)=(i:Int)+1 by omega]at this
 exact this xs.length 0 (by omega)
theorem Jv (xs:List Tupl)(t:Tupl):tE.f (xs,t,())=xs.any (kI t):=by
 simp only[PX,tE,ki]
 rw[ar,bE xs _ rfl (F:=λj y a=>bif kI t y then .out ()else .next ()) (by
  intro j y a h
  simp only[PX,uE,aa,getD_some h,kI])]
 rw[mL (p:=kI t) (w:=λ_ _=>())]
 cases h:xs.findIdx? (kI t)with
 |none=>
  rw[List.findIdx?_eq_none_iff]at h
  simp only[Stp.elim]
  symm
  rw[List.any_eq_false]
  intro x hx;simp[h x hx]
 |some i=>
  obtain⟨h1,h2,_⟩:=List.findIdx?_eq_some_iff_getElem.1 h
  simp only[List.getElem?_eq_getElem h1,Stp.elim]
  symm
  rw[List.any_eq_true];exact⟨xs[i],List.getElem_mem h1,h2⟩
theorem uq (xs:List Tupl)(t:Tupl):nf.f (xs,t,())=jJ (kI t) xs:=by
 have e:∀a b:Int,(a==b)=(b==a):=λa b=>by rw[Bool.eq_iff_iff];simp only[beq_iff_eq];exact eq_comm
 simp only[PX,nf,gO]
 rw[mR (kI t) xs (λj x a h=>by
  simp only[PX,pM,aa,getD_some h,kI,e t.ip,e t.port,e t.my])]
 unfold jJ
 cases xs.findIdx? (kI t)<;>rfl
theorem BZ {T:Type}{xs:List T}{j:Nat}{x:T}(h:xs[j]? =some x):x∈xs:=List.mem_of_getElem? h
theorem IQ (x:Tabl)(l:Limi)(hs:∀y∈x.conns,bJ y.r.held):rx.f (x,l,())=cX.f (x,l,()):=by
 simp only[PX,rx,cX,gq,fm,gp,fb,Oh]
 have h1:=A0 x.conns (f:=λj a=>(pk x j a).nice) (g:=λj a=>(eg x.conns x j a).nice) (k:=Int.toNat ((x.conns.length:Int)-0)) (ar _) (λj y hy=>by
  simp only[PX,pk,eg,aa,getD_some hy,Af y (hs y (BZ hy)),ji]
  cases bG.f (y,())with
  |false=>exact .inl ⟨_,_,rfl,rfl⟩
  |true=>cases(aw.f (x,y.tuple,()) != (j:Int))with
   |true=>exact .inl ⟨_,_,rfl,rfl⟩
   |false=>exact .inr ⟨rfl,rfl⟩)
 have h2:=A0 x.waiting (f:=λj a=>(pn x j a).nice) (g:=λj a=>(d8 x.waiting x j a).nice) (k:=Int.toNat ((x.waiting.length:Int)-0)) (ar _) (λj y hy=>by
  simp only[PX,pn,d8,aa,getD_some hy,Jv,uq,ji,List.drop_zero]
  rw[zO (kI y) x.waiting j y hy (vp y)]
  cases(x.waiting.take j).any (kI y)<;>cases decide (aw.f (x,y,())<0)<;>first|exact .inl ⟨_,_,rfl,rfl⟩|exact .inr ⟨rfl,rfl⟩)
 rcases h1 with⟨v,w,h3,h4⟩|⟨h3,h4⟩
 ·rw[h3,h4]
  cases(ff.f (l,()))<;>cases decide (l.conns<(x.conns.length:Int))<;>cases decide (l.waiting<(x.waiting.length:Int))<;>rfl
 ·rw[h3,h4]
  rcases h2 with⟨v,w,h5,h6⟩|⟨h5,h6⟩
  ·rw[h5,h6]
   all_goals (cases(ff.f (l,()))<;>cases decide (l.conns<(x.conns.length:Int))<;>cases decide (l.waiting<(x.waiting.length:Int))<;>rfl)
  ·rw[h5,h6]
   all_goals (cases(ff.f (l,()))<;>cases decide (l.conns<(x.conns.length:Int))<;>cases decide (l.waiting<(x.waiting.length:Int))<;>rfl)
theorem yg (xs:List Half):mF.f (xs,())=ez.f (xs,()):=by
 simp only[PX,mF,ez,ik,kj]
 have h1:=A0 xs (f:=λj a=>(ex xs j a).nice) (g:=λj a=>(n8 xs xs j a).nice) (k:=Int.toNat ((xs.length:Int)-0)) (ar _) (λj y hy=>by
  simp only[PX,ex,n8,aa,getD_some hy,oV,eE,gG,cx,aC,pV,gu,List.drop_zero,qM]
  rw[zO (λh:Half=>kI y.tuple h.tuple) xs j y hy (vp _)]
  cases az.f (y.tuple,())with
  |false=>exact .inl ⟨_,_,rfl,rfl⟩
  |true=>
  cases aj.f (y.iss,32,())with
  |false=>exact .inl ⟨_,_,rfl,rfl⟩
  |true=>
  cases aj.f (y.irs,32,())with
  |false=>exact .inl ⟨_,_,rfl,rfl⟩
  |true=>
  cases aj.f (y.window,16,())with
  |false=>exact .inl ⟨_,_,rfl,rfl⟩
  |true=>
  cases aF.f (y.opts,())with
  |false=>exact .inl ⟨_,_,rfl,rfl⟩
  |true=>
  cases(decide (0≤y.age)&&decide (y.age≤6))with
  |false=>exact .inl ⟨_,_,rfl,rfl⟩
  |true=>
  cases(xs.take j).any (λh=>kI y.tuple h.tuple)with
  |true=>exact .inl ⟨_,_,rfl,rfl⟩
  |false=>exact .inr ⟨rfl,rfl⟩)
 rcases h1 with⟨v,w,h3,h4⟩|⟨h3,h4⟩<;>rw[h3,h4]<;>by_cases h:64<(xs.length:Int)
 ·rw[decide_eq_true h];rfl
 ·rw[decide_eq_false h];rfl
 ·rw[decide_eq_true h];simp only[Stp.elim,cond_true];exact decide_eq_false (by omega)
 ·rw[decide_eq_false h];simp only[Stp.elim,cond_false];exact decide_eq_true (by omega)
theorem Fb (d:Door)(xs:List Half):cu.f (xs,d,())=xs.any (λh=>decide (0≤aw.f (d.table,h.tuple,()))):=by
 simp only[PX,cu,eH,bc]
 rw[mR (λh:Half=>decide (0≤aw.f (d.table,h.tuple,()))) xs (λj y a h=>by
  simp only[PX,fC,yf,aa,getD_some h])]
 rw[←qM]
 unfold jJ
 cases xs.findIdx? (λh=>decide (0≤aw.f (d.table,h.tuple,())))<;>rfl
theorem Q0 {T:Type}(p:T→Bool)(xs:List T)(j:Nat):eJ (W:=Unit) (λ_ y (_:Unit)=>bif p y then .out ()else .next ()) j xs ()=bif xs.any p then .out ()else .next ():=by
 rw[mL (w:=λ_ _=>())]
 cases h:xs.findIdx? p with
 |none=>
  rw[List.findIdx?_eq_none_iff]at h
  have:xs.any p=false:=by
   rw[List.any_eq_false]
   intro y hy;simp[h y hy]
  rw[this];rfl
 |some i=>
  obtain⟨h1,h2,_⟩:=List.findIdx?_eq_some_iff_getElem.1 h
  have:xs.any p=true:=by rw[List.any_eq_true];exact⟨xs[i],List.getElem_mem h1,h2⟩
  rw[this];simp only[List.getElem?_eq_getElem h1];rfl
theorem My (x:Door)(hs:∀y∈x.table.conns,bJ y.r.held):vh.f (x,())=bL.f (x,()):=by
 simp only[PX,vh,bL,nC,eE,EC,IQ x.table x.limits hs,yg,cx,aC,Fb]
 rw[ar,bE x.halves _ rfl (F:=λj y a=>bif decide (0≤aw.f (x.table,y.tuple,()))then .out ()else .next ()) (by
  intro j y a h
  simp only[PX,xz,aa,getD_some h,ji])]
 rw[Q0 (λy:Half=>decide (0≤aw.f (x.table,y.tuple,())))]
 cases x.halves.any (λy=>decide (0≤aw.f (x.table,y.tuple,())))<;>rfl
theorem yN:∀(r:List Conn) (j:Nat) (c:List Conn) (w:List Tupl),eJ (W:=Empty) (λ_ x (a:Tabl×Tabl)=> .next ((⟨[],[]⟩:Tabl),(⟨a.2.conns++[x],a.2.waiting⟩:Tabl))) j r (⟨[],[]⟩,⟨c,w⟩)= .next (⟨[],[]⟩,⟨c++r,w⟩)
 |[],_,c,w=>by simp only[eJ,List.append_nil]
 |x::r,j,c,w=>by
  simp only[eJ,Stp.elim]
  rw[yN r]
  simp
theorem rP (x:Recv):dN.f (x,())=x:=by simp only[PX,dN,List.nil_append]
theorem uy (x:Recv):im.f (x,())=x:=by simp only[PX,im,nt]
theorem kS (x:Conn):fx.f (x,())=x:=by simp only[PX,fx,rP]
theorem dd (x:Conn):cV.f (x,())=x:=by simp only[PX,cV,uy]
theorem Im (x:Keys):r9.f (x,())=x:=by simp only[PX,r9,AY]
theorem CB (x:Keys):nJ.f (x,())=x:=by simp only[PX,nJ,x8]
theorem Bc (x:Tabl):mX.f (x,())=x:=by
 simp only[PX,mX,jc,List.nil_append]
 rw[ar,bE x.conns _ rfl (F:=λ_ y (a:Tabl×Tabl)=> .next ((⟨[],[]⟩:Tabl),(⟨a.2.conns++[y],a.2.waiting⟩:Tabl))) (by
  intro j y a h
  simp only[PX,vk,aa,getD_some h,kS]),yN]
 simp only[Stp.elim,PX,List.nil_append]
theorem lq (x:Tabl):gQ.f (x,())=x:=by
 simp only[PX,gQ,fD,nF]
 rw[ar,bE x.conns _ rfl (F:=λ_ y (a:Tabl×Tabl)=> .next ((⟨[],[]⟩:Tabl),(⟨a.2.conns++[y],a.2.waiting⟩:Tabl))) (by
  intro j y a h
  simp only[PX,qp,aa,getD_some h,dd]),yN]
 simp only[Stp.elim,PX,List.nil_append]
theorem kP (x:Door):cW.f (x,())=x:=by simp only[PX,cW,Im,Bc,List.nil_append]
theorem iX (x:Door):d7.f (x,())=x:=by simp only[PX,d7,CB,lq,dQ]
theorem QX (k:Keys)(m:Mac):wv.f (k,m,())=mQ.f (k,m,()):=by
 simp only[PX,wv,mQ,Im,CB,AY,x8,EC,Qz]
theorem N1 (d:Door)(m:Mac):qI.f (d,m,())=k7.f (d,m,()):=by
 simp only[PX,qI,k7,kP,iX,QX]
theorem kW {W:Type}{f:Int→Unit→Stp Unit W}:∀(k:Nat) (i:Int),(∀j,f j ()= .next ())→aU f 1 k i ()= .next ()
 |0,_,_=>rfl
 |k+1,i,h=>by simp only[aU,h,Stp.elim];exact kW k _ h
theorem HF (o:Opti):nm.f (o,())=iC.f (o,()):=by
 simp only[PX,nm,iC,dC,cA]
theorem Rv (xs:List Half)(h:Half)(n:Int):wU.f (xs,h,n,())=m6.f (xs,h,n,()):=by
 simp only[PX,wU,m6,dQ,yg,List.nil_append]
def ic (d:Door):Prop:=∀y∈d.table.conns,bJ y.r.held
theorem sa {d:Door}(hd:ai d):ic d:=by
 intro y hy p hp
 have h1:ac y:=hd.2.2.2.2.2.2.1 y hy
 have h2:bq p:=h1.2.2.2 p hp
 simp only[bq]at h2
 omega
theorem FS (d:Door)(t:Tupl)(g:Segm)(hs:ic d):qa.f (d,t,g,())=(bL.f (d,())&&(az.f (t,())&&ae.f (g,()))):=by
 simp only[PX,qa,My d hs,oV,vr]
 cases bL.f (d,())<;>cases az.f (t,())<;>rfl
theorem Iz (d:Door)(t:Tupl)(g:Segm):dR.f (d,t,g,())=
  bif (bL.f (d,())&&(az.f (t,())&&ae.f (g,())))then
   bif decide (0≤aJ.f (d.halves,t,()))then
    bif ((d.halves.getD (aJ.f (d.halves,t,())).toNat (Ty.zero .half)).irs != g.seq)then(d,[])else(d,[({ec.f (d,t,g,())with seq:=(d.halves.getD (aJ.f (d.halves,t,())).toNat (Ty.zero .half)).iss}:Segm)])
   else bif decide (aw.f (d.table,t,())<0)then
    ({d with halves:=(m6.f (d.halves,(⟨t,(ec.f (d,t,g,())).seq,g.seq,iC.f (g.opts,()),0,g.window⟩:Half),d.limits.halves,())).1},[ec.f (d,t,g,())])
   else(d,[ec.f (d,t,g,())])
  else(d,[]):=by
 simp only[PX,dR,iX]
 cases bL.f (d,())<;>cases az.f (t,())<;>cases ae.f (g,())<;>rfl
theorem Qs (d:Door)(t:Tupl)(g:Segm)(hs:ic d):zj.f (d,t,g,())=dR.f (d,t,g,()):=by
 rw[Iz]
 simp only[PX,zj,kP,FS d t g hs,TY,tJ,ji,HF,Rv]
 cases(bL.f (d,())&&(az.f (t,())&&ae.f (g,())))<;>rfl
theorem wN {W:Type}{f:Int→Unit→Stp Unit W}:∀(k i:Nat),aU f 1 k (i:Int) ()= .next ()↔∀j:Nat,i≤j→j<i+k→f (j:Int) ()= .next ()
 |0,i=>⟨λ_ j h1 h2=>by omega,λ_=>rfl⟩
 |k+1,i=>by
  constructor
  ·intro h j h1 h2
   simp only[aU]at h
   cases hf:f (i:Int) ()with
   |out w=>rw[hf]at h;cases h
   |next a=>
    rw[hf]at h
    simp only[Stp.elim]at h
    rcases Nat.eq_or_lt_of_le h1 with h3|h3
    ·rw[←h3];exact hf
    ·rw[show(i:Int)+1=((i+1:Nat):Int) by omega]at h
     exact(wN k (i+1)).1 h j h3 (by omega)
  ·intro h
   simp only[aU,h i (Nat.le_refl _) (by omega),Stp.elim]
   rw[show(i:Int)+1=((i+1:Nat):Int) by omega]
   exact(wN k (i+1)).2 λj h1 h2=>h j (by omega) (by omega)
def yk (h:Half):Bool:=az.f (h.tuple,())&&(aj.f (h.iss,32,())&&(aj.f (h.irs,32,())&&(aj.f (h.window,16,())&&(aF.f (h.opts,())&&(decide (0≤h.age)&&decide (h.age≤6))))))
theorem EZ (xs:List Half)(j:Nat)(y:Half)(hy:xs[j]? =some y):((ex xs (j:Int) ()).nice= .next ())↔(yk y=true∧(xs.take j).any (λh=>kI y.tuple h.tuple)=false):=by
 simp only[PX,ex,aa,getD_some hy,oV,eE,gG,cx,pV,List.drop_zero,qM,yk]
 cases az.f (y.tuple,())<;>cases aj.f (y.iss,32,())<;>cases aj.f (y.irs,32,())<;>cases aj.f (y.window,16,())<;>cases aF.f (y.opts,())<;>cases(decide (0≤y.age)&&decide (y.age≤6))<;>cases(xs.take j).any (λh=>kI y.tuple h.tuple)<;>simp
theorem J8 (xs:List Half):ez.f (xs,())=true↔(∀(j:Nat) (y:Half),xs[j]? =some y→yk y=true∧(xs.take j).any (λh=>kI y.tuple h.tuple)=false)∧xs.length≤64:=by
 rw[←yg]
 have hT:aU (λj a=>(ex xs j a).nice) 1 xs.length ((0:Nat):Int) ()= .next ()↔∀(j:Nat) (y:Half),xs[j]? =some y→yk y=true∧(xs.take j).any (λh=>kI y.tuple h.tuple)=false:=by
  rw[wN]
  constructor
  ·intro h j y hy
   exact(EZ xs j y hy).1 (h j (Nat.zero_le _) (by have:=(List.getElem?_eq_some_iff.1 hy).1;omega))
  ·intro h j _ h2
   exact(EZ xs j xs[j] (List.getElem?_eq_getElem (by omega))).2 (h j _ (List.getElem?_eq_getElem (by omega)))
 simp only[PX,mF,ik]
 rw[ar,show(0:Int)=((0:Nat):Int) from rfl,←hT]
 cases aU (λj a=>(ex xs j a).nice) 1 xs.length ((0:Nat):Int) ()with
 |next a=>simp only[Stp.elim,PX,decide_eq_true_eq,true_and];omega
 |out w=>simp[Stp.elim,PX]
theorem OC (d:Door)(t:Tupl)(g:Segm):0≤(ec.f (d,t,g,())).seq∧(az.f (t,())=true→fG.f (d.keys,())=true→0≤g.seq∧g.seq≤4294967295→(ec.f (d,t,g,())).seq≤4294967295):=by
 have hseq:(ec.f (d,t,g,())).seq=m5.f (d,t,g,()):=by simp only[PX,ec]
 rw[hseq]
 simp only[PX,m5]
 generalize xd.f (g.opts,())=mss
 refine⟨by split<;>omega,λht hk hs=> ?_⟩
 have hi:=Jl mss
 have he:=zU d.keys hk
 have hc:=N0 d.keys.now t g.seq d.keys.epoch (gV.f (mss,())) ht hs he hi
 have hr:=Il d.keys.now (eV.f (t,g.seq,d.keys.epoch,gV.f (mss,()),()))
 rw[hc];split<;>omega
theorem EV (x:Sndr):bp.f (x,())=true↔SO x:=by
 have h:=bp.c.h (x,()) trivial
 simpa using h
theorem uS (x:Sndr):jm.f (x,())=cG.f (x,()):=by simp only[PX,jm,cG]
theorem Nv (x:Sndr):vS.f (x,())=jr.f (x,()):=by simp only[PX,vS,jr,uS,ig]
theorem z7 (c:Conn):lk.f (c,())=cp.f (c,()):=by simp only[PX,lk,cp,Nv,pg,dC,cA]
theorem SP (c:Conn):y9.f (c,())=cT.f (c,()):=by
 simp only[PX,y9,cT,sH,pf]
 cases(c.opts.mss==0)with
 |true=>rfl
 |false=>
  simp only[cond_false]
  generalize(if 1460<c.opts.mss then(1460:Int)else c.opts.mss)=m
  split<;>split<;>omega
theorem Si (x:Sndr)(y:Chun):mG.f (x,y,())=cZ.f (x,y,()):=by
 simp only[PX,mG,cZ,sG]
 obtain⟨u,dt,se,fi,fs,dn⟩:=x
 cases fi with
 |true=>simp only[Bool.not_true,cond_false]
 |false=>
  cases hy:y.fin with
  |false=>simp only[cond_false]
  |true=>
   have k1:∀n:Int,bp.f ((⟨u,dt,n,false,true,dn⟩:Sndr),())=false:=by
    intro n
    cases h:bp.f ((⟨u,dt,n,false,true,dn⟩:Sndr),())with
    |false=>rfl
    |true=>
     have:=(EV _).1 h
     have h2:=this.2.2.2.2.2.1 rfl
     exact Bool.noConfusion h2.1
   simp only[k1,Bool.not_false,cond_true]
theorem I5 (x:Sndr)(h:SO x):cG.f (x,())=if x.finSent then x.sent+1 else x.sent:=by
 simp only[PX,cG]
 have h1:=h.2.2.2.1
 have h2:=h.2.2.2.2.1
 have h3:=h.2.2.1
 cases x.finSent with
 |true=>simp only[cond_true,if_true];rw[au (by omega) (by omega)]
 |false=>rfl
theorem Oo (l:aA)(S n:Int)(h0:0≤S)(h1:0≤n):(l.take (S+n).toNat).drop S.toNat=(l.drop S.toNat).take n.toNat:=by
 rw[List.drop_take];congr 1;omega
theorem NR (x:Sndr)(w m:Int)(hw:w≤9223372036854775807):qU.f (x,w,m,())=aO.f (x,w,m,()):=by
 simp only[PX,qU,aO,sG,uS,Nv,sH,pf]
 cases h:bp.f (x,())with
 |false=>rfl
 |true=>
 have hs:=(EV x).1 h
 have h1:=hs.2.2.2.1
 have h2:=hs.2.2.2.2.1
 have h3:=hs.2.2.1
 simp only[Bool.not_true,cond_false]
 have hF:x.sent≤cG.f (x,())∧cG.f (x,())≤x.sent+1:=by
  rw[I5 x hs];split<;>omega
 obtain⟨F,eF⟩:∃F,cG.f (x,())=F:=⟨_,rfl⟩
 rw[eF]at hF
 simp only[eF]
 generalize jr.f (x,())=q
 rw[aa,List.take_length,List.length_drop]
 rw[au (m:=(x.data.length:Int)-x.sent) (by omega) (by omega)]
 rw[show((x.data.length-x.sent.toNat:Nat):Int)=(x.data.length:Int)-x.sent by omega]
 obtain⟨c2,e2⟩:∃z:Int,(if w<1000000 then w else 1000000)=z:=⟨_,rfl⟩
 simp only[e2]
 obtain⟨c3,e3⟩:∃z:Int,(if c2<0 then 0 else c2)=z:=⟨_,rfl⟩
 simp only[e3]
 have b3:0≤c3∧c3≤1000000:=by grind
 rw[au (m:=c3-F) (by omega) (by omega)]
 obtain⟨c5,e5⟩:∃z:Int,(if c3-F<0 then 0 else c3-F)=z:=⟨_,rfl⟩
 simp only[e5]
 obtain⟨W,eW⟩:∃z:Int,(if w< -1 then-1 else w)=z:=⟨_,rfl⟩
 simp only[eW]
 have bW: -1≤W∧W≤9223372036854775807:=by grind
 rw[au (m:=W-F) (by omega) (by omega)]
 obtain⟨D,eD⟩:∃z:Int,(x.data.length:Int)-x.sent=z:=⟨_,rfl⟩
 simp only[eD]
 obtain⟨c6,e6⟩:∃z:Int,(if m<c5 then m else c5)=z:=⟨_,rfl⟩
 simp only[e6]
 obtain⟨c7,e7⟩:∃z:Int,(if c6<D then c6 else D)=z:=⟨_,rfl⟩
 simp only[e7]
 obtain⟨n,e8⟩:∃z:Int,(if c7<0 then 0 else c7)=z:=⟨_,rfl⟩
 simp only[e8]
 obtain⟨d3,f3⟩:∃z:Int,(if m<D then m else D)=z:=⟨_,rfl⟩
 simp only[f3]
 obtain⟨d4,f4⟩:∃z:Int,(if W-F<d3 then W-F else d3)=z:=⟨_,rfl⟩
 simp only[f4]
 have en:(if 0<d4 then d4 else 0)=n:=by grind
 rw[en]
 have bn:0≤n∧n≤D:=by grind
 have bw:decide (n<W-F)=decide (n<c5):=by
  rw[decide_eq_decide];grind
 rw[bw,au (m:=x.sent+n) (by omega) (by omega),Oo x.data x.sent n h1 bn.1,List.drop_zero]
 have el:(((x.data.drop x.sent.toNat).take n.toNat)==[])=(n==0):=by
  have hl:((x.data.drop x.sent.toNat).take n.toNat).length=n.toNat:=by rw[List.length_take,List.length_drop];omega
  generalize(x.data.drop x.sent.toNat).take n.toNat=z at*
  cases z with
  |nil=>simp only[List.length_nil]at hl;rw[show n=0 by omega];rfl
  |cons a r=>simp only[List.length_cons]at hl;rw[Bool.eq_iff_iff];simp;omega
 have ed:(x.sent+n==(x.data.length:Int))=(n==D):=by
  rw[Bool.eq_iff_iff];simp only[beq_iff_eq];omega
 rw[el,ed]
theorem B4 {A B W W':Type}[Inhabited W][Inhabited W']{f:A→Stp A W}{g:B→Stp B W'}{R:A→B→Prop}{Q:W→W'→Prop}(hd:Q default default)
  (h:∀a b,R a b→(∃a' b',f a= .next a'∧g b= .next b'∧R a' b')∨(∃w w',f a= .out w∧g b= .out w'∧Q w w')):
  ∀(m:Nat) (a:A) (b:B),R a b→Q (cz f m a) (cz g m b)
 |0,_,_,_=>hd
 |m+1,a,b,hr=>by
  rcases h a b hr with⟨a',b',e1,e2,hr'⟩|⟨w,w',e1,e2,hq⟩
  ·simp only[cz,e1,e2,Stp.elim]
   exact B4 hd h m a' b' hr'
  ·simp only[cz,e1,e2,Stp.elim]
   exact hq
def yZ (c:Conn)(l:List Segm):Conn:={c with timer:=if l=[]then c.timer else if c.timer=0 then 3 else c.timer}
theorem E7 (c:Conn):yZ c []=c:=by simp[yZ]
theorem RI (c:Conn)(l:List Segm)(g:Segm)(x:Sndr):(bif ((yZ c l).timer==0)then({yZ c l with s:=x,timer:=3}:Conn)else{yZ c l with s:=x})=yZ {c with s:=x} (l++[g]):=by
 simp only[yZ]
 have h1:¬(l++[g]=[]):=by simp
 rw[if_neg h1]
 by_cases hl:l=[]
 ·rw[if_pos hl]
  by_cases ht:c.timer=0
  ·rw[if_pos ht,show(c.timer==0)=true by simp[ht]];rfl
  ·rw[if_neg ht,show(c.timer==0)=false by simp[ht]];rfl
 ·rw[if_neg hl]
  by_cases ht:c.timer=0
  ·rw[if_pos ht];rfl
  ·rw[if_neg ht,show(c.timer==0)=false by simp[ht]];rfl
theorem V8 (c:Conn)(w:Int)(hw:w≤9223372036854775807)(hs:bJ c.r.held):rg.f (c,w,())=dT.f (c,w,()):=by
 simp only[PX,rg,dT,kS,dd,Af c hs,kT,je]
 cases(bif !bG.f (c,())then(true,())else bif (c.state==8)then(true,())else((c.state==7),())).1 with
 |true=>rfl
 |false=>
 simp only[cond_false]
 have key:=B4 (f:=λa=>(qQ w a).nice) (g:=λa=>(bN w a).nice) (R:=λa b=>a.1=yZ b.2.1 b.2.2∧a.2.2=b.2.2) (Q:=λp q=>p.1=yZ q.2.1 q.2.2∧p.2=q.2.2) ⟨(E7 _).symm,rfl⟩ (by
  rintro⟨a1,a2,al⟩ ⟨b1,b2,bl⟩ ⟨h1,h2⟩
  simp only[]at h1 h2
  subst h1;subst h2
  have hm:cT.f (yZ b2 al,())=cT.f (b2,()):=rfl
  have ha:cp.f (yZ b2 al,())=cp.f (b2,()):=rfl
  have hx:(yZ b2 al).s=b2.s:=rfl
  simp only[PX,qQ,bN,SP,NR _ _ _ hw,z7,Si,hm,ha,hx]
  obtain⟨z,hz⟩:∃z,aO.f (b2.s,w,cT.f (b2,()),())=z:=⟨_,rfl⟩
  simp only[hz]
  obtain⟨g,hg⟩:∃g,cp.f (b2,())=g:=⟨_,rfl⟩
  simp only[hg]
  obtain⟨x,hx2⟩:∃x,cZ.f (b2.s,z.1,())=x:=⟨_,rfl⟩
  simp only[hx2]
  cases z.2 with
  |false=>exact .inr ⟨_,_,rfl,rfl,rfl,rfl⟩
  |true=>
   have hf:∀g':Segm,_:=λg'=>RI b2 al g' x
   cases ht:((yZ b2 al).timer==0)<;>rw[ht]at hf<;>simp only[cond_true,cond_false]at hf<;>cases(z.1.text==[])<;>cases z.1.fin<;>exact .inl ⟨_,_,rfl,rfl,hf _,rfl⟩) (DX c.s+1) (c,⟨⟨0,0,0⟩,0,⟨0,[],0,false,false,false⟩,⟨0,[],[],0,false⟩,0,0,⟨0,0,false,false,0,0⟩,0,0⟩,[]) (⟨⟨0,0,0⟩,0,⟨0,[],0,false,false,false⟩,⟨0,[],[],0,false⟩,0,0,⟨0,0,false,false,0,0⟩,0,0⟩,c,[]) ⟨(E7 c).symm,rfl⟩
 obtain⟨p,hp⟩:∃p,cz (λa=>(qQ w a).nice) (DX c.s+1) (c,⟨⟨0,0,0⟩,0,⟨0,[],0,false,false,false⟩,⟨0,[],[],0,false⟩,0,0,⟨0,0,false,false,0,0⟩,0,0⟩,[])=p:=⟨_,rfl⟩
 obtain⟨q,hq⟩:∃q,cz (λa=>(bN w a).nice) (DX c.s+1) (⟨⟨0,0,0⟩,0,⟨0,[],0,false,false,false⟩,⟨0,[],[],0,false⟩,0,0,⟨0,0,false,false,0,0⟩,0,0⟩,c,[])=q:=⟨_,rfl⟩
 rw[hp,hq]at key
 simp only[hp,hq]
 obtain⟨p1,p2⟩:=p
 obtain⟨q1,q2,q3⟩:=q
 obtain⟨k1,k2⟩:=key
 simp only[]at k1 k2
 subst k1;subst k2
 cases p2 with
 |nil=>simp only[PX,E7,List.length_nil];rfl
 |cons g r=>
  simp only[PX,decide_eq_true (show 0<((g::r).length:Int) by simp only[List.length_cons];omega),cond_true,yZ,if_neg (show¬(g::r=[]) by simp)]
  by_cases ht:q2.timer=0
  ·simp only[ht,if_true,beq_self_eq_true,cond_true]
  ·simp only[if_neg ht,show(q2.timer==0)=false by simp[ht],cond_false]
def Uu (k:Int)(sf sd rd:Bool):Bool:=bif k==8 then true else(sf== !(k==1||k==4))&&((sd==(k==3||k==7))&&(rd==(k==4||decide (5≤k))))
theorem F8 (x:Conn):bG.f (x,())=(az.f (x.tuple,())&&(bp.f (x.s,())&&(br.f (x.r,())&&(aF.f (x.opts,())&&((decide (1≤x.state)&&decide (x.state≤8))&&((decide (0≤x.most)&&decide (x.most≤1073725440))&&((decide (0≤x.window)&&decide (x.window≤x.most))&&((decide (0≤x.timer)&&bif x.state==7 then decide (x.timer≤4)else decide (x.timer≤3))&&((decide (0≤x.tries)&&decide (x.tries≤3))&&Uu x.state x.s.fin x.s.done x.r.done))))))))):=by
 simp only[PX,bG,aC]
 cases az.f (x.tuple,())with
 |false=>rfl
 |true=>
 cases bp.f (x.s,())with
 |false=>rfl
 |true=>
 cases br.f (x.r,())with
 |false=>rfl
 |true=>
 cases aF.f (x.opts,())with
 |false=>rfl
 |true=>
 simp only[Bool.not_true,cond_false,Bool.true_and]
 have ej:∀b:Bool,(bif b then(false,(4:Int),x,())else(false,3,x,()))=(false,(bif b then 4 else 3),x,()):=λb=>by cases b<;>rfl
 have et:∀b:Bool,decide (x.timer≤bif b then 4 else 3)=bif b then decide (x.timer≤4)else decide (x.timer≤3):=λb=>by cases b<;>rfl
 simp only[ej,et]
 generalize(decide (0≤x.window)&&decide (x.window≤x.most))=W
 generalize(decide (0≤x.most)&&decide (x.most≤1073725440))=N
 generalize(decide (0≤x.tries)&&decide (x.tries≤3))=T
 generalize decide (0≤x.timer)=T0
 generalize decide (x.timer≤4)=T4
 generalize decide (x.timer≤3)=T3
 generalize x.s.fin=sf
 generalize x.s.done=sd
 generalize x.r.done=rd
 generalize x.state=k
 have hk:k=1∨k=2∨k=3∨k=4∨k=5∨k=6∨k=7∨k=8∨(decide (1≤k)&&decide (k≤8))=false:=by
  simp only[Bool.and_eq_false_iff,decide_eq_false_iff_not];omega
 rcases hk with rfl|rfl|rfl|rfl|rfl|rfl|rfl|rfl|hk
 iterate 8 (revert W N T T0 T4 T3 sf sd rd;decide+kernel)
 simp only[hk];rfl
structure CO (x:Conn):Prop where
 tup:az.f (x.tuple,())=true
 snd:SO x.s
 rcv:br.f (x.r,())=true
 opt:aF.f (x.opts,())=true
 s1:1≤x.state
 s8:x.state≤8
 m0:0≤x.most
 m1:x.most≤1073725440
 w0:0≤x.window
 w1:x.window≤x.most
 t0:0≤x.timer
 t4:x.timer≤4
 t3:x.state≠7→x.timer≤3
 r0:0≤x.tries
 r3:x.tries≤3
 fl:Uu x.state x.s.fin x.s.done x.r.done=true
theorem D1 (x:Conn):bG.f (x,())=true↔CO x:=by
 rw[F8]
 simp only[Bool.and_eq_true,decide_eq_true_eq,EV]
 have et:(bif x.state==7 then decide (x.timer≤4)else decide (x.timer≤3))=true↔x.timer≤4∧(x.state≠7→x.timer≤3):=by
  by_cases h:x.state=7
  ·simp[h]
  ·have h2:(x.state==7)=false:=by simpa using h
   simp only[h2,cond_false,decide_eq_true_eq]
   exact⟨λh3=>⟨by omega,λ_=>h3⟩,λh3=>h3.2 h⟩
 rw[et]
 constructor
 ·rintro⟨h1,h2,h3,h4,⟨h5,h6⟩,⟨h7,h8⟩,⟨h9,h10⟩,⟨h11,h12,h13⟩,⟨h14,h15⟩,h16⟩
  exact⟨h1,h2,h3,h4,h5,h6,h7,h8,h9,h10,h11,h12,h13,h14,h15,h16⟩
 ·rintro⟨h1,h2,h3,h4,h5,h6,h7,h8,h9,h10,h11,h12,h13,h14,h15,h16⟩
  exact⟨h1,h2,h3,h4,⟨h5,h6⟩,⟨h7,h8⟩,⟨h9,h10⟩,⟨h11,h12,h13⟩,⟨h14,h15⟩,h16⟩
structure Sent (c d:Conn):Prop where
 so:SO d.s
 s1:d.s.data=c.s.data
 s2:d.s.fin=c.s.fin
 s3:d.s.done=c.s.done
 s4:d.s.una=c.s.una
 tm:d.timer=c.timer∨d.timer=3
 re:d={c with s:=d.s,timer:=d.timer}
theorem Sent.refl (c:Conn)(h:SO c.s):Sent c c:=⟨h,rfl,rfl,rfl,rfl,.inl rfl,rfl⟩
theorem Sent.ok {c d:Conn}(h:Sent c d)(hc:CO c)(ht:d.timer≤3∨d.timer=c.timer):CO d:=by
 obtain⟨so,s1,s2,s3,s4,tm,re⟩:=h
 obtain⟨t,st,s,r,w,m,o,ti,tr⟩:=c
 obtain⟨t',st',s',r',w',m',o',ti',tr'⟩:=d
 simp only[Conn.mk.injEq]at re
 obtain⟨rfl,rfl,-,rfl,rfl,rfl,rfl,-,rfl⟩:=re
 simp only[]at*
 refine⟨hc.tup,so,hc.rcv,hc.opt,hc.s1,hc.s8,hc.m0,hc.m1,hc.w0,hc.w1, ?_, ?_, ?_,hc.r0,hc.r3, ?_⟩
 ·have:=hc.t0;simp only[]at*;omega
 ·have:=hc.t4;simp only[]at*;omega
 ·intro h7;have:=hc.t3 h7;simp only[]at*;omega
 ·have:=hc.fl;simp only[]at*;rw[s2,s3];exact this
theorem Gu {x:Sndr}(h:SO x):cI x:=by
 have:=h.2.2.1
 unfold cI;grind
theorem K1 (x:Sndr)(w m:Int)(y:Chun)(hy:(aO.f (x,w,m,()))=(y,true))(hx:SO x):SO (cZ.f (x,y,()))∧(cZ.f (x,y,())).data=x.data∧(cZ.f (x,y,())).fin=x.fin∧(cZ.f (x,y,())).done=x.done∧(cZ.f (x,y,())).una=x.una∧DX (cZ.f (x,y,()))<DX x:=by
 have h1:=aO.c.h (x,w,m,()) (Gu hx)
 change oJ (aO.f (x,w,m,())).1∧((aO.f (x,w,m,())).2=true→_)at h1
 have e1:(aO.f (x,w,m,())).1=y:=by rw[hy]
 have e2:(aO.f (x,w,m,())).2=true:=by rw[hy]
 obtain⟨h2,h3⟩:=h1
 obtain⟨-,h4,h5,h6,h7⟩:=h3 e2
 simp only[e1]at h2 h4 h5 h6 h7
 clear e1 e2
 have h8:=(cZ.c.h (x,y,()) ⟨Gu hx,h2⟩).2 hx h4 h5 h7
 change cZ.f (x,y,())=_ at h8
 rw[h8]
 obtain⟨e1,e2,e3,e4,e5,e6,e7⟩:=hx
 refine⟨⟨e1,e2,e3, ?_, ?_, ?_, ?_⟩,rfl,rfl,rfl,rfl, ?_⟩
 ·show 0≤x.sent+(y.text.length:Int);omega
 ·show x.sent+(y.text.length:Int)≤(x.data.length:Int);omega
 ·intro hf;exact⟨(h7 hf).1,(h7 hf).2.2⟩
 ·intro hd
  refine⟨(e7 hd).1, ?_,(e7 hd).2.2⟩
  show y.fin=false
  cases hf:y.fin with
  |false=>rfl
  |true=>have:=(h7 hf).2.1;rw[this]at hd;cases hd
 ·show((x.data.length:Int)-(x.sent+(y.text.length:Int))).toNat+(if y.fin=true then 0 else 1)<((x.data.length:Int)-x.sent).toNat+(if x.finSent=true then 0 else 1)
  rw[h5]
  simp only[Bool.false_eq_true,if_false]
  have hl:y.text=[]∨0<y.text.length:=by cases y.text<;>simp
  rcases hl with hl|hl
  ·rw[h6 hl];simp only[if_true];omega
  ·split<;>omega
theorem oX (w:Int)(c:Conn)(a:Conn×Conn×List Segm)(h:Sent c a.2.1):(∃l,(bN w a).nice= .out (({a.1 with r.held:=[]}:Conn),a.2.1,l))∨(∃a',(bN w a).nice= .next a'∧Sent c a'.2.1∧DX a'.2.1.s<DX a.2.1.s):=by
 obtain⟨a1,a2,al⟩:=a
 simp only[]at h
 simp only[PX,bN]
 obtain⟨z,hz⟩:∃z,aO.f (a2.s,w,cT.f (a2,()),())=z:=⟨_,rfl⟩
 simp only[hz]
 obtain⟨y,b⟩:=z
 cases b with
 |false=>exact .inl ⟨_,rfl⟩
 |true=>
  obtain⟨k1,k2,k3,k4,k5,k6⟩:=K1 a2.s w _ y hz h.so
  obtain⟨x,hx⟩:∃x,cZ.f (a2.s,y,())=x:=⟨_,rfl⟩
  rw[hx]at k1 k2 k3 k4 k5 k6
  simp only[hx]
  have hs:Sent c ({a2 with s:=x}:Conn):=by
   obtain⟨so,s1,s2,s3,s4,tm,re⟩:=h
   refine⟨k1,k2.trans s1,k3.trans s2,k4.trans s3,k5.trans s4,tm, ?_⟩
   rw[re]
  cases(y.text==[])<;>cases y.fin<;>exact .inr ⟨_,rfl,hs,k6⟩
theorem Rc (c:Conn)(w:Int)(hc:SO c.s):Sent c (dT.f (c,w,())).1:=by
 simp only[PX,dT,dd,je]
 cases(bif !bG.f (c,())then(true,())else bif (c.state==8)then(true,())else((c.state==7),())).1 with
 |true=>exact Sent.refl c hc
 |false=>
 simp only[cond_false]
 have key:=qs (f:=λa=>(bN w a).nice) (Inv:=λa=>Sent c a.2.1) (Q:=λp=>Sent c p.2.1) (meas:=λa=>DX a.2.1.s) (λa hi a' he=>by
  rcases oX w c a hi with⟨l,e⟩|⟨a2,e,h1,h2⟩
  ·simp only[e]at he;cases he
  ·simp only[e,Stp.next.injEq]at he;subst he;exact⟨h1,h2⟩) (λa hi p he=>by
  rcases oX w c a hi with⟨l,e⟩|⟨a2,e,h1,h2⟩
  ·simp only[e,Stp.out.injEq]at he;subst he;exact hi
  ·simp only[e]at he;cases he) (DX c.s+1) (⟨⟨0,0,0⟩,0,⟨0,[],0,false,false,false⟩,⟨0,[],[],0,false⟩,0,0,⟨0,0,false,false,0,0⟩,0,0⟩,c,[]) (Nat.lt_succ_self _) (Sent.refl c hc)
 obtain⟨q,hq⟩:∃q,cz (λa=>(bN w a).nice) (DX c.s+1) (⟨⟨0,0,0⟩,0,⟨0,[],0,false,false,false⟩,⟨0,[],[],0,false⟩,0,0,⟨0,0,false,false,0,0⟩,0,0⟩,c,[])=q:=⟨_,rfl⟩
 rw[hq]at key
 simp only[hq]
 obtain⟨q1,q2,q3⟩:=q
 simp only[]at key⊢
 cases(bif decide (0<(q3.length:Int))then((q2.timer==0),())else(false,())).1 with
 |false=>exact key
 |true=>
  obtain⟨so,s1,s2,s3,s4,tm,re⟩:=key
  refine⟨so,s1,s2,s3,s4,.inr rfl, ?_⟩
  exact congrArg (λd:Conn=>({d with timer:=3}:Conn)) re
theorem AK (a b:Tupl):kI a b=true↔a=b:=by
 obtain⟨a1,a2,a3⟩:=a
 obtain⟨b1,b2,b3⟩:=b
 simp only[kI,Bool.and_true,Bool.and_eq_true,beq_iff_eq,Tupl.mk.injEq]
 constructor<;>rintro⟨rfl,rfl,rfl⟩<;>exact⟨rfl,rfl,rfl⟩
theorem Aa {T:Type}(f:T→Tupl)(xs:List T)(t:Tupl):xs.any (λh=>kI t (f h))=true↔t∈xs.map f:=by
 simp only[List.any_eq_true,List.mem_map,AK]
 constructor
 ·rintro⟨x,h1,h2⟩;exact⟨x,h1,h2.symm⟩
 ·rintro⟨x,h1,h2⟩;exact⟨x,h1,h2.symm⟩
theorem vZ {T:Type}(f:T→Tupl)(xs:List T):(∀(j:Nat) (y:T),xs[j]? =some y→(xs.take j).any (λh=>kI (f y) (f h))=false)↔(xs.map f).Nodup:=by
 unfold List.Nodup
 rw[List.pairwise_iff_getElem]
 constructor
 ·intro h i j hi hj hij he
  rw[List.length_map]at hi hj
  simp only[List.getElem_map]at he
  have:=h j xs[j] (List.getElem?_eq_getElem hj)
  rw[List.any_eq_false]at this
  refine this xs[i] ?_ ((AK _ _).2 he.symm)
  rw[List.mem_take_iff_getElem]
  exact⟨i,by omega,rfl⟩
 ·intro h j y hy
  rw[List.any_eq_false]
  intro z hz he
  rw[List.mem_take_iff_getElem]at hz
  obtain⟨i,hi,rfl⟩:=hz
  obtain⟨hj,rfl⟩:=List.getElem?_eq_some_iff.1 hy
  have:=h i j (by rw[List.length_map];omega) (by rw[List.length_map];exact hj) (by omega)
  simp only[List.getElem_map]at this
  exact this ((AK _ _).1 he).symm
structure LO (l:Limi):Prop where
 h1:1≤l.halves
 h2:l.halves≤64
 w1:1≤l.waiting
 w2:l.waiting≤16
 c1:1≤l.conns
 c2:l.conns≤16
 k0:0≤l.chal
 k1:l.chal≤1000
theorem V2 (l:Limi):ff.f (l,())=true↔LO l:=by
 simp only[PX,ff,aC]
 have e:(bif decide (1≤l.halves)&&decide (l.halves≤64)then bif decide (1≤l.waiting)&&decide (l.waiting≤16)then bif decide (1≤l.conns)&&decide (l.conns≤16)then decide (0≤l.chal)&&decide (l.chal≤1000)else false else false else false)=((decide (1≤l.halves)&&decide (l.halves≤64))&&((decide (1≤l.waiting)&&decide (l.waiting≤16))&&((decide (1≤l.conns)&&decide (l.conns≤16))&&(decide (0≤l.chal)&&decide (l.chal≤1000))))):=by
  cases(decide (1≤l.halves)&&decide (l.halves≤64))<;>cases(decide (1≤l.waiting)&&decide (l.waiting≤16))<;>cases(decide (1≤l.conns)&&decide (l.conns≤16))<;>simp
 rw[e]
 simp only[Bool.and_eq_true,decide_eq_true_eq]
 constructor
 ·rintro⟨⟨h1,h2⟩,⟨h3,h4⟩,⟨h5,h6⟩,h7,h8⟩;exact⟨h1,h2,h3,h4,h5,h6,h7,h8⟩
 ·rintro⟨h1,h2,h3,h4,h5,h6,h7,h8⟩;exact⟨⟨h1,h2⟩,⟨h3,h4⟩,⟨h5,h6⟩,h7,h8⟩
structure TO (t:Tabl)(l:Limi):Prop where
 lim:LO l
 nc:(t.conns.length:Int)≤l.conns
 nw:(t.waiting.length:Int)≤l.waiting
 co:∀c∈t.conns,CO c
 dc:(t.conns.map Conn.tuple).Nodup
 dw:t.waiting.Nodup
 wc:∀w∈t.waiting,w∈t.conns.map Conn.tuple
theorem yp {T:Type}{P:T→Prop}{xs:List T}:(∀(j:Nat) (y:T),xs[j]? =some y→P y)↔∀y∈xs,P y:=by
 constructor
 ·intro h y hy
  obtain⟨j,hj,rfl⟩:=List.getElem_of_mem hy
  exact h j _ (List.getElem?_eq_getElem hj)
 ·intro h j y hy;exact h y (BZ hy)
theorem Md {T W:Type}{f:Int→Unit→Stp Unit W}(xs:List T){P:Nat→T→Prop}(h:∀(j:Nat) (y:T),xs[j]? =some y→(f (j:Int) ()= .next ()↔P j y)):aU f 1 (Int.toNat ((xs.length:Int)-0)) 0 ()= .next ()↔∀(j:Nat) (y:T),xs[j]? =some y→P j y:=by
 rw[ar,show(0:Int)=((0:Nat):Int) from rfl,wN]
 constructor
 ·intro h1 j y hy
  exact(h j y hy).1 (h1 j (Nat.zero_le _) (by have:=(List.getElem?_eq_some_iff.1 hy).1;omega))
 ·intro h1 j _ h2
  exact(h j xs[j] (List.getElem?_eq_getElem (by omega))).2 (h1 j _ (List.getElem?_eq_getElem (by omega)))
theorem Ov (t:Tabl)(l:Limi):cX.f (t,l,())=true↔TO t l:=by
 have f1:=Md t.conns (f:=λj a=>(eg t.conns t j a).nice) (P:=λj y=>CO y∧(t.conns.take j).any (λh=>kI y.tuple h.tuple)=false) (λj y hy=>by
  simp only[PX,eg,aa,getD_some hy,fg]
  rw[zO (λh:Conn=>kI y.tuple h.tuple) t.conns j y hy (vp _),←D1]
  cases bG.f (y,())<;>cases(t.conns.take j).any (λh=>kI y.tuple h.tuple)<;>simp)
 have f2:=Md t.waiting (f:=λj a=>(d8 t.waiting t j a).nice) (P:=λj y=>y∈t.conns.map Conn.tuple∧(t.waiting.take j).any (λh=>kI y h)=false) (λj y hy=>by
  simp only[PX,d8,aa,getD_some hy,fg,uq,U5]
  rw[zO (kI y) t.waiting j y hy (vp _),←Aa]
  cases t.conns.any (λh=>kI y h.tuple)<;>cases(t.waiting.take j).any (λh=>kI y h)<;>simp)
 have f3:=vZ Conn.tuple t.conns
 have f4:=vZ (λx=>x) t.waiting
 rw[List.map_id']at f4
 have f5:aU (λj a=>(eg t.conns t j a).nice) 1 (Int.toNat ((t.conns.length:Int)-0)) 0 ()= .next ()↔(∀c∈t.conns,CO c)∧(t.conns.map Conn.tuple).Nodup:=by
  rw[f1,←f3,←yp]
  exact⟨λh=>⟨λj y hy=>(h j y hy).1,λj y hy=>(h j y hy).2⟩,λh j y hy=>⟨h.1 j y hy,h.2 j y hy⟩⟩
 have f6:aU (λj a=>(d8 t.waiting t j a).nice) 1 (Int.toNat ((t.waiting.length:Int)-0)) 0 ()= .next ()↔(∀w∈t.waiting,w∈t.conns.map Conn.tuple)∧t.waiting.Nodup:=by
  rw[f2,←f4,←yp]
  exact⟨λh=>⟨λj y hy=>(h j y hy).1,λj y hy=>(h j y hy).2⟩,λh j y hy=>⟨h.1 j y hy,h.2 j y hy⟩⟩
 have e:cX.f (t,l,())=true↔ff.f (l,())=true∧(t.conns.length:Int)≤l.conns∧(t.waiting.length:Int)≤l.waiting∧aU (λj a=>(eg t.conns t j a).nice) 1 (Int.toNat ((t.conns.length:Int)-0)) 0 ()= .next ()∧aU (λj a=>(d8 t.waiting t j a).nice) 1 (Int.toNat ((t.waiting.length:Int)-0)) 0 ()= .next ():=by
  simp only[PX,cX,fm,fb]
  rw[show((t.conns.length:Int)≤l.conns)↔decide (l.conns<(t.conns.length:Int))=false by simp,show((t.waiting.length:Int)≤l.waiting)↔decide (l.waiting<(t.waiting.length:Int))=false by simp]
  cases ff.f (l,())<;>cases decide (l.conns<(t.conns.length:Int))<;>cases decide (l.waiting<(t.waiting.length:Int))<;>cases aU (λj a=>(eg t.conns t j a).nice) 1 (Int.toNat ((t.conns.length:Int)-0)) 0 ()<;>cases aU (λj a=>(d8 t.waiting t j a).nice) 1 (Int.toNat ((t.waiting.length:Int)-0)) 0 ()<;>simp[Stp.elim]
 rw[e,V2,f5,f6]
 constructor
 ·rintro⟨h1,h2,h3,⟨h4,h5⟩,h6,h7⟩;exact⟨h1,h2,h3,h4,h5,h7,h6⟩
 ·rintro⟨h1,h2,h3,h4,h5,h7,h6⟩;exact⟨h1,h2,h3,⟨h4,h5⟩,h6,h7⟩
structure HO (xs:List Half):Prop where
 ok:∀h∈xs,yk h=true
 nd:(xs.map Half.tuple).Nodup
 len:xs.length≤64
theorem SQ (xs:List Half):ez.f (xs,())=true↔HO xs:=by
 rw[J8]
 have f3:=vZ Half.tuple xs
 constructor
 ·rintro⟨h1,h2⟩
  exact⟨yp.1 λj y hy=>(h1 j y hy).1,f3.1 λj y hy=>(h1 j y hy).2,h2⟩
 ·rintro⟨h1,h2,h3⟩
  exact⟨λj y hy=>⟨h1 y (BZ hy),f3.2 h2 j y hy⟩,h3⟩
structure DO (d:Door):Prop where
 port:aj.f (d.port,16,())=true
 c0:0≤d.clock
 c1:d.clock≤4294967295
 keys:fG.f (d.keys,())=true
 tab:TO d.table d.limits
 hal:HO d.halves
 nh:(d.halves.length:Int)≤d.limits.halves
 k0:0≤d.chal
 k1:d.chal≤d.limits.chal
 ap:∀h∈d.halves,h.tuple∉d.table.conns.map Conn.tuple
theorem yj (d:Door):bL.f (d,())=true↔DO d:=by
 have e:bL.f (d,())=true↔aj.f (d.port,16,())=true∧aj.f (d.clock,32,())=true∧fG.f (d.keys,())=true∧cX.f (d.table,d.limits,())=true∧ez.f (d.halves,())=true∧(d.halves.length:Int)≤d.limits.halves∧(decide (0≤d.chal)&&decide (d.chal≤d.limits.chal))=true∧(d.halves.any (λh=>decide (0≤aw.f (d.table,h.tuple,()))))=false:=by
  simp only[PX,bL,Fb,aC]
  rw[show((d.halves.length:Int)≤d.limits.halves)↔decide (d.limits.halves<(d.halves.length:Int))=false by simp]
  generalize(decide (0≤d.chal)&&decide (d.chal≤d.limits.chal))=b1
  generalize decide (d.limits.halves<(d.halves.length:Int))=b2
  generalize(d.halves.any (λh=>decide (0≤aw.f (d.table,h.tuple,()))))=b3
  cases aj.f (d.port,16,())<;>cases aj.f (d.clock,32,())<;>cases fG.f (d.keys,())<;>cases cX.f (d.table,d.limits,())<;>cases ez.f (d.halves,())<;>cases b1<;>cases b2<;>cases b3<;>simp
 rw[e,Ov,SQ,cl]
 simp only[Bool.and_eq_true,decide_eq_true_eq,fg,qM]
 have f:(d.halves.any λh=>d.table.conns.any λc=>kI h.tuple c.tuple)=false↔∀h∈d.halves,h.tuple∉d.table.conns.map Conn.tuple:=by
  rw[List.any_eq_false]
  constructor
  ·intro h x hx hm;exact h x hx ((Aa Conn.tuple _ _).2 hm)
  ·intro h x hx hm;exact h x hx ((Aa Conn.tuple _ _).1 hm)
 rw[f]
 constructor
 ·rintro⟨h1,⟨h2,h2'⟩,h3,h4,h5,h6,⟨h7,h8⟩,h9⟩;exact⟨h1,h2,h2',h3,h4,h5,h6,h7,h8,h9⟩
 ·rintro⟨h1,h2,h2',h3,h4,h5,h6,h7,h8,h9⟩;exact⟨h1,⟨h2,h2'⟩,h3,h4,h5,h6,⟨h7,h8⟩,h9⟩
def nY (x:Recv):Int:=if x.done=true then 0 else 32-(x.data.length:Int)
theorem oT (x:Recv)(h:x.data.length≤32):0≤nY x∧nY x≤32:=by unfold nY;split<;>omega
structure RV (x:Recv):Prop where
 n0:0≤x.next
 n1:x.next≤4294967295
 dl:x.data.length≤32
 hl:x.held.length≤3
 f0: -1≤x.fin
 f1:x.fin≤nY x
 fz:x.fin≠0
 wk:∃b,eh (if x.fin= -1 then nY x else x.fin) 0 x.held=some b
 dn:x.done=true→x.held=[]∧x.fin= -1
theorem gJ (x:Recv)(h:x.data.length≤32):bQ.f (x,())=nY x:=by
 simp only[PX,bQ]
 unfold nY
 rw[au (by omega) (by omega)]
 cases x.done with
 |true=>rfl
 |false=>simp only[cond_false,Bool.false_eq_true,if_false];split<;>omega
theorem qb (x:Recv)(hs:bJ x.held):br.f (x,())=true↔RV x:=by
 simp only[PX,br,eq,cl]
 by_cases hn:0≤x.next∧x.next≤4294967295
 ·rw[decide_eq_true hn.1,decide_eq_true hn.2]
  by_cases hd:32<(x.data.length:Int)
  ·rw[decide_eq_true hd]
   exact⟨λh=>(by cases h),λh=>by have:=h.dl;omega⟩
  ·rw[decide_eq_false hd,gJ x (by omega)]
   have hw:=oT x (by omega)
   simp only[Bool.and_self,Bool.not_true,cond_false]
   by_cases hl:3<(x.held.length:Int)
   ·rw[decide_eq_true hl]
    exact⟨λh=>(by cases h),λh=>by have:=h.hl;omega⟩
   ·rw[decide_eq_false hl,aC]
    simp only[cond_false]
    by_cases hf: -1≤x.fin∧x.fin≤nY x
    ·rw[decide_eq_true hf.1,decide_eq_true hf.2]
     simp only[Bool.and_self,Bool.not_true,cond_false]
     by_cases h0:x.fin=0
     ·rw[show(x.fin==0)=true by simp[h0]]
      exact⟨λh=>(by cases h),λh=>absurd h0 h.fz⟩
     ·rw[show(x.fin==0)=false by simp[h0]]
      simp only[cond_false]
      have ed:(bif !x.done then true else bif ((x.held.length:Int)==0)then(x.fin== -1)else false)=true↔(x.done=true→x.held=[]∧x.fin= -1):=by
       cases x.done with
       |false=>simp
       |true=>
        cases hh:x.held with
        |nil=>simp
        |cons p r=>
         have:(((p::r).length:Int)==0)=false:=by
          rw[beq_eq_false_iff_ne];simp only[List.length_cons];omega
         rw[this];simp
      have k2:=PU x (if x.fin= -1 then nY x else x.fin) (by split<;>omega) (by split<;>omega) hs
      have fin:∀L:Int,L=(if x.fin= -1 then nY x else x.fin)→(Stp.elim (λ_=>bif !x.done then true else bif ((x.held.length:Int)==0)then(x.fin== -1)else false) (λ_=>false) (aU (λj a=>(dk L x.held j a).nice) 1 (Int.toNat ((x.held.length:Int)-0)) 0 0)=true↔RV x):=by
       intro L hL
       rw[hL]
       cases hp:eh (if x.fin= -1 then nY x else x.fin) 0 x.held with
       |some b=>
        rw[hp]at k2;simp only[]at k2
        rw[k2]
        simp only[Stp.elim]
        rw[ed]
        exact⟨λh=>⟨hn.1,hn.2,by omega,by omega,hf.1,hf.2,h0,⟨b,hp⟩,h⟩,λh=>h.dn⟩
       |none=>
        rw[hp]at k2;obtain⟨w,k2⟩:=k2
        rw[k2]
        simp only[Stp.elim]
        refine⟨λh=>(by cases h),λh=> ?_⟩
        obtain⟨b,hb⟩:=h.wk
        rw[hp]at hb;cases hb
      by_cases h1:x.fin= -1
      ·rw[show(x.fin != -1)=false by simp[h1]]
       exact fin (nY x) (by rw[if_pos h1])
      ·rw[show(x.fin != -1)=true by simp[h1]]
       exact fin x.fin (by rw[if_neg h1])
    ·have:(decide (-1≤x.fin)&&decide (x.fin≤nY x))=false:=by
      rw[Bool.and_eq_false_iff];simp only[decide_eq_false_iff_not];omega
     rw[this]
     exact⟨λh=>(by cases h),λh=>absurd ⟨h.f0,h.f1⟩ hf⟩
 ·have:(decide (0≤x.next)&&decide (x.next≤4294967295))=false:=by
   rw[Bool.and_eq_false_iff];simp only[decide_eq_false_iff_not];omega
  rw[this]
  exact⟨λh=>(by cases h),λh=>absurd ⟨h.n0,h.n1⟩ hn⟩
theorem CO.set {c:Conn}(h:CO c)(k t r:Int)(hk:k=c.state∨k=8)(t0:0≤t)(t4:t≤4)(t3:k≠7→t≤3)(r0:0≤r)(r3:r≤3):CO ({c with state:=k,timer:=t,tries:=r}:Conn):=by
 have h1:=h.s1
 have h8:=h.s8
 refine⟨h.tup,h.snd,h.rcv,h.opt, ?_, ?_,h.m0,h.m1,h.w0,h.w1,t0,t4,t3,r0,r3, ?_⟩
 ·show 1≤k;omega
 ·show k≤8;omega
 ·show Uu k c.s.fin c.s.done c.r.done=true
  rcases hk with rfl|rfl
  ·exact h.fl
  ·rfl
def qX (p:Piec):Int:=p.off+(p.text.length:Int)
def HA:List Piec→Int→List Int→List Piec
 |out,_,[]=>out
 |out,i,s::r=>if s<0 then HA out (i+1) r else
  match out.getLast? with
  |none=>HA (out++[⟨i,ay [s]⟩]) (i+1) r
  |some p=>if qX p=i then HA (out.dropLast++[⟨p.off,p.text++ay [s]⟩]) (i+1) r else HA (out++[⟨i,ay [s]⟩]) (i+1) r
def cf:Nat→Int→List Int→List Piec
 |_,_,[]=>[]
 |0,_,_::_=>[]
 |k+1,i,s::r=>if s<0 then cf k (i+1) r else
  ⟨i,ay (s::r.takeWhile (λx=>decide (0≤x)))⟩::cf k (i+1+((r.takeWhile (λx=>decide (0≤x))).length:Int)) (r.dropWhile (λx=>decide (0≤x)))
theorem Cu (a b:List Int):ay (a++b)=ay a++ay b:=by simp[ay]
theorem QK (out:List Piec)(o:Int)(x:aA):∀(t r:List Int) (x:aA),(∀s∈t,0≤s)→HA (out++[⟨o,x⟩]) (o+(x.length:Int)) (t++r)=HA (out++[⟨o,x++ay t⟩]) (o+(x.length:Int)+(t.length:Int)) r
 |[],r,x,_=>by simp[ay]
 |s::t,r,x,h=>by
  have hs:¬s<0:=by have:=h s (List.mem_cons_self ..);omega
  have ih:=QK out o x t r (x++ay [s]) (λy hy=>h y (List.mem_cons_of_mem _ hy))
  simp only[List.cons_append,HA,if_neg hs,List.getLast?_append,List.getLast?_singleton,Option.some_or,qX,if_true,List.dropLast_concat]
  have e:o+(x.length:Int)+1=o+((x++ay [s]).length:Int):=by rw[List.length_append,a9];simp;omega
  rw[e,ih]
  rw[List.append_assoc,←Cu]
  congr 1
  rw[List.length_append,a9];simp;omega
theorem Eo:∀(k:Nat) (out:List Piec) (i:Int) (r:List Int),r.length≤k→(∀p,out.getLast? =some p→qX p<i)→HA out i r=out++cf k i r
 |_,out,i,[],_,_=>by simp[HA,cf]
 |0,_,_,_::_,h,_=>by simp at h
 |k+1,out,i,s::r,h,hl=>by
  simp only[List.length_cons]at h
  by_cases hs:s<0
  ·simp only[HA,cf,if_pos hs]
   exact Eo k out (i+1) r (by omega) (λp hp=>by have:=hl p hp;omega)
  ·have e0:HA out i (s::r)=HA (out++[⟨i,ay [s]⟩]) (i+1) r:=by
    simp only[HA,if_neg hs]
    cases hg:out.getLast? with
    |none=>rfl
    |some p=>simp only[if_neg (show¬qX p=i by have:=hl p hg;omega)]
   simp only[cf,if_neg hs]
   rw[e0]
   have hr:r=r.takeWhile (λx=>decide (0≤x))++r.dropWhile (λx=>decide (0≤x)):=(List.takeWhile_append_dropWhile).symm
   have hrun:=QK out i (ay [s]) (r.takeWhile (λx=>decide (0≤x))) (r.dropWhile (λx=>decide (0≤x))) (ay [s]) (λy hy=>by
    have:=List.all_eq_true.1 (List.all_takeWhile (p:=λx:Int=>decide (0≤x)) (l:=r)) y hy;simpa using this)
   rw[←hr,show((ay [s]).length:Int)=1 by simp[a9]]at hrun
   rw[hrun,←Cu,List.singleton_append]
   generalize hT:r.takeWhile (λx=>decide (0≤x))=T at*
   generalize hD:r.dropWhile (λx=>decide (0≤x))=D at*
   have hDl:D.length≤k:=by
    have:=congrArg List.length hr
    rw[List.length_append]at this;omega
   cases D with
   |nil=>simp[HA,cf]
   |cons d D=>
    have hd:d<0:=by
     have:=List.head?_dropWhile_not (λx=>decide (0≤x)) r
     rw[hD]at this
     simp at this;omega
    cases k with
    |zero=>simp at hDl
    |succ k=>
     simp only[HA,cf,if_pos hd]
     simp only[List.length_cons]at hDl
     rw[Eo k _ _ D (by omega) (λp hp=>by
      simp only[List.getLast?_append,List.getLast?_singleton,Option.some_or,Option.some.injEq]at hp
      subst hp
      simp only[qX,a9,List.length_cons]
      omega)]
     simp
theorem rm {p:Int→Bool}:∀(r:List Int) (j:Nat),j<(r.takeWhile p).length→∃s,r[j]? =some s∧p s=true
 |[],j,h=>by simp at h
 |s::r,j,h=>by
  cases hp:p s with
  |false=>simp[List.takeWhile_cons,hp]at h
  |true=>
   cases j with
   |zero=>exact⟨s,rfl,hp⟩
   |succ j=>
    simp only[List.takeWhile_cons,hp,if_true,List.length_cons]at h
    obtain⟨t,h1,h2⟩:=rm (p:=p) r j (by omega)
    exact⟨t,by simpa using h1,h2⟩
theorem AP (L:Int):∀(k:Nat) (i:Int) (r:List Int) (a:Int),r.length≤k→a<i→(∀(p:Nat) (s:Int),r[p]? =some s→0≤s→i+(p:Int)+1≤L)→∃b,eh L a (cf k i r)=some b
 |0,_,[],a,_,_,_=>⟨a,by simp[cf,eh]⟩
 |_+1,_,[],a,_,_,_=>⟨a,by simp[cf,eh]⟩
 |0,_,_::_,_,h,_,_=>by simp at h
 |k+1,i,s::r,a,h,ha,hL=>by
  simp only[List.length_cons]at h
  by_cases hs:s<0
  ·simp only[cf,if_pos hs]
   exact AP L k (i+1) r a (by omega) (by omega) (λp t hp ht=>by
    have:=hL (p+1) t (by simpa using hp) ht;omega)
  ·simp only[cf,if_neg hs,eh]
   generalize hT:r.takeWhile (λx=>decide (0≤x))=T at*
   have hn:(ay (s::T)==[])=false:=by rw[beq_eq_false_iff_ne];simp[ay]
   have hend:i+((ay (s::T)).length:Int)≤L:=by
    rw[a9,List.length_cons]
    rcases Nat.eq_zero_or_pos T.length with h0|h0
    ·have:=hL 0 s rfl (by omega);omega
    ·obtain⟨t,h1,h2⟩:=rm (p:=λx:Int=>decide (0≤x)) r (T.length-1) (by rw[hT];omega)
     have:=hL (T.length-1+1) t (by simpa using h1) (by simpa using h2)
     omega
   rw[hn,decide_eq_false (show¬i≤a by omega),decide_eq_false (show¬L<i+((ay (s::T)).length:Int) by omega)]
   simp only[Bool.or_false,cond_false]
   have hr:r=T++r.dropWhile (λx=>decide (0≤x)):=by rw[←hT];exact(List.takeWhile_append_dropWhile).symm
   generalize hD:r.dropWhile (λx=>decide (0≤x))=D at*
   have hDl:D.length≤k:=by
    have:=congrArg List.length hr
    rw[List.length_append]at this;omega
   cases D with
   |nil=>exact⟨_,by simp[cf,eh];rfl⟩
   |cons d D=>
    have hd:d<0:=by
     have:=List.head?_dropWhile_not (λx=>decide (0≤x)) r
     rw[hD]at this
     simp at this;omega
    cases k with
    |zero=>simp at hDl
    |succ k=>
     simp only[cf,if_pos hd]
     simp only[List.length_cons]at hDl
     rw[a9,List.length_cons]
     exact AP L k _ D _ (by omega) (by omega) (λp t hp ht=>by
      have:=hL (1+T.length+(p+1)) t (by
       rw[hr,show 1+T.length+(p+1)=(T.length+(p+1))+1 by omega,List.getElem?_cons_succ,List.getElem?_append_right (by omega),show T.length+(p+1)-T.length=p+1 by omega]
       simpa using hp) ht
      omega)
theorem Gl:∀(k:Nat) (i:Int) (r:List Int),(∀s∈r,s<0)→cf k i r=[]
 |0,_,[],_=>by simp[cf]
 |0,_,_::_,_=>by simp[cf]
 |_+1,_,[],_=>by simp[cf]
 |k+1,i,s::r,h=>by
  simp only[cf,if_pos (h s (List.mem_cons_self ..))]
  exact Gl k (i+1) r (λt ht=>h t (List.mem_cons_of_mem _ ht))
def ax (sl:List Int):Nat:=(sl.takeWhile (λx=>decide (0≤x))).length
theorem qu (sl:List Int)(j:Nat)(h:j<ax sl):∃s,sl[j]? =some s∧0≤s:=by
 obtain⟨s,h1,h2⟩:=rm (p:=λx:Int=>decide (0≤x)) sl j h
 exact⟨s,h1,by simpa using h2⟩
theorem BW (sl:List Int)(s:Int)(h:sl[ax sl]? =some s):s<0:=by
 unfold ax at h
 have e:sl=sl.takeWhile (λx=>decide (0≤x))++sl.dropWhile (λx=>decide (0≤x)):=(List.takeWhile_append_dropWhile).symm
 have h2:(sl.dropWhile (λx=>decide (0≤x)))[0]? =some s:=by
  have h3:=h
  rw[e,List.getElem?_append_right (by rw[←e];exact Nat.le_refl _)]at h3
  rw[←e,Nat.sub_self]at h3
  exact h3
 have:=List.head?_dropWhile_not (λx:Int=>decide (0≤x)) sl
 rw[List.head?_eq_getElem?,h2]at this
 simp at this;omega
def MZ (x:Recv)(sl:List Int)(F:Int):Recv:=
 if 3<(cf 33 0 (sl.drop (ax sl))).length then x
 else if F-(ax sl:Int)=0 then⟨(x.next+(ax sl:Int)+1)%4294967296,x.data++ay (sl.take (ax sl)),cf 33 0 (sl.drop (ax sl)),-1,true⟩
 else⟨(x.next+(ax sl:Int))%4294967296,x.data++ay (sl.take (ax sl)),cf 33 0 (sl.drop (ax sl)),if F= -1 then-1 else F-(ax sl:Int),x.done⟩
theorem Qg (x:Recv)(sl:List Int)(F:Int)(hx:RV x)(hd:x.done=false)(hl:sl.length=33)(h0: -1≤F)(hF:F≤nY x)(hz:∀(k:Nat) (s:Int),sl[k]? =some s→0≤s→(k:Int)<(if F= -1 then nY x else F)):RV (MZ x sl F):=by
 have hw:nY x=32-(x.data.length:Int):=by unfold nY;rw[hd];rfl
 have hdl:=hx.dl
 have hn:(ax sl:Int)≤(if F= -1 then nY x else F):=by
  rcases Nat.eq_zero_or_pos (ax sl)with h|h
  ·rw[h];split<;>omega
  ·obtain⟨s,h1,h2⟩:=qu sl (ax sl-1) (by omega)
   have:=hz _ s h1 h2
   omega
 have hn2:(ax sl:Int)≤nY x:=by split at hn<;>omega
 have htk:(sl.take (ax sl)).length=ax sl:=by rw[List.length_take];omega
 have hdd:∀(p:Nat) (s:Int),(sl.drop (ax sl))[p]? =some s→0≤s→(p:Int)+1≤(if F= -1 then nY x else F)-(ax sl:Int)∧0<p:=by
  intro p s hp hs
  rw[List.getElem?_drop]at hp
  have h1:=hz _ s hp hs
  refine⟨by omega, ?_⟩
  rcases Nat.eq_zero_or_pos p with h|h
  ·subst h
   have:=BW sl s (by simpa using hp)
   omega
  ·exact h
 have hwk:∃b,eh ((if F= -1 then nY x else F)-(ax sl:Int)) 0 (cf 33 0 (sl.drop (ax sl)))=some b:=by
  cases hD:sl.drop (ax sl)with
  |nil=>exact⟨0,by simp[cf,eh]⟩
  |cons d D=>
   have hd0:d<0:=by
    apply Int.not_le.1
    intro h
    have:=(hdd 0 d (by rw[hD];rfl) h).2
    omega
   have hDl:D.length≤32:=by
    have:=congrArg List.length hD
    rw[List.length_drop,List.length_cons]at this;omega
   show∃b,eh _ 0 (cf (32+1) 0 (d::D))=some b
   simp only[cf,if_pos hd0]
   exact AP _ 32 (0+1) D 0 hDl (by omega) (λp s hp hs=>by
    have:=(hdd (p+1) s (by rw[hD];simpa using hp) hs).1
    omega)
 unfold MZ
 by_cases h3:3<(cf 33 0 (sl.drop (ax sl))).length
 ·rw[if_pos h3];exact hx
 ·rw[if_neg h3]
  by_cases h4:F-(ax sl:Int)=0
  ·rw[if_pos h4]
   have hne:∀s∈sl.drop (ax sl),s<0:=by
    intro s hs
    obtain⟨p,hp,rfl⟩:=List.getElem_of_mem hs
    apply Int.not_le.1
    intro h
    have:=(hdd p _ (List.getElem?_eq_getElem hp) h).1
    have hm1:F≠-1:=by omega
    rw[if_neg hm1]at this
    omega
   rw[Gl _ _ _ hne]
   refine⟨by show 0≤(x.next+(ax sl:Int)+1)%4294967296;omega,by show(x.next+(ax sl:Int)+1)%4294967296≤4294967295;omega, ?_,Nat.zero_le _,Int.le_refl _, ?_,by show(-1:Int)≠0;omega,⟨0,by simp[eh]⟩,λ_=>⟨rfl,rfl⟩⟩
   ·show(x.data++ay (sl.take (ax sl))).length≤32
    rw[List.length_append,a9,htk];omega
   ·show(-1:Int)≤nY _
    unfold nY;rw[if_pos rfl];omega
  ·rw[if_neg h4]
   have hlen:(x.data++ay (sl.take (ax sl))).length=x.data.length+ax sl:=by rw[List.length_append,a9,htk]
   have hwin:∀(nx:Int) (hh:List Piec) (f:Int),nY ⟨nx,x.data++ay (sl.take (ax sl)),hh,f,x.done⟩=nY x-(ax sl:Int):=by
    intro nx hh f
    unfold nY
    simp only[hd,Bool.false_eq_true,if_false,hlen]
    omega
   refine⟨by show 0≤(x.next+(ax sl:Int))%4294967296;omega,by show(x.next+(ax sl:Int))%4294967296≤4294967295;omega,by show(x.data++ay (sl.take (ax sl))).length≤32;omega,by show(cf 33 0 (sl.drop (ax sl))).length≤3;omega, ?_, ?_, ?_, ?_,λh=>by rw[show({next:=(x.next+(ax sl:Int))%4294967296,data:=x.data++ay (sl.take (ax sl)),held:=cf 33 0 (sl.drop (ax sl)),fin:=if F= -1 then-1 else F-(ax sl:Int),done:=x.done}:Recv).done=x.done from rfl,hd]at h;cases h⟩
   ·show-1≤(if F= -1 then-1 else F-(ax sl:Int))
    split
    ·omega
    ·rename_i hm;rw[if_neg hm]at hn;omega
   ·show(if F= -1 then-1 else F-(ax sl:Int))≤nY _
    rw[hwin]
    split<;>omega
   ·show(if F= -1 then-1 else F-(ax sl:Int))≠0
    split<;>omega
   ·show∃b,eh (if(if F= -1 then-1 else F-(ax sl:Int))= -1 then nY _ else(if F= -1 then-1 else F-(ax sl:Int))) 0 (cf 33 0 (sl.drop (ax sl)))=some b
    rw[hwin]
    by_cases hm:F= -1
    ·simp only[if_pos hm]at hwk⊢
     exact hwk
    ·rw[if_neg hm]at hn
     simp only[if_neg hm]at hwk⊢
     rw[if_neg (show¬F-(ax sl:Int)= -1 by omega)]
     exact hwk
def pj:List Int→Nat→aA→List Int
 |sl,_,[]=>sl
 |sl,o,b::t=>pj (sl.set o (b.toNat:Int)) (o+1) t
theorem EE:∀(t:aA) (sl:List Int) (o:Nat),(pj sl o t).length=sl.length
 |[],_,_=>rfl
 |_::t,sl,o=>by simp only[pj,EE t,List.length_set]
def mP (held:List Piec):List Int:=held.foldl (λsl p=>pj sl p.off.toNat p.text) (List.replicate 33 (-1))
theorem IL (t:aA)(k:Nat)(hk:k<t.length):ce t k=(t[k].toNat:Int):=by
 simp[ce,List.getD,hk]
theorem DE (b:UInt8):(b.toNat:Int)≤255:=by have:=b.toNat_lt;omega
theorem Qr (p:Piec)(h1:1≤p.off)(h2:p.off+(p.text.length:Int)≤32){f:Int×List Int→Stp (Int×List Int) (List Int)}(hf:∀(k:Nat) sl,f ((k:Int),sl)=bif decide ((k:Int)<(p.text.length:Int))then .next (IntKind.wrap .i64 ((k:Int)+1),sl.set (IntKind.wrap .i64 (p.off+(k:Int))).toNat (IntKind.wrap .i64 (ce p.text k)))else .out sl):∀(n k:Nat) (sl:List Int),k+n=p.text.length→cz f (n+1) ((k:Int),sl)=pj sl (p.off.toNat+k) (p.text.drop k)
 |0,k,sl,h=>by
  simp only[cz,hf,decide_eq_false (show¬(k:Int)<(p.text.length:Int) by omega),cond_false,Stp.elim]
  rw[List.drop_of_length_le (by omega)]
  rfl
 |n+1,k,sl,h=>by
  have hk:k<p.text.length:=by omega
  rw[cz]
  simp only[hf,decide_eq_true (show(k:Int)<(p.text.length:Int) by omega),cond_true,Stp.elim]
  rw[au (m:=p.off+(k:Int)) (by omega) (by omega),au (m:=(k:Int)+1) (by omega) (by omega),IL _ _ hk,au (by omega) (by have:=DE p.text[k];omega)]
  rw[show(k:Int)+1=((k+1:Nat):Int) by omega,show(p.off+(k:Int)).toNat=p.off.toNat+k by omega]
  rw[Qr p h1 h2 hf n (k+1) _ (by omega),List.drop_eq_getElem_cons hk]
  rfl
theorem Pb (x:Recv)(h:cU po x.held):th.f (x,())=mP x.held:=by
 have e0:aU (λj a=>(ue j a).nice) 1 (Int.toNat (((List.replicate 33 (0:Int)).length:Int)-0)) 0 (List.replicate 33 (0:Int))= .next (List.replicate 33 (-1)):=by rfl
 simp only[PX,th,bS,eu]
 rw[e0]
 simp only[Stp.elim]
 rw[ar,bE x.held _ rfl (F:=λ_ p (a:List Int)=> .next (pj a p.off.toNat p.text)) (by
  intro j p a hp
  have hpo:=h p (BZ hp)
  unfold po at hpo
  have:=Qr p hpo.1 hpo.2 (f:=λa=>(lX (j:Int) x a).nice) (λk sl=>by
   simp only[lX,PX,aa,getD_some hp]) p.text.length 0 a (by omega)
  simp only[PX,ug,dr,aa,getD_some hp]
  rw[show Int.toNat ((p.text.length:Int)-0)=p.text.length by omega]
  exact congrArg Stp.next this)]
 have:∀(r:List Piec) (j:Nat) (a:List Int),eJ (W:=Empty) (λ_ p (a:List Int)=> .next (pj a p.off.toNat p.text)) j r a= .next (r.foldl (λsl p=>pj sl p.off.toNat p.text) a):=by
  intro r
  induction r with
  |nil=>intro j a;rfl
  |cons p r ih=>intro j a;simp only[eJ,Stp.elim,ih,List.foldl_cons]
 rw[this]
 simp only[Stp.elim]
 rfl
theorem Vm {m:Int}(h0:0≤m)(h1:m≤255):IntKind.wrap .u8 m=m:=by
 rw[rt];omega
def yD (x:Recv)(seq w:Int)(sl:List Int)(j:Nat)(b:UInt8):List Int:=
 if(seq+(j:Int)-x.next)%4294967296<w∧(x.fin<0∨(seq+(j:Int)-x.next)%4294967296<x.fin)∧sl.getD ((seq+(j:Int)-x.next)%4294967296).toNat 0<0 then sl.set ((seq+(j:Int)-x.next)%4294967296).toNat (b.toNat:Int)else sl
def xj (x:Recv)(seq w:Int):List Int→Nat→aA→List Int
 |sl,_,[]=>sl
 |sl,j,b::t=>xj x seq w (yD x seq w sl j b) (j+1) t
theorem SZ (x:Recv)(seq w:Int)(sl:List Int)(j:Nat)(b:UInt8):(yD x seq w sl j b).length=sl.length:=by
 unfold yD;split<;>simp
theorem NK (x:Recv)(seq w:Int):∀(t:aA) (sl:List Int) (j:Nat),(xj x seq w sl j t).length=sl.length
 |[],_,_=>rfl
 |b::t,sl,j=>by simp only[xj,NK x seq w t,SZ]
theorem Qw (a n:Int):((a%4294967296)-n)%4294967296=(a-n)%4294967296:=by omega
theorem IV {A W:Type}(z:A→A)(g:List Int→Nat→UInt8→List Int):∀(t:aA) (j:Nat) (r:A) (sl:List Int),∃r2,eJ (W:=W) (λj b (a:A×List Int)=> .next (z a.1,g a.2 j b)) j t (r,sl)= .next (r2,(t.foldl (λ(p:List Int×Nat) b=>(g p.1 p.2 b,p.2+1)) (sl,j)).1)
 |[],j,r,sl=>⟨r,rfl⟩
 |b::t,j,r,sl=>by
  obtain⟨r2,e⟩:=IV z g t (j+1) (z r) (g sl j b)
  refine⟨r2, ?_⟩
  simp only[eJ,Stp.elim,List.foldl_cons]
  exact e
theorem HV (x:Recv)(seq w:Int):∀(t:aA) (sl:List Int) (j:Nat),(t.foldl (λ(p:List Int×Nat) b=>(yD x seq w p.1 p.2 b,p.2+1)) (sl,j)).1=xj x seq w sl j t
 |[],_,_=>rfl
 |b::t,sl,j=>by simp only[List.foldl_cons,xj,HV x seq w t]
theorem W9 (x:Recv)(seq w:Int)(t:aA)(hn:0≤x.next∧x.next≤4294967295)(ht:t.length≤4294967296)(r:Recv)(sl:List Int):∃r2,aU (λj a=>(pJ seq t w x j a).nice) 1 (Int.toNat ((t.length:Int)-0)) 0 (r,sl)= .next (r2,xj x seq w sl 0 t):=by
 obtain⟨r2,e⟩:=IV (W:=Empty) (λr:Recv=>({r with held:=[]}:Recv)) (yD x seq w) t 0 r sl
 refine⟨r2, ?_⟩
 rw[ar,bE t _ rfl (F:=λj b (a:Recv×List Int)=> .next (({a.1 with held:=[]}:Recv),yD x seq w a.2 j b)) (by
  intro j b a hb
  have hbt:ce t j=(b.toNat:Int):=by simp[ce,List.getD,hb]
  have hb8:=DE b
  have e1:(IntKind.wrap .i64 ((seq+(j:Int))%4294967296-x.next))%4294967296=(seq+(j:Int)-x.next)%4294967296:=by
   rw[au (by omega) (by omega),Qw]
  simp only[PX,pJ,ig,bH,m8,aa,hbt,e1]
  rw[au (by omega) (by omega)]
  unfold yD
  generalize(seq+(j:Int)-x.next)%4294967296=o
  by_cases c1:o<w
  ·by_cases c2:x.fin<0
   ·by_cases c3:a.2.getD o.toNat 0<0
    ·simp only[decide_eq_true c1,decide_eq_true c2,decide_eq_true c3,cond_true,if_pos (show o<w∧(x.fin<0∨o<x.fin)∧a.2.getD o.toNat 0<0 from⟨c1,.inl c2,c3⟩)]
    ·simp only[decide_eq_true c1,decide_eq_true c2,decide_eq_false c3,cond_true,cond_false,if_neg (show¬(o<w∧(x.fin<0∨o<x.fin)∧a.2.getD o.toNat 0<0) from λh=>c3 h.2.2)]
   ·by_cases c4:o<x.fin
    ·by_cases c3:a.2.getD o.toNat 0<0
     ·simp only[decide_eq_true c1,decide_eq_false c2,decide_eq_true c4,decide_eq_true c3,cond_true,cond_false,if_pos (show o<w∧(x.fin<0∨o<x.fin)∧a.2.getD o.toNat 0<0 from⟨c1,.inr c4,c3⟩)]
     ·simp only[decide_eq_true c1,decide_eq_false c2,decide_eq_true c4,decide_eq_false c3,cond_true,cond_false,if_neg (show¬(o<w∧(x.fin<0∨o<x.fin)∧a.2.getD o.toNat 0<0) from λh=>c3 h.2.2)]
    ·simp only[decide_eq_true c1,decide_eq_false c2,decide_eq_false c4,cond_true,cond_false,if_neg (show¬(o<w∧(x.fin<0∨o<x.fin)∧a.2.getD o.toNat 0<0) from λh=>h.2.1.elim c2 c4)]
  ·simp only[decide_eq_false c1,cond_false,if_neg (show¬(o<w∧(x.fin<0∨o<x.fin)∧a.2.getD o.toNat 0<0) from λh=>c1 h.1)])]
 rw[e,HV]
theorem Sk (sl:List Int)(e:Nat)(he:e≤sl.length):rK.f (sl,(e:Int),())=(sl.drop e).all (λs=>decide (s<0)):=by
 have key:∀(n j:Nat),j+n=sl.length→aU (λj a=>(mu sl j a).nice) 1 n (j:Int) ()=bif (sl.drop j).all (λs=>decide (s<0))then .next ()else .out ():=by
  intro n
  induction n with
  |zero=>intro j h;rw[List.drop_of_length_le (by omega)];rfl
  |succ n ih=>
   intro j h
   have hj:j<sl.length:=by omega
   have ih:=ih (j+1) (by omega)
   rw[List.drop_eq_getElem_cons hj,List.all_cons]
   simp only[mu,PX]at ih
   simp only[aU,mu,PX,aa,getD_some (List.getElem?_eq_getElem hj)]
   by_cases h0:0≤sl[j]
   ·rw[decide_eq_true h0,decide_eq_false (show¬sl[j]<0 by omega)];rfl
   ·rw[decide_eq_false h0,decide_eq_true (show sl[j]<0 by omega)]
    simp only[cond_false,Stp.elim,Bool.true_and]
    rw[show(j:Int)+1=((j+1:Nat):Int) by omega]
    exact ih
 simp only[PX,rK,mj]
 rw[show Int.toNat ((sl.length:Int)-(e:Int))=sl.length-e by omega,key _ _ (by omega)]
 cases(sl.drop e).all (λs=>decide (s<0))<;>rfl
theorem T9 (sl:List Int)(hr:∀s∈sl,s≤255)(hl:ax sl<sl.length):∀(n j:Nat) (r:Recv),j+n=ax sl→aU (λj a=>(i4 sl j a).nice) 1 (sl.length-j) (j:Int) (r,sl.take j)= .out ((ax sl:Int),({r with held:=[]}:Recv),sl.take (ax sl))
 |0,j,r,h=>by
  have hj:j=ax sl:=by omega
  subst hj
  have hg:=List.getElem?_eq_getElem hl
  have h0:=BW sl _ hg
  rw[show sl.length-ax sl=(sl.length-ax sl-1)+1 by omega]
  simp only[aU,i4,PX,aa,getD_some hg,decide_eq_false (show¬0≤sl[ax sl] by omega),cond_false,Stp.elim]
 |n+1,j,r,h=>by
  obtain⟨s,hs1,lg⟩:=qu sl j (by omega)
  have hj:j<sl.length:=by omega
  have ih:=T9 sl hr hl n (j+1) ({r with held:=[]}:Recv) (by omega)
  have Ug:=hr s (BZ hs1)
  rw[show sl.length-j=(sl.length-(j+1))+1 by omega]
  rw[List.take_succ_eq_append_getElem hj]at ih
  have he:sl[j]=s:=by rw[List.getElem?_eq_getElem hj]at hs1;exact Option.some.inj hs1
  rw[he]at ih
  simp only[i4,PX]at ih
  simp only[aU,i4,PX,aa,getD_some hs1,decide_eq_true lg,cond_true,Stp.elim]
  rw[Vm lg Ug,show(j:Int)+1=((j+1:Nat):Int) by omega]
  exact ih
theorem Uq (x:Recv)(seq w:Int)(sl:List Int)(j:Nat)(b:UInt8)(k:Nat)(s:Int)(h:(yD x seq w sl j b)[k]? =some s):sl[k]? =some s∨(s=(b.toNat:Int)∧(k:Int)<w∧(x.fin<0∨(k:Int)<x.fin)):=by
 unfold yD at h
 generalize ho:(seq+(j:Int)-x.next)%4294967296=o at h
 have h0:0≤o:=by omega
 split at h
 ·rename_i hc
  rw[List.getElem?_set]at h
  split at h
  ·rename_i hk
   split at h
   ·refine .inr ⟨(Option.some.inj h).symm,by omega, ?_⟩
    rcases hc.2.1 with h2|h2
    ·exact .inl h2
    ·exact .inr (by omega)
   ·cases h
  ·exact .inl h
 ·exact .inl h
theorem Qi (x:Recv)(seq w:Int):∀(t:aA) (sl:List Int) (j:Nat) (k:Nat) (s:Int),(xj x seq w sl j t)[k]? =some s→sl[k]? =some s∨(0≤s∧s≤255∧(k:Int)<w∧(x.fin<0∨(k:Int)<x.fin))
 |[],_,_,_,_,h=> .inl h
 |b::t,sl,j,k,s,h=>by
  rcases Qi x seq w t _ (j+1) k s h with h1|h1
  ·rcases Uq x seq w sl j b k s h1 with h2|⟨h2,h3,h4⟩
   ·exact .inl h2
   ·exact .inr ⟨by omega,by have:=DE b;omega,h3,h4⟩
  ·exact .inr h1
theorem Qo:∀(t:aA) (sl:List Int) (o k:Nat) (s:Int),(pj sl o t)[k]? =some s→sl[k]? =some s∨(0≤s∧s≤255∧o≤k∧k<o+t.length)
 |[],_,_,_,_,h=> .inl h
 |b::t,sl,o,k,s,h=>by
  simp only[pj]at h
  rcases Qo t _ (o+1) k s h with h1|⟨h1,h2,h3,h4⟩
  ·rw[List.getElem?_set]at h1
   split at h1
   ·rename_i hk
    split at h1
    ·have e:=(Option.some.inj h1).symm
     exact .inr ⟨by omega,by have:=DE b;omega,by omega,by simp only[List.length_cons];omega⟩
    ·cases h1
   ·exact .inl h1
  ·exact .inr ⟨h1,h2,by omega,by simp only[List.length_cons];omega⟩
theorem NT (L:Int):∀(held:List Piec) (a b:Int) (sl:List Int),0≤a→eh L a held=some b→a≤L→∀(k:Nat) (s:Int),(held.foldl (λsl p=>pj sl p.off.toNat p.text) sl)[k]? =some s→sl[k]? =some s∨(0≤s∧s≤255∧(k:Int)<L)
 |[],_,_,_,_,_,_,_,_,h=> .inl h
 |p::r,a,b,sl,h0,hw,ha,k,s,h=>by
  simp only[eh]at hw
  cases hc:((p.text==[])||decide (p.off≤a)||decide (L<p.off+(p.text.length:Int)))with
  |true=>rw[hc]at hw;cases hw
  |false=>
   rw[hc]at hw
   simp only[Bool.or_eq_false_iff,decide_eq_false_iff_not]at hc
   simp only[List.foldl_cons]at h
   rcases NT L r _ b _ (by omega) hw (by omega) k s h with h1|h1
   ·rcases Qo p.text sl p.off.toNat k s h1 with h2|⟨h2,h3,h4,h5⟩
    ·exact .inl h2
    ·exact .inr ⟨h2,h3,by omega⟩
   ·exact .inr h1
theorem qd:∀(held:List Piec) (sl:List Int),(held.foldl (λsl p=>pj sl p.off.toNat p.text) sl).length=sl.length
 |[],_=>rfl
 |p::r,sl=>by simp only[List.foldl_cons,qd r,EE]
theorem Ek (x:Recv)(hx:RV x)(seq:Int)(t:aA):(xj x seq (nY x) (mP x.held) 0 t).length=33∧∀(k:Nat) (s:Int),(xj x seq (nY x) (mP x.held) 0 t)[k]? =some s→-1≤s∧s≤255∧(0≤s→(k:Int)<(if x.fin= -1 then nY x else x.fin)):=by
 have hw:=oT x hx.dl
 have hf0:=hx.f0
 have hf1:=hx.f1
 have hfz:=hx.fz
 refine⟨by rw[NK];unfold mP;rw[qd];rfl,λk s h=> ?_⟩
 rcases Qi x seq (nY x) t _ 0 k s h with h1|⟨h1,h2,h3,h4⟩
 ·obtain⟨b,hb⟩:=hx.wk
  unfold mP at h1
  rcases NT _ x.held 0 b _ (Int.le_refl _) hb (by split<;>omega) k s h1 with h2|⟨h2,h3,h4⟩
  ·have:s= -1:=by
    have hm:=List.mem_of_getElem? h2
    exact List.eq_of_mem_replicate hm
   omega
  ·exact⟨by omega,h3,λ_=>h4⟩
 ·refine⟨by omega,h2,λ_=> ?_⟩
  split
  ·exact h3
  ·rcases h4 with h5|h5<;>omega
theorem ME (sl:List Int)(hr:∀s∈sl,s≤255)(hl:sl.length=33)(n:Nat):∀(m j:Nat) (a:List Piec),n≤j→j+m=33→a.length≤33→(∀p,a.getLast? =some p→0≤p.off∧qX p≤(j:Int)-(n:Int))→a.length+m≤33→aU (λj a=>(bV sl (n:Int) j a).nice) 1 m (j:Int) a= .next (HA a ((j:Int)-(n:Int)) (sl.drop j))
 |0,j,a,h1,h2,_,_,_=>by rw[List.drop_of_length_le (by omega)];simp only[aU,HA]
 |m+1,j,a,h1,h2,h3,h4,h5=>by
  have hj:j<sl.length:=by omega
  have hs:=List.getElem?_eq_getElem hj
  have hs8:=hr _ (BZ hs)
  rw[List.drop_eq_getElem_cons hj]
  generalize sl[j]=s at hs hs8⊢
  have ej:(j:Int)+1=((j+1:Nat):Int):=by omega
  have en:(j:Int)-(n:Int)+1=((j+1:Nat):Int)-(n:Int):=by omega
  by_cases h0:s<0
  ·have ih:=ME sl hr hl n m (j+1) a (by omega) (by omega) h3 (λp hp=>by have:=h4 p hp;omega) (by omega)
   simp only[PX,bV]at ih
   simp only[aU,PX,bV,aa,getD_some hs,decide_eq_true h0,cond_true,Stp.elim,HA,if_pos h0]
   rw[ej,en]
   exact ih
  ·have hw8:IntKind.wrap .u8 s=s:=Vm (by omega) hs8
   rcases List.eq_nil_or_concat a with rfl|⟨b,p,rfl⟩
   ·have ih:=ME sl hr hl n m (j+1) [⟨(j:Int)-(n:Int),ay [s]⟩] (by omega) (by omega) (by simp) (λp hp=>by
     simp only[List.getLast?_singleton,Option.some.injEq]at hp
     subst hp
     simp only[qX,a9,List.length_singleton];omega) (by simp;omega)
    simp only[PX,bV]at ih
    have e0:decide (0<(([]:List Piec).length:Int))=false:=by simp
    simp only[aU,PX,bV,aa,getD_some hs,decide_eq_false h0,cond_false,Stp.elim,HA,if_neg h0,e0,List.getLast?_nil,hw8,List.nil_append]
    rw[ej,en,au (m:=(j:Int)-(n:Int)) (by omega) (by omega)]
    exact ih
   ·simp only[List.concat_eq_append]at*
    have hp:=h4 p (by simp)
    have hbl:(b++[p]).length=b.length+1:=by simp
    have e0:decide (0<((b++[p]).length:Int))=true:=by rw[decide_eq_true_iff,hbl];omega
    have e1:(IntKind.wrap .i64 (((b++[p]).length:Int)-1)).toNat=b.length:=by rw[hbl,au (by omega) (by omega)];omega
    have e2:(b++[p]).getD b.length (Ty.zero .piec)=p:=by simp[List.getD]
    have e3:∀q,(b++[p]).set b.length q=b++[q]:=λq=>by simp
    have hoff:=hp.1
    have hend:=hp.2
    unfold qX at hend
    by_cases he:qX p=(j:Int)-(n:Int)
    ·have ih:=ME sl hr hl n m (j+1) (b++[⟨p.off,p.text++ay [s]⟩]) (by omega) (by omega) (by simp at h3⊢;omega) (λq hq=>by
      simp only[List.getLast?_append,List.getLast?_singleton,Option.some_or,Option.some.injEq]at hq
      subst hq
      unfold qX at he
      simp only[qX,List.length_append,a9,List.length_singleton];omega) (by simp at h5⊢;omega)
     simp only[PX,bV]at ih
     have e4:(IntKind.wrap .i64 (p.off+(p.text.length:Int))==IntKind.wrap .i64 ((j:Int)-(n:Int)))=true:=by
      unfold qX at he
      rw[he];exact beq_self_eq_true _
     simp only[aU,PX,bV,aa,getD_some hs,decide_eq_false h0,cond_false,Stp.elim,HA,if_neg h0,e0,e1,e2,e3,e4,cond_true,hw8,List.getLast?_append,List.getLast?_singleton,Option.some_or,if_pos he,List.dropLast_concat]
     rw[ej,en]
     exact ih
    ·have ih:=ME sl hr hl n m (j+1) (b++[p]++[⟨(j:Int)-(n:Int),ay [s]⟩]) (by omega) (by omega) (by simp at h3 h5⊢;omega) (λq hq=>by
      simp only[List.getLast?_append,List.getLast?_singleton,Option.some_or,Option.some.injEq]at hq
      subst hq
      simp only[qX,a9,List.length_singleton];omega) (by simp at h5⊢;omega)
     simp only[PX,bV]at ih
     have e4:(IntKind.wrap .i64 (p.off+(p.text.length:Int))==IntKind.wrap .i64 ((j:Int)-(n:Int)))=false:=by
      unfold qX at he
      rw[au (by omega) (by omega),au (by omega) (by omega),beq_eq_false_iff_ne];exact he
     simp only[aU,PX,bV,aa,getD_some hs,decide_eq_false h0,cond_false,Stp.elim,HA,if_neg h0,e0,e1,e2,e4,cond_true,hw8,List.getLast?_append,List.getLast?_singleton,Option.some_or,if_neg he]
     rw[ej,en,au (m:=(j:Int)-(n:Int)) (by omega) (by omega)]
     exact ih
theorem Co (sl:List Int)(hr:∀s∈sl,s≤255)(hl:sl.length=33)(n:Nat)(hn:n≤33):nL.f (sl,(n:Int),())=cf 33 0 (sl.drop n):=by
 simp only[PX,nL,gn]
 rw[show Int.toNat ((sl.length:Int)-(n:Int))=33-n by omega]
 rw[ME sl hr hl n (33-n) n [] (Nat.le_refl _) (by omega) (by simp) (λp hp=>by simp at hp) (by simp)]
 simp only[Stp.elim]
 rw[Int.sub_self,Eo 33 [] 0 (sl.drop n) (by rw[List.length_drop];omega) (λp hp=>by simp at hp)]
 rfl
def Ea (x:Recv)(sl:List Int)(e:Int)(fin:Bool):Int:=if fin=true∧x.fin<0∧e≤nY x∧(sl.drop e.toNat).all (λs=>decide (s<0))=true then e else x.fin
def Fr (x:Recv)(seq:Int)(t:aA):List Int:=xj x seq (nY x) (mP x.held) 0 t
def md (x:Recv)(seq:Int)(t:aA)(fin:Bool):Recv:=
 if br.f (x,())=true∧x.done=false then MZ x (Fr x seq t) (Ea x (Fr x seq t) ((seq+(t.length:Int)-x.next)%4294967296) fin)else x
theorem B1 (L:Int):∀(r:List Piec) (a b:Int),0≤a→L≤32→eh L a r=some b→cU po r
 |[],_,_,_,_,_=>λ_ h=>by cases h
 |p::r,a,b,h0,hL,h=>by
  simp only[eh]at h
  cases hc:((p.text==[])||decide (p.off≤a)||decide (L<p.off+(p.text.length:Int)))with
  |true=>rw[hc]at h;cases h
  |false=>
   rw[hc]at h
   simp only[Bool.or_eq_false_iff,decide_eq_false_iff_not]at hc
   have ih:=B1 L r _ b (by omega) hL h
   intro y hy
   rcases List.mem_cons.1 hy with rfl|hy
   ·unfold po;omega
   ·exact ih y hy
theorem Eu (x:Recv)(hx:RV x):cU po x.held:=by
 obtain⟨b,hb⟩:=hx.wk
 have h1:=oT x hx.dl
 have h2:=hx.f1
 exact B1 _ x.held 0 b (Int.le_refl _) (by split<;>omega) hb

end
end Go.Proofs.YtbkjnlihfgkkaaaGreat
