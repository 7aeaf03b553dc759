/-
  Contracts of functions and plain laws (printed by a program): each theorem says what a function of the program returns; conditions are its hypotheses.
-/
import Derived.Test.YtfpdenjmlnhnnaaGreatEJ1
set_option linter.all false
set_option maxRecDepth 4000
namespace Go.Proofs.YtfpdenjmlnhnnaaGreat
open Go Go.RowKit
noncomputable section
noncomputable def K5:=[kB,rX,HV]
noncomputable def LK:Fx:=⟨388,Tryz.f388,[(3000007,rA 0 68)],0⟩
noncomputable def aZ:FT (Sndr×Int×Int×Unit) (Chun×Bool) (λx=>bP x.1) (λx v=>qn v.1∧(v.2=true→SO x.1∧(v.1.text.length:Int)+x.1.sent≤x.1.data.length∧x.1.finSent=false∧(v.1.text=[]→v.1.fin=true)∧(v.1.fin=true→x.1.fin=true∧x.1.done=false∧x.1.sent+v.1.text.length=x.1.data.length))):= .mk λ(x0,x1,x2,_)=>
  .cal ba.c (x0,()) λc1=>
  .ite (!c1) (.ret ((⟨0,[],false⟩:Chun),false))<|
  .cal cZ.c (x0,()) λc2=>
  .grd (KV x0.data x0.sent (x0.data.length:Int))<|
  .val (((x0.data.take ((x0.data.length:Int).toNat)).drop x0.sent.toNat).length:Int) λe3=>
  .val (β:=Int) (if(IntKind.wrap .i64 ((if x1<(-1)then(-1)else x1)-c2))<(if x2<e3 then x2 else e3)then(IntKind.wrap .i64 ((if x1<(-1)then(-1)else x1)-c2))else(if x2<e3 then x2 else e3)) λe4=>
  .cal ic.c (x0,()) λc5=>
  .grd ((decide (0≤(if 0<e4 then e4 else 0)))&&(decide ((if 0<e4 then e4 else 0)≤(((x0.data.take ((x0.data.length:Int).toNat)).drop x0.sent.toNat).length:Int))))<|
  .val ((((x0.data.take ((x0.data.length:Int).toNat)).drop x0.sent.toNat).take ((if 0<e4 then e4 else 0).toNat)).drop 0) λe6=>
  .ite x0.fin (.ite (!x0.finSent) (.ite (!x0.done) (.val (((x0.data.take ((x0.data.length:Int).toNat)).drop x0.sent.toNat).length:Int) λe7=>
     .ite ((if 0<e4 then e4 else 0)==e7) (.bnd (β:=Bool×Unit) (.ite (e6==[]) (.ret ((!(decide ((if 0<e4 then e4 else 0)<(IntKind.wrap .i64 ((if x1<(-1)then(-1)else x1)-c2))))),()))<|
       .ret (false,())) λ(u8a0,_)=>
      .ite u8a0 (.ret ((⟨0,[],false⟩:Chun),false))<|
      .ret ((⟨c5,e6,(decide ((if 0<e4 then e4 else 0)<(IntKind.wrap .i64 ((if x1<(-1)then(-1)else x1)-c2))))⟩:Chun),true))<|
     .bnd (β:=Bool×Unit) (.ite (e6==[]) (.ret (true,()))<|
      .ret (false,())) λ(u9a0,_)=>
     .ite u9a0 (.ret ((⟨0,[],false⟩:Chun),false))<|
     .ret ((⟨c5,e6,false⟩:Chun),true))<|
    .bnd (β:=Bool×Unit) (.ite (e6==[]) (.ret (true,()))<|
     .ret (false,())) λ(u10a0,_)=>
    .ite u10a0 (.ret ((⟨0,[],false⟩:Chun),false))<|
    .ret ((⟨c5,e6,false⟩:Chun),true))<|
   .bnd (β:=Bool×Unit) (.ite (e6==[]) (.ret (true,()))<|
    .ret (false,())) λ(u11a0,_)=>
   .ite u11a0 (.ret ((⟨0,[],false⟩:Chun),false))<|
   .ret ((⟨c5,e6,false⟩:Chun),true))<|
  .bnd (β:=Bool×Unit) (.ite (e6==[]) (.ret (true,()))<|
   .ret (false,())) λ(u12a0,_)=>
  .ite u12a0 (.ret ((⟨0,[],false⟩:Chun),false))<|
  .ret ((⟨c5,e6,false⟩:Chun),true)
noncomputable def LQ:=bK st LK K5 [] (ks:=[.st .sndr,.sc (.int .i64),.sc (.int .i64)]) aZ (λv=>[(true,ZU v.1),(false,[.c (.bool v.2)])]) Tryz.func388 trivial
noncomputable def H2:=[rz,kp,xw,vl,Om]
noncomputable def JP:Fx:=⟨398,Tryz.f398,[(3000003,rA 0 4)],0⟩
noncomputable def qi:FT (Conn×Segm×Unit) (Bool) (λx=>aa x.1∧am x.2.1) (λ_ _=>True):= .mk λ(x0,x1,_)=>
  .cal aK.c (x1,()) λc1=>
  .cal bp.c (x0.r,()) λc2=>
  .ite (c1==0) (.bnd (β:=Bool×Unit) (.val (qx.f (x1.seq,x0.r.next,())) λc3=>
    .ite (c3==0) (.ret (true,()))<|
    .val (oa.f (x1.seq,x0.r.next,c2,())) λc4=>
    .ret (c4,())) λ(u5a0,_)=>
   .ret u5a0)<|
  .val (wq.f (x1.seq,c1,x0.r.next,c2,())) λc6=>
  .ret c6
noncomputable def Iv:=bK st JP H2 [] (ks:=[.st .conn,.st .segm]) qi rB Tryz.func398 trivial
noncomputable def jH:=[nv,rZ,kp,fN,DX,BS,Gd]
def kC:Sh:=⟨[zi 1,zs 2,zb 3,zp 4 0,zp 8 1,zp 9 2,zi 10,zp 11 3,zp 12 4,(13,false,[.fn 448 [4,3]]),zp 15 5,zl 42 .piec,zi 43,zi 44,zi 50,zi 51],[zg .recv,.box [.st .recv [.nil .piec]],zk .recv 6,.box [.own 7],.box [.own 8],zx .piec,zf,za .u8,za .bool]⟩
def ny:Sh:=⟨[zi 1,zs 2,zb 3,zp 4 0,zp 8 1,zp 9 2,zi 10,zp 11 3,zp 12 4,(13,false,[.fn 448 [4,3]]),zl 42 .piec,zi 43,zi 44],[zg .recv,.box [.st .recv [.nil .piec]],zk .recv 5,.box [.own 6],.box [.own 7],zf,za .u8,za .bool]⟩
def m7:Sh:=⟨[zi 1,zs 2,zb 3,zp 4 0,zp 8 1,zp 9 2,zi 10,zp 11 3,zp 12 4,(13,false,[.fn 448 [4,3]]),zi 67,zi 68],[zg .recv,.box [.st .recv [.nil .piec]],zk .recv 5,.box [.own 6],.box [.own 7],zf,za .u8,za .bool]⟩
def mJ:Sh:=⟨[zp 4 0,zp 8 1,zp 9 2,zi 10,zp 11 3,zp 12 4,zp 19 5,zi 21],[zg .recv,.box [.st .recv [.nil .piec]],zk .recv 6,.box [.own 7],.box [.sl .any .bool],zg .recv,zf,za .u8]⟩
def kb:Sh:=⟨[zp 8 0,zp 9 1,zi 10,zp 11 2,zp 12 3,zp 19 4,zi 21,zi 22,zi 23],[.box [.st .recv [.nil .piec]],zk .recv 5,.box [.own 6],.box [.sl .any .bool],zk .recv 7,zf,za .u8,zf]⟩
def m5:Sh:=⟨[zp 8 0,zp 9 1,zi 10,zp 11 2,zp 12 3,zp 19 4,zi 21,zi 22],[.box [.st .recv [.nil .piec]],zk .recv 5,.box [.own 6],.box [.sl .any .bool],zk .recv 7,zf,za .u8,zf]⟩
def tK:An:=⟨⟨[],[],false,0⟩,⟨[4,8,9,10,11,12,19],[],false,0⟩,⟨[],[]⟩,[(.normal,⟨[zp 4 0,zp 8 1,zp 9 2,zi 10,zp 11 3,zp 12 4,zp 19 5],[zg .recv,.box [.st .recv [.nil .piec]],zk .recv 6,.box [.own 7],.box [.sl .any .bool],zg .recv,zf,za .u8]⟩)]⟩
def oh:An:=⟨⟨[],[],false,0⟩,⟨[8,9,10,11,12,19,21],[],false,0⟩,⟨[],[]⟩,[(.normal,⟨[zp 8 0,zp 9 1,zi 10,zp 11 2,zp 12 3,zp 19 4,zi 21],[.box [.st .recv [.nil .piec]],zk .recv 5,.box [.own 6],.box [.sl .any .bool],zg .recv,zf,za .u8]⟩)]⟩
noncomputable def jM:Fx:=⟨403,Tryz.f403,[(2,lb [1,2,3,4,8,9,10,11,12,13,15,42,43,44,50,51] [1,2,3,4,8,9,10,11,12,13,42,43,44]),(0,lb [1,2,3,4,8,9,10,11,12,13,42,43,44] [1,2,3,4,8,9,10,11,12,13]),(4,la ⟨[1,2,3,4,8,9,10,11,12,13,67,68],[],false,0⟩ ⟨[1,2,3,4,8,9,10,11,12],[.softb 12 0],false,0⟩),(6,lb [4,8,9,10,11,12,19,21] [4,8,9,10,11,12,19,21]),(10,lb [8,9,10,11,12,19,21,22,23] [8,9,10,11,12,19,21,22,23]),(8,la ⟨[8,9,10,11,12,19,21,22],[.box 19 2 .piec],false,0⟩ ⟨[8,9,19],[],false,0⟩),(1000123,tK),(1000152,oh),(3000002,rA 0 32),(3000021,rA 0 90),(3000026,rA 0 123)],0⟩
noncomputable def nY (vb12:Piec)(vb8:Int)(a:Recv×List Int×List Bool):Tr (Stp (Recv×List Int×List Bool) (Empty)):=
 .grd (cd vb12.text vb8)<|
 .cal gr.c ((IntKind.wrap .i64 (vb12.off+vb8)),(ah vb12.text vb8.toNat),a.2.2,a.2.1,()) λc5=>
 .ret (.next (({a.1 with held:=[]}:Recv),c5.2,c5.1))
noncomputable def dD:kC.V→tF kC (Recv×List Int×List Bool):=λ(vb0,vb1,vb2,vb3,vb4,vb5,vb6,vb7,vb8,vb9,vb10,vb11,vb12,vb13,vb14,_)=>⟨vb8,(vb10,vb13,vb14),λvb8 a=>(vb0,vb1,vb2,vb3,vb4,vb5,vb6,vb7,vb8,vb9,a.1,vb11,vb12,a.2.1,a.2.2,()),λvb8 _=>(decide (vb8<vb7)),nY vb12,up,1,(Int.toNat (vb7-vb8)),Empty.elim,Prod.mk,oN (.exit 2) ⟨[zi 1,zs 2,zb 3,zp 4 0,zp 8 1,zp 9 2,zi 10,zp 11 3,zp 12 4,(13,false,[.fn 448 [4,3]]),zl 42 .piec,zi 43,zi 44],[zg .recv,.box [.st .recv [.nil .piec]],zk .recv 5,.box [.own 6],.box [.own 7],zf,za .u8,za .bool]⟩ (λx=>(vb0,vb1,vb2,vb3,vb4,vb5,vb6,vb9,({x.2.1 with held:=[]}:Recv),vb11,x.2.2.1,x.2.2.2,()))⟩
theorem ES:LS Tryz.prog jM [0,0] (j8 2 kC dD):=eU st (aV jH) _ dD [] trivial
theorem Ev {vb0 vb3 vb5 vb6 vb7 vb8:Int}{vb1:ae}{vb2:Bool}{vb4:List Piec}{vb9 vb10 vb11:Recv}{vb12:Piec}{vb13:List Int}{vb14:List Bool}(h0:0≤vb8)(h1:vb7≤4611686018427387904)(h2:1≤vb12.off∧vb12.off+(vb12.text.length:Int)≤vb3)(h3:vb3≤32)(h4:cM vb12)(h5:vb7≤(vb12.text.length:Int))(h6:aw vb10∧sS vb13∧sS vb14∧vb13.length=vb14.length∧(vb14.length:Int)=vb3):(dD (vb0,vb1,vb2,vb3,vb4,vb5,vb6,vb7,vb8,vb9,vb10,vb11,vb12,vb13,vb14,())).U vb7 (λvb8 a=>aw a.1∧sS a.2.1∧sS a.2.2∧a.2.1.length=a.2.2.length∧(a.2.2.length:Int)=vb3) (λ_=>True):=
 jV (a:=(vb10,vb13,vb14)) h0 h1 h6
noncomputable def gS (v0:Int)(v1:ae)(v2:Bool)(v3:Int)(v4:List Piec)(v5:Int)(v7 v9:Recv)(v6:Int)(a:Recv×List Int×List Bool):Tr (Stp (Recv×List Int×List Bool) (Empty)):=
 .grd (cd v4 v6)<|
 .lp (dD (v0,v1,v2,v3,v4,v5,v6,(((v4.getD v6.toNat (Ty.zero .piec)).text).length:Int),0,v7,({a.1 with held:=[]}:Recv),v9,(v4.getD v6.toNat (Ty.zero .piec)),a.2.1,a.2.2,())).lp λ(_,a6_0,a6_1,a6_2)=>
 .ret (.next (({({a6_0 with held:=[]}:Recv)with held:=[]}:Recv),a6_1,a6_2))
noncomputable def fE:ny.V→tF ny (Recv×List Int×List Bool):=λ(v0,v1,v2,v3,v4,v5,v6,v7,v8,v9,v10,v11,_)=>⟨v6,(v8,v10,v11),λv6 a=>(v0,v1,v2,v3,v4,v5,v6,v7,a.1,v9,a.2.1,a.2.2,()),λv6 _=>(decide (v6<v5)),gS v0 v1 v2 v3 v4 v5 v7 v9,up,1,(Int.toNat (v5-v6)),Empty.elim,Prod.mk,oN (.exit 0) ⟨[zi 1,zs 2,zb 3,zp 4 0,zp 8 1,zp 9 2,zi 10,zp 11 3,zp 12 4,(13,false,[.fn 448 [4,3]])],[zg .recv,.box [.st .recv [.nil .piec]],zk .recv 5,.box [.own 6],.box [.own 7],zf,za .u8,za .bool]⟩ (λx=>(v0,v1,v2,v3,v7,({x.2.1 with held:=[]}:Recv),v9,x.2.2.1,x.2.2.2,()))⟩
theorem IV:LS Tryz.prog jM [0] (j8 0 ny fE):=eU st (aV jH) _ fE [(j8 2 kC dD)] ⟨ES,trivial⟩
theorem Iw {v0 v3 v5 v6:Int}{v1:ae}{v2:Bool}{v4:List Piec}{v7 v8 v9:Recv}{v10:List Int}{v11:List Bool}(h0:0≤v6)(h1:v5≤4611686018427387904)(h2:cT (pw v3) v4)(h3:v3≤32)(h4:sS v1)(h5:sL cM v4)(h6:aw v7)(h7:aw v9)(h8:v5≤(v4.length:Int))(h9:aw v8∧sS v10∧sS v11∧v10.length=v11.length∧(v11.length:Int)=v3):(fE (v0,v1,v2,v3,v4,v5,v6,v7,v8,v9,v10,v11,())).U v5 (λv6 a=>aw a.1∧sS a.2.1∧sS a.2.2∧a.2.1.length=a.2.2.length∧(a.2.2.length:Int)=v3) (λ_=>True):=
 LC.okU (i:=v6) (a:=(v8,v10,v11)) (λ_ _=>rfl) (λ_=>rfl) rfl h0 h1 h9 λv6 (v8,v10,v11) hj hk hv=>by
  refine Tr.G2 ?_ λg0=>Tr.L (Ev ?_ ?_ ?_ ?_ ?_ ?_ ?_) (λ(a6_0,a6_1,a6_2) i6=>Tr.Rn ?_) (λp=>Empty.elim p)
  all_goals ((try simp only[dD,LC.lp,LC.ct,Ct.lp]at*)<;>(have hp:=adZ (i:=v6.toNat) h2 (by omega);simp only[pw]at hp;grind))
noncomputable def nz (v0:Int)(v1:ae)(v3:Int)(v6:Recv)(v5:Int)(a:Recv×List Int×List Bool):Tr (Stp (Recv×List Int×List Bool) (Empty)):=
 .val (bG.f (v0,v5,())) λc8=>
 .val (sT.f (c8,v6.next,())) λc9=>
 .bnd (β:=Bool×Unit) (.ite (decide (c9<v3)) (.ite (v6.fin==(-1)) (.ret (true,()))<|
   .ret ((decide (c9<v6.fin)),()))<|
  .ret (false,())) λ(u10a0,_)=>
 .ite u10a0 (.grd (cd v1 v5)<|
  .cal gr.c (c9,(ah v1 v5.toNat),a.2.2,a.2.1,()) λc11=>
  .ret (.next (({a.1 with held:=[]}:Recv),c11.2,c11.1)))<|
 .ret (.next (({a.1 with held:=[]}:Recv),a.2.1,a.2.2))
noncomputable def fA:m7.V→tF m7 (Recv×List Int×List Bool):=λ(v0,v1,v2,v3,v4,v5,v6,v7,v8,v9,v10,_)=>⟨v5,(v7,v9,v10),λv5 a=>(v0,v1,v2,v3,v4,v5,v6,a.1,v8,a.2.1,a.2.2,()),λv5 _=>(decide (v5<v4)),nz v0 v1 v3 v6,up,1,(Int.toNat (v4-v5)),Empty.elim,Prod.mk,oN (.exit 4) ⟨[zi 1,zs 2,zb 3,zp 4 0,zp 8 1,zp 9 2,zi 10,zp 11 3,zp 12 4],[zg .recv,.box [.st .recv [.nil .piec]],zk .recv 5,.box [.own 6],.box [.sl .any .bool],zf,za .u8]⟩ (λx=>(v0,v1,v2,v3,v6,({x.2.1 with held:=[]}:Recv),v8,x.2.2.2,x.2.2.1,()))⟩
theorem Ik:LS Tryz.prog jM [1] (j8 4 m7 fA):=eU st (aV jH) _ fA [] trivial
theorem Iy {v0 v3 v4 v5:Int}{v1:ae}{v2:Bool}{v6 v7 v8:Recv}{v9:List Int}{v10:List Bool}(h0:0≤v5)(h1:v4≤4611686018427387904)(h2:v3≤32)(h3:sS v1)(h4:aw v6)(h5:v4≤(v1.length:Int))(h6:aw v7∧sS v9∧sS v10∧v9.length=v10.length∧(v10.length:Int)=v3):(fA (v0,v1,v2,v3,v4,v5,v6,v7,v8,v9,v10,())).U v4 (λv5 a=>aw a.1∧sS a.2.1∧sS a.2.2∧a.2.1.length=a.2.2.length∧(a.2.2.length:Int)=v3) (λ_=>True):=
 jV (a:=(v7,v9,v10)) h0 h1 h6
noncomputable def ru (v5:List Bool)(v1:Int)(a:Recv):Tr (Stp (Recv) ((Int×Recv))):=
 .grd (cd v5 v1)<|
 .ite (v5.getD v1.toNat false) (.ret (.next ({a with held:=[]}:Recv)))<|
 .ret (.out (v1,({a with held:=[]}:Recv)))
noncomputable def eM:mJ.V→qo mJ Recv (Int×Recv):=λ(v0,v1,v2,v3,v4,v5,v6,v7,_)=>⟨v1,v3,λv1 a=>(v0,v1,v2,a,v4,v5,v6,v7,()),λv1 _=>(decide (v1<v0)),ru v5,up,1,(Int.toNat (v0-v1)),.inl,eR,oB (.exit 6) ⟨[zp 4 0,zp 8 1,zp 9 2,zi 10,zp 11 3,zp 12 4,zp 19 5,zi 21],[zg .recv,.box [.st .recv [.nil .piec]],zk .recv 6,.box [.own 7],.box [.sl .any .bool],zg .recv,zf,za .u8]⟩ (λp=>(v0,p.1,v2,p.2,v4,v5,v6,v7,())) (.exit 6) ⟨[zp 4 0,zp 8 1,zp 9 2,zi 10,zp 11 3,zp 12 4,zp 19 5,zi 21],[zg .recv,.box [.st .recv [.nil .piec]],zk .recv 6,.box [.own 7],.box [.sl .any .bool],zg .recv,zf,za .u8]⟩ (λx=>(v0,x.1,v2,({x.2 with held:=[]}:Recv),v4,v5,v6,v7,()))⟩
theorem HI:LS Tryz.prog jM [2] (j8 6 mJ eM):=eU st (aV jH) _ eM [] trivial
theorem Iq {v0 v1:Int}{v2 v3 v4 v6:Recv}{v5:List Bool}{v7:List Int}(h0:0≤v1)(h1:v0≤4611686018427387904)(h2:sS v5)(h3:v0≤(v5.length:Int))(h4:aw v3):(eM (v0,v1,v2,v3,v4,v5,v6,v7,())).U v0 (λv1 a=>aw a) (λp=>aw p.2∧v1≤p.1∧p.1<v0):=
 jV (a:=v3) h0 h1 h4
noncomputable def nS (vb6:List Bool)(vb2:Int)(a:Recv):Tr (Stp (Recv) ((Int×Recv))):=
 .grd (cd vb6 vb2)<|
 .ite (vb6.getD vb2.toNat false) (.ret (.next ({a with held:=[]}:Recv)))<|
 .ret (.out (vb2,({a with held:=[]}:Recv)))
noncomputable def d7:kb.V→qo kb Recv (Int×Recv):=λ(vb0,vb1,vb2,vb3,vb4,vb5,vb6,vb7,vb8,_)=>⟨vb2,vb4,λvb2 a=>(vb0,vb1,vb2,vb3,a,vb5,vb6,vb7,vb8,()),λvb2 _=>(decide (vb2<vb0)),nS vb6,up,1,(Int.toNat (vb0-vb2)),.inl,eR,oB (.exit 10) ⟨[zp 8 0,zp 9 1,zi 10,zp 11 2,zp 12 3,zp 19 4,zi 21,zi 22,zi 23],[.box [.st .recv [.nil .piec]],zk .recv 5,.box [.own 6],.box [.sl .any .bool],zk .recv 7,zf,za .u8,zf]⟩ (λp=>(vb0,vb1,p.1,vb3,p.2,vb5,vb6,vb7,vb8,())) (.exit 10) ⟨[zp 8 0,zp 9 1,zi 10,zp 11 2,zp 12 3,zp 19 4,zi 21,zi 22,zi 23],[.box [.st .recv [.nil .piec]],zk .recv 5,.box [.own 6],.box [.sl .any .bool],zk .recv 7,zf,za .u8,zf]⟩ (λx=>(vb0,vb1,x.1,vb3,({x.2 with held:=[]}:Recv),vb5,vb6,vb7,vb8,()))⟩
theorem DW:LS Tryz.prog jM [3,0] (j8 10 kb d7):=eU st (aV jH) _ d7 [] trivial
theorem Eo {vb0 vb1 vb2 vb3:Int}{vb4 vb5 vb7:Recv}{vb6:List Bool}{vb8:List Int}(h0:0≤vb2)(h1:vb0≤4611686018427387904)(h2:vb3=vb2)(h3:vb6.getD vb3.toNat false=true)(h4:sS vb6)(h5:vb0≤(vb6.length:Int))(h6:aw vb4):(d7 (vb0,vb1,vb2,vb3,vb4,vb5,vb6,vb7,vb8,())).U vb0 (λvb2 a=>aw a) (λp=>aw p.2∧vb2≤p.1∧p.1<vb0∧vb3<p.1):=
 jV (a:=vb4) h0 h1 h6
noncomputable def fB (v0 v1:Int)(v4:Recv)(v5:List Bool)(v7:List Int)(a:Int×Recv×Recv):Tr (Stp (Int×Recv×Recv) ((Recv×Recv))):=
 .ite (decide (a.1<v0)) (.grd (cd v5 a.1)<|
  .ite (!(v5.getD a.1.toNat false)) (.ret (.next ((IntKind.wrap .i64 (a.1+1)),({a.2.1 with held:=[]}:Recv),a.2.2)))<|
  .lp (d7 (v0,v1,a.1,a.1,({a.2.1 with held:=[]}:Recv),v4,v5,a.2.2,v7,())).lp λw22=> .sum w22 (λ(p22a0,p22a1)=>
  .grd (KV v7 a.1 p22a0)<|
  .grd (xr a.2.2.held 1 24)<|
  .val (a.2.2.held++[(⟨(IntKind.wrap .i64 (a.1-v1)),(aF ((v7.take p22a0.toNat).drop a.1.toNat))⟩:Piec)]) λl23=>
  .ret (.next (p22a0,({p22a1 with held:=[]}:Recv),({a.2.2 with held:=l23}:Recv))))<|
  λ(n22,a22_0)=>
  .grd (KV v7 a.1 n22)<|
  .grd (xr a.2.2.held 1 24)<|
  .val (a.2.2.held++[(⟨(IntKind.wrap .i64 (a.1-v1)),(aF ((v7.take n22.toNat).drop a.1.toNat))⟩:Piec)]) λl24=>
  .ret (.next (n22,({({a22_0 with held:=[]}:Recv)with held:=[]}:Recv),({a.2.2 with held:=l24}:Recv))))<|
 .ret (.out (({a.2.1 with held:=[]}:Recv),a.2.2))
noncomputable def dL:m5.V→LW m5 (Int×Recv×Recv) ((Recv×Recv)):=λ(v0,v1,v2,v3,v4,v5,v6,v7,_)=>⟨(v2,v3,v6),λa=>(v0,v1,a.1,a.2.1,v4,v5,a.2.2,v7,()),fB v0 v1 v4 v5 v7,Int.toNat (v0-v2),oN (.exit 8) ⟨[zp 8 0,zp 9 1,zp 19 2],[.box [.st .recv [.nil .piec]],zk .recv 3,zk .recv 4,zf,zf]⟩ (λp=>(p.1,v4,p.2,()))⟩
theorem IR:LS Tryz.prog jM [3] (leW 8 m5 dL):=Wr st (aV jH) _ dL [(j8 10 kb d7)] ⟨DW,trivial⟩
theorem yN {v0 v1 v2:Int}{v3 v4 v6:Recv}{v5:List Bool}{v7:List Int}(h0:v0≤32)(h1:(v5.length:Int)=v0)(h2:v7.length=v5.length)(h3:0≤v1)(h4:aw v4)(h5:sS v5)(h6:sS v7)(h7:aw v3∧aw v6∧v1≤v2∧v2≤v0∧(v6.held.length:Int)≤v2):(dL (v0,v1,v2,v3,v4,v5,v6,v7,())).W (λp=>aw p.1∧aw p.2):=
 LW.okW (a:=(v2,v3,v6)) (λa=>aw a.2.1∧aw a.2.2∧v1≤a.1∧a.1≤v0∧(a.2.2.held.length:Int)≤a.1) (λa=>Int.toNat (v0-a.1)) rfl h7 λ(v2,v3,v6) hv=>by
  refine Tr.I (λ_=>Tr.G2 ?_ λ_=>Tr.I (λ_=>Tr.Rn ?_) λ_=>Tr.L (Eo ?_ ?_ ?_ ?_ ?_ ?_ ?_) (λa22_0 _=>Tr.Sr (Tr.G3 ?_ λ_=>Tr.Gb ?_ λ_=>Tr.V λ_ _=>Tr.Rn ?_)) (λ(p22a0,p22a1) _=>Tr.Sl (Tr.G3 ?_ λ_=>Tr.Gb ?_ λ_=>Tr.V λ_ _=>Tr.Rn ?_))) λ_=>Tr.Ro ?_
  all_goals ((try simp only[d7,LC.lp,LC.ct,Ct.lp]at*)<;>grind)
noncomputable def t7:FT (Recv×Int×ae×Bool×Unit) (Recv) (λx=>aw x.1∧sS x.2.2.1) (λx v=>aw v):=⟨λ(x0,x1,x2,x3,_)=>
  .cal f8.c (x0,()) λc1=>
  .bnd (β:=Bool×Unit) (.cal bg.c (x0,()) λc2=>
   .ite (!c2) (.ret (true,()))<|
   .ret (x0.done,())) λ(u3a0,_)=>
  .ite u3a0 (.ret c1)<|
  .cal bp.c (x0,()) λc4=>
  .grd ((((decide (0≤c4))&&(decide (c4=c4)))&&(decide (c4*1≤(aU:Int))))&&(decide (c4≤(aU:Int))))<|
  .grd ((((decide (0≤c4))&&(decide (c4=c4)))&&(decide (c4*1≤(aU:Int))))&&(decide (c4≤(aU:Int))))<|
  .lp (fE (x1,x2,x3,c4,x0.held,(x0.held.length:Int),0,x0,(⟨0,[],[],0,false⟩:Recv),c1,(List.replicate c4.toNat 0),(List.replicate c4.toNat false),())).lp λ(_,a7_0,a7_1,a7_2)=>
  .lp (fA (x1,x2,x3,c4,(x2.length:Int),0,x0,({({a7_0 with held:=[]}:Recv)with held:=[]}:Recv),c1,a7_1,a7_2,())).lp λ(_,a12_0,a12_1,a12_2)=>
  .val (bG.f (x1,(x2.length:Int),())) λc13=>
  .val (sT.f (c13,x0.next,())) λc14=>
  .bnd (β:=Bool×Unit) (.ite x3 (.ite (x0.fin==(-1)) (.ite (decide (c14≤c4)) (.grd (KV a12_2 c14 (a12_2.length:Int))<|
      .cal eX.c (((a12_2.take ((a12_2.length:Int).toNat)).drop c14.toNat),true,()) λc15=>
      .ret ((!c15),()))<|
     .ret (false,()))<|
    .ret (false,()))<|
   .ret (false,())) λ(u16a0,_)=>
  .bnd (β:=WT tK.es) (.ite u16a0 (.ret (c4,x0,({({a12_0 with held:=[]}:Recv)with held:=[]}:Recv),c1,a12_2,({x0 with fin:=c14}:Recv),a12_1,()))<|
   .ret (c4,x0,({({a12_0 with held:=[]}:Recv)with held:=[]}:Recv),c1,a12_2,x0,a12_1,())) λ(u17a0,u17a1,u17a2,u17a3,u17a4,u17a5,u17a6,_)=>
  .lp (eM (u17a0,0,u17a1,({u17a2 with held:=[]}:Recv),u17a3,u17a4,u17a5,u17a6,())).lp λw18=> .sum w18 (λ(p18a0,p18a1)=>
  .grd ((decide (0≤p18a0))&&(decide (p18a0≤(u17a6.length:Int))))<|
  .grd (Nat.ble (u17a5.data.length+(aF ((u17a6.take p18a0.toNat).drop 0)).length) ak)<|
  .val (bG.f (u17a1.next,p18a0,())) λc19=>
  .bnd (β:=WT oh.es) (.ite (u17a5.fin != (-1)) (.ret (u17a0,p18a0,({p18a1 with held:=[]}:Recv),u17a3,u17a4,(⟨c19,(u17a5.data++(aF ((u17a6.take p18a0.toNat).drop 0))),u17a5.held,(IntKind.wrap .i64 (u17a5.fin-p18a0)),u17a5.done⟩:Recv),u17a6,()))<|
   .ret (u17a0,p18a0,({p18a1 with held:=[]}:Recv),u17a3,u17a4,({u17a5 with next:=c19,data:=(u17a5.data++(aF ((u17a6.take p18a0.toNat).drop 0)))}:Recv),u17a6,())) λ(u20a0,u20a1,u20a2,u20a3,u20a4,u20a5,u20a6,_)=>
  .lp (dL (u20a0,u20a1,u20a1,({u20a2 with held:=[]}:Recv),u20a3,u20a4,({u20a5 with held:=[]}:Recv),u20a6,())).lp λ(_,p25a1)=>
  .ite (decide (3<(p25a1.held.length:Int))) (.ret u20a3)<|
  .ite (p25a1.fin==0) (.val (bG.f (p25a1.next,1,())) λc26=>
   .ret (⟨c26,p25a1.data,p25a1.held,(-1),true⟩:Recv))<|
  .ret p25a1)<|
  λ(n18,a18_0)=>
  .grd ((decide (0≤n18))&&(decide (n18≤(u17a6.length:Int))))<|
  .grd (Nat.ble (u17a5.data.length+(aF ((u17a6.take n18.toNat).drop 0)).length) ak)<|
  .val (bG.f (u17a1.next,n18,())) λc27=>
  .bnd (β:=WT oh.es) (.ite (u17a5.fin != (-1)) (.ret (u17a0,n18,({({a18_0 with held:=[]}:Recv)with held:=[]}:Recv),u17a3,u17a4,(⟨c27,(u17a5.data++(aF ((u17a6.take n18.toNat).drop 0))),u17a5.held,(IntKind.wrap .i64 (u17a5.fin-n18)),u17a5.done⟩:Recv),u17a6,()))<|
   .ret (u17a0,n18,({({a18_0 with held:=[]}:Recv)with held:=[]}:Recv),u17a3,u17a4,({u17a5 with next:=c27,data:=(u17a5.data++(aF ((u17a6.take n18.toNat).drop 0)))}:Recv),u17a6,())) λ(u28a0,u28a1,u28a2,u28a3,u28a4,u28a5,u28a6,_)=>
  .lp (dL (u28a0,u28a1,u28a1,({u28a2 with held:=[]}:Recv),u28a3,u28a4,({u28a5 with held:=[]}:Recv),u28a6,())).lp λ(_,p29a1)=>
  .ite (decide (3<(p29a1.held.length:Int))) (.ret u28a3)<|
  .ite (p29a1.fin==0) (.val (bG.f (p29a1.next,1,())) λc30=>
   .ret (⟨c30,p29a1.data,p29a1.held,(-1),true⟩:Recv))<|
  .ret p29a1,
 λ(x0,x1,x2,x3,_) hp=>by
  refine Tr.C ?_ λc1 hc1 qc1=>Tr.B (Q':=λw=>(w.1=false→RO x0∧cT (pw (YF x0)) x0.held)) (Tr.C ?_ λc2 hc2 qc2=>Tr.I (λb0=>Tr.R ?_) λb0=>Tr.R ?_) (λ(u3a0,_) hj3 qj3=>Tr.I (λb0=>Tr.R ?_) λb0=>Tr.C ?_ λc4 hc4 qc4=>Tr.G4 ?_ λg1=>Tr.G4 ?_ λg2=>Tr.L (Iw ?_ ?_ ?_ ?_ ?_ ?_ ?_ ?_ ?_ ?_) (λ(a7_0,a7_1,a7_2) i7=>Tr.L (Iy ?_ ?_ ?_ ?_ ?_ ?_ ?_) (λ(a12_0,a12_1,a12_2) i12=>Tr.V λc13 hc13=>Tr.V λc14 hc14=>Tr.B (Q':=λ_=>True) (Tr.I (λb3=>Tr.I (λb4=>Tr.I (λb5=>Tr.G3 ?_ λg6=>Tr.C ?_ λc15 hc15 qc15=>Tr.R trivial) λb5=>Tr.R trivial) λb4=>Tr.R trivial) λb3=>Tr.R trivial) (λ(u16a0,_) hj16 qj16=>Tr.B (Q':=λw=>aw w.2.1∧aw w.2.2.1∧aw w.2.2.2.1∧sS w.2.2.2.2.1∧aw w.2.2.2.2.2.1∧sS w.2.2.2.2.2.2.1∧w.1≤32∧0≤w.1∧(w.2.2.2.2.1.length:Int)=w.1∧w.2.2.2.2.2.2.1.length=w.2.2.2.2.1.length∧w.2.2.2.2.2.1.data.length≤32) (Tr.I (λb3=>Tr.R ?_) λb3=>Tr.R ?_) (λ(u17a0,u17a1,u17a2,u17a3,u17a4,u17a5,u17a6,_) hj17 qj17=>Tr.L (Iq ?_ ?_ ?_ ?_ ?_) (λa18_0 i18=>Tr.Sr (Tr.G2 ?_ λg3=>Tr.Gb ?_ λg4=>Tr.V λc27 hc27=>Tr.B (Q':=λw=>aw w.2.2.1∧aw w.2.2.2.1∧sS w.2.2.2.2.1∧aw w.2.2.2.2.2.1∧sS w.2.2.2.2.2.2.1∧w.1≤32∧0≤w.2.1∧w.2.1≤w.1∧(w.2.2.2.2.1.length:Int)=w.1∧w.2.2.2.2.2.2.1.length=w.2.2.2.2.1.length∧w.2.2.2.2.2.1.data.length≤64) (Tr.I (λb5=>Tr.R ?_) λb5=>Tr.R ?_) (λ(u28a0,u28a1,u28a2,u28a3,u28a4,u28a5,u28a6,_) hj28 qj28=>Tr.L (yN ?_ ?_ ?_ ?_ ?_ ?_ ?_ ?_) (λa=>Empty.elim a) (λ(p29a0,p29a1) hp29=>Tr.I (λb5=>Tr.R ?_) λb5=>Tr.I (λb6=>Tr.V λc30 hc30=>Tr.R ?_) λb6=>Tr.R ?_)))) (λ(p18a0,p18a1) hp18=>Tr.Sl (Tr.G2 ?_ λg3=>Tr.Gb ?_ λg4=>Tr.V λc19 hc19=>Tr.B (Q':=λw=>aw w.2.2.1∧aw w.2.2.2.1∧sS w.2.2.2.2.1∧aw w.2.2.2.2.2.1∧sS w.2.2.2.2.2.2.1∧w.1≤32∧0≤w.2.1∧w.2.1≤w.1∧(w.2.2.2.2.1.length:Int)=w.1∧w.2.2.2.2.2.2.1.length=w.2.2.2.2.1.length∧w.2.2.2.2.2.1.data.length≤64) (Tr.I (λb5=>Tr.R ?_) λb5=>Tr.R ?_) (λ(u20a0,u20a1,u20a2,u20a3,u20a4,u20a5,u20a6,_) hj20 qj20=>Tr.L (yN ?_ ?_ ?_ ?_ ?_ ?_ ?_ ?_) (λa=>Empty.elim a) (λ(p25a0,p25a1) hp25=>Tr.I (λb5=>Tr.R ?_) λb5=>Tr.I (λb6=>Tr.V λc26 hc26=>Tr.R ?_) λb6=>Tr.R ?_))))))) (λp=>Empty.elim p)) (λp=>Empty.elim p))
  all_goals ((try simp only[fE,fA,eM,dL,LC.lp,LC.ct,Ct.lp,LW.lp,LW.cw,Cw.lp,Tr.nice,ko]at*)<;>grind)⟩
noncomputable def R1:=bK st jM jH [(j8 0 ny fE),(j8 4 m7 fA),(j8 6 mJ eM),(leW 8 m5 dL)] (ks:=[.st .recv,.sc (.int .i64),.sc .str,.sc .bool]) t7 (λv=>[(true,vo (.o true) v)]) Tryz.func403 ⟨IV,Ik,HI,IR,trivial⟩
noncomputable def Ut:=[cS,gu,bB]
def yy:An:=⟨⟨[],[],false,0⟩,⟨[1,2,3],[],false,0⟩,⟨[],[]⟩,[(.normal,⟨[zp 1 0,zp 2 1,zp 3 2],[zg .conn,.box [.st .conn [.nil .piec]],zk .conn 3,zf]⟩),(.ret,⟨[zp 1 0,zp 2 1,zp 3 2],[zg .conn,zk .conn 3,zk .conn 3,zf]⟩)]⟩
noncomputable def T7:Fx:=⟨404,Tryz.f404,[(1000016,yy),(3000004,rA 0 16),(3000006,rA 0 24),(3000008,rA 0 35),(3000010,rA 0 43),(3000012,rA 0 51),(3000014,rA 0 59),(3000020,rA 0 85)],0⟩
noncomputable def qM:FT (Conn×Unit) (Conn) (λx=>aa x.1) (λx v=>aa v):= .mk λ(x0,_)=>
  .cal bV.c (x0,()) λc1=>
  .bnd (β:=Bool×Unit) (.ite (x0.state==1) (.ret (x0.r.done,()))<|
   .ret (false,())) λ(u2a0,_)=>
  .bnd (β:=WT yy.es) (.as (Sum.elim (λw=>aa w.1∧aa w.2.1∧aa w.2.2.1) (λw=>aa w.1∧aa w.2.1∧aa w.2.2.1)) (.ite u2a0 (.ret (.inl (x0,(⟨⟨0,0,0⟩,0,⟨0,[],0,false,false,false⟩,⟨0,[],[],0,false⟩,0,0,⟨0,0,false,false,0,0⟩,0,0⟩:Conn),({c1 with state:=4}:Conn),())))<|
   .bnd (β:=Bool×Unit) (.ite (x0.state==2) (.ite x0.s.done (.ret (x0.r.done,()))<|
     .ret (false,()))<|
    .ret (false,())) λ(u3a0,_)=>
   .ite u3a0 (.ret (.inl (x0,(⟨⟨0,0,0⟩,0,⟨0,[],0,false,false,false⟩,⟨0,[],[],0,false⟩,0,0,⟨0,0,false,false,0,0⟩,0,0⟩:Conn),({c1 with state:=7}:Conn),())))<|
   .bnd (β:=Bool×Unit) (.ite (x0.state==2) (.ret (x0.s.done,()))<|
    .ret (false,())) λ(u4a0,_)=>
   .ite u4a0 (.ret (.inl (x0,(⟨⟨0,0,0⟩,0,⟨0,[],0,false,false,false⟩,⟨0,[],[],0,false⟩,0,0,⟨0,0,false,false,0,0⟩,0,0⟩:Conn),({c1 with state:=3}:Conn),())))<|
   .bnd (β:=Bool×Unit) (.ite (x0.state==2) (.ret (x0.r.done,()))<|
    .ret (false,())) λ(u5a0,_)=>
   .ite u5a0 (.ret (.inl (x0,(⟨⟨0,0,0⟩,0,⟨0,[],0,false,false,false⟩,⟨0,[],[],0,false⟩,0,0,⟨0,0,false,false,0,0⟩,0,0⟩:Conn),({c1 with state:=5}:Conn),())))<|
   .bnd (β:=Bool×Unit) (.ite (x0.state==3) (.ret (x0.r.done,()))<|
    .ret (false,())) λ(u6a0,_)=>
   .ite u6a0 (.ret (.inl (x0,(⟨⟨0,0,0⟩,0,⟨0,[],0,false,false,false⟩,⟨0,[],[],0,false⟩,0,0,⟨0,0,false,false,0,0⟩,0,0⟩:Conn),({c1 with state:=7}:Conn),())))<|
   .bnd (β:=Bool×Unit) (.ite (x0.state==5) (.ret (x0.s.done,()))<|
    .ret (false,())) λ(u7a0,_)=>
   .ite u7a0 (.ret (.inl (x0,(⟨⟨0,0,0⟩,0,⟨0,[],0,false,false,false⟩,⟨0,[],[],0,false⟩,0,0,⟨0,0,false,false,0,0⟩,0,0⟩:Conn),({c1 with state:=7}:Conn),())))<|
   .ite (x0.state==6) (.ite x0.s.done (.ret (.inl (x0,(⟨⟨0,0,0⟩,0,⟨0,[],0,false,false,false⟩,⟨0,[],[],0,false⟩,0,0,⟨0,0,false,false,0,0⟩,0,0⟩:Conn),({c1 with state:=8}:Conn),())))<|
    .ret (.inr ((x0,c1,c1,()))))<|
   .ret (.inr ((x0,c1,c1,()))))) λw8=> .sum w8 (λ(u8a0,_,u8a2,_)=>
  .bnd (β:=Bool×Unit) (.as (λw=>(w.1=false→SO ({u8a2 with timer:=0}:Conn).s∧RO ({u8a2 with timer:=0}:Conn).r)) (.cal aI.c (({u8a2 with timer:=0}:Conn),()) λc9=>
   .ite (!c9) (.ret (true,()))<|
   .val (a9.f (u8a0.timer,0,4,())) λc10=>
   .ret ((!c10),()))) λ(u11a0,_)=>
  .ite u11a0 (.cal bV.c (u8a0,()) λc12=>
   .ret c12)<|
  .ite (u8a2.state==7) (.ret ({u8a2 with timer:=4,tries:=0}:Conn))<|
  .ite (u8a2.state==8) (.ret ({u8a2 with timer:=0,tries:=0}:Conn))<|
  .ret u8a2)<|
  λ(_,u8b1,_,_)=>
  .ret u8b1
noncomputable def VG:=bK st T7 Ut [] (ks:=[.st .conn]) qM (λv=>[(true,fo (.o true) v)]) Tryz.func404 trivial
noncomputable def gp:FX (Recv×Int×Unit) (Int) (λ_=>True) (cJ [.st .recv,.sc (.int .i64)]):=⟨λ(x0,x1,_)=>
  .ite (decide ((IntKind.wrap .i64 (x1-(x0.data.length:Int)))<0)) (.ret (-1))<|
  .cal lx.c (x0.held,(IntKind.wrap .i64 (x1-(x0.data.length:Int))),()) λc1=>
  .ite (decide (c1<0)) (.ret (-1))<|
  .ret c1,
 λ(x0,x1,_) hp hf=>by
  simp only[cJ,Pk.fact,jt,hY,Fl.fact,Ty.fl,Ty.toH]at hf
  refine Tr.I (λ_=>Tr.R trivial) λ_=>Tr.C trivial λ_ _ _=>Tr.F (by kernel_rfl) trivial⟩
theorem PQ (x:Recv)(k:Int)(h0:0≤k)(h1:k≤1048576)(hd:x.data.length≤4611686018427387904)(hl:x.held.length≤140737488355328)(he:PH .piec x.held)(h:0≤gp.f (x,k,())):gp.f (x,k,())≤k∧x.data.length≤1048576∧x.held.length≤1048576∧cT cM x.held:=by
 have w:IntKind.wrap .i64 (k-(x.data.length:Int))=k-(x.data.length:Int):=aj (by omega) (by omega)
 have e:gp.f (x,k,())=(bif decide (k-(x.data.length:Int)<0)then-1 else(bif decide (lx.f (x.held,k-(x.data.length:Int),())<0)then-1 else lx.f (x.held,k-(x.data.length:Int),()))):=by simp only[FX.f,PX,gp,w]
 rw[e]at h⊢
 obtain⟨p0,e0⟩:=pi h
 rw[e0]at h⊢
 obtain⟨p1,e1⟩:=pi h
 rw[e1]at h⊢
 have b:=TV x.held _ p0 (by omega) hl he p1
 exact⟨by omega,by omega,b.2.1,b.2.2⟩
noncomputable def Jk:=rF st Tryz.func452 [Px] (ks:=[.st .recv,.sc (.int .i64)]) gp rI
noncomputable def qh:FT (Recv×Unit) (Recv) (λx=>aw x.1) (λx v=>aw v):= .mk λ(x0,_)=>
  .cal vD.c (x0.held,()) λc1=>
  .ret ({x0 with held:=c1}:Recv)
noncomputable def HR:=aN st Tryz.func454 [Pj] (ks:=[.st .recv]) qh (λv=>[(true,vo (.o true) v)])
noncomputable def qq:FT (Recv×Recv×Unit) (Bool) (λx=>aw x.1∧aw x.2.1) (λ_ _=>True):= .mk λ(x0,x1,_)=>
  .ite (x0.next != x1.next) (.ret false)<|
  .ite (!(x0.data==x1.data)) (.ret false)<|
  .cal uR.c (x0.held,x1.held,()) λc1=>
  .ite (!c1) (.ret false)<|
  .ite (x0.fin != x1.fin) (.ret false)<|
  .ite (!(x0.done==x1.done)) (.ret false)<|
  .ret true
noncomputable def KN:=aN st Tryz.func456 [Nb] (ks:=[.st .recv,.st .recv]) qq rB
noncomputable def HF:=[qI,kE,yL,vr,PT]
noncomputable def JY:Fx:=⟨468,Tryz.f468,[(3000004,rA 0 4)],0⟩
noncomputable def pQ:FT (Conn×Segm×Unit) (Bool) (λx=>aa x.1∧am x.2.1) (λ_ _=>True):= .mk λ(x0,x1,_)=>
  .cal iO.c (x1,()) λc1=>
  .cal gz.c (x0.r,()) λc2=>
  .ite (c1==0) (.bnd (β:=Bool×Unit) (.val (qF.f (x1.seq,x0.r.next,())) λc3=>
    .ite (c3==0) (.ret (true,()))<|
    .val (nT.f (x1.seq,x0.r.next,c2,())) λc4=>
    .ret (c4,())) λ(u5a0,_)=>
   .ret u5a0)<|
  .cal vW.c (x1.seq,c1,x0.r.next,c2,()) λc6=>
  .ret c6
noncomputable def KM:=bK st JY HF [] (ks:=[.st .conn,.st .segm]) pQ rB Tryz.func468 trivial
noncomputable def TM:=[dC,O1,gA,ci]
noncomputable def UY:Fx:=⟨472,Tryz.f472,[(3000003,rA 0 37)],0⟩
noncomputable def rL:FT (Conn×Unit) (Conn) (λx=>aa x.1) (λx v=>aa v):= .mk λ(x0,_)=>
  .cal dA.c (x0,()) λc1=>
  .cal vP.c (x0,()) λc2=>
  .bnd (β:=Bool×Unit) (.as (λw=>(w.1=false→SO ({x0 with state:=c2,timer:=0,tries:=0}:Conn).s∧RO ({x0 with state:=c2,timer:=0,tries:=0}:Conn).r)) (.cal ib.c (({x0 with state:=c2,timer:=0,tries:=0}:Conn),()) λc3=>
   .ite (!c3) (.ret (true,()))<|
   .val (bS.f (x0.timer,0,4,())) λc4=>
   .ite (!c4) (.ret (true,()))<|
   .val (bS.f (x0.tries,0,3,())) λc5=>
   .ret ((!c5),()))) λ(u6a0,_)=>
  .ite u6a0 (.cal dA.c (x0,()) λc7=>
   .ret c7)<|
  .ite (c2==x0.state) (.ret ({c1 with state:=c2}:Conn))<|
  .ite (c2==7) (.ite (c2==8) (.ret ({c1 with state:=c2,timer:=0,tries:=0}:Conn))<|
   .ret ({c1 with state:=c2,timer:=4,tries:=0}:Conn))<|
  .ite (c2==8) (.ret ({c1 with state:=c2,timer:=0,tries:=0}:Conn))<|
  .ret ({c1 with state:=c2}:Conn)
noncomputable def Uc:=bK st UY TM [] (ks:=[.st .conn]) rL (λv=>[(true,fo (.o true) v)]) Tryz.func472 trivial
noncomputable def uF:FT (Sipr×Int×Unit) (Sipr) (λ_=>True) (λ_ _=>True):= .mk λ(x0,x1,_)=>
  .cal j2.c (({x0 with d:=(bits .xor .u64 x0.d x1)}:Sipr),()) λc1=>
  .cal j2.c (c1,()) λc2=>
  .ret ({c2 with a:=(bits .xor .u64 c2.a x1)}:Sipr)
noncomputable def SQ:=aN st Tryz.func476 [Dy] (ks:=[.st .sipr,.sc (.int .u64)]) uF (λv=>[(true,EI v)])
def A2:Sh:=⟨[zp 1 0,zi 7],[zx .sipr]⟩
noncomputable def tC (v0:Int)(a:Sipr):Tr (Stp (Sipr) (Empty)):=
 .cal j2.c (a,()) λc1=>
 .ret (.next c1)
noncomputable def kL:A2.V→tF A2 Sipr:=λ(v0,v1,_)=>⟨v0,v1,λv0 a=>(v0,a,()),λv0 _=>(decide (v0<4)),tC,up,1,(Int.toNat (4-v0)),Empty.elim,Prod.mk,oN (.exit 0) ⟨[zp 1 0,zu 2],[zx .sipr]⟩ (λx=>(x.2,()))⟩
theorem K4 {v0:Int}{v1:Sipr}(h0:0≤v0):(kL (v0,v1,())).U 4 (λ_ _=>True) (λ_=>True):=
 jV (a:=v1) h0 (by decide) trivial
noncomputable def uu:FT (Sipr×Unit) (Int) (λ_=>True) (λ_ _=>True):= .mk (λ(x0,_)=>
  .lp (kL (0,({x0 with c:=(bits .xor .u64 x0.c 255)}:Sipr),())).lp λ(_,a2_0)=>
  .val (bits .xor .u64 (bits .xor .u64 (bits .xor .u64 a2_0.a a2_0.b) a2_0.c) a2_0.d) λe3=>
  .ret e3) (pE @K4)
noncomputable def TT:=dV st Tryz.func478 [(0,lb [1,7] [1,2])] [Dy] 0 kL (ks:=[.st .sipr]) uu (λv=>[(false,[.c (.int .u64 v)])])
noncomputable def vU:FT (Conn×Tupl×Unit) (Bool) (λ_=>True) (λ_ _=>True):= .mk λ(x0,y1,_)=>
  .ret ((x0.tuple.ip==y1.ip)&&((x0.tuple.port==y1.port)&&((x0.tuple.my==y1.my)&&true)))
noncomputable def I5:=uL st ⟨174,Tryz.f174,[],1⟩ [] [] [.st .conn,.wr false [.ptr 0]] [.box [.st .tupl]] (λx y=>(x.1,y.1.1,())) vU rB (λx y v=>((y.1.1,()),())) Tryz.func174 (by kernel_rfl) trivial
noncomputable def u6:FT (Half×Tupl×Unit) (Bool) (λ_=>True) (λ_ _=>True):= .mk λ(x0,y1,_)=>
  .ret ((x0.tuple.ip==y1.ip)&&((x0.tuple.port==y1.port)&&((x0.tuple.my==y1.my)&&true)))
noncomputable def IK:=uL st ⟨309,Tryz.f309,[],1⟩ [] [] [.st .half,.wr false [.ptr 0]] [.box [.st .tupl]] (λx y=>(x.1,y.1.1,())) u6 rB (λx y v=>((y.1.1,()),())) Tryz.func309 (by kernel_rfl) trivial
noncomputable def r9:FX (Acti×Int×Unit) (Int) (λ_=>True) (cJ [.st .acti,.sc (.int .i64)]):=⟨λ(x0,x1,_)=>
  .ite (decide ((IntKind.wrap .i64 (x1-(x0.text.length:Int)))<0)) (.ret (-1))<|
  .cal fq.c (x0.mac,(IntKind.wrap .i64 (x1-(x0.text.length:Int))),()) λc1=>
  .ite (decide (c1<0)) (.ret (-1))<|
  .ret c1,
 λ(x0,x1,_) hp hf=>by
  simp only[cJ,Pk.fact,jt,hY,Fl.fact,Ty.fl,Ty.toH]at hf
  refine Tr.I (λ_=>Tr.R trivial) λ_=>Tr.C trivial λ_ _ _=>Tr.F (by kernel_rfl) trivial⟩
theorem WH (x:Acti)(k:Int)(h0:0≤k)(h1:k≤1048576)(hd:x.text.length≤4611686018427387904)(hl:x.mac.rows.length≤140737488355328)(he:PH .macRow x.mac.rows)(h:0≤r9.f (x,k,())):r9.f (x,k,())≤k∧cU x:=by
 have w:IntKind.wrap .i64 (k-(x.text.length:Int))=k-(x.text.length:Int):=aj (by omega) (by omega)
 have e:r9.f (x,k,())=(bif decide (k-(x.text.length:Int)<0)then-1 else(bif decide (fq.f (x.mac,k-(x.text.length:Int),())<0)then-1 else fq.f (x.mac,k-(x.text.length:Int),()))):=by simp only[FX.f,PX,r9,w]
 rw[e]at h⊢
 obtain⟨p0,e0⟩:=pi h
 rw[e0]at h⊢
 obtain⟨p1,e1⟩:=pi h
 rw[e1]at h⊢
 have b:=Nh x.mac _ p0 (by omega) hl he p1
 have q:=b.2
 unfold cE at q
 unfold cU
 exact⟨by omega,by omega,q⟩
noncomputable def XR:=rF st Tryz.func32 [L7] (ks:=[.st .acti,.sc (.int .i64)]) r9 rI
noncomputable def zh:FT (Acti×Unit) (Acti) (λx=>cU x.1) (λx v=>cU v):= .mk λ(x0,_)=>
  .val (od.f (x0.tuple,())) λc1=>
  .cal zU.c (x0.mac,()) λc2=>
  .ret (⟨x0.kind,c1,x0.n,x0.text,c2⟩:Acti)
noncomputable def W5:=aN st Tryz.func35 [sJ,MS] (ks:=[.st .acti]) zh (λv=>[(true,adc (.o true) v)])
noncomputable def Hq:FT (Acti×Acti×Unit) (Bool) (λx=>cU x.1∧cU x.2.1) (λ_ _=>True):= .mk λ(x0,x1,_)=>
  .ite (x0.kind != x1.kind) (.ret false)<|
  .val (l8.f (x0.tuple,x1.tuple,())) λc1=>
  .ite (!c1) (.ret false)<|
  .ite (x0.n != x1.n) (.ret false)<|
  .ite (!(x0.text==x1.text)) (.ret false)<|
  .cal z9.c (x0.mac,x1.mac,()) λc2=>
  .ite (!c2) (.ret false)<|
  .ret true
noncomputable def Yb:=aN st Tryz.func38 [oS,MW] (ks:=[.st .acti,.st .acti]) Hq rB
noncomputable def oD:FT (Tabl×Unit) (Tabl×Tupl×Bool) (λx=>aM x.1) (λx v=>aM v.1∧v.1.conns.length=x.1.conns.length∧v.1.waiting.length≤x.1.waiting.length):= .mk λ(x0,_)=>
  .cal mj.c (x0,()) λc1=>
  .ite ((x0.waiting.length:Int)==0) (.ret (c1,(⟨0,0,0⟩:Tupl),false))<|
  .grd ((decide (1≤(x0.waiting.length:Int)))&&(decide ((x0.waiting.length:Int)≤(x0.waiting.length:Int))))<|
  .grd (Nat.ble ((2*(0+((x0.waiting.take ((x0.waiting.length:Int).toNat)).drop 1).length)+1024)*24) aU)<|
  .grd (decide (0<(x0.waiting.length:Int)))<|
  .ret ((⟨c1.conns,([]++((x0.waiting.take ((x0.waiting.length:Int).toNat)).drop 1))⟩:Tabl),(x0.waiting.getD 0 (Ty.zero .tupl)),true)
noncomputable def GP:=aN st Tryz.func54 [sM] (ks:=[.st .tabl]) oD (λv=>[(true,ri (.o true) (.o true) v.1),(true,KE v.2.1),(false,[.c (.bool v.2.2)])])
noncomputable def GC:=[j5]
noncomputable def GI:Fx:=⟨71,Tryz.f71,[(4000000,la ⟨[],[],false,0⟩ ⟨[],[.softb 2 1],false,0⟩)],0⟩
noncomputable def ou:FT (Tabl×Unit) (Tabl×Tupl×Bool) (λx=>aM x.1) (λx v=>aM v.1∧v.1.conns.length=x.1.conns.length∧v.1.waiting.length≤x.1.waiting.length):= .mk λ(x0,_)=>
  .cal fk.c (x0,()) λc1=>
  .ite ((x0.waiting.length:Int)==0) (.ret (c1,(⟨0,0,0⟩:Tupl),false))<|
  .grd ((decide (1≤(c1.waiting.length:Int)))&&(decide ((c1.waiting.length:Int)≤(c1.waiting.length:Int))))<|
  .grd (decide (0<(x0.waiting.length:Int)))<|
  .ret ((⟨c1.conns,((c1.waiting.take ((c1.waiting.length:Int).toNat)).drop 1)⟩:Tabl),(x0.waiting.getD 0 (Ty.zero .tupl)),true)
noncomputable def Gg:=bK st GI GC [] (ks:=[.st .tabl]) ou (λv=>[(true,ri (.o true) .c v.1),(true,KE v.2.1),(false,[.c (.bool v.2.2)])]) Tryz.func71 trivial
def xQ:Sh:=⟨[zi 1,zp 3 0,zo 7 1,zl 14 .segm,zi 15,zi 16],[.box [.st .stac [.sl .arg,.sl .arg,.sl .arg,.sl .arg,.sl .arg,.sl .arg]],za .str]⟩
noncomputable def x9 (v0:Int)(v1:List Segm)(v4:Stac)(v3:Int)(a:List ae):Tr (Stp (List ae) (Empty)):=
 .grd (cd v1 v3)<|
 .cal cm.c ((v1.getD v3.toNat (Ty.zero .segm)),v4.link.ip,v0,()) λc1=>
 .ite (c1==[]) (.ret (.next a))<|
 .cal je.c (v4.link,v0,c1,()) λc2=>
 .ite c2.2 (.grd (xr a 1 16)<|
  .ret (.next (a++[c2.1])))<|
 .ret (.next a)
noncomputable def jL:xQ.V→tF xQ (List ae):=λ(v0,v1,v2,v3,v4,v5,_)=>⟨v3,v5,λv3 a=>(v0,v1,v2,v3,v4,a,()),λv3 _=>(decide (v3<v2)),x9 v0 v1 v4,up,1,(Int.toNat (v2-v3)),Empty.elim,Prod.mk,oN (.exit 0) ⟨[zu 6,zo 7 0],[za .str]⟩ (λx=>(x.2,()))⟩
theorem Jh {v0 v2 v3:Int}{v1:List Segm}{v4:Stac}{v5:List ae}(h0:0≤v3)(h1:v2≤4611686018427387904)(h2:sL am v1)(h3:aW v4)(h4:v2≤4294967296)(h5:v2≤(v1.length:Int))(h6:(v5.length:Int)≤v3∧cT sS v5):(jL (v0,v1,v2,v3,v4,v5,())).U v2 (λv3 a=>(a.length:Int)≤v3∧cT sS a) (λ_=>True):=
 jV (a:=v5) h0 h1 h6
noncomputable def qD:FT (Stac×Int×List Segm×Unit) (List ae) (λx=>aW x.1∧sL am x.2.2.1) (λx v=>sL sS v∧v.length≤x.2.2.1.length):=⟨λ(x0,x1,x2,_)=>
  .lp (jL (x1,x2,(x2.length:Int),0,x0,[],())).lp λ(_,a3_0)=>
  .ret a3_0,
 λ(x0,x1,x2,_) hp=>by
  refine Tr.L (Jh ?_ ?_ ?_ ?_ ?_ ?_ ?_) (λa3_0 _=>Tr.R ?_) (λp=>Empty.elim p)
  all_goals ((try simp only[jL,LC.lp,LC.ct,Ct.lp]at*)<;>grind)⟩
noncomputable def yS:=dV st Tryz.func77 [(0,lb [1,3,7,14,15,16] [6,7])] [Gh,RR] 0 jL (ks:=[.st .stac,.sc (.int .i64),.sc (.sl .segm)]) qD (λv=>[(false,[sc (.o true) .str v])])
noncomputable def gk:FT (Door×Unit) (Door) (λx=>av x.1) (λx v=>av v∧v.table.conns.length=x.1.table.conns.length∧v.table.waiting.length=x.1.table.waiting.length∧v.halves=x.1.halves):= .mk λ(x0,_)=>
  .cal oT.c (x0.keys,()) λc1=>
  .cal eq.c (x0.halves,()) λc2=>
  .cal fk.c (x0.table,()) λc3=>
  .ret (⟨x0.port,x0.clock,c1,x0.limits,c2,c3,x0.chal⟩:Door)
noncomputable def jg:=aN st Tryz.func87 [AF,rD,j5] (ks:=[.st .door]) gk (λv=>[(true,kK (.o true) (.o true) (.o true) (.o true) (.o true) v)])
noncomputable def dT:FT (Door×Unit) (Door) (λx=>av x.1) (λx v=>av v∧v.table.conns.length=x.1.table.conns.length∧v.table.waiting.length=x.1.table.waiting.length∧v.halves=x.1.halves):= .mk λ(x0,_)=>
  .cal uw.c (x0.keys,()) λc1=>
  .grd (Nat.ble ((2*(0+x0.halves.length)+1024)*96) aU)<|
  .cal mj.c (x0.table,()) λc2=>
  .ret (⟨x0.port,x0.clock,c1,x0.limits,([]++x0.halves),c2,x0.chal⟩:Door)
noncomputable def gb:=aN st Tryz.func126 [FL,sM] (ks:=[.st .door]) dT (λv=>[(true,kK (.o true) (.o true) (.o true) (.o true) (.o true) v)])
noncomputable def F1:=[xJ,ci,Du,F3,o7,kN]
noncomputable def F8:Fx:=⟨130,Tryz.f130,[(3000005,rA 0 42),(3000014,rA 0 96)],0⟩
noncomputable def jf:FT (ae×Int×Int×Unit) (Segm×Bool) (λx=>sS x.1∧x.1.length≤4294967200) (λx v=>am v.1):= .mk λ(x0,x1,x2,_)=>
  .ite (decide ((x0.length:Int)<20)) (.ret ((⟨0,0,0,0,0,0,⟨0,0,false,false,0,0⟩,[]⟩:Segm),false))<|
  .grd (decide (12<(x0.length:Int)))<|
  .val (IntKind.wrap .i64 ((IntKind.wrap .i64 ((IntKind.wrap .i64 (ah x0 12)).tdiv 16))*4)) λe1=>
  .cal np.c (x1,x2,(x0.length:Int),()) λc2=>
  .bnd (β:=Bool×Unit) (.val (bS.f (e1,20,(x0.length:Int),())) λc3=>
   .ite (!c3) (.ret (true,()))<|
   .ite (c2==[]) (.ret (true,()))<|
   .grd (Nat.ble (c2.length+x0.length) ak)<|
   .cal rf.c ((c2++x0),()) λc4=>
   .ret ((!c4),())) λ(u5a0,_)=>
  .ite u5a0 (.ret ((⟨0,0,0,0,0,0,⟨0,0,false,false,0,0⟩,[]⟩:Segm),false))<|
  .grd ((decide (20≤e1))&&(decide (e1≤(x0.length:Int))))<|
  .cal kR.c (((x0.take e1.toNat).drop 20),()) λc6=>
  .grd (decide (13<(x0.length:Int)))<|
  .grd (KV x0 e1 (x0.length:Int))<|
  .cal bJ.c (x0,0,2,()) λc7=>
  .cal bJ.c (x0,2,2,()) λc8=>
  .cal bJ.c (x0,4,4,()) λc9=>
  .cal bJ.c (x0,8,4,()) λc10=>
  .cal bJ.c (x0,14,2,()) λc11=>
  .bnd (β:=Bool×Unit) (.as (λw=>(w.1=false→(⟨c7.1,c8.1,c9.1,c10.1,((IntKind.wrap .i64 (ah x0 13)).tmod 64),c11.1,c6.1,((x0.take ((x0.length:Int).toNat)).drop e1.toNat)⟩:Segm).body.length≤1420)) (.ite (!c6.2) (.ret (true,()))<|
   .cal im.c ((⟨c7.1,c8.1,c9.1,c10.1,((IntKind.wrap .i64 (ah x0 13)).tmod 64),c11.1,c6.1,((x0.take ((x0.length:Int).toNat)).drop e1.toNat)⟩:Segm),()) λc12=>
   .ret ((!c12),()))) λ(u13a0,_)=>
  .ite u13a0 (.ret ((⟨0,0,0,0,0,0,⟨0,0,false,false,0,0⟩,[]⟩:Segm),false))<|
  .ret ((⟨c7.1,c8.1,c9.1,c10.1,((IntKind.wrap .i64 (ah x0 13)).tmod 64),c11.1,c6.1,((x0.take ((x0.length:Int).toNat)).drop e1.toNat)⟩:Segm),true)
noncomputable def wU:=bK st F8 F1 [] (ks:=[.sc .str,.sc (.int .i64),.sc (.int .i64)]) jf (λv=>[(true,th v.1),(false,[.c (.bool v.2)])]) Tryz.func130 trivial
noncomputable def Yr:=[dC,gA,Ve,B7]
noncomputable def Xv:Fx:=⟨141,Tryz.f141,[(3000002,rA 0 26)],0⟩
noncomputable def Ht:FT (Conn×ae×Unit) (Conn×Int×List Segm) (λx=>aa x.1∧sS x.2.1) (λx v=>aa v.1∧sL am v.2.2):= .mk λ(x0,x1,_)=>
  .cal dA.c (x0,()) λc1=>
  .bnd (β:=Bool×Unit) (.cal ib.c (x0,()) λc2=>
   .ite (!c2) (.ret (true,()))<|
   .ite (x0.state != 1) (.ret ((x0.state != 4),()))<|
   .ret (false,())) λ(u3a0,_)=>
  .ite u3a0 (.ret (c1,0,[]))<|
  .cal B4.c (x0.s,x1,()) λc4=>
  .cal mL.c (({c1 with s.una:=c4.1.una,s.data:=c4.1.data,s.sent:=c4.1.sent,s.fin:=c4.1.fin,s.finSent:=c4.1.finSent,s.done:=c4.1.done}:Conn),c1.window,()) λc5=>
  .ret (c5.1,c4.2,c5.2)
noncomputable def Xi:=bK st Xv Yr [] (ks:=[.st .conn,.sc .str]) Ht (λv=>[(true,fo (.o true) v.1),(false,[.c (.int .i64 v.2.1)]),(false,[sc (.o true) .segm v.2.2])]) Tryz.func141 trivial
noncomputable def NM:=[dC,gA,Tg,kE,uq]
noncomputable def Na:Fx:=⟨143,Tryz.f143,[(3000007,rA 0 46)],0⟩
noncomputable def vf:FT (Conn×Int×Unit) (Conn×ae×List Segm) (λx=>aa x.1) (λx v=>aa v.1∧sS v.2.1∧sL am v.2.2):= .mk λ(x0,x1,_)=>
  .cal dA.c (x0,()) λc1=>
  .cal ib.c (x0,()) λc2=>
  .ite (!c2) (.ret (c1,[],[]))<|
  .cal zS.c (x0.r,x1,()) λc3=>
  .bnd (β:=Bool×Unit) (.cal gz.c (x0.r,()) λc4=>
   .ite (c4==0) (.cal gz.c (c3.1,()) λc5=>
    .ite (decide (0<c5)) (.ite (x0.state != 8) (.ret ((x0.state != 7),()))<|
     .ret (false,()))<|
    .ret (false,()))<|
   .ret (false,())) λ(u6a0,_)=>
  .ite u6a0 (.cal ju.c (({c1 with r.next:=c3.1.next,r.data:=c3.1.data,r.held:=c3.1.held,r.fin:=c3.1.fin,r.done:=c3.1.done}:Conn),()) λc7=>
   .ret (({c1 with r.next:=c3.1.next,r.data:=c3.1.data,r.held:=c3.1.held,r.fin:=c3.1.fin,r.done:=c3.1.done}:Conn),c3.2,[c7]))<|
  .ret (({c1 with r.next:=c3.1.next,r.data:=c3.1.data,r.held:=c3.1.held,r.fin:=c3.1.fin,r.done:=c3.1.done}:Conn),c3.2,[])
noncomputable def PM:=bK st Na NM [] (ks:=[.st .conn,.sc (.int .i64)]) vf (λv=>[(true,fo (.o true) v.1),(false,[.c (.str v.2.1)]),(false,[sc (.o true) .segm v.2.2])]) Tryz.func143 trivial
noncomputable def aas:=[dC,gA,B7]
noncomputable def ZV:Fx:=⟨144,Tryz.f144,[(3000002,rA 0 19)],0⟩
noncomputable def O3:FT (Conn×Unit) (Conn×List Segm) (λx=>aa x.1) (λx v=>aa v.1∧sL am v.2):= .mk λ(x0,_)=>
  .cal dA.c (x0,()) λc1=>
  .bnd (β:=Bool×Unit) (.cal ib.c (x0,()) λc2=>
   .ite (!c2) (.ret (true,()))<|
   .ite (x0.state != 1) (.ret ((x0.state != 4),()))<|
   .ret (false,())) λ(u3a0,_)=>
  .ite u3a0 (.ret (c1,[]))<|
  .ite (x0.state==4) (.cal mL.c (({c1 with state:=6,s.fin:=true}:Conn),c1.window,()) λc4=>
   .ret (c4.1,c4.2))<|
  .cal mL.c (({c1 with state:=2,s.fin:=true}:Conn),c1.window,()) λc5=>
  .ret (c5.1,c5.2)
noncomputable def Zl:=bK st ZV aas [] (ks:=[.st .conn]) O3 (λv=>[(true,fo (.o true) v.1),(false,[sc (.o true) .segm v.2])]) Tryz.func144 trivial
noncomputable def YG:=[dC,gA,uq]
noncomputable def Xt:Fx:=⟨145,Tryz.f145,[(3000002,rA 0 15)],0⟩
noncomputable def Hm:FT (Conn×Unit) (Conn×List Segm) (λx=>aa x.1) (λx v=>aa v.1∧sL am v.2):= .mk λ(x0,_)=>
  .cal dA.c (x0,()) λc1=>
  .bnd (β:=Bool×Unit) (.as (λw=>(w.1=false→SO x0.s∧RO x0.r)) (.cal ib.c (x0,()) λc2=>
   .ite (!c2) (.ret (true,()))<|
   .ret ((x0.state==8),()))) λ(u3a0,_)=>
  .ite u3a0 (.ret (c1,[]))<|
  .cal ju.c (x0,()) λc4=>
  .ret (({c1 with state:=8,timer:=0,tries:=0}:Conn),[({c4 with flags:=(bits .or .i64 c4.flags 4)}:Segm)])
noncomputable def Yf:=bK st Xt YG [] (ks:=[.st .conn]) Hm (λv=>[(true,fo (.o true) v.1),(false,[sc (.o true) .segm v.2])]) Tryz.func145 trivial
noncomputable def Ja:=[xY,CT]
noncomputable def H9:Fx:=⟨147,Tryz.f147,[(3000008,rA 0 22)],0⟩
noncomputable def kj:FT (ae×Unit) (Pack×Int) (λx=>sS x.1) (λx v=>kt v.1∧v.1.body.length≤1500):= .mk λ(x0,_)=>
  .ite (decide ((x0.length:Int)<20)) (.ret ((⟨0,0,0,0,0,[]⟩:Pack),1))<|
  .cal d8.c (x0,2,2,()) λc1=>
  .grd (decide (0<(x0.length:Int)))<|
  .ite ((ah x0 0) != 69) (.ret ((⟨0,0,0,0,0,[]⟩:Pack),2))<|
  .grd (decide (20≤(x0.length:Int)))<|
  .cal lF.c (((x0.take 20).drop 0),()) λc2=>
  .ite (!c2) (.ret ((⟨0,0,0,0,0,[]⟩:Pack),3))<|
  .bnd (β:=Bool×Unit) (.ite (decide (c1<20)) (.ret (true,()))<|
   .ite (decide ((x0.length:Int)<c1)) (.ret (true,()))<|
   .ret ((decide (1500<c1)),())) λ(u3a0,_)=>
  .ite u3a0 (.ret ((⟨0,0,0,0,0,[]⟩:Pack),4))<|
  .cal d8.c (x0,6,2,()) λc4=>
  .ite ((bits .andNot .i64 c4 16384) != 0) (.ret ((⟨0,0,0,0,0,[]⟩:Pack),5))<|
  .grd (decide (8<(x0.length:Int)))<|
  .ite ((ah x0 8)==0) (.ret ((⟨0,0,0,0,0,[]⟩:Pack),6))<|
  .cal d8.c (x0,12,4,()) λc5=>
  .cal d8.c (x0,16,4,()) λc6=>
  .grd (decide (8<(x0.length:Int)))<|
  .grd (decide (9<(x0.length:Int)))<|
  .cal d8.c (x0,4,2,()) λc7=>
  .grd ((decide (20≤c1))&&(decide (c1≤(x0.length:Int))))<|
  .ret ((⟨c5,c6,(IntKind.wrap .i64 (ah x0 8)),(IntKind.wrap .i64 (ah x0 9)),c7,((x0.take c1.toNat).drop 20)⟩:Pack),0)
noncomputable def x6:=bK st H9 Ja [] (ks:=[.sc .str]) kj (λv=>[(true,Bq v.1),(false,[.c (.int .i64 v.2)])]) Tryz.func147 trivial
noncomputable def Gk:=[xI,CT,Gj,xY,jb]
noncomputable def GH:Fx:=⟨148,Tryz.f148,[(3000005,rA 0 45),(3000009,rA 0 79)],0⟩
noncomputable def bD:FT (ae×Int×Int×Unit) (Segm×Bool) (λx=>sS x.1∧x.1.length≤4294967200) (λx v=>am v.1):= .mk λ(x0,x1,x2,_)=>
  .ite (decide ((x0.length:Int)<20)) (.ret ((⟨0,0,0,0,0,0,⟨0,0,false,false,0,0⟩,[]⟩:Segm),false))<|
  .grd (decide (12<(x0.length:Int)))<|
  .val (IntKind.wrap .i64 ((IntKind.wrap .i64 ((IntKind.wrap .i64 (ah x0 12)).tdiv 16))*4)) λe1=>
  .cal em.c (x1,x2,(x0.length:Int),()) λc2=>
  .bnd (β:=Bool×Unit) (.ite (decide (e1<20)) (.ret (true,()))<|
   .ite (decide ((x0.length:Int)<e1)) (.ret (true,()))<|
   .ite (c2==[]) (.ret (true,()))<|
   .grd (Nat.ble (c2.length+x0.length) ak)<|
   .cal lF.c ((c2++x0),()) λc3=>
   .ret ((!c3),())) λ(u4a0,_)=>
  .ite u4a0 (.ret ((⟨0,0,0,0,0,0,⟨0,0,false,false,0,0⟩,[]⟩:Segm),false))<|
  .grd ((decide (20≤e1))&&(decide (e1≤(x0.length:Int))))<|
  .cal kM.c (((x0.take e1.toNat).drop 20),()) λc5=>
  .cal d8.c (x0,0,2,()) λc6=>
  .cal d8.c (x0,2,2,()) λc7=>
  .cal d8.c (x0,4,4,()) λc8=>
  .cal d8.c (x0,8,4,()) λc9=>
  .grd (decide (13<(x0.length:Int)))<|
  .cal d8.c (x0,14,2,()) λc10=>
  .grd (KV x0 e1 (x0.length:Int))<|
  .bnd (β:=Bool×Unit) (.as (λw=>(w.1=false→(⟨c6,c7,c8,c9,(bits .and .i64 (IntKind.wrap .i64 (ah x0 13)) 63),c10,c5.1,((x0.take ((x0.length:Int).toNat)).drop e1.toNat)⟩:Segm).body.length≤1420)) (.ite (!c5.2) (.ret (true,()))<|
   .cal ai.c ((⟨c6,c7,c8,c9,(bits .and .i64 (IntKind.wrap .i64 (ah x0 13)) 63),c10,c5.1,((x0.take ((x0.length:Int).toNat)).drop e1.toNat)⟩:Segm),()) λc11=>
   .ret ((!c11),()))) λ(u12a0,_)=>
  .ite u12a0 (.ret ((⟨0,0,0,0,0,0,⟨0,0,false,false,0,0⟩,[]⟩:Segm),false))<|
  .ret ((⟨c6,c7,c8,c9,(bits .and .i64 (IntKind.wrap .i64 (ah x0 13)) 63),c10,c5.1,((x0.take ((x0.length:Int).toNat)).drop e1.toNat)⟩:Segm),true)
noncomputable def xf:=bK st GH Gk [] (ks:=[.sc .str,.sc (.int .i64),.sc (.int .i64)]) bD (λv=>[(true,th v.1),(false,[.c (.bool v.2)])]) Tryz.func148 trivial
noncomputable def xZ:=[N4,gA,gc,vR]
def nt:Sh:=⟨[zp 2 0,zi 5],[.box [.st .tabl [.sl .arg,.sl .arg]]]⟩
def mO:Sh:=⟨[zp 2 0,zi 6],[.box [.st .tabl [.sl .arg,.sl .arg]]]⟩
noncomputable def xD:Fx:=⟨153,Tryz.f153,[(0,lb [2,5] [2,4]),(2,lb [2,6] [4]),(3000001,rA 0 25)],0⟩
noncomputable def qU (v1:Tabl)(v0:Int)(a:Unit):Tr (Stp (Unit) ((Unit))):=
 .grd (cd v1.conns v0)<|
 .cal ib.c ((v1.conns.getD v0.toNat (Ty.zero .conn)),()) λc3=>
 .ite (!c3) (.ret (.out ()))<|
 .grd (cd v1.conns v0)<|
 .cal d6.c (v1,(v1.conns.getD v0.toNat (Ty.zero .conn)).tuple,()) λc4=>
 .ite (c4 != v0) (.ret (.out ()))<|
 .ret (.next ())
noncomputable def gQ:nt.V→qo nt Unit (Unit):=λ(v0,v1,_)=>⟨v0,(),λv0 _=>(v0,v1,()),λv0 _=>(decide (v0<(v1.conns.length:Int))),qU v1,up,1,(Int.toNat ((v1.conns.length:Int)-v0)),.inl,eR,oB .ret ⟨[zp 2 0,zb 4],[.box [.st .tabl [.sl .arg,.sl .arg]]]⟩ (λ_=>(false,v1,())) (.exit 0) ⟨[zp 2 0,zu 4],[.box [.st .tabl [.sl .arg,.sl .arg]]]⟩ (λ_=>(v1,()))⟩
theorem IU:LS Tryz.prog xD [0] (j8 0 nt gQ):=eU st (aV xZ) _ gQ [] trivial
theorem Id {v0:Int}{v1:Tabl}(h0:0≤v0)(h1:(v1.conns.length:Int)≤4611686018427387904)(h2:aM v1):(gQ (v0,v1,())).U (v1.conns.length:Int) (λ_ _=>True) (λ_=>True):=
 jV h0 h1 trivial
noncomputable def qX (v1:Tabl)(v0:Int)(a:Unit):Tr (Stp (Unit) ((Unit))):=
 .grd ((decide (0≤v0))&&(decide (v0≤(v1.waiting.length:Int))))<|
 .grd (cd v1.waiting v0)<|
 .cal nU.c (((v1.waiting.take v0.toNat).drop 0),(v1.waiting.getD v0.toNat (Ty.zero .tupl)),()) λc6=>
 .ite c6 (.ret (.out ()))<|
 .grd (cd v1.waiting v0)<|
 .cal d6.c (v1,(v1.waiting.getD v0.toNat (Ty.zero .tupl)),()) λc7=>
 .ite (decide (c7<0)) (.ret (.out ()))<|
 .ret (.next ())
noncomputable def gX:mO.V→qo mO Unit (Unit):=λ(v0,v1,_)=>⟨v0,(),λv0 _=>(v0,v1,()),λv0 _=>(decide (v0<(v1.waiting.length:Int))),qX v1,up,1,(Int.toNat ((v1.waiting.length:Int)-v0)),.inl,eR,oB .ret ⟨[zb 4],[]⟩ (λ_=>(false,())) (.exit 2) ⟨[zu 4],[]⟩ (λ_=>())⟩
theorem Ky:LS Tryz.prog xD [1] (j8 2 mO gX):=eU st (aV xZ) _ gX [] trivial
theorem qV {v0:Int}{v1:Tabl}(h0:0≤v0)(h1:(v1.waiting.length:Int)≤4611686018427387904)(h2:aM v1):(gX (v0,v1,())).U (v1.waiting.length:Int) (λ_ _=>True) (λ_=>True):=
 jV h0 h1 trivial
noncomputable def uI:FT (Tabl×Limi×Unit) (Bool) (λx=>wS x.1.conns∧cT aa x.1.conns∧wS x.1.waiting) (λx v=>(v=true→x.1.conns.length≤16∧x.1.waiting.length≤16)):= .mk (λ(x0,x1,_)=>
  .bnd (β:=Bool×Unit) (.as (λw=>(w.1=false→x1.halves≤64∧x1.waiting≤16∧x1.conns≤16)) (.cal vy.c (x1,()) λc1=>
   .ite (!c1) (.ret (true,()))<|
   .ite (decide (x1.conns<(x0.conns.length:Int))) (.ret (true,()))<|
   .ret ((decide (x1.waiting<(x0.waiting.length:Int))),()))) λ(u2a0,_)=>
  .ite u2a0 (.ret false)<|
  .lp (gQ (0,x0,())).lp λw5=> .sum w5 (λ_=>
  .ret false)<|
  λ_=>
  .lp (gX (0,x0,())).lp λw8=> .sum w8 (λ_=>
  .ret false)<|
  λ_=>
  .ret true) (sk4 @Id @qV @qV @qV)
noncomputable def Fk:=bK st xD xZ [(j8 0 nt gQ),(j8 2 mO gX)] (ks:=[.st .tabl,.st .limi]) uI rB Tryz.func153 ⟨IU,Ky,trivial⟩
noncomputable def Uh:=[Av,A3,Bo,WW,S5,Ti,Ox,QB,AE,x6]
noncomputable def Vv:Fx:=⟨164,Tryz.f164,[(3000003,rA 0 37),(3000008,rA 0 58),(3000016,rA 0 117)],0⟩
noncomputable def bI:FT (Link×ae×Unit) (Link×Int×Pack×ae) (λx=>dY x.1∧sS x.2.1) (λx v=>dY v.1∧kt v.2.2.1∧sS v.2.2.2∧v.2.2.1.body.length≤1500):= .mk λ(x0,x1,_)=>
  .cal mf.c (x0,()) λc1=>
  .cal mg.c (x1,()) λc2=>
  .bnd (β:=Bool×Unit) (.cal dK.c (x0,()) λc3=>
   .ite (!c3) (.ret (true,()))<|
   .ite (!c2.2) (.ret (true,()))<|
   .val (td.f (c2.1,x0.mac,())) λc4=>
   .ret ((!c4),())) λ(u5a0,_)=>
  .ite u5a0 (.ret (c1,0,(⟨0,0,0,0,0,[]⟩:Pack),[]))<|
  .ite (c2.1.type==2054) (.cal un.c (c2.1.body,()) λc6=>
   .bnd (β:=Bool×Unit) (.ite (!c6.2) (.ret (true,()))<|
    .ret ((c6.1.dstIp != x0.ip),())) λ(u7a0,_)=>
   .ite u7a0 (.ret (c1,0,(⟨0,0,0,0,0,[]⟩:Pack),[]))<|
   .cal uk.c (x0.cache,c6.1.srcIp,c6.1.srcHw,()) λc8=>
   .cal n3.c (c6.1,x0.mac,x0.ip,()) λc9=>
   .ite c9.2 (.cal kA.c (c9.1,()) λc10=>
    .cal gj.c ((⟨c6.1.srcHw,x0.mac,2054,c10⟩:Fram),()) λc11=>
    .ret (({c1 with cache:=c8}:Link),1,(⟨0,0,0,0,0,[]⟩:Pack),c11))<|
   .ret (({c1 with cache:=c8}:Link),0,(⟨0,0,0,0,0,[]⟩:Pack),[]))<|
  .ite (c2.1.type==2048) (.cal kj.c (c2.1.body,()) λc12=>
   .bnd (β:=Bool×Unit) (.ite (c12.2 != 0) (.ret (true,()))<|
    .ite (c12.1.dst != x0.ip) (.ret (true,()))<|
    .ite (c12.1.proto != 6) (.ret (true,()))<|
    .ret ((c12.1.src==x0.ip),())) λ(u13a0,_)=>
   .ite u13a0 (.ret (c1,0,(⟨0,0,0,0,0,[]⟩:Pack),[]))<|
   .cal uk.c (x0.cache,c12.1.src,c2.1.src,()) λc14=>
   .ret (({c1 with cache:=c14}:Link),2,c12.1,[]))<|
  .ret (c1,0,(⟨0,0,0,0,0,[]⟩:Pack),[])
noncomputable def UL:=bK st Vv Uh [] (ks:=[.st .link,.sc .str]) bI (λv=>[(true,EY (.o true) v.1),(false,[.c (.int .i64 v.2.1)]),(true,Bq v.2.2.1),(false,[.c (.str v.2.2.2)])]) Tryz.func164 trivial
noncomputable def Nv:=[cS,gu,S0,kp,uE]
noncomputable def OD:Fx:=⟨177,Tryz.f177,[(3000006,rA 0 43)],0⟩
noncomputable def uQ:FT (Conn×Int×Unit) (Conn×ae×List Segm) (λx=>aa x.1) (λx v=>aa v.1∧sS v.2.1∧sL am v.2.2):= .mk λ(x0,x1,_)=>
  .cal bV.c (x0,()) λc1=>
  .cal aI.c (x0,()) λc2=>
  .ite (!c2) (.ret (c1,[],[]))<|
  .cal zH.c (x0.r,x1,()) λc3=>
  .bnd (β:=Bool×Unit) (.cal bp.c (x0.r,()) λc4=>
   .ite (c4==0) (.cal bp.c (c3.1,()) λc5=>
    .ite (c5 != 0) (.ite (x0.state != 8) (.ret ((x0.state != 7),()))<|
     .ret (false,()))<|
    .ret (false,()))<|
   .ret (false,())) λ(u6a0,_)=>
  .ite u6a0 (.cal bt.c (({c1 with r.next:=c3.1.next,r.data:=c3.1.data,r.held:=c3.1.held,r.fin:=c3.1.fin,r.done:=c3.1.done}:Conn),()) λc7=>
   .ret (({c1 with r.next:=c3.1.next,r.data:=c3.1.data,r.held:=c3.1.held,r.fin:=c3.1.fin,r.done:=c3.1.done}:Conn),c3.2,[c7]))<|
  .ret (({c1 with r.next:=c3.1.next,r.data:=c3.1.data,r.held:=c3.1.held,r.fin:=c3.1.fin,r.done:=c3.1.done}:Conn),c3.2,[])
noncomputable def Ok:=bK st OD Nv [] (ks:=[.st .conn,.sc (.int .i64)]) uQ (λv=>[(true,fo (.o true) v.1),(false,[.c (.str v.2.1)]),(false,[sc (.o true) .segm v.2.2])]) Tryz.func177 trivial
noncomputable def XA:=[cS,gu,uE]
noncomputable def Yy:Fx:=⟨179,Tryz.f179,[(3000002,rA 0 15)],0⟩
noncomputable def Hn:FT (Conn×Unit) (Conn×List Segm) (λx=>aa x.1) (λx v=>aa v.1∧sL am v.2):= .mk λ(x0,_)=>
  .cal bV.c (x0,()) λc1=>
  .bnd (β:=Bool×Unit) (.as (λw=>(w.1=false→SO x0.s∧RO x0.r)) (.cal aI.c (x0,()) λc2=>
   .ite (!c2) (.ret (true,()))<|
   .ret ((x0.state==8),()))) λ(u3a0,_)=>
  .ite u3a0 (.ret (c1,[]))<|
  .cal bt.c (x0,()) λc4=>
  .ret (({c1 with state:=8,timer:=0,tries:=0}:Conn),[({c4 with flags:=(bits .or .i64 c4.flags 4)}:Segm)])
noncomputable def Yz:=bK st Yy XA [] (ks:=[.st .conn]) Hn (λv=>[(true,fo (.o true) v.1),(false,[sc (.o true) .segm v.2])]) Tryz.func179 trivial
noncomputable def lU:FT (ae×Unit) (Fram×Bool) (λx=>sS x.1) (λx v=>qa v.1):= .mk λ(x0,_)=>
  .ite (decide ((x0.length:Int)<14)) (.ret ((⟨0,0,0,[]⟩:Fram),false))<|
  .grd ((decide (14≤(x0.length:Int)))&&(decide ((x0.length:Int)≤(x0.length:Int))))<|
  .cal bJ.c (x0,0,6,()) λc1=>
  .cal bJ.c (x0,6,6,()) λc2=>
  .cal bJ.c (x0,12,2,()) λc3=>
  .cal mh.c ((⟨c1.1,c2.1,c3.1,((x0.take ((x0.length:Int).toNat)).drop 14)⟩:Fram),()) λc4=>
  .ite (!(c4==x0)) (.ret ((⟨0,0,0,[]⟩:Fram),false))<|
  .ret ((⟨c1.1,c2.1,c3.1,((x0.take ((x0.length:Int).toNat)).drop 14)⟩:Fram),true)
noncomputable def AO:=aN st Tryz.func209 [o7,tv] (ks:=[.sc .str]) lU (λv=>[(true,ZD v.1),(false,[.c (.bool v.2)])])
noncomputable def Ks:=[Du,o7,ol,ci]
noncomputable def JF:Fx:=⟨210,Tryz.f210,[(3000010,rA 0 43)],0⟩
noncomputable def kG:FT (ae×Unit) (Pack×Int) (λx=>sS x.1) (λx v=>kt v.1∧v.1.body.length≤1500):= .mk λ(x0,_)=>
  .ite (decide ((x0.length:Int)<20)) (.ret ((⟨0,0,0,0,0,[]⟩:Pack),1))<|
  .grd (decide (0<(x0.length:Int)))<|
  .ite ((ah x0 0) != 69) (.ret ((⟨0,0,0,0,0,[]⟩:Pack),2))<|
  .grd (decide (20≤(x0.length:Int)))<|
  .cal rf.c (((x0.take 20).drop 0),()) λc1=>
  .ite (!c1) (.ret ((⟨0,0,0,0,0,[]⟩:Pack),3))<|
  .cal bJ.c (x0,2,2,()) λc2=>
  .val (jr.f ((x0.length:Int),1500,())) λc3=>
  .val (bS.f (c2.1,20,c3,())) λc4=>
  .ite (!c4) (.ret ((⟨0,0,0,0,0,[]⟩:Pack),4))<|
  .bnd (β:=Bool×Unit) (.grd (decide (6<(x0.length:Int)))<|
   .ite ((bits .and .u8 (ah x0 6) 191) != 0) (.ret (true,()))<|
   .grd (decide (7<(x0.length:Int)))<|
   .ret (((ah x0 7) != 0),())) λ(u5a0,_)=>
  .ite u5a0 (.ret ((⟨0,0,0,0,0,[]⟩:Pack),5))<|
  .grd (decide (8<(x0.length:Int)))<|
  .grd (decide (9<(x0.length:Int)))<|
  .grd ((decide (20≤c2.1))&&(decide (c2.1≤(x0.length:Int))))<|
  .ite ((IntKind.wrap .i64 (ah x0 8))==0) (.ret ((⟨0,0,0,0,0,[]⟩:Pack),6))<|
  .cal bJ.c (x0,4,2,()) λc6=>
  .cal bJ.c (x0,12,4,()) λc7=>
  .cal bJ.c (x0,16,4,()) λc8=>
  .ret ((⟨c7.1,c8.1,(IntKind.wrap .i64 (ah x0 8)),(IntKind.wrap .i64 (ah x0 9)),c6.1,((x0.take c2.1.toNat).drop 20)⟩:Pack),0)
noncomputable def xy:=bK st JF Ks [] (ks:=[.sc .str]) kG (λv=>[(true,Bq v.1),(false,[.c (.int .i64 v.2)])]) Tryz.func210 trivial
def yv:Sh:=⟨[zs 2,zp 7 0,zi 8,zi 9],[zx .sipr]⟩
noncomputable def jS (v0:ae)(v1:Int)(a:Int×Sipr):Tr (Stp (Int×Sipr) ((Int×Sipr))):=
 .ite (decide ((IntKind.wrap .i64 (a.1+8))≤v1)) (.grd (KV v0 a.1 (IntKind.wrap .i64 (a.1+8)))<|
  .cal qY.c (((v0.take ((IntKind.wrap .i64 (a.1+8)).toNat)).drop a.1.toNat),()) λc2=>
  .cal ug.c (a.2,c2,()) λc3=>
  .ret (.next ((IntKind.wrap .i64 (a.1+8)),c3)))<|
 .ret (.out (a.1,a.2))
noncomputable def ng:yv.V→LW yv (Int×Sipr) ((Int×Sipr)):=λ(v0,v1,v2,v3,_)=>⟨(v2,v3),λa=>(v0,v1,a.1,a.2,()),jS v0 v1,Int.toNat (v1-v2),oN (.exit 0) ⟨[zs 2,zu 6,zp 7 0,zi 8,zi 9],[zx .sipr]⟩ (λp=>(v0,v1,p.1,p.2,()))⟩
theorem JR {v0:ae}{v1 v2:Int}{v3:Sipr}(h0:v1=(v0.length:Int))(h1:sS v0)(h2:0≤v2∧v2≤v1):(ng (v0,v1,v2,v3,())).W (λp=>0≤p.1∧p.1≤v0.length):=
 lwW (a:=(v2,v3)) (λa=>0≤a.1∧a.1≤v1) (λa=>Int.toNat (v1-a.1)) h2
noncomputable def zw:FT (Int×Int×ae×Unit) (Int) (λx=>sS x.2.2.1) (λ_ _=>True):= .mk (λ(x0,x1,x2,_)=>
  .val (wj.f (x0,x1,())) λc1=>
  .lp (ng (x2,(x2.length:Int),0,c1,())).lp λ(p4a0,p4a1)=>
  .grd (KV x2 p4a0 (x2.length:Int))<|
  .cal qY.c (((x2.take ((x2.length:Int).toNat)).drop p4a0.toNat),()) λc5=>
  .val (IntKind.wrap .u64 ((IntKind.wrap .u64 ((x2.length:Int).tmod 256))*72057594037927936)) λe6=>
  .cal ug.c (p4a1,(bits .or .u64 c5 e6),()) λc7=>
  .cal CI.c (c7,()) λc8=>
  .ret c8) (pE @JR)
noncomputable def S7:=N9 st Tryz.func233 [(0,lb [2,7,8,9] [2,6,7,8,9])] [OE,VP,Tt,Us] 0 ng (ks:=[.sc (.int .u64),.sc (.int .u64),.sc .str]) zw (λv=>[(false,[.c (.int .u64 v)])])
noncomputable def lQ:FT (Door×Segm×Unit) (Door×List Segm×Int) (λx=>av x.1∧am x.2.1) (λx v=>av v.1∧sL am v.2.1):= .mk λ(x0,x1,_)=>
  .cal vb.c (x1,()) λc1=>
  .ite (!c1.2) (.cal dT.c (x0,()) λc2=>
   .ret (c2,[],0))<|
  .cal dT.c (x0,()) λc3=>
  .ret (c3,[c1.1],0)
noncomputable def Cf:=aN st Tryz.func242 [Ps,gb] (ks:=[.st .door,.st .segm]) lQ (λv=>[(true,kK (.o true) (.o true) (.o true) (.o true) (.o true) v.1),(false,[sc (.o true) .segm v.2.1]),(false,[.c (.int .i64 v.2.2)])])
noncomputable def RM:=[Zj,BC,J3,tv]
noncomputable def S3:Fx:=⟨248,Tryz.f248,[(3000002,rA 0 25)],0⟩
noncomputable def zF:FT (Link×Int×ae×Unit) (ae×Bool) (λx=>dY x.1∧sS x.2.2.1) (λx v=>sS v.1):= .mk λ(x0,x1,x2,_)=>
  .cal Pr.c (x0.cache,x1,()) λc1=>
  .bnd (β:=Bool×Unit) (.cal ui.c (x0,()) λc2=>
   .ite (!c2) (.ret (true,()))<|
   .ret ((!c1.2),())) λ(u3a0,_)=>
  .ite u3a0 (.ret ([],false))<|
  .cal qj.c ((⟨x0.ip,x1,64,6,0,x2⟩:Pack),()) λc4=>
  .ite (c4==[]) (.ret ([],false))<|
  .cal mh.c ((⟨c1.1,x0.mac,2048,c4⟩:Fram),()) λc5=>
  .ret (c5,(!(c5==[])))
noncomputable def QC:=bK st S3 RM [] (ks:=[.st .link,.sc (.int .i64),.sc .str]) zF (λv=>[(false,[.c (.str v.1)]),(false,[.c (.bool v.2)])]) Tryz.func248 trivial
noncomputable def Hj:FT (Conn×Unit) (Bool) (λx=>aa x.1) (λ_ _=>True):= .mk λ(x0,_)=>
  .cal ib.c (x0,()) λc1=>
  .ite c1 (.ite (x0.state==7) (.ret true)<|
   .ite (x0.state != 8) (.val (C2.f (x0,())) λc2=>
    .ret c2)<|
   .ret false)<|
  .ret false
noncomputable def W9:=aN st Tryz.func250 [gA,TL] (ks:=[.st .conn]) Hj rB
def Fz:Sh:=⟨[zi 1,zp 4 0,zp 6 1,zo 7 2],[.box [.st .conn [.nil .piec]],zk .conn 3,za .segm,zf]⟩
noncomputable def bT (v0:Int)(a:Conn×Conn×List Segm):Tr (Stp (Conn×Conn×List Segm) ((Conn×Conn×List Segm))):=
 .val (dz.f (a.2.1,())) λc4=>
 .cal aZ.c (a.2.1.s,v0,c4,()) λc5=>
 .ite (!c5.2) (.ret (.out (({a.1 with r.held:=[]}:Conn),a.2.1,a.2.2)))<|
 .cal bt.c (a.2.1,()) λc6=>
 .ite (!(c5.1.text==[])) (.ite c5.1.fin (.grd (xr a.2.2 1 104)<|
   .val (a.2.2++[({c6 with seq:=c5.1.seq,flags:=(bits .or .i64 (bits .or .i64 c6.flags 8) 1),body:=c5.1.text}:Segm)]) λl7=>
   .cal dB.c (a.2.1.s,c5.1,()) λc8=>
   .ret (.next (({a.1 with r.held:=[]}:Conn),({a.2.1 with s.una:=c8.una,s.data:=c8.data,s.sent:=c8.sent,s.fin:=c8.fin,s.finSent:=c8.finSent,s.done:=c8.done}:Conn),l7)))<|
  .grd (xr a.2.2 1 104)<|
  .val (a.2.2++[({c6 with seq:=c5.1.seq,flags:=(bits .or .i64 c6.flags 8),body:=c5.1.text}:Segm)]) λl9=>
  .cal dB.c (a.2.1.s,c5.1,()) λc10=>
  .ret (.next (({a.1 with r.held:=[]}:Conn),({a.2.1 with s.una:=c10.una,s.data:=c10.data,s.sent:=c10.sent,s.fin:=c10.fin,s.finSent:=c10.finSent,s.done:=c10.done}:Conn),l9)))<|
 .ite c5.1.fin (.grd (xr a.2.2 1 104)<|
  .val (a.2.2++[({c6 with seq:=c5.1.seq,flags:=(bits .or .i64 c6.flags 1),body:=c5.1.text}:Segm)]) λl11=>
  .cal dB.c (a.2.1.s,c5.1,()) λc12=>
  .ret (.next (({a.1 with r.held:=[]}:Conn),({a.2.1 with s.una:=c12.una,s.data:=c12.data,s.sent:=c12.sent,s.fin:=c12.fin,s.finSent:=c12.finSent,s.done:=c12.done}:Conn),l11)))<|
 .grd (xr a.2.2 1 104)<|
 .cal dB.c (a.2.1.s,c5.1,()) λc13=>
 .ret (.next (({a.1 with r.held:=[]}:Conn),({a.2.1 with s.una:=c13.una,s.data:=c13.data,s.sent:=c13.sent,s.fin:=c13.fin,s.finSent:=c13.finSent,s.done:=c13.done}:Conn),(a.2.2++[({c6 with seq:=c5.1.seq,body:=c5.1.text}:Segm)])))
noncomputable def jR:Fz.V→LW Fz (Conn×Conn×List Segm) ((Conn×Conn×List Segm)):=λ(v0,v1,v2,v3,_)=>⟨(v1,v2,v3),λa=>(v0,a.1,a.2.1,a.2.2,()),bT v0,Hz v2.s,oN (.exit 0) ⟨[zp 4 0,zu 5,zp 6 1,zo 7 2],[.box [.st .conn [.nil .piec]],zk .conn 3,za .segm,zf]⟩ (λp=>(p.1,p.2.1,p.2.2,()))⟩
theorem SX {v0:Int}{v1 v2:Conn}{v3:List Segm}(h0:aa v1∧aa v2∧sL am v3∧v3.length+Hz v2.s≤49):(jR (v0,v1,v2,v3,())).W (λp=>aa p.1∧aa p.2.1∧sL am p.2.2∧p.2.2.length≤49):=
 LW.okW (a:=(v1,v2,v3)) (λa=>aa a.1∧aa a.2.1∧sL am a.2.2∧a.2.2.length+Hz a.2.1.s≤49) (λa=>Hz a.2.1.s) rfl h0 λ(v1,v2,v3) hv=>by
  refine Tr.V λc4 hc4=>Tr.C ?_ λc5 hc5 qc5=>Tr.I (λb0=>Tr.Ro ?_) λb0=>Tr.C ?_ λc6 hc6 qc6=>Tr.I (λb1=>Tr.I (λb2=>Tr.Gb ?_ λg3=>Tr.V λl7 hl7=>Tr.C ?_ λc8 hc8 qc8=>Tr.Rn ?_) λb2=>Tr.Gb ?_ λg3=>Tr.V λl9 hl9=>Tr.C ?_ λc10 hc10 qc10=>Tr.Rn ?_) λb1=>Tr.I (λb2=>Tr.Gb ?_ λg3=>Tr.V λl11 hl11=>Tr.C ?_ λc12 hc12 qc12=>Tr.Rn ?_) λb2=>Tr.Gb ?_ λg3=>Tr.C ?_ λc13 hc13 qc13=>Tr.Rn ?_
  all_goals ((first|grind|(have tl:∀s:ae,s=[]∨0<s.length:=(λs=>by cases s<;>simp);grind)))
noncomputable def cG:FT (Conn×Int×Unit) (Conn×List Segm) (λx=>aa x.1) (λx v=>aa v.1∧sL am v.2∧v.2.length≤49):= .mk (λ(x0,x1,_)=>
  .cal bV.c (x0,()) λc1=>
  .bnd (β:=Bool×Unit) (.as (λw=>(w.1=false→SO x0.s∧RO x0.r)) (.cal aI.c (x0,()) λc2=>
   .ite (!c2) (.ret (true,()))<|
   .ite (x0.state==8) (.ret (true,()))<|
   .ret ((x0.state==7),()))) λ(u3a0,_)=>
  .ite u3a0 (.ret (c1,[]))<|
  .lp (jR (x1,(⟨⟨0,0,0⟩,0,⟨0,[],0,false,false,false⟩,⟨0,[],[],0,false⟩,0,0,⟨0,0,false,false,0,0⟩,0,0⟩:Conn),c1,[],())).lp λ(_,p14a1,p14a2)=>
  .bnd (β:=Bool×Unit) (.ite (decide (0<(p14a2.length:Int))) (.ret ((p14a1.timer==0),()))<|
   .ret (false,())) λ(u15a0,_)=>
  .ite u15a0 (.ret (({p14a1 with timer:=3}:Conn),p14a2))<|
  .ret (p14a1,p14a2)) (pE @SX)
noncomputable def B1:=N9 st Tryz.func289 [(0,lb [1,4,6,7] [4,5,6,7]),(3000002,rA 0 25),(3000016,rA 0 76)] [cS,gu,VO,LQ,uE,Q6] 0 jR (ks:=[.st .conn,.sc (.int .i64)]) cG (λv=>[(true,fo (.o true) v.1),(false,[sc (.o true) .segm v.2])])
noncomputable def Rt:=[gu,jb,zt,kp,vl,Iv,Te]
noncomputable def SA:Fx:=⟨306,Tryz.f306,[(3000001,rA 0 17)],0⟩
noncomputable def tJ:FT (Conn×Segm×Unit) (Int) (λx=>aa x.1∧am x.2.1) (λ_ _=>True):= .mk λ(x0,x1,_)=>
  .bnd (β:=Bool×Unit) (.as (λw=>(w.1=false→SO x0.s∧RO x0.r∧x1.body.length≤1420)) (.cal aI.c (x0,()) λc1=>
   .ite (!c1) (.ret (true,()))<|
   .ite (x0.state==8) (.ret (true,()))<|
   .cal ai.c (x1,()) λc2=>
   .ret ((!c2),()))) λ(u3a0,_)=>
  .ite u3a0 (.ret 1)<|
  .val (bk.f (x1,4,())) λc4=>
  .ite c4 (.ite (x1.seq==x0.r.next) (.ret 2)<|
   .cal bp.c (x0.r,()) λc5=>
   .val (oa.f (x1.seq,x0.r.next,c5,())) λc6=>
   .ite c6 (.ret 3)<|
   .ret 1)<|
  .val (bk.f (x1,2,())) λc7=>
  .ite c7 (.ret 3)<|
  .cal qi.c (x0,x1,()) λc8=>
  .ite (!c8) (.ret 4)<|
  .val (bk.f (x1,16,())) λc9=>
  .ite (!c9) (.ret 1)<|
  .cal ze.c (x0,x1.ack,()) λc10=>
  .ite (!c10) (.ret 3)<|
  .ret 5
noncomputable def FB:=bK st SA Rt [] (ks:=[.st .conn,.st .segm]) tJ rI Tryz.func306 trivial
noncomputable def Xb:=[FB,cS,Yg,I3,rX,zt,R1,VG]
def Au:An:=⟨⟨[],[],false,0⟩,⟨[2,3,4,5],[],false,0⟩,⟨[],[]⟩,[(.normal,⟨[zp 2 0,zp 3 1,zp 4 2,zp 5 3],[zg .conn,zx .segm,.box [.st .conn [.nil .piec]],zk .conn 4,zf]⟩)]⟩
noncomputable def Yo:Fx:=⟨307,Tryz.f307,[(1000024,Au),(3000009,rA 0 54),(3000014,rA 0 73)],0⟩
noncomputable def Cq:FT (Conn×Segm×Unit) (Conn) (λx=>aa x.1∧am x.2.1) (λx v=>aa v):= .mk λ(x0,x1,_)=>
  .cal tJ.c (x0,x1,()) λc1=>
  .ite (c1 != 5) (.cal bV.c (x0,()) λc2=>
   .ret c2)<|
  .cal bV.c (x0,()) λc3=>
  .cal Hf.c (x0.s,x1.ack,()) λc4=>
  .bnd (β:=WT Au.es) (.as (λw=>aa w.1∧am w.2.1∧aa w.2.2.1∧aa w.2.2.2.1) (.ite c4.2 (.cal yb.c (x1.window,x0.opts,()) λc5=>
    .bnd (β:=Bool×Unit) (.ite (c4.1.una != x0.s.una) (.ret ((x0.state != 7),()))<|
     .cal cZ.c (c4.1,()) λc6=>
     .ite (c6==0) (.ret ((x0.state != 7),()))<|
     .ret (false,())) λ(u7a0,_)=>
    .ite u7a0 (.cal cZ.c (c4.1,()) λc8=>
     .ite (decide (0<c8)) (.ret (x0,x1,(⟨⟨0,0,0⟩,0,⟨0,[],0,false,false,false⟩,⟨0,[],[],0,false⟩,0,0,⟨0,0,false,false,0,0⟩,0,0⟩:Conn),(⟨c3.tuple,c3.state,c4.1,c3.r,c5,(if c3.most<c5 then c5 else c3.most),c3.opts,3,0⟩:Conn),()))<|
     .ret (x0,x1,(⟨⟨0,0,0⟩,0,⟨0,[],0,false,false,false⟩,⟨0,[],[],0,false⟩,0,0,⟨0,0,false,false,0,0⟩,0,0⟩:Conn),(⟨c3.tuple,c3.state,c4.1,c3.r,c5,(if c3.most<c5 then c5 else c3.most),c3.opts,0,0⟩:Conn),()))<|
    .ret (x0,x1,(⟨⟨0,0,0⟩,0,⟨0,[],0,false,false,false⟩,⟨0,[],[],0,false⟩,0,0,⟨0,0,false,false,0,0⟩,0,0⟩:Conn),(⟨c3.tuple,c3.state,c4.1,c3.r,c5,(if c3.most<c5 then c5 else c3.most),c3.opts,c3.timer,c3.tries⟩:Conn),()))<|
   .ret (x0,x1,(⟨⟨0,0,0⟩,0,⟨0,[],0,false,false,false⟩,⟨0,[],[],0,false⟩,0,0,⟨0,0,false,false,0,0⟩,0,0⟩:Conn),c3,()))) λ(u9a0,u9a1,_,u9a3,_)=>
  .bnd (β:=Bool×Unit) (.ite (u9a0.state==1) (.ret (true,()))<|
   .ite (u9a0.state==2) (.ret (true,()))<|
   .ret ((u9a0.state==3),())) λ(u10a0,_)=>
  .ite u10a0 (.val (bk.f (u9a1,1,())) λc11=>
   .cal t7.c (u9a0.r,u9a1.seq,u9a1.body,c11,()) λc12=>
   .cal qM.c (({u9a3 with r.next:=c12.next,r.data:=c12.data,r.held:=c12.held,r.fin:=c12.fin,r.done:=c12.done}:Conn),()) λc13=>
   .ret c13)<|
  .cal qM.c (u9a3,()) λc14=>
  .ret c14
noncomputable def W3:=bK st Yo Xb [] (ks:=[.st .conn,.st .segm]) Cq (λv=>[(true,fo (.o true) v)]) Tryz.func307 trivial
noncomputable def ul:FT (ae×Unit) (Arpm×Bool) (λx=>sS x.1) (λ_ _=>True):= .mk λ(x0,_)=>
  .ite (decide ((x0.length:Int)<28)) (.ret ((⟨0,0,0,0,0⟩:Arpm),false))<|
  .cal bJ.c (x0,6,2,()) λc1=>
  .cal bJ.c (x0,8,6,()) λc2=>
  .cal bJ.c (x0,14,4,()) λc3=>
  .cal bJ.c (x0,18,6,()) λc4=>
  .cal bJ.c (x0,24,4,()) λc5=>
  .cal uj.c ((⟨c1.1,c2.1,c3.1,c4.1,c5.1⟩:Arpm),()) λc6=>
  .grd (decide (28≤(x0.length:Int)))<|
  .ite (!(c6==((x0.take 28).drop 0))) (.ret ((⟨0,0,0,0,0⟩:Arpm),false))<|
  .ret ((⟨c1.1,c2.1,c3.1,c4.1,c5.1⟩:Arpm),true)
noncomputable def SF:=aN st Tryz.func352 [o7,Fn] (ks:=[.sc .str]) ul (λv=>[(true,Pa v.1),(false,[.c (.bool v.2)])])
noncomputable def eH:FX (Conn×Int×Unit) (Int) (λ_=>True) (cJ [.st .conn,.sc (.int .i64)]):=⟨λ(x0,x1,_)=>
  .cal jJ.c (x0.s,x1,()) λc1=>
  .ite (decide (c1<0)) (.ret (-1))<|
  .cal gp.c (x0.r,c1,()) λc2=>
  .ite (decide (c2<0)) (.ret (-1))<|
  .ret c2,
 λ(x0,x1,_) hp hf=>by
  simp only[cJ,Pk.fact,jt,hY,Fl.fact,Ty.fl,Ty.toH]at hf
  refine Tr.C trivial λ_ _ _=>Tr.I (λ_=>Tr.R trivial) λ_=>Tr.C trivial λ_ _ _=>Tr.F (by kernel_rfl) trivial⟩
theorem Zk (x:Conn)(k:Int)(h0:0≤k)(h1:k≤1048576)(hf:∀c∈Ty.conn.cells x,FactC c)(h:0≤eH.f (x,k,())):eH.f (x,k,())≤k∧aa x:=by
 have e:eH.f (x,k,())=(bif decide (jJ.f (x.s,k,())<0)then-1 else(bif decide (gp.f (x.r,jJ.f (x.s,k,()),())<0)then-1 else gp.f (x.r,jJ.f (x.s,k,()),()))):=by first|(simp only[FX.f,PX,eH];done)|(simp only[FX.f,PX,eH];rfl)
 rw[e]at h⊢
 obtain⟨p0,e0⟩:=pi h
 rw[e0]at h⊢
 obtain⟨p1,e1⟩:=pi h
 rw[e1]at h⊢
 have b0:=U5 _ _ h0 (by omega) (hf (.str x.s.data) (by simp[Ty.cells,Ty.fl,Ty.toH,fW,Fl.cell])).slen p0
 have b1:=PQ _ _ p0 (by omega) (hf (.str x.r.data) (by simp[Ty.cells,Ty.fl,Ty.toH,fW,Fl.cell])).slen (hf (.sl .piec x.r.held) (by simp[Ty.cells,Ty.fl,Ty.toH,fW,Fl.cell])).len (λy hy=>(hf (.sl .piec x.r.held) (by simp[Ty.cells,Ty.fl,Ty.toH,fW,Fl.cell])).elem hy) p1
 refine⟨by omega, ?_⟩
 unfold aa
 exact⟨by omega,by omega,by omega,b1.2.2.2⟩
noncomputable def Vu:=rF st Tryz.func409 [Np,Jk] (ks:=[.st .conn,.sc (.int .i64)]) eH rI
noncomputable def CK:FT (Conn×Unit) (Conn) (λx=>aa x.1) (λx v=>aa v):= .mk λ(x0,_)=>
  .val (od.f (x0.tuple,())) λc1=>
  .cal uO.c (x0.s,()) λc2=>
  .cal qh.c (x0.r,()) λc3=>
  .val (pb.f (x0.opts,())) λc4=>
  .ret (⟨c1,x0.state,c2,c3,x0.window,x0.most,c4,x0.timer,x0.tries⟩:Conn)
noncomputable def VK:=aN st Tryz.func412 [sJ,N6,HR,AU] (ks:=[.st .conn]) CK (λv=>[(true,fo (.o true) v)])
noncomputable def DD:FT (Conn×Conn×Unit) (Bool) (λx=>aa x.1∧aa x.2.1) (λ_ _=>True):= .mk λ(x0,x1,_)=>
  .val (l8.f (x0.tuple,x1.tuple,())) λc1=>
  .ite (!c1) (.ret false)<|
  .ite (x0.state != x1.state) (.ret false)<|
  .val (vX.f (x0.s,x1.s,())) λc2=>
  .ite (!c2) (.ret false)<|
  .cal qq.c (x0.r,x1.r,()) λc3=>
  .ite (!c3) (.ret false)<|
  .ite (x0.window != x1.window) (.ret false)<|
  .ite (x0.most != x1.most) (.ret false)<|
  .val (oW.f (x0.opts,x1.opts,())) λc4=>
  .ite (!c4) (.ret false)<|
  .ite (x0.timer != x1.timer) (.ret false)<|
  .ite (x0.tries != x1.tries) (.ret false)<|
  .ret true
noncomputable def Vd:=aN st Tryz.func414 [oS,PN,KN,AJ] (ks:=[.st .conn,.st .conn]) DD rB
noncomputable def Qf:=[gA,kN,z8,kE,vr,KM,Qn]
noncomputable def Ta:Fx:=⟨433,Tryz.f433,[(3000001,rA 0 5),(3000003,rA 0 19),(3000005,rA 0 30)],0⟩
noncomputable def tX:FT (Conn×Segm×Unit) (Int) (λx=>aa x.1∧am x.2.1) (λ_ _=>True):= .mk λ(x0,x1,_)=>
  .bnd (β:=Bool×Unit) (.as (λw=>(w.1=false→SO x0.s∧RO x0.r∧x1.body.length≤1420)) (.cal ib.c (x0,()) λc1=>
   .ite (!c1) (.ret (true,()))<|
   .ite (x0.state==8) (.ret (true,()))<|
   .cal im.c (x1,()) λc2=>
   .ret ((!c2),()))) λ(u3a0,_)=>
  .ite u3a0 (.ret 1)<|
  .bnd (β:=Bool×Unit) (.val (gF.f (x1,4,())) λc4=>
   .ite c4 (.ret ((x1.seq==x0.r.next),()))<|
   .ret (false,())) λ(u5a0,_)=>
  .ite u5a0 (.ret 2)<|
  .bnd (β:=Bool×Unit) (.val (gF.f (x1,4,())) λc6=>
   .ite c6 (.cal gz.c (x0.r,()) λc7=>
    .val (nT.f (x1.seq,x0.r.next,c7,())) λc8=>
    .ret (c8,()))<|
   .ret (false,())) λ(u9a0,_)=>
  .ite u9a0 (.ret 3)<|
  .val (gF.f (x1,4,())) λc10=>
  .ite c10 (.ret 1)<|
  .val (gF.f (x1,2,())) λc11=>
  .ite c11 (.ret 3)<|
  .cal pQ.c (x0,x1,()) λc12=>
  .ite (!c12) (.ret 4)<|
  .val (gF.f (x1,16,())) λc13=>
  .ite (!c13) (.ret 1)<|
  .cal z6.c (x0,x1.ack,()) λc14=>
  .ite (!c14) (.ret 3)<|
  .ret 5
noncomputable def Fa:=bK st Ta Qf [] (ks:=[.st .conn,.st .segm]) tX rI Tryz.func433 trivial
noncomputable def WX:=[dC,Fa,YN,lV,ol,mP,ci,z8,QW,Uc]
def AW:An:=⟨⟨[],[],false,0⟩,⟨[2,3,4,5],[],false,0⟩,⟨[],[]⟩,[(.normal,⟨[zp 2 0,zp 3 1,zp 4 2,zp 5 3],[zg .conn,zx .segm,.box [.st .conn [.nil .piec]],zk .conn 4,zf]⟩)]⟩
noncomputable def X2:Fx:=⟨434,Tryz.f434,[(1000024,AW),(3000010,rA 0 59)],0⟩
noncomputable def Cl:FT (Conn×Segm×Unit) (Conn) (λx=>aa x.1∧am x.2.1) (λx v=>aa v):= .mk λ(x0,x1,_)=>
  .cal dA.c (x0,()) λc1=>
  .cal tX.c (x0,x1,()) λc2=>
  .ite (c2 != 5) (.ret c1)<|
  .cal Hy.c (x0.s,x1.ack,()) λc3=>
  .bnd (β:=WT AW.es) (.as (λw=>aa w.1∧am w.2.1∧aa w.2.2.1∧aa w.2.2.2.1) (.ite c3.2 (.val (fp.f (0,x0.opts.scale,())) λc4=>
    .grd (decide (0≤(IntKind.wrap .u64 c4)))<|
    .val (IntKind.wrap .i64 (x1.window*2 ^ (min (IntKind.wrap .u64 c4).toNat 64))) λe5=>
    .val (jr.f (1073725440,e5,())) λc6=>
    .val (fp.f (c1.most,c6,())) λc7=>
    .cal jB.c (c3.1,()) λc8=>
    .bnd (β:=Bool×Unit) (.ite (c3.1.una != x0.s.una) (.ret ((x0.state != 7),()))<|
     .ite (c8==0) (.ret ((x0.state != 7),()))<|
     .ret (false,())) λ(u9a0,_)=>
    .ite u9a0 (.ite (decide (0<c8)) (.ret (x0,x1,(⟨⟨0,0,0⟩,0,⟨0,[],0,false,false,false⟩,⟨0,[],[],0,false⟩,0,0,⟨0,0,false,false,0,0⟩,0,0⟩:Conn),(⟨c1.tuple,c1.state,c3.1,c1.r,c6,c7,c1.opts,3,0⟩:Conn),()))<|
     .ret (x0,x1,(⟨⟨0,0,0⟩,0,⟨0,[],0,false,false,false⟩,⟨0,[],[],0,false⟩,0,0,⟨0,0,false,false,0,0⟩,0,0⟩:Conn),(⟨c1.tuple,c1.state,c3.1,c1.r,c6,c7,c1.opts,0,0⟩:Conn),()))<|
    .ret (x0,x1,(⟨⟨0,0,0⟩,0,⟨0,[],0,false,false,false⟩,⟨0,[],[],0,false⟩,0,0,⟨0,0,false,false,0,0⟩,0,0⟩:Conn),(⟨c1.tuple,c1.state,c3.1,c1.r,c6,c7,c1.opts,c1.timer,c1.tries⟩:Conn),()))<|
   .ret (x0,x1,(⟨⟨0,0,0⟩,0,⟨0,[],0,false,false,false⟩,⟨0,[],[],0,false⟩,0,0,⟨0,0,false,false,0,0⟩,0,0⟩:Conn),c1,()))) λ(u10a0,u10a1,_,u10a3,_)=>
  .val (bS.f (u10a0.state,1,3,())) λc11=>
  .ite c11 (.val (gF.f (u10a1,1,())) λc12=>
   .cal ue.c (u10a0.r,u10a1.seq,u10a1.body,c12,()) λc13=>
   .cal rL.c (({u10a3 with r.next:=c13.next,r.data:=c13.data,r.held:=c13.held,r.fin:=c13.fin,r.done:=c13.done}:Conn),()) λc14=>
   .ret c14)<|
  .cal rL.c (u10a3,()) λc15=>
  .ret c15
noncomputable def X6:=bK st X2 WX [] (ks:=[.st .conn,.st .segm]) Cl (λv=>[(true,fo (.o true) v)]) Tryz.func434 trivial
noncomputable def y6:FT (Tabl×Conn×Limi×Unit) (Tabl×Bool) (λx=>aM x.1∧aa x.2.1) (λx v=>aM v.1∧v.1.conns.length≤max x.1.conns.length 16∧v.1.waiting.length≤max x.1.waiting.length 16):= .mk λ(x0,x1,x2,_)=>
  .cal mj.c (x0,()) λc1=>
  .cal dA.c (x1,()) λc2=>
  .grd (xr c1.conns 1 208)<|
  .grd (xr c1.waiting 1 24)<|
  .cal uI.c ((⟨(c1.conns++[c2]),(c1.waiting++[x1.tuple])⟩:Tabl),x2,()) λc3=>
  .ite (!c3) (.cal mj.c (x0,()) λc4=>
   .ret (c4,false))<|
  .ret ((⟨(c1.conns++[c2]),(c1.waiting++[x1.tuple])⟩:Tabl),true)
noncomputable def Qm:=aN st Tryz.func437 [sM,dC,Fk] (ks:=[.st .tabl,.st .conn,.st .limi]) y6 (λv=>[(true,ri (.o true) (.o true) v.1),(false,[.c (.bool v.2)])])
def yj:Sh:=⟨[zs 2,zp 7 0,(8,false,[.sl .any .u8])],[zx .sipr]⟩
noncomputable def mG (a:List Int×Sipr):Tr (Stp (List Int×Sipr) ((List Int×Sipr))):=
 .ite (decide (8≤(a.1.length:Int))) (.cal rO.c (a.1,()) λc4=>
  .cal uF.c (a.2,c4,()) λc5=>
  .grd ((decide (8≤(a.1.length:Int)))&&(decide ((a.1.length:Int)≤(a.1.length:Int))))<|
  .ret (.next (((a.1.take ((a.1.length:Int).toNat)).drop 8),c5)))<|
 .ret (.out (a.1,a.2))
noncomputable def mM:yj.V→LW yj (List Int×Sipr) ((List Int×Sipr)):=λ(v0,v1,v2,_)=>⟨(v1,v2),λa=>(v0,a.1,a.2,()),mG,v1.length,oN (.exit 0) ⟨[zs 2,zu 6,zp 7 0,(8,false,[.sl .any .u8])],[zx .sipr]⟩ (λp=>(v0,p.1,p.2,()))⟩
theorem IE {v0:ae}{v1:List Int}{v2:Sipr}(h0:sS v1):(mM (v0,v1,v2,())).W (λp=>sS p.1):=
 lwW (a:=(v1,v2)) (λa=>sS a.1) (λa=>a.1.length) h0
noncomputable def nR:FT (Int×Int×ae×Unit) (Int) (λx=>sS x.2.2.1) (λ_ _=>True):= .mk (λ(x0,x1,x2,_)=>
  .val (rm.f (x0,x1,())) λc1=>
  .grd (Nat.ble x2.length aU)<|
  .lp (mM (x2,(iE x2),c1,())).lp λ(p6a0,p6a1)=>
  .val ((p6a0.take (List.replicate 8 0).length)++(List.replicate 8 0).drop (p6a0.take (List.replicate 8 0).length).length) λl7=>
  .grd (decide (7<(l7.length:Int)))<|
  .cal rO.c ((l7.set 7 (IntKind.wrap .u8 (x2.length:Int))),()) λc8=>
  .cal uF.c (p6a1,c8,()) λc9=>
  .cal uu.c (c9,()) λc10=>
  .ret c10) (pE @IE)
noncomputable def Q8:=N9 st Tryz.func444 [(0,la ⟨[2,7,8],[.soft 8 0],false,0⟩ ⟨[2,6,7,8],[],false,0⟩)] [NR,Vh,SQ,TT] 0 mM (ks:=[.sc (.int .u64),.sc (.int .u64),.sc .str]) nR (λv=>[(false,[.c (.int .u64 v)])])
noncomputable def gI:=[I5]
def ca:Sh:=⟨[zl 0 .conn,(1,false,[.fn 174 [0]]),zi 7,zi 8],[zx .tupl]⟩
noncomputable def gE:Fx:=⟨173,Tryz.f173,[(0,la ⟨[0,1,7,8],[],false,1⟩ ⟨[4],[],false,1⟩)],1⟩
noncomputable def fH (v0:List Conn)(v3:Tupl)(v2:Int)(a:Unit):Tr (Stp (Unit) ((Int))):=
 .grd (cd v0 v2)<|
 .cal vU.c ((v0.getD v2.toNat (Ty.zero .conn)),v3,()) λc1=>
 .ite c1 (.ret (.out v2))<|
 .ret (.next ())
noncomputable def bh:ca.V→qo ca Unit (Int):=λ(v0,v1,v2,v3,_)=>⟨v2,(),λv2 _=>(v0,v1,v2,v3,()),λv2 _=>(decide (v2<v1)),fH v0 v3,up,1,(Int.toNat (v1-v2)),.inl,eR,oB .ret ⟨[zi 4],[zx .tupl]⟩ (λp=>(p,v3,())) (.exit 0) ⟨[zu 4],[zx .tupl]⟩ (λ_=>(v3,()))⟩
theorem lB:LS Tryz.prog gE [0] (j8 0 ca bh):=eU st (aV gI) _ bh [] trivial
theorem lJ {v0:List Conn}{v1 v2:Int}{v3:Tupl}(h0:0≤v2)(h1:v1≤4611686018427387904)(h2:v1≤(v0.length:Int)):(bh (v0,v1,v2,v3,())).U v1 (λ_ _=>True) (λp=>v2≤p∧p<v1):=
 jV h0 h1 trivial
noncomputable def eC:FT (List Conn×Tupl×Unit) (Int) (λx=>wS x.1) (λx v=> -1≤v∧v<x.1.length):= .mk (λ(x0,y1_0,_)=>
  .lp (bh (x0,(x0.length:Int),0,y1_0,())).lp λw2=> .sum w2 (λp2a0=>
  .ret p2a0)<|
  λ_=>
  .ret (-1)) (pE @lJ)
noncomputable def nF:=uL st gE gI [(j8 0 ca bh)] [.wr false [.c (.sl .conn)],.fn 174 [0]] [.box [.st .tupl]] (λx y=>(x.1.1,y.1.1,())) eC rI (λx y v=>((y.1.1,()),())) Tryz.func173 (by kernel_rfl) ⟨lB,trivial⟩
noncomputable def gC:=[IK]
def cc:Sh:=⟨[zl 0 .half,(1,false,[.fn 309 [0]]),zi 7,zi 8],[zx .tupl]⟩
noncomputable def gD:Fx:=⟨273,Tryz.f273,[(0,la ⟨[0,1,7,8],[],false,1⟩ ⟨[4],[],false,1⟩)],1⟩
noncomputable def fK (v0:List Half)(v3:Tupl)(v2:Int)(a:Unit):Tr (Stp (Unit) ((Int))):=
 .grd (cd v0 v2)<|
 .cal u6.c ((v0.getD v2.toNat (Ty.zero .half)),v3,()) λc1=>
 .ite c1 (.ret (.out v2))<|
 .ret (.next ())
noncomputable def bj:cc.V→qo cc Unit (Int):=λ(v0,v1,v2,v3,_)=>⟨v2,(),λv2 _=>(v0,v1,v2,v3,()),λv2 _=>(decide (v2<v1)),fK v0 v3,up,1,(Int.toNat (v1-v2)),.inl,eR,oB .ret ⟨[zi 4],[zx .tupl]⟩ (λp=>(p,v3,())) (.exit 0) ⟨[zu 4],[zx .tupl]⟩ (λ_=>(v3,()))⟩
theorem lG:LS Tryz.prog gD [0] (j8 0 cc bj):=eU st (aV gC) _ bj [] trivial
theorem lz {v0:List Half}{v1 v2:Int}{v3:Tupl}(h0:0≤v2)(h1:v1≤4611686018427387904)(h2:v1≤(v0.length:Int)):(bj (v0,v1,v2,v3,())).U v1 (λ_ _=>True) (λp=>v2≤p∧p<v1):=
 jV h0 h1 trivial
noncomputable def ez:FT (List Half×Tupl×Unit) (Int) (λx=>wS x.1) (λx v=> -1≤v∧v<x.1.length):= .mk (λ(x0,y1_0,_)=>
  .lp (bj (x0,(x0.length:Int),0,y1_0,())).lp λw2=> .sum w2 (λp2a0=>
  .ret p2a0)<|
  λ_=>
  .ret (-1)) (pE @lz)
noncomputable def nD:=uL st gD gC [(j8 0 cc bj)] [.sc (.sl .half),.fn 309 [0]] [.box [.st .tupl]] (λx y=>(x.1,y.1.1,())) ez rI (λx y v=>((y.1.1,()),())) Tryz.func273 (by kernel_rfl) ⟨lG,trivial⟩
noncomputable def j9:FT (Stac×Unit) (Stac) (λx=>aW x.1) (λx v=>aW v):= .mk λ(x0,_)=>
  .cal mf.c (x0.link,()) λc1=>
  .cal gk.c (x0.door,()) λc2=>
  .ret (⟨c1,c2⟩:Stac)
noncomputable def rx:=aN st Tryz.func40 [Av,jg] (ks:=[.st .stac]) j9 (λv=>[(true,qS (.o true) (.o true) (.o true) (.o true) (.o true) (.o true) v)])
noncomputable def qt:FT (Stac×Unit) (Stac) (λx=>aW x.1) (λx v=>aW v):= .mk λ(x0,_)=>
  .cal qE.c (x0.link,()) λc1=>
  .cal dT.c (x0.door,()) λc2=>
  .ret (⟨c1,c2⟩:Stac)
noncomputable def ya:=aN st Tryz.func49 [FR,gb] (ks:=[.st .stac]) qt (λv=>[(true,qS (.o true) (.o true) (.o true) (.o true) (.o true) (.o true) v)])
noncomputable def su:FT (Door×Mac×Unit) (Door) (λx=>av x.1∧cE x.2.1) (λx v=>av v):= .mk λ(x0,x1,_)=>
  .cal dT.c (x0,()) λc1=>
  .cal yY.c (x0.keys,x1,()) λc2=>
  .ret (⟨c1.port,c1.clock,c2,c1.limits,c1.halves,c1.table,c1.chal⟩:Door)
noncomputable def Lg:=aN st Tryz.func53 [gb,QE] (ks:=[.st .door,.st .mac]) su (λv=>[(true,kK (.o true) (.o true) (.o true) (.o true) (.o true) v)])
noncomputable def UE:=[A3,x6,xf]
noncomputable def VJ:Fx:=⟨57,Tryz.f57,[(3000003,rA 0 27)],0⟩
noncomputable def DF:FT (ae×Unit) (Pack×Segm×Bool) (λx=>sS x.1) (λx v=>kt v.1∧am v.2.1):= .mk λ(x0,_)=>
  .cal mg.c (x0,()) λc1=>
  .cal kj.c (c1.1.body,()) λc2=>
  .bnd (β:=Bool×Unit) (.ite (!c1.2) (.ret (true,()))<|
   .ret ((c2.2 != 0),())) λ(u3a0,_)=>
  .ite u3a0 (.ret ((⟨0,0,0,0,0,[]⟩:Pack),(⟨0,0,0,0,0,0,⟨0,0,false,false,0,0⟩,[]⟩:Segm),false))<|
  .cal bD.c (c2.1.body,c2.1.src,c2.1.dst,()) λc4=>
  .ret (c2.1,c4.1,c4.2)
noncomputable def VC:=bK st VJ UE [] (ks:=[.sc .str]) DF (λv=>[(true,Bq v.1),(true,th v.2.1),(false,[.c (.bool v.2.2)])]) Tryz.func57 trivial
def A0:Sh:=⟨[zp 1 0,zi 3],[.box [.st .door [.sl .arg,.sl .arg,.sl .arg,.sl .arg,.sl .arg]]]⟩
noncomputable def AX (v1:Door)(v0:Int)(a:Unit):Tr (Stp (Unit) ((Unit))):=
 .grd (cd v1.halves v0)<|
 .cal d6.c (v1.table,(v1.halves.getD v0.toNat (Ty.zero .half)).tuple,()) λc8=>
 .ite (decide (0≤c8)) (.ret (.out ()))<|
 .ret (.next ())
noncomputable def oG:A0.V→qo A0 Unit (Unit):=λ(v0,v1,_)=>⟨v0,(),λv0 _=>(v0,v1,()),λv0 _=>(decide (v0<(v1.halves.length:Int))),AX v1,up,1,(Int.toNat ((v1.halves.length:Int)-v0)),.inl,eR,oB .ret ⟨[zb 2],[]⟩ (λ_=>(false,())) (.exit 0) ⟨[zu 2],[]⟩ (λ_=>())⟩
theorem Lm {v0:Int}{v1:Door}(h0:0≤v0)(h1:(v1.halves.length:Int)≤4611686018427387904)(h2:av v1):(oG (v0,v1,())).U (v1.halves.length:Int) (λ_ _=>True) (λ_=>True):=
 jV h0 h1 trivial
noncomputable def rk:FT (Door×Unit) (Bool) (λx=>av x.1) (λx v=>(v=true→x.1.table.conns.length≤16)):= .mk (λ(x0,_)=>
  .bnd (β:=Bool×Unit) (.as (λw=>(w.1=false→0≤x0.keys.epoch∧x0.keys.epoch≤4294967295∧x0.table.conns.length≤16∧x0.table.waiting.length≤16∧x0.halves.length≤64)) (.cal aD.c (x0.port,16,()) λc1=>
   .ite (!c1) (.ret (true,()))<|
   .cal aD.c (x0.clock,32,()) λc2=>
   .ite (!c2) (.ret (true,()))<|
   .cal tL.c (x0.keys,()) λc3=>
   .ite (!c3) (.ret (true,()))<|
   .cal uI.c (x0.table,x0.limits,()) λc4=>
   .ite (!c4) (.ret (true,()))<|
   .cal n9.c (x0.halves,()) λc5=>
   .ite (!c5) (.ret (true,()))<|
   .ite (decide (x0.limits.halves<(x0.halves.length:Int))) (.ret (true,()))<|
   .val (bS.f (x0.chal,0,x0.limits.chal,())) λc6=>
   .ret ((!c6),()))) λ(u7a0,_)=>
  .ite u7a0 (.ret false)<|
  .lp (oG (0,x0,())).lp λw9=> .sum w9 (λ_=>
  .ret false)<|
  λ_=>
  .ret true) (pE @Lm)
noncomputable def uJ:=dV st Tryz.func63 [(0,lb [1,3] [2]),(3000001,rA 0 51)] [bQ,BG,Fk,B3,ci,gc] 0 oG (ks:=[.st .door]) rk rB
noncomputable def ar:FT (Tabl×Tupl×Unit) (Int) (λx=>wS x.1.conns) (λx v=> -1≤v∧v<x.1.conns.length):= .mk λ(x0,x1,_)=>
  .cal eC.c (x0.conns,x1,()) λc1=>
  .ret c1
noncomputable def gg:=aN st Tryz.func73 [nF] (ks:=[.st .tabl,.st .tupl]) ar rI
noncomputable def cW:FT (Tabl×Conn×Unit) (Tabl) (λx=>aM x.1∧aa x.2.1) (λx v=>aM v∧v.conns.length=x.1.conns.length):= .mk λ(x0,x1,_)=>
  .cal fk.c (x0,()) λc1=>
  .cal ar.c (x0,x1.tuple,()) λc2=>
  .ite (decide (0≤c2)) (.cal bV.c (x1,()) λc3=>
   .grd (cd c1.conns c2)<|
   .ret (⟨(c1.conns.set c2.toNat c3),c1.waiting⟩:Tabl))<|
  .ret c1
noncomputable def yQ:=aN st Tryz.func76 [j5,gg,cS] (ks:=[.st .tabl,.st .conn]) cW (λv=>[(true,ri (.o true) (.o true) v)])
noncomputable def zB:FT (ae×Unit) (Pack×Segm×Bool) (λx=>sS x.1) (λx v=>kt v.1∧am v.2.1):= .mk λ(x0,_)=>
  .cal lU.c (x0,()) λc1=>
  .cal kG.c (c1.1.body,()) λc2=>
  .cal jf.c (c2.1.body,c2.1.src,c2.1.dst,()) λc3=>
  .ite c1.2 (.ite (c2.2==0) (.ret (c2.1,c3.1,c3.2))<|
   .ret (c2.1,c3.1,false))<|
  .ret (c2.1,c3.1,false)
noncomputable def Tc:=aN st Tryz.func99 [AO,xy,wU] (ks:=[.sc .str]) zB (λv=>[(true,Bq v.1),(true,th v.2.1),(false,[.c (.bool v.2.2)])])
def Cg:Sh:=⟨[zs 1,zp 2 0,zi 5],[zg .mac]⟩
noncomputable def uM (v0:ae)(v2:Mac)(v1:Int)(a:Unit):Tr (Stp (Unit) ((Int))):=
 .grd (cd v2.rows v1)<|
 .ite ((v2.rows.getD v1.toNat (Ty.zero .macRow)).input==v0) (.grd (cd v2.rows v1)<|
  .ite (decide ((((v2.rows.getD v1.toNat (Ty.zero .macRow)).value).tmod 16777216)<0)) (.val (IntKind.wrap .i64 ((((v2.rows.getD v1.toNat (Ty.zero .macRow)).value).tmod 16777216)+16777216)) λe2=>
   .ret (.out e2))<|
  .ret (.out (((v2.rows.getD v1.toNat (Ty.zero .macRow)).value).tmod 16777216)))<|
 .ret (.next ())
noncomputable def qd:Cg.V→qo Cg Unit (Int):=λ(v0,v1,v2,_)=>⟨v1,(),λv1 _=>(v0,v1,v2,()),λv1 _=>(decide (v1<(v2.rows.length:Int))),uM v0 v2,up,1,(Int.toNat ((v2.rows.length:Int)-v1)),.inl,eR,oB .ret ⟨[zi 4],[]⟩ (λp=>(p,())) (.exit 0) ⟨[zu 4],[]⟩ (λ_=>())⟩
theorem Pn {v0:ae}{v1:Int}{v2:Mac}(h0:0≤v1)(h1:(v2.rows.length:Int)≤4611686018427387904):(qd (v0,v1,v2,())).U (v2.rows.length:Int) (λ_ _=>True) (λ_=>True):=
 jV h0 h1 trivial
noncomputable def Hx:FT (Mac×ae×Unit) (Int) (λx=>cE x.1∧sS x.2.1) (λ_ _=>True):= .mk (λ(x0,x1,_)=>
  .ite (!x0.use) (.cal zw.c (x0.k,x0.l,x1,()) λc1=>
   .ret (IntKind.wrap .i64 (c1.tmod 16777216)))<|
  .lp (qd (x1,0,x0,())).lp λw3=> .sum w3 (λp3a0=>
  .ret p3a0)<|
  λ_=>
  .ret 0) (pE @Pn)
noncomputable def YS:=dV st Tryz.func123 [(0,lb [1,2,5] [4])] [S7] 0 qd (ks:=[.st .mac,.sc .str]) Hx rI
def yC:Sh:=⟨[zi 1,zl 2 .segm,zp 3 0,zo 7 1,zi 8],[.box [.st .stac [.sl .arg,.sl .arg,.sl .arg,.sl .arg,.sl .arg,.sl .arg]],za .str]⟩
noncomputable def yn (v0:Int)(v1:List Segm)(v3:Stac)(v2:Int)(a:List ae):Tr (Stp (List ae) (Empty)):=
 .grd (cd v1 v2)<|
 .cal ot.c ((v1.getD v2.toNat (Ty.zero .segm)),v3.link.ip,v0,()) λc1=>
 .cal zF.c (v3.link,v0,c1,()) λc2=>
 .ite c2.2 (.grd (xr a 1 16)<|
  .ret (.next (a++[c2.1])))<|
 .ret (.next a)
noncomputable def jG:yC.V→tF yC (List ae):=λ(v0,v1,v2,v3,v4,_)=>⟨v2,v4,λv2 a=>(v0,v1,v2,v3,a,()),λv2 _=>(decide (v2<(v1.length:Int))),yn v0 v1 v3,up,1,(Int.toNat ((v1.length:Int)-v2)),Empty.elim,Prod.mk,oN (.exit 0) ⟨[zu 6,zo 7 0],[za .str]⟩ (λx=>(x.2,()))⟩
theorem Je {v0 v2:Int}{v1:List Segm}{v3:Stac}{v4:List ae}(h0:0≤v2)(h1:(v1.length:Int)≤4611686018427387904)(h2:sL am v1)(h3:aW v3)(h4:(v4.length:Int)≤v2∧cT sS v4):(jG (v0,v1,v2,v3,v4,())).U (v1.length:Int) (λv2 a=>(a.length:Int)≤v2∧cT sS a) (λ_=>True):=
 jV (a:=v4) h0 h1 h4
noncomputable def qv:FT (Stac×Int×List Segm×Unit) (List ae) (λx=>aW x.1∧sL am x.2.2.1) (λx v=>sL sS v∧v.length≤x.2.2.1.length):=⟨λ(x0,x1,x2,_)=>
  .lp (jG (x1,x2,0,x0,[],())).lp λ(_,a3_0)=>
  .ret a3_0,
 λ(x0,x1,x2,_) hp=>by
  refine Tr.L (Je ?_ ?_ ?_ ?_ ?_) (λa3_0 _=>Tr.R ?_) (λp=>Empty.elim p)
  all_goals ((try simp only[jG,LC.lp,LC.ct,Ct.lp]at*)<;>grind)⟩
noncomputable def xR:=dV st Tryz.func132 [(0,lb [1,2,3,7,8] [6,7])] [G0,QC] 0 jG (ks:=[.st .stac,.sc (.int .i64),.sc (.sl .segm)]) qv (λv=>[(false,[sc (.o true) .str v])])
noncomputable def Ng:=[dC,W9,gA,uq,Th,lV,B7]
def tW:An:=⟨⟨[],[],false,0⟩,⟨[2,3,4,5],[],false,0⟩,⟨[],[]⟩,[(.normal,⟨[zp 2 0,(3,false,[.nil]),zp 4 1,zo 5 2],[.box [.st .conn [.nil .piec]],zk .conn 3,za .segm,zf]⟩)]⟩
def ub:An:=⟨⟨[],[],false,0⟩,⟨[1,2,3,4,5],[],false,0⟩,⟨[],[]⟩,[(.normal,⟨[zp 1 0,zp 2 1,(3,false,[.nil]),zp 4 2,zo 5 3],[zg .conn,.box [.st .conn [.nil .piec]],zk .conn 4,za .segm,zf]⟩)]⟩
noncomputable def Pf:Fx:=⟨133,Tryz.f133,[(1000016,tW),(1000023,ub)],0⟩
noncomputable def rN:FT (Conn×Unit) (Conn×List Segm) (λx=>aa x.1) (λx v=>aa v.1∧sL am v.2∧v.2.length≤49):= .mk λ(x0,_)=>
  .cal dA.c (x0,()) λc1=>
  .cal Hj.c (x0,()) λc2=>
  .ite (!c2) (.cal ib.c (x0,()) λc3=>
   .bnd (β:=WT tW.es) (.as (λw=>aa w.1∧aa w.2.1∧sL am w.2.2.1∧w.2.2.1.length≤49) (.ite c3 (.ret ((⟨⟨0,0,0⟩,0,⟨0,[],0,false,false,false⟩,⟨0,[],[],0,false⟩,0,0,⟨0,0,false,false,0,0⟩,0,0⟩:Conn),({c1 with timer:=0,tries:=0}:Conn),[],()))<|
    .ret ((⟨⟨0,0,0⟩,0,⟨0,[],0,false,false,false⟩,⟨0,[],[],0,false⟩,0,0,⟨0,0,false,false,0,0⟩,0,0⟩:Conn),c1,[],()))) λ(_,u4a1,u4a2,_)=>
   .ret (u4a1,u4a2))<|
  .bnd (β:=WT ub.es) (.as (λw=>aa w.1∧aa w.2.1∧aa w.2.2.1∧sL am w.2.2.2.1∧w.2.2.2.1.length≤49) (.ite (c1.timer==0) (.ite (x0.state==7) (.ret (x0,(⟨⟨0,0,0⟩,0,⟨0,[],0,false,false,false⟩,⟨0,[],[],0,false⟩,0,0,⟨0,0,false,false,0,0⟩,0,0⟩:Conn),({c1 with timer:=4}:Conn),[],()))<|
    .ret (x0,(⟨⟨0,0,0⟩,0,⟨0,[],0,false,false,false⟩,⟨0,[],[],0,false⟩,0,0,⟨0,0,false,false,0,0⟩,0,0⟩:Conn),({c1 with timer:=3}:Conn),[],()))<|
   .ret (x0,(⟨⟨0,0,0⟩,0,⟨0,[],0,false,false,false⟩,⟨0,[],[],0,false⟩,0,0,⟨0,0,false,false,0,0⟩,0,0⟩:Conn),c1,[],()))) λ(u5a0,_,u5a2,u5a3,_)=>
  .ite (decide (0<(IntKind.wrap .i64 (u5a2.timer-1)))) (.ret (({u5a2 with timer:=(IntKind.wrap .i64 (u5a2.timer-1))}:Conn),u5a3))<|
  .ite (u5a0.state==7) (.ret (({u5a2 with state:=8,timer:=(IntKind.wrap .i64 (u5a2.timer-1)),tries:=0}:Conn),u5a3))<|
  .ite (u5a0.tries==3) (.cal ju.c (u5a0,()) λc6=>
   .ret (({u5a2 with state:=8,timer:=(IntKind.wrap .i64 (u5a2.timer-1)),tries:=0}:Conn),[({c6 with flags:=(bits .or .i64 c6.flags 4)}:Segm)]))<|
  .cal zv.c (u5a0.s,()) λc7=>
  .val (fp.f (1,u5a2.window,())) λc8=>
  .cal mL.c ((⟨u5a2.tuple,u5a2.state,c7,u5a2.r,u5a2.window,u5a2.most,u5a2.opts,(IntKind.wrap .i64 (u5a2.timer-1)),(IntKind.wrap .i64 (u5a0.tries+1))⟩:Conn),c8,()) λc9=>
  .ret (({c9.1 with timer:=3}:Conn),c9.2)
noncomputable def CC:=bK st Pf Ng [] (ks:=[.st .conn]) rN (λv=>[(true,fo (.o true) v.1),(false,[sc (.o true) .segm v.2])]) Tryz.func133 trivial
noncomputable def C1:=[gb,uJ,ly,Ii,CC,EF]
def lq:Sh:=⟨[zp 2 0,zp 4 1,zo 5 2,zi 6],[.box [.st .door [.nil .macRow,.nil .macRow,.nil .half,.nil .conn,.nil .tupl]],.box [.st .door [.own 3,.own 4,.own 5,.own 6,.own 7]],za .segm,zf,zf,zf,zf,zf]⟩
noncomputable def CY:Fx:=⟨134,Tryz.f134,[(0,lb [2,4,5,6] [2,3,4,5])],0⟩
noncomputable def pJ (v0:Int)(a:Door×Door×List Segm):Tr (Stp (Door×Door×List Segm) (Empty)):=
 .grd (cd a.2.1.table.conns v0)<|
 .cal rN.c ((a.2.1.table.conns.getD v0.toNat (Ty.zero .conn)),()) λc5=>
 .grd (cd a.2.1.table.conns v0)<|
 .grd (Nat.ble ((2*(a.2.2.length+c5.2.length)+1024)*104) aU)<|
 .ret (.next (({a.1 with keys.now.rows:=[],keys.before.rows:=[],halves:=[],table.conns:=[],table.waiting:=[]}:Door),({a.2.1 with table.conns:=(a.2.1.table.conns.set v0.toNat c5.1)}:Door),(a.2.2++c5.2)))
noncomputable def cf:lq.V→tF lq (Door×Door×List Segm):=λ(v0,v1,v2,v3,_)=>⟨v0,(v1,v2,v3),λv0 a=>(v0,a.1,a.2.1,a.2.2,()),λv0 a=>(decide (v0<(a.2.1.table.conns.length:Int))),pJ,up,1,(Int.toNat ((v2.table.conns.length:Int)-v0)),Empty.elim,Prod.mk,oN (.exit 0) ⟨[zp 2 0,zu 3,zp 4 1,zo 5 2],[.box [.st .door [.nil .macRow,.nil .macRow,.nil .half,.nil .conn,.nil .tupl]],.box [.st .door [.own 3,.own 4,.own 5,.own 6,.own 7]],za .segm,zf,zf,zf,zf,zf]⟩ (λx=>(({x.2.1 with keys.now.rows:=[],keys.before.rows:=[],halves:=[],table.conns:=[],table.waiting:=[]}:Door),x.2.2.1,x.2.2.2,()))⟩
set_option maxHeartbeats 4000000 in
theorem FV:LS Tryz.prog CY [0] (j8 0 lq cf):=eU st (aV C1) _ cf [] trivial
theorem Gw {v0:Int}{v1 v2:Door}{v3:List Segm}(h0:0≤v0)(h1:(v2.table.conns.length:Int)≤4611686018427387904)(h2:sL aG v2.keys.now.rows)(h3:sL aG v2.keys.before.rows)(h4:sS v2.halves)(h5:sL aa v2.table.conns)(h6:sS v2.table.waiting)(h7:av v1∧v2.keys.now.rows.length=v2.keys.now.rows.length∧cT aG v2.keys.now.rows∧v2.keys.before.rows.length=v2.keys.before.rows.length∧cT aG v2.keys.before.rows∧v2.halves.length=v2.halves.length∧v2.table.conns.length=v2.table.conns.length∧cT aa v2.table.conns∧v2.table.waiting.length=v2.table.waiting.length∧sL am v3∧0≤v0∧v0≤16∧v2.table.conns.length≤16∧(v3.length:Int)≤49*v0):(cf (v0,v1,v2,v3,())).S (λv0 a=>a.2.1.table.conns.length=v2.table.conns.length∧av a.1∧a.2.1.keys.now.rows.length=v2.keys.now.rows.length∧cT aG a.2.1.keys.now.rows∧a.2.1.keys.before.rows.length=v2.keys.before.rows.length∧cT aG a.2.1.keys.before.rows∧a.2.1.halves.length=v2.halves.length∧a.2.1.table.conns.length=v2.table.conns.length∧cT aa a.2.1.table.conns∧a.2.1.table.waiting.length=v2.table.waiting.length∧sL am a.2.2∧0≤v0∧v0≤16∧a.2.1.table.conns.length≤16∧(a.2.2.length:Int)≤49*v0) (λ_=>True):=by
 refine LC.okS ⟨rfl,h7⟩ (λj a hj hv=>⟨⟨?_, ?_⟩, ?_⟩) (λa hv=> ?_)
 ·simp only[cf,decide_eq_true_eq]at*;omega
 ·simp only[cf]at*;exact upw (by omega) (by omega)
 ·refine Tr.G2 ?_ λ_=>Tr.C ?_ λ_ _ _=>Tr.G2 ?_ λ_=>Tr.Gb ?_ λ_=>Tr.Rn ?_
  all_goals (try simp only[cf]at*)<;>(grind)
 ·simp only[cf,decide_eq_false_iff_not]at*;omega
noncomputable def uY:FT (Door×Unit) (Door×List Segm) (λx=>av x.1) (λx v=>av v.1∧sL am v.2):=⟨λ(x0,_)=>
  .cal dT.c (x0,()) λc1=>
  .cal rk.c (x0,()) λc2=>
  .ite (!c2) (.ret (c1,[]))<|
  .val (cD.f ((IntKind.wrap .i64 (x0.clock+1)),())) λc3=>
  .cal qr.c (x0.halves,()) λc4=>
  .lp (cf (0,(⟨0,0,⟨0,⟨false,0,0,[]⟩,⟨false,0,0,[]⟩,false⟩,⟨0,0,0,0⟩,[],⟨[],[]⟩,0⟩:Door),({c1 with clock:=c3,halves:=c4,chal:=0}:Door),[],())).lp λ(_,_,a6_1,a6_2)=>
  .cal zm.c (a6_1.table,()) λc7=>
  .ret (({a6_1 with table.conns:=c7.conns,table.waiting:=c7.waiting}:Door),a6_2),
 λ(x0,_) hp=>by
  refine Tr.C ?_ λ_ _ _=>Tr.C ?_ λ_ _ _=>Tr.I (λ_=>Tr.R ?_) λ_=>Tr.V λ_ _=>Tr.C ?_ λ_ _ _=>Tr.L (Gw ?_ ?_ ?_ ?_ ?_ ?_ ?_ ?_) (λ(a6_0,a6_1,a6_2) _=>Tr.C ?_ λ_ _ _=>Tr.R ?_) (λp=>Empty.elim p)
  all_goals ((try simp only[cf,LC.lp,LC.ct,Ct.lp]at*)<;>grind)⟩
noncomputable def O9:=bK st CY C1 [(j8 0 lq cf)] (ks:=[.st .door]) uY (λv=>[(true,kK (.o true) (.o true) (.o true) (.o true) (.o true) v.1),(false,[sc (.o true) .segm v.2])]) Tryz.func134 ⟨FV,trivial⟩
noncomputable def nL:FT (Stac×Conn×List Segm×Resu×Unit) (Stac×Resu) (λx=>aW x.1∧aa x.2.1∧sL am x.2.2.1∧mR x.2.2.2.1) (λx v=>aW v.1∧mR v.2):= .mk λ(x0,x1,x2,x3,_)=>
  .cal uv.c (x0.door.table,x1,()) λc1=>
  .cal zm.c (c1,()) λc2=>
  .cal qv.c (({x0 with door.table.conns:=c2.conns,door.table.waiting:=c2.waiting}:Stac),x1.tuple.ip,x2,()) λc3=>
  .ret (({x0 with door.table.conns:=c2.conns,door.table.waiting:=c2.waiting}:Stac),({x3 with frames:=c3,ok:=true}:Resu))
noncomputable def S8:=aN st Tryz.func142 [E7,EF,xR] (ks:=[.st .stac,.st .conn,.sc (.sl .segm),.st .resu]) nL (λv=>[(true,qS .c .c .c .c (.o true) (.o true) v.1),(true,N5 (.o true) v.2)])
noncomputable def yu:=[NT,gu,gg,xb]
def nq:Sh:=⟨[zp 2 0,zl 29 .conn,zi 30,zi 31],[.box [.st .tabl [.sl .arg,.sl .arg]]]⟩
def m6:Sh:=⟨[zp 2 0,zl 49 .tupl,zi 50,zi 51],[.box [.st .tabl [.sl .arg,.sl .arg]]]⟩
noncomputable def yO:Fx:=⟨157,Tryz.f157,[(0,lb [2,29,30,31] [2,4]),(2,lb [2,49,50,51] [4]),(3000001,rA 0 27)],0⟩
noncomputable def eL (v0:List Conn)(v3:Tabl)(v2:Int)(a:Unit):Tr (Stp (Unit) ((Unit))):=
 .grd (cd v0 v2)<|
 .cal aI.c ((v0.getD v2.toNat (Ty.zero .conn)),()) λc3=>
 .ite (!c3) (.ret (.out ()))<|
 .cal ar.c (v3,(v0.getD v2.toNat (Ty.zero .conn)).tuple,()) λc4=>
 .ite (c4 != v2) (.ret (.out ()))<|
 .ret (.next ())
noncomputable def fR:nq.V→qo nq Unit (Unit):=λ(v0,v1,v2,v3,_)=>⟨v2,(),λv2 _=>(v0,v1,v2,v3,()),λv2 _=>(decide (v2<v1)),eL v0 v3,up,1,(Int.toNat (v1-v2)),.inl,eR,oB .ret ⟨[zp 2 0,zb 4],[.box [.st .tabl [.sl .arg,.sl .arg]]]⟩ (λ_=>(false,v3,())) (.exit 0) ⟨[zp 2 0,zu 4],[.box [.st .tabl [.sl .arg,.sl .arg]]]⟩ (λ_=>(v3,()))⟩
theorem JO:LS Tryz.prog yO [0] (j8 0 nq fR):=eU st (aV yu) _ fR [] trivial
theorem Kl {v0:List Conn}{v1 v2:Int}{v3:Tabl}(h0:0≤v2)(h1:v1≤4611686018427387904)(h2:sL aa v0)(h3:aM v3)(h4:v1≤(v0.length:Int)):(fR (v0,v1,v2,v3,())).U v1 (λ_ _=>True) (λ_=>True):=
 jV h0 h1 trivial
noncomputable def eI (v0:List Tupl)(v3:Tabl)(v2:Int)(a:Unit):Tr (Stp (Unit) ((Unit))):=
 .grd (cd v0 v2)<|
 .cal ar.c (v3,(v0.getD v2.toNat (Ty.zero .tupl)),()) λc6=>
 .ite (decide (c6<0)) (.ret (.out ()))<|
 .cal kX.c (v3.waiting,(v0.getD v2.toNat (Ty.zero .tupl)),()) λc7=>
 .ite (c7 != v2) (.ret (.out ()))<|
 .ret (.next ())
noncomputable def fD:m6.V→qo m6 Unit (Unit):=λ(v0,v1,v2,v3,_)=>⟨v2,(),λv2 _=>(v0,v1,v2,v3,()),λv2 _=>(decide (v2<v1)),eI v0 v3,up,1,(Int.toNat (v1-v2)),.inl,eR,oB .ret ⟨[zb 4],[]⟩ (λ_=>(false,())) (.exit 2) ⟨[zu 4],[]⟩ (λ_=>())⟩
theorem JJ:LS Tryz.prog yO [1] (j8 2 m6 fD):=eU st (aV yu) _ fD [] trivial
theorem qJ {v0:List Tupl}{v1 v2:Int}{v3:Tabl}(h0:0≤v2)(h1:v1≤4611686018427387904)(h2:sS v0)(h3:aM v3)(h4:v1≤(v0.length:Int)):(fD (v0,v1,v2,v3,())).U v1 (λ_ _=>True) (λ_=>True):=
 jV h0 h1 trivial
noncomputable def cH:FT (Tabl×Limi×Unit) (Bool) (λx=>wS x.1.conns∧cT aa x.1.conns∧wS x.1.waiting) (λx v=>(v=true→x.1.conns.length≤16∧x.1.waiting.length≤16)):= .mk (λ(x0,x1,_)=>
  .bnd (β:=Bool×Unit) (.as (λw=>(w.1=false→x1.halves≤64∧x1.waiting≤16∧x1.conns≤16)) (.cal fQ.c (x1,()) λc1=>
   .ite (!c1) (.ret (true,()))<|
   .ite (decide (x1.conns<(x0.conns.length:Int))) (.ret (true,()))<|
   .ret ((decide (x1.waiting<(x0.waiting.length:Int))),()))) λ(u2a0,_)=>
  .ite u2a0 (.ret false)<|
  .lp (fR (x0.conns,(x0.conns.length:Int),0,x0,())).lp λw5=> .sum w5 (λ_=>
  .ret false)<|
  λ_=>
  .lp (fD (x0.waiting,(x0.waiting.length:Int),0,x0,())).lp λw8=> .sum w8 (λ_=>
  .ret false)<|
  λ_=>
  .ret true) (sk4 @Kl @qJ @qJ @qJ)
noncomputable def E2:=bK st yO yu [(j8 0 nq fR),(j8 2 m6 fD)] (ks:=[.st .tabl,.st .limi]) cH rB Tryz.func157 ⟨JO,JJ,trivial⟩
noncomputable def Xr:=[gu,cS,VX,B1]
noncomputable def XD:Fx:=⟨176,Tryz.f176,[(3000001,rA 0 23)],0⟩
noncomputable def Hg:FT (Conn×ae×Unit) (Conn×Int×List Segm) (λx=>aa x.1∧sS x.2.1) (λx v=>aa v.1∧sL am v.2.2):= .mk λ(x0,x1,_)=>
  .bnd (β:=Bool×Unit) (.cal aI.c (x0,()) λc1=>
   .ite (!c1) (.ret (true,()))<|
   .ite (x0.state != 1) (.ret ((x0.state != 4),()))<|
   .ret (false,())) λ(u2a0,_)=>
  .ite u2a0 (.cal bV.c (x0,()) λc3=>
   .ret (c3,0,[]))<|
  .cal B6.c (x0.s,x1,()) λc4=>
  .cal cG.c (({x0 with s.una:=c4.1.una,s.data:=c4.1.data,s.sent:=c4.1.sent,s.fin:=c4.1.fin,s.finSent:=c4.1.finSent,s.done:=c4.1.done}:Conn),x0.window,()) λc5=>
  .ret (c5.1,c4.2,c5.2)
noncomputable def YL:=bK st XD Xr [] (ks:=[.st .conn,.sc .str]) Hg (λv=>[(true,fo (.o true) v.1),(false,[.c (.int .i64 v.2.1)]),(false,[sc (.o true) .segm v.2.2])]) Tryz.func176 trivial
noncomputable def aaN:=[cS,gu,B1]
@[reducible] def DQ:An:=⟨⟨[],[],false,0⟩,⟨[2,3,4],[],false,0⟩,⟨[],[]⟩,[(.normal,⟨[zp 2 0,(3,false,[.nil]),zp 4 1],[.box [.st .conn [.nil .piec]],zk .conn 2,zf]⟩),(.ret,⟨[zp 2 0,(3,false,[.nil]),zp 4 1],[zk .conn 2,zk .conn 2,zf]⟩)]⟩
noncomputable def aam:Fx:=⟨178,Tryz.f178,[(1000014,DQ)],0⟩
noncomputable def PR:FT (Conn×Unit) (Conn×List Segm) (λx=>aa x.1) (λx v=>aa v.1∧sL am v.2):= .mk λ(x0,_)=>
  .cal bV.c (x0,()) λc1=>
  .cal aI.c (x0,()) λc2=>
  .ite (!c2) (.ret (c1,[]))<|
  .bnd (β:=WT DQ.es) (.as (Sum.elim (λw=>aa w.1∧aa w.2.1) (λw=>aa w.1∧aa w.2.1)) (.ite (x0.state==1) (.ret (.inl ((⟨⟨0,0,0⟩,0,⟨0,[],0,false,false,false⟩,⟨0,[],[],0,false⟩,0,0,⟨0,0,false,false,0,0⟩,0,0⟩:Conn),({c1 with state:=2}:Conn),())))<|
   .ite (x0.state==4) (.ret (.inl ((⟨⟨0,0,0⟩,0,⟨0,[],0,false,false,false⟩,⟨0,[],[],0,false⟩,0,0,⟨0,0,false,false,0,0⟩,0,0⟩:Conn),({c1 with state:=6}:Conn),())))<|
   .ret (.inr ((c1,c1,()))))) λw3=> .sum w3 (λ(_,u3a1,_)=>
  .cal cG.c (({u3a1 with s.fin:=true}:Conn),u3a1.window,()) λc4=>
  .ret (c4.1,c4.2))<|
  λ(u3b0,_,_)=>
  .ret (u3b0,[])
noncomputable def Z4:=bK st aam aaN [] (ks:=[.st .conn]) PR (λv=>[(true,fo (.o true) v.1),(false,[sc (.o true) .segm v.2])]) Tryz.func178 trivial
noncomputable def Ss:=[FB,cS,zt,uE,W3,B1,rz]
def pr:An:=⟨⟨[],[],false,0⟩,⟨[2,4,5,6,7,8],[],false,0⟩,⟨[],[]⟩,[(.normal,⟨[zp 2 0,zp 4 1,(5,false,[.nil]),zi 6,zi 7,zp 8 2],[zg .conn,.box [.st .conn [.nil .piec]],zk .conn 3,zf]⟩)]⟩
noncomputable def Tj:Fx:=⟨198,Tryz.f198,[(1000037,pr),(3000009,rA 0 37),(3000017,rA 0 68)],0⟩
noncomputable def nP:FT (Conn×Segm×Unit) (Conn×List Segm×Int) (λx=>aa x.1∧am x.2.1) (λx v=>aa v.1∧sL am v.2.1):= .mk λ(x0,x1,_)=>
  .cal tJ.c (x0,x1,()) λc1=>
  .cal bV.c (x0,()) λc2=>
  .ite (c1==2) (.ret (({c2 with state:=8,timer:=0,tries:=0}:Conn),[],c1))<|
  .ite (c1==3) (.ite (c1==3) (.bnd (β:=Bool×Unit) (.ite (c1==4) (.ite (x0.state==7) (.val (bk.f (x1,1,())) λc3=>
       .ret (c3,()))<|
      .ret (false,()))<|
     .ret (false,())) λ(u4a0,_)=>
    .bnd (β:=WT pr.es) (.as (λw=>aa w.2.2.1∧aa w.2.2.2.1∧aa w.2.2.2.2.1) (.ite u4a0 (.ret (0,c1,x0,(⟨⟨0,0,0⟩,0,⟨0,[],0,false,false,false⟩,⟨0,[],[],0,false⟩,0,0,⟨0,0,false,false,0,0⟩,0,0⟩:Conn),({c2 with timer:=4}:Conn),()))<|
     .ret (0,c1,x0,(⟨⟨0,0,0⟩,0,⟨0,[],0,false,false,false⟩,⟨0,[],[],0,false⟩,0,0,⟨0,0,false,false,0,0⟩,0,0⟩:Conn),c2,()))) λ(_,u5a1,u5a2,_,u5a4,_)=>
    .cal bt.c (u5a2,()) λc6=>
    .ret (u5a4,[c6],u5a1))<|
   .ite (c1==5) (.cal Cq.c (x0,x1,()) λc7=>
    .ite (c7.state==8) (.ret (c7,[],c1))<|
    .cal cG.c (c7,c7.window,()) λc8=>
    .bnd (β:=Bool×Unit) (.ite ((c8.2.length:Int)==0) (.cal aK.c (x1,()) λc9=>
      .ret ((c9 != 0),()))<|
     .ret (false,())) λ(u10a0,_)=>
    .ite u10a0 (.cal bt.c (c8.1,()) λc11=>
     .ret (c8.1,[c11],c1))<|
    .ret (c8.1,c8.2,c1))<|
   .ret (c2,[],c1))<|
  .ite (c1==4) (.bnd (β:=Bool×Unit) (.ite (c1==4) (.ite (x0.state==7) (.val (bk.f (x1,1,())) λc12=>
      .ret (c12,()))<|
     .ret (false,()))<|
    .ret (false,())) λ(u13a0,_)=>
   .bnd (β:=WT pr.es) (.as (λw=>aa w.2.2.1∧aa w.2.2.2.1∧aa w.2.2.2.2.1) (.ite u13a0 (.ret (0,c1,x0,(⟨⟨0,0,0⟩,0,⟨0,[],0,false,false,false⟩,⟨0,[],[],0,false⟩,0,0,⟨0,0,false,false,0,0⟩,0,0⟩:Conn),({c2 with timer:=4}:Conn),()))<|
    .ret (0,c1,x0,(⟨⟨0,0,0⟩,0,⟨0,[],0,false,false,false⟩,⟨0,[],[],0,false⟩,0,0,⟨0,0,false,false,0,0⟩,0,0⟩:Conn),c2,()))) λ(_,u14a1,u14a2,_,u14a4,_)=>
   .cal bt.c (u14a2,()) λc15=>
   .ret (u14a4,[c15],u14a1))<|
  .ite (c1==5) (.cal Cq.c (x0,x1,()) λc16=>
   .ite (c16.state==8) (.ret (c16,[],c1))<|
   .cal cG.c (c16,c16.window,()) λc17=>
   .bnd (β:=Bool×Unit) (.ite ((c17.2.length:Int)==0) (.cal aK.c (x1,()) λc18=>
     .ret ((c18 != 0),()))<|
    .ret (false,())) λ(u19a0,_)=>
   .ite u19a0 (.cal bt.c (c17.1,()) λc20=>
    .ret (c17.1,[c20],c1))<|
   .ret (c17.1,c17.2,c1))<|
  .ret (c2,[],c1)
noncomputable def Fp:=bK st Tj Ss [] (ks:=[.st .conn,.st .segm]) nP (λv=>[(true,fo (.o true) v.1),(false,[sc (.o true) .segm v.2.1]),(false,[.c (.int .i64 v.2.2)])]) Tryz.func198 trivial
noncomputable def ax:FT (List Half×Tupl×Unit) (Int) (λx=>wS x.1) (λx v=> -1≤v∧v<x.1.length):= .mk λ(x0,x1,_)=>
  .cal ez.c (x0,x1,()) λc1=>
  .ret c1
noncomputable def nr:=aN st Tryz.func199 [nD] (ks:=[.sc (.sl .half),.st .tupl]) ax rI
noncomputable def n8:FT (List Half×Tupl×Unit) (List Half) (λx=>sS x.1) (λx v=>sS v):= .mk λ(x0,x1,_)=>
  .cal eq.c (x0,()) λc1=>
  .cal ax.c (x0,x1,()) λc2=>
  .ite (decide (0≤c2)) (.cal tz.c (c1,c2,(IntKind.wrap .i64 (c2+1)),()) λc3=>
   .ret (c3.2.take c3.1))<|
  .ret c1
noncomputable def Co:=aN st Tryz.func200 [rD,nr,F7] (ks:=[.sc (.sl .half),.st .tupl]) n8 (λv=>[(false,[sc (.o true) .half v])])
noncomputable def TA:=[SF,E9,OX,Fn,tv]
noncomputable def V3:Fx:=⟨236,Tryz.f236,[(3000002,rA 0 26),(4000000,la ⟨[],[],false,0⟩ ⟨[],[.softb 4 2],false,0⟩)],0⟩
noncomputable def Kg:FT (Link×Fram×Unit) (Link×Int×Pack×ae) (λx=>dY x.1∧qa x.2.1) (λx v=>dY v.1∧kt v.2.2.1∧sS v.2.2.2∧v.2.2.1.body.length≤1500):= .mk λ(x0,x1,_)=>
  .cal ul.c (x1.body,()) λc1=>
  .bnd (β:=Bool×Unit) (.ite (!c1.2) (.ret (true,()))<|
   .ret ((c1.1.dstIp != x0.ip),())) λ(u2a0,_)=>
  .ite u2a0 (.ret (x0,0,(⟨0,0,0,0,0,[]⟩:Pack),[]))<|
  .cal uH.c (x0.cache,c1.1.srcIp,c1.1.srcHw,()) λc3=>
  .cal vn.c (c1.1,x0.mac,x0.ip,()) λc4=>
  .ite (!c4.2) (.ret (({x0 with cache:=c3}:Link),0,(⟨0,0,0,0,0,[]⟩:Pack),[]))<|
  .cal uj.c (c4.1,()) λc5=>
  .cal mh.c ((⟨c1.1.srcHw,x0.mac,2054,c5⟩:Fram),()) λc6=>
  .ret (({x0 with cache:=c3}:Link),1,(⟨0,0,0,0,0,[]⟩:Pack),c6)
noncomputable def T9:=bK st V3 TA [] (ks:=[.st .link,.st .fram]) Kg (λv=>[(true,EY .c v.1),(false,[.c (.int .i64 v.2.1)]),(true,Bq v.2.2.1),(false,[.c (.str v.2.2.2)])]) Tryz.func236 trivial
noncomputable def NJ:=[cS,YI,gu,uE,Rr,B1]
def tH:An:=⟨⟨[],[],false,0⟩,⟨[2,3,4],[],false,0⟩,⟨[],[]⟩,[(.normal,⟨[zp 2 0,(3,false,[.nil]),zp 4 1],[.box [.st .conn [.nil .piec]],zk .conn 2,zf]⟩)]⟩
def t5:An:=⟨⟨[],[],false,0⟩,⟨[1,2,3,4],[],false,0⟩,⟨[],[]⟩,[(.normal,⟨[zp 1 0,zp 2 1,(3,false,[.nil]),zp 4 2],[zg .conn,.box [.st .conn [.nil .piec]],zk .conn 3,zf]⟩)]⟩
def ud:An:=⟨⟨[],[],false,0⟩,⟨[2,3,4,6],[],false,0⟩,⟨[],[]⟩,[(.normal,⟨[zp 2 0,(3,false,[.nil]),zp 4 1,zi 6],[.box [.st .conn [.nil .piec]],zk .conn 2,zf]⟩)]⟩
noncomputable def OB:Fx:=⟨284,Tryz.f284,[(1000014,tH),(1000020,t5),(1000068,ud)],0⟩
noncomputable def vc:FT (Conn×Unit) (Conn×List Segm) (λx=>aa x.1) (λx v=>aa v.1∧sL am v.2∧v.2.length≤49):= .mk λ(x0,_)=>
  .cal bV.c (x0,()) λc1=>
  .cal mH.c (x0,()) λc2=>
  .ite (!c2) (.cal aI.c (x0,()) λc3=>
   .bnd (β:=WT tH.es) (.as (λw=>aa w.1∧aa w.2.1) (.ite c3 (.ret ((⟨⟨0,0,0⟩,0,⟨0,[],0,false,false,false⟩,⟨0,[],[],0,false⟩,0,0,⟨0,0,false,false,0,0⟩,0,0⟩:Conn),({c1 with timer:=0,tries:=0}:Conn),()))<|
    .ret ((⟨⟨0,0,0⟩,0,⟨0,[],0,false,false,false⟩,⟨0,[],[],0,false⟩,0,0,⟨0,0,false,false,0,0⟩,0,0⟩:Conn),c1,()))) λ(_,u4a1,_)=>
   .ret (u4a1,[]))<|
  .bnd (β:=WT t5.es) (.as (λw=>aa w.1∧aa w.2.1∧aa w.2.2.1) (.ite (c1.timer==0) (.ite (x0.state==7) (.ret (x0,(⟨⟨0,0,0⟩,0,⟨0,[],0,false,false,false⟩,⟨0,[],[],0,false⟩,0,0,⟨0,0,false,false,0,0⟩,0,0⟩:Conn),({c1 with timer:=4}:Conn),()))<|
    .ret (x0,(⟨⟨0,0,0⟩,0,⟨0,[],0,false,false,false⟩,⟨0,[],[],0,false⟩,0,0,⟨0,0,false,false,0,0⟩,0,0⟩:Conn),({c1 with timer:=3}:Conn),()))<|
   .ret (x0,(⟨⟨0,0,0⟩,0,⟨0,[],0,false,false,false⟩,⟨0,[],[],0,false⟩,0,0,⟨0,0,false,false,0,0⟩,0,0⟩:Conn),c1,()))) λ(u5a0,u5a1,u5a2,_)=>
  .ite (decide (0<(IntKind.wrap .i64 (u5a2.timer-1)))) (.ret (({u5a2 with timer:=(IntKind.wrap .i64 (u5a2.timer-1))}:Conn),[]))<|
  .ite (u5a0.state==7) (.ret (({u5a2 with state:=8,timer:=(IntKind.wrap .i64 (u5a2.timer-1)),tries:=0}:Conn),[]))<|
  .ite (u5a0.tries==3) (.cal bt.c (u5a0,()) λc6=>
   .ret (({u5a2 with state:=8,timer:=0,tries:=0}:Conn),[({c6 with flags:=(bits .or .i64 c6.flags 4)}:Segm)]))<|
  .cal jc.c (u5a2.s,()) λc7=>
  .bnd (β:=WT ud.es) (.as (λw=>aa w.2.1∧aa w.2.2.1) (.ite (u5a0.window==0) (.ret (1,({u5a1 with r.held:=[]}:Conn),(⟨u5a2.tuple,u5a2.state,c7,u5a2.r,u5a2.window,u5a2.most,u5a2.opts,(IntKind.wrap .i64 (u5a2.timer-1)),(IntKind.wrap .i64 (u5a2.tries+1))⟩:Conn),()))<|
   .ret (u5a0.window,({u5a1 with r.held:=[]}:Conn),(⟨u5a2.tuple,u5a2.state,c7,u5a2.r,u5a2.window,u5a2.most,u5a2.opts,(IntKind.wrap .i64 (u5a2.timer-1)),(IntKind.wrap .i64 (u5a2.tries+1))⟩:Conn),()))) λ(u8a0,_,u8a2,_)=>
  .cal cG.c (u8a2,u8a0,()) λc9=>
  .ret (({c9.1 with timer:=3}:Conn),c9.2)
noncomputable def Ns:=bK st OB NJ [] (ks:=[.st .conn]) vc (λv=>[(true,fo (.o true) v.1),(false,[sc (.o true) .segm v.2])]) Tryz.func284 trivial
noncomputable def lS:FT (Tabl×Conn×Limi×Unit) (Tabl×Bool) (λx=>aM x.1∧aa x.2.1) (λx v=>aM v.1∧v.1.conns.length≤max x.1.conns.length 16∧v.1.waiting.length≤max x.1.waiting.length 16∧x.1.conns.length≤v.1.conns.length):= .mk λ(x0,x1,x2,_)=>
  .cal fk.c (x0,()) λc1=>
  .cal bV.c (x1,()) λc2=>
  .grd (xr c1.conns 1 208)<|
  .grd (xr c1.waiting 1 24)<|
  .cal cH.c ((⟨(c1.conns++[c2]),(c1.waiting++[x1.tuple])⟩:Tabl),x2,()) λc3=>
  .ite (!c3) (.cal fk.c (x0,()) λc4=>
   .ret (c4,false))<|
  .ret ((⟨(c1.conns++[c2]),(c1.waiting++[x1.tuple])⟩:Tabl),true)
noncomputable def RH:=aN st Tryz.func316 [j5,cS,E2] (ks:=[.st .tabl,.st .conn,.st .limi]) lS (λv=>[(true,ri (.o true) (.o true) v.1),(false,[.c (.bool v.2)])])
noncomputable def FO:=[Vu]
def nk:Sh:=⟨[zl 0 .conn,zi 1,zi 5],[]⟩
noncomputable def Ft:Fx:=⟨318,Tryz.f318,[(0,lb [0,1,5] [1,4])],0⟩
noncomputable def rt (v0:List Conn)(v2:Int)(a:Int):Tr (Stp (Int) ((Int))):=
 .grd (cd v0 v2)<|
 .cal eH.c ((v0.getD v2.toNat (Ty.zero .conn)),a,()) λc1=>
 .ite (decide (c1<0)) (.ret (.out c1))<|
 .ret (.next c1)
noncomputable def fP:nk.V→qo nk Int (Int):=λ(v0,v1,v2,_)=>⟨v2,v1,λv2 a=>(v0,a,v2,()),λv2 _=>(decide (v2<(v0.length:Int))),rt v0,up,1,(Int.toNat ((v0.length:Int)-v2)),.inl,eR,oB .ret ⟨[zi 1,zi 4],[]⟩ (λp=>(p,(-1),())) (.exit 0) ⟨[zi 1,zu 4],[]⟩ (λx=>(x.2,()))⟩
theorem Ir:LS Tryz.prog Ft [0] (j8 0 nk fP):=eU st (aV FO) _ fP [] trivial
theorem KC {v0:List Conn}{v1 v2:Int}(h0:0≤v2)(h1:(v0.length:Int)≤4611686018427387904):(fP (v0,v1,v2,())).U (v0.length:Int) (λ_ _=>True) (λ_=>True):=
 jV (a:=v1) h0 h1 trivial
noncomputable def lX:FX (List Conn×Int×Unit) (Int) (λ_=>True) (cJ [.sc (.sl .conn),.sc (.int .i64)]):=⟨λ(x0,x1,_)=>
  .ite (decide ((IntKind.wrap .i64 (x1-(x0.length:Int)))<0)) (.ret (-1))<|
  .lp (fP (x0,(IntKind.wrap .i64 (x1-(x0.length:Int))),0,())).lp λw2=> .sum w2 (λ_=>
  .ret (-1))<|
  λ(_,a2_0)=>
  .ret a2_0,
 λ(x0,x1,_) hp hf=>by
  simp only[cJ,Pk.fact,jt,hY,Fl.fact,Ty.fl,Ty.toH]at hf
  refine Tr.I (λ_=>Tr.R trivial) λ_=>Tr.L (KC ?_ ?_) (λa2_0 _=>Tr.Sr (Tr.R trivial)) (λp2a0 _=>Tr.Sl (Tr.R trivial))
  all_goals ((try simp only[fP,LC.lp,LC.ct,Ct.lp]at*)<;>grind)⟩
theorem XZ (xs:List Conn)(k:Int)(h0:0≤k)(h1:k≤1048576)(hl:xs.length≤140737488355328)(he:PH .conn xs)(h:0≤lX.f (xs,k,())):lX.f (xs,k,())≤k∧xs.length≤1048576∧cT aa xs:=by
 have w:IntKind.wrap .i64 (k-(xs.length:Int))=k-(xs.length:Int):=aj (by omega) (by omega)
 simp only[FX.f,PX,lX,fP,w,aA]at h⊢
 by_cases c:k-(xs.length:Int)<0
 ·rw[decide_eq_true c,cond_true]at h;omega
 rw[decide_eq_false c,cond_false]at h⊢
 have hf:∀(j:Nat) x a,xs[j]? =some x→(rt xs (j:Int) a).nice=(bif decide (eH.f (x,a,())<0)then Stp.out (eH.f (x,a,()))else Stp.next (eH.f (x,a,()))):=λj x a hx=>by
  simp only[PX,rt,ac,getD_some hx]
 rw[bu xs _ rfl (F:=λ_ x a=>(bif decide (eH.f (x,a,())<0)then Stp.out (eH.f (x,a,()))else Stp.next (eH.f (x,a,())))) hf]at h⊢
 cases hn:dh (λ_ x a=>(bif decide (eH.f (x,a,())<0)then Stp.out (eH.f (x,a,()))else Stp.next (eH.f (x,a,())))) 0 xs (k-(xs.length:Int))with
 |out p=>rw[hn]at h;simp only[Stp.elim]at h;omega
 |next b=>
  obtain⟨h2,h3⟩:=Hw (λx a=>eH.f (x,a,())) aa xs 0 _ b (λx hx k h0 h1 h=>Zk x k h0 h1 (he x hx) h) (by omega) (by omega) hn
  simp only[Stp.elim]
  exact⟨by omega,by omega,h3⟩
noncomputable def Qg:=Y5 st Ft FO [(j8 0 nk fP)] (ks:=[.sc (.sl .conn),.sc (.int .i64)]) lX rI Tryz.func318 ⟨Ir,trivial⟩
def yP:Sh:=⟨[zl 0 .conn,zo 3 0,zi 4],[za .conn]⟩
noncomputable def xV (v0:List Conn)(v1:Int)(a:List Conn):Tr (Stp (List Conn) (Empty)):=
 .grd (cd v0 v1)<|
 .cal CK.c ((v0.getD v1.toNat (Ty.zero .conn)),()) λc2=>
 .grd (cd a v1)<|
 .ret (.next (a.set v1.toNat c2))
noncomputable def jD:yP.V→tF yP (List Conn):=λ(v0,v1,v2,_)=>⟨v1,v2,λv1 a=>(v0,v1,a,()),λv1 _=>(decide (v1<(v0.length:Int))),xV v0,up,1,(Int.toNat ((v0.length:Int)-v1)),Empty.elim,Prod.mk,oN (.exit 0) ⟨[zu 2,zo 3 0],[za .conn]⟩ (λx=>(x.2,()))⟩
theorem Jc {v0 v2:List Conn}{v1:Int}(h0:0≤v1)(h1:(v0.length:Int)≤4611686018427387904)(h2:sL aa v0)(h3:sL aa v2)(h4:v2.length=v2.length∧cT aa v2∧(v0.length:Int)≤(v2.length:Int)):(jD (v0,v1,v2,())).U (v0.length:Int) (λv1 a=>a.length=v2.length∧cT aa a∧(v0.length:Int)≤(a.length:Int)) (λ_=>True):=
 jV (a:=v2) h0 h1 h4
noncomputable def y8:FT (List Conn×Unit) (List Conn) (λx=>sL aa x.1) (λx v=>sL aa v):=⟨λ(x0,_)=>
  .grd ((((decide (0≤(x0.length:Int)))&&(decide ((x0.length:Int)=(x0.length:Int))))&&(decide ((x0.length:Int)*208≤(aU:Int))))&&(decide ((x0.length:Int)≤(aU:Int))))<|
  .val (List.replicate ((x0.length:Int).toNat) (⟨⟨0,0,0⟩,0,⟨0,[],0,false,false,false⟩,⟨0,[],[],0,false⟩,0,0,⟨0,0,false,false,0,0⟩,0,0⟩:Conn)) λl1=>
  .lp (jD (x0,0,l1,())).lp λ(_,a3_0)=>
  .ret a3_0,
 λ(x0,_) hp=>by
  refine Tr.G4 ?_ λ_=>Tr.V λ_ _=>Tr.L (Jc ?_ ?_ ?_ ?_ ?_) (λa3_0 _=>Tr.R ?_) (λp=>Empty.elim p)
  all_goals ((try simp only[jD,LC.lp,LC.ct,Ct.lp]at*)<;>grind)⟩
noncomputable def Rm:=dV st Tryz.func325 [(0,lb [0,3,4] [2,3])] [VK] 0 jD (ks:=[.sc (.sl .conn)]) y8 (λv=>[(false,[sc (.o true) .conn v])])
def yI:Sh:=⟨[zl 0 .conn,zl 1 .conn,zi 5],[]⟩
noncomputable def xx (v0 v1:List Conn)(v2:Int)(a:Unit):Tr (Stp (Unit) ((Unit))):=
 .grd (cd v0 v2)<|
 .grd (cd v1 v2)<|
 .cal DD.c ((v0.getD v2.toNat (Ty.zero .conn)),(v1.getD v2.toNat (Ty.zero .conn)),()) λc1=>
 .ite (!c1) (.ret (.out ()))<|
 .ret (.next ())
noncomputable def mI:yI.V→qo yI Unit (Unit):=λ(v0,v1,v2,_)=>⟨v2,(),λv2 _=>(v0,v1,v2,()),λv2 _=>(decide (v2<(v0.length:Int))),xx v0 v1,up,1,(Int.toNat ((v0.length:Int)-v2)),.inl,eR,oB .ret ⟨[zb 4],[]⟩ (λ_=>(false,())) (.exit 0) ⟨[zu 4],[]⟩ (λ_=>())⟩
theorem HY {v0 v1:List Conn}{v2:Int}(h0:0≤v2)(h1:(v0.length:Int)≤4611686018427387904)(h2:sL aa v0)(h3:sL aa v1)(h4:(v0.length:Int)≤(v1.length:Int)):(mI (v0,v1,v2,())).U (v0.length:Int) (λ_ _=>True) (λ_=>True):=
 jV h0 h1 trivial
noncomputable def zD:FT (List Conn×List Conn×Unit) (Bool) (λx=>sL aa x.1∧sL aa x.2.1) (λ_ _=>True):= .mk (λ(x0,x1,_)=>
  .ite ((x0.length:Int) != (x1.length:Int)) (.ret false)<|
  .lp (mI (x0,x1,0,())).lp λw2=> .sum w2 (λ_=>
  .ret false)<|
  λ_=>
  .ret true) (pE @HY)
noncomputable def Rh:=dV st Tryz.func330 [(0,lb [0,1,5] [4])] [Vd] 0 mI (ks:=[.sc (.sl .conn),.sc (.sl .conn)]) zD rB
noncomputable def Q1:=[dC,Fa,z8,uq,X6,B7,qI]
def pt:An:=⟨⟨[],[],false,0⟩,⟨[2,3,4,5,6,7,8,9],[],false,0⟩,⟨[],[]⟩,[(.normal,⟨[zp 2 0,zp 3 1,zp 4 2,(5,false,[.nil]),zi 6,zp 7 3,zo 8 4,zi 9],[zg .conn,zx .segm,.box [.st .conn [.nil .piec]],zk .conn 5,za .segm,zf]⟩)]⟩
noncomputable def Ru:Fx:=⟨359,Tryz.f359,[(1000046,pt),(3000014,rA 0 46),(3000022,rA 0 78)],0⟩
noncomputable def tY:FT (Conn×Segm×Unit) (Conn×List Segm×Int) (λx=>aa x.1∧am x.2.1) (λx v=>aa v.1∧sL am v.2.1):= .mk λ(x0,x1,_)=>
  .cal dA.c (x0,()) λc1=>
  .cal tX.c (x0,x1,()) λc2=>
  .ite (c2==1) (.ret (c1,[],c2))<|
  .ite (c2==2) (.ret (({c1 with state:=8,timer:=0,tries:=0}:Conn),[],c2))<|
  .ite (c2==3) (.ite (c2==3) (.bnd (β:=Bool×Unit) (.ite (c2==4) (.ite (x0.state==7) (.val (gF.f (x1,1,())) λc3=>
       .ret (c3,()))<|
      .ret (false,()))<|
     .ret (false,())) λ(u4a0,_)=>
    .bnd (β:=WT pt.es) (.as (λw=>aa w.2.2.1∧am w.2.2.2.1∧aa w.2.2.2.2.1∧aa w.2.2.2.2.2.1∧sL am w.2.2.2.2.2.2.1) (.ite u4a0 (.ret (0,c2,x0,x1,(⟨⟨0,0,0⟩,0,⟨0,[],0,false,false,false⟩,⟨0,[],[],0,false⟩,0,0,⟨0,0,false,false,0,0⟩,0,0⟩:Conn),({c1 with timer:=4}:Conn),[],()))<|
     .ret (0,c2,x0,x1,(⟨⟨0,0,0⟩,0,⟨0,[],0,false,false,false⟩,⟨0,[],[],0,false⟩,0,0,⟨0,0,false,false,0,0⟩,0,0⟩:Conn),c1,[],()))) λ(_,u5a1,u5a2,_,_,u5a5,_,_)=>
    .cal ju.c (u5a2,()) λc6=>
    .ret (u5a5,[c6],u5a1))<|
   .cal Cl.c (x0,x1,()) λc7=>
   .ite (c7.state==8) (.ret (c7,[],c2))<|
   .cal ju.c (c7,()) λc8=>
   .cal mL.c (c7,c7.window,()) λc9=>
   .bnd (β:=Bool×Unit) (.cal iO.c (x1,()) λc10=>
    .ite (decide (0<c10)) (.ret (((c9.2.length:Int)==0),()))<|
    .ret (false,())) λ(u11a0,_)=>
   .ite u11a0 (.grd (xr c9.2 1 104)<|
    .ret (c9.1,(c9.2++[c8]),c2))<|
   .ret (c9.1,c9.2,c2))<|
  .ite (c2==4) (.bnd (β:=Bool×Unit) (.ite (c2==4) (.ite (x0.state==7) (.val (gF.f (x1,1,())) λc12=>
      .ret (c12,()))<|
     .ret (false,()))<|
    .ret (false,())) λ(u13a0,_)=>
   .bnd (β:=WT pt.es) (.as (λw=>aa w.2.2.1∧am w.2.2.2.1∧aa w.2.2.2.2.1∧aa w.2.2.2.2.2.1∧sL am w.2.2.2.2.2.2.1) (.ite u13a0 (.ret (0,c2,x0,x1,(⟨⟨0,0,0⟩,0,⟨0,[],0,false,false,false⟩,⟨0,[],[],0,false⟩,0,0,⟨0,0,false,false,0,0⟩,0,0⟩:Conn),({c1 with timer:=4}:Conn),[],()))<|
    .ret (0,c2,x0,x1,(⟨⟨0,0,0⟩,0,⟨0,[],0,false,false,false⟩,⟨0,[],[],0,false⟩,0,0,⟨0,0,false,false,0,0⟩,0,0⟩:Conn),c1,[],()))) λ(_,u14a1,u14a2,_,_,u14a5,_,_)=>
   .cal ju.c (u14a2,()) λc15=>
   .ret (u14a5,[c15],u14a1))<|
  .cal Cl.c (x0,x1,()) λc16=>
  .ite (c16.state==8) (.ret (c16,[],c2))<|
  .cal ju.c (c16,()) λc17=>
  .cal mL.c (c16,c16.window,()) λc18=>
  .bnd (β:=Bool×Unit) (.cal iO.c (x1,()) λc19=>
   .ite (decide (0<c19)) (.ret (((c18.2.length:Int)==0),()))<|
   .ret (false,())) λ(u20a0,_)=>
  .ite u20a0 (.grd (xr c18.2 1 104)<|
   .ret (c18.1,(c18.2++[c17]),c2))<|
  .ret (c18.1,c18.2,c2)
noncomputable def E4:=bK st Ru Q1 [] (ks:=[.st .conn,.st .segm]) tY (λv=>[(true,fo (.o true) v.1),(false,[sc (.o true) .segm v.2.1]),(false,[.c (.int .i64 v.2.2)])]) Tryz.func359 trivial
noncomputable def rM:FT (Door×Tupl×Segm×Unit) (Bool) (λx=>av x.1∧am x.2.2.1) (λ_ _=>True):= .mk λ(x0,x1,x2,_)=>
  .cal rk.c (x0,()) λc1=>
  .ite c1 (.cal kw.c (x1,()) λc2=>
   .ite c2 (.cal im.c (x2,()) λc3=>
    .ret c3)<|
   .ret false)<|
  .ret false
noncomputable def B9:=aN st Tryz.func360 [uJ,pj,kN] (ks:=[.st .door,.st .tupl,.st .segm]) rM rB
noncomputable def xt:FT (Door×Conn×Segm×Int×Unit) (Door×List Segm×Int) (λx=>av x.1∧aa x.2.1∧am x.2.2.1) (λx v=>av v.1∧sL am v.2.1):= .mk λ(x0,x1,x2,x3,_)=>
  .cal dT.c (x0,()) λc1=>
  .cal y6.c (x0.table,x1,x0.limits,()) λc2=>
  .ite (!c2.2) (.ret (c1,[],0))<|
  .cal tY.c (x1,x2,()) λc3=>
  .cal uv.c (c2.1,c3.1,()) λc4=>
  .cal rQ.c (c1.halves,x1.tuple,()) λc5=>
  .ret (({c1 with halves:=c5,table.conns:=c4.conns,table.waiting:=c4.waiting}:Door),c3.2.1,x3)
noncomputable def TH:=aN st Tryz.func364 [gb,Qm,E4,E7,CU] (ks:=[.st .door,.st .conn,.st .segm,.sc (.int .i64)]) xt (λv=>[(true,kK (.o true) (.o true) (.o true) (.o true) (.o true) v.1),(false,[sc (.o true) .segm v.2.1]),(false,[.c (.int .i64 v.2.2)])])
def Di:Sh:=⟨[zs 1,zl 19 .macRow,zi 20,zi 21],[]⟩
noncomputable def kq (v0:ae)(v1:List MacRow)(v3:Int)(a:Unit):Tr (Stp (Unit) ((Int))):=
 .grd (cd v1 v3)<|
 .ite ((v1.getD v3.toNat (Ty.zero .macRow)).input==v0) (.val (IntKind.wrap .i64 ((((v1.getD v3.toNat (Ty.zero .macRow)).value).tmod 16777216)+16777216)) λe2=>
  .ret (.out (e2.tmod 16777216)))<|
 .ret (.next ())
noncomputable def na:Di.V→qo Di Unit (Int):=λ(v0,v1,v2,v3,_)=>⟨v3,(),λv3 _=>(v0,v1,v2,v3,()),λv3 _=>(decide (v3<v2)),kq v0 v1,up,1,(Int.toNat (v2-v3)),.inl,eR,oB .ret ⟨[zi 4],[]⟩ (λp=>(p,())) (.exit 0) ⟨[zu 4],[]⟩ (λ_=>())⟩
theorem Nt {v0:ae}{v1:List MacRow}{v2 v3:Int}(h0:0≤v3)(h1:v2≤4611686018427387904)(h2:v2≤(v1.length:Int)):(na (v0,v1,v2,v3,())).U v2 (λ_ _=>True) (λ_=>True):=
 jV h0 h1 trivial
noncomputable def p6:FT (Mac×ae×Unit) (Int) (λx=>cE x.1∧sS x.2.1) (λ_ _=>True):= .mk (λ(x0,x1,_)=>
  .ite (!x0.use) (.cal nR.c (x0.k,x0.l,x1,()) λc1=>
   .ret (IntKind.wrap .i64 (c1.tmod 16777216)))<|
  .lp (na (x1,x0.rows,(x0.rows.length:Int),0,())).lp λw3=> .sum w3 (λp3a0=>
  .ret p3a0)<|
  λ_=>
  .ret 0) (pE @Nt)
noncomputable def Xe:=dV st Tryz.func396 [(0,lb [1,19,20,21] [4])] [Q8] 0 na (ks:=[.st .mac,.sc .str]) p6 rI
noncomputable def D5:FT (MacRow×MacRow×Unit) (Bool) (λ_=>True) (λ_ _=>True):= .mk λ(x0,y1,_)=>
  .ret (x0.input==y1.input)
noncomputable def QN:=uL st ⟨275,Tryz.f275,[],1⟩ [] [] [.st .macRow,.wr false [.ptr 0]] [.box [.st .macRow]] (λx y=>(x.1,y.1.1,())) D5 rB (λx y v=>((y.1.1,()),())) Tryz.func275 (by kernel_rfl) trivial
noncomputable def gL:=[QN]
def cj:Sh:=⟨[zl 0 .macRow,(1,false,[.fn 275 [0]]),zi 7,zi 8],[zx .macRow]⟩
noncomputable def gV:Fx:=⟨382,Tryz.f382,[(0,la ⟨[0,1,7,8],[],false,1⟩ ⟨[4],[],false,1⟩)],1⟩
noncomputable def fU (v0:List MacRow)(v3:MacRow)(v2:Int)(a:Unit):Tr (Stp (Unit) ((Int))):=
 .grd (cd v0 v2)<|
 .cal D5.c ((v0.getD v2.toNat (Ty.zero .macRow)),v3,()) λc1=>
 .ite c1 (.ret (.out v2))<|
 .ret (.next ())
noncomputable def bm:cj.V→qo cj Unit (Int):=λ(v0,v1,v2,v3,_)=>⟨v2,(),λv2 _=>(v0,v1,v2,v3,()),λv2 _=>(decide (v2<v1)),fU v0 v3,up,1,(Int.toNat (v1-v2)),.inl,eR,oB .ret ⟨[zi 4],[zx .macRow]⟩ (λp=>(p,v3,())) (.exit 0) ⟨[zu 4],[zx .macRow]⟩ (λ_=>(v3,()))⟩
theorem mt:LS Tryz.prog gV [0] (j8 0 cj bm):=eU st (aV gL) _ bm [] trivial
theorem mp {v0:List MacRow}{v1 v2:Int}{v3:MacRow}(h0:0≤v2)(h1:v1≤4611686018427387904)(h2:v1≤(v0.length:Int)):(bm (v0,v1,v2,v3,())).U v1 (λ_ _=>True) (λp=>v2≤p∧p<v1):=
 jV h0 h1 trivial
noncomputable def fe:FT (List MacRow×MacRow×Unit) (Int) (λx=>wS x.1) (λx v=> -1≤v∧v<x.1.length):= .mk (λ(x0,y1_0,_)=>
  .lp (bm (x0,(x0.length:Int),0,y1_0,())).lp λw2=> .sum w2 (λp2a0=>
  .ret p2a0)<|
  λ_=>
  .ret (-1)) (pE @mp)
noncomputable def nQ:=uL st gV gL [(j8 0 cj bm)] [.sc (.sl .macRow),.fn 275 [0]] [.box [.st .macRow]] (λx y=>(x.1,y.1.1,())) fe rI (λx y v=>((y.1.1,()),())) Tryz.func382 (by kernel_rfl) ⟨mt,trivial⟩
noncomputable def nN:FT (Stac×Unit) (Bool) (λx=>aW x.1) (λx v=>(v=true→x.1.door.table.conns.length≤16)):= .mk λ(x0,_)=>
  .cal ui.c (x0.link,()) λc1=>
  .ite c1 (.cal rk.c (x0.door,()) λc2=>
   .ret c2)<|
  .ret false
noncomputable def xv:=aN st Tryz.func20 [BC,uJ] (ks:=[.st .stac]) nN rB
noncomputable def vI:FT (Acti×Resu×Unit) (Issu×Bool) (λx=>cU x.1∧mR x.2.1) (λ_ _=>True):= .mk λ(x0,x1,_)=>
  .ite (x1.made != 2) (.ret ((⟨⟨0,0,0⟩,0,0⟩:Issu),false))<|
  .cal DF.c (x0.text,()) λc1=>
  .ite (!c1.2.2) (.ret ((⟨⟨0,0,0⟩,0,0⟩:Issu),false))<|
  .val (uf.f (c1.1.src,c1.2.1,())) λc2=>
  .val (bG.f (c1.2.1.seq,(-1),())) λc3=>
  .val (bG.f (c1.2.1.ack,(-1),())) λc4=>
  .ret ((⟨c2,c3,c4⟩:Issu),true)
noncomputable def Pw:=aN st Tryz.func42 [VC,FP,fN] (ks:=[.st .acti,.st .resu]) vI (λv=>[(true,TK v.1),(false,[.c (.bool v.2)])])
noncomputable def rE:FT (Mac×Tupl×Int×Int×Int×Unit) (Int) (λx=>cE x.1) (λ_ _=>True):= .mk λ(x0,x1,x2,x3,x4,_)=>
  .cal u4.c (x1,x2,x3,x4,()) λc1=>
  .ite (c1==[]) (.ret (-1))<|
  .val (IntKind.wrap .i64 ((IntKind.wrap .i64 ((x3.tmod 32)*134217728))+(IntKind.wrap .i64 (x4*16777216)))) λe2=>
  .cal Hx.c (x0,c1,()) λc3=>
  .ret (IntKind.wrap .i64 (e2+c3))
noncomputable def Dt:=aN st Tryz.func47 [Nm,YS] (ks:=[.st .mac,.st .tupl,.sc (.int .i64),.sc (.int .i64),.sc (.int .i64)]) rE rI
def tP:Sh:=⟨[zp 1 0,zp 2 1,zp 4 2,zo 5 3,zi 6],[.box [.st .stac [.sl .arg,.sl .arg,.sl .arg,.sl .arg,.sl .arg,.sl .arg]],.box [.st .stac [.nil .entr,.nil .macRow,.nil .macRow,.nil .half,.nil .conn,.nil .tupl]],.box [.st .stac [.own 4,.own 5,.own 6,.own 7,.own 8,.own 9]],za .str,zf,zf,zf,zf,zf,zf]⟩
noncomputable def nI (v1:Stac)(v0:Int)(a:Stac×List ae):Tr (Stp (Stac×List ae) (Empty)):=
 .grd (cd v1.door.table.conns v0)<|
 .cal rN.c ((v1.door.table.conns.getD v0.toNat (Ty.zero .conn)),()) λc3=>
 .cal qv.c (v1,(v1.door.table.conns.getD v0.toNat (Ty.zero .conn)).tuple.ip,c3.2,()) λc4=>
 .grd (Nat.ble ((2*(a.2.length+c4.length)+1024)*16) aU)<|
 .ret (.next (({a.1 with link.cache:=[],door.keys.now.rows:=[],door.keys.before.rows:=[],door.halves:=[],door.table.conns:=[],door.table.waiting:=[]}:Stac),(a.2++c4)))
noncomputable def gM:tP.V→tF tP (Stac×List ae):=λ(v0,v1,v2,v3,v4,_)=>⟨v0,(v2,v4),λv0 a=>(v0,v1,a.1,v3,a.2,()),λv0 _=>(decide (v0<(v1.door.table.conns.length:Int))),nI v1,up,1,(Int.toNat ((v1.door.table.conns.length:Int)-v0)),Empty.elim,Prod.mk,oN (.exit 0) ⟨[zp 1 0,zp 2 1,zu 3,zp 4 2,zo 5 3],[.box [.st .stac [.sl .arg,.sl .arg,.sl .arg,.sl .arg,.sl .arg,.sl .arg]],.box [.st .stac [.nil .entr,.nil .macRow,.nil .macRow,.nil .half,.nil .conn,.nil .tupl]],.box [.st .stac [.own 4,.own 5,.own 6,.own 7,.own 8,.own 9]],za .str,zf,zf,zf,zf,zf,zf]⟩ (λx=>(v1,({x.2.1 with link.cache:=[],door.keys.now.rows:=[],door.keys.before.rows:=[],door.halves:=[],door.table.conns:=[],door.table.waiting:=[]}:Stac),v3,x.2.2,()))⟩
theorem EA {v0:Int}{v1 v2 v3:Stac}{v4:List ae}(h0:0≤v0)(h1:(v1.door.table.conns.length:Int)≤4611686018427387904)(h2:v1.door.table.conns.length≤16)(h3:aW v1)(h4:aW v2∧sL sS v4∧(v4.length:Int)≤49*v0):(gM (v0,v1,v2,v3,v4,())).U (v1.door.table.conns.length:Int) (λv0 a=>aW a.1∧sL sS a.2∧(a.2.length:Int)≤49*v0) (λ_=>True):=
 jV (a:=(v2,v4)) h0 h1 h4
noncomputable def sH:FT (Stac×Unit) (Stac×List ae) (λx=>aW x.1) (λx v=>aW v.1∧sL sS v.2):=⟨λ(x0,_)=>
  .cal qt.c (x0,()) λc1=>
  .cal nN.c (x0,()) λc2=>
  .ite (!c2) (.ret (c1,[]))<|
  .lp (gM (0,x0,(⟨⟨0,0,[]⟩,⟨0,0,⟨0,⟨false,0,0,[]⟩,⟨false,0,0,[]⟩,false⟩,⟨0,0,0,0⟩,[],⟨[],[]⟩,0⟩⟩:Stac),c1,[],())).lp λ(_,_,a5_1)=>
  .cal uY.c (x0.door,()) λc6=>
  .cal Nj.c (x0.link.cache,()) λc7=>
  .ret ((⟨⟨c1.link.mac,c1.link.ip,c7⟩,c6.1⟩:Stac),a5_1),
 λ(x0,_) hp=>by
  refine Tr.C ?_ λ_ _ _=>Tr.C ?_ λ_ _ _=>Tr.I (λ_=>Tr.R ?_) λ_=>Tr.L (EA ?_ ?_ ?_ ?_ ?_) (λ(a5_0,a5_1) _=>Tr.C ?_ λ_ _ _=>Tr.C ?_ λ_ _ _=>Tr.R ?_) (λp=>Empty.elim p)
  all_goals ((try simp only[gM,LC.lp,LC.ct,Ct.lp]at*)<;>grind)⟩
noncomputable def Lc:=dV st Tryz.func52 [(0,lb [1,2,4,5,6] [1,2,3,4,5])] [ya,xv,CC,xR,O9,Zg] 0 gM (ks:=[.st .stac]) sH (λv=>[(true,qS (.o true) (.o true) (.o true) (.o true) (.o true) (.o true) v.1),(false,[sc (.o true) .str v.2])])
noncomputable def Tq:=[gc,vR,Xi,S8,PM,Zl,Yf]
noncomputable def Tm:Fx:=⟨56,Tryz.f56,[(3000002,rA 0 34),(4000000,la ⟨[],[],false,0⟩ ⟨[],[.softb 4 20,.softb 4 21],false,0⟩)],0⟩
noncomputable def z7:FT (Stac×Acti×Unit) (Stac×Resu) (λx=>aW x.1∧cU x.2.1) (λx v=>aW v.1∧mR v.2):= .mk λ(x0,x1,_)=>
  .cal d6.c (x0.door.table,x1.tuple,()) λc1=>
  .bnd (β:=Bool×Unit) (.ite (decide (c1<0)) (.ret (true,()))<|
   .cal nU.c (x0.door.table.waiting,x1.tuple,()) λc2=>
   .ret (c2,())) λ(u3a0,_)=>
  .ite u3a0 (.ret (x0,(⟨[],0,⟨0,0,0⟩,0,[],false⟩:Resu)))<|
  .grd (cd x0.door.table.conns c1)<|
  .ite (x1.kind==5) (.cal Ht.c ((x0.door.table.conns.getD c1.toNat (Ty.zero .conn)),x1.text,()) λc4=>
   .cal nL.c (x0,c4.1,c4.2.2,(⟨[],0,⟨0,0,0⟩,c4.2.1,[],false⟩:Resu),()) λc5=>
   .ret (c5.1,c5.2))<|
  .ite (x1.kind==6) (.cal vf.c ((x0.door.table.conns.getD c1.toNat (Ty.zero .conn)),x1.n,()) λc6=>
   .cal nL.c (x0,c6.1,c6.2.2,(⟨[],0,⟨0,0,0⟩,0,c6.2.1,false⟩:Resu),()) λc7=>
   .ret (c7.1,c7.2))<|
  .ite (x1.kind==7) (.cal O3.c ((x0.door.table.conns.getD c1.toNat (Ty.zero .conn)),()) λc8=>
   .cal nL.c (x0,c8.1,c8.2,(⟨[],0,⟨0,0,0⟩,0,[],false⟩:Resu),()) λc9=>
   .ret (c9.1,c9.2))<|
  .cal Hm.c ((x0.door.table.conns.getD c1.toNat (Ty.zero .conn)),()) λc10=>
  .cal nL.c (x0,c10.1,c10.2,(⟨[],0,⟨0,0,0⟩,0,[],false⟩:Resu),()) λc11=>
  .ret (c11.1,c11.2)
noncomputable def R8:=bK st Tm Tq [] (ks:=[.st .stac,.st .acti]) z7 (λv=>[(true,qS .c .c .c .c .c .c v.1),(true,N5 (.o true) v.2)]) Tryz.func56 trivial
noncomputable def vg:FT (Conn×Acti×Unit) (Conn×Int×ae×List Segm) (λx=>aa x.1∧cU x.2.1) (λx v=>aa v.1∧sS v.2.2.1∧sL am v.2.2.2):= .mk λ(x0,x1,_)=>
  .ite (x1.kind==5) (.cal Hg.c (x0,x1.text,()) λc1=>
   .ret (c1.1,c1.2.1,[],c1.2.2))<|
  .ite (x1.kind==6) (.cal uQ.c (x0,x1.n,()) λc2=>
   .ret (c2.1,0,c2.2.1,c2.2.2))<|
  .ite (x1.kind==7) (.cal PR.c (x0,()) λc3=>
   .ret (c3.1,0,[],c3.2))<|
  .cal Hn.c (x0,()) λc4=>
  .ret (c4.1,0,[],c4.2)
noncomputable def M8:=aN st Tryz.func75 [YL,Ok,Z4,Yz] (ks:=[.st .conn,.st .acti]) vg (λv=>[(true,fo (.o true) v.1),(false,[.c (.int .i64 v.2.1)]),(false,[.c (.str v.2.2.1)]),(false,[sc (.o true) .segm v.2.2.2])])
noncomputable def U7:=[FR,AO,BC,XV,T9,xy,E9]
noncomputable def TG:Fx:=⟨129,Tryz.f129,[(3000003,rA 0 33),(3000010,rA 0 77),(4000000,la ⟨[],[],false,0⟩ ⟨[],[.softb 4 2],false,0⟩)],0⟩
noncomputable def BT:FT (Link×ae×Unit) (Link×Int×Pack×ae) (λx=>dY x.1∧sS x.2.1) (λx v=>dY v.1∧kt v.2.2.1∧sS v.2.2.2∧v.2.2.1.body.length≤1500):= .mk λ(x0,x1,_)=>
  .cal qE.c (x0,()) λc1=>
  .cal lU.c (x1,()) λc2=>
  .bnd (β:=Bool×Unit) (.cal ui.c (x0,()) λc3=>
   .ite (!c3) (.ret (true,()))<|
   .ite (!c2.2) (.ret (true,()))<|
   .val (HB.f (c2.1,x0.mac,())) λc4=>
   .ret ((!c4),())) λ(u5a0,_)=>
  .ite u5a0 (.ret (c1,0,(⟨0,0,0,0,0,[]⟩:Pack),[]))<|
  .ite (c2.1.type==2054) (.cal Kg.c (c1,c2.1,()) λc6=>
   .ret (c6.1,c6.2.1,c6.2.2.1,c6.2.2.2))<|
  .ite (c2.1.type != 2048) (.ret (c1,0,(⟨0,0,0,0,0,[]⟩:Pack),[]))<|
  .cal kG.c (c2.1.body,()) λc7=>
  .bnd (β:=Bool×Unit) (.ite (c7.2 != 0) (.ret (true,()))<|
   .ite (c7.1.dst != x0.ip) (.ret (true,()))<|
   .ite (c7.1.proto != 6) (.ret (true,()))<|
   .ret ((c7.1.src==x0.ip),())) λ(u8a0,_)=>
  .ite u8a0 (.ret (c1,0,(⟨0,0,0,0,0,[]⟩:Pack),[]))<|
  .cal uH.c (c1.cache,c7.1.src,c2.1.src,()) λc9=>
  .ret (({c1 with cache:=c9}:Link),2,c7.1,[])
noncomputable def V4:=bK st TG U7 [] (ks:=[.st .link,.sc .str]) BT (λv=>[(true,EY .c v.1),(false,[.c (.int .i64 v.2.1)]),(true,Bq v.2.2.1),(false,[.c (.str v.2.2.2)])]) Tryz.func129 trivial
def xg:Sh:=⟨[zl 0 .half,zl 8 .half,zi 9,zi 10],[]⟩
noncomputable def pB (v0 v1:List Half)(v3:Int)(a:Unit):Tr (Stp (Unit) ((Unit))):=
 .grd (cd v1 v3)<|
 .cal az.c ((v1.getD v3.toNat (Ty.zero .half)).tuple,()) λc1=>
 .ite (!c1) (.ret (.out ()))<|
 .cal af.c ((v1.getD v3.toNat (Ty.zero .half)).iss,32,()) λc2=>
 .ite (!c2) (.ret (.out ()))<|
 .cal af.c ((v1.getD v3.toNat (Ty.zero .half)).irs,32,()) λc3=>
 .ite (!c3) (.ret (.out ()))<|
 .cal af.c ((v1.getD v3.toNat (Ty.zero .half)).window,16,()) λc4=>
 .ite (!c4) (.ret (.out ()))<|
 .cal aH.c ((v1.getD v3.toNat (Ty.zero .half)).opts,()) λc5=>
 .ite (!c5) (.ret (.out ()))<|
 .val (a9.f ((v1.getD v3.toNat (Ty.zero .half)).age,0,6,())) λc6=>
 .ite (!c6) (.ret (.out ()))<|
 .cal ax.c (v0,(v1.getD v3.toNat (Ty.zero .half)).tuple,()) λc7=>
 .ite (c7 != v3) (.ret (.out ()))<|
 .ret (.next ())
noncomputable def lj:xg.V→qo xg Unit (Unit):=λ(v0,v1,v2,v3,_)=>⟨v3,(),λv3 _=>(v0,v1,v2,v3,()),λv3 _=>(decide (v3<v2)),pB v0 v1,up,1,(Int.toNat (v2-v3)),.inl,eR,oB .ret ⟨[zb 2],[]⟩ (λ_=>(false,())) (.exit 0) ⟨[zu 2],[]⟩ (λ_=>())⟩
theorem GV {v0 v1:List Half}{v2 v3:Int}(h0:0≤v3)(h1:v2≤4611686018427387904)(h2:wS v0)(h3:v2≤(v1.length:Int)):(lj (v0,v1,v2,v3,())).U v2 (λ_ _=>True) (λ_=>True):=
 jV h0 h1 trivial
noncomputable def fa:FT (List Half×Unit) (Bool) (λx=>wS x.1) (λx v=>(v=true→x.1.length≤64)):= .mk (λ(x0,_)=>
  .ite (decide (64<(x0.length:Int))) (.ret false)<|
  .lp (lj (x0,x0,(x0.length:Int),0,())).lp λw8=> .sum w8 (λ_=>
  .ret false)<|
  λ_=>
  .ret true) (pE @GV)
noncomputable def DG:=dV st Tryz.func158 [(0,lb [0,8,9,10] [2])] [ml,bN,kW,bB,nr] 0 lj (ks:=[.sc (.sl .half)]) fa rB
noncomputable def kv:FX (Tabl×Int×Unit) (Int) (λ_=>True) (cJ [.st .tabl,.sc (.int .i64)]):=⟨λ(x0,x1,_)=>
  .cal lX.c (x0.conns,x1,()) λc1=>
  .ite (decide (c1<0)) (.ret (-1))<|
  .cal lK.c (x0.waiting,c1,()) λc2=>
  .ite (decide (c2<0)) (.ret (-1))<|
  .ret c2,
 λ(x0,x1,_) hp hf=>by
  simp only[cJ,Pk.fact,jt,hY,Fl.fact,Ty.fl,Ty.toH]at hf
  refine Tr.C trivial λ_ _ _=>Tr.I (λ_=>Tr.R trivial) λ_=>Tr.C trivial λ_ _ _=>Tr.F (by kernel_rfl) trivial⟩
theorem WM (x:Tabl)(k:Int)(h0:0≤k)(h1:k≤1048576)(hl:x.conns.length≤140737488355328)(he:PH .conn x.conns)(hw:x.waiting.length≤140737488355328)(h:0≤kv.f (x,k,())):kv.f (x,k,())≤k∧aM x:=by
 have e:kv.f (x,k,())=(bif decide (lX.f (x.conns,k,())<0)then-1 else(bif decide (lK.f (x.waiting,lX.f (x.conns,k,()),())<0)then-1 else lK.f (x.waiting,lX.f (x.conns,k,()),()))):=by first|(simp only[FX.f,PX,kv];done)|(simp only[FX.f,PX,kv];rfl)
 rw[e]at h⊢
 obtain⟨p0,e0⟩:=pi h
 rw[e0]at h⊢
 obtain⟨p1,e1⟩:=pi h
 rw[e1]at h⊢
 have b0:=XZ _ _ h0 (by omega) hl he p0
 have b1:=UN _ _ p0 (by omega) hw p1
 refine⟨by omega, ?_⟩
 unfold aM
 exact⟨by omega,b0.2.2,by omega⟩
noncomputable def Ry:=rF st Tryz.func207 [Qg,On] (ks:=[.st .tabl,.sc (.int .i64)]) kv rI
noncomputable def zC:FT (Tabl×Unit) (Tabl) (λx=>aM x.1) (λx v=>aM v):= .mk λ(x0,_)=>
  .cal y8.c (x0.conns,()) λc1=>
  .cal uZ.c (x0.waiting,()) λc2=>
  .ret (⟨c1,c2⟩:Tabl)
noncomputable def RK:=aN st Tryz.func216 [Rm,Oh] (ks:=[.st .tabl]) zC (λv=>[(true,ri (.o true) (.o true) v)])
noncomputable def z5:FT (Tabl×Tabl×Unit) (Bool) (λx=>aM x.1∧aM x.2.1) (λ_ _=>True):= .mk λ(x0,x1,_)=>
  .cal zD.c (x0.conns,x1.conns,()) λc1=>
  .ite (!c1) (.ret false)<|
  .cal vK.c (x0.waiting,x1.waiting,()) λc2=>
  .ite (!c2) (.ret false)<|
  .ret true
noncomputable def Re:=aN st Tryz.func222 [Rh,Oc] (ks:=[.st .tabl,.st .tabl]) z5 rB
noncomputable def zy:FT (Door×Int×Segm×Unit) (Door×List Segm×Int) (λx=>av x.1∧am x.2.2.1∧0≤x.2.1∧x.2.1<x.1.table.conns.length) (λx v=>av v.1∧sL am v.2.1):= .mk λ(x0,x1,x2,_)=>
  .cal dT.c (x0,()) λc1=>
  .grd (cd x0.table.conns x1)<|
  .cal tY.c ((x0.table.conns.getD x1.toNat (Ty.zero .conn)),x2,()) λc2=>
  .grd (cd c1.table.conns x1)<|
  .ite (c2.2.2==3) (.ite (x0.chal==x0.limits.chal) (.ret (({c1 with table.conns:=(c1.table.conns.set x1.toNat c2.1)}:Door),[],0))<|
   .ret (({c1 with table.conns:=(c1.table.conns.set x1.toNat c2.1),chal:=(IntKind.wrap .i64 (x0.chal+1))}:Door),c2.2.1,0))<|
  .ret (({c1 with table.conns:=(c1.table.conns.set x1.toNat c2.1)}:Door),c2.2.1,0)
noncomputable def S4:=aN st Tryz.func243 [gb,E4] (ks:=[.st .door,.sc (.int .i64),.st .segm]) zy (λv=>[(true,kK (.o true) (.o true) (.o true) (.o true) (.o true) v.1),(false,[sc (.o true) .segm v.2.1]),(false,[.c (.int .i64 v.2.2)])])
noncomputable def jA:FT (Mac×Tupl×Int×Int×Int×Unit) (Int) (λx=>cE x.1) (λ_ _=>True):= .mk λ(x0,x1,x2,x3,x4,_)=>
  .cal fC.c (x1,x2,x3,x4,()) λc1=>
  .ite (c1==[]) (.ret (-1))<|
  .val (IntKind.wrap .i64 ((IntKind.wrap .i64 ((x3.tmod 32)*134217728))+(IntKind.wrap .i64 (x4*16777216)))) λe2=>
  .cal p6.c (x0,c1,()) λc3=>
  .ret (IntKind.wrap .i64 (e2+c3))
noncomputable def C4:=aN st Tryz.func304 [PB,Xe] (ks:=[.st .mac,.st .tupl,.sc (.int .i64),.sc (.int .i64),.sc (.int .i64)]) jA rI
noncomputable def QY:=[rD,DG]
noncomputable def P6:Fx:=⟨312,Tryz.f312,[(3000002,rA 0 22)],0⟩
noncomputable def og:FT (List Half×Half×Int×Unit) (List Half×Bool) (λx=>sS x.1) (λx v=>sS v.1):= .mk λ(x0,x1,x2,_)=>
  .cal eq.c (x0,()) λc1=>
  .grd (xr c1 1 96)<|
  .bnd (β:=Bool×Unit) (.as (λw=>(w.1=false→(c1++[x1]).length≤64)) (.ite (decide (x2≤(x0.length:Int))) (.ret (true,()))<|
   .cal fa.c ((c1++[x1]),()) λc2=>
   .ret ((!c2),()))) λ(u3a0,_)=>
  .ite u3a0 (.cal eq.c (x0,()) λc4=>
   .ret (c4,false))<|
  .ret ((c1++[x1]),true)
noncomputable def Q2:=bK st P6 QY [] (ks:=[.sc (.sl .half),.st .half,.sc (.int .i64)]) og (λv=>[(false,[sc (.o true) .half v.1]),(false,[.c (.bool v.2)])]) Tryz.func312 trivial
noncomputable def nM:FT (Door×Tupl×Segm×Unit) (Int) (λx=>av x.1∧am x.2.2.1) (λ_ _=>True):= .mk λ(x0,x1,x2,_)=>
  .val (y9.f (x2.opts,())) λc1=>
  .cal iI.c (c1,()) λc2=>
  .cal jA.c (x0.keys.now,x1,x2.seq,x0.keys.epoch,c2,()) λc3=>
  .ret (if 0<c3 then c3 else 0)
noncomputable def Od:=aN st Tryz.func405 [RN,PG,C4] (ks:=[.st .door,.st .tupl,.st .segm]) nM rI
noncomputable def Oe:=[Nq,Dt,lV]
def EL:An:=⟨⟨[],[],false,0⟩,⟨[3,4,5,6,7],[],false,0⟩,⟨[],[]⟩,[(.normal,⟨[zp 3 0,zp 4 1,zp 5 2,zi 6,zi 7],[.box [.st .door [.sl .arg,.sl .arg,.sl .arg,.sl .arg,.sl .arg]],zx .tupl,zx .segm]⟩)]⟩
noncomputable def Ph:Fx:=⟨435,Tryz.f435,[(1000012,EL)],0⟩
noncomputable def vN:FT (Door×Tupl×Segm×Unit) (Int) (λx=>av x.1∧am x.2.2.1) (λ_ _=>True):= .mk λ(x0,x1,x2,_)=>
  .bnd (β:=Int×Int×Door×Tupl×Segm×Unit) (.as (λw=>av w.2.2.1∧am w.2.2.2.2.1) (.ite (x2.opts.mss==0) (.ret (0,536,x0,x1,x2,()))<|
   .ret (0,x2.opts.mss,x0,x1,x2,()))) λ(_,u1a1,u1a2,u1a3,u1a4,_)=>
  .cal vu.c (u1a1,()) λc2=>
  .cal rE.c (u1a2.keys.now,u1a3,u1a4.seq,u1a2.keys.epoch,c2,()) λc3=>
  .val (fp.f (0,c3,())) λc4=>
  .ret c4
noncomputable def PK:=bK st Ph Oe [] (ks:=[.st .door,.st .tupl,.st .segm]) vN rI Tryz.func435 trivial
noncomputable def cL:FT (List MacRow×MacRow×Unit) (Bool) (λx=>sL aG x.1∧aG x.2.1) (λ_ _=>True):= .mk λ(x0,y1_0,_)=>
  .cal fe.c (x0,y1_0,()) λc1=>
  .ret (decide (0≤c1))
noncomputable def mv:=uL st ⟨274,Tryz.f274,[],1⟩ [nQ] [] [.sc (.sl .macRow),.fn 275 [0]] [.box [.st .macRow]] (λx y=>(x.1,y.1.1,())) cL rB (λx y v=>((y.1.1,()),())) Tryz.func274 (by kernel_rfl) trivial
def ry:Sh:=⟨[zi 2,zi 3,zp 4 0,zp 5 1,zi 12,zi 14],[.box [.st .keys [.sl .arg,.sl .arg]],zx .tupl]⟩
noncomputable def lL (v0 v1 v2:Int)(v4:Keys)(v5:Tupl)(v3:Int)(a:Unit):Tr (Stp (Unit) ((Int)⊕(Unit))):=
 .ite (decide ((IntKind.wrap .i64 (v4.epoch-1))≤v3)) (.cal wo.c (v4,v3,()) λc4=>
  .bnd (β:=Bool×Unit) (.ite c4.2 (.cal rE.c (c4.1,v5,v0,v3,v2,()) λc5=>
    .ret ((c5==v1),()))<|
   .ret (false,())) λ(u6a0,_)=>
  .ite u6a0 (.ret (.out (.inl v3)))<|
  .ret (.next ()))<|
 .ret (.out (.inr (())))
noncomputable def iz:ry.V→qo ry Unit ((Int)⊕(Unit)):=λ(v0,v1,v2,v3,v4,v5,_)=>⟨v3,(),λv3 _=>(v0,v1,v2,v3,v4,v5,()),λv3 _=>(decide (0≤v3)),lL v0 v1 v2 v4 v5,dn,(-1),(Int.toNat (v3-0+1)),.inl,eR,λ_ k w=>Sum.elim (oB .ret ⟨[zi 8,zi 9,zb 10],[]⟩ (λp=>(p,v2,true,())) (.exit 0) ⟨[zu 8,zu 9,zu 10],[]⟩ (λ_=>()) _ k) (λ_=>k (.exit 0) (Sh.enc ⟨[zu 8,zu 9,zu 10],[]⟩ ())) w⟩
theorem Bd {v0 v1 v2 v3:Int}{v4:Keys}{v5:Tupl}(h0:v3≤9223372036854775807)(h1:cK v4):(iz (v0,v1,v2,v3,v4,v5,())).D 0 (λ_ _=>True) (λ_=>True):=
 lcD h0 (by decide) trivial
noncomputable def oO:FT (Keys×Tupl×Int×Int×Unit) (Int×Int×Bool) (λx=>cK x.1) (λ_ _=>True):= .mk (λ(x0,x1,x2,x3,_)=>
  .cal oz.c (x3,()) λc1=>
  .bnd (β:=Bool×Unit) (.as (λw=>(w.1=false→0≤x0.epoch∧x0.epoch≤4294967295)) (.cal tL.c (x0,()) λc2=>
   .ite (!c2) (.ret (true,()))<|
   .ret ((decide (c1.2.1<0)),()))) λ(u3a0,_)=>
  .ite u3a0 (.ret (0,0,false))<|
  .lp (iz (x2,x3,c1.2.1,x0.epoch,x0,x1,())).lp λw7=> .sum w7 (λq7=> .sum q7 (λp7a0=>
  .ret (p7a0,c1.2.1,true))<|
  λ_=>
  .ret (0,0,false))<|
  λ_=>
  .ret (0,0,false)) (pE @Bd)
noncomputable def GG:=dV st Tryz.func11 [(0,lb [2,3,4,5,12,14] [8,9,10]),(3000002,rA 0 29),(3000008,rA 0 59)] [GY,BG,NI,Dt] 0 iz (ks:=[.st .keys,.st .tupl,.sc (.int .i64),.sc (.int .i64)]) oO (λv=>[(false,[.c (.int .i64 v.1)]),(false,[.c (.int .i64 v.2.1)]),(false,[.c (.bool v.2.2)])])
noncomputable def nn:FX (Door×Int×Unit) (Int) (λ_=>True) (cJ [.st .door,.sc (.int .i64)]):=⟨λ(x0,x1,_)=>
  .cal jT.c (x0.keys,x1,()) λc1=>
  .ite (decide (c1<0)) (.ret (-1))<|
  .cal mi.c (x0.halves,c1,()) λc2=>
  .ite (decide (c2<0)) (.ret (-1))<|
  .cal kv.c (x0.table,c2,()) λc3=>
  .ite (decide (c3<0)) (.ret (-1))<|
  .ret c3,
 λ(x0,x1,_) hp hf=>by
  simp only[cJ,Pk.fact,jt,hY,Fl.fact,Ty.fl,Ty.toH]at hf
  refine Tr.C trivial λ_ _ _=>Tr.I (λ_=>Tr.R trivial) λ_=>Tr.C trivial λ_ _ _=>Tr.I (λ_=>Tr.R trivial) λ_=>Tr.C trivial λ_ _ _=>Tr.F (by kernel_rfl) trivial⟩
theorem aaD (x:Door)(k:Int)(h0:0≤k)(h1:k≤1048576)(n1:x.keys.now.rows.length≤140737488355328)(n2:PH .macRow x.keys.now.rows)(m1:x.keys.before.rows.length≤140737488355328)(m2:PH .macRow x.keys.before.rows)(hh:x.halves.length≤140737488355328)(hl:x.table.conns.length≤140737488355328)(he:PH .conn x.table.conns)(hw:x.table.waiting.length≤140737488355328)(h:0≤nn.f (x,k,())):nn.f (x,k,())≤k∧av x:=by
 have e:nn.f (x,k,())=(bif decide (jT.f (x.keys,k,())<0)then-1 else(bif decide (mi.f (x.halves,jT.f (x.keys,k,()),())<0)then-1 else(bif decide (kv.f (x.table,mi.f (x.halves,jT.f (x.keys,k,()),()),())<0)then-1 else kv.f (x.table,mi.f (x.halves,jT.f (x.keys,k,()),()),())))):=by first|(simp only[FX.f,PX,nn];done)|(simp only[FX.f,PX,nn];rfl)
 rw[e]at h⊢
 obtain⟨p0,e0⟩:=pi h
 rw[e0]at h⊢
 obtain⟨p1,e1⟩:=pi h
 rw[e1]at h⊢
 obtain⟨p2,e2⟩:=pi h
 rw[e2]at h⊢
 have b0:=Z7 _ _ h0 (by omega) n1 n2 m1 m2 p0
 have b1:=Yn _ _ p0 (by omega) hh p1
 have b2:=WM _ _ p1 (by omega) hl he hw p2
 refine⟨by omega, ?_⟩
 have q0:=b0.2
 have q1:=b1.2
 have q2:=b2.2
 unfold cK at q0
 unfold aM at q2
 unfold av
 exact⟨q0.1,q0.2.1,q0.2.2.1,q0.2.2.2,by omega,q2.1,q2.2.1,q2.2.2⟩
noncomputable def Ub:=rF st Tryz.func97 [Vw,RL,Ry] (ks:=[.st .door,.sc (.int .i64)]) nn rI
noncomputable def Cj:FT (Door×Unit) (Door) (λx=>av x.1) (λx v=>av v):= .mk λ(x0,_)=>
  .cal CM.c (x0.keys,()) λc1=>
  .val (vz.f (x0.limits,())) λc2=>
  .cal zJ.c (x0.halves,()) λc3=>
  .cal zC.c (x0.table,()) λc4=>
  .ret (⟨x0.port,x0.clock,c1,c2,c3,c4,x0.chal⟩:Door)
noncomputable def Uz:=aN st Tryz.func103 [Vq,PF,SL,RK] (ks:=[.st .door]) Cj (λv=>[(true,kK (.o true) (.o true) (.o true) (.o true) (.o true) v)])
noncomputable def Cz:FT (Door×Door×Unit) (Bool) (λx=>av x.1∧av x.2.1) (λ_ _=>True):= .mk λ(x0,x1,_)=>
  .ite (x0.port != x1.port) (.ret false)<|
  .ite (x0.clock != x1.clock) (.ret false)<|
  .cal CA.c (x0.keys,x1.keys,()) λc1=>
  .ite (!c1) (.ret false)<|
  .val (vB.f (x0.limits,x1.limits,())) λc2=>
  .ite (!c2) (.ret false)<|
  .cal zZ.c (x0.halves,x1.halves,()) λc3=>
  .ite (!c3) (.ret false)<|
  .cal z5.c (x0.table,x1.table,()) λc4=>
  .ite (!c4) (.ret false)<|
  .ite (x0.chal != x1.chal) (.ret false)<|
  .ret true
noncomputable def Vl:=aN st Tryz.func108 [UD,N2,RX,Re] (ks:=[.st .door,.st .door]) Cz rB
def Ck:Sh:=⟨[zp 1 0,zl 27 .macRow,zi 28,zi 29],[zg .mac]⟩
noncomputable def pR (v0:List MacRow)(v3:Mac)(v2:Int)(a:Unit):Tr (Stp (Unit) ((Unit))):=
 .grd (cd v0 v2)<|
 .val (a9.f ((v0.getD v2.toNat (Ty.zero .macRow)).value,0,16777215,())) λc2=>
 .ite (!c2) (.ret (.out ()))<|
 .grd ((decide (0≤v2))&&(decide (v2≤(v3.rows.length:Int))))<|
 .cal cL.c (((v3.rows.take v2.toNat).drop 0),(v0.getD v2.toNat (Ty.zero .macRow)),()) λc3=>
 .ite c3 (.ret (.out ()))<|
 .ret (.next ())
noncomputable def qp:Ck.V→qo Ck Unit (Unit):=λ(v0,v1,v2,v3,_)=>⟨v2,(),λv2 _=>(v0,v1,v2,v3,()),λv2 _=>(decide (v2<v1)),pR v0 v3,up,1,(Int.toNat (v1-v2)),.inl,eR,oB .ret ⟨[zb 2],[]⟩ (λ_=>(false,())) (.exit 0) ⟨[zu 2],[]⟩ (λ_=>())⟩
theorem PU {v0:List MacRow}{v1 v2:Int}{v3:Mac}(h0:0≤v2)(h1:v1≤4611686018427387904)(h2:sL aG v0)(h3:cE v3)(h4:v1≤(v0.length:Int))(h5:v1≤(v3.rows.length:Int)):(qp (v0,v1,v2,v3,())).U v1 (λ_ _=>True) (λ_=>True):=
 jV h0 h1 trivial
noncomputable def jo:FT (Mac×Unit) (Bool) (λx=>cE x.1) (λx v=>(v=true→x.1.rows.length≤64)):= .mk (λ(x0,_)=>
  .ite (!x0.use) (.ret ((x0.rows.length:Int)==0))<|
  .bnd (β:=Bool×Unit) (.ite (x0.k != 0) (.ret (true,()))<|
   .ite (x0.l != 0) (.ret (true,()))<|
   .ret ((decide (64<(x0.rows.length:Int))),())) λ(u1a0,_)=>
  .ite u1a0 (.ret false)<|
  .lp (qp (x0.rows,(x0.rows.length:Int),0,x0,())).lp λw4=> .sum w4 (λ_=>
  .ret false)<|
  λ_=>
  .ret true) (pE @PU)
noncomputable def D7:=dV st Tryz.func161 [(0,lb [1,27,28,29] [2]),(3000003,rA 0 25)] [bB,mv] 0 qp (ks:=[.st .mac]) jo rB
noncomputable def XU:=[B9,gc,gb,ne,gy,Cf,Qp,TH,GG,Bx]
noncomputable def YR:Fx:=⟨247,Tryz.f247,[(3000001,rA 0 27)],0⟩
noncomputable def Hs:FT (Door×Tupl×Segm×Unit) (Door×List Segm×Int) (λx=>av x.1∧am x.2.2.1) (λx v=>av v.1∧sL am v.2.1):= .mk λ(x0,x1,x2,_)=>
  .bnd (β:=Bool×Unit) (.cal rM.c (x0,x1,x2,()) λc1=>
   .ite (!c1) (.ret (true,()))<|
   .cal d6.c (x0.table,x1,()) λc2=>
   .ret ((decide (0≤c2)),())) λ(u3a0,_)=>
  .ite u3a0 (.cal dT.c (x0,()) λc4=>
   .ret (c4,[],0))<|
  .cal iP.c (x0.halves,x1,()) λc5=>
  .ite (decide (0≤c5)) (.grd (cd x0.halves c5)<|
   .val (cQ.f ((x0.halves.getD c5.toNat (Ty.zero .half)).iss,1,())) λc6=>
   .ite (x2.ack != c6) (.cal lQ.c (x0,x2,()) λc7=>
    .ret (c7.1,c7.2.1,c7.2.2))<|
   .val (cQ.f ((x0.halves.getD c5.toNat (Ty.zero .half)).irs,1,())) λc8=>
   .ite (x2.seq != c8) (.cal dT.c (x0,()) λc9=>
    .ret (c9,[],0))<|
   .cal tM.c (x1,(x0.halves.getD c5.toNat (Ty.zero .half)).iss,(x0.halves.getD c5.toNat (Ty.zero .half)).irs,(x0.halves.getD c5.toNat (Ty.zero .half)).opts,x2.window,()) λc10=>
   .cal xt.c (x0,c10,x2,1,()) λc11=>
   .ret (c11.1,c11.2.1,c11.2.2))<|
  .val (cQ.f (x2.seq,(-1),())) λc12=>
  .val (cQ.f (x2.ack,(-1),())) λc13=>
  .cal oO.c (x0.keys,x1,c12,c13,()) λc14=>
  .ite (!c14.2.2) (.cal lQ.c (x0,x2,()) λc15=>
   .ret (c15.1,c15.2.1,c15.2.2))<|
  .cal kx.c (c14.2.1,x2.opts,()) λc16=>
  .cal tM.c (x1,c13,c12,c16,x2.window,()) λc17=>
  .cal xt.c (x0,c17,x2,2,()) λc18=>
  .ret (c18.1,c18.2.1,c18.2.2)
noncomputable def W1:=bK st YR XU [] (ks:=[.st .door,.st .tupl,.st .segm]) Hs (λv=>[(true,kK (.o true) (.o true) (.o true) (.o true) (.o true) v.1),(false,[sc (.o true) .segm v.2.1]),(false,[.c (.int .i64 v.2.2)])]) Tryz.func247 trivial
noncomputable def ey:FT (Door×Tupl×Segm×Unit) (Segm) (λx=>av x.1∧am x.2.2.1) (λx v=>am v):= .mk λ(x0,x1,x2,_)=>
  .cal nM.c (x0,x1,x2,()) λc1=>
  .val (bG.f (x2.seq,1,())) λc2=>
  .val (fY.f (x2.opts,x0.clock,())) λc3=>
  .ret (⟨x1.my,x1.port,c1,c2,18,32,c3,[]⟩:Segm)
noncomputable def Ur:=aN st Tryz.func311 [Od,fN,Dc] (ks:=[.st .door,.st .tupl,.st .segm]) ey (λv=>[(true,th v)])
noncomputable def DN:FT (Door×Tupl×Segm×Unit) (Segm) (λx=>av x.1∧am x.2.2.1) (λx v=>am v):= .mk λ(x0,x1,x2,_)=>
  .cal vN.c (x0,x1,x2,()) λc1=>
  .val (cQ.f (x2.seq,1,())) λc2=>
  .val (le.f (x2.opts,x0.clock,())) λc3=>
  .ret (⟨x1.my,x1.port,c1,c2,18,32,c3,[]⟩:Segm)
noncomputable def Uo:=aN st Tryz.func361 [PK,gy,Cu] (ks:=[.st .door,.st .tupl,.st .segm]) DN (λv=>[(true,th v)])
noncomputable def tR:FT (Conn×Tabl×Unit) (Bool) (λx=>aa x.1∧aM x.2.1) (λ_ _=>True):= .mk λ(x0,y1,_)=>
  .ite (x0.state==8) (.cal gU.c (y1.waiting,x0.tuple,()) λc1=>
   .ret (!c1))<|
  .ret false
noncomputable def E5:=uL st ⟨170,Tryz.f170,[],1⟩ [rg] [] [.st .conn,.wr false [.ptr 0]] [.box [.st .tabl]] (λx y=>(x.1,y.1.1,())) tR rB (λx y v=>((y.1.1,()),())) Tryz.func170 (by kernel_rfl) trivial
noncomputable def gR:=[E5]
def ck:Sh:=⟨[zo 0 0,(1,false,[.fn 170 [1]]),zi 7,zi 8],[.arr .conn false false,.box [.st .tabl [.sl .any,.sl .any]]]⟩
noncomputable def gN:Fx:=⟨173,Tryz.f173,[(0,la ⟨[0,1,7,8],[.softo 1 0,.softo 1 1],false,2⟩ ⟨[4],[],false,2⟩)],2⟩
noncomputable def fT (v2:List Conn)(v3:Tabl)(v1:Int)(a:Unit):Tr (Stp (Unit) ((Int))):=
 .grd (cd v2 v1)<|
 .cal tR.c ((v2.getD v1.toNat (Ty.zero .conn)),v3,()) λc2=>
 .ite c2 (.ret (.out v1))<|
 .ret (.next ())
noncomputable def bo:ck.V→qo ck Unit (Int):=λ(v0,v1,v2,v3,_)=>⟨v1,(),λv1 _=>(v0,v1,v2,v3,()),λv1 _=>(decide (v1<v0)),fT v2 v3,up,1,(Int.toNat (v0-v1)),.inl,eR,oB .ret ⟨[zi 4],[.arr .conn false false,.box [.st .tabl [.sl .any,.sl .any]]]⟩ (λp=>(p,v2,v3,())) (.exit 0) ⟨[zu 4],[.arr .conn false false,.box [.st .tabl [.sl .any,.sl .any]]]⟩ (λ_=>(v2,v3,()))⟩
theorem mw:LS Tryz.prog gN [0] (j8 0 ck bo):=eU st (aV gR) _ bo [] trivial
theorem mq {v0 v1:Int}{v2:List Conn}{v3:Tabl}(h0:0≤v1)(h1:v0≤4611686018427387904)(h2:sL aa v2)(h3:aM v3)(h4:v0≤(v2.length:Int)):(bo (v0,v1,v2,v3,())).U v0 (λ_ _=>True) (λp=>v1≤p∧p<v0):=
 jV h0 h1 trivial
noncomputable def dg:FT (List Conn×Tabl×Unit) (Int) (λx=>sL aa x.1∧aM x.2.1) (λx v=> -1≤v∧v<x.1.length):= .mk (λ(x0,y1_0,_)=>
  .lp (bo ((x0.length:Int),0,x0,y1_0,())).lp λw3=> .sum w3 (λp3a0=>
  .ret p3a0)<|
  λ_=>
  .ret (-1)) (pE @mq)
noncomputable def nV:=uL st gN gR [(j8 0 ck bo)] [.wr false [.own 0],.fn 170 [1]] [.arr .conn,.box [.st .tabl]] (λx y=>(y.1,y.2.1.1,())) dg rI (λx y v=>(y.1,(y.2.1.1,()),())) Tryz.func173 (by kernel_rfl) ⟨mw,trivial⟩
noncomputable def fv:FX (Stac×Int×Unit) (Int) (λ_=>True) (cJ [.st .stac,.sc (.int .i64)]):=⟨λ(x0,x1,_)=>
  .cal kO.c (x0.link,x1,()) λc1=>
  .ite (decide (c1<0)) (.ret (-1))<|
  .cal nn.c (x0.door,c1,()) λc2=>
  .ite (decide (c2<0)) (.ret (-1))<|
  .ret c2,
 λ(x0,x1,_) hp hf=>by
  simp only[cJ,Pk.fact,jt,hY,Fl.fact,Ty.fl,Ty.toH]at hf
  refine Tr.C trivial λ_ _ _=>Tr.I (λ_=>Tr.R trivial) λ_=>Tr.C trivial λ_ _ _=>Tr.F (by kernel_rfl) trivial⟩
theorem Mg (x:Stac)(k:Int)(h0:0≤k)(h1:k≤1048576)(hc:x.link.cache.length≤140737488355328)(n1:x.door.keys.now.rows.length≤140737488355328)(n2:PH .macRow x.door.keys.now.rows)(m1:x.door.keys.before.rows.length≤140737488355328)(m2:PH .macRow x.door.keys.before.rows)(hh:x.door.halves.length≤140737488355328)(hl:x.door.table.conns.length≤140737488355328)(he:PH .conn x.door.table.conns)(hw:x.door.table.waiting.length≤140737488355328)(h:0≤fv.f (x,k,())):fv.f (x,k,())≤k∧aW x:=by
 have e:fv.f (x,k,())=(bif decide (kO.f (x.link,k,())<0)then-1 else(bif decide (nn.f (x.door,kO.f (x.link,k,()),())<0)then-1 else nn.f (x.door,kO.f (x.link,k,()),()))):=by first|(simp only[FX.f,PX,fv];done)|(simp only[FX.f,PX,fv];rfl)
 rw[e]at h⊢
 obtain⟨p0,e0⟩:=pi h
 rw[e0]at h⊢
 obtain⟨p1,e1⟩:=pi h
 rw[e1]at h⊢
 have b0:=Zn _ _ h0 (by omega) hc p0
 have b1:=aaD _ _ p0 (by omega) n1 n2 m1 m2 hh hl he hw p1
 refine⟨by omega, ?_⟩
 have q0:=b0.2
 have q1:=b1.2
 unfold av at q1
 unfold aW
 exact⟨by omega,q1⟩
noncomputable def SY:=rF st Tryz.func31 [Uj,Ub] (ks:=[.st .stac,.sc (.int .i64)]) fv rI
noncomputable def qw:FT (Stac×Unit) (Stac) (λx=>aW x.1) (λx v=>aW v):= .mk λ(x0,_)=>
  .cal Ce.c (x0.link,()) λc1=>
  .cal Cj.c (x0.door,()) λc2=>
  .ret (⟨c1,c2⟩:Stac)
noncomputable def QJ:=aN st Tryz.func34 [UU,Uz] (ks:=[.st .stac]) qw (λv=>[(true,qS (.o true) (.o true) (.o true) (.o true) (.o true) (.o true) v)])
noncomputable def zG:FT (Stac×Stac×Unit) (Bool) (λx=>aW x.1∧aW x.2.1) (λ_ _=>True):= .mk λ(x0,x1,_)=>
  .cal CS.c (x0.link,x1.link,()) λc1=>
  .ite (!c1) (.ret false)<|
  .cal Cz.c (x0.door,x1.door,()) λc2=>
  .ite (!c2) (.ret false)<|
  .ret true
noncomputable def R0:=aN st Tryz.func37 [Um,Vl] (ks:=[.st .stac,.st .stac]) zG rB
noncomputable def Ym:=[bB,D7,FA,ml]
noncomputable def XO:Fx:=⟨67,Tryz.f67,[(3000007,rA 0 24),(3000009,rA 0 38),(3000011,rA 0 49),(3000012,rA 0 49)],0⟩
noncomputable def r8:FT (Acti×Unit) (Bool) (λx=>cU x.1) (λ_ _=>True):= .mk λ(x0,_)=>
  .val (a9.f (x0.kind,5,8,())) λc1=>
  .val (a9.f (x0.kind,1,8,())) λc2=>
  .ite (!c2) (.ite (!c2) (.ret false)<|
   .bnd (β:=Bool×Unit) (.ite (!(x0.text==[])) (.ite (x0.kind != 1) (.ret ((x0.kind != 5),()))<|
     .ret (false,()))<|
    .ret (false,())) λ(u3a0,_)=>
   .ite u3a0 (.ret false)<|
   .bnd (β:=Bool×Unit) (.ite (x0.kind != 3) (.cal fu.c (x0.mac,(⟨false,0,0,[]⟩:Mac),()) λc4=>
     .ret ((!c4),()))<|
    .ret (false,())) λ(u5a0,_)=>
   .ite u5a0 (.ret false)<|
   .bnd (β:=Bool×Unit) (.ite c1 (.cal az.c (x0.tuple,()) λc6=>
     .ret ((!c6),()))<|
    .ret (false,())) λ(u7a0,_)=>
   .ite u7a0 (.ite u7a0 (.ret false)<|
    .ite (x0.n==0) (.ret true)<|
    .ret (x0.kind==6))<|
   .bnd (β:=Bool×Unit) (.ite (!c1) (.ret ((!((x0.tuple.ip==0)&&((x0.tuple.port==0)&&((x0.tuple.my==0)&&true)))),()))<|
    .ret (false,())) λ(u8a0,_)=>
   .ite u8a0 (.ret false)<|
   .ite (x0.n==0) (.ret true)<|
   .ret (x0.kind==6))<|
  .ite (decide (1600<(x0.text.length:Int))) (.ite (decide (1600<(x0.text.length:Int))) (.ret false)<|
   .bnd (β:=Bool×Unit) (.ite (!(x0.text==[])) (.ite (x0.kind != 1) (.ret ((x0.kind != 5),()))<|
     .ret (false,()))<|
    .ret (false,())) λ(u9a0,_)=>
   .ite u9a0 (.ret false)<|
   .bnd (β:=Bool×Unit) (.ite (x0.kind != 3) (.cal fu.c (x0.mac,(⟨false,0,0,[]⟩:Mac),()) λc10=>
     .ret ((!c10),()))<|
    .ret (false,())) λ(u11a0,_)=>
   .ite u11a0 (.ret false)<|
   .bnd (β:=Bool×Unit) (.ite c1 (.cal az.c (x0.tuple,()) λc12=>
     .ret ((!c12),()))<|
    .ret (false,())) λ(u13a0,_)=>
   .ite u13a0 (.ite u13a0 (.ret false)<|
    .ite (x0.n==0) (.ret true)<|
    .ret (x0.kind==6))<|
   .bnd (β:=Bool×Unit) (.ite (!c1) (.ret ((!((x0.tuple.ip==0)&&((x0.tuple.port==0)&&((x0.tuple.my==0)&&true)))),()))<|
    .ret (false,())) λ(u14a0,_)=>
   .ite u14a0 (.ret false)<|
   .ite (x0.n==0) (.ret true)<|
   .ret (x0.kind==6))<|
  .cal jo.c (x0.mac,()) λc15=>
  .ite (!c15) (.ite (!c15) (.ret false)<|
   .bnd (β:=Bool×Unit) (.ite (!(x0.text==[])) (.ite (x0.kind != 1) (.ret ((x0.kind != 5),()))<|
     .ret (false,()))<|
    .ret (false,())) λ(u16a0,_)=>
   .ite u16a0 (.ret false)<|
   .bnd (β:=Bool×Unit) (.ite (x0.kind != 3) (.cal fu.c (x0.mac,(⟨false,0,0,[]⟩:Mac),()) λc17=>
     .ret ((!c17),()))<|
    .ret (false,())) λ(u18a0,_)=>
   .ite u18a0 (.ret false)<|
   .bnd (β:=Bool×Unit) (.ite c1 (.cal az.c (x0.tuple,()) λc19=>
     .ret ((!c19),()))<|
    .ret (false,())) λ(u20a0,_)=>
   .ite u20a0 (.ite u20a0 (.ret false)<|
    .ite (x0.n==0) (.ret true)<|
    .ret (x0.kind==6))<|
   .bnd (β:=Bool×Unit) (.ite (!c1) (.ret ((!((x0.tuple.ip==0)&&((x0.tuple.port==0)&&((x0.tuple.my==0)&&true)))),()))<|
    .ret (false,())) λ(u21a0,_)=>
   .ite u21a0 (.ret false)<|
   .ite (x0.n==0) (.ret true)<|
   .ret (x0.kind==6))<|
  .val (a9.f (x0.n,0,65535,())) λc22=>
  .ite (!c22) (.ret false)<|
  .bnd (β:=Bool×Unit) (.ite (!(x0.text==[])) (.ite (x0.kind != 1) (.ret ((x0.kind != 5),()))<|
    .ret (false,()))<|
   .ret (false,())) λ(u23a0,_)=>
  .ite u23a0 (.ret false)<|
  .bnd (β:=Bool×Unit) (.ite (x0.kind != 3) (.cal fu.c (x0.mac,(⟨false,0,0,[]⟩:Mac),()) λc24=>
    .ret ((!c24),()))<|
   .ret (false,())) λ(u25a0,_)=>
  .ite u25a0 (.ret false)<|
  .bnd (β:=Bool×Unit) (.ite c1 (.cal az.c (x0.tuple,()) λc26=>
    .ret ((!c26),()))<|
   .ret (false,())) λ(u27a0,_)=>
  .ite u27a0 (.ite u27a0 (.ret false)<|
   .ite (x0.n==0) (.ret true)<|
   .ret (x0.kind==6))<|
  .bnd (β:=Bool×Unit) (.ite (!c1) (.ret ((!((x0.tuple.ip==0)&&((x0.tuple.port==0)&&((x0.tuple.my==0)&&true)))),()))<|
   .ret (false,())) λ(u28a0,_)=>
  .ite u28a0 (.ret false)<|
  .ite (x0.n==0) (.ret true)<|
  .ret (x0.kind==6)
noncomputable def Xy:=bK st XO Ym [] (ks:=[.st .acti]) r8 rB Tryz.func67 trivial
noncomputable def UI:=[bB,D7,FA]
def Lt:An:=⟨⟨[],[],false,0⟩,⟨[1,2,3],[],false,0⟩,⟨[],[]⟩,[(.normal,⟨[zp 1 0,zb 2,zi 3],[.box [.st .keys [.sl .arg,.sl .arg]]]⟩)]⟩
noncomputable def UA:Fx:=⟨156,Tryz.f156,[(1000005,Lt)],0⟩
noncomputable def dZ:FT (Keys×Unit) (Bool) (λx=>cK x.1) (λx v=>(v=true→0≤x.1.epoch∧x.1.epoch≤4294967295)):= .mk λ(x0,_)=>
  .bnd (β:=Bool×Int×Keys×Unit) (.as (λw=>cK w.2.2.1∧0≤w.2.1∧w.2.2.1=x0) (.ite x0.two (.ret (false,1,x0,()))<|
   .ret (false,0,x0,()))) λ(_,u1a1,u1a2,_)=>
  .val (a9.f (u1a2.epoch,u1a1,4294967295,())) λc2=>
  .ite c2 (.cal jo.c (u1a2.now,()) λc3=>
   .ite c3 (.cal jo.c (u1a2.before,()) λc4=>
    .ite c4 (.ite u1a2.two (.ret true)<|
     .cal fu.c (u1a2.before,(⟨false,0,0,[]⟩:Mac),()) λc5=>
     .ret c5)<|
    .ret false)<|
   .ret false)<|
  .ret false
noncomputable def BL:=bK st UA UI [] (ks:=[.st .keys]) dZ rB Tryz.func156 trivial
noncomputable def QM:=[AF,BL,D7,vF]
noncomputable def P7:Fx:=⟨167,Tryz.f167,[(3000002,rA 0 20)],0⟩
noncomputable def oe:FT (Keys×Mac×Unit) (Keys) (λx=>cK x.1∧cE x.2.1) (λx v=>cK v):= .mk λ(x0,x1,_)=>
  .cal oT.c (x0,()) λc1=>
  .bnd (β:=Bool×Unit) (.as (λw=>(w.1=false→0≤x0.epoch∧x0.epoch≤4294967295∧x1.rows.length≤64)) (.cal dZ.c (x0,()) λc2=>
   .ite (!c2) (.ret (true,()))<|
   .cal jo.c (x1,()) λc3=>
   .ite (!c3) (.ret (true,()))<|
   .ret ((x0.epoch==4294967295),()))) λ(u4a0,_)=>
  .ite u4a0 (.ret c1)<|
  .cal jP.c (x1,()) λc5=>
  .ret (⟨(IntKind.wrap .i64 (x0.epoch+1)),c5,c1.now,true⟩:Keys)
noncomputable def Sf:=bK st P7 QM [] (ks:=[.st .keys,.st .mac]) oe (λv=>[(true,IP (.o true) (.o true) v)]) Tryz.func167 trivial
def rS:Sh:=⟨[zi 2,zi 3,zp 4 0,zp 5 1,zi 12,zi 14],[.box [.st .keys [.sl .arg,.sl .arg]],zx .tupl]⟩
noncomputable def rG (v0 v1 v2:Int)(v4:Keys)(v5:Tupl)(v3:Int)(a:Unit):Tr (Stp (Unit) ((Int))):=
 .cal nH.c (v4,v3,()) λc5=>
 .bnd (β:=Bool×Unit) (.ite c5.2 (.cal jA.c (c5.1,v5,v0,v3,v2,()) λc6=>
   .ret ((c6==v1),()))<|
  .ret (false,())) λ(u7a0,_)=>
 .ite u7a0 (.ret (.out v3))<|
 .ret (.next ())
noncomputable def iH:rS.V→qo rS Unit (Int):=λ(v0,v1,v2,v3,v4,v5,_)=>⟨v3,(),λv3 _=>(v0,v1,v2,v3,v4,v5,()),λv3 _=>(decide ((if 0<(IntKind.wrap .i64 (v4.epoch-1))then(IntKind.wrap .i64 (v4.epoch-1))else 0)≤v3)),rG v0 v1 v2 v4 v5,dn,(-1),(Int.toNat (v3-(if 0<(IntKind.wrap .i64 (v4.epoch-1))then(IntKind.wrap .i64 (v4.epoch-1))else 0)+1)),.inl,eR,oB .ret ⟨[zi 8,zi 9,zb 10],[]⟩ (λp=>(p,v2,true,())) (.exit 0) ⟨[zu 8,zu 9,zu 10],[]⟩ (λ_=>())⟩
theorem Bm {v0 v1 v2 v3:Int}{v4:Keys}{v5:Tupl}(h0:v3≤9223372036854775807)(h1:0≤(if 0<(IntKind.wrap .i64 (v4.epoch-1))then(IntKind.wrap .i64 (v4.epoch-1))else 0))(h2:cK v4):(iH (v0,v1,v2,v3,v4,v5,())).D (if 0<(IntKind.wrap .i64 (v4.epoch-1))then(IntKind.wrap .i64 (v4.epoch-1))else 0) (λ_ _=>True) (λ_=>True):=
 lcD h0 h1 trivial
noncomputable def bC:FT (Keys×Tupl×Int×Int×Unit) (Int×Int×Bool) (λx=>cK x.1) (λ_ _=>True):= .mk (λ(x0,x1,x2,x3,_)=>
  .bnd (β:=Bool×Unit) (.as (λw=>(w.1=false→0≤x0.epoch∧x0.epoch≤4294967295)) (.cal dZ.c (x0,()) λc1=>
   .ite (!c1) (.ret (true,()))<|
   .cal af.c (x3,32,()) λc2=>
   .ret ((!c2),()))) λ(u3a0,_)=>
  .ite u3a0 (.ret (0,0,false))<|
  .cal gt.c (x3,()) λc4=>
  .lp (iH (x2,x3,c4.2.1,x0.epoch,x0,x1,())).lp λw8=> .sum w8 (λp8a0=>
  .ret (p8a0,c4.2.1,true))<|
  λ_=>
  .ret (0,0,false)) (pE @Bm)
noncomputable def Hc:=dV st Tryz.func192 [(0,lb [2,3,4,5,12,14] [8,9,10]),(3000001,rA 0 24),(3000008,rA 0 57)] [BL,bN,F5,Nl,C4] 0 iH (ks:=[.st .keys,.st .tupl,.sc (.int .i64),.sc (.int .i64)]) bC (λv=>[(false,[.c (.int .i64 v.1)]),(false,[.c (.int .i64 v.2.1)]),(false,[.c (.bool v.2.2)])])
noncomputable def Hl:FT (Door×Tupl×Segm×Unit) (Door×List Segm) (λx=>av x.1∧am x.2.2.1) (λx v=>av v.1∧sL am v.2):= .mk λ(x0,x1,x2,_)=>
  .cal dT.c (x0,()) λc1=>
  .cal rM.c (x0,x1,x2,()) λc2=>
  .ite (!c2) (.ret (c1,[]))<|
  .cal DN.c (x0,x1,x2,()) λc3=>
  .cal iP.c (x0.halves,x1,()) λc4=>
  .ite (decide (0≤c4)) (.grd (cd x0.halves c4)<|
   .ite ((x0.halves.getD c4.toNat (Ty.zero .half)).irs != x2.seq) (.ret (c1,[]))<|
   .grd (cd x0.halves c4)<|
   .ret (c1,[({c3 with seq:=(x0.halves.getD c4.toNat (Ty.zero .half)).iss}:Segm)]))<|
  .cal d6.c (x0.table,x1,()) λc5=>
  .ite (decide (c5<0)) (.val (oo.f (x2.opts,())) λc6=>
   .cal zW.c (c1.halves,(⟨x1,c3.seq,x2.seq,c6,0,x2.window⟩:Half),x0.limits.halves,()) λc7=>
   .ret (({c1 with halves:=c7.1}:Door),[c3]))<|
  .ret (c1,[c3])
noncomputable def W0:=aN st Tryz.func246 [gb,B9,Uo,ne,gc,Ga,S2] (ks:=[.st .door,.st .tupl,.st .segm]) Hl (λv=>[(true,kK (.o true) (.o true) (.o true) (.o true) (.o true) v.1),(false,[sc (.o true) .segm v.2])])
noncomputable def io:=[nV,E5]
def cz:Sh:=⟨[zo 0 0,(1,false,[.fn 170 [1]]),zi 5,zi 6],[.arr .conn false false,.box [.st .tabl [.sl .any,.sl .any]]]⟩
noncomputable def ij:Fx:=⟨169,Tryz.f169,[(0,la ⟨[0,1,5,6],[],false,2⟩ ⟨[0,4,5],[],false,2⟩)],2⟩
noncomputable def dR (v3:Tabl)(v1:Int)(a:Int×List Conn):Tr (Stp (Int×List Conn) (Empty)):=
 .grd (cd a.2 v1)<|
 .cal tR.c ((a.2.getD v1.toNat (Ty.zero .conn)),v3,()) λc2=>
 .ite (!c2) (.grd (cd a.2 a.1)<|
  .ret (.next ((IntKind.wrap .i64 (a.1+1)),(a.2.set a.1.toNat (a.2.getD v1.toNat (Ty.zero .conn))))))<|
 .ret (.next (a.1,a.2))
noncomputable def aC:cz.V→tF cz (Int×List Conn):=λ(v0,v1,v2,v3,_)=>⟨v1,(v0,v2),λv1 a=>(a.1,v1,a.2,v3,()),λv1 a=>(decide (v1<(a.2.length:Int))),dR v3,up,1,(Int.toNat ((v2.length:Int)-v1)),Empty.elim,Prod.mk,oN (.exit 0) ⟨[zo 0 0,zu 4,zi 5],[.arr .conn false false,.box [.st .tabl [.sl .any,.sl .any]]]⟩ (λx=>(x.2.1,x.2.2,v3,()))⟩
theorem nm:LS Tryz.prog ij [0] (j8 0 cz aC):=eU st (aV io) _ aC [] trivial
theorem mD {v0 v1:Int}{v2:List Conn}{v3:Tabl}(h0:0≤v1)(h1:(v2.length:Int)≤4611686018427387904)(h2:aM v3)(h3:sL aa v2)(h4:v2.length=v2.length∧cT aa v2∧0≤v0∧v0<v1∧v0<v2.length):(aC (v0,v1,v2,v3,())).S (λv1 a=>a.2.length=v2.length∧a.2.length=v2.length∧cT aa a.2∧0≤a.1∧a.1<v1∧a.1<a.2.length) (λ_=>True):=by
 refine LC.okS ⟨rfl,h4⟩ (λj a hj hv=>⟨⟨?_, ?_⟩, ?_⟩) (λa hv=> ?_)
 ·simp only[aC,decide_eq_true_eq]at*;omega
 ·simp only[aC]at*;exact upw (by omega) (by omega)
 ·refine Tr.G2 ?_ λ_=>Tr.C ?_ λ_ _ _=>Tr.I (λ_=>Tr.G2 ?_ λ_=>Tr.Rn ?_) λ_=>Tr.Rn ?_
  all_goals (try simp only[aC]at*)<;>(grind)
 ·simp only[aC,decide_eq_false_iff_not]at*;omega
noncomputable def cC:FT (List Conn×Tabl×Unit) (Nat×List Conn) (λx=>sL aa x.1∧aM x.2.1) (λx v=>sL aa v.2∧v.1≤x.1.length∧v.2.length=x.1.length):=⟨λ(x0,y1_0,_)=>
  .cal dg.c (x0,y1_0,()) λc1=>
  .ite (c1==(-1)) (.ret (x0.length,x0))<|
  .lp (aC (c1,(IntKind.wrap .i64 (c1+1)),x0,y1_0,())).lp λ(_,a3_0,a3_1)=>
  .grd (KV a3_1 a3_0 (a3_1.length:Int))<|
  .val ((a3_1.take a3_0.toNat++List.replicate ((a3_1.length:Int).toNat-a3_0.toNat) (Ty.zero .conn))++a3_1.drop ((a3_1.length:Int).toNat)) λl4=>
  .grd ((decide (0≤a3_0))&&(decide (a3_0≤(l4.length:Int))))<|
  .ret (a3_0.toNat,l4),
 λ(x0,y1_0,_) hp=>by
  refine Tr.C ?_ λc1 hc1 qc1=>Tr.I (λb0=>Tr.R ?_) λb0=>Tr.L (mD ?_ ?_ ?_ ?_ ?_) (λ(a3_0,a3_1) i3=>Tr.G3 ?_ λg1=>Tr.V λl4 hl4=>Tr.G2 ?_ λg2=>Tr.R ?_) (λp=>Empty.elim p)
  all_goals ((try simp only[aC,LC.lp,LC.ct,Ct.lp]at*)<;>(first|grind|(have hz:aa (Ty.zero .conn):=(by unfold aa;(repeat' apply And.intro);all_goals first|exact λ_ h=>absurd h (List.not_mem_nil)|decide+kernel);grind)))⟩
noncomputable def oY:=uL st ij io [(j8 0 cz aC)] [.wr false [.own 0],.fn 170 [1]] [.arr .conn,.box [.st .tabl]] (λx y=>(y.1,y.2.1.1,())) cC (λv=>[(false,[.shr 0 v.1])]) (λx y v=>(v.2,(y.2.1.1,()),())) Tryz.func169 (by kernel_rfl) ⟨nm,trivial⟩
noncomputable def jX:FT (Door×Mac×Unit) (Door) (λx=>av x.1∧cE x.2.1) (λx v=>av v):= .mk λ(x0,x1,_)=>
  .cal gk.c (x0,()) λc1=>
  .cal oe.c (x0.keys,x1,()) λc2=>
  .ret (⟨c1.port,c1.clock,c2,c1.limits,c1.halves,c1.table,c1.chal⟩:Door)
noncomputable def Lf:=aN st Tryz.func70 [jg,Sf] (ks:=[.st .door,.st .mac]) jX (λv=>[(true,kK (.o true) (.o true) (.o true) (.o true) (.o true) v)])
noncomputable def Yw:=[uJ,bQ,kN,gb,FE,gc,Cf,S4,z8,ne,gy,CU,W0,W1]
def AD:An:=⟨⟨[],[],false,0⟩,⟨[3,6,7,8,9,12],[],false,0⟩,⟨[],[]⟩,[(.normal,⟨[zp 3 0,zp 6 1,(7,false,[.nil]),zi 8,zo 9 2,zp 12 3],[.box [.st .door [.sl .arg,.sl .arg,.sl .arg,.sl .arg,.sl .arg]],.box [.st .door [.nil .macRow,.nil .macRow,.nil .half,.nil .conn,.nil .tupl]],za .segm,.box [.st .door [.own 4,.own 5,.own 6,.own 7,.own 8]],zf,zf,zf,zf,zf]⟩)]⟩
noncomputable def Xh:Fx:=⟨131,Tryz.f131,[(1000084,AD),(3000002,rA 0 29),(3000013,rA 0 84),(3000016,rA 0 92),(3000019,rA 0 114)],0⟩
noncomputable def Hp:FT (Door×Int×Segm×Unit) (Door×List Segm×Int) (λx=>av x.1∧am x.2.2.1) (λx v=>av v.1∧sL am v.2.1):= .mk λ(x0,x1,x2,_)=>
  .bnd (β:=Bool×Unit) (.as (λw=>(w.1=false→x0.table.conns.length≤16∧x2.body.length≤1420)) (.cal rk.c (x0,()) λc1=>
   .ite (!c1) (.ret (true,()))<|
   .cal aD.c (x1,32,()) λc2=>
   .ite (!c2) (.ret (true,()))<|
   .cal im.c (x2,()) λc3=>
   .ret ((!c3),()))) λ(u4a0,_)=>
  .ite u4a0 (.cal dT.c (x0,()) λc5=>
   .ret (c5,[],0))<|
  .val (uC.f (x1,x2,())) λc6=>
  .cal d6.c (x0.table,c6,()) λc7=>
  .ite (x2.to != x0.port) (.cal lQ.c (x0,x2,()) λc8=>
   .ret (c8.1,c8.2.1,c8.2.2))<|
  .ite (decide (0≤c7)) (.cal zy.c (x0,c7,x2,()) λc9=>
   .ret (c9.1,c9.2.1,c9.2.2))<|
  .val (gF.f (x2,4,())) λc10=>
  .ite c10 (.cal dT.c (x0,()) λc11=>
   .cal iP.c (x0.halves,c6,()) λc12=>
   .bnd (β:=Bool×Unit) (.ite (decide (0≤c12)) (.grd (cd x0.halves c12)<|
     .val (cQ.f ((x0.halves.getD c12.toNat (Ty.zero .half)).irs,1,())) λc13=>
     .ret ((x2.seq==c13),()))<|
    .ret (false,())) λ(u14a0,_)=>
   .bnd (β:=WT AD.es) (.as (λw=>av w.2.1∧av w.2.2.1∧sL am w.2.2.2.1∧av w.2.2.2.2.1) (.ite u14a0 (.cal rQ.c (x0.halves,c6,()) λc15=>
     .ret (0,x0,(⟨0,0,⟨0,⟨false,0,0,[]⟩,⟨false,0,0,[]⟩,false⟩,⟨0,0,0,0⟩,[],⟨[],[]⟩,0⟩:Door),[],({c11 with halves:=c15}:Door),()))<|
    .ret (0,x0,(⟨0,0,⟨0,⟨false,0,0,[]⟩,⟨false,0,0,[]⟩,false⟩,⟨0,0,0,0⟩,[],⟨[],[]⟩,0⟩:Door),[],c11,()))) λ(_,_,_,u16a3,u16a4,_)=>
   .ret (u16a4,u16a3,0))<|
  .bnd (β:=Bool×Unit) (.val (gF.f (x2,2,())) λc17=>
   .ite c17 (.val (gF.f (x2,16,())) λc18=>
    .ite (!c18) (.val (gF.f (x2,1,())) λc19=>
     .ret ((!c19),()))<|
    .ret (false,()))<|
   .ret (false,())) λ(u20a0,_)=>
  .ite u20a0 (.cal Hl.c (x0,c6,x2,()) λc21=>
   .ret (c21.1,c21.2,0))<|
  .bnd (β:=Bool×Unit) (.val (gF.f (x2,16,())) λc22=>
   .ite c22 (.val (gF.f (x2,2,())) λc23=>
    .ret ((!c23),()))<|
   .ret (false,())) λ(u24a0,_)=>
  .ite u24a0 (.cal Hs.c (x0,c6,x2,()) λc25=>
   .ret (c25.1,c25.2.1,c25.2.2))<|
  .val (gF.f (x2,16,())) λc26=>
  .ite c26 (.cal lQ.c (x0,x2,()) λc27=>
   .ret (c27.1,c27.2.1,c27.2.2))<|
  .cal dT.c (x0,()) λc28=>
  .ret (c28,[],0)
noncomputable def Xk:=bK st Xh Yw [] (ks:=[.st .door,.sc (.int .i64),.st .segm]) Hp (λv=>[(true,kK (.o true) (.o true) (.o true) (.o true) (.o true) v.1),(false,[sc (.o true) .segm v.2.1]),(false,[.c (.int .i64 v.2.2)])]) Tryz.func131 trivial
noncomputable def Sa:=[ya,xv,V4,wU,Xk,xR]
noncomputable def S9:Fx:=⟨51,Tryz.f51,[(3000009,rA 0 55),(4000000,la ⟨[],[],false,0⟩ ⟨[],[.softb 4 2],false,0⟩)],0⟩
noncomputable def t8:FT (Stac×ae×Unit) (Stac×List ae×Int) (λx=>aW x.1∧sS x.2.1) (λx v=>aW v.1∧sL sS v.2.1):= .mk λ(x0,x1,_)=>
  .cal qt.c (x0,()) λc1=>
  .cal nN.c (x0,()) λc2=>
  .ite (!c2) (.ret (c1,[],0))<|
  .cal BT.c (x0.link,x1,()) λc3=>
  .ite (c3.2.1==1) (.ret (({c1 with link.mac:=c3.1.mac,link.ip:=c3.1.ip,link.cache:=c3.1.cache}:Stac),[c3.2.2.2],0))<|
  .cal jf.c (c3.2.2.1.body,c3.2.2.1.src,c3.2.2.1.dst,()) λc4=>
  .bnd (β:=Bool×Unit) (.ite (c3.2.1 != 2) (.ret (true,()))<|
   .ret ((!c4.2),())) λ(u5a0,_)=>
  .ite u5a0 (.ret (({c1 with link.mac:=c3.1.mac,link.ip:=c3.1.ip,link.cache:=c3.1.cache}:Stac),[],0))<|
  .cal Hp.c (x0.door,c3.2.2.1.src,c4.1,()) λc6=>
  .cal qv.c ((⟨c3.1,c6.1⟩:Stac),c3.2.2.1.src,c6.2.1,()) λc7=>
  .ret ((⟨c3.1,c6.1⟩:Stac),c7,c6.2.2)
noncomputable def Qr:=bK st S9 Sa [] (ks:=[.st .stac,.sc .str]) t8 (λv=>[(true,qS .c (.o true) (.o true) (.o true) (.o true) (.o true) v.1),(false,[sc (.o true) .str v.2.1]),(false,[.c (.int .i64 v.2.2)])]) Tryz.func51 trivial
noncomputable def Z9:=[ya,xv,X7,Qr,Lc,Lg,GP,EF,R8]
noncomputable def aaq:Fx:=⟨14,Tryz.f14,[(3000002,rA 0 24),(4000000,la ⟨[],[],false,0⟩ ⟨[],[.softb 4 2,.softb 4 9,.softb 4 13,.softb 4 19,.softb 4 20,.softb 4 21],false,0⟩)],0⟩
noncomputable def JQ:FT (Stac×Acti×Unit) (Stac×Resu) (λx=>aW x.1∧cU x.2.1) (λx v=>aW v.1∧mR v.2):= .mk λ(x0,x1,_)=>
  .cal qt.c (x0,()) λc1=>
  .bnd (β:=Bool×Unit) (.as (λw=>(w.1=false→x0.door.table.conns.length≤16)) (.cal nN.c (x0,()) λc2=>
   .ite (!c2) (.ret (true,()))<|
   .cal CB.c (x1,()) λc3=>
   .ret ((!c3),()))) λ(u4a0,_)=>
  .ite u4a0 (.ret (c1,(⟨[],0,⟨0,0,0⟩,0,[],false⟩:Resu)))<|
  .ite (x1.kind==1) (.cal t8.c (x0,x1.text,()) λc5=>
   .ret (c5.1,(⟨c5.2.1,c5.2.2,⟨0,0,0⟩,0,[],true⟩:Resu)))<|
  .ite (x1.kind==2) (.cal sH.c (x0,()) λc6=>
   .ret (c6.1,(⟨c6.2,0,⟨0,0,0⟩,0,[],true⟩:Resu)))<|
  .ite (x1.kind==3) (.cal su.c (x0.door,x1.mac,()) λc7=>
   .ret ((⟨c1.link,c7⟩:Stac),(⟨[],0,⟨0,0,0⟩,0,[],true⟩:Resu)))<|
  .ite (x1.kind==4) (.cal oD.c (x0.door.table,()) λc8=>
   .cal zm.c (c8.1,()) λc9=>
   .ret (({c1 with door.table.conns:=c9.conns,door.table.waiting:=c9.waiting}:Stac),(⟨[],0,c8.2.1,0,[],c8.2.2⟩:Resu)))<|
  .cal z7.c (c1,x1,()) λc10=>
  .ret (c10.1,c10.2)
noncomputable def Zb:=bK st aaq Z9 [] (ks:=[.st .stac,.st .acti]) JQ (λv=>[(true,qS .c .c .c .c .c .c v.1),(true,N5 (.o true) v.2)]) Tryz.func14 trivial
noncomputable def pT:FT (Stac×Acti×Unit) (Issu×Bool) (λx=>aW x.1∧cU x.2.1) (λ_ _=>True):= .mk λ(x0,x1,_)=>
  .cal JQ.c (x0,x1,()) λc1=>
  .ite (c1.2.made != 2) (.ret ((⟨⟨0,0,0⟩,0,0⟩:Issu),false))<|
  .cal zB.c (x1.text,()) λc2=>
  .val (uC.f (c2.1.src,c2.2.1,())) λc3=>
  .val (cQ.f (c2.2.1.seq,(-1),())) λc4=>
  .val (cQ.f (c2.2.1.ack,(-1),())) λc5=>
  .ret ((⟨c3,c4,c5⟩:Issu),true)
noncomputable def J8:=aN st Tryz.func33 [Zb,Tc,FE,gy] (ks:=[.st .stac,.st .acti]) pT (λv=>[(true,TK v.1),(false,[.c (.bool v.2)])])
noncomputable def BA:FT (Half×Door×Unit) (Bool) (λx=>av x.2.1) (λ_ _=>True):= .mk λ(x0,y1,_)=>
  .cal ar.c (y1.table,x0.tuple,()) λc1=>
  .ret (decide (0≤c1))
noncomputable def PL:=uL st ⟨160,Tryz.f160,[],1⟩ [gg] [] [.st .half,.wr false [.ptr 0]] [.box [.st .door]] (λx y=>(x.1,y.1.1,())) BA rB (λx y v=>((y.1.1,()),())) Tryz.func160 (by kernel_rfl) trivial
noncomputable def il:=[PL]
def cA:Sh:=⟨[zl 0 .half,(1,false,[.fn 160 [0]]),zi 7,zi 8],[.box [.st .door [.sl .any,.sl .any,.sl .any,.sl .any,.sl .any]]]⟩
noncomputable def ik:Fx:=⟨273,Tryz.f273,[(0,la ⟨[0,1,7,8],[.softo 0 6,.softo 0 10,.softo 0 16,.softo 0 17,.softo 0 18],false,1⟩ ⟨[4],[],false,1⟩)],1⟩
noncomputable def gl (v0:List Half)(v3:Door)(v2:Int)(a:Unit):Tr (Stp (Unit) ((Int))):=
 .grd (cd v0 v2)<|
 .cal BA.c ((v0.getD v2.toNat (Ty.zero .half)),v3,()) λc2=>
 .ite c2 (.ret (.out v2))<|
 .ret (.next ())
noncomputable def bv:cA.V→qo cA Unit (Int):=λ(v0,v1,v2,v3,_)=>⟨v2,(),λv2 _=>(v0,v1,v2,v3,()),λv2 _=>(decide (v2<v1)),gl v0 v3,up,1,(Int.toNat (v1-v2)),.inl,eR,oB .ret ⟨[zi 4],[.box [.st .door [.sl .any,.sl .any,.sl .any,.sl .any,.sl .any]]]⟩ (λp=>(p,v3,())) (.exit 0) ⟨[zu 4],[.box [.st .door [.sl .any,.sl .any,.sl .any,.sl .any,.sl .any]]]⟩ (λ_=>(v3,()))⟩
theorem nB:LS Tryz.prog ik [0] (j8 0 cA bv):=eU st (aV il) _ bv [] trivial
theorem nC {v0:List Half}{v1 v2:Int}{v3:Door}(h0:0≤v2)(h1:v1≤4611686018427387904)(h2:sS v0)(h3:av v3)(h4:v1≤(v0.length:Int)):(bv (v0,v1,v2,v3,())).U v1 (λ_ _=>True) (λp=>v2≤p∧p<v1):=
 jV h0 h1 trivial
noncomputable def fm:FT (List Half×Door×Unit) (Int) (λx=>sS x.1∧av x.2.1) (λx v=> -1≤v∧v<x.1.length):= .mk (λ(x0,y1_0,_)=>
  .lp (bv (x0,(x0.length:Int),0,y1_0,())).lp λw3=> .sum w3 (λp3a0=>
  .ret p3a0)<|
  λ_=>
  .ret (-1)) (pE @nC)
noncomputable def pd:=uL st ik il [(j8 0 cA bv)] [.sc (.sl .half),.fn 160 [0]] [.box [.st .door]] (λx y=>(x.1,y.1.1,())) fm rI (λx y v=>((y.1.1,()),())) Tryz.func273 (by kernel_rfl) ⟨nB,trivial⟩
noncomputable def cV:FT (List Half×Door×Unit) (Bool) (λx=>sS x.1∧av x.2.1) (λ_ _=>True):= .mk λ(x0,y1_0,_)=>
  .cal fm.c (x0,y1_0,()) λc1=>
  .ret (decide (0≤c1))
noncomputable def nu:=uL st ⟨159,Tryz.f159,[],1⟩ [pd] [] [.sc (.sl .half),.fn 160 [0]] [.box [.st .door]] (λx y=>(x.1,y.1.1,())) cV rB (λx y v=>((y.1.1,()),())) Tryz.func159 (by kernel_rfl) trivial
noncomputable def tV:FT (Tupl×Tabl×Unit) (Bool) (λx=>aM x.2.1) (λ_ _=>True):= .mk λ(x0,y1,_)=>
  .cal ar.c (y1,x0,()) λc1=>
  .ret (decide (c1<0))
noncomputable def Fv:=uL st ⟨172,Tryz.f172,[],1⟩ [gg] [] [.st .tupl,.wr false [.ptr 0]] [.box [.st .tabl]] (λx y=>(x.1,y.1.1,())) tV rB (λx y v=>((y.1.1,()),())) Tryz.func172 (by kernel_rfl) trivial
noncomputable def gG:=[Fv]
def cb:Sh:=⟨[zo 0 0,(1,false,[.fn 172 [1]]),zi 7,zi 8],[.arr .tupl false false,.box [.st .tabl [.sl .any,.sl .any]]]⟩
noncomputable def gH:Fx:=⟨287,Tryz.f287,[(0,la ⟨[0,1,7,8],[.softo 1 0,.softo 1 1],false,2⟩ ⟨[4],[],false,2⟩)],2⟩
noncomputable def fM (v2:List Tupl)(v3:Tabl)(v1:Int)(a:Unit):Tr (Stp (Unit) ((Int))):=
 .grd (cd v2 v1)<|
 .cal tV.c ((v2.getD v1.toNat (Ty.zero .tupl)),v3,()) λc2=>
 .ite c2 (.ret (.out v1))<|
 .ret (.next ())
noncomputable def bi:cb.V→qo cb Unit (Int):=λ(v0,v1,v2,v3,_)=>⟨v1,(),λv1 _=>(v0,v1,v2,v3,()),λv1 _=>(decide (v1<v0)),fM v2 v3,up,1,(Int.toNat (v0-v1)),.inl,eR,oB .ret ⟨[zi 4],[.arr .tupl false false,.box [.st .tabl [.sl .any,.sl .any]]]⟩ (λp=>(p,v2,v3,())) (.exit 0) ⟨[zu 4],[.arr .tupl false false,.box [.st .tabl [.sl .any,.sl .any]]]⟩ (λ_=>(v2,v3,()))⟩
theorem lv:LS Tryz.prog gH [0] (j8 0 cb bi):=eU st (aV gG) _ bi [] trivial
theorem lE {v0 v1:Int}{v2:List Tupl}{v3:Tabl}(h0:0≤v1)(h1:v0≤4611686018427387904)(h2:sS v2)(h3:aM v3)(h4:v0≤(v2.length:Int)):(bi (v0,v1,v2,v3,())).U v0 (λ_ _=>True) (λp=>v1≤p∧p<v0):=
 jV h0 h1 trivial
noncomputable def cX:FT (List Tupl×Tabl×Unit) (Int) (λx=>sS x.1∧aM x.2.1) (λx v=> -1≤v∧v<x.1.length):= .mk (λ(x0,y1_0,_)=>
  .lp (bi ((x0.length:Int),0,x0,y1_0,())).lp λw3=> .sum w3 (λp3a0=>
  .ret p3a0)<|
  λ_=>
  .ret (-1)) (pE @lE)
noncomputable def nE:=uL st gH gG [(j8 0 cb bi)] [.wr false [.own 0],.fn 172 [1]] [.arr .tupl,.box [.st .tabl]] (λx y=>(y.1,y.2.1.1,())) cX rI (λx y v=>(y.1,(y.2.1.1,()),())) Tryz.func287 (by kernel_rfl) ⟨lv,trivial⟩
noncomputable def US:=[bN,BL,E2,DG,bB,nu]
noncomputable def VE:Fx:=⟨65,Tryz.f65,[(3000001,rA 0 50)],0⟩
noncomputable def bH:FT (Door×Unit) (Bool) (λx=>av x.1) (λx v=>(v=true→x.1.table.conns.length≤16)):= .mk λ(x0,_)=>
  .bnd (β:=Bool×Unit) (.as (λw=>(w.1=false→0≤x0.keys.epoch∧x0.keys.epoch≤4294967295∧x0.table.conns.length≤16∧x0.table.waiting.length≤16∧x0.halves.length≤64)) (.cal af.c (x0.port,16,()) λc1=>
   .ite (!c1) (.ret (true,()))<|
   .cal af.c (x0.clock,32,()) λc2=>
   .ite (!c2) (.ret (true,()))<|
   .cal dZ.c (x0.keys,()) λc3=>
   .ite (!c3) (.ret (true,()))<|
   .cal cH.c (x0.table,x0.limits,()) λc4=>
   .ite (!c4) (.ret (true,()))<|
   .cal fa.c (x0.halves,()) λc5=>
   .ite (!c5) (.ret (true,()))<|
   .ite (decide (x0.limits.halves<(x0.halves.length:Int))) (.ret (true,()))<|
   .val (a9.f (x0.chal,0,x0.limits.chal,())) λc6=>
   .ret ((!c6),()))) λ(u7a0,_)=>
  .ite u7a0 (.ret false)<|
  .cal cV.c (x0.halves,x0,()) λc8=>
  .ret (!c8)
noncomputable def rq:=bK st VE US [] (ks:=[.st .door]) bH rB Tryz.func65 trivial
noncomputable def YD:=[jg,rq,ml,jb,Ur,nr,gg,GB,Q2]
noncomputable def YT:Fx:=⟨201,Tryz.f201,[(3000002,rA 0 25)],0⟩
noncomputable def lm:FT (Door×Tupl×Segm×Unit) (Door×List Segm) (λx=>av x.1∧am x.2.2.1) (λx v=>av v.1∧sL am v.2∧v.1.table.conns.length=x.1.table.conns.length):= .mk λ(x0,x1,x2,_)=>
  .cal gk.c (x0,()) λc1=>
  .bnd (β:=Bool×Unit) (.as (λw=>(w.1=false→x0.table.conns.length≤16∧x2.body.length≤1420)) (.cal bH.c (x0,()) λc2=>
   .ite (!c2) (.ret (true,()))<|
   .cal az.c (x1,()) λc3=>
   .ite (!c3) (.ret (true,()))<|
   .cal ai.c (x2,()) λc4=>
   .ret ((!c4),()))) λ(u5a0,_)=>
  .ite u5a0 (.ret (c1,[]))<|
  .cal ey.c (x0,x1,x2,()) λc6=>
  .cal ax.c (x0.halves,x1,()) λc7=>
  .ite (decide (0≤c7)) (.grd (cd x0.halves c7)<|
   .ite ((x0.halves.getD c7.toNat (Ty.zero .half)).irs != x2.seq) (.ret (c1,[]))<|
   .grd (cd x0.halves c7)<|
   .ret (c1,[({c6 with seq:=(x0.halves.getD c7.toNat (Ty.zero .half)).iss}:Segm)]))<|
  .cal ar.c (x0.table,x1,()) λc8=>
  .ite (decide (c8<0)) (.val (jk.f (x2.opts,())) λc9=>
   .cal og.c (x0.halves,(⟨x1,c6.seq,x2.seq,c9,0,x2.window⟩:Half),x0.limits.halves,()) λc10=>
   .ret (({c1 with halves:=c10.1}:Door),[c6]))<|
  .ret (c1,[c6])
noncomputable def Xj:=bK st YT YD [] (ks:=[.st .door,.st .tupl,.st .segm]) lm (λv=>[(true,kK (.o true) (.o true) (.o true) (.o true) (.o true) v.1),(false,[sc (.o true) .segm v.2])]) Tryz.func201 trivial
noncomputable def XI:=[jg,rq,ml,jb,gg,nr,fN,Ip,Tl,Hc,Bt,RH,Fp,yQ,Co]
@[reducible] def Ay:An:=⟨⟨[],[],false,0⟩,⟨[3,4,5,6,7,8,9,10,11],[],false,0⟩,⟨[],[]⟩,[(.ret,⟨[zp 3 0,zp 4 1,zp 5 2,zp 6 3,zo 7 4,zi 8,zp 9 5,zp 10 6,zi 11],[.box [.st .door [.sl .arg,.sl .arg,.sl .arg,.sl .arg,.sl .arg]],zx .tupl,zx .segm,.box [.st .door [.own 7,.own 8,.own 9,.own 10,.own 11]],za .segm,.box [.st .door [.own 7,.own 8,.own 9,.own 10,.own 11]],.box [.st .conn [.nil .piec]],zf,zf,zf,zf,zf]⟩),(.ret,⟨[zp 3 0,zp 4 1,zp 5 2,zp 6 3,(7,false,[.nil]),zi 8,zp 9 4,zp 10 5,zi 11],[.box [.st .door [.sl .arg,.sl .arg,.sl .arg,.sl .arg,.sl .arg]],zx .tupl,zx .segm,.box [.st .door [.own 6,.own 7,.own 8,.own 9,.own 10]],.box [.st .door [.own 6,.own 7,.own 8,.own 9,.own 10]],.box [.st .conn [.nil .piec]],zf,zf,zf,zf,zf]⟩),(.normal,⟨[zp 3 0,zp 4 1,zp 5 2,zp 6 3,(7,false,[.nil]),zi 8,zp 9 4,zp 10 5,zi 11],[.box [.st .door [.sl .arg,.sl .arg,.sl .arg,.sl .arg,.sl .arg]],zx .tupl,zx .segm,.box [.st .door [.nil .macRow,.nil .macRow,.nil .half,.nil .conn,.nil .tupl]],.box [.st .door [.own 6,.own 7,.own 8,.own 9,.own 10]],zk .conn 11,zf,zf,zf,zf,zf,zf]⟩)]⟩
noncomputable def YU:Fx:=⟨202,Tryz.f202,[(1000051,Ay),(3000002,rA 0 44)],0⟩
noncomputable def Hk:FT (Door×Tupl×Segm×Unit) (Door×List Segm×Int) (λx=>av x.1∧am x.2.2.1) (λx v=>av v.1∧sL am v.2.1∧x.1.table.conns.length≤v.1.table.conns.length):= .mk λ(x0,x1,x2,_)=>
  .cal gk.c (x0,()) λc1=>
  .bnd (β:=Bool×Unit) (.as (λw=>(w.1=false→x0.table.conns.length≤16∧x2.body.length≤1420)) (.cal bH.c (x0,()) λc2=>
   .ite (!c2) (.ret (true,()))<|
   .cal az.c (x1,()) λc3=>
   .ite (!c3) (.ret (true,()))<|
   .cal ai.c (x2,()) λc4=>
   .ite (!c4) (.ret (true,()))<|
   .cal ar.c (x0.table,x1,()) λc5=>
   .ret ((decide (0≤c5)),()))) λ(u6a0,_)=>
  .ite u6a0 (.ret (c1,[],0))<|
  .cal ax.c (x0.halves,x1,()) λc7=>
  .bnd (β:=WT Ay.es) (.as (Sum.elim (λw=>av w.2.2.1∧am w.2.2.2.2.1∧av w.2.2.2.2.2.1∧sL am w.2.2.2.2.2.2.1∧av w.2.2.2.2.2.2.2.1∧aa w.2.2.2.2.2.2.2.2.1∧x0.table.conns.length≤w.2.2.2.2.2.1.table.conns.length) (Sum.elim (λw=>av w.2.2.1∧am w.2.2.2.2.1∧av w.2.2.2.2.2.1∧av w.2.2.2.2.2.2.1∧aa w.2.2.2.2.2.2.2.1∧x0.table.conns.length≤w.2.2.2.2.2.1.table.conns.length) (λw=>av w.2.2.1∧am w.2.2.2.2.1∧av w.2.2.2.2.2.1∧av w.2.2.2.2.2.2.1∧aa w.2.2.2.2.2.2.2.1∧w.2.2.1=x0∧x0.table.conns.length≤w.2.2.2.2.2.2.1.table.conns.length))) (.ite (decide (0≤c7)) (.grd (cd x0.halves c7)<|
    .val (bG.f ((x0.halves.getD c7.toNat (Ty.zero .half)).iss,1,())) λc8=>
    .ite (x2.ack != c8) (.cal fy.c (x2,()) λc9=>
     .ret (.inl (0,1,x0,x1,x2,c1,c9,c1,(⟨⟨0,0,0⟩,0,⟨0,[],0,false,false,false⟩,⟨0,[],[],0,false⟩,0,0,⟨0,0,false,false,0,0⟩,0,0⟩:Conn),())))<|
    .val (bG.f ((x0.halves.getD c7.toNat (Ty.zero .half)).irs,1,())) λc10=>
    .ite (x2.seq != c10) (.ret (.inr (.inl (0,1,x0,x1,x2,c1,c1,(⟨⟨0,0,0⟩,0,⟨0,[],0,false,false,false⟩,⟨0,[],[],0,false⟩,0,0,⟨0,0,false,false,0,0⟩,0,0⟩:Conn),()))))<|
    .cal uh.c (x1,(x0.halves.getD c7.toNat (Ty.zero .half)).iss,(x0.halves.getD c7.toNat (Ty.zero .half)).irs,(x0.halves.getD c7.toNat (Ty.zero .half)).opts,x2.window,()) λc11=>
    .ret (.inr (.inr ((0,1,x0,x1,x2,(⟨0,0,⟨0,⟨false,0,0,[]⟩,⟨false,0,0,[]⟩,false⟩,⟨0,0,0,0⟩,[],⟨[],[]⟩,0⟩:Door),c1,c11,())))))<|
   .val (bG.f (x2.seq,(-1),())) λc12=>
   .val (bG.f (x2.ack,(-1),())) λc13=>
   .cal bC.c (x0.keys,x1,c12,c13,()) λc14=>
   .ite (!c14.2.2) (.cal fy.c (x2,()) λc15=>
    .ret (.inl (0,1,x0,x1,x2,c1,c15,c1,(⟨⟨0,0,0⟩,0,⟨0,[],0,false,false,false⟩,⟨0,[],[],0,false⟩,0,0,⟨0,0,false,false,0,0⟩,0,0⟩:Conn),())))<|
   .cal bE.c (c14.2.1,x2.opts,()) λc16=>
   .cal uh.c (x1,c13,c12,c16,x2.window,()) λc17=>
   .ret (.inr (.inr ((0,2,x0,x1,x2,(⟨0,0,⟨0,⟨false,0,0,[]⟩,⟨false,0,0,[]⟩,false⟩,⟨0,0,0,0⟩,[],⟨[],[]⟩,0⟩:Door),c1,c17,())))))) λw18=> .sum w18 (λ(u18a0,_,_,_,_,u18a5,u18a6,_,_,_)=>
  .ret (u18a5,u18a6,u18a0))<|
  λw18=> .sum w18 (λ(u18b0,_,_,_,_,u18b5,_,_,_)=>
  .ret (u18b5,[],u18b0))<|
  λ(_,u18c1,u18c2,u18c3,u18c4,_,u18c6,u18c7,_)=>
  .cal lS.c (u18c2.table,u18c7,u18c2.limits,()) λc19=>
  .ite (!c19.2) (.ret (u18c6,[],0))<|
  .cal nP.c (u18c7,u18c4,()) λc20=>
  .cal cW.c (c19.1,c20.1,()) λc21=>
  .cal n8.c (u18c2.halves,u18c3,()) λc22=>
  .ret (({u18c6 with halves:=c22,table.conns:=c21.conns,table.waiting:=c21.waiting}:Door),c20.2.1,u18c1)
noncomputable def Xx:=bK st YU XI [] (ks:=[.st .door,.st .tupl,.st .segm]) Hk (λv=>[(true,kK (.o true) (.o true) (.o true) (.o true) (.o true) v.1),(false,[sc (.o true) .segm v.2.1]),(false,[.c (.int .i64 v.2.2)])]) Tryz.func202 trivial
noncomputable def gW:=[nE,Fv]
def cl:Sh:=⟨[zo 0 0,(1,false,[.fn 172 [1]]),zi 5,zi 6],[.arr .tupl false false,.box [.st .tabl [.sl .any,.sl .any]]]⟩
noncomputable def ig:Fx:=⟨171,Tryz.f171,[(0,la ⟨[0,1,5,6],[],false,2⟩ ⟨[0,4,5],[],false,2⟩)],2⟩
noncomputable def dG (v3:Tabl)(v1:Int)(a:Int×List Tupl):Tr (Stp (Int×List Tupl) (Empty)):=
 .grd (cd a.2 v1)<|
 .cal tV.c ((a.2.getD v1.toNat (Ty.zero .tupl)),v3,()) λc2=>
 .ite (!c2) (.grd (cd a.2 a.1)<|
  .ret (.next ((IntKind.wrap .i64 (a.1+1)),(a.2.set a.1.toNat (a.2.getD v1.toNat (Ty.zero .tupl))))))<|
 .ret (.next (a.1,a.2))
noncomputable def ay:cl.V→tF cl (Int×List Tupl):=λ(v0,v1,v2,v3,_)=>⟨v1,(v0,v2),λv1 a=>(a.1,v1,a.2,v3,()),λv1 a=>(decide (v1<(a.2.length:Int))),dG v3,up,1,(Int.toNat ((v2.length:Int)-v1)),Empty.elim,Prod.mk,oN (.exit 0) ⟨[zo 0 0,zu 4,zi 5],[.arr .tupl false false,.box [.st .tabl [.sl .any,.sl .any]]]⟩ (λx=>(x.2.1,x.2.2,v3,()))⟩
theorem mn:LS Tryz.prog ig [0] (j8 0 cl ay):=eU st (aV gW) _ ay [] trivial
theorem mr {v0 v1:Int}{v2:List Tupl}{v3:Tabl}(h0:0≤v1)(h1:(v2.length:Int)≤4611686018427387904)(h2:aM v3)(h3:sS v2)(h4:v2.length=v2.length∧0≤v0∧v0<v1∧v0<v2.length):(ay (v0,v1,v2,v3,())).S (λv1 a=>a.2.length=v2.length∧a.2.length=v2.length∧0≤a.1∧a.1<v1∧a.1<a.2.length) (λ_=>True):=by
 refine LC.okS ⟨rfl,h4⟩ (λj a hj hv=>⟨⟨?_, ?_⟩, ?_⟩) (λa hv=> ?_)
 ·simp only[ay,decide_eq_true_eq]at*;omega
 ·simp only[ay]at*;exact upw (by omega) (by omega)
 ·refine Tr.G2 ?_ λ_=>Tr.C ?_ λ_ _ _=>Tr.I (λ_=>Tr.G2 ?_ λ_=>Tr.Rn ?_) λ_=>Tr.Rn ?_
  all_goals (try simp only[ay]at*)<;>(grind)
 ·simp only[ay,decide_eq_false_iff_not]at*;omega
noncomputable def cg:FT (List Tupl×Tabl×Unit) (Nat×List Tupl) (λx=>sS x.1∧aM x.2.1) (λx v=>sS v.2∧v.1≤x.1.length∧v.2.length=x.1.length):=⟨λ(x0,y1_0,_)=>
  .cal cX.c (x0,y1_0,()) λc1=>
  .ite (c1==(-1)) (.ret (x0.length,x0))<|
  .lp (ay (c1,(IntKind.wrap .i64 (c1+1)),x0,y1_0,())).lp λ(_,a3_0,a3_1)=>
  .grd (KV a3_1 a3_0 (a3_1.length:Int))<|
  .val ((a3_1.take a3_0.toNat++List.replicate ((a3_1.length:Int).toNat-a3_0.toNat) (Ty.zero .tupl))++a3_1.drop ((a3_1.length:Int).toNat)) λl4=>
  .grd ((decide (0≤a3_0))&&(decide (a3_0≤(l4.length:Int))))<|
  .ret (a3_0.toNat,l4),
 λ(x0,y1_0,_) hp=>by
  refine Tr.C ?_ λ_ _ _=>Tr.I (λ_=>Tr.R ?_) λ_=>Tr.L (mr ?_ ?_ ?_ ?_ ?_) (λ(a3_0,a3_1) _=>Tr.G3 ?_ λ_=>Tr.V λ_ _=>Tr.G2 ?_ λ_=>Tr.R ?_) (λp=>Empty.elim p)
  all_goals ((try simp only[ay,LC.lp,LC.ct,Ct.lp]at*)<;>grind)⟩
noncomputable def oc:=uL st ig gW [(j8 0 cl ay)] [.wr false [.own 0],.fn 172 [1]] [.arr .tupl,.box [.st .tabl]] (λx y=>(y.1,y.2.1.1,())) cg (λv=>[(false,[.shr 0 v.1])]) (λx y v=>(v.2,(y.2.1.1,()),())) Tryz.func171 (by kernel_rfl) ⟨mn,trivial⟩
noncomputable def bL:FT (Stac×Unit) (Bool) (λx=>aW x.1) (λx v=>(v=true→x.1.door.table.conns.length≤16)):= .mk λ(x0,_)=>
  .cal dK.c (x0.link,()) λc1=>
  .ite c1 (.cal bH.c (x0.door,()) λc2=>
   .ret c2)<|
  .ret false
noncomputable def xU:=aN st Tryz.func21 [Bo,rq] (ks:=[.st .stac]) bL rB
noncomputable def sD:FT (Tabl×Unit) (Tabl) (λx=>aM x.1) (λx v=>aM v):= .mk λ(x0,_)=>
  .cal fk.c (x0,()) λc1=>
  .cal cC.c (c1.conns,x0,()) λc2=>
  .cal cg.c (c1.waiting,x0,()) λc3=>
  .ret (⟨(c2.2.take c2.1),(c3.2.take c3.1)⟩:Tabl)
noncomputable def M5:=aN st Tryz.func72 [j5,oY,oc] (ks:=[.st .tabl]) sD (λv=>[(true,ri (.o false) (.o true) v)])
noncomputable def W7:=[jg,rq,bN,jb,FP,Ip,gg,Fp,yQ,zt,nr,fN,Co,Xj,Xx]
@[reducible] def AA:An:=⟨⟨[],[],false,0⟩,⟨[3,6,7,8,9,12,13],[],false,0⟩,⟨[],[]⟩,[(.normal,⟨[zp 3 0,zp 6 1,(7,false,[.nil]),zi 8,zp 9 2,zp 12 3,(13,false,[.nil])],[.box [.st .door [.sl .arg,.sl .arg,.sl .arg,.sl .arg,.sl .arg]],.box [.st .door [.nil .macRow,.nil .macRow,.nil .half,.nil .conn,.nil .tupl]],.box [.st .door [.own 4,.own 5,.own 6,.own 7,.own 8]],zk .conn 9,zf,zf,zf,zf,zf,zf]⟩),(.normal,⟨[zp 3 0,zp 6 1,(7,false,[.nil]),zi 8,zp 9 2,zp 12 3,zo 13 4],[.box [.st .door [.sl .arg,.sl .arg,.sl .arg,.sl .arg,.sl .arg]],.box [.st .door [.nil .macRow,.nil .macRow,.nil .half,.nil .conn,.nil .tupl]],.box [.st .door [.own 5,.own 6,.own 7,.own 8,.own 9]],zk .conn 10,za .segm,zf,zf,zf,zf,zf,zf]⟩)]⟩
noncomputable def YA:Fx:=⟨88,Tryz.f88,[(1000064,AA),(3000002,rA 0 32),(3000018,rA 0 102),(3000021,rA 0 109),(3000024,rA 0 131)],0⟩
noncomputable def Hv:FT (Door×Int×Segm×Unit) (Door×List Segm×Int) (λx=>av x.1∧am x.2.2.1) (λx v=>av v.1∧sL am v.2.1∧x.1.table.conns.length≤v.1.table.conns.length):= .mk λ(x0,x1,x2,_)=>
  .cal gk.c (x0,()) λc1=>
  .bnd (β:=Bool×Unit) (.as (λw=>(w.1=false→x0.table.conns.length≤16∧x2.body.length≤1420)) (.cal bH.c (x0,()) λc2=>
   .ite (!c2) (.ret (true,()))<|
   .cal af.c (x1,32,()) λc3=>
   .ite (!c3) (.ret (true,()))<|
   .cal ai.c (x2,()) λc4=>
   .ret ((!c4),()))) λ(u5a0,_)=>
  .ite u5a0 (.ret (c1,[],0))<|
  .val (uf.f (x1,x2,())) λc6=>
  .ite (x2.to != x0.port) (.cal fy.c (x2,()) λc7=>
   .ret (c1,c7,0))<|
  .cal ar.c (x0.table,c6,()) λc8=>
  .ite (decide (0≤c8)) (.grd (cd x0.table.conns c8)<|
   .cal nP.c ((x0.table.conns.getD c8.toNat (Ty.zero .conn)),x2,()) λc9=>
   .bnd (β:=WT AA.es) (.as (Sum.elim (λw=>av w.2.1∧av w.2.2.1∧av w.2.2.2.1∧aa w.2.2.2.2.1∧w.2.1=x0) (λw=>av w.2.1∧av w.2.2.1∧av w.2.2.2.1∧aa w.2.2.2.2.1∧sL am w.2.2.2.2.2.1∧w.2.1=x0)) (.ite (c9.2.2==3) (.ite (x0.chal==x0.limits.chal) (.ret (.inl (0,x0,(⟨0,0,⟨0,⟨false,0,0,[]⟩,⟨false,0,0,[]⟩,false⟩,⟨0,0,0,0⟩,[],⟨[],[]⟩,0⟩:Door),c1,c9.1,())))<|
     .ret (.inr ((0,x0,(⟨0,0,⟨0,⟨false,0,0,[]⟩,⟨false,0,0,[]⟩,false⟩,⟨0,0,0,0⟩,[],⟨[],[]⟩,0⟩:Door),({c1 with chal:=(IntKind.wrap .i64 (c1.chal+1))}:Door),c9.1,c9.2.1,()))))<|
    .ret (.inr ((0,x0,(⟨0,0,⟨0,⟨false,0,0,[]⟩,⟨false,0,0,[]⟩,false⟩,⟨0,0,0,0⟩,[],⟨[],[]⟩,0⟩:Door),c1,c9.1,c9.2.1,()))))) λw10=> .sum w10 (λ(_,u10a1,_,u10a3,u10a4,_)=>
   .cal cW.c (u10a1.table,u10a4,()) λc11=>
   .ret (({u10a3 with table.conns:=c11.conns,table.waiting:=c11.waiting}:Door),[],0))<|
   λ(_,u10b1,_,u10b3,u10b4,u10b5,_)=>
   .cal cW.c (u10b1.table,u10b4,()) λc12=>
   .ret (({u10b3 with table.conns:=c12.conns,table.waiting:=c12.waiting}:Door),u10b5,0))<|
  .val (bk.f (x2,4,())) λc13=>
  .ite c13 (.cal ax.c (x0.halves,c6,()) λc14=>
   .bnd (β:=Bool×Unit) (.ite (decide (0≤c14)) (.grd (cd x0.halves c14)<|
     .val (bG.f ((x0.halves.getD c14.toNat (Ty.zero .half)).irs,1,())) λc15=>
     .ret ((x2.seq==c15),()))<|
    .ret (false,())) λ(u16a0,_)=>
   .ite u16a0 (.cal n8.c (x0.halves,c6,()) λc17=>
    .ret (({c1 with halves:=c17}:Door),[],0))<|
   .ret (c1,[],0))<|
  .bnd (β:=Bool×Unit) (.val (bk.f (x2,2,())) λc18=>
   .ite c18 (.val (bk.f (x2,16,())) λc19=>
    .ite (!c19) (.val (bk.f (x2,1,())) λc20=>
     .ret ((!c20),()))<|
    .ret (false,()))<|
   .ret (false,())) λ(u21a0,_)=>
  .ite u21a0 (.cal lm.c (x0,c6,x2,()) λc22=>
   .ret (c22.1,c22.2,0))<|
  .bnd (β:=Bool×Unit) (.val (bk.f (x2,16,())) λc23=>
   .ite c23 (.val (bk.f (x2,2,())) λc24=>
    .ret ((!c24),()))<|
   .ret (false,())) λ(u25a0,_)=>
  .ite u25a0 (.cal Hk.c (x0,c6,x2,()) λc26=>
   .ret (c26.1,c26.2.1,c26.2.2))<|
  .val (bk.f (x2,16,())) λc27=>
  .ite c27 (.cal fy.c (x2,()) λc28=>
   .ret (c1,c28,0))<|
  .ret (c1,[],0)
noncomputable def W6:=bK st YA W7 [] (ks:=[.st .door,.sc (.int .i64),.st .segm]) Hv (λv=>[(true,kK (.o true) (.o true) (.o true) (.o true) (.o true) v.1),(false,[sc (.o true) .segm v.2.1]),(false,[.c (.int .i64 v.2.2)])]) Tryz.func88 trivial
noncomputable def uK:=[jg,rq,fN,Kp,Ns,M5]
def jl:Sh:=⟨[zp 2 0,zp 4 1,zo 5 2,zp 7 3,zl 30 .conn,zi 31,zi 32,zo 48 4,zi 49,zi 50],[.box [.st .door [.nil .macRow,.nil .macRow,.nil .half,.nil .conn,.nil .tupl]],.box [.st .door [.own 5,.own 6,.own 7,.own 8,.own 9]],za .mail,zg .conn,za .segm,zf,zf,zf,zf,zf]⟩
def lg:Sh:=⟨[zp 2 0,zp 4 1,zo 5 2,zl 30 .conn,zi 31,zi 32],[.box [.st .door [.nil .macRow,.nil .macRow,.nil .half,.nil .conn,.nil .tupl]],.box [.st .door [.own 3,.own 4,.own 5,.own 6,.own 7]],za .mail,zf,zf,zf,zf,zf]⟩
noncomputable def wi:Fx:=⟨166,Tryz.f166,[(2,lb [2,4,5,7,30,31,32,48,49,50] [2,3,4,5,30,31,32]),(0,lb [2,4,5,30,31,32] [2,3,4,5]),(4000000,la ⟨[],[],false,0⟩ ⟨[],[.softb 2 17],false,0⟩)],0⟩
noncomputable def mT (vb8:Conn)(vb9:List Segm)(vb4:Int)(a:Door×List Mail):Tr (Stp (Door×List Mail) (Empty)):=
 .grd (cd vb9 vb4)<|
 .grd (xr a.2 1 112)<|
 .ret (.next (({a.1 with keys.now.rows:=[],keys.before.rows:=[],halves:=[],table.conns:=[],table.waiting:=[]}:Door),(a.2++[(⟨vb8.tuple.ip,(vb9.getD vb4.toNat (Ty.zero .segm))⟩:Mail)])))
noncomputable def dM:jl.V→tF jl (Door×List Mail):=λ(vb0,vb1,vb2,vb3,vb4,vb5,vb6,vb7,vb8,vb9,_)=>⟨vb4,(vb5,vb7),λvb4 a=>(vb0,vb1,vb2,vb3,vb4,a.1,vb6,a.2,vb8,vb9,()),λvb4 _=>(decide (vb4<vb3)),mT vb8 vb9,up,1,(Int.toNat (vb3-vb4)),Empty.elim,Prod.mk,oN (.exit 2) ⟨[zp 2 0,zu 3,zp 4 1,zo 5 2,zl 30 .conn,zi 31,zi 32],[.box [.st .door [.nil .macRow,.nil .macRow,.nil .half,.nil .conn,.nil .tupl]],.box [.st .door [.own 3,.own 4,.own 5,.own 6,.own 7]],za .mail,zf,zf,zf,zf,zf]⟩ (λx=>(vb0,vb1,vb2,({x.2.1 with keys.now.rows:=[],keys.before.rows:=[],halves:=[],table.conns:=[],table.waiting:=[]}:Door),vb6,x.2.2,()))⟩
theorem Cs:LS Tryz.prog wi [0,0] (j8 2 jl dM):=eU st (aV uK) _ dM [] trivial
theorem Da {vb0:List Conn}{vb1 vb2 vb3 vb4:Int}{vb5 vb6:Door}{vb7:List Mail}{vb8:Conn}{vb9:List Segm}(h0:0≤vb4)(h1:vb3≤4611686018427387904)(h2:vb9.length≤49)(h3:vb7.length≤1000)(h4:aa vb8)(h5:sL am vb9)(h6:vb3≤(vb9.length:Int))(h7:av vb5∧(vb7.length:Int)≤vb7.length+vb4∧cT oL vb7):(dM (vb0,vb1,vb2,vb3,vb4,vb5,vb6,vb7,vb8,vb9,())).U vb3 (λvb4 a=>av a.1∧(a.2.length:Int)≤vb7.length+vb4∧cT oL a.2) (λ_=>True):=
 jV (a:=(vb5,vb7)) h0 h1 h7
noncomputable def pH (v0:List Conn)(v1:Int)(v2:Int)(a:Door×Door×List Mail):Tr (Stp (Door×Door×List Mail) (Empty)):=
 .grd (cd v0 v2)<|
 .cal vc.c ((v0.getD v2.toNat (Ty.zero .conn)),()) λc5=>
 .grd (cd a.2.1.table.conns v2)<|
 .lp (dM (v0,v1,v2,(c5.2.length:Int),0,({a.1 with keys.now.rows:=[],keys.before.rows:=[],halves:=[],table.conns:=[],table.waiting:=[]}:Door),({a.2.1 with table.conns:=(a.2.1.table.conns.set v2.toNat c5.1)}:Door),a.2.2,(v0.getD v2.toNat (Ty.zero .conn)),c5.2,())).lp λ(_,a6_0,a6_1)=>
 .ret (.next (({({a6_0 with keys.now.rows:=[],keys.before.rows:=[],halves:=[],table.conns:=[],table.waiting:=[]}:Door)with keys.now.rows:=[],keys.before.rows:=[],halves:=[],table.conns:=[],table.waiting:=[]}:Door),({a.2.1 with table.conns:=(a.2.1.table.conns.set v2.toNat c5.1)}:Door),a6_1))
noncomputable def eZ:lg.V→tF lg (Door×Door×List Mail):=λ(v0,v1,v2,v3,v4,v5,_)=>⟨v2,(v3,v4,v5),λv2 a=>(v0,v1,v2,a.1,a.2.1,a.2.2,()),λv2 _=>(decide (v2<v1)),pH v0 v1,up,1,(Int.toNat (v1-v2)),Empty.elim,Prod.mk,oN (.exit 0) ⟨[zp 2 0,zu 3,zp 4 1,zo 5 2],[.box [.st .door [.nil .macRow,.nil .macRow,.nil .half,.nil .conn,.nil .tupl]],.box [.st .door [.own 3,.own 4,.own 5,.own 6,.own 7]],za .mail,zf,zf,zf,zf,zf]⟩ (λx=>(({x.2.1 with keys.now.rows:=[],keys.before.rows:=[],halves:=[],table.conns:=[],table.waiting:=[]}:Door),x.2.2.1,x.2.2.2,()))⟩
theorem Ha:LS Tryz.prog wi [0] (j8 0 lg eZ):=eU st (aV uK) _ eZ [(j8 2 jl dM)] ⟨Cs,trivial⟩
theorem G5 {v0:List Conn}{v1 v2:Int}{v3 v4:Door}{v5:List Mail}(h0:0≤v2)(h1:v1≤4611686018427387904)(h2:v1≤16)(h3:sL aa v0)(h4:sL aG v4.keys.now.rows)(h5:sL aG v4.keys.before.rows)(h6:sS v4.halves)(h7:sL aa v4.table.conns)(h8:sS v4.table.waiting)(h9:v1≤(v0.length:Int))(h10:av v3∧v4.keys.now.rows.length=v4.keys.now.rows.length∧cT aG v4.keys.now.rows∧v4.keys.before.rows.length=v4.keys.before.rows.length∧cT aG v4.keys.before.rows∧v4.halves.length=v4.halves.length∧v4.table.conns.length=v4.table.conns.length∧cT aa v4.table.conns∧v4.table.waiting.length=v4.table.waiting.length∧sL oL v5∧(v5.length:Int)≤49*v2∧v1≤(v4.table.conns.length:Int)):(eZ (v0,v1,v2,v3,v4,v5,())).U v1 (λv2 a=>av a.1∧a.2.1.keys.now.rows.length=v4.keys.now.rows.length∧cT aG a.2.1.keys.now.rows∧a.2.1.keys.before.rows.length=v4.keys.before.rows.length∧cT aG a.2.1.keys.before.rows∧a.2.1.halves.length=v4.halves.length∧a.2.1.table.conns.length=v4.table.conns.length∧cT aa a.2.1.table.conns∧a.2.1.table.waiting.length=v4.table.waiting.length∧sL oL a.2.2∧(a.2.2.length:Int)≤49*v2∧v1≤(a.2.1.table.conns.length:Int)) (λ_=>True):=
 LC.okU (i:=v2) (a:=(v3,v4,v5)) (λ_ _=>rfl) (λ_=>rfl) rfl h0 h1 h10 λv2 (v3,v4,v5) hj hk hv=>by
  refine Tr.G2 ?_ λ_=>Tr.C ?_ λ_ _ _=>Tr.G2 ?_ λ_=>Tr.L (Da ?_ ?_ ?_ ?_ ?_ ?_ ?_ ?_) (λ(a6_0,a6_1) _=>Tr.Rn ?_) (λp=>Empty.elim p)
  all_goals ((try simp only[dM,LC.lp,LC.ct,Ct.lp]at*)<;>grind)
noncomputable def vx:FT (Door×Unit) (Door×List Mail) (λx=>av x.1) (λx v=>av v.1∧sL oL v.2):=⟨λ(x0,_)=>
  .cal gk.c (x0,()) λc1=>
  .cal bH.c (x0,()) λc2=>
  .ite (!c2) (.ret (c1,[]))<|
  .val (bG.f (x0.clock,1,())) λc3=>
  .cal qg.c (x0.halves,()) λc4=>
  .lp (eZ (x0.table.conns,(x0.table.conns.length:Int),0,(⟨0,0,⟨0,⟨false,0,0,[]⟩,⟨false,0,0,[]⟩,false⟩,⟨0,0,0,0⟩,[],⟨[],[]⟩,0⟩:Door),({c1 with clock:=c3,halves:=c4,chal:=0}:Door),[],())).lp λ(_,_,a7_1,a7_2)=>
  .cal sD.c (a7_1.table,()) λc8=>
  .ret (({a7_1 with table.conns:=c8.conns,table.waiting:=c8.waiting}:Door),a7_2),
 λ(x0,_) hp=>by
  refine Tr.C ?_ λ_ _ _=>Tr.C ?_ λ_ _ _=>Tr.I (λ_=>Tr.R ?_) λ_=>Tr.V λ_ _=>Tr.C ?_ λ_ _ _=>Tr.L (G5 ?_ ?_ ?_ ?_ ?_ ?_ ?_ ?_ ?_ ?_ ?_) (λ(a7_0,a7_1,a7_2) _=>Tr.C ?_ λ_ _ _=>Tr.R ?_) (λp=>Empty.elim p)
  all_goals ((try simp only[eZ,LC.lp,LC.ct,Ct.lp]at*)<;>grind)⟩
noncomputable def OS:=bK st wi uK [(j8 0 lg eZ)] (ks:=[.st .door]) vx (λv=>[(true,kK (.o true) (.o true) (.o true) .c (.o true) v.1),(false,[sc (.o true) .mail v.2])]) Tryz.func166 ⟨Ha,trivial⟩
noncomputable def zM:FT (Stac×ae×Unit) (Stac×List ae×Int) (λx=>aW x.1∧sS x.2.1) (λx v=>aW v.1∧sL sS v.2.1):= .mk λ(x0,x1,_)=>
  .cal j9.c (x0,()) λc1=>
  .cal bL.c (x0,()) λc2=>
  .ite (!c2) (.ret (c1,[],0))<|
  .cal bI.c (x0.link,x1,()) λc3=>
  .ite (c3.2.1==1) (.ret (({c1 with link.mac:=c3.1.mac,link.ip:=c3.1.ip,link.cache:=c3.1.cache}:Stac),[c3.2.2.2],0))<|
  .ite (c3.2.1 != 2) (.ret (({c1 with link.mac:=c3.1.mac,link.ip:=c3.1.ip,link.cache:=c3.1.cache}:Stac),[],0))<|
  .cal bD.c (c3.2.2.1.body,c3.2.2.1.src,c3.2.2.1.dst,()) λc4=>
  .ite (!c4.2) (.ret (({c1 with link.mac:=c3.1.mac,link.ip:=c3.1.ip,link.cache:=c3.1.cache}:Stac),[],0))<|
  .cal Hv.c (x0.door,c3.2.2.1.src,c4.1,()) λc5=>
  .cal qD.c ((⟨c3.1,c5.1⟩:Stac),c3.2.2.1.src,c5.2.1,()) λc6=>
  .ret ((⟨c3.1,c5.1⟩:Stac),c6,c5.2.2)
noncomputable def R9:=aN st Tryz.func68 [rx,xU,UL,xf,W6,yS] (ks:=[.st .stac,.sc .str]) zM (λv=>[(true,qS (.o true) (.o true) (.o true) (.o true) (.o true) (.o true) v.1),(false,[sc (.o true) .str v.2.1]),(false,[.c (.int .i64 v.2.2)])])
def uA:Sh:=⟨[zp 1 0,zp 2 1,zp 4 2,zo 7 3,zo 31 4,zi 32,zi 33],[.box [.st .stac [.sl .arg,.sl .arg,.sl .arg,.sl .arg,.sl .arg,.sl .arg]],.box [.st .stac [.nil .entr,.nil .macRow,.nil .macRow,.nil .half,.nil .conn,.nil .tupl]],.box [.st .stac [.own 5,.own 6,.own 7,.own 8,.sl .any,.own 9]],za .str,za .mail,zf,zf,zf,zf,zf]⟩
noncomputable def nJ (v2:Stac)(v6:List Mail)(v1:Int)(a:Stac×List ae):Tr (Stp (Stac×List ae) (Empty)):=
 .grd (cd v6 v1)<|
 .cal qD.c (v2,(v6.getD v1.toNat (Ty.zero .mail)).ip,[(v6.getD v1.toNat (Ty.zero .mail)).g],()) λc5=>
 .grd (Nat.ble ((2*(a.2.length+c5.length)+1024)*16) aU)<|
 .ret (.next (({a.1 with link.cache:=[],door.keys.now.rows:=[],door.keys.before.rows:=[],door.halves:=[],door.table.conns:=[],door.table.waiting:=[]}:Stac),(a.2++c5)))
noncomputable def hU:uA.V→tF uA (Stac×List ae):=λ(v0,v1,v2,v3,v4,v5,v6,_)=>⟨v1,(v3,v5),λv1 a=>(v0,v1,v2,a.1,v4,a.2,v6,()),λv1 _=>(decide (v1<v0)),nJ v2 v6,up,1,(Int.toNat (v0-v1)),Empty.elim,Prod.mk,oN (.exit 0) ⟨[zp 2 0,zu 3,zp 4 1,zo 7 2],[.box [.st .stac [.nil .entr,.nil .macRow,.nil .macRow,.nil .half,.nil .conn,.nil .tupl]],.box [.st .stac [.own 3,.own 4,.own 5,.own 6,.sl .any,.own 7]],za .str,zf,zf,zf,zf,zf]⟩ (λx=>(({x.2.1 with link.cache:=[],door.keys.now.rows:=[],door.keys.before.rows:=[],door.halves:=[],door.table.conns:=[],door.table.waiting:=[]}:Stac),v4,x.2.2,()))⟩
theorem Eh {v0 v1:Int}{v2 v3 v4:Stac}{v5:List ae}{v6:List Mail}(h0:0≤v1)(h1:v0≤4611686018427387904)(h2:aW v2)(h3:sL oL v6)(h4:v0≤(v6.length:Int))(h5:aW v3∧sL sS v5∧(v5.length:Int)≤v1):(hU (v0,v1,v2,v3,v4,v5,v6,())).U v0 (λv1 a=>aW a.1∧sL sS a.2∧(a.2.length:Int)≤v1) (λ_=>True):=
 jV (a:=(v3,v5)) h0 h1 h5
noncomputable def sx:FT (Stac×Unit) (Stac×List ae) (λx=>aW x.1) (λx v=>aW v.1∧sL sS v.2):=⟨λ(x0,_)=>
  .cal j9.c (x0,()) λc1=>
  .cal bL.c (x0,()) λc2=>
  .ite (!c2) (.ret (c1,[]))<|
  .cal Pq.c (x0.link.cache,()) λc3=>
  .cal vx.c (x0.door,()) λc4=>
  .lp (hU ((c4.2.length:Int),0,x0,(⟨⟨0,0,[]⟩,⟨0,0,⟨0,⟨false,0,0,[]⟩,⟨false,0,0,[]⟩,false⟩,⟨0,0,0,0⟩,[],⟨[],[]⟩,0⟩⟩:Stac),(⟨⟨c1.link.mac,c1.link.ip,c3⟩,c4.1⟩:Stac),[],c4.2,())).lp λ(_,_,a6_1)=>
  .ret ((⟨⟨c1.link.mac,c1.link.ip,c3⟩,c4.1⟩:Stac),a6_1),
 λ(x0,_) hp=>by
  refine Tr.C ?_ λ_ _ _=>Tr.C ?_ λ_ _ _=>Tr.I (λ_=>Tr.R ?_) λ_=>Tr.C ?_ λ_ _ _=>Tr.C ?_ λ_ _ _=>Tr.L (Eh ?_ ?_ ?_ ?_ ?_ ?_) (λ(a6_0,a6_1) _=>Tr.R ?_) (λp=>Empty.elim p)
  all_goals ((try simp only[hU,LC.lp,LC.ct,Ct.lp]at*)<;>grind)⟩
noncomputable def Lx:=dV st Tryz.func69 [(0,lb [1,2,4,7,31,32,33] [2,3,4,7]),(4000000,la ⟨[],[],false,0⟩ ⟨[],[.softb 2 20],false,0⟩)] [rx,xU,ZA,OS,yS] 0 hU (ks:=[.st .stac]) sx (λv=>[(true,qS (.o true) (.o true) (.o true) (.o true) .c (.o true) v.1),(false,[sc (.o true) .str v.2])])
noncomputable def ZC:=[rx,xU,Xy,R9,Lx,Lf,Gg,M5,gg,rg,M8,yQ,yS]
noncomputable def aaf:Fx:=⟨24,Tryz.f24,[(3000002,rA 0 29),(3000019,rA 0 102),(4000000,la ⟨[],[],false,0⟩ ⟨[],[.softb 4 20],false,0⟩)],0⟩
noncomputable def Ep:FT (Stac×Acti×Unit) (Stac×Resu) (λx=>aW x.1∧cU x.2.1) (λx v=>aW v.1∧mR v.2):= .mk λ(x0,x1,_)=>
  .cal j9.c (x0,()) λc1=>
  .bnd (β:=Bool×Unit) (.as (λw=>(w.1=false→x0.door.table.conns.length≤16)) (.cal bL.c (x0,()) λc2=>
   .ite (!c2) (.ret (true,()))<|
   .cal r8.c (x1,()) λc3=>
   .ret ((!c3),()))) λ(u4a0,_)=>
  .ite u4a0 (.ret (c1,(⟨[],0,⟨0,0,0⟩,0,[],false⟩:Resu)))<|
  .ite (x1.kind==1) (.cal zM.c (x0,x1.text,()) λc5=>
   .ret (c5.1,(⟨c5.2.1,c5.2.2,⟨0,0,0⟩,0,[],true⟩:Resu)))<|
  .ite (x1.kind==2) (.cal sx.c (x0,()) λc6=>
   .ret (c6.1,(⟨c6.2,0,⟨0,0,0⟩,0,[],true⟩:Resu)))<|
  .ite (x1.kind==3) (.cal jX.c (x0.door,x1.mac,()) λc7=>
   .ret ((⟨c1.link,c7⟩:Stac),(⟨[],0,⟨0,0,0⟩,0,[],true⟩:Resu)))<|
  .ite (x1.kind==4) (.cal ou.c (x0.door.table,()) λc8=>
   .cal sD.c (c8.1,()) λc9=>
   .ret (({c1 with door.table.conns:=c9.conns,door.table.waiting:=c9.waiting}:Stac),(⟨[],0,c8.2.1,0,[],c8.2.2⟩:Resu)))<|
  .cal ar.c (x0.door.table,x1.tuple,()) λc10=>
  .bnd (β:=Bool×Unit) (.ite (decide (c10<0)) (.ret (true,()))<|
   .cal gU.c (x0.door.table.waiting,x1.tuple,()) λc11=>
   .ret (c11,())) λ(u12a0,_)=>
  .ite u12a0 (.ret (c1,(⟨[],0,⟨0,0,0⟩,0,[],false⟩:Resu)))<|
  .grd (cd x0.door.table.conns c10)<|
  .cal vg.c ((x0.door.table.conns.getD c10.toNat (Ty.zero .conn)),x1,()) λc13=>
  .cal cW.c (x0.door.table,c13.1,()) λc14=>
  .cal sD.c (c14,()) λc15=>
  .cal qD.c (x0,x1.tuple.ip,c13.2.2.2,()) λc16=>
  .ret (({c1 with door.table.conns:=c15.conns,door.table.waiting:=c15.waiting}:Stac),(⟨c16,0,⟨0,0,0⟩,c13.2.1,c13.2.2.1,true⟩:Resu))
noncomputable def aaX:=bK st aaf ZC [] (ks:=[.st .stac,.st .acti]) Ep (λv=>[(true,qS (.o true) (.o true) (.o true) (.o true) .c (.o true) v.1),(true,N5 (.o true) v.2)]) Tryz.func24 trivial
noncomputable def qm:FT (Stac×Acti×Unit) (Issu×Bool) (λx=>aW x.1∧cU x.2.1) (λ_ _=>True):= .mk λ(x0,x1,_)=>
  .cal Ep.c (x0,x1,()) λc1=>
  .cal vI.c (x1,c1.2,()) λc2=>
  .ret (c2.1,c2.2)
noncomputable def Jb:=aN st Tryz.func10 [aaX,Pw] (ks:=[.st .stac,.st .acti]) qm (λv=>[(true,TK v.1),(false,[.c (.bool v.2)])])
noncomputable def xh:=[SY,XR,QJ,W5,J8,Jb,Q9,R0,Yb]
noncomputable def xj:Fx:=⟨5,Tryz.f5,[(3000012,rA 0 48)],0⟩
noncomputable def kJ:FX (Stac×Acti×Unit) (Bool) (λ_=>True) (cJ [.st .stac,.st .acti]):=⟨λ(x0,x1,_)=>
  .cal fv.c (x0,1048576,()) λc1=>
  .ite (decide (c1<0)) (.ret true)<|
  .cal r9.c (x1,c1,()) λc2=>
  .ite (decide (c2<0)) (.ret true)<|
  .cal qw.c (x0,()) λc3=>
  .cal zh.c (x1,()) λc4=>
  .cal pT.c (c3,c4,()) λc5=>
  .cal qw.c (x0,()) λc6=>
  .cal zh.c (x1,()) λc7=>
  .cal qm.c (c6,c7,()) λc8=>
  .bnd (β:=Bool×Unit) (.val (zO.f (c8.1,c5.1,())) λc9=>
   .ite (!c9) (.ret (true,()))<|
   .ret ((!(c8.2==c5.2)),())) λ(u10a0,_)=>
  .ite u10a0 (.ret false)<|
  .cal qw.c (x0,()) λc11=>
  .cal zG.c (c6,c11,()) λc12=>
  .ite (!c12) (.ret false)<|
  .cal zh.c (x1,()) λc13=>
  .cal Hq.c (c7,c13,()) λc14=>
  .ite (!c14) (.ret false)<|
  .ret true,
 λ(x0,x1,_) hp hf=>by
  simp only[cJ,Pk.fact,jt,hY,Fl.fact,Ty.fl,Ty.toH]at hf
  refine Tr.C trivial λc1 hc1 qc1=>Tr.I (λb0=>Tr.R trivial) λb0=>Tr.C trivial λc2 hc2 qc2=>Tr.I (λb1=>Tr.R trivial) λb1=>Tr.C ?_ λc3 hc3 qc3=>Tr.C ?_ λc4 hc4 qc4=>Tr.C ?_ λc5 hc5 qc5=>Tr.C ?_ λc6 hc6 qc6=>Tr.C ?_ λc7 hc7 qc7=>Tr.C ?_ λc8 hc8 qc8=>Tr.B (Q':=λ_=>True) (Tr.F (by kernel_rfl) trivial) (λ(u10a0,_) hj10 qj10=>Tr.I (λb2=>Tr.R trivial) λb2=>Tr.C ?_ λc11 hc11 qc11=>Tr.C ?_ λc12 hc12 qc12=>Tr.I (λb3=>Tr.R trivial) λb3=>Tr.C ?_ λc13 hc13 qc13=>Tr.C ?_ λc14 hc14 qc14=>Tr.F (by kernel_rfl) trivial)
  all_goals ((try simp only[Tr.nice,ko]at*)<;>((obtain⟨⟨_,_,⟨hc,_⟩,_,_,_,_,_,_,⟨n1,n2⟩,_,_,_,⟨m1,m2⟩,_,_,_,_,_,⟨hh,_⟩,⟨hl,he⟩,⟨hw,_⟩,_⟩,⟨_,_,_,_,_,ht,_,_,_,⟨hr,hq⟩,_⟩,_⟩:=hf;have k1:0≤fv.f (x0,1048576,()):=(by rw[←hc1];simpa using b0);have hS:=(Mg x0 1048576 (by omega) (by omega) hc n1 n2 m1 m2 hh hl he hw k1);have hA:=(WH x1 _ k1 (by omega) ht hr hq (by rw[←hc1,←hc2];simpa using b1)).2;have hS2:=hS.2;grind)))⟩
noncomputable def xi:=Y5 st xj xh [] (ks:=[.st .stac,.st .acti]) kJ rB Tryz.func5 trivial
theorem de (n b:Int):aD.f (n,b,())=af.f (n,b,()):=by
 simp only[PX,aD,af,bA,aq]
 cases h:(decide (1≤b)&&decide (b≤62))with
 |false=>simp only[cond_false]
 |true=>
  have h1:1≤b∧b≤62:=by simpa using h
  rw[QA (by omega) (by omega)]
theorem qs (x:Tupl):kw.f (x,())=az.f (x,()):=by
 simp only[PX,kw,az,de]
theorem ii (x:Opti):eB.f (x,())=aH.f (x,()):=by
 simp only[PX,eB,aH,de,bA,aq]
theorem Wu (x:Int):Dw.f (x,())=fS.f (x,()):=by
 simp only[PX,Dw,fS,bA,aq]
theorem aef:fS.f (0,())=64∧fS.f (1,())=256∧fS.f (2,())=536∧fS.f (3,())=1024∧fS.f (4,())=1300∧fS.f (5,())=1400∧fS.f (6,())=1440∧fS.f (7,())=1460:=by
 simp[PX,fS,aq]
theorem TX (x:Int):vu.f (x,())=iI.f (x,()):=by
 obtain⟨h0,h1,h2,h3,h4,h5,h6,h7⟩:=aef
 simp only[PX,vu,iI,k7,dX,show Int.toNat (8-0)=8 from rfl,show Int.toNat (7-0)=7 from rfl,aP,wu,k9,Wu]
 simp only[show(0:Int)+1=1 from rfl,show(1:Int)+1=2 from rfl,show(2:Int)+1=3 from rfl,show(3:Int)+1=4 from rfl,show(4:Int)+1=5 from rfl,show(5:Int)+1=6 from rfl,show(6:Int)+1=7 from rfl,
  show(7:Int)+ -1=6 from rfl,show(6:Int)+ -1=5 from rfl,show(5:Int)+ -1=4 from rfl,show(4:Int)+ -1=3 from rfl,show(3:Int)+ -1=2 from rfl,show(2:Int)+ -1=1 from rfl,h0,h1,h2,h3,h4,h5,h6,h7]
 grind [Stp.elim]
theorem l0 (x:Int):cD.f (x,())=x%4294967296:=by
 simp only[PX,cD]
 rcases Int.lt_or_le x 0 with h|h
 ·rw[(gZ 4294967296).2 h,dj]
  cases hd:decide (-(-x%4294967296)<0)with
  |true=>simp only[decide_eq_true_eq]at hd;simp only[cond_true];omega
  |false=>simp only[decide_eq_false_iff_not]at hd;simp only[cond_false];omega
 ·rw[(gZ 4294967296).1 h,dj]
  cases hd:decide (x%4294967296<0)with
  |true=>simp only[decide_eq_true_eq]at hd;omega
  |false=>rfl
theorem bz (a b:Int):bG.f (a,b,())=(a+b)%4294967296:=by
 simp only[PX,bG]
 rw[rK,dj];omega
theorem iZ (a b:Int):cQ.f (a,b,())=bG.f (a,b,()):=by
 rw[bz]
 simp only[PX,cQ,l0,dj];omega
theorem EJ (x y:Mac):mc.f (x,y,())=fu.f (x,y,()):=by
 simp only[PX,mc,fu,mZ,jW,gK,rl,pO]
 have e1:(x.k != y.k)= !(x.k==y.k):=rfl
 have e2:(x.l != y.l)= !(x.l==y.l):=rfl
 rw[e1,e2]
 cases(x.use==y.use)<;>cases(x.k==y.k)<;>cases(x.l==y.l)<;>cases((x.rows.length:Int) != (y.rows.length:Int))<;>rfl
theorem nX (n b:Int):aO.f (n,b,())=au.f (n,b,()):=by
 simp only[PX,aO,au,de,bA,aq,jU,eE]
 cases h1:(decide (1≤b)&&decide (b≤6))with
 |false=>rfl
 |true=>
  cases h2:af.f (n,(IntKind.wrap .i64 (8*b)),())with
  |false=>rfl
  |true=>
   have hb:0≤n∧n≤9223372036854775807:=by
    revert h2
    simp only[PX,af,aq]
    cases(decide (1≤IntKind.wrap .i64 (8*b))&&decide (IntKind.wrap .i64 (8*b)≤62))with
    |false=>simp
    |true=>
     simp only[cond_true,Bool.and_eq_true,decide_eq_true_eq]
     generalize(IntKind.wrap .i64 (1*2 ^ (min (IntKind.wrap .i64 (8*b)).toNat 64)))=z
     rw[dj]
     omega
   have e:∀k i r,aP (λj a=>(mS j a).nice) (-1) k i (n,r)=aP (λj a=>(dI j a).nice) (-1) k i (n,r):=by
    intro k i r
    refine Fe (P:=λa=>0≤a.1∧a.1≤9223372036854775807) (λi a ha=> ?_) (λi a a' ha he=> ?_) k i (n,r) hb
    ·simp only[PX,mS,dI]
     rw[(DJ 256).1 ha.1,(gZ 256).1 ha.1,aj (by omega) (by omega),Int.fdiv_eq_ediv_of_nonneg a.1 (by omega),qA,qA,Int.emod_emod]
    ·simp only[PX,mS]at he
     cases he
     show 0≤IntKind.wrap .i64 (a.1.tdiv 256)∧_
     rw[(DJ 256).1 ha.1,aj (by omega) (by omega)]
     omega
   simp only[e]
theorem LI (x:Int):oz.f (x,())=gt.f (x,()):=by simp only[PX,oz,gt,de]
theorem TD (x:Tupl)(a b c:Int):u4.f (x,a,b,c,())=fC.f (x,a,b,c,()):=by simp only[PX,u4,fC,nX,qs,de,bA,aq]
theorem aaC (x:Mac)(r:List MacRow)(j:Nat)(hj:j<r.length)(hr:x.rows=r):
  Stp.elim (γ:=Stp Unit Unit) (λ_=> .next ()) (λ_=> .out ()) (aP (λi a=>(qW (j:Int) x i a).nice) 1 (Int.toNat ((j:Int)-0)) 0 ())=
  bif cL.f (((r.take j).drop 0),(r.getD j (Ty.zero .macRow)),())then .out ()else .next ():=by
 subst hr
 let p:MacRow→Bool:=λy=>y.input==(x.rows.getD j (Ty.zero .macRow)).input
 simp only[PX,cL,fe,bm]
 rw[List.drop_zero]
 have hl:(x.rows.take j).length=j:=by rw[List.length_take];omega
 rw[bu (x.rows.take j) _ (by rw[hl];simp) (F:=λq y a=>bif p y then .out ()else .next ()) (by
  intro q y a h
  have hq:q<j:=by
   have:=(List.getElem?_eq_some_iff.1 h).1;omega
  have h2:x.rows[q]? =some y:=by rw[List.getElem?_take]at h;simpa [hq]using h
  simp only[PX,qW,ac,getD_some h2,p])]
 rw[bu (x.rows.take j) _ (by simp) (F:=λq y a=>bif p y then .out (q:Int)else .next ()) (by
  intro q y a h
  simp only[PX,fU,D5,ac,getD_some h,p])]
 rw[j4 (w:=λ_ _=>()),j4 (w:=λj _=>(j:Int))]
 cases h:(x.rows.take j).findIdx? p with
 |none=>simp[PX,Stp.elim]
 |some i=>
  have:=(List.findIdx?_eq_some_iff_getElem.1 h).1
  simp only[List.getElem?_eq_getElem this,Stp.elim]
  simp[PX]
theorem Ol (x:Mac):ta.f (x,())=jo.f (x,()):=by
 simp only[PX,ta,jo,kr,qp]
 have e:aP (λj a=>(vi x j a).nice) 1 (Int.toNat ((x.rows.length:Int)-0)) 0 ()=aP (λj a=>(pR x.rows x j a).nice) 1 (Int.toNat ((x.rows.length:Int)-0)) 0 ():=by
  rw[aA]
  refine QT x.rows.length 0 () (λj a hj=> ?_)
  have:=aaC x x.rows j (by omega) rfl
  simp only[PX,vi,pR,fO,ac,bA,aq]at this⊢
  rw[this]
 rw[e]
 have e1:(x.k != 0)= !(x.k==0):=rfl
 have e2:(x.l != 0)= !(x.l==0):=rfl
 have e3:decide (64<(x.rows.length:Int))= !decide ((x.rows.length:Int)≤64):=by
  rcases Int.lt_or_le 64 (x.rows.length:Int)with h|h
  ·simp[h,show¬((x.rows.length:Int)≤64) by omega]
  ·simp[h,show¬(64<(x.rows.length:Int)) by omega]
 rw[e1,e2,e3]
 generalize aP (λj a=>(pR x.rows x j a).nice) 1 (Int.toNat ((x.rows.length:Int)-0)) 0 ()=z
 cases x.use<;>cases z<;>cases(x.k==0)<;>cases(x.l==0)<;>cases decide ((x.rows.length:Int)≤64)<;>simp[PX,Stp.elim]
theorem IZ (k:Keys):tL.f (k,())=dZ.f (k,()):=by
 simp only[PX,tL,dZ,de,Ol,EJ,bO,aq]
 cases ht:k.two<;>simp only[PX,cond_true,cond_false,ht]<;>cases jo.f (k.now,())<;>cases jo.f (k.before,())<;>grind
theorem IW (x n:Int)(h:bits .and .u64 (IntKind.wrap .u64 n) 63=n):df.f (x,n,())=kf.f (x,n,()):=by
 simp only[PX,df,kf,h]
theorem I6 (x:Sipr):iC.f (x,())=j2.f (x,()):=by
 simp only[PX,iC,j2,IW _ 13 (by decide+kernel),IW _ 16 (by decide+kernel),IW _ 17 (by decide+kernel),IW _ 21 (by decide+kernel),IW _ 32 (by decide+kernel)]
theorem MG (x:Sipr)(m:Int):ug.f (x,m,())=uF.f (x,m,()):=by
 simp only[PX,ug,uF,I6]
theorem Vr (k l:Int):wj.f (k,l,())=rm.f (k,l,()):=by simp only[PX,wj,rm]
theorem aa0 (x:Sipr):CI.f (x,())=uu.f (x,()):=by
 simp only[PX,CI,uu,kL,I6]
 have e:(λ(j:Int) a=>(tC j a).nice)=λ_ a=>Stp.next (j2.f (a,())):=rfl
 rw[e]
 generalize FT.f j2=R
 rfl
theorem qC (n:Int)(h0:0≤n)(h1:n<2 ^ 64):IntKind.u64.wrap n=n:=by rw[zr];omega
theorem or8 (a b:Int)(ha:0≤a)(ha1:a<72057594037927936)(hb:0≤b)(hb1:b<256):bits .or .u64 (IntKind.wrap .u64 (a*256)) (IntKind.wrap .u64 b)=a*256+b:=by
 rw[qC _ (by omega) (by omega),qC _ (by omega) (by omega)]
 exact bits_join .u64 64 (by decide) qC 8 _ _ (by omega) (by omega) (by omega) (by omega) (by omega) (by omega)
def Jd (g:Nat→Int):Nat→Int→Int
 |0,a=>a
 |k+1,a=>Jd g k (a*256+g k)
theorem Eb {g h:Nat→Int}:∀(k:Nat) (a:Int),(∀j,j<k→g j=h j)→Jd g k a=Jd h k a
 |0,_,_=>rfl
 |k+1,a,e=>by simp only[Jd,e k (Nat.lt_succ_self _)];exact Eb k _ λj hj=>e j (by omega)
theorem Hu {g:Nat→Int}:∀(k:Nat) (a:Int),Jd g k a=a*256 ^ k+Jd g k 0
 |0,a=>by simp[Jd]
 |k+1,a=>by
  simp only[Jd]
  rw[Hu k (a*256+g k),Hu k (0*256+g k),Int.pow_succ,Int.add_mul,Int.zero_mul,Int.zero_add,Int.mul_assoc,Int.mul_comm 256 (256 ^ k),Int.add_assoc]
theorem aax (k:Nat):(1:Int)≤256 ^ k:=by
 have:=Int.pow_pos (n:=256) (m:=k) (by decide)
 omega
theorem Zf {g:Nat→Int}(hg:∀k,0≤g k∧g k≤255):∀(k:Nat),0≤Jd g k 0∧Jd g k 0<256 ^ k
 |0=>by simp[Jd]
 |k+1=>by
  have h:=Zf hg k
  simp only[Jd]
  rw[Hu,Int.zero_mul,Int.zero_add,Int.pow_succ]
  have h1:=hg k
  have h2:=aax k
  have h3:0≤g k*256 ^ k:=Int.mul_nonneg h1.1 (by omega)
  have h4:g k*256 ^ k≤255*256 ^ k:=Int.mul_le_mul_of_nonneg_right h1.2 (by omega)
  omega
theorem H6 {f:Int→Int→Stp Int Empty}{g:Nat→Int}(hg:∀k,0≤g k∧g k≤255)(hf:∀(k:Nat) a,f (k:Int) a= .next (bits .or .u64 (IntKind.wrap .u64 (a*256)) (IntKind.wrap .u64 (g k)))):
  ∀(k:Nat) (a:Int),0≤a→(a+1)*256 ^ k≤18446744073709551616→aP f (-1) k ((k:Int)-1) a= .next (Jd g k a)
 |0,a,_,_=>rfl
 |k+1,a,h0,h1=>by
  have hp:=aax k
  rw[Int.pow_succ,Int.mul_comm (256 ^ k) 256,←Int.mul_assoc]at h1
  have h2:(a+1)*256*1≤(a+1)*256*256 ^ k:=Int.mul_le_mul_of_nonneg_left hp (by omega)
  have h3:=hg k
  simp only[aP,Jd]
  rw[show((k+1:Nat):Int)-1=(k:Int) by omega,hf,or8 a (g k) h0 (by omega) h3.1 (by omega)]
  simp only[Stp.elim]
  rw[show(k:Int)+ -1=(k:Int)-1 by omega]
  refine H6 hg hf k _ (by omega) ?_
  have h4:(a*256+g k+1)*256 ^ k≤(a+1)*256*256 ^ k:=Int.mul_le_mul_of_nonneg_right (by omega) (by omega)
  omega
theorem zN (s:ae)(k:Nat):0≤ah s k∧ah s k≤255:=gv s k
theorem Ml (s:ae)(h:s.length≤8):qY.f (s,())=Jd (ah s) s.length 0:=by
 simp only[PX,qY,oI]
 rw[aj (by omega) (by omega)]
 rw[show Int.toNat ((s.length:Int)-1-0+1)=s.length by omega]
 rw[H6 (g:=ah s) (zN s) (λk a=>rfl) s.length 0 (by omega) ?_]
 ·rfl
 ·have:∀k:Nat,k≤8→(0+1:Int)*256 ^ k≤18446744073709551616:=by decide
  exact this _ h
theorem MB (l:List Int)(h:∀k,0≤l.getD k 0∧l.getD k 0≤255):rO.f (l,())=Jd (λk=>l.getD k 0) 8 0:=by
 simp only[PX,rO,oQ]
 rw[show Int.toNat (7-0+1)=8 from rfl,show(7:Int)=((8:Nat):Int)-1 from rfl]
 rw[H6 (g:=λk=>l.getD k 0) h (λk a=>rfl) 8 0 (by omega) (by decide)]
 rfl
theorem Ku {A B W W':Type}[Inhabited W][Inhabited W']{f:A→Stp A W}{g:B→Stp B W'}{R:A→B→Prop}{Q:W→W'→Prop}{ma:A→Nat}{mb:B→Nat}
  (h:∀a b,R a b→(∃a' b',f a= .next a'∧g b= .next b'∧R a' b'∧ma a'<ma a∧mb b'<mb b)∨(∃w w',f a= .out w∧g b= .out w'∧Q w w')):
  ∀(m m':Nat) (a:A) (b:B),ma a<m→mb b<m'→R a b→Q (bZ f m a) (bZ g m' b)
 |0,_,_,_,h1,_,_=>absurd h1 (Nat.not_lt_zero _)
 |_+1,0,_,_,_,h2,_=>absurd h2 (Nat.not_lt_zero _)
 |m+1,m'+1,a,b,h1,h2,hr=>by
  rcases h a b hr with⟨a',b',e1,e2,hr',l1,l2⟩|⟨w,w',e1,e2,hq⟩
  ·simp only[bZ,e1,e2,Stp.elim]
   exact Ku h m m' a' b' (by omega) (by omega) hr'
  ·simp only[bZ,e1,e2,Stp.elim]
   exact hq
theorem Y1 {g:Nat→Int}(k:Nat)(a:Int):Jd g (k+1) a=Jd g k (a*256+g k):=rfl
theorem ZM {α:Type}{xs:List α}{j:Nat}(h:j<xs.length)(v z:α):(xs.set j v).getD j z=v:=by
 simp[List.getD,List.getElem?_set,h]
theorem yM (s:ae)(k:Nat):(iE s).getD k 0=ah s k:=by
 simp only[iE,ah,List.getD,List.getElem?_map]
 cases s[k]? <;>rfl
theorem Fd (s:ae)(n k:Nat):ah (s.drop n) k=ah s (n+k):=by
 simp only[ah,List.getD,List.getElem?_drop]
theorem P5 (s:ae)(n k:Nat)(h:k<n):ah (s.take n) k=ah s k:=by
 simp only[ah,List.getD,List.getElem?_take,if_pos h]
theorem E6 (s:ae)(k:Nat)(h:s.length≤k):ah s k=0:=by
 simp[ah,List.getD,h]
theorem Ww {g:Nat→Int}(r:Nat):∀(m:Nat),(∀j,r≤j→j<r+m→g j=0)→Jd g (r+m) 0=Jd g r 0
 |0,_=>rfl
 |m+1,h=>by
  rw[show r+(m+1)=(r+m)+1 from rfl]
  simp only[Jd]
  rw[h (r+m) (by omega) (by omega)]
  exact Ww r m λj h1 h2=>h j h1 (by omega)
theorem Oa (k:IntKind)(a b:Int):bits .or k a b=bits .or k b a:=by
 simp only[bits,BitVec.or_comm]
def adi (x:ae)(a:Int×Sipr)(b:List Int×Sipr):Prop:=0≤a.1∧a.1≤x.length∧b.1=iE (x.drop a.1.toNat)∧a.2=b.2
theorem RA (s:ae)(n:Nat):(iE s).drop n=iE (s.drop n):=by simp[iE]
theorem YC (x:ae)(hx:x.length≤4294967296)(z:Sipr):adi x (bZ (λa=>(jS x (x.length:Int) a).nice) (Int.toNat ((x.length:Int)-0)+1) (0,z)) (bZ (λa=>(mG a).nice) ((iE x).length+1) (iE x,z))∧
  (x.length:Int)<(bZ (λa=>(jS x (x.length:Int) a).nice) (Int.toNat ((x.length:Int)-0)+1) (0,z)).1+8:=by
  refine Ku (R:=adi x) (Q:=λw w'=>adi x w w'∧(x.length:Int)<w.1+8) (ma:=λa=>Int.toNat ((x.length:Int)-a.1)) (mb:=λb=>b.1.length) ?_ _ _ _ _ ?_ ?_ ?_
  ·intro a b hr
   obtain⟨h1,h2,h3,h4⟩:=hr
   have hb:(b.1.length:Int)=(x.length:Int)-a.1:=by rw[h3,oC,List.length_drop];omega
   simp only[PX,jS,mG]
   rw[aj (by omega) (by omega)]
   cases hd:decide (a.1+8≤(x.length:Int))with
   |true=>
    simp only[decide_eq_true_eq]at hd
    rw[show decide (8≤(b.1.length:Int))=true by simp only[decide_eq_true_eq];omega]
    refine .inl ⟨_,_,rfl,rfl,⟨?_, ?_, ?_, ?_⟩, ?_, ?_⟩
    ·simp only[];omega
    ·simp only[];omega
    ·simp only[]
     rw[ac,List.take_length,h3,RA,List.drop_drop,show(a.1+8).toNat=a.1.toNat+8 by omega]
    ·have e:qY.f ((x.take (a.1+8).toNat).drop a.1.toNat,())=rO.f (b.1,()):=by
      have hl:((x.take (a.1+8).toNat).drop a.1.toNat).length=8:=by rw[List.length_drop,List.length_take];omega
      rw[Ml _ (by omega),hl,MB _ (λk=>by rw[h3,yM];exact zN _ _)]
      refine Eb 8 0 λj hj=> ?_
      rw[h3,yM,Fd,Fd,P5 _ _ _ (by omega)]
     simp only[e,h4,MG]
    ·simp only[];omega
    ·simp only[ac,List.take_length,List.length_drop];omega
   |false=>
    simp only[decide_eq_false_iff_not]at hd
    rw[show decide (8≤(b.1.length:Int))=false by simp only[decide_eq_false_iff_not];omega]
    exact .inr ⟨_,_,rfl,rfl,⟨h1,h2,h3,h4⟩,by show(x.length:Int)<a.1+8;omega⟩
  ·exact Nat.lt_succ_self _
  ·exact Nat.lt_succ_self _
  ·exact⟨by simp,by simp,by simp,rfl⟩
theorem Zh (x:ae)(hx:x.length≤4294967296)(p:Int)(q:List Int)(h1:0≤p)(h2:p≤x.length)(h3:q=iE (x.drop p.toNat))(h5:(x.length:Int)<p+8):
  bits .or .u64 (qY.f (x.drop p.toNat,())) (IntKind.wrap .u64 ((IntKind.wrap .u64 ((x.length:Int).tmod 256))*72057594037927936))=rO.f ((q++(List.replicate 8 0).drop q.length).set 7 (IntKind.wrap .u8 (x.length:Int)),()):=by
 have hl:(x.drop p.toNat).length=x.length-p.toNat:=by simp
 have hq:q.length=x.length-p.toNat:=by rw[h3,oC,hl]
 generalize hy:x.drop p.toNat=y at h3 hl
 have hy8:y.length≤7:=by omega
 rw[Ml y (by omega)]
 have hb7:IntKind.u8.wrap (x.length:Int)=(x.length:Int)%256:=qA _
 have hm:IntKind.u64.wrap ((x.length:Int).tmod 256)=(x.length:Int)%256:=by
  rw[(gZ 256).1 (by omega),qC _ (by omega) (by omega)]
 rw[hb7,hm]
 have hg:∀k,((q++(List.replicate 8 (0:Int)).drop q.length).set 7 ((x.length:Int)%256)).getD k 0=if k=7 then(x.length:Int)%256 else ah y k:=by
  intro k
  by_cases e:k=7
  ·subst e
   rw[if_pos rfl]
   exact ZM (by simp;omega) _ _
  ·rw[if_neg e,List.getD,List.getElem?_set_ne (by omega)]
   by_cases hk:k<q.length
   ·rw[List.getElem?_append_left hk,h3,←List.getD_eq_getElem?_getD,yM]
   ·rw[List.getElem?_append_right (by omega),List.getElem?_drop,List.getElem?_replicate,E6 y k (by omega)]
    split<;>rfl
 rw[MB _ (λk=>by
  rw[hg]
  split
  ·omega
  ·exact zN _ _)]
 have hbd:=Zf (g:=ah y) (zN y) y.length
 have hp7:(256:Int) ^ y.length≤72057594037927936:=by
  have:∀k:Nat,k≤7→(256:Int) ^ k≤72057594037927936:=by decide
  exact this _ hy8
 have e1:Jd (λk=>((q++(List.replicate 8 (0:Int)).drop q.length).set 7 ((x.length:Int)%256)).getD k 0) 8 0=((x.length:Int)%256)*72057594037927936+Jd (ah y) y.length 0:=by
  refine(Y1 7 0).trans ?_
  rw[hg 7,if_pos rfl,Hu,Int.zero_mul,Int.zero_add,show(256:Int) ^ 7=72057594037927936 from rfl]
  congr 1
  rw[Eb 7 0 (h:=ah y) λj hj=>by rw[hg,if_neg (by omega)]]
  have:=Ww (g:=ah y) y.length (7-y.length) λj h1 _=>E6 y j h1
  rw[show y.length+(7-y.length)=7 by omega]at this
  exact this
 rw[e1,Oa,qC ((x.length:Int)%256*72057594037927936) (by omega) (by omega)]
 exact bits_join .u64 64 (by decide) qC 56 _ _ (by omega) (by omega) (by omega) (by omega) (by omega) (by omega)
theorem Yj (k l:Int)(x:ae)(hx:x.length≤4294967296):zw.f (k,l,x,())=nR.f (k,l,x,()):=by
 simp only[PX,zw,nR,ng,mM,Vr,List.length_replicate]
 generalize rm.f (k,l,())=z
 have key:=YC x hx z
 generalize bZ (λa=>(jS x (x.length:Int) a).nice) (Int.toNat ((x.length:Int)-0)+1) (0,z)=p at key⊢
 generalize bZ (λa=>(mG a).nice) ((iE x).length+1) (iE x,z)=q at key⊢
 obtain⟨⟨h1,h2,h3,h4⟩,h5⟩:=key
 have hq:q.1.length=x.length-p.1.toNat:=by rw[h3,oC,List.length_drop]
 have ht:q.1.take 8=q.1:=List.take_of_length_le (by omega)
 obtain⟨p,pz⟩:=p
 obtain⟨q,qz⟩:=q
 simp only[PX,ht,aa0,MG]at*
 rw[h4,show((x.take (x.length:Int).toNat).drop p.toNat)=x.drop p.toNat by rw[ac,List.take_length]]
 rw[Zh x hx p q h1 h2 h3 h5]
theorem ab6 (m:Mac)(x:ae)(hx:x.length≤4294967296):Hx.f (m,x,())=p6.f (m,x,()):=by
 simp only[PX,Hx,p6,qd,na,Yj _ _ _ hx]
 rw[show aP (λj a=>(uM x m j a).nice) 1 (Int.toNat ((m.rows.length:Int)-0)) 0 ()=aP (λj a=>(kq x m.rows j a).nice) 1 (Int.toNat ((m.rows.length:Int)-0)) 0 () from TZ (λi a=>by
  simp only[PX,uM,kq]
  generalize(m.rows.getD i.toNat (Ty.zero .macRow))=r
  cases(r.input==x)with
  |false=>rfl
  |true=>
   simp only[cond_true]
   have h1:=gZ (a:=r.value) 16777216
   rcases Int.lt_or_le r.value 0 with h|h
   ·have e:=h1.2 h
    generalize r.value.tmod 16777216=t at e
    rw[aj (by omega) (by omega)]
    cases hd:decide (t<0)with
    |true=>simp only[decide_eq_true_eq]at hd;simp only[cond_true];rw[(gZ 16777216).1 (by omega),Int.emod_eq_of_lt (by omega) (by omega)]
    |false=>simp only[decide_eq_false_iff_not]at hd;simp only[cond_false];rw[(gZ 16777216).1 (by omega),show t=0 by omega];rfl
   ·have e:=h1.1 h
    generalize r.value.tmod 16777216=t at e
    rw[aj (by omega) (by omega)]
    cases hd:decide (t<0)with
    |true=>simp only[decide_eq_true_eq]at hd;omega
    |false=>simp only[cond_false];rw[(gZ 16777216).1 (by omega)];congr 1;omega) _ _ _]
theorem NX (t:Tupl)(a b c:Int):(fC.f (t,a,b,c,())).length≤40:=(fC.c.h (t,a,b,c,()) trivial).2
theorem Ke (m:Mac)(t:Tupl)(a b c:Int):rE.f (m,t,a,b,c,())=jA.f (m,t,a,b,c,()):=by
 simp only[PX,rE,jA,TD]
 rw[ab6 _ _ (by have:=NX t a b c;omega)]
theorem Et (m:Mac):ka.f (m,())=m:=by simp only[PX,ka,List.nil_append]
theorem u9 (m:Mac):jP.f (m,())=m:=by simp only[PX,jP,nA]
theorem U8 (k:Keys)(e:Int):wo.f (k,e,())=nH.f (k,e,()):=by
 simp only[PX,wo,nH,Et,u9]
theorem ab8 (f:Int→Unit→Stp Unit (Int⊕Unit))(g:Int→Unit→Stp Unit Int)(E:Int)(h0:0≤E)(h1:E≤4294967295)
  (hfg:∀e,E-1≤e→f e ()=Stp.elim (λ_=> .next ()) (λw=> .out (.inl w)) (g e ()))(hend:∀e,e<E-1→f e ()= .out (.inr ()))(i:Int):
  Stp.elim (λ_=>((0:Int),(0:Int),false)) (Sum.elim (λp=>(p,i,true)) (λ_=>(0,0,false))) (aP f (-1) (Int.toNat (E-0+1)) E ())=
  Stp.elim (λ_=>(0,0,false)) (λp=>(p,i,true)) (aP g (-1) (Int.toNat (E-(if 0<(IntKind.wrap .i64 (E-1))then(IntKind.wrap .i64 (E-1))else 0)+1)) E ()):=by
 rw[aj (by omega) (by omega)]
 rcases(show E=0∨E=1∨2≤E by omega)with rfl|rfl|h
 ·rw[if_neg (by omega),show Int.toNat (0-0+1)=1 from rfl]
  simp only[aP,hfg 0 (by omega)]
  cases g 0 ()<;>rfl
 ·rw[if_neg (by omega),show Int.toNat (1-0+1)=2 from rfl]
  simp only[aP,hfg 1 (by omega),show(1:Int)+ -1=0 from rfl,hfg 0 (by omega)]
  cases g 1 ()with
  |out w=>rfl
  |next a=>simp only[Stp.elim];cases g 0 ()<;>rfl
 ·rw[if_pos (by omega),show Int.toNat (E-(E-1)+1)=2 by omega]
  obtain⟨m,hm⟩:∃m:Nat,Int.toNat (E-0+1)=m+3:=⟨Int.toNat (E-2),by omega⟩
  rw[hm]
  simp only[aP,hfg E (by omega),hfg (E+ -1) (by omega),hend (E+ -1+ -1) (by omega)]
  cases g E ()with
  |out w=>rfl
  |next a=>simp only[Stp.elim];cases g (E+ -1) ()<;>rfl
theorem Gp (x:Int):decide ((gt.f (x,())).2.1<0)= !af.f (x,32,()):=by
 simp only[PX,gt,bO]
 cases hd:(decide (0≤x)&&decide (x≤4294967295))with
 |false=>rfl
 |true=>
  simp only[Bool.and_eq_true,decide_eq_true_eq]at hd
  simp only[Bool.not_true,cond_false]
  rw[(DJ 16777216).1 hd.1,aj (by omega) (by omega),(gZ 8).1 (by omega)]
  simp only[decide_eq_false_iff_not]
  omega
theorem vh (k:Keys)(h:dZ.f (k,())=true):0≤k.epoch∧k.epoch≤4294967295:=by
 simp only[PX,dZ,aq]at h
 revert h
 cases k.two<;>simp only[PX,cond_true,cond_false]<;>grind
theorem Lr (k:Keys)(t:Tupl)(a b:Int):oO.f (k,t,a,b,())=bC.f (k,t,a,b,()):=by
 simp only[PX,oO,bC,iz,iH,IZ,LI,Gp]
 cases hk:dZ.f (k,())with
 |false=>rfl
 |true=>
  simp only[Bool.not_true,cond_false]
  cases af.f (b,32,())with
  |false=>rfl
  |true=>
   simp only[Bool.not_true,cond_false]
   have he:=vh k hk
   refine ab8 _ _ k.epoch he.1 he.2 (λe h=> ?_) (λe h=> ?_) _
   ·simp only[PX,lL,rG]
    rw[aj (by omega) (by omega)]
    simp only[U8,Ke,decide_eq_true h,cond_true]
    cases(nH.f (k,e,())).2 with
    |false=>rfl
    |true=>
     simp only[cond_true]
     cases(jA.f ((nH.f (k,e,())).1,t,a,e,(gt.f (b,())).2.1,())==b)<;>rfl
   ·simp only[PX,lL]
    rw[aj (by omega) (by omega)]
    simp only[decide_eq_false (show¬(k.epoch-1≤e) by omega),cond_false]
theorem pe (x:Segm):im.f (x,())=ai.f (x,()):=by simp only[PX,im,ai,de,ii]
theorem aat (x:Int):fp.f (0,x,())=(if 0<x then x else 0):=by
 rw[lP];grind
theorem UW (d:Door)(t:Tupl)(g:Segm):vN.f (d,t,g,())=nM.f (d,t,g,()):=by
 simp only[PX,vN,nM,y9]
 cases(g.opts.mss==0)<;>simp only[PX,cond_true,cond_false]<;>simp only[TX,Ke,aat]
theorem YW (a b:Int)(c:Bool):Aa.f (a,b,c,())=nK.f (a,b,c,()):=by
 simp only[PX,Aa,nK,aq,rK]
 cases c<;>simp only[PX,cond_true,cond_false]<;>simp only[bA,l0]<;>cases(decide (0≤b)&&decide (b≤14))<;>simp only[cond_true,cond_false,Bool.not_true,Bool.not_false,dj]<;>omega
theorem Gf (o:Opti)(c:Int):le.f (o,c,())=fY.f (o,c,()):=by
 simp only[PX,le,fY,bA,aq]
 cases(decide (0≤o.scale)&&decide (o.scale≤14))<;>simp only[PX,cond_true,cond_false]<;>simp only[YW]
theorem ZJ (d:Door)(t:Tupl)(g:Segm):DN.f (d,t,g,())=ey.f (d,t,g,()):=by
 simp only[PX,DN,ey,UW,iZ,Gf]
theorem D4 {A W:Type}{f:Int→A→Stp A W}{st:Int}:∀(k:Nat) (i:Int) (a:A) (w:W),aP f st k i a= .out w→∃(n:Nat) (b:A),n<k∧f (i+st*(n:Int)) b= .out w
 |0,_,_,_,h=>by cases h
 |k+1,i,a,w,h=>by
  simp only[aP]at h
  cases hf:f i a with
  |out w'=>rw[hf]at h;simp only[Stp.elim]at h;cases h;exact⟨0,a,by omega,by simpa using hf⟩
  |next a'=>
   rw[hf]at h
   obtain⟨n,b,h1,h2⟩:=D4 k (i+st) a' w h
   exact⟨n+1,b,by omega,by rw[show i+st*((n+1:Nat):Int)=i+st+st*(n:Int) by rw[Int.natCast_add,Int.mul_add];omega];exact h2⟩
theorem BO {A W:Type}{f:Int→A→Stp A W}{st:Int}{P:A→Prop}(hp:∀i a a',P a→f i a= .next a'→P a'):∀(k:Nat) (i:Int) (a a':A),P a→aP f st k i a= .next a'→P a'
 |0,_,_,_,ha,h=>by cases h;exact ha
 |k+1,i,a,a',ha,h=>by
  simp only[aP]at h
  cases hf:f i a with
  |out w'=>rw[hf]at h;cases h
  |next a1=>rw[hf]at h;exact BO hp k _ a1 a' (hp i a a1 ha hf) h
theorem X8 (x:Sipr):0≤uu.f (x,()):=by
 simp only[PX,uu,kL]
 cases aP (λj a=>(tC j a).nice) 1 (Int.toNat (4-0)) 0 ({x with c:=(bits .xor .u64 x.c 255)}:Sipr)with
 |next a=>exact(Dd .xor .u64 _ _ (.inr (.inr (.inl rfl)))).1
 |out e=>exact Empty.elim e
theorem Ud (k l:Int)(x:ae):0≤nR.f (k,l,x,()):=by
 simp only[PX,nR]
 exact X8 _
theorem aey (s:Int)(h:0≤s):0≤IntKind.wrap .i64 (s.tmod 16777216)∧IntKind.wrap .i64 (s.tmod 16777216)≤16777215:=by
 have h1:=Nf (b:=16777216) h
 have h2:=Hd (a:=s) (show(0:Int)<16777216 by omega)
 rw[aj (by omega) (by omega)];omega
theorem aep (r:Int):0≤(IntKind.wrap .i64 (r.tmod 16777216+16777216)).tmod 16777216∧(IntKind.wrap .i64 (r.tmod 16777216+16777216)).tmod 16777216≤16777215:=by
 have h1: -16777216<r.tmod 16777216:=Int.lt_tmod_of_pos _ (by omega)
 have h2:=Hd (a:=r) (show(0:Int)<16777216 by omega)
 rw[aj (by omega) (by omega)]
 have h3:=Nf (a:=r.tmod 16777216+16777216) (b:=16777216) (by omega)
 have h4:=Hd (a:=r.tmod 16777216+16777216) (show(0:Int)<16777216 by omega)
 omega
theorem XJ (m:Mac)(x:ae)(k:Nat)(i:Int)(w:Int)(hf:aP (λj a=>(kq x m.rows j a).nice) 1 k i ()= .out w):0≤w∧w≤16777215:=by
 obtain⟨n,b,_,h⟩:=D4 _ _ _ _ hf
 simp only[PX,kq]at h
 revert h
 generalize(m.rows.getD (i+1*(n:Int)).toNat (Ty.zero .macRow))=r
 cases(r.input==x)with
 |false=>simp only[cond_false];intro h;cases h
 |true=>simp only[cond_true];intro h;injection h with h;rw[←h];exact aep r.value
theorem aaJ (m:Mac)(x:ae):p6.f (m,x,())=bif !m.use then IntKind.wrap .i64 ((nR.f (m.k,m.l,x,())).tmod 16777216)else Stp.elim (λ_=>0) (λp=>p) (aP (λj a=>(kq x m.rows j a).nice) 1 (Int.toNat ((m.rows.length:Int)-0)) 0 ()):=by
 simp only[PX,p6,na]
theorem aek (u:Bool)(s:Int)(z:Stp Unit Int)(hs:0≤s)(hk:∀w,z= .out w→0≤w∧w≤16777215):
  0≤(bif !u then IntKind.wrap .i64 (s.tmod 16777216)else Stp.elim (λ_=>0) (λp=>p) z)∧(bif !u then IntKind.wrap .i64 (s.tmod 16777216)else Stp.elim (λ_=>0) (λp=>p) z)≤16777215:=by
 cases u with
 |false=>simp only[Bool.not_false,cond_true];exact aey s hs
 |true=>
  simp only[Bool.not_true,cond_false]
  cases z with
  |next a=>simp only[Stp.elim];omega
  |out w=>exact hk w rfl
theorem MT (m:Mac)(x:ae):0≤p6.f (m,x,())∧p6.f (m,x,())≤16777215:=by
 rw[aaJ]
 exact aek m.use _ _ (Ud m.k m.l x) (XJ m x (Int.toNat ((m.rows.length:Int)-0)) 0)
theorem T6 (n:Int)(h:af.f (n,32,())=true):(au.f (n,4,())).length=4:=by
 simp only[PX,au,aq,eE,show IntKind.wrap .i64 (8*4)=32 from rfl,h,show(decide ((1:Int)≤4)&&decide ((4:Int)≤6))=true from rfl,Bool.not_true,cond_false,show IntKind.wrap .i64 (4-1)=3 from rfl,show Int.toNat (3-0+1)=4 from rfl,show Int.toNat 4=4 from rfl]
 cases hf:aP (λj a=>(dI j a).nice) (-1) 4 3 (n,List.replicate 4 0)with
 |out e=>exact Empty.elim e
 |next a=>
  have:=BO (P:=λa:Int×List Int=>a.2.length=4) (λi a a' ha h=>by
   simp only[PX,dI]at h
   cases h
   simpa using ha) _ _ _ _ (by simp) hf
  simp only[PX,Stp.elim,bq]
  exact this
theorem T5 (t:Tupl)(h:az.f (t,())=true):(0≤t.ip∧t.ip≤4294967295)∧(0≤t.port∧t.port≤65535)∧(0≤t.my∧t.my≤65535):=by
 simp only[PX,az,bO,cY]at h
 revert h
 cases h1:(decide (0≤t.ip)&&decide (t.ip≤4294967295))<;>cases h2:(decide (0≤t.port)&&decide (t.port≤65535))<;>simp only[cond_true,cond_false,Bool.and_eq_true,decide_eq_true_eq]at* <;>simp_all
theorem RT (t:Tupl)(seq e i:Int)(ht:az.f (t,())=true)(hs:0≤seq∧seq≤4294967295)(he:0≤e∧e≤4294967295)(hi:0≤i∧i≤7):(fC.f (t,seq,e,i,())==[])=false:=by
 have h1:=T6 t.ip (by rw[bO];have:=(T5 t ht).1;simp[this])
 simp only[PX,fC,ht,bO,aq,decide_eq_true hs.1,decide_eq_true hs.2,decide_eq_true he.1,decide_eq_true he.2,decide_eq_true hi.1,decide_eq_true hi.2,Bool.and_self,Bool.not_true,cond_false]
 generalize au.f (t.ip,4,())=a at*
 match a,h1 with
 |x::r,_=>simp
theorem Qz (m:Mac)(t:Tupl)(seq e i:Int)(ht:az.f (t,())=true)(hs:0≤seq∧seq≤4294967295)(he:0≤e∧e≤4294967295)(hi:0≤i∧i≤7):
  jA.f (m,t,seq,e,i,())=(e%32)*134217728+i*16777216+p6.f (m,fC.f (t,seq,e,i,()),()):=by
 simp only[PX,jA,RT t seq e i ht hs he hi,cond_false]
 have h:=MT m (fC.f (t,seq,e,i,()))
 rw[(gZ 32).1 he.1,aj (m:=e%32*134217728) (by omega) (by omega),aj (m:=i*16777216) (by omega) (by omega),aj (m:=e%32*134217728+i*16777216) (by omega) (by omega),aj (by omega) (by omega)]
theorem ND (x:Int):0≤iI.f (x,())∧iI.f (x,())≤7:=by
 simp only[PX,iI,dX]
 cases hf:aP (λj a=>(k9 x j a).nice) (-1) (Int.toNat (7-0)) 7 ()with
 |next a=>simp[PX,Stp.elim]
 |out w=>
  obtain⟨n,b,hn,h⟩:=D4 _ _ _ _ hf
  simp only[PX,k9]at h
  simp only[PX,Stp.elim]
  rw[show Int.toNat (7-0)=7 from rfl]at hn
  revert h
  cases decide (fS.f (7+ -1*(n:Int),())≤x)with
  |false=>simp only[cond_false];intro h;cases h
  |true=>simp only[cond_true];intro h;cases h;omega
theorem Ew (o:Opti)(c:Int)(ho:eB.f (o,())=true):eB.f (fY.f (o,c,()),())=true:=by
 have hv:∀a b:Int,∀s:Bool,0≤nK.f (a,b,s,())∧nK.f (a,b,s,())≤4294967295:=by
  intro a b s
  simp only[PX,nK,rK]
  cases s<;>simp only[cond_true,cond_false]<;>cases a9.f (b,0,14,())<;>simp only[Bool.not_true,Bool.not_false,cond_true,cond_false]<;>omega
 simp only[PX,eB,bA,SG,R7]at ho⊢
 simp only[PX,fY,aq]
 have h1:=hv c o.scale o.sack
 cases hst:o.stamp with
 |false=>simp[PX]
 |true=>
  simp only[hst,Bool.not_true,cond_false]at ho⊢
  revert ho
  cases(decide (0≤o.mss)&&decide (o.mss≤65535))<;>cases(decide (-1≤o.scale)&&decide (o.scale≤14))<;>cases hval:(decide (0≤o.val)&&decide (o.val≤4294967295))<;>simp only[cond_true,cond_false]<;>intro ho
  all_goals first|(exfalso;exact Bool.noConfusion ho)|skip
  cases(decide (0≤o.scale)&&decide (o.scale≤14))<;>simp only[PX,cond_true,cond_false]<;>simp only[decide_eq_true h1.1,decide_eq_true h1.2,ho,hval,Bool.and_self,cond_true]<;>rfl
def dW {T:Type}(p:T→Bool)(xs:List T):Int:=match xs.findIdx? p with|none=> -1|some i=>(i:Int)
theorem jh {T:Type}(p:T→Bool)(xs:List T){f:Int→Unit→Stp Unit Int}(h:∀(j:Nat) x a,xs[j]? =some x→f j a=bif p x then .out (j:Int)else .next ()):
  aP f 1 (Int.toNat ((xs.length:Int)-0)) 0 ()=match xs.findIdx? p with|none=> .next ()|some i=> .out (i:Int):=by
 rw[aA,bu xs _ rfl h,j4 (w:=λj _=>(j:Int))]
 cases hf:xs.findIdx? p with
 |none=>rfl
 |some i=>
  obtain⟨h1,_,_⟩:=List.findIdx?_eq_some_iff_getElem.1 hf
  simp only[List.getElem?_eq_getElem h1,Nat.zero_add]
theorem kD {T:Type}(p:T→Bool)(xs:List T):decide (0≤dW p xs)=xs.any p:=by
 unfold dW
 cases h:xs.findIdx? p with
 |none=>
  rw[List.findIdx?_eq_none_iff]at h
  symm
  show xs.any p=false
  rw[List.any_eq_false]
  intro x hx;simp[h x hx]
 |some i=>
  obtain⟨h1,h2,_⟩:=List.findIdx?_eq_some_iff_getElem.1 h
  have:xs.any p=true:=by rw[List.any_eq_true];exact⟨xs[i],List.getElem_mem h1,h2⟩
  rw[this];simp
theorem abB {T:Type}(p:T→Bool)(xs:List T):decide (dW p xs<0)= !xs.any p:=by
 rw[←kD]
 by_cases h:0≤dW p xs
 ·rw[decide_eq_true h,decide_eq_false (by omega)];rfl
 ·rw[decide_eq_false h,decide_eq_true (by omega)];rfl
theorem Df {T:Type}(p:T→Bool)(xs:List T)(j:Nat)(x:T)(hx:xs[j]? =some x)(hp:p x=true):(dW p xs != (j:Int))=(xs.take j).any p:=by
 obtain⟨hj,rfl⟩:=List.getElem?_eq_some_iff.1 hx
 unfold dW
 cases h:xs.findIdx? p with
 |none=>
  rw[List.findIdx?_eq_none_iff]at h
  have:=h _ (List.getElem_mem hj)
  rw[hp]at this;cases this
 |some i=>
  obtain⟨h1,h2,h3⟩:=List.findIdx?_eq_some_iff_getElem.1 h
  simp only[]
  rw[Bool.eq_iff_iff]
  simp only[bne_iff_ne,ne_eq,List.any_eq_true]
  constructor
  ·intro hne
   have hij:i<j:=by
    rcases Nat.lt_or_ge i j with h4|h4
    ·exact h4
    ·have h5:j<i:=by omega
     have:=h3 j h5
     simp[hp]at this
   refine⟨xs[i], ?_,h2⟩
   rw[List.mem_take_iff_getElem]
   exact⟨i,by omega,rfl⟩
  ·rintro⟨y,hy,hpy⟩ he
   rw[List.mem_take_iff_getElem]at hy
   obtain⟨k,hk,rfl⟩:=hy
   have:k<i:=by omega
   have:=h3 k this
   simp[hpy]at this
def jx (t y:Tupl):Bool:=(y.ip==t.ip)&&((y.port==t.port)&&((y.my==t.my)&&true))
theorem o9 (t:Tupl):jx t t=true:=by simp[jx]
theorem rU (xs:List Half)(t:Tupl):iP.f (xs,t,())=dW (λh=>jx t h.tuple) xs:=by
 simp only[PX,iP,ll]
 rw[jh (λh:Half=>jx t h.tuple) xs (λj x a h=>by
  simp only[PX,wC,ac,getD_some h,jx])]
 unfold dW
 cases xs.findIdx? (λh=>jx t h.tuple)<;>rfl
theorem ew (xs:List Half)(t:Tupl):ax.f (xs,t,())=dW (λh=>jx t h.tuple) xs:=by
 simp only[PX,ax,ez,bj]
 rw[jh (λh:Half=>jx t h.tuple) xs (λj x a h=>by
  simp only[PX,fK,u6,ac,getD_some h,jx])]
 unfold dW
 cases xs.findIdx? (λh=>jx t h.tuple)<;>rfl
theorem vM (xs:List Half)(t:Tupl):iP.f (xs,t,())=ax.f (xs,t,()):=by rw[rU,ew]
theorem JZ (x:Tabl)(t:Tupl):d6.f (x,t,())=dW (λh=>jx t h.tuple) x.conns:=by
 simp only[PX,d6,k8]
 rw[jh (λh:Conn=>jx t h.tuple) x.conns (λj x a h=>by
  simp only[PX,wL,ac,getD_some h,jx])]
 unfold dW
 cases x.conns.findIdx? (λh=>jx t h.tuple)<;>rfl
theorem eJ (x:Tabl)(t:Tupl):ar.f (x,t,())=dW (λh=>jx t h.tuple) x.conns:=by
 simp only[PX,ar,eC,bh]
 rw[jh (λh:Conn=>jx t h.tuple) x.conns (λj x a h=>by
  simp only[PX,fH,vU,ac,getD_some h,jx])]
 unfold dW
 cases x.conns.findIdx? (λh=>jx t h.tuple)<;>rfl
theorem iy (x:Tabl)(t:Tupl):d6.f (x,t,())=ar.f (x,t,()):=by rw[JZ,eJ]
theorem n5 (x:Recv):gz.f (x,())=bp.f (x,()):=by
 simp only[PX,gz,bp,aat]
theorem Tn (x:Recv)(h:(x.data.length:Int)≤32):bp.f (x,())≤32:=by
 simp only[PX,bp]
 cases x.done with
 |true=>simp only[cond_true];omega
 |false=>
  simp only[cond_false]
  rw[aj (by omega) (by omega)]
  split<;>omega
theorem nZ (x:Sndr):fg.f (x,())=ba.f (x,()):=by
 simp only[PX,fg,ba,de,bA,aq]
def eb (L:Int):Int→List Piec→Option Int
 |a,[]=>some a
 |a,p::r=>bif (p.text==[])||decide (p.off≤a)||decide (L<p.off+(p.text.length:Int))then none else eb L (p.off+(p.text.length:Int)) r
theorem Rg (L:Int):∀(r:List Piec) (a b:Int),eb L a r=some b→a≤b∧(a≤L→b≤L)
 |[],a,b,h=>by cases h;exact⟨Int.le_refl _,λh=>h⟩
 |p::r,a,b,h=>by
  simp only[eb]at h
  cases hc:((p.text==[])||decide (p.off≤a)||decide (L<p.off+(p.text.length:Int)))with
  |true=>rw[hc]at h;cases h
  |false=>
   rw[hc]at h
   simp only[Bool.or_eq_false_iff,decide_eq_false_iff_not]at hc
   have:=Rg L r _ b h
   omega
theorem Er (L M:Int)(hLM:L≤M):∀(r:List Piec) (a:Int),a≤L→eb L a r=(match eb M a r with|some b=>bif decide (b≤L)then some b else none|none=>none)
 |[],a,h=>by simp only[eb,decide_eq_true h,cond_true]
 |p::r,a,h=>by
  simp only[eb]
  cases h1:((p.text==[])||decide (p.off≤a))with
  |true=>simp only[Bool.true_or,cond_true]
  |false=>
   simp only[Bool.false_or]
   by_cases h2:L<p.off+(p.text.length:Int)
   ·rw[decide_eq_true h2]
    simp only[cond_true]
    by_cases h3:M<p.off+(p.text.length:Int)
    ·rw[decide_eq_true h3];rfl
    ·rw[decide_eq_false h3]
     simp only[cond_false]
     cases hw:eb M (p.off+(p.text.length:Int)) r with
     |none=>rfl
     |some b=>
      have:=(Rg M r _ b hw).1
      simp only[]
      rw[decide_eq_false (by omega)]
      rfl
   ·rw[decide_eq_false h2,decide_eq_false (show¬M<p.off+(p.text.length:Int) by omega)]
    simp only[cond_false]
    exact Er L M hLM r _ (by omega)
def aX (xs:List Piec):Prop:=∀y∈xs,y.text.length≤4611686018427387904
theorem aX.getD {xs:List Piec}(h:aX xs)(i:Nat):(xs.getD i (Ty.zero .piec)).text.length≤4611686018427387904:=P9 (p:=λy:Piec=>y.text.length≤4611686018427387904) (by decide+kernel) h i
theorem Qv {s:ae}(h:(s==[])=false):0<s.length:=by
 cases s with
 |nil=>cases h
 |cons=>simp
theorem A4 {W:Type}{F:Nat→Piec→Int→Stp Int W}{L:Int}{w:W}:∀(r:List Piec) (j:Nat) (a:Int),0≤a→a≤32→L≤32→(∀p∈r,∀j a,0≤a→a≤32→(∃w,(p.text==[]||decide (p.off≤a)||decide (L<p.off+(p.text.length:Int)))=true∧F j p a= .out w)∨((p.text==[]||decide (p.off≤a)||decide (L<p.off+(p.text.length:Int)))=false∧F j p a= .next (p.off+(p.text.length:Int))))→
  (match eb L a r with|some b=>dh F j r a= .next b|none=>∃w,dh F j r a= .out w)
 |[],j,a,_,_,_,_=>rfl
 |p::r,j,a,h0,h1,hL,hF=>by
  rcases hF p List.mem_cons_self j a h0 h1 with⟨w,hc,hf⟩|⟨hc,hf⟩
  ·simp only[eb,hc,cond_true,dh,hf,Stp.elim]
   exact⟨w,rfl⟩
  ·simp only[eb,hc,cond_false,dh,hf,Stp.elim]
   simp only[Bool.or_eq_false_iff,decide_eq_false_iff_not]at hc
   exact A4 (w:=w) r (j+1) _ (by omega) (by omega) hL λq hq=>hF q (List.mem_cons_of_mem _ hq)
theorem ac9 (x:Recv)(L:Int)(hL:L≤32)(hs:aX x.held):match eb L 0 x.held with|some b=>aP (λj a=>(eP L x j a).nice) 1 (Int.toNat ((x.held.length:Int)-0)) 0 0= .next b|none=>∃w,aP (λj a=>(eP L x j a).nice) 1 (Int.toNat ((x.held.length:Int)-0)) 0 0= .out w:=by
 rw[aA,bu x.held _ rfl (F:=λj p a=>(eP L {x with held:=[p]} 0 a).nice) (by
  intro j p a h
  simp only[PX,eP,ac,getD_some h]
  rfl)]
 refine A4 (w:=(0:Int)) _ _ _ (by omega) (by omega) hL λp hp j a h0 h1=> ?_
 have hl:=hs p hp
 simp only[PX,eP,show Int.toNat 0=0 from rfl,List.getD_cons_zero]
 cases h2:(p.text==[])with
 |true=>exact .inl ⟨_,rfl,rfl⟩
 |false=>
  have hp:=Qv h2
  cases h3:decide (p.off≤a)with
  |true=>exact .inl ⟨_,rfl,rfl⟩
  |false=>
   simp only[decide_eq_false_iff_not]at h3
   simp only[cond_false,Bool.false_or]
   by_cases h4:L<p.off
   ·refine .inl ⟨a,decide_eq_true (by omega), ?_⟩
    rw[decide_eq_true h4];rfl
   ·rw[decide_eq_false h4,aj (by omega) (by omega)]
    simp only[cond_false]
    by_cases h5:L<p.off+(p.text.length:Int)
    ·rw[decide_eq_true h5];exact .inl ⟨_,rfl,rfl⟩
    ·rw[decide_eq_false h5];exact .inr ⟨rfl,rfl⟩
theorem TN (x:Recv)(L:Int)(hL0: -9223372036854775808≤L-4611686018427387904)(hL:L≤32)(hs:aX x.held):match eb L 0 x.held with|some b=>aP (λj a=>(dN L x.held j a).nice) 1 (Int.toNat ((x.held.length:Int)-0)) 0 0= .next b|none=>∃w,aP (λj a=>(dN L x.held j a).nice) 1 (Int.toNat ((x.held.length:Int)-0)) 0 0= .out w:=by
 rw[aA,bu x.held _ rfl (F:=λj p a=>(dN L [p] 0 a).nice) (by
  intro j p a h
  simp only[PX,dN,ac,getD_some h]
  rfl)]
 refine A4 (w:=()) _ _ _ (by omega) (by omega) hL λp hp j a h0 h1=> ?_
 have hl:=hs p hp
 simp only[PX,dN,show Int.toNat 0=0 from rfl,List.getD_cons_zero]
 cases h2:(p.text==[])with
 |true=>exact .inl ⟨_,rfl,rfl⟩
 |false=>
  have hp:=Qv h2
  cases h3:decide (p.off≤a)with
  |true=>exact .inl ⟨_,rfl,rfl⟩
  |false=>
   simp only[decide_eq_false_iff_not]at h3
   simp only[cond_false,Bool.false_or]
   rw[aj (m:=L-(p.text.length:Int)) (by omega) (by omega)]
   by_cases h5:L<p.off+(p.text.length:Int)
   ·rw[decide_eq_true h5,decide_eq_true (by omega)];exact .inl ⟨_,rfl,rfl⟩
   ·rw[decide_eq_false h5,decide_eq_false (by omega),aj (by omega) (by omega)];exact .inr ⟨rfl,rfl⟩

end
end Go.Proofs.YtfpdenjmlnhnnaaGreat
