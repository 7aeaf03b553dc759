/-
  Contracts of functions and plain laws (printed by a program): each theorem says what a function of the program returns; conditions are its hypotheses.
-/
import Derived.Test.YteiiknfadjnmgaaGreatEK1
set_option linter.all false
set_option maxRecDepth 4000
namespace Go.Proofs.YteiiknfadjnmgaaGreat
open Go Go.RowKit
noncomputable section
noncomputable def kQ:=[nV,sN,kW,gO,Fa,Dd,IH]
def lk:Sh:=⟨[zi 1,zs 2,zb 3,zp 4 0,zp 8 1,zp 9 2,zi 10,zp 11 3,zp 12 4,(13,false,[.fn 464 [4,3]]),zp 15 5,zl 42 .piec,zi 43,zi 44,zi 50,zi 51],[zg .recv,.box [.st .recv [.nil .piec]],zk .recv 6,.box [.own 7],.box [.own 8],zx .piec,zf,za .u8,za .bool]⟩
def nr:Sh:=⟨[zi 1,zs 2,zb 3,zp 4 0,zp 8 1,zp 9 2,zi 10,zp 11 3,zp 12 4,(13,false,[.fn 464 [4,3]]),zl 42 .piec,zi 43,zi 44],[zg .recv,.box [.st .recv [.nil .piec]],zk .recv 5,.box [.own 6],.box [.own 7],zf,za .u8,za .bool]⟩
def oe:Sh:=⟨[zi 1,zs 2,zb 3,zp 4 0,zp 8 1,zp 9 2,zi 10,zp 11 3,zp 12 4,(13,false,[.fn 464 [4,3]]),zi 67,zi 68],[zg .recv,.box [.st .recv [.nil .piec]],zk .recv 5,.box [.own 6],.box [.own 7],zf,za .u8,za .bool]⟩
def ni:Sh:=⟨[zp 4 0,zp 8 1,zp 9 2,zi 10,zp 11 3,zp 12 4,zp 19 5,zi 21],[zg .recv,.box [.st .recv [.nil .piec]],zk .recv 6,.box [.own 7],.box [.sl .any .bool],zg .recv,zf,za .u8]⟩
def lh:Sh:=⟨[zp 8 0,zp 9 1,zi 10,zp 11 2,zp 12 3,zp 19 4,zi 21,zi 22,zi 23],[.box [.st .recv [.nil .piec]],zk .recv 5,.box [.own 6],.box [.sl .any .bool],zk .recv 7,zf,za .u8,zf]⟩
def n3:Sh:=⟨[zp 8 0,zp 9 1,zi 10,zp 11 2,zp 12 3,zp 19 4,zi 21,zi 22],[.box [.st .recv [.nil .piec]],zk .recv 5,.box [.own 6],.box [.sl .any .bool],zk .recv 7,zf,za .u8,zf]⟩
def uS:An:=⟨⟨[],[],false,0⟩,⟨[4,8,9,10,11,12,19],[],false,0⟩,⟨[],[]⟩,[(.normal,⟨[zp 4 0,zp 8 1,zp 9 2,zi 10,zp 11 3,zp 12 4,zp 19 5],[zg .recv,.box [.st .recv [.nil .piec]],zk .recv 6,.box [.own 7],.box [.sl .any .bool],zg .recv,zf,za .u8]⟩)]⟩
def pn:An:=⟨⟨[],[],false,0⟩,⟨[8,9,10,11,12,19,21],[],false,0⟩,⟨[],[]⟩,[(.normal,⟨[zp 8 0,zp 9 1,zi 10,zp 11 2,zp 12 3,zp 19 4,zi 21],[.box [.st .recv [.nil .piec]],zk .recv 5,.box [.own 6],.box [.sl .any .bool],zg .recv,zf,za .u8]⟩)]⟩
noncomputable def kH:Fx:=⟨421,Tryz.f421,[(2,lb [1,2,3,4,8,9,10,11,12,13,15,42,43,44,50,51] [1,2,3,4,8,9,10,11,12,13,42,43,44]),(0,lb [1,2,3,4,8,9,10,11,12,13,42,43,44] [1,2,3,4,8,9,10,11,12,13]),(4,la ⟨[1,2,3,4,8,9,10,11,12,13,67,68],[],false,0⟩ ⟨[1,2,3,4,8,9,10,11,12],[.softb 12 0],false,0⟩),(6,lb [4,8,9,10,11,12,19,21] [4,8,9,10,11,12,19,21]),(10,lb [8,9,10,11,12,19,21,22,23] [8,9,10,11,12,19,21,22,23]),(8,la ⟨[8,9,10,11,12,19,21,22],[.box 19 2 .piec],false,0⟩ ⟨[8,9,19],[],false,0⟩),(1000123,uS),(1000152,pn),(3000002,rA 0 32),(3000021,rA 0 90),(3000026,rA 0 123)],0⟩
noncomputable def oL (vb12:Piec)(vb8:Int)(a:Recv×List Int×List Bool):Tr (Stp (Recv×List Int×List Bool) (Empty)):=
 .grd (cj vb12.text vb8)<|
 .cal gP.c ((IntKind.wrap .i64 (vb12.off+vb8)),(ai vb12.text vb8.toNat),a.2.2,a.2.1,()) λc5=>
 .ret (.next (({a.1 with held:=[]}:Recv),c5.2,c5.1))
noncomputable def dG:lk.V→qc lk (Recv×List Int×List Bool):=λ(vb0,vb1,vb2,vb3,vb4,vb5,vb6,vb7,vb8,vb9,vb10,vb11,vb12,vb13,vb14,_)=>⟨vb8,(vb10,vb13,vb14),λvb8 a=>(vb0,vb1,vb2,vb3,vb4,vb5,vb6,vb7,vb8,vb9,a.1,vb11,vb12,a.2.1,a.2.2,()),λvb8 _=>(decide (vb8<vb7)),oL vb12,up,1,(Int.toNat (vb7-vb8)),Empty.elim,Prod.mk,oN (.exit 2) ⟨[zi 1,zs 2,zb 3,zp 4 0,zp 8 1,zp 9 2,zi 10,zp 11 3,zp 12 4,(13,false,[.fn 464 [4,3]]),zl 42 .piec,zi 43,zi 44],[zg .recv,.box [.st .recv [.nil .piec]],zk .recv 5,.box [.own 6],.box [.own 7],zf,za .u8,za .bool]⟩ (λx=>(vb0,vb1,vb2,vb3,vb4,vb5,vb6,vb9,({x.2.1 with held:=[]}:Recv),vb11,x.2.2.1,x.2.2.2,()))⟩
theorem FS:LS Tryz.prog kH [0,0] (fv 2 lk dG):=cI st (aH kQ) _ dG [] trivial
theorem FB {vb0 vb3 vb5 vb6 vb7 vb8:Int}{vb1:aa}{vb2:Bool}{vb4:List Piec}{vb9 vb10 vb11:Recv}{vb12:Piec}{vb13:List Int}{vb14:List Bool}(h0:0≤vb8)(h1:vb7≤4611686018427387904)(h2:1≤vb12.off∧vb12.off+(vb12.text.length:Int)≤vb3)(h3:vb3≤32)(h4:j8 vb12)(h5:vb7≤(vb12.text.length:Int))(h6:ay vb10∧sS vb13∧sS vb14∧vb13.length=vb14.length∧(vb14.length:Int)=vb3):(dG (vb0,vb1,vb2,vb3,vb4,vb5,vb6,vb7,vb8,vb9,vb10,vb11,vb12,vb13,vb14,())).U vb7 (λvb8 a=>ay a.1∧sS a.2.1∧sS a.2.2∧a.2.1.length=a.2.2.length∧(a.2.2.length:Int)=vb3) (λ_=>True):=
 iT (a:=(vb10,vb13,vb14)) h0 h1 h6
noncomputable def ik (v0:Int)(v1:aa)(v2:Bool)(v3:Int)(v4:List Piec)(v5:Int)(v7 v9:Recv)(v6:Int)(a:Recv×List Int×List Bool):Tr (Stp (Recv×List Int×List Bool) (Empty)):=
 .grd (cj v4 v6)<|
 .lp (dG (v0,v1,v2,v3,v4,v5,v6,(((v4.getD v6.toNat (Ty.zero .piec)).text).length:Int),0,v7,({a.1 with held:=[]}:Recv),v9,(v4.getD v6.toNat (Ty.zero .piec)),a.2.1,a.2.2,())).lp λ(_,a6_0,a6_1,a6_2)=>
 .ret (.next (({({a6_0 with held:=[]}:Recv)with held:=[]}:Recv),a6_1,a6_2))
noncomputable def fV:nr.V→qc nr (Recv×List Int×List Bool):=λ(v0,v1,v2,v3,v4,v5,v6,v7,v8,v9,v10,v11,_)=>⟨v6,(v8,v10,v11),λv6 a=>(v0,v1,v2,v3,v4,v5,v6,v7,a.1,v9,a.2.1,a.2.2,()),λv6 _=>(decide (v6<v5)),ik v0 v1 v2 v3 v4 v5 v7 v9,up,1,(Int.toNat (v5-v6)),Empty.elim,Prod.mk,oN (.exit 0) ⟨[zi 1,zs 2,zb 3,zp 4 0,zp 8 1,zp 9 2,zi 10,zp 11 3,zp 12 4,(13,false,[.fn 464 [4,3]])],[zg .recv,.box [.st .recv [.nil .piec]],zk .recv 5,.box [.own 6],.box [.own 7],zf,za .u8,za .bool]⟩ (λx=>(v0,v1,v2,v3,v7,({x.2.1 with held:=[]}:Recv),v9,x.2.2.1,x.2.2.2,()))⟩
theorem NB:LS Tryz.prog kH [0] (fv 0 nr fV):=cI st (aH kQ) _ fV [(fv 2 lk dG)] ⟨FS,trivial⟩
theorem Mq {v0 v3 v5 v6:Int}{v1:aa}{v2:Bool}{v4:List Piec}{v7 v8 v9:Recv}{v10:List Int}{v11:List Bool}(h0:0≤v6)(h1:v5≤4611686018427387904)(h2:cX (pw v3) v4)(h3:v3≤32)(h4:sS v1)(h5:sL j8 v4)(h6:ay v7)(h7:ay v9)(h8:v5≤(v4.length:Int))(h9:ay v8∧sS v10∧sS v11∧v10.length=v11.length∧(v11.length:Int)=v3):(fV (v0,v1,v2,v3,v4,v5,v6,v7,v8,v9,v10,v11,())).U v5 (λv6 a=>ay a.1∧sS a.2.1∧sS a.2.2∧a.2.1.length=a.2.2.length∧(a.2.2.length:Int)=v3) (λ_=>True):=
 LC.okU (i:=v6) (a:=(v8,v10,v11)) (λ_ _=>rfl) (λ_=>rfl) rfl h0 h1 h9 λv6 (v8,v10,v11) hj hk hv=>by
  refine Tr.G2 ?_ λg0=>Tr.L (FB ?_ ?_ ?_ ?_ ?_ ?_ ?_) (λ(a6_0,a6_1,a6_2) i6=>Tr.Rn ?_) (λp=>Empty.elim p)
  all_goals ((try simp only[dG,LC.lp,LC.ct,Ct.lp]at*)<;>(have hp:=afR (i:=v6.toNat) h2 (by omega);simp only[pw]at hp;grind))
noncomputable def nv (v0:Int)(v1:aa)(v3:Int)(v6:Recv)(v5:Int)(a:Recv×List Int×List Bool):Tr (Stp (Recv×List Int×List Bool) (Empty)):=
 .val (bR.f (v0,v5,())) λc8=>
 .val (tP.f (c8,v6.next,())) λc9=>
 .bnd (β:=Bool×Unit) (.ite (decide (c9<v3)) (.ite (v6.fin==(-1)) (.ret (true,()))<|
   .ret ((decide (c9<v6.fin)),()))<|
  .ret (false,())) λ(u10a0,_)=>
 .ite u10a0 (.grd (cj v1 v5)<|
  .cal gP.c (c9,(ai v1 v5.toNat),a.2.2,a.2.1,()) λc11=>
  .ret (.next (({a.1 with held:=[]}:Recv),c11.2,c11.1)))<|
 .ret (.next (({a.1 with held:=[]}:Recv),a.2.1,a.2.2))
noncomputable def fN:oe.V→qc oe (Recv×List Int×List Bool):=λ(v0,v1,v2,v3,v4,v5,v6,v7,v8,v9,v10,_)=>⟨v5,(v7,v9,v10),λv5 a=>(v0,v1,v2,v3,v4,v5,v6,a.1,v8,a.2.1,a.2.2,()),λv5 _=>(decide (v5<v4)),nv v0 v1 v3 v6,up,1,(Int.toNat (v4-v5)),Empty.elim,Prod.mk,oN (.exit 4) ⟨[zi 1,zs 2,zb 3,zp 4 0,zp 8 1,zp 9 2,zi 10,zp 11 3,zp 12 4],[zg .recv,.box [.st .recv [.nil .piec]],zk .recv 5,.box [.own 6],.box [.sl .any .bool],zf,za .u8]⟩ (λx=>(v0,v1,v2,v3,v6,({x.2.1 with held:=[]}:Recv),v8,x.2.2.2,x.2.2.1,()))⟩
theorem JX:LS Tryz.prog kH [1] (fv 4 oe fN):=cI st (aH kQ) _ fN [] trivial
theorem K7 {v0 v3 v4 v5:Int}{v1:aa}{v2:Bool}{v6 v7 v8:Recv}{v9:List Int}{v10:List Bool}(h0:0≤v5)(h1:v4≤4611686018427387904)(h2:v3≤32)(h3:sS v1)(h4:ay v6)(h5:v4≤(v1.length:Int))(h6:ay v7∧sS v9∧sS v10∧v9.length=v10.length∧(v10.length:Int)=v3):(fN (v0,v1,v2,v3,v4,v5,v6,v7,v8,v9,v10,())).U v4 (λv5 a=>ay a.1∧sS a.2.1∧sS a.2.2∧a.2.1.length=a.2.2.length∧(a.2.2.length:Int)=v3) (λ_=>True):=
 iT (a:=(v7,v9,v10)) h0 h1 h6
noncomputable def sP (v5:List Bool)(v1:Int)(a:Recv):Tr (Stp (Recv) ((Int×Recv))):=
 .grd (cj v5 v1)<|
 .ite (v5.getD v1.toNat false) (.ret (.next ({a with held:=[]}:Recv)))<|
 .ret (.out (v1,({a with held:=[]}:Recv)))
noncomputable def eL:ni.V→qF ni Recv (Int×Recv):=λ(v0,v1,v2,v3,v4,v5,v6,v7,_)=>⟨v1,v3,λv1 a=>(v0,v1,v2,a,v4,v5,v6,v7,()),λv1 _=>(decide (v1<v0)),sP v5,up,1,(Int.toNat (v0-v1)),.inl,eR,oB (.exit 6) ⟨[zp 4 0,zp 8 1,zp 9 2,zi 10,zp 11 3,zp 12 4,zp 19 5,zi 21],[zg .recv,.box [.st .recv [.nil .piec]],zk .recv 6,.box [.own 7],.box [.sl .any .bool],zg .recv,zf,za .u8]⟩ (λp=>(v0,p.1,v2,p.2,v4,v5,v6,v7,())) (.exit 6) ⟨[zp 4 0,zp 8 1,zp 9 2,zi 10,zp 11 3,zp 12 4,zp 19 5,zi 21],[zg .recv,.box [.st .recv [.nil .piec]],zk .recv 6,.box [.own 7],.box [.sl .any .bool],zg .recv,zf,za .u8]⟩ (λx=>(v0,x.1,v2,({x.2 with held:=[]}:Recv),v4,v5,v6,v7,()))⟩
theorem Ks:LS Tryz.prog kH [2] (fv 6 ni eL):=cI st (aH kQ) _ eL [] trivial
theorem NA {v0 v1:Int}{v2 v3 v4 v6:Recv}{v5:List Bool}{v7:List Int}(h0:0≤v1)(h1:v0≤4611686018427387904)(h2:sS v5)(h3:v0≤(v5.length:Int))(h4:ay v3):(eL (v0,v1,v2,v3,v4,v5,v6,v7,())).U v0 (λv1 a=>ay a) (λp=>ay p.2∧v1≤p.1∧p.1<v0):=
 iT (a:=v3) h0 h1 h4
noncomputable def oV (vb6:List Bool)(vb2:Int)(a:Recv):Tr (Stp (Recv) ((Int×Recv))):=
 .grd (cj vb6 vb2)<|
 .ite (vb6.getD vb2.toNat false) (.ret (.next ({a with held:=[]}:Recv)))<|
 .ret (.out (vb2,({a with held:=[]}:Recv)))
noncomputable def ev:lh.V→qF lh Recv (Int×Recv):=λ(vb0,vb1,vb2,vb3,vb4,vb5,vb6,vb7,vb8,_)=>⟨vb2,vb4,λvb2 a=>(vb0,vb1,vb2,vb3,a,vb5,vb6,vb7,vb8,()),λvb2 _=>(decide (vb2<vb0)),oV vb6,up,1,(Int.toNat (vb0-vb2)),.inl,eR,oB (.exit 10) ⟨[zp 8 0,zp 9 1,zi 10,zp 11 2,zp 12 3,zp 19 4,zi 21,zi 22,zi 23],[.box [.st .recv [.nil .piec]],zk .recv 5,.box [.own 6],.box [.sl .any .bool],zk .recv 7,zf,za .u8,zf]⟩ (λp=>(vb0,vb1,p.1,vb3,p.2,vb5,vb6,vb7,vb8,())) (.exit 10) ⟨[zp 8 0,zp 9 1,zi 10,zp 11 2,zp 12 3,zp 19 4,zi 21,zi 22,zi 23],[.box [.st .recv [.nil .piec]],zk .recv 5,.box [.own 6],.box [.sl .any .bool],zk .recv 7,zf,za .u8,zf]⟩ (λx=>(vb0,vb1,x.1,vb3,({x.2 with held:=[]}:Recv),vb5,vb6,vb7,vb8,()))⟩
theorem Ff:LS Tryz.prog kH [3,0] (fv 10 lh ev):=cI st (aH kQ) _ ev [] trivial
theorem E6 {vb0 vb1 vb2 vb3:Int}{vb4 vb5 vb7:Recv}{vb6:List Bool}{vb8:List Int}(h0:0≤vb2)(h1:vb0≤4611686018427387904)(h2:vb3=vb2)(h3:vb6.getD vb3.toNat false=true)(h4:sS vb6)(h5:vb0≤(vb6.length:Int))(h6:ay vb4):(ev (vb0,vb1,vb2,vb3,vb4,vb5,vb6,vb7,vb8,())).U vb0 (λvb2 a=>ay a) (λp=>ay p.2∧vb2≤p.1∧p.1<vb0∧vb3<p.1):=
 iT (a:=vb4) h0 h1 h6
noncomputable def fP (v0 v1:Int)(v4:Recv)(v5:List Bool)(v7:List Int)(a:Int×Recv×Recv):Tr (Stp (Int×Recv×Recv) ((Recv×Recv))):=
 .ite (decide (a.1<v0)) (.grd (cj v5 a.1)<|
  .ite (!(v5.getD a.1.toNat false)) (.ret (.next ((IntKind.wrap .i64 (a.1+1)),({a.2.1 with held:=[]}:Recv),a.2.2)))<|
  .lp (ev (v0,v1,a.1,a.1,({a.2.1 with held:=[]}:Recv),v4,v5,a.2.2,v7,())).lp λw22=> .sum w22 (λ(p22a0,p22a1)=>
  .grd (JQ v7 a.1 p22a0)<|
  .grd (qq a.2.2.held 1 24)<|
  .val (a.2.2.held++[(⟨(IntKind.wrap .i64 (a.1-v1)),(aw ((v7.take p22a0.toNat).drop a.1.toNat))⟩:Piec)]) λl23=>
  .ret (.next (p22a0,({p22a1 with held:=[]}:Recv),({a.2.2 with held:=l23}:Recv))))<|
  λ(n22,a22_0)=>
  .grd (JQ v7 a.1 n22)<|
  .grd (qq a.2.2.held 1 24)<|
  .val (a.2.2.held++[(⟨(IntKind.wrap .i64 (a.1-v1)),(aw ((v7.take n22.toNat).drop a.1.toNat))⟩:Piec)]) λl24=>
  .ret (.next (n22,({({a22_0 with held:=[]}:Recv)with held:=[]}:Recv),({a.2.2 with held:=l24}:Recv))))<|
 .ret (.out (({a.2.1 with held:=[]}:Recv),a.2.2))
noncomputable def dS:n3.V→LW n3 (Int×Recv×Recv) ((Recv×Recv)):=λ(v0,v1,v2,v3,v4,v5,v6,v7,_)=>⟨(v2,v3,v6),λa=>(v0,v1,a.1,a.2.1,v4,v5,a.2.2,v7,()),fP v0 v1 v4 v5 v7,Int.toNat (v0-v2),oN (.exit 8) ⟨[zp 8 0,zp 9 1,zp 19 2],[.box [.st .recv [.nil .piec]],zk .recv 3,zk .recv 4,zf,zf]⟩ (λp=>(p.1,v4,p.2,()))⟩
theorem Nd:LS Tryz.prog kH [3] (leW 8 n3 dS):=Ux st (aH kQ) _ dS [(fv 10 lh ev)] ⟨Ff,trivial⟩
theorem zV {v0 v1 v2:Int}{v3 v4 v6:Recv}{v5:List Bool}{v7:List Int}(h0:v0≤32)(h1:(v5.length:Int)=v0)(h2:v7.length=v5.length)(h3:0≤v1)(h4:ay v4)(h5:sS v5)(h6:sS v7)(h7:ay v3∧ay v6∧v1≤v2∧v2≤v0∧(v6.held.length:Int)≤v2):(dS (v0,v1,v2,v3,v4,v5,v6,v7,())).W (λp=>ay p.1∧ay p.2):=
 LW.okW (a:=(v2,v3,v6)) (λa=>ay a.2.1∧ay a.2.2∧v1≤a.1∧a.1≤v0∧(a.2.2.held.length:Int)≤a.1) (λa=>Int.toNat (v0-a.1)) rfl h7 λ(v2,v3,v6) hv=>by
  refine Tr.I (λ_=>Tr.G2 ?_ λ_=>Tr.I (λ_=>Tr.Rn ?_) λ_=>Tr.L (E6 ?_ ?_ ?_ ?_ ?_ ?_ ?_) (λa22_0 _=>Tr.Sr (Tr.G3 ?_ λ_=>Tr.Gb ?_ λ_=>Tr.V λ_ _=>Tr.Rn ?_)) (λ(p22a0,p22a1) _=>Tr.Sl (Tr.G3 ?_ λ_=>Tr.Gb ?_ λ_=>Tr.V λ_ _=>Tr.Rn ?_))) λ_=>Tr.Ro ?_
  all_goals ((try simp only[ev,LC.lp,LC.ct,Ct.lp]at*)<;>grind)
noncomputable def uQ:FT (Recv×Int×aa×Bool×Unit) (Recv) (λx=>ay x.1∧sS x.2.2.1) (λx v=>ay v):=⟨λ(x0,x1,x2,x3,_)=>
  .cal gg.c (x0,()) λc1=>
  .bnd (β:=Bool×Unit) (.cal bp.c (x0,()) λc2=>
   .ite (!c2) (.ret (true,()))<|
   .ret (x0.done,())) λ(u3a0,_)=>
  .ite u3a0 (.ret c1)<|
  .cal bB.c (x0,()) λc4=>
  .grd ((((decide (0≤c4))&&(decide (c4=c4)))&&(decide (c4*1≤(bo:Int))))&&(decide (c4≤(bo:Int))))<|
  .grd ((((decide (0≤c4))&&(decide (c4=c4)))&&(decide (c4*1≤(bo:Int))))&&(decide (c4≤(bo:Int))))<|
  .lp (fV (x1,x2,x3,c4,x0.held,(x0.held.length:Int),0,x0,(⟨0,[],[],0,false⟩:Recv),c1,(List.replicate c4.toNat 0),(List.replicate c4.toNat false),())).lp λ(_,a7_0,a7_1,a7_2)=>
  .lp (fN (x1,x2,x3,c4,(x2.length:Int),0,x0,({({a7_0 with held:=[]}:Recv)with held:=[]}:Recv),c1,a7_1,a7_2,())).lp λ(_,a12_0,a12_1,a12_2)=>
  .val (bR.f (x1,(x2.length:Int),())) λc13=>
  .val (tP.f (c13,x0.next,())) λc14=>
  .bnd (β:=Bool×Unit) (.ite x3 (.ite (x0.fin==(-1)) (.ite (decide (c14≤c4)) (.grd (JQ a12_2 c14 (a12_2.length:Int))<|
      .cal fm.c (((a12_2.take ((a12_2.length:Int).toNat)).drop c14.toNat),true,()) λc15=>
      .ret ((!c15),()))<|
     .ret (false,()))<|
    .ret (false,()))<|
   .ret (false,())) λ(u16a0,_)=>
  .bnd (β:=WT uS.es) (.ite u16a0 (.ret (c4,x0,({({a12_0 with held:=[]}:Recv)with held:=[]}:Recv),c1,a12_2,({x0 with fin:=c14}:Recv),a12_1,()))<|
   .ret (c4,x0,({({a12_0 with held:=[]}:Recv)with held:=[]}:Recv),c1,a12_2,x0,a12_1,())) λ(u17a0,u17a1,u17a2,u17a3,u17a4,u17a5,u17a6,_)=>
  .lp (eL (u17a0,0,u17a1,({u17a2 with held:=[]}:Recv),u17a3,u17a4,u17a5,u17a6,())).lp λw18=> .sum w18 (λ(p18a0,p18a1)=>
  .grd ((decide (0≤p18a0))&&(decide (p18a0≤(u17a6.length:Int))))<|
  .grd (Nat.ble (u17a5.data.length+(aw ((u17a6.take p18a0.toNat).drop 0)).length) aq)<|
  .val (bR.f (u17a1.next,p18a0,())) λc19=>
  .bnd (β:=WT pn.es) (.ite (u17a5.fin != (-1)) (.ret (u17a0,p18a0,({p18a1 with held:=[]}:Recv),u17a3,u17a4,(⟨c19,(u17a5.data++(aw ((u17a6.take p18a0.toNat).drop 0))),u17a5.held,(IntKind.wrap .i64 (u17a5.fin-p18a0)),u17a5.done⟩:Recv),u17a6,()))<|
   .ret (u17a0,p18a0,({p18a1 with held:=[]}:Recv),u17a3,u17a4,({u17a5 with next:=c19,data:=(u17a5.data++(aw ((u17a6.take p18a0.toNat).drop 0)))}:Recv),u17a6,())) λ(u20a0,u20a1,u20a2,u20a3,u20a4,u20a5,u20a6,_)=>
  .lp (dS (u20a0,u20a1,u20a1,({u20a2 with held:=[]}:Recv),u20a3,u20a4,({u20a5 with held:=[]}:Recv),u20a6,())).lp λ(_,p25a1)=>
  .ite (decide (3<(p25a1.held.length:Int))) (.ret u20a3)<|
  .ite (p25a1.fin==0) (.val (bR.f (p25a1.next,1,())) λc26=>
   .ret (⟨c26,p25a1.data,p25a1.held,(-1),true⟩:Recv))<|
  .ret p25a1)<|
  λ(n18,a18_0)=>
  .grd ((decide (0≤n18))&&(decide (n18≤(u17a6.length:Int))))<|
  .grd (Nat.ble (u17a5.data.length+(aw ((u17a6.take n18.toNat).drop 0)).length) aq)<|
  .val (bR.f (u17a1.next,n18,())) λc27=>
  .bnd (β:=WT pn.es) (.ite (u17a5.fin != (-1)) (.ret (u17a0,n18,({({a18_0 with held:=[]}:Recv)with held:=[]}:Recv),u17a3,u17a4,(⟨c27,(u17a5.data++(aw ((u17a6.take n18.toNat).drop 0))),u17a5.held,(IntKind.wrap .i64 (u17a5.fin-n18)),u17a5.done⟩:Recv),u17a6,()))<|
   .ret (u17a0,n18,({({a18_0 with held:=[]}:Recv)with held:=[]}:Recv),u17a3,u17a4,({u17a5 with next:=c27,data:=(u17a5.data++(aw ((u17a6.take n18.toNat).drop 0)))}:Recv),u17a6,())) λ(u28a0,u28a1,u28a2,u28a3,u28a4,u28a5,u28a6,_)=>
  .lp (dS (u28a0,u28a1,u28a1,({u28a2 with held:=[]}:Recv),u28a3,u28a4,({u28a5 with held:=[]}:Recv),u28a6,())).lp λ(_,p29a1)=>
  .ite (decide (3<(p29a1.held.length:Int))) (.ret u28a3)<|
  .ite (p29a1.fin==0) (.val (bR.f (p29a1.next,1,())) λc30=>
   .ret (⟨c30,p29a1.data,p29a1.held,(-1),true⟩:Recv))<|
  .ret p29a1,
 λ(x0,x1,x2,x3,_) hp=>by
  refine Tr.C ?_ λc1 hc1 qc1=>Tr.B (Q':=λw=>(w.1=false→RO x0∧cX (pw (aav x0)) x0.held)) (Tr.C ?_ λc2 hc2 qc2=>Tr.I (λb0=>Tr.R ?_) λb0=>Tr.R ?_) (λ(u3a0,_) hj3 qj3=>Tr.I (λb0=>Tr.R ?_) λb0=>Tr.C ?_ λc4 hc4 qc4=>Tr.G4 ?_ λg1=>Tr.G4 ?_ λg2=>Tr.L (Mq ?_ ?_ ?_ ?_ ?_ ?_ ?_ ?_ ?_ ?_) (λ(a7_0,a7_1,a7_2) i7=>Tr.L (K7 ?_ ?_ ?_ ?_ ?_ ?_ ?_) (λ(a12_0,a12_1,a12_2) i12=>Tr.V λc13 hc13=>Tr.V λc14 hc14=>Tr.B (Q':=λ_=>True) (Tr.I (λb3=>Tr.I (λb4=>Tr.I (λb5=>Tr.G3 ?_ λg6=>Tr.C ?_ λc15 hc15 qc15=>Tr.R trivial) λb5=>Tr.R trivial) λb4=>Tr.R trivial) λb3=>Tr.R trivial) (λ(u16a0,_) hj16 qj16=>Tr.B (Q':=λw=>ay w.2.1∧ay w.2.2.1∧ay w.2.2.2.1∧sS w.2.2.2.2.1∧ay w.2.2.2.2.2.1∧sS w.2.2.2.2.2.2.1∧w.1≤32∧0≤w.1∧(w.2.2.2.2.1.length:Int)=w.1∧w.2.2.2.2.2.2.1.length=w.2.2.2.2.1.length∧w.2.2.2.2.2.1.data.length≤32) (Tr.I (λb3=>Tr.R ?_) λb3=>Tr.R ?_) (λ(u17a0,u17a1,u17a2,u17a3,u17a4,u17a5,u17a6,_) hj17 qj17=>Tr.L (NA ?_ ?_ ?_ ?_ ?_) (λa18_0 i18=>Tr.Sr (Tr.G2 ?_ λg3=>Tr.Gb ?_ λg4=>Tr.V λc27 hc27=>Tr.B (Q':=λw=>ay w.2.2.1∧ay w.2.2.2.1∧sS w.2.2.2.2.1∧ay w.2.2.2.2.2.1∧sS w.2.2.2.2.2.2.1∧w.1≤32∧0≤w.2.1∧w.2.1≤w.1∧(w.2.2.2.2.1.length:Int)=w.1∧w.2.2.2.2.2.2.1.length=w.2.2.2.2.1.length∧w.2.2.2.2.2.1.data.length≤64) (Tr.I (λb5=>Tr.R ?_) λb5=>Tr.R ?_) (λ(u28a0,u28a1,u28a2,u28a3,u28a4,u28a5,u28a6,_) hj28 qj28=>Tr.L (zV ?_ ?_ ?_ ?_ ?_ ?_ ?_ ?_) (λa=>Empty.elim a) (λ(p29a0,p29a1) hp29=>Tr.I (λb5=>Tr.R ?_) λb5=>Tr.I (λb6=>Tr.V λc30 hc30=>Tr.R ?_) λb6=>Tr.R ?_)))) (λ(p18a0,p18a1) hp18=>Tr.Sl (Tr.G2 ?_ λg3=>Tr.Gb ?_ λg4=>Tr.V λc19 hc19=>Tr.B (Q':=λw=>ay w.2.2.1∧ay w.2.2.2.1∧sS w.2.2.2.2.1∧ay w.2.2.2.2.2.1∧sS w.2.2.2.2.2.2.1∧w.1≤32∧0≤w.2.1∧w.2.1≤w.1∧(w.2.2.2.2.1.length:Int)=w.1∧w.2.2.2.2.2.2.1.length=w.2.2.2.2.1.length∧w.2.2.2.2.2.1.data.length≤64) (Tr.I (λb5=>Tr.R ?_) λb5=>Tr.R ?_) (λ(u20a0,u20a1,u20a2,u20a3,u20a4,u20a5,u20a6,_) hj20 qj20=>Tr.L (zV ?_ ?_ ?_ ?_ ?_ ?_ ?_ ?_) (λa=>Empty.elim a) (λ(p25a0,p25a1) hp25=>Tr.I (λb5=>Tr.R ?_) λb5=>Tr.I (λb6=>Tr.V λc26 hc26=>Tr.R ?_) λb6=>Tr.R ?_))))))) (λp=>Empty.elim p)) (λp=>Empty.elim p))
  all_goals ((try simp only[fV,fN,eL,dS,LC.lp,LC.ct,Ct.lp,LW.lp,LW.cw,Cw.lp,Tr.nice,iz]at*)<;>grind)⟩
noncomputable def WL:=bM st kH kQ [(fv 0 nr fV),(fv 4 oe fN),(fv 6 ni eL),(leW 8 n3 dS)] (ks:=[.st .recv,.sc (.int .i64),.sc .str,.sc .bool]) uQ (λv=>[(true,uy (.o true) v)]) Tryz.func421 ⟨NB,JX,Ks,Nd,trivial⟩
noncomputable def X1:=[cY,gL,bG]
def yR:An:=⟨⟨[],[],false,0⟩,⟨[1,2,3],[],false,0⟩,⟨[],[]⟩,[(.normal,⟨[zp 1 0,zp 2 1,zp 3 2],[zg .conn,.box [.st .conn [.nil .piec]],zk .conn 3,zf]⟩),(.ret,⟨[zp 1 0,zp 2 1,zp 3 2],[zg .conn,zk .conn 3,zk .conn 3,zf]⟩)]⟩
noncomputable def Xx:Fx:=⟨422,Tryz.f422,[(1000016,yR),(3000004,rA 0 16),(3000006,rA 0 24),(3000008,rA 0 35),(3000010,rA 0 43),(3000012,rA 0 51),(3000014,rA 0 59),(3000020,rA 0 85)],0⟩
noncomputable def tt:FT (Conn×Unit) (Conn) (λx=>ac x.1) (λx v=>ac v):= .mk λ(x0,_)=>
  .cal cc.c (x0,()) λc1=>
  .bnd (β:=Bool×Unit) (.ite (x0.state==1) (.ret (x0.r.done,()))<|
   .ret (false,())) λ(u2a0,_)=>
  .bnd (β:=WT yR.es) (.as (Sum.elim (λw=>ac w.1∧ac w.2.1∧ac w.2.2.1) (λw=>ac w.1∧ac w.2.1∧ac w.2.2.1)) (.ite u2a0 (.ret (.inl (x0,(⟨⟨0,0,0⟩,0,⟨0,[],0,false,false,false⟩,⟨0,[],[],0,false⟩,0,0,⟨0,0,false,false,0,0⟩,0,0⟩:Conn),({c1 with state:=4}:Conn),())))<|
   .bnd (β:=Bool×Unit) (.ite (x0.state==2) (.ite x0.s.done (.ret (x0.r.done,()))<|
     .ret (false,()))<|
    .ret (false,())) λ(u3a0,_)=>
   .ite u3a0 (.ret (.inl (x0,(⟨⟨0,0,0⟩,0,⟨0,[],0,false,false,false⟩,⟨0,[],[],0,false⟩,0,0,⟨0,0,false,false,0,0⟩,0,0⟩:Conn),({c1 with state:=7}:Conn),())))<|
   .bnd (β:=Bool×Unit) (.ite (x0.state==2) (.ret (x0.s.done,()))<|
    .ret (false,())) λ(u4a0,_)=>
   .ite u4a0 (.ret (.inl (x0,(⟨⟨0,0,0⟩,0,⟨0,[],0,false,false,false⟩,⟨0,[],[],0,false⟩,0,0,⟨0,0,false,false,0,0⟩,0,0⟩:Conn),({c1 with state:=3}:Conn),())))<|
   .bnd (β:=Bool×Unit) (.ite (x0.state==2) (.ret (x0.r.done,()))<|
    .ret (false,())) λ(u5a0,_)=>
   .ite u5a0 (.ret (.inl (x0,(⟨⟨0,0,0⟩,0,⟨0,[],0,false,false,false⟩,⟨0,[],[],0,false⟩,0,0,⟨0,0,false,false,0,0⟩,0,0⟩:Conn),({c1 with state:=5}:Conn),())))<|
   .bnd (β:=Bool×Unit) (.ite (x0.state==3) (.ret (x0.r.done,()))<|
    .ret (false,())) λ(u6a0,_)=>
   .ite u6a0 (.ret (.inl (x0,(⟨⟨0,0,0⟩,0,⟨0,[],0,false,false,false⟩,⟨0,[],[],0,false⟩,0,0,⟨0,0,false,false,0,0⟩,0,0⟩:Conn),({c1 with state:=7}:Conn),())))<|
   .bnd (β:=Bool×Unit) (.ite (x0.state==5) (.ret (x0.s.done,()))<|
    .ret (false,())) λ(u7a0,_)=>
   .ite u7a0 (.ret (.inl (x0,(⟨⟨0,0,0⟩,0,⟨0,[],0,false,false,false⟩,⟨0,[],[],0,false⟩,0,0,⟨0,0,false,false,0,0⟩,0,0⟩:Conn),({c1 with state:=7}:Conn),())))<|
   .ite (x0.state==6) (.ite x0.s.done (.ret (.inl (x0,(⟨⟨0,0,0⟩,0,⟨0,[],0,false,false,false⟩,⟨0,[],[],0,false⟩,0,0,⟨0,0,false,false,0,0⟩,0,0⟩:Conn),({c1 with state:=8}:Conn),())))<|
    .ret (.inr ((x0,c1,c1,()))))<|
   .ret (.inr ((x0,c1,c1,()))))) λw8=> .sum w8 (λ(u8a0,_,u8a2,_)=>
  .bnd (β:=Bool×Unit) (.as (λw=>(w.1=false→SO ({u8a2 with timer:=0}:Conn).s∧RO ({u8a2 with timer:=0}:Conn).r)) (.cal aN.c (({u8a2 with timer:=0}:Conn),()) λc9=>
   .ite (!c9) (.ret (true,()))<|
   .val (bh.f (u8a0.timer,0,4,())) λc10=>
   .ret ((!c10),()))) λ(u11a0,_)=>
  .ite u11a0 (.cal cc.c (u8a0,()) λc12=>
   .ret c12)<|
  .ite (u8a2.state==7) (.ret ({u8a2 with timer:=4,tries:=0}:Conn))<|
  .ite (u8a2.state==8) (.ret ({u8a2 with timer:=0,tries:=0}:Conn))<|
  .ret u8a2)<|
  λ(_,u8b1,_,_)=>
  .ret u8b1
noncomputable def X2:=bM st Xx X1 [] (ks:=[.st .conn]) tt (λv=>[(true,fg (.o true) v)]) Tryz.func422 trivial
noncomputable def vJ:FT (Tabl×Conn×Limi×Unit) (Tabl×Bool) (λx=>aO x.1∧ac x.2.1) (λx v=>aO v.1∧v.1.conns.length≤max x.1.conns.length 16∧v.1.waiting.length≤max x.1.waiting.length 16):= .mk λ(x0,x1,x2,_)=>
  .cal mJ.c (x0,()) λc1=>
  .cal dH.c (x1,()) λc2=>
  .grd (qq c1.conns 1 208)<|
  .grd (qq c1.waiting 1 24)<|
  .cal uX.c ((⟨(c1.conns++[c2]),(c1.waiting++[x1.tuple])⟩:Tabl),x2,()) λc3=>
  .ite (!c3) (.cal mJ.c (x0,()) λc4=>
   .ret (c4,false))<|
  .ret ((⟨(c1.conns++[c2]),(c1.waiting++[x1.tuple])⟩:Tabl),true)
noncomputable def GJ:=a9 st Tryz.func436 [uo,dD,GT] (ks:=[.st .tabl,.st .conn,.st .limi]) vJ (λv=>[(true,qw (.o true) (.o true) v.1),(false,[.c (.bool v.2)])])
noncomputable def Md:=[sZ,kX,yL,xh,R0]
noncomputable def Mn:Fx:=⟨480,Tryz.f480,[(3000004,rA 0 4)],0⟩
noncomputable def ru:FT (Conn×Segm×Unit) (Bool) (λx=>ac x.1∧ao x.2.1) (λ_ _=>True):= .mk λ(x0,x1,_)=>
  .cal i5.c (x1,()) λc1=>
  .cal gN.c (x0.r,()) λc2=>
  .ite (c1==0) (.bnd (β:=Bool×Unit) (.val (rK.f (x1.seq,x0.r.next,())) λc3=>
    .ite (c3==0) (.ret (true,()))<|
    .val (oW.f (x1.seq,x0.r.next,c2,())) λc4=>
    .ret (c4,())) λ(u5a0,_)=>
   .ret u5a0)<|
  .cal xt.c (x1.seq,c1,x0.r.next,c2,()) λc6=>
  .ret c6
noncomputable def Nw:=bM st Mn Md [] (ks:=[.st .conn,.st .segm]) ru rB Tryz.func480 trivial
noncomputable def vN:FT (Sipr×Int×Unit) (Sipr) (λ_=>True) (λ_ _=>True):= .mk λ(x0,x1,_)=>
  .cal kf.c (({x0 with d:=(bits .xor .u64 x0.d x1)}:Sipr),()) λc1=>
  .cal kf.c (c1,()) λc2=>
  .ret ({c2 with a:=(bits .xor .u64 c2.a x1)}:Sipr)
noncomputable def Vb:=a9 st Tryz.func487 [EX] (ks:=[.st .sipr,.sc (.int .u64)]) vN (λv=>[(true,Fb v)])
def BC:Sh:=⟨[zp 1 0,zi 7],[zx .sipr]⟩
noncomputable def uB (v0:Int)(a:Sipr):Tr (Stp (Sipr) (Empty)):=
 .cal kf.c (a,()) λc1=>
 .ret (.next c1)
noncomputable def lA:BC.V→qc BC Sipr:=λ(v0,v1,_)=>⟨v0,v1,λv0 a=>(v0,a,()),λv0 _=>(decide (v0<4)),uB,up,1,(Int.toNat (4-v0)),Empty.elim,Prod.mk,oN (.exit 0) ⟨[zp 1 0,zu 2],[zx .sipr]⟩ (λx=>(x.2,()))⟩
theorem OO {v0:Int}{v1:Sipr}(h0:0≤v0):(lA (v0,v1,())).U 4 (λ_ _=>True) (λ_=>True):=
 iT (a:=v1) h0 (by decide) trivial
noncomputable def uZ:FT (Sipr×Unit) (Int) (λ_=>True) (λ_ _=>True):= .mk (λ(x0,_)=>
  .lp (lA (0,({x0 with c:=(bits .xor .u64 x0.c 255)}:Sipr),())).lp λ(_,a2_0)=>
  .val (bits .xor .u64 (bits .xor .u64 (bits .xor .u64 a2_0.a a2_0.b) a2_0.c) a2_0.d) λe3=>
  .ret e3) (qm @OO)
noncomputable def Xj:=ez st Tryz.func489 [(0,lb [1,7] [1,2])] [EX] 0 lA (ks:=[.st .sipr]) uZ (λv=>[(false,[.c (.int .u64 v)])])
noncomputable def wH:FT (Conn×Tupl×Unit) (Bool) (λ_=>True) (λ_ _=>True):= .mk λ(x0,y1,_)=>
  .ret ((x0.tuple.ip==y1.ip)&&((x0.tuple.port==y1.port)&&((x0.tuple.my==y1.my)&&true)))
noncomputable def L9:=cq st ⟨148,Tryz.f148,[],1⟩ [] [] [.st .conn,.wr false [.ptr 0]] [.box [.st .tupl]] (λx y=>(x.1,y.1.1,())) wH rB (λx y v=>((y.1.1,()),())) Tryz.func148 (by kernel_rfl) trivial
noncomputable def wA:FT (Half×Tupl×Unit) (Bool) (λ_=>True) (λ_ _=>True):= .mk λ(x0,y1,_)=>
  .ret ((x0.tuple.ip==y1.ip)&&((x0.tuple.port==y1.port)&&((x0.tuple.my==y1.my)&&true)))
noncomputable def Mj:=cq st ⟨328,Tryz.f328,[],1⟩ [] [] [.st .half,.wr false [.ptr 0]] [.box [.st .tupl]] (λx y=>(x.1,y.1.1,())) wA rB (λx y v=>((y.1.1,()),())) Tryz.func328 (by kernel_rfl) trivial
noncomputable def IX:=[kw]
noncomputable def I4:Fx:=⟨57,Tryz.f57,[(4000000,la ⟨[],[],false,0⟩ ⟨[],[.softb 2 1],false,0⟩)],0⟩
noncomputable def pC:FT (Tabl×Unit) (Tabl×Tupl×Bool) (λx=>aO x.1) (λx v=>aO v.1∧v.1.conns.length=x.1.conns.length∧v.1.waiting.length≤x.1.waiting.length):= .mk λ(x0,_)=>
  .cal fC.c (x0,()) λc1=>
  .ite ((x0.waiting.length:Int)==0) (.ret (c1,(⟨0,0,0⟩:Tupl),false))<|
  .grd ((decide (1≤(c1.waiting.length:Int)))&&(decide ((c1.waiting.length:Int)≤(c1.waiting.length:Int))))<|
  .grd (decide (0<(x0.waiting.length:Int)))<|
  .ret ((⟨c1.conns,((c1.waiting.take ((c1.waiting.length:Int).toNat)).drop 1)⟩:Tabl),(x0.waiting.getD 0 (Ty.zero .tupl)),true)
noncomputable def IT:=bM st I4 IX [] (ks:=[.st .tabl]) pC (λv=>[(true,qw (.o true) .c v.1),(true,E5 v.2.1),(false,[.c (.bool v.2.2)])]) Tryz.func57 trivial
def zX:Sh:=⟨[zi 1,zp 3 0,zo 7 1,zl 14 .segm,zi 15,zi 16],[.box [.st .stac [.sl .arg,.sl .arg,.sl .arg,.sl .arg,.sl .arg,.sl .arg]],za .str]⟩
noncomputable def yu (v0:Int)(v1:List Segm)(v4:Stac)(v3:Int)(a:List aa):Tr (Stp (List aa) (Empty)):=
 .grd (cj v1 v3)<|
 .cal cE.c ((v1.getD v3.toNat (Ty.zero .segm)),v4.link.ip,v0,()) λc1=>
 .ite (c1==[]) (.ret (.next a))<|
 .cal jN.c (v4.link,v0,c1,()) λc2=>
 .ite c2.2 (.grd (qq a 1 16)<|
  .ret (.next (a++[c2.1])))<|
 .ret (.next a)
noncomputable def kn:zX.V→qc zX (List aa):=λ(v0,v1,v2,v3,v4,v5,_)=>⟨v3,v5,λv3 a=>(v0,v1,v2,v3,v4,a,()),λv3 _=>(decide (v3<v2)),yu v0 v1 v4,up,1,(Int.toNat (v2-v3)),Empty.elim,Prod.mk,oN (.exit 0) ⟨[zu 6,zo 7 0],[za .str]⟩ (λx=>(x.2,()))⟩
theorem Kf {v0 v2 v3:Int}{v1:List Segm}{v4:Stac}{v5:List aa}(h0:0≤v3)(h1:v2≤4611686018427387904)(h2:sL ao v1)(h3:ax v4)(h4:v2≤4294967296)(h5:v2≤(v1.length:Int))(h6:(v5.length:Int)≤v3∧cX sS v5):(kn (v0,v1,v2,v3,v4,v5,())).U v2 (λv3 a=>(a.length:Int)≤v3∧cX sS a) (λ_=>True):=
 iT (a:=v5) h0 h1 h6
noncomputable def rC:FT (Stac×Int×List Segm×Unit) (List aa) (λx=>ax x.1∧sL ao x.2.2.1) (λx v=>sL sS v∧v.length≤x.2.2.1.length):=⟨λ(x0,x1,x2,_)=>
  .lp (kn (x1,x2,(x2.length:Int),0,x0,[],())).lp λ(_,a3_0)=>
  .ret a3_0,
 λ(x0,x1,x2,_) hp=>by
  refine Tr.L (Kf ?_ ?_ ?_ ?_ ?_ ?_ ?_) (λa3_0 _=>Tr.R ?_) (λp=>Empty.elim p)
  all_goals ((try simp only[kn,LC.lp,LC.ct,Ct.lp]at*)<;>grind)⟩
noncomputable def zr:=ez st Tryz.func63 [(0,lb [1,3,7,14,15,16] [6,7])] [I7,Vm] 0 kn (ks:=[.st .stac,.sc (.int .i64),.sc (.sl .segm)]) rC (λv=>[(false,[sc (.o true) .str v])])
noncomputable def lL:FT (Tabl×Unit) (Tabl×Tupl×Bool) (λx=>aO x.1) (λx v=>aO v.1∧v.1.conns.length=x.1.conns.length∧v.1.waiting.length≤x.1.waiting.length):= .mk λ(x0,_)=>
  .cal mJ.c (x0,()) λc1=>
  .ite ((x0.waiting.length:Int)==0) (.ret (c1,(⟨0,0,0⟩:Tupl),false))<|
  .grd ((decide (1≤(x0.waiting.length:Int)))&&(decide ((x0.waiting.length:Int)≤(x0.waiting.length:Int))))<|
  .grd (Nat.ble ((2*(0+((x0.waiting.take ((x0.waiting.length:Int).toNat)).drop 1).length)+1024)*24) bo)<|
  .grd (decide (0<(x0.waiting.length:Int)))<|
  .ret ((⟨c1.conns,([]++((x0.waiting.take ((x0.waiting.length:Int).toNat)).drop 1))⟩:Tabl),(x0.waiting.getD 0 (Ty.zero .tupl)),true)
noncomputable def yf:=a9 st Tryz.func68 [uo] (ks:=[.st .tabl]) lL (λv=>[(true,qw (.o true) (.o true) v.1),(true,E5 v.2.1),(false,[.c (.bool v.2.2)])])
noncomputable def wD:FT (Door×Door×Unit) (Bool) (λx=>aC x.1∧aC x.2.1) (λ_ _=>True):= .mk λ(x0,x1,_)=>
  .ite (x0.port==x1.port) (.ite (x0.clock==x1.clock) (.cal wt.c (x0.keys,x1.keys,()) λc1=>
    .ite c1 (.ite ((x0.limits.halves==x1.limits.halves)&&((x0.limits.waiting==x1.limits.waiting)&&((x0.limits.conns==x1.limits.conns)&&((x0.limits.chal==x1.limits.chal)&&true)))) (.cal qY.c (x0.halves,x1.halves,()) λc2=>
      .ite c2 (.cal um.c (x0.table,x1.table,()) λc3=>
       .ite c3 (.ret (x0.chal==x1.chal))<|
       .ret false)<|
      .ret false)<|
     .ret false)<|
    .ret false)<|
   .ret false)<|
  .ret false
noncomputable def R4:=a9 st Tryz.func72 [Si,JO,OI] (ks:=[.st .door,.st .door]) wD rB
def Bg:Sh:=⟨[zp 1 0,zi 3],[.box [.st .door [.sl .arg,.sl .arg,.sl .arg,.sl .arg,.sl .arg]]]⟩
noncomputable def Bq (v1:Door)(v0:Int)(a:Unit):Tr (Stp (Unit) ((Unit))):=
 .grd (cj v1.halves v0)<|
 .cal dC.c (v1.table,(v1.halves.getD v0.toNat (Ty.zero .half)).tuple,()) λc8=>
 .ite (decide (0≤c8)) (.ret (.out ()))<|
 .ret (.next ())
noncomputable def pO:Bg.V→qF Bg Unit (Unit):=λ(v0,v1,_)=>⟨v0,(),λv0 _=>(v0,v1,()),λv0 _=>(decide (v0<(v1.halves.length:Int))),Bq v1,up,1,(Int.toNat ((v1.halves.length:Int)-v0)),.inl,eR,oB .ret ⟨[zb 2],[]⟩ (λ_=>(false,())) (.exit 0) ⟨[zu 2],[]⟩ (λ_=>())⟩
theorem OB {v0:Int}{v1:Door}(h0:0≤v0)(h1:(v1.halves.length:Int)≤4611686018427387904)(h2:aC v1):(pO (v0,v1,())).U (v1.halves.length:Int) (λ_ _=>True) (λ_=>True):=
 iT h0 h1 trivial
noncomputable def r7:FT (Door×Unit) (Bool) (λx=>aC x.1) (λx v=>(v=true→x.1.table.conns.length≤16)):= .mk (λ(x0,_)=>
  .bnd (β:=Bool×Unit) (.as (λw=>(w.1=false→0≤x0.keys.epoch∧x0.keys.epoch≤4294967295∧x0.table.conns.length≤16∧x0.table.waiting.length≤16∧x0.halves.length≤64)) (.cal aI.c (x0.port,16,()) λc1=>
   .ite (!c1) (.ret (true,()))<|
   .cal aI.c (x0.clock,32,()) λc2=>
   .ite (!c2) (.ret (true,()))<|
   .cal vF.c (x0.keys,()) λc3=>
   .ite (!c3) (.ret (true,()))<|
   .cal uX.c (x0.table,x0.limits,()) λc4=>
   .ite (!c4) (.ret (true,()))<|
   .cal pr.c (x0.halves,()) λc5=>
   .ite (!c5) (.ret (true,()))<|
   .ite (decide (x0.limits.halves<(x0.halves.length:Int))) (.ret (true,()))<|
   .val (bZ.f (x0.chal,0,x0.limits.chal,())) λc6=>
   .ret ((!c6),()))) λ(u7a0,_)=>
  .ite u7a0 (.ret false)<|
  .lp (pO (0,x0,())).lp λw9=> .sum w9 (λ_=>
  .ret false)<|
  λ_=>
  .ret true) (qm @OB)
noncomputable def vU:=ez st Tryz.func83 [(0,lb [1,3] [2]),(3000001,rA 0 51)] [ca,Cp,GT,ER,cx,ex] 0 pO (ks:=[.st .door]) r7 rB
noncomputable def gt:FT (Door×Unit) (Door) (λx=>aC x.1) (λx v=>aC v∧v.table.conns.length=x.1.table.conns.length∧v.table.waiting.length=x.1.table.waiting.length∧v.halves=x.1.halves):= .mk λ(x0,_)=>
  .cal qe.c (x0.keys,()) λc1=>
  .cal eA.c (x0.halves,()) λc2=>
  .cal fC.c (x0.table,()) λc3=>
  .ret (⟨x0.port,x0.clock,c1,x0.limits,c2,c3,x0.chal⟩:Door)
noncomputable def jR:=a9 st Tryz.func105 [Bw,tg,kw] (ks:=[.st .door]) gt (λv=>[(true,kF (.o true) (.o true) (.o true) (.o true) (.o true) v)])
noncomputable def Ia:=[yw,Dw,HS,z0,jF]
noncomputable def IJ:Fx:=⟨138,Tryz.f138,[(3000005,rA 0 45),(3000009,rA 0 79)],0⟩
noncomputable def cD:FT (aa×Int×Int×Unit) (Segm×Bool) (λx=>sS x.1∧x.1.length≤4294967200) (λx v=>ao v.1):= .mk λ(x0,x1,x2,_)=>
  .ite (decide ((x0.length:Int)<20)) (.ret ((⟨0,0,0,0,0,0,⟨0,0,false,false,0,0⟩,[]⟩:Segm),false))<|
  .grd (decide (12<(x0.length:Int)))<|
  .val (IntKind.wrap .i64 ((IntKind.wrap .i64 ((IntKind.wrap .i64 (ai x0 12)).tdiv 16))*4)) λe1=>
  .cal eB.c (x1,x2,(x0.length:Int),()) λc2=>
  .bnd (β:=Bool×Unit) (.ite (decide (e1<20)) (.ret (true,()))<|
   .ite (decide ((x0.length:Int)<e1)) (.ret (true,()))<|
   .ite (c2==[]) (.ret (true,()))<|
   .grd (Nat.ble (c2.length+x0.length) aq)<|
   .cal mv.c ((c2++x0),()) λc3=>
   .ret ((!c3),())) λ(u4a0,_)=>
  .ite u4a0 (.ret ((⟨0,0,0,0,0,0,⟨0,0,false,false,0,0⟩,[]⟩:Segm),false))<|
  .grd ((decide (20≤e1))&&(decide (e1≤(x0.length:Int))))<|
  .cal lx.c (((x0.take e1.toNat).drop 20),()) λc5=>
  .cal eq.c (x0,0,2,()) λc6=>
  .cal eq.c (x0,2,2,()) λc7=>
  .cal eq.c (x0,4,4,()) λc8=>
  .cal eq.c (x0,8,4,()) λc9=>
  .grd (decide (13<(x0.length:Int)))<|
  .cal eq.c (x0,14,2,()) λc10=>
  .grd (JQ x0 e1 (x0.length:Int))<|
  .bnd (β:=Bool×Unit) (.as (λw=>(w.1=false→(⟨c6,c7,c8,c9,(bits .and .i64 (IntKind.wrap .i64 (ai x0 13)) 63),c10,c5.1,((x0.take ((x0.length:Int).toNat)).drop e1.toNat)⟩:Segm).body.length≤1420)) (.ite (!c5.2) (.ret (true,()))<|
   .cal ak.c ((⟨c6,c7,c8,c9,(bits .and .i64 (IntKind.wrap .i64 (ai x0 13)) 63),c10,c5.1,((x0.take ((x0.length:Int).toNat)).drop e1.toNat)⟩:Segm),()) λc11=>
   .ret ((!c11),()))) λ(u12a0,_)=>
  .ite u12a0 (.ret ((⟨0,0,0,0,0,0,⟨0,0,false,false,0,0⟩,[]⟩:Segm),false))<|
  .ret ((⟨c6,c7,c8,c9,(bits .and .i64 (IntKind.wrap .i64 (ai x0 13)) 63),c10,c5.1,((x0.take ((x0.length:Int).toNat)).drop e1.toNat)⟩:Segm),true)
noncomputable def IU:=bM st IJ Ia [] (ks:=[.sc .str,.sc (.int .i64),.sc (.int .i64)]) cD (λv=>[(true,si v.1),(false,[.c (.bool v.2)])]) Tryz.func138 trivial
noncomputable def QZ:=[cY,gL,UI,kW,vf]
noncomputable def Re:Fx:=⟨151,Tryz.f151,[(3000006,rA 0 43)],0⟩
noncomputable def vW:FT (Conn×Int×Unit) (Conn×aa×List Segm) (λx=>ac x.1) (λx v=>ac v.1∧sS v.2.1∧sL ao v.2.2):= .mk λ(x0,x1,_)=>
  .cal cc.c (x0,()) λc1=>
  .cal aN.c (x0,()) λc2=>
  .ite (!c2) (.ret (c1,[],[]))<|
  .cal AC.c (x0.r,x1,()) λc3=>
  .bnd (β:=Bool×Unit) (.cal bB.c (x0.r,()) λc4=>
   .ite (c4==0) (.cal bB.c (c3.1,()) λc5=>
    .ite (c5 != 0) (.ite (x0.state != 8) (.ret ((x0.state != 7),()))<|
     .ret (false,()))<|
    .ret (false,()))<|
   .ret (false,())) λ(u6a0,_)=>
  .ite u6a0 (.cal bC.c (({c1 with r.next:=c3.1.next,r.data:=c3.1.data,r.held:=c3.1.held,r.fin:=c3.1.fin,r.done:=c3.1.done}:Conn),()) λc7=>
   .ret (({c1 with r.next:=c3.1.next,r.data:=c3.1.data,r.held:=c3.1.held,r.fin:=c3.1.fin,r.done:=c3.1.done}:Conn),c3.2,[c7]))<|
  .ret (({c1 with r.next:=c3.1.next,r.data:=c3.1.data,r.held:=c3.1.held,r.fin:=c3.1.fin,r.done:=c3.1.done}:Conn),c3.2,[])
noncomputable def SB:=bM st Re QZ [] (ks:=[.st .conn,.sc (.int .i64)]) vW (λv=>[(true,fg (.o true) v.1),(false,[.c (.str v.2.1)]),(false,[sc (.o true) .segm v.2.2])]) Tryz.func151 trivial
noncomputable def aa1:=[cY,gL,vf]
noncomputable def aar:Fx:=⟨153,Tryz.f153,[(3000002,rA 0 15)],0⟩
noncomputable def Jt:FT (Conn×Unit) (Conn×List Segm) (λx=>ac x.1) (λx v=>ac v.1∧sL ao v.2):= .mk λ(x0,_)=>
  .cal cc.c (x0,()) λc1=>
  .bnd (β:=Bool×Unit) (.as (λw=>(w.1=false→SO x0.s∧RO x0.r)) (.cal aN.c (x0,()) λc2=>
   .ite (!c2) (.ret (true,()))<|
   .ret ((x0.state==8),()))) λ(u3a0,_)=>
  .ite u3a0 (.ret (c1,[]))<|
  .cal bC.c (x0,()) λc4=>
  .ret (({c1 with state:=8,timer:=0,tries:=0}:Conn),[({c4 with flags:=(bits .or .i64 c4.flags 4)}:Segm)])
noncomputable def aaM:=bM st aar aa1 [] (ks:=[.st .conn]) Jt (λv=>[(true,fg (.o true) v.1),(false,[sc (.o true) .segm v.2])]) Tryz.func153 trivial
noncomputable def d6:FT (Door×Unit) (Door) (λx=>aC x.1) (λx v=>aC v∧v.table.conns.length=x.1.table.conns.length∧v.table.waiting.length=x.1.table.waiting.length∧v.halves=x.1.halves):= .mk λ(x0,_)=>
  .cal vr.c (x0.keys,()) λc1=>
  .grd (Nat.ble ((2*(0+x0.halves.length)+1024)*96) bo)<|
  .cal mJ.c (x0.table,()) λc2=>
  .ret (⟨x0.port,x0.clock,c1,x0.limits,([]++x0.halves),c2,x0.chal⟩:Door)
noncomputable def gE:=a9 st Tryz.func157 [GO,uo] (ks:=[.st .door]) d6 (λv=>[(true,kF (.o true) (.o true) (.o true) (.o true) (.o true) v)])
noncomputable def H6:=[zK,cx,Dz,Iu,qh,lB]
noncomputable def HY:Fx:=⟨159,Tryz.f159,[(3000005,rA 0 42),(3000014,rA 0 96)],0⟩
noncomputable def lF:FT (aa×Int×Int×Unit) (Segm×Bool) (λx=>sS x.1∧x.1.length≤4294967200) (λx v=>ao v.1):= .mk λ(x0,x1,x2,_)=>
  .ite (decide ((x0.length:Int)<20)) (.ret ((⟨0,0,0,0,0,0,⟨0,0,false,false,0,0⟩,[]⟩:Segm),false))<|
  .grd (decide (12<(x0.length:Int)))<|
  .val (IntKind.wrap .i64 ((IntKind.wrap .i64 ((IntKind.wrap .i64 (ai x0 12)).tdiv 16))*4)) λe1=>
  .cal nJ.c (x1,x2,(x0.length:Int),()) λc2=>
  .bnd (β:=Bool×Unit) (.val (bZ.f (e1,20,(x0.length:Int),())) λc3=>
   .ite (!c3) (.ret (true,()))<|
   .ite (c2==[]) (.ret (true,()))<|
   .grd (Nat.ble (c2.length+x0.length) aq)<|
   .cal sI.c ((c2++x0),()) λc4=>
   .ret ((!c4),())) λ(u5a0,_)=>
  .ite u5a0 (.ret ((⟨0,0,0,0,0,0,⟨0,0,false,false,0,0⟩,[]⟩:Segm),false))<|
  .grd ((decide (20≤e1))&&(decide (e1≤(x0.length:Int))))<|
  .cal ly.c (((x0.take e1.toNat).drop 20),()) λc6=>
  .grd (decide (13<(x0.length:Int)))<|
  .grd (JQ x0 e1 (x0.length:Int))<|
  .cal bN.c (x0,0,2,()) λc7=>
  .cal bN.c (x0,2,2,()) λc8=>
  .cal bN.c (x0,4,4,()) λc9=>
  .cal bN.c (x0,8,4,()) λc10=>
  .cal bN.c (x0,14,2,()) λc11=>
  .bnd (β:=Bool×Unit) (.as (λw=>(w.1=false→(⟨c7.1,c8.1,c9.1,c10.1,((IntKind.wrap .i64 (ai x0 13)).tmod 64),c11.1,c6.1,((x0.take ((x0.length:Int).toNat)).drop e1.toNat)⟩:Segm).body.length≤1420)) (.ite (!c6.2) (.ret (true,()))<|
   .cal i1.c ((⟨c7.1,c8.1,c9.1,c10.1,((IntKind.wrap .i64 (ai x0 13)).tmod 64),c11.1,c6.1,((x0.take ((x0.length:Int).toNat)).drop e1.toNat)⟩:Segm),()) λc12=>
   .ret ((!c12),()))) λ(u13a0,_)=>
  .ite u13a0 (.ret ((⟨0,0,0,0,0,0,⟨0,0,false,false,0,0⟩,[]⟩:Segm),false))<|
  .ret ((⟨c7.1,c8.1,c9.1,c10.1,((IntKind.wrap .i64 (ai x0 13)).tmod 64),c11.1,c6.1,((x0.take ((x0.length:Int).toNat)).drop e1.toNat)⟩:Segm),true)
noncomputable def IQ:=bM st HY H6 [] (ks:=[.sc .str,.sc (.int .i64),.sc (.int .i64)]) lF (λv=>[(true,si v.1),(false,[.c (.bool v.2)])]) Tryz.func159 trivial
noncomputable def SG:=[dD,abi,gQ,vp,Wa,mO,Dj]
def vc:An:=⟨⟨[],[],false,0⟩,⟨[2,3,4,5],[],false,0⟩,⟨[],[]⟩,[(.normal,⟨[zp 2 0,(3,false,[.nil]),zp 4 1,zo 5 2],[.box [.st .conn [.nil .piec]],zk .conn 3,za .segm,zf]⟩)]⟩
def vB:An:=⟨⟨[],[],false,0⟩,⟨[1,2,3,4,5],[],false,0⟩,⟨[],[]⟩,[(.normal,⟨[zp 1 0,zp 2 1,(3,false,[.nil]),zp 4 2,zo 5 3],[zg .conn,.box [.st .conn [.nil .piec]],zk .conn 4,za .segm,zf]⟩)]⟩
noncomputable def SI:Fx:=⟨162,Tryz.f162,[(1000016,vc),(1000023,vB)],0⟩
noncomputable def pa:FT (Conn×Unit) (Conn×List Segm) (λx=>ac x.1) (λx v=>ac v.1∧sL ao v.2∧v.2.length≤49):= .mk λ(x0,_)=>
  .cal dH.c (x0,()) λc1=>
  .cal Jq.c (x0,()) λc2=>
  .ite (!c2) (.cal ic.c (x0,()) λc3=>
   .bnd (β:=WT vc.es) (.as (λw=>ac w.1∧ac w.2.1∧sL ao w.2.2.1∧w.2.2.1.length≤49) (.ite c3 (.ret ((⟨⟨0,0,0⟩,0,⟨0,[],0,false,false,false⟩,⟨0,[],[],0,false⟩,0,0,⟨0,0,false,false,0,0⟩,0,0⟩:Conn),({c1 with timer:=0,tries:=0}:Conn),[],()))<|
    .ret ((⟨⟨0,0,0⟩,0,⟨0,[],0,false,false,false⟩,⟨0,[],[],0,false⟩,0,0,⟨0,0,false,false,0,0⟩,0,0⟩:Conn),c1,[],()))) λ(_,u4a1,u4a2,_)=>
   .ret (u4a1,u4a2))<|
  .bnd (β:=WT vB.es) (.as (λw=>ac w.1∧ac w.2.1∧ac w.2.2.1∧sL ao w.2.2.2.1∧w.2.2.2.1.length≤49) (.ite (c1.timer==0) (.ite (x0.state==7) (.ret (x0,(⟨⟨0,0,0⟩,0,⟨0,[],0,false,false,false⟩,⟨0,[],[],0,false⟩,0,0,⟨0,0,false,false,0,0⟩,0,0⟩:Conn),({c1 with timer:=4}:Conn),[],()))<|
    .ret (x0,(⟨⟨0,0,0⟩,0,⟨0,[],0,false,false,false⟩,⟨0,[],[],0,false⟩,0,0,⟨0,0,false,false,0,0⟩,0,0⟩:Conn),({c1 with timer:=3}:Conn),[],()))<|
   .ret (x0,(⟨⟨0,0,0⟩,0,⟨0,[],0,false,false,false⟩,⟨0,[],[],0,false⟩,0,0,⟨0,0,false,false,0,0⟩,0,0⟩:Conn),c1,[],()))) λ(u5a0,_,u5a2,u5a3,_)=>
  .ite (decide (0<(IntKind.wrap .i64 (u5a2.timer-1)))) (.ret (({u5a2 with timer:=(IntKind.wrap .i64 (u5a2.timer-1))}:Conn),u5a3))<|
  .ite (u5a0.state==7) (.ret (({u5a2 with state:=8,timer:=(IntKind.wrap .i64 (u5a2.timer-1)),tries:=0}:Conn),u5a3))<|
  .ite (u5a0.tries==3) (.cal j7.c (u5a0,()) λc6=>
   .ret (({u5a2 with state:=8,timer:=(IntKind.wrap .i64 (u5a2.timer-1)),tries:=0}:Conn),[({c6 with flags:=(bits .or .i64 c6.flags 4)}:Segm)]))<|
  .cal AD.c (u5a0.s,()) λc7=>
  .val (fB.f (1,u5a2.window,())) λc8=>
  .cal nZ.c ((⟨u5a2.tuple,u5a2.state,c7,u5a2.r,u5a2.window,u5a2.most,u5a2.opts,(IntKind.wrap .i64 (u5a2.timer-1)),(IntKind.wrap .i64 (u5a0.tries+1))⟩:Conn),c8,()) λc9=>
  .ret (({c9.1 with timer:=3}:Conn),c9.2)
noncomputable def wg:=bM st SI SG [] (ks:=[.st .conn]) pa (λv=>[(true,fg (.o true) v.1),(false,[sc (.o true) .segm v.2])]) Tryz.func162 trivial
noncomputable def DH:=[gE,vU,gJ,Kb,wg,F8]
def lQ:Sh:=⟨[zp 2 0,zp 4 1,zo 5 2,zi 6],[.box [.st .door [.nil .macRow,.nil .macRow,.nil .half,.nil .conn,.nil .tupl]],.box [.st .door [.own 3,.own 4,.own 5,.own 6,.own 7]],za .segm,zf,zf,zf,zf,zf]⟩
noncomputable def En:Fx:=⟨163,Tryz.f163,[(0,lb [2,4,5,6] [2,3,4,5])],0⟩
noncomputable def qC (v0:Int)(a:Door×Door×List Segm):Tr (Stp (Door×Door×List Segm) (Empty)):=
 .grd (cj a.2.1.table.conns v0)<|
 .cal pa.c ((a.2.1.table.conns.getD v0.toNat (Ty.zero .conn)),()) λc5=>
 .grd (cj a.2.1.table.conns v0)<|
 .grd (Nat.ble ((2*(a.2.2.length+c5.2.length)+1024)*104) bo)<|
 .ret (.next (({a.1 with keys.now.rows:=[],keys.before.rows:=[],halves:=[],table.conns:=[],table.waiting:=[]}:Door),({a.2.1 with table.conns:=(a.2.1.table.conns.set v0.toNat c5.1)}:Door),(a.2.2++c5.2)))
noncomputable def cr:lQ.V→qc lQ (Door×Door×List Segm):=λ(v0,v1,v2,v3,_)=>⟨v0,(v1,v2,v3),λv0 a=>(v0,a.1,a.2.1,a.2.2,()),λv0 a=>(decide (v0<(a.2.1.table.conns.length:Int))),qC,up,1,(Int.toNat ((v2.table.conns.length:Int)-v0)),Empty.elim,Prod.mk,oN (.exit 0) ⟨[zp 2 0,zu 3,zp 4 1,zo 5 2],[.box [.st .door [.nil .macRow,.nil .macRow,.nil .half,.nil .conn,.nil .tupl]],.box [.st .door [.own 3,.own 4,.own 5,.own 6,.own 7]],za .segm,zf,zf,zf,zf,zf]⟩ (λx=>(({x.2.1 with keys.now.rows:=[],keys.before.rows:=[],halves:=[],table.conns:=[],table.waiting:=[]}:Door),x.2.2.1,x.2.2.2,()))⟩
set_option maxHeartbeats 4000000 in
theorem Ih:LS Tryz.prog En [0] (fv 0 lQ cr):=cI st (aH DH) _ cr [] trivial
theorem IP {v0:Int}{v1 v2:Door}{v3:List Segm}(h0:0≤v0)(h1:(v2.table.conns.length:Int)≤4611686018427387904)(h2:sL bk v2.keys.now.rows)(h3:sL bk v2.keys.before.rows)(h4:sS v2.halves)(h5:sL ac v2.table.conns)(h6:sS v2.table.waiting)(h7:aC v1∧v2.keys.now.rows.length=v2.keys.now.rows.length∧cX bk v2.keys.now.rows∧v2.keys.before.rows.length=v2.keys.before.rows.length∧cX bk v2.keys.before.rows∧v2.halves.length=v2.halves.length∧v2.table.conns.length=v2.table.conns.length∧cX ac v2.table.conns∧v2.table.waiting.length=v2.table.waiting.length∧sL ao v3∧0≤v0∧v0≤16∧v2.table.conns.length≤16∧(v3.length:Int)≤49*v0):(cr (v0,v1,v2,v3,())).S (λv0 a=>a.2.1.table.conns.length=v2.table.conns.length∧aC a.1∧a.2.1.keys.now.rows.length=v2.keys.now.rows.length∧cX bk a.2.1.keys.now.rows∧a.2.1.keys.before.rows.length=v2.keys.before.rows.length∧cX bk a.2.1.keys.before.rows∧a.2.1.halves.length=v2.halves.length∧a.2.1.table.conns.length=v2.table.conns.length∧cX ac a.2.1.table.conns∧a.2.1.table.waiting.length=v2.table.waiting.length∧sL ao a.2.2∧0≤v0∧v0≤16∧a.2.1.table.conns.length≤16∧(a.2.2.length:Int)≤49*v0) (λ_=>True):=by
 refine LC.okS ⟨rfl,h7⟩ (λj a hj hv=>⟨⟨?_, ?_⟩, ?_⟩) (λa hv=> ?_)
 ·simp only[cr,decide_eq_true_eq]at*;omega
 ·simp only[cr]at*;exact upw (by omega) (by omega)
 ·refine Tr.G2 ?_ λ_=>Tr.C ?_ λ_ _ _=>Tr.G2 ?_ λ_=>Tr.Gb ?_ λ_=>Tr.Rn ?_
  all_goals (try simp only[cr]at*)<;>(grind)
 ·simp only[cr,decide_eq_false_iff_not]at*;omega
noncomputable def wn:FT (Door×Unit) (Door×List Segm) (λx=>aC x.1) (λx v=>aC v.1∧sL ao v.2):=⟨λ(x0,_)=>
  .cal d6.c (x0,()) λc1=>
  .cal r7.c (x0,()) λc2=>
  .ite (!c2) (.ret (c1,[]))<|
  .val (bK.f ((IntKind.wrap .i64 (x0.clock+1)),())) λc3=>
  .cal ra.c (x0.halves,()) λc4=>
  .lp (cr (0,(⟨0,0,⟨0,⟨false,0,0,[]⟩,⟨false,0,0,[]⟩,false⟩,⟨0,0,0,0⟩,[],⟨[],[]⟩,0⟩:Door),({c1 with clock:=c3,halves:=c4,chal:=0}:Door),[],())).lp λ(_,_,a6_1,a6_2)=>
  .cal Ag.c (a6_1.table,()) λc7=>
  .ret (({a6_1 with table.conns:=c7.conns,table.waiting:=c7.waiting}:Door),a6_2),
 λ(x0,_) hp=>by
  refine Tr.C ?_ λ_ _ _=>Tr.C ?_ λ_ _ _=>Tr.I (λ_=>Tr.R ?_) λ_=>Tr.V λ_ _=>Tr.C ?_ λ_ _ _=>Tr.L (IP ?_ ?_ ?_ ?_ ?_ ?_ ?_ ?_) (λ(a6_0,a6_1,a6_2) _=>Tr.C ?_ λ_ _ _=>Tr.R ?_) (λp=>Empty.elim p)
  all_goals ((try simp only[cr,LC.lp,LC.ct,Ct.lp]at*)<;>grind)⟩
noncomputable def Rc:=bM st En DH [(fv 0 lQ cr)] (ks:=[.st .door]) wn (λv=>[(true,kF (.o true) (.o true) (.o true) (.o true) (.o true) v.1),(false,[sc (.o true) .segm v.2])]) Tryz.func163 ⟨Ih,trivial⟩
noncomputable def ZZ:=[dD,gQ,JA,Dj]
noncomputable def aay:Fx:=⟨169,Tryz.f169,[(3000002,rA 0 26)],0⟩
noncomputable def Dp:FT (Conn×aa×Unit) (Conn×Int×List Segm) (λx=>ac x.1∧sS x.2.1) (λx v=>ac v.1∧sL ao v.2.2):= .mk λ(x0,x1,_)=>
  .cal dH.c (x0,()) λc1=>
  .bnd (β:=Bool×Unit) (.cal ic.c (x0,()) λc2=>
   .ite (!c2) (.ret (true,()))<|
   .ite (x0.state != 1) (.ret ((x0.state != 4),()))<|
   .ret (false,())) λ(u3a0,_)=>
  .ite u3a0 (.ret (c1,0,[]))<|
  .cal zq.c (x0.s,x1,()) λc4=>
  .cal nZ.c (({c1 with s.una:=c4.1.una,s.data:=c4.1.data,s.sent:=c4.1.sent,s.fin:=c4.1.fin,s.finSent:=c4.1.finSent,s.done:=c4.1.done}:Conn),c1.window,()) λc5=>
  .ret (c5.1,c4.2,c5.2)
noncomputable def Qu:=bM st aay ZZ [] (ks:=[.st .conn,.sc .str]) Dp (λv=>[(true,fg (.o true) v.1),(false,[.c (.int .i64 v.2.1)]),(false,[sc (.o true) .segm v.2.2])]) Tryz.func169 trivial
noncomputable def QU:=[dD,gQ,Hd,kX,vp]
noncomputable def SL:Fx:=⟨171,Tryz.f171,[(3000007,rA 0 46)],0⟩
noncomputable def sX:FT (Conn×Int×Unit) (Conn×aa×List Segm) (λx=>ac x.1) (λx v=>ac v.1∧sS v.2.1∧sL ao v.2.2):= .mk λ(x0,x1,_)=>
  .cal dH.c (x0,()) λc1=>
  .cal ic.c (x0,()) λc2=>
  .ite (!c2) (.ret (c1,[],[]))<|
  .cal vO.c (x0.r,x1,()) λc3=>
  .bnd (β:=Bool×Unit) (.cal gN.c (x0.r,()) λc4=>
   .ite (c4==0) (.cal gN.c (c3.1,()) λc5=>
    .ite (decide (0<c5)) (.ite (x0.state != 8) (.ret ((x0.state != 7),()))<|
     .ret (false,()))<|
    .ret (false,()))<|
   .ret (false,())) λ(u6a0,_)=>
  .ite u6a0 (.cal j7.c (({c1 with r.next:=c3.1.next,r.data:=c3.1.data,r.held:=c3.1.held,r.fin:=c3.1.fin,r.done:=c3.1.done}:Conn),()) λc7=>
   .ret (({c1 with r.next:=c3.1.next,r.data:=c3.1.data,r.held:=c3.1.held,r.fin:=c3.1.fin,r.done:=c3.1.done}:Conn),c3.2,[c7]))<|
  .ret (({c1 with r.next:=c3.1.next,r.data:=c3.1.data,r.held:=c3.1.held,r.fin:=c3.1.fin,r.done:=c3.1.done}:Conn),c3.2,[])
noncomputable def D3:=bM st SL QU [] (ks:=[.st .conn,.sc (.int .i64)]) sX (λv=>[(true,fg (.o true) v.1),(false,[.c (.str v.2.1)]),(false,[sc (.o true) .segm v.2.2])]) Tryz.func171 trivial
noncomputable def act:=[dD,gQ,Dj]
noncomputable def ac6:Fx:=⟨172,Tryz.f172,[(3000002,rA 0 19)],0⟩
noncomputable def KC:FT (Conn×Unit) (Conn×List Segm) (λx=>ac x.1) (λx v=>ac v.1∧sL ao v.2):= .mk λ(x0,_)=>
  .cal dH.c (x0,()) λc1=>
  .bnd (β:=Bool×Unit) (.cal ic.c (x0,()) λc2=>
   .ite (!c2) (.ret (true,()))<|
   .ite (x0.state != 1) (.ret ((x0.state != 4),()))<|
   .ret (false,())) λ(u3a0,_)=>
  .ite u3a0 (.ret (c1,[]))<|
  .ite (x0.state==4) (.cal nZ.c (({c1 with state:=6,s.fin:=true}:Conn),c1.window,()) λc4=>
   .ret (c4.1,c4.2))<|
  .cal nZ.c (({c1 with state:=2,s.fin:=true}:Conn),c1.window,()) λc5=>
  .ret (c5.1,c5.2)
noncomputable def U4:=bM st ac6 act [] (ks:=[.st .conn]) KC (λv=>[(true,fg (.o true) v.1),(false,[sc (.o true) .segm v.2])]) Tryz.func172 trivial
noncomputable def Z0:=[dD,gQ,vp]
noncomputable def aaD:Fx:=⟨173,Tryz.f173,[(3000002,rA 0 15)],0⟩
noncomputable def Jc:FT (Conn×Unit) (Conn×List Segm) (λx=>ac x.1) (λx v=>ac v.1∧sL ao v.2):= .mk λ(x0,_)=>
  .cal dH.c (x0,()) λc1=>
  .bnd (β:=Bool×Unit) (.as (λw=>(w.1=false→SO x0.s∧RO x0.r)) (.cal ic.c (x0,()) λc2=>
   .ite (!c2) (.ret (true,()))<|
   .ret ((x0.state==8),()))) λ(u3a0,_)=>
  .ite u3a0 (.ret (c1,[]))<|
  .cal j7.c (x0,()) λc4=>
  .ret (({c1 with state:=8,timer:=0,tries:=0}:Conn),[({c4 with flags:=(bits .or .i64 c4.flags 4)}:Segm)])
noncomputable def abr:=bM st aaD Z0 [] (ks:=[.st .conn]) Jc (λv=>[(true,fg (.o true) v.1),(false,[sc (.o true) .segm v.2])]) Tryz.func173 trivial
noncomputable def LZ:=[z0,Dw]
noncomputable def Np:Fx:=⟨198,Tryz.f198,[(3000008,rA 0 22)],0⟩
noncomputable def oo:FT (aa×Unit) (Pack×Int) (λx=>sS x.1) (λx v=>kS v.1∧v.1.body.length≤1500):= .mk λ(x0,_)=>
  .ite (decide ((x0.length:Int)<20)) (.ret ((⟨0,0,0,0,0,[]⟩:Pack),1))<|
  .cal eq.c (x0,2,2,()) λc1=>
  .grd (decide (0<(x0.length:Int)))<|
  .ite ((ai x0 0) != 69) (.ret ((⟨0,0,0,0,0,[]⟩:Pack),2))<|
  .grd (decide (20≤(x0.length:Int)))<|
  .cal mv.c (((x0.take 20).drop 0),()) λc2=>
  .ite (!c2) (.ret ((⟨0,0,0,0,0,[]⟩:Pack),3))<|
  .bnd (β:=Bool×Unit) (.ite (decide (c1<20)) (.ret (true,()))<|
   .ite (decide ((x0.length:Int)<c1)) (.ret (true,()))<|
   .ret ((decide (1500<c1)),())) λ(u3a0,_)=>
  .ite u3a0 (.ret ((⟨0,0,0,0,0,[]⟩:Pack),4))<|
  .cal eq.c (x0,6,2,()) λc4=>
  .ite ((bits .andNot .i64 c4 16384) != 0) (.ret ((⟨0,0,0,0,0,[]⟩:Pack),5))<|
  .grd (decide (8<(x0.length:Int)))<|
  .ite ((ai x0 8)==0) (.ret ((⟨0,0,0,0,0,[]⟩:Pack),6))<|
  .cal eq.c (x0,12,4,()) λc5=>
  .cal eq.c (x0,16,4,()) λc6=>
  .grd (decide (8<(x0.length:Int)))<|
  .grd (decide (9<(x0.length:Int)))<|
  .cal eq.c (x0,4,2,()) λc7=>
  .grd ((decide (20≤c1))&&(decide (c1≤(x0.length:Int))))<|
  .ret ((⟨c5,c6,(IntKind.wrap .i64 (ai x0 8)),(IntKind.wrap .i64 (ai x0 9)),c7,((x0.take c1.toNat).drop 20)⟩:Pack),0)
noncomputable def MK:=bM st Np LZ [] (ks:=[.sc .str]) oo (λv=>[(true,Ge v.1),(false,[.c (.int .i64 v.2)])]) Tryz.func198 trivial
noncomputable def JP:=[Dz,qh,oG,cx]
noncomputable def K2:Fx:=⟨225,Tryz.f225,[(3000010,rA 0 43)],0⟩
noncomputable def oa:FT (aa×Unit) (Pack×Int) (λx=>sS x.1) (λx v=>kS v.1∧v.1.body.length≤1500):= .mk λ(x0,_)=>
  .ite (decide ((x0.length:Int)<20)) (.ret ((⟨0,0,0,0,0,[]⟩:Pack),1))<|
  .grd (decide (0<(x0.length:Int)))<|
  .ite ((ai x0 0) != 69) (.ret ((⟨0,0,0,0,0,[]⟩:Pack),2))<|
  .grd (decide (20≤(x0.length:Int)))<|
  .cal sI.c (((x0.take 20).drop 0),()) λc1=>
  .ite (!c1) (.ret ((⟨0,0,0,0,0,[]⟩:Pack),3))<|
  .cal bN.c (x0,2,2,()) λc2=>
  .val (j1.f ((x0.length:Int),1500,())) λc3=>
  .val (bZ.f (c2.1,20,c3,())) λc4=>
  .ite (!c4) (.ret ((⟨0,0,0,0,0,[]⟩:Pack),4))<|
  .bnd (β:=Bool×Unit) (.grd (decide (6<(x0.length:Int)))<|
   .ite ((bits .and .u8 (ai x0 6) 191) != 0) (.ret (true,()))<|
   .grd (decide (7<(x0.length:Int)))<|
   .ret (((ai x0 7) != 0),())) λ(u5a0,_)=>
  .ite u5a0 (.ret ((⟨0,0,0,0,0,[]⟩:Pack),5))<|
  .grd (decide (8<(x0.length:Int)))<|
  .grd (decide (9<(x0.length:Int)))<|
  .grd ((decide (20≤c2.1))&&(decide (c2.1≤(x0.length:Int))))<|
  .ite ((IntKind.wrap .i64 (ai x0 8))==0) (.ret ((⟨0,0,0,0,0,[]⟩:Pack),6))<|
  .cal bN.c (x0,4,2,()) λc6=>
  .cal bN.c (x0,12,4,()) λc7=>
  .cal bN.c (x0,16,4,()) λc8=>
  .ret ((⟨c7.1,c8.1,(IntKind.wrap .i64 (ai x0 8)),(IntKind.wrap .i64 (ai x0 9)),c6.1,((x0.take c2.1.toNat).drop 20)⟩:Pack),0)
noncomputable def Lr:=bM st K2 JP [] (ks:=[.sc .str]) oa (λv=>[(true,Ge v.1),(false,[.c (.int .i64 v.2)])]) Tryz.func225 trivial
def Hv:Sh:=⟨[zi 1,zp 4 0,zp 6 1,zo 7 2],[.box [.st .conn [.nil .piec]],zk .conn 3,za .segm,zf]⟩
noncomputable def cd (v0:Int)(a:Conn×Conn×List Segm):Tr (Stp (Conn×Conn×List Segm) ((Conn×Conn×List Segm))):=
 .val (dE.f (a.2.1,())) λc4=>
 .cal bg.c (a.2.1.s,v0,c4,()) λc5=>
 .ite (!c5.2) (.ret (.out (({a.1 with r.held:=[]}:Conn),a.2.1,a.2.2)))<|
 .cal bC.c (a.2.1,()) λc6=>
 .ite (!(c5.1.text==[])) (.ite c5.1.fin (.grd (qq a.2.2 1 104)<|
   .val (a.2.2++[({c6 with seq:=c5.1.seq,flags:=(bits .or .i64 (bits .or .i64 c6.flags 8) 1),body:=c5.1.text}:Segm)]) λl7=>
   .cal dJ.c (a.2.1.s,c5.1,()) λc8=>
   .ret (.next (({a.1 with r.held:=[]}:Conn),({a.2.1 with s.una:=c8.una,s.data:=c8.data,s.sent:=c8.sent,s.fin:=c8.fin,s.finSent:=c8.finSent,s.done:=c8.done}:Conn),l7)))<|
  .grd (qq a.2.2 1 104)<|
  .val (a.2.2++[({c6 with seq:=c5.1.seq,flags:=(bits .or .i64 c6.flags 8),body:=c5.1.text}:Segm)]) λl9=>
  .cal dJ.c (a.2.1.s,c5.1,()) λc10=>
  .ret (.next (({a.1 with r.held:=[]}:Conn),({a.2.1 with s.una:=c10.una,s.data:=c10.data,s.sent:=c10.sent,s.fin:=c10.fin,s.finSent:=c10.finSent,s.done:=c10.done}:Conn),l9)))<|
 .ite c5.1.fin (.grd (qq a.2.2 1 104)<|
  .val (a.2.2++[({c6 with seq:=c5.1.seq,flags:=(bits .or .i64 c6.flags 1),body:=c5.1.text}:Segm)]) λl11=>
  .cal dJ.c (a.2.1.s,c5.1,()) λc12=>
  .ret (.next (({a.1 with r.held:=[]}:Conn),({a.2.1 with s.una:=c12.una,s.data:=c12.data,s.sent:=c12.sent,s.fin:=c12.fin,s.finSent:=c12.finSent,s.done:=c12.done}:Conn),l11)))<|
 .grd (qq a.2.2 1 104)<|
 .cal dJ.c (a.2.1.s,c5.1,()) λc13=>
 .ret (.next (({a.1 with r.held:=[]}:Conn),({a.2.1 with s.una:=c13.una,s.data:=c13.data,s.sent:=c13.sent,s.fin:=c13.fin,s.finSent:=c13.finSent,s.done:=c13.done}:Conn),(a.2.2++[({c6 with seq:=c5.1.seq,body:=c5.1.text}:Segm)])))
noncomputable def kE:Hv.V→LW Hv (Conn×Conn×List Segm) ((Conn×Conn×List Segm)):=λ(v0,v1,v2,v3,_)=>⟨(v1,v2,v3),λa=>(v0,a.1,a.2.1,a.2.2,()),cd v0,Jo v2.s,oN (.exit 0) ⟨[zp 4 0,zu 5,zp 6 1,zo 7 2],[.box [.st .conn [.nil .piec]],zk .conn 3,za .segm,zf]⟩ (λp=>(p.1,p.2.1,p.2.2,()))⟩
theorem Tm {v0:Int}{v1 v2:Conn}{v3:List Segm}(h0:ac v1∧ac v2∧sL ao v3∧v3.length+Jo v2.s≤49):(kE (v0,v1,v2,v3,())).W (λp=>ac p.1∧ac p.2.1∧sL ao p.2.2∧p.2.2.length≤49):=
 LW.okW (a:=(v1,v2,v3)) (λa=>ac a.1∧ac a.2.1∧sL ao a.2.2∧a.2.2.length+Jo a.2.1.s≤49) (λa=>Jo a.2.1.s) rfl h0 λ(v1,v2,v3) hv=>by
  refine Tr.V λc4 hc4=>Tr.C ?_ λc5 hc5 qc5=>Tr.I (λb0=>Tr.Ro ?_) λb0=>Tr.C ?_ λc6 hc6 qc6=>Tr.I (λb1=>Tr.I (λb2=>Tr.Gb ?_ λg3=>Tr.V λl7 hl7=>Tr.C ?_ λc8 hc8 qc8=>Tr.Rn ?_) λb2=>Tr.Gb ?_ λg3=>Tr.V λl9 hl9=>Tr.C ?_ λc10 hc10 qc10=>Tr.Rn ?_) λb1=>Tr.I (λb2=>Tr.Gb ?_ λg3=>Tr.V λl11 hl11=>Tr.C ?_ λc12 hc12 qc12=>Tr.Rn ?_) λb2=>Tr.Gb ?_ λg3=>Tr.C ?_ λc13 hc13 qc13=>Tr.Rn ?_
  all_goals ((first|grind|(have tl:∀s:aa,s=[]∨0<s.length:=(λs=>by cases s<;>simp);grind)))
noncomputable def cO:FT (Conn×Int×Unit) (Conn×List Segm) (λx=>ac x.1) (λx v=>ac v.1∧sL ao v.2∧v.2.length≤49):= .mk (λ(x0,x1,_)=>
  .cal cc.c (x0,()) λc1=>
  .bnd (β:=Bool×Unit) (.as (λw=>(w.1=false→SO x0.s∧RO x0.r)) (.cal aN.c (x0,()) λc2=>
   .ite (!c2) (.ret (true,()))<|
   .ite (x0.state==8) (.ret (true,()))<|
   .ret ((x0.state==7),()))) λ(u3a0,_)=>
  .ite u3a0 (.ret (c1,[]))<|
  .lp (kE (x1,(⟨⟨0,0,0⟩,0,⟨0,[],0,false,false,false⟩,⟨0,[],[],0,false⟩,0,0,⟨0,0,false,false,0,0⟩,0,0⟩:Conn),c1,[],())).lp λ(_,p14a1,p14a2)=>
  .bnd (β:=Bool×Unit) (.ite (decide (0<(p14a2.length:Int))) (.ret ((p14a1.timer==0),()))<|
   .ret (false,())) λ(u15a0,_)=>
  .ite u15a0 (.ret (({p14a1 with timer:=3}:Conn),p14a2))<|
  .ret (p14a1,p14a2)) (qm @Tm)
noncomputable def C1:=NY st Tryz.func273 [(0,lb [1,4,6,7] [4,5,6,7]),(3000002,rA 0 25),(3000016,rA 0 76)] [cY,gL,Y3,NM,vf,TV] 0 kE (ks:=[.st .conn,.sc (.int .i64)]) cO (λv=>[(true,fg (.o true) v.1),(false,[sc (.o true) .segm v.2])])
noncomputable def YV:=[UE,tN,QG,zW,lJ]
noncomputable def Yt:Fx:=⟨284,Tryz.f284,[(3000002,rA 0 26),(4000000,la ⟨[],[],false,0⟩ ⟨[],[.softb 4 2],false,0⟩)],0⟩
noncomputable def MA:FT (Link×Fram×Unit) (Link×Int×Pack×aa) (λx=>ec x.1∧pS x.2.1) (λx v=>ec v.1∧kS v.2.2.1∧sS v.2.2.2∧v.2.2.1.body.length≤1500):= .mk λ(x0,x1,_)=>
  .cal vv.c (x1.body,()) λc1=>
  .bnd (β:=Bool×Unit) (.ite (!c1.2) (.ret (true,()))<|
   .ret ((c1.1.dstIp != x0.ip),())) λ(u2a0,_)=>
  .ite u2a0 (.ret (x0,0,(⟨0,0,0,0,0,[]⟩:Pack),[]))<|
  .cal pj.c (x0.cache,c1.1.srcIp,c1.1.srcHw,()) λc3=>
  .cal xe.c (c1.1,x0.mac,x0.ip,()) λc4=>
  .ite (!c4.2) (.ret (({x0 with cache:=c3}:Link),0,(⟨0,0,0,0,0,[]⟩:Pack),[]))<|
  .cal rE.c (c4.1,()) λc5=>
  .cal fD.c ((⟨c1.1.srcHw,x0.mac,2054,c5⟩:Fram),()) λc6=>
  .ret (({x0 with cache:=c3}:Link),1,(⟨0,0,0,0,0,[]⟩:Pack),c6)
noncomputable def WQ:=bM st Yt YV [] (ks:=[.st .link,.st .fram]) MA (λv=>[(true,B4 .c v.1),(false,[.c (.int .i64 v.2.1)]),(true,Ge v.2.2.1),(false,[.c (.str v.2.2.2)])]) Tryz.func284 trivial
noncomputable def ml:FT (Door×Segm×Unit) (Door×List Segm×Int) (λx=>aC x.1∧ao x.2.1) (λx v=>aC v.1∧sL ao v.2.1):= .mk λ(x0,x1,_)=>
  .cal wY.c (x1,()) λc1=>
  .ite (!c1.2) (.cal d6.c (x0,()) λc2=>
   .ret (c2,[],0))<|
  .cal d6.c (x0,()) λc3=>
  .ret (c3,[c1.1],0)
noncomputable def Ec:=a9 st Tryz.func290 [Q3,gE] (ks:=[.st .door,.st .segm]) ml (λv=>[(true,kF (.o true) (.o true) (.o true) (.o true) (.o true) v.1),(false,[sc (.o true) .segm v.2.1]),(false,[.c (.int .i64 v.2.2)])])
noncomputable def Ta:=[abT,CB,rX,lJ]
noncomputable def Tb:Fx:=⟨295,Tryz.f295,[(3000002,rA 0 25)],0⟩
noncomputable def AV:FT (Link×Int×aa×Unit) (aa×Bool) (λx=>ec x.1∧sS x.2.2.1) (λx v=>sS v.1):= .mk λ(x0,x1,x2,_)=>
  .cal Rt.c (x0.cache,x1,()) λc1=>
  .bnd (β:=Bool×Unit) (.cal vk.c (x0,()) λc2=>
   .ite (!c2) (.ret (true,()))<|
   .ret ((!c1.2),())) λ(u3a0,_)=>
  .ite u3a0 (.ret ([],false))<|
  .cal kR.c ((⟨x0.ip,x1,64,6,0,x2⟩:Pack),()) λc4=>
  .ite (c4==[]) (.ret ([],false))<|
  .cal fD.c ((⟨c1.1,x0.mac,2048,c4⟩:Fram),()) λc5=>
  .ret (c5,(!(c5==[])))
noncomputable def Uq:=bM st Tb Ta [] (ks:=[.st .link,.sc (.int .i64),.sc .str]) AV (λv=>[(false,[.c (.str v.1)]),(false,[.c (.bool v.2)])]) Tryz.func295 trivial
def yV:Sh:=⟨[zs 2,zp 7 0,zi 8,zi 9],[zx .sipr]⟩
noncomputable def kh (v0:aa)(v1:Int)(a:Int×Sipr):Tr (Stp (Int×Sipr) ((Int×Sipr))):=
 .ite (decide ((IntKind.wrap .i64 (a.1+8))≤v1)) (.grd (JQ v0 a.1 (IntKind.wrap .i64 (a.1+8)))<|
  .cal sU.c (((v0.take ((IntKind.wrap .i64 (a.1+8)).toNat)).drop a.1.toNat),()) λc2=>
  .cal vM.c (a.2,c2,()) λc3=>
  .ret (.next ((IntKind.wrap .i64 (a.1+8)),c3)))<|
 .ret (.out (a.1,a.2))
noncomputable def ng:yV.V→LW yV (Int×Sipr) ((Int×Sipr)):=λ(v0,v1,v2,v3,_)=>⟨(v2,v3),λa=>(v0,v1,a.1,a.2,()),kh v0 v1,Int.toNat (v1-v2),oN (.exit 0) ⟨[zs 2,zu 6,zp 7 0,zi 8,zi 9],[zx .sipr]⟩ (λp=>(v0,v1,p.1,p.2,()))⟩
theorem J8 {v0:aa}{v1 v2:Int}{v3:Sipr}(h0:v1=(v0.length:Int))(h1:sS v0)(h2:0≤v2∧v2≤v1):(ng (v0,v1,v2,v3,())).W (λp=>0≤p.1∧p.1≤v0.length):=
 lwW (a:=(v2,v3)) (λa=>0≤a.1∧a.1≤v1) (λa=>Int.toNat (v1-a.1)) h2
noncomputable def Aa:FT (Int×Int×aa×Unit) (Int) (λx=>sS x.2.2.1) (λ_ _=>True):= .mk (λ(x0,x1,x2,_)=>
  .val (xi.f (x0,x1,())) λc1=>
  .lp (ng (x2,(x2.length:Int),0,c1,())).lp λ(p4a0,p4a1)=>
  .grd (JQ x2 p4a0 (x2.length:Int))<|
  .cal sU.c (((x2.take ((x2.length:Int).toNat)).drop p4a0.toNat),()) λc5=>
  .val (IntKind.wrap .u64 ((IntKind.wrap .u64 ((x2.length:Int).tmod 256))*72057594037927936)) λe6=>
  .cal vM.c (p4a1,(bits .or .u64 c5 e6),()) λc7=>
  .cal EN.c (c7,()) λc8=>
  .ret c8) (qm @J8)
noncomputable def Wu:=NY st Tryz.func316 [(0,lb [2,7,8,9] [2,6,7,8,9])] [QQ,YY,U3,Xl] 0 ng (ks:=[.sc (.int .u64),.sc (.int .u64),.sc .str]) Aa (λv=>[(false,[.c (.int .u64 v)])])
noncomputable def Te:=[gL,jF,Ai,kW,xv,Nr,V3]
noncomputable def Wx:Fx:=⟨325,Tryz.f325,[(3000001,rA 0 17)],0⟩
noncomputable def vb:FT (Conn×Segm×Unit) (Int) (λx=>ac x.1∧ao x.2.1) (λ_ _=>True):= .mk λ(x0,x1,_)=>
  .bnd (β:=Bool×Unit) (.as (λw=>(w.1=false→SO x0.s∧RO x0.r∧x1.body.length≤1420)) (.cal aN.c (x0,()) λc1=>
   .ite (!c1) (.ret (true,()))<|
   .ite (x0.state==8) (.ret (true,()))<|
   .cal ak.c (x1,()) λc2=>
   .ret ((!c2),()))) λ(u3a0,_)=>
  .ite u3a0 (.ret 1)<|
  .val (bH.f (x1,4,())) λc4=>
  .ite c4 (.ite (x1.seq==x0.r.next) (.ret 2)<|
   .cal bB.c (x0.r,()) λc5=>
   .val (oO.f (x1.seq,x0.r.next,c5,())) λc6=>
   .ite c6 (.ret 3)<|
   .ret 1)<|
  .val (bH.f (x1,2,())) λc7=>
  .ite c7 (.ret 3)<|
  .cal rp.c (x0,x1,()) λc8=>
  .ite (!c8) (.ret 4)<|
  .val (bH.f (x1,16,())) λc9=>
  .ite (!c9) (.ret 1)<|
  .cal Am.c (x0,x1.ack,()) λc10=>
  .ite (!c10) (.ret 3)<|
  .ret 5
noncomputable def HB:=bM st Wx Te [] (ks:=[.st .conn,.st .segm]) vb rI Tryz.func325 trivial
noncomputable def aaB:=[HB,cY,ZX,JU,sO,Ai,WL,X2]
def BL:An:=⟨⟨[],[],false,0⟩,⟨[2,3,4,5],[],false,0⟩,⟨[],[]⟩,[(.normal,⟨[zp 2 0,zp 3 1,zp 4 2,zp 5 3],[zg .conn,zx .segm,.box [.st .conn [.nil .piec]],zk .conn 4,zf]⟩)]⟩
noncomputable def abf:Fx:=⟨326,Tryz.f326,[(1000024,BL),(3000009,rA 0 54),(3000014,rA 0 73)],0⟩
noncomputable def Du:FT (Conn×Segm×Unit) (Conn) (λx=>ac x.1∧ao x.2.1) (λx v=>ac v):= .mk λ(x0,x1,_)=>
  .cal vb.c (x0,x1,()) λc1=>
  .ite (c1 != 5) (.cal cc.c (x0,()) λc2=>
   .ret c2)<|
  .cal cc.c (x0,()) λc3=>
  .cal I9.c (x0.s,x1.ack,()) λc4=>
  .bnd (β:=WT BL.es) (.as (λw=>ac w.1∧ao w.2.1∧ac w.2.2.1∧ac w.2.2.2.1) (.ite c4.2 (.cal yM.c (x1.window,x0.opts,()) λc5=>
    .bnd (β:=Bool×Unit) (.ite (c4.1.una != x0.s.una) (.ret ((x0.state != 7),()))<|
     .cal dr.c (c4.1,()) λc6=>
     .ite (c6==0) (.ret ((x0.state != 7),()))<|
     .ret (false,())) λ(u7a0,_)=>
    .ite u7a0 (.cal dr.c (c4.1,()) λc8=>
     .ite (decide (0<c8)) (.ret (x0,x1,(⟨⟨0,0,0⟩,0,⟨0,[],0,false,false,false⟩,⟨0,[],[],0,false⟩,0,0,⟨0,0,false,false,0,0⟩,0,0⟩:Conn),(⟨c3.tuple,c3.state,c4.1,c3.r,c5,(if c3.most<c5 then c5 else c3.most),c3.opts,3,0⟩:Conn),()))<|
     .ret (x0,x1,(⟨⟨0,0,0⟩,0,⟨0,[],0,false,false,false⟩,⟨0,[],[],0,false⟩,0,0,⟨0,0,false,false,0,0⟩,0,0⟩:Conn),(⟨c3.tuple,c3.state,c4.1,c3.r,c5,(if c3.most<c5 then c5 else c3.most),c3.opts,0,0⟩:Conn),()))<|
    .ret (x0,x1,(⟨⟨0,0,0⟩,0,⟨0,[],0,false,false,false⟩,⟨0,[],[],0,false⟩,0,0,⟨0,0,false,false,0,0⟩,0,0⟩:Conn),(⟨c3.tuple,c3.state,c4.1,c3.r,c5,(if c3.most<c5 then c5 else c3.most),c3.opts,c3.timer,c3.tries⟩:Conn),()))<|
   .ret (x0,x1,(⟨⟨0,0,0⟩,0,⟨0,[],0,false,false,false⟩,⟨0,[],[],0,false⟩,0,0,⟨0,0,false,false,0,0⟩,0,0⟩:Conn),c3,()))) λ(u9a0,u9a1,_,u9a3,_)=>
  .bnd (β:=Bool×Unit) (.ite (u9a0.state==1) (.ret (true,()))<|
   .ite (u9a0.state==2) (.ret (true,()))<|
   .ret ((u9a0.state==3),())) λ(u10a0,_)=>
  .ite u10a0 (.val (bH.f (u9a1,1,())) λc11=>
   .cal uQ.c (u9a0.r,u9a1.seq,u9a1.body,c11,()) λc12=>
   .cal tt.c (({u9a3 with r.next:=c12.next,r.data:=c12.data,r.held:=c12.held,r.fin:=c12.fin,r.done:=c12.done}:Conn),()) λc13=>
   .ret c13)<|
  .cal tt.c (u9a3,()) λc14=>
  .ret c14
noncomputable def aag:=bM st abf aaB [] (ks:=[.st .conn,.st .segm]) Du (λv=>[(true,fg (.o true) v)]) Tryz.func326 trivial
noncomputable def tD:FT (Door×Tupl×Segm×Unit) (Bool) (λx=>aC x.1∧ao x.2.2.1) (λ_ _=>True):= .mk λ(x0,x1,x2,_)=>
  .cal r7.c (x0,()) λc1=>
  .ite c1 (.cal lg.c (x1,()) λc2=>
   .ite c2 (.cal i1.c (x2,()) λc3=>
    .ret c3)<|
   .ret false)<|
  .ret false
noncomputable def C9:=a9 st Tryz.func393 [vU,pX,lB] (ks:=[.st .door,.st .tupl,.st .segm]) tD rB
noncomputable def TZ:=[gQ,lB,Ax,kX,xh,Nw,Wg]
noncomputable def Ua:Fx:=⟨454,Tryz.f454,[(3000001,rA 0 5),(3000003,rA 0 19),(3000005,rA 0 30)],0⟩
noncomputable def vC:FT (Conn×Segm×Unit) (Int) (λx=>ac x.1∧ao x.2.1) (λ_ _=>True):= .mk λ(x0,x1,_)=>
  .bnd (β:=Bool×Unit) (.as (λw=>(w.1=false→SO x0.s∧RO x0.r∧x1.body.length≤1420)) (.cal ic.c (x0,()) λc1=>
   .ite (!c1) (.ret (true,()))<|
   .ite (x0.state==8) (.ret (true,()))<|
   .cal i1.c (x1,()) λc2=>
   .ret ((!c2),()))) λ(u3a0,_)=>
  .ite u3a0 (.ret 1)<|
  .bnd (β:=Bool×Unit) (.val (gW.f (x1,4,())) λc4=>
   .ite c4 (.ret ((x1.seq==x0.r.next),()))<|
   .ret (false,())) λ(u5a0,_)=>
  .ite u5a0 (.ret 2)<|
  .bnd (β:=Bool×Unit) (.val (gW.f (x1,4,())) λc6=>
   .ite c6 (.cal gN.c (x0.r,()) λc7=>
    .val (oW.f (x1.seq,x0.r.next,c7,())) λc8=>
    .ret (c8,()))<|
   .ret (false,())) λ(u9a0,_)=>
  .ite u9a0 (.ret 3)<|
  .val (gW.f (x1,4,())) λc10=>
  .ite c10 (.ret 1)<|
  .val (gW.f (x1,2,())) λc11=>
  .ite c11 (.ret 3)<|
  .cal ru.c (x0,x1,()) λc12=>
  .ite (!c12) (.ret 4)<|
  .val (gW.f (x1,16,())) λc13=>
  .ite (!c13) (.ret 1)<|
  .cal Ay.c (x0,x1.ack,()) λc14=>
  .ite (!c14) (.ret 3)<|
  .ret 5
noncomputable def GX:=bM st Ua TZ [] (ks:=[.st .conn,.st .segm]) vC rI Tryz.func454 trivial
noncomputable def aaX:=[dD,GX,PZ,mO,oG,jt,cx,Ax,Hz,XT]
def BD:An:=⟨⟨[],[],false,0⟩,⟨[2,3,4,5],[],false,0⟩,⟨[],[]⟩,[(.normal,⟨[zp 2 0,zp 3 1,zp 4 2,zp 5 3],[zg .conn,zx .segm,.box [.st .conn [.nil .piec]],zk .conn 4,zf]⟩)]⟩
noncomputable def aaG:Fx:=⟨455,Tryz.f455,[(1000024,BD),(3000010,rA 0 59)],0⟩
noncomputable def CW:FT (Conn×Segm×Unit) (Conn) (λx=>ac x.1∧ao x.2.1) (λx v=>ac v):= .mk λ(x0,x1,_)=>
  .cal dH.c (x0,()) λc1=>
  .cal vC.c (x0,x1,()) λc2=>
  .ite (c2 != 5) (.ret c1)<|
  .cal Er.c (x0.s,x1.ack,()) λc3=>
  .bnd (β:=WT BD.es) (.as (λw=>ac w.1∧ao w.2.1∧ac w.2.2.1∧ac w.2.2.2.1) (.ite c3.2 (.val (fB.f (0,x0.opts.scale,())) λc4=>
    .grd (decide (0≤(IntKind.wrap .u64 c4)))<|
    .val (IntKind.wrap .i64 (x1.window*2 ^ (min (IntKind.wrap .u64 c4).toNat 64))) λe5=>
    .val (j1.f (1073725440,e5,())) λc6=>
    .val (fB.f (c1.most,c6,())) λc7=>
    .cal gI.c (c3.1,()) λc8=>
    .bnd (β:=Bool×Unit) (.ite (c3.1.una != x0.s.una) (.ret ((x0.state != 7),()))<|
     .ite (c8==0) (.ret ((x0.state != 7),()))<|
     .ret (false,())) λ(u9a0,_)=>
    .ite u9a0 (.ite (decide (0<c8)) (.ret (x0,x1,(⟨⟨0,0,0⟩,0,⟨0,[],0,false,false,false⟩,⟨0,[],[],0,false⟩,0,0,⟨0,0,false,false,0,0⟩,0,0⟩:Conn),(⟨c1.tuple,c1.state,c3.1,c1.r,c6,c7,c1.opts,3,0⟩:Conn),()))<|
     .ret (x0,x1,(⟨⟨0,0,0⟩,0,⟨0,[],0,false,false,false⟩,⟨0,[],[],0,false⟩,0,0,⟨0,0,false,false,0,0⟩,0,0⟩:Conn),(⟨c1.tuple,c1.state,c3.1,c1.r,c6,c7,c1.opts,0,0⟩:Conn),()))<|
    .ret (x0,x1,(⟨⟨0,0,0⟩,0,⟨0,[],0,false,false,false⟩,⟨0,[],[],0,false⟩,0,0,⟨0,0,false,false,0,0⟩,0,0⟩:Conn),(⟨c1.tuple,c1.state,c3.1,c1.r,c6,c7,c1.opts,c1.timer,c1.tries⟩:Conn),()))<|
   .ret (x0,x1,(⟨⟨0,0,0⟩,0,⟨0,[],0,false,false,false⟩,⟨0,[],[],0,false⟩,0,0,⟨0,0,false,false,0,0⟩,0,0⟩:Conn),c1,()))) λ(u10a0,u10a1,_,u10a3,_)=>
  .val (bZ.f (u10a0.state,1,3,())) λc11=>
  .ite c11 (.val (gW.f (u10a1,1,())) λc12=>
   .cal rH.c (u10a0.r,u10a1.seq,u10a1.body,c12,()) λc13=>
   .cal sy.c (({u10a3 with r.next:=c13.next,r.data:=c13.data,r.held:=c13.held,r.fin:=c13.fin,r.done:=c13.done}:Conn),()) λc14=>
   .ret c14)<|
  .cal sy.c (u10a3,()) λc15=>
  .ret c15
noncomputable def aan:=bM st aaG aaX [] (ks:=[.st .conn,.st .segm]) CW (λv=>[(true,fg (.o true) v)]) Tryz.func455 trivial
def yq:Sh:=⟨[zs 2,zp 7 0,(8,false,[.sl .any .u8])],[zx .sipr]⟩
noncomputable def nA (a:List Int×Sipr):Tr (Stp (List Int×Sipr) ((List Int×Sipr))):=
 .ite (decide (8≤(a.1.length:Int))) (.cal tq.c (a.1,()) λc4=>
  .cal vN.c (a.2,c4,()) λc5=>
  .grd ((decide (8≤(a.1.length:Int)))&&(decide ((a.1.length:Int)≤(a.1.length:Int))))<|
  .ret (.next (((a.1.take ((a.1.length:Int).toNat)).drop 8),c5)))<|
 .ret (.out (a.1,a.2))
noncomputable def n5:yq.V→LW yq (List Int×Sipr) ((List Int×Sipr)):=λ(v0,v1,v2,_)=>⟨(v1,v2),λa=>(v0,a.1,a.2,()),nA,v1.length,oN (.exit 0) ⟨[zs 2,zu 6,zp 7 0,(8,false,[.sl .any .u8])],[zx .sipr]⟩ (λp=>(v0,p.1,p.2,()))⟩
theorem KY {v0:aa}{v1:List Int}{v2:Sipr}(h0:sS v1):(n5 (v0,v1,v2,())).W (λp=>sS p.1):=
 lwW (a:=(v1,v2)) (λa=>sS a.1) (λa=>a.1.length) h0
noncomputable def oC:FT (Int×Int×aa×Unit) (Int) (λx=>sS x.2.2.1) (λ_ _=>True):= .mk (λ(x0,x1,x2,_)=>
  .val (tj.f (x0,x1,())) λc1=>
  .grd (Nat.ble x2.length bo)<|
  .lp (n5 (x2,(er x2),c1,())).lp λ(p6a0,p6a1)=>
  .val ((p6a0.take (List.replicate 8 0).length)++(List.replicate 8 0).drop (p6a0.take (List.replicate 8 0).length).length) λl7=>
  .grd (decide (7<(l7.length:Int)))<|
  .cal tq.c ((l7.set 7 (IntKind.wrap .u8 (x2.length:Int))),()) λc8=>
  .cal vN.c (p6a1,c8,()) λc9=>
  .cal uZ.c (c9,()) λc10=>
  .ret c10) (qm @KY)
noncomputable def Tz:=NY st Tryz.func460 [(0,la ⟨[2,7,8],[.soft 8 0],false,0⟩ ⟨[2,6,7,8],[],false,0⟩)] [SQ,XD,Vb,Xj] 0 n5 (ks:=[.sc (.int .u64),.sc (.int .u64),.sc .str]) oC (λv=>[(false,[.c (.int .u64 v)])])
noncomputable def gR:=[L9]
def cp:Sh:=⟨[zl 0 .conn,(1,false,[.fn 148 [0]]),zi 7,zi 8],[zx .tupl]⟩
noncomputable def gU:Fx:=⟨147,Tryz.f147,[(0,la ⟨[0,1,7,8],[],false,1⟩ ⟨[4],[],false,1⟩)],1⟩
noncomputable def fT (v0:List Conn)(v3:Tupl)(v2:Int)(a:Unit):Tr (Stp (Unit) ((Int))):=
 .grd (cj v0 v2)<|
 .cal wH.c ((v0.getD v2.toNat (Ty.zero .conn)),v3,()) λc1=>
 .ite c1 (.ret (.out v2))<|
 .ret (.next ())
noncomputable def bu:cp.V→qF cp Unit (Int):=λ(v0,v1,v2,v3,_)=>⟨v2,(),λv2 _=>(v0,v1,v2,v3,()),λv2 _=>(decide (v2<v1)),fT v0 v3,up,1,(Int.toNat (v1-v2)),.inl,eR,oB .ret ⟨[zi 4],[zx .tupl]⟩ (λp=>(p,v3,())) (.exit 0) ⟨[zu 4],[zx .tupl]⟩ (λ_=>(v3,()))⟩
theorem mG:LS Tryz.prog gU [0] (fv 0 cp bu):=cI st (aH gR) _ bu [] trivial
theorem mE {v0:List Conn}{v1 v2:Int}{v3:Tupl}(h0:0≤v2)(h1:v1≤4611686018427387904)(h2:v1≤(v0.length:Int)):(bu (v0,v1,v2,v3,())).U v1 (λ_ _=>True) (λp=>v2≤p∧p<v1):=
 iT h0 h1 trivial
noncomputable def eI:FT (List Conn×Tupl×Unit) (Int) (λx=>wS x.1) (λx v=> -1≤v∧v<x.1.length):= .mk (λ(x0,y1_0,_)=>
  .lp (bu (x0,(x0.length:Int),0,y1_0,())).lp λw2=> .sum w2 (λp2a0=>
  .ret p2a0)<|
  λ_=>
  .ret (-1)) (qm @mE)
noncomputable def oy:=cq st gU gR [(fv 0 cp bu)] [.wr false [.c (.sl .conn)],.fn 148 [0]] [.box [.st .tupl]] (λx y=>(x.1.1,y.1.1,())) eI rI (λx y v=>((y.1.1,()),())) Tryz.func147 (by kernel_rfl) ⟨mG,trivial⟩
noncomputable def nl:FT (Curs×Unit) (Int×Curs) (λx=>af x.1) (λx v=>af v.2∧0≤v.1∧v.1≤255):= .mk λ(y0,_)=>
  .val (IntKind.wrap .i64 ((IntKind.wrap .i64 (y0.h*6364136223846793005))+1442695040888963407)) λe1=>
  .val (bits .and .i64 (bits .xor .i64 (e1.fdiv 8589934592) (e1.fdiv 35184372088832)) 255) λe2=>
  .ite (decide (y0.i<(y0.b.length:Int))) (.grd (cj y0.b y0.i)<|
   .val (IntKind.wrap .i64 (e2+(IntKind.wrap .i64 (y0.b.getD y0.i.toNat 0)))) λe3=>
   .ret ((bits .and .i64 e3 255),(⟨y0.b,(IntKind.wrap .i64 (y0.i+1)),e1⟩:Curs)))<|
  .ret (e2,({y0 with h:=e1}:Curs))
noncomputable def we:=cq st ⟨201,Tryz.f201,[],1⟩ [] [] [.wr false [.ptr 0]] [.box [.st .curs]] (λx y=>(y.1.1,())) nl (λv=>[(false,[.c (.int .i64 v.1)])]) (λx y v=>((v.2,()),())) Tryz.func201 (by kernel_rfl) trivial
noncomputable def gV:=[Mj]
def cl:Sh:=⟨[zl 0 .half,(1,false,[.fn 328 [0]]),zi 7,zi 8],[zx .tupl]⟩
noncomputable def gT:Fx:=⟨314,Tryz.f314,[(0,la ⟨[0,1,7,8],[],false,1⟩ ⟨[4],[],false,1⟩)],1⟩
noncomputable def fY (v0:List Half)(v3:Tupl)(v2:Int)(a:Unit):Tr (Stp (Unit) ((Int))):=
 .grd (cj v0 v2)<|
 .cal wA.c ((v0.getD v2.toNat (Ty.zero .half)),v3,()) λc1=>
 .ite c1 (.ret (.out v2))<|
 .ret (.next ())
noncomputable def br:cl.V→qF cl Unit (Int):=λ(v0,v1,v2,v3,_)=>⟨v2,(),λv2 _=>(v0,v1,v2,v3,()),λv2 _=>(decide (v2<v1)),fY v0 v3,up,1,(Int.toNat (v1-v2)),.inl,eR,oB .ret ⟨[zi 4],[zx .tupl]⟩ (λp=>(p,v3,())) (.exit 0) ⟨[zu 4],[zx .tupl]⟩ (λ_=>(v3,()))⟩
theorem mr:LS Tryz.prog gT [0] (fv 0 cl br):=cI st (aH gV) _ br [] trivial
theorem mu {v0:List Half}{v1 v2:Int}{v3:Tupl}(h0:0≤v2)(h1:v1≤4611686018427387904)(h2:v1≤(v0.length:Int)):(br (v0,v1,v2,v3,())).U v1 (λ_ _=>True) (λp=>v2≤p∧p<v1):=
 iT h0 h1 trivial
noncomputable def eP:FT (List Half×Tupl×Unit) (Int) (λx=>wS x.1) (λx v=> -1≤v∧v<x.1.length):= .mk (λ(x0,y1_0,_)=>
  .lp (br (x0,(x0.length:Int),0,y1_0,())).lp λw2=> .sum w2 (λp2a0=>
  .ret p2a0)<|
  λ_=>
  .ret (-1)) (qm @mu)
noncomputable def oA:=cq st gT gV [(fv 0 cl br)] [.sc (.sl .half),.fn 328 [0]] [.box [.st .tupl]] (λx y=>(x.1,y.1.1,())) eP rI (λx y v=>((y.1.1,()),())) Tryz.func314 (by kernel_rfl) ⟨mr,trivial⟩
noncomputable def aj:FT (Curs×Int×Unit) (Int×Curs) (λx=>af x.1) (λx v=>af v.2∧0≤v.1∧(0<x.2.1→v.1<x.2.1)):=⟨λ(y0,x1,_)=>
  .ite (decide (x1≤0)) (.ret (0,y0))<|
  .ite (decide (x1≤256)) (.cal nl.c (y0,()) λc1=>
   .grd (x1 != 0)<|
   .ret ((c1.1.tmod x1),c1.2))<|
  .cal nl.c (y0,()) λc2=>
  .cal nl.c (c2.2,()) λc3=>
  .cal nl.c (c3.2,()) λc4=>
  .cal nl.c (c4.2,()) λc5=>
  .val (IntKind.wrap .i64 ((IntKind.wrap .i64 (c2.1*16777216))+(IntKind.wrap .i64 (c3.1*65536)))) λe6=>
  .val (IntKind.wrap .i64 ((IntKind.wrap .i64 (e6+(IntKind.wrap .i64 (c4.1*256))))+c5.1)) λe7=>
  .grd (x1 != 0)<|
  .ret ((e7.tmod x1),c5.2),
 λ(y0,x1,_) hp=>by
  refine Tr.I (λb0=>Tr.R ?_) λb0=>Tr.I (λb1=>Tr.C ?_ λc1 hc1 qc1=>Tr.G ?_ λg2=>Tr.R ?_) λb1=>Tr.C ?_ λc2 hc2 qc2=>Tr.C ?_ λc3 hc3 qc3=>Tr.C ?_ λc4 hc4 qc4=>Tr.C ?_ λc5 hc5 qc5=>Tr.V λe6 he6=>Tr.V λe7 he7=>Tr.G ?_ λg2=>Tr.R ?_
  all_goals ((first|grind|(refine⟨by grind,Jf ?_,λh=>DD h⟩;first|grind|(subst_vars;simp only[df];omega))))⟩
noncomputable def az:=cq st ⟨99,Tryz.f99,[],1⟩ [we] [] [.wr false [.ptr 0],.sc (.int .i64)] [.box [.st .curs]] (λx y=>(y.1.1,x.2.1,())) aj (λv=>[(false,[.c (.int .i64 v.1)])]) (λx y v=>((v.2,()),())) Tryz.func99 (by kernel_rfl) trivial
noncomputable def gC:FT (Stac×Stac×Unit) (Bool) (λx=>ax x.1∧ax x.2.1) (λ_ _=>True):= .mk λ(x0,x1,_)=>
  .cal wh.c (x0.link,x1.link,()) λc1=>
  .ite c1 (.cal wD.c (x0.door,x1.door,()) λc2=>
   .ret c2)<|
  .ret false
noncomputable def uP:=a9 st Tryz.func14 [SZ,R4] (ks:=[.st .stac,.st .stac]) gC rB
noncomputable def jL:FT (Stac×Unit) (Bool) (λx=>ax x.1) (λx v=>(v=true→x.1.door.table.conns.length≤16)):= .mk λ(x0,_)=>
  .cal vk.c (x0.link,()) λc1=>
  .ite c1 (.cal r7.c (x0.door,()) λc2=>
   .ret c2)<|
  .ret false
noncomputable def mR:=a9 st Tryz.func19 [CB,vU] (ks:=[.st .stac]) jL rB
noncomputable def jz:FT (Stac×Unit) (Stac) (λx=>ax x.1) (λx v=>ax v):= .mk λ(x0,_)=>
  .cal mK.c (x0.link,()) λc1=>
  .cal gt.c (x0.door,()) λc2=>
  .ret (⟨c1,c2⟩:Stac)
noncomputable def od:=a9 st Tryz.func53 [BF,jR] (ks:=[.st .stac]) jz (λv=>[(true,kJ (.o true) (.o true) (.o true) (.o true) (.o true) (.o true) v)])
noncomputable def ar:FT (Tabl×Tupl×Unit) (Int) (λx=>wS x.1.conns) (λx v=> -1≤v∧v<x.1.conns.length):= .mk λ(x0,x1,_)=>
  .cal eI.c (x0.conns,x1,()) λc1=>
  .ret c1
noncomputable def gz:=a9 st Tryz.func59 [oy] (ks:=[.st .tabl,.st .tupl]) ar rI
noncomputable def dd:FT (Tabl×Conn×Unit) (Tabl) (λx=>aO x.1∧ac x.2.1) (λx v=>aO v∧v.conns.length=x.1.conns.length):= .mk λ(x0,x1,_)=>
  .cal fC.c (x0,()) λc1=>
  .cal ar.c (x0,x1.tuple,()) λc2=>
  .ite (decide (0≤c2)) (.cal cc.c (x1,()) λc3=>
   .grd (cj c1.conns c2)<|
   .ret (⟨(c1.conns.set c2.toNat c3),c1.waiting⟩:Tabl))<|
  .ret c1
noncomputable def y6:=a9 st Tryz.func62 [kw,gz,cY] (ks:=[.st .tabl,.st .conn]) dd (λv=>[(true,qw (.o true) (.o true) v)])
noncomputable def pb:FT (Stac×Unit) (Stac) (λx=>ax x.1) (λx v=>ax v):= .mk λ(x0,_)=>
  .cal rF.c (x0.link,()) λc1=>
  .cal d6.c (x0.door,()) λc2=>
  .ret (⟨c1,c2⟩:Stac)
noncomputable def un:=a9 st Tryz.func64 [Hr,gE] (ks:=[.st .stac]) pb (λv=>[(true,kJ (.o true) (.o true) (.o true) (.o true) (.o true) (.o true) v)])
noncomputable def uq:FT (Door×Mac×Unit) (Door) (λx=>aC x.1∧dT x.2.1) (λx v=>aC v):= .mk λ(x0,x1,_)=>
  .cal d6.c (x0,()) λc1=>
  .cal Ak.c (x0.keys,x1,()) λc2=>
  .ret (⟨c1.port,c1.clock,c2,c1.limits,c1.halves,c1.table,c1.chal⟩:Door)
noncomputable def OC:=a9 st Tryz.func67 [gE,WI] (ks:=[.st .door,.st .mac]) uq (λv=>[(true,kF (.o true) (.o true) (.o true) (.o true) (.o true) v)])
noncomputable def Yh:=[BF,OA,Cq,aas,Ws,VU,QR,TL,Bu,MK]
noncomputable def YN:Fx:=⟨137,Tryz.f137,[(3000003,rA 0 37),(3000008,rA 0 58),(3000016,rA 0 117)],0⟩
noncomputable def bJ:FT (Link×aa×Unit) (Link×Int×Pack×aa) (λx=>ec x.1∧sS x.2.1) (λx v=>ec v.1∧kS v.2.2.1∧sS v.2.2.2∧v.2.2.1.body.length≤1500):= .mk λ(x0,x1,_)=>
  .cal mK.c (x0,()) λc1=>
  .cal qd.c (x1,()) λc2=>
  .bnd (β:=Bool×Unit) (.cal dV.c (x0,()) λc3=>
   .ite (!c3) (.ret (true,()))<|
   .ite (!c2.2) (.ret (true,()))<|
   .val (tG.f (c2.1,x0.mac,())) λc4=>
   .ret ((!c4),())) λ(u5a0,_)=>
  .ite u5a0 (.ret (c1,0,(⟨0,0,0,0,0,[]⟩:Pack),[]))<|
  .ite (c2.1.type==2054) (.cal vi.c (c2.1.body,()) λc6=>
   .bnd (β:=Bool×Unit) (.ite (!c6.2) (.ret (true,()))<|
    .ret ((c6.1.dstIp != x0.ip),())) λ(u7a0,_)=>
   .ite u7a0 (.ret (c1,0,(⟨0,0,0,0,0,[]⟩:Pack),[]))<|
   .cal vg.c (x0.cache,c6.1.srcIp,c6.1.srcHw,()) λc8=>
   .cal pk.c (c6.1,x0.mac,x0.ip,()) λc9=>
   .ite c9.2 (.cal k9.c (c9.1,()) λc10=>
    .cal gv.c ((⟨c6.1.srcHw,x0.mac,2054,c10⟩:Fram),()) λc11=>
    .ret (({c1 with cache:=c8}:Link),1,(⟨0,0,0,0,0,[]⟩:Pack),c11))<|
   .ret (({c1 with cache:=c8}:Link),0,(⟨0,0,0,0,0,[]⟩:Pack),[]))<|
  .ite (c2.1.type==2048) (.cal oo.c (c2.1.body,()) λc12=>
   .bnd (β:=Bool×Unit) (.ite (c12.2 != 0) (.ret (true,()))<|
    .ite (c12.1.dst != x0.ip) (.ret (true,()))<|
    .ite (c12.1.proto != 6) (.ret (true,()))<|
    .ret ((c12.1.src==x0.ip),())) λ(u13a0,_)=>
   .ite u13a0 (.ret (c1,0,(⟨0,0,0,0,0,[]⟩:Pack),[]))<|
   .cal vg.c (x0.cache,c12.1.src,c2.1.src,()) λc14=>
   .ret (({c1 with cache:=c14}:Link),2,c12.1,[]))<|
  .ret (c1,0,(⟨0,0,0,0,0,[]⟩:Pack),[])
noncomputable def WS:=bM st YN Yh [] (ks:=[.st .link,.sc .str]) bJ (λv=>[(true,B4 (.o true) v.1),(false,[.c (.int .i64 v.2.1)]),(true,Ge v.2.2.1),(false,[.c (.str v.2.2.2)])]) Tryz.func137 trivial
noncomputable def abw:=[gL,cY,Yg,C1]
noncomputable def aaR:Fx:=⟨150,Tryz.f150,[(3000001,rA 0 23)],0⟩
noncomputable def Ja:FT (Conn×aa×Unit) (Conn×Int×List Segm) (λx=>ac x.1∧sS x.2.1) (λx v=>ac v.1∧sL ao v.2.2):= .mk λ(x0,x1,_)=>
  .bnd (β:=Bool×Unit) (.cal aN.c (x0,()) λc1=>
   .ite (!c1) (.ret (true,()))<|
   .ite (x0.state != 1) (.ret ((x0.state != 4),()))<|
   .ret (false,())) λ(u2a0,_)=>
  .ite u2a0 (.cal cc.c (x0,()) λc3=>
   .ret (c3,0,[]))<|
  .cal Dr.c (x0.s,x1,()) λc4=>
  .cal cO.c (({x0 with s.una:=c4.1.una,s.data:=c4.1.data,s.sent:=c4.1.sent,s.fin:=c4.1.fin,s.finSent:=c4.1.finSent,s.done:=c4.1.done}:Conn),x0.window,()) λc5=>
  .ret (c5.1,c4.2,c5.2)
noncomputable def ZM:=bM st aaR abw [] (ks:=[.st .conn,.sc .str]) Ja (λv=>[(true,fg (.o true) v.1),(false,[.c (.int .i64 v.2.1)]),(false,[sc (.o true) .segm v.2.2])]) Tryz.func150 trivial
noncomputable def acN:=[cY,gL,C1]
@[reducible] def Ea:An:=⟨⟨[],[],false,0⟩,⟨[2,3,4],[],false,0⟩,⟨[],[]⟩,[(.normal,⟨[zp 2 0,(3,false,[.nil]),zp 4 1],[.box [.st .conn [.nil .piec]],zk .conn 2,zf]⟩),(.ret,⟨[zp 2 0,(3,false,[.nil]),zp 4 1],[zk .conn 2,zk .conn 2,zf]⟩)]⟩
noncomputable def abM:Fx:=⟨152,Tryz.f152,[(1000014,Ea)],0⟩
noncomputable def RU:FT (Conn×Unit) (Conn×List Segm) (λx=>ac x.1) (λx v=>ac v.1∧sL ao v.2):= .mk λ(x0,_)=>
  .cal cc.c (x0,()) λc1=>
  .cal aN.c (x0,()) λc2=>
  .ite (!c2) (.ret (c1,[]))<|
  .bnd (β:=WT Ea.es) (.as (Sum.elim (λw=>ac w.1∧ac w.2.1) (λw=>ac w.1∧ac w.2.1)) (.ite (x0.state==1) (.ret (.inl ((⟨⟨0,0,0⟩,0,⟨0,[],0,false,false,false⟩,⟨0,[],[],0,false⟩,0,0,⟨0,0,false,false,0,0⟩,0,0⟩:Conn),({c1 with state:=2}:Conn),())))<|
   .ite (x0.state==4) (.ret (.inl ((⟨⟨0,0,0⟩,0,⟨0,[],0,false,false,false⟩,⟨0,[],[],0,false⟩,0,0,⟨0,0,false,false,0,0⟩,0,0⟩:Conn),({c1 with state:=6}:Conn),())))<|
   .ret (.inr ((c1,c1,()))))) λw3=> .sum w3 (λ(_,u3a1,_)=>
  .cal cO.c (({u3a1 with s.fin:=true}:Conn),u3a1.window,()) λc4=>
  .ret (c4.1,c4.2))<|
  λ(u3b0,_,_)=>
  .ret (u3b0,[])
noncomputable def acH:=bM st abM acN [] (ks:=[.st .conn]) RU (λv=>[(true,fg (.o true) v.1),(false,[sc (.o true) .segm v.2])]) Tryz.func152 trivial
noncomputable def XH:=[Hr,O3,CB,aaL,WQ,Lr,tN]
noncomputable def YG:Fx:=⟨158,Tryz.f158,[(3000003,rA 0 33),(3000010,rA 0 77),(4000000,la ⟨[],[],false,0⟩ ⟨[],[.softb 4 2],false,0⟩)],0⟩
noncomputable def Em:FT (Link×aa×Unit) (Link×Int×Pack×aa) (λx=>ec x.1∧sS x.2.1) (λx v=>ec v.1∧kS v.2.2.1∧sS v.2.2.2∧v.2.2.1.body.length≤1500):= .mk λ(x0,x1,_)=>
  .cal rF.c (x0,()) λc1=>
  .cal pU.c (x1,()) λc2=>
  .bnd (β:=Bool×Unit) (.cal vk.c (x0,()) λc3=>
   .ite (!c3) (.ret (true,()))<|
   .ite (!c2.2) (.ret (true,()))<|
   .val (Jv.f (c2.1,x0.mac,())) λc4=>
   .ret ((!c4),())) λ(u5a0,_)=>
  .ite u5a0 (.ret (c1,0,(⟨0,0,0,0,0,[]⟩:Pack),[]))<|
  .ite (c2.1.type==2054) (.cal MA.c (c1,c2.1,()) λc6=>
   .ret (c6.1,c6.2.1,c6.2.2.1,c6.2.2.2))<|
  .ite (c2.1.type != 2048) (.ret (c1,0,(⟨0,0,0,0,0,[]⟩:Pack),[]))<|
  .cal oa.c (c2.1.body,()) λc7=>
  .bnd (β:=Bool×Unit) (.ite (c7.2 != 0) (.ret (true,()))<|
   .ite (c7.1.dst != x0.ip) (.ret (true,()))<|
   .ite (c7.1.proto != 6) (.ret (true,()))<|
   .ret ((c7.1.src==x0.ip),())) λ(u8a0,_)=>
  .ite u8a0 (.ret (c1,0,(⟨0,0,0,0,0,[]⟩:Pack),[]))<|
  .cal pj.c (c1.cache,c7.1.src,c2.1.src,()) λc9=>
  .ret (({c1 with cache:=c9}:Link),2,c7.1,[])
noncomputable def Xh:=bM st YG XH [] (ks:=[.st .link,.sc .str]) Em (λv=>[(true,B4 .c v.1),(false,[.c (.int .i64 v.2.1)]),(true,Ge v.2.2.1),(false,[.c (.str v.2.2.2)])]) Tryz.func158 trivial
def yZ:Sh:=⟨[zi 1,zl 2 .segm,zp 3 0,zo 7 1,zi 8],[.box [.st .stac [.sl .arg,.sl .arg,.sl .arg,.sl .arg,.sl .arg,.sl .arg]],za .str]⟩
noncomputable def ze (v0:Int)(v1:List Segm)(v3:Stac)(v2:Int)(a:List aa):Tr (Stp (List aa) (Empty)):=
 .grd (cj v1 v2)<|
 .cal lG.c ((v1.getD v2.toNat (Ty.zero .segm)),v3.link.ip,v0,()) λc1=>
 .cal AV.c (v3.link,v0,c1,()) λc2=>
 .ite c2.2 (.grd (qq a 1 16)<|
  .ret (.next (a++[c2.1])))<|
 .ret (.next a)
noncomputable def kL:yZ.V→qc yZ (List aa):=λ(v0,v1,v2,v3,v4,_)=>⟨v2,v4,λv2 a=>(v0,v1,v2,v3,a,()),λv2 _=>(decide (v2<(v1.length:Int))),ze v0 v1 v3,up,1,(Int.toNat ((v1.length:Int)-v2)),Empty.elim,Prod.mk,oN (.exit 0) ⟨[zu 6,zo 7 0],[za .str]⟩ (λx=>(x.2,()))⟩
theorem KU {v0 v2:Int}{v1:List Segm}{v3:Stac}{v4:List aa}(h0:0≤v2)(h1:(v1.length:Int)≤4611686018427387904)(h2:sL ao v1)(h3:ax v3)(h4:(v4.length:Int)≤v2∧cX sS v4):(kL (v0,v1,v2,v3,v4,())).U (v1.length:Int) (λv2 a=>(a.length:Int)≤v2∧cX sS a) (λ_=>True):=
 iT (a:=v4) h0 h1 h4
noncomputable def rO:FT (Stac×Int×List Segm×Unit) (List aa) (λx=>ax x.1∧sL ao x.2.2.1) (λx v=>sL sS v∧v.length≤x.2.2.1.length):=⟨λ(x0,x1,x2,_)=>
  .lp (kL (x1,x2,0,x0,[],())).lp λ(_,a3_0)=>
  .ret a3_0,
 λ(x0,x1,x2,_) hp=>by
  refine Tr.L (KU ?_ ?_ ?_ ?_ ?_) (λa3_0 _=>Tr.R ?_) (λp=>Empty.elim p)
  all_goals ((try simp only[kL,LC.lp,LC.ct,Ct.lp]at*)<;>grind)⟩
noncomputable def zz:=ez st Tryz.func161 [(0,lb [1,2,3,7,8] [6,7])] [xE,Uq] 0 kL (ks:=[.st .stac,.sc (.int .i64),.sc (.sl .segm)]) rO (λv=>[(false,[sc (.o true) .str v])])
noncomputable def pf:FT (Stac×Conn×List Segm×Resu×Unit) (Stac×Resu) (λx=>ax x.1∧ac x.2.1∧sL ao x.2.2.1∧eb x.2.2.2.1) (λx v=>ax v.1∧eb v.2):= .mk λ(x0,x1,x2,x3,_)=>
  .cal vj.c (x0.door.table,x1,()) λc1=>
  .cal Ag.c (c1,()) λc2=>
  .cal rO.c (({x0 with door.table.conns:=c2.conns,door.table.waiting:=c2.waiting}:Stac),x1.tuple.ip,x2,()) λc3=>
  .ret (({x0 with door.table.conns:=c2.conns,door.table.waiting:=c2.waiting}:Stac),({x3 with frames:=c3,ok:=true}:Resu))
noncomputable def UO:=a9 st Tryz.func170 [GP,F8,zz] (ks:=[.st .stac,.st .conn,.sc (.sl .segm),.st .resu]) pf (λv=>[(true,kJ .c .c .c .c (.o true) (.o true) v.1),(true,R2 (.o true) v.2)])
noncomputable def yy:=[C2,gL,gz,xO]
def om:Sh:=⟨[zp 2 0,zl 29 .conn,zi 30,zi 31],[.box [.st .tabl [.sl .arg,.sl .arg]]]⟩
def ov:Sh:=⟨[zp 2 0,zl 49 .tupl,zi 50,zi 51],[.box [.st .tabl [.sl .arg,.sl .arg]]]⟩
noncomputable def yn:Fx:=⟨186,Tryz.f186,[(0,lb [2,29,30,31] [2,4]),(2,lb [2,49,50,51] [4]),(3000001,rA 0 27)],0⟩
noncomputable def eJ (v0:List Conn)(v3:Tabl)(v2:Int)(a:Unit):Tr (Stp (Unit) ((Unit))):=
 .grd (cj v0 v2)<|
 .cal aN.c ((v0.getD v2.toNat (Ty.zero .conn)),()) λc3=>
 .ite (!c3) (.ret (.out ()))<|
 .cal ar.c (v3,(v0.getD v2.toNat (Ty.zero .conn)).tuple,()) λc4=>
 .ite (c4 != v2) (.ret (.out ()))<|
 .ret (.next ())
noncomputable def fQ:om.V→qF om Unit (Unit):=λ(v0,v1,v2,v3,_)=>⟨v2,(),λv2 _=>(v0,v1,v2,v3,()),λv2 _=>(decide (v2<v1)),eJ v0 v3,up,1,(Int.toNat (v1-v2)),.inl,eR,oB .ret ⟨[zp 2 0,zb 4],[.box [.st .tabl [.sl .arg,.sl .arg]]]⟩ (λ_=>(false,v3,())) (.exit 0) ⟨[zp 2 0,zu 4],[.box [.st .tabl [.sl .arg,.sl .arg]]]⟩ (λ_=>(v3,()))⟩
theorem JD:LS Tryz.prog yn [0] (fv 0 om fQ):=cI st (aH yy) _ fQ [] trivial
theorem JR {v0:List Conn}{v1 v2:Int}{v3:Tabl}(h0:0≤v2)(h1:v1≤4611686018427387904)(h2:sL ac v0)(h3:aO v3)(h4:v1≤(v0.length:Int)):(fQ (v0,v1,v2,v3,())).U v1 (λ_ _=>True) (λ_=>True):=
 iT h0 h1 trivial
noncomputable def eM (v0:List Tupl)(v3:Tabl)(v2:Int)(a:Unit):Tr (Stp (Unit) ((Unit))):=
 .grd (cj v0 v2)<|
 .cal ar.c (v3,(v0.getD v2.toNat (Ty.zero .tupl)),()) λc6=>
 .ite (decide (c6<0)) (.ret (.out ()))<|
 .cal lz.c (v3.waiting,(v0.getD v2.toNat (Ty.zero .tupl)),()) λc7=>
 .ite (c7 != v2) (.ret (.out ()))<|
 .ret (.next ())
noncomputable def f7:ov.V→qF ov Unit (Unit):=λ(v0,v1,v2,v3,_)=>⟨v2,(),λv2 _=>(v0,v1,v2,v3,()),λv2 _=>(decide (v2<v1)),eM v0 v3,up,1,(Int.toNat (v1-v2)),.inl,eR,oB .ret ⟨[zb 4],[]⟩ (λ_=>(false,())) (.exit 2) ⟨[zu 4],[]⟩ (λ_=>())⟩
theorem Lz:LS Tryz.prog yn [1] (fv 2 ov f7):=cI st (aH yy) _ f7 [] trivial
theorem sJ {v0:List Tupl}{v1 v2:Int}{v3:Tabl}(h0:0≤v2)(h1:v1≤4611686018427387904)(h2:sS v0)(h3:aO v3)(h4:v1≤(v0.length:Int)):(f7 (v0,v1,v2,v3,())).U v1 (λ_ _=>True) (λ_=>True):=
 iT h0 h1 trivial
noncomputable def dK:FT (Tabl×Limi×Unit) (Bool) (λx=>wS x.1.conns∧cX ac x.1.conns∧wS x.1.waiting) (λx v=>(v=true→x.1.conns.length≤16∧x.1.waiting.length≤16)):= .mk (λ(x0,x1,_)=>
  .bnd (β:=Bool×Unit) (.as (λw=>(w.1=false→x1.halves≤64∧x1.waiting≤16∧x1.conns≤16)) (.cal fo.c (x1,()) λc1=>
   .ite (!c1) (.ret (true,()))<|
   .ite (decide (x1.conns<(x0.conns.length:Int))) (.ret (true,()))<|
   .ret ((decide (x1.waiting<(x0.waiting.length:Int))),()))) λ(u2a0,_)=>
  .ite u2a0 (.ret false)<|
  .lp (fQ (x0.conns,(x0.conns.length:Int),0,x0,())).lp λw5=> .sum w5 (λ_=>
  .ret false)<|
  λ_=>
  .lp (f7 (x0.waiting,(x0.waiting.length:Int),0,x0,())).lp λw8=> .sum w8 (λ_=>
  .ret false)<|
  λ_=>
  .ret true) (sk4 @JR @sJ @sJ @sJ)
noncomputable def GF:=bM st yn yy [(fv 0 om fQ),(fv 2 ov f7)] (ks:=[.st .tabl,.st .limi]) dK rB Tryz.func186 ⟨JD,Lz,trivial⟩
def DY:Sh:=⟨[zs 1,zp 2 0,zi 5],[zg .mac]⟩
noncomputable def xB (v0:aa)(v2:Mac)(v1:Int)(a:Unit):Tr (Stp (Unit) ((Int))):=
 .grd (cj v2.rows v1)<|
 .ite ((v2.rows.getD v1.toNat (Ty.zero .macRow)).input==v0) (.grd (cj v2.rows v1)<|
  .ite (decide ((((v2.rows.getD v1.toNat (Ty.zero .macRow)).value).tmod 16777216)<0)) (.val (IntKind.wrap .i64 ((((v2.rows.getD v1.toNat (Ty.zero .macRow)).value).tmod 16777216)+16777216)) λe2=>
   .ret (.out e2))<|
  .ret (.out (((v2.rows.getD v1.toNat (Ty.zero .macRow)).value).tmod 16777216)))<|
 .ret (.next ())
noncomputable def qV:DY.V→qF DY Unit (Int):=λ(v0,v1,v2,_)=>⟨v1,(),λv1 _=>(v0,v1,v2,()),λv1 _=>(decide (v1<(v2.rows.length:Int))),xB v0 v2,up,1,(Int.toNat ((v2.rows.length:Int)-v1)),.inl,eR,oB .ret ⟨[zi 4],[]⟩ (λp=>(p,())) (.exit 0) ⟨[zu 4],[]⟩ (λ_=>())⟩
theorem QP {v0:aa}{v1:Int}{v2:Mac}(h0:0≤v1)(h1:(v2.rows.length:Int)≤4611686018427387904):(qV (v0,v1,v2,())).U (v2.rows.length:Int) (λ_ _=>True) (λ_=>True):=
 iT h0 h1 trivial
noncomputable def Je:FT (Mac×aa×Unit) (Int) (λx=>dT x.1∧sS x.2.1) (λ_ _=>True):= .mk (λ(x0,x1,_)=>
  .ite (!x0.use) (.cal Aa.c (x0.k,x0.l,x1,()) λc1=>
   .ret (IntKind.wrap .i64 (c1.tmod 16777216)))<|
  .lp (qV (x1,0,x0,())).lp λw3=> .sum w3 (λp3a0=>
  .ret p3a0)<|
  λ_=>
  .ret 0) (qm @QP)
noncomputable def ZN:=ez st Tryz.func195 [(0,lb [1,2,5] [4])] [Wu] 0 qV (ks:=[.st .mac,.sc .str]) Je rI
noncomputable def Uc:=[HB,cY,Ai,vf,aag,C1,sx]
def qt:An:=⟨⟨[],[],false,0⟩,⟨[2,4,5,6,7,8],[],false,0⟩,⟨[],[]⟩,[(.normal,⟨[zp 2 0,zp 4 1,(5,false,[.nil]),zi 6,zi 7,zp 8 2],[zg .conn,.box [.st .conn [.nil .piec]],zk .conn 3,zf]⟩)]⟩
noncomputable def UH:Fx:=⟨213,Tryz.f213,[(1000037,qt),(3000009,rA 0 37),(3000017,rA 0 68)],0⟩
noncomputable def o7:FT (Conn×Segm×Unit) (Conn×List Segm×Int) (λx=>ac x.1∧ao x.2.1) (λx v=>ac v.1∧sL ao v.2.1):= .mk λ(x0,x1,_)=>
  .cal vb.c (x0,x1,()) λc1=>
  .cal cc.c (x0,()) λc2=>
  .ite (c1==2) (.ret (({c2 with state:=8,timer:=0,tries:=0}:Conn),[],c1))<|
  .ite (c1==3) (.ite (c1==3) (.bnd (β:=Bool×Unit) (.ite (c1==4) (.ite (x0.state==7) (.val (bH.f (x1,1,())) λc3=>
       .ret (c3,()))<|
      .ret (false,()))<|
     .ret (false,())) λ(u4a0,_)=>
    .bnd (β:=WT qt.es) (.as (λw=>ac w.2.2.1∧ac w.2.2.2.1∧ac w.2.2.2.2.1) (.ite u4a0 (.ret (0,c1,x0,(⟨⟨0,0,0⟩,0,⟨0,[],0,false,false,false⟩,⟨0,[],[],0,false⟩,0,0,⟨0,0,false,false,0,0⟩,0,0⟩:Conn),({c2 with timer:=4}:Conn),()))<|
     .ret (0,c1,x0,(⟨⟨0,0,0⟩,0,⟨0,[],0,false,false,false⟩,⟨0,[],[],0,false⟩,0,0,⟨0,0,false,false,0,0⟩,0,0⟩:Conn),c2,()))) λ(_,u5a1,u5a2,_,u5a4,_)=>
    .cal bC.c (u5a2,()) λc6=>
    .ret (u5a4,[c6],u5a1))<|
   .ite (c1==5) (.cal Du.c (x0,x1,()) λc7=>
    .ite (c7.state==8) (.ret (c7,[],c1))<|
    .cal cO.c (c7,c7.window,()) λc8=>
    .bnd (β:=Bool×Unit) (.ite ((c8.2.length:Int)==0) (.cal aR.c (x1,()) λc9=>
      .ret ((c9 != 0),()))<|
     .ret (false,())) λ(u10a0,_)=>
    .ite u10a0 (.cal bC.c (c8.1,()) λc11=>
     .ret (c8.1,[c11],c1))<|
    .ret (c8.1,c8.2,c1))<|
   .ret (c2,[],c1))<|
  .ite (c1==4) (.bnd (β:=Bool×Unit) (.ite (c1==4) (.ite (x0.state==7) (.val (bH.f (x1,1,())) λc12=>
      .ret (c12,()))<|
     .ret (false,()))<|
    .ret (false,())) λ(u13a0,_)=>
   .bnd (β:=WT qt.es) (.as (λw=>ac w.2.2.1∧ac w.2.2.2.1∧ac w.2.2.2.2.1) (.ite u13a0 (.ret (0,c1,x0,(⟨⟨0,0,0⟩,0,⟨0,[],0,false,false,false⟩,⟨0,[],[],0,false⟩,0,0,⟨0,0,false,false,0,0⟩,0,0⟩:Conn),({c2 with timer:=4}:Conn),()))<|
    .ret (0,c1,x0,(⟨⟨0,0,0⟩,0,⟨0,[],0,false,false,false⟩,⟨0,[],[],0,false⟩,0,0,⟨0,0,false,false,0,0⟩,0,0⟩:Conn),c2,()))) λ(_,u14a1,u14a2,_,u14a4,_)=>
   .cal bC.c (u14a2,()) λc15=>
   .ret (u14a4,[c15],u14a1))<|
  .ite (c1==5) (.cal Du.c (x0,x1,()) λc16=>
   .ite (c16.state==8) (.ret (c16,[],c1))<|
   .cal cO.c (c16,c16.window,()) λc17=>
   .bnd (β:=Bool×Unit) (.ite ((c17.2.length:Int)==0) (.cal aR.c (x1,()) λc18=>
     .ret ((c18 != 0),()))<|
    .ret (false,())) λ(u19a0,_)=>
   .ite u19a0 (.cal bC.c (c17.1,()) λc20=>
    .ret (c17.1,[c20],c1))<|
   .ret (c17.1,c17.2,c1))<|
  .ret (c2,[],c1)
noncomputable def Hx:=bM st UH Uc [] (ks:=[.st .conn,.st .segm]) o7 (λv=>[(true,fg (.o true) v.1),(false,[sc (.o true) .segm v.2.1]),(false,[.c (.int .i64 v.2.2)])]) Tryz.func213 trivial
noncomputable def aX:FT (List Half×Tupl×Unit) (Int) (λx=>wS x.1) (λx v=> -1≤v∧v<x.1.length):= .mk λ(x0,x1,_)=>
  .cal eP.c (x0,x1,()) λc1=>
  .ret c1
noncomputable def nY:=a9 st Tryz.func214 [oA] (ks:=[.sc (.sl .half),.st .tupl]) aX rI
noncomputable def oJ:FT (List Half×Tupl×Unit) (List Half) (λx=>sS x.1) (λx v=>sS v):= .mk λ(x0,x1,_)=>
  .cal eA.c (x0,()) λc1=>
  .cal aX.c (x0,x1,()) λc2=>
  .ite (decide (0≤c2)) (.cal uL.c (c1,c2,(IntKind.wrap .i64 (c2+1)),()) λc3=>
   .ret (c3.2.take c3.1))<|
  .ret c1
noncomputable def Dq:=a9 st Tryz.func215 [tg,nY,Iq] (ks:=[.sc (.sl .half),.st .tupl]) oJ (λv=>[(false,[sc (.o true) .half v])])
noncomputable def S1:=[cY,abc,gL,vf,Wo,C1]
def uU:An:=⟨⟨[],[],false,0⟩,⟨[2,3,4],[],false,0⟩,⟨[],[]⟩,[(.normal,⟨[zp 2 0,(3,false,[.nil]),zp 4 1],[.box [.st .conn [.nil .piec]],zk .conn 2,zf]⟩)]⟩
def vy:An:=⟨⟨[],[],false,0⟩,⟨[1,2,3,4],[],false,0⟩,⟨[],[]⟩,[(.normal,⟨[zp 1 0,zp 2 1,(3,false,[.nil]),zp 4 2],[zg .conn,.box [.st .conn [.nil .piec]],zk .conn 3,zf]⟩)]⟩
def uV:An:=⟨⟨[],[],false,0⟩,⟨[2,3,4,6],[],false,0⟩,⟨[],[]⟩,[(.normal,⟨[zp 2 0,(3,false,[.nil]),zp 4 1,zi 6],[.box [.st .conn [.nil .piec]],zk .conn 2,zf]⟩)]⟩
noncomputable def Rh:Fx:=⟨267,Tryz.f267,[(1000014,uU),(1000020,vy),(1000068,uV)],0⟩
noncomputable def wB:FT (Conn×Unit) (Conn×List Segm) (λx=>ac x.1) (λx v=>ac v.1∧sL ao v.2∧v.2.length≤49):= .mk λ(x0,_)=>
  .cal cc.c (x0,()) λc1=>
  .cal n8.c (x0,()) λc2=>
  .ite (!c2) (.cal aN.c (x0,()) λc3=>
   .bnd (β:=WT uU.es) (.as (λw=>ac w.1∧ac w.2.1) (.ite c3 (.ret ((⟨⟨0,0,0⟩,0,⟨0,[],0,false,false,false⟩,⟨0,[],[],0,false⟩,0,0,⟨0,0,false,false,0,0⟩,0,0⟩:Conn),({c1 with timer:=0,tries:=0}:Conn),()))<|
    .ret ((⟨⟨0,0,0⟩,0,⟨0,[],0,false,false,false⟩,⟨0,[],[],0,false⟩,0,0,⟨0,0,false,false,0,0⟩,0,0⟩:Conn),c1,()))) λ(_,u4a1,_)=>
   .ret (u4a1,[]))<|
  .bnd (β:=WT vy.es) (.as (λw=>ac w.1∧ac w.2.1∧ac w.2.2.1) (.ite (c1.timer==0) (.ite (x0.state==7) (.ret (x0,(⟨⟨0,0,0⟩,0,⟨0,[],0,false,false,false⟩,⟨0,[],[],0,false⟩,0,0,⟨0,0,false,false,0,0⟩,0,0⟩:Conn),({c1 with timer:=4}:Conn),()))<|
    .ret (x0,(⟨⟨0,0,0⟩,0,⟨0,[],0,false,false,false⟩,⟨0,[],[],0,false⟩,0,0,⟨0,0,false,false,0,0⟩,0,0⟩:Conn),({c1 with timer:=3}:Conn),()))<|
   .ret (x0,(⟨⟨0,0,0⟩,0,⟨0,[],0,false,false,false⟩,⟨0,[],[],0,false⟩,0,0,⟨0,0,false,false,0,0⟩,0,0⟩:Conn),c1,()))) λ(u5a0,u5a1,u5a2,_)=>
  .ite (decide (0<(IntKind.wrap .i64 (u5a2.timer-1)))) (.ret (({u5a2 with timer:=(IntKind.wrap .i64 (u5a2.timer-1))}:Conn),[]))<|
  .ite (u5a0.state==7) (.ret (({u5a2 with state:=8,timer:=(IntKind.wrap .i64 (u5a2.timer-1)),tries:=0}:Conn),[]))<|
  .ite (u5a0.tries==3) (.cal bC.c (u5a0,()) λc6=>
   .ret (({u5a2 with state:=8,timer:=0,tries:=0}:Conn),[({c6 with flags:=(bits .or .i64 c6.flags 4)}:Segm)]))<|
  .cal jP.c (u5a2.s,()) λc7=>
  .bnd (β:=WT uV.es) (.as (λw=>ac w.2.1∧ac w.2.2.1) (.ite (u5a0.window==0) (.ret (1,({u5a1 with r.held:=[]}:Conn),(⟨u5a2.tuple,u5a2.state,c7,u5a2.r,u5a2.window,u5a2.most,u5a2.opts,(IntKind.wrap .i64 (u5a2.timer-1)),(IntKind.wrap .i64 (u5a2.tries+1))⟩:Conn),()))<|
   .ret (u5a0.window,({u5a1 with r.held:=[]}:Conn),(⟨u5a2.tuple,u5a2.state,c7,u5a2.r,u5a2.window,u5a2.most,u5a2.opts,(IntKind.wrap .i64 (u5a2.timer-1)),(IntKind.wrap .i64 (u5a2.tries+1))⟩:Conn),()))) λ(u8a0,_,u8a2,_)=>
  .cal cO.c (u8a2,u8a0,()) λc9=>
  .ret (({c9.1 with timer:=3}:Conn),c9.2)
noncomputable def RY:=bM st Rh S1 [] (ks:=[.st .conn]) wB (λv=>[(true,fg (.o true) v.1),(false,[sc (.o true) .segm v.2])]) Tryz.func267 trivial
noncomputable def mI:FT (Tabl×Conn×Limi×Unit) (Tabl×Bool) (λx=>aO x.1∧ac x.2.1) (λx v=>aO v.1∧v.1.conns.length≤max x.1.conns.length 16∧v.1.waiting.length≤max x.1.waiting.length 16∧x.1.conns.length≤v.1.conns.length):= .mk λ(x0,x1,x2,_)=>
  .cal fC.c (x0,()) λc1=>
  .cal cc.c (x1,()) λc2=>
  .grd (qq c1.conns 1 208)<|
  .grd (qq c1.waiting 1 24)<|
  .cal dK.c ((⟨(c1.conns++[c2]),(c1.waiting++[x1.tuple])⟩:Tabl),x2,()) λc3=>
  .ite (!c3) (.cal fC.c (x0,()) λc4=>
   .ret (c4,false))<|
  .ret ((⟨(c1.conns++[c2]),(c1.waiting++[x1.tuple])⟩:Tabl),true)
noncomputable def TY:=a9 st Tryz.func335 [kw,cY,GF] (ks:=[.st .tabl,.st .conn,.st .limi]) mI (λv=>[(true,qw (.o true) (.o true) v.1),(false,[.c (.bool v.2)])])
noncomputable def Uv:=[dD,GX,Ax,vp,aan,Dj,sZ]
def qx:An:=⟨⟨[],[],false,0⟩,⟨[2,3,4,5,6,7,8,9],[],false,0⟩,⟨[],[]⟩,[(.normal,⟨[zp 2 0,zp 3 1,zp 4 2,(5,false,[.nil]),zi 6,zp 7 3,zo 8 4,zi 9],[zg .conn,zx .segm,.box [.st .conn [.nil .piec]],zk .conn 5,za .segm,zf]⟩)]⟩
noncomputable def Vl:Fx:=⟨392,Tryz.f392,[(1000046,qx),(3000014,rA 0 46),(3000022,rA 0 78)],0⟩
noncomputable def rL:FT (Conn×Segm×Unit) (Conn×List Segm×Int) (λx=>ac x.1∧ao x.2.1) (λx v=>ac v.1∧sL ao v.2.1):= .mk λ(x0,x1,_)=>
  .cal dH.c (x0,()) λc1=>
  .cal vC.c (x0,x1,()) λc2=>
  .ite (c2==1) (.ret (c1,[],c2))<|
  .ite (c2==2) (.ret (({c1 with state:=8,timer:=0,tries:=0}:Conn),[],c2))<|
  .ite (c2==3) (.ite (c2==3) (.bnd (β:=Bool×Unit) (.ite (c2==4) (.ite (x0.state==7) (.val (gW.f (x1,1,())) λc3=>
       .ret (c3,()))<|
      .ret (false,()))<|
     .ret (false,())) λ(u4a0,_)=>
    .bnd (β:=WT qx.es) (.as (λw=>ac w.2.2.1∧ao w.2.2.2.1∧ac w.2.2.2.2.1∧ac w.2.2.2.2.2.1∧sL ao w.2.2.2.2.2.2.1) (.ite u4a0 (.ret (0,c2,x0,x1,(⟨⟨0,0,0⟩,0,⟨0,[],0,false,false,false⟩,⟨0,[],[],0,false⟩,0,0,⟨0,0,false,false,0,0⟩,0,0⟩:Conn),({c1 with timer:=4}:Conn),[],()))<|
     .ret (0,c2,x0,x1,(⟨⟨0,0,0⟩,0,⟨0,[],0,false,false,false⟩,⟨0,[],[],0,false⟩,0,0,⟨0,0,false,false,0,0⟩,0,0⟩:Conn),c1,[],()))) λ(_,u5a1,u5a2,_,_,u5a5,_,_)=>
    .cal j7.c (u5a2,()) λc6=>
    .ret (u5a5,[c6],u5a1))<|
   .cal CW.c (x0,x1,()) λc7=>
   .ite (c7.state==8) (.ret (c7,[],c2))<|
   .cal j7.c (c7,()) λc8=>
   .cal nZ.c (c7,c7.window,()) λc9=>
   .bnd (β:=Bool×Unit) (.cal i5.c (x1,()) λc10=>
    .ite (decide (0<c10)) (.ret (((c9.2.length:Int)==0),()))<|
    .ret (false,())) λ(u11a0,_)=>
   .ite u11a0 (.grd (qq c9.2 1 104)<|
    .ret (c9.1,(c9.2++[c8]),c2))<|
   .ret (c9.1,c9.2,c2))<|
  .ite (c2==4) (.bnd (β:=Bool×Unit) (.ite (c2==4) (.ite (x0.state==7) (.val (gW.f (x1,1,())) λc12=>
      .ret (c12,()))<|
     .ret (false,()))<|
    .ret (false,())) λ(u13a0,_)=>
   .bnd (β:=WT qx.es) (.as (λw=>ac w.2.2.1∧ao w.2.2.2.1∧ac w.2.2.2.2.1∧ac w.2.2.2.2.2.1∧sL ao w.2.2.2.2.2.2.1) (.ite u13a0 (.ret (0,c2,x0,x1,(⟨⟨0,0,0⟩,0,⟨0,[],0,false,false,false⟩,⟨0,[],[],0,false⟩,0,0,⟨0,0,false,false,0,0⟩,0,0⟩:Conn),({c1 with timer:=4}:Conn),[],()))<|
    .ret (0,c2,x0,x1,(⟨⟨0,0,0⟩,0,⟨0,[],0,false,false,false⟩,⟨0,[],[],0,false⟩,0,0,⟨0,0,false,false,0,0⟩,0,0⟩:Conn),c1,[],()))) λ(_,u14a1,u14a2,_,_,u14a5,_,_)=>
   .cal j7.c (u14a2,()) λc15=>
   .ret (u14a5,[c15],u14a1))<|
  .cal CW.c (x0,x1,()) λc16=>
  .ite (c16.state==8) (.ret (c16,[],c2))<|
  .cal j7.c (c16,()) λc17=>
  .cal nZ.c (c16,c16.window,()) λc18=>
  .bnd (β:=Bool×Unit) (.cal i5.c (x1,()) λc19=>
   .ite (decide (0<c19)) (.ret (((c18.2.length:Int)==0),()))<|
   .ret (false,())) λ(u20a0,_)=>
  .ite u20a0 (.grd (qq c18.2 1 104)<|
   .ret (c18.1,(c18.2++[c17]),c2))<|
  .ret (c18.1,c18.2,c2)
noncomputable def yY:=bM st Vl Uv [] (ks:=[.st .conn,.st .segm]) rL (λv=>[(true,fg (.o true) v.1),(false,[sc (.o true) .segm v.2.1]),(false,[.c (.int .i64 v.2.2)])]) Tryz.func392 trivial
noncomputable def zH:FT (Door×Conn×Segm×Int×Unit) (Door×List Segm×Int) (λx=>aC x.1∧ac x.2.1∧ao x.2.2.1) (λx v=>aC v.1∧sL ao v.2.1):= .mk λ(x0,x1,x2,x3,_)=>
  .cal d6.c (x0,()) λc1=>
  .cal vJ.c (x0.table,x1,x0.limits,()) λc2=>
  .ite (!c2.2) (.ret (c1,[],0))<|
  .cal rL.c (x1,x2,()) λc3=>
  .cal vj.c (c2.1,c3.1,()) λc4=>
  .cal sK.c (c1.halves,x1.tuple,()) λc5=>
  .ret (({c1 with halves:=c5,table.conns:=c4.conns,table.waiting:=c4.waiting}:Door),c3.2.1,x3)
noncomputable def Xg:=a9 st Tryz.func396 [gE,GJ,yY,GP,Dn] (ks:=[.st .door,.st .conn,.st .segm,.sc (.int .i64)]) zH (λv=>[(true,kF (.o true) (.o true) (.o true) (.o true) (.o true) v.1),(false,[sc (.o true) .segm v.2.1]),(false,[.c (.int .i64 v.2.2)])])
def Eu:Sh:=⟨[zs 1,zl 19 .macRow,zi 20,zi 21],[]⟩
noncomputable def lm (v0:aa)(v1:List MacRow)(v3:Int)(a:Unit):Tr (Stp (Unit) ((Int))):=
 .grd (cj v1 v3)<|
 .ite ((v1.getD v3.toNat (Ty.zero .macRow)).input==v0) (.val (IntKind.wrap .i64 ((((v1.getD v3.toNat (Ty.zero .macRow)).value).tmod 16777216)+16777216)) λe2=>
  .ret (.out (e2.tmod 16777216)))<|
 .ret (.next ())
noncomputable def na:Eu.V→qF Eu Unit (Int):=λ(v0,v1,v2,v3,_)=>⟨v3,(),λv3 _=>(v0,v1,v2,v3,()),λv3 _=>(decide (v3<v2)),lm v0 v1,up,1,(Int.toNat (v2-v3)),.inl,eR,oB .ret ⟨[zi 4],[]⟩ (λp=>(p,())) (.exit 0) ⟨[zu 4],[]⟩ (λ_=>())⟩
theorem RH {v0:aa}{v1:List MacRow}{v2 v3:Int}(h0:0≤v3)(h1:v2≤4611686018427387904)(h2:v2≤(v1.length:Int)):(na (v0,v1,v2,v3,())).U v2 (λ_ _=>True) (λ_=>True):=
 iT h0 h1 trivial
noncomputable def qQ:FT (Mac×aa×Unit) (Int) (λx=>dT x.1∧sS x.2.1) (λ_ _=>True):= .mk (λ(x0,x1,_)=>
  .ite (!x0.use) (.cal oC.c (x0.k,x0.l,x1,()) λc1=>
   .ret (IntKind.wrap .i64 (c1.tmod 16777216)))<|
  .lp (na (x1,x0.rows,(x0.rows.length:Int),0,())).lp λw3=> .sum w3 (λp3a0=>
  .ret p3a0)<|
  λ_=>
  .ret 0) (qm @RH)
noncomputable def Z8:=ez st Tryz.func414 [(0,lb [1,19,20,21] [4])] [Tz] 0 na (ks:=[.st .mac,.sc .str]) qQ rI
noncomputable def aD:FT (Curs×List Int×Unit) (Int×Curs) (λx=>af x.1∧sS x.2.1∧0<x.2.1.length) (λx v=>af v.2∧(cX (λn:Int=>0≤n∧n≤1048576) x.2.1→0≤v.1∧v.1≤1048576)∧(cX (λn:Int=>0≤n∧n≤19) x.2.1→0≤v.1∧v.1≤19)):=⟨λ(y0,x1,_)=>
  .cal aj.c (y0,(x1.length:Int),()) λc1=>
  .grd (cj x1 c1.1)<|
  .ret ((x1.getD c1.1.toNat 0),c1.2),
 λ(y0,x1,_) hp=>by
  refine Tr.C ?_ λc1 hc1 qc1=>Tr.G2 ?_ λg0=>Tr.R ?_
  all_goals ((first|grind|(refine⟨by grind,λhn=> ?_,λhn=> ?_⟩;exact cW (p:=λn:Int=>0≤n∧n≤1048576) hn (by omega) _;exact cW (p:=λn:Int=>0≤n∧n≤19) hn (by omega) _)))⟩
noncomputable def aJ:=cq st ⟨133,Tryz.f133,[],1⟩ [az] [] [.wr false [.ptr 0],.sc (.sl .i64)] [.box [.st .curs]] (λx y=>(y.1.1,x.2.1,())) aD (λv=>[(false,[.c (.int .i64 v.1)])]) (λx y v=>((v.2,()),())) Tryz.func133 (by kernel_rfl) trivial
noncomputable def Fd:FT (MacRow×MacRow×Unit) (Bool) (λ_=>True) (λ_ _=>True):= .mk λ(x0,y1,_)=>
  .ret (x0.input==y1.input)
noncomputable def Wr:=cq st ⟨178,Tryz.f178,[],1⟩ [] [] [.st .macRow,.wr false [.ptr 0]] [.box [.st .macRow]] (λx y=>(x.1,y.1.1,())) Fd rB (λx y v=>((y.1.1,()),())) Tryz.func178 (by kernel_rfl) trivial
noncomputable def im:=[Wr]
def cz:Sh:=⟨[zl 0 .macRow,(1,false,[.fn 178 [0]]),zi 7,zi 8],[zx .macRow]⟩
noncomputable def ia:Fx:=⟨310,Tryz.f310,[(0,la ⟨[0,1,7,8],[],false,1⟩ ⟨[4],[],false,1⟩)],1⟩
noncomputable def gb (v0:List MacRow)(v3:MacRow)(v2:Int)(a:Unit):Tr (Stp (Unit) ((Int))):=
 .grd (cj v0 v2)<|
 .cal Fd.c ((v0.getD v2.toNat (Ty.zero .macRow)),v3,()) λc1=>
 .ite c1 (.ret (.out v2))<|
 .ret (.next ())
noncomputable def bx:cz.V→qF cz Unit (Int):=λ(v0,v1,v2,v3,_)=>⟨v2,(),λv2 _=>(v0,v1,v2,v3,()),λv2 _=>(decide (v2<v1)),gb v0 v3,up,1,(Int.toNat (v1-v2)),.inl,eR,oB .ret ⟨[zi 4],[zx .macRow]⟩ (λp=>(p,v3,())) (.exit 0) ⟨[zu 4],[zx .macRow]⟩ (λ_=>(v3,()))⟩
theorem m7:LS Tryz.prog ia [0] (fv 0 cz bx):=cI st (aH im) _ bx [] trivial
theorem mY {v0:List MacRow}{v1 v2:Int}{v3:MacRow}(h0:0≤v2)(h1:v1≤4611686018427387904)(h2:v1≤(v0.length:Int)):(bx (v0,v1,v2,v3,())).U v1 (λ_ _=>True) (λp=>v2≤p∧p<v1):=
 iT h0 h1 trivial
noncomputable def fk:FT (List MacRow×MacRow×Unit) (Int) (λx=>wS x.1) (λx v=> -1≤v∧v<x.1.length):= .mk (λ(x0,y1_0,_)=>
  .lp (bx (x0,(x0.length:Int),0,y1_0,())).lp λw2=> .sum w2 (λp2a0=>
  .ret p2a0)<|
  λ_=>
  .ret (-1)) (qm @mY)
noncomputable def pq:=cq st ia im [(fv 0 cz bx)] [.sc (.sl .macRow),.fn 178 [0]] [.box [.st .macRow]] (λx y=>(x.1,y.1.1,())) fk rI (λx y v=>((y.1.1,()),())) Tryz.func310 (by kernel_rfl) ⟨m7,trivial⟩
noncomputable def wO:FT (Conn×Acti×Unit) (Conn×Int×aa×List Segm) (λx=>ac x.1∧bq x.2.1) (λx v=>ac v.1∧sS v.2.2.1∧sL ao v.2.2.2):= .mk λ(x0,x1,_)=>
  .ite (x1.kind==5) (.cal Ja.c (x0,x1.text,()) λc1=>
   .ret (c1.1,c1.2.1,[],c1.2.2))<|
  .ite (x1.kind==6) (.cal vW.c (x0,x1.n,()) λc2=>
   .ret (c2.1,0,c2.2.1,c2.2.2))<|
  .ite (x1.kind==7) (.cal RU.c (x0,()) λc3=>
   .ret (c3.1,0,[],c3.2))<|
  .cal Jt.c (x0,()) λc4=>
  .ret (c4.1,0,[],c4.2)
noncomputable def Rq:=a9 st Tryz.func61 [ZM,SB,acH,aaM] (ks:=[.st .conn,.st .acti]) wO (λv=>[(true,fg (.o true) v.1),(false,[.c (.int .i64 v.2.1)]),(false,[.c (.str v.2.2.1)]),(false,[sc (.o true) .segm v.2.2.2])])
def vH:Sh:=⟨[zp 1 0,zp 2 1,zp 4 2,zo 5 3,zi 6],[.box [.st .stac [.sl .arg,.sl .arg,.sl .arg,.sl .arg,.sl .arg,.sl .arg]],.box [.st .stac [.nil .entr,.nil .macRow,.nil .macRow,.nil .half,.nil .conn,.nil .tupl]],.box [.st .stac [.own 4,.own 5,.own 6,.own 7,.own 8,.own 9]],za .str,zf,zf,zf,zf,zf,zf]⟩
noncomputable def oH (v1:Stac)(v0:Int)(a:Stac×List aa):Tr (Stp (Stac×List aa) (Empty)):=
 .grd (cj v1.door.table.conns v0)<|
 .cal pa.c ((v1.door.table.conns.getD v0.toNat (Ty.zero .conn)),()) λc3=>
 .cal rO.c (v1,(v1.door.table.conns.getD v0.toNat (Ty.zero .conn)).tuple.ip,c3.2,()) λc4=>
 .grd (Nat.ble ((2*(a.2.length+c4.length)+1024)*16) bo)<|
 .ret (.next (({a.1 with link.cache:=[],door.keys.now.rows:=[],door.keys.before.rows:=[],door.halves:=[],door.table.conns:=[],door.table.waiting:=[]}:Stac),(a.2++c4)))
noncomputable def iv:vH.V→qc vH (Stac×List aa):=λ(v0,v1,v2,v3,v4,_)=>⟨v0,(v2,v4),λv0 a=>(v0,v1,a.1,v3,a.2,()),λv0 _=>(decide (v0<(v1.door.table.conns.length:Int))),oH v1,up,1,(Int.toNat ((v1.door.table.conns.length:Int)-v0)),Empty.elim,Prod.mk,oN (.exit 0) ⟨[zp 1 0,zp 2 1,zu 3,zp 4 2,zo 5 3],[.box [.st .stac [.sl .arg,.sl .arg,.sl .arg,.sl .arg,.sl .arg,.sl .arg]],.box [.st .stac [.nil .entr,.nil .macRow,.nil .macRow,.nil .half,.nil .conn,.nil .tupl]],.box [.st .stac [.own 4,.own 5,.own 6,.own 7,.own 8,.own 9]],za .str,zf,zf,zf,zf,zf,zf]⟩ (λx=>(v1,({x.2.1 with link.cache:=[],door.keys.now.rows:=[],door.keys.before.rows:=[],door.halves:=[],door.table.conns:=[],door.table.waiting:=[]}:Stac),v3,x.2.2,()))⟩
theorem F2 {v0:Int}{v1 v2 v3:Stac}{v4:List aa}(h0:0≤v0)(h1:(v1.door.table.conns.length:Int)≤4611686018427387904)(h2:v1.door.table.conns.length≤16)(h3:ax v1)(h4:ax v2∧sL sS v4∧(v4.length:Int)≤49*v0):(iv (v0,v1,v2,v3,v4,())).U (v1.door.table.conns.length:Int) (λv0 a=>ax a.1∧sL sS a.2∧(a.2.length:Int)≤49*v0) (λ_=>True):=
 iT (a:=(v2,v4)) h0 h1 h4
noncomputable def uj:FT (Stac×Unit) (Stac×List aa) (λx=>ax x.1) (λx v=>ax v.1∧sL sS v.2):=⟨λ(x0,_)=>
  .cal pb.c (x0,()) λc1=>
  .cal jL.c (x0,()) λc2=>
  .ite (!c2) (.ret (c1,[]))<|
  .lp (iv (0,x0,(⟨⟨0,0,[]⟩,⟨0,0,⟨0,⟨false,0,0,[]⟩,⟨false,0,0,[]⟩,false⟩,⟨0,0,0,0⟩,[],⟨[],[]⟩,0⟩⟩:Stac),c1,[],())).lp λ(_,_,a5_1)=>
  .cal wn.c (x0.door,()) λc6=>
  .cal ML.c (x0.link.cache,()) λc7=>
  .ret ((⟨⟨c1.link.mac,c1.link.ip,c7⟩,c6.1⟩:Stac),a5_1),
 λ(x0,_) hp=>by
  refine Tr.C ?_ λ_ _ _=>Tr.C ?_ λ_ _ _=>Tr.I (λ_=>Tr.R ?_) λ_=>Tr.L (F2 ?_ ?_ ?_ ?_ ?_) (λ(a5_0,a5_1) _=>Tr.C ?_ λ_ _ _=>Tr.C ?_ λ_ _ _=>Tr.R ?_) (λp=>Empty.elim p)
  all_goals ((try simp only[iv,LC.lp,LC.ct,Ct.lp]at*)<;>grind)⟩
noncomputable def NG:=ez st Tryz.func66 [(0,lb [1,2,4,5,6] [1,2,3,4,5])] [un,mR,wg,zz,Rc,Tv] 0 iv (ks:=[.st .stac]) uj (λv=>[(true,kJ (.o true) (.o true) (.o true) (.o true) (.o true) (.o true) v.1),(false,[sc (.o true) .str v.2])])
noncomputable def Ug:=[ex,wy,Qu,UO,D3,U4,abr]
noncomputable def Wh:Fx:=⟨70,Tryz.f70,[(3000002,rA 0 34),(4000000,la ⟨[],[],false,0⟩ ⟨[],[.softb 4 20,.softb 4 21],false,0⟩)],0⟩
noncomputable def Ap:FT (Stac×Acti×Unit) (Stac×Resu) (λx=>ax x.1∧bq x.2.1) (λx v=>ax v.1∧eb v.2):= .mk λ(x0,x1,_)=>
  .cal dC.c (x0.door.table,x1.tuple,()) λc1=>
  .bnd (β:=Bool×Unit) (.ite (decide (c1<0)) (.ret (true,()))<|
   .cal o9.c (x0.door.table.waiting,x1.tuple,()) λc2=>
   .ret (c2,())) λ(u3a0,_)=>
  .ite u3a0 (.ret (x0,(⟨[],0,⟨0,0,0⟩,0,[],false⟩:Resu)))<|
  .grd (cj x0.door.table.conns c1)<|
  .ite (x1.kind==5) (.cal Dp.c ((x0.door.table.conns.getD c1.toNat (Ty.zero .conn)),x1.text,()) λc4=>
   .cal pf.c (x0,c4.1,c4.2.2,(⟨[],0,⟨0,0,0⟩,c4.2.1,[],false⟩:Resu),()) λc5=>
   .ret (c5.1,c5.2))<|
  .ite (x1.kind==6) (.cal sX.c ((x0.door.table.conns.getD c1.toNat (Ty.zero .conn)),x1.n,()) λc6=>
   .cal pf.c (x0,c6.1,c6.2.2,(⟨[],0,⟨0,0,0⟩,0,c6.2.1,false⟩:Resu),()) λc7=>
   .ret (c7.1,c7.2))<|
  .ite (x1.kind==7) (.cal KC.c ((x0.door.table.conns.getD c1.toNat (Ty.zero .conn)),()) λc8=>
   .cal pf.c (x0,c8.1,c8.2,(⟨[],0,⟨0,0,0⟩,0,[],false⟩:Resu),()) λc9=>
   .ret (c9.1,c9.2))<|
  .cal Jc.c ((x0.door.table.conns.getD c1.toNat (Ty.zero .conn)),()) λc10=>
  .cal pf.c (x0,c10.1,c10.2,(⟨[],0,⟨0,0,0⟩,0,[],false⟩:Resu),()) λc11=>
  .ret (c11.1,c11.2)
noncomputable def TW:=bM st Wh Ug [] (ks:=[.st .stac,.st .acti]) Ap (λv=>[(true,kJ .c .c .c .c .c .c v.1),(true,R2 (.o true) v.2)]) Tryz.func70 trivial
noncomputable def sM:FT (Mac×Tupl×Int×Int×Int×Unit) (Int) (λx=>dT x.1) (λ_ _=>True):= .mk λ(x0,x1,x2,x3,x4,_)=>
  .cal vX.c (x1,x2,x3,x4,()) λc1=>
  .ite (c1==[]) (.ret (-1))<|
  .val (IntKind.wrap .i64 ((IntKind.wrap .i64 ((x3.tmod 32)*134217728))+(IntKind.wrap .i64 (x4*16777216)))) λe2=>
  .cal Je.c (x0,c1,()) λc3=>
  .ret (IntKind.wrap .i64 (e2+c3))
noncomputable def DB:=a9 st Tryz.func93 [RM,ZN] (ks:=[.st .mac,.st .tupl,.sc (.int .i64),.sc (.int .i64),.sc (.int .i64)]) sM rI
def xJ:Sh:=⟨[zl 0 .half,zl 8 .half,zi 9,zi 10],[]⟩
noncomputable def qv (v0 v1:List Half)(v3:Int)(a:Unit):Tr (Stp (Unit) ((Unit))):=
 .grd (cj v1 v3)<|
 .cal aG.c ((v1.getD v3.toNat (Ty.zero .half)).tuple,()) λc1=>
 .ite (!c1) (.ret (.out ()))<|
 .cal ae.c ((v1.getD v3.toNat (Ty.zero .half)).iss,32,()) λc2=>
 .ite (!c2) (.ret (.out ()))<|
 .cal ae.c ((v1.getD v3.toNat (Ty.zero .half)).irs,32,()) λc3=>
 .ite (!c3) (.ret (.out ()))<|
 .cal ae.c ((v1.getD v3.toNat (Ty.zero .half)).window,16,()) λc4=>
 .ite (!c4) (.ret (.out ()))<|
 .cal aM.c ((v1.getD v3.toNat (Ty.zero .half)).opts,()) λc5=>
 .ite (!c5) (.ret (.out ()))<|
 .val (bh.f ((v1.getD v3.toNat (Ty.zero .half)).age,0,6,())) λc6=>
 .ite (!c6) (.ret (.out ()))<|
 .cal aX.c (v0,(v1.getD v3.toNat (Ty.zero .half)).tuple,()) λc7=>
 .ite (c7 != v3) (.ret (.out ()))<|
 .ret (.next ())
noncomputable def lW:xJ.V→qF xJ Unit (Unit):=λ(v0,v1,v2,v3,_)=>⟨v3,(),λv3 _=>(v0,v1,v2,v3,()),λv3 _=>(decide (v3<v2)),qv v0 v1,up,1,(Int.toNat (v2-v3)),.inl,eR,oB .ret ⟨[zb 2],[]⟩ (λ_=>(false,())) (.exit 0) ⟨[zu 2],[]⟩ (λ_=>())⟩
theorem HT {v0 v1:List Half}{v2 v3:Int}(h0:0≤v3)(h1:v2≤4611686018427387904)(h2:wS v0)(h3:v2≤(v1.length:Int)):(lW (v0,v1,v2,v3,())).U v2 (λ_ _=>True) (λ_=>True):=
 iT h0 h1 trivial
noncomputable def ff:FT (List Half×Unit) (Bool) (λx=>wS x.1) (λx v=>(v=true→x.1.length≤64)):= .mk (λ(x0,_)=>
  .ite (decide (64<(x0.length:Int))) (.ret false)<|
  .lp (lW (x0,x0,(x0.length:Int),0,())).lp λw8=> .sum w8 (λ_=>
  .ret false)<|
  λ_=>
  .ret true) (qm @HT)
noncomputable def CQ:=ez st Tryz.func187 [(0,lb [0,8,9,10] [2])] [mM,bX,lN,bG,nY] 0 lW (ks:=[.sc (.sl .half)]) ff rB
noncomputable def AI:FT (Door×Int×Segm×Unit) (Door×List Segm×Int) (λx=>aC x.1∧ao x.2.2.1∧0≤x.2.1∧x.2.1<x.1.table.conns.length) (λx v=>aC v.1∧sL ao v.2.1):= .mk λ(x0,x1,x2,_)=>
  .cal d6.c (x0,()) λc1=>
  .grd (cj x0.table.conns x1)<|
  .cal rL.c ((x0.table.conns.getD x1.toNat (Ty.zero .conn)),x2,()) λc2=>
  .grd (cj c1.table.conns x1)<|
  .ite (c2.2.2==3) (.ite (x0.chal==x0.limits.chal) (.ret (({c1 with table.conns:=(c1.table.conns.set x1.toNat c2.1)}:Door),[],0))<|
   .ret (({c1 with table.conns:=(c1.table.conns.set x1.toNat c2.1),chal:=(IntKind.wrap .i64 (x0.chal+1))}:Door),c2.2.1,0))<|
  .ret (({c1 with table.conns:=(c1.table.conns.set x1.toNat c2.1)}:Door),c2.2.1,0)
noncomputable def Uw:=a9 st Tryz.func291 [gE,yY] (ks:=[.st .door,.sc (.int .i64),.st .segm]) AI (λv=>[(true,kF (.o true) (.o true) (.o true) (.o true) (.o true) v.1),(false,[sc (.o true) .segm v.2.1]),(false,[.c (.int .i64 v.2.2)])])
noncomputable def ki:FT (Mac×Tupl×Int×Int×Int×Unit) (Int) (λx=>dT x.1) (λ_ _=>True):= .mk λ(x0,x1,x2,x3,x4,_)=>
  .cal fW.c (x1,x2,x3,x4,()) λc1=>
  .ite (c1==[]) (.ret (-1))<|
  .val (IntKind.wrap .i64 ((IntKind.wrap .i64 ((x3.tmod 32)*134217728))+(IntKind.wrap .i64 (x4*16777216)))) λe2=>
  .cal qQ.c (x0,c1,()) λc3=>
  .ret (IntKind.wrap .i64 (e2+c3))
noncomputable def Eg:=a9 st Tryz.func323 [S2,Z8] (ks:=[.st .mac,.st .tupl,.sc (.int .i64),.sc (.int .i64),.sc (.int .i64)]) ki rI
noncomputable def Vz:=[tg,CQ]
noncomputable def Vq:Fx:=⟨331,Tryz.f331,[(3000002,rA 0 22)],0⟩
noncomputable def oS:FT (List Half×Half×Int×Unit) (List Half×Bool) (λx=>sS x.1) (λx v=>sS v.1):= .mk λ(x0,x1,x2,_)=>
  .cal eA.c (x0,()) λc1=>
  .grd (qq c1 1 96)<|
  .bnd (β:=Bool×Unit) (.as (λw=>(w.1=false→(c1++[x1]).length≤64)) (.ite (decide (x2≤(x0.length:Int))) (.ret (true,()))<|
   .cal ff.c ((c1++[x1]),()) λc2=>
   .ret ((!c2),()))) λ(u3a0,_)=>
  .ite u3a0 (.cal eA.c (x0,()) λc4=>
   .ret (c4,false))<|
  .ret ((c1++[x1]),true)
noncomputable def UN:=bM st Vq Vz [] (ks:=[.sc (.sl .half),.st .half,.sc (.int .i64)]) oS (λv=>[(false,[sc (.o true) .half v.1]),(false,[.c (.bool v.2)])]) Tryz.func331 trivial
noncomputable def o8:FT (Door×Tupl×Segm×Unit) (Int) (λx=>aC x.1∧ao x.2.2.1) (λ_ _=>True):= .mk λ(x0,x1,x2,_)=>
  .val (Ar.f (x2.opts,())) λc1=>
  .cal jd.c (c1,()) λc2=>
  .cal ki.c (x0.keys.now,x1,x2.seq,x0.keys.epoch,c2,()) λc3=>
  .ret (if 0<c3 then c3 else 0)
noncomputable def SD:=a9 st Tryz.func423 [TH,Se,Eg] (ks:=[.st .door,.st .tupl,.st .segm]) o8 rI
noncomputable def SE:=[Ss,DB,mO]
def FW:An:=⟨⟨[],[],false,0⟩,⟨[3,4,5,6,7],[],false,0⟩,⟨[],[]⟩,[(.normal,⟨[zp 3 0,zp 4 1,zp 5 2,zi 6,zi 7],[.box [.st .door [.sl .arg,.sl .arg,.sl .arg,.sl .arg,.sl .arg]],zx .tupl,zx .segm]⟩)]⟩
noncomputable def Rr:Fx:=⟨442,Tryz.f442,[(1000012,FW)],0⟩
noncomputable def wz:FT (Door×Tupl×Segm×Unit) (Int) (λx=>aC x.1∧ao x.2.2.1) (λ_ _=>True):= .mk λ(x0,x1,x2,_)=>
  .bnd (β:=Int×Int×Door×Tupl×Segm×Unit) (.as (λw=>aC w.2.2.1∧ao w.2.2.2.2.1) (.ite (x2.opts.mss==0) (.ret (0,536,x0,x1,x2,()))<|
   .ret (0,x2.opts.mss,x0,x1,x2,()))) λ(_,u1a1,u1a2,u1a3,u1a4,_)=>
  .cal vQ.c (u1a1,()) λc2=>
  .cal sM.c (u1a2.keys.now,u1a3,u1a4.seq,u1a2.keys.epoch,c2,()) λc3=>
  .val (fB.f (0,c3,())) λc4=>
  .ret c4
noncomputable def RJ:=bM st Rr SE [] (ks:=[.st .door,.st .tupl,.st .segm]) wz rI Tryz.func442 trivial
noncomputable def cS:FT (List MacRow×MacRow×Unit) (Bool) (λx=>sL bk x.1∧bk x.2.1) (λ_ _=>True):= .mk λ(x0,y1_0,_)=>
  .cal fk.c (x0,y1_0,()) λc1=>
  .ret (decide (0≤c1))
noncomputable def mW:=cq st ⟨177,Tryz.f177,[],1⟩ [pq] [] [.sc (.sl .macRow),.fn 178 [0]] [.box [.st .macRow]] (λx y=>(x.1,y.1.1,())) cS rB (λx y v=>((y.1.1,()),())) Tryz.func177 (by kernel_rfl) trivial
noncomputable def ba:FT (Curs×Int×Unit) (Bool×Curs) (λx=>af x.1) (λx v=>af v.2):= .mk λ(y0,x1,_)=>
  .cal aj.c (y0,x1,()) λc1=>
  .ret ((c1.1==0),c1.2)
noncomputable def bP:=cq st ⟨191,Tryz.f191,[],1⟩ [az] [] [.wr false [.ptr 0],.sc (.int .i64)] [.box [.st .curs]] (λx y=>(y.1.1,x.2.1,())) ba (λv=>[(false,[.c (.bool v.1)])]) (λx y v=>((v.2,()),())) Tryz.func191 (by kernel_rfl) trivial
noncomputable def El:=[az,tN,bP,Tv]
def lU:Sh:=⟨[zp 0 0,zo 3 1,zi 4,zi 5],[.box [.st .curs [.sl .any]],za .entr]⟩
noncomputable def C5:Fx:=⟨239,Tryz.f239,[(0,la ⟨[0,3,4,5],[],false,1⟩ ⟨[2,3],[],false,1⟩)],1⟩
noncomputable def IZ (v1:Int)(a:Curs×List Entr):Tr (Stp (Curs×List Entr) (Empty)):=
 .cal aj.c (a.1,7,()) λc2=>
 .cal aj.c (c2.2,3,()) λc3=>
 .cal pj.c (a.2,(IntKind.wrap .i64 (167772160+c2.1)),(IntKind.wrap .i64 (11+c3.1)),()) λc4=>
 .cal ba.c (c3.2,2,()) λc5=>
 .ite c5.1 (.cal ML.c (c4,()) λc6=>
  .ret (.next (c5.2,c6)))<|
 .ret (.next (c5.2,c4))
noncomputable def gi:lU.V→qc lU (Curs×List Entr):=λ(v0,v1,v2,v3,_)=>⟨v1,(v2,v3),λv1 a=>(v0,v1,a.1,a.2,()),λv1 _=>(decide (v1<v0)),IZ,up,1,(Int.toNat (v0-v1)),Empty.elim,Prod.mk,oN (.exit 0) ⟨[zu 2,zo 3 1],[.box [.st .curs [.sl .any]],za .entr]⟩ (λx=>(x.2.1,x.2.2,()))⟩
theorem HR:LS Tryz.prog C5 [0] (fv 0 lU gi):=cI st (aH El) _ gi [] trivial
theorem IY {v0 v1:Int}{v2:Curs}{v3:List Entr}(h0:0≤v1)(h1:v0≤4611686018427387904)(h2:v0≤6)(h3:af v2∧sS v3∧(v3.length:Int)≤v1):(gi (v0,v1,v2,v3,())).U v0 (λv1 a=>af a.1∧sS a.2∧(a.2.length:Int)≤v1) (λ_=>True):=
 iT (a:=(v2,v3)) h0 h1 h3
noncomputable def vZ:FT (Curs×Unit) (List Entr×Curs) (λx=>af x.1) (λx v=>sS v.1∧af v.2∧v.1.length≤6):=⟨λ(y0,_)=>
  .cal aj.c (y0,6,()) λc1=>
  .lp (gi (c1.1,0,c1.2,[],())).lp λ(_,a7_0,a7_1)=>
  .ret (a7_1,a7_0),
 λ(y0,_) hp=>by
  refine Tr.C ?_ λ_ _ _=>Tr.L (IY ?_ ?_ ?_ ?_) (λ(a7_0,a7_1) _=>Tr.R ?_) (λp=>Empty.elim p)
  all_goals ((try simp only[gi,LC.lp,LC.ct,Ct.lp]at*)<;>grind)⟩
noncomputable def wi:=cq st C5 El [(fv 0 lU gi)] [.wr false [.ptr 0]] [.box [.st .curs]] (λx y=>(y.1.1,())) vZ (λv=>[(false,[sc (.o true) .entr v.1])]) (λx y v=>((v.2,()),())) Tryz.func239 (by kernel_rfl) ⟨HR,trivial⟩
def rU:Sh:=⟨[zi 2,zi 3,zp 4 0,zp 5 1,zi 12,zi 14],[.box [.st .keys [.sl .arg,.sl .arg]],zx .tupl]⟩
noncomputable def mz (v0 v1 v2:Int)(v4:Keys)(v5:Tupl)(v3:Int)(a:Unit):Tr (Stp (Unit) ((Int)⊕(Unit))):=
 .ite (decide ((IntKind.wrap .i64 (v4.epoch-1))≤v3)) (.cal wx.c (v4,v3,()) λc4=>
  .bnd (β:=Bool×Unit) (.ite c4.2 (.cal sM.c (c4.1,v5,v0,v3,v2,()) λc5=>
    .ret ((c5==v1),()))<|
   .ret (false,())) λ(u6a0,_)=>
  .ite u6a0 (.ret (.out (.inl v3)))<|
  .ret (.next ()))<|
 .ret (.out (.inr (())))
noncomputable def jb:rU.V→qF rU Unit ((Int)⊕(Unit)):=λ(v0,v1,v2,v3,v4,v5,_)=>⟨v3,(),λv3 _=>(v0,v1,v2,v3,v4,v5,()),λv3 _=>(decide (0≤v3)),mz v0 v1 v2 v4 v5,dn,(-1),(Int.toNat (v3-0+1)),.inl,eR,λ_ k w=>Sum.elim (oB .ret ⟨[zi 8,zi 9,zb 10],[]⟩ (λp=>(p,v2,true,())) (.exit 0) ⟨[zu 8,zu 9,zu 10],[]⟩ (λ_=>()) _ k) (λ_=>k (.exit 0) (Sh.enc ⟨[zu 8,zu 9,zu 10],[]⟩ ())) w⟩
theorem Ce {v0 v1 v2 v3:Int}{v4:Keys}{v5:Tupl}(h0:v3≤9223372036854775807)(h1:cC v4):(jb (v0,v1,v2,v3,v4,v5,())).D 0 (λ_ _=>True) (λ_=>True):=
 lcD h0 (by decide) trivial
noncomputable def pG:FT (Keys×Tupl×Int×Int×Unit) (Int×Int×Bool) (λx=>cC x.1) (λ_ _=>True):= .mk (λ(x0,x1,x2,x3,_)=>
  .cal pI.c (x3,()) λc1=>
  .bnd (β:=Bool×Unit) (.as (λw=>(w.1=false→0≤x0.epoch∧x0.epoch≤4294967295)) (.cal vF.c (x0,()) λc2=>
   .ite (!c2) (.ret (true,()))<|
   .ret ((decide (c1.2.1<0)),()))) λ(u3a0,_)=>
  .ite u3a0 (.ret (0,0,false))<|
  .lp (jb (x2,x3,c1.2.1,x0.epoch,x0,x1,())).lp λw7=> .sum w7 (λq7=> .sum q7 (λp7a0=>
  .ret (p7a0,c1.2.1,true))<|
  λ_=>
  .ret (0,0,false))<|
  λ_=>
  .ret (0,0,false)) (qm @Ce)
noncomputable def H3:=ez st Tryz.func31 [(0,lb [2,3,4,5,12,14] [8,9,10]),(3000002,rA 0 29),(3000008,rA 0 59)] [HZ,Cp,RK,DB] 0 jb (ks:=[.st .keys,.st .tupl,.sc (.int .i64),.sc (.int .i64)]) pG (λv=>[(false,[.c (.int .i64 v.1)]),(false,[.c (.int .i64 v.2.1)]),(false,[.c (.bool v.2.2)])])
def DN:Sh:=⟨[zp 1 0,zl 27 .macRow,zi 28,zi 29],[zg .mac]⟩
noncomputable def qZ (v0:List MacRow)(v3:Mac)(v2:Int)(a:Unit):Tr (Stp (Unit) ((Unit))):=
 .grd (cj v0 v2)<|
 .val (bh.f ((v0.getD v2.toNat (Ty.zero .macRow)).value,0,16777215,())) λc2=>
 .ite (!c2) (.ret (.out ()))<|
 .grd ((decide (0≤v2))&&(decide (v2≤(v3.rows.length:Int))))<|
 .cal cS.c (((v3.rows.take v2.toNat).drop 0),(v0.getD v2.toNat (Ty.zero .macRow)),()) λc3=>
 .ite c3 (.ret (.out ()))<|
 .ret (.next ())
noncomputable def rk:DN.V→qF DN Unit (Unit):=λ(v0,v1,v2,v3,_)=>⟨v2,(),λv2 _=>(v0,v1,v2,v3,()),λv2 _=>(decide (v2<v1)),qZ v0 v3,up,1,(Int.toNat (v1-v2)),.inl,eR,oB .ret ⟨[zb 2],[]⟩ (λ_=>(false,())) (.exit 0) ⟨[zu 2],[]⟩ (λ_=>())⟩
theorem Sc {v0:List MacRow}{v1 v2:Int}{v3:Mac}(h0:0≤v2)(h1:v1≤4611686018427387904)(h2:sL bk v0)(h3:dT v3)(h4:v1≤(v0.length:Int))(h5:v1≤(v3.rows.length:Int)):(rk (v0,v1,v2,v3,())).U v1 (λ_ _=>True) (λ_=>True):=
 iT h0 h1 trivial
noncomputable def jX:FT (Mac×Unit) (Bool) (λx=>dT x.1) (λx v=>(v=true→x.1.rows.length≤64)):= .mk (λ(x0,_)=>
  .ite (!x0.use) (.ret ((x0.rows.length:Int)==0))<|
  .bnd (β:=Bool×Unit) (.ite (x0.k != 0) (.ret (true,()))<|
   .ite (x0.l != 0) (.ret (true,()))<|
   .ret ((decide (64<(x0.rows.length:Int))),())) λ(u1a0,_)=>
  .ite u1a0 (.ret false)<|
  .lp (rk (x0.rows,(x0.rows.length:Int),0,x0,())).lp λw4=> .sum w4 (λ_=>
  .ret false)<|
  λ_=>
  .ret true) (qm @Sc)
noncomputable def Fc:=ez st Tryz.func75 [(0,lb [1,27,28,29] [2]),(3000003,rA 0 25)] [bG,mW] 0 rk (ks:=[.st .mac]) jX rB
noncomputable def YW:=[bG,Fc,GK]
def OG:An:=⟨⟨[],[],false,0⟩,⟨[1,2,3],[],false,0⟩,⟨[],[]⟩,[(.normal,⟨[zp 1 0,zb 2,zi 3],[.box [.st .keys [.sl .arg,.sl .arg]]]⟩)]⟩
noncomputable def YJ:Fx:=⟨185,Tryz.f185,[(1000005,OG)],0⟩
noncomputable def eg:FT (Keys×Unit) (Bool) (λx=>cC x.1) (λx v=>(v=true→0≤x.1.epoch∧x.1.epoch≤4294967295)):= .mk λ(x0,_)=>
  .bnd (β:=Bool×Int×Keys×Unit) (.as (λw=>cC w.2.2.1∧0≤w.2.1∧w.2.2.1=x0) (.ite x0.two (.ret (false,1,x0,()))<|
   .ret (false,0,x0,()))) λ(_,u1a1,u1a2,_)=>
  .val (bh.f (u1a2.epoch,u1a1,4294967295,())) λc2=>
  .ite c2 (.cal jX.c (u1a2.now,()) λc3=>
   .ite c3 (.cal jX.c (u1a2.before,()) λc4=>
    .ite c4 (.ite u1a2.two (.ret true)<|
     .cal fK.c (u1a2.before,(⟨false,0,0,[]⟩:Mac),()) λc5=>
     .ret c5)<|
    .ret false)<|
   .ret false)<|
  .ret false
noncomputable def CC:=bM st YJ YW [] (ks:=[.st .keys]) eg rB Tryz.func185 trivial
def sG:Sh:=⟨[zi 2,zi 3,zp 4 0,zp 5 1,zi 12,zi 14],[.box [.st .keys [.sl .arg,.sl .arg]],zx .tupl]⟩
noncomputable def td (v0 v1 v2:Int)(v4:Keys)(v5:Tupl)(v3:Int)(a:Unit):Tr (Stp (Unit) ((Int))):=
 .cal oU.c (v4,v3,()) λc5=>
 .bnd (β:=Bool×Unit) (.ite c5.2 (.cal ki.c (c5.1,v5,v0,v3,v2,()) λc6=>
   .ret ((c6==v1),()))<|
  .ret (false,())) λ(u7a0,_)=>
 .ite u7a0 (.ret (.out v3))<|
 .ret (.next ())
noncomputable def jx:sG.V→qF sG Unit (Int):=λ(v0,v1,v2,v3,v4,v5,_)=>⟨v3,(),λv3 _=>(v0,v1,v2,v3,v4,v5,()),λv3 _=>(decide ((if 0<(IntKind.wrap .i64 (v4.epoch-1))then(IntKind.wrap .i64 (v4.epoch-1))else 0)≤v3)),td v0 v1 v2 v4 v5,dn,(-1),(Int.toNat (v3-(if 0<(IntKind.wrap .i64 (v4.epoch-1))then(IntKind.wrap .i64 (v4.epoch-1))else 0)+1)),.inl,eR,oB .ret ⟨[zi 8,zi 9,zb 10],[]⟩ (λp=>(p,v2,true,())) (.exit 0) ⟨[zu 8,zu 9,zu 10],[]⟩ (λ_=>())⟩
theorem CH {v0 v1 v2 v3:Int}{v4:Keys}{v5:Tupl}(h0:v3≤9223372036854775807)(h1:0≤(if 0<(IntKind.wrap .i64 (v4.epoch-1))then(IntKind.wrap .i64 (v4.epoch-1))else 0))(h2:cC v4):(jx (v0,v1,v2,v3,v4,v5,())).D (if 0<(IntKind.wrap .i64 (v4.epoch-1))then(IntKind.wrap .i64 (v4.epoch-1))else 0) (λ_ _=>True) (λ_=>True):=
 lcD h0 h1 trivial
noncomputable def dq:FT (Keys×Tupl×Int×Int×Unit) (Int×Int×Bool) (λx=>cC x.1) (λ_ _=>True):= .mk (λ(x0,x1,x2,x3,_)=>
  .bnd (β:=Bool×Unit) (.as (λw=>(w.1=false→0≤x0.epoch∧x0.epoch≤4294967295)) (.cal eg.c (x0,()) λc1=>
   .ite (!c1) (.ret (true,()))<|
   .cal ae.c (x3,32,()) λc2=>
   .ret ((!c2),()))) λ(u3a0,_)=>
  .ite u3a0 (.ret (0,0,false))<|
  .cal gK.c (x3,()) λc4=>
  .lp (jx (x2,x3,c4.2.1,x0.epoch,x0,x1,())).lp λw8=> .sum w8 (λp8a0=>
  .ret (p8a0,c4.2.1,true))<|
  λ_=>
  .ret (0,0,false)) (qm @CH)
noncomputable def Ic:=ez st Tryz.func207 [(0,lb [2,3,4,5,12,14] [8,9,10]),(3000001,rA 0 24),(3000008,rA 0 57)] [CC,bX,Iy,QY,Eg] 0 jx (ks:=[.st .keys,.st .tupl,.sc (.int .i64),.sc (.int .i64)]) dq (λv=>[(false,[.c (.int .i64 v.1)]),(false,[.c (.int .i64 v.2.1)]),(false,[.c (.bool v.2.2)])])
noncomputable def aaP:=[C9,ex,gE,ot,dR,Ec,Gz,Xg,H3,Cg]
noncomputable def aax:Fx:=⟨294,Tryz.f294,[(3000001,rA 0 27)],0⟩
noncomputable def EU:FT (Door×Tupl×Segm×Unit) (Door×List Segm×Int) (λx=>aC x.1∧ao x.2.2.1) (λx v=>aC v.1∧sL ao v.2.1):= .mk λ(x0,x1,x2,_)=>
  .bnd (β:=Bool×Unit) (.cal tD.c (x0,x1,x2,()) λc1=>
   .ite (!c1) (.ret (true,()))<|
   .cal dC.c (x0.table,x1,()) λc2=>
   .ret ((decide (0≤c2)),())) λ(u3a0,_)=>
  .ite u3a0 (.cal d6.c (x0,()) λc4=>
   .ret (c4,[],0))<|
  .cal ju.c (x0.halves,x1,()) λc5=>
  .ite (decide (0≤c5)) (.grd (cj x0.halves c5)<|
   .val (bT.f ((x0.halves.getD c5.toNat (Ty.zero .half)).iss,1,())) λc6=>
   .ite (x2.ack != c6) (.cal ml.c (x0,x2,()) λc7=>
    .ret (c7.1,c7.2.1,c7.2.2))<|
   .val (bT.f ((x0.halves.getD c5.toNat (Ty.zero .half)).irs,1,())) λc8=>
   .ite (x2.seq != c8) (.cal d6.c (x0,()) λc9=>
    .ret (c9,[],0))<|
   .cal rD.c (x1,(x0.halves.getD c5.toNat (Ty.zero .half)).iss,(x0.halves.getD c5.toNat (Ty.zero .half)).irs,(x0.halves.getD c5.toNat (Ty.zero .half)).opts,x2.window,()) λc10=>
   .cal zH.c (x0,c10,x2,1,()) λc11=>
   .ret (c11.1,c11.2.1,c11.2.2))<|
  .val (bT.f (x2.seq,(-1),())) λc12=>
  .val (bT.f (x2.ack,(-1),())) λc13=>
  .cal pG.c (x0.keys,x1,c12,c13,()) λc14=>
  .ite (!c14.2.2) (.cal ml.c (x0,x2,()) λc15=>
   .ret (c15.1,c15.2.1,c15.2.2))<|
  .cal kU.c (c14.2.1,x2.opts,()) λc16=>
  .cal rD.c (x1,c13,c12,c16,x2.window,()) λc17=>
  .cal zH.c (x0,c17,x2,2,()) λc18=>
  .ret (c18.1,c18.2.1,c18.2.2)
noncomputable def Pn:=bM st aax aaP [] (ks:=[.st .door,.st .tupl,.st .segm]) EU (λv=>[(true,kF (.o true) (.o true) (.o true) (.o true) (.o true) v.1),(false,[sc (.o true) .segm v.2.1]),(false,[.c (.int .i64 v.2.2)])]) Tryz.func294 trivial
noncomputable def eS:FT (Door×Tupl×Segm×Unit) (Segm) (λx=>aC x.1∧ao x.2.2.1) (λx v=>ao v):= .mk λ(x0,x1,x2,_)=>
  .cal o8.c (x0,x1,x2,()) λc1=>
  .val (bR.f (x2.seq,1,())) λc2=>
  .val (gj.f (x2.opts,x0.clock,())) λc3=>
  .ret (⟨x1.my,x1.port,c1,c2,18,32,c3,[]⟩:Segm)
noncomputable def YP:=a9 st Tryz.func330 [SD,gO,D6] (ks:=[.st .door,.st .tupl,.st .segm]) eS (λv=>[(true,si v)])
noncomputable def sQ:FT (Door×Tupl×Segm×Unit) (Segm) (λx=>aC x.1∧ao x.2.2.1) (λx v=>ao v):= .mk λ(x0,x1,x2,_)=>
  .cal wz.c (x0,x1,x2,()) λc1=>
  .val (bT.f (x2.seq,1,())) λc2=>
  .val (me.f (x2.opts,x0.clock,())) λc3=>
  .ret (⟨x1.my,x1.port,c1,c2,18,32,c3,[]⟩:Segm)
noncomputable def Nb:=a9 st Tryz.func364 [RJ,dR,D9] (ks:=[.st .door,.st .tupl,.st .segm]) sQ (λv=>[(true,si v)])
noncomputable def u5:FT (Conn×Tabl×Unit) (Bool) (λx=>ac x.1∧aO x.2.1) (λ_ _=>True):= .mk λ(x0,y1,_)=>
  .ite (x0.state==8) (.cal iA.c (y1.waiting,x0.tuple,()) λc1=>
   .ret (!c1))<|
  .ret false
noncomputable def GB:=cq st ⟨144,Tryz.f144,[],1⟩ [rT] [] [.st .conn,.wr false [.ptr 0]] [.box [.st .tabl]] (λx y=>(x.1,y.1.1,())) u5 rB (λx y v=>((y.1.1,()),())) Tryz.func144 (by kernel_rfl) trivial
noncomputable def ig:=[GB]
def cB:Sh:=⟨[zo 0 0,(1,false,[.fn 144 [1]]),zi 7,zi 8],[.arr .conn false false,.box [.st .tabl [.sl .any,.sl .any]]]⟩
noncomputable def iq:Fx:=⟨147,Tryz.f147,[(0,la ⟨[0,1,7,8],[.softo 1 0,.softo 1 1],false,2⟩ ⟨[4],[],false,2⟩)],2⟩
noncomputable def gc (v2:List Conn)(v3:Tabl)(v1:Int)(a:Unit):Tr (Stp (Unit) ((Int))):=
 .grd (cj v2 v1)<|
 .cal u5.c ((v2.getD v1.toNat (Ty.zero .conn)),v3,()) λc2=>
 .ite c2 (.ret (.out v1))<|
 .ret (.next ())
noncomputable def bz:cB.V→qF cB Unit (Int):=λ(v0,v1,v2,v3,_)=>⟨v1,(),λv1 _=>(v0,v1,v2,v3,()),λv1 _=>(decide (v1<v0)),gc v2 v3,up,1,(Int.toNat (v0-v1)),.inl,eR,oB .ret ⟨[zi 4],[.arr .conn false false,.box [.st .tabl [.sl .any,.sl .any]]]⟩ (λp=>(p,v2,v3,())) (.exit 0) ⟨[zu 4],[.arr .conn false false,.box [.st .tabl [.sl .any,.sl .any]]]⟩ (λ_=>(v2,v3,()))⟩
theorem mX:LS Tryz.prog iq [0] (fv 0 cB bz):=cI st (aH ig) _ bz [] trivial
theorem m5 {v0 v1:Int}{v2:List Conn}{v3:Tabl}(h0:0≤v1)(h1:v0≤4611686018427387904)(h2:sL ac v2)(h3:aO v3)(h4:v0≤(v2.length:Int)):(bz (v0,v1,v2,v3,())).U v0 (λ_ _=>True) (λp=>v1≤p∧p<v0):=
 iT h0 h1 trivial
noncomputable def dz:FT (List Conn×Tabl×Unit) (Int) (λx=>sL ac x.1∧aO x.2.1) (λx v=> -1≤v∧v<x.1.length):= .mk (λ(x0,y1_0,_)=>
  .lp (bz ((x0.length:Int),0,x0,y1_0,())).lp λw3=> .sum w3 (λp3a0=>
  .ret p3a0)<|
  λ_=>
  .ret (-1)) (qm @m5)
noncomputable def oT:=cq st iq ig [(fv 0 cB bz)] [.wr false [.own 0],.fn 144 [1]] [.arr .conn,.box [.st .tabl]] (λx y=>(y.1,y.2.1.1,())) dz rI (λx y v=>(y.1,(y.2.1.1,()),())) Tryz.func147 (by kernel_rfl) ⟨mX,trivial⟩
noncomputable def aae:=[bG,Fc,GK,mM]
noncomputable def aaW:Fx:=⟨17,Tryz.f17,[(3000007,rA 0 24),(3000009,rA 0 38),(3000011,rA 0 49),(3000012,rA 0 49)],0⟩
noncomputable def ld:FT (Acti×Unit) (Bool) (λx=>bq x.1) (λ_ _=>True):= .mk λ(x0,_)=>
  .val (bh.f (x0.kind,5,8,())) λc1=>
  .val (bh.f (x0.kind,1,8,())) λc2=>
  .ite (!c2) (.ite (!c2) (.ret false)<|
   .bnd (β:=Bool×Unit) (.ite (!(x0.text==[])) (.ite (x0.kind != 1) (.ret ((x0.kind != 5),()))<|
     .ret (false,()))<|
    .ret (false,())) λ(u3a0,_)=>
   .ite u3a0 (.ret false)<|
   .bnd (β:=Bool×Unit) (.ite (x0.kind != 3) (.cal fK.c (x0.mac,(⟨false,0,0,[]⟩:Mac),()) λc4=>
     .ret ((!c4),()))<|
    .ret (false,())) λ(u5a0,_)=>
   .ite u5a0 (.ret false)<|
   .bnd (β:=Bool×Unit) (.ite c1 (.cal aG.c (x0.tuple,()) λc6=>
     .ret ((!c6),()))<|
    .ret (false,())) λ(u7a0,_)=>
   .ite u7a0 (.ite u7a0 (.ret false)<|
    .ite (x0.n==0) (.ret true)<|
    .ret (x0.kind==6))<|
   .bnd (β:=Bool×Unit) (.ite (!c1) (.ret ((!((x0.tuple.ip==0)&&((x0.tuple.port==0)&&((x0.tuple.my==0)&&true)))),()))<|
    .ret (false,())) λ(u8a0,_)=>
   .ite u8a0 (.ret false)<|
   .ite (x0.n==0) (.ret true)<|
   .ret (x0.kind==6))<|
  .ite (decide (1600<(x0.text.length:Int))) (.ite (decide (1600<(x0.text.length:Int))) (.ret false)<|
   .bnd (β:=Bool×Unit) (.ite (!(x0.text==[])) (.ite (x0.kind != 1) (.ret ((x0.kind != 5),()))<|
     .ret (false,()))<|
    .ret (false,())) λ(u9a0,_)=>
   .ite u9a0 (.ret false)<|
   .bnd (β:=Bool×Unit) (.ite (x0.kind != 3) (.cal fK.c (x0.mac,(⟨false,0,0,[]⟩:Mac),()) λc10=>
     .ret ((!c10),()))<|
    .ret (false,())) λ(u11a0,_)=>
   .ite u11a0 (.ret false)<|
   .bnd (β:=Bool×Unit) (.ite c1 (.cal aG.c (x0.tuple,()) λc12=>
     .ret ((!c12),()))<|
    .ret (false,())) λ(u13a0,_)=>
   .ite u13a0 (.ite u13a0 (.ret false)<|
    .ite (x0.n==0) (.ret true)<|
    .ret (x0.kind==6))<|
   .bnd (β:=Bool×Unit) (.ite (!c1) (.ret ((!((x0.tuple.ip==0)&&((x0.tuple.port==0)&&((x0.tuple.my==0)&&true)))),()))<|
    .ret (false,())) λ(u14a0,_)=>
   .ite u14a0 (.ret false)<|
   .ite (x0.n==0) (.ret true)<|
   .ret (x0.kind==6))<|
  .cal jX.c (x0.mac,()) λc15=>
  .ite (!c15) (.ite (!c15) (.ret false)<|
   .bnd (β:=Bool×Unit) (.ite (!(x0.text==[])) (.ite (x0.kind != 1) (.ret ((x0.kind != 5),()))<|
     .ret (false,()))<|
    .ret (false,())) λ(u16a0,_)=>
   .ite u16a0 (.ret false)<|
   .bnd (β:=Bool×Unit) (.ite (x0.kind != 3) (.cal fK.c (x0.mac,(⟨false,0,0,[]⟩:Mac),()) λc17=>
     .ret ((!c17),()))<|
    .ret (false,())) λ(u18a0,_)=>
   .ite u18a0 (.ret false)<|
   .bnd (β:=Bool×Unit) (.ite c1 (.cal aG.c (x0.tuple,()) λc19=>
     .ret ((!c19),()))<|
    .ret (false,())) λ(u20a0,_)=>
   .ite u20a0 (.ite u20a0 (.ret false)<|
    .ite (x0.n==0) (.ret true)<|
    .ret (x0.kind==6))<|
   .bnd (β:=Bool×Unit) (.ite (!c1) (.ret ((!((x0.tuple.ip==0)&&((x0.tuple.port==0)&&((x0.tuple.my==0)&&true)))),()))<|
    .ret (false,())) λ(u21a0,_)=>
   .ite u21a0 (.ret false)<|
   .ite (x0.n==0) (.ret true)<|
   .ret (x0.kind==6))<|
  .val (bh.f (x0.n,0,65535,())) λc22=>
  .ite (!c22) (.ret false)<|
  .bnd (β:=Bool×Unit) (.ite (!(x0.text==[])) (.ite (x0.kind != 1) (.ret ((x0.kind != 5),()))<|
    .ret (false,()))<|
   .ret (false,())) λ(u23a0,_)=>
  .ite u23a0 (.ret false)<|
  .bnd (β:=Bool×Unit) (.ite (x0.kind != 3) (.cal fK.c (x0.mac,(⟨false,0,0,[]⟩:Mac),()) λc24=>
    .ret ((!c24),()))<|
   .ret (false,())) λ(u25a0,_)=>
  .ite u25a0 (.ret false)<|
  .bnd (β:=Bool×Unit) (.ite c1 (.cal aG.c (x0.tuple,()) λc26=>
    .ret ((!c26),()))<|
   .ret (false,())) λ(u27a0,_)=>
  .ite u27a0 (.ite u27a0 (.ret false)<|
   .ite (x0.n==0) (.ret true)<|
   .ret (x0.kind==6))<|
  .bnd (β:=Bool×Unit) (.ite (!c1) (.ret ((!((x0.tuple.ip==0)&&((x0.tuple.port==0)&&((x0.tuple.my==0)&&true)))),()))<|
   .ret (false,())) λ(u28a0,_)=>
  .ite u28a0 (.ret false)<|
  .ite (x0.n==0) (.ret true)<|
  .ret (x0.kind==6)
noncomputable def O9:=bM st aaW aae [] (ks:=[.st .acti]) ld rB Tryz.func17 trivial
noncomputable def Tc:=[Bw,CC,Fc,xg]
noncomputable def V4:Fx:=⟨141,Tryz.f141,[(3000002,rA 0 20)],0⟩
noncomputable def oK:FT (Keys×Mac×Unit) (Keys) (λx=>cC x.1∧dT x.2.1) (λx v=>cC v):= .mk λ(x0,x1,_)=>
  .cal qe.c (x0,()) λc1=>
  .bnd (β:=Bool×Unit) (.as (λw=>(w.1=false→0≤x0.epoch∧x0.epoch≤4294967295∧x1.rows.length≤64)) (.cal eg.c (x0,()) λc2=>
   .ite (!c2) (.ret (true,()))<|
   .cal jX.c (x1,()) λc3=>
   .ite (!c3) (.ret (true,()))<|
   .ret ((x0.epoch==4294967295),()))) λ(u4a0,_)=>
  .ite u4a0 (.ret c1)<|
  .cal kD.c (x1,()) λc5=>
  .ret (⟨(IntKind.wrap .i64 (x0.epoch+1)),c5,c1.now,true⟩:Keys)
noncomputable def Tj:=bM st V4 Tc [] (ks:=[.st .keys,.st .mac]) oK (λv=>[(true,B5 (.o true) (.o true) v)]) Tryz.func141 trivial
noncomputable def DE:FT (Door×Tupl×Segm×Unit) (Door×List Segm) (λx=>aC x.1∧ao x.2.2.1) (λx v=>aC v.1∧sL ao v.2):= .mk λ(x0,x1,x2,_)=>
  .cal d6.c (x0,()) λc1=>
  .cal tD.c (x0,x1,x2,()) λc2=>
  .ite (!c2) (.ret (c1,[]))<|
  .cal sQ.c (x0,x1,x2,()) λc3=>
  .cal ju.c (x0.halves,x1,()) λc4=>
  .ite (decide (0≤c4)) (.grd (cj x0.halves c4)<|
   .ite ((x0.halves.getD c4.toNat (Ty.zero .half)).irs != x2.seq) (.ret (c1,[]))<|
   .grd (cj x0.halves c4)<|
   .ret (c1,[({c3 with seq:=(x0.halves.getD c4.toNat (Ty.zero .half)).iss}:Segm)]))<|
  .cal dC.c (x0.table,x1,()) λc5=>
  .ite (decide (c5<0)) (.val (pL.f (x2.opts,())) λc6=>
   .cal vG.c (c1.halves,(⟨x1,c3.seq,x2.seq,c6,0,x2.window⟩:Half),x0.limits.halves,()) λc7=>
   .ret (({c1 with halves:=c7.1}:Door),[c3]))<|
  .ret (c1,[c3])
noncomputable def Pq:=a9 st Tryz.func293 [gE,C9,Nb,ot,ex,It,GE] (ks:=[.st .door,.st .tupl,.st .segm]) DE (λv=>[(true,kF (.o true) (.o true) (.o true) (.o true) (.o true) v.1),(false,[sc (.o true) .segm v.2])])
noncomputable def iU:=[oT,GB]
def cK:Sh:=⟨[zo 0 0,(1,false,[.fn 144 [1]]),zi 5,zi 6],[.arr .conn false false,.box [.st .tabl [.sl .any,.sl .any]]]⟩
noncomputable def iW:Fx:=⟨143,Tryz.f143,[(0,la ⟨[0,1,5,6],[],false,2⟩ ⟨[0,4,5],[],false,2⟩)],2⟩
noncomputable def dU (v3:Tabl)(v1:Int)(a:Int×List Conn):Tr (Stp (Int×List Conn) (Empty)):=
 .grd (cj a.2 v1)<|
 .cal u5.c ((a.2.getD v1.toNat (Ty.zero .conn)),v3,()) λc2=>
 .ite (!c2) (.grd (cj a.2 a.1)<|
  .ret (.next ((IntKind.wrap .i64 (a.1+1)),(a.2.set a.1.toNat (a.2.getD v1.toNat (Ty.zero .conn))))))<|
 .ret (.next (a.1,a.2))
noncomputable def aF:cK.V→qc cK (Int×List Conn):=λ(v0,v1,v2,v3,_)=>⟨v1,(v0,v2),λv1 a=>(a.1,v1,a.2,v3,()),λv1 a=>(decide (v1<(a.2.length:Int))),dU v3,up,1,(Int.toNat ((v2.length:Int)-v1)),Empty.elim,Prod.mk,oN (.exit 0) ⟨[zo 0 0,zu 4,zi 5],[.arr .conn false false,.box [.st .tabl [.sl .any,.sl .any]]]⟩ (λx=>(x.2.1,x.2.2,v3,()))⟩
theorem nL:LS Tryz.prog iW [0] (fv 0 cK aF):=cI st (aH iU) _ aF [] trivial
theorem nK {v0 v1:Int}{v2:List Conn}{v3:Tabl}(h0:0≤v1)(h1:(v2.length:Int)≤4611686018427387904)(h2:aO v3)(h3:sL ac v2)(h4:v2.length=v2.length∧cX ac v2∧0≤v0∧v0<v1∧v0<v2.length):(aF (v0,v1,v2,v3,())).S (λv1 a=>a.2.length=v2.length∧a.2.length=v2.length∧cX ac a.2∧0≤a.1∧a.1<v1∧a.1<a.2.length) (λ_=>True):=by
 refine LC.okS ⟨rfl,h4⟩ (λj a hj hv=>⟨⟨?_, ?_⟩, ?_⟩) (λa hv=> ?_)
 ·simp only[aF,decide_eq_true_eq]at*;omega
 ·simp only[aF]at*;exact upw (by omega) (by omega)
 ·refine Tr.G2 ?_ λ_=>Tr.C ?_ λ_ _ _=>Tr.I (λ_=>Tr.G2 ?_ λ_=>Tr.Rn ?_) λ_=>Tr.Rn ?_
  all_goals (try simp only[aF]at*)<;>(grind)
 ·simp only[aF,decide_eq_false_iff_not]at*;omega
noncomputable def cM:FT (List Conn×Tabl×Unit) (Nat×List Conn) (λx=>sL ac x.1∧aO x.2.1) (λx v=>sL ac v.2∧v.1≤x.1.length∧v.2.length=x.1.length):=⟨λ(x0,y1_0,_)=>
  .cal dz.c (x0,y1_0,()) λc1=>
  .ite (c1==(-1)) (.ret (x0.length,x0))<|
  .lp (aF (c1,(IntKind.wrap .i64 (c1+1)),x0,y1_0,())).lp λ(_,a3_0,a3_1)=>
  .grd (JQ a3_1 a3_0 (a3_1.length:Int))<|
  .val ((a3_1.take a3_0.toNat++List.replicate ((a3_1.length:Int).toNat-a3_0.toNat) (Ty.zero .conn))++a3_1.drop ((a3_1.length:Int).toNat)) λl4=>
  .grd ((decide (0≤a3_0))&&(decide (a3_0≤(l4.length:Int))))<|
  .ret (a3_0.toNat,l4),
 λ(x0,y1_0,_) hp=>by
  refine Tr.C ?_ λc1 hc1 qc1=>Tr.I (λb0=>Tr.R ?_) λb0=>Tr.L (nK ?_ ?_ ?_ ?_ ?_) (λ(a3_0,a3_1) i3=>Tr.G3 ?_ λg1=>Tr.V λl4 hl4=>Tr.G2 ?_ λg2=>Tr.R ?_) (λp=>Empty.elim p)
  all_goals ((try simp only[aF,LC.lp,LC.ct,Ct.lp]at*)<;>(first|grind|(have hz:ac (Ty.zero .conn):=(by unfold ac;(repeat' apply And.intro);all_goals first|exact λ_ h=>absurd h (List.not_mem_nil)|decide+kernel);grind)))⟩
noncomputable def p7:=cq st iW iU [(fv 0 cK aF)] [.wr false [.own 0],.fn 144 [1]] [.arr .conn,.box [.st .tabl]] (λx y=>(y.1,y.2.1.1,())) cM (λv=>[(false,[.shr 0 v.1])]) (λx y v=>(v.2,(y.2.1.1,()),())) Tryz.func143 (by kernel_rfl) ⟨nL,trivial⟩
noncomputable def E2:FT (Curs×Unit) (Int×Curs) (λx=>af x.1) (λx v=>af v.2):= .mk λ(y0,_)=>
  .cal aD.c (y0,[167772161,167772162,167772163,0,4294967295],()) λc1=>
  .ret (c1.1,c1.2)
noncomputable def Ld:=cq st ⟨362,Tryz.f362,[],1⟩ [aJ] [] [.wr false [.ptr 0]] [.box [.st .curs]] (λx y=>(y.1.1,())) E2 (λv=>[(false,[.c (.int .i64 v.1)])]) (λx y v=>((v.2,()),())) Tryz.func362 (by kernel_rfl) trivial
noncomputable def kg:FT (Door×Mac×Unit) (Door) (λx=>aC x.1∧dT x.2.1) (λx v=>aC v):= .mk λ(x0,x1,_)=>
  .cal gt.c (x0,()) λc1=>
  .cal oK.c (x0.keys,x1,()) λc2=>
  .ret (⟨c1.port,c1.clock,c2,c1.limits,c1.halves,c1.table,c1.chal⟩:Door)
noncomputable def Oh:=a9 st Tryz.func56 [jR,Tj] (ks:=[.st .door,.st .mac]) kg (λv=>[(true,kF (.o true) (.o true) (.o true) (.o true) (.o true) v)])
noncomputable def abl:=[vU,ca,lB,gE,zt,ex,Ec,Uw,Ax,ot,dR,Dn,Pq,Pn]
def Bn:An:=⟨⟨[],[],false,0⟩,⟨[3,6,7,8,9,12],[],false,0⟩,⟨[],[]⟩,[(.normal,⟨[zp 3 0,zp 6 1,(7,false,[.nil]),zi 8,zo 9 2,zp 12 3],[.box [.st .door [.sl .arg,.sl .arg,.sl .arg,.sl .arg,.sl .arg]],.box [.st .door [.nil .macRow,.nil .macRow,.nil .half,.nil .conn,.nil .tupl]],za .segm,.box [.st .door [.own 4,.own 5,.own 6,.own 7,.own 8]],zf,zf,zf,zf,zf]⟩)]⟩
noncomputable def aab:Fx:=⟨160,Tryz.f160,[(1000084,Bn),(3000002,rA 0 29),(3000013,rA 0 84),(3000016,rA 0 92),(3000019,rA 0 114)],0⟩
noncomputable def Ji:FT (Door×Int×Segm×Unit) (Door×List Segm×Int) (λx=>aC x.1∧ao x.2.2.1) (λx v=>aC v.1∧sL ao v.2.1):= .mk λ(x0,x1,x2,_)=>
  .bnd (β:=Bool×Unit) (.as (λw=>(w.1=false→x0.table.conns.length≤16∧x2.body.length≤1420)) (.cal r7.c (x0,()) λc1=>
   .ite (!c1) (.ret (true,()))<|
   .cal aI.c (x1,32,()) λc2=>
   .ite (!c2) (.ret (true,()))<|
   .cal i1.c (x2,()) λc3=>
   .ret ((!c3),()))) λ(u4a0,_)=>
  .ite u4a0 (.cal d6.c (x0,()) λc5=>
   .ret (c5,[],0))<|
  .val (pc.f (x1,x2,())) λc6=>
  .cal dC.c (x0.table,c6,()) λc7=>
  .ite (x2.to != x0.port) (.cal ml.c (x0,x2,()) λc8=>
   .ret (c8.1,c8.2.1,c8.2.2))<|
  .ite (decide (0≤c7)) (.cal AI.c (x0,c7,x2,()) λc9=>
   .ret (c9.1,c9.2.1,c9.2.2))<|
  .val (gW.f (x2,4,())) λc10=>
  .ite c10 (.cal d6.c (x0,()) λc11=>
   .cal ju.c (x0.halves,c6,()) λc12=>
   .bnd (β:=Bool×Unit) (.ite (decide (0≤c12)) (.grd (cj x0.halves c12)<|
     .val (bT.f ((x0.halves.getD c12.toNat (Ty.zero .half)).irs,1,())) λc13=>
     .ret ((x2.seq==c13),()))<|
    .ret (false,())) λ(u14a0,_)=>
   .bnd (β:=WT Bn.es) (.as (λw=>aC w.2.1∧aC w.2.2.1∧sL ao w.2.2.2.1∧aC w.2.2.2.2.1) (.ite u14a0 (.cal sK.c (x0.halves,c6,()) λc15=>
     .ret (0,x0,(⟨0,0,⟨0,⟨false,0,0,[]⟩,⟨false,0,0,[]⟩,false⟩,⟨0,0,0,0⟩,[],⟨[],[]⟩,0⟩:Door),[],({c11 with halves:=c15}:Door),()))<|
    .ret (0,x0,(⟨0,0,⟨0,⟨false,0,0,[]⟩,⟨false,0,0,[]⟩,false⟩,⟨0,0,0,0⟩,[],⟨[],[]⟩,0⟩:Door),[],c11,()))) λ(_,_,_,u16a3,u16a4,_)=>
   .ret (u16a4,u16a3,0))<|
  .bnd (β:=Bool×Unit) (.val (gW.f (x2,2,())) λc17=>
   .ite c17 (.val (gW.f (x2,16,())) λc18=>
    .ite (!c18) (.val (gW.f (x2,1,())) λc19=>
     .ret ((!c19),()))<|
    .ret (false,()))<|
   .ret (false,())) λ(u20a0,_)=>
  .ite u20a0 (.cal DE.c (x0,c6,x2,()) λc21=>
   .ret (c21.1,c21.2,0))<|
  .bnd (β:=Bool×Unit) (.val (gW.f (x2,16,())) λc22=>
   .ite c22 (.val (gW.f (x2,2,())) λc23=>
    .ret ((!c23),()))<|
   .ret (false,())) λ(u24a0,_)=>
  .ite u24a0 (.cal EU.c (x0,c6,x2,()) λc25=>
   .ret (c25.1,c25.2.1,c25.2.2))<|
  .val (gW.f (x2,16,())) λc26=>
  .ite c26 (.cal ml.c (x0,x2,()) λc27=>
   .ret (c27.1,c27.2.1,c27.2.2))<|
  .cal d6.c (x0,()) λc28=>
  .ret (c28,[],0)
noncomputable def ZO:=bM st aab abl [] (ks:=[.st .door,.sc (.int .i64),.st .segm]) Ji (λv=>[(true,kF (.o true) (.o true) (.o true) (.o true) (.o true) v.1),(false,[sc (.o true) .segm v.2.1]),(false,[.c (.int .i64 v.2.2)])]) Tryz.func160 trivial
noncomputable def oM:FT (Curs×Unit) (Tupl×Curs) (λx=>af x.1) (λx v=>af v.2):= .mk λ(y0,_)=>
  .cal E2.c (y0,()) λc1=>
  .cal aD.c (c1.2,[40000,40001,40002],()) λc2=>
  .ret ((⟨c1.1,c2.1,80⟩:Tupl),c2.2)
noncomputable def nq:=cq st ⟨248,Tryz.f248,[],1⟩ [Ld,aJ] [] [.wr false [.ptr 0]] [.box [.st .curs]] (λx y=>(y.1.1,())) oM (λv=>[(true,E5 v.1)]) (λx y v=>((v.2,()),())) Tryz.func248 (by kernel_rfl) trivial
noncomputable def Ti:=[un,mR,Xh,IQ,ZO,zz]
noncomputable def Tx:Fx:=⟨65,Tryz.f65,[(3000009,rA 0 55),(4000000,la ⟨[],[],false,0⟩ ⟨[],[.softb 4 2],false,0⟩)],0⟩
noncomputable def va:FT (Stac×aa×Unit) (Stac×List aa×Int) (λx=>ax x.1∧sS x.2.1) (λx v=>ax v.1∧sL sS v.2.1):= .mk λ(x0,x1,_)=>
  .cal pb.c (x0,()) λc1=>
  .cal jL.c (x0,()) λc2=>
  .ite (!c2) (.ret (c1,[],0))<|
  .cal Em.c (x0.link,x1,()) λc3=>
  .ite (c3.2.1==1) (.ret (({c1 with link.mac:=c3.1.mac,link.ip:=c3.1.ip,link.cache:=c3.1.cache}:Stac),[c3.2.2.2],0))<|
  .cal lF.c (c3.2.2.1.body,c3.2.2.1.src,c3.2.2.1.dst,()) λc4=>
  .bnd (β:=Bool×Unit) (.ite (c3.2.1 != 2) (.ret (true,()))<|
   .ret ((!c4.2),())) λ(u5a0,_)=>
  .ite u5a0 (.ret (({c1 with link.mac:=c3.1.mac,link.ip:=c3.1.ip,link.cache:=c3.1.cache}:Stac),[],0))<|
  .cal Ji.c (x0.door,c3.2.2.1.src,c4.1,()) λc6=>
  .cal rO.c ((⟨c3.1,c6.1⟩:Stac),c3.2.2.1.src,c6.2.1,()) λc7=>
  .ret ((⟨c3.1,c6.1⟩:Stac),c7,c6.2.2)
noncomputable def U9:=bM st Tx Ti [] (ks:=[.st .stac,.sc .str]) va (λv=>[(true,kJ .c (.o true) (.o true) (.o true) (.o true) (.o true) v.1),(false,[sc (.o true) .str v.2.1]),(false,[.c (.int .i64 v.2.2)])]) Tryz.func65 trivial
noncomputable def Kv:=[az,we]
def pD:Sh:=⟨[zp 0 0,(3,false,[.int .u64]),zi 4],[.box [.st .curs [.sl .any]]]⟩
noncomputable def LP:Fx:=⟨250,Tryz.f250,[(1,la ⟨[0,3,4],[],false,1⟩ ⟨[2,3],[],false,1⟩)],1⟩
noncomputable def Oo (v1:Int)(a:Int×Curs):Tr (Stp (Int×Curs) (Empty)):=
 .cal nl.c (a.2,()) λc2=>
 .val (bits .or .u64 (IntKind.wrap .u64 (a.1*256)) (IntKind.wrap .u64 c2.1)) λe3=>
 .ret (.next (e3,c2.2))
noncomputable def jK:pD.V→qc pD (Int×Curs):=λ(v0,v1,v2,_)=>⟨v1,(v0,v2),λv1 a=>(a.1,v1,a.2,()),λv1 _=>(decide (v1<8)),Oo,up,1,(Int.toNat (8-v1)),Empty.elim,Prod.mk,oN (.exit 1) ⟨[zu 2,(3,false,[.int .u64])],[.box [.st .curs [.sl .any]]]⟩ (λx=>(x.2.1,x.2.2,()))⟩
theorem Oc:LS Tryz.prog LP [0] (fv 1 pD jK):=cI st (aH Kv) _ jK [] trivial
theorem NW {v0 v1:Int}{v2:Curs}(h0:0≤v1)(h1:af v2):(jK (v0,v1,v2,())).U 8 (λv1 a=>af a.2) (λ_=>True):=
 iT (a:=(v0,v2)) h0 (by decide) h1
noncomputable def gm:FT (Curs×Unit) (Int×Curs) (λx=>af x.1) (λx v=>af v.2):=⟨λ(y0,_)=>
  .cal aj.c (y0,3,()) λc1=>
  .ite (c1.1==0) (.ret (0,c1.2))<|
  .ite (c1.1==1) (.ret (506097522914230528,c1.2))<|
  .lp (jK (0,0,c1.2,())).lp λ(_,a4_0,a4_1)=>
  .ret (a4_0,a4_1),
 λ(y0,_) hp=>by
  refine Tr.C ?_ λ_ _ _=>Tr.I (λ_=>Tr.R ?_) λ_=>Tr.I (λ_=>Tr.R ?_) λ_=>Tr.L (NW ?_ ?_) (λ(a4_0,a4_1) _=>Tr.R ?_) (λp=>Empty.elim p)
  all_goals ((try simp only[jK,LC.lp,LC.ct,Ct.lp]at*)<;>grind)⟩
noncomputable def xr:=cq st LP Kv [(fv 1 pD jK)] [.wr false [.ptr 0]] [.box [.st .curs]] (λx y=>(y.1.1,())) gm (λv=>[(false,[.c (.int .u64 v.1)])]) (λx y v=>((v.2,()),())) Tryz.func250 (by kernel_rfl) ⟨Oc,trivial⟩
noncomputable def Py:FT (Curs×Unit) (Keys×Curs) (λx=>af x.1) (λx v=>cC v.1∧af v.2):= .mk λ(y0,_)=>
  .cal aj.c (y0,40,()) λc1=>
  .cal gm.c (c1.2,()) λc2=>
  .cal gm.c (c2.2,()) λc3=>
  .cal pW.c (c2.1,c3.1,()) λc4=>
  .ite (decide (0<c1.1)) (.cal ba.c (c3.2,2,()) λc5=>
   .ite c5.1 (.cal gm.c (c5.2,()) λc6=>
    .cal pW.c (c6.1,5,()) λc7=>
    .ret ((⟨c1.1,c4,c7,true⟩:Keys),c6.2))<|
   .ret ((⟨c1.1,c4,⟨false,0,0,[]⟩,false⟩:Keys),c5.2))<|
  .ret ((⟨c1.1,c4,⟨false,0,0,[]⟩,false⟩:Keys),c3.2)
noncomputable def T8:=cq st ⟨352,Tryz.f352,[],1⟩ [az,xr,vT,bP] [] [.wr false [.ptr 0]] [.box [.st .curs]] (λx y=>(y.1.1,())) Py (λv=>[(true,B5 (.o true) (.o true) v.1)]) (λx y v=>((v.2,()),())) Tryz.func352 (by kernel_rfl) trivial
noncomputable def ab5:=[un,mR,FU,U9,NG,OC,yf,F8,TW]
noncomputable def abG:Fx:=⟨13,Tryz.f13,[(3000002,rA 0 24),(4000000,la ⟨[],[],false,0⟩ ⟨[],[.softb 4 2,.softb 4 9,.softb 4 13,.softb 4 19,.softb 4 20,.softb 4 21],false,0⟩)],0⟩
noncomputable def z8:FT (Stac×Acti×Unit) (Stac×Resu) (λx=>ax x.1∧bq x.2.1) (λx v=>ax v.1∧eb v.2):= .mk λ(x0,x1,_)=>
  .cal pb.c (x0,()) λc1=>
  .bnd (β:=Bool×Unit) (.as (λw=>(w.1=false→x0.door.table.conns.length≤16)) (.cal jL.c (x0,()) λc2=>
   .ite (!c2) (.ret (true,()))<|
   .cal ua.c (x1,()) λc3=>
   .ret ((!c3),()))) λ(u4a0,_)=>
  .ite u4a0 (.ret (c1,(⟨[],0,⟨0,0,0⟩,0,[],false⟩:Resu)))<|
  .ite (x1.kind==1) (.cal va.c (x0,x1.text,()) λc5=>
   .ret (c5.1,(⟨c5.2.1,c5.2.2,⟨0,0,0⟩,0,[],true⟩:Resu)))<|
  .ite (x1.kind==2) (.cal uj.c (x0,()) λc6=>
   .ret (c6.1,(⟨c6.2,0,⟨0,0,0⟩,0,[],true⟩:Resu)))<|
  .ite (x1.kind==3) (.cal uq.c (x0.door,x1.mac,()) λc7=>
   .ret ((⟨c1.link,c7⟩:Stac),(⟨[],0,⟨0,0,0⟩,0,[],true⟩:Resu)))<|
  .ite (x1.kind==4) (.cal lL.c (x0.door.table,()) λc8=>
   .cal Ag.c (c8.1,()) λc9=>
   .ret (({c1 with door.table.conns:=c9.conns,door.table.waiting:=c9.waiting}:Stac),(⟨[],0,c8.2.1,0,[],c8.2.2⟩:Resu)))<|
  .cal Ap.c (c1,x1,()) λc10=>
  .ret (c10.1,c10.2)
noncomputable def EP:=bM st abG ab5 [] (ks:=[.st .stac,.st .acti]) z8 (λv=>[(true,kJ .c .c .c .c .c .c v.1),(true,R2 (.o true) v.2)]) Tryz.func13 trivial
def CM:Sh:=⟨[zl 1 .acti,zp 2 0,zp 4 1,zo 6 2,zi 7],[.box [.st .stac [.sl .any,.sl .any,.sl .any,.sl .any,.sl .any,.sl .any]],.box [.st .stac [.nil .entr,.nil .macRow,.nil .macRow,.nil .half,.nil .conn,.nil .tupl]],za .resu]⟩
noncomputable def k8 (v0:List Acti)(v1:Int)(a:Stac×Stac×List Resu):Tr (Stp (Stac×Stac×List Resu) ((Stac×Stac×List Resu))):=
 .ite (decide (v1<60)) (.grd (cj v0 v1)<|
  .cal z8.c (a.1,(v0.getD v1.toNat (Ty.zero .acti)),()) λc3=>
  .grd (qq a.2.2 1 88)<|
  .ret (.next (c3.1,({a.2.1 with link.cache:=[],door.keys.now.rows:=[],door.keys.before.rows:=[],door.halves:=[],door.table.conns:=[],door.table.waiting:=[]}:Stac),(a.2.2++[c3.2]))))<|
 .ret (.out (a.1,({a.2.1 with link.cache:=[],door.keys.now.rows:=[],door.keys.before.rows:=[],door.halves:=[],door.table.conns:=[],door.table.waiting:=[]}:Stac),a.2.2))
noncomputable def nU:CM.V→qF CM (Stac×Stac×List Resu) (Stac×Stac×List Resu):=λ(v0,v1,v2,v3,v4,_)=>⟨v1,(v2,v3,v4),λv1 a=>(v0,v1,a.1,a.2.1,a.2.2,()),λv1 _=>(decide (v1<(v0.length:Int))),k8 v0,up,1,(Int.toNat ((v0.length:Int)-v1)),.inl,eR,oB (.exit 0) ⟨[zp 2 0,zp 4 1,zu 5,zo 6 2],[.box [.st .stac [.sl .any,.sl .any,.sl .any,.sl .any,.sl .any,.sl .any]],.box [.st .stac [.nil .entr,.nil .macRow,.nil .macRow,.nil .half,.nil .conn,.nil .tupl]],za .resu]⟩ (λp=>(p.1,p.2.1,p.2.2,())) (.exit 0) ⟨[zp 2 0,zp 4 1,zu 5,zo 6 2],[.box [.st .stac [.sl .any,.sl .any,.sl .any,.sl .any,.sl .any,.sl .any]],.box [.st .stac [.nil .entr,.nil .macRow,.nil .macRow,.nil .half,.nil .conn,.nil .tupl]],za .resu]⟩ (λx=>(x.2.1,({x.2.2.1 with link.cache:=[],door.keys.now.rows:=[],door.keys.before.rows:=[],door.halves:=[],door.table.conns:=[],door.table.waiting:=[]}:Stac),x.2.2.2,()))⟩
theorem QM {v0:List Acti}{v1:Int}{v2 v3:Stac}{v4:List Resu}(h0:0≤v1)(h1:(v0.length:Int)≤4611686018427387904)(h2:sL bq v0)(h3:ax v2∧ax v3∧(v4.length:Int)=v1∧cX eb v4):(nU (v0,v1,v2,v3,v4,())).U (v0.length:Int) (λv1 a=>ax a.1∧ax a.2.1∧(a.2.2.length:Int)=v1∧cX eb a.2.2) (λp=>ax p.1∧ax p.2.1∧sL eb p.2.2):=
 iT (a:=(v2,v3,v4)) h0 h1 h3
noncomputable def Jh:FT (Stac×List Acti×Unit) (Stac×List Resu) (λx=>ax x.1∧sL bq x.2.1) (λx v=>ax v.1∧sL eb v.2):=⟨λ(x0,x1,_)=>
  .cal pb.c (x0,()) λc1=>
  .lp (nU (x1,0,c1,(⟨⟨0,0,[]⟩,⟨0,0,⟨0,⟨false,0,0,[]⟩,⟨false,0,0,[]⟩,false⟩,⟨0,0,0,0⟩,[],⟨[],[]⟩,0⟩⟩:Stac),[],())).lp λw4=> .sum w4 (λ(p4a0,_,p4a2)=>
  .ret (p4a0,p4a2))<|
  λ(_,a4_0,_,a4_2)=>
  .ret (a4_0,a4_2),
 λ(x0,x1,_) hp=>by
  refine Tr.C ?_ λ_ _ _=>Tr.L (QM ?_ ?_ ?_ ?_) (λ(a4_0,a4_1,a4_2) _=>Tr.Sr (Tr.R ?_)) (λ(p4a0,p4a1,p4a2) _=>Tr.Sl (Tr.R ?_))
  all_goals ((try simp only[nU,LC.lp,LC.ct,Ct.lp]at*)<;>grind)⟩
noncomputable def aa6:=ez st Tryz.func26 [(0,la ⟨[1,2,4,6,7],[.softb 2 2,.softb 2 9,.softb 2 13,.softb 2 19,.softb 2 20,.softb 2 21],false,0⟩ ⟨[2,4,5,6],[],false,0⟩)] [un,EP] 0 nU (ks:=[.st .stac,.sc (.sl .acti)]) Jh (λv=>[(true,kJ .c .c .c .c .c .c v.1),(false,[sc (.o true) .resu v.2])])
noncomputable def BR:FT (Half×Door×Unit) (Bool) (λx=>aC x.2.1) (λ_ _=>True):= .mk λ(x0,y1,_)=>
  .cal ar.c (y1.table,x0.tuple,()) λc1=>
  .ret (decide (0≤c1))
noncomputable def Q6:=cq st ⟨189,Tryz.f189,[],1⟩ [gz] [] [.st .half,.wr false [.ptr 0]] [.box [.st .door]] (λx y=>(x.1,y.1.1,())) BR rB (λx y v=>((y.1.1,()),())) Tryz.func189 (by kernel_rfl) trivial
noncomputable def iZ:=[Q6]
def cL:Sh:=⟨[zl 0 .half,(1,false,[.fn 189 [0]]),zi 7,zi 8],[.box [.st .door [.sl .any,.sl .any,.sl .any,.sl .any,.sl .any]]]⟩
noncomputable def i2:Fx:=⟨314,Tryz.f314,[(0,la ⟨[0,1,7,8],[.softo 0 6,.softo 0 10,.softo 0 16,.softo 0 17,.softo 0 18],false,1⟩ ⟨[4],[],false,1⟩)],1⟩
noncomputable def gl (v0:List Half)(v3:Door)(v2:Int)(a:Unit):Tr (Stp (Unit) ((Int))):=
 .grd (cj v0 v2)<|
 .cal BR.c ((v0.getD v2.toNat (Ty.zero .half)),v3,()) λc2=>
 .ite c2 (.ret (.out v2))<|
 .ret (.next ())
noncomputable def bD:cL.V→qF cL Unit (Int):=λ(v0,v1,v2,v3,_)=>⟨v2,(),λv2 _=>(v0,v1,v2,v3,()),λv2 _=>(decide (v2<v1)),gl v0 v3,up,1,(Int.toNat (v1-v2)),.inl,eR,oB .ret ⟨[zi 4],[.box [.st .door [.sl .any,.sl .any,.sl .any,.sl .any,.sl .any]]]⟩ (λp=>(p,v3,())) (.exit 0) ⟨[zu 4],[.box [.st .door [.sl .any,.sl .any,.sl .any,.sl .any,.sl .any]]]⟩ (λ_=>(v3,()))⟩
theorem nP:LS Tryz.prog i2 [0] (fv 0 cL bD):=cI st (aH iZ) _ bD [] trivial
theorem nI {v0:List Half}{v1 v2:Int}{v3:Door}(h0:0≤v2)(h1:v1≤4611686018427387904)(h2:sS v0)(h3:aC v3)(h4:v1≤(v0.length:Int)):(bD (v0,v1,v2,v3,())).U v1 (λ_ _=>True) (λp=>v2≤p∧p<v1):=
 iT h0 h1 trivial
noncomputable def fy:FT (List Half×Door×Unit) (Int) (λx=>sS x.1∧aC x.2.1) (λx v=> -1≤v∧v<x.1.length):= .mk (λ(x0,y1_0,_)=>
  .lp (bD (x0,(x0.length:Int),0,y1_0,())).lp λw3=> .sum w3 (λp3a0=>
  .ret p3a0)<|
  λ_=>
  .ret (-1)) (qm @nI)
noncomputable def qf:=cq st i2 iZ [(fv 0 cL bD)] [.sc (.sl .half),.fn 189 [0]] [.box [.st .door]] (λx y=>(x.1,y.1.1,())) fy rI (λx y v=>((y.1.1,()),())) Tryz.func314 (by kernel_rfl) ⟨nP,trivial⟩
noncomputable def de:FT (List Half×Door×Unit) (Bool) (λx=>sS x.1∧aC x.2.1) (λ_ _=>True):= .mk λ(x0,y1_0,_)=>
  .cal fy.c (x0,y1_0,()) λc1=>
  .ret (decide (0≤c1))
noncomputable def nB:=cq st ⟨188,Tryz.f188,[],1⟩ [qf] [] [.sc (.sl .half),.fn 189 [0]] [.box [.st .door]] (λx y=>(x.1,y.1.1,())) de rB (λx y v=>((y.1.1,()),())) Tryz.func188 (by kernel_rfl) trivial
noncomputable def AM:FT (Curs×Unit) (Int×Curs) (λx=>af x.1) (λx v=>af v.2):=⟨λ(y0,_)=>
  .cal aj.c (y0,3,()) λc1=>
  .ite (c1.1==0) (.cal aD.c (c1.2,[0,1,(-1),9,10,999999999999,1000000000000,9223372036854775807,4294967295,4294967296,65535,65536,(-9223372036854775808)],()) λc2=>
   .ret (c2.1,c2.2))<|
  .ite (c1.1==1) (.cal aj.c (c1.2,1000000,()) λc3=>
   .ret ((IntKind.wrap .i64 (c3.1-500000)),c3.2))<|
  .cal aj.c (c1.2,20,()) λc4=>
  .ret (c4.1,c4.2),
 λ(y0,_) hp=>by
  refine Tr.C ?_ λ_ _ _=>Tr.I (λ_=>Tr.C ?_ λ_ _ _=>Tr.R ?_) λ_=>Tr.I (λ_=>Tr.C ?_ λ_ _ _=>Tr.R ?_) λ_=>Tr.C ?_ λ_ _ _=>Tr.R ?_
  all_goals (first|grind|(simp only[sS,List.length_cons,List.length_nil];grind))⟩
noncomputable def zQ:=cq st ⟨318,Tryz.f318,[],1⟩ [az,aJ] [] [.wr false [.ptr 0]] [.box [.st .curs]] (λx y=>(y.1.1,())) AM (λv=>[(false,[.c (.int .i64 v.1)])]) (λx y v=>((v.2,()),())) Tryz.func318 (by kernel_rfl) trivial
noncomputable def y7:FT (Curs×Unit) (Limi×Curs) (λx=>af x.1) (λx v=>af v.2):= .mk λ(y0,_)=>
  .cal aj.c (y0,3,()) λc1=>
  .cal aj.c (c1.2,3,()) λc2=>
  .cal aj.c (c2.2,4,()) λc3=>
  .cal aj.c (c3.2,4,()) λc4=>
  .ret ((⟨(IntKind.wrap .i64 (1+c1.1)),(IntKind.wrap .i64 (1+c2.1)),(IntKind.wrap .i64 (1+c3.1)),c4.1⟩:Limi),c4.2)
noncomputable def Bk:=cq st ⟨353,Tryz.f353,[],1⟩ [az] [] [.wr false [.ptr 0]] [.box [.st .curs]] (λx y=>(y.1.1,())) y7 (λv=>[(true,acw v.1)]) (λx y v=>((v.2,()),())) Tryz.func353 (by kernel_rfl) trivial
noncomputable def Y2:=[bX,CC,GF,CQ,bG,nB]
noncomputable def XS:Fx:=⟨85,Tryz.f85,[(3000001,rA 0 50)],0⟩
noncomputable def bO:FT (Door×Unit) (Bool) (λx=>aC x.1) (λx v=>(v=true→x.1.table.conns.length≤16)):= .mk λ(x0,_)=>
  .bnd (β:=Bool×Unit) (.as (λw=>(w.1=false→0≤x0.keys.epoch∧x0.keys.epoch≤4294967295∧x0.table.conns.length≤16∧x0.table.waiting.length≤16∧x0.halves.length≤64)) (.cal ae.c (x0.port,16,()) λc1=>
   .ite (!c1) (.ret (true,()))<|
   .cal ae.c (x0.clock,32,()) λc2=>
   .ite (!c2) (.ret (true,()))<|
   .cal eg.c (x0.keys,()) λc3=>
   .ite (!c3) (.ret (true,()))<|
   .cal dK.c (x0.table,x0.limits,()) λc4=>
   .ite (!c4) (.ret (true,()))<|
   .cal ff.c (x0.halves,()) λc5=>
   .ite (!c5) (.ret (true,()))<|
   .ite (decide (x0.limits.halves<(x0.halves.length:Int))) (.ret (true,()))<|
   .val (bh.f (x0.chal,0,x0.limits.chal,())) λc6=>
   .ret ((!c6),()))) λ(u7a0,_)=>
  .ite u7a0 (.ret false)<|
  .cal de.c (x0.halves,x0,()) λc8=>
  .ret (!c8)
noncomputable def r8:=bM st XS Y2 [] (ks:=[.st .door]) bO rB Tryz.func85 trivial
noncomputable def abj:=[jR,r8,mM,jF,YP,nY,gz,Ip,UN]
noncomputable def aaz:Fx:=⟨216,Tryz.f216,[(3000002,rA 0 25)],0⟩
noncomputable def lP:FT (Door×Tupl×Segm×Unit) (Door×List Segm) (λx=>aC x.1∧ao x.2.2.1) (λx v=>aC v.1∧sL ao v.2∧v.1.table.conns.length=x.1.table.conns.length):= .mk λ(x0,x1,x2,_)=>
  .cal gt.c (x0,()) λc1=>
  .bnd (β:=Bool×Unit) (.as (λw=>(w.1=false→x0.table.conns.length≤16∧x2.body.length≤1420)) (.cal bO.c (x0,()) λc2=>
   .ite (!c2) (.ret (true,()))<|
   .cal aG.c (x1,()) λc3=>
   .ite (!c3) (.ret (true,()))<|
   .cal ak.c (x2,()) λc4=>
   .ret ((!c4),()))) λ(u5a0,_)=>
  .ite u5a0 (.ret (c1,[]))<|
  .cal eS.c (x0,x1,x2,()) λc6=>
  .cal aX.c (x0.halves,x1,()) λc7=>
  .ite (decide (0≤c7)) (.grd (cj x0.halves c7)<|
   .ite ((x0.halves.getD c7.toNat (Ty.zero .half)).irs != x2.seq) (.ret (c1,[]))<|
   .grd (cj x0.halves c7)<|
   .ret (c1,[({c6 with seq:=(x0.halves.getD c7.toNat (Ty.zero .half)).iss}:Segm)]))<|
  .cal ar.c (x0.table,x1,()) λc8=>
  .ite (decide (c8<0)) (.val (jG.f (x2.opts,())) λc9=>
   .cal oS.c (x0.halves,(⟨x1,c6.seq,x2.seq,c9,0,x2.window⟩:Half),x0.limits.halves,()) λc10=>
   .ret (({c1 with halves:=c10.1}:Door),[c6]))<|
  .ret (c1,[c6])
noncomputable def ZR:=bM st aaz abj [] (ks:=[.st .door,.st .tupl,.st .segm]) lP (λv=>[(true,kF (.o true) (.o true) (.o true) (.o true) (.o true) v.1),(false,[sc (.o true) .segm v.2])]) Tryz.func216 trivial
noncomputable def aak:=[jR,r8,mM,jF,gz,nY,gO,LG,TJ,Ic,Cn,TY,Hx,y6,Dq]
@[reducible] def Bo:An:=⟨⟨[],[],false,0⟩,⟨[3,4,5,6,7,8,9,10,11],[],false,0⟩,⟨[],[]⟩,[(.ret,⟨[zp 3 0,zp 4 1,zp 5 2,zp 6 3,zo 7 4,zi 8,zp 9 5,zp 10 6,zi 11],[.box [.st .door [.sl .arg,.sl .arg,.sl .arg,.sl .arg,.sl .arg]],zx .tupl,zx .segm,.box [.st .door [.own 7,.own 8,.own 9,.own 10,.own 11]],za .segm,.box [.st .door [.own 7,.own 8,.own 9,.own 10,.own 11]],.box [.st .conn [.nil .piec]],zf,zf,zf,zf,zf]⟩),(.ret,⟨[zp 3 0,zp 4 1,zp 5 2,zp 6 3,(7,false,[.nil]),zi 8,zp 9 4,zp 10 5,zi 11],[.box [.st .door [.sl .arg,.sl .arg,.sl .arg,.sl .arg,.sl .arg]],zx .tupl,zx .segm,.box [.st .door [.own 6,.own 7,.own 8,.own 9,.own 10]],.box [.st .door [.own 6,.own 7,.own 8,.own 9,.own 10]],.box [.st .conn [.nil .piec]],zf,zf,zf,zf,zf]⟩),(.normal,⟨[zp 3 0,zp 4 1,zp 5 2,zp 6 3,(7,false,[.nil]),zi 8,zp 9 4,zp 10 5,zi 11],[.box [.st .door [.sl .arg,.sl .arg,.sl .arg,.sl .arg,.sl .arg]],zx .tupl,zx .segm,.box [.st .door [.nil .macRow,.nil .macRow,.nil .half,.nil .conn,.nil .tupl]],.box [.st .door [.own 6,.own 7,.own 8,.own 9,.own 10]],zk .conn 11,zf,zf,zf,zf,zf,zf]⟩)]⟩
noncomputable def aa0:Fx:=⟨217,Tryz.f217,[(1000051,Bo),(3000002,rA 0 44)],0⟩
noncomputable def Jx:FT (Door×Tupl×Segm×Unit) (Door×List Segm×Int) (λx=>aC x.1∧ao x.2.2.1) (λx v=>aC v.1∧sL ao v.2.1∧x.1.table.conns.length≤v.1.table.conns.length):= .mk λ(x0,x1,x2,_)=>
  .cal gt.c (x0,()) λc1=>
  .bnd (β:=Bool×Unit) (.as (λw=>(w.1=false→x0.table.conns.length≤16∧x2.body.length≤1420)) (.cal bO.c (x0,()) λc2=>
   .ite (!c2) (.ret (true,()))<|
   .cal aG.c (x1,()) λc3=>
   .ite (!c3) (.ret (true,()))<|
   .cal ak.c (x2,()) λc4=>
   .ite (!c4) (.ret (true,()))<|
   .cal ar.c (x0.table,x1,()) λc5=>
   .ret ((decide (0≤c5)),()))) λ(u6a0,_)=>
  .ite u6a0 (.ret (c1,[],0))<|
  .cal aX.c (x0.halves,x1,()) λc7=>
  .bnd (β:=WT Bo.es) (.as (Sum.elim (λw=>aC w.2.2.1∧ao w.2.2.2.2.1∧aC w.2.2.2.2.2.1∧sL ao w.2.2.2.2.2.2.1∧aC w.2.2.2.2.2.2.2.1∧ac w.2.2.2.2.2.2.2.2.1∧x0.table.conns.length≤w.2.2.2.2.2.1.table.conns.length) (Sum.elim (λw=>aC w.2.2.1∧ao w.2.2.2.2.1∧aC w.2.2.2.2.2.1∧aC w.2.2.2.2.2.2.1∧ac w.2.2.2.2.2.2.2.1∧x0.table.conns.length≤w.2.2.2.2.2.1.table.conns.length) (λw=>aC w.2.2.1∧ao w.2.2.2.2.1∧aC w.2.2.2.2.2.1∧aC w.2.2.2.2.2.2.1∧ac w.2.2.2.2.2.2.2.1∧w.2.2.1=x0∧x0.table.conns.length≤w.2.2.2.2.2.2.1.table.conns.length))) (.ite (decide (0≤c7)) (.grd (cj x0.halves c7)<|
    .val (bR.f ((x0.halves.getD c7.toNat (Ty.zero .half)).iss,1,())) λc8=>
    .ite (x2.ack != c8) (.cal gk.c (x2,()) λc9=>
     .ret (.inl (0,1,x0,x1,x2,c1,c9,c1,(⟨⟨0,0,0⟩,0,⟨0,[],0,false,false,false⟩,⟨0,[],[],0,false⟩,0,0,⟨0,0,false,false,0,0⟩,0,0⟩:Conn),())))<|
    .val (bR.f ((x0.halves.getD c7.toNat (Ty.zero .half)).irs,1,())) λc10=>
    .ite (x2.seq != c10) (.ret (.inr (.inl (0,1,x0,x1,x2,c1,c1,(⟨⟨0,0,0⟩,0,⟨0,[],0,false,false,false⟩,⟨0,[],[],0,false⟩,0,0,⟨0,0,false,false,0,0⟩,0,0⟩:Conn),()))))<|
    .cal vE.c (x1,(x0.halves.getD c7.toNat (Ty.zero .half)).iss,(x0.halves.getD c7.toNat (Ty.zero .half)).irs,(x0.halves.getD c7.toNat (Ty.zero .half)).opts,x2.window,()) λc11=>
    .ret (.inr (.inr ((0,1,x0,x1,x2,(⟨0,0,⟨0,⟨false,0,0,[]⟩,⟨false,0,0,[]⟩,false⟩,⟨0,0,0,0⟩,[],⟨[],[]⟩,0⟩:Door),c1,c11,())))))<|
   .val (bR.f (x2.seq,(-1),())) λc12=>
   .val (bR.f (x2.ack,(-1),())) λc13=>
   .cal dq.c (x0.keys,x1,c12,c13,()) λc14=>
   .ite (!c14.2.2) (.cal gk.c (x2,()) λc15=>
    .ret (.inl (0,1,x0,x1,x2,c1,c15,c1,(⟨⟨0,0,0⟩,0,⟨0,[],0,false,false,false⟩,⟨0,[],[],0,false⟩,0,0,⟨0,0,false,false,0,0⟩,0,0⟩:Conn),())))<|
   .cal cZ.c (c14.2.1,x2.opts,()) λc16=>
   .cal vE.c (x1,c13,c12,c16,x2.window,()) λc17=>
   .ret (.inr (.inr ((0,2,x0,x1,x2,(⟨0,0,⟨0,⟨false,0,0,[]⟩,⟨false,0,0,[]⟩,false⟩,⟨0,0,0,0⟩,[],⟨[],[]⟩,0⟩:Door),c1,c17,())))))) λw18=> .sum w18 (λ(u18a0,_,_,_,_,u18a5,u18a6,_,_,_)=>
  .ret (u18a5,u18a6,u18a0))<|
  λw18=> .sum w18 (λ(u18b0,_,_,_,_,u18b5,_,_,_)=>
  .ret (u18b5,[],u18b0))<|
  λ(_,u18c1,u18c2,u18c3,u18c4,_,u18c6,u18c7,_)=>
  .cal mI.c (u18c2.table,u18c7,u18c2.limits,()) λc19=>
  .ite (!c19.2) (.ret (u18c6,[],0))<|
  .cal o7.c (u18c7,u18c4,()) λc20=>
  .cal dd.c (c19.1,c20.1,()) λc21=>
  .cal oJ.c (u18c2.halves,u18c3,()) λc22=>
  .ret (({u18c6 with halves:=c22,table.conns:=c21.conns,table.waiting:=c21.waiting}:Door),c20.2.1,u18c1)
noncomputable def ZG:=bM st aa0 aak [] (ks:=[.st .door,.st .tupl,.st .segm]) Jx (λv=>[(true,kF (.o true) (.o true) (.o true) (.o true) (.o true) v.1),(false,[sc (.o true) .segm v.2.1]),(false,[.c (.int .i64 v.2.2)])]) Tryz.func217 trivial
noncomputable def vx:FT (Tupl×Tabl×Unit) (Bool) (λx=>aO x.2.1) (λ_ _=>True):= .mk λ(x0,y1,_)=>
  .cal ar.c (y1,x0,()) λc1=>
  .ret (decide (c1<0))
noncomputable def GR:=cq st ⟨146,Tryz.f146,[],1⟩ [gz] [] [.st .tupl,.wr false [.ptr 0]] [.box [.st .tabl]] (λx y=>(x.1,y.1.1,())) vx rB (λx y v=>((y.1.1,()),())) Tryz.func146 (by kernel_rfl) trivial
noncomputable def gS:=[GR]
def ck:Sh:=⟨[zo 0 0,(1,false,[.fn 146 [1]]),zi 7,zi 8],[.arr .tupl false false,.box [.st .tabl [.sl .any,.sl .any]]]⟩
noncomputable def gX:Fx:=⟨270,Tryz.f270,[(0,la ⟨[0,1,7,8],[.softo 1 0,.softo 1 1],false,2⟩ ⟨[4],[],false,2⟩)],2⟩
noncomputable def fX (v2:List Tupl)(v3:Tabl)(v1:Int)(a:Unit):Tr (Stp (Unit) ((Int))):=
 .grd (cj v2 v1)<|
 .cal vx.c ((v2.getD v1.toNat (Ty.zero .tupl)),v3,()) λc2=>
 .ite c2 (.ret (.out v1))<|
 .ret (.next ())
noncomputable def bt:ck.V→qF ck Unit (Int):=λ(v0,v1,v2,v3,_)=>⟨v1,(),λv1 _=>(v0,v1,v2,v3,()),λv1 _=>(decide (v1<v0)),fX v2 v3,up,1,(Int.toNat (v0-v1)),.inl,eR,oB .ret ⟨[zi 4],[.arr .tupl false false,.box [.st .tabl [.sl .any,.sl .any]]]⟩ (λp=>(p,v2,v3,())) (.exit 0) ⟨[zu 4],[.arr .tupl false false,.box [.st .tabl [.sl .any,.sl .any]]]⟩ (λ_=>(v2,v3,()))⟩
theorem mw:LS Tryz.prog gX [0] (fv 0 ck bt):=cI st (aH gS) _ bt [] trivial
theorem mA {v0 v1:Int}{v2:List Tupl}{v3:Tabl}(h0:0≤v1)(h1:v0≤4611686018427387904)(h2:sS v2)(h3:aO v3)(h4:v0≤(v2.length:Int)):(bt (v0,v1,v2,v3,())).U v0 (λ_ _=>True) (λp=>v1≤p∧p<v0):=
 iT h0 h1 trivial
noncomputable def dg:FT (List Tupl×Tabl×Unit) (Int) (λx=>sS x.1∧aO x.2.1) (λx v=> -1≤v∧v<x.1.length):= .mk (λ(x0,y1_0,_)=>
  .lp (bt ((x0.length:Int),0,x0,y1_0,())).lp λw3=> .sum w3 (λp3a0=>
  .ret p3a0)<|
  λ_=>
  .ret (-1)) (qm @mA)
noncomputable def oz:=cq st gX gS [(fv 0 ck bt)] [.wr false [.own 0],.fn 146 [1]] [.arr .tupl,.box [.st .tabl]] (λx y=>(y.1,y.2.1.1,())) dg rI (λx y v=>(y.1,(y.2.1.1,()),())) Tryz.func270 (by kernel_rfl) ⟨mw,trivial⟩
noncomputable def be:FT (Stac×Unit) (Bool) (λx=>ax x.1) (λx v=>(v=true→x.1.door.table.conns.length≤16)):= .mk λ(x0,_)=>
  .cal dV.c (x0.link,()) λc1=>
  .ite c1 (.cal bO.c (x0.door,()) λc2=>
   .ret c2)<|
  .ret false
noncomputable def qk:=a9 st Tryz.func20 [Cq,r8] (ks:=[.st .stac]) be rB
noncomputable def abs:=[jR,r8,bX,jF,Wc,LG,gz,Hx,y6,Ai,nY,gO,Dq,ZR,ZG]
@[reducible] def BM:An:=⟨⟨[],[],false,0⟩,⟨[3,6,7,8,9,12,13],[],false,0⟩,⟨[],[]⟩,[(.normal,⟨[zp 3 0,zp 6 1,(7,false,[.nil]),zi 8,zp 9 2,zp 12 3,(13,false,[.nil])],[.box [.st .door [.sl .arg,.sl .arg,.sl .arg,.sl .arg,.sl .arg]],.box [.st .door [.nil .macRow,.nil .macRow,.nil .half,.nil .conn,.nil .tupl]],.box [.st .door [.own 4,.own 5,.own 6,.own 7,.own 8]],zk .conn 9,zf,zf,zf,zf,zf,zf]⟩),(.normal,⟨[zp 3 0,zp 6 1,(7,false,[.nil]),zi 8,zp 9 2,zp 12 3,zo 13 4],[.box [.st .door [.sl .arg,.sl .arg,.sl .arg,.sl .arg,.sl .arg]],.box [.st .door [.nil .macRow,.nil .macRow,.nil .half,.nil .conn,.nil .tupl]],.box [.st .door [.own 5,.own 6,.own 7,.own 8,.own 9]],zk .conn 10,za .segm,zf,zf,zf,zf,zf,zf]⟩)]⟩
noncomputable def abx:Fx:=⟨106,Tryz.f106,[(1000064,BM),(3000002,rA 0 32),(3000018,rA 0 102),(3000021,rA 0 109),(3000024,rA 0 131)],0⟩
noncomputable def Jm:FT (Door×Int×Segm×Unit) (Door×List Segm×Int) (λx=>aC x.1∧ao x.2.2.1) (λx v=>aC v.1∧sL ao v.2.1∧x.1.table.conns.length≤v.1.table.conns.length):= .mk λ(x0,x1,x2,_)=>
  .cal gt.c (x0,()) λc1=>
  .bnd (β:=Bool×Unit) (.as (λw=>(w.1=false→x0.table.conns.length≤16∧x2.body.length≤1420)) (.cal bO.c (x0,()) λc2=>
   .ite (!c2) (.ret (true,()))<|
   .cal ae.c (x1,32,()) λc3=>
   .ite (!c3) (.ret (true,()))<|
   .cal ak.c (x2,()) λc4=>
   .ret ((!c4),()))) λ(u5a0,_)=>
  .ite u5a0 (.ret (c1,[],0))<|
  .val (Af.f (x1,x2,())) λc6=>
  .ite (x2.to != x0.port) (.cal gk.c (x2,()) λc7=>
   .ret (c1,c7,0))<|
  .cal ar.c (x0.table,c6,()) λc8=>
  .ite (decide (0≤c8)) (.grd (cj x0.table.conns c8)<|
   .cal o7.c ((x0.table.conns.getD c8.toNat (Ty.zero .conn)),x2,()) λc9=>
   .bnd (β:=WT BM.es) (.as (Sum.elim (λw=>aC w.2.1∧aC w.2.2.1∧aC w.2.2.2.1∧ac w.2.2.2.2.1∧w.2.1=x0) (λw=>aC w.2.1∧aC w.2.2.1∧aC w.2.2.2.1∧ac w.2.2.2.2.1∧sL ao w.2.2.2.2.2.1∧w.2.1=x0)) (.ite (c9.2.2==3) (.ite (x0.chal==x0.limits.chal) (.ret (.inl (0,x0,(⟨0,0,⟨0,⟨false,0,0,[]⟩,⟨false,0,0,[]⟩,false⟩,⟨0,0,0,0⟩,[],⟨[],[]⟩,0⟩:Door),c1,c9.1,())))<|
     .ret (.inr ((0,x0,(⟨0,0,⟨0,⟨false,0,0,[]⟩,⟨false,0,0,[]⟩,false⟩,⟨0,0,0,0⟩,[],⟨[],[]⟩,0⟩:Door),({c1 with chal:=(IntKind.wrap .i64 (c1.chal+1))}:Door),c9.1,c9.2.1,()))))<|
    .ret (.inr ((0,x0,(⟨0,0,⟨0,⟨false,0,0,[]⟩,⟨false,0,0,[]⟩,false⟩,⟨0,0,0,0⟩,[],⟨[],[]⟩,0⟩:Door),c1,c9.1,c9.2.1,()))))) λw10=> .sum w10 (λ(_,u10a1,_,u10a3,u10a4,_)=>
   .cal dd.c (u10a1.table,u10a4,()) λc11=>
   .ret (({u10a3 with table.conns:=c11.conns,table.waiting:=c11.waiting}:Door),[],0))<|
   λ(_,u10b1,_,u10b3,u10b4,u10b5,_)=>
   .cal dd.c (u10b1.table,u10b4,()) λc12=>
   .ret (({u10b3 with table.conns:=c12.conns,table.waiting:=c12.waiting}:Door),u10b5,0))<|
  .val (bH.f (x2,4,())) λc13=>
  .ite c13 (.cal aX.c (x0.halves,c6,()) λc14=>
   .bnd (β:=Bool×Unit) (.ite (decide (0≤c14)) (.grd (cj x0.halves c14)<|
     .val (bR.f ((x0.halves.getD c14.toNat (Ty.zero .half)).irs,1,())) λc15=>
     .ret ((x2.seq==c15),()))<|
    .ret (false,())) λ(u16a0,_)=>
   .ite u16a0 (.cal oJ.c (x0.halves,c6,()) λc17=>
    .ret (({c1 with halves:=c17}:Door),[],0))<|
   .ret (c1,[],0))<|
  .bnd (β:=Bool×Unit) (.val (bH.f (x2,2,())) λc18=>
   .ite c18 (.val (bH.f (x2,16,())) λc19=>
    .ite (!c19) (.val (bH.f (x2,1,())) λc20=>
     .ret ((!c20),()))<|
    .ret (false,()))<|
   .ret (false,())) λ(u21a0,_)=>
  .ite u21a0 (.cal lP.c (x0,c6,x2,()) λc22=>
   .ret (c22.1,c22.2,0))<|
  .bnd (β:=Bool×Unit) (.val (bH.f (x2,16,())) λc23=>
   .ite c23 (.val (bH.f (x2,2,())) λc24=>
    .ret ((!c24),()))<|
   .ret (false,())) λ(u25a0,_)=>
  .ite u25a0 (.cal Jx.c (x0,c6,x2,()) λc26=>
   .ret (c26.1,c26.2.1,c26.2.2))<|
  .val (bH.f (x2,16,())) λc27=>
  .ite c27 (.cal gk.c (x2,()) λc28=>
   .ret (c1,c28,0))<|
  .ret (c1,[],0)
noncomputable def aa2:=bM st abx abs [] (ks:=[.st .door,.sc (.int .i64),.st .segm]) Jm (λv=>[(true,kF (.o true) (.o true) (.o true) (.o true) (.o true) v.1),(false,[sc (.o true) .segm v.2.1]),(false,[.c (.int .i64 v.2.2)])]) Tryz.func106 trivial
noncomputable def iK:=[oz,GR]
def cA:Sh:=⟨[zo 0 0,(1,false,[.fn 146 [1]]),zi 5,zi 6],[.arr .tupl false false,.box [.st .tabl [.sl .any,.sl .any]]]⟩
noncomputable def iO:Fx:=⟨145,Tryz.f145,[(0,la ⟨[0,1,5,6],[],false,2⟩ ⟨[0,4,5],[],false,2⟩)],2⟩
noncomputable def dM (v3:Tabl)(v1:Int)(a:Int×List Tupl):Tr (Stp (Int×List Tupl) (Empty)):=
 .grd (cj a.2 v1)<|
 .cal vx.c ((a.2.getD v1.toNat (Ty.zero .tupl)),v3,()) λc2=>
 .ite (!c2) (.grd (cj a.2 a.1)<|
  .ret (.next ((IntKind.wrap .i64 (a.1+1)),(a.2.set a.1.toNat (a.2.getD v1.toNat (Ty.zero .tupl))))))<|
 .ret (.next (a.1,a.2))
noncomputable def aE:cA.V→qc cA (Int×List Tupl):=λ(v0,v1,v2,v3,_)=>⟨v1,(v0,v2),λv1 a=>(a.1,v1,a.2,v3,()),λv1 a=>(decide (v1<(a.2.length:Int))),dM v3,up,1,(Int.toNat ((v2.length:Int)-v1)),Empty.elim,Prod.mk,oN (.exit 0) ⟨[zo 0 0,zu 4,zi 5],[.arr .tupl false false,.box [.st .tabl [.sl .any,.sl .any]]]⟩ (λx=>(x.2.1,x.2.2,v3,()))⟩
theorem m6:LS Tryz.prog iO [0] (fv 0 cA aE):=cI st (aH iK) _ aE [] trivial
theorem mZ {v0 v1:Int}{v2:List Tupl}{v3:Tabl}(h0:0≤v1)(h1:(v2.length:Int)≤4611686018427387904)(h2:aO v3)(h3:sS v2)(h4:v2.length=v2.length∧0≤v0∧v0<v1∧v0<v2.length):(aE (v0,v1,v2,v3,())).S (λv1 a=>a.2.length=v2.length∧a.2.length=v2.length∧0≤a.1∧a.1<v1∧a.1<a.2.length) (λ_=>True):=by
 refine LC.okS ⟨rfl,h4⟩ (λj a hj hv=>⟨⟨?_, ?_⟩, ?_⟩) (λa hv=> ?_)
 ·simp only[aE,decide_eq_true_eq]at*;omega
 ·simp only[aE]at*;exact upw (by omega) (by omega)
 ·refine Tr.G2 ?_ λ_=>Tr.C ?_ λ_ _ _=>Tr.I (λ_=>Tr.G2 ?_ λ_=>Tr.Rn ?_) λ_=>Tr.Rn ?_
  all_goals (try simp only[aE]at*)<;>(grind)
 ·simp only[aE,decide_eq_false_iff_not]at*;omega
noncomputable def cy:FT (List Tupl×Tabl×Unit) (Nat×List Tupl) (λx=>sS x.1∧aO x.2.1) (λx v=>sS v.2∧v.1≤x.1.length∧v.2.length=x.1.length):=⟨λ(x0,y1_0,_)=>
  .cal dg.c (x0,y1_0,()) λc1=>
  .ite (c1==(-1)) (.ret (x0.length,x0))<|
  .lp (aE (c1,(IntKind.wrap .i64 (c1+1)),x0,y1_0,())).lp λ(_,a3_0,a3_1)=>
  .grd (JQ a3_1 a3_0 (a3_1.length:Int))<|
  .val ((a3_1.take a3_0.toNat++List.replicate ((a3_1.length:Int).toNat-a3_0.toNat) (Ty.zero .tupl))++a3_1.drop ((a3_1.length:Int).toNat)) λl4=>
  .grd ((decide (0≤a3_0))&&(decide (a3_0≤(l4.length:Int))))<|
  .ret (a3_0.toNat,l4),
 λ(x0,y1_0,_) hp=>by
  refine Tr.C ?_ λ_ _ _=>Tr.I (λ_=>Tr.R ?_) λ_=>Tr.L (mZ ?_ ?_ ?_ ?_ ?_) (λ(a3_0,a3_1) _=>Tr.G3 ?_ λ_=>Tr.V λ_ _=>Tr.G2 ?_ λ_=>Tr.R ?_) (λp=>Empty.elim p)
  all_goals ((try simp only[aE,LC.lp,LC.ct,Ct.lp]at*)<;>grind)⟩
noncomputable def oZ:=cq st iO iK [(fv 0 cA aE)] [.wr false [.own 0],.fn 146 [1]] [.arr .tupl,.box [.st .tabl]] (λx y=>(y.1,y.2.1.1,())) cy (λv=>[(false,[.shr 0 v.1])]) (λx y v=>(v.2,(y.2.1.1,()),())) Tryz.func145 (by kernel_rfl) ⟨m6,trivial⟩
noncomputable def JM:=[bP,aJ,we]
def pT:Sh:=⟨[zp 0 0,zi 3,zi 4],[.box [.st .curs [.sl .any]]]⟩
noncomputable def Nz:Fx:=⟨319,Tryz.f319,[(0,la ⟨[0,3,4],[],false,1⟩ ⟨[2,3],[],false,1⟩)],1⟩
noncomputable def N8 (v1:Int)(a:Int×Curs):Tr (Stp (Int×Curs) (Empty)):=
 .cal nl.c (a.2,()) λc3=>
 .ret (.next ((IntKind.wrap .i64 ((IntKind.wrap .i64 (256*a.1))+c3.1)),c3.2))
noncomputable def jU:pT.V→qc pT (Int×Curs):=λ(v0,v1,v2,_)=>⟨v1,(v0,v2),λv1 a=>(a.1,v1,a.2,()),λv1 _=>(decide (v1<4)),N8,up,1,(Int.toNat (4-v1)),Empty.elim,Prod.mk,oN (.exit 0) ⟨[zu 2,zi 3],[.box [.st .curs [.sl .any]]]⟩ (λx=>(x.2.1,x.2.2,()))⟩
theorem Oj:LS Tryz.prog Nz [0] (fv 0 pT jU):=cI st (aH JM) _ jU [] trivial
theorem OH {v0 v1:Int}{v2:Curs}(h0:0≤v1)(h1:af v2):(jU (v0,v1,v2,())).U 4 (λv1 a=>af a.2) (λ_=>True):=
 iT (a:=(v0,v2)) h0 (by decide) h1
noncomputable def kp:FT (Curs×Unit) (Int×Curs) (λx=>af x.1) (λx v=>af v.2):=⟨λ(y0,_)=>
  .cal ba.c (y0,3,()) λc1=>
  .ite c1.1 (.cal aD.c (c1.2,[0,1,4294967295,2147483647,2147483648,4294967294],()) λc2=>
   .ret (c2.1,c2.2))<|
  .lp (jU (0,0,c1.2,())).lp λ(_,a4_0,a4_1)=>
  .ret (a4_0,a4_1),
 λ(y0,_) hp=>by
  refine Tr.C ?_ λ_ _ _=>Tr.I (λ_=>Tr.C ?_ λ_ _ _=>Tr.R ?_) λ_=>Tr.L (OH ?_ ?_) (λ(a4_0,a4_1) _=>Tr.R ?_) (λp=>Empty.elim p)
  all_goals ((try simp only[jU,LC.lp,LC.ct,Ct.lp]at*)<;>grind)⟩
noncomputable def mp:=cq st Nz JM [(fv 0 pT jU)] [.wr false [.ptr 0]] [.box [.st .curs]] (λx y=>(y.1.1,())) kp (λv=>[(false,[.c (.int .i64 v.1)])]) (λx y v=>((v.2,()),())) Tryz.func319 (by kernel_rfl) ⟨Oj,trivial⟩
noncomputable def Aw:FT (Stac×aa×Unit) (Stac×List aa×Int) (λx=>ax x.1∧sS x.2.1) (λx v=>ax v.1∧sL sS v.2.1):= .mk λ(x0,x1,_)=>
  .cal jz.c (x0,()) λc1=>
  .cal be.c (x0,()) λc2=>
  .ite (!c2) (.ret (c1,[],0))<|
  .cal bJ.c (x0.link,x1,()) λc3=>
  .ite (c3.2.1==1) (.ret (({c1 with link.mac:=c3.1.mac,link.ip:=c3.1.ip,link.cache:=c3.1.cache}:Stac),[c3.2.2.2],0))<|
  .ite (c3.2.1 != 2) (.ret (({c1 with link.mac:=c3.1.mac,link.ip:=c3.1.ip,link.cache:=c3.1.cache}:Stac),[],0))<|
  .cal cD.c (c3.2.2.1.body,c3.2.2.1.src,c3.2.2.1.dst,()) λc4=>
  .ite (!c4.2) (.ret (({c1 with link.mac:=c3.1.mac,link.ip:=c3.1.ip,link.cache:=c3.1.cache}:Stac),[],0))<|
  .cal Jm.c (x0.door,c3.2.2.1.src,c4.1,()) λc5=>
  .cal rC.c ((⟨c3.1,c5.1⟩:Stac),c3.2.2.1.src,c5.2.1,()) λc6=>
  .ret ((⟨c3.1,c5.1⟩:Stac),c6,c5.2.2)
noncomputable def Vw:=a9 st Tryz.func54 [od,qk,WS,IU,aa2,zr] (ks:=[.st .stac,.sc .str]) Aw (λv=>[(true,kJ (.o true) (.o true) (.o true) (.o true) (.o true) (.o true) v.1),(false,[sc (.o true) .str v.2.1]),(false,[.c (.int .i64 v.2.2)])])
noncomputable def tU:FT (Tabl×Unit) (Tabl) (λx=>aO x.1) (λx v=>aO v):= .mk λ(x0,_)=>
  .cal fC.c (x0,()) λc1=>
  .cal cM.c (c1.conns,x0,()) λc2=>
  .cal cy.c (c1.waiting,x0,()) λc3=>
  .ret (⟨(c2.2.take c2.1),(c3.2.take c3.1)⟩:Tabl)
noncomputable def Pl:=a9 st Tryz.func58 [kw,p7,oZ] (ks:=[.st .tabl]) tU (λv=>[(true,qw (.o false) (.o true) v)])
noncomputable def wZ:=[jR,r8,gO,KP,RY,Pl]
def j4:Sh:=⟨[zp 2 0,zp 4 1,zo 5 2,zp 7 3,zl 30 .conn,zi 31,zi 32,zo 48 4,zi 49,zi 50],[.box [.st .door [.nil .macRow,.nil .macRow,.nil .half,.nil .conn,.nil .tupl]],.box [.st .door [.own 5,.own 6,.own 7,.own 8,.own 9]],za .mail,zg .conn,za .segm,zf,zf,zf,zf,zf]⟩
def mi:Sh:=⟨[zp 2 0,zp 4 1,zo 5 2,zl 30 .conn,zi 31,zi 32],[.box [.st .door [.nil .macRow,.nil .macRow,.nil .half,.nil .conn,.nil .tupl]],.box [.st .door [.own 3,.own 4,.own 5,.own 6,.own 7]],za .mail,zf,zf,zf,zf,zf]⟩
noncomputable def wK:Fx:=⟨140,Tryz.f140,[(2,lb [2,4,5,7,30,31,32,48,49,50] [2,3,4,5,30,31,32]),(0,lb [2,4,5,30,31,32] [2,3,4,5]),(4000000,la ⟨[],[],false,0⟩ ⟨[],[.softb 2 17],false,0⟩)],0⟩
noncomputable def nt (vb8:Conn)(vb9:List Segm)(vb4:Int)(a:Door×List Mail):Tr (Stp (Door×List Mail) (Empty)):=
 .grd (cj vb9 vb4)<|
 .grd (qq a.2 1 112)<|
 .ret (.next (({a.1 with keys.now.rows:=[],keys.before.rows:=[],halves:=[],table.conns:=[],table.waiting:=[]}:Door),(a.2++[(⟨vb8.tuple.ip,(vb9.getD vb4.toNat (Ty.zero .segm))⟩:Mail)])))
noncomputable def dN:j4.V→qc j4 (Door×List Mail):=λ(vb0,vb1,vb2,vb3,vb4,vb5,vb6,vb7,vb8,vb9,_)=>⟨vb4,(vb5,vb7),λvb4 a=>(vb0,vb1,vb2,vb3,vb4,a.1,vb6,a.2,vb8,vb9,()),λvb4 _=>(decide (vb4<vb3)),nt vb8 vb9,up,1,(Int.toNat (vb3-vb4)),Empty.elim,Prod.mk,oN (.exit 2) ⟨[zp 2 0,zu 3,zp 4 1,zo 5 2,zl 30 .conn,zi 31,zi 32],[.box [.st .door [.nil .macRow,.nil .macRow,.nil .half,.nil .conn,.nil .tupl]],.box [.st .door [.own 3,.own 4,.own 5,.own 6,.own 7]],za .mail,zf,zf,zf,zf,zf]⟩ (λx=>(vb0,vb1,vb2,({x.2.1 with keys.now.rows:=[],keys.before.rows:=[],halves:=[],table.conns:=[],table.waiting:=[]}:Door),vb6,x.2.2,()))⟩
theorem Di:LS Tryz.prog wK [0,0] (fv 2 j4 dN):=cI st (aH wZ) _ dN [] trivial
theorem DI {vb0:List Conn}{vb1 vb2 vb3 vb4:Int}{vb5 vb6:Door}{vb7:List Mail}{vb8:Conn}{vb9:List Segm}(h0:0≤vb4)(h1:vb3≤4611686018427387904)(h2:vb9.length≤49)(h3:vb7.length≤1000)(h4:ac vb8)(h5:sL ao vb9)(h6:vb3≤(vb9.length:Int))(h7:aC vb5∧(vb7.length:Int)≤vb7.length+vb4∧cX pR vb7):(dN (vb0,vb1,vb2,vb3,vb4,vb5,vb6,vb7,vb8,vb9,())).U vb3 (λvb4 a=>aC a.1∧(a.2.length:Int)≤vb7.length+vb4∧cX pR a.2) (λ_=>True):=
 iT (a:=(vb5,vb7)) h0 h1 h7
noncomputable def qs (v0:List Conn)(v1:Int)(v2:Int)(a:Door×Door×List Mail):Tr (Stp (Door×Door×List Mail) (Empty)):=
 .grd (cj v0 v2)<|
 .cal wB.c ((v0.getD v2.toNat (Ty.zero .conn)),()) λc5=>
 .grd (cj a.2.1.table.conns v2)<|
 .lp (dN (v0,v1,v2,(c5.2.length:Int),0,({a.1 with keys.now.rows:=[],keys.before.rows:=[],halves:=[],table.conns:=[],table.waiting:=[]}:Door),({a.2.1 with table.conns:=(a.2.1.table.conns.set v2.toNat c5.1)}:Door),a.2.2,(v0.getD v2.toNat (Ty.zero .conn)),c5.2,())).lp λ(_,a6_0,a6_1)=>
 .ret (.next (({({a6_0 with keys.now.rows:=[],keys.before.rows:=[],halves:=[],table.conns:=[],table.waiting:=[]}:Door)with keys.now.rows:=[],keys.before.rows:=[],halves:=[],table.conns:=[],table.waiting:=[]}:Door),({a.2.1 with table.conns:=(a.2.1.table.conns.set v2.toNat c5.1)}:Door),a6_1))
noncomputable def fu:mi.V→qc mi (Door×Door×List Mail):=λ(v0,v1,v2,v3,v4,v5,_)=>⟨v2,(v3,v4,v5),λv2 a=>(v0,v1,v2,a.1,a.2.1,a.2.2,()),λv2 _=>(decide (v2<v1)),qs v0 v1,up,1,(Int.toNat (v1-v2)),Empty.elim,Prod.mk,oN (.exit 0) ⟨[zp 2 0,zu 3,zp 4 1,zo 5 2],[.box [.st .door [.nil .macRow,.nil .macRow,.nil .half,.nil .conn,.nil .tupl]],.box [.st .door [.own 3,.own 4,.own 5,.own 6,.own 7]],za .mail,zf,zf,zf,zf,zf]⟩ (λx=>(({x.2.1 with keys.now.rows:=[],keys.before.rows:=[],halves:=[],table.conns:=[],table.waiting:=[]}:Door),x.2.2.1,x.2.2.2,()))⟩
theorem Io:LS Tryz.prog wK [0] (fv 0 mi fu):=cI st (aH wZ) _ fu [(fv 2 j4 dN)] ⟨Di,trivial⟩
theorem H4 {v0:List Conn}{v1 v2:Int}{v3 v4:Door}{v5:List Mail}(h0:0≤v2)(h1:v1≤4611686018427387904)(h2:v1≤16)(h3:sL ac v0)(h4:sL bk v4.keys.now.rows)(h5:sL bk v4.keys.before.rows)(h6:sS v4.halves)(h7:sL ac v4.table.conns)(h8:sS v4.table.waiting)(h9:v1≤(v0.length:Int))(h10:aC v3∧v4.keys.now.rows.length=v4.keys.now.rows.length∧cX bk v4.keys.now.rows∧v4.keys.before.rows.length=v4.keys.before.rows.length∧cX bk v4.keys.before.rows∧v4.halves.length=v4.halves.length∧v4.table.conns.length=v4.table.conns.length∧cX ac v4.table.conns∧v4.table.waiting.length=v4.table.waiting.length∧sL pR v5∧(v5.length:Int)≤49*v2∧v1≤(v4.table.conns.length:Int)):(fu (v0,v1,v2,v3,v4,v5,())).U v1 (λv2 a=>aC a.1∧a.2.1.keys.now.rows.length=v4.keys.now.rows.length∧cX bk a.2.1.keys.now.rows∧a.2.1.keys.before.rows.length=v4.keys.before.rows.length∧cX bk a.2.1.keys.before.rows∧a.2.1.halves.length=v4.halves.length∧a.2.1.table.conns.length=v4.table.conns.length∧cX ac a.2.1.table.conns∧a.2.1.table.waiting.length=v4.table.waiting.length∧sL pR a.2.2∧(a.2.2.length:Int)≤49*v2∧v1≤(a.2.1.table.conns.length:Int)) (λ_=>True):=
 LC.okU (i:=v2) (a:=(v3,v4,v5)) (λ_ _=>rfl) (λ_=>rfl) rfl h0 h1 h10 λv2 (v3,v4,v5) hj hk hv=>by
  refine Tr.G2 ?_ λ_=>Tr.C ?_ λ_ _ _=>Tr.G2 ?_ λ_=>Tr.L (DI ?_ ?_ ?_ ?_ ?_ ?_ ?_ ?_) (λ(a6_0,a6_1) _=>Tr.Rn ?_) (λp=>Empty.elim p)
  all_goals ((try simp only[dN,LC.lp,LC.ct,Ct.lp]at*)<;>grind)
noncomputable def wj:FT (Door×Unit) (Door×List Mail) (λx=>aC x.1) (λx v=>aC v.1∧sL pR v.2):=⟨λ(x0,_)=>
  .cal gt.c (x0,()) λc1=>
  .cal bO.c (x0,()) λc2=>
  .ite (!c2) (.ret (c1,[]))<|
  .val (bR.f (x0.clock,1,())) λc3=>
  .cal rq.c (x0.halves,()) λc4=>
  .lp (fu (x0.table.conns,(x0.table.conns.length:Int),0,(⟨0,0,⟨0,⟨false,0,0,[]⟩,⟨false,0,0,[]⟩,false⟩,⟨0,0,0,0⟩,[],⟨[],[]⟩,0⟩:Door),({c1 with clock:=c3,halves:=c4,chal:=0}:Door),[],())).lp λ(_,_,a7_1,a7_2)=>
  .cal tU.c (a7_1.table,()) λc8=>
  .ret (({a7_1 with table.conns:=c8.conns,table.waiting:=c8.waiting}:Door),a7_2),
 λ(x0,_) hp=>by
  refine Tr.C ?_ λ_ _ _=>Tr.C ?_ λ_ _ _=>Tr.I (λ_=>Tr.R ?_) λ_=>Tr.V λ_ _=>Tr.C ?_ λ_ _ _=>Tr.L (H4 ?_ ?_ ?_ ?_ ?_ ?_ ?_ ?_ ?_ ?_ ?_) (λ(a7_0,a7_1,a7_2) _=>Tr.C ?_ λ_ _ _=>Tr.R ?_) (λp=>Empty.elim p)
  all_goals ((try simp only[fu,LC.lp,LC.ct,Ct.lp]at*)<;>grind)⟩
noncomputable def RF:=bM st wK wZ [(fv 0 mi fu)] (ks:=[.st .door]) wj (λv=>[(true,kF (.o true) (.o true) (.o true) .c (.o true) v.1),(false,[sc (.o true) .mail v.2])]) Tryz.func140 ⟨Io,trivial⟩
noncomputable def P9:FT (Curs×Unit) (Int×Curs) (λx=>af x.1) (λx v=>af v.2):= .mk λ(y0,_)=>
  .cal ba.c (y0,12,()) λc1=>
  .ite c1.1 (.cal AM.c (c1.2,()) λc2=>
   .ret (c2.1,c2.2))<|
  .cal kp.c (c1.2,()) λc3=>
  .ret (c3.1,c3.2)
noncomputable def VM:=cq st ⟨200,Tryz.f200,[],1⟩ [bP,zQ,mp] [] [.wr false [.ptr 0]] [.box [.st .curs]] (λx y=>(y.1.1,())) P9 (λv=>[(false,[.c (.int .i64 v.1)])]) (λx y v=>((v.2,()),())) Tryz.func200 (by kernel_rfl) trivial
noncomputable def N4:=[eC,bP,aJ,az,mp]
def FE:An:=⟨⟨[],[],false,1⟩,⟨[0,2,3],[],false,1⟩,⟨[],[]⟩,[(.normal,⟨[zp 0 0,zp 2 1,zp 3 2],[.box [.st .curs [.sl .any]],zx .opti,zx .opti]⟩)]⟩
def DZ:An:=⟨⟨[],[],false,1⟩,⟨[0,2,3],[],false,1⟩,⟨[],[]⟩,[(.normal,⟨[zp 0 0,zp 2 1,zp 3 2],[.box [.st .curs [.sl .any]],zx .opti,zx .opti]⟩)]⟩
noncomputable def Og:Fx:=⟨433,Tryz.f433,[(1000007,FE),(1000013,DZ)],1⟩
noncomputable def p6:FT (Curs×Unit) (Opti×Curs) (λx=>af x.1) (λx v=>af v.2):= .mk λ(y0,_)=>
  .val (bU.f (())) λc1=>
  .cal ba.c (y0,3,()) λc2=>
  .bnd (β:=Curs×Opti×Opti×Unit) (.as (λw=>af w.1) (.ite (!c2.1) (.cal aD.c (c2.2,[536,1460,1300,64,65535,1],()) λc3=>
    .ret (c3.2,(⟨0,0,false,false,0,0⟩:Opti),({c1 with mss:=c3.1}:Opti),()))<|
   .ret (c2.2,(⟨0,0,false,false,0,0⟩:Opti),c1,()))) λ(u4a0,u4a1,u4a2,_)=>
  .cal ba.c (u4a0,2,()) λc5=>
  .bnd (β:=Curs×Opti×Opti×Unit) (.as (λw=>af w.1) (.ite c5.1 (.cal aj.c (c5.2,15,()) λc6=>
    .ret (c6.2,u4a1,({u4a2 with scale:=c6.1}:Opti),()))<|
   .ret (c5.2,u4a1,u4a2,()))) λ(u7a0,_,u7a2,_)=>
  .cal ba.c (u7a0,2,()) λc8=>
  .cal ba.c (c8.2,2,()) λc9=>
  .ite c9.1 (.cal kp.c (c9.2,()) λc10=>
   .cal kp.c (c10.2,()) λc11=>
   .ret ((⟨u7a2.mss,u7a2.scale,c8.1,true,c10.1,c11.1⟩:Opti),c11.2))<|
  .ret (({u7a2 with sack:=c8.1}:Opti),c9.2)
noncomputable def px:=cq st Og N4 [] [.wr false [.ptr 0]] [.box [.st .curs]] (λx y=>(y.1.1,())) p6 (λv=>[(true,oI v.1)]) (λx y v=>((v.2,()),())) Tryz.func433 (by kernel_rfl) trivial
def vK:Sh:=⟨[zp 1 0,zp 2 1,zp 4 2,zo 7 3,zo 31 4,zi 32,zi 33],[.box [.st .stac [.sl .arg,.sl .arg,.sl .arg,.sl .arg,.sl .arg,.sl .arg]],.box [.st .stac [.nil .entr,.nil .macRow,.nil .macRow,.nil .half,.nil .conn,.nil .tupl]],.box [.st .stac [.own 5,.own 6,.own 7,.own 8,.sl .any,.own 9]],za .str,za .mail,zf,zf,zf,zf,zf]⟩
noncomputable def pe (v2:Stac)(v6:List Mail)(v1:Int)(a:Stac×List aa):Tr (Stp (Stac×List aa) (Empty)):=
 .grd (cj v6 v1)<|
 .cal rC.c (v2,(v6.getD v1.toNat (Ty.zero .mail)).ip,[(v6.getD v1.toNat (Ty.zero .mail)).g],()) λc5=>
 .grd (Nat.ble ((2*(a.2.length+c5.length)+1024)*16) bo)<|
 .ret (.next (({a.1 with link.cache:=[],door.keys.now.rows:=[],door.keys.before.rows:=[],door.halves:=[],door.table.conns:=[],door.table.waiting:=[]}:Stac),(a.2++c5)))
noncomputable def iR:vK.V→qc vK (Stac×List aa):=λ(v0,v1,v2,v3,v4,v5,v6,_)=>⟨v1,(v3,v5),λv1 a=>(v0,v1,v2,a.1,v4,a.2,v6,()),λv1 _=>(decide (v1<v0)),pe v2 v6,up,1,(Int.toNat (v0-v1)),Empty.elim,Prod.mk,oN (.exit 0) ⟨[zp 2 0,zu 3,zp 4 1,zo 7 2],[.box [.st .stac [.nil .entr,.nil .macRow,.nil .macRow,.nil .half,.nil .conn,.nil .tupl]],.box [.st .stac [.own 3,.own 4,.own 5,.own 6,.sl .any,.own 7]],za .str,zf,zf,zf,zf,zf]⟩ (λx=>(({x.2.1 with link.cache:=[],door.keys.now.rows:=[],door.keys.before.rows:=[],door.halves:=[],door.table.conns:=[],door.table.waiting:=[]}:Stac),v4,x.2.2,()))⟩
theorem Gg {v0 v1:Int}{v2 v3 v4:Stac}{v5:List aa}{v6:List Mail}(h0:0≤v1)(h1:v0≤4611686018427387904)(h2:ax v2)(h3:sL pR v6)(h4:v0≤(v6.length:Int))(h5:ax v3∧sL sS v5∧(v5.length:Int)≤v1):(iR (v0,v1,v2,v3,v4,v5,v6,())).U v0 (λv1 a=>ax a.1∧sL sS a.2∧(a.2.length:Int)≤v1) (λ_=>True):=
 iT (a:=(v3,v5)) h0 h1 h5
noncomputable def ub:FT (Stac×Unit) (Stac×List aa) (λx=>ax x.1) (λx v=>ax v.1∧sL sS v.2):=⟨λ(x0,_)=>
  .cal jz.c (x0,()) λc1=>
  .cal be.c (x0,()) λc2=>
  .ite (!c2) (.ret (c1,[]))<|
  .cal R9.c (x0.link.cache,()) λc3=>
  .cal wj.c (x0.door,()) λc4=>
  .lp (iR ((c4.2.length:Int),0,x0,(⟨⟨0,0,[]⟩,⟨0,0,⟨0,⟨false,0,0,[]⟩,⟨false,0,0,[]⟩,false⟩,⟨0,0,0,0⟩,[],⟨[],[]⟩,0⟩⟩:Stac),(⟨⟨c1.link.mac,c1.link.ip,c3⟩,c4.1⟩:Stac),[],c4.2,())).lp λ(_,_,a6_1)=>
  .ret ((⟨⟨c1.link.mac,c1.link.ip,c3⟩,c4.1⟩:Stac),a6_1),
 λ(x0,_) hp=>by
  refine Tr.C ?_ λ_ _ _=>Tr.C ?_ λ_ _ _=>Tr.I (λ_=>Tr.R ?_) λ_=>Tr.C ?_ λ_ _ _=>Tr.C ?_ λ_ _ _=>Tr.L (Gg ?_ ?_ ?_ ?_ ?_ ?_) (λ(a6_0,a6_1) _=>Tr.R ?_) (λp=>Empty.elim p)
  all_goals ((try simp only[iR,LC.lp,LC.ct,Ct.lp]at*)<;>grind)⟩
noncomputable def NJ:=ez st Tryz.func55 [(0,lb [1,2,4,7,31,32,33] [2,3,4,7]),(4000000,la ⟨[],[],false,0⟩ ⟨[],[.softb 2 20],false,0⟩)] [od,qk,ab0,RF,zr] 0 iR (ks:=[.st .stac]) ub (λv=>[(true,kJ (.o true) (.o true) (.o true) (.o true) .c (.o true) v.1),(false,[sc (.o true) .str v.2])])
noncomputable def Nk:FT (Curs×Unit) (Segm×Curs) (λx=>af x.1) (λx v=>ao v.1∧af v.2):= .mk λ(y0,_)=>
  .cal aD.c (y0,[40000,40001,40002],()) λc1=>
  .cal kp.c (c1.2,()) λc2=>
  .cal aD.c (c2.2,[0,64,65535],()) λc3=>
  .cal p6.c (c3.2,()) λc4=>
  .ret ((⟨c1.1,80,c2.1,0,2,c3.1,c4.1,[]⟩:Segm),c4.2)
noncomputable def M9:=cq st ⟨354,Tryz.f354,[],1⟩ [aJ,mp,px] [] [.wr false [.ptr 0]] [.box [.st .curs]] (λx y=>(y.1.1,())) Nk (λv=>[(true,si v.1)]) (λx y v=>((v.2,()),())) Tryz.func354 (by kernel_rfl) trivial
noncomputable def acW:=[od,qk,O9,Vw,NJ,Oh,IT,Pl,gz,rT,Rq,y6,zr]
noncomputable def ac5:Fx:=⟨12,Tryz.f12,[(3000002,rA 0 29),(3000019,rA 0 102),(4000000,la ⟨[],[],false,0⟩ ⟨[],[.softb 4 20],false,0⟩)],0⟩
noncomputable def wT:FT (Stac×Acti×Unit) (Stac×Resu) (λx=>ax x.1∧bq x.2.1) (λx v=>ax v.1∧eb v.2):= .mk λ(x0,x1,_)=>
  .cal jz.c (x0,()) λc1=>
  .bnd (β:=Bool×Unit) (.as (λw=>(w.1=false→x0.door.table.conns.length≤16)) (.cal be.c (x0,()) λc2=>
   .ite (!c2) (.ret (true,()))<|
   .cal ld.c (x1,()) λc3=>
   .ret ((!c3),()))) λ(u4a0,_)=>
  .ite u4a0 (.ret (c1,(⟨[],0,⟨0,0,0⟩,0,[],false⟩:Resu)))<|
  .ite (x1.kind==1) (.cal Aw.c (x0,x1.text,()) λc5=>
   .ret (c5.1,(⟨c5.2.1,c5.2.2,⟨0,0,0⟩,0,[],true⟩:Resu)))<|
  .ite (x1.kind==2) (.cal ub.c (x0,()) λc6=>
   .ret (c6.1,(⟨c6.2,0,⟨0,0,0⟩,0,[],true⟩:Resu)))<|
  .ite (x1.kind==3) (.cal kg.c (x0.door,x1.mac,()) λc7=>
   .ret ((⟨c1.link,c7⟩:Stac),(⟨[],0,⟨0,0,0⟩,0,[],true⟩:Resu)))<|
  .ite (x1.kind==4) (.cal pC.c (x0.door.table,()) λc8=>
   .cal tU.c (c8.1,()) λc9=>
   .ret (({c1 with door.table.conns:=c9.conns,door.table.waiting:=c9.waiting}:Stac),(⟨[],0,c8.2.1,0,[],c8.2.2⟩:Resu)))<|
  .cal ar.c (x0.door.table,x1.tuple,()) λc10=>
  .bnd (β:=Bool×Unit) (.ite (decide (c10<0)) (.ret (true,()))<|
   .cal iA.c (x0.door.table.waiting,x1.tuple,()) λc11=>
   .ret (c11,())) λ(u12a0,_)=>
  .ite u12a0 (.ret (c1,(⟨[],0,⟨0,0,0⟩,0,[],false⟩:Resu)))<|
  .grd (cj x0.door.table.conns c10)<|
  .cal wO.c ((x0.door.table.conns.getD c10.toNat (Ty.zero .conn)),x1,()) λc13=>
  .cal dd.c (x0.door.table,c13.1,()) λc14=>
  .cal tU.c (c14,()) λc15=>
  .cal rC.c (x0,x1.tuple.ip,c13.2.2.2,()) λc16=>
  .ret (({c1 with door.table.conns:=c15.conns,door.table.waiting:=c15.waiting}:Stac),(⟨c16,0,⟨0,0,0⟩,c13.2.1,c13.2.2.1,true⟩:Resu))
noncomputable def EK:=bM st ac5 acW [] (ks:=[.st .stac,.st .acti]) wT (λv=>[(true,kJ (.o true) (.o true) (.o true) (.o true) .c (.o true) v.1),(true,R2 (.o true) v.2)]) Tryz.func12 trivial
def EM:Sh:=⟨[zp 4 0,zp 6 1,zo 7 2,(16,false,[.sl .any .acti]),zi 17,zi 18],[.box [.st .stac [.nil .entr,.nil .macRow,.nil .macRow,.nil .half,.nil .conn,.nil .tupl]],.box [.st .stac [.own 3,.own 4,.own 5,.own 6,.sl .any,.own 7]],za .resu,zf,zf,zf,zf,zf]⟩
noncomputable def xq (v0:List Acti)(v2:Int)(a:Stac×Stac×List Resu):Tr (Stp (Stac×Stac×List Resu) (Empty)):=
 .grd (cj v0 v2)<|
 .cal wT.c (a.2.1,(v0.getD v2.toNat (Ty.zero .acti)),()) λc4=>
 .grd (qq a.2.2 1 88)<|
 .ret (.next (({a.1 with link.cache:=[],door.keys.now.rows:=[],door.keys.before.rows:=[],door.halves:=[],door.table.conns:=[],door.table.waiting:=[]}:Stac),c4.1,(a.2.2++[c4.2])))
noncomputable def og:EM.V→qc EM (Stac×Stac×List Resu):=λ(v0,v1,v2,v3,v4,v5,_)=>⟨v2,(v3,v4,v5),λv2 a=>(v0,v1,v2,a.1,a.2.1,a.2.2,()),λv2 _=>(decide (v2<v1)),xq v0,up,1,(Int.toNat (v1-v2)),Empty.elim,Prod.mk,oN (.exit 0) ⟨[zp 4 0,zu 5,zp 6 1,zo 7 2],[.box [.st .stac [.nil .entr,.nil .macRow,.nil .macRow,.nil .half,.nil .conn,.nil .tupl]],.box [.st .stac [.own 3,.own 4,.own 5,.own 6,.sl .any,.own 7]],za .resu,zf,zf,zf,zf,zf]⟩ (λx=>(({x.2.1 with link.cache:=[],door.keys.now.rows:=[],door.keys.before.rows:=[],door.halves:=[],door.table.conns:=[],door.table.waiting:=[]}:Stac),x.2.2.1,x.2.2.2,()))⟩
theorem RP {v0:List Acti}{v1 v2:Int}{v3 v4:Stac}{v5:List Resu}(h0:0≤v2)(h1:v1≤4611686018427387904)(h2:sL bq v0)(h3:v1≤4294967296)(h4:v1≤(v0.length:Int))(h5:ax v3∧ax v4∧(v5.length:Int)=v2∧cX eb v5):(og (v0,v1,v2,v3,v4,v5,())).U v1 (λv2 a=>ax a.1∧ax a.2.1∧(a.2.2.length:Int)=v2∧cX eb a.2.2) (λ_=>True):=
 iT (a:=(v3,v4,v5)) h0 h1 h5
noncomputable def Jg:FT (Stac×List Acti×Unit) (Stac×List Resu) (λx=>ax x.1∧sL bq x.2.1) (λx v=>ax v.1∧sL eb v.2∧v.2.length≤x.2.1.length):=⟨λ(x0,x1,_)=>
  .cal jz.c (x0,()) λc1=>
  .cal tW.c (x1,()) λc2=>
  .lp (og (c2,(c2.length:Int),0,(⟨⟨0,0,[]⟩,⟨0,0,⟨0,⟨false,0,0,[]⟩,⟨false,0,0,[]⟩,false⟩,⟨0,0,0,0⟩,[],⟨[],[]⟩,0⟩⟩:Stac),c1,[],())).lp λ(_,_,a5_1,a5_2)=>
  .ret (a5_1,a5_2),
 λ(x0,x1,_) hp=>by
  refine Tr.C ?_ λ_ _ _=>Tr.C ?_ λ_ _ _=>Tr.L (RP ?_ ?_ ?_ ?_ ?_ ?_) (λ(a5_0,a5_1,a5_2) _=>Tr.R ?_) (λp=>Empty.elim p)
  all_goals ((try simp only[og,LC.lp,LC.ct,Ct.lp]at*)<;>grind)⟩
noncomputable def aac:=ez st Tryz.func25 [(0,la ⟨[4,6,7,16,17,18],[.softb 6 20],false,0⟩ ⟨[4,5,6,7],[],false,0⟩)] [od,Ok,EK] 0 og (ks:=[.st .stac,.sc (.sl .acti)]) Jg (λv=>[(true,kJ (.o true) (.o true) (.o true) (.o true) .c (.o true) v.1),(false,[sc (.o true) .resu v.2])])
noncomputable def dm:FT (Curs×Unit) (Int×Curs) (λx=>af x.1) (λx v=>af v.2):=⟨λ(y0,_)=>
  .cal aj.c (y0,3,()) λc1=>
  .ite (c1.1==0) (.cal AM.c (c1.2,()) λc2=>
   .ret (c2.1,c2.2))<|
  .ite (c1.1==1) (.cal aD.c (c1.2,[0,1,255,256,65535,65536,16777215,4294967295,4294967296,281474976710655,281474976710656],()) λc3=>
   .ret (c3.1,c3.2))<|
  .cal aj.c (c1.2,65536,()) λc4=>
  .ret (c4.1,c4.2),
 λ(y0,_) hp=>by
  refine Tr.C ?_ λ_ _ _=>Tr.I (λ_=>Tr.C ?_ λ_ _ _=>Tr.R ?_) λ_=>Tr.I (λ_=>Tr.C ?_ λ_ _ _=>Tr.R ?_) λ_=>Tr.C ?_ λ_ _ _=>Tr.R ?_
  all_goals (first|grind|(simp only[sS,List.length_cons,List.length_nil];grind))⟩
noncomputable def fO:=cq st ⟨243,Tryz.f243,[],1⟩ [az,zQ,aJ] [] [.wr false [.ptr 0]] [.box [.st .curs]] (λx y=>(y.1.1,())) dm (λv=>[(false,[.c (.int .i64 v.1)])]) (λx y v=>((v.2,()),())) Tryz.func243 (by kernel_rfl) trivial
noncomputable def Aj:FT (Curs×Unit) (Tupl×Curs) (λx=>af x.1) (λx v=>af v.2):= .mk λ(y0,_)=>
  .cal oM.c (y0,()) λc1=>
  .cal aj.c (c1.2,10,()) λc2=>
  .ite (c2.1==0) (.cal dm.c (c2.2,()) λc3=>
   .ret (({c1.1 with ip:=c3.1}:Tupl),c3.2))<|
  .ite (c2.1==1) (.cal dm.c (c2.2,()) λc4=>
   .ret (({c1.1 with port:=c4.1}:Tupl),c4.2))<|
  .ite (c2.1==2) (.cal dm.c (c2.2,()) λc5=>
   .ret (({c1.1 with my:=c5.1}:Tupl),c5.2))<|
  .ret (c1.1,c2.2)
noncomputable def yB:=cq st ⟨134,Tryz.f134,[],1⟩ [nq,az,fO] [] [.wr false [.ptr 0]] [.box [.st .curs]] (λx y=>(y.1.1,())) Aj (λv=>[(true,E5 v.1)]) (λx y v=>((v.2,()),())) Tryz.func134 (by kernel_rfl) trivial
noncomputable def G0:=[we]
def ny:Sh:=⟨[zp 0 0,zi 1,zo 5 1,zi 6],[.box [.st .curs [.sl .any]],za .u8]⟩
noncomputable def Hj:Fx:=⟨251,Tryz.f251,[(0,la ⟨[0,1,5,6],[.softo 0 0],false,1⟩ ⟨[4,5],[],false,1⟩)],1⟩
noncomputable def LD (v1:Int)(a:Curs×List Int):Tr (Stp (Curs×List Int) (Empty)):=
 .cal nl.c (a.1,()) λc2=>
 .grd (qq a.2 1 1)<|
 .ret (.next (c2.2,(a.2++[(IntKind.wrap .u8 c2.1)])))
noncomputable def iE:ny.V→qc ny (Curs×List Int):=λ(v0,v1,v2,v3,_)=>⟨v1,(v2,v3),λv1 a=>(v0,v1,a.1,a.2,()),λv1 _=>(decide (v1<v0)),LD,up,1,(Int.toNat (v0-v1)),Empty.elim,Prod.mk,oN (.exit 0) ⟨[zu 4,zo 5 1],[.box [.st .curs [.sl .any]],za .u8]⟩ (λx=>(x.2.1,x.2.2,()))⟩
theorem Ll:LS Tryz.prog Hj [0] (fv 0 ny iE):=cI st (aH G0) _ iE [] trivial
theorem Li {v0 v1:Int}{v2:Curs}{v3:List Int}(h0:0≤v1)(h1:v0≤4611686018427387904)(h2:v0≤4294967296)(h3:af v2∧(v3.length:Int)=v1):(iE (v0,v1,v2,v3,())).U v0 (λv1 a=>af a.1∧(a.2.length:Int)=v1) (λ_=>True):=
 iT (a:=(v2,v3)) h0 h1 h3
noncomputable def jT:FT (Curs×Int×Unit) (List Int×Curs) (λx=>af x.1∧x.2.1≤1048576) (λx v=>sS v.1∧af v.2):=⟨λ(y0,x1,_)=>
  .lp (iE (x1,0,y0,[],())).lp λ(_,a3_0,a3_1)=>
  .ret (a3_1,a3_0),
 λ(y0,x1,_) hp=>by
  refine Tr.L (Li ?_ ?_ ?_ ?_) (λ(a3_0,a3_1) _=>Tr.R ?_) (λp=>Empty.elim p)
  all_goals ((try simp only[iE,LC.lp,LC.ct,Ct.lp]at*)<;>grind)⟩
noncomputable def iX:=cq st Hj G0 [(fv 0 ny iE)] [.wr false [.ptr 0],.sc (.int .i64)] [.box [.st .curs]] (λx y=>(y.1.1,x.2.1,())) jT (λv=>[(false,[sc (.o true) .u8 v.1])]) (λx y v=>((v.2,()),())) Tryz.func251 (by kernel_rfl) ⟨Ll,trivial⟩
noncomputable def sa:FT (Curs×Int×Unit) (Int×Curs) (λx=>af x.1) (λx v=>af v.2):= .mk λ(y0,x1,_)=>
  .cal aj.c (y0,4,()) λc1=>
  .ite (c1.1==0) (.cal P9.c (c1.2,()) λc2=>
   .ret (c2.1,c2.2))<|
  .ite (c1.1==1) (.cal aD.c (c1.2,[2147483647,2147483648,(-1),1,0],()) λc3=>
   .val (bT.f (x1,c3.1,())) λc4=>
   .ret (c4,c3.2))<|
  .cal aj.c (c1.2,41,()) λc5=>
  .val (bT.f (x1,(IntKind.wrap .i64 (c5.1-20)),())) λc6=>
  .ret (c6,c5.2)
noncomputable def J9:=cq st ⟨434,Tryz.f434,[],1⟩ [az,VM,aJ,dR] [] [.wr false [.ptr 0],.sc (.int .i64)] [.box [.st .curs]] (λx y=>(y.1.1,x.2.1,())) sa (λv=>[(false,[.c (.int .i64 v.1)])]) (λx y v=>((v.2,()),())) Tryz.func434 (by kernel_rfl) trivial
noncomputable def WN:=[dR,aJ,eC,az,iX,bP,J9,gJ]
def MQ:An:=⟨⟨[],[],false,1⟩,⟨[0,6,7],[],false,1⟩,⟨[],[]⟩,[(.normal,⟨[zp 0 0,zp 6 1,zp 7 2],[.box [.st .curs [.sl .any]],zx .segm,zx .segm]⟩)]⟩
noncomputable def Xb:Fx:=⟨355,Tryz.f355,[(1000035,MQ)],1⟩
noncomputable def zG:FT (Curs×Segm×Segm×Unit) (Segm×Curs) (λx=>af x.1∧ao x.2.1∧ao x.2.2.1) (λx v=>ao v.1∧af v.2):= .mk λ(y0,x1,x2,_)=>
  .val (bT.f (x1.seq,1,())) λc1=>
  .val (bT.f (x2.seq,1,())) λc2=>
  .cal aD.c (y0,[0,9,65535],()) λc3=>
  .val (bU.f (())) λc4=>
  .cal aj.c (c3.2,3,()) λc5=>
  .cal jT.c (c5.2,c5.1,()) λc6=>
  .ite x2.opts.stamp (.cal ba.c (c6.2,6,()) λc7=>
   .bnd (β:=Curs×Segm×Segm×Unit) (.as (λw=>af w.1∧ao w.2.1∧ao w.2.2.1) (.ite (!c7.1) (.val (bT.f (x1.opts.val,1,())) λc8=>
     .ret (c7.2,(⟨0,0,0,0,0,0,⟨0,0,false,false,0,0⟩,[]⟩:Segm),(⟨x1.from_,x1.to,c1,c2,16,c3.1,⟨c4.mss,c4.scale,c4.sack,true,c8,x2.opts.val⟩,(aw c6.1)⟩:Segm),()))<|
    .ret (c7.2,(⟨0,0,0,0,0,0,⟨0,0,false,false,0,0⟩,[]⟩:Segm),(⟨x1.from_,x1.to,c1,c2,16,c3.1,c4,(aw c6.1)⟩:Segm),()))) λ(u9a0,_,u9a2,_)=>
   .cal aj.c (u9a0,12,()) λc10=>
   .ite (c10.1==0) (.cal sa.c (c10.2,u9a2.ack,()) λc11=>
    .val (bK.f (c11.1,())) λc12=>
    .ret (({u9a2 with ack:=c12}:Segm),c11.2))<|
   .ite (c10.1==1) (.cal sa.c (c10.2,u9a2.seq,()) λc13=>
    .val (bK.f (c13.1,())) λc14=>
    .ret (({u9a2 with seq:=c14}:Segm),c13.2))<|
   .ret (u9a2,c10.2))<|
  .cal aj.c (c6.2,12,()) λc15=>
  .ite (c15.1==0) (.cal sa.c (c15.2,c2,()) λc16=>
   .val (bK.f (c16.1,())) λc17=>
   .ret ((⟨x1.from_,x1.to,c1,c17,16,c3.1,c4,(aw c6.1)⟩:Segm),c16.2))<|
  .ite (c15.1==1) (.cal sa.c (c15.2,c1,()) λc18=>
   .val (bK.f (c18.1,())) λc19=>
   .ret ((⟨x1.from_,x1.to,c19,c2,16,c3.1,c4,(aw c6.1)⟩:Segm),c18.2))<|
  .ret ((⟨x1.from_,x1.to,c1,c2,16,c3.1,c4,(aw c6.1)⟩:Segm),c15.2)
noncomputable def ME:=cq st Xb WN [] [.wr false [.ptr 0],.st .segm,.st .segm] [.box [.st .curs]] (λx y=>(y.1.1,x.2.1,x.2.2.1,())) zG (λv=>[(true,si v.1)]) (λx y v=>((v.2,()),())) Tryz.func355 (by kernel_rfl) trivial
noncomputable def Hw:=[az,T8,Bk,M9,zt,ex,Pq,bP,ME,Pn]
def oi:Sh:=⟨[zp 0 0,zp 2 1,zp 3 2,zi 4,zi 5],[.box [.st .curs [.sl .any]],.box [.st .door [.nil .macRow,.nil .macRow,.nil .half,.nil .conn,.nil .tupl]],.box [.st .door [.own 3,.own 4,.own 5,.own 6,.own 7]],zf,zf,zf,zf,zf]⟩
noncomputable def GH:Fx:=⟨240,Tryz.f240,[(0,la ⟨[0,2,3,4,5],[.box 3 16 .half,.box 3 17 .conn,.box 3 18 .tupl],false,1⟩ ⟨[2,3],[],false,1⟩)],1⟩
noncomputable def M8 (v1:Int)(a:Curs×Door×Door):Tr (Stp (Curs×Door×Door) (Empty)):=
 .cal Nk.c (a.1,()) λc13=>
 .cal aj.c (c13.2,2,()) λc14=>
 .val (pc.f ((IntKind.wrap .i64 (167772162+c14.1)),c13.1,())) λc15=>
 .cal dC.c (a.2.2.table,c15,()) λc16=>
 .ite (decide (0≤c16)) (.ret (.next (c14.2,({a.2.1 with keys.now.rows:=[],keys.before.rows:=[],halves:=[],table.conns:=[],table.waiting:=[]}:Door),a.2.2)))<|
 .cal DE.c (a.2.2,c15,c13.1,()) λc17=>
 .ite (decide (0<(c17.2.length:Int))) (.cal ba.c (c14.2,2,()) λc18=>
  .ite c18.1 (.grd (decide (0<(c17.2.length:Int)))<|
   .cal zG.c (c18.2,c13.1,(c17.2.getD 0 (Ty.zero .segm)),()) λc19=>
   .cal EU.c (c17.1,c15,c19.1,()) λc20=>
   .ret (.next (c19.2,({a.2.1 with keys.now.rows:=[],keys.before.rows:=[],halves:=[],table.conns:=[],table.waiting:=[]}:Door),c20.1)))<|
  .ret (.next (c18.2,({a.2.1 with keys.now.rows:=[],keys.before.rows:=[],halves:=[],table.conns:=[],table.waiting:=[]}:Door),c17.1)))<|
 .ret (.next (c14.2,({a.2.1 with keys.now.rows:=[],keys.before.rows:=[],halves:=[],table.conns:=[],table.waiting:=[]}:Door),c17.1))
noncomputable def iL:oi.V→qc oi (Curs×Door×Door):=λ(v0,v1,v2,v3,v4,_)=>⟨v1,(v2,v3,v4),λv1 a=>(v0,v1,a.1,a.2.1,a.2.2,()),λv1 _=>(decide (v1<v0)),M8,up,1,(Int.toNat (v0-v1)),Empty.elim,Prod.mk,oN (.exit 0) ⟨[zp 2 1,zp 3 2],[.box [.st .curs [.sl .any]],.box [.st .door [.nil .macRow,.nil .macRow,.nil .half,.nil .conn,.nil .tupl]],.box [.st .door [.own 3,.own 4,.own 5,.own 6,.own 7]],zf,zf,zf,zf,zf]⟩ (λx=>(x.2.1,({x.2.2.1 with keys.now.rows:=[],keys.before.rows:=[],halves:=[],table.conns:=[],table.waiting:=[]}:Door),x.2.2.2,()))⟩
theorem MS:LS Tryz.prog GH [0] (fv 0 oi iL):=cI st (aH Hw) _ iL [] trivial
theorem Ki {v0 v1:Int}{v2:Curs}{v3 v4:Door}(h0:0≤v1)(h1:v0≤4611686018427387904)(h2:af v2∧aC v3∧aC v4):(iL (v0,v1,v2,v3,v4,())).U v0 (λv1 a=>af a.1∧aC a.2.1∧aC a.2.2) (λ_=>True):=
 iT (a:=(v2,v3,v4)) h0 h1 h2
noncomputable def F3:FT (Curs×Unit) (Door×Curs) (λx=>af x.1) (λx v=>aC v.1∧af v.2):=⟨λ(y0,_)=>
  .cal aj.c (y0,99,()) λc1=>
  .cal Py.c (c1.2,()) λc2=>
  .cal y7.c (c2.2,()) λc3=>
  .cal aj.c (c3.2,6,()) λc4=>
  .lp (iL (c4.1,0,c4.2,(⟨0,0,⟨0,⟨false,0,0,[]⟩,⟨false,0,0,[]⟩,false⟩,⟨0,0,0,0⟩,[],⟨[],[]⟩,0⟩:Door),(⟨80,c1.1,c2.1,c3.1,[],⟨[],[]⟩,0⟩:Door),())).lp λ(_,a21_0,_,a21_2)=>
  .ret (a21_2,a21_0),
 λ(y0,_) hp=>by
  refine Tr.C ?_ λ_ _ _=>Tr.C ?_ λ_ _ _=>Tr.C ?_ λ_ _ _=>Tr.C ?_ λ_ _ _=>Tr.L (Ki ?_ ?_ ?_) (λ(a21_0,a21_1,a21_2) _=>Tr.R ?_) (λp=>Empty.elim p)
  all_goals ((try simp only[iL,LC.lp,LC.ct,Ct.lp]at*)<;>grind)⟩
noncomputable def GU:=cq st GH Hw [(fv 0 oi iL)] [.wr false [.ptr 0]] [.box [.st .curs]] (λx y=>(y.1.1,())) F3 (λv=>[(true,kF (.o true) (.o true) (.o true) (.o true) (.o true) v.1)]) (λx y v=>((v.2,()),())) Tryz.func240 (by kernel_rfl) ⟨MS,trivial⟩
noncomputable def BU:FT (Curs×Unit) (Stac×Curs) (λx=>af x.1) (λx v=>ax v.1∧af v.2):= .mk λ(y0,_)=>
  .cal vZ.c (y0,()) λc1=>
  .cal F3.c (c1.2,()) λc2=>
  .cal pj.c (c1.1,167772162,12,()) λc3=>
  .ret ((⟨⟨11,167772161,c3⟩,c2.1⟩:Stac),c2.2)
noncomputable def D7:=cq st ⟨129,Tryz.f129,[],1⟩ [wi,GU,tN] [] [.wr false [.ptr 0]] [.box [.st .curs]] (λx y=>(y.1.1,())) BU (λv=>[(true,kJ (.o true) (.o true) (.o true) (.o true) (.o true) (.o true) v.1)]) (λx y v=>((v.2,()),())) Tryz.func129 (by kernel_rfl) trivial
noncomputable def PW:FT (Curs×Unit) (Link×Curs) (λx=>af x.1) (λx v=>ec v.1∧af v.2):= .mk λ(y0,_)=>
  .cal vZ.c (y0,()) λc1=>
  .ret ((⟨11,167772161,c1.1⟩:Link),c1.2)
noncomputable def V7:=cq st ⟨242,Tryz.f242,[],1⟩ [wi] [] [.wr false [.ptr 0]] [.box [.st .curs]] (λx y=>(y.1.1,())) PW (λv=>[(true,B4 (.o true) v.1)]) (λx y v=>((v.2,()),())) Tryz.func242 (by kernel_rfl) trivial
noncomputable def Hh:=[wi,az,fO,aJ]
def nE:Sh:=⟨[zp 0 0,zo 3 1],[.box [.st .curs [.sl .any]],za .entr]⟩
noncomputable def GS:Fx:=⟨244,Tryz.f244,[(1,la ⟨[0,3],[],false,1⟩ ⟨[2,3],[],false,1⟩)],1⟩
noncomputable def JK (a:Curs×List Entr):Tr (Stp (Curs×List Entr) ((Curs×List Entr))):=
 .cal aj.c (a.1,2,()) λc6=>
 .ite (decide ((a.2.length:Int)<(IntKind.wrap .i64 (4+c6.1)))) (.cal aj.c (c6.2,10,()) λc7=>
  .grd (qq a.2 1 24)<|
  .ret (.next (c7.2,(a.2++[(⟨(a.2.length:Int),0,c7.1⟩:Entr)]))))<|
 .ret (.out (c6.2,a.2))
noncomputable def kj:nE.V→LW nE (Curs×List Entr) ((Curs×List Entr)):=λ(v0,v1,_)=>⟨(v0,v1),λa=>(a.1,a.2,()),JK,Int.toNat (6-(v1.length:Int)),oN (.exit 1) ⟨[zu 2,zo 3 1],[.box [.st .curs [.sl .any]],za .entr]⟩ (λp=>(p.1,p.2,()))⟩
theorem Mf:LS Tryz.prog GS [0] (leW 1 nE kj):=Ux st (aH Hh) _ kj [] trivial
theorem Nh {v0:Curs}{v1:List Entr}(h0:af v0∧sS v1∧v1.length≤8):(kj (v0,v1,())).W (λp=>af p.1∧sS p.2):=
 lwW (a:=(v0,v1)) (λa=>af a.1∧sS a.2∧a.2.length≤8) (λa=>Int.toNat (6-(a.2.length:Int))) h0
noncomputable def Pd:FT (Curs×Unit) (List Entr×Curs) (λx=>af x.1) (λx v=>sS v.1∧af v.2):= .mk (λ(y0,_)=>
  .cal vZ.c (y0,()) λc1=>
  .cal aj.c (c1.2,8,()) λc2=>
  .ite (c2.1==0) (.cal dm.c (c2.2,()) λc3=>
   .cal dm.c (c3.2,()) λc4=>
   .cal aD.c (c4.2,[0,9,10,(-1)],()) λc5=>
   .grd (qq c1.1 1 24)<|
   .ret ((c1.1++[(⟨c3.1,c4.1,c5.1⟩:Entr)]),c5.2))<|
  .ite (c2.1==1) (.lp (kj (c2.2,c1.1,())).lp λ(p8a0,p8a1)=>
   .ret (p8a1,p8a0))<|
  .ret (c1.1,c2.2)) (qm @Nh)
noncomputable def UT:=cq st GS Hh [(leW 1 nE kj)] [.wr false [.ptr 0]] [.box [.st .curs]] (λx y=>(y.1.1,())) Pd (λv=>[(false,[sc (.o true) .entr v.1])]) (λx y v=>((v.2,()),())) Tryz.func244 (by kernel_rfl) ⟨Mf,trivial⟩
noncomputable def Qx:FT (Curs×Unit) (Link×Curs) (λx=>af x.1) (λx v=>ec v.1∧af v.2):= .mk λ(y0,_)=>
  .cal PW.c (y0,()) λc1=>
  .cal aj.c (c1.2,10,()) λc2=>
  .ite (c2.1==0) (.cal dm.c (c2.2,()) λc3=>
   .ret (({c1.1 with mac:=c3.1}:Link),c3.2))<|
  .ite (c2.1==1) (.cal dm.c (c2.2,()) λc4=>
   .ret (({c1.1 with ip:=c4.1}:Link),c4.2))<|
  .ite (c2.1==2) (.cal Pd.c (c2.2,()) λc5=>
   .ret (({c1.1 with cache:=c5.1}:Link),c5.2))<|
  .ite (c2.1==3) (.ret (({c1.1 with mac:=281474976710655}:Link),c2.2))<|
  .ret (c1.1,c2.2)
noncomputable def TQ:=cq st ⟨130,Tryz.f130,[],1⟩ [V7,az,fO,UT] [] [.wr false [.ptr 0]] [.box [.st .curs]] (λx y=>(y.1.1,())) Qx (λv=>[(true,B4 (.o true) v.1)]) (λx y v=>((v.2,()),())) Tryz.func130 (by kernel_rfl) trivial
noncomputable def CX:FT (Curs×Unit) (Int×Curs) (λx=>af x.1) (λx v=>af v.2):= .mk λ(y0,_)=>
  .cal aD.c (y0,[11,12,13,281474976710655,0,2199023255552],()) λc1=>
  .ret (c1.1,c1.2)
noncomputable def PC:=cq st ⟨476,Tryz.f476,[],1⟩ [aJ] [] [.wr false [.ptr 0]] [.box [.st .curs]] (λx y=>(y.1.1,())) CX (λv=>[(false,[.c (.int .i64 v.1)])]) (λx y v=>((v.2,()),())) Tryz.func476 (by kernel_rfl) trivial
noncomputable def Zo:FT (Curs×Unit) (Arpm×Curs) (λx=>af x.1) (λx v=>af v.2):= .mk λ(y0,_)=>
  .cal aj.c (y0,2,()) λc1=>
  .cal CX.c (c1.2,()) λc2=>
  .cal E2.c (c2.2,()) λc3=>
  .cal CX.c (c3.2,()) λc4=>
  .cal E2.c (c4.2,()) λc5=>
  .cal aj.c (c5.2,14,()) λc6=>
  .ite (c6.1==0) (.cal aj.c (c6.2,5,()) λc7=>
   .ret ((⟨(IntKind.wrap .i64 (c7.1-1)),c2.1,c3.1,c4.1,c5.1⟩:Arpm),c7.2))<|
  .ite (c6.1==1) (.cal dm.c (c6.2,()) λc8=>
   .ret ((⟨(IntKind.wrap .i64 (1+c1.1)),c8.1,c3.1,c4.1,c5.1⟩:Arpm),c8.2))<|
  .ite (c6.1==2) (.cal dm.c (c6.2,()) λc9=>
   .ret ((⟨(IntKind.wrap .i64 (1+c1.1)),c2.1,c9.1,c4.1,c5.1⟩:Arpm),c9.2))<|
  .ite (c6.1==3) (.cal dm.c (c6.2,()) λc10=>
   .ret ((⟨(IntKind.wrap .i64 (1+c1.1)),c2.1,c3.1,c4.1,c10.1⟩:Arpm),c10.2))<|
  .ret ((⟨(IntKind.wrap .i64 (1+c1.1)),c2.1,c3.1,c4.1,c5.1⟩:Arpm),c6.2)
noncomputable def Z1:=cq st ⟨439,Tryz.f439,[],1⟩ [az,PC,Ld,fO] [] [.wr false [.ptr 0]] [.box [.st .curs]] (λx y=>(y.1.1,())) Zo (λv=>[(true,LQ v.1)]) (λx y v=>((v.2,()),())) Tryz.func439 (by kernel_rfl) trivial
noncomputable def VR:=[aJ,xr,vT,bP,ET]
def xD:An:=⟨⟨[],[],false,1⟩,⟨[0,2,3],[],false,1⟩,⟨[],[]⟩,[(.normal,⟨[zp 0 0,zp 2 1,zp 3 2],[.box [.st .curs [.sl .any]],.box [.st .keys [.nil .macRow,.nil .macRow]],.box [.st .keys [.own 3,.own 4]],zf,zf]⟩),(.normal,⟨[zp 0 0,zp 2 1,zp 3 2],[.box [.st .curs [.sl .any]],.box [.st .keys [.nil .macRow,.nil .macRow]],.box [.st .keys [.own 3,.nil .macRow]],zf]⟩)]⟩
noncomputable def Wy:Fx:=⟨356,Tryz.f356,[(1000019,xD)],1⟩
noncomputable def Pc:FT (Curs×Unit) (Keys×Curs) (λx=>af x.1) (λx v=>cC v.1∧af v.2):=⟨λ(y0,_)=>
  .cal aD.c (y0,[0,1,2,30,31,32,33,4294967295],()) λc1=>
  .cal gm.c (c1.2,()) λc2=>
  .cal gm.c (c2.2,()) λc3=>
  .cal pW.c (c2.1,c3.1,()) λc4=>
  .ite (decide (0<c1.1)) (.cal ba.c (c3.2,2,()) λc5=>
   .bnd (β:=WT xD.es) (.ite c5.1 (.cal gm.c (c5.2,()) λc6=>
     .cal gm.c (c6.2,()) λc7=>
     .cal pW.c (c6.1,c7.1,()) λc8=>
     .ret (.inl (c7.2,(⟨0,⟨false,0,0,[]⟩,⟨false,0,0,[]⟩,false⟩:Keys),(⟨c1.1,c4,c8,true⟩:Keys),())))<|
    .ret (.inr ((c5.2,(⟨0,⟨false,0,0,[]⟩,⟨false,0,0,[]⟩,false⟩:Keys),(⟨c1.1,c4,⟨false,0,0,[]⟩,false⟩:Keys),())))) λw9=> .sum w9 (λ(u9a0,_,u9a2,_)=>
   .cal ba.c (u9a0,3,()) λc10=>
   .ite c10.1 (.cal su.c ([],()) λc11=>
    .ret (({u9a2 with now.use:=c11.use,now.k:=c11.k,now.l:=c11.l,now.rows:=c11.rows}:Keys),c10.2))<|
   .ret (u9a2,c10.2))<|
   λ(u9b0,_,u9b2,_)=>
   .cal ba.c (u9b0,3,()) λc12=>
   .ite c12.1 (.cal su.c ([],()) λc13=>
    .ret (({u9b2 with now.use:=c13.use,now.k:=c13.k,now.l:=c13.l,now.rows:=c13.rows,before.rows:=[]}:Keys),c12.2))<|
   .ret (({u9b2 with before.rows:=[]}:Keys),c12.2))<|
  .cal ba.c (c3.2,3,()) λc14=>
  .ite c14.1 (.cal su.c ([],()) λc15=>
   .ret ((⟨c1.1,c15,⟨false,0,0,[]⟩,false⟩:Keys),c14.2))<|
  .ret ((⟨c1.1,c4,⟨false,0,0,[]⟩,false⟩:Keys),c14.2),
 λ(y0,_) hp=>by
  refine Tr.C ?_ λ_ _ _=>Tr.C ?_ λ_ _ _=>Tr.C ?_ λ_ _ _=>Tr.C trivial λ_ _ _=>Tr.I (λ_=>Tr.C ?_ λ_ _ _=>Tr.B (Q':=(Sum.elim (λw=>af w.1∧cC w.2.1∧cC w.2.2.1) (λw=>af w.1∧cC w.2.1∧cC w.2.2.1))) (Tr.I (λ_=>Tr.C ?_ λ_ _ _=>Tr.C ?_ λ_ _ _=>Tr.C trivial λ_ _ _=>Tr.R ?_) λ_=>Tr.R ?_) (λ_ _ q9=>Tr.E q9 (λ(u9a0,u9a1,u9a2,_) _=>Tr.C ?_ λ_ _ _=>Tr.I (λ_=>Tr.C ?_ λ_ _ _=>Tr.R ?_) λ_=>Tr.R ?_) (λ(u9b0,u9b1,u9b2,_) _=>Tr.C ?_ λ_ _ _=>Tr.I (λ_=>Tr.C ?_ λ_ _ _=>Tr.R ?_) λ_=>Tr.R ?_))) λ_=>Tr.C ?_ λ_ _ _=>Tr.I (λ_=>Tr.C ?_ λ_ _ _=>Tr.R ?_) λ_=>Tr.R ?_
  all_goals ((try simp only[Tr.nice,iz]at*)<;>first|grind|(simp only[sS,List.length_cons,List.length_nil];grind))⟩
noncomputable def Wi:=cq st Wy VR [] [.wr false [.ptr 0]] [.box [.st .curs]] (λx y=>(y.1.1,())) Pc (λv=>[(true,B5 (.o true) (.o true) v.1)]) (λx y v=>((v.2,()),())) Tryz.func356 (by kernel_rfl) trivial
noncomputable def Po:FT (Curs×Unit) (Fram×Curs) (λx=>af x.1) (λx v=>pS v.1∧af v.2):= .mk λ(y0,_)=>
  .cal CX.c (y0,()) λc1=>
  .cal CX.c (c1.2,()) λc2=>
  .cal aD.c (c2.2,[2048,2054,1536,65535],()) λc3=>
  .cal aj.c (c3.2,6,()) λc4=>
  .cal jT.c (c4.2,c4.1,()) λc5=>
  .cal aj.c (c5.2,12,()) λc6=>
  .ite (c6.1==0) (.cal dm.c (c6.2,()) λc7=>
   .ret ((⟨c7.1,c2.1,c3.1,(aw c5.1)⟩:Fram),c7.2))<|
  .ite (c6.1==1) (.cal dm.c (c6.2,()) λc8=>
   .ret ((⟨c1.1,c8.1,c3.1,(aw c5.1)⟩:Fram),c8.2))<|
  .ite (c6.1==2) (.cal aD.c (c6.2,[0,1535,65536,(-1)],()) λc9=>
   .ret ((⟨c1.1,c2.1,c9.1,(aw c5.1)⟩:Fram),c9.2))<|
  .ite (c6.1==3) (.cal aj.c (c6.2,4,()) λc10=>
   .cal yt.c ((IntKind.wrap .i64 (1584+c10.1)),()) λc11=>
   .ret ((⟨c1.1,c2.1,c3.1,c11⟩:Fram),c10.2))<|
  .ret ((⟨c1.1,c2.1,c3.1,(aw c5.1)⟩:Fram),c6.2)
noncomputable def WG:=cq st ⟨440,Tryz.f440,[],1⟩ [PC,aJ,az,iX,fO,xf] [] [.wr false [.ptr 0]] [.box [.st .curs]] (λx y=>(y.1.1,())) Po (λv=>[(true,YB v.1)]) (λx y v=>((v.2,()),())) Tryz.func440 (by kernel_rfl) trivial
noncomputable def MJ:FT (Curs×Unit) (Pack×Curs) (λx=>af x.1) (λx v=>kS v.1∧af v.2):= .mk λ(y0,_)=>
  .cal E2.c (y0,()) λc1=>
  .cal E2.c (c1.2,()) λc2=>
  .cal aj.c (c2.2,64,()) λc3=>
  .cal aD.c (c3.2,[6,6,17,0],()) λc4=>
  .cal aj.c (c4.2,65536,()) λc5=>
  .cal aj.c (c5.2,8,()) λc6=>
  .cal jT.c (c6.2,c6.1,()) λc7=>
  .cal aj.c (c7.2,14,()) λc8=>
  .ite (c8.1==0) (.cal dm.c (c8.2,()) λc9=>
   .ret ((⟨c9.1,c2.1,(IntKind.wrap .i64 (1+c3.1)),c4.1,c5.1,(aw c7.1)⟩:Pack),c9.2))<|
  .ite (c8.1==1) (.cal aD.c (c8.2,[0,255,256],()) λc10=>
   .ret ((⟨c1.1,c2.1,c10.1,c4.1,c5.1,(aw c7.1)⟩:Pack),c10.2))<|
  .ite (c8.1==2) (.cal aj.c (c8.2,3,()) λc11=>
   .cal yt.c ((IntKind.wrap .i64 (1479+c11.1)),()) λc12=>
   .ret ((⟨c1.1,c2.1,(IntKind.wrap .i64 (1+c3.1)),c4.1,c5.1,c12⟩:Pack),c11.2))<|
  .ite (c8.1==3) (.cal dm.c (c8.2,()) λc13=>
   .ret ((⟨c1.1,c2.1,(IntKind.wrap .i64 (1+c3.1)),c4.1,c13.1,(aw c7.1)⟩:Pack),c13.2))<|
  .ret ((⟨c1.1,c2.1,(IntKind.wrap .i64 (1+c3.1)),c4.1,c5.1,(aw c7.1)⟩:Pack),c8.2)
noncomputable def QT:=cq st ⟨441,Tryz.f441,[],1⟩ [Ld,az,aJ,iX,fO,xf] [] [.wr false [.ptr 0]] [.box [.st .curs]] (λx y=>(y.1.1,())) MJ (λv=>[(true,Ge v.1)]) (λx y v=>((v.2,()),())) Tryz.func441 (by kernel_rfl) trivial
noncomputable def DW:FT (Curs×List aa×Unit) (aa×Curs) (λx=>af x.1∧sL sS x.2.1∧0<x.2.1.length) (λx v=>sS v.1∧af v.2∧(cX (λb:aa=>b.length≤64) x.2.1→v.1.length≤64)):=⟨λ(y0,x1,_)=>
  .cal aj.c (y0,(x1.length:Int),()) λc1=>
  .grd (cj x1 c1.1)<|
  .ret ((x1.getD c1.1.toNat []),c1.2),
 λ(y0,x1,_) hp=>by
  refine Tr.C ?_ λc1 hc1 qc1=>Tr.G2 ?_ λg0=>Tr.R ?_
  all_goals ((first|grind|(refine⟨by grind,by grind,λhn=> ?_⟩;exact cW (p:=λb:aa=>b.length≤64) hn (Nat.zero_le _) _)))⟩
noncomputable def Cv:=cq st ⟨369,Tryz.f369,[],1⟩ [az] [] [.wr false [.ptr 0],.sc (.sl .str)] [.box [.st .curs]] (λx y=>(y.1.1,x.2.1,())) DW (λv=>[(false,[.c (.str v.1)])]) (λx y v=>((v.2,()),())) Tryz.func369 (by kernel_rfl) trivial
noncomputable def Hf:=[az,Cv,aJ,bP,zQ]
def nD:Sh:=⟨[zp 0 0,zo 3 1,zi 4,zi 5],[.box [.st .curs [.sl .any]],za .macRow]⟩
noncomputable def Hm:Fx:=⟨254,Tryz.f254,[(0,la ⟨[0,3,4,5],[],false,1⟩ ⟨[0,2,3,4],[],false,1⟩)],1⟩
noncomputable def L3 (v1:Int)(a:Curs×List MacRow):Tr (Stp (Curs×List MacRow) (Empty)):=
 .cal DW.c (a.1,[[],[97],[98],[99,100],[97]],()) λc2=>
 .cal aj.c (c2.2,16777216,()) λc3=>
 .cal aD.c (c3.2,[0,1,5,16777215,c3.1],()) λc4=>
 .grd (qq a.2 1 24)<|
 .ret (.next (c4.2,(a.2++[(⟨c2.1,c4.1⟩:MacRow)])))
noncomputable def iQ:nD.V→qc nD (Curs×List MacRow):=λ(v0,v1,v2,v3,_)=>⟨v1,(v2,v3),λv1 a=>(v0,v1,a.1,a.2,()),λv1 _=>(decide (v1<v0)),L3,up,1,(Int.toNat (v0-v1)),Empty.elim,Prod.mk,oN (.exit 0) ⟨[zp 0 0,zu 2,zo 3 1,zi 4],[.box [.st .curs [.sl .any]],za .macRow]⟩ (λx=>(v0,x.2.1,x.2.2,()))⟩
theorem LM:LS Tryz.prog Hm [0] (fv 0 nD iQ):=cI st (aH Hf) _ iQ [] trivial
theorem KO {v0 v1:Int}{v2:Curs}{v3:List MacRow}(h0:0≤v1)(h1:v0≤4611686018427387904)(h2:v0≤4294967296)(h3:af v2∧(v3.length:Int)=v1∧cX bk v3):(iQ (v0,v1,v2,v3,())).U v0 (λv1 a=>af a.1∧(a.2.length:Int)=v1∧cX bk a.2) (λ_=>True):=
 iT (a:=(v2,v3)) h0 h1 h3
noncomputable def F9:FT (Curs×Unit) (List MacRow×Curs) (λx=>af x.1) (λx v=>sL bk v.1∧af v.2):=⟨λ(y0,_)=>
  .cal aj.c (y0,5,()) λc1=>
  .lp (iQ (c1.1,0,c1.2,[],())).lp λ(_,a5_0,a5_1)=>
  .ite (decide (0<c1.1)) (.cal ba.c (a5_0,6,()) λc6=>
   .ite c6.1 (.cal AM.c (c6.2,()) λc7=>
    .grd (decide (0<(a5_1.length:Int)))<|
    .ret ((a5_1.set 0 (⟨(a5_1.getD 0 (Ty.zero .macRow)).input,c7.1⟩:MacRow)),c7.2))<|
   .ret (a5_1,c6.2))<|
  .ret (a5_1,a5_0),
 λ(y0,_) hp=>by
  refine Tr.C ?_ λ_ _ _=>Tr.L (KO ?_ ?_ ?_ ?_) (λ(a5_0,a5_1) _=>Tr.I (λ_=>Tr.C ?_ λ_ _ _=>Tr.I (λ_=>Tr.C ?_ λ_ _ _=>Tr.G1 ?_ λ_=>Tr.R ?_) λ_=>Tr.R ?_) λ_=>Tr.R ?_) (λp=>Empty.elim p)
  all_goals ((try simp only[iQ,LC.lp,LC.ct,Ct.lp]at*)<;>grind)⟩
noncomputable def Tn:=cq st Hm Hf [(fv 0 nD iQ)] [.wr false [.ptr 0]] [.box [.st .curs]] (λx y=>(y.1.1,())) F9 (λv=>[(false,[sc (.o true) .macRow v.1])]) (λx y v=>((v.2,()),())) Tryz.func254 (by kernel_rfl) ⟨LM,trivial⟩
noncomputable def C4:FT (Curs×Unit) (Mac×Curs) (λx=>af x.1) (λx v=>dT v.1∧af v.2):= .mk λ(y0,_)=>
  .cal ba.c (y0,2,()) λc1=>
  .ite c1.1 (.cal F9.c (c1.2,()) λc2=>
   .cal su.c (c2.1,()) λc3=>
   .ret (c3,c2.2))<|
  .cal gm.c (c1.2,()) λc4=>
  .cal gm.c (c4.2,()) λc5=>
  .cal pW.c (c4.1,c5.1,()) λc6=>
  .cal aj.c (c5.2,10,()) λc7=>
  .ite (c7.1==0) (.ret (({c6 with use:=true}:Mac),c7.2))<|
  .ite (c7.1==1) (.cal F9.c (c7.2,()) λc8=>
   .ret (({c6 with rows:=c8.1}:Mac),c8.2))<|
  .ret (c6,c7.2)
noncomputable def Kj:=cq st ⟨135,Tryz.f135,[],1⟩ [bP,Tn,ET,xr,vT,az] [] [.wr false [.ptr 0]] [.box [.st .curs]] (λx y=>(y.1.1,())) C4 (λv=>[(true,Ms (.o true) v.1)]) (λx y v=>((v.2,()),())) Tryz.func135 (by kernel_rfl) trivial
noncomputable def PH:FT (Curs×Unit) (Keys×Curs) (λx=>af x.1) (λx v=>cC v.1∧af v.2):= .mk λ(y0,_)=>
  .cal Pc.c (y0,()) λc1=>
  .cal aj.c (c1.2,10,()) λc2=>
  .ite (c2.1==0) (.cal aD.c (c2.2,[(-1),0,4294967296],()) λc3=>
   .ret (({c1.1 with epoch:=c3.1}:Keys),c3.2))<|
  .ite (c2.1==1) (.ret (({c1.1 with two:=(!c1.1.two)}:Keys),c2.2))<|
  .ite (c2.1==2) (.cal C4.c (c2.2,()) λc4=>
   .ret (({c1.1 with now.use:=c4.1.use,now.k:=c4.1.k,now.l:=c4.1.l,now.rows:=c4.1.rows}:Keys),c4.2))<|
  .ite (c2.1==3) (.cal C4.c (c2.2,()) λc5=>
   .ret (({c1.1 with before.use:=c5.1.use,before.k:=c5.1.k,before.l:=c5.1.l,before.rows:=c5.1.rows}:Keys),c5.2))<|
  .ret (c1.1,c2.2)
noncomputable def Uz:=cq st ⟨245,Tryz.f245,[],1⟩ [Wi,az,aJ,Kj] [] [.wr false [.ptr 0]] [.box [.st .curs]] (λx y=>(y.1.1,())) PH (λv=>[(true,B5 (.o true) (.o true) v.1)]) (λx y v=>((v.2,()),())) Tryz.func245 (by kernel_rfl) trivial
noncomputable def wa:FT (Curs×aa×List aa×Unit) (aa×Curs) (λx=>af x.1∧sS x.2.1∧sL sS x.2.2.1∧x.2.1.length≤65536∧0<x.2.2.1.length∧cX (λb:aa=>b.length≤64) x.2.2.1) (λx v=>sS v.1∧af v.2∧v.1.length≤131072):= .mk λ(y0,x1,x2,_)=>
  .cal aj.c (y0,(IntKind.wrap .i64 ((x1.length:Int)+1)),()) λc1=>
  .cal aj.c (c1.2,6,()) λc2=>
  .ite (c2.1==0) (.grd ((decide (0≤c1.1))&&(decide (c1.1≤(x1.length:Int))))<|
   .cal DW.c (c2.2,x2,()) λc3=>
   .grd (Nat.ble (((x1.take c1.1.toNat).drop 0).length+c3.1.length) aq)<|
   .grd (JQ x1 c1.1 (x1.length:Int))<|
   .grd (Nat.ble ((((x1.take c1.1.toNat).drop 0)++c3.1).length+((x1.take ((x1.length:Int).toNat)).drop c1.1.toNat).length) aq)<|
   .val ((((x1.take c1.1.toNat).drop 0)++c3.1)++((x1.take ((x1.length:Int).toNat)).drop c1.1.toNat)) λe4=>
   .ret (e4,c3.2))<|
  .ite (c2.1==1) (.grd ((decide (0≤c1.1))&&(decide (c1.1≤(x1.length:Int))))<|
   .ret (((x1.take c1.1.toNat).drop 0),c2.2))<|
  .ret (x1,c2.2)
noncomputable def DX:=cq st ⟨366,Tryz.f366,[],1⟩ [az,Cv] [] [.wr false [.ptr 0],.sc .str,.sc (.sl .str)] [.box [.st .curs]] (λx y=>(y.1.1,x.2.1,x.2.2.1,())) wa (λv=>[(false,[.c (.str v.1)])]) (λx y v=>((v.2,()),())) Tryz.func366 (by kernel_rfl) trivial
noncomputable def KM:FT (Curs×aa×Unit) (aa×Curs) (λx=>af x.1∧sS x.2.1∧x.2.1.length≤65536) (λx v=>sS v.1∧af v.2∧v.1.length≤131072):=⟨λ(y0,x1,_)=>
  .ite (decide ((x1.length:Int)<20)) (.cal wa.c (y0,x1,[[0],[69],[120]],()) λc1=>
   .ret (c1.1,c1.2))<|
  .cal ba.c (y0,3,()) λc2=>
  .ite c2.1 (.cal wa.c (c2.2,x1,[[0],[69],[120]],()) λc3=>
   .ret (c3.1,c3.2))<|
  .grd (Nat.ble x1.length bo)<|
  .cal aD.c (c2.2,[0,1,2,3,6,7,8,10,19],()) λc4=>
  .cal aD.c (c4.2,[0,64,32,69,70,1,255],()) λc5=>
  .grd (cj (er x1) c4.1)<|
  .cal ba.c (c5.2,4,()) λc6=>
  .ite c6.1 (.ret ((aw ((er x1).set c4.1.toNat (IntKind.wrap .u8 c5.1))),c6.2))<|
  .grd (decide (10<(((er x1).set c4.1.toNat (IntKind.wrap .u8 c5.1)).length:Int)))<|
  .grd (decide (11<((((er x1).set c4.1.toNat (IntKind.wrap .u8 c5.1)).set 10 0).length:Int)))<|
  .grd (decide (20≤(((((er x1).set c4.1.toNat (IntKind.wrap .u8 c5.1)).set 10 0).set 11 0).length:Int)))<|
  .val (aw ((((((er x1).set c4.1.toNat (IntKind.wrap .u8 c5.1)).set 10 0).set 11 0).take 20).drop 0)) λe7=>
  .cal ut.c (e7,()) λc8=>
  .grd (decide (10<(((((er x1).set c4.1.toNat (IntKind.wrap .u8 c5.1)).set 10 0).set 11 0).length:Int)))<|
  .val (((((er x1).set c4.1.toNat (IntKind.wrap .u8 c5.1)).set 10 0).set 11 0).set 10 (IntKind.wrap .u8 (IntKind.wrap .i64 (c8.tdiv 256)))) λl9=>
  .grd (decide (11<(l9.length:Int)))<|
  .ret ((aw (l9.set 11 (IntKind.wrap .u8 (c8.tmod 256)))),c6.2),
 λ(y0,x1,_) hp=>by
  refine Tr.I (λb0=>Tr.C ?_ λc1 hc1 qc1=>Tr.R ?_) λb0=>Tr.C ?_ λc2 hc2 qc2=>Tr.I (λb1=>Tr.C ?_ λc3 hc3 qc3=>Tr.R ?_) λb1=>Tr.Gb ?_ λg2=>Tr.C ?_ λc4 hc4 qc4=>Tr.C ?_ λc5 hc5 qc5=>Tr.G2 ?_ λg3=>Tr.C ?_ λc6 hc6 qc6=>Tr.I (λb4=>Tr.R ?_) λb4=>Tr.G1 ?_ λg5=>Tr.G1 ?_ λg6=>Tr.G1 ?_ λg7=>Tr.V λe7 he7=>Tr.C ?_ λc8 hc8 qc8=>Tr.G1 ?_ λg8=>Tr.V λl9 hl9=>Tr.G1 ?_ λg9=>Tr.R ?_
  all_goals ((first|grind|(simp only[sS,List.length_cons,List.length_nil];grind)|(have h1:=qc4.2.2 (by simp[cX]);first|grind|(simp only[sS,List.length_cons,List.length_nil];grind))))⟩
noncomputable def Sb:=cq st ⟨448,Tryz.f448,[],1⟩ [bP,DX,aJ,AQ] [] [.wr false [.ptr 0],.sc .str] [.box [.st .curs]] (λx y=>(y.1.1,x.2.1,())) KM (λv=>[(false,[.c (.str v.1)])]) (λx y v=>((v.2,()),())) Tryz.func448 (by kernel_rfl) trivial
noncomputable def zj:FT (Curs×aa×Unit) (aa×Curs) (λx=>af x.1∧sS x.2.1∧x.2.1.length≤65536) (λx v=>sS v.1∧af v.2∧v.1.length≤131072):= .mk λ(y0,x1,_)=>
  .cal ba.c (y0,5,()) λc1=>
  .ite c1.1 (.cal KM.c (c1.2,x1,()) λc2=>
   .ret (c2.1,c2.2))<|
  .ret (x1,c1.2)
noncomputable def Bt:=cq st ⟨368,Tryz.f368,[],1⟩ [bP,Sb] [] [.wr false [.ptr 0],.sc .str] [.box [.st .curs]] (λx y=>(y.1.1,x.2.1,())) zj (λv=>[(false,[.c (.str v.1)])]) (λx y v=>((v.2,()),())) Tryz.func368 (by kernel_rfl) trivial
noncomputable def W4:=[aJ,az,Z1,bP,zW,lJ,WG,iX,QT,rX,Bt]
def KR:An:=⟨⟨[],[],false,1⟩,⟨[0,2,3,4,5],[],false,1⟩,⟨[],[]⟩,[(.normal,⟨[zp 0 0,zs 2,zi 3,zi 4,zp 5 1],[.box [.st .curs [.sl .any]],zx .arpm]⟩)]⟩
def K5:An:=⟨⟨[],[],false,1⟩,⟨[0,2,3,4,6],[],false,1⟩,⟨[],[]⟩,[(.normal,⟨[zp 0 0,zs 2,zi 3,zi 4,zp 6 1],[.box [.st .curs [.sl .any]],zx .pack]⟩)]⟩
noncomputable def WX:Fx:=⟨363,Tryz.f363,[(1000020,KR),(1000044,K5)],1⟩
noncomputable def U0:FT (Curs×Unit) (aa×Curs) (λx=>af x.1) (λx v=>sS v.1∧af v.2):= .mk λ(y0,_)=>
  .cal aD.c (y0,[11,11,11,281474976710655,12],()) λc1=>
  .cal aD.c (c1.2,[12,13],()) λc2=>
  .cal aj.c (c2.2,4,()) λc3=>
  .ite (c3.1==0) (.cal Zo.c (c3.2,()) λc4=>
   .cal ba.c (c4.2,2,()) λc5=>
   .bnd (β:=aa×Int×Int×Curs×Arpm×Unit) (.as (λw=>sS w.1∧af w.2.2.2.1) (.ite c5.1 (.ret ([],c1.1,c2.1,c5.2,(⟨1,c2.1,167772162,0,167772161⟩:Arpm),()))<|
    .ret ([],c1.1,c2.1,c5.2,c4.1,()))) λ(_,u6a1,u6a2,u6a3,u6a4,_)=>
   .cal rE.c (u6a4,()) λc7=>
   .cal fD.c ((⟨u6a1,u6a2,2054,c7⟩:Fram),()) λc8=>
   .ret (c8,u6a3))<|
  .ite (c3.1==1) (.cal Po.c (c3.2,()) λc9=>
   .cal fD.c (c9.1,()) λc10=>
   .ret (c10,c9.2))<|
  .cal aj.c (c3.2,2,()) λc11=>
  .cal aj.c (c11.2,4,()) λc12=>
  .cal jT.c (c12.2,c12.1,()) λc13=>
  .cal ba.c (c13.2,4,()) λc14=>
  .bnd (β:=aa×Int×Int×Curs×Pack×Unit) (.as (λw=>sS w.1∧af w.2.2.2.1∧kS w.2.2.2.2.1) (.ite c14.1 (.cal MJ.c (c14.2,()) λc15=>
    .ret ([],c1.1,c2.1,c15.2,c15.1,()))<|
   .ret ([],c1.1,c2.1,c14.2,(⟨(IntKind.wrap .i64 (167772162+c11.1)),167772161,9,6,0,(aw c13.1)⟩:Pack),()))) λ(_,u16a1,u16a2,u16a3,u16a4,_)=>
  .cal kR.c (u16a4,()) λc17=>
  .cal zj.c (u16a3,c17,()) λc18=>
  .cal fD.c ((⟨u16a1,u16a2,2048,c18.1⟩:Fram),()) λc19=>
  .ret (c19,c18.2)
noncomputable def YX:=cq st WX W4 [] [.wr false [.ptr 0]] [.box [.st .curs]] (λx y=>(y.1.1,())) U0 (λv=>[(false,[.c (.str v.1)])]) (λx y v=>((v.2,()),())) Tryz.func363 (by kernel_rfl) trivial
noncomputable def vt:FT (Curs×Unit) (Half×Curs) (λx=>af x.1) (λx v=>af v.2):= .mk λ(y0,_)=>
  .cal oM.c (y0,()) λc1=>
  .cal kp.c (c1.2,()) λc2=>
  .cal kp.c (c2.2,()) λc3=>
  .cal p6.c (c3.2,()) λc4=>
  .cal aj.c (c4.2,7,()) λc5=>
  .cal aD.c (c5.2,[0,64,65535],()) λc6=>
  .ret ((⟨c1.1,c2.1,c3.1,c4.1,c5.1,c6.1⟩:Half),c6.2)
noncomputable def GQ:=cq st ⟨358,Tryz.f358,[],1⟩ [nq,mp,px,az,aJ] [] [.wr false [.ptr 0]] [.box [.st .curs]] (λx y=>(y.1.1,())) vt (λv=>[(true,afw v.1)]) (λx y v=>((v.2,()),())) Tryz.func358 (by kernel_rfl) trivial
noncomputable def Gw:=[az,GQ,GE]
def n9:Sh:=⟨[zp 0 0,zo 3 1,zi 4,zi 5],[.box [.st .curs [.sl .any]],za .half]⟩
noncomputable def GY:Fx:=⟨357,Tryz.f357,[(0,la ⟨[0,3,4,5],[],false,1⟩ ⟨[2,3],[],false,1⟩)],1⟩
noncomputable def LR (v1:Int)(a:Curs×List Half):Tr (Stp (Curs×List Half) (Empty)):=
 .cal vt.c (a.1,()) λc2=>
 .cal vG.c (a.2,c2.1,64,()) λc3=>
 .ret (.next (c2.2,c3.1))
noncomputable def iB:n9.V→qc n9 (Curs×List Half):=λ(v0,v1,v2,v3,_)=>⟨v1,(v2,v3),λv1 a=>(v0,v1,a.1,a.2,()),λv1 _=>(decide (v1<v0)),LR,up,1,(Int.toNat (v0-v1)),Empty.elim,Prod.mk,oN (.exit 0) ⟨[zu 2,zo 3 1],[.box [.st .curs [.sl .any]],za .half]⟩ (λx=>(x.2.1,x.2.2,()))⟩
theorem Lo:LS Tryz.prog GY [0] (fv 0 n9 iB):=cI st (aH Gw) _ iB [] trivial
theorem K4 {v0 v1:Int}{v2:Curs}{v3:List Half}(h0:0≤v1)(h1:v0≤4611686018427387904)(h2:af v2∧sS v3∧(v3.length:Int)≤v1):(iB (v0,v1,v2,v3,())).U v0 (λv1 a=>af a.1∧sS a.2∧(a.2.length:Int)≤v1) (λ_=>True):=
 iT (a:=(v2,v3)) h0 h1 h2
noncomputable def PI:FT (Curs×Unit) (List Half×Curs) (λx=>af x.1) (λx v=>sS v.1∧af v.2∧(v.1.length:Int)≤5):=⟨λ(y0,_)=>
  .cal aj.c (y0,5,()) λc1=>
  .lp (iB (c1.1,0,c1.2,[],())).lp λ(_,a4_0,a4_1)=>
  .ret (a4_1,a4_0),
 λ(y0,_) hp=>by
  refine Tr.C ?_ λ_ _ _=>Tr.L (K4 ?_ ?_ ?_) (λ(a4_0,a4_1) _=>Tr.R ?_) (λp=>Empty.elim p)
  all_goals ((try simp only[iB,LC.lp,LC.ct,Ct.lp]at*)<;>grind)⟩
noncomputable def Ut:=cq st GY Gw [(fv 0 n9 iB)] [.wr false [.ptr 0]] [.box [.st .curs]] (λx y=>(y.1.1,())) PI (λv=>[(false,[sc (.o true) .half v.1])]) (λx y v=>((v.2,()),())) Tryz.func357 (by kernel_rfl) ⟨Lo,trivial⟩
noncomputable def BP:=[az,gJ,bP,iX,dR]
def le:Sh:=⟨[zp 0 0,zp 3 1,zi 7,zi 8,zo 9 2,zi 10],[.box [.st .curs [.sl .any]],zg .recv,za .u8]⟩
def Ek:An:=⟨⟨[],[],false,1⟩,⟨[0,3,4,5,6,7,9],[],false,1⟩,⟨[],[]⟩,[(.normal,⟨[zp 0 0,zp 3 1,zu 4,zu 5,zu 6,zi 7,zo 9 2],[.box [.st .curs [.sl .any]],zg .recv,za .u8]⟩)]⟩
noncomputable def Bm:Fx:=⟨444,Tryz.f444,[(0,la ⟨[0,3,7,8,9,10],[],false,1⟩ ⟨[0,3,4,5,6,7,8,9],[],false,1⟩),(1000036,Ek)],1⟩
noncomputable def FD (v0:Int)(v4:Recv)(v2:Int)(a:List Int):Tr (Stp (List Int) (Empty)):=
 .val (bK.f ((IntKind.wrap .i64 ((IntKind.wrap .i64 (v4.next+v0))+v2)),())) λc3=>
 .grd (qq a 1 1)<|
 .ret (.next (a++[(IntKind.wrap .u8 (IntKind.wrap .i64 (97+(c3.tmod 26))))]))
noncomputable def fE:le.V→qc le (List Int):=λ(v0,v1,v2,v3,v4,v5,_)=>⟨v2,v5,λv2 a=>(v0,v1,v2,v3,v4,a,()),λv2 _=>(decide (v2<v1)),FD v0 v4,up,1,(Int.toNat (v1-v2)),Empty.elim,Prod.mk,oN (.exit 0) ⟨[zp 0 0,zp 3 1,zu 4,zu 5,zu 6,zi 7,zi 8,zo 9 2],[.box [.st .curs [.sl .any]],zg .recv,za .u8]⟩ (λx=>(v0,v1,v3,v4,x.2,()))⟩
theorem Gk:LS Tryz.prog Bm [0] (fv 0 le fE):=cI st (aH BP) _ fE [] trivial
theorem Fz {v0 v1 v2:Int}{v3:Curs}{v4:Recv}{v5:List Int}(h0:0≤v2)(h1:v1≤4611686018427387904)(h2:ay v4)(h3:v1≤4294967296)(h4:(v5.length:Int)=v2):(fE (v0,v1,v2,v3,v4,v5,())).U v1 (λv2 a=>(a.length:Int)=v2) (λ_=>True):=
 iT (a:=v5) h0 h1 h4
noncomputable def yH:FT (Curs×Recv×Unit) (Int×aa×Bool×Curs) (λx=>af x.1∧ay x.2.1) (λx v=>sS v.2.1∧af v.2.2.2):=⟨λ(y0,x1,_)=>
  .cal aj.c (y0,40,()) λc1=>
  .cal aj.c (c1.2,9,()) λc2=>
  .lp (fE ((IntKind.wrap .i64 (c1.1-6)),c2.1,0,c2.2,x1,[],())).lp λ(_,a4_0)=>
  .cal ba.c (c2.2,6,()) λc5=>
  .bnd (β:=Int×Curs×Recv×List Int×Unit) (.ite c5.1 (.cal jT.c (c5.2,c2.1,()) λc6=>
    .ret ((IntKind.wrap .i64 (c1.1-6)),c6.2,x1,c6.1,()))<|
   .ret ((IntKind.wrap .i64 (c1.1-6)),c5.2,x1,a4_0,())) λ(u7a0,u7a1,u7a2,u7a3,_)=>
  .val (bT.f (u7a2.next,u7a0,())) λc8=>
  .cal ba.c (u7a1,6,()) λc9=>
  .ret (c8,(aw u7a3),c9.1,c9.2),
 λ(y0,x1,_) hp=>by
  refine Tr.C ?_ λ_ _ _=>Tr.C ?_ λ_ _ _=>Tr.L (Fz ?_ ?_ ?_ ?_ ?_) (λa4_0 _=>Tr.C ?_ λ_ _ _=>Tr.B (Q':=λw=>af w.2.1∧ay w.2.2.1∧sS w.2.2.2.1) (Tr.I (λ_=>Tr.C ?_ λ_ _ _=>Tr.R ?_) λ_=>Tr.R ?_) (λ(u7a0,u7a1,u7a2,u7a3,_) _ _=>Tr.V λ_ _=>Tr.C ?_ λ_ _ _=>Tr.R ?_)) (λp=>Empty.elim p)
  all_goals ((try simp only[fE,LC.lp,LC.ct,Ct.lp,Tr.nice,iz]at*)<;>grind)⟩
noncomputable def BJ:=cq st Bm BP [(fv 0 le fE)] [.wr false [.ptr 0],.st .recv] [.box [.st .curs]] (λx y=>(y.1.1,x.2.1,())) yH (λv=>[(false,[.c (.int .i64 v.1)]),(false,[.c (.str v.2.1)]),(false,[.c (.bool v.2.2.1)])]) (λx y v=>((v.2.2.2,()),())) Tryz.func444 (by kernel_rfl) ⟨Gk,trivial⟩
noncomputable def Nj:FT (Curs×Unit) (Opti×Curs) (λx=>af x.1) (λx v=>af v.2):= .mk λ(y0,_)=>
  .cal p6.c (y0,()) λc1=>
  .cal aj.c (c1.2,10,()) λc2=>
  .ite (c2.1==0) (.cal dm.c (c2.2,()) λc3=>
   .ret (({c1.1 with mss:=c3.1}:Opti),c3.2))<|
  .ite (c2.1==1) (.cal aD.c (c2.2,[(-2),(-1),14,15],()) λc4=>
   .ret (({c1.1 with scale:=c4.1}:Opti),c4.2))<|
  .ite (c2.1==2) (.ret (({c1.1 with stamp:=(!c1.1.stamp)}:Opti),c2.2))<|
  .ite (c2.1==3) (.cal dm.c (c2.2,()) λc5=>
   .ret (({c1.1 with val:=c5.1}:Opti),c5.2))<|
  .ret (c1.1,c2.2)
noncomputable def LV:=cq st ⟨359,Tryz.f359,[],1⟩ [px,az,fO,aJ] [] [.wr false [.ptr 0]] [.box [.st .curs]] (λx y=>(y.1.1,())) Nj (λv=>[(true,oI v.1)]) (λx y v=>((v.2,()),())) Tryz.func359 (by kernel_rfl) trivial
noncomputable def O5:FT (Curs×Unit) (List Half×Curs) (λx=>af x.1) (λx v=>sS v.1∧af v.2):=⟨λ(y0,_)=>
  .cal PI.c (y0,()) λc1=>
  .cal aj.c (c1.2,8,()) λc2=>
  .ite (c2.1==0) (.cal vt.c (c2.2,()) λc3=>
   .cal aD.c (c3.2,[(-1),6,7],()) λc4=>
   .grd (qq c1.1 1 96)<|
   .ret ((c1.1++[({c3.1 with age:=c4.1}:Half)]),c4.2))<|
  .ite (c2.1==1) (.cal vt.c (c2.2,()) λc5=>
   .cal Aj.c (c5.2,()) λc6=>
   .cal dm.c (c6.2,()) λc7=>
   .grd (qq c1.1 1 96)<|
   .val (c1.1++[({c5.1 with tuple.ip:=c6.1.ip,tuple.port:=c6.1.port,tuple.my:=c6.1.my,iss:=c7.1}:Half)]) λl8=>
   .ret (l8,c7.2))<|
  .ite (c2.1==2) (.cal vt.c (c2.2,()) λc9=>
   .cal Nj.c (c9.2,()) λc10=>
   .grd (qq c1.1 1 96)<|
   .val (c1.1++[({c9.1 with opts.mss:=c10.1.mss,opts.scale:=c10.1.scale,opts.sack:=c10.1.sack,opts.stamp:=c10.1.stamp,opts.val:=c10.1.val,opts.echo:=c10.1.echo}:Half)]) λl11=>
   .ret (l11,c10.2))<|
  .ret (c1.1,c2.2),
 λ(y0,_) hp=>by
  refine Tr.C ?_ λc1 hc1 qc1=>Tr.C ?_ λc2 hc2 qc2=>Tr.I (λb0=>Tr.C ?_ λc3 hc3 qc3=>Tr.C ?_ λc4 hc4 qc4=>Tr.Gb ?_ λg1=>Tr.R ?_) λb0=>Tr.I (λb1=>Tr.C ?_ λc5 hc5 qc5=>Tr.C ?_ λc6 hc6 qc6=>Tr.C ?_ λc7 hc7 qc7=>Tr.Gb ?_ λg2=>Tr.V λl8 hl8=>Tr.R ?_) λb1=>Tr.I (λb2=>Tr.C ?_ λc9 hc9 qc9=>Tr.C ?_ λc10 hc10 qc10=>Tr.Gb ?_ λg3=>Tr.V λl11 hl11=>Tr.R ?_) λb2=>Tr.R ?_
  all_goals ((first|grind|(refine⟨?_,by grind⟩;have hl:∀v:List Half×Curs,v.1.length≤5→∀h:Half,sS (v.1++[h]):=λv hv h=>(by simp only[sS,List.length_append,List.length_cons,List.length_nil];omega);subst_vars;apply hl;grind)))⟩
noncomputable def V6:=cq st ⟨246,Tryz.f246,[],1⟩ [Ut,az,GQ,aJ,yB,fO,LV] [] [.wr false [.ptr 0]] [.box [.st .curs]] (λx y=>(y.1.1,())) O5 (λv=>[(false,[sc (.o true) .half v.1])]) (λx y v=>((v.2,()),())) Tryz.func246 (by kernel_rfl) trivial
noncomputable def Ph:FT (Curs×Unit) (Int×Curs) (λx=>af x.1) (λx v=>af v.2):=⟨λ(y0,_)=>
  .cal aj.c (y0,64,()) λc1=>
  .cal aD.c (c1.2,[2,16,16,18,24,17,4,20,0,c1.1],()) λc2=>
  .ret (c2.1,c2.2),
 λ(y0,_) hp=>by
  refine Tr.C ?_ λ_ _ _=>Tr.C ?_ λ_ _ _=>Tr.R ?_
  all_goals (first|grind|(simp only[sS,List.length_cons,List.length_nil];grind))⟩
noncomputable def Wz:=cq st ⟨446,Tryz.f446,[],1⟩ [az,aJ] [] [.wr false [.ptr 0]] [.box [.st .curs]] (λx y=>(y.1.1,())) Ph (λv=>[(false,[.c (.int .i64 v.1)])]) (λx y v=>((v.2,()),())) Tryz.func446 (by kernel_rfl) trivial
noncomputable def Ke:=[BJ,bP,jt,az,dR,aJ,eC,Wz,J9,gJ]
def CD:An:=⟨⟨[],[],false,1⟩,⟨[0,3,4,5,6,7],[],false,1⟩,⟨[],[]⟩,[(.normal,⟨[zp 0 0,zp 3 1,zp 4 2,zi 5,zs 6,zb 7],[.box [.st .curs [.sl .any]],zg .conn,zx .segm]⟩)]⟩
def CI:An:=⟨⟨[],[],false,1⟩,⟨[0,3,4,8],[],false,1⟩,⟨[],[]⟩,[(.normal,⟨[zp 0 0,zp 3 1,zp 4 2,zp 8 3],[.box [.st .curs [.sl .any]],zg .conn,zx .segm,zx .segm]⟩)]⟩
def BW:An:=⟨⟨[],[],false,1⟩,⟨[4,8],[],false,1⟩,⟨[],[]⟩,[(.normal,⟨[zp 4 1,zp 8 2],[.box [.st .curs [.sl .any]],zx .segm,zx .segm]⟩)]⟩
noncomputable def JY:Fx:=⟨365,Tryz.f365,[(1000018,CD),(1000045,CI),(1000052,BW)],1⟩
noncomputable def wE:FT (Curs×Conn×Unit) (Segm×Curs) (λx=>af x.1∧ac x.2.1) (λx v=>ao v.1∧af v.2):= .mk λ(y0,x1,_)=>
  .cal yH.c (y0,x1.r,()) λc1=>
  .cal ba.c (c1.2.2.2,2,()) λc2=>
  .bnd (β:=Int×aa×Bool×Curs×Conn×Segm×Unit) (.as (λw=>sS w.2.1∧af w.2.2.2.1∧ac w.2.2.2.2.1∧ao w.2.2.2.2.2.1) (.ite c2.1 (.ret (x1.r.next,c1.2.1,c1.2.2.1,c2.2,x1,(⟨0,0,0,0,0,0,⟨0,0,false,false,0,0⟩,[]⟩:Segm),()))<|
   .ret (c1.1,c1.2.1,c1.2.2.1,c2.2,x1,(⟨0,0,0,0,0,0,⟨0,0,false,false,0,0⟩,[]⟩:Segm),()))) λ(u3a0,u3a1,u3a2,u3a3,u3a4,u3a5,_)=>
  .cal gI.c (u3a4.s,()) λc4=>
  .cal aj.c (u3a3,(IntKind.wrap .i64 (c4+1)),()) λc5=>
  .val (bT.f (u3a4.s.una,c5.1,())) λc6=>
  .cal aD.c (c5.2,[0,1,8,64,65535],()) λc7=>
  .val (bU.f (())) λc8=>
  .bnd (β:=Curs×Conn×Segm×Segm×Unit) (.as (λw=>af w.1∧ac w.2.1∧ao w.2.2.1∧ao w.2.2.2.1) (.ite u3a2 (.ret (c7.2,u3a4,u3a5,(⟨u3a4.tuple.port,u3a4.tuple.my,u3a0,c6,17,c7.1,c8,u3a1⟩:Segm),()))<|
   .ret (c7.2,u3a4,u3a5,(⟨u3a4.tuple.port,u3a4.tuple.my,u3a0,c6,16,c7.1,c8,u3a1⟩:Segm),()))) λ(u9a0,u9a1,u9a2,u9a3,_)=>
  .cal aj.c (u9a0,10,()) λc10=>
  .bnd (β:=Curs×Segm×Segm×Unit) (.as (λw=>af w.1∧ao w.2.1∧ao w.2.2.1) (.ite (c10.1==0) (.cal Ph.c (c10.2,()) λc11=>
    .ret (c11.2,u9a2,({u9a3 with flags:=c11.1}:Segm),()))<|
   .ite (c10.1==1) (.cal sa.c (c10.2,u9a1.s.una,()) λc12=>
    .ret (c12.2,u9a2,({u9a3 with ack:=c12.1}:Segm),()))<|
   .ite (c10.1==2) (.cal sa.c (c10.2,u9a1.r.next,()) λc13=>
    .ret (c13.2,u9a2,({u9a3 with seq:=c13.1}:Segm),()))<|
   .ite (c10.1==3) (.ret (c10.2,u9a2,({u9a3 with body:=[]}:Segm),()))<|
   .ret (c10.2,u9a2,u9a3,()))) λ(u14a0,_,u14a2,_)=>
  .val (bK.f (u14a2.seq,())) λc15=>
  .val (bK.f (u14a2.ack,())) λc16=>
  .ret (({u14a2 with seq:=c15,ack:=c16}:Segm),u14a0)
noncomputable def zJ:=cq st JY Ke [] [.wr false [.ptr 0],.st .conn] [.box [.st .curs]] (λx y=>(y.1.1,x.2.1,())) wE (λv=>[(true,si v.1)]) (λx y v=>((v.2,()),())) Tryz.func365 (by kernel_rfl) trivial
noncomputable def X8:=[bP,YX,az,M9,Nb,ME,zt,zJ,xE,DX,rX,Bt,lJ]
def Kn:An:=⟨⟨[],[],false,1⟩,⟨[0,4,6,7],[],false,1⟩,⟨[],[]⟩,[(.normal,⟨[zp 0 0,zs 4,zi 6,zp 7 1],[.box [.st .curs [.sl .any]],zx .segm]⟩)]⟩
def IB:An:=⟨⟨[],[],false,1⟩,⟨[0,4,6,11],[],false,1⟩,⟨[],[]⟩,[(.normal,⟨[zp 0 0,zs 4,zi 6,zs 11],[.box [.st .curs [.sl .any]]]⟩)]⟩
noncomputable def Xy:Fx:=⟨252,Tryz.f252,[(1000026,Kn),(1000111,IB)],1⟩
noncomputable def Lu:FT (Curs×Stac×Unit) (aa×Curs) (λx=>af x.1∧ax x.2.1) (λx v=>sS v.1∧af v.2):= .mk λ(y0,x1,_)=>
  .cal ba.c (y0,5,()) λc1=>
  .ite c1.1 (.cal U0.c (c1.2,()) λc2=>
   .ret (c2.1,c2.2))<|
  .cal aj.c (c1.2,2,()) λc3=>
  .cal Nk.c (c3.2,()) λc4=>
  .cal aj.c (c4.2,4,()) λc5=>
  .bnd (β:=aa×Int×Curs×Segm×Unit) (.as (λw=>sS w.1∧af w.2.2.1∧ao w.2.2.2.1) (.ite (c5.1==0) (.ite (decide (0<(x1.door.halves.length:Int))) (.cal aj.c (c5.2,(x1.door.halves.length:Int),()) λc6=>
     .grd (cj x1.door.halves c6.1)<|
     .cal sQ.c (x1.door,(x1.door.halves.getD c6.1.toNat (Ty.zero .half)).tuple,({c4.1 with from_:=(x1.door.halves.getD c6.1.toNat (Ty.zero .half)).tuple.port,seq:=(x1.door.halves.getD c6.1.toNat (Ty.zero .half)).irs}:Segm),()) λc7=>
     .cal zG.c (c6.2,({c4.1 with from_:=(x1.door.halves.getD c6.1.toNat (Ty.zero .half)).tuple.port,seq:=(x1.door.halves.getD c6.1.toNat (Ty.zero .half)).irs}:Segm),({c7 with seq:=(x1.door.halves.getD c6.1.toNat (Ty.zero .half)).iss}:Segm),()) λc8=>
     .ret ([],(x1.door.halves.getD c6.1.toNat (Ty.zero .half)).tuple.ip,c8.2,c8.1,()))<|
    .val (pc.f ((IntKind.wrap .i64 (167772162+c3.1)),c4.1,())) λc9=>
    .cal sQ.c (x1.door,c9,c4.1,()) λc10=>
    .cal zG.c (c5.2,c4.1,c10,()) λc11=>
    .ret ([],(IntKind.wrap .i64 (167772162+c3.1)),c11.2,c11.1,()))<|
   .ite (c5.1==1) (.ite (decide (0<(x1.door.table.conns.length:Int))) (.cal aj.c (c5.2,(x1.door.table.conns.length:Int),()) λc12=>
     .grd (cj x1.door.table.conns c12.1)<|
     .cal wE.c (c12.2,(x1.door.table.conns.getD c12.1.toNat (Ty.zero .conn)),()) λc13=>
     .ret ([],(x1.door.table.conns.getD c12.1.toNat (Ty.zero .conn)).tuple.ip,c13.2,c13.1,()))<|
    .ret ([],(IntKind.wrap .i64 (167772162+c3.1)),c5.2,c4.1,()))<|
   .ite (c5.1==2) (.val (pc.f ((IntKind.wrap .i64 (167772162+c3.1)),c4.1,())) λc14=>
    .cal sQ.c (x1.door,c14,c4.1,()) λc15=>
    .cal zG.c (c5.2,c4.1,c15,()) λc16=>
    .ret ([],(IntKind.wrap .i64 (167772162+c3.1)),c16.2,c16.1,()))<|
   .ret ([],(IntKind.wrap .i64 (167772162+c3.1)),c5.2,c4.1,()))) λ(u17a0,u17a1,u17a2,u17a3,_)=>
  .cal lG.c (u17a3,u17a1,167772161,()) λc18=>
  .cal ba.c (u17a2,10,()) λc19=>
  .bnd (β:=aa×Int×aa×Curs×Unit) (.as (λw=>sS w.1∧sS w.2.2.1∧af w.2.2.2.1) (.ite c19.1 (.cal wa.c (c19.2,c18,[[0],[120]],()) λc20=>
    .ret (u17a0,u17a1,c20.1,c20.2,()))<|
   .ret (u17a0,u17a1,c18,c19.2,()))) λ(_,u21a1,u21a2,u21a3,_)=>
  .cal kR.c ((⟨u21a1,167772161,9,6,0,u21a2⟩:Pack),()) λc22=>
  .cal zj.c (u21a3,c22,()) λc23=>
  .cal fD.c ((⟨11,12,2048,c23.1⟩:Fram),()) λc24=>
  .ret (c24,c23.2)
noncomputable def YI:=cq st Xy X8 [] [.wr false [.ptr 0],.st .stac] [.box [.st .curs]] (λx y=>(y.1.1,x.2.1,())) Lu (λv=>[(false,[.c (.str v.1)])]) (λx y v=>((v.2,()),())) Tryz.func252 (by kernel_rfl) trivial
noncomputable def Yv:=[nq,bP,az,xr,vT,iX,YI]
def JT:An:=⟨⟨[],[],false,1⟩,⟨[0,3,4,5],[],false,1⟩,⟨[],[]⟩,[(.normal,⟨[zp 0 0,zp 3 1,zp 4 2,zp 5 3],[.box [.st .curs [.sl .any]],.box [.st .stac [.sl .arg,.sl .arg,.sl .arg,.sl .arg,.sl .arg,.sl .arg]],.box [.st .acti [.nil .macRow]],zx .tupl]⟩)]⟩
noncomputable def YE:Fx:=⟨132,Tryz.f132,[(1000018,JT)],1⟩
noncomputable def Lt:FT (Curs×Stac×Unit) (Acti×Curs) (λx=>af x.1∧ax x.2.1) (λx v=>bq v.1∧af v.2):= .mk λ(y0,x1,_)=>
  .cal oM.c (y0,()) λc1=>
  .ite (decide (0<(x1.door.table.conns.length:Int))) (.cal ba.c (c1.2,6,()) λc2=>
   .bnd (β:=Curs×Stac×Acti×Tupl×Unit) (.as (λw=>af w.1∧ax w.2.1∧bq w.2.2.1) (.ite (!c2.1) (.cal aj.c (c2.2,(x1.door.table.conns.length:Int),()) λc3=>
     .grd (cj x1.door.table.conns c3.1)<|
     .ret (c3.2,x1,(⟨0,⟨0,0,0⟩,0,[],⟨false,0,0,[]⟩⟩:Acti),(x1.door.table.conns.getD c3.1.toNat (Ty.zero .conn)).tuple,()))<|
    .ret (c2.2,x1,(⟨0,⟨0,0,0⟩,0,[],⟨false,0,0,[]⟩⟩:Acti),c1.1,()))) λ(u4a0,u4a1,_,u4a3,_)=>
   .cal aj.c (u4a0,12,()) λc5=>
   .ite (c5.1==0) (.ret ((⟨2,⟨0,0,0⟩,0,[],⟨false,0,0,[]⟩⟩:Acti),c5.2))<|
   .ite (c5.1==1) (.cal ba.c (c5.2,2,()) λc6=>
    .ite c6.1 (.cal gm.c (c6.2,()) λc7=>
     .cal gm.c (c7.2,()) λc8=>
     .cal pW.c (c7.1,c8.1,()) λc9=>
     .ret ((⟨3,⟨0,0,0⟩,0,[],c9⟩:Acti),c8.2))<|
    .ret ((⟨4,⟨0,0,0⟩,0,[],⟨false,0,0,[]⟩⟩:Acti),c6.2))<|
   .ite (c5.1==2) (.ret ((⟨4,⟨0,0,0⟩,0,[],⟨false,0,0,[]⟩⟩:Acti),c5.2))<|
   .ite (c5.1==3) (.cal aj.c (c5.2,20,()) λc10=>
    .cal jT.c (c10.2,c10.1,()) λc11=>
    .ret ((⟨5,u4a3,0,(aw c11.1),⟨false,0,0,[]⟩⟩:Acti),c11.2))<|
   .ite (c5.1==4) (.cal aj.c (c5.2,20,()) λc12=>
    .ret ((⟨6,u4a3,c12.1,[],⟨false,0,0,[]⟩⟩:Acti),c12.2))<|
   .ite (c5.1==5) (.cal ba.c (c5.2,2,()) λc13=>
    .ite c13.1 (.ret ((⟨8,u4a3,0,[],⟨false,0,0,[]⟩⟩:Acti),c13.2))<|
    .ret ((⟨7,u4a3,0,[],⟨false,0,0,[]⟩⟩:Acti),c13.2))<|
   .cal Lu.c (c5.2,u4a1,()) λc14=>
   .ret ((⟨1,⟨0,0,0⟩,0,c14.1,⟨false,0,0,[]⟩⟩:Acti),c14.2))<|
  .cal aj.c (c1.2,12,()) λc15=>
  .ite (c15.1==0) (.ret ((⟨2,⟨0,0,0⟩,0,[],⟨false,0,0,[]⟩⟩:Acti),c15.2))<|
  .ite (c15.1==1) (.cal ba.c (c15.2,2,()) λc16=>
   .ite c16.1 (.cal gm.c (c16.2,()) λc17=>
    .cal gm.c (c17.2,()) λc18=>
    .cal pW.c (c17.1,c18.1,()) λc19=>
    .ret ((⟨3,⟨0,0,0⟩,0,[],c19⟩:Acti),c18.2))<|
   .ret ((⟨4,⟨0,0,0⟩,0,[],⟨false,0,0,[]⟩⟩:Acti),c16.2))<|
  .ite (c15.1==2) (.ret ((⟨4,⟨0,0,0⟩,0,[],⟨false,0,0,[]⟩⟩:Acti),c15.2))<|
  .ite (c15.1==3) (.cal aj.c (c15.2,20,()) λc20=>
   .cal jT.c (c20.2,c20.1,()) λc21=>
   .ret ((⟨5,c1.1,0,(aw c21.1),⟨false,0,0,[]⟩⟩:Acti),c21.2))<|
  .ite (c15.1==4) (.cal aj.c (c15.2,20,()) λc22=>
   .ret ((⟨6,c1.1,c22.1,[],⟨false,0,0,[]⟩⟩:Acti),c22.2))<|
  .ite (c15.1==5) (.cal ba.c (c15.2,2,()) λc23=>
   .ite c23.1 (.ret ((⟨8,c1.1,0,[],⟨false,0,0,[]⟩⟩:Acti),c23.2))<|
   .ret ((⟨7,c1.1,0,[],⟨false,0,0,[]⟩⟩:Acti),c23.2))<|
  .cal Lu.c (c15.2,x1,()) λc24=>
  .ret ((⟨1,⟨0,0,0⟩,0,c24.1,⟨false,0,0,[]⟩⟩:Acti),c24.2)
noncomputable def Mw:=cq st YE Yv [] [.wr false [.ptr 0],.st .stac] [.box [.st .curs]] (λx y=>(y.1.1,x.2.1,())) Lt (λv=>[(true,XM (.o true) v.1)]) (λx y v=>((v.2,()),())) Tryz.func132 (by kernel_rfl) trivial

end
end Go.Proofs.YteiiknfadjnmgaaGreat
