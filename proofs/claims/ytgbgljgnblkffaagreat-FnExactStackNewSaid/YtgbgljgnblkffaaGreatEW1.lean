/-
  Contracts of functions and plain laws (printed by a program): each theorem says what a function of the program returns; conditions are its hypotheses.
-/
import Derived.Test.YtgbgljgnblkffaaGreatBase
set_option linter.all false
set_option maxRecDepth 4000
namespace Go.Proofs.YtgbgljgnblkffaaGreat
open Go Go.RowKit
noncomputable section
@[reducible] def zp (t i:Nat):Nat×Bool×List Pt:=(t,false,[.ptr i 0])
@[reducible] def zi (t:Nat):Nat×Bool×List Pt:=(t,false,[.int .i64])
@[reducible] def zb (t:Nat):Nat×Bool×List Pt:=(t,false,[.bool])
@[reducible] def zu (t:Nat):Nat×Bool×List Pt:=(t,false,[.undef])
@[reducible] def zs (t:Nat):Nat×Bool×List Pt:=(t,false,[.str])
noncomputable def G5:FF (List Int×Unit) (Bool):=⟨λ(x0,_)=>
  .ret (decide (1048576<(x0.length:Int)))⟩
@[grind=] theorem ZX (x0:List Int):G5.f (x0,())=decide (1048576<(x0.length:Int)):=by
 simp only[G5,FF.f,Tr.nice]
noncomputable def XN:=iW st Tryz.func8 [] (ks:=[.sc (.sl .u8)]) G5 (λv=>[(false,[.c (.bool v)])])
noncomputable def AM:List (Ent1 Tryz.prog):=[]
def kI:Sh:=⟨[(0,false,[.sl .arg .half]),zp 3 0,zi 5],[.box [.st .tupl []]]⟩
noncomputable def zU:Fx:=⟨15,Tryz.f15,[(0,lb [0,3,5] [4])],0⟩
noncomputable def un (v0:List Half)(v2:Tupl)(v1:Int)(a:Unit):Tr (Stp (Unit) ((Int))):=
 .grd ((decide (0≤v1))&&(decide (v1<(v0.length:Int))))<|
 .ite (((v0.getD v1.toNat (Ty.zero .half)).tuple.ip==v2.ip)&&(((v0.getD v1.toNat (Ty.zero .half)).tuple.port==v2.port)&&(((v0.getD v1.toNat (Ty.zero .half)).tuple.my==v2.my)&&true))) (.ret (.out v1))<|
 .ret (.next ())
noncomputable def eT:kI.V→LC kI (Unit) ((Int)) (((Int))⊕(Int×Unit)):=λ(v0,v1,v2,_)=>⟨v1,(),λv1 _=>(v0,v1,v2,()),λv1 _=>(decide (v1<(v0.length:Int))),un v0 v2,up,1,(Int.toNat ((v0.length:Int)-v1)),.inl,λi a=> .inr (i,a),λ_ k w=>Sum.elim (λp=>k .ret (Sh.enc ⟨[zi 4],[]⟩ (p,()))) (λ_=>k (.exit 0) (Sh.enc ⟨[zu 4],[]⟩ ())) w⟩
theorem Ep:LS Tryz.prog zU [0] (bx 0 kI eT):=aN st (ac AM) _ eT [] trivial
theorem ER {v0:List Half}{v1:Int}{v2:Tupl}(h0:0≤v1)(h1:(v0.length:Int)≤4611686018427387904):(eT (v0,v1,v2,())).U (v0.length:Int) (λ_ _=>True) (λp=>v1≤p∧p<(v0.length:Int)):=
 LC.okU (i:=v1) (a:=()) (λ_ _=>rfl) (λ_=>rfl) rfl h0 h1 trivial λv1 _ hj hk hv=>by
  refine Tr.G2 ?_ λ_=>Tr.I (λ_=>Tr.Ro ?_) λ_=>Tr.Rn trivial
  all_goals (grind)
noncomputable def cZ:FT (List Half×Tupl×Unit) (Int) (λx=>wS x.1) (λx v=> -1≤v∧v<x.1.length):=⟨λ(x0,x1,_)=>
  .lp (eT (x0,0,x1,())).lp λw1=> .sum w1 (λp1a0=>
  .ret p1a0)<|
  λ_=>
  .ret (-1),
 λ(x0,x1,_) hp=>by
  refine Tr.L (ER ?_ ?_) (λ_ _=>Tr.Sr (Tr.R ?_)) (λp1a0 _=>Tr.Sl (Tr.R ?_))
  all_goals ((try simp only[eT,LC.lp,LC.ct,Ct.lp]at*)<;>grind)⟩
noncomputable def j7:=aZ st zU AM [(bx 0 kI eT)] (ks:=[.sc (.sl .half),.st .tupl]) cZ (λv=>[(false,[.c (.int .i64 v)])]) Tryz.func15 ⟨Ep,trivial⟩
noncomputable def AV:List (Ent1 Tryz.prog):=[]
def kK:Sh:=⟨[zp 2 0,zp 3 1,zi 5],[.box [.st .tabl [.sl .arg,.sl .arg]],.box [.st .tupl []]]⟩
noncomputable def zH:Fx:=⟨23,Tryz.f23,[(0,lb [2,3,5] [4])],0⟩
noncomputable def uk (v1:Tabl)(v2:Tupl)(v0:Int)(a:Unit):Tr (Stp (Unit) ((Int))):=
 .grd ((decide (0≤v0))&&(decide (v0<(v1.conns.length:Int))))<|
 .ite (((v1.conns.getD v0.toNat (Ty.zero .conn)).tuple.ip==v2.ip)&&(((v1.conns.getD v0.toNat (Ty.zero .conn)).tuple.port==v2.port)&&(((v1.conns.getD v0.toNat (Ty.zero .conn)).tuple.my==v2.my)&&true))) (.ret (.out v0))<|
 .ret (.next ())
noncomputable def eQ:kK.V→LC kK (Unit) ((Int)) (((Int))⊕(Int×Unit)):=λ(v0,v1,v2,_)=>⟨v0,(),λv0 _=>(v0,v1,v2,()),λv0 _=>(decide (v0<(v1.conns.length:Int))),uk v1 v2,up,1,(Int.toNat ((v1.conns.length:Int)-v0)),.inl,λi a=> .inr (i,a),λ_ k w=>Sum.elim (λp=>k .ret (Sh.enc ⟨[zi 4],[]⟩ (p,()))) (λ_=>k (.exit 0) (Sh.enc ⟨[zu 4],[]⟩ ())) w⟩
theorem Fj:LS Tryz.prog zH [0] (bx 0 kK eQ):=aN st (ac AV) _ eQ [] trivial
theorem Eu {v0:Int}{v1:Tabl}{v2:Tupl}(h0:0≤v0)(h1:(v1.conns.length:Int)≤4611686018427387904):(eQ (v0,v1,v2,())).U (v1.conns.length:Int) (λ_ _=>True) (λp=>v0≤p∧p<(v1.conns.length:Int)):=
 LC.okU (i:=v0) (a:=()) (λ_ _=>rfl) (λ_=>rfl) rfl h0 h1 trivial λv0 _ hj hk hv=>by
  refine Tr.G2 ?_ λ_=>Tr.I (λ_=>Tr.Ro ?_) λ_=>Tr.Rn trivial
  all_goals (grind)
noncomputable def cu:FT (Tabl×Tupl×Unit) (Int) (λx=>wS x.1.conns) (λx v=> -1≤v∧v<x.1.conns.length):=⟨λ(x0,x1,_)=>
  .lp (eQ (0,x0,x1,())).lp λw1=> .sum w1 (λp1a0=>
  .ret p1a0)<|
  λ_=>
  .ret (-1),
 λ(x0,x1,_) hp=>by
  refine Tr.L (Eu ?_ ?_) (λ_ _=>Tr.Sr (Tr.R ?_)) (λp1a0 _=>Tr.Sl (Tr.R ?_))
  all_goals ((try simp only[eQ,LC.lp,LC.ct,Ct.lp]at*)<;>grind)⟩
noncomputable def fo:=aZ st zH AV [(bx 0 kK eQ)] (ks:=[.st .tabl,.st .tupl]) cu (λv=>[(false,[.c (.int .i64 v)])]) Tryz.func23 ⟨Fj,trivial⟩
noncomputable def vD:List (Ent1 Tryz.prog):=[]
def jt:Sh:=⟨[(0,false,[.sl .arg .half]),(1,false,[.sl .arg .half]),zi 5],[]⟩
noncomputable def vz:Fx:=⟨26,Tryz.f26,[(0,lb [0,1,5] [4])],0⟩
noncomputable def qH (v0 v1:List Half)(v2:Int)(a:Unit):Tr (Stp (Unit) ((Unit))):=
 .grd ((decide (0≤v2))&&(decide (v2<(v0.length:Int))))<|
 .grd ((decide (0≤v2))&&(decide (v2<(v1.length:Int))))<|
 .ite (!((((v0.getD v2.toNat (Ty.zero .half)).tuple.ip==(v1.getD v2.toNat (Ty.zero .half)).tuple.ip)&&(((v0.getD v2.toNat (Ty.zero .half)).tuple.port==(v1.getD v2.toNat (Ty.zero .half)).tuple.port)&&(((v0.getD v2.toNat (Ty.zero .half)).tuple.my==(v1.getD v2.toNat (Ty.zero .half)).tuple.my)&&true)))&&(((v0.getD v2.toNat (Ty.zero .half)).iss==(v1.getD v2.toNat (Ty.zero .half)).iss)&&(((v0.getD v2.toNat (Ty.zero .half)).irs==(v1.getD v2.toNat (Ty.zero .half)).irs)&&((((v0.getD v2.toNat (Ty.zero .half)).opts.mss==(v1.getD v2.toNat (Ty.zero .half)).opts.mss)&&(((v0.getD v2.toNat (Ty.zero .half)).opts.scale==(v1.getD v2.toNat (Ty.zero .half)).opts.scale)&&(((v0.getD v2.toNat (Ty.zero .half)).opts.sack==(v1.getD v2.toNat (Ty.zero .half)).opts.sack)&&(((v0.getD v2.toNat (Ty.zero .half)).opts.stamp==(v1.getD v2.toNat (Ty.zero .half)).opts.stamp)&&(((v0.getD v2.toNat (Ty.zero .half)).opts.val==(v1.getD v2.toNat (Ty.zero .half)).opts.val)&&(((v0.getD v2.toNat (Ty.zero .half)).opts.echo==(v1.getD v2.toNat (Ty.zero .half)).opts.echo)&&true))))))&&(((v0.getD v2.toNat (Ty.zero .half)).age==(v1.getD v2.toNat (Ty.zero .half)).age)&&(((v0.getD v2.toNat (Ty.zero .half)).window==(v1.getD v2.toNat (Ty.zero .half)).window)&&true))))))) (.ret (.out ()))<|
 .ret (.next ())
noncomputable def dE:jt.V→LC jt (Unit) ((Unit)) (((Unit))⊕(Int×Unit)):=λ(v0,v1,v2,_)=>⟨v2,(),λv2 _=>(v0,v1,v2,()),λv2 _=>(decide (v2<(v0.length:Int))),qH v0 v1,up,1,(Int.toNat ((v0.length:Int)-v2)),.inl,λi a=> .inr (i,a),λ_ k w=>Sum.elim (λ_=>k .ret (Sh.enc ⟨[zb 4],[]⟩ (false,()))) (λ_=>k (.exit 0) (Sh.enc ⟨[zu 4],[]⟩ ())) w⟩
theorem Ae:LS Tryz.prog vz [0] (bx 0 jt dE):=aN st (ac vD) _ dE [] trivial
theorem AA {v0 v1:List Half}{v2:Int}(h0:0≤v2)(h1:(v0.length:Int)≤4611686018427387904)(h2:(v0.length:Int)≤(v1.length:Int)):(dE (v0,v1,v2,())).U (v0.length:Int) (λ_ _=>True) (λ_=>True):=
 LC.okU (i:=v2) (a:=()) (λ_ _=>rfl) (λ_=>rfl) rfl h0 h1 trivial λv2 _ hj hk hv=>by
  refine Tr.G2 ?_ λ_=>Tr.G2 ?_ λ_=>Tr.Z (by kernel_rfl)
  all_goals (grind)
noncomputable def mt:FT (List Half×List Half×Unit) (Bool) (λx=>sS x.1∧sS x.2.1) (λ_ _=>True):=⟨λ(x0,x1,_)=>
  .ite ((x0.length:Int) != (x1.length:Int)) (.ret false)<|
  .lp (dE (x0,x1,0,())).lp λw1=> .sum w1 (λ_=>
  .ret false)<|
  λ_=>
  .ret true,
 λ(x0,x1,_) hp=>by
  refine Tr.I (λ_=>Tr.R trivial) λ_=>Tr.L (AA ?_ ?_ ?_) (λ_ _=>Tr.Sr (Tr.R trivial)) (λ_ _=>Tr.Sl (Tr.R trivial))
  all_goals ((try simp only[dE,LC.lp,LC.ct,Ct.lp]at*)<;>grind)⟩
noncomputable def vT:=aZ st vz vD [(bx 0 jt dE)] (ks:=[.sc (.sl .half),.sc (.sl .half)]) mt (λv=>[(false,[.c (.bool v)])]) Tryz.func26 ⟨Ae,trivial⟩
noncomputable def nq:FF (Limi×Unit) (Limi):=⟨λ(x0,_)=>
  .ret x0⟩
noncomputable def MZ:=iW st Tryz.func40 [] (ks:=[.st .limi]) nq (λv=>[(true,SR v)])
noncomputable def Lt:List (Ent1 Tryz.prog):=[]
def oH:Sh:=⟨[(0,false,[.sl .arg .u8]),zi 3,zi 4],[]⟩
noncomputable def L6:Fx:=⟨48,Tryz.f48,[(0,lb [0,3,4] [0,2,3])],0⟩
noncomputable def NQ (v0:List Int)(v2:Int)(a:Int):Tr (Stp (Int) ((Int))):=
 .ite (decide (v2<4000)) (.grd ((decide (0≤v2))&&(decide (v2<(v0.length:Int))))<|
  .val (IntKind.wrap .i64 ((IntKind.wrap .i64 (a*131))+(IntKind.wrap .i64 (v0.getD v2.toNat 0)))) λe1=>
  .ret (.next (bits .and .i64 (IntKind.wrap .i64 (e1+7)) 1073741823)))<|
 .ret (.out a)
noncomputable def kj:oH.V→LC oH (Int) ((Int)) (((Int))⊕(Int×Int)):=λ(v0,v1,v2,_)=>⟨v2,v1,λv2 a=>(v0,a,v2,()),λv2 _=>(decide (v2<(v0.length:Int))),NQ v0,up,1,(Int.toNat ((v0.length:Int)-v2)),.inl,λi a=> .inr (i,a),λ_ k w=>Sum.elim (λp=>k (.exit 0) (Sh.enc ⟨[(0,false,[.sl .arg .u8]),zu 2,zi 3],[]⟩ (v0,p,()))) (λx=>k (.exit 0) (Sh.enc ⟨[(0,false,[.sl .arg .u8]),zu 2,zi 3],[]⟩ (v0,x.2,()))) w⟩
theorem MG:LS Tryz.prog L6 [0] (bx 0 oH kj):=aN st (ac Lt) _ kj [] trivial
theorem NX {v0:List Int}{v1 v2:Int}(h0:0≤v2)(h1:(v0.length:Int)≤4611686018427387904):(kj (v0,v1,v2,())).U (v0.length:Int) (λ_ _=>True) (λ_=>True):=
 LC.okU (i:=v2) (a:=v1) (λ_ _=>rfl) (λ_=>rfl) rfl h0 h1 trivial λv2 v1 hj hk hv=>by
  refine Tr.I (λ_=>Tr.G2 ?_ λ_=>Tr.Z (by kernel_rfl)) λ_=>Tr.Ro trivial
  all_goals (grind)
noncomputable def A0:FT (List Int×Unit) (Curs) (λx=>x.1.length≤1048576) (λx v=>ae v):=⟨λ(x0,_)=>
  .lp (kj (x0,(IntKind.wrap .i64 (28655+(x0.length:Int))),0,())).lp λw2=> .sum w2 (λp2a0=>
  .ret (⟨x0,0,p2a0⟩:Curs))<|
  λ(_,a2_0)=>
  .ret (⟨x0,0,a2_0⟩:Curs),
 λ(x0,_) hp=>by
  refine Tr.L (NX ?_ ?_) (λa2_0 _=>Tr.Sr (Tr.R ?_)) (λp2a0 _=>Tr.Sl (Tr.R ?_))
  all_goals ((try simp only[kj,LC.lp,LC.ct,Ct.lp]at*)<;>grind)⟩
noncomputable def U7:=aZ st L6 Lt [(bx 0 oH kj)] (ks:=[.sc (.sl .u8)]) A0 (λv=>[rb .curs v]) Tryz.func48 ⟨MG,trivial⟩
noncomputable def bc:FF (Segm×Int×Unit) (Bool):=⟨λ(x0,x1,_)=>
  .ret ((bits .and .i64 x0.flags x1)==x1)⟩
noncomputable def wG:=iW st Tryz.func59 [] (ks:=[.st .segm,.sc (.int .i64)]) bc (λv=>[(false,[.c (.bool v)])])
noncomputable def bM:FF (Int×Int×Unit) (Int):=⟨λ(x0,x1,_)=>
  .ret (bits .and .i64 (IntKind.wrap .i64 (x0+x1)) 4294967295)⟩
noncomputable def fH:=iW st Tryz.func60 [] (ks:=[.sc (.int .i64),.sc (.int .i64)]) bM (λv=>[(false,[.c (.int .i64 v)])])
noncomputable def gJ:FF (Segm×Int×Unit) (Bool):=⟨λ(x0,x1,_)=>
  .ret ((bits .and .i64 x0.flags x1)==x1)⟩
noncomputable def wh:=iW st Tryz.func62 [] (ks:=[.st .segm,.sc (.int .i64)]) gJ (λv=>[(false,[.c (.bool v)])])
noncomputable def mi:FT (Int×Int×Unit) (Mac) (λ_=>True) (λx v=>bv v):=⟨λ(x0,x1,_)=>
  .ret (⟨false,x0,x1,[]⟩:Mac),
 λ(x0,x1,_) hp=>by
  refine Tr.R ?_
  all_goals (grind)⟩
noncomputable def sZ:=bi st Tryz.func71 [] (ks:=[.sc (.int .u64),.sc (.int .u64)]) mi (λv=>[(true,DJ (.o true) v)])
noncomputable def FG:FT (Clie×Unit) (Segm) (λ_=>True) (λx v=>aj v):=⟨λ(x0,_)=>
  .ret ({x0 with from_:=x0.tuple.port,to:=x0.tuple.my,seq:=x0.isn,ack:=0,flags:=2,body:=[]}:Segm),
 λ(x0,_) hp=>by
  refine Tr.R ?_
  all_goals (grind)⟩
noncomputable def Vo:=bi st Tryz.func77 [] (ks:=[.st .clie]) FG (λv=>[(true,nk v)])
noncomputable def Fv:FT (Clie×Unit) (Segm) (λ_=>True) (λx v=>aj v):=⟨λ(x0,_)=>
  .ret ({x0 with from_:=x0.tuple.port,to:=x0.tuple.my,seq:=x0.isn,ack:=0,flags:=2,body:=[]}:Segm),
 λ(x0,_) hp=>by
  refine Tr.R ?_
  all_goals (grind)⟩
noncomputable def T7:=bi st Tryz.func84 [] (ks:=[.st .clie]) Fv (λv=>[(true,nk v)])
noncomputable def rN:List (Ent1 Tryz.prog):=[]
def gL:Sh:=⟨[zp 2 0,zp 3 1,zi 5],[.box [.st .recv [.sl .arg]],.box [.st .recv [.sl .arg]]]⟩
noncomputable def rI:Fx:=⟨89,Tryz.f89,[(0,lb [2,3,5] [4]),(3000001,rA 0 40)],0⟩
noncomputable def oj (v1 v2:Recv)(v0:Int)(a:Unit):Tr (Stp (Unit) ((Unit))):=
 .grd ((decide (0≤v0))&&(decide (v0<(v1.held.length:Int))))<|
 .grd ((decide (0≤v0))&&(decide (v0<(v2.held.length:Int))))<|
 .ite (!(((v1.held.getD v0.toNat (Ty.zero .piec)).off==(v2.held.getD v0.toNat (Ty.zero .piec)).off)&&(((v1.held.getD v0.toNat (Ty.zero .piec)).text==(v2.held.getD v0.toNat (Ty.zero .piec)).text)&&true))) (.ret (.out ()))<|
 .ret (.next ())
noncomputable def cG:gL.V→LC gL (Unit) ((Unit)) (((Unit))⊕(Int×Unit)):=λ(v0,v1,v2,_)=>⟨v0,(),λv0 _=>(v0,v1,v2,()),λv0 _=>(decide (v0<(v1.held.length:Int))),oj v1 v2,up,1,(Int.toNat ((v1.held.length:Int)-v0)),.inl,λi a=> .inr (i,a),λ_ k w=>Sum.elim (λ_=>k .ret (Sh.enc ⟨[zb 4],[]⟩ (false,()))) (λ_=>k (.exit 0) (Sh.enc ⟨[zu 4],[]⟩ ())) w⟩
theorem xe:LS Tryz.prog rI [0] (bx 0 gL cG):=aN st (ac rN) _ cG [] trivial
theorem xa {v0:Int}{v1 v2:Recv}(h0:0≤v0)(h1:(v1.held.length:Int)≤4611686018427387904)(h2:(v1.held.length:Int)≤(v2.held.length:Int)):(cG (v0,v1,v2,())).U (v1.held.length:Int) (λ_ _=>True) (λ_=>True):=
 LC.okU (i:=v0) (a:=()) (λ_ _=>rfl) (λ_=>rfl) rfl h0 h1 trivial λv0 _ hj hk hv=>by
  refine Tr.G2 ?_ λ_=>Tr.G2 ?_ λ_=>Tr.Z (by kernel_rfl)
  all_goals (grind)
noncomputable def mJ:FT (Recv×Recv×Unit) (Bool) (λx=>an x.1∧an x.2.1) (λ_ _=>True):=⟨λ(x0,x1,_)=>
  .bnd (β:=Bool×Unit) (.ite (x0.next != x1.next) (.ret (true,()))<|
   .ite (!(x0.data==x1.data)) (.ret (true,()))<|
   .ite (x0.fin != x1.fin) (.ret (true,()))<|
   .ite (!(x0.done==x1.done)) (.ret (true,()))<|
   .ret (((x0.held.length:Int) != (x1.held.length:Int)),())) λ(u1a0,_)=>
  .ite u1a0 (.ret false)<|
  .lp (cG (0,x0,x1,())).lp λw2=> .sum w2 (λ_=>
  .ret false)<|
  λ_=>
  .ret true,
 λ(x0,x1,_) hp=>by
  refine Tr.B (Q':=λ_=>True) (Tr.F (by kernel_rfl) trivial) (λ(u1a0,_) _ _=>Tr.I (λ_=>Tr.R trivial) λ_=>Tr.L (xa ?_ ?_ ?_) (λ_ _=>Tr.Sr (Tr.R trivial)) (λ_ _=>Tr.Sl (Tr.R trivial)))
  all_goals ((try simp only[cG,LC.lp,LC.ct,Ct.lp,Tr.nice,bu]at*)<;>grind)⟩
noncomputable def CD:=aZ st rI rN [(bx 0 gL cG)] (ks:=[.st .recv,.st .recv]) mJ (λv=>[(false,[.c (.bool v)])]) Tryz.func89 ⟨xe,trivial⟩
noncomputable def dk:FF (Int×Int×Int×Unit) (Bool):=⟨λ(x0,x1,x2,_)=>
  .ite (decide (x1≤x0)) (.ret (decide (x0≤x2)))<|
  .ret false⟩
@[grind=] theorem cB (x0 x1 x2:Int):dk.f (x0,x1,x2,())=(decide (x1≤x0)&&decide (x0≤x2)):=by
 simp only[dk,FF.f,Tr.nice]
 cases decide (x1≤x0)<;>rfl
noncomputable def dR:=iW st Tryz.func93 [] (ks:=[.sc (.int .i64),.sc (.int .i64),.sc (.int .i64)]) dk (λv=>[(false,[.c (.bool v)])])
noncomputable def bG:FF (Unit) (Opti):=⟨λ_=>
  .ret (⟨0,(-1),false,false,0,0⟩:Opti)⟩
noncomputable def gD:=iW st Tryz.func96 [] (ks:=[]) bG (λv=>[(true,pS v)])
noncomputable def ng:FF (Opti×Unit) (Int):=⟨λ(x0,_)=>
  .ite (x0.mss==0) (.ret 536)<|
  .ret x0.mss⟩
noncomputable def C8:=iW st Tryz.func99 [] (ks:=[.st .opti]) ng (λv=>[(false,[.c (.int .i64 v)])])
noncomputable def bo:FF (Int×Int×Int×Unit) (Bool):=⟨λ(x0,x1,x2,_)=>
  .ite (decide (x1≤x0)) (.ret (decide (x0≤x2)))<|
  .ret false⟩
@[grind=] theorem av (x0 x1 x2:Int):bo.f (x0,x1,x2,())=(decide (x1≤x0)&&decide (x0≤x2)):=by
 simp only[bo,FF.f,Tr.nice]
 cases decide (x1≤x0)<;>rfl
noncomputable def bV:=iW st Tryz.func104 [] (ks:=[.sc (.int .i64),.sc (.int .i64),.sc (.int .i64)]) bo (λv=>[(false,[.c (.bool v)])])
noncomputable def kW:FF (Int×Int×Unit) (Int):=⟨λ(x0,x1,_)=>
  .ite (decide (x0<x1)) (.ret x0)<|
  .ret x1⟩
@[grind=] theorem tq (x0 x1:Int):kW.f (x0,x1,())=(if x0<x1 then x0 else x1):=by
 simp only[kW,FF.f,Tr.nice]
 by_cases h:x0<x1<;>simp[h]
noncomputable def sx:=iW st Tryz.func127 [] (ks:=[.sc (.int .i64),.sc (.int .i64)]) kW (λv=>[(false,[.c (.int .i64 v)])])
noncomputable def jh:FT (Mac×Unit) (Mac) (λx=>bv x.1) (λx v=>bv v∧v=x.1):=⟨λ(x0,_)=>
  .grd (Nat.ble ((2*(0+x0.rows.length)+1024)*24) aF)<|
  .ret ({x0 with rows:=([]++x0.rows)}:Mac),
 λ(x0,_) hp=>by
  refine Tr.Gb ?_ λg0=>Tr.R ?_
  all_goals ((first|grind|(refine⟨by grind, ?_⟩;first|(simp only[List.nil_append];done)|(subst_vars;rfl)|simp_all)))⟩
noncomputable def qK:=bi st Tryz.func129 [] (ks:=[.st .mac]) jh (λv=>[(true,DJ (.o true) v)])
noncomputable def CX:List (Ent1 Tryz.prog):=[]
def mg:Sh:=⟨[zp 2 0,zp 3 1,zi 5],[.box [.st .mac [.sl .arg]],.box [.st .mac [.sl .arg]]]⟩
noncomputable def Dw:Fx:=⟨146,Tryz.f146,[(0,lb [2,3,5] [4]),(3000001,rA 0 33)],0⟩
noncomputable def p6 (v1 v2:Mac)(v0:Int)(a:Unit):Tr (Stp (Unit) ((Unit))):=
 .grd ((decide (0≤v0))&&(decide (v0<(v1.rows.length:Int))))<|
 .grd ((decide (0≤v0))&&(decide (v0<(v2.rows.length:Int))))<|
 .ite (!(((v1.rows.getD v0.toNat (Ty.zero .macRow)).input==(v2.rows.getD v0.toNat (Ty.zero .macRow)).input)&&(((v1.rows.getD v0.toNat (Ty.zero .macRow)).value==(v2.rows.getD v0.toNat (Ty.zero .macRow)).value)&&true))) (.ret (.out ()))<|
 .ret (.next ())
noncomputable def eA:mg.V→LC mg (Unit) ((Unit)) (((Unit))⊕(Int×Unit)):=λ(v0,v1,v2,_)=>⟨v0,(),λv0 _=>(v0,v1,v2,()),λv0 _=>(decide (v0<(v1.rows.length:Int))),p6 v1 v2,up,1,(Int.toNat ((v1.rows.length:Int)-v0)),.inl,λi a=> .inr (i,a),λ_ k w=>Sum.elim (λ_=>k .ret (Sh.enc ⟨[zb 4],[]⟩ (false,()))) (λ_=>k (.exit 0) (Sh.enc ⟨[zu 4],[]⟩ ())) w⟩
theorem HI:LS Tryz.prog Dw [0] (bx 0 mg eA):=aN st (ac CX) _ eA [] trivial
theorem Io {v0:Int}{v1 v2:Mac}(h0:0≤v0)(h1:(v1.rows.length:Int)≤4611686018427387904)(h2:(v1.rows.length:Int)≤(v2.rows.length:Int)):(eA (v0,v1,v2,())).U (v1.rows.length:Int) (λ_ _=>True) (λ_=>True):=
 LC.okU (i:=v0) (a:=()) (λ_ _=>rfl) (λ_=>rfl) rfl h0 h1 trivial λv0 _ hj hk hv=>by
  refine Tr.G2 ?_ λ_=>Tr.G2 ?_ λ_=>Tr.Z (by kernel_rfl)
  all_goals (grind)
noncomputable def ly:FT (Mac×Mac×Unit) (Bool) (λx=>bv x.1∧bv x.2.1) (λ_ _=>True):=⟨λ(x0,x1,_)=>
  .bnd (β:=Bool×Unit) (.ite (!(x0.use==x1.use)) (.ret (true,()))<|
   .ite (x0.k != x1.k) (.ret (true,()))<|
   .ite (x0.l != x1.l) (.ret (true,()))<|
   .ret (((x0.rows.length:Int) != (x1.rows.length:Int)),())) λ(u1a0,_)=>
  .ite u1a0 (.ret false)<|
  .lp (eA (0,x0,x1,())).lp λw2=> .sum w2 (λ_=>
  .ret false)<|
  λ_=>
  .ret true,
 λ(x0,x1,_) hp=>by
  refine Tr.B (Q':=λ_=>True) (Tr.F (by kernel_rfl) trivial) (λ(u1a0,_) _ _=>Tr.I (λ_=>Tr.R trivial) λ_=>Tr.L (Io ?_ ?_ ?_) (λ_ _=>Tr.Sr (Tr.R trivial)) (λ_ _=>Tr.Sl (Tr.R trivial)))
  all_goals ((try simp only[eA,LC.lp,LC.ct,Ct.lp,Tr.nice,bu]at*)<;>grind)⟩
noncomputable def C2:=aZ st Dw CX [(bx 0 mg eA)] (ks:=[.st .mac,.st .mac]) ly (λv=>[(false,[.c (.bool v)])]) Tryz.func146 ⟨HI,trivial⟩
noncomputable def BK:=[dR]
def mu:Sh:=⟨[zp 1 0,zi 3,zi 4],[.box [.st .mac [.sl .arg]]]⟩
def oU:Sh:=⟨[zp 1 0,zi 3],[.box [.st .mac [.sl .arg]]]⟩
noncomputable def B2:Fx:=⟨147,Tryz.f147,[(2,lb [1,3,4] [1,2,3]),(0,lb [1,3] [1,2])],0⟩
noncomputable def pV (vb0:Int)(vb2:Mac)(vb1:Int)(a:Unit):Tr (Stp (Unit) ((Unit))):=
 .grd ((decide (0≤vb1))&&(decide (vb1<(vb2.rows.length:Int))))<|
 .grd ((decide (0≤vb0))&&(decide (vb0<(vb2.rows.length:Int))))<|
 .ite ((vb2.rows.getD vb1.toNat (Ty.zero .macRow)).input==(vb2.rows.getD vb0.toNat (Ty.zero .macRow)).input) (.ret (.out ()))<|
 .ret (.next ())
noncomputable def gb:mu.V→LC mu (Unit) ((Unit)) (((Unit))⊕(Int×Unit)):=λ(vb0,vb1,vb2,_)=>⟨vb1,(),λvb1 _=>(vb0,vb1,vb2,()),λvb1 _=>(decide (vb1<vb0)),pV vb0 vb2,up,1,(Int.toNat (vb0-vb1)),.inl,λi a=> .inr (i,a),λ_ k w=>Sum.elim (λ_=>k .ret (Sh.enc ⟨[zp 1 0,zb 2,zi 3],[.box [.st .mac [.sl .arg]]]⟩ (false,vb0,vb2,()))) (λ_=>k (.exit 2) (Sh.enc ⟨[zp 1 0,zu 2,zi 3],[.box [.st .mac [.sl .arg]]]⟩ (vb0,vb2,()))) w⟩
theorem H9:LS Tryz.prog B2 [0,0] (bx 2 mu gb):=aN st (ac BK) _ gb [] trivial
theorem IT {vb0 vb1:Int}{vb2:Mac}(h0:0≤vb1)(h1:vb0≤4611686018427387904)(h2:vb0≤(vb2.rows.length:Int))(h3:0≤vb0)(h4:vb0<(vb2.rows.length:Int)):(gb (vb0,vb1,vb2,())).U vb0 (λ_ _=>True) (λ_=>True):=
 LC.okU (i:=vb1) (a:=()) (λ_ _=>rfl) (λ_=>rfl) rfl h0 h1 trivial λvb1 _ hj hk hv=>by
  refine Tr.G2 ?_ λ_=>Tr.G2 ?_ λ_=>Tr.Z (by kernel_rfl)
  all_goals (grind)
noncomputable def sY (v1:Mac)(v0:Int)(a:Unit):Tr (Stp (Unit) ((Unit))):=
 .grd ((decide (0≤v0))&&(decide (v0<(v1.rows.length:Int))))<|
 .val (dk.f ((v1.rows.getD v0.toNat (Ty.zero .macRow)).value,0,16777215,())) λc1=>
 .ite (!c1) (.ret (.out ()))<|
 .lp (gb (v0,0,v1,())).lp λw2=> .sum w2 (λ_=>
 .ret (.out ()))<|
 λ_=>
 .ret (.next ())
noncomputable def iE:oU.V→LC oU (Unit) ((Unit)) (((Unit))⊕(Int×Unit)):=λ(v0,v1,_)=>⟨v0,(),λv0 _=>(v0,v1,()),λv0 _=>(decide (v0<(v1.rows.length:Int))),sY v1,up,1,(Int.toNat ((v1.rows.length:Int)-v0)),.inl,λi a=> .inr (i,a),λ_ k w=>Sum.elim (λ_=>k .ret (Sh.enc ⟨[zp 1 0,zb 2],[.box [.st .mac [.sl .arg]]]⟩ (false,v1,()))) (λ_=>k (.exit 0) (Sh.enc ⟨[zp 1 0,zu 2],[.box [.st .mac [.sl .arg]]]⟩ (v1,()))) w⟩
theorem Md:LS Tryz.prog B2 [0] (bx 0 oU iE):=aN st (ac BK) _ iE [(bx 2 mu gb)] ⟨H9,trivial⟩
theorem N0 {v0:Int}{v1:Mac}(h0:0≤v0)(h1:(v1.rows.length:Int)≤4611686018427387904)(h2:bv v1):(iE (v0,v1,())).U (v1.rows.length:Int) (λ_ _=>True) (λ_=>True):=
 LC.okU (i:=v0) (a:=()) (λ_ _=>rfl) (λ_=>rfl) rfl h0 h1 trivial λv0 _ hj hk hv=>by
  refine Tr.G2 ?_ λ_=>Tr.V λ_ _=>Tr.I (λ_=>Tr.Ro trivial) λ_=>Tr.L (IT ?_ ?_ ?_ ?_ ?_) (λ_ _=>Tr.Sr (Tr.Rn trivial)) (λ_ _=>Tr.Sl (Tr.Ro trivial))
  all_goals ((try simp only[gb,LC.lp,LC.ct,Ct.lp]at*)<;>grind)
noncomputable def we:FT (Mac×Unit) (Bool) (λx=>bv x.1) (λx v=>(v=true→x.1.rows.length≤64)):=⟨λ(x0,_)=>
  .ite (!x0.use) (.ret ((x0.rows.length:Int)==0))<|
  .lp (iE (0,x0,())).lp λw3=> .sum w3 (λ_=>
  .ret false)<|
  λ_=>
  .ite (x0.k==0) (.ite (x0.l==0) (.ret (decide ((x0.rows.length:Int)≤64)))<|
   .ret false)<|
  .ret false,
 λ(x0,_) hp=>by
  refine Tr.I (λ_=>Tr.R ?_) λ_=>Tr.L (N0 ?_ ?_ ?_) (λ_ _=>Tr.Sr (Tr.I (λ_=>Tr.I (λ_=>Tr.R ?_) λ_=>Tr.R ?_) λ_=>Tr.R ?_)) (λ_ _=>Tr.Sl (Tr.R ?_))
  all_goals ((try simp only[iE,LC.lp,LC.ct,Ct.lp]at*)<;>grind)⟩
noncomputable def KK:=aZ st B2 BK [(bx 0 oU iE)] (ks:=[.st .mac]) we (λv=>[(false,[.c (.bool v)])]) Tryz.func147 ⟨Md,trivial⟩
noncomputable def zV:List (Ent1 Tryz.prog):=[]
def kU:Sh:=⟨[(0,false,[.sl .arg .tupl]),zp 3 0,zi 5],[.box [.st .tupl []]]⟩
noncomputable def zS:Fx:=⟨153,Tryz.f153,[(0,lb [0,3,5] [4])],0⟩
noncomputable def uy (v0:List Tupl)(v2:Tupl)(v1:Int)(a:Unit):Tr (Stp (Unit) ((Unit))):=
 .grd ((decide (0≤v1))&&(decide (v1<(v0.length:Int))))<|
 .ite (((v0.getD v1.toNat (Ty.zero .tupl)).ip==v2.ip)&&(((v0.getD v1.toNat (Ty.zero .tupl)).port==v2.port)&&(((v0.getD v1.toNat (Ty.zero .tupl)).my==v2.my)&&true))) (.ret (.out ()))<|
 .ret (.next ())
noncomputable def ff:kU.V→LC kU (Unit) ((Unit)) (((Unit))⊕(Int×Unit)):=λ(v0,v1,v2,_)=>⟨v1,(),λv1 _=>(v0,v1,v2,()),λv1 _=>(decide (v1<(v0.length:Int))),uy v0 v2,up,1,(Int.toNat ((v0.length:Int)-v1)),.inl,λi a=> .inr (i,a),λ_ k w=>Sum.elim (λ_=>k .ret (Sh.enc ⟨[zb 4],[]⟩ (true,()))) (λ_=>k (.exit 0) (Sh.enc ⟨[zu 4],[]⟩ ())) w⟩
theorem EX:LS Tryz.prog zS [0] (bx 0 kU ff):=aN st (ac zV) _ ff [] trivial
theorem EM {v0:List Tupl}{v1:Int}{v2:Tupl}(h0:0≤v1)(h1:(v0.length:Int)≤4611686018427387904):(ff (v0,v1,v2,())).U (v0.length:Int) (λ_ _=>True) (λ_=>True):=
 LC.okU (i:=v1) (a:=()) (λ_ _=>rfl) (λ_=>rfl) rfl h0 h1 trivial λv1 _ hj hk hv=>by
  refine Tr.G2 ?_ λ_=>Tr.Z (by kernel_rfl)
  all_goals (grind)
noncomputable def tA:FT (List Tupl×Tupl×Unit) (Bool) (λx=>wS x.1) (λ_ _=>True):=⟨λ(x0,x1,_)=>
  .lp (ff (x0,0,x1,())).lp λw1=> .sum w1 (λ_=>
  .ret true)<|
  λ_=>
  .ret false,
 λ(x0,x1,_) hp=>by
  refine Tr.L (EM ?_ ?_) (λ_ _=>Tr.Sr (Tr.R trivial)) (λ_ _=>Tr.Sl (Tr.R trivial))
  all_goals ((try simp only[ff,LC.lp,LC.ct,Ct.lp]at*)<;>grind)⟩
noncomputable def N7:=aZ st zS zV [(bx 0 kU ff)] (ks:=[.sc (.sl .tupl),.st .tupl]) tA (λv=>[(false,[.c (.bool v)])]) Tryz.func153 ⟨EX,trivial⟩
noncomputable def bF:FF (Int×Unit) (Int):=⟨λ(x0,_)=>
  .ite (decide ((x0.tmod 4294967296)<0)) (.ret (IntKind.wrap .i64 ((x0.tmod 4294967296)+4294967296)))<|
  .ret (x0.tmod 4294967296)⟩
@[grind=] theorem YP (x0:Int):bF.f (x0,())=(x0%4294967296):=by
 simp only[bF,FF.f,Tr.nice]
 rcases Int.lt_or_le x0 0 with h|h
 ·rw[(gn 4294967296).2 h,cm]
  cases hd:decide (-(-x0%4294967296)<0)with
  |true=>simp only[decide_eq_true_eq]at hd;simp only[cond_true];omega
  |false=>simp only[decide_eq_false_iff_not]at hd;simp only[cond_false];omega
 ·rw[(gn 4294967296).1 h,cm]
  cases hd:decide (x0%4294967296<0)with
  |true=>simp only[decide_eq_true_eq]at hd;omega
  |false=>rfl
noncomputable def ic:=iW st Tryz.func161 [] (ks:=[.sc (.int .i64)]) bF (λv=>[(false,[.c (.int .i64 v)])])
noncomputable def ep:FT (List Half×Unit) (List Half) (λx=>sS x.1) (λx v=>v=x.1):=⟨λx=> .ret x.1,λ_ _=>Tr.R rfl⟩
theorem Ht (x:List Half×Unit)(hp:sS x.1):Jx Tryz.prog 176 (Jy [.sc (.sl .half)] x) ((λv=>[rv (.sc (.sl .half)) [.o true] v]) (ep.f x)):=by
 refine Jx.byNil (t:= .half) (xs:=x.1) (λh=> ?_) ?_
 ·obtain⟨x,_⟩:=x;subst h
  exact YJ st Tryz.func176 (by kernel_rfl) (by kernel_rfl)
 ·exact YJ st Tryz.func176 (by kernel_rfl) (Eq.trans (b:=bif Nat.ble ((2*(0+x.1.length)+1024)*96) aF then some ((λv=>[rv (.sc (.sl .half)) [.o true] v]) x.1)else none) (by kernel_rfl) (by rw[show Nat.ble ((2*(0+x.1.length)+1024)*96) aF=true by simp only[Nat.ble_eq,aF];simp only[sS]at hp;omega];rfl))
noncomputable def ql:Ent1 Tryz.prog:=XQ 176 (ks:=[.sc (.sl .half)]) ep.c (λv=>[rv (.sc (.sl .half)) [.o true] v]) Ht
noncomputable def wN:FF (Int×Segm×Unit) (Tupl):=⟨λ(x0,x1,_)=>
  .ret (⟨x0,x1.from_,x1.to⟩:Tupl)⟩
noncomputable def Q1:=iW st Tryz.func179 [] (ks:=[.sc (.int .i64),.st .segm]) wN (λv=>[(true,Gq v)])
noncomputable def rU:FT (Keys×Unit) (Keys) (λx=>bE x.1) (λx v=>bE v∧v=x.1):=⟨λ(x0,_)=>
  .cal jh.c (x0.now,()) λc1=>
  .cal jh.c (x0.before,()) λc2=>
  .ret (⟨x0.epoch,c1,c2,x0.two⟩:Keys),
 λ(x0,_) hp=>by
  refine Tr.C ?_ λc1 hc1 qc1=>Tr.C ?_ λc2 hc2 qc2=>Tr.R ?_
  all_goals ((first|grind|(refine⟨by grind, ?_⟩;first|(simp only[List.nil_append];done)|(subst_vars;rfl)|simp_all)))⟩
noncomputable def DB:=bi st Tryz.func191 [qK] (ks:=[.st .keys]) rU (λv=>[(true,yE (.o true) (.o true) v)])
noncomputable def nb:FF (Int×Segm×Unit) (Tupl):=⟨λ(x0,x1,_)=>
  .ret (⟨x0,x1.from_,x1.to⟩:Tupl)⟩
noncomputable def DQ:=iW st Tryz.func192 [] (ks:=[.sc (.int .i64),.st .segm]) nb (λv=>[(true,Gq v)])
noncomputable def py:FT (List Half×Tupl×Unit) (List Half) (λx=>sS x.1) (λx v=>sS v):=⟨λ(x0,x1,_)=>
  .cal cZ.c (x0,x1,()) λc1=>
  .ite (decide (c1<0)) (.grd (Nat.ble ((2*(0+x0.length)+1024)*96) aF)<|
   .ret ([]++x0))<|
  .grd ((decide (0≤c1))&&(decide (c1≤(x0.length:Int))))<|
  .grd (Nat.ble ((2*(0+((x0.take c1.toNat).drop 0).length)+1024)*96) aF)<|
  .grd (((decide (0≤(IntKind.wrap .i64 (c1+1))))&&(decide ((IntKind.wrap .i64 (c1+1))≤(x0.length:Int))))&&(decide ((x0.length:Int)≤(x0.length:Int))))<|
  .grd (Nat.ble ((2*(([]++((x0.take c1.toNat).drop 0)).length+((x0.take ((x0.length:Int).toNat)).drop ((IntKind.wrap .i64 (c1+1)).toNat)).length)+1024)*96) aF)<|
  .val (([]++((x0.take c1.toNat).drop 0))++((x0.take ((x0.length:Int).toNat)).drop ((IntKind.wrap .i64 (c1+1)).toNat))) λl2=>
  .ret l2,
 λ(x0,x1,_) hp=>by
  refine Tr.C ?_ λ_ _ _=>Tr.I (λ_=>Tr.Gb ?_ λ_=>Tr.R ?_) λ_=>Tr.G2 ?_ λ_=>Tr.Gb ?_ λ_=>Tr.G3 ?_ λ_=>Tr.Gb ?_ λ_=>Tr.V λ_ _=>Tr.R ?_
  all_goals (grind)⟩
noncomputable def zq:=bi st Tryz.func195 [j7] (ks:=[.sc (.sl .half),.st .tupl]) py (λv=>[(false,[sc (.o true) .half v])])
noncomputable def cr:FF (Unit) (Opti):=⟨λ_=>
  .ret (⟨0,(-1),false,false,0,0⟩:Opti)⟩
noncomputable def em:=iW st Tryz.func198 [] (ks:=[]) cr (λv=>[(true,pS v)])
noncomputable def dJ:FT (Recv×Unit) (Recv) (λx=>an x.1) (λx v=>an v∧v=x.1):=⟨λ(x0,_)=>
  .grd (Nat.ble ((2*(0+x0.held.length)+1024)*24) aF)<|
  .ret ({x0 with held:=([]++x0.held)}:Recv),
 λ(x0,_) hp=>by
  refine Tr.Gb ?_ λg0=>Tr.R ?_
  all_goals ((first|grind|(refine⟨by grind, ?_⟩;first|(simp only[List.nil_append];done)|(subst_vars;rfl)|simp_all)))⟩
noncomputable def vG:=bi st Tryz.func199 [] (ks:=[.st .recv]) dJ (λv=>[(true,sT (.o true) v)])
noncomputable def tn:FT (Limi×Unit) (Bool) (λ_=>True) (λx v=>(v=true→x.1.halves≤64∧x.1.waiting≤16∧x.1.conns≤16)):=⟨λ(x0,_)=>
  .val (dk.f (x0.halves,1,64,())) λc1=>
  .ite c1 (.val (dk.f (x0.waiting,1,16,())) λc2=>
   .ite c2 (.val (dk.f (x0.conns,1,16,())) λc3=>
    .ite c3 (.val (dk.f (x0.chal,0,1000,())) λc4=>
     .ret c4)<|
    .ret false)<|
   .ret false)<|
  .ret false,
 λ(x0,_) hp=>by
  refine Tr.V λ_ _=>Tr.I (λ_=>Tr.V λ_ _=>Tr.I (λ_=>Tr.V λ_ _=>Tr.I (λ_=>Tr.V λ_ _=>Tr.R ?_) λ_=>Tr.R ?_) λ_=>Tr.R ?_) λ_=>Tr.R ?_
  all_goals (grind)⟩
noncomputable def Nd:=bi st Tryz.func200 [dR] (ks:=[.st .limi]) tn (λv=>[(false,[.c (.bool v)])])
noncomputable def fX:FT (Limi×Unit) (Bool) (λ_=>True) (λx v=>(v=true→x.1.halves≤64∧x.1.waiting≤16∧x.1.conns≤16)):=⟨λ(x0,_)=>
  .val (bo.f (x0.halves,1,64,())) λc1=>
  .ite c1 (.val (bo.f (x0.waiting,1,16,())) λc2=>
   .ite c2 (.val (bo.f (x0.conns,1,16,())) λc3=>
    .ite c3 (.val (bo.f (x0.chal,0,1000,())) λc4=>
     .ret c4)<|
    .ret false)<|
   .ret false)<|
  .ret false,
 λ(x0,_) hp=>by
  refine Tr.V λ_ _=>Tr.I (λ_=>Tr.V λ_ _=>Tr.I (λ_=>Tr.V λ_ _=>Tr.I (λ_=>Tr.V λ_ _=>Tr.R ?_) λ_=>Tr.R ?_) λ_=>Tr.R ?_) λ_=>Tr.R ?_
  all_goals (grind)⟩
noncomputable def Nc:=bi st Tryz.func204 [bV] (ks:=[.st .limi]) fX (λv=>[(false,[.c (.bool v)])])
noncomputable def t7:List (Ent1 Tryz.prog):=[]
def iB:Sh:=⟨[(0,false,[.sl .arg .tupl]),zp 3 0,zi 7,zi 8],[.box [.st .tupl []]]⟩
noncomputable def t6:Fx:=⟨206,Tryz.f206,[(0,lb [0,3,7,8] [4])],0⟩
noncomputable def pL (v0:List Tupl)(v3:Tupl)(v2:Int)(a:Unit):Tr (Stp (Unit) ((Int))):=
 .grd ((decide (0≤v2))&&(decide (v2<(v0.length:Int))))<|
 .ite ((v3.ip==(v0.getD v2.toNat (Ty.zero .tupl)).ip)&&((v3.port==(v0.getD v2.toNat (Ty.zero .tupl)).port)&&((v3.my==(v0.getD v2.toNat (Ty.zero .tupl)).my)&&true))) (.ret (.out v2))<|
 .ret (.next ())
noncomputable def cT:iB.V→LC iB (Unit) ((Int)) (((Int))⊕(Int×Unit)):=λ(v0,v1,v2,v3,_)=>⟨v2,(),λv2 _=>(v0,v1,v2,v3,()),λv2 _=>(decide (v2<v1)),pL v0 v3,up,1,(Int.toNat (v1-v2)),.inl,λi a=> .inr (i,a),λ_ k w=>Sum.elim (λp=>k .ret (Sh.enc ⟨[zi 4],[]⟩ (p,()))) (λ_=>k (.exit 0) (Sh.enc ⟨[zu 4],[]⟩ ())) w⟩
theorem yP:LS Tryz.prog t6 [0] (bx 0 iB cT):=aN st (ac t7) _ cT [] trivial
theorem yz {v0:List Tupl}{v1 v2:Int}{v3:Tupl}(h0:0≤v2)(h1:v1≤4611686018427387904)(h2:v1≤(v0.length:Int)):(cT (v0,v1,v2,v3,())).U v1 (λ_ _=>True) (λp=>v2≤p∧p<v1):=
 LC.okU (i:=v2) (a:=()) (λ_ _=>rfl) (λ_=>rfl) rfl h0 h1 trivial λv2 _ hj hk hv=>by
  refine Tr.G2 ?_ λ_=>Tr.I (λ_=>Tr.Ro ?_) λ_=>Tr.Rn trivial
  all_goals (grind)
noncomputable def nM:FT (List Tupl×Tupl×Unit) (Int) (λx=>wS x.1) (λx v=> -1≤v∧v<x.1.length):=⟨λ(x0,x1,_)=>
  .lp (cT (x0,(x0.length:Int),0,x1,())).lp λw1=> .sum w1 (λp1a0=>
  .ret p1a0)<|
  λ_=>
  .ret (-1),
 λ(x0,x1,_) hp=>by
  refine Tr.L (yz ?_ ?_ ?_) (λ_ _=>Tr.Sr (Tr.R ?_)) (λp1a0 _=>Tr.Sl (Tr.R ?_))
  all_goals ((try simp only[cT,LC.lp,LC.ct,Ct.lp]at*)<;>grind)⟩
noncomputable def Fe:=aZ st t6 t7 [(bx 0 iB cT)] (ks:=[.sc (.sl .tupl),.st .tupl]) nM (λv=>[(false,[.c (.int .i64 v)])]) Tryz.func206 ⟨yP,trivial⟩
noncomputable def Ln:List (Ent1 Tryz.prog):=[]
def o8:Sh:=⟨[(0,false,[.sl .arg .entr]),zi 1,zi 5],[]⟩
noncomputable def KQ:Fx:=⟨236,Tryz.f236,[(0,lb [0,1,5] [4])],0⟩
noncomputable def zO (v0:List Entr)(v1:Int)(v2:Int)(a:Unit):Tr (Stp (Unit) ((Int))):=
 .grd ((decide (0≤v2))&&(decide (v2<(v0.length:Int))))<|
 .ite ((v0.getD v2.toNat (Ty.zero .entr)).ip==v1) (.ret (.out v2))<|
 .ret (.next ())
noncomputable def iI:o8.V→LC o8 (Unit) ((Int)) (((Int))⊕(Int×Unit)):=λ(v0,v1,v2,_)=>⟨v2,(),λv2 _=>(v0,v1,v2,()),λv2 _=>(decide (v2<(v0.length:Int))),zO v0 v1,up,1,(Int.toNat ((v0.length:Int)-v2)),.inl,λi a=> .inr (i,a),λ_ k w=>Sum.elim (λp=>k .ret (Sh.enc ⟨[zi 4],[]⟩ (p,()))) (λ_=>k (.exit 0) (Sh.enc ⟨[zu 4],[]⟩ ())) w⟩
theorem Mx:LS Tryz.prog KQ [0] (bx 0 o8 iI):=aN st (ac Ln) _ iI [] trivial
theorem NC {v0:List Entr}{v1 v2:Int}(h0:0≤v2)(h1:(v0.length:Int)≤4611686018427387904):(iI (v0,v1,v2,())).U (v0.length:Int) (λ_ _=>True) (λp=>v2≤p∧p<(v0.length:Int)):=
 LC.okU (i:=v2) (a:=()) (λ_ _=>rfl) (λ_=>rfl) rfl h0 h1 trivial λv2 _ hj hk hv=>by
  refine Tr.G2 ?_ λ_=>Tr.I (λ_=>Tr.Ro ?_) λ_=>Tr.Rn trivial
  all_goals (grind)
noncomputable def Fu:FT (List Entr×Int×Unit) (Int) (λx=>sS x.1) (λx v=> -1≤v∧v<x.1.length):=⟨λ(x0,x1,_)=>
  .lp (iI (x0,x1,0,())).lp λw1=> .sum w1 (λp1a0=>
  .ret p1a0)<|
  λ_=>
  .ret (-1),
 λ(x0,x1,_) hp=>by
  refine Tr.L (NC ?_ ?_) (λ_ _=>Tr.Sr (Tr.R ?_)) (λp1a0 _=>Tr.Sl (Tr.R ?_))
  all_goals ((try simp only[iI,LC.lp,LC.ct,Ct.lp]at*)<;>grind)⟩
noncomputable def Uc:=aZ st KQ Ln [(bx 0 o8 iI)] (ks:=[.sc (.sl .entr),.sc (.int .i64)]) Fu (λv=>[(false,[.c (.int .i64 v)])]) Tryz.func236 ⟨Mx,trivial⟩
noncomputable def dW:FX (MacRow×Int×Unit) (Int) (λ_=>True) (lx [.st .macRow,.sc (.int .i64)]):=⟨λ(x0,x1,_)=>
  .ite (decide ((IntKind.wrap .i64 (x1-(x0.input.length:Int)))<0)) (.ret (-1))<|
  .ret (IntKind.wrap .i64 (x1-(x0.input.length:Int))),
 λ(x0,x1,_) hp hf=>by
  simp only[lx,Pk.fact,xS,sr,Fl.fact,Ty.fl,Ty.toH]at hf
  refine Tr.F (by kernel_rfl) trivial⟩
noncomputable def M9:=YG st Tryz.func245 [] (ks:=[.st .macRow,.sc (.int .i64)]) dW (λv=>[(false,[.c (.int .i64 v)])])
noncomputable def yS:FT (MacRow×Unit) (MacRow) (λx=>ay x.1) (λx v=>ay v):=⟨λ(x0,_)=>
  .ret x0,
 λ(x0,_) hp=>by
  refine Tr.R ?_
  all_goals (grind)⟩
noncomputable def Ng:=bi st Tryz.func246 [] (ks:=[.st .macRow]) yS (λv=>[(true,Wb v)])
noncomputable def mN:FT (List MacRow×Unit) (List MacRow) (λx=>sS x.1) (λx v=>v=x.1):=⟨λx=> .ret x.1,λ_ _=>Tr.R rfl⟩
theorem BM (x:List MacRow×Unit)(hp:sS x.1):Jx Tryz.prog 247 (Jy [.sc (.sl .macRow)] x) ((λv=>[rv (.sc (.sl .macRow)) [.o true] v]) (mN.f x)):=by
 refine Jx.byNil (t:= .macRow) (xs:=x.1) (λh=> ?_) ?_
 ·obtain⟨x,_⟩:=x;subst h
  exact YJ st Tryz.func247 (by kernel_rfl) (by kernel_rfl)
 ·exact YJ st Tryz.func247 (by kernel_rfl) (Eq.trans (b:=bif Nat.ble ((2*(0+x.1.length)+1024)*24) aF then some ((λv=>[rv (.sc (.sl .macRow)) [.o true] v]) x.1)else none) (by kernel_rfl) (by rw[show Nat.ble ((2*(0+x.1.length)+1024)*24) aF=true by simp only[Nat.ble_eq,aF];simp only[sS]at hp;omega];rfl))
noncomputable def Cq:Ent1 Tryz.prog:=XQ 247 (ks:=[.sc (.sl .macRow)]) mN.c (λv=>[rv (.sc (.sl .macRow)) [.o true] v]) BM
noncomputable def sN:FF (Limi×Limi×Unit) (Bool):=⟨λ(x0,x1,_)=>
  .ite (x0.halves != x1.halves) (.ret false)<|
  .ite (x0.waiting != x1.waiting) (.ret false)<|
  .ite (x0.conns != x1.conns) (.ret false)<|
  .ite (x0.chal != x1.chal) (.ret false)<|
  .ret true⟩
noncomputable def NV:=iW st Tryz.func250 [] (ks:=[.st .limi,.st .limi]) sN (λv=>[(false,[.c (.bool v)])])
noncomputable def tc:FF (MacRow×MacRow×Unit) (Bool):=⟨λ(x0,x1,_)=>
  .ite (!(x0.input==x1.input)) (.ret false)<|
  .ite (x0.value != x1.value) (.ret false)<|
  .ret true⟩
noncomputable def MV:=iW st Tryz.func253 [] (ks:=[.st .macRow,.st .macRow]) tc (λv=>[(false,[.c (.bool v)])])
noncomputable def Bp:List (Ent1 Tryz.prog):=[]
def kO:Sh:=⟨[zi 0,zs 3],[]⟩
noncomputable def Am:Fx:=⟨254,Tryz.f254,[(0,lb [0,3] [2,3])],0⟩
noncomputable def EN (a:Int×ax):Tr (Stp (Int×ax) ((ax))):=
 .ite (decide (0<a.1)) (.grd (Nat.ble ((ar [(IntKind.wrap .u8 (IntKind.wrap .i64 (48+(a.1.tmod 10))))]).length+a.2.length) dq)<|
  .val ((ar [(IntKind.wrap .u8 (IntKind.wrap .i64 (48+(a.1.tmod 10))))])++a.2) λe1=>
  .ret (.next ((IntKind.wrap .i64 (a.1.tdiv 10)),e1)))<|
 .ret (.out a.2)
noncomputable def gl:kO.V→LW kO (Int×ax) ((ax)):=λ(v0,v1,_)=>⟨(v0,v1),λa=>(a.1,a.2,()),EN,Int.toNat v0,λ_ k p=>k (.exit 0) (Sh.enc ⟨[zu 2,zs 3],[]⟩ (p,()))⟩
theorem Em:LS Tryz.prog Am [0] (SX 0 kO gl):=Hz st (ac Bp) _ gl [] trivial
theorem ET {v0:Int}{v1:ax}(h0:0≤v0∧v0*10 ^ v1.length≤9223372036854775807∧v1.length≤19):(gl (v0,v1,())).W (λp=>p.length≤19):=
 LW.okW (a:=(v0,v1)) (λa=>0≤a.1∧a.1*10 ^ a.2.length≤9223372036854775807∧a.2.length≤19) (λa=>Int.toNat a.1) rfl h0 λ(v0,v1) hv=>by
  refine Tr.I (λb0=>Tr.Gb ?_ λg1=>Tr.V λe1 he1=>Tr.Rn ?_) λb0=>Tr.Ro ?_
  all_goals ((first|grind|(obtain⟨h1,h2,h3⟩:=hv;simp only[]at h1 h2 h3 he1;simp only[decide_eq_true_eq]at b0;have hq:(0:Int)<10 ^ v1.length:=Int.pow_pos (by omega);have hm:=Int.mul_le_mul_of_nonneg_left (show(1:Int)≤10 ^ v1.length by omega) h1;have h4:v0≤9223372036854775807:=(by omega);have e:IntKind.wrap .i64 (v0.tdiv 10)=v0/10:=(congrArg IntKind.i64.wrap ((sD 10).1 h1)).trans (aA (by omega) (by omega));have h5:v0/10*10 ^ (v1.length+1)≤v0*10 ^ v1.length:=(by rw[Int.pow_succ,Int.mul_comm (10 ^ v1.length) 10,←Int.mul_assoc];exact Int.mul_le_mul_of_nonneg_right (by omega) (Int.le_of_lt hq));have h6:v1.length≤18:=Classical.byContradiction λhh=>(by have h7:v1.length=19:=(by omega);rw[h7]at h2;omega);have h8:e1.length=v1.length+1:=(by rw[he1,List.length_append,bj];simp only[List.length_cons,List.length_nil];omega);simp only[e,h8];exact⟨⟨by omega,Int.le_trans h5 h2,by omega⟩,by omega⟩)))
noncomputable def eX:FT (Int×Unit) (ax) (λx=>x.1≤9223372036854775807) (λx v=>sS v):=⟨λ(x0,_)=>
  .ite (decide (x0≤0)) (.ret [109,48])<|
  .lp (gl (x0,[],())).lp λp2a0=>
  .grd (Nat.ble (1+p2a0.length) dq)<|
  .ret ([109]++p2a0),
 λ(x0,_) hp=>by
  refine Tr.I (λ_=>Tr.R ?_) λ_=>Tr.L (ET ?_) (λa=>Empty.elim a) (λp2a0 _=>Tr.Gb ?_ λ_=>Tr.R ?_)
  all_goals ((try simp only[gl,LW.lp,LW.cw,Cw.lp]at*)<;>grind)⟩
@[grind=] theorem aam (m:Int):IntKind.wrap .i64 m=min (IntKind.wrap .i64 m) 9223372036854775807:=by rw[cm];omega
noncomputable def oG:=aZ st Am Bp [(SX 0 kO gl)] (ks:=[.sc (.int .i64)]) eX (λv=>[(false,[.c (.str v)])]) Tryz.func254 ⟨Em,trivial⟩
noncomputable def vY:List (Ent1 Tryz.prog):=[]
def jz:Sh:=⟨[(0,false,[.own 0]),zi 1,zi 5],[.arr .entr false false]⟩
noncomputable def vk:Fx:=⟨255,Tryz.f255,[(0,la ⟨[0,1,5],[],false,1⟩ ⟨[1,4],[],false,1⟩)],1⟩
noncomputable def z7 (v1:Int)(a:Int×List Entr):Tr (Stp (Int×List Entr) (Empty)):=
 .grd ((decide (0≤v1))&&(decide (v1<(a.2.length:Int))))<|
 .grd ((decide (0≤v1))&&(decide (v1<((a.2.set v1.toNat ({(a.2.getD v1.toNat (Ty.zero .entr))with ip:=a.1}:Entr)).length:Int))))<|
 .val ((a.2.set v1.toNat ({(a.2.getD v1.toNat (Ty.zero .entr))with ip:=a.1}:Entr)).set v1.toNat ({((a.2.set v1.toNat ({(a.2.getD v1.toNat (Ty.zero .entr))with ip:=a.1}:Entr)).getD v1.toNat (Ty.zero .entr))with hw:=(IntKind.wrap .i64 (a.1+1))}:Entr)) λl1=>
 .grd ((decide (0≤v1))&&(decide (v1<(l1.length:Int))))<|
 .val (l1.set v1.toNat ({(l1.getD v1.toNat (Ty.zero .entr))with age:=(IntKind.wrap .i64 ((IntKind.wrap .i64 (a.1+1))+1))}:Entr)) λl2=>
 .val (IntKind.wrap .i64 ((IntKind.wrap .i64 ((IntKind.wrap .i64 (a.1+1))+1))+1)) λe3=>
 .ret (.next (e3,l2))
noncomputable def bA:jz.V→LC jz (Int×List Entr) (Empty) (Int×(Int×List Entr)):=λ(v0,v1,v2,_)=>⟨v1,(v0,v2),λv1 a=>(a.1,v1,a.2,()),λv1 a=>(decide (v1<(a.2.length:Int))),z7,up,1,(Int.toNat ((v2.length:Int)-v1)),(λp=>Empty.elim p),λi a=>(i,a),λ_ k x=>k (.exit 0) (Sh.enc ⟨[zi 1,zu 4],[.arr .entr false false]⟩ (x.2.1,x.2.2,()))⟩
theorem Bz:LS Tryz.prog vk [0] (bx 0 jz bA):=aN st (ac vY) _ bA [] trivial
theorem Br {v0 v1:Int}{v2:List Entr}(h0:0≤v1)(h1:(v2.length:Int)≤4611686018427387904)(h2:sS v2)(h3:v2.length=v2.length∧v0≤9223372036854775807):(bA (v0,v1,v2,())).S (λv1 a=>a.2.length=v2.length∧a.2.length=v2.length∧a.1≤9223372036854775807) (λ_=>True):=by
 refine LC.okS ⟨rfl,h3⟩ (λj a hj hv=>⟨⟨?_, ?_⟩, ?_⟩) (λa hv=> ?_)
 ·simp only[bA,decide_eq_true_eq]at*;omega
 ·simp only[bA]at*;exact ZN (by omega) (by omega)
 ·refine Tr.G2 ?_ λ_=>Tr.G2 ?_ λ_=>Tr.V λ_ _=>Tr.G2 ?_ λ_=>Tr.V λ_ _=>Tr.V λ_ _=>Tr.Rn ?_
  all_goals (try simp only[bA]at*)<;>(grind)
 ·simp only[bA,decide_eq_false_iff_not]at*;omega
noncomputable def oE:FT (List Entr×Int×Unit) (Int×List Entr) (λx=>sS x.1∧x.2.1≤9223372036854775807) (λx v=>sS v.2∧v.1≤9223372036854775807):=⟨λ(x0,x1,_)=>
  .lp (bA (x1,0,x0,())).lp λ(_,a4_0,a4_1)=>
  .ret (a4_0,a4_1),
 λ(x0,x1,_) hp=>by
  refine Tr.L (Br ?_ ?_ ?_ ?_) (λ(a4_0,a4_1) _=>Tr.R ?_) (λp=>Empty.elim p)
  all_goals ((try simp only[bA,LC.lp,LC.ct,Ct.lp]at*)<;>grind)⟩
noncomputable def FW:=cI st vk vY [(bx 0 jz bA)] [.wr false [.own 0],.sc (.int .i64)] [.arr .entr] (λx y=>(y.1,x.2.1,())) oE (λv=>[(false,[.c (.int .i64 v.1)])]) (λx y v=>(v.2,())) Tryz.func255 (by kernel_rfl) ⟨Bz,trivial⟩
noncomputable def xF:List (Ent1 Tryz.prog):=[]
def ki:Sh:=⟨[(0,false,[.own 0]),zi 1,zi 5],[.arr .half false false]⟩
noncomputable def xY:Fx:=⟨257,Tryz.f257,[(0,la ⟨[0,1,5],[],false,1⟩ ⟨[1,4],[],false,1⟩)],1⟩
noncomputable def CE (v1:Int)(a:Int×List Half):Tr (Stp (Int×List Half) (Empty)):=
 .grd ((decide (0≤v1))&&(decide (v1<(a.2.length:Int))))<|
 .grd ((decide (0≤v1))&&(decide (v1<((a.2.set v1.toNat ({(a.2.getD v1.toNat (Ty.zero .half))with tuple.ip:=a.1}:Half)).length:Int))))<|
 .val ((a.2.set v1.toNat ({(a.2.getD v1.toNat (Ty.zero .half))with tuple.ip:=a.1}:Half)).set v1.toNat ({((a.2.set v1.toNat ({(a.2.getD v1.toNat (Ty.zero .half))with tuple.ip:=a.1}:Half)).getD v1.toNat (Ty.zero .half))with tuple.port:=(IntKind.wrap .i64 (a.1+1))}:Half)) λl1=>
 .grd ((decide (0≤v1))&&(decide (v1<(l1.length:Int))))<|
 .val (l1.set v1.toNat ({(l1.getD v1.toNat (Ty.zero .half))with tuple.my:=(IntKind.wrap .i64 ((IntKind.wrap .i64 (a.1+1))+1))}:Half)) λl2=>
 .val (IntKind.wrap .i64 ((IntKind.wrap .i64 ((IntKind.wrap .i64 (a.1+1))+1))+1)) λe3=>
 .grd ((decide (0≤v1))&&(decide (v1<(l2.length:Int))))<|
 .grd ((decide (0≤v1))&&(decide (v1<((l2.set v1.toNat ({(l2.getD v1.toNat (Ty.zero .half))with iss:=e3}:Half)).length:Int))))<|
 .val ((l2.set v1.toNat ({(l2.getD v1.toNat (Ty.zero .half))with iss:=e3}:Half)).set v1.toNat ({((l2.set v1.toNat ({(l2.getD v1.toNat (Ty.zero .half))with iss:=e3}:Half)).getD v1.toNat (Ty.zero .half))with irs:=(IntKind.wrap .i64 (e3+1))}:Half)) λl4=>
 .grd ((decide (0≤v1))&&(decide (v1<(l4.length:Int))))<|
 .val (l4.set v1.toNat ({(l4.getD v1.toNat (Ty.zero .half))with opts.mss:=(IntKind.wrap .i64 ((IntKind.wrap .i64 (e3+1))+1))}:Half)) λl5=>
 .val (IntKind.wrap .i64 ((IntKind.wrap .i64 ((IntKind.wrap .i64 (e3+1))+1))+1)) λe6=>
 .grd ((decide (0≤v1))&&(decide (v1<(l5.length:Int))))<|
 .grd ((decide (0≤v1))&&(decide (v1<((l5.set v1.toNat ({(l5.getD v1.toNat (Ty.zero .half))with opts.scale:=e6}:Half)).length:Int))))<|
 .val ((l5.set v1.toNat ({(l5.getD v1.toNat (Ty.zero .half))with opts.scale:=e6}:Half)).set v1.toNat ({((l5.set v1.toNat ({(l5.getD v1.toNat (Ty.zero .half))with opts.scale:=e6}:Half)).getD v1.toNat (Ty.zero .half))with opts.sack:=(((IntKind.wrap .i64 (e6+1)).tmod 3)==0)}:Half)) λl7=>
 .grd ((decide (0≤v1))&&(decide (v1<(l7.length:Int))))<|
 .val (l7.set v1.toNat ({(l7.getD v1.toNat (Ty.zero .half))with opts.stamp:=(((IntKind.wrap .i64 ((IntKind.wrap .i64 (e6+1))+1)).tmod 3)==0)}:Half)) λl8=>
 .val (IntKind.wrap .i64 ((IntKind.wrap .i64 ((IntKind.wrap .i64 (e6+1))+1))+1)) λe9=>
 .grd ((decide (0≤v1))&&(decide (v1<(l8.length:Int))))<|
 .grd ((decide (0≤v1))&&(decide (v1<((l8.set v1.toNat ({(l8.getD v1.toNat (Ty.zero .half))with opts.val:=e9}:Half)).length:Int))))<|
 .val ((l8.set v1.toNat ({(l8.getD v1.toNat (Ty.zero .half))with opts.val:=e9}:Half)).set v1.toNat ({((l8.set v1.toNat ({(l8.getD v1.toNat (Ty.zero .half))with opts.val:=e9}:Half)).getD v1.toNat (Ty.zero .half))with opts.echo:=(IntKind.wrap .i64 (e9+1))}:Half)) λl10=>
 .grd ((decide (0≤v1))&&(decide (v1<(l10.length:Int))))<|
 .val (l10.set v1.toNat ({(l10.getD v1.toNat (Ty.zero .half))with age:=(IntKind.wrap .i64 ((IntKind.wrap .i64 (e9+1))+1))}:Half)) λl11=>
 .val (IntKind.wrap .i64 ((IntKind.wrap .i64 ((IntKind.wrap .i64 (e9+1))+1))+1)) λe12=>
 .grd ((decide (0≤v1))&&(decide (v1<(l11.length:Int))))<|
 .ret (.next ((IntKind.wrap .i64 (e12+1)),(l11.set v1.toNat ({(l11.getD v1.toNat (Ty.zero .half))with window:=e12}:Half))))
noncomputable def bJ:ki.V→LC ki (Int×List Half) (Empty) (Int×(Int×List Half)):=λ(v0,v1,v2,_)=>⟨v1,(v0,v2),λv1 a=>(a.1,v1,a.2,()),λv1 a=>(decide (v1<(a.2.length:Int))),CE,up,1,(Int.toNat ((v2.length:Int)-v1)),(λp=>Empty.elim p),λi a=>(i,a),λ_ k x=>k (.exit 0) (Sh.enc ⟨[zi 1,zu 4],[.arr .half false false]⟩ (x.2.1,x.2.2,()))⟩
theorem B7:LS Tryz.prog xY [0] (bx 0 ki bJ):=aN st (ac xF) _ bJ [] trivial
theorem BZ {v0 v1:Int}{v2:List Half}(h0:0≤v1)(h1:(v2.length:Int)≤4611686018427387904)(h2:sS v2)(h3:v2.length=v2.length∧v0≤9223372036854775807):(bJ (v0,v1,v2,())).S (λv1 a=>a.2.length=v2.length∧a.2.length=v2.length∧a.1≤9223372036854775807) (λ_=>True):=by
 refine LC.okS ⟨rfl,h3⟩ (λj a hj hv=>⟨⟨?_, ?_⟩, ?_⟩) (λa hv=> ?_)
 ·simp only[bJ,decide_eq_true_eq]at*;omega
 ·simp only[bJ]at*;exact ZN (by omega) (by omega)
 ·refine Tr.G2 ?_ λ_=>Tr.G2 ?_ λ_=>Tr.V λ_ _=>Tr.G2 ?_ λ_=>Tr.V λ_ _=>Tr.V λ_ _=>Tr.G2 ?_ λ_=>Tr.G2 ?_ λ_=>Tr.V λ_ _=>Tr.G2 ?_ λ_=>Tr.V λ_ _=>Tr.V λ_ _=>Tr.G2 ?_ λ_=>Tr.G2 ?_ λ_=>Tr.V λ_ _=>Tr.G2 ?_ λ_=>Tr.V λ_ _=>Tr.V λ_ _=>Tr.G2 ?_ λ_=>Tr.G2 ?_ λ_=>Tr.V λ_ _=>Tr.G2 ?_ λ_=>Tr.V λ_ _=>Tr.V λ_ _=>Tr.G2 ?_ λ_=>Tr.Rn ?_
  all_goals (try simp only[bJ]at*)<;>(grind)
 ·simp only[bJ,decide_eq_false_iff_not]at*;omega
noncomputable def ra:FT (List Half×Int×Unit) (Int×List Half) (λx=>sS x.1∧x.2.1≤9223372036854775807) (λx v=>sS v.2∧v.1≤9223372036854775807):=⟨λ(x0,x1,_)=>
  .lp (bJ (x1,0,x0,())).lp λ(_,a13_0,a13_1)=>
  .ret (a13_0,a13_1),
 λ(x0,x1,_) hp=>by
  refine Tr.L (BZ ?_ ?_ ?_ ?_) (λ(a13_0,a13_1) _=>Tr.R ?_) (λp=>Empty.elim p)
  all_goals ((try simp only[bJ,LC.lp,LC.ct,Ct.lp]at*)<;>grind)⟩
noncomputable def KH:=cI st xY xF [(bx 0 ki bJ)] [.wr false [.own 0],.sc (.int .i64)] [.arr .half] (λx y=>(y.1,x.2.1,())) ra (λv=>[(false,[.c (.int .i64 v.1)])]) (λx y v=>(v.2,())) Tryz.func257 (by kernel_rfl) ⟨B7,trivial⟩
noncomputable def uR:List (Ent1 Tryz.prog):=[]
def jA:Sh:=⟨[(0,false,[.sl .arg .entr]),zi 1,zi 5],[]⟩
noncomputable def uL:Fx:=⟨259,Tryz.f259,[(0,lb [0,1,5] [1,4])],0⟩
noncomputable def Bl (v0:List Entr)(v2:Int)(a:Int):Tr (Stp (Int) ((Int))):=
 .grd ((decide (0≤v2))&&(decide (v2<(v0.length:Int))))<|
 .ite ((v0.getD v2.toNat (Ty.zero .entr)).ip != a) (.ret (.out a))<|
 .grd ((decide (0≤v2))&&(decide (v2<(v0.length:Int))))<|
 .ite ((v0.getD v2.toNat (Ty.zero .entr)).hw != (IntKind.wrap .i64 (a+1))) (.ret (.out (IntKind.wrap .i64 (a+1))))<|
 .grd ((decide (0≤v2))&&(decide (v2<(v0.length:Int))))<|
 .ite ((v0.getD v2.toNat (Ty.zero .entr)).age != (IntKind.wrap .i64 ((IntKind.wrap .i64 (a+1))+1))) (.ret (.out (IntKind.wrap .i64 ((IntKind.wrap .i64 (a+1))+1))))<|
 .val (IntKind.wrap .i64 ((IntKind.wrap .i64 ((IntKind.wrap .i64 (a+1))+1))+1)) λe1=>
 .ret (.next e1)
noncomputable def du:jA.V→LC jA (Int) ((Int)) (((Int))⊕(Int×Int)):=λ(v0,v1,v2,_)=>⟨v2,v1,λv2 a=>(v0,a,v2,()),λv2 _=>(decide (v2<(v0.length:Int))),Bl v0,up,1,(Int.toNat ((v0.length:Int)-v2)),.inl,λi a=> .inr (i,a),λ_ k w=>Sum.elim (λp=>k .ret (Sh.enc ⟨[zi 1,zi 4],[]⟩ (p,(-1),()))) (λx=>k (.exit 0) (Sh.enc ⟨[zi 1,zu 4],[]⟩ (x.2,()))) w⟩
theorem zh:LS Tryz.prog uL [0] (bx 0 jA du):=aN st (ac uR) _ du [] trivial
theorem zt {v0:List Entr}{v1 v2:Int}(h0:0≤v2)(h1:(v0.length:Int)≤4611686018427387904)(h2:v1≤9223372036854775807):(du (v0,v1,v2,())).U (v0.length:Int) (λv2 a=>a≤9223372036854775807) (λ_=>True):=
 LC.okU (i:=v2) (a:=v1) (λ_ _=>rfl) (λ_=>rfl) rfl h0 h1 h2 λv2 v1 hj hk hv=>by
  refine Tr.G2 ?_ λ_=>Tr.I (λ_=>Tr.Ro trivial) λ_=>Tr.G2 ?_ λ_=>Tr.I (λ_=>Tr.Ro trivial) λ_=>Tr.G2 ?_ λ_=>Tr.I (λ_=>Tr.Ro trivial) λ_=>Tr.V λ_ _=>Tr.Rn ?_
  all_goals (grind)
noncomputable def o7:FT (List Entr×Int×Unit) (Int) (λx=>sS x.1∧x.2.1≤9223372036854775807) (λx v=>v≤9223372036854775807):=⟨λ(x0,x1,_)=>
  .lp (du (x0,x1,0,())).lp λw2=> .sum w2 (λ_=>
  .ret (-1))<|
  λ(_,a2_0)=>
  .ret a2_0,
 λ(x0,x1,_) hp=>by
  refine Tr.L (zt ?_ ?_ ?_) (λa2_0 _=>Tr.Sr (Tr.R ?_)) (λp2a0 _=>Tr.Sl (Tr.R ?_))
  all_goals ((try simp only[du,LC.lp,LC.ct,Ct.lp]at*)<;>grind)⟩
noncomputable def GT:=aZ st uL uR [(bx 0 jA du)] (ks:=[.sc (.sl .entr),.sc (.int .i64)]) o7 (λv=>[(false,[.c (.int .i64 v)])]) Tryz.func259 ⟨zh,trivial⟩
noncomputable def xA:List (Ent1 Tryz.prog):=[]
def kh:Sh:=⟨[(0,false,[.sl .arg .half]),zi 1,zi 5],[]⟩
noncomputable def xq:Fx:=⟨261,Tryz.f261,[(0,lb [0,1,5] [1,4])],0⟩
noncomputable def CS (v0:List Half)(v2:Int)(a:Int):Tr (Stp (Int) ((Int))):=
 .grd ((decide (0≤v2))&&(decide (v2<(v0.length:Int))))<|
 .ite ((v0.getD v2.toNat (Ty.zero .half)).tuple.ip != a) (.ret (.out a))<|
 .grd ((decide (0≤v2))&&(decide (v2<(v0.length:Int))))<|
 .ite ((v0.getD v2.toNat (Ty.zero .half)).tuple.port != (IntKind.wrap .i64 (a+1))) (.ret (.out (IntKind.wrap .i64 (a+1))))<|
 .grd ((decide (0≤v2))&&(decide (v2<(v0.length:Int))))<|
 .ite ((v0.getD v2.toNat (Ty.zero .half)).tuple.my != (IntKind.wrap .i64 ((IntKind.wrap .i64 (a+1))+1))) (.ret (.out (IntKind.wrap .i64 ((IntKind.wrap .i64 (a+1))+1))))<|
 .val (IntKind.wrap .i64 ((IntKind.wrap .i64 ((IntKind.wrap .i64 (a+1))+1))+1)) λe1=>
 .grd ((decide (0≤v2))&&(decide (v2<(v0.length:Int))))<|
 .ite ((v0.getD v2.toNat (Ty.zero .half)).iss != e1) (.ret (.out e1))<|
 .grd ((decide (0≤v2))&&(decide (v2<(v0.length:Int))))<|
 .ite ((v0.getD v2.toNat (Ty.zero .half)).irs != (IntKind.wrap .i64 (e1+1))) (.ret (.out (IntKind.wrap .i64 (e1+1))))<|
 .grd ((decide (0≤v2))&&(decide (v2<(v0.length:Int))))<|
 .ite ((v0.getD v2.toNat (Ty.zero .half)).opts.mss != (IntKind.wrap .i64 ((IntKind.wrap .i64 (e1+1))+1))) (.ret (.out (IntKind.wrap .i64 ((IntKind.wrap .i64 (e1+1))+1))))<|
 .val (IntKind.wrap .i64 ((IntKind.wrap .i64 ((IntKind.wrap .i64 (e1+1))+1))+1)) λe2=>
 .grd ((decide (0≤v2))&&(decide (v2<(v0.length:Int))))<|
 .ite ((v0.getD v2.toNat (Ty.zero .half)).opts.scale != e2) (.ret (.out e2))<|
 .grd ((decide (0≤v2))&&(decide (v2<(v0.length:Int))))<|
 .ite (!((v0.getD v2.toNat (Ty.zero .half)).opts.sack==(((IntKind.wrap .i64 (e2+1)).tmod 3)==0))) (.ret (.out (IntKind.wrap .i64 (e2+1))))<|
 .grd ((decide (0≤v2))&&(decide (v2<(v0.length:Int))))<|
 .ite (!((v0.getD v2.toNat (Ty.zero .half)).opts.stamp==(((IntKind.wrap .i64 ((IntKind.wrap .i64 (e2+1))+1)).tmod 3)==0))) (.ret (.out (IntKind.wrap .i64 ((IntKind.wrap .i64 (e2+1))+1))))<|
 .val (IntKind.wrap .i64 ((IntKind.wrap .i64 ((IntKind.wrap .i64 (e2+1))+1))+1)) λe3=>
 .grd ((decide (0≤v2))&&(decide (v2<(v0.length:Int))))<|
 .ite ((v0.getD v2.toNat (Ty.zero .half)).opts.val != e3) (.ret (.out e3))<|
 .grd ((decide (0≤v2))&&(decide (v2<(v0.length:Int))))<|
 .ite ((v0.getD v2.toNat (Ty.zero .half)).opts.echo != (IntKind.wrap .i64 (e3+1))) (.ret (.out (IntKind.wrap .i64 (e3+1))))<|
 .grd ((decide (0≤v2))&&(decide (v2<(v0.length:Int))))<|
 .ite ((v0.getD v2.toNat (Ty.zero .half)).age != (IntKind.wrap .i64 ((IntKind.wrap .i64 (e3+1))+1))) (.ret (.out (IntKind.wrap .i64 ((IntKind.wrap .i64 (e3+1))+1))))<|
 .val (IntKind.wrap .i64 ((IntKind.wrap .i64 ((IntKind.wrap .i64 (e3+1))+1))+1)) λe4=>
 .grd ((decide (0≤v2))&&(decide (v2<(v0.length:Int))))<|
 .ite ((v0.getD v2.toNat (Ty.zero .half)).window != e4) (.ret (.out e4))<|
 .ret (.next (IntKind.wrap .i64 (e4+1)))
noncomputable def d6:kh.V→LC kh (Int) ((Int)) (((Int))⊕(Int×Int)):=λ(v0,v1,v2,_)=>⟨v2,v1,λv2 a=>(v0,a,v2,()),λv2 _=>(decide (v2<(v0.length:Int))),CS v0,up,1,(Int.toNat ((v0.length:Int)-v2)),.inl,λi a=> .inr (i,a),λ_ k w=>Sum.elim (λp=>k .ret (Sh.enc ⟨[zi 1,zi 4],[]⟩ (p,(-1),()))) (λx=>k (.exit 0) (Sh.enc ⟨[zi 1,zu 4],[]⟩ (x.2,()))) w⟩
theorem BT:LS Tryz.prog xq [0] (bx 0 kh d6):=aN st (ac xA) _ d6 [] trivial
theorem Ck {v0:List Half}{v1 v2:Int}(h0:0≤v2)(h1:(v0.length:Int)≤4611686018427387904)(h2:v1≤9223372036854775807):(d6 (v0,v1,v2,())).U (v0.length:Int) (λv2 a=>a≤9223372036854775807) (λ_=>True):=
 LC.okU (i:=v2) (a:=v1) (λ_ _=>rfl) (λ_=>rfl) rfl h0 h1 h2 λv2 v1 hj hk hv=>by
  refine Tr.G2 ?_ λ_=>Tr.I (λ_=>Tr.Ro trivial) λ_=>Tr.G2 ?_ λ_=>Tr.I (λ_=>Tr.Ro trivial) λ_=>Tr.G2 ?_ λ_=>Tr.I (λ_=>Tr.Ro trivial) λ_=>Tr.V λ_ _=>Tr.G2 ?_ λ_=>Tr.I (λ_=>Tr.Ro trivial) λ_=>Tr.G2 ?_ λ_=>Tr.I (λ_=>Tr.Ro trivial) λ_=>Tr.G2 ?_ λ_=>Tr.I (λ_=>Tr.Ro trivial) λ_=>Tr.V λ_ _=>Tr.G2 ?_ λ_=>Tr.I (λ_=>Tr.Ro trivial) λ_=>Tr.G2 ?_ λ_=>Tr.I (λ_=>Tr.Ro trivial) λ_=>Tr.G2 ?_ λ_=>Tr.I (λ_=>Tr.Ro trivial) λ_=>Tr.V λ_ _=>Tr.G2 ?_ λ_=>Tr.I (λ_=>Tr.Ro trivial) λ_=>Tr.G2 ?_ λ_=>Tr.I (λ_=>Tr.Ro trivial) λ_=>Tr.G2 ?_ λ_=>Tr.I (λ_=>Tr.Ro trivial) λ_=>Tr.V λ_ _=>Tr.G2 ?_ λ_=>Tr.I (λ_=>Tr.Ro trivial) λ_=>Tr.Rn ?_
  all_goals (grind)
noncomputable def qQ:FT (List Half×Int×Unit) (Int) (λx=>sS x.1∧x.2.1≤9223372036854775807) (λx v=>v≤9223372036854775807):=⟨λ(x0,x1,_)=>
  .lp (d6 (x0,x1,0,())).lp λw5=> .sum w5 (λ_=>
  .ret (-1))<|
  λ(_,a5_0)=>
  .ret a5_0,
 λ(x0,x1,_) hp=>by
  refine Tr.L (Ck ?_ ?_ ?_) (λa5_0 _=>Tr.Sr (Tr.R ?_)) (λp5a0 _=>Tr.Sl (Tr.R ?_))
  all_goals ((try simp only[d6,LC.lp,LC.ct,Ct.lp]at*)<;>grind)⟩
noncomputable def Kf:=aZ st xq xA [(bx 0 kh d6)] (ks:=[.sc (.sl .half),.sc (.int .i64)]) qQ (λv=>[(false,[.c (.int .i64 v)])]) Tryz.func261 ⟨BT,trivial⟩
noncomputable def pI:FT (List MacRow×Unit) (Mac) (λx=>sL ay x.1) (λx v=>bv v):=⟨λ(x0,_)=>
  .grd (Nat.ble ((2*(0+x0.length)+1024)*24) aF)<|
  .ret (⟨true,0,0,([]++x0)⟩:Mac),
 λ(x0,_) hp=>by
  refine Tr.Gb ?_ λ_=>Tr.R ?_
  all_goals (grind)⟩
noncomputable def Bc:=bi st Tryz.func268 [] (ks:=[.sc (.sl .macRow)]) pI (λv=>[(true,DJ (.o true) v)])
noncomputable def fq:FF (Int×Int×Unit) (Int):=⟨λ(x0,x1,_)=>
  .ite (decide (x1<x0)) (.ret x0)<|
  .ret x1⟩
@[grind=] theorem pZ (x0 x1:Int):fq.f (x0,x1,())=(if x1<x0 then x0 else x1):=by
 simp only[fq,FF.f,Tr.nice]
 by_cases h:x1<x0<;>simp[h]
noncomputable def lA:=iW st Tryz.func274 [] (ks:=[.sc (.int .i64),.sc (.int .i64)]) fq (λv=>[(false,[.c (.int .i64 v)])])
noncomputable def gy:FT (Recv×Unit) (Int) (λx=>an x.1) (λx v=>0≤v∧v≤32∧(x.1.data.length≤32→v=Vl x.1)):=⟨λ(x0,_)=>
  .ite x0.done (.ret 0)<|
  .val (fq.f (0,(IntKind.wrap .i64 (32-(x0.data.length:Int))),())) λc1=>
  .ret c1,
 λ(x0,_) hp=>by
  refine Tr.I (λ_=>Tr.R ?_) λ_=>Tr.V λ_ _=>Tr.R ?_
  all_goals (grind)⟩
noncomputable def j8:=bi st Tryz.func279 [lA] (ks:=[.st .recv]) gy (λv=>[(false,[.c (.int .i64 v)])])
noncomputable def nI:FT (List Tupl×Unit) (List Tupl) (λx=>sS x.1) (λx v=>v=x.1):=⟨λx=> .ret x.1,λ_ _=>Tr.R rfl⟩
theorem Fg (x:List Tupl×Unit)(hp:sS x.1):Jx Tryz.prog 292 (Jy [.sc (.sl .tupl)] x) ((λv=>[rv (.sc (.sl .tupl)) [.o true] v]) (nI.f x)):=by
 refine Jx.byNil (t:= .tupl) (xs:=x.1) (λh=> ?_) ?_
 ·obtain⟨x,_⟩:=x;subst h
  exact YJ st Tryz.func292 (by kernel_rfl) (by kernel_rfl)
 ·exact YJ st Tryz.func292 (by kernel_rfl) (Eq.trans (b:=bif Nat.ble ((2*(0+x.1.length)+1024)*24) aF then some ((λv=>[rv (.sc (.sl .tupl)) [.o true] v]) x.1)else none) (by kernel_rfl) (by rw[show Nat.ble ((2*(0+x.1.length)+1024)*24) aF=true by simp only[Nat.ble_eq,aF];simp only[sS]at hp;omega];rfl))
noncomputable def Fc:Ent1 Tryz.prog:=XQ 292 (ks:=[.sc (.sl .tupl)]) nI.c (λv=>[rv (.sc (.sl .tupl)) [.o true] v]) Fg
noncomputable def aI:FT (Segm×Unit) (Int) (λx=>aj x.1) (λx v=>0≤v∧v≤x.1.body.length+2):=⟨λ(x0,_)=>
  .val (bc.f (x0,2,())) λc1=>
  .ite c1 (.val (bc.f (x0,1,())) λc2=>
   .ite c2 (.val (IntKind.wrap .i64 ((IntKind.wrap .i64 ((x0.body.length:Int)+1))+1)) λe3=>
    .ret e3)<|
   .ret (IntKind.wrap .i64 ((x0.body.length:Int)+1)))<|
  .val (bc.f (x0,1,())) λc4=>
  .ite c4 (.ret (IntKind.wrap .i64 ((x0.body.length:Int)+1)))<|
  .ret (x0.body.length:Int),
 λ(x0,_) hp=>by
  refine Tr.V λ_ _=>Tr.I (λ_=>Tr.V λ_ _=>Tr.I (λ_=>Tr.V λ_ _=>Tr.R ?_) λ_=>Tr.R ?_) λ_=>Tr.V λ_ _=>Tr.I (λ_=>Tr.R ?_) λ_=>Tr.R ?_
  all_goals (grind)⟩
noncomputable def pX:=bi st Tryz.func298 [wG] (ks:=[.st .segm]) aI (λv=>[(false,[.c (.int .i64 v)])])
noncomputable def rl:FT (List Half×Int×Int×Unit) (Nat×List Half) (λx=>sS x.1∧0≤x.2.1∧x.2.1≤x.2.2.1∧x.2.2.1≤x.1.length) (λx v=>sS v.2∧v.1≤x.1.length∧v.2.length=x.1.length):=⟨λ(x0,x1,x2,_)=>
  .grd ((((decide (0≤x1))&&(decide (x1≤x2)))&&(decide (x2≤(x0.length:Int))))&&(decide ((x0.length:Int)≤(x0.length:Int))))<|
  .ite (x1==x2) (.ret (x0.length,x0))<|
  .grd ((decide (0≤x1))&&(decide (x1≤(x0.length:Int))))<|
  .grd (((decide (0≤x2))&&(decide (x2≤(x0.length:Int))))&&(decide ((x0.length:Int)≤(x0.length:Int))))<|
  .grd (((Nat.ble x1.toNat x2.toNat)&&(Nat.beq ((x0.length:Int).toNat) x0.length))&&true)<|
  .val (((((x0.take x1.toNat++x0.drop x2.toNat)++x0.drop (x1.toNat+(x0.length-x2.toNat))).take (x1.toNat+(x0.length-x2.toNat))).drop 0).length:Int) λe1=>
  .grd (((decide (0≤e1))&&(decide (e1≤(x0.length:Int))))&&(decide ((x0.length:Int)≤(((x0.take x1.toNat++x0.drop x2.toNat)++x0.drop (x1.toNat+(x0.length-x2.toNat))).length:Int))))<|
  .val ((((x0.take x1.toNat++x0.drop x2.toNat)++x0.drop (x1.toNat+(x0.length-x2.toNat))).take e1.toNat++List.replicate ((x0.length:Int).toNat-e1.toNat) (Ty.zero .half))++((x0.take x1.toNat++x0.drop x2.toNat)++x0.drop (x1.toNat+(x0.length-x2.toNat))).drop ((x0.length:Int).toNat)) λl2=>
  .ret ((x1.toNat+(x0.length-x2.toNat)),l2),
 λ(x0,x1,x2,_) hp=>by
  refine Tr.G4 ?_ λg0=>Tr.I (λb1=>Tr.R ?_) λb1=>Tr.G2 ?_ λg2=>Tr.G3 ?_ λg3=>Tr.G ?_ λg4=>Tr.V λe1 he1=>Tr.G3 ?_ λg5=>Tr.V λl2 hl2=>Tr.R ?_
  all_goals ((first|grind|(simp only[Bool.and_eq_true,and_true,List.length_set,Nat.ble_eq,Nat.beq_eq,decide_eq_true_eq,List.length_append,List.length_take,List.length_drop,List.drop_zero,List.length_replicate,sS]at*;omega)))⟩
noncomputable def EE:=cI st ⟨300,Tryz.f300,[],1⟩ [] [] [.wr false [.own 0],.sc (.int .i64),.sc (.int .i64)] [.arr .half] (λx y=>(y.1,x.2.1,x.2.2.1,())) rl (λv=>[(false,[.shr 0 v.1])]) (λx y v=>(v.2,())) Tryz.func300 (by kernel_rfl) trivial
noncomputable def kx:FF (Opti×Unit) (Opti):=⟨λ(x0,_)=>
  .ite x0.stamp (.ret x0)<|
  .val (bG.f (())) λc1=>
  .ret ({c1 with mss:=x0.mss}:Opti)⟩
noncomputable def ED:=iW st Tryz.func303 [gD] (ks:=[.st .opti]) kx (λv=>[(true,pS v)])
noncomputable def nP:FT (List Piec×Unit) (List Piec) (λx=>sS x.1) (λx v=>v=x.1):=⟨λx=> .ret x.1,λ_ _=>Tr.R rfl⟩
theorem E7 (x:List Piec×Unit)(hp:sS x.1):Jx Tryz.prog 308 (Jy [.sc (.sl .piec)] x) ((λv=>[rv (.sc (.sl .piec)) [.o true] v]) (nP.f x)):=by
 refine Jx.byNil (t:= .piec) (xs:=x.1) (λh=> ?_) ?_
 ·obtain⟨x,_⟩:=x;subst h
  exact YJ st Tryz.func308 (by kernel_rfl) (by kernel_rfl)
 ·exact YJ st Tryz.func308 (by kernel_rfl) (Eq.trans (b:=bif Nat.ble ((2*(0+x.1.length)+1024)*24) aF then some ((λv=>[rv (.sc (.sl .piec)) [.o true] v]) x.1)else none) (by kernel_rfl) (by rw[show Nat.ble ((2*(0+x.1.length)+1024)*24) aF=true by simp only[Nat.ble_eq,aF];simp only[sS]at hp;omega];rfl))
noncomputable def Eo:Ent1 Tryz.prog:=XQ 308 (ks:=[.sc (.sl .piec)]) nP.c (λv=>[rv (.sc (.sl .piec)) [.o true] v]) E7
noncomputable def nN:FF (Opti×Unit) (Opti):=⟨λ(x0,_)=>
  .ite x0.stamp (.ret x0)<|
  .val (cr.f (())) λc1=>
  .ret ({c1 with mss:=x0.mss}:Opti)⟩
noncomputable def EU:=iW st Tryz.func313 [em] (ks:=[.st .opti]) nN (λv=>[(true,pS v)])
noncomputable def Gi:FF (Int×Unit) (Bool):=⟨λ(x0,_)=>
  .ite (x0 != 1) (.ret (x0 != 4))<|
  .ret false⟩
noncomputable def Sg:=iW st Tryz.func319 [] (ks:=[.sc (.int .i64)]) Gi (λv=>[(false,[.c (.bool v)])])
noncomputable def rF:List (Ent1 Tryz.prog):=[]
def gM:Sh:=⟨[(0,false,[.sl .arg .macRow]),(1,false,[.sl .arg .macRow]),zi 12,zi 13],[]⟩
noncomputable def rK:Fx:=⟨322,Tryz.f322,[(0,lb [0,1,12,13] [4])],0⟩
noncomputable def oo (v0 v1:List MacRow)(v3:Int)(a:Unit):Tr (Stp (Unit) ((Unit))):=
 .grd ((decide (0≤v3))&&(decide (v3<(v0.length:Int))))<|
 .grd ((decide (0≤v3))&&(decide (v3<(v1.length:Int))))<|
 .ite (!(((v0.getD v3.toNat (Ty.zero .macRow)).input==(v1.getD v3.toNat (Ty.zero .macRow)).input)&&(((v0.getD v3.toNat (Ty.zero .macRow)).value==(v1.getD v3.toNat (Ty.zero .macRow)).value)&&true))) (.ret (.out ()))<|
 .ret (.next ())
noncomputable def cE:gM.V→LC gM (Unit) ((Unit)) (((Unit))⊕(Int×Unit)):=λ(v0,v1,v2,v3,_)=>⟨v3,(),λv3 _=>(v0,v1,v2,v3,()),λv3 _=>(decide (v3<v2)),oo v0 v1,up,1,(Int.toNat (v2-v3)),.inl,λi a=> .inr (i,a),λ_ k w=>Sum.elim (λ_=>k .ret (Sh.enc ⟨[zb 4],[]⟩ (false,()))) (λ_=>k (.exit 0) (Sh.enc ⟨[zu 4],[]⟩ ())) w⟩
theorem xd:LS Tryz.prog rK [0] (bx 0 gM cE):=aN st (ac rF) _ cE [] trivial
theorem wZ {v0 v1:List MacRow}{v2 v3:Int}(h0:0≤v3)(h1:v2≤4611686018427387904)(h2:v2≤(v0.length:Int))(h3:v2≤(v1.length:Int)):(cE (v0,v1,v2,v3,())).U v2 (λ_ _=>True) (λ_=>True):=
 LC.okU (i:=v3) (a:=()) (λ_ _=>rfl) (λ_=>rfl) rfl h0 h1 trivial λv3 _ hj hk hv=>by
  refine Tr.G2 ?_ λ_=>Tr.G2 ?_ λ_=>Tr.Z (by kernel_rfl)
  all_goals (grind)
noncomputable def pM:FT (List MacRow×List MacRow×Unit) (Bool) (λx=>sL ay x.1∧sL ay x.2.1) (λ_ _=>True):=⟨λ(x0,x1,_)=>
  .ite ((x0.length:Int) != (x1.length:Int)) (.ret false)<|
  .lp (cE (x0,x1,(x0.length:Int),0,())).lp λw1=> .sum w1 (λ_=>
  .ret false)<|
  λ_=>
  .ret true,
 λ(x0,x1,_) hp=>by
  refine Tr.I (λ_=>Tr.R trivial) λ_=>Tr.L (wZ ?_ ?_ ?_ ?_) (λ_ _=>Tr.Sr (Tr.R trivial)) (λ_ _=>Tr.Sl (Tr.R trivial))
  all_goals ((try simp only[cE,LC.lp,LC.ct,Ct.lp]at*)<;>grind)⟩
noncomputable def CH:=aZ st rK rF [(bx 0 gM cE)] (ks:=[.sc (.sl .macRow),.sc (.sl .macRow)]) pM (λv=>[(false,[.c (.bool v)])]) Tryz.func322 ⟨xd,trivial⟩
noncomputable def gC:FT (Sndr×Unit) (Int) (λx=>bU x.1) (λx v=>(0≤x.1.sent∧x.1.sent≤1000→x.1.sent≤v∧v≤x.1.sent+1)):=⟨λ(x0,_)=>
  .ite x0.finSent (.ret (IntKind.wrap .i64 (x0.sent+1)))<|
  .ret x0.sent,
 λ(x0,_) hp=>by
  refine Tr.I (λ_=>Tr.R ?_) λ_=>Tr.R ?_
  all_goals (grind)⟩
noncomputable def iu:=bi st Tryz.func332 [] (ks:=[.st .sndr]) gC (λv=>[(false,[.c (.int .i64 v)])])
noncomputable def QD:List (Ent1 Tryz.prog):=[]
def rf:Sh:=⟨[zi 1,(8,false,[.sl .arg .entr]),zi 9,zi 10],[]⟩
noncomputable def Oo:Fx:=⟨345,Tryz.f345,[(0,lb [1,8,9,10] [4,5])],0⟩
noncomputable def Dy (v0:Int)(v1:List Entr)(v3:Int)(a:Unit):Tr (Stp (Unit) ((Int))):=
 .grd ((decide (0≤v3))&&(decide (v3<(v1.length:Int))))<|
 .ite ((v1.getD v3.toNat (Ty.zero .entr)).ip==v0) (.ret (.out ((v1.getD v3.toNat (Ty.zero .entr)).hw)))<|
 .ret (.next ())
noncomputable def jR:rf.V→LC rf (Unit) ((Int)) (((Int))⊕(Int×Unit)):=λ(v0,v1,v2,v3,_)=>⟨v3,(),λv3 _=>(v0,v1,v2,v3,()),λv3 _=>(decide (v3<v2)),Dy v0 v1,up,1,(Int.toNat (v2-v3)),.inl,λi a=> .inr (i,a),λ_ k w=>Sum.elim (λp=>k .ret (Sh.enc ⟨[zi 4,zb 5],[]⟩ (p,true,()))) (λ_=>k (.exit 0) (Sh.enc ⟨[zu 4,zu 5],[]⟩ ())) w⟩
theorem O3:LS Tryz.prog Oo [0] (bx 0 rf jR):=aN st (ac QD) _ jR [] trivial
theorem Pd {v0 v2 v3:Int}{v1:List Entr}(h0:0≤v3)(h1:v2≤4611686018427387904)(h2:v2≤(v1.length:Int)):(jR (v0,v1,v2,v3,())).U v2 (λ_ _=>True) (λ_=>True):=
 LC.okU (i:=v3) (a:=()) (λ_ _=>rfl) (λ_=>rfl) rfl h0 h1 trivial λv3 _ hj hk hv=>by
  refine Tr.G2 ?_ λ_=>Tr.Z (by kernel_rfl)
  all_goals (grind)
noncomputable def Nm:FT (List Entr×Int×Unit) (Int×Bool) (λx=>sS x.1) (λ_ _=>True):=⟨λ(x0,x1,_)=>
  .lp (jR (x1,x0,(x0.length:Int),0,())).lp λw1=> .sum w1 (λp1a0=>
  .ret (p1a0,true))<|
  λ_=>
  .ret (0,false),
 λ(x0,x1,_) hp=>by
  refine Tr.L (Pd ?_ ?_ ?_) (λ_ _=>Tr.Sr (Tr.R trivial)) (λp1a0 _=>Tr.Sl (Tr.R trivial))
  all_goals ((try simp only[jR,LC.lp,LC.ct,Ct.lp]at*)<;>grind)⟩
noncomputable def Xe:=aZ st Oo QD [(bx 0 rf jR)] (ks:=[.sc (.sl .entr),.sc (.int .i64)]) Nm (λv=>[(false,[.c (.int .i64 v.1)]),(false,[.c (.bool v.2)])]) Tryz.func345 ⟨O3,trivial⟩
noncomputable def wa:FF (Entr×Entr×Unit) (Bool):=⟨λ(x0,x1,_)=>
  .ite (x0.ip != x1.ip) (.ret false)<|
  .ite (x0.hw != x1.hw) (.ret false)<|
  .ite (x0.age != x1.age) (.ret false)<|
  .ret true⟩
noncomputable def Qm:=iW st Tryz.func355 [] (ks:=[.st .entr,.st .entr]) wa (λv=>[(false,[.c (.bool v)])])
noncomputable def rq:List (Ent1 Tryz.prog):=[]
noncomputable def xy:Fx:=⟨359,Tryz.f359,[(0,lb [0,1,5] [1,4])],0⟩
noncomputable def qx:FT (List Conn×Int×Unit) (Int) (λx=>sL aa x.1∧x.1=[]∧x.2.1≤9223372036854775807) (λx v=>v≤9223372036854775807):=⟨λ(x0,x1,_)=>
  .ite (decide (0<(x0.length:Int))) (.grd (decide (0<(x0.length:Int)))<|
   .ngd true<|
   .ret x1)<|
  .ret x1,
 λ(x0,x1,_) hp=>by
  refine Tr.I (λ_=>Tr.G1 ?_ λ_=>Tr.N ?_ λ_=>Tr.R ?_) λ_=>Tr.R ?_
  all_goals (grind)⟩
noncomputable def J6:=aZ st xy rq [(leO st.te (qj rq) xy [0] 0 [])] (ks:=[.sc (.sl .conn),.sc (.int .i64)]) qx (λv=>[(false,[.c (.int .i64 v)])]) Tryz.func359 ⟨(ZV st (ac rq) _ [] trivial),trivial⟩
noncomputable def uV:List (Ent1 Tryz.prog):=[]
def jv:Sh:=⟨[(0,false,[.own 0]),zi 1,zi 5],[.arr .tupl false false]⟩
noncomputable def uY:Fx:=⟨360,Tryz.f360,[(0,la ⟨[0,1,5],[],false,1⟩ ⟨[1,4],[],false,1⟩)],1⟩
noncomputable def zF (v1:Int)(a:Int×List Tupl):Tr (Stp (Int×List Tupl) (Empty)):=
 .grd ((decide (0≤v1))&&(decide (v1<(a.2.length:Int))))<|
 .grd ((decide (0≤v1))&&(decide (v1<((a.2.set v1.toNat ({(a.2.getD v1.toNat (Ty.zero .tupl))with ip:=a.1}:Tupl)).length:Int))))<|
 .val ((a.2.set v1.toNat ({(a.2.getD v1.toNat (Ty.zero .tupl))with ip:=a.1}:Tupl)).set v1.toNat ({((a.2.set v1.toNat ({(a.2.getD v1.toNat (Ty.zero .tupl))with ip:=a.1}:Tupl)).getD v1.toNat (Ty.zero .tupl))with port:=(IntKind.wrap .i64 (a.1+1))}:Tupl)) λl1=>
 .grd ((decide (0≤v1))&&(decide (v1<(l1.length:Int))))<|
 .val (l1.set v1.toNat ({(l1.getD v1.toNat (Ty.zero .tupl))with my:=(IntKind.wrap .i64 ((IntKind.wrap .i64 (a.1+1))+1))}:Tupl)) λl2=>
 .val (IntKind.wrap .i64 ((IntKind.wrap .i64 ((IntKind.wrap .i64 (a.1+1))+1))+1)) λe3=>
 .ret (.next (e3,l2))
noncomputable def bz:jv.V→LC jv (Int×List Tupl) (Empty) (Int×(Int×List Tupl)):=λ(v0,v1,v2,_)=>⟨v1,(v0,v2),λv1 a=>(a.1,v1,a.2,()),λv1 a=>(decide (v1<(a.2.length:Int))),zF,up,1,(Int.toNat ((v2.length:Int)-v1)),(λp=>Empty.elim p),λi a=>(i,a),λ_ k x=>k (.exit 0) (Sh.enc ⟨[zi 1,zu 4],[.arr .tupl false false]⟩ (x.2.1,x.2.2,()))⟩
theorem AU:LS Tryz.prog uY [0] (bx 0 jv bz):=aN st (ac uV) _ bz [] trivial
theorem Ao {v0 v1:Int}{v2:List Tupl}(h0:0≤v1)(h1:(v2.length:Int)≤4611686018427387904)(h2:sS v2)(h3:v2.length=v2.length∧v0≤9223372036854775807):(bz (v0,v1,v2,())).S (λv1 a=>a.2.length=v2.length∧a.2.length=v2.length∧a.1≤9223372036854775807) (λ_=>True):=by
 refine LC.okS ⟨rfl,h3⟩ (λj a hj hv=>⟨⟨?_, ?_⟩, ?_⟩) (λa hv=> ?_)
 ·simp only[bz,decide_eq_true_eq]at*;omega
 ·simp only[bz]at*;exact ZN (by omega) (by omega)
 ·refine Tr.G2 ?_ λ_=>Tr.G2 ?_ λ_=>Tr.V λ_ _=>Tr.G2 ?_ λ_=>Tr.V λ_ _=>Tr.V λ_ _=>Tr.Rn ?_
  all_goals (try simp only[bz]at*)<;>(grind)
 ·simp only[bz,decide_eq_false_iff_not]at*;omega
noncomputable def o9:FT (List Tupl×Int×Unit) (Int×List Tupl) (λx=>sS x.1∧x.2.1≤9223372036854775807) (λx v=>sS v.2∧v.1≤9223372036854775807):=⟨λ(x0,x1,_)=>
  .lp (bz (x1,0,x0,())).lp λ(_,a4_0,a4_1)=>
  .ret (a4_0,a4_1),
 λ(x0,x1,_) hp=>by
  refine Tr.L (Ao ?_ ?_ ?_ ?_) (λ(a4_0,a4_1) _=>Tr.R ?_) (λp=>Empty.elim p)
  all_goals ((try simp only[bz,LC.lp,LC.ct,Ct.lp]at*)<;>grind)⟩
noncomputable def Hh:=cI st uY uV [(bx 0 jv bz)] [.wr false [.own 0],.sc (.int .i64)] [.arr .tupl] (λx y=>(y.1,x.2.1,())) o9 (λv=>[(false,[.c (.int .i64 v.1)])]) (λx y v=>(v.2,())) Tryz.func360 (by kernel_rfl) ⟨AU,trivial⟩
noncomputable def vl:List (Ent1 Tryz.prog):=[]
def jm:Sh:=⟨[(0,false,[.sl .arg .tupl]),zi 1,zi 5],[]⟩
noncomputable def vn:Fx:=⟨363,Tryz.f363,[(0,lb [0,1,5] [1,4])],0⟩
noncomputable def zY (v0:List Tupl)(v2:Int)(a:Int):Tr (Stp (Int) ((Int))):=
 .grd ((decide (0≤v2))&&(decide (v2<(v0.length:Int))))<|
 .ite ((v0.getD v2.toNat (Ty.zero .tupl)).ip != a) (.ret (.out a))<|
 .grd ((decide (0≤v2))&&(decide (v2<(v0.length:Int))))<|
 .ite ((v0.getD v2.toNat (Ty.zero .tupl)).port != (IntKind.wrap .i64 (a+1))) (.ret (.out (IntKind.wrap .i64 (a+1))))<|
 .grd ((decide (0≤v2))&&(decide (v2<(v0.length:Int))))<|
 .ite ((v0.getD v2.toNat (Ty.zero .tupl)).my != (IntKind.wrap .i64 ((IntKind.wrap .i64 (a+1))+1))) (.ret (.out (IntKind.wrap .i64 ((IntKind.wrap .i64 (a+1))+1))))<|
 .val (IntKind.wrap .i64 ((IntKind.wrap .i64 ((IntKind.wrap .i64 (a+1))+1))+1)) λe1=>
 .ret (.next e1)
noncomputable def dC:jm.V→LC jm (Int) ((Int)) (((Int))⊕(Int×Int)):=λ(v0,v1,v2,_)=>⟨v2,v1,λv2 a=>(v0,a,v2,()),λv2 _=>(decide (v2<(v0.length:Int))),zY v0,up,1,(Int.toNat ((v0.length:Int)-v2)),.inl,λi a=> .inr (i,a),λ_ k w=>Sum.elim (λp=>k .ret (Sh.enc ⟨[zi 1,zi 4],[]⟩ (p,(-1),()))) (λx=>k (.exit 0) (Sh.enc ⟨[zi 1,zu 4],[]⟩ (x.2,()))) w⟩
theorem A3:LS Tryz.prog vn [0] (bx 0 jm dC):=aN st (ac vl) _ dC [] trivial
theorem zg {v0:List Tupl}{v1 v2:Int}(h0:0≤v2)(h1:(v0.length:Int)≤4611686018427387904)(h2:v1≤9223372036854775807):(dC (v0,v1,v2,())).U (v0.length:Int) (λv2 a=>a≤9223372036854775807) (λ_=>True):=
 LC.okU (i:=v2) (a:=v1) (λ_ _=>rfl) (λ_=>rfl) rfl h0 h1 h2 λv2 v1 hj hk hv=>by
  refine Tr.G2 ?_ λ_=>Tr.I (λ_=>Tr.Ro trivial) λ_=>Tr.G2 ?_ λ_=>Tr.I (λ_=>Tr.Ro trivial) λ_=>Tr.G2 ?_ λ_=>Tr.I (λ_=>Tr.Ro trivial) λ_=>Tr.V λ_ _=>Tr.Rn ?_
  all_goals (grind)
noncomputable def oy:FT (List Tupl×Int×Unit) (Int) (λx=>sS x.1∧x.2.1≤9223372036854775807) (λx v=>v≤9223372036854775807):=⟨λ(x0,x1,_)=>
  .lp (dC (x0,x1,0,())).lp λw2=> .sum w2 (λ_=>
  .ret (-1))<|
  λ(_,a2_0)=>
  .ret a2_0,
 λ(x0,x1,_) hp=>by
  refine Tr.L (zg ?_ ?_ ?_) (λa2_0 _=>Tr.Sr (Tr.R ?_)) (λp2a0 _=>Tr.Sl (Tr.R ?_))
  all_goals ((try simp only[dC,LC.lp,LC.ct,Ct.lp]at*)<;>grind)⟩
noncomputable def Jf:=aZ st vn vl [(bx 0 jm dC)] (ks:=[.sc (.sl .tupl),.sc (.int .i64)]) oy (λv=>[(false,[.c (.int .i64 v)])]) Tryz.func363 ⟨A3,trivial⟩
noncomputable def Pq:FF (Conn×Unit) (Bool):=⟨λ(x0,_)=>
  .ite (!(x0.s.data==[])) (.ret true)<|
  .ite x0.s.fin (.ret (!x0.s.done))<|
  .ret false⟩
noncomputable def Sj:=iW st Tryz.func365 [] (ks:=[.st .conn]) Pq (λv=>[(false,[.c (.bool v)])])
noncomputable def A4:FF (Conn×Unit) (Int):=⟨λ(x0,_)=>
  .ite (x0.opts.mss==0) (.ret 536)<|
  .val (kW.f (1460,x0.opts.mss,())) λc1=>
  .val (fq.f (1,c1,())) λc2=>
  .ret c2⟩
noncomputable def SH:=iW st Tryz.func368 [sx,lA] (ks:=[.st .conn]) A4 (λv=>[(false,[.c (.int .i64 v)])])
noncomputable def tL:FF (Int×Int×Unit) (Sipr):=⟨λ(x0,x1,_)=>
  .ret (⟨(bits .xor .u64 x0 8317987319222330741),(bits .xor .u64 x1 7237128888997146477),(bits .xor .u64 x0 7816392313619706465),(bits .xor .u64 x1 8387220255154660723)⟩:Sipr)⟩
noncomputable def Mp:=iW st Tryz.func370 [] (ks:=[.sc (.int .u64),.sc (.int .u64)]) tL (λv=>[(true,Cg v)])
noncomputable def It:List (Ent1 Tryz.prog):=[]
def nG:Sh:=⟨[zs 0,(3,false,[.int .u64]),zi 4],[]⟩
noncomputable def Je:Fx:=⟨372,Tryz.f372,[(0,lb [0,3,4] [2,3])],0⟩
noncomputable def JH (v0:ax)(v2:Int)(a:Int):Tr (Stp (Int) (Empty)):=
 .grd ((decide (0≤v2))&&(decide (v2<(v0.length:Int))))<|
 .val (bits .or .u64 (IntKind.wrap .u64 (a*256)) (IntKind.wrap .u64 (ci v0 v2.toNat))) λe1=>
 .ret (.next e1)
noncomputable def gz:nG.V→LC nG (Int) (Empty) (Int×Int):=λ(v0,v1,v2,_)=>⟨v2,v1,λv2 a=>(v0,a,v2,()),λv2 _=>(decide (0≤v2)),JH v0,dn,(-1),(Int.toNat (v2-0+1)),(λp=>Empty.elim p),λi a=>(i,a),λ_ k x=>k (.exit 0) (Sh.enc ⟨[zu 2,(3,false,[.int .u64])],[]⟩ (x.2,()))⟩
theorem KB:LS Tryz.prog Je [0] (bx 0 nG gz):=aN st (ac It) _ gz [] trivial
theorem Kz {v0:ax}{v1 v2:Int}(h0:v2≤9223372036854775807)(h1:v2<(v0.length:Int)):(gz (v0,v1,v2,())).D 0 (λv2 a=>v2<(v0.length:Int)) (λ_=>True):=
 LC.okD (i:=v2) (a:=v1) (λ_ _=>rfl) (λ_=>rfl) rfl h0 (by decide) h1 λv2 v1 hj hk hv=>by
  refine Tr.G2 ?_ λ_=>Tr.V λ_ _=>Tr.Rn ?_
  all_goals (grind)
noncomputable def qs:FT (ax×Unit) (Int) (λx=>sS x.1) (λ_ _=>True):=⟨λ(x0,_)=>
  .lp (gz (x0,0,(IntKind.wrap .i64 ((x0.length:Int)-1)),())).lp λ(_,a2_0)=>
  .ret a2_0,
 λ(x0,_) hp=>by
  refine Tr.L (Kz ?_ ?_) (λa2_0 _=>Tr.R trivial) (λp=>Empty.elim p)
  all_goals ((try simp only[gz,LC.lp,LC.ct,Ct.lp]at*)<;>grind)⟩
noncomputable def Sx:=aZ st Je It [(bx 0 nG gz)] (ks:=[.sc .str]) qs (λv=>[(false,[.c (.int .u64 v)])]) Tryz.func372 ⟨KB,trivial⟩
noncomputable def bR:FT (Recv×Unit) (Int) (λx=>an x.1) (λx v=>0≤v∧v≤32∧(x.1.data.length≤32→v=Vl x.1)):=⟨λ(x0,_)=>
  .ite x0.done (.ret 0)<|
  .val (β:=Int) (if 0<(IntKind.wrap .i64 (32-(x0.data.length:Int)))then(IntKind.wrap .i64 (32-(x0.data.length:Int)))else 0) λe1=>
  .ret e1,
 λ(x0,_) hp=>by
  refine Tr.I (λ_=>Tr.R ?_) λ_=>Tr.V λ_ _=>Tr.R ?_
  all_goals (grind)⟩
noncomputable def lS:=bi st Tryz.func379 [] (ks:=[.st .recv]) bR (λv=>[(false,[.c (.int .i64 v)])])
noncomputable def uW:FT (Int×Opti×Unit) (Int) (λ_=>True) (λ_ _=>True):=⟨λ(x0,x1,_)=>
  .grd (decide (0≤(if x1.scale<0 then 0 else x1.scale)))<|
  .val (IntKind.wrap .i64 (x0*2 ^ (min (if x1.scale<0 then 0 else x1.scale).toNat 64))) λe1=>
  .ret (if 1073725440<e1 then 1073725440 else e1),
 λ(x0,x1,_) hp=>by
  refine Tr.G1 ?_ λ_=>Tr.F (by kernel_rfl) trivial
  all_goals (grind)⟩
noncomputable def H3:=bi st Tryz.func384 [] (ks:=[.sc (.int .i64),.st .opti]) uW (λv=>[(false,[.c (.int .i64 v)])])
noncomputable def cJ:FT (Sndr×Unit) (Int) (λx=>bU x.1) (λx v=>(0≤x.1.sent∧x.1.sent≤1000→x.1.sent≤v∧v≤x.1.sent+1)):=⟨λ(x0,_)=>
  .ite x0.finSent (.ret (IntKind.wrap .i64 (x0.sent+1)))<|
  .ret x0.sent,
 λ(x0,_) hp=>by
  refine Tr.I (λ_=>Tr.R ?_) λ_=>Tr.R ?_
  all_goals (grind)⟩
noncomputable def pN:=bi st Tryz.func385 [] (ks:=[.st .sndr]) cJ (λv=>[(false,[.c (.int .i64 v)])])
noncomputable def df:FF (Conn×Unit) (Int):=⟨λ(x0,_)=>
  .ite (x0.opts.mss==0) (.ret 536)<|
  .val (β:=Int) (if 1<(if 1460<x0.opts.mss then 1460 else x0.opts.mss)then(if 1460<x0.opts.mss then 1460 else x0.opts.mss)else 1) λe1=>
  .ret e1⟩
noncomputable def Ts:=iW st Tryz.func389 [] (ks:=[.st .conn]) df (λv=>[(false,[.c (.int .i64 v)])])
noncomputable def jd:FT (Int×Unit) (Recv) (λ_=>True) (λx v=>an v):=⟨λ(x0,_)=>
  .val (bM.f (x0,0,())) λc1=>
  .ret (⟨c1,[],[],(-1),false⟩:Recv),
 λ(x0,_) hp=>by
  refine Tr.V λ_ _=>Tr.R ?_
  all_goals (grind)⟩
noncomputable def Ei:=bi st Tryz.func393 [fH] (ks:=[.sc (.int .i64)]) jd (λv=>[(true,sT (.o true) v)])
noncomputable def ij:FT (Segm×Unit) (Int) (λx=>aj x.1) (λx v=>0≤v∧v≤x.1.body.length+2):=⟨λ(x0,_)=>
  .val (gJ.f (x0,2,())) λc1=>
  .ite c1 (.val (gJ.f (x0,1,())) λc2=>
   .ite c2 (.val (IntKind.wrap .i64 ((IntKind.wrap .i64 ((x0.body.length:Int)+1))+1)) λe3=>
    .ret e3)<|
   .ret (IntKind.wrap .i64 ((x0.body.length:Int)+1)))<|
  .val (gJ.f (x0,1,())) λc4=>
  .ite c4 (.ret (IntKind.wrap .i64 ((x0.body.length:Int)+1)))<|
  .ret (x0.body.length:Int),
 λ(x0,_) hp=>by
  refine Tr.V λ_ _=>Tr.I (λ_=>Tr.V λ_ _=>Tr.I (λ_=>Tr.V λ_ _=>Tr.R ?_) λ_=>Tr.R ?_) λ_=>Tr.V λ_ _=>Tr.I (λ_=>Tr.R ?_) λ_=>Tr.R ?_
  all_goals (grind)⟩
noncomputable def pQ:=bi st Tryz.func398 [wh] (ks:=[.st .segm]) ij (λv=>[(false,[.c (.int .i64 v)])])
noncomputable def kv:FT (Int×Unit) (Recv) (λ_=>True) (λx v=>an v∧v.held.length≤3):=⟨λ(x0,_)=>
  .val (bF.f (x0,())) λc1=>
  .ret (⟨c1,[],[],(-1),false⟩:Recv),
 λ(x0,_) hp=>by
  refine Tr.V λ_ _=>Tr.R ?_
  all_goals (grind)⟩
noncomputable def t9:=bi st Tryz.func401 [ic] (ks:=[.sc (.int .i64)]) kv (λv=>[(true,sT (.o true) v)])
noncomputable def A9:FT (Int×Unit) (Int) (λ_=>True) (λ_ _=>True):=⟨λ(x0,_)=>
  .val (dk.f (x0,0,7,())) λc1=>
  .ite (!c1) (.ret 0)<|
  .grd ((decide (0≤x0))&&(decide (x0<8)))<|
  .ret ([64,256,536,1024,1300,1400,1440,1460].getD x0.toNat 0),
 λ(x0,_) hp=>by
  refine Tr.V λ_ _=>Tr.I (λ_=>Tr.R trivial) λ_=>Tr.G2 ?_ λ_=>Tr.R trivial
  all_goals (grind)⟩
noncomputable def KM:=bi st Tryz.func402 [dR] (ks:=[.sc (.int .i64)]) A9 (λv=>[(false,[.c (.int .i64 v)])])
noncomputable def II:FT (Int×Unit) (ax) (λx=>0≤x.1∧x.1≤1048576) (λx v=>sS v):=⟨λ(x0,_)=>
  .grd ((((decide (0≤x0))&&(decide (x0=x0)))&&(decide (x0*1≤(aF:Int))))&&(decide (x0≤(aF:Int))))<|
  .ret (ar (List.replicate x0.toNat 0)),
 λ(x0,_) hp=>by
  refine Tr.G4 ?_ λ_=>Tr.R ?_
  all_goals (grind)⟩
noncomputable def Jm:=bi st Tryz.func406 [] (ks:=[.sc (.int .i64)]) II (λv=>[(false,[.c (.str v)])])
noncomputable def AJ:=[KM]
def kL:Sh:=⟨[zi 0,zi 3,zi 4],[]⟩
noncomputable def Au:Fx:=⟨407,Tryz.f407,[(0,lb [0,3,4] [2,3])],0⟩
noncomputable def t8 (v0:Int)(v2:Int)(a:Int):Tr (Stp (Int) (Empty)):=
 .cal A9.c (v2,()) λc1=>
 .ite (decide (c1≤v0)) (.ret (.next v2))<|
 .ret (.next a)
noncomputable def eV:kL.V→LC kL (Int) (Empty) (Int×Int):=λ(v0,v1,v2,_)=>⟨v2,v1,λv2 a=>(v0,a,v2,()),λv2 _=>(decide (v2<8)),t8 v0,up,1,(Int.toNat (8-v2)),(λp=>Empty.elim p),λi a=>(i,a),λ_ k x=>k (.exit 0) (Sh.enc ⟨[zu 2,zi 3],[]⟩ (x.2,()))⟩
theorem E8:LS Tryz.prog Au [0] (bx 0 kL eV):=aN st (ac AJ) _ eV [] trivial
theorem E4 {v0 v1 v2:Int}(h0:0≤v2):(eV (v0,v1,v2,())).U 8 (λ_ _=>True) (λ_=>True):=
 LC.okU (i:=v2) (a:=v1) (λ_ _=>rfl) (λ_=>rfl) rfl h0 (by decide) trivial λv2 v1 hj hk hv=>by
  refine Tr.C trivial λ_ _ _=>Tr.Z (by kernel_rfl)
noncomputable def sU:FT (Int×Unit) (Int) (λ_=>True) (λ_ _=>True):=⟨λ(x0,_)=>
  .lp (eV (x0,0,0,())).lp λ(_,a2_0)=>
  .ret a2_0,
 λ(x0,_) hp=>by
  refine Tr.L (E4 ?_) (λa2_0 _=>Tr.R trivial) (λp=>Empty.elim p)
  all_goals ((try simp only[eV,LC.lp,LC.ct,Ct.lp]at*)<;>grind)⟩
noncomputable def NK:=aZ st Au AJ [(bx 0 kL eV)] (ks:=[.sc (.int .i64)]) sU (λv=>[(false,[.c (.int .i64 v)])]) Tryz.func407 ⟨E8,trivial⟩
noncomputable def O9:=[dR,ic]
def HU:An:=⟨⟨[],[],false,0⟩,⟨[0,1,6,7],[],false,0⟩,⟨[],[]⟩,[(.normal,⟨[zi 0,zi 1,zi 6,zi 7],[]⟩)]⟩
noncomputable def OM:Fx:=⟨408,Tryz.f408,[(1000008,HU)],0⟩
noncomputable def wR:FF (Int×Int×Bool×Unit) (Int):=⟨λ(x0,x1,x2,_)=>
  .bnd (β:=Int×Int×Int×Int×Unit) (.ite x2 (.ret (x0,x1,0,48,()))<|
   .ret (x0,x1,0,32,())) λ(u1a0,u1a1,_,u1a3,_)=>
  .val (dk.f (u1a1,0,14,())) λc2=>
  .ite c2 (.val (bF.f (u1a0,())) λc3=>
   .val (IntKind.wrap .i64 ((IntKind.wrap .i64 (c3*64))+(IntKind.wrap .i64 (u1a3+u1a1)))) λe4=>
   .val (bF.f (e4,())) λc5=>
   .ret c5)<|
  .val (bF.f (u1a0,())) λc6=>
  .val (IntKind.wrap .i64 ((IntKind.wrap .i64 (c6*64))+(IntKind.wrap .i64 (u1a3+15)))) λe7=>
  .val (bF.f (e7,())) λc8=>
  .ret c8⟩
noncomputable def OQ:=TN st OM O9 [] (ks:=[.sc (.int .i64),.sc (.int .i64),.sc .bool]) wR (λv=>[(false,[.c (.int .i64 v)])]) Tryz.func408 trivial
noncomputable def ph:FF (Tupl×Tupl×Unit) (Bool):=⟨λ(x0,x1,_)=>
  .ite (x0.ip != x1.ip) (.ret false)<|
  .ite (x0.port != x1.port) (.ret false)<|
  .ite (x0.my != x1.my) (.ret false)<|
  .ret true⟩
noncomputable def vj:=iW st Tryz.func414 [] (ks:=[.st .tupl,.st .tupl]) ph (λv=>[(false,[.c (.bool v)])])
noncomputable def n6:FF (Opti×Opti×Unit) (Bool):=⟨λ(x0,x1,_)=>
  .ite (x0.mss != x1.mss) (.ret false)<|
  .ite (x0.scale != x1.scale) (.ret false)<|
  .ite (!(x0.sack==x1.sack)) (.ret false)<|
  .ite (!(x0.stamp==x1.stamp)) (.ret false)<|
  .ite (x0.val != x1.val) (.ret false)<|
  .ite (x0.echo != x1.echo) (.ret false)<|
  .ret true⟩
noncomputable def xU:=iW st Tryz.func415 [] (ks:=[.st .opti,.st .opti]) n6 (λv=>[(false,[.c (.bool v)])])
noncomputable def uA:=[oG]
def iQ:Sh:=⟨[(0,false,[.sl .arg .macRow]),zi 1,zi 5],[]⟩
noncomputable def uh:Fx:=⟨418,Tryz.f418,[(0,lb [0,1,5] [1,4])],0⟩
noncomputable def iC (v0:List MacRow)(v2:Int)(a:Int):Tr (Stp (Int) ((Int))):=
 .grd ((decide (0≤v2))&&(decide (v2<(v0.length:Int))))<|
 .cal eX.c (a,()) λc1=>
 .ite (!((v0.getD v2.toNat (Ty.zero .macRow)).input==c1)) (.ret (.out a))<|
 .grd ((decide (0≤v2))&&(decide (v2<(v0.length:Int))))<|
 .ite ((v0.getD v2.toNat (Ty.zero .macRow)).value != (IntKind.wrap .i64 (a+1))) (.ret (.out (IntKind.wrap .i64 (a+1))))<|
 .ret (.next (IntKind.wrap .i64 ((IntKind.wrap .i64 (a+1))+1)))
noncomputable def cp:iQ.V→LC iQ (Int) ((Int)) (((Int))⊕(Int×Int)):=λ(v0,v1,v2,_)=>⟨v2,v1,λv2 a=>(v0,a,v2,()),λv2 _=>(decide (v2<(v0.length:Int))),iC v0,up,1,(Int.toNat ((v0.length:Int)-v2)),.inl,λi a=> .inr (i,a),λ_ k w=>Sum.elim (λp=>k .ret (Sh.enc ⟨[zi 1,zi 4],[]⟩ (p,(-1),()))) (λx=>k (.exit 0) (Sh.enc ⟨[zi 1,zu 4],[]⟩ (x.2,()))) w⟩
theorem yd:LS Tryz.prog uh [0] (bx 0 iQ cp):=aN st (ac uA) _ cp [] trivial
theorem yj {v0:List MacRow}{v1 v2:Int}(h0:0≤v2)(h1:(v0.length:Int)≤4611686018427387904)(h2:sL ay v0)(h3:v1≤9223372036854775807):(cp (v0,v1,v2,())).U (v0.length:Int) (λv2 a=>a≤9223372036854775807) (λ_=>True):=
 LC.okU (i:=v2) (a:=v1) (λ_ _=>rfl) (λ_=>rfl) rfl h0 h1 h3 λv2 v1 hj hk hv=>by
  refine Tr.G2 ?_ λ_=>Tr.C ?_ λ_ _ _=>Tr.I (λ_=>Tr.Ro trivial) λ_=>Tr.G2 ?_ λ_=>Tr.I (λ_=>Tr.Ro trivial) λ_=>Tr.Rn ?_
  all_goals (grind)
noncomputable def je:FT (List MacRow×Int×Unit) (Int) (λx=>sL ay x.1∧x.2.1≤9223372036854775807) (λx v=>v≤9223372036854775807):=⟨λ(x0,x1,_)=>
  .lp (cp (x0,x1,0,())).lp λw2=> .sum w2 (λ_=>
  .ret (-1))<|
  λ(_,a2_0)=>
  .ret a2_0,
 λ(x0,x1,_) hp=>by
  refine Tr.L (yj ?_ ?_ ?_ ?_) (λa2_0 _=>Tr.Sr (Tr.R ?_)) (λp2a0 _=>Tr.Sl (Tr.R ?_))
  all_goals ((try simp only[cp,LC.lp,LC.ct,Ct.lp]at*)<;>grind)⟩
noncomputable def EB:=aZ st uh uA [(bx 0 iQ cp)] (ks:=[.sc (.sl .macRow),.sc (.int .i64)]) je (λv=>[(false,[.c (.int .i64 v)])]) Tryz.func418 ⟨yd,trivial⟩
noncomputable def vx:=[oG]
def jo:Sh:=⟨[(0,false,[.sl .arg .piec]),zi 1,zi 5],[]⟩
noncomputable def vh:Fx:=⟨419,Tryz.f419,[(0,lb [0,1,5] [1,4])],0⟩
noncomputable def zI (v0:List Piec)(v2:Int)(a:Int):Tr (Stp (Int) ((Int))):=
 .grd ((decide (0≤v2))&&(decide (v2<(v0.length:Int))))<|
 .ite ((v0.getD v2.toNat (Ty.zero .piec)).off != a) (.ret (.out a))<|
 .grd ((decide (0≤v2))&&(decide (v2<(v0.length:Int))))<|
 .cal eX.c ((IntKind.wrap .i64 (a+1)),()) λc1=>
 .ite (!((v0.getD v2.toNat (Ty.zero .piec)).text==c1)) (.ret (.out (IntKind.wrap .i64 (a+1))))<|
 .ret (.next (IntKind.wrap .i64 ((IntKind.wrap .i64 (a+1))+1)))
noncomputable def eO:jo.V→LC jo (Int) ((Int)) (((Int))⊕(Int×Int)):=λ(v0,v1,v2,_)=>⟨v2,v1,λv2 a=>(v0,a,v2,()),λv2 _=>(decide (v2<(v0.length:Int))),zI v0,up,1,(Int.toNat ((v0.length:Int)-v2)),.inl,λi a=> .inr (i,a),λ_ k w=>Sum.elim (λp=>k .ret (Sh.enc ⟨[zi 1,zi 4],[]⟩ (p,(-1),()))) (λx=>k (.exit 0) (Sh.enc ⟨[zi 1,zu 4],[]⟩ (x.2,()))) w⟩
theorem BE:LS Tryz.prog vh [0] (bx 0 jo eO):=aN st (ac vx) _ eO [] trivial
theorem zA {v0:List Piec}{v1 v2:Int}(h0:0≤v2)(h1:(v0.length:Int)≤4611686018427387904)(h2:sL ge v0)(h3:v1≤9223372036854775807):(eO (v0,v1,v2,())).U (v0.length:Int) (λv2 a=>a≤9223372036854775807) (λ_=>True):=
 LC.okU (i:=v2) (a:=v1) (λ_ _=>rfl) (λ_=>rfl) rfl h0 h1 h3 λv2 v1 hj hk hv=>by
  refine Tr.G2 ?_ λ_=>Tr.I (λ_=>Tr.Ro trivial) λ_=>Tr.G2 ?_ λ_=>Tr.C ?_ λ_ _ _=>Tr.I (λ_=>Tr.Ro trivial) λ_=>Tr.Rn ?_
  all_goals (grind)
noncomputable def Bm:FT (List Piec×Int×Unit) (Int) (λx=>sL ge x.1∧x.2.1≤9223372036854775807) (λx v=>v≤9223372036854775807):=⟨λ(x0,x1,_)=>
  .lp (eO (x0,x1,0,())).lp λw2=> .sum w2 (λ_=>
  .ret (-1))<|
  λ(_,a2_0)=>
  .ret a2_0,
 λ(x0,x1,_) hp=>by
  refine Tr.L (zA ?_ ?_ ?_ ?_) (λa2_0 _=>Tr.Sr (Tr.R ?_)) (λp2a0 _=>Tr.Sl (Tr.R ?_))
  all_goals ((try simp only[eO,LC.lp,LC.ct,Ct.lp]at*)<;>grind)⟩
noncomputable def Ic:=aZ st vh vx [(bx 0 jo eO)] (ks:=[.sc (.sl .piec),.sc (.int .i64)]) Bm (λv=>[(false,[.c (.int .i64 v)])]) Tryz.func419 ⟨BE,trivial⟩
noncomputable def qJ:FF (Int×Int×Unit) (Int):=⟨λ(x0,x1,_)=>
  .ret (bits .and .i64 (IntKind.wrap .i64 (x0-x1)) 4294967295)⟩
@[grind=] theorem OJ (a b:Int):qJ.f (a,b,())=(a-b)%4294967296:=by
 simp only[qJ,FF.f,Tr.nice]
 rw[pF,cm];omega
noncomputable def Cf:=iW st Tryz.func423 [] (ks:=[.sc (.int .i64),.sc (.int .i64)]) qJ (λv=>[(false,[.c (.int .i64 v)])])
noncomputable def pe:FF (Int×Int×Unit) (Int):=⟨λ(x0,x1,_)=>
  .val (IntKind.wrap .i32 (IntKind.wrap .u32 ((IntKind.wrap .u32 x0)-(IntKind.wrap .u32 x1)))) λe1=>
  .ret (IntKind.wrap .i64 e1)⟩
noncomputable def vA:=iW st Tryz.func424 [] (ks:=[.sc (.int .i64),.sc (.int .i64)]) pe (λv=>[(false,[.c (.int .i64 v)])])
noncomputable def ja:FF (Int×Int×Bool×Unit) (Int):=⟨λ(x0,x1,x2,_)=>
  .ite x2 (.val (IntKind.wrap .i64 ((IntKind.wrap .i64 ((IntKind.wrap .i64 (x0*64))+32))+16)) λe1=>
   .val (bo.f (x1,0,14,())) λc2=>
   .ite (!c2) (.ret (bits .and .i64 (IntKind.wrap .i64 (e1+15)) 4294967295))<|
   .ret (bits .and .i64 (IntKind.wrap .i64 (e1+x1)) 4294967295))<|
  .val (bo.f (x1,0,14,())) λc3=>
  .ite (!c3) (.val (IntKind.wrap .i64 ((IntKind.wrap .i64 ((IntKind.wrap .i64 (x0*64))+32))+15)) λe4=>
   .ret (bits .and .i64 e4 4294967295))<|
  .val (IntKind.wrap .i64 ((IntKind.wrap .i64 ((IntKind.wrap .i64 (x0*64))+32))+x1)) λe5=>
  .ret (bits .and .i64 e5 4294967295)⟩
noncomputable def Qp:=iW st Tryz.func428 [bV] (ks:=[.sc (.int .i64),.sc (.int .i64),.sc .bool]) ja (λv=>[(false,[.c (.int .i64 v)])])
noncomputable def nr:FF (Int×Int×Int×Unit) (Bool):=⟨λ(x0,x1,x2,_)=>
  .ite (decide (0<x2)) (.val (bF.f (x0,())) λc1=>
   .val (bF.f (x1,())) λc2=>
   .val (bF.f ((IntKind.wrap .i64 (c1-c2)),())) λc3=>
   .ret (decide (c3<x2)))<|
  .ret false⟩
noncomputable def tC:=iW st Tryz.func431 [ic] (ks:=[.sc (.int .i64),.sc (.int .i64),.sc (.int .i64)]) nr (λv=>[(false,[.c (.bool v)])])
noncomputable def tg:FF (Sndr×Sndr×Unit) (Bool):=⟨λ(x0,x1,_)=>
  .ite (x0.una != x1.una) (.ret false)<|
  .ite (!(x0.data==x1.data)) (.ret false)<|
  .ite (x0.sent != x1.sent) (.ret false)<|
  .ite (!(x0.fin==x1.fin)) (.ret false)<|
  .ite (!(x0.finSent==x1.finSent)) (.ret false)<|
  .ite (!(x0.done==x1.done)) (.ret false)<|
  .ret true⟩
noncomputable def Mz:=iW st Tryz.func438 [] (ks:=[.st .sndr,.st .sndr]) tg (λv=>[(false,[.c (.bool v)])])
noncomputable def j1:FT (Int×Int×Unit) (Int) (λx=>0≤x.2.1) (λ_ _=>True):=⟨λ(x0,x1,_)=>
  .grd (decide (0≤x1))<|
  .grd (decide (0≤(IntKind.wrap .u64 (64-x1))))<|
  .val (bits .or .u64 (IntKind.wrap .u64 (x0*2 ^ (min x1.toNat 64))) (x0.fdiv (2 ^ (min (IntKind.wrap .u64 (64-x1)).toNat 64)))) λe1=>
  .ret e1,
 λ(x0,x1,_) hp=>by
  refine Tr.G1 ?_ λ_=>Tr.G1 ?_ λ_=>Tr.F (by kernel_rfl) trivial
  all_goals (grind)⟩
noncomputable def Rk:=bi st Tryz.func440 [] (ks:=[.sc (.int .u64),.sc (.int .u64)]) j1 (λv=>[(false,[.c (.int .u64 v)])])
noncomputable def vF:List (Ent1 Tryz.prog):=[]
def jq:Sh:=⟨[(0,false,[.sl .arg .bool]),zb 1,zi 7,zi 8],[]⟩
noncomputable def vM:Fx:=⟨441,Tryz.f441,[(0,lb [0,1,7,8] [4])],0⟩
noncomputable def qG (v0:List Bool)(v1:Bool)(v3:Int)(a:Unit):Tr (Stp (Unit) ((Int))):=
 .grd ((decide (0≤v3))&&(decide (v3<(v0.length:Int))))<|
 .ite (v1==(v0.getD v3.toNat false)) (.ret (.out v3))<|
 .ret (.next ())
noncomputable def dr:jq.V→LC jq (Unit) ((Int)) (((Int))⊕(Int×Unit)):=λ(v0,v1,v2,v3,_)=>⟨v3,(),λv3 _=>(v0,v1,v2,v3,()),λv3 _=>(decide (v3<v2)),qG v0 v1,up,1,(Int.toNat (v2-v3)),.inl,λi a=> .inr (i,a),λ_ k w=>Sum.elim (λp=>k .ret (Sh.enc ⟨[zi 4],[]⟩ (p,()))) (λ_=>k (.exit 0) (Sh.enc ⟨[zu 4],[]⟩ ())) w⟩
theorem Bi:LS Tryz.prog vM [0] (bx 0 jq dr):=aN st (ac vF) _ dr [] trivial
theorem zo {v0:List Bool}{v1:Bool}{v2 v3:Int}(h0:0≤v3)(h1:v2≤4611686018427387904)(h2:v2≤(v0.length:Int)):(dr (v0,v1,v2,v3,())).U v2 (λ_ _=>True) (λp=>v3≤p∧p<v2):=
 LC.okU (i:=v3) (a:=()) (λ_ _=>rfl) (λ_=>rfl) rfl h0 h1 trivial λv3 _ hj hk hv=>by
  refine Tr.G2 ?_ λ_=>Tr.I (λ_=>Tr.Ro ?_) λ_=>Tr.Rn trivial
  all_goals (grind)
noncomputable def oN:FT (List Bool×Bool×Unit) (Int) (λx=>wS x.1) (λx v=> -1≤v∧v<x.1.length):=⟨λ(x0,x1,_)=>
  .lp (dr (x0,x1,(x0.length:Int),0,())).lp λw1=> .sum w1 (λp1a0=>
  .ret p1a0)<|
  λ_=>
  .ret (-1),
 λ(x0,x1,_) hp=>by
  refine Tr.L (zo ?_ ?_ ?_) (λ_ _=>Tr.Sr (Tr.R ?_)) (λp1a0 _=>Tr.Sl (Tr.R ?_))
  all_goals ((try simp only[dr,LC.lp,LC.ct,Ct.lp]at*)<;>grind)⟩
noncomputable def Jh:=aZ st vM vF [(bx 0 jq dr)] (ks:=[.sc (.sl .bool),.sc .bool]) oN (λv=>[(false,[.c (.int .i64 v)])]) Tryz.func441 ⟨Bi,trivial⟩
noncomputable def pg:FF (Int×Int×Unit) (Int):=⟨λ(x0,x1,_)=>
  .val (bF.f (x0,())) λc1=>
  .val (bF.f (x1,())) λc2=>
  .val (bF.f ((IntKind.wrap .i64 (c1-c2)),())) λc3=>
  .ite (decide (2147483647<c3)) (.ret (IntKind.wrap .i64 (c3-4294967296)))<|
  .ret c3⟩
noncomputable def vb:=iW st Tryz.func443 [ic] (ks:=[.sc (.int .i64),.sc (.int .i64)]) pg (λv=>[(false,[.c (.int .i64 v)])])
noncomputable def oI:List (Ent1 Tryz.prog):=[]
def kQ:Sh:=⟨[zp 1 0,(3,false,[.own 1]),zi 4],[.box [.st .recv [.sl .arg]],.arr .i64 false true]⟩
def jp:Sh:=⟨[zp 1 0,(3,false,[.own 1]),zi 5,zi 6],[.box [.st .recv [.sl .arg]],.arr .i64 false true]⟩
def kH:Sh:=⟨[zp 1 0,(3,false,[.own 1]),zi 5],[.box [.st .recv [.sl .arg]],.arr .i64 false true]⟩
noncomputable def oV:Fx:=⟨445,Tryz.f445,[(0,lb [1,3,4] [1,2,3]),(4,lb [1,3,5,6] [1,2,3,5]),(2,lb [1,3,5] [2,3])],0⟩
noncomputable def uz (v0:Int)(a:List Int):Tr (Stp (List Int) (Empty)):=
 .grd ((decide (0≤v0))&&(decide (v0<(a.length:Int))))<|
 .ret (.next (a.set v0.toNat (-1)))
noncomputable def ca:kQ.V→LC kQ (List Int) (Empty) (Int×(List Int)):=λ(v0,v1,v2,_)=>⟨v0,v2,λv0 a=>(v0,v1,a,()),λv0 a=>(decide (v0<(a.length:Int))),uz,up,1,(Int.toNat ((v2.length:Int)-v0)),(λp=>Empty.elim p),λi a=>(i,a),λ_ k x=>k (.exit 0) (Sh.enc ⟨[zp 1 0,zu 2,(3,false,[.own 1])],[.box [.st .recv [.sl .arg]],.arr .i64 false true]⟩ (v1,x.2,()))⟩
theorem Ff:LS Tryz.prog oV [0] (bx 0 kQ ca):=aN st (ac oI) _ ca [] trivial
theorem E1 {v0:Int}{v1:Recv}{v2:List Int}(h0:0≤v0)(h1:(v2.length:Int)≤4611686018427387904)(h2:sS v2)(h3:v2.length=v2.length):(ca (v0,v1,v2,())).S (λv0 a=>a.length=v2.length∧a.length=v2.length) (λ_=>True):=by
 refine LC.okS ⟨rfl,h3⟩ (λj a hj hv=>⟨⟨?_, ?_⟩, ?_⟩) (λa hv=> ?_)
 ·simp only[ca,decide_eq_true_eq]at*;omega
 ·simp only[ca]at*;exact ZN (by omega) (by omega)
 ·refine Tr.G2 ?_ λ_=>Tr.Rn ?_
  all_goals (try simp only[ca]at*)<;>(grind)
 ·simp only[ca,decide_eq_false_iff_not]at*;omega
noncomputable def mF (vb0:Int)(vb2:Recv)(a:Int×List Int):Tr (Stp (Int×List Int) ((List Int))):=
 .grd ((decide (0≤vb0))&&(decide (vb0<(vb2.held.length:Int))))<|
 .ite (decide (a.1<(((vb2.held.getD vb0.toNat (Ty.zero .piec)).text).length:Int))) (.grd ((decide (0≤vb0))&&(decide (vb0<(vb2.held.length:Int))))<|
  .val (IntKind.wrap .i64 ((vb2.held.getD vb0.toNat (Ty.zero .piec)).off+a.1)) λe2=>
  .grd ((decide (0≤vb0))&&(decide (vb0<(vb2.held.length:Int))))<|
  .grd ((decide (0≤a.1))&&(decide (a.1<(((vb2.held.getD vb0.toNat (Ty.zero .piec)).text).length:Int))))<|
  .val (IntKind.wrap .i64 (ci ((vb2.held.getD vb0.toNat (Ty.zero .piec)).text) a.1.toNat)) λe3=>
  .grd ((decide (0≤e2))&&(decide (e2<(a.2.length:Int))))<|
  .ret (.next ((IntKind.wrap .i64 (a.1+1)),(a.2.set e2.toNat e3))))<|
 .ret (.out a.2)
noncomputable def dG:jp.V→LW jp (Int×List Int) ((List Int)):=λ(vb0,vb1,vb2,vb3,_)=>⟨(vb1,vb3),λa=>(vb0,a.1,vb2,a.2,()),mF vb0 vb2,Int.toNat (((vb2.held.getD vb0.toNat (Ty.zero .piec)).text.length:Int)-vb1),λ_ k p=>k (.exit 4) (Sh.enc ⟨[zp 1 0,zu 2,(3,false,[.own 1]),zi 5],[.box [.st .recv [.sl .arg]],.arr .i64 false true]⟩ (vb0,vb2,p,()))⟩
theorem Bf:LS Tryz.prog oV [1,0] (SX 4 jp dG):=Hz st (ac oI) _ dG [] trivial
theorem zT {vb0 vb1:Int}{vb2:Recv}{vb3:List Int}(h0:0≤vb0)(h1:vb0<(vb2.held.length:Int))(h2:dP po vb2.held)(h3:an vb2)(h4:0≤vb1∧vb3.length=33):(dG (vb0,vb1,vb2,vb3,())).W (λp=>p.length=33):=
 LW.okW (a:=(vb1,vb3)) (λa=>0≤a.1∧a.2.length=33) (λa=>Int.toNat (((vb2.held.getD vb0.toNat (Ty.zero .piec)).text.length:Int)-a.1)) rfl h4 λ(vb1,vb3) hv=>by
  refine Tr.G2 ?_ λg0=>Tr.I (λb1=>Tr.G2 ?_ λg2=>Tr.V λe2 he2=>Tr.G2 ?_ λg3=>Tr.G2 ?_ λg4=>Tr.V λe3 he3=>Tr.G2 ?_ λg5=>Tr.Rn ?_) λb1=>Tr.Ro ?_
  all_goals ((have hp:=Z3 (i:=vb0.toNat) h2 (by omega);simp only[po]at hp;grind))
noncomputable def uu (v1:Recv)(v0:Int)(a:List Int):Tr (Stp (List Int) (Empty)):=
 .lp (dG (v0,0,v1,a,())).lp λp4a0=>
 .ret (.next p4a0)
noncomputable def eR:kH.V→LC kH (List Int) (Empty) (Int×(List Int)):=λ(v0,v1,v2,_)=>⟨v0,v2,λv0 a=>(v0,v1,a,()),λv0 _=>(decide (v0<(v1.held.length:Int))),uu v1,up,1,(Int.toNat ((v1.held.length:Int)-v0)),(λp=>Empty.elim p),λi a=>(i,a),λ_ k x=>k (.exit 2) (Sh.enc ⟨[zu 2,(3,false,[.own 0])],[.arr .i64 false true]⟩ (x.2,()))⟩
theorem Es:LS Tryz.prog oV [1] (bx 2 kH eR):=aN st (ac oI) _ eR [(SX 4 jp dG)] ⟨Bf,trivial⟩
theorem EG {v0:Int}{v1:Recv}{v2:List Int}(h0:0≤v0)(h1:(v1.held.length:Int)≤4611686018427387904)(h2:dP po v1.held)(h3:an v1)(h4:v2.length=33):(eR (v0,v1,v2,())).U (v1.held.length:Int) (λv0 a=>a.length=33) (λ_=>True):=
 LC.okU (i:=v0) (a:=v2) (λ_ _=>rfl) (λ_=>rfl) rfl h0 h1 h4 λv0 v2 hj hk hv=>by
  refine Tr.L (zT ?_ ?_ ?_ ?_ ?_) (λa=>Empty.elim a) (λp4a0 _=>Tr.Rn ?_)
  all_goals ((try simp only[dG,LW.lp,LW.cw,Cw.lp]at*)<;>grind)
noncomputable def tz:FT (Recv×Unit) (List Int) (λx=>an x.1∧dP po x.1.held) (λx v=>sS v∧v.length=33):=⟨λ(x0,_)=>
  .lp (ca (0,x0,(List.replicate 33 0),())).lp λ(_,a1_0)=>
  .lp (eR (0,x0,a1_0,())).lp λ(_,a5_0)=>
  .ret a5_0,
 λ(x0,_) hp=>by
  refine Tr.L (E1 ?_ ?_ ?_ ?_) (λa1_0 _=>Tr.L (EG ?_ ?_ ?_ ?_ ?_) (λa5_0 _=>Tr.R ?_) (λp=>Empty.elim p)) (λp=>Empty.elim p)
  all_goals ((try simp only[ca,eR,LC.lp,LC.ct,Ct.lp]at*)<;>grind)⟩
noncomputable def Mc:=aZ st oV oI [(bx 0 kQ ca),(bx 2 kH eR)] (ks:=[.st .recv]) tz (λv=>[(false,[sc (.o true) .i64 v])]) Tryz.func445 ⟨Ff,Es,trivial⟩
noncomputable def Ef:List (Ent1 Tryz.prog):=[]
def mO:Sh:=⟨[(0,false,[.sl .arg .i64]),zi 5],[]⟩
noncomputable def DS:Fx:=⟨446,Tryz.f446,[(0,lb [0,5] [4])],0⟩
noncomputable def mL (v0:List Int)(v1:Int)(a:Unit):Tr (Stp (Unit) ((Unit))):=
 .grd ((decide (0≤v1))&&(decide (v1<(v0.length:Int))))<|
 .ite (decide (0≤(v0.getD v1.toNat 0))) (.ret (.out ()))<|
 .ret (.next ())
noncomputable def fP:mO.V→LC mO (Unit) ((Unit)) (((Unit))⊕(Int×Unit)):=λ(v0,v1,_)=>⟨v1,(),λv1 _=>(v0,v1,()),λv1 _=>(decide (v1<(v0.length:Int))),mL v0,up,1,(Int.toNat ((v0.length:Int)-v1)),.inl,λi a=> .inr (i,a),λ_ k w=>Sum.elim (λ_=>k .ret (Sh.enc ⟨[zb 4],[]⟩ (false,()))) (λ_=>k (.exit 0) (Sh.enc ⟨[zu 4],[]⟩ ())) w⟩
theorem IH:LS Tryz.prog DS [0] (bx 0 mO fP):=aN st (ac Ef) _ fP [] trivial
theorem FR {v0:List Int}{v1:Int}(h0:0≤v1)(h1:(v0.length:Int)≤4611686018427387904):(fP (v0,v1,())).U (v0.length:Int) (λ_ _=>True) (λ_=>True):=
 LC.okU (i:=v1) (a:=()) (λ_ _=>rfl) (λ_=>rfl) rfl h0 h1 trivial λv1 _ hj hk hv=>by
  refine Tr.G2 ?_ λ_=>Tr.Z (by kernel_rfl)
  all_goals (grind)
noncomputable def rV:FT (List Int×Int×Unit) (Bool) (λx=>sS x.1∧0≤x.2.1) (λ_ _=>True):=⟨λ(x0,x1,_)=>
  .lp (fP (x0,x1,())).lp λw1=> .sum w1 (λ_=>
  .ret false)<|
  λ_=>
  .ret true,
 λ(x0,x1,_) hp=>by
  refine Tr.L (FR ?_ ?_) (λ_ _=>Tr.Sr (Tr.R trivial)) (λ_ _=>Tr.Sl (Tr.R trivial))
  all_goals ((try simp only[fP,LC.lp,LC.ct,Ct.lp]at*)<;>grind)⟩
noncomputable def QX:=aZ st DS Ef [(bx 0 mO fP)] (ks:=[.sc (.sl .i64),.sc (.int .i64)]) rV (λv=>[(false,[.c (.bool v)])]) Tryz.func446 ⟨IH,trivial⟩
noncomputable def xr:List (Ent1 Tryz.prog):=[]
def j4:Sh:=⟨[(0,false,[.sl .arg .i64]),zi 1,(5,false,[.own 0]),zi 6],[.arr .piec false true]⟩
noncomputable def xC:Fx:=⟨447,Tryz.f447,[(0,lb [0,1,5,6] [4,5]),(3000007,rA 0 44)],0⟩
noncomputable def cc (v0:List Int)(v1:Int)(v2:Int)(a:List Piec):Tr (Stp (List Piec) (Empty)):=
 .grd ((decide (0≤v2))&&(decide (v2<(v0.length:Int))))<|
 .ite (decide ((v0.getD v2.toNat 0)<0)) (.ret (.next a))<|
 .bnd (β:=Bool×Unit) (.ite (decide (0<(a.length:Int))) (.grd ((decide (0≤(IntKind.wrap .i64 ((a.length:Int)-1))))&&(decide ((IntKind.wrap .i64 ((a.length:Int)-1))<(a.length:Int))))<|
   .val ((a.getD (IntKind.wrap .i64 ((a.length:Int)-1)).toNat (Ty.zero .piec)).off) λe1=>
   .grd ((decide (0≤(IntKind.wrap .i64 ((a.length:Int)-1))))&&(decide ((IntKind.wrap .i64 ((a.length:Int)-1))<(a.length:Int))))<|
   .val ((a.getD (IntKind.wrap .i64 ((a.length:Int)-1)).toNat (Ty.zero .piec)).text) λe2=>
   .ret (((IntKind.wrap .i64 (e1+(e2.length:Int)))==(IntKind.wrap .i64 (v2-v1))),()))<|
  .ret (false,())) λ(u3a0,_)=>
 .ite u3a0 (.grd ((decide (0≤(IntKind.wrap .i64 ((a.length:Int)-1))))&&(decide ((IntKind.wrap .i64 ((a.length:Int)-1))<(a.length:Int))))<|
  .val ((a.getD (IntKind.wrap .i64 ((a.length:Int)-1)).toNat (Ty.zero .piec)).text) λe4=>
  .grd ((decide (0≤v2))&&(decide (v2<(v0.length:Int))))<|
  .grd (Nat.ble (e4.length+(ar [(IntKind.wrap .u8 (v0.getD v2.toNat 0))]).length) dq)<|
  .grd ((decide (0≤(IntKind.wrap .i64 ((a.length:Int)-1))))&&(decide ((IntKind.wrap .i64 ((a.length:Int)-1))<(a.length:Int))))<|
  .val (a.set (IntKind.wrap .i64 ((a.length:Int)-1)).toNat (⟨(a.getD (IntKind.wrap .i64 ((a.length:Int)-1)).toNat (Ty.zero .piec)).off,(e4++(ar [(IntKind.wrap .u8 (v0.getD v2.toNat 0))]))⟩:Piec)) λl5=>
  .ret (.next l5))<|
 .grd ((decide (0≤v2))&&(decide (v2<(v0.length:Int))))<|
 .grd (Nat.ble ((2*(a.length+1)+1024)*24) aF)<|
 .val (a++[(⟨(IntKind.wrap .i64 (v2-v1)),(ar [(IntKind.wrap .u8 (v0.getD v2.toNat 0))])⟩:Piec)]) λl6=>
 .ret (.next l6)
noncomputable def d5:j4.V→LC j4 (List Piec) (Empty) (Int×(List Piec)):=λ(v0,v1,v2,v3,_)=>⟨v2,v3,λv2 a=>(v0,v1,v2,a,()),λv2 _=>(decide (v2<(v0.length:Int))),cc v0 v1,up,1,(Int.toNat ((v0.length:Int)-v2)),(λp=>Empty.elim p),λi a=>(i,a),λ_ k x=>k (.exit 0) (Sh.enc ⟨[zu 4,(5,false,[.own 0])],[.arr .piec false true]⟩ (x.2,()))⟩
theorem Ca:LS Tryz.prog xC [0] (bx 0 j4 d5):=aN st (ac xr) _ d5 [] trivial
theorem BO {v0:List Int}{v1 v2:Int}{v3:List Piec}(h0:0≤v2)(h1:(v0.length:Int)≤4611686018427387904)(h2:sS v0)(h3:(v3.length:Int)≤v2∧dP (pl v2) v3):(d5 (v0,v1,v2,v3,())).U (v0.length:Int) (λv2 a=>(a.length:Int)≤v2∧dP (pl v2) a) (λ_=>True):=
 LC.okU (i:=v2) (a:=v3) (λ_ _=>rfl) (λ_=>rfl) rfl h0 h1 h3 λv2 v3 hj hk hv=>by
  refine Tr.G2 ?_ λg0=>Tr.I (λb1=>Tr.Rn ?_) λb1=>Tr.B (Q':=λw=>(w.1=true→0<v3.length)) (Tr.I (λb2=>Tr.G2 ?_ λg3=>Tr.V λe1 he1=>Tr.G2 ?_ λg4=>Tr.V λe2 he2=>Tr.R ?_) λb2=>Tr.R ?_) (λ(u3a0,_) hj3 qj3=>Tr.I (λb2=>Tr.G2 ?_ λg3=>Tr.V λe4 he4=>Tr.G2 ?_ λg4=>Tr.Gb ?_ λg5=>Tr.G2 ?_ λg6=>Tr.V λl5 hl5=>Tr.Rn ?_) λb2=>Tr.G2 ?_ λg3=>Tr.Gb ?_ λg4=>Tr.V λl6 hl6=>Tr.Rn ?_)
  all_goals ((try simp only[Tr.nice,bu]at*)<;>(have hp:=Zz hv.2 (show(0:Int)≤v2 by omega);have hu:=ZT hv.2;have hw:0<v3.length→IntKind.wrap .i64 ((v3.length:Int)-1)=v3.length-1:=λh=>aA (by omega) (by simp only[sS]at h2;omega);have hq:=hp (IntKind.wrap .i64 ((v3.length:Int)-1)).toNat;(try rw[←he4]at hq);clear hj hp;first|omega|(simp only[bj,List.length_cons,List.length_nil,dq,sS]at*;omega)|(subst hl5;exact⟨by rw[List.length_set];omega,YT hu (by simp only[pl,List.length_append,bj,List.length_cons,List.length_nil];omega)⟩)|(subst hl6;exact⟨by simp only[List.length_append,List.length_cons,List.length_nil];omega,Yh hu (by simp only[pl,bj,List.length_cons,List.length_nil];omega)⟩)|grind))
noncomputable def nV:FT (List Int×Int×Unit) (List Piec) (λx=>sS x.1∧0≤x.2.1∧x.2.1≤4294967296) (λx v=>sL ge v):=⟨λ(x0,x1,_)=>
  .lp (d5 (x0,x1,x1,[],())).lp λ(_,a7_0)=>
  .ret a7_0,
 λ(x0,x1,_) hp=>by
  refine Tr.L (BO ?_ ?_ ?_ ?_) (λa7_0 i7=>Tr.R ?_) (λp=>Empty.elim p)
  all_goals ((try simp only[d5,LC.lp,LC.ct,Ct.lp]at*)<;>grind [ZS])⟩
noncomputable def JP:=aZ st xC xr [(bx 0 j4 d5)] (ks:=[.sc (.sl .i64),.sc (.int .i64)]) nV (λv=>[(false,[sc (.o true) .piec v])]) Tryz.func447 ⟨Ca,trivial⟩
noncomputable def NS:List (Ent1 Tryz.prog):=[]
def E0:An:=⟨⟨[],[],false,0⟩,⟨[1,2],[],false,0⟩,⟨[],[]⟩,[(.ret,⟨[zp 1 0,zi 2],[.box [.st .conn [.sl .arg]]]⟩),(.normal,⟨[zp 1 0,zi 2],[.box [.st .conn [.sl .arg]]]⟩)]⟩
noncomputable def MR:Fx:=⟨448,Tryz.f448,[(1000005,E0),(3000006,rA 0 12)],0⟩
noncomputable def sO:FT (Conn×Unit) (Int) (λx=>aa x.1) (λ_ _=>True):=⟨λ(x0,_)=>
  .bnd (β:=(Int×Conn×Unit)⊕(Int×Conn×Unit)) (.ite (x0.state==1) (.ite x0.r.done (.ret (.inl (4,x0,())))<|
    .ret (.inr ((0,x0,()))))<|
   .ite (x0.state==2) (.bnd (β:=Bool×Unit) (.ite x0.s.done (.ret (x0.r.done,()))<|
     .ret (false,())) λ(u1a0,_)=>
    .ite u1a0 (.ret (.inl (7,x0,())))<|
    .ite x0.s.done (.ret (.inl (3,x0,())))<|
    .ite x0.r.done (.ret (.inl (5,x0,())))<|
    .ret (.inr ((0,x0,()))))<|
   .ite (x0.state==3) (.ite x0.r.done (.ret (.inl (7,x0,())))<|
    .ret (.inr ((0,x0,()))))<|
   .ite (x0.state==5) (.ite x0.s.done (.ret (.inl (7,x0,())))<|
    .ret (.inr ((0,x0,()))))<|
   .ite (x0.state==6) (.ite x0.s.done (.ret (.inl (8,x0,())))<|
    .ret (.inr ((0,x0,()))))<|
   .ret (.inr ((0,x0,())))) λw2=> .sum w2 (λ(u2a0,_,_)=>
  .ret u2a0)<|
  λ(_,u2b1,_)=>
  .ret u2b1.state,
 λ(x0,_) hp=>by
  refine Tr.B (Q':=(Sum.elim (λw=>aa w.2.1) (λw=>aa w.2.1))) (Tr.I (λ_=>Tr.I (λ_=>Tr.R ?_) λ_=>Tr.R ?_) λ_=>Tr.I (λ_=>Tr.B (Q':=λ_=>True) (Tr.F (by kernel_rfl) trivial) (λ(u1a0,_) _ _=>Tr.I (λ_=>Tr.R ?_) λ_=>Tr.I (λ_=>Tr.R ?_) λ_=>Tr.I (λ_=>Tr.R ?_) λ_=>Tr.R ?_)) λ_=>Tr.I (λ_=>Tr.I (λ_=>Tr.R ?_) λ_=>Tr.R ?_) λ_=>Tr.I (λ_=>Tr.I (λ_=>Tr.R ?_) λ_=>Tr.R ?_) λ_=>Tr.I (λ_=>Tr.I (λ_=>Tr.R ?_) λ_=>Tr.R ?_) λ_=>Tr.R ?_) (λ_ _ q2=>Tr.E q2 (λ(u2a0,u2a1,_) _=>Tr.R trivial) (λ(u2b0,u2b1,_) _=>Tr.R trivial))
  all_goals ((try simp only[Tr.nice,bu]at*)<;>grind)⟩
noncomputable def MS:=aZ st MR NS [] (ks:=[.st .conn]) sO (λv=>[(false,[.c (.int .i64 v)])]) Tryz.func448 trivial
noncomputable def qp:FF (Int×Int×Unit) (Sipr):=⟨λ(x0,x1,_)=>
  .ret (⟨(bits .xor .u64 x0 8317987319222330741),(bits .xor .u64 x1 7237128888997146477),(bits .xor .u64 x0 7816392313619706465),(bits .xor .u64 x1 8387220255154660723)⟩:Sipr)⟩
noncomputable def Nn:=iW st Tryz.func450 [] (ks:=[.sc (.int .u64),.sc (.int .u64)]) qp (λv=>[(true,Cg v)])
noncomputable def Hl:List (Ent1 Tryz.prog):=[]
def nA:Sh:=⟨[(0,false,[.sl .arg .u8]),(3,false,[.int .u64]),zi 4],[]⟩
noncomputable def IR:Fx:=⟨452,Tryz.f452,[(0,lb [0,3,4] [2,3])],0⟩
noncomputable def KE (v0:List Int)(v2:Int)(a:Int):Tr (Stp (Int) (Empty)):=
 .grd ((decide (0≤v2))&&(decide (v2<(v0.length:Int))))<|
 .val (bits .or .u64 (IntKind.wrap .u64 (a*256)) (IntKind.wrap .u64 (v0.getD v2.toNat 0))) λe1=>
 .ret (.next e1)
noncomputable def gA:nA.V→LC nA (Int) (Empty) (Int×Int):=λ(v0,v1,v2,_)=>⟨v2,v1,λv2 a=>(v0,a,v2,()),λv2 _=>(decide (0≤v2)),KE v0,dn,(-1),(Int.toNat (v2-0+1)),(λp=>Empty.elim p),λi a=>(i,a),λ_ k x=>k (.exit 0) (Sh.enc ⟨[zu 2,(3,false,[.int .u64])],[]⟩ (x.2,()))⟩
theorem Ks:LS Tryz.prog IR [0] (bx 0 nA gA):=aN st (ac Hl) _ gA [] trivial
theorem KA {v0:List Int}{v1 v2:Int}(h0:v2≤9223372036854775807)(h1:v2<(v0.length:Int)):(gA (v0,v1,v2,())).D 0 (λv2 a=>v2<(v0.length:Int)) (λ_=>True):=
 LC.okD (i:=v2) (a:=v1) (λ_ _=>rfl) (λ_=>rfl) rfl h0 (by decide) h1 λv2 v1 hj hk hv=>by
  refine Tr.G2 ?_ λ_=>Tr.V λ_ _=>Tr.Rn ?_
  all_goals (grind)
noncomputable def pY:FT (List Int×Unit) (Int) (λx=>sS x.1∧8≤x.1.length) (λ_ _=>True):=⟨λ(x0,_)=>
  .lp (gA (x0,0,7,())).lp λ(_,a2_0)=>
  .ret a2_0,
 λ(x0,_) hp=>by
  refine Tr.L (KA ?_ ?_) (λa2_0 _=>Tr.R trivial) (λp=>Empty.elim p)
  all_goals ((try simp only[gA,LC.lp,LC.ct,Ct.lp]at*)<;>grind)⟩
noncomputable def SM:=aZ st IR Hl [(bx 0 nA gA)] (ks:=[.sc (.sl .u8)]) pY (λv=>[(false,[.c (.int .u64 v)])]) Tryz.func452 ⟨Ks,trivial⟩
noncomputable def wQ:FF (Piec×Piec×Unit) (Bool):=⟨λ(x0,x1,_)=>
  .ite (x0.off != x1.off) (.ret false)<|
  .ite (!(x0.text==x1.text)) (.ret false)<|
  .ret true⟩
noncomputable def PZ:=iW st Tryz.func454 [] (ks:=[.st .piec,.st .piec]) wQ (λv=>[(false,[.c (.bool v)])])
noncomputable def cO:FT (Int×Int×Unit) (Int) (λ_=>True) (λ_ _=>True):=⟨λ(x0,x1,_)=>
  .grd (decide (0≤(bits .and .u64 (IntKind.wrap .u64 x1) 63)))<|
  .val (IntKind.wrap .u64 (x0*2 ^ (min (bits .and .u64 (IntKind.wrap .u64 x1) 63).toNat 64))) λe1=>
  .grd (decide (0≤(IntKind.wrap .u64 (64-(bits .and .u64 (IntKind.wrap .u64 x1) 63)))))<|
  .val (x0.fdiv (2 ^ (min (IntKind.wrap .u64 (64-(bits .and .u64 (IntKind.wrap .u64 x1) 63))).toNat 64))) λe2=>
  .ret (bits .or .u64 e1 e2),
 λ(x0,x1,_) hp=>by
  refine Tr.G1 ?_ λ_=>Tr.V λ_ _=>Tr.G1 ?_ λ_=>Tr.F (by kernel_rfl) trivial
  all_goals (grind)⟩
noncomputable def A2:=bi st Tryz.func456 [] (ks:=[.sc (.int .u64),.sc (.int .i64)]) cO (λv=>[(false,[.c (.int .u64 v)])])
noncomputable def p8:FT (Conn×Conn×Unit) (Bool) (λx=>aa x.1∧aa x.2.1) (λ_ _=>True):=⟨λ(x0,x1,_)=>
  .ite ((x0.tuple.ip==x1.tuple.ip)&&((x0.tuple.port==x1.tuple.port)&&((x0.tuple.my==x1.tuple.my)&&true))) (.ite (x0.state==x1.state) (.ite ((x0.s.una==x1.s.una)&&((x0.s.data==x1.s.data)&&((x0.s.sent==x1.s.sent)&&((x0.s.fin==x1.s.fin)&&((x0.s.finSent==x1.s.finSent)&&((x0.s.done==x1.s.done)&&true)))))) (.cal mJ.c (x0.r,x1.r,()) λc1=>
     .ite c1 (.ite (x0.window==x1.window) (.ite (x0.most==x1.most) (.ite ((x0.opts.mss==x1.opts.mss)&&((x0.opts.scale==x1.opts.scale)&&((x0.opts.sack==x1.opts.sack)&&((x0.opts.stamp==x1.opts.stamp)&&((x0.opts.val==x1.opts.val)&&((x0.opts.echo==x1.opts.echo)&&true)))))) (.ite (x0.timer==x1.timer) (.ret (x0.tries==x1.tries))<|
         .ret false)<|
        .ret false)<|
       .ret false)<|
      .ret false)<|
     .ret false)<|
    .ret false)<|
   .ret false)<|
  .ret false,
 λ(x0,x1,_) hp=>by
  refine Tr.I (λ_=>Tr.I (λ_=>Tr.I (λ_=>Tr.C ?_ λ_ _ _=>Tr.F (by kernel_rfl) trivial) λ_=>Tr.R trivial) λ_=>Tr.R trivial) λ_=>Tr.R trivial
  all_goals (grind)⟩
noncomputable def Bq:=bi st Tryz.func20 [CD] (ks:=[.st .conn,.st .conn]) p8 (λv=>[(false,[.c (.bool v)])])
noncomputable def bg:FF (Int×Int×Unit) (Int):=⟨λ(x0,x1,_)=>
  .val (bF.f (x0,())) λc1=>
  .val (bF.f (x1,())) λc2=>
  .val (bF.f ((IntKind.wrap .i64 (c1+c2)),())) λc3=>
  .ret c3⟩
noncomputable def cW:=iW st Tryz.func63 [ic] (ks:=[.sc (.int .i64),.sc (.int .i64)]) bg (λv=>[(false,[.c (.int .i64 v)])])
noncomputable def NB:=[qK]
noncomputable def Nt:Fx:=⟨67,Tryz.f67,[(3000003,rA 0 14)],0⟩
noncomputable def tD:FT (Keys×Int×Unit) (Mac×Bool) (λx=>bE x.1) (λx v=>bv v.1):=⟨λ(x0,x1,_)=>
  .ite (x1==x0.epoch) (.cal jh.c (x0.now,()) λc1=>
   .ret (c1,true))<|
  .bnd (β:=Bool×Unit) (.ite x0.two (.ret ((x1==(IntKind.wrap .i64 (x0.epoch-1))),()))<|
   .ret (false,())) λ(u2a0,_)=>
  .ite u2a0 (.cal jh.c (x0.before,()) λc3=>
   .ret (c3,true))<|
  .ret ((⟨false,0,0,[]⟩:Mac),false),
 λ(x0,x1,_) hp=>by
  refine Tr.I (λ_=>Tr.C ?_ λ_ _ _=>Tr.R ?_) λ_=>Tr.B (Q':=λ_=>True) (Tr.F (by kernel_rfl) trivial) (λ(u2a0,_) _ _=>Tr.I (λ_=>Tr.C ?_ λ_ _ _=>Tr.R ?_) λ_=>Tr.R ?_)
  all_goals ((try simp only[Tr.nice,bu]at*)<;>grind)⟩
noncomputable def NU:=aZ st Nt NB [] (ks:=[.st .keys,.sc (.int .i64)]) tD (λv=>[(true,DJ (.o true) v.1),(false,[.c (.bool v.2)])]) Tryz.func67 trivial
noncomputable def Om:=[fH,gD]
noncomputable def O4:Fx:=⟨79,Tryz.f79,[(3000001,rA 0 17),(3000004,rA 0 42)],0⟩
noncomputable def jf:FT (Clie×Segm×Unit) (Segm×Bool) (λx=>aj x.2.1) (λx v=>aj v.1):=⟨λ(x0,x1,_)=>
  .bnd (β:=Bool×Unit) (.ite (x1.flags != 18) (.ret (true,()))<|
   .val (bM.f (x0.isn,1,())) λc1=>
   .ret ((x1.ack != c1),())) λ(u2a0,_)=>
  .ite u2a0 (.ret ((⟨0,0,0,0,0,0,⟨0,0,false,false,0,0⟩,[]⟩:Segm),false))<|
  .val (bM.f (x0.isn,1,())) λc3=>
  .val (bM.f (x1.seq,1,())) λc4=>
  .val (bG.f (())) λc5=>
  .bnd (β:=Bool×Unit) (.ite x0.opts.stamp (.ret (x1.opts.stamp,()))<|
   .ret (false,())) λ(u6a0,_)=>
  .ite u6a0 (.val (bM.f (x0.opts.val,1,())) λc7=>
   .ret ((⟨x0.tuple.port,x0.tuple.my,c3,c4,16,x0.window,⟨c5.mss,c5.scale,c5.sack,true,c7,x1.opts.val⟩,[]⟩:Segm),true))<|
  .ret ((⟨x0.tuple.port,x0.tuple.my,c3,c4,16,x0.window,c5,[]⟩:Segm),true),
 λ(x0,x1,_) hp=>by
  refine Tr.B (Q':=λ_=>True) (Tr.F (by kernel_rfl) trivial) (λ(u2a0,_) _ _=>Tr.I (λ_=>Tr.R ?_) λ_=>Tr.V λ_ _=>Tr.V λ_ _=>Tr.V λ_ _=>Tr.B (Q':=λ_=>True) (Tr.F (by kernel_rfl) trivial) (λ(u6a0,_) _ _=>Tr.I (λ_=>Tr.V λ_ _=>Tr.R ?_) λ_=>Tr.R ?_))
  all_goals ((try simp only[Tr.nice,bu]at*)<;>grind)⟩
noncomputable def Rh:=aZ st O4 Om [] (ks:=[.st .clie,.st .segm]) jf (λv=>[(true,nk v.1),(false,[.c (.bool v.2)])]) Tryz.func79 trivial
noncomputable def Q5:=[cW,em]
noncomputable def Pr:Fx:=⟨85,Tryz.f85,[(3000002,rA 0 19),(3000005,rA 0 42)],0⟩
noncomputable def wC:FT (Clie×Segm×Unit) (Segm×Bool) (λx=>aj x.2.1) (λx v=>aj v.1):=⟨λ(x0,x1,_)=>
  .val (bg.f (x0.isn,1,())) λc1=>
  .bnd (β:=Bool×Unit) (.ite (x1.flags != 18) (.ret (true,()))<|
   .ret ((x1.ack != c1),())) λ(u2a0,_)=>
  .ite u2a0 (.ret ((⟨0,0,0,0,0,0,⟨0,0,false,false,0,0⟩,[]⟩:Segm),false))<|
  .val (bg.f (x1.seq,1,())) λc3=>
  .val (cr.f (())) λc4=>
  .bnd (β:=Bool×Unit) (.ite x0.opts.stamp (.ret (x1.opts.stamp,()))<|
   .ret (false,())) λ(u5a0,_)=>
  .ite u5a0 (.val (bg.f (x0.opts.val,1,())) λc6=>
   .ret ((⟨x0.tuple.port,x0.tuple.my,c1,c3,16,x0.window,⟨c4.mss,c4.scale,c4.sack,true,c6,x1.opts.val⟩,[]⟩:Segm),true))<|
  .ret ((⟨x0.tuple.port,x0.tuple.my,c1,c3,16,x0.window,c4,[]⟩:Segm),true),
 λ(x0,x1,_) hp=>by
  refine Tr.V λ_ _=>Tr.B (Q':=λ_=>True) (Tr.F (by kernel_rfl) trivial) (λ(u2a0,_) _ _=>Tr.I (λ_=>Tr.R ?_) λ_=>Tr.V λ_ _=>Tr.V λ_ _=>Tr.B (Q':=λ_=>True) (Tr.F (by kernel_rfl) trivial) (λ(u5a0,_) _ _=>Tr.I (λ_=>Tr.V λ_ _=>Tr.R ?_) λ_=>Tr.R ?_))
  all_goals ((try simp only[Tr.nice,bu]at*)<;>grind)⟩
noncomputable def OW:=aZ st Pr Q5 [] (ks:=[.st .clie,.st .segm]) wC (λv=>[(true,nk v.1),(false,[.c (.bool v.2)])]) Tryz.func85 trivial
noncomputable def dI:FT (Conn×Unit) (Conn) (λx=>aa x.1) (λx v=>aa v∧v=x.1):=⟨λ(x0,_)=>
  .cal dJ.c (x0.r,()) λc1=>
  .ret ({x0 with r.next:=c1.next,r.data:=c1.data,r.held:=c1.held,r.fin:=c1.fin,r.done:=c1.done}:Conn),
 λ(x0,_) hp=>by
  refine Tr.C ?_ λc1 hc1 qc1=>Tr.R ?_
  all_goals ((first|grind|(refine⟨by grind, ?_⟩;first|(simp only[List.nil_append];done)|(subst_vars;rfl)|simp_all)))⟩
noncomputable def dK:=bi st Tryz.func86 [vG] (ks:=[.st .conn]) dI (λv=>[(true,gO (.o true) v)])
noncomputable def tP:FT (Keys×Keys×Unit) (Bool) (λx=>bE x.1∧bE x.2.1) (λ_ _=>True):=⟨λ(x0,x1,_)=>
  .ite (x0.epoch==x1.epoch) (.ite (x0.two==x1.two) (.cal ly.c (x0.now,x1.now,()) λc1=>
    .ite c1 (.cal ly.c (x0.before,x1.before,()) λc2=>
     .ret c2)<|
    .ret false)<|
   .ret false)<|
  .ret false,
 λ(x0,x1,_) hp=>by
  refine Tr.I (λ_=>Tr.I (λ_=>Tr.C ?_ λ_ _ _=>Tr.I (λ_=>Tr.C ?_ λ_ _ _=>Tr.R trivial) λ_=>Tr.R trivial) λ_=>Tr.R trivial) λ_=>Tr.R trivial
  all_goals (grind)⟩
noncomputable def Mm:=bi st Tryz.func87 [C2] (ks:=[.st .keys,.st .keys]) tP (λv=>[(false,[.c (.bool v)])])
noncomputable def ri:=[Bq]
def ke:Sh:=⟨[zp 2 0,zp 3 1,zi 5],[.box [.st .tabl [.sl .arg,.sl .arg]],.box [.st .tabl [.sl .arg,.sl .arg]]]⟩
def jV:Sh:=⟨[zp 2 0,zp 3 1,zi 6],[.box [.st .tabl [.sl .arg,.sl .arg]],.box [.st .tabl [.sl .arg,.sl .arg]]]⟩
noncomputable def rp:Fx:=⟨88,Tryz.f88,[(0,lb [2,3,5] [2,3,4]),(2,lb [2,3,6] [4]),(3000001,rA 0 22)],0⟩
noncomputable def nm (v1 v2:Tabl)(v0:Int)(a:Unit):Tr (Stp (Unit) ((Unit))):=
 .grd ((decide (0≤v0))&&(decide (v0<(v1.conns.length:Int))))<|
 .grd ((decide (0≤v0))&&(decide (v0<(v2.conns.length:Int))))<|
 .cal p8.c ((v1.conns.getD v0.toNat (Ty.zero .conn)),(v2.conns.getD v0.toNat (Ty.zero .conn)),()) λc2=>
 .ite (!c2) (.ret (.out ()))<|
 .ret (.next ())
noncomputable def eb:ke.V→LC ke (Unit) ((Unit)) (((Unit))⊕(Int×Unit)):=λ(v0,v1,v2,_)=>⟨v0,(),λv0 _=>(v0,v1,v2,()),λv0 _=>(decide (v0<(v1.conns.length:Int))),nm v1 v2,up,1,(Int.toNat ((v1.conns.length:Int)-v0)),.inl,λi a=> .inr (i,a),λ_ k w=>Sum.elim (λ_=>k .ret (Sh.enc ⟨[zp 2 0,zp 3 1,zb 4],[.box [.st .tabl [.sl .arg,.sl .arg]],.box [.st .tabl [.sl .arg,.sl .arg]]]⟩ (false,v1,v2,()))) (λ_=>k (.exit 0) (Sh.enc ⟨[zp 2 0,zp 3 1,zu 4],[.box [.st .tabl [.sl .arg,.sl .arg]],.box [.st .tabl [.sl .arg,.sl .arg]]]⟩ (v1,v2,()))) w⟩
theorem CC:LS Tryz.prog rp [0] (bx 0 ke eb):=aN st (ac ri) _ eb [] trivial
theorem B1 {v0:Int}{v1 v2:Tabl}(h0:0≤v0)(h1:(v1.conns.length:Int)≤4611686018427387904)(h2:bh v1)(h3:bh v2)(h4:(v1.conns.length:Int)≤(v2.conns.length:Int)):(eb (v0,v1,v2,())).U (v1.conns.length:Int) (λ_ _=>True) (λ_=>True):=
 LC.okU (i:=v0) (a:=()) (λ_ _=>rfl) (λ_=>rfl) rfl h0 h1 trivial λv0 _ hj hk hv=>by
  refine Tr.G2 ?_ λ_=>Tr.G2 ?_ λ_=>Tr.C ?_ λ_ _ _=>Tr.Z (by kernel_rfl)
  all_goals (grind)
noncomputable def na (v1 v2:Tabl)(v0:Int)(a:Unit):Tr (Stp (Unit) ((Unit))):=
 .grd ((decide (0≤v0))&&(decide (v0<(v1.waiting.length:Int))))<|
 .grd ((decide (0≤v0))&&(decide (v0<(v2.waiting.length:Int))))<|
 .ite (!(((v1.waiting.getD v0.toNat (Ty.zero .tupl)).ip==(v2.waiting.getD v0.toNat (Ty.zero .tupl)).ip)&&(((v1.waiting.getD v0.toNat (Ty.zero .tupl)).port==(v2.waiting.getD v0.toNat (Ty.zero .tupl)).port)&&(((v1.waiting.getD v0.toNat (Ty.zero .tupl)).my==(v2.waiting.getD v0.toNat (Ty.zero .tupl)).my)&&true)))) (.ret (.out ()))<|
 .ret (.next ())
noncomputable def dU:jV.V→LC jV (Unit) ((Unit)) (((Unit))⊕(Int×Unit)):=λ(v0,v1,v2,_)=>⟨v0,(),λv0 _=>(v0,v1,v2,()),λv0 _=>(decide (v0<(v1.waiting.length:Int))),na v1 v2,up,1,(Int.toNat ((v1.waiting.length:Int)-v0)),.inl,λi a=> .inr (i,a),λ_ k w=>Sum.elim (λ_=>k .ret (Sh.enc ⟨[zb 4],[]⟩ (false,()))) (λ_=>k (.exit 2) (Sh.enc ⟨[zu 4],[]⟩ ())) w⟩
theorem Ch:LS Tryz.prog rp [1] (bx 2 jV dU):=aN st (ac ri) _ dU [] trivial
theorem Cl {v0:Int}{v1 v2:Tabl}(h0:0≤v0)(h1:(v1.waiting.length:Int)≤4611686018427387904)(h2:(v1.waiting.length:Int)≤(v2.waiting.length:Int)):(dU (v0,v1,v2,())).U (v1.waiting.length:Int) (λ_ _=>True) (λ_=>True):=
 LC.okU (i:=v0) (a:=()) (λ_ _=>rfl) (λ_=>rfl) rfl h0 h1 trivial λv0 _ hj hk hv=>by
  refine Tr.G2 ?_ λ_=>Tr.G2 ?_ λ_=>Tr.Z (by kernel_rfl)
  all_goals (grind)
noncomputable def qL:FT (Tabl×Tabl×Unit) (Bool) (λx=>bh x.1∧bh x.2.1) (λ_ _=>True):=⟨λ(x0,x1,_)=>
  .bnd (β:=Bool×Unit) (.ite ((x0.conns.length:Int) != (x1.conns.length:Int)) (.ret (true,()))<|
   .ret (((x0.waiting.length:Int) != (x1.waiting.length:Int)),())) λ(u1a0,_)=>
  .ite u1a0 (.ret false)<|
  .lp (eb (0,x0,x1,())).lp λw3=> .sum w3 (λ_=>
  .ret false)<|
  λ_=>
  .lp (dU (0,x0,x1,())).lp λw4=> .sum w4 (λ_=>
  .ret false)<|
  λ_=>
  .ret true,
 λ(x0,x1,_) hp=>by
  refine Tr.B (Q':=λ_=>True) (Tr.F (by kernel_rfl) trivial) (λ(u1a0,_) _ _=>Tr.I (λ_=>Tr.R trivial) λ_=>Tr.L (B1 ?_ ?_ ?_ ?_ ?_) (λ_ _=>Tr.Sr (Tr.L (Cl ?_ ?_ ?_) (λ_ _=>Tr.Sr (Tr.R trivial)) (λ_ _=>Tr.Sl (Tr.R trivial)))) (λ_ _=>Tr.Sl (Tr.R trivial)))
  all_goals ((try simp only[eb,dU,LC.lp,LC.ct,Ct.lp,Tr.nice,bu]at*)<;>grind)⟩
noncomputable def JW:=aZ st rp ri [(bx 0 ke eb),(bx 2 jV dU)] (ks:=[.st .tabl,.st .tabl]) qL (λv=>[(false,[.c (.bool v)])]) Tryz.func88 ⟨CC,Ch,trivial⟩
noncomputable def aL:FT (Int×Int×Unit) (Bool) (λ_=>True) (λx v=>(x.2.1=32→(v=true↔0≤x.1∧x.1≤4294967295))∧(x.2.1=16→(v=true↔0≤x.1∧x.1≤65535))∧(x.2.1=48→(v=true↔0≤x.1∧x.1≤281474976710655))∧(x.2.1=8→(v=true↔0≤x.1∧x.1≤255))∧(x.2.1=6→(v=true↔0≤x.1∧x.1≤63))):=⟨λ(x0,x1,_)=>
  .val (dk.f (x1,1,62,())) λc1=>
  .ite c1 (.grd (decide (0≤(IntKind.wrap .u64 x1)))<|
   .val (IntKind.wrap .i64 ((IntKind.wrap .i64 (1*2 ^ (min (IntKind.wrap .u64 x1).toNat 64)))-1)) λe2=>
   .val (dk.f (x0,0,e2,())) λc3=>
   .ret c3)<|
  .ret false,
 λ(x0,x1,_) hp=>by
  refine Tr.V λ_ _=>Tr.I (λ_=>Tr.G1 ?_ λ_=>Tr.V λ_ _=>Tr.V λ_ _=>Tr.R ?_) λ_=>Tr.R ?_
  all_goals (grind [OA])⟩
@[grind=] theorem YS (x:Int):aL.f (x,32,())=(decide (0≤x)&&decide (x≤4294967295)):=by
 have h:=aL.c.h (x,32,()) trivial
 rw[Bool.eq_iff_iff]
 grind
@[grind=] theorem Yq (x:Int):aL.f (x,16,())=(decide (0≤x)&&decide (x≤65535)):=by
 have h:=aL.c.h (x,16,()) trivial
 rw[Bool.eq_iff_iff]
 grind
@[grind=] theorem YN (x:Int):aL.f (x,48,())=(decide (0≤x)&&decide (x≤281474976710655)):=by
 have h:=aL.c.h (x,48,()) trivial
 rw[Bool.eq_iff_iff]
 grind
@[grind=] theorem Zd (x:Int):aL.f (x,8,())=(decide (0≤x)&&decide (x≤255)):=by
 have h:=aL.c.h (x,8,()) trivial
 rw[Bool.eq_iff_iff]
 grind
@[grind=] theorem Zk (x:Int):aL.f (x,6,())=(decide (0≤x)&&decide (x≤63)):=by
 have h:=aL.c.h (x,6,()) trivial
 rw[Bool.eq_iff_iff]
 grind
noncomputable def cq:=bi st Tryz.func90 [dR] (ks:=[.sc (.int .i64),.sc (.int .i64)]) aL (λv=>[(false,[.c (.bool v)])])
noncomputable def lD:FT (Tupl×Unit) (Bool) (λ_=>True) (λ_ _=>True):=⟨λ(x0,_)=>
  .cal aL.c (x0.ip,32,()) λc1=>
  .ite c1 (.cal aL.c (x0.port,16,()) λc2=>
   .ite c2 (.cal aL.c (x0.my,16,()) λc3=>
    .ret c3)<|
   .ret false)<|
  .ret false,
 λ(x0,_) hp=>by
  refine Tr.C trivial λ_ _ _=>Tr.I (λ_=>Tr.C trivial λ_ _ _=>Tr.I (λ_=>Tr.C trivial λ_ _ _=>Tr.R trivial) λ_=>Tr.R trivial) λ_=>Tr.R trivial⟩
noncomputable def n9:=bi st Tryz.func94 [cq] (ks:=[.st .tupl]) lD (λv=>[(false,[.c (.bool v)])])
noncomputable def JF:=[cq,dR]
noncomputable def J3:Fx:=⟨95,Tryz.f95,[(3000001,rA 0 15)],0⟩
noncomputable def gZ:FT (Opti×Unit) (Bool) (λ_=>True) (λ_ _=>True):=⟨λ(x0,_)=>
  .bnd (β:=Bool×Unit) (.ite (!x0.stamp) (.ite (x0.val != 0) (.ret (true,()))<|
    .ret ((x0.echo != 0),()))<|
   .ret (false,())) λ(u1a0,_)=>
  .ite u1a0 (.ret false)<|
  .cal aL.c (x0.mss,16,()) λc2=>
  .ite c2 (.val (dk.f (x0.scale,(-1),14,())) λc3=>
   .ite c3 (.cal aL.c (x0.val,32,()) λc4=>
    .ite c4 (.cal aL.c (x0.echo,32,()) λc5=>
     .ret c5)<|
    .ret false)<|
   .ret false)<|
  .ret false,
 λ(x0,_) hp=>by
  refine Tr.B (Q':=λ_=>True) (Tr.F (by kernel_rfl) trivial) (λ(u1a0,_) _ _=>Tr.I (λ_=>Tr.R trivial) λ_=>Tr.C trivial λ_ _ _=>Tr.I (λ_=>Tr.V λ_ _=>Tr.I (λ_=>Tr.C trivial λ_ _ _=>Tr.I (λ_=>Tr.C trivial λ_ _ _=>Tr.R trivial) λ_=>Tr.R trivial) λ_=>Tr.R trivial) λ_=>Tr.R trivial)⟩
noncomputable def kt:=aZ st J3 JF [] (ks:=[.st .opti]) gZ (λv=>[(false,[.c (.bool v)])]) Tryz.func95 trivial
noncomputable def fu:FT (Int×Unit) (Int) (λ_=>True) (λ_ _=>True):=⟨λ(x0,_)=>
  .val (bo.f (x0,0,7,())) λc1=>
  .ite (!c1) (.ret 0)<|
  .grd ((decide (0≤x0))&&(decide (x0<8)))<|
  .ret ([64,256,536,1024,1300,1400,1440,1460].getD x0.toNat 0),
 λ(x0,_) hp=>by
  refine Tr.V λ_ _=>Tr.I (λ_=>Tr.R trivial) λ_=>Tr.G2 ?_ λ_=>Tr.R trivial
  all_goals (grind)⟩
noncomputable def CN:=bi st Tryz.func97 [bV] (ks:=[.sc (.int .i64)]) fu (λv=>[(false,[.c (.int .i64 v)])])
noncomputable def zx:=[CN]
def kC:Sh:=⟨[zi 0,zi 3],[]⟩
noncomputable def Bk:Fx:=⟨98,Tryz.f98,[(0,lb [0,3] [2])],0⟩
noncomputable def kD (v0:Int)(v1:Int)(a:Unit):Tr (Stp (Unit) ((Int))):=
 .cal fu.c (v1,()) λc1=>
 .ite (decide (c1≤v0)) (.ret (.out v1))<|
 .ret (.next ())
noncomputable def bZ:kC.V→LC kC (Unit) ((Int)) (((Int))⊕(Int×Unit)):=λ(v0,v1,_)=>⟨v1,(),λv1 _=>(v0,v1,()),λv1 _=>(decide (0<v1)),kD v0,dn,(-1),(Int.toNat (v1-0)),.inl,λi a=> .inr (i,a),λ_ k w=>Sum.elim (λp=>k .ret (Sh.enc ⟨[zi 2],[]⟩ (p,()))) (λ_=>k (.exit 0) (Sh.enc ⟨[zu 2],[]⟩ ())) w⟩
theorem E5:LS Tryz.prog Bk [0] (bx 0 kC bZ):=aN st (ac zx) _ bZ [] trivial
theorem EA {v0 v1:Int}(h0:v1≤9223372036854775807):(bZ (v0,v1,())).S (λ_ _=>True) (λ_=>True):=by
 refine LC.okS trivial (λj a hj hv=>⟨⟨?_, ?_⟩, ?_⟩) (λa hv=> ?_)
 ·simp only[bZ,decide_eq_true_eq]at*;omega
 ·simp only[bZ]at*;exact dnw (by omega) (by omega)
 ·refine Tr.C trivial λ_ _ _=>Tr.Z (by kernel_rfl)
 ·simp only[bZ,decide_eq_false_iff_not]at*;omega
noncomputable def iq:FT (Int×Unit) (Int) (λ_=>True) (λ_ _=>True):=⟨λ(x0,_)=>
  .lp (bZ (x0,7,())).lp λw2=> .sum w2 (λp2a0=>
  .ret p2a0)<|
  λ_=>
  .ret 0,
 λ(x0,_) hp=>by
  refine Tr.L (EA ?_) (λ_ _=>Tr.Sr (Tr.R trivial)) (λp2a0 _=>Tr.Sl (Tr.R trivial))
  all_goals ((try simp only[bZ,LC.lp,LC.ct,Ct.lp]at*)<;>grind)⟩
noncomputable def zG:=aZ st Bk zx [(bx 0 kC bZ)] (ks:=[.sc (.int .i64)]) iq (λv=>[(false,[.c (.int .i64 v)])]) Tryz.func98 ⟨E5,trivial⟩
noncomputable def ai:FT (Int×Int×Unit) (Bool) (λ_=>True) (λx v=>(x.2.1=32→(v=true↔0≤x.1∧x.1≤4294967295))∧(x.2.1=16→(v=true↔0≤x.1∧x.1≤65535))∧(x.2.1=48→(v=true↔0≤x.1∧x.1≤281474976710655))∧(x.2.1=8→(v=true↔0≤x.1∧x.1≤255))∧(x.2.1=6→(v=true↔0≤x.1∧x.1≤63))):=⟨λ(x0,x1,_)=>
  .val (bo.f (x1,1,62,())) λc1=>
  .ite c1 (.grd (decide (0≤x1))<|
   .val (IntKind.wrap .i64 ((IntKind.wrap .i64 (1*2 ^ (min x1.toNat 64)))-1)) λe2=>
   .val (bo.f (x0,0,e2,())) λc3=>
   .ret c3)<|
  .ret false,
 λ(x0,x1,_) hp=>by
  refine Tr.V λ_ _=>Tr.I (λ_=>Tr.G1 ?_ λ_=>Tr.V λ_ _=>Tr.V λ_ _=>Tr.R ?_) λ_=>Tr.R ?_
  all_goals (grind)⟩
@[grind=] theorem be (x:Int):ai.f (x,32,())=(decide (0≤x)&&decide (x≤4294967295)):=by
 have h:=ai.c.h (x,32,()) trivial
 rw[Bool.eq_iff_iff]
 grind
@[grind=] theorem dM (x:Int):ai.f (x,16,())=(decide (0≤x)&&decide (x≤65535)):=by
 have h:=ai.c.h (x,16,()) trivial
 rw[Bool.eq_iff_iff]
 grind
@[grind=] theorem Yu (x:Int):ai.f (x,48,())=(decide (0≤x)&&decide (x≤281474976710655)):=by
 have h:=ai.c.h (x,48,()) trivial
 rw[Bool.eq_iff_iff]
 grind
@[grind=] theorem Zc (x:Int):ai.f (x,8,())=(decide (0≤x)&&decide (x≤255)):=by
 have h:=ai.c.h (x,8,()) trivial
 rw[Bool.eq_iff_iff]
 grind
@[grind=] theorem Td (x:Int):ai.f (x,6,())=(decide (0≤x)&&decide (x≤63)):=by
 have h:=ai.c.h (x,6,()) trivial
 rw[Bool.eq_iff_iff]
 grind
noncomputable def cx:=bi st Tryz.func100 [bV] (ks:=[.sc (.int .i64),.sc (.int .i64)]) ai (λv=>[(false,[.c (.bool v)])])
noncomputable def lu:FT (Segm×Unit) (Bool) (λ_=>True) (λx v=>(v=true→x.1.body.length≤1420)):=⟨λ(x0,_)=>
  .cal aL.c (x0.from_,16,()) λc1=>
  .ite c1 (.cal aL.c (x0.to,16,()) λc2=>
   .ite c2 (.cal aL.c (x0.window,16,()) λc3=>
    .ite c3 (.cal aL.c (x0.seq,32,()) λc4=>
     .ite c4 (.cal aL.c (x0.ack,32,()) λc5=>
      .ite c5 (.cal aL.c (x0.flags,6,()) λc6=>
       .ite c6 (.cal gZ.c (x0.opts,()) λc7=>
        .ite c7 (.ret (decide ((x0.body.length:Int)≤1420)))<|
        .ret false)<|
       .ret false)<|
      .ret false)<|
     .ret false)<|
    .ret false)<|
   .ret false)<|
  .ret false,
 λ(x0,_) hp=>by
  refine Tr.C trivial λ_ _ _=>Tr.I (λ_=>Tr.C trivial λ_ _ _=>Tr.I (λ_=>Tr.C trivial λ_ _ _=>Tr.I (λ_=>Tr.C trivial λ_ _ _=>Tr.I (λ_=>Tr.C trivial λ_ _ _=>Tr.I (λ_=>Tr.C trivial λ_ _ _=>Tr.I (λ_=>Tr.C trivial λ_ _ _=>Tr.I (λ_=>Tr.R ?_) λ_=>Tr.R ?_) λ_=>Tr.R ?_) λ_=>Tr.R ?_) λ_=>Tr.R ?_) λ_=>Tr.R ?_) λ_=>Tr.R ?_) λ_=>Tr.R ?_
  all_goals (grind)⟩
noncomputable def rh:=bi st Tryz.func123 [cq,kt] (ks:=[.st .segm]) lu (λv=>[(false,[.c (.bool v)])])
noncomputable def xu:=[M9]
def jW:Sh:=⟨[(0,false,[.sl .arg .macRow]),zi 1,zi 5],[]⟩
noncomputable def xW:Fx:=⟨128,Tryz.f128,[(0,lb [0,1,5] [1,4])],0⟩
noncomputable def rJ (v0:List MacRow)(v2:Int)(a:Int):Tr (Stp (Int) ((Int))):=
 .grd ((decide (0≤v2))&&(decide (v2<(v0.length:Int))))<|
 .cal dW.c ((v0.getD v2.toNat (Ty.zero .macRow)),a,()) λc1=>
 .ite (decide (c1<0)) (.ret (.out c1))<|
 .ret (.next c1)
noncomputable def d9:jW.V→LC jW (Int) ((Int)) (((Int))⊕(Int×Int)):=λ(v0,v1,v2,_)=>⟨v2,v1,λv2 a=>(v0,a,v2,()),λv2 _=>(decide (v2<(v0.length:Int))),rJ v0,up,1,(Int.toNat ((v0.length:Int)-v2)),.inl,λi a=> .inr (i,a),λ_ k w=>Sum.elim (λp=>k .ret (Sh.enc ⟨[zi 1,zi 4],[]⟩ (p,(-1),()))) (λx=>k (.exit 0) (Sh.enc ⟨[zi 1,zu 4],[]⟩ (x.2,()))) w⟩
theorem BR:LS Tryz.prog xW [0] (bx 0 jW d9):=aN st (ac xu) _ d9 [] trivial
theorem Cr {v0:List MacRow}{v1 v2:Int}(h0:0≤v2)(h1:(v0.length:Int)≤4611686018427387904):(d9 (v0,v1,v2,())).U (v0.length:Int) (λ_ _=>True) (λ_=>True):=
 LC.okU (i:=v2) (a:=v1) (λ_ _=>rfl) (λ_=>rfl) rfl h0 h1 trivial λv2 v1 hj hk hv=>by
  refine Tr.G2 ?_ λ_=>Tr.C trivial λ_ _ _=>Tr.Z (by kernel_rfl)
  all_goals (grind)
noncomputable def hU:FX (List MacRow×Int×Unit) (Int) (λ_=>True) (lx [.sc (.sl .macRow),.sc (.int .i64)]):=⟨λ(x0,x1,_)=>
  .ite (decide ((IntKind.wrap .i64 (x1-(x0.length:Int)))<0)) (.ret (-1))<|
  .lp (d9 (x0,(IntKind.wrap .i64 (x1-(x0.length:Int))),0,())).lp λw2=> .sum w2 (λ_=>
  .ret (-1))<|
  λ(_,a2_0)=>
  .ret a2_0,
 λ(x0,x1,_) hp hf=>by
  simp only[lx,Pk.fact,xS,sr,Fl.fact,Ty.fl,Ty.toH]at hf
  refine Tr.I (λ_=>Tr.R trivial) λ_=>Tr.L (Cr ?_ ?_) (λa2_0 _=>Tr.Sr (Tr.R trivial)) (λp2a0 _=>Tr.Sl (Tr.R trivial))
  all_goals ((try simp only[d9,LC.lp,LC.ct,Ct.lp]at*)<;>grind)⟩
theorem XX (r:MacRow)(k:Int)(h0:0≤k)(h1:k≤1048576)(hr:r.input.length≤4611686018427387904):dW.f (r,k,())=bif decide (k-(r.input.length:Int)<0)then-1 else k-(r.input.length:Int):=by
 simp only[FX.f,dW,Tr.nice]
 rw[aA (by omega) (by omega)]
theorem Dx:∀(r:List MacRow) (j:Nat) (a b:Int),0≤a→a≤1048576→(∀y∈r,y.input.length≤4611686018427387904)→gX (λ_ x a=>(bif decide (dW.f (x,a,())<0)then Stp.out (dW.f (x,a,()))else Stp.next (dW.f (x,a,())))) j r a= .next b→(0≤b∧b≤a)∧∀y∈r,y.input.length≤1048576
 |[],_,a,b,h0,h1,_,h=>by
  cases h
  exact⟨⟨h0,Int.le_refl _⟩,λy hy=>by cases hy⟩
 |x::r,j,a,b,h0,h1,hr,h=>by
  have hx:=hr x List.mem_cons_self
  have e:=XX x a h0 h1 hx
  simp only[gX,e]at h
  by_cases c:a-(x.input.length:Int)<0
  ·rw[decide_eq_true c,cond_true]at h;cases h
  ·rw[decide_eq_false c,cond_false,decide_eq_false c,cond_false]at h
   simp only[Stp.elim]at h
   obtain⟨h2,h3⟩:=Dx r (j+1) _ b (by omega) (by omega) (λy hy=>hr y (List.mem_cons_of_mem _ hy)) h
   refine⟨⟨h2.1,by omega⟩,λy hy=> ?_⟩
   rcases List.mem_cons.1 hy with rfl|hy
   ·omega
   ·exact h3 y hy
theorem Na (xs:List MacRow)(k:Int)(h0:0≤k)(h1:k≤1048576)(hl:xs.length≤140737488355328)(he:elF .macRow xs)(h:0≤hU.f (xs,k,())):sL ay xs∧xs.length≤1048576:=by
 have hr:∀y∈xs,y.input.length≤4611686018427387904:=λy hy=>(he y hy (.str y.input) List.mem_cons_self).slen
 have w:IntKind.wrap .i64 (k-(xs.length:Int))=k-(xs.length:Int):=aA (by omega) (by omega)
 simp only[FX.f,PX,hU,d9,w,bf]at h
 by_cases c:k-(xs.length:Int)<0
 ·rw[decide_eq_true c,cond_true]at h;omega
 rw[decide_eq_false c,cond_false]at h
 rw[d7 xs _ rfl (F:=λ_ x a=>(bif decide (dW.f (x,a,())<0)then Stp.out (dW.f (x,a,()))else Stp.next (dW.f (x,a,())))) (λj x a hx=>by
  simp only[PX,rJ,ah,getD_some hx])]at h
 cases hn:gX (λ_ x a=>(bif decide (dW.f (x,a,())<0)then Stp.out (dW.f (x,a,()))else Stp.next (dW.f (x,a,())))) 0 xs (k-(xs.length:Int))with
 |out p=>rw[hn]at h;simp only[Stp.elim]at h;omega
 |next b=>
  have:=Dx xs 0 _ b (by omega) (by omega) hr hn
  refine⟨⟨by omega,λy hy=> ?_⟩,by omega⟩
  have:=this.2 y hy
  unfold ay;omega
noncomputable def Ke:=Xy st xW xu [(bx 0 jW d9)] (ks:=[.sc (.sl .macRow),.sc (.int .i64)]) hU (λv=>[(false,[.c (.int .i64 v)])]) Tryz.func128 ⟨BR,trivial⟩
noncomputable def x5:=[Ng]
def j5:Sh:=⟨[(0,false,[.sl .arg .macRow]),(3,false,[.own 0]),zi 4],[.arr .macRow false true]⟩
noncomputable def xG:Fx:=⟨130,Tryz.f130,[(0,lb [0,3,4] [2,3])],0⟩
noncomputable def rD (v0:List MacRow)(v1:Int)(a:List MacRow):Tr (Stp (List MacRow) (Empty)):=
 .grd ((decide (0≤v1))&&(decide (v1<(v0.length:Int))))<|
 .cal yS.c ((v0.getD v1.toNat (Ty.zero .macRow)),()) λc1=>
 .grd ((decide (0≤v1))&&(decide (v1<(a.length:Int))))<|
 .ret (.next (a.set v1.toNat c1))
noncomputable def dX:j5.V→LC j5 (List MacRow) (Empty) (Int×(List MacRow)):=λ(v0,v1,v2,_)=>⟨v1,v2,λv1 a=>(v0,v1,a,()),λv1 _=>(decide (v1<(v0.length:Int))),rD v0,up,1,(Int.toNat ((v0.length:Int)-v1)),(λp=>Empty.elim p),λi a=>(i,a),λ_ k x=>k (.exit 0) (Sh.enc ⟨[zu 2,(3,false,[.own 0])],[.arr .macRow false true]⟩ (x.2,()))⟩
theorem BP:LS Tryz.prog xG [0] (bx 0 j5 dX):=aN st (ac x5) _ dX [] trivial
theorem B9 {v0 v2:List MacRow}{v1:Int}(h0:0≤v1)(h1:(v0.length:Int)≤4611686018427387904)(h2:sL ay v0)(h3:sL ay v2)(h4:v2.length=v2.length∧dP ay v2∧(v0.length:Int)≤(v2.length:Int)):(dX (v0,v1,v2,())).U (v0.length:Int) (λv1 a=>a.length=v2.length∧dP ay a∧(v0.length:Int)≤(a.length:Int)) (λ_=>True):=
 LC.okU (i:=v1) (a:=v2) (λ_ _=>rfl) (λ_=>rfl) rfl h0 h1 h4 λv1 v2 hj hk hv=>by
  refine Tr.G2 ?_ λ_=>Tr.C ?_ λ_ _ _=>Tr.G2 ?_ λ_=>Tr.Rn ?_
  all_goals (grind)
noncomputable def qy:FT (List MacRow×Unit) (List MacRow) (λx=>sL ay x.1) (λx v=>sL ay v):=⟨λ(x0,_)=>
  .grd ((((decide (0≤(x0.length:Int)))&&(decide ((x0.length:Int)=(x0.length:Int))))&&(decide ((x0.length:Int)*24≤(aF:Int))))&&(decide ((x0.length:Int)≤(aF:Int))))<|
  .lp (dX (x0,0,(List.replicate ((x0.length:Int).toNat) (⟨[],0⟩:MacRow)),())).lp λ(_,a2_0)=>
  .ret a2_0,
 λ(x0,_) hp=>by
  refine Tr.G4 ?_ λ_=>Tr.L (B9 ?_ ?_ ?_ ?_ ?_) (λa2_0 _=>Tr.R ?_) (λp=>Empty.elim p)
  all_goals ((try simp only[dX,LC.lp,LC.ct,Ct.lp]at*)<;>grind)⟩
noncomputable def Ka:=aZ st xG x5 [(bx 0 j5 dX)] (ks:=[.sc (.sl .macRow)]) qy (λv=>[(false,[sc (.o true) .macRow v])]) Tryz.func130 ⟨BP,trivial⟩
noncomputable def iO:FT (Mac×Unit) (Mac) (λx=>bv x.1) (λx v=>bv v∧v=x.1):=⟨λ(x0,_)=>
  .cal mN.c (x0.rows,()) λc1=>
  .ret ({x0 with rows:=c1}:Mac),
 λ(x0,_) hp=>by
  refine Tr.C ?_ λc1 hc1 qc1=>Tr.R ?_
  all_goals ((first|grind|(refine⟨by grind, ?_⟩;first|(simp only[List.nil_append];done)|(subst_vars;rfl)|simp_all)))⟩
noncomputable def oT:=bi st Tryz.func131 [Cq] (ks:=[.st .mac]) iO (λv=>[(true,DJ (.o true) v)])
noncomputable def xQ:=[MV]
def jX:Sh:=⟨[(0,false,[.sl .arg .macRow]),(1,false,[.sl .arg .macRow]),zi 5],[]⟩
noncomputable def xB:Fx:=⟨134,Tryz.f134,[(0,lb [0,1,5] [4])],0⟩
noncomputable def sF (v0 v1:List MacRow)(v2:Int)(a:Unit):Tr (Stp (Unit) ((Unit))):=
 .grd ((decide (0≤v2))&&(decide (v2<(v0.length:Int))))<|
 .grd ((decide (0≤v2))&&(decide (v2<(v1.length:Int))))<|
 .val (tc.f ((v0.getD v2.toNat (Ty.zero .macRow)),(v1.getD v2.toNat (Ty.zero .macRow)),())) λc1=>
 .ite (!c1) (.ret (.out ()))<|
 .ret (.next ())
noncomputable def dV:jX.V→LC jX (Unit) ((Unit)) (((Unit))⊕(Int×Unit)):=λ(v0,v1,v2,_)=>⟨v2,(),λv2 _=>(v0,v1,v2,()),λv2 _=>(decide (v2<(v0.length:Int))),sF v0 v1,up,1,(Int.toNat ((v0.length:Int)-v2)),.inl,λi a=> .inr (i,a),λ_ k w=>Sum.elim (λ_=>k .ret (Sh.enc ⟨[zb 4],[]⟩ (false,()))) (λ_=>k (.exit 0) (Sh.enc ⟨[zu 4],[]⟩ ())) w⟩
theorem BJ:LS Tryz.prog xB [0] (bx 0 jX dV):=aN st (ac xQ) _ dV [] trivial
theorem BW {v0 v1:List MacRow}{v2:Int}(h0:0≤v2)(h1:(v0.length:Int)≤4611686018427387904)(h2:(v0.length:Int)≤(v1.length:Int)):(dV (v0,v1,v2,())).U (v0.length:Int) (λ_ _=>True) (λ_=>True):=
 LC.okU (i:=v2) (a:=()) (λ_ _=>rfl) (λ_=>rfl) rfl h0 h1 trivial λv2 _ hj hk hv=>by
  refine Tr.G2 ?_ λ_=>Tr.G2 ?_ λ_=>Tr.Z (by kernel_rfl)
  all_goals (grind)
noncomputable def qT:FT (List MacRow×List MacRow×Unit) (Bool) (λx=>sL ay x.1∧sL ay x.2.1) (λ_ _=>True):=⟨λ(x0,x1,_)=>
  .ite ((x0.length:Int) != (x1.length:Int)) (.ret false)<|
  .lp (dV (x0,x1,0,())).lp λw2=> .sum w2 (λ_=>
  .ret false)<|
  λ_=>
  .ret true,
 λ(x0,x1,_) hp=>by
  refine Tr.I (λ_=>Tr.R trivial) λ_=>Tr.L (BW ?_ ?_ ?_) (λ_ _=>Tr.Sr (Tr.R trivial)) (λ_ _=>Tr.Sl (Tr.R trivial))
  all_goals ((try simp only[dV,LC.lp,LC.ct,Ct.lp]at*)<;>grind)⟩
noncomputable def JT:=aZ st xB xQ [(bx 0 jX dV)] (ks:=[.sc (.sl .macRow),.sc (.sl .macRow)]) qT (λv=>[(false,[.c (.bool v)])]) Tryz.func134 ⟨BJ,trivial⟩
noncomputable def ub:=[oG]
def iM:Sh:=⟨[(0,false,[.own 0]),zi 1,zi 5],[.arr .macRow false false]⟩
noncomputable def ui:Fx:=⟨135,Tryz.f135,[(0,la ⟨[0,1,5],[],false,1⟩ ⟨[1,4],[],false,1⟩)],1⟩
noncomputable def iP (v1:Int)(a:Int×List MacRow):Tr (Stp (Int×List MacRow) (Empty)):=
 .cal eX.c (a.1,()) λc1=>
 .grd ((decide (0≤v1))&&(decide (v1<(a.2.length:Int))))<|
 .grd ((decide (0≤v1))&&(decide (v1<((a.2.set v1.toNat (⟨c1,(a.2.getD v1.toNat (Ty.zero .macRow)).value⟩:MacRow)).length:Int))))<|
 .val ((a.2.set v1.toNat (⟨c1,(a.2.getD v1.toNat (Ty.zero .macRow)).value⟩:MacRow)).set v1.toNat (⟨((a.2.set v1.toNat (⟨c1,(a.2.getD v1.toNat (Ty.zero .macRow)).value⟩:MacRow)).getD v1.toNat (Ty.zero .macRow)).input,(IntKind.wrap .i64 (a.1+1))⟩:MacRow)) λl2=>
 .ret (.next ((IntKind.wrap .i64 ((IntKind.wrap .i64 (a.1+1))+1)),l2))
noncomputable def bm:iM.V→LC iM (Int×List MacRow) (Empty) (Int×(Int×List MacRow)):=λ(v0,v1,v2,_)=>⟨v1,(v0,v2),λv1 a=>(a.1,v1,a.2,()),λv1 a=>(decide (v1<(a.2.length:Int))),iP,up,1,(Int.toNat ((v2.length:Int)-v1)),(λp=>Empty.elim p),λi a=>(i,a),λ_ k x=>k (.exit 0) (Sh.enc ⟨[zi 1,zu 4],[.arr .macRow false false]⟩ (x.2.1,x.2.2,()))⟩
theorem yW:LS Tryz.prog ui [0] (bx 0 iM bm):=aN st (ac ub) _ bm [] trivial
theorem yb {v0 v1:Int}{v2:List MacRow}(h0:0≤v1)(h1:(v2.length:Int)≤4611686018427387904)(h2:sL ay v2)(h3:v2.length=v2.length∧dP ay v2∧v0≤9223372036854775807):(bm (v0,v1,v2,())).S (λv1 a=>a.2.length=v2.length∧a.2.length=v2.length∧dP ay a.2∧a.1≤9223372036854775807) (λ_=>True):=by
 refine LC.okS ⟨rfl,h3⟩ (λj a hj hv=>⟨⟨?_, ?_⟩, ?_⟩) (λa hv=> ?_)
 ·simp only[bm,decide_eq_true_eq]at*;omega
 ·simp only[bm]at*;exact ZN (by omega) (by omega)
 ·refine Tr.C ?_ λ_ _ _=>Tr.G2 ?_ λ_=>Tr.G2 ?_ λ_=>Tr.V λ_ _=>Tr.Rn ?_
  all_goals (try simp only[bm]at*)<;>(grind)
 ·simp only[bm,decide_eq_false_iff_not]at*;omega
noncomputable def jc:FT (List MacRow×Int×Unit) (Int×List MacRow) (λx=>sL ay x.1∧x.2.1≤9223372036854775807) (λx v=>sL ay v.2∧v.1≤9223372036854775807):=⟨λ(x0,x1,_)=>
  .lp (bm (x1,0,x0,())).lp λ(_,a3_0,a3_1)=>
  .ret (a3_0,a3_1),
 λ(x0,x1,_) hp=>by
  refine Tr.L (yb ?_ ?_ ?_ ?_) (λ(a3_0,a3_1) _=>Tr.R ?_) (λp=>Empty.elim p)
  all_goals ((try simp only[bm,LC.lp,LC.ct,Ct.lp]at*)<;>grind)⟩
noncomputable def EK:=cI st ui ub [(bx 0 iM bm)] [.wr false [.own 0],.sc (.int .i64)] [.arr .macRow] (λx y=>(y.1,x.2.1,())) jc (λv=>[(false,[.c (.int .i64 v.1)])]) (λx y v=>(v.2,())) Tryz.func135 (by kernel_rfl) ⟨yW,trivial⟩
noncomputable def yJ:FT (Link×Int×Unit) (Int×List Entr) (λx=>nD x.1∧x.2.1≤9223372036854775807) (λx v=>sS v.2∧v.1≤9223372036854775807):=⟨λ(x0,x1,_)=>
  .cal oE.c (x0.cache,x1,()) λc1=>
  .ret (c1.1,c1.2),
 λ(x0,x1,_) hp=>by
  refine Tr.C ?_ λ_ _ _=>Tr.R ?_
  all_goals (grind)⟩
noncomputable def NG:=cI st ⟨136,Tryz.f136,[],1⟩ [FW] [] [.wr true [.c (.int .i64),.c (.int .i64),.own 0],.sc (.int .i64)] [.arr .entr] (λx y=>((⟨x.1.1,x.1.2.1,y.1⟩:Link),x.2.1,())) yJ (λv=>[(false,[.c (.int .i64 v.1)])]) (λx y v=>(v.2,())) Tryz.func136 (by kernel_rfl) trivial
noncomputable def yK:FT (Link×Int×Unit) (Int) (λx=>nD x.1∧x.2.1≤9223372036854775807) (λx v=>v≤9223372036854775807):=⟨λ(x0,x1,_)=>
  .cal o7.c (x0.cache,x1,()) λc1=>
  .ite (decide (c1<0)) (.ret (-1))<|
  .ret c1,
 λ(x0,x1,_) hp=>by
  refine Tr.C ?_ λ_ _ _=>Tr.I (λ_=>Tr.R ?_) λ_=>Tr.R ?_
  all_goals (grind)⟩
noncomputable def NP:=bi st Tryz.func138 [GT] (ks:=[.st .link,.sc (.int .i64)]) yK (λv=>[(false,[.c (.int .i64 v)])])
noncomputable def DL:=[dK]
def lT:Sh:=⟨[zp 1 0,zp 2 1,zp 3 2,zi 4],[.box [.st .tabl [.sl .arg,.sl .arg]],.box [.st .tabl [.nil .conn,.nil .tupl]],.box [.st .tabl [.own 3,.own 4]],.of false true,.of false true]⟩
noncomputable def Dk:Fx:=⟨152,Tryz.f152,[(0,la ⟨[1,2,3,4],[.box 3 0 .conn],false,0⟩ ⟨[2,3],[],false,0⟩)],0⟩
noncomputable def u7 (v1:Tabl)(v0:Int)(a:Tabl×Tabl):Tr (Stp (Tabl×Tabl) (Empty)):=
 .grd ((decide (0≤v0))&&(decide (v0<(v1.conns.length:Int))))<|
 .cal dI.c ((v1.conns.getD v0.toNat (Ty.zero .conn)),()) λc2=>
 .grd (Nat.ble ((2*(a.2.conns.length+1)+1024)*208) aF)<|
 .ret (.next ((⟨[],[]⟩:Tabl),(⟨(a.2.conns++[c2]),a.2.waiting⟩:Tabl)))
noncomputable def fS:lT.V→LC lT (Tabl×Tabl) (Empty) (Int×(Tabl×Tabl)):=λ(v0,v1,v2,v3,_)=>⟨v0,(v2,v3),λv0 a=>(v0,v1,a.1,a.2,()),λv0 _=>(decide (v0<(v1.conns.length:Int))),u7 v1,up,1,(Int.toNat ((v1.conns.length:Int)-v0)),(λp=>Empty.elim p),λi a=>(i,a),λ_ k x=>k (.exit 0) (Sh.enc ⟨[zp 2 0,zp 3 1],[.box [.st .tabl [.nil .conn,.nil .tupl]],.box [.st .tabl [.own 2,.own 3]],.of false true,.of false true]⟩ ((⟨[],[]⟩:Tabl),x.2.2,()))⟩
theorem Ho:LS Tryz.prog Dk [0] (bx 0 lT fS):=aN st (ac DL) _ fS [] trivial
theorem Gp {v0:Int}{v1 v2 v3:Tabl}(h0:0≤v0)(h1:(v1.conns.length:Int)≤4611686018427387904)(h2:bh v1)(h3:sS v3.waiting)(h4:bh v2∧(v3.conns.length:Int)=v0∧dP aa v3.conns∧v3.waiting.length=v3.waiting.length):(fS (v0,v1,v2,v3,())).U (v1.conns.length:Int) (λv0 a=>bh a.1∧(a.2.conns.length:Int)=v0∧dP aa a.2.conns∧a.2.waiting.length=v3.waiting.length) (λ_=>True):=
 LC.okU (i:=v0) (a:=(v2,v3)) (λ_ _=>rfl) (λ_=>rfl) rfl h0 h1 h4 λv0 (v2,v3) hj hk hv=>by
  refine Tr.G2 ?_ λ_=>Tr.C ?_ λ_ _ _=>Tr.Gb ?_ λ_=>Tr.Rn ?_
  all_goals (grind)
noncomputable def lq:FT (Tabl×Unit) (Tabl) (λx=>bh x.1) (λx v=>bh v∧v.conns.length=x.1.conns.length∧v.waiting.length=x.1.waiting.length):=⟨λ(x0,_)=>
  .grd (Nat.ble ((2*(0+x0.waiting.length)+1024)*24) aF)<|
  .lp (fS (0,x0,(⟨[],[]⟩:Tabl),(⟨[],([]++x0.waiting)⟩:Tabl),())).lp λ(_,_,a3_1)=>
  .ret a3_1,
 λ(x0,_) hp=>by
  refine Tr.Gb ?_ λ_=>Tr.L (Gp ?_ ?_ ?_ ?_ ?_) (λ(a3_0,a3_1) _=>Tr.R ?_) (λp=>Empty.elim p)
  all_goals ((try simp only[fS,LC.lp,LC.ct,Ct.lp]at*)<;>grind)⟩
noncomputable def qR:=aZ st Dk DL [(bx 0 lT fS)] (ks:=[.st .tabl]) lq (λv=>[(true,tJ (.o true) (.o true) v)]) Tryz.func152 ⟨Ho,trivial⟩
noncomputable def Dq:=[cq,dR,Uc]
def mA:Sh:=⟨[(0,false,[.sl .arg .entr]),zi 3],[]⟩
noncomputable def D1:Fx:=⟨162,Tryz.f162,[(0,lb [0,3] [0,2])],0⟩
noncomputable def p7 (v0:List Entr)(v1:Int)(a:Unit):Tr (Stp (Unit) ((Unit))):=
 .grd ((decide (0≤v1))&&(decide (v1<(v0.length:Int))))<|
 .cal aL.c ((v0.getD v1.toNat (Ty.zero .entr)).ip,32,()) λc1=>
 .ite (!c1) (.ret (.out ()))<|
 .cal aL.c ((v0.getD v1.toNat (Ty.zero .entr)).hw,48,()) λc2=>
 .ite (!c2) (.ret (.out ()))<|
 .val (dk.f ((v0.getD v1.toNat (Ty.zero .entr)).age,0,9,())) λc3=>
 .ite (!c3) (.ret (.out ()))<|
 .grd ((decide (0≤v1))&&(decide (v1≤(v0.length:Int))))<|
 .cal Fu.c (((v0.take v1.toNat).drop 0),(v0.getD v1.toNat (Ty.zero .entr)).ip,()) λc4=>
 .ite (decide (0≤c4)) (.ret (.out ()))<|
 .ret (.next ())
noncomputable def fG:mA.V→LC mA (Unit) ((Unit)) (((Unit))⊕(Int×Unit)):=λ(v0,v1,_)=>⟨v1,(),λv1 _=>(v0,v1,()),λv1 _=>(decide (v1<(v0.length:Int))),p7 v0,up,1,(Int.toNat ((v0.length:Int)-v1)),.inl,λi a=> .inr (i,a),λ_ k w=>Sum.elim (λ_=>k .ret (Sh.enc ⟨[(0,false,[.sl .arg .entr]),zb 2],[]⟩ (v0,false,()))) (λ_=>k (.exit 0) (Sh.enc ⟨[(0,false,[.sl .arg .entr]),zu 2],[]⟩ (v0,()))) w⟩
theorem Hq:LS Tryz.prog D1 [0] (bx 0 mA fG):=aN st (ac Dq) _ fG [] trivial
theorem IV {v0:List Entr}{v1:Int}(h0:0≤v1)(h1:(v0.length:Int)≤4611686018427387904)(h2:sS v0):(fG (v0,v1,())).U (v0.length:Int) (λ_ _=>True) (λ_=>True):=
 LC.okU (i:=v1) (a:=()) (λ_ _=>rfl) (λ_=>rfl) rfl h0 h1 trivial λv1 _ hj hk hv=>by
  refine Tr.G2 ?_ λ_=>Tr.C trivial λ_ _ _=>Tr.I (λ_=>Tr.Ro trivial) λ_=>Tr.C trivial λ_ _ _=>Tr.I (λ_=>Tr.Ro trivial) λ_=>Tr.V λ_ _=>Tr.I (λ_=>Tr.Ro trivial) λ_=>Tr.G2 ?_ λ_=>Tr.C ?_ λ_ _ _=>Tr.Z (by kernel_rfl)
  all_goals (grind)
noncomputable def wW:FT (List Entr×Unit) (Bool) (λx=>sS x.1) (λx v=>(v=true→x.1.length≤4)):=⟨λ(x0,_)=>
  .lp (fG (x0,0,())).lp λw5=> .sum w5 (λ_=>
  .ret false)<|
  λ_=>
  .ret (decide ((x0.length:Int)≤4)),
 λ(x0,_) hp=>by
  refine Tr.L (IV ?_ ?_ ?_) (λ_ _=>Tr.Sr (Tr.R ?_)) (λ_ _=>Tr.Sl (Tr.R ?_))
  all_goals ((try simp only[fG,LC.lp,LC.ct,Ct.lp]at*)<;>grind)⟩
noncomputable def Qq:=aZ st D1 Dq [(bx 0 mA fG)] (ks:=[.sc (.sl .entr)]) wW (λv=>[(false,[.c (.bool v)])]) Tryz.func162 ⟨Hq,trivial⟩
noncomputable def aD:FT (Tupl×Unit) (Bool) (λ_=>True) (λ_ _=>True):=⟨λ(x0,_)=>
  .cal ai.c (x0.ip,32,()) λc1=>
  .ite c1 (.cal ai.c (x0.port,16,()) λc2=>
   .ite c2 (.cal ai.c (x0.my,16,()) λc3=>
    .ret c3)<|
   .ret false)<|
  .ret false,
 λ(x0,_) hp=>by
  refine Tr.C trivial λ_ _ _=>Tr.I (λ_=>Tr.C trivial λ_ _ _=>Tr.I (λ_=>Tr.C trivial λ_ _ _=>Tr.R trivial) λ_=>Tr.R trivial) λ_=>Tr.R trivial⟩
noncomputable def lG:=bi st Tryz.func173 [cx] (ks:=[.st .tupl]) aD (λv=>[(false,[.c (.bool v)])])
noncomputable def Kc:=[cx,bV]
noncomputable def JK:Fx:=⟨174,Tryz.f174,[(3000001,rA 0 15)],0⟩
noncomputable def aq:FT (Opti×Unit) (Bool) (λ_=>True) (λ_ _=>True):=⟨λ(x0,_)=>
  .bnd (β:=Bool×Unit) (.ite (!x0.stamp) (.ite (x0.val != 0) (.ret (true,()))<|
    .ret ((x0.echo != 0),()))<|
   .ret (false,())) λ(u1a0,_)=>
  .ite u1a0 (.ret false)<|
  .cal ai.c (x0.mss,16,()) λc2=>
  .ite c2 (.val (bo.f (x0.scale,(-1),14,())) λc3=>
   .ite c3 (.cal ai.c (x0.val,32,()) λc4=>
    .ite c4 (.cal ai.c (x0.echo,32,()) λc5=>
     .ret c5)<|
    .ret false)<|
   .ret false)<|
  .ret false,
 λ(x0,_) hp=>by
  refine Tr.B (Q':=λ_=>True) (Tr.F (by kernel_rfl) trivial) (λ(u1a0,_) _ _=>Tr.I (λ_=>Tr.R trivial) λ_=>Tr.C trivial λ_ _ _=>Tr.I (λ_=>Tr.V λ_ _=>Tr.I (λ_=>Tr.C trivial λ_ _ _=>Tr.I (λ_=>Tr.C trivial λ_ _ _=>Tr.R trivial) λ_=>Tr.R trivial) λ_=>Tr.R trivial) λ_=>Tr.R trivial)⟩
noncomputable def kB:=aZ st JK Kc [] (ks:=[.st .opti]) aq (λv=>[(false,[.c (.bool v)])]) Tryz.func174 trivial
noncomputable def n8:FT (Keys×Unit) (Keys) (λx=>bE x.1) (λx v=>bE v∧v=x.1):=⟨λ(x0,_)=>
  .cal iO.c (x0.now,()) λc1=>
  .cal iO.c (x0.before,()) λc2=>
  .ret (⟨x0.epoch,c1,c2,x0.two⟩:Keys),
 λ(x0,_) hp=>by
  refine Tr.C ?_ λc1 hc1 qc1=>Tr.C ?_ λc2 hc2 qc2=>Tr.R ?_
  all_goals ((first|grind|(refine⟨by grind, ?_⟩;first|(simp only[List.nil_append];done)|(subst_vars;rfl)|simp_all)))⟩
noncomputable def xO:=bi st Tryz.func175 [oT] (ks:=[.st .keys]) n8 (λv=>[(true,yE (.o true) (.o true) v)])
noncomputable def ao:FT (Segm×Unit) (Bool) (λ_=>True) (λx v=>(v=true→x.1.body.length≤1420)):=⟨λ(x0,_)=>
  .cal ai.c (x0.from_,16,()) λc1=>
  .ite c1 (.cal ai.c (x0.to,16,()) λc2=>
   .ite c2 (.cal ai.c (x0.window,16,()) λc3=>
    .ite c3 (.cal ai.c (x0.seq,32,()) λc4=>
     .ite c4 (.cal ai.c (x0.ack,32,()) λc5=>
      .ite c5 (.cal ai.c (x0.flags,6,()) λc6=>
       .ite c6 (.cal aq.c (x0.opts,()) λc7=>
        .ite c7 (.ret (decide ((x0.body.length:Int)≤1420)))<|
        .ret false)<|
       .ret false)<|
      .ret false)<|
     .ret false)<|
    .ret false)<|
   .ret false)<|
  .ret false,
 λ(x0,_) hp=>by
  refine Tr.C trivial λ_ _ _=>Tr.I (λ_=>Tr.C trivial λ_ _ _=>Tr.I (λ_=>Tr.C trivial λ_ _ _=>Tr.I (λ_=>Tr.C trivial λ_ _ _=>Tr.I (λ_=>Tr.C trivial λ_ _ _=>Tr.I (λ_=>Tr.C trivial λ_ _ _=>Tr.I (λ_=>Tr.C trivial λ_ _ _=>Tr.I (λ_=>Tr.R ?_) λ_=>Tr.R ?_) λ_=>Tr.R ?_) λ_=>Tr.R ?_) λ_=>Tr.R ?_) λ_=>Tr.R ?_) λ_=>Tr.R ?_) λ_=>Tr.R ?_
  all_goals (grind)⟩
noncomputable def nK:=bi st Tryz.func178 [cx,kB] (ks:=[.st .segm]) ao (λv=>[(false,[.c (.bool v)])])
noncomputable def iY:FT (Recv×Unit) (Recv) (λx=>an x.1) (λx v=>an v∧v=x.1):=⟨λ(x0,_)=>
  .cal nP.c (x0.held,()) λc1=>
  .ret ({x0 with held:=c1}:Recv),
 λ(x0,_) hp=>by
  refine Tr.C ?_ λc1 hc1 qc1=>Tr.R ?_
  all_goals ((first|grind|(refine⟨by grind, ?_⟩;first|(simp only[List.nil_append];done)|(subst_vars;rfl)|simp_all)))⟩
noncomputable def qZ:=bi st Tryz.func190 [Eo] (ks:=[.st .recv]) iY (λv=>[(true,sT (.o true) v)])
noncomputable def wE:FT (Mac×Mac×Unit) (Bool) (λx=>bv x.1∧bv x.2.1) (λ_ _=>True):=⟨λ(x0,x1,_)=>
  .ite (x0.use==x1.use) (.ite (x0.k==x1.k) (.ite (x0.l==x1.l) (.cal pM.c (x0.rows,x1.rows,()) λc1=>
     .ret c1)<|
    .ret false)<|
   .ret false)<|
  .ret false,
 λ(x0,x1,_) hp=>by
  refine Tr.I (λ_=>Tr.I (λ_=>Tr.I (λ_=>Tr.C ?_ λ_ _ _=>Tr.R trivial) λ_=>Tr.R trivial) λ_=>Tr.R trivial) λ_=>Tr.R trivial
  all_goals (grind)⟩
noncomputable def OO:=bi st Tryz.func203 [CH] (ks:=[.st .mac,.st .mac]) wE (λv=>[(false,[.c (.bool v)])])
noncomputable def DH:=[cx,bV,Xe]
def mT:Sh:=⟨[(0,false,[.sl .arg .entr]),(10,false,[.sl .arg .entr]),zi 11,zi 12],[]⟩
noncomputable def DP:Fx:=⟨232,Tryz.f232,[(0,lb [0,10,11,12] [2]),(3000006,rA 0 32)],0⟩
noncomputable def p9 (v0 v1:List Entr)(v3:Int)(a:Unit):Tr (Stp (Unit) ((Unit))):=
 .grd ((decide (0≤v3))&&(decide (v3<(v1.length:Int))))<|
 .bnd (β:=Bool×Unit) (.cal ai.c ((v1.getD v3.toNat (Ty.zero .entr)).ip,32,()) λc1=>
  .ite (!c1) (.ret (true,()))<|
  .cal ai.c ((v1.getD v3.toNat (Ty.zero .entr)).hw,48,()) λc2=>
  .ite (!c2) (.ret (true,()))<|
  .val (bo.f ((v1.getD v3.toNat (Ty.zero .entr)).age,0,9,())) λc3=>
  .ret ((!c3),())) λ(u4a0,_)=>
 .ite u4a0 (.ret (.out ()))<|
 .grd ((decide (0≤v3))&&(decide (v3≤(v0.length:Int))))<|
 .cal Nm.c (((v0.take v3.toNat).drop 0),(v1.getD v3.toNat (Ty.zero .entr)).ip,()) λc5=>
 .ite c5.2 (.ret (.out ()))<|
 .ret (.next ())
noncomputable def fY:mT.V→LC mT (Unit) ((Unit)) (((Unit))⊕(Int×Unit)):=λ(v0,v1,v2,v3,_)=>⟨v3,(),λv3 _=>(v0,v1,v2,v3,()),λv3 _=>(decide (v3<v2)),p9 v0 v1,up,1,(Int.toNat (v2-v3)),.inl,λi a=> .inr (i,a),λ_ k w=>Sum.elim (λ_=>k .ret (Sh.enc ⟨[zb 2],[]⟩ (false,()))) (λ_=>k (.exit 0) (Sh.enc ⟨[zu 2],[]⟩ ())) w⟩
theorem IO:LS Tryz.prog DP [0] (bx 0 mT fY):=aN st (ac DH) _ fY [] trivial
theorem Jd {v0 v1:List Entr}{v2 v3:Int}(h0:0≤v3)(h1:v2≤4611686018427387904)(h2:sS v0)(h3:sS v1)(h4:v2≤(v1.length:Int))(h5:v2≤(v0.length:Int)):(fY (v0,v1,v2,v3,())).U v2 (λ_ _=>True) (λ_=>True):=
 LC.okU (i:=v3) (a:=()) (λ_ _=>rfl) (λ_=>rfl) rfl h0 h1 trivial λv3 _ hj hk hv=>by
  refine Tr.G2 ?_ λ_=>Tr.B (Q':=λ_=>True) (Tr.C trivial λ_ _ _=>Tr.I (λ_=>Tr.R trivial) λ_=>Tr.C trivial λ_ _ _=>Tr.F (by kernel_rfl) trivial) (λ(u4a0,_) _ _=>Tr.I (λ_=>Tr.Ro trivial) λ_=>Tr.G2 ?_ λ_=>Tr.C ?_ λ_ _ _=>Tr.Z (by kernel_rfl))
  all_goals ((try simp only[Tr.nice,bu]at*)<;>grind)
noncomputable def wO:FT (List Entr×Unit) (Bool) (λx=>sS x.1) (λx v=>(v=true→x.1.length≤4)):=⟨λ(x0,_)=>
  .ite (decide (4<(x0.length:Int))) (.ret false)<|
  .lp (fY (x0,x0,(x0.length:Int),0,())).lp λw6=> .sum w6 (λ_=>
  .ret false)<|
  λ_=>
  .ret true,
 λ(x0,_) hp=>by
  refine Tr.I (λ_=>Tr.R ?_) λ_=>Tr.L (Jd ?_ ?_ ?_ ?_ ?_ ?_) (λ_ _=>Tr.Sr (Tr.R ?_)) (λ_ _=>Tr.Sl (Tr.R ?_))
  all_goals ((try simp only[fY,LC.lp,LC.ct,Ct.lp]at*)<;>grind)⟩
noncomputable def Oy:=aZ st DP DH [(bx 0 mT fY)] (ks:=[.sc (.sl .entr)]) wO (λv=>[(false,[.c (.bool v)])]) Tryz.func232 ⟨IO,trivial⟩
noncomputable def CV:=[dR,cq]
def lZ:Sh:=⟨[zi 0,(5,false,[.own 0]),zi 6],[.arr .u8 false true]⟩
noncomputable def Db:Fx:=⟨237,Tryz.f237,[(0,lb [0,5,6] [4,5]),(3000001,rA 0 16)],0⟩
noncomputable def mI (v1:Int)(a:Int×List Int):Tr (Stp (Int×List Int) (Empty)):=
 .grd ((decide (0≤v1))&&(decide (v1<(a.2.length:Int))))<|
 .ret (.next ((IntKind.wrap .i64 (a.1.tdiv 256)),(a.2.set v1.toNat (IntKind.wrap .u8 (a.1.tmod 256)))))
noncomputable def fZ:lZ.V→LC lZ (Int×List Int) (Empty) (Int×(Int×List Int)):=λ(v0,v1,v2,_)=>⟨v1,(v0,v2),λv1 a=>(a.1,v1,a.2,()),λv1 _=>(decide (0≤v1)),mI,dn,(-1),(Int.toNat (v1-0+1)),(λp=>Empty.elim p),λi a=>(i,a),λ_ k x=>k (.exit 0) (Sh.enc ⟨[zu 4,(5,false,[.own 0])],[.arr .u8 false true]⟩ (x.2.2,()))⟩
theorem Ip:LS Tryz.prog Db [0] (bx 0 lZ fZ):=aN st (ac CV) _ fZ [] trivial
theorem Hx {v0 v1:Int}{v2:List Int}(h0:v1≤9223372036854775807)(h1:sS v2)(h2:v2.length=v2.length∧v1<(v2.length:Int)):(fZ (v0,v1,v2,())).D 0 (λv1 a=>a.2.length=v2.length∧v1<(a.2.length:Int)) (λ_=>True):=
 LC.okD (i:=v1) (a:=(v0,v2)) (λ_ _=>rfl) (λ_=>rfl) rfl h0 (by decide) h2 λv1 (v0,v2) hj hk hv=>by
  refine Tr.G2 ?_ λ_=>Tr.Rn ?_
  all_goals (grind)
noncomputable def kg:FT (Int×Int×Unit) (ax) (λ_=>True) (λx v=>sS v∧(v.length:Int)≤max x.2.1 0):=⟨λ(x0,x1,_)=>
  .bnd (β:=Bool×Unit) (.val (dk.f (x1,1,6,())) λc1=>
   .ite (!c1) (.ret (true,()))<|
   .cal aL.c (x0,(IntKind.wrap .i64 (8*x1)),()) λc2=>
   .ret ((!c2),())) λ(u3a0,_)=>
  .ite u3a0 (.ret [])<|
  .grd ((((decide (0≤x1))&&(decide (x1=x1)))&&(decide (x1*1≤(aF:Int))))&&(decide (x1≤(aF:Int))))<|
  .lp (fZ (x0,(IntKind.wrap .i64 (x1-1)),(List.replicate x1.toNat 0),())).lp λ(_,_,a4_1)=>
  .ret (ar a4_1),
 λ(x0,x1,_) hp=>by
  refine Tr.B (Q':=λ_=>True) (Tr.V λ_ _=>Tr.I (λ_=>Tr.R trivial) λ_=>Tr.C trivial λ_ _ _=>Tr.R trivial) (λ(u3a0,_) _ _=>Tr.I (λ_=>Tr.R ?_) λ_=>Tr.G4 ?_ λ_=>Tr.L (Hx ?_ ?_ ?_) (λ(a4_0,a4_1) _=>Tr.R ?_) (λp=>Empty.elim p))
  all_goals ((try simp only[fZ,LC.lp,LC.ct,Ct.lp,Tr.nice,bu]at*)<;>grind)⟩
noncomputable def Pe:=aZ st Db CV [(bx 0 lZ fZ)] (ks:=[.sc (.int .i64),.sc (.int .i64)]) kg (λv=>[(false,[.c (.str v)])]) Tryz.func237 ⟨Ip,trivial⟩
noncomputable def Bx:=[Qm]
def kF:Sh:=⟨[(0,false,[.sl .arg .entr]),(1,false,[.sl .arg .entr]),zi 5],[]⟩
noncomputable def zz:Fx:=⟨248,Tryz.f248,[(0,lb [0,1,5] [4])],0⟩
noncomputable def uc (v0 v1:List Entr)(v2:Int)(a:Unit):Tr (Stp (Unit) ((Unit))):=
 .grd ((decide (0≤v2))&&(decide (v2<(v0.length:Int))))<|
 .grd ((decide (0≤v2))&&(decide (v2<(v1.length:Int))))<|
 .val (wa.f ((v0.getD v2.toNat (Ty.zero .entr)),(v1.getD v2.toNat (Ty.zero .entr)),())) λc1=>
 .ite (!c1) (.ret (.out ()))<|
 .ret (.next ())
noncomputable def fg:kF.V→LC kF (Unit) ((Unit)) (((Unit))⊕(Int×Unit)):=λ(v0,v1,v2,_)=>⟨v2,(),λv2 _=>(v0,v1,v2,()),λv2 _=>(decide (v2<(v0.length:Int))),uc v0 v1,up,1,(Int.toNat ((v0.length:Int)-v2)),.inl,λi a=> .inr (i,a),λ_ k w=>Sum.elim (λ_=>k .ret (Sh.enc ⟨[zb 4],[]⟩ (false,()))) (λ_=>k (.exit 0) (Sh.enc ⟨[zu 4],[]⟩ ())) w⟩
theorem EC:LS Tryz.prog zz [0] (bx 0 kF fg):=aN st (ac Bx) _ fg [] trivial
theorem Fp {v0 v1:List Entr}{v2:Int}(h0:0≤v2)(h1:(v0.length:Int)≤4611686018427387904)(h2:(v0.length:Int)≤(v1.length:Int)):(fg (v0,v1,v2,())).U (v0.length:Int) (λ_ _=>True) (λ_=>True):=
 LC.okU (i:=v2) (a:=()) (λ_ _=>rfl) (λ_=>rfl) rfl h0 h1 trivial λv2 _ hj hk hv=>by
  refine Tr.G2 ?_ λ_=>Tr.G2 ?_ λ_=>Tr.Z (by kernel_rfl)
  all_goals (grind)
noncomputable def tv:FT (List Entr×List Entr×Unit) (Bool) (λx=>sS x.1∧sS x.2.1) (λ_ _=>True):=⟨λ(x0,x1,_)=>
  .ite ((x0.length:Int) != (x1.length:Int)) (.ret false)<|
  .lp (fg (x0,x1,0,())).lp λw2=> .sum w2 (λ_=>
  .ret false)<|
  λ_=>
  .ret true,
 λ(x0,x1,_) hp=>by
  refine Tr.I (λ_=>Tr.R trivial) λ_=>Tr.L (Fp ?_ ?_ ?_) (λ_ _=>Tr.Sr (Tr.R trivial)) (λ_ _=>Tr.Sl (Tr.R trivial))
  all_goals ((try simp only[fg,LC.lp,LC.ct,Ct.lp]at*)<;>grind)⟩
noncomputable def Nz:=aZ st zz Bx [(bx 0 kF fg)] (ks:=[.sc (.sl .entr),.sc (.sl .entr)]) tv (λv=>[(false,[.c (.bool v)])]) Tryz.func248 ⟨EC,trivial⟩
noncomputable def vq:FT (Tabl×Int×Unit) (Int×List Tupl) (λx=>bh x.1∧x.1.conns=[]∧x.2.1≤9223372036854775807) (λx v=>sS v.2∧v.1≤9223372036854775807):=⟨λ(x0,x1,_)=>
  .cal qx.c (x0.conns,x1,()) λc1=>
  .cal o9.c (x0.waiting,c1,()) λc2=>
  .ret (c2.1,c2.2),
 λ(x0,x1,_) hp=>by
  refine Tr.C ?_ λ_ _ _=>Tr.C ?_ λ_ _ _=>Tr.R ?_
  all_goals (grind)⟩
noncomputable def J8:=cI st ⟨258,Tryz.f258,[],2⟩ [J6,Hh] [] [.wr true [.own 0,.own 1],.sc (.int .i64)] [.arr .conn,.arr .tupl] (λx y=>((⟨y.1,y.2.1⟩:Tabl),x.2.1,())) vq (λv=>[(false,[.c (.int .i64 v.1)])]) (λx y v=>((⟨y.1,y.2.1⟩:Tabl).conns,v.2,())) Tryz.func258 (by kernel_rfl) trivial
noncomputable def wL:FT (Tabl×Conn×Unit) (Tabl) (λx=>bh x.1∧aa x.2.1) (λx v=>bh v):=⟨λ(x0,x1,_)=>
  .cal lq.c (x0,()) λc1=>
  .cal cu.c (x0,x1.tuple,()) λc2=>
  .ite (decide (0≤c2)) (.cal dI.c (x1,()) λc3=>
   .grd ((decide (0≤c2))&&(decide (c2<(c1.conns.length:Int))))<|
   .ret (⟨(c1.conns.set c2.toNat c3),c1.waiting⟩:Tabl))<|
  .ret c1,
 λ(x0,x1,_) hp=>by
  refine Tr.C ?_ λ_ _ _=>Tr.C ?_ λ_ _ _=>Tr.I (λ_=>Tr.C ?_ λ_ _ _=>Tr.G2 ?_ λ_=>Tr.R ?_) λ_=>Tr.R ?_
  all_goals (grind)⟩
noncomputable def OH:=bi st Tryz.func277 [qR,fo,dK] (ks:=[.st .tabl,.st .conn]) wL (λv=>[(true,tJ (.o true) (.o true) v)])
noncomputable def pD:FT (Segm×Unit) (Segm×Bool) (λx=>aj x.1) (λx v=>aj v.1):=⟨λ(x0,_)=>
  .val (bc.f (x0,4,())) λc1=>
  .ite c1 (.ret ((⟨0,0,0,0,0,0,⟨0,0,false,false,0,0⟩,[]⟩:Segm),false))<|
  .val (bG.f (())) λc2=>
  .val (bc.f (x0,16,())) λc3=>
  .ite c3 (.ret ((⟨x0.to,x0.from_,x0.ack,0,4,0,c2,[]⟩:Segm),true))<|
  .cal aI.c (x0,()) λc4=>
  .val (bM.f (x0.seq,c4,())) λc5=>
  .ret ((⟨x0.to,x0.from_,0,c5,20,0,c2,[]⟩:Segm),true),
 λ(x0,_) hp=>by
  refine Tr.V λ_ _=>Tr.I (λ_=>Tr.R ?_) λ_=>Tr.V λ_ _=>Tr.V λ_ _=>Tr.I (λ_=>Tr.R ?_) λ_=>Tr.C ?_ λ_ _ _=>Tr.V λ_ _=>Tr.R ?_
  all_goals (grind)⟩
noncomputable def Mq:=bi st Tryz.func293 [wG,gD,pX,fH] (ks:=[.st .segm]) pD (λv=>[(true,nk v.1),(false,[.c (.bool v.2)])])
noncomputable def QC:=[kB,gD,cx,H3,fH,Ei]
def Fi:An:=⟨⟨[],[],false,0⟩,⟨[1,2,4,5,8,10],[],false,0⟩,⟨[],[]⟩,[(.normal,⟨[zi 1,zi 2,zi 4,zp 5 0,zp 8 1,zp 10 2],[.box [.st .tupl []],.box [.st .opti []],.box [.st .conn [.nil .piec]]]⟩)]⟩
def E2:An:=⟨⟨[],[],false,0⟩,⟨[1,2,4,5,8,10],[],false,0⟩,⟨[],[]⟩,[(.normal,⟨[zi 1,zi 2,zi 4,zp 5 0,zp 8 1,zp 10 2],[.box [.st .tupl []],.box [.st .opti []],.box [.st .conn [.nil .piec]]]⟩)]⟩
noncomputable def Oe:Fx:=⟨304,Tryz.f304,[(1000014,Fi),(1000018,E2)],0⟩
noncomputable def sE:FT (Tupl×Int×Int×Opti×Int×Unit) (Conn) (λ_=>True) (λx v=>aa v):=⟨λ(x0,x1,x2,x3,x4,_)=>
  .cal aq.c (x3,()) λc1=>
  .bnd (β:=Int×Int×Int×Tupl×Opti×Conn×Unit) (.ite (!c1) (.val (bG.f (())) λc2=>
    .ret (x1,x2,x4,x0,c2,(⟨⟨0,0,0⟩,0,⟨0,[],0,false,false,false⟩,⟨0,[],[],0,false⟩,0,0,⟨0,0,false,false,0,0⟩,0,0⟩:Conn),()))<|
   .ret (x1,x2,x4,x0,x3,(⟨⟨0,0,0⟩,0,⟨0,[],0,false,false,false⟩,⟨0,[],[],0,false⟩,0,0,⟨0,0,false,false,0,0⟩,0,0⟩:Conn),())) λ(u3a0,u3a1,u3a2,u3a3,u3a4,u3a5,_)=>
  .cal ai.c (u3a2,16,()) λc4=>
  .bnd (β:=Int×Int×Int×Tupl×Opti×Conn×Unit) (.ite (!c4) (.ret (u3a0,u3a1,0,u3a3,u3a4,({u3a5 with r.held:=[]}:Conn),()))<|
   .ret (u3a0,u3a1,u3a2,u3a3,u3a4,({u3a5 with r.held:=[]}:Conn),())) λ(u5a0,u5a1,u5a2,u5a3,u5a4,_,_)=>
  .cal uW.c (u5a2,u5a4,()) λc6=>
  .val (bM.f (u5a0,1,())) λc7=>
  .val (bM.f (u5a1,1,())) λc8=>
  .cal jd.c (c8,()) λc9=>
  .ret (⟨u5a3,1,⟨c7,[],0,false,false,false⟩,c9,c6,c6,u5a4,0,0⟩:Conn),
 λ(x0,x1,x2,x3,x4,_) hp=>by
  refine Tr.C trivial λ_ _ _=>Tr.B (Q':=λw=>aa w.2.2.2.2.2.1) (Tr.I (λ_=>Tr.V λ_ _=>Tr.R ?_) λ_=>Tr.R ?_) (λ(u3a0,u3a1,u3a2,u3a3,u3a4,u3a5,_) _ _=>Tr.C trivial λ_ _ _=>Tr.B (Q':=λw=>aa w.2.2.2.2.2.1) (Tr.I (λ_=>Tr.R ?_) λ_=>Tr.R ?_) (λ(u5a0,u5a1,u5a2,u5a3,u5a4,u5a5,_) _ _=>Tr.C trivial λ_ _ _=>Tr.V λ_ _=>Tr.V λ_ _=>Tr.C trivial λ_ _ _=>Tr.R ?_))
  all_goals ((try simp only[Tr.nice,bu]at*)<;>grind)⟩
noncomputable def Qd:=aZ st Oe QC [] (ks:=[.st .tupl,.sc (.int .i64),.sc (.int .i64),.st .opti,.sc (.int .i64)]) sE (λv=>[(true,gO (.o true) v)]) Tryz.func304 trivial
noncomputable def p4:FT (Segm×Unit) (Segm×Bool) (λx=>aj x.1) (λx v=>aj v.1):=⟨λ(x0,_)=>
  .val (gJ.f (x0,4,())) λc1=>
  .ite c1 (.ret ((⟨0,0,0,0,0,0,⟨0,0,false,false,0,0⟩,[]⟩:Segm),false))<|
  .val (cr.f (())) λc2=>
  .val (gJ.f (x0,16,())) λc3=>
  .ite c3 (.ret ((⟨x0.to,x0.from_,x0.ack,0,4,0,c2,[]⟩:Segm),true))<|
  .cal ij.c (x0,()) λc4=>
  .val (bg.f (x0.seq,c4,())) λc5=>
  .ret ((⟨x0.to,x0.from_,0,c5,20,0,c2,[]⟩:Segm),true),
 λ(x0,_) hp=>by
  refine Tr.V λ_ _=>Tr.I (λ_=>Tr.R ?_) λ_=>Tr.V λ_ _=>Tr.V λ_ _=>Tr.I (λ_=>Tr.R ?_) λ_=>Tr.C ?_ λ_ _ _=>Tr.V λ_ _=>Tr.R ?_
  all_goals (grind)⟩
noncomputable def M3:=bi st Tryz.func309 [wh,em,pQ,cW] (ks:=[.st .segm]) p4 (λv=>[(true,nk v.1),(false,[.c (.bool v.2)])])
noncomputable def Ox:=[kt,em,cq,lA,cW,t9]
def Ew:An:=⟨⟨[],[],false,0⟩,⟨[1,2,4,5,8,10],[],false,0⟩,⟨[],[]⟩,[(.normal,⟨[zi 1,zi 2,zi 4,zp 5 0,zp 8 1,zp 10 2],[.box [.st .tupl []],.box [.st .opti []],.box [.st .conn [.nil .piec]]]⟩)]⟩
def E6:An:=⟨⟨[],[],false,0⟩,⟨[1,2,4,5,8,10],[],false,0⟩,⟨[],[]⟩,[(.normal,⟨[zi 1,zi 2,zi 4,zp 5 0,zp 8 1,zp 10 2],[.box [.st .tupl []],.box [.st .opti []],.box [.st .conn [.nil .piec]]]⟩)]⟩
noncomputable def PH:Fx:=⟨315,Tryz.f315,[(1000014,Ew),(1000018,E6)],0⟩
noncomputable def pj:FT (Tupl×Int×Int×Opti×Int×Unit) (Conn) (λ_=>True) (λx v=>aa v):=⟨λ(x0,x1,x2,x3,x4,_)=>
  .cal gZ.c (x3,()) λc1=>
  .bnd (β:=Int×Int×Int×Tupl×Opti×Conn×Unit) (.ite (!c1) (.val (cr.f (())) λc2=>
    .ret (x1,x2,x4,x0,c2,(⟨⟨0,0,0⟩,0,⟨0,[],0,false,false,false⟩,⟨0,[],[],0,false⟩,0,0,⟨0,0,false,false,0,0⟩,0,0⟩:Conn),()))<|
   .ret (x1,x2,x4,x0,x3,(⟨⟨0,0,0⟩,0,⟨0,[],0,false,false,false⟩,⟨0,[],[],0,false⟩,0,0,⟨0,0,false,false,0,0⟩,0,0⟩:Conn),())) λ(u3a0,u3a1,u3a2,u3a3,u3a4,u3a5,_)=>
  .cal aL.c (u3a2,16,()) λc4=>
  .bnd (β:=Int×Int×Int×Tupl×Opti×Conn×Unit) (.ite (!c4) (.ret (u3a0,u3a1,0,u3a3,u3a4,({u3a5 with r.held:=[]}:Conn),()))<|
   .ret (u3a0,u3a1,u3a2,u3a3,u3a4,({u3a5 with r.held:=[]}:Conn),())) λ(u5a0,u5a1,u5a2,u5a3,u5a4,_,_)=>
  .val (fq.f (0,u5a4.scale,())) λc6=>
  .grd (decide (0≤(IntKind.wrap .u64 c6)))<|
  .val (bg.f (u5a0,1,())) λc7=>
  .val (bg.f (u5a1,1,())) λc8=>
  .cal kv.c (c8,()) λc9=>
  .ret (⟨u5a3,1,⟨c7,[],0,false,false,false⟩,c9,(IntKind.wrap .i64 (u5a2*2 ^ (min (IntKind.wrap .u64 c6).toNat 64))),(IntKind.wrap .i64 (u5a2*2 ^ (min (IntKind.wrap .u64 c6).toNat 64))),u5a4,0,0⟩:Conn),
 λ(x0,x1,x2,x3,x4,_) hp=>by
  refine Tr.C trivial λ_ _ _=>Tr.B (Q':=λw=>aa w.2.2.2.2.2.1) (Tr.I (λ_=>Tr.V λ_ _=>Tr.R ?_) λ_=>Tr.R ?_) (λ(u3a0,u3a1,u3a2,u3a3,u3a4,u3a5,_) _ _=>Tr.C trivial λ_ _ _=>Tr.B (Q':=λw=>aa w.2.2.2.2.2.1) (Tr.I (λ_=>Tr.R ?_) λ_=>Tr.R ?_) (λ(u5a0,u5a1,u5a2,u5a3,u5a4,u5a5,_) _ _=>Tr.V λ_ _=>Tr.G1 ?_ λ_=>Tr.V λ_ _=>Tr.V λ_ _=>Tr.C trivial λ_ _ _=>Tr.R ?_))
  all_goals ((try simp only[Tr.nice,bu]at*)<;>grind)⟩
noncomputable def Eb:=aZ st PH Ox [] (ks:=[.st .tupl,.sc (.int .i64),.sc (.int .i64),.st .opti,.sc (.int .i64)]) pj (λv=>[(true,gO (.o true) v)]) Tryz.func315 trivial
noncomputable def NE:=[cq,dR]
noncomputable def NY:Fx:=⟨317,Tryz.f317,[(3000001,rA 0 21),(3000003,rA 0 36)],0⟩
noncomputable def eS:FT (Sndr×Unit) (Bool) (λ_=>True) (λx v=>(v=true↔SO x.1)):=⟨λ(x0,_)=>
  .bnd (β:=Bool×Unit) (.cal aL.c (x0.una,32,()) λc1=>
   .ite (!c1) (.ret (true,()))<|
   .ite (decide (48<(x0.data.length:Int))) (.ret (true,()))<|
   .val (dk.f (x0.sent,0,(x0.data.length:Int),())) λc2=>
   .ret ((!c2),())) λ(u3a0,_)=>
  .ite u3a0 (.ret false)<|
  .bnd (β:=Bool×Unit) (.ite x0.finSent (.ite (!x0.fin) (.ret (true,()))<|
    .ret ((x0.sent != (x0.data.length:Int)),()))<|
   .ret (false,())) λ(u4a0,_)=>
  .ite u4a0 (.ret false)<|
  .ite (!x0.done) (.ret true)<|
  .ite x0.fin (.ite (!x0.finSent) (.ret (x0.data==[]))<|
   .ret false)<|
  .ret false,
 λ(x0,_) hp=>by
  refine Tr.B (Q':=λ_=>True) (Tr.C trivial λ_ _ _=>Tr.F (by kernel_rfl) trivial) (λ(u3a0,_) _ _=>Tr.I (λ_=>Tr.R ?_) λ_=>Tr.B (Q':=λ_=>True) (Tr.F (by kernel_rfl) trivial) (λ(u4a0,_) _ _=>Tr.I (λ_=>Tr.R ?_) λ_=>Tr.I (λ_=>Tr.R ?_) λ_=>Tr.I (λ_=>Tr.I (λ_=>Tr.R ?_) λ_=>Tr.R ?_) λ_=>Tr.R ?_))
  all_goals ((try simp only[Tr.nice,bu]at*)<;>grind)⟩
noncomputable def jT:=aZ st NY NE [] (ks:=[.st .sndr]) eS (λv=>[(false,[.c (.bool v)])]) Tryz.func317 trivial
noncomputable def uZ:=[j8,cq,dR]
def jr:Sh:=⟨[zp 1 0,zi 3,zi 4,zi 5],[.box [.st .recv [.sl .arg]]]⟩
noncomputable def vc:Fx:=⟨318,Tryz.f318,[(0,lb [1,3,4,5] [1,2,4]),(3000002,rA 0 36),(3000009,rA 0 73)],0⟩
noncomputable def eL (v0:Int)(v3:Recv)(v2:Int)(a:Int):Tr (Stp (Int) ((Int))):=
 .grd ((decide (0≤v2))&&(decide (v2<(v3.held.length:Int))))<|
 .bnd (β:=Bool×Unit) (.ite ((v3.held.getD v2.toNat (Ty.zero .piec)).text==[]) (.ret (true,()))<|
  .ite (decide ((v3.held.getD v2.toNat (Ty.zero .piec)).off≤a)) (.ret (true,()))<|
  .ite (decide (v0<(v3.held.getD v2.toNat (Ty.zero .piec)).off)) (.ret (true,()))<|
  .val (IntKind.wrap .i64 ((v3.held.getD v2.toNat (Ty.zero .piec)).off+(((v3.held.getD v2.toNat (Ty.zero .piec)).text).length:Int))) λe5=>
  .ret ((decide (v0<e5)),())) λ(u6a0,_)=>
 .ite u6a0 (.ret (.out a))<|
 .val (IntKind.wrap .i64 ((v3.held.getD v2.toNat (Ty.zero .piec)).off+(((v3.held.getD v2.toNat (Ty.zero .piec)).text).length:Int))) λe7=>
 .ret (.next e7)
noncomputable def dD:jr.V→LC jr (Int) ((Int)) (((Int))⊕(Int×Int)):=λ(v0,v1,v2,v3,_)=>⟨v2,v1,λv2 a=>(v0,a,v2,v3,()),λv2 _=>(decide (v2<(v3.held.length:Int))),eL v0 v3,up,1,(Int.toNat ((v3.held.length:Int)-v2)),.inl,λi a=> .inr (i,a),λ_ k w=>Sum.elim (λp=>k .ret (Sh.enc ⟨[zp 1 0,zb 2,zi 4],[.box [.st .recv [.sl .arg]]]⟩ (false,p,v3,()))) (λx=>k (.exit 0) (Sh.enc ⟨[zp 1 0,zu 2,zi 4],[.box [.st .recv [.sl .arg]]]⟩ (x.2,v3,()))) w⟩
theorem Bu:LS Tryz.prog vc [0] (bx 0 jr dD):=aN st (ac uZ) _ dD [] trivial
theorem A7 {v0 v1 v2:Int}{v3:Recv}(h0:0≤v2)(h1:(v3.held.length:Int)≤4611686018427387904)(h2:v0≤32)(h3:0≤v0)(h4:an v3)(h5:0≤v1∧v1≤32∧dP po (v3.held.take v2.toNat)):(dD (v0,v1,v2,v3,())).U (v3.held.length:Int) (λv2 a=>0≤a∧a≤32∧dP po (v3.held.take v2.toNat)) (λ_=>True):=
 LC.okU (i:=v2) (a:=v1) (λ_ _=>rfl) (λ_=>rfl) rfl h0 h1 h5 λv2 v1 hj hk hv=>by
  refine Tr.G2 ?_ λ_=>Tr.B (Q':=λ_=>True) (Tr.F (by kernel_rfl) trivial) (λ(u6a0,_) _ _=>Tr.I (λ_=>Tr.Ro trivial) λ_=>Tr.V λ_ _=>Tr.Rn ?_)
  all_goals ((try simp only[Tr.nice,bu]at*)<;>grind [←Ym])
noncomputable def kb:FT (Recv×Unit) (Bool) (λx=>an x.1) (λx v=>(v=true→RO x.1)):=⟨λ(x0,_)=>
  .cal gy.c (x0,()) λc1=>
  .bnd (β:=Bool×Unit) (.cal aL.c (x0.next,32,()) λc2=>
   .ite (!c2) (.ret (true,()))<|
   .ite (decide (32<(x0.data.length:Int))) (.ret (true,()))<|
   .ite (decide (3<(x0.held.length:Int))) (.ret (true,()))<|
   .val (dk.f (x0.fin,(-1),c1,())) λc3=>
   .ite (!c3) (.ret (true,()))<|
   .ret ((x0.fin==0),())) λ(u4a0,_)=>
  .ite u4a0 (.ret false)<|
  .lp (dD (c1,0,0,x0,())).lp λw8=> .sum w8 (λ_=>
  .ret false)<|
  λ(_,a8_0)=>
  .ite (decide (x0.fin<0)) (.ite (!x0.done) (.ret true)<|
   .ite ((x0.held.length:Int)==0) (.ret (x0.fin==(-1)))<|
   .ret false)<|
  .ite (decide (a8_0≤x0.fin)) (.ite (!x0.done) (.ret true)<|
   .ite ((x0.held.length:Int)==0) (.ret (x0.fin==(-1)))<|
   .ret false)<|
  .ret false,
 λ(x0,_) hp=>by
  refine Tr.C ?_ λ_ _ _=>Tr.B (Q':=λ_=>True) (Tr.C trivial λ_ _ _=>Tr.F (by kernel_rfl) trivial) (λ(u4a0,_) _ _=>Tr.I (λ_=>Tr.R ?_) λ_=>Tr.L (A7 ?_ ?_ ?_ ?_ ?_ ?_) (λa8_0 _=>Tr.Sr (Tr.I (λ_=>Tr.I (λ_=>Tr.R ?_) λ_=>Tr.I (λ_=>Tr.R ?_) λ_=>Tr.R ?_) λ_=>Tr.I (λ_=>Tr.I (λ_=>Tr.R ?_) λ_=>Tr.I (λ_=>Tr.R ?_) λ_=>Tr.R ?_) λ_=>Tr.R ?_)) (λp8a0 _=>Tr.Sl (Tr.R ?_)))
  all_goals ((try simp only[dD,LC.lp,LC.ct,Ct.lp,Tr.nice,bu]at*)<;>grind [Zh])⟩
noncomputable def qt:=aZ st vc uZ [(bx 0 jr dD)] (ks:=[.st .recv]) kb (λv=>[(false,[.c (.bool v)])]) Tryz.func318 ⟨Bu,trivial⟩
noncomputable def NW:=[cx,bV]
noncomputable def MJ:Fx:=⟨323,Tryz.f323,[(3000001,rA 0 21),(3000003,rA 0 36)],0⟩
noncomputable def bt:FT (Sndr×Unit) (Bool) (λ_=>True) (λx v=>(v=true↔SO x.1)):=⟨λ(x0,_)=>
  .bnd (β:=Bool×Unit) (.cal ai.c (x0.una,32,()) λc1=>
   .ite (!c1) (.ret (true,()))<|
   .ite (decide (48<(x0.data.length:Int))) (.ret (true,()))<|
   .val (bo.f (x0.sent,0,(x0.data.length:Int),())) λc2=>
   .ret ((!c2),())) λ(u3a0,_)=>
  .ite u3a0 (.ret false)<|
  .bnd (β:=Bool×Unit) (.ite x0.finSent (.ite (!x0.fin) (.ret (true,()))<|
    .ret ((x0.sent != (x0.data.length:Int)),()))<|
   .ret (false,())) λ(u4a0,_)=>
  .ite u4a0 (.ret false)<|
  .ite (!x0.done) (.ret true)<|
  .ite x0.fin (.ite (!x0.finSent) (.ret (x0.data==[]))<|
   .ret false)<|
  .ret false,
 λ(x0,_) hp=>by
  refine Tr.B (Q':=λ_=>True) (Tr.C trivial λ_ _ _=>Tr.F (by kernel_rfl) trivial) (λ(u3a0,_) _ _=>Tr.I (λ_=>Tr.R ?_) λ_=>Tr.B (Q':=λ_=>True) (Tr.F (by kernel_rfl) trivial) (λ(u4a0,_) _ _=>Tr.I (λ_=>Tr.R ?_) λ_=>Tr.I (λ_=>Tr.R ?_) λ_=>Tr.I (λ_=>Tr.I (λ_=>Tr.R ?_) λ_=>Tr.R ?_) λ_=>Tr.R ?_))
  all_goals ((try simp only[Tr.nice,bu]at*)<;>grind)⟩
noncomputable def oO:=aZ st MJ NW [] (ks:=[.st .sndr]) bt (λv=>[(false,[.c (.bool v)])]) Tryz.func323 trivial
noncomputable def uM:=[lS,cx,bV]
def jB:Sh:=⟨[zp 1 0,zi 4,zi 5,(45,false,[.sl .arg .piec]),zi 46,zi 47],[.box [.st .recv [.sl .arg]]]⟩
def yk:An:=⟨⟨[],[],false,0⟩,⟨[1,2,4],[],false,0⟩,⟨[],[]⟩,[(.normal,⟨[zp 1 0,zb 2,zi 4],[.box [.st .recv [.sl .arg]]]⟩)]⟩
noncomputable def uQ:Fx:=⟨324,Tryz.f324,[(0,lb [1,4,5,45,46,47] [1,2]),(1000041,yk),(3000002,rA 0 37),(3000011,rA 0 69)],0⟩
noncomputable def dH (v0:Int)(v2:List Piec)(v4:Int)(a:Int):Tr (Stp (Int) ((Unit))):=
 .grd ((decide (0≤v4))&&(decide (v4<(v2.length:Int))))<|
 .bnd (β:=Bool×Unit) (.ite ((v2.getD v4.toNat (Ty.zero .piec)).text==[]) (.ret (true,()))<|
  .ite (decide ((v2.getD v4.toNat (Ty.zero .piec)).off≤a)) (.ret (true,()))<|
  .val (IntKind.wrap .i64 (v0-(((v2.getD v4.toNat (Ty.zero .piec)).text).length:Int))) λe6=>
  .ret ((decide (e6<(v2.getD v4.toNat (Ty.zero .piec)).off)),())) λ(u7a0,_)=>
 .ite u7a0 (.ret (.out ()))<|
 .val (IntKind.wrap .i64 ((v2.getD v4.toNat (Ty.zero .piec)).off+(((v2.getD v4.toNat (Ty.zero .piec)).text).length:Int))) λe8=>
 .ret (.next e8)
noncomputable def cH:jB.V→LC jB (Int) ((Unit)) (((Unit))⊕(Int×Int)):=λ(v0,v1,v2,v3,v4,v5,_)=>⟨v4,v1,λv4 a=>(v0,a,v2,v3,v4,v5,()),λv4 _=>(decide (v4<v3)),dH v0 v2,up,1,(Int.toNat (v3-v4)),.inl,λi a=> .inr (i,a),λ_ k w=>Sum.elim (λ_=>k .ret (Sh.enc ⟨[zp 1 0,zb 2],[.box [.st .recv [.sl .arg]]]⟩ (false,v5,()))) (λ_=>k (.exit 0) (Sh.enc ⟨[zp 1 0,zu 2],[.box [.st .recv [.sl .arg]]]⟩ (v5,()))) w⟩
theorem zj:LS Tryz.prog uQ [0] (bx 0 jB cH):=aN st (ac uM) _ cH [] trivial
theorem Aj {v0 v1 v3 v4:Int}{v2:List Piec}{v5:Recv}(h0:0≤v4)(h1:v3≤4611686018427387904)(h2:v0≤32)(h3:0≤v0)(h4:sL ge v2)(h5:v3≤(v2.length:Int))(h6:0≤v1∧v1≤32∧dP (pw v0) (v2.take v4.toNat)):(cH (v0,v1,v2,v3,v4,v5,())).U v3 (λv4 a=>0≤a∧a≤32∧dP (pw v0) (v2.take v4.toNat)) (λ_=>True):=
 LC.okU (i:=v4) (a:=v1) (λ_ _=>rfl) (λ_=>rfl) rfl h0 h1 h6 λv4 v1 hj hk hv=>by
  refine Tr.G2 ?_ λ_=>Tr.B (Q':=λ_=>True) (Tr.F (by kernel_rfl) trivial) (λ(u7a0,_) _ _=>Tr.I (λ_=>Tr.Ro trivial) λ_=>Tr.V λ_ _=>Tr.Rn ?_)
  all_goals ((try simp only[Tr.nice,bu]at*)<;>grind [←XZ])
noncomputable def bC:FT (Recv×Unit) (Bool) (λx=>an x.1) (λx v=>(v=true→RO x.1)∧(v=true→dP (pw (Vl x.1)) x.1.held)):=⟨λ(x0,_)=>
  .cal bR.c (x0,()) λc1=>
  .bnd (β:=Bool×Unit) (.cal ai.c (x0.next,32,()) λc2=>
   .ite (!c2) (.ret (true,()))<|
   .ite (decide (32<(x0.data.length:Int))) (.ret (true,()))<|
   .ite (decide (3<(x0.held.length:Int))) (.ret (true,()))<|
   .val (bo.f (x0.fin,(-1),c1,())) λc3=>
   .ite (!c3) (.ret (true,()))<|
   .ret ((x0.fin==0),())) λ(u4a0,_)=>
  .ite u4a0 (.ret false)<|
  .bnd (β:=Bool×Int×Recv×Unit) (.ite (x0.fin != (-1)) (.ret (false,x0.fin,x0,()))<|
   .ret (false,c1,x0,())) λ(_,u5a1,u5a2,_)=>
  .lp (cH (u5a1,0,u5a2.held,(u5a2.held.length:Int),0,u5a2,())).lp λw9=> .sum w9 (λ_=>
  .ret false)<|
  λ_=>
  .ite (!u5a2.done) (.ret true)<|
  .ite ((u5a2.held.length:Int)==0) (.ret (u5a2.fin==(-1)))<|
  .ret false,
 λ(x0,_) hp=>by
  refine Tr.C ?_ λc1 hc1 qc1=>Tr.B (Q':=λ_=>True) (Tr.C trivial λc2 hc2 qc2=>Tr.F (by kernel_rfl) trivial) (λ(u4a0,_) hj4 qj4=>Tr.I (λb0=>Tr.R ?_) λb0=>Tr.B (Q':=λw=>an w.2.2.1∧0≤w.2.1∧w.2.1≤32∧w.2.2.1=x0∧(x0.data.length≤32→w.2.1≤Vl x0)) (Tr.I (λb1=>Tr.R ?_) λb1=>Tr.R ?_) (λ(u5a0,u5a1,u5a2,_) hj5 qj5=>Tr.L (Aj ?_ ?_ ?_ ?_ ?_ ?_ ?_) (λa9_0 i9=>Tr.Sr (Tr.I (λb1=>Tr.R ?_) λb1=>Tr.I (λb2=>Tr.R ?_) λb2=>Tr.R ?_)) (λ_ hp9=>Tr.Sl (Tr.R ?_))))
  all_goals ((try simp only[cH,LC.lp,LC.ct,Ct.lp,Tr.nice,bu]at*)<;>grind [Y7,ZZ,Z6])⟩
noncomputable def uO:=aZ st uQ uM [(bx 0 jB cH)] (ks:=[.st .recv]) bC (λv=>[(false,[.c (.bool v)])]) Tryz.func324 ⟨zj,trivial⟩
noncomputable def zP:=[dR,OQ]
def uG:An:=⟨⟨[],[],false,0⟩,⟨[1,2,4,5],[],false,0⟩,⟨[],[]⟩,[(.normal,⟨[zi 1,zp 2 0,zp 4 1,zp 5 2],[.box [.st .opti []],.box [.st .opti []],.box [.st .opti []]]⟩)]⟩
noncomputable def BG:Fx:=⟨329,Tryz.f329,[(1000013,uG)],0⟩
noncomputable def kN:FF (Opti×Int×Unit) (Opti):=⟨λ(x0,x1,_)=>
  .ite (!x0.stamp) (.ret (⟨1460,(-1),false,false,0,0⟩:Opti))<|
  .val (dk.f (x0.scale,0,14,())) λc1=>
  .bnd (β:=Int×Opti×Opti×Opti×Unit) (.ite c1 (.ret (x1,x0,(⟨0,0,false,false,0,0⟩:Opti),(⟨1460,0,false,false,0,0⟩:Opti),()))<|
   .ret (x1,x0,(⟨0,0,false,false,0,0⟩:Opti),(⟨1460,(-1),false,false,0,0⟩:Opti),())) λ(u2a0,u2a1,_,u2a3,_)=>
  .val (wR.f (u2a0,u2a1.scale,u2a1.sack,())) λc3=>
  .ret (⟨u2a3.mss,u2a3.scale,u2a1.sack,true,c3,u2a1.val⟩:Opti)⟩
noncomputable def Ah:=TN st BG zP [] (ks:=[.st .opti,.sc (.int .i64)]) kN (λv=>[(true,pS v)]) Tryz.func329 trivial
noncomputable def D0:=[bV,cx]
def mP:Sh:=⟨[zi 0,(5,false,[.own 0]),zi 6],[.arr .u8 false true]⟩
noncomputable def Dg:Fx:=⟨341,Tryz.f341,[(0,lb [0,5,6] [4,5]),(3000001,rA 0 16)],0⟩
noncomputable def jF (v1:Int)(a:Int×List Int):Tr (Stp (Int×List Int) (Empty)):=
 .grd ((decide (0≤v1))&&(decide (v1<(a.2.length:Int))))<|
 .ret (.next ((a.1.fdiv 256),(a.2.set v1.toNat (IntKind.wrap .u8 a.1))))
noncomputable def ex:mP.V→LC mP (Int×List Int) (Empty) (Int×(Int×List Int)):=λ(v0,v1,v2,_)=>⟨v1,(v0,v2),λv1 a=>(a.1,v1,a.2,()),λv1 _=>(decide (0≤v1)),jF,dn,(-1),(Int.toNat (v1-0+1)),(λp=>Empty.elim p),λi a=>(i,a),λ_ k x=>k (.exit 0) (Sh.enc ⟨[zu 4,(5,false,[.own 0])],[.arr .u8 false true]⟩ (x.2.2,()))⟩
theorem HA:LS Tryz.prog Dg [0] (bx 0 mP ex):=aN st (ac D0) _ ex [] trivial
theorem Gv {v0 v1:Int}{v2:List Int}(h0:v1≤9223372036854775807)(h1:sS v2)(h2:v2.length=v2.length∧v1<(v2.length:Int)):(ex (v0,v1,v2,())).D 0 (λv1 a=>a.2.length=v2.length∧v1<(a.2.length:Int)) (λ_=>True):=
 LC.okD (i:=v1) (a:=(v0,v2)) (λ_ _=>rfl) (λ_=>rfl) rfl h0 (by decide) h2 λv1 (v0,v2) hj hk hv=>by
  refine Tr.G2 ?_ λ_=>Tr.Rn ?_
  all_goals (grind)
noncomputable def gh:FT (Int×Int×Unit) (ax) (λ_=>True) (λx v=>sS v∧(v.length:Int)≤max x.2.1 0):=⟨λ(x0,x1,_)=>
  .bnd (β:=Bool×Unit) (.val (bo.f (x1,1,6,())) λc1=>
   .ite (!c1) (.ret (true,()))<|
   .cal ai.c (x0,(IntKind.wrap .i64 (8*x1)),()) λc2=>
   .ret ((!c2),())) λ(u3a0,_)=>
  .ite u3a0 (.ret [])<|
  .grd ((((decide (0≤x1))&&(decide (x1=x1)))&&(decide (x1*1≤(aF:Int))))&&(decide (x1≤(aF:Int))))<|
  .lp (ex (x0,(IntKind.wrap .i64 (x1-1)),(List.replicate x1.toNat 0),())).lp λ(_,_,a4_1)=>
  .ret (ar a4_1),
 λ(x0,x1,_) hp=>by
  refine Tr.B (Q':=λ_=>True) (Tr.V λ_ _=>Tr.I (λ_=>Tr.R trivial) λ_=>Tr.C trivial λ_ _ _=>Tr.R trivial) (λ(u3a0,_) _ _=>Tr.I (λ_=>Tr.R ?_) λ_=>Tr.G4 ?_ λ_=>Tr.L (Gv ?_ ?_ ?_) (λ(a4_0,a4_1) _=>Tr.R ?_) (λp=>Empty.elim p))
  all_goals ((try simp only[ex,LC.lp,LC.ct,Ct.lp,Tr.nice,bu]at*)<;>grind)⟩
noncomputable def P1:=aZ st Dg D0 [(bx 0 mP ex)] (ks:=[.sc (.int .i64),.sc (.int .i64)]) gh (λv=>[(false,[.c (.str v)])]) Tryz.func341 ⟨HA,trivial⟩
noncomputable def AO:FF (Half×Half×Unit) (Bool):=⟨λ(x0,x1,_)=>
  .val (ph.f (x0.tuple,x1.tuple,())) λc1=>
  .ite (!c1) (.ret false)<|
  .ite (x0.iss != x1.iss) (.ret false)<|
  .ite (x0.irs != x1.irs) (.ret false)<|
  .val (n6.f (x0.opts,x1.opts,())) λc2=>
  .ite (!c2) (.ret false)<|
  .ite (x0.age != x1.age) (.ret false)<|
  .ite (x0.window != x1.window) (.ret false)<|
  .ret true⟩
noncomputable def SJ:=iW st Tryz.func356 [vj,xU] (ks:=[.st .half,.st .half]) AO (λv=>[(false,[.c (.bool v)])])
noncomputable def Bt:=[vj]
def kR:Sh:=⟨[(0,false,[.sl .arg .tupl]),(1,false,[.sl .arg .tupl]),zi 5],[]⟩
noncomputable def BB:Fx:=⟨358,Tryz.f358,[(0,lb [0,1,5] [4])],0⟩
noncomputable def ug (v0 v1:List Tupl)(v2:Int)(a:Unit):Tr (Stp (Unit) ((Unit))):=
 .grd ((decide (0≤v2))&&(decide (v2<(v0.length:Int))))<|
 .grd ((decide (0≤v2))&&(decide (v2<(v1.length:Int))))<|
 .val (ph.f ((v0.getD v2.toNat (Ty.zero .tupl)),(v1.getD v2.toNat (Ty.zero .tupl)),())) λc1=>
 .ite (!c1) (.ret (.out ()))<|
 .ret (.next ())
noncomputable def fe:kR.V→LC kR (Unit) ((Unit)) (((Unit))⊕(Int×Unit)):=λ(v0,v1,v2,_)=>⟨v2,(),λv2 _=>(v0,v1,v2,()),λv2 _=>(decide (v2<(v0.length:Int))),ug v0 v1,up,1,(Int.toNat ((v0.length:Int)-v2)),.inl,λi a=> .inr (i,a),λ_ k w=>Sum.elim (λ_=>k .ret (Sh.enc ⟨[zb 4],[]⟩ (false,()))) (λ_=>k (.exit 0) (Sh.enc ⟨[zu 4],[]⟩ ())) w⟩
theorem Fk:LS Tryz.prog BB [0] (bx 0 kR fe):=aN st (ac Bt) _ fe [] trivial
theorem Ev {v0 v1:List Tupl}{v2:Int}(h0:0≤v2)(h1:(v0.length:Int)≤4611686018427387904)(h2:(v0.length:Int)≤(v1.length:Int)):(fe (v0,v1,v2,())).U (v0.length:Int) (λ_ _=>True) (λ_=>True):=
 LC.okU (i:=v2) (a:=()) (λ_ _=>rfl) (λ_=>rfl) rfl h0 h1 trivial λv2 _ hj hk hv=>by
  refine Tr.G2 ?_ λ_=>Tr.G2 ?_ λ_=>Tr.Z (by kernel_rfl)
  all_goals (grind)
noncomputable def tE:FT (List Tupl×List Tupl×Unit) (Bool) (λx=>sS x.1∧sS x.2.1) (λ_ _=>True):=⟨λ(x0,x1,_)=>
  .ite ((x0.length:Int) != (x1.length:Int)) (.ret false)<|
  .lp (fe (x0,x1,0,())).lp λw2=> .sum w2 (λ_=>
  .ret false)<|
  λ_=>
  .ret true,
 λ(x0,x1,_) hp=>by
  refine Tr.I (λ_=>Tr.R trivial) λ_=>Tr.L (Ev ?_ ?_ ?_) (λ_ _=>Tr.Sr (Tr.R trivial)) (λ_ _=>Tr.Sl (Tr.R trivial))
  all_goals ((try simp only[fe,LC.lp,LC.ct,Ct.lp]at*)<;>grind)⟩
noncomputable def Nq:=aZ st BB Bt [(bx 0 kR fe)] (ks:=[.sc (.sl .tupl),.sc (.sl .tupl)]) tE (λv=>[(false,[.c (.bool v)])]) Tryz.func358 ⟨Fk,trivial⟩
noncomputable def wt:FT (Mac×Int×Unit) (Int) (λx=>bv x.1∧x.2.1≤9223372036854775807) (λx v=>v≤9223372036854775807):=⟨λ(x0,x1,_)=>
  .cal je.c (x0.rows,x1,()) λc1=>
  .ite (decide (c1<0)) (.ret (-1))<|
  .ret c1,
 λ(x0,x1,_) hp=>by
  refine Tr.C ?_ λ_ _ _=>Tr.I (λ_=>Tr.R ?_) λ_=>Tr.R ?_
  all_goals (grind)⟩
noncomputable def O7:=bi st Tryz.func361 [EB] (ks:=[.st .mac,.sc (.int .i64)]) wt (λv=>[(false,[.c (.int .i64 v)])])
noncomputable def xz:=[oG,Ic]
def j2:Sh:=⟨[(0,false,[.sl .arg .conn]),zi 1,zi 5],[]⟩
noncomputable def xZ:Fx:=⟨362,Tryz.f362,[(0,lb [0,1,5] [1,4])],0⟩
noncomputable def CG (v0:List Conn)(v2:Int)(a:Int):Tr (Stp (Int) ((Int))):=
 .grd ((decide (0≤v2))&&(decide (v2<(v0.length:Int))))<|
 .ite ((v0.getD v2.toNat (Ty.zero .conn)).tuple.ip != a) (.ret (.out a))<|
 .grd ((decide (0≤v2))&&(decide (v2<(v0.length:Int))))<|
 .ite ((v0.getD v2.toNat (Ty.zero .conn)).tuple.port != (IntKind.wrap .i64 (a+1))) (.ret (.out (IntKind.wrap .i64 (a+1))))<|
 .grd ((decide (0≤v2))&&(decide (v2<(v0.length:Int))))<|
 .ite ((v0.getD v2.toNat (Ty.zero .conn)).tuple.my != (IntKind.wrap .i64 ((IntKind.wrap .i64 (a+1))+1))) (.ret (.out (IntKind.wrap .i64 ((IntKind.wrap .i64 (a+1))+1))))<|
 .val (IntKind.wrap .i64 ((IntKind.wrap .i64 ((IntKind.wrap .i64 (a+1))+1))+1)) λe1=>
 .grd ((decide (0≤v2))&&(decide (v2<(v0.length:Int))))<|
 .ite ((v0.getD v2.toNat (Ty.zero .conn)).state != e1) (.ret (.out e1))<|
 .grd ((decide (0≤v2))&&(decide (v2<(v0.length:Int))))<|
 .ite ((v0.getD v2.toNat (Ty.zero .conn)).s.una != (IntKind.wrap .i64 (e1+1))) (.ret (.out (IntKind.wrap .i64 (e1+1))))<|
 .grd ((decide (0≤v2))&&(decide (v2<(v0.length:Int))))<|
 .cal eX.c ((IntKind.wrap .i64 ((IntKind.wrap .i64 (e1+1))+1)),()) λc2=>
 .ite (!((v0.getD v2.toNat (Ty.zero .conn)).s.data==c2)) (.ret (.out (IntKind.wrap .i64 ((IntKind.wrap .i64 (e1+1))+1))))<|
 .val (IntKind.wrap .i64 ((IntKind.wrap .i64 ((IntKind.wrap .i64 (e1+1))+1))+1)) λe3=>
 .grd ((decide (0≤v2))&&(decide (v2<(v0.length:Int))))<|
 .ite ((v0.getD v2.toNat (Ty.zero .conn)).s.sent != e3) (.ret (.out e3))<|
 .grd ((decide (0≤v2))&&(decide (v2<(v0.length:Int))))<|
 .ite (!((v0.getD v2.toNat (Ty.zero .conn)).s.fin==(((IntKind.wrap .i64 (e3+1)).tmod 3)==0))) (.ret (.out (IntKind.wrap .i64 (e3+1))))<|
 .grd ((decide (0≤v2))&&(decide (v2<(v0.length:Int))))<|
 .ite (!((v0.getD v2.toNat (Ty.zero .conn)).s.finSent==(((IntKind.wrap .i64 ((IntKind.wrap .i64 (e3+1))+1)).tmod 3)==0))) (.ret (.out (IntKind.wrap .i64 ((IntKind.wrap .i64 (e3+1))+1))))<|
 .val (IntKind.wrap .i64 ((IntKind.wrap .i64 ((IntKind.wrap .i64 (e3+1))+1))+1)) λe4=>
 .grd ((decide (0≤v2))&&(decide (v2<(v0.length:Int))))<|
 .ite (!((v0.getD v2.toNat (Ty.zero .conn)).s.done==((e4.tmod 3)==0))) (.ret (.out e4))<|
 .grd ((decide (0≤v2))&&(decide (v2<(v0.length:Int))))<|
 .ite ((v0.getD v2.toNat (Ty.zero .conn)).r.next != (IntKind.wrap .i64 (e4+1))) (.ret (.out (IntKind.wrap .i64 (e4+1))))<|
 .grd ((decide (0≤v2))&&(decide (v2<(v0.length:Int))))<|
 .cal eX.c ((IntKind.wrap .i64 ((IntKind.wrap .i64 (e4+1))+1)),()) λc5=>
 .ite (!((v0.getD v2.toNat (Ty.zero .conn)).r.data==c5)) (.ret (.out (IntKind.wrap .i64 ((IntKind.wrap .i64 (e4+1))+1))))<|
 .val (IntKind.wrap .i64 ((IntKind.wrap .i64 ((IntKind.wrap .i64 (e4+1))+1))+1)) λe6=>
 .grd ((decide (0≤v2))&&(decide (v2<(v0.length:Int))))<|
 .cal Bm.c ((v0.getD v2.toNat (Ty.zero .conn)).r.held,e6,()) λc7=>
 .ite (decide (c7<0)) (.ret (.out c7))<|
 .grd ((decide (0≤v2))&&(decide (v2<(v0.length:Int))))<|
 .ite ((v0.getD v2.toNat (Ty.zero .conn)).r.fin != c7) (.ret (.out c7))<|
 .grd ((decide (0≤v2))&&(decide (v2<(v0.length:Int))))<|
 .ite (!((v0.getD v2.toNat (Ty.zero .conn)).r.done==(((IntKind.wrap .i64 (c7+1)).tmod 3)==0))) (.ret (.out (IntKind.wrap .i64 (c7+1))))<|
 .grd ((decide (0≤v2))&&(decide (v2<(v0.length:Int))))<|
 .ite ((v0.getD v2.toNat (Ty.zero .conn)).window != (IntKind.wrap .i64 ((IntKind.wrap .i64 (c7+1))+1))) (.ret (.out (IntKind.wrap .i64 ((IntKind.wrap .i64 (c7+1))+1))))<|
 .val (IntKind.wrap .i64 ((IntKind.wrap .i64 ((IntKind.wrap .i64 (c7+1))+1))+1)) λe8=>
 .grd ((decide (0≤v2))&&(decide (v2<(v0.length:Int))))<|
 .ite ((v0.getD v2.toNat (Ty.zero .conn)).most != e8) (.ret (.out e8))<|
 .grd ((decide (0≤v2))&&(decide (v2<(v0.length:Int))))<|
 .ite ((v0.getD v2.toNat (Ty.zero .conn)).opts.mss != (IntKind.wrap .i64 (e8+1))) (.ret (.out (IntKind.wrap .i64 (e8+1))))<|
 .grd ((decide (0≤v2))&&(decide (v2<(v0.length:Int))))<|
 .ite ((v0.getD v2.toNat (Ty.zero .conn)).opts.scale != (IntKind.wrap .i64 ((IntKind.wrap .i64 (e8+1))+1))) (.ret (.out (IntKind.wrap .i64 ((IntKind.wrap .i64 (e8+1))+1))))<|
 .val (IntKind.wrap .i64 ((IntKind.wrap .i64 ((IntKind.wrap .i64 (e8+1))+1))+1)) λe9=>
 .grd ((decide (0≤v2))&&(decide (v2<(v0.length:Int))))<|
 .ite (!((v0.getD v2.toNat (Ty.zero .conn)).opts.sack==((e9.tmod 3)==0))) (.ret (.out e9))<|
 .grd ((decide (0≤v2))&&(decide (v2<(v0.length:Int))))<|
 .ite (!((v0.getD v2.toNat (Ty.zero .conn)).opts.stamp==(((IntKind.wrap .i64 (e9+1)).tmod 3)==0))) (.ret (.out (IntKind.wrap .i64 (e9+1))))<|
 .grd ((decide (0≤v2))&&(decide (v2<(v0.length:Int))))<|
 .ite ((v0.getD v2.toNat (Ty.zero .conn)).opts.val != (IntKind.wrap .i64 ((IntKind.wrap .i64 (e9+1))+1))) (.ret (.out (IntKind.wrap .i64 ((IntKind.wrap .i64 (e9+1))+1))))<|
 .val (IntKind.wrap .i64 ((IntKind.wrap .i64 ((IntKind.wrap .i64 (e9+1))+1))+1)) λe10=>
 .grd ((decide (0≤v2))&&(decide (v2<(v0.length:Int))))<|
 .ite ((v0.getD v2.toNat (Ty.zero .conn)).opts.echo != e10) (.ret (.out e10))<|
 .grd ((decide (0≤v2))&&(decide (v2<(v0.length:Int))))<|
 .ite ((v0.getD v2.toNat (Ty.zero .conn)).timer != (IntKind.wrap .i64 (e10+1))) (.ret (.out (IntKind.wrap .i64 (e10+1))))<|
 .grd ((decide (0≤v2))&&(decide (v2<(v0.length:Int))))<|
 .ite ((v0.getD v2.toNat (Ty.zero .conn)).tries != (IntKind.wrap .i64 ((IntKind.wrap .i64 (e10+1))+1))) (.ret (.out (IntKind.wrap .i64 ((IntKind.wrap .i64 (e10+1))+1))))<|
 .val (IntKind.wrap .i64 ((IntKind.wrap .i64 ((IntKind.wrap .i64 (e10+1))+1))+1)) λe11=>
 .ret (.next e11)
noncomputable def ec:j2.V→LC j2 (Int) ((Int)) (((Int))⊕(Int×Int)):=λ(v0,v1,v2,_)=>⟨v2,v1,λv2 a=>(v0,a,v2,()),λv2 _=>(decide (v2<(v0.length:Int))),CG v0,up,1,(Int.toNat ((v0.length:Int)-v2)),.inl,λi a=> .inr (i,a),λ_ k w=>Sum.elim (λp=>k .ret (Sh.enc ⟨[zi 1,zi 4],[]⟩ (p,(-1),()))) (λx=>k (.exit 0) (Sh.enc ⟨[zi 1,zu 4],[]⟩ (x.2,()))) w⟩
theorem Cz:LS Tryz.prog xZ [0] (bx 0 j2 ec):=aN st (ac xz) _ ec [] trivial
theorem Cp {v0:List Conn}{v1 v2:Int}(h0:0≤v2)(h1:(v0.length:Int)≤4611686018427387904)(h2:sL aa v0)(h3:v1≤9223372036854775807):(ec (v0,v1,v2,())).U (v0.length:Int) (λv2 a=>a≤9223372036854775807) (λ_=>True):=
 LC.okU (i:=v2) (a:=v1) (λ_ _=>rfl) (λ_=>rfl) rfl h0 h1 h3 λv2 v1 hj hk hv=>by
  refine Tr.G2 ?_ λ_=>Tr.I (λ_=>Tr.Ro trivial) λ_=>Tr.G2 ?_ λ_=>Tr.I (λ_=>Tr.Ro trivial) λ_=>Tr.G2 ?_ λ_=>Tr.I (λ_=>Tr.Ro trivial) λ_=>Tr.V λ_ _=>Tr.G2 ?_ λ_=>Tr.I (λ_=>Tr.Ro trivial) λ_=>Tr.G2 ?_ λ_=>Tr.I (λ_=>Tr.Ro trivial) λ_=>Tr.G2 ?_ λ_=>Tr.C ?_ λ_ _ _=>Tr.I (λ_=>Tr.Ro trivial) λ_=>Tr.V λ_ _=>Tr.G2 ?_ λ_=>Tr.I (λ_=>Tr.Ro trivial) λ_=>Tr.G2 ?_ λ_=>Tr.I (λ_=>Tr.Ro trivial) λ_=>Tr.G2 ?_ λ_=>Tr.I (λ_=>Tr.Ro trivial) λ_=>Tr.V λ_ _=>Tr.G2 ?_ λ_=>Tr.I (λ_=>Tr.Ro trivial) λ_=>Tr.G2 ?_ λ_=>Tr.I (λ_=>Tr.Ro trivial) λ_=>Tr.G2 ?_ λ_=>Tr.C ?_ λ_ _ _=>Tr.I (λ_=>Tr.Ro trivial) λ_=>Tr.V λ_ _=>Tr.G2 ?_ λ_=>Tr.C ?_ λ_ _ _=>Tr.I (λ_=>Tr.Ro trivial) λ_=>Tr.G2 ?_ λ_=>Tr.I (λ_=>Tr.Ro trivial) λ_=>Tr.G2 ?_ λ_=>Tr.I (λ_=>Tr.Ro trivial) λ_=>Tr.G2 ?_ λ_=>Tr.I (λ_=>Tr.Ro trivial) λ_=>Tr.V λ_ _=>Tr.G2 ?_ λ_=>Tr.I (λ_=>Tr.Ro trivial) λ_=>Tr.G2 ?_ λ_=>Tr.I (λ_=>Tr.Ro trivial) λ_=>Tr.G2 ?_ λ_=>Tr.I (λ_=>Tr.Ro trivial) λ_=>Tr.V λ_ _=>Tr.G2 ?_ λ_=>Tr.I (λ_=>Tr.Ro trivial) λ_=>Tr.G2 ?_ λ_=>Tr.I (λ_=>Tr.Ro trivial) λ_=>Tr.G2 ?_ λ_=>Tr.I (λ_=>Tr.Ro trivial) λ_=>Tr.V λ_ _=>Tr.G2 ?_ λ_=>Tr.I (λ_=>Tr.Ro trivial) λ_=>Tr.G2 ?_ λ_=>Tr.I (λ_=>Tr.Ro trivial) λ_=>Tr.G2 ?_ λ_=>Tr.I (λ_=>Tr.Ro trivial) λ_=>Tr.V λ_ _=>Tr.Rn ?_
  all_goals (grind)
noncomputable def qV:FT (List Conn×Int×Unit) (Int) (λx=>sL aa x.1∧x.2.1≤9223372036854775807) (λx v=>v≤9223372036854775807):=⟨λ(x0,x1,_)=>
  .lp (ec (x0,x1,0,())).lp λw12=> .sum w12 (λ_=>
  .ret (-1))<|
  λ(_,a12_0)=>
  .ret a12_0,
 λ(x0,x1,_) hp=>by
  refine Tr.L (Cp ?_ ?_ ?_ ?_) (λa12_0 _=>Tr.Sr (Tr.R ?_)) (λp12a0 _=>Tr.Sl (Tr.R ?_))
  all_goals ((try simp only[ec,LC.lp,LC.ct,Ct.lp]at*)<;>grind)⟩
noncomputable def JR:=aZ st xZ xz [(bx 0 j2 ec)] (ks:=[.sc (.sl .conn),.sc (.int .i64)]) qV (λv=>[(false,[.c (.int .i64 v)])]) Tryz.func362 ⟨Cz,trivial⟩
noncomputable def vJ:FT (Sndr×Unit) (Int) (λx=>bU x.1) (λ_ _=>True):=⟨λ(x0,_)=>
  .cal gC.c (x0,()) λc1=>
  .val (bg.f (x0.una,c1,())) λc2=>
  .ret c2,
 λ(x0,_) hp=>by
  refine Tr.C ?_ λ_ _ _=>Tr.F (by kernel_rfl) trivial
  all_goals (grind)⟩
noncomputable def Iv:=bi st Tryz.func366 [iu,cW] (ks:=[.st .sndr]) vJ (λv=>[(false,[.c (.int .i64 v)])])
noncomputable def J7:=[jT,sx,lA,iu,Iv]
noncomputable def J9:Fx:=⟨367,Tryz.f367,[(3000007,rA 0 79)],0⟩
noncomputable def n5:FT (Sndr×Int×Int×Unit) (Chun×Bool) (λx=>bU x.1) (λx v=>oX v.1∧(v.2=true→SO x.1∧(v.1.text.length:Int)+x.1.sent≤x.1.data.length∧x.1.finSent=false∧(v.1.text=[]→v.1.fin=true)∧(v.1.fin=true→x.1.fin=true∧x.1.done=false∧x.1.sent+v.1.text.length=x.1.data.length))):=⟨λ(x0,x1,x2,_)=>
  .cal eS.c (x0,()) λc1=>
  .ite (!c1) (.ret ((⟨0,[],false⟩:Chun),false))<|
  .val (kW.f (x1,1000000,())) λc2=>
  .val (fq.f (0,c2,())) λc3=>
  .cal gC.c (x0,()) λc4=>
  .val (fq.f (0,(IntKind.wrap .i64 (c3-c4)),())) λc5=>
  .val (kW.f (x2,c5,())) λc6=>
  .val (kW.f (c6,(IntKind.wrap .i64 ((x0.data.length:Int)-x0.sent)),())) λc7=>
  .val (fq.f (0,c7,())) λc8=>
  .cal vJ.c (x0,()) λc9=>
  .grd (((decide (0≤x0.sent))&&(decide (x0.sent≤(IntKind.wrap .i64 (x0.sent+c8)))))&&(decide ((IntKind.wrap .i64 (x0.sent+c8))≤(x0.data.length:Int))))<|
  .val ((x0.data.take ((IntKind.wrap .i64 (x0.sent+c8)).toNat)).drop x0.sent.toNat) λe10=>
  .ite x0.fin (.ite (!x0.finSent) (.ite (!x0.done) (.ite ((IntKind.wrap .i64 (x0.sent+c8))==(x0.data.length:Int)) (.bnd (β:=Bool×Unit) (.ite (c8==0) (.ret ((!(decide (c8<c5))),()))<|
       .ret (false,())) λ(u11a0,_)=>
      .ite u11a0 (.ret ((⟨0,[],false⟩:Chun),false))<|
      .ret ((⟨c9,e10,(decide (c8<c5))⟩:Chun),true))<|
     .bnd (β:=Bool×Unit) (.ite (c8==0) (.ret (true,()))<|
      .ret (false,())) λ(u12a0,_)=>
     .ite u12a0 (.ret ((⟨0,[],false⟩:Chun),false))<|
     .ret ((⟨c9,e10,false⟩:Chun),true))<|
    .bnd (β:=Bool×Unit) (.ite (c8==0) (.ret (true,()))<|
     .ret (false,())) λ(u13a0,_)=>
    .ite u13a0 (.ret ((⟨0,[],false⟩:Chun),false))<|
    .ret ((⟨c9,e10,false⟩:Chun),true))<|
   .bnd (β:=Bool×Unit) (.ite (c8==0) (.ret (true,()))<|
    .ret (false,())) λ(u14a0,_)=>
   .ite u14a0 (.ret ((⟨0,[],false⟩:Chun),false))<|
   .ret ((⟨c9,e10,false⟩:Chun),true))<|
  .bnd (β:=Bool×Unit) (.ite (c8==0) (.ret (true,()))<|
   .ret (false,())) λ(u15a0,_)=>
  .ite u15a0 (.ret ((⟨0,[],false⟩:Chun),false))<|
  .ret ((⟨c9,e10,false⟩:Chun),true),
 λ(x0,x1,x2,_) hp=>by
  refine Tr.C trivial λc1 hc1 qc1=>Tr.I (λb0=>Tr.R ?_) λb0=>Tr.V λc2 hc2=>Tr.V λc3 hc3=>Tr.C ?_ λc4 hc4 qc4=>Tr.V λc5 hc5=>Tr.V λc6 hc6=>Tr.V λc7 hc7=>Tr.V λc8 hc8=>Tr.C ?_ λc9 hc9 qc9=>Tr.G3 ?_ λg1=>Tr.V λe10 he10=>Tr.I (λb2=>Tr.I (λb3=>Tr.I (λb4=>Tr.I (λb5=>Tr.B (Q':=λ_=>True) (Tr.F (by kernel_rfl) trivial) (λ(u11a0,_) hj11 qj11=>Tr.I (λb6=>Tr.R ?_) λb6=>Tr.R ?_)) λb5=>Tr.B (Q':=λ_=>True) (Tr.F (by kernel_rfl) trivial) (λ(u12a0,_) hj12 qj12=>Tr.I (λb6=>Tr.R ?_) λb6=>Tr.R ?_)) λb4=>Tr.B (Q':=λ_=>True) (Tr.F (by kernel_rfl) trivial) (λ(u13a0,_) hj13 qj13=>Tr.I (λb5=>Tr.R ?_) λb5=>Tr.R ?_)) λb3=>Tr.B (Q':=λ_=>True) (Tr.F (by kernel_rfl) trivial) (λ(u14a0,_) hj14 qj14=>Tr.I (λb4=>Tr.R ?_) λb4=>Tr.R ?_)) λb2=>Tr.B (Q':=λ_=>True) (Tr.F (by kernel_rfl) trivial) (λ(u15a0,_) hj15 qj15=>Tr.I (λb3=>Tr.R ?_) λb3=>Tr.R ?_)
  all_goals ((try simp only[Tr.nice,bu]at*)<;>(first|grind|(have hs:SO x0:=(by grind);have h7:c7≤(x0.data.length:Int)-x0.sent:=(by rw[hc7,tq,aA (by grind) (by grind)];split<;>omega);have h8:0≤c8∧c8≤(x0.data.length:Int)-x0.sent:=(by rw[hc8,pZ];have:=hs.2.2.2.2.1;split<;>omega);clear hc7 hc8 hc4 hc2 hc3 hc6 hc5;grind)))⟩
noncomputable def xE:=aZ st J9 J7 [] (ks:=[.st .sndr,.sc (.int .i64),.sc (.int .i64)]) n5 (λv=>[(true,VN v.1),(false,[.c (.bool v.2)])]) Tryz.func367 trivial
noncomputable def lm:FT (Sndr×Chun×Unit) (Sndr) (λx=>bU x.1∧oX x.2.1) (λx v=>bU v∧(SO x.1→(x.2.1.text.length:Int)+x.1.sent≤x.1.data.length→x.1.finSent=false→(x.2.1.fin=true→x.1.fin=true∧x.1.done=false∧x.1.sent+x.2.1.text.length=x.1.data.length)→v={x.1 with sent:=x.1.sent+x.2.1.text.length,finSent:=x.2.1.fin})):=⟨λ(x0,x1,_)=>
  .ite x0.finSent (.cal eS.c (x0,()) λc1=>
   .ite (!c1) (.ret x0)<|
   .cal eS.c (({x0 with sent:=(IntKind.wrap .i64 (x0.sent+(x1.text.length:Int))),finSent:=true}:Sndr),()) λc2=>
   .ite (!c2) (.ret x0)<|
   .ite x1.fin (.ite x0.done (.ret x0)<|
    .ret ({x0 with sent:=(IntKind.wrap .i64 (x0.sent+(x1.text.length:Int))),finSent:=true}:Sndr))<|
   .ret ({x0 with sent:=(IntKind.wrap .i64 (x0.sent+(x1.text.length:Int))),finSent:=true}:Sndr))<|
  .cal eS.c (x0,()) λc3=>
  .ite (!c3) (.ret x0)<|
  .cal eS.c (({x0 with sent:=(IntKind.wrap .i64 (x0.sent+(x1.text.length:Int))),finSent:=x1.fin}:Sndr),()) λc4=>
  .ite (!c4) (.ret x0)<|
  .ite x1.fin (.ite x0.done (.ret x0)<|
   .ret ({x0 with sent:=(IntKind.wrap .i64 (x0.sent+(x1.text.length:Int))),finSent:=x1.fin}:Sndr))<|
  .ret ({x0 with sent:=(IntKind.wrap .i64 (x0.sent+(x1.text.length:Int))),finSent:=x1.fin}:Sndr),
 λ(x0,x1,_) hp=>by
  refine Tr.I (λ_=>Tr.C trivial λ_ _ _=>Tr.I (λ_=>Tr.R ?_) λ_=>Tr.C trivial λ_ _ _=>Tr.I (λ_=>Tr.R ?_) λ_=>Tr.I (λ_=>Tr.I (λ_=>Tr.R ?_) λ_=>Tr.R ?_) λ_=>Tr.R ?_) λ_=>Tr.C trivial λ_ _ _=>Tr.I (λ_=>Tr.R ?_) λ_=>Tr.C trivial λ_ _ _=>Tr.I (λ_=>Tr.R ?_) λ_=>Tr.I (λ_=>Tr.I (λ_=>Tr.R ?_) λ_=>Tr.R ?_) λ_=>Tr.R ?_
  all_goals (grind)⟩
noncomputable def C6:=bi st Tryz.func369 [jT] (ks:=[.st .sndr,.st .chun]) lm (λv=>[(true,vg v)])
noncomputable def m7:FF (Int×Int×Int×Unit) (Bool):=⟨λ(x0,x1,x2,_)=>
  .ite (decide (4294967295<x2)) (.ret true)<|
  .ite (decide (1≤x2)) (.val (qJ.f (x0,x1,())) λc1=>
   .ret (decide (c1<x2)))<|
  .ret false⟩
noncomputable def tY:=iW st Tryz.func378 [Cf] (ks:=[.sc (.int .i64),.sc (.int .i64),.sc (.int .i64)]) m7 (λv=>[(false,[.c (.bool v)])])
noncomputable def wv:FT (Conn×Int×Unit) (Bool) (λx=>aa x.1) (λ_ _=>True):=⟨λ(x0,x1,_)=>
  .val (β:=Int) (if 0<(if 2147483648<x0.most then 2147483648 else x0.most)then(if 2147483648<x0.most then 2147483648 else x0.most)else 0) λe1=>
  .val (pe.f (x1,x0.s.una,())) λc2=>
  .cal cJ.c (x0.s,()) λc3=>
  .val (bo.f (c2,(IntKind.wrap .i64 (0-e1)),c3,())) λc4=>
  .ret c4,
 λ(x0,x1,_) hp=>by
  refine Tr.V λ_ _=>Tr.V λ_ _=>Tr.C ?_ λ_ _ _=>Tr.F (by kernel_rfl) trivial
  all_goals (grind)⟩
noncomputable def Qw:=bi st Tryz.func381 [vA,pN,bV] (ks:=[.st .conn,.sc (.int .i64)]) wv (λv=>[(false,[.c (.bool v)])])
noncomputable def jG:FT (Sndr×Unit) (Int) (λx=>bU x.1) (λ_ _=>True):=⟨λ(x0,_)=>
  .cal cJ.c (x0,()) λc1=>
  .val (bM.f (x0.una,c1,())) λc2=>
  .ret c2,
 λ(x0,_) hp=>by
  refine Tr.C ?_ λ_ _ _=>Tr.F (by kernel_rfl) trivial
  all_goals (grind)⟩
noncomputable def FQ:=bi st Tryz.func382 [pN,fH] (ks:=[.st .sndr]) jG (λv=>[(false,[.c (.int .i64 v)])])
noncomputable def Vn:=[vA,oO,pN,bV,fH]
noncomputable def Uy:Fx:=⟨383,Tryz.f383,[(3000002,rA 0 22)],0⟩
noncomputable def FI:FT (Sndr×Int×Unit) (Sndr×Bool) (λx=>bU x.1) (λx v=>bU v.1):=⟨λ(x0,x1,_)=>
  .val (pe.f (x1,x0.una,())) λc1=>
  .bnd (β:=Bool×Unit) (.cal bt.c (x0,()) λc2=>
   .ite (!c2) (.ret (true,()))<|
   .cal cJ.c (x0,()) λc3=>
   .val (bo.f (c1,0,c3,())) λc4=>
   .ret ((!c4),())) λ(u5a0,_)=>
  .ite u5a0 (.ret (x0,false))<|
  .grd (((decide (0≤(if(x0.data.length:Int)<c1 then(x0.data.length:Int)else c1)))&&(decide ((if(x0.data.length:Int)<c1 then(x0.data.length:Int)else c1)≤(x0.data.length:Int))))&&(decide ((x0.data.length:Int)≤(x0.data.length:Int))))<|
  .val ((x0.data.take ((x0.data.length:Int).toNat)).drop ((if(x0.data.length:Int)<c1 then(x0.data.length:Int)else c1).toNat)) λe6=>
  .val (bM.f (x0.una,c1,())) λc7=>
  .val (IntKind.wrap .i64 (x0.sent-(if(x0.data.length:Int)<c1 then(x0.data.length:Int)else c1))) λe8=>
  .ite (c1==(IntKind.wrap .i64 (x0.sent+1))) (.ret ((⟨c7,e6,e8,x0.fin,false,true⟩:Sndr),true))<|
  .ret (({x0 with una:=c7,data:=e6,sent:=e8}:Sndr),true),
 λ(x0,x1,_) hp=>by
  refine Tr.V λ_ _=>Tr.B (Q':=λw=>(w.1=false→SO x0)) (Tr.C trivial λ_ _ _=>Tr.I (λ_=>Tr.R ?_) λ_=>Tr.C ?_ λ_ _ _=>Tr.V λ_ _=>Tr.R ?_) (λ(u5a0,_) _ _=>Tr.I (λ_=>Tr.R ?_) λ_=>Tr.G3 ?_ λ_=>Tr.V λ_ _=>Tr.V λ_ _=>Tr.V λ_ _=>Tr.I (λ_=>Tr.R ?_) λ_=>Tr.R ?_)
  all_goals ((try simp only[Tr.nice,bu]at*)<;>grind)⟩
noncomputable def Vx:=aZ st Uy Vn [] (ks:=[.st .sndr,.sc (.int .i64)]) FI (λv=>[(true,vg v.1),(false,[.c (.bool v.2)])]) Tryz.func383 trivial
noncomputable def Kx:=[oO,pN,FQ]
noncomputable def Kp:Fx:=⟨388,Tryz.f388,[(3000007,rA 0 68)],0⟩
noncomputable def aV:FT (Sndr×Int×Int×Unit) (Chun×Bool) (λx=>bU x.1) (λx v=>oX v.1∧(v.2=true→SO x.1∧(v.1.text.length:Int)+x.1.sent≤x.1.data.length∧x.1.finSent=false∧(v.1.text=[]→v.1.fin=true)∧(v.1.fin=true→x.1.fin=true∧x.1.done=false∧x.1.sent+v.1.text.length=x.1.data.length))):=⟨λ(x0,x1,x2,_)=>
  .cal bt.c (x0,()) λc1=>
  .ite (!c1) (.ret ((⟨0,[],false⟩:Chun),false))<|
  .cal cJ.c (x0,()) λc2=>
  .grd (((decide (0≤x0.sent))&&(decide (x0.sent≤(x0.data.length:Int))))&&(decide ((x0.data.length:Int)≤(x0.data.length:Int))))<|
  .val (((x0.data.take ((x0.data.length:Int).toNat)).drop x0.sent.toNat).length:Int) λe3=>
  .val (β:=Int) (if(IntKind.wrap .i64 ((if x1<(-1)then(-1)else x1)-c2))<(if x2<e3 then x2 else e3)then(IntKind.wrap .i64 ((if x1<(-1)then(-1)else x1)-c2))else(if x2<e3 then x2 else e3)) λe4=>
  .cal jG.c (x0,()) λc5=>
  .grd ((decide (0≤(if 0<e4 then e4 else 0)))&&(decide ((if 0<e4 then e4 else 0)≤(((x0.data.take ((x0.data.length:Int).toNat)).drop x0.sent.toNat).length:Int))))<|
  .val ((((x0.data.take ((x0.data.length:Int).toNat)).drop x0.sent.toNat).take ((if 0<e4 then e4 else 0).toNat)).drop 0) λe6=>
  .ite x0.fin (.ite (!x0.finSent) (.ite (!x0.done) (.val (((x0.data.take ((x0.data.length:Int).toNat)).drop x0.sent.toNat).length:Int) λe7=>
     .ite ((if 0<e4 then e4 else 0)==e7) (.bnd (β:=Bool×Unit) (.ite (e6==[]) (.ret ((!(decide ((if 0<e4 then e4 else 0)<(IntKind.wrap .i64 ((if x1<(-1)then(-1)else x1)-c2))))),()))<|
       .ret (false,())) λ(u8a0,_)=>
      .ite u8a0 (.ret ((⟨0,[],false⟩:Chun),false))<|
      .ret ((⟨c5,e6,(decide ((if 0<e4 then e4 else 0)<(IntKind.wrap .i64 ((if x1<(-1)then(-1)else x1)-c2))))⟩:Chun),true))<|
     .bnd (β:=Bool×Unit) (.ite (e6==[]) (.ret (true,()))<|
      .ret (false,())) λ(u9a0,_)=>
     .ite u9a0 (.ret ((⟨0,[],false⟩:Chun),false))<|
     .ret ((⟨c5,e6,false⟩:Chun),true))<|
    .bnd (β:=Bool×Unit) (.ite (e6==[]) (.ret (true,()))<|
     .ret (false,())) λ(u10a0,_)=>
    .ite u10a0 (.ret ((⟨0,[],false⟩:Chun),false))<|
    .ret ((⟨c5,e6,false⟩:Chun),true))<|
   .bnd (β:=Bool×Unit) (.ite (e6==[]) (.ret (true,()))<|
    .ret (false,())) λ(u11a0,_)=>
   .ite u11a0 (.ret ((⟨0,[],false⟩:Chun),false))<|
   .ret ((⟨c5,e6,false⟩:Chun),true))<|
  .bnd (β:=Bool×Unit) (.ite (e6==[]) (.ret (true,()))<|
   .ret (false,())) λ(u12a0,_)=>
  .ite u12a0 (.ret ((⟨0,[],false⟩:Chun),false))<|
  .ret ((⟨c5,e6,false⟩:Chun),true),
 λ(x0,x1,x2,_) hp=>by
  refine Tr.C trivial λ_ _ _=>Tr.I (λ_=>Tr.R ?_) λ_=>Tr.C ?_ λ_ _ _=>Tr.G3 ?_ λ_=>Tr.V λ_ _=>Tr.V λ_ _=>Tr.C ?_ λ_ _ _=>Tr.G2 ?_ λ_=>Tr.V λ_ _=>Tr.I (λ_=>Tr.I (λ_=>Tr.I (λ_=>Tr.V λ_ _=>Tr.I (λ_=>Tr.B (Q':=λ_=>True) (Tr.F (by kernel_rfl) trivial) (λ(u8a0,_) _ _=>Tr.I (λ_=>Tr.R ?_) λ_=>Tr.R ?_)) λ_=>Tr.B (Q':=λ_=>True) (Tr.F (by kernel_rfl) trivial) (λ(u9a0,_) _ _=>Tr.I (λ_=>Tr.R ?_) λ_=>Tr.R ?_)) λ_=>Tr.B (Q':=λ_=>True) (Tr.F (by kernel_rfl) trivial) (λ(u10a0,_) _ _=>Tr.I (λ_=>Tr.R ?_) λ_=>Tr.R ?_)) λ_=>Tr.B (Q':=λ_=>True) (Tr.F (by kernel_rfl) trivial) (λ(u11a0,_) _ _=>Tr.I (λ_=>Tr.R ?_) λ_=>Tr.R ?_)) λ_=>Tr.B (Q':=λ_=>True) (Tr.F (by kernel_rfl) trivial) (λ(u12a0,_) _ _=>Tr.I (λ_=>Tr.R ?_) λ_=>Tr.R ?_)
  all_goals ((try simp only[Tr.nice,bu]at*)<;>grind)⟩
noncomputable def J4:=aZ st Kp Kx [] (ks:=[.st .sndr,.sc (.int .i64),.sc (.int .i64)]) aV (λv=>[(true,VN v.1),(false,[.c (.bool v.2)])]) Tryz.func388 trivial
noncomputable def di:FT (Sndr×Chun×Unit) (Sndr) (λx=>bU x.1∧oX x.2.1) (λx v=>bU v∧(SO x.1→(x.2.1.text.length:Int)+x.1.sent≤x.1.data.length→x.1.finSent=false→(x.2.1.fin=true→x.1.fin=true∧x.1.done=false∧x.1.sent+x.2.1.text.length=x.1.data.length)→v={x.1 with sent:=x.1.sent+x.2.1.text.length,finSent:=x.2.1.fin})):=⟨λ(x0,x1,_)=>
  .ite x0.finSent (.cal bt.c (x0,()) λc1=>
   .ite (!c1) (.ret x0)<|
   .cal bt.c (({x0 with sent:=(IntKind.wrap .i64 (x0.sent+(x1.text.length:Int))),finSent:=true}:Sndr),()) λc2=>
   .ite (!c2) (.ret x0)<|
   .ite x1.fin (.ite (!x0.fin) (.ret x0)<|
    .ite x0.done (.ret x0)<|
    .ret ({x0 with sent:=(IntKind.wrap .i64 (x0.sent+(x1.text.length:Int))),finSent:=true}:Sndr))<|
   .ret ({x0 with sent:=(IntKind.wrap .i64 (x0.sent+(x1.text.length:Int))),finSent:=true}:Sndr))<|
  .cal bt.c (x0,()) λc3=>
  .ite (!c3) (.ret x0)<|
  .cal bt.c (({x0 with sent:=(IntKind.wrap .i64 (x0.sent+(x1.text.length:Int))),finSent:=x1.fin}:Sndr),()) λc4=>
  .ite (!c4) (.ret x0)<|
  .ite x1.fin (.ite (!x0.fin) (.ret x0)<|
   .ite x0.done (.ret x0)<|
   .ret ({x0 with sent:=(IntKind.wrap .i64 (x0.sent+(x1.text.length:Int))),finSent:=x1.fin}:Sndr))<|
  .ret ({x0 with sent:=(IntKind.wrap .i64 (x0.sent+(x1.text.length:Int))),finSent:=x1.fin}:Sndr),
 λ(x0,x1,_) hp=>by
  refine Tr.I (λ_=>Tr.C trivial λ_ _ _=>Tr.I (λ_=>Tr.R ?_) λ_=>Tr.C trivial λ_ _ _=>Tr.I (λ_=>Tr.R ?_) λ_=>Tr.I (λ_=>Tr.I (λ_=>Tr.R ?_) λ_=>Tr.I (λ_=>Tr.R ?_) λ_=>Tr.R ?_) λ_=>Tr.R ?_) λ_=>Tr.C trivial λ_ _ _=>Tr.I (λ_=>Tr.R ?_) λ_=>Tr.C trivial λ_ _ _=>Tr.I (λ_=>Tr.R ?_) λ_=>Tr.I (λ_=>Tr.I (λ_=>Tr.R ?_) λ_=>Tr.I (λ_=>Tr.R ?_) λ_=>Tr.R ?_) λ_=>Tr.R ?_
  all_goals (grind)⟩
noncomputable def Qi:=bi st Tryz.func390 [oO] (ks:=[.st .sndr,.st .chun]) di (λv=>[(true,vg v)])
noncomputable def Bn:=[bV,Qp]
def uJ:An:=⟨⟨[],[],false,0⟩,⟨[1,2,4,5],[],false,0⟩,⟨[],[]⟩,[(.normal,⟨[zi 1,zp 2 0,zp 4 1,zp 5 2],[.box [.st .opti []],.box [.st .opti []],.box [.st .opti []]]⟩)]⟩
noncomputable def AI:Fx:=⟨392,Tryz.f392,[(1000013,uJ)],0⟩
noncomputable def bH:FF (Opti×Int×Unit) (Opti):=⟨λ(x0,x1,_)=>
  .ite (!x0.stamp) (.ret (⟨1460,(-1),false,false,0,0⟩:Opti))<|
  .val (bo.f (x0.scale,0,14,())) λc1=>
  .bnd (β:=Int×Opti×Opti×Opti×Unit) (.ite c1 (.ret (x1,x0,(⟨0,0,false,false,0,0⟩:Opti),(⟨1460,0,false,false,0,0⟩:Opti),()))<|
   .ret (x1,x0,(⟨0,0,false,false,0,0⟩:Opti),(⟨1460,(-1),false,false,0,0⟩:Opti),())) λ(u2a0,u2a1,_,u2a3,_)=>
  .val (ja.f (u2a0,u2a1.scale,u2a1.sack,())) λc3=>
  .ret (⟨u2a3.mss,u2a3.scale,u2a1.sack,true,c3,u2a1.val⟩:Opti)⟩
noncomputable def zD:=TN st AI Bn [] (ks:=[.st .opti,.sc (.int .i64)]) bH (λv=>[(true,pS v)]) Tryz.func392 trivial
noncomputable def cK:FT (Int×Unit) (Int×Int×Int) (λ_=>True) (λ_ _=>True):=⟨λ(x0,_)=>
  .cal ai.c (x0,32,()) λc1=>
  .ite (!c1) (.ret ((-1),(-1),(-1)))<|
  .ret ((IntKind.wrap .i64 (x0.tdiv 134217728)),((IntKind.wrap .i64 (x0.tdiv 16777216)).tmod 8),(x0.tmod 16777216)),
 λ(x0,_) hp=>by
  refine Tr.C trivial λ_ _ _=>Tr.F (by kernel_rfl) trivial⟩
noncomputable def EO:=bi st Tryz.func394 [cx] (ks:=[.sc (.int .i64)]) cK (λv=>[(false,[.c (.int .i64 v.1)]),(false,[.c (.int .i64 v.2.1)]),(false,[.c (.int .i64 v.2.2)])])
noncomputable def M4:=[oT]
noncomputable def N5:Fx:=⟨395,Tryz.f395,[(3000003,rA 0 14)],0⟩
noncomputable def ig:FT (Keys×Int×Unit) (Mac×Bool) (λx=>bE x.1) (λx v=>bv v.1):=⟨λ(x0,x1,_)=>
  .ite (x1==x0.epoch) (.cal iO.c (x0.now,()) λc1=>
   .ret (c1,true))<|
  .bnd (β:=Bool×Unit) (.ite x0.two (.ret ((x1==(IntKind.wrap .i64 (x0.epoch-1))),()))<|
   .ret (false,())) λ(u2a0,_)=>
  .ite u2a0 (.cal iO.c (x0.before,()) λc3=>
   .ret (c3,true))<|
  .ret ((⟨false,0,0,[]⟩:Mac),false),
 λ(x0,x1,_) hp=>by
  refine Tr.I (λ_=>Tr.C ?_ λ_ _ _=>Tr.R ?_) λ_=>Tr.B (Q':=λ_=>True) (Tr.F (by kernel_rfl) trivial) (λ(u2a0,_) _ _=>Tr.I (λ_=>Tr.C ?_ λ_ _ _=>Tr.R ?_) λ_=>Tr.R ?_)
  all_goals ((try simp only[Tr.nice,bu]at*)<;>grind)⟩
noncomputable def L9:=aZ st N5 M4 [] (ks:=[.st .keys,.sc (.int .i64)]) ig (λv=>[(true,DJ (.o true) v.1),(false,[.c (.bool v.2)])]) Tryz.func395 trivial
noncomputable def Qu:=[cx]
noncomputable def QN:Fx:=⟨397,Tryz.f397,[(3000001,rA 0 13)],0⟩
noncomputable def jg:FT (Int×Unit) (Int×Bool×Bool) (λ_=>True) (λ_ _=>True):=⟨λ(x0,_)=>
  .bnd (β:=Bool×Unit) (.cal ai.c (x0,32,()) λc1=>
   .ite (!c1) (.ret (true,()))<|
   .ret (((bits .and .i64 x0 32)==0),())) λ(u2a0,_)=>
  .ite u2a0 (.ret ((-1),false,false))<|
  .ite ((bits .and .i64 x0 15)==15) (.ret ((-1),((bits .and .i64 x0 16) != 0),true))<|
  .ret ((bits .and .i64 x0 15),((bits .and .i64 x0 16) != 0),true),
 λ(x0,_) hp=>by
  refine Tr.B (Q':=λ_=>True) (Tr.C trivial λ_ _ _=>Tr.F (by kernel_rfl) trivial) (λ(u2a0,_) _ _=>Tr.F (by kernel_rfl) trivial)⟩
noncomputable def Rc:=aZ st QN Qu [] (ks:=[.sc (.int .i64)]) jg (λv=>[(false,[.c (.int .i64 v.1)]),(false,[.c (.bool v.2.1)]),(false,[.c (.bool v.2.2)])]) Tryz.func397 trivial
noncomputable def QP:=[cq]
noncomputable def OB:Fx:=⟨403,Tryz.f403,[(3000001,rA 0 13)],0⟩
noncomputable def wT:FT (Int×Unit) (Int×Bool×Bool) (λ_=>True) (λ_ _=>True):=⟨λ(x0,_)=>
  .bnd (β:=Bool×Unit) (.cal aL.c (x0,32,()) λc1=>
   .ite (!c1) (.ret (true,()))<|
   .ret (((bits .and .i64 x0 32)==0),())) λ(u2a0,_)=>
  .ite u2a0 (.ret ((-1),false,false))<|
  .ite ((x0.tmod 16)==15) (.ret ((-1),((bits .and .i64 x0 16) != 0),true))<|
  .ret ((x0.tmod 16),((bits .and .i64 x0 16) != 0),true),
 λ(x0,_) hp=>by
  refine Tr.B (Q':=λ_=>True) (Tr.C trivial λ_ _ _=>Tr.F (by kernel_rfl) trivial) (λ(u2a0,_) _ _=>Tr.F (by kernel_rfl) trivial)⟩
noncomputable def PI:=aZ st OB QP [] (ks:=[.sc (.int .i64)]) wT (λv=>[(false,[.c (.int .i64 v.1)]),(false,[.c (.bool v.2.1)]),(false,[.c (.bool v.2.2)])]) Tryz.func403 trivial
noncomputable def ik:FT (Sipr×Unit) (Sipr) (λ_=>True) (λ_ _=>True):=⟨λ(x0,_)=>
  .cal j1.c (x0.b,13,()) λc1=>
  .cal j1.c ((IntKind.wrap .u64 (x0.a+x0.b)),32,()) λc2=>
  .cal j1.c (x0.d,16,()) λc3=>
  .val (IntKind.wrap .u64 (c2+(bits .xor .u64 c3 (IntKind.wrap .u64 (x0.c+x0.d))))) λe4=>
  .cal j1.c ((bits .xor .u64 c3 (IntKind.wrap .u64 (x0.c+x0.d))),21,()) λc5=>
  .val (IntKind.wrap .u64 ((IntKind.wrap .u64 (x0.c+x0.d))+(bits .xor .u64 c1 (IntKind.wrap .u64 (x0.a+x0.b))))) λe6=>
  .cal j1.c ((bits .xor .u64 c1 (IntKind.wrap .u64 (x0.a+x0.b))),17,()) λc7=>
  .cal j1.c (e6,32,()) λc8=>
  .ret (⟨e4,(bits .xor .u64 c7 e6),c8,(bits .xor .u64 c5 e4)⟩:Sipr),
 λ(x0,_) hp=>by
  refine Tr.C ?_ λ_ _ _=>Tr.C ?_ λ_ _ _=>Tr.C ?_ λ_ _ _=>Tr.V λ_ _=>Tr.C ?_ λ_ _ _=>Tr.V λ_ _=>Tr.C ?_ λ_ _ _=>Tr.C ?_ λ_ _ _=>Tr.R trivial
  all_goals (grind)⟩
noncomputable def zW:=bi st Tryz.func420 [Rk] (ks:=[.st .sipr]) ik (λv=>[(true,Cg v)])
noncomputable def M5:=[tY,Cf]
noncomputable def M0:Fx:=⟨425,Tryz.f425,[(3000002,rA 0 16)],0⟩
noncomputable def ta:FF (Int×Int×Int×Int×Unit) (Bool):=⟨λ(x0,x1,x2,x3,_)=>
  .bnd (β:=Bool×Unit) (.ite (decide ((if 65536<x1 then 65536 else x1)<1)) (.ret (true,()))<|
   .ret ((decide (x3<1)),())) λ(u1a0,_)=>
  .ite u1a0 (.ret false)<|
  .val (m7.f (x0,x2,x3,())) λc2=>
  .ite c2 (.ret true)<|
  .val (qJ.f (x2,x0,())) λc3=>
  .ret (decide (c3<(if 65536<x1 then 65536 else x1)))⟩
noncomputable def Ni:=TN st M0 M5 [] (ks:=[.sc (.int .i64),.sc (.int .i64),.sc (.int .i64),.sc (.int .i64)]) ta (λv=>[(false,[.c (.bool v)])]) Tryz.func425 trivial
noncomputable def eP:FT (List Bool×Bool×Unit) (Bool) (λx=>sS x.1) (λ_ _=>True):=⟨λ(x0,x1,_)=>
  .cal oN.c (x0,x1,()) λc1=>
  .ret (decide (0≤c1)),
 λ(x0,x1,_) hp=>by
  refine Tr.C ?_ λ_ _ _=>Tr.R trivial
  all_goals (grind)⟩
noncomputable def zf:=bi st Tryz.func427 [Jh] (ks:=[.sc (.sl .bool),.sc .bool]) eP (λv=>[(false,[.c (.bool v)])])
noncomputable def Np:=[lG,cx,bV,P1]
noncomputable def ML:Fx:=⟨429,Tryz.f429,[(3000001,rA 0 26)],0⟩
noncomputable def f8:FT (Tupl×Int×Int×Int×Unit) (ax) (λ_=>True) (λx v=>sS v∧v.length≤40):=⟨λ(x0,x1,x2,x3,_)=>
  .bnd (β:=Bool×Unit) (.cal aD.c (x0,()) λc1=>
   .ite (!c1) (.ret (true,()))<|
   .cal ai.c (x1,32,()) λc2=>
   .ite (!c2) (.ret (true,()))<|
   .cal ai.c (x2,32,()) λc3=>
   .ite (!c3) (.ret (true,()))<|
   .val (bo.f (x3,0,7,())) λc4=>
   .ret ((!c4),())) λ(u5a0,_)=>
  .ite u5a0 (.ret [])<|
  .cal gh.c (x0.ip,4,()) λc6=>
  .cal gh.c (x0.port,2,()) λc7=>
  .grd (Nat.ble (c6.length+c7.length) dq)<|
  .cal gh.c (x0.my,2,()) λc8=>
  .grd (Nat.ble ((c6++c7).length+c8.length) dq)<|
  .cal gh.c (x1,4,()) λc9=>
  .grd (Nat.ble (((c6++c7)++c8).length+c9.length) dq)<|
  .cal gh.c (x2,4,()) λc10=>
  .grd (Nat.ble ((((c6++c7)++c8)++c9).length+c10.length) dq)<|
  .cal gh.c (x3,1,()) λc11=>
  .grd (Nat.ble (((((c6++c7)++c8)++c9)++c10).length+c11.length) dq)<|
  .ret (((((c6++c7)++c8)++c9)++c10)++c11),
 λ(x0,x1,x2,x3,_) hp=>by
  refine Tr.B (Q':=λ_=>True) (Tr.C trivial λc1 hc1 qc1=>Tr.I (λb0=>Tr.R trivial) λb0=>Tr.C trivial λc2 hc2 qc2=>Tr.I (λb1=>Tr.R trivial) λb1=>Tr.C trivial λc3 hc3 qc3=>Tr.F (by kernel_rfl) trivial) (λ(u5a0,_) hj5 qj5=>Tr.I (λb0=>Tr.R ?_) λb0=>Tr.C trivial λc6 hc6 qc6=>Tr.C trivial λc7 hc7 qc7=>Tr.Gb ?_ λg1=>Tr.C trivial λc8 hc8 qc8=>Tr.Gb ?_ λg2=>Tr.C trivial λc9 hc9 qc9=>Tr.Gb ?_ λg3=>Tr.C trivial λc10 hc10 qc10=>Tr.Gb ?_ λg4=>Tr.C trivial λc11 hc11 qc11=>Tr.Gb ?_ λg5=>Tr.R ?_)
  all_goals ((try simp only[Tr.nice,bu]at*)<;>(first|(simp only[List.length_append,List.length_cons,List.length_nil,dq,sS]at*;omega)|grind))⟩
noncomputable def Mb:=aZ st ML Np [] (ks:=[.st .tupl,.sc (.int .i64),.sc (.int .i64),.sc (.int .i64)]) f8 (λv=>[(false,[.c (.str v)])]) Tryz.func429 trivial
noncomputable def wn:FT (Conn×Int×Unit) (Bool) (λx=>aa x.1) (λ_ _=>True):=⟨λ(x0,x1,_)=>
  .val (pg.f (x1,x0.s.una,())) λc1=>
  .cal gC.c (x0.s,()) λc2=>
  .ite (decide (c1≤c2)) (.ite (decide (0≤c1)) (.ret true)<|
   .ite (decide (2147483648≤x0.most)) (.ret true)<|
   .ite (decide (0<x0.most)) (.ret (decide ((IntKind.wrap .i64 (0-x0.most))≤c1)))<|
   .ret false)<|
  .ret false,
 λ(x0,x1,_) hp=>by
  refine Tr.V λ_ _=>Tr.C ?_ λ_ _ _=>Tr.F (by kernel_rfl) trivial
  all_goals (grind)⟩
noncomputable def PF:=bi st Tryz.func433 [vb,iu] (ks:=[.st .conn,.sc (.int .i64)]) wn (λv=>[(false,[.c (.bool v)])])
noncomputable def Vg:=[vb,jT,iu,dR,cW]
def JJ:An:=⟨⟨[],[],false,0⟩,⟨[2,4,5,6,7],[],false,0⟩,⟨[],[]⟩,[(.normal,⟨[zp 2 0,zp 4 1,zb 5,zi 6,zp 7 2],[.box [.st .sndr []],.box [.st .sndr []],.box [.st .sndr []]]⟩)]⟩
noncomputable def US:Fx:=⟨434,Tryz.f434,[(1000032,JJ),(3000002,rA 0 21)],0⟩
noncomputable def AQ:FT (Sndr×Int×Unit) (Sndr×Bool) (λx=>bU x.1) (λx v=>bU v.1):=⟨λ(x0,x1,_)=>
  .val (pg.f (x1,x0.una,())) λc1=>
  .bnd (β:=Bool×Unit) (.cal eS.c (x0,()) λc2=>
   .ite (!c2) (.ret (true,()))<|
   .cal gC.c (x0,()) λc3=>
   .val (dk.f (c1,0,c3,())) λc4=>
   .ret ((!c4),())) λ(u5a0,_)=>
  .ite u5a0 (.ret (x0,false))<|
  .val (bg.f (x0.una,c1,())) λc6=>
  .bnd (β:=Bool×Int×Sndr×Sndr×Sndr×Unit) (.ite (decide (x0.sent<c1)) (.ret (false,x0.sent,x0,(⟨0,[],0,false,false,false⟩:Sndr),({x0 with una:=c6,finSent:=false,done:=true}:Sndr),()))<|
   .ret (false,c1,x0,(⟨0,[],0,false,false,false⟩:Sndr),({x0 with una:=c6}:Sndr),())) λ(_,u7a1,u7a2,_,u7a4,_)=>
  .grd (((decide (0≤u7a1))&&(decide (u7a1≤(u7a2.data.length:Int))))&&(decide ((u7a2.data.length:Int)≤(u7a2.data.length:Int))))<|
  .ret (({u7a4 with data:=((u7a2.data.take ((u7a2.data.length:Int).toNat)).drop u7a1.toNat),sent:=(IntKind.wrap .i64 (u7a2.sent-u7a1))}:Sndr),true),
 λ(x0,x1,_) hp=>by
  refine Tr.V λc1 hc1=>Tr.B (Q':=λw=>(w.1=false→SO x0)∧(w.1=false→0≤c1∧c1≤x0.sent+1)) (Tr.C trivial λc2 hc2 qc2=>Tr.I (λb0=>Tr.R ?_) λb0=>Tr.C ?_ λc3 hc3 qc3=>Tr.V λc4 hc4=>Tr.R ?_) (λ(u5a0,_) hj5 qj5=>Tr.I (λb0=>Tr.R ?_) λb0=>Tr.V λc6 hc6=>Tr.B (Q':=λw=>bU w.2.2.1∧bU w.2.2.2.1∧bU w.2.2.2.2.1∧0≤w.2.1∧w.2.1≤x0.data.length∧w.2.2.1=x0) (Tr.I (λb1=>Tr.R ?_) λb1=>Tr.R ?_) (λ(u7a0,u7a1,u7a2,u7a3,u7a4,_) hj7 qj7=>Tr.G3 ?_ λg1=>Tr.R ?_))
  all_goals ((try simp only[Tr.nice,bu]at*)<;>grind)⟩
noncomputable def LV:=aZ st US Vg [] (ks:=[.st .sndr,.sc (.int .i64)]) AQ (λv=>[(true,vg v.1),(false,[.c (.bool v.2)])]) Tryz.func434 trivial
noncomputable def uU:=[vG,qt,j8,Mc,cW,ic,QX,JP]
def mq:Sh:=⟨[zi 1,zs 2,zb 3,zp 4 0,zp 8 1,zp 9 2,zi 10,(11,false,[.own 3]),zi 12],[.box [.st .recv [.sl .arg]],.box [.st .recv [.nil .piec]],.box [.st .recv [.own 4]],.arr .i64 false true,.of false true]⟩
def lV:Sh:=⟨[zp 4 0,zp 8 1,zp 9 2,(11,false,[.own 3]),zi 15,(16,false,[.own 4])],[.box [.st .recv [.sl .arg]],.box [.st .recv [.nil .piec]],.box [.st .recv [.own 5]],.arr .i64 false true,.arr .u8 false true,.of false true]⟩
def uC:An:=⟨⟨[],[],false,0⟩,⟨[4,8,9,11],[],false,0⟩,⟨[],[]⟩,[(.normal,⟨[zp 4 0,zp 8 1,zp 9 2,(11,false,[.own 3])],[.box [.st .recv [.sl .arg]],.box [.st .recv [.nil .piec]],.box [.st .recv [.own 4]],.arr .i64 false true,.of false true]⟩)]⟩
def m9:An:=⟨⟨[],[],false,0⟩,⟨[4,8,9],[],false,0⟩,⟨[],[]⟩,[(.normal,⟨[zp 4 0,zp 8 1,zp 9 2],[.box [.st .recv [.sl .arg]],.box [.st .recv [.nil .piec]],.box [.st .recv [.own 3]],.of false true]⟩)]⟩
noncomputable def vW:Fx:=⟨435,Tryz.f435,[(0,lb [1,2,3,4,8,9,10,11,12] [1,2,3,4,8,9,10,11]),(2,lb [4,8,9,11,15,16] [4,8,9,11,15,16]),(1000095,uC),(1000137,m9),(3000002,rA 0 25),(3000010,rA 0 64),(3000013,rA 0 95)],0⟩
noncomputable def qi (v0:Int)(v1:ax)(v3:Int)(v5:Recv)(v4:Int)(a:Recv×List Int):Tr (Stp (Recv×List Int) (Empty)):=
 .val (bg.f (v0,v4,())) λc6=>
 .val (bF.f ((IntKind.wrap .i64 (c6-v5.next)),())) λc7=>
 .bnd (β:=Bool×Unit) (.ite (decide (c7<v3)) (.ite (decide (v5.fin<0)) (.grd ((decide (0≤c7))&&(decide (c7<(a.2.length:Int))))<|
    .ret ((decide ((a.2.getD c7.toNat 0)<0)),()))<|
   .ite (decide (c7<v5.fin)) (.grd ((decide (0≤c7))&&(decide (c7<(a.2.length:Int))))<|
    .ret ((decide ((a.2.getD c7.toNat 0)<0)),()))<|
   .ret (false,()))<|
  .ret (false,())) λ(u8a0,_)=>
 .ite u8a0 (.grd ((decide (0≤v4))&&(decide (v4<(v1.length:Int))))<|
  .grd ((decide (0≤c7))&&(decide (c7<(a.2.length:Int))))<|
  .ret (.next (({a.1 with held:=[]}:Recv),(a.2.set c7.toNat (IntKind.wrap .i64 (ci v1 v4.toNat))))))<|
 .ret (.next (({a.1 with held:=[]}:Recv),a.2))
noncomputable def fJ:mq.V→LC mq (Recv×List Int) (Empty) (Int×(Recv×List Int)):=λ(v0,v1,v2,v3,v4,v5,v6,v7,v8,_)=>⟨v4,(v6,v8),λv4 a=>(v0,v1,v2,v3,v4,v5,a.1,v7,a.2,()),λv4 _=>(decide (v4<(v1.length:Int))),qi v0 v1 v3 v5,up,1,(Int.toNat ((v1.length:Int)-v4)),(λp=>Empty.elim p),λi a=>(i,a),λ_ k x=>k (.exit 0) (Sh.enc ⟨[zi 1,zs 2,zb 3,zp 4 0,zp 8 1,zp 9 2,zi 10,(11,false,[.own 3])],[.box [.st .recv [.sl .arg]],.box [.st .recv [.nil .piec]],.box [.st .recv [.own 4]],.arr .i64 false true,.of false true]⟩ (v0,v1,v2,v3,v5,({x.2.1 with held:=[]}:Recv),v7,x.2.2,()))⟩
theorem GE:LS Tryz.prog vW [0] (bx 0 mq fJ):=aN st (ac uU) _ fJ [] trivial
theorem Hf {v0 v3 v4:Int}{v1:ax}{v2:Bool}{v5 v6 v7:Recv}{v8:List Int}(h0:0≤v4)(h1:(v1.length:Int)≤4611686018427387904)(h2:v3≤32)(h3:sS v1)(h4:an v5)(h5:sS v8)(h6:an v6∧v8.length=v8.length∧v8.length=33):(fJ (v0,v1,v2,v3,v4,v5,v6,v7,v8,())).U (v1.length:Int) (λv4 a=>an a.1∧a.2.length=v8.length∧a.2.length=33) (λ_=>True):=
 LC.okU (i:=v4) (a:=(v6,v8)) (λ_ _=>rfl) (λ_=>rfl) rfl h0 h1 h6 λv4 (v6,v8) hj hk hv=>by
  refine Tr.V λ_ _=>Tr.V λ_ _=>Tr.B (Q':=λ_=>True) (Tr.I (λ_=>Tr.I (λ_=>Tr.G2 ?_ λ_=>Tr.R trivial) λ_=>Tr.I (λ_=>Tr.G2 ?_ λ_=>Tr.R trivial) λ_=>Tr.R trivial) λ_=>Tr.R trivial) (λ(u8a0,_) _ _=>Tr.I (λ_=>Tr.G2 ?_ λ_=>Tr.G2 ?_ λ_=>Tr.Rn ?_) λ_=>Tr.Rn ?_)
  all_goals ((try simp only[Tr.nice,bu]at*)<;>grind)
noncomputable def jL (v4:List Int)(v0:Int)(a:Recv×List Int):Tr (Stp (Recv×List Int) ((Int×Recv×List Int))):=
 .grd ((decide (0≤v0))&&(decide (v0<(v4.length:Int))))<|
 .ite (decide (0≤(v4.getD v0.toNat 0))) (.grd ((decide (0≤v0))&&(decide (v0<(v4.length:Int))))<|
  .grd (Nat.ble ((2*(a.2.length+1)+1024)*1) aF)<|
  .ret (.next (({a.1 with held:=[]}:Recv),(a.2++[(IntKind.wrap .u8 (v4.getD v0.toNat 0))]))))<|
 .ret (.out (v0,({a.1 with held:=[]}:Recv),a.2))
noncomputable def eG:lV.V→LC lV (Recv×List Int) ((Int×Recv×List Int)) (((Int×Recv×List Int))⊕(Int×(Recv×List Int))):=λ(v0,v1,v2,v3,v4,v5,_)=>⟨v0,(v2,v5),λv0 a=>(v0,v1,a.1,v3,v4,a.2,()),λv0 _=>(decide (v0<(v4.length:Int))),jL v4,up,1,(Int.toNat ((v4.length:Int)-v0)),.inl,λi a=> .inr (i,a),λ_ k w=>Sum.elim (λp=>k (.exit 2) (Sh.enc ⟨[zp 4 0,zp 8 1,zp 9 2,(11,false,[.own 3]),zi 15,(16,false,[.own 4])],[.box [.st .recv [.sl .arg]],.box [.st .recv [.nil .piec]],.box [.st .recv [.own 5]],.arr .i64 false true,.arr .u8 false true,.of false true]⟩ (p.1,v1,p.2.1,v3,v4,p.2.2,()))) (λx=>k (.exit 2) (Sh.enc ⟨[zp 4 0,zp 8 1,zp 9 2,(11,false,[.own 3]),zi 15,(16,false,[.own 4])],[.box [.st .recv [.sl .arg]],.box [.st .recv [.nil .piec]],.box [.st .recv [.own 5]],.arr .i64 false true,.arr .u8 false true,.of false true]⟩ (x.1,v1,({x.2.1 with held:=[]}:Recv),v3,v4,x.2.2,()))) w⟩
theorem Gf:LS Tryz.prog vW [1] (bx 2 lV eG):=aN st (ac uU) _ eG [] trivial
theorem Gk {v0:Int}{v1 v2 v3:Recv}{v4 v5:List Int}(h0:0≤v0)(h1:(v4.length:Int)≤4611686018427387904)(h2:sS v4)(h3:an v2∧(v5.length:Int)=v0):(eG (v0,v1,v2,v3,v4,v5,())).U (v4.length:Int) (λv0 a=>an a.1∧(a.2.length:Int)=v0) (λp=>an p.2.1∧sS p.2.2∧v0≤p.1∧p.1<(v4.length:Int)∧p.2.2.length≤v4.length):=
 LC.okU (i:=v0) (a:=(v2,v5)) (λ_ _=>rfl) (λ_=>rfl) rfl h0 h1 h3 λv0 (v2,v5) hj hk hv=>by
  refine Tr.G2 ?_ λ_=>Tr.I (λ_=>Tr.G2 ?_ λ_=>Tr.Gb ?_ λ_=>Tr.Rn ?_) λ_=>Tr.Ro ?_
  all_goals (grind)
noncomputable def pa:FT (Recv×Int×ax×Bool×Unit) (Recv) (λx=>an x.1∧sS x.2.2.1) (λx v=>an v∧(v.held.length:Int)≤max x.1.held.length 3):=⟨λ(x0,x1,x2,x3,_)=>
  .cal dJ.c (x0,()) λc1=>
  .bnd (β:=Bool×Unit) (.cal kb.c (x0,()) λc2=>
   .ite (!c2) (.ret (true,()))<|
   .ret (x0.done,())) λ(u3a0,_)=>
  .ite u3a0 (.ret c1)<|
  .cal gy.c (x0,()) λc4=>
  .cal tz.c (x0,()) λc5=>
  .lp (fJ (x1,x2,x3,c4,0,x0,(⟨0,[],[],0,false⟩:Recv),c1,c5,())).lp λ(_,a9_0,a9_1)=>
  .val (bg.f (x1,(x2.length:Int),())) λc10=>
  .val (bF.f ((IntKind.wrap .i64 (c10-x0.next)),())) λc11=>
  .bnd (β:=Bool×Unit) (.ite x3 (.ite (decide (x0.fin<0)) (.ite (decide (c11≤c4)) (.cal rV.c (a9_1,c11,()) λc12=>
      .ret (c12,()))<|
     .ret (false,()))<|
    .ret (false,()))<|
   .ret (false,())) λ(u13a0,_)=>
  .bnd (β:=WT uC.es) (.ite u13a0 (.ret (x0,({({a9_0 with held:=[]}:Recv)with held:=[]}:Recv),({c1 with fin:=c11}:Recv),a9_1,()))<|
   .ret (x0,({({a9_0 with held:=[]}:Recv)with held:=[]}:Recv),c1,a9_1,())) λ(u14a0,u14a1,u14a2,u14a3,_)=>
  .lp (eG (0,u14a0,({u14a1 with held:=[]}:Recv),u14a2,u14a3,[],())).lp λw15=> .sum w15 (λ(p15a0,p15a1,p15a2)=>
  .grd (Nat.ble (u14a0.data.length+(ar p15a2).length) dq)<|
  .val (bg.f (u14a0.next,p15a0,())) λc16=>
  .cal nV.c (u14a3,p15a0,()) λc17=>
  .bnd (β:=WT m9.es) (.ite (decide (0≤u14a2.fin)) (.ret (u14a0,({p15a1 with held:=[]}:Recv),(⟨c16,(u14a0.data++(ar p15a2)),c17,(IntKind.wrap .i64 (u14a2.fin-p15a0)),u14a2.done⟩:Recv),()))<|
   .ret (u14a0,({p15a1 with held:=[]}:Recv),(⟨c16,(u14a0.data++(ar p15a2)),c17,u14a2.fin,u14a2.done⟩:Recv),())) λ(u18a0,_,u18a2,_)=>
  .ite (u18a2.fin==0) (.val (bg.f (u18a2.next,1,())) λc19=>
   .ite (decide (3<(u18a2.held.length:Int))) (.cal dJ.c (u18a0,()) λc20=>
    .ret c20)<|
   .ret (⟨c19,u18a2.data,u18a2.held,(-1),true⟩:Recv))<|
  .ite (decide (3<(u18a2.held.length:Int))) (.cal dJ.c (u18a0,()) λc21=>
   .ret c21)<|
  .ret u18a2)<|
  λ(n15,a15_0,a15_1)=>
  .grd (Nat.ble (u14a0.data.length+(ar a15_1).length) dq)<|
  .val (bg.f (u14a0.next,n15,())) λc22=>
  .cal nV.c (u14a3,n15,()) λc23=>
  .bnd (β:=WT m9.es) (.ite (decide (0≤u14a2.fin)) (.ret (u14a0,({({a15_0 with held:=[]}:Recv)with held:=[]}:Recv),(⟨c22,(u14a0.data++(ar a15_1)),c23,(IntKind.wrap .i64 (u14a2.fin-n15)),u14a2.done⟩:Recv),()))<|
   .ret (u14a0,({({a15_0 with held:=[]}:Recv)with held:=[]}:Recv),(⟨c22,(u14a0.data++(ar a15_1)),c23,u14a2.fin,u14a2.done⟩:Recv),())) λ(u24a0,_,u24a2,_)=>
  .ite (u24a2.fin==0) (.val (bg.f (u24a2.next,1,())) λc25=>
   .ite (decide (3<(u24a2.held.length:Int))) (.cal dJ.c (u24a0,()) λc26=>
    .ret c26)<|
   .ret (⟨c25,u24a2.data,u24a2.held,(-1),true⟩:Recv))<|
  .ite (decide (3<(u24a2.held.length:Int))) (.cal dJ.c (u24a0,()) λc27=>
   .ret c27)<|
  .ret u24a2,
 λ(x0,x1,x2,x3,_) hp=>by
  refine Tr.C ?_ λc1 hc1 qc1=>Tr.B (Q':=λw=>(w.1=false→RO x0)) (Tr.C ?_ λc2 hc2 qc2=>Tr.I (λb0=>Tr.R ?_) λb0=>Tr.R ?_) (λ(u3a0,_) hj3 qj3=>Tr.I (λb0=>Tr.R ?_) λb0=>Tr.C ?_ λc4 hc4 qc4=>Tr.C ?_ λc5 hc5 qc5=>Tr.L (Hf ?_ ?_ ?_ ?_ ?_ ?_ ?_) (λ(a9_0,a9_1) i9=>Tr.V λc10 hc10=>Tr.V λc11 hc11=>Tr.B (Q':=λ_=>True) (Tr.I (λb1=>Tr.I (λb2=>Tr.I (λb3=>Tr.C ?_ λc12 hc12 qc12=>Tr.R trivial) λb3=>Tr.R trivial) λb2=>Tr.R trivial) λb1=>Tr.R trivial) (λ(u13a0,_) hj13 qj13=>Tr.B (Q':=λw=>an w.1∧an w.2.1∧an w.2.2.1∧sS w.2.2.2.1∧w.1=x0∧w.2.2.2.1.length=33∧w.1.data.length≤32) (Tr.I (λb1=>Tr.R ?_) λb1=>Tr.R ?_) (λ(u14a0,u14a1,u14a2,u14a3,_) hj14 qj14=>Tr.L (Gk ?_ ?_ ?_ ?_) (λ(a15_0,a15_1) i15=>Tr.Sr (Tr.Gb ?_ λg1=>Tr.V λc22 hc22=>Tr.C ?_ λc23 hc23 qc23=>Tr.B (Q':=λw=>an w.1∧an w.2.1∧an w.2.2.1∧w.1=x0) (Tr.I (λb2=>Tr.R ?_) λb2=>Tr.R ?_) (λ(u24a0,u24a1,u24a2,_) hj24 qj24=>Tr.I (λb2=>Tr.V λc25 hc25=>Tr.I (λb3=>Tr.C ?_ λc26 hc26 qc26=>Tr.R ?_) λb3=>Tr.R ?_) λb2=>Tr.I (λb3=>Tr.C ?_ λc27 hc27 qc27=>Tr.R ?_) λb3=>Tr.R ?_))) (λ(p15a0,p15a1,p15a2) hp15=>Tr.Sl (Tr.Gb ?_ λg1=>Tr.V λc16 hc16=>Tr.C ?_ λc17 hc17 qc17=>Tr.B (Q':=λw=>an w.1∧an w.2.1∧an w.2.2.1∧w.1=x0) (Tr.I (λb2=>Tr.R ?_) λb2=>Tr.R ?_) (λ(u18a0,u18a1,u18a2,_) hj18 qj18=>Tr.I (λb2=>Tr.V λc19 hc19=>Tr.I (λb3=>Tr.C ?_ λc20 hc20 qc20=>Tr.R ?_) λb3=>Tr.R ?_) λb2=>Tr.I (λb3=>Tr.C ?_ λc21 hc21 qc21=>Tr.R ?_) λb3=>Tr.R ?_)))))) (λp=>Empty.elim p))
  all_goals ((try simp only[fJ,eG,LC.lp,LC.ct,Ct.lp,Tr.nice,bu]at*)<;>grind)⟩
noncomputable def Dt:=aZ st vW uU [(bx 0 mq fJ),(bx 2 lV eG)] (ks:=[.st .recv,.sc (.int .i64),.sc .str,.sc .bool]) pa (λv=>[(true,sT (.o true) v)]) Tryz.func435 ⟨GE,Gf,trivial⟩
noncomputable def Bg:=[cW,tC]
def kP:Sh:=⟨[zi 0,zi 1,zi 2,zi 3,zi 9],[]⟩
noncomputable def Ac:Fx:=⟨444,Tryz.f444,[(0,lb [0,1,2,3,9] [8])],0⟩
noncomputable def iT (v0 v2 v3:Int)(v4:Int)(a:Unit):Tr (Stp (Unit) ((Unit)⊕(Unit))):=
 .ite (decide (v4<65536)) (.val (bg.f (v0,v4,())) λc1=>
  .val (nr.f (c1,v2,v3,())) λc2=>
  .ite c2 (.ret (.out (.inl ())))<|
  .ret (.next ()))<|
 .ret (.out (.inr (())))
noncomputable def eY:kP.V→LC kP (Unit) ((Unit)⊕(Unit)) (((Unit)⊕(Unit))⊕(Int×Unit)):=λ(v0,v1,v2,v3,v4,_)=>⟨v4,(),λv4 _=>(v0,v1,v2,v3,v4,()),λv4 _=>(decide (v4<v1)),iT v0 v2 v3,up,1,(Int.toNat (v1-v4)),.inl,λi a=> .inr (i,a),λ_ k w=>Sum.elim (λq=>Sum.elim (λ_=>k .ret (Sh.enc ⟨[zb 8],[]⟩ (true,()))) (λ_=>k (.exit 0) (Sh.enc ⟨[zu 8],[]⟩ ())) q) (λ_=>k (.exit 0) (Sh.enc ⟨[zu 8],[]⟩ ())) w⟩
theorem E9:LS Tryz.prog Ac [0] (bx 0 kP eY):=aN st (ac Bg) _ eY [] trivial
theorem Fh {v0 v1 v2 v3 v4:Int}(h0:0≤v4)(h1:v1≤4611686018427387904):(eY (v0,v1,v2,v3,v4,())).U v1 (λ_ _=>True) (λ_=>True):=
 LC.okU (i:=v4) (a:=()) (λ_ _=>rfl) (λ_=>rfl) rfl h0 h1 trivial λv4 _ hj hk hv=>Tr.Z (by kernel_rfl)
noncomputable def sP:FT (Int×Int×Int×Int×Unit) (Bool) (λx=>x.2.1≤4611686018427387904) (λ_ _=>True):=⟨λ(x0,x1,x2,x3,_)=>
  .lp (eY (x0,x1,x2,x3,0,())).lp λw3=> .sum w3 (λq3=> .sum q3 (λ_=>
  .ret true)<|
  λ_=>
  .ret false)<|
  λ_=>
  .ret false,
 λ(x0,x1,x2,x3,_) hp=>by
  refine Tr.L (Fh ?_ ?_) (λ_ _=>Tr.Sr (Tr.R trivial)) (Tr.W2 (λ_ _=>Tr.Sl (Tr.Sl (Tr.R trivial))) (λ_ _=>Tr.Sl (Tr.Sr (Tr.R trivial))))
  all_goals ((try simp only[eY,LC.lp,LC.ct,Ct.lp]at*)<;>grind)⟩
noncomputable def NI:=aZ st Ac Bg [(bx 0 kP eY)] (ks:=[.sc (.int .i64),.sc (.int .i64),.sc (.int .i64),.sc (.int .i64)]) sP (λv=>[(false,[.c (.bool v)])]) Tryz.func444 ⟨E9,trivial⟩
noncomputable def BC:=[PZ]
def kS:Sh:=⟨[(0,false,[.sl .arg .piec]),(1,false,[.sl .arg .piec]),zi 5],[]⟩
noncomputable def zL:Fx:=⟨449,Tryz.f449,[(0,lb [0,1,5] [4])],0⟩
noncomputable def ut (v0 v1:List Piec)(v2:Int)(a:Unit):Tr (Stp (Unit) ((Unit))):=
 .grd ((decide (0≤v2))&&(decide (v2<(v0.length:Int))))<|
 .grd ((decide (0≤v2))&&(decide (v2<(v1.length:Int))))<|
 .val (wQ.f ((v0.getD v2.toNat (Ty.zero .piec)),(v1.getD v2.toNat (Ty.zero .piec)),())) λc1=>
 .ite (!c1) (.ret (.out ()))<|
 .ret (.next ())
noncomputable def eU:kS.V→LC kS (Unit) ((Unit)) (((Unit))⊕(Int×Unit)):=λ(v0,v1,v2,_)=>⟨v2,(),λv2 _=>(v0,v1,v2,()),λv2 _=>(decide (v2<(v0.length:Int))),ut v0 v1,up,1,(Int.toNat ((v0.length:Int)-v2)),.inl,λi a=> .inr (i,a),λ_ k w=>Sum.elim (λ_=>k .ret (Sh.enc ⟨[zb 4],[]⟩ (false,()))) (λ_=>k (.exit 0) (Sh.enc ⟨[zu 4],[]⟩ ())) w⟩
theorem Fb:LS Tryz.prog zL [0] (bx 0 kS eU):=aN st (ac BC) _ eU [] trivial
theorem ES {v0 v1:List Piec}{v2:Int}(h0:0≤v2)(h1:(v0.length:Int)≤4611686018427387904)(h2:(v0.length:Int)≤(v1.length:Int)):(eU (v0,v1,v2,())).U (v0.length:Int) (λ_ _=>True) (λ_=>True):=
 LC.okU (i:=v2) (a:=()) (λ_ _=>rfl) (λ_=>rfl) rfl h0 h1 trivial λv2 _ hj hk hv=>by
  refine Tr.G2 ?_ λ_=>Tr.G2 ?_ λ_=>Tr.Z (by kernel_rfl)
  all_goals (grind)
noncomputable def tH:FT (List Piec×List Piec×Unit) (Bool) (λx=>sL ge x.1∧sL ge x.2.1) (λ_ _=>True):=⟨λ(x0,x1,_)=>
  .ite ((x0.length:Int) != (x1.length:Int)) (.ret false)<|
  .lp (eU (x0,x1,0,())).lp λw2=> .sum w2 (λ_=>
  .ret false)<|
  λ_=>
  .ret true,
 λ(x0,x1,_) hp=>by
  refine Tr.I (λ_=>Tr.R trivial) λ_=>Tr.L (ES ?_ ?_ ?_) (λ_ _=>Tr.Sr (Tr.R trivial)) (λ_ _=>Tr.Sl (Tr.R trivial))
  all_goals ((try simp only[eU,LC.lp,LC.ct,Ct.lp]at*)<;>grind)⟩
noncomputable def My:=aZ st zL BC [(bx 0 kS eU)] (ks:=[.sc (.sl .piec),.sc (.sl .piec)]) tH (λv=>[(false,[.c (.bool v)])]) Tryz.func449 ⟨Fb,trivial⟩
noncomputable def jJ:FT (Sipr×Unit) (Sipr) (λ_=>True) (λ_ _=>True):=⟨λ(x0,_)=>
  .cal cO.c (x0.b,13,()) λc1=>
  .cal cO.c ((IntKind.wrap .u64 (x0.a+x0.b)),32,()) λc2=>
  .cal cO.c (x0.d,16,()) λc3=>
  .val (IntKind.wrap .u64 (c2+(bits .xor .u64 c3 (IntKind.wrap .u64 (x0.c+x0.d))))) λe4=>
  .cal cO.c ((bits .xor .u64 c3 (IntKind.wrap .u64 (x0.c+x0.d))),21,()) λc5=>
  .val (IntKind.wrap .u64 ((IntKind.wrap .u64 (x0.c+x0.d))+(bits .xor .u64 c1 (IntKind.wrap .u64 (x0.a+x0.b))))) λe6=>
  .cal cO.c ((bits .xor .u64 c1 (IntKind.wrap .u64 (x0.a+x0.b))),17,()) λc7=>
  .cal cO.c (e6,32,()) λc8=>
  .ret (⟨e4,(bits .xor .u64 c7 e6),c8,(bits .xor .u64 c5 e4)⟩:Sipr),
 λ(x0,_) hp=>by
  refine Tr.C trivial λ_ _ _=>Tr.C trivial λ_ _ _=>Tr.C trivial λ_ _ _=>Tr.V λ_ _=>Tr.C trivial λ_ _ _=>Tr.V λ_ _=>Tr.C trivial λ_ _ _=>Tr.C trivial λ_ _ _=>Tr.R trivial⟩
noncomputable def zM:=bi st Tryz.func455 [A2] (ks:=[.st .sipr]) jJ (λv=>[(true,Cg v)])
noncomputable def gv:FT (Int×Int×List Bool×List Int×Unit) (List Bool×List Int) (λx=>sS x.2.2.1∧sS x.2.2.2.1∧0≤x.1∧x.1<x.2.2.1.length∧x.2.2.1.length=x.2.2.2.1.length) (λx v=>sS v.1∧sS v.2∧v.1.length=x.2.2.1.length∧v.2.length=x.2.2.2.1.length):=⟨λ(x0,x1,y2,y3,_)=>
  .grd ((decide (0≤x0))&&(decide (x0<(y2.length:Int))))<|
  .ite (!(y2.getD x0.toNat false)) (.grd ((decide (0≤x0))&&(decide (x0<(y2.length:Int))))<|
   .grd ((decide (0≤x0))&&(decide (x0<(y3.length:Int))))<|
   .ret ((y2.set x0.toNat true),(y3.set x0.toNat x1)))<|
  .ret (y2,y3),
 λ(x0,x1,y2,y3,_) hp=>by
  refine Tr.G2 ?_ λ_=>Tr.I (λ_=>Tr.G2 ?_ λ_=>Tr.G2 ?_ λ_=>Tr.R ?_) λ_=>Tr.R ?_
  all_goals (grind)⟩
noncomputable def E3:=cI st ⟨426,Tryz.f426,[],4⟩ [] [] [.sc (.int .i64),.sc (.int .u8),.wr false [.ptr 1],.wr false [.ptr 3]] [.arr .bool,.box [.own 0],.arr .u8,.box [.own 2]] (λx y=>(x.1,x.2.1,y.1,y.2.2.1,())) gv (λv=>[]) (λx y v=>(v.1,(()),v.2,(()),())) Tryz.func426 (by kernel_rfl) trivial
noncomputable def pP:FT (Door×Door×Unit) (Bool) (λx=>am x.1∧am x.2.1) (λ_ _=>True):=⟨λ(x0,x1,_)=>
  .ite (x0.port==x1.port) (.ite (x0.clock==x1.clock) (.cal tP.c (x0.keys,x1.keys,()) λc1=>
    .ite c1 (.ite ((x0.limits.halves==x1.limits.halves)&&((x0.limits.waiting==x1.limits.waiting)&&((x0.limits.conns==x1.limits.conns)&&((x0.limits.chal==x1.limits.chal)&&true)))) (.cal mt.c (x0.halves,x1.halves,()) λc2=>
      .ite c2 (.cal qL.c (x0.table,x1.table,()) λc3=>
       .ite c3 (.ret (x0.chal==x1.chal))<|
       .ret false)<|
      .ret false)<|
     .ret false)<|
    .ret false)<|
   .ret false)<|
  .ret false,
 λ(x0,x1,_) hp=>by
  refine Tr.I (λ_=>Tr.I (λ_=>Tr.C ?_ λ_ _ _=>Tr.I (λ_=>Tr.I (λ_=>Tr.C ?_ λ_ _ _=>Tr.I (λ_=>Tr.C ?_ λ_ _ _=>Tr.F (by kernel_rfl) trivial) λ_=>Tr.R trivial) λ_=>Tr.R trivial) λ_=>Tr.R trivial) λ_=>Tr.R trivial) λ_=>Tr.R trivial
  all_goals (grind)⟩
noncomputable def MD:=bi st Tryz.func19 [Mm,vT,JW] (ks:=[.st .door,.st .door]) pP (λv=>[(false,[.c (.bool v)])])
noncomputable def pH:FT (Clie×Unit) (Bool) (λ_=>True) (λ_ _=>True):=⟨λ(x0,_)=>
  .cal lD.c (x0.tuple,()) λc1=>
  .ite c1 (.cal gZ.c (x0.opts,()) λc2=>
   .ite c2 (.cal aL.c (x0.isn,32,()) λc3=>
    .ite c3 (.cal aL.c (x0.window,16,()) λc4=>
     .ret c4)<|
    .ret false)<|
   .ret false)<|
  .ret false,
 λ(x0,_) hp=>by
  refine Tr.C trivial λ_ _ _=>Tr.I (λ_=>Tr.C trivial λ_ _ _=>Tr.I (λ_=>Tr.C trivial λ_ _ _=>Tr.I (λ_=>Tr.C trivial λ_ _ _=>Tr.R trivial) λ_=>Tr.R trivial) λ_=>Tr.R trivial) λ_=>Tr.R trivial⟩
noncomputable def zv:=bi st Tryz.func22 [n9,kt,cq] (ks:=[.st .clie]) pH (λv=>[(false,[.c (.bool v)])])
noncomputable def fD:FT (Opti×Unit) (Opti) (λ_=>True) (λ_ _=>True):=⟨λ(x0,_)=>
  .val (bG.f (())) λc1=>
  .val (ng.f (x0,())) λc2=>
  .cal iq.c (c2,()) λc3=>
  .cal fu.c (c3,()) λc4=>
  .ite x0.stamp (.val (bM.f (x0.val,1,())) λc5=>
   .ret (⟨c4,x0.scale,x0.sack,true,c5,c1.echo⟩:Opti))<|
  .ret ({c1 with mss:=c4}:Opti),
 λ(x0,_) hp=>by
  refine Tr.V λ_ _=>Tr.V λ_ _=>Tr.C trivial λ_ _ _=>Tr.C trivial λ_ _ _=>Tr.F (by kernel_rfl) trivial⟩
noncomputable def QO:=bi st Tryz.func24 [gD,C8,zG,CN,fH] (ks:=[.st .opti]) fD (λv=>[(true,pS v)])
noncomputable def wM:FX (Mac×Int×Unit) (Int) (λ_=>True) (lx [.st .mac,.sc (.int .i64)]):=⟨λ(x0,x1,_)=>
  .cal hU.c (x0.rows,x1,()) λc1=>
  .ite (decide (c1<0)) (.ret (-1))<|
  .ret c1,
 λ(x0,x1,_) hp hf=>by
  simp only[lx,Pk.fact,xS,sr,Fl.fact,Ty.fl,Ty.toH]at hf
  refine Tr.C trivial λ_ _ _=>Tr.F (by kernel_rfl) trivial⟩
theorem PG (x:Mac)(hl:x.rows.length≤140737488355328)(he:elF .macRow x.rows)(h:0≤wM.f (x,1048576,())):bv x∧x.rows.length≤1048576:=by
 have e:wM.f (x,1048576,())=bif decide (hU.f (x.rows,1048576,())<0)then-1 else hU.f (x.rows,1048576,()):=by simp only[FX.f,PX,wM]
 rw[e]at h
 have:0≤hU.f (x.rows,1048576,()):=by
  by_cases c:hU.f (x.rows,1048576,())<0
  ·rw[decide_eq_true c,cond_true]at h;omega
  ·omega
 have h2:=Na x.rows 1048576 (by omega) (by omega) hl he this
 exact⟨by unfold bv;exact h2.1,h2.2⟩
noncomputable def Vs:=YG st Tryz.func38 [Ke] (ks:=[.st .mac,.sc (.int .i64)]) wM (λv=>[(false,[.c (.int .i64 v)])])
noncomputable def sW:FT (Mac×Unit) (Mac) (λx=>bv x.1) (λx v=>bv v):=⟨λ(x0,_)=>
  .cal qy.c (x0.rows,()) λc1=>
  .ret ({x0 with rows:=c1}:Mac),
 λ(x0,_) hp=>by
  refine Tr.C ?_ λ_ _ _=>Tr.R ?_
  all_goals (grind)⟩
noncomputable def UX:=bi st Tryz.func41 [Ka] (ks:=[.st .mac]) sW (λv=>[(true,DJ (.o true) v)])
noncomputable def ww:FT (Mac×Mac×Unit) (Bool) (λx=>bv x.1∧bv x.2.1) (λ_ _=>True):=⟨λ(x0,x1,_)=>
  .ite (!(x0.use==x1.use)) (.ret false)<|
  .ite (x0.k != x1.k) (.ret false)<|
  .ite (x0.l != x1.l) (.ret false)<|
  .cal qT.c (x0.rows,x1.rows,()) λc1=>
  .ite (!c1) (.ret false)<|
  .ret true,
 λ(x0,x1,_) hp=>by
  refine Tr.I (λ_=>Tr.R trivial) λ_=>Tr.I (λ_=>Tr.R trivial) λ_=>Tr.I (λ_=>Tr.R trivial) λ_=>Tr.C ?_ λ_ _ _=>Tr.F (by kernel_rfl) trivial
  all_goals (grind)⟩
noncomputable def Le:=bi st Tryz.func44 [JT] (ks:=[.st .mac,.st .mac]) ww (λv=>[(false,[.c (.bool v)])])
noncomputable def sk:FT (Mac×Int×Unit) (Int×List MacRow) (λx=>bv x.1∧x.2.1≤9223372036854775807) (λx v=>sL ay v.2∧v.1≤9223372036854775807):=⟨λ(x0,x1,_)=>
  .cal jc.c (x0.rows,x1,()) λc1=>
  .ret (c1.1,c1.2),
 λ(x0,x1,_) hp=>by
  refine Tr.C ?_ λ_ _ _=>Tr.R ?_
  all_goals (grind)⟩
noncomputable def DX:=cI st ⟨45,Tryz.f45,[],1⟩ [EK] [] [.wr true [.c .bool,.c (.int .u64),.c (.int .u64),.own 0],.sc (.int .i64)] [.arr .macRow] (λx y=>((⟨x.1.1,x.1.2.1,x.1.2.2.1,y.1⟩:Mac),x.2.1,())) sk (λv=>[(false,[.c (.int .i64 v.1)])]) (λx y v=>(v.2,())) Tryz.func45 (by kernel_rfl) trivial
noncomputable def xo:FT (Tabl×Unit) (Tabl×Tupl×Bool) (λx=>bh x.1) (λx v=>bh v.1∧v.1.conns.length=x.1.conns.length∧v.1.waiting.length≤x.1.waiting.length):=⟨λ(x0,_)=>
  .cal lq.c (x0,()) λc1=>
  .ite ((x0.waiting.length:Int)==0) (.ret (c1,(⟨0,0,0⟩:Tupl),false))<|
  .grd ((decide (1≤(x0.waiting.length:Int)))&&(decide ((x0.waiting.length:Int)≤(x0.waiting.length:Int))))<|
  .grd (Nat.ble ((2*(0+((x0.waiting.take ((x0.waiting.length:Int).toNat)).drop 1).length)+1024)*24) aF)<|
  .grd (decide (0<(x0.waiting.length:Int)))<|
  .ret ((⟨c1.conns,([]++((x0.waiting.take ((x0.waiting.length:Int).toNat)).drop 1))⟩:Tabl),(x0.waiting.getD 0 (Ty.zero .tupl)),true),
 λ(x0,_) hp=>by
  refine Tr.C ?_ λ_ _ _=>Tr.I (λ_=>Tr.R ?_) λ_=>Tr.G2 ?_ λ_=>Tr.Gb ?_ λ_=>Tr.G1 ?_ λ_=>Tr.R ?_
  all_goals (grind)⟩
noncomputable def Fn:=bi st Tryz.func55 [qR] (ks:=[.st .tabl]) xo (λv=>[(true,tJ (.o true) (.o true) v.1),(true,Gq v.2.1),(false,[.c (.bool v.2.2)])])
noncomputable def Av:FT (Link×Unit) (Bool) (λx=>nD x.1) (λ_ _=>True):=⟨λ(x0,_)=>
  .cal aL.c (x0.mac,48,()) λc1=>
  .ite c1 (.ite (x0.mac != 281474976710655) (.cal aL.c (x0.ip,32,()) λc2=>
    .ite c2 (.cal wW.c (x0.cache,()) λc3=>
     .ret c3)<|
    .ret false)<|
   .ret false)<|
  .ret false,
 λ(x0,_) hp=>by
  refine Tr.C trivial λ_ _ _=>Tr.I (λ_=>Tr.I (λ_=>Tr.C trivial λ_ _ _=>Tr.I (λ_=>Tr.C ?_ λ_ _ _=>Tr.R trivial) λ_=>Tr.R trivial) λ_=>Tr.R trivial) λ_=>Tr.R trivial
  all_goals (grind)⟩
noncomputable def RB:=bi st Tryz.func64 [cq,Qq] (ks:=[.st .link]) Av (λv=>[(false,[.c (.bool v)])])
noncomputable def nQ:FT (Int×Unit) (Int×Int×Int) (λ_=>True) (λ_ _=>True):=⟨λ(x0,_)=>
  .cal aL.c (x0,32,()) λc1=>
  .ite (!c1) (.ret ((-1),(-1),(-1)))<|
  .ret ((IntKind.wrap .i64 (x0.tdiv 134217728)),((IntKind.wrap .i64 (x0.tdiv 16777216)).tmod 8),(x0.tmod 16777216)),
 λ(x0,_) hp=>by
  refine Tr.C trivial λ_ _ _=>Tr.F (by kernel_rfl) trivial⟩
noncomputable def Er:=bi st Tryz.func65 [cq] (ks:=[.sc (.int .i64)]) nQ (λv=>[(false,[.c (.int .i64 v.1)]),(false,[.c (.int .i64 v.2.1)]),(false,[.c (.int .i64 v.2.2)])])
noncomputable def SV:=[cq,KK,C2]
noncomputable def Su:Fx:=⟨66,Tryz.f66,[(3000001,rA 0 18)],0⟩
noncomputable def sy:FT (Keys×Unit) (Bool) (λx=>bE x.1) (λx v=>(v=true→0≤x.1.epoch∧x.1.epoch≤4294967295)):=⟨λ(x0,_)=>
  .bnd (β:=Bool×Unit) (.cal aL.c (x0.epoch,32,()) λc1=>
   .ite (!c1) (.ret (true,()))<|
   .cal we.c (x0.now,()) λc2=>
   .ite (!c2) (.ret (true,()))<|
   .cal we.c (x0.before,()) λc3=>
   .ret ((!c3),())) λ(u4a0,_)=>
  .ite u4a0 (.ret false)<|
  .ite x0.two (.ret (decide (1≤x0.epoch)))<|
  .cal ly.c (x0.before,(⟨false,0,0,[]⟩:Mac),()) λc5=>
  .ret c5,
 λ(x0,_) hp=>by
  refine Tr.B (Q':=λw=>(w.1=false→x0.now.rows.length≤64∧x0.before.rows.length≤64)) (Tr.C trivial λ_ _ _=>Tr.I (λ_=>Tr.R ?_) λ_=>Tr.C ?_ λ_ _ _=>Tr.I (λ_=>Tr.R ?_) λ_=>Tr.C ?_ λ_ _ _=>Tr.R ?_) (λ(u4a0,_) _ _=>Tr.I (λ_=>Tr.R ?_) λ_=>Tr.I (λ_=>Tr.R ?_) λ_=>Tr.C ?_ λ_ _ _=>Tr.R ?_)
  all_goals ((try simp only[Tr.nice,bu]at*)<;>grind)⟩
noncomputable def yA:=aZ st Su SV [] (ks:=[.st .keys]) sy (λv=>[(false,[.c (.bool v)])]) Tryz.func66 trivial
noncomputable def cU:FT (Clie×Unit) (Bool) (λ_=>True) (λ_ _=>True):=⟨λ(x0,_)=>
  .cal aD.c (x0.tuple,()) λc1=>
  .ite c1 (.cal aq.c (x0.opts,()) λc2=>
   .ite c2 (.cal ai.c (x0.isn,32,()) λc3=>
    .ite c3 (.cal ai.c (x0.window,16,()) λc4=>
     .ret c4)<|
    .ret false)<|
   .ret false)<|
  .ret false,
 λ(x0,_) hp=>by
  refine Tr.C trivial λ_ _ _=>Tr.I (λ_=>Tr.C trivial λ_ _ _=>Tr.I (λ_=>Tr.C trivial λ_ _ _=>Tr.I (λ_=>Tr.C trivial λ_ _ _=>Tr.R trivial) λ_=>Tr.R trivial) λ_=>Tr.R trivial) λ_=>Tr.R trivial⟩
noncomputable def MK:=bi st Tryz.func74 [lG,kB,cx] (ks:=[.st .clie]) cU (λv=>[(false,[.c (.bool v)])])
noncomputable def dj:FT (Conn×Unit) (Conn) (λx=>aa x.1) (λx v=>aa v∧v=x.1):=⟨λ(x0,_)=>
  .cal iY.c (x0.r,()) λc1=>
  .ret ({x0 with r.next:=c1.next,r.data:=c1.data,r.held:=c1.held,r.fin:=c1.fin,r.done:=c1.done}:Conn),
 λ(x0,_) hp=>by
  refine Tr.C ?_ λc1 hc1 qc1=>Tr.R ?_
  all_goals ((first|grind|(refine⟨by grind, ?_⟩;first|(simp only[List.nil_append];done)|(subst_vars;rfl)|simp_all)))⟩
noncomputable def fw:=bi st Tryz.func81 [qZ] (ks:=[.st .conn]) dj (λv=>[(true,gO (.o true) v)])
noncomputable def dh:FT (Door×Unit) (Door) (λx=>am x.1) (λx v=>am v∧v.table.conns.length=x.1.table.conns.length∧v.table.waiting.length=x.1.table.waiting.length∧v.halves=x.1.halves):=⟨λ(x0,_)=>
  .cal rU.c (x0.keys,()) λc1=>
  .grd (Nat.ble ((2*(0+x0.halves.length)+1024)*96) aF)<|
  .cal lq.c (x0.table,()) λc2=>
  .ret (⟨x0.port,x0.clock,c1,x0.limits,([]++x0.halves),c2,x0.chal⟩:Door),
 λ(x0,_) hp=>by
  refine Tr.C ?_ λ_ _ _=>Tr.Gb ?_ λ_=>Tr.C ?_ λ_ _ _=>Tr.R ?_
  all_goals (grind)⟩
noncomputable def g9:=bi st Tryz.func82 [DB,qR] (ks:=[.st .door]) dh (λv=>[(true,ji (.o true) (.o true) (.o true) (.o true) (.o true) v)])
noncomputable def Bh:=[n9,cq,kt,dR,j7]
def kT:Sh:=⟨[(0,false,[.sl .arg .half]),zi 3],[]⟩
noncomputable def Bv:Fx:=⟨92,Tryz.f92,[(0,lb [0,3] [0,2])],0⟩
noncomputable def eZ (v0:List Half)(v1:Int)(a:Unit):Tr (Stp (Unit) ((Unit))):=
 .grd ((decide (0≤v1))&&(decide (v1<(v0.length:Int))))<|
 .cal lD.c ((v0.getD v1.toNat (Ty.zero .half)).tuple,()) λc1=>
 .ite (!c1) (.ret (.out ()))<|
 .cal aL.c ((v0.getD v1.toNat (Ty.zero .half)).iss,32,()) λc2=>
 .ite (!c2) (.ret (.out ()))<|
 .cal aL.c ((v0.getD v1.toNat (Ty.zero .half)).irs,32,()) λc3=>
 .ite (!c3) (.ret (.out ()))<|
 .cal aL.c ((v0.getD v1.toNat (Ty.zero .half)).window,16,()) λc4=>
 .ite (!c4) (.ret (.out ()))<|
 .cal gZ.c ((v0.getD v1.toNat (Ty.zero .half)).opts,()) λc5=>
 .ite (!c5) (.ret (.out ()))<|
 .val (dk.f ((v0.getD v1.toNat (Ty.zero .half)).age,0,6,())) λc6=>
 .ite (!c6) (.ret (.out ()))<|
 .grd ((decide (0≤v1))&&(decide (v1≤(v0.length:Int))))<|
 .cal cZ.c (((v0.take v1.toNat).drop 0),(v0.getD v1.toNat (Ty.zero .half)).tuple,()) λc7=>
 .ite (decide (0≤c7)) (.ret (.out ()))<|
 .ret (.next ())
noncomputable def dN:kT.V→LC kT (Unit) ((Unit)) (((Unit))⊕(Int×Unit)):=λ(v0,v1,_)=>⟨v1,(),λv1 _=>(v0,v1,()),λv1 _=>(decide (v1<(v0.length:Int))),eZ v0,up,1,(Int.toNat ((v0.length:Int)-v1)),.inl,λi a=> .inr (i,a),λ_ k w=>Sum.elim (λ_=>k .ret (Sh.enc ⟨[(0,false,[.sl .arg .half]),zb 2],[]⟩ (v0,false,()))) (λ_=>k (.exit 0) (Sh.enc ⟨[(0,false,[.sl .arg .half]),zu 2],[]⟩ (v0,()))) w⟩
theorem El:LS Tryz.prog Bv [0] (bx 0 kT dN):=aN st (ac Bh) _ dN [] trivial
theorem EZ {v0:List Half}{v1:Int}(h0:0≤v1)(h1:(v0.length:Int)≤4611686018427387904)(h2:wS v0):(dN (v0,v1,())).U (v0.length:Int) (λ_ _=>True) (λ_=>True):=
 LC.okU (i:=v1) (a:=()) (λ_ _=>rfl) (λ_=>rfl) rfl h0 h1 trivial λv1 _ hj hk hv=>by
  refine Tr.G2 ?_ λ_=>Tr.C trivial λ_ _ _=>Tr.I (λ_=>Tr.Ro trivial) λ_=>Tr.C trivial λ_ _ _=>Tr.I (λ_=>Tr.Ro trivial) λ_=>Tr.C trivial λ_ _ _=>Tr.I (λ_=>Tr.Ro trivial) λ_=>Tr.C trivial λ_ _ _=>Tr.I (λ_=>Tr.Ro trivial) λ_=>Tr.C trivial λ_ _ _=>Tr.I (λ_=>Tr.Ro trivial) λ_=>Tr.V λ_ _=>Tr.I (λ_=>Tr.Ro trivial) λ_=>Tr.G2 ?_ λ_=>Tr.C ?_ λ_ _ _=>Tr.Z (by kernel_rfl)
  all_goals (grind)
noncomputable def nf:FT (List Half×Unit) (Bool) (λx=>wS x.1) (λx v=>(v=true→x.1.length≤64)):=⟨λ(x0,_)=>
  .lp (dN (x0,0,())).lp λw8=> .sum w8 (λ_=>
  .ret false)<|
  λ_=>
  .ret (decide ((x0.length:Int)≤64)),
 λ(x0,_) hp=>by
  refine Tr.L (EZ ?_ ?_ ?_) (λ_ _=>Tr.Sr (Tr.R ?_)) (λ_ _=>Tr.Sl (Tr.R ?_))
  all_goals ((try simp only[dN,LC.lp,LC.ct,Ct.lp]at*)<;>grind)⟩
noncomputable def z9:=aZ st Bv Bh [(bx 0 kT dN)] (ks:=[.sc (.sl .half)]) nf (λv=>[(false,[.c (.bool v)])]) Tryz.func92 ⟨El,trivial⟩
noncomputable def AC:FT (Link×Unit) (Bool) (λx=>nD x.1) (λ_ _=>True):=⟨λ(x0,_)=>
  .cal ai.c (x0.mac,48,()) λc1=>
  .ite c1 (.ite (x0.mac != 281474976710655) (.cal ai.c (x0.ip,32,()) λc2=>
    .ite c2 (.cal wO.c (x0.cache,()) λc3=>
     .ret c3)<|
    .ret false)<|
   .ret false)<|
  .ret false,
 λ(x0,_) hp=>by
  refine Tr.C trivial λ_ _ _=>Tr.I (λ_=>Tr.I (λ_=>Tr.C trivial λ_ _ _=>Tr.I (λ_=>Tr.C ?_ λ_ _ _=>Tr.R trivial) λ_=>Tr.R trivial) λ_=>Tr.R trivial) λ_=>Tr.R trivial
  all_goals (grind)⟩
noncomputable def S5:=bi st Tryz.func114 [cx,Oy] (ks:=[.st .link]) AC (λv=>[(false,[.c (.bool v)])])
noncomputable def BF:FT (Link×Link×Unit) (Bool) (λx=>nD x.1∧nD x.2.1) (λ_ _=>True):=⟨λ(x0,x1,_)=>
  .ite (x0.mac != x1.mac) (.ret false)<|
  .ite (x0.ip != x1.ip) (.ret false)<|
  .cal tv.c (x0.cache,x1.cache,()) λc1=>
  .ite (!c1) (.ret false)<|
  .ret true,
 λ(x0,x1,_) hp=>by
  refine Tr.I (λ_=>Tr.R trivial) λ_=>Tr.I (λ_=>Tr.R trivial) λ_=>Tr.C ?_ λ_ _ _=>Tr.F (by kernel_rfl) trivial
  all_goals (grind)⟩
noncomputable def Sd:=bi st Tryz.func132 [Nz] (ks:=[.st .link,.st .link]) BF (λv=>[(false,[.c (.bool v)])])
noncomputable def O0:=[DB,yA,KK,qK]
noncomputable def P3:Fx:=⟨151,Tryz.f151,[(3000002,rA 0 20)],0⟩
noncomputable def wH:FT (Keys×Mac×Unit) (Keys) (λx=>bE x.1∧bv x.2.1) (λx v=>bE v):=⟨λ(x0,x1,_)=>
  .cal rU.c (x0,()) λc1=>
  .bnd (β:=Bool×Unit) (.cal sy.c (x0,()) λc2=>
   .ite (!c2) (.ret (true,()))<|
   .cal we.c (x1,()) λc3=>
   .ite (!c3) (.ret (true,()))<|
   .ret ((x0.epoch==4294967295),())) λ(u4a0,_)=>
  .ite u4a0 (.ret c1)<|
  .cal jh.c (x1,()) λc5=>
  .cal jh.c (x0.now,()) λc6=>
  .ret (⟨(IntKind.wrap .i64 (x0.epoch+1)),c5,c6,true⟩:Keys),
 λ(x0,x1,_) hp=>by
  refine Tr.C ?_ λ_ _ _=>Tr.B (Q':=λw=>(w.1=false→0≤x0.epoch∧x0.epoch≤4294967295∧x1.rows.length≤64)) (Tr.C ?_ λ_ _ _=>Tr.I (λ_=>Tr.R ?_) λ_=>Tr.C ?_ λ_ _ _=>Tr.I (λ_=>Tr.R ?_) λ_=>Tr.R ?_) (λ(u4a0,_) _ _=>Tr.I (λ_=>Tr.R ?_) λ_=>Tr.C ?_ λ_ _ _=>Tr.C ?_ λ_ _ _=>Tr.R ?_)
  all_goals ((try simp only[Tr.nice,bu]at*)<;>grind)⟩
noncomputable def PN:=aZ st P3 O0 [] (ks:=[.st .keys,.st .mac]) wH (λv=>[(true,yE (.o true) (.o true) v)]) Tryz.func151 trivial
noncomputable def Mo:=[n9,cq,dR,Pe]
noncomputable def Nf:Fx:=⟨163,Tryz.f163,[(3000001,rA 0 26)],0⟩
noncomputable def tV:FT (Tupl×Int×Int×Int×Unit) (ax) (λ_=>True) (λx v=>sS v∧v.length≤40):=⟨λ(x0,x1,x2,x3,_)=>
  .bnd (β:=Bool×Unit) (.cal lD.c (x0,()) λc1=>
   .ite (!c1) (.ret (true,()))<|
   .cal aL.c (x1,32,()) λc2=>
   .ite (!c2) (.ret (true,()))<|
   .cal aL.c (x2,32,()) λc3=>
   .ite (!c3) (.ret (true,()))<|
   .val (dk.f (x3,0,7,())) λc4=>
   .ret ((!c4),())) λ(u5a0,_)=>
  .ite u5a0 (.ret [])<|
  .cal kg.c (x0.ip,4,()) λc6=>
  .cal kg.c (x0.port,2,()) λc7=>
  .grd (Nat.ble (c6.length+c7.length) dq)<|
  .cal kg.c (x0.my,2,()) λc8=>
  .grd (Nat.ble ((c6++c7).length+c8.length) dq)<|
  .cal kg.c (x1,4,()) λc9=>
  .grd (Nat.ble (((c6++c7)++c8).length+c9.length) dq)<|
  .cal kg.c (x2,4,()) λc10=>
  .grd (Nat.ble ((((c6++c7)++c8)++c9).length+c10.length) dq)<|
  .cal kg.c (x3,1,()) λc11=>
  .grd (Nat.ble (((((c6++c7)++c8)++c9)++c10).length+c11.length) dq)<|
  .ret (((((c6++c7)++c8)++c9)++c10)++c11),
 λ(x0,x1,x2,x3,_) hp=>by
  refine Tr.B (Q':=λ_=>True) (Tr.C trivial λc1 hc1 qc1=>Tr.I (λb0=>Tr.R trivial) λb0=>Tr.C trivial λc2 hc2 qc2=>Tr.I (λb1=>Tr.R trivial) λb1=>Tr.C trivial λc3 hc3 qc3=>Tr.F (by kernel_rfl) trivial) (λ(u5a0,_) hj5 qj5=>Tr.I (λb0=>Tr.R ?_) λb0=>Tr.C trivial λc6 hc6 qc6=>Tr.C trivial λc7 hc7 qc7=>Tr.Gb ?_ λg1=>Tr.C trivial λc8 hc8 qc8=>Tr.Gb ?_ λg2=>Tr.C trivial λc9 hc9 qc9=>Tr.Gb ?_ λg3=>Tr.C trivial λc10 hc10 qc10=>Tr.Gb ?_ λg4=>Tr.C trivial λc11 hc11 qc11=>Tr.Gb ?_ λg5=>Tr.R ?_)
  all_goals ((try simp only[Tr.nice,bu]at*)<;>(first|(simp only[List.length_append,List.length_cons,List.length_nil,dq,sS]at*;omega)|grind))⟩
noncomputable def N1:=aZ st Nf Mo [] (ks:=[.st .tupl,.sc (.int .i64),.sc (.int .i64),.sc (.int .i64)]) tV (λv=>[(false,[.c (.str v)])]) Tryz.func163 trivial
noncomputable def vp:=[Fc,fw]
def jl:Sh:=⟨[zp 2 0,zp 3 1,(11,false,[.sl .arg .conn]),zi 12,zi 13],[.box [.st .tabl [.nil .conn,.nil .tupl]],.box [.st .tabl [.own 2,.own 3]],.of false true,.of false true]⟩
noncomputable def vo:Fx:=⟨177,Tryz.f177,[(0,la ⟨[2,3,11,12,13],[.box 3 0 .conn],false,0⟩ ⟨[2,3],[],false,0⟩)],0⟩
noncomputable def qw (v0:List Conn)(v2:Int)(a:Tabl×Tabl):Tr (Stp (Tabl×Tabl) (Empty)):=
 .grd ((decide (0≤v2))&&(decide (v2<(v0.length:Int))))<|
 .cal dj.c ((v0.getD v2.toNat (Ty.zero .conn)),()) λc3=>
 .grd (Nat.ble ((2*(a.2.conns.length+1)+1024)*208) aF)<|
 .ret (.next ((⟨[],[]⟩:Tabl),(⟨(a.2.conns++[c3]),a.2.waiting⟩:Tabl)))
noncomputable def dz:jl.V→LC jl (Tabl×Tabl) (Empty) (Int×(Tabl×Tabl)):=λ(v0,v1,v2,v3,v4,_)=>⟨v2,(v3,v4),λv2 a=>(v0,v1,v2,a.1,a.2,()),λv2 _=>(decide (v2<v1)),qw v0,up,1,(Int.toNat (v1-v2)),(λp=>Empty.elim p),λi a=>(i,a),λ_ k x=>k (.exit 0) (Sh.enc ⟨[zp 2 0,zp 3 1],[.box [.st .tabl [.nil .conn,.nil .tupl]],.box [.st .tabl [.own 2,.own 3]],.of false true,.of false true]⟩ ((⟨[],[]⟩:Tabl),x.2.2,()))⟩
theorem Ap:LS Tryz.prog vo [0] (bx 0 jl dz):=aN st (ac vp) _ dz [] trivial
theorem AD {v0:List Conn}{v1 v2:Int}{v3 v4:Tabl}(h0:0≤v2)(h1:v1≤4611686018427387904)(h2:sL aa v0)(h3:v1≤4294967296)(h4:sS v4.waiting)(h5:v1≤(v0.length:Int))(h6:bh v3∧(v4.conns.length:Int)=v2∧dP aa v4.conns∧v4.waiting.length=v4.waiting.length):(dz (v0,v1,v2,v3,v4,())).U v1 (λv2 a=>bh a.1∧(a.2.conns.length:Int)=v2∧dP aa a.2.conns∧a.2.waiting.length=v4.waiting.length) (λ_=>True):=
 LC.okU (i:=v2) (a:=(v3,v4)) (λ_ _=>rfl) (λ_=>rfl) rfl h0 h1 h6 λv2 (v3,v4) hj hk hv=>by
  refine Tr.G2 ?_ λ_=>Tr.C ?_ λ_ _ _=>Tr.Gb ?_ λ_=>Tr.Rn ?_
  all_goals (grind)
noncomputable def iD:FT (Tabl×Unit) (Tabl) (λx=>bh x.1) (λx v=>bh v∧v.conns.length=x.1.conns.length∧v.waiting.length=x.1.waiting.length):=⟨λ(x0,_)=>
  .cal nI.c (x0.waiting,()) λc1=>
  .lp (dz (x0.conns,(x0.conns.length:Int),0,(⟨[],[]⟩:Tabl),(⟨[],c1⟩:Tabl),())).lp λ(_,_,a4_1)=>
  .ret a4_1,
 λ(x0,_) hp=>by
  refine Tr.C ?_ λ_ _ _=>Tr.L (AD ?_ ?_ ?_ ?_ ?_ ?_ ?_) (λ(a4_0,a4_1) _=>Tr.R ?_) (λp=>Empty.elim p)
  all_goals ((try simp only[dz,LC.lp,LC.ct,Ct.lp]at*)<;>grind)⟩
noncomputable def p0:=aZ st vo vp [(bx 0 jl dz)] (ks:=[.st .tabl]) iD (λv=>[(true,tJ (.o true) (.o true) v)]) Tryz.func177 ⟨Ap,trivial⟩
noncomputable def iV:FT (Segm×Unit) (List Segm) (λx=>aj x.1) (λx v=>sL aj v):=⟨λ(x0,_)=>
  .cal pD.c (x0,()) λc1=>
  .ite c1.2 (.ret [c1.1])<|
  .ret [],
 λ(x0,_) hp=>by
  refine Tr.C ?_ λ_ _ _=>Tr.I (λ_=>Tr.R ?_) λ_=>Tr.R ?_
  all_goals (grind)⟩
noncomputable def Gs:=bi st Tryz.func180 [Mq] (ks:=[.st .segm]) iV (λv=>[(false,[sc (.o true) .segm v])])
noncomputable def ia:FT (Door×Segm×Unit) (Door×List Segm×Int) (λx=>am x.1∧aj x.2.1) (λx v=>am v.1∧sL aj v.2.1):=⟨λ(x0,x1,_)=>
  .cal p4.c (x1,()) λc1=>
  .ite (!c1.2) (.cal dh.c (x0,()) λc2=>
   .ret (c2,[],0))<|
  .cal dh.c (x0,()) λc3=>
  .ret (c3,[c1.1],0),
 λ(x0,x1,_) hp=>by
  refine Tr.C ?_ λ_ _ _=>Tr.I (λ_=>Tr.C ?_ λ_ _ _=>Tr.R ?_) λ_=>Tr.C ?_ λ_ _ _=>Tr.R ?_
  all_goals (grind)⟩
noncomputable def zZ:=bi st Tryz.func193 [M3,g9] (ks:=[.st .door,.st .segm]) ia (λv=>[(true,ji (.o true) (.o true) (.o true) (.o true) (.o true) v.1),(false,[sc (.o true) .segm v.2.1]),(false,[.c (.int .i64 v.2.2)])])

end
end Go.Proofs.YtgbgljgnblkffaaGreat
