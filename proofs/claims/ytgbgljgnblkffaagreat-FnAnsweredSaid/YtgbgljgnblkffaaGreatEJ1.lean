/-
  Contracts of functions and plain laws (printed by a program): each theorem says what a function of the program returns; conditions are its hypotheses.
-/
import Derived.Test.YtgbgljgnblkffaaGreatBase
set_option linter.all false
set_option maxRecDepth 4000
namespace Go.Proofs.YtgbgljgnblkffaaGreat
open Go Go.RowKit
noncomputable section
@[reducible] def zp (t i:Nat):Nat×Bool×List Pt:=(t,false,[.ptr i 0])
@[reducible] def zi (t:Nat):Nat×Bool×List Pt:=(t,false,[.int .i64])
@[reducible] def zb (t:Nat):Nat×Bool×List Pt:=(t,false,[.bool])
@[reducible] def zu (t:Nat):Nat×Bool×List Pt:=(t,false,[.undef])
@[reducible] def zs (t:Nat):Nat×Bool×List Pt:=(t,false,[.str])
noncomputable def CH:FF (List Int×Unit) (Bool):=⟨λ(x0,_)=>
  .ret (decide (1048576<(x0.length:Int)))⟩
@[grind=] theorem adm (x0:List Int):CH.f (x0,())=decide (1048576<(x0.length:Int)):=by
 simp only[CH,FF.f,Tr.nice]
noncomputable def Xi:=lJ st Tryz.func8 [] (ks:=[.sc (.sl .u8)]) CH (λv=>[(false,[.c (.bool v)])])
noncomputable def Bi:List (Ent1 Tryz.prog):=[]
def lz:Sh:=⟨[(0,false,[.sl .arg .half]),zp 3 0,zi 5],[.box [.st .tupl []]]⟩
noncomputable def Bg:Fx:=⟨15,Tryz.f15,[(0,lb [0,3,5] [4])],0⟩
noncomputable def wu (v0:List Half)(v2:Tupl)(v1:Int)(a:Unit):Tr (Stp (Unit) ((Int))):=
 .grd ((decide (0≤v1))&&(decide (v1<(v0.length:Int))))<|
 .ite (((v0.getD v1.toNat (Ty.zero .half)).tuple.ip==v2.ip)&&(((v0.getD v1.toNat (Ty.zero .half)).tuple.port==v2.port)&&(((v0.getD v1.toNat (Ty.zero .half)).tuple.my==v2.my)&&true))) (.ret (.out v1))<|
 .ret (.next ())
noncomputable def fp:lz.V→LC lz (Unit) ((Int)) (((Int))⊕(Int×Unit)):=λ(v0,v1,v2,_)=>⟨v1,(),λv1 _=>(v0,v1,v2,()),λv1 _=>(decide (v1<(v0.length:Int))),wu v0 v2,up,1,(Int.toNat ((v0.length:Int)-v1)),.inl,λi a=> .inr (i,a),λ_ k w=>Sum.elim (λp=>k .ret (Sh.enc ⟨[zi 4],[]⟩ (p,()))) (λ_=>k (.exit 0) (Sh.enc ⟨[zu 4],[]⟩ ())) w⟩
theorem G9:LS Tryz.prog Bg [0] (bR 0 lz fp):=aW st (aj Bi) _ fp [] trivial
theorem Gj {v0:List Half}{v1:Int}{v2:Tupl}(h0:0≤v1)(h1:(v0.length:Int)≤4611686018427387904):(fp (v0,v1,v2,())).U (v0.length:Int) (λ_ _=>True) (λp=>v1≤p∧p<(v0.length:Int)):=
 LC.okU (i:=v1) (a:=()) (λ_ _=>rfl) (λ_=>rfl) rfl h0 h1 trivial λv1 _ hj hk hv=>by
  refine Tr.G2 ?_ λ_=>Tr.I (λ_=>Tr.Ro ?_) λ_=>Tr.Rn trivial
  all_goals (grind)
noncomputable def jt:FT (List Half×Tupl×Unit) (Int) (λx=>wS x.1) (λx v=> -1≤v∧v<x.1.length):=⟨λ(x0,x1,_)=>
  .lp (fp (x0,0,x1,())).lp λw1=> .sum w1 (λp1a0=>
  .ret p1a0)<|
  λ_=>
  .ret (-1),
 λ(x0,x1,_) hp=>by
  refine Tr.L (Gj ?_ ?_) (λ_ _=>Tr.Sr (Tr.R ?_)) (λp1a0 _=>Tr.Sl (Tr.R ?_))
  all_goals ((try simp only[fp,LC.lp,LC.ct,Ct.lp]at*)<;>grind)⟩
noncomputable def m9:=aV st Bg Bi [(bR 0 lz fp)] (ks:=[.sc (.sl .half),.st .tupl]) jt (λv=>[(false,[.c (.int .i64 v)])]) Tryz.func15 ⟨G9,trivial⟩
noncomputable def Df:List (Ent1 Tryz.prog):=[]
def lj:Sh:=⟨[zp 2 0,zp 3 1,zi 5],[.box [.st .tabl [.sl .arg,.sl .arg]],.box [.st .tupl []]]⟩
noncomputable def Cs:Fx:=⟨23,Tryz.f23,[(0,lb [2,3,5] [4])],0⟩
noncomputable def vU (v1:Tabl)(v2:Tupl)(v0:Int)(a:Unit):Tr (Stp (Unit) ((Int))):=
 .grd ((decide (0≤v0))&&(decide (v0<(v1.conns.length:Int))))<|
 .ite (((v1.conns.getD v0.toNat (Ty.zero .conn)).tuple.ip==v2.ip)&&(((v1.conns.getD v0.toNat (Ty.zero .conn)).tuple.port==v2.port)&&(((v1.conns.getD v0.toNat (Ty.zero .conn)).tuple.my==v2.my)&&true))) (.ret (.out v0))<|
 .ret (.next ())
noncomputable def fJ:lj.V→LC lj (Unit) ((Int)) (((Int))⊕(Int×Unit)):=λ(v0,v1,v2,_)=>⟨v0,(),λv0 _=>(v0,v1,v2,()),λv0 _=>(decide (v0<(v1.conns.length:Int))),vU v1 v2,up,1,(Int.toNat ((v1.conns.length:Int)-v0)),.inl,λi a=> .inr (i,a),λ_ k w=>Sum.elim (λp=>k .ret (Sh.enc ⟨[zi 4],[]⟩ (p,()))) (λ_=>k (.exit 0) (Sh.enc ⟨[zu 4],[]⟩ ())) w⟩
theorem Gr:LS Tryz.prog Cs [0] (bR 0 lj fJ):=aW st (aj Df) _ fJ [] trivial
theorem Gw {v0:Int}{v1:Tabl}{v2:Tupl}(h0:0≤v0)(h1:(v1.conns.length:Int)≤4611686018427387904):(fJ (v0,v1,v2,())).U (v1.conns.length:Int) (λ_ _=>True) (λp=>v0≤p∧p<(v1.conns.length:Int)):=
 LC.okU (i:=v0) (a:=()) (λ_ _=>rfl) (λ_=>rfl) rfl h0 h1 trivial λv0 _ hj hk hv=>by
  refine Tr.G2 ?_ λ_=>Tr.I (λ_=>Tr.Ro ?_) λ_=>Tr.Rn trivial
  all_goals (grind)
noncomputable def fx:FT (Tabl×Tupl×Unit) (Int) (λx=>wS x.1.conns) (λx v=> -1≤v∧v<x.1.conns.length):=⟨λ(x0,x1,_)=>
  .lp (fJ (0,x0,x1,())).lp λw1=> .sum w1 (λp1a0=>
  .ret p1a0)<|
  λ_=>
  .ret (-1),
 λ(x0,x1,_) hp=>by
  refine Tr.L (Gw ?_ ?_) (λ_ _=>Tr.Sr (Tr.R ?_)) (λp1a0 _=>Tr.Sl (Tr.R ?_))
  all_goals ((try simp only[fJ,LC.lp,LC.ct,Ct.lp]at*)<;>grind)⟩
noncomputable def jm:=aV st Cs Df [(bR 0 lj fJ)] (ks:=[.st .tabl,.st .tupl]) fx (λv=>[(false,[.c (.int .i64 v)])]) Tryz.func23 ⟨Gr,trivial⟩
noncomputable def xj:List (Ent1 Tryz.prog):=[]
def jX:Sh:=⟨[(0,false,[.sl .arg .half]),(1,false,[.sl .arg .half]),zi 5],[]⟩
noncomputable def wE:Fx:=⟨26,Tryz.f26,[(0,lb [0,1,5] [4])],0⟩
noncomputable def rY (v0 v1:List Half)(v2:Int)(a:Unit):Tr (Stp (Unit) ((Unit))):=
 .grd ((decide (0≤v2))&&(decide (v2<(v0.length:Int))))<|
 .grd ((decide (0≤v2))&&(decide (v2<(v1.length:Int))))<|
 .ite (!((((v0.getD v2.toNat (Ty.zero .half)).tuple.ip==(v1.getD v2.toNat (Ty.zero .half)).tuple.ip)&&(((v0.getD v2.toNat (Ty.zero .half)).tuple.port==(v1.getD v2.toNat (Ty.zero .half)).tuple.port)&&(((v0.getD v2.toNat (Ty.zero .half)).tuple.my==(v1.getD v2.toNat (Ty.zero .half)).tuple.my)&&true)))&&(((v0.getD v2.toNat (Ty.zero .half)).iss==(v1.getD v2.toNat (Ty.zero .half)).iss)&&(((v0.getD v2.toNat (Ty.zero .half)).irs==(v1.getD v2.toNat (Ty.zero .half)).irs)&&((((v0.getD v2.toNat (Ty.zero .half)).opts.mss==(v1.getD v2.toNat (Ty.zero .half)).opts.mss)&&(((v0.getD v2.toNat (Ty.zero .half)).opts.scale==(v1.getD v2.toNat (Ty.zero .half)).opts.scale)&&(((v0.getD v2.toNat (Ty.zero .half)).opts.sack==(v1.getD v2.toNat (Ty.zero .half)).opts.sack)&&(((v0.getD v2.toNat (Ty.zero .half)).opts.stamp==(v1.getD v2.toNat (Ty.zero .half)).opts.stamp)&&(((v0.getD v2.toNat (Ty.zero .half)).opts.val==(v1.getD v2.toNat (Ty.zero .half)).opts.val)&&(((v0.getD v2.toNat (Ty.zero .half)).opts.echo==(v1.getD v2.toNat (Ty.zero .half)).opts.echo)&&true))))))&&(((v0.getD v2.toNat (Ty.zero .half)).age==(v1.getD v2.toNat (Ty.zero .half)).age)&&(((v0.getD v2.toNat (Ty.zero .half)).window==(v1.getD v2.toNat (Ty.zero .half)).window)&&true))))))) (.ret (.out ()))<|
 .ret (.next ())
noncomputable def dN:jX.V→LC jX (Unit) ((Unit)) (((Unit))⊕(Int×Unit)):=λ(v0,v1,v2,_)=>⟨v2,(),λv2 _=>(v0,v1,v2,()),λv2 _=>(decide (v2<(v0.length:Int))),rY v0 v1,up,1,(Int.toNat ((v0.length:Int)-v2)),.inl,λi a=> .inr (i,a),λ_ k w=>Sum.elim (λ_=>k .ret (Sh.enc ⟨[zb 4],[]⟩ (false,()))) (λ_=>k (.exit 0) (Sh.enc ⟨[zu 4],[]⟩ ())) w⟩
theorem CT:LS Tryz.prog wE [0] (bR 0 jX dN):=aW st (aj xj) _ dN [] trivial
theorem Bl {v0 v1:List Half}{v2:Int}(h0:0≤v2)(h1:(v0.length:Int)≤4611686018427387904)(h2:(v0.length:Int)≤(v1.length:Int)):(dN (v0,v1,v2,())).U (v0.length:Int) (λ_ _=>True) (λ_=>True):=
 LC.okU (i:=v2) (a:=()) (λ_ _=>rfl) (λ_=>rfl) rfl h0 h1 trivial λv2 _ hj hk hv=>by
  refine Tr.G2 ?_ λ_=>Tr.G2 ?_ λ_=>Tr.Z (by kernel_rfl)
  all_goals (grind)
noncomputable def p7:FT (List Half×List Half×Unit) (Bool) (λx=>sS x.1∧sS x.2.1) (λ_ _=>True):=⟨λ(x0,x1,_)=>
  .ite ((x0.length:Int) != (x1.length:Int)) (.ret false)<|
  .lp (dN (x0,x1,0,())).lp λw1=> .sum w1 (λ_=>
  .ret false)<|
  λ_=>
  .ret true,
 λ(x0,x1,_) hp=>by
  refine Tr.I (λ_=>Tr.R trivial) λ_=>Tr.L (Bl ?_ ?_ ?_) (λ_ _=>Tr.Sr (Tr.R trivial)) (λ_ _=>Tr.Sl (Tr.R trivial))
  all_goals ((try simp only[dN,LC.lp,LC.ct,Ct.lp]at*)<;>grind)⟩
noncomputable def IZ:=aV st wE xj [(bR 0 jX dN)] (ks:=[.sc (.sl .half),.sc (.sl .half)]) p7 (λv=>[(false,[.c (.bool v)])]) Tryz.func26 ⟨CT,trivial⟩
noncomputable def zl:List (Ent1 Tryz.prog):=[]
def kQ:Sh:=⟨[(0,false,[.sl .arg .str]),(1,false,[.sl .arg .str]),zi 5],[]⟩
noncomputable def zt:Fx:=⟨31,Tryz.f31,[(0,lb [0,1,5] [4])],0⟩
noncomputable def tB (v0 v1:List ac)(v2:Int)(a:Unit):Tr (Stp (Unit) ((Unit))):=
 .grd ((decide (0≤v2))&&(decide (v2<(v0.length:Int))))<|
 .grd ((decide (0≤v2))&&(decide (v2<(v1.length:Int))))<|
 .ite (!((v0.getD v2.toNat [])==(v1.getD v2.toNat []))) (.ret (.out ()))<|
 .ret (.next ())
noncomputable def ey:kQ.V→LC kQ (Unit) ((Unit)) (((Unit))⊕(Int×Unit)):=λ(v0,v1,v2,_)=>⟨v2,(),λv2 _=>(v0,v1,v2,()),λv2 _=>(decide (v2<(v0.length:Int))),tB v0 v1,up,1,(Int.toNat ((v0.length:Int)-v2)),.inl,λi a=> .inr (i,a),λ_ k w=>Sum.elim (λ_=>k .ret (Sh.enc ⟨[zb 4],[]⟩ (false,()))) (λ_=>k (.exit 0) (Sh.enc ⟨[zu 4],[]⟩ ())) w⟩
theorem Em:LS Tryz.prog zt [0] (bR 0 kQ ey):=aW st (aj zl) _ ey [] trivial
theorem DX {v0 v1:List ac}{v2:Int}(h0:0≤v2)(h1:(v0.length:Int)≤4611686018427387904)(h2:(v0.length:Int)≤(v1.length:Int)):(ey (v0,v1,v2,())).U (v0.length:Int) (λ_ _=>True) (λ_=>True):=
 LC.okU (i:=v2) (a:=()) (λ_ _=>rfl) (λ_=>rfl) rfl h0 h1 trivial λv2 _ hj hk hv=>by
  refine Tr.G2 ?_ λ_=>Tr.G2 ?_ λ_=>Tr.Z (by kernel_rfl)
  all_goals (grind)
noncomputable def mn:FT (List ac×List ac×Unit) (Bool) (λx=>sL sS x.1∧sL sS x.2.1) (λ_ _=>True):=⟨λ(x0,x1,_)=>
  .ite ((x0.length:Int) != (x1.length:Int)) (.ret false)<|
  .lp (ey (x0,x1,0,())).lp λw1=> .sum w1 (λ_=>
  .ret false)<|
  λ_=>
  .ret true,
 λ(x0,x1,_) hp=>by
  refine Tr.I (λ_=>Tr.R trivial) λ_=>Tr.L (DX ?_ ?_ ?_) (λ_ _=>Tr.Sr (Tr.R trivial)) (λ_ _=>Tr.Sl (Tr.R trivial))
  all_goals ((try simp only[ey,LC.lp,LC.ct,Ct.lp]at*)<;>grind)⟩
noncomputable def zM:=aV st zt zl [(bR 0 kQ ey)] (ks:=[.sc (.sl .str),.sc (.sl .str)]) mn (λv=>[(false,[.c (.bool v)])]) Tryz.func31 ⟨Em,trivial⟩
noncomputable def OQ:List (Ent1 Tryz.prog):=[]
def qc:Sh:=⟨[(0,false,[.sl .arg .u8]),zi 3,zi 4],[]⟩
noncomputable def OT:Fx:=⟨48,Tryz.f48,[(0,lb [0,3,4] [0,2,3])],0⟩
noncomputable def Rs (v0:List Int)(v2:Int)(a:Int):Tr (Stp (Int) ((Int))):=
 .ite (decide (v2<4000)) (.grd ((decide (0≤v2))&&(decide (v2<(v0.length:Int))))<|
  .val (IntKind.wrap .i64 ((IntKind.wrap .i64 (a*131))+(IntKind.wrap .i64 (v0.getD v2.toNat 0)))) λe1=>
  .ret (.next (bits .and .i64 (IntKind.wrap .i64 (e1+7)) 1073741823)))<|
 .ret (.out a)
noncomputable def kL:qc.V→LC qc (Int) ((Int)) (((Int))⊕(Int×Int)):=λ(v0,v1,v2,_)=>⟨v2,v1,λv2 a=>(v0,a,v2,()),λv2 _=>(decide (v2<(v0.length:Int))),Rs v0,up,1,(Int.toNat ((v0.length:Int)-v2)),.inl,λi a=> .inr (i,a),λ_ k w=>Sum.elim (λp=>k (.exit 0) (Sh.enc ⟨[(0,false,[.sl .arg .u8]),zu 2,zi 3],[]⟩ (v0,p,()))) (λx=>k (.exit 0) (Sh.enc ⟨[(0,false,[.sl .arg .u8]),zu 2,zi 3],[]⟩ (v0,x.2,()))) w⟩
theorem PD:LS Tryz.prog OT [0] (bR 0 qc kL):=aW st (aj OQ) _ kL [] trivial
theorem Qd {v0:List Int}{v1 v2:Int}(h0:0≤v2)(h1:(v0.length:Int)≤4611686018427387904):(kL (v0,v1,v2,())).U (v0.length:Int) (λ_ _=>True) (λ_=>True):=
 LC.okU (i:=v2) (a:=v1) (λ_ _=>rfl) (λ_=>rfl) rfl h0 h1 trivial λv2 v1 hj hk hv=>by
  refine Tr.I (λ_=>Tr.G2 ?_ λ_=>Tr.Z (by kernel_rfl)) λ_=>Tr.Ro trivial
  all_goals (grind)
noncomputable def Xz:FT (List Int×Unit) (Curs) (λx=>x.1.length≤1048576) (λx v=>af v):=⟨λ(x0,_)=>
  .lp (kL (x0,(IntKind.wrap .i64 (28655+(x0.length:Int))),0,())).lp λw2=> .sum w2 (λp2a0=>
  .ret (⟨x0,0,p2a0⟩:Curs))<|
  λ(_,a2_0)=>
  .ret (⟨x0,0,a2_0⟩:Curs),
 λ(x0,_) hp=>by
  refine Tr.L (Qd ?_ ?_) (λa2_0 _=>Tr.Sr (Tr.R ?_)) (λp2a0 _=>Tr.Sl (Tr.R ?_))
  all_goals ((try simp only[kL,LC.lp,LC.ct,Ct.lp]at*)<;>grind)⟩
noncomputable def YF:=aV st OT OQ [(bR 0 qc kL)] (ks:=[.sc (.sl .u8)]) Xz (λv=>[rb .curs v]) Tryz.func48 ⟨PD,trivial⟩
noncomputable def bB:FF (Segm×Int×Unit) (Bool):=⟨λ(x0,x1,_)=>
  .ret ((bits .and .i64 x0.flags x1)==x1)⟩
noncomputable def yz:=lJ st Tryz.func59 [] (ks:=[.st .segm,.sc (.int .i64)]) bB (λv=>[(false,[.c (.bool v)])])
noncomputable def cN:FF (Int×Int×Unit) (Int):=⟨λ(x0,x1,_)=>
  .ret (bits .and .i64 (IntKind.wrap .i64 (x0+x1)) 4294967295)⟩
noncomputable def ja:=lJ st Tryz.func60 [] (ks:=[.sc (.int .i64),.sc (.int .i64)]) cN (λv=>[(false,[.c (.int .i64 v)])])
noncomputable def ic:FF (Segm×Int×Unit) (Bool):=⟨λ(x0,x1,_)=>
  .ret ((bits .and .i64 x0.flags x1)==x1)⟩
noncomputable def yJ:=lJ st Tryz.func62 [] (ks:=[.st .segm,.sc (.int .i64)]) ic (λv=>[(false,[.c (.bool v)])])
noncomputable def tA:FT (Int×Int×Unit) (Mac) (λ_=>True) (λx v=>fH v):=⟨λ(x0,x1,_)=>
  .ret (⟨false,x0,x1,[]⟩:Mac),
 λ(x0,x1,_) hp=>by
  refine Tr.R ?_
  all_goals (grind)⟩
noncomputable def Av:=bf st Tryz.func71 [] (ks:=[.sc (.int .u64),.sc (.int .u64)]) tA (λv=>[(true,Jp (.o true) v)])
noncomputable def uq:List (Ent1 Tryz.prog):=[]
def io:Sh:=⟨[zp 2 0,zp 3 1,zi 5],[.box [.st .recv [.sl .arg]],.box [.st .recv [.sl .arg]]]⟩
noncomputable def tN:Fx:=⟨89,Tryz.f89,[(0,lb [2,3,5] [4]),(3000001,rA 0 40)],0⟩
noncomputable def pK (v1 v2:Recv)(v0:Int)(a:Unit):Tr (Stp (Unit) ((Unit))):=
 .grd ((decide (0≤v0))&&(decide (v0<(v1.held.length:Int))))<|
 .grd ((decide (0≤v0))&&(decide (v0<(v2.held.length:Int))))<|
 .ite (!(((v1.held.getD v0.toNat (Ty.zero .piec)).off==(v2.held.getD v0.toNat (Ty.zero .piec)).off)&&(((v1.held.getD v0.toNat (Ty.zero .piec)).text==(v2.held.getD v0.toNat (Ty.zero .piec)).text)&&true))) (.ret (.out ()))<|
 .ret (.next ())
noncomputable def cP:io.V→LC io (Unit) ((Unit)) (((Unit))⊕(Int×Unit)):=λ(v0,v1,v2,_)=>⟨v0,(),λv0 _=>(v0,v1,v2,()),λv0 _=>(decide (v0<(v1.held.length:Int))),pK v1 v2,up,1,(Int.toNat ((v1.held.length:Int)-v0)),.inl,λi a=> .inr (i,a),λ_ k w=>Sum.elim (λ_=>k .ret (Sh.enc ⟨[zb 4],[]⟩ (false,()))) (λ_=>k (.exit 0) (Sh.enc ⟨[zu 4],[]⟩ ())) w⟩
theorem za:LS Tryz.prog tN [0] (bR 0 io cP):=aW st (aj uq) _ cP [] trivial
theorem y8 {v0:Int}{v1 v2:Recv}(h0:0≤v0)(h1:(v1.held.length:Int)≤4611686018427387904)(h2:(v1.held.length:Int)≤(v2.held.length:Int)):(cP (v0,v1,v2,())).U (v1.held.length:Int) (λ_ _=>True) (λ_=>True):=
 LC.okU (i:=v0) (a:=()) (λ_ _=>rfl) (λ_=>rfl) rfl h0 h1 trivial λv0 _ hj hk hv=>by
  refine Tr.G2 ?_ λ_=>Tr.G2 ?_ λ_=>Tr.Z (by kernel_rfl)
  all_goals (grind)
noncomputable def nm:FT (Recv×Recv×Unit) (Bool) (λx=>ax x.1∧ax x.2.1) (λ_ _=>True):=⟨λ(x0,x1,_)=>
  .bnd (β:=Bool×Unit) (.ite (x0.next != x1.next) (.ret (true,()))<|
   .ite (!(x0.data==x1.data)) (.ret (true,()))<|
   .ite (x0.fin != x1.fin) (.ret (true,()))<|
   .ite (!(x0.done==x1.done)) (.ret (true,()))<|
   .ret (((x0.held.length:Int) != (x1.held.length:Int)),())) λ(u1a0,_)=>
  .ite u1a0 (.ret false)<|
  .lp (cP (0,x0,x1,())).lp λw2=> .sum w2 (λ_=>
  .ret false)<|
  λ_=>
  .ret true,
 λ(x0,x1,_) hp=>by
  refine Tr.B (Q':=λ_=>True) (Tr.F (by kernel_rfl) trivial) (λ(u1a0,_) _ _=>Tr.I (λ_=>Tr.R trivial) λ_=>Tr.L (y8 ?_ ?_ ?_) (λ_ _=>Tr.Sr (Tr.R trivial)) (λ_ _=>Tr.Sl (Tr.R trivial)))
  all_goals ((try simp only[cP,LC.lp,LC.ct,Ct.lp,Tr.nice,bo]at*)<;>grind)⟩
noncomputable def D4:=aV st tN uq [(bR 0 io cP)] (ks:=[.st .recv,.st .recv]) nm (λv=>[(false,[.c (.bool v)])]) Tryz.func89 ⟨za,trivial⟩
noncomputable def cr:FF (Int×Int×Int×Unit) (Bool):=⟨λ(x0,x1,x2,_)=>
  .ite (decide (x1≤x0)) (.ret (decide (x0≤x2)))<|
  .ret false⟩
@[grind=] theorem bK (x0 x1 x2:Int):cr.f (x0,x1,x2,())=(decide (x1≤x0)&&decide (x0≤x2)):=by
 simp only[cr,FF.f,Tr.nice]
 cases decide (x1≤x0)<;>rfl
noncomputable def cz:=lJ st Tryz.func93 [] (ks:=[.sc (.int .i64),.sc (.int .i64),.sc (.int .i64)]) cr (λv=>[(false,[.c (.bool v)])])
noncomputable def bO:FF (Unit) (Opti):=⟨λ_=>
  .ret (⟨0,(-1),false,false,0,0⟩:Opti)⟩
noncomputable def jK:=lJ st Tryz.func96 [] (ks:=[]) bO (λv=>[(true,nV v)])
noncomputable def yq:FF (Opti×Unit) (Int):=⟨λ(x0,_)=>
  .ite (x0.mss==0) (.ret 536)<|
  .ret x0.mss⟩
noncomputable def SE:=lJ st Tryz.func99 [] (ks:=[.st .opti]) yq (λv=>[(false,[.c (.int .i64 v)])])
noncomputable def bq:FF (Int×Int×Int×Unit) (Bool):=⟨λ(x0,x1,x2,_)=>
  .ite (decide (x1≤x0)) (.ret (decide (x0≤x2)))<|
  .ret false⟩
@[grind=] theorem aw (x0 x1 x2:Int):bq.f (x0,x1,x2,())=(decide (x1≤x0)&&decide (x0≤x2)):=by
 simp only[bq,FF.f,Tr.nice]
 cases decide (x1≤x0)<;>rfl
noncomputable def bF:=lJ st Tryz.func104 [] (ks:=[.sc (.int .i64),.sc (.int .i64),.sc (.int .i64)]) bq (λv=>[(false,[.c (.bool v)])])
noncomputable def Dj:List (Ent1 Tryz.prog):=[]
def lx:Sh:=⟨[zp 2 0,zp 3 1,zi 5],[.box [.st .link [.sl .arg]],.box [.st .link [.sl .arg]]]⟩
noncomputable def Cg:Fx:=⟨113,Tryz.f113,[(0,lb [2,3,5] [4]),(3000001,rA 0 26)],0⟩
noncomputable def we (v1 v2:Link)(v0:Int)(a:Unit):Tr (Stp (Unit) ((Unit))):=
 .grd ((decide (0≤v0))&&(decide (v0<(v1.cache.length:Int))))<|
 .grd ((decide (0≤v0))&&(decide (v0<(v2.cache.length:Int))))<|
 .ite (!(((v1.cache.getD v0.toNat (Ty.zero .entr)).ip==(v2.cache.getD v0.toNat (Ty.zero .entr)).ip)&&(((v1.cache.getD v0.toNat (Ty.zero .entr)).hw==(v2.cache.getD v0.toNat (Ty.zero .entr)).hw)&&(((v1.cache.getD v0.toNat (Ty.zero .entr)).age==(v2.cache.getD v0.toNat (Ty.zero .entr)).age)&&true)))) (.ret (.out ()))<|
 .ret (.next ())
noncomputable def fC:lx.V→LC lx (Unit) ((Unit)) (((Unit))⊕(Int×Unit)):=λ(v0,v1,v2,_)=>⟨v0,(),λv0 _=>(v0,v1,v2,()),λv0 _=>(decide (v0<(v1.cache.length:Int))),we v1 v2,up,1,(Int.toNat ((v1.cache.length:Int)-v0)),.inl,λi a=> .inr (i,a),λ_ k w=>Sum.elim (λ_=>k .ret (Sh.enc ⟨[zb 4],[]⟩ (false,()))) (λ_=>k (.exit 0) (Sh.enc ⟨[zu 4],[]⟩ ())) w⟩
theorem GV:LS Tryz.prog Cg [0] (bR 0 lx fC):=aW st (aj Dj) _ fC [] trivial
theorem Hh {v0:Int}{v1 v2:Link}(h0:0≤v0)(h1:(v1.cache.length:Int)≤4611686018427387904)(h2:(v1.cache.length:Int)≤(v2.cache.length:Int)):(fC (v0,v1,v2,())).U (v1.cache.length:Int) (λ_ _=>True) (λ_=>True):=
 LC.okU (i:=v0) (a:=()) (λ_ _=>rfl) (λ_=>rfl) rfl h0 h1 trivial λv0 _ hj hk hv=>by
  refine Tr.G2 ?_ λ_=>Tr.G2 ?_ λ_=>Tr.Z (by kernel_rfl)
  all_goals (grind)
noncomputable def uD:FT (Link×Link×Unit) (Bool) (λx=>dH x.1∧dH x.2.1) (λ_ _=>True):=⟨λ(x0,x1,_)=>
  .bnd (β:=Bool×Unit) (.ite (x0.mac != x1.mac) (.ret (true,()))<|
   .ite (x0.ip != x1.ip) (.ret (true,()))<|
   .ret (((x0.cache.length:Int) != (x1.cache.length:Int)),())) λ(u1a0,_)=>
  .ite u1a0 (.ret false)<|
  .lp (fC (0,x0,x1,())).lp λw2=> .sum w2 (λ_=>
  .ret false)<|
  λ_=>
  .ret true,
 λ(x0,x1,_) hp=>by
  refine Tr.B (Q':=λ_=>True) (Tr.F (by kernel_rfl) trivial) (λ(u1a0,_) _ _=>Tr.I (λ_=>Tr.R trivial) λ_=>Tr.L (Hh ?_ ?_ ?_) (λ_ _=>Tr.Sr (Tr.R trivial)) (λ_ _=>Tr.Sl (Tr.R trivial)))
  all_goals ((try simp only[fC,LC.lp,LC.ct,Ct.lp,Tr.nice,bo]at*)<;>grind)⟩
noncomputable def Qk:=aV st Cg Dj [(bR 0 lx fC)] (ks:=[.st .link,.st .link]) uD (λv=>[(false,[.c (.bool v)])]) Tryz.func113 ⟨GV,trivial⟩
noncomputable def qw:FT (Link×Unit) (Link) (λx=>dH x.1) (λx v=>dH v):=⟨λ(x0,_)=>
  .grd (Nat.ble ((2*(0+x0.cache.length)+1024)*24) aF)<|
  .ret ({x0 with cache:=([]++x0.cache)}:Link),
 λ(x0,_) hp=>by
  refine Tr.Gb ?_ λ_=>Tr.R ?_
  all_goals (grind)⟩
noncomputable def Fu:=bf st Tryz.func115 [] (ks:=[.st .link]) qw (λv=>[(true,z5 (.o true) v)])
noncomputable def HU:FF (Fram×Int×Unit) (Bool):=⟨λ(x0,x1,_)=>
  .ite (x0.dst==x1) (.ret true)<|
  .ret (x0.dst==281474976710655)⟩
noncomputable def Yw:=lJ st Tryz.func116 [] (ks:=[.st .fram,.sc (.int .i64)]) HU (λv=>[(false,[.c (.bool v)])])
noncomputable def EK:=[cz]
def mY:Sh:=⟨[zs 0,zi 1,zi 2,zi 8,zi 9],[]⟩
noncomputable def FG:Fx:=⟨122,Tryz.f122,[(0,lb [0,1,2,8,9] [6,7,8]),(3000001,rA 0 21)],0⟩
noncomputable def qM (v0:ac)(v1:Int)(v4:Int)(a:Int):Tr (Stp (Int) (Empty)):=
 .grd ((decide (0≤(IntKind.wrap .i64 (v1+v4))))&&(decide ((IntKind.wrap .i64 (v1+v4))<(v0.length:Int))))<|
 .val (IntKind.wrap .i64 ((IntKind.wrap .i64 (256*a))+(IntKind.wrap .i64 (ae v0 ((IntKind.wrap .i64 (v1+v4)).toNat))))) λe4=>
 .ret (.next e4)
noncomputable def gr:mY.V→LC mY (Int) (Empty) (Int×Int):=λ(v0,v1,v2,v3,v4,_)=>⟨v4,v3,λv4 a=>(v0,v1,v2,a,v4,()),λv4 _=>(decide (v4<v2)),qM v0 v1,up,1,(Int.toNat (v2-v4)),(λp=>Empty.elim p),λi a=>(i,a),λ_ k x=>k (.exit 0) (Sh.enc ⟨[zu 6,zu 7,zi 8],[]⟩ (x.2,()))⟩
theorem Jc:LS Tryz.prog FG [0] (bR 0 mY gr):=aW st (aj EK) _ gr [] trivial
theorem JF {v0:ac}{v1 v2 v3 v4:Int}(h0:0≤v4)(h1:v2≤4611686018427387904)(h2:0≤v1)(h3:v1+v2≤(v0.length:Int))(h4:sS v0):(gr (v0,v1,v2,v3,v4,())).U v2 (λ_ _=>True) (λ_=>True):=
 LC.okU (i:=v4) (a:=v3) (λ_ _=>rfl) (λ_=>rfl) rfl h0 h1 trivial λv4 v3 hj hk hv=>by
  refine Tr.G2 ?_ λ_=>Tr.Z (by kernel_rfl)
  all_goals (grind)
noncomputable def bL:FT (ac×Int×Int×Unit) (Int×Bool) (λx=>sS x.1) (λ_ _=>True):=⟨λ(x0,x1,x2,_)=>
  .bnd (β:=Bool×Unit) (.val (cr.f (x2,1,6,())) λc1=>
   .ite (!c1) (.ret (true,()))<|
   .val (cr.f (x1,0,(IntKind.wrap .i64 ((x0.length:Int)-x2)),())) λc2=>
   .ret ((!c2),())) λ(u3a0,_)=>
  .ite u3a0 (.ret (0,false))<|
  .lp (gr (x0,x1,x2,0,0,())).lp λ(_,a5_0)=>
  .ret (a5_0,true),
 λ(x0,x1,x2,_) hp=>by
  refine Tr.B (Q':=λ_=>True) (Tr.F (by kernel_rfl) trivial) (λ(u3a0,_) _ _=>Tr.I (λ_=>Tr.R trivial) λ_=>Tr.L (JF ?_ ?_ ?_ ?_ ?_) (λa5_0 _=>Tr.R trivial) (λp=>Empty.elim p))
  all_goals ((try simp only[gr,LC.lp,LC.ct,Ct.lp,Tr.nice,bo]at*)<;>grind)⟩
noncomputable def pq:=aV st FG EK [(bR 0 mY gr)] (ks:=[.sc .str,.sc (.int .i64),.sc (.int .i64)]) bL (λv=>[(false,[.c (.int .i64 v.1)]),(false,[.c (.bool v.2)])]) Tryz.func122 ⟨Jc,trivial⟩
noncomputable def j1:FF (Int×Int×Unit) (Int):=⟨λ(x0,x1,_)=>
  .ite (decide (x0<x1)) (.ret x0)<|
  .ret x1⟩
@[grind=] theorem oj (x0 x1:Int):j1.f (x0,x1,())=(if x0<x1 then x0 else x1):=by
 simp only[j1,FF.f,Tr.nice]
 by_cases h:x0<x1<;>simp[h]
noncomputable def od:=lJ st Tryz.func127 [] (ks:=[.sc (.int .i64),.sc (.int .i64)]) j1 (λv=>[(false,[.c (.int .i64 v)])])
noncomputable def nU:FT (Mac×Unit) (Mac) (λx=>fH x.1) (λx v=>fH v∧v=x.1):=⟨λ(x0,_)=>
  .grd (Nat.ble ((2*(0+x0.rows.length)+1024)*24) aF)<|
  .ret ({x0 with rows:=([]++x0.rows)}:Mac),
 λ(x0,_) hp=>by
  refine Tr.Gb ?_ λg0=>Tr.R ?_
  all_goals ((first|grind|(refine⟨by grind, ?_⟩;first|(simp only[List.nil_append];done)|(subst_vars;rfl)|simp_all)))⟩
noncomputable def Fy:=bf st Tryz.func129 [] (ks:=[.st .mac]) nU (λv=>[(true,Jp (.o true) v)])
noncomputable def EN:List (Ent1 Tryz.prog):=[]
def nl:Sh:=⟨[zp 2 0,zp 3 1,zi 5],[.box [.st .mac [.sl .arg]],.box [.st .mac [.sl .arg]]]⟩
noncomputable def FP:Fx:=⟨146,Tryz.f146,[(0,lb [2,3,5] [4]),(3000001,rA 0 33)],0⟩
noncomputable def rN (v1 v2:Mac)(v0:Int)(a:Unit):Tr (Stp (Unit) ((Unit))):=
 .grd ((decide (0≤v0))&&(decide (v0<(v1.rows.length:Int))))<|
 .grd ((decide (0≤v0))&&(decide (v0<(v2.rows.length:Int))))<|
 .ite (!(((v1.rows.getD v0.toNat (Ty.zero .macRow)).input==(v2.rows.getD v0.toNat (Ty.zero .macRow)).input)&&(((v1.rows.getD v0.toNat (Ty.zero .macRow)).value==(v2.rows.getD v0.toNat (Ty.zero .macRow)).value)&&true))) (.ret (.out ()))<|
 .ret (.next ())
noncomputable def fa:nl.V→LC nl (Unit) ((Unit)) (((Unit))⊕(Int×Unit)):=λ(v0,v1,v2,_)=>⟨v0,(),λv0 _=>(v0,v1,v2,()),λv0 _=>(decide (v0<(v1.rows.length:Int))),rN v1 v2,up,1,(Int.toNat ((v1.rows.length:Int)-v0)),.inl,λi a=> .inr (i,a),λ_ k w=>Sum.elim (λ_=>k .ret (Sh.enc ⟨[zb 4],[]⟩ (false,()))) (λ_=>k (.exit 0) (Sh.enc ⟨[zu 4],[]⟩ ())) w⟩
theorem L0:LS Tryz.prog FP [0] (bR 0 nl fa):=aW st (aj EN) _ fa [] trivial
theorem K0 {v0:Int}{v1 v2:Mac}(h0:0≤v0)(h1:(v1.rows.length:Int)≤4611686018427387904)(h2:(v1.rows.length:Int)≤(v2.rows.length:Int)):(fa (v0,v1,v2,())).U (v1.rows.length:Int) (λ_ _=>True) (λ_=>True):=
 LC.okU (i:=v0) (a:=()) (λ_ _=>rfl) (λ_=>rfl) rfl h0 h1 trivial λv0 _ hj hk hv=>by
  refine Tr.G2 ?_ λ_=>Tr.G2 ?_ λ_=>Tr.Z (by kernel_rfl)
  all_goals (grind)
noncomputable def mi:FT (Mac×Mac×Unit) (Bool) (λx=>fH x.1∧fH x.2.1) (λ_ _=>True):=⟨λ(x0,x1,_)=>
  .bnd (β:=Bool×Unit) (.ite (!(x0.use==x1.use)) (.ret (true,()))<|
   .ite (x0.k != x1.k) (.ret (true,()))<|
   .ite (x0.l != x1.l) (.ret (true,()))<|
   .ret (((x0.rows.length:Int) != (x1.rows.length:Int)),())) λ(u1a0,_)=>
  .ite u1a0 (.ret false)<|
  .lp (fa (0,x0,x1,())).lp λw2=> .sum w2 (λ_=>
  .ret false)<|
  λ_=>
  .ret true,
 λ(x0,x1,_) hp=>by
  refine Tr.B (Q':=λ_=>True) (Tr.F (by kernel_rfl) trivial) (λ(u1a0,_) _ _=>Tr.I (λ_=>Tr.R trivial) λ_=>Tr.L (K0 ?_ ?_ ?_) (λ_ _=>Tr.Sr (Tr.R trivial)) (λ_ _=>Tr.Sl (Tr.R trivial)))
  all_goals ((try simp only[fa,LC.lp,LC.ct,Ct.lp,Tr.nice,bo]at*)<;>grind)⟩
noncomputable def Fe:=aV st FP EN [(bR 0 nl fa)] (ks:=[.st .mac,.st .mac]) mi (λv=>[(false,[.c (.bool v)])]) Tryz.func146 ⟨L0,trivial⟩
noncomputable def Ey:=[cz]
def m7:Sh:=⟨[zp 1 0,zi 3,zi 4],[.box [.st .mac [.sl .arg]]]⟩
def p6:Sh:=⟨[zp 1 0,zi 3],[.box [.st .mac [.sl .arg]]]⟩
noncomputable def Ew:Fx:=⟨147,Tryz.f147,[(2,lb [1,3,4] [1,2,3]),(0,lb [1,3] [1,2])],0⟩
noncomputable def qT (vb0:Int)(vb2:Mac)(vb1:Int)(a:Unit):Tr (Stp (Unit) ((Unit))):=
 .grd ((decide (0≤vb1))&&(decide (vb1<(vb2.rows.length:Int))))<|
 .grd ((decide (0≤vb0))&&(decide (vb0<(vb2.rows.length:Int))))<|
 .ite ((vb2.rows.getD vb1.toNat (Ty.zero .macRow)).input==(vb2.rows.getD vb0.toNat (Ty.zero .macRow)).input) (.ret (.out ()))<|
 .ret (.next ())
noncomputable def gd:m7.V→LC m7 (Unit) ((Unit)) (((Unit))⊕(Int×Unit)):=λ(vb0,vb1,vb2,_)=>⟨vb1,(),λvb1 _=>(vb0,vb1,vb2,()),λvb1 _=>(decide (vb1<vb0)),qT vb0 vb2,up,1,(Int.toNat (vb0-vb1)),.inl,λi a=> .inr (i,a),λ_ k w=>Sum.elim (λ_=>k .ret (Sh.enc ⟨[zp 1 0,zb 2,zi 3],[.box [.st .mac [.sl .arg]]]⟩ (false,vb0,vb2,()))) (λ_=>k (.exit 2) (Sh.enc ⟨[zp 1 0,zu 2,zi 3],[.box [.st .mac [.sl .arg]]]⟩ (vb0,vb2,()))) w⟩
theorem Lq:LS Tryz.prog Ew [0,0] (bR 2 m7 gd):=aW st (aj Ey) _ gd [] trivial
theorem J9 {vb0 vb1:Int}{vb2:Mac}(h0:0≤vb1)(h1:vb0≤4611686018427387904)(h2:vb0≤(vb2.rows.length:Int))(h3:0≤vb0)(h4:vb0<(vb2.rows.length:Int)):(gd (vb0,vb1,vb2,())).U vb0 (λ_ _=>True) (λ_=>True):=
 LC.okU (i:=vb1) (a:=()) (λ_ _=>rfl) (λ_=>rfl) rfl h0 h1 trivial λvb1 _ hj hk hv=>by
  refine Tr.G2 ?_ λ_=>Tr.G2 ?_ λ_=>Tr.Z (by kernel_rfl)
  all_goals (grind)
noncomputable def u6 (v1:Mac)(v0:Int)(a:Unit):Tr (Stp (Unit) ((Unit))):=
 .grd ((decide (0≤v0))&&(decide (v0<(v1.rows.length:Int))))<|
 .val (cr.f ((v1.rows.getD v0.toNat (Ty.zero .macRow)).value,0,16777215,())) λc1=>
 .ite (!c1) (.ret (.out ()))<|
 .lp (gd (v0,0,v1,())).lp λw2=> .sum w2 (λ_=>
 .ret (.out ()))<|
 λ_=>
 .ret (.next ())
noncomputable def i2:p6.V→LC p6 (Unit) ((Unit)) (((Unit))⊕(Int×Unit)):=λ(v0,v1,_)=>⟨v0,(),λv0 _=>(v0,v1,()),λv0 _=>(decide (v0<(v1.rows.length:Int))),u6 v1,up,1,(Int.toNat ((v1.rows.length:Int)-v0)),.inl,λi a=> .inr (i,a),λ_ k w=>Sum.elim (λ_=>k .ret (Sh.enc ⟨[zp 1 0,zb 2],[.box [.st .mac [.sl .arg]]]⟩ (false,v1,()))) (λ_=>k (.exit 0) (Sh.enc ⟨[zp 1 0,zu 2],[.box [.st .mac [.sl .arg]]]⟩ (v1,()))) w⟩
theorem PL:LS Tryz.prog Ew [0] (bR 0 p6 i2):=aW st (aj Ey) _ i2 [(bR 2 m7 gd)] ⟨Lq,trivial⟩
theorem PY {v0:Int}{v1:Mac}(h0:0≤v0)(h1:(v1.rows.length:Int)≤4611686018427387904)(h2:fH v1):(i2 (v0,v1,())).U (v1.rows.length:Int) (λ_ _=>True) (λ_=>True):=
 LC.okU (i:=v0) (a:=()) (λ_ _=>rfl) (λ_=>rfl) rfl h0 h1 trivial λv0 _ hj hk hv=>by
  refine Tr.G2 ?_ λ_=>Tr.V λ_ _=>Tr.I (λ_=>Tr.Ro trivial) λ_=>Tr.L (J9 ?_ ?_ ?_ ?_ ?_) (λ_ _=>Tr.Sr (Tr.Rn trivial)) (λ_ _=>Tr.Sl (Tr.Ro trivial))
  all_goals ((try simp only[gd,LC.lp,LC.ct,Ct.lp]at*)<;>grind)
noncomputable def CG:FT (Mac×Unit) (Bool) (λx=>fH x.1) (λx v=>(v=true→x.1.rows.length≤64)):=⟨λ(x0,_)=>
  .ite (!x0.use) (.ret ((x0.rows.length:Int)==0))<|
  .lp (i2 (0,x0,())).lp λw3=> .sum w3 (λ_=>
  .ret false)<|
  λ_=>
  .ite (x0.k==0) (.ite (x0.l==0) (.ret (decide ((x0.rows.length:Int)≤64)))<|
   .ret false)<|
  .ret false,
 λ(x0,_) hp=>by
  refine Tr.I (λ_=>Tr.R ?_) λ_=>Tr.L (PY ?_ ?_ ?_) (λ_ _=>Tr.Sr (Tr.I (λ_=>Tr.I (λ_=>Tr.R ?_) λ_=>Tr.R ?_) λ_=>Tr.R ?_)) (λ_ _=>Tr.Sl (Tr.R ?_))
  all_goals ((try simp only[i2,LC.lp,LC.ct,Ct.lp]at*)<;>grind)⟩
noncomputable def Y9:=aV st Ew Ey [(bR 0 p6 i2)] (ks:=[.st .mac]) CG (λv=>[(false,[.c (.bool v)])]) Tryz.func147 ⟨PL,trivial⟩
noncomputable def SH:List (Ent1 Tryz.prog):=[]
def sG:Sh:=⟨[(0,false,[.sl .arg .entr]),(3,false,[.own 0]),zi 4],[.arr .entr false true]⟩
noncomputable def S3:Fx:=⟨150,Tryz.f150,[(0,lb [0,3,4] [2,3])],0⟩
noncomputable def Tw (v0:List Entr)(v1:Int)(a:List Entr):Tr (Stp (List Entr) (Empty)):=
 .grd ((decide (0≤v1))&&(decide (v1<(v0.length:Int))))<|
 .ite (decide ((v0.getD v1.toNat (Ty.zero .entr)).age<9)) (.grd (Nat.ble ((2*(a.length+1)+1024)*24) aF)<|
  .val (a++[({(v0.getD v1.toNat (Ty.zero .entr))with age:=(IntKind.wrap .i64 ((v0.getD v1.toNat (Ty.zero .entr)).age+1))}:Entr)]) λl1=>
  .ret (.next l1))<|
 .ret (.next a)
noncomputable def me:sG.V→LC sG (List Entr) (Empty) (Int×(List Entr)):=λ(v0,v1,v2,_)=>⟨v1,v2,λv1 a=>(v0,v1,a,()),λv1 _=>(decide (v1<(v0.length:Int))),Tw v0,up,1,(Int.toNat ((v0.length:Int)-v1)),(λp=>Empty.elim p),λi a=>(i,a),λ_ k x=>k (.exit 0) (Sh.enc ⟨[zu 2,(3,false,[.own 0])],[.arr .entr false true]⟩ (x.2,()))⟩
theorem RD:LS Tryz.prog S3 [0] (bR 0 sG me):=aW st (aj SH) _ me [] trivial
theorem Uo {v0 v2:List Entr}{v1:Int}(h0:0≤v1)(h1:(v0.length:Int)≤4611686018427387904)(h2:sS v0)(h3:(v2.length:Int)≤v1):(me (v0,v1,v2,())).U (v0.length:Int) (λv1 a=>(a.length:Int)≤v1) (λ_=>True):=
 LC.okU (i:=v1) (a:=v2) (λ_ _=>rfl) (λ_=>rfl) rfl h0 h1 h3 λv1 v2 hj hk hv=>by
  refine Tr.G2 ?_ λ_=>Tr.I (λ_=>Tr.Gb ?_ λ_=>Tr.V λ_ _=>Tr.Rn ?_) λ_=>Tr.Rn ?_
  all_goals (grind)
noncomputable def Zm:FT (List Entr×Unit) (List Entr) (λx=>sS x.1) (λx v=>sS v∧v.length≤x.1.length):=⟨λ(x0,_)=>
  .lp (me (x0,0,[],())).lp λ(_,a2_0)=>
  .ret a2_0,
 λ(x0,_) hp=>by
  refine Tr.L (Uo ?_ ?_ ?_ ?_) (λa2_0 _=>Tr.R ?_) (λp=>Empty.elim p)
  all_goals ((try simp only[me,LC.lp,LC.ct,Ct.lp]at*)<;>grind)⟩
noncomputable def aar:=aV st S3 SH [(bR 0 sG me)] (ks:=[.sc (.sl .entr)]) Zm (λv=>[(false,[sc (.o true) .entr v])]) Tryz.func150 ⟨RD,trivial⟩
noncomputable def CV:List (Ent1 Tryz.prog):=[]
def lw:Sh:=⟨[(0,false,[.sl .arg .tupl]),zp 3 0,zi 5],[.box [.st .tupl []]]⟩
noncomputable def Bb:Fx:=⟨153,Tryz.f153,[(0,lb [0,3,5] [4])],0⟩
noncomputable def wj (v0:List Tupl)(v2:Tupl)(v1:Int)(a:Unit):Tr (Stp (Unit) ((Unit))):=
 .grd ((decide (0≤v1))&&(decide (v1<(v0.length:Int))))<|
 .ite (((v0.getD v1.toNat (Ty.zero .tupl)).ip==v2.ip)&&(((v0.getD v1.toNat (Ty.zero .tupl)).port==v2.port)&&(((v0.getD v1.toNat (Ty.zero .tupl)).my==v2.my)&&true))) (.ret (.out ()))<|
 .ret (.next ())
noncomputable def fv:lw.V→LC lw (Unit) ((Unit)) (((Unit))⊕(Int×Unit)):=λ(v0,v1,v2,_)=>⟨v1,(),λv1 _=>(v0,v1,v2,()),λv1 _=>(decide (v1<(v0.length:Int))),wj v0 v2,up,1,(Int.toNat ((v0.length:Int)-v1)),.inl,λi a=> .inr (i,a),λ_ k w=>Sum.elim (λ_=>k .ret (Sh.enc ⟨[zb 4],[]⟩ (true,()))) (λ_=>k (.exit 0) (Sh.enc ⟨[zu 4],[]⟩ ())) w⟩
theorem GI:LS Tryz.prog Bb [0] (bR 0 lw fv):=aW st (aj CV) _ fv [] trivial
theorem Gu {v0:List Tupl}{v1:Int}{v2:Tupl}(h0:0≤v1)(h1:(v0.length:Int)≤4611686018427387904):(fv (v0,v1,v2,())).U (v0.length:Int) (λ_ _=>True) (λ_=>True):=
 LC.okU (i:=v1) (a:=()) (λ_ _=>rfl) (λ_=>rfl) rfl h0 h1 trivial λv1 _ hj hk hv=>by
  refine Tr.G2 ?_ λ_=>Tr.Z (by kernel_rfl)
  all_goals (grind)
noncomputable def uQ:FT (List Tupl×Tupl×Unit) (Bool) (λx=>wS x.1) (λ_ _=>True):=⟨λ(x0,x1,_)=>
  .lp (fv (x0,0,x1,())).lp λw1=> .sum w1 (λ_=>
  .ret true)<|
  λ_=>
  .ret false,
 λ(x0,x1,_) hp=>by
  refine Tr.L (Gu ?_ ?_) (λ_ _=>Tr.Sr (Tr.R trivial)) (λ_ _=>Tr.Sl (Tr.R trivial))
  all_goals ((try simp only[fv,LC.lp,LC.ct,Ct.lp]at*)<;>grind)⟩
noncomputable def Rc:=aV st Bb CV [(bR 0 lw fv)] (ks:=[.sc (.sl .tupl),.st .tupl]) uQ (λv=>[(false,[.c (.bool v)])]) Tryz.func153 ⟨GI,trivial⟩
noncomputable def bS:FF (Int×Unit) (Int):=⟨λ(x0,_)=>
  .ite (decide ((x0.tmod 4294967296)<0)) (.ret (IntKind.wrap .i64 ((x0.tmod 4294967296)+4294967296)))<|
  .ret (x0.tmod 4294967296)⟩
@[grind=] theorem ab8 (x0:Int):bS.f (x0,())=(x0%4294967296):=by
 simp only[bS,FF.f,Tr.nice]
 rcases Int.lt_or_le x0 0 with h|h
 ·rw[(gP 4294967296).2 h,cQ]
  cases hd:decide (-(-x0%4294967296)<0)with
  |true=>simp only[decide_eq_true_eq]at hd;simp only[cond_true];omega
  |false=>simp only[decide_eq_false_iff_not]at hd;simp only[cond_false];omega
 ·rw[(gP 4294967296).1 h,cQ]
  cases hd:decide (x0%4294967296<0)with
  |true=>simp only[decide_eq_true_eq]at hd;omega
  |false=>rfl
noncomputable def iZ:=lJ st Tryz.func161 [] (ks:=[.sc (.int .i64)]) bS (λv=>[(false,[.c (.int .i64 v)])])
noncomputable def eE:FT (List Half×Unit) (List Half) (λx=>sS x.1) (λx v=>v=x.1):=⟨λx=> .ret x.1,λ_ _=>Tr.R rfl⟩
theorem Kl (x:List Half×Unit)(hp:sS x.1):Im Tryz.prog 176 (Mq [.sc (.sl .half)] x) ((λv=>[rv (.sc (.sl .half)) [.o true] v]) (eE.f x)):=by
 refine Im.byNil (t:= .half) (xs:=x.1) (λh=> ?_) ?_
 ·obtain⟨x,_⟩:=x;subst h
  exact fn0 st Tryz.func176 (by kernel_rfl) (by kernel_rfl)
 ·exact fn0 st Tryz.func176 (by kernel_rfl) (Eq.trans (b:=bif Nat.ble ((2*(0+x.1.length)+1024)*96) aF then some ((λv=>[rv (.sc (.sl .half)) [.o true] v]) x.1)else none) (by kernel_rfl) (by rw[show Nat.ble ((2*(0+x.1.length)+1024)*96) aF=true by simp only[Nat.ble_eq,aF];simp only[sS]at hp;omega];rfl))
noncomputable def rB:Ent1 Tryz.prog:=Zv 176 (ks:=[.sc (.sl .half)]) eE.c (λv=>[rv (.sc (.sl .half)) [.o true] v]) Kl
noncomputable def yx:FF (Int×Segm×Unit) (Tupl):=⟨λ(x0,x1,_)=>
  .ret (⟨x0,x1.from_,x1.to⟩:Tupl)⟩
noncomputable def S4:=lJ st Tryz.func179 [] (ks:=[.sc (.int .i64),.st .segm]) yx (λv=>[(true,J7 v)])
noncomputable def yy:FT (Keys×Unit) (Keys) (λx=>cC x.1) (λx v=>cC v∧v=x.1):=⟨λ(x0,_)=>
  .cal nU.c (x0.now,()) λc1=>
  .cal nU.c (x0.before,()) λc2=>
  .ret (⟨x0.epoch,c1,c2,x0.two⟩:Keys),
 λ(x0,_) hp=>by
  refine Tr.C ?_ λc1 hc1 qc1=>Tr.C ?_ λc2 hc2 qc2=>Tr.R ?_
  all_goals ((first|grind|(refine⟨by grind, ?_⟩;first|(simp only[List.nil_append];done)|(subst_vars;rfl)|simp_all)))⟩
noncomputable def RT:=bf st Tryz.func191 [Fy] (ks:=[.st .keys]) yy (λv=>[(true,KA (.o true) (.o true) v)])
noncomputable def nX:FF (Int×Segm×Unit) (Tupl):=⟨λ(x0,x1,_)=>
  .ret (⟨x0,x1.from_,x1.to⟩:Tupl)⟩
noncomputable def x9:=lJ st Tryz.func192 [] (ks:=[.sc (.int .i64),.st .segm]) nX (λv=>[(true,J7 v)])
noncomputable def ry:FT (List Half×Tupl×Unit) (List Half) (λx=>sS x.1) (λx v=>sS v):=⟨λ(x0,x1,_)=>
  .cal jt.c (x0,x1,()) λc1=>
  .ite (decide (c1<0)) (.grd (Nat.ble ((2*(0+x0.length)+1024)*96) aF)<|
   .ret ([]++x0))<|
  .grd ((decide (0≤c1))&&(decide (c1≤(x0.length:Int))))<|
  .grd (Nat.ble ((2*(0+((x0.take c1.toNat).drop 0).length)+1024)*96) aF)<|
  .grd (((decide (0≤(IntKind.wrap .i64 (c1+1))))&&(decide ((IntKind.wrap .i64 (c1+1))≤(x0.length:Int))))&&(decide ((x0.length:Int)≤(x0.length:Int))))<|
  .grd (Nat.ble ((2*(([]++((x0.take c1.toNat).drop 0)).length+((x0.take ((x0.length:Int).toNat)).drop ((IntKind.wrap .i64 (c1+1)).toNat)).length)+1024)*96) aF)<|
  .val (([]++((x0.take c1.toNat).drop 0))++((x0.take ((x0.length:Int).toNat)).drop ((IntKind.wrap .i64 (c1+1)).toNat))) λl2=>
  .ret l2,
 λ(x0,x1,_) hp=>by
  refine Tr.C ?_ λ_ _ _=>Tr.I (λ_=>Tr.Gb ?_ λ_=>Tr.R ?_) λ_=>Tr.G2 ?_ λ_=>Tr.Gb ?_ λ_=>Tr.G3 ?_ λ_=>Tr.Gb ?_ λ_=>Tr.V λ_ _=>Tr.R ?_
  all_goals (grind)⟩
noncomputable def Cr:=bf st Tryz.func195 [m9] (ks:=[.sc (.sl .half),.st .tupl]) ry (λv=>[(false,[sc (.o true) .half v])])
noncomputable def bM:FF (Unit) (Opti):=⟨λ_=>
  .ret (⟨0,(-1),false,false,0,0⟩:Opti)⟩
noncomputable def eB:=lJ st Tryz.func198 [] (ks:=[]) bM (λv=>[(true,nV v)])
noncomputable def dY:FT (Recv×Unit) (Recv) (λx=>ax x.1) (λx v=>ax v∧v=x.1):=⟨λ(x0,_)=>
  .grd (Nat.ble ((2*(0+x0.held.length)+1024)*24) aF)<|
  .ret ({x0 with held:=([]++x0.held)}:Recv),
 λ(x0,_) hp=>by
  refine Tr.Gb ?_ λg0=>Tr.R ?_
  all_goals ((first|grind|(refine⟨by grind, ?_⟩;first|(simp only[List.nil_append];done)|(subst_vars;rfl)|simp_all)))⟩
noncomputable def xh:=bf st Tryz.func199 [] (ks:=[.st .recv]) dY (λv=>[(true,vm (.o true) v)])
noncomputable def uC:FT (Limi×Unit) (Bool) (λ_=>True) (λx v=>(v=true→x.1.halves≤64∧x.1.waiting≤16∧x.1.conns≤16)):=⟨λ(x0,_)=>
  .val (cr.f (x0.halves,1,64,())) λc1=>
  .ite c1 (.val (cr.f (x0.waiting,1,16,())) λc2=>
   .ite c2 (.val (cr.f (x0.conns,1,16,())) λc3=>
    .ite c3 (.val (cr.f (x0.chal,0,1000,())) λc4=>
     .ret c4)<|
    .ret false)<|
   .ret false)<|
  .ret false,
 λ(x0,_) hp=>by
  refine Tr.V λ_ _=>Tr.I (λ_=>Tr.V λ_ _=>Tr.I (λ_=>Tr.V λ_ _=>Tr.I (λ_=>Tr.V λ_ _=>Tr.R ?_) λ_=>Tr.R ?_) λ_=>Tr.R ?_) λ_=>Tr.R ?_
  all_goals (grind)⟩
noncomputable def P3:=bf st Tryz.func200 [cz] (ks:=[.st .limi]) uC (λv=>[(false,[.c (.bool v)])])
noncomputable def gz:FT (Limi×Unit) (Bool) (λ_=>True) (λx v=>(v=true→x.1.halves≤64∧x.1.waiting≤16∧x.1.conns≤16)):=⟨λ(x0,_)=>
  .val (bq.f (x0.halves,1,64,())) λc1=>
  .ite c1 (.val (bq.f (x0.waiting,1,16,())) λc2=>
   .ite c2 (.val (bq.f (x0.conns,1,16,())) λc3=>
    .ite c3 (.val (bq.f (x0.chal,0,1000,())) λc4=>
     .ret c4)<|
    .ret false)<|
   .ret false)<|
  .ret false,
 λ(x0,_) hp=>by
  refine Tr.V λ_ _=>Tr.I (λ_=>Tr.V λ_ _=>Tr.I (λ_=>Tr.V λ_ _=>Tr.I (λ_=>Tr.V λ_ _=>Tr.R ?_) λ_=>Tr.R ?_) λ_=>Tr.R ?_) λ_=>Tr.R ?_
  all_goals (grind)⟩
noncomputable def QZ:=bf st Tryz.func204 [bF] (ks:=[.st .limi]) gz (λv=>[(false,[.c (.bool v)])])
noncomputable def vB:List (Ent1 Tryz.prog):=[]
def i1:Sh:=⟨[(0,false,[.sl .arg .tupl]),zp 3 0,zi 7,zi 8],[.box [.st .tupl []]]⟩
noncomputable def wv:Fx:=⟨206,Tryz.f206,[(0,lb [0,3,7,8] [4])],0⟩
noncomputable def rL (v0:List Tupl)(v3:Tupl)(v2:Int)(a:Unit):Tr (Stp (Unit) ((Int))):=
 .grd ((decide (0≤v2))&&(decide (v2<(v0.length:Int))))<|
 .ite ((v3.ip==(v0.getD v2.toNat (Ty.zero .tupl)).ip)&&((v3.port==(v0.getD v2.toNat (Ty.zero .tupl)).port)&&((v3.my==(v0.getD v2.toNat (Ty.zero .tupl)).my)&&true))) (.ret (.out v2))<|
 .ret (.next ())
noncomputable def dq:i1.V→LC i1 (Unit) ((Int)) (((Int))⊕(Int×Unit)):=λ(v0,v1,v2,v3,_)=>⟨v2,(),λv2 _=>(v0,v1,v2,v3,()),λv2 _=>(decide (v2<v1)),rL v0 v3,up,1,(Int.toNat (v1-v2)),.inl,λi a=> .inr (i,a),λ_ k w=>Sum.elim (λp=>k .ret (Sh.enc ⟨[zi 4],[]⟩ (p,()))) (λ_=>k (.exit 0) (Sh.enc ⟨[zu 4],[]⟩ ())) w⟩
theorem zZ:LS Tryz.prog wv [0] (bR 0 i1 dq):=aW st (aj vB) _ dq [] trivial
theorem AF {v0:List Tupl}{v1 v2:Int}{v3:Tupl}(h0:0≤v2)(h1:v1≤4611686018427387904)(h2:v1≤(v0.length:Int)):(dq (v0,v1,v2,v3,())).U v1 (λ_ _=>True) (λp=>v2≤p∧p<v1):=
 LC.okU (i:=v2) (a:=()) (λ_ _=>rfl) (λ_=>rfl) rfl h0 h1 trivial λv2 _ hj hk hv=>by
  refine Tr.G2 ?_ λ_=>Tr.I (λ_=>Tr.Ro ?_) λ_=>Tr.Rn trivial
  all_goals (grind)
noncomputable def oU:FT (List Tupl×Tupl×Unit) (Int) (λx=>wS x.1) (λx v=> -1≤v∧v<x.1.length):=⟨λ(x0,x1,_)=>
  .lp (dq (x0,(x0.length:Int),0,x1,())).lp λw1=> .sum w1 (λp1a0=>
  .ret p1a0)<|
  λ_=>
  .ret (-1),
 λ(x0,x1,_) hp=>by
  refine Tr.L (AF ?_ ?_ ?_) (λ_ _=>Tr.Sr (Tr.R ?_)) (λp1a0 _=>Tr.Sl (Tr.R ?_))
  all_goals ((try simp only[dq,LC.lp,LC.ct,Ct.lp]at*)<;>grind)⟩
noncomputable def Hv:=aV st wv vB [(bR 0 i1 dq)] (ks:=[.sc (.sl .tupl),.st .tupl]) oU (λv=>[(false,[.c (.int .i64 v)])]) Tryz.func206 ⟨zZ,trivial⟩
noncomputable def sA:FF (Fram×Int×Unit) (Bool):=⟨λ(x0,x1,_)=>
  .ite (x0.dst==x1) (.ret true)<|
  .ret (x0.dst==281474976710655)⟩
noncomputable def XP:=lJ st Tryz.func219 [] (ks:=[.st .fram,.sc (.int .i64)]) sA (λv=>[(false,[.c (.bool v)])])
noncomputable def N8:List (Ent1 Tryz.prog):=[]
def pR:Sh:=⟨[(0,false,[.sl .arg .entr]),zi 1,zi 5],[]⟩
noncomputable def NN:Fx:=⟨236,Tryz.f236,[(0,lb [0,1,5] [4])],0⟩
noncomputable def B9 (v0:List Entr)(v1:Int)(v2:Int)(a:Unit):Tr (Stp (Unit) ((Int))):=
 .grd ((decide (0≤v2))&&(decide (v2<(v0.length:Int))))<|
 .ite ((v0.getD v2.toNat (Ty.zero .entr)).ip==v1) (.ret (.out v2))<|
 .ret (.next ())
noncomputable def jc:pR.V→LC pR (Unit) ((Int)) (((Int))⊕(Int×Unit)):=λ(v0,v1,v2,_)=>⟨v2,(),λv2 _=>(v0,v1,v2,()),λv2 _=>(decide (v2<(v0.length:Int))),B9 v0 v1,up,1,(Int.toNat ((v0.length:Int)-v2)),.inl,λi a=> .inr (i,a),λ_ k w=>Sum.elim (λp=>k .ret (Sh.enc ⟨[zi 4],[]⟩ (p,()))) (λ_=>k (.exit 0) (Sh.enc ⟨[zu 4],[]⟩ ())) w⟩
theorem PZ:LS Tryz.prog NN [0] (bR 0 pR jc):=aW st (aj N8) _ jc [] trivial
theorem Ri {v0:List Entr}{v1 v2:Int}(h0:0≤v2)(h1:(v0.length:Int)≤4611686018427387904):(jc (v0,v1,v2,())).U (v0.length:Int) (λ_ _=>True) (λp=>v2≤p∧p<(v0.length:Int)):=
 LC.okU (i:=v2) (a:=()) (λ_ _=>rfl) (λ_=>rfl) rfl h0 h1 trivial λv2 _ hj hk hv=>by
  refine Tr.G2 ?_ λ_=>Tr.I (λ_=>Tr.Ro ?_) λ_=>Tr.Rn trivial
  all_goals (grind)
noncomputable def yE:FT (List Entr×Int×Unit) (Int) (λx=>sS x.1) (λx v=> -1≤v∧v<x.1.length):=⟨λ(x0,x1,_)=>
  .lp (jc (x0,x1,0,())).lp λw1=> .sum w1 (λp1a0=>
  .ret p1a0)<|
  λ_=>
  .ret (-1),
 λ(x0,x1,_) hp=>by
  refine Tr.L (Ri ?_ ?_) (λ_ _=>Tr.Sr (Tr.R ?_)) (λp1a0 _=>Tr.Sl (Tr.R ?_))
  all_goals ((try simp only[jc,LC.lp,LC.ct,Ct.lp]at*)<;>grind)⟩
noncomputable def Ds:=aV st NN N8 [(bR 0 pR jc)] (ks:=[.sc (.sl .entr),.sc (.int .i64)]) yE (λv=>[(false,[.c (.int .i64 v)])]) Tryz.func236 ⟨PZ,trivial⟩
noncomputable def Za:=[pq,od]
noncomputable def YR:Fx:=⟨239,Tryz.f239,[(3000002,rA 0 8),(3000004,rA 0 22),(3000006,rA 0 35),(3000008,rA 0 44)],0⟩
noncomputable def HE:FT (Opti×ac×Unit) (Opti) (λx=>sS x.2.1∧0<x.2.1.length) (λ_ _=>True):=⟨λ(x0,x1,_)=>
  .bnd (β:=Bool×Unit) (.grd (decide (0<(x1.length:Int)))<|
   .ite ((ae x1 0)==2) (.ret (((x1.length:Int)==4),()))<|
   .ret (false,())) λ(u1a0,_)=>
  .ite u1a0 (.cal bL.c (x1,2,2,()) λc2=>
   .ret ({x0 with mss:=c2.1}:Opti))<|
  .bnd (β:=Bool×Unit) (.grd (decide (0<(x1.length:Int)))<|
   .ite ((ae x1 0)==3) (.ret (((x1.length:Int)==3),()))<|
   .ret (false,())) λ(u3a0,_)=>
  .ite u3a0 (.grd (decide (2<(x1.length:Int)))<|
   .val (j1.f (14,(IntKind.wrap .i64 (ae x1 2)),())) λc4=>
   .ret ({x0 with scale:=c4}:Opti))<|
  .bnd (β:=Bool×Unit) (.grd (decide (0<(x1.length:Int)))<|
   .ite ((ae x1 0)==4) (.ret (((x1.length:Int)==2),()))<|
   .ret (false,())) λ(u5a0,_)=>
  .ite u5a0 (.ret ({x0 with sack:=true}:Opti))<|
  .bnd (β:=Bool×Unit) (.grd (decide (0<(x1.length:Int)))<|
   .ite ((ae x1 0)==8) (.ret (((x1.length:Int)==10),()))<|
   .ret (false,())) λ(u6a0,_)=>
  .ite u6a0 (.cal bL.c (x1,2,4,()) λc7=>
   .cal bL.c (x1,6,4,()) λc8=>
   .ret ({x0 with stamp:=true,val:=c7.1,echo:=c8.1}:Opti))<|
  .ret x0,
 λ(x0,x1,_) hp=>by
  refine Tr.B (Q':=λ_=>True) (Tr.G1 ?_ λ_=>Tr.F (by kernel_rfl) trivial) (λ(u1a0,_) _ _=>Tr.I (λ_=>Tr.C ?_ λ_ _ _=>Tr.R trivial) λ_=>Tr.B (Q':=λ_=>True) (Tr.G1 ?_ λ_=>Tr.F (by kernel_rfl) trivial) (λ(u3a0,_) _ _=>Tr.I (λ_=>Tr.G1 ?_ λ_=>Tr.F (by kernel_rfl) trivial) λ_=>Tr.B (Q':=λ_=>True) (Tr.G1 ?_ λ_=>Tr.F (by kernel_rfl) trivial) (λ(u5a0,_) _ _=>Tr.I (λ_=>Tr.R trivial) λ_=>Tr.B (Q':=λ_=>True) (Tr.G1 ?_ λ_=>Tr.F (by kernel_rfl) trivial) (λ(u6a0,_) _ _=>Tr.I (λ_=>Tr.C ?_ λ_ _ _=>Tr.C ?_ λ_ _ _=>Tr.R trivial) λ_=>Tr.R trivial))))
  all_goals ((try simp only[Tr.nice,bo]at*)<;>grind)⟩
noncomputable def Ys:=aV st YR Za [] (ks:=[.st .opti,.sc .str]) HE (λv=>[(true,nV v)]) Tryz.func239 trivial
noncomputable def vA:List (Ent1 Tryz.prog):=[]
def jk:Sh:=⟨[(0,false,[.sl .arg .entr]),(1,false,[.sl .arg .entr]),zi 12,zi 13],[]⟩
noncomputable def wm:Fx:=⟨240,Tryz.f240,[(0,lb [0,1,12,13] [4])],0⟩
noncomputable def rf (v0 v1:List Entr)(v3:Int)(a:Unit):Tr (Stp (Unit) ((Unit))):=
 .grd ((decide (0≤v3))&&(decide (v3<(v0.length:Int))))<|
 .grd ((decide (0≤v3))&&(decide (v3<(v1.length:Int))))<|
 .ite (!(((v0.getD v3.toNat (Ty.zero .entr)).ip==(v1.getD v3.toNat (Ty.zero .entr)).ip)&&(((v0.getD v3.toNat (Ty.zero .entr)).hw==(v1.getD v3.toNat (Ty.zero .entr)).hw)&&(((v0.getD v3.toNat (Ty.zero .entr)).age==(v1.getD v3.toNat (Ty.zero .entr)).age)&&true)))) (.ret (.out ()))<|
 .ret (.next ())
noncomputable def di:jk.V→LC jk (Unit) ((Unit)) (((Unit))⊕(Int×Unit)):=λ(v0,v1,v2,v3,_)=>⟨v3,(),λv3 _=>(v0,v1,v2,v3,()),λv3 _=>(decide (v3<v2)),rf v0 v1,up,1,(Int.toNat (v2-v3)),.inl,λi a=> .inr (i,a),λ_ k w=>Sum.elim (λ_=>k .ret (Sh.enc ⟨[zb 4],[]⟩ (false,()))) (λ_=>k (.exit 0) (Sh.enc ⟨[zu 4],[]⟩ ())) w⟩
theorem AD:LS Tryz.prog wm [0] (bR 0 jk di):=aW st (aj vA) _ di [] trivial
theorem AU {v0 v1:List Entr}{v2 v3:Int}(h0:0≤v3)(h1:v2≤4611686018427387904)(h2:v2≤(v0.length:Int))(h3:v2≤(v1.length:Int)):(di (v0,v1,v2,v3,())).U v2 (λ_ _=>True) (λ_=>True):=
 LC.okU (i:=v3) (a:=()) (λ_ _=>rfl) (λ_=>rfl) rfl h0 h1 trivial λv3 _ hj hk hv=>by
  refine Tr.G2 ?_ λ_=>Tr.G2 ?_ λ_=>Tr.Z (by kernel_rfl)
  all_goals (grind)
noncomputable def sW:FT (List Entr×List Entr×Unit) (Bool) (λx=>sS x.1∧sS x.2.1) (λ_ _=>True):=⟨λ(x0,x1,_)=>
  .ite ((x0.length:Int) != (x1.length:Int)) (.ret false)<|
  .lp (di (x0,x1,(x0.length:Int),0,())).lp λw1=> .sum w1 (λ_=>
  .ret false)<|
  λ_=>
  .ret true,
 λ(x0,x1,_) hp=>by
  refine Tr.I (λ_=>Tr.R trivial) λ_=>Tr.L (AU ?_ ?_ ?_ ?_) (λ_ _=>Tr.Sr (Tr.R trivial)) (λ_ _=>Tr.Sl (Tr.R trivial))
  all_goals ((try simp only[di,LC.lp,LC.ct,Ct.lp]at*)<;>grind)⟩
noncomputable def Gq:=aV st wm vA [(bR 0 jk di)] (ks:=[.sc (.sl .entr),.sc (.sl .entr)]) sW (λv=>[(false,[.c (.bool v)])]) Tryz.func240 ⟨AD,trivial⟩
noncomputable def mO:FT (List MacRow×Unit) (List MacRow) (λx=>sS x.1) (λx v=>v=x.1):=⟨λx=> .ret x.1,λ_ _=>Tr.R rfl⟩
theorem DD (x:List MacRow×Unit)(hp:sS x.1):Im Tryz.prog 247 (Mq [.sc (.sl .macRow)] x) ((λv=>[rv (.sc (.sl .macRow)) [.o true] v]) (mO.f x)):=by
 refine Im.byNil (t:= .macRow) (xs:=x.1) (λh=> ?_) ?_
 ·obtain⟨x,_⟩:=x;subst h
  exact fn0 st Tryz.func247 (by kernel_rfl) (by kernel_rfl)
 ·exact fn0 st Tryz.func247 (by kernel_rfl) (Eq.trans (b:=bif Nat.ble ((2*(0+x.1.length)+1024)*24) aF then some ((λv=>[rv (.sc (.sl .macRow)) [.o true] v]) x.1)else none) (by kernel_rfl) (by rw[show Nat.ble ((2*(0+x.1.length)+1024)*24) aF=true by simp only[Nat.ble_eq,aF];simp only[sS]at hp;omega];rfl))
noncomputable def D3:Ent1 Tryz.prog:=Zv 247 (ks:=[.sc (.sl .macRow)]) mO.c (λv=>[rv (.sc (.sl .macRow)) [.o true] v]) DD
noncomputable def qG:FT (List MacRow×Unit) (Mac) (λx=>sL cm x.1) (λx v=>fH v):=⟨λ(x0,_)=>
  .grd (Nat.ble ((2*(0+x0.length)+1024)*24) aF)<|
  .ret (⟨true,0,0,([]++x0)⟩:Mac),
 λ(x0,_) hp=>by
  refine Tr.Gb ?_ λ_=>Tr.R ?_
  all_goals (grind)⟩
noncomputable def BA:=bf st Tryz.func268 [] (ks:=[.sc (.sl .macRow)]) qG (λv=>[(true,Jp (.o true) v)])
noncomputable def fO:FF (Int×Int×Unit) (Int):=⟨λ(x0,x1,_)=>
  .ite (decide (x1<x0)) (.ret x0)<|
  .ret x1⟩
@[grind=] theorem qQ (x0 x1:Int):fO.f (x0,x1,())=(if x1<x0 then x0 else x1):=by
 simp only[fO,FF.f,Tr.nice]
 by_cases h:x1<x0<;>simp[h]
noncomputable def mf:=lJ st Tryz.func274 [] (ks:=[.sc (.int .i64),.sc (.int .i64)]) fO (λv=>[(false,[.c (.int .i64 v)])])
noncomputable def gZ:FT (Recv×Unit) (Int) (λx=>ax x.1) (λx v=>0≤v∧v≤32∧(x.1.data.length≤32→v=Yf x.1)):=⟨λ(x0,_)=>
  .ite x0.done (.ret 0)<|
  .val (fO.f (0,(IntKind.wrap .i64 (32-(x0.data.length:Int))),())) λc1=>
  .ret c1,
 λ(x0,_) hp=>by
  refine Tr.I (λ_=>Tr.R ?_) λ_=>Tr.V λ_ _=>Tr.R ?_
  all_goals (grind)⟩
noncomputable def kT:=bf st Tryz.func279 [mf] (ks:=[.st .recv]) gZ (λv=>[(false,[.c (.int .i64 v)])])
noncomputable def oI:FT (List Tupl×Unit) (List Tupl) (λx=>sS x.1) (λx v=>v=x.1):=⟨λx=> .ret x.1,λ_ _=>Tr.R rfl⟩
theorem GF (x:List Tupl×Unit)(hp:sS x.1):Im Tryz.prog 292 (Mq [.sc (.sl .tupl)] x) ((λv=>[rv (.sc (.sl .tupl)) [.o true] v]) (oI.f x)):=by
 refine Im.byNil (t:= .tupl) (xs:=x.1) (λh=> ?_) ?_
 ·obtain⟨x,_⟩:=x;subst h
  exact fn0 st Tryz.func292 (by kernel_rfl) (by kernel_rfl)
 ·exact fn0 st Tryz.func292 (by kernel_rfl) (Eq.trans (b:=bif Nat.ble ((2*(0+x.1.length)+1024)*24) aF then some ((λv=>[rv (.sc (.sl .tupl)) [.o true] v]) x.1)else none) (by kernel_rfl) (by rw[show Nat.ble ((2*(0+x.1.length)+1024)*24) aF=true by simp only[Nat.ble_eq,aF];simp only[sS]at hp;omega];rfl))
noncomputable def Hf:Ent1 Tryz.prog:=Zv 292 (ks:=[.sc (.sl .tupl)]) oI.c (λv=>[rv (.sc (.sl .tupl)) [.o true] v]) GF
noncomputable def aO:FT (Segm×Unit) (Int) (λx=>ao x.1) (λx v=>0≤v∧v≤x.1.body.length+2):=⟨λ(x0,_)=>
  .val (bB.f (x0,2,())) λc1=>
  .ite c1 (.val (bB.f (x0,1,())) λc2=>
   .ite c2 (.val (IntKind.wrap .i64 ((IntKind.wrap .i64 ((x0.body.length:Int)+1))+1)) λe3=>
    .ret e3)<|
   .ret (IntKind.wrap .i64 ((x0.body.length:Int)+1)))<|
  .val (bB.f (x0,1,())) λc4=>
  .ite c4 (.ret (IntKind.wrap .i64 ((x0.body.length:Int)+1)))<|
  .ret (x0.body.length:Int),
 λ(x0,_) hp=>by
  refine Tr.V λ_ _=>Tr.I (λ_=>Tr.V λ_ _=>Tr.I (λ_=>Tr.V λ_ _=>Tr.R ?_) λ_=>Tr.R ?_) λ_=>Tr.V λ_ _=>Tr.I (λ_=>Tr.R ?_) λ_=>Tr.R ?_
  all_goals (grind)⟩
noncomputable def qZ:=bf st Tryz.func298 [yz] (ks:=[.st .segm]) aO (λv=>[(false,[.c (.int .i64 v)])])
noncomputable def sZ:FT (List Half×Int×Int×Unit) (Nat×List Half) (λx=>sS x.1∧0≤x.2.1∧x.2.1≤x.2.2.1∧x.2.2.1≤x.1.length) (λx v=>sS v.2∧v.1≤x.1.length∧v.2.length=x.1.length):=⟨λ(x0,x1,x2,_)=>
  .grd ((((decide (0≤x1))&&(decide (x1≤x2)))&&(decide (x2≤(x0.length:Int))))&&(decide ((x0.length:Int)≤(x0.length:Int))))<|
  .ite (x1==x2) (.ret (x0.length,x0))<|
  .grd ((decide (0≤x1))&&(decide (x1≤(x0.length:Int))))<|
  .grd (((decide (0≤x2))&&(decide (x2≤(x0.length:Int))))&&(decide ((x0.length:Int)≤(x0.length:Int))))<|
  .grd (((Nat.ble x1.toNat x2.toNat)&&(Nat.beq ((x0.length:Int).toNat) x0.length))&&true)<|
  .val (((((x0.take x1.toNat++x0.drop x2.toNat)++x0.drop (x1.toNat+(x0.length-x2.toNat))).take (x1.toNat+(x0.length-x2.toNat))).drop 0).length:Int) λe1=>
  .grd (((decide (0≤e1))&&(decide (e1≤(x0.length:Int))))&&(decide ((x0.length:Int)≤(((x0.take x1.toNat++x0.drop x2.toNat)++x0.drop (x1.toNat+(x0.length-x2.toNat))).length:Int))))<|
  .val ((((x0.take x1.toNat++x0.drop x2.toNat)++x0.drop (x1.toNat+(x0.length-x2.toNat))).take e1.toNat++List.replicate ((x0.length:Int).toNat-e1.toNat) (Ty.zero .half))++((x0.take x1.toNat++x0.drop x2.toNat)++x0.drop (x1.toNat+(x0.length-x2.toNat))).drop ((x0.length:Int).toNat)) λl2=>
  .ret ((x1.toNat+(x0.length-x2.toNat)),l2),
 λ(x0,x1,x2,_) hp=>by
  refine Tr.G4 ?_ λg0=>Tr.I (λb1=>Tr.R ?_) λb1=>Tr.G2 ?_ λg2=>Tr.G3 ?_ λg3=>Tr.G ?_ λg4=>Tr.V λe1 he1=>Tr.G3 ?_ λg5=>Tr.V λl2 hl2=>Tr.R ?_
  all_goals ((first|grind|(simp only[Bool.and_eq_true,and_true,List.length_set,Nat.ble_eq,Nat.beq_eq,decide_eq_true_eq,List.length_append,List.length_take,List.length_drop,List.drop_zero,List.length_replicate,sS]at*;omega)))⟩
noncomputable def G7:=cJ st ⟨300,Tryz.f300,[],1⟩ [] [] [.wr false [.own 0],.sc (.int .i64),.sc (.int .i64)] [.arr .half] (λx y=>(y.1,x.2.1,x.2.2.1,())) sZ (λv=>[(false,[.shr 0 v.1])]) (λx y v=>(v.2,())) Tryz.func300 (by kernel_rfl) trivial
noncomputable def jG:FF (Opti×Unit) (Opti):=⟨λ(x0,_)=>
  .ite x0.stamp (.ret x0)<|
  .val (bO.f (())) λc1=>
  .ret ({c1 with mss:=x0.mss}:Opti)⟩
noncomputable def Hg:=lJ st Tryz.func303 [jK] (ks:=[.st .opti]) jG (λv=>[(true,nV v)])
noncomputable def oE:FT (List Piec×Unit) (List Piec) (λx=>sS x.1) (λx v=>v=x.1):=⟨λx=> .ret x.1,λ_ _=>Tr.R rfl⟩
theorem Hs (x:List Piec×Unit)(hp:sS x.1):Im Tryz.prog 308 (Mq [.sc (.sl .piec)] x) ((λv=>[rv (.sc (.sl .piec)) [.o true] v]) (oE.f x)):=by
 refine Im.byNil (t:= .piec) (xs:=x.1) (λh=> ?_) ?_
 ·obtain⟨x,_⟩:=x;subst h
  exact fn0 st Tryz.func308 (by kernel_rfl) (by kernel_rfl)
 ·exact fn0 st Tryz.func308 (by kernel_rfl) (Eq.trans (b:=bif Nat.ble ((2*(0+x.1.length)+1024)*24) aF then some ((λv=>[rv (.sc (.sl .piec)) [.o true] v]) x.1)else none) (by kernel_rfl) (by rw[show Nat.ble ((2*(0+x.1.length)+1024)*24) aF=true by simp only[Nat.ble_eq,aF];simp only[sS]at hp;omega];rfl))
noncomputable def GR:Ent1 Tryz.prog:=Zv 308 (ks:=[.sc (.sl .piec)]) oE.c (λv=>[rv (.sc (.sl .piec)) [.o true] v]) Hs
noncomputable def oW:FF (Opti×Unit) (Opti):=⟨λ(x0,_)=>
  .ite x0.stamp (.ret x0)<|
  .val (bM.f (())) λc1=>
  .ret ({c1 with mss:=x0.mss}:Opti)⟩
noncomputable def Hq:=lJ st Tryz.func313 [eB] (ks:=[.st .opti]) oW (λv=>[(true,nV v)])
noncomputable def LI:FF (Int×Unit) (Bool):=⟨λ(x0,_)=>
  .ite (x0 != 1) (.ret (x0 != 4))<|
  .ret false⟩
noncomputable def VR:=lJ st Tryz.func319 [] (ks:=[.sc (.int .i64)]) LI (λv=>[(false,[.c (.bool v)])])
noncomputable def ua:List (Ent1 Tryz.prog):=[]
def iu:Sh:=⟨[(0,false,[.sl .arg .macRow]),(1,false,[.sl .arg .macRow]),zi 12,zi 13],[]⟩
noncomputable def tv:Fx:=⟨322,Tryz.f322,[(0,lb [0,1,12,13] [4])],0⟩
noncomputable def pM (v0 v1:List MacRow)(v3:Int)(a:Unit):Tr (Stp (Unit) ((Unit))):=
 .grd ((decide (0≤v3))&&(decide (v3<(v0.length:Int))))<|
 .grd ((decide (0≤v3))&&(decide (v3<(v1.length:Int))))<|
 .ite (!(((v0.getD v3.toNat (Ty.zero .macRow)).input==(v1.getD v3.toNat (Ty.zero .macRow)).input)&&(((v0.getD v3.toNat (Ty.zero .macRow)).value==(v1.getD v3.toNat (Ty.zero .macRow)).value)&&true))) (.ret (.out ()))<|
 .ret (.next ())
noncomputable def cS:iu.V→LC iu (Unit) ((Unit)) (((Unit))⊕(Int×Unit)):=λ(v0,v1,v2,v3,_)=>⟨v3,(),λv3 _=>(v0,v1,v2,v3,()),λv3 _=>(decide (v3<v2)),pM v0 v1,up,1,(Int.toNat (v2-v3)),.inl,λi a=> .inr (i,a),λ_ k w=>Sum.elim (λ_=>k .ret (Sh.enc ⟨[zb 4],[]⟩ (false,()))) (λ_=>k (.exit 0) (Sh.enc ⟨[zu 4],[]⟩ ())) w⟩
theorem yX:LS Tryz.prog tv [0] (bR 0 iu cS):=aW st (aj ua) _ cS [] trivial
theorem y7 {v0 v1:List MacRow}{v2 v3:Int}(h0:0≤v3)(h1:v2≤4611686018427387904)(h2:v2≤(v0.length:Int))(h3:v2≤(v1.length:Int)):(cS (v0,v1,v2,v3,())).U v2 (λ_ _=>True) (λ_=>True):=
 LC.okU (i:=v3) (a:=()) (λ_ _=>rfl) (λ_=>rfl) rfl h0 h1 trivial λv3 _ hj hk hv=>by
  refine Tr.G2 ?_ λ_=>Tr.G2 ?_ λ_=>Tr.Z (by kernel_rfl)
  all_goals (grind)
noncomputable def rK:FT (List MacRow×List MacRow×Unit) (Bool) (λx=>sL cm x.1∧sL cm x.2.1) (λ_ _=>True):=⟨λ(x0,x1,_)=>
  .ite ((x0.length:Int) != (x1.length:Int)) (.ret false)<|
  .lp (cS (x0,x1,(x0.length:Int),0,())).lp λw1=> .sum w1 (λ_=>
  .ret false)<|
  λ_=>
  .ret true,
 λ(x0,x1,_) hp=>by
  refine Tr.I (λ_=>Tr.R trivial) λ_=>Tr.L (y7 ?_ ?_ ?_ ?_) (λ_ _=>Tr.Sr (Tr.R trivial)) (λ_ _=>Tr.Sl (Tr.R trivial))
  all_goals ((try simp only[cS,LC.lp,LC.ct,Ct.lp]at*)<;>grind)⟩
noncomputable def Dq:=aV st tv ua [(bR 0 iu cS)] (ks:=[.sc (.sl .macRow),.sc (.sl .macRow)]) rK (λv=>[(false,[.c (.bool v)])]) Tryz.func322 ⟨yX,trivial⟩
noncomputable def gS:FT (Sndr×Unit) (Int) (λx=>cf x.1) (λx v=>(0≤x.1.sent∧x.1.sent≤1000→x.1.sent≤v∧v≤x.1.sent+1)):=⟨λ(x0,_)=>
  .ite x0.finSent (.ret (IntKind.wrap .i64 (x0.sent+1)))<|
  .ret x0.sent,
 λ(x0,_) hp=>by
  refine Tr.I (λ_=>Tr.R ?_) λ_=>Tr.R ?_
  all_goals (grind)⟩
noncomputable def je:=bf st Tryz.func332 [] (ks:=[.st .sndr]) gS (λv=>[(false,[.c (.int .i64 v)])])
noncomputable def gU:FT (List Entr×Unit) (List Entr) (λx=>sS x.1) (λx v=>v=x.1):=⟨λx=> .ret x.1,λ_ _=>Tr.R rfl⟩
theorem Hd (x:List Entr×Unit)(hp:sS x.1):Im Tryz.prog 338 (Mq [.sc (.sl .entr)] x) ((λv=>[rv (.sc (.sl .entr)) [.o true] v]) (gU.f x)):=by
 refine Im.byNil (t:= .entr) (xs:=x.1) (λh=> ?_) ?_
 ·obtain⟨x,_⟩:=x;subst h
  exact fn0 st Tryz.func338 (by kernel_rfl) (by kernel_rfl)
 ·exact fn0 st Tryz.func338 (by kernel_rfl) (Eq.trans (b:=bif Nat.ble ((2*(0+x.1.length)+1024)*24) aF then some ((λv=>[rv (.sc (.sl .entr)) [.o true] v]) x.1)else none) (by kernel_rfl) (by rw[show Nat.ble ((2*(0+x.1.length)+1024)*24) aF=true by simp only[Nat.ble_eq,aF];simp only[sS]at hp;omega];rfl))
noncomputable def vH:Ent1 Tryz.prog:=Zv 338 (ks:=[.sc (.sl .entr)]) gU.c (λv=>[rv (.sc (.sl .entr)) [.o true] v]) Hd
noncomputable def qS:FT (List Entr×Int×Int×Unit) (Nat×List Entr) (λx=>sS x.1∧0≤x.2.1∧x.2.1≤x.2.2.1∧x.2.2.1≤x.1.length) (λx v=>sS v.2∧v.1≤x.1.length∧v.2.length=x.1.length):=⟨λ(x0,x1,x2,_)=>
  .grd ((((decide (0≤x1))&&(decide (x1≤x2)))&&(decide (x2≤(x0.length:Int))))&&(decide ((x0.length:Int)≤(x0.length:Int))))<|
  .ite (x1==x2) (.ret (x0.length,x0))<|
  .grd ((decide (0≤x1))&&(decide (x1≤(x0.length:Int))))<|
  .grd (((decide (0≤x2))&&(decide (x2≤(x0.length:Int))))&&(decide ((x0.length:Int)≤(x0.length:Int))))<|
  .grd (((Nat.ble x1.toNat x2.toNat)&&(Nat.beq ((x0.length:Int).toNat) x0.length))&&true)<|
  .val (((((x0.take x1.toNat++x0.drop x2.toNat)++x0.drop (x1.toNat+(x0.length-x2.toNat))).take (x1.toNat+(x0.length-x2.toNat))).drop 0).length:Int) λe1=>
  .grd (((decide (0≤e1))&&(decide (e1≤(x0.length:Int))))&&(decide ((x0.length:Int)≤(((x0.take x1.toNat++x0.drop x2.toNat)++x0.drop (x1.toNat+(x0.length-x2.toNat))).length:Int))))<|
  .val ((((x0.take x1.toNat++x0.drop x2.toNat)++x0.drop (x1.toNat+(x0.length-x2.toNat))).take e1.toNat++List.replicate ((x0.length:Int).toNat-e1.toNat) (Ty.zero .entr))++((x0.take x1.toNat++x0.drop x2.toNat)++x0.drop (x1.toNat+(x0.length-x2.toNat))).drop ((x0.length:Int).toNat)) λl2=>
  .ret ((x1.toNat+(x0.length-x2.toNat)),l2),
 λ(x0,x1,x2,_) hp=>by
  refine Tr.G4 ?_ λg0=>Tr.I (λb1=>Tr.R ?_) λb1=>Tr.G2 ?_ λg2=>Tr.G3 ?_ λg3=>Tr.G ?_ λg4=>Tr.V λe1 he1=>Tr.G3 ?_ λg5=>Tr.V λl2 hl2=>Tr.R ?_
  all_goals ((first|grind|(simp only[Bool.and_eq_true,and_true,List.length_set,Nat.ble_eq,Nat.beq_eq,decide_eq_true_eq,List.length_append,List.length_take,List.length_drop,List.drop_zero,List.length_replicate,sS]at*;omega)))⟩
noncomputable def Ee:=cJ st ⟨340,Tryz.f340,[],1⟩ [] [] [.wr false [.own 0],.sc (.int .i64),.sc (.int .i64)] [.arr .entr] (λx y=>(y.1,x.2.1,x.2.2.1,())) qS (λv=>[(false,[.shr 0 v.1])]) (λx y v=>(v.2,())) Tryz.func340 (by kernel_rfl) trivial
noncomputable def Fa:=[bF]
def mX:Sh:=⟨[zs 0,zi 1,zi 8,zi 25,zi 26],[]⟩
noncomputable def E5:Fx:=⟨343,Tryz.f343,[(0,lb [0,1,8,25,26] [6,7,8]),(3000001,rA 0 24)],0⟩
noncomputable def qF (v0:ac)(v1:Int)(v4:Int)(a:Int):Tr (Stp (Int) (Empty)):=
 .grd ((decide (0≤(IntKind.wrap .i64 (v1+v4))))&&(decide ((IntKind.wrap .i64 (v1+v4))<(v0.length:Int))))<|
 .val (bits .or .i64 (IntKind.wrap .i64 (a*256)) (IntKind.wrap .i64 (ae v0 ((IntKind.wrap .i64 (v1+v4)).toNat)))) λe3=>
 .ret (.next e3)
noncomputable def gA:mX.V→LC mX (Int) (Empty) (Int×Int):=λ(v0,v1,v2,v3,v4,_)=>⟨v4,v2,λv4 a=>(v0,v1,a,v3,v4,()),λv4 _=>(decide (v4<v3)),qF v0 v1,up,1,(Int.toNat (v3-v4)),(λp=>Empty.elim p),λi a=>(i,a),λ_ k x=>k (.exit 0) (Sh.enc ⟨[zu 6,zu 7,zi 8],[]⟩ (x.2,()))⟩
theorem KO:LS Tryz.prog E5 [0] (bR 0 mX gA):=aW st (aj Fa) _ gA [] trivial
theorem Jj {v0:ac}{v1 v2 v3 v4:Int}(h0:0≤v4)(h1:v3≤4611686018427387904)(h2:0≤v1)(h3:v1+v3≤(v0.length:Int))(h4:sS v0):(gA (v0,v1,v2,v3,v4,())).U v3 (λ_ _=>True) (λ_=>True):=
 LC.okU (i:=v4) (a:=v2) (λ_ _=>rfl) (λ_=>rfl) rfl h0 h1 trivial λv4 v2 hj hk hv=>by
  refine Tr.G2 ?_ λ_=>Tr.Z (by kernel_rfl)
  all_goals (grind)
noncomputable def yT:FT (ac×Int×Int×Unit) (Int×Bool) (λx=>sS x.1) (λ_ _=>True):=⟨λ(x0,x1,x2,_)=>
  .bnd (β:=Bool×Unit) (.val (bq.f (x2,1,6,())) λc1=>
   .ite (!c1) (.ret (true,()))<|
   .ite (decide (x1<0)) (.ret (true,()))<|
   .ret ((decide ((IntKind.wrap .i64 ((x0.length:Int)-x2))<x1)),())) λ(u2a0,_)=>
  .ite u2a0 (.ret (0,false))<|
  .lp (gA (x0,x1,0,x2,0,())).lp λ(_,a4_0)=>
  .ret (a4_0,true),
 λ(x0,x1,x2,_) hp=>by
  refine Tr.B (Q':=λ_=>True) (Tr.F (by kernel_rfl) trivial) (λ(u2a0,_) _ _=>Tr.I (λ_=>Tr.R trivial) λ_=>Tr.L (Jj ?_ ?_ ?_ ?_ ?_) (λa4_0 _=>Tr.R trivial) (λp=>Empty.elim p))
  all_goals ((try simp only[gA,LC.lp,LC.ct,Ct.lp,Tr.nice,bo]at*)<;>grind)⟩
noncomputable def RR:=aV st E5 Fa [(bR 0 mX gA)] (ks:=[.sc .str,.sc (.int .i64),.sc (.int .i64)]) yT (λv=>[(false,[.c (.int .i64 v.1)]),(false,[.c (.bool v.2)])]) Tryz.func343 ⟨KO,trivial⟩
noncomputable def Ug:List (Ent1 Tryz.prog):=[]
def rZ:Sh:=⟨[zi 1,(8,false,[.sl .arg .entr]),zi 9,zi 10],[]⟩
noncomputable def UL:Fx:=⟨345,Tryz.f345,[(0,lb [1,8,9,10] [4,5])],0⟩
noncomputable def E8 (v0:Int)(v1:List Entr)(v3:Int)(a:Unit):Tr (Stp (Unit) ((Int))):=
 .grd ((decide (0≤v3))&&(decide (v3<(v1.length:Int))))<|
 .ite ((v1.getD v3.toNat (Ty.zero .entr)).ip==v0) (.ret (.out ((v1.getD v3.toNat (Ty.zero .entr)).hw)))<|
 .ret (.next ())
noncomputable def kq:rZ.V→LC rZ (Unit) ((Int)) (((Int))⊕(Int×Unit)):=λ(v0,v1,v2,v3,_)=>⟨v3,(),λv3 _=>(v0,v1,v2,v3,()),λv3 _=>(decide (v3<v2)),E8 v0 v1,up,1,(Int.toNat (v2-v3)),.inl,λi a=> .inr (i,a),λ_ k w=>Sum.elim (λp=>k .ret (Sh.enc ⟨[zi 4,zb 5],[]⟩ (p,true,()))) (λ_=>k (.exit 0) (Sh.enc ⟨[zu 4,zu 5],[]⟩ ())) w⟩
theorem SQ:LS Tryz.prog UL [0] (bR 0 rZ kq):=aW st (aj Ug) _ kq [] trivial
theorem Tl {v0 v2 v3:Int}{v1:List Entr}(h0:0≤v3)(h1:v2≤4611686018427387904)(h2:v2≤(v1.length:Int)):(kq (v0,v1,v2,v3,())).U v2 (λ_ _=>True) (λ_=>True):=
 LC.okU (i:=v3) (a:=()) (λ_ _=>rfl) (λ_=>rfl) rfl h0 h1 trivial λv3 _ hj hk hv=>by
  refine Tr.G2 ?_ λ_=>Tr.Z (by kernel_rfl)
  all_goals (grind)
noncomputable def AO:FT (List Entr×Int×Unit) (Int×Bool) (λx=>sS x.1) (λ_ _=>True):=⟨λ(x0,x1,_)=>
  .lp (kq (x1,x0,(x0.length:Int),0,())).lp λw1=> .sum w1 (λp1a0=>
  .ret (p1a0,true))<|
  λ_=>
  .ret (0,false),
 λ(x0,x1,_) hp=>by
  refine Tr.L (Tl ?_ ?_ ?_) (λ_ _=>Tr.Sr (Tr.R trivial)) (λp1a0 _=>Tr.Sl (Tr.R trivial))
  all_goals ((try simp only[kq,LC.lp,LC.ct,Ct.lp]at*)<;>grind)⟩
noncomputable def T7:=aV st UL Ug [(bR 0 rZ kq)] (ks:=[.sc (.sl .entr),.sc (.int .i64)]) AO (λv=>[(false,[.c (.int .i64 v.1)]),(false,[.c (.bool v.2)])]) Tryz.func345 ⟨SQ,trivial⟩
noncomputable def P0:FT (List Entr×Int×Unit) (Int×Bool) (λx=>sS x.1) (λ_ _=>True):=⟨λ(x0,x1,_)=>
  .cal yE.c (x0,x1,()) λc1=>
  .ite (decide (c1<0)) (.ret (0,false))<|
  .grd ((decide (0≤c1))&&(decide (c1<(x0.length:Int))))<|
  .ret ((x0.getD c1.toNat (Ty.zero .entr)).hw,true),
 λ(x0,x1,_) hp=>by
  refine Tr.C ?_ λ_ _ _=>Tr.I (λ_=>Tr.R trivial) λ_=>Tr.G2 ?_ λ_=>Tr.R trivial
  all_goals (grind)⟩
noncomputable def aak:=bf st Tryz.func347 [Ds] (ks:=[.sc (.sl .entr),.sc (.int .i64)]) P0 (λv=>[(false,[.c (.int .i64 v.1)]),(false,[.c (.bool v.2)])])
noncomputable def Ia:List (Ent1 Tryz.prog):=[]
def oO:Sh:=⟨[zi 0],[]⟩
noncomputable def Lu:Fx:=⟨349,Tryz.f349,[(0,lb [0] [0,2])],0⟩
noncomputable def tn (a:Int):Tr (Stp (Int) ((Int))):=
 .ite (decide (65535<a)) (.val (IntKind.wrap .i64 ((IntKind.wrap .i64 (a.tdiv 65536))+(a.tmod 65536))) λe1=>
  .ret (.next e1))<|
 .ret (.out a)
noncomputable def gR:oO.V→LW oO (Int) ((Int)):=λ(v0,_)=>⟨v0,λa=>(a,()),tn,Int.toNat v0,λ_ k p=>k (.exit 0) (Sh.enc ⟨[zi 0,zu 2],[]⟩ (p,()))⟩
theorem ND:LS Tryz.prog Lu [0] (DJ 0 oO gR):=uf st (aj Ia) _ gR [] trivial
theorem NF {v0:Int}(h0:0≤v0∧v0≤9223372036854775807):(gR (v0,())).W (λp=>0≤p∧p≤65535):=
 LW.okW (a:=v0) (λa=>0≤a∧a≤9223372036854775807) (λa=>Int.toNat a) rfl h0 λv0 hv=>by
  refine Tr.I (λb0=>Tr.V λe1 he1=>Tr.Rn ?_) λb0=>Tr.Ro ?_
  all_goals (((try subst_vars);simp only[decide_eq_true_eq,decide_eq_false_iff_not]at*;first|omega|(rw[Dz (by omega) (by omega)];omega)|grind))
noncomputable def Cl:FT (Int×Unit) (Int) (λx=>x.1≤9223372036854775807) (λx v=>0≤v∧v≤65535):=⟨λ(x0,_)=>
  .ite (decide (x0<0)) (.ret 0)<|
  .lp (gR (x0,())).lp λp2a0=>
  .ret p2a0,
 λ(x0,_) hp=>by
  refine Tr.I (λ_=>Tr.R ?_) λ_=>Tr.L (NF ?_) (λa=>Empty.elim a) (λp2a0 _=>Tr.R ?_)
  all_goals ((try simp only[gR,LW.lp,LW.cw,Cw.lp]at*)<;>grind)⟩
noncomputable def Vt:=aV st Lu Ia [(DJ 0 oO gR)] (ks:=[.sc (.int .i64)]) Cl (λv=>[(false,[.c (.int .i64 v)])]) Tryz.func349 ⟨ND,trivial⟩
noncomputable def Fv:List (Ent1 Tryz.prog):=[]
def mF:Sh:=⟨[zs 0,zi 3,zi 4],[]⟩
noncomputable def EU:Fx:=⟨350,Tryz.f350,[(0,lb [0,3,4] [2,3])],0⟩
noncomputable def iy (v0:ac)(v2:Int)(a:Int):Tr (Stp (Int) (Empty)):=
 .grd ((decide (0≤v2))&&(decide (v2<(v0.length:Int))))<|
 .val (IntKind.wrap .i64 (a+(IntKind.wrap .i64 (256*(IntKind.wrap .i64 (ae v0 v2.toNat)))))) λe1=>
 .ite (decide ((IntKind.wrap .i64 (v2+1))<(v0.length:Int))) (.grd ((decide (0≤(IntKind.wrap .i64 (v2+1))))&&(decide ((IntKind.wrap .i64 (v2+1))<(v0.length:Int))))<|
  .val (IntKind.wrap .i64 (e1+(IntKind.wrap .i64 (ae v0 ((IntKind.wrap .i64 (v2+1)).toNat))))) λe2=>
  .ret (.next e2))<|
 .ret (.next e1)
noncomputable def cH:mF.V→LC mF (Int) (Empty) (Int×Int):=λ(v0,v1,v2,_)=>⟨v2,v1,λv2 a=>(v0,a,v2,()),λv2 _=>(decide (v2<(v0.length:Int))),iy v0,λv2=>IntKind.wrap .i64 (v2+2),2,(Int.toNat (((v0.length:Int)-v2+1)/2)),(λp=>Empty.elim p),λi a=>(i,a),λ_ k x=>k (.exit 0) (Sh.enc ⟨[zu 2,zi 3],[]⟩ (x.2,()))⟩
theorem Il:LS Tryz.prog EU [0] (bR 0 mF cH):=aW st (aj Fv) _ cH [] trivial
theorem Iz {v0:ac}{v1 v2:Int}(h0:0≤v2)(h1:(v0.length:Int)≤4611686018427387904)(h2:sS v0)(h3:0≤v1∧v1≤65536*v2):(cH (v0,v1,v2,())).S (λv2 a=>0≤a∧a≤65536*v2) (λ_=>True):=by
 refine LC.okS h3 (λj a hj hv=>⟨⟨?_, ?_⟩, ?_⟩) (λa hv=> ?_)
 ·simp only[cH,decide_eq_true_eq]at*;omega
 ·simp only[cH]at*;exact ar (by omega) (by omega)
 ·refine Tr.G2 ?_ λ_=>Tr.V λ_ _=>Tr.I (λ_=>Tr.G2 ?_ λ_=>Tr.V λ_ _=>Tr.Rn ?_) λ_=>Tr.Rn ?_
  all_goals (try simp only[cH]at*)<;>(grind)
 ·simp only[cH,decide_eq_false_iff_not]at*;omega
noncomputable def yt:FT (ac×Unit) (Int) (λx=>sS x.1) (λx v=>0≤v∧v≤281474976710656):=⟨λ(x0,_)=>
  .lp (cH (x0,0,0,())).lp λ(_,a3_0)=>
  .ret a3_0,
 λ(x0,_) hp=>by
  refine Tr.L (Iz ?_ ?_ ?_ ?_) (λa3_0 _=>Tr.R ?_) (λp=>Empty.elim p)
  all_goals ((try simp only[cH,LC.lp,LC.ct,Ct.lp]at*)<;>grind)⟩
noncomputable def S9:=aV st EU Fv [(bR 0 mF cH)] (ks:=[.sc .str]) yt (λv=>[(false,[.c (.int .i64 v)])]) Tryz.func350 ⟨Il,trivial⟩
noncomputable def xD:List (Ent1 Tryz.prog):=[]
def jR:Sh:=⟨[(0,false,[.sl .arg .half]),(1,false,[.sl .arg .half]),zi 12,zi 13],[]⟩
noncomputable def wP:Fx:=⟨351,Tryz.f351,[(0,lb [0,1,12,13] [4])],0⟩
noncomputable def su (v0 v1:List Half)(v3:Int)(a:Unit):Tr (Stp (Unit) ((Unit))):=
 .grd ((decide (0≤v3))&&(decide (v3<(v0.length:Int))))<|
 .grd ((decide (0≤v3))&&(decide (v3<(v1.length:Int))))<|
 .ite (!((((v0.getD v3.toNat (Ty.zero .half)).tuple.ip==(v1.getD v3.toNat (Ty.zero .half)).tuple.ip)&&(((v0.getD v3.toNat (Ty.zero .half)).tuple.port==(v1.getD v3.toNat (Ty.zero .half)).tuple.port)&&(((v0.getD v3.toNat (Ty.zero .half)).tuple.my==(v1.getD v3.toNat (Ty.zero .half)).tuple.my)&&true)))&&(((v0.getD v3.toNat (Ty.zero .half)).iss==(v1.getD v3.toNat (Ty.zero .half)).iss)&&(((v0.getD v3.toNat (Ty.zero .half)).irs==(v1.getD v3.toNat (Ty.zero .half)).irs)&&((((v0.getD v3.toNat (Ty.zero .half)).opts.mss==(v1.getD v3.toNat (Ty.zero .half)).opts.mss)&&(((v0.getD v3.toNat (Ty.zero .half)).opts.scale==(v1.getD v3.toNat (Ty.zero .half)).opts.scale)&&(((v0.getD v3.toNat (Ty.zero .half)).opts.sack==(v1.getD v3.toNat (Ty.zero .half)).opts.sack)&&(((v0.getD v3.toNat (Ty.zero .half)).opts.stamp==(v1.getD v3.toNat (Ty.zero .half)).opts.stamp)&&(((v0.getD v3.toNat (Ty.zero .half)).opts.val==(v1.getD v3.toNat (Ty.zero .half)).opts.val)&&(((v0.getD v3.toNat (Ty.zero .half)).opts.echo==(v1.getD v3.toNat (Ty.zero .half)).opts.echo)&&true))))))&&(((v0.getD v3.toNat (Ty.zero .half)).age==(v1.getD v3.toNat (Ty.zero .half)).age)&&(((v0.getD v3.toNat (Ty.zero .half)).window==(v1.getD v3.toNat (Ty.zero .half)).window)&&true))))))) (.ret (.out ()))<|
 .ret (.next ())
noncomputable def dR:jR.V→LC jR (Unit) ((Unit)) (((Unit))⊕(Int×Unit)):=λ(v0,v1,v2,v3,_)=>⟨v3,(),λv3 _=>(v0,v1,v2,v3,()),λv3 _=>(decide (v3<v2)),su v0 v1,up,1,(Int.toNat (v2-v3)),.inl,λi a=> .inr (i,a),λ_ k w=>Sum.elim (λ_=>k .ret (Sh.enc ⟨[zb 4],[]⟩ (false,()))) (λ_=>k (.exit 0) (Sh.enc ⟨[zu 4],[]⟩ ())) w⟩
theorem CK:LS Tryz.prog wP [0] (bR 0 jR dR):=aW st (aj xD) _ dR [] trivial
theorem BJ {v0 v1:List Half}{v2 v3:Int}(h0:0≤v3)(h1:v2≤4611686018427387904)(h2:v2≤(v0.length:Int))(h3:v2≤(v1.length:Int)):(dR (v0,v1,v2,v3,())).U v2 (λ_ _=>True) (λ_=>True):=
 LC.okU (i:=v3) (a:=()) (λ_ _=>rfl) (λ_=>rfl) rfl h0 h1 trivial λv3 _ hj hk hv=>by
  refine Tr.G2 ?_ λ_=>Tr.G2 ?_ λ_=>Tr.Z (by kernel_rfl)
  all_goals (grind)
noncomputable def qa:FT (List Half×List Half×Unit) (Bool) (λx=>sS x.1∧sS x.2.1) (λ_ _=>True):=⟨λ(x0,x1,_)=>
  .ite ((x0.length:Int) != (x1.length:Int)) (.ret false)<|
  .lp (dR (x0,x1,(x0.length:Int),0,())).lp λw1=> .sum w1 (λ_=>
  .ret false)<|
  λ_=>
  .ret true,
 λ(x0,x1,_) hp=>by
  refine Tr.I (λ_=>Tr.R trivial) λ_=>Tr.L (BJ ?_ ?_ ?_ ?_) (λ_ _=>Tr.Sr (Tr.R trivial)) (λ_ _=>Tr.Sl (Tr.R trivial))
  all_goals ((try simp only[dR,LC.lp,LC.ct,Ct.lp]at*)<;>grind)⟩
noncomputable def Ic:=aV st wP xD [(bR 0 jR dR)] (ks:=[.sc (.sl .half),.sc (.sl .half)]) qa (λv=>[(false,[.c (.bool v)])]) Tryz.func351 ⟨CK,trivial⟩
noncomputable def vN:List (Ent1 Tryz.prog):=[]
def i4:Sh:=⟨[(0,false,[.sl .arg .tupl]),(1,false,[.sl .arg .tupl]),zi 12,zi 13],[]⟩
noncomputable def vD:Fx:=⟨354,Tryz.f354,[(0,lb [0,1,12,13] [4])],0⟩
noncomputable def qX (v0 v1:List Tupl)(v3:Int)(a:Unit):Tr (Stp (Unit) ((Unit))):=
 .grd ((decide (0≤v3))&&(decide (v3<(v0.length:Int))))<|
 .grd ((decide (0≤v3))&&(decide (v3<(v1.length:Int))))<|
 .ite (!(((v0.getD v3.toNat (Ty.zero .tupl)).ip==(v1.getD v3.toNat (Ty.zero .tupl)).ip)&&(((v0.getD v3.toNat (Ty.zero .tupl)).port==(v1.getD v3.toNat (Ty.zero .tupl)).port)&&(((v0.getD v3.toNat (Ty.zero .tupl)).my==(v1.getD v3.toNat (Ty.zero .tupl)).my)&&true)))) (.ret (.out ()))<|
 .ret (.next ())
noncomputable def dk:i4.V→LC i4 (Unit) ((Unit)) (((Unit))⊕(Int×Unit)):=λ(v0,v1,v2,v3,_)=>⟨v3,(),λv3 _=>(v0,v1,v2,v3,()),λv3 _=>(decide (v3<v2)),qX v0 v1,up,1,(Int.toNat (v2-v3)),.inl,λi a=> .inr (i,a),λ_ k w=>Sum.elim (λ_=>k .ret (Sh.enc ⟨[zb 4],[]⟩ (false,()))) (λ_=>k (.exit 0) (Sh.enc ⟨[zu 4],[]⟩ ())) w⟩
theorem Aw:LS Tryz.prog vD [0] (bR 0 i4 dk):=aW st (aj vN) _ dk [] trivial
theorem z3 {v0 v1:List Tupl}{v2 v3:Int}(h0:0≤v3)(h1:v2≤4611686018427387904)(h2:v2≤(v0.length:Int))(h3:v2≤(v1.length:Int)):(dk (v0,v1,v2,v3,())).U v2 (λ_ _=>True) (λ_=>True):=
 LC.okU (i:=v3) (a:=()) (λ_ _=>rfl) (λ_=>rfl) rfl h0 h1 trivial λv3 _ hj hk hv=>by
  refine Tr.G2 ?_ λ_=>Tr.G2 ?_ λ_=>Tr.Z (by kernel_rfl)
  all_goals (grind)
noncomputable def oM:FT (List Tupl×List Tupl×Unit) (Bool) (λx=>sS x.1∧sS x.2.1) (λ_ _=>True):=⟨λ(x0,x1,_)=>
  .ite ((x0.length:Int) != (x1.length:Int)) (.ret false)<|
  .lp (dk (x0,x1,(x0.length:Int),0,())).lp λw1=> .sum w1 (λ_=>
  .ret false)<|
  λ_=>
  .ret true,
 λ(x0,x1,_) hp=>by
  refine Tr.I (λ_=>Tr.R trivial) λ_=>Tr.L (z3 ?_ ?_ ?_ ?_) (λ_ _=>Tr.Sr (Tr.R trivial)) (λ_ _=>Tr.Sl (Tr.R trivial))
  all_goals ((try simp only[dk,LC.lp,LC.ct,Ct.lp]at*)<;>grind)⟩
noncomputable def Gx:=aV st vD vN [(bR 0 i4 dk)] (ks:=[.sc (.sl .tupl),.sc (.sl .tupl)]) oM (λv=>[(false,[.c (.bool v)])]) Tryz.func354 ⟨Aw,trivial⟩
noncomputable def Uf:FF (Conn×Unit) (Bool):=⟨λ(x0,_)=>
  .ite (!(x0.s.data==[])) (.ret true)<|
  .ite x0.s.fin (.ret (!x0.s.done))<|
  .ret false⟩
noncomputable def Wq:=lJ st Tryz.func365 [] (ks:=[.st .conn]) Uf (λv=>[(false,[.c (.bool v)])])
noncomputable def Cv:FF (Conn×Unit) (Int):=⟨λ(x0,_)=>
  .ite (x0.opts.mss==0) (.ret 536)<|
  .val (j1.f (1460,x0.opts.mss,())) λc1=>
  .val (fO.f (1,c1,())) λc2=>
  .ret c2⟩
noncomputable def WX:=lJ st Tryz.func368 [od,mf] (ks:=[.st .conn]) Cv (λv=>[(false,[.c (.int .i64 v)])])
noncomputable def vh:FF (Int×Int×Unit) (Sipr):=⟨λ(x0,x1,_)=>
  .ret (⟨(bits .xor .u64 x0 8317987319222330741),(bits .xor .u64 x1 7237128888997146477),(bits .xor .u64 x0 7816392313619706465),(bits .xor .u64 x1 8387220255154660723)⟩:Sipr)⟩
noncomputable def Re:=lJ st Tryz.func370 [] (ks:=[.sc (.int .u64),.sc (.int .u64)]) vh (λv=>[(true,DP v)])
noncomputable def KE:List (Ent1 Tryz.prog):=[]
def o9:Sh:=⟨[zs 0,(3,false,[.int .u64]),zi 4],[]⟩
noncomputable def KN:Fx:=⟨372,Tryz.f372,[(0,lb [0,3,4] [2,3])],0⟩
noncomputable def Nj (v0:ac)(v2:Int)(a:Int):Tr (Stp (Int) (Empty)):=
 .grd ((decide (0≤v2))&&(decide (v2<(v0.length:Int))))<|
 .val (bits .or .u64 (IntKind.wrap .u64 (a*256)) (IntKind.wrap .u64 (ae v0 v2.toNat))) λe1=>
 .ret (.next e1)
noncomputable def gX:o9.V→LC o9 (Int) (Empty) (Int×Int):=λ(v0,v1,v2,_)=>⟨v2,v1,λv2 a=>(v0,a,v2,()),λv2 _=>(decide (0≤v2)),Nj v0,dn,(-1),(Int.toNat (v2-0+1)),(λp=>Empty.elim p),λi a=>(i,a),λ_ k x=>k (.exit 0) (Sh.enc ⟨[zu 2,(3,false,[.int .u64])],[]⟩ (x.2,()))⟩
theorem M9:LS Tryz.prog KN [0] (bR 0 o9 gX):=aW st (aj KE) _ gX [] trivial
theorem MZ {v0:ac}{v1 v2:Int}(h0:v2≤9223372036854775807)(h1:v2<(v0.length:Int)):(gX (v0,v1,v2,())).D 0 (λv2 a=>v2<(v0.length:Int)) (λ_=>True):=
 LC.okD (i:=v2) (a:=v1) (λ_ _=>rfl) (λ_=>rfl) rfl h0 (by decide) h1 λv2 v1 hj hk hv=>by
  refine Tr.G2 ?_ λ_=>Tr.V λ_ _=>Tr.Rn ?_
  all_goals (grind)
noncomputable def rm:FT (ac×Unit) (Int) (λx=>sS x.1) (λ_ _=>True):=⟨λ(x0,_)=>
  .lp (gX (x0,0,(IntKind.wrap .i64 ((x0.length:Int)-1)),())).lp λ(_,a2_0)=>
  .ret a2_0,
 λ(x0,_) hp=>by
  refine Tr.L (MZ ?_ ?_) (λa2_0 _=>Tr.R trivial) (λp=>Empty.elim p)
  all_goals ((try simp only[gX,LC.lp,LC.ct,Ct.lp]at*)<;>grind)⟩
noncomputable def VI:=aV st KN KE [(bR 0 o9 gX)] (ks:=[.sc .str]) rm (λv=>[(false,[.c (.int .u64 v)])]) Tryz.func372 ⟨M9,trivial⟩
noncomputable def ce:FT (Recv×Unit) (Int) (λx=>ax x.1) (λx v=>0≤v∧v≤32∧(x.1.data.length≤32→v=Yf x.1)):=⟨λ(x0,_)=>
  .ite x0.done (.ret 0)<|
  .val (β:=Int) (if 0<(IntKind.wrap .i64 (32-(x0.data.length:Int)))then(IntKind.wrap .i64 (32-(x0.data.length:Int)))else 0) λe1=>
  .ret e1,
 λ(x0,_) hp=>by
  refine Tr.I (λ_=>Tr.R ?_) λ_=>Tr.V λ_ _=>Tr.R ?_
  all_goals (grind)⟩
noncomputable def nG:=bf st Tryz.func379 [] (ks:=[.st .recv]) ce (λv=>[(false,[.c (.int .i64 v)])])
noncomputable def xp:FT (Int×Opti×Unit) (Int) (λ_=>True) (λ_ _=>True):=⟨λ(x0,x1,_)=>
  .grd (decide (0≤(if x1.scale<0 then 0 else x1.scale)))<|
  .val (IntKind.wrap .i64 (x0*2 ^ (min (if x1.scale<0 then 0 else x1.scale).toNat 64))) λe1=>
  .ret (if 1073725440<e1 then 1073725440 else e1),
 λ(x0,x1,_) hp=>by
  refine Tr.G1 ?_ λ_=>Tr.F (by kernel_rfl) trivial
  all_goals (grind)⟩
noncomputable def Kn:=bf st Tryz.func384 [] (ks:=[.sc (.int .i64),.st .opti]) xp (λv=>[(false,[.c (.int .i64 v)])])
noncomputable def cZ:FT (Sndr×Unit) (Int) (λx=>cf x.1) (λx v=>(0≤x.1.sent∧x.1.sent≤1000→x.1.sent≤v∧v≤x.1.sent+1)):=⟨λ(x0,_)=>
  .ite x0.finSent (.ret (IntKind.wrap .i64 (x0.sent+1)))<|
  .ret x0.sent,
 λ(x0,_) hp=>by
  refine Tr.I (λ_=>Tr.R ?_) λ_=>Tr.R ?_
  all_goals (grind)⟩
noncomputable def rp:=bf st Tryz.func385 [] (ks:=[.st .sndr]) cZ (λv=>[(false,[.c (.int .i64 v)])])
noncomputable def dF:FF (Conn×Unit) (Int):=⟨λ(x0,_)=>
  .ite (x0.opts.mss==0) (.ret 536)<|
  .val (β:=Int) (if 1<(if 1460<x0.opts.mss then 1460 else x0.opts.mss)then(if 1460<x0.opts.mss then 1460 else x0.opts.mss)else 1) λe1=>
  .ret e1⟩
noncomputable def WD:=lJ st Tryz.func389 [] (ks:=[.st .conn]) dF (λv=>[(false,[.c (.int .i64 v)])])
noncomputable def jF:FT (Int×Unit) (Recv) (λ_=>True) (λx v=>ax v):=⟨λ(x0,_)=>
  .val (cN.f (x0,0,())) λc1=>
  .ret (⟨c1,[],[],(-1),false⟩:Recv),
 λ(x0,_) hp=>by
  refine Tr.V λ_ _=>Tr.R ?_
  all_goals (grind)⟩
noncomputable def Hj:=bf st Tryz.func393 [ja] (ks:=[.sc (.int .i64)]) jF (λv=>[(true,vm (.o true) v)])
noncomputable def jg:FT (Segm×Unit) (Int) (λx=>ao x.1) (λx v=>0≤v∧v≤x.1.body.length+2):=⟨λ(x0,_)=>
  .val (ic.f (x0,2,())) λc1=>
  .ite c1 (.val (ic.f (x0,1,())) λc2=>
   .ite c2 (.val (IntKind.wrap .i64 ((IntKind.wrap .i64 ((x0.body.length:Int)+1))+1)) λe3=>
    .ret e3)<|
   .ret (IntKind.wrap .i64 ((x0.body.length:Int)+1)))<|
  .val (ic.f (x0,1,())) λc4=>
  .ite c4 (.ret (IntKind.wrap .i64 ((x0.body.length:Int)+1)))<|
  .ret (x0.body.length:Int),
 λ(x0,_) hp=>by
  refine Tr.V λ_ _=>Tr.I (λ_=>Tr.V λ_ _=>Tr.I (λ_=>Tr.V λ_ _=>Tr.R ?_) λ_=>Tr.R ?_) λ_=>Tr.V λ_ _=>Tr.I (λ_=>Tr.R ?_) λ_=>Tr.R ?_
  all_goals (grind)⟩
noncomputable def rR:=bf st Tryz.func398 [yJ] (ks:=[.st .segm]) jg (λv=>[(false,[.c (.int .i64 v)])])
noncomputable def k9:FT (Int×Unit) (Recv) (λ_=>True) (λx v=>ax v∧v.held.length≤3):=⟨λ(x0,_)=>
  .val (bS.f (x0,())) λc1=>
  .ret (⟨c1,[],[],(-1),false⟩:Recv),
 λ(x0,_) hp=>by
  refine Tr.V λ_ _=>Tr.R ?_
  all_goals (grind)⟩
noncomputable def ww:=bf st Tryz.func401 [iZ] (ks:=[.sc (.int .i64)]) k9 (λv=>[(true,vm (.o true) v)])
noncomputable def BT:FT (Int×Unit) (Int) (λ_=>True) (λ_ _=>True):=⟨λ(x0,_)=>
  .val (cr.f (x0,0,7,())) λc1=>
  .ite (!c1) (.ret 0)<|
  .grd ((decide (0≤x0))&&(decide (x0<8)))<|
  .ret ([64,256,536,1024,1300,1400,1440,1460].getD x0.toNat 0),
 λ(x0,_) hp=>by
  refine Tr.V λ_ _=>Tr.I (λ_=>Tr.R trivial) λ_=>Tr.G2 ?_ λ_=>Tr.R trivial
  all_goals (grind)⟩
noncomputable def NW:=bf st Tryz.func402 [cz] (ks:=[.sc (.int .i64)]) BT (λv=>[(false,[.c (.int .i64 v)])])
noncomputable def xf:FT (Int×Unit) (ac) (λx=>0≤x.1∧x.1≤1048576) (λx v=>sS v):=⟨λ(x0,_)=>
  .grd ((((decide (0≤x0))&&(decide (x0=x0)))&&(decide (x0*1≤(aF:Int))))&&(decide (x0≤(aF:Int))))<|
  .ret (av (List.replicate x0.toNat 0)),
 λ(x0,_) hp=>by
  refine Tr.G4 ?_ λ_=>Tr.R ?_
  all_goals (grind)⟩
noncomputable def vx:=bf st Tryz.func406 [] (ks:=[.sc (.int .i64)]) xf (λv=>[(false,[.c (.str v)])])
noncomputable def Bp:=[NW]
def lv:Sh:=⟨[zi 0,zi 3,zi 4],[]⟩
noncomputable def Cf:Fx:=⟨407,Tryz.f407,[(0,lb [0,3,4] [2,3])],0⟩
noncomputable def vG (v0:Int)(v2:Int)(a:Int):Tr (Stp (Int) (Empty)):=
 .cal BT.c (v2,()) λc1=>
 .ite (decide (c1≤v0)) (.ret (.next v2))<|
 .ret (.next a)
noncomputable def fw:lv.V→LC lv (Int) (Empty) (Int×Int):=λ(v0,v1,v2,_)=>⟨v2,v1,λv2 a=>(v0,a,v2,()),λv2 _=>(decide (v2<8)),vG v0,up,1,(Int.toNat (8-v2)),(λp=>Empty.elim p),λi a=>(i,a),λ_ k x=>k (.exit 0) (Sh.enc ⟨[zu 2,zi 3],[]⟩ (x.2,()))⟩
theorem GK:LS Tryz.prog Cf [0] (bR 0 lv fw):=aW st (aj Bp) _ fw [] trivial
theorem GX {v0 v1 v2:Int}(h0:0≤v2):(fw (v0,v1,v2,())).U 8 (λ_ _=>True) (λ_=>True):=
 LC.okU (i:=v2) (a:=v1) (λ_ _=>rfl) (λ_=>rfl) rfl h0 (by decide) trivial λv2 v1 hj hk hv=>by
  refine Tr.C trivial λ_ _ _=>Tr.Z (by kernel_rfl)
noncomputable def uY:FT (Int×Unit) (Int) (λ_=>True) (λ_ _=>True):=⟨λ(x0,_)=>
  .lp (fw (x0,0,0,())).lp λ(_,a2_0)=>
  .ret a2_0,
 λ(x0,_) hp=>by
  refine Tr.L (GX ?_) (λa2_0 _=>Tr.R trivial) (λp=>Empty.elim p)
  all_goals ((try simp only[fw,LC.lp,LC.ct,Ct.lp]at*)<;>grind)⟩
noncomputable def QT:=aV st Cf Bp [(bR 0 lv fw)] (ks:=[.sc (.int .i64)]) uY (λv=>[(false,[.c (.int .i64 v)])]) Tryz.func407 ⟨GK,trivial⟩
noncomputable def UE:=[cz,iZ]
def Lk:An:=⟨⟨[],[],false,0⟩,⟨[0,1,6,7],[],false,0⟩,⟨[],[]⟩,[(.normal,⟨[zi 0,zi 1,zi 6,zi 7],[]⟩)]⟩
noncomputable def TZ:Fx:=⟨408,Tryz.f408,[(1000008,Lk)],0⟩
noncomputable def yA:FF (Int×Int×Bool×Unit) (Int):=⟨λ(x0,x1,x2,_)=>
  .bnd (β:=Int×Int×Int×Int×Unit) (.ite x2 (.ret (x0,x1,0,48,()))<|
   .ret (x0,x1,0,32,())) λ(u1a0,u1a1,_,u1a3,_)=>
  .val (cr.f (u1a1,0,14,())) λc2=>
  .ite c2 (.val (bS.f (u1a0,())) λc3=>
   .val (IntKind.wrap .i64 ((IntKind.wrap .i64 (c3*64))+(IntKind.wrap .i64 (u1a3+u1a1)))) λe4=>
   .val (bS.f (e4,())) λc5=>
   .ret c5)<|
  .val (bS.f (u1a0,())) λc6=>
  .val (IntKind.wrap .i64 ((IntKind.wrap .i64 (c6*64))+(IntKind.wrap .i64 (u1a3+15)))) λe7=>
  .val (bS.f (e7,())) λc8=>
  .ret c8⟩
noncomputable def RE:=XC st TZ UE [] (ks:=[.sc (.int .i64),.sc (.int .i64),.sc .bool]) yA (λv=>[(false,[.c (.int .i64 v)])]) Tryz.func408 trivial
noncomputable def LK:List (Ent1 Tryz.prog):=[]
def oH:Sh:=⟨[zi 0],[]⟩
noncomputable def Ir:Fx:=⟨410,Tryz.f410,[(0,lb [0] [0,2])],0⟩
noncomputable def lg (a:Int):Tr (Stp (Int) ((Int))):=
 .ite (decide (65536≤a)) (.val (IntKind.wrap .i64 ((IntKind.wrap .i64 (a.tdiv 65536))+(a.tmod 65536))) λe1=>
  .ret (.next e1))<|
 .ret (.out a)
noncomputable def fU:oH.V→LW oH (Int) ((Int)):=λ(v0,_)=>⟨v0,λa=>(a,()),lg,Int.toNat v0,λ_ k p=>k (.exit 0) (Sh.enc ⟨[zi 0,zu 2],[]⟩ (p,()))⟩
theorem MM:LS Tryz.prog Ir [0] (DJ 0 oH fU):=uf st (aj LK) _ fU [] trivial
theorem MU {v0:Int}(h0:0≤v0∧v0≤9223372036854775807):(fU (v0,())).W (λp=>0≤p∧p≤65535):=
 LW.okW (a:=v0) (λa=>0≤a∧a≤9223372036854775807) (λa=>Int.toNat a) rfl h0 λv0 hv=>by
  refine Tr.I (λb0=>Tr.V λe1 he1=>Tr.Rn ?_) λb0=>Tr.Ro ?_
  all_goals (((try subst_vars);simp only[decide_eq_true_eq,decide_eq_false_iff_not]at*;first|omega|(rw[Dz (by omega) (by omega)];omega)|grind))
noncomputable def tY:FT (Int×Unit) (Int) (λx=>x.1≤9223372036854775807) (λx v=>0≤v∧v≤65535):=⟨λ(x0,_)=>
  .ite (decide (x0<0)) (.ret 0)<|
  .lp (fU (x0,())).lp λp2a0=>
  .ret p2a0,
 λ(x0,_) hp=>by
  refine Tr.I (λ_=>Tr.R ?_) λ_=>Tr.L (MU ?_) (λa=>Empty.elim a) (λp2a0 _=>Tr.R ?_)
  all_goals ((try simp only[fU,LW.lp,LW.cw,Cw.lp]at*)<;>grind)⟩
noncomputable def WF:=aV st Ir LK [(DJ 0 oH fU)] (ks:=[.sc (.int .i64)]) tY (λv=>[(false,[.c (.int .i64 v)])]) Tryz.func410 ⟨MM,trivial⟩
noncomputable def Fj:List (Ent1 Tryz.prog):=[]
def nq:Sh:=⟨[zs 0,zi 3,zi 4],[]⟩
noncomputable def FA:Fx:=⟨411,Tryz.f411,[(0,lb [0,3,4] [2,3])],0⟩
noncomputable def iz (v0:ac)(v2:Int)(a:Int):Tr (Stp (Int) (Empty)):=
 .ite ((v2.tmod 2)==0) (.grd ((decide (0≤v2))&&(decide (v2<(v0.length:Int))))<|
  .val (IntKind.wrap .i64 (a+(IntKind.wrap .i64 ((IntKind.wrap .i64 (ae v0 v2.toNat))*256)))) λe1=>
  .ret (.next e1))<|
 .grd ((decide (0≤v2))&&(decide (v2<(v0.length:Int))))<|
 .ret (.next (IntKind.wrap .i64 (a+(IntKind.wrap .i64 (ae v0 v2.toNat)))))
noncomputable def gc:nq.V→LC nq (Int) (Empty) (Int×Int):=λ(v0,v1,v2,_)=>⟨v2,v1,λv2 a=>(v0,a,v2,()),λv2 _=>(decide (v2<(v0.length:Int))),iz v0,up,1,(Int.toNat ((v0.length:Int)-v2)),(λp=>Empty.elim p),λi a=>(i,a),λ_ k x=>k (.exit 0) (Sh.enc ⟨[zu 2,zi 3],[]⟩ (x.2,()))⟩
theorem JY:LS Tryz.prog FA [0] (bR 0 nq gc):=aW st (aj Fj) _ gc [] trivial
theorem II {v0:ac}{v1 v2:Int}(h0:0≤v2)(h1:(v0.length:Int)≤4611686018427387904)(h2:sS v0)(h3:0≤v1∧v1≤65536*v2):(gc (v0,v1,v2,())).U (v0.length:Int) (λv2 a=>0≤a∧a≤65536*v2) (λ_=>True):=
 LC.okU (i:=v2) (a:=v1) (λ_ _=>rfl) (λ_=>rfl) rfl h0 h1 h3 λv2 v1 hj hk hv=>by
  refine Tr.I (λ_=>Tr.G2 ?_ λ_=>Tr.V λ_ _=>Tr.Rn ?_) λ_=>Tr.G2 ?_ λ_=>Tr.Rn ?_
  all_goals (grind)
noncomputable def qD:FT (ac×Unit) (Int) (λx=>sS x.1) (λx v=>0≤v∧v≤281474976710656):=⟨λ(x0,_)=>
  .lp (gc (x0,0,0,())).lp λ(_,a2_0)=>
  .ret a2_0,
 λ(x0,_) hp=>by
  refine Tr.L (II ?_ ?_ ?_ ?_) (λa2_0 _=>Tr.R ?_) (λp=>Empty.elim p)
  all_goals ((try simp only[gc,LC.lp,LC.ct,Ct.lp]at*)<;>grind)⟩
noncomputable def TS:=aV st FA Fj [(bR 0 nq gc)] (ks:=[.sc .str]) qD (λv=>[(false,[.c (.int .i64 v)])]) Tryz.func411 ⟨JY,trivial⟩
noncomputable def sE:FF (Int×Int×Unit) (Int):=⟨λ(x0,x1,_)=>
  .ret (bits .and .i64 (IntKind.wrap .i64 (x0-x1)) 4294967295)⟩
@[grind=] theorem Ue (a b:Int):sE.f (a,b,())=(a-b)%4294967296:=by
 simp only[sE,FF.f,Tr.nice]
 rw[rk,cQ];omega
noncomputable def Eg:=lJ st Tryz.func423 [] (ks:=[.sc (.int .i64),.sc (.int .i64)]) sE (λv=>[(false,[.c (.int .i64 v)])])
noncomputable def qy:FF (Int×Int×Unit) (Int):=⟨λ(x0,x1,_)=>
  .val (IntKind.wrap .i32 (IntKind.wrap .u32 ((IntKind.wrap .u32 x0)-(IntKind.wrap .u32 x1)))) λe1=>
  .ret (IntKind.wrap .i64 e1)⟩
noncomputable def xI:=lJ st Tryz.func424 [] (ks:=[.sc (.int .i64),.sc (.int .i64)]) qy (λv=>[(false,[.c (.int .i64 v)])])
noncomputable def oA:FF (Int×Int×Bool×Unit) (Int):=⟨λ(x0,x1,x2,_)=>
  .ite x2 (.val (IntKind.wrap .i64 ((IntKind.wrap .i64 ((IntKind.wrap .i64 (x0*64))+32))+16)) λe1=>
   .val (bq.f (x1,0,14,())) λc2=>
   .ite (!c2) (.ret (bits .and .i64 (IntKind.wrap .i64 (e1+15)) 4294967295))<|
   .ret (bits .and .i64 (IntKind.wrap .i64 (e1+x1)) 4294967295))<|
  .val (bq.f (x1,0,14,())) λc3=>
  .ite (!c3) (.val (IntKind.wrap .i64 ((IntKind.wrap .i64 ((IntKind.wrap .i64 (x0*64))+32))+15)) λe4=>
   .ret (bits .and .i64 e4 4294967295))<|
  .val (IntKind.wrap .i64 ((IntKind.wrap .i64 ((IntKind.wrap .i64 (x0*64))+32))+x1)) λe5=>
  .ret (bits .and .i64 e5 4294967295)⟩
noncomputable def TH:=lJ st Tryz.func428 [bF] (ks:=[.sc (.int .i64),.sc (.int .i64),.sc .bool]) oA (λv=>[(false,[.c (.int .i64 v)])])
noncomputable def n3:FF (Int×Int×Int×Unit) (Bool):=⟨λ(x0,x1,x2,_)=>
  .ite (decide (0<x2)) (.val (bS.f (x0,())) λc1=>
   .val (bS.f (x1,())) λc2=>
   .val (bS.f ((IntKind.wrap .i64 (c1-c2)),())) λc3=>
   .ret (decide (c3<x2)))<|
  .ret false⟩
noncomputable def u5:=lJ st Tryz.func431 [iZ] (ks:=[.sc (.int .i64),.sc (.int .i64),.sc (.int .i64)]) n3 (λv=>[(false,[.c (.bool v)])])
noncomputable def wq:List (Ent1 Tryz.prog):=[]
def jz:Sh:=⟨[(0,false,[.sl .arg .piec]),(1,false,[.sl .arg .piec]),zi 12,zi 13],[]⟩
noncomputable def vJ:Fx:=⟨437,Tryz.f437,[(0,lb [0,1,12,13] [4])],0⟩
noncomputable def qH (v0 v1:List Piec)(v3:Int)(a:Unit):Tr (Stp (Unit) ((Unit))):=
 .grd ((decide (0≤v3))&&(decide (v3<(v0.length:Int))))<|
 .grd ((decide (0≤v3))&&(decide (v3<(v1.length:Int))))<|
 .ite (!(((v0.getD v3.toNat (Ty.zero .piec)).off==(v1.getD v3.toNat (Ty.zero .piec)).off)&&(((v0.getD v3.toNat (Ty.zero .piec)).text==(v1.getD v3.toNat (Ty.zero .piec)).text)&&true))) (.ret (.out ()))<|
 .ret (.next ())
noncomputable def dm:jz.V→LC jz (Unit) ((Unit)) (((Unit))⊕(Int×Unit)):=λ(v0,v1,v2,v3,_)=>⟨v3,(),λv3 _=>(v0,v1,v2,v3,()),λv3 _=>(decide (v3<v2)),qH v0 v1,up,1,(Int.toNat (v2-v3)),.inl,λi a=> .inr (i,a),λ_ k w=>Sum.elim (λ_=>k .ret (Sh.enc ⟨[zb 4],[]⟩ (false,()))) (λ_=>k (.exit 0) (Sh.enc ⟨[zu 4],[]⟩ ())) w⟩
theorem AV:LS Tryz.prog vJ [0] (bR 0 jz dm):=aW st (aj wq) _ dm [] trivial
theorem Ak {v0 v1:List Piec}{v2 v3:Int}(h0:0≤v3)(h1:v2≤4611686018427387904)(h2:v2≤(v0.length:Int))(h3:v2≤(v1.length:Int)):(dm (v0,v1,v2,v3,())).U v2 (λ_ _=>True) (λ_=>True):=
 LC.okU (i:=v3) (a:=()) (λ_ _=>rfl) (λ_=>rfl) rfl h0 h1 trivial λv3 _ hj hk hv=>by
  refine Tr.G2 ?_ λ_=>Tr.G2 ?_ λ_=>Tr.Z (by kernel_rfl)
  all_goals (grind)
noncomputable def o7:FT (List Piec×List Piec×Unit) (Bool) (λx=>sL im x.1∧sL im x.2.1) (λ_ _=>True):=⟨λ(x0,x1,_)=>
  .ite ((x0.length:Int) != (x1.length:Int)) (.ret false)<|
  .lp (dm (x0,x1,(x0.length:Int),0,())).lp λw1=> .sum w1 (λ_=>
  .ret false)<|
  λ_=>
  .ret true,
 λ(x0,x1,_) hp=>by
  refine Tr.I (λ_=>Tr.R trivial) λ_=>Tr.L (Ak ?_ ?_ ?_ ?_) (λ_ _=>Tr.Sr (Tr.R trivial)) (λ_ _=>Tr.Sl (Tr.R trivial))
  all_goals ((try simp only[dm,LC.lp,LC.ct,Ct.lp]at*)<;>grind)⟩
noncomputable def Gn:=aV st vJ wq [(bR 0 jz dm)] (ks:=[.sc (.sl .piec),.sc (.sl .piec)]) o7 (λv=>[(false,[.c (.bool v)])]) Tryz.func437 ⟨AV,trivial⟩
noncomputable def kK:FT (Int×Int×Unit) (Int) (λx=>0≤x.2.1) (λ_ _=>True):=⟨λ(x0,x1,_)=>
  .grd (decide (0≤x1))<|
  .grd (decide (0≤(IntKind.wrap .u64 (64-x1))))<|
  .val (bits .or .u64 (IntKind.wrap .u64 (x0*2 ^ (min x1.toNat 64))) (x0.fdiv (2 ^ (min (IntKind.wrap .u64 (64-x1)).toNat 64)))) λe1=>
  .ret e1,
 λ(x0,x1,_) hp=>by
  refine Tr.G1 ?_ λ_=>Tr.G1 ?_ λ_=>Tr.F (by kernel_rfl) trivial
  all_goals (grind)⟩
noncomputable def Rx:=bf st Tryz.func440 [] (ks:=[.sc (.int .u64),.sc (.int .u64)]) kK (λv=>[(false,[.c (.int .u64 v)])])
noncomputable def xC:List (Ent1 Tryz.prog):=[]
def jQ:Sh:=⟨[(0,false,[.sl .arg .bool]),zb 1,zi 7,zi 8],[]⟩
noncomputable def x7:Fx:=⟨441,Tryz.f441,[(0,lb [0,1,7,8] [4])],0⟩
noncomputable def sF (v0:List Bool)(v1:Bool)(v3:Int)(a:Unit):Tr (Stp (Unit) ((Int))):=
 .grd ((decide (0≤v3))&&(decide (v3<(v0.length:Int))))<|
 .ite (v1==(v0.getD v3.toNat false)) (.ret (.out v3))<|
 .ret (.next ())
noncomputable def dW:jQ.V→LC jQ (Unit) ((Int)) (((Int))⊕(Int×Unit)):=λ(v0,v1,v2,v3,_)=>⟨v3,(),λv3 _=>(v0,v1,v2,v3,()),λv3 _=>(decide (v3<v2)),sF v0 v1,up,1,(Int.toNat (v2-v3)),.inl,λi a=> .inr (i,a),λ_ k w=>Sum.elim (λp=>k .ret (Sh.enc ⟨[zi 4],[]⟩ (p,()))) (λ_=>k (.exit 0) (Sh.enc ⟨[zu 4],[]⟩ ())) w⟩
theorem Cd:LS Tryz.prog x7 [0] (bR 0 jQ dW):=aW st (aj xC) _ dW [] trivial
theorem CL {v0:List Bool}{v1:Bool}{v2 v3:Int}(h0:0≤v3)(h1:v2≤4611686018427387904)(h2:v2≤(v0.length:Int)):(dW (v0,v1,v2,v3,())).U v2 (λ_ _=>True) (λp=>v3≤p∧p<v2):=
 LC.okU (i:=v3) (a:=()) (λ_ _=>rfl) (λ_=>rfl) rfl h0 h1 trivial λv3 _ hj hk hv=>by
  refine Tr.G2 ?_ λ_=>Tr.I (λ_=>Tr.Ro ?_) λ_=>Tr.Rn trivial
  all_goals (grind)
noncomputable def qf:FT (List Bool×Bool×Unit) (Int) (λx=>wS x.1) (λx v=> -1≤v∧v<x.1.length):=⟨λ(x0,x1,_)=>
  .lp (dW (x0,x1,(x0.length:Int),0,())).lp λw1=> .sum w1 (λp1a0=>
  .ret p1a0)<|
  λ_=>
  .ret (-1),
 λ(x0,x1,_) hp=>by
  refine Tr.L (CL ?_ ?_ ?_) (λ_ _=>Tr.Sr (Tr.R ?_)) (λp1a0 _=>Tr.Sl (Tr.R ?_))
  all_goals ((try simp only[dW,LC.lp,LC.ct,Ct.lp]at*)<;>grind)⟩
noncomputable def Ib:=aV st x7 xC [(bR 0 jQ dW)] (ks:=[.sc (.sl .bool),.sc .bool]) qf (λv=>[(false,[.c (.int .i64 v)])]) Tryz.func441 ⟨Cd,trivial⟩
noncomputable def qt:FF (Int×Int×Unit) (Int):=⟨λ(x0,x1,_)=>
  .val (bS.f (x0,())) λc1=>
  .val (bS.f (x1,())) λc2=>
  .val (bS.f ((IntKind.wrap .i64 (c1-c2)),())) λc3=>
  .ite (decide (2147483647<c3)) (.ret (IntKind.wrap .i64 (c3-4294967296)))<|
  .ret c3⟩
noncomputable def wZ:=lJ st Tryz.func443 [iZ] (ks:=[.sc (.int .i64),.sc (.int .i64)]) qt (λv=>[(false,[.c (.int .i64 v)])])
noncomputable def pV:List (Ent1 Tryz.prog):=[]
def lD:Sh:=⟨[zp 1 0,(3,false,[.own 1]),zi 4],[.box [.st .recv [.sl .arg]],.arr .i64 false true]⟩
def jV:Sh:=⟨[zp 1 0,(3,false,[.own 1]),zi 5,zi 6],[.box [.st .recv [.sl .arg]],.arr .i64 false true]⟩
def lq:Sh:=⟨[zp 1 0,(3,false,[.own 1]),zi 5],[.box [.st .recv [.sl .arg]],.arr .i64 false true]⟩
noncomputable def qe:Fx:=⟨445,Tryz.f445,[(0,lb [1,3,4] [1,2,3]),(4,lb [1,3,5,6] [1,2,3,5]),(2,lb [1,3,5] [2,3])],0⟩
noncomputable def wx (v0:Int)(a:List Int):Tr (Stp (List Int) (Empty)):=
 .grd ((decide (0≤v0))&&(decide (v0<(a.length:Int))))<|
 .ret (.next (a.set v0.toNat (-1)))
noncomputable def cj:lD.V→LC lD (List Int) (Empty) (Int×(List Int)):=λ(v0,v1,v2,_)=>⟨v0,v2,λv0 a=>(v0,v1,a,()),λv0 a=>(decide (v0<(a.length:Int))),wx,up,1,(Int.toNat ((v2.length:Int)-v0)),(λp=>Empty.elim p),λi a=>(i,a),λ_ k x=>k (.exit 0) (Sh.enc ⟨[zp 1 0,zu 2,(3,false,[.own 1])],[.box [.st .recv [.sl .arg]],.arr .i64 false true]⟩ (v1,x.2,()))⟩
theorem GD:LS Tryz.prog qe [0] (bR 0 lD cj):=aW st (aj pV) _ cj [] trivial
theorem GO {v0:Int}{v1:Recv}{v2:List Int}(h0:0≤v0)(h1:(v2.length:Int)≤4611686018427387904)(h2:sS v2)(h3:v2.length=v2.length):(cj (v0,v1,v2,())).S (λv0 a=>a.length=v2.length∧a.length=v2.length) (λ_=>True):=by
 refine LC.okS ⟨rfl,h3⟩ (λj a hj hv=>⟨⟨?_, ?_⟩, ?_⟩) (λa hv=> ?_)
 ·simp only[cj,decide_eq_true_eq]at*;omega
 ·simp only[cj]at*;exact upw (by omega) (by omega)
 ·refine Tr.G2 ?_ λ_=>Tr.Rn ?_
  all_goals (try simp only[cj]at*)<;>(grind)
 ·simp only[cj,decide_eq_false_iff_not]at*;omega
noncomputable def mE (vb0:Int)(vb2:Recv)(a:Int×List Int):Tr (Stp (Int×List Int) ((List Int))):=
 .grd ((decide (0≤vb0))&&(decide (vb0<(vb2.held.length:Int))))<|
 .ite (decide (a.1<(((vb2.held.getD vb0.toNat (Ty.zero .piec)).text).length:Int))) (.grd ((decide (0≤vb0))&&(decide (vb0<(vb2.held.length:Int))))<|
  .val (IntKind.wrap .i64 ((vb2.held.getD vb0.toNat (Ty.zero .piec)).off+a.1)) λe2=>
  .grd ((decide (0≤vb0))&&(decide (vb0<(vb2.held.length:Int))))<|
  .grd ((decide (0≤a.1))&&(decide (a.1<(((vb2.held.getD vb0.toNat (Ty.zero .piec)).text).length:Int))))<|
  .val (IntKind.wrap .i64 (ae ((vb2.held.getD vb0.toNat (Ty.zero .piec)).text) a.1.toNat)) λe3=>
  .grd ((decide (0≤e2))&&(decide (e2<(a.2.length:Int))))<|
  .ret (.next ((IntKind.wrap .i64 (a.1+1)),(a.2.set e2.toNat e3))))<|
 .ret (.out a.2)
noncomputable def dM:jV.V→LW jV (Int×List Int) ((List Int)):=λ(vb0,vb1,vb2,vb3,_)=>⟨(vb1,vb3),λa=>(vb0,a.1,vb2,a.2,()),mE vb0 vb2,Int.toNat (((vb2.held.getD vb0.toNat (Ty.zero .piec)).text.length:Int)-vb1),λ_ k p=>k (.exit 4) (Sh.enc ⟨[zp 1 0,zu 2,(3,false,[.own 1]),zi 5],[.box [.st .recv [.sl .arg]],.arr .i64 false true]⟩ (vb0,vb2,p,()))⟩
theorem Ca:LS Tryz.prog qe [1,0] (DJ 4 jV dM):=uf st (aj pV) _ dM [] trivial
theorem B1 {vb0 vb1:Int}{vb2:Recv}{vb3:List Int}(h0:0≤vb0)(h1:vb0<(vb2.held.length:Int))(h2:eb po vb2.held)(h3:ax vb2)(h4:0≤vb1∧vb3.length=33):(dM (vb0,vb1,vb2,vb3,())).W (λp=>p.length=33):=
 LW.okW (a:=(vb1,vb3)) (λa=>0≤a.1∧a.2.length=33) (λa=>Int.toNat (((vb2.held.getD vb0.toNat (Ty.zero .piec)).text.length:Int)-a.1)) rfl h4 λ(vb1,vb3) hv=>by
  refine Tr.G2 ?_ λg0=>Tr.I (λb1=>Tr.G2 ?_ λg2=>Tr.V λe2 he2=>Tr.G2 ?_ λg3=>Tr.G2 ?_ λg4=>Tr.V λe3 he3=>Tr.G2 ?_ λg5=>Tr.Rn ?_) λb1=>Tr.Ro ?_
  all_goals ((have hp:=ado (i:=vb0.toNat) h2 (by omega);simp only[po]at hp;grind))
noncomputable def vY (v1:Recv)(v0:Int)(a:List Int):Tr (Stp (List Int) (Empty)):=
 .lp (dM (v0,0,v1,a,())).lp λp4a0=>
 .ret (.next p4a0)
noncomputable def fq:lq.V→LC lq (List Int) (Empty) (Int×(List Int)):=λ(v0,v1,v2,_)=>⟨v0,v2,λv0 a=>(v0,v1,a,()),λv0 _=>(decide (v0<(v1.held.length:Int))),vY v1,up,1,(Int.toNat ((v1.held.length:Int)-v0)),(λp=>Empty.elim p),λi a=>(i,a),λ_ k x=>k (.exit 2) (Sh.enc ⟨[zu 2,(3,false,[.own 0])],[.arr .i64 false true]⟩ (x.2,()))⟩
theorem Hm:LS Tryz.prog qe [1] (bR 2 lq fq):=aW st (aj pV) _ fq [(DJ 4 jV dM)] ⟨Ca,trivial⟩
theorem GG {v0:Int}{v1:Recv}{v2:List Int}(h0:0≤v0)(h1:(v1.held.length:Int)≤4611686018427387904)(h2:eb po v1.held)(h3:ax v1)(h4:v2.length=33):(fq (v0,v1,v2,())).U (v1.held.length:Int) (λv0 a=>a.length=33) (λ_=>True):=
 LC.okU (i:=v0) (a:=v2) (λ_ _=>rfl) (λ_=>rfl) rfl h0 h1 h4 λv0 v2 hj hk hv=>by
  refine Tr.L (B1 ?_ ?_ ?_ ?_ ?_) (λa=>Empty.elim a) (λp4a0 _=>Tr.Rn ?_)
  all_goals ((try simp only[dM,LW.lp,LW.cw,Cw.lp]at*)<;>grind)
noncomputable def uu:FT (Recv×Unit) (List Int) (λx=>ax x.1∧eb po x.1.held) (λx v=>sS v∧v.length=33):=⟨λ(x0,_)=>
  .lp (cj (0,x0,(List.replicate 33 0),())).lp λ(_,a1_0)=>
  .lp (fq (0,x0,a1_0,())).lp λ(_,a5_0)=>
  .ret a5_0,
 λ(x0,_) hp=>by
  refine Tr.L (GO ?_ ?_ ?_ ?_) (λa1_0 _=>Tr.L (GG ?_ ?_ ?_ ?_ ?_) (λa5_0 _=>Tr.R ?_) (λp=>Empty.elim p)) (λp=>Empty.elim p)
  all_goals ((try simp only[cj,fq,LC.lp,LC.ct,Ct.lp]at*)<;>grind)⟩
noncomputable def Qo:=aV st qe pV [(bR 0 lD cj),(bR 2 lq fq)] (ks:=[.st .recv]) uu (λv=>[(false,[sc (.o true) .i64 v])]) Tryz.func445 ⟨GD,Hm,trivial⟩
noncomputable def F5:List (Ent1 Tryz.prog):=[]
def mP:Sh:=⟨[(0,false,[.sl .arg .i64]),zi 5],[]⟩
noncomputable def FM:Fx:=⟨446,Tryz.f446,[(0,lb [0,5] [4])],0⟩
noncomputable def nz (v0:List Int)(v1:Int)(a:Unit):Tr (Stp (Unit) ((Unit))):=
 .grd ((decide (0≤v1))&&(decide (v1<(v0.length:Int))))<|
 .ite (decide (0≤(v0.getD v1.toNat 0))) (.ret (.out ()))<|
 .ret (.next ())
noncomputable def f7:mP.V→LC mP (Unit) ((Unit)) (((Unit))⊕(Int×Unit)):=λ(v0,v1,_)=>⟨v1,(),λv1 _=>(v0,v1,()),λv1 _=>(decide (v1<(v0.length:Int))),nz v0,up,1,(Int.toNat ((v0.length:Int)-v1)),.inl,λi a=> .inr (i,a),λ_ k w=>Sum.elim (λ_=>k .ret (Sh.enc ⟨[zb 4],[]⟩ (false,()))) (λ_=>k (.exit 0) (Sh.enc ⟨[zu 4],[]⟩ ())) w⟩
theorem J4:LS Tryz.prog FM [0] (bR 0 mP f7):=aW st (aj F5) _ f7 [] trivial
theorem Kw {v0:List Int}{v1:Int}(h0:0≤v1)(h1:(v0.length:Int)≤4611686018427387904):(f7 (v0,v1,())).U (v0.length:Int) (λ_ _=>True) (λ_=>True):=
 LC.okU (i:=v1) (a:=()) (λ_ _=>rfl) (λ_=>rfl) rfl h0 h1 trivial λv1 _ hj hk hv=>by
  refine Tr.G2 ?_ λ_=>Tr.Z (by kernel_rfl)
  all_goals (grind)
noncomputable def uk:FT (List Int×Int×Unit) (Bool) (λx=>sS x.1∧0≤x.2.1) (λ_ _=>True):=⟨λ(x0,x1,_)=>
  .lp (f7 (x0,x1,())).lp λw1=> .sum w1 (λ_=>
  .ret false)<|
  λ_=>
  .ret true,
 λ(x0,x1,_) hp=>by
  refine Tr.L (Kw ?_ ?_) (λ_ _=>Tr.Sr (Tr.R trivial)) (λ_ _=>Tr.Sl (Tr.R trivial))
  all_goals ((try simp only[f7,LC.lp,LC.ct,Ct.lp]at*)<;>grind)⟩
noncomputable def Se:=aV st FM F5 [(bR 0 mP f7)] (ks:=[.sc (.sl .i64),.sc (.int .i64)]) uk (λv=>[(false,[.c (.bool v)])]) Tryz.func446 ⟨J4,trivial⟩
noncomputable def zw:List (Ent1 Tryz.prog):=[]
def kF:Sh:=⟨[(0,false,[.sl .arg .i64]),zi 1,(5,false,[.own 0]),zi 6],[.arr .piec false true]⟩
noncomputable def zI:Fx:=⟨447,Tryz.f447,[(0,lb [0,1,5,6] [4,5]),(3000007,rA 0 44)],0⟩
noncomputable def cp (v0:List Int)(v1:Int)(v2:Int)(a:List Piec):Tr (Stp (List Piec) (Empty)):=
 .grd ((decide (0≤v2))&&(decide (v2<(v0.length:Int))))<|
 .ite (decide ((v0.getD v2.toNat 0)<0)) (.ret (.next a))<|
 .bnd (β:=Bool×Unit) (.ite (decide (0<(a.length:Int))) (.grd ((decide (0≤(IntKind.wrap .i64 ((a.length:Int)-1))))&&(decide ((IntKind.wrap .i64 ((a.length:Int)-1))<(a.length:Int))))<|
   .val ((a.getD (IntKind.wrap .i64 ((a.length:Int)-1)).toNat (Ty.zero .piec)).off) λe1=>
   .grd ((decide (0≤(IntKind.wrap .i64 ((a.length:Int)-1))))&&(decide ((IntKind.wrap .i64 ((a.length:Int)-1))<(a.length:Int))))<|
   .val ((a.getD (IntKind.wrap .i64 ((a.length:Int)-1)).toNat (Ty.zero .piec)).text) λe2=>
   .ret (((IntKind.wrap .i64 (e1+(e2.length:Int)))==(IntKind.wrap .i64 (v2-v1))),()))<|
  .ret (false,())) λ(u3a0,_)=>
 .ite u3a0 (.grd ((decide (0≤(IntKind.wrap .i64 ((a.length:Int)-1))))&&(decide ((IntKind.wrap .i64 ((a.length:Int)-1))<(a.length:Int))))<|
  .val ((a.getD (IntKind.wrap .i64 ((a.length:Int)-1)).toNat (Ty.zero .piec)).text) λe4=>
  .grd ((decide (0≤v2))&&(decide (v2<(v0.length:Int))))<|
  .grd (Nat.ble (e4.length+(av [(IntKind.wrap .u8 (v0.getD v2.toNat 0))]).length) an)<|
  .grd ((decide (0≤(IntKind.wrap .i64 ((a.length:Int)-1))))&&(decide ((IntKind.wrap .i64 ((a.length:Int)-1))<(a.length:Int))))<|
  .val (a.set (IntKind.wrap .i64 ((a.length:Int)-1)).toNat (⟨(a.getD (IntKind.wrap .i64 ((a.length:Int)-1)).toNat (Ty.zero .piec)).off,(e4++(av [(IntKind.wrap .u8 (v0.getD v2.toNat 0))]))⟩:Piec)) λl5=>
  .ret (.next l5))<|
 .grd ((decide (0≤v2))&&(decide (v2<(v0.length:Int))))<|
 .grd (Nat.ble ((2*(a.length+1)+1024)*24) aF)<|
 .val (a++[(⟨(IntKind.wrap .i64 (v2-v1)),(av [(IntKind.wrap .u8 (v0.getD v2.toNat 0))])⟩:Piec)]) λl6=>
 .ret (.next l6)
noncomputable def eq:kF.V→LC kF (List Piec) (Empty) (Int×(List Piec)):=λ(v0,v1,v2,v3,_)=>⟨v2,v3,λv2 a=>(v0,v1,v2,a,()),λv2 _=>(decide (v2<(v0.length:Int))),cp v0 v1,up,1,(Int.toNat ((v0.length:Int)-v2)),(λp=>Empty.elim p),λi a=>(i,a),λ_ k x=>k (.exit 0) (Sh.enc ⟨[zu 4,(5,false,[.own 0])],[.arr .piec false true]⟩ (x.2,()))⟩
theorem DA:LS Tryz.prog zI [0] (bR 0 kF eq):=aW st (aj zw) _ eq [] trivial
theorem Dm {v0:List Int}{v1 v2:Int}{v3:List Piec}(h0:0≤v2)(h1:(v0.length:Int)≤4611686018427387904)(h2:sS v0)(h3:(v3.length:Int)≤v2∧eb (pl v2) v3):(eq (v0,v1,v2,v3,())).U (v0.length:Int) (λv2 a=>(a.length:Int)≤v2∧eb (pl v2) a) (λ_=>True):=
 LC.okU (i:=v2) (a:=v3) (λ_ _=>rfl) (λ_=>rfl) rfl h0 h1 h3 λv2 v3 hj hk hv=>by
  refine Tr.G2 ?_ λg0=>Tr.I (λb1=>Tr.Rn ?_) λb1=>Tr.B (Q':=λw=>(w.1=true→0<v3.length)) (Tr.I (λb2=>Tr.G2 ?_ λg3=>Tr.V λe1 he1=>Tr.G2 ?_ λg4=>Tr.V λe2 he2=>Tr.R ?_) λb2=>Tr.R ?_) (λ(u3a0,_) hj3 qj3=>Tr.I (λb2=>Tr.G2 ?_ λg3=>Tr.V λe4 he4=>Tr.G2 ?_ λg4=>Tr.Gb ?_ λg5=>Tr.G2 ?_ λg6=>Tr.V λl5 hl5=>Tr.Rn ?_) λb2=>Tr.G2 ?_ λg3=>Tr.Gb ?_ λg4=>Tr.V λl6 hl6=>Tr.Rn ?_)
  all_goals ((try simp only[Tr.nice,bo]at*)<;>(have hp:=ac1 hv.2 (show(0:Int)≤v2 by omega);have hu:=ac9 hv.2;have hw:0<v3.length→IntKind.wrap .i64 ((v3.length:Int)-1)=v3.length-1:=λh=>ar (by omega) (by simp only[sS]at h2;omega);have hq:=hp (IntKind.wrap .i64 ((v3.length:Int)-1)).toNat;(try rw[←he4]at hq);clear hj hp;first|omega|(simp only[br,List.length_cons,List.length_nil,an,sS]at*;omega)|(subst hl5;exact⟨by rw[List.length_set];omega,acW hu (by simp only[pl,List.length_append,br,List.length_cons,List.length_nil];omega)⟩)|(subst hl6;exact⟨by simp only[List.length_append,List.length_cons,List.length_nil];omega,aaZ hu (by simp only[pl,br,List.length_cons,List.length_nil];omega)⟩)|grind))
noncomputable def pd:FT (List Int×Int×Unit) (List Piec) (λx=>sS x.1∧0≤x.2.1∧x.2.1≤4294967296) (λx v=>sL im v):=⟨λ(x0,x1,_)=>
  .lp (eq (x0,x1,x1,[],())).lp λ(_,a7_0)=>
  .ret a7_0,
 λ(x0,x1,_) hp=>by
  refine Tr.L (Dm ?_ ?_ ?_ ?_) (λa7_0 i7=>Tr.R ?_) (λp=>Empty.elim p)
  all_goals ((try simp only[eq,LC.lp,LC.ct,Ct.lp]at*)<;>grind [adx])⟩
noncomputable def Nw:=aV st zI zw [(bR 0 kF eq)] (ks:=[.sc (.sl .i64),.sc (.int .i64)]) pd (λv=>[(false,[sc (.o true) .piec v])]) Tryz.func447 ⟨DA,trivial⟩
noncomputable def PU:List (Ent1 Tryz.prog):=[]
def GJ:An:=⟨⟨[],[],false,0⟩,⟨[1,2],[],false,0⟩,⟨[],[]⟩,[(.ret,⟨[zp 1 0,zi 2],[.box [.st .conn [.sl .arg]]]⟩),(.normal,⟨[zp 1 0,zi 2],[.box [.st .conn [.sl .arg]]]⟩)]⟩
noncomputable def Qu:Fx:=⟨448,Tryz.f448,[(1000005,GJ),(3000006,rA 0 12)],0⟩
noncomputable def va:FT (Conn×Unit) (Int) (λx=>ai x.1) (λ_ _=>True):=⟨λ(x0,_)=>
  .bnd (β:=(Int×Conn×Unit)⊕(Int×Conn×Unit)) (.ite (x0.state==1) (.ite x0.r.done (.ret (.inl (4,x0,())))<|
    .ret (.inr ((0,x0,()))))<|
   .ite (x0.state==2) (.bnd (β:=Bool×Unit) (.ite x0.s.done (.ret (x0.r.done,()))<|
     .ret (false,())) λ(u1a0,_)=>
    .ite u1a0 (.ret (.inl (7,x0,())))<|
    .ite x0.s.done (.ret (.inl (3,x0,())))<|
    .ite x0.r.done (.ret (.inl (5,x0,())))<|
    .ret (.inr ((0,x0,()))))<|
   .ite (x0.state==3) (.ite x0.r.done (.ret (.inl (7,x0,())))<|
    .ret (.inr ((0,x0,()))))<|
   .ite (x0.state==5) (.ite x0.s.done (.ret (.inl (7,x0,())))<|
    .ret (.inr ((0,x0,()))))<|
   .ite (x0.state==6) (.ite x0.s.done (.ret (.inl (8,x0,())))<|
    .ret (.inr ((0,x0,()))))<|
   .ret (.inr ((0,x0,())))) λw2=> .sum w2 (λ(u2a0,_,_)=>
  .ret u2a0)<|
  λ(_,u2b1,_)=>
  .ret u2b1.state,
 λ(x0,_) hp=>by
  refine Tr.B (Q':=(Sum.elim (λw=>ai w.2.1) (λw=>ai w.2.1))) (Tr.I (λ_=>Tr.I (λ_=>Tr.R ?_) λ_=>Tr.R ?_) λ_=>Tr.I (λ_=>Tr.B (Q':=λ_=>True) (Tr.F (by kernel_rfl) trivial) (λ(u1a0,_) _ _=>Tr.I (λ_=>Tr.R ?_) λ_=>Tr.I (λ_=>Tr.R ?_) λ_=>Tr.I (λ_=>Tr.R ?_) λ_=>Tr.R ?_)) λ_=>Tr.I (λ_=>Tr.I (λ_=>Tr.R ?_) λ_=>Tr.R ?_) λ_=>Tr.I (λ_=>Tr.I (λ_=>Tr.R ?_) λ_=>Tr.R ?_) λ_=>Tr.I (λ_=>Tr.I (λ_=>Tr.R ?_) λ_=>Tr.R ?_) λ_=>Tr.R ?_) (λ_ _ q2=>Tr.E q2 (λ(u2a0,u2a1,_) _=>Tr.R trivial) (λ(u2b0,u2b1,_) _=>Tr.R trivial))
  all_goals ((try simp only[Tr.nice,bo]at*)<;>grind)⟩
noncomputable def QH:=aV st Qu PU [] (ks:=[.st .conn]) va (λv=>[(false,[.c (.int .i64 v)])]) Tryz.func448 trivial
noncomputable def qR:FF (Int×Int×Unit) (Sipr):=⟨λ(x0,x1,_)=>
  .ret (⟨(bits .xor .u64 x0 8317987319222330741),(bits .xor .u64 x1 7237128888997146477),(bits .xor .u64 x0 7816392313619706465),(bits .xor .u64 x1 8387220255154660723)⟩:Sipr)⟩
noncomputable def Pr:=lJ st Tryz.func450 [] (ks:=[.sc (.int .u64),.sc (.int .u64)]) qR (λv=>[(true,DP v)])
noncomputable def IB:List (Ent1 Tryz.prog):=[]
def oV:Sh:=⟨[(0,false,[.sl .arg .u8]),(3,false,[.int .u64]),zi 4],[]⟩
noncomputable def IV:Fx:=⟨452,Tryz.f452,[(0,lb [0,3,4] [2,3])],0⟩
noncomputable def MF (v0:List Int)(v2:Int)(a:Int):Tr (Stp (Int) (Empty)):=
 .grd ((decide (0≤v2))&&(decide (v2<(v0.length:Int))))<|
 .val (bits .or .u64 (IntKind.wrap .u64 (a*256)) (IntKind.wrap .u64 (v0.getD v2.toNat 0))) λe1=>
 .ret (.next e1)
noncomputable def gT:oV.V→LC oV (Int) (Empty) (Int×Int):=λ(v0,v1,v2,_)=>⟨v2,v1,λv2 a=>(v0,a,v2,()),λv2 _=>(decide (0≤v2)),MF v0,dn,(-1),(Int.toNat (v2-0+1)),(λp=>Empty.elim p),λi a=>(i,a),λ_ k x=>k (.exit 0) (Sh.enc ⟨[zu 2,(3,false,[.int .u64])],[]⟩ (x.2,()))⟩
theorem M3:LS Tryz.prog IV [0] (bR 0 oV gT):=aW st (aj IB) _ gT [] trivial
theorem MJ {v0:List Int}{v1 v2:Int}(h0:v2≤9223372036854775807)(h1:v2<(v0.length:Int)):(gT (v0,v1,v2,())).D 0 (λv2 a=>v2<(v0.length:Int)) (λ_=>True):=
 LC.okD (i:=v2) (a:=v1) (λ_ _=>rfl) (λ_=>rfl) rfl h0 (by decide) h1 λv2 v1 hj hk hv=>by
  refine Tr.G2 ?_ λ_=>Tr.V λ_ _=>Tr.Rn ?_
  all_goals (grind)
noncomputable def rc:FT (List Int×Unit) (Int) (λx=>sS x.1∧8≤x.1.length) (λ_ _=>True):=⟨λ(x0,_)=>
  .lp (gT (x0,0,7,())).lp λ(_,a2_0)=>
  .ret a2_0,
 λ(x0,_) hp=>by
  refine Tr.L (MJ ?_ ?_) (λa2_0 _=>Tr.R trivial) (λp=>Empty.elim p)
  all_goals ((try simp only[gT,LC.lp,LC.ct,Ct.lp]at*)<;>grind)⟩
noncomputable def Wg:=aV st IV IB [(bR 0 oV gT)] (ks:=[.sc (.sl .u8)]) rc (λv=>[(false,[.c (.int .u64 v)])]) Tryz.func452 ⟨M3,trivial⟩
noncomputable def df:FT (Int×Int×Unit) (Int) (λ_=>True) (λ_ _=>True):=⟨λ(x0,x1,_)=>
  .grd (decide (0≤(bits .and .u64 (IntKind.wrap .u64 x1) 63)))<|
  .val (IntKind.wrap .u64 (x0*2 ^ (min (bits .and .u64 (IntKind.wrap .u64 x1) 63).toNat 64))) λe1=>
  .grd (decide (0≤(IntKind.wrap .u64 (64-(bits .and .u64 (IntKind.wrap .u64 x1) 63)))))<|
  .val (x0.fdiv (2 ^ (min (IntKind.wrap .u64 (64-(bits .and .u64 (IntKind.wrap .u64 x1) 63))).toNat 64))) λe2=>
  .ret (bits .or .u64 e1 e2),
 λ(x0,x1,_) hp=>by
  refine Tr.G1 ?_ λ_=>Tr.V λ_ _=>Tr.G1 ?_ λ_=>Tr.F (by kernel_rfl) trivial
  all_goals (grind)⟩
noncomputable def BE:=bf st Tryz.func456 [] (ks:=[.sc (.int .u64),.sc (.int .i64)]) df (λv=>[(false,[.c (.int .u64 v)])])
noncomputable def uF:FT (Conn×Conn×Unit) (Bool) (λx=>ai x.1∧ai x.2.1) (λ_ _=>True):=⟨λ(x0,x1,_)=>
  .ite ((x0.tuple.ip==x1.tuple.ip)&&((x0.tuple.port==x1.tuple.port)&&((x0.tuple.my==x1.tuple.my)&&true))) (.ite (x0.state==x1.state) (.ite ((x0.s.una==x1.s.una)&&((x0.s.data==x1.s.data)&&((x0.s.sent==x1.s.sent)&&((x0.s.fin==x1.s.fin)&&((x0.s.finSent==x1.s.finSent)&&((x0.s.done==x1.s.done)&&true)))))) (.cal nm.c (x0.r,x1.r,()) λc1=>
     .ite c1 (.ite (x0.window==x1.window) (.ite (x0.most==x1.most) (.ite ((x0.opts.mss==x1.opts.mss)&&((x0.opts.scale==x1.opts.scale)&&((x0.opts.sack==x1.opts.sack)&&((x0.opts.stamp==x1.opts.stamp)&&((x0.opts.val==x1.opts.val)&&((x0.opts.echo==x1.opts.echo)&&true)))))) (.ite (x0.timer==x1.timer) (.ret (x0.tries==x1.tries))<|
         .ret false)<|
        .ret false)<|
       .ret false)<|
      .ret false)<|
     .ret false)<|
    .ret false)<|
   .ret false)<|
  .ret false,
 λ(x0,x1,_) hp=>by
  refine Tr.I (λ_=>Tr.I (λ_=>Tr.I (λ_=>Tr.C ?_ λ_ _ _=>Tr.F (by kernel_rfl) trivial) λ_=>Tr.R trivial) λ_=>Tr.R trivial) λ_=>Tr.R trivial
  all_goals (grind)⟩
noncomputable def Qw:=bf st Tryz.func20 [D4] (ks:=[.st .conn,.st .conn]) uF (λv=>[(false,[.c (.bool v)])])
noncomputable def bN:FF (Int×Int×Unit) (Int):=⟨λ(x0,x1,_)=>
  .val (bS.f (x0,())) λc1=>
  .val (bS.f (x1,())) λc2=>
  .val (bS.f ((IntKind.wrap .i64 (c1+c2)),())) λc3=>
  .ret c3⟩
noncomputable def dJ:=lJ st Tryz.func63 [iZ] (ks:=[.sc (.int .i64),.sc (.int .i64)]) bN (λv=>[(false,[.c (.int .i64 v)])])
noncomputable def PC:=[Fy]
noncomputable def Rh:Fx:=⟨67,Tryz.f67,[(3000003,rA 0 14)],0⟩
noncomputable def uG:FT (Keys×Int×Unit) (Mac×Bool) (λx=>cC x.1) (λx v=>fH v.1):=⟨λ(x0,x1,_)=>
  .ite (x1==x0.epoch) (.cal nU.c (x0.now,()) λc1=>
   .ret (c1,true))<|
  .bnd (β:=Bool×Unit) (.ite x0.two (.ret ((x1==(IntKind.wrap .i64 (x0.epoch-1))),()))<|
   .ret (false,())) λ(u2a0,_)=>
  .ite u2a0 (.cal nU.c (x0.before,()) λc3=>
   .ret (c3,true))<|
  .ret ((⟨false,0,0,[]⟩:Mac),false),
 λ(x0,x1,_) hp=>by
  refine Tr.I (λ_=>Tr.C ?_ λ_ _ _=>Tr.R ?_) λ_=>Tr.B (Q':=λ_=>True) (Tr.F (by kernel_rfl) trivial) (λ(u2a0,_) _ _=>Tr.I (λ_=>Tr.C ?_ λ_ _ _=>Tr.R ?_) λ_=>Tr.R ?_)
  all_goals ((try simp only[Tr.nice,bo]at*)<;>grind)⟩
noncomputable def QS:=aV st Rh PC [] (ks:=[.st .keys,.sc (.int .i64)]) uG (λv=>[(true,Jp (.o true) v.1),(false,[.c (.bool v.2)])]) Tryz.func67 trivial
noncomputable def ez:FT (Conn×Unit) (Conn) (λx=>ai x.1) (λx v=>ai v∧v=x.1):=⟨λ(x0,_)=>
  .cal dY.c (x0.r,()) λc1=>
  .ret ({x0 with r.next:=c1.next,r.data:=c1.data,r.held:=c1.held,r.fin:=c1.fin,r.done:=c1.done}:Conn),
 λ(x0,_) hp=>by
  refine Tr.C ?_ λc1 hc1 qc1=>Tr.R ?_
  all_goals ((first|grind|(refine⟨by grind, ?_⟩;first|(simp only[List.nil_append];done)|(subst_vars;rfl)|simp_all)))⟩
noncomputable def eY:=bf st Tryz.func86 [xh] (ks:=[.st .conn]) ez (λv=>[(true,jP (.o true) v)])
noncomputable def uN:FT (Keys×Keys×Unit) (Bool) (λx=>cC x.1∧cC x.2.1) (λ_ _=>True):=⟨λ(x0,x1,_)=>
  .ite (x0.epoch==x1.epoch) (.ite (x0.two==x1.two) (.cal mi.c (x0.now,x1.now,()) λc1=>
    .ite c1 (.cal mi.c (x0.before,x1.before,()) λc2=>
     .ret c2)<|
    .ret false)<|
   .ret false)<|
  .ret false,
 λ(x0,x1,_) hp=>by
  refine Tr.I (λ_=>Tr.I (λ_=>Tr.C ?_ λ_ _ _=>Tr.I (λ_=>Tr.C ?_ λ_ _ _=>Tr.R trivial) λ_=>Tr.R trivial) λ_=>Tr.R trivial) λ_=>Tr.R trivial
  all_goals (grind)⟩
noncomputable def Q4:=bf st Tryz.func87 [Fe] (ks:=[.st .keys,.st .keys]) uN (λv=>[(false,[.c (.bool v)])])
noncomputable def tj:=[Qw]
def kx:Sh:=⟨[zp 2 0,zp 3 1,zi 5],[.box [.st .tabl [.sl .arg,.sl .arg]],.box [.st .tabl [.sl .arg,.sl .arg]]]⟩
def kU:Sh:=⟨[zp 2 0,zp 3 1,zi 6],[.box [.st .tabl [.sl .arg,.sl .arg]],.box [.st .tabl [.sl .arg,.sl .arg]]]⟩
noncomputable def tc:Fx:=⟨88,Tryz.f88,[(0,lb [2,3,5] [2,3,4]),(2,lb [2,3,6] [4]),(3000001,rA 0 22)],0⟩
noncomputable def ot (v1 v2:Tabl)(v0:Int)(a:Unit):Tr (Stp (Unit) ((Unit))):=
 .grd ((decide (0≤v0))&&(decide (v0<(v1.conns.length:Int))))<|
 .grd ((decide (0≤v0))&&(decide (v0<(v2.conns.length:Int))))<|
 .cal uF.c ((v1.conns.getD v0.toNat (Ty.zero .conn)),(v2.conns.getD v0.toNat (Ty.zero .conn)),()) λc2=>
 .ite (!c2) (.ret (.out ()))<|
 .ret (.next ())
noncomputable def em:kx.V→LC kx (Unit) ((Unit)) (((Unit))⊕(Int×Unit)):=λ(v0,v1,v2,_)=>⟨v0,(),λv0 _=>(v0,v1,v2,()),λv0 _=>(decide (v0<(v1.conns.length:Int))),ot v1 v2,up,1,(Int.toNat ((v1.conns.length:Int)-v0)),.inl,λi a=> .inr (i,a),λ_ k w=>Sum.elim (λ_=>k .ret (Sh.enc ⟨[zp 2 0,zp 3 1,zb 4],[.box [.st .tabl [.sl .arg,.sl .arg]],.box [.st .tabl [.sl .arg,.sl .arg]]]⟩ (false,v1,v2,()))) (λ_=>k (.exit 0) (Sh.enc ⟨[zp 2 0,zp 3 1,zu 4],[.box [.st .tabl [.sl .arg,.sl .arg]],.box [.st .tabl [.sl .arg,.sl .arg]]]⟩ (v1,v2,()))) w⟩
theorem DB:LS Tryz.prog tc [0] (bR 0 kx em):=aW st (aj tj) _ em [] trivial
theorem Dr {v0:Int}{v1 v2:Tabl}(h0:0≤v0)(h1:(v1.conns.length:Int)≤4611686018427387904)(h2:bu v1)(h3:bu v2)(h4:(v1.conns.length:Int)≤(v2.conns.length:Int)):(em (v0,v1,v2,())).U (v1.conns.length:Int) (λ_ _=>True) (λ_=>True):=
 LC.okU (i:=v0) (a:=()) (λ_ _=>rfl) (λ_=>rfl) rfl h0 h1 trivial λv0 _ hj hk hv=>by
  refine Tr.G2 ?_ λ_=>Tr.G2 ?_ λ_=>Tr.C ?_ λ_ _ _=>Tr.Z (by kernel_rfl)
  all_goals (grind)
noncomputable def n8 (v1 v2:Tabl)(v0:Int)(a:Unit):Tr (Stp (Unit) ((Unit))):=
 .grd ((decide (0≤v0))&&(decide (v0<(v1.waiting.length:Int))))<|
 .grd ((decide (0≤v0))&&(decide (v0<(v2.waiting.length:Int))))<|
 .ite (!(((v1.waiting.getD v0.toNat (Ty.zero .tupl)).ip==(v2.waiting.getD v0.toNat (Ty.zero .tupl)).ip)&&(((v1.waiting.getD v0.toNat (Ty.zero .tupl)).port==(v2.waiting.getD v0.toNat (Ty.zero .tupl)).port)&&(((v1.waiting.getD v0.toNat (Ty.zero .tupl)).my==(v2.waiting.getD v0.toNat (Ty.zero .tupl)).my)&&true)))) (.ret (.out ()))<|
 .ret (.next ())
noncomputable def ew:kU.V→LC kU (Unit) ((Unit)) (((Unit))⊕(Int×Unit)):=λ(v0,v1,v2,_)=>⟨v0,(),λv0 _=>(v0,v1,v2,()),λv0 _=>(decide (v0<(v1.waiting.length:Int))),n8 v1 v2,up,1,(Int.toNat ((v1.waiting.length:Int)-v0)),.inl,λi a=> .inr (i,a),λ_ k w=>Sum.elim (λ_=>k .ret (Sh.enc ⟨[zb 4],[]⟩ (false,()))) (λ_=>k (.exit 2) (Sh.enc ⟨[zu 4],[]⟩ ())) w⟩
theorem Ed:LS Tryz.prog tc [1] (bR 2 kU ew):=aW st (aj tj) _ ew [] trivial
theorem DK {v0:Int}{v1 v2:Tabl}(h0:0≤v0)(h1:(v1.waiting.length:Int)≤4611686018427387904)(h2:(v1.waiting.length:Int)≤(v2.waiting.length:Int)):(ew (v0,v1,v2,())).U (v1.waiting.length:Int) (λ_ _=>True) (λ_=>True):=
 LC.okU (i:=v0) (a:=()) (λ_ _=>rfl) (λ_=>rfl) rfl h0 h1 trivial λv0 _ hj hk hv=>by
  refine Tr.G2 ?_ λ_=>Tr.G2 ?_ λ_=>Tr.Z (by kernel_rfl)
  all_goals (grind)
noncomputable def sm:FT (Tabl×Tabl×Unit) (Bool) (λx=>bu x.1∧bu x.2.1) (λ_ _=>True):=⟨λ(x0,x1,_)=>
  .bnd (β:=Bool×Unit) (.ite ((x0.conns.length:Int) != (x1.conns.length:Int)) (.ret (true,()))<|
   .ret (((x0.waiting.length:Int) != (x1.waiting.length:Int)),())) λ(u1a0,_)=>
  .ite u1a0 (.ret false)<|
  .lp (em (0,x0,x1,())).lp λw3=> .sum w3 (λ_=>
  .ret false)<|
  λ_=>
  .lp (ew (0,x0,x1,())).lp λw4=> .sum w4 (λ_=>
  .ret false)<|
  λ_=>
  .ret true,
 λ(x0,x1,_) hp=>by
  refine Tr.B (Q':=λ_=>True) (Tr.F (by kernel_rfl) trivial) (λ(u1a0,_) _ _=>Tr.I (λ_=>Tr.R trivial) λ_=>Tr.L (Dr ?_ ?_ ?_ ?_ ?_) (λ_ _=>Tr.Sr (Tr.L (DK ?_ ?_ ?_) (λ_ _=>Tr.Sr (Tr.R trivial)) (λ_ _=>Tr.Sl (Tr.R trivial)))) (λ_ _=>Tr.Sl (Tr.R trivial)))
  all_goals ((try simp only[em,ew,LC.lp,LC.ct,Ct.lp,Tr.nice,bo]at*)<;>grind)⟩
noncomputable def MW:=aV st tc tj [(bR 0 kx em),(bR 2 kU ew)] (ks:=[.st .tabl,.st .tabl]) sm (λv=>[(false,[.c (.bool v)])]) Tryz.func88 ⟨DB,Ed,trivial⟩
noncomputable def aE:FT (Int×Int×Unit) (Bool) (λ_=>True) (λx v=>(x.2.1=32→(v=true↔0≤x.1∧x.1≤4294967295))∧(x.2.1=16→(v=true↔0≤x.1∧x.1≤65535))∧(x.2.1=48→(v=true↔0≤x.1∧x.1≤281474976710655))∧(x.2.1=8→(v=true↔0≤x.1∧x.1≤255))∧(x.2.1=6→(v=true↔0≤x.1∧x.1≤63))):=⟨λ(x0,x1,_)=>
  .val (cr.f (x1,1,62,())) λc1=>
  .ite c1 (.grd (decide (0≤(IntKind.wrap .u64 x1)))<|
   .val (IntKind.wrap .i64 ((IntKind.wrap .i64 (1*2 ^ (min (IntKind.wrap .u64 x1).toNat 64)))-1)) λe2=>
   .val (cr.f (x0,0,e2,())) λc3=>
   .ret c3)<|
  .ret false,
 λ(x0,x1,_) hp=>by
  refine Tr.V λ_ _=>Tr.I (λ_=>Tr.G1 ?_ λ_=>Tr.V λ_ _=>Tr.V λ_ _=>Tr.R ?_) λ_=>Tr.R ?_
  all_goals (grind [TW])⟩
@[grind=] theorem Sb (x:Int):aE.f (x,32,())=(decide (0≤x)&&decide (x≤4294967295)):=by
 have h:=aE.c.h (x,32,()) trivial
 rw[Bool.eq_iff_iff]
 grind
@[grind=] theorem Uv (x:Int):aE.f (x,16,())=(decide (0≤x)&&decide (x≤65535)):=by
 have h:=aE.c.h (x,16,()) trivial
 rw[Bool.eq_iff_iff]
 grind
@[grind=] theorem abR (x:Int):aE.f (x,48,())=(decide (0≤x)&&decide (x≤281474976710655)):=by
 have h:=aE.c.h (x,48,()) trivial
 rw[Bool.eq_iff_iff]
 grind
@[grind=] theorem acE (x:Int):aE.f (x,8,())=(decide (0≤x)&&decide (x≤255)):=by
 have h:=aE.c.h (x,8,()) trivial
 rw[Bool.eq_iff_iff]
 grind
@[grind=] theorem acu (x:Int):aE.f (x,6,())=(decide (0≤x)&&decide (x≤63)):=by
 have h:=aE.c.h (x,6,()) trivial
 rw[Bool.eq_iff_iff]
 grind
noncomputable def bU:=bf st Tryz.func90 [cz] (ks:=[.sc (.int .i64),.sc (.int .i64)]) aE (λv=>[(false,[.c (.bool v)])])
noncomputable def oc:FT (Tupl×Unit) (Bool) (λ_=>True) (λ_ _=>True):=⟨λ(x0,_)=>
  .cal aE.c (x0.ip,32,()) λc1=>
  .ite c1 (.cal aE.c (x0.port,16,()) λc2=>
   .ite c2 (.cal aE.c (x0.my,16,()) λc3=>
    .ret c3)<|
   .ret false)<|
  .ret false,
 λ(x0,_) hp=>by
  refine Tr.C trivial λ_ _ _=>Tr.I (λ_=>Tr.C trivial λ_ _ _=>Tr.I (λ_=>Tr.C trivial λ_ _ _=>Tr.R trivial) λ_=>Tr.R trivial) λ_=>Tr.R trivial⟩
noncomputable def r9:=bf st Tryz.func94 [bU] (ks:=[.st .tupl]) oc (λv=>[(false,[.c (.bool v)])])
noncomputable def Nz:=[bU,cz]
noncomputable def My:Fx:=⟨95,Tryz.f95,[(3000001,rA 0 15)],0⟩
noncomputable def eT:FT (Opti×Unit) (Bool) (λ_=>True) (λ_ _=>True):=⟨λ(x0,_)=>
  .bnd (β:=Bool×Unit) (.ite (!x0.stamp) (.ite (x0.val != 0) (.ret (true,()))<|
    .ret ((x0.echo != 0),()))<|
   .ret (false,())) λ(u1a0,_)=>
  .ite u1a0 (.ret false)<|
  .cal aE.c (x0.mss,16,()) λc2=>
  .ite c2 (.val (cr.f (x0.scale,(-1),14,())) λc3=>
   .ite c3 (.cal aE.c (x0.val,32,()) λc4=>
    .ite c4 (.cal aE.c (x0.echo,32,()) λc5=>
     .ret c5)<|
    .ret false)<|
   .ret false)<|
  .ret false,
 λ(x0,_) hp=>by
  refine Tr.B (Q':=λ_=>True) (Tr.F (by kernel_rfl) trivial) (λ(u1a0,_) _ _=>Tr.I (λ_=>Tr.R trivial) λ_=>Tr.C trivial λ_ _ _=>Tr.I (λ_=>Tr.V λ_ _=>Tr.I (λ_=>Tr.C trivial λ_ _ _=>Tr.I (λ_=>Tr.C trivial λ_ _ _=>Tr.R trivial) λ_=>Tr.R trivial) λ_=>Tr.R trivial) λ_=>Tr.R trivial)⟩
noncomputable def le:=aV st My Nz [] (ks:=[.st .opti]) eT (λv=>[(false,[.c (.bool v)])]) Tryz.func95 trivial
noncomputable def gC:FT (Int×Unit) (Int) (λ_=>True) (λ_ _=>True):=⟨λ(x0,_)=>
  .val (bq.f (x0,0,7,())) λc1=>
  .ite (!c1) (.ret 0)<|
  .grd ((decide (0≤x0))&&(decide (x0<8)))<|
  .ret ([64,256,536,1024,1300,1400,1440,1460].getD x0.toNat 0),
 λ(x0,_) hp=>by
  refine Tr.V λ_ _=>Tr.I (λ_=>Tr.R trivial) λ_=>Tr.G2 ?_ λ_=>Tr.R trivial
  all_goals (grind)⟩
noncomputable def NM:=bf st Tryz.func97 [bF] (ks:=[.sc (.int .i64)]) gC (λv=>[(false,[.c (.int .i64 v)])])
noncomputable def C8:=[NM]
def lH:Sh:=⟨[zi 0,zi 3],[]⟩
noncomputable def Ch:Fx:=⟨98,Tryz.f98,[(0,lb [0,3] [2])],0⟩
noncomputable def lG (v0:Int)(v1:Int)(a:Unit):Tr (Stp (Unit) ((Int))):=
 .cal gC.c (v1,()) λc1=>
 .ite (decide (c1≤v0)) (.ret (.out v1))<|
 .ret (.next ())
noncomputable def ck:lH.V→LC lH (Unit) ((Int)) (((Int))⊕(Int×Unit)):=λ(v0,v1,_)=>⟨v1,(),λv1 _=>(v0,v1,()),λv1 _=>(decide (0<v1)),lG v0,dn,(-1),(Int.toNat (v1-0)),.inl,λi a=> .inr (i,a),λ_ k w=>Sum.elim (λp=>k .ret (Sh.enc ⟨[zi 2],[]⟩ (p,()))) (λ_=>k (.exit 0) (Sh.enc ⟨[zu 2],[]⟩ ())) w⟩
theorem Ha:LS Tryz.prog Ch [0] (bR 0 lH ck):=aW st (aj C8) _ ck [] trivial
theorem GU {v0 v1:Int}(h0:v1≤9223372036854775807):(ck (v0,v1,())).S (λ_ _=>True) (λ_=>True):=by
 refine LC.okS trivial (λj a hj hv=>⟨⟨?_, ?_⟩, ?_⟩) (λa hv=> ?_)
 ·simp only[ck,decide_eq_true_eq]at*;omega
 ·simp only[ck]at*;exact dnw (by omega) (by omega)
 ·refine Tr.C trivial λ_ _ _=>Tr.Z (by kernel_rfl)
 ·simp only[ck,decide_eq_false_iff_not]at*;omega
noncomputable def jy:FT (Int×Unit) (Int) (λ_=>True) (λ_ _=>True):=⟨λ(x0,_)=>
  .lp (ck (x0,7,())).lp λw2=> .sum w2 (λp2a0=>
  .ret p2a0)<|
  λ_=>
  .ret 0,
 λ(x0,_) hp=>by
  refine Tr.L (GU ?_) (λ_ _=>Tr.Sr (Tr.R trivial)) (λp2a0 _=>Tr.Sl (Tr.R trivial))
  all_goals ((try simp only[ck,LC.lp,LC.ct,Ct.lp]at*)<;>grind)⟩
noncomputable def P9:=aV st Ch C8 [(bR 0 lH ck)] (ks:=[.sc (.int .i64)]) jy (λv=>[(false,[.c (.int .i64 v)])]) Tryz.func98 ⟨Ha,trivial⟩
noncomputable def aa:FT (Int×Int×Unit) (Bool) (λ_=>True) (λx v=>(x.2.1=32→(v=true↔0≤x.1∧x.1≤4294967295))∧(x.2.1=16→(v=true↔0≤x.1∧x.1≤65535))∧(x.2.1=48→(v=true↔0≤x.1∧x.1≤281474976710655))∧(x.2.1=8→(v=true↔0≤x.1∧x.1≤255))∧(x.2.1=6→(v=true↔0≤x.1∧x.1≤63))):=⟨λ(x0,x1,_)=>
  .val (bq.f (x1,1,62,())) λc1=>
  .ite c1 (.grd (decide (0≤x1))<|
   .val (IntKind.wrap .i64 ((IntKind.wrap .i64 (1*2 ^ (min x1.toNat 64)))-1)) λe2=>
   .val (bq.f (x0,0,e2,())) λc3=>
   .ret c3)<|
  .ret false,
 λ(x0,x1,_) hp=>by
  refine Tr.V λ_ _=>Tr.I (λ_=>Tr.G1 ?_ λ_=>Tr.V λ_ _=>Tr.V λ_ _=>Tr.R ?_) λ_=>Tr.R ?_
  all_goals (grind)⟩
@[grind=] theorem bz (x:Int):aa.f (x,32,())=(decide (0≤x)&&decide (x≤4294967295)):=by
 have h:=aa.c.h (x,32,()) trivial
 rw[Bool.eq_iff_iff]
 grind
@[grind=] theorem bx (x:Int):aa.f (x,16,())=(decide (0≤x)&&decide (x≤65535)):=by
 have h:=aa.c.h (x,16,()) trivial
 rw[Bool.eq_iff_iff]
 grind
@[grind=] theorem E0 (x:Int):aa.f (x,48,())=(decide (0≤x)&&decide (x≤281474976710655)):=by
 have h:=aa.c.h (x,48,()) trivial
 rw[Bool.eq_iff_iff]
 grind
@[grind=] theorem lM (x:Int):aa.f (x,8,())=(decide (0≤x)&&decide (x≤255)):=by
 have h:=aa.c.h (x,8,()) trivial
 rw[Bool.eq_iff_iff]
 grind
@[grind=] theorem Jt (x:Int):aa.f (x,6,())=(decide (0≤x)&&decide (x≤63)):=by
 have h:=aa.c.h (x,6,()) trivial
 rw[Bool.eq_iff_iff]
 grind
noncomputable def bQ:=bf st Tryz.func100 [bF] (ks:=[.sc (.int .i64),.sc (.int .i64)]) aa (λv=>[(false,[.c (.bool v)])])
noncomputable def wi:=[eB,Ys]
def jr:Sh:=⟨[zs 0,zp 2 0,zp 4 1,zi 5],[.box [.st .opti []],.box [.st .opti []]]⟩
noncomputable def vQ:Fx:=⟨121,Tryz.f121,[(0,lb [0,2,4,5] [2,3,4]),(3000006,rA 0 47)],0⟩
noncomputable def cG (v0:ac)(a:Int×Opti):Tr (Stp (Int×Opti) ((Opti×Opti)⊕(Opti))):=
 .ite (decide (a.1<(v0.length:Int))) (.grd ((decide (0≤a.1))&&(decide (a.1<(v0.length:Int))))<|
  .ite ((ae v0 a.1.toNat) != 0) (.grd ((decide (0≤a.1))&&(decide (a.1<(v0.length:Int))))<|
   .ite ((ae v0 a.1.toNat)==1) (.ret (.next ((IntKind.wrap .i64 (a.1+1)),a.2)))<|
   .bnd (β:=Bool×Unit) (.ite (decide ((v0.length:Int)≤(IntKind.wrap .i64 (a.1+1)))) (.ret (true,()))<|
    .grd ((decide (0≤(IntKind.wrap .i64 (a.1+1))))&&(decide ((IntKind.wrap .i64 (a.1+1))<(v0.length:Int))))<|
    .ite (decide ((ae v0 ((IntKind.wrap .i64 (a.1+1)).toNat))<2)) (.ret (true,()))<|
    .grd ((decide (0≤(IntKind.wrap .i64 (a.1+1))))&&(decide ((IntKind.wrap .i64 (a.1+1))<(v0.length:Int))))<|
    .ret ((decide ((IntKind.wrap .i64 ((v0.length:Int)-a.1))<(IntKind.wrap .i64 (ae v0 ((IntKind.wrap .i64 (a.1+1)).toNat))))),())) λ(u2a0,_)=>
   .ite u2a0 (.val (bM.f (())) λc3=>
    .ret (.out (.inl (c3,a.2))))<|
   .grd ((decide (0≤(IntKind.wrap .i64 (a.1+1))))&&(decide ((IntKind.wrap .i64 (a.1+1))<(v0.length:Int))))<|
   .val (IntKind.wrap .i64 (a.1+(IntKind.wrap .i64 (ae v0 ((IntKind.wrap .i64 (a.1+1)).toNat))))) λe4=>
   .grd (((decide (0≤a.1))&&(decide (a.1≤e4)))&&(decide (e4≤(v0.length:Int))))<|
   .cal HE.c (a.2,((v0.take e4.toNat).drop a.1.toNat),()) λc5=>
   .ret (.next (e4,c5)))<|
  .ret (.out (.inr (a.2))))<|
 .ret (.out (.inr (a.2)))
instance s_ReadOptions_L0_i:Inhabited ((Opti×Opti)⊕(Opti)):=⟨.inl default⟩
noncomputable def dr:jr.V→LW jr (Int×Opti) ((Opti×Opti)⊕(Opti)):=λ(v0,v1,v2,v3,_)=>⟨(v1,v3),λa=>(v0,a.1,v2,a.2,()),cG v0,Int.toNat ((v0.length:Int)-v1),λ_ k q=>Sum.elim (λp=>k .ret (Sh.enc ⟨[zp 2 0,zb 3,zp 4 1],[.box [.st .opti []],.box [.st .opti []]]⟩ (false,p.1,p.2,()))) (λp=>k (.exit 0) (Sh.enc ⟨[zp 2 0,zu 3,zp 4 1],[.box [.st .opti []],.box [.st .opti []]]⟩ (v2,p,()))) q⟩
theorem Ay:LS Tryz.prog vQ [0] (DJ 0 jr dr):=uf st (aj wi) _ dr [] trivial
theorem zU {v0:ac}{v1:Int}{v2 v3:Opti}(h0:sS v0)(h1:0≤v1):(dr (v0,v1,v2,v3,())).W (λ_=>True):=
 LW.okW (a:=(v1,v3)) (λa=>0≤a.1) (λa=>Int.toNat ((v0.length:Int)-a.1)) rfl h1 λ(v1,v3) hv=>by
  refine Tr.I (λ_=>Tr.G2 ?_ λ_=>Tr.I (λ_=>Tr.G2 ?_ λ_=>Tr.I (λ_=>Tr.Rn ?_) λ_=>Tr.B (Q':=λ_=>True) (Tr.I (λ_=>Tr.R trivial) λ_=>Tr.G2 ?_ λ_=>Tr.I (λ_=>Tr.R trivial) λ_=>Tr.G2 ?_ λ_=>Tr.R trivial) (λ(u2a0,_) _ _=>Tr.I (λ_=>Tr.V λ_ _=>Tr.Ro trivial) λ_=>Tr.G2 ?_ λ_=>Tr.V λ_ _=>Tr.G3 ?_ λ_=>Tr.C ?_ λ_ _ _=>Tr.Rn ?_)) λ_=>Tr.Ro trivial) λ_=>Tr.Ro trivial
  all_goals ((try simp only[Tr.nice,bo]at*)<;>grind)
noncomputable def lc:FT (ac×Unit) (Opti×Bool) (λx=>sS x.1) (λ_ _=>True):=⟨λ(x0,_)=>
  .val (bM.f (())) λc1=>
  .lp (dr (x0,0,(⟨0,0,false,false,0,0⟩:Opti),c1,())).lp λq6=> .sum q6 (λ(p6a0,_)=>
  .ret (p6a0,false))<|
  λp6b0=>
  .ret (p6b0,true),
 λ(x0,_) hp=>by
  refine Tr.V λc1 hc1=>Tr.L (zU ?_ ?_) (λa=>Empty.elim a) (Tr.W2 (λ(p6a0,p6a1) hp6=>Tr.Sl (Tr.R trivial)) (λp6b0 hp6=>Tr.Sr (Tr.R trivial)))
  all_goals ((try simp only[dr,LW.lp,LW.cw,Cw.lp]at*)<;>grind)⟩
noncomputable def GE:=aV st vQ wi [(DJ 0 jr dr)] (ks:=[.sc .str]) lc (λv=>[(true,nV v.1),(false,[.c (.bool v.2)])]) Tryz.func121 ⟨Ay,trivial⟩
noncomputable def iP:FT (Segm×Unit) (Bool) (λ_=>True) (λx v=>(v=true→x.1.body.length≤1420)):=⟨λ(x0,_)=>
  .cal aE.c (x0.from_,16,()) λc1=>
  .ite c1 (.cal aE.c (x0.to,16,()) λc2=>
   .ite c2 (.cal aE.c (x0.window,16,()) λc3=>
    .ite c3 (.cal aE.c (x0.seq,32,()) λc4=>
     .ite c4 (.cal aE.c (x0.ack,32,()) λc5=>
      .ite c5 (.cal aE.c (x0.flags,6,()) λc6=>
       .ite c6 (.cal eT.c (x0.opts,()) λc7=>
        .ite c7 (.ret (decide ((x0.body.length:Int)≤1420)))<|
        .ret false)<|
       .ret false)<|
      .ret false)<|
     .ret false)<|
    .ret false)<|
   .ret false)<|
  .ret false,
 λ(x0,_) hp=>by
  refine Tr.C trivial λ_ _ _=>Tr.I (λ_=>Tr.C trivial λ_ _ _=>Tr.I (λ_=>Tr.C trivial λ_ _ _=>Tr.I (λ_=>Tr.C trivial λ_ _ _=>Tr.I (λ_=>Tr.C trivial λ_ _ _=>Tr.I (λ_=>Tr.C trivial λ_ _ _=>Tr.I (λ_=>Tr.C trivial λ_ _ _=>Tr.I (λ_=>Tr.R ?_) λ_=>Tr.R ?_) λ_=>Tr.R ?_) λ_=>Tr.R ?_) λ_=>Tr.R ?_) λ_=>Tr.R ?_) λ_=>Tr.R ?_) λ_=>Tr.R ?_
  all_goals (grind)⟩
noncomputable def k7:=bf st Tryz.func123 [bU,le] (ks:=[.st .segm]) iP (λv=>[(false,[.c (.bool v)])])
noncomputable def uv:FT (Link×Link×Unit) (Bool) (λx=>dH x.1∧dH x.2.1) (λ_ _=>True):=⟨λ(x0,x1,_)=>
  .ite (x0.mac==x1.mac) (.ite (x0.ip==x1.ip) (.cal sW.c (x0.cache,x1.cache,()) λc1=>
    .ret c1)<|
   .ret false)<|
  .ret false,
 λ(x0,x1,_) hp=>by
  refine Tr.I (λ_=>Tr.I (λ_=>Tr.C ?_ λ_ _ _=>Tr.R trivial) λ_=>Tr.R trivial) λ_=>Tr.R trivial
  all_goals (grind)⟩
noncomputable def Rp:=bf st Tryz.func124 [Gq] (ks:=[.st .link,.st .link]) uv (λv=>[(false,[.c (.bool v)])])
noncomputable def lV:FT (Mac×Unit) (Mac) (λx=>fH x.1) (λx v=>fH v∧v=x.1):=⟨λ(x0,_)=>
  .cal mO.c (x0.rows,()) λc1=>
  .ret ({x0 with rows:=c1}:Mac),
 λ(x0,_) hp=>by
  refine Tr.C ?_ λc1 hc1 qc1=>Tr.R ?_
  all_goals ((first|grind|(refine⟨by grind, ?_⟩;first|(simp only[List.nil_append];done)|(subst_vars;rfl)|simp_all)))⟩
noncomputable def CY:=bf st Tryz.func131 [D3] (ks:=[.st .mac]) lV (λv=>[(true,Jp (.o true) v)])
noncomputable def FN:=[eY]
def nM:Sh:=⟨[zp 1 0,zp 2 1,zp 3 2,zi 4],[.box [.st .tabl [.sl .arg,.sl .arg]],.box [.st .tabl [.nil .conn,.nil .tupl]],.box [.st .tabl [.own 3,.own 4]],.of false true,.of false true]⟩
noncomputable def FB:Fx:=⟨152,Tryz.f152,[(0,la ⟨[1,2,3,4],[.box 3 0 .conn],false,0⟩ ⟨[2,3],[],false,0⟩)],0⟩
noncomputable def xn (v1:Tabl)(v0:Int)(a:Tabl×Tabl):Tr (Stp (Tabl×Tabl) (Empty)):=
 .grd ((decide (0≤v0))&&(decide (v0<(v1.conns.length:Int))))<|
 .cal ez.c ((v1.conns.getD v0.toNat (Ty.zero .conn)),()) λc2=>
 .grd (Nat.ble ((2*(a.2.conns.length+1)+1024)*208) aF)<|
 .ret (.next ((⟨[],[]⟩:Tabl),(⟨(a.2.conns++[c2]),a.2.waiting⟩:Tabl)))
noncomputable def gj:nM.V→LC nM (Tabl×Tabl) (Empty) (Int×(Tabl×Tabl)):=λ(v0,v1,v2,v3,_)=>⟨v0,(v2,v3),λv0 a=>(v0,v1,a.1,a.2,()),λv0 _=>(decide (v0<(v1.conns.length:Int))),xn v1,up,1,(Int.toNat ((v1.conns.length:Int)-v0)),(λp=>Empty.elim p),λi a=>(i,a),λ_ k x=>k (.exit 0) (Sh.enc ⟨[zp 2 0,zp 3 1],[.box [.st .tabl [.nil .conn,.nil .tupl]],.box [.st .tabl [.own 2,.own 3]],.of false true,.of false true]⟩ ((⟨[],[]⟩:Tabl),x.2.2,()))⟩
theorem L2:LS Tryz.prog FB [0] (bR 0 nM gj):=aW st (aj FN) _ gj [] trivial
theorem I9 {v0:Int}{v1 v2 v3:Tabl}(h0:0≤v0)(h1:(v1.conns.length:Int)≤4611686018427387904)(h2:bu v1)(h3:sS v3.waiting)(h4:bu v2∧(v3.conns.length:Int)=v0∧eb ai v3.conns∧v3.waiting.length=v3.waiting.length):(gj (v0,v1,v2,v3,())).U (v1.conns.length:Int) (λv0 a=>bu a.1∧(a.2.conns.length:Int)=v0∧eb ai a.2.conns∧a.2.waiting.length=v3.waiting.length) (λ_=>True):=
 LC.okU (i:=v0) (a:=(v2,v3)) (λ_ _=>rfl) (λ_=>rfl) rfl h0 h1 h4 λv0 (v2,v3) hj hk hv=>by
  refine Tr.G2 ?_ λ_=>Tr.C ?_ λ_ _ _=>Tr.Gb ?_ λ_=>Tr.Rn ?_
  all_goals (grind)
noncomputable def mh:FT (Tabl×Unit) (Tabl) (λx=>bu x.1) (λx v=>bu v∧v.conns.length=x.1.conns.length∧v.waiting.length=x.1.waiting.length):=⟨λ(x0,_)=>
  .grd (Nat.ble ((2*(0+x0.waiting.length)+1024)*24) aF)<|
  .lp (gj (0,x0,(⟨[],[]⟩:Tabl),(⟨[],([]++x0.waiting)⟩:Tabl),())).lp λ(_,_,a3_1)=>
  .ret a3_1,
 λ(x0,_) hp=>by
  refine Tr.Gb ?_ λ_=>Tr.L (I9 ?_ ?_ ?_ ?_ ?_) (λ(a3_0,a3_1) _=>Tr.R ?_) (λp=>Empty.elim p)
  all_goals ((try simp only[gj,LC.lp,LC.ct,Ct.lp]at*)<;>grind)⟩
noncomputable def sj:=aV st FB FN [(bR 0 nM gj)] (ks:=[.st .tabl]) mh (λv=>[(true,uy (.o true) (.o true) v)]) Tryz.func152 ⟨L2,trivial⟩
noncomputable def EI:=[bU,cz,Ds]
def mT:Sh:=⟨[(0,false,[.sl .arg .entr]),zi 3],[]⟩
noncomputable def Ff:Fx:=⟨162,Tryz.f162,[(0,lb [0,3] [0,2])],0⟩
noncomputable def rh (v0:List Entr)(v1:Int)(a:Unit):Tr (Stp (Unit) ((Unit))):=
 .grd ((decide (0≤v1))&&(decide (v1<(v0.length:Int))))<|
 .cal aE.c ((v0.getD v1.toNat (Ty.zero .entr)).ip,32,()) λc1=>
 .ite (!c1) (.ret (.out ()))<|
 .cal aE.c ((v0.getD v1.toNat (Ty.zero .entr)).hw,48,()) λc2=>
 .ite (!c2) (.ret (.out ()))<|
 .val (cr.f ((v0.getD v1.toNat (Ty.zero .entr)).age,0,9,())) λc3=>
 .ite (!c3) (.ret (.out ()))<|
 .grd ((decide (0≤v1))&&(decide (v1≤(v0.length:Int))))<|
 .cal yE.c (((v0.take v1.toNat).drop 0),(v0.getD v1.toNat (Ty.zero .entr)).ip,()) λc4=>
 .ite (decide (0≤c4)) (.ret (.out ()))<|
 .ret (.next ())
noncomputable def gh:mT.V→LC mT (Unit) ((Unit)) (((Unit))⊕(Int×Unit)):=λ(v0,v1,_)=>⟨v1,(),λv1 _=>(v0,v1,()),λv1 _=>(decide (v1<(v0.length:Int))),rh v0,up,1,(Int.toNat ((v0.length:Int)-v1)),.inl,λi a=> .inr (i,a),λ_ k w=>Sum.elim (λ_=>k .ret (Sh.enc ⟨[(0,false,[.sl .arg .entr]),zb 2],[]⟩ (v0,false,()))) (λ_=>k (.exit 0) (Sh.enc ⟨[(0,false,[.sl .arg .entr]),zu 2],[]⟩ (v0,()))) w⟩
theorem Ih:LS Tryz.prog Ff [0] (bR 0 mT gh):=aW st (aj EI) _ gh [] trivial
theorem Jw {v0:List Entr}{v1:Int}(h0:0≤v1)(h1:(v0.length:Int)≤4611686018427387904)(h2:sS v0):(gh (v0,v1,())).U (v0.length:Int) (λ_ _=>True) (λ_=>True):=
 LC.okU (i:=v1) (a:=()) (λ_ _=>rfl) (λ_=>rfl) rfl h0 h1 trivial λv1 _ hj hk hv=>by
  refine Tr.G2 ?_ λ_=>Tr.C trivial λ_ _ _=>Tr.I (λ_=>Tr.Ro trivial) λ_=>Tr.C trivial λ_ _ _=>Tr.I (λ_=>Tr.Ro trivial) λ_=>Tr.V λ_ _=>Tr.I (λ_=>Tr.Ro trivial) λ_=>Tr.G2 ?_ λ_=>Tr.C ?_ λ_ _ _=>Tr.Z (by kernel_rfl)
  all_goals (grind)
noncomputable def ui:FT (List Entr×Unit) (Bool) (λx=>sS x.1) (λx v=>(v=true→x.1.length≤4)):=⟨λ(x0,_)=>
  .lp (gh (x0,0,())).lp λw5=> .sum w5 (λ_=>
  .ret false)<|
  λ_=>
  .ret (decide ((x0.length:Int)≤4)),
 λ(x0,_) hp=>by
  refine Tr.L (Jw ?_ ?_ ?_) (λ_ _=>Tr.Sr (Tr.R ?_)) (λ_ _=>Tr.Sl (Tr.R ?_))
  all_goals ((try simp only[gh,LC.lp,LC.ct,Ct.lp]at*)<;>grind)⟩
noncomputable def Gd:=aV st Ff EI [(bR 0 mT gh)] (ks:=[.sc (.sl .entr)]) ui (λv=>[(false,[.c (.bool v)])]) Tryz.func162 ⟨Ih,trivial⟩
noncomputable def aJ:FT (Tupl×Unit) (Bool) (λ_=>True) (λ_ _=>True):=⟨λ(x0,_)=>
  .cal aa.c (x0.ip,32,()) λc1=>
  .ite c1 (.cal aa.c (x0.port,16,()) λc2=>
   .ite c2 (.cal aa.c (x0.my,16,()) λc3=>
    .ret c3)<|
   .ret false)<|
  .ret false,
 λ(x0,_) hp=>by
  refine Tr.C trivial λ_ _ _=>Tr.I (λ_=>Tr.C trivial λ_ _ _=>Tr.I (λ_=>Tr.C trivial λ_ _ _=>Tr.R trivial) λ_=>Tr.R trivial) λ_=>Tr.R trivial⟩
noncomputable def pu:=bf st Tryz.func173 [bQ] (ks:=[.st .tupl]) aJ (λv=>[(false,[.c (.bool v)])])
noncomputable def Nd:=[bQ,bF]
noncomputable def Nh:Fx:=⟨174,Tryz.f174,[(3000001,rA 0 15)],0⟩
noncomputable def az:FT (Opti×Unit) (Bool) (λ_=>True) (λ_ _=>True):=⟨λ(x0,_)=>
  .bnd (β:=Bool×Unit) (.ite (!x0.stamp) (.ite (x0.val != 0) (.ret (true,()))<|
    .ret ((x0.echo != 0),()))<|
   .ret (false,())) λ(u1a0,_)=>
  .ite u1a0 (.ret false)<|
  .cal aa.c (x0.mss,16,()) λc2=>
  .ite c2 (.val (bq.f (x0.scale,(-1),14,())) λc3=>
   .ite c3 (.cal aa.c (x0.val,32,()) λc4=>
    .ite c4 (.cal aa.c (x0.echo,32,()) λc5=>
     .ret c5)<|
    .ret false)<|
   .ret false)<|
  .ret false,
 λ(x0,_) hp=>by
  refine Tr.B (Q':=λ_=>True) (Tr.F (by kernel_rfl) trivial) (λ(u1a0,_) _ _=>Tr.I (λ_=>Tr.R trivial) λ_=>Tr.C trivial λ_ _ _=>Tr.I (λ_=>Tr.V λ_ _=>Tr.I (λ_=>Tr.C trivial λ_ _ _=>Tr.I (λ_=>Tr.C trivial λ_ _ _=>Tr.R trivial) λ_=>Tr.R trivial) λ_=>Tr.R trivial) λ_=>Tr.R trivial)⟩
noncomputable def k8:=aV st Nh Nd [] (ks:=[.st .opti]) az (λv=>[(false,[.c (.bool v)])]) Tryz.func174 trivial
noncomputable def sv:FT (Keys×Unit) (Keys) (λx=>cC x.1) (λx v=>cC v∧v=x.1):=⟨λ(x0,_)=>
  .cal lV.c (x0.now,()) λc1=>
  .cal lV.c (x0.before,()) λc2=>
  .ret (⟨x0.epoch,c1,c2,x0.two⟩:Keys),
 λ(x0,_) hp=>by
  refine Tr.C ?_ λc1 hc1 qc1=>Tr.C ?_ λc2 hc2 qc2=>Tr.R ?_
  all_goals ((first|grind|(refine⟨by grind, ?_⟩;first|(simp only[List.nil_append];done)|(subst_vars;rfl)|simp_all)))⟩
noncomputable def Ng:=bf st Tryz.func175 [CY] (ks:=[.st .keys]) sv (λv=>[(true,KA (.o true) (.o true) v)])
noncomputable def ak:FT (Segm×Unit) (Bool) (λ_=>True) (λx v=>(v=true→x.1.body.length≤1420)):=⟨λ(x0,_)=>
  .cal aa.c (x0.from_,16,()) λc1=>
  .ite c1 (.cal aa.c (x0.to,16,()) λc2=>
   .ite c2 (.cal aa.c (x0.window,16,()) λc3=>
    .ite c3 (.cal aa.c (x0.seq,32,()) λc4=>
     .ite c4 (.cal aa.c (x0.ack,32,()) λc5=>
      .ite c5 (.cal aa.c (x0.flags,6,()) λc6=>
       .ite c6 (.cal az.c (x0.opts,()) λc7=>
        .ite c7 (.ret (decide ((x0.body.length:Int)≤1420)))<|
        .ret false)<|
       .ret false)<|
      .ret false)<|
     .ret false)<|
    .ret false)<|
   .ret false)<|
  .ret false,
 λ(x0,_) hp=>by
  refine Tr.C trivial λ_ _ _=>Tr.I (λ_=>Tr.C trivial λ_ _ _=>Tr.I (λ_=>Tr.C trivial λ_ _ _=>Tr.I (λ_=>Tr.C trivial λ_ _ _=>Tr.I (λ_=>Tr.C trivial λ_ _ _=>Tr.I (λ_=>Tr.C trivial λ_ _ _=>Tr.I (λ_=>Tr.C trivial λ_ _ _=>Tr.I (λ_=>Tr.R ?_) λ_=>Tr.R ?_) λ_=>Tr.R ?_) λ_=>Tr.R ?_) λ_=>Tr.R ?_) λ_=>Tr.R ?_) λ_=>Tr.R ?_) λ_=>Tr.R ?_
  all_goals (grind)⟩
noncomputable def jM:=bf st Tryz.func178 [bQ,k8] (ks:=[.st .segm]) ak (λv=>[(false,[.c (.bool v)])])
noncomputable def jD:FT (Recv×Unit) (Recv) (λx=>ax x.1) (λx v=>ax v∧v=x.1):=⟨λ(x0,_)=>
  .cal oE.c (x0.held,()) λc1=>
  .ret ({x0 with held:=c1}:Recv),
 λ(x0,_) hp=>by
  refine Tr.C ?_ λc1 hc1 qc1=>Tr.R ?_
  all_goals ((first|grind|(refine⟨by grind, ?_⟩;first|(simp only[List.nil_append];done)|(subst_vars;rfl)|simp_all)))⟩
noncomputable def sO:=bf st Tryz.func190 [GR] (ks:=[.st .recv]) jD (λv=>[(true,vm (.o true) v)])
noncomputable def n7:FT (Mac×Mac×Unit) (Bool) (λx=>fH x.1∧fH x.2.1) (λ_ _=>True):=⟨λ(x0,x1,_)=>
  .ite (x0.use==x1.use) (.ite (x0.k==x1.k) (.ite (x0.l==x1.l) (.cal rK.c (x0.rows,x1.rows,()) λc1=>
     .ret c1)<|
    .ret false)<|
   .ret false)<|
  .ret false,
 λ(x0,x1,_) hp=>by
  refine Tr.I (λ_=>Tr.I (λ_=>Tr.I (λ_=>Tr.C ?_ λ_ _ _=>Tr.R trivial) λ_=>Tr.R trivial) λ_=>Tr.R trivial) λ_=>Tr.R trivial
  all_goals (grind)⟩
noncomputable def Fi:=bf st Tryz.func203 [Dq] (ks:=[.st .mac,.st .mac]) n7 (λv=>[(false,[.c (.bool v)])])
noncomputable def lZ:FT (Link×Unit) (Link) (λx=>dH x.1) (λx v=>dH v):=⟨λ(x0,_)=>
  .cal gU.c (x0.cache,()) λc1=>
  .ret ({x0 with cache:=c1}:Link),
 λ(x0,_) hp=>by
  refine Tr.C ?_ λ_ _ _=>Tr.R ?_
  all_goals (grind)⟩
noncomputable def zL:=bf st Tryz.func218 [vH] (ks:=[.st .link]) lZ (λv=>[(true,z5 (.o true) v)])
noncomputable def ex:FT (ac×Int×Int×Unit) (Int) (λx=>sS x.1) (λ_ _=>True):=⟨λ(x0,x1,x2,_)=>
  .cal yT.c (x0,x1,x2,()) λc1=>
  .ret c1.1,
 λ(x0,x1,x2,_) hp=>by
  refine Tr.C ?_ λ_ _ _=>Tr.R trivial
  all_goals (grind)⟩
noncomputable def yf:=bf st Tryz.func228 [RR] (ks:=[.sc .str,.sc (.int .i64),.sc (.int .i64)]) ex (λv=>[(false,[.c (.int .i64 v)])])
noncomputable def Fw:=[bQ,bF,T7]
def nH:Sh:=⟨[(0,false,[.sl .arg .entr]),(10,false,[.sl .arg .entr]),zi 11,zi 12],[]⟩
noncomputable def Gi:Fx:=⟨232,Tryz.f232,[(0,lb [0,10,11,12] [2]),(3000006,rA 0 32)],0⟩
noncomputable def eQ (v0 v1:List Entr)(v3:Int)(a:Unit):Tr (Stp (Unit) ((Unit))):=
 .grd ((decide (0≤v3))&&(decide (v3<(v1.length:Int))))<|
 .bnd (β:=Bool×Unit) (.cal aa.c ((v1.getD v3.toNat (Ty.zero .entr)).ip,32,()) λc1=>
  .ite (!c1) (.ret (true,()))<|
  .cal aa.c ((v1.getD v3.toNat (Ty.zero .entr)).hw,48,()) λc2=>
  .ite (!c2) (.ret (true,()))<|
  .val (bq.f ((v1.getD v3.toNat (Ty.zero .entr)).age,0,9,())) λc3=>
  .ret ((!c3),())) λ(u4a0,_)=>
 .ite u4a0 (.ret (.out ()))<|
 .grd ((decide (0≤v3))&&(decide (v3≤(v0.length:Int))))<|
 .cal AO.c (((v0.take v3.toNat).drop 0),(v1.getD v3.toNat (Ty.zero .entr)).ip,()) λc5=>
 .ite c5.2 (.ret (.out ()))<|
 .ret (.next ())
noncomputable def eM:nH.V→LC nH (Unit) ((Unit)) (((Unit))⊕(Int×Unit)):=λ(v0,v1,v2,v3,_)=>⟨v3,(),λv3 _=>(v0,v1,v2,v3,()),λv3 _=>(decide (v3<v2)),eQ v0 v1,up,1,(Int.toNat (v2-v3)),.inl,λi a=> .inr (i,a),λ_ k w=>Sum.elim (λ_=>k .ret (Sh.enc ⟨[zb 2],[]⟩ (false,()))) (λ_=>k (.exit 0) (Sh.enc ⟨[zu 2],[]⟩ ())) w⟩
theorem LU:LS Tryz.prog Gi [0] (bR 0 nH eM):=aW st (aj Fw) _ eM [] trivial
theorem JA {v0 v1:List Entr}{v2 v3:Int}(h0:0≤v3)(h1:v2≤4611686018427387904)(h2:sS v0)(h3:sS v1)(h4:v2≤(v1.length:Int))(h5:v2≤(v0.length:Int)):(eM (v0,v1,v2,v3,())).U v2 (λ_ _=>True) (λ_=>True):=
 LC.okU (i:=v3) (a:=()) (λ_ _=>rfl) (λ_=>rfl) rfl h0 h1 trivial λv3 _ hj hk hv=>by
  refine Tr.G2 ?_ λ_=>Tr.B (Q':=λ_=>True) (Tr.C trivial λ_ _ _=>Tr.I (λ_=>Tr.R trivial) λ_=>Tr.C trivial λ_ _ _=>Tr.F (by kernel_rfl) trivial) (λ(u4a0,_) _ _=>Tr.I (λ_=>Tr.Ro trivial) λ_=>Tr.G2 ?_ λ_=>Tr.C ?_ λ_ _ _=>Tr.Z (by kernel_rfl))
  all_goals ((try simp only[Tr.nice,bo]at*)<;>grind)
noncomputable def gJ:FT (List Entr×Unit) (Bool) (λx=>sS x.1) (λx v=>(v=true→x.1.length≤4)):=⟨λ(x0,_)=>
  .ite (decide (4<(x0.length:Int))) (.ret false)<|
  .lp (eM (x0,x0,(x0.length:Int),0,())).lp λw6=> .sum w6 (λ_=>
  .ret false)<|
  λ_=>
  .ret true,
 λ(x0,_) hp=>by
  refine Tr.I (λ_=>Tr.R ?_) λ_=>Tr.L (JA ?_ ?_ ?_ ?_ ?_ ?_) (λ_ _=>Tr.Sr (Tr.R ?_)) (λ_ _=>Tr.Sl (Tr.R ?_))
  all_goals ((try simp only[eM,LC.lp,LC.ct,Ct.lp]at*)<;>grind)⟩
noncomputable def F3:=aV st Gi Fw [(bR 0 nH eM)] (ks:=[.sc (.sl .entr)]) gJ (λv=>[(false,[.c (.bool v)])]) Tryz.func232 ⟨LU,trivial⟩
noncomputable def Fr:=[cz,bU]
def nB:Sh:=⟨[zi 0,(5,false,[.own 0]),zi 6],[.arr .u8 false true]⟩
noncomputable def EB:Fx:=⟨237,Tryz.f237,[(0,lb [0,5,6] [4,5]),(3000001,rA 0 16)],0⟩
noncomputable def mU (v1:Int)(a:Int×List Int):Tr (Stp (Int×List Int) (Empty)):=
 .grd ((decide (0≤v1))&&(decide (v1<(a.2.length:Int))))<|
 .ret (.next ((IntKind.wrap .i64 (a.1.tdiv 256)),(a.2.set v1.toNat (IntKind.wrap .u8 (a.1.tmod 256)))))
noncomputable def f9:nB.V→LC nB (Int×List Int) (Empty) (Int×(Int×List Int)):=λ(v0,v1,v2,_)=>⟨v1,(v0,v2),λv1 a=>(a.1,v1,a.2,()),λv1 _=>(decide (0≤v1)),mU,dn,(-1),(Int.toNat (v1-0+1)),(λp=>Empty.elim p),λi a=>(i,a),λ_ k x=>k (.exit 0) (Sh.enc ⟨[zu 4,(5,false,[.own 0])],[.arr .u8 false true]⟩ (x.2.2,()))⟩
theorem LV:LS Tryz.prog EB [0] (bR 0 nB f9):=aW st (aj Fr) _ f9 [] trivial
theorem JD {v0 v1:Int}{v2:List Int}(h0:v1≤9223372036854775807)(h1:sS v2)(h2:v2.length=v2.length∧v1<(v2.length:Int)):(f9 (v0,v1,v2,())).D 0 (λv1 a=>a.2.length=v2.length∧v1<(a.2.length:Int)) (λ_=>True):=
 LC.okD (i:=v1) (a:=(v0,v2)) (λ_ _=>rfl) (λ_=>rfl) rfl h0 (by decide) h2 λv1 (v0,v2) hj hk hv=>by
  refine Tr.G2 ?_ λ_=>Tr.Rn ?_
  all_goals (grind)
noncomputable def aQ:FT (Int×Int×Unit) (ac) (λ_=>True) (λx v=>sS v∧(v.length:Int)≤max x.2.1 0):=⟨λ(x0,x1,_)=>
  .bnd (β:=Bool×Unit) (.val (cr.f (x1,1,6,())) λc1=>
   .ite (!c1) (.ret (true,()))<|
   .cal aE.c (x0,(IntKind.wrap .i64 (8*x1)),()) λc2=>
   .ret ((!c2),())) λ(u3a0,_)=>
  .ite u3a0 (.ret [])<|
  .grd ((((decide (0≤x1))&&(decide (x1=x1)))&&(decide (x1*1≤(aF:Int))))&&(decide (x1≤(aF:Int))))<|
  .lp (f9 (x0,(IntKind.wrap .i64 (x1-1)),(List.replicate x1.toNat 0),())).lp λ(_,_,a4_1)=>
  .ret (av a4_1),
 λ(x0,x1,_) hp=>by
  refine Tr.B (Q':=λ_=>True) (Tr.V λ_ _=>Tr.I (λ_=>Tr.R trivial) λ_=>Tr.C trivial λ_ _ _=>Tr.R trivial) (λ(u3a0,_) _ _=>Tr.I (λ_=>Tr.R ?_) λ_=>Tr.G4 ?_ λ_=>Tr.L (JD ?_ ?_ ?_) (λ(a4_0,a4_1) _=>Tr.R ?_) (λp=>Empty.elim p))
  all_goals ((try simp only[f9,LC.lp,LC.ct,Ct.lp,Tr.nice,bo]at*)<;>grind)⟩
noncomputable def kp:=aV st EB Fr [(bR 0 nB f9)] (ks:=[.sc (.int .i64),.sc (.int .i64)]) aQ (λv=>[(false,[.c (.str v)])]) Tryz.func237 ⟨LV,trivial⟩
noncomputable def sC:FT (ac×Unit) (Int) (λx=>sS x.1) (λ_ _=>True):=⟨λ(x0,_)=>
  .cal yt.c (x0,()) λc1=>
  .cal Cl.c (c1,()) λc2=>
  .ret (IntKind.wrap .i64 (65535-c2)),
 λ(x0,_) hp=>by
  refine Tr.C ?_ λ_ _ _=>Tr.C ?_ λ_ _ _=>Tr.R trivial
  all_goals (grind)⟩
noncomputable def yL:=bf st Tryz.func238 [S9,Vt] (ks:=[.sc .str]) sC (λv=>[(false,[.c (.int .i64 v)])])
noncomputable def ve:FT (Keys×Keys×Unit) (Bool) (λx=>cC x.1∧cC x.2.1) (λ_ _=>True):=⟨λ(x0,x1,_)=>
  .ite (x0.epoch==x1.epoch) (.ite (x0.two==x1.two) (.cal n7.c (x0.now,x1.now,()) λc1=>
    .ite c1 (.cal n7.c (x0.before,x1.before,()) λc2=>
     .ret c2)<|
    .ret false)<|
   .ret false)<|
  .ret false,
 λ(x0,x1,_) hp=>by
  refine Tr.I (λ_=>Tr.I (λ_=>Tr.C ?_ λ_ _ _=>Tr.I (λ_=>Tr.C ?_ λ_ _ _=>Tr.R trivial) λ_=>Tr.R trivial) λ_=>Tr.R trivial) λ_=>Tr.R trivial
  all_goals (grind)⟩
noncomputable def P7:=bf st Tryz.func241 [Fi] (ks:=[.st .keys,.st .keys]) ve (λv=>[(false,[.c (.bool v)])])
noncomputable def p0:FT (List Half×List Half×Unit) (Bool) (λx=>sS x.1∧sS x.2.1) (λ_ _=>True):=⟨λ(x0,x1,_)=>
  .cal qa.c (x0,x1,()) λc1=>
  .ret c1,
 λ(x0,x1,_) hp=>by
  refine Tr.C ?_ λ_ _ _=>Tr.R trivial
  all_goals (grind)⟩
noncomputable def Iv:=bf st Tryz.func242 [Ic] (ks:=[.sc (.sl .half),.sc (.sl .half)]) p0 (λv=>[(false,[.c (.bool v)])])
noncomputable def yO:FT (Fram×Unit) (Bool) (λ_=>True) (λx v=>(v=true→x.1.body.length≤1586)):=⟨λ(x0,_)=>
  .cal aE.c (x0.dst,48,()) λc1=>
  .ite c1 (.cal aE.c (x0.src,48,()) λc2=>
   .ite c2 (.val (cr.f (x0.type,1536,65535,())) λc3=>
    .ite c3 (.ret (decide ((x0.body.length:Int)≤1586)))<|
    .ret false)<|
   .ret false)<|
  .ret false,
 λ(x0,_) hp=>by
  refine Tr.C trivial λ_ _ _=>Tr.I (λ_=>Tr.C trivial λ_ _ _=>Tr.I (λ_=>Tr.V λ_ _=>Tr.I (λ_=>Tr.R ?_) λ_=>Tr.R ?_) λ_=>Tr.R ?_) λ_=>Tr.R ?_
  all_goals (grind)⟩
noncomputable def TP:=bf st Tryz.func244 [bU,cz] (ks:=[.st .fram]) yO (λv=>[(false,[.c (.bool v)])])
noncomputable def yP:FT (Tabl×Conn×Unit) (Tabl) (λx=>bu x.1∧ai x.2.1) (λx v=>bu v):=⟨λ(x0,x1,_)=>
  .cal mh.c (x0,()) λc1=>
  .cal fx.c (x0,x1.tuple,()) λc2=>
  .ite (decide (0≤c2)) (.cal ez.c (x1,()) λc3=>
   .grd ((decide (0≤c2))&&(decide (c2<(c1.conns.length:Int))))<|
   .ret (⟨(c1.conns.set c2.toNat c3),c1.waiting⟩:Tabl))<|
  .ret c1,
 λ(x0,x1,_) hp=>by
  refine Tr.C ?_ λ_ _ _=>Tr.C ?_ λ_ _ _=>Tr.I (λ_=>Tr.C ?_ λ_ _ _=>Tr.G2 ?_ λ_=>Tr.R ?_) λ_=>Tr.R ?_
  all_goals (grind)⟩
noncomputable def UK:=bf st Tryz.func277 [sj,jm,eY] (ks:=[.st .tabl,.st .conn]) yP (λv=>[(true,uy (.o true) (.o true) v)])
noncomputable def d6:FT (Fram×Unit) (Bool) (λ_=>True) (λx v=>(v=true→x.1.body.length≤1586)):=⟨λ(x0,_)=>
  .cal aa.c (x0.dst,48,()) λc1=>
  .ite c1 (.cal aa.c (x0.src,48,()) λc2=>
   .ite c2 (.val (bq.f (x0.type,1536,65535,())) λc3=>
    .ite c3 (.ret (decide ((x0.body.length:Int)≤1586)))<|
    .ret false)<|
   .ret false)<|
  .ret false,
 λ(x0,_) hp=>by
  refine Tr.C trivial λ_ _ _=>Tr.I (λ_=>Tr.C trivial λ_ _ _=>Tr.I (λ_=>Tr.V λ_ _=>Tr.I (λ_=>Tr.R ?_) λ_=>Tr.R ?_) λ_=>Tr.R ?_) λ_=>Tr.R ?_
  all_goals (grind)⟩
noncomputable def F9:=bf st Tryz.func280 [bQ,bF] (ks:=[.st .fram]) d6 (λv=>[(false,[.c (.bool v)])])
noncomputable def ku:FT (Segm×Unit) (Segm×Bool) (λx=>ao x.1) (λx v=>ao v.1):=⟨λ(x0,_)=>
  .val (bB.f (x0,4,())) λc1=>
  .ite c1 (.ret ((⟨0,0,0,0,0,0,⟨0,0,false,false,0,0⟩,[]⟩:Segm),false))<|
  .val (bO.f (())) λc2=>
  .val (bB.f (x0,16,())) λc3=>
  .ite c3 (.ret ((⟨x0.to,x0.from_,x0.ack,0,4,0,c2,[]⟩:Segm),true))<|
  .cal aO.c (x0,()) λc4=>
  .val (cN.f (x0.seq,c4,())) λc5=>
  .ret ((⟨x0.to,x0.from_,0,c5,20,0,c2,[]⟩:Segm),true),
 λ(x0,_) hp=>by
  refine Tr.V λ_ _=>Tr.I (λ_=>Tr.R ?_) λ_=>Tr.V λ_ _=>Tr.V λ_ _=>Tr.I (λ_=>Tr.R ?_) λ_=>Tr.C ?_ λ_ _ _=>Tr.V λ_ _=>Tr.R ?_
  all_goals (grind)⟩
noncomputable def QV:=bf st Tryz.func293 [yz,jK,qZ,ja] (ks:=[.st .segm]) ku (λv=>[(true,qU v.1),(false,[.c (.bool v.2)])])
noncomputable def Tj:=[k8,jK,bQ,Kn,ja,Hj]
def Hb:An:=⟨⟨[],[],false,0⟩,⟨[1,2,4,5,8,10],[],false,0⟩,⟨[],[]⟩,[(.normal,⟨[zi 1,zi 2,zi 4,zp 5 0,zp 8 1,zp 10 2],[.box [.st .tupl []],.box [.st .opti []],.box [.st .conn [.nil .piec]]]⟩)]⟩
def HC:An:=⟨⟨[],[],false,0⟩,⟨[1,2,4,5,8,10],[],false,0⟩,⟨[],[]⟩,[(.normal,⟨[zi 1,zi 2,zi 4,zp 5 0,zp 8 1,zp 10 2],[.box [.st .tupl []],.box [.st .opti []],.box [.st .conn [.nil .piec]]]⟩)]⟩
noncomputable def Sn:Fx:=⟨304,Tryz.f304,[(1000014,Hb),(1000018,HC)],0⟩
noncomputable def tS:FT (Tupl×Int×Int×Opti×Int×Unit) (Conn) (λ_=>True) (λx v=>ai v):=⟨λ(x0,x1,x2,x3,x4,_)=>
  .cal az.c (x3,()) λc1=>
  .bnd (β:=Int×Int×Int×Tupl×Opti×Conn×Unit) (.ite (!c1) (.val (bO.f (())) λc2=>
    .ret (x1,x2,x4,x0,c2,(⟨⟨0,0,0⟩,0,⟨0,[],0,false,false,false⟩,⟨0,[],[],0,false⟩,0,0,⟨0,0,false,false,0,0⟩,0,0⟩:Conn),()))<|
   .ret (x1,x2,x4,x0,x3,(⟨⟨0,0,0⟩,0,⟨0,[],0,false,false,false⟩,⟨0,[],[],0,false⟩,0,0,⟨0,0,false,false,0,0⟩,0,0⟩:Conn),())) λ(u3a0,u3a1,u3a2,u3a3,u3a4,u3a5,_)=>
  .cal aa.c (u3a2,16,()) λc4=>
  .bnd (β:=Int×Int×Int×Tupl×Opti×Conn×Unit) (.ite (!c4) (.ret (u3a0,u3a1,0,u3a3,u3a4,({u3a5 with r.held:=[]}:Conn),()))<|
   .ret (u3a0,u3a1,u3a2,u3a3,u3a4,({u3a5 with r.held:=[]}:Conn),())) λ(u5a0,u5a1,u5a2,u5a3,u5a4,_,_)=>
  .cal xp.c (u5a2,u5a4,()) λc6=>
  .val (cN.f (u5a0,1,())) λc7=>
  .val (cN.f (u5a1,1,())) λc8=>
  .cal jF.c (c8,()) λc9=>
  .ret (⟨u5a3,1,⟨c7,[],0,false,false,false⟩,c9,c6,c6,u5a4,0,0⟩:Conn),
 λ(x0,x1,x2,x3,x4,_) hp=>by
  refine Tr.C trivial λ_ _ _=>Tr.B (Q':=λw=>ai w.2.2.2.2.2.1) (Tr.I (λ_=>Tr.V λ_ _=>Tr.R ?_) λ_=>Tr.R ?_) (λ(u3a0,u3a1,u3a2,u3a3,u3a4,u3a5,_) _ _=>Tr.C trivial λ_ _ _=>Tr.B (Q':=λw=>ai w.2.2.2.2.2.1) (Tr.I (λ_=>Tr.R ?_) λ_=>Tr.R ?_) (λ(u5a0,u5a1,u5a2,u5a3,u5a4,u5a5,_) _ _=>Tr.C trivial λ_ _ _=>Tr.V λ_ _=>Tr.V λ_ _=>Tr.C trivial λ_ _ _=>Tr.R ?_))
  all_goals ((try simp only[Tr.nice,bo]at*)<;>grind)⟩
noncomputable def UF:=aV st Sn Tj [] (ks:=[.st .tupl,.sc (.int .i64),.sc (.int .i64),.st .opti,.sc (.int .i64)]) tS (λv=>[(true,jP (.o true) v)]) Tryz.func304 trivial
noncomputable def vj:FT (Segm×Unit) (Segm×Bool) (λx=>ao x.1) (λx v=>ao v.1):=⟨λ(x0,_)=>
  .val (ic.f (x0,4,())) λc1=>
  .ite c1 (.ret ((⟨0,0,0,0,0,0,⟨0,0,false,false,0,0⟩,[]⟩:Segm),false))<|
  .val (bM.f (())) λc2=>
  .val (ic.f (x0,16,())) λc3=>
  .ite c3 (.ret ((⟨x0.to,x0.from_,x0.ack,0,4,0,c2,[]⟩:Segm),true))<|
  .cal jg.c (x0,()) λc4=>
  .val (bN.f (x0.seq,c4,())) λc5=>
  .ret ((⟨x0.to,x0.from_,0,c5,20,0,c2,[]⟩:Segm),true),
 λ(x0,_) hp=>by
  refine Tr.V λ_ _=>Tr.I (λ_=>Tr.R ?_) λ_=>Tr.V λ_ _=>Tr.V λ_ _=>Tr.I (λ_=>Tr.R ?_) λ_=>Tr.C ?_ λ_ _ _=>Tr.V λ_ _=>Tr.R ?_
  all_goals (grind)⟩
noncomputable def Q9:=bf st Tryz.func309 [yJ,eB,rR,dJ] (ks:=[.st .segm]) vj (λv=>[(true,qU v.1),(false,[.c (.bool v.2)])])
noncomputable def UP:=[le,eB,bU,mf,dJ,ww]
def Gm:An:=⟨⟨[],[],false,0⟩,⟨[1,2,4,5,8,10],[],false,0⟩,⟨[],[]⟩,[(.normal,⟨[zi 1,zi 2,zi 4,zp 5 0,zp 8 1,zp 10 2],[.box [.st .tupl []],.box [.st .opti []],.box [.st .conn [.nil .piec]]]⟩)]⟩
def Hx:An:=⟨⟨[],[],false,0⟩,⟨[1,2,4,5,8,10],[],false,0⟩,⟨[],[]⟩,[(.normal,⟨[zi 1,zi 2,zi 4,zp 5 0,zp 8 1,zp 10 2],[.box [.st .tupl []],.box [.st .opti []],.box [.st .conn [.nil .piec]]]⟩)]⟩
noncomputable def Uh:Fx:=⟨315,Tryz.f315,[(1000014,Gm),(1000018,Hx)],0⟩
noncomputable def qp:FT (Tupl×Int×Int×Opti×Int×Unit) (Conn) (λ_=>True) (λx v=>ai v):=⟨λ(x0,x1,x2,x3,x4,_)=>
  .cal eT.c (x3,()) λc1=>
  .bnd (β:=Int×Int×Int×Tupl×Opti×Conn×Unit) (.ite (!c1) (.val (bM.f (())) λc2=>
    .ret (x1,x2,x4,x0,c2,(⟨⟨0,0,0⟩,0,⟨0,[],0,false,false,false⟩,⟨0,[],[],0,false⟩,0,0,⟨0,0,false,false,0,0⟩,0,0⟩:Conn),()))<|
   .ret (x1,x2,x4,x0,x3,(⟨⟨0,0,0⟩,0,⟨0,[],0,false,false,false⟩,⟨0,[],[],0,false⟩,0,0,⟨0,0,false,false,0,0⟩,0,0⟩:Conn),())) λ(u3a0,u3a1,u3a2,u3a3,u3a4,u3a5,_)=>
  .cal aE.c (u3a2,16,()) λc4=>
  .bnd (β:=Int×Int×Int×Tupl×Opti×Conn×Unit) (.ite (!c4) (.ret (u3a0,u3a1,0,u3a3,u3a4,({u3a5 with r.held:=[]}:Conn),()))<|
   .ret (u3a0,u3a1,u3a2,u3a3,u3a4,({u3a5 with r.held:=[]}:Conn),())) λ(u5a0,u5a1,u5a2,u5a3,u5a4,_,_)=>
  .val (fO.f (0,u5a4.scale,())) λc6=>
  .grd (decide (0≤(IntKind.wrap .u64 c6)))<|
  .val (bN.f (u5a0,1,())) λc7=>
  .val (bN.f (u5a1,1,())) λc8=>
  .cal k9.c (c8,()) λc9=>
  .ret (⟨u5a3,1,⟨c7,[],0,false,false,false⟩,c9,(IntKind.wrap .i64 (u5a2*2 ^ (min (IntKind.wrap .u64 c6).toNat 64))),(IntKind.wrap .i64 (u5a2*2 ^ (min (IntKind.wrap .u64 c6).toNat 64))),u5a4,0,0⟩:Conn),
 λ(x0,x1,x2,x3,x4,_) hp=>by
  refine Tr.C trivial λ_ _ _=>Tr.B (Q':=λw=>ai w.2.2.2.2.2.1) (Tr.I (λ_=>Tr.V λ_ _=>Tr.R ?_) λ_=>Tr.R ?_) (λ(u3a0,u3a1,u3a2,u3a3,u3a4,u3a5,_) _ _=>Tr.C trivial λ_ _ _=>Tr.B (Q':=λw=>ai w.2.2.2.2.2.1) (Tr.I (λ_=>Tr.R ?_) λ_=>Tr.R ?_) (λ(u5a0,u5a1,u5a2,u5a3,u5a4,u5a5,_) _ _=>Tr.V λ_ _=>Tr.G1 ?_ λ_=>Tr.V λ_ _=>Tr.V λ_ _=>Tr.C trivial λ_ _ _=>Tr.R ?_))
  all_goals ((try simp only[Tr.nice,bo]at*)<;>grind)⟩
noncomputable def FY:=aV st Uh UP [] (ks:=[.st .tupl,.sc (.int .i64),.sc (.int .i64),.st .opti,.sc (.int .i64)]) qp (λv=>[(true,jP (.o true) v)]) Tryz.func315 trivial
noncomputable def Rf:=[bU,cz]
noncomputable def P4:Fx:=⟨317,Tryz.f317,[(3000001,rA 0 21),(3000003,rA 0 36)],0⟩
noncomputable def fm:FT (Sndr×Unit) (Bool) (λ_=>True) (λx v=>(v=true↔SO x.1)):=⟨λ(x0,_)=>
  .bnd (β:=Bool×Unit) (.cal aE.c (x0.una,32,()) λc1=>
   .ite (!c1) (.ret (true,()))<|
   .ite (decide (48<(x0.data.length:Int))) (.ret (true,()))<|
   .val (cr.f (x0.sent,0,(x0.data.length:Int),())) λc2=>
   .ret ((!c2),())) λ(u3a0,_)=>
  .ite u3a0 (.ret false)<|
  .bnd (β:=Bool×Unit) (.ite x0.finSent (.ite (!x0.fin) (.ret (true,()))<|
    .ret ((x0.sent != (x0.data.length:Int)),()))<|
   .ret (false,())) λ(u4a0,_)=>
  .ite u4a0 (.ret false)<|
  .ite (!x0.done) (.ret true)<|
  .ite x0.fin (.ite (!x0.finSent) (.ret (x0.data==[]))<|
   .ret false)<|
  .ret false,
 λ(x0,_) hp=>by
  refine Tr.B (Q':=λ_=>True) (Tr.C trivial λ_ _ _=>Tr.F (by kernel_rfl) trivial) (λ(u3a0,_) _ _=>Tr.I (λ_=>Tr.R ?_) λ_=>Tr.B (Q':=λ_=>True) (Tr.F (by kernel_rfl) trivial) (λ(u4a0,_) _ _=>Tr.I (λ_=>Tr.R ?_) λ_=>Tr.I (λ_=>Tr.R ?_) λ_=>Tr.I (λ_=>Tr.I (λ_=>Tr.R ?_) λ_=>Tr.R ?_) λ_=>Tr.R ?_))
  all_goals ((try simp only[Tr.nice,bo]at*)<;>grind)⟩
noncomputable def kJ:=aV st P4 Rf [] (ks:=[.st .sndr]) fm (λv=>[(false,[.c (.bool v)])]) Tryz.func317 trivial
noncomputable def xU:=[kT,bU,cz]
def jY:Sh:=⟨[zp 1 0,zi 3,zi 4,zi 5],[.box [.st .recv [.sl .arg]]]⟩
noncomputable def yd:Fx:=⟨318,Tryz.f318,[(0,lb [1,3,4,5] [1,2,4]),(3000002,rA 0 36),(3000009,rA 0 73)],0⟩
noncomputable def ff (v0:Int)(v3:Recv)(v2:Int)(a:Int):Tr (Stp (Int) ((Int))):=
 .grd ((decide (0≤v2))&&(decide (v2<(v3.held.length:Int))))<|
 .bnd (β:=Bool×Unit) (.ite ((v3.held.getD v2.toNat (Ty.zero .piec)).text==[]) (.ret (true,()))<|
  .ite (decide ((v3.held.getD v2.toNat (Ty.zero .piec)).off≤a)) (.ret (true,()))<|
  .ite (decide (v0<(v3.held.getD v2.toNat (Ty.zero .piec)).off)) (.ret (true,()))<|
  .val (IntKind.wrap .i64 ((v3.held.getD v2.toNat (Ty.zero .piec)).off+(((v3.held.getD v2.toNat (Ty.zero .piec)).text).length:Int))) λe5=>
  .ret ((decide (v0<e5)),())) λ(u6a0,_)=>
 .ite u6a0 (.ret (.out a))<|
 .val (IntKind.wrap .i64 ((v3.held.getD v2.toNat (Ty.zero .piec)).off+(((v3.held.getD v2.toNat (Ty.zero .piec)).text).length:Int))) λe7=>
 .ret (.next e7)
noncomputable def dQ:jY.V→LC jY (Int) ((Int)) (((Int))⊕(Int×Int)):=λ(v0,v1,v2,v3,_)=>⟨v2,v1,λv2 a=>(v0,a,v2,v3,()),λv2 _=>(decide (v2<(v3.held.length:Int))),ff v0 v3,up,1,(Int.toNat ((v3.held.length:Int)-v2)),.inl,λi a=> .inr (i,a),λ_ k w=>Sum.elim (λp=>k .ret (Sh.enc ⟨[zp 1 0,zb 2,zi 4],[.box [.st .recv [.sl .arg]]]⟩ (false,p,v3,()))) (λx=>k (.exit 0) (Sh.enc ⟨[zp 1 0,zu 2,zi 4],[.box [.st .recv [.sl .arg]]]⟩ (x.2,v3,()))) w⟩
theorem Db:LS Tryz.prog yd [0] (bR 0 jY dQ):=aW st (aj xU) _ dQ [] trivial
theorem CA {v0 v1 v2:Int}{v3:Recv}(h0:0≤v2)(h1:(v3.held.length:Int)≤4611686018427387904)(h2:v0≤32)(h3:0≤v0)(h4:ax v3)(h5:0≤v1∧v1≤32∧eb po (v3.held.take v2.toNat)):(dQ (v0,v1,v2,v3,())).U (v3.held.length:Int) (λv2 a=>0≤a∧a≤32∧eb po (v3.held.take v2.toNat)) (λ_=>True):=
 LC.okU (i:=v2) (a:=v1) (λ_ _=>rfl) (λ_=>rfl) rfl h0 h1 h5 λv2 v1 hj hk hv=>by
  refine Tr.G2 ?_ λ_=>Tr.B (Q':=λ_=>True) (Tr.F (by kernel_rfl) trivial) (λ(u6a0,_) _ _=>Tr.I (λ_=>Tr.Ro trivial) λ_=>Tr.V λ_ _=>Tr.Rn ?_)
  all_goals ((try simp only[Tr.nice,bo]at*)<;>grind [←abp])
noncomputable def kB:FT (Recv×Unit) (Bool) (λx=>ax x.1) (λx v=>(v=true→RO x.1)):=⟨λ(x0,_)=>
  .cal gZ.c (x0,()) λc1=>
  .bnd (β:=Bool×Unit) (.cal aE.c (x0.next,32,()) λc2=>
   .ite (!c2) (.ret (true,()))<|
   .ite (decide (32<(x0.data.length:Int))) (.ret (true,()))<|
   .ite (decide (3<(x0.held.length:Int))) (.ret (true,()))<|
   .val (cr.f (x0.fin,(-1),c1,())) λc3=>
   .ite (!c3) (.ret (true,()))<|
   .ret ((x0.fin==0),())) λ(u4a0,_)=>
  .ite u4a0 (.ret false)<|
  .lp (dQ (c1,0,0,x0,())).lp λw8=> .sum w8 (λ_=>
  .ret false)<|
  λ(_,a8_0)=>
  .ite (decide (x0.fin<0)) (.ite (!x0.done) (.ret true)<|
   .ite ((x0.held.length:Int)==0) (.ret (x0.fin==(-1)))<|
   .ret false)<|
  .ite (decide (a8_0≤x0.fin)) (.ite (!x0.done) (.ret true)<|
   .ite ((x0.held.length:Int)==0) (.ret (x0.fin==(-1)))<|
   .ret false)<|
  .ret false,
 λ(x0,_) hp=>by
  refine Tr.C ?_ λ_ _ _=>Tr.B (Q':=λ_=>True) (Tr.C trivial λ_ _ _=>Tr.F (by kernel_rfl) trivial) (λ(u4a0,_) _ _=>Tr.I (λ_=>Tr.R ?_) λ_=>Tr.L (CA ?_ ?_ ?_ ?_ ?_ ?_) (λa8_0 _=>Tr.Sr (Tr.I (λ_=>Tr.I (λ_=>Tr.R ?_) λ_=>Tr.I (λ_=>Tr.R ?_) λ_=>Tr.R ?_) λ_=>Tr.I (λ_=>Tr.I (λ_=>Tr.R ?_) λ_=>Tr.I (λ_=>Tr.R ?_) λ_=>Tr.R ?_) λ_=>Tr.R ?_)) (λp8a0 _=>Tr.Sl (Tr.R ?_)))
  all_goals ((try simp only[dQ,LC.lp,LC.ct,Ct.lp,Tr.nice,bo]at*)<;>grind [acZ])⟩
noncomputable def qI:=aV st yd xU [(bR 0 jY dQ)] (ks:=[.st .recv]) kB (λv=>[(false,[.c (.bool v)])]) Tryz.func318 ⟨Db,trivial⟩
noncomputable def Q2:=[bQ,bF]
noncomputable def PG:Fx:=⟨323,Tryz.f323,[(3000001,rA 0 21),(3000003,rA 0 36)],0⟩
noncomputable def bE:FT (Sndr×Unit) (Bool) (λ_=>True) (λx v=>(v=true↔SO x.1)):=⟨λ(x0,_)=>
  .bnd (β:=Bool×Unit) (.cal aa.c (x0.una,32,()) λc1=>
   .ite (!c1) (.ret (true,()))<|
   .ite (decide (48<(x0.data.length:Int))) (.ret (true,()))<|
   .val (bq.f (x0.sent,0,(x0.data.length:Int),())) λc2=>
   .ret ((!c2),())) λ(u3a0,_)=>
  .ite u3a0 (.ret false)<|
  .bnd (β:=Bool×Unit) (.ite x0.finSent (.ite (!x0.fin) (.ret (true,()))<|
    .ret ((x0.sent != (x0.data.length:Int)),()))<|
   .ret (false,())) λ(u4a0,_)=>
  .ite u4a0 (.ret false)<|
  .ite (!x0.done) (.ret true)<|
  .ite x0.fin (.ite (!x0.finSent) (.ret (x0.data==[]))<|
   .ret false)<|
  .ret false,
 λ(x0,_) hp=>by
  refine Tr.B (Q':=λ_=>True) (Tr.C trivial λ_ _ _=>Tr.F (by kernel_rfl) trivial) (λ(u3a0,_) _ _=>Tr.I (λ_=>Tr.R ?_) λ_=>Tr.B (Q':=λ_=>True) (Tr.F (by kernel_rfl) trivial) (λ(u4a0,_) _ _=>Tr.I (λ_=>Tr.R ?_) λ_=>Tr.I (λ_=>Tr.R ?_) λ_=>Tr.I (λ_=>Tr.I (λ_=>Tr.R ?_) λ_=>Tr.R ?_) λ_=>Tr.R ?_))
  all_goals ((try simp only[Tr.nice,bo]at*)<;>grind)⟩
noncomputable def qg:=aV st PG Q2 [] (ks:=[.st .sndr]) bE (λv=>[(false,[.c (.bool v)])]) Tryz.func323 trivial
noncomputable def xQ:=[nG,bQ,bF]
def jZ:Sh:=⟨[zp 1 0,zi 4,zi 5,(45,false,[.sl .arg .piec]),zi 46,zi 47],[.box [.st .recv [.sl .arg]]]⟩
def AL:An:=⟨⟨[],[],false,0⟩,⟨[1,2,4],[],false,0⟩,⟨[],[]⟩,[(.normal,⟨[zp 1 0,zb 2,zi 4],[.box [.st .recv [.sl .arg]]]⟩)]⟩
noncomputable def wU:Fx:=⟨324,Tryz.f324,[(0,lb [1,4,5,45,46,47] [1,2]),(1000041,AL),(3000002,rA 0 37),(3000011,rA 0 69)],0⟩
noncomputable def dX (v0:Int)(v2:List Piec)(v4:Int)(a:Int):Tr (Stp (Int) ((Unit))):=
 .grd ((decide (0≤v4))&&(decide (v4<(v2.length:Int))))<|
 .bnd (β:=Bool×Unit) (.ite ((v2.getD v4.toNat (Ty.zero .piec)).text==[]) (.ret (true,()))<|
  .ite (decide ((v2.getD v4.toNat (Ty.zero .piec)).off≤a)) (.ret (true,()))<|
  .val (IntKind.wrap .i64 (v0-(((v2.getD v4.toNat (Ty.zero .piec)).text).length:Int))) λe6=>
  .ret ((decide (e6<(v2.getD v4.toNat (Ty.zero .piec)).off)),())) λ(u7a0,_)=>
 .ite u7a0 (.ret (.out ()))<|
 .val (IntKind.wrap .i64 ((v2.getD v4.toNat (Ty.zero .piec)).off+(((v2.getD v4.toNat (Ty.zero .piec)).text).length:Int))) λe8=>
 .ret (.next e8)
noncomputable def cV:jZ.V→LC jZ (Int) ((Unit)) (((Unit))⊕(Int×Int)):=λ(v0,v1,v2,v3,v4,v5,_)=>⟨v4,v1,λv4 a=>(v0,a,v2,v3,v4,v5,()),λv4 _=>(decide (v4<v3)),dX v0 v2,up,1,(Int.toNat (v3-v4)),.inl,λi a=> .inr (i,a),λ_ k w=>Sum.elim (λ_=>k .ret (Sh.enc ⟨[zp 1 0,zb 2],[.box [.st .recv [.sl .arg]]]⟩ (false,v5,()))) (λ_=>k (.exit 0) (Sh.enc ⟨[zp 1 0,zu 2],[.box [.st .recv [.sl .arg]]]⟩ (v5,()))) w⟩
theorem Cc:LS Tryz.prog wU [0] (bR 0 jZ cV):=aW st (aj xQ) _ cV [] trivial
theorem C5 {v0 v1 v3 v4:Int}{v2:List Piec}{v5:Recv}(h0:0≤v4)(h1:v3≤4611686018427387904)(h2:v0≤32)(h3:0≤v0)(h4:sL im v2)(h5:v3≤(v2.length:Int))(h6:0≤v1∧v1≤32∧eb (pw v0) (v2.take v4.toNat)):(cV (v0,v1,v2,v3,v4,v5,())).U v3 (λv4 a=>0≤a∧a≤32∧eb (pw v0) (v2.take v4.toNat)) (λ_=>True):=
 LC.okU (i:=v4) (a:=v1) (λ_ _=>rfl) (λ_=>rfl) rfl h0 h1 h6 λv4 v1 hj hk hv=>by
  refine Tr.G2 ?_ λ_=>Tr.B (Q':=λ_=>True) (Tr.F (by kernel_rfl) trivial) (λ(u7a0,_) _ _=>Tr.I (λ_=>Tr.Ro trivial) λ_=>Tr.V λ_ _=>Tr.Rn ?_)
  all_goals ((try simp only[Tr.nice,bo]at*)<;>grind [←abu])
noncomputable def bP:FT (Recv×Unit) (Bool) (λx=>ax x.1) (λx v=>(v=true→RO x.1)∧(v=true→eb (pw (Yf x.1)) x.1.held)):=⟨λ(x0,_)=>
  .cal ce.c (x0,()) λc1=>
  .bnd (β:=Bool×Unit) (.cal aa.c (x0.next,32,()) λc2=>
   .ite (!c2) (.ret (true,()))<|
   .ite (decide (32<(x0.data.length:Int))) (.ret (true,()))<|
   .ite (decide (3<(x0.held.length:Int))) (.ret (true,()))<|
   .val (bq.f (x0.fin,(-1),c1,())) λc3=>
   .ite (!c3) (.ret (true,()))<|
   .ret ((x0.fin==0),())) λ(u4a0,_)=>
  .ite u4a0 (.ret false)<|
  .bnd (β:=Bool×Int×Recv×Unit) (.ite (x0.fin != (-1)) (.ret (false,x0.fin,x0,()))<|
   .ret (false,c1,x0,())) λ(_,u5a1,u5a2,_)=>
  .lp (cV (u5a1,0,u5a2.held,(u5a2.held.length:Int),0,u5a2,())).lp λw9=> .sum w9 (λ_=>
  .ret false)<|
  λ_=>
  .ite (!u5a2.done) (.ret true)<|
  .ite ((u5a2.held.length:Int)==0) (.ret (u5a2.fin==(-1)))<|
  .ret false,
 λ(x0,_) hp=>by
  refine Tr.C ?_ λc1 hc1 qc1=>Tr.B (Q':=λ_=>True) (Tr.C trivial λc2 hc2 qc2=>Tr.F (by kernel_rfl) trivial) (λ(u4a0,_) hj4 qj4=>Tr.I (λb0=>Tr.R ?_) λb0=>Tr.B (Q':=λw=>ax w.2.2.1∧0≤w.2.1∧w.2.1≤32∧w.2.2.1=x0∧(x0.data.length≤32→w.2.1≤Yf x0)) (Tr.I (λb1=>Tr.R ?_) λb1=>Tr.R ?_) (λ(u5a0,u5a1,u5a2,_) hj5 qj5=>Tr.L (C5 ?_ ?_ ?_ ?_ ?_ ?_ ?_) (λa9_0 i9=>Tr.Sr (Tr.I (λb1=>Tr.R ?_) λb1=>Tr.I (λb2=>Tr.R ?_) λb2=>Tr.R ?_)) (λ_ hp9=>Tr.Sl (Tr.R ?_))))
  all_goals ((try simp only[cV,LC.lp,LC.ct,Ct.lp,Tr.nice,bo]at*)<;>grind [acH,adc,adh])⟩
noncomputable def xe:=aV st wU xQ [(bR 0 jZ cV)] (ks:=[.st .recv]) bP (λv=>[(false,[.c (.bool v)])]) Tryz.func324 ⟨Cc,trivial⟩
noncomputable def CW:=[cz,RE]
def wC:An:=⟨⟨[],[],false,0⟩,⟨[1,2,4,5],[],false,0⟩,⟨[],[]⟩,[(.normal,⟨[zi 1,zp 2 0,zp 4 1,zp 5 2],[.box [.st .opti []],.box [.st .opti []],.box [.st .opti []]]⟩)]⟩
noncomputable def Be:Fx:=⟨329,Tryz.f329,[(1000013,wC)],0⟩
noncomputable def lA:FF (Opti×Int×Unit) (Opti):=⟨λ(x0,x1,_)=>
  .ite (!x0.stamp) (.ret (⟨1460,(-1),false,false,0,0⟩:Opti))<|
  .val (cr.f (x0.scale,0,14,())) λc1=>
  .bnd (β:=Int×Opti×Opti×Opti×Unit) (.ite c1 (.ret (x1,x0,(⟨0,0,false,false,0,0⟩:Opti),(⟨1460,0,false,false,0,0⟩:Opti),()))<|
   .ret (x1,x0,(⟨0,0,false,false,0,0⟩:Opti),(⟨1460,(-1),false,false,0,0⟩:Opti),())) λ(u2a0,u2a1,_,u2a3,_)=>
  .val (yA.f (u2a0,u2a1.scale,u2a1.sack,())) λc3=>
  .ret (⟨u2a3.mss,u2a3.scale,u2a1.sack,true,c3,u2a1.val⟩:Opti)⟩
noncomputable def BX:=XC st Be CW [] (ks:=[.st .opti,.sc (.int .i64)]) lA (λv=>[(true,nV v)]) Tryz.func329 trivial
noncomputable def vT:=[le,kp]
def jA:Sh:=⟨[zs 3],[]⟩
def AR:An:=⟨⟨[],[],false,0⟩,⟨[1,2,3],[],false,0⟩,⟨[],[]⟩,[(.normal,⟨[zp 1 0,zs 2,zs 3],[.box [.st .opti []]]⟩)]⟩
def yV:An:=⟨⟨[],[],false,0⟩,⟨[1,2,3],[],false,0⟩,⟨[],[]⟩,[(.normal,⟨[zp 1 0,zs 2,zs 3],[.box [.st .opti []]]⟩)]⟩
def yW:An:=⟨⟨[],[],false,0⟩,⟨[1,2,3],[],false,0⟩,⟨[],[]⟩,[(.normal,⟨[zp 1 0,zs 2,zs 3],[.box [.st .opti []]]⟩)]⟩
def zc:An:=⟨⟨[],[],false,0⟩,⟨[2,3],[],false,0⟩,⟨[],[]⟩,[(.normal,⟨[zs 2,zs 3],[]⟩)]⟩
noncomputable def vI:Fx:=⟨334,Tryz.f334,[(0,lb [3] [2,3]),(1000009,AR),(1000018,yV),(1000026,yW),(1000030,zc)],0⟩
noncomputable def rQ (a:ac):Tr (Stp (ac) ((ac))):=
 .ite (((a.length:Int).tmod 4) != 0) (.grd (Nat.ble (a.length+1) an)<|
  .ret (.next (a++[1])))<|
 .ret (.out a)
noncomputable def du:jA.V→LW jA (ac) ((ac)):=λ(v0,_)=>⟨v0,λa=>(a,()),rQ,(4-v0.length%4)%4,λ_ k p=>k (.exit 0) (Sh.enc ⟨[zu 2,zs 3],[]⟩ (p,()))⟩
theorem AE:LS Tryz.prog vI [0] (DJ 0 jA du):=uf st (aj vT) _ du [] trivial
theorem AH {v0:ac}(h0:v0.length+(4-v0.length%4)%4≤20):(du (v0,())).W (λp=>p.length≤20):=
 LW.okW (a:=v0) (λa=>a.length+(4-a.length%4)%4≤20) (λa=>(4-a.length%4)%4) rfl h0 λv0 hv=>by
  refine Tr.I (λ_=>Tr.Gb ?_ λ_=>Tr.Rn ?_) λ_=>Tr.Ro ?_
  all_goals (grind)
noncomputable def oJ:FT (Opti×Unit) (ac) (λ_=>True) (λx v=>sS v∧v.length≤20):=⟨λ(x0,_)=>
  .cal eT.c (x0,()) λc1=>
  .ite (!c1) (.ret [])<|
  .bnd (β:=ac×ac×Opti×Unit) (.ite (x0.mss != 0) (.cal aQ.c (x0.mss,2,()) λc2=>
    .grd (Nat.ble (2+c2.length) an)<|
    .ret ([],([2,4]++c2),x0,()))<|
   .ret ([],[],x0,())) λ(u3a0,u3a1,u3a2,_)=>
  .bnd (β:=ac×ac×Opti×Unit) (.ite (decide (0≤u3a2.scale)) (.grd (Nat.ble (u3a1.length+2) an)<|
    .cal aQ.c (u3a2.scale,1,()) λc4=>
    .grd (Nat.ble ((u3a1++[3,3]).length+c4.length) an)<|
    .ret (u3a0,((u3a1++[3,3])++c4),u3a2,()))<|
   .ret (u3a0,u3a1,u3a2,())) λ(u5a0,u5a1,u5a2,_)=>
  .bnd (β:=ac×ac×Opti×Unit) (.ite u5a2.sack (.grd (Nat.ble (u5a1.length+2) an)<|
    .ret (u5a0,(u5a1++[4,2]),u5a2,()))<|
   .ret (u5a0,u5a1,u5a2,())) λ(u6a0,u6a1,u6a2,_)=>
  .bnd (β:=ac×ac×Unit) (.ite u6a2.stamp (.grd (Nat.ble (u6a1.length+2) an)<|
    .cal aQ.c (u6a2.val,4,()) λc7=>
    .grd (Nat.ble ((u6a1++[8,10]).length+c7.length) an)<|
    .cal aQ.c (u6a2.echo,4,()) λc8=>
    .grd (Nat.ble (((u6a1++[8,10])++c7).length+c8.length) an)<|
    .ret (u6a0,(((u6a1++[8,10])++c7)++c8),()))<|
   .ret (u6a0,u6a1,())) λ(_,u9a1,_)=>
  .lp (du (u9a1,())).lp λp10a0=>
  .ret p10a0,
 λ(x0,_) hp=>by
  refine Tr.C trivial λc1 hc1 qc1=>Tr.I (λb0=>Tr.R ?_) λb0=>Tr.B (Q':=λw=>sS w.1∧sS w.2.1∧w.2.1.length≤4) (Tr.I (λb1=>Tr.C trivial λc2 hc2 qc2=>Tr.Gb ?_ λg2=>Tr.R ?_) λb1=>Tr.R ?_) (λ(u3a0,u3a1,u3a2,_) hj3 qj3=>Tr.B (Q':=λw=>sS w.1∧sS w.2.1∧w.2.1.length≤7) (Tr.I (λb1=>Tr.Gb ?_ λg2=>Tr.C trivial λc4 hc4 qc4=>Tr.Gb ?_ λg3=>Tr.R ?_) λb1=>Tr.R ?_) (λ(u5a0,u5a1,u5a2,_) hj5 qj5=>Tr.B (Q':=λw=>sS w.1∧sS w.2.1∧w.2.1.length≤9) (Tr.I (λb1=>Tr.Gb ?_ λg2=>Tr.R ?_) λb1=>Tr.R ?_) (λ(u6a0,u6a1,u6a2,_) hj6 qj6=>Tr.B (Q':=λw=>sS w.1∧sS w.2.1∧w.2.1.length≤19) (Tr.I (λb1=>Tr.Gb ?_ λg2=>Tr.C trivial λc7 hc7 qc7=>Tr.Gb ?_ λg3=>Tr.C trivial λc8 hc8 qc8=>Tr.Gb ?_ λg4=>Tr.R ?_) λb1=>Tr.R ?_) (λ(u9a0,u9a1,_) hj9 qj9=>Tr.L (AH ?_) (λa=>Empty.elim a) (λp10a0 hp10=>Tr.R ?_)))))
  all_goals ((try simp only[du,LW.lp,LW.cw,Cw.lp,Tr.nice,bo]at*)<;>grind)⟩
noncomputable def GL:=aV st vI vT [(DJ 0 jA du)] (ks:=[.st .opti]) oJ (λv=>[(false,[.c (.str v)])]) Tryz.func334 ⟨AE,trivial⟩
noncomputable def vn:FT (Pack×Unit) (Bool) (λ_=>True) (λx v=>(v=true→x.1.body.length≤1480)):=⟨λ(x0,_)=>
  .cal aE.c (x0.src,32,()) λc1=>
  .ite c1 (.cal aE.c (x0.dst,32,()) λc2=>
   .ite c2 (.val (cr.f (x0.ttl,1,255,())) λc3=>
    .ite c3 (.cal aE.c (x0.proto,8,()) λc4=>
     .ite c4 (.cal aE.c (x0.id,16,()) λc5=>
      .ite c5 (.ret (decide ((x0.body.length:Int)≤1480)))<|
      .ret false)<|
     .ret false)<|
    .ret false)<|
   .ret false)<|
  .ret false,
 λ(x0,_) hp=>by
  refine Tr.C trivial λ_ _ _=>Tr.I (λ_=>Tr.C trivial λ_ _ _=>Tr.I (λ_=>Tr.V λ_ _=>Tr.I (λ_=>Tr.C trivial λ_ _ _=>Tr.I (λ_=>Tr.C trivial λ_ _ _=>Tr.I (λ_=>Tr.R ?_) λ_=>Tr.R ?_) λ_=>Tr.R ?_) λ_=>Tr.R ?_) λ_=>Tr.R ?_) λ_=>Tr.R ?_
  all_goals (grind)⟩
noncomputable def Rl:=bf st Tryz.func336 [bU,cz] (ks:=[.st .pack]) vn (λv=>[(false,[.c (.bool v)])])
noncomputable def m6:FT (Arpm×Unit) (Bool) (λ_=>True) (λ_ _=>True):=⟨λ(x0,_)=>
  .val (bq.f (x0.kind,1,2,())) λc1=>
  .ite c1 (.cal aa.c (x0.srcHw,48,()) λc2=>
   .ite c2 (.cal aa.c (x0.dstHw,48,()) λc3=>
    .ite c3 (.cal aa.c (x0.srcIp,32,()) λc4=>
     .ite c4 (.cal aa.c (x0.dstIp,32,()) λc5=>
      .ret c5)<|
     .ret false)<|
    .ret false)<|
   .ret false)<|
  .ret false,
 λ(x0,_) hp=>by
  refine Tr.V λ_ _=>Tr.I (λ_=>Tr.C trivial λ_ _ _=>Tr.I (λ_=>Tr.C trivial λ_ _ _=>Tr.I (λ_=>Tr.C trivial λ_ _ _=>Tr.I (λ_=>Tr.C trivial λ_ _ _=>Tr.R trivial) λ_=>Tr.R trivial) λ_=>Tr.R trivial) λ_=>Tr.R trivial) λ_=>Tr.R trivial⟩
noncomputable def Dt:=bf st Tryz.func339 [bF,bQ] (ks:=[.st .arpm]) m6 (λv=>[(false,[.c (.bool v)])])
noncomputable def FO:=[bF,bQ]
def nF:Sh:=⟨[zi 0,(5,false,[.own 0]),zi 6],[.arr .u8 false true]⟩
noncomputable def Fs:Fx:=⟨341,Tryz.f341,[(0,lb [0,5,6] [4,5]),(3000001,rA 0 16)],0⟩
noncomputable def dV (v1:Int)(a:Int×List Int):Tr (Stp (Int×List Int) (Empty)):=
 .grd ((decide (0≤v1))&&(decide (v1<(a.2.length:Int))))<|
 .ret (.next ((a.1.fdiv 256),(a.2.set v1.toNat (IntKind.wrap .u8 a.1))))
noncomputable def dd:nF.V→LC nF (Int×List Int) (Empty) (Int×(Int×List Int)):=λ(v0,v1,v2,_)=>⟨v1,(v0,v2),λv1 a=>(a.1,v1,a.2,()),λv1 _=>(decide (0≤v1)),dV,dn,(-1),(Int.toNat (v1-0+1)),(λp=>Empty.elim p),λi a=>(i,a),λ_ k x=>k (.exit 0) (Sh.enc ⟨[zu 4,(5,false,[.own 0])],[.arr .u8 false true]⟩ (x.2.2,()))⟩
theorem IM:LS Tryz.prog Fs [0] (bR 0 nF dd):=aW st (aj FO) _ dd [] trivial
theorem KH {v0 v1:Int}{v2:List Int}(h0:v1≤9223372036854775807)(h1:sS v2)(h2:v2.length=v2.length∧v1<(v2.length:Int)):(dd (v0,v1,v2,())).D 0 (λv1 a=>a.2.length=v2.length∧v1<(a.2.length:Int)) (λ_=>True):=
 LC.okD (i:=v1) (a:=(v0,v2)) (λ_ _=>rfl) (λ_=>rfl) rfl h0 (by decide) h2 λv1 (v0,v2) hj hk hv=>by
  refine Tr.G2 ?_ λ_=>Tr.Rn ?_
  all_goals (grind)
noncomputable def ay:FT (Int×Int×Unit) (ac) (λ_=>True) (λx v=>sS v∧(v.length:Int)≤max x.2.1 0):=⟨λ(x0,x1,_)=>
  .bnd (β:=Bool×Unit) (.val (bq.f (x1,1,6,())) λc1=>
   .ite (!c1) (.ret (true,()))<|
   .cal aa.c (x0,(IntKind.wrap .i64 (8*x1)),()) λc2=>
   .ret ((!c2),())) λ(u3a0,_)=>
  .ite u3a0 (.ret [])<|
  .grd ((((decide (0≤x1))&&(decide (x1=x1)))&&(decide (x1*1≤(aF:Int))))&&(decide (x1≤(aF:Int))))<|
  .lp (dd (x0,(IntKind.wrap .i64 (x1-1)),(List.replicate x1.toNat 0),())).lp λ(_,_,a4_1)=>
  .ret (av a4_1),
 λ(x0,x1,_) hp=>by
  refine Tr.B (Q':=λ_=>True) (Tr.V λ_ _=>Tr.I (λ_=>Tr.R trivial) λ_=>Tr.C trivial λ_ _ _=>Tr.R trivial) (λ(u3a0,_) _ _=>Tr.I (λ_=>Tr.R ?_) λ_=>Tr.G4 ?_ λ_=>Tr.L (KH ?_ ?_ ?_) (λ(a4_0,a4_1) _=>Tr.R ?_) (λp=>Empty.elim p))
  all_goals ((try simp only[dd,LC.lp,LC.ct,Ct.lp,Tr.nice,bo]at*)<;>grind)⟩
noncomputable def ka:=aV st Fs FO [(bR 0 nF dd)] (ks:=[.sc (.int .i64),.sc (.int .i64)]) ay (λv=>[(false,[.c (.str v)])]) Tryz.func341 ⟨IM,trivial⟩
noncomputable def iq:FT (ac×Unit) (Int) (λx=>sS x.1) (λ_ _=>True):=⟨λ(x0,_)=>
  .cal qD.c (x0,()) λc1=>
  .cal tY.c (c1,()) λc2=>
  .ret (IntKind.wrap .i64 (65535-c2)),
 λ(x0,_) hp=>by
  refine Tr.C ?_ λ_ _ _=>Tr.C ?_ λ_ _ _=>Tr.R trivial
  all_goals (grind)⟩
noncomputable def Ez:=bf st Tryz.func342 [TS,WF] (ks:=[.sc .str]) iq (λv=>[(false,[.c (.int .i64 v)])])
noncomputable def vy:=[k8,ka]
def ji:Sh:=⟨[zs 3],[]⟩
def AJ:An:=⟨⟨[],[],false,0⟩,⟨[1,2,3],[],false,0⟩,⟨[],[]⟩,[(.normal,⟨[zp 1 0,zs 2,zs 3],[.box [.st .opti []]]⟩)]⟩
def y4:An:=⟨⟨[],[],false,0⟩,⟨[1,2,3],[],false,0⟩,⟨[],[]⟩,[(.normal,⟨[zp 1 0,zs 2,zs 3],[.box [.st .opti []]]⟩)]⟩
def y6:An:=⟨⟨[],[],false,0⟩,⟨[1,2,3],[],false,0⟩,⟨[],[]⟩,[(.normal,⟨[zp 1 0,zs 2,zs 3],[.box [.st .opti []]]⟩)]⟩
def yZ:An:=⟨⟨[],[],false,0⟩,⟨[2,3],[],false,0⟩,⟨[],[]⟩,[(.normal,⟨[zs 2,zs 3],[]⟩)]⟩
noncomputable def wt:Fx:=⟨344,Tryz.f344,[(0,lb [3] [2,3]),(1000009,AJ),(1000018,y4),(1000026,y6),(1000030,yZ)],0⟩
noncomputable def er (a:ac):Tr (Stp (ac) ((ac))):=
 .ite (((a.length:Int).tmod 4) != 0) (.grd (Nat.ble (a.length+1) an)<|
  .ret (.next (a++[1])))<|
 .ret (.out a)
noncomputable def cE:ji.V→LW ji (ac) ((ac)):=λ(v0,_)=>⟨v0,λa=>(a,()),er,(4-v0.length%4)%4,λ_ k p=>k (.exit 0) (Sh.enc ⟨[zu 2,zs 3],[]⟩ (p,()))⟩
theorem A1:LS Tryz.prog wt [0] (DJ 0 ji cE):=uf st (aj vy) _ cE [] trivial
theorem Ax {v0:ac}(h0:v0.length+(4-v0.length%4)%4≤20):(cE (v0,())).W (λp=>p.length≤20):=
 LW.okW (a:=v0) (λa=>a.length+(4-a.length%4)%4≤20) (λa=>(4-a.length%4)%4) rfl h0 λv0 hv=>by
  refine Tr.I (λ_=>Tr.Gb ?_ λ_=>Tr.Rn ?_) λ_=>Tr.Ro ?_
  all_goals (grind)
noncomputable def aM:FT (Opti×Unit) (ac) (λ_=>True) (λx v=>sS v∧v.length≤20):=⟨λ(x0,_)=>
  .cal az.c (x0,()) λc1=>
  .ite (!c1) (.ret [])<|
  .bnd (β:=ac×ac×Opti×Unit) (.ite (x0.mss != 0) (.cal ay.c (x0.mss,2,()) λc2=>
    .grd (Nat.ble (2+c2.length) an)<|
    .grd (Nat.ble (0+([2,4]++c2).length) an)<|
    .ret ([],([]++([2,4]++c2)),x0,()))<|
   .ret ([],[],x0,())) λ(u3a0,u3a1,u3a2,_)=>
  .bnd (β:=ac×ac×Opti×Unit) (.ite (u3a2.scale != (-1)) (.cal ay.c (u3a2.scale,1,()) λc4=>
    .grd (Nat.ble (2+c4.length) an)<|
    .grd (Nat.ble (u3a1.length+([3,3]++c4).length) an)<|
    .ret (u3a0,(u3a1++([3,3]++c4)),u3a2,()))<|
   .ret (u3a0,u3a1,u3a2,())) λ(u5a0,u5a1,u5a2,_)=>
  .bnd (β:=ac×ac×Opti×Unit) (.ite u5a2.sack (.grd (Nat.ble (u5a1.length+2) an)<|
    .ret (u5a0,(u5a1++[4,2]),u5a2,()))<|
   .ret (u5a0,u5a1,u5a2,())) λ(u6a0,u6a1,u6a2,_)=>
  .bnd (β:=ac×ac×Unit) (.ite u6a2.stamp (.cal ay.c (u6a2.val,4,()) λc7=>
    .grd (Nat.ble (2+c7.length) an)<|
    .cal ay.c (u6a2.echo,4,()) λc8=>
    .grd (Nat.ble (([8,10]++c7).length+c8.length) an)<|
    .grd (Nat.ble (u6a1.length+(([8,10]++c7)++c8).length) an)<|
    .ret (u6a0,(u6a1++(([8,10]++c7)++c8)),()))<|
   .ret (u6a0,u6a1,())) λ(_,u9a1,_)=>
  .lp (cE (u9a1,())).lp λp10a0=>
  .ret p10a0,
 λ(x0,_) hp=>by
  refine Tr.C trivial λc1 hc1 qc1=>Tr.I (λb0=>Tr.R ?_) λb0=>Tr.B (Q':=λw=>sS w.1∧sS w.2.1∧w.2.1.length≤4) (Tr.I (λb1=>Tr.C trivial λc2 hc2 qc2=>Tr.Gb ?_ λg2=>Tr.Gb ?_ λg3=>Tr.R ?_) λb1=>Tr.R ?_) (λ(u3a0,u3a1,u3a2,_) hj3 qj3=>Tr.B (Q':=λw=>sS w.1∧sS w.2.1∧w.2.1.length≤7) (Tr.I (λb1=>Tr.C trivial λc4 hc4 qc4=>Tr.Gb ?_ λg2=>Tr.Gb ?_ λg3=>Tr.R ?_) λb1=>Tr.R ?_) (λ(u5a0,u5a1,u5a2,_) hj5 qj5=>Tr.B (Q':=λw=>sS w.1∧sS w.2.1∧w.2.1.length≤9) (Tr.I (λb1=>Tr.Gb ?_ λg2=>Tr.R ?_) λb1=>Tr.R ?_) (λ(u6a0,u6a1,u6a2,_) hj6 qj6=>Tr.B (Q':=λw=>sS w.1∧sS w.2.1∧w.2.1.length≤19) (Tr.I (λb1=>Tr.C trivial λc7 hc7 qc7=>Tr.Gb ?_ λg2=>Tr.C trivial λc8 hc8 qc8=>Tr.Gb ?_ λg3=>Tr.Gb ?_ λg4=>Tr.R ?_) λb1=>Tr.R ?_) (λ(u9a0,u9a1,_) hj9 qj9=>Tr.L (Ax ?_) (λa=>Empty.elim a) (λp10a0 hp10=>Tr.R ?_)))))
  all_goals ((try simp only[cE,LW.lp,LW.cw,Cw.lp,Tr.nice,bo]at*)<;>grind)⟩
noncomputable def Hw:=aV st wt vy [(DJ 0 ji cE)] (ks:=[.st .opti]) aM (λv=>[(false,[.c (.str v)])]) Tryz.func344 ⟨A1,trivial⟩
noncomputable def CD:FT (Arpm×Unit) (Bool) (λ_=>True) (λ_ _=>True):=⟨λ(x0,_)=>
  .val (cr.f (x0.kind,1,2,())) λc1=>
  .ite c1 (.cal aE.c (x0.srcHw,48,()) λc2=>
   .ite c2 (.cal aE.c (x0.dstHw,48,()) λc3=>
    .ite c3 (.cal aE.c (x0.srcIp,32,()) λc4=>
     .ite c4 (.cal aE.c (x0.dstIp,32,()) λc5=>
      .ret c5)<|
     .ret false)<|
    .ret false)<|
   .ret false)<|
  .ret false,
 λ(x0,_) hp=>by
  refine Tr.V λ_ _=>Tr.I (λ_=>Tr.C trivial λ_ _ _=>Tr.I (λ_=>Tr.C trivial λ_ _ _=>Tr.I (λ_=>Tr.C trivial λ_ _ _=>Tr.I (λ_=>Tr.C trivial λ_ _ _=>Tr.R trivial) λ_=>Tr.R trivial) λ_=>Tr.R trivial) λ_=>Tr.R trivial) λ_=>Tr.R trivial⟩
noncomputable def Pg:=bf st Tryz.func348 [cz,bU] (ks:=[.st .arpm]) CD (λv=>[(false,[.c (.bool v)])])
noncomputable def xM:FT (Sndr×Unit) (Int) (λx=>cf x.1) (λ_ _=>True):=⟨λ(x0,_)=>
  .cal gS.c (x0,()) λc1=>
  .val (bN.f (x0.una,c1,())) λc2=>
  .ret c2,
 λ(x0,_) hp=>by
  refine Tr.C ?_ λ_ _ _=>Tr.F (by kernel_rfl) trivial
  all_goals (grind)⟩
noncomputable def Lo:=bf st Tryz.func366 [je,dJ] (ks:=[.st .sndr]) xM (λv=>[(false,[.c (.int .i64 v)])])
noncomputable def MP:=[kJ,od,mf,je,Lo]
noncomputable def MX:Fx:=⟨367,Tryz.f367,[(3000007,rA 0 79)],0⟩
noncomputable def pA:FT (Sndr×Int×Int×Unit) (Chun×Bool) (λx=>cf x.1) (λx v=>qn v.1∧(v.2=true→SO x.1∧(v.1.text.length:Int)+x.1.sent≤x.1.data.length∧x.1.finSent=false∧(v.1.text=[]→v.1.fin=true)∧(v.1.fin=true→x.1.fin=true∧x.1.done=false∧x.1.sent+v.1.text.length=x.1.data.length))):=⟨λ(x0,x1,x2,_)=>
  .cal fm.c (x0,()) λc1=>
  .ite (!c1) (.ret ((⟨0,[],false⟩:Chun),false))<|
  .val (j1.f (x1,1000000,())) λc2=>
  .val (fO.f (0,c2,())) λc3=>
  .cal gS.c (x0,()) λc4=>
  .val (fO.f (0,(IntKind.wrap .i64 (c3-c4)),())) λc5=>
  .val (j1.f (x2,c5,())) λc6=>
  .val (j1.f (c6,(IntKind.wrap .i64 ((x0.data.length:Int)-x0.sent)),())) λc7=>
  .val (fO.f (0,c7,())) λc8=>
  .cal xM.c (x0,()) λc9=>
  .grd (((decide (0≤x0.sent))&&(decide (x0.sent≤(IntKind.wrap .i64 (x0.sent+c8)))))&&(decide ((IntKind.wrap .i64 (x0.sent+c8))≤(x0.data.length:Int))))<|
  .val ((x0.data.take ((IntKind.wrap .i64 (x0.sent+c8)).toNat)).drop x0.sent.toNat) λe10=>
  .ite x0.fin (.ite (!x0.finSent) (.ite (!x0.done) (.ite ((IntKind.wrap .i64 (x0.sent+c8))==(x0.data.length:Int)) (.bnd (β:=Bool×Unit) (.ite (c8==0) (.ret ((!(decide (c8<c5))),()))<|
       .ret (false,())) λ(u11a0,_)=>
      .ite u11a0 (.ret ((⟨0,[],false⟩:Chun),false))<|
      .ret ((⟨c9,e10,(decide (c8<c5))⟩:Chun),true))<|
     .bnd (β:=Bool×Unit) (.ite (c8==0) (.ret (true,()))<|
      .ret (false,())) λ(u12a0,_)=>
     .ite u12a0 (.ret ((⟨0,[],false⟩:Chun),false))<|
     .ret ((⟨c9,e10,false⟩:Chun),true))<|
    .bnd (β:=Bool×Unit) (.ite (c8==0) (.ret (true,()))<|
     .ret (false,())) λ(u13a0,_)=>
    .ite u13a0 (.ret ((⟨0,[],false⟩:Chun),false))<|
    .ret ((⟨c9,e10,false⟩:Chun),true))<|
   .bnd (β:=Bool×Unit) (.ite (c8==0) (.ret (true,()))<|
    .ret (false,())) λ(u14a0,_)=>
   .ite u14a0 (.ret ((⟨0,[],false⟩:Chun),false))<|
   .ret ((⟨c9,e10,false⟩:Chun),true))<|
  .bnd (β:=Bool×Unit) (.ite (c8==0) (.ret (true,()))<|
   .ret (false,())) λ(u15a0,_)=>
  .ite u15a0 (.ret ((⟨0,[],false⟩:Chun),false))<|
  .ret ((⟨c9,e10,false⟩:Chun),true),
 λ(x0,x1,x2,_) hp=>by
  refine Tr.C trivial λc1 hc1 qc1=>Tr.I (λb0=>Tr.R ?_) λb0=>Tr.V λc2 hc2=>Tr.V λc3 hc3=>Tr.C ?_ λc4 hc4 qc4=>Tr.V λc5 hc5=>Tr.V λc6 hc6=>Tr.V λc7 hc7=>Tr.V λc8 hc8=>Tr.C ?_ λc9 hc9 qc9=>Tr.G3 ?_ λg1=>Tr.V λe10 he10=>Tr.I (λb2=>Tr.I (λb3=>Tr.I (λb4=>Tr.I (λb5=>Tr.B (Q':=λ_=>True) (Tr.F (by kernel_rfl) trivial) (λ(u11a0,_) hj11 qj11=>Tr.I (λb6=>Tr.R ?_) λb6=>Tr.R ?_)) λb5=>Tr.B (Q':=λ_=>True) (Tr.F (by kernel_rfl) trivial) (λ(u12a0,_) hj12 qj12=>Tr.I (λb6=>Tr.R ?_) λb6=>Tr.R ?_)) λb4=>Tr.B (Q':=λ_=>True) (Tr.F (by kernel_rfl) trivial) (λ(u13a0,_) hj13 qj13=>Tr.I (λb5=>Tr.R ?_) λb5=>Tr.R ?_)) λb3=>Tr.B (Q':=λ_=>True) (Tr.F (by kernel_rfl) trivial) (λ(u14a0,_) hj14 qj14=>Tr.I (λb4=>Tr.R ?_) λb4=>Tr.R ?_)) λb2=>Tr.B (Q':=λ_=>True) (Tr.F (by kernel_rfl) trivial) (λ(u15a0,_) hj15 qj15=>Tr.I (λb3=>Tr.R ?_) λb3=>Tr.R ?_)
  all_goals ((try simp only[Tr.nice,bo]at*)<;>(first|grind|(have hs:SO x0:=(by grind);have h7:c7≤(x0.data.length:Int)-x0.sent:=(by rw[hc7,oj,ar (by grind) (by grind)];split<;>omega);have h8:0≤c8∧c8≤(x0.data.length:Int)-x0.sent:=(by rw[hc8,qQ];have:=hs.2.2.2.2.1;split<;>omega);clear hc7 hc8 hc4 hc2 hc3 hc6 hc5;grind)))⟩
noncomputable def zf:=aV st MX MP [] (ks:=[.st .sndr,.sc (.int .i64),.sc (.int .i64)]) pA (λv=>[(true,ZJ v.1),(false,[.c (.bool v.2)])]) Tryz.func367 trivial
noncomputable def l0:FT (Sndr×Chun×Unit) (Sndr) (λx=>cf x.1∧qn x.2.1) (λx v=>cf v∧(SO x.1→(x.2.1.text.length:Int)+x.1.sent≤x.1.data.length→x.1.finSent=false→(x.2.1.fin=true→x.1.fin=true∧x.1.done=false∧x.1.sent+x.2.1.text.length=x.1.data.length)→v={x.1 with sent:=x.1.sent+x.2.1.text.length,finSent:=x.2.1.fin})):=⟨λ(x0,x1,_)=>
  .ite x0.finSent (.cal fm.c (x0,()) λc1=>
   .ite (!c1) (.ret x0)<|
   .cal fm.c (({x0 with sent:=(IntKind.wrap .i64 (x0.sent+(x1.text.length:Int))),finSent:=true}:Sndr),()) λc2=>
   .ite (!c2) (.ret x0)<|
   .ite x1.fin (.ite x0.done (.ret x0)<|
    .ret ({x0 with sent:=(IntKind.wrap .i64 (x0.sent+(x1.text.length:Int))),finSent:=true}:Sndr))<|
   .ret ({x0 with sent:=(IntKind.wrap .i64 (x0.sent+(x1.text.length:Int))),finSent:=true}:Sndr))<|
  .cal fm.c (x0,()) λc3=>
  .ite (!c3) (.ret x0)<|
  .cal fm.c (({x0 with sent:=(IntKind.wrap .i64 (x0.sent+(x1.text.length:Int))),finSent:=x1.fin}:Sndr),()) λc4=>
  .ite (!c4) (.ret x0)<|
  .ite x1.fin (.ite x0.done (.ret x0)<|
   .ret ({x0 with sent:=(IntKind.wrap .i64 (x0.sent+(x1.text.length:Int))),finSent:=x1.fin}:Sndr))<|
  .ret ({x0 with sent:=(IntKind.wrap .i64 (x0.sent+(x1.text.length:Int))),finSent:=x1.fin}:Sndr),
 λ(x0,x1,_) hp=>by
  refine Tr.I (λ_=>Tr.C trivial λ_ _ _=>Tr.I (λ_=>Tr.R ?_) λ_=>Tr.C trivial λ_ _ _=>Tr.I (λ_=>Tr.R ?_) λ_=>Tr.I (λ_=>Tr.I (λ_=>Tr.R ?_) λ_=>Tr.R ?_) λ_=>Tr.R ?_) λ_=>Tr.C trivial λ_ _ _=>Tr.I (λ_=>Tr.R ?_) λ_=>Tr.C trivial λ_ _ _=>Tr.I (λ_=>Tr.R ?_) λ_=>Tr.I (λ_=>Tr.I (λ_=>Tr.R ?_) λ_=>Tr.R ?_) λ_=>Tr.R ?_
  all_goals (grind)⟩
noncomputable def Fb:=bf st Tryz.func369 [kJ] (ks:=[.st .sndr,.st .chun]) l0 (λv=>[(true,ya v)])
noncomputable def nY:FF (Int×Int×Int×Unit) (Bool):=⟨λ(x0,x1,x2,_)=>
  .ite (decide (4294967295<x2)) (.ret true)<|
  .ite (decide (1≤x2)) (.val (sE.f (x0,x1,())) λc1=>
   .ret (decide (c1<x2)))<|
  .ret false⟩
noncomputable def uz:=lJ st Tryz.func378 [Eg] (ks:=[.sc (.int .i64),.sc (.int .i64),.sc (.int .i64)]) nY (λv=>[(false,[.c (.bool v)])])
noncomputable def yM:FT (Conn×Int×Unit) (Bool) (λx=>ai x.1) (λ_ _=>True):=⟨λ(x0,x1,_)=>
  .val (β:=Int) (if 0<(if 2147483648<x0.most then 2147483648 else x0.most)then(if 2147483648<x0.most then 2147483648 else x0.most)else 0) λe1=>
  .val (qy.f (x1,x0.s.una,())) λc2=>
  .cal cZ.c (x0.s,()) λc3=>
  .val (bq.f (c2,(IntKind.wrap .i64 (0-e1)),c3,())) λc4=>
  .ret c4,
 λ(x0,x1,_) hp=>by
  refine Tr.V λ_ _=>Tr.V λ_ _=>Tr.C ?_ λ_ _ _=>Tr.F (by kernel_rfl) trivial
  all_goals (grind)⟩
noncomputable def SL:=bf st Tryz.func381 [xI,rp,bF] (ks:=[.st .conn,.sc (.int .i64)]) yM (λv=>[(false,[.c (.bool v)])])
noncomputable def ki:FT (Sndr×Unit) (Int) (λx=>cf x.1) (λ_ _=>True):=⟨λ(x0,_)=>
  .cal cZ.c (x0,()) λc1=>
  .val (cN.f (x0.una,c1,())) λc2=>
  .ret c2,
 λ(x0,_) hp=>by
  refine Tr.C ?_ λ_ _ _=>Tr.F (by kernel_rfl) trivial
  all_goals (grind)⟩
noncomputable def Ki:=bf st Tryz.func382 [rp,ja] (ks:=[.st .sndr]) ki (λv=>[(false,[.c (.int .i64 v)])])
noncomputable def Zb:=[xI,qg,rp,bF,ja]
noncomputable def XR:Fx:=⟨383,Tryz.f383,[(3000002,rA 0 22)],0⟩
noncomputable def HY:FT (Sndr×Int×Unit) (Sndr×Bool) (λx=>cf x.1) (λx v=>cf v.1):=⟨λ(x0,x1,_)=>
  .val (qy.f (x1,x0.una,())) λc1=>
  .bnd (β:=Bool×Unit) (.cal bE.c (x0,()) λc2=>
   .ite (!c2) (.ret (true,()))<|
   .cal cZ.c (x0,()) λc3=>
   .val (bq.f (c1,0,c3,())) λc4=>
   .ret ((!c4),())) λ(u5a0,_)=>
  .ite u5a0 (.ret (x0,false))<|
  .grd (((decide (0≤(if(x0.data.length:Int)<c1 then(x0.data.length:Int)else c1)))&&(decide ((if(x0.data.length:Int)<c1 then(x0.data.length:Int)else c1)≤(x0.data.length:Int))))&&(decide ((x0.data.length:Int)≤(x0.data.length:Int))))<|
  .val ((x0.data.take ((x0.data.length:Int).toNat)).drop ((if(x0.data.length:Int)<c1 then(x0.data.length:Int)else c1).toNat)) λe6=>
  .val (cN.f (x0.una,c1,())) λc7=>
  .val (IntKind.wrap .i64 (x0.sent-(if(x0.data.length:Int)<c1 then(x0.data.length:Int)else c1))) λe8=>
  .ite (c1==(IntKind.wrap .i64 (x0.sent+1))) (.ret ((⟨c7,e6,e8,x0.fin,false,true⟩:Sndr),true))<|
  .ret (({x0 with una:=c7,data:=e6,sent:=e8}:Sndr),true),
 λ(x0,x1,_) hp=>by
  refine Tr.V λ_ _=>Tr.B (Q':=λw=>(w.1=false→SO x0)) (Tr.C trivial λ_ _ _=>Tr.I (λ_=>Tr.R ?_) λ_=>Tr.C ?_ λ_ _ _=>Tr.V λ_ _=>Tr.R ?_) (λ(u5a0,_) _ _=>Tr.I (λ_=>Tr.R ?_) λ_=>Tr.G3 ?_ λ_=>Tr.V λ_ _=>Tr.V λ_ _=>Tr.V λ_ _=>Tr.I (λ_=>Tr.R ?_) λ_=>Tr.R ?_)
  all_goals ((try simp only[Tr.nice,bo]at*)<;>grind)⟩
noncomputable def XM:=aV st XR Zb [] (ks:=[.st .sndr,.sc (.int .i64)]) HY (λv=>[(true,ya v.1),(false,[.c (.bool v.2)])]) Tryz.func383 trivial
noncomputable def Mr:=[qg,rp,Ki]
noncomputable def MD:Fx:=⟨388,Tryz.f388,[(3000007,rA 0 68)],0⟩
noncomputable def bg:FT (Sndr×Int×Int×Unit) (Chun×Bool) (λx=>cf x.1) (λx v=>qn v.1∧(v.2=true→SO x.1∧(v.1.text.length:Int)+x.1.sent≤x.1.data.length∧x.1.finSent=false∧(v.1.text=[]→v.1.fin=true)∧(v.1.fin=true→x.1.fin=true∧x.1.done=false∧x.1.sent+v.1.text.length=x.1.data.length))):=⟨λ(x0,x1,x2,_)=>
  .cal bE.c (x0,()) λc1=>
  .ite (!c1) (.ret ((⟨0,[],false⟩:Chun),false))<|
  .cal cZ.c (x0,()) λc2=>
  .grd (((decide (0≤x0.sent))&&(decide (x0.sent≤(x0.data.length:Int))))&&(decide ((x0.data.length:Int)≤(x0.data.length:Int))))<|
  .val (((x0.data.take ((x0.data.length:Int).toNat)).drop x0.sent.toNat).length:Int) λe3=>
  .val (β:=Int) (if(IntKind.wrap .i64 ((if x1<(-1)then(-1)else x1)-c2))<(if x2<e3 then x2 else e3)then(IntKind.wrap .i64 ((if x1<(-1)then(-1)else x1)-c2))else(if x2<e3 then x2 else e3)) λe4=>
  .cal ki.c (x0,()) λc5=>
  .grd ((decide (0≤(if 0<e4 then e4 else 0)))&&(decide ((if 0<e4 then e4 else 0)≤(((x0.data.take ((x0.data.length:Int).toNat)).drop x0.sent.toNat).length:Int))))<|
  .val ((((x0.data.take ((x0.data.length:Int).toNat)).drop x0.sent.toNat).take ((if 0<e4 then e4 else 0).toNat)).drop 0) λe6=>
  .ite x0.fin (.ite (!x0.finSent) (.ite (!x0.done) (.val (((x0.data.take ((x0.data.length:Int).toNat)).drop x0.sent.toNat).length:Int) λe7=>
     .ite ((if 0<e4 then e4 else 0)==e7) (.bnd (β:=Bool×Unit) (.ite (e6==[]) (.ret ((!(decide ((if 0<e4 then e4 else 0)<(IntKind.wrap .i64 ((if x1<(-1)then(-1)else x1)-c2))))),()))<|
       .ret (false,())) λ(u8a0,_)=>
      .ite u8a0 (.ret ((⟨0,[],false⟩:Chun),false))<|
      .ret ((⟨c5,e6,(decide ((if 0<e4 then e4 else 0)<(IntKind.wrap .i64 ((if x1<(-1)then(-1)else x1)-c2))))⟩:Chun),true))<|
     .bnd (β:=Bool×Unit) (.ite (e6==[]) (.ret (true,()))<|
      .ret (false,())) λ(u9a0,_)=>
     .ite u9a0 (.ret ((⟨0,[],false⟩:Chun),false))<|
     .ret ((⟨c5,e6,false⟩:Chun),true))<|
    .bnd (β:=Bool×Unit) (.ite (e6==[]) (.ret (true,()))<|
     .ret (false,())) λ(u10a0,_)=>
    .ite u10a0 (.ret ((⟨0,[],false⟩:Chun),false))<|
    .ret ((⟨c5,e6,false⟩:Chun),true))<|
   .bnd (β:=Bool×Unit) (.ite (e6==[]) (.ret (true,()))<|
    .ret (false,())) λ(u11a0,_)=>
   .ite u11a0 (.ret ((⟨0,[],false⟩:Chun),false))<|
   .ret ((⟨c5,e6,false⟩:Chun),true))<|
  .bnd (β:=Bool×Unit) (.ite (e6==[]) (.ret (true,()))<|
   .ret (false,())) λ(u12a0,_)=>
  .ite u12a0 (.ret ((⟨0,[],false⟩:Chun),false))<|
  .ret ((⟨c5,e6,false⟩:Chun),true),
 λ(x0,x1,x2,_) hp=>by
  refine Tr.C trivial λ_ _ _=>Tr.I (λ_=>Tr.R ?_) λ_=>Tr.C ?_ λ_ _ _=>Tr.G3 ?_ λ_=>Tr.V λ_ _=>Tr.V λ_ _=>Tr.C ?_ λ_ _ _=>Tr.G2 ?_ λ_=>Tr.V λ_ _=>Tr.I (λ_=>Tr.I (λ_=>Tr.I (λ_=>Tr.V λ_ _=>Tr.I (λ_=>Tr.B (Q':=λ_=>True) (Tr.F (by kernel_rfl) trivial) (λ(u8a0,_) _ _=>Tr.I (λ_=>Tr.R ?_) λ_=>Tr.R ?_)) λ_=>Tr.B (Q':=λ_=>True) (Tr.F (by kernel_rfl) trivial) (λ(u9a0,_) _ _=>Tr.I (λ_=>Tr.R ?_) λ_=>Tr.R ?_)) λ_=>Tr.B (Q':=λ_=>True) (Tr.F (by kernel_rfl) trivial) (λ(u10a0,_) _ _=>Tr.I (λ_=>Tr.R ?_) λ_=>Tr.R ?_)) λ_=>Tr.B (Q':=λ_=>True) (Tr.F (by kernel_rfl) trivial) (λ(u11a0,_) _ _=>Tr.I (λ_=>Tr.R ?_) λ_=>Tr.R ?_)) λ_=>Tr.B (Q':=λ_=>True) (Tr.F (by kernel_rfl) trivial) (λ(u12a0,_) _ _=>Tr.I (λ_=>Tr.R ?_) λ_=>Tr.R ?_)
  all_goals ((try simp only[Tr.nice,bo]at*)<;>grind)⟩
noncomputable def M7:=aV st MD Mr [] (ks:=[.st .sndr,.sc (.int .i64),.sc (.int .i64)]) bg (λv=>[(true,ZJ v.1),(false,[.c (.bool v.2)])]) Tryz.func388 trivial
noncomputable def dC:FT (Sndr×Chun×Unit) (Sndr) (λx=>cf x.1∧qn x.2.1) (λx v=>cf v∧(SO x.1→(x.2.1.text.length:Int)+x.1.sent≤x.1.data.length→x.1.finSent=false→(x.2.1.fin=true→x.1.fin=true∧x.1.done=false∧x.1.sent+x.2.1.text.length=x.1.data.length)→v={x.1 with sent:=x.1.sent+x.2.1.text.length,finSent:=x.2.1.fin})):=⟨λ(x0,x1,_)=>
  .ite x0.finSent (.cal bE.c (x0,()) λc1=>
   .ite (!c1) (.ret x0)<|
   .cal bE.c (({x0 with sent:=(IntKind.wrap .i64 (x0.sent+(x1.text.length:Int))),finSent:=true}:Sndr),()) λc2=>
   .ite (!c2) (.ret x0)<|
   .ite x1.fin (.ite (!x0.fin) (.ret x0)<|
    .ite x0.done (.ret x0)<|
    .ret ({x0 with sent:=(IntKind.wrap .i64 (x0.sent+(x1.text.length:Int))),finSent:=true}:Sndr))<|
   .ret ({x0 with sent:=(IntKind.wrap .i64 (x0.sent+(x1.text.length:Int))),finSent:=true}:Sndr))<|
  .cal bE.c (x0,()) λc3=>
  .ite (!c3) (.ret x0)<|
  .cal bE.c (({x0 with sent:=(IntKind.wrap .i64 (x0.sent+(x1.text.length:Int))),finSent:=x1.fin}:Sndr),()) λc4=>
  .ite (!c4) (.ret x0)<|
  .ite x1.fin (.ite (!x0.fin) (.ret x0)<|
   .ite x0.done (.ret x0)<|
   .ret ({x0 with sent:=(IntKind.wrap .i64 (x0.sent+(x1.text.length:Int))),finSent:=x1.fin}:Sndr))<|
  .ret ({x0 with sent:=(IntKind.wrap .i64 (x0.sent+(x1.text.length:Int))),finSent:=x1.fin}:Sndr),
 λ(x0,x1,_) hp=>by
  refine Tr.I (λ_=>Tr.C trivial λ_ _ _=>Tr.I (λ_=>Tr.R ?_) λ_=>Tr.C trivial λ_ _ _=>Tr.I (λ_=>Tr.R ?_) λ_=>Tr.I (λ_=>Tr.I (λ_=>Tr.R ?_) λ_=>Tr.I (λ_=>Tr.R ?_) λ_=>Tr.R ?_) λ_=>Tr.R ?_) λ_=>Tr.C trivial λ_ _ _=>Tr.I (λ_=>Tr.R ?_) λ_=>Tr.C trivial λ_ _ _=>Tr.I (λ_=>Tr.R ?_) λ_=>Tr.I (λ_=>Tr.I (λ_=>Tr.R ?_) λ_=>Tr.I (λ_=>Tr.R ?_) λ_=>Tr.R ?_) λ_=>Tr.R ?_
  all_goals (grind)⟩
noncomputable def S8:=bf st Tryz.func390 [qg] (ks:=[.st .sndr,.st .chun]) dC (λv=>[(true,ya v)])
noncomputable def Cz:=[bF,TH]
def wB:An:=⟨⟨[],[],false,0⟩,⟨[1,2,4,5],[],false,0⟩,⟨[],[]⟩,[(.normal,⟨[zi 1,zp 2 0,zp 4 1,zp 5 2],[.box [.st .opti []],.box [.st .opti []],.box [.st .opti []]]⟩)]⟩
noncomputable def BU:Fx:=⟨392,Tryz.f392,[(1000013,wB)],0⟩
noncomputable def gH:FF (Opti×Int×Unit) (Opti):=⟨λ(x0,x1,_)=>
  .ite (!x0.stamp) (.ret (⟨1460,(-1),false,false,0,0⟩:Opti))<|
  .val (bq.f (x0.scale,0,14,())) λc1=>
  .bnd (β:=Int×Opti×Opti×Opti×Unit) (.ite c1 (.ret (x1,x0,(⟨0,0,false,false,0,0⟩:Opti),(⟨1460,0,false,false,0,0⟩:Opti),()))<|
   .ret (x1,x0,(⟨0,0,false,false,0,0⟩:Opti),(⟨1460,(-1),false,false,0,0⟩:Opti),())) λ(u2a0,u2a1,_,u2a3,_)=>
  .val (oA.f (u2a0,u2a1.scale,u2a1.sack,())) λc3=>
  .ret (⟨u2a3.mss,u2a3.scale,u2a1.sack,true,c3,u2a1.val⟩:Opti)⟩
noncomputable def BI:=XC st BU Cz [] (ks:=[.st .opti,.sc (.int .i64)]) gH (λv=>[(true,nV v)]) Tryz.func392 trivial
noncomputable def ib:FT (Int×Unit) (Int×Int×Int) (λ_=>True) (λ_ _=>True):=⟨λ(x0,_)=>
  .cal aa.c (x0,32,()) λc1=>
  .ite (!c1) (.ret ((-1),(-1),(-1)))<|
  .ret ((IntKind.wrap .i64 (x0.tdiv 134217728)),((IntKind.wrap .i64 (x0.tdiv 16777216)).tmod 8),(x0.tmod 16777216)),
 λ(x0,_) hp=>by
  refine Tr.C trivial λ_ _ _=>Tr.F (by kernel_rfl) trivial⟩
noncomputable def GT:=bf st Tryz.func394 [bQ] (ks:=[.sc (.int .i64)]) ib (λv=>[(false,[.c (.int .i64 v.1)]),(false,[.c (.int .i64 v.2.1)]),(false,[.c (.int .i64 v.2.2)])])
noncomputable def QI:=[CY]
noncomputable def Qc:Fx:=⟨395,Tryz.f395,[(3000003,rA 0 14)],0⟩
noncomputable def oo:FT (Keys×Int×Unit) (Mac×Bool) (λx=>cC x.1) (λx v=>fH v.1):=⟨λ(x0,x1,_)=>
  .ite (x1==x0.epoch) (.cal lV.c (x0.now,()) λc1=>
   .ret (c1,true))<|
  .bnd (β:=Bool×Unit) (.ite x0.two (.ret ((x1==(IntKind.wrap .i64 (x0.epoch-1))),()))<|
   .ret (false,())) λ(u2a0,_)=>
  .ite u2a0 (.cal lV.c (x0.before,()) λc3=>
   .ret (c3,true))<|
  .ret ((⟨false,0,0,[]⟩:Mac),false),
 λ(x0,x1,_) hp=>by
  refine Tr.I (λ_=>Tr.C ?_ λ_ _ _=>Tr.R ?_) λ_=>Tr.B (Q':=λ_=>True) (Tr.F (by kernel_rfl) trivial) (λ(u2a0,_) _ _=>Tr.I (λ_=>Tr.C ?_ λ_ _ _=>Tr.R ?_) λ_=>Tr.R ?_)
  all_goals ((try simp only[Tr.nice,bo]at*)<;>grind)⟩
noncomputable def QU:=aV st Qc QI [] (ks:=[.st .keys,.sc (.int .i64)]) oo (λv=>[(true,Jp (.o true) v.1),(false,[.c (.bool v.2)])]) Tryz.func395 trivial
noncomputable def SV:=[bQ]
noncomputable def UG:Fx:=⟨397,Tryz.f397,[(3000001,rA 0 13)],0⟩
noncomputable def mj:FT (Int×Unit) (Int×Bool×Bool) (λ_=>True) (λ_ _=>True):=⟨λ(x0,_)=>
  .bnd (β:=Bool×Unit) (.cal aa.c (x0,32,()) λc1=>
   .ite (!c1) (.ret (true,()))<|
   .ret (((bits .and .i64 x0 32)==0),())) λ(u2a0,_)=>
  .ite u2a0 (.ret ((-1),false,false))<|
  .ite ((bits .and .i64 x0 15)==15) (.ret ((-1),((bits .and .i64 x0 16) != 0),true))<|
  .ret ((bits .and .i64 x0 15),((bits .and .i64 x0 16) != 0),true),
 λ(x0,_) hp=>by
  refine Tr.B (Q':=λ_=>True) (Tr.C trivial λ_ _ _=>Tr.F (by kernel_rfl) trivial) (λ(u2a0,_) _ _=>Tr.F (by kernel_rfl) trivial)⟩
noncomputable def S7:=aV st UG SV [] (ks:=[.sc (.int .i64)]) mj (λv=>[(false,[.c (.int .i64 v.1)]),(false,[.c (.bool v.2.1)]),(false,[.c (.bool v.2.2)])]) Tryz.func397 trivial
noncomputable def Tx:=[bU]
noncomputable def TU:Fx:=⟨403,Tryz.f403,[(3000001,rA 0 13)],0⟩
noncomputable def yQ:FT (Int×Unit) (Int×Bool×Bool) (λ_=>True) (λ_ _=>True):=⟨λ(x0,_)=>
  .bnd (β:=Bool×Unit) (.cal aE.c (x0,32,()) λc1=>
   .ite (!c1) (.ret (true,()))<|
   .ret (((bits .and .i64 x0 32)==0),())) λ(u2a0,_)=>
  .ite u2a0 (.ret ((-1),false,false))<|
  .ite ((x0.tmod 16)==15) (.ret ((-1),((bits .and .i64 x0 16) != 0),true))<|
  .ret ((x0.tmod 16),((bits .and .i64 x0 16) != 0),true),
 λ(x0,_) hp=>by
  refine Tr.B (Q':=λ_=>True) (Tr.C trivial λ_ _ _=>Tr.F (by kernel_rfl) trivial) (λ(u2a0,_) _ _=>Tr.F (by kernel_rfl) trivial)⟩
noncomputable def Um:=aV st TU Tx [] (ks:=[.sc (.int .i64)]) yQ (λv=>[(false,[.c (.int .i64 v.1)]),(false,[.c (.bool v.2.1)]),(false,[.c (.bool v.2.2)])]) Tryz.func403 trivial
noncomputable def hY:FT (Pack×Unit) (Bool) (λ_=>True) (λx v=>(v=true→x.1.body.length≤1480)):=⟨λ(x0,_)=>
  .cal aa.c (x0.src,32,()) λc1=>
  .ite c1 (.cal aa.c (x0.dst,32,()) λc2=>
   .ite c2 (.val (bq.f (x0.ttl,1,255,())) λc3=>
    .ite c3 (.cal aa.c (x0.proto,8,()) λc4=>
     .ite c4 (.cal aa.c (x0.id,16,()) λc5=>
      .ite c5 (.ret (decide ((x0.body.length:Int)≤1480)))<|
      .ret false)<|
     .ret false)<|
    .ret false)<|
   .ret false)<|
  .ret false,
 λ(x0,_) hp=>by
  refine Tr.C trivial λ_ _ _=>Tr.I (λ_=>Tr.C trivial λ_ _ _=>Tr.I (λ_=>Tr.V λ_ _=>Tr.I (λ_=>Tr.C trivial λ_ _ _=>Tr.I (λ_=>Tr.C trivial λ_ _ _=>Tr.I (λ_=>Tr.R ?_) λ_=>Tr.R ?_) λ_=>Tr.R ?_) λ_=>Tr.R ?_) λ_=>Tr.R ?_) λ_=>Tr.R ?_
  all_goals (grind)⟩
noncomputable def QJ:=bf st Tryz.func412 [bQ,bF] (ks:=[.st .pack]) hY (λv=>[(false,[.c (.bool v)])])
noncomputable def mW:FT (Recv×Recv×Unit) (Bool) (λx=>ax x.1∧ax x.2.1) (λ_ _=>True):=⟨λ(x0,x1,_)=>
  .ite (x0.next==x1.next) (.ite (x0.data==x1.data) (.cal o7.c (x0.held,x1.held,()) λc1=>
    .ite c1 (.ite (x0.fin==x1.fin) (.ret (x0.done==x1.done))<|
     .ret false)<|
    .ret false)<|
   .ret false)<|
  .ret false,
 λ(x0,x1,_) hp=>by
  refine Tr.I (λ_=>Tr.I (λ_=>Tr.C ?_ λ_ _ _=>Tr.F (by kernel_rfl) trivial) λ_=>Tr.R trivial) λ_=>Tr.R trivial
  all_goals (grind)⟩
noncomputable def DI:=bf st Tryz.func413 [Gn] (ks:=[.st .recv,.st .recv]) mW (λv=>[(false,[.c (.bool v)])])
noncomputable def jp:FT (Sipr×Unit) (Sipr) (λ_=>True) (λ_ _=>True):=⟨λ(x0,_)=>
  .cal kK.c (x0.b,13,()) λc1=>
  .cal kK.c ((IntKind.wrap .u64 (x0.a+x0.b)),32,()) λc2=>
  .cal kK.c (x0.d,16,()) λc3=>
  .val (IntKind.wrap .u64 (c2+(bits .xor .u64 c3 (IntKind.wrap .u64 (x0.c+x0.d))))) λe4=>
  .cal kK.c ((bits .xor .u64 c3 (IntKind.wrap .u64 (x0.c+x0.d))),21,()) λc5=>
  .val (IntKind.wrap .u64 ((IntKind.wrap .u64 (x0.c+x0.d))+(bits .xor .u64 c1 (IntKind.wrap .u64 (x0.a+x0.b))))) λe6=>
  .cal kK.c ((bits .xor .u64 c1 (IntKind.wrap .u64 (x0.a+x0.b))),17,()) λc7=>
  .cal kK.c (e6,32,()) λc8=>
  .ret (⟨e4,(bits .xor .u64 c7 e6),c8,(bits .xor .u64 c5 e4)⟩:Sipr),
 λ(x0,_) hp=>by
  refine Tr.C ?_ λ_ _ _=>Tr.C ?_ λ_ _ _=>Tr.C ?_ λ_ _ _=>Tr.V λ_ _=>Tr.C ?_ λ_ _ _=>Tr.V λ_ _=>Tr.C ?_ λ_ _ _=>Tr.C ?_ λ_ _ _=>Tr.R trivial
  all_goals (grind)⟩
noncomputable def Bv:=bf st Tryz.func420 [Rx] (ks:=[.st .sipr]) jp (λv=>[(true,DP v)])
noncomputable def Py:=[uz,Eg]
noncomputable def Rk:Fx:=⟨425,Tryz.f425,[(3000002,rA 0 16)],0⟩
noncomputable def vv:FF (Int×Int×Int×Int×Unit) (Bool):=⟨λ(x0,x1,x2,x3,_)=>
  .bnd (β:=Bool×Unit) (.ite (decide ((if 65536<x1 then 65536 else x1)<1)) (.ret (true,()))<|
   .ret ((decide (x3<1)),())) λ(u1a0,_)=>
  .ite u1a0 (.ret false)<|
  .val (nY.f (x0,x2,x3,())) λc2=>
  .ite c2 (.ret true)<|
  .val (sE.f (x2,x0,())) λc3=>
  .ret (decide (c3<(if 65536<x1 then 65536 else x1)))⟩
noncomputable def Pn:=XC st Rk Py [] (ks:=[.sc (.int .i64),.sc (.int .i64),.sc (.int .i64),.sc (.int .i64)]) vv (λv=>[(false,[.c (.bool v)])]) Tryz.func425 trivial
noncomputable def fo:FT (List Bool×Bool×Unit) (Bool) (λx=>sS x.1) (λ_ _=>True):=⟨λ(x0,x1,_)=>
  .cal qf.c (x0,x1,()) λc1=>
  .ret (decide (0≤c1)),
 λ(x0,x1,_) hp=>by
  refine Tr.C ?_ λ_ _ _=>Tr.R trivial
  all_goals (grind)⟩
noncomputable def BM:=bf st Tryz.func427 [Ib] (ks:=[.sc (.sl .bool),.sc .bool]) fo (λv=>[(false,[.c (.bool v)])])
noncomputable def Qs:=[pu,bQ,bF,ka]
noncomputable def QC:Fx:=⟨429,Tryz.f429,[(3000001,rA 0 26)],0⟩
noncomputable def fZ:FT (Tupl×Int×Int×Int×Unit) (ac) (λ_=>True) (λx v=>sS v∧v.length≤40):=⟨λ(x0,x1,x2,x3,_)=>
  .bnd (β:=Bool×Unit) (.cal aJ.c (x0,()) λc1=>
   .ite (!c1) (.ret (true,()))<|
   .cal aa.c (x1,32,()) λc2=>
   .ite (!c2) (.ret (true,()))<|
   .cal aa.c (x2,32,()) λc3=>
   .ite (!c3) (.ret (true,()))<|
   .val (bq.f (x3,0,7,())) λc4=>
   .ret ((!c4),())) λ(u5a0,_)=>
  .ite u5a0 (.ret [])<|
  .cal ay.c (x0.ip,4,()) λc6=>
  .cal ay.c (x0.port,2,()) λc7=>
  .grd (Nat.ble (c6.length+c7.length) an)<|
  .cal ay.c (x0.my,2,()) λc8=>
  .grd (Nat.ble ((c6++c7).length+c8.length) an)<|
  .cal ay.c (x1,4,()) λc9=>
  .grd (Nat.ble (((c6++c7)++c8).length+c9.length) an)<|
  .cal ay.c (x2,4,()) λc10=>
  .grd (Nat.ble ((((c6++c7)++c8)++c9).length+c10.length) an)<|
  .cal ay.c (x3,1,()) λc11=>
  .grd (Nat.ble (((((c6++c7)++c8)++c9)++c10).length+c11.length) an)<|
  .ret (((((c6++c7)++c8)++c9)++c10)++c11),
 λ(x0,x1,x2,x3,_) hp=>by
  refine Tr.B (Q':=λ_=>True) (Tr.C trivial λc1 hc1 qc1=>Tr.I (λb0=>Tr.R trivial) λb0=>Tr.C trivial λc2 hc2 qc2=>Tr.I (λb1=>Tr.R trivial) λb1=>Tr.C trivial λc3 hc3 qc3=>Tr.F (by kernel_rfl) trivial) (λ(u5a0,_) hj5 qj5=>Tr.I (λb0=>Tr.R ?_) λb0=>Tr.C trivial λc6 hc6 qc6=>Tr.C trivial λc7 hc7 qc7=>Tr.Gb ?_ λg1=>Tr.C trivial λc8 hc8 qc8=>Tr.Gb ?_ λg2=>Tr.C trivial λc9 hc9 qc9=>Tr.Gb ?_ λg3=>Tr.C trivial λc10 hc10 qc10=>Tr.Gb ?_ λg4=>Tr.C trivial λc11 hc11 qc11=>Tr.Gb ?_ λg5=>Tr.R ?_)
  all_goals ((try simp only[Tr.nice,bo]at*)<;>(first|(simp only[List.length_append,List.length_cons,List.length_nil,an,sS]at*;omega)|grind))⟩
noncomputable def Qg:=aV st QC Qs [] (ks:=[.st .tupl,.sc (.int .i64),.sc (.int .i64),.sc (.int .i64)]) fZ (λv=>[(false,[.c (.str v)])]) Tryz.func429 trivial
noncomputable def yi:FT (Conn×Int×Unit) (Bool) (λx=>ai x.1) (λ_ _=>True):=⟨λ(x0,x1,_)=>
  .val (qt.f (x1,x0.s.una,())) λc1=>
  .cal gS.c (x0.s,()) λc2=>
  .ite (decide (c1≤c2)) (.ite (decide (0≤c1)) (.ret true)<|
   .ite (decide (2147483648≤x0.most)) (.ret true)<|
   .ite (decide (0<x0.most)) (.ret (decide ((IntKind.wrap .i64 (0-x0.most))≤c1)))<|
   .ret false)<|
  .ret false,
 λ(x0,x1,_) hp=>by
  refine Tr.V λ_ _=>Tr.C ?_ λ_ _ _=>Tr.F (by kernel_rfl) trivial
  all_goals (grind)⟩
noncomputable def UW:=bf st Tryz.func433 [wZ,je] (ks:=[.st .conn,.sc (.int .i64)]) yi (λv=>[(false,[.c (.bool v)])])
noncomputable def X9:=[wZ,kJ,je,cz,dJ]
def Mw:An:=⟨⟨[],[],false,0⟩,⟨[2,4,5,6,7],[],false,0⟩,⟨[],[]⟩,[(.normal,⟨[zp 2 0,zp 4 1,zb 5,zi 6,zp 7 2],[.box [.st .sndr []],.box [.st .sndr []],.box [.st .sndr []]]⟩)]⟩
noncomputable def YW:Fx:=⟨434,Tryz.f434,[(1000032,Mw),(3000002,rA 0 21)],0⟩
noncomputable def BH:FT (Sndr×Int×Unit) (Sndr×Bool) (λx=>cf x.1) (λx v=>cf v.1):=⟨λ(x0,x1,_)=>
  .val (qt.f (x1,x0.una,())) λc1=>
  .bnd (β:=Bool×Unit) (.cal fm.c (x0,()) λc2=>
   .ite (!c2) (.ret (true,()))<|
   .cal gS.c (x0,()) λc3=>
   .val (cr.f (c1,0,c3,())) λc4=>
   .ret ((!c4),())) λ(u5a0,_)=>
  .ite u5a0 (.ret (x0,false))<|
  .val (bN.f (x0.una,c1,())) λc6=>
  .bnd (β:=Bool×Int×Sndr×Sndr×Sndr×Unit) (.ite (decide (x0.sent<c1)) (.ret (false,x0.sent,x0,(⟨0,[],0,false,false,false⟩:Sndr),({x0 with una:=c6,finSent:=false,done:=true}:Sndr),()))<|
   .ret (false,c1,x0,(⟨0,[],0,false,false,false⟩:Sndr),({x0 with una:=c6}:Sndr),())) λ(_,u7a1,u7a2,_,u7a4,_)=>
  .grd (((decide (0≤u7a1))&&(decide (u7a1≤(u7a2.data.length:Int))))&&(decide ((u7a2.data.length:Int)≤(u7a2.data.length:Int))))<|
  .ret (({u7a4 with data:=((u7a2.data.take ((u7a2.data.length:Int).toNat)).drop u7a1.toNat),sent:=(IntKind.wrap .i64 (u7a2.sent-u7a1))}:Sndr),true),
 λ(x0,x1,_) hp=>by
  refine Tr.V λc1 hc1=>Tr.B (Q':=λw=>(w.1=false→SO x0)∧(w.1=false→0≤c1∧c1≤x0.sent+1)) (Tr.C trivial λc2 hc2 qc2=>Tr.I (λb0=>Tr.R ?_) λb0=>Tr.C ?_ λc3 hc3 qc3=>Tr.V λc4 hc4=>Tr.R ?_) (λ(u5a0,_) hj5 qj5=>Tr.I (λb0=>Tr.R ?_) λb0=>Tr.V λc6 hc6=>Tr.B (Q':=λw=>cf w.2.2.1∧cf w.2.2.2.1∧cf w.2.2.2.2.1∧0≤w.2.1∧w.2.1≤x0.data.length∧w.2.2.1=x0) (Tr.I (λb1=>Tr.R ?_) λb1=>Tr.R ?_) (λ(u7a0,u7a1,u7a2,u7a3,u7a4,_) hj7 qj7=>Tr.G3 ?_ λg1=>Tr.R ?_))
  all_goals ((try simp only[Tr.nice,bo]at*)<;>grind)⟩
noncomputable def NZ:=aV st YW X9 [] (ks:=[.st .sndr,.sc (.int .i64)]) BH (λv=>[(true,ya v.1),(false,[.c (.bool v.2)])]) Tryz.func434 trivial
noncomputable def xZ:=[xh,qI,kT,Qo,dJ,iZ,Se,Nw]
def nn:Sh:=⟨[zi 1,zs 2,zb 3,zp 4 0,zp 8 1,zp 9 2,zi 10,(11,false,[.own 3]),zi 12],[.box [.st .recv [.sl .arg]],.box [.st .recv [.nil .piec]],.box [.st .recv [.own 4]],.arr .i64 false true,.of false true]⟩
def nr:Sh:=⟨[zp 4 0,zp 8 1,zp 9 2,(11,false,[.own 3]),zi 15,(16,false,[.own 4])],[.box [.st .recv [.sl .arg]],.box [.st .recv [.nil .piec]],.box [.st .recv [.own 5]],.arr .i64 false true,.arr .u8 false true,.of false true]⟩
def vL:An:=⟨⟨[],[],false,0⟩,⟨[4,8,9,11],[],false,0⟩,⟨[],[]⟩,[(.normal,⟨[zp 4 0,zp 8 1,zp 9 2,(11,false,[.own 3])],[.box [.st .recv [.sl .arg]],.box [.st .recv [.nil .piec]],.box [.st .recv [.own 4]],.arr .i64 false true,.of false true]⟩)]⟩
def oB:An:=⟨⟨[],[],false,0⟩,⟨[4,8,9],[],false,0⟩,⟨[],[]⟩,[(.normal,⟨[zp 4 0,zp 8 1,zp 9 2],[.box [.st .recv [.sl .arg]],.box [.st .recv [.nil .piec]],.box [.st .recv [.own 3]],.of false true]⟩)]⟩
noncomputable def wV:Fx:=⟨435,Tryz.f435,[(0,lb [1,2,3,4,8,9,10,11,12] [1,2,3,4,8,9,10,11]),(2,lb [4,8,9,11,15,16] [4,8,9,11,15,16]),(1000095,vL),(1000137,oB),(3000002,rA 0 25),(3000010,rA 0 64),(3000013,rA 0 95)],0⟩
noncomputable def rq (v0:Int)(v1:ac)(v3:Int)(v5:Recv)(v4:Int)(a:Recv×List Int):Tr (Stp (Recv×List Int) (Empty)):=
 .val (bN.f (v0,v4,())) λc6=>
 .val (bS.f ((IntKind.wrap .i64 (c6-v5.next)),())) λc7=>
 .bnd (β:=Bool×Unit) (.ite (decide (c7<v3)) (.ite (decide (v5.fin<0)) (.grd ((decide (0≤c7))&&(decide (c7<(a.2.length:Int))))<|
    .ret ((decide ((a.2.getD c7.toNat 0)<0)),()))<|
   .ite (decide (c7<v5.fin)) (.grd ((decide (0≤c7))&&(decide (c7<(a.2.length:Int))))<|
    .ret ((decide ((a.2.getD c7.toNat 0)<0)),()))<|
   .ret (false,()))<|
  .ret (false,())) λ(u8a0,_)=>
 .ite u8a0 (.grd ((decide (0≤v4))&&(decide (v4<(v1.length:Int))))<|
  .grd ((decide (0≤c7))&&(decide (c7<(a.2.length:Int))))<|
  .ret (.next (({a.1 with held:=[]}:Recv),(a.2.set c7.toNat (IntKind.wrap .i64 (ae v1 v4.toNat))))))<|
 .ret (.next (({a.1 with held:=[]}:Recv),a.2))
noncomputable def gb:nn.V→LC nn (Recv×List Int) (Empty) (Int×(Recv×List Int)):=λ(v0,v1,v2,v3,v4,v5,v6,v7,v8,_)=>⟨v4,(v6,v8),λv4 a=>(v0,v1,v2,v3,v4,v5,a.1,v7,a.2,()),λv4 _=>(decide (v4<(v1.length:Int))),rq v0 v1 v3 v5,up,1,(Int.toNat ((v1.length:Int)-v4)),(λp=>Empty.elim p),λi a=>(i,a),λ_ k x=>k (.exit 0) (Sh.enc ⟨[zi 1,zs 2,zb 3,zp 4 0,zp 8 1,zp 9 2,zi 10,(11,false,[.own 3])],[.box [.st .recv [.sl .arg]],.box [.st .recv [.nil .piec]],.box [.st .recv [.own 4]],.arr .i64 false true,.of false true]⟩ (v0,v1,v2,v3,v5,({x.2.1 with held:=[]}:Recv),v7,x.2.2,()))⟩
theorem Mj:LS Tryz.prog wV [0] (bR 0 nn gb):=aW st (aj xZ) _ gb [] trivial
theorem JI {v0 v3 v4:Int}{v1:ac}{v2:Bool}{v5 v6 v7:Recv}{v8:List Int}(h0:0≤v4)(h1:(v1.length:Int)≤4611686018427387904)(h2:v3≤32)(h3:sS v1)(h4:ax v5)(h5:sS v8)(h6:ax v6∧v8.length=v8.length∧v8.length=33):(gb (v0,v1,v2,v3,v4,v5,v6,v7,v8,())).U (v1.length:Int) (λv4 a=>ax a.1∧a.2.length=v8.length∧a.2.length=33) (λ_=>True):=
 LC.okU (i:=v4) (a:=(v6,v8)) (λ_ _=>rfl) (λ_=>rfl) rfl h0 h1 h6 λv4 (v6,v8) hj hk hv=>by
  refine Tr.V λ_ _=>Tr.V λ_ _=>Tr.B (Q':=λ_=>True) (Tr.I (λ_=>Tr.I (λ_=>Tr.G2 ?_ λ_=>Tr.R trivial) λ_=>Tr.I (λ_=>Tr.G2 ?_ λ_=>Tr.R trivial) λ_=>Tr.R trivial) λ_=>Tr.R trivial) (λ(u8a0,_) _ _=>Tr.I (λ_=>Tr.G2 ?_ λ_=>Tr.G2 ?_ λ_=>Tr.Rn ?_) λ_=>Tr.Rn ?_)
  all_goals ((try simp only[Tr.nice,bo]at*)<;>grind)
noncomputable def kj (v4:List Int)(v0:Int)(a:Recv×List Int):Tr (Stp (Recv×List Int) ((Int×Recv×List Int))):=
 .grd ((decide (0≤v0))&&(decide (v0<(v4.length:Int))))<|
 .ite (decide (0≤(v4.getD v0.toNat 0))) (.grd ((decide (0≤v0))&&(decide (v0<(v4.length:Int))))<|
  .grd (Nat.ble ((2*(a.2.length+1)+1024)*1) aF)<|
  .ret (.next (({a.1 with held:=[]}:Recv),(a.2++[(IntKind.wrap .u8 (v4.getD v0.toNat 0))]))))<|
 .ret (.out (v0,({a.1 with held:=[]}:Recv),a.2))
noncomputable def eS:nr.V→LC nr (Recv×List Int) ((Int×Recv×List Int)) (((Int×Recv×List Int))⊕(Int×(Recv×List Int))):=λ(v0,v1,v2,v3,v4,v5,_)=>⟨v0,(v2,v5),λv0 a=>(v0,v1,a.1,v3,v4,a.2,()),λv0 _=>(decide (v0<(v4.length:Int))),kj v4,up,1,(Int.toNat ((v4.length:Int)-v0)),.inl,λi a=> .inr (i,a),λ_ k w=>Sum.elim (λp=>k (.exit 2) (Sh.enc ⟨[zp 4 0,zp 8 1,zp 9 2,(11,false,[.own 3]),zi 15,(16,false,[.own 4])],[.box [.st .recv [.sl .arg]],.box [.st .recv [.nil .piec]],.box [.st .recv [.own 5]],.arr .i64 false true,.arr .u8 false true,.of false true]⟩ (p.1,v1,p.2.1,v3,v4,p.2.2,()))) (λx=>k (.exit 2) (Sh.enc ⟨[zp 4 0,zp 8 1,zp 9 2,(11,false,[.own 3]),zi 15,(16,false,[.own 4])],[.box [.st .recv [.sl .arg]],.box [.st .recv [.nil .piec]],.box [.st .recv [.own 5]],.arr .i64 false true,.arr .u8 false true,.of false true]⟩ (x.1,v1,({x.2.1 with held:=[]}:Recv),v3,v4,x.2.2,()))) w⟩
theorem JH:LS Tryz.prog wV [1] (bR 2 nr eS):=aW st (aj xZ) _ eS [] trivial
theorem JW {v0:Int}{v1 v2 v3:Recv}{v4 v5:List Int}(h0:0≤v0)(h1:(v4.length:Int)≤4611686018427387904)(h2:sS v4)(h3:ax v2∧(v5.length:Int)=v0):(eS (v0,v1,v2,v3,v4,v5,())).U (v4.length:Int) (λv0 a=>ax a.1∧(a.2.length:Int)=v0) (λp=>ax p.2.1∧sS p.2.2∧v0≤p.1∧p.1<(v4.length:Int)∧p.2.2.length≤v4.length):=
 LC.okU (i:=v0) (a:=(v2,v5)) (λ_ _=>rfl) (λ_=>rfl) rfl h0 h1 h3 λv0 (v2,v5) hj hk hv=>by
  refine Tr.G2 ?_ λ_=>Tr.I (λ_=>Tr.G2 ?_ λ_=>Tr.Gb ?_ λ_=>Tr.Rn ?_) λ_=>Tr.Ro ?_
  all_goals (grind)
noncomputable def qB:FT (Recv×Int×ac×Bool×Unit) (Recv) (λx=>ax x.1∧sS x.2.2.1) (λx v=>ax v∧(v.held.length:Int)≤max x.1.held.length 3):=⟨λ(x0,x1,x2,x3,_)=>
  .cal dY.c (x0,()) λc1=>
  .bnd (β:=Bool×Unit) (.cal kB.c (x0,()) λc2=>
   .ite (!c2) (.ret (true,()))<|
   .ret (x0.done,())) λ(u3a0,_)=>
  .ite u3a0 (.ret c1)<|
  .cal gZ.c (x0,()) λc4=>
  .cal uu.c (x0,()) λc5=>
  .lp (gb (x1,x2,x3,c4,0,x0,(⟨0,[],[],0,false⟩:Recv),c1,c5,())).lp λ(_,a9_0,a9_1)=>
  .val (bN.f (x1,(x2.length:Int),())) λc10=>
  .val (bS.f ((IntKind.wrap .i64 (c10-x0.next)),())) λc11=>
  .bnd (β:=Bool×Unit) (.ite x3 (.ite (decide (x0.fin<0)) (.ite (decide (c11≤c4)) (.cal uk.c (a9_1,c11,()) λc12=>
      .ret (c12,()))<|
     .ret (false,()))<|
    .ret (false,()))<|
   .ret (false,())) λ(u13a0,_)=>
  .bnd (β:=WT vL.es) (.ite u13a0 (.ret (x0,({({a9_0 with held:=[]}:Recv)with held:=[]}:Recv),({c1 with fin:=c11}:Recv),a9_1,()))<|
   .ret (x0,({({a9_0 with held:=[]}:Recv)with held:=[]}:Recv),c1,a9_1,())) λ(u14a0,u14a1,u14a2,u14a3,_)=>
  .lp (eS (0,u14a0,({u14a1 with held:=[]}:Recv),u14a2,u14a3,[],())).lp λw15=> .sum w15 (λ(p15a0,p15a1,p15a2)=>
  .grd (Nat.ble (u14a0.data.length+(av p15a2).length) an)<|
  .val (bN.f (u14a0.next,p15a0,())) λc16=>
  .cal pd.c (u14a3,p15a0,()) λc17=>
  .bnd (β:=WT oB.es) (.ite (decide (0≤u14a2.fin)) (.ret (u14a0,({p15a1 with held:=[]}:Recv),(⟨c16,(u14a0.data++(av p15a2)),c17,(IntKind.wrap .i64 (u14a2.fin-p15a0)),u14a2.done⟩:Recv),()))<|
   .ret (u14a0,({p15a1 with held:=[]}:Recv),(⟨c16,(u14a0.data++(av p15a2)),c17,u14a2.fin,u14a2.done⟩:Recv),())) λ(u18a0,_,u18a2,_)=>
  .ite (u18a2.fin==0) (.val (bN.f (u18a2.next,1,())) λc19=>
   .ite (decide (3<(u18a2.held.length:Int))) (.cal dY.c (u18a0,()) λc20=>
    .ret c20)<|
   .ret (⟨c19,u18a2.data,u18a2.held,(-1),true⟩:Recv))<|
  .ite (decide (3<(u18a2.held.length:Int))) (.cal dY.c (u18a0,()) λc21=>
   .ret c21)<|
  .ret u18a2)<|
  λ(n15,a15_0,a15_1)=>
  .grd (Nat.ble (u14a0.data.length+(av a15_1).length) an)<|
  .val (bN.f (u14a0.next,n15,())) λc22=>
  .cal pd.c (u14a3,n15,()) λc23=>
  .bnd (β:=WT oB.es) (.ite (decide (0≤u14a2.fin)) (.ret (u14a0,({({a15_0 with held:=[]}:Recv)with held:=[]}:Recv),(⟨c22,(u14a0.data++(av a15_1)),c23,(IntKind.wrap .i64 (u14a2.fin-n15)),u14a2.done⟩:Recv),()))<|
   .ret (u14a0,({({a15_0 with held:=[]}:Recv)with held:=[]}:Recv),(⟨c22,(u14a0.data++(av a15_1)),c23,u14a2.fin,u14a2.done⟩:Recv),())) λ(u24a0,_,u24a2,_)=>
  .ite (u24a2.fin==0) (.val (bN.f (u24a2.next,1,())) λc25=>
   .ite (decide (3<(u24a2.held.length:Int))) (.cal dY.c (u24a0,()) λc26=>
    .ret c26)<|
   .ret (⟨c25,u24a2.data,u24a2.held,(-1),true⟩:Recv))<|
  .ite (decide (3<(u24a2.held.length:Int))) (.cal dY.c (u24a0,()) λc27=>
   .ret c27)<|
  .ret u24a2,
 λ(x0,x1,x2,x3,_) hp=>by
  refine Tr.C ?_ λc1 hc1 qc1=>Tr.B (Q':=λw=>(w.1=false→RO x0)) (Tr.C ?_ λc2 hc2 qc2=>Tr.I (λb0=>Tr.R ?_) λb0=>Tr.R ?_) (λ(u3a0,_) hj3 qj3=>Tr.I (λb0=>Tr.R ?_) λb0=>Tr.C ?_ λc4 hc4 qc4=>Tr.C ?_ λc5 hc5 qc5=>Tr.L (JI ?_ ?_ ?_ ?_ ?_ ?_ ?_) (λ(a9_0,a9_1) i9=>Tr.V λc10 hc10=>Tr.V λc11 hc11=>Tr.B (Q':=λ_=>True) (Tr.I (λb1=>Tr.I (λb2=>Tr.I (λb3=>Tr.C ?_ λc12 hc12 qc12=>Tr.R trivial) λb3=>Tr.R trivial) λb2=>Tr.R trivial) λb1=>Tr.R trivial) (λ(u13a0,_) hj13 qj13=>Tr.B (Q':=λw=>ax w.1∧ax w.2.1∧ax w.2.2.1∧sS w.2.2.2.1∧w.1=x0∧w.2.2.2.1.length=33∧w.1.data.length≤32) (Tr.I (λb1=>Tr.R ?_) λb1=>Tr.R ?_) (λ(u14a0,u14a1,u14a2,u14a3,_) hj14 qj14=>Tr.L (JW ?_ ?_ ?_ ?_) (λ(a15_0,a15_1) i15=>Tr.Sr (Tr.Gb ?_ λg1=>Tr.V λc22 hc22=>Tr.C ?_ λc23 hc23 qc23=>Tr.B (Q':=λw=>ax w.1∧ax w.2.1∧ax w.2.2.1∧w.1=x0) (Tr.I (λb2=>Tr.R ?_) λb2=>Tr.R ?_) (λ(u24a0,u24a1,u24a2,_) hj24 qj24=>Tr.I (λb2=>Tr.V λc25 hc25=>Tr.I (λb3=>Tr.C ?_ λc26 hc26 qc26=>Tr.R ?_) λb3=>Tr.R ?_) λb2=>Tr.I (λb3=>Tr.C ?_ λc27 hc27 qc27=>Tr.R ?_) λb3=>Tr.R ?_))) (λ(p15a0,p15a1,p15a2) hp15=>Tr.Sl (Tr.Gb ?_ λg1=>Tr.V λc16 hc16=>Tr.C ?_ λc17 hc17 qc17=>Tr.B (Q':=λw=>ax w.1∧ax w.2.1∧ax w.2.2.1∧w.1=x0) (Tr.I (λb2=>Tr.R ?_) λb2=>Tr.R ?_) (λ(u18a0,u18a1,u18a2,_) hj18 qj18=>Tr.I (λb2=>Tr.V λc19 hc19=>Tr.I (λb3=>Tr.C ?_ λc20 hc20 qc20=>Tr.R ?_) λb3=>Tr.R ?_) λb2=>Tr.I (λb3=>Tr.C ?_ λc21 hc21 qc21=>Tr.R ?_) λb3=>Tr.R ?_)))))) (λp=>Empty.elim p))
  all_goals ((try simp only[gb,eS,LC.lp,LC.ct,Ct.lp,Tr.nice,bo]at*)<;>grind)⟩
noncomputable def Fn:=aV st wV xZ [(bR 0 nn gb),(bR 2 nr eS)] (ks:=[.st .recv,.sc (.int .i64),.sc .str,.sc .bool]) qB (λv=>[(true,vm (.o true) v)]) Tryz.func435 ⟨Mj,JH,trivial⟩
noncomputable def Bf:=[dJ,u5]
def lI:Sh:=⟨[zi 0,zi 1,zi 2,zi 3,zi 9],[]⟩
noncomputable def BP:Fx:=⟨444,Tryz.f444,[(0,lb [0,1,2,3,9] [8])],0⟩
noncomputable def jB (v0 v2 v3:Int)(v4:Int)(a:Unit):Tr (Stp (Unit) ((Unit)⊕(Unit))):=
 .ite (decide (v4<65536)) (.val (bN.f (v0,v4,())) λc1=>
  .val (n3.f (c1,v2,v3,())) λc2=>
  .ite c2 (.ret (.out (.inl ())))<|
  .ret (.next ()))<|
 .ret (.out (.inr (())))
noncomputable def fA:lI.V→LC lI (Unit) ((Unit)⊕(Unit)) (((Unit)⊕(Unit))⊕(Int×Unit)):=λ(v0,v1,v2,v3,v4,_)=>⟨v4,(),λv4 _=>(v0,v1,v2,v3,v4,()),λv4 _=>(decide (v4<v1)),jB v0 v2 v3,up,1,(Int.toNat (v1-v4)),.inl,λi a=> .inr (i,a),λ_ k w=>Sum.elim (λq=>Sum.elim (λ_=>k .ret (Sh.enc ⟨[zb 8],[]⟩ (true,()))) (λ_=>k (.exit 0) (Sh.enc ⟨[zu 8],[]⟩ ())) q) (λ_=>k (.exit 0) (Sh.enc ⟨[zu 8],[]⟩ ())) w⟩
theorem G6:LS Tryz.prog BP [0] (bR 0 lI fA):=aW st (aj Bf) _ fA [] trivial
theorem Hr {v0 v1 v2 v3 v4:Int}(h0:0≤v4)(h1:v1≤4611686018427387904):(fA (v0,v1,v2,v3,v4,())).U v1 (λ_ _=>True) (λ_=>True):=
 LC.okU (i:=v4) (a:=()) (λ_ _=>rfl) (λ_=>rfl) rfl h0 h1 trivial λv4 _ hj hk hv=>Tr.Z (by kernel_rfl)
noncomputable def vf:FT (Int×Int×Int×Int×Unit) (Bool) (λx=>x.2.1≤4611686018427387904) (λ_ _=>True):=⟨λ(x0,x1,x2,x3,_)=>
  .lp (fA (x0,x1,x2,x3,0,())).lp λw3=> .sum w3 (λq3=> .sum q3 (λ_=>
  .ret true)<|
  λ_=>
  .ret false)<|
  λ_=>
  .ret false,
 λ(x0,x1,x2,x3,_) hp=>by
  refine Tr.L (Hr ?_ ?_) (λ_ _=>Tr.Sr (Tr.R trivial)) (Tr.W2 (λ_ _=>Tr.Sl (Tr.Sl (Tr.R trivial))) (λ_ _=>Tr.Sl (Tr.Sr (Tr.R trivial))))
  all_goals ((try simp only[fA,LC.lp,LC.ct,Ct.lp]at*)<;>grind)⟩
noncomputable def PP:=aV st BP Bf [(bR 0 lI fA)] (ks:=[.sc (.int .i64),.sc (.int .i64),.sc (.int .i64),.sc (.int .i64)]) vf (λv=>[(false,[.c (.bool v)])]) Tryz.func444 ⟨G6,trivial⟩
noncomputable def kf:FT (Sipr×Unit) (Sipr) (λ_=>True) (λ_ _=>True):=⟨λ(x0,_)=>
  .cal df.c (x0.b,13,()) λc1=>
  .cal df.c ((IntKind.wrap .u64 (x0.a+x0.b)),32,()) λc2=>
  .cal df.c (x0.d,16,()) λc3=>
  .val (IntKind.wrap .u64 (c2+(bits .xor .u64 c3 (IntKind.wrap .u64 (x0.c+x0.d))))) λe4=>
  .cal df.c ((bits .xor .u64 c3 (IntKind.wrap .u64 (x0.c+x0.d))),21,()) λc5=>
  .val (IntKind.wrap .u64 ((IntKind.wrap .u64 (x0.c+x0.d))+(bits .xor .u64 c1 (IntKind.wrap .u64 (x0.a+x0.b))))) λe6=>
  .cal df.c ((bits .xor .u64 c1 (IntKind.wrap .u64 (x0.a+x0.b))),17,()) λc7=>
  .cal df.c (e6,32,()) λc8=>
  .ret (⟨e4,(bits .xor .u64 c7 e6),c8,(bits .xor .u64 c5 e4)⟩:Sipr),
 λ(x0,_) hp=>by
  refine Tr.C trivial λ_ _ _=>Tr.C trivial λ_ _ _=>Tr.C trivial λ_ _ _=>Tr.V λ_ _=>Tr.C trivial λ_ _ _=>Tr.V λ_ _=>Tr.C trivial λ_ _ _=>Tr.C trivial λ_ _ _=>Tr.R trivial⟩
noncomputable def Dk:=bf st Tryz.func455 [BE] (ks:=[.st .sipr]) kf (λv=>[(true,DP v)])
noncomputable def hU:FT (Int×Int×List Bool×List Int×Unit) (List Bool×List Int) (λx=>sS x.2.2.1∧sS x.2.2.2.1∧0≤x.1∧x.1<x.2.2.1.length∧x.2.2.1.length=x.2.2.2.1.length) (λx v=>sS v.1∧sS v.2∧v.1.length=x.2.2.1.length∧v.2.length=x.2.2.2.1.length):=⟨λ(x0,x1,y2,y3,_)=>
  .grd ((decide (0≤x0))&&(decide (x0<(y2.length:Int))))<|
  .ite (!(y2.getD x0.toNat false)) (.grd ((decide (0≤x0))&&(decide (x0<(y2.length:Int))))<|
   .grd ((decide (0≤x0))&&(decide (x0<(y3.length:Int))))<|
   .ret ((y2.set x0.toNat true),(y3.set x0.toNat x1)))<|
  .ret (y2,y3),
 λ(x0,x1,y2,y3,_) hp=>by
  refine Tr.G2 ?_ λ_=>Tr.I (λ_=>Tr.G2 ?_ λ_=>Tr.G2 ?_ λ_=>Tr.R ?_) λ_=>Tr.R ?_
  all_goals (grind)⟩
noncomputable def Hk:=cJ st ⟨426,Tryz.f426,[],4⟩ [] [] [.sc (.int .i64),.sc (.int .u8),.wr false [.ptr 1],.wr false [.ptr 3]] [.arr .bool,.box [.own 0],.arr .u8,.box [.own 2]] (λx y=>(x.1,x.2.1,y.1,y.2.2.1,())) hU (λv=>[]) (λx y v=>(v.1,(()),v.2,(()),())) Tryz.func426 (by kernel_rfl) trivial
noncomputable def rx:FT (Door×Door×Unit) (Bool) (λx=>aD x.1∧aD x.2.1) (λ_ _=>True):=⟨λ(x0,x1,_)=>
  .ite (x0.port==x1.port) (.ite (x0.clock==x1.clock) (.cal uN.c (x0.keys,x1.keys,()) λc1=>
    .ite c1 (.ite ((x0.limits.halves==x1.limits.halves)&&((x0.limits.waiting==x1.limits.waiting)&&((x0.limits.conns==x1.limits.conns)&&((x0.limits.chal==x1.limits.chal)&&true)))) (.cal p7.c (x0.halves,x1.halves,()) λc2=>
      .ite c2 (.cal sm.c (x0.table,x1.table,()) λc3=>
       .ite c3 (.ret (x0.chal==x1.chal))<|
       .ret false)<|
      .ret false)<|
     .ret false)<|
    .ret false)<|
   .ret false)<|
  .ret false,
 λ(x0,x1,_) hp=>by
  refine Tr.I (λ_=>Tr.I (λ_=>Tr.C ?_ λ_ _ _=>Tr.I (λ_=>Tr.I (λ_=>Tr.C ?_ λ_ _ _=>Tr.I (λ_=>Tr.C ?_ λ_ _ _=>Tr.F (by kernel_rfl) trivial) λ_=>Tr.R trivial) λ_=>Tr.R trivial) λ_=>Tr.R trivial) λ_=>Tr.R trivial) λ_=>Tr.R trivial
  all_goals (grind)⟩
noncomputable def CP:=bf st Tryz.func19 [Q4,IZ,MW] (ks:=[.st .door,.st .door]) rx (λv=>[(false,[.c (.bool v)])])
noncomputable def pj:FT (Stac×Stac×Unit) (Bool) (λx=>cU x.1∧cU x.2.1) (λ_ _=>True):=⟨λ(x0,x1,_)=>
  .cal uD.c (x0.link,x1.link,()) λc1=>
  .ite c1 (.cal rx.c (x0.door,x1.door,()) λc2=>
   .ret c2)<|
  .ret false,
 λ(x0,x1,_) hp=>by
  refine Tr.C ?_ λ_ _ _=>Tr.I (λ_=>Tr.C ?_ λ_ _ _=>Tr.R trivial) λ_=>Tr.R trivial
  all_goals (grind)⟩
noncomputable def ML:=bf st Tryz.func30 [Qk,CP] (ks:=[.st .stac,.st .stac]) pj (λv=>[(false,[.c (.bool v)])])
noncomputable def zQ:FT (Tabl×Unit) (Tabl×Tupl×Bool) (λx=>bu x.1) (λx v=>bu v.1∧v.1.conns.length=x.1.conns.length∧v.1.waiting.length≤x.1.waiting.length):=⟨λ(x0,_)=>
  .cal mh.c (x0,()) λc1=>
  .ite ((x0.waiting.length:Int)==0) (.ret (c1,(⟨0,0,0⟩:Tupl),false))<|
  .grd ((decide (1≤(x0.waiting.length:Int)))&&(decide ((x0.waiting.length:Int)≤(x0.waiting.length:Int))))<|
  .grd (Nat.ble ((2*(0+((x0.waiting.take ((x0.waiting.length:Int).toNat)).drop 1).length)+1024)*24) aF)<|
  .grd (decide (0<(x0.waiting.length:Int)))<|
  .ret ((⟨c1.conns,([]++((x0.waiting.take ((x0.waiting.length:Int).toNat)).drop 1))⟩:Tabl),(x0.waiting.getD 0 (Ty.zero .tupl)),true),
 λ(x0,_) hp=>by
  refine Tr.C ?_ λ_ _ _=>Tr.I (λ_=>Tr.R ?_) λ_=>Tr.G2 ?_ λ_=>Tr.Gb ?_ λ_=>Tr.G1 ?_ λ_=>Tr.R ?_
  all_goals (grind)⟩
noncomputable def GQ:=bf st Tryz.func55 [sj] (ks:=[.st .tabl]) zQ (λv=>[(true,uy (.o true) (.o true) v.1),(true,J7 v.2.1),(false,[.c (.bool v.2.2)])])
noncomputable def tI:FT (Link×Unit) (Bool) (λx=>dH x.1) (λ_ _=>True):=⟨λ(x0,_)=>
  .cal aE.c (x0.mac,48,()) λc1=>
  .ite c1 (.ite (x0.mac != 281474976710655) (.cal aE.c (x0.ip,32,()) λc2=>
    .ite c2 (.cal ui.c (x0.cache,()) λc3=>
     .ret c3)<|
    .ret false)<|
   .ret false)<|
  .ret false,
 λ(x0,_) hp=>by
  refine Tr.C trivial λ_ _ _=>Tr.I (λ_=>Tr.I (λ_=>Tr.C trivial λ_ _ _=>Tr.I (λ_=>Tr.C ?_ λ_ _ _=>Tr.R trivial) λ_=>Tr.R trivial) λ_=>Tr.R trivial) λ_=>Tr.R trivial
  all_goals (grind)⟩
noncomputable def zT:=bf st Tryz.func64 [bU,Gd] (ks:=[.st .link]) tI (λv=>[(false,[.c (.bool v)])])
noncomputable def oQ:FT (Int×Unit) (Int×Int×Int) (λ_=>True) (λ_ _=>True):=⟨λ(x0,_)=>
  .cal aE.c (x0,32,()) λc1=>
  .ite (!c1) (.ret ((-1),(-1),(-1)))<|
  .ret ((IntKind.wrap .i64 (x0.tdiv 134217728)),((IntKind.wrap .i64 (x0.tdiv 16777216)).tmod 8),(x0.tmod 16777216)),
 λ(x0,_) hp=>by
  refine Tr.C trivial λ_ _ _=>Tr.F (by kernel_rfl) trivial⟩
noncomputable def Gp:=bf st Tryz.func65 [bU] (ks:=[.sc (.int .i64)]) oQ (λv=>[(false,[.c (.int .i64 v.1)]),(false,[.c (.int .i64 v.2.1)]),(false,[.c (.int .i64 v.2.2)])])
noncomputable def WA:=[bU,Y9,Fe]
noncomputable def Wd:Fx:=⟨66,Tryz.f66,[(3000001,rA 0 18)],0⟩
noncomputable def xu:FT (Keys×Unit) (Bool) (λx=>cC x.1) (λx v=>(v=true→0≤x.1.epoch∧x.1.epoch≤4294967295)):=⟨λ(x0,_)=>
  .bnd (β:=Bool×Unit) (.cal aE.c (x0.epoch,32,()) λc1=>
   .ite (!c1) (.ret (true,()))<|
   .cal CG.c (x0.now,()) λc2=>
   .ite (!c2) (.ret (true,()))<|
   .cal CG.c (x0.before,()) λc3=>
   .ret ((!c3),())) λ(u4a0,_)=>
  .ite u4a0 (.ret false)<|
  .ite x0.two (.ret (decide (1≤x0.epoch)))<|
  .cal mi.c (x0.before,(⟨false,0,0,[]⟩:Mac),()) λc5=>
  .ret c5,
 λ(x0,_) hp=>by
  refine Tr.B (Q':=λw=>(w.1=false→x0.now.rows.length≤64∧x0.before.rows.length≤64)) (Tr.C trivial λ_ _ _=>Tr.I (λ_=>Tr.R ?_) λ_=>Tr.C ?_ λ_ _ _=>Tr.I (λ_=>Tr.R ?_) λ_=>Tr.C ?_ λ_ _ _=>Tr.R ?_) (λ(u4a0,_) _ _=>Tr.I (λ_=>Tr.R ?_) λ_=>Tr.I (λ_=>Tr.R ?_) λ_=>Tr.C ?_ λ_ _ _=>Tr.R ?_)
  all_goals ((try simp only[Tr.nice,bo]at*)<;>grind)⟩
noncomputable def JP:=aV st Wd WA [] (ks:=[.st .keys]) xu (λv=>[(false,[.c (.bool v)])]) Tryz.func66 trivial
noncomputable def d7:FT (Conn×Unit) (Conn) (λx=>ai x.1) (λx v=>ai v∧v=x.1):=⟨λ(x0,_)=>
  .cal jD.c (x0.r,()) λc1=>
  .ret ({x0 with r.next:=c1.next,r.data:=c1.data,r.held:=c1.held,r.fin:=c1.fin,r.done:=c1.done}:Conn),
 λ(x0,_) hp=>by
  refine Tr.C ?_ λc1 hc1 qc1=>Tr.R ?_
  all_goals ((first|grind|(refine⟨by grind, ?_⟩;first|(simp only[List.nil_append];done)|(subst_vars;rfl)|simp_all)))⟩
noncomputable def ia:=bf st Tryz.func81 [sO] (ks:=[.st .conn]) d7 (λv=>[(true,jP (.o true) v)])
noncomputable def fj:FT (Door×Unit) (Door) (λx=>aD x.1) (λx v=>aD v∧v.table.conns.length=x.1.table.conns.length∧v.table.waiting.length=x.1.table.waiting.length∧v.halves=x.1.halves):=⟨λ(x0,_)=>
  .cal yy.c (x0.keys,()) λc1=>
  .grd (Nat.ble ((2*(0+x0.halves.length)+1024)*96) aF)<|
  .cal mh.c (x0.table,()) λc2=>
  .ret (⟨x0.port,x0.clock,c1,x0.limits,([]++x0.halves),c2,x0.chal⟩:Door),
 λ(x0,_) hp=>by
  refine Tr.C ?_ λ_ _ _=>Tr.Gb ?_ λ_=>Tr.C ?_ λ_ _ _=>Tr.R ?_
  all_goals (grind)⟩
noncomputable def kr:=bf st Tryz.func82 [RT,sj] (ks:=[.st .door]) fj (λv=>[(true,oz (.o true) (.o true) (.o true) (.o true) (.o true) v)])
noncomputable def Ce:=[r9,bU,le,cz,m9]
def lu:Sh:=⟨[(0,false,[.sl .arg .half]),zi 3],[]⟩
noncomputable def Cb:Fx:=⟨92,Tryz.f92,[(0,lb [0,3] [0,2])],0⟩
noncomputable def fy (v0:List Half)(v1:Int)(a:Unit):Tr (Stp (Unit) ((Unit))):=
 .grd ((decide (0≤v1))&&(decide (v1<(v0.length:Int))))<|
 .cal oc.c ((v0.getD v1.toNat (Ty.zero .half)).tuple,()) λc1=>
 .ite (!c1) (.ret (.out ()))<|
 .cal aE.c ((v0.getD v1.toNat (Ty.zero .half)).iss,32,()) λc2=>
 .ite (!c2) (.ret (.out ()))<|
 .cal aE.c ((v0.getD v1.toNat (Ty.zero .half)).irs,32,()) λc3=>
 .ite (!c3) (.ret (.out ()))<|
 .cal aE.c ((v0.getD v1.toNat (Ty.zero .half)).window,16,()) λc4=>
 .ite (!c4) (.ret (.out ()))<|
 .cal eT.c ((v0.getD v1.toNat (Ty.zero .half)).opts,()) λc5=>
 .ite (!c5) (.ret (.out ()))<|
 .val (cr.f ((v0.getD v1.toNat (Ty.zero .half)).age,0,6,())) λc6=>
 .ite (!c6) (.ret (.out ()))<|
 .grd ((decide (0≤v1))&&(decide (v1≤(v0.length:Int))))<|
 .cal jt.c (((v0.take v1.toNat).drop 0),(v0.getD v1.toNat (Ty.zero .half)).tuple,()) λc7=>
 .ite (decide (0≤c7)) (.ret (.out ()))<|
 .ret (.next ())
noncomputable def d9:lu.V→LC lu (Unit) ((Unit)) (((Unit))⊕(Int×Unit)):=λ(v0,v1,_)=>⟨v1,(),λv1 _=>(v0,v1,()),λv1 _=>(decide (v1<(v0.length:Int))),fy v0,up,1,(Int.toNat ((v0.length:Int)-v1)),.inl,λi a=> .inr (i,a),λ_ k w=>Sum.elim (λ_=>k .ret (Sh.enc ⟨[(0,false,[.sl .arg .half]),zb 2],[]⟩ (v0,false,()))) (λ_=>k (.exit 0) (Sh.enc ⟨[(0,false,[.sl .arg .half]),zu 2],[]⟩ (v0,()))) w⟩
theorem GS:LS Tryz.prog Cb [0] (bR 0 lu d9):=aW st (aj Ce) _ d9 [] trivial
theorem Gv {v0:List Half}{v1:Int}(h0:0≤v1)(h1:(v0.length:Int)≤4611686018427387904)(h2:wS v0):(d9 (v0,v1,())).U (v0.length:Int) (λ_ _=>True) (λ_=>True):=
 LC.okU (i:=v1) (a:=()) (λ_ _=>rfl) (λ_=>rfl) rfl h0 h1 trivial λv1 _ hj hk hv=>by
  refine Tr.G2 ?_ λ_=>Tr.C trivial λ_ _ _=>Tr.I (λ_=>Tr.Ro trivial) λ_=>Tr.C trivial λ_ _ _=>Tr.I (λ_=>Tr.Ro trivial) λ_=>Tr.C trivial λ_ _ _=>Tr.I (λ_=>Tr.Ro trivial) λ_=>Tr.C trivial λ_ _ _=>Tr.I (λ_=>Tr.Ro trivial) λ_=>Tr.C trivial λ_ _ _=>Tr.I (λ_=>Tr.Ro trivial) λ_=>Tr.V λ_ _=>Tr.I (λ_=>Tr.Ro trivial) λ_=>Tr.G2 ?_ λ_=>Tr.C ?_ λ_ _ _=>Tr.Z (by kernel_rfl)
  all_goals (grind)
noncomputable def n5:FT (List Half×Unit) (Bool) (λx=>wS x.1) (λx v=>(v=true→x.1.length≤64)):=⟨λ(x0,_)=>
  .lp (d9 (x0,0,())).lp λw8=> .sum w8 (λ_=>
  .ret false)<|
  λ_=>
  .ret (decide ((x0.length:Int)≤64)),
 λ(x0,_) hp=>by
  refine Tr.L (Gv ?_ ?_ ?_) (λ_ _=>Tr.Sr (Tr.R ?_)) (λ_ _=>Tr.Sl (Tr.R ?_))
  all_goals ((try simp only[d9,LC.lp,LC.ct,Ct.lp]at*)<;>grind)⟩
noncomputable def Dc:=aV st Cb Ce [(bR 0 lu d9)] (ks:=[.sc (.sl .half)]) n5 (λv=>[(false,[.c (.bool v)])]) Tryz.func92 ⟨GS,trivial⟩
noncomputable def dP:FT (Link×Unit) (Bool) (λx=>dH x.1) (λ_ _=>True):=⟨λ(x0,_)=>
  .cal aa.c (x0.mac,48,()) λc1=>
  .ite c1 (.ite (x0.mac != 281474976710655) (.cal aa.c (x0.ip,32,()) λc2=>
    .ite c2 (.cal gJ.c (x0.cache,()) λc3=>
     .ret c3)<|
    .ret false)<|
   .ret false)<|
  .ret false,
 λ(x0,_) hp=>by
  refine Tr.C trivial λ_ _ _=>Tr.I (λ_=>Tr.I (λ_=>Tr.C trivial λ_ _ _=>Tr.I (λ_=>Tr.C ?_ λ_ _ _=>Tr.R trivial) λ_=>Tr.R trivial) λ_=>Tr.R trivial) λ_=>Tr.R trivial
  all_goals (grind)⟩
noncomputable def Ao:=bf st Tryz.func114 [bQ,F3] (ks:=[.st .link]) dP (λv=>[(false,[.c (.bool v)])])
noncomputable def E2:=[Gd,bU,Ds]
def nI:Sh:=⟨[zi 1,zi 2,(7,false,[.own 0]),zi 9,zi 10],[.arr .entr false true]⟩
noncomputable def Fh:Fx:=⟨118,Tryz.f118,[(0,la ⟨[1,2,7,9,10],[],false,0⟩ ⟨[1,2,6,7,9],[.soft 7 0],false,0⟩),(3000002,rA 0 26)],0⟩
noncomputable def Ll (v4:List Entr)(v3:Int)(a:Int):Tr (Stp (Int) (Empty)):=
 .grd ((decide (0≤v3))&&(decide (v3<(v4.length:Int))))<|
 .grd ((decide (0≤a))&&(decide (a<(v4.length:Int))))<|
 .ite (decide ((v4.getD a.toNat (Ty.zero .entr)).age<(v4.getD v3.toNat (Ty.zero .entr)).age)) (.ret (.next v3))<|
 .ret (.next a)
noncomputable def fY:nI.V→LC nI (Int) (Empty) (Int×Int):=λ(v0,v1,v2,v3,v4,_)=>⟨v3,v2,λv3 a=>(v0,v1,a,v3,v4,()),λv3 _=>(decide (v3<(v4.length:Int))),Ll v4,up,1,(Int.toNat ((v4.length:Int)-v3)),(λp=>Empty.elim p),λi a=>(i,a),λ_ k x=>k (.exit 0) (Sh.enc ⟨[zi 1,zi 2,zu 6,(7,false,[.sl .any .entr]),zi 9],[]⟩ (v0,v1,v4,x.2,()))⟩
theorem K3:LS Tryz.prog Fh [0] (bR 0 nI fY):=aW st (aj E2) _ fY [] trivial
theorem LX {v0 v1 v2 v3:Int}{v4:List Entr}(h0:0≤v3)(h1:(v4.length:Int)≤4611686018427387904)(h2:0≤v2∧v2<v4.length):(fY (v0,v1,v2,v3,v4,())).U (v4.length:Int) (λv3 a=>0≤a∧a<v4.length) (λ_=>True):=
 LC.okU (i:=v3) (a:=v2) (λ_ _=>rfl) (λ_=>rfl) rfl h0 h1 h2 λv3 v2 hj hk hv=>by
  refine Tr.G2 ?_ λ_=>Tr.G2 ?_ λ_=>Tr.I (λ_=>Tr.Rn ?_) λ_=>Tr.Rn ?_
  all_goals (grind)
noncomputable def oe:FT (List Entr×Int×Int×Unit) (List Entr) (λx=>sS x.1) (λx v=>sS v∧v.length≤x.1.length+1):=⟨λ(x0,x1,x2,_)=>
  .grd (Nat.ble ((2*(0+x0.length)+1024)*24) aF)<|
  .bnd (β:=Bool×Unit) (.cal ui.c (x0,()) λc1=>
   .ite (!c1) (.ret (true,()))<|
   .cal aE.c (x1,32,()) λc2=>
   .ite (!c2) (.ret (true,()))<|
   .cal aE.c (x2,48,()) λc3=>
   .ret ((!c3),())) λ(u4a0,_)=>
  .ite u4a0 (.ret ([]++x0))<|
  .cal yE.c (x0,x1,()) λc5=>
  .ite (decide (0≤c5)) (.grd ((decide (0≤c5))&&(decide (c5<(([]++x0).length:Int))))<|
   .ret (([]++x0).set c5.toNat (⟨x1,x2,0⟩:Entr)))<|
  .ite ((([]++x0).length:Int)==4) (.lp (fY (x1,x2,0,1,([]++x0),())).lp λ(_,a6_0)=>
   .grd ((decide (0≤a6_0))&&(decide (a6_0≤(([]++x0).length:Int))))<|
   .grd (Nat.ble ((2*(0+((([]++x0).take a6_0.toNat).drop 0).length)+1024)*24) aF)<|
   .grd (((decide (0≤(IntKind.wrap .i64 (a6_0+1))))&&(decide ((IntKind.wrap .i64 (a6_0+1))≤(([]++x0).length:Int))))&&(decide ((([]++x0).length:Int)≤(([]++x0).length:Int))))<|
   .grd (Nat.ble ((2*(([]++((([]++x0).take a6_0.toNat).drop 0)).length+((([]++x0).take ((([]++x0).length:Int).toNat)).drop ((IntKind.wrap .i64 (a6_0+1)).toNat)).length)+1024)*24) aF)<|
   .val (([]++((([]++x0).take a6_0.toNat).drop 0))++((([]++x0).take ((([]++x0).length:Int).toNat)).drop ((IntKind.wrap .i64 (a6_0+1)).toNat))) λl7=>
   .grd (Nat.ble ((2*(l7.length+1)+1024)*24) aF)<|
   .ret (l7++[(⟨x1,x2,0⟩:Entr)]))<|
  .grd (Nat.ble ((2*(([]++x0).length+1)+1024)*24) aF)<|
  .ret (([]++x0)++[(⟨x1,x2,0⟩:Entr)]),
 λ(x0,x1,x2,_) hp=>by
  refine Tr.Gb ?_ λ_=>Tr.B (Q':=λw=>(w.1=false→x0.length≤4)) (Tr.C ?_ λ_ _ _=>Tr.I (λ_=>Tr.R ?_) λ_=>Tr.C trivial λ_ _ _=>Tr.I (λ_=>Tr.R ?_) λ_=>Tr.C trivial λ_ _ _=>Tr.R ?_) (λ(u4a0,_) _ _=>Tr.I (λ_=>Tr.R ?_) λ_=>Tr.C ?_ λ_ _ _=>Tr.I (λ_=>Tr.G2 ?_ λ_=>Tr.R ?_) λ_=>Tr.I (λ_=>Tr.L (LX ?_ ?_ ?_) (λa6_0 _=>Tr.G2 ?_ λ_=>Tr.Gb ?_ λ_=>Tr.G3 ?_ λ_=>Tr.Gb ?_ λ_=>Tr.V λ_ _=>Tr.Gb ?_ λ_=>Tr.R ?_) (λp=>Empty.elim p)) λ_=>Tr.Gb ?_ λ_=>Tr.R ?_)
  all_goals ((try simp only[fY,LC.lp,LC.ct,Ct.lp,Tr.nice,bo]at*)<;>grind)⟩
noncomputable def sH:=aV st Fh E2 [(bR 0 nI fY)] (ks:=[.sc (.sl .entr),.sc (.int .i64),.sc (.int .i64)]) oe (λv=>[(false,[sc (.o true) .entr v])]) Tryz.func118 ⟨K3,trivial⟩
noncomputable def JV:=[kp]
noncomputable def JR:Fx:=⟨119,Tryz.f119,[(3000004,rA 0 25)],0⟩
noncomputable def mR:FT (Int×Int×Int×Unit) (ac) (λ_=>True) (λx v=>sS v∧v.length≤20):=⟨λ(x0,x1,x2,_)=>
  .cal aQ.c (x0,4,()) λc1=>
  .cal aQ.c (x1,4,()) λc2=>
  .cal aQ.c (x2,2,()) λc3=>
  .bnd (β:=Bool×Unit) (.ite (c1==[]) (.ret (true,()))<|
   .ite (c2==[]) (.ret (true,()))<|
   .ret ((c3==[]),())) λ(u4a0,_)=>
  .ite u4a0 (.ret [])<|
  .grd (Nat.ble (c1.length+c2.length) an)<|
  .grd (Nat.ble ((c1++c2).length+2) an)<|
  .grd (Nat.ble (((c1++c2)++[0,6]).length+c3.length) an)<|
  .ret (((c1++c2)++[0,6])++c3),
 λ(x0,x1,x2,_) hp=>by
  refine Tr.C trivial λc1 hc1 qc1=>Tr.C trivial λc2 hc2 qc2=>Tr.C trivial λc3 hc3 qc3=>Tr.B (Q':=λ_=>True) (Tr.F (by kernel_rfl) trivial) (λ(u4a0,_) hj4 qj4=>Tr.I (λb0=>Tr.R ?_) λb0=>Tr.Gb ?_ λg1=>Tr.Gb ?_ λg2=>Tr.Gb ?_ λg3=>Tr.R ?_)
  all_goals ((try simp only[Tr.nice,bo]at*)<;>(first|(simp only[List.length_append,List.length_cons,List.length_nil,an,sS]at*;omega)|grind))⟩
noncomputable def xY:=aV st JR JV [] (ks:=[.sc (.int .i64),.sc (.int .i64),.sc (.int .i64)]) mR (λv=>[(false,[.c (.str v)])]) Tryz.func119 trivial
noncomputable def rM:FT (ac×Unit) (Bool) (λx=>sS x.1) (λ_ _=>True):=⟨λ(x0,_)=>
  .cal sC.c (x0,()) λc1=>
  .ret (c1==0),
 λ(x0,_) hp=>by
  refine Tr.C ?_ λ_ _ _=>Tr.R trivial
  all_goals (grind)⟩
noncomputable def B7:=bf st Tryz.func120 [yL] (ks:=[.sc .str]) rM (λv=>[(false,[.c (.bool v)])])
noncomputable def fR:FT (Fram×Unit) (ac) (λx=>ll x.1) (λx v=>sS v∧v.length≤1600):=⟨λ(x0,_)=>
  .cal yO.c (x0,()) λc1=>
  .ite (!c1) (.ret [])<|
  .cal aQ.c (x0.dst,6,()) λc2=>
  .cal aQ.c (x0.src,6,()) λc3=>
  .grd (Nat.ble (c2.length+c3.length) an)<|
  .cal aQ.c (x0.type,2,()) λc4=>
  .grd (Nat.ble ((c2++c3).length+c4.length) an)<|
  .grd (Nat.ble (((c2++c3)++c4).length+x0.body.length) an)<|
  .ret (((c2++c3)++c4)++x0.body),
 λ(x0,_) hp=>by
  refine Tr.C trivial λc1 hc1 qc1=>Tr.I (λb0=>Tr.R ?_) λb0=>Tr.C trivial λc2 hc2 qc2=>Tr.C trivial λc3 hc3 qc3=>Tr.Gb ?_ λg1=>Tr.C trivial λc4 hc4 qc4=>Tr.Gb ?_ λg2=>Tr.Gb ?_ λg3=>Tr.R ?_
  all_goals ((first|(simp only[List.length_append,List.length_cons,List.length_nil,an,sS]at*;omega)|grind))⟩
noncomputable def lh:=bf st Tryz.func126 [TP,kp] (ks:=[.st .fram]) fR (λv=>[(false,[.c (.str v)])])
noncomputable def pi:FT (ac×Unit) (Fram×Bool) (λx=>sS x.1) (λx v=>ll v.1):=⟨λ(x0,_)=>
  .ite (decide ((x0.length:Int)<14)) (.ret ((⟨0,0,0,[]⟩:Fram),false))<|
  .cal ex.c (x0,0,6,()) λc1=>
  .cal ex.c (x0,6,6,()) λc2=>
  .cal ex.c (x0,12,2,()) λc3=>
  .grd ((decide (14≤(x0.length:Int)))&&(decide ((x0.length:Int)≤(x0.length:Int))))<|
  .cal d6.c ((⟨c1,c2,c3,((x0.take ((x0.length:Int).toNat)).drop 14)⟩:Fram),()) λc4=>
  .ite (!c4) (.ret ((⟨0,0,0,[]⟩:Fram),false))<|
  .ret ((⟨c1,c2,c3,((x0.take ((x0.length:Int).toNat)).drop 14)⟩:Fram),true),
 λ(x0,_) hp=>by
  refine Tr.I (λ_=>Tr.R ?_) λ_=>Tr.C ?_ λ_ _ _=>Tr.C ?_ λ_ _ _=>Tr.C ?_ λ_ _ _=>Tr.G2 ?_ λ_=>Tr.C trivial λ_ _ _=>Tr.I (λ_=>Tr.R ?_) λ_=>Tr.R ?_
  all_goals (grind)⟩
noncomputable def MQ:=bf st Tryz.func159 [yf,F9] (ks:=[.sc .str]) pi (λv=>[(true,VM v.1),(false,[.c (.bool v.2)])])
noncomputable def Q1:=[r9,bU,cz,kp]
noncomputable def Rr:Fx:=⟨163,Tryz.f163,[(3000001,rA 0 26)],0⟩
noncomputable def ux:FT (Tupl×Int×Int×Int×Unit) (ac) (λ_=>True) (λx v=>sS v∧v.length≤40):=⟨λ(x0,x1,x2,x3,_)=>
  .bnd (β:=Bool×Unit) (.cal oc.c (x0,()) λc1=>
   .ite (!c1) (.ret (true,()))<|
   .cal aE.c (x1,32,()) λc2=>
   .ite (!c2) (.ret (true,()))<|
   .cal aE.c (x2,32,()) λc3=>
   .ite (!c3) (.ret (true,()))<|
   .val (cr.f (x3,0,7,())) λc4=>
   .ret ((!c4),())) λ(u5a0,_)=>
  .ite u5a0 (.ret [])<|
  .cal aQ.c (x0.ip,4,()) λc6=>
  .cal aQ.c (x0.port,2,()) λc7=>
  .grd (Nat.ble (c6.length+c7.length) an)<|
  .cal aQ.c (x0.my,2,()) λc8=>
  .grd (Nat.ble ((c6++c7).length+c8.length) an)<|
  .cal aQ.c (x1,4,()) λc9=>
  .grd (Nat.ble (((c6++c7)++c8).length+c9.length) an)<|
  .cal aQ.c (x2,4,()) λc10=>
  .grd (Nat.ble ((((c6++c7)++c8)++c9).length+c10.length) an)<|
  .cal aQ.c (x3,1,()) λc11=>
  .grd (Nat.ble (((((c6++c7)++c8)++c9)++c10).length+c11.length) an)<|
  .ret (((((c6++c7)++c8)++c9)++c10)++c11),
 λ(x0,x1,x2,x3,_) hp=>by
  refine Tr.B (Q':=λ_=>True) (Tr.C trivial λc1 hc1 qc1=>Tr.I (λb0=>Tr.R trivial) λb0=>Tr.C trivial λc2 hc2 qc2=>Tr.I (λb1=>Tr.R trivial) λb1=>Tr.C trivial λc3 hc3 qc3=>Tr.F (by kernel_rfl) trivial) (λ(u5a0,_) hj5 qj5=>Tr.I (λb0=>Tr.R ?_) λb0=>Tr.C trivial λc6 hc6 qc6=>Tr.C trivial λc7 hc7 qc7=>Tr.Gb ?_ λg1=>Tr.C trivial λc8 hc8 qc8=>Tr.Gb ?_ λg2=>Tr.C trivial λc9 hc9 qc9=>Tr.Gb ?_ λg3=>Tr.C trivial λc10 hc10 qc10=>Tr.Gb ?_ λg4=>Tr.C trivial λc11 hc11 qc11=>Tr.Gb ?_ λg5=>Tr.R ?_)
  all_goals ((try simp only[Tr.nice,bo]at*)<;>(first|(simp only[List.length_append,List.length_cons,List.length_nil,an,sS]at*;omega)|grind))⟩
noncomputable def Qz:=aV st Rr Q1 [] (ks:=[.st .tupl,.sc (.int .i64),.sc (.int .i64),.sc (.int .i64)]) ux (λv=>[(false,[.c (.str v)])]) Tryz.func163 trivial
noncomputable def xq:=[Hf,ia]
def jT:Sh:=⟨[zp 2 0,zp 3 1,(11,false,[.sl .arg .conn]),zi 12,zi 13],[.box [.st .tabl [.nil .conn,.nil .tupl]],.box [.st .tabl [.own 2,.own 3]],.of false true,.of false true]⟩
noncomputable def x6:Fx:=⟨177,Tryz.f177,[(0,la ⟨[2,3,11,12,13],[.box 3 0 .conn],false,0⟩ ⟨[2,3],[],false,0⟩)],0⟩
noncomputable def sM (v0:List Conn)(v2:Int)(a:Tabl×Tabl):Tr (Stp (Tabl×Tabl) (Empty)):=
 .grd ((decide (0≤v2))&&(decide (v2<(v0.length:Int))))<|
 .cal d7.c ((v0.getD v2.toNat (Ty.zero .conn)),()) λc3=>
 .grd (Nat.ble ((2*(a.2.conns.length+1)+1024)*208) aF)<|
 .ret (.next ((⟨[],[]⟩:Tabl),(⟨(a.2.conns++[c3]),a.2.waiting⟩:Tabl)))
noncomputable def dS:jT.V→LC jT (Tabl×Tabl) (Empty) (Int×(Tabl×Tabl)):=λ(v0,v1,v2,v3,v4,_)=>⟨v2,(v3,v4),λv2 a=>(v0,v1,v2,a.1,a.2,()),λv2 _=>(decide (v2<v1)),sM v0,up,1,(Int.toNat (v1-v2)),(λp=>Empty.elim p),λi a=>(i,a),λ_ k x=>k (.exit 0) (Sh.enc ⟨[zp 2 0,zp 3 1],[.box [.st .tabl [.nil .conn,.nil .tupl]],.box [.st .tabl [.own 2,.own 3]],.of false true,.of false true]⟩ ((⟨[],[]⟩:Tabl),x.2.2,()))⟩
theorem Bj:LS Tryz.prog x6 [0] (bR 0 jT dS):=aW st (aj xq) _ dS [] trivial
theorem Bc {v0:List Conn}{v1 v2:Int}{v3 v4:Tabl}(h0:0≤v2)(h1:v1≤4611686018427387904)(h2:sL ai v0)(h3:v1≤4294967296)(h4:sS v4.waiting)(h5:v1≤(v0.length:Int))(h6:bu v3∧(v4.conns.length:Int)=v2∧eb ai v4.conns∧v4.waiting.length=v4.waiting.length):(dS (v0,v1,v2,v3,v4,())).U v1 (λv2 a=>bu a.1∧(a.2.conns.length:Int)=v2∧eb ai a.2.conns∧a.2.waiting.length=v4.waiting.length) (λ_=>True):=
 LC.okU (i:=v2) (a:=(v3,v4)) (λ_ _=>rfl) (λ_=>rfl) rfl h0 h1 h6 λv2 (v3,v4) hj hk hv=>by
  refine Tr.G2 ?_ λ_=>Tr.C ?_ λ_ _ _=>Tr.Gb ?_ λ_=>Tr.Rn ?_
  all_goals (grind)
noncomputable def jq:FT (Tabl×Unit) (Tabl) (λx=>bu x.1) (λx v=>bu v∧v.conns.length=x.1.conns.length∧v.waiting.length=x.1.waiting.length):=⟨λ(x0,_)=>
  .cal oI.c (x0.waiting,()) λc1=>
  .lp (dS (x0.conns,(x0.conns.length:Int),0,(⟨[],[]⟩:Tabl),(⟨[],c1⟩:Tabl),())).lp λ(_,_,a4_1)=>
  .ret a4_1,
 λ(x0,_) hp=>by
  refine Tr.C ?_ λ_ _ _=>Tr.L (Bc ?_ ?_ ?_ ?_ ?_ ?_ ?_) (λ(a4_0,a4_1) _=>Tr.R ?_) (λp=>Empty.elim p)
  all_goals ((try simp only[dS,LC.lp,LC.ct,Ct.lp]at*)<;>grind)⟩
noncomputable def rl:=aV st x6 xq [(bR 0 jT dS)] (ks:=[.st .tabl]) jq (λv=>[(true,uy (.o true) (.o true) v)]) Tryz.func177 ⟨Bj,trivial⟩
noncomputable def gL:FT (Segm×Unit) (List Segm) (λx=>ao x.1) (λx v=>sL ao v):=⟨λ(x0,_)=>
  .cal ku.c (x0,()) λc1=>
  .ite c1.2 (.ret [c1.1])<|
  .ret [],
 λ(x0,_) hp=>by
  refine Tr.C ?_ λ_ _ _=>Tr.I (λ_=>Tr.R ?_) λ_=>Tr.R ?_
  all_goals (grind)⟩
noncomputable def Jh:=bf st Tryz.func180 [QV] (ks:=[.st .segm]) gL (λv=>[(false,[sc (.o true) .segm v])])
noncomputable def lT:FT (Door×Segm×Unit) (Door×List Segm×Int) (λx=>aD x.1∧ao x.2.1) (λx v=>aD v.1∧sL ao v.2.1):=⟨λ(x0,x1,_)=>
  .cal vj.c (x1,()) λc1=>
  .ite (!c1.2) (.cal fj.c (x0,()) λc2=>
   .ret (c2,[],0))<|
  .cal fj.c (x0,()) λc3=>
  .ret (c3,[c1.1],0),
 λ(x0,x1,_) hp=>by
  refine Tr.C ?_ λ_ _ _=>Tr.I (λ_=>Tr.C ?_ λ_ _ _=>Tr.R ?_) λ_=>Tr.C ?_ λ_ _ _=>Tr.R ?_
  all_goals (grind)⟩
noncomputable def Bn:=bf st Tryz.func193 [Q9,kr] (ks:=[.st .door,.st .segm]) lT (λv=>[(true,oz (.o true) (.o true) (.o true) (.o true) (.o true) v.1),(false,[sc (.o true) .segm v.2.1]),(false,[.c (.int .i64 v.2.2)])])
noncomputable def Vo:=[r9,kJ,qI,le,cz,VR]
def Mb:An:=⟨⟨[],[],false,0⟩,⟨[1,2,3],[],false,0⟩,⟨[],[]⟩,[(.normal,⟨[zp 1 0,zb 2,zi 3],[.box [.st .conn [.sl .arg]]]⟩)]⟩
noncomputable def Wk:Fx:=⟨201,Tryz.f201,[(1000055,Mb),(3000001,rA 0 52),(3000010,rA 0 4),(3000011,rA 0 5)],0⟩
noncomputable def jC:FT (Conn×Unit) (Bool) (λx=>ai x.1) (λx v=>(v=true→SO x.1.s∧RO x.1.r)):=⟨λ(x0,_)=>
  .bnd (β:=Bool×Unit) (.cal oc.c (x0.tuple,()) λc1=>
   .ite (!c1) (.ret (true,()))<|
   .cal fm.c (x0.s,()) λc2=>
   .ite (!c2) (.ret (true,()))<|
   .cal kB.c (x0.r,()) λc3=>
   .ite (!c3) (.ret (true,()))<|
   .cal eT.c (x0.opts,()) λc4=>
   .ite (!c4) (.ret (true,()))<|
   .val (cr.f (x0.state,1,8,())) λc5=>
   .ite (!c5) (.ret (true,()))<|
   .val (cr.f (x0.window,0,x0.most,())) λc6=>
   .ite (!c6) (.ret (true,()))<|
   .ite (decide (1073725440<x0.most)) (.ret (true,()))<|
   .val (cr.f (x0.tries,0,3,())) λc7=>
   .ret ((!c7),())) λ(u8a0,_)=>
  .ite u8a0 (.ret false)<|
  .bnd (β:=Bool×Int×Conn×Unit) (.ite (x0.state==7) (.ret (false,4,x0,()))<|
   .ret (false,3,x0,())) λ(_,u9a1,u9a2,_)=>
  .val (cr.f (u9a2.timer,0,u9a1,())) λc10=>
  .ite (!c10) (.ret false)<|
  .ite (u9a2.state==8) (.ret true)<|
  .bnd (β:=Bool×Unit) (.ite (u9a2.state==3) (.ret (true,()))<|
   .ret ((u9a2.state==7),())) λ(u11a0,_)=>
  .bnd (β:=Bool×Unit) (.ite (u9a2.state==4) (.ret (true,()))<|
   .ret ((decide (5≤u9a2.state)),())) λ(u12a0,_)=>
  .val (LI.f (u9a2.state,())) λc13=>
  .ite (u9a2.s.fin==c13) (.ite (u9a2.s.done==u11a0) (.ret (u9a2.r.done==u12a0))<|
   .ret false)<|
  .ret false,
 λ(x0,_) hp=>by
  refine Tr.B (Q':=λw=>(w.1=false→SO x0.s∧RO x0.r)) (Tr.C trivial λ_ _ _=>Tr.I (λ_=>Tr.R ?_) λ_=>Tr.C trivial λ_ _ _=>Tr.I (λ_=>Tr.R ?_) λ_=>Tr.C ?_ λ_ _ _=>Tr.I (λ_=>Tr.R ?_) λ_=>Tr.C trivial λ_ _ _=>Tr.I (λ_=>Tr.R ?_) λ_=>Tr.V λ_ _=>Tr.I (λ_=>Tr.R ?_) λ_=>Tr.V λ_ _=>Tr.I (λ_=>Tr.R ?_) λ_=>Tr.I (λ_=>Tr.R ?_) λ_=>Tr.V λ_ _=>Tr.R ?_) (λ(u8a0,_) _ _=>Tr.I (λ_=>Tr.R ?_) λ_=>Tr.B (Q':=λw=>ai w.2.2.1) (Tr.I (λ_=>Tr.R ?_) λ_=>Tr.R ?_) (λ(u9a0,u9a1,u9a2,_) _ _=>Tr.V λ_ _=>Tr.I (λ_=>Tr.R ?_) λ_=>Tr.I (λ_=>Tr.R ?_) λ_=>Tr.B (Q':=λ_=>True) (Tr.F (by kernel_rfl) trivial) (λ(u11a0,_) _ _=>Tr.B (Q':=λ_=>True) (Tr.F (by kernel_rfl) trivial) (λ(u12a0,_) _ _=>Tr.V λ_ _=>Tr.I (λ_=>Tr.I (λ_=>Tr.R ?_) λ_=>Tr.R ?_) λ_=>Tr.R ?_))))
  all_goals ((try simp only[Tr.nice,bo]at*)<;>grind)⟩
noncomputable def jb:=aV st Wk Vo [] (ks:=[.st .conn]) jC (λv=>[(false,[.c (.bool v)])]) Tryz.func201 trivial
noncomputable def VK:=[pu,qg,xe,k8,bF]
def JU:An:=⟨⟨[],[],false,0⟩,⟨[1,2,3],[],false,0⟩,⟨[],[]⟩,[(.normal,⟨[zp 1 0,zb 2,zi 3],[.box [.st .conn [.sl .arg]]]⟩)]⟩
noncomputable def Wv:Fx:=⟨205,Tryz.f205,[(1000037,JU),(3000001,rA 0 34),(3000006,rA 0 62)],0⟩
noncomputable def bV:FT (Conn×Unit) (Bool) (λx=>ai x.1) (λx v=>(v=true→SO x.1.s∧RO x.1.r)):=⟨λ(x0,_)=>
  .bnd (β:=Bool×Unit) (.cal aJ.c (x0.tuple,()) λc1=>
   .ite (!c1) (.ret (true,()))<|
   .cal bE.c (x0.s,()) λc2=>
   .ite (!c2) (.ret (true,()))<|
   .cal bP.c (x0.r,()) λc3=>
   .ite (!c3) (.ret (true,()))<|
   .cal az.c (x0.opts,()) λc4=>
   .ite (!c4) (.ret (true,()))<|
   .val (bq.f (x0.state,1,8,())) λc5=>
   .ret ((!c5),())) λ(u6a0,_)=>
  .ite u6a0 (.ret false)<|
  .bnd (β:=Bool×Int×Conn×Unit) (.ite (x0.state==7) (.ret (false,4,x0,()))<|
   .ret (false,3,x0,())) λ(_,u7a1,u7a2,_)=>
  .bnd (β:=Bool×Unit) (.val (bq.f (u7a2.most,0,1073725440,())) λc8=>
   .ite (!c8) (.ret (true,()))<|
   .val (bq.f (u7a2.window,0,u7a2.most,())) λc9=>
   .ite (!c9) (.ret (true,()))<|
   .val (bq.f (u7a2.timer,0,u7a1,())) λc10=>
   .ite (!c10) (.ret (true,()))<|
   .val (bq.f (u7a2.tries,0,3,())) λc11=>
   .ret ((!c11),())) λ(u12a0,_)=>
  .ite u12a0 (.ret false)<|
  .ite (u7a2.state==1) (.ite (!u7a2.s.fin) (.ite (!u7a2.s.done) (.ret (!u7a2.r.done))<|
    .ret false)<|
   .ret false)<|
  .ite (u7a2.state==2) (.ite u7a2.s.fin (.ite (!u7a2.s.done) (.ret (!u7a2.r.done))<|
    .ret false)<|
   .ret false)<|
  .ite (u7a2.state==3) (.ite u7a2.s.fin (.ite u7a2.s.done (.ret (!u7a2.r.done))<|
    .ret false)<|
   .ret false)<|
  .ite (u7a2.state==4) (.ite (!u7a2.s.fin) (.ite (!u7a2.s.done) (.ret u7a2.r.done)<|
    .ret false)<|
   .ret false)<|
  .ite (u7a2.state==5) (.ite (u7a2.state==5) (.ite u7a2.s.fin (.ite (!u7a2.s.done) (.ret u7a2.r.done)<|
     .ret false)<|
    .ret false)<|
   .ite (u7a2.state==7) (.ite u7a2.s.fin (.ite u7a2.s.done (.ret u7a2.r.done)<|
     .ret false)<|
    .ret false)<|
   .ret true)<|
  .ite (u7a2.state==6) (.ite u7a2.s.fin (.ite (!u7a2.s.done) (.ret u7a2.r.done)<|
    .ret false)<|
   .ret false)<|
  .ite (u7a2.state==7) (.ite u7a2.s.fin (.ite u7a2.s.done (.ret u7a2.r.done)<|
    .ret false)<|
   .ret false)<|
  .ret true,
 λ(x0,_) hp=>by
  refine Tr.B (Q':=λw=>(w.1=false→SO x0.s∧RO x0.r∧eb (pw (Yf x0.r)) x0.r.held)) (Tr.C trivial λ_ _ _=>Tr.I (λ_=>Tr.R ?_) λ_=>Tr.C trivial λ_ _ _=>Tr.I (λ_=>Tr.R ?_) λ_=>Tr.C ?_ λ_ _ _=>Tr.I (λ_=>Tr.R ?_) λ_=>Tr.C trivial λ_ _ _=>Tr.I (λ_=>Tr.R ?_) λ_=>Tr.V λ_ _=>Tr.R ?_) (λ(u6a0,_) _ _=>Tr.I (λ_=>Tr.R ?_) λ_=>Tr.B (Q':=λw=>ai w.2.2.1) (Tr.I (λ_=>Tr.R ?_) λ_=>Tr.R ?_) (λ(u7a0,u7a1,u7a2,_) _ _=>Tr.B (Q':=λ_=>True) (Tr.F (by kernel_rfl) trivial) (λ(u12a0,_) _ _=>Tr.I (λ_=>Tr.R ?_) λ_=>Tr.I (λ_=>Tr.I (λ_=>Tr.I (λ_=>Tr.R ?_) λ_=>Tr.R ?_) λ_=>Tr.R ?_) λ_=>Tr.I (λ_=>Tr.I (λ_=>Tr.I (λ_=>Tr.R ?_) λ_=>Tr.R ?_) λ_=>Tr.R ?_) λ_=>Tr.I (λ_=>Tr.I (λ_=>Tr.I (λ_=>Tr.R ?_) λ_=>Tr.R ?_) λ_=>Tr.R ?_) λ_=>Tr.I (λ_=>Tr.I (λ_=>Tr.I (λ_=>Tr.R ?_) λ_=>Tr.R ?_) λ_=>Tr.R ?_) λ_=>Tr.I (λ_=>Tr.I (λ_=>Tr.I (λ_=>Tr.I (λ_=>Tr.R ?_) λ_=>Tr.R ?_) λ_=>Tr.R ?_) λ_=>Tr.I (λ_=>Tr.I (λ_=>Tr.I (λ_=>Tr.R ?_) λ_=>Tr.R ?_) λ_=>Tr.R ?_) λ_=>Tr.R ?_) λ_=>Tr.I (λ_=>Tr.I (λ_=>Tr.I (λ_=>Tr.R ?_) λ_=>Tr.R ?_) λ_=>Tr.R ?_) λ_=>Tr.I (λ_=>Tr.I (λ_=>Tr.I (λ_=>Tr.R ?_) λ_=>Tr.R ?_) λ_=>Tr.R ?_) λ_=>Tr.R ?_)))
  all_goals ((try simp only[Tr.nice,bo]at*)<;>grind)⟩
noncomputable def uO:=aV st Wv VK [] (ks:=[.st .conn]) bV (λv=>[(false,[.c (.bool v)])]) Tryz.func205 trivial
noncomputable def lf:FT (Segm×Int×Int×Unit) (ac) (λx=>ao x.1) (λx v=>sS v∧v.length≤1500):=⟨λ(x0,x1,x2,_)=>
  .cal iP.c (x0,()) λc1=>
  .ite (!c1) (.ret [])<|
  .cal oJ.c (x0.opts,()) λc2=>
  .val (IntKind.wrap .i64 ((IntKind.wrap .i64 (20+(c2.length:Int)))+(x0.body.length:Int))) λe3=>
  .cal mR.c (x1,x2,e3,()) λc4=>
  .ite (c4==[]) (.ret [])<|
  .cal aQ.c (x0.from_,2,()) λc5=>
  .cal aQ.c (x0.to,2,()) λc6=>
  .grd (Nat.ble (c5.length+c6.length) an)<|
  .cal aQ.c (x0.seq,4,()) λc7=>
  .grd (Nat.ble ((c5++c6).length+c7.length) an)<|
  .cal aQ.c (x0.ack,4,()) λc8=>
  .grd (Nat.ble (((c5++c6)++c7).length+c8.length) an)<|
  .val (IntKind.wrap .i64 ((IntKind.wrap .i64 (20+(c2.length:Int))).tdiv 4)) λe9=>
  .cal aQ.c ((IntKind.wrap .i64 (e9*16)),1,()) λc10=>
  .grd (Nat.ble ((((c5++c6)++c7)++c8).length+c10.length) an)<|
  .cal aQ.c (x0.flags,1,()) λc11=>
  .grd (Nat.ble (((((c5++c6)++c7)++c8)++c10).length+c11.length) an)<|
  .cal aQ.c (x0.window,2,()) λc12=>
  .grd (Nat.ble ((((((c5++c6)++c7)++c8)++c10)++c11).length+c12.length) an)<|
  .grd (Nat.ble (2+c2.length) an)<|
  .grd (Nat.ble (([0,0]++c2).length+x0.body.length) an)<|
  .grd (Nat.ble (c4.length+((((((c5++c6)++c7)++c8)++c10)++c11)++c12).length) an)<|
  .grd (Nat.ble ((c4++((((((c5++c6)++c7)++c8)++c10)++c11)++c12)).length+2) an)<|
  .val ((c4++((((((c5++c6)++c7)++c8)++c10)++c11)++c12))++[0,0]) λe13=>
  .grd (Nat.ble (e13.length+(([0,0]++c2)++x0.body).length) an)<|
  .cal sC.c ((e13++(([0,0]++c2)++x0.body)),()) λc14=>
  .cal aQ.c (c14,2,()) λc15=>
  .grd (Nat.ble (((((((c5++c6)++c7)++c8)++c10)++c11)++c12).length+c15.length) an)<|
  .grd (Nat.ble ((((((((c5++c6)++c7)++c8)++c10)++c11)++c12)++c15).length+(([0,0]++c2)++x0.body).length) an)<|
  .val ((((((((c5++c6)++c7)++c8)++c10)++c11)++c12)++c15)++(([0,0]++c2)++x0.body)) λe16=>
  .ret e16,
 λ(x0,x1,x2,_) hp=>by
  refine Tr.C trivial λc1 hc1 qc1=>Tr.I (λb0=>Tr.R ?_) λb0=>Tr.C trivial λc2 hc2 qc2=>Tr.V λe3 he3=>Tr.C trivial λc4 hc4 qc4=>Tr.I (λb1=>Tr.R ?_) λb1=>Tr.C trivial λc5 hc5 qc5=>Tr.C trivial λc6 hc6 qc6=>Tr.Gb ?_ λg2=>Tr.C trivial λc7 hc7 qc7=>Tr.Gb ?_ λg3=>Tr.C trivial λc8 hc8 qc8=>Tr.Gb ?_ λg4=>Tr.V λe9 he9=>Tr.C trivial λc10 hc10 qc10=>Tr.Gb ?_ λg5=>Tr.C trivial λc11 hc11 qc11=>Tr.Gb ?_ λg6=>Tr.C trivial λc12 hc12 qc12=>Tr.Gb ?_ λg7=>Tr.Gb ?_ λg8=>Tr.Gb ?_ λg9=>Tr.Gb ?_ λg10=>Tr.Gb ?_ λg11=>Tr.V λe13 he13=>Tr.Gb ?_ λg12=>Tr.C ?_ λc14 hc14 qc14=>Tr.C trivial λc15 hc15 qc15=>Tr.Gb ?_ λg13=>Tr.Gb ?_ λg14=>Tr.V λe16 he16=>Tr.R ?_
  all_goals ((first|(simp only[List.length_append,List.length_cons,List.length_nil,an,sS]at*;omega)|grind))⟩
noncomputable def wh:=bf st Tryz.func214 [k7,GL,xY,kp,yL] (ks:=[.st .segm,.sc (.int .i64),.sc (.int .i64)]) lf (λv=>[(false,[.c (.str v)])])

end
end Go.Proofs.YtgbgljgnblkffaaGreat
