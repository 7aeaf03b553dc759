/-
  Contracts of functions and plain laws (printed by a program): each theorem says what a function of the program returns; conditions are its hypotheses.
-/
import Derived.Test.YteiiknfadjnmgaaGreatBase
set_option linter.all false
set_option maxRecDepth 4000
namespace Go.Proofs.YteiiknfadjnmgaaGreat
open Go Go.RowKit
noncomputable section
@[reducible] def zp (t i:Nat):Nat×Bool×List Pt:=(t,false,[.ptr i 0])
@[reducible] def zi (t:Nat):Nat×Bool×List Pt:=(t,false,[.int .i64])
@[reducible] def zb (t:Nat):Nat×Bool×List Pt:=(t,false,[.bool])
@[reducible] def zu (t:Nat):Nat×Bool×List Pt:=(t,false,[.undef])
@[reducible] def zs (t:Nat):Nat×Bool×List Pt:=(t,false,[.str])
@[reducible] def zl (n:Nat)(t:Ty):Nat×Bool×List Pt:=(n,false,[.sl .arg t])
@[reducible] def zo (n k:Nat):Nat×Bool×List Pt:=(n,false,[.own k])
@[reducible] def zx (t:Ty):Osh:=.box [.st t []]
@[reducible] def zg (t:Ty):Osh:=.box [.st t [.sl .arg]]
@[reducible] def zk (t:Ty)(k:Nat):Osh:=.box [.st t [.own k]]
@[reducible] def zf :Osh:=.of false true
@[reducible] def za (t:Ty):Osh:=.arr t false true
noncomputable def F4:FF (List Int×Unit) (Bool):=⟨λ(x0,_)=>
  .ret (decide (1048576<(x0.length:Int)))⟩
@[grind=] theorem X6 (x0:List Int):F4.f (x0,())=decide (1048576<(x0.length:Int)):=by
 simp only[F4,FF.f,Tr.nice]
noncomputable def VG:=lS st Tryz.func10 [] (ks:=[.sc (.sl .u8)]) F4 rB
def tI:Sh:=⟨[zp 2 0,zp 3 1,zi 5],[.box [.st .tabl [.sl .arg,.sl .arg]],zx .tupl]⟩
noncomputable def sZ (v1:Tabl)(v2:Tupl)(v0:Int)(a:Unit):Tr (Stp (Unit) ((Int))):=
 .grd (dr v1.conns v0)<|
 .ite (((v1.conns.getD v0.toNat (Ty.zero .conn)).tuple.ip==v2.ip)&&(((v1.conns.getD v0.toNat (Ty.zero .conn)).tuple.port==v2.port)&&(((v1.conns.getD v0.toNat (Ty.zero .conn)).tuple.my==v2.my)&&true))) (.ret (.out v0))<|
 .ret (.next ())
noncomputable def jX:tI.V→tM tI Unit (Int):=λ(v0,v1,v2,_)=>⟨v0,(),λv0 _=>(v0,v1,v2,()),λv0 _=>(decide (v0<(v1.conns.length:Int))),sZ v1 v2,up,1,(Int.toNat ((v1.conns.length:Int)-v0)),.inl,eR,oB .ret ⟨[zi 4],[]⟩ (λp=>(p,())) (.exit 0) ⟨[zu 4],[]⟩ (λ_=>())⟩
theorem C5 {v0:Int}{v1:Tabl}{v2:Tupl}(h0:0≤v0)(h1:(v1.conns.length:Int)≤4611686018427387904):(jX (v0,v1,v2,())).U (v1.conns.length:Int) (λ_ _=>True) (λp=>v0≤p∧p<(v1.conns.length:Int)):=
 kN h0 h1 trivial
noncomputable def cO:FT (Tabl×Tupl×Unit) (Int) (λx=>wS x.1.conns) (λx v=> -1≤v∧v<x.1.conns.length):= .mk (λ(x0,x1,_)=>
  .lp (jX (0,x0,x1,())).lp λw1=> .sum w1 (λp1a0=>
  .ret p1a0)<|
  λ_=>
  .ret (-1)) (pQ @C5)
noncomputable def eG:=fD st Tryz.func23 [(0,lb [2,3,5] [4])] [] 0 jX (ks:=[.st .tabl,.st .tupl]) cO rI
def tE:Sh:=⟨[zl 0 .half,zp 3 0,zi 5],[zx .tupl]⟩
noncomputable def tk (v0:List Half)(v2:Tupl)(v1:Int)(a:Unit):Tr (Stp (Unit) ((Int))):=
 .grd (dr v0 v1)<|
 .ite (((v0.getD v1.toNat (Ty.zero .half)).tuple.ip==v2.ip)&&(((v0.getD v1.toNat (Ty.zero .half)).tuple.port==v2.port)&&(((v0.getD v1.toNat (Ty.zero .half)).tuple.my==v2.my)&&true))) (.ret (.out v1))<|
 .ret (.next ())
noncomputable def j5:tE.V→tM tE Unit (Int):=λ(v0,v1,v2,_)=>⟨v1,(),λv1 _=>(v0,v1,v2,()),λv1 _=>(decide (v1<(v0.length:Int))),tk v0 v2,up,1,(Int.toNat ((v0.length:Int)-v1)),.inl,eR,oB .ret ⟨[zi 4],[]⟩ (λp=>(p,())) (.exit 0) ⟨[zu 4],[]⟩ (λ_=>())⟩
theorem Cv {v0:List Half}{v1:Int}{v2:Tupl}(h0:0≤v1)(h1:(v0.length:Int)≤4611686018427387904):(j5 (v0,v1,v2,())).U (v0.length:Int) (λ_ _=>True) (λp=>v1≤p∧p<(v0.length:Int)):=
 kN h0 h1 trivial
noncomputable def fN:FT (List Half×Tupl×Unit) (Int) (λx=>wS x.1) (λx v=> -1≤v∧v<x.1.length):= .mk (λ(x0,x1,_)=>
  .lp (j5 (x0,0,x1,())).lp λw1=> .sum w1 (λp1a0=>
  .ret p1a0)<|
  λ_=>
  .ret (-1)) (pQ @Cv)
noncomputable def ji:=fD st Tryz.func49 [(0,lb [0,3,5] [4])] [] 0 j5 (ks:=[.sc (.sl .half),.st .tupl]) fN rI
def x5:Sh:=⟨[zl 0 .u8,zi 3,zi 4],[]⟩
noncomputable def Jv (v0:List Int)(v2:Int)(a:Int):Tr (Stp (Int) ((Int))):=
 .ite (decide (v2<4000)) (.grd (dr v0 v2)<|
  .val (IntKind.wrap .i64 ((IntKind.wrap .i64 (a*131))+(IntKind.wrap .i64 (v0.getD v2.toNat 0)))) λe1=>
  .ret (.next (bits .and .i64 (IntKind.wrap .i64 (e1+7)) 1073741823)))<|
 .ret (.out a)
noncomputable def sP:x5.V→tM x5 Int (Int):=λ(v0,v1,v2,_)=>⟨v2,v1,λv2 a=>(v0,a,v2,()),λv2 _=>(decide (v2<(v0.length:Int))),Jv v0,up,1,(Int.toNat ((v0.length:Int)-v2)),.inl,eR,oB (.exit 0) ⟨[zl 0 .u8,zu 2,zi 3],[]⟩ (λp=>(v0,p,())) (.exit 0) ⟨[zl 0 .u8,zu 2,zi 3],[]⟩ (λx=>(v0,x.2,()))⟩
theorem KA {v0:List Int}{v1 v2:Int}(h0:0≤v2)(h1:(v0.length:Int)≤4611686018427387904):(sP (v0,v1,v2,())).U (v0.length:Int) (λ_ _=>True) (λ_=>True):=
 kN (a:=v1) h0 h1 trivial
noncomputable def Rj:FT (List Int×Unit) (Curs) (λx=>x.1.length≤1048576) (λx v=>ae v):= .mk (λ(x0,_)=>
  .lp (sP (x0,(IntKind.wrap .i64 (28655+(x0.length:Int))),0,())).lp λw2=> .sum w2 (λp2a0=>
  .ret (⟨x0,0,p2a0⟩:Curs))<|
  λ(_,a2_0)=>
  .ret (⟨x0,0,a2_0⟩:Curs)) (pQ @KA)
noncomputable def RM:=fD st Tryz.func50 [(0,lb [0,3,4] [0,2,3])] [] 0 sP (ks:=[.sc (.sl .u8)]) Rj (λv=>[rb .curs v])
noncomputable def bt:FF (Int×Int×Int×Unit) (Bool):=⟨λ(x0,x1,x2,_)=>
  .ite (decide (x1≤x0)) (.ret (decide (x0≤x2)))<|
  .ret false⟩
@[grind=] theorem ax (x0 x1 x2:Int):bt.f (x0,x1,x2,())=(decide (x1≤x0)&&decide (x0≤x2)):=by
 simp only[bt,FF.f,Tr.nice]
 cases decide (x1≤x0)<;>rfl
noncomputable def bO:=lS st Tryz.func74 [] (ks:=[.sc (.int .i64),.sc (.int .i64),.sc (.int .i64)]) bt rB
noncomputable def bN:FF (Int×Int×Int×Unit) (Bool):=⟨λ(x0,x1,x2,_)=>
  .ite (decide (x1≤x0)) (.ret (decide (x0≤x2)))<|
  .ret false⟩
@[grind=] theorem bE (x0 x1 x2:Int):bN.f (x0,x1,x2,())=(decide (x1≤x0)&&decide (x0≤x2)):=by
 simp only[bN,FF.f,Tr.nice]
 cases decide (x1≤x0)<;>rfl
noncomputable def b8:=lS st Tryz.func78 [] (ks:=[.sc (.int .i64),.sc (.int .i64),.sc (.int .i64)]) bN rB
def ut:Sh:=⟨[zp 2 0,zp 3 1,zi 5],[zg .mac,zg .mac]⟩
noncomputable def ub (v1 v2:Mac)(v0:Int)(a:Unit):Tr (Stp (Unit) ((Unit))):=
 .grd (dr v1.rows v0)<|
 .grd (dr v2.rows v0)<|
 .ite (!(((v1.rows.getD v0.toNat (Ty.zero .macRow)).input==(v2.rows.getD v0.toNat (Ty.zero .macRow)).input)&&(((v1.rows.getD v0.toNat (Ty.zero .macRow)).value==(v2.rows.getD v0.toNat (Ty.zero .macRow)).value)&&true))) (.ret (.out ()))<|
 .ret (.next ())
noncomputable def kO:ut.V→tM ut Unit (Unit):=λ(v0,v1,v2,_)=>⟨v0,(),λv0 _=>(v0,v1,v2,()),λv0 _=>(decide (v0<(v1.rows.length:Int))),ub v1 v2,up,1,(Int.toNat ((v1.rows.length:Int)-v0)),.inl,eR,oB .ret ⟨[zb 4],[]⟩ (λ_=>(false,())) (.exit 0) ⟨[zu 4],[]⟩ (λ_=>())⟩
theorem DR {v0:Int}{v1 v2:Mac}(h0:0≤v0)(h1:(v1.rows.length:Int)≤4611686018427387904)(h2:(v1.rows.length:Int)≤(v2.rows.length:Int)):(kO (v0,v1,v2,())).U (v1.rows.length:Int) (λ_ _=>True) (λ_=>True):=
 kN h0 h1 trivial
noncomputable def nZ:FT (Mac×Mac×Unit) (Bool) (λx=>dF x.1∧dF x.2.1) (λ_ _=>True):= .mk (λ(x0,x1,_)=>
  .bnd (β:=Bool×Unit) (.ite (!(x0.use==x1.use)) (.ret (true,()))<|
   .ite (x0.k != x1.k) (.ret (true,()))<|
   .ite (x0.l != x1.l) (.ret (true,()))<|
   .ret (((x0.rows.length:Int) != (x1.rows.length:Int)),())) λ(u1a0,_)=>
  .ite u1a0 (.ret false)<|
  .lp (kO (0,x0,x1,())).lp λw2=> .sum w2 (λ_=>
  .ret false)<|
  λ_=>
  .ret true) (pQ @DR)
noncomputable def BX:=fD st Tryz.func79 [(0,lb [2,3,5] [4]),(3000001,rA 0 33)] [] 0 kO (ks:=[.st .mac,.st .mac]) nZ rB
noncomputable def Az:=[b8]
def lq:Sh:=⟨[zp 1 0,zi 3,zi 4],[zg .mac]⟩
def nv:Sh:=⟨[zp 1 0,zi 3],[zg .mac]⟩
noncomputable def Ar:Fx:=⟨80,Tryz.f80,[(2,lb [1,3,4] [1,2,3]),(0,lb [1,3] [1,2])],0⟩
noncomputable def pj (vb0:Int)(vb2:Mac)(vb1:Int)(a:Unit):Tr (Stp (Unit) ((Unit))):=
 .grd (dr vb2.rows vb1)<|
 .grd (dr vb2.rows vb0)<|
 .ite ((vb2.rows.getD vb1.toNat (Ty.zero .macRow)).input==(vb2.rows.getD vb0.toNat (Ty.zero .macRow)).input) (.ret (.out ()))<|
 .ret (.next ())
noncomputable def fa:lq.V→tM lq Unit (Unit):=λ(vb0,vb1,vb2,_)=>⟨vb1,(),λvb1 _=>(vb0,vb1,vb2,()),λvb1 _=>(decide (vb1<vb0)),pj vb0 vb2,up,1,(Int.toNat (vb0-vb1)),.inl,eR,oB .ret ⟨[zp 1 0,zb 2,zi 3],[zg .mac]⟩ (λ_=>(false,vb0,vb2,())) (.exit 2) ⟨[zp 1 0,zu 2,zi 3],[zg .mac]⟩ (λ_=>(vb0,vb2,()))⟩
theorem E4:LS Tryz.prog Ar [0,0] (jz 2 lq fa):=eB st (aV Az) _ fa [] trivial
theorem F6 {vb0 vb1:Int}{vb2:Mac}(h0:0≤vb1)(h1:vb0≤4611686018427387904)(h2:vb0≤(vb2.rows.length:Int))(h3:0≤vb0)(h4:vb0<(vb2.rows.length:Int)):(fa (vb0,vb1,vb2,())).U vb0 (λ_ _=>True) (λ_=>True):=
 kN h0 h1 trivial
noncomputable def r9 (v1:Mac)(v0:Int)(a:Unit):Tr (Stp (Unit) ((Unit))):=
 .grd (dr v1.rows v0)<|
 .val (bN.f ((v1.rows.getD v0.toNat (Ty.zero .macRow)).value,0,16777215,())) λc1=>
 .ite (!c1) (.ret (.out ()))<|
 .lp (fa (v0,0,v1,())).lp λw2=> .sum w2 (λ_=>
 .ret (.out ()))<|
 λ_=>
 .ret (.next ())
noncomputable def jm:nv.V→tM nv Unit (Unit):=λ(v0,v1,_)=>⟨v0,(),λv0 _=>(v0,v1,()),λv0 _=>(decide (v0<(v1.rows.length:Int))),r9 v1,up,1,(Int.toNat ((v1.rows.length:Int)-v0)),.inl,eR,oB .ret ⟨[zp 1 0,zb 2],[zg .mac]⟩ (λ_=>(false,v1,())) (.exit 0) ⟨[zp 1 0,zu 2],[zg .mac]⟩ (λ_=>(v1,()))⟩
theorem J8:LS Tryz.prog Ar [0] (jz 0 nv jm):=eB st (aV Az) _ jm [(jz 2 lq fa)] ⟨E4,trivial⟩
theorem J4 {v0:Int}{v1:Mac}(h0:0≤v0)(h1:(v1.rows.length:Int)≤4611686018427387904)(h2:dF v1):(jm (v0,v1,())).U (v1.rows.length:Int) (λ_ _=>True) (λ_=>True):=
 LC.okU (i:=v0) (a:=()) (λ_ _=>rfl) (λ_=>rfl) rfl h0 h1 trivial λv0 _ hj hk hv=>by
  refine Tr.G2 ?_ λ_=>Tr.V λ_ _=>Tr.I (λ_=>Tr.Ro trivial) λ_=>Tr.L (F6 ?_ ?_ ?_ ?_ ?_) (λ_ _=>Tr.Sr (Tr.Rn trivial)) (λ_ _=>Tr.Sl (Tr.Ro trivial))
  all_goals ((try simp only[fa,LC.lp,LC.ct,Ct.lp]at*)<;>grind)
noncomputable def pK:FT (Mac×Unit) (Bool) (λx=>dF x.1) (λx v=>(v=true→x.1.rows.length≤64)):= .mk (λ(x0,_)=>
  .ite (!x0.use) (.ret ((x0.rows.length:Int)==0))<|
  .lp (jm (0,x0,())).lp λw3=> .sum w3 (λ_=>
  .ret false)<|
  λ_=>
  .ite (x0.k==0) (.ite (x0.l==0) (.ret (decide ((x0.rows.length:Int)≤64)))<|
   .ret false)<|
  .ret false) (pQ @J4)
noncomputable def AN:=ck st Ar Az [(jz 0 nv jm)] (ks:=[.st .mac]) pK rB Tryz.func80 ⟨J8,trivial⟩
noncomputable def fo:FT (Limi×Unit) (Bool) (λ_=>True) (λx v=>(v=true→x.1.halves≤64∧x.1.waiting≤16∧x.1.conns≤16)):= .mk λ(x0,_)=>
  .val (bt.f (x0.halves,1,64,())) λc1=>
  .ite c1 (.val (bt.f (x0.waiting,1,16,())) λc2=>
   .ite c2 (.val (bt.f (x0.conns,1,16,())) λc3=>
    .ite c3 (.val (bt.f (x0.chal,0,1000,())) λc4=>
     .ret c4)<|
    .ret false)<|
   .ret false)<|
  .ret false
noncomputable def JO:=bm st Tryz.func86 [bO] (ks:=[.st .limi]) fo rB
noncomputable def br:FF (Segm×Int×Unit) (Bool):=⟨λ(x0,x1,_)=>
  .ret ((bits .and .i64 x0.flags x1)==x1)⟩
noncomputable def KQ:=lS st Tryz.func96 [] (ks:=[.st .segm,.sc (.int .i64)]) br rB
noncomputable def lD:FF (Int×Int×Unit) (Int):=⟨λ(x0,x1,_)=>
  .ret (bits .and .i64 (IntKind.wrap .i64 (x0+x1)) 4294967295)⟩
noncomputable def pa:=lS st Tryz.func97 [] (ks:=[.sc (.int .i64),.sc (.int .i64)]) lD rI
noncomputable def aa:FT (Int×Int×Unit) (Bool) (λ_=>True) (λx v=>(x.2.1=32→(v=true↔0≤x.1∧x.1≤4294967295))∧(x.2.1=16→(v=true↔0≤x.1∧x.1≤65535))∧(x.2.1=48→(v=true↔0≤x.1∧x.1≤281474976710655))∧(x.2.1=8→(v=true↔0≤x.1∧x.1≤255))∧(x.2.1=6→(v=true↔0≤x.1∧x.1≤63))):= .mk λ(x0,x1,_)=>
  .val (bt.f (x1,1,62,())) λc1=>
  .ite c1 (.grd (decide (0≤x1))<|
   .val (IntKind.wrap .i64 ((IntKind.wrap .i64 (1*2 ^ (min x1.toNat 64)))-1)) λe2=>
   .val (bt.f (x0,0,e2,())) λc3=>
   .ret c3)<|
  .ret false
@[grind=] theorem bb (x:Int):aa.f (x,32,())=(decide (0≤x)&&decide (x≤4294967295)):=by
 have h:=aa.c.h (x,32,()) trivial
 rw[Bool.eq_iff_iff]
 grind
@[grind=] theorem bz (x:Int):aa.f (x,16,())=(decide (0≤x)&&decide (x≤65535)):=by
 have h:=aa.c.h (x,16,()) trivial
 rw[Bool.eq_iff_iff]
 grind
@[grind=] theorem BP (x:Int):aa.f (x,48,())=(decide (0≤x)&&decide (x≤281474976710655)):=by
 have h:=aa.c.h (x,48,()) trivial
 rw[Bool.eq_iff_iff]
 grind
@[grind=] theorem kd (x:Int):aa.f (x,8,())=(decide (0≤x)&&decide (x≤255)):=by
 have h:=aa.c.h (x,8,()) trivial
 rw[Bool.eq_iff_iff]
 grind
@[grind=] theorem El (x:Int):aa.f (x,6,())=(decide (0≤x)&&decide (x≤63)):=by
 have h:=aa.c.h (x,6,()) trivial
 rw[Bool.eq_iff_iff]
 grind
noncomputable def bZ:=bm st Tryz.func100 [bO] (ks:=[.sc (.int .i64),.sc (.int .i64)]) aa rB
noncomputable def bM:FF (Unit) (Opti):=⟨λ_=>
  .ret (⟨0,(-1),false,false,0,0⟩:Opti)⟩
noncomputable def jB:=lS st Tryz.func110 [] (ks:=[]) bM (λv=>[(true,ml v)])
noncomputable def fq:FT (Int×Unit) (Int) (λ_=>True) (λ_ _=>True):= .mk λ(x0,_)=>
  .val (bt.f (x0,0,7,())) λc1=>
  .ite (!c1) (.ret 0)<|
  .grd ((decide (0≤x0))&&(decide (x0<8)))<|
  .ret ([64,256,536,1024,1300,1400,1440,1460].getD x0.toNat 0)
noncomputable def Je:=bm st Tryz.func111 [bO] (ks:=[.sc (.int .i64)]) fq rI
def td:Sh:=⟨[zi 0,zi 3],[]⟩
noncomputable def jY (v0:Int)(v1:Int)(a:Unit):Tr (Stp (Unit) ((Int))):=
 .cal fq.c (v1,()) λc1=>
 .ite (decide (c1≤v0)) (.ret (.out v1))<|
 .ret (.next ())
noncomputable def du:td.V→tM td Unit (Int):=λ(v0,v1,_)=>⟨v1,(),λv1 _=>(v0,v1,()),λv1 _=>(decide (0<v1)),jY v0,dn,(-1),(Int.toNat (v1-0)),.inl,eR,oB .ret ⟨[zi 2],[]⟩ (λp=>(p,())) (.exit 0) ⟨[zu 2],[]⟩ (λ_=>())⟩
theorem Cj {v0 v1:Int}(h0:v1≤9223372036854775807):(du (v0,v1,())).S (λ_ _=>True) (λ_=>True):=by
 refine LC.okS trivial (λj a hj hv=>⟨⟨?_, ?_⟩, ?_⟩) (λa hv=> ?_)
 ·simp only[du,decide_eq_true_eq]at*;omega
 ·simp only[du]at*;exact YK (by omega) (by omega)
 ·refine Tr.C trivial λ_ _ _=>Tr.Z (by kernel_rfl)
 ·simp only[du,decide_eq_false_iff_not]at*;omega
noncomputable def fM:FT (Int×Unit) (Int) (λ_=>True) (λ_ _=>True):= .mk (λ(x0,_)=>
  .lp (du (x0,7,())).lp λw2=> .sum w2 (λp2a0=>
  .ret p2a0)<|
  λ_=>
  .ret 0) (pQ @Cj)
noncomputable def Kl:=fD st Tryz.func112 [(0,lb [0,3] [2])] [Je] 0 du (ks:=[.sc (.int .i64)]) fM rI
noncomputable def nY:FF (Opti×Unit) (Int):=⟨λ(x0,_)=>
  .ite (x0.mss==0) (.ret 536)<|
  .ret x0.mss⟩
noncomputable def OI:=lS st Tryz.func113 [] (ks:=[.st .opti]) nY rI
noncomputable def me:FF (Int×Segm×Unit) (Tupl):=⟨λ(x0,x1,_)=>
  .ret (⟨x0,x1.from_,x1.to⟩:Tupl)⟩
noncomputable def uh:=lS st Tryz.func118 [] (ks:=[.sc (.int .i64),.st .segm]) me (λv=>[(true,JT v)])
noncomputable def fV:FF (Segm×Int×Unit) (Bool):=⟨λ(x0,x1,_)=>
  .ret ((bits .and .i64 x0.flags x1)==x1)⟩
noncomputable def rN:=lS st Tryz.func128 [] (ks:=[.st .segm,.sc (.int .i64)]) fV rB
def pA:Sh:=⟨[zl 0 .tupl,zp 3 0,zi 7,zi 8],[zx .tupl]⟩
noncomputable def ov (v0:List Tupl)(v3:Tupl)(v2:Int)(a:Unit):Tr (Stp (Unit) ((Int))):=
 .grd (dr v0 v2)<|
 .ite ((v3.ip==(v0.getD v2.toNat (Ty.zero .tupl)).ip)&&((v3.port==(v0.getD v2.toNat (Ty.zero .tupl)).port)&&((v3.my==(v0.getD v2.toNat (Ty.zero .tupl)).my)&&true))) (.ret (.out v2))<|
 .ret (.next ())
noncomputable def gU:pA.V→tM pA Unit (Int):=λ(v0,v1,v2,v3,_)=>⟨v2,(),λv2 _=>(v0,v1,v2,v3,()),λv2 _=>(decide (v2<v1)),ov v0 v3,up,1,(Int.toNat (v1-v2)),.inl,eR,oB .ret ⟨[zi 4],[]⟩ (λp=>(p,())) (.exit 0) ⟨[zu 4],[]⟩ (λ_=>())⟩
theorem xW {v0:List Tupl}{v1 v2:Int}{v3:Tupl}(h0:0≤v2)(h1:v1≤4611686018427387904)(h2:v1≤(v0.length:Int)):(gU (v0,v1,v2,v3,())).U v1 (λ_ _=>True) (λp=>v2≤p∧p<v1):=
 kN h0 h1 trivial
noncomputable def mG:FT (List Tupl×Tupl×Unit) (Int) (λx=>wS x.1) (λx v=> -1≤v∧v<x.1.length):= .mk (λ(x0,x1,_)=>
  .lp (gU (x0,(x0.length:Int),0,x1,())).lp λw1=> .sum w1 (λp1a0=>
  .ret p1a0)<|
  λ_=>
  .ret (-1)) (pQ @xW)
noncomputable def De:=fD st Tryz.func149 [(0,lb [0,3,7,8] [4])] [] 0 gU (ks:=[.sc (.sl .tupl),.st .tupl]) mG rI
noncomputable def oc:FT (Link×Unit) (Link) (λx=>d8 x.1) (λx v=>d8 v):= .mk λ(x0,_)=>
  .grd (Nat.ble ((2*(0+x0.cache.length)+1024)*24) bj)<|
  .ret ({x0 with cache:=([]++x0.cache)}:Link)
noncomputable def BD:=bm st Tryz.func156 [] (ks:=[.st .link]) oc (λv=>[(true,xn (.o true) v)])
def BC:Sh:=⟨[zl 0 .entr,zo 3 0,zi 4],[za .entr]⟩
noncomputable def M9 (v0:List Entr)(v1:Int)(a:List Entr):Tr (Stp (List Entr) (Empty)):=
 .grd (dr v0 v1)<|
 .ite (decide ((v0.getD v1.toNat (Ty.zero .entr)).age<9)) (.grd (qi a 1 24)<|
  .val (a++[({(v0.getD v1.toNat (Ty.zero .entr))with age:=(IntKind.wrap .i64 ((v0.getD v1.toNat (Ty.zero .entr)).age+1))}:Entr)]) λl1=>
  .ret (.next l1))<|
 .ret (.next a)
noncomputable def p6:BC.V→sD BC (List Entr):=λ(v0,v1,v2,_)=>⟨v1,v2,λv1 a=>(v0,v1,a,()),λv1 _=>(decide (v1<(v0.length:Int))),M9 v0,up,1,(Int.toNat ((v0.length:Int)-v1)),Empty.elim,Prod.mk,oN (.exit 0) ⟨[zu 2,zo 3 0],[za .entr]⟩ (λx=>(x.2,()))⟩
theorem N5 {v0 v2:List Entr}{v1:Int}(h0:0≤v1)(h1:(v0.length:Int)≤4611686018427387904)(h2:sS v0)(h3:(v2.length:Int)≤v1):(p6 (v0,v1,v2,())).U (v0.length:Int) (λv1 a=>(a.length:Int)≤v1) (λ_=>True):=
 kN (a:=v2) h0 h1 h3
noncomputable def Qb:FT (List Entr×Unit) (List Entr) (λx=>sS x.1) (λx v=>sS v∧v.length≤x.1.length):=⟨λ(x0,_)=>
  .lp (p6 (x0,0,[],())).lp λ(_,a2_0)=>
  .ret a2_0,
 λ(x0,_) hp=>by
  refine Tr.L (N5 ?_ ?_ ?_ ?_) (λa2_0 _=>Tr.R ?_) (λp=>Empty.elim p)
  all_goals ((try simp only[p6,LC.lp,LC.ct,Ct.lp]at*)<;>grind)⟩
noncomputable def NP:=fD st Tryz.func164 [(0,lb [0,3,4] [2,3])] [] 0 p6 (ks:=[.sc (.sl .entr)]) Qb (λv=>[(false,[sc (.o true) .entr v])])
def tj:Sh:=⟨[zl 0 .tupl,zp 3 0,zi 5],[zx .tupl]⟩
noncomputable def tC (v0:List Tupl)(v2:Tupl)(v1:Int)(a:Unit):Tr (Stp (Unit) ((Unit))):=
 .grd (dr v0 v1)<|
 .ite (((v0.getD v1.toNat (Ty.zero .tupl)).ip==v2.ip)&&(((v0.getD v1.toNat (Ty.zero .tupl)).port==v2.port)&&(((v0.getD v1.toNat (Ty.zero .tupl)).my==v2.my)&&true))) (.ret (.out ()))<|
 .ret (.next ())
noncomputable def ka:tj.V→tM tj Unit (Unit):=λ(v0,v1,v2,_)=>⟨v1,(),λv1 _=>(v0,v1,v2,()),λv1 _=>(decide (v1<(v0.length:Int))),tC v0 v2,up,1,(Int.toNat ((v0.length:Int)-v1)),.inl,eR,oB .ret ⟨[zb 4],[]⟩ (λ_=>(true,())) (.exit 0) ⟨[zu 4],[]⟩ (λ_=>())⟩
theorem CU {v0:List Tupl}{v1:Int}{v2:Tupl}(h0:0≤v1)(h1:(v0.length:Int)≤4611686018427387904):(ka (v0,v1,v2,())).U (v0.length:Int) (λ_ _=>True) (λ_=>True):=
 kN h0 h1 trivial
noncomputable def kw:FT (List Tupl×Tupl×Unit) (Bool) (λx=>wS x.1) (λ_ _=>True):= .mk (λ(x0,x1,_)=>
  .lp (ka (x0,0,x1,())).lp λw1=> .sum w1 (λ_=>
  .ret true)<|
  λ_=>
  .ret false) (pQ @CU)
noncomputable def rq:=fD st Tryz.func167 [(0,lb [0,3,5] [4])] [] 0 ka (ks:=[.sc (.sl .tupl),.st .tupl]) kw rB
def nm:Sh:=⟨[zl 0 .macRow,zl 1 .macRow,zi 12,zi 13],[]⟩
noncomputable def nr (v0 v1:List MacRow)(v3:Int)(a:Unit):Tr (Stp (Unit) ((Unit))):=
 .grd (dr v0 v3)<|
 .grd (dr v1 v3)<|
 .ite (!(((v0.getD v3.toNat (Ty.zero .macRow)).input==(v1.getD v3.toNat (Ty.zero .macRow)).input)&&(((v0.getD v3.toNat (Ty.zero .macRow)).value==(v1.getD v3.toNat (Ty.zero .macRow)).value)&&true))) (.ret (.out ()))<|
 .ret (.next ())
noncomputable def f8:nm.V→tM nm Unit (Unit):=λ(v0,v1,v2,v3,_)=>⟨v3,(),λv3 _=>(v0,v1,v2,v3,()),λv3 _=>(decide (v3<v2)),nr v0 v1,up,1,(Int.toNat (v2-v3)),.inl,eR,oB .ret ⟨[zb 4],[]⟩ (λ_=>(false,())) (.exit 0) ⟨[zu 4],[]⟩ (λ_=>())⟩
theorem wa {v0 v1:List MacRow}{v2 v3:Int}(h0:0≤v3)(h1:v2≤4611686018427387904)(h2:v2≤(v0.length:Int))(h3:v2≤(v1.length:Int)):(f8 (v0,v1,v2,v3,())).U v2 (λ_ _=>True) (λ_=>True):=
 kN h0 h1 trivial
noncomputable def oQ:FT (List MacRow×List MacRow×Unit) (Bool) (λx=>sL bA x.1∧sL bA x.2.1) (λ_ _=>True):= .mk (λ(x0,x1,_)=>
  .ite ((x0.length:Int) != (x1.length:Int)) (.ret false)<|
  .lp (f8 (x0,x1,(x0.length:Int),0,())).lp λw1=> .sum w1 (λ_=>
  .ret false)<|
  λ_=>
  .ret true) (pQ @wa)
noncomputable def AK:=fD st Tryz.func179 [(0,lb [0,1,12,13] [4])] [] 0 f8 (ks:=[.sc (.sl .macRow),.sc (.sl .macRow)]) oQ rB
noncomputable def aD:FT (Int×Int×Unit) (Bool) (λ_=>True) (λx v=>(x.2.1=32→(v=true↔0≤x.1∧x.1≤4294967295))∧(x.2.1=16→(v=true↔0≤x.1∧x.1≤65535))∧(x.2.1=48→(v=true↔0≤x.1∧x.1≤281474976710655))∧(x.2.1=8→(v=true↔0≤x.1∧x.1≤255))∧(x.2.1=6→(v=true↔0≤x.1∧x.1≤63))):=⟨λ(x0,x1,_)=>
  .val (bN.f (x1,1,62,())) λc1=>
  .ite c1 (.grd (decide (0≤(IntKind.wrap .u64 x1)))<|
   .val (IntKind.wrap .i64 ((IntKind.wrap .i64 (1*2 ^ (min (IntKind.wrap .u64 x1).toNat 64)))-1)) λe2=>
   .val (bN.f (x0,0,e2,())) λc3=>
   .ret c3)<|
  .ret false,
 λ(x0,x1,_) hp=>by
  refine Tr.V λ_ _=>Tr.I (λ_=>Tr.G1 ?_ λ_=>Tr.V λ_ _=>Tr.V λ_ _=>Tr.R ?_) λ_=>Tr.R ?_
  all_goals (grind [NI])⟩
@[grind=] theorem NJ (x:Int):aD.f (x,32,())=(decide (0≤x)&&decide (x≤4294967295)):=by
 have h:=aD.c.h (x,32,()) trivial
 rw[Bool.eq_iff_iff]
 grind
@[grind=] theorem Lw (x:Int):aD.f (x,16,())=(decide (0≤x)&&decide (x≤65535)):=by
 have h:=aD.c.h (x,16,()) trivial
 rw[Bool.eq_iff_iff]
 grind
@[grind=] theorem Wo (x:Int):aD.f (x,48,())=(decide (0≤x)&&decide (x≤281474976710655)):=by
 have h:=aD.c.h (x,48,()) trivial
 rw[Bool.eq_iff_iff]
 grind
@[grind=] theorem XB (x:Int):aD.f (x,8,())=(decide (0≤x)&&decide (x≤255)):=by
 have h:=aD.c.h (x,8,()) trivial
 rw[Bool.eq_iff_iff]
 grind
@[grind=] theorem WY (x:Int):aD.f (x,6,())=(decide (0≤x)&&decide (x≤63)):=by
 have h:=aD.c.h (x,6,()) trivial
 rw[Bool.eq_iff_iff]
 grind
noncomputable def bP:=bm st Tryz.func180 [b8] (ks:=[.sc (.int .i64),.sc (.int .i64)]) aD rB
noncomputable def jg:FT (Mac×Unit) (Mac) (λx=>dF x.1) (λx v=>dF v∧v=x.1):=⟨λ(x0,_)=>
  .grd (Nat.ble ((2*(0+x0.rows.length)+1024)*24) bj)<|
  .ret ({x0 with rows:=([]++x0.rows)}:Mac),
 λ(x0,_) hp=>by
  refine Tr.Gb ?_ λg0=>Tr.R ?_
  all_goals ((first|grind|(refine⟨by grind, ?_⟩;first|(simp only[List.nil_append];done)|(subst_vars;rfl)|simp_all)))⟩
noncomputable def uW:=bm st Tryz.func193 [] (ks:=[.st .mac]) jg (λv=>[(true,DT (.o true) v)])
noncomputable def dL:FT (Int×Unit) (Int×Int×Int) (λ_=>True) (λ_ _=>True):= .mk λ(x0,_)=>
  .cal aa.c (x0,32,()) λc1=>
  .ite (!c1) (.ret ((-1),(-1),(-1)))<|
  .ret ((IntKind.wrap .i64 (x0.tdiv 134217728)),((IntKind.wrap .i64 (x0.tdiv 16777216)).tmod 8),(x0.tmod 16777216))
noncomputable def C1:=bm st Tryz.func202 [bZ] (ks:=[.sc (.int .i64)]) dL (λv=>[(false,[.c (.int .i64 v.1)]),(false,[.c (.int .i64 v.2.1)]),(false,[.c (.int .i64 v.2.2)])])
noncomputable def Hg:=[bZ,bO]
noncomputable def HH:Fx:=⟨208,Tryz.f208,[(3000001,rA 0 15)],0⟩
noncomputable def ay:FT (Opti×Unit) (Bool) (λ_=>True) (λ_ _=>True):= .mk λ(x0,_)=>
  .bnd (β:=Bool×Unit) (.ite (!x0.stamp) (.ite (x0.val != 0) (.ret (true,()))<|
    .ret ((x0.echo != 0),()))<|
   .ret (false,())) λ(u1a0,_)=>
  .ite u1a0 (.ret false)<|
  .cal aa.c (x0.mss,16,()) λc2=>
  .ite c2 (.val (bt.f (x0.scale,(-1),14,())) λc3=>
   .ite c3 (.cal aa.c (x0.val,32,()) λc4=>
    .ite c4 (.cal aa.c (x0.echo,32,()) λc5=>
     .ret c5)<|
    .ret false)<|
   .ret false)<|
  .ret false
noncomputable def mP:=ck st HH Hg [] (ks:=[.st .opti]) ay rB Tryz.func208 trivial
noncomputable def fA:FT (List Half×Unit) (List Half) (λx=>sS x.1) (λx v=>v=x.1):=⟨λx=> .ret x.1,λ_ _=>Tr.R rfl⟩
theorem FS (x:List Half×Unit)(hp:sS x.1):GP Tryz.prog 210 (Gh [.sc (.sl .half)] x) ((λv=>[rv (.sc (.sl .half)) [.o true] v]) (fA.f x)):=by
 refine GP.byNil (t:= .half) (xs:=x.1) (λh=> ?_) ?_
 ·obtain⟨x,_⟩:=x;subst h
  exact Vl st Tryz.func210 (by kernel_rfl) (by kernel_rfl)
 ·exact Vl st Tryz.func210 (by kernel_rfl) (Eq.trans (b:=bif Nat.ble ((2*(0+x.1.length)+1024)*96) bj then some ((λv=>[rv (.sc (.sl .half)) [.o true] v]) x.1)else none) (by kernel_rfl) (by rw[show Nat.ble ((2*(0+x.1.length)+1024)*96) bj=true by simp only[Nat.ble_eq,bj];simp only[sS]at hp;omega];rfl))
noncomputable def t7:Ent1 Tryz.prog:=Un 210 (ks:=[.sc (.sl .half)]) fA.c (λv=>[rv (.sc (.sl .half)) [.o true] v]) FS
noncomputable def aj:FT (Segm×Unit) (Bool) (λ_=>True) (λx v=>(v=true→x.1.body.length≤1420)):= .mk λ(x0,_)=>
  .cal aa.c (x0.from_,16,()) λc1=>
  .ite c1 (.cal aa.c (x0.to,16,()) λc2=>
   .ite c2 (.cal aa.c (x0.window,16,()) λc3=>
    .ite c3 (.cal aa.c (x0.seq,32,()) λc4=>
     .ite c4 (.cal aa.c (x0.ack,32,()) λc5=>
      .ite c5 (.cal aa.c (x0.flags,6,()) λc6=>
       .ite c6 (.cal ay.c (x0.opts,()) λc7=>
        .ite c7 (.ret (decide ((x0.body.length:Int)≤1420)))<|
        .ret false)<|
       .ret false)<|
      .ret false)<|
     .ret false)<|
    .ret false)<|
   .ret false)<|
  .ret false
noncomputable def qm:=bm st Tryz.func211 [bZ,mP] (ks:=[.st .segm]) aj rB
noncomputable def bJ:FF (Int×Unit) (Int):=⟨λ(x0,_)=>
  .ite (decide ((x0.tmod 4294967296)<0)) (.ret (IntKind.wrap .i64 ((x0.tmod 4294967296)+4294967296)))<|
  .ret (x0.tmod 4294967296)⟩
@[grind=] theorem Wi (x0:Int):bJ.f (x0,())=(x0%4294967296):=by
 simp only[bJ,FF.f,Tr.nice]
 rcases Int.lt_or_le x0 0 with h|h
 ·rw[(eY 4294967296).2 h,dh]
  cases hd:decide (-(-x0%4294967296)<0)with
  |true=>simp only[decide_eq_true_eq]at hd;simp only[cond_true];omega
  |false=>simp only[decide_eq_false_iff_not]at hd;simp only[cond_false];omega
 ·rw[(eY 4294967296).1 h,dh]
  cases hd:decide (x0%4294967296<0)with
  |true=>simp only[decide_eq_true_eq]at hd;omega
  |false=>rfl
noncomputable def fP:=lS st Tryz.func226 [] (ks:=[.sc (.int .i64)]) bJ rI
noncomputable def m6:FT (Int×Int×Unit) (Mac) (λ_=>True) (λx v=>dF v):= .mk λ(x0,x1,_)=>
  .ret (⟨false,x0,x1,[]⟩:Mac)
noncomputable def sB:=bm st Tryz.func249 [] (ks:=[.sc (.int .u64),.sc (.int .u64)]) m6 (λv=>[(true,DT (.o true) v)])
noncomputable def oA:FT (List MacRow×Unit) (Mac) (λx=>sL bA x.1) (λx v=>dF v):= .mk λ(x0,_)=>
  .grd (Nat.ble ((2*(0+x0.length)+1024)*24) bj)<|
  .ret (⟨true,0,0,([]++x0)⟩:Mac)
noncomputable def y4:=bm st Tryz.func253 [] (ks:=[.sc (.sl .macRow)]) oA (λv=>[(true,DT (.o true) v)])
noncomputable def im:FT (List Entr×Unit) (List Entr) (λx=>sS x.1) (λx v=>v=x.1):=⟨λx=> .ret x.1,λ_ _=>Tr.R rfl⟩
theorem Cs (x:List Entr×Unit)(hp:sS x.1):GP Tryz.prog 255 (Gh [.sc (.sl .entr)] x) ((λv=>[rv (.sc (.sl .entr)) [.o true] v]) (im.f x)):=by
 refine GP.byNil (t:= .entr) (xs:=x.1) (λh=> ?_) ?_
 ·obtain⟨x,_⟩:=x;subst h
  exact Vl st Tryz.func255 (by kernel_rfl) (by kernel_rfl)
 ·exact Vl st Tryz.func255 (by kernel_rfl) (Eq.trans (b:=bif Nat.ble ((2*(0+x.1.length)+1024)*24) bj then some ((λv=>[rv (.sc (.sl .entr)) [.o true] v]) x.1)else none) (by kernel_rfl) (by rw[show Nat.ble ((2*(0+x.1.length)+1024)*24) bj=true by simp only[Nat.ble_eq,bj];simp only[sS]at hp;omega];rfl))
noncomputable def sY:Ent1 Tryz.prog:=Un 255 (ks:=[.sc (.sl .entr)]) im.c (λv=>[rv (.sc (.sl .entr)) [.o true] v]) Cs
noncomputable def nQ:FF (Fram×Int×Unit) (Bool):=⟨λ(x0,x1,_)=>
  .ite (x0.dst==x1) (.ret true)<|
  .ret (x0.dst==281474976710655)⟩
noncomputable def Se:=lS st Tryz.func256 [] (ks:=[.st .fram,.sc (.int .i64)]) nQ rB
noncomputable def mN:FT (List Tupl×Unit) (List Tupl) (λx=>sS x.1) (λx v=>v=x.1):=⟨λx=> .ret x.1,λ_ _=>Tr.R rfl⟩
theorem Cp (x:List Tupl×Unit)(hp:sS x.1):GP Tryz.prog 269 (Gh [.sc (.sl .tupl)] x) ((λv=>[rv (.sc (.sl .tupl)) [.o true] v]) (mN.f x)):=by
 refine GP.byNil (t:= .tupl) (xs:=x.1) (λh=> ?_) ?_
 ·obtain⟨x,_⟩:=x;subst h
  exact Vl st Tryz.func269 (by kernel_rfl) (by kernel_rfl)
 ·exact Vl st Tryz.func269 (by kernel_rfl) (Eq.trans (b:=bif Nat.ble ((2*(0+x.1.length)+1024)*24) bj then some ((λv=>[rv (.sc (.sl .tupl)) [.o true] v]) x.1)else none) (by kernel_rfl) (by rw[show Nat.ble ((2*(0+x.1.length)+1024)*24) bj=true by simp only[Nat.ble_eq,bj];simp only[sS]at hp;omega];rfl))
noncomputable def C6:Ent1 Tryz.prog:=Un 269 (ks:=[.sc (.sl .tupl)]) mN.c (λv=>[rv (.sc (.sl .tupl)) [.o true] v]) Cp
noncomputable def cD:FT (Recv×Unit) (Int) (λx=>aZ x.1) (λx v=>0≤v∧v≤32∧(x.1.data.length≤32→v=TZ x.1)):= .mk λ(x0,_)=>
  .ite x0.done (.ret 0)<|
  .val (β:=Int) (if 0<(IntKind.wrap .i64 (32-(x0.data.length:Int)))then(IntKind.wrap .i64 (32-(x0.data.length:Int)))else 0) λe1=>
  .ret e1
noncomputable def zw:=bm st Tryz.func275 [] (ks:=[.st .recv]) cD rI
def ue:Sh:=⟨[zi 0,zo 5 0,zi 6],[za .u8]⟩
noncomputable def dd (v1:Int)(a:Int×List Int):Tr (Stp (Int×List Int) (Empty)):=
 .grd (dr a.2 v1)<|
 .ret (.next ((a.1.fdiv 256),(a.2.set v1.toNat (IntKind.wrap .u8 a.1))))
noncomputable def dW:ue.V→sD ue (Int×List Int):=λ(v0,v1,v2,_)=>⟨v1,(v0,v2),λv1 a=>(a.1,v1,a.2,()),λv1 _=>(decide (0≤v1)),dd,dn,(-1),(Int.toNat (v1-0+1)),Empty.elim,Prod.mk,oN (.exit 0) ⟨[zu 4,zo 5 0],[za .u8]⟩ (λx=>(x.2.2,()))⟩
theorem E6 {v0 v1:Int}{v2:List Int}(h0:v1≤9223372036854775807)(h1:sS v2)(h2:v2.length=v2.length∧v1<(v2.length:Int)):(dW (v0,v1,v2,())).D 0 (λv1 a=>a.2.length=v2.length∧v1<(a.2.length:Int)) (λ_=>True):=
 XS (a:=(v0,v2)) h0 (by decide) h2
noncomputable def av:FT (Int×Int×Unit) (ac) (λ_=>True) (λx v=>sS v∧(v.length:Int)≤max x.2.1 0):=⟨λ(x0,x1,_)=>
  .bnd (β:=Bool×Unit) (.val (bt.f (x1,1,6,())) λc1=>
   .ite (!c1) (.ret (true,()))<|
   .cal aa.c (x0,(IntKind.wrap .i64 (8*x1)),()) λc2=>
   .ret ((!c2),())) λ(u3a0,_)=>
  .ite u3a0 (.ret [])<|
  .grd ((((decide (0≤x1))&&(decide (x1=x1)))&&(decide (x1*1≤(bj:Int))))&&(decide (x1≤(bj:Int))))<|
  .lp (dW (x0,(IntKind.wrap .i64 (x1-1)),(List.replicate x1.toNat 0),())).lp λ(_,_,a4_1)=>
  .ret (aA a4_1),
 λ(x0,x1,_) hp=>by
  refine Tr.B (Q':=λ_=>True) (Tr.V λ_ _=>Tr.I (λ_=>Tr.R trivial) λ_=>Tr.C trivial λ_ _ _=>Tr.R trivial) (λ(u3a0,_) _ _=>Tr.I (λ_=>Tr.R ?_) λ_=>Tr.G4 ?_ λ_=>Tr.L (E6 ?_ ?_ ?_) (λ(a4_0,a4_1) _=>Tr.R ?_) (λp=>Empty.elim p))
  all_goals ((try simp only[dW,LC.lp,LC.ct,Ct.lp,Tr.nice,jy]at*)<;>grind)⟩
noncomputable def iL:=fD st Tryz.func278 [(0,lb [0,5,6] [4,5]),(3000001,rA 0 16)] [bO,bZ] 0 dW (ks:=[.sc (.int .i64),.sc (.int .i64)]) av (λv=>[(false,[.c (.str v)])])
def BK:Sh:=⟨[zi 1,zl 8 .entr,zi 9,zi 10],[]⟩
noncomputable def BJ (v0:Int)(v1:List Entr)(v3:Int)(a:Unit):Tr (Stp (Unit) ((Int))):=
 .grd (dr v1 v3)<|
 .ite ((v1.getD v3.toNat (Ty.zero .entr)).ip==v0) (.ret (.out ((v1.getD v3.toNat (Ty.zero .entr)).hw)))<|
 .ret (.next ())
noncomputable def pS:BK.V→tM BK Unit (Int):=λ(v0,v1,v2,v3,_)=>⟨v3,(),λv3 _=>(v0,v1,v2,v3,()),λv3 _=>(decide (v3<v2)),BJ v0 v1,up,1,(Int.toNat (v2-v3)),.inl,eR,oB .ret ⟨[zi 4,zb 5],[]⟩ (λp=>(p,true,())) (.exit 0) ⟨[zu 4,zu 5],[]⟩ (λ_=>())⟩
theorem M8 {v0 v2 v3:Int}{v1:List Entr}(h0:0≤v3)(h1:v2≤4611686018427387904)(h2:v2≤(v1.length:Int)):(pS (v0,v1,v2,v3,())).U v2 (λ_ _=>True) (λ_=>True):=
 kN h0 h1 trivial
noncomputable def xc:FT (List Entr×Int×Unit) (Int×Bool) (λx=>sS x.1) (λ_ _=>True):= .mk (λ(x0,x1,_)=>
  .lp (pS (x1,x0,(x0.length:Int),0,())).lp λw1=> .sum w1 (λp1a0=>
  .ret (p1a0,true))<|
  λ_=>
  .ret (0,false)) (pQ @M8)
noncomputable def Mn:=fD st Tryz.func280 [(0,lb [1,8,9,10] [4,5])] [] 0 pS (ks:=[.sc (.sl .entr),.sc (.int .i64)]) xc (λv=>[(false,[.c (.int .i64 v.1)]),(false,[.c (.bool v.2)])])
noncomputable def qC:FT (Keys×Unit) (Keys) (λx=>cE x.1) (λx v=>cE v∧v=x.1):=⟨λ(x0,_)=>
  .cal jg.c (x0.now,()) λc1=>
  .cal jg.c (x0.before,()) λc2=>
  .ret (⟨x0.epoch,c1,c2,x0.two⟩:Keys),
 λ(x0,_) hp=>by
  refine Tr.C ?_ λc1 hc1 qc1=>Tr.C ?_ λc2 hc2 qc2=>Tr.R ?_
  all_goals ((first|grind|(refine⟨by grind, ?_⟩;first|(simp only[List.nil_append];done)|(subst_vars;rfl)|simp_all)))⟩
noncomputable def Ci:=bm st Tryz.func282 [uW] (ks:=[.st .keys]) qC (λv=>[(true,Ao (.o true) (.o true) v)])
noncomputable def Dp:FF (Fram×Int×Unit) (Bool):=⟨λ(x0,x1,_)=>
  .ite (x0.dst==x1) (.ret true)<|
  .ret (x0.dst==281474976710655)⟩
noncomputable def Sy:=lS st Tryz.func283 [] (ks:=[.st .fram,.sc (.int .i64)]) Dp rB
def t9:Sh:=⟨[zs 0,zi 1,zi 2,zi 8,zi 9],[]⟩
noncomputable def oM (v0:ac)(v1:Int)(v4:Int)(a:Int):Tr (Stp (Int) (Empty)):=
 .grd (dr v0 (IntKind.wrap .i64 (v1+v4)))<|
 .val (IntKind.wrap .i64 ((IntKind.wrap .i64 (256*a))+(IntKind.wrap .i64 (af v0 ((IntKind.wrap .i64 (v1+v4)).toNat))))) λe4=>
 .ret (.next e4)
noncomputable def lw:t9.V→sD t9 Int:=λ(v0,v1,v2,v3,v4,_)=>⟨v4,v3,λv4 a=>(v0,v1,v2,a,v4,()),λv4 _=>(decide (v4<v2)),oM v0 v1,up,1,(Int.toNat (v2-v4)),Empty.elim,Prod.mk,oN (.exit 0) ⟨[zu 6,zu 7,zi 8],[]⟩ (λx=>(x.2,()))⟩
theorem GK {v0:ac}{v1 v2 v3 v4:Int}(h0:0≤v4)(h1:v2≤4611686018427387904)(h2:0≤v1)(h3:v1+v2≤(v0.length:Int))(h4:sS v0):(lw (v0,v1,v2,v3,v4,())).U v2 (λ_ _=>True) (λ_=>True):=
 kN (a:=v3) h0 h1 trivial
noncomputable def bD:FT (ac×Int×Int×Unit) (Int×Bool) (λx=>sS x.1) (λ_ _=>True):= .mk (λ(x0,x1,x2,_)=>
  .bnd (β:=Bool×Unit) (.val (bN.f (x2,1,6,())) λc1=>
   .ite (!c1) (.ret (true,()))<|
   .val (bN.f (x1,0,(IntKind.wrap .i64 ((x0.length:Int)-x2)),())) λc2=>
   .ret ((!c2),())) λ(u3a0,_)=>
  .ite u3a0 (.ret (0,false))<|
  .lp (lw (x0,x1,x2,0,0,())).lp λ(_,a5_0)=>
  .ret (a5_0,true)) (pQ @GK)
noncomputable def mR:=fD st Tryz.func288 [(0,lb [0,1,2,8,9] [6,7,8]),(3000001,rA 0 21)] [b8] 0 lw (ks:=[.sc .str,.sc (.int .i64),.sc (.int .i64)]) bD (λv=>[(false,[.c (.int .i64 v.1)]),(false,[.c (.bool v.2)])])
noncomputable def oO:FT (List Half×Tupl×Unit) (List Half) (λx=>sS x.1) (λx v=>sS v):= .mk λ(x0,x1,_)=>
  .cal fN.c (x0,x1,()) λc1=>
  .ite (decide (c1<0)) (.grd (Nat.ble ((2*(0+x0.length)+1024)*96) bj)<|
   .ret ([]++x0))<|
  .grd ((decide (0≤c1))&&(decide (c1≤(x0.length:Int))))<|
  .grd (Nat.ble ((2*(0+((x0.take c1.toNat).drop 0).length)+1024)*96) bj)<|
  .grd (Rg x0 (IntKind.wrap .i64 (c1+1)) (x0.length:Int))<|
  .grd (Nat.ble ((2*(([]++((x0.take c1.toNat).drop 0)).length+((x0.take ((x0.length:Int).toNat)).drop ((IntKind.wrap .i64 (c1+1)).toNat)).length)+1024)*96) bj)<|
  .val (([]++((x0.take c1.toNat).drop 0))++((x0.take ((x0.length:Int).toNat)).drop ((IntKind.wrap .i64 (c1+1)).toNat))) λl2=>
  .ret l2
noncomputable def zd:=bm st Tryz.func292 [ji] (ks:=[.sc (.sl .half),.st .tupl]) oO (λv=>[(false,[sc (.o true) .half v])])
noncomputable def eE:FF (Int×Int×Unit) (Int):=⟨λ(x0,x1,_)=>
  .ite (decide (x1<x0)) (.ret x0)<|
  .ret x1⟩
@[grind=] theorem oH (x0 x1:Int):eE.f (x0,x1,())=(if x1<x0 then x0 else x1):=by
 simp only[eE,FF.f,Tr.nice]
 by_cases h:x1<x0<;>simp[h]
noncomputable def kD:=lS st Tryz.func302 [] (ks:=[.sc (.int .i64),.sc (.int .i64)]) eE rI
def pZ:Sh:=⟨[zl 0 .half,zo 3 0,zi 4],[za .half]⟩
noncomputable def yu (v0:List Half)(v1:Int)(a:List Half):Tr (Stp (List Half) (Empty)):=
 .grd (dr v0 v1)<|
 .ite (decide ((v0.getD v1.toNat (Ty.zero .half)).age<6)) (.grd (qi a 1 96)<|
  .val (a++[({(v0.getD v1.toNat (Ty.zero .half))with age:=(IntKind.wrap .i64 ((v0.getD v1.toNat (Ty.zero .half)).age+1))}:Half)]) λl1=>
  .ret (.next l1))<|
 .ret (.next a)
noncomputable def iA:pZ.V→sD pZ (List Half):=λ(v0,v1,v2,_)=>⟨v1,v2,λv1 a=>(v0,v1,a,()),λv1 _=>(decide (v1<(v0.length:Int))),yu v0,up,1,(Int.toNat ((v0.length:Int)-v1)),Empty.elim,Prod.mk,oN (.exit 0) ⟨[zu 2,zo 3 0],[za .half]⟩ (λx=>(x.2,()))⟩
theorem x6 {v0 v2:List Half}{v1:Int}(h0:0≤v1)(h1:(v0.length:Int)≤4611686018427387904)(h2:sS v0)(h3:(v2.length:Int)≤v1):(iA (v0,v1,v2,())).U (v0.length:Int) (λv1 a=>(a.length:Int)≤v1) (λ_=>True):=
 kN (a:=v2) h0 h1 h3
noncomputable def yz:FT (List Half×Unit) (List Half) (λx=>sS x.1) (λx v=>sS v):=⟨λ(x0,_)=>
  .lp (iA (x0,0,[],())).lp λ(_,a2_0)=>
  .ret a2_0,
 λ(x0,_) hp=>by
  refine Tr.L (x6 ?_ ?_ ?_ ?_) (λa2_0 _=>Tr.R ?_) (λp=>Empty.elim p)
  all_goals ((try simp only[iA,LC.lp,LC.ct,Ct.lp]at*)<;>grind)⟩
noncomputable def EJ:=fD st Tryz.func303 [(0,lb [0,3,4] [2,3])] [] 0 iA (ks:=[.sc (.sl .half)]) yz (λv=>[(false,[sc (.o true) .half v])])
noncomputable def dj:FT (Recv×Unit) (Recv) (λx=>aZ x.1) (λx v=>aZ v∧v=x.1):=⟨λ(x0,_)=>
  .grd (Nat.ble ((2*(0+x0.held.length)+1024)*24) bj)<|
  .ret ({x0 with held:=([]++x0.held)}:Recv),
 λ(x0,_) hp=>by
  refine Tr.Gb ?_ λg0=>Tr.R ?_
  all_goals ((first|grind|(refine⟨by grind, ?_⟩;first|(simp only[List.nil_append];done)|(subst_vars;rfl)|simp_all)))⟩
noncomputable def ux:=bm st Tryz.func304 [] (ks:=[.st .recv]) dj (λv=>[(true,uy (.o true) v)])
noncomputable def fR:FT (Recv×Unit) (Int) (λx=>aZ x.1) (λx v=>0≤v∧v≤32∧(x.1.data.length≤32→v=TZ x.1)):= .mk λ(x0,_)=>
  .ite x0.done (.ret 0)<|
  .val (eE.f (0,(IntKind.wrap .i64 (32-(x0.data.length:Int))),())) λc1=>
  .ret c1
noncomputable def jd:=bm st Tryz.func308 [kD] (ks:=[.st .recv]) fR rI
def yV:Sh:=⟨[zl 0 .entr,zi 1,zi 5],[]⟩
noncomputable def yd (v0:List Entr)(v1:Int)(v2:Int)(a:Unit):Tr (Stp (Unit) ((Int))):=
 .grd (dr v0 v2)<|
 .ite ((v0.getD v2.toNat (Ty.zero .entr)).ip==v1) (.ret (.out v2))<|
 .ret (.next ())
noncomputable def ny:yV.V→tM yV Unit (Int):=λ(v0,v1,v2,_)=>⟨v2,(),λv2 _=>(v0,v1,v2,()),λv2 _=>(decide (v2<(v0.length:Int))),yd v0 v1,up,1,(Int.toNat ((v0.length:Int)-v2)),.inl,eR,oB .ret ⟨[zi 4],[]⟩ (λp=>(p,())) (.exit 0) ⟨[zu 4],[]⟩ (λ_=>())⟩
theorem Jl {v0:List Entr}{v1 v2:Int}(h0:0≤v2)(h1:(v0.length:Int)≤4611686018427387904):(ny (v0,v1,v2,())).U (v0.length:Int) (λ_ _=>True) (λp=>v2≤p∧p<(v0.length:Int)):=
 kN h0 h1 trivial
noncomputable def vN:FT (List Entr×Int×Unit) (Int) (λx=>sS x.1) (λx v=> -1≤v∧v<x.1.length):= .mk (λ(x0,x1,_)=>
  .lp (ny (x0,x1,0,())).lp λw1=> .sum w1 (λp1a0=>
  .ret p1a0)<|
  λ_=>
  .ret (-1)) (pQ @Jl)
noncomputable def Ak:=fD st Tryz.func311 [(0,lb [0,1,5] [4])] [] 0 ny (ks:=[.sc (.sl .entr),.sc (.int .i64)]) vN rI
noncomputable def sC:FT (Limi×Unit) (Bool) (λ_=>True) (λx v=>(v=true→x.1.halves≤64∧x.1.waiting≤16∧x.1.conns≤16)):= .mk λ(x0,_)=>
  .val (bN.f (x0.halves,1,64,())) λc1=>
  .ite c1 (.val (bN.f (x0.waiting,1,16,())) λc2=>
   .ite c2 (.val (bN.f (x0.conns,1,16,())) λc3=>
    .ite c3 (.val (bN.f (x0.chal,0,1000,())) λc4=>
     .ret c4)<|
    .ret false)<|
   .ret false)<|
  .ret false
noncomputable def JD:=bm st Tryz.func312 [b8] (ks:=[.st .limi]) sC rB
noncomputable def Hz:=[bP,b8]
noncomputable def GY:Fx:=⟨313,Tryz.f313,[(3000001,rA 0 15)],0⟩
noncomputable def dX:FT (Opti×Unit) (Bool) (λ_=>True) (λ_ _=>True):= .mk λ(x0,_)=>
  .bnd (β:=Bool×Unit) (.ite (!x0.stamp) (.ite (x0.val != 0) (.ret (true,()))<|
    .ret ((x0.echo != 0),()))<|
   .ret (false,())) λ(u1a0,_)=>
  .ite u1a0 (.ret false)<|
  .cal aD.c (x0.mss,16,()) λc2=>
  .ite c2 (.val (bN.f (x0.scale,(-1),14,())) λc3=>
   .ite c3 (.cal aD.c (x0.val,32,()) λc4=>
    .ite c4 (.cal aD.c (x0.echo,32,()) λc5=>
     .ret c5)<|
    .ret false)<|
   .ret false)<|
  .ret false
noncomputable def jF:=ck st GY Hz [] (ks:=[.st .opti]) dX rB Tryz.func313 trivial
def uZ:Sh:=⟨[zi 0,zo 5 0,zi 6],[za .u8]⟩
noncomputable def lG (v1:Int)(a:Int×List Int):Tr (Stp (Int×List Int) (Empty)):=
 .grd (dr a.2 v1)<|
 .ret (.next ((IntKind.wrap .i64 (a.1.tdiv 256)),(a.2.set v1.toNat (IntKind.wrap .u8 (a.1.tmod 256)))))
noncomputable def iX:uZ.V→sD uZ (Int×List Int):=λ(v0,v1,v2,_)=>⟨v1,(v0,v2),λv1 a=>(a.1,v1,a.2,()),λv1 _=>(decide (0≤v1)),lG,dn,(-1),(Int.toNat (v1-0+1)),Empty.elim,Prod.mk,oN (.exit 0) ⟨[zu 4,zo 5 0],[za .u8]⟩ (λx=>(x.2.2,()))⟩
theorem F7 {v0 v1:Int}{v2:List Int}(h0:v1≤9223372036854775807)(h1:sS v2)(h2:v2.length=v2.length∧v1<(v2.length:Int)):(iX (v0,v1,v2,())).D 0 (λv1 a=>a.2.length=v2.length∧v1<(a.2.length:Int)) (λ_=>True):=
 XS (a:=(v0,v2)) h0 (by decide) h2
noncomputable def aM:FT (Int×Int×Unit) (ac) (λ_=>True) (λx v=>sS v∧(v.length:Int)≤max x.2.1 0):=⟨λ(x0,x1,_)=>
  .bnd (β:=Bool×Unit) (.val (bN.f (x1,1,6,())) λc1=>
   .ite (!c1) (.ret (true,()))<|
   .cal aD.c (x0,(IntKind.wrap .i64 (8*x1)),()) λc2=>
   .ret ((!c2),())) λ(u3a0,_)=>
  .ite u3a0 (.ret [])<|
  .grd ((((decide (0≤x1))&&(decide (x1=x1)))&&(decide (x1*1≤(bj:Int))))&&(decide (x1≤(bj:Int))))<|
  .lp (iX (x0,(IntKind.wrap .i64 (x1-1)),(List.replicate x1.toNat 0),())).lp λ(_,_,a4_1)=>
  .ret (aA a4_1),
 λ(x0,x1,_) hp=>by
  refine Tr.B (Q':=λ_=>True) (Tr.V λ_ _=>Tr.I (λ_=>Tr.R trivial) λ_=>Tr.C trivial λ_ _ _=>Tr.R trivial) (λ(u3a0,_) _ _=>Tr.I (λ_=>Tr.R ?_) λ_=>Tr.G4 ?_ λ_=>Tr.L (F7 ?_ ?_ ?_) (λ(a4_0,a4_1) _=>Tr.R ?_) (λp=>Empty.elim p))
  all_goals ((try simp only[iX,LC.lp,LC.ct,Ct.lp,Tr.nice,jy]at*)<;>grind)⟩
noncomputable def iT:=fD st Tryz.func315 [(0,lb [0,5,6] [4,5]),(3000001,rA 0 16)] [b8,bP] 0 iX (ks:=[.sc (.int .i64),.sc (.int .i64)]) aM (λv=>[(false,[.c (.str v)])])
noncomputable def dH:FT (Fram×Unit) (Bool) (λ_=>True) (λx v=>(v=true→x.1.body.length≤1586)):= .mk λ(x0,_)=>
  .cal aa.c (x0.dst,48,()) λc1=>
  .ite c1 (.cal aa.c (x0.src,48,()) λc2=>
   .ite c2 (.val (bt.f (x0.type,1536,65535,())) λc3=>
    .ite c3 (.ret (decide ((x0.body.length:Int)≤1586)))<|
    .ret false)<|
   .ret false)<|
  .ret false
noncomputable def B2:=bm st Tryz.func317 [bZ,bO] (ks:=[.st .fram]) dH rB
noncomputable def bv:FT (Segm×Unit) (Int) (λx=>ar x.1) (λx v=>0≤v∧v≤x.1.body.length+2):= .mk λ(x0,_)=>
  .val (br.f (x0,2,())) λc1=>
  .ite c1 (.val (br.f (x0,1,())) λc2=>
   .ite c2 (.val (IntKind.wrap .i64 ((IntKind.wrap .i64 ((x0.body.length:Int)+1))+1)) λe3=>
    .ret e3)<|
   .ret (IntKind.wrap .i64 ((x0.body.length:Int)+1)))<|
  .val (br.f (x0,1,())) λc4=>
  .ite c4 (.ret (IntKind.wrap .i64 ((x0.body.length:Int)+1)))<|
  .ret (x0.body.length:Int)
noncomputable def Gx:=bm st Tryz.func327 [KQ] (ks:=[.st .segm]) bv rI
noncomputable def iy:FF (Opti×Unit) (Opti):=⟨λ(x0,_)=>
  .ite x0.stamp (.ret x0)<|
  .val (bM.f (())) λc1=>
  .ret ({c1 with mss:=x0.mss}:Opti)⟩
noncomputable def CG:=lS st Tryz.func332 [jB] (ks:=[.st .opti]) iy (λv=>[(true,ml v)])
noncomputable def mH:FT (List Piec×Unit) (List Piec) (λx=>sS x.1) (λx v=>v=x.1):=⟨λx=> .ret x.1,λ_ _=>Tr.R rfl⟩
theorem Co (x:List Piec×Unit)(hp:sS x.1):GP Tryz.prog 336 (Gh [.sc (.sl .piec)] x) ((λv=>[rv (.sc (.sl .piec)) [.o true] v]) (mH.f x)):=by
 refine GP.byNil (t:= .piec) (xs:=x.1) (λh=> ?_) ?_
 ·obtain⟨x,_⟩:=x;subst h
  exact Vl st Tryz.func336 (by kernel_rfl) (by kernel_rfl)
 ·exact Vl st Tryz.func336 (by kernel_rfl) (Eq.trans (b:=bif Nat.ble ((2*(0+x.1.length)+1024)*24) bj then some ((λv=>[rv (.sc (.sl .piec)) [.o true] v]) x.1)else none) (by kernel_rfl) (by rw[show Nat.ble ((2*(0+x.1.length)+1024)*24) bj=true by simp only[Nat.ble_eq,bj];simp only[sS]at hp;omega];rfl))
noncomputable def CF:Ent1 Tryz.prog:=Un 336 (ks:=[.sc (.sl .piec)]) mH.c (λv=>[rv (.sc (.sl .piec)) [.o true] v]) Co
noncomputable def iC:FF (Int×Int×Unit) (Int):=⟨λ(x0,x1,_)=>
  .ite (decide (x0<x1)) (.ret x0)<|
  .ret x1⟩
@[grind=] theorem md (x0 x1:Int):iC.f (x0,x1,())=(if x0<x1 then x0 else x1):=by
 simp only[iC,FF.f,Tr.nice]
 by_cases h:x0<x1<;>simp[h]
noncomputable def lY:=lS st Tryz.func341 [] (ks:=[.sc (.int .i64),.sc (.int .i64)]) iC rI
noncomputable def j2:FT (Arpm×Unit) (Bool) (λ_=>True) (λ_ _=>True):= .mk λ(x0,_)=>
  .val (bt.f (x0.kind,1,2,())) λc1=>
  .ite c1 (.cal aa.c (x0.srcHw,48,()) λc2=>
   .ite c2 (.cal aa.c (x0.dstHw,48,()) λc3=>
    .ite c3 (.cal aa.c (x0.srcIp,32,()) λc4=>
     .ite c4 (.cal aa.c (x0.dstIp,32,()) λc5=>
      .ret c5)<|
     .ret false)<|
    .ret false)<|
   .ret false)<|
  .ret false
noncomputable def AI:=bm st Tryz.func370 [bO,bZ] (ks:=[.st .arpm]) j2 rB
noncomputable def oq:FT (List Entr×Int×Int×Unit) (Nat×List Entr) (λx=>sS x.1∧0≤x.2.1∧x.2.1≤x.2.2.1∧x.2.2.1≤x.1.length) (λx v=>sS v.2∧v.1≤x.1.length∧v.2.length=x.1.length):=⟨λ(x0,x1,x2,_)=>
  .grd ((((decide (0≤x1))&&(decide (x1≤x2)))&&(decide (x2≤(x0.length:Int))))&&(decide ((x0.length:Int)≤(x0.length:Int))))<|
  .ite (x1==x2) (.ret (x0.length,x0))<|
  .grd ((decide (0≤x1))&&(decide (x1≤(x0.length:Int))))<|
  .grd (Rg x0 x2 (x0.length:Int))<|
  .grd (((Nat.ble x1.toNat x2.toNat)&&(Nat.beq ((x0.length:Int).toNat) x0.length))&&true)<|
  .val (((((x0.take x1.toNat++x0.drop x2.toNat)++x0.drop (x1.toNat+(x0.length-x2.toNat))).take (x1.toNat+(x0.length-x2.toNat))).drop 0).length:Int) λe1=>
  .grd (Rg ((x0.take x1.toNat++x0.drop x2.toNat)++x0.drop (x1.toNat+(x0.length-x2.toNat))) e1 (x0.length:Int))<|
  .val ((((x0.take x1.toNat++x0.drop x2.toNat)++x0.drop (x1.toNat+(x0.length-x2.toNat))).take e1.toNat++List.replicate ((x0.length:Int).toNat-e1.toNat) (Ty.zero .entr))++((x0.take x1.toNat++x0.drop x2.toNat)++x0.drop (x1.toNat+(x0.length-x2.toNat))).drop ((x0.length:Int).toNat)) λl2=>
  .ret ((x1.toNat+(x0.length-x2.toNat)),l2),
 λ(x0,x1,x2,_) hp=>by
  refine Tr.G4 ?_ λg0=>Tr.I (λb1=>Tr.R ?_) λb1=>Tr.G2 ?_ λg2=>Tr.G3 ?_ λg3=>Tr.G ?_ λg4=>Tr.V λe1 he1=>Tr.G3 ?_ λg5=>Tr.V λl2 hl2=>Tr.R ?_
  all_goals ((first|grind|(simp only[Bool.and_eq_true,and_true,List.length_set,Nat.ble_eq,Nat.beq_eq,decide_eq_true_eq,List.length_append,List.length_take,List.length_drop,List.drop_zero,List.length_replicate,sS]at*;omega)))⟩
noncomputable def AP:=cy st ⟨371,Tryz.f371,[],1⟩ [] [] [.wr false [.own 0],.sc (.int .i64),.sc (.int .i64)] [.arr .entr] (λx y=>(y.1,x.2.1,x.2.2.1,())) oq (λv=>[(false,[.shr 0 v.1])]) (λx y v=>(v.2,())) Tryz.func371 (by kernel_rfl) trivial
def u4:Sh:=⟨[zs 0,zi 1,zi 8,zi 25,zi 26],[]⟩
noncomputable def o9 (v0:ac)(v1:Int)(v4:Int)(a:Int):Tr (Stp (Int) (Empty)):=
 .grd (dr v0 (IntKind.wrap .i64 (v1+v4)))<|
 .val (bits .or .i64 (IntKind.wrap .i64 (a*256)) (IntKind.wrap .i64 (af v0 ((IntKind.wrap .i64 (v1+v4)).toNat)))) λe3=>
 .ret (.next e3)
noncomputable def kV:u4.V→sD u4 Int:=λ(v0,v1,v2,v3,v4,_)=>⟨v4,v2,λv4 a=>(v0,v1,a,v3,v4,()),λv4 _=>(decide (v4<v3)),o9 v0 v1,up,1,(Int.toNat (v3-v4)),Empty.elim,Prod.mk,oN (.exit 0) ⟨[zu 6,zu 7,zi 8],[]⟩ (λx=>(x.2,()))⟩
theorem DB {v0:ac}{v1 v2 v3 v4:Int}(h0:0≤v4)(h1:v3≤4611686018427387904)(h2:0≤v1)(h3:v1+v3≤(v0.length:Int))(h4:sS v0):(kV (v0,v1,v2,v3,v4,())).U v3 (λ_ _=>True) (λ_=>True):=
 kN (a:=v2) h0 h1 trivial
noncomputable def vy:FT (ac×Int×Int×Unit) (Int×Bool) (λx=>sS x.1) (λ_ _=>True):= .mk (λ(x0,x1,x2,_)=>
  .bnd (β:=Bool×Unit) (.val (bt.f (x2,1,6,())) λc1=>
   .ite (!c1) (.ret (true,()))<|
   .ite (decide (x1<0)) (.ret (true,()))<|
   .ret ((decide ((IntKind.wrap .i64 ((x0.length:Int)-x2))<x1)),())) λ(u2a0,_)=>
  .ite u2a0 (.ret (0,false))<|
  .lp (kV (x0,x1,0,x2,0,())).lp λ(_,a4_0)=>
  .ret (a4_0,true)) (pQ @DB)
noncomputable def MF:=fD st Tryz.func372 [(0,lb [0,1,8,25,26] [6,7,8]),(3000001,rA 0 24)] [bO] 0 kV (ks:=[.sc .str,.sc (.int .i64),.sc (.int .i64)]) vy (λv=>[(false,[.c (.int .i64 v.1)]),(false,[.c (.bool v.2)])])
noncomputable def lc:FT (List MacRow×Unit) (List MacRow) (λx=>sS x.1) (λx v=>v=x.1):=⟨λx=> .ret x.1,λ_ _=>Tr.R rfl⟩
theorem Ai (x:List MacRow×Unit)(hp:sS x.1):GP Tryz.prog 375 (Gh [.sc (.sl .macRow)] x) ((λv=>[rv (.sc (.sl .macRow)) [.o true] v]) (lc.f x)):=by
 refine GP.byNil (t:= .macRow) (xs:=x.1) (λh=> ?_) ?_
 ·obtain⟨x,_⟩:=x;subst h
  exact Vl st Tryz.func375 (by kernel_rfl) (by kernel_rfl)
 ·exact Vl st Tryz.func375 (by kernel_rfl) (Eq.trans (b:=bif Nat.ble ((2*(0+x.1.length)+1024)*24) bj then some ((λv=>[rv (.sc (.sl .macRow)) [.o true] v]) x.1)else none) (by kernel_rfl) (by rw[show Nat.ble ((2*(0+x.1.length)+1024)*24) bj=true by simp only[Nat.ble_eq,bj];simp only[sS]at hp;omega];rfl))
noncomputable def Av:Ent1 Tryz.prog:=Un 375 (ks:=[.sc (.sl .macRow)]) lc.c (λv=>[rv (.sc (.sl .macRow)) [.o true] v]) Ai
noncomputable def JS:=[bZ,bO]
noncomputable def Kp:Fx:=⟨376,Tryz.f376,[(3000001,rA 0 21),(3000003,rA 0 36)],0⟩
noncomputable def bQ:FT (Sndr×Unit) (Bool) (λ_=>True) (λx v=>(v=true↔SO x.1)):= .mk λ(x0,_)=>
  .bnd (β:=Bool×Unit) (.cal aa.c (x0.una,32,()) λc1=>
   .ite (!c1) (.ret (true,()))<|
   .ite (decide (48<(x0.data.length:Int))) (.ret (true,()))<|
   .val (bt.f (x0.sent,0,(x0.data.length:Int),())) λc2=>
   .ret ((!c2),())) λ(u3a0,_)=>
  .ite u3a0 (.ret false)<|
  .bnd (β:=Bool×Unit) (.ite x0.finSent (.ite (!x0.fin) (.ret (true,()))<|
    .ret ((x0.sent != (x0.data.length:Int)),()))<|
   .ret (false,())) λ(u4a0,_)=>
  .ite u4a0 (.ret false)<|
  .ite (!x0.done) (.ret true)<|
  .ite x0.fin (.ite (!x0.finSent) (.ret (x0.data==[]))<|
   .ret false)<|
  .ret false
noncomputable def rE:=ck st Kp JS [] (ks:=[.st .sndr]) bQ rB Tryz.func376 trivial
def p7:Sh:=⟨[zp 1 0,zi 4,zi 5,zl 45 .piec,zi 46,zi 47],[zg .recv]⟩
def xj:An:=⟨⟨[],[],false,0⟩,⟨[1,2,4],[],false,0⟩,⟨[],[]⟩,[(.normal,⟨[zp 1 0,zb 2,zi 4],[zg .recv]⟩)]⟩
noncomputable def dg (v0:Int)(v2:List Piec)(v4:Int)(a:Int):Tr (Stp (Int) ((Unit))):=
 .grd (dr v2 v4)<|
 .bnd (β:=Bool×Unit) (.ite ((v2.getD v4.toNat (Ty.zero .piec)).text==[]) (.ret (true,()))<|
  .ite (decide ((v2.getD v4.toNat (Ty.zero .piec)).off≤a)) (.ret (true,()))<|
  .val (IntKind.wrap .i64 (v0-(((v2.getD v4.toNat (Ty.zero .piec)).text).length:Int))) λe6=>
  .ret ((decide (e6<(v2.getD v4.toNat (Ty.zero .piec)).off)),())) λ(u7a0,_)=>
 .ite u7a0 (.ret (.out ()))<|
 .val (IntKind.wrap .i64 ((v2.getD v4.toNat (Ty.zero .piec)).off+(((v2.getD v4.toNat (Ty.zero .piec)).text).length:Int))) λe8=>
 .ret (.next e8)
noncomputable def ec:p7.V→tM p7 Int (Unit):=λ(v0,v1,v2,v3,v4,v5,_)=>⟨v4,v1,λv4 a=>(v0,a,v2,v3,v4,v5,()),λv4 _=>(decide (v4<v3)),dg v0 v2,up,1,(Int.toNat (v3-v4)),.inl,eR,oB .ret ⟨[zp 1 0,zb 2],[zg .recv]⟩ (λ_=>(false,v5,())) (.exit 0) ⟨[zp 1 0,zu 2],[zg .recv]⟩ (λ_=>(v5,()))⟩
theorem yE {v0 v1 v3 v4:Int}{v2:List Piec}{v5:Recv}(h0:0≤v4)(h1:v3≤4611686018427387904)(h2:v0≤32)(h3:0≤v0)(h4:sL j8 v2)(h5:v3≤(v2.length:Int))(h6:0≤v1∧v1≤32∧cY (pw v0) (v2.take v4.toNat)):(ec (v0,v1,v2,v3,v4,v5,())).U v3 (λv4 a=>0≤a∧a≤32∧cY (pw v0) (v2.take v4.toNat)) (λ_=>True):=
 LC.okU (i:=v4) (a:=v1) (λ_ _=>rfl) (λ_=>rfl) rfl h0 h1 h6 λv4 v1 hj hk hv=>by
  refine Tr.G2 ?_ λ_=>Tr.B (Q':=λ_=>True) (Tr.F (by kernel_rfl) trivial) (λ(u7a0,_) _ _=>Tr.I (λ_=>Tr.Ro trivial) λ_=>Tr.V λ_ _=>Tr.Rn ?_)
  all_goals ((try simp only[Tr.nice,jy]at*)<;>grind [←Wa])
noncomputable def cf:FT (Recv×Unit) (Bool) (λx=>aZ x.1) (λx v=>(v=true→RO x.1)∧(v=true→cY (pw (TZ x.1)) x.1.held)):=⟨λ(x0,_)=>
  .cal cD.c (x0,()) λc1=>
  .bnd (β:=Bool×Unit) (.cal aa.c (x0.next,32,()) λc2=>
   .ite (!c2) (.ret (true,()))<|
   .ite (decide (32<(x0.data.length:Int))) (.ret (true,()))<|
   .ite (decide (3<(x0.held.length:Int))) (.ret (true,()))<|
   .val (bt.f (x0.fin,(-1),c1,())) λc3=>
   .ite (!c3) (.ret (true,()))<|
   .ret ((x0.fin==0),())) λ(u4a0,_)=>
  .ite u4a0 (.ret false)<|
  .bnd (β:=Bool×Int×Recv×Unit) (.ite (x0.fin != (-1)) (.ret (false,x0.fin,x0,()))<|
   .ret (false,c1,x0,())) λ(_,u5a1,u5a2,_)=>
  .lp (ec (u5a1,0,u5a2.held,(u5a2.held.length:Int),0,u5a2,())).lp λw9=> .sum w9 (λ_=>
  .ret false)<|
  λ_=>
  .ite (!u5a2.done) (.ret true)<|
  .ite ((u5a2.held.length:Int)==0) (.ret (u5a2.fin==(-1)))<|
  .ret false,
 λ(x0,_) hp=>by
  refine Tr.C ?_ λc1 hc1 qc1=>Tr.B (Q':=λ_=>True) (Tr.C trivial λc2 hc2 qc2=>Tr.F (by kernel_rfl) trivial) (λ(u4a0,_) hj4 qj4=>Tr.I (λb0=>Tr.R ?_) λb0=>Tr.B (Q':=λw=>aZ w.2.2.1∧0≤w.2.1∧w.2.1≤32∧w.2.2.1=x0∧(x0.data.length≤32→w.2.1≤TZ x0)) (Tr.I (λb1=>Tr.R ?_) λb1=>Tr.R ?_) (λ(u5a0,u5a1,u5a2,_) hj5 qj5=>Tr.L (yE ?_ ?_ ?_ ?_ ?_ ?_ ?_) (λa9_0 i9=>Tr.Sr (Tr.I (λb1=>Tr.R ?_) λb1=>Tr.I (λb2=>Tr.R ?_) λb2=>Tr.R ?_)) (λ_ hp9=>Tr.Sl (Tr.R ?_))))
  all_goals ((try simp only[ec,LC.lp,LC.ct,Ct.lp,Tr.nice,jy]at*)<;>grind [WV,Ya,Yg])⟩
noncomputable def D2:=fD st Tryz.func377 [(0,lb [1,4,5,45,46,47] [1,2]),(1000041,xj),(3000002,rA 0 37),(3000011,rA 0 69)] [zw,bZ,bO] 0 ec (ks:=[.st .recv]) cf rB
noncomputable def cB:FF (Conn×Unit) (Int):=⟨λ(x0,_)=>
  .ite (x0.opts.mss==0) (.ret 536)<|
  .val (β:=Int) (if 1<(if 1460<x0.opts.mss then 1460 else x0.opts.mss)then(if 1460<x0.opts.mss then 1460 else x0.opts.mss)else 1) λe1=>
  .ret e1⟩
noncomputable def QU:=lS st Tryz.func379 [] (ks:=[.st .conn]) cB rI
noncomputable def cU:FT (Sndr×Chun×Unit) (Sndr) (λx=>ci x.1∧nL x.2.1) (λx v=>ci v∧(SO x.1→(x.2.1.text.length:Int)+x.1.sent≤x.1.data.length→x.1.finSent=false→(x.2.1.fin=true→x.1.fin=true∧x.1.done=false∧x.1.sent+x.2.1.text.length=x.1.data.length)→v={x.1 with sent:=x.1.sent+x.2.1.text.length,finSent:=x.2.1.fin})):= .mk λ(x0,x1,_)=>
  .ite x0.finSent (.cal bQ.c (x0,()) λc1=>
   .ite (!c1) (.ret x0)<|
   .cal bQ.c (({x0 with sent:=(IntKind.wrap .i64 (x0.sent+(x1.text.length:Int))),finSent:=true}:Sndr),()) λc2=>
   .ite (!c2) (.ret x0)<|
   .ite x1.fin (.ite (!x0.fin) (.ret x0)<|
    .ite x0.done (.ret x0)<|
    .ret ({x0 with sent:=(IntKind.wrap .i64 (x0.sent+(x1.text.length:Int))),finSent:=true}:Sndr))<|
   .ret ({x0 with sent:=(IntKind.wrap .i64 (x0.sent+(x1.text.length:Int))),finSent:=true}:Sndr))<|
  .cal bQ.c (x0,()) λc3=>
  .ite (!c3) (.ret x0)<|
  .cal bQ.c (({x0 with sent:=(IntKind.wrap .i64 (x0.sent+(x1.text.length:Int))),finSent:=x1.fin}:Sndr),()) λc4=>
  .ite (!c4) (.ret x0)<|
  .ite x1.fin (.ite (!x0.fin) (.ret x0)<|
   .ite x0.done (.ret x0)<|
   .ret ({x0 with sent:=(IntKind.wrap .i64 (x0.sent+(x1.text.length:Int))),finSent:=x1.fin}:Sndr))<|
  .ret ({x0 with sent:=(IntKind.wrap .i64 (x0.sent+(x1.text.length:Int))),finSent:=x1.fin}:Sndr)
noncomputable def Nk:=bm st Tryz.func380 [rE] (ks:=[.st .sndr,.st .chun]) cU (λv=>[(true,xg v)])
def wQ:Sh:=⟨[zi 0],[]⟩
noncomputable def jO (a:Int):Tr (Stp (Int) ((Int))):=
 .ite (decide (65536≤a)) (.val (IntKind.wrap .i64 ((IntKind.wrap .i64 (a.tdiv 65536))+(a.tmod 65536))) λe1=>
  .ret (.next e1))<|
 .ret (.out a)
noncomputable def jP:wQ.V→LW wQ (Int) ((Int)):=λ(v0,_)=>⟨v0,λa=>(a,()),jO,Int.toNat v0,oN (.exit 0) ⟨[zi 0,zu 2],[]⟩ (λp=>(p,()))⟩
theorem HJ {v0:Int}(h0:0≤v0∧v0≤9223372036854775807):(jP (v0,())).W (λp=>0≤p∧p≤65535):=
 LW.okW (a:=v0) (λa=>0≤a∧a≤9223372036854775807) (λa=>Int.toNat a) rfl h0 λv0 hv=>by
  refine Tr.I (λb0=>Tr.V λe1 he1=>Tr.Rn ?_) λb0=>Tr.Ro ?_
  all_goals (((try subst_vars);simp only[decide_eq_true_eq,decide_eq_false_iff_not]at*;first|omega|(rw[A2 (by omega) (by omega)];omega)|grind))
noncomputable def ri:FT (Int×Unit) (Int) (λx=>x.1≤9223372036854775807) (λx v=>0≤v∧v≤65535):= .mk (λ(x0,_)=>
  .ite (decide (x0<0)) (.ret 0)<|
  .lp (jP (x0,())).lp λp2a0=>
  .ret p2a0) (pQ @HJ)
noncomputable def Pf:=Jz st Tryz.func382 [(0,lb [0] [0,2])] [] 0 jP (ks:=[.sc (.int .i64)]) ri rI
def uM:Sh:=⟨[zs 0,zi 3,zi 4],[]⟩
noncomputable def gd (v0:ac)(v2:Int)(a:Int):Tr (Stp (Int) (Empty)):=
 .ite ((v2.tmod 2)==0) (.grd (dr v0 v2)<|
  .val (IntKind.wrap .i64 (a+(IntKind.wrap .i64 ((IntKind.wrap .i64 (af v0 v2.toNat))*256)))) λe1=>
  .ret (.next e1))<|
 .grd (dr v0 v2)<|
 .ret (.next (IntKind.wrap .i64 (a+(IntKind.wrap .i64 (af v0 v2.toNat)))))
noncomputable def iR:uM.V→sD uM Int:=λ(v0,v1,v2,_)=>⟨v2,v1,λv2 a=>(v0,a,v2,()),λv2 _=>(decide (v2<(v0.length:Int))),gd v0,up,1,(Int.toNat ((v0.length:Int)-v2)),Empty.elim,Prod.mk,oN (.exit 0) ⟨[zu 2,zi 3],[]⟩ (λx=>(x.2,()))⟩
theorem Eh {v0:ac}{v1 v2:Int}(h0:0≤v2)(h1:(v0.length:Int)≤4611686018427387904)(h2:sS v0)(h3:0≤v1∧v1≤65536*v2):(iR (v0,v1,v2,())).U (v0.length:Int) (λv2 a=>0≤a∧a≤65536*v2) (λ_=>True):=
 kN (a:=v1) h0 h1 h3
noncomputable def og:FT (ac×Unit) (Int) (λx=>sS x.1) (λx v=>0≤v∧v≤281474976710656):=⟨λ(x0,_)=>
  .lp (iR (x0,0,0,())).lp λ(_,a2_0)=>
  .ret a2_0,
 λ(x0,_) hp=>by
  refine Tr.L (Eh ?_ ?_ ?_ ?_) (λa2_0 _=>Tr.R ?_) (λp=>Empty.elim p)
  all_goals ((try simp only[iR,LC.lp,LC.ct,Ct.lp]at*)<;>grind)⟩
noncomputable def Oz:=fD st Tryz.func383 [(0,lb [0,3,4] [2,3])] [] 0 iR (ks:=[.sc .str]) og rI
noncomputable def fT:FT (Pack×Unit) (Bool) (λ_=>True) (λx v=>(v=true→x.1.body.length≤1480)):= .mk λ(x0,_)=>
  .cal aa.c (x0.src,32,()) λc1=>
  .ite c1 (.cal aa.c (x0.dst,32,()) λc2=>
   .ite c2 (.val (bt.f (x0.ttl,1,255,())) λc3=>
    .ite c3 (.cal aa.c (x0.proto,8,()) λc4=>
     .ite c4 (.cal aa.c (x0.id,16,()) λc5=>
      .ite c5 (.ret (decide ((x0.body.length:Int)≤1480)))<|
      .ret false)<|
     .ret false)<|
    .ret false)<|
   .ret false)<|
  .ret false
noncomputable def Kx:=bm st Tryz.func384 [bZ,bO] (ks:=[.st .pack]) fT rB
noncomputable def bI:FF (Unit) (Opti):=⟨λ_=>
  .ret (⟨0,(-1),false,false,0,0⟩:Opti)⟩
noncomputable def dJ:=lS st Tryz.func389 [] (ks:=[]) bI (λv=>[(true,ml v)])
noncomputable def SB:=[mR,lY]
noncomputable def R9:Fx:=⟨390,Tryz.f390,[(3000002,rA 0 8),(3000004,rA 0 22),(3000006,rA 0 35),(3000008,rA 0 44)],0⟩
noncomputable def Dt:FT (Opti×ac×Unit) (Opti) (λx=>sS x.2.1∧0<x.2.1.length) (λ_ _=>True):= .mk λ(x0,x1,_)=>
  .bnd (β:=Bool×Unit) (.grd (decide (0<(x1.length:Int)))<|
   .ite ((af x1 0)==2) (.ret (((x1.length:Int)==4),()))<|
   .ret (false,())) λ(u1a0,_)=>
  .ite u1a0 (.cal bD.c (x1,2,2,()) λc2=>
   .ret ({x0 with mss:=c2.1}:Opti))<|
  .bnd (β:=Bool×Unit) (.grd (decide (0<(x1.length:Int)))<|
   .ite ((af x1 0)==3) (.ret (((x1.length:Int)==3),()))<|
   .ret (false,())) λ(u3a0,_)=>
  .ite u3a0 (.grd (decide (2<(x1.length:Int)))<|
   .val (iC.f (14,(IntKind.wrap .i64 (af x1 2)),())) λc4=>
   .ret ({x0 with scale:=c4}:Opti))<|
  .bnd (β:=Bool×Unit) (.grd (decide (0<(x1.length:Int)))<|
   .ite ((af x1 0)==4) (.ret (((x1.length:Int)==2),()))<|
   .ret (false,())) λ(u5a0,_)=>
  .ite u5a0 (.ret ({x0 with sack:=true}:Opti))<|
  .bnd (β:=Bool×Unit) (.grd (decide (0<(x1.length:Int)))<|
   .ite ((af x1 0)==8) (.ret (((x1.length:Int)==10),()))<|
   .ret (false,())) λ(u6a0,_)=>
  .ite u6a0 (.cal bD.c (x1,2,4,()) λc7=>
   .cal bD.c (x1,6,4,()) λc8=>
   .ret ({x0 with stamp:=true,val:=c7.1,echo:=c8.1}:Opti))<|
  .ret x0
noncomputable def Sq:=ck st R9 SB [] (ks:=[.st .opti,.sc .str]) Dt (λv=>[(true,ml v)]) Tryz.func390 trivial
noncomputable def mv:FF (Opti×Unit) (Opti):=⟨λ(x0,_)=>
  .ite x0.stamp (.ret x0)<|
  .val (bI.f (())) λc1=>
  .ret ({c1 with mss:=x0.mss}:Opti)⟩
noncomputable def C4:=lS st Tryz.func395 [dJ] (ks:=[.st .opti]) mv (λv=>[(true,ml v)])
noncomputable def Kk:FT (List Entr×Int×Unit) (Int×Bool) (λx=>sS x.1) (λ_ _=>True):= .mk λ(x0,x1,_)=>
  .cal vN.c (x0,x1,()) λc1=>
  .ite (decide (c1<0)) (.ret (0,false))<|
  .grd (dr x0 c1)<|
  .ret ((x0.getD c1.toNat (Ty.zero .entr)).hw,true)
noncomputable def UV:=bm st Tryz.func399 [Ak] (ks:=[.sc (.sl .entr),.sc (.int .i64)]) Kk (λv=>[(false,[.c (.int .i64 v.1)]),(false,[.c (.bool v.2)])])
def oX:Sh:=⟨[zs 3],[]⟩
def xS:An:=⟨⟨[],[],false,0⟩,⟨[1,2,3],[],false,0⟩,⟨[],[]⟩,[(.normal,⟨[zp 1 0,zs 2,zs 3],[zx .opti]⟩)]⟩
def wh:An:=⟨⟨[],[],false,0⟩,⟨[1,2,3],[],false,0⟩,⟨[],[]⟩,[(.normal,⟨[zp 1 0,zs 2,zs 3],[zx .opti]⟩)]⟩
def wd:An:=⟨⟨[],[],false,0⟩,⟨[1,2,3],[],false,0⟩,⟨[],[]⟩,[(.normal,⟨[zp 1 0,zs 2,zs 3],[zx .opti]⟩)]⟩
def wg:An:=⟨⟨[],[],false,0⟩,⟨[2,3],[],false,0⟩,⟨[],[]⟩,[(.normal,⟨[zs 2,zs 3],[]⟩)]⟩
noncomputable def pq (a:ac):Tr (Stp (ac) ((ac))):=
 .ite (((a.length:Int).tmod 4) != 0) (.grd (Nat.ble (a.length+1) ao)<|
  .ret (.next (a++[1])))<|
 .ret (.out a)
noncomputable def gW:oX.V→LW oX (ac) ((ac)):=λ(v0,_)=>⟨v0,λa=>(a,()),pq,(4-v0.length%4)%4,oN (.exit 0) ⟨[zu 2,zs 3],[]⟩ (λp=>(p,()))⟩
theorem xp {v0:ac}(h0:v0.length+(4-v0.length%4)%4≤20):(gW (v0,())).W (λp=>p.length≤20):=
 Xz (a:=v0) (λa=>a.length+(4-a.length%4)%4≤20) (λa=>(4-a.length%4)%4) h0
noncomputable def mz:FT (Opti×Unit) (ac) (λ_=>True) (λx v=>sS v∧v.length≤20):= .mk (λ(x0,_)=>
  .cal dX.c (x0,()) λc1=>
  .ite (!c1) (.ret [])<|
  .bnd (β:=ac×ac×Opti×Unit) (.as (λw=>sS w.1∧sS w.2.1∧w.2.1.length≤4) (.ite (x0.mss != 0) (.cal aM.c (x0.mss,2,()) λc2=>
    .grd (Nat.ble (2+c2.length) ao)<|
    .ret ([],([2,4]++c2),x0,()))<|
   .ret ([],[],x0,()))) λ(u3a0,u3a1,u3a2,_)=>
  .bnd (β:=ac×ac×Opti×Unit) (.as (λw=>sS w.1∧sS w.2.1∧w.2.1.length≤7) (.ite (decide (0≤u3a2.scale)) (.grd (Nat.ble (u3a1.length+2) ao)<|
    .cal aM.c (u3a2.scale,1,()) λc4=>
    .grd (Nat.ble ((u3a1++[3,3]).length+c4.length) ao)<|
    .ret (u3a0,((u3a1++[3,3])++c4),u3a2,()))<|
   .ret (u3a0,u3a1,u3a2,()))) λ(u5a0,u5a1,u5a2,_)=>
  .bnd (β:=ac×ac×Opti×Unit) (.as (λw=>sS w.1∧sS w.2.1∧w.2.1.length≤9) (.ite u5a2.sack (.grd (Nat.ble (u5a1.length+2) ao)<|
    .ret (u5a0,(u5a1++[4,2]),u5a2,()))<|
   .ret (u5a0,u5a1,u5a2,()))) λ(u6a0,u6a1,u6a2,_)=>
  .bnd (β:=ac×ac×Unit) (.as (λw=>sS w.1∧sS w.2.1∧w.2.1.length≤19) (.ite u6a2.stamp (.grd (Nat.ble (u6a1.length+2) ao)<|
    .cal aM.c (u6a2.val,4,()) λc7=>
    .grd (Nat.ble ((u6a1++[8,10]).length+c7.length) ao)<|
    .cal aM.c (u6a2.echo,4,()) λc8=>
    .grd (Nat.ble (((u6a1++[8,10])++c7).length+c8.length) ao)<|
    .ret (u6a0,(((u6a1++[8,10])++c7)++c8),()))<|
   .ret (u6a0,u6a1,()))) λ(_,u9a1,_)=>
  .lp (gW (u9a1,())).lp λp10a0=>
  .ret p10a0) (pQ @xp)
noncomputable def CH:=Jz st Tryz.func400 [(0,lb [3] [2,3]),(1000009,xS),(1000018,wh),(1000026,wd),(1000030,wg)] [jF,iT] 0 gW (ks:=[.st .opti]) mz (λv=>[(false,[.c (.str v)])])
noncomputable def Mt:FF (Conn×Unit) (Bool):=⟨λ(x0,_)=>
  .ite (!(x0.s.data==[])) (.ret true)<|
  .ite x0.s.fin (.ret (!x0.s.done))<|
  .ret false⟩
noncomputable def QS:=lS st Tryz.func401 [] (ks:=[.st .conn]) Mt rB
noncomputable def Ke:=[bP,b8]
noncomputable def KK:Fx:=⟨402,Tryz.f402,[(3000001,rA 0 21),(3000003,rA 0 36)],0⟩
noncomputable def ey:FT (Sndr×Unit) (Bool) (λ_=>True) (λx v=>(v=true↔SO x.1)):= .mk λ(x0,_)=>
  .bnd (β:=Bool×Unit) (.cal aD.c (x0.una,32,()) λc1=>
   .ite (!c1) (.ret (true,()))<|
   .ite (decide (48<(x0.data.length:Int))) (.ret (true,()))<|
   .val (bN.f (x0.sent,0,(x0.data.length:Int),())) λc2=>
   .ret ((!c2),())) λ(u3a0,_)=>
  .ite u3a0 (.ret false)<|
  .bnd (β:=Bool×Unit) (.ite x0.finSent (.ite (!x0.fin) (.ret (true,()))<|
    .ret ((x0.sent != (x0.data.length:Int)),()))<|
   .ret (false,())) λ(u4a0,_)=>
  .ite u4a0 (.ret false)<|
  .ite (!x0.done) (.ret true)<|
  .ite x0.fin (.ite (!x0.finSent) (.ret (x0.data==[]))<|
   .ret false)<|
  .ret false
noncomputable def jx:=ck st KK Ke [] (ks:=[.st .sndr]) ey rB Tryz.func402 trivial
def pP:Sh:=⟨[zp 1 0,zi 3,zi 4,zi 5],[zg .recv]⟩
noncomputable def d9 (v0:Int)(v3:Recv)(v2:Int)(a:Int):Tr (Stp (Int) ((Int))):=
 .grd (dr v3.held v2)<|
 .bnd (β:=Bool×Unit) (.ite ((v3.held.getD v2.toNat (Ty.zero .piec)).text==[]) (.ret (true,()))<|
  .ite (decide ((v3.held.getD v2.toNat (Ty.zero .piec)).off≤a)) (.ret (true,()))<|
  .ite (decide (v0<(v3.held.getD v2.toNat (Ty.zero .piec)).off)) (.ret (true,()))<|
  .val (IntKind.wrap .i64 ((v3.held.getD v2.toNat (Ty.zero .piec)).off+(((v3.held.getD v2.toNat (Ty.zero .piec)).text).length:Int))) λe5=>
  .ret ((decide (v0<e5)),())) λ(u6a0,_)=>
 .ite u6a0 (.ret (.out a))<|
 .val (IntKind.wrap .i64 ((v3.held.getD v2.toNat (Ty.zero .piec)).off+(((v3.held.getD v2.toNat (Ty.zero .piec)).text).length:Int))) λe7=>
 .ret (.next e7)
noncomputable def fC:pP.V→tM pP Int (Int):=λ(v0,v1,v2,v3,_)=>⟨v2,v1,λv2 a=>(v0,a,v2,v3,()),λv2 _=>(decide (v2<(v3.held.length:Int))),d9 v0 v3,up,1,(Int.toNat ((v3.held.length:Int)-v2)),.inl,eR,oB .ret ⟨[zp 1 0,zb 2,zi 4],[zg .recv]⟩ (λp=>(false,p,v3,())) (.exit 0) ⟨[zp 1 0,zu 2,zi 4],[zg .recv]⟩ (λx=>(x.2,v3,()))⟩
theorem zZ {v0 v1 v2:Int}{v3:Recv}(h0:0≤v2)(h1:(v3.held.length:Int)≤4611686018427387904)(h2:v0≤32)(h3:0≤v0)(h4:aZ v3)(h5:0≤v1∧v1≤32∧cY po (v3.held.take v2.toNat)):(fC (v0,v1,v2,v3,())).U (v3.held.length:Int) (λv2 a=>0≤a∧a≤32∧cY po (v3.held.take v2.toNat)) (λ_=>True):=
 LC.okU (i:=v2) (a:=v1) (λ_ _=>rfl) (λ_=>rfl) rfl h0 h1 h5 λv2 v1 hj hk hv=>by
  refine Tr.G2 ?_ λ_=>Tr.B (Q':=λ_=>True) (Tr.F (by kernel_rfl) trivial) (λ(u6a0,_) _ _=>Tr.I (λ_=>Tr.Ro trivial) λ_=>Tr.V λ_ _=>Tr.Rn ?_)
  all_goals ((try simp only[Tr.nice,jy]at*)<;>grind [←Vz])
noncomputable def ju:FT (Recv×Unit) (Bool) (λx=>aZ x.1) (λx v=>(v=true→RO x.1)):=⟨λ(x0,_)=>
  .cal fR.c (x0,()) λc1=>
  .bnd (β:=Bool×Unit) (.cal aD.c (x0.next,32,()) λc2=>
   .ite (!c2) (.ret (true,()))<|
   .ite (decide (32<(x0.data.length:Int))) (.ret (true,()))<|
   .ite (decide (3<(x0.held.length:Int))) (.ret (true,()))<|
   .val (bN.f (x0.fin,(-1),c1,())) λc3=>
   .ite (!c3) (.ret (true,()))<|
   .ret ((x0.fin==0),())) λ(u4a0,_)=>
  .ite u4a0 (.ret false)<|
  .lp (fC (c1,0,0,x0,())).lp λw8=> .sum w8 (λ_=>
  .ret false)<|
  λ(_,a8_0)=>
  .ite (decide (x0.fin<0)) (.ite (!x0.done) (.ret true)<|
   .ite ((x0.held.length:Int)==0) (.ret (x0.fin==(-1)))<|
   .ret false)<|
  .ite (decide (a8_0≤x0.fin)) (.ite (!x0.done) (.ret true)<|
   .ite ((x0.held.length:Int)==0) (.ret (x0.fin==(-1)))<|
   .ret false)<|
  .ret false,
 λ(x0,_) hp=>by
  refine Tr.C ?_ λ_ _ _=>Tr.B (Q':=λ_=>True) (Tr.C trivial λ_ _ _=>Tr.F (by kernel_rfl) trivial) (λ(u4a0,_) _ _=>Tr.I (λ_=>Tr.R ?_) λ_=>Tr.L (zZ ?_ ?_ ?_ ?_ ?_ ?_) (λa8_0 _=>Tr.Sr (Tr.I (λ_=>Tr.I (λ_=>Tr.R ?_) λ_=>Tr.I (λ_=>Tr.R ?_) λ_=>Tr.R ?_) λ_=>Tr.I (λ_=>Tr.I (λ_=>Tr.R ?_) λ_=>Tr.I (λ_=>Tr.R ?_) λ_=>Tr.R ?_) λ_=>Tr.R ?_)) (λp8a0 _=>Tr.Sl (Tr.R ?_)))
  all_goals ((try simp only[fC,LC.lp,LC.ct,Ct.lp,Tr.nice,jy]at*)<;>grind [Xr])⟩
noncomputable def ot:=fD st Tryz.func403 [(0,lb [1,3,4,5] [1,2,4]),(3000002,rA 0 36),(3000009,rA 0 73)] [jd,bP,b8] 0 fC (ks:=[.st .recv]) ju rB
noncomputable def Fg:FF (Int×Unit) (Bool):=⟨λ(x0,_)=>
  .ite (x0 != 1) (.ret (x0 != 4))<|
  .ret false⟩
noncomputable def Q1:=lS st Tryz.func404 [] (ks:=[.sc (.int .i64)]) Fg rB
noncomputable def qy:FF (Conn×Unit) (Int):=⟨λ(x0,_)=>
  .ite (x0.opts.mss==0) (.ret 536)<|
  .val (iC.f (1460,x0.opts.mss,())) λc1=>
  .val (eE.f (1,c1,())) λc2=>
  .ret c2⟩
noncomputable def PM:=lS st Tryz.func407 [lY,kD] (ks:=[.st .conn]) qy rI
noncomputable def kJ:FT (Sndr×Chun×Unit) (Sndr) (λx=>ci x.1∧nL x.2.1) (λx v=>ci v∧(SO x.1→(x.2.1.text.length:Int)+x.1.sent≤x.1.data.length→x.1.finSent=false→(x.2.1.fin=true→x.1.fin=true∧x.1.done=false∧x.1.sent+x.2.1.text.length=x.1.data.length)→v={x.1 with sent:=x.1.sent+x.2.1.text.length,finSent:=x.2.1.fin})):= .mk λ(x0,x1,_)=>
  .ite x0.finSent (.cal ey.c (x0,()) λc1=>
   .ite (!c1) (.ret x0)<|
   .cal ey.c (({x0 with sent:=(IntKind.wrap .i64 (x0.sent+(x1.text.length:Int))),finSent:=true}:Sndr),()) λc2=>
   .ite (!c2) (.ret x0)<|
   .ite x1.fin (.ite x0.done (.ret x0)<|
    .ret ({x0 with sent:=(IntKind.wrap .i64 (x0.sent+(x1.text.length:Int))),finSent:=true}:Sndr))<|
   .ret ({x0 with sent:=(IntKind.wrap .i64 (x0.sent+(x1.text.length:Int))),finSent:=true}:Sndr))<|
  .cal ey.c (x0,()) λc3=>
  .ite (!c3) (.ret x0)<|
  .cal ey.c (({x0 with sent:=(IntKind.wrap .i64 (x0.sent+(x1.text.length:Int))),finSent:=x1.fin}:Sndr),()) λc4=>
  .ite (!c4) (.ret x0)<|
  .ite x1.fin (.ite x0.done (.ret x0)<|
   .ret ({x0 with sent:=(IntKind.wrap .i64 (x0.sent+(x1.text.length:Int))),finSent:=x1.fin}:Sndr))<|
  .ret ({x0 with sent:=(IntKind.wrap .i64 (x0.sent+(x1.text.length:Int))),finSent:=x1.fin}:Sndr)
noncomputable def Bo:=bm st Tryz.func408 [jx] (ks:=[.st .sndr,.st .chun]) kJ (λv=>[(true,xg v)])
noncomputable def sN:FF (Int×Int×Unit) (Sipr):=⟨λ(x0,x1,_)=>
  .ret (⟨(bits .xor .u64 x0 8317987319222330741),(bits .xor .u64 x1 7237128888997146477),(bits .xor .u64 x0 7816392313619706465),(bits .xor .u64 x1 8387220255154660723)⟩:Sipr)⟩
noncomputable def J6:=lS st Tryz.func410 [] (ks:=[.sc (.int .u64),.sc (.int .u64)]) sN (λv=>[(true,Au v)])
def wM:Sh:=⟨[zs 0,(3,false,[.int .u64]),zi 4],[]⟩
noncomputable def HN (v0:ac)(v2:Int)(a:Int):Tr (Stp (Int) (Empty)):=
 .grd (dr v0 v2)<|
 .val (bits .or .u64 (IntKind.wrap .u64 (a*256)) (IntKind.wrap .u64 (af v0 v2.toNat))) λe1=>
 .ret (.next e1)
noncomputable def mB:wM.V→sD wM Int:=λ(v0,v1,v2,_)=>⟨v2,v1,λv2 a=>(v0,a,v2,()),λv2 _=>(decide (0≤v2)),HN v0,dn,(-1),(Int.toNat (v2-0+1)),Empty.elim,Prod.mk,oN (.exit 0) ⟨[zu 2,(3,false,[.int .u64])],[]⟩ (λx=>(x.2,()))⟩
theorem G8 {v0:ac}{v1 v2:Int}(h0:v2≤9223372036854775807)(h1:v2<(v0.length:Int)):(mB (v0,v1,v2,())).D 0 (λv2 a=>v2<(v0.length:Int)) (λ_=>True):=
 XS (a:=v1) h0 (by decide) h1
noncomputable def oj:FT (ac×Unit) (Int) (λx=>sS x.1) (λ_ _=>True):= .mk (λ(x0,_)=>
  .lp (mB (x0,0,(IntKind.wrap .i64 ((x0.length:Int)-1)),())).lp λ(_,a2_0)=>
  .ret a2_0) (pQ @G8)
noncomputable def QW:=fD st Tryz.func412 [(0,lb [0,3,4] [2,3])] [] 0 mB (ks:=[.sc .str]) oj (λv=>[(false,[.c (.int .u64 v)])])
noncomputable def dU:FT (Sndr×Unit) (Int) (λx=>ci x.1) (λx v=>(0≤x.1.sent∧x.1.sent≤1000→x.1.sent≤v∧v≤x.1.sent+1)):= .mk λ(x0,_)=>
  .ite x0.finSent (.ret (IntKind.wrap .i64 (x0.sent+1)))<|
  .ret x0.sent
noncomputable def DG:=bm st Tryz.func420 [] (ks:=[.st .sndr]) dU rI
noncomputable def mI:FT (Int×Unit) (Recv) (λ_=>True) (λx v=>aZ v):= .mk λ(x0,_)=>
  .val (lD.f (x0,0,())) λc1=>
  .ret (⟨c1,[],[],(-1),false⟩:Recv)
noncomputable def Tn:=bm st Tryz.func425 [pa] (ks:=[.sc (.int .i64)]) mI (λv=>[(true,uy (.o true) v)])
noncomputable def Lm:=[bZ]
noncomputable def Ot:Fx:=⟨426,Tryz.f426,[(3000001,rA 0 13)],0⟩
noncomputable def kA:FT (Int×Unit) (Int×Bool×Bool) (λ_=>True) (λ_ _=>True):= .mk λ(x0,_)=>
  .bnd (β:=Bool×Unit) (.cal aa.c (x0,32,()) λc1=>
   .ite (!c1) (.ret (true,()))<|
   .ret (((bits .and .i64 x0 32)==0),())) λ(u2a0,_)=>
  .ite u2a0 (.ret ((-1),false,false))<|
  .ite ((bits .and .i64 x0 15)==15) (.ret ((-1),((bits .and .i64 x0 16) != 0),true))<|
  .ret ((bits .and .i64 x0 15),((bits .and .i64 x0 16) != 0),true)
noncomputable def L1:=ck st Ot Lm [] (ks:=[.sc (.int .i64)]) kA (λv=>[(false,[.c (.int .i64 v.1)]),(false,[.c (.bool v.2.1)]),(false,[.c (.bool v.2.2)])]) Tryz.func426 trivial
noncomputable def vR:FT (Fram×Unit) (Bool) (λ_=>True) (λx v=>(v=true→x.1.body.length≤1586)):= .mk λ(x0,_)=>
  .cal aD.c (x0.dst,48,()) λc1=>
  .ite c1 (.cal aD.c (x0.src,48,()) λc2=>
   .ite c2 (.val (bN.f (x0.type,1536,65535,())) λc3=>
    .ite c3 (.ret (decide ((x0.body.length:Int)≤1586)))<|
    .ret false)<|
   .ret false)<|
  .ret false
noncomputable def N6:=bm st Tryz.func428 [bP,b8] (ks:=[.st .fram]) vR rB
noncomputable def fO:FT (Sndr×Unit) (Int) (λx=>ci x.1) (λx v=>(0≤x.1.sent∧x.1.sent≤1000→x.1.sent≤v∧v≤x.1.sent+1)):= .mk λ(x0,_)=>
  .ite x0.finSent (.ret (IntKind.wrap .i64 (x0.sent+1)))<|
  .ret x0.sent
noncomputable def gH:=bm st Tryz.func445 [] (ks:=[.st .sndr]) fO rI
noncomputable def ry:FT (Pack×Unit) (Bool) (λ_=>True) (λx v=>(v=true→x.1.body.length≤1480)):= .mk λ(x0,_)=>
  .cal aD.c (x0.src,32,()) λc1=>
  .ite c1 (.cal aD.c (x0.dst,32,()) λc2=>
   .ite c2 (.val (bN.f (x0.ttl,1,255,())) λc3=>
    .ite c3 (.cal aD.c (x0.proto,8,()) λc4=>
     .ite c4 (.cal aD.c (x0.id,16,()) λc5=>
      .ite c5 (.ret (decide ((x0.body.length:Int)≤1480)))<|
      .ret false)<|
     .ret false)<|
    .ret false)<|
   .ret false)<|
  .ret false
noncomputable def K6:=bm st Tryz.func447 [bP,b8] (ks:=[.st .pack]) ry rB
noncomputable def z0:FT (Arpm×Unit) (Bool) (λ_=>True) (λ_ _=>True):= .mk λ(x0,_)=>
  .val (bN.f (x0.kind,1,2,())) λc1=>
  .ite c1 (.cal aD.c (x0.srcHw,48,()) λc2=>
   .ite c2 (.cal aD.c (x0.dstHw,48,()) λc3=>
    .ite c3 (.cal aD.c (x0.srcIp,32,()) λc4=>
     .ite c4 (.cal aD.c (x0.dstIp,32,()) λc5=>
      .ret c5)<|
     .ret false)<|
    .ret false)<|
   .ret false)<|
  .ret false
noncomputable def IB:=bm st Tryz.func450 [b8,bP] (ks:=[.st .arpm]) z0 rB
def wq:Sh:=⟨[zi 0],[]⟩
noncomputable def ql (a:Int):Tr (Stp (Int) ((Int))):=
 .ite (decide (65535<a)) (.val (IntKind.wrap .i64 ((IntKind.wrap .i64 (a.tdiv 65536))+(a.tmod 65536))) λe1=>
  .ret (.next e1))<|
 .ret (.out a)
noncomputable def mF:wq.V→LW wq (Int) ((Int)):=λ(v0,_)=>⟨v0,λa=>(a,()),ql,Int.toNat v0,oN (.exit 0) ⟨[zi 0,zu 2],[]⟩ (λp=>(p,()))⟩
theorem Hl {v0:Int}(h0:0≤v0∧v0≤9223372036854775807):(mF (v0,())).W (λp=>0≤p∧p≤65535):=
 LW.okW (a:=v0) (λa=>0≤a∧a≤9223372036854775807) (λa=>Int.toNat a) rfl h0 λv0 hv=>by
  refine Tr.I (λb0=>Tr.V λe1 he1=>Tr.Rn ?_) λb0=>Tr.Ro ?_
  all_goals (((try subst_vars);simp only[decide_eq_true_eq,decide_eq_false_iff_not]at*;first|omega|(rw[A2 (by omega) (by omega)];omega)|grind))
noncomputable def zT:FT (Int×Unit) (Int) (λx=>x.1≤9223372036854775807) (λx v=>0≤v∧v≤65535):= .mk (λ(x0,_)=>
  .ite (decide (x0<0)) (.ret 0)<|
  .lp (mF (x0,())).lp λp2a0=>
  .ret p2a0) (pQ @Hl)
noncomputable def PY:=Jz st Tryz.func451 [(0,lb [0] [0,2])] [] 0 mF (ks:=[.sc (.int .i64)]) zT rI
def tV:Sh:=⟨[zs 0,zi 3,zi 4],[]⟩
noncomputable def gi (v0:ac)(v2:Int)(a:Int):Tr (Stp (Int) (Empty)):=
 .grd (dr v0 v2)<|
 .val (IntKind.wrap .i64 (a+(IntKind.wrap .i64 (256*(IntKind.wrap .i64 (af v0 v2.toNat)))))) λe1=>
 .ite (decide ((IntKind.wrap .i64 (v2+1))<(v0.length:Int))) (.grd (dr v0 (IntKind.wrap .i64 (v2+1)))<|
  .val (IntKind.wrap .i64 (e1+(IntKind.wrap .i64 (af v0 ((IntKind.wrap .i64 (v2+1)).toNat))))) λe2=>
  .ret (.next e2))<|
 .ret (.next e1)
noncomputable def di:tV.V→sD tV Int:=λ(v0,v1,v2,_)=>⟨v2,v1,λv2 a=>(v0,a,v2,()),λv2 _=>(decide (v2<(v0.length:Int))),gi v0,λv2=>IntKind.wrap .i64 (v2+2),2,(Int.toNat (((v0.length:Int)-v2+1)/2)),Empty.elim,Prod.mk,oN (.exit 0) ⟨[zu 2,zi 3],[]⟩ (λx=>(x.2,()))⟩
theorem DJ {v0:ac}{v1 v2:Int}(h0:0≤v2)(h1:(v0.length:Int)≤4611686018427387904)(h2:sS v0)(h3:0≤v1∧v1≤65536*v2):(di (v0,v1,v2,())).S (λv2 a=>0≤a∧a≤65536*v2) (λ_=>True):=by
 refine LC.okS h3 (λj a hj hv=>⟨⟨?_, ?_⟩, ?_⟩) (λa hv=> ?_)
 ·simp only[di,decide_eq_true_eq]at*;omega
 ·simp only[di]at*;exact au (by omega) (by omega)
 ·refine Tr.G2 ?_ λ_=>Tr.V λ_ _=>Tr.I (λ_=>Tr.G2 ?_ λ_=>Tr.V λ_ _=>Tr.Rn ?_) λ_=>Tr.Rn ?_
  all_goals (try simp only[di]at*)<;>(grind)
 ·simp only[di,decide_eq_false_iff_not]at*;omega
noncomputable def vv:FT (ac×Unit) (Int) (λx=>sS x.1) (λx v=>0≤v∧v≤281474976710656):=⟨λ(x0,_)=>
  .lp (di (x0,0,0,())).lp λ(_,a3_0)=>
  .ret a3_0,
 λ(x0,_) hp=>by
  refine Tr.L (DJ ?_ ?_ ?_ ?_) (λa3_0 _=>Tr.R ?_) (λp=>Empty.elim p)
  all_goals ((try simp only[di,LC.lp,LC.ct,Ct.lp]at*)<;>grind)⟩
noncomputable def NK:=fD st Tryz.func452 [(0,lb [0,3,4] [2,3])] [] 0 di (ks:=[.sc .str]) vv rI
noncomputable def gQ:FT (Segm×Unit) (Int) (λx=>ar x.1) (λx v=>0≤v∧v≤x.1.body.length+2):= .mk λ(x0,_)=>
  .val (fV.f (x0,2,())) λc1=>
  .ite c1 (.val (fV.f (x0,1,())) λc2=>
   .ite c2 (.val (IntKind.wrap .i64 ((IntKind.wrap .i64 ((x0.body.length:Int)+1))+1)) λe3=>
    .ret e3)<|
   .ret (IntKind.wrap .i64 ((x0.body.length:Int)+1)))<|
  .val (fV.f (x0,1,())) λc4=>
  .ite c4 (.ret (IntKind.wrap .i64 ((x0.body.length:Int)+1)))<|
  .ret (x0.body.length:Int)
noncomputable def pm:=bm st Tryz.func453 [rN] (ks:=[.st .segm]) gQ rI
noncomputable def jE:FT (Int×Unit) (Recv) (λ_=>True) (λx v=>aZ v∧v.held.length≤3):= .mk λ(x0,_)=>
  .val (bJ.f (x0,())) λc1=>
  .ret (⟨c1,[],[],(-1),false⟩:Recv)
noncomputable def sX:=bm st Tryz.func456 [fP] (ks:=[.sc (.int .i64)]) jE (λv=>[(true,uy (.o true) v)])
noncomputable def yB:FT (Int×Unit) (Int) (λ_=>True) (λ_ _=>True):= .mk λ(x0,_)=>
  .val (bN.f (x0,0,7,())) λc1=>
  .ite (!c1) (.ret 0)<|
  .grd ((decide (0≤x0))&&(decide (x0<8)))<|
  .ret ([64,256,536,1024,1300,1400,1440,1460].getD x0.toNat 0)
noncomputable def Iq:=bm st Tryz.func457 [b8] (ks:=[.sc (.int .i64)]) yB rI
noncomputable def Mz:=[bP]
noncomputable def NU:Fx:=⟨458,Tryz.f458,[(3000001,rA 0 13)],0⟩
noncomputable def vF:FT (Int×Unit) (Int×Bool×Bool) (λ_=>True) (λ_ _=>True):= .mk λ(x0,_)=>
  .bnd (β:=Bool×Unit) (.cal aD.c (x0,32,()) λc1=>
   .ite (!c1) (.ret (true,()))<|
   .ret (((bits .and .i64 x0 32)==0),())) λ(u2a0,_)=>
  .ite u2a0 (.ret ((-1),false,false))<|
  .ite ((x0.tmod 16)==15) (.ret ((-1),((bits .and .i64 x0 16) != 0),true))<|
  .ret ((x0.tmod 16),((bits .and .i64 x0 16) != 0),true)
noncomputable def Mw:=ck st NU Mz [] (ks:=[.sc (.int .i64)]) vF (λv=>[(false,[.c (.int .i64 v.1)]),(false,[.c (.bool v.2.1)]),(false,[.c (.bool v.2.2)])]) Tryz.func458 trivial
noncomputable def lW:FF (Int×Int×Bool×Unit) (Int):=⟨λ(x0,x1,x2,_)=>
  .ite x2 (.val (IntKind.wrap .i64 ((IntKind.wrap .i64 ((IntKind.wrap .i64 (x0*64))+32))+16)) λe1=>
   .val (bt.f (x1,0,14,())) λc2=>
   .ite (!c2) (.ret (bits .and .i64 (IntKind.wrap .i64 (e1+15)) 4294967295))<|
   .ret (bits .and .i64 (IntKind.wrap .i64 (e1+x1)) 4294967295))<|
  .val (bt.f (x1,0,14,())) λc3=>
  .ite (!c3) (.val (IntKind.wrap .i64 ((IntKind.wrap .i64 ((IntKind.wrap .i64 (x0*64))+32))+15)) λe4=>
   .ret (bits .and .i64 e4 4294967295))<|
  .val (IntKind.wrap .i64 ((IntKind.wrap .i64 ((IntKind.wrap .i64 (x0*64))+32))+x1)) λe5=>
  .ret (bits .and .i64 e5 4294967295)⟩
noncomputable def OD:=lS st Tryz.func466 [bO] (ks:=[.sc (.int .i64),.sc (.int .i64),.sc .bool]) lW rI
noncomputable def tY:FT (Int×Unit) (ac) (λx=>0≤x.1∧x.1≤1048576) (λx v=>sS v):= .mk λ(x0,_)=>
  .grd ((((decide (0≤x0))&&(decide (x0=x0)))&&(decide (x0*1≤(bj:Int))))&&(decide (x0≤(bj:Int))))<|
  .ret (aA (List.replicate x0.toNat 0))
noncomputable def sx:=bm st Tryz.func474 [] (ks:=[.sc (.int .i64)]) tY (λv=>[(false,[.c (.str v)])])
def tK:Sh:=⟨[zi 0,zi 3,zi 4],[]⟩
noncomputable def tB (v0:Int)(v2:Int)(a:Int):Tr (Stp (Int) (Empty)):=
 .cal yB.c (v2,()) λc1=>
 .ite (decide (c1≤v0)) (.ret (.next v2))<|
 .ret (.next a)
noncomputable def jW:tK.V→sD tK Int:=λ(v0,v1,v2,_)=>⟨v2,v1,λv2 a=>(v0,a,v2,()),λv2 _=>(decide (v2<8)),tB v0,up,1,(Int.toNat (8-v2)),Empty.elim,Prod.mk,oN (.exit 0) ⟨[zu 2,zi 3],[]⟩ (λx=>(x.2,()))⟩
theorem Cq {v0 v1 v2:Int}(h0:0≤v2):(jW (v0,v1,v2,())).U 8 (λ_ _=>True) (λ_=>True):=
 kN (a:=v1) h0 (by decide) trivial
noncomputable def sm:FT (Int×Unit) (Int) (λ_=>True) (λ_ _=>True):= .mk (λ(x0,_)=>
  .lp (jW (x0,0,0,())).lp λ(_,a2_0)=>
  .ret a2_0) (pQ @Cq)
noncomputable def JV:=fD st Tryz.func477 [(0,lb [0,3,4] [2,3])] [Iq] 0 jW (ks:=[.sc (.int .i64)]) sm rI
noncomputable def LL:=[b8,fP]
def FH:An:=⟨⟨[],[],false,0⟩,⟨[0,1,6,7],[],false,0⟩,⟨[],[]⟩,[(.normal,⟨[zi 0,zi 1,zi 6,zi 7],[]⟩)]⟩
noncomputable def Nd:Fx:=⟨478,Tryz.f478,[(1000008,FH)],0⟩
noncomputable def vB:FF (Int×Int×Bool×Unit) (Int):=⟨λ(x0,x1,x2,_)=>
  .bnd (β:=Int×Int×Int×Int×Unit) (.ite x2 (.ret (x0,x1,0,48,()))<|
   .ret (x0,x1,0,32,())) λ(u1a0,u1a1,_,u1a3,_)=>
  .val (bN.f (u1a1,0,14,())) λc2=>
  .ite c2 (.val (bJ.f (u1a0,())) λc3=>
   .val (IntKind.wrap .i64 ((IntKind.wrap .i64 (c3*64))+(IntKind.wrap .i64 (u1a3+u1a1)))) λe4=>
   .val (bJ.f (e4,())) λc5=>
   .ret c5)<|
  .val (bJ.f (u1a0,())) λc6=>
  .val (IntKind.wrap .i64 ((IntKind.wrap .i64 (c6*64))+(IntKind.wrap .i64 (u1a3+15)))) λe7=>
  .val (bJ.f (e7,())) λc8=>
  .ret c8⟩
noncomputable def Mq:=Uc st Nd LL [] (ks:=[.sc (.int .i64),.sc (.int .i64),.sc .bool]) vB rI Tryz.func478 trivial
noncomputable def mj:FF (Int×Int×Int×Unit) (Bool):=⟨λ(x0,x1,x2,_)=>
  .ite (decide (0<x2)) (.val (bJ.f (x0,())) λc1=>
   .val (bJ.f (x1,())) λc2=>
   .val (bJ.f ((IntKind.wrap .i64 (c1-c2)),())) λc3=>
   .ret (decide (c3<x2)))<|
  .ret false⟩
noncomputable def rS:=lS st Tryz.func479 [fP] (ks:=[.sc (.int .i64),.sc (.int .i64),.sc (.int .i64)]) mj rB
noncomputable def jp:FT (Int×Int×Unit) (Int) (λx=>0≤x.2.1) (λ_ _=>True):= .mk λ(x0,x1,_)=>
  .grd (decide (0≤x1))<|
  .grd (decide (0≤(IntKind.wrap .u64 (64-x1))))<|
  .val (bits .or .u64 (IntKind.wrap .u64 (x0*2 ^ (min x1.toNat 64))) (x0.fdiv (2 ^ (min (IntKind.wrap .u64 (64-x1)).toNat 64)))) λe1=>
  .ret e1
noncomputable def OL:=bm st Tryz.func485 [] (ks:=[.sc (.int .u64),.sc (.int .u64)]) jp (λv=>[(false,[.c (.int .u64 v)])])
noncomputable def oG:FF (Int×Int×Unit) (Sipr):=⟨λ(x0,x1,_)=>
  .ret (⟨(bits .xor .u64 x0 8317987319222330741),(bits .xor .u64 x1 7237128888997146477),(bits .xor .u64 x0 7816392313619706465),(bits .xor .u64 x1 8387220255154660723)⟩:Sipr)⟩
noncomputable def JX:=lS st Tryz.func486 [] (ks:=[.sc (.int .u64),.sc (.int .u64)]) oG (λv=>[(true,Au v)])
def wR:Sh:=⟨[zl 0 .u8,(3,false,[.int .u64]),zi 4],[]⟩
noncomputable def GU (v0:List Int)(v2:Int)(a:Int):Tr (Stp (Int) (Empty)):=
 .grd (dr v0 v2)<|
 .val (bits .or .u64 (IntKind.wrap .u64 (a*256)) (IntKind.wrap .u64 (v0.getD v2.toNat 0))) λe1=>
 .ret (.next e1)
noncomputable def mA:wR.V→sD wR Int:=λ(v0,v1,v2,_)=>⟨v2,v1,λv2 a=>(v0,a,v2,()),λv2 _=>(decide (0≤v2)),GU v0,dn,(-1),(Int.toNat (v2-0+1)),Empty.elim,Prod.mk,oN (.exit 0) ⟨[zu 2,(3,false,[.int .u64])],[]⟩ (λx=>(x.2,()))⟩
theorem Hm {v0:List Int}{v1 v2:Int}(h0:v2≤9223372036854775807)(h1:v2<(v0.length:Int)):(mA (v0,v1,v2,())).D 0 (λv2 a=>v2<(v0.length:Int)) (λ_=>True):=
 XS (a:=v1) h0 (by decide) h1
noncomputable def ph:FT (List Int×Unit) (Int) (λx=>sS x.1∧8≤x.1.length) (λ_ _=>True):= .mk (λ(x0,_)=>
  .lp (mA (x0,0,7,())).lp λ(_,a2_0)=>
  .ret a2_0) (pQ @Hm)
noncomputable def OT:=fD st Tryz.func488 [(0,lb [0,3,4] [2,3])] [] 0 mA (ks:=[.sc (.sl .u8)]) ph (λv=>[(false,[.c (.int .u64 v)])])
noncomputable def oa:FF (Int×Int×Unit) (Int):=⟨λ(x0,x1,_)=>
  .val (bJ.f (x0,())) λc1=>
  .val (bJ.f (x1,())) λc2=>
  .val (bJ.f ((IntKind.wrap .i64 (c1-c2)),())) λc3=>
  .ite (decide (2147483647<c3)) (.ret (IntKind.wrap .i64 (c3-4294967296)))<|
  .ret c3⟩
noncomputable def vp:=lS st Tryz.func494 [fP] (ks:=[.sc (.int .i64),.sc (.int .i64)]) oa rI
noncomputable def nU:List (Ent1 Tryz.prog):=[]
def jU:Sh:=⟨[zp 1 0,zo 3 1,zi 4],[zg .recv,za .i64]⟩
def iD:Sh:=⟨[zp 1 0,zo 3 1,zi 5,zi 6],[zg .recv,za .i64]⟩
def j4:Sh:=⟨[zp 1 0,zo 3 1,zi 5],[zg .recv,za .i64]⟩
noncomputable def nJ:Fx:=⟨496,Tryz.f496,[(0,lb [1,3,4] [1,2,3]),(4,lb [1,3,5,6] [1,2,3,5]),(2,lb [1,3,5] [2,3])],0⟩
noncomputable def tA (v0:Int)(a:List Int):Tr (Stp (List Int) (Empty)):=
 .grd (dr a v0)<|
 .ret (.next (a.set v0.toNat (-1)))
noncomputable def b9:jU.V→sD jU (List Int):=λ(v0,v1,v2,_)=>⟨v0,v2,λv0 a=>(v0,v1,a,()),λv0 a=>(decide (v0<(a.length:Int))),tA,up,1,(Int.toNat ((v2.length:Int)-v0)),Empty.elim,Prod.mk,oN (.exit 0) ⟨[zp 1 0,zu 2,zo 3 1],[zg .recv,za .i64]⟩ (λx=>(v1,x.2,()))⟩
theorem CM:LS Tryz.prog nJ [0] (jz 0 jU b9):=eB st (aV nU) _ b9 [] trivial
theorem CN {v0:Int}{v1:Recv}{v2:List Int}(h0:0≤v0)(h1:(v2.length:Int)≤4611686018427387904)(h2:sS v2)(h3:v2.length=v2.length):(b9 (v0,v1,v2,())).S (λv0 a=>a.length=v2.length∧a.length=v2.length) (λ_=>True):=by
 refine LC.okS ⟨rfl,h3⟩ (λj a hj hv=>⟨⟨?_, ?_⟩, ?_⟩) (λa hv=> ?_)
 ·simp only[b9,decide_eq_true_eq]at*;omega
 ·simp only[b9]at*;exact Yy (by omega) (by omega)
 ·refine Tr.G2 ?_ λ_=>Tr.Rn ?_
  all_goals (try simp only[b9]at*)<;>(grind)
 ·simp only[b9,decide_eq_false_iff_not]at*;omega
noncomputable def lB (vb0:Int)(vb2:Recv)(a:Int×List Int):Tr (Stp (Int×List Int) ((List Int))):=
 .grd (dr vb2.held vb0)<|
 .ite (decide (a.1<(((vb2.held.getD vb0.toNat (Ty.zero .piec)).text).length:Int))) (.grd (dr vb2.held vb0)<|
  .val (IntKind.wrap .i64 ((vb2.held.getD vb0.toNat (Ty.zero .piec)).off+a.1)) λe2=>
  .grd (dr vb2.held vb0)<|
  .grd (dr ((vb2.held.getD vb0.toNat (Ty.zero .piec)).text) a.1)<|
  .val (IntKind.wrap .i64 (af ((vb2.held.getD vb0.toNat (Ty.zero .piec)).text) a.1.toNat)) λe3=>
  .grd (dr a.2 e2)<|
  .ret (.next ((IntKind.wrap .i64 (a.1+1)),(a.2.set e2.toNat e3))))<|
 .ret (.out a.2)
noncomputable def de:iD.V→LW iD (Int×List Int) ((List Int)):=λ(vb0,vb1,vb2,vb3,_)=>⟨(vb1,vb3),λa=>(vb0,a.1,vb2,a.2,()),lB vb0 vb2,Int.toNat (((vb2.held.getD vb0.toNat (Ty.zero .piec)).text.length:Int)-vb1),oN (.exit 4) ⟨[zp 1 0,zu 2,zo 3 1,zi 5],[zg .recv,za .i64]⟩ (λp=>(vb0,vb2,p,()))⟩
theorem zI:LS Tryz.prog nJ [1,0] (Vk 4 iD de):=Rf st (aV nU) _ de [] trivial
theorem zh {vb0 vb1:Int}{vb2:Recv}{vb3:List Int}(h0:0≤vb0)(h1:vb0<(vb2.held.length:Int))(h2:cY po vb2.held)(h3:aZ vb2)(h4:0≤vb1∧vb3.length=33):(de (vb0,vb1,vb2,vb3,())).W (λp=>p.length=33):=
 LW.okW (a:=(vb1,vb3)) (λa=>0≤a.1∧a.2.length=33) (λa=>Int.toNat (((vb2.held.getD vb0.toNat (Ty.zero .piec)).text.length:Int)-a.1)) rfl h4 λ(vb1,vb3) hv=>by
  refine Tr.G2 ?_ λg0=>Tr.I (λb1=>Tr.G2 ?_ λg2=>Tr.V λe2 he2=>Tr.G2 ?_ λg3=>Tr.G2 ?_ λg4=>Tr.V λe3 he3=>Tr.G2 ?_ λg5=>Tr.Rn ?_) λb1=>Tr.Ro ?_
  all_goals ((have hp:=XW (i:=vb0.toNat) h2 (by omega);simp only[po]at hp;grind))
noncomputable def tg (v1:Recv)(v0:Int)(a:List Int):Tr (Stp (List Int) (Empty)):=
 .lp (de (v0,0,v1,a,())).lp λp4a0=>
 .ret (.next p4a0)
noncomputable def ex:j4.V→sD j4 (List Int):=λ(v0,v1,v2,_)=>⟨v0,v2,λv0 a=>(v0,v1,a,()),λv0 _=>(decide (v0<(v1.held.length:Int))),tg v1,up,1,(Int.toNat ((v1.held.length:Int)-v0)),Empty.elim,Prod.mk,oN (.exit 2) ⟨[zu 2,zo 3 0],[za .i64]⟩ (λx=>(x.2,()))⟩
theorem C3:LS Tryz.prog nJ [1] (jz 2 j4 ex):=eB st (aV nU) _ ex [(Vk 4 iD de)] ⟨zI,trivial⟩
theorem Cz {v0:Int}{v1:Recv}{v2:List Int}(h0:0≤v0)(h1:(v1.held.length:Int)≤4611686018427387904)(h2:cY po v1.held)(h3:aZ v1)(h4:v2.length=33):(ex (v0,v1,v2,())).U (v1.held.length:Int) (λv0 a=>a.length=33) (λ_=>True):=
 LC.okU (i:=v0) (a:=v2) (λ_ _=>rfl) (λ_=>rfl) rfl h0 h1 h4 λv0 v2 hj hk hv=>by
  refine Tr.L (zh ?_ ?_ ?_ ?_ ?_) (λa=>Empty.elim a) (λp4a0 _=>Tr.Rn ?_)
  all_goals ((try simp only[de,LW.lp,LW.cw,Cw.lp]at*)<;>grind)
noncomputable def rL:FT (Recv×Unit) (List Int) (λx=>aZ x.1∧cY po x.1.held) (λx v=>sS v∧v.length=33):=⟨λ(x0,_)=>
  .lp (b9 (0,x0,(List.replicate 33 0),())).lp λ(_,a1_0)=>
  .lp (ex (0,x0,a1_0,())).lp λ(_,a5_0)=>
  .ret a5_0,
 λ(x0,_) hp=>by
  refine Tr.L (CN ?_ ?_ ?_ ?_) (λa1_0 _=>Tr.L (Cz ?_ ?_ ?_ ?_ ?_) (λa5_0 _=>Tr.R ?_) (λp=>Empty.elim p)) (λp=>Empty.elim p)
  all_goals ((try simp only[b9,ex,LC.lp,LC.ct,Ct.lp]at*)<;>grind)⟩
noncomputable def KH:=ck st nJ nU [(jz 0 jU b9),(jz 2 j4 ex)] (ks:=[.st .recv]) rL (λv=>[(false,[sc (.o true) .i64 v])]) Tryz.func496 ⟨CM,C3,trivial⟩
def uX:Sh:=⟨[zl 0 .i64,zi 5],[]⟩
noncomputable def lm (v0:List Int)(v1:Int)(a:Unit):Tr (Stp (Unit) ((Unit))):=
 .grd (dr v0 v1)<|
 .ite (decide (0≤(v0.getD v1.toNat 0))) (.ret (.out ()))<|
 .ret (.next ())
noncomputable def kY:uX.V→tM uX Unit (Unit):=λ(v0,v1,_)=>⟨v1,(),λv1 _=>(v0,v1,()),λv1 _=>(decide (v1<(v0.length:Int))),lm v0,up,1,(Int.toNat ((v0.length:Int)-v1)),.inl,eR,oB .ret ⟨[zb 4],[]⟩ (λ_=>(false,())) (.exit 0) ⟨[zu 4],[]⟩ (λ_=>())⟩
theorem DA {v0:List Int}{v1:Int}(h0:0≤v1)(h1:(v0.length:Int)≤4611686018427387904):(kY (v0,v1,())).U (v0.length:Int) (λ_ _=>True) (λ_=>True):=
 kN h0 h1 trivial
noncomputable def qQ:FT (List Int×Int×Unit) (Bool) (λx=>sS x.1∧0≤x.2.1) (λ_ _=>True):= .mk (λ(x0,x1,_)=>
  .lp (kY (x0,x1,())).lp λw1=> .sum w1 (λ_=>
  .ret false)<|
  λ_=>
  .ret true) (pQ @DA)
noncomputable def LJ:=fD st Tryz.func497 [(0,lb [0,5] [4])] [] 0 kY (ks:=[.sc (.sl .i64),.sc (.int .i64)]) qQ rB
def qW:Sh:=⟨[zl 0 .i64,zi 1,zo 5 0,zi 6],[za .piec]⟩
noncomputable def cc (v0:List Int)(v1:Int)(v2:Int)(a:List Piec):Tr (Stp (List Piec) (Empty)):=
 .grd (dr v0 v2)<|
 .ite (decide ((v0.getD v2.toNat 0)<0)) (.ret (.next a))<|
 .bnd (β:=Bool×Unit) (.ite (decide (0<(a.length:Int))) (.grd (dr a (IntKind.wrap .i64 ((a.length:Int)-1)))<|
   .val ((a.getD (IntKind.wrap .i64 ((a.length:Int)-1)).toNat (Ty.zero .piec)).off) λe1=>
   .grd (dr a (IntKind.wrap .i64 ((a.length:Int)-1)))<|
   .val ((a.getD (IntKind.wrap .i64 ((a.length:Int)-1)).toNat (Ty.zero .piec)).text) λe2=>
   .ret (((IntKind.wrap .i64 (e1+(e2.length:Int)))==(IntKind.wrap .i64 (v2-v1))),()))<|
  .ret (false,())) λ(u3a0,_)=>
 .ite u3a0 (.grd (dr a (IntKind.wrap .i64 ((a.length:Int)-1)))<|
  .val ((a.getD (IntKind.wrap .i64 ((a.length:Int)-1)).toNat (Ty.zero .piec)).text) λe4=>
  .grd (dr v0 v2)<|
  .grd (Nat.ble (e4.length+(aA [(IntKind.wrap .u8 (v0.getD v2.toNat 0))]).length) ao)<|
  .grd (dr a (IntKind.wrap .i64 ((a.length:Int)-1)))<|
  .val (a.set (IntKind.wrap .i64 ((a.length:Int)-1)).toNat (⟨(a.getD (IntKind.wrap .i64 ((a.length:Int)-1)).toNat (Ty.zero .piec)).off,(e4++(aA [(IntKind.wrap .u8 (v0.getD v2.toNat 0))]))⟩:Piec)) λl5=>
  .ret (.next l5))<|
 .grd (dr v0 v2)<|
 .grd (qi a 1 24)<|
 .val (a++[(⟨(IntKind.wrap .i64 (v2-v1)),(aA [(IntKind.wrap .u8 (v0.getD v2.toNat 0))])⟩:Piec)]) λl6=>
 .ret (.next l6)
noncomputable def gu:qW.V→sD qW (List Piec):=λ(v0,v1,v2,v3,_)=>⟨v2,v3,λv2 a=>(v0,v1,v2,a,()),λv2 _=>(decide (v2<(v0.length:Int))),cc v0 v1,up,1,(Int.toNat ((v0.length:Int)-v2)),Empty.elim,Prod.mk,oN (.exit 0) ⟨[zu 4,zo 5 0],[za .piec]⟩ (λx=>(x.2,()))⟩
theorem AA {v0:List Int}{v1 v2:Int}{v3:List Piec}(h0:0≤v2)(h1:(v0.length:Int)≤4611686018427387904)(h2:sS v0)(h3:(v3.length:Int)≤v2∧cY (pl v2) v3):(gu (v0,v1,v2,v3,())).U (v0.length:Int) (λv2 a=>(a.length:Int)≤v2∧cY (pl v2) a) (λ_=>True):=
 LC.okU (i:=v2) (a:=v3) (λ_ _=>rfl) (λ_=>rfl) rfl h0 h1 h3 λv2 v3 hj hk hv=>by
  refine Tr.G2 ?_ λg0=>Tr.I (λb1=>Tr.Rn ?_) λb1=>Tr.B (Q':=λw=>(w.1=true→0<v3.length)) (Tr.I (λb2=>Tr.G2 ?_ λg3=>Tr.V λe1 he1=>Tr.G2 ?_ λg4=>Tr.V λe2 he2=>Tr.R ?_) λb2=>Tr.R ?_) (λ(u3a0,_) hj3 qj3=>Tr.I (λb2=>Tr.G2 ?_ λg3=>Tr.V λe4 he4=>Tr.G2 ?_ λg4=>Tr.Gb ?_ λg5=>Tr.G2 ?_ λg6=>Tr.V λl5 hl5=>Tr.Rn ?_) λb2=>Tr.G2 ?_ λg3=>Tr.Gb ?_ λg4=>Tr.V λl6 hl6=>Tr.Rn ?_)
  all_goals ((try simp only[Tr.nice,jy]at*)<;>(have hp:=XK hv.2 (show(0:Int)≤v2 by omega);have hu:=Ym hv.2;have hw:0<v3.length→IntKind.wrap .i64 ((v3.length:Int)-1)=v3.length-1:=λh=>au (by omega) (by simp only[sS]at h2;omega);have hq:=hp (IntKind.wrap .i64 ((v3.length:Int)-1)).toNat;(try rw[←he4]at hq);clear hj hp;first|omega|(simp only[bi,List.length_cons,List.length_nil,ao,sS]at*;omega)|(subst hl5;exact⟨by rw[List.length_set];omega,Xg hu (by simp only[pl,List.length_append,bi,List.length_cons,List.length_nil];omega)⟩)|(subst hl6;exact⟨by simp only[List.length_append,List.length_cons,List.length_nil];omega,Vp hu (by simp only[pl,bi,List.length_cons,List.length_nil];omega)⟩)|grind))
noncomputable def mW:FT (List Int×Int×Unit) (List Piec) (λx=>sS x.1∧0≤x.2.1∧x.2.1≤4294967296) (λx v=>sL j8 v):=⟨λ(x0,x1,_)=>
  .lp (gu (x0,x1,x1,[],())).lp λ(_,a7_0)=>
  .ret a7_0,
 λ(x0,x1,_) hp=>by
  refine Tr.L (AA ?_ ?_ ?_ ?_) (λa7_0 i7=>Tr.R ?_) (λp=>Empty.elim p)
  all_goals ((try simp only[gu,LC.lp,LC.ct,Ct.lp]at*)<;>grind [XX])⟩
noncomputable def GZ:=fD st Tryz.func498 [(0,lb [0,1,5,6] [4,5]),(3000007,rA 0 44)] [] 0 gu (ks:=[.sc (.sl .i64),.sc (.int .i64)]) mW (λv=>[(false,[sc (.o true) .piec v])])
noncomputable def Lb:List (Ent1 Tryz.prog):=[]
def CB:An:=⟨⟨[],[],false,0⟩,⟨[1,2],[],false,0⟩,⟨[],[]⟩,[(.ret,⟨[zp 1 0,zi 2],[zg .conn]⟩),(.normal,⟨[zp 1 0,zi 2],[zg .conn]⟩)]⟩
noncomputable def Jw:Fx:=⟨499,Tryz.f499,[(1000005,CB),(3000006,rA 0 12)],0⟩
noncomputable def su:FT (Conn×Unit) (Int) (λx=>ak x.1) (λ_ _=>True):= .mk λ(x0,_)=>
  .bnd (β:=(Int×Conn×Unit)⊕(Int×Conn×Unit)) (.as (Sum.elim (λw=>ak w.2.1) (λw=>ak w.2.1)) (.ite (x0.state==1) (.ite x0.r.done (.ret (.inl (4,x0,())))<|
    .ret (.inr ((0,x0,()))))<|
   .ite (x0.state==2) (.bnd (β:=Bool×Unit) (.ite x0.s.done (.ret (x0.r.done,()))<|
     .ret (false,())) λ(u1a0,_)=>
    .ite u1a0 (.ret (.inl (7,x0,())))<|
    .ite x0.s.done (.ret (.inl (3,x0,())))<|
    .ite x0.r.done (.ret (.inl (5,x0,())))<|
    .ret (.inr ((0,x0,()))))<|
   .ite (x0.state==3) (.ite x0.r.done (.ret (.inl (7,x0,())))<|
    .ret (.inr ((0,x0,()))))<|
   .ite (x0.state==5) (.ite x0.s.done (.ret (.inl (7,x0,())))<|
    .ret (.inr ((0,x0,()))))<|
   .ite (x0.state==6) (.ite x0.s.done (.ret (.inl (8,x0,())))<|
    .ret (.inr ((0,x0,()))))<|
   .ret (.inr ((0,x0,()))))) λw2=> .sum w2 (λ(u2a0,_,_)=>
  .ret u2a0)<|
  λ(_,u2b1,_)=>
  .ret u2b1.state
noncomputable def KL:=ck st Jw Lb [] (ks:=[.st .conn]) su rI Tryz.func499 trivial
noncomputable def cM:FT (Int×Int×Unit) (Int) (λ_=>True) (λ_ _=>True):= .mk λ(x0,x1,_)=>
  .grd (decide (0≤(bits .and .u64 (IntKind.wrap .u64 x1) 63)))<|
  .val (IntKind.wrap .u64 (x0*2 ^ (min (bits .and .u64 (IntKind.wrap .u64 x1) 63).toNat 64))) λe1=>
  .grd (decide (0≤(IntKind.wrap .u64 (64-(bits .and .u64 (IntKind.wrap .u64 x1) 63)))))<|
  .val (x0.fdiv (2 ^ (min (IntKind.wrap .u64 (64-(bits .and .u64 (IntKind.wrap .u64 x1) 63))).toNat 64))) λe2=>
  .ret (bits .or .u64 e1 e2)
noncomputable def zn:=bm st Tryz.func504 [] (ks:=[.sc (.int .u64),.sc (.int .i64)]) cM (λv=>[(false,[.c (.int .u64 v)])])
noncomputable def vO:FT (Mac×Mac×Unit) (Bool) (λx=>dF x.1∧dF x.2.1) (λ_ _=>True):= .mk λ(x0,x1,_)=>
  .ite (x0.use==x1.use) (.ite (x0.k==x1.k) (.ite (x0.l==x1.l) (.cal oQ.c (x0.rows,x1.rows,()) λc1=>
     .ret c1)<|
    .ret false)<|
   .ret false)<|
  .ret false
noncomputable def OJ:=bm st Tryz.func76 [AK] (ks:=[.st .mac,.st .mac]) vO rB
noncomputable def aL:FT (Tupl×Unit) (Bool) (λ_=>True) (λ_ _=>True):= .mk λ(x0,_)=>
  .cal aa.c (x0.ip,32,()) λc1=>
  .ite c1 (.cal aa.c (x0.port,16,()) λc2=>
   .ite c2 (.cal aa.c (x0.my,16,()) λc3=>
    .ret c3)<|
   .ret false)<|
  .ret false
noncomputable def pR:=bm st Tryz.func77 [bZ] (ks:=[.st .tupl]) aL rB
noncomputable def jh:FT (Tupl×Unit) (Bool) (λ_=>True) (λ_ _=>True):= .mk λ(x0,_)=>
  .cal aD.c (x0.ip,32,()) λc1=>
  .ite c1 (.cal aD.c (x0.port,16,()) λc2=>
   .ite c2 (.cal aD.c (x0.my,16,()) λc3=>
    .ret c3)<|
   .ret false)<|
  .ret false
noncomputable def mZ:=bm st Tryz.func81 [bP] (ks:=[.st .tupl]) jh rB
noncomputable def mJ:FT (Int×Unit) (Int×Int×Int) (λ_=>True) (λ_ _=>True):= .mk λ(x0,_)=>
  .cal aD.c (x0,32,()) λc1=>
  .ite (!c1) (.ret ((-1),(-1),(-1)))<|
  .ret ((IntKind.wrap .i64 (x0.tdiv 134217728)),((IntKind.wrap .i64 (x0.tdiv 16777216)).tmod 8),(x0.tmod 16777216))
noncomputable def Dj:=bm st Tryz.func90 [bP] (ks:=[.sc (.int .i64)]) mJ (λv=>[(false,[.c (.int .i64 v.1)]),(false,[.c (.int .i64 v.2.1)]),(false,[.c (.int .i64 v.2.2)])])
noncomputable def Qy:=[bP,AN,BX]
noncomputable def P8:Fx:=⟨91,Tryz.f91,[(3000001,rA 0 18)],0⟩
noncomputable def rf:FT (Keys×Unit) (Bool) (λx=>cE x.1) (λx v=>(v=true→0≤x.1.epoch∧x.1.epoch≤4294967295)):= .mk λ(x0,_)=>
  .bnd (β:=Bool×Unit) (.as (λw=>(w.1=false→x0.now.rows.length≤64∧x0.before.rows.length≤64)) (.cal aD.c (x0.epoch,32,()) λc1=>
   .ite (!c1) (.ret (true,()))<|
   .cal pK.c (x0.now,()) λc2=>
   .ite (!c2) (.ret (true,()))<|
   .cal pK.c (x0.before,()) λc3=>
   .ret ((!c3),()))) λ(u4a0,_)=>
  .ite u4a0 (.ret false)<|
  .ite x0.two (.ret (decide (1≤x0.epoch)))<|
  .cal nZ.c (x0.before,(⟨false,0,0,[]⟩:Mac),()) λc5=>
  .ret c5
noncomputable def xz:=ck st P8 Qy [] (ks:=[.st .keys]) rf rB Tryz.func91 trivial
noncomputable def JI:=[uW]
noncomputable def Jm:Fx:=⟨92,Tryz.f92,[(3000003,rA 0 14)],0⟩
noncomputable def sA:FT (Keys×Int×Unit) (Mac×Bool) (λx=>cE x.1) (λx v=>dF v.1):= .mk λ(x0,x1,_)=>
  .ite (x1==x0.epoch) (.cal jg.c (x0.now,()) λc1=>
   .ret (c1,true))<|
  .bnd (β:=Bool×Unit) (.ite x0.two (.ret ((x1==(IntKind.wrap .i64 (x0.epoch-1))),()))<|
   .ret (false,())) λ(u2a0,_)=>
  .ite u2a0 (.cal jg.c (x0.before,()) λc3=>
   .ret (c3,true))<|
  .ret ((⟨false,0,0,[]⟩:Mac),false)
noncomputable def JU:=ck st Jm JI [] (ks:=[.st .keys,.sc (.int .i64)]) sA (λv=>[(true,DT (.o true) v.1),(false,[.c (.bool v.2)])]) Tryz.func92 trivial
noncomputable def bH:FF (Int×Int×Unit) (Int):=⟨λ(x0,x1,_)=>
  .val (bJ.f (x0,())) λc1=>
  .val (bJ.f (x1,())) λc2=>
  .val (bJ.f ((IntKind.wrap .i64 (c1+c2)),())) λc3=>
  .ret c3⟩
noncomputable def cP:=lS st Tryz.func119 [fP] (ks:=[.sc (.int .i64),.sc (.int .i64)]) bH rI
noncomputable def pN:FT (Link×Unit) (Link) (λx=>d8 x.1) (λx v=>d8 v):= .mk λ(x0,_)=>
  .cal im.c (x0.cache,()) λc1=>
  .ret ({x0 with cache:=c1}:Link)
noncomputable def Hk:=bm st Tryz.func136 [sY] (ks:=[.st .link]) pN (λv=>[(true,xn (.o true) v)])
noncomputable def NW:=[Ci,xz,AN,uW]
noncomputable def Mu:Fx:=⟨165,Tryz.f165,[(3000002,rA 0 20)],0⟩
noncomputable def H7:FT (Keys×Mac×Unit) (Keys) (λx=>cE x.1∧dF x.2.1) (λx v=>cE v):= .mk λ(x0,x1,_)=>
  .cal qC.c (x0,()) λc1=>
  .bnd (β:=Bool×Unit) (.as (λw=>(w.1=false→0≤x0.epoch∧x0.epoch≤4294967295∧x1.rows.length≤64)) (.cal rf.c (x0,()) λc2=>
   .ite (!c2) (.ret (true,()))<|
   .cal pK.c (x1,()) λc3=>
   .ite (!c3) (.ret (true,()))<|
   .ret ((x0.epoch==4294967295),()))) λ(u4a0,_)=>
  .ite u4a0 (.ret c1)<|
  .cal jg.c (x1,()) λc5=>
  .cal jg.c (x0.now,()) λc6=>
  .ret (⟨(IntKind.wrap .i64 (x0.epoch+1)),c5,c6,true⟩:Keys)
noncomputable def N7:=ck st Mu NW [] (ks:=[.st .keys,.st .mac]) H7 (λv=>[(true,Ao (.o true) (.o true) v)]) Tryz.func165 trivial
noncomputable def cS:FT (Conn×Unit) (Conn) (λx=>ak x.1) (λx v=>ak v∧v=x.1):=⟨λ(x0,_)=>
  .cal dj.c (x0.r,()) λc1=>
  .ret ({x0 with r.next:=c1.next,r.data:=c1.data,r.held:=c1.held,r.fin:=c1.fin,r.done:=c1.done}:Conn),
 λ(x0,_) hp=>by
  refine Tr.C ?_ λc1 hc1 qc1=>Tr.R ?_
  all_goals ((first|grind|(refine⟨by grind, ?_⟩;first|(simp only[List.nil_append];done)|(subst_vars;rfl)|simp_all)))⟩
noncomputable def cT:=bm st Tryz.func168 [ux] (ks:=[.st .conn]) cS (λv=>[(true,kg (.o true) v)])
def t5:Sh:=⟨[zl 0 .entr,zi 3],[]⟩
noncomputable def oy (v0:List Entr)(v1:Int)(a:Unit):Tr (Stp (Unit) ((Unit))):=
 .grd (dr v0 v1)<|
 .cal aD.c ((v0.getD v1.toNat (Ty.zero .entr)).ip,32,()) λc1=>
 .ite (!c1) (.ret (.out ()))<|
 .cal aD.c ((v0.getD v1.toNat (Ty.zero .entr)).hw,48,()) λc2=>
 .ite (!c2) (.ret (.out ()))<|
 .val (bN.f ((v0.getD v1.toNat (Ty.zero .entr)).age,0,9,())) λc3=>
 .ite (!c3) (.ret (.out ()))<|
 .grd ((decide (0≤v1))&&(decide (v1≤(v0.length:Int))))<|
 .cal vN.c (((v0.take v1.toNat).drop 0),(v0.getD v1.toNat (Ty.zero .entr)).ip,()) λc4=>
 .ite (decide (0≤c4)) (.ret (.out ()))<|
 .ret (.next ())
noncomputable def lh:t5.V→tM t5 Unit (Unit):=λ(v0,v1,_)=>⟨v1,(),λv1 _=>(v0,v1,()),λv1 _=>(decide (v1<(v0.length:Int))),oy v0,up,1,(Int.toNat ((v0.length:Int)-v1)),.inl,eR,oB .ret ⟨[zl 0 .entr,zb 2],[]⟩ (λ_=>(v0,false,())) (.exit 0) ⟨[zl 0 .entr,zu 2],[]⟩ (λ_=>(v0,()))⟩
theorem Fj {v0:List Entr}{v1:Int}(h0:0≤v1)(h1:(v0.length:Int)≤4611686018427387904)(h2:sS v0):(lh (v0,v1,())).U (v0.length:Int) (λ_ _=>True) (λ_=>True):=
 kN h0 h1 trivial
noncomputable def qE:FT (List Entr×Unit) (Bool) (λx=>sS x.1) (λx v=>(v=true→x.1.length≤4)):= .mk (λ(x0,_)=>
  .lp (lh (x0,0,())).lp λw5=> .sum w5 (λ_=>
  .ret false)<|
  λ_=>
  .ret (decide ((x0.length:Int)≤4))) (pQ @Fj)
noncomputable def Cb:=fD st Tryz.func181 [(0,lb [0,3] [0,2])] [bP,b8,Ak] 0 lh (ks:=[.sc (.sl .entr)]) qE rB
def sV:Sh:=⟨[zl 0 .half,zi 3],[]⟩
noncomputable def ep (v0:List Half)(v1:Int)(a:Unit):Tr (Stp (Unit) ((Unit))):=
 .grd (dr v0 v1)<|
 .cal jh.c ((v0.getD v1.toNat (Ty.zero .half)).tuple,()) λc1=>
 .ite (!c1) (.ret (.out ()))<|
 .cal aD.c ((v0.getD v1.toNat (Ty.zero .half)).iss,32,()) λc2=>
 .ite (!c2) (.ret (.out ()))<|
 .cal aD.c ((v0.getD v1.toNat (Ty.zero .half)).irs,32,()) λc3=>
 .ite (!c3) (.ret (.out ()))<|
 .cal aD.c ((v0.getD v1.toNat (Ty.zero .half)).window,16,()) λc4=>
 .ite (!c4) (.ret (.out ()))<|
 .cal dX.c ((v0.getD v1.toNat (Ty.zero .half)).opts,()) λc5=>
 .ite (!c5) (.ret (.out ()))<|
 .val (bN.f ((v0.getD v1.toNat (Ty.zero .half)).age,0,6,())) λc6=>
 .ite (!c6) (.ret (.out ()))<|
 .grd ((decide (0≤v1))&&(decide (v1≤(v0.length:Int))))<|
 .cal fN.c (((v0.take v1.toNat).drop 0),(v0.getD v1.toNat (Ty.zero .half)).tuple,()) λc7=>
 .ite (decide (0≤c7)) (.ret (.out ()))<|
 .ret (.next ())
noncomputable def ia:sV.V→tM sV Unit (Unit):=λ(v0,v1,_)=>⟨v1,(),λv1 _=>(v0,v1,()),λv1 _=>(decide (v1<(v0.length:Int))),ep v0,up,1,(Int.toNat ((v0.length:Int)-v1)),.inl,eR,oB .ret ⟨[zl 0 .half,zb 2],[]⟩ (λ_=>(v0,false,())) (.exit 0) ⟨[zl 0 .half,zu 2],[]⟩ (λ_=>(v0,()))⟩
theorem CS {v0:List Half}{v1:Int}(h0:0≤v1)(h1:(v0.length:Int)≤4611686018427387904)(h2:wS v0):(ia (v0,v1,())).U (v0.length:Int) (λ_ _=>True) (λ_=>True):=
 kN h0 h1 trivial
noncomputable def lT:FT (List Half×Unit) (Bool) (λx=>wS x.1) (λx v=>(v=true→x.1.length≤64)):= .mk (λ(x0,_)=>
  .lp (ia (x0,0,())).lp λw8=> .sum w8 (λ_=>
  .ret false)<|
  λ_=>
  .ret (decide ((x0.length:Int)≤64))) (pQ @CS)
noncomputable def yp:=fD st Tryz.func183 [(0,lb [0,3] [0,2])] [mZ,bP,jF,b8,ji] 0 ia (ks:=[.sc (.sl .half)]) lT rB
def vj:Sh:=⟨[zl 0 .entr,zl 10 .entr,zi 11,zi 12],[]⟩
noncomputable def dN (v0 v1:List Entr)(v3:Int)(a:Unit):Tr (Stp (Unit) ((Unit))):=
 .grd (dr v1 v3)<|
 .bnd (β:=Bool×Unit) (.cal aa.c ((v1.getD v3.toNat (Ty.zero .entr)).ip,32,()) λc1=>
  .ite (!c1) (.ret (true,()))<|
  .cal aa.c ((v1.getD v3.toNat (Ty.zero .entr)).hw,48,()) λc2=>
  .ite (!c2) (.ret (true,()))<|
  .val (bt.f ((v1.getD v3.toNat (Ty.zero .entr)).age,0,9,())) λc3=>
  .ret ((!c3),())) λ(u4a0,_)=>
 .ite u4a0 (.ret (.out ()))<|
 .grd ((decide (0≤v3))&&(decide (v3≤(v0.length:Int))))<|
 .cal xc.c (((v0.take v3.toNat).drop 0),(v1.getD v3.toNat (Ty.zero .entr)).ip,()) λc5=>
 .ite c5.2 (.ret (.out ()))<|
 .ret (.next ())
noncomputable def i5:vj.V→tM vj Unit (Unit):=λ(v0,v1,v2,v3,_)=>⟨v3,(),λv3 _=>(v0,v1,v2,v3,()),λv3 _=>(decide (v3<v2)),dN v0 v1,up,1,(Int.toNat (v2-v3)),.inl,eR,oB .ret ⟨[zb 2],[]⟩ (λ_=>(false,())) (.exit 0) ⟨[zu 2],[]⟩ (λ_=>())⟩
theorem Gt {v0 v1:List Entr}{v2 v3:Int}(h0:0≤v3)(h1:v2≤4611686018427387904)(h2:sS v0)(h3:sS v1)(h4:v2≤(v1.length:Int))(h5:v2≤(v0.length:Int)):(i5 (v0,v1,v2,v3,())).U v2 (λ_ _=>True) (λ_=>True):=
 kN h0 h1 trivial
noncomputable def gk:FT (List Entr×Unit) (Bool) (λx=>sS x.1) (λx v=>(v=true→x.1.length≤4)):= .mk (λ(x0,_)=>
  .ite (decide (4<(x0.length:Int))) (.ret false)<|
  .lp (i5 (x0,x0,(x0.length:Int),0,())).lp λw6=> .sum w6 (λ_=>
  .ret false)<|
  λ_=>
  .ret true) (pQ @Gt)
noncomputable def Bn:=fD st Tryz.func184 [(0,lb [0,10,11,12] [2]),(3000006,rA 0 32)] [bZ,bO,Mn] 0 i5 (ks:=[.sc (.sl .entr)]) gk rB
noncomputable def J3:=[mZ,bP,b8,iT]
noncomputable def KJ:Fx:=⟨194,Tryz.f194,[(3000001,rA 0 26)],0⟩
noncomputable def sF:FT (Tupl×Int×Int×Int×Unit) (ac) (λ_=>True) (λx v=>sS v∧v.length≤40):=⟨λ(x0,x1,x2,x3,_)=>
  .bnd (β:=Bool×Unit) (.cal jh.c (x0,()) λc1=>
   .ite (!c1) (.ret (true,()))<|
   .cal aD.c (x1,32,()) λc2=>
   .ite (!c2) (.ret (true,()))<|
   .cal aD.c (x2,32,()) λc3=>
   .ite (!c3) (.ret (true,()))<|
   .val (bN.f (x3,0,7,())) λc4=>
   .ret ((!c4),())) λ(u5a0,_)=>
  .ite u5a0 (.ret [])<|
  .cal aM.c (x0.ip,4,()) λc6=>
  .cal aM.c (x0.port,2,()) λc7=>
  .grd (Nat.ble (c6.length+c7.length) ao)<|
  .cal aM.c (x0.my,2,()) λc8=>
  .grd (Nat.ble ((c6++c7).length+c8.length) ao)<|
  .cal aM.c (x1,4,()) λc9=>
  .grd (Nat.ble (((c6++c7)++c8).length+c9.length) ao)<|
  .cal aM.c (x2,4,()) λc10=>
  .grd (Nat.ble ((((c6++c7)++c8)++c9).length+c10.length) ao)<|
  .cal aM.c (x3,1,()) λc11=>
  .grd (Nat.ble (((((c6++c7)++c8)++c9)++c10).length+c11.length) ao)<|
  .ret (((((c6++c7)++c8)++c9)++c10)++c11),
 λ(x0,x1,x2,x3,_) hp=>by
  refine Tr.B (Q':=λ_=>True) (Tr.C trivial λc1 hc1 qc1=>Tr.I (λb0=>Tr.R trivial) λb0=>Tr.C trivial λc2 hc2 qc2=>Tr.I (λb1=>Tr.R trivial) λb1=>Tr.C trivial λc3 hc3 qc3=>Tr.F (by kernel_rfl) trivial) (λ(u5a0,_) hj5 qj5=>Tr.I (λb0=>Tr.R ?_) λb0=>Tr.C trivial λc6 hc6 qc6=>Tr.C trivial λc7 hc7 qc7=>Tr.Gb ?_ λg1=>Tr.C trivial λc8 hc8 qc8=>Tr.Gb ?_ λg2=>Tr.C trivial λc9 hc9 qc9=>Tr.Gb ?_ λg3=>Tr.C trivial λc10 hc10 qc10=>Tr.Gb ?_ λg4=>Tr.C trivial λc11 hc11 qc11=>Tr.Gb ?_ λg5=>Tr.R ?_)
  all_goals ((try simp only[Tr.nice,jy]at*)<;>(first|(simp only[List.length_append,List.length_cons,List.length_nil,ao,sS]at*;omega)|grind))⟩
noncomputable def Kq:=ck st KJ J3 [] (ks:=[.st .tupl,.sc (.int .i64),.sc (.int .i64),.sc (.int .i64)]) sF (λv=>[(false,[.c (.str v)])]) Tryz.func194 trivial
noncomputable def JR:=[pR,bZ,bO,iL]
noncomputable def JZ:Fx:=⟨203,Tryz.f203,[(3000001,rA 0 26)],0⟩
noncomputable def er:FT (Tupl×Int×Int×Int×Unit) (ac) (λ_=>True) (λx v=>sS v∧v.length≤40):=⟨λ(x0,x1,x2,x3,_)=>
  .bnd (β:=Bool×Unit) (.cal aL.c (x0,()) λc1=>
   .ite (!c1) (.ret (true,()))<|
   .cal aa.c (x1,32,()) λc2=>
   .ite (!c2) (.ret (true,()))<|
   .cal aa.c (x2,32,()) λc3=>
   .ite (!c3) (.ret (true,()))<|
   .val (bt.f (x3,0,7,())) λc4=>
   .ret ((!c4),())) λ(u5a0,_)=>
  .ite u5a0 (.ret [])<|
  .cal av.c (x0.ip,4,()) λc6=>
  .cal av.c (x0.port,2,()) λc7=>
  .grd (Nat.ble (c6.length+c7.length) ao)<|
  .cal av.c (x0.my,2,()) λc8=>
  .grd (Nat.ble ((c6++c7).length+c8.length) ao)<|
  .cal av.c (x1,4,()) λc9=>
  .grd (Nat.ble (((c6++c7)++c8).length+c9.length) ao)<|
  .cal av.c (x2,4,()) λc10=>
  .grd (Nat.ble ((((c6++c7)++c8)++c9).length+c10.length) ao)<|
  .cal av.c (x3,1,()) λc11=>
  .grd (Nat.ble (((((c6++c7)++c8)++c9)++c10).length+c11.length) ao)<|
  .ret (((((c6++c7)++c8)++c9)++c10)++c11),
 λ(x0,x1,x2,x3,_) hp=>by
  refine Tr.B (Q':=λ_=>True) (Tr.C trivial λc1 hc1 qc1=>Tr.I (λb0=>Tr.R trivial) λb0=>Tr.C trivial λc2 hc2 qc2=>Tr.I (λb1=>Tr.R trivial) λb1=>Tr.C trivial λc3 hc3 qc3=>Tr.F (by kernel_rfl) trivial) (λ(u5a0,_) hj5 qj5=>Tr.I (λb0=>Tr.R ?_) λb0=>Tr.C trivial λc6 hc6 qc6=>Tr.C trivial λc7 hc7 qc7=>Tr.Gb ?_ λg1=>Tr.C trivial λc8 hc8 qc8=>Tr.Gb ?_ λg2=>Tr.C trivial λc9 hc9 qc9=>Tr.Gb ?_ λg3=>Tr.C trivial λc10 hc10 qc10=>Tr.Gb ?_ λg4=>Tr.C trivial λc11 hc11 qc11=>Tr.Gb ?_ λg5=>Tr.R ?_)
  all_goals ((try simp only[Tr.nice,jy]at*)<;>(first|(simp only[List.length_append,List.length_cons,List.length_nil,ao,sS]at*;omega)|grind))⟩
noncomputable def Kz:=ck st JZ JR [] (ks:=[.st .tupl,.sc (.int .i64),.sc (.int .i64),.sc (.int .i64)]) er (λv=>[(false,[.c (.str v)])]) Tryz.func203 trivial
noncomputable def j9:FT (Recv×Unit) (Recv) (λx=>aZ x.1) (λx v=>aZ v∧v=x.1):=⟨λ(x0,_)=>
  .cal mH.c (x0.held,()) λc1=>
  .ret ({x0 with held:=c1}:Recv),
 λ(x0,_) hp=>by
  refine Tr.C ?_ λc1 hc1 qc1=>Tr.R ?_
  all_goals ((first|grind|(refine⟨by grind, ?_⟩;first|(simp only[List.nil_append];done)|(subst_vars;rfl)|simp_all)))⟩
noncomputable def yc:=bm st Tryz.func218 [CF] (ks:=[.st .recv]) j9 (λv=>[(true,uy (.o true) v)])
def u5:Sh:=⟨[zi 1,zi 2,zo 7 0,zi 9,zi 10],[za .entr]⟩
noncomputable def FG (v4:List Entr)(v3:Int)(a:Int):Tr (Stp (Int) (Empty)):=
 .grd (dr v4 v3)<|
 .grd (dr v4 a)<|
 .ite (decide ((v4.getD a.toNat (Ty.zero .entr)).age<(v4.getD v3.toNat (Ty.zero .entr)).age)) (.ret (.next v3))<|
 .ret (.next a)
noncomputable def i1:u5.V→sD u5 Int:=λ(v0,v1,v2,v3,v4,_)=>⟨v3,v2,λv3 a=>(v0,v1,a,v3,v4,()),λv3 _=>(decide (v3<(v4.length:Int))),FG v4,up,1,(Int.toNat ((v4.length:Int)-v3)),Empty.elim,Prod.mk,oN (.exit 0) ⟨[zi 1,zi 2,zu 6,(7,false,[.sl .any .entr]),zi 9],[]⟩ (λx=>(v0,v1,v4,x.2,()))⟩
theorem F2 {v0 v1 v2 v3:Int}{v4:List Entr}(h0:0≤v3)(h1:(v4.length:Int)≤4611686018427387904)(h2:0≤v2∧v2<v4.length):(i1 (v0,v1,v2,v3,v4,())).U (v4.length:Int) (λv3 a=>0≤a∧a<v4.length) (λ_=>True):=
 kN (a:=v2) h0 h1 h2
noncomputable def lV:FT (List Entr×Int×Int×Unit) (List Entr) (λx=>sS x.1) (λx v=>sS v∧v.length≤x.1.length+1):=⟨λ(x0,x1,x2,_)=>
  .grd (Nat.ble ((2*(0+x0.length)+1024)*24) bj)<|
  .bnd (β:=Bool×Unit) (.cal qE.c (x0,()) λc1=>
   .ite (!c1) (.ret (true,()))<|
   .cal aD.c (x1,32,()) λc2=>
   .ite (!c2) (.ret (true,()))<|
   .cal aD.c (x2,48,()) λc3=>
   .ret ((!c3),())) λ(u4a0,_)=>
  .ite u4a0 (.ret ([]++x0))<|
  .cal vN.c (x0,x1,()) λc5=>
  .ite (decide (0≤c5)) (.grd (dr ([]++x0) c5)<|
   .ret (([]++x0).set c5.toNat (⟨x1,x2,0⟩:Entr)))<|
  .ite ((([]++x0).length:Int)==4) (.lp (i1 (x1,x2,0,1,([]++x0),())).lp λ(_,a6_0)=>
   .grd ((decide (0≤a6_0))&&(decide (a6_0≤(([]++x0).length:Int))))<|
   .grd (Nat.ble ((2*(0+((([]++x0).take a6_0.toNat).drop 0).length)+1024)*24) bj)<|
   .grd (Rg ([]++x0) (IntKind.wrap .i64 (a6_0+1)) (([]++x0).length:Int))<|
   .grd (Nat.ble ((2*(([]++((([]++x0).take a6_0.toNat).drop 0)).length+((([]++x0).take ((([]++x0).length:Int).toNat)).drop ((IntKind.wrap .i64 (a6_0+1)).toNat)).length)+1024)*24) bj)<|
   .val (([]++((([]++x0).take a6_0.toNat).drop 0))++((([]++x0).take ((([]++x0).length:Int).toNat)).drop ((IntKind.wrap .i64 (a6_0+1)).toNat))) λl7=>
   .grd (qi l7 1 24)<|
   .ret (l7++[(⟨x1,x2,0⟩:Entr)]))<|
  .grd (qi ([]++x0) 1 24)<|
  .ret (([]++x0)++[(⟨x1,x2,0⟩:Entr)]),
 λ(x0,x1,x2,_) hp=>by
  refine Tr.Gb ?_ λ_=>Tr.B (Q':=λw=>(w.1=false→x0.length≤4)) (Tr.C ?_ λ_ _ _=>Tr.I (λ_=>Tr.R ?_) λ_=>Tr.C trivial λ_ _ _=>Tr.I (λ_=>Tr.R ?_) λ_=>Tr.C trivial λ_ _ _=>Tr.R ?_) (λ(u4a0,_) _ _=>Tr.I (λ_=>Tr.R ?_) λ_=>Tr.C ?_ λ_ _ _=>Tr.I (λ_=>Tr.G2 ?_ λ_=>Tr.R ?_) λ_=>Tr.I (λ_=>Tr.L (F2 ?_ ?_ ?_) (λa6_0 _=>Tr.G2 ?_ λ_=>Tr.Gb ?_ λ_=>Tr.G3 ?_ λ_=>Tr.Gb ?_ λ_=>Tr.V λ_ _=>Tr.Gb ?_ λ_=>Tr.R ?_) (λp=>Empty.elim p)) λ_=>Tr.Gb ?_ λ_=>Tr.R ?_)
  all_goals ((try simp only[i1,LC.lp,LC.ct,Ct.lp,Tr.nice,jy]at*)<;>grind)⟩
noncomputable def pW:=fD st Tryz.func241 [(0,la ⟨[1,2,7,9,10],[],false,0⟩ ⟨[1,2,6,7,9],[.soft 7 0],false,0⟩),(3000002,rA 0 26)] [Cb,bP,Ak] 0 i1 (ks:=[.sc (.sl .entr),.sc (.int .i64),.sc (.int .i64)]) lV (λv=>[(false,[sc (.o true) .entr v])])
noncomputable def vh:=[sY,Bn,bZ,AP]
def kS:Sh:=⟨[zi 1,zi 2,zo 7 0,zi 29,zi 30],[za .entr]⟩
def kQ:Sh:=⟨[zi 1,zi 2,zo 7 0,zi 9,zo 54 0,zi 55,zi 56],[za .entr]⟩
noncomputable def ui:Fx:=⟨258,Tryz.f258,[(0,lb [1,2,7,29,30] [1,2,6,7]),(2,lb [1,2,7,9,54,55,56] [1,2,6,7,9]),(3000002,rA 0 26)],0⟩
noncomputable def vg (v0 v1:Int)(v4:List Entr)(v3:Int)(a:Unit):Tr (Stp (Unit) ((List Entr))):=
 .grd (dr v4 v3)<|
 .ite ((v4.getD v3.toNat (Ty.zero .entr)).ip==v0) (.grd (dr v4 v3)<|
  .grd ((decide (0≤v3))&&(decide (v3<((v4.set v3.toNat ({(v4.getD v3.toNat (Ty.zero .entr))with hw:=v1}:Entr)).length:Int))))<|
  .val ((v4.set v3.toNat ({(v4.getD v3.toNat (Ty.zero .entr))with hw:=v1}:Entr)).set v3.toNat ({((v4.set v3.toNat ({(v4.getD v3.toNat (Ty.zero .entr))with hw:=v1}:Entr)).getD v3.toNat (Ty.zero .entr))with age:=0}:Entr)) λl6=>
  .ret (.out l6))<|
 .ret (.next ())
noncomputable def fh:kS.V→tM kS Unit (List Entr):=λ(v0,v1,v2,v3,v4,_)=>⟨v3,(),λv3 _=>(v0,v1,v2,v3,v4,()),λv3 _=>(decide (v3<v2)),vg v0 v1 v4,up,1,(Int.toNat (v2-v3)),.inl,eR,oB .ret ⟨[zi 1,zi 2,zo 6 0,zo 7 0],[za .entr]⟩ (λp=>(v0,v1,p,())) (.exit 0) ⟨[zi 1,zi 2,zu 6,zo 7 0],[za .entr]⟩ (λ_=>(v0,v1,v4,()))⟩
theorem Gv:LS Tryz.prog ui [0] (jz 0 kS fh):=eB st (aV vh) _ fh [] trivial
theorem FQ {v0 v1 v2 v3:Int}{v4:List Entr}(h0:0≤v3)(h1:v2≤4611686018427387904)(h2:sS v4)(h3:v2≤(v4.length:Int)):(fh (v0,v1,v2,v3,v4,())).U v2 (λ_ _=>True) (λp=>sS p):=
 kN h0 h1 trivial
noncomputable def dQ (v5:List Entr)(v4:Int)(a:Int):Tr (Stp (Int) (Empty)):=
 .grd (dr v5 v4)<|
 .grd (dr v5 a)<|
 .ite (decide ((v5.getD a.toNat (Ty.zero .entr)).age<(v5.getD v4.toNat (Ty.zero .entr)).age)) (.ret (.next v4))<|
 .ret (.next a)
noncomputable def eT:kQ.V→sD kQ Int:=λ(v0,v1,v2,v3,v4,v5,_)=>⟨v4,v2,λv4 a=>(v0,v1,a,v3,v4,v5,()),λv4 _=>(decide (v4<v3)),dQ v5,up,1,(Int.toNat (v3-v4)),Empty.elim,Prod.mk,oN (.exit 2) ⟨[zi 1,zi 2,zu 6,zo 7 0,zi 9],[za .entr]⟩ (λx=>(v0,v1,x.2,v5,()))⟩
theorem EA:LS Tryz.prog ui [1] (jz 2 kQ eT):=eB st (aV vh) _ eT [] trivial
theorem FI {v0 v1 v2 v3 v4:Int}{v5:List Entr}(h0:0≤v4)(h1:v3≤4611686018427387904)(h2:v3≤(v5.length:Int))(h3:0≤v2∧v2<v5.length):(eT (v0,v1,v2,v3,v4,v5,())).U v3 (λv4 a=>0≤a∧a<v5.length) (λ_=>True):=
 kN (a:=v2) h0 h1 h3
noncomputable def qK:FT (List Entr×Int×Int×Unit) (List Entr) (λx=>sS x.1) (λx v=>sS v):=⟨λ(x0,x1,x2,_)=>
  .cal im.c (x0,()) λc1=>
  .bnd (β:=Bool×Unit) (.cal gk.c (x0,()) λc2=>
   .ite (!c2) (.ret (true,()))<|
   .cal aa.c (x1,32,()) λc3=>
   .ite (!c3) (.ret (true,()))<|
   .cal aa.c (x2,48,()) λc4=>
   .ret ((!c4),())) λ(u5a0,_)=>
  .ite u5a0 (.ret c1)<|
  .lp (fh (x1,x2,(c1.length:Int),0,c1,())).lp λw7=> .sum w7 (λp7a0=>
  .ret p7a0)<|
  λ_=>
  .ite ((c1.length:Int)==4) (.lp (eT (x1,x2,0,(c1.length:Int),0,c1,())).lp λ(_,a8_0)=>
   .cal oq.c (c1,a8_0,(IntKind.wrap .i64 (a8_0+1)),()) λc9=>
   .grd (qi (c9.2.take c9.1) 1 24)<|
   .ret ((c9.2.take c9.1)++[(⟨x1,x2,0⟩:Entr)]))<|
  .grd (qi c1 1 24)<|
  .ret (c1++[(⟨x1,x2,0⟩:Entr)]),
 λ(x0,x1,x2,_) hp=>by
  refine Tr.C ?_ λ_ _ _=>Tr.B (Q':=λw=>(w.1=false→x0.length≤4)) (Tr.C ?_ λ_ _ _=>Tr.I (λ_=>Tr.R ?_) λ_=>Tr.C trivial λ_ _ _=>Tr.I (λ_=>Tr.R ?_) λ_=>Tr.C trivial λ_ _ _=>Tr.R ?_) (λ(u5a0,_) _ _=>Tr.I (λ_=>Tr.R ?_) λ_=>Tr.L (FQ ?_ ?_ ?_ ?_) (λ_ _=>Tr.Sr (Tr.I (λ_=>Tr.L (FI ?_ ?_ ?_ ?_) (λa8_0 _=>Tr.C ?_ λ_ _ _=>Tr.Gb ?_ λ_=>Tr.R ?_) (λp=>Empty.elim p)) λ_=>Tr.Gb ?_ λ_=>Tr.R ?_)) (λp7a0 _=>Tr.Sl (Tr.R ?_)))
  all_goals ((try simp only[fh,eT,LC.lp,LC.ct,Ct.lp,Tr.nice,jy]at*)<;>grind)⟩
noncomputable def M6:=ck st ui vh [(jz 0 kS fh),(jz 2 kQ eT)] (ks:=[.sc (.sl .entr),.sc (.int .i64),.sc (.int .i64)]) qK (λv=>[(false,[sc (.o true) .entr v])]) Tryz.func258 ⟨Gv,EA,trivial⟩
noncomputable def K0:=[AI]
noncomputable def Kg:Fx:=⟨259,Tryz.f259,[(3000002,rA 0 29)],0⟩
noncomputable def kj:FT (Arpm×Int×Int×Unit) (Arpm×Bool) (λ_=>True) (λ_ _=>True):= .mk λ(x0,x1,x2,_)=>
  .bnd (β:=Bool×Unit) (.ite (x0.kind != 1) (.ret (true,()))<|
   .ite (x0.dstIp != x2) (.ret (true,()))<|
   .cal j2.c ((⟨2,x1,x2,x0.srcHw,x0.srcIp⟩:Arpm),()) λc1=>
   .ret ((!c1),())) λ(u2a0,_)=>
  .ite u2a0 (.ret ((⟨0,0,0,0,0⟩:Arpm),false))<|
  .ret ((⟨2,x1,x2,x0.srcHw,x0.srcIp⟩:Arpm),true)
noncomputable def J5:=ck st Kg K0 [] (ks:=[.st .arpm,.sc (.int .i64),.sc (.int .i64)]) kj (λv=>[(true,ED v.1),(false,[.c (.bool v.2)])]) Tryz.func259 trivial
noncomputable def cm:FT (Fram×Unit) (ac) (λx=>mt x.1) (λx v=>sS v∧v.length≤1600):=⟨λ(x0,_)=>
  .cal dH.c (x0,()) λc1=>
  .ite (!c1) (.ret [])<|
  .cal av.c (x0.dst,6,()) λc2=>
  .cal av.c (x0.src,6,()) λc3=>
  .grd (Nat.ble (c2.length+c3.length) ao)<|
  .cal av.c (x0.type,2,()) λc4=>
  .grd (Nat.ble ((c2++c3).length+c4.length) ao)<|
  .grd (Nat.ble (((c2++c3)++c4).length+x0.body.length) ao)<|
  .ret (((c2++c3)++c4)++x0.body),
 λ(x0,_) hp=>by
  refine Tr.C trivial λc1 hc1 qc1=>Tr.I (λb0=>Tr.R ?_) λb0=>Tr.C trivial λc2 hc2 qc2=>Tr.C trivial λc3 hc3 qc3=>Tr.Gb ?_ λg1=>Tr.C trivial λc4 hc4 qc4=>Tr.Gb ?_ λg2=>Tr.Gb ?_ λg3=>Tr.R ?_
  all_goals ((first|(simp only[List.length_append,List.length_cons,List.length_nil,ao,sS]at*;omega)|grind))⟩
noncomputable def ww:=bm st Tryz.func260 [B2,iL] (ks:=[.st .fram]) cm (λv=>[(false,[.c (.str v)])])
noncomputable def dE:FT (Arpm×Unit) (ac) (λ_=>True) (λx v=>sS v∧v.length≤40):=⟨λ(x0,_)=>
  .cal j2.c (x0,()) λc1=>
  .ite (!c1) (.ret [])<|
  .cal av.c (x0.kind,2,()) λc2=>
  .grd (Nat.ble (6+c2.length) ao)<|
  .cal av.c (x0.srcHw,6,()) λc3=>
  .grd (Nat.ble (([0,1,8,0,6,4]++c2).length+c3.length) ao)<|
  .cal av.c (x0.srcIp,4,()) λc4=>
  .grd (Nat.ble ((([0,1,8,0,6,4]++c2)++c3).length+c4.length) ao)<|
  .cal av.c (x0.dstHw,6,()) λc5=>
  .grd (Nat.ble (((([0,1,8,0,6,4]++c2)++c3)++c4).length+c5.length) ao)<|
  .cal av.c (x0.dstIp,4,()) λc6=>
  .grd (Nat.ble ((((([0,1,8,0,6,4]++c2)++c3)++c4)++c5).length+c6.length) ao)<|
  .ret ((((([0,1,8,0,6,4]++c2)++c3)++c4)++c5)++c6),
 λ(x0,_) hp=>by
  refine Tr.C trivial λc1 hc1 qc1=>Tr.I (λb0=>Tr.R ?_) λb0=>Tr.C trivial λc2 hc2 qc2=>Tr.Gb ?_ λg1=>Tr.C trivial λc3 hc3 qc3=>Tr.Gb ?_ λg2=>Tr.C trivial λc4 hc4 qc4=>Tr.Gb ?_ λg3=>Tr.C trivial λc5 hc5 qc5=>Tr.Gb ?_ λg4=>Tr.C trivial λc6 hc6 qc6=>Tr.Gb ?_ λg5=>Tr.R ?_
  all_goals ((first|(simp only[List.length_append,List.length_cons,List.length_nil,ao,sS]at*;omega)|grind))⟩
noncomputable def LY:=bm st Tryz.func261 [AI,iL] (ks:=[.st .arpm]) dE (λv=>[(false,[.c (.str v)])])
noncomputable def EU:=[bZ,iL]
noncomputable def FR:Fx:=⟨262,Tryz.f262,[(3000001,rA 0 19)],0⟩
noncomputable def bu:FT (Int×Int×Int×Unit) (ac) (λ_=>True) (λx v=>sS v∧v.length≤20):=⟨λ(x0,x1,x2,_)=>
  .bnd (β:=Bool×Unit) (.cal aa.c (x0,32,()) λc1=>
   .ite (!c1) (.ret (true,()))<|
   .cal aa.c (x1,32,()) λc2=>
   .ite (!c2) (.ret (true,()))<|
   .cal aa.c (x2,16,()) λc3=>
   .ret ((!c3),())) λ(u4a0,_)=>
  .ite u4a0 (.ret [])<|
  .cal av.c (x0,4,()) λc5=>
  .cal av.c (x1,4,()) λc6=>
  .grd (Nat.ble (c5.length+c6.length) ao)<|
  .grd (Nat.ble ((c5++c6).length+2) ao)<|
  .cal av.c (x2,2,()) λc7=>
  .grd (Nat.ble (((c5++c6)++[0,6]).length+c7.length) ao)<|
  .ret (((c5++c6)++[0,6])++c7),
 λ(x0,x1,x2,_) hp=>by
  refine Tr.B (Q':=λ_=>True) (Tr.C trivial λc1 hc1 qc1=>Tr.I (λb0=>Tr.R trivial) λb0=>Tr.C trivial λc2 hc2 qc2=>Tr.I (λb1=>Tr.R trivial) λb1=>Tr.C trivial λc3 hc3 qc3=>Tr.R trivial) (λ(u4a0,_) hj4 qj4=>Tr.I (λb0=>Tr.R ?_) λb0=>Tr.C trivial λc5 hc5 qc5=>Tr.C trivial λc6 hc6 qc6=>Tr.Gb ?_ λg1=>Tr.Gb ?_ λg2=>Tr.C trivial λc7 hc7 qc7=>Tr.Gb ?_ λg3=>Tr.R ?_)
  all_goals ((try simp only[Tr.nice,jy]at*)<;>(first|(simp only[List.length_append,List.length_cons,List.length_nil,ao,sS]at*;omega)|grind))⟩
noncomputable def uT:=ck st FR EU [] (ks:=[.sc (.int .i64),.sc (.int .i64),.sc (.int .i64)]) bu (λv=>[(false,[.c (.str v)])]) Tryz.func262 trivial
noncomputable def dG:FT (ac×Int×Int×Unit) (Int) (λx=>sS x.1) (λ_ _=>True):= .mk λ(x0,x1,x2,_)=>
  .cal vy.c (x0,x1,x2,()) λc1=>
  .ret c1.1
noncomputable def vm:=bm st Tryz.func265 [MF] (ks:=[.sc .str,.sc (.int .i64),.sc (.int .i64)]) dG rI
noncomputable def kf:FT (Mac×Unit) (Mac) (λx=>dF x.1) (λx v=>dF v∧v=x.1):=⟨λ(x0,_)=>
  .cal lc.c (x0.rows,()) λc1=>
  .ret ({x0 with rows:=c1}:Mac),
 λ(x0,_) hp=>by
  refine Tr.C ?_ λc1 hc1 qc1=>Tr.R ?_
  all_goals ((first|grind|(refine⟨by grind, ?_⟩;first|(simp only[List.nil_append];done)|(subst_vars;rfl)|simp_all)))⟩
noncomputable def yO:=bm st Tryz.func268 [Av] (ks:=[.st .mac]) kf (λv=>[(true,DT (.o true) v)])
noncomputable def P6:=[pR,rE,D2,mP,bO]
def Fs:An:=⟨⟨[],[],false,0⟩,⟨[1,2,3],[],false,0⟩,⟨[],[]⟩,[(.normal,⟨[zp 1 0,zb 2,zi 3],[zg .conn]⟩)]⟩
noncomputable def PE:Fx:=⟨271,Tryz.f271,[(1000037,Fs),(3000001,rA 0 34),(3000006,rA 0 62)],0⟩
noncomputable def cJ:FT (Conn×Unit) (Bool) (λx=>ak x.1) (λx v=>(v=true→SO x.1.s∧RO x.1.r)):= .mk λ(x0,_)=>
  .bnd (β:=Bool×Unit) (.as (λw=>(w.1=false→SO x0.s∧RO x0.r∧cY (pw (TZ x0.r)) x0.r.held)) (.cal aL.c (x0.tuple,()) λc1=>
   .ite (!c1) (.ret (true,()))<|
   .cal bQ.c (x0.s,()) λc2=>
   .ite (!c2) (.ret (true,()))<|
   .cal cf.c (x0.r,()) λc3=>
   .ite (!c3) (.ret (true,()))<|
   .cal ay.c (x0.opts,()) λc4=>
   .ite (!c4) (.ret (true,()))<|
   .val (bt.f (x0.state,1,8,())) λc5=>
   .ret ((!c5),()))) λ(u6a0,_)=>
  .ite u6a0 (.ret false)<|
  .bnd (β:=Bool×Int×Conn×Unit) (.as (λw=>ak w.2.2.1) (.ite (x0.state==7) (.ret (false,4,x0,()))<|
   .ret (false,3,x0,()))) λ(_,u7a1,u7a2,_)=>
  .bnd (β:=Bool×Unit) (.val (bt.f (u7a2.most,0,1073725440,())) λc8=>
   .ite (!c8) (.ret (true,()))<|
   .val (bt.f (u7a2.window,0,u7a2.most,())) λc9=>
   .ite (!c9) (.ret (true,()))<|
   .val (bt.f (u7a2.timer,0,u7a1,())) λc10=>
   .ite (!c10) (.ret (true,()))<|
   .val (bt.f (u7a2.tries,0,3,())) λc11=>
   .ret ((!c11),())) λ(u12a0,_)=>
  .ite u12a0 (.ret false)<|
  .ite (u7a2.state==1) (.ite (!u7a2.s.fin) (.ite (!u7a2.s.done) (.ret (!u7a2.r.done))<|
    .ret false)<|
   .ret false)<|
  .ite (u7a2.state==2) (.ite u7a2.s.fin (.ite (!u7a2.s.done) (.ret (!u7a2.r.done))<|
    .ret false)<|
   .ret false)<|
  .ite (u7a2.state==3) (.ite u7a2.s.fin (.ite u7a2.s.done (.ret (!u7a2.r.done))<|
    .ret false)<|
   .ret false)<|
  .ite (u7a2.state==4) (.ite (!u7a2.s.fin) (.ite (!u7a2.s.done) (.ret u7a2.r.done)<|
    .ret false)<|
   .ret false)<|
  .ite (u7a2.state==5) (.ite (u7a2.state==5) (.ite u7a2.s.fin (.ite (!u7a2.s.done) (.ret u7a2.r.done)<|
     .ret false)<|
    .ret false)<|
   .ite (u7a2.state==7) (.ite u7a2.s.fin (.ite u7a2.s.done (.ret u7a2.r.done)<|
     .ret false)<|
    .ret false)<|
   .ret true)<|
  .ite (u7a2.state==6) (.ite u7a2.s.fin (.ite (!u7a2.s.done) (.ret u7a2.r.done)<|
    .ret false)<|
   .ret false)<|
  .ite (u7a2.state==7) (.ite u7a2.s.fin (.ite u7a2.s.done (.ret u7a2.r.done)<|
    .ret false)<|
   .ret false)<|
  .ret true
noncomputable def EF:=ck st PE P6 [] (ks:=[.st .conn]) cJ rB Tryz.func271 trivial
def oI:Sh:=⟨[zs 3],[]⟩
def xU:An:=⟨⟨[],[],false,0⟩,⟨[1,2,3],[],false,0⟩,⟨[],[]⟩,[(.normal,⟨[zp 1 0,zs 2,zs 3],[zx .opti]⟩)]⟩
def we:An:=⟨⟨[],[],false,0⟩,⟨[1,2,3],[],false,0⟩,⟨[],[]⟩,[(.normal,⟨[zp 1 0,zs 2,zs 3],[zx .opti]⟩)]⟩
def wm:An:=⟨⟨[],[],false,0⟩,⟨[1,2,3],[],false,0⟩,⟨[],[]⟩,[(.normal,⟨[zp 1 0,zs 2,zs 3],[zx .opti]⟩)]⟩
def wi:An:=⟨⟨[],[],false,0⟩,⟨[2,3],[],false,0⟩,⟨[],[]⟩,[(.normal,⟨[zs 2,zs 3],[]⟩)]⟩
noncomputable def dD (a:ac):Tr (Stp (ac) ((ac))):=
 .ite (((a.length:Int).tmod 4) != 0) (.grd (Nat.ble (a.length+1) ao)<|
  .ret (.next (a++[1])))<|
 .ret (.out a)
noncomputable def fk:oI.V→LW oI (ac) ((ac)):=λ(v0,_)=>⟨v0,λa=>(a,()),dD,(4-v0.length%4)%4,oN (.exit 0) ⟨[zu 2,zs 3],[]⟩ (λp=>(p,()))⟩
theorem xf {v0:ac}(h0:v0.length+(4-v0.length%4)%4≤20):(fk (v0,())).W (λp=>p.length≤20):=
 Xz (a:=v0) (λa=>a.length+(4-a.length%4)%4≤20) (λa=>(4-a.length%4)%4) h0
noncomputable def aI:FT (Opti×Unit) (ac) (λ_=>True) (λx v=>sS v∧v.length≤20):= .mk (λ(x0,_)=>
  .cal ay.c (x0,()) λc1=>
  .ite (!c1) (.ret [])<|
  .bnd (β:=ac×ac×Opti×Unit) (.as (λw=>sS w.1∧sS w.2.1∧w.2.1.length≤4) (.ite (x0.mss != 0) (.cal av.c (x0.mss,2,()) λc2=>
    .grd (Nat.ble (2+c2.length) ao)<|
    .grd (Nat.ble (0+([2,4]++c2).length) ao)<|
    .ret ([],([]++([2,4]++c2)),x0,()))<|
   .ret ([],[],x0,()))) λ(u3a0,u3a1,u3a2,_)=>
  .bnd (β:=ac×ac×Opti×Unit) (.as (λw=>sS w.1∧sS w.2.1∧w.2.1.length≤7) (.ite (u3a2.scale != (-1)) (.cal av.c (u3a2.scale,1,()) λc4=>
    .grd (Nat.ble (2+c4.length) ao)<|
    .grd (Nat.ble (u3a1.length+([3,3]++c4).length) ao)<|
    .ret (u3a0,(u3a1++([3,3]++c4)),u3a2,()))<|
   .ret (u3a0,u3a1,u3a2,()))) λ(u5a0,u5a1,u5a2,_)=>
  .bnd (β:=ac×ac×Opti×Unit) (.as (λw=>sS w.1∧sS w.2.1∧w.2.1.length≤9) (.ite u5a2.sack (.grd (Nat.ble (u5a1.length+2) ao)<|
    .ret (u5a0,(u5a1++[4,2]),u5a2,()))<|
   .ret (u5a0,u5a1,u5a2,()))) λ(u6a0,u6a1,u6a2,_)=>
  .bnd (β:=ac×ac×Unit) (.as (λw=>sS w.1∧sS w.2.1∧w.2.1.length≤19) (.ite u6a2.stamp (.cal av.c (u6a2.val,4,()) λc7=>
    .grd (Nat.ble (2+c7.length) ao)<|
    .cal av.c (u6a2.echo,4,()) λc8=>
    .grd (Nat.ble (([8,10]++c7).length+c8.length) ao)<|
    .grd (Nat.ble (u6a1.length+(([8,10]++c7)++c8).length) ao)<|
    .ret (u6a0,(u6a1++(([8,10]++c7)++c8)),()))<|
   .ret (u6a0,u6a1,()))) λ(_,u9a1,_)=>
  .lp (fk (u9a1,())).lp λp10a0=>
  .ret p10a0) (pQ @xf)
noncomputable def Da:=Jz st Tryz.func277 [(0,lb [3] [2,3]),(1000009,xU),(1000018,we),(1000026,wm),(1000030,wi)] [mP,iL] 0 fk (ks:=[.st .opti]) aI (λv=>[(false,[.c (.str v)])])
noncomputable def gb:FT (ac×Unit) (Int) (λx=>sS x.1) (λ_ _=>True):= .mk λ(x0,_)=>
  .cal og.c (x0,()) λc1=>
  .cal ri.c (c1,()) λc2=>
  .ret (IntKind.wrap .i64 (65535-c2))
noncomputable def Bb:=bm st Tryz.func279 [Oz,Pf] (ks:=[.sc .str]) gb rI
noncomputable def eI:FT (Pack×Unit) (ac) (λx=>gT x.1) (λx v=>sS v∧v.length≤1520):=⟨λ(x0,_)=>
  .cal fT.c (x0,()) λc1=>
  .ite (!c1) (.ret [])<|
  .cal av.c ((IntKind.wrap .i64 (20+(x0.body.length:Int))),2,()) λc2=>
  .grd (Nat.ble (2+c2.length) ao)<|
  .cal av.c (x0.id,2,()) λc3=>
  .grd (Nat.ble (([69,0]++c2).length+c3.length) ao)<|
  .grd (Nat.ble ((([69,0]++c2)++c3).length+2) ao)<|
  .cal av.c (x0.ttl,1,()) λc4=>
  .grd (Nat.ble (((([69,0]++c2)++c3)++[0,0]).length+c4.length) ao)<|
  .cal av.c (x0.proto,1,()) λc5=>
  .grd (Nat.ble ((((([69,0]++c2)++c3)++[0,0])++c4).length+c5.length) ao)<|
  .cal av.c (x0.src,4,()) λc6=>
  .cal av.c (x0.dst,4,()) λc7=>
  .grd (Nat.ble (c6.length+c7.length) ao)<|
  .grd (Nat.ble (((((([69,0]++c2)++c3)++[0,0])++c4)++c5).length+2) ao)<|
  .grd (Nat.ble ((((((([69,0]++c2)++c3)++[0,0])++c4)++c5)++[0,0]).length+(c6++c7).length) ao)<|
  .val ((((((([69,0]++c2)++c3)++[0,0])++c4)++c5)++[0,0])++(c6++c7)) λe8=>
  .cal gb.c (e8,()) λc9=>
  .cal av.c (c9,2,()) λc10=>
  .grd (Nat.ble (((((([69,0]++c2)++c3)++[0,0])++c4)++c5).length+c10.length) ao)<|
  .grd (Nat.ble ((((((([69,0]++c2)++c3)++[0,0])++c4)++c5)++c10).length+(c6++c7).length) ao)<|
  .val ((((((([69,0]++c2)++c3)++[0,0])++c4)++c5)++c10)++(c6++c7)) λe11=>
  .grd (Nat.ble (e11.length+x0.body.length) ao)<|
  .ret (e11++x0.body),
 λ(x0,_) hp=>by
  refine Tr.C trivial λc1 hc1 qc1=>Tr.I (λb0=>Tr.R ?_) λb0=>Tr.C trivial λc2 hc2 qc2=>Tr.Gb ?_ λg1=>Tr.C trivial λc3 hc3 qc3=>Tr.Gb ?_ λg2=>Tr.Gb ?_ λg3=>Tr.C trivial λc4 hc4 qc4=>Tr.Gb ?_ λg4=>Tr.C trivial λc5 hc5 qc5=>Tr.Gb ?_ λg5=>Tr.C trivial λc6 hc6 qc6=>Tr.C trivial λc7 hc7 qc7=>Tr.Gb ?_ λg6=>Tr.Gb ?_ λg7=>Tr.Gb ?_ λg8=>Tr.V λe8 he8=>Tr.C ?_ λc9 hc9 qc9=>Tr.C trivial λc10 hc10 qc10=>Tr.Gb ?_ λg9=>Tr.Gb ?_ λg10=>Tr.V λe11 he11=>Tr.Gb ?_ λg11=>Tr.R ?_
  all_goals ((first|(simp only[List.length_append,List.length_cons,List.length_nil,ao,sS]at*;omega)|grind))⟩
noncomputable def Fo:=bm st Tryz.func281 [Kx,iL,Bb] (ks:=[.st .pack]) eI (λv=>[(false,[.c (.str v)])])
noncomputable def DY:=[iT]
noncomputable def EY:Fx:=⟨285,Tryz.f285,[(3000004,rA 0 25)],0⟩
noncomputable def lx:FT (Int×Int×Int×Unit) (ac) (λ_=>True) (λx v=>sS v∧v.length≤20):=⟨λ(x0,x1,x2,_)=>
  .cal aM.c (x0,4,()) λc1=>
  .cal aM.c (x1,4,()) λc2=>
  .cal aM.c (x2,2,()) λc3=>
  .bnd (β:=Bool×Unit) (.ite (c1==[]) (.ret (true,()))<|
   .ite (c2==[]) (.ret (true,()))<|
   .ret ((c3==[]),())) λ(u4a0,_)=>
  .ite u4a0 (.ret [])<|
  .grd (Nat.ble (c1.length+c2.length) ao)<|
  .grd (Nat.ble ((c1++c2).length+2) ao)<|
  .grd (Nat.ble (((c1++c2)++[0,6]).length+c3.length) ao)<|
  .ret (((c1++c2)++[0,6])++c3),
 λ(x0,x1,x2,_) hp=>by
  refine Tr.C trivial λc1 hc1 qc1=>Tr.C trivial λc2 hc2 qc2=>Tr.C trivial λc3 hc3 qc3=>Tr.B (Q':=λ_=>True) (Tr.F (by kernel_rfl) trivial) (λ(u4a0,_) hj4 qj4=>Tr.I (λb0=>Tr.R ?_) λb0=>Tr.Gb ?_ λg1=>Tr.Gb ?_ λg2=>Tr.Gb ?_ λg3=>Tr.R ?_)
  all_goals ((try simp only[Tr.nice,jy]at*)<;>(first|(simp only[List.length_append,List.length_cons,List.length_nil,ao,sS]at*;omega)|grind))⟩
noncomputable def uv:=ck st EY DY [] (ks:=[.sc (.int .i64),.sc (.int .i64),.sc (.int .i64)]) lx (λv=>[(false,[.c (.str v)])]) Tryz.func285 trivial
def o7:Sh:=⟨[zs 0,zp 2 0,zp 4 1,zi 5],[zx .opti,zx .opti]⟩
noncomputable def cq (v0:ac)(a:Int×Opti):Tr (Stp (Int×Opti) ((Opti×Opti)⊕(Opti))):=
 .ite (decide (a.1<(v0.length:Int))) (.grd (dr v0 a.1)<|
  .ite ((af v0 a.1.toNat) != 0) (.grd (dr v0 a.1)<|
   .ite ((af v0 a.1.toNat)==1) (.ret (.next ((IntKind.wrap .i64 (a.1+1)),a.2)))<|
   .bnd (β:=Bool×Unit) (.ite (decide ((v0.length:Int)≤(IntKind.wrap .i64 (a.1+1)))) (.ret (true,()))<|
    .grd (dr v0 (IntKind.wrap .i64 (a.1+1)))<|
    .ite (decide ((af v0 ((IntKind.wrap .i64 (a.1+1)).toNat))<2)) (.ret (true,()))<|
    .grd (dr v0 (IntKind.wrap .i64 (a.1+1)))<|
    .ret ((decide ((IntKind.wrap .i64 ((v0.length:Int)-a.1))<(IntKind.wrap .i64 (af v0 ((IntKind.wrap .i64 (a.1+1)).toNat))))),())) λ(u2a0,_)=>
   .ite u2a0 (.val (bI.f (())) λc3=>
    .ret (.out (.inl (c3,a.2))))<|
   .grd (dr v0 (IntKind.wrap .i64 (a.1+1)))<|
   .val (IntKind.wrap .i64 (a.1+(IntKind.wrap .i64 (af v0 ((IntKind.wrap .i64 (a.1+1)).toNat))))) λe4=>
   .grd (Rg v0 a.1 e4)<|
   .cal Dt.c (a.2,((v0.take e4.toNat).drop a.1.toNat),()) λc5=>
   .ret (.next (e4,c5)))<|
  .ret (.out (.inr (a.2))))<|
 .ret (.out (.inr (a.2)))
instance s_ReadOptions_L0_i:Inhabited ((Opti×Opti)⊕(Opti)):=⟨.inl default⟩
noncomputable def gJ:o7.V→LW o7 (Int×Opti) ((Opti×Opti)⊕(Opti)):=λ(v0,v1,v2,v3,_)=>⟨(v1,v3),λa=>(v0,a.1,v2,a.2,()),cq v0,Int.toNat ((v0.length:Int)-v1),oB .ret ⟨[zp 2 0,zb 3,zp 4 1],[zx .opti,zx .opti]⟩ (λp=>(false,p.1,p.2,())) (.exit 0) ⟨[zp 2 0,zu 3,zp 4 1],[zx .opti,zx .opti]⟩ (λp=>(v2,p,()))⟩
theorem xJ {v0:ac}{v1:Int}{v2 v3:Opti}(h0:sS v0)(h1:0≤v1):(gJ (v0,v1,v2,v3,())).W (λ_=>True):=
 Xz (a:=(v1,v3)) (λa=>0≤a.1) (λa=>Int.toNat ((v0.length:Int)-a.1)) h1
noncomputable def jN:FT (ac×Unit) (Opti×Bool) (λx=>sS x.1) (λ_ _=>True):= .mk (λ(x0,_)=>
  .val (bI.f (())) λc1=>
  .lp (gJ (x0,0,(⟨0,0,false,false,0,0⟩:Opti),c1,())).lp λq6=> .sum q6 (λ(p6a0,_)=>
  .ret (p6a0,false))<|
  λp6b0=>
  .ret (p6b0,true)) (pQ @xJ)
noncomputable def CA:=Jz st Tryz.func287 [(0,lb [0,2,4,5] [2,3,4]),(3000006,rA 0 47)] [dJ,Sq] 0 gJ (ks:=[.sc .str]) jN (λv=>[(true,ml v.1),(false,[.c (.bool v.2)])])
noncomputable def gD:FT (Segm×Unit) (Bool) (λ_=>True) (λx v=>(v=true→x.1.body.length≤1420)):= .mk λ(x0,_)=>
  .cal aD.c (x0.from_,16,()) λc1=>
  .ite c1 (.cal aD.c (x0.to,16,()) λc2=>
   .ite c2 (.cal aD.c (x0.window,16,()) λc3=>
    .ite c3 (.cal aD.c (x0.seq,32,()) λc4=>
     .ite c4 (.cal aD.c (x0.ack,32,()) λc5=>
      .ite c5 (.cal aD.c (x0.flags,6,()) λc6=>
       .ite c6 (.cal dX.c (x0.opts,()) λc7=>
        .ite c7 (.ret (decide ((x0.body.length:Int)≤1420)))<|
        .ret false)<|
       .ret false)<|
      .ret false)<|
     .ret false)<|
    .ret false)<|
   .ret false)<|
  .ret false
noncomputable def jM:=bm st Tryz.func289 [bP,jF] (ks:=[.st .segm]) gD rB
noncomputable def QY:=[mZ,jx,ot,jF,b8,Q1]
def FZ:An:=⟨⟨[],[],false,0⟩,⟨[1,2,3],[],false,0⟩,⟨[],[]⟩,[(.normal,⟨[zp 1 0,zb 2,zi 3],[zg .conn]⟩)]⟩
noncomputable def Pd:Fx:=⟨298,Tryz.f298,[(1000055,FZ),(3000001,rA 0 52),(3000010,rA 0 4),(3000011,rA 0 5)],0⟩
noncomputable def fj:FT (Conn×Unit) (Bool) (λx=>ak x.1) (λx v=>(v=true→SO x.1.s∧RO x.1.r)):= .mk λ(x0,_)=>
  .bnd (β:=Bool×Unit) (.as (λw=>(w.1=false→SO x0.s∧RO x0.r)) (.cal jh.c (x0.tuple,()) λc1=>
   .ite (!c1) (.ret (true,()))<|
   .cal ey.c (x0.s,()) λc2=>
   .ite (!c2) (.ret (true,()))<|
   .cal ju.c (x0.r,()) λc3=>
   .ite (!c3) (.ret (true,()))<|
   .cal dX.c (x0.opts,()) λc4=>
   .ite (!c4) (.ret (true,()))<|
   .val (bN.f (x0.state,1,8,())) λc5=>
   .ite (!c5) (.ret (true,()))<|
   .val (bN.f (x0.window,0,x0.most,())) λc6=>
   .ite (!c6) (.ret (true,()))<|
   .ite (decide (1073725440<x0.most)) (.ret (true,()))<|
   .val (bN.f (x0.tries,0,3,())) λc7=>
   .ret ((!c7),()))) λ(u8a0,_)=>
  .ite u8a0 (.ret false)<|
  .bnd (β:=Bool×Int×Conn×Unit) (.as (λw=>ak w.2.2.1) (.ite (x0.state==7) (.ret (false,4,x0,()))<|
   .ret (false,3,x0,()))) λ(_,u9a1,u9a2,_)=>
  .val (bN.f (u9a2.timer,0,u9a1,())) λc10=>
  .ite (!c10) (.ret false)<|
  .ite (u9a2.state==8) (.ret true)<|
  .bnd (β:=Bool×Unit) (.ite (u9a2.state==3) (.ret (true,()))<|
   .ret ((u9a2.state==7),())) λ(u11a0,_)=>
  .bnd (β:=Bool×Unit) (.ite (u9a2.state==4) (.ret (true,()))<|
   .ret ((decide (5≤u9a2.state)),())) λ(u12a0,_)=>
  .val (Fg.f (u9a2.state,())) λc13=>
  .ite (u9a2.s.fin==c13) (.ite (u9a2.s.done==u11a0) (.ret (u9a2.r.done==u12a0))<|
   .ret false)<|
  .ret false
noncomputable def fQ:=ck st Pd QY [] (ks:=[.st .conn]) fj rB Tryz.func298 trivial
noncomputable def HX:FT (Sndr×Unit) (Sndr) (λx=>ci x.1) (λx v=>ci v):= .mk λ(x0,_)=>
  .cal ey.c (x0,()) λc1=>
  .ite c1 (.ret ({x0 with sent:=0,finSent:=false}:Sndr))<|
  .ret x0
noncomputable def NS:=bm st Tryz.func300 [jx] (ks:=[.st .sndr]) HX (λv=>[(true,xg v)])
noncomputable def Q2:=[jx,lY]
noncomputable def QN:Fx:=⟨305,Tryz.f305,[(3000001,rA 0 13)],0⟩
noncomputable def Fy:FT (Sndr×ac×Unit) (Sndr×Int) (λx=>ci x.1∧sS x.2.1) (λx v=>ci v.1):= .mk λ(x0,x1,_)=>
  .bnd (β:=Bool×Unit) (.as (λw=>(w.1=false→SO x0)) (.cal ey.c (x0,()) λc1=>
   .ite (!c1) (.ret (true,()))<|
   .ret (x0.fin,()))) λ(u2a0,_)=>
  .ite u2a0 (.ret (x0,0))<|
  .val (iC.f ((x1.length:Int),(IntKind.wrap .i64 (48-(x0.data.length:Int))),())) λc3=>
  .grd ((decide (0≤c3))&&(decide (c3≤(x1.length:Int))))<|
  .grd (Nat.ble (x0.data.length+((x1.take c3.toNat).drop 0).length) ao)<|
  .ret (({x0 with data:=(x0.data++((x1.take c3.toNat).drop 0))}:Sndr),c3)
noncomputable def FV:=ck st QN Q2 [] (ks:=[.st .sndr,.sc .str]) Fy (λv=>[(true,xg v.1),(false,[.c (.int .i64 v.2)])]) Tryz.func305 trivial
noncomputable def A6:FT (Recv×Int×Unit) (Recv×ac) (λx=>aZ x.1) (λx v=>aZ v.1∧sS v.2∧v.1.held.length=x.1.held.length):= .mk λ(x0,x1,_)=>
  .cal dj.c (x0,()) λc1=>
  .cal ju.c (x0,()) λc2=>
  .ite (!c2) (.ret (c1,[]))<|
  .val (iC.f (x1,(x0.data.length:Int),())) λc3=>
  .val (eE.f (0,c3,())) λc4=>
  .grd (Rg x0.data c4 (x0.data.length:Int))<|
  .grd ((decide (0≤c4))&&(decide (c4≤(x0.data.length:Int))))<|
  .ret (({c1 with data:=((x0.data.take ((x0.data.length:Int).toNat)).drop c4.toNat)}:Recv),((x0.data.take c4.toNat).drop 0))
noncomputable def B4:=bm st Tryz.func307 [ux,ot,lY,kD] (ks:=[.st .recv,.sc (.int .i64)]) A6 (λv=>[(true,uy (.o true) v.1),(false,[.c (.str v.2)])])
noncomputable def Lg:=[yO]
noncomputable def KR:Fx:=⟨322,Tryz.f322,[(3000003,rA 0 14)],0⟩
noncomputable def kh:FT (Keys×Int×Unit) (Mac×Bool) (λx=>cE x.1) (λx v=>dF v.1):= .mk λ(x0,x1,_)=>
  .ite (x1==x0.epoch) (.cal kf.c (x0.now,()) λc1=>
   .ret (c1,true))<|
  .bnd (β:=Bool×Unit) (.ite x0.two (.ret ((x1==(IntKind.wrap .i64 (x0.epoch-1))),()))<|
   .ret (false,())) λ(u2a0,_)=>
  .ite u2a0 (.cal kf.c (x0.before,()) λc3=>
   .ret (c3,true))<|
  .ret ((⟨false,0,0,[]⟩:Mac),false)
noncomputable def KY:=ck st KR Lg [] (ks:=[.st .keys,.sc (.int .i64)]) kh (λv=>[(true,DT (.o true) v.1),(false,[.c (.bool v.2)])]) Tryz.func322 trivial
noncomputable def gM:FT (Segm×Unit) (Segm×Bool) (λx=>ar x.1) (λx v=>ar v.1):= .mk λ(x0,_)=>
  .val (br.f (x0,4,())) λc1=>
  .ite c1 (.ret ((⟨0,0,0,0,0,0,⟨0,0,false,false,0,0⟩,[]⟩:Segm),false))<|
  .val (bM.f (())) λc2=>
  .val (br.f (x0,16,())) λc3=>
  .ite c3 (.ret ((⟨x0.to,x0.from_,x0.ack,0,4,0,c2,[]⟩:Segm),true))<|
  .cal bv.c (x0,()) λc4=>
  .val (lD.f (x0.seq,c4,())) λc5=>
  .ret ((⟨x0.to,x0.from_,0,c5,20,0,c2,[]⟩:Segm),true)
noncomputable def KI:=bm st Tryz.func324 [KQ,jB,Gx,pa] (ks:=[.st .segm]) gM (λv=>[(true,mq v.1),(false,[.c (.bool v.2)])])
noncomputable def xB:=[jB,Je,L1]
noncomputable def xD:Fx:=⟨334,Tryz.f334,[(3000004,rA 0 24)],0⟩
noncomputable def cV:FT (Int×Opti×Unit) (Opti) (λ_=>True) (λ_ _=>True):= .mk λ(x0,x1,_)=>
  .val (bM.f (())) λc1=>
  .cal fq.c (x0,()) λc2=>
  .cal kA.c (x1.echo,()) λc3=>
  .bnd (β:=Bool×Unit) (.ite x1.stamp (.ret (c3.2.2,()))<|
   .ret (false,())) λ(u4a0,_)=>
  .ite u4a0 (.ret (⟨c2,c3.1,c3.2.1,true,x1.val,c1.echo⟩:Opti))<|
  .ret ({c1 with mss:=c2}:Opti)
noncomputable def P5:=ck st xD xB [] (ks:=[.sc (.int .i64),.st .opti]) cV (λv=>[(true,ml v)]) Tryz.func334 trivial
noncomputable def eK:FT (Fram×Unit) (ac) (λx=>mt x.1) (λx v=>sS v∧v.length≤1600):=⟨λ(x0,_)=>
  .cal vR.c (x0,()) λc1=>
  .ite (!c1) (.ret [])<|
  .cal aM.c (x0.dst,6,()) λc2=>
  .cal aM.c (x0.src,6,()) λc3=>
  .grd (Nat.ble (c2.length+c3.length) ao)<|
  .cal aM.c (x0.type,2,()) λc4=>
  .grd (Nat.ble ((c2++c3).length+c4.length) ao)<|
  .grd (Nat.ble (((c2++c3)++c4).length+x0.body.length) ao)<|
  .ret (((c2++c3)++c4)++x0.body),
 λ(x0,_) hp=>by
  refine Tr.C trivial λc1 hc1 qc1=>Tr.I (λb0=>Tr.R ?_) λb0=>Tr.C trivial λc2 hc2 qc2=>Tr.C trivial λc3 hc3 qc3=>Tr.Gb ?_ λg1=>Tr.C trivial λc4 hc4 qc4=>Tr.Gb ?_ λg2=>Tr.Gb ?_ λg3=>Tr.R ?_
  all_goals ((first|(simp only[List.length_append,List.length_cons,List.length_nil,ao,sS]at*;omega)|grind))⟩
noncomputable def jC:=bm st Tryz.func340 [N6,iT] (ks:=[.st .fram]) eK (λv=>[(false,[.c (.str v)])])
noncomputable def i6:FT (Sndr×Unit) (Int) (λx=>ci x.1) (λ_ _=>True):= .mk λ(x0,_)=>
  .cal dU.c (x0,()) λc1=>
  .val (lD.f (x0.una,c1,())) λc2=>
  .ret c2
noncomputable def Ea:=bm st Tryz.func381 [DG,pa] (ks:=[.st .sndr]) i6 rI
noncomputable def JB:=[IB]
noncomputable def JC:Fx:=⟨386,Tryz.f386,[(3000002,rA 0 29)],0⟩
noncomputable def rR:FT (Arpm×Int×Int×Unit) (Arpm×Bool) (λ_=>True) (λ_ _=>True):= .mk λ(x0,x1,x2,_)=>
  .bnd (β:=Bool×Unit) (.ite (x0.kind != 1) (.ret (true,()))<|
   .ite (x0.dstIp != x2) (.ret (true,()))<|
   .cal z0.c ((⟨2,x1,x2,x0.srcHw,x0.srcIp⟩:Arpm),()) λc1=>
   .ret ((!c1),())) λ(u2a0,_)=>
  .ite u2a0 (.ret ((⟨0,0,0,0,0⟩:Arpm),false))<|
  .ret ((⟨2,x1,x2,x0.srcHw,x0.srcIp⟩:Arpm),true)
noncomputable def KX:=ck st JC JB [] (ks:=[.st .arpm,.sc (.int .i64),.sc (.int .i64)]) rR (λv=>[(true,ED v.1),(false,[.c (.bool v.2)])]) Tryz.func386 trivial
noncomputable def n9:FT (Arpm×Unit) (ac) (λ_=>True) (λx v=>sS v∧v.length≤40):=⟨λ(x0,_)=>
  .cal z0.c (x0,()) λc1=>
  .ite (!c1) (.ret [])<|
  .cal aM.c (x0.kind,2,()) λc2=>
  .grd (Nat.ble (6+c2.length) ao)<|
  .cal aM.c (x0.srcHw,6,()) λc3=>
  .grd (Nat.ble (([0,1,8,0,6,4]++c2).length+c3.length) ao)<|
  .cal aM.c (x0.srcIp,4,()) λc4=>
  .grd (Nat.ble ((([0,1,8,0,6,4]++c2)++c3).length+c4.length) ao)<|
  .cal aM.c (x0.dstHw,6,()) λc5=>
  .grd (Nat.ble (((([0,1,8,0,6,4]++c2)++c3)++c4).length+c5.length) ao)<|
  .cal aM.c (x0.dstIp,4,()) λc6=>
  .grd (Nat.ble ((((([0,1,8,0,6,4]++c2)++c3)++c4)++c5).length+c6.length) ao)<|
  .ret ((((([0,1,8,0,6,4]++c2)++c3)++c4)++c5)++c6),
 λ(x0,_) hp=>by
  refine Tr.C trivial λc1 hc1 qc1=>Tr.I (λb0=>Tr.R ?_) λb0=>Tr.C trivial λc2 hc2 qc2=>Tr.Gb ?_ λg1=>Tr.C trivial λc3 hc3 qc3=>Tr.Gb ?_ λg2=>Tr.C trivial λc4 hc4 qc4=>Tr.Gb ?_ λg3=>Tr.C trivial λc5 hc5 qc5=>Tr.Gb ?_ λg4=>Tr.C trivial λc6 hc6 qc6=>Tr.Gb ?_ λg5=>Tr.R ?_
  all_goals ((first|(simp only[List.length_append,List.length_cons,List.length_nil,ao,sS]at*;omega)|grind))⟩
noncomputable def uQ:=bm st Tryz.func387 [IB,iT] (ks:=[.st .arpm]) n9 (λv=>[(false,[.c (.str v)])])
noncomputable def qe:FT (ac×Unit) (Int) (λx=>sS x.1) (λ_ _=>True):= .mk λ(x0,_)=>
  .cal vv.c (x0,()) λc1=>
  .cal zT.c (c1,()) λc2=>
  .ret (IntKind.wrap .i64 (65535-c2))
noncomputable def vL:=bm st Tryz.func388 [NK,PY] (ks:=[.sc .str]) qe rI
noncomputable def ss:FT (Segm×Unit) (Segm×Bool) (λx=>ar x.1) (λx v=>ar v.1):= .mk λ(x0,_)=>
  .val (fV.f (x0,4,())) λc1=>
  .ite c1 (.ret ((⟨0,0,0,0,0,0,⟨0,0,false,false,0,0⟩,[]⟩:Segm),false))<|
  .val (bI.f (())) λc2=>
  .val (fV.f (x0,16,())) λc3=>
  .ite c3 (.ret ((⟨x0.to,x0.from_,x0.ack,0,4,0,c2,[]⟩:Segm),true))<|
  .cal gQ.c (x0,()) λc4=>
  .val (bH.f (x0.seq,c4,())) λc5=>
  .ret ((⟨x0.to,x0.from_,0,c5,20,0,c2,[]⟩:Segm),true)
noncomputable def J0:=bm st Tryz.func391 [rN,dJ,pm,cP] (ks:=[.st .segm]) ss (λv=>[(true,mq v.1),(false,[.c (.bool v.2)])])
noncomputable def Nw:=[yp]
noncomputable def NA:Fx:=⟨394,Tryz.f394,[(3000003,rA 0 27)],0⟩
noncomputable def qI:FT (List Half×Half×Int×Unit) (List Half×Bool) (λx=>sS x.1) (λx v=>sS v.1∧(v.1.length:Int)≤x.1.length+1):= .mk λ(x0,x1,x2,_)=>
  .grd (Nat.ble ((2*(0+x0.length)+1024)*96) bj)<|
  .grd (Nat.ble ((2*(0+x0.length)+1024)*96) bj)<|
  .grd (qi ([]++x0) 1 96)<|
  .bnd (β:=Bool×Unit) (.as (λw=>(w.1=false→(([]++x0)++[x1]).length≤64)) (.ite (decide (x2≤(x0.length:Int))) (.ret (true,()))<|
   .cal lT.c ((([]++x0)++[x1]),()) λc1=>
   .ret ((!c1),()))) λ(u2a0,_)=>
  .ite u2a0 (.ret (([]++x0),false))<|
  .ret ((([]++x0)++[x1]),true)
noncomputable def Bd:=ck st NA Nw [] (ks:=[.sc (.sl .half),.st .half,.sc (.int .i64)]) qI (λv=>[(false,[sc (.o true) .half v.1]),(false,[.c (.bool v.2)])]) Tryz.func394 trivial
noncomputable def NG:=[jF,dJ,bP,kD,cP,sX]
def Dk:An:=⟨⟨[],[],false,0⟩,⟨[1,2,4,5,8,10],[],false,0⟩,⟨[],[]⟩,[(.normal,⟨[zi 1,zi 2,zi 4,zp 5 0,zp 8 1,zp 10 2],[zx .tupl,zx .opti,.box [.st .conn [.nil .piec]]]⟩)]⟩
def CD:An:=⟨⟨[],[],false,0⟩,⟨[1,2,4,5,8,10],[],false,0⟩,⟨[],[]⟩,[(.normal,⟨[zi 1,zi 2,zi 4,zp 5 0,zp 8 1,zp 10 2],[zx .tupl,zx .opti,.box [.st .conn [.nil .piec]]]⟩)]⟩
noncomputable def LA:Fx:=⟨397,Tryz.f397,[(1000014,Dk),(1000018,CD)],0⟩
noncomputable def oe:FT (Tupl×Int×Int×Opti×Int×Unit) (Conn) (λ_=>True) (λx v=>ak v):= .mk λ(x0,x1,x2,x3,x4,_)=>
  .cal dX.c (x3,()) λc1=>
  .bnd (β:=Int×Int×Int×Tupl×Opti×Conn×Unit) (.as (λw=>ak w.2.2.2.2.2.1) (.ite (!c1) (.val (bI.f (())) λc2=>
    .ret (x1,x2,x4,x0,c2,(⟨⟨0,0,0⟩,0,⟨0,[],0,false,false,false⟩,⟨0,[],[],0,false⟩,0,0,⟨0,0,false,false,0,0⟩,0,0⟩:Conn),()))<|
   .ret (x1,x2,x4,x0,x3,(⟨⟨0,0,0⟩,0,⟨0,[],0,false,false,false⟩,⟨0,[],[],0,false⟩,0,0,⟨0,0,false,false,0,0⟩,0,0⟩:Conn),()))) λ(u3a0,u3a1,u3a2,u3a3,u3a4,u3a5,_)=>
  .cal aD.c (u3a2,16,()) λc4=>
  .bnd (β:=Int×Int×Int×Tupl×Opti×Conn×Unit) (.as (λw=>ak w.2.2.2.2.2.1) (.ite (!c4) (.ret (u3a0,u3a1,0,u3a3,u3a4,({u3a5 with r.held:=[]}:Conn),()))<|
   .ret (u3a0,u3a1,u3a2,u3a3,u3a4,({u3a5 with r.held:=[]}:Conn),()))) λ(u5a0,u5a1,u5a2,u5a3,u5a4,_,_)=>
  .val (eE.f (0,u5a4.scale,())) λc6=>
  .grd (decide (0≤(IntKind.wrap .u64 c6)))<|
  .val (bH.f (u5a0,1,())) λc7=>
  .val (bH.f (u5a1,1,())) λc8=>
  .cal jE.c (c8,()) λc9=>
  .ret (⟨u5a3,1,⟨c7,[],0,false,false,false⟩,c9,(IntKind.wrap .i64 (u5a2*2 ^ (min (IntKind.wrap .u64 c6).toNat 64))),(IntKind.wrap .i64 (u5a2*2 ^ (min (IntKind.wrap .u64 c6).toNat 64))),u5a4,0,0⟩:Conn)
noncomputable def Bm:=ck st LA NG [] (ks:=[.st .tupl,.sc (.int .i64),.sc (.int .i64),.st .opti,.sc (.int .i64)]) oe (λv=>[(true,kg (.o true) v)]) Tryz.func397 trivial
noncomputable def xe:=[dJ,Iq,Mw]
noncomputable def xF:Fx:=⟨398,Tryz.f398,[(3000004,rA 0 24)],0⟩
noncomputable def jt:FT (Int×Opti×Unit) (Opti) (λ_=>True) (λ_ _=>True):= .mk λ(x0,x1,_)=>
  .val (bI.f (())) λc1=>
  .cal yB.c (x0,()) λc2=>
  .cal vF.c (x1.echo,()) λc3=>
  .bnd (β:=Bool×Unit) (.ite x1.stamp (.ret (c3.2.2,()))<|
   .ret (false,())) λ(u4a0,_)=>
  .ite u4a0 (.ret (⟨c2,c3.1,c3.2.1,true,x1.val,c1.echo⟩:Opti))<|
  .ret ({c1 with mss:=c2}:Opti)
noncomputable def xx:=ck st xF xe [] (ks:=[.sc (.int .i64),.st .opti]) jt (λv=>[(true,ml v)]) Tryz.func398 trivial
noncomputable def u7:FT (Sndr×Unit) (Int) (λx=>ci x.1) (λ_ _=>True):= .mk λ(x0,_)=>
  .cal fO.c (x0,()) λc1=>
  .val (bH.f (x0.una,c1,())) λc2=>
  .ret c2
noncomputable def FB:=bm st Tryz.func405 [gH,cP] (ks:=[.st .sndr]) u7 rI
noncomputable def HS:=[jx,lY,kD,gH,FB]
noncomputable def HG:Fx:=⟨406,Tryz.f406,[(3000007,rA 0 79)],0⟩
noncomputable def iU:FT (Sndr×Int×Int×Unit) (Chun×Bool) (λx=>ci x.1) (λx v=>nL v.1∧(v.2=true→SO x.1∧(v.1.text.length:Int)+x.1.sent≤x.1.data.length∧x.1.finSent=false∧(v.1.text=[]→v.1.fin=true)∧(v.1.fin=true→x.1.fin=true∧x.1.done=false∧x.1.sent+v.1.text.length=x.1.data.length))):=⟨λ(x0,x1,x2,_)=>
  .cal ey.c (x0,()) λc1=>
  .ite (!c1) (.ret ((⟨0,[],false⟩:Chun),false))<|
  .val (iC.f (x1,1000000,())) λc2=>
  .val (eE.f (0,c2,())) λc3=>
  .cal fO.c (x0,()) λc4=>
  .val (eE.f (0,(IntKind.wrap .i64 (c3-c4)),())) λc5=>
  .val (iC.f (x2,c5,())) λc6=>
  .val (iC.f (c6,(IntKind.wrap .i64 ((x0.data.length:Int)-x0.sent)),())) λc7=>
  .val (eE.f (0,c7,())) λc8=>
  .cal u7.c (x0,()) λc9=>
  .grd (Rg x0.data x0.sent (IntKind.wrap .i64 (x0.sent+c8)))<|
  .val ((x0.data.take ((IntKind.wrap .i64 (x0.sent+c8)).toNat)).drop x0.sent.toNat) λe10=>
  .ite x0.fin (.ite (!x0.finSent) (.ite (!x0.done) (.ite ((IntKind.wrap .i64 (x0.sent+c8))==(x0.data.length:Int)) (.bnd (β:=Bool×Unit) (.ite (c8==0) (.ret ((!(decide (c8<c5))),()))<|
       .ret (false,())) λ(u11a0,_)=>
      .ite u11a0 (.ret ((⟨0,[],false⟩:Chun),false))<|
      .ret ((⟨c9,e10,(decide (c8<c5))⟩:Chun),true))<|
     .bnd (β:=Bool×Unit) (.ite (c8==0) (.ret (true,()))<|
      .ret (false,())) λ(u12a0,_)=>
     .ite u12a0 (.ret ((⟨0,[],false⟩:Chun),false))<|
     .ret ((⟨c9,e10,false⟩:Chun),true))<|
    .bnd (β:=Bool×Unit) (.ite (c8==0) (.ret (true,()))<|
     .ret (false,())) λ(u13a0,_)=>
    .ite u13a0 (.ret ((⟨0,[],false⟩:Chun),false))<|
    .ret ((⟨c9,e10,false⟩:Chun),true))<|
   .bnd (β:=Bool×Unit) (.ite (c8==0) (.ret (true,()))<|
    .ret (false,())) λ(u14a0,_)=>
   .ite u14a0 (.ret ((⟨0,[],false⟩:Chun),false))<|
   .ret ((⟨c9,e10,false⟩:Chun),true))<|
  .bnd (β:=Bool×Unit) (.ite (c8==0) (.ret (true,()))<|
   .ret (false,())) λ(u15a0,_)=>
  .ite u15a0 (.ret ((⟨0,[],false⟩:Chun),false))<|
  .ret ((⟨c9,e10,false⟩:Chun),true),
 λ(x0,x1,x2,_) hp=>by
  refine Tr.C trivial λc1 hc1 qc1=>Tr.I (λb0=>Tr.R ?_) λb0=>Tr.V λc2 hc2=>Tr.V λc3 hc3=>Tr.C ?_ λc4 hc4 qc4=>Tr.V λc5 hc5=>Tr.V λc6 hc6=>Tr.V λc7 hc7=>Tr.V λc8 hc8=>Tr.C ?_ λc9 hc9 qc9=>Tr.G3 ?_ λg1=>Tr.V λe10 he10=>Tr.I (λb2=>Tr.I (λb3=>Tr.I (λb4=>Tr.I (λb5=>Tr.B (Q':=λ_=>True) (Tr.F (by kernel_rfl) trivial) (λ(u11a0,_) hj11 qj11=>Tr.I (λb6=>Tr.R ?_) λb6=>Tr.R ?_)) λb5=>Tr.B (Q':=λ_=>True) (Tr.F (by kernel_rfl) trivial) (λ(u12a0,_) hj12 qj12=>Tr.I (λb6=>Tr.R ?_) λb6=>Tr.R ?_)) λb4=>Tr.B (Q':=λ_=>True) (Tr.F (by kernel_rfl) trivial) (λ(u13a0,_) hj13 qj13=>Tr.I (λb5=>Tr.R ?_) λb5=>Tr.R ?_)) λb3=>Tr.B (Q':=λ_=>True) (Tr.F (by kernel_rfl) trivial) (λ(u14a0,_) hj14 qj14=>Tr.I (λb4=>Tr.R ?_) λb4=>Tr.R ?_)) λb2=>Tr.B (Q':=λ_=>True) (Tr.F (by kernel_rfl) trivial) (λ(u15a0,_) hj15 qj15=>Tr.I (λb3=>Tr.R ?_) λb3=>Tr.R ?_)
  all_goals ((try simp only[Tr.nice,jy]at*)<;>(first|grind|(have hs:SO x0:=(by grind);have h7:c7≤(x0.data.length:Int)-x0.sent:=(by rw[hc7,md,au (by grind) (by grind)];split<;>omega);have h8:0≤c8∧c8≤(x0.data.length:Int)-x0.sent:=(by rw[hc8,oH];have:=hs.2.2.2.2.1;split<;>omega);clear hc7 hc8 hc4 hc2 hc3 hc6 hc5;grind)))⟩
noncomputable def wU:=ck st HG HS [] (ks:=[.st .sndr,.sc (.int .i64),.sc (.int .i64)]) iU (λv=>[(true,UA v.1),(false,[.c (.bool v.2)])]) Tryz.func406 trivial
noncomputable def yJ:=[bO,OD]
def tP:An:=⟨⟨[],[],false,0⟩,⟨[1,2,4,5],[],false,0⟩,⟨[],[]⟩,[(.normal,⟨[zi 1,zp 2 0,zp 4 1,zp 5 2],[zx .opti,zx .opti,zx .opti]⟩)]⟩
noncomputable def zj:Fx:=⟨424,Tryz.f424,[(1000013,tP)],0⟩
noncomputable def fv:FF (Opti×Int×Unit) (Opti):=⟨λ(x0,x1,_)=>
  .ite (!x0.stamp) (.ret (⟨1460,(-1),false,false,0,0⟩:Opti))<|
  .val (bt.f (x0.scale,0,14,())) λc1=>
  .bnd (β:=Int×Opti×Opti×Opti×Unit) (.ite c1 (.ret (x1,x0,(⟨0,0,false,false,0,0⟩:Opti),(⟨1460,0,false,false,0,0⟩:Opti),()))<|
   .ret (x1,x0,(⟨0,0,false,false,0,0⟩:Opti),(⟨1460,(-1),false,false,0,0⟩:Opti),())) λ(u2a0,u2a1,_,u2a3,_)=>
  .val (lW.f (u2a0,u2a1.scale,u2a1.sack,())) λc3=>
  .ret (⟨u2a3.mss,u2a3.scale,u2a1.sack,true,c3,u2a1.val⟩:Opti)⟩
noncomputable def yN:=Uc st zj yJ [] (ks:=[.st .opti,.sc (.int .i64)]) fv (λv=>[(true,ml v)]) Tryz.func424 trivial
noncomputable def z5:=[b8,Mq]
def tN:An:=⟨⟨[],[],false,0⟩,⟨[1,2,4,5],[],false,0⟩,⟨[],[]⟩,[(.normal,⟨[zi 1,zp 2 0,zp 4 1,zp 5 2],[zx .opti,zx .opti,zx .opti]⟩)]⟩
noncomputable def zr:Fx:=⟨443,Tryz.f443,[(1000013,tN)],0⟩
noncomputable def jR:FF (Opti×Int×Unit) (Opti):=⟨λ(x0,x1,_)=>
  .ite (!x0.stamp) (.ret (⟨1460,(-1),false,false,0,0⟩:Opti))<|
  .val (bN.f (x0.scale,0,14,())) λc1=>
  .bnd (β:=Int×Opti×Opti×Opti×Unit) (.ite c1 (.ret (x1,x0,(⟨0,0,false,false,0,0⟩:Opti),(⟨1460,0,false,false,0,0⟩:Opti),()))<|
   .ret (x1,x0,(⟨0,0,false,false,0,0⟩:Opti),(⟨1460,(-1),false,false,0,0⟩:Opti),())) λ(u2a0,u2a1,_,u2a3,_)=>
  .val (vB.f (u2a0,u2a1.scale,u2a1.sack,())) λc3=>
  .ret (⟨u2a3.mss,u2a3.scale,u2a1.sack,true,c3,u2a1.val⟩:Opti)⟩
noncomputable def yA:=Uc st zr z5 [] (ks:=[.st .opti,.sc (.int .i64)]) jR (λv=>[(true,ml v)]) Tryz.func443 trivial
noncomputable def gL:FT (Sipr×Unit) (Sipr) (λ_=>True) (λ_ _=>True):= .mk λ(x0,_)=>
  .cal jp.c (x0.b,13,()) λc1=>
  .cal jp.c ((IntKind.wrap .u64 (x0.a+x0.b)),32,()) λc2=>
  .cal jp.c (x0.d,16,()) λc3=>
  .val (IntKind.wrap .u64 (c2+(bits .xor .u64 c3 (IntKind.wrap .u64 (x0.c+x0.d))))) λe4=>
  .cal jp.c ((bits .xor .u64 c3 (IntKind.wrap .u64 (x0.c+x0.d))),21,()) λc5=>
  .val (IntKind.wrap .u64 ((IntKind.wrap .u64 (x0.c+x0.d))+(bits .xor .u64 c1 (IntKind.wrap .u64 (x0.a+x0.b))))) λe6=>
  .cal jp.c ((bits .xor .u64 c1 (IntKind.wrap .u64 (x0.a+x0.b))),17,()) λc7=>
  .cal jp.c (e6,32,()) λc8=>
  .ret (⟨e4,(bits .xor .u64 c7 e6),c8,(bits .xor .u64 c5 e4)⟩:Sipr)
noncomputable def zz:=bm st Tryz.func459 [OL] (ks:=[.st .sipr]) gL (λv=>[(true,Au v)])
noncomputable def vG:FT (Conn×Int×Unit) (Bool) (λx=>ak x.1) (λ_ _=>True):= .mk λ(x0,x1,_)=>
  .val (oa.f (x1,x0.s.una,())) λc1=>
  .cal fO.c (x0.s,()) λc2=>
  .ite (decide (c1≤c2)) (.ite (decide (0≤c1)) (.ret true)<|
   .ite (decide (2147483648≤x0.most)) (.ret true)<|
   .ite (decide (0<x0.most)) (.ret (decide ((IntKind.wrap .i64 (0-x0.most))≤c1)))<|
   .ret false)<|
  .ret false
noncomputable def M7:=bm st Tryz.func481 [vp,gH] (ks:=[.st .conn,.sc (.int .i64)]) vG rB
noncomputable def Tb:=[vp,jx,gH,b8,cP]
def G0:An:=⟨⟨[],[],false,0⟩,⟨[2,4,5,6,7],[],false,0⟩,⟨[],[]⟩,[(.normal,⟨[zp 2 0,zp 4 1,zb 5,zi 6,zp 7 2],[zx .sndr,zx .sndr,zx .sndr]⟩)]⟩
noncomputable def RH:Fx:=⟨482,Tryz.f482,[(1000032,G0),(3000002,rA 0 21)],0⟩
noncomputable def yv:FT (Sndr×Int×Unit) (Sndr×Bool) (λx=>ci x.1) (λx v=>ci v.1):= .mk λ(x0,x1,_)=>
  .val (oa.f (x1,x0.una,())) λc1=>
  .bnd (β:=Bool×Unit) (.as (λw=>(w.1=false→SO x0)∧(w.1=false→0≤c1∧c1≤x0.sent+1)) (.cal ey.c (x0,()) λc2=>
   .ite (!c2) (.ret (true,()))<|
   .cal fO.c (x0,()) λc3=>
   .val (bN.f (c1,0,c3,())) λc4=>
   .ret ((!c4),()))) λ(u5a0,_)=>
  .ite u5a0 (.ret (x0,false))<|
  .val (bH.f (x0.una,c1,())) λc6=>
  .bnd (β:=Bool×Int×Sndr×Sndr×Sndr×Unit) (.as (λw=>ci w.2.2.1∧ci w.2.2.2.1∧ci w.2.2.2.2.1∧0≤w.2.1∧w.2.1≤x0.data.length∧w.2.2.1=x0) (.ite (decide (x0.sent<c1)) (.ret (false,x0.sent,x0,(⟨0,[],0,false,false,false⟩:Sndr),({x0 with una:=c6,finSent:=false,done:=true}:Sndr),()))<|
   .ret (false,c1,x0,(⟨0,[],0,false,false,false⟩:Sndr),({x0 with una:=c6}:Sndr),()))) λ(_,u7a1,u7a2,_,u7a4,_)=>
  .grd (Rg u7a2.data u7a1 (u7a2.data.length:Int))<|
  .ret (({u7a4 with data:=((u7a2.data.take ((u7a2.data.length:Int).toNat)).drop u7a1.toNat),sent:=(IntKind.wrap .i64 (u7a2.sent-u7a1))}:Sndr),true)
noncomputable def I8:=ck st RH Tb [] (ks:=[.st .sndr,.sc (.int .i64)]) yv (λv=>[(true,xg v.1),(false,[.c (.bool v.2)])]) Tryz.func482 trivial
noncomputable def uu:=[ux,ot,jd,KH,cP,fP,LJ,GZ]
def lr:Sh:=⟨[zi 1,zs 2,zb 3,zp 4 0,zp 8 1,zp 9 2,zi 10,zo 11 3,zi 12],[zg .recv,.box [.st .recv [.nil .piec]],zk .recv 4,za .i64,zf]⟩
def li:Sh:=⟨[zp 4 0,zp 8 1,zp 9 2,zo 11 3,zi 15,zo 16 4],[zg .recv,.box [.st .recv [.nil .piec]],zk .recv 5,za .i64,za .u8,zf]⟩
def sR:An:=⟨⟨[],[],false,0⟩,⟨[4,8,9,11],[],false,0⟩,⟨[],[]⟩,[(.normal,⟨[zp 4 0,zp 8 1,zp 9 2,zo 11 3],[zg .recv,.box [.st .recv [.nil .piec]],zk .recv 4,za .i64,zf]⟩)]⟩
def mf:An:=⟨⟨[],[],false,0⟩,⟨[4,8,9],[],false,0⟩,⟨[],[]⟩,[(.normal,⟨[zp 4 0,zp 8 1,zp 9 2],[zg .recv,.box [.st .recv [.nil .piec]],zk .recv 3,zf]⟩)]⟩
noncomputable def vl:Fx:=⟨483,Tryz.f483,[(0,lb [1,2,3,4,8,9,10,11,12] [1,2,3,4,8,9,10,11]),(2,lb [4,8,9,11,15,16] [4,8,9,11,15,16]),(1000095,sR),(1000137,mf),(3000002,rA 0 25),(3000010,rA 0 64),(3000013,rA 0 95)],0⟩
noncomputable def pg (v0:Int)(v1:ac)(v3:Int)(v5:Recv)(v4:Int)(a:Recv×List Int):Tr (Stp (Recv×List Int) (Empty)):=
 .val (bH.f (v0,v4,())) λc6=>
 .val (bJ.f ((IntKind.wrap .i64 (c6-v5.next)),())) λc7=>
 .bnd (β:=Bool×Unit) (.ite (decide (c7<v3)) (.ite (decide (v5.fin<0)) (.grd (dr a.2 c7)<|
    .ret ((decide ((a.2.getD c7.toNat 0)<0)),()))<|
   .ite (decide (c7<v5.fin)) (.grd (dr a.2 c7)<|
    .ret ((decide ((a.2.getD c7.toNat 0)<0)),()))<|
   .ret (false,()))<|
  .ret (false,())) λ(u8a0,_)=>
 .ite u8a0 (.grd (dr v1 v4)<|
  .grd (dr a.2 c7)<|
  .ret (.next (({a.1 with held:=[]}:Recv),(a.2.set c7.toNat (IntKind.wrap .i64 (af v1 v4.toNat))))))<|
 .ret (.next (({a.1 with held:=[]}:Recv),a.2))
noncomputable def fm:lr.V→sD lr (Recv×List Int):=λ(v0,v1,v2,v3,v4,v5,v6,v7,v8,_)=>⟨v4,(v6,v8),λv4 a=>(v0,v1,v2,v3,v4,v5,a.1,v7,a.2,()),λv4 _=>(decide (v4<(v1.length:Int))),pg v0 v1 v3 v5,up,1,(Int.toNat ((v1.length:Int)-v4)),Empty.elim,Prod.mk,oN (.exit 0) ⟨[zi 1,zs 2,zb 3,zp 4 0,zp 8 1,zp 9 2,zi 10,zo 11 3],[zg .recv,.box [.st .recv [.nil .piec]],zk .recv 4,za .i64,zf]⟩ (λx=>(v0,v1,v2,v3,v5,({x.2.1 with held:=[]}:Recv),v7,x.2.2,()))⟩
theorem ER:LS Tryz.prog vl [0] (jz 0 lr fm):=eB st (aV uu) _ fm [] trivial
theorem ES {v0 v3 v4:Int}{v1:ac}{v2:Bool}{v5 v6 v7:Recv}{v8:List Int}(h0:0≤v4)(h1:(v1.length:Int)≤4611686018427387904)(h2:v3≤32)(h3:sS v1)(h4:aZ v5)(h5:sS v8)(h6:aZ v6∧v8.length=v8.length∧v8.length=33):(fm (v0,v1,v2,v3,v4,v5,v6,v7,v8,())).U (v1.length:Int) (λv4 a=>aZ a.1∧a.2.length=v8.length∧a.2.length=33) (λ_=>True):=
 kN (a:=(v6,v8)) h0 h1 h6
noncomputable def i3 (v4:List Int)(v0:Int)(a:Recv×List Int):Tr (Stp (Recv×List Int) ((Int×Recv×List Int))):=
 .grd (dr v4 v0)<|
 .ite (decide (0≤(v4.getD v0.toNat 0))) (.grd (dr v4 v0)<|
  .grd (qi a.2 1 1)<|
  .ret (.next (({a.1 with held:=[]}:Recv),(a.2++[(IntKind.wrap .u8 (v4.getD v0.toNat 0))]))))<|
 .ret (.out (v0,({a.1 with held:=[]}:Recv),a.2))
noncomputable def dV:li.V→tM li (Recv×List Int) (Int×Recv×List Int):=λ(v0,v1,v2,v3,v4,v5,_)=>⟨v0,(v2,v5),λv0 a=>(v0,v1,a.1,v3,v4,a.2,()),λv0 _=>(decide (v0<(v4.length:Int))),i3 v4,up,1,(Int.toNat ((v4.length:Int)-v0)),.inl,eR,oB (.exit 2) ⟨[zp 4 0,zp 8 1,zp 9 2,zo 11 3,zi 15,zo 16 4],[zg .recv,.box [.st .recv [.nil .piec]],zk .recv 5,za .i64,za .u8,zf]⟩ (λp=>(p.1,v1,p.2.1,v3,v4,p.2.2,())) (.exit 2) ⟨[zp 4 0,zp 8 1,zp 9 2,zo 11 3,zi 15,zo 16 4],[zg .recv,.box [.st .recv [.nil .piec]],zk .recv 5,za .i64,za .u8,zf]⟩ (λx=>(x.1,v1,({x.2.1 with held:=[]}:Recv),v3,v4,x.2.2,()))⟩
theorem DS:LS Tryz.prog vl [1] (jz 2 li dV):=eB st (aV uu) _ dV [] trivial
theorem Gu {v0:Int}{v1 v2 v3:Recv}{v4 v5:List Int}(h0:0≤v0)(h1:(v4.length:Int)≤4611686018427387904)(h2:sS v4)(h3:aZ v2∧(v5.length:Int)=v0):(dV (v0,v1,v2,v3,v4,v5,())).U (v4.length:Int) (λv0 a=>aZ a.1∧(a.2.length:Int)=v0) (λp=>aZ p.2.1∧sS p.2.2∧v0≤p.1∧p.1<(v4.length:Int)∧p.2.2.length≤v4.length):=
 kN (a:=(v2,v5)) h0 h1 h3
noncomputable def od:FT (Recv×Int×ac×Bool×Unit) (Recv) (λx=>aZ x.1∧sS x.2.2.1) (λx v=>aZ v∧(v.held.length:Int)≤max x.1.held.length 3):=⟨λ(x0,x1,x2,x3,_)=>
  .cal dj.c (x0,()) λc1=>
  .bnd (β:=Bool×Unit) (.cal ju.c (x0,()) λc2=>
   .ite (!c2) (.ret (true,()))<|
   .ret (x0.done,())) λ(u3a0,_)=>
  .ite u3a0 (.ret c1)<|
  .cal fR.c (x0,()) λc4=>
  .cal rL.c (x0,()) λc5=>
  .lp (fm (x1,x2,x3,c4,0,x0,(⟨0,[],[],0,false⟩:Recv),c1,c5,())).lp λ(_,a9_0,a9_1)=>
  .val (bH.f (x1,(x2.length:Int),())) λc10=>
  .val (bJ.f ((IntKind.wrap .i64 (c10-x0.next)),())) λc11=>
  .bnd (β:=Bool×Unit) (.ite x3 (.ite (decide (x0.fin<0)) (.ite (decide (c11≤c4)) (.cal qQ.c (a9_1,c11,()) λc12=>
      .ret (c12,()))<|
     .ret (false,()))<|
    .ret (false,()))<|
   .ret (false,())) λ(u13a0,_)=>
  .bnd (β:=WT sR.es) (.ite u13a0 (.ret (x0,({({a9_0 with held:=[]}:Recv)with held:=[]}:Recv),({c1 with fin:=c11}:Recv),a9_1,()))<|
   .ret (x0,({({a9_0 with held:=[]}:Recv)with held:=[]}:Recv),c1,a9_1,())) λ(u14a0,u14a1,u14a2,u14a3,_)=>
  .lp (dV (0,u14a0,({u14a1 with held:=[]}:Recv),u14a2,u14a3,[],())).lp λw15=> .sum w15 (λ(p15a0,p15a1,p15a2)=>
  .grd (Nat.ble (u14a0.data.length+(aA p15a2).length) ao)<|
  .val (bH.f (u14a0.next,p15a0,())) λc16=>
  .cal mW.c (u14a3,p15a0,()) λc17=>
  .bnd (β:=WT mf.es) (.ite (decide (0≤u14a2.fin)) (.ret (u14a0,({p15a1 with held:=[]}:Recv),(⟨c16,(u14a0.data++(aA p15a2)),c17,(IntKind.wrap .i64 (u14a2.fin-p15a0)),u14a2.done⟩:Recv),()))<|
   .ret (u14a0,({p15a1 with held:=[]}:Recv),(⟨c16,(u14a0.data++(aA p15a2)),c17,u14a2.fin,u14a2.done⟩:Recv),())) λ(u18a0,_,u18a2,_)=>
  .ite (u18a2.fin==0) (.val (bH.f (u18a2.next,1,())) λc19=>
   .ite (decide (3<(u18a2.held.length:Int))) (.cal dj.c (u18a0,()) λc20=>
    .ret c20)<|
   .ret (⟨c19,u18a2.data,u18a2.held,(-1),true⟩:Recv))<|
  .ite (decide (3<(u18a2.held.length:Int))) (.cal dj.c (u18a0,()) λc21=>
   .ret c21)<|
  .ret u18a2)<|
  λ(n15,a15_0,a15_1)=>
  .grd (Nat.ble (u14a0.data.length+(aA a15_1).length) ao)<|
  .val (bH.f (u14a0.next,n15,())) λc22=>
  .cal mW.c (u14a3,n15,()) λc23=>
  .bnd (β:=WT mf.es) (.ite (decide (0≤u14a2.fin)) (.ret (u14a0,({({a15_0 with held:=[]}:Recv)with held:=[]}:Recv),(⟨c22,(u14a0.data++(aA a15_1)),c23,(IntKind.wrap .i64 (u14a2.fin-n15)),u14a2.done⟩:Recv),()))<|
   .ret (u14a0,({({a15_0 with held:=[]}:Recv)with held:=[]}:Recv),(⟨c22,(u14a0.data++(aA a15_1)),c23,u14a2.fin,u14a2.done⟩:Recv),())) λ(u24a0,_,u24a2,_)=>
  .ite (u24a2.fin==0) (.val (bH.f (u24a2.next,1,())) λc25=>
   .ite (decide (3<(u24a2.held.length:Int))) (.cal dj.c (u24a0,()) λc26=>
    .ret c26)<|
   .ret (⟨c25,u24a2.data,u24a2.held,(-1),true⟩:Recv))<|
  .ite (decide (3<(u24a2.held.length:Int))) (.cal dj.c (u24a0,()) λc27=>
   .ret c27)<|
  .ret u24a2,
 λ(x0,x1,x2,x3,_) hp=>by
  refine Tr.C ?_ λc1 hc1 qc1=>Tr.B (Q':=λw=>(w.1=false→RO x0)) (Tr.C ?_ λc2 hc2 qc2=>Tr.I (λb0=>Tr.R ?_) λb0=>Tr.R ?_) (λ(u3a0,_) hj3 qj3=>Tr.I (λb0=>Tr.R ?_) λb0=>Tr.C ?_ λc4 hc4 qc4=>Tr.C ?_ λc5 hc5 qc5=>Tr.L (ES ?_ ?_ ?_ ?_ ?_ ?_ ?_) (λ(a9_0,a9_1) i9=>Tr.V λc10 hc10=>Tr.V λc11 hc11=>Tr.B (Q':=λ_=>True) (Tr.I (λb1=>Tr.I (λb2=>Tr.I (λb3=>Tr.C ?_ λc12 hc12 qc12=>Tr.R trivial) λb3=>Tr.R trivial) λb2=>Tr.R trivial) λb1=>Tr.R trivial) (λ(u13a0,_) hj13 qj13=>Tr.B (Q':=λw=>aZ w.1∧aZ w.2.1∧aZ w.2.2.1∧sS w.2.2.2.1∧w.1=x0∧w.2.2.2.1.length=33∧w.1.data.length≤32) (Tr.I (λb1=>Tr.R ?_) λb1=>Tr.R ?_) (λ(u14a0,u14a1,u14a2,u14a3,_) hj14 qj14=>Tr.L (Gu ?_ ?_ ?_ ?_) (λ(a15_0,a15_1) i15=>Tr.Sr (Tr.Gb ?_ λg1=>Tr.V λc22 hc22=>Tr.C ?_ λc23 hc23 qc23=>Tr.B (Q':=λw=>aZ w.1∧aZ w.2.1∧aZ w.2.2.1∧w.1=x0) (Tr.I (λb2=>Tr.R ?_) λb2=>Tr.R ?_) (λ(u24a0,u24a1,u24a2,_) hj24 qj24=>Tr.I (λb2=>Tr.V λc25 hc25=>Tr.I (λb3=>Tr.C ?_ λc26 hc26 qc26=>Tr.R ?_) λb3=>Tr.R ?_) λb2=>Tr.I (λb3=>Tr.C ?_ λc27 hc27 qc27=>Tr.R ?_) λb3=>Tr.R ?_))) (λ(p15a0,p15a1,p15a2) hp15=>Tr.Sl (Tr.Gb ?_ λg1=>Tr.V λc16 hc16=>Tr.C ?_ λc17 hc17 qc17=>Tr.B (Q':=λw=>aZ w.1∧aZ w.2.1∧aZ w.2.2.1∧w.1=x0) (Tr.I (λb2=>Tr.R ?_) λb2=>Tr.R ?_) (λ(u18a0,u18a1,u18a2,_) hj18 qj18=>Tr.I (λb2=>Tr.V λc19 hc19=>Tr.I (λb3=>Tr.C ?_ λc20 hc20 qc20=>Tr.R ?_) λb3=>Tr.R ?_) λb2=>Tr.I (λb3=>Tr.C ?_ λc21 hc21 qc21=>Tr.R ?_) λb3=>Tr.R ?_)))))) (λp=>Empty.elim p))
  all_goals ((try simp only[fm,dV,LC.lp,LC.ct,Ct.lp,Tr.nice,jy]at*)<;>grind)⟩
noncomputable def BM:=ck st vl uu [(jz 0 lr fm),(jz 2 li dV)] (ks:=[.st .recv,.sc (.int .i64),.sc .str,.sc .bool]) od (λv=>[(true,uy (.o true) v)]) Tryz.func483 ⟨ER,DS,trivial⟩
noncomputable def Qq:=[cT,KL,fQ,b8]
noncomputable def PW:Fx:=⟨484,Tryz.f484,[(3000003,rA 0 37)],0⟩
noncomputable def oC:FT (Conn×Unit) (Conn) (λx=>ak x.1) (λx v=>ak v):= .mk λ(x0,_)=>
  .cal cS.c (x0,()) λc1=>
  .cal su.c (x0,()) λc2=>
  .bnd (β:=Bool×Unit) (.as (λw=>(w.1=false→SO ({x0 with state:=c2,timer:=0,tries:=0}:Conn).s∧RO ({x0 with state:=c2,timer:=0,tries:=0}:Conn).r)) (.cal fj.c (({x0 with state:=c2,timer:=0,tries:=0}:Conn),()) λc3=>
   .ite (!c3) (.ret (true,()))<|
   .val (bN.f (x0.timer,0,4,())) λc4=>
   .ite (!c4) (.ret (true,()))<|
   .val (bN.f (x0.tries,0,3,())) λc5=>
   .ret ((!c5),()))) λ(u6a0,_)=>
  .ite u6a0 (.cal cS.c (x0,()) λc7=>
   .ret c7)<|
  .ite (c2==x0.state) (.ret ({c1 with state:=c2}:Conn))<|
  .ite (c2==7) (.ite (c2==8) (.ret ({c1 with state:=c2,timer:=0,tries:=0}:Conn))<|
   .ret ({c1 with state:=c2,timer:=4,tries:=0}:Conn))<|
  .ite (c2==8) (.ret ({c1 with state:=c2,timer:=0,tries:=0}:Conn))<|
  .ret ({c1 with state:=c2}:Conn)
noncomputable def PF:=ck st PW Qq [] (ks:=[.st .conn]) oC (λv=>[(true,kg (.o true) v)]) Tryz.func484 trivial
def sW:Sh:=⟨[zi 0,zi 1,zi 2,zi 3,zi 9],[]⟩
noncomputable def hY (v0 v2 v3:Int)(v4:Int)(a:Unit):Tr (Stp (Unit) ((Unit)⊕(Unit))):=
 .ite (decide (v4<65536)) (.val (bH.f (v0,v4,())) λc1=>
  .val (mj.f (c1,v2,v3,())) λc2=>
  .ite c2 (.ret (.out (.inl ())))<|
  .ret (.next ()))<|
 .ret (.out (.inr (())))
noncomputable def j3:sW.V→tM sW Unit ((Unit)⊕(Unit)):=λ(v0,v1,v2,v3,v4,_)=>⟨v4,(),λv4 _=>(v0,v1,v2,v3,v4,()),λv4 _=>(decide (v4<v1)),hY v0 v2 v3,up,1,(Int.toNat (v1-v4)),.inl,eR,λ_ k w=>Sum.elim (oB .ret ⟨[zb 8],[]⟩ (λ_=>(true,())) (.exit 0) ⟨[zu 8],[]⟩ (λ_=>()) _ k) (λ_=>k (.exit 0) (Sh.enc ⟨[zu 8],[]⟩ ())) w⟩
theorem CX {v0 v1 v2 v3 v4:Int}(h0:0≤v4)(h1:v1≤4611686018427387904):(j3 (v0,v1,v2,v3,v4,())).U v1 (λ_ _=>True) (λ_=>True):=
 LC.okU (i:=v4) (a:=()) (λ_ _=>rfl) (λ_=>rfl) rfl h0 h1 trivial λv4 _ hj hk hv=>Tr.Z (by kernel_rfl)
noncomputable def rM:FT (Int×Int×Int×Int×Unit) (Bool) (λx=>x.2.1≤4611686018427387904) (λ_ _=>True):= .mk (λ(x0,x1,x2,x3,_)=>
  .lp (j3 (x0,x1,x2,x3,0,())).lp λw3=> .sum w3 (λq3=> .sum q3 (λ_=>
  .ret true)<|
  λ_=>
  .ret false)<|
  λ_=>
  .ret false) (pQ @CX)
noncomputable def Jj:=fD st Tryz.func495 [(0,lb [0,1,2,3,9] [8])] [cP,rS] 0 j3 (ks:=[.sc (.int .i64),.sc (.int .i64),.sc (.int .i64),.sc (.int .i64)]) rM rB
noncomputable def jb:FT (Sipr×Unit) (Sipr) (λ_=>True) (λ_ _=>True):= .mk λ(x0,_)=>
  .cal cM.c (x0.b,13,()) λc1=>
  .cal cM.c ((IntKind.wrap .u64 (x0.a+x0.b)),32,()) λc2=>
  .cal cM.c (x0.d,16,()) λc3=>
  .val (IntKind.wrap .u64 (c2+(bits .xor .u64 c3 (IntKind.wrap .u64 (x0.c+x0.d))))) λe4=>
  .cal cM.c ((bits .xor .u64 c3 (IntKind.wrap .u64 (x0.c+x0.d))),21,()) λc5=>
  .val (IntKind.wrap .u64 ((IntKind.wrap .u64 (x0.c+x0.d))+(bits .xor .u64 c1 (IntKind.wrap .u64 (x0.a+x0.b))))) λe6=>
  .cal cM.c ((bits .xor .u64 c1 (IntKind.wrap .u64 (x0.a+x0.b))),17,()) λc7=>
  .cal cM.c (e6,32,()) λc8=>
  .ret (⟨e4,(bits .xor .u64 c7 e6),c8,(bits .xor .u64 c5 e4)⟩:Sipr)
noncomputable def yQ:=bm st Tryz.func500 [zn] (ks:=[.st .sipr]) jb (λv=>[(true,Au v)])
noncomputable def R2:=[b8,BX,AN,mZ]
def Le:An:=⟨⟨[],[],false,0⟩,⟨[1,2,3],[],false,0⟩,⟨[],[]⟩,[(.normal,⟨[zp 1 0,zb 2,zp 3 1],[zg .acti,.box [.st .acti [.nil .macRow]]]⟩),(.normal,⟨[zp 1 0,zb 2,zp 3 1],[zg .acti,zg .acti]⟩)]⟩
noncomputable def Ta:Fx:=⟨18,Tryz.f18,[(1000009,Le),(3000016,rA 0 73)],0⟩
noncomputable def K3:FT (Acti×Unit) (Bool) (λx=>f7 x.1) (λ_ _=>True):= .mk λ(x0,_)=>
  .bnd (β:=(Bool×Acti×Acti×Unit)⊕(Bool×Acti×Acti×Unit)) (.as (Sum.elim (λw=>f7 w.2.1∧f7 w.2.2.1) (λw=>f7 w.2.1∧f7 w.2.2.1)) (.ite (x0.kind==1) (.ret (.inl (false,x0,(⟨x0.kind,⟨0,0,0⟩,0,x0.text,⟨false,0,0,[]⟩⟩:Acti),())))<|
   .ite (x0.kind==3) (.ret (.inr ((false,x0,({x0 with tuple.ip:=0,tuple.port:=0,tuple.my:=0,n:=0,text:=[]}:Acti),()))))<|
   .ite (x0.kind==5) (.ret (.inl (false,x0,({x0 with n:=0,mac.use:=false,mac.k:=0,mac.l:=0,mac.rows:=[]}:Acti),())))<|
   .ite (x0.kind==6) (.ret (.inl (false,x0,({x0 with text:=[],mac.use:=false,mac.k:=0,mac.l:=0,mac.rows:=[]}:Acti),())))<|
   .ite (x0.kind==7) (.ite (x0.kind==7) (.ret (.inl (false,x0,(⟨x0.kind,x0.tuple,0,[],⟨false,0,0,[]⟩⟩:Acti),())))<|
    .ret (.inl (false,x0,(⟨x0.kind,⟨0,0,0⟩,0,[],⟨false,0,0,[]⟩⟩:Acti),())))<|
   .ite (x0.kind==8) (.ret (.inl (false,x0,(⟨x0.kind,x0.tuple,0,[],⟨false,0,0,[]⟩⟩:Acti),())))<|
   .ret (.inl (false,x0,(⟨x0.kind,⟨0,0,0⟩,0,[],⟨false,0,0,[]⟩⟩:Acti),())))) λw1=> .sum w1 (λ(_,u1a1,u1a2,_)=>
  .bnd (β:=Bool×Unit) (.val (bN.f (u1a1.kind,1,8,())) λc2=>
   .ite (!c2) (.ret (true,()))<|
   .ite (!((u1a1.tuple.ip==u1a2.tuple.ip)&&((u1a1.tuple.port==u1a2.tuple.port)&&((u1a1.tuple.my==u1a2.tuple.my)&&true)))) (.ret (true,()))<|
   .ite (u1a1.n != u1a2.n) (.ret (true,()))<|
   .ite (!(u1a1.text==u1a2.text)) (.ret (true,()))<|
   .cal nZ.c (u1a1.mac,({u1a2.mac with rows:=[]}:Mac),()) λc3=>
   .ret ((!c3),())) λ(u4a0,_)=>
  .ite u4a0 (.ret false)<|
  .ite (decide ((u1a1.text.length:Int)≤1600)) (.cal pK.c (u1a1.mac,()) λc5=>
   .ite c5 (.cal jh.c (u1a1.tuple,()) λc6=>
    .ite c6 (.val (bN.f (u1a1.n,0,65535,())) λc7=>
     .ret c7)<|
    .ret false)<|
   .ret false)<|
  .ret false)<|
  λ(_,u1b1,u1b2,_)=>
  .bnd (β:=Bool×Unit) (.val (bN.f (u1b1.kind,1,8,())) λc8=>
   .ite (!c8) (.ret (true,()))<|
   .ite (!((u1b1.tuple.ip==u1b2.tuple.ip)&&((u1b1.tuple.port==u1b2.tuple.port)&&((u1b1.tuple.my==u1b2.tuple.my)&&true)))) (.ret (true,()))<|
   .ite (u1b1.n != u1b2.n) (.ret (true,()))<|
   .ite (!(u1b1.text==u1b2.text)) (.ret (true,()))<|
   .cal nZ.c (u1b1.mac,u1b2.mac,()) λc9=>
   .ret ((!c9),())) λ(u10a0,_)=>
  .ite u10a0 (.ret false)<|
  .ite (decide ((u1b1.text.length:Int)≤1600)) (.cal pK.c (u1b1.mac,()) λc11=>
   .ite c11 (.cal jh.c (u1b1.tuple,()) λc12=>
    .ite c12 (.val (bN.f (u1b1.n,0,65535,())) λc13=>
     .ret c13)<|
    .ret false)<|
   .ret false)<|
  .ret false
noncomputable def Ss:=ck st Ta R2 [] (ks:=[.st .acti]) K3 rB Tryz.func18 trivial
noncomputable def z9:=[rq,cT,eG]
def nH:Sh:=⟨[zp 1 0,zp 2 1,zp 3 2,zi 4],[.box [.st .tabl [.sl .arg,.sl .arg]],.box [.st .tabl [.nil .conn,.nil .tupl]],.box [.st .tabl [.own 3,.nil .tupl]],zf]⟩
def nC:Sh:=⟨[zp 1 0,zp 2 1,zp 3 2,zi 5],[.box [.st .tabl [.sl .arg,.sl .arg]],.box [.st .tabl [.nil .conn,.nil .tupl]],.box [.st .tabl [.own 3,.own 4]],zf,zf]⟩
noncomputable def AD:Fx:=⟨69,Tryz.f69,[(0,la ⟨[1,2,3,4],[.box 3 0 .conn],false,0⟩ ⟨[1,2,3],[],false,0⟩),(2,la ⟨[1,2,3,5],[.box 3 1 .tupl],false,0⟩ ⟨[2,3],[],false,0⟩),(3000005,rA 0 31)],0⟩
noncomputable def KD (v1:Tabl)(v0:Int)(a:Tabl×Tabl):Tr (Stp (Tabl×Tabl) (Empty)):=
 .bnd (β:=Bool×Unit) (.grd (dr v1.conns v0)<|
  .ite ((v1.conns.getD v0.toNat (Ty.zero .conn)).state != 8) (.ret (true,()))<|
  .grd (dr v1.conns v0)<|
  .cal kw.c (v1.waiting,(v1.conns.getD v0.toNat (Ty.zero .conn)).tuple,()) λc4=>
  .ret (c4,())) λ(u5a0,_)=>
 .ite u5a0 (.grd (dr v1.conns v0)<|
  .cal cS.c ((v1.conns.getD v0.toNat (Ty.zero .conn)),()) λc6=>
  .grd (qi a.2.conns 1 208)<|
  .ret (.next ((⟨[],[]⟩:Tabl),(⟨(a.2.conns++[c6]),[]⟩:Tabl))))<|
 .ret (.next ((⟨[],[]⟩:Tabl),(⟨a.2.conns,[]⟩:Tabl)))
noncomputable def jl:nH.V→sD nH (Tabl×Tabl):=λ(v0,v1,v2,v3,_)=>⟨v0,(v2,v3),λv0 a=>(v0,v1,a.1,a.2,()),λv0 _=>(decide (v0<(v1.conns.length:Int))),KD v1,up,1,(Int.toNat ((v1.conns.length:Int)-v0)),Empty.elim,Prod.mk,oN (.exit 0) ⟨[zp 1 0,zp 2 1,zp 3 2],[.box [.st .tabl [.sl .arg,.sl .arg]],.box [.st .tabl [.nil .conn,.nil .tupl]],.box [.st .tabl [.own 3,.nil .tupl]],zf]⟩ (λx=>(v1,(⟨[],[]⟩:Tabl),(⟨x.2.2.conns,[]⟩:Tabl),()))⟩
theorem Ku:LS Tryz.prog AD [0] (jz 0 nH jl):=eB st (aV z9) _ jl [] trivial
theorem K8 {v0:Int}{v1 v2 v3:Tabl}(h0:0≤v0)(h1:(v1.conns.length:Int)≤4611686018427387904)(h2:bg v1)(h3:bg v2∧(v3.conns.length:Int)≤v0∧cY ak v3.conns∧sS v3.waiting):(jl (v0,v1,v2,v3,())).U (v1.conns.length:Int) (λv0 a=>bg a.1∧(a.2.conns.length:Int)≤v0∧cY ak a.2.conns∧sS a.2.waiting) (λ_=>True):=
 kN (a:=(v2,v3)) h0 h1 h3
noncomputable def Jo (v1:Tabl)(v0:Int)(a:Tabl×Tabl):Tr (Stp (Tabl×Tabl) (Empty)):=
 .grd (dr v1.waiting v0)<|
 .cal cO.c (v1,(v1.waiting.getD v0.toNat (Ty.zero .tupl)),()) λc9=>
 .ite (decide (0≤c9)) (.grd (dr v1.waiting v0)<|
  .grd (qi a.2.waiting 1 24)<|
  .ret (.next ((⟨[],[]⟩:Tabl),(⟨a.2.conns,(a.2.waiting++[(v1.waiting.getD v0.toNat (Ty.zero .tupl))])⟩:Tabl))))<|
 .ret (.next ((⟨[],[]⟩:Tabl),a.2))
noncomputable def jf:nC.V→sD nC (Tabl×Tabl):=λ(v0,v1,v2,v3,_)=>⟨v0,(v2,v3),λv0 a=>(v0,v1,a.1,a.2,()),λv0 _=>(decide (v0<(v1.waiting.length:Int))),Jo v1,up,1,(Int.toNat ((v1.waiting.length:Int)-v0)),Empty.elim,Prod.mk,oN (.exit 2) ⟨[zp 2 0,zp 3 1],[.box [.st .tabl [.nil .conn,.nil .tupl]],.box [.st .tabl [.own 2,.own 3]],zf,zf]⟩ (λx=>((⟨[],[]⟩:Tabl),x.2.2,()))⟩
theorem J9:LS Tryz.prog AD [1] (jz 2 nC jf):=eB st (aV z9) _ jf [] trivial
theorem K4 {v0:Int}{v1 v2 v3:Tabl}(h0:0≤v0)(h1:(v1.waiting.length:Int)≤4611686018427387904)(h2:bg v1)(h3:sL ak v3.conns)(h4:bg v2∧v3.conns.length=v3.conns.length∧cY ak v3.conns∧(v3.waiting.length:Int)≤v0):(jf (v0,v1,v2,v3,())).U (v1.waiting.length:Int) (λv0 a=>bg a.1∧a.2.conns.length=v3.conns.length∧cY ak a.2.conns∧(a.2.waiting.length:Int)≤v0) (λ_=>True):=
 kN (a:=(v2,v3)) h0 h1 h4
noncomputable def Du:FT (Tabl×Unit) (Tabl) (λx=>bg x.1) (λx v=>bg v):=⟨λ(x0,_)=>
  .lp (jl (0,x0,(⟨[],[]⟩:Tabl),(⟨[],[]⟩:Tabl),())).lp λ(_,_,a7_1)=>
  .lp (jf (0,x0,(⟨[],[]⟩:Tabl),(⟨(⟨a7_1.conns,[]⟩:Tabl).conns,[]⟩:Tabl),())).lp λ(_,_,a10_1)=>
  .ret a10_1,
 λ(x0,_) hp=>by
  refine Tr.L (K8 ?_ ?_ ?_ ?_) (λ(a7_0,a7_1) _=>Tr.L (K4 ?_ ?_ ?_ ?_ ?_) (λ(a10_0,a10_1) _=>Tr.R ?_) (λp=>Empty.elim p)) (λp=>Empty.elim p)
  all_goals ((try simp only[jl,jf,LC.lp,LC.ct,Ct.lp]at*)<;>grind)⟩
noncomputable def AQ:=ck st AD z9 [(jz 0 nH jl),(jz 2 nC jf)] (ks:=[.st .tabl]) Du (λv=>[(true,qg (.o true) (.o true) v)]) Tryz.func69 ⟨Ku,J9,trivial⟩
noncomputable def qM:FT (Link×Unit) (Bool) (λx=>d8 x.1) (λ_ _=>True):= .mk λ(x0,_)=>
  .cal aD.c (x0.mac,48,()) λc1=>
  .ite c1 (.ite (x0.mac != 281474976710655) (.cal aD.c (x0.ip,32,()) λc2=>
    .ite c2 (.cal qE.c (x0.cache,()) λc3=>
     .ret c3)<|
    .ret false)<|
   .ret false)<|
  .ret false
noncomputable def xk:=bm st Tryz.func82 [bP,Cb] (ks:=[.st .link]) qM rB
noncomputable def d7:FT (Link×Unit) (Bool) (λx=>d8 x.1) (λ_ _=>True):= .mk λ(x0,_)=>
  .cal aa.c (x0.mac,48,()) λc1=>
  .ite c1 (.ite (x0.mac != 281474976710655) (.cal aa.c (x0.ip,32,()) λc2=>
    .ite c2 (.cal gk.c (x0.cache,()) λc3=>
     .ret c3)<|
    .ret false)<|
   .ret false)<|
  .ret false
noncomputable def xd:=bm st Tryz.func84 [bZ,Bn] (ks:=[.st .link]) d7 rB
noncomputable def ja:FT (Conn×Unit) (Conn) (λx=>ak x.1) (λx v=>ak v∧v=x.1):=⟨λ(x0,_)=>
  .cal j9.c (x0.r,()) λc1=>
  .ret ({x0 with r.next:=c1.next,r.data:=c1.data,r.held:=c1.held,r.fin:=c1.fin,r.done:=c1.done}:Conn),
 λ(x0,_) hp=>by
  refine Tr.C ?_ λc1 hc1 qc1=>Tr.R ?_
  all_goals ((first|grind|(refine⟨by grind, ?_⟩;first|(simp only[List.nil_append];done)|(subst_vars;rfl)|simp_all)))⟩
noncomputable def mC:=bm st Tryz.func109 [yc] (ks:=[.st .conn]) ja (λv=>[(true,kg (.o true) v)])
def pD:Sh:=⟨[zp 2 0,zp 3 1,zl 11 .conn,zi 12,zi 13],[.box [.st .tabl [.nil .conn,.nil .tupl]],.box [.st .tabl [.own 2,.own 3]],zf,zf]⟩
noncomputable def pJ (v0:List Conn)(v2:Int)(a:Tabl×Tabl):Tr (Stp (Tabl×Tabl) (Empty)):=
 .grd (dr v0 v2)<|
 .cal ja.c ((v0.getD v2.toNat (Ty.zero .conn)),()) λc3=>
 .grd (qi a.2.conns 1 208)<|
 .ret (.next ((⟨[],[]⟩:Tabl),(⟨(a.2.conns++[c3]),a.2.waiting⟩:Tabl)))
noncomputable def fy:pD.V→sD pD (Tabl×Tabl):=λ(v0,v1,v2,v3,v4,_)=>⟨v2,(v3,v4),λv2 a=>(v0,v1,v2,a.1,a.2,()),λv2 _=>(decide (v2<v1)),pJ v0,up,1,(Int.toNat (v1-v2)),Empty.elim,Prod.mk,oN (.exit 0) ⟨[zp 2 0,zp 3 1],[.box [.st .tabl [.nil .conn,.nil .tupl]],.box [.st .tabl [.own 2,.own 3]],zf,zf]⟩ (λx=>((⟨[],[]⟩:Tabl),x.2.2,()))⟩
theorem zF {v0:List Conn}{v1 v2:Int}{v3 v4:Tabl}(h0:0≤v2)(h1:v1≤4611686018427387904)(h2:sL ak v0)(h3:v1≤4294967296)(h4:sS v4.waiting)(h5:v1≤(v0.length:Int))(h6:bg v3∧(v4.conns.length:Int)=v2∧cY ak v4.conns∧v4.waiting.length=v4.waiting.length):(fy (v0,v1,v2,v3,v4,())).U v1 (λv2 a=>bg a.1∧(a.2.conns.length:Int)=v2∧cY ak a.2.conns∧a.2.waiting.length=v4.waiting.length) (λ_=>True):=
 kN (a:=(v3,v4)) h0 h1 h6
noncomputable def gS:FT (Tabl×Unit) (Tabl) (λx=>bg x.1) (λx v=>bg v∧v.conns.length=x.1.conns.length∧v.waiting.length=x.1.waiting.length):=⟨λ(x0,_)=>
  .cal mN.c (x0.waiting,()) λc1=>
  .lp (fy (x0.conns,(x0.conns.length:Int),0,(⟨[],[]⟩:Tabl),(⟨[],c1⟩:Tabl),())).lp λ(_,_,a4_1)=>
  .ret a4_1,
 λ(x0,_) hp=>by
  refine Tr.C ?_ λ_ _ _=>Tr.L (zF ?_ ?_ ?_ ?_ ?_ ?_ ?_) (λ(a4_0,a4_1) _=>Tr.R ?_) (λp=>Empty.elim p)
  all_goals ((try simp only[fy,LC.lp,LC.ct,Ct.lp]at*)<;>grind)⟩
noncomputable def pf:=fD st Tryz.func142 [(0,la ⟨[2,3,11,12,13],[.box 3 0 .conn],false,0⟩ ⟨[2,3],[],false,0⟩)] [C6,mC] 0 fy (ks:=[.st .tabl]) gS (λv=>[(true,qg (.o true) (.o true) v)])
noncomputable def aC:FT (Segm×Int×Int×Unit) (ac) (λx=>ar x.1) (λx v=>sS v∧v.length≤1500):=⟨λ(x0,x1,x2,_)=>
  .cal aj.c (x0,()) λc1=>
  .ite (!c1) (.ret [])<|
  .cal aI.c (x0.opts,()) λc2=>
  .val (IntKind.wrap .i64 ((IntKind.wrap .i64 (20+(c2.length:Int)))+(x0.body.length:Int))) λe3=>
  .cal bu.c (x1,x2,e3,()) λc4=>
  .ite (c4==[]) (.ret [])<|
  .cal av.c (x0.from_,2,()) λc5=>
  .cal av.c (x0.to,2,()) λc6=>
  .grd (Nat.ble (c5.length+c6.length) ao)<|
  .cal av.c (x0.seq,4,()) λc7=>
  .grd (Nat.ble ((c5++c6).length+c7.length) ao)<|
  .cal av.c (x0.ack,4,()) λc8=>
  .grd (Nat.ble (((c5++c6)++c7).length+c8.length) ao)<|
  .val (IntKind.wrap .i64 ((IntKind.wrap .i64 (20+(c2.length:Int))).tdiv 4)) λe9=>
  .cal av.c ((IntKind.wrap .i64 (e9*16)),1,()) λc10=>
  .grd (Nat.ble ((((c5++c6)++c7)++c8).length+c10.length) ao)<|
  .cal av.c (x0.flags,1,()) λc11=>
  .grd (Nat.ble (((((c5++c6)++c7)++c8)++c10).length+c11.length) ao)<|
  .cal av.c (x0.window,2,()) λc12=>
  .grd (Nat.ble ((((((c5++c6)++c7)++c8)++c10)++c11).length+c12.length) ao)<|
  .grd (Nat.ble (2+c2.length) ao)<|
  .grd (Nat.ble (([0,0]++c2).length+x0.body.length) ao)<|
  .grd (Nat.ble (c4.length+((((((c5++c6)++c7)++c8)++c10)++c11)++c12).length) ao)<|
  .grd (Nat.ble ((c4++((((((c5++c6)++c7)++c8)++c10)++c11)++c12)).length+2) ao)<|
  .val ((c4++((((((c5++c6)++c7)++c8)++c10)++c11)++c12))++[0,0]) λe13=>
  .grd (Nat.ble (e13.length+(([0,0]++c2)++x0.body).length) ao)<|
  .cal gb.c ((e13++(([0,0]++c2)++x0.body)),()) λc14=>
  .cal av.c (c14,2,()) λc15=>
  .grd (Nat.ble (((((((c5++c6)++c7)++c8)++c10)++c11)++c12).length+c15.length) ao)<|
  .grd (Nat.ble ((((((((c5++c6)++c7)++c8)++c10)++c11)++c12)++c15).length+(([0,0]++c2)++x0.body).length) ao)<|
  .val ((((((((c5++c6)++c7)++c8)++c10)++c11)++c12)++c15)++(([0,0]++c2)++x0.body)) λe16=>
  .ret e16,
 λ(x0,x1,x2,_) hp=>by
  refine Tr.C trivial λc1 hc1 qc1=>Tr.I (λb0=>Tr.R ?_) λb0=>Tr.C trivial λc2 hc2 qc2=>Tr.V λe3 he3=>Tr.C trivial λc4 hc4 qc4=>Tr.I (λb1=>Tr.R ?_) λb1=>Tr.C trivial λc5 hc5 qc5=>Tr.C trivial λc6 hc6 qc6=>Tr.Gb ?_ λg2=>Tr.C trivial λc7 hc7 qc7=>Tr.Gb ?_ λg3=>Tr.C trivial λc8 hc8 qc8=>Tr.Gb ?_ λg4=>Tr.V λe9 he9=>Tr.C trivial λc10 hc10 qc10=>Tr.Gb ?_ λg5=>Tr.C trivial λc11 hc11 qc11=>Tr.Gb ?_ λg6=>Tr.C trivial λc12 hc12 qc12=>Tr.Gb ?_ λg7=>Tr.Gb ?_ λg8=>Tr.Gb ?_ λg9=>Tr.Gb ?_ λg10=>Tr.Gb ?_ λg11=>Tr.V λe13 he13=>Tr.Gb ?_ λg12=>Tr.C ?_ λc14 hc14 qc14=>Tr.C trivial λc15 hc15 qc15=>Tr.Gb ?_ λg13=>Tr.Gb ?_ λg14=>Tr.V λe16 he16=>Tr.R ?_
  all_goals ((first|(simp only[List.length_append,List.length_cons,List.length_nil,ao,sS]at*;omega)|grind))⟩
noncomputable def Tq:=bm st Tryz.func154 [qm,Da,uT,iL,Bb] (ks:=[.st .segm,.sc (.int .i64),.sc (.int .i64)]) aC (λv=>[(false,[.c (.str v)])])
noncomputable def N2:=[Mn,Fo,xd,ww]
noncomputable def Om:Fx:=⟨155,Tryz.f155,[(3000003,rA 0 35)],0⟩
noncomputable def bU:FT (Link×Int×ac×Unit) (ac×Bool) (λx=>d8 x.1∧sS x.2.2.1) (λx v=>sS v.1):= .mk λ(x0,x1,x2,_)=>
  .cal xc.c (x0.cache,x1,()) λc1=>
  .cal eI.c ((⟨x0.ip,x1,64,6,0,x2⟩:Pack),()) λc2=>
  .bnd (β:=Bool×Unit) (.cal d7.c (x0,()) λc3=>
   .ite (!c3) (.ret (true,()))<|
   .ite (!c1.2) (.ret (true,()))<|
   .ret ((c2==[]),())) λ(u4a0,_)=>
  .ite u4a0 (.ret ([],false))<|
  .cal cm.c ((⟨c1.1,x0.mac,2048,c2⟩:Fram),()) λc5=>
  .ret (c5,(!(c5==[])))
noncomputable def Wy:=ck st Om N2 [] (ks:=[.st .link,.sc (.int .i64),.sc .str]) bU (λv=>[(false,[.c (.str v.1)]),(false,[.c (.bool v.2)])]) Tryz.func155 trivial
def um:Sh:=⟨[zp 1 0,zp 2 1,zp 3 2,zi 4],[.box [.st .tabl [.sl .arg,.sl .arg]],.box [.st .tabl [.nil .conn,.nil .tupl]],.box [.st .tabl [.own 3,.own 4]],zf,zf]⟩
noncomputable def uk (v1:Tabl)(v0:Int)(a:Tabl×Tabl):Tr (Stp (Tabl×Tabl) (Empty)):=
 .grd (dr v1.conns v0)<|
 .cal cS.c ((v1.conns.getD v0.toNat (Ty.zero .conn)),()) λc2=>
 .grd (qi a.2.conns 1 208)<|
 .ret (.next ((⟨[],[]⟩:Tabl),(⟨(a.2.conns++[c2]),a.2.waiting⟩:Tabl)))
noncomputable def i4:um.V→sD um (Tabl×Tabl):=λ(v0,v1,v2,v3,_)=>⟨v0,(v2,v3),λv0 a=>(v0,v1,a.1,a.2,()),λv0 _=>(decide (v0<(v1.conns.length:Int))),uk v1,up,1,(Int.toNat ((v1.conns.length:Int)-v0)),Empty.elim,Prod.mk,oN (.exit 0) ⟨[zp 2 0,zp 3 1],[.box [.st .tabl [.nil .conn,.nil .tupl]],.box [.st .tabl [.own 2,.own 3]],zf,zf]⟩ (λx=>((⟨[],[]⟩:Tabl),x.2.2,()))⟩
theorem DD {v0:Int}{v1 v2 v3:Tabl}(h0:0≤v0)(h1:(v1.conns.length:Int)≤4611686018427387904)(h2:bg v1)(h3:sS v3.waiting)(h4:bg v2∧(v3.conns.length:Int)=v0∧cY ak v3.conns∧v3.waiting.length=v3.waiting.length):(i4 (v0,v1,v2,v3,())).U (v1.conns.length:Int) (λv0 a=>bg a.1∧(a.2.conns.length:Int)=v0∧cY ak a.2.conns∧a.2.waiting.length=v3.waiting.length) (λ_=>True):=
 kN (a:=(v2,v3)) h0 h1 h4
noncomputable def kE:FT (Tabl×Unit) (Tabl) (λx=>bg x.1) (λx v=>bg v∧v.conns.length=x.1.conns.length∧v.waiting.length=x.1.waiting.length):=⟨λ(x0,_)=>
  .grd (Nat.ble ((2*(0+x0.waiting.length)+1024)*24) bj)<|
  .lp (i4 (0,x0,(⟨[],[]⟩:Tabl),(⟨[],([]++x0.waiting)⟩:Tabl),())).lp λ(_,_,a3_1)=>
  .ret a3_1,
 λ(x0,_) hp=>by
  refine Tr.Gb ?_ λ_=>Tr.L (DD ?_ ?_ ?_ ?_ ?_) (λ(a3_0,a3_1) _=>Tr.R ?_) (λp=>Empty.elim p)
  all_goals ((try simp only[i4,LC.lp,LC.ct,Ct.lp]at*)<;>grind)⟩
noncomputable def pO:=fD st Tryz.func166 [(0,la ⟨[1,2,3,4],[.box 3 0 .conn],false,0⟩ ⟨[2,3],[],false,0⟩)] [cT] 0 i4 (ks:=[.st .tabl]) kE (λv=>[(true,qg (.o true) (.o true) v)])
noncomputable def ug:=[JD,fQ,eG,rq]
def lK:Sh:=⟨[zp 2 0,zi 5],[.box [.st .tabl [.sl .arg,.sl .arg]]]⟩
def lA:Sh:=⟨[zp 2 0,zi 6],[.box [.st .tabl [.sl .arg,.sl .arg]]]⟩
noncomputable def uB:Fx:=⟨182,Tryz.f182,[(0,lb [2,5] [2,4]),(2,lb [2,6] [4]),(3000001,rA 0 25)],0⟩
noncomputable def px (v1:Tabl)(v0:Int)(a:Unit):Tr (Stp (Unit) ((Unit))):=
 .grd (dr v1.conns v0)<|
 .cal fj.c ((v1.conns.getD v0.toNat (Ty.zero .conn)),()) λc3=>
 .ite (!c3) (.ret (.out ()))<|
 .grd (dr v1.conns v0)<|
 .cal cO.c (v1,(v1.conns.getD v0.toNat (Ty.zero .conn)).tuple,()) λc4=>
 .ite (c4 != v0) (.ret (.out ()))<|
 .ret (.next ())
noncomputable def gq:lK.V→tM lK Unit (Unit):=λ(v0,v1,_)=>⟨v0,(),λv0 _=>(v0,v1,()),λv0 _=>(decide (v0<(v1.conns.length:Int))),px v1,up,1,(Int.toNat ((v1.conns.length:Int)-v0)),.inl,eR,oB .ret ⟨[zp 2 0,zb 4],[.box [.st .tabl [.sl .arg,.sl .arg]]]⟩ (λ_=>(false,v1,())) (.exit 0) ⟨[zp 2 0,zu 4],[.box [.st .tabl [.sl .arg,.sl .arg]]]⟩ (λ_=>(v1,()))⟩
theorem Fh:LS Tryz.prog uB [0] (jz 0 lK gq):=eB st (aV ug) _ gq [] trivial
theorem Gm {v0:Int}{v1:Tabl}(h0:0≤v0)(h1:(v1.conns.length:Int)≤4611686018427387904)(h2:bg v1):(gq (v0,v1,())).U (v1.conns.length:Int) (λ_ _=>True) (λ_=>True):=
 kN h0 h1 trivial
noncomputable def om (v1:Tabl)(v0:Int)(a:Unit):Tr (Stp (Unit) ((Unit))):=
 .grd ((decide (0≤v0))&&(decide (v0≤(v1.waiting.length:Int))))<|
 .grd (dr v1.waiting v0)<|
 .cal kw.c (((v1.waiting.take v0.toNat).drop 0),(v1.waiting.getD v0.toNat (Ty.zero .tupl)),()) λc6=>
 .ite c6 (.ret (.out ()))<|
 .grd (dr v1.waiting v0)<|
 .cal cO.c (v1,(v1.waiting.getD v0.toNat (Ty.zero .tupl)),()) λc7=>
 .ite (decide (c7<0)) (.ret (.out ()))<|
 .ret (.next ())
noncomputable def gm:lA.V→tM lA Unit (Unit):=λ(v0,v1,_)=>⟨v0,(),λv0 _=>(v0,v1,()),λv0 _=>(decide (v0<(v1.waiting.length:Int))),om v1,up,1,(Int.toNat ((v1.waiting.length:Int)-v0)),.inl,eR,oB .ret ⟨[zb 4],[]⟩ (λ_=>(false,())) (.exit 2) ⟨[zu 4],[]⟩ (λ_=>())⟩
theorem Ey:LS Tryz.prog uB [1] (jz 2 lA gm):=eB st (aV ug) _ gm [] trivial
theorem pd {v0:Int}{v1:Tabl}(h0:0≤v0)(h1:(v1.waiting.length:Int)≤4611686018427387904)(h2:bg v1):(gm (v0,v1,())).U (v1.waiting.length:Int) (λ_ _=>True) (λ_=>True):=
 kN h0 h1 trivial
noncomputable def qw:FT (Tabl×Limi×Unit) (Bool) (λx=>wS x.1.conns∧cY ak x.1.conns∧wS x.1.waiting) (λx v=>(v=true→x.1.conns.length≤16∧x.1.waiting.length≤16)):= .mk (λ(x0,x1,_)=>
  .bnd (β:=Bool×Unit) (.as (λw=>(w.1=false→x1.halves≤64∧x1.waiting≤16∧x1.conns≤16)) (.cal sC.c (x1,()) λc1=>
   .ite (!c1) (.ret (true,()))<|
   .ite (decide (x1.conns<(x0.conns.length:Int))) (.ret (true,()))<|
   .ret ((decide (x1.waiting<(x0.waiting.length:Int))),()))) λ(u2a0,_)=>
  .ite u2a0 (.ret false)<|
  .lp (gq (0,x0,())).lp λw5=> .sum w5 (λ_=>
  .ret false)<|
  λ_=>
  .lp (gm (0,x0,())).lp λw8=> .sum w8 (λ_=>
  .ret false)<|
  λ_=>
  .ret true) (YL @Gm @pd @pd @pd)
noncomputable def BE:=ck st uB ug [(jz 0 lK gq),(jz 2 lA gm)] (ks:=[.st .tabl,.st .limi]) qw rB Tryz.func182 ⟨Fh,Ey,trivial⟩
noncomputable def iZ:FT (ac×Unit) (Fram×Bool) (λx=>sS x.1) (λx v=>mt v.1):= .mk λ(x0,_)=>
  .ite (decide ((x0.length:Int)<14)) (.ret ((⟨0,0,0,[]⟩:Fram),false))<|
  .cal dG.c (x0,0,6,()) λc1=>
  .cal dG.c (x0,6,6,()) λc2=>
  .cal dG.c (x0,12,2,()) λc3=>
  .grd ((decide (14≤(x0.length:Int)))&&(decide ((x0.length:Int)≤(x0.length:Int))))<|
  .cal dH.c ((⟨c1,c2,c3,((x0.take ((x0.length:Int).toNat)).drop 14)⟩:Fram),()) λc4=>
  .ite (!c4) (.ret ((⟨0,0,0,[]⟩:Fram),false))<|
  .ret ((⟨c1,c2,c3,((x0.take ((x0.length:Int).toNat)).drop 14)⟩:Fram),true)
noncomputable def wG:=bm st Tryz.func197 [vm,B2] (ks:=[.sc .str]) iZ (λv=>[(true,QL v.1),(false,[.c (.bool v.2)])])
noncomputable def pC:FT (Keys×Unit) (Keys) (λx=>cE x.1) (λx v=>cE v∧v=x.1):=⟨λ(x0,_)=>
  .cal kf.c (x0.now,()) λc1=>
  .cal kf.c (x0.before,()) λc2=>
  .ret (⟨x0.epoch,c1,c2,x0.two⟩:Keys),
 λ(x0,_) hp=>by
  refine Tr.C ?_ λc1 hc1 qc1=>Tr.C ?_ λc2 hc2 qc2=>Tr.R ?_
  all_goals ((first|grind|(refine⟨by grind, ?_⟩;first|(simp only[List.nil_append];done)|(subst_vars;rfl)|simp_all)))⟩
noncomputable def HE:=bm st Tryz.func209 [yO] (ks:=[.st .keys]) pC (λv=>[(true,Ao (.o true) (.o true) v)])
noncomputable def hU:FT (Segm×Unit) (List Segm) (λx=>ar x.1) (λx v=>sL ar v):= .mk λ(x0,_)=>
  .cal gM.c (x0,()) λc1=>
  .ite c1.2 (.ret [c1.1])<|
  .ret []
noncomputable def Xs:=bm st Tryz.func212 [KI] (ks:=[.st .segm]) hU (λv=>[(false,[sc (.o true) .segm v])])
noncomputable def kI:FT (ac×Unit) (Fram×Bool) (λx=>sS x.1) (λx v=>mt v.1):= .mk λ(x0,_)=>
  .ite (decide ((x0.length:Int)<14)) (.ret ((⟨0,0,0,[]⟩:Fram),false))<|
  .grd ((decide (14≤(x0.length:Int)))&&(decide ((x0.length:Int)≤(x0.length:Int))))<|
  .cal bD.c (x0,0,6,()) λc1=>
  .cal bD.c (x0,6,6,()) λc2=>
  .cal bD.c (x0,12,2,()) λc3=>
  .cal eK.c ((⟨c1.1,c2.1,c3.1,((x0.take ((x0.length:Int).toNat)).drop 14)⟩:Fram),()) λc4=>
  .ite (!(c4==x0)) (.ret ((⟨0,0,0,[]⟩:Fram),false))<|
  .ret ((⟨c1.1,c2.1,c3.1,((x0.take ((x0.length:Int).toNat)).drop 14)⟩:Fram),true)
noncomputable def wJ:=bm st Tryz.func224 [mR,jC] (ks:=[.sc .str]) kI (λv=>[(true,QL v.1),(false,[.c (.bool v.2)])])
noncomputable def Mf:=[vm,AI]
noncomputable def L7:Fx:=⟨257,Tryz.f257,[(3000001,rA 0 12)],0⟩
noncomputable def kH:FT (ac×Unit) (Arpm×Bool) (λx=>sS x.1) (λ_ _=>True):= .mk λ(x0,_)=>
  .bnd (β:=Bool×Unit) (.ite (decide ((x0.length:Int)<28)) (.ret (true,()))<|
   .grd (decide (6≤(x0.length:Int)))<|
   .ret ((!(((x0.take 6).drop 0)==[0,1,8,0,6,4])),())) λ(u1a0,_)=>
  .ite u1a0 (.ret ((⟨0,0,0,0,0⟩:Arpm),false))<|
  .cal dG.c (x0,6,2,()) λc2=>
  .cal dG.c (x0,8,6,()) λc3=>
  .cal dG.c (x0,14,4,()) λc4=>
  .cal dG.c (x0,18,6,()) λc5=>
  .cal dG.c (x0,24,4,()) λc6=>
  .cal j2.c ((⟨c2,c3,c4,c5,c6⟩:Arpm),()) λc7=>
  .ite (!c7) (.ret ((⟨0,0,0,0,0⟩:Arpm),false))<|
  .ret ((⟨c2,c3,c4,c5,c6⟩:Arpm),true)
noncomputable def N4:=ck st L7 Mf [] (ks:=[.sc .str]) kH (λv=>[(true,ED v.1),(false,[.c (.bool v.2)])]) Tryz.func257 trivial
noncomputable def em:FT (ac×Unit) (Bool) (λx=>sS x.1) (λ_ _=>True):= .mk λ(x0,_)=>
  .cal gb.c (x0,()) λc1=>
  .ret (c1==0)
noncomputable def yM:=bm st Tryz.func263 [Bb] (ks:=[.sc .str]) em rB
def oU:Sh:=⟨[zs 0,zp 2 0,zp 4 1,zi 5],[zx .opti,zx .opti]⟩
noncomputable def cp (v0:ac)(a:Int×Opti):Tr (Stp (Int×Opti) ((Opti)⊕(Opti×Opti))):=
 .ite (decide (a.1<(v0.length:Int))) (.grd (dr v0 a.1)<|
  .ite ((af v0 a.1.toNat)==0) (.ret (.out (.inl a.2)))<|
  .ite ((af v0 a.1.toNat)==1) (.ret (.next ((IntKind.wrap .i64 (a.1+1)),a.2)))<|
  .ite (decide ((v0.length:Int)≤(IntKind.wrap .i64 (a.1+1)))) (.val (bM.f (())) λc2=>
   .ret (.out (.inr ((c2,a.2)))))<|
  .grd (dr v0 (IntKind.wrap .i64 (a.1+1)))<|
  .bnd (β:=Bool×Unit) (.ite (decide ((IntKind.wrap .i64 (af v0 ((IntKind.wrap .i64 (a.1+1)).toNat)))<2)) (.ret (true,()))<|
   .ret ((decide ((IntKind.wrap .i64 ((v0.length:Int)-a.1))<(IntKind.wrap .i64 (af v0 ((IntKind.wrap .i64 (a.1+1)).toNat))))),())) λ(u3a0,_)=>
  .ite u3a0 (.val (bM.f (())) λc4=>
   .ret (.out (.inr ((c4,a.2)))))<|
  .bnd (β:=Bool×Unit) (.ite ((af v0 a.1.toNat)==2) (.ret (((IntKind.wrap .i64 (af v0 ((IntKind.wrap .i64 (a.1+1)).toNat)))==4),()))<|
   .ret (false,())) λ(u5a0,_)=>
  .ite u5a0 (.cal dG.c (v0,(IntKind.wrap .i64 (a.1+2)),2,()) λc6=>
   .val (IntKind.wrap .i64 (a.1+(IntKind.wrap .i64 (af v0 ((IntKind.wrap .i64 (a.1+1)).toNat))))) λe7=>
   .ret (.next (e7,({a.2 with mss:=c6}:Opti))))<|
  .bnd (β:=Bool×Unit) (.ite ((af v0 a.1.toNat)==3) (.ret (((IntKind.wrap .i64 (af v0 ((IntKind.wrap .i64 (a.1+1)).toNat)))==3),()))<|
   .ret (false,())) λ(u8a0,_)=>
  .ite u8a0 (.grd (dr v0 (IntKind.wrap .i64 (a.1+2)))<|
   .val (β:=Int) (if 14<(IntKind.wrap .i64 (af v0 ((IntKind.wrap .i64 (a.1+2)).toNat)))then 14 else(IntKind.wrap .i64 (af v0 ((IntKind.wrap .i64 (a.1+2)).toNat)))) λe9=>
   .val (IntKind.wrap .i64 (a.1+(IntKind.wrap .i64 (af v0 ((IntKind.wrap .i64 (a.1+1)).toNat))))) λe10=>
   .ret (.next (e10,({a.2 with scale:=e9}:Opti))))<|
  .bnd (β:=Bool×Unit) (.ite ((af v0 a.1.toNat)==4) (.ret (((IntKind.wrap .i64 (af v0 ((IntKind.wrap .i64 (a.1+1)).toNat)))==2),()))<|
   .ret (false,())) λ(u11a0,_)=>
  .ite u11a0 (.val (IntKind.wrap .i64 (a.1+(IntKind.wrap .i64 (af v0 ((IntKind.wrap .i64 (a.1+1)).toNat))))) λe12=>
   .ret (.next (e12,({a.2 with sack:=true}:Opti))))<|
  .bnd (β:=Bool×Unit) (.ite ((af v0 a.1.toNat)==8) (.ret (((IntKind.wrap .i64 (af v0 ((IntKind.wrap .i64 (a.1+1)).toNat)))==10),()))<|
   .ret (false,())) λ(u13a0,_)=>
  .ite u13a0 (.cal dG.c (v0,(IntKind.wrap .i64 (a.1+2)),4,()) λc14=>
   .cal dG.c (v0,(IntKind.wrap .i64 (a.1+6)),4,()) λc15=>
   .val (IntKind.wrap .i64 (a.1+(IntKind.wrap .i64 (af v0 ((IntKind.wrap .i64 (a.1+1)).toNat))))) λe16=>
   .ret (.next (e16,({a.2 with stamp:=true,val:=c14,echo:=c15}:Opti))))<|
  .val (IntKind.wrap .i64 (a.1+(IntKind.wrap .i64 (af v0 ((IntKind.wrap .i64 (a.1+1)).toNat))))) λe17=>
  .ret (.next (e17,a.2)))<|
 .ret (.out (.inl a.2))
instance i_ReadOptions_L0_i:Inhabited ((Opti)⊕(Opti×Opti)):=⟨.inl default⟩
noncomputable def gI:oU.V→LW oU (Int×Opti) ((Opti)⊕(Opti×Opti)):=λ(v0,v1,v2,v3,_)=>⟨(v1,v3),λa=>(v0,a.1,v2,a.2,()),cp v0,Int.toNat ((v0.length:Int)-v1),oB (.exit 0) ⟨[zp 2 0,zu 3,zp 4 1],[zx .opti,zx .opti]⟩ (λp=>(v2,p,())) .ret ⟨[zp 2 0,zb 3,zp 4 1],[zx .opti,zx .opti]⟩ (λp=>(false,p.1,p.2,()))⟩
theorem xN {v0:ac}{v1:Int}{v2 v3:Opti}(h0:sS v0)(h1:0≤v1):(gI (v0,v1,v2,v3,())).W (λ_=>True):=
 Xz (a:=(v1,v3)) (λa=>0≤a.1) (λa=>Int.toNat ((v0.length:Int)-a.1)) h1
noncomputable def io:FT (ac×Unit) (Opti×Bool) (λx=>sS x.1) (λ_ _=>True):= .mk (λ(x0,_)=>
  .val (bM.f (())) λc1=>
  .lp (gI (x0,0,(⟨0,0,false,false,0,0⟩:Opti),c1,())).lp λq18=> .sum q18 (λp18a0=>
  .ret (p18a0,true))<|
  λ(p18b0,_)=>
  .ret (p18b0,false)) (pQ @xN)
noncomputable def Db:=Jz st Tryz.func264 [(0,lb [0,2,4,5] [2,3,4]),(3000011,rA 0 42),(3000013,rA 0 44),(3000015,rA 0 56),(3000017,rA 0 70),(3000019,rA 0 78)] [jB,vm] 0 gI (ks:=[.sc .str]) io (λv=>[(true,ml v.1),(false,[.c (.bool v.2)])])
noncomputable def cL:FT (Conn×Unit) (Segm) (λx=>ak x.1) (λx v=>ar v):= .mk λ(x0,_)=>
  .cal i6.c (x0.s,()) λc1=>
  .cal cD.c (x0.r,()) λc2=>
  .val (bM.f (())) λc3=>
  .ret (⟨x0.tuple.my,x0.tuple.port,c1,x0.r.next,16,c2,c3,[]⟩:Segm)
noncomputable def Sj:=bm st Tryz.func276 [Ea,zw,jB] (ks:=[.st .conn]) cL (λv=>[(true,mq v)])
noncomputable def py:FT (ac×Unit) (Bool) (λx=>sS x.1) (λ_ _=>True):= .mk λ(x0,_)=>
  .cal qe.c (x0,()) λc1=>
  .ret (c1==0)
noncomputable def y2:=bm st Tryz.func286 [vL] (ks:=[.sc .str]) py rB
noncomputable def jD:FT (Segm×Int×Int×Unit) (ac) (λx=>ar x.1) (λx v=>sS v∧v.length≤1500):=⟨λ(x0,x1,x2,_)=>
  .cal gD.c (x0,()) λc1=>
  .ite (!c1) (.ret [])<|
  .cal mz.c (x0.opts,()) λc2=>
  .val (IntKind.wrap .i64 ((IntKind.wrap .i64 (20+(c2.length:Int)))+(x0.body.length:Int))) λe3=>
  .cal lx.c (x1,x2,e3,()) λc4=>
  .ite (c4==[]) (.ret [])<|
  .cal aM.c (x0.from_,2,()) λc5=>
  .cal aM.c (x0.to,2,()) λc6=>
  .grd (Nat.ble (c5.length+c6.length) ao)<|
  .cal aM.c (x0.seq,4,()) λc7=>
  .grd (Nat.ble ((c5++c6).length+c7.length) ao)<|
  .cal aM.c (x0.ack,4,()) λc8=>
  .grd (Nat.ble (((c5++c6)++c7).length+c8.length) ao)<|
  .val (IntKind.wrap .i64 ((IntKind.wrap .i64 (20+(c2.length:Int))).tdiv 4)) λe9=>
  .cal aM.c ((IntKind.wrap .i64 (e9*16)),1,()) λc10=>
  .grd (Nat.ble ((((c5++c6)++c7)++c8).length+c10.length) ao)<|
  .cal aM.c (x0.flags,1,()) λc11=>
  .grd (Nat.ble (((((c5++c6)++c7)++c8)++c10).length+c11.length) ao)<|
  .cal aM.c (x0.window,2,()) λc12=>
  .grd (Nat.ble ((((((c5++c6)++c7)++c8)++c10)++c11).length+c12.length) ao)<|
  .grd (Nat.ble (2+c2.length) ao)<|
  .grd (Nat.ble (([0,0]++c2).length+x0.body.length) ao)<|
  .grd (Nat.ble (c4.length+((((((c5++c6)++c7)++c8)++c10)++c11)++c12).length) ao)<|
  .grd (Nat.ble ((c4++((((((c5++c6)++c7)++c8)++c10)++c11)++c12)).length+2) ao)<|
  .val ((c4++((((((c5++c6)++c7)++c8)++c10)++c11)++c12))++[0,0]) λe13=>
  .grd (Nat.ble (e13.length+(([0,0]++c2)++x0.body).length) ao)<|
  .cal qe.c ((e13++(([0,0]++c2)++x0.body)),()) λc14=>
  .cal aM.c (c14,2,()) λc15=>
  .grd (Nat.ble (((((((c5++c6)++c7)++c8)++c10)++c11)++c12).length+c15.length) ao)<|
  .grd (Nat.ble ((((((((c5++c6)++c7)++c8)++c10)++c11)++c12)++c15).length+(([0,0]++c2)++x0.body).length) ao)<|
  .val ((((((((c5++c6)++c7)++c8)++c10)++c11)++c12)++c15)++(([0,0]++c2)++x0.body)) λe16=>
  .ret e16,
 λ(x0,x1,x2,_) hp=>by
  refine Tr.C trivial λc1 hc1 qc1=>Tr.I (λb0=>Tr.R ?_) λb0=>Tr.C trivial λc2 hc2 qc2=>Tr.V λe3 he3=>Tr.C trivial λc4 hc4 qc4=>Tr.I (λb1=>Tr.R ?_) λb1=>Tr.C trivial λc5 hc5 qc5=>Tr.C trivial λc6 hc6 qc6=>Tr.Gb ?_ λg2=>Tr.C trivial λc7 hc7 qc7=>Tr.Gb ?_ λg3=>Tr.C trivial λc8 hc8 qc8=>Tr.Gb ?_ λg4=>Tr.V λe9 he9=>Tr.C trivial λc10 hc10 qc10=>Tr.Gb ?_ λg5=>Tr.C trivial λc11 hc11 qc11=>Tr.Gb ?_ λg6=>Tr.C trivial λc12 hc12 qc12=>Tr.Gb ?_ λg7=>Tr.Gb ?_ λg8=>Tr.Gb ?_ λg9=>Tr.Gb ?_ λg10=>Tr.Gb ?_ λg11=>Tr.V λe13 he13=>Tr.Gb ?_ λg12=>Tr.C ?_ λc14 hc14 qc14=>Tr.C trivial λc15 hc15 qc15=>Tr.Gb ?_ λg13=>Tr.Gb ?_ λg14=>Tr.V λe16 he16=>Tr.R ?_
  all_goals ((first|(simp only[List.length_append,List.length_cons,List.length_nil,ao,sS]at*;omega)|grind))⟩
noncomputable def th:=bm st Tryz.func296 [jM,CH,uv,iT,vL] (ks:=[.st .segm,.sc (.int .i64),.sc (.int .i64)]) jD (λv=>[(false,[.c (.str v)])])
noncomputable def Ry:FT (Conn×Unit) (Bool) (λx=>ak x.1) (λ_ _=>True):= .mk λ(x0,_)=>
  .cal fj.c (x0,()) λc1=>
  .ite c1 (.ite (x0.state==7) (.ret true)<|
   .ite (x0.state != 8) (.val (Mt.f (x0,())) λc2=>
    .ret c2)<|
   .ret false)<|
  .ret false
noncomputable def Sp:=bm st Tryz.func297 [fQ,QS] (ks:=[.st .conn]) Ry rB
noncomputable def eH:FT (Conn×Unit) (Segm) (λx=>ak x.1) (λx v=>ar v):= .mk λ(x0,_)=>
  .cal u7.c (x0.s,()) λc1=>
  .cal fR.c (x0.r,()) λc2=>
  .val (bI.f (())) λc3=>
  .ret (⟨x0.tuple.my,x0.tuple.port,c1,x0.r.next,16,c2,c3,[]⟩:Segm)
noncomputable def rl:=bm st Tryz.func299 [FB,jd,dJ] (ks:=[.st .conn]) eH (λv=>[(true,mq v)])
noncomputable def L8:=[cT,fQ,PM,wU,rl,Bo]
def pH:Sh:=⟨[zi 1,zp 2 0,zp 4 1,zo 6 2],[zk .conn 3,.box [.st .conn [.nil .piec]],za .segm,zf]⟩
noncomputable def Mg:Fx:=⟨301,Tryz.f301,[(0,lb [1,2,4,6] [4,5]),(3000003,rA 0 25)],0⟩
noncomputable def iQ (v0:Int)(a:Conn×Conn×List Segm):Tr (Stp (Conn×Conn×List Segm) ((Conn×List Segm))):=
 .val (qy.f (a.1,())) λc4=>
 .cal iU.c (a.1.s,v0,c4,()) λc5=>
 .ite (!c5.2) (.ret (.out (a.1,a.2.2)))<|
 .cal eH.c (a.1,()) λc6=>
 .ite (!(c5.1.text==[])) (.ite c5.1.fin (.grd (qi a.2.2 1 104)<|
   .val (a.2.2++[({c6 with seq:=c5.1.seq,flags:=(bits .or .i64 (bits .or .i64 c6.flags 8) 1),body:=c5.1.text}:Segm)]) λl7=>
   .cal kJ.c (a.1.s,c5.1,()) λc8=>
   .ite (a.1.timer==0) (.ret (.next ((⟨a.1.tuple,a.1.state,c8,a.1.r,a.1.window,a.1.most,a.1.opts,3,a.1.tries⟩:Conn),({a.2.1 with r.held:=[]}:Conn),l7)))<|
   .ret (.next (({a.1 with s.una:=c8.una,s.data:=c8.data,s.sent:=c8.sent,s.fin:=c8.fin,s.finSent:=c8.finSent,s.done:=c8.done}:Conn),({a.2.1 with r.held:=[]}:Conn),l7)))<|
  .grd (qi a.2.2 1 104)<|
  .val (a.2.2++[({c6 with seq:=c5.1.seq,flags:=(bits .or .i64 c6.flags 8),body:=c5.1.text}:Segm)]) λl9=>
  .cal kJ.c (a.1.s,c5.1,()) λc10=>
  .ite (a.1.timer==0) (.ret (.next ((⟨a.1.tuple,a.1.state,c10,a.1.r,a.1.window,a.1.most,a.1.opts,3,a.1.tries⟩:Conn),({a.2.1 with r.held:=[]}:Conn),l9)))<|
  .ret (.next (({a.1 with s.una:=c10.una,s.data:=c10.data,s.sent:=c10.sent,s.fin:=c10.fin,s.finSent:=c10.finSent,s.done:=c10.done}:Conn),({a.2.1 with r.held:=[]}:Conn),l9)))<|
 .ite c5.1.fin (.grd (qi a.2.2 1 104)<|
  .val (a.2.2++[({c6 with seq:=c5.1.seq,flags:=(bits .or .i64 c6.flags 1),body:=c5.1.text}:Segm)]) λl11=>
  .cal kJ.c (a.1.s,c5.1,()) λc12=>
  .ite (a.1.timer==0) (.ret (.next ((⟨a.1.tuple,a.1.state,c12,a.1.r,a.1.window,a.1.most,a.1.opts,3,a.1.tries⟩:Conn),({a.2.1 with r.held:=[]}:Conn),l11)))<|
  .ret (.next (({a.1 with s.una:=c12.una,s.data:=c12.data,s.sent:=c12.sent,s.fin:=c12.fin,s.finSent:=c12.finSent,s.done:=c12.done}:Conn),({a.2.1 with r.held:=[]}:Conn),l11)))<|
 .grd (qi a.2.2 1 104)<|
 .cal kJ.c (a.1.s,c5.1,()) λc13=>
 .ite (a.1.timer==0) (.ret (.next ((⟨a.1.tuple,a.1.state,c13,a.1.r,a.1.window,a.1.most,a.1.opts,3,a.1.tries⟩:Conn),({a.2.1 with r.held:=[]}:Conn),(a.2.2++[({c6 with seq:=c5.1.seq,body:=c5.1.text}:Segm)]))))<|
 .ret (.next (({a.1 with s.una:=c13.una,s.data:=c13.data,s.sent:=c13.sent,s.fin:=c13.fin,s.finSent:=c13.finSent,s.done:=c13.done}:Conn),({a.2.1 with r.held:=[]}:Conn),(a.2.2++[({c6 with seq:=c5.1.seq,body:=c5.1.text}:Segm)])))
noncomputable def iK:pH.V→LW pH (Conn×Conn×List Segm) ((Conn×List Segm)):=λ(v0,v1,v2,v3,_)=>⟨(v1,v2,v3),λa=>(v0,a.1,a.2.1,a.2.2,()),iQ v0,Be v1.s,oN .ret ⟨[zp 4 0,zo 5 1],[zk .conn 2,za .segm,zf]⟩ (λp=>(p.1,p.2,()))⟩
set_option maxHeartbeats 4000000 in
theorem MV:LS Tryz.prog Mg [0] (Vk 0 pH iK):=Rf st (aV L8) _ iK [] trivial
theorem My {v0:Int}{v1 v2:Conn}{v3:List Segm}(h0:ak v1∧ak v2∧sL ar v3∧v3.length+Be v1.s≤49):(iK (v0,v1,v2,v3,())).W (λp=>ak p.1∧sL ar p.2∧p.2.length≤49):=
 LW.okW (a:=(v1,v2,v3)) (λa=>ak a.1∧ak a.2.1∧sL ar a.2.2∧a.2.2.length+Be a.1.s≤49) (λa=>Be a.1.s) rfl h0 λ(v1,v2,v3) hv=>by
  refine Tr.V λc4 hc4=>Tr.C ?_ λc5 hc5 qc5=>Tr.I (λb0=>Tr.Ro ?_) λb0=>Tr.C ?_ λc6 hc6 qc6=>Tr.I (λb1=>Tr.I (λb2=>Tr.Gb ?_ λg3=>Tr.V λl7 hl7=>Tr.C ?_ λc8 hc8 qc8=>Tr.I (λb4=>Tr.Rn ?_) λb4=>Tr.Rn ?_) λb2=>Tr.Gb ?_ λg3=>Tr.V λl9 hl9=>Tr.C ?_ λc10 hc10 qc10=>Tr.I (λb4=>Tr.Rn ?_) λb4=>Tr.Rn ?_) λb1=>Tr.I (λb2=>Tr.Gb ?_ λg3=>Tr.V λl11 hl11=>Tr.C ?_ λc12 hc12 qc12=>Tr.I (λb4=>Tr.Rn ?_) λb4=>Tr.Rn ?_) λb2=>Tr.Gb ?_ λg3=>Tr.C ?_ λc13 hc13 qc13=>Tr.I (λb4=>Tr.Rn ?_) λb4=>Tr.Rn ?_
  all_goals ((first|grind|(have tl:∀s:ac,s=[]∨0<s.length:=(λs=>by cases s<;>simp);grind)))
noncomputable def jA:FT (Conn×Int×Unit) (Conn×List Segm) (λx=>ak x.1) (λx v=>ak v.1∧sL ar v.2∧v.2.length≤49):= .mk (λ(x0,x1,_)=>
  .cal cS.c (x0,()) λc1=>
  .bnd (β:=Bool×Unit) (.as (λw=>(w.1=false→SO c1.s∧RO c1.r)) (.cal fj.c (c1,()) λc2=>
   .ite (!c2) (.ret (true,()))<|
   .ite (c1.state==8) (.ret (true,()))<|
   .ret ((c1.state==7),()))) λ(u3a0,_)=>
  .ite u3a0 (.ret (c1,[]))<|
  .lp (iK (x1,c1,(⟨⟨0,0,0⟩,0,⟨0,[],0,false,false,false⟩,⟨0,[],[],0,false⟩,0,0,⟨0,0,false,false,0,0⟩,0,0⟩:Conn),[],())).lp λ(p14a0,p14a1)=>
  .ret (p14a0,p14a1)) (pQ @My)
noncomputable def yH:=ck st Mg L8 [(Vk 0 pH iK)] (ks:=[.st .conn,.sc (.int .i64)]) jA (λv=>[(true,kg (.o true) v.1),(false,[sc (.o true) .segm v.2])]) Tryz.func301 ⟨MV,trivial⟩
noncomputable def rj:FT (Tabl×Conn×Unit) (Tabl) (λx=>bg x.1∧ak x.2.1) (λx v=>bg v):= .mk λ(x0,x1,_)=>
  .cal kE.c (x0,()) λc1=>
  .cal cO.c (x0,x1.tuple,()) λc2=>
  .ite (decide (0≤c2)) (.cal cS.c (x1,()) λc3=>
   .grd (dr c1.conns c2)<|
   .ret (⟨(c1.conns.set c2.toNat c3),c1.waiting⟩:Tabl))<|
  .ret c1
noncomputable def BN:=bm st Tryz.func306 [pO,eG,cT] (ks:=[.st .tabl,.st .conn]) rj (λv=>[(true,qg (.o true) (.o true) v)])
noncomputable def jo:FT (Pack×Unit) (ac) (λx=>gT x.1) (λx v=>sS v∧v.length≤1520):=⟨λ(x0,_)=>
  .cal ry.c (x0,()) λc1=>
  .ite (!c1) (.ret [])<|
  .cal aM.c ((IntKind.wrap .i64 (20+(x0.body.length:Int))),2,()) λc2=>
  .grd (Nat.ble (2+c2.length) ao)<|
  .cal aM.c (x0.id,2,()) λc3=>
  .grd (Nat.ble (([69,0]++c2).length+c3.length) ao)<|
  .grd (Nat.ble ((([69,0]++c2)++c3).length+2) ao)<|
  .cal aM.c (x0.ttl,1,()) λc4=>
  .grd (Nat.ble (((([69,0]++c2)++c3)++[0,0]).length+c4.length) ao)<|
  .cal aM.c (x0.proto,1,()) λc5=>
  .grd (Nat.ble ((((([69,0]++c2)++c3)++[0,0])++c4).length+c5.length) ao)<|
  .cal aM.c (x0.src,4,()) λc6=>
  .cal aM.c (x0.dst,4,()) λc7=>
  .grd (Nat.ble (c6.length+c7.length) ao)<|
  .grd (Nat.ble (((((([69,0]++c2)++c3)++[0,0])++c4)++c5).length+(c6++c7).length) ao)<|
  .cal qe.c ((((((([69,0]++c2)++c3)++[0,0])++c4)++c5)++(c6++c7)),()) λc8=>
  .cal aM.c (c8,2,()) λc9=>
  .grd (Nat.ble (((((([69,0]++c2)++c3)++[0,0])++c4)++c5).length+c9.length) ao)<|
  .grd (Nat.ble ((((((([69,0]++c2)++c3)++[0,0])++c4)++c5)++c9).length+(c6++c7).length) ao)<|
  .val ((((((([69,0]++c2)++c3)++[0,0])++c4)++c5)++c9)++(c6++c7)) λe10=>
  .grd (Nat.ble (e10.length+x0.body.length) ao)<|
  .ret (e10++x0.body),
 λ(x0,_) hp=>by
  refine Tr.C trivial λc1 hc1 qc1=>Tr.I (λb0=>Tr.R ?_) λb0=>Tr.C trivial λc2 hc2 qc2=>Tr.Gb ?_ λg1=>Tr.C trivial λc3 hc3 qc3=>Tr.Gb ?_ λg2=>Tr.Gb ?_ λg3=>Tr.C trivial λc4 hc4 qc4=>Tr.Gb ?_ λg4=>Tr.C trivial λc5 hc5 qc5=>Tr.Gb ?_ λg5=>Tr.C trivial λc6 hc6 qc6=>Tr.C trivial λc7 hc7 qc7=>Tr.Gb ?_ λg6=>Tr.Gb ?_ λg7=>Tr.C ?_ λc8 hc8 qc8=>Tr.C trivial λc9 hc9 qc9=>Tr.Gb ?_ λg8=>Tr.Gb ?_ λg9=>Tr.V λe10 he10=>Tr.Gb ?_ λg10=>Tr.R ?_
  all_goals ((first|(simp only[List.length_append,List.length_cons,List.length_nil,ao,sS]at*;omega)|grind))⟩
noncomputable def pn:=bm st Tryz.func367 [K6,iT,vL] (ks:=[.st .pack]) jo (λv=>[(false,[.c (.str v)])])
noncomputable def Hx:=[rE,DG,Ea]
noncomputable def Ho:Fx:=⟨378,Tryz.f378,[(3000007,rA 0 68)],0⟩
noncomputable def aR:FT (Sndr×Int×Int×Unit) (Chun×Bool) (λx=>ci x.1) (λx v=>nL v.1∧(v.2=true→SO x.1∧(v.1.text.length:Int)+x.1.sent≤x.1.data.length∧x.1.finSent=false∧(v.1.text=[]→v.1.fin=true)∧(v.1.fin=true→x.1.fin=true∧x.1.done=false∧x.1.sent+v.1.text.length=x.1.data.length))):= .mk λ(x0,x1,x2,_)=>
  .cal bQ.c (x0,()) λc1=>
  .ite (!c1) (.ret ((⟨0,[],false⟩:Chun),false))<|
  .cal dU.c (x0,()) λc2=>
  .grd (Rg x0.data x0.sent (x0.data.length:Int))<|
  .val (((x0.data.take ((x0.data.length:Int).toNat)).drop x0.sent.toNat).length:Int) λe3=>
  .val (β:=Int) (if(IntKind.wrap .i64 ((if x1<(-1)then(-1)else x1)-c2))<(if x2<e3 then x2 else e3)then(IntKind.wrap .i64 ((if x1<(-1)then(-1)else x1)-c2))else(if x2<e3 then x2 else e3)) λe4=>
  .cal i6.c (x0,()) λc5=>
  .grd ((decide (0≤(if 0<e4 then e4 else 0)))&&(decide ((if 0<e4 then e4 else 0)≤(((x0.data.take ((x0.data.length:Int).toNat)).drop x0.sent.toNat).length:Int))))<|
  .val ((((x0.data.take ((x0.data.length:Int).toNat)).drop x0.sent.toNat).take ((if 0<e4 then e4 else 0).toNat)).drop 0) λe6=>
  .ite x0.fin (.ite (!x0.finSent) (.ite (!x0.done) (.val (((x0.data.take ((x0.data.length:Int).toNat)).drop x0.sent.toNat).length:Int) λe7=>
     .ite ((if 0<e4 then e4 else 0)==e7) (.bnd (β:=Bool×Unit) (.ite (e6==[]) (.ret ((!(decide ((if 0<e4 then e4 else 0)<(IntKind.wrap .i64 ((if x1<(-1)then(-1)else x1)-c2))))),()))<|
       .ret (false,())) λ(u8a0,_)=>
      .ite u8a0 (.ret ((⟨0,[],false⟩:Chun),false))<|
      .ret ((⟨c5,e6,(decide ((if 0<e4 then e4 else 0)<(IntKind.wrap .i64 ((if x1<(-1)then(-1)else x1)-c2))))⟩:Chun),true))<|
     .bnd (β:=Bool×Unit) (.ite (e6==[]) (.ret (true,()))<|
      .ret (false,())) λ(u9a0,_)=>
     .ite u9a0 (.ret ((⟨0,[],false⟩:Chun),false))<|
     .ret ((⟨c5,e6,false⟩:Chun),true))<|
    .bnd (β:=Bool×Unit) (.ite (e6==[]) (.ret (true,()))<|
     .ret (false,())) λ(u10a0,_)=>
    .ite u10a0 (.ret ((⟨0,[],false⟩:Chun),false))<|
    .ret ((⟨c5,e6,false⟩:Chun),true))<|
   .bnd (β:=Bool×Unit) (.ite (e6==[]) (.ret (true,()))<|
    .ret (false,())) λ(u11a0,_)=>
   .ite u11a0 (.ret ((⟨0,[],false⟩:Chun),false))<|
   .ret ((⟨c5,e6,false⟩:Chun),true))<|
  .bnd (β:=Bool×Unit) (.ite (e6==[]) (.ret (true,()))<|
   .ret (false,())) λ(u12a0,_)=>
  .ite u12a0 (.ret ((⟨0,[],false⟩:Chun),false))<|
  .ret ((⟨c5,e6,false⟩:Chun),true)
noncomputable def Hd:=ck st Ho Hx [] (ks:=[.st .sndr,.sc (.int .i64),.sc (.int .i64)]) aR (λv=>[(true,UA v.1),(false,[.c (.bool v.2)])]) Tryz.func378 trivial
noncomputable def qP:FT (ac×Unit) (Arpm×Bool) (λx=>sS x.1) (λ_ _=>True):= .mk λ(x0,_)=>
  .ite (decide ((x0.length:Int)<28)) (.ret ((⟨0,0,0,0,0⟩:Arpm),false))<|
  .cal bD.c (x0,6,2,()) λc1=>
  .cal bD.c (x0,8,6,()) λc2=>
  .cal bD.c (x0,14,4,()) λc3=>
  .cal bD.c (x0,18,6,()) λc4=>
  .cal bD.c (x0,24,4,()) λc5=>
  .cal n9.c ((⟨c1.1,c2.1,c3.1,c4.1,c5.1⟩:Arpm),()) λc6=>
  .grd (decide (28≤(x0.length:Int)))<|
  .ite (!(c6==((x0.take 28).drop 0))) (.ret ((⟨0,0,0,0,0⟩:Arpm),false))<|
  .ret ((⟨c1.1,c2.1,c3.1,c4.1,c5.1⟩:Arpm),true)
noncomputable def N0:=bm st Tryz.func385 [mR,uQ] (ks:=[.sc .str]) qP (λv=>[(true,ED v.1),(false,[.c (.bool v.2)])])
noncomputable def qL:FT (Sipr×Int×Unit) (Sipr) (λ_=>True) (λ_ _=>True):= .mk λ(x0,x1,_)=>
  .cal gL.c (({x0 with d:=(bits .xor .u64 x0.d x1)}:Sipr),()) λc1=>
  .cal gL.c (c1,()) λc2=>
  .ret ({c2 with a:=(bits .xor .u64 c2.a x1)}:Sipr)
noncomputable def M3:=bm st Tryz.func411 [zz] (ks:=[.st .sipr,.sc (.int .u64)]) qL (λv=>[(true,Au v)])
noncomputable def x8:FT (Sipr×Unit) (Int) (λ_=>True) (λ_ _=>True):= .mk λ(x0,_)=>
  .cal gL.c (({x0 with c:=(bits .xor .u64 x0.c 255)}:Sipr),()) λc1=>
  .cal gL.c (c1,()) λc2=>
  .cal gL.c (c2,()) λc3=>
  .cal gL.c (c3,()) λc4=>
  .ret (bits .xor .u64 (bits .xor .u64 (bits .xor .u64 c4.a c4.b) c4.c) c4.d)
noncomputable def Qn:=bm st Tryz.func413 [zz] (ks:=[.st .sipr]) x8 (λv=>[(false,[.c (.int .u64 v)])])
noncomputable def qD:FT (Tabl×Conn×Limi×Unit) (Tabl×Bool) (λx=>bg x.1∧ak x.2.1) (λx v=>bg v.1∧v.1.conns.length≤max x.1.conns.length 16∧v.1.waiting.length≤max x.1.waiting.length 16):= .mk λ(x0,x1,x2,_)=>
  .cal kE.c (x0,()) λc1=>
  .cal cS.c (x1,()) λc2=>
  .grd (qi c1.conns 1 208)<|
  .grd (qi c1.waiting 1 24)<|
  .cal qw.c ((⟨(c1.conns++[c2]),(c1.waiting++[x1.tuple])⟩:Tabl),x2,()) λc3=>
  .ite (!c3) (.cal kE.c (x0,()) λc4=>
   .ret (c4,false))<|
  .ret ((⟨(c1.conns++[c2]),(c1.waiting++[x1.tuple])⟩:Tabl),true)
noncomputable def BZ:=bm st Tryz.func436 [pO,cT,BE] (ks:=[.st .tabl,.st .conn,.st .limi]) qD (λv=>[(true,qg (.o true) (.o true) v.1),(false,[.c (.bool v.2)])])
noncomputable def EK:=[pm,jd,vp,rS,Jj]
noncomputable def GH:Fx:=⟨480,Tryz.f480,[(3000004,rA 0 4)],0⟩
noncomputable def nE:FT (Conn×Segm×Unit) (Bool) (λx=>ak x.1∧ar x.2.1) (λ_ _=>True):= .mk λ(x0,x1,_)=>
  .cal gQ.c (x1,()) λc1=>
  .cal fR.c (x0.r,()) λc2=>
  .ite (c1==0) (.bnd (β:=Bool×Unit) (.val (oa.f (x1.seq,x0.r.next,())) λc3=>
    .ite (c3==0) (.ret (true,()))<|
    .val (mj.f (x1.seq,x0.r.next,c2,())) λc4=>
    .ret (c4,())) λ(u5a0,_)=>
   .ret u5a0)<|
  .cal rM.c (x1.seq,c1,x0.r.next,c2,()) λc6=>
  .ret c6
noncomputable def EI:=ck st GH EK [] (ks:=[.st .conn,.st .segm]) nE rB Tryz.func480 trivial
noncomputable def rg:FT (Sipr×Int×Unit) (Sipr) (λ_=>True) (λ_ _=>True):= .mk λ(x0,x1,_)=>
  .cal jb.c (({x0 with d:=(bits .xor .u64 x0.d x1)}:Sipr),()) λc1=>
  .cal jb.c (c1,()) λc2=>
  .ret ({c2 with a:=(bits .xor .u64 c2.a x1)}:Sipr)
noncomputable def LV:=bm st Tryz.func487 [yQ] (ks:=[.st .sipr,.sc (.int .u64)]) rg (λv=>[(true,Au v)])
def wK:Sh:=⟨[zp 1 0,zi 7],[zx .sipr]⟩
noncomputable def qr (v0:Int)(a:Sipr):Tr (Stp (Sipr) (Empty)):=
 .cal jb.c (a,()) λc1=>
 .ret (.next c1)
noncomputable def jJ:wK.V→sD wK Sipr:=λ(v0,v1,_)=>⟨v0,v1,λv0 a=>(v0,a,()),λv0 _=>(decide (v0<4)),qr,up,1,(Int.toNat (4-v0)),Empty.elim,Prod.mk,oN (.exit 0) ⟨[zp 1 0,zu 2],[zx .sipr]⟩ (λx=>(x.2,()))⟩
theorem Hv {v0:Int}{v1:Sipr}(h0:0≤v0):(jJ (v0,v1,())).U 4 (λ_ _=>True) (λ_=>True):=
 kN (a:=v1) h0 (by decide) trivial
noncomputable def qR:FT (Sipr×Unit) (Int) (λ_=>True) (λ_ _=>True):= .mk (λ(x0,_)=>
  .lp (jJ (0,({x0 with c:=(bits .xor .u64 x0.c 255)}:Sipr),())).lp λ(_,a2_0)=>
  .val (bits .xor .u64 (bits .xor .u64 (bits .xor .u64 a2_0.a a2_0.b) a2_0.c) a2_0.d) λe3=>
  .ret e3) (pQ @Hv)
noncomputable def PJ:=fD st Tryz.func489 [(0,lb [1,7] [1,2])] [yQ] 0 jJ (ks:=[.st .sipr]) qR (λv=>[(false,[.c (.int .u64 v)])])
noncomputable def rP:FT (Conn×Tupl×Unit) (Bool) (λ_=>True) (λ_ _=>True):= .mk λ(x0,y1,_)=>
  .ret ((x0.tuple.ip==y1.ip)&&((x0.tuple.port==y1.port)&&((x0.tuple.my==y1.my)&&true)))
noncomputable def Fr:=cy st ⟨148,Tryz.f148,[],1⟩ [] [] [.st .conn,.wr false [.ptr 0]] [.box [.st .tupl]] (λx y=>(x.1,y.1.1,())) rP rB (λx y v=>((y.1.1,()),())) Tryz.func148 (by kernel_rfl) trivial
noncomputable def ru:FT (Half×Tupl×Unit) (Bool) (λ_=>True) (λ_ _=>True):= .mk λ(x0,y1,_)=>
  .ret ((x0.tuple.ip==y1.ip)&&((x0.tuple.port==y1.port)&&((x0.tuple.my==y1.my)&&true)))
noncomputable def Fz:=cy st ⟨328,Tryz.f328,[],1⟩ [] [] [.st .half,.wr false [.ptr 0]] [.box [.st .tupl]] (λx y=>(x.1,y.1.1,())) ru rB (λx y v=>((y.1.1,()),())) Tryz.func328 (by kernel_rfl) trivial
noncomputable def qh:FT (Tabl×Unit) (Tabl×Tupl×Bool) (λx=>bg x.1) (λx v=>bg v.1∧v.1.conns.length=x.1.conns.length∧v.1.waiting.length≤x.1.waiting.length):= .mk λ(x0,_)=>
  .cal kE.c (x0,()) λc1=>
  .ite ((x0.waiting.length:Int)==0) (.ret (c1,(⟨0,0,0⟩:Tupl),false))<|
  .grd ((decide (1≤(x0.waiting.length:Int)))&&(decide ((x0.waiting.length:Int)≤(x0.waiting.length:Int))))<|
  .grd (Nat.ble ((2*(0+((x0.waiting.take ((x0.waiting.length:Int).toNat)).drop 1).length)+1024)*24) bj)<|
  .grd (decide (0<(x0.waiting.length:Int)))<|
  .ret ((⟨c1.conns,([]++((x0.waiting.take ((x0.waiting.length:Int).toNat)).drop 1))⟩:Tabl),(x0.waiting.getD 0 (Ty.zero .tupl)),true)
noncomputable def tJ:=bm st Tryz.func68 [pO] (ks:=[.st .tabl]) qh (λv=>[(true,qg (.o true) (.o true) v.1),(true,JT v.2.1),(false,[.c (.bool v.2.2)])])
def wX:Sh:=⟨[zp 1 0,zi 3],[.box [.st .door [.sl .arg,.sl .arg,.sl .arg,.sl .arg,.sl .arg]]]⟩
noncomputable def wO (v1:Door)(v0:Int)(a:Unit):Tr (Stp (Unit) ((Unit))):=
 .grd (dr v1.halves v0)<|
 .cal cO.c (v1.table,(v1.halves.getD v0.toNat (Ty.zero .half)).tuple,()) λc8=>
 .ite (decide (0≤c8)) (.ret (.out ()))<|
 .ret (.next ())
noncomputable def mw:wX.V→tM wX Unit (Unit):=λ(v0,v1,_)=>⟨v0,(),λv0 _=>(v0,v1,()),λv0 _=>(decide (v0<(v1.halves.length:Int))),wO v1,up,1,(Int.toNat ((v1.halves.length:Int)-v0)),.inl,eR,oB .ret ⟨[zb 2],[]⟩ (λ_=>(false,())) (.exit 0) ⟨[zu 2],[]⟩ (λ_=>())⟩
theorem HI {v0:Int}{v1:Door}(h0:0≤v0)(h1:(v1.halves.length:Int)≤4611686018427387904)(h2:aU v1):(mw (v0,v1,())).U (v1.halves.length:Int) (λ_ _=>True) (λ_=>True):=
 kN h0 h1 trivial
noncomputable def oW:FT (Door×Unit) (Bool) (λx=>aU x.1) (λx v=>(v=true→x.1.table.conns.length≤16)):= .mk (λ(x0,_)=>
  .bnd (β:=Bool×Unit) (.as (λw=>(w.1=false→0≤x0.keys.epoch∧x0.keys.epoch≤4294967295∧x0.table.conns.length≤16∧x0.table.waiting.length≤16∧x0.halves.length≤64)) (.cal aD.c (x0.port,16,()) λc1=>
   .ite (!c1) (.ret (true,()))<|
   .cal aD.c (x0.clock,32,()) λc2=>
   .ite (!c2) (.ret (true,()))<|
   .cal rf.c (x0.keys,()) λc3=>
   .ite (!c3) (.ret (true,()))<|
   .cal qw.c (x0.table,x0.limits,()) λc4=>
   .ite (!c4) (.ret (true,()))<|
   .cal lT.c (x0.halves,()) λc5=>
   .ite (!c5) (.ret (true,()))<|
   .ite (decide (x0.limits.halves<(x0.halves.length:Int))) (.ret (true,()))<|
   .val (bN.f (x0.chal,0,x0.limits.chal,())) λc6=>
   .ret ((!c6),()))) λ(u7a0,_)=>
  .ite u7a0 (.ret false)<|
  .lp (mw (0,x0,())).lp λw9=> .sum w9 (λ_=>
  .ret false)<|
  λ_=>
  .ret true) (pQ @HI)
noncomputable def sG:=fD st Tryz.func83 [(0,lb [1,3] [2]),(3000001,rA 0 51)] [bP,xz,BE,yp,b8,eG] 0 mw (ks:=[.st .door]) oW rB
noncomputable def p0:FT (Door×Unit) (Door) (λx=>aU x.1) (λx v=>aU v∧v.table.conns.length=x.1.table.conns.length∧v.table.waiting.length=x.1.table.waiting.length∧v.halves=x.1.halves):= .mk λ(x0,_)=>
  .cal pC.c (x0.keys,()) λc1=>
  .cal fA.c (x0.halves,()) λc2=>
  .cal gS.c (x0.table,()) λc3=>
  .ret (⟨x0.port,x0.clock,c1,x0.limits,c2,c3,x0.chal⟩:Door)
noncomputable def Ha:=bm st Tryz.func105 [HE,t7,pf] (ks:=[.st .door]) p0 (λv=>[(true,lZ (.o true) (.o true) (.o true) (.o true) (.o true) v)])
noncomputable def Cl:=[uT,yM,Db,vm,qm]
noncomputable def CL:Fx:=⟨138,Tryz.f138,[(3000005,rA 0 45),(3000009,rA 0 79)],0⟩
noncomputable def aH:FT (ac×Int×Int×Unit) (Segm×Bool) (λx=>sS x.1∧x.1.length≤4294967200) (λx v=>ar v.1):= .mk λ(x0,x1,x2,_)=>
  .ite (decide ((x0.length:Int)<20)) (.ret ((⟨0,0,0,0,0,0,⟨0,0,false,false,0,0⟩,[]⟩:Segm),false))<|
  .grd (decide (12<(x0.length:Int)))<|
  .val (IntKind.wrap .i64 ((IntKind.wrap .i64 ((IntKind.wrap .i64 (af x0 12)).tdiv 16))*4)) λe1=>
  .cal bu.c (x1,x2,(x0.length:Int),()) λc2=>
  .bnd (β:=Bool×Unit) (.ite (decide (e1<20)) (.ret (true,()))<|
   .ite (decide ((x0.length:Int)<e1)) (.ret (true,()))<|
   .ite (c2==[]) (.ret (true,()))<|
   .grd (Nat.ble (c2.length+x0.length) ao)<|
   .cal em.c ((c2++x0),()) λc3=>
   .ret ((!c3),())) λ(u4a0,_)=>
  .ite u4a0 (.ret ((⟨0,0,0,0,0,0,⟨0,0,false,false,0,0⟩,[]⟩:Segm),false))<|
  .grd ((decide (20≤e1))&&(decide (e1≤(x0.length:Int))))<|
  .cal io.c (((x0.take e1.toNat).drop 20),()) λc5=>
  .cal dG.c (x0,0,2,()) λc6=>
  .cal dG.c (x0,2,2,()) λc7=>
  .cal dG.c (x0,4,4,()) λc8=>
  .cal dG.c (x0,8,4,()) λc9=>
  .grd (decide (13<(x0.length:Int)))<|
  .cal dG.c (x0,14,2,()) λc10=>
  .grd (Rg x0 e1 (x0.length:Int))<|
  .bnd (β:=Bool×Unit) (.as (λw=>(w.1=false→(⟨c6,c7,c8,c9,(bits .and .i64 (IntKind.wrap .i64 (af x0 13)) 63),c10,c5.1,((x0.take ((x0.length:Int).toNat)).drop e1.toNat)⟩:Segm).body.length≤1420)) (.ite (!c5.2) (.ret (true,()))<|
   .cal aj.c ((⟨c6,c7,c8,c9,(bits .and .i64 (IntKind.wrap .i64 (af x0 13)) 63),c10,c5.1,((x0.take ((x0.length:Int).toNat)).drop e1.toNat)⟩:Segm),()) λc11=>
   .ret ((!c11),()))) λ(u12a0,_)=>
  .ite u12a0 (.ret ((⟨0,0,0,0,0,0,⟨0,0,false,false,0,0⟩,[]⟩:Segm),false))<|
  .ret ((⟨c6,c7,c8,c9,(bits .and .i64 (IntKind.wrap .i64 (af x0 13)) 63),c10,c5.1,((x0.take ((x0.length:Int).toNat)).drop e1.toNat)⟩:Segm),true)
noncomputable def CC:=ck st CL Cl [] (ks:=[.sc .str,.sc (.int .i64),.sc (.int .i64)]) aH (λv=>[(true,mq v.1),(false,[.c (.bool v.2)])]) Tryz.func138 trivial
noncomputable def dq:FT (Door×Unit) (Door) (λx=>aU x.1) (λx v=>aU v∧v.table.conns.length=x.1.table.conns.length∧v.table.waiting.length=x.1.table.waiting.length∧v.halves=x.1.halves):= .mk λ(x0,_)=>
  .cal qC.c (x0.keys,()) λc1=>
  .grd (Nat.ble ((2*(0+x0.halves.length)+1024)*96) bj)<|
  .cal kE.c (x0.table,()) λc2=>
  .ret (⟨x0.port,x0.clock,c1,x0.limits,([]++x0.halves),c2,x0.chal⟩:Door)
noncomputable def fE:=bm st Tryz.func157 [Ci,pO] (ks:=[.st .door]) dq (λv=>[(true,lZ (.o true) (.o true) (.o true) (.o true) (.o true) v)])
noncomputable def CT:=[uv,b8,y2,CA,mR,jM]
noncomputable def Cn:Fx:=⟨159,Tryz.f159,[(3000005,rA 0 42),(3000014,rA 0 96)],0⟩
noncomputable def iu:FT (ac×Int×Int×Unit) (Segm×Bool) (λx=>sS x.1∧x.1.length≤4294967200) (λx v=>ar v.1):= .mk λ(x0,x1,x2,_)=>
  .ite (decide ((x0.length:Int)<20)) (.ret ((⟨0,0,0,0,0,0,⟨0,0,false,false,0,0⟩,[]⟩:Segm),false))<|
  .grd (decide (12<(x0.length:Int)))<|
  .val (IntKind.wrap .i64 ((IntKind.wrap .i64 ((IntKind.wrap .i64 (af x0 12)).tdiv 16))*4)) λe1=>
  .cal lx.c (x1,x2,(x0.length:Int),()) λc2=>
  .bnd (β:=Bool×Unit) (.val (bN.f (e1,20,(x0.length:Int),())) λc3=>
   .ite (!c3) (.ret (true,()))<|
   .ite (c2==[]) (.ret (true,()))<|
   .grd (Nat.ble (c2.length+x0.length) ao)<|
   .cal py.c ((c2++x0),()) λc4=>
   .ret ((!c4),())) λ(u5a0,_)=>
  .ite u5a0 (.ret ((⟨0,0,0,0,0,0,⟨0,0,false,false,0,0⟩,[]⟩:Segm),false))<|
  .grd ((decide (20≤e1))&&(decide (e1≤(x0.length:Int))))<|
  .cal jN.c (((x0.take e1.toNat).drop 20),()) λc6=>
  .grd (decide (13<(x0.length:Int)))<|
  .grd (Rg x0 e1 (x0.length:Int))<|
  .cal bD.c (x0,0,2,()) λc7=>
  .cal bD.c (x0,2,2,()) λc8=>
  .cal bD.c (x0,4,4,()) λc9=>
  .cal bD.c (x0,8,4,()) λc10=>
  .cal bD.c (x0,14,2,()) λc11=>
  .bnd (β:=Bool×Unit) (.as (λw=>(w.1=false→(⟨c7.1,c8.1,c9.1,c10.1,((IntKind.wrap .i64 (af x0 13)).tmod 64),c11.1,c6.1,((x0.take ((x0.length:Int).toNat)).drop e1.toNat)⟩:Segm).body.length≤1420)) (.ite (!c6.2) (.ret (true,()))<|
   .cal gD.c ((⟨c7.1,c8.1,c9.1,c10.1,((IntKind.wrap .i64 (af x0 13)).tmod 64),c11.1,c6.1,((x0.take ((x0.length:Int).toNat)).drop e1.toNat)⟩:Segm),()) λc12=>
   .ret ((!c12),()))) λ(u13a0,_)=>
  .ite u13a0 (.ret ((⟨0,0,0,0,0,0,⟨0,0,false,false,0,0⟩,[]⟩:Segm),false))<|
  .ret ((⟨c7.1,c8.1,c9.1,c10.1,((IntKind.wrap .i64 (af x0 13)).tmod 64),c11.1,c6.1,((x0.take ((x0.length:Int).toNat)).drop e1.toNat)⟩:Segm),true)
noncomputable def sU:=ck st Cn CT [] (ks:=[.sc .str,.sc (.int .i64),.sc (.int .i64)]) iu (λv=>[(true,mq v.1),(false,[.c (.bool v.2)])]) Tryz.func159 trivial
noncomputable def JK:=[cT,Sp,fQ,rl,NS,kD,yH]
def qV:An:=⟨⟨[],[],false,0⟩,⟨[2,3,4,5],[],false,0⟩,⟨[],[]⟩,[(.normal,⟨[zp 2 0,(3,false,[.nil]),zp 4 1,zo 5 2],[.box [.st .conn [.nil .piec]],zk .conn 3,za .segm,zf]⟩)]⟩
def qX:An:=⟨⟨[],[],false,0⟩,⟨[1,2,3,4,5],[],false,0⟩,⟨[],[]⟩,[(.normal,⟨[zp 1 0,zp 2 1,(3,false,[.nil]),zp 4 2,zo 5 3],[zg .conn,.box [.st .conn [.nil .piec]],zk .conn 4,za .segm,zf]⟩)]⟩
noncomputable def Ky:Fx:=⟨162,Tryz.f162,[(1000016,qV),(1000023,qX)],0⟩
noncomputable def kx:FT (Conn×Unit) (Conn×List Segm) (λx=>ak x.1) (λx v=>ak v.1∧sL ar v.2∧v.2.length≤49):= .mk λ(x0,_)=>
  .cal cS.c (x0,()) λc1=>
  .cal Ry.c (x0,()) λc2=>
  .ite (!c2) (.cal fj.c (x0,()) λc3=>
   .bnd (β:=WT qV.es) (.as (λw=>ak w.1∧ak w.2.1∧sL ar w.2.2.1∧w.2.2.1.length≤49) (.ite c3 (.ret ((⟨⟨0,0,0⟩,0,⟨0,[],0,false,false,false⟩,⟨0,[],[],0,false⟩,0,0,⟨0,0,false,false,0,0⟩,0,0⟩:Conn),({c1 with timer:=0,tries:=0}:Conn),[],()))<|
    .ret ((⟨⟨0,0,0⟩,0,⟨0,[],0,false,false,false⟩,⟨0,[],[],0,false⟩,0,0,⟨0,0,false,false,0,0⟩,0,0⟩:Conn),c1,[],()))) λ(_,u4a1,u4a2,_)=>
   .ret (u4a1,u4a2))<|
  .bnd (β:=WT qX.es) (.as (λw=>ak w.1∧ak w.2.1∧ak w.2.2.1∧sL ar w.2.2.2.1∧w.2.2.2.1.length≤49) (.ite (c1.timer==0) (.ite (x0.state==7) (.ret (x0,(⟨⟨0,0,0⟩,0,⟨0,[],0,false,false,false⟩,⟨0,[],[],0,false⟩,0,0,⟨0,0,false,false,0,0⟩,0,0⟩:Conn),({c1 with timer:=4}:Conn),[],()))<|
    .ret (x0,(⟨⟨0,0,0⟩,0,⟨0,[],0,false,false,false⟩,⟨0,[],[],0,false⟩,0,0,⟨0,0,false,false,0,0⟩,0,0⟩:Conn),({c1 with timer:=3}:Conn),[],()))<|
   .ret (x0,(⟨⟨0,0,0⟩,0,⟨0,[],0,false,false,false⟩,⟨0,[],[],0,false⟩,0,0,⟨0,0,false,false,0,0⟩,0,0⟩:Conn),c1,[],()))) λ(u5a0,_,u5a2,u5a3,_)=>
  .ite (decide (0<(IntKind.wrap .i64 (u5a2.timer-1)))) (.ret (({u5a2 with timer:=(IntKind.wrap .i64 (u5a2.timer-1))}:Conn),u5a3))<|
  .ite (u5a0.state==7) (.ret (({u5a2 with state:=8,timer:=(IntKind.wrap .i64 (u5a2.timer-1)),tries:=0}:Conn),u5a3))<|
  .ite (u5a0.tries==3) (.cal eH.c (u5a0,()) λc6=>
   .ret (({u5a2 with state:=8,timer:=(IntKind.wrap .i64 (u5a2.timer-1)),tries:=0}:Conn),[({c6 with flags:=(bits .or .i64 c6.flags 4)}:Segm)]))<|
  .cal HX.c (u5a0.s,()) λc7=>
  .val (eE.f (1,u5a2.window,())) λc8=>
  .cal jA.c ((⟨u5a2.tuple,u5a2.state,c7,u5a2.r,u5a2.window,u5a2.most,u5a2.opts,(IntKind.wrap .i64 (u5a2.timer-1)),(IntKind.wrap .i64 (u5a0.tries+1))⟩:Conn),c8,()) λc9=>
  .ret (({c9.1 with timer:=3}:Conn),c9.2)
noncomputable def rz:=ck st Ky JK [] (ks:=[.st .conn]) kx (λv=>[(true,kg (.o true) v.1),(false,[sc (.o true) .segm v.2])]) Tryz.func162 trivial
noncomputable def yZ:=[fE,sG,fP,EJ,rz,AQ]
def kb:Sh:=⟨[zp 2 0,zp 4 1,zo 5 2,zi 6],[.box [.st .door [.nil .macRow,.nil .macRow,.nil .half,.nil .conn,.nil .tupl]],.box [.st .door [.own 3,.own 4,.own 5,.own 6,.own 7]],za .segm,zf,zf,zf,zf,zf]⟩
noncomputable def zM:Fx:=⟨163,Tryz.f163,[(0,lb [2,4,5,6] [2,3,4,5])],0⟩
noncomputable def CY (v0:Int)(a:Door×Door×List Segm):Tr (Stp (Door×Door×List Segm) (Empty)):=
 .grd (dr a.2.1.table.conns v0)<|
 .cal kx.c ((a.2.1.table.conns.getD v0.toNat (Ty.zero .conn)),()) λc5=>
 .grd (dr a.2.1.table.conns v0)<|
 .grd (Nat.ble ((2*(a.2.2.length+c5.2.length)+1024)*104) bj)<|
 .ret (.next (({a.1 with keys.now.rows:=[],keys.before.rows:=[],halves:=[],table.conns:=[],table.waiting:=[]}:Door),({a.2.1 with table.conns:=(a.2.1.table.conns.set v0.toNat c5.1)}:Door),(a.2.2++c5.2)))
noncomputable def cu:kb.V→sD kb (Door×Door×List Segm):=λ(v0,v1,v2,v3,_)=>⟨v0,(v1,v2,v3),λv0 a=>(v0,a.1,a.2.1,a.2.2,()),λv0 a=>(decide (v0<(a.2.1.table.conns.length:Int))),CY,up,1,(Int.toNat ((v2.table.conns.length:Int)-v0)),Empty.elim,Prod.mk,oN (.exit 0) ⟨[zp 2 0,zu 3,zp 4 1,zo 5 2],[.box [.st .door [.nil .macRow,.nil .macRow,.nil .half,.nil .conn,.nil .tupl]],.box [.st .door [.own 3,.own 4,.own 5,.own 6,.own 7]],za .segm,zf,zf,zf,zf,zf]⟩ (λx=>(({x.2.1 with keys.now.rows:=[],keys.before.rows:=[],halves:=[],table.conns:=[],table.waiting:=[]}:Door),x.2.2.1,x.2.2.2,()))⟩
set_option maxHeartbeats 4000000 in
theorem CW:LS Tryz.prog zM [0] (jz 0 kb cu):=eB st (aV yZ) _ cu [] trivial
theorem CE {v0:Int}{v1 v2:Door}{v3:List Segm}(h0:0≤v0)(h1:(v2.table.conns.length:Int)≤4611686018427387904)(h2:sL bA v2.keys.now.rows)(h3:sL bA v2.keys.before.rows)(h4:sS v2.halves)(h5:sL ak v2.table.conns)(h6:sS v2.table.waiting)(h7:aU v1∧v2.keys.now.rows.length=v2.keys.now.rows.length∧cY bA v2.keys.now.rows∧v2.keys.before.rows.length=v2.keys.before.rows.length∧cY bA v2.keys.before.rows∧v2.halves.length=v2.halves.length∧v2.table.conns.length=v2.table.conns.length∧cY ak v2.table.conns∧v2.table.waiting.length=v2.table.waiting.length∧sL ar v3∧0≤v0∧v0≤16∧v2.table.conns.length≤16∧(v3.length:Int)≤49*v0):(cu (v0,v1,v2,v3,())).S (λv0 a=>a.2.1.table.conns.length=v2.table.conns.length∧aU a.1∧a.2.1.keys.now.rows.length=v2.keys.now.rows.length∧cY bA a.2.1.keys.now.rows∧a.2.1.keys.before.rows.length=v2.keys.before.rows.length∧cY bA a.2.1.keys.before.rows∧a.2.1.halves.length=v2.halves.length∧a.2.1.table.conns.length=v2.table.conns.length∧cY ak a.2.1.table.conns∧a.2.1.table.waiting.length=v2.table.waiting.length∧sL ar a.2.2∧0≤v0∧v0≤16∧a.2.1.table.conns.length≤16∧(a.2.2.length:Int)≤49*v0) (λ_=>True):=by
 refine LC.okS ⟨rfl,h7⟩ (λj a hj hv=>⟨⟨?_, ?_⟩, ?_⟩) (λa hv=> ?_)
 ·simp only[cu,decide_eq_true_eq]at*;omega
 ·simp only[cu]at*;exact Yy (by omega) (by omega)
 ·refine Tr.G2 ?_ λ_=>Tr.C ?_ λ_ _ _=>Tr.G2 ?_ λ_=>Tr.Gb ?_ λ_=>Tr.Rn ?_
  all_goals (try simp only[cu]at*)<;>(grind)
 ·simp only[cu,decide_eq_false_iff_not]at*;omega
noncomputable def DL:FT (Door×Unit) (Door×List Segm) (λx=>aU x.1) (λx v=>aU v.1∧sL ar v.2):=⟨λ(x0,_)=>
  .cal dq.c (x0,()) λc1=>
  .cal oW.c (x0,()) λc2=>
  .ite (!c2) (.ret (c1,[]))<|
  .val (bJ.f ((IntKind.wrap .i64 (x0.clock+1)),())) λc3=>
  .cal yz.c (x0.halves,()) λc4=>
  .lp (cu (0,(⟨0,0,⟨0,⟨false,0,0,[]⟩,⟨false,0,0,[]⟩,false⟩,⟨0,0,0,0⟩,[],⟨[],[]⟩,0⟩:Door),({c1 with clock:=c3,halves:=c4,chal:=0}:Door),[],())).lp λ(_,_,a6_1,a6_2)=>
  .cal Du.c (a6_1.table,()) λc7=>
  .ret (({a6_1 with table.conns:=c7.conns,table.waiting:=c7.waiting}:Door),a6_2),
 λ(x0,_) hp=>by
  refine Tr.C ?_ λ_ _ _=>Tr.C ?_ λ_ _ _=>Tr.I (λ_=>Tr.R ?_) λ_=>Tr.V λ_ _=>Tr.C ?_ λ_ _ _=>Tr.L (CE ?_ ?_ ?_ ?_ ?_ ?_ ?_ ?_) (λ(a6_0,a6_1,a6_2) _=>Tr.C ?_ λ_ _ _=>Tr.R ?_) (λp=>Empty.elim p)
  all_goals ((try simp only[cu,LC.lp,LC.ct,Ct.lp]at*)<;>grind)⟩
noncomputable def Jx:=ck st zM yZ [(jz 0 kb cu)] (ks:=[.st .door]) DL (λv=>[(true,lZ (.o true) (.o true) (.o true) (.o true) (.o true) v.1),(false,[sc (.o true) .segm v.2])]) Tryz.func163 ⟨CW,trivial⟩
noncomputable def SF:=[cT,fQ,FV,yH]
noncomputable def R3:Fx:=⟨169,Tryz.f169,[(3000002,rA 0 26)],0⟩
noncomputable def zt:FT (Conn×ac×Unit) (Conn×Int×List Segm) (λx=>ak x.1∧sS x.2.1) (λx v=>ak v.1∧sL ar v.2.2):= .mk λ(x0,x1,_)=>
  .cal cS.c (x0,()) λc1=>
  .bnd (β:=Bool×Unit) (.cal fj.c (x0,()) λc2=>
   .ite (!c2) (.ret (true,()))<|
   .ite (x0.state != 1) (.ret ((x0.state != 4),()))<|
   .ret (false,())) λ(u3a0,_)=>
  .ite u3a0 (.ret (c1,0,[]))<|
  .cal Fy.c (x0.s,x1,()) λc4=>
  .cal jA.c (({c1 with s.una:=c4.1.una,s.data:=c4.1.data,s.sent:=c4.1.sent,s.fin:=c4.1.fin,s.finSent:=c4.1.finSent,s.done:=c4.1.done}:Conn),c1.window,()) λc5=>
  .ret (c5.1,c4.2,c5.2)
noncomputable def Iu:=ck st R3 SF [] (ks:=[.st .conn,.sc .str]) zt (λv=>[(true,kg (.o true) v.1),(false,[.c (.int .i64 v.2.1)]),(false,[sc (.o true) .segm v.2.2])]) Tryz.func169 trivial
noncomputable def KU:=[cT,fQ,B4,jd,rl]
noncomputable def Km:Fx:=⟨171,Tryz.f171,[(3000007,rA 0 46)],0⟩
noncomputable def oo:FT (Conn×Int×Unit) (Conn×ac×List Segm) (λx=>ak x.1) (λx v=>ak v.1∧sS v.2.1∧sL ar v.2.2):= .mk λ(x0,x1,_)=>
  .cal cS.c (x0,()) λc1=>
  .cal fj.c (x0,()) λc2=>
  .ite (!c2) (.ret (c1,[],[]))<|
  .cal A6.c (x0.r,x1,()) λc3=>
  .bnd (β:=Bool×Unit) (.cal fR.c (x0.r,()) λc4=>
   .ite (c4==0) (.cal fR.c (c3.1,()) λc5=>
    .ite (decide (0<c5)) (.ite (x0.state != 8) (.ret ((x0.state != 7),()))<|
     .ret (false,()))<|
    .ret (false,()))<|
   .ret (false,())) λ(u6a0,_)=>
  .ite u6a0 (.cal eH.c (({c1 with r.next:=c3.1.next,r.data:=c3.1.data,r.held:=c3.1.held,r.fin:=c3.1.fin,r.done:=c3.1.done}:Conn),()) λc7=>
   .ret (({c1 with r.next:=c3.1.next,r.data:=c3.1.data,r.held:=c3.1.held,r.fin:=c3.1.fin,r.done:=c3.1.done}:Conn),c3.2,[c7]))<|
  .ret (({c1 with r.next:=c3.1.next,r.data:=c3.1.data,r.held:=c3.1.held,r.fin:=c3.1.fin,r.done:=c3.1.done}:Conn),c3.2,[])
noncomputable def zO:=ck st Km KU [] (ks:=[.st .conn,.sc (.int .i64)]) oo (λv=>[(true,kg (.o true) v.1),(false,[.c (.str v.2.1)]),(false,[sc (.o true) .segm v.2.2])]) Tryz.func171 trivial
noncomputable def TC:=[cT,fQ,yH]
noncomputable def U0:Fx:=⟨172,Tryz.f172,[(3000002,rA 0 19)],0⟩
noncomputable def ET:FT (Conn×Unit) (Conn×List Segm) (λx=>ak x.1) (λx v=>ak v.1∧sL ar v.2):= .mk λ(x0,_)=>
  .cal cS.c (x0,()) λc1=>
  .bnd (β:=Bool×Unit) (.cal fj.c (x0,()) λc2=>
   .ite (!c2) (.ret (true,()))<|
   .ite (x0.state != 1) (.ret ((x0.state != 4),()))<|
   .ret (false,())) λ(u3a0,_)=>
  .ite u3a0 (.ret (c1,[]))<|
  .ite (x0.state==4) (.cal jA.c (({c1 with state:=6,s.fin:=true}:Conn),c1.window,()) λc4=>
   .ret (c4.1,c4.2))<|
  .cal jA.c (({c1 with state:=2,s.fin:=true}:Conn),c1.window,()) λc5=>
  .ret (c5.1,c5.2)
noncomputable def OB:=ck st U0 TC [] (ks:=[.st .conn]) ET (λv=>[(true,kg (.o true) v.1),(false,[sc (.o true) .segm v.2])]) Tryz.func172 trivial
noncomputable def RS:=[cT,fQ,rl]
noncomputable def S4:Fx:=⟨173,Tryz.f173,[(3000002,rA 0 15)],0⟩
noncomputable def Dx:FT (Conn×Unit) (Conn×List Segm) (λx=>ak x.1) (λx v=>ak v.1∧sL ar v.2):= .mk λ(x0,_)=>
  .cal cS.c (x0,()) λc1=>
  .bnd (β:=Bool×Unit) (.as (λw=>(w.1=false→SO x0.s∧RO x0.r)) (.cal fj.c (x0,()) λc2=>
   .ite (!c2) (.ret (true,()))<|
   .ret ((x0.state==8),()))) λ(u3a0,_)=>
  .ite u3a0 (.ret (c1,[]))<|
  .cal eH.c (x0,()) λc4=>
  .ret (({c1 with state:=8,timer:=0,tries:=0}:Conn),[({c4 with flags:=(bits .or .i64 c4.flags 4)}:Segm)])
noncomputable def Sn:=ck st S4 RS [] (ks:=[.st .conn]) Dx (λv=>[(true,kg (.o true) v.1),(false,[sc (.o true) .segm v.2])]) Tryz.func173 trivial
noncomputable def FA:=[vm,yM]
noncomputable def F9:Fx:=⟨198,Tryz.f198,[(3000008,rA 0 22)],0⟩
noncomputable def dI:FT (ac×Unit) (Pack×Int) (λx=>sS x.1) (λx v=>gT v.1∧v.1.body.length≤1500):= .mk λ(x0,_)=>
  .ite (decide ((x0.length:Int)<20)) (.ret ((⟨0,0,0,0,0,[]⟩:Pack),1))<|
  .cal dG.c (x0,2,2,()) λc1=>
  .grd (decide (0<(x0.length:Int)))<|
  .ite ((af x0 0) != 69) (.ret ((⟨0,0,0,0,0,[]⟩:Pack),2))<|
  .grd (decide (20≤(x0.length:Int)))<|
  .cal em.c (((x0.take 20).drop 0),()) λc2=>
  .ite (!c2) (.ret ((⟨0,0,0,0,0,[]⟩:Pack),3))<|
  .bnd (β:=Bool×Unit) (.ite (decide (c1<20)) (.ret (true,()))<|
   .ite (decide ((x0.length:Int)<c1)) (.ret (true,()))<|
   .ret ((decide (1500<c1)),())) λ(u3a0,_)=>
  .ite u3a0 (.ret ((⟨0,0,0,0,0,[]⟩:Pack),4))<|
  .cal dG.c (x0,6,2,()) λc4=>
  .ite ((bits .andNot .i64 c4 16384) != 0) (.ret ((⟨0,0,0,0,0,[]⟩:Pack),5))<|
  .grd (decide (8<(x0.length:Int)))<|
  .ite ((af x0 8)==0) (.ret ((⟨0,0,0,0,0,[]⟩:Pack),6))<|
  .cal dG.c (x0,12,4,()) λc5=>
  .cal dG.c (x0,16,4,()) λc6=>
  .grd (decide (8<(x0.length:Int)))<|
  .grd (decide (9<(x0.length:Int)))<|
  .cal dG.c (x0,4,2,()) λc7=>
  .grd ((decide (20≤c1))&&(decide (c1≤(x0.length:Int))))<|
  .ret ((⟨c5,c6,(IntKind.wrap .i64 (af x0 8)),(IntKind.wrap .i64 (af x0 9)),c7,((x0.take c1.toNat).drop 20)⟩:Pack),0)
noncomputable def uo:=ck st F9 FA [] (ks:=[.sc .str]) dI (λv=>[(true,uJ v.1),(false,[.c (.int .i64 v.2)])]) Tryz.func198 trivial
noncomputable def Fb:=[y2,mR,lY,b8]
noncomputable def D7:Fx:=⟨225,Tryz.f225,[(3000010,rA 0 43)],0⟩
noncomputable def jc:FT (ac×Unit) (Pack×Int) (λx=>sS x.1) (λx v=>gT v.1∧v.1.body.length≤1500):= .mk λ(x0,_)=>
  .ite (decide ((x0.length:Int)<20)) (.ret ((⟨0,0,0,0,0,[]⟩:Pack),1))<|
  .grd (decide (0<(x0.length:Int)))<|
  .ite ((af x0 0) != 69) (.ret ((⟨0,0,0,0,0,[]⟩:Pack),2))<|
  .grd (decide (20≤(x0.length:Int)))<|
  .cal py.c (((x0.take 20).drop 0),()) λc1=>
  .ite (!c1) (.ret ((⟨0,0,0,0,0,[]⟩:Pack),3))<|
  .cal bD.c (x0,2,2,()) λc2=>
  .val (iC.f ((x0.length:Int),1500,())) λc3=>
  .val (bN.f (c2.1,20,c3,())) λc4=>
  .ite (!c4) (.ret ((⟨0,0,0,0,0,[]⟩:Pack),4))<|
  .bnd (β:=Bool×Unit) (.grd (decide (6<(x0.length:Int)))<|
   .ite ((bits .and .u8 (af x0 6) 191) != 0) (.ret (true,()))<|
   .grd (decide (7<(x0.length:Int)))<|
   .ret (((af x0 7) != 0),())) λ(u5a0,_)=>
  .ite u5a0 (.ret ((⟨0,0,0,0,0,[]⟩:Pack),5))<|
  .grd (decide (8<(x0.length:Int)))<|
  .grd (decide (9<(x0.length:Int)))<|
  .grd ((decide (20≤c2.1))&&(decide (c2.1≤(x0.length:Int))))<|
  .ite ((IntKind.wrap .i64 (af x0 8))==0) (.ret ((⟨0,0,0,0,0,[]⟩:Pack),6))<|
  .cal bD.c (x0,4,2,()) λc6=>
  .cal bD.c (x0,12,4,()) λc7=>
  .cal bD.c (x0,16,4,()) λc8=>
  .ret ((⟨c7.1,c8.1,(IntKind.wrap .i64 (af x0 8)),(IntKind.wrap .i64 (af x0 9)),c6.1,((x0.take c2.1.toNat).drop 20)⟩:Pack),0)
noncomputable def uS:=ck st D7 Fb [] (ks:=[.sc .str]) jc (λv=>[(true,uJ v.1),(false,[.c (.int .i64 v.2)])]) Tryz.func225 trivial
def Bk:Sh:=⟨[zi 1,zp 4 0,zp 6 1,zo 7 2],[.box [.st .conn [.nil .piec]],zk .conn 3,za .segm,zf]⟩
noncomputable def bx (v0:Int)(a:Conn×Conn×List Segm):Tr (Stp (Conn×Conn×List Segm) ((Conn×Conn×List Segm))):=
 .val (cB.f (a.2.1,())) λc4=>
 .cal aR.c (a.2.1.s,v0,c4,()) λc5=>
 .ite (!c5.2) (.ret (.out (({a.1 with r.held:=[]}:Conn),a.2.1,a.2.2)))<|
 .cal cL.c (a.2.1,()) λc6=>
 .ite (!(c5.1.text==[])) (.ite c5.1.fin (.grd (qi a.2.2 1 104)<|
   .val (a.2.2++[({c6 with seq:=c5.1.seq,flags:=(bits .or .i64 (bits .or .i64 c6.flags 8) 1),body:=c5.1.text}:Segm)]) λl7=>
   .cal cU.c (a.2.1.s,c5.1,()) λc8=>
   .ret (.next (({a.1 with r.held:=[]}:Conn),({a.2.1 with s.una:=c8.una,s.data:=c8.data,s.sent:=c8.sent,s.fin:=c8.fin,s.finSent:=c8.finSent,s.done:=c8.done}:Conn),l7)))<|
  .grd (qi a.2.2 1 104)<|
  .val (a.2.2++[({c6 with seq:=c5.1.seq,flags:=(bits .or .i64 c6.flags 8),body:=c5.1.text}:Segm)]) λl9=>
  .cal cU.c (a.2.1.s,c5.1,()) λc10=>
  .ret (.next (({a.1 with r.held:=[]}:Conn),({a.2.1 with s.una:=c10.una,s.data:=c10.data,s.sent:=c10.sent,s.fin:=c10.fin,s.finSent:=c10.finSent,s.done:=c10.done}:Conn),l9)))<|
 .ite c5.1.fin (.grd (qi a.2.2 1 104)<|
  .val (a.2.2++[({c6 with seq:=c5.1.seq,flags:=(bits .or .i64 c6.flags 1),body:=c5.1.text}:Segm)]) λl11=>
  .cal cU.c (a.2.1.s,c5.1,()) λc12=>
  .ret (.next (({a.1 with r.held:=[]}:Conn),({a.2.1 with s.una:=c12.una,s.data:=c12.data,s.sent:=c12.sent,s.fin:=c12.fin,s.finSent:=c12.finSent,s.done:=c12.done}:Conn),l11)))<|
 .grd (qi a.2.2 1 104)<|
 .cal cU.c (a.2.1.s,c5.1,()) λc13=>
 .ret (.next (({a.1 with r.held:=[]}:Conn),({a.2.1 with s.una:=c13.una,s.data:=c13.data,s.sent:=c13.sent,s.fin:=c13.fin,s.finSent:=c13.finSent,s.done:=c13.done}:Conn),(a.2.2++[({c6 with seq:=c5.1.seq,body:=c5.1.text}:Segm)])))
noncomputable def gA:Bk.V→LW Bk (Conn×Conn×List Segm) ((Conn×Conn×List Segm)):=λ(v0,v1,v2,v3,_)=>⟨(v1,v2,v3),λa=>(v0,a.1,a.2.1,a.2.2,()),bx v0,Be v2.s,oN (.exit 0) ⟨[zp 4 0,zu 5,zp 6 1,zo 7 2],[.box [.st .conn [.nil .piec]],zk .conn 3,za .segm,zf]⟩ (λp=>(p.1,p.2.1,p.2.2,()))⟩
theorem Ln {v0:Int}{v1 v2:Conn}{v3:List Segm}(h0:ak v1∧ak v2∧sL ar v3∧v3.length+Be v2.s≤49):(gA (v0,v1,v2,v3,())).W (λp=>ak p.1∧ak p.2.1∧sL ar p.2.2∧p.2.2.length≤49):=
 LW.okW (a:=(v1,v2,v3)) (λa=>ak a.1∧ak a.2.1∧sL ar a.2.2∧a.2.2.length+Be a.2.1.s≤49) (λa=>Be a.2.1.s) rfl h0 λ(v1,v2,v3) hv=>by
  refine Tr.V λc4 hc4=>Tr.C ?_ λc5 hc5 qc5=>Tr.I (λb0=>Tr.Ro ?_) λb0=>Tr.C ?_ λc6 hc6 qc6=>Tr.I (λb1=>Tr.I (λb2=>Tr.Gb ?_ λg3=>Tr.V λl7 hl7=>Tr.C ?_ λc8 hc8 qc8=>Tr.Rn ?_) λb2=>Tr.Gb ?_ λg3=>Tr.V λl9 hl9=>Tr.C ?_ λc10 hc10 qc10=>Tr.Rn ?_) λb1=>Tr.I (λb2=>Tr.Gb ?_ λg3=>Tr.V λl11 hl11=>Tr.C ?_ λc12 hc12 qc12=>Tr.Rn ?_) λb2=>Tr.Gb ?_ λg3=>Tr.C ?_ λc13 hc13 qc13=>Tr.Rn ?_
  all_goals ((first|grind|(have tl:∀s:ac,s=[]∨0<s.length:=(λs=>by cases s<;>simp);grind)))
noncomputable def gt:FT (Conn×Int×Unit) (Conn×List Segm) (λx=>ak x.1) (λx v=>ak v.1∧sL ar v.2∧v.2.length≤49):= .mk (λ(x0,x1,_)=>
  .cal ja.c (x0,()) λc1=>
  .bnd (β:=Bool×Unit) (.as (λw=>(w.1=false→SO x0.s∧RO x0.r)) (.cal cJ.c (x0,()) λc2=>
   .ite (!c2) (.ret (true,()))<|
   .ite (x0.state==8) (.ret (true,()))<|
   .ret ((x0.state==7),()))) λ(u3a0,_)=>
  .ite u3a0 (.ret (c1,[]))<|
  .lp (gA (x1,(⟨⟨0,0,0⟩,0,⟨0,[],0,false,false,false⟩,⟨0,[],[],0,false⟩,0,0,⟨0,0,false,false,0,0⟩,0,0⟩:Conn),c1,[],())).lp λ(_,p14a1,p14a2)=>
  .bnd (β:=Bool×Unit) (.ite (decide (0<(p14a2.length:Int))) (.ret ((p14a1.timer==0),()))<|
   .ret (false,())) λ(u15a0,_)=>
  .ite u15a0 (.ret (({p14a1 with timer:=3}:Conn),p14a2))<|
  .ret (p14a1,p14a2)) (pQ @Ln)
noncomputable def Yf:=Jz st Tryz.func273 [(0,lb [1,4,6,7] [4,5,6,7]),(3000002,rA 0 25),(3000016,rA 0 76)] [mC,EF,QU,Hd,Sj,Nk] 0 gA (ks:=[.st .conn,.sc (.int .i64)]) gt (λv=>[(true,kg (.o true) v.1),(false,[sc (.o true) .segm v.2])])
noncomputable def O1:=[N0,pW,KX,uQ,jC]
noncomputable def QV:Fx:=⟨284,Tryz.f284,[(3000002,rA 0 26),(4000000,la ⟨[],[],false,0⟩ ⟨[],[.softb 4 2],false,0⟩)],0⟩
noncomputable def FL:FT (Link×Fram×Unit) (Link×Int×Pack×ac) (λx=>d8 x.1∧mt x.2.1) (λx v=>d8 v.1∧gT v.2.2.1∧sS v.2.2.2∧v.2.2.1.body.length≤1500):= .mk λ(x0,x1,_)=>
  .cal qP.c (x1.body,()) λc1=>
  .bnd (β:=Bool×Unit) (.ite (!c1.2) (.ret (true,()))<|
   .ret ((c1.1.dstIp != x0.ip),())) λ(u2a0,_)=>
  .ite u2a0 (.ret (x0,0,(⟨0,0,0,0,0,[]⟩:Pack),[]))<|
  .cal lV.c (x0.cache,c1.1.srcIp,c1.1.srcHw,()) λc3=>
  .cal rR.c (c1.1,x0.mac,x0.ip,()) λc4=>
  .ite (!c4.2) (.ret (({x0 with cache:=c3}:Link),0,(⟨0,0,0,0,0,[]⟩:Pack),[]))<|
  .cal n9.c (c4.1,()) λc5=>
  .cal eK.c ((⟨c1.1.srcHw,x0.mac,2054,c5⟩:Fram),()) λc6=>
  .ret (({x0 with cache:=c3}:Link),1,(⟨0,0,0,0,0,[]⟩:Pack),c6)
noncomputable def Q3:=ck st QV O1 [] (ks:=[.st .link,.st .fram]) FL (λv=>[(true,xn .c v.1),(false,[.c (.int .i64 v.2.1)]),(true,uJ v.2.2.1),(false,[.c (.str v.2.2.2)])]) Tryz.func284 trivial
noncomputable def kv:FT (Door×Segm×Unit) (Door×List Segm×Int) (λx=>aU x.1∧ar x.2.1) (λx v=>aU v.1∧sL ar v.2.1):= .mk λ(x0,x1,_)=>
  .cal ss.c (x1,()) λc1=>
  .ite (!c1.2) (.cal dq.c (x0,()) λc2=>
   .ret (c2,[],0))<|
  .cal dq.c (x0,()) λc3=>
  .ret (c3,[c1.1],0)
noncomputable def yF:=bm st Tryz.func290 [J0,fE] (ks:=[.st .door,.st .segm]) kv (λv=>[(true,lZ (.o true) (.o true) (.o true) (.o true) (.o true) v.1),(false,[sc (.o true) .segm v.2.1]),(false,[.c (.int .i64 v.2.2)])])
noncomputable def Mr:=[UV,xk,pn,jC]
noncomputable def Lo:Fx:=⟨295,Tryz.f295,[(3000002,rA 0 25)],0⟩
noncomputable def vA:FT (Link×Int×ac×Unit) (ac×Bool) (λx=>d8 x.1∧sS x.2.2.1) (λx v=>sS v.1):= .mk λ(x0,x1,x2,_)=>
  .cal Kk.c (x0.cache,x1,()) λc1=>
  .bnd (β:=Bool×Unit) (.cal qM.c (x0,()) λc2=>
   .ite (!c2) (.ret (true,()))<|
   .ret ((!c1.2),())) λ(u3a0,_)=>
  .ite u3a0 (.ret ([],false))<|
  .cal jo.c ((⟨x0.ip,x1,64,6,0,x2⟩:Pack),()) λc4=>
  .ite (c4==[]) (.ret ([],false))<|
  .cal eK.c ((⟨c1.1,x0.mac,2048,c4⟩:Fram),()) λc5=>
  .ret (c5,(!(c5==[])))
noncomputable def MP:=ck st Lo Mr [] (ks:=[.st .link,.sc (.int .i64),.sc .str]) vA (λv=>[(false,[.c (.str v.1)]),(false,[.c (.bool v.2)])]) Tryz.func295 trivial
def u6:Sh:=⟨[zs 2,zp 7 0,zi 8,zi 9],[zx .sipr]⟩
noncomputable def iV (v0:ac)(v1:Int)(a:Int×Sipr):Tr (Stp (Int×Sipr) ((Int×Sipr))):=
 .ite (decide ((IntKind.wrap .i64 (a.1+8))≤v1)) (.grd (Rg v0 a.1 (IntKind.wrap .i64 (a.1+8)))<|
  .cal oj.c (((v0.take ((IntKind.wrap .i64 (a.1+8)).toNat)).drop a.1.toNat),()) λc2=>
  .cal qL.c (a.2,c2,()) λc3=>
  .ret (.next ((IntKind.wrap .i64 (a.1+8)),c3)))<|
 .ret (.out (a.1,a.2))
noncomputable def lv:u6.V→LW u6 (Int×Sipr) ((Int×Sipr)):=λ(v0,v1,v2,v3,_)=>⟨(v2,v3),λa=>(v0,v1,a.1,a.2,()),iV v0 v1,Int.toNat (v1-v2),oN (.exit 0) ⟨[zs 2,zu 6,zp 7 0,zi 8,zi 9],[zx .sipr]⟩ (λp=>(v0,v1,p.1,p.2,()))⟩
theorem EW {v0:ac}{v1 v2:Int}{v3:Sipr}(h0:v1=(v0.length:Int))(h1:sS v0)(h2:0≤v2∧v2≤v1):(lv (v0,v1,v2,v3,())).W (λp=>0≤p.1∧p.1≤v0.length):=
 Xz (a:=(v2,v3)) (λa=>0≤a.1∧a.1≤v1) (λa=>Int.toNat (v1-a.1)) h2
noncomputable def vW:FT (Int×Int×ac×Unit) (Int) (λx=>sS x.2.2.1) (λ_ _=>True):= .mk (λ(x0,x1,x2,_)=>
  .val (sN.f (x0,x1,())) λc1=>
  .lp (lv (x2,(x2.length:Int),0,c1,())).lp λ(p4a0,p4a1)=>
  .grd (Rg x2 p4a0 (x2.length:Int))<|
  .cal oj.c (((x2.take ((x2.length:Int).toNat)).drop p4a0.toNat),()) λc5=>
  .val (IntKind.wrap .u64 ((IntKind.wrap .u64 ((x2.length:Int).tmod 256))*72057594037927936)) λe6=>
  .cal qL.c (p4a1,(bits .or .u64 c5 e6),()) λc7=>
  .cal x8.c (c7,()) λc8=>
  .ret c8) (pQ @EW)
noncomputable def Od:=Jz st Tryz.func316 [(0,lb [2,7,8,9] [2,6,7,8,9])] [J6,QW,M3,Qn] 0 lv (ks:=[.sc (.int .u64),.sc (.int .u64),.sc .str]) vW (λv=>[(false,[.c (.int .u64 v)])])
noncomputable def oE:FT (Door×Tupl×Segm×Unit) (Bool) (λx=>aU x.1∧ar x.2.2.1) (λ_ _=>True):= .mk λ(x0,x1,x2,_)=>
  .cal oW.c (x0,()) λc1=>
  .ite c1 (.cal jh.c (x1,()) λc2=>
   .ite c2 (.cal gD.c (x2,()) λc3=>
    .ret c3)<|
   .ret false)<|
  .ret false
noncomputable def zR:=bm st Tryz.func393 [sG,mZ,jM] (ks:=[.st .door,.st .tupl,.st .segm]) oE rB
noncomputable def Ox:=[fQ,jM,rN,jd,rS,EI,M7]
noncomputable def NZ:Fx:=⟨454,Tryz.f454,[(3000001,rA 0 5),(3000003,rA 0 19),(3000005,rA 0 30)],0⟩
noncomputable def rk:FT (Conn×Segm×Unit) (Int) (λx=>ak x.1∧ar x.2.1) (λ_ _=>True):= .mk λ(x0,x1,_)=>
  .bnd (β:=Bool×Unit) (.as (λw=>(w.1=false→SO x0.s∧RO x0.r∧x1.body.length≤1420)) (.cal fj.c (x0,()) λc1=>
   .ite (!c1) (.ret (true,()))<|
   .ite (x0.state==8) (.ret (true,()))<|
   .cal gD.c (x1,()) λc2=>
   .ret ((!c2),()))) λ(u3a0,_)=>
  .ite u3a0 (.ret 1)<|
  .bnd (β:=Bool×Unit) (.val (fV.f (x1,4,())) λc4=>
   .ite c4 (.ret ((x1.seq==x0.r.next),()))<|
   .ret (false,())) λ(u5a0,_)=>
  .ite u5a0 (.ret 2)<|
  .bnd (β:=Bool×Unit) (.val (fV.f (x1,4,())) λc6=>
   .ite c6 (.cal fR.c (x0.r,()) λc7=>
    .val (mj.f (x1.seq,x0.r.next,c7,())) λc8=>
    .ret (c8,()))<|
   .ret (false,())) λ(u9a0,_)=>
  .ite u9a0 (.ret 3)<|
  .val (fV.f (x1,4,())) λc10=>
  .ite c10 (.ret 1)<|
  .val (fV.f (x1,2,())) λc11=>
  .ite c11 (.ret 3)<|
  .cal nE.c (x0,x1,()) λc12=>
  .ite (!c12) (.ret 4)<|
  .val (fV.f (x1,16,())) λc13=>
  .ite (!c13) (.ret 1)<|
  .cal vG.c (x0,x1.ack,()) λc14=>
  .ite (!c14) (.ret 3)<|
  .ret 5
noncomputable def BT:=ck st NZ Ox [] (ks:=[.st .conn,.st .segm]) rk rI Tryz.func454 trivial
noncomputable def Sm:=[cT,BT,I8,kD,lY,gH,b8,rN,BM,PF]
def wD:An:=⟨⟨[],[],false,0⟩,⟨[2,3,4,5],[],false,0⟩,⟨[],[]⟩,[(.normal,⟨[zp 2 0,zp 3 1,zp 4 2,zp 5 3],[zg .conn,zx .segm,.box [.st .conn [.nil .piec]],zk .conn 4,zf]⟩)]⟩
noncomputable def S9:Fx:=⟨455,Tryz.f455,[(1000024,wD),(3000010,rA 0 59)],0⟩
noncomputable def z4:FT (Conn×Segm×Unit) (Conn) (λx=>ak x.1∧ar x.2.1) (λx v=>ak v):= .mk λ(x0,x1,_)=>
  .cal cS.c (x0,()) λc1=>
  .cal rk.c (x0,x1,()) λc2=>
  .ite (c2 != 5) (.ret c1)<|
  .cal yv.c (x0.s,x1.ack,()) λc3=>
  .bnd (β:=WT wD.es) (.as (λw=>ak w.1∧ar w.2.1∧ak w.2.2.1∧ak w.2.2.2.1) (.ite c3.2 (.val (eE.f (0,x0.opts.scale,())) λc4=>
    .grd (decide (0≤(IntKind.wrap .u64 c4)))<|
    .val (IntKind.wrap .i64 (x1.window*2 ^ (min (IntKind.wrap .u64 c4).toNat 64))) λe5=>
    .val (iC.f (1073725440,e5,())) λc6=>
    .val (eE.f (c1.most,c6,())) λc7=>
    .cal fO.c (c3.1,()) λc8=>
    .bnd (β:=Bool×Unit) (.ite (c3.1.una != x0.s.una) (.ret ((x0.state != 7),()))<|
     .ite (c8==0) (.ret ((x0.state != 7),()))<|
     .ret (false,())) λ(u9a0,_)=>
    .ite u9a0 (.ite (decide (0<c8)) (.ret (x0,x1,(⟨⟨0,0,0⟩,0,⟨0,[],0,false,false,false⟩,⟨0,[],[],0,false⟩,0,0,⟨0,0,false,false,0,0⟩,0,0⟩:Conn),(⟨c1.tuple,c1.state,c3.1,c1.r,c6,c7,c1.opts,3,0⟩:Conn),()))<|
     .ret (x0,x1,(⟨⟨0,0,0⟩,0,⟨0,[],0,false,false,false⟩,⟨0,[],[],0,false⟩,0,0,⟨0,0,false,false,0,0⟩,0,0⟩:Conn),(⟨c1.tuple,c1.state,c3.1,c1.r,c6,c7,c1.opts,0,0⟩:Conn),()))<|
    .ret (x0,x1,(⟨⟨0,0,0⟩,0,⟨0,[],0,false,false,false⟩,⟨0,[],[],0,false⟩,0,0,⟨0,0,false,false,0,0⟩,0,0⟩:Conn),(⟨c1.tuple,c1.state,c3.1,c1.r,c6,c7,c1.opts,c1.timer,c1.tries⟩:Conn),()))<|
   .ret (x0,x1,(⟨⟨0,0,0⟩,0,⟨0,[],0,false,false,false⟩,⟨0,[],[],0,false⟩,0,0,⟨0,0,false,false,0,0⟩,0,0⟩:Conn),c1,()))) λ(u10a0,u10a1,_,u10a3,_)=>
  .val (bN.f (u10a0.state,1,3,())) λc11=>
  .ite c11 (.val (fV.f (u10a1,1,())) λc12=>
   .cal od.c (u10a0.r,u10a1.seq,u10a1.body,c12,()) λc13=>
   .cal oC.c (({u10a3 with r.next:=c13.next,r.data:=c13.data,r.held:=c13.held,r.fin:=c13.fin,r.done:=c13.done}:Conn),()) λc14=>
   .ret c14)<|
  .cal oC.c (u10a3,()) λc15=>
  .ret c15
noncomputable def SW:=ck st S9 Sm [] (ks:=[.st .conn,.st .segm]) z4 (λv=>[(true,kg (.o true) v)]) Tryz.func455 trivial
def t8:Sh:=⟨[zs 2,zp 7 0,(8,false,[.sl .any .u8])],[zx .sipr]⟩
noncomputable def kP (a:List Int×Sipr):Tr (Stp (List Int×Sipr) ((List Int×Sipr))):=
 .ite (decide (8≤(a.1.length:Int))) (.cal ph.c (a.1,()) λc4=>
  .cal rg.c (a.2,c4,()) λc5=>
  .grd ((decide (8≤(a.1.length:Int)))&&(decide ((a.1.length:Int)≤(a.1.length:Int))))<|
  .ret (.next (((a.1.take ((a.1.length:Int).toNat)).drop 8),c5)))<|
 .ret (.out (a.1,a.2))
noncomputable def kR:t8.V→LW t8 (List Int×Sipr) ((List Int×Sipr)):=λ(v0,v1,v2,_)=>⟨(v1,v2),λa=>(v0,a.1,a.2,()),kP,v1.length,oN (.exit 0) ⟨[zs 2,zu 6,zp 7 0,(8,false,[.sl .any .u8])],[zx .sipr]⟩ (λp=>(v0,p.1,p.2,()))⟩
theorem FC {v0:ac}{v1:List Int}{v2:Sipr}(h0:sS v1):(kR (v0,v1,v2,())).W (λp=>sS p.1):=
 Xz (a:=(v1,v2)) (λa=>sS a.1) (λa=>a.1.length) h0
noncomputable def mn:FT (Int×Int×ac×Unit) (Int) (λx=>sS x.2.2.1) (λ_ _=>True):= .mk (λ(x0,x1,x2,_)=>
  .val (oG.f (x0,x1,())) λc1=>
  .grd (Nat.ble x2.length bj)<|
  .lp (kR (x2,(dB x2),c1,())).lp λ(p6a0,p6a1)=>
  .val ((p6a0.take (List.replicate 8 0).length)++(List.replicate 8 0).drop (p6a0.take (List.replicate 8 0).length).length) λl7=>
  .grd (decide (7<(l7.length:Int)))<|
  .cal ph.c ((l7.set 7 (IntKind.wrap .u8 (x2.length:Int))),()) λc8=>
  .cal rg.c (p6a1,c8,()) λc9=>
  .cal qR.c (c9,()) λc10=>
  .ret c10) (pQ @FC)
noncomputable def Nn:=Jz st Tryz.func460 [(0,la ⟨[2,7,8],[.soft 8 0],false,0⟩ ⟨[2,6,7,8],[],false,0⟩)] [JX,OT,LV,PJ] 0 kR (ks:=[.sc (.int .u64),.sc (.int .u64),.sc .str]) mn (λv=>[(false,[.c (.int .u64 v)])])
noncomputable def fY:=[Fr]
def bX:Sh:=⟨[zl 0 .conn,(1,false,[.fn 148 [0]]),zi 7,zi 8],[zx .tupl]⟩
noncomputable def fX:Fx:=⟨147,Tryz.f147,[(0,la ⟨[0,1,7,8],[],false,1⟩ ⟨[4],[],false,1⟩)],1⟩
noncomputable def eZ (v0:List Conn)(v3:Tupl)(v2:Int)(a:Unit):Tr (Stp (Unit) ((Int))):=
 .grd (dr v0 v2)<|
 .cal rP.c ((v0.getD v2.toNat (Ty.zero .conn)),v3,()) λc1=>
 .ite c1 (.ret (.out v2))<|
 .ret (.next ())
noncomputable def be:bX.V→tM bX Unit (Int):=λ(v0,v1,v2,v3,_)=>⟨v2,(),λv2 _=>(v0,v1,v2,v3,()),λv2 _=>(decide (v2<v1)),eZ v0 v3,up,1,(Int.toNat (v1-v2)),.inl,eR,oB .ret ⟨[zi 4],[zx .tupl]⟩ (λp=>(p,v3,())) (.exit 0) ⟨[zu 4],[zx .tupl]⟩ (λ_=>(v3,()))⟩
theorem ku:LS Tryz.prog fX [0] (jz 0 bX be):=eB st (aV fY) _ be [] trivial
theorem kr {v0:List Conn}{v1 v2:Int}{v3:Tupl}(h0:0≤v2)(h1:v1≤4611686018427387904)(h2:v1≤(v0.length:Int)):(be (v0,v1,v2,v3,())).U v1 (λ_ _=>True) (λp=>v2≤p∧p<v1):=
 kN h0 h1 trivial
noncomputable def d5:FT (List Conn×Tupl×Unit) (Int) (λx=>wS x.1) (λx v=> -1≤v∧v<x.1.length):= .mk (λ(x0,y1_0,_)=>
  .lp (be (x0,(x0.length:Int),0,y1_0,())).lp λw2=> .sum w2 (λp2a0=>
  .ret p2a0)<|
  λ_=>
  .ret (-1)) (pQ @kr)
noncomputable def lN:=cy st fX fY [(jz 0 bX be)] [.wr false [.c (.sl .conn)],.fn 148 [0]] [.box [.st .tupl]] (λx y=>(x.1.1,y.1.1,())) d5 rI (λx y v=>((y.1.1,()),())) Tryz.func147 (by kernel_rfl) ⟨ku,trivial⟩
noncomputable def lC:FT (Curs×Unit) (Int×Curs) (λx=>ae x.1) (λx v=>ae v.2∧0≤v.1∧v.1≤255):= .mk λ(y0,_)=>
  .val (IntKind.wrap .i64 ((IntKind.wrap .i64 (y0.h*6364136223846793005))+1442695040888963407)) λe1=>
  .val (bits .and .i64 (bits .xor .i64 (e1.fdiv 8589934592) (e1.fdiv 35184372088832)) 255) λe2=>
  .ite (decide (y0.i<(y0.b.length:Int))) (.grd (dr y0.b y0.i)<|
   .val (IntKind.wrap .i64 (e2+(IntKind.wrap .i64 (y0.b.getD y0.i.toNat 0)))) λe3=>
   .ret ((bits .and .i64 e3 255),(⟨y0.b,(IntKind.wrap .i64 (y0.i+1)),e1⟩:Curs)))<|
  .ret (e2,({y0 with h:=e1}:Curs))
noncomputable def rJ:=cy st ⟨201,Tryz.f201,[],1⟩ [] [] [.wr false [.ptr 0]] [.box [.st .curs]] (λx y=>(y.1.1,())) lC (λv=>[(false,[.c (.int .i64 v.1)])]) (λx y v=>((v.2,()),())) Tryz.func201 (by kernel_rfl) trivial

end
end Go.Proofs.YteiiknfadjnmgaaGreat
