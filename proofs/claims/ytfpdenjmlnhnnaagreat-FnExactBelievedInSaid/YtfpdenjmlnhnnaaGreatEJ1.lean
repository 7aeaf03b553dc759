/-
  Contracts of functions and plain laws (printed by a program): each theorem says what a function of the program returns; conditions are its hypotheses.
-/
import Derived.Test.YtfpdenjmlnhnnaaGreatBase
set_option linter.all false
set_option maxRecDepth 4000
namespace Go.Proofs.YtfpdenjmlnhnnaaGreat
open Go Go.RowKit
noncomputable section
@[reducible] def zp (t i:Nat):Nat×Bool×List Pt:=(t,false,[.ptr i 0])
@[reducible] def zi (t:Nat):Nat×Bool×List Pt:=(t,false,[.int .i64])
@[reducible] def zb (t:Nat):Nat×Bool×List Pt:=(t,false,[.bool])
@[reducible] def zu (t:Nat):Nat×Bool×List Pt:=(t,false,[.undef])
@[reducible] def zs (t:Nat):Nat×Bool×List Pt:=(t,false,[.str])
@[reducible] def zl (n:Nat)(t:Ty):Nat×Bool×List Pt:=(n,false,[.sl .arg t])
@[reducible] def zo (n k:Nat):Nat×Bool×List Pt:=(n,false,[.own k])
@[reducible] def zx (t:Ty):Osh:=.box [.st t []]
@[reducible] def zg (t:Ty):Osh:=.box [.st t [.sl .arg]]
@[reducible] def zk (t:Ty)(k:Nat):Osh:=.box [.st t [.own k]]
@[reducible] def zf :Osh:=.of false true
@[reducible] def za (t:Ty):Osh:=.arr t false true
noncomputable def bk:FF (Segm×Int×Unit) (Bool):=⟨λ(x0,x1,_)=>
  .ret ((bits .and .i64 x0.flags x1)==x1)⟩
noncomputable def zt:=fX st Tryz.func58 [] (ks:=[.st .segm,.sc (.int .i64)]) bk rB
noncomputable def bG:FF (Int×Int×Unit) (Int):=⟨λ(x0,x1,_)=>
  .ret (bits .and .i64 (IntKind.wrap .i64 (x0+x1)) 4294967295)⟩
noncomputable def fN:=fX st Tryz.func59 [] (ks:=[.sc (.int .i64),.sc (.int .i64)]) bG rI
noncomputable def a9:FF (Int×Int×Int×Unit) (Bool):=⟨λ(x0,x1,x2,_)=>
  .ite (decide (x1≤x0)) (.ret (decide (x0≤x2)))<|
  .ret false⟩
@[grind=] theorem aq (x0 x1 x2:Int):a9.f (x0,x1,x2,())=(decide (x1≤x0)&&decide (x0≤x2)):=by
 simp only[a9,FF.f,Tr.nice]
 cases decide (x1≤x0)<;>rfl
noncomputable def bB:=fX st Tryz.func81 [] (ks:=[.sc (.int .i64),.sc (.int .i64),.sc (.int .i64)]) a9 rB
noncomputable def af:FT (Int×Int×Unit) (Bool) (λ_=>True) (λx v=>(x.2.1=32→(v=true↔0≤x.1∧x.1≤4294967295))∧(x.2.1=16→(v=true↔0≤x.1∧x.1≤65535))∧(x.2.1=48→(v=true↔0≤x.1∧x.1≤281474976710655))∧(x.2.1=8→(v=true↔0≤x.1∧x.1≤255))∧(x.2.1=6→(v=true↔0≤x.1∧x.1≤63))):= .mk λ(x0,x1,_)=>
  .val (a9.f (x1,1,62,())) λc1=>
  .ite c1 (.grd (decide (0≤x1))<|
   .val (IntKind.wrap .i64 ((IntKind.wrap .i64 (1*2 ^ (min x1.toNat 64)))-1)) λe2=>
   .val (a9.f (x0,0,e2,())) λc3=>
   .ret c3)<|
  .ret false
@[grind=] theorem bO (x:Int):af.f (x,32,())=(decide (0≤x)&&decide (x≤4294967295)):=by
 have h:=af.c.h (x,32,()) trivial
 rw[Bool.eq_iff_iff]
 grind
@[grind=] theorem cY (x:Int):af.f (x,16,())=(decide (0≤x)&&decide (x≤65535)):=by
 have h:=af.c.h (x,16,()) trivial
 rw[Bool.eq_iff_iff]
 grind
@[grind=] theorem Sg (x:Int):af.f (x,48,())=(decide (0≤x)&&decide (x≤281474976710655)):=by
 have h:=af.c.h (x,48,()) trivial
 rw[Bool.eq_iff_iff]
 grind
@[grind=] theorem Ui (x:Int):af.f (x,8,())=(decide (0≤x)&&decide (x≤255)):=by
 have h:=af.c.h (x,8,()) trivial
 rw[Bool.eq_iff_iff]
 grind
@[grind=] theorem U0 (x:Int):af.f (x,6,())=(decide (0≤x)&&decide (x≤63)):=by
 have h:=af.c.h (x,6,()) trivial
 rw[Bool.eq_iff_iff]
 grind
noncomputable def bN:=aN st Tryz.func82 [bB] (ks:=[.sc (.int .i64),.sc (.int .i64)]) af rB
noncomputable def bM:FF (Unit) (Opti):=⟨λ_=>
  .ret (⟨0,(-1),false,false,0,0⟩:Opti)⟩
noncomputable def i1:=fX st Tryz.func92 [] (ks:=[]) bM (λv=>[(true,pD v)])
noncomputable def fS:FT (Int×Unit) (Int) (λ_=>True) (λ_ _=>True):= .mk λ(x0,_)=>
  .val (a9.f (x0,0,7,())) λc1=>
  .ite (!c1) (.ret 0)<|
  .grd ((decide (0≤x0))&&(decide (x0<8)))<|
  .ret ([64,256,536,1024,1300,1400,1440,1460].getD x0.toNat 0)
noncomputable def MF:=aN st Tryz.func93 [bB] (ks:=[.sc (.int .i64)]) fS rI
def wZ:Sh:=⟨[zi 0,zi 3],[]⟩
noncomputable def k9 (v0:Int)(v1:Int)(a:Unit):Tr (Stp (Unit) ((Int))):=
 .cal fS.c (v1,()) λc1=>
 .ite (decide (c1≤v0)) (.ret (.out v1))<|
 .ret (.next ())
noncomputable def dX:wZ.V→qo wZ Unit (Int):=λ(v0,v1,_)=>⟨v1,(),λv1 _=>(v0,v1,()),λv1 _=>(decide (0<v1)),k9 v0,dn,(-1),(Int.toNat (v1-0)),.inl,eR,oB .ret ⟨[zi 2],[]⟩ (λp=>(p,())) (.exit 0) ⟨[zu 2],[]⟩ (λ_=>())⟩
theorem GE {v0 v1:Int}(h0:v1≤9223372036854775807):(dX (v0,v1,())).S (λ_ _=>True) (λ_=>True):=by
 refine LC.okS trivial (λj a hj hv=>⟨⟨?_, ?_⟩, ?_⟩) (λa hv=> ?_)
 ·simp only[dX,decide_eq_true_eq]at*;omega
 ·simp only[dX]at*;exact dnw (by omega) (by omega)
 ·refine Tr.C trivial λ_ _ _=>Tr.Z (by kernel_rfl)
 ·simp only[dX,decide_eq_false_iff_not]at*;omega
noncomputable def iI:FT (Int×Unit) (Int) (λ_=>True) (λ_ _=>True):= .mk (λ(x0,_)=>
  .lp (dX (x0,7,())).lp λw2=> .sum w2 (λp2a0=>
  .ret p2a0)<|
  λ_=>
  .ret 0) (pE @GE)
noncomputable def PG:=dV st Tryz.func94 [(0,lb [0,3] [2])] [MF] 0 dX (ks:=[.sc (.int .i64)]) iI rI
noncomputable def y9:FF (Opti×Unit) (Int):=⟨λ(x0,_)=>
  .ite (x0.mss==0) (.ret 536)<|
  .ret x0.mss⟩
noncomputable def RN:=fX st Tryz.func95 [] (ks:=[.st .opti]) y9 rI
noncomputable def uC:FF (Int×Segm×Unit) (Tupl):=⟨λ(x0,x1,_)=>
  .ret (⟨x0,x1.from_,x1.to⟩:Tupl)⟩
noncomputable def FE:=fX st Tryz.func100 [] (ks:=[.sc (.int .i64),.st .segm]) uC (λv=>[(true,KE v)])
noncomputable def od:FF (Tupl×Unit) (Tupl):=⟨λ(x0,_)=>
  .ret x0⟩
noncomputable def sJ:=fX st Tryz.func104 [] (ks:=[.st .tupl]) od (λv=>[(true,KE v)])
noncomputable def l8:FF (Tupl×Tupl×Unit) (Bool):=⟨λ(x0,x1,_)=>
  .ite (x0.ip != x1.ip) (.ret false)<|
  .ite (x0.port != x1.port) (.ret false)<|
  .ite (x0.my != x1.my) (.ret false)<|
  .ret true⟩
noncomputable def oS:=fX st Tryz.func106 [] (ks:=[.st .tupl,.st .tupl]) l8 rB
noncomputable def uf:FF (Int×Segm×Unit) (Tupl):=⟨λ(x0,x1,_)=>
  .ret (⟨x0,x1.from_,x1.to⟩:Tupl)⟩
noncomputable def FP:=fX st Tryz.func116 [] (ks:=[.sc (.int .i64),.st .segm]) uf (λv=>[(true,KE v)])
noncomputable def gF:FF (Segm×Int×Unit) (Bool):=⟨λ(x0,x1,_)=>
  .ret ((bits .and .i64 x0.flags x1)==x1)⟩
noncomputable def z8:=fX st Tryz.func117 [] (ks:=[.st .segm,.sc (.int .i64)]) gF rB
def yq:Sh:=⟨[zp 2 0,zp 3 1,zi 5],[zg .mac,zg .mac]⟩
noncomputable def rl (v1 v2:Mac)(v0:Int)(a:Unit):Tr (Stp (Unit) ((Unit))):=
 .grd (cd v1.rows v0)<|
 .grd (cd v2.rows v0)<|
 .ite (!(((v1.rows.getD v0.toNat (Ty.zero .macRow)).input==(v2.rows.getD v0.toNat (Ty.zero .macRow)).input)&&(((v1.rows.getD v0.toNat (Ty.zero .macRow)).value==(v2.rows.getD v0.toNat (Ty.zero .macRow)).value)&&true))) (.ret (.out ()))<|
 .ret (.next ())
noncomputable def jW:yq.V→qo yq Unit (Unit):=λ(v0,v1,v2,_)=>⟨v0,(),λv0 _=>(v0,v1,v2,()),λv0 _=>(decide (v0<(v1.rows.length:Int))),rl v1 v2,up,1,(Int.toNat ((v1.rows.length:Int)-v0)),.inl,eR,oB .ret ⟨[zb 4],[]⟩ (λ_=>(false,())) (.exit 0) ⟨[zu 4],[]⟩ (λ_=>())⟩
theorem Io {v0:Int}{v1 v2:Mac}(h0:0≤v0)(h1:(v1.rows.length:Int)≤4611686018427387904)(h2:(v1.rows.length:Int)≤(v2.rows.length:Int)):(jW (v0,v1,v2,())).U (v1.rows.length:Int) (λ_ _=>True) (λ_=>True):=
 jV h0 h1 trivial
noncomputable def mc:FT (Mac×Mac×Unit) (Bool) (λx=>cE x.1∧cE x.2.1) (λ_ _=>True):= .mk (λ(x0,x1,_)=>
  .bnd (β:=Bool×Unit) (.ite (!(x0.use==x1.use)) (.ret (true,()))<|
   .ite (x0.k != x1.k) (.ret (true,()))<|
   .ite (x0.l != x1.l) (.ret (true,()))<|
   .ret (((x0.rows.length:Int) != (x1.rows.length:Int)),())) λ(u1a0,_)=>
  .ite u1a0 (.ret false)<|
  .lp (jW (0,x0,x1,())).lp λw2=> .sum w2 (λ_=>
  .ret false)<|
  λ_=>
  .ret true) (pE @Io)
noncomputable def FC:=dV st Tryz.func120 [(0,lb [2,3,5] [4]),(3000001,rA 0 33)] [] 0 jW (ks:=[.st .mac,.st .mac]) mc rB
noncomputable def ka:FT (Mac×Unit) (Mac) (λx=>cE x.1) (λx v=>cE v∧v=x.1):=⟨λ(x0,_)=>
  .grd (Nat.ble ((2*(0+x0.rows.length)+1024)*24) aU)<|
  .ret ({x0 with rows:=([]++x0.rows)}:Mac),
 λ(x0,_) hp=>by
  refine Tr.Gb ?_ λg0=>Tr.R ?_
  all_goals ((first|grind|(refine⟨by grind, ?_⟩;first|(simp only[List.nil_append];done)|(subst_vars;rfl)|simp_all)))⟩
noncomputable def yx:=aN st Tryz.func121 [] (ks:=[.st .mac]) ka (λv=>[(true,Rp (.o true) v)])
noncomputable def qE:FT (Link×Unit) (Link) (λx=>dY x.1) (λx v=>dY v):= .mk λ(x0,_)=>
  .grd (Nat.ble ((2*(0+x0.cache.length)+1024)*24) aU)<|
  .ret ({x0 with cache:=([]++x0.cache)}:Link)
noncomputable def FR:=aN st Tryz.func125 [] (ks:=[.st .link]) qE (λv=>[(true,EY (.o true) v)])
noncomputable def bS:FF (Int×Int×Int×Unit) (Bool):=⟨λ(x0,x1,x2,_)=>
  .ite (decide (x1≤x0)) (.ret (decide (x0≤x2)))<|
  .ret false⟩
@[grind=] theorem bA (x0 x1 x2:Int):bS.f (x0,x1,x2,())=(decide (x1≤x0)&&decide (x0≤x2)):=by
 simp only[bS,FF.f,Tr.nice]
 cases decide (x1≤x0)<;>rfl
noncomputable def ci:=fX st Tryz.func127 [] (ks:=[.sc (.int .i64),.sc (.int .i64),.sc (.int .i64)]) bS rB
def FI:Sh:=⟨[zl 0 .entr,zo 3 0,zi 4],[za .entr]⟩
noncomputable def FJ (v0:List Entr)(v1:Int)(a:List Entr):Tr (Stp (List Entr) (Empty)):=
 .grd (cd v0 v1)<|
 .ite (decide ((v0.getD v1.toNat (Ty.zero .entr)).age<9)) (.grd (xr a 1 24)<|
  .val (a++[({(v0.getD v1.toNat (Ty.zero .entr))with age:=(IntKind.wrap .i64 ((v0.getD v1.toNat (Ty.zero .entr)).age+1))}:Entr)]) λl1=>
  .ret (.next l1))<|
 .ret (.next a)
noncomputable def pc:FI.V→tF FI (List Entr):=λ(v0,v1,v2,_)=>⟨v1,v2,λv1 a=>(v0,v1,a,()),λv1 _=>(decide (v1<(v0.length:Int))),FJ v0,up,1,(Int.toNat ((v0.length:Int)-v1)),Empty.elim,Prod.mk,oN (.exit 0) ⟨[zu 2,zo 3 0],[za .entr]⟩ (λx=>(x.2,()))⟩
theorem Qo {v0 v2:List Entr}{v1:Int}(h0:0≤v1)(h1:(v0.length:Int)≤4611686018427387904)(h2:sS v0)(h3:(v2.length:Int)≤v1):(pc (v0,v1,v2,())).U (v0.length:Int) (λv1 a=>(a.length:Int)≤v1) (λ_=>True):=
 jV (a:=v2) h0 h1 h3
noncomputable def Nj:FT (List Entr×Unit) (List Entr) (λx=>sS x.1) (λx v=>sS v∧v.length≤x.1.length):=⟨λ(x0,_)=>
  .lp (pc (x0,0,[],())).lp λ(_,a2_0)=>
  .ret a2_0,
 λ(x0,_) hp=>by
  refine Tr.L (Qo ?_ ?_ ?_ ?_) (λa2_0 _=>Tr.R ?_) (λp=>Empty.elim p)
  all_goals ((try simp only[pc,LC.lp,LC.ct,Ct.lp]at*)<;>grind)⟩
noncomputable def Zg:=dV st Tryz.func135 [(0,lb [0,3,4] [2,3])] [] 0 pc (ks:=[.sc (.sl .entr)]) Nj (λv=>[(false,[sc (.o true) .entr v])])
def wR:Sh:=⟨[zl 0 .tupl,zp 3 0,zi 5],[zx .tupl]⟩
noncomputable def xc (v0:List Tupl)(v2:Tupl)(v1:Int)(a:Unit):Tr (Stp (Unit) ((Unit))):=
 .grd (cd v0 v1)<|
 .ite (((v0.getD v1.toNat (Ty.zero .tupl)).ip==v2.ip)&&(((v0.getD v1.toNat (Ty.zero .tupl)).port==v2.port)&&(((v0.getD v1.toNat (Ty.zero .tupl)).my==v2.my)&&true))) (.ret (.out ()))<|
 .ret (.next ())
noncomputable def ld:wR.V→qo wR Unit (Unit):=λ(v0,v1,v2,_)=>⟨v1,(),λv1 _=>(v0,v1,v2,()),λv1 _=>(decide (v1<(v0.length:Int))),xc v0 v2,up,1,(Int.toNat ((v0.length:Int)-v1)),.inl,eR,oB .ret ⟨[zb 4],[]⟩ (λ_=>(true,())) (.exit 0) ⟨[zu 4],[]⟩ (λ_=>())⟩
theorem Gy {v0:List Tupl}{v1:Int}{v2:Tupl}(h0:0≤v1)(h1:(v0.length:Int)≤4611686018427387904):(ld (v0,v1,v2,())).U (v0.length:Int) (λ_ _=>True) (λ_=>True):=
 jV h0 h1 trivial
noncomputable def nU:FT (List Tupl×Tupl×Unit) (Bool) (λx=>wS x.1) (λ_ _=>True):= .mk (λ(x0,x1,_)=>
  .lp (ld (x0,0,x1,())).lp λw1=> .sum w1 (λ_=>
  .ret true)<|
  λ_=>
  .ret false) (pE @Gy)
noncomputable def vR:=dV st Tryz.func138 [(0,lb [0,3,5] [4])] [] 0 ld (ks:=[.sc (.sl .tupl),.st .tupl]) nU rB
def wW:Sh:=⟨[zp 2 0,zp 3 1,zi 5],[.box [.st .tabl [.sl .arg,.sl .arg]],zx .tupl]⟩
noncomputable def wL (v1:Tabl)(v2:Tupl)(v0:Int)(a:Unit):Tr (Stp (Unit) ((Int))):=
 .grd (cd v1.conns v0)<|
 .ite (((v1.conns.getD v0.toNat (Ty.zero .conn)).tuple.ip==v2.ip)&&(((v1.conns.getD v0.toNat (Ty.zero .conn)).tuple.port==v2.port)&&(((v1.conns.getD v0.toNat (Ty.zero .conn)).tuple.my==v2.my)&&true))) (.ret (.out v0))<|
 .ret (.next ())
noncomputable def k8:wW.V→qo wW Unit (Int):=λ(v0,v1,v2,_)=>⟨v0,(),λv0 _=>(v0,v1,v2,()),λv0 _=>(decide (v0<(v1.conns.length:Int))),wL v1 v2,up,1,(Int.toNat ((v1.conns.length:Int)-v0)),.inl,eR,oB .ret ⟨[zi 4],[]⟩ (λp=>(p,())) (.exit 0) ⟨[zu 4],[]⟩ (λ_=>())⟩
theorem GK {v0:Int}{v1:Tabl}{v2:Tupl}(h0:0≤v0)(h1:(v1.conns.length:Int)≤4611686018427387904):(k8 (v0,v1,v2,())).U (v1.conns.length:Int) (λ_ _=>True) (λp=>v0≤p∧p<(v1.conns.length:Int)):=
 jV h0 h1 trivial
noncomputable def d6:FT (Tabl×Tupl×Unit) (Int) (λx=>wS x.1.conns) (λx v=> -1≤v∧v<x.1.conns.length):= .mk (λ(x0,x1,_)=>
  .lp (k8 (0,x0,x1,())).lp λw1=> .sum w1 (λp1a0=>
  .ret p1a0)<|
  λ_=>
  .ret (-1)) (pE @GK)
noncomputable def gc:=dV st Tryz.func140 [(0,lb [2,3,5] [4])] [] 0 k8 (ks:=[.st .tabl,.st .tupl]) d6 rI
noncomputable def az:FT (Tupl×Unit) (Bool) (λ_=>True) (λ_ _=>True):= .mk λ(x0,_)=>
  .cal af.c (x0.ip,32,()) λc1=>
  .ite c1 (.cal af.c (x0.port,16,()) λc2=>
   .ite c2 (.cal af.c (x0.my,16,()) λc3=>
    .ret c3)<|
   .ret false)<|
  .ret false
noncomputable def ml:=aN st Tryz.func163 [bN] (ks:=[.st .tupl]) az rB
def E0:Sh:=⟨[zo 3 0,zl 7 .entr,zi 8,zi 9],[za .entr]⟩
noncomputable def E8 (v0:List Entr)(v2:Int)(a:List Entr):Tr (Stp (List Entr) (Empty)):=
 .grd (cd v0 v2)<|
 .ite (decide ((IntKind.wrap .i64 ((v0.getD v2.toNat (Ty.zero .entr)).age+1))≤9)) (.grd (xr a 1 24)<|
  .val (a++[({(v0.getD v2.toNat (Ty.zero .entr))with age:=(IntKind.wrap .i64 ((v0.getD v2.toNat (Ty.zero .entr)).age+1))}:Entr)]) λl1=>
  .ret (.next l1))<|
 .ret (.next a)
noncomputable def oU:E0.V→tF E0 (List Entr):=λ(v0,v1,v2,v3,_)=>⟨v2,v3,λv2 a=>(v0,v1,v2,a,()),λv2 _=>(decide (v2<v1)),E8 v0,up,1,(Int.toNat (v1-v2)),Empty.elim,Prod.mk,oN (.exit 0) ⟨[zu 2,zo 3 0],[za .entr]⟩ (λx=>(x.2,()))⟩
theorem Qj {v0 v3:List Entr}{v1 v2:Int}(h0:0≤v2)(h1:v1≤4611686018427387904)(h2:sS v0)(h3:v1≤4294967296)(h4:v1≤(v0.length:Int))(h5:(v3.length:Int)≤v2):(oU (v0,v1,v2,v3,())).U v1 (λv2 a=>(a.length:Int)≤v2) (λ_=>True):=
 jV (a:=v3) h0 h1 h5
noncomputable def Pq:FT (List Entr×Unit) (List Entr) (λx=>sS x.1) (λx v=>sS v):=⟨λ(x0,_)=>
  .lp (oU (x0,(x0.length:Int),0,[],())).lp λ(_,a2_0)=>
  .ret a2_0,
 λ(x0,_) hp=>by
  refine Tr.L (Qj ?_ ?_ ?_ ?_ ?_ ?_) (λa2_0 _=>Tr.R ?_) (λp=>Empty.elim p)
  all_goals ((try simp only[oU,LC.lp,LC.ct,Ct.lp]at*)<;>grind)⟩
noncomputable def ZA:=dV st Tryz.func165 [(0,lb [3,7,8,9] [2,3])] [] 0 oU (ks:=[.sc (.sl .entr)]) Pq (λv=>[(false,[sc (.o true) .entr v])])
def qK:Sh:=⟨[zl 0 .tupl,zp 3 0,zi 7,zi 8],[zx .tupl]⟩
noncomputable def rb (v0:List Tupl)(v3:Tupl)(v2:Int)(a:Unit):Tr (Stp (Unit) ((Int))):=
 .grd (cd v0 v2)<|
 .ite ((v3.ip==(v0.getD v2.toNat (Ty.zero .tupl)).ip)&&((v3.port==(v0.getD v2.toNat (Ty.zero .tupl)).port)&&((v3.my==(v0.getD v2.toNat (Ty.zero .tupl)).my)&&true))) (.ret (.out v2))<|
 .ret (.next ())
noncomputable def iB:qK.V→qo qK Unit (Int):=λ(v0,v1,v2,v3,_)=>⟨v2,(),λv2 _=>(v0,v1,v2,v3,()),λv2 _=>(decide (v2<v1)),rb v0 v3,up,1,(Int.toNat (v1-v2)),.inl,eR,oB .ret ⟨[zi 4],[]⟩ (λp=>(p,())) (.exit 0) ⟨[zu 4],[]⟩ (λ_=>())⟩
theorem BF {v0:List Tupl}{v1 v2:Int}{v3:Tupl}(h0:0≤v2)(h1:v1≤4611686018427387904)(h2:v1≤(v0.length:Int)):(iB (v0,v1,v2,v3,())).U v1 (λ_ _=>True) (λp=>v2≤p∧p<v1):=
 jV h0 h1 trivial
noncomputable def kX:FT (List Tupl×Tupl×Unit) (Int) (λx=>wS x.1) (λx v=> -1≤v∧v<x.1.length):= .mk (λ(x0,x1,_)=>
  .lp (iB (x0,(x0.length:Int),0,x1,())).lp λw1=> .sum w1 (λp1a0=>
  .ret p1a0)<|
  λ_=>
  .ret (-1)) (pE @BF)
noncomputable def xb:=dV st Tryz.func175 [(0,lb [0,3,7,8] [4])] [] 0 iB (ks:=[.sc (.sl .tupl),.st .tupl]) kX rI
noncomputable def gt:FT (Int×Unit) (Int×Int×Int) (λ_=>True) (λ_ _=>True):= .mk λ(x0,_)=>
  .cal af.c (x0,32,()) λc1=>
  .ite (!c1) (.ret ((-1),(-1),(-1)))<|
  .ret ((IntKind.wrap .i64 (x0.tdiv 134217728)),((IntKind.wrap .i64 (x0.tdiv 16777216)).tmod 8),(x0.tmod 16777216))
noncomputable def F5:=aN st Tryz.func187 [bN] (ks:=[.sc (.int .i64)]) gt (λv=>[(false,[.c (.int .i64 v.1)]),(false,[.c (.int .i64 v.2.1)]),(false,[.c (.int .i64 v.2.2)])])
noncomputable def LY:=[bN,bB]
noncomputable def LZ:Fx:=⟨193,Tryz.f193,[(3000001,rA 0 15)],0⟩
noncomputable def aH:FT (Opti×Unit) (Bool) (λ_=>True) (λ_ _=>True):= .mk λ(x0,_)=>
  .bnd (β:=Bool×Unit) (.ite (!x0.stamp) (.ite (x0.val != 0) (.ret (true,()))<|
    .ret ((x0.echo != 0),()))<|
   .ret (false,())) λ(u1a0,_)=>
  .ite u1a0 (.ret false)<|
  .cal af.c (x0.mss,16,()) λc2=>
  .ite c2 (.val (a9.f (x0.scale,(-1),14,())) λc3=>
   .ite c3 (.cal af.c (x0.val,32,()) λc4=>
    .ite c4 (.cal af.c (x0.echo,32,()) λc5=>
     .ret c5)<|
    .ret false)<|
   .ret false)<|
  .ret false
noncomputable def kW:=bK st LZ LY [] (ks:=[.st .opti]) aH rB Tryz.func193 trivial
noncomputable def eq:FT (List Half×Unit) (List Half) (λx=>sS x.1) (λx v=>v=x.1):=⟨λx=> .ret x.1,λ_ _=>Tr.R rfl⟩
theorem JI (x:List Half×Unit)(hp:sS x.1):II Tryz.prog 195 (Hr [.sc (.sl .half)] x) ((λv=>[rv (.sc (.sl .half)) [.o true] v]) (eq.f x)):=by
 refine II.byNil (t:= .half) (xs:=x.1) (λh=> ?_) ?_
 ·obtain⟨x,_⟩:=x;subst h
  exact fn0 st Tryz.func195 (by kernel_rfl) (by kernel_rfl)
 ·exact fn0 st Tryz.func195 (by kernel_rfl) (Eq.trans (b:=bif Nat.ble ((2*(0+x.1.length)+1024)*96) aU then some ((λv=>[rv (.sc (.sl .half)) [.o true] v]) x.1)else none) (by kernel_rfl) (by rw[show Nat.ble ((2*(0+x.1.length)+1024)*96) aU=true by simp only[Nat.ble_eq,aU];simp only[sS]at hp;omega];rfl))
noncomputable def rD:Ent1 Tryz.prog:=Zr 195 (ks:=[.sc (.sl .half)]) eq.c (λv=>[rv (.sc (.sl .half)) [.o true] v]) JI
noncomputable def ai:FT (Segm×Unit) (Bool) (λ_=>True) (λx v=>(v=true→x.1.body.length≤1420)):= .mk λ(x0,_)=>
  .cal af.c (x0.from_,16,()) λc1=>
  .ite c1 (.cal af.c (x0.to,16,()) λc2=>
   .ite c2 (.cal af.c (x0.window,16,()) λc3=>
    .ite c3 (.cal af.c (x0.seq,32,()) λc4=>
     .ite c4 (.cal af.c (x0.ack,32,()) λc5=>
      .ite c5 (.cal af.c (x0.flags,6,()) λc6=>
       .ite c6 (.cal aH.c (x0.opts,()) λc7=>
        .ite c7 (.ret (decide ((x0.body.length:Int)≤1420)))<|
        .ret false)<|
       .ret false)<|
      .ret false)<|
     .ret false)<|
    .ret false)<|
   .ret false)<|
  .ret false
noncomputable def jb:=aN st Tryz.func196 [bN,kW] (ks:=[.st .segm]) ai rB
noncomputable def lO:FX (List Entr×Int×Unit) (Int) (λ_=>True) (cJ [.sc (.sl .entr),.sc (.int .i64)]):=⟨λ(x0,x1,_)=>
  .ite (decide ((IntKind.wrap .i64 (x1-(x0.length:Int)))<0)) (.ret (-1))<|
  .ret (IntKind.wrap .i64 (x1-(x0.length:Int))),
 λ(x0,x1,_) hp hf=>by
  simp only[cJ,Pk.fact,jt,hY,Fl.fact,Ty.fl,Ty.toH]at hf
  refine Tr.F (by kernel_rfl) trivial⟩
theorem U2 (xs:List Entr)(k:Int)(h0:0≤k)(h1:k≤1048576)(hl:xs.length≤140737488355328)(h:0≤lO.f (xs,k,())):lO.f (xs,k,())≤k∧xs.length≤1048576:=by
 have w:IntKind.wrap .i64 (k-(xs.length:Int))=k-(xs.length:Int):=aj (by omega) (by omega)
 simp only[FX.f,lO,Tr.nice,w]at h⊢
 by_cases c:k-(xs.length:Int)<0
 ·rw[decide_eq_true c,cond_true]at h;omega
 ·rw[decide_eq_false c,cond_false];exact⟨by omega,by omega⟩
noncomputable def Pz:=rF st Tryz.func204 [] (ks:=[.sc (.sl .entr),.sc (.int .i64)]) lO rI
noncomputable def mi:FX (List Half×Int×Unit) (Int) (λ_=>True) (cJ [.sc (.sl .half),.sc (.int .i64)]):=⟨λ(x0,x1,_)=>
  .ite (decide ((IntKind.wrap .i64 (x1-(x0.length:Int)))<0)) (.ret (-1))<|
  .ret (IntKind.wrap .i64 (x1-(x0.length:Int))),
 λ(x0,x1,_) hp hf=>by
  simp only[cJ,Pk.fact,jt,hY,Fl.fact,Ty.fl,Ty.toH]at hf
  refine Tr.F (by kernel_rfl) trivial⟩
theorem Yn (xs:List Half)(k:Int)(h0:0≤k)(h1:k≤1048576)(hl:xs.length≤140737488355328)(h:0≤mi.f (xs,k,())):mi.f (xs,k,())≤k∧xs.length≤1048576:=by
 have w:IntKind.wrap .i64 (k-(xs.length:Int))=k-(xs.length:Int):=aj (by omega) (by omega)
 simp only[FX.f,mi,Tr.nice,w]at h⊢
 by_cases c:k-(xs.length:Int)<0
 ·rw[decide_eq_true c,cond_true]at h;omega
 ·rw[decide_eq_false c,cond_false];exact⟨by omega,by omega⟩
noncomputable def RL:=rF st Tryz.func206 [] (ks:=[.sc (.sl .half),.sc (.int .i64)]) mi rI
noncomputable def cD:FF (Int×Unit) (Int):=⟨λ(x0,_)=>
  .ite (decide ((x0.tmod 4294967296)<0)) (.ret (IntKind.wrap .i64 ((x0.tmod 4294967296)+4294967296)))<|
  .ret (x0.tmod 4294967296)⟩
@[grind=] theorem acG (x0:Int):cD.f (x0,())=(x0%4294967296):=by
 simp only[cD,FF.f,Tr.nice]
 rcases Int.lt_or_le x0 0 with h|h
 ·rw[(gZ 4294967296).2 h,dj]
  cases hd:decide (-(-x0%4294967296)<0)with
  |true=>simp only[decide_eq_true_eq]at hd;simp only[cond_true];omega
  |false=>simp only[decide_eq_false_iff_not]at hd;simp only[cond_false];omega
 ·rw[(gZ 4294967296).1 h,dj]
  cases hd:decide (x0%4294967296<0)with
  |true=>simp only[decide_eq_true_eq]at hd;omega
  |false=>rfl
noncomputable def ly:=fX st Tryz.func211 [] (ks:=[.sc (.int .i64)]) cD rI
noncomputable def vz:FF (Limi×Unit) (Limi):=⟨λ(x0,_)=>
  .ret x0⟩
noncomputable def PF:=fX st Tryz.func214 [] (ks:=[.st .limi]) vz (λv=>[(true,ac4 v)])
noncomputable def vB:FF (Limi×Limi×Unit) (Bool):=⟨λ(x0,x1,_)=>
  .ite (x0.halves != x1.halves) (.ret false)<|
  .ite (x0.waiting != x1.waiting) (.ret false)<|
  .ite (x0.conns != x1.conns) (.ret false)<|
  .ite (x0.chal != x1.chal) (.ret false)<|
  .ret true⟩
noncomputable def N2:=fX st Tryz.func220 [] (ks:=[.st .limi,.st .limi]) vB rB
noncomputable def gq:FT (List Entr×Unit) (List Entr) (λx=>sS x.1) (λx v=>v=x.1):=⟨λx=> .ret x.1,λ_ _=>Tr.R rfl⟩
theorem GM (x:List Entr×Unit)(hp:sS x.1):II Tryz.prog 231 (Hr [.sc (.sl .entr)] x) ((λv=>[rv (.sc (.sl .entr)) [.o true] v]) (gq.f x)):=by
 refine II.byNil (t:= .entr) (xs:=x.1) (λh=> ?_) ?_
 ·obtain⟨x,_⟩:=x;subst h
  exact fn0 st Tryz.func231 (by kernel_rfl) (by kernel_rfl)
 ·exact fn0 st Tryz.func231 (by kernel_rfl) (Eq.trans (b:=bif Nat.ble ((2*(0+x.1.length)+1024)*24) aU then some ((λv=>[rv (.sc (.sl .entr)) [.o true] v]) x.1)else none) (by kernel_rfl) (by rw[show Nat.ble ((2*(0+x.1.length)+1024)*24) aU=true by simp only[Nat.ble_eq,aU];simp only[sS]at hp;omega];rfl))
noncomputable def wM:Ent1 Tryz.prog:=Zr 231 (ks:=[.sc (.sl .entr)]) gq.c (λv=>[rv (.sc (.sl .entr)) [.o true] v]) GM
noncomputable def uw:FT (Keys×Unit) (Keys) (λx=>cK x.1) (λx v=>cK v∧v=x.1):=⟨λ(x0,_)=>
  .cal ka.c (x0.now,()) λc1=>
  .cal ka.c (x0.before,()) λc2=>
  .ret (⟨x0.epoch,c1,c2,x0.two⟩:Keys),
 λ(x0,_) hp=>by
  refine Tr.C ?_ λc1 hc1 qc1=>Tr.C ?_ λc2 hc2 qc2=>Tr.R ?_
  all_goals ((first|grind|(refine⟨by grind, ?_⟩;first|(simp only[List.nil_append];done)|(subst_vars;rfl)|simp_all)))⟩
noncomputable def FL:=aN st Tryz.func234 [yx] (ks:=[.st .keys]) uw (λv=>[(true,IP (.o true) (.o true) v)])
noncomputable def HB:FF (Fram×Int×Unit) (Bool):=⟨λ(x0,x1,_)=>
  .ite (x0.dst==x1) (.ret true)<|
  .ret (x0.dst==281474976710655)⟩
noncomputable def XV:=fX st Tryz.func235 [] (ks:=[.st .fram,.sc (.int .i64)]) HB rB
def yJ:Sh:=⟨[zs 0,zi 1,zi 2,zi 8,zi 9],[]⟩
noncomputable def rV (v0:ae)(v1:Int)(v4:Int)(a:Int):Tr (Stp (Int) (Empty)):=
 .grd (cd v0 (IntKind.wrap .i64 (v1+v4)))<|
 .val (IntKind.wrap .i64 ((IntKind.wrap .i64 (256*a))+(IntKind.wrap .i64 (ah v0 ((IntKind.wrap .i64 (v1+v4)).toNat))))) λe4=>
 .ret (.next e4)
noncomputable def nb:yJ.V→tF yJ Int:=λ(v0,v1,v2,v3,v4,_)=>⟨v4,v3,λv4 a=>(v0,v1,v2,a,v4,()),λv4 _=>(decide (v4<v2)),rV v0 v1,up,1,(Int.toNat (v2-v4)),Empty.elim,Prod.mk,oN (.exit 0) ⟨[zu 6,zu 7,zi 8],[]⟩ (λx=>(x.2,()))⟩
theorem I4 {v0:ae}{v1 v2 v3 v4:Int}(h0:0≤v4)(h1:v2≤4611686018427387904)(h2:0≤v1)(h3:v1+v2≤(v0.length:Int))(h4:sS v0):(nb (v0,v1,v2,v3,v4,())).U v2 (λ_ _=>True) (λ_=>True):=
 jV (a:=v3) h0 h1 trivial
noncomputable def bJ:FT (ae×Int×Int×Unit) (Int×Bool) (λx=>sS x.1) (λ_ _=>True):= .mk (λ(x0,x1,x2,_)=>
  .bnd (β:=Bool×Unit) (.val (bS.f (x2,1,6,())) λc1=>
   .ite (!c1) (.ret (true,()))<|
   .val (bS.f (x1,0,(IntKind.wrap .i64 ((x0.length:Int)-x2)),())) λc2=>
   .ret ((!c2),())) λ(u3a0,_)=>
  .ite u3a0 (.ret (0,false))<|
  .lp (nb (x0,x1,x2,0,0,())).lp λ(_,a5_0)=>
  .ret (a5_0,true)) (pE @I4)
noncomputable def o7:=dV st Tryz.func240 [(0,lb [0,1,2,8,9] [6,7,8]),(3000001,rA 0 21)] [ci] 0 nb (ks:=[.sc .str,.sc (.int .i64),.sc (.int .i64)]) bJ (λv=>[(false,[.c (.int .i64 v.1)]),(false,[.c (.bool v.2)])])
def ww:Sh:=⟨[zl 0 .half,zp 3 0,zi 5],[zx .tupl]⟩
noncomputable def wC (v0:List Half)(v2:Tupl)(v1:Int)(a:Unit):Tr (Stp (Unit) ((Int))):=
 .grd (cd v0 v1)<|
 .ite (((v0.getD v1.toNat (Ty.zero .half)).tuple.ip==v2.ip)&&(((v0.getD v1.toNat (Ty.zero .half)).tuple.port==v2.port)&&(((v0.getD v1.toNat (Ty.zero .half)).tuple.my==v2.my)&&true))) (.ret (.out v1))<|
 .ret (.next ())
noncomputable def ll:ww.V→qo ww Unit (Int):=λ(v0,v1,v2,_)=>⟨v1,(),λv1 _=>(v0,v1,v2,()),λv1 _=>(decide (v1<(v0.length:Int))),wC v0 v2,up,1,(Int.toNat ((v0.length:Int)-v1)),.inl,eR,oB .ret ⟨[zi 4],[]⟩ (λp=>(p,())) (.exit 0) ⟨[zu 4],[]⟩ (λ_=>())⟩
theorem Gi {v0:List Half}{v1:Int}{v2:Tupl}(h0:0≤v1)(h1:(v0.length:Int)≤4611686018427387904):(ll (v0,v1,v2,())).U (v0.length:Int) (λ_ _=>True) (λp=>v1≤p∧p<(v0.length:Int)):=
 jV h0 h1 trivial
noncomputable def iP:FT (List Half×Tupl×Unit) (Int) (λx=>wS x.1) (λx v=> -1≤v∧v<x.1.length):= .mk (λ(x0,x1,_)=>
  .lp (ll (x0,0,x1,())).lp λw1=> .sum w1 (λp1a0=>
  .ret p1a0)<|
  λ_=>
  .ret (-1)) (pE @Gi)
noncomputable def ne:=dV st Tryz.func244 [(0,lb [0,3,5] [4])] [] 0 ll (ks:=[.sc (.sl .half),.st .tupl]) iP rI
noncomputable def rQ:FT (List Half×Tupl×Unit) (List Half) (λx=>sS x.1) (λx v=>sS v):= .mk λ(x0,x1,_)=>
  .cal iP.c (x0,x1,()) λc1=>
  .ite (decide (c1<0)) (.grd (Nat.ble ((2*(0+x0.length)+1024)*96) aU)<|
   .ret ([]++x0))<|
  .grd ((decide (0≤c1))&&(decide (c1≤(x0.length:Int))))<|
  .grd (Nat.ble ((2*(0+((x0.take c1.toNat).drop 0).length)+1024)*96) aU)<|
  .grd (KV x0 (IntKind.wrap .i64 (c1+1)) (x0.length:Int))<|
  .grd (Nat.ble ((2*(([]++((x0.take c1.toNat).drop 0)).length+((x0.take ((x0.length:Int).toNat)).drop ((IntKind.wrap .i64 (c1+1)).toNat)).length)+1024)*96) aU)<|
  .val (([]++((x0.take c1.toNat).drop 0))++((x0.take ((x0.length:Int).toNat)).drop ((IntKind.wrap .i64 (c1+1)).toNat))) λl2=>
  .ret l2
noncomputable def CU:=aN st Tryz.func245 [ne] (ks:=[.sc (.sl .half),.st .tupl]) rQ (λv=>[(false,[sc (.o true) .half v])])
noncomputable def fp:FF (Int×Int×Unit) (Int):=⟨λ(x0,x1,_)=>
  .ite (decide (x1<x0)) (.ret x0)<|
  .ret x1⟩
@[grind=] theorem lP (x0 x1:Int):fp.f (x0,x1,())=(if x1<x0 then x0 else x1):=by
 simp only[fp,FF.f,Tr.nice]
 by_cases h:x1<x0<;>simp[h]
noncomputable def lV:=fX st Tryz.func255 [] (ks:=[.sc (.int .i64),.sc (.int .i64)]) fp rI
def sj:Sh:=⟨[zl 0 .half,zo 3 0,zi 4],[za .half]⟩
noncomputable def sQ (v0:List Half)(v1:Int)(a:List Half):Tr (Stp (List Half) (Empty)):=
 .grd (cd v0 v1)<|
 .ite (decide ((v0.getD v1.toNat (Ty.zero .half)).age<6)) (.grd (xr a 1 96)<|
  .val (a++[({(v0.getD v1.toNat (Ty.zero .half))with age:=(IntKind.wrap .i64 ((v0.getD v1.toNat (Ty.zero .half)).age+1))}:Half)]) λl1=>
  .ret (.next l1))<|
 .ret (.next a)
noncomputable def gi:sj.V→tF sj (List Half):=λ(v0,v1,v2,_)=>⟨v1,v2,λv1 a=>(v0,v1,a,()),λv1 _=>(decide (v1<(v0.length:Int))),sQ v0,up,1,(Int.toNat ((v0.length:Int)-v1)),Empty.elim,Prod.mk,oN (.exit 0) ⟨[zu 2,zo 3 0],[za .half]⟩ (λx=>(x.2,()))⟩
theorem C6 {v0 v2:List Half}{v1:Int}(h0:0≤v1)(h1:(v0.length:Int)≤4611686018427387904)(h2:sS v0)(h3:(v2.length:Int)≤v1):(gi (v0,v1,v2,())).U (v0.length:Int) (λv1 a=>(a.length:Int)≤v1) (λ_=>True):=
 jV (a:=v2) h0 h1 h3
noncomputable def qr:FT (List Half×Unit) (List Half) (λx=>sS x.1) (λx v=>sS v):=⟨λ(x0,_)=>
  .lp (gi (x0,0,[],())).lp λ(_,a2_0)=>
  .ret a2_0,
 λ(x0,_) hp=>by
  refine Tr.L (C6 ?_ ?_ ?_ ?_) (λa2_0 _=>Tr.R ?_) (λp=>Empty.elim p)
  all_goals ((try simp only[gi,LC.lp,LC.ct,Ct.lp]at*)<;>grind)⟩
noncomputable def Ii:=dV st Tryz.func256 [(0,lb [0,3,4] [2,3])] [] 0 gi (ks:=[.sc (.sl .half)]) qr (λv=>[(false,[sc (.o true) .half v])])
noncomputable def dU:FT (Recv×Unit) (Recv) (λx=>aw x.1) (λx v=>aw v∧v=x.1):=⟨λ(x0,_)=>
  .grd (Nat.ble ((2*(0+x0.held.length)+1024)*24) aU)<|
  .ret ({x0 with held:=([]++x0.held)}:Recv),
 λ(x0,_) hp=>by
  refine Tr.Gb ?_ λg0=>Tr.R ?_
  all_goals ((first|grind|(refine⟨by grind, ?_⟩;first|(simp only[List.nil_append];done)|(subst_vars;rfl)|simp_all)))⟩
noncomputable def yk:=aN st Tryz.func257 [] (ks:=[.st .recv]) dU (λv=>[(true,vo (.o true) v)])
noncomputable def gz:FT (Recv×Unit) (Int) (λx=>aw x.1) (λx v=>0≤v∧v≤32∧(x.1.data.length≤32→v=YF x.1)):= .mk λ(x0,_)=>
  .ite x0.done (.ret 0)<|
  .val (fp.f (0,(IntKind.wrap .i64 (32-(x0.data.length:Int))),())) λc1=>
  .ret c1
noncomputable def kE:=aN st Tryz.func261 [lV] (ks:=[.st .recv]) gz rI
noncomputable def f7:FT (Fram×Unit) (Bool) (λ_=>True) (λx v=>(v=true→x.1.body.length≤1586)):= .mk λ(x0,_)=>
  .cal af.c (x0.dst,48,()) λc1=>
  .ite c1 (.cal af.c (x0.src,48,()) λc2=>
   .ite c2 (.val (a9.f (x0.type,1536,65535,())) λc3=>
    .ite c3 (.ret (decide ((x0.body.length:Int)≤1586)))<|
    .ret false)<|
   .ret false)<|
  .ret false
noncomputable def FN:=aN st Tryz.func263 [bN,bB] (ks:=[.st .fram]) f7 rB
def Ci:Sh:=⟨[zl 0 .entr,zi 1,zi 5],[]⟩
noncomputable def CE (v0:List Entr)(v1:Int)(v2:Int)(a:Unit):Tr (Stp (Unit) ((Int))):=
 .grd (cd v0 v2)<|
 .ite ((v0.getD v2.toNat (Ty.zero .entr)).ip==v1) (.ret (.out v2))<|
 .ret (.next ())
noncomputable def qb:Ci.V→qo Ci Unit (Int):=λ(v0,v1,v2,_)=>⟨v2,(),λv2 _=>(v0,v1,v2,()),λv2 _=>(decide (v2<(v0.length:Int))),CE v0 v1,up,1,(Int.toNat ((v0.length:Int)-v2)),.inl,eR,oB .ret ⟨[zi 4],[]⟩ (λp=>(p,())) (.exit 0) ⟨[zu 4],[]⟩ (λ_=>())⟩
theorem PD {v0:List Entr}{v1 v2:Int}(h0:0≤v2)(h1:(v0.length:Int)≤4611686018427387904):(qb (v0,v1,v2,())).U (v0.length:Int) (λ_ _=>True) (λp=>v2≤p∧p<(v0.length:Int)):=
 jV h0 h1 trivial
noncomputable def zI:FT (List Entr×Int×Unit) (Int) (λx=>sS x.1) (λx v=> -1≤v∧v<x.1.length):= .mk (λ(x0,x1,_)=>
  .lp (qb (x0,x1,0,())).lp λw1=> .sum w1 (λp1a0=>
  .ret p1a0)<|
  λ_=>
  .ret (-1)) (pE @PD)
noncomputable def DZ:=dV st Tryz.func268 [(0,lb [0,1,5] [4])] [] 0 qb (ks:=[.sc (.sl .entr),.sc (.int .i64)]) zI rI
noncomputable def vy:FT (Limi×Unit) (Bool) (λ_=>True) (λx v=>(v=true→x.1.halves≤64∧x.1.waiting≤16∧x.1.conns≤16)):= .mk λ(x0,_)=>
  .val (bS.f (x0.halves,1,64,())) λc1=>
  .ite c1 (.val (bS.f (x0.waiting,1,16,())) λc2=>
   .ite c2 (.val (bS.f (x0.conns,1,16,())) λc3=>
    .ite c3 (.val (bS.f (x0.chal,0,1000,())) λc4=>
     .ret c4)<|
    .ret false)<|
   .ret false)<|
  .ret false
noncomputable def N4:=aN st Tryz.func269 [ci] (ks:=[.st .limi]) vy rB
def Fb:Sh:=⟨[zi 1,zl 8 .entr,zi 9,zi 10],[]⟩
noncomputable def Fi (v0:Int)(v1:List Entr)(v3:Int)(a:Unit):Tr (Stp (Unit) ((Int))):=
 .grd (cd v1 v3)<|
 .ite ((v1.getD v3.toNat (Ty.zero .entr)).ip==v0) (.ret (.out ((v1.getD v3.toNat (Ty.zero .entr)).hw)))<|
 .ret (.next ())
noncomputable def sy:Fb.V→qo Fb Unit (Int):=λ(v0,v1,v2,v3,_)=>⟨v3,(),λv3 _=>(v0,v1,v2,v3,()),λv3 _=>(decide (v3<v2)),Fi v0 v1,up,1,(Int.toNat (v2-v3)),.inl,eR,oB .ret ⟨[zi 4,zb 5],[]⟩ (λp=>(p,true,())) (.exit 0) ⟨[zu 4,zu 5],[]⟩ (λ_=>())⟩
theorem Tu {v0 v2 v3:Int}{v1:List Entr}(h0:0≤v3)(h1:v2≤4611686018427387904)(h2:v2≤(v1.length:Int)):(sy (v0,v1,v2,v3,())).U v2 (λ_ _=>True) (λ_=>True):=
 jV h0 h1 trivial
noncomputable def Bw:FT (List Entr×Int×Unit) (Int×Bool) (λx=>sS x.1) (λ_ _=>True):= .mk (λ(x0,x1,_)=>
  .lp (sy (x1,x0,(x0.length:Int),0,())).lp λw1=> .sum w1 (λp1a0=>
  .ret (p1a0,true))<|
  λ_=>
  .ret (0,false)) (pE @Tu)
noncomputable def SV:=dV st Tryz.func271 [(0,lb [1,8,9,10] [4,5])] [] 0 sy (ks:=[.sc (.sl .entr),.sc (.int .i64)]) Bw (λv=>[(false,[.c (.int .i64 v.1)]),(false,[.c (.bool v.2)])])
def pL:Sh:=⟨[zl 0 .macRow,zl 1 .macRow,zi 12,zi 13],[]⟩
noncomputable def pO (v0 v1:List MacRow)(v3:Int)(a:Unit):Tr (Stp (Unit) ((Unit))):=
 .grd (cd v0 v3)<|
 .grd (cd v1 v3)<|
 .ite (!(((v0.getD v3.toNat (Ty.zero .macRow)).input==(v1.getD v3.toNat (Ty.zero .macRow)).input)&&(((v0.getD v3.toNat (Ty.zero .macRow)).value==(v1.getD v3.toNat (Ty.zero .macRow)).value)&&true))) (.ret (.out ()))<|
 .ret (.next ())
noncomputable def gK:pL.V→qo pL Unit (Unit):=λ(v0,v1,v2,v3,_)=>⟨v3,(),λv3 _=>(v0,v1,v2,v3,()),λv3 _=>(decide (v3<v2)),pO v0 v1,up,1,(Int.toNat (v2-v3)),.inl,eR,oB .ret ⟨[zb 4],[]⟩ (λ_=>(false,())) (.exit 0) ⟨[zu 4],[]⟩ (λ_=>())⟩
theorem Ag {v0 v1:List MacRow}{v2 v3:Int}(h0:0≤v3)(h1:v2≤4611686018427387904)(h2:v2≤(v0.length:Int))(h3:v2≤(v1.length:Int)):(gK (v0,v1,v2,v3,())).U v2 (λ_ _=>True) (λ_=>True):=
 jV h0 h1 trivial
noncomputable def mZ:FT (List MacRow×List MacRow×Unit) (Bool) (λx=>sL aG x.1∧sL aG x.2.1) (λ_ _=>True):= .mk (λ(x0,x1,_)=>
  .ite ((x0.length:Int) != (x1.length:Int)) (.ret false)<|
  .lp (gK (x0,x1,(x0.length:Int),0,())).lp λw1=> .sum w1 (λ_=>
  .ret false)<|
  λ_=>
  .ret true) (pE @Ag)
noncomputable def D6:=dV st Tryz.func276 [(0,lb [0,1,12,13] [4])] [] 0 gK (ks:=[.sc (.sl .macRow),.sc (.sl .macRow)]) mZ rB
noncomputable def td:FF (Fram×Int×Unit) (Bool):=⟨λ(x0,x1,_)=>
  .ite (x0.dst==x1) (.ret true)<|
  .ret (x0.dst==281474976710655)⟩
noncomputable def WW:=fX st Tryz.func277 [] (ks:=[.st .fram,.sc (.int .i64)]) td rB
def si:Sh:=⟨[zo 3 0,zl 7 .half,zi 8,zi 9],[za .half]⟩
noncomputable def sr (v0:List Half)(v2:Int)(a:List Half):Tr (Stp (List Half) (Empty)):=
 .grd (cd v0 v2)<|
 .ite (decide ((IntKind.wrap .i64 ((v0.getD v2.toNat (Ty.zero .half)).age+1))≤6)) (.grd (xr a 1 96)<|
  .val (a++[({(v0.getD v2.toNat (Ty.zero .half))with age:=(IntKind.wrap .i64 ((v0.getD v2.toNat (Ty.zero .half)).age+1))}:Half)]) λl1=>
  .ret (.next l1))<|
 .ret (.next a)
noncomputable def gh:si.V→tF si (List Half):=λ(v0,v1,v2,v3,_)=>⟨v2,v3,λv2 a=>(v0,v1,v2,a,()),λv2 _=>(decide (v2<v1)),sr v0,up,1,(Int.toNat (v1-v2)),Empty.elim,Prod.mk,oN (.exit 0) ⟨[zu 2,zo 3 0],[za .half]⟩ (λx=>(x.2,()))⟩
theorem B8 {v0 v3:List Half}{v1 v2:Int}(h0:0≤v2)(h1:v1≤4611686018427387904)(h2:sS v0)(h3:v1≤4294967296)(h4:v1≤(v0.length:Int))(h5:(v3.length:Int)≤v2):(gh (v0,v1,v2,v3,())).U v1 (λv2 a=>(a.length:Int)≤v2) (λ_=>True):=
 jV (a:=v3) h0 h1 h5
noncomputable def qg:FT (List Half×Unit) (List Half) (λx=>sS x.1) (λx v=>sS v):=⟨λ(x0,_)=>
  .lp (gh (x0,(x0.length:Int),0,[],())).lp λ(_,a2_0)=>
  .ret a2_0,
 λ(x0,_) hp=>by
  refine Tr.L (B8 ?_ ?_ ?_ ?_ ?_ ?_) (λa2_0 _=>Tr.R ?_) (λp=>Empty.elim p)
  all_goals ((try simp only[gh,LC.lp,LC.ct,Ct.lp]at*)<;>grind)⟩
noncomputable def Kp:=dV st Tryz.func283 [(0,lb [3,7,8,9] [2,3])] [] 0 gh (ks:=[.sc (.sl .half)]) qg (λv=>[(false,[sc (.o true) .half v])])
noncomputable def oH:FT (List Tupl×Unit) (List Tupl) (λx=>sS x.1) (λx v=>v=x.1):=⟨λx=> .ret x.1,λ_ _=>Tr.R rfl⟩
theorem F9 (x:List Tupl×Unit)(hp:sS x.1):II Tryz.prog 286 (Hr [.sc (.sl .tupl)] x) ((λv=>[rv (.sc (.sl .tupl)) [.o true] v]) (oH.f x)):=by
 refine II.byNil (t:= .tupl) (xs:=x.1) (λh=> ?_) ?_
 ·obtain⟨x,_⟩:=x;subst h
  exact fn0 st Tryz.func286 (by kernel_rfl) (by kernel_rfl)
 ·exact fn0 st Tryz.func286 (by kernel_rfl) (Eq.trans (b:=bif Nat.ble ((2*(0+x.1.length)+1024)*24) aU then some ((λv=>[rv (.sc (.sl .tupl)) [.o true] v]) x.1)else none) (by kernel_rfl) (by rw[show Nat.ble ((2*(0+x.1.length)+1024)*24) aU=true by simp only[Nat.ble_eq,aU];simp only[sS]at hp;omega];rfl))
noncomputable def Gr:Ent1 Tryz.prog:=Zr 286 (ks:=[.sc (.sl .tupl)]) oH.c (λv=>[rv (.sc (.sl .tupl)) [.o true] v]) F9
noncomputable def bp:FT (Recv×Unit) (Int) (λx=>aw x.1) (λx v=>0≤v∧v≤32∧(x.1.data.length≤32→v=YF x.1)):= .mk λ(x0,_)=>
  .ite x0.done (.ret 0)<|
  .val (β:=Int) (if 0<(IntKind.wrap .i64 (32-(x0.data.length:Int)))then(IntKind.wrap .i64 (32-(x0.data.length:Int)))else 0) λe1=>
  .ret e1
noncomputable def kp:=aN st Tryz.func291 [] (ks:=[.st .recv]) bp rI
def yw:Sh:=⟨[zi 0,zo 5 0,zi 6],[za .u8]⟩
noncomputable def dI (v1:Int)(a:Int×List Int):Tr (Stp (Int×List Int) (Empty)):=
 .grd (cd a.2 v1)<|
 .ret (.next ((a.1.fdiv 256),(a.2.set v1.toNat (IntKind.wrap .u8 a.1))))
noncomputable def eE:yw.V→tF yw (Int×List Int):=λ(v0,v1,v2,_)=>⟨v1,(v0,v2),λv1 a=>(a.1,v1,a.2,()),λv1 _=>(decide (0≤v1)),dI,dn,(-1),(Int.toNat (v1-0+1)),Empty.elim,Prod.mk,oN (.exit 0) ⟨[zu 4,zo 5 0],[za .u8]⟩ (λx=>(x.2.2,()))⟩
theorem HX {v0 v1:Int}{v2:List Int}(h0:v1≤9223372036854775807)(h1:sS v2)(h2:v2.length=v2.length∧v1<(v2.length:Int)):(eE (v0,v1,v2,())).D 0 (λv1 a=>a.2.length=v2.length∧v1<(a.2.length:Int)) (λ_=>True):=
 lcD (a:=(v0,v2)) h0 (by decide) h2
noncomputable def au:FT (Int×Int×Unit) (ae) (λ_=>True) (λx v=>sS v∧(v.length:Int)≤max x.2.1 0):=⟨λ(x0,x1,_)=>
  .bnd (β:=Bool×Unit) (.val (a9.f (x1,1,6,())) λc1=>
   .ite (!c1) (.ret (true,()))<|
   .cal af.c (x0,(IntKind.wrap .i64 (8*x1)),()) λc2=>
   .ret ((!c2),())) λ(u3a0,_)=>
  .ite u3a0 (.ret [])<|
  .grd ((((decide (0≤x1))&&(decide (x1=x1)))&&(decide (x1*1≤(aU:Int))))&&(decide (x1≤(aU:Int))))<|
  .lp (eE (x0,(IntKind.wrap .i64 (x1-1)),(List.replicate x1.toNat 0),())).lp λ(_,_,a4_1)=>
  .ret (aF a4_1),
 λ(x0,x1,_) hp=>by
  refine Tr.B (Q':=λ_=>True) (Tr.V λ_ _=>Tr.I (λ_=>Tr.R trivial) λ_=>Tr.C trivial λ_ _ _=>Tr.R trivial) (λ(u3a0,_) _ _=>Tr.I (λ_=>Tr.R ?_) λ_=>Tr.G4 ?_ λ_=>Tr.L (HX ?_ ?_ ?_) (λ(a4_0,a4_1) _=>Tr.R ?_) (λp=>Empty.elim p))
  all_goals ((try simp only[eE,LC.lp,LC.ct,Ct.lp,Tr.nice,ko]at*)<;>grind)⟩
noncomputable def jC:=dV st Tryz.func294 [(0,lb [0,5,6] [4,5]),(3000001,rA 0 16)] [bB,bN] 0 eE (ks:=[.sc (.int .i64),.sc (.int .i64)]) au (λv=>[(false,[.c (.str v)])])
noncomputable def aK:FT (Segm×Unit) (Int) (λx=>am x.1) (λx v=>0≤v∧v≤x.1.body.length+2):= .mk λ(x0,_)=>
  .val (bk.f (x0,2,())) λc1=>
  .ite c1 (.val (bk.f (x0,1,())) λc2=>
   .ite c2 (.val (IntKind.wrap .i64 ((IntKind.wrap .i64 ((x0.body.length:Int)+1))+1)) λe3=>
    .ret e3)<|
   .ret (IntKind.wrap .i64 ((x0.body.length:Int)+1)))<|
  .val (bk.f (x0,1,())) λc4=>
  .ite c4 (.ret (IntKind.wrap .i64 ((x0.body.length:Int)+1)))<|
  .ret (x0.body.length:Int)
noncomputable def rz:=aN st Tryz.func308 [zt] (ks:=[.st .segm]) aK rI
noncomputable def tz:FT (List Half×Int×Int×Unit) (Nat×List Half) (λx=>sS x.1∧0≤x.2.1∧x.2.1≤x.2.2.1∧x.2.2.1≤x.1.length) (λx v=>sS v.2∧v.1≤x.1.length∧v.2.length=x.1.length):=⟨λ(x0,x1,x2,_)=>
  .grd ((((decide (0≤x1))&&(decide (x1≤x2)))&&(decide (x2≤(x0.length:Int))))&&(decide ((x0.length:Int)≤(x0.length:Int))))<|
  .ite (x1==x2) (.ret (x0.length,x0))<|
  .grd ((decide (0≤x1))&&(decide (x1≤(x0.length:Int))))<|
  .grd (KV x0 x2 (x0.length:Int))<|
  .grd (((Nat.ble x1.toNat x2.toNat)&&(Nat.beq ((x0.length:Int).toNat) x0.length))&&true)<|
  .val (((((x0.take x1.toNat++x0.drop x2.toNat)++x0.drop (x1.toNat+(x0.length-x2.toNat))).take (x1.toNat+(x0.length-x2.toNat))).drop 0).length:Int) λe1=>
  .grd (KV ((x0.take x1.toNat++x0.drop x2.toNat)++x0.drop (x1.toNat+(x0.length-x2.toNat))) e1 (x0.length:Int))<|
  .val ((((x0.take x1.toNat++x0.drop x2.toNat)++x0.drop (x1.toNat+(x0.length-x2.toNat))).take e1.toNat++List.replicate ((x0.length:Int).toNat-e1.toNat) (Ty.zero .half))++((x0.take x1.toNat++x0.drop x2.toNat)++x0.drop (x1.toNat+(x0.length-x2.toNat))).drop ((x0.length:Int).toNat)) λl2=>
  .ret ((x1.toNat+(x0.length-x2.toNat)),l2),
 λ(x0,x1,x2,_) hp=>by
  refine Tr.G4 ?_ λg0=>Tr.I (λb1=>Tr.R ?_) λb1=>Tr.G2 ?_ λg2=>Tr.G3 ?_ λg3=>Tr.G ?_ λg4=>Tr.V λe1 he1=>Tr.G3 ?_ λg5=>Tr.V λl2 hl2=>Tr.R ?_
  all_goals ((first|grind|(simp only[Bool.and_eq_true,and_true,List.length_set,Nat.ble_eq,Nat.beq_eq,decide_eq_true_eq,List.length_append,List.length_take,List.length_drop,List.drop_zero,List.length_replicate,sS]at*;omega)))⟩
noncomputable def F7:=uL st ⟨310,Tryz.f310,[],1⟩ [] [] [.wr false [.own 0],.sc (.int .i64),.sc (.int .i64)] [.arr .half] (λx y=>(y.1,x.2.1,x.2.2.1,())) tz (λv=>[(false,[.shr 0 v.1])]) (λx y v=>(v.2,())) Tryz.func310 (by kernel_rfl) trivial
noncomputable def jk:FF (Opti×Unit) (Opti):=⟨λ(x0,_)=>
  .ite x0.stamp (.ret x0)<|
  .val (bM.f (())) λc1=>
  .ret ({c1 with mss:=x0.mss}:Opti)⟩
noncomputable def GB:=fX st Tryz.func313 [i1] (ks:=[.st .opti]) jk (λv=>[(true,pD v)])
noncomputable def oA:FT (List Piec×Unit) (List Piec) (λx=>sS x.1) (λx v=>v=x.1):=⟨λx=> .ret x.1,λ_ _=>Tr.R rfl⟩
theorem GR (x:List Piec×Unit)(hp:sS x.1):II Tryz.prog 317 (Hr [.sc (.sl .piec)] x) ((λv=>[rv (.sc (.sl .piec)) [.o true] v]) (oA.f x)):=by
 refine II.byNil (t:= .piec) (xs:=x.1) (λh=> ?_) ?_
 ·obtain⟨x,_⟩:=x;subst h
  exact fn0 st Tryz.func317 (by kernel_rfl) (by kernel_rfl)
 ·exact fn0 st Tryz.func317 (by kernel_rfl) (Eq.trans (b:=bif Nat.ble ((2*(0+x.1.length)+1024)*24) aU then some ((λv=>[rv (.sc (.sl .piec)) [.o true] v]) x.1)else none) (by kernel_rfl) (by rw[show Nat.ble ((2*(0+x.1.length)+1024)*24) aU=true by simp only[Nat.ble_eq,aU];simp only[sS]at hp;omega];rfl))
noncomputable def Gt:Ent1 Tryz.prog:=Zr 317 (ks:=[.sc (.sl .piec)]) oA.c (λv=>[rv (.sc (.sl .piec)) [.o true] v]) GR
noncomputable def lK:FX (List Tupl×Int×Unit) (Int) (λ_=>True) (cJ [.sc (.sl .tupl),.sc (.int .i64)]):=⟨λ(x0,x1,_)=>
  .ite (decide ((IntKind.wrap .i64 (x1-(x0.length:Int)))<0)) (.ret (-1))<|
  .ret (IntKind.wrap .i64 (x1-(x0.length:Int))),
 λ(x0,x1,_) hp hf=>by
  simp only[cJ,Pk.fact,jt,hY,Fl.fact,Ty.fl,Ty.toH]at hf
  refine Tr.F (by kernel_rfl) trivial⟩
theorem UN (xs:List Tupl)(k:Int)(h0:0≤k)(h1:k≤1048576)(hl:xs.length≤140737488355328)(h:0≤lK.f (xs,k,())):lK.f (xs,k,())≤k∧xs.length≤1048576:=by
 have w:IntKind.wrap .i64 (k-(xs.length:Int))=k-(xs.length:Int):=aj (by omega) (by omega)
 simp only[FX.f,lK,Tr.nice,w]at h⊢
 by_cases c:k-(xs.length:Int)<0
 ·rw[decide_eq_true c,cond_true]at h;omega
 ·rw[decide_eq_false c,cond_false];exact⟨by omega,by omega⟩
noncomputable def On:=rF st Tryz.func319 [] (ks:=[.sc (.sl .tupl),.sc (.int .i64)]) lK rI
noncomputable def br:FX (MacRow×Int×Unit) (Int) (λ_=>True) (cJ [.st .macRow,.sc (.int .i64)]):=⟨λ(x0,x1,_)=>
  .ite (decide ((IntKind.wrap .i64 (x1-(x0.input.length:Int)))<0)) (.ret (-1))<|
  .ret (IntKind.wrap .i64 (x1-(x0.input.length:Int))),
 λ(x0,x1,_) hp hf=>by
  simp only[cJ,Pk.fact,jt,hY,Fl.fact,Ty.fl,Ty.toH]at hf
  refine Tr.F (by kernel_rfl) trivial⟩
theorem Uy (x:MacRow)(k:Int)(h0:0≤k)(h1:k≤1048576)(hl:x.input.length≤4611686018427387904)(h:0≤br.f (x,k,())):br.f (x,k,())≤k∧x.input.length≤1048576:=by
 have w:IntKind.wrap .i64 (k-(x.input.length:Int))=k-(x.input.length:Int):=aj (by omega) (by omega)
 simp only[FX.f,br,Tr.nice,w]at h⊢
 by_cases c:k-(x.input.length:Int)<0
 ·rw[decide_eq_true c,cond_true]at h;omega
 ·rw[decide_eq_false c,cond_false];exact⟨by omega,by omega⟩
noncomputable def OQ:=rF st Tryz.func320 [] (ks:=[.st .macRow,.sc (.int .i64)]) br rI
noncomputable def jr:FF (Int×Int×Unit) (Int):=⟨λ(x0,x1,_)=>
  .ite (decide (x0<x1)) (.ret x0)<|
  .ret x1⟩
@[grind=] theorem jE (x0 x1:Int):jr.f (x0,x1,())=(if x0<x1 then x0 else x1):=by
 simp only[jr,FF.f,Tr.nice]
 by_cases h:x0<x1<;>simp[h]
noncomputable def ol:=fX st Tryz.func322 [] (ks:=[.sc (.int .i64),.sc (.int .i64)]) jr rI
noncomputable def EH:FF (Entr×Unit) (Entr):=⟨λ(x0,_)=>
  .ret x0⟩
noncomputable def Sy:=fX st Tryz.func323 [] (ks:=[.st .entr]) EH (λv=>[(true,adm v)])
def wQ:Sh:=⟨[zl 0 .tupl,zo 3 0,zi 4],[za .tupl]⟩
noncomputable def wD (v0:List Tupl)(v1:Int)(a:List Tupl):Tr (Stp (List Tupl) (Empty)):=
 .grd (cd v0 v1)<|
 .val (od.f ((v0.getD v1.toNat (Ty.zero .tupl)),())) λc1=>
 .grd (cd a v1)<|
 .ret (.next (a.set v1.toNat c1))
noncomputable def iU:wQ.V→tF wQ (List Tupl):=λ(v0,v1,v2,_)=>⟨v1,v2,λv1 a=>(v0,v1,a,()),λv1 _=>(decide (v1<(v0.length:Int))),wD v0,up,1,(Int.toNat ((v0.length:Int)-v1)),Empty.elim,Prod.mk,oN (.exit 0) ⟨[zu 2,zo 3 0],[za .tupl]⟩ (λx=>(x.2,()))⟩
theorem Gu {v0 v2:List Tupl}{v1:Int}(h0:0≤v1)(h1:(v0.length:Int)≤4611686018427387904)(h2:sS v0)(h3:sS v2)(h4:v2.length=v2.length∧(v0.length:Int)≤(v2.length:Int)):(iU (v0,v1,v2,())).U (v0.length:Int) (λv1 a=>a.length=v2.length∧(v0.length:Int)≤(a.length:Int)) (λ_=>True):=
 jV (a:=v2) h0 h1 h4
noncomputable def uZ:FT (List Tupl×Unit) (List Tupl) (λx=>sS x.1) (λx v=>sS v):=⟨λ(x0,_)=>
  .grd ((((decide (0≤(x0.length:Int)))&&(decide ((x0.length:Int)=(x0.length:Int))))&&(decide ((x0.length:Int)*24≤(aU:Int))))&&(decide ((x0.length:Int)≤(aU:Int))))<|
  .lp (iU (x0,0,(List.replicate ((x0.length:Int).toNat) (⟨0,0,0⟩:Tupl)),())).lp λ(_,a2_0)=>
  .ret a2_0,
 λ(x0,_) hp=>by
  refine Tr.G4 ?_ λ_=>Tr.L (Gu ?_ ?_ ?_ ?_ ?_) (λa2_0 _=>Tr.R ?_) (λp=>Empty.elim p)
  all_goals ((try simp only[iU,LC.lp,LC.ct,Ct.lp]at*)<;>grind)⟩
noncomputable def Oh:=dV st Tryz.func326 [(0,lb [0,3,4] [2,3])] [sJ] 0 iU (ks:=[.sc (.sl .tupl)]) uZ (λv=>[(false,[sc (.o true) .tupl v])])
noncomputable def BM:FT (MacRow×Unit) (MacRow) (λx=>aG x.1) (λx v=>aG v):= .mk λ(x0,_)=>
  .ret x0
noncomputable def NA:=aN st Tryz.func327 [] (ks:=[.st .macRow]) BM (λv=>[(true,ZH v)])
noncomputable def zd:FF (Entr×Entr×Unit) (Bool):=⟨λ(x0,x1,_)=>
  .ite (x0.ip != x1.ip) (.ret false)<|
  .ite (x0.hw != x1.hw) (.ret false)<|
  .ite (x0.age != x1.age) (.ret false)<|
  .ret true⟩
noncomputable def Qi:=fX st Tryz.func328 [] (ks:=[.st .entr,.st .entr]) zd rB
def wB:Sh:=⟨[zl 0 .tupl,zl 1 .tupl,zi 5],[]⟩
noncomputable def wG (v0 v1:List Tupl)(v2:Int)(a:Unit):Tr (Stp (Unit) ((Unit))):=
 .grd (cd v0 v2)<|
 .grd (cd v1 v2)<|
 .val (l8.f ((v0.getD v2.toNat (Ty.zero .tupl)),(v1.getD v2.toNat (Ty.zero .tupl)),())) λc1=>
 .ite (!c1) (.ret (.out ()))<|
 .ret (.next ())
noncomputable def kZ:wB.V→qo wB Unit (Unit):=λ(v0,v1,v2,_)=>⟨v2,(),λv2 _=>(v0,v1,v2,()),λv2 _=>(decide (v2<(v0.length:Int))),wG v0 v1,up,1,(Int.toNat ((v0.length:Int)-v2)),.inl,eR,oB .ret ⟨[zb 4],[]⟩ (λ_=>(false,())) (.exit 0) ⟨[zu 4],[]⟩ (λ_=>())⟩
theorem Gz {v0 v1:List Tupl}{v2:Int}(h0:0≤v2)(h1:(v0.length:Int)≤4611686018427387904)(h2:(v0.length:Int)≤(v1.length:Int)):(kZ (v0,v1,v2,())).U (v0.length:Int) (λ_ _=>True) (λ_=>True):=
 jV h0 h1 trivial
noncomputable def vK:FT (List Tupl×List Tupl×Unit) (Bool) (λx=>sS x.1∧sS x.2.1) (λ_ _=>True):= .mk (λ(x0,x1,_)=>
  .ite ((x0.length:Int) != (x1.length:Int)) (.ret false)<|
  .lp (kZ (x0,x1,0,())).lp λw2=> .sum w2 (λ_=>
  .ret false)<|
  λ_=>
  .ret true) (pE @Gz)
noncomputable def Oc:=dV st Tryz.func331 [(0,lb [0,1,5] [4])] [oS] 0 kZ (ks:=[.sc (.sl .tupl),.sc (.sl .tupl)]) vK rB
noncomputable def vT:FF (MacRow×MacRow×Unit) (Bool):=⟨λ(x0,x1,_)=>
  .ite (!(x0.input==x1.input)) (.ret false)<|
  .ite (x0.value != x1.value) (.ret false)<|
  .ret true⟩
noncomputable def O8:=fX st Tryz.func332 [] (ks:=[.st .macRow,.st .macRow]) vT rB
noncomputable def wj:FF (Int×Int×Unit) (Sipr):=⟨λ(x0,x1,_)=>
  .ret (⟨(bits .xor .u64 x0 8317987319222330741),(bits .xor .u64 x1 7237128888997146477),(bits .xor .u64 x0 7816392313619706465),(bits .xor .u64 x1 8387220255154660723)⟩:Sipr)⟩
noncomputable def OE:=fX st Tryz.func348 [] (ks:=[.sc (.int .u64),.sc (.int .u64)]) wj (λv=>[(true,EI v)])
def Aw:Sh:=⟨[zs 0,(3,false,[.int .u64]),zi 4],[]⟩
noncomputable def Ld (v0:ae)(v2:Int)(a:Int):Tr (Stp (Int) (Empty)):=
 .grd (cd v0 v2)<|
 .val (bits .or .u64 (IntKind.wrap .u64 (a*256)) (IntKind.wrap .u64 (ah v0 v2.toNat))) λe1=>
 .ret (.next e1)
noncomputable def oI:Aw.V→tF Aw Int:=λ(v0,v1,v2,_)=>⟨v2,v1,λv2 a=>(v0,a,v2,()),λv2 _=>(decide (0≤v2)),Ld v0,dn,(-1),(Int.toNat (v2-0+1)),Empty.elim,Prod.mk,oN (.exit 0) ⟨[zu 2,(3,false,[.int .u64])],[]⟩ (λx=>(x.2,()))⟩
theorem K1 {v0:ae}{v1 v2:Int}(h0:v2≤9223372036854775807)(h1:v2<(v0.length:Int)):(oI (v0,v1,v2,())).D 0 (λv2 a=>v2<(v0.length:Int)) (λ_=>True):=
 lcD (a:=v1) h0 (by decide) h1
noncomputable def qY:FT (ae×Unit) (Int) (λx=>sS x.1) (λ_ _=>True):= .mk (λ(x0,_)=>
  .lp (oI (x0,0,(IntKind.wrap .i64 ((x0.length:Int)-1)),())).lp λ(_,a2_0)=>
  .ret a2_0) (pE @K1)
noncomputable def VP:=dV st Tryz.func350 [(0,lb [0,3,4] [2,3])] [] 0 oI (ks:=[.sc .str]) qY (λv=>[(false,[.c (.int .u64 v)])])
noncomputable def cu:FF (Unit) (Opti):=⟨λ_=>
  .ret (⟨0,(-1),false,false,0,0⟩:Opti)⟩
noncomputable def jd:=fX st Tryz.func356 [] (ks:=[]) cu (λv=>[(true,pD v)])
noncomputable def WY:=[o7,ol]
noncomputable def XS:Fx:=⟨357,Tryz.f357,[(3000002,rA 0 8),(3000004,rA 0 22),(3000006,rA 0 35),(3000008,rA 0 44)],0⟩
noncomputable def HD:FT (Opti×ae×Unit) (Opti) (λx=>sS x.2.1∧0<x.2.1.length) (λ_ _=>True):= .mk λ(x0,x1,_)=>
  .bnd (β:=Bool×Unit) (.grd (decide (0<(x1.length:Int)))<|
   .ite ((ah x1 0)==2) (.ret (((x1.length:Int)==4),()))<|
   .ret (false,())) λ(u1a0,_)=>
  .ite u1a0 (.cal bJ.c (x1,2,2,()) λc2=>
   .ret ({x0 with mss:=c2.1}:Opti))<|
  .bnd (β:=Bool×Unit) (.grd (decide (0<(x1.length:Int)))<|
   .ite ((ah x1 0)==3) (.ret (((x1.length:Int)==3),()))<|
   .ret (false,())) λ(u3a0,_)=>
  .ite u3a0 (.grd (decide (2<(x1.length:Int)))<|
   .val (jr.f (14,(IntKind.wrap .i64 (ah x1 2)),())) λc4=>
   .ret ({x0 with scale:=c4}:Opti))<|
  .bnd (β:=Bool×Unit) (.grd (decide (0<(x1.length:Int)))<|
   .ite ((ah x1 0)==4) (.ret (((x1.length:Int)==2),()))<|
   .ret (false,())) λ(u5a0,_)=>
  .ite u5a0 (.ret ({x0 with sack:=true}:Opti))<|
  .bnd (β:=Bool×Unit) (.grd (decide (0<(x1.length:Int)))<|
   .ite ((ah x1 0)==8) (.ret (((x1.length:Int)==10),()))<|
   .ret (false,())) λ(u6a0,_)=>
  .ite u6a0 (.cal bJ.c (x1,2,4,()) λc7=>
   .cal bJ.c (x1,6,4,()) λc8=>
   .ret ({x0 with stamp:=true,val:=c7.1,echo:=c8.1}:Opti))<|
  .ret x0
noncomputable def X5:=bK st XS WY [] (ks:=[.st .opti,.sc .str]) HD (λv=>[(true,pD v)]) Tryz.func357 trivial
noncomputable def oo:FF (Opti×Unit) (Opti):=⟨λ(x0,_)=>
  .ite x0.stamp (.ret x0)<|
  .val (cu.f (())) λc1=>
  .ret ({c1 with mss:=x0.mss}:Opti)⟩
noncomputable def Ga:=fX st Tryz.func363 [jd] (ks:=[.st .opti]) oo (λv=>[(true,pD v)])
noncomputable def Pr:FT (List Entr×Int×Unit) (Int×Bool) (λx=>sS x.1) (λ_ _=>True):= .mk λ(x0,x1,_)=>
  .cal zI.c (x0,x1,()) λc1=>
  .ite (decide (c1<0)) (.ret (0,false))<|
  .grd (cd x0 c1)<|
  .ret ((x0.getD c1.toNat (Ty.zero .entr)).hw,true)
noncomputable def Zj:=aN st Tryz.func367 [DZ] (ks:=[.sc (.sl .entr),.sc (.int .i64)]) Pr (λv=>[(false,[.c (.int .i64 v.1)]),(false,[.c (.bool v.2)])])
noncomputable def C2:FF (Conn×Unit) (Bool):=⟨λ(x0,_)=>
  .ite (!(x0.s.data==[])) (.ret true)<|
  .ite x0.s.fin (.ret (!x0.s.done))<|
  .ret false⟩
noncomputable def TL:=fX st Tryz.func370 [] (ks:=[.st .conn]) C2 rB
noncomputable def Kc:FF (Int×Unit) (Bool):=⟨λ(x0,_)=>
  .ite (x0 != 1) (.ret (x0 != 4))<|
  .ret false⟩
noncomputable def TW:=fX st Tryz.func373 [] (ks:=[.sc (.int .i64)]) Kc rB
noncomputable def DA:FF (Conn×Unit) (Int):=⟨λ(x0,_)=>
  .ite (x0.opts.mss==0) (.ret 536)<|
  .val (jr.f (1460,x0.opts.mss,())) λc1=>
  .val (fp.f (1,c1,())) λc2=>
  .ret c2⟩
noncomputable def UK:=fX st Tryz.func376 [ol,lV] (ks:=[.st .conn]) DA rI
def xK:Sh:=⟨[zs 0,zi 1,zi 8,zi 25,zi 26],[]⟩
noncomputable def qO (v0:ae)(v1:Int)(v4:Int)(a:Int):Tr (Stp (Int) (Empty)):=
 .grd (cd v0 (IntKind.wrap .i64 (v1+v4)))<|
 .val (bits .or .i64 (IntKind.wrap .i64 (a*256)) (IntKind.wrap .i64 (ah v0 ((IntKind.wrap .i64 (v1+v4)).toNat)))) λe3=>
 .ret (.next e3)
noncomputable def mN:xK.V→tF xK Int:=λ(v0,v1,v2,v3,v4,_)=>⟨v4,v2,λv4 a=>(v0,v1,a,v3,v4,()),λv4 _=>(decide (v4<v3)),qO v0 v1,up,1,(Int.toNat (v3-v4)),Empty.elim,Prod.mk,oN (.exit 0) ⟨[zu 6,zu 7,zi 8],[]⟩ (λx=>(x.2,()))⟩
theorem JA {v0:ae}{v1 v2 v3 v4:Int}(h0:0≤v4)(h1:v3≤4611686018427387904)(h2:0≤v1)(h3:v1+v3≤(v0.length:Int))(h4:sS v0):(mN (v0,v1,v2,v3,v4,())).U v3 (λ_ _=>True) (λ_=>True):=
 jV (a:=v2) h0 h1 trivial
noncomputable def zj:FT (ae×Int×Int×Unit) (Int×Bool) (λx=>sS x.1) (λ_ _=>True):= .mk (λ(x0,x1,x2,_)=>
  .bnd (β:=Bool×Unit) (.val (a9.f (x2,1,6,())) λc1=>
   .ite (!c1) (.ret (true,()))<|
   .ite (decide (x1<0)) (.ret (true,()))<|
   .ret ((decide ((IntKind.wrap .i64 ((x0.length:Int)-x2))<x1)),())) λ(u2a0,_)=>
  .ite u2a0 (.ret (0,false))<|
  .lp (mN (x0,x1,0,x2,0,())).lp λ(_,a4_0)=>
  .ret (a4_0,true)) (pE @JA)
noncomputable def Q7:=dV st Tryz.func378 [(0,lb [0,1,8,25,26] [6,7,8]),(3000001,rA 0 24)] [bB] 0 mN (ks:=[.sc .str,.sc (.int .i64),.sc (.int .i64)]) zj (λv=>[(false,[.c (.int .i64 v.1)]),(false,[.c (.bool v.2)])])
noncomputable def N7:=[bN,bB]
noncomputable def Nc:Fx:=⟨380,Tryz.f380,[(3000001,rA 0 21),(3000003,rA 0 36)],0⟩
noncomputable def ba:FT (Sndr×Unit) (Bool) (λ_=>True) (λx v=>(v=true↔SO x.1)):= .mk λ(x0,_)=>
  .bnd (β:=Bool×Unit) (.cal af.c (x0.una,32,()) λc1=>
   .ite (!c1) (.ret (true,()))<|
   .ite (decide (48<(x0.data.length:Int))) (.ret (true,()))<|
   .val (a9.f (x0.sent,0,(x0.data.length:Int),())) λc2=>
   .ret ((!c2),())) λ(u3a0,_)=>
  .ite u3a0 (.ret false)<|
  .bnd (β:=Bool×Unit) (.ite x0.finSent (.ite (!x0.fin) (.ret (true,()))<|
    .ret ((x0.sent != (x0.data.length:Int)),()))<|
   .ret (false,())) λ(u4a0,_)=>
  .ite u4a0 (.ret false)<|
  .ite (!x0.done) (.ret true)<|
  .ite x0.fin (.ite (!x0.finSent) (.ret (x0.data==[]))<|
   .ret false)<|
  .ret false
noncomputable def kB:=bK st Nc N7 [] (ks:=[.st .sndr]) ba rB Tryz.func380 trivial
def sX:Sh:=⟨[zp 1 0,zi 4,zi 5,zl 45 .piec,zi 46,zi 47],[zg .recv]⟩
def Bv:An:=⟨⟨[],[],false,0⟩,⟨[1,2,4],[],false,0⟩,⟨[],[]⟩,[(.normal,⟨[zp 1 0,zb 2,zi 4],[zg .recv]⟩)]⟩
noncomputable def dN (v0:Int)(v2:List Piec)(v4:Int)(a:Int):Tr (Stp (Int) ((Unit))):=
 .grd (cd v2 v4)<|
 .bnd (β:=Bool×Unit) (.ite ((v2.getD v4.toNat (Ty.zero .piec)).text==[]) (.ret (true,()))<|
  .ite (decide ((v2.getD v4.toNat (Ty.zero .piec)).off≤a)) (.ret (true,()))<|
  .val (IntKind.wrap .i64 (v0-(((v2.getD v4.toNat (Ty.zero .piec)).text).length:Int))) λe6=>
  .ret ((decide (e6<(v2.getD v4.toNat (Ty.zero .piec)).off)),())) λ(u7a0,_)=>
 .ite u7a0 (.ret (.out ()))<|
 .val (IntKind.wrap .i64 ((v2.getD v4.toNat (Ty.zero .piec)).off+(((v2.getD v4.toNat (Ty.zero .piec)).text).length:Int))) λe8=>
 .ret (.next e8)
noncomputable def eQ:sX.V→qo sX Int (Unit):=λ(v0,v1,v2,v3,v4,v5,_)=>⟨v4,v1,λv4 a=>(v0,a,v2,v3,v4,v5,()),λv4 _=>(decide (v4<v3)),dN v0 v2,up,1,(Int.toNat (v3-v4)),.inl,eR,oB .ret ⟨[zp 1 0,zb 2],[zg .recv]⟩ (λ_=>(false,v5,())) (.exit 0) ⟨[zp 1 0,zu 2],[zg .recv]⟩ (λ_=>(v5,()))⟩
theorem CN {v0 v1 v3 v4:Int}{v2:List Piec}{v5:Recv}(h0:0≤v4)(h1:v3≤4611686018427387904)(h2:v0≤32)(h3:0≤v0)(h4:sL cM v2)(h5:v3≤(v2.length:Int))(h6:0≤v1∧v1≤32∧cT (pw v0) (v2.take v4.toNat)):(eQ (v0,v1,v2,v3,v4,v5,())).U v3 (λv4 a=>0≤a∧a≤32∧cT (pw v0) (v2.take v4.toNat)) (λ_=>True):=
 LC.okU (i:=v4) (a:=v1) (λ_ _=>rfl) (λ_=>rfl) rfl h0 h1 h6 λv4 v1 hj hk hv=>by
  refine Tr.G2 ?_ λ_=>Tr.B (Q':=λ_=>True) (Tr.F (by kernel_rfl) trivial) (λ(u7a0,_) _ _=>Tr.I (λ_=>Tr.Ro trivial) λ_=>Tr.V λ_ _=>Tr.Rn ?_)
  all_goals ((try simp only[Tr.nice,ko]at*)<;>grind [←abf])
noncomputable def bg:FT (Recv×Unit) (Bool) (λx=>aw x.1) (λx v=>(v=true→RO x.1)∧(v=true→cT (pw (YF x.1)) x.1.held)):=⟨λ(x0,_)=>
  .cal bp.c (x0,()) λc1=>
  .bnd (β:=Bool×Unit) (.cal af.c (x0.next,32,()) λc2=>
   .ite (!c2) (.ret (true,()))<|
   .ite (decide (32<(x0.data.length:Int))) (.ret (true,()))<|
   .ite (decide (3<(x0.held.length:Int))) (.ret (true,()))<|
   .val (a9.f (x0.fin,(-1),c1,())) λc3=>
   .ite (!c3) (.ret (true,()))<|
   .ret ((x0.fin==0),())) λ(u4a0,_)=>
  .ite u4a0 (.ret false)<|
  .bnd (β:=Bool×Int×Recv×Unit) (.ite (x0.fin != (-1)) (.ret (false,x0.fin,x0,()))<|
   .ret (false,c1,x0,())) λ(_,u5a1,u5a2,_)=>
  .lp (eQ (u5a1,0,u5a2.held,(u5a2.held.length:Int),0,u5a2,())).lp λw9=> .sum w9 (λ_=>
  .ret false)<|
  λ_=>
  .ite (!u5a2.done) (.ret true)<|
  .ite ((u5a2.held.length:Int)==0) (.ret (u5a2.fin==(-1)))<|
  .ret false,
 λ(x0,_) hp=>by
  refine Tr.C ?_ λc1 hc1 qc1=>Tr.B (Q':=λ_=>True) (Tr.C trivial λc2 hc2 qc2=>Tr.F (by kernel_rfl) trivial) (λ(u4a0,_) hj4 qj4=>Tr.I (λb0=>Tr.R ?_) λb0=>Tr.B (Q':=λw=>aw w.2.2.1∧0≤w.2.1∧w.2.1≤32∧w.2.2.1=x0∧(x0.data.length≤32→w.2.1≤YF x0)) (Tr.I (λb1=>Tr.R ?_) λb1=>Tr.R ?_) (λ(u5a0,u5a1,u5a2,_) hj5 qj5=>Tr.L (CN ?_ ?_ ?_ ?_ ?_ ?_ ?_) (λa9_0 i9=>Tr.Sr (Tr.I (λb1=>Tr.R ?_) λb1=>Tr.I (λb2=>Tr.R ?_) λb2=>Tr.R ?_)) (λ_ hp9=>Tr.Sl (Tr.R ?_))))
  all_goals ((try simp only[eQ,LC.lp,LC.ct,Ct.lp,Tr.nice,ko]at*)<;>grind [ac5,ad2,ad0])⟩
noncomputable def rZ:=dV st Tryz.func381 [(0,lb [1,4,5,45,46,47] [1,2]),(1000041,Bv),(3000002,rA 0 37),(3000011,rA 0 69)] [kp,bN,bB] 0 eQ (ks:=[.st .recv]) bg rB
noncomputable def nf:FT (Arpm×Unit) (Bool) (λ_=>True) (λ_ _=>True):= .mk λ(x0,_)=>
  .val (a9.f (x0.kind,1,2,())) λc1=>
  .ite c1 (.cal af.c (x0.srcHw,48,()) λc2=>
   .ite c2 (.cal af.c (x0.dstHw,48,()) λc3=>
    .ite c3 (.cal af.c (x0.srcIp,32,()) λc4=>
     .ite c4 (.cal af.c (x0.dstIp,32,()) λc5=>
      .ret c5)<|
     .ret false)<|
    .ret false)<|
   .ret false)<|
  .ret false
noncomputable def D1:=aN st Tryz.func383 [bB,bN] (ks:=[.st .arpm]) nf rB
noncomputable def qR:FT (List Entr×Int×Int×Unit) (Nat×List Entr) (λx=>sS x.1∧0≤x.2.1∧x.2.1≤x.2.2.1∧x.2.2.1≤x.1.length) (λx v=>sS v.2∧v.1≤x.1.length∧v.2.length=x.1.length):=⟨λ(x0,x1,x2,_)=>
  .grd ((((decide (0≤x1))&&(decide (x1≤x2)))&&(decide (x2≤(x0.length:Int))))&&(decide ((x0.length:Int)≤(x0.length:Int))))<|
  .ite (x1==x2) (.ret (x0.length,x0))<|
  .grd ((decide (0≤x1))&&(decide (x1≤(x0.length:Int))))<|
  .grd (KV x0 x2 (x0.length:Int))<|
  .grd (((Nat.ble x1.toNat x2.toNat)&&(Nat.beq ((x0.length:Int).toNat) x0.length))&&true)<|
  .val (((((x0.take x1.toNat++x0.drop x2.toNat)++x0.drop (x1.toNat+(x0.length-x2.toNat))).take (x1.toNat+(x0.length-x2.toNat))).drop 0).length:Int) λe1=>
  .grd (KV ((x0.take x1.toNat++x0.drop x2.toNat)++x0.drop (x1.toNat+(x0.length-x2.toNat))) e1 (x0.length:Int))<|
  .val ((((x0.take x1.toNat++x0.drop x2.toNat)++x0.drop (x1.toNat+(x0.length-x2.toNat))).take e1.toNat++List.replicate ((x0.length:Int).toNat-e1.toNat) (Ty.zero .entr))++((x0.take x1.toNat++x0.drop x2.toNat)++x0.drop (x1.toNat+(x0.length-x2.toNat))).drop ((x0.length:Int).toNat)) λl2=>
  .ret ((x1.toNat+(x0.length-x2.toNat)),l2),
 λ(x0,x1,x2,_) hp=>by
  refine Tr.G4 ?_ λg0=>Tr.I (λb1=>Tr.R ?_) λb1=>Tr.G2 ?_ λg2=>Tr.G3 ?_ λg3=>Tr.G ?_ λg4=>Tr.V λe1 he1=>Tr.G3 ?_ λg5=>Tr.V λl2 hl2=>Tr.R ?_
  all_goals ((first|grind|(simp only[Bool.and_eq_true,and_true,List.length_set,Nat.ble_eq,Nat.beq_eq,decide_eq_true_eq,List.length_append,List.length_take,List.length_drop,List.drop_zero,List.length_replicate,sS]at*;omega)))⟩
noncomputable def Ez:=uL st ⟨384,Tryz.f384,[],1⟩ [] [] [.wr false [.own 0],.sc (.int .i64),.sc (.int .i64)] [.arr .entr] (λx y=>(y.1,x.2.1,x.2.2.1,())) qR (λv=>[(false,[.shr 0 v.1])]) (λx y v=>(v.2,())) Tryz.func384 (by kernel_rfl) trivial
noncomputable def jc:FT (Sndr×Unit) (Sndr) (λx=>bP x.1) (λx v=>bP v):= .mk λ(x0,_)=>
  .cal ba.c (x0,()) λc1=>
  .ite (!c1) (.ret x0)<|
  .ret ({x0 with sent:=0,finSent:=false}:Sndr)
noncomputable def Rr:=aN st Tryz.func386 [kB] (ks:=[.st .sndr]) jc (λv=>[(true,wa v)])
noncomputable def nA:FT (List MacRow×Unit) (List MacRow) (λx=>sS x.1) (λx v=>v=x.1):=⟨λx=> .ret x.1,λ_ _=>Tr.R rfl⟩
theorem EG (x:List MacRow×Unit)(hp:sS x.1):II Tryz.prog 387 (Hr [.sc (.sl .macRow)] x) ((λv=>[rv (.sc (.sl .macRow)) [.o true] v]) (nA.f x)):=by
 refine II.byNil (t:= .macRow) (xs:=x.1) (λh=> ?_) ?_
 ·obtain⟨x,_⟩:=x;subst h
  exact fn0 st Tryz.func387 (by kernel_rfl) (by kernel_rfl)
 ·exact fn0 st Tryz.func387 (by kernel_rfl) (Eq.trans (b:=bif Nat.ble ((2*(0+x.1.length)+1024)*24) aU then some ((λv=>[rv (.sc (.sl .macRow)) [.o true] v]) x.1)else none) (by kernel_rfl) (by rw[show Nat.ble ((2*(0+x.1.length)+1024)*24) aU=true by simp only[Nat.ble_eq,aU];simp only[sS]at hp;omega];rfl))
noncomputable def ED:Ent1 Tryz.prog:=Zr 387 (ks:=[.sc (.sl .macRow)]) nA.c (λv=>[rv (.sc (.sl .macRow)) [.o true] v]) EG
noncomputable def dz:FF (Conn×Unit) (Int):=⟨λ(x0,_)=>
  .ite (x0.opts.mss==0) (.ret 536)<|
  .val (β:=Int) (if 1<(if 1460<x0.opts.mss then 1460 else x0.opts.mss)then(if 1460<x0.opts.mss then 1460 else x0.opts.mss)else 1) λe1=>
  .ret e1⟩
noncomputable def VO:=fX st Tryz.func389 [] (ks:=[.st .conn]) dz rI
noncomputable def dB:FT (Sndr×Chun×Unit) (Sndr) (λx=>bP x.1∧qn x.2.1) (λx v=>bP v∧(SO x.1→(x.2.1.text.length:Int)+x.1.sent≤x.1.data.length→x.1.finSent=false→(x.2.1.fin=true→x.1.fin=true∧x.1.done=false∧x.1.sent+x.2.1.text.length=x.1.data.length)→v={x.1 with sent:=x.1.sent+x.2.1.text.length,finSent:=x.2.1.fin})):= .mk λ(x0,x1,_)=>
  .ite x0.finSent (.cal ba.c (x0,()) λc1=>
   .ite (!c1) (.ret x0)<|
   .cal ba.c (({x0 with sent:=(IntKind.wrap .i64 (x0.sent+(x1.text.length:Int))),finSent:=true}:Sndr),()) λc2=>
   .ite (!c2) (.ret x0)<|
   .ite x1.fin (.ite (!x0.fin) (.ret x0)<|
    .ite x0.done (.ret x0)<|
    .ret ({x0 with sent:=(IntKind.wrap .i64 (x0.sent+(x1.text.length:Int))),finSent:=true}:Sndr))<|
   .ret ({x0 with sent:=(IntKind.wrap .i64 (x0.sent+(x1.text.length:Int))),finSent:=true}:Sndr))<|
  .cal ba.c (x0,()) λc3=>
  .ite (!c3) (.ret x0)<|
  .cal ba.c (({x0 with sent:=(IntKind.wrap .i64 (x0.sent+(x1.text.length:Int))),finSent:=x1.fin}:Sndr),()) λc4=>
  .ite (!c4) (.ret x0)<|
  .ite x1.fin (.ite (!x0.fin) (.ret x0)<|
   .ite x0.done (.ret x0)<|
   .ret ({x0 with sent:=(IntKind.wrap .i64 (x0.sent+(x1.text.length:Int))),finSent:=x1.fin}:Sndr))<|
  .ret ({x0 with sent:=(IntKind.wrap .i64 (x0.sent+(x1.text.length:Int))),finSent:=x1.fin}:Sndr)
noncomputable def Q6:=aN st Tryz.func390 [kB] (ks:=[.st .sndr,.st .chun]) dB (λv=>[(true,wa v)])
def AQ:Sh:=⟨[zi 0],[]⟩
noncomputable def tD (a:Int):Tr (Stp (Int) ((Int))):=
 .ite (decide (65536≤a)) (.val (IntKind.wrap .i64 ((IntKind.wrap .i64 (a.tdiv 65536))+(a.tmod 65536))) λe1=>
  .ret (.next e1))<|
 .ret (.out a)
noncomputable def om:AQ.V→LW AQ (Int) ((Int)):=λ(v0,_)=>⟨v0,λa=>(a,()),tD,Int.toNat v0,oN (.exit 0) ⟨[zi 0,zu 2],[]⟩ (λp=>(p,()))⟩
theorem LN {v0:Int}(h0:0≤v0∧v0≤9223372036854775807):(om (v0,())).W (λp=>0≤p∧p≤65535):=
 LW.okW (a:=v0) (λa=>0≤a∧a≤9223372036854775807) (λa=>Int.toNat a) rfl h0 λv0 hv=>by
  refine Tr.I (λb0=>Tr.V λe1 he1=>Tr.Rn ?_) λb0=>Tr.Ro ?_
  all_goals (((try subst_vars);simp only[decide_eq_true_eq,decide_eq_false_iff_not]at*;first|omega|(rw[Mt (by omega) (by omega)];omega)|grind))
noncomputable def Dh:FT (Int×Unit) (Int) (λx=>x.1≤9223372036854775807) (λx v=>0≤v∧v≤65535):= .mk (λ(x0,_)=>
  .ite (decide (x0<0)) (.ret 0)<|
  .lp (om (x0,())).lp λp2a0=>
  .ret p2a0) (pE @LN)
noncomputable def U4:=N9 st Tryz.func392 [(0,lb [0] [0,2])] [] 0 om (ks:=[.sc (.int .i64)]) Dh rI
def yd:Sh:=⟨[zs 0,zi 3,zi 4],[]⟩
noncomputable def gT (v0:ae)(v2:Int)(a:Int):Tr (Stp (Int) (Empty)):=
 .ite ((v2.tmod 2)==0) (.grd (cd v0 v2)<|
  .val (IntKind.wrap .i64 (a+(IntKind.wrap .i64 ((IntKind.wrap .i64 (ah v0 v2.toNat))*256)))) λe1=>
  .ret (.next e1))<|
 .grd (cd v0 v2)<|
 .ret (.next (IntKind.wrap .i64 (a+(IntKind.wrap .i64 (ah v0 v2.toNat)))))
noncomputable def jQ:yd.V→tF yd Int:=λ(v0,v1,v2,_)=>⟨v2,v1,λv2 a=>(v0,a,v2,()),λv2 _=>(decide (v2<(v0.length:Int))),gT v0,up,1,(Int.toNat ((v0.length:Int)-v2)),Empty.elim,Prod.mk,oN (.exit 0) ⟨[zu 2,zi 3],[]⟩ (λx=>(x.2,()))⟩
theorem Ia {v0:ae}{v1 v2:Int}(h0:0≤v2)(h1:(v0.length:Int)≤4611686018427387904)(h2:sS v0)(h3:0≤v1∧v1≤65536*v2):(jQ (v0,v1,v2,())).U (v0.length:Int) (λv2 a=>0≤a∧a≤65536*v2) (λ_=>True):=
 jV (a:=v1) h0 h1 h3
noncomputable def qu:FT (ae×Unit) (Int) (λx=>sS x.1) (λx v=>0≤v∧v≤281474976710656):=⟨λ(x0,_)=>
  .lp (jQ (x0,0,0,())).lp λ(_,a2_0)=>
  .ret a2_0,
 λ(x0,_) hp=>by
  refine Tr.L (Ia ?_ ?_ ?_ ?_) (λa2_0 _=>Tr.R ?_) (λp=>Empty.elim p)
  all_goals ((try simp only[jQ,LC.lp,LC.ct,Ct.lp]at*)<;>grind)⟩
noncomputable def QU:=dV st Tryz.func393 [(0,lb [0,3,4] [2,3])] [] 0 jQ (ks:=[.sc .str]) qu rI
noncomputable def lI:FT (Pack×Unit) (Bool) (λ_=>True) (λx v=>(v=true→x.1.body.length≤1480)):= .mk λ(x0,_)=>
  .cal af.c (x0.src,32,()) λc1=>
  .ite c1 (.cal af.c (x0.dst,32,()) λc2=>
   .ite c2 (.val (a9.f (x0.ttl,1,255,())) λc3=>
    .ite c3 (.cal af.c (x0.proto,8,()) λc4=>
     .ite c4 (.cal af.c (x0.id,16,()) λc5=>
      .ite c5 (.ret (decide ((x0.body.length:Int)≤1480)))<|
      .ret false)<|
     .ret false)<|
    .ret false)<|
   .ret false)<|
  .ret false
noncomputable def Oy:=aN st Tryz.func394 [bN,bB] (ks:=[.st .pack]) lI rB
noncomputable def yb:FT (Int×Opti×Unit) (Int) (λ_=>True) (λ_ _=>True):= .mk λ(x0,x1,_)=>
  .grd (decide (0≤(if x1.scale<0 then 0 else x1.scale)))<|
  .val (IntKind.wrap .i64 (x0*2 ^ (min (if x1.scale<0 then 0 else x1.scale).toNat 64))) λe1=>
  .ret (if 1073725440<e1 then 1073725440 else e1)
noncomputable def I3:=aN st Tryz.func401 [] (ks:=[.sc (.int .i64),.st .opti]) yb rI
noncomputable def cZ:FT (Sndr×Unit) (Int) (λx=>bP x.1) (λx v=>(0≤x.1.sent∧x.1.sent≤1000→x.1.sent≤v∧v≤x.1.sent+1)):= .mk λ(x0,_)=>
  .ite x0.finSent (.ret (IntKind.wrap .i64 (x0.sent+1)))<|
  .ret x0.sent
noncomputable def rX:=aN st Tryz.func402 [] (ks:=[.st .sndr]) cZ rI
noncomputable def ji:FT (Int×Unit) (Recv) (λ_=>True) (λx v=>aw v):= .mk λ(x0,_)=>
  .val (bG.f (x0,0,())) λc1=>
  .ret (⟨c1,[],[],(-1),false⟩:Recv)
noncomputable def Gs:=aN st Tryz.func407 [fN] (ks:=[.sc (.int .i64)]) ji (λv=>[(true,vo (.o true) v)])
noncomputable def Tp:=[bN]
noncomputable def Sd:Fx:=⟨408,Tryz.f408,[(3000001,rA 0 13)],0⟩
noncomputable def lR:FT (Int×Unit) (Int×Bool×Bool) (λ_=>True) (λ_ _=>True):= .mk λ(x0,_)=>
  .bnd (β:=Bool×Unit) (.cal af.c (x0,32,()) λc1=>
   .ite (!c1) (.ret (true,()))<|
   .ret (((bits .and .i64 x0 32)==0),())) λ(u2a0,_)=>
  .ite u2a0 (.ret ((-1),false,false))<|
  .ite ((bits .and .i64 x0 15)==15) (.ret ((-1),((bits .and .i64 x0 16) != 0),true))<|
  .ret ((bits .and .i64 x0 15),((bits .and .i64 x0 16) != 0),true)
noncomputable def Rc:=bK st Sd Tp [] (ks:=[.sc (.int .i64)]) lR (λv=>[(false,[.c (.int .i64 v.1)]),(false,[.c (.bool v.2.1)]),(false,[.c (.bool v.2.2)])]) Tryz.func408 trivial
noncomputable def pb:FF (Opti×Unit) (Opti):=⟨λ(x0,_)=>
  .ret x0⟩
noncomputable def AU:=fX st Tryz.func411 [] (ks:=[.st .opti]) pb (λv=>[(true,pD v)])
noncomputable def oW:FF (Opti×Opti×Unit) (Bool):=⟨λ(x0,x1,_)=>
  .ite (x0.mss != x1.mss) (.ret false)<|
  .ite (x0.scale != x1.scale) (.ret false)<|
  .ite (!(x0.sack==x1.sack)) (.ret false)<|
  .ite (!(x0.stamp==x1.stamp)) (.ret false)<|
  .ite (x0.val != x1.val) (.ret false)<|
  .ite (x0.echo != x1.echo) (.ret false)<|
  .ret true⟩
noncomputable def AJ:=fX st Tryz.func413 [] (ks:=[.st .opti,.st .opti]) oW rB
def Ax:Sh:=⟨[zi 0],[]⟩
noncomputable def tj (a:Int):Tr (Stp (Int) ((Int))):=
 .ite (decide (65535<a)) (.val (IntKind.wrap .i64 ((IntKind.wrap .i64 (a.tdiv 65536))+(a.tmod 65536))) λe1=>
  .ret (.next e1))<|
 .ret (.out a)
noncomputable def oE:Ax.V→LW Ax (Int) ((Int)):=λ(v0,_)=>⟨v0,λa=>(a,()),tj,Int.toNat v0,oN (.exit 0) ⟨[zi 0,zu 2],[]⟩ (λp=>(p,()))⟩
theorem LA {v0:Int}(h0:0≤v0∧v0≤9223372036854775807):(oE (v0,())).W (λp=>0≤p∧p≤65535):=
 LW.okW (a:=v0) (λa=>0≤a∧a≤9223372036854775807) (λa=>Int.toNat a) rfl h0 λv0 hv=>by
  refine Tr.I (λb0=>Tr.V λe1 he1=>Tr.Rn ?_) λb0=>Tr.Ro ?_
  all_goals (((try subst_vars);simp only[decide_eq_true_eq,decide_eq_false_iff_not]at*;first|omega|(rw[Mt (by omega) (by omega)];omega)|grind))
noncomputable def Cv:FT (Int×Unit) (Int) (λx=>x.1≤9223372036854775807) (λx v=>0≤v∧v≤65535):= .mk (λ(x0,_)=>
  .ite (decide (x0<0)) (.ret 0)<|
  .lp (oE (x0,())).lp λp2a0=>
  .ret p2a0) (pE @LA)
noncomputable def Vp:=N9 st Tryz.func430 [(0,lb [0] [0,2])] [] 0 oE (ks:=[.sc (.int .i64)]) Cv rI
def yf:Sh:=⟨[zs 0,zi 3,zi 4],[]⟩
noncomputable def hZ (v0:ae)(v2:Int)(a:Int):Tr (Stp (Int) (Empty)):=
 .grd (cd v0 v2)<|
 .val (IntKind.wrap .i64 (a+(IntKind.wrap .i64 (256*(IntKind.wrap .i64 (ah v0 v2.toNat)))))) λe1=>
 .ite (decide ((IntKind.wrap .i64 (v2+1))<(v0.length:Int))) (.grd (cd v0 (IntKind.wrap .i64 (v2+1)))<|
  .val (IntKind.wrap .i64 (e1+(IntKind.wrap .i64 (ah v0 ((IntKind.wrap .i64 (v2+1)).toNat))))) λe2=>
  .ret (.next e2))<|
 .ret (.next e1)
noncomputable def dQ:yf.V→tF yf Int:=λ(v0,v1,v2,_)=>⟨v2,v1,λv2 a=>(v0,a,v2,()),λv2 _=>(decide (v2<(v0.length:Int))),hZ v0,λv2=>IntKind.wrap .i64 (v2+2),2,(Int.toNat (((v0.length:Int)-v2+1)/2)),Empty.elim,Prod.mk,oN (.exit 0) ⟨[zu 2,zi 3],[]⟩ (λx=>(x.2,()))⟩
theorem KD {v0:ae}{v1 v2:Int}(h0:0≤v2)(h1:(v0.length:Int)≤4611686018427387904)(h2:sS v0)(h3:0≤v1∧v1≤65536*v2):(dQ (v0,v1,v2,())).S (λv2 a=>0≤a∧a≤65536*v2) (λ_=>True):=by
 refine LC.okS h3 (λj a hj hv=>⟨⟨?_, ?_⟩, ?_⟩) (λa hv=> ?_)
 ·simp only[dQ,decide_eq_true_eq]at*;omega
 ·simp only[dQ]at*;exact aj (by omega) (by omega)
 ·refine Tr.G2 ?_ λ_=>Tr.V λ_ _=>Tr.I (λ_=>Tr.G2 ?_ λ_=>Tr.V λ_ _=>Tr.Rn ?_) λ_=>Tr.Rn ?_
  all_goals (try simp only[dQ]at*)<;>(grind)
 ·simp only[dQ,decide_eq_false_iff_not]at*;omega
noncomputable def zq:FT (ae×Unit) (Int) (λx=>sS x.1) (λx v=>0≤v∧v≤281474976710656):=⟨λ(x0,_)=>
  .lp (dQ (x0,0,0,())).lp λ(_,a3_0)=>
  .ret a3_0,
 λ(x0,_) hp=>by
  refine Tr.L (KD ?_ ?_ ?_ ?_) (λa3_0 _=>Tr.R ?_) (λp=>Empty.elim p)
  all_goals ((try simp only[dQ,LC.lp,LC.ct,Ct.lp]at*)<;>grind)⟩
noncomputable def S1:=dV st Tryz.func431 [(0,lb [0,3,4] [2,3])] [] 0 dQ (ks:=[.sc .str]) zq rI
noncomputable def iO:FT (Segm×Unit) (Int) (λx=>am x.1) (λx v=>0≤v∧v≤x.1.body.length+2):= .mk λ(x0,_)=>
  .val (gF.f (x0,2,())) λc1=>
  .ite c1 (.val (gF.f (x0,1,())) λc2=>
   .ite c2 (.val (IntKind.wrap .i64 ((IntKind.wrap .i64 ((x0.body.length:Int)+1))+1)) λe3=>
    .ret e3)<|
   .ret (IntKind.wrap .i64 ((x0.body.length:Int)+1)))<|
  .val (gF.f (x0,1,())) λc4=>
  .ite c4 (.ret (IntKind.wrap .i64 ((x0.body.length:Int)+1)))<|
  .ret (x0.body.length:Int)
noncomputable def qI:=aN st Tryz.func432 [z8] (ks:=[.st .segm]) iO rI
noncomputable def oq:FT (Int×Unit) (Recv) (λ_=>True) (λx v=>aw v∧v.held.length≤3):= .mk λ(x0,_)=>
  .val (cD.f (x0,())) λc1=>
  .ret (⟨c1,[],[],(-1),false⟩:Recv)
noncomputable def G8:=aN st Tryz.func438 [ly] (ks:=[.sc (.int .i64)]) oq (λv=>[(true,vo (.o true) v)])
noncomputable def Dw:FT (Int×Unit) (Int) (λ_=>True) (λ_ _=>True):= .mk λ(x0,_)=>
  .val (bS.f (x0,0,7,())) λc1=>
  .ite (!c1) (.ret 0)<|
  .grd ((decide (0≤x0))&&(decide (x0<8)))<|
  .ret ([64,256,536,1024,1300,1400,1440,1460].getD x0.toNat 0)
noncomputable def Mm:=aN st Tryz.func439 [ci] (ks:=[.sc (.int .i64)]) Dw rI
noncomputable def jB:FT (Sndr×Unit) (Int) (λx=>bP x.1) (λx v=>(0≤x.1.sent∧x.1.sent≤1000→x.1.sent≤v∧v≤x.1.sent+1)):= .mk λ(x0,_)=>
  .ite x0.finSent (.ret (IntKind.wrap .i64 (x0.sent+1)))<|
  .ret x0.sent
noncomputable def mP:=aN st Tryz.func442 [] (ks:=[.st .sndr]) jB rI
noncomputable def BX:FF (Conn×Unit) (Bool):=⟨λ(x0,_)=>
  .ite (!(x0.s.data==[])) (.ret true)<|
  .ite x0.s.fin (.ret (!x0.s.done))<|
  .ret false⟩
noncomputable def VR:=fX st Tryz.func443 [] (ks:=[.st .conn]) BX rB
noncomputable def sT:FF (Int×Int×Unit) (Int):=⟨λ(x0,x1,_)=>
  .ret (bits .and .i64 (IntKind.wrap .i64 (x0-x1)) 4294967295)⟩
@[grind=] theorem QD (a b:Int):sT.f (a,b,())=(a-b)%4294967296:=by
 simp only[sT,FF.f,Tr.nice]
 rw[rK,dj];omega
noncomputable def DX:=fX st Tryz.func445 [] (ks:=[.sc (.int .i64),.sc (.int .i64)]) sT rI
noncomputable def qx:FF (Int×Int×Unit) (Int):=⟨λ(x0,x1,_)=>
  .val (IntKind.wrap .i32 (IntKind.wrap .u32 ((IntKind.wrap .u32 x0)-(IntKind.wrap .u32 x1)))) λe1=>
  .ret (IntKind.wrap .i64 e1)⟩
noncomputable def xw:=fX st Tryz.func446 [] (ks:=[.sc (.int .i64),.sc (.int .i64)]) qx rI
noncomputable def nK:FF (Int×Int×Bool×Unit) (Int):=⟨λ(x0,x1,x2,_)=>
  .ite x2 (.val (IntKind.wrap .i64 ((IntKind.wrap .i64 ((IntKind.wrap .i64 (x0*64))+32))+16)) λe1=>
   .val (a9.f (x1,0,14,())) λc2=>
   .ite (!c2) (.ret (bits .and .i64 (IntKind.wrap .i64 (e1+15)) 4294967295))<|
   .ret (bits .and .i64 (IntKind.wrap .i64 (e1+x1)) 4294967295))<|
  .val (a9.f (x1,0,14,())) λc3=>
  .ite (!c3) (.val (IntKind.wrap .i64 ((IntKind.wrap .i64 ((IntKind.wrap .i64 (x0*64))+32))+15)) λe4=>
   .ret (bits .and .i64 e4 4294967295))<|
  .val (IntKind.wrap .i64 ((IntKind.wrap .i64 ((IntKind.wrap .i64 (x0*64))+32))+x1)) λe5=>
  .ret (bits .and .i64 e5 4294967295)⟩
noncomputable def Qe:=fX st Tryz.func450 [bB] (ks:=[.sc (.int .i64),.sc (.int .i64),.sc .bool]) nK rI
noncomputable def jJ:FX (Sndr×Int×Unit) (Int) (λ_=>True) (cJ [.st .sndr,.sc (.int .i64)]):=⟨λ(x0,x1,_)=>
  .ite (decide ((IntKind.wrap .i64 (x1-(x0.data.length:Int)))<0)) (.ret (-1))<|
  .ret (IntKind.wrap .i64 (x1-(x0.data.length:Int))),
 λ(x0,x1,_) hp hf=>by
  simp only[cJ,Pk.fact,jt,hY,Fl.fact,Ty.fl,Ty.toH]at hf
  refine Tr.F (by kernel_rfl) trivial⟩
theorem U5 (x:Sndr)(k:Int)(h0:0≤k)(h1:k≤1048576)(hl:x.data.length≤4611686018427387904)(h:0≤jJ.f (x,k,())):jJ.f (x,k,())≤k∧x.data.length≤1048576:=by
 have w:IntKind.wrap .i64 (k-(x.data.length:Int))=k-(x.data.length:Int):=aj (by omega) (by omega)
 simp only[FX.f,jJ,Tr.nice,w]at h⊢
 by_cases c:k-(x.data.length:Int)<0
 ·rw[decide_eq_true c,cond_true]at h;omega
 ·rw[decide_eq_false c,cond_false];exact⟨by omega,by omega⟩
noncomputable def Np:=rF st Tryz.func451 [] (ks:=[.st .sndr,.sc (.int .i64)]) jJ rI
noncomputable def uO:FT (Sndr×Unit) (Sndr) (λx=>bP x.1) (λx v=>bP v):= .mk λ(x0,_)=>
  .ret x0
noncomputable def N6:=aN st Tryz.func453 [] (ks:=[.st .sndr]) uO (λv=>[(true,wa v)])
noncomputable def vX:FF (Sndr×Sndr×Unit) (Bool):=⟨λ(x0,x1,_)=>
  .ite (x0.una != x1.una) (.ret false)<|
  .ite (!(x0.data==x1.data)) (.ret false)<|
  .ite (x0.sent != x1.sent) (.ret false)<|
  .ite (!(x0.fin==x1.fin)) (.ret false)<|
  .ite (!(x0.finSent==x1.finSent)) (.ret false)<|
  .ite (!(x0.done==x1.done)) (.ret false)<|
  .ret true⟩
noncomputable def PN:=fX st Tryz.func455 [] (ks:=[.st .sndr,.st .sndr]) vX rB
noncomputable def kf:FT (Int×Int×Unit) (Int) (λx=>0≤x.2.1) (λ_ _=>True):= .mk λ(x0,x1,_)=>
  .grd (decide (0≤x1))<|
  .grd (decide (0≤(IntKind.wrap .u64 (64-x1))))<|
  .val (bits .or .u64 (IntKind.wrap .u64 (x0*2 ^ (min x1.toNat 64))) (x0.fdiv (2 ^ (min (IntKind.wrap .u64 (64-x1)).toNat 64)))) λe1=>
  .ret e1
noncomputable def RZ:=aN st Tryz.func466 [] (ks:=[.sc (.int .u64),.sc (.int .u64)]) kf (λv=>[(false,[.c (.int .u64 v)])])
noncomputable def nT:FF (Int×Int×Int×Unit) (Bool):=⟨λ(x0,x1,x2,_)=>
  .ite (decide (0<x2)) (.val (cD.f (x0,())) λc1=>
   .val (cD.f (x1,())) λc2=>
   .val (cD.f ((IntKind.wrap .i64 (c1-c2)),())) λc3=>
   .ret (decide (c3<x2)))<|
  .ret false⟩
noncomputable def vr:=fX st Tryz.func467 [ly] (ks:=[.sc (.int .i64),.sc (.int .i64),.sc (.int .i64)]) nT rB
def wY:Sh:=⟨[zi 0,zi 3,zi 4],[]⟩
noncomputable def wu (v0:Int)(v2:Int)(a:Int):Tr (Stp (Int) (Empty)):=
 .cal Dw.c (v2,()) λc1=>
 .ite (decide (c1≤v0)) (.ret (.next v2))<|
 .ret (.next a)
noncomputable def k7:wY.V→tF wY Int:=λ(v0,v1,v2,_)=>⟨v2,v1,λv2 a=>(v0,a,v2,()),λv2 _=>(decide (v2<8)),wu v0,up,1,(Int.toNat (8-v2)),Empty.elim,Prod.mk,oN (.exit 0) ⟨[zu 2,zi 3],[]⟩ (λx=>(x.2,()))⟩
theorem Gq {v0 v1 v2:Int}(h0:0≤v2):(k7 (v0,v1,v2,())).U 8 (λ_ _=>True) (λ_=>True):=
 jV (a:=v1) h0 (by decide) trivial
noncomputable def vu:FT (Int×Unit) (Int) (λ_=>True) (λ_ _=>True):= .mk (λ(x0,_)=>
  .lp (k7 (x0,0,0,())).lp λ(_,a2_0)=>
  .ret a2_0) (pE @Gq)
noncomputable def Nq:=dV st Tryz.func473 [(0,lb [0,3,4] [2,3])] [Mm] 0 k7 (ks:=[.sc (.int .i64)]) vu rI
noncomputable def Qy:=[ci,ly]
def H7:An:=⟨⟨[],[],false,0⟩,⟨[0,1,6,7],[],false,0⟩,⟨[],[]⟩,[(.normal,⟨[zi 0,zi 1,zi 6,zi 7],[]⟩)]⟩
noncomputable def Sk:Fx:=⟨474,Tryz.f474,[(1000008,H7)],0⟩
noncomputable def Aa:FF (Int×Int×Bool×Unit) (Int):=⟨λ(x0,x1,x2,_)=>
  .bnd (β:=Int×Int×Int×Int×Unit) (.ite x2 (.ret (x0,x1,0,48,()))<|
   .ret (x0,x1,0,32,())) λ(u1a0,u1a1,_,u1a3,_)=>
  .val (bS.f (u1a1,0,14,())) λc2=>
  .ite c2 (.val (cD.f (u1a0,())) λc3=>
   .val (IntKind.wrap .i64 ((IntKind.wrap .i64 (c3*64))+(IntKind.wrap .i64 (u1a3+u1a1)))) λe4=>
   .val (cD.f (e4,())) λc5=>
   .ret c5)<|
  .val (cD.f (u1a0,())) λc6=>
  .val (IntKind.wrap .i64 ((IntKind.wrap .i64 (c6*64))+(IntKind.wrap .i64 (u1a3+15)))) λe7=>
  .val (cD.f (e7,())) λc8=>
  .ret c8⟩
noncomputable def Qq:=Wt st Sk Qy [] (ks:=[.sc (.int .i64),.sc (.int .i64),.sc .bool]) Aa rI Tryz.func474 trivial
noncomputable def rm:FF (Int×Int×Unit) (Sipr):=⟨λ(x0,x1,_)=>
  .ret (⟨(bits .xor .u64 x0 8317987319222330741),(bits .xor .u64 x1 7237128888997146477),(bits .xor .u64 x0 7816392313619706465),(bits .xor .u64 x1 8387220255154660723)⟩:Sipr)⟩
noncomputable def NR:=fX st Tryz.func475 [] (ks:=[.sc (.int .u64),.sc (.int .u64)]) rm (λv=>[(true,EI v)])
def AN:Sh:=⟨[zl 0 .u8,(3,false,[.int .u64]),zi 4],[]⟩
noncomputable def LD (v0:List Int)(v2:Int)(a:Int):Tr (Stp (Int) (Empty)):=
 .grd (cd v0 v2)<|
 .val (bits .or .u64 (IntKind.wrap .u64 (a*256)) (IntKind.wrap .u64 (v0.getD v2.toNat 0))) λe1=>
 .ret (.next e1)
noncomputable def oQ:AN.V→tF AN Int:=λ(v0,v1,v2,_)=>⟨v2,v1,λv2 a=>(v0,a,v2,()),λv2 _=>(decide (0≤v2)),LD v0,dn,(-1),(Int.toNat (v2-0+1)),Empty.elim,Prod.mk,oN (.exit 0) ⟨[zu 2,(3,false,[.int .u64])],[]⟩ (λx=>(x.2,()))⟩
theorem Lz {v0:List Int}{v1 v2:Int}(h0:v2≤9223372036854775807)(h1:v2<(v0.length:Int)):(oQ (v0,v1,v2,())).D 0 (λv2 a=>v2<(v0.length:Int)) (λ_=>True):=
 lcD (a:=v1) h0 (by decide) h1
noncomputable def rO:FT (List Int×Unit) (Int) (λx=>sS x.1∧8≤x.1.length) (λ_ _=>True):= .mk (λ(x0,_)=>
  .lp (oQ (x0,0,7,())).lp λ(_,a2_0)=>
  .ret a2_0) (pE @Lz)
noncomputable def Vh:=dV st Tryz.func477 [(0,lb [0,3,4] [2,3])] [] 0 oQ (ks:=[.sc (.sl .u8)]) rO (λv=>[(false,[.c (.int .u64 v)])])
def sv:Sh:=⟨[zl 0 .bool,zb 1,zi 7,zi 8],[]⟩
noncomputable def tc (v0:List Bool)(v1:Bool)(v3:Int)(a:Unit):Tr (Stp (Unit) ((Int))):=
 .grd (cd v0 v3)<|
 .ite (v1==(v0.getD v3.toNat false)) (.ret (.out v3))<|
 .ret (.next ())
noncomputable def jv:sv.V→qo sv Unit (Int):=λ(v0,v1,v2,v3,_)=>⟨v3,(),λv3 _=>(v0,v1,v2,v3,()),λv3 _=>(decide (v3<v2)),tc v0 v1,up,1,(Int.toNat (v2-v3)),.inl,eR,oB .ret ⟨[zi 4],[]⟩ (λp=>(p,())) (.exit 0) ⟨[zu 4],[]⟩ (λ_=>())⟩
theorem CV {v0:List Bool}{v1:Bool}{v2 v3:Int}(h0:0≤v3)(h1:v2≤4611686018427387904)(h2:v2≤(v0.length:Int)):(jv (v0,v1,v2,v3,())).U v2 (λ_ _=>True) (λp=>v3≤p∧p<v2):=
 jV h0 h1 trivial
noncomputable def qc:FT (List Bool×Bool×Unit) (Int) (λx=>wS x.1) (λx v=> -1≤v∧v<x.1.length):= .mk (λ(x0,x1,_)=>
  .lp (jv (x0,x1,(x0.length:Int),0,())).lp λw1=> .sum w1 (λp1a0=>
  .ret p1a0)<|
  λ_=>
  .ret (-1)) (pE @CV)
noncomputable def KL:=dV st Tryz.func479 [(0,lb [0,1,7,8] [4])] [] 0 jv (ks:=[.sc (.sl .bool),.sc .bool]) qc rI
noncomputable def qF:FF (Int×Int×Unit) (Int):=⟨λ(x0,x1,_)=>
  .val (cD.f (x0,())) λc1=>
  .val (cD.f (x1,())) λc2=>
  .val (cD.f ((IntKind.wrap .i64 (c1-c2)),())) λc3=>
  .ite (decide (2147483647<c3)) (.ret (IntKind.wrap .i64 (c3-4294967296)))<|
  .ret c3⟩
noncomputable def yL:=fX st Tryz.func487 [ly] (ks:=[.sc (.int .i64),.sc (.int .i64)]) qF rI
noncomputable def qk:List (Ent1 Tryz.prog):=[]
def lk:Sh:=⟨[zp 1 0,zo 3 1,zi 4],[zg .recv,za .i64]⟩
def jq:Sh:=⟨[zp 1 0,zo 3 1,zi 5,zi 6],[zg .recv,za .i64]⟩
def lu:Sh:=⟨[zp 1 0,zo 3 1,zi 5],[zg .recv,za .i64]⟩
noncomputable def qf:Fx:=⟨489,Tryz.f489,[(0,lb [1,3,4] [1,2,3]),(4,lb [1,3,5,6] [1,2,3,5]),(2,lb [1,3,5] [2,3])],0⟩
noncomputable def wV (v0:Int)(a:List Int):Tr (Stp (List Int) (Empty)):=
 .grd (cd a v0)<|
 .ret (.next (a.set v0.toNat (-1)))
noncomputable def ce:lk.V→tF lk (List Int):=λ(v0,v1,v2,_)=>⟨v0,v2,λv0 a=>(v0,v1,a,()),λv0 a=>(decide (v0<(a.length:Int))),wV,up,1,(Int.toNat ((v2.length:Int)-v0)),Empty.elim,Prod.mk,oN (.exit 0) ⟨[zp 1 0,zu 2,zo 3 1],[zg .recv,za .i64]⟩ (λx=>(v1,x.2,()))⟩
theorem Gv:LS Tryz.prog qf [0] (j8 0 lk ce):=eU st (aV qk) _ ce [] trivial
theorem Gx {v0:Int}{v1:Recv}{v2:List Int}(h0:0≤v0)(h1:(v2.length:Int)≤4611686018427387904)(h2:sS v2)(h3:v2.length=v2.length):(ce (v0,v1,v2,())).S (λv0 a=>a.length=v2.length∧a.length=v2.length) (λ_=>True):=by
 refine LC.okS ⟨rfl,h3⟩ (λj a hj hv=>⟨⟨?_, ?_⟩, ?_⟩) (λa hv=> ?_)
 ·simp only[ce,decide_eq_true_eq]at*;omega
 ·simp only[ce]at*;exact upw (by omega) (by omega)
 ·refine Tr.G2 ?_ λ_=>Tr.Rn ?_
  all_goals (try simp only[ce]at*)<;>(grind)
 ·simp only[ce,decide_eq_false_iff_not]at*;omega
noncomputable def mB (vb0:Int)(vb2:Recv)(a:Int×List Int):Tr (Stp (Int×List Int) ((List Int))):=
 .grd (cd vb2.held vb0)<|
 .ite (decide (a.1<(((vb2.held.getD vb0.toNat (Ty.zero .piec)).text).length:Int))) (.grd (cd vb2.held vb0)<|
  .val (IntKind.wrap .i64 ((vb2.held.getD vb0.toNat (Ty.zero .piec)).off+a.1)) λe2=>
  .grd (cd vb2.held vb0)<|
  .grd (cd ((vb2.held.getD vb0.toNat (Ty.zero .piec)).text) a.1)<|
  .val (IntKind.wrap .i64 (ah ((vb2.held.getD vb0.toNat (Ty.zero .piec)).text) a.1.toNat)) λe3=>
  .grd (cd a.2 e2)<|
  .ret (.next ((IntKind.wrap .i64 (a.1+1)),(a.2.set e2.toNat e3))))<|
 .ret (.out a.2)
noncomputable def dS:jq.V→LW jq (Int×List Int) ((List Int)):=λ(vb0,vb1,vb2,vb3,_)=>⟨(vb1,vb3),λa=>(vb0,a.1,vb2,a.2,()),mB vb0 vb2,Int.toNat (((vb2.held.getD vb0.toNat (Ty.zero .piec)).text.length:Int)-vb1),oN (.exit 4) ⟨[zp 1 0,zu 2,zo 3 1,zi 5],[zg .recv,za .i64]⟩ (λp=>(vb0,vb2,p,()))⟩
theorem Ca:LS Tryz.prog qf [1,0] (leW 4 jq dS):=Wr st (aV qk) _ dS [] trivial
theorem B2 {vb0 vb1:Int}{vb2:Recv}{vb3:List Int}(h0:0≤vb0)(h1:vb0<(vb2.held.length:Int))(h2:cT po vb2.held)(h3:aw vb2)(h4:0≤vb1∧vb3.length=33):(dS (vb0,vb1,vb2,vb3,())).W (λp=>p.length=33):=
 LW.okW (a:=(vb1,vb3)) (λa=>0≤a.1∧a.2.length=33) (λa=>Int.toNat (((vb2.held.getD vb0.toNat (Ty.zero .piec)).text.length:Int)-a.1)) rfl h4 λ(vb1,vb3) hv=>by
  refine Tr.G2 ?_ λg0=>Tr.I (λb1=>Tr.G2 ?_ λg2=>Tr.V λe2 he2=>Tr.G2 ?_ λg3=>Tr.G2 ?_ λg4=>Tr.V λe3 he3=>Tr.G2 ?_ λg5=>Tr.Rn ?_) λb1=>Tr.Ro ?_
  all_goals ((have hp:=aem (i:=vb0.toNat) h2 (by omega);simp only[po]at hp;grind))
noncomputable def wH (v1:Recv)(v0:Int)(a:List Int):Tr (Stp (List Int) (Empty)):=
 .lp (dS (v0,0,v1,a,())).lp λp4a0=>
 .ret (.next p4a0)
noncomputable def ff:lu.V→tF lu (List Int):=λ(v0,v1,v2,_)=>⟨v0,v2,λv0 a=>(v0,v1,a,()),λv0 _=>(decide (v0<(v1.held.length:Int))),wH v1,up,1,(Int.toNat ((v1.held.length:Int)-v0)),Empty.elim,Prod.mk,oN (.exit 2) ⟨[zu 2,zo 3 0],[za .i64]⟩ (λx=>(x.2,()))⟩
theorem GA:LS Tryz.prog qf [1] (j8 2 lu ff):=eU st (aV qk) _ ff [(leW 4 jq dS)] ⟨Ca,trivial⟩
theorem Gn {v0:Int}{v1:Recv}{v2:List Int}(h0:0≤v0)(h1:(v1.held.length:Int)≤4611686018427387904)(h2:cT po v1.held)(h3:aw v1)(h4:v2.length=33):(ff (v0,v1,v2,())).U (v1.held.length:Int) (λv0 a=>a.length=33) (λ_=>True):=
 LC.okU (i:=v0) (a:=v2) (λ_ _=>rfl) (λ_=>rfl) rfl h0 h1 h4 λv0 v2 hj hk hv=>by
  refine Tr.L (B2 ?_ ?_ ?_ ?_ ?_) (λa=>Empty.elim a) (λp4a0 _=>Tr.Rn ?_)
  all_goals ((try simp only[dS,LW.lp,LW.cw,Cw.lp]at*)<;>grind)
noncomputable def uV:FT (Recv×Unit) (List Int) (λx=>aw x.1∧cT po x.1.held) (λx v=>sS v∧v.length=33):=⟨λ(x0,_)=>
  .lp (ce (0,x0,(List.replicate 33 0),())).lp λ(_,a1_0)=>
  .lp (ff (0,x0,a1_0,())).lp λ(_,a5_0)=>
  .ret a5_0,
 λ(x0,_) hp=>by
  refine Tr.L (Gx ?_ ?_ ?_ ?_) (λa1_0 _=>Tr.L (Gn ?_ ?_ ?_ ?_ ?_) (λa5_0 _=>Tr.R ?_) (λp=>Empty.elim p)) (λp=>Empty.elim p)
  all_goals ((try simp only[ce,ff,LC.lp,LC.ct,Ct.lp]at*)<;>grind)⟩
noncomputable def NP:=bK st qf qk [(j8 0 lk ce),(j8 2 lu ff)] (ks:=[.st .recv]) uV (λv=>[(false,[sc (.o true) .i64 v])]) Tryz.func489 ⟨Gv,GA,trivial⟩
def xn:Sh:=⟨[zl 0 .i64,zi 5],[]⟩
noncomputable def nj (v0:List Int)(v1:Int)(a:Unit):Tr (Stp (Unit) ((Unit))):=
 .grd (cd v0 v1)<|
 .ite (decide (0≤(v0.getD v1.toNat 0))) (.ret (.out ()))<|
 .ret (.next ())
noncomputable def nl:xn.V→qo xn Unit (Unit):=λ(v0,v1,_)=>⟨v1,(),λv1 _=>(v0,v1,()),λv1 _=>(decide (v1<(v0.length:Int))),nj v0,up,1,(Int.toNat ((v0.length:Int)-v1)),.inl,eR,oB .ret ⟨[zb 4],[]⟩ (λ_=>(false,())) (.exit 0) ⟨[zu 4],[]⟩ (λ_=>())⟩
theorem J5 {v0:List Int}{v1:Int}(h0:0≤v1)(h1:(v0.length:Int)≤4611686018427387904):(nl (v0,v1,())).U (v0.length:Int) (λ_ _=>True) (λ_=>True):=
 jV h0 h1 trivial
noncomputable def uy:FT (List Int×Int×Unit) (Bool) (λx=>sS x.1∧0≤x.2.1) (λ_ _=>True):= .mk (λ(x0,x1,_)=>
  .lp (nl (x0,x1,())).lp λw1=> .sum w1 (λ_=>
  .ret false)<|
  λ_=>
  .ret true) (pE @J5)
noncomputable def P0:=dV st Tryz.func490 [(0,lb [0,5] [4])] [] 0 nl (ks:=[.sc (.sl .i64),.sc (.int .i64)]) uy rB
def ux:Sh:=⟨[zl 0 .i64,zi 1,zo 5 0,zi 6],[za .piec]⟩
noncomputable def cp (v0:List Int)(v1:Int)(v2:Int)(a:List Piec):Tr (Stp (List Piec) (Empty)):=
 .grd (cd v0 v2)<|
 .ite (decide ((v0.getD v2.toNat 0)<0)) (.ret (.next a))<|
 .bnd (β:=Bool×Unit) (.ite (decide (0<(a.length:Int))) (.grd (cd a (IntKind.wrap .i64 ((a.length:Int)-1)))<|
   .val ((a.getD (IntKind.wrap .i64 ((a.length:Int)-1)).toNat (Ty.zero .piec)).off) λe1=>
   .grd (cd a (IntKind.wrap .i64 ((a.length:Int)-1)))<|
   .val ((a.getD (IntKind.wrap .i64 ((a.length:Int)-1)).toNat (Ty.zero .piec)).text) λe2=>
   .ret (((IntKind.wrap .i64 (e1+(e2.length:Int)))==(IntKind.wrap .i64 (v2-v1))),()))<|
  .ret (false,())) λ(u3a0,_)=>
 .ite u3a0 (.grd (cd a (IntKind.wrap .i64 ((a.length:Int)-1)))<|
  .val ((a.getD (IntKind.wrap .i64 ((a.length:Int)-1)).toNat (Ty.zero .piec)).text) λe4=>
  .grd (cd v0 v2)<|
  .grd (Nat.ble (e4.length+(aF [(IntKind.wrap .u8 (v0.getD v2.toNat 0))]).length) ak)<|
  .grd (cd a (IntKind.wrap .i64 ((a.length:Int)-1)))<|
  .val (a.set (IntKind.wrap .i64 ((a.length:Int)-1)).toNat (⟨(a.getD (IntKind.wrap .i64 ((a.length:Int)-1)).toNat (Ty.zero .piec)).off,(e4++(aF [(IntKind.wrap .u8 (v0.getD v2.toNat 0))]))⟩:Piec)) λl5=>
  .ret (.next l5))<|
 .grd (cd v0 v2)<|
 .grd (xr a 1 24)<|
 .val (a++[(⟨(IntKind.wrap .i64 (v2-v1)),(aF [(IntKind.wrap .u8 (v0.getD v2.toNat 0))])⟩:Piec)]) λl6=>
 .ret (.next l6)
noncomputable def gO:ux.V→tF ux (List Piec):=λ(v0,v1,v2,v3,_)=>⟨v2,v3,λv2 a=>(v0,v1,v2,a,()),λv2 _=>(decide (v2<(v0.length:Int))),cp v0 v1,up,1,(Int.toNat ((v0.length:Int)-v2)),Empty.elim,Prod.mk,oN (.exit 0) ⟨[zu 4,zo 5 0],[za .piec]⟩ (λx=>(x.2,()))⟩
theorem Ef {v0:List Int}{v1 v2:Int}{v3:List Piec}(h0:0≤v2)(h1:(v0.length:Int)≤4611686018427387904)(h2:sS v0)(h3:(v3.length:Int)≤v2∧cT (pl v2) v3):(gO (v0,v1,v2,v3,())).U (v0.length:Int) (λv2 a=>(a.length:Int)≤v2∧cT (pl v2) a) (λ_=>True):=
 LC.okU (i:=v2) (a:=v3) (λ_ _=>rfl) (λ_=>rfl) rfl h0 h1 h3 λv2 v3 hj hk hv=>by
  refine Tr.G2 ?_ λg0=>Tr.I (λb1=>Tr.Rn ?_) λb1=>Tr.B (Q':=λw=>(w.1=true→0<v3.length)) (Tr.I (λb2=>Tr.G2 ?_ λg3=>Tr.V λe1 he1=>Tr.G2 ?_ λg4=>Tr.V λe2 he2=>Tr.R ?_) λb2=>Tr.R ?_) (λ(u3a0,_) hj3 qj3=>Tr.I (λb2=>Tr.G2 ?_ λg3=>Tr.V λe4 he4=>Tr.G2 ?_ λg4=>Tr.Gb ?_ λg5=>Tr.G2 ?_ λg6=>Tr.V λl5 hl5=>Tr.Rn ?_) λb2=>Tr.G2 ?_ λg3=>Tr.Gb ?_ λg4=>Tr.V λl6 hl6=>Tr.Rn ?_)
  all_goals ((try simp only[Tr.nice,ko]at*)<;>(have hp:=adA hv.2 (show(0:Int)≤v2 by omega);have hu:=aee hv.2;have hw:0<v3.length→IntKind.wrap .i64 ((v3.length:Int)-1)=v3.length-1:=λh=>aj (by omega) (by simp only[sS]at h2;omega);have hq:=hp (IntKind.wrap .i64 ((v3.length:Int)-1)).toNat;(try rw[←he4]at hq);clear hj hp;first|omega|(simp only[bq,List.length_cons,List.length_nil,ak,sS]at*;omega)|(subst hl5;exact⟨by rw[List.length_set];omega,adF hu (by simp only[pl,List.length_append,bq,List.length_cons,List.length_nil];omega)⟩)|(subst hl6;exact⟨by simp only[List.length_append,List.length_cons,List.length_nil];omega,abH hu (by simp only[pl,bq,List.length_cons,List.length_nil];omega)⟩)|grind))
noncomputable def pf:FT (List Int×Int×Unit) (List Piec) (λx=>sS x.1∧0≤x.2.1∧x.2.1≤4294967296) (λx v=>sL cM v):=⟨λ(x0,x1,_)=>
  .lp (gO (x0,x1,x1,[],())).lp λ(_,a7_0)=>
  .ret a7_0,
 λ(x0,x1,_) hp=>by
  refine Tr.L (Ef ?_ ?_ ?_ ?_) (λa7_0 i7=>Tr.R ?_) (λp=>Empty.elim p)
  all_goals ((try simp only[gO,LC.lp,LC.ct,Ct.lp]at*)<;>grind [aeh])⟩
noncomputable def LX:=dV st Tryz.func491 [(0,lb [0,1,5,6] [4,5]),(3000007,rA 0 44)] [] 0 gO (ks:=[.sc (.sl .i64),.sc (.int .i64)]) pf (λv=>[(false,[sc (.o true) .piec v])])
noncomputable def Nx:List (Ent1 Tryz.prog):=[]
def F2:An:=⟨⟨[],[],false,0⟩,⟨[1,2],[],false,0⟩,⟨[],[]⟩,[(.ret,⟨[zp 1 0,zi 2],[zg .conn]⟩),(.normal,⟨[zp 1 0,zi 2],[zg .conn]⟩)]⟩
noncomputable def Pp:Fx:=⟨492,Tryz.f492,[(1000005,F2),(3000006,rA 0 12)],0⟩
noncomputable def vP:FT (Conn×Unit) (Int) (λx=>aa x.1) (λ_ _=>True):= .mk λ(x0,_)=>
  .bnd (β:=(Int×Conn×Unit)⊕(Int×Conn×Unit)) (.as (Sum.elim (λw=>aa w.2.1) (λw=>aa w.2.1)) (.ite (x0.state==1) (.ite x0.r.done (.ret (.inl (4,x0,())))<|
    .ret (.inr ((0,x0,()))))<|
   .ite (x0.state==2) (.bnd (β:=Bool×Unit) (.ite x0.s.done (.ret (x0.r.done,()))<|
     .ret (false,())) λ(u1a0,_)=>
    .ite u1a0 (.ret (.inl (7,x0,())))<|
    .ite x0.s.done (.ret (.inl (3,x0,())))<|
    .ite x0.r.done (.ret (.inl (5,x0,())))<|
    .ret (.inr ((0,x0,()))))<|
   .ite (x0.state==3) (.ite x0.r.done (.ret (.inl (7,x0,())))<|
    .ret (.inr ((0,x0,()))))<|
   .ite (x0.state==5) (.ite x0.s.done (.ret (.inl (7,x0,())))<|
    .ret (.inr ((0,x0,()))))<|
   .ite (x0.state==6) (.ite x0.s.done (.ret (.inl (8,x0,())))<|
    .ret (.inr ((0,x0,()))))<|
   .ret (.inr ((0,x0,()))))) λw2=> .sum w2 (λ(u2a0,_,_)=>
  .ret u2a0)<|
  λ(_,u2b1,_)=>
  .ret u2b1.state
noncomputable def O1:=bK st Pp Nx [] (ks:=[.st .conn]) vP rI Tryz.func492 trivial
noncomputable def d9:FX (Piec×Int×Unit) (Int) (λ_=>True) (cJ [.st .piec,.sc (.int .i64)]):=⟨λ(x0,x1,_)=>
  .ite (decide ((IntKind.wrap .i64 (x1-(x0.text.length:Int)))<0)) (.ret (-1))<|
  .ret (IntKind.wrap .i64 (x1-(x0.text.length:Int))),
 λ(x0,x1,_) hp hf=>by
  simp only[cJ,Pk.fact,jt,hY,Fl.fact,Ty.fl,Ty.toH]at hf
  refine Tr.F (by kernel_rfl) trivial⟩
theorem pi {a e:Int}(h:0≤(bif decide (a<0)then-1 else e)):0≤a∧(bif decide (a<0)then-1 else e)=e:=by
 by_cases c:a<0
 ·rw[decide_eq_true c,cond_true]at h;omega
 ·rw[decide_eq_false c];exact⟨by omega,rfl⟩
theorem Hw {T:Type}(F:T→Int→Int)(P:T→Prop):∀(r:List T) (j:Nat) (a b:Int),(∀x∈r,∀k,0≤k→k≤1048576→0≤F x k→F x k≤k∧P x)→0≤a→a≤1048576→dh (λ_ x a=>bif decide (F x a<0)then Stp.out (F x a)else Stp.next (F x a)) j r a= .next b→(0≤b∧b≤a)∧∀y∈r,P y
 |[],_,a,b,_,h0,h1,h=>by
  cases h
  exact⟨⟨h0,Int.le_refl _⟩,λy hy=>by cases hy⟩
 |x::r,j,a,b,hF,h0,h1,h=>by
  simp only[dh]at h
  by_cases c:F x a<0
  ·rw[decide_eq_true c,cond_true]at h;cases h
  ·rw[decide_eq_false c,cond_false]at h
   simp only[Stp.elim]at h
   obtain⟨h2,h3⟩:=hF x List.mem_cons_self a h0 h1 (by omega)
   obtain⟨h4,h5⟩:=Hw F P r (j+1) _ b (λy hy=>hF y (List.mem_cons_of_mem _ hy)) (by omega) (by omega) h
   refine⟨⟨h4.1,by omega⟩,λy hy=> ?_⟩
   rcases List.mem_cons.1 hy with rfl|hy
   ·exact h3
   ·exact h5 y hy
theorem XB (x:Piec)(k:Int)(h0:0≤k)(h1:k≤1048576)(hl:x.text.length≤4611686018427387904)(h:0≤d9.f (x,k,())):d9.f (x,k,())≤k∧x.text.length≤1048576:=by
 have w:IntKind.wrap .i64 (k-(x.text.length:Int))=k-(x.text.length:Int):=aj (by omega) (by omega)
 simp only[FX.f,d9,Tr.nice,w]at h⊢
 by_cases c:k-(x.text.length:Int)<0
 ·rw[decide_eq_true c,cond_true]at h;omega
 ·rw[decide_eq_false c,cond_false];exact⟨by omega,by omega⟩
noncomputable def S6:=rF st Tryz.func494 [] (ks:=[.st .piec,.sc (.int .i64)]) d9 rI
noncomputable def Es:FT (Piec×Unit) (Piec) (λx=>cM x.1) (λx v=>cM v):= .mk λ(x0,_)=>
  .ret x0
noncomputable def Sn:=aN st Tryz.func495 [] (ks:=[.st .piec]) Es (λv=>[(true,adN v)])
noncomputable def zz:FF (Piec×Piec×Unit) (Bool):=⟨λ(x0,x1,_)=>
  .ite (x0.off != x1.off) (.ret false)<|
  .ite (!(x0.text==x1.text)) (.ret false)<|
  .ret true⟩
noncomputable def Rv:=fX st Tryz.func496 [] (ks:=[.st .piec,.st .piec]) zz rB
noncomputable def df:FT (Int×Int×Unit) (Int) (λ_=>True) (λ_ _=>True):= .mk λ(x0,x1,_)=>
  .grd (decide (0≤(bits .and .u64 (IntKind.wrap .u64 x1) 63)))<|
  .val (IntKind.wrap .u64 (x0*2 ^ (min (bits .and .u64 (IntKind.wrap .u64 x1) 63).toNat 64))) λe1=>
  .grd (decide (0≤(IntKind.wrap .u64 (64-(bits .and .u64 (IntKind.wrap .u64 x1) 63)))))<|
  .val (x0.fdiv (2 ^ (min (IntKind.wrap .u64 (64-(bits .and .u64 (IntKind.wrap .u64 x1) 63))).toNat 64))) λe2=>
  .ret (bits .or .u64 e1 e2)
noncomputable def Dn:=aN st Tryz.func497 [] (ks:=[.sc (.int .u64),.sc (.int .i64)]) df (λv=>[(false,[.c (.int .u64 v)])])
noncomputable def zO:FF (Issu×Issu×Unit) (Bool):=⟨λ(x0,x1,_)=>
  .val (l8.f (x0.tuple,x1.tuple,())) λc1=>
  .ite (!c1) (.ret false)<|
  .ite (x0.seq != x1.seq) (.ret false)<|
  .ite (x0.cookie != x1.cookie) (.ret false)<|
  .ret true⟩
noncomputable def Q9:=fX st Tryz.func36 [oS] (ks:=[.st .issu,.st .issu]) zO rB
noncomputable def NF:=[yx]
noncomputable def NG:Fx:=⟨46,Tryz.f46,[(3000003,rA 0 14)],0⟩
noncomputable def wo:FT (Keys×Int×Unit) (Mac×Bool) (λx=>cK x.1) (λx v=>cE v.1):= .mk λ(x0,x1,_)=>
  .ite (x1==x0.epoch) (.cal ka.c (x0.now,()) λc1=>
   .ret (c1,true))<|
  .bnd (β:=Bool×Unit) (.ite x0.two (.ret ((x1==(IntKind.wrap .i64 (x0.epoch-1))),()))<|
   .ret (false,())) λ(u2a0,_)=>
  .ite u2a0 (.cal ka.c (x0.before,()) λc3=>
   .ret (c3,true))<|
  .ret ((⟨false,0,0,[]⟩:Mac),false)
noncomputable def NI:=bK st NG NF [] (ks:=[.st .keys,.sc (.int .i64)]) wo (λv=>[(true,Rp (.o true) v.1),(false,[.c (.bool v.2)])]) Tryz.func46 trivial
noncomputable def fQ:FT (Limi×Unit) (Bool) (λ_=>True) (λx v=>(v=true→x.1.halves≤64∧x.1.waiting≤16∧x.1.conns≤16)):= .mk λ(x0,_)=>
  .val (a9.f (x0.halves,1,64,())) λc1=>
  .ite c1 (.val (a9.f (x0.waiting,1,16,())) λc2=>
   .ite c2 (.val (a9.f (x0.conns,1,16,())) λc3=>
    .ite c3 (.val (a9.f (x0.chal,0,1000,())) λc4=>
     .ret c4)<|
    .ret false)<|
   .ret false)<|
  .ret false
noncomputable def NT:=aN st Tryz.func66 [bB] (ks:=[.st .limi]) fQ rB
noncomputable def gU:FT (List Tupl×Tupl×Unit) (Bool) (λx=>sS x.1) (λ_ _=>True):= .mk λ(x0,x1,_)=>
  .cal kX.c (x0,x1,()) λc1=>
  .ret (decide (0≤c1))
noncomputable def rg:=aN st Tryz.func74 [xb] (ks:=[.sc (.sl .tupl),.st .tupl]) gU rB
noncomputable def kO:FX (Link×Int×Unit) (Int) (λ_=>True) (cJ [.st .link,.sc (.int .i64)]):=⟨λ(x0,x1,_)=>
  .cal lO.c (x0.cache,x1,()) λc1=>
  .ite (decide (c1<0)) (.ret (-1))<|
  .ret c1,
 λ(x0,x1,_) hp hf=>by
  simp only[cJ,Pk.fact,jt,hY,Fl.fact,Ty.fl,Ty.toH]at hf
  refine Tr.C trivial λ_ _ _=>Tr.F (by kernel_rfl) trivial⟩
theorem Zn (x:Link)(k:Int)(h0:0≤k)(h1:k≤1048576)(hl:x.cache.length≤140737488355328)(h:0≤kO.f (x,k,())):kO.f (x,k,())≤k∧x.cache.length≤1048576:=by
 have e:kO.f (x,k,())=(bif decide (lO.f (x.cache,k,())<0)then-1 else lO.f (x.cache,k,())):=by first|(simp only[FX.f,PX,kO];done)|(simp only[FX.f,PX,kO];rfl)
 rw[e]at h⊢
 obtain⟨p0,e0⟩:=pi h
 rw[e0]at h⊢
 have b0:=U2 _ _ h0 (by omega) hl p0
 refine⟨by omega, ?_⟩
 exact b0.2
noncomputable def Uj:=rF st Tryz.func96 [Pz] (ks:=[.st .link,.sc (.int .i64)]) kO rI
noncomputable def cQ:FF (Int×Int×Unit) (Int):=⟨λ(x0,x1,_)=>
  .val (cD.f (x0,())) λc1=>
  .val (cD.f (x1,())) λc2=>
  .val (cD.f ((IntKind.wrap .i64 (c1+c2)),())) λc3=>
  .ret c3⟩
noncomputable def gy:=fX st Tryz.func101 [ly] (ks:=[.sc (.int .i64),.sc (.int .i64)]) cQ rI
noncomputable def mf:FT (Link×Unit) (Link) (λx=>dY x.1) (λx v=>dY v):= .mk λ(x0,_)=>
  .cal gq.c (x0.cache,()) λc1=>
  .ret ({x0 with cache:=c1}:Link)
noncomputable def Av:=aN st Tryz.func115 [wM] (ks:=[.st .link]) mf (λv=>[(true,EY (.o true) v)])
noncomputable def aD:FT (Int×Int×Unit) (Bool) (λ_=>True) (λx v=>(x.2.1=32→(v=true↔0≤x.1∧x.1≤4294967295))∧(x.2.1=16→(v=true↔0≤x.1∧x.1≤65535))∧(x.2.1=48→(v=true↔0≤x.1∧x.1≤281474976710655))∧(x.2.1=8→(v=true↔0≤x.1∧x.1≤255))∧(x.2.1=6→(v=true↔0≤x.1∧x.1≤63))):=⟨λ(x0,x1,_)=>
  .val (bS.f (x1,1,62,())) λc1=>
  .ite c1 (.grd (decide (0≤(IntKind.wrap .u64 x1)))<|
   .val (IntKind.wrap .i64 ((IntKind.wrap .i64 (1*2 ^ (min (IntKind.wrap .u64 x1).toNat 64)))-1)) λe2=>
   .val (bS.f (x0,0,e2,())) λc3=>
   .ret c3)<|
  .ret false,
 λ(x0,x1,_) hp=>by
  refine Tr.V λ_ _=>Tr.I (λ_=>Tr.G1 ?_ λ_=>Tr.V λ_ _=>Tr.V λ_ _=>Tr.R ?_) λ_=>Tr.R ?_
  all_goals (grind [QA])⟩
@[grind=] theorem R7 (x:Int):aD.f (x,32,())=(decide (0≤x)&&decide (x≤4294967295)):=by
 have h:=aD.c.h (x,32,()) trivial
 rw[Bool.eq_iff_iff]
 grind
@[grind=] theorem SG (x:Int):aD.f (x,16,())=(decide (0≤x)&&decide (x≤65535)):=by
 have h:=aD.c.h (x,16,()) trivial
 rw[Bool.eq_iff_iff]
 grind
@[grind=] theorem acQ (x:Int):aD.f (x,48,())=(decide (0≤x)&&decide (x≤281474976710655)):=by
 have h:=aD.c.h (x,48,()) trivial
 rw[Bool.eq_iff_iff]
 grind
@[grind=] theorem adB (x:Int):aD.f (x,8,())=(decide (0≤x)&&decide (x≤255)):=by
 have h:=aD.c.h (x,8,()) trivial
 rw[Bool.eq_iff_iff]
 grind
@[grind=] theorem adO (x:Int):aD.f (x,6,())=(decide (0≤x)&&decide (x≤63)):=by
 have h:=aD.c.h (x,6,()) trivial
 rw[Bool.eq_iff_iff]
 grind
noncomputable def bQ:=aN st Tryz.func118 [ci] (ks:=[.sc (.int .i64),.sc (.int .i64)]) aD rB
noncomputable def Ed:=[ci]
def mU:Sh:=⟨[zp 1 0,zi 3,zi 4],[zg .mac]⟩
def p7:Sh:=⟨[zp 1 0,zi 3],[zg .mac]⟩
noncomputable def DY:Fx:=⟨119,Tryz.f119,[(2,lb [1,3,4] [1,2,3]),(0,lb [1,3] [1,2])],0⟩
noncomputable def qW (vb0:Int)(vb2:Mac)(vb1:Int)(a:Unit):Tr (Stp (Unit) ((Unit))):=
 .grd (cd vb2.rows vb1)<|
 .grd (cd vb2.rows vb0)<|
 .ite ((vb2.rows.getD vb1.toNat (Ty.zero .macRow)).input==(vb2.rows.getD vb0.toNat (Ty.zero .macRow)).input) (.ret (.out ()))<|
 .ret (.next ())
noncomputable def fO:mU.V→qo mU Unit (Unit):=λ(vb0,vb1,vb2,_)=>⟨vb1,(),λvb1 _=>(vb0,vb1,vb2,()),λvb1 _=>(decide (vb1<vb0)),qW vb0 vb2,up,1,(Int.toNat (vb0-vb1)),.inl,eR,oB .ret ⟨[zp 1 0,zb 2,zi 3],[zg .mac]⟩ (λ_=>(false,vb0,vb2,())) (.exit 2) ⟨[zp 1 0,zu 2,zi 3],[zg .mac]⟩ (λ_=>(vb0,vb2,()))⟩
theorem HU:LS Tryz.prog DY [0,0] (j8 2 mU fO):=eU st (aV Ed) _ fO [] trivial
theorem Ki {vb0 vb1:Int}{vb2:Mac}(h0:0≤vb1)(h1:vb0≤4611686018427387904)(h2:vb0≤(vb2.rows.length:Int))(h3:0≤vb0)(h4:vb0<(vb2.rows.length:Int)):(fO (vb0,vb1,vb2,())).U vb0 (λ_ _=>True) (λ_=>True):=
 jV h0 h1 trivial
noncomputable def vi (v1:Mac)(v0:Int)(a:Unit):Tr (Stp (Unit) ((Unit))):=
 .grd (cd v1.rows v0)<|
 .val (bS.f ((v1.rows.getD v0.toNat (Ty.zero .macRow)).value,0,16777215,())) λc1=>
 .ite (!c1) (.ret (.out ()))<|
 .lp (fO (v0,0,v1,())).lp λw2=> .sum w2 (λ_=>
 .ret (.out ()))<|
 λ_=>
 .ret (.next ())
noncomputable def kr:p7.V→qo p7 Unit (Unit):=λ(v0,v1,_)=>⟨v0,(),λv0 _=>(v0,v1,()),λv0 _=>(decide (v0<(v1.rows.length:Int))),vi v1,up,1,(Int.toNat ((v1.rows.length:Int)-v0)),.inl,eR,oB .ret ⟨[zp 1 0,zb 2],[zg .mac]⟩ (λ_=>(false,v1,())) (.exit 0) ⟨[zp 1 0,zu 2],[zg .mac]⟩ (λ_=>(v1,()))⟩
theorem OM:LS Tryz.prog DY [0] (j8 0 p7 kr):=eU st (aV Ed) _ kr [(j8 2 mU fO)] ⟨HU,trivial⟩
theorem NC {v0:Int}{v1:Mac}(h0:0≤v0)(h1:(v1.rows.length:Int)≤4611686018427387904)(h2:cE v1):(kr (v0,v1,())).U (v1.rows.length:Int) (λ_ _=>True) (λ_=>True):=
 LC.okU (i:=v0) (a:=()) (λ_ _=>rfl) (λ_=>rfl) rfl h0 h1 trivial λv0 _ hj hk hv=>by
  refine Tr.G2 ?_ λ_=>Tr.V λ_ _=>Tr.I (λ_=>Tr.Ro trivial) λ_=>Tr.L (Ki ?_ ?_ ?_ ?_ ?_) (λ_ _=>Tr.Sr (Tr.Rn trivial)) (λ_ _=>Tr.Sl (Tr.Ro trivial))
  all_goals ((try simp only[fO,LC.lp,LC.ct,Ct.lp]at*)<;>grind)
noncomputable def ta:FT (Mac×Unit) (Bool) (λx=>cE x.1) (λx v=>(v=true→x.1.rows.length≤64)):= .mk (λ(x0,_)=>
  .ite (!x0.use) (.ret ((x0.rows.length:Int)==0))<|
  .lp (kr (0,x0,())).lp λw3=> .sum w3 (λ_=>
  .ret false)<|
  λ_=>
  .ite (x0.k==0) (.ite (x0.l==0) (.ret (decide ((x0.rows.length:Int)≤64)))<|
   .ret false)<|
  .ret false) (pE @NC)
noncomputable def EQ:=bK st DY Ed [(j8 0 p7 kr)] (ks:=[.st .mac]) ta rB Tryz.func119 ⟨OM,trivial⟩
noncomputable def kw:FT (Tupl×Unit) (Bool) (λ_=>True) (λ_ _=>True):= .mk λ(x0,_)=>
  .cal aD.c (x0.ip,32,()) λc1=>
  .ite c1 (.cal aD.c (x0.port,16,()) λc2=>
   .ite c2 (.cal aD.c (x0.my,16,()) λc3=>
    .ret c3)<|
   .ret false)<|
  .ret false
noncomputable def pj:=aN st Tryz.func128 [bQ] (ks:=[.st .tupl]) kw rB
noncomputable def dA:FT (Conn×Unit) (Conn) (λx=>aa x.1) (λx v=>aa v∧v=x.1):=⟨λ(x0,_)=>
  .cal dU.c (x0.r,()) λc1=>
  .ret ({x0 with r.next:=c1.next,r.data:=c1.data,r.held:=c1.held,r.fin:=c1.fin,r.done:=c1.done}:Conn),
 λ(x0,_) hp=>by
  refine Tr.C ?_ λc1 hc1 qc1=>Tr.R ?_
  all_goals ((first|grind|(refine⟨by grind, ?_⟩;first|(simp only[List.nil_append];done)|(subst_vars;rfl)|simp_all)))⟩
noncomputable def dC:=aN st Tryz.func139 [yk] (ks:=[.st .conn]) dA (λv=>[(true,fo (.o true) v)])
def xu:Sh:=⟨[zl 0 .entr,zi 3],[]⟩
noncomputable def rJ (v0:List Entr)(v1:Int)(a:Unit):Tr (Stp (Unit) ((Unit))):=
 .grd (cd v0 v1)<|
 .cal aD.c ((v0.getD v1.toNat (Ty.zero .entr)).ip,32,()) λc1=>
 .ite (!c1) (.ret (.out ()))<|
 .cal aD.c ((v0.getD v1.toNat (Ty.zero .entr)).hw,48,()) λc2=>
 .ite (!c2) (.ret (.out ()))<|
 .val (bS.f ((v0.getD v1.toNat (Ty.zero .entr)).age,0,9,())) λc3=>
 .ite (!c3) (.ret (.out ()))<|
 .grd ((decide (0≤v1))&&(decide (v1≤(v0.length:Int))))<|
 .cal zI.c (((v0.take v1.toNat).drop 0),(v0.getD v1.toNat (Ty.zero .entr)).ip,()) λc4=>
 .ite (decide (0≤c4)) (.ret (.out ()))<|
 .ret (.next ())
noncomputable def m9:xu.V→qo xu Unit (Unit):=λ(v0,v1,_)=>⟨v1,(),λv1 _=>(v0,v1,()),λv1 _=>(decide (v1<(v0.length:Int))),rJ v0,up,1,(Int.toNat ((v0.length:Int)-v1)),.inl,eR,oB .ret ⟨[zl 0 .entr,zb 2],[]⟩ (λ_=>(v0,false,())) (.exit 0) ⟨[zl 0 .entr,zu 2],[]⟩ (λ_=>(v0,()))⟩
theorem Kb {v0:List Entr}{v1:Int}(h0:0≤v1)(h1:(v0.length:Int)≤4611686018427387904)(h2:sS v0):(m9 (v0,v1,())).U (v0.length:Int) (λ_ _=>True) (λ_=>True):=
 jV h0 h1 trivial
noncomputable def tG:FT (List Entr×Unit) (Bool) (λx=>sS x.1) (λx v=>(v=true→x.1.length≤4)):= .mk (λ(x0,_)=>
  .lp (m9 (x0,0,())).lp λw5=> .sum w5 (λ_=>
  .ret false)<|
  λ_=>
  .ret (decide ((x0.length:Int)≤4))) (pE @Kb)
noncomputable def FU:=dV st Tryz.func152 [(0,lb [0,3] [0,2])] [bQ,ci,DZ] 0 m9 (ks:=[.sc (.sl .entr)]) tG rB
def xo:Sh:=⟨[zl 0 .entr,zl 10 .entr,zi 11,zi 12],[]⟩
noncomputable def ex (v0 v1:List Entr)(v3:Int)(a:Unit):Tr (Stp (Unit) ((Unit))):=
 .grd (cd v1 v3)<|
 .bnd (β:=Bool×Unit) (.cal af.c ((v1.getD v3.toNat (Ty.zero .entr)).ip,32,()) λc1=>
  .ite (!c1) (.ret (true,()))<|
  .cal af.c ((v1.getD v3.toNat (Ty.zero .entr)).hw,48,()) λc2=>
  .ite (!c2) (.ret (true,()))<|
  .val (a9.f ((v1.getD v3.toNat (Ty.zero .entr)).age,0,9,())) λc3=>
  .ret ((!c3),())) λ(u4a0,_)=>
 .ite u4a0 (.ret (.out ()))<|
 .grd ((decide (0≤v3))&&(decide (v3≤(v0.length:Int))))<|
 .cal Bw.c (((v0.take v3.toNat).drop 0),(v1.getD v3.toNat (Ty.zero .entr)).ip,()) λc5=>
 .ite c5.2 (.ret (.out ()))<|
 .ret (.next ())
noncomputable def jN:xo.V→qo xo Unit (Unit):=λ(v0,v1,v2,v3,_)=>⟨v3,(),λv3 _=>(v0,v1,v2,v3,()),λv3 _=>(decide (v3<v2)),ex v0 v1,up,1,(Int.toNat (v2-v3)),.inl,eR,oB .ret ⟨[zb 2],[]⟩ (λ_=>(false,())) (.exit 0) ⟨[zu 2],[]⟩ (λ_=>())⟩
theorem Jm {v0 v1:List Entr}{v2 v3:Int}(h0:0≤v3)(h1:v2≤4611686018427387904)(h2:sS v0)(h3:sS v1)(h4:v2≤(v1.length:Int))(h5:v2≤(v0.length:Int)):(jN (v0,v1,v2,v3,())).U v2 (λ_ _=>True) (λ_=>True):=
 jV h0 h1 trivial
noncomputable def fZ:FT (List Entr×Unit) (Bool) (λx=>sS x.1) (λx v=>(v=true→x.1.length≤4)):= .mk (λ(x0,_)=>
  .ite (decide (4<(x0.length:Int))) (.ret false)<|
  .lp (jN (x0,x0,(x0.length:Int),0,())).lp λw6=> .sum w6 (λ_=>
  .ret false)<|
  λ_=>
  .ret true) (pE @Jm)
noncomputable def Ff:=dV st Tryz.func155 [(0,lb [0,10,11,12] [2]),(3000006,rA 0 32)] [bN,bB,SV] 0 jN (ks:=[.sc (.sl .entr)]) fZ rB
noncomputable def fu:FT (Mac×Mac×Unit) (Bool) (λx=>cE x.1∧cE x.2.1) (λ_ _=>True):= .mk λ(x0,x1,_)=>
  .ite (x0.use==x1.use) (.ite (x0.k==x1.k) (.ite (x0.l==x1.l) (.cal mZ.c (x0.rows,x1.rows,()) λc1=>
     .ret c1)<|
    .ret false)<|
   .ret false)<|
  .ret false
noncomputable def FA:=aN st Tryz.func162 [D6] (ks:=[.st .mac,.st .mac]) fu rB
noncomputable def Pi:=[ml,bN,bB,jC]
noncomputable def Pl:Fx:=⟨188,Tryz.f188,[(3000001,rA 0 26)],0⟩
noncomputable def fC:FT (Tupl×Int×Int×Int×Unit) (ae) (λ_=>True) (λx v=>sS v∧v.length≤40):=⟨λ(x0,x1,x2,x3,_)=>
  .bnd (β:=Bool×Unit) (.cal az.c (x0,()) λc1=>
   .ite (!c1) (.ret (true,()))<|
   .cal af.c (x1,32,()) λc2=>
   .ite (!c2) (.ret (true,()))<|
   .cal af.c (x2,32,()) λc3=>
   .ite (!c3) (.ret (true,()))<|
   .val (a9.f (x3,0,7,())) λc4=>
   .ret ((!c4),())) λ(u5a0,_)=>
  .ite u5a0 (.ret [])<|
  .cal au.c (x0.ip,4,()) λc6=>
  .cal au.c (x0.port,2,()) λc7=>
  .grd (Nat.ble (c6.length+c7.length) ak)<|
  .cal au.c (x0.my,2,()) λc8=>
  .grd (Nat.ble ((c6++c7).length+c8.length) ak)<|
  .cal au.c (x1,4,()) λc9=>
  .grd (Nat.ble (((c6++c7)++c8).length+c9.length) ak)<|
  .cal au.c (x2,4,()) λc10=>
  .grd (Nat.ble ((((c6++c7)++c8)++c9).length+c10.length) ak)<|
  .cal au.c (x3,1,()) λc11=>
  .grd (Nat.ble (((((c6++c7)++c8)++c9)++c10).length+c11.length) ak)<|
  .ret (((((c6++c7)++c8)++c9)++c10)++c11),
 λ(x0,x1,x2,x3,_) hp=>by
  refine Tr.B (Q':=λ_=>True) (Tr.C trivial λc1 hc1 qc1=>Tr.I (λb0=>Tr.R trivial) λb0=>Tr.C trivial λc2 hc2 qc2=>Tr.I (λb1=>Tr.R trivial) λb1=>Tr.C trivial λc3 hc3 qc3=>Tr.F (by kernel_rfl) trivial) (λ(u5a0,_) hj5 qj5=>Tr.I (λb0=>Tr.R ?_) λb0=>Tr.C trivial λc6 hc6 qc6=>Tr.C trivial λc7 hc7 qc7=>Tr.Gb ?_ λg1=>Tr.C trivial λc8 hc8 qc8=>Tr.Gb ?_ λg2=>Tr.C trivial λc9 hc9 qc9=>Tr.Gb ?_ λg3=>Tr.C trivial λc10 hc10 qc10=>Tr.Gb ?_ λg4=>Tr.C trivial λc11 hc11 qc11=>Tr.Gb ?_ λg5=>Tr.R ?_)
  all_goals ((try simp only[Tr.nice,ko]at*)<;>(first|(simp only[List.length_append,List.length_cons,List.length_nil,ak,sS]at*;omega)|grind))⟩
noncomputable def PB:=bK st Pl Pi [] (ks:=[.st .tupl,.sc (.int .i64),.sc (.int .i64),.sc (.int .i64)]) fC (λv=>[(false,[.c (.str v)])]) Tryz.func188 trivial
noncomputable def f8:FT (Recv×Unit) (Recv) (λx=>aw x.1) (λx v=>aw v∧v=x.1):=⟨λ(x0,_)=>
  .cal oA.c (x0.held,()) λc1=>
  .ret ({x0 with held:=c1}:Recv),
 λ(x0,_) hp=>by
  refine Tr.C ?_ λc1 hc1 qc1=>Tr.R ?_
  all_goals ((first|grind|(refine⟨by grind, ?_⟩;first|(simp only[List.nil_append];done)|(subst_vars;rfl)|simp_all)))⟩
noncomputable def nv:=aN st Tryz.func203 [Gt] (ks:=[.st .recv]) f8 (λv=>[(true,vo (.o true) v)])
noncomputable def AZ:=[OQ]
def kF:Sh:=⟨[zl 0 .macRow,zi 1,zi 5],[]⟩
noncomputable def AR:Fx:=⟨208,Tryz.f208,[(0,lb [0,1,5] [1,4])],0⟩
noncomputable def ki (v0:List MacRow)(v2:Int)(a:Int):Tr (Stp (Int) ((Int))):=
 .grd (cd v0 v2)<|
 .cal br.c ((v0.getD v2.toNat (Ty.zero .macRow)),a,()) λc1=>
 .ite (decide (c1<0)) (.ret (.out c1))<|
 .ret (.next c1)
noncomputable def dq:kF.V→qo kF Int (Int):=λ(v0,v1,v2,_)=>⟨v2,v1,λv2 a=>(v0,a,v2,()),λv2 _=>(decide (v2<(v0.length:Int))),ki v0,up,1,(Int.toNat ((v0.length:Int)-v2)),.inl,eR,oB .ret ⟨[zi 1,zi 4],[]⟩ (λp=>(p,(-1),())) (.exit 0) ⟨[zi 1,zu 4],[]⟩ (λx=>(x.2,()))⟩
theorem EE:LS Tryz.prog AR [0] (j8 0 kF dq):=eU st (aV AZ) _ dq [] trivial
theorem D9 {v0:List MacRow}{v1 v2:Int}(h0:0≤v2)(h1:(v0.length:Int)≤4611686018427387904):(dq (v0,v1,v2,())).U (v0.length:Int) (λ_ _=>True) (λ_=>True):=
 jV (a:=v1) h0 h1 trivial
noncomputable def dr:FX (List MacRow×Int×Unit) (Int) (λ_=>True) (cJ [.sc (.sl .macRow),.sc (.int .i64)]):=⟨λ(x0,x1,_)=>
  .ite (decide ((IntKind.wrap .i64 (x1-(x0.length:Int)))<0)) (.ret (-1))<|
  .lp (dq (x0,(IntKind.wrap .i64 (x1-(x0.length:Int))),0,())).lp λw2=> .sum w2 (λ_=>
  .ret (-1))<|
  λ(_,a2_0)=>
  .ret a2_0,
 λ(x0,x1,_) hp hf=>by
  simp only[cJ,Pk.fact,jt,hY,Fl.fact,Ty.fl,Ty.toH]at hf
  refine Tr.I (λ_=>Tr.R trivial) λ_=>Tr.L (D9 ?_ ?_) (λa2_0 _=>Tr.Sr (Tr.R trivial)) (λp2a0 _=>Tr.Sl (Tr.R trivial))
  all_goals ((try simp only[dq,LC.lp,LC.ct,Ct.lp]at*)<;>grind)⟩
theorem ab1 (r:MacRow)(k:Int)(h0:0≤k)(h1:k≤1048576)(hr:r.input.length≤4611686018427387904):br.f (r,k,())=bif decide (k-(r.input.length:Int)<0)then-1 else k-(r.input.length:Int):=by
 simp only[FX.f,br,Tr.nice]
 rw[aj (by omega) (by omega)]
theorem E3:∀(r:List MacRow) (j:Nat) (a b:Int),0≤a→a≤1048576→(∀y∈r,y.input.length≤4611686018427387904)→dh (λ_ x a=>(bif decide (br.f (x,a,())<0)then Stp.out (br.f (x,a,()))else Stp.next (br.f (x,a,())))) j r a= .next b→(0≤b∧b≤a)∧∀y∈r,y.input.length≤1048576
 |[],_,a,b,h0,h1,_,h=>by
  cases h
  exact⟨⟨h0,Int.le_refl _⟩,λy hy=>by cases hy⟩
 |x::r,j,a,b,h0,h1,hr,h=>by
  have hx:=hr x List.mem_cons_self
  have e:=ab1 x a h0 h1 hx
  simp only[dh,e]at h
  by_cases c:a-(x.input.length:Int)<0
  ·rw[decide_eq_true c,cond_true]at h;cases h
  ·rw[decide_eq_false c,cond_false,decide_eq_false c,cond_false]at h
   simp only[Stp.elim]at h
   obtain⟨h2,h3⟩:=E3 r (j+1) _ b (by omega) (by omega) (λy hy=>hr y (List.mem_cons_of_mem _ hy)) h
   refine⟨⟨h2.1,by omega⟩,λy hy=> ?_⟩
   rcases List.mem_cons.1 hy with rfl|hy
   ·omega
   ·exact h3 y hy
theorem PC (xs:List MacRow)(k:Int)(h0:0≤k)(h1:k≤1048576)(hl:xs.length≤140737488355328)(he:PH .macRow xs)(h:0≤dr.f (xs,k,())):sL aG xs∧xs.length≤1048576:=by
 have hr:∀y∈xs,y.input.length≤4611686018427387904:=λy hy=>(he y hy (.str y.input) List.mem_cons_self).slen
 have w:IntKind.wrap .i64 (k-(xs.length:Int))=k-(xs.length:Int):=aj (by omega) (by omega)
 simp only[FX.f,PX,dr,dq,w,aA]at h
 by_cases c:k-(xs.length:Int)<0
 ·rw[decide_eq_true c,cond_true]at h;omega
 rw[decide_eq_false c,cond_false]at h
 rw[bu xs _ rfl (F:=λ_ x a=>(bif decide (br.f (x,a,())<0)then Stp.out (br.f (x,a,()))else Stp.next (br.f (x,a,())))) (λj x a hx=>by
  simp only[PX,ki,ac,getD_some hx])]at h
 cases hn:dh (λ_ x a=>(bif decide (br.f (x,a,())<0)then Stp.out (br.f (x,a,()))else Stp.next (br.f (x,a,())))) 0 xs (k-(xs.length:Int))with
 |out p=>rw[hn]at h;simp only[Stp.elim]at h;omega
 |next b=>
  have:=E3 xs 0 _ b (by omega) (by omega) hr hn
  refine⟨⟨by omega,λy hy=> ?_⟩,by omega⟩
  have:=this.2 y hy
  unfold aG;omega
theorem Rf (xs:List MacRow)(k:Int)(h0:0≤k)(h1:k≤1048576)(hl:xs.length≤140737488355328)(he:PH .macRow xs)(h:0≤dr.f (xs,k,())):dr.f (xs,k,())≤k∧xs.length≤1048576∧cT aG xs:=by
 have w:IntKind.wrap .i64 (k-(xs.length:Int))=k-(xs.length:Int):=aj (by omega) (by omega)
 simp only[FX.f,PX,dr,dq,w,aA]at h⊢
 by_cases c:k-(xs.length:Int)<0
 ·rw[decide_eq_true c,cond_true]at h;omega
 rw[decide_eq_false c,cond_false]at h⊢
 have hf:∀(j:Nat) x a,xs[j]? =some x→(ki xs (j:Int) a).nice=(bif decide (br.f (x,a,())<0)then Stp.out (br.f (x,a,()))else Stp.next (br.f (x,a,()))):=λj x a hx=>by
  simp only[PX,ki,ac,getD_some hx]
 rw[bu xs _ rfl (F:=λ_ x a=>(bif decide (br.f (x,a,())<0)then Stp.out (br.f (x,a,()))else Stp.next (br.f (x,a,())))) hf]at h⊢
 cases hn:dh (λ_ x a=>(bif decide (br.f (x,a,())<0)then Stp.out (br.f (x,a,()))else Stp.next (br.f (x,a,())))) 0 xs (k-(xs.length:Int))with
 |out p=>rw[hn]at h;simp only[Stp.elim]at h;omega
 |next b=>
  obtain⟨h2,h3⟩:=Hw (λx a=>br.f (x,a,())) aG xs 0 _ b (λx hx k h0 h1 h=>(have h4:=Uy x k h0 h1 (he x hx (.str x.input) List.mem_cons_self).slen h;⟨h4.1,(by unfold aG;omega)⟩)) (by omega) (by omega) hn
  simp only[Stp.elim]
  exact⟨by omega,by omega,h3⟩
noncomputable def Lq:=Y5 st AR AZ [(j8 0 kF dq)] (ks:=[.sc (.sl .macRow),.sc (.int .i64)]) dr rI Tryz.func208 ⟨EE,trivial⟩
def wT:Sh:=⟨[zl 0 .entr,zo 3 0,zi 4],[za .entr]⟩
noncomputable def wt (v0:List Entr)(v1:Int)(a:List Entr):Tr (Stp (List Entr) (Empty)):=
 .grd (cd v0 v1)<|
 .val (EH.f ((v0.getD v1.toNat (Ty.zero .entr)),())) λc1=>
 .grd (cd a v1)<|
 .ret (.next (a.set v1.toNat c1))
noncomputable def iV:wT.V→tF wT (List Entr):=λ(v0,v1,v2,_)=>⟨v1,v2,λv1 a=>(v0,v1,a,()),λv1 _=>(decide (v1<(v0.length:Int))),wt v0,up,1,(Int.toNat ((v0.length:Int)-v1)),Empty.elim,Prod.mk,oN (.exit 0) ⟨[zu 2,zo 3 0],[za .entr]⟩ (λx=>(x.2,()))⟩
theorem FY {v0 v2:List Entr}{v1:Int}(h0:0≤v1)(h1:(v0.length:Int)≤4611686018427387904)(h2:sS v0)(h3:sS v2)(h4:v2.length=v2.length∧(v0.length:Int)≤(v2.length:Int)):(iV (v0,v1,v2,())).U (v0.length:Int) (λv1 a=>a.length=v2.length∧(v0.length:Int)≤(a.length:Int)) (λ_=>True):=
 jV (a:=v2) h0 h1 h4
noncomputable def vE:FT (List Entr×Unit) (List Entr) (λx=>sS x.1) (λx v=>sS v):=⟨λ(x0,_)=>
  .grd ((((decide (0≤(x0.length:Int)))&&(decide ((x0.length:Int)=(x0.length:Int))))&&(decide ((x0.length:Int)*24≤(aU:Int))))&&(decide ((x0.length:Int)≤(aU:Int))))<|
  .lp (iV (x0,0,(List.replicate ((x0.length:Int).toNat) (⟨0,0,0⟩:Entr)),())).lp λ(_,a2_0)=>
  .ret a2_0,
 λ(x0,_) hp=>by
  refine Tr.G4 ?_ λ_=>Tr.L (FY ?_ ?_ ?_ ?_ ?_) (λa2_0 _=>Tr.R ?_) (λp=>Empty.elim p)
  all_goals ((try simp only[iV,LC.lp,LC.ct,Ct.lp]at*)<;>grind)⟩
noncomputable def NZ:=dV st Tryz.func212 [(0,lb [0,3,4] [2,3])] [Sy] 0 iV (ks:=[.sc (.sl .entr)]) vE (λv=>[(false,[sc (.o true) .entr v])])
def uG:Sh:=⟨[zl 0 .macRow,zo 3 0,zi 4],[za .macRow]⟩
noncomputable def tU (v0:List MacRow)(v1:Int)(a:List MacRow):Tr (Stp (List MacRow) (Empty)):=
 .grd (cd v0 v1)<|
 .cal BM.c ((v0.getD v1.toNat (Ty.zero .macRow)),()) λc1=>
 .grd (cd a v1)<|
 .ret (.next (a.set v1.toNat c1))
noncomputable def gP:uG.V→tF uG (List MacRow):=λ(v0,v1,v2,_)=>⟨v1,v2,λv1 a=>(v0,v1,a,()),λv1 _=>(decide (v1<(v0.length:Int))),tU v0,up,1,(Int.toNat ((v0.length:Int)-v1)),Empty.elim,Prod.mk,oN (.exit 0) ⟨[zu 2,zo 3 0],[za .macRow]⟩ (λx=>(x.2,()))⟩
theorem En {v0 v2:List MacRow}{v1:Int}(h0:0≤v1)(h1:(v0.length:Int)≤4611686018427387904)(h2:sL aG v0)(h3:sL aG v2)(h4:v2.length=v2.length∧cT aG v2∧(v0.length:Int)≤(v2.length:Int)):(gP (v0,v1,v2,())).U (v0.length:Int) (λv1 a=>a.length=v2.length∧cT aG a∧(v0.length:Int)≤(a.length:Int)) (λ_=>True):=
 jV (a:=v2) h0 h1 h4
noncomputable def sP:FT (List MacRow×Unit) (List MacRow) (λx=>sL aG x.1) (λx v=>sL aG v):=⟨λ(x0,_)=>
  .grd ((((decide (0≤(x0.length:Int)))&&(decide ((x0.length:Int)=(x0.length:Int))))&&(decide ((x0.length:Int)*24≤(aU:Int))))&&(decide ((x0.length:Int)≤(aU:Int))))<|
  .lp (gP (x0,0,(List.replicate ((x0.length:Int).toNat) (⟨[],0⟩:MacRow)),())).lp λ(_,a2_0)=>
  .ret a2_0,
 λ(x0,_) hp=>by
  refine Tr.G4 ?_ λ_=>Tr.L (En ?_ ?_ ?_ ?_ ?_) (λa2_0 _=>Tr.R ?_) (λp=>Empty.elim p)
  all_goals ((try simp only[gP,LC.lp,LC.ct,Ct.lp]at*)<;>grind)⟩
noncomputable def K9:=dV st Tryz.func217 [(0,lb [0,3,4] [2,3])] [NA] 0 gP (ks:=[.sc (.sl .macRow)]) sP (λv=>[(false,[sc (.o true) .macRow v])])
def wP:Sh:=⟨[zl 0 .entr,zl 1 .entr,zi 5],[]⟩
noncomputable def wJ (v0 v1:List Entr)(v2:Int)(a:Unit):Tr (Stp (Unit) ((Unit))):=
 .grd (cd v0 v2)<|
 .grd (cd v1 v2)<|
 .val (zd.f ((v0.getD v2.toNat (Ty.zero .entr)),(v1.getD v2.toNat (Ty.zero .entr)),())) λc1=>
 .ite (!c1) (.ret (.out ()))<|
 .ret (.next ())
noncomputable def lc:wP.V→qo wP Unit (Unit):=λ(v0,v1,v2,_)=>⟨v2,(),λv2 _=>(v0,v1,v2,()),λv2 _=>(decide (v2<(v0.length:Int))),wJ v0 v1,up,1,(Int.toNat ((v0.length:Int)-v2)),.inl,eR,oB .ret ⟨[zb 4],[]⟩ (λ_=>(false,())) (.exit 0) ⟨[zu 4],[]⟩ (λ_=>())⟩
theorem GU {v0 v1:List Entr}{v2:Int}(h0:0≤v2)(h1:(v0.length:Int)≤4611686018427387904)(h2:(v0.length:Int)≤(v1.length:Int)):(lc (v0,v1,v2,())).U (v0.length:Int) (λ_ _=>True) (λ_=>True):=
 jV h0 h1 trivial
noncomputable def vS:FT (List Entr×List Entr×Unit) (Bool) (λx=>sS x.1∧sS x.2.1) (λ_ _=>True):= .mk (λ(x0,x1,_)=>
  .ite ((x0.length:Int) != (x1.length:Int)) (.ret false)<|
  .lp (lc (x0,x1,0,())).lp λw2=> .sum w2 (λ_=>
  .ret false)<|
  λ_=>
  .ret true) (pE @GU)
noncomputable def PJ:=dV st Tryz.func218 [(0,lb [0,1,5] [4])] [Qi] 0 lc (ks:=[.sc (.sl .entr),.sc (.sl .entr)]) vS rB
def um:Sh:=⟨[zl 0 .macRow,zl 1 .macRow,zi 5],[]⟩
noncomputable def uz (v0 v1:List MacRow)(v2:Int)(a:Unit):Tr (Stp (Unit) ((Unit))):=
 .grd (cd v0 v2)<|
 .grd (cd v1 v2)<|
 .val (vT.f ((v0.getD v2.toNat (Ty.zero .macRow)),(v1.getD v2.toNat (Ty.zero .macRow)),())) λc1=>
 .ite (!c1) (.ret (.out ()))<|
 .ret (.next ())
noncomputable def kg:um.V→qo um Unit (Unit):=λ(v0,v1,v2,_)=>⟨v2,(),λv2 _=>(v0,v1,v2,()),λv2 _=>(decide (v2<(v0.length:Int))),uz v0 v1,up,1,(Int.toNat ((v0.length:Int)-v2)),.inl,eR,oB .ret ⟨[zb 4],[]⟩ (λ_=>(false,())) (.exit 0) ⟨[zu 4],[]⟩ (λ_=>())⟩
theorem D2 {v0 v1:List MacRow}{v2:Int}(h0:0≤v2)(h1:(v0.length:Int)≤4611686018427387904)(h2:(v0.length:Int)≤(v1.length:Int)):(kg (v0,v1,v2,())).U (v0.length:Int) (λ_ _=>True) (λ_=>True):=
 jV h0 h1 trivial
noncomputable def sV:FT (List MacRow×List MacRow×Unit) (Bool) (λx=>sL aG x.1∧sL aG x.2.1) (λ_ _=>True):= .mk (λ(x0,x1,_)=>
  .ite ((x0.length:Int) != (x1.length:Int)) (.ret false)<|
  .lp (kg (x0,x1,0,())).lp λw2=> .sum w2 (λ_=>
  .ret false)<|
  λ_=>
  .ret true) (pE @D2)
noncomputable def K2:=dV st Tryz.func223 [(0,lb [0,1,5] [4])] [O8] 0 kg (ks:=[.sc (.sl .macRow),.sc (.sl .macRow)]) sV rB
def yH:Sh:=⟨[zi 1,zi 2,zo 7 0,zi 9,zi 10],[za .entr]⟩
noncomputable def Jz (v4:List Entr)(v3:Int)(a:Int):Tr (Stp (Int) (Empty)):=
 .grd (cd v4 v3)<|
 .grd (cd v4 a)<|
 .ite (decide ((v4.getD a.toNat (Ty.zero .entr)).age<(v4.getD v3.toNat (Ty.zero .entr)).age)) (.ret (.next v3))<|
 .ret (.next a)
noncomputable def j3:yH.V→tF yH Int:=λ(v0,v1,v2,v3,v4,_)=>⟨v3,v2,λv3 a=>(v0,v1,a,v3,v4,()),λv3 _=>(decide (v3<(v4.length:Int))),Jz v4,up,1,(Int.toNat ((v4.length:Int)-v3)),Empty.elim,Prod.mk,oN (.exit 0) ⟨[zi 1,zi 2,zu 6,(7,false,[.sl .any .entr]),zi 9],[]⟩ (λx=>(v0,v1,v4,x.2,()))⟩
theorem JU {v0 v1 v2 v3:Int}{v4:List Entr}(h0:0≤v3)(h1:(v4.length:Int)≤4611686018427387904)(h2:0≤v2∧v2<v4.length):(j3 (v0,v1,v2,v3,v4,())).U (v4.length:Int) (λv3 a=>0≤a∧a<v4.length) (λ_=>True):=
 jV (a:=v2) h0 h1 h2
noncomputable def uH:FT (List Entr×Int×Int×Unit) (List Entr) (λx=>sS x.1) (λx v=>sS v∧v.length≤x.1.length+1):=⟨λ(x0,x1,x2,_)=>
  .grd (Nat.ble ((2*(0+x0.length)+1024)*24) aU)<|
  .bnd (β:=Bool×Unit) (.cal tG.c (x0,()) λc1=>
   .ite (!c1) (.ret (true,()))<|
   .cal aD.c (x1,32,()) λc2=>
   .ite (!c2) (.ret (true,()))<|
   .cal aD.c (x2,48,()) λc3=>
   .ret ((!c3),())) λ(u4a0,_)=>
  .ite u4a0 (.ret ([]++x0))<|
  .cal zI.c (x0,x1,()) λc5=>
  .ite (decide (0≤c5)) (.grd (cd ([]++x0) c5)<|
   .ret (([]++x0).set c5.toNat (⟨x1,x2,0⟩:Entr)))<|
  .ite ((([]++x0).length:Int)==4) (.lp (j3 (x1,x2,0,1,([]++x0),())).lp λ(_,a6_0)=>
   .grd ((decide (0≤a6_0))&&(decide (a6_0≤(([]++x0).length:Int))))<|
   .grd (Nat.ble ((2*(0+((([]++x0).take a6_0.toNat).drop 0).length)+1024)*24) aU)<|
   .grd (KV ([]++x0) (IntKind.wrap .i64 (a6_0+1)) (([]++x0).length:Int))<|
   .grd (Nat.ble ((2*(([]++((([]++x0).take a6_0.toNat).drop 0)).length+((([]++x0).take ((([]++x0).length:Int).toNat)).drop ((IntKind.wrap .i64 (a6_0+1)).toNat)).length)+1024)*24) aU)<|
   .val (([]++((([]++x0).take a6_0.toNat).drop 0))++((([]++x0).take ((([]++x0).length:Int).toNat)).drop ((IntKind.wrap .i64 (a6_0+1)).toNat))) λl7=>
   .grd (xr l7 1 24)<|
   .ret (l7++[(⟨x1,x2,0⟩:Entr)]))<|
  .grd (xr ([]++x0) 1 24)<|
  .ret (([]++x0)++[(⟨x1,x2,0⟩:Entr)]),
 λ(x0,x1,x2,_) hp=>by
  refine Tr.Gb ?_ λ_=>Tr.B (Q':=λw=>(w.1=false→x0.length≤4)) (Tr.C ?_ λ_ _ _=>Tr.I (λ_=>Tr.R ?_) λ_=>Tr.C trivial λ_ _ _=>Tr.I (λ_=>Tr.R ?_) λ_=>Tr.C trivial λ_ _ _=>Tr.R ?_) (λ(u4a0,_) _ _=>Tr.I (λ_=>Tr.R ?_) λ_=>Tr.C ?_ λ_ _ _=>Tr.I (λ_=>Tr.G2 ?_ λ_=>Tr.R ?_) λ_=>Tr.I (λ_=>Tr.L (JU ?_ ?_ ?_) (λa6_0 _=>Tr.G2 ?_ λ_=>Tr.Gb ?_ λ_=>Tr.G3 ?_ λ_=>Tr.Gb ?_ λ_=>Tr.V λ_ _=>Tr.Gb ?_ λ_=>Tr.R ?_) (λp=>Empty.elim p)) λ_=>Tr.Gb ?_ λ_=>Tr.R ?_)
  all_goals ((try simp only[j3,LC.lp,LC.ct,Ct.lp,Tr.nice,ko]at*)<;>grind)⟩
noncomputable def E9:=dV st Tryz.func226 [(0,la ⟨[1,2,7,9,10],[],false,0⟩ ⟨[1,2,6,7,9],[.soft 7 0],false,0⟩),(3000002,rA 0 26)] [FU,bQ,DZ] 0 j3 (ks:=[.sc (.sl .entr),.sc (.int .i64),.sc (.int .i64)]) uH (λv=>[(false,[sc (.o true) .entr v])])
def yt:Sh:=⟨[zi 0,zo 5 0,zi 6],[za .u8]⟩
noncomputable def mS (v1:Int)(a:Int×List Int):Tr (Stp (Int×List Int) (Empty)):=
 .grd (cd a.2 v1)<|
 .ret (.next ((IntKind.wrap .i64 (a.1.tdiv 256)),(a.2.set v1.toNat (IntKind.wrap .u8 (a.1.tmod 256)))))
noncomputable def jU:yt.V→tF yt (Int×List Int):=λ(v0,v1,v2,_)=>⟨v1,(v0,v2),λv1 a=>(a.1,v1,a.2,()),λv1 _=>(decide (0≤v1)),mS,dn,(-1),(Int.toNat (v1-0+1)),Empty.elim,Prod.mk,oN (.exit 0) ⟨[zu 4,zo 5 0],[za .u8]⟩ (λx=>(x.2.2,()))⟩
theorem Jp {v0 v1:Int}{v2:List Int}(h0:v1≤9223372036854775807)(h1:sS v2)(h2:v2.length=v2.length∧v1<(v2.length:Int)):(jU (v0,v1,v2,())).D 0 (λv1 a=>a.2.length=v2.length∧v1<(a.2.length:Int)) (λ_=>True):=
 lcD (a:=(v0,v2)) h0 (by decide) h2
noncomputable def aO:FT (Int×Int×Unit) (ae) (λ_=>True) (λx v=>sS v∧(v.length:Int)≤max x.2.1 0):=⟨λ(x0,x1,_)=>
  .bnd (β:=Bool×Unit) (.val (bS.f (x1,1,6,())) λc1=>
   .ite (!c1) (.ret (true,()))<|
   .cal aD.c (x0,(IntKind.wrap .i64 (8*x1)),()) λc2=>
   .ret ((!c2),())) λ(u3a0,_)=>
  .ite u3a0 (.ret [])<|
  .grd ((((decide (0≤x1))&&(decide (x1=x1)))&&(decide (x1*1≤(aU:Int))))&&(decide (x1≤(aU:Int))))<|
  .lp (jU (x0,(IntKind.wrap .i64 (x1-1)),(List.replicate x1.toNat 0),())).lp λ(_,_,a4_1)=>
  .ret (aF a4_1),
 λ(x0,x1,_) hp=>by
  refine Tr.B (Q':=λ_=>True) (Tr.V λ_ _=>Tr.I (λ_=>Tr.R trivial) λ_=>Tr.C trivial λ_ _ _=>Tr.R trivial) (λ(u3a0,_) _ _=>Tr.I (λ_=>Tr.R ?_) λ_=>Tr.G4 ?_ λ_=>Tr.L (Jp ?_ ?_ ?_) (λ(a4_0,a4_1) _=>Tr.R ?_) (λp=>Empty.elim p))
  all_goals ((try simp only[jU,LC.lp,LC.ct,Ct.lp,Tr.nice,ko]at*)<;>grind)⟩
noncomputable def j7:=dV st Tryz.func232 [(0,lb [0,5,6] [4,5]),(3000001,rA 0 16)] [ci,bQ] 0 jU (ks:=[.sc (.int .i64),.sc (.int .i64)]) aO (λv=>[(false,[.c (.str v)])])
noncomputable def JN:=[j7]
noncomputable def Im:Fx:=⟨237,Tryz.f237,[(3000004,rA 0 25)],0⟩
noncomputable def np:FT (Int×Int×Int×Unit) (ae) (λ_=>True) (λx v=>sS v∧v.length≤20):=⟨λ(x0,x1,x2,_)=>
  .cal aO.c (x0,4,()) λc1=>
  .cal aO.c (x1,4,()) λc2=>
  .cal aO.c (x2,2,()) λc3=>
  .bnd (β:=Bool×Unit) (.ite (c1==[]) (.ret (true,()))<|
   .ite (c2==[]) (.ret (true,()))<|
   .ret ((c3==[]),())) λ(u4a0,_)=>
  .ite u4a0 (.ret [])<|
  .grd (Nat.ble (c1.length+c2.length) ak)<|
  .grd (Nat.ble ((c1++c2).length+2) ak)<|
  .grd (Nat.ble (((c1++c2)++[0,6]).length+c3.length) ak)<|
  .ret (((c1++c2)++[0,6])++c3),
 λ(x0,x1,x2,_) hp=>by
  refine Tr.C trivial λc1 hc1 qc1=>Tr.C trivial λc2 hc2 qc2=>Tr.C trivial λc3 hc3 qc3=>Tr.B (Q':=λ_=>True) (Tr.F (by kernel_rfl) trivial) (λ(u4a0,_) hj4 qj4=>Tr.I (λb0=>Tr.R ?_) λb0=>Tr.Gb ?_ λg1=>Tr.Gb ?_ λg2=>Tr.Gb ?_ λg3=>Tr.R ?_)
  all_goals ((try simp only[Tr.nice,ko]at*)<;>(first|(simp only[List.length_append,List.length_cons,List.length_nil,ak,sS]at*;omega)|grind))⟩
noncomputable def xJ:=bK st Im JN [] (ks:=[.sc (.int .i64),.sc (.int .i64),.sc (.int .i64)]) np (λv=>[(false,[.c (.str v)])]) Tryz.func237 trivial
def qN:Sh:=⟨[zs 0,zp 2 0,zp 4 1,zi 5],[zx .opti,zx .opti]⟩
noncomputable def cN (v0:ae)(a:Int×Opti):Tr (Stp (Int×Opti) ((Opti×Opti)⊕(Opti))):=
 .ite (decide (a.1<(v0.length:Int))) (.grd (cd v0 a.1)<|
  .ite ((ah v0 a.1.toNat) != 0) (.grd (cd v0 a.1)<|
   .ite ((ah v0 a.1.toNat)==1) (.ret (.next ((IntKind.wrap .i64 (a.1+1)),a.2)))<|
   .bnd (β:=Bool×Unit) (.ite (decide ((v0.length:Int)≤(IntKind.wrap .i64 (a.1+1)))) (.ret (true,()))<|
    .grd (cd v0 (IntKind.wrap .i64 (a.1+1)))<|
    .ite (decide ((ah v0 ((IntKind.wrap .i64 (a.1+1)).toNat))<2)) (.ret (true,()))<|
    .grd (cd v0 (IntKind.wrap .i64 (a.1+1)))<|
    .ret ((decide ((IntKind.wrap .i64 ((v0.length:Int)-a.1))<(IntKind.wrap .i64 (ah v0 ((IntKind.wrap .i64 (a.1+1)).toNat))))),())) λ(u2a0,_)=>
   .ite u2a0 (.val (cu.f (())) λc3=>
    .ret (.out (.inl (c3,a.2))))<|
   .grd (cd v0 (IntKind.wrap .i64 (a.1+1)))<|
   .val (IntKind.wrap .i64 (a.1+(IntKind.wrap .i64 (ah v0 ((IntKind.wrap .i64 (a.1+1)).toNat))))) λe4=>
   .grd (KV v0 a.1 e4)<|
   .cal HD.c (a.2,((v0.take e4.toNat).drop a.1.toNat),()) λc5=>
   .ret (.next (e4,c5)))<|
  .ret (.out (.inr (a.2))))<|
 .ret (.out (.inr (a.2)))
instance s_ReadOptions_L0_i:Inhabited ((Opti×Opti)⊕(Opti)):=⟨.inl default⟩
noncomputable def iq:qN.V→LW qN (Int×Opti) ((Opti×Opti)⊕(Opti)):=λ(v0,v1,v2,v3,_)=>⟨(v1,v3),λa=>(v0,a.1,v2,a.2,()),cN v0,Int.toNat ((v0.length:Int)-v1),oB .ret ⟨[zp 2 0,zb 3,zp 4 1],[zx .opti,zx .opti]⟩ (λp=>(false,p.1,p.2,())) (.exit 0) ⟨[zp 2 0,zu 3,zp 4 1],[zx .opti,zx .opti]⟩ (λp=>(v2,p,()))⟩
theorem Bz {v0:ae}{v1:Int}{v2 v3:Opti}(h0:sS v0)(h1:0≤v1):(iq (v0,v1,v2,v3,())).W (λ_=>True):=
 lwW (a:=(v1,v3)) (λa=>0≤a.1) (λa=>Int.toNat ((v0.length:Int)-a.1)) h1
noncomputable def kR:FT (ae×Unit) (Opti×Bool) (λx=>sS x.1) (λ_ _=>True):= .mk (λ(x0,_)=>
  .val (cu.f (())) λc1=>
  .lp (iq (x0,0,(⟨0,0,false,false,0,0⟩:Opti),c1,())).lp λq6=> .sum q6 (λ(p6a0,_)=>
  .ret (p6a0,false))<|
  λp6b0=>
  .ret (p6b0,true)) (pE @Bz)
noncomputable def F3:=N9 st Tryz.func239 [(0,lb [0,2,4,5] [2,3,4]),(3000006,rA 0 47)] [jd,X5] 0 iq (ks:=[.sc .str]) kR (λv=>[(true,pD v.1),(false,[.c (.bool v.2)])])
noncomputable def d8:FT (ae×Int×Int×Unit) (Int) (λx=>sS x.1) (λ_ _=>True):= .mk λ(x0,x1,x2,_)=>
  .cal zj.c (x0,x1,x2,()) λc1=>
  .ret c1.1
noncomputable def xY:=aN st Tryz.func262 [Q7] (ks:=[.sc .str,.sc (.int .i64),.sc (.int .i64)]) d8 rI
noncomputable def JB:=[bN,jC]
noncomputable def KH:Fx:=⟨265,Tryz.f265,[(3000001,rA 0 19)],0⟩
noncomputable def em:FT (Int×Int×Int×Unit) (ae) (λ_=>True) (λx v=>sS v∧v.length≤20):=⟨λ(x0,x1,x2,_)=>
  .bnd (β:=Bool×Unit) (.cal af.c (x0,32,()) λc1=>
   .ite (!c1) (.ret (true,()))<|
   .cal af.c (x1,32,()) λc2=>
   .ite (!c2) (.ret (true,()))<|
   .cal af.c (x2,16,()) λc3=>
   .ret ((!c3),())) λ(u4a0,_)=>
  .ite u4a0 (.ret [])<|
  .cal au.c (x0,4,()) λc5=>
  .cal au.c (x1,4,()) λc6=>
  .grd (Nat.ble (c5.length+c6.length) ak)<|
  .grd (Nat.ble ((c5++c6).length+2) ak)<|
  .cal au.c (x2,2,()) λc7=>
  .grd (Nat.ble (((c5++c6)++[0,6]).length+c7.length) ak)<|
  .ret (((c5++c6)++[0,6])++c7),
 λ(x0,x1,x2,_) hp=>by
  refine Tr.B (Q':=λ_=>True) (Tr.C trivial λc1 hc1 qc1=>Tr.I (λb0=>Tr.R trivial) λb0=>Tr.C trivial λc2 hc2 qc2=>Tr.I (λb1=>Tr.R trivial) λb1=>Tr.C trivial λc3 hc3 qc3=>Tr.R trivial) (λ(u4a0,_) hj4 qj4=>Tr.I (λb0=>Tr.R ?_) λb0=>Tr.C trivial λc5 hc5 qc5=>Tr.C trivial λc6 hc6 qc6=>Tr.Gb ?_ λg1=>Tr.Gb ?_ λg2=>Tr.C trivial λc7 hc7 qc7=>Tr.Gb ?_ λg3=>Tr.R ?_)
  all_goals ((try simp only[Tr.nice,ko]at*)<;>(first|(simp only[List.length_append,List.length_cons,List.length_nil,ak,sS]at*;omega)|grind))⟩
noncomputable def xI:=bK st KH JB [] (ks:=[.sc (.int .i64),.sc (.int .i64),.sc (.int .i64)]) em (λv=>[(false,[.c (.str v)])]) Tryz.func265 trivial
def qP:Sh:=⟨[zs 0,zp 2 0,zp 4 1,zi 5],[zx .opti,zx .opti]⟩
noncomputable def cP (v0:ae)(a:Int×Opti):Tr (Stp (Int×Opti) ((Opti)⊕(Opti×Opti))):=
 .ite (decide (a.1<(v0.length:Int))) (.grd (cd v0 a.1)<|
  .ite ((ah v0 a.1.toNat)==0) (.ret (.out (.inl a.2)))<|
  .ite ((ah v0 a.1.toNat)==1) (.ret (.next ((IntKind.wrap .i64 (a.1+1)),a.2)))<|
  .ite (decide ((v0.length:Int)≤(IntKind.wrap .i64 (a.1+1)))) (.val (bM.f (())) λc2=>
   .ret (.out (.inr ((c2,a.2)))))<|
  .grd (cd v0 (IntKind.wrap .i64 (a.1+1)))<|
  .bnd (β:=Bool×Unit) (.ite (decide ((IntKind.wrap .i64 (ah v0 ((IntKind.wrap .i64 (a.1+1)).toNat)))<2)) (.ret (true,()))<|
   .ret ((decide ((IntKind.wrap .i64 ((v0.length:Int)-a.1))<(IntKind.wrap .i64 (ah v0 ((IntKind.wrap .i64 (a.1+1)).toNat))))),())) λ(u3a0,_)=>
  .ite u3a0 (.val (bM.f (())) λc4=>
   .ret (.out (.inr ((c4,a.2)))))<|
  .bnd (β:=Bool×Unit) (.ite ((ah v0 a.1.toNat)==2) (.ret (((IntKind.wrap .i64 (ah v0 ((IntKind.wrap .i64 (a.1+1)).toNat)))==4),()))<|
   .ret (false,())) λ(u5a0,_)=>
  .ite u5a0 (.cal d8.c (v0,(IntKind.wrap .i64 (a.1+2)),2,()) λc6=>
   .val (IntKind.wrap .i64 (a.1+(IntKind.wrap .i64 (ah v0 ((IntKind.wrap .i64 (a.1+1)).toNat))))) λe7=>
   .ret (.next (e7,({a.2 with mss:=c6}:Opti))))<|
  .bnd (β:=Bool×Unit) (.ite ((ah v0 a.1.toNat)==3) (.ret (((IntKind.wrap .i64 (ah v0 ((IntKind.wrap .i64 (a.1+1)).toNat)))==3),()))<|
   .ret (false,())) λ(u8a0,_)=>
  .ite u8a0 (.grd (cd v0 (IntKind.wrap .i64 (a.1+2)))<|
   .val (β:=Int) (if 14<(IntKind.wrap .i64 (ah v0 ((IntKind.wrap .i64 (a.1+2)).toNat)))then 14 else(IntKind.wrap .i64 (ah v0 ((IntKind.wrap .i64 (a.1+2)).toNat)))) λe9=>
   .val (IntKind.wrap .i64 (a.1+(IntKind.wrap .i64 (ah v0 ((IntKind.wrap .i64 (a.1+1)).toNat))))) λe10=>
   .ret (.next (e10,({a.2 with scale:=e9}:Opti))))<|
  .bnd (β:=Bool×Unit) (.ite ((ah v0 a.1.toNat)==4) (.ret (((IntKind.wrap .i64 (ah v0 ((IntKind.wrap .i64 (a.1+1)).toNat)))==2),()))<|
   .ret (false,())) λ(u11a0,_)=>
  .ite u11a0 (.val (IntKind.wrap .i64 (a.1+(IntKind.wrap .i64 (ah v0 ((IntKind.wrap .i64 (a.1+1)).toNat))))) λe12=>
   .ret (.next (e12,({a.2 with sack:=true}:Opti))))<|
  .bnd (β:=Bool×Unit) (.ite ((ah v0 a.1.toNat)==8) (.ret (((IntKind.wrap .i64 (ah v0 ((IntKind.wrap .i64 (a.1+1)).toNat)))==10),()))<|
   .ret (false,())) λ(u13a0,_)=>
  .ite u13a0 (.cal d8.c (v0,(IntKind.wrap .i64 (a.1+2)),4,()) λc14=>
   .cal d8.c (v0,(IntKind.wrap .i64 (a.1+6)),4,()) λc15=>
   .val (IntKind.wrap .i64 (a.1+(IntKind.wrap .i64 (ah v0 ((IntKind.wrap .i64 (a.1+1)).toNat))))) λe16=>
   .ret (.next (e16,({a.2 with stamp:=true,val:=c14,echo:=c15}:Opti))))<|
  .val (IntKind.wrap .i64 (a.1+(IntKind.wrap .i64 (ah v0 ((IntKind.wrap .i64 (a.1+1)).toNat))))) λe17=>
  .ret (.next (e17,a.2)))<|
 .ret (.out (.inl a.2))
instance i_ReadOptions_L0_i:Inhabited ((Opti)⊕(Opti×Opti)):=⟨.inl default⟩
noncomputable def iJ:qP.V→LW qP (Int×Opti) ((Opti)⊕(Opti×Opti)):=λ(v0,v1,v2,v3,_)=>⟨(v1,v3),λa=>(v0,a.1,v2,a.2,()),cP v0,Int.toNat ((v0.length:Int)-v1),oB (.exit 0) ⟨[zp 2 0,zu 3,zp 4 1],[zx .opti,zx .opti]⟩ (λp=>(v2,p,())) .ret ⟨[zp 2 0,zb 3,zp 4 1],[zx .opti,zx .opti]⟩ (λp=>(false,p.1,p.2,()))⟩
theorem BJ {v0:ae}{v1:Int}{v2 v3:Opti}(h0:sS v0)(h1:0≤v1):(iJ (v0,v1,v2,v3,())).W (λ_=>True):=
 lwW (a:=(v1,v3)) (λa=>0≤a.1) (λa=>Int.toNat ((v0.length:Int)-a.1)) h1
noncomputable def kM:FT (ae×Unit) (Opti×Bool) (λx=>sS x.1) (λ_ _=>True):= .mk (λ(x0,_)=>
  .val (bM.f (())) λc1=>
  .lp (iJ (x0,0,(⟨0,0,false,false,0,0⟩:Opti),c1,())).lp λq18=> .sum q18 (λp18a0=>
  .ret (p18a0,true))<|
  λ(p18b0,_)=>
  .ret (p18b0,false)) (pE @BJ)
noncomputable def Gj:=N9 st Tryz.func266 [(0,lb [0,2,4,5] [2,3,4]),(3000011,rA 0 42),(3000013,rA 0 44),(3000015,rA 0 56),(3000017,rA 0 70),(3000019,rA 0 78)] [i1,xY] 0 iJ (ks:=[.sc .str]) kM (λv=>[(true,pD v.1),(false,[.c (.bool v.2)])])
noncomputable def LR:=[bQ,ci]
noncomputable def LM:Fx:=⟨270,Tryz.f270,[(3000001,rA 0 15)],0⟩
noncomputable def eB:FT (Opti×Unit) (Bool) (λ_=>True) (λ_ _=>True):= .mk λ(x0,_)=>
  .bnd (β:=Bool×Unit) (.ite (!x0.stamp) (.ite (x0.val != 0) (.ret (true,()))<|
    .ret ((x0.echo != 0),()))<|
   .ret (false,())) λ(u1a0,_)=>
  .ite u1a0 (.ret false)<|
  .cal aD.c (x0.mss,16,()) λc2=>
  .ite c2 (.val (bS.f (x0.scale,(-1),14,())) λc3=>
   .ite c3 (.cal aD.c (x0.val,32,()) λc4=>
    .ite c4 (.cal aD.c (x0.echo,32,()) λc5=>
     .ret c5)<|
    .ret false)<|
   .ret false)<|
  .ret false
noncomputable def kT:=bK st LM LR [] (ks:=[.st .opti]) eB rB Tryz.func270 trivial
noncomputable def V2:=[ml,kB,rZ,kW,bB]
def J9:An:=⟨⟨[],[],false,0⟩,⟨[1,2,3],[],false,0⟩,⟨[],[]⟩,[(.normal,⟨[zp 1 0,zb 2,zi 3],[zg .conn]⟩)]⟩
noncomputable def Uk:Fx:=⟨272,Tryz.f272,[(1000037,J9),(3000001,rA 0 34),(3000006,rA 0 62)],0⟩
noncomputable def aI:FT (Conn×Unit) (Bool) (λx=>aa x.1) (λx v=>(v=true→SO x.1.s∧RO x.1.r)):= .mk λ(x0,_)=>
  .bnd (β:=Bool×Unit) (.as (λw=>(w.1=false→SO x0.s∧RO x0.r∧cT (pw (YF x0.r)) x0.r.held)) (.cal az.c (x0.tuple,()) λc1=>
   .ite (!c1) (.ret (true,()))<|
   .cal ba.c (x0.s,()) λc2=>
   .ite (!c2) (.ret (true,()))<|
   .cal bg.c (x0.r,()) λc3=>
   .ite (!c3) (.ret (true,()))<|
   .cal aH.c (x0.opts,()) λc4=>
   .ite (!c4) (.ret (true,()))<|
   .val (a9.f (x0.state,1,8,())) λc5=>
   .ret ((!c5),()))) λ(u6a0,_)=>
  .ite u6a0 (.ret false)<|
  .bnd (β:=Bool×Int×Conn×Unit) (.as (λw=>aa w.2.2.1) (.ite (x0.state==7) (.ret (false,4,x0,()))<|
   .ret (false,3,x0,()))) λ(_,u7a1,u7a2,_)=>
  .bnd (β:=Bool×Unit) (.val (a9.f (u7a2.most,0,1073725440,())) λc8=>
   .ite (!c8) (.ret (true,()))<|
   .val (a9.f (u7a2.window,0,u7a2.most,())) λc9=>
   .ite (!c9) (.ret (true,()))<|
   .val (a9.f (u7a2.timer,0,u7a1,())) λc10=>
   .ite (!c10) (.ret (true,()))<|
   .val (a9.f (u7a2.tries,0,3,())) λc11=>
   .ret ((!c11),())) λ(u12a0,_)=>
  .ite u12a0 (.ret false)<|
  .ite (u7a2.state==1) (.ite (!u7a2.s.fin) (.ite (!u7a2.s.done) (.ret (!u7a2.r.done))<|
    .ret false)<|
   .ret false)<|
  .ite (u7a2.state==2) (.ite u7a2.s.fin (.ite (!u7a2.s.done) (.ret (!u7a2.r.done))<|
    .ret false)<|
   .ret false)<|
  .ite (u7a2.state==3) (.ite u7a2.s.fin (.ite u7a2.s.done (.ret (!u7a2.r.done))<|
    .ret false)<|
   .ret false)<|
  .ite (u7a2.state==4) (.ite (!u7a2.s.fin) (.ite (!u7a2.s.done) (.ret u7a2.r.done)<|
    .ret false)<|
   .ret false)<|
  .ite (u7a2.state==5) (.ite (u7a2.state==5) (.ite u7a2.s.fin (.ite (!u7a2.s.done) (.ret u7a2.r.done)<|
     .ret false)<|
    .ret false)<|
   .ite (u7a2.state==7) (.ite u7a2.s.fin (.ite u7a2.s.done (.ret u7a2.r.done)<|
     .ret false)<|
    .ret false)<|
   .ret true)<|
  .ite (u7a2.state==6) (.ite u7a2.s.fin (.ite (!u7a2.s.done) (.ret u7a2.r.done)<|
    .ret false)<|
   .ret false)<|
  .ite (u7a2.state==7) (.ite u7a2.s.fin (.ite u7a2.s.done (.ret u7a2.r.done)<|
    .ret false)<|
   .ret false)<|
  .ret true
noncomputable def gu:=bK st Uk V2 [] (ks:=[.st .conn]) aI rB Tryz.func272 trivial
noncomputable def Rq:=[xY,D1]
noncomputable def RY:Fx:=⟨278,Tryz.f278,[(3000001,rA 0 12)],0⟩
noncomputable def un:FT (ae×Unit) (Arpm×Bool) (λx=>sS x.1) (λ_ _=>True):= .mk λ(x0,_)=>
  .bnd (β:=Bool×Unit) (.ite (decide ((x0.length:Int)<28)) (.ret (true,()))<|
   .grd (decide (6≤(x0.length:Int)))<|
   .ret ((!(((x0.take 6).drop 0)==[0,1,8,0,6,4])),())) λ(u1a0,_)=>
  .ite u1a0 (.ret ((⟨0,0,0,0,0⟩:Arpm),false))<|
  .cal d8.c (x0,6,2,()) λc2=>
  .cal d8.c (x0,8,6,()) λc3=>
  .cal d8.c (x0,14,4,()) λc4=>
  .cal d8.c (x0,18,6,()) λc5=>
  .cal d8.c (x0,24,4,()) λc6=>
  .cal nf.c ((⟨c2,c3,c4,c5,c6⟩:Arpm),()) λc7=>
  .ite (!c7) (.ret ((⟨0,0,0,0,0⟩:Arpm),false))<|
  .ret ((⟨c2,c3,c4,c5,c6⟩:Arpm),true)
noncomputable def S5:=bK st RY Rq [] (ks:=[.sc .str]) un (λv=>[(true,Pa v.1),(false,[.c (.bool v.2)])]) Tryz.func278 trivial
noncomputable def xH:=[wM,Ff,bN,Ez]
def mC:Sh:=⟨[zi 1,zi 2,zo 7 0,zi 29,zi 30],[za .entr]⟩
def mY:Sh:=⟨[zi 1,zi 2,zo 7 0,zi 9,zo 54 0,zi 55,zi 56],[za .entr]⟩
noncomputable def yT:Fx:=⟨279,Tryz.f279,[(0,lb [1,2,7,29,30] [1,2,6,7]),(2,lb [1,2,7,9,54,55,56] [1,2,6,7,9]),(3000002,rA 0 26)],0⟩
noncomputable def xG (v0 v1:Int)(v4:List Entr)(v3:Int)(a:Unit):Tr (Stp (Unit) ((List Entr))):=
 .grd (cd v4 v3)<|
 .ite ((v4.getD v3.toNat (Ty.zero .entr)).ip==v0) (.grd (cd v4 v3)<|
  .grd ((decide (0≤v3))&&(decide (v3<((v4.set v3.toNat ({(v4.getD v3.toNat (Ty.zero .entr))with hw:=v1}:Entr)).length:Int))))<|
  .val ((v4.set v3.toNat ({(v4.getD v3.toNat (Ty.zero .entr))with hw:=v1}:Entr)).set v3.toNat ({((v4.set v3.toNat ({(v4.getD v3.toNat (Ty.zero .entr))with hw:=v1}:Entr)).getD v3.toNat (Ty.zero .entr))with age:=0}:Entr)) λl6=>
  .ret (.out l6))<|
 .ret (.next ())
noncomputable def fL:mC.V→qo mC Unit (List Entr):=λ(v0,v1,v2,v3,v4,_)=>⟨v3,(),λv3 _=>(v0,v1,v2,v3,v4,()),λv3 _=>(decide (v3<v2)),xG v0 v1 v4,up,1,(Int.toNat (v2-v3)),.inl,eR,oB .ret ⟨[zi 1,zi 2,zo 6 0,zo 7 0],[za .entr]⟩ (λp=>(v0,v1,p,())) (.exit 0) ⟨[zi 1,zi 2,zu 6,zo 7 0],[za .entr]⟩ (λ_=>(v0,v1,v4,()))⟩
theorem Jr:LS Tryz.prog yT [0] (j8 0 mC fL):=eU st (aV xH) _ fL [] trivial
theorem Kw {v0 v1 v2 v3:Int}{v4:List Entr}(h0:0≤v3)(h1:v2≤4611686018427387904)(h2:sS v4)(h3:v2≤(v4.length:Int)):(fL (v0,v1,v2,v3,v4,())).U v2 (λ_ _=>True) (λp=>sS p):=
 jV h0 h1 trivial
noncomputable def er (v5:List Entr)(v4:Int)(a:Int):Tr (Stp (Int) (Empty)):=
 .grd (cd v5 v4)<|
 .grd (cd v5 a)<|
 .ite (decide ((v5.getD a.toNat (Ty.zero .entr)).age<(v5.getD v4.toNat (Ty.zero .entr)).age)) (.ret (.next v4))<|
 .ret (.next a)
noncomputable def fx:mY.V→tF mY Int:=λ(v0,v1,v2,v3,v4,v5,_)=>⟨v4,v2,λv4 a=>(v0,v1,a,v3,v4,v5,()),λv4 _=>(decide (v4<v3)),er v5,up,1,(Int.toNat (v3-v4)),Empty.elim,Prod.mk,oN (.exit 2) ⟨[zi 1,zi 2,zu 6,zo 7 0,zi 9],[za .entr]⟩ (λx=>(v0,v1,x.2,v5,()))⟩
theorem Kk:LS Tryz.prog yT [1] (j8 2 mY fx):=eU st (aV xH) _ fx [] trivial
theorem KR {v0 v1 v2 v3 v4:Int}{v5:List Entr}(h0:0≤v4)(h1:v3≤4611686018427387904)(h2:v3≤(v5.length:Int))(h3:0≤v2∧v2<v5.length):(fx (v0,v1,v2,v3,v4,v5,())).U v3 (λv4 a=>0≤a∧a<v5.length) (λ_=>True):=
 jV (a:=v2) h0 h1 h3
noncomputable def uk:FT (List Entr×Int×Int×Unit) (List Entr) (λx=>sS x.1) (λx v=>sS v):=⟨λ(x0,x1,x2,_)=>
  .cal gq.c (x0,()) λc1=>
  .bnd (β:=Bool×Unit) (.cal fZ.c (x0,()) λc2=>
   .ite (!c2) (.ret (true,()))<|
   .cal af.c (x1,32,()) λc3=>
   .ite (!c3) (.ret (true,()))<|
   .cal af.c (x2,48,()) λc4=>
   .ret ((!c4),())) λ(u5a0,_)=>
  .ite u5a0 (.ret c1)<|
  .lp (fL (x1,x2,(c1.length:Int),0,c1,())).lp λw7=> .sum w7 (λp7a0=>
  .ret p7a0)<|
  λ_=>
  .ite ((c1.length:Int)==4) (.lp (fx (x1,x2,0,(c1.length:Int),0,c1,())).lp λ(_,a8_0)=>
   .cal qR.c (c1,a8_0,(IntKind.wrap .i64 (a8_0+1)),()) λc9=>
   .grd (xr (c9.2.take c9.1) 1 24)<|
   .ret ((c9.2.take c9.1)++[(⟨x1,x2,0⟩:Entr)]))<|
  .grd (xr c1 1 24)<|
  .ret (c1++[(⟨x1,x2,0⟩:Entr)]),
 λ(x0,x1,x2,_) hp=>by
  refine Tr.C ?_ λ_ _ _=>Tr.B (Q':=λw=>(w.1=false→x0.length≤4)) (Tr.C ?_ λ_ _ _=>Tr.I (λ_=>Tr.R ?_) λ_=>Tr.C trivial λ_ _ _=>Tr.I (λ_=>Tr.R ?_) λ_=>Tr.C trivial λ_ _ _=>Tr.R ?_) (λ(u5a0,_) _ _=>Tr.I (λ_=>Tr.R ?_) λ_=>Tr.L (Kw ?_ ?_ ?_ ?_) (λ_ _=>Tr.Sr (Tr.I (λ_=>Tr.L (KR ?_ ?_ ?_ ?_) (λa8_0 _=>Tr.C ?_ λ_ _ _=>Tr.Gb ?_ λ_=>Tr.R ?_) (λp=>Empty.elim p)) λ_=>Tr.Gb ?_ λ_=>Tr.R ?_)) (λp7a0 _=>Tr.Sl (Tr.R ?_)))
  all_goals ((try simp only[fL,fx,LC.lp,LC.ct,Ct.lp,Tr.nice,ko]at*)<;>grind)⟩
noncomputable def Ti:=bK st yT xH [(j8 0 mC fL),(j8 2 mY fx)] (ks:=[.sc (.sl .entr),.sc (.int .i64),.sc (.int .i64)]) uk (λv=>[(false,[sc (.o true) .entr v])]) Tryz.func279 ⟨Jr,Kk,trivial⟩
noncomputable def Pd:=[D1]
noncomputable def Ov:Fx:=⟨280,Tryz.f280,[(3000002,rA 0 29)],0⟩
noncomputable def n3:FT (Arpm×Int×Int×Unit) (Arpm×Bool) (λ_=>True) (λ_ _=>True):= .mk λ(x0,x1,x2,_)=>
  .bnd (β:=Bool×Unit) (.ite (x0.kind != 1) (.ret (true,()))<|
   .ite (x0.dstIp != x2) (.ret (true,()))<|
   .cal nf.c ((⟨2,x1,x2,x0.srcHw,x0.srcIp⟩:Arpm),()) λc1=>
   .ret ((!c1),())) λ(u2a0,_)=>
  .ite u2a0 (.ret ((⟨0,0,0,0,0⟩:Arpm),false))<|
  .ret ((⟨2,x1,x2,x0.srcHw,x0.srcIp⟩:Arpm),true)
noncomputable def Ox:=bK st Ov Pd [] (ks:=[.st .arpm,.sc (.int .i64),.sc (.int .i64)]) n3 (λv=>[(true,Pa v.1),(false,[.c (.bool v.2)])]) Tryz.func280 trivial
noncomputable def gj:FT (Fram×Unit) (ae) (λx=>qa x.1) (λx v=>sS v∧v.length≤1600):=⟨λ(x0,_)=>
  .cal f7.c (x0,()) λc1=>
  .ite (!c1) (.ret [])<|
  .cal au.c (x0.dst,6,()) λc2=>
  .cal au.c (x0.src,6,()) λc3=>
  .grd (Nat.ble (c2.length+c3.length) ak)<|
  .cal au.c (x0.type,2,()) λc4=>
  .grd (Nat.ble ((c2++c3).length+c4.length) ak)<|
  .grd (Nat.ble (((c2++c3)++c4).length+x0.body.length) ak)<|
  .ret (((c2++c3)++c4)++x0.body),
 λ(x0,_) hp=>by
  refine Tr.C trivial λc1 hc1 qc1=>Tr.I (λb0=>Tr.R ?_) λb0=>Tr.C trivial λc2 hc2 qc2=>Tr.C trivial λc3 hc3 qc3=>Tr.Gb ?_ λg1=>Tr.C trivial λc4 hc4 qc4=>Tr.Gb ?_ λg2=>Tr.Gb ?_ λg3=>Tr.R ?_
  all_goals ((first|(simp only[List.length_append,List.length_cons,List.length_nil,ak,sS]at*;omega)|grind))⟩
noncomputable def AE:=aN st Tryz.func281 [FN,jC] (ks:=[.st .fram]) gj (λv=>[(false,[.c (.str v)])])
noncomputable def kA:FT (Arpm×Unit) (ae) (λ_=>True) (λx v=>sS v∧v.length≤40):=⟨λ(x0,_)=>
  .cal nf.c (x0,()) λc1=>
  .ite (!c1) (.ret [])<|
  .cal au.c (x0.kind,2,()) λc2=>
  .grd (Nat.ble (6+c2.length) ak)<|
  .cal au.c (x0.srcHw,6,()) λc3=>
  .grd (Nat.ble (([0,1,8,0,6,4]++c2).length+c3.length) ak)<|
  .cal au.c (x0.srcIp,4,()) λc4=>
  .grd (Nat.ble ((([0,1,8,0,6,4]++c2)++c3).length+c4.length) ak)<|
  .cal au.c (x0.dstHw,6,()) λc5=>
  .grd (Nat.ble (((([0,1,8,0,6,4]++c2)++c3)++c4).length+c5.length) ak)<|
  .cal au.c (x0.dstIp,4,()) λc6=>
  .grd (Nat.ble ((((([0,1,8,0,6,4]++c2)++c3)++c4)++c5).length+c6.length) ak)<|
  .ret ((((([0,1,8,0,6,4]++c2)++c3)++c4)++c5)++c6),
 λ(x0,_) hp=>by
  refine Tr.C trivial λc1 hc1 qc1=>Tr.I (λb0=>Tr.R ?_) λb0=>Tr.C trivial λc2 hc2 qc2=>Tr.Gb ?_ λg1=>Tr.C trivial λc3 hc3 qc3=>Tr.Gb ?_ λg2=>Tr.C trivial λc4 hc4 qc4=>Tr.Gb ?_ λg3=>Tr.C trivial λc5 hc5 qc5=>Tr.Gb ?_ λg4=>Tr.C trivial λc6 hc6 qc6=>Tr.Gb ?_ λg5=>Tr.R ?_
  all_goals ((first|(simp only[List.length_append,List.length_cons,List.length_nil,ak,sS]at*;omega)|grind))⟩
noncomputable def QB:=aN st Tryz.func282 [D1,jC] (ks:=[.st .arpm]) kA (λv=>[(false,[.c (.str v)])])
noncomputable def jP:FT (Mac×Unit) (Mac) (λx=>cE x.1) (λx v=>cE v∧v=x.1):=⟨λ(x0,_)=>
  .cal nA.c (x0.rows,()) λc1=>
  .ret ({x0 with rows:=c1}:Mac),
 λ(x0,_) hp=>by
  refine Tr.C ?_ λc1 hc1 qc1=>Tr.R ?_
  all_goals ((first|grind|(refine⟨by grind, ?_⟩;first|(simp only[List.nil_append];done)|(subst_vars;rfl)|simp_all)))⟩
noncomputable def vF:=aN st Tryz.func285 [ED] (ks:=[.st .mac]) jP (λv=>[(true,Rp (.o true) v)])
noncomputable def VU:=[kB]
noncomputable def Vn:Fx:=⟨288,Tryz.f288,[(3000001,rA 0 13)],0⟩
noncomputable def B6:FT (Sndr×ae×Unit) (Sndr×Int) (λx=>bP x.1∧sS x.2.1) (λx v=>bP v.1):= .mk λ(x0,x1,_)=>
  .bnd (β:=Bool×Unit) (.as (λw=>(w.1=false→SO x0)) (.cal ba.c (x0,()) λc1=>
   .ite (!c1) (.ret (true,()))<|
   .ret (x0.fin,()))) λ(u2a0,_)=>
  .ite u2a0 (.ret (x0,0))<|
  .val (β:=Int) (if(IntKind.wrap .i64 (48-(x0.data.length:Int)))<(x1.length:Int)then(IntKind.wrap .i64 (48-(x0.data.length:Int)))else(x1.length:Int)) λe3=>
  .grd ((decide (0≤e3))&&(decide (e3≤(x1.length:Int))))<|
  .grd (Nat.ble (x0.data.length+((x1.take e3.toNat).drop 0).length) ak)<|
  .ret (({x0 with data:=(x0.data++((x1.take e3.toNat).drop 0))}:Sndr),e3)
noncomputable def VX:=bK st Vn VU [] (ks:=[.st .sndr,.sc .str]) B6 (λv=>[(true,wa v.1),(false,[.c (.int .i64 v.2)])]) Tryz.func288 trivial
noncomputable def zH:FT (Recv×Int×Unit) (Recv×ae) (λx=>aw x.1) (λx v=>aw v.1∧sS v.2):= .mk λ(x0,x1,_)=>
  .cal f8.c (x0,()) λc1=>
  .cal bg.c (x0,()) λc2=>
  .ite (!c2) (.ret (c1,[]))<|
  .val (β:=Int) (if 0<(if(x0.data.length:Int)<x1 then(x0.data.length:Int)else x1)then(if(x0.data.length:Int)<x1 then(x0.data.length:Int)else x1)else 0) λe3=>
  .grd (KV x0.data e3 (x0.data.length:Int))<|
  .grd ((decide (0≤e3))&&(decide (e3≤(x0.data.length:Int))))<|
  .ret (({c1 with data:=((x0.data.take ((x0.data.length:Int).toNat)).drop e3.toNat)}:Recv),((x0.data.take e3.toNat).drop 0))
noncomputable def S0:=aN st Tryz.func290 [nv,rZ] (ks:=[.st .recv,.sc (.int .i64)]) zH (λv=>[(true,vo (.o true) v.1),(false,[.c (.str v.2)])])
def qH:Sh:=⟨[zs 3],[]⟩
def A5:An:=⟨⟨[],[],false,0⟩,⟨[1,2,3],[],false,0⟩,⟨[],[]⟩,[(.normal,⟨[zp 1 0,zs 2,zs 3],[zx .opti]⟩)]⟩
def Ae:An:=⟨⟨[],[],false,0⟩,⟨[1,2,3],[],false,0⟩,⟨[],[]⟩,[(.normal,⟨[zp 1 0,zs 2,zs 3],[zx .opti]⟩)]⟩
def Ad:An:=⟨⟨[],[],false,0⟩,⟨[1,2,3],[],false,0⟩,⟨[],[]⟩,[(.normal,⟨[zp 1 0,zs 2,zs 3],[zx .opti]⟩)]⟩
def Am:An:=⟨⟨[],[],false,0⟩,⟨[2,3],[],false,0⟩,⟨[],[]⟩,[(.normal,⟨[zs 2,zs 3],[]⟩)]⟩
noncomputable def rR (a:ae):Tr (Stp (ae) ((ae))):=
 .ite (((a.length:Int).tmod 4) != 0) (.grd (Nat.ble (a.length+1) ak)<|
  .ret (.next (a++[1])))<|
 .ret (.out a)
noncomputable def iT:qH.V→LW qH (ae) ((ae)):=λ(v0,_)=>⟨v0,λa=>(a,()),rR,(4-v0.length%4)%4,oN (.exit 0) ⟨[zu 2,zs 3],[]⟩ (λp=>(p,()))⟩
theorem Bl {v0:ae}(h0:v0.length+(4-v0.length%4)%4≤20):(iT (v0,())).W (λp=>p.length≤20):=
 lwW (a:=v0) (λa=>a.length+(4-a.length%4)%4≤20) (λa=>(4-a.length%4)%4) h0
noncomputable def cr:FT (Opti×Unit) (ae) (λ_=>True) (λx v=>sS v∧v.length≤20):= .mk (λ(x0,_)=>
  .cal aH.c (x0,()) λc1=>
  .ite (!c1) (.ret [])<|
  .bnd (β:=ae×ae×Opti×Unit) (.as (λw=>sS w.1∧sS w.2.1∧w.2.1.length≤4) (.ite (x0.mss != 0) (.cal au.c (x0.mss,2,()) λc2=>
    .grd (Nat.ble (2+c2.length) ak)<|
    .grd (Nat.ble (0+([2,4]++c2).length) ak)<|
    .ret ([],([]++([2,4]++c2)),x0,()))<|
   .ret ([],[],x0,()))) λ(u3a0,u3a1,u3a2,_)=>
  .bnd (β:=ae×ae×Opti×Unit) (.as (λw=>sS w.1∧sS w.2.1∧w.2.1.length≤7) (.ite (u3a2.scale != (-1)) (.cal au.c (u3a2.scale,1,()) λc4=>
    .grd (Nat.ble (2+c4.length) ak)<|
    .grd (Nat.ble (u3a1.length+([3,3]++c4).length) ak)<|
    .ret (u3a0,(u3a1++([3,3]++c4)),u3a2,()))<|
   .ret (u3a0,u3a1,u3a2,()))) λ(u5a0,u5a1,u5a2,_)=>
  .bnd (β:=ae×ae×Opti×Unit) (.as (λw=>sS w.1∧sS w.2.1∧w.2.1.length≤9) (.ite u5a2.sack (.grd (Nat.ble (u5a1.length+2) ak)<|
    .ret (u5a0,(u5a1++[4,2]),u5a2,()))<|
   .ret (u5a0,u5a1,u5a2,()))) λ(u6a0,u6a1,u6a2,_)=>
  .bnd (β:=ae×ae×Unit) (.as (λw=>sS w.1∧sS w.2.1∧w.2.1.length≤19) (.ite u6a2.stamp (.cal au.c (u6a2.val,4,()) λc7=>
    .grd (Nat.ble (2+c7.length) ak)<|
    .cal au.c (u6a2.echo,4,()) λc8=>
    .grd (Nat.ble (([8,10]++c7).length+c8.length) ak)<|
    .grd (Nat.ble (u6a1.length+(([8,10]++c7)++c8).length) ak)<|
    .ret (u6a0,(u6a1++(([8,10]++c7)++c8)),()))<|
   .ret (u6a0,u6a1,()))) λ(_,u9a1,_)=>
  .lp (iT (u9a1,())).lp λp10a0=>
  .ret p10a0) (pE @Bl)
noncomputable def GO:=N9 st Tryz.func293 [(0,lb [3] [2,3]),(1000009,A5),(1000018,Ae),(1000026,Ad),(1000030,Am)] [kW,jC] 0 iT (ks:=[.st .opti]) cr (λv=>[(false,[.c (.str v)])])
noncomputable def sW:FT (ae×Unit) (Int) (λx=>sS x.1) (λ_ _=>True):= .mk λ(x0,_)=>
  .cal qu.c (x0,()) λc1=>
  .cal Dh.c (c1,()) λc2=>
  .ret (IntKind.wrap .i64 (65535-c2))
noncomputable def EK:=aN st Tryz.func295 [QU,U4] (ks:=[.sc .str]) sW rI
noncomputable def pS:FT (Pack×Unit) (ae) (λx=>kt x.1) (λx v=>sS v∧v.length≤1520):=⟨λ(x0,_)=>
  .cal lI.c (x0,()) λc1=>
  .ite (!c1) (.ret [])<|
  .cal au.c ((IntKind.wrap .i64 (20+(x0.body.length:Int))),2,()) λc2=>
  .grd (Nat.ble (2+c2.length) ak)<|
  .cal au.c (x0.id,2,()) λc3=>
  .grd (Nat.ble (([69,0]++c2).length+c3.length) ak)<|
  .grd (Nat.ble ((([69,0]++c2)++c3).length+2) ak)<|
  .cal au.c (x0.ttl,1,()) λc4=>
  .grd (Nat.ble (((([69,0]++c2)++c3)++[0,0]).length+c4.length) ak)<|
  .cal au.c (x0.proto,1,()) λc5=>
  .grd (Nat.ble ((((([69,0]++c2)++c3)++[0,0])++c4).length+c5.length) ak)<|
  .cal au.c (x0.src,4,()) λc6=>
  .cal au.c (x0.dst,4,()) λc7=>
  .grd (Nat.ble (c6.length+c7.length) ak)<|
  .grd (Nat.ble (((((([69,0]++c2)++c3)++[0,0])++c4)++c5).length+2) ak)<|
  .grd (Nat.ble ((((((([69,0]++c2)++c3)++[0,0])++c4)++c5)++[0,0]).length+(c6++c7).length) ak)<|
  .val ((((((([69,0]++c2)++c3)++[0,0])++c4)++c5)++[0,0])++(c6++c7)) λe8=>
  .cal sW.c (e8,()) λc9=>
  .cal au.c (c9,2,()) λc10=>
  .grd (Nat.ble (((((([69,0]++c2)++c3)++[0,0])++c4)++c5).length+c10.length) ak)<|
  .grd (Nat.ble ((((((([69,0]++c2)++c3)++[0,0])++c4)++c5)++c10).length+(c6++c7).length) ak)<|
  .val ((((((([69,0]++c2)++c3)++[0,0])++c4)++c5)++c10)++(c6++c7)) λe11=>
  .grd (Nat.ble (e11.length+x0.body.length) ak)<|
  .ret (e11++x0.body),
 λ(x0,_) hp=>by
  refine Tr.C trivial λc1 hc1 qc1=>Tr.I (λb0=>Tr.R ?_) λb0=>Tr.C trivial λc2 hc2 qc2=>Tr.Gb ?_ λg1=>Tr.C trivial λc3 hc3 qc3=>Tr.Gb ?_ λg2=>Tr.Gb ?_ λg3=>Tr.C trivial λc4 hc4 qc4=>Tr.Gb ?_ λg4=>Tr.C trivial λc5 hc5 qc5=>Tr.Gb ?_ λg5=>Tr.C trivial λc6 hc6 qc6=>Tr.C trivial λc7 hc7 qc7=>Tr.Gb ?_ λg6=>Tr.Gb ?_ λg7=>Tr.Gb ?_ λg8=>Tr.V λe8 he8=>Tr.C ?_ λc9 hc9 qc9=>Tr.C trivial λc10 hc10 qc10=>Tr.Gb ?_ λg9=>Tr.Gb ?_ λg10=>Tr.V λe11 he11=>Tr.Gb ?_ λg11=>Tr.R ?_
  all_goals ((first|(simp only[List.length_append,List.length_cons,List.length_nil,ak,sS]at*;omega)|grind))⟩
noncomputable def KS:=aN st Tryz.func296 [Oy,jC,EK] (ks:=[.st .pack]) pS (λv=>[(false,[.c (.str v)])])
noncomputable def OC:=[vF]
noncomputable def Ou:Fx:=⟨303,Tryz.f303,[(3000003,rA 0 14)],0⟩
noncomputable def nH:FT (Keys×Int×Unit) (Mac×Bool) (λx=>cK x.1) (λx v=>cE v.1):= .mk λ(x0,x1,_)=>
  .ite (x1==x0.epoch) (.cal jP.c (x0.now,()) λc1=>
   .ret (c1,true))<|
  .bnd (β:=Bool×Unit) (.ite x0.two (.ret ((x1==(IntKind.wrap .i64 (x0.epoch-1))),()))<|
   .ret (false,())) λ(u2a0,_)=>
  .ite u2a0 (.cal jP.c (x0.before,()) λc3=>
   .ret (c3,true))<|
  .ret ((⟨false,0,0,[]⟩:Mac),false)
noncomputable def Nl:=bK st Ou OC [] (ks:=[.st .keys,.sc (.int .i64)]) nH (λv=>[(true,Rp (.o true) v.1),(false,[.c (.bool v.2)])]) Tryz.func303 trivial
noncomputable def j1:FT (Segm×Unit) (Segm×Bool) (λx=>am x.1) (λx v=>am v.1):= .mk λ(x0,_)=>
  .val (bk.f (x0,4,())) λc1=>
  .ite c1 (.ret ((⟨0,0,0,0,0,0,⟨0,0,false,false,0,0⟩,[]⟩:Segm),false))<|
  .val (bM.f (())) λc2=>
  .val (bk.f (x0,16,())) λc3=>
  .ite c3 (.ret ((⟨x0.to,x0.from_,x0.ack,0,4,0,c2,[]⟩:Segm),true))<|
  .cal aK.c (x0,()) λc4=>
  .val (bG.f (x0.seq,c4,())) λc5=>
  .ret ((⟨x0.to,x0.from_,0,c5,20,0,c2,[]⟩:Segm),true)
noncomputable def OZ:=aN st Tryz.func305 [zt,i1,rz,fN] (ks:=[.st .segm]) j1 (λv=>[(true,th v.1),(false,[.c (.bool v.2)])])
noncomputable def Rs:=[kW,i1,bN,I3,fN,Gs]
def GD:An:=⟨⟨[],[],false,0⟩,⟨[1,2,4,5,8,10],[],false,0⟩,⟨[],[]⟩,[(.normal,⟨[zi 1,zi 2,zi 4,zp 5 0,zp 8 1,zp 10 2],[zx .tupl,zx .opti,.box [.st .conn [.nil .piec]]]⟩)]⟩
def Ge:An:=⟨⟨[],[],false,0⟩,⟨[1,2,4,5,8,10],[],false,0⟩,⟨[],[]⟩,[(.normal,⟨[zi 1,zi 2,zi 4,zp 5 0,zp 8 1,zp 10 2],[zx .tupl,zx .opti,.box [.st .conn [.nil .piec]]]⟩)]⟩
noncomputable def Tb:Fx:=⟨314,Tryz.f314,[(1000014,GD),(1000018,Ge)],0⟩
noncomputable def uh:FT (Tupl×Int×Int×Opti×Int×Unit) (Conn) (λ_=>True) (λx v=>aa v):= .mk λ(x0,x1,x2,x3,x4,_)=>
  .cal aH.c (x3,()) λc1=>
  .bnd (β:=Int×Int×Int×Tupl×Opti×Conn×Unit) (.as (λw=>aa w.2.2.2.2.2.1) (.ite (!c1) (.val (bM.f (())) λc2=>
    .ret (x1,x2,x4,x0,c2,(⟨⟨0,0,0⟩,0,⟨0,[],0,false,false,false⟩,⟨0,[],[],0,false⟩,0,0,⟨0,0,false,false,0,0⟩,0,0⟩:Conn),()))<|
   .ret (x1,x2,x4,x0,x3,(⟨⟨0,0,0⟩,0,⟨0,[],0,false,false,false⟩,⟨0,[],[],0,false⟩,0,0,⟨0,0,false,false,0,0⟩,0,0⟩:Conn),()))) λ(u3a0,u3a1,u3a2,u3a3,u3a4,u3a5,_)=>
  .cal af.c (u3a2,16,()) λc4=>
  .bnd (β:=Int×Int×Int×Tupl×Opti×Conn×Unit) (.as (λw=>aa w.2.2.2.2.2.1) (.ite (!c4) (.ret (u3a0,u3a1,0,u3a3,u3a4,({u3a5 with r.held:=[]}:Conn),()))<|
   .ret (u3a0,u3a1,u3a2,u3a3,u3a4,({u3a5 with r.held:=[]}:Conn),()))) λ(u5a0,u5a1,u5a2,u5a3,u5a4,_,_)=>
  .cal yb.c (u5a2,u5a4,()) λc6=>
  .val (bG.f (u5a0,1,())) λc7=>
  .val (bG.f (u5a1,1,())) λc8=>
  .cal ji.c (c8,()) λc9=>
  .ret (⟨u5a3,1,⟨c7,[],0,false,false,false⟩,c9,c6,c6,u5a4,0,0⟩:Conn)
noncomputable def Tl:=bK st Tb Rs [] (ks:=[.st .tupl,.sc (.int .i64),.sc (.int .i64),.st .opti,.sc (.int .i64)]) uh (λv=>[(true,fo (.o true) v)]) Tryz.func314 trivial
noncomputable def BE:=[i1,MF,Rc]
noncomputable def A7:Fx:=⟨315,Tryz.f315,[(3000004,rA 0 24)],0⟩
noncomputable def bE:FT (Int×Opti×Unit) (Opti) (λ_=>True) (λ_ _=>True):= .mk λ(x0,x1,_)=>
  .val (bM.f (())) λc1=>
  .cal fS.c (x0,()) λc2=>
  .cal lR.c (x1.echo,()) λc3=>
  .bnd (β:=Bool×Unit) (.ite x1.stamp (.ret (c3.2.2,()))<|
   .ret (false,())) λ(u4a0,_)=>
  .ite u4a0 (.ret (⟨c2,c3.1,c3.2.1,true,x1.val,c1.echo⟩:Opti))<|
  .ret ({c1 with mss:=c2}:Opti)
noncomputable def Bt:=bK st A7 BE [] (ks:=[.sc (.int .i64),.st .opti]) bE (λv=>[(true,pD v)]) Tryz.func315 trivial
noncomputable def Cd:FF (Half×Unit) (Half):=⟨λ(x0,_)=>
  .val (od.f (x0.tuple,())) λc1=>
  .val (pb.f (x0.opts,())) λc2=>
  .ret (⟨c1,x0.iss,x0.irs,c2,x0.age,x0.window⟩:Half)⟩
noncomputable def VN:=fX st Tryz.func324 [sJ,AU] (ks:=[.st .half]) Cd (λv=>[(true,adC v)])
noncomputable def C9:FF (Half×Half×Unit) (Bool):=⟨λ(x0,x1,_)=>
  .val (l8.f (x0.tuple,x1.tuple,())) λc1=>
  .ite (!c1) (.ret false)<|
  .ite (x0.iss != x1.iss) (.ret false)<|
  .ite (x0.irs != x1.irs) (.ret false)<|
  .val (oW.f (x0.opts,x1.opts,())) λc2=>
  .ite (!c2) (.ret false)<|
  .ite (x0.age != x1.age) (.ret false)<|
  .ite (x0.window != x1.window) (.ret false)<|
  .ret true⟩
noncomputable def Up:=fX st Tryz.func329 [oS,AJ] (ks:=[.st .half,.st .half]) C9 rB
noncomputable def vV:FT (ae×Unit) (Int) (λx=>sS x.1) (λ_ _=>True):= .mk λ(x0,_)=>
  .cal zq.c (x0,()) λc1=>
  .cal Cv.c (c1,()) λc2=>
  .ret (IntKind.wrap .i64 (65535-c2))
noncomputable def ER:=aN st Tryz.func355 [S1,Vp] (ks:=[.sc .str]) vV rI
noncomputable def vb:FT (Segm×Unit) (Segm×Bool) (λx=>am x.1) (λx v=>am v.1):= .mk λ(x0,_)=>
  .val (gF.f (x0,4,())) λc1=>
  .ite c1 (.ret ((⟨0,0,0,0,0,0,⟨0,0,false,false,0,0⟩,[]⟩:Segm),false))<|
  .val (cu.f (())) λc2=>
  .val (gF.f (x0,16,())) λc3=>
  .ite c3 (.ret ((⟨x0.to,x0.from_,x0.ack,0,4,0,c2,[]⟩:Segm),true))<|
  .cal iO.c (x0,()) λc4=>
  .val (cQ.f (x0.seq,c4,())) λc5=>
  .ret ((⟨x0.to,x0.from_,0,c5,20,0,c2,[]⟩:Segm),true)
noncomputable def Ps:=aN st Tryz.func358 [z8,jd,qI,gy] (ks:=[.st .segm]) vb (λv=>[(true,th v.1),(false,[.c (.bool v.2)])])
noncomputable def Qh:=[kT,jd,bQ,lV,gy,G8]
def GZ:An:=⟨⟨[],[],false,0⟩,⟨[1,2,4,5,8,10],[],false,0⟩,⟨[],[]⟩,[(.normal,⟨[zi 1,zi 2,zi 4,zp 5 0,zp 8 1,zp 10 2],[zx .tupl,zx .opti,.box [.st .conn [.nil .piec]]]⟩)]⟩
def FZ:An:=⟨⟨[],[],false,0⟩,⟨[1,2,4,5,8,10],[],false,0⟩,⟨[],[]⟩,[(.normal,⟨[zi 1,zi 2,zi 4,zp 5 0,zp 8 1,zp 10 2],[zx .tupl,zx .opti,.box [.st .conn [.nil .piec]]]⟩)]⟩
noncomputable def Qx:Fx:=⟨365,Tryz.f365,[(1000014,GZ),(1000018,FZ)],0⟩
noncomputable def tM:FT (Tupl×Int×Int×Opti×Int×Unit) (Conn) (λ_=>True) (λx v=>aa v):= .mk λ(x0,x1,x2,x3,x4,_)=>
  .cal eB.c (x3,()) λc1=>
  .bnd (β:=Int×Int×Int×Tupl×Opti×Conn×Unit) (.as (λw=>aa w.2.2.2.2.2.1) (.ite (!c1) (.val (cu.f (())) λc2=>
    .ret (x1,x2,x4,x0,c2,(⟨⟨0,0,0⟩,0,⟨0,[],0,false,false,false⟩,⟨0,[],[],0,false⟩,0,0,⟨0,0,false,false,0,0⟩,0,0⟩:Conn),()))<|
   .ret (x1,x2,x4,x0,x3,(⟨⟨0,0,0⟩,0,⟨0,[],0,false,false,false⟩,⟨0,[],[],0,false⟩,0,0,⟨0,0,false,false,0,0⟩,0,0⟩:Conn),()))) λ(u3a0,u3a1,u3a2,u3a3,u3a4,u3a5,_)=>
  .cal aD.c (u3a2,16,()) λc4=>
  .bnd (β:=Int×Int×Int×Tupl×Opti×Conn×Unit) (.as (λw=>aa w.2.2.2.2.2.1) (.ite (!c4) (.ret (u3a0,u3a1,0,u3a3,u3a4,({u3a5 with r.held:=[]}:Conn),()))<|
   .ret (u3a0,u3a1,u3a2,u3a3,u3a4,({u3a5 with r.held:=[]}:Conn),()))) λ(u5a0,u5a1,u5a2,u5a3,u5a4,_,_)=>
  .val (fp.f (0,u5a4.scale,())) λc6=>
  .grd (decide (0≤(IntKind.wrap .u64 c6)))<|
  .val (cQ.f (u5a0,1,())) λc7=>
  .val (cQ.f (u5a1,1,())) λc8=>
  .cal oq.c (c8,()) λc9=>
  .ret (⟨u5a3,1,⟨c7,[],0,false,false,false⟩,c9,(IntKind.wrap .i64 (u5a2*2 ^ (min (IntKind.wrap .u64 c6).toNat 64))),(IntKind.wrap .i64 (u5a2*2 ^ (min (IntKind.wrap .u64 c6).toNat 64))),u5a4,0,0⟩:Conn)
noncomputable def Qp:=bK st Qx Qh [] (ks:=[.st .tupl,.sc (.int .i64),.sc (.int .i64),.st .opti,.sc (.int .i64)]) tM (λv=>[(true,fo (.o true) v)]) Tryz.func365 trivial
def qT:Sh:=⟨[zs 3],[]⟩
def Br:An:=⟨⟨[],[],false,0⟩,⟨[1,2,3],[],false,0⟩,⟨[],[]⟩,[(.normal,⟨[zp 1 0,zs 2,zs 3],[zx .opti]⟩)]⟩
def Ac:An:=⟨⟨[],[],false,0⟩,⟨[1,2,3],[],false,0⟩,⟨[],[]⟩,[(.normal,⟨[zp 1 0,zs 2,zs 3],[zx .opti]⟩)]⟩
def Af:An:=⟨⟨[],[],false,0⟩,⟨[1,2,3],[],false,0⟩,⟨[],[]⟩,[(.normal,⟨[zp 1 0,zs 2,zs 3],[zx .opti]⟩)]⟩
def Ak:An:=⟨⟨[],[],false,0⟩,⟨[2,3],[],false,0⟩,⟨[],[]⟩,[(.normal,⟨[zs 2,zs 3],[]⟩)]⟩
noncomputable def ra (a:ae):Tr (Stp (ae) ((ae))):=
 .ite (((a.length:Int).tmod 4) != 0) (.grd (Nat.ble (a.length+1) ak)<|
  .ret (.next (a++[1])))<|
 .ret (.out a)
noncomputable def iK:qT.V→LW qT (ae) ((ae)):=λ(v0,_)=>⟨v0,λa=>(a,()),ra,(4-v0.length%4)%4,oN (.exit 0) ⟨[zu 2,zs 3],[]⟩ (λp=>(p,()))⟩
theorem BN {v0:ae}(h0:v0.length+(4-v0.length%4)%4≤20):(iK (v0,())).W (λp=>p.length≤20):=
 lwW (a:=v0) (λa=>a.length+(4-a.length%4)%4≤20) (λa=>(4-a.length%4)%4) h0
noncomputable def oJ:FT (Opti×Unit) (ae) (λ_=>True) (λx v=>sS v∧v.length≤20):= .mk (λ(x0,_)=>
  .cal eB.c (x0,()) λc1=>
  .ite (!c1) (.ret [])<|
  .bnd (β:=ae×ae×Opti×Unit) (.as (λw=>sS w.1∧sS w.2.1∧w.2.1.length≤4) (.ite (x0.mss != 0) (.cal aO.c (x0.mss,2,()) λc2=>
    .grd (Nat.ble (2+c2.length) ak)<|
    .ret ([],([2,4]++c2),x0,()))<|
   .ret ([],[],x0,()))) λ(u3a0,u3a1,u3a2,_)=>
  .bnd (β:=ae×ae×Opti×Unit) (.as (λw=>sS w.1∧sS w.2.1∧w.2.1.length≤7) (.ite (decide (0≤u3a2.scale)) (.grd (Nat.ble (u3a1.length+2) ak)<|
    .cal aO.c (u3a2.scale,1,()) λc4=>
    .grd (Nat.ble ((u3a1++[3,3]).length+c4.length) ak)<|
    .ret (u3a0,((u3a1++[3,3])++c4),u3a2,()))<|
   .ret (u3a0,u3a1,u3a2,()))) λ(u5a0,u5a1,u5a2,_)=>
  .bnd (β:=ae×ae×Opti×Unit) (.as (λw=>sS w.1∧sS w.2.1∧w.2.1.length≤9) (.ite u5a2.sack (.grd (Nat.ble (u5a1.length+2) ak)<|
    .ret (u5a0,(u5a1++[4,2]),u5a2,()))<|
   .ret (u5a0,u5a1,u5a2,()))) λ(u6a0,u6a1,u6a2,_)=>
  .bnd (β:=ae×ae×Unit) (.as (λw=>sS w.1∧sS w.2.1∧w.2.1.length≤19) (.ite u6a2.stamp (.grd (Nat.ble (u6a1.length+2) ak)<|
    .cal aO.c (u6a2.val,4,()) λc7=>
    .grd (Nat.ble ((u6a1++[8,10]).length+c7.length) ak)<|
    .cal aO.c (u6a2.echo,4,()) λc8=>
    .grd (Nat.ble (((u6a1++[8,10])++c7).length+c8.length) ak)<|
    .ret (u6a0,(((u6a1++[8,10])++c7)++c8),()))<|
   .ret (u6a0,u6a1,()))) λ(_,u9a1,_)=>
  .lp (iK (u9a1,())).lp λp10a0=>
  .ret p10a0) (pE @BN)
noncomputable def G7:=N9 st Tryz.func369 [(0,lb [3] [2,3]),(1000009,Br),(1000018,Ac),(1000026,Af),(1000030,Ak)] [kT,j7] 0 iK (ks:=[.st .opti]) oJ (λv=>[(false,[.c (.str v)])])
noncomputable def Oj:=[bQ,ci]
noncomputable def OV:Fx:=⟨371,Tryz.f371,[(3000001,rA 0 21),(3000003,rA 0 36)],0⟩
noncomputable def fg:FT (Sndr×Unit) (Bool) (λ_=>True) (λx v=>(v=true↔SO x.1)):= .mk λ(x0,_)=>
  .bnd (β:=Bool×Unit) (.cal aD.c (x0.una,32,()) λc1=>
   .ite (!c1) (.ret (true,()))<|
   .ite (decide (48<(x0.data.length:Int))) (.ret (true,()))<|
   .val (bS.f (x0.sent,0,(x0.data.length:Int),())) λc2=>
   .ret ((!c2),())) λ(u3a0,_)=>
  .ite u3a0 (.ret false)<|
  .bnd (β:=Bool×Unit) (.ite x0.finSent (.ite (!x0.fin) (.ret (true,()))<|
    .ret ((x0.sent != (x0.data.length:Int)),()))<|
   .ret (false,())) λ(u4a0,_)=>
  .ite u4a0 (.ret false)<|
  .ite (!x0.done) (.ret true)<|
  .ite x0.fin (.ite (!x0.finSent) (.ret (x0.data==[]))<|
   .ret false)<|
  .ret false
noncomputable def ku:=bK st OV Oj [] (ks:=[.st .sndr]) fg rB Tryz.func371 trivial
def sB:Sh:=⟨[zp 1 0,zi 3,zi 4,zi 5],[zg .recv]⟩
noncomputable def eP (v0:Int)(v3:Recv)(v2:Int)(a:Int):Tr (Stp (Int) ((Int))):=
 .grd (cd v3.held v2)<|
 .bnd (β:=Bool×Unit) (.ite ((v3.held.getD v2.toNat (Ty.zero .piec)).text==[]) (.ret (true,()))<|
  .ite (decide ((v3.held.getD v2.toNat (Ty.zero .piec)).off≤a)) (.ret (true,()))<|
  .ite (decide (v0<(v3.held.getD v2.toNat (Ty.zero .piec)).off)) (.ret (true,()))<|
  .val (IntKind.wrap .i64 ((v3.held.getD v2.toNat (Ty.zero .piec)).off+(((v3.held.getD v2.toNat (Ty.zero .piec)).text).length:Int))) λe5=>
  .ret ((decide (v0<e5)),())) λ(u6a0,_)=>
 .ite u6a0 (.ret (.out a))<|
 .val (IntKind.wrap .i64 ((v3.held.getD v2.toNat (Ty.zero .piec)).off+(((v3.held.getD v2.toNat (Ty.zero .piec)).text).length:Int))) λe7=>
 .ret (.next e7)
noncomputable def ga:sB.V→qo sB Int (Int):=λ(v0,v1,v2,v3,_)=>⟨v2,v1,λv2 a=>(v0,a,v2,v3,()),λv2 _=>(decide (v2<(v3.held.length:Int))),eP v0 v3,up,1,(Int.toNat ((v3.held.length:Int)-v2)),.inl,eR,oB .ret ⟨[zp 1 0,zb 2,zi 4],[zg .recv]⟩ (λp=>(false,p,v3,())) (.exit 0) ⟨[zp 1 0,zu 2,zi 4],[zg .recv]⟩ (λx=>(x.2,v3,()))⟩
theorem CH {v0 v1 v2:Int}{v3:Recv}(h0:0≤v2)(h1:(v3.held.length:Int)≤4611686018427387904)(h2:v0≤32)(h3:0≤v0)(h4:aw v3)(h5:0≤v1∧v1≤32∧cT po (v3.held.take v2.toNat)):(ga (v0,v1,v2,v3,())).U (v3.held.length:Int) (λv2 a=>0≤a∧a≤32∧cT po (v3.held.take v2.toNat)) (λ_=>True):=
 LC.okU (i:=v2) (a:=v1) (λ_ _=>rfl) (λ_=>rfl) rfl h0 h1 h5 λv2 v1 hj hk hv=>by
  refine Tr.G2 ?_ λ_=>Tr.B (Q':=λ_=>True) (Tr.F (by kernel_rfl) trivial) (λ(u6a0,_) _ _=>Tr.I (λ_=>Tr.Ro trivial) λ_=>Tr.V λ_ _=>Tr.Rn ?_)
  all_goals ((try simp only[Tr.nice,ko]at*)<;>grind [←abI])
noncomputable def kn:FT (Recv×Unit) (Bool) (λx=>aw x.1) (λx v=>(v=true→RO x.1)):=⟨λ(x0,_)=>
  .cal gz.c (x0,()) λc1=>
  .bnd (β:=Bool×Unit) (.cal aD.c (x0.next,32,()) λc2=>
   .ite (!c2) (.ret (true,()))<|
   .ite (decide (32<(x0.data.length:Int))) (.ret (true,()))<|
   .ite (decide (3<(x0.held.length:Int))) (.ret (true,()))<|
   .val (bS.f (x0.fin,(-1),c1,())) λc3=>
   .ite (!c3) (.ret (true,()))<|
   .ret ((x0.fin==0),())) λ(u4a0,_)=>
  .ite u4a0 (.ret false)<|
  .lp (ga (c1,0,0,x0,())).lp λw8=> .sum w8 (λ_=>
  .ret false)<|
  λ(_,a8_0)=>
  .ite (decide (x0.fin<0)) (.ite (!x0.done) (.ret true)<|
   .ite ((x0.held.length:Int)==0) (.ret (x0.fin==(-1)))<|
   .ret false)<|
  .ite (decide (a8_0≤x0.fin)) (.ite (!x0.done) (.ret true)<|
   .ite ((x0.held.length:Int)==0) (.ret (x0.fin==(-1)))<|
   .ret false)<|
  .ret false,
 λ(x0,_) hp=>by
  refine Tr.C ?_ λ_ _ _=>Tr.B (Q':=λ_=>True) (Tr.C trivial λ_ _ _=>Tr.F (by kernel_rfl) trivial) (λ(u4a0,_) _ _=>Tr.I (λ_=>Tr.R ?_) λ_=>Tr.L (CH ?_ ?_ ?_ ?_ ?_ ?_) (λa8_0 _=>Tr.Sr (Tr.I (λ_=>Tr.I (λ_=>Tr.R ?_) λ_=>Tr.I (λ_=>Tr.R ?_) λ_=>Tr.R ?_) λ_=>Tr.I (λ_=>Tr.I (λ_=>Tr.R ?_) λ_=>Tr.I (λ_=>Tr.R ?_) λ_=>Tr.R ?_) λ_=>Tr.R ?_)) (λp8a0 _=>Tr.Sl (Tr.R ?_)))
  all_goals ((try simp only[ga,LC.lp,LC.ct,Ct.lp,Tr.nice,ko]at*)<;>grind [ac7])⟩
noncomputable def rP:=dV st Tryz.func372 [(0,lb [1,3,4,5] [1,2,4]),(3000002,rA 0 36),(3000009,rA 0 73)] [kE,bQ,ci] 0 ga (ks:=[.st .recv]) kn rB
noncomputable def xM:FT (Sndr×Unit) (Int) (λx=>bP x.1) (λ_ _=>True):= .mk λ(x0,_)=>
  .cal jB.c (x0,()) λc1=>
  .val (cQ.f (x0.una,c1,())) λc2=>
  .ret c2
noncomputable def Ie:=aN st Tryz.func374 [mP,gy] (ks:=[.st .sndr]) xM rI
noncomputable def LP:=[ku,ol,lV,mP,Ie]
noncomputable def Lv:Fx:=⟨375,Tryz.f375,[(3000007,rA 0 79)],0⟩
noncomputable def ss:FT (Sndr×Int×Int×Unit) (Chun×Bool) (λx=>bP x.1) (λx v=>qn v.1∧(v.2=true→SO x.1∧(v.1.text.length:Int)+x.1.sent≤x.1.data.length∧x.1.finSent=false∧(v.1.text=[]→v.1.fin=true)∧(v.1.fin=true→x.1.fin=true∧x.1.done=false∧x.1.sent+v.1.text.length=x.1.data.length))):=⟨λ(x0,x1,x2,_)=>
  .cal fg.c (x0,()) λc1=>
  .ite (!c1) (.ret ((⟨0,[],false⟩:Chun),false))<|
  .val (jr.f (x1,1000000,())) λc2=>
  .val (fp.f (0,c2,())) λc3=>
  .cal jB.c (x0,()) λc4=>
  .val (fp.f (0,(IntKind.wrap .i64 (c3-c4)),())) λc5=>
  .val (jr.f (x2,c5,())) λc6=>
  .val (jr.f (c6,(IntKind.wrap .i64 ((x0.data.length:Int)-x0.sent)),())) λc7=>
  .val (fp.f (0,c7,())) λc8=>
  .cal xM.c (x0,()) λc9=>
  .grd (KV x0.data x0.sent (IntKind.wrap .i64 (x0.sent+c8)))<|
  .val ((x0.data.take ((IntKind.wrap .i64 (x0.sent+c8)).toNat)).drop x0.sent.toNat) λe10=>
  .ite x0.fin (.ite (!x0.finSent) (.ite (!x0.done) (.ite ((IntKind.wrap .i64 (x0.sent+c8))==(x0.data.length:Int)) (.bnd (β:=Bool×Unit) (.ite (c8==0) (.ret ((!(decide (c8<c5))),()))<|
       .ret (false,())) λ(u11a0,_)=>
      .ite u11a0 (.ret ((⟨0,[],false⟩:Chun),false))<|
      .ret ((⟨c9,e10,(decide (c8<c5))⟩:Chun),true))<|
     .bnd (β:=Bool×Unit) (.ite (c8==0) (.ret (true,()))<|
      .ret (false,())) λ(u12a0,_)=>
     .ite u12a0 (.ret ((⟨0,[],false⟩:Chun),false))<|
     .ret ((⟨c9,e10,false⟩:Chun),true))<|
    .bnd (β:=Bool×Unit) (.ite (c8==0) (.ret (true,()))<|
     .ret (false,())) λ(u13a0,_)=>
    .ite u13a0 (.ret ((⟨0,[],false⟩:Chun),false))<|
    .ret ((⟨c9,e10,false⟩:Chun),true))<|
   .bnd (β:=Bool×Unit) (.ite (c8==0) (.ret (true,()))<|
    .ret (false,())) λ(u14a0,_)=>
   .ite u14a0 (.ret ((⟨0,[],false⟩:Chun),false))<|
   .ret ((⟨c9,e10,false⟩:Chun),true))<|
  .bnd (β:=Bool×Unit) (.ite (c8==0) (.ret (true,()))<|
   .ret (false,())) λ(u15a0,_)=>
  .ite u15a0 (.ret ((⟨0,[],false⟩:Chun),false))<|
  .ret ((⟨c9,e10,false⟩:Chun),true),
 λ(x0,x1,x2,_) hp=>by
  refine Tr.C trivial λc1 hc1 qc1=>Tr.I (λb0=>Tr.R ?_) λb0=>Tr.V λc2 hc2=>Tr.V λc3 hc3=>Tr.C ?_ λc4 hc4 qc4=>Tr.V λc5 hc5=>Tr.V λc6 hc6=>Tr.V λc7 hc7=>Tr.V λc8 hc8=>Tr.C ?_ λc9 hc9 qc9=>Tr.G3 ?_ λg1=>Tr.V λe10 he10=>Tr.I (λb2=>Tr.I (λb3=>Tr.I (λb4=>Tr.I (λb5=>Tr.B (Q':=λ_=>True) (Tr.F (by kernel_rfl) trivial) (λ(u11a0,_) hj11 qj11=>Tr.I (λb6=>Tr.R ?_) λb6=>Tr.R ?_)) λb5=>Tr.B (Q':=λ_=>True) (Tr.F (by kernel_rfl) trivial) (λ(u12a0,_) hj12 qj12=>Tr.I (λb6=>Tr.R ?_) λb6=>Tr.R ?_)) λb4=>Tr.B (Q':=λ_=>True) (Tr.F (by kernel_rfl) trivial) (λ(u13a0,_) hj13 qj13=>Tr.I (λb5=>Tr.R ?_) λb5=>Tr.R ?_)) λb3=>Tr.B (Q':=λ_=>True) (Tr.F (by kernel_rfl) trivial) (λ(u14a0,_) hj14 qj14=>Tr.I (λb4=>Tr.R ?_) λb4=>Tr.R ?_)) λb2=>Tr.B (Q':=λ_=>True) (Tr.F (by kernel_rfl) trivial) (λ(u15a0,_) hj15 qj15=>Tr.I (λb3=>Tr.R ?_) λb3=>Tr.R ?_)
  all_goals ((try simp only[Tr.nice,ko]at*)<;>(first|grind|(have hs:SO x0:=(by grind);have h7:c7≤(x0.data.length:Int)-x0.sent:=(by rw[hc7,jE,aj (by grind) (by grind)];split<;>omega);have h8:0≤c8∧c8≤(x0.data.length:Int)-x0.sent:=(by rw[hc8,lP];have:=hs.2.2.2.2.1;split<;>omega);clear hc7 hc8 hc4 hc2 hc3 hc6 hc5;grind)))⟩
noncomputable def LF:=bK st Lv LP [] (ks:=[.st .sndr,.sc (.int .i64),.sc (.int .i64)]) ss (λv=>[(true,ZU v.1),(false,[.c (.bool v.2)])]) Tryz.func375 trivial
noncomputable def n7:FT (Sndr×Chun×Unit) (Sndr) (λx=>bP x.1∧qn x.2.1) (λx v=>bP v∧(SO x.1→(x.2.1.text.length:Int)+x.1.sent≤x.1.data.length→x.1.finSent=false→(x.2.1.fin=true→x.1.fin=true∧x.1.done=false∧x.1.sent+x.2.1.text.length=x.1.data.length)→v={x.1 with sent:=x.1.sent+x.2.1.text.length,finSent:=x.2.1.fin})):= .mk λ(x0,x1,_)=>
  .ite x0.finSent (.cal fg.c (x0,()) λc1=>
   .ite (!c1) (.ret x0)<|
   .cal fg.c (({x0 with sent:=(IntKind.wrap .i64 (x0.sent+(x1.text.length:Int))),finSent:=true}:Sndr),()) λc2=>
   .ite (!c2) (.ret x0)<|
   .ite x1.fin (.ite x0.done (.ret x0)<|
    .ret ({x0 with sent:=(IntKind.wrap .i64 (x0.sent+(x1.text.length:Int))),finSent:=true}:Sndr))<|
   .ret ({x0 with sent:=(IntKind.wrap .i64 (x0.sent+(x1.text.length:Int))),finSent:=true}:Sndr))<|
  .cal fg.c (x0,()) λc3=>
  .ite (!c3) (.ret x0)<|
  .cal fg.c (({x0 with sent:=(IntKind.wrap .i64 (x0.sent+(x1.text.length:Int))),finSent:=x1.fin}:Sndr),()) λc4=>
  .ite (!c4) (.ret x0)<|
  .ite x1.fin (.ite x0.done (.ret x0)<|
   .ret ({x0 with sent:=(IntKind.wrap .i64 (x0.sent+(x1.text.length:Int))),finSent:=x1.fin}:Sndr))<|
  .ret ({x0 with sent:=(IntKind.wrap .i64 (x0.sent+(x1.text.length:Int))),finSent:=x1.fin}:Sndr)
noncomputable def Qu:=aN st Tryz.func377 [ku] (ks:=[.st .sndr,.st .chun]) n7 (λv=>[(true,wa v)])
noncomputable def mH:FT (Conn×Unit) (Bool) (λx=>aa x.1) (λ_ _=>True):= .mk λ(x0,_)=>
  .cal aI.c (x0,()) λc1=>
  .ite c1 (.ite (x0.state==7) (.ret true)<|
   .ite (x0.state != 8) (.val (BX.f (x0,())) λc2=>
    .ret c2)<|
   .ret false)<|
  .ret false
noncomputable def YI:=aN st Tryz.func385 [gu,VR] (ks:=[.st .conn]) mH rB
noncomputable def ic:FT (Sndr×Unit) (Int) (λx=>bP x.1) (λ_ _=>True):= .mk λ(x0,_)=>
  .cal cZ.c (x0,()) λc1=>
  .val (bG.f (x0.una,c1,())) λc2=>
  .ret c2
noncomputable def HV:=aN st Tryz.func391 [rX,fN] (ks:=[.st .sndr]) ic rI
noncomputable def oa:FF (Int×Int×Int×Unit) (Bool):=⟨λ(x0,x1,x2,_)=>
  .ite (decide (4294967295<x2)) (.ret true)<|
  .ite (decide (1≤x2)) (.val (sT.f (x0,x1,())) λc1=>
   .ret (decide (c1<x2)))<|
  .ret false⟩
noncomputable def vl:=fX st Tryz.func397 [DX] (ks:=[.sc (.int .i64),.sc (.int .i64),.sc (.int .i64)]) oa rB
noncomputable def ze:FT (Conn×Int×Unit) (Bool) (λx=>aa x.1) (λ_ _=>True):= .mk λ(x0,x1,_)=>
  .val (β:=Int) (if 0<(if 2147483648<x0.most then 2147483648 else x0.most)then(if 2147483648<x0.most then 2147483648 else x0.most)else 0) λe1=>
  .val (qx.f (x1,x0.s.una,())) λc2=>
  .cal cZ.c (x0.s,()) λc3=>
  .val (a9.f (c2,(IntKind.wrap .i64 (0-e1)),c3,())) λc4=>
  .ret c4
noncomputable def Te:=aN st Tryz.func399 [xw,rX,bB] (ks:=[.st .conn,.sc (.int .i64)]) ze rB
noncomputable def YJ:=[xw,kB,rX,bB,fN]
noncomputable def YM:Fx:=⟨400,Tryz.f400,[(3000002,rA 0 22)],0⟩
noncomputable def Hf:FT (Sndr×Int×Unit) (Sndr×Bool) (λx=>bP x.1) (λx v=>bP v.1):= .mk λ(x0,x1,_)=>
  .val (qx.f (x1,x0.una,())) λc1=>
  .bnd (β:=Bool×Unit) (.as (λw=>(w.1=false→SO x0)) (.cal ba.c (x0,()) λc2=>
   .ite (!c2) (.ret (true,()))<|
   .cal cZ.c (x0,()) λc3=>
   .val (a9.f (c1,0,c3,())) λc4=>
   .ret ((!c4),()))) λ(u5a0,_)=>
  .ite u5a0 (.ret (x0,false))<|
  .grd (KV x0.data (if(x0.data.length:Int)<c1 then(x0.data.length:Int)else c1) (x0.data.length:Int))<|
  .val ((x0.data.take ((x0.data.length:Int).toNat)).drop ((if(x0.data.length:Int)<c1 then(x0.data.length:Int)else c1).toNat)) λe6=>
  .val (bG.f (x0.una,c1,())) λc7=>
  .val (IntKind.wrap .i64 (x0.sent-(if(x0.data.length:Int)<c1 then(x0.data.length:Int)else c1))) λe8=>
  .ite (c1==(IntKind.wrap .i64 (x0.sent+1))) (.ret ((⟨c7,e6,e8,x0.fin,false,true⟩:Sndr),true))<|
  .ret (({x0 with una:=c7,data:=e6,sent:=e8}:Sndr),true)
noncomputable def Yg:=bK st YM YJ [] (ks:=[.st .sndr,.sc (.int .i64)]) Hf (λv=>[(true,wa v.1),(false,[.c (.bool v.2)])]) Tryz.func400 trivial
noncomputable def CL:=[bB,Qe]
def xk:An:=⟨⟨[],[],false,0⟩,⟨[1,2,4,5],[],false,0⟩,⟨[],[]⟩,[(.normal,⟨[zi 1,zp 2 0,zp 4 1,zp 5 2],[zx .opti,zx .opti,zx .opti]⟩)]⟩
noncomputable def Cn:Fx:=⟨406,Tryz.f406,[(1000013,xk)],0⟩
noncomputable def fY:FF (Opti×Int×Unit) (Opti):=⟨λ(x0,x1,_)=>
  .ite (!x0.stamp) (.ret (⟨1460,(-1),false,false,0,0⟩:Opti))<|
  .val (a9.f (x0.scale,0,14,())) λc1=>
  .bnd (β:=Int×Opti×Opti×Opti×Unit) (.ite c1 (.ret (x1,x0,(⟨0,0,false,false,0,0⟩:Opti),(⟨1460,0,false,false,0,0⟩:Opti),()))<|
   .ret (x1,x0,(⟨0,0,false,false,0,0⟩:Opti),(⟨1460,(-1),false,false,0,0⟩:Opti),())) λ(u2a0,u2a1,_,u2a3,_)=>
  .val (nK.f (u2a0,u2a1.scale,u2a1.sack,())) λc3=>
  .ret (⟨u2a3.mss,u2a3.scale,u2a1.sack,true,c3,u2a1.val⟩:Opti)⟩
noncomputable def Dc:=Wt st Cn CL [] (ks:=[.st .opti,.sc (.int .i64)]) fY (λv=>[(true,pD v)]) Tryz.func406 trivial
noncomputable def yU:FT (Fram×Unit) (Bool) (λ_=>True) (λx v=>(v=true→x.1.body.length≤1586)):= .mk λ(x0,_)=>
  .cal aD.c (x0.dst,48,()) λc1=>
  .ite c1 (.cal aD.c (x0.src,48,()) λc2=>
   .ite c2 (.val (bS.f (x0.type,1536,65535,())) λc3=>
    .ite c3 (.ret (decide ((x0.body.length:Int)≤1586)))<|
    .ret false)<|
   .ret false)<|
  .ret false
noncomputable def QS:=aN st Tryz.func410 [bQ,ci] (ks:=[.st .fram]) yU rB
noncomputable def iC:FT (Sipr×Unit) (Sipr) (λ_=>True) (λ_ _=>True):= .mk λ(x0,_)=>
  .cal kf.c (x0.b,13,()) λc1=>
  .cal kf.c ((IntKind.wrap .u64 (x0.a+x0.b)),32,()) λc2=>
  .cal kf.c (x0.d,16,()) λc3=>
  .val (IntKind.wrap .u64 (c2+(bits .xor .u64 c3 (IntKind.wrap .u64 (x0.c+x0.d))))) λe4=>
  .cal kf.c ((bits .xor .u64 c3 (IntKind.wrap .u64 (x0.c+x0.d))),21,()) λc5=>
  .val (IntKind.wrap .u64 ((IntKind.wrap .u64 (x0.c+x0.d))+(bits .xor .u64 c1 (IntKind.wrap .u64 (x0.a+x0.b))))) λe6=>
  .cal kf.c ((bits .xor .u64 c1 (IntKind.wrap .u64 (x0.a+x0.b))),17,()) λc7=>
  .cal kf.c (e6,32,()) λc8=>
  .ret (⟨e4,(bits .xor .u64 c7 e6),c8,(bits .xor .u64 c5 e4)⟩:Sipr)
noncomputable def CD:=aN st Tryz.func428 [RZ] (ks:=[.st .sipr]) iC (λv=>[(true,EI v)])
noncomputable def Dq:FT (Arpm×Unit) (Bool) (λ_=>True) (λ_ _=>True):= .mk λ(x0,_)=>
  .val (bS.f (x0.kind,1,2,())) λc1=>
  .ite c1 (.cal aD.c (x0.srcHw,48,()) λc2=>
   .ite c2 (.cal aD.c (x0.dstHw,48,()) λc3=>
    .ite c3 (.cal aD.c (x0.srcIp,32,()) λc4=>
     .ite c4 (.cal aD.c (x0.dstIp,32,()) λc5=>
      .ret c5)<|
     .ret false)<|
    .ret false)<|
   .ret false)<|
  .ret false
noncomputable def MQ:=aN st Tryz.func429 [ci,bQ] (ks:=[.st .arpm]) Dq rB
noncomputable def BW:=[ci,Qq]
def xl:An:=⟨⟨[],[],false,0⟩,⟨[1,2,4,5],[],false,0⟩,⟨[],[]⟩,[(.normal,⟨[zi 1,zp 2 0,zp 4 1,zp 5 2],[zx .opti,zx .opti,zx .opti]⟩)]⟩
noncomputable def DI:Fx:=⟨436,Tryz.f436,[(1000013,xl)],0⟩
noncomputable def le:FF (Opti×Int×Unit) (Opti):=⟨λ(x0,x1,_)=>
  .ite (!x0.stamp) (.ret (⟨1460,(-1),false,false,0,0⟩:Opti))<|
  .val (bS.f (x0.scale,0,14,())) λc1=>
  .bnd (β:=Int×Opti×Opti×Opti×Unit) (.ite c1 (.ret (x1,x0,(⟨0,0,false,false,0,0⟩:Opti),(⟨1460,0,false,false,0,0⟩:Opti),()))<|
   .ret (x1,x0,(⟨0,0,false,false,0,0⟩:Opti),(⟨1460,(-1),false,false,0,0⟩:Opti),())) λ(u2a0,u2a1,_,u2a3,_)=>
  .val (Aa.f (u2a0,u2a1.scale,u2a1.sack,())) λc3=>
  .ret (⟨u2a3.mss,u2a3.scale,u2a1.sack,true,c3,u2a1.val⟩:Opti)⟩
noncomputable def Cu:=Wt st DI BW [] (ks:=[.st .opti,.sc (.int .i64)]) le (λv=>[(true,pD v)]) Tryz.func436 trivial
noncomputable def Qc:=[bQ]
noncomputable def Tw:Fx:=⟨440,Tryz.f440,[(3000001,rA 0 13)],0⟩
noncomputable def y5:FT (Int×Unit) (Int×Bool×Bool) (λ_=>True) (λ_ _=>True):= .mk λ(x0,_)=>
  .bnd (β:=Bool×Unit) (.cal aD.c (x0,32,()) λc1=>
   .ite (!c1) (.ret (true,()))<|
   .ret (((bits .and .i64 x0 32)==0),())) λ(u2a0,_)=>
  .ite u2a0 (.ret ((-1),false,false))<|
  .ite ((x0.tmod 16)==15) (.ret ((-1),((bits .and .i64 x0 16) != 0),true))<|
  .ret ((x0.tmod 16),((bits .and .i64 x0 16) != 0),true)
noncomputable def SN:=bK st Tw Qc [] (ks:=[.sc (.int .i64)]) y5 (λv=>[(false,[.c (.int .i64 v.1)]),(false,[.c (.bool v.2.1)]),(false,[.c (.bool v.2.2)])]) Tryz.func440 trivial
noncomputable def vA:FT (Pack×Unit) (Bool) (λ_=>True) (λx v=>(v=true→x.1.body.length≤1480)):= .mk λ(x0,_)=>
  .cal aD.c (x0.src,32,()) λc1=>
  .ite c1 (.cal aD.c (x0.dst,32,()) λc2=>
   .ite c2 (.val (bS.f (x0.ttl,1,255,())) λc3=>
    .ite c3 (.cal aD.c (x0.proto,8,()) λc4=>
     .ite c4 (.cal aD.c (x0.id,16,()) λc5=>
      .ite c5 (.ret (decide ((x0.body.length:Int)≤1480)))<|
      .ret false)<|
     .ret false)<|
    .ret false)<|
   .ret false)<|
  .ret false
noncomputable def NU:=aN st Tryz.func441 [bQ,ci] (ks:=[.st .pack]) vA rB
noncomputable def NK:=[vl,DX]
noncomputable def Py:Fx:=⟨447,Tryz.f447,[(3000002,rA 0 16)],0⟩
noncomputable def wq:FF (Int×Int×Int×Int×Unit) (Bool):=⟨λ(x0,x1,x2,x3,_)=>
  .bnd (β:=Bool×Unit) (.ite (decide ((if 65536<x1 then 65536 else x1)<1)) (.ret (true,()))<|
   .ret ((decide (x3<1)),())) λ(u1a0,_)=>
  .ite u1a0 (.ret false)<|
  .val (oa.f (x0,x2,x3,())) λc2=>
  .ite c2 (.ret true)<|
  .val (sT.f (x2,x0,())) λc3=>
  .ret (decide (c3<(if 65536<x1 then 65536 else x1)))⟩
noncomputable def Om:=Wt st Py NK [] (ks:=[.sc (.int .i64),.sc (.int .i64),.sc (.int .i64),.sc (.int .i64)]) wq rB Tryz.func447 trivial
noncomputable def eX:FT (List Bool×Bool×Unit) (Bool) (λx=>sS x.1) (λ_ _=>True):= .mk λ(x0,x1,_)=>
  .cal qc.c (x0,x1,()) λc1=>
  .ret (decide (0≤c1))
noncomputable def BS:=aN st Tryz.func449 [KL] (ks:=[.sc (.sl .bool),.sc .bool]) eX rB
noncomputable def z6:FT (Conn×Int×Unit) (Bool) (λx=>aa x.1) (λ_ _=>True):= .mk λ(x0,x1,_)=>
  .val (qF.f (x1,x0.s.una,())) λc1=>
  .cal jB.c (x0.s,()) λc2=>
  .ite (decide (c1≤c2)) (.ite (decide (0≤c1)) (.ret true)<|
   .ite (decide (2147483648≤x0.most)) (.ret true)<|
   .ite (decide (0<x0.most)) (.ret (decide ((IntKind.wrap .i64 (0-x0.most))≤c1)))<|
   .ret false)<|
  .ret false
noncomputable def Qn:=aN st Tryz.func469 [yL,mP] (ks:=[.st .conn,.sc (.int .i64)]) z6 rB
noncomputable def YK:=[yL,ku,mP,ci,gy]
def Lb:An:=⟨⟨[],[],false,0⟩,⟨[2,4,5,6,7],[],false,0⟩,⟨[],[]⟩,[(.normal,⟨[zp 2 0,zp 4 1,zb 5,zi 6,zp 7 2],[zx .sndr,zx .sndr,zx .sndr]⟩)]⟩
noncomputable def Yp:Fx:=⟨470,Tryz.f470,[(1000032,Lb),(3000002,rA 0 21)],0⟩
noncomputable def Hy:FT (Sndr×Int×Unit) (Sndr×Bool) (λx=>bP x.1) (λx v=>bP v.1):= .mk λ(x0,x1,_)=>
  .val (qF.f (x1,x0.una,())) λc1=>
  .bnd (β:=Bool×Unit) (.as (λw=>(w.1=false→SO x0)∧(w.1=false→0≤c1∧c1≤x0.sent+1)) (.cal fg.c (x0,()) λc2=>
   .ite (!c2) (.ret (true,()))<|
   .cal jB.c (x0,()) λc3=>
   .val (bS.f (c1,0,c3,())) λc4=>
   .ret ((!c4),()))) λ(u5a0,_)=>
  .ite u5a0 (.ret (x0,false))<|
  .val (cQ.f (x0.una,c1,())) λc6=>
  .bnd (β:=Bool×Int×Sndr×Sndr×Sndr×Unit) (.as (λw=>bP w.2.2.1∧bP w.2.2.2.1∧bP w.2.2.2.2.1∧0≤w.2.1∧w.2.1≤x0.data.length∧w.2.2.1=x0) (.ite (decide (x0.sent<c1)) (.ret (false,x0.sent,x0,(⟨0,[],0,false,false,false⟩:Sndr),({x0 with una:=c6,finSent:=false,done:=true}:Sndr),()))<|
   .ret (false,c1,x0,(⟨0,[],0,false,false,false⟩:Sndr),({x0 with una:=c6}:Sndr),()))) λ(_,u7a1,u7a2,_,u7a4,_)=>
  .grd (KV u7a2.data u7a1 (u7a2.data.length:Int))<|
  .ret (({u7a4 with data:=((u7a2.data.take ((u7a2.data.length:Int).toNat)).drop u7a1.toNat),sent:=(IntKind.wrap .i64 (u7a2.sent-u7a1))}:Sndr),true)
noncomputable def YN:=bK st Yp YK [] (ks:=[.st .sndr,.sc (.int .i64)]) Hy (λv=>[(true,wa v.1),(false,[.c (.bool v.2)])]) Tryz.func470 trivial
noncomputable def yB:=[yk,rP,kE,NP,gy,ly,P0,LX]
def mW:Sh:=⟨[zi 1,zs 2,zb 3,zp 4 0,zp 8 1,zp 9 2,zi 10,zo 11 3,zi 12],[zg .recv,.box [.st .recv [.nil .piec]],zk .recv 4,za .i64,zf]⟩
def mV:Sh:=⟨[zp 4 0,zp 8 1,zp 9 2,zo 11 3,zi 15,zo 16 4],[zg .recv,.box [.st .recv [.nil .piec]],zk .recv 5,za .i64,za .u8,zf]⟩
def wO:An:=⟨⟨[],[],false,0⟩,⟨[4,8,9,11],[],false,0⟩,⟨[],[]⟩,[(.normal,⟨[zp 4 0,zp 8 1,zp 9 2,zo 11 3],[zg .recv,.box [.st .recv [.nil .piec]],zk .recv 4,za .i64,zf]⟩)]⟩
def oi:An:=⟨⟨[],[],false,0⟩,⟨[4,8,9],[],false,0⟩,⟨[],[]⟩,[(.normal,⟨[zp 4 0,zp 8 1,zp 9 2],[zg .recv,.box [.st .recv [.nil .piec]],zk .recv 3,zf]⟩)]⟩
noncomputable def xO:Fx:=⟨471,Tryz.f471,[(0,lb [1,2,3,4,8,9,10,11,12] [1,2,3,4,8,9,10,11]),(2,lb [4,8,9,11,15,16] [4,8,9,11,15,16]),(1000095,wO),(1000137,oi),(3000002,rA 0 25),(3000010,rA 0 64),(3000013,rA 0 95)],0⟩
noncomputable def rp (v0:Int)(v1:ae)(v3:Int)(v5:Recv)(v4:Int)(a:Recv×List Int):Tr (Stp (Recv×List Int) (Empty)):=
 .val (cQ.f (v0,v4,())) λc6=>
 .val (cD.f ((IntKind.wrap .i64 (c6-v5.next)),())) λc7=>
 .bnd (β:=Bool×Unit) (.ite (decide (c7<v3)) (.ite (decide (v5.fin<0)) (.grd (cd a.2 c7)<|
    .ret ((decide ((a.2.getD c7.toNat 0)<0)),()))<|
   .ite (decide (c7<v5.fin)) (.grd (cd a.2 c7)<|
    .ret ((decide ((a.2.getD c7.toNat 0)<0)),()))<|
   .ret (false,()))<|
  .ret (false,())) λ(u8a0,_)=>
 .ite u8a0 (.grd (cd v1 v4)<|
  .grd (cd a.2 c7)<|
  .ret (.next (({a.1 with held:=[]}:Recv),(a.2.set c7.toNat (IntKind.wrap .i64 (ah v1 v4.toNat))))))<|
 .ret (.next (({a.1 with held:=[]}:Recv),a.2))
noncomputable def fF:mW.V→tF mW (Recv×List Int):=λ(v0,v1,v2,v3,v4,v5,v6,v7,v8,_)=>⟨v4,(v6,v8),λv4 a=>(v0,v1,v2,v3,v4,v5,a.1,v7,a.2,()),λv4 _=>(decide (v4<(v1.length:Int))),rp v0 v1 v3 v5,up,1,(Int.toNat ((v1.length:Int)-v4)),Empty.elim,Prod.mk,oN (.exit 0) ⟨[zi 1,zs 2,zb 3,zp 4 0,zp 8 1,zp 9 2,zi 10,zo 11 3],[zg .recv,.box [.st .recv [.nil .piec]],zk .recv 4,za .i64,zf]⟩ (λx=>(v0,v1,v2,v3,v5,({x.2.1 with held:=[]}:Recv),v7,x.2.2,()))⟩
theorem HJ:LS Tryz.prog xO [0] (j8 0 mW fF):=eU st (aV yB) _ fF [] trivial
theorem Ig {v0 v3 v4:Int}{v1:ae}{v2:Bool}{v5 v6 v7:Recv}{v8:List Int}(h0:0≤v4)(h1:(v1.length:Int)≤4611686018427387904)(h2:v3≤32)(h3:sS v1)(h4:aw v5)(h5:sS v8)(h6:aw v6∧v8.length=v8.length∧v8.length=33):(fF (v0,v1,v2,v3,v4,v5,v6,v7,v8,())).U (v1.length:Int) (λv4 a=>aw a.1∧a.2.length=v8.length∧a.2.length=33) (λ_=>True):=
 jV (a:=(v6,v8)) h0 h1 h6
noncomputable def j6 (v4:List Int)(v0:Int)(a:Recv×List Int):Tr (Stp (Recv×List Int) ((Int×Recv×List Int))):=
 .grd (cd v4 v0)<|
 .ite (decide (0≤(v4.getD v0.toNat 0))) (.grd (cd v4 v0)<|
  .grd (xr a.2 1 1)<|
  .ret (.next (({a.1 with held:=[]}:Recv),(a.2++[(IntKind.wrap .u8 (v4.getD v0.toNat 0))]))))<|
 .ret (.out (v0,({a.1 with held:=[]}:Recv),a.2))
noncomputable def eu:mV.V→qo mV (Recv×List Int) (Int×Recv×List Int):=λ(v0,v1,v2,v3,v4,v5,_)=>⟨v0,(v2,v5),λv0 a=>(v0,v1,a.1,v3,v4,a.2,()),λv0 _=>(decide (v0<(v4.length:Int))),j6 v4,up,1,(Int.toNat ((v4.length:Int)-v0)),.inl,eR,oB (.exit 2) ⟨[zp 4 0,zp 8 1,zp 9 2,zo 11 3,zi 15,zo 16 4],[zg .recv,.box [.st .recv [.nil .piec]],zk .recv 5,za .i64,za .u8,zf]⟩ (λp=>(p.1,v1,p.2.1,v3,v4,p.2.2,())) (.exit 2) ⟨[zp 4 0,zp 8 1,zp 9 2,zo 11 3,zi 15,zo 16 4],[zg .recv,.box [.st .recv [.nil .piec]],zk .recv 5,za .i64,za .u8,zf]⟩ (λx=>(x.1,v1,({x.2.1 with held:=[]}:Recv),v3,v4,x.2.2,()))⟩
theorem KI:LS Tryz.prog xO [1] (j8 2 mV eu):=eU st (aV yB) _ eu [] trivial
theorem KQ {v0:Int}{v1 v2 v3:Recv}{v4 v5:List Int}(h0:0≤v0)(h1:(v4.length:Int)≤4611686018427387904)(h2:sS v4)(h3:aw v2∧(v5.length:Int)=v0):(eu (v0,v1,v2,v3,v4,v5,())).U (v4.length:Int) (λv0 a=>aw a.1∧(a.2.length:Int)=v0) (λp=>aw p.2.1∧sS p.2.2∧v0≤p.1∧p.1<(v4.length:Int)∧p.2.2.length≤v4.length):=
 jV (a:=(v2,v5)) h0 h1 h3
noncomputable def ue:FT (Recv×Int×ae×Bool×Unit) (Recv) (λx=>aw x.1∧sS x.2.2.1) (λx v=>aw v∧(v.held.length:Int)≤max x.1.held.length 3):=⟨λ(x0,x1,x2,x3,_)=>
  .cal dU.c (x0,()) λc1=>
  .bnd (β:=Bool×Unit) (.cal kn.c (x0,()) λc2=>
   .ite (!c2) (.ret (true,()))<|
   .ret (x0.done,())) λ(u3a0,_)=>
  .ite u3a0 (.ret c1)<|
  .cal gz.c (x0,()) λc4=>
  .cal uV.c (x0,()) λc5=>
  .lp (fF (x1,x2,x3,c4,0,x0,(⟨0,[],[],0,false⟩:Recv),c1,c5,())).lp λ(_,a9_0,a9_1)=>
  .val (cQ.f (x1,(x2.length:Int),())) λc10=>
  .val (cD.f ((IntKind.wrap .i64 (c10-x0.next)),())) λc11=>
  .bnd (β:=Bool×Unit) (.ite x3 (.ite (decide (x0.fin<0)) (.ite (decide (c11≤c4)) (.cal uy.c (a9_1,c11,()) λc12=>
      .ret (c12,()))<|
     .ret (false,()))<|
    .ret (false,()))<|
   .ret (false,())) λ(u13a0,_)=>
  .bnd (β:=WT wO.es) (.ite u13a0 (.ret (x0,({({a9_0 with held:=[]}:Recv)with held:=[]}:Recv),({c1 with fin:=c11}:Recv),a9_1,()))<|
   .ret (x0,({({a9_0 with held:=[]}:Recv)with held:=[]}:Recv),c1,a9_1,())) λ(u14a0,u14a1,u14a2,u14a3,_)=>
  .lp (eu (0,u14a0,({u14a1 with held:=[]}:Recv),u14a2,u14a3,[],())).lp λw15=> .sum w15 (λ(p15a0,p15a1,p15a2)=>
  .grd (Nat.ble (u14a0.data.length+(aF p15a2).length) ak)<|
  .val (cQ.f (u14a0.next,p15a0,())) λc16=>
  .cal pf.c (u14a3,p15a0,()) λc17=>
  .bnd (β:=WT oi.es) (.ite (decide (0≤u14a2.fin)) (.ret (u14a0,({p15a1 with held:=[]}:Recv),(⟨c16,(u14a0.data++(aF p15a2)),c17,(IntKind.wrap .i64 (u14a2.fin-p15a0)),u14a2.done⟩:Recv),()))<|
   .ret (u14a0,({p15a1 with held:=[]}:Recv),(⟨c16,(u14a0.data++(aF p15a2)),c17,u14a2.fin,u14a2.done⟩:Recv),())) λ(u18a0,_,u18a2,_)=>
  .ite (u18a2.fin==0) (.val (cQ.f (u18a2.next,1,())) λc19=>
   .ite (decide (3<(u18a2.held.length:Int))) (.cal dU.c (u18a0,()) λc20=>
    .ret c20)<|
   .ret (⟨c19,u18a2.data,u18a2.held,(-1),true⟩:Recv))<|
  .ite (decide (3<(u18a2.held.length:Int))) (.cal dU.c (u18a0,()) λc21=>
   .ret c21)<|
  .ret u18a2)<|
  λ(n15,a15_0,a15_1)=>
  .grd (Nat.ble (u14a0.data.length+(aF a15_1).length) ak)<|
  .val (cQ.f (u14a0.next,n15,())) λc22=>
  .cal pf.c (u14a3,n15,()) λc23=>
  .bnd (β:=WT oi.es) (.ite (decide (0≤u14a2.fin)) (.ret (u14a0,({({a15_0 with held:=[]}:Recv)with held:=[]}:Recv),(⟨c22,(u14a0.data++(aF a15_1)),c23,(IntKind.wrap .i64 (u14a2.fin-n15)),u14a2.done⟩:Recv),()))<|
   .ret (u14a0,({({a15_0 with held:=[]}:Recv)with held:=[]}:Recv),(⟨c22,(u14a0.data++(aF a15_1)),c23,u14a2.fin,u14a2.done⟩:Recv),())) λ(u24a0,_,u24a2,_)=>
  .ite (u24a2.fin==0) (.val (cQ.f (u24a2.next,1,())) λc25=>
   .ite (decide (3<(u24a2.held.length:Int))) (.cal dU.c (u24a0,()) λc26=>
    .ret c26)<|
   .ret (⟨c25,u24a2.data,u24a2.held,(-1),true⟩:Recv))<|
  .ite (decide (3<(u24a2.held.length:Int))) (.cal dU.c (u24a0,()) λc27=>
   .ret c27)<|
  .ret u24a2,
 λ(x0,x1,x2,x3,_) hp=>by
  refine Tr.C ?_ λc1 hc1 qc1=>Tr.B (Q':=λw=>(w.1=false→RO x0)) (Tr.C ?_ λc2 hc2 qc2=>Tr.I (λb0=>Tr.R ?_) λb0=>Tr.R ?_) (λ(u3a0,_) hj3 qj3=>Tr.I (λb0=>Tr.R ?_) λb0=>Tr.C ?_ λc4 hc4 qc4=>Tr.C ?_ λc5 hc5 qc5=>Tr.L (Ig ?_ ?_ ?_ ?_ ?_ ?_ ?_) (λ(a9_0,a9_1) i9=>Tr.V λc10 hc10=>Tr.V λc11 hc11=>Tr.B (Q':=λ_=>True) (Tr.I (λb1=>Tr.I (λb2=>Tr.I (λb3=>Tr.C ?_ λc12 hc12 qc12=>Tr.R trivial) λb3=>Tr.R trivial) λb2=>Tr.R trivial) λb1=>Tr.R trivial) (λ(u13a0,_) hj13 qj13=>Tr.B (Q':=λw=>aw w.1∧aw w.2.1∧aw w.2.2.1∧sS w.2.2.2.1∧w.1=x0∧w.2.2.2.1.length=33∧w.1.data.length≤32) (Tr.I (λb1=>Tr.R ?_) λb1=>Tr.R ?_) (λ(u14a0,u14a1,u14a2,u14a3,_) hj14 qj14=>Tr.L (KQ ?_ ?_ ?_ ?_) (λ(a15_0,a15_1) i15=>Tr.Sr (Tr.Gb ?_ λg1=>Tr.V λc22 hc22=>Tr.C ?_ λc23 hc23 qc23=>Tr.B (Q':=λw=>aw w.1∧aw w.2.1∧aw w.2.2.1∧w.1=x0) (Tr.I (λb2=>Tr.R ?_) λb2=>Tr.R ?_) (λ(u24a0,u24a1,u24a2,_) hj24 qj24=>Tr.I (λb2=>Tr.V λc25 hc25=>Tr.I (λb3=>Tr.C ?_ λc26 hc26 qc26=>Tr.R ?_) λb3=>Tr.R ?_) λb2=>Tr.I (λb3=>Tr.C ?_ λc27 hc27 qc27=>Tr.R ?_) λb3=>Tr.R ?_))) (λ(p15a0,p15a1,p15a2) hp15=>Tr.Sl (Tr.Gb ?_ λg1=>Tr.V λc16 hc16=>Tr.C ?_ λc17 hc17 qc17=>Tr.B (Q':=λw=>aw w.1∧aw w.2.1∧aw w.2.2.1∧w.1=x0) (Tr.I (λb2=>Tr.R ?_) λb2=>Tr.R ?_) (λ(u18a0,u18a1,u18a2,_) hj18 qj18=>Tr.I (λb2=>Tr.V λc19 hc19=>Tr.I (λb3=>Tr.C ?_ λc20 hc20 qc20=>Tr.R ?_) λb3=>Tr.R ?_) λb2=>Tr.I (λb3=>Tr.C ?_ λc21 hc21 qc21=>Tr.R ?_) λb3=>Tr.R ?_)))))) (λp=>Empty.elim p))
  all_goals ((try simp only[fF,eu,LC.lp,LC.ct,Ct.lp,Tr.nice,ko]at*)<;>grind)⟩
noncomputable def QW:=bK st xO yB [(j8 0 mW fF),(j8 2 mV eu)] (ks:=[.st .recv,.sc (.int .i64),.sc .str,.sc .bool]) ue (λv=>[(true,vo (.o true) v)]) Tryz.func471 ⟨HJ,KI,trivial⟩
noncomputable def Dr:=[S6]
def lh:Sh:=⟨[zl 0 .piec,zi 1,zi 5],[]⟩
noncomputable def Ch:Fx:=⟨480,Tryz.f480,[(0,lb [0,1,5] [1,4])],0⟩
noncomputable def px (v0:List Piec)(v2:Int)(a:Int):Tr (Stp (Int) ((Int))):=
 .grd (cd v0 v2)<|
 .cal d9.c ((v0.getD v2.toNat (Ty.zero .piec)),a,()) λc1=>
 .ite (decide (c1<0)) (.ret (.out c1))<|
 .ret (.next c1)
noncomputable def fb:lh.V→qo lh Int (Int):=λ(v0,v1,v2,_)=>⟨v2,v1,λv2 a=>(v0,a,v2,()),λv2 _=>(decide (v2<(v0.length:Int))),px v0,up,1,(Int.toNat ((v0.length:Int)-v2)),.inl,eR,oB .ret ⟨[zi 1,zi 4],[]⟩ (λp=>(p,(-1),())) (.exit 0) ⟨[zi 1,zu 4],[]⟩ (λx=>(x.2,()))⟩
theorem Gm:LS Tryz.prog Ch [0] (j8 0 lh fb):=eU st (aV Dr) _ fb [] trivial
theorem GN {v0:List Piec}{v1 v2:Int}(h0:0≤v2)(h1:(v0.length:Int)≤4611686018427387904):(fb (v0,v1,v2,())).U (v0.length:Int) (λ_ _=>True) (λ_=>True):=
 jV (a:=v1) h0 h1 trivial
noncomputable def lx:FX (List Piec×Int×Unit) (Int) (λ_=>True) (cJ [.sc (.sl .piec),.sc (.int .i64)]):=⟨λ(x0,x1,_)=>
  .ite (decide ((IntKind.wrap .i64 (x1-(x0.length:Int)))<0)) (.ret (-1))<|
  .lp (fb (x0,(IntKind.wrap .i64 (x1-(x0.length:Int))),0,())).lp λw2=> .sum w2 (λ_=>
  .ret (-1))<|
  λ(_,a2_0)=>
  .ret a2_0,
 λ(x0,x1,_) hp hf=>by
  simp only[cJ,Pk.fact,jt,hY,Fl.fact,Ty.fl,Ty.toH]at hf
  refine Tr.I (λ_=>Tr.R trivial) λ_=>Tr.L (GN ?_ ?_) (λa2_0 _=>Tr.Sr (Tr.R trivial)) (λp2a0 _=>Tr.Sl (Tr.R trivial))
  all_goals ((try simp only[fb,LC.lp,LC.ct,Ct.lp]at*)<;>grind)⟩
theorem TV (xs:List Piec)(k:Int)(h0:0≤k)(h1:k≤1048576)(hl:xs.length≤140737488355328)(he:PH .piec xs)(h:0≤lx.f (xs,k,())):lx.f (xs,k,())≤k∧xs.length≤1048576∧cT cM xs:=by
 have w:IntKind.wrap .i64 (k-(xs.length:Int))=k-(xs.length:Int):=aj (by omega) (by omega)
 simp only[FX.f,PX,lx,fb,w,aA]at h⊢
 by_cases c:k-(xs.length:Int)<0
 ·rw[decide_eq_true c,cond_true]at h;omega
 rw[decide_eq_false c,cond_false]at h⊢
 have hf:∀(j:Nat) x a,xs[j]? =some x→(px xs (j:Int) a).nice=(bif decide (d9.f (x,a,())<0)then Stp.out (d9.f (x,a,()))else Stp.next (d9.f (x,a,()))):=λj x a hx=>by
  simp only[PX,px,ac,getD_some hx]
 rw[bu xs _ rfl (F:=λ_ x a=>(bif decide (d9.f (x,a,())<0)then Stp.out (d9.f (x,a,()))else Stp.next (d9.f (x,a,())))) hf]at h⊢
 cases hn:dh (λ_ x a=>(bif decide (d9.f (x,a,())<0)then Stp.out (d9.f (x,a,()))else Stp.next (d9.f (x,a,())))) 0 xs (k-(xs.length:Int))with
 |out p=>rw[hn]at h;simp only[Stp.elim]at h;omega
 |next b=>
  obtain⟨h2,h3⟩:=Hw (λx a=>d9.f (x,a,())) cM xs 0 _ b (λx hx k h0 h1 h=>(have h4:=XB x k h0 h1 (he x hx (.str x.text) (List.mem_cons_of_mem _ List.mem_cons_self)).slen h;⟨h4.1,(by unfold cM;omega)⟩)) (by omega) (by omega) hn
  simp only[Stp.elim]
  exact⟨by omega,by omega,h3⟩
noncomputable def Px:=Y5 st Ch Dr [(j8 0 lh fb)] (ks:=[.sc (.sl .piec),.sc (.int .i64)]) lx rI Tryz.func480 ⟨Gm,trivial⟩
def wF:Sh:=⟨[zl 0 .piec,zo 3 0,zi 4],[za .piec]⟩
noncomputable def wX (v0:List Piec)(v1:Int)(a:List Piec):Tr (Stp (List Piec) (Empty)):=
 .grd (cd v0 v1)<|
 .cal Es.c ((v0.getD v1.toNat (Ty.zero .piec)),()) λc1=>
 .grd (cd a v1)<|
 .ret (.next (a.set v1.toNat c1))
noncomputable def iW:wF.V→tF wF (List Piec):=λ(v0,v1,v2,_)=>⟨v1,v2,λv1 a=>(v0,v1,a,()),λv1 _=>(decide (v1<(v0.length:Int))),wX v0,up,1,(Int.toNat ((v0.length:Int)-v1)),Empty.elim,Prod.mk,oN (.exit 0) ⟨[zu 2,zo 3 0],[za .piec]⟩ (λx=>(x.2,()))⟩
theorem GJ {v0 v2:List Piec}{v1:Int}(h0:0≤v1)(h1:(v0.length:Int)≤4611686018427387904)(h2:sL cM v0)(h3:sL cM v2)(h4:v2.length=v2.length∧cT cM v2∧(v0.length:Int)≤(v2.length:Int)):(iW (v0,v1,v2,())).U (v0.length:Int) (λv1 a=>a.length=v2.length∧cT cM a∧(v0.length:Int)≤(a.length:Int)) (λ_=>True):=
 jV (a:=v2) h0 h1 h4
noncomputable def vD:FT (List Piec×Unit) (List Piec) (λx=>sL cM x.1) (λx v=>sL cM v):=⟨λ(x0,_)=>
  .grd ((((decide (0≤(x0.length:Int)))&&(decide ((x0.length:Int)=(x0.length:Int))))&&(decide ((x0.length:Int)*24≤(aU:Int))))&&(decide ((x0.length:Int)≤(aU:Int))))<|
  .lp (iW (x0,0,(List.replicate ((x0.length:Int).toNat) (⟨0,[]⟩:Piec)),())).lp λ(_,a2_0)=>
  .ret a2_0,
 λ(x0,_) hp=>by
  refine Tr.G4 ?_ λ_=>Tr.L (GJ ?_ ?_ ?_ ?_ ?_) (λa2_0 _=>Tr.R ?_) (λp=>Empty.elim p)
  all_goals ((try simp only[iW,LC.lp,LC.ct,Ct.lp]at*)<;>grind)⟩
noncomputable def Pj:=dV st Tryz.func481 [(0,lb [0,3,4] [2,3])] [Sn] 0 iW (ks:=[.sc (.sl .piec)]) vD (λv=>[(false,[sc (.o true) .piec v])])
def wy:Sh:=⟨[zl 0 .piec,zl 1 .piec,zi 5],[]⟩
noncomputable def wx (v0 v1:List Piec)(v2:Int)(a:Unit):Tr (Stp (Unit) ((Unit))):=
 .grd (cd v0 v2)<|
 .grd (cd v1 v2)<|
 .val (zz.f ((v0.getD v2.toNat (Ty.zero .piec)),(v1.getD v2.toNat (Ty.zero .piec)),())) λc1=>
 .ite (!c1) (.ret (.out ()))<|
 .ret (.next ())
noncomputable def kY:wy.V→qo wy Unit (Unit):=λ(v0,v1,v2,_)=>⟨v2,(),λv2 _=>(v0,v1,v2,()),λv2 _=>(decide (v2<(v0.length:Int))),wx v0 v1,up,1,(Int.toNat ((v0.length:Int)-v2)),.inl,eR,oB .ret ⟨[zb 4],[]⟩ (λ_=>(false,())) (.exit 0) ⟨[zu 4],[]⟩ (λ_=>())⟩
theorem F6 {v0 v1:List Piec}{v2:Int}(h0:0≤v2)(h1:(v0.length:Int)≤4611686018427387904)(h2:(v0.length:Int)≤(v1.length:Int)):(kY (v0,v1,v2,())).U (v0.length:Int) (λ_ _=>True) (λ_=>True):=
 jV h0 h1 trivial
noncomputable def uR:FT (List Piec×List Piec×Unit) (Bool) (λx=>sL cM x.1∧sL cM x.2.1) (λ_ _=>True):= .mk (λ(x0,x1,_)=>
  .ite ((x0.length:Int) != (x1.length:Int)) (.ret false)<|
  .lp (kY (x0,x1,0,())).lp λw2=> .sum w2 (λ_=>
  .ret false)<|
  λ_=>
  .ret true) (pE @F6)
noncomputable def Nb:=dV st Tryz.func482 [(0,lb [0,1,5] [4])] [Rv] 0 kY (ks:=[.sc (.sl .piec),.sc (.sl .piec)]) uR rB
def xd:Sh:=⟨[zi 0,zi 1,zi 2,zi 3,zi 9],[]⟩
noncomputable def iY (v0 v2 v3:Int)(v4:Int)(a:Unit):Tr (Stp (Unit) ((Unit)⊕(Unit))):=
 .ite (decide (v4<65536)) (.val (cQ.f (v0,v4,())) λc1=>
  .val (nT.f (c1,v2,v3,())) λc2=>
  .ite c2 (.ret (.out (.inl ())))<|
  .ret (.next ()))<|
 .ret (.out (.inr (())))
noncomputable def lr:xd.V→qo xd Unit ((Unit)⊕(Unit)):=λ(v0,v1,v2,v3,v4,_)=>⟨v4,(),λv4 _=>(v0,v1,v2,v3,v4,()),λv4 _=>(decide (v4<v1)),iY v0 v2 v3,up,1,(Int.toNat (v1-v4)),.inl,eR,λ_ k w=>Sum.elim (oB .ret ⟨[zb 8],[]⟩ (λ_=>(true,())) (.exit 0) ⟨[zu 8],[]⟩ (λ_=>()) _ k) (λ_=>k (.exit 0) (Sh.enc ⟨[zu 8],[]⟩ ())) w⟩
theorem GX {v0 v1 v2 v3 v4:Int}(h0:0≤v4)(h1:v1≤4611686018427387904):(lr (v0,v1,v2,v3,v4,())).U v1 (λ_ _=>True) (λ_=>True):=
 LC.okU (i:=v4) (a:=()) (λ_ _=>rfl) (λ_=>rfl) rfl h0 h1 trivial λv4 _ hj hk hv=>Tr.Z (by kernel_rfl)
noncomputable def vW:FT (Int×Int×Int×Int×Unit) (Bool) (λx=>x.2.1≤4611686018427387904) (λ_ _=>True):= .mk (λ(x0,x1,x2,x3,_)=>
  .lp (lr (x0,x1,x2,x3,0,())).lp λw3=> .sum w3 (λq3=> .sum q3 (λ_=>
  .ret true)<|
  λ_=>
  .ret false)<|
  λ_=>
  .ret false) (pE @GX)
noncomputable def PT:=dV st Tryz.func488 [(0,lb [0,1,2,3,9] [8])] [gy,vr] 0 lr (ks:=[.sc (.int .i64),.sc (.int .i64),.sc (.int .i64),.sc (.int .i64)]) vW rB
noncomputable def j2:FT (Sipr×Unit) (Sipr) (λ_=>True) (λ_ _=>True):= .mk λ(x0,_)=>
  .cal df.c (x0.b,13,()) λc1=>
  .cal df.c ((IntKind.wrap .u64 (x0.a+x0.b)),32,()) λc2=>
  .cal df.c (x0.d,16,()) λc3=>
  .val (IntKind.wrap .u64 (c2+(bits .xor .u64 c3 (IntKind.wrap .u64 (x0.c+x0.d))))) λe4=>
  .cal df.c ((bits .xor .u64 c3 (IntKind.wrap .u64 (x0.c+x0.d))),21,()) λc5=>
  .val (IntKind.wrap .u64 ((IntKind.wrap .u64 (x0.c+x0.d))+(bits .xor .u64 c1 (IntKind.wrap .u64 (x0.a+x0.b))))) λe6=>
  .cal df.c ((bits .xor .u64 c1 (IntKind.wrap .u64 (x0.a+x0.b))),17,()) λc7=>
  .cal df.c (e6,32,()) λc8=>
  .ret (⟨e4,(bits .xor .u64 c7 e6),c8,(bits .xor .u64 c5 e4)⟩:Sipr)
noncomputable def Dy:=aN st Tryz.func493 [Dn] (ks:=[.st .sipr]) j2 (λv=>[(true,EI v)])
noncomputable def gr:FT (Int×Int×List Bool×List Int×Unit) (List Bool×List Int) (λx=>sS x.2.2.1∧sS x.2.2.2.1∧0≤x.1∧x.1<x.2.2.1.length∧x.2.2.1.length=x.2.2.2.1.length) (λx v=>sS v.1∧sS v.2∧v.1.length=x.2.2.1.length∧v.2.length=x.2.2.2.1.length):= .mk λ(x0,x1,y2,y3,_)=>
  .grd (cd y2 x0)<|
  .ite (!(y2.getD x0.toNat false)) (.grd (cd y2 x0)<|
   .grd (cd y3 x0)<|
   .ret ((y2.set x0.toNat true),(y3.set x0.toNat x1)))<|
  .ret (y2,y3)
noncomputable def Gd:=uL st ⟨448,Tryz.f448,[],4⟩ [] [] [.sc (.int .i64),.sc (.int .u8),.wr false [.ptr 1],.wr false [.ptr 3]] [.arr .bool,.box [.own 0],.arr .u8,.box [.own 2]] (λx y=>(x.1,x.2.1,y.1,y.2.2.1,())) gr (λv=>[]) (λx y v=>(v.1,(()),v.2,(()),())) Tryz.func448 (by kernel_rfl) trivial
noncomputable def oz:FT (Int×Unit) (Int×Int×Int) (λ_=>True) (λ_ _=>True):= .mk λ(x0,_)=>
  .cal aD.c (x0,32,()) λc1=>
  .ite (!c1) (.ret ((-1),(-1),(-1)))<|
  .ret ((IntKind.wrap .i64 (x0.tdiv 134217728)),((IntKind.wrap .i64 (x0.tdiv 16777216)).tmod 8),(x0.tmod 16777216))
noncomputable def GY:=aN st Tryz.func44 [bQ] (ks:=[.sc (.int .i64)]) oz (λv=>[(false,[.c (.int .i64 v.1)]),(false,[.c (.int .i64 v.2.1)]),(false,[.c (.int .i64 v.2.2)])])
noncomputable def Vb:=[bQ,EQ,FC]
noncomputable def T8:Fx:=⟨45,Tryz.f45,[(3000001,rA 0 18)],0⟩
noncomputable def tL:FT (Keys×Unit) (Bool) (λx=>cK x.1) (λx v=>(v=true→0≤x.1.epoch∧x.1.epoch≤4294967295)):= .mk λ(x0,_)=>
  .bnd (β:=Bool×Unit) (.as (λw=>(w.1=false→x0.now.rows.length≤64∧x0.before.rows.length≤64)) (.cal aD.c (x0.epoch,32,()) λc1=>
   .ite (!c1) (.ret (true,()))<|
   .cal ta.c (x0.now,()) λc2=>
   .ite (!c2) (.ret (true,()))<|
   .cal ta.c (x0.before,()) λc3=>
   .ret ((!c3),()))) λ(u4a0,_)=>
  .ite u4a0 (.ret false)<|
  .ite x0.two (.ret (decide (1≤x0.epoch)))<|
  .cal mc.c (x0.before,(⟨false,0,0,[]⟩:Mac),()) λc5=>
  .ret c5
noncomputable def BG:=bK st T8 Vb [] (ks:=[.st .keys]) tL rB Tryz.func45 trivial
noncomputable def Xd:=[ci,FC,EQ,pj]
def OH:An:=⟨⟨[],[],false,0⟩,⟨[1,2,3],[],false,0⟩,⟨[],[]⟩,[(.normal,⟨[zp 1 0,zb 2,zp 3 1],[zg .acti,.box [.st .acti [.nil .macRow]]]⟩),(.normal,⟨[zp 1 0,zb 2,zp 3 1],[zg .acti,zg .acti]⟩)]⟩
noncomputable def Yc:Fx:=⟨50,Tryz.f50,[(1000009,OH),(3000016,rA 0 73)],0⟩
noncomputable def CB:FT (Acti×Unit) (Bool) (λx=>cU x.1) (λ_ _=>True):= .mk λ(x0,_)=>
  .bnd (β:=(Bool×Acti×Acti×Unit)⊕(Bool×Acti×Acti×Unit)) (.as (Sum.elim (λw=>cU w.2.1∧cU w.2.2.1) (λw=>cU w.2.1∧cU w.2.2.1)) (.ite (x0.kind==1) (.ret (.inl (false,x0,(⟨x0.kind,⟨0,0,0⟩,0,x0.text,⟨false,0,0,[]⟩⟩:Acti),())))<|
   .ite (x0.kind==3) (.ret (.inr ((false,x0,({x0 with tuple.ip:=0,tuple.port:=0,tuple.my:=0,n:=0,text:=[]}:Acti),()))))<|
   .ite (x0.kind==5) (.ret (.inl (false,x0,({x0 with n:=0,mac.use:=false,mac.k:=0,mac.l:=0,mac.rows:=[]}:Acti),())))<|
   .ite (x0.kind==6) (.ret (.inl (false,x0,({x0 with text:=[],mac.use:=false,mac.k:=0,mac.l:=0,mac.rows:=[]}:Acti),())))<|
   .ite (x0.kind==7) (.ite (x0.kind==7) (.ret (.inl (false,x0,(⟨x0.kind,x0.tuple,0,[],⟨false,0,0,[]⟩⟩:Acti),())))<|
    .ret (.inl (false,x0,(⟨x0.kind,⟨0,0,0⟩,0,[],⟨false,0,0,[]⟩⟩:Acti),())))<|
   .ite (x0.kind==8) (.ret (.inl (false,x0,(⟨x0.kind,x0.tuple,0,[],⟨false,0,0,[]⟩⟩:Acti),())))<|
   .ret (.inl (false,x0,(⟨x0.kind,⟨0,0,0⟩,0,[],⟨false,0,0,[]⟩⟩:Acti),())))) λw1=> .sum w1 (λ(_,u1a1,u1a2,_)=>
  .bnd (β:=Bool×Unit) (.val (bS.f (u1a1.kind,1,8,())) λc2=>
   .ite (!c2) (.ret (true,()))<|
   .ite (!((u1a1.tuple.ip==u1a2.tuple.ip)&&((u1a1.tuple.port==u1a2.tuple.port)&&((u1a1.tuple.my==u1a2.tuple.my)&&true)))) (.ret (true,()))<|
   .ite (u1a1.n != u1a2.n) (.ret (true,()))<|
   .ite (!(u1a1.text==u1a2.text)) (.ret (true,()))<|
   .cal mc.c (u1a1.mac,({u1a2.mac with rows:=[]}:Mac),()) λc3=>
   .ret ((!c3),())) λ(u4a0,_)=>
  .ite u4a0 (.ret false)<|
  .ite (decide ((u1a1.text.length:Int)≤1600)) (.cal ta.c (u1a1.mac,()) λc5=>
   .ite c5 (.cal kw.c (u1a1.tuple,()) λc6=>
    .ite c6 (.val (bS.f (u1a1.n,0,65535,())) λc7=>
     .ret c7)<|
    .ret false)<|
   .ret false)<|
  .ret false)<|
  λ(_,u1b1,u1b2,_)=>
  .bnd (β:=Bool×Unit) (.val (bS.f (u1b1.kind,1,8,())) λc8=>
   .ite (!c8) (.ret (true,()))<|
   .ite (!((u1b1.tuple.ip==u1b2.tuple.ip)&&((u1b1.tuple.port==u1b2.tuple.port)&&((u1b1.tuple.my==u1b2.tuple.my)&&true)))) (.ret (true,()))<|
   .ite (u1b1.n != u1b2.n) (.ret (true,()))<|
   .ite (!(u1b1.text==u1b2.text)) (.ret (true,()))<|
   .cal mc.c (u1b1.mac,u1b2.mac,()) λc9=>
   .ret ((!c9),())) λ(u10a0,_)=>
  .ite u10a0 (.ret false)<|
  .ite (decide ((u1b1.text.length:Int)≤1600)) (.cal ta.c (u1b1.mac,()) λc11=>
   .ite c11 (.cal kw.c (u1b1.tuple,()) λc12=>
    .ite c12 (.val (bS.f (u1b1.n,0,65535,())) λc13=>
     .ret c13)<|
    .ret false)<|
   .ret false)<|
  .ret false
noncomputable def X7:=bK st Yc Xd [] (ks:=[.st .acti]) CB rB Tryz.func50 trivial
noncomputable def Ec:=[vR,dC,gc]
def pZ:Sh:=⟨[zp 1 0,zp 2 1,zp 3 2,zi 4],[.box [.st .tabl [.sl .arg,.sl .arg]],.box [.st .tabl [.nil .conn,.nil .tupl]],.box [.st .tabl [.own 3,.nil .tupl]],zf]⟩
def p8:Sh:=⟨[zp 1 0,zp 2 1,zp 3 2,zi 5],[.box [.st .tabl [.sl .arg,.sl .arg]],.box [.st .tabl [.nil .conn,.nil .tupl]],.box [.st .tabl [.own 3,.own 4]],zf,zf]⟩
noncomputable def EU:Fx:=⟨55,Tryz.f55,[(0,la ⟨[1,2,3,4],[.box 3 0 .conn],false,0⟩ ⟨[1,2,3],[],false,0⟩),(2,la ⟨[1,2,3,5],[.box 3 1 .tupl],false,0⟩ ⟨[2,3],[],false,0⟩),(3000005,rA 0 31)],0⟩
noncomputable def vZ (v1:Tabl)(v0:Int)(a:Tabl×Tabl):Tr (Stp (Tabl×Tabl) (Empty)):=
 .bnd (β:=Bool×Unit) (.grd (cd v1.conns v0)<|
  .ite ((v1.conns.getD v0.toNat (Ty.zero .conn)).state != 8) (.ret (true,()))<|
  .grd (cd v1.conns v0)<|
  .cal nU.c (v1.waiting,(v1.conns.getD v0.toNat (Ty.zero .conn)).tuple,()) λc4=>
  .ret (c4,())) λ(u5a0,_)=>
 .ite u5a0 (.grd (cd v1.conns v0)<|
  .cal dA.c ((v1.conns.getD v0.toNat (Ty.zero .conn)),()) λc6=>
  .grd (xr a.2.conns 1 208)<|
  .ret (.next ((⟨[],[]⟩:Tabl),(⟨(a.2.conns++[c6]),[]⟩:Tabl))))<|
 .ret (.next ((⟨[],[]⟩:Tabl),(⟨a.2.conns,[]⟩:Tabl)))
noncomputable def iD:pZ.V→tF pZ (Tabl×Tabl):=λ(v0,v1,v2,v3,_)=>⟨v0,(v2,v3),λv0 a=>(v0,v1,a.1,a.2,()),λv0 _=>(decide (v0<(v1.conns.length:Int))),vZ v1,up,1,(Int.toNat ((v1.conns.length:Int)-v0)),Empty.elim,Prod.mk,oN (.exit 0) ⟨[zp 1 0,zp 2 1,zp 3 2],[.box [.st .tabl [.sl .arg,.sl .arg]],.box [.st .tabl [.nil .conn,.nil .tupl]],.box [.st .tabl [.own 3,.nil .tupl]],zf]⟩ (λx=>(v1,(⟨[],[]⟩:Tabl),(⟨x.2.2.conns,[]⟩:Tabl),()))⟩
theorem OU:LS Tryz.prog EU [0] (j8 0 pZ iD):=eU st (aV Ec) _ iD [] trivial
theorem N8 {v0:Int}{v1 v2 v3:Tabl}(h0:0≤v0)(h1:(v1.conns.length:Int)≤4611686018427387904)(h2:aM v1)(h3:aM v2∧(v3.conns.length:Int)≤v0∧cT aa v3.conns∧sS v3.waiting):(iD (v0,v1,v2,v3,())).U (v1.conns.length:Int) (λv0 a=>aM a.1∧(a.2.conns.length:Int)≤v0∧cT aa a.2.conns∧sS a.2.waiting) (λ_=>True):=
 jV (a:=(v2,v3)) h0 h1 h3
noncomputable def we (v1:Tabl)(v0:Int)(a:Tabl×Tabl):Tr (Stp (Tabl×Tabl) (Empty)):=
 .grd (cd v1.waiting v0)<|
 .cal d6.c (v1,(v1.waiting.getD v0.toNat (Ty.zero .tupl)),()) λc9=>
 .ite (decide (0≤c9)) (.grd (cd v1.waiting v0)<|
  .grd (xr a.2.waiting 1 24)<|
  .ret (.next ((⟨[],[]⟩:Tabl),(⟨a.2.conns,(a.2.waiting++[(v1.waiting.getD v0.toNat (Ty.zero .tupl))])⟩:Tabl))))<|
 .ret (.next ((⟨[],[]⟩:Tabl),a.2))
noncomputable def iA:p8.V→tF p8 (Tabl×Tabl):=λ(v0,v1,v2,v3,_)=>⟨v0,(v2,v3),λv0 a=>(v0,v1,a.1,a.2,()),λv0 _=>(decide (v0<(v1.waiting.length:Int))),we v1,up,1,(Int.toNat ((v1.waiting.length:Int)-v0)),Empty.elim,Prod.mk,oN (.exit 2) ⟨[zp 2 0,zp 3 1],[.box [.st .tabl [.nil .conn,.nil .tupl]],.box [.st .tabl [.own 2,.own 3]],zf,zf]⟩ (λx=>((⟨[],[]⟩:Tabl),x.2.2,()))⟩
theorem NS:LS Tryz.prog EU [1] (j8 2 p8 iA):=eU st (aV Ec) _ iA [] trivial
theorem N1 {v0:Int}{v1 v2 v3:Tabl}(h0:0≤v0)(h1:(v1.waiting.length:Int)≤4611686018427387904)(h2:aM v1)(h3:sL aa v3.conns)(h4:aM v2∧v3.conns.length=v3.conns.length∧cT aa v3.conns∧(v3.waiting.length:Int)≤v0):(iA (v0,v1,v2,v3,())).U (v1.waiting.length:Int) (λv0 a=>aM a.1∧a.2.conns.length=v3.conns.length∧cT aa a.2.conns∧(a.2.waiting.length:Int)≤v0) (λ_=>True):=
 jV (a:=(v2,v3)) h0 h1 h4
noncomputable def zm:FT (Tabl×Unit) (Tabl) (λx=>aM x.1) (λx v=>aM v):=⟨λ(x0,_)=>
  .lp (iD (0,x0,(⟨[],[]⟩:Tabl),(⟨[],[]⟩:Tabl),())).lp λ(_,_,a7_1)=>
  .lp (iA (0,x0,(⟨[],[]⟩:Tabl),(⟨(⟨a7_1.conns,[]⟩:Tabl).conns,[]⟩:Tabl),())).lp λ(_,_,a10_1)=>
  .ret a10_1,
 λ(x0,_) hp=>by
  refine Tr.L (N8 ?_ ?_ ?_ ?_) (λ(a7_0,a7_1) _=>Tr.L (N1 ?_ ?_ ?_ ?_ ?_) (λ(a10_0,a10_1) _=>Tr.R ?_) (λp=>Empty.elim p)) (λp=>Empty.elim p)
  all_goals ((try simp only[iD,iA,LC.lp,LC.ct,Ct.lp]at*)<;>grind)⟩
noncomputable def EF:=bK st EU Ec [(j8 0 pZ iD),(j8 2 p8 iA)] (ks:=[.st .tabl]) zm (λv=>[(true,ri (.o true) (.o true) v)]) Tryz.func55 ⟨OU,NS,trivial⟩
noncomputable def ui:FT (Link×Unit) (Bool) (λx=>dY x.1) (λ_ _=>True):= .mk λ(x0,_)=>
  .cal aD.c (x0.mac,48,()) λc1=>
  .ite c1 (.ite (x0.mac != 281474976710655) (.cal aD.c (x0.ip,32,()) λc2=>
    .ite c2 (.cal tG.c (x0.cache,()) λc3=>
     .ret c3)<|
    .ret false)<|
   .ret false)<|
  .ret false
noncomputable def BC:=aN st Tryz.func62 [bQ,FU] (ks:=[.st .link]) ui rB
noncomputable def dK:FT (Link×Unit) (Bool) (λx=>dY x.1) (λ_ _=>True):= .mk λ(x0,_)=>
  .cal af.c (x0.mac,48,()) λc1=>
  .ite c1 (.ite (x0.mac != 281474976710655) (.cal af.c (x0.ip,32,()) λc2=>
    .ite c2 (.cal fZ.c (x0.cache,()) λc3=>
     .ret c3)<|
    .ret false)<|
   .ret false)<|
  .ret false
noncomputable def Bo:=aN st Tryz.func64 [bN,Ff] (ks:=[.st .link]) dK rB
noncomputable def bV:FT (Conn×Unit) (Conn) (λx=>aa x.1) (λx v=>aa v∧v=x.1):=⟨λ(x0,_)=>
  .cal f8.c (x0.r,()) λc1=>
  .ret ({x0 with r.next:=c1.next,r.data:=c1.data,r.held:=c1.held,r.fin:=c1.fin,r.done:=c1.done}:Conn),
 λ(x0,_) hp=>by
  refine Tr.C ?_ λc1 hc1 qc1=>Tr.R ?_
  all_goals ((first|grind|(refine⟨by grind, ?_⟩;first|(simp only[List.nil_append];done)|(subst_vars;rfl)|simp_all)))⟩
noncomputable def cS:=aN st Tryz.func91 [nv] (ks:=[.st .conn]) bV (λv=>[(true,fo (.o true) v)])
noncomputable def fq:FX (Mac×Int×Unit) (Int) (λ_=>True) (cJ [.st .mac,.sc (.int .i64)]):=⟨λ(x0,x1,_)=>
  .cal dr.c (x0.rows,x1,()) λc1=>
  .ite (decide (c1<0)) (.ret (-1))<|
  .ret c1,
 λ(x0,x1,_) hp hf=>by
  simp only[cJ,Pk.fact,jt,hY,Fl.fact,Ty.fl,Ty.toH]at hf
  refine Tr.C trivial λ_ _ _=>Tr.F (by kernel_rfl) trivial⟩
theorem ad6 (x:Mac)(hl:x.rows.length≤140737488355328)(he:PH .macRow x.rows)(h:0≤fq.f (x,1048576,())):cE x∧x.rows.length≤1048576:=by
 have e:fq.f (x,1048576,())=bif decide (dr.f (x.rows,1048576,())<0)then-1 else dr.f (x.rows,1048576,()):=by simp only[FX.f,PX,fq]
 rw[e]at h
 have:0≤dr.f (x.rows,1048576,()):=by
  by_cases c:dr.f (x.rows,1048576,())<0
  ·rw[decide_eq_true c,cond_true]at h;omega
  ·omega
 have h2:=PC x.rows 1048576 (by omega) (by omega) hl he this
 exact⟨by unfold cE;exact h2.1,h2.2⟩
theorem Nh (x:Mac)(k:Int)(h0:0≤k)(h1:k≤1048576)(hl:x.rows.length≤140737488355328)(he:PH .macRow x.rows)(h:0≤fq.f (x,k,())):fq.f (x,k,())≤k∧cE x:=by
 have e:fq.f (x,k,())=(bif decide (dr.f (x.rows,k,())<0)then-1 else dr.f (x.rows,k,())):=by first|(simp only[FX.f,PX,fq];done)|(simp only[FX.f,PX,fq];rfl)
 rw[e]at h⊢
 obtain⟨p0,e0⟩:=pi h
 rw[e0]at h⊢
 have b0:=Rf _ _ h0 (by omega) hl he p0
 refine⟨by omega, ?_⟩
 unfold cE
 exact⟨by omega,b0.2.2⟩
noncomputable def L7:=rF st Tryz.func98 [Lq] (ks:=[.st .mac,.sc (.int .i64)]) fq rI
noncomputable def Ce:FT (Link×Unit) (Link) (λx=>dY x.1) (λx v=>dY v):= .mk λ(x0,_)=>
  .cal vE.c (x0.cache,()) λc1=>
  .ret ({x0 with cache:=c1}:Link)
noncomputable def UU:=aN st Tryz.func102 [NZ] (ks:=[.st .link]) Ce (λv=>[(true,EY (.o true) v)])
noncomputable def zU:FT (Mac×Unit) (Mac) (λx=>cE x.1) (λx v=>cE v):= .mk λ(x0,_)=>
  .cal sP.c (x0.rows,()) λc1=>
  .ret ({x0 with rows:=c1}:Mac)
noncomputable def MS:=aN st Tryz.func105 [K9] (ks:=[.st .mac]) zU (λv=>[(true,Rp (.o true) v)])
noncomputable def CS:FT (Link×Link×Unit) (Bool) (λx=>dY x.1∧dY x.2.1) (λ_ _=>True):= .mk λ(x0,x1,_)=>
  .ite (x0.mac != x1.mac) (.ret false)<|
  .ite (x0.ip != x1.ip) (.ret false)<|
  .cal vS.c (x0.cache,x1.cache,()) λc1=>
  .ite (!c1) (.ret false)<|
  .ret true
noncomputable def Um:=aN st Tryz.func107 [PJ] (ks:=[.st .link,.st .link]) CS rB
noncomputable def z9:FT (Mac×Mac×Unit) (Bool) (λx=>cE x.1∧cE x.2.1) (λ_ _=>True):= .mk λ(x0,x1,_)=>
  .ite (!(x0.use==x1.use)) (.ret false)<|
  .ite (x0.k != x1.k) (.ret false)<|
  .ite (x0.l != x1.l) (.ret false)<|
  .cal sV.c (x0.rows,x1.rows,()) λc1=>
  .ite (!c1) (.ret false)<|
  .ret true
noncomputable def MW:=aN st Tryz.func109 [K2] (ks:=[.st .mac,.st .mac]) z9 rB
noncomputable def PA:=[pj,bQ,ci,j7]
noncomputable def OY:Fx:=⟨122,Tryz.f122,[(3000001,rA 0 26)],0⟩
noncomputable def u4:FT (Tupl×Int×Int×Int×Unit) (ae) (λ_=>True) (λx v=>sS v∧v.length≤40):=⟨λ(x0,x1,x2,x3,_)=>
  .bnd (β:=Bool×Unit) (.cal kw.c (x0,()) λc1=>
   .ite (!c1) (.ret (true,()))<|
   .cal aD.c (x1,32,()) λc2=>
   .ite (!c2) (.ret (true,()))<|
   .cal aD.c (x2,32,()) λc3=>
   .ite (!c3) (.ret (true,()))<|
   .val (bS.f (x3,0,7,())) λc4=>
   .ret ((!c4),())) λ(u5a0,_)=>
  .ite u5a0 (.ret [])<|
  .cal aO.c (x0.ip,4,()) λc6=>
  .cal aO.c (x0.port,2,()) λc7=>
  .grd (Nat.ble (c6.length+c7.length) ak)<|
  .cal aO.c (x0.my,2,()) λc8=>
  .grd (Nat.ble ((c6++c7).length+c8.length) ak)<|
  .cal aO.c (x1,4,()) λc9=>
  .grd (Nat.ble (((c6++c7)++c8).length+c9.length) ak)<|
  .cal aO.c (x2,4,()) λc10=>
  .grd (Nat.ble ((((c6++c7)++c8)++c9).length+c10.length) ak)<|
  .cal aO.c (x3,1,()) λc11=>
  .grd (Nat.ble (((((c6++c7)++c8)++c9)++c10).length+c11.length) ak)<|
  .ret (((((c6++c7)++c8)++c9)++c10)++c11),
 λ(x0,x1,x2,x3,_) hp=>by
  refine Tr.B (Q':=λ_=>True) (Tr.C trivial λc1 hc1 qc1=>Tr.I (λb0=>Tr.R trivial) λb0=>Tr.C trivial λc2 hc2 qc2=>Tr.I (λb1=>Tr.R trivial) λb1=>Tr.C trivial λc3 hc3 qc3=>Tr.F (by kernel_rfl) trivial) (λ(u5a0,_) hj5 qj5=>Tr.I (λb0=>Tr.R ?_) λb0=>Tr.C trivial λc6 hc6 qc6=>Tr.C trivial λc7 hc7 qc7=>Tr.Gb ?_ λg1=>Tr.C trivial λc8 hc8 qc8=>Tr.Gb ?_ λg2=>Tr.C trivial λc9 hc9 qc9=>Tr.Gb ?_ λg3=>Tr.C trivial λc10 hc10 qc10=>Tr.Gb ?_ λg4=>Tr.C trivial λc11 hc11 qc11=>Tr.Gb ?_ λg5=>Tr.R ?_)
  all_goals ((try simp only[Tr.nice,ko]at*)<;>(first|(simp only[List.length_append,List.length_cons,List.length_nil,ak,sS]at*;omega)|grind))⟩
noncomputable def Nm:=bK st OY PA [] (ks:=[.st .tupl,.sc (.int .i64),.sc (.int .i64),.sc (.int .i64)]) u4 (λv=>[(false,[.c (.str v)])]) Tryz.func122 trivial
noncomputable def Ql:=[FL,BG,EQ,yx]
noncomputable def QV:Fx:=⟨136,Tryz.f136,[(3000002,rA 0 20)],0⟩
noncomputable def yY:FT (Keys×Mac×Unit) (Keys) (λx=>cK x.1∧cE x.2.1) (λx v=>cK v):= .mk λ(x0,x1,_)=>
  .cal uw.c (x0,()) λc1=>
  .bnd (β:=Bool×Unit) (.as (λw=>(w.1=false→0≤x0.epoch∧x0.epoch≤4294967295∧x1.rows.length≤64)) (.cal tL.c (x0,()) λc2=>
   .ite (!c2) (.ret (true,()))<|
   .cal ta.c (x1,()) λc3=>
   .ite (!c3) (.ret (true,()))<|
   .ret ((x0.epoch==4294967295),()))) λ(u4a0,_)=>
  .ite u4a0 (.ret c1)<|
  .cal ka.c (x1,()) λc5=>
  .cal ka.c (x0.now,()) λc6=>
  .ret (⟨(IntKind.wrap .i64 (x0.epoch+1)),c5,c6,true⟩:Keys)
noncomputable def QE:=bK st QV Ql [] (ks:=[.st .keys,.st .mac]) yY (λv=>[(true,IP (.o true) (.o true) v)]) Tryz.func136 trivial
def xN:Sh:=⟨[zp 1 0,zp 2 1,zp 3 2,zi 4],[.box [.st .tabl [.sl .arg,.sl .arg]],.box [.st .tabl [.nil .conn,.nil .tupl]],.box [.st .tabl [.own 3,.own 4]],zf,zf]⟩
noncomputable def xq (v1:Tabl)(v0:Int)(a:Tabl×Tabl):Tr (Stp (Tabl×Tabl) (Empty)):=
 .grd (cd v1.conns v0)<|
 .cal dA.c ((v1.conns.getD v0.toNat (Ty.zero .conn)),()) λc2=>
 .grd (xr a.2.conns 1 208)<|
 .ret (.next ((⟨[],[]⟩:Tabl),(⟨(a.2.conns++[c2]),a.2.waiting⟩:Tabl)))
noncomputable def jK:xN.V→tF xN (Tabl×Tabl):=λ(v0,v1,v2,v3,_)=>⟨v0,(v2,v3),λv0 a=>(v0,v1,a.1,a.2,()),λv0 _=>(decide (v0<(v1.conns.length:Int))),xq v1,up,1,(Int.toNat ((v1.conns.length:Int)-v0)),Empty.elim,Prod.mk,oN (.exit 0) ⟨[zp 2 0,zp 3 1],[.box [.st .tabl [.nil .conn,.nil .tupl]],.box [.st .tabl [.own 2,.own 3]],zf,zf]⟩ (λx=>((⟨[],[]⟩:Tabl),x.2.2,()))⟩
theorem IB {v0:Int}{v1 v2 v3:Tabl}(h0:0≤v0)(h1:(v1.conns.length:Int)≤4611686018427387904)(h2:aM v1)(h3:sS v3.waiting)(h4:aM v2∧(v3.conns.length:Int)=v0∧cT aa v3.conns∧v3.waiting.length=v3.waiting.length):(jK (v0,v1,v2,v3,())).U (v1.conns.length:Int) (λv0 a=>aM a.1∧(a.2.conns.length:Int)=v0∧cT aa a.2.conns∧a.2.waiting.length=v3.waiting.length) (λ_=>True):=
 jV (a:=(v2,v3)) h0 h1 h4
noncomputable def mj:FT (Tabl×Unit) (Tabl) (λx=>aM x.1) (λx v=>aM v∧v.conns.length=x.1.conns.length∧v.waiting.length=x.1.waiting.length):=⟨λ(x0,_)=>
  .grd (Nat.ble ((2*(0+x0.waiting.length)+1024)*24) aU)<|
  .lp (jK (0,x0,(⟨[],[]⟩:Tabl),(⟨[],([]++x0.waiting)⟩:Tabl),())).lp λ(_,_,a3_1)=>
  .ret a3_1,
 λ(x0,_) hp=>by
  refine Tr.Gb ?_ λ_=>Tr.L (IB ?_ ?_ ?_ ?_ ?_) (λ(a3_0,a3_1) _=>Tr.R ?_) (λp=>Empty.elim p)
  all_goals ((try simp only[jK,LC.lp,LC.ct,Ct.lp]at*)<;>grind)⟩
noncomputable def sM:=dV st Tryz.func137 [(0,la ⟨[1,2,3,4],[.box 3 0 .conn],false,0⟩ ⟨[2,3],[],false,0⟩)] [dC] 0 jK (ks:=[.st .tabl]) mj (λv=>[(true,ri (.o true) (.o true) v)])
noncomputable def mg:FT (ae×Unit) (Fram×Bool) (λx=>sS x.1) (λx v=>qa v.1):= .mk λ(x0,_)=>
  .ite (decide ((x0.length:Int)<14)) (.ret ((⟨0,0,0,[]⟩:Fram),false))<|
  .cal d8.c (x0,0,6,()) λc1=>
  .cal d8.c (x0,6,6,()) λc2=>
  .cal d8.c (x0,12,2,()) λc3=>
  .grd ((decide (14≤(x0.length:Int)))&&(decide ((x0.length:Int)≤(x0.length:Int))))<|
  .cal f7.c ((⟨c1,c2,c3,((x0.take ((x0.length:Int).toNat)).drop 14)⟩:Fram),()) λc4=>
  .ite (!c4) (.ret ((⟨0,0,0,[]⟩:Fram),false))<|
  .ret ((⟨c1,c2,c3,((x0.take ((x0.length:Int).toNat)).drop 14)⟩:Fram),true)
noncomputable def A3:=aN st Tryz.func146 [xY,FN] (ks:=[.sc .str]) mg (λv=>[(true,ZD v.1),(false,[.c (.bool v.2)])])
def wv:Sh:=⟨[zl 0 .half,zi 3],[]⟩
noncomputable def fc (v0:List Half)(v1:Int)(a:Unit):Tr (Stp (Unit) ((Unit))):=
 .grd (cd v0 v1)<|
 .cal kw.c ((v0.getD v1.toNat (Ty.zero .half)).tuple,()) λc1=>
 .ite (!c1) (.ret (.out ()))<|
 .cal aD.c ((v0.getD v1.toNat (Ty.zero .half)).iss,32,()) λc2=>
 .ite (!c2) (.ret (.out ()))<|
 .cal aD.c ((v0.getD v1.toNat (Ty.zero .half)).irs,32,()) λc3=>
 .ite (!c3) (.ret (.out ()))<|
 .cal aD.c ((v0.getD v1.toNat (Ty.zero .half)).window,16,()) λc4=>
 .ite (!c4) (.ret (.out ()))<|
 .cal eB.c ((v0.getD v1.toNat (Ty.zero .half)).opts,()) λc5=>
 .ite (!c5) (.ret (.out ()))<|
 .val (bS.f ((v0.getD v1.toNat (Ty.zero .half)).age,0,6,())) λc6=>
 .ite (!c6) (.ret (.out ()))<|
 .grd ((decide (0≤v1))&&(decide (v1≤(v0.length:Int))))<|
 .cal iP.c (((v0.take v1.toNat).drop 0),(v0.getD v1.toNat (Ty.zero .half)).tuple,()) λc7=>
 .ite (decide (0≤c7)) (.ret (.out ()))<|
 .ret (.next ())
noncomputable def iX:wv.V→qo wv Unit (Unit):=λ(v0,v1,_)=>⟨v1,(),λv1 _=>(v0,v1,()),λv1 _=>(decide (v1<(v0.length:Int))),fc v0,up,1,(Int.toNat ((v0.length:Int)-v1)),.inl,eR,oB .ret ⟨[zl 0 .half,zb 2],[]⟩ (λ_=>(v0,false,())) (.exit 0) ⟨[zl 0 .half,zu 2],[]⟩ (λ_=>(v0,()))⟩
theorem GF {v0:List Half}{v1:Int}(h0:0≤v1)(h1:(v0.length:Int)≤4611686018427387904)(h2:wS v0):(iX (v0,v1,())).U (v0.length:Int) (λ_ _=>True) (λ_=>True):=
 jV h0 h1 trivial
noncomputable def n9:FT (List Half×Unit) (Bool) (λx=>wS x.1) (λx v=>(v=true→x.1.length≤64)):= .mk (λ(x0,_)=>
  .lp (iX (x0,0,())).lp λw8=> .sum w8 (λ_=>
  .ret false)<|
  λ_=>
  .ret (decide ((x0.length:Int)≤64))) (pE @GF)
noncomputable def B3:=dV st Tryz.func154 [(0,lb [0,3] [0,2])] [pj,bQ,kT,ci,ne] 0 iX (ks:=[.sc (.sl .half)]) n9 rB
def s9:Sh:=⟨[zp 2 0,zp 3 1,zl 11 .conn,zi 12,zi 13],[.box [.st .tabl [.nil .conn,.nil .tupl]],.box [.st .tabl [.own 2,.own 3]],zf,zf]⟩
noncomputable def sY (v0:List Conn)(v2:Int)(a:Tabl×Tabl):Tr (Stp (Tabl×Tabl) (Empty)):=
 .grd (cd v0 v2)<|
 .cal bV.c ((v0.getD v2.toNat (Ty.zero .conn)),()) λc3=>
 .grd (xr a.2.conns 1 208)<|
 .ret (.next ((⟨[],[]⟩:Tabl),(⟨(a.2.conns++[c3]),a.2.waiting⟩:Tabl)))
noncomputable def ge:s9.V→tF s9 (Tabl×Tabl):=λ(v0,v1,v2,v3,v4,_)=>⟨v2,(v3,v4),λv2 a=>(v0,v1,v2,a.1,a.2,()),λv2 _=>(decide (v2<v1)),sY v0,up,1,(Int.toNat (v1-v2)),Empty.elim,Prod.mk,oN (.exit 0) ⟨[zp 2 0,zp 3 1],[.box [.st .tabl [.nil .conn,.nil .tupl]],.box [.st .tabl [.own 2,.own 3]],zf,zf]⟩ (λx=>((⟨[],[]⟩:Tabl),x.2.2,()))⟩
theorem DB {v0:List Conn}{v1 v2:Int}{v3 v4:Tabl}(h0:0≤v2)(h1:v1≤4611686018427387904)(h2:sL aa v0)(h3:v1≤4294967296)(h4:sS v4.waiting)(h5:v1≤(v0.length:Int))(h6:aM v3∧(v4.conns.length:Int)=v2∧cT aa v4.conns∧v4.waiting.length=v4.waiting.length):(ge (v0,v1,v2,v3,v4,())).U v1 (λv2 a=>aM a.1∧(a.2.conns.length:Int)=v2∧cT aa a.2.conns∧a.2.waiting.length=v4.waiting.length) (λ_=>True):=
 jV (a:=(v3,v4)) h0 h1 h6
noncomputable def fk:FT (Tabl×Unit) (Tabl) (λx=>aM x.1) (λx v=>aM v∧v.conns.length=x.1.conns.length∧v.waiting.length=x.1.waiting.length):=⟨λ(x0,_)=>
  .cal oH.c (x0.waiting,()) λc1=>
  .lp (ge (x0.conns,(x0.conns.length:Int),0,(⟨[],[]⟩:Tabl),(⟨[],c1⟩:Tabl),())).lp λ(_,_,a4_1)=>
  .ret a4_1,
 λ(x0,_) hp=>by
  refine Tr.C ?_ λ_ _ _=>Tr.L (DB ?_ ?_ ?_ ?_ ?_ ?_ ?_) (λ(a4_0,a4_1) _=>Tr.R ?_) (λp=>Empty.elim p)
  all_goals ((try simp only[ge,LC.lp,LC.ct,Ct.lp]at*)<;>grind)⟩
noncomputable def j5:=dV st Tryz.func168 [(0,la ⟨[2,3,11,12,13],[.box 3 0 .conn],false,0⟩ ⟨[2,3],[],false,0⟩)] [Gr,cS] 0 ge (ks:=[.st .tabl]) fk (λv=>[(true,ri (.o true) (.o true) v)])
noncomputable def cm:FT (Segm×Int×Int×Unit) (ae) (λx=>am x.1) (λx v=>sS v∧v.length≤1500):=⟨λ(x0,x1,x2,_)=>
  .cal ai.c (x0,()) λc1=>
  .ite (!c1) (.ret [])<|
  .cal cr.c (x0.opts,()) λc2=>
  .val (IntKind.wrap .i64 ((IntKind.wrap .i64 (20+(c2.length:Int)))+(x0.body.length:Int))) λe3=>
  .cal em.c (x1,x2,e3,()) λc4=>
  .ite (c4==[]) (.ret [])<|
  .cal au.c (x0.from_,2,()) λc5=>
  .cal au.c (x0.to,2,()) λc6=>
  .grd (Nat.ble (c5.length+c6.length) ak)<|
  .cal au.c (x0.seq,4,()) λc7=>
  .grd (Nat.ble ((c5++c6).length+c7.length) ak)<|
  .cal au.c (x0.ack,4,()) λc8=>
  .grd (Nat.ble (((c5++c6)++c7).length+c8.length) ak)<|
  .val (IntKind.wrap .i64 ((IntKind.wrap .i64 (20+(c2.length:Int))).tdiv 4)) λe9=>
  .cal au.c ((IntKind.wrap .i64 (e9*16)),1,()) λc10=>
  .grd (Nat.ble ((((c5++c6)++c7)++c8).length+c10.length) ak)<|
  .cal au.c (x0.flags,1,()) λc11=>
  .grd (Nat.ble (((((c5++c6)++c7)++c8)++c10).length+c11.length) ak)<|
  .cal au.c (x0.window,2,()) λc12=>
  .grd (Nat.ble ((((((c5++c6)++c7)++c8)++c10)++c11).length+c12.length) ak)<|
  .grd (Nat.ble (2+c2.length) ak)<|
  .grd (Nat.ble (([0,0]++c2).length+x0.body.length) ak)<|
  .grd (Nat.ble (c4.length+((((((c5++c6)++c7)++c8)++c10)++c11)++c12).length) ak)<|
  .grd (Nat.ble ((c4++((((((c5++c6)++c7)++c8)++c10)++c11)++c12)).length+2) ak)<|
  .val ((c4++((((((c5++c6)++c7)++c8)++c10)++c11)++c12))++[0,0]) λe13=>
  .grd (Nat.ble (e13.length+(([0,0]++c2)++x0.body).length) ak)<|
  .cal sW.c ((e13++(([0,0]++c2)++x0.body)),()) λc14=>
  .cal au.c (c14,2,()) λc15=>
  .grd (Nat.ble (((((((c5++c6)++c7)++c8)++c10)++c11)++c12).length+c15.length) ak)<|
  .grd (Nat.ble ((((((((c5++c6)++c7)++c8)++c10)++c11)++c12)++c15).length+(([0,0]++c2)++x0.body).length) ak)<|
  .val ((((((((c5++c6)++c7)++c8)++c10)++c11)++c12)++c15)++(([0,0]++c2)++x0.body)) λe16=>
  .ret e16,
 λ(x0,x1,x2,_) hp=>by
  refine Tr.C trivial λc1 hc1 qc1=>Tr.I (λb0=>Tr.R ?_) λb0=>Tr.C trivial λc2 hc2 qc2=>Tr.V λe3 he3=>Tr.C trivial λc4 hc4 qc4=>Tr.I (λb1=>Tr.R ?_) λb1=>Tr.C trivial λc5 hc5 qc5=>Tr.C trivial λc6 hc6 qc6=>Tr.Gb ?_ λg2=>Tr.C trivial λc7 hc7 qc7=>Tr.Gb ?_ λg3=>Tr.C trivial λc8 hc8 qc8=>Tr.Gb ?_ λg4=>Tr.V λe9 he9=>Tr.C trivial λc10 hc10 qc10=>Tr.Gb ?_ λg5=>Tr.C trivial λc11 hc11 qc11=>Tr.Gb ?_ λg6=>Tr.C trivial λc12 hc12 qc12=>Tr.Gb ?_ λg7=>Tr.Gb ?_ λg8=>Tr.Gb ?_ λg9=>Tr.Gb ?_ λg10=>Tr.Gb ?_ λg11=>Tr.V λe13 he13=>Tr.Gb ?_ λg12=>Tr.C ?_ λc14 hc14 qc14=>Tr.C trivial λc15 hc15 qc15=>Tr.Gb ?_ λg13=>Tr.Gb ?_ λg14=>Tr.V λe16 he16=>Tr.R ?_
  all_goals ((first|(simp only[List.length_append,List.length_cons,List.length_nil,ak,sS]at*;omega)|grind))⟩
noncomputable def Gh:=aN st Tryz.func180 [jb,GO,xI,jC,EK] (ks:=[.st .segm,.sc (.int .i64),.sc (.int .i64)]) cm (λv=>[(false,[.c (.str v)])])
noncomputable def R4:=[SV,KS,Bo,AE]
noncomputable def SW:Fx:=⟨181,Tryz.f181,[(3000003,rA 0 35)],0⟩
noncomputable def je:FT (Link×Int×ae×Unit) (ae×Bool) (λx=>dY x.1∧sS x.2.2.1) (λx v=>sS v.1):= .mk λ(x0,x1,x2,_)=>
  .cal Bw.c (x0.cache,x1,()) λc1=>
  .cal pS.c ((⟨x0.ip,x1,64,6,0,x2⟩:Pack),()) λc2=>
  .bnd (β:=Bool×Unit) (.cal dK.c (x0,()) λc3=>
   .ite (!c3) (.ret (true,()))<|
   .ite (!c1.2) (.ret (true,()))<|
   .ret ((c2==[]),())) λ(u4a0,_)=>
  .ite u4a0 (.ret ([],false))<|
  .cal gj.c ((⟨c1.1,x0.mac,2048,c2⟩:Fram),()) λc5=>
  .ret (c5,(!(c5==[])))
noncomputable def RR:=bK st SW R4 [] (ks:=[.st .link,.sc (.int .i64),.sc .str]) je (λv=>[(false,[.c (.str v.1)]),(false,[.c (.bool v.2)])]) Tryz.func181 trivial
noncomputable def oT:FT (Keys×Unit) (Keys) (λx=>cK x.1) (λx v=>cK v∧v=x.1):=⟨λ(x0,_)=>
  .cal jP.c (x0.now,()) λc1=>
  .cal jP.c (x0.before,()) λc2=>
  .ret (⟨x0.epoch,c1,c2,x0.two⟩:Keys),
 λ(x0,_) hp=>by
  refine Tr.C ?_ λc1 hc1 qc1=>Tr.C ?_ λc2 hc2 qc2=>Tr.R ?_
  all_goals ((first|grind|(refine⟨by grind, ?_⟩;first|(simp only[List.nil_append];done)|(subst_vars;rfl)|simp_all)))⟩
noncomputable def AF:=aN st Tryz.func194 [vF] (ks:=[.st .keys]) oT (λv=>[(true,IP (.o true) (.o true) v)])
noncomputable def fy:FT (Segm×Unit) (List Segm) (λx=>am x.1) (λx v=>sL am v):= .mk λ(x0,_)=>
  .cal j1.c (x0,()) λc1=>
  .ite c1.2 (.ret [c1.1])<|
  .ret []
noncomputable def Ip:=aN st Tryz.func197 [OZ] (ks:=[.st .segm]) fy (λv=>[(false,[sc (.o true) .segm v])])
noncomputable def jT:FX (Keys×Int×Unit) (Int) (λ_=>True) (cJ [.st .keys,.sc (.int .i64)]):=⟨λ(x0,x1,_)=>
  .cal fq.c (x0.now,x1,()) λc1=>
  .ite (decide (c1<0)) (.ret (-1))<|
  .cal fq.c (x0.before,c1,()) λc2=>
  .ite (decide (c2<0)) (.ret (-1))<|
  .ret c2,
 λ(x0,x1,_) hp hf=>by
  simp only[cJ,Pk.fact,jt,hY,Fl.fact,Ty.fl,Ty.toH]at hf
  refine Tr.C trivial λ_ _ _=>Tr.I (λ_=>Tr.R trivial) λ_=>Tr.C trivial λ_ _ _=>Tr.F (by kernel_rfl) trivial⟩
theorem Z7 (x:Keys)(k:Int)(h0:0≤k)(h1:k≤1048576)(n1:x.now.rows.length≤140737488355328)(n2:PH .macRow x.now.rows)(m1:x.before.rows.length≤140737488355328)(m2:PH .macRow x.before.rows)(h:0≤jT.f (x,k,())):jT.f (x,k,())≤k∧cK x:=by
 have e:jT.f (x,k,())=(bif decide (fq.f (x.now,k,())<0)then-1 else(bif decide (fq.f (x.before,fq.f (x.now,k,()),())<0)then-1 else fq.f (x.before,fq.f (x.now,k,()),()))):=by first|(simp only[FX.f,PX,jT];done)|(simp only[FX.f,PX,jT];rfl)
 rw[e]at h⊢
 obtain⟨p0,e0⟩:=pi h
 rw[e0]at h⊢
 obtain⟨p1,e1⟩:=pi h
 rw[e1]at h⊢
 have b0:=Nh _ _ h0 (by omega) n1 n2 p0
 have b1:=Nh _ _ p0 (by omega) m1 m2 p1
 refine⟨by omega, ?_⟩
 have q0:=b0.2
 have q1:=b1.2
 unfold cE at q0 q1
 unfold cK
 exact⟨q0.1,q0.2,q1.1,q1.2⟩
noncomputable def Vw:=rF st Tryz.func205 [L7] (ks:=[.st .keys,.sc (.int .i64)]) jT rI
noncomputable def CM:FT (Keys×Unit) (Keys) (λx=>cK x.1) (λx v=>cK v):= .mk λ(x0,_)=>
  .cal zU.c (x0.now,()) λc1=>
  .cal zU.c (x0.before,()) λc2=>
  .ret (⟨x0.epoch,c1,c2,x0.two⟩:Keys)
noncomputable def Vq:=aN st Tryz.func213 [MS] (ks:=[.st .keys]) CM (λv=>[(true,IP (.o true) (.o true) v)])
def yz:Sh:=⟨[zl 0 .half,zo 3 0,zi 4],[za .half]⟩
noncomputable def yc (v0:List Half)(v1:Int)(a:List Half):Tr (Stp (List Half) (Empty)):=
 .grd (cd v0 v1)<|
 .val (Cd.f ((v0.getD v1.toNat (Ty.zero .half)),())) λc2=>
 .grd (cd a v1)<|
 .ret (.next (a.set v1.toNat c2))
noncomputable def jZ:yz.V→tF yz (List Half):=λ(v0,v1,v2,_)=>⟨v1,v2,λv1 a=>(v0,v1,a,()),λv1 _=>(decide (v1<(v0.length:Int))),yc v0,up,1,(Int.toNat ((v0.length:Int)-v1)),Empty.elim,Prod.mk,oN (.exit 0) ⟨[zu 2,zo 3 0],[za .half]⟩ (λx=>(x.2,()))⟩
theorem IY {v0 v2:List Half}{v1:Int}(h0:0≤v1)(h1:(v0.length:Int)≤4611686018427387904)(h2:sS v0)(h3:sS v2)(h4:v2.length=v2.length∧(v0.length:Int)≤(v2.length:Int)):(jZ (v0,v1,v2,())).U (v0.length:Int) (λv1 a=>a.length=v2.length∧(v0.length:Int)≤(a.length:Int)) (λ_=>True):=
 jV (a:=v2) h0 h1 h4
noncomputable def zJ:FT (List Half×Unit) (List Half) (λx=>sS x.1) (λx v=>sS v):=⟨λ(x0,_)=>
  .grd ((((decide (0≤(x0.length:Int)))&&(decide ((x0.length:Int)=(x0.length:Int))))&&(decide ((x0.length:Int)*96≤(aU:Int))))&&(decide ((x0.length:Int)≤(aU:Int))))<|
  .val (List.replicate ((x0.length:Int).toNat) (⟨⟨0,0,0⟩,0,0,⟨0,0,false,false,0,0⟩,0,0⟩:Half)) λl1=>
  .lp (jZ (x0,0,l1,())).lp λ(_,a3_0)=>
  .ret a3_0,
 λ(x0,_) hp=>by
  refine Tr.G4 ?_ λ_=>Tr.V λ_ _=>Tr.L (IY ?_ ?_ ?_ ?_ ?_) (λa3_0 _=>Tr.R ?_) (λp=>Empty.elim p)
  all_goals ((try simp only[jZ,LC.lp,LC.ct,Ct.lp]at*)<;>grind)⟩
noncomputable def SL:=dV st Tryz.func215 [(0,lb [0,3,4] [2,3])] [VN] 0 jZ (ks:=[.sc (.sl .half)]) zJ (λv=>[(false,[sc (.o true) .half v])])
noncomputable def CA:FT (Keys×Keys×Unit) (Bool) (λx=>cK x.1∧cK x.2.1) (λ_ _=>True):= .mk λ(x0,x1,_)=>
  .ite (x0.epoch != x1.epoch) (.ret false)<|
  .cal z9.c (x0.now,x1.now,()) λc1=>
  .ite (!c1) (.ret false)<|
  .cal z9.c (x0.before,x1.before,()) λc2=>
  .ite (!c2) (.ret false)<|
  .ite (!(x0.two==x1.two)) (.ret false)<|
  .ret true
noncomputable def UD:=aN st Tryz.func219 [MW] (ks:=[.st .keys,.st .keys]) CA rB
def xC:Sh:=⟨[zl 0 .half,zl 1 .half,zi 5],[]⟩
noncomputable def ym (v0 v1:List Half)(v2:Int)(a:Unit):Tr (Stp (Unit) ((Unit))):=
 .grd (cd v0 v2)<|
 .grd (cd v1 v2)<|
 .val (C9.f ((v0.getD v2.toNat (Ty.zero .half)),(v1.getD v2.toNat (Ty.zero .half)),())) λc1=>
 .ite (!c1) (.ret (.out ()))<|
 .ret (.next ())
noncomputable def mz:xC.V→qo xC Unit (Unit):=λ(v0,v1,v2,_)=>⟨v2,(),λv2 _=>(v0,v1,v2,()),λv2 _=>(decide (v2<(v0.length:Int))),ym v0 v1,up,1,(Int.toNat ((v0.length:Int)-v2)),.inl,eR,oB .ret ⟨[zb 4],[]⟩ (λ_=>(false,())) (.exit 0) ⟨[zu 4],[]⟩ (λ_=>())⟩
theorem Kn {v0 v1:List Half}{v2:Int}(h0:0≤v2)(h1:(v0.length:Int)≤4611686018427387904)(h2:(v0.length:Int)≤(v1.length:Int)):(mz (v0,v1,v2,())).U (v0.length:Int) (λ_ _=>True) (λ_=>True):=
 jV h0 h1 trivial
noncomputable def zZ:FT (List Half×List Half×Unit) (Bool) (λx=>sS x.1∧sS x.2.1) (λ_ _=>True):= .mk (λ(x0,x1,_)=>
  .ite ((x0.length:Int) != (x1.length:Int)) (.ret false)<|
  .lp (mz (x0,x1,0,())).lp λw2=> .sum w2 (λ_=>
  .ret false)<|
  λ_=>
  .ret true) (pE @Kn)
noncomputable def RX:=dV st Tryz.func221 [(0,lb [0,1,5] [4])] [Up] 0 mz (ks:=[.sc (.sl .half),.sc (.sl .half)]) zZ rB
noncomputable def rf:FT (ae×Unit) (Bool) (λx=>sS x.1) (λ_ _=>True):= .mk λ(x0,_)=>
  .cal vV.c (x0,()) λc1=>
  .ret (c1==0)
noncomputable def Du:=aN st Tryz.func238 [ER] (ks:=[.sc .str]) rf rB
noncomputable def im:FT (Segm×Unit) (Bool) (λ_=>True) (λx v=>(v=true→x.1.body.length≤1420)):= .mk λ(x0,_)=>
  .cal aD.c (x0.from_,16,()) λc1=>
  .ite c1 (.cal aD.c (x0.to,16,()) λc2=>
   .ite c2 (.cal aD.c (x0.window,16,()) λc3=>
    .ite c3 (.cal aD.c (x0.seq,32,()) λc4=>
     .ite c4 (.cal aD.c (x0.ack,32,()) λc5=>
      .ite c5 (.cal aD.c (x0.flags,6,()) λc6=>
       .ite c6 (.cal eB.c (x0.opts,()) λc7=>
        .ite c7 (.ret (decide ((x0.body.length:Int)≤1420)))<|
        .ret false)<|
       .ret false)<|
      .ret false)<|
     .ret false)<|
    .ret false)<|
   .ret false)<|
  .ret false
noncomputable def kN:=aN st Tryz.func241 [bQ,kT] (ks:=[.st .segm]) im rB
noncomputable def ot:FT (Segm×Int×Int×Unit) (ae) (λx=>am x.1) (λx v=>sS v∧v.length≤1500):=⟨λ(x0,x1,x2,_)=>
  .cal im.c (x0,()) λc1=>
  .ite (!c1) (.ret [])<|
  .cal oJ.c (x0.opts,()) λc2=>
  .val (IntKind.wrap .i64 ((IntKind.wrap .i64 (20+(c2.length:Int)))+(x0.body.length:Int))) λe3=>
  .cal np.c (x1,x2,e3,()) λc4=>
  .ite (c4==[]) (.ret [])<|
  .cal aO.c (x0.from_,2,()) λc5=>
  .cal aO.c (x0.to,2,()) λc6=>
  .grd (Nat.ble (c5.length+c6.length) ak)<|
  .cal aO.c (x0.seq,4,()) λc7=>
  .grd (Nat.ble ((c5++c6).length+c7.length) ak)<|
  .cal aO.c (x0.ack,4,()) λc8=>
  .grd (Nat.ble (((c5++c6)++c7).length+c8.length) ak)<|
  .val (IntKind.wrap .i64 ((IntKind.wrap .i64 (20+(c2.length:Int))).tdiv 4)) λe9=>
  .cal aO.c ((IntKind.wrap .i64 (e9*16)),1,()) λc10=>
  .grd (Nat.ble ((((c5++c6)++c7)++c8).length+c10.length) ak)<|
  .cal aO.c (x0.flags,1,()) λc11=>
  .grd (Nat.ble (((((c5++c6)++c7)++c8)++c10).length+c11.length) ak)<|
  .cal aO.c (x0.window,2,()) λc12=>
  .grd (Nat.ble ((((((c5++c6)++c7)++c8)++c10)++c11).length+c12.length) ak)<|
  .grd (Nat.ble (2+c2.length) ak)<|
  .grd (Nat.ble (([0,0]++c2).length+x0.body.length) ak)<|
  .grd (Nat.ble (c4.length+((((((c5++c6)++c7)++c8)++c10)++c11)++c12).length) ak)<|
  .grd (Nat.ble ((c4++((((((c5++c6)++c7)++c8)++c10)++c11)++c12)).length+2) ak)<|
  .val ((c4++((((((c5++c6)++c7)++c8)++c10)++c11)++c12))++[0,0]) λe13=>
  .grd (Nat.ble (e13.length+(([0,0]++c2)++x0.body).length) ak)<|
  .cal vV.c ((e13++(([0,0]++c2)++x0.body)),()) λc14=>
  .cal aO.c (c14,2,()) λc15=>
  .grd (Nat.ble (((((((c5++c6)++c7)++c8)++c10)++c11)++c12).length+c15.length) ak)<|
  .grd (Nat.ble ((((((((c5++c6)++c7)++c8)++c10)++c11)++c12)++c15).length+(([0,0]++c2)++x0.body).length) ak)<|
  .val ((((((((c5++c6)++c7)++c8)++c10)++c11)++c12)++c15)++(([0,0]++c2)++x0.body)) λe16=>
  .ret e16,
 λ(x0,x1,x2,_) hp=>by
  refine Tr.C trivial λc1 hc1 qc1=>Tr.I (λb0=>Tr.R ?_) λb0=>Tr.C trivial λc2 hc2 qc2=>Tr.V λe3 he3=>Tr.C trivial λc4 hc4 qc4=>Tr.I (λb1=>Tr.R ?_) λb1=>Tr.C trivial λc5 hc5 qc5=>Tr.C trivial λc6 hc6 qc6=>Tr.Gb ?_ λg2=>Tr.C trivial λc7 hc7 qc7=>Tr.Gb ?_ λg3=>Tr.C trivial λc8 hc8 qc8=>Tr.Gb ?_ λg4=>Tr.V λe9 he9=>Tr.C trivial λc10 hc10 qc10=>Tr.Gb ?_ λg5=>Tr.C trivial λc11 hc11 qc11=>Tr.Gb ?_ λg6=>Tr.C trivial λc12 hc12 qc12=>Tr.Gb ?_ λg7=>Tr.Gb ?_ λg8=>Tr.Gb ?_ λg9=>Tr.Gb ?_ λg10=>Tr.Gb ?_ λg11=>Tr.V λe13 he13=>Tr.Gb ?_ λg12=>Tr.C ?_ λc14 hc14 qc14=>Tr.C trivial λc15 hc15 qc15=>Tr.Gb ?_ λg13=>Tr.Gb ?_ λg14=>Tr.V λe16 he16=>Tr.R ?_
  all_goals ((first|(simp only[List.length_append,List.length_cons,List.length_nil,ak,sS]at*;omega)|grind))⟩
noncomputable def G0:=aN st Tryz.func249 [kN,G7,xJ,j7,ER] (ks:=[.st .segm,.sc (.int .i64),.sc (.int .i64)]) ot (λv=>[(false,[.c (.str v)])])
noncomputable def TF:=[pj,ku,rP,kT,ci,TW]
def JV:An:=⟨⟨[],[],false,0⟩,⟨[1,2,3],[],false,0⟩,⟨[],[]⟩,[(.normal,⟨[zp 1 0,zb 2,zi 3],[zg .conn]⟩)]⟩
noncomputable def Ug:Fx:=⟨251,Tryz.f251,[(1000055,JV),(3000001,rA 0 52),(3000010,rA 0 4),(3000011,rA 0 5)],0⟩
noncomputable def ib:FT (Conn×Unit) (Bool) (λx=>aa x.1) (λx v=>(v=true→SO x.1.s∧RO x.1.r)):= .mk λ(x0,_)=>
  .bnd (β:=Bool×Unit) (.as (λw=>(w.1=false→SO x0.s∧RO x0.r)) (.cal kw.c (x0.tuple,()) λc1=>
   .ite (!c1) (.ret (true,()))<|
   .cal fg.c (x0.s,()) λc2=>
   .ite (!c2) (.ret (true,()))<|
   .cal kn.c (x0.r,()) λc3=>
   .ite (!c3) (.ret (true,()))<|
   .cal eB.c (x0.opts,()) λc4=>
   .ite (!c4) (.ret (true,()))<|
   .val (bS.f (x0.state,1,8,())) λc5=>
   .ite (!c5) (.ret (true,()))<|
   .val (bS.f (x0.window,0,x0.most,())) λc6=>
   .ite (!c6) (.ret (true,()))<|
   .ite (decide (1073725440<x0.most)) (.ret (true,()))<|
   .val (bS.f (x0.tries,0,3,())) λc7=>
   .ret ((!c7),()))) λ(u8a0,_)=>
  .ite u8a0 (.ret false)<|
  .bnd (β:=Bool×Int×Conn×Unit) (.as (λw=>aa w.2.2.1) (.ite (x0.state==7) (.ret (false,4,x0,()))<|
   .ret (false,3,x0,()))) λ(_,u9a1,u9a2,_)=>
  .val (bS.f (u9a2.timer,0,u9a1,())) λc10=>
  .ite (!c10) (.ret false)<|
  .ite (u9a2.state==8) (.ret true)<|
  .bnd (β:=Bool×Unit) (.ite (u9a2.state==3) (.ret (true,()))<|
   .ret ((u9a2.state==7),())) λ(u11a0,_)=>
  .bnd (β:=Bool×Unit) (.ite (u9a2.state==4) (.ret (true,()))<|
   .ret ((decide (5≤u9a2.state)),())) λ(u12a0,_)=>
  .val (Kc.f (u9a2.state,())) λc13=>
  .ite (u9a2.s.fin==c13) (.ite (u9a2.s.done==u11a0) (.ret (u9a2.r.done==u12a0))<|
   .ret false)<|
  .ret false
noncomputable def gA:=bK st Ug TF [] (ks:=[.st .conn]) ib rB Tryz.func251 trivial
noncomputable def ju:FT (Conn×Unit) (Segm) (λx=>aa x.1) (λx v=>am v):= .mk λ(x0,_)=>
  .cal xM.c (x0.s,()) λc1=>
  .cal gz.c (x0.r,()) λc2=>
  .val (cu.f (())) λc3=>
  .ret (⟨x0.tuple.my,x0.tuple.port,c1,x0.r.next,16,c2,c3,[]⟩:Segm)
noncomputable def uq:=aN st Tryz.func252 [Ie,kE,jd] (ks:=[.st .conn]) ju (λv=>[(true,th v)])
noncomputable def zv:FT (Sndr×Unit) (Sndr) (λx=>bP x.1) (λx v=>bP v):= .mk λ(x0,_)=>
  .cal fg.c (x0,()) λc1=>
  .ite c1 (.ret ({x0 with sent:=0,finSent:=false}:Sndr))<|
  .ret x0
noncomputable def Th:=aN st Tryz.func253 [ku] (ks:=[.st .sndr]) zv (λv=>[(true,wa v)])
noncomputable def SM:=[dC,gA,UK,LF,uq,Qu]
def sU:Sh:=⟨[zi 1,zp 2 0,zp 4 1,zo 6 2],[zk .conn 3,.box [.st .conn [.nil .piec]],za .segm,zf]⟩
noncomputable def Q4:Fx:=⟨254,Tryz.f254,[(0,lb [1,2,4,6] [4,5]),(3000003,rA 0 25)],0⟩
noncomputable def sF (v0:Int)(a:Conn×Conn×List Segm):Tr (Stp (Conn×Conn×List Segm) ((Conn×List Segm))):=
 .val (DA.f (a.1,())) λc4=>
 .cal ss.c (a.1.s,v0,c4,()) λc5=>
 .ite (!c5.2) (.ret (.out (a.1,a.2.2)))<|
 .cal ju.c (a.1,()) λc6=>
 .ite (!(c5.1.text==[])) (.ite c5.1.fin (.grd (xr a.2.2 1 104)<|
   .val (a.2.2++[({c6 with seq:=c5.1.seq,flags:=(bits .or .i64 (bits .or .i64 c6.flags 8) 1),body:=c5.1.text}:Segm)]) λl7=>
   .cal n7.c (a.1.s,c5.1,()) λc8=>
   .ite (a.1.timer==0) (.ret (.next ((⟨a.1.tuple,a.1.state,c8,a.1.r,a.1.window,a.1.most,a.1.opts,3,a.1.tries⟩:Conn),({a.2.1 with r.held:=[]}:Conn),l7)))<|
   .ret (.next (({a.1 with s.una:=c8.una,s.data:=c8.data,s.sent:=c8.sent,s.fin:=c8.fin,s.finSent:=c8.finSent,s.done:=c8.done}:Conn),({a.2.1 with r.held:=[]}:Conn),l7)))<|
  .grd (xr a.2.2 1 104)<|
  .val (a.2.2++[({c6 with seq:=c5.1.seq,flags:=(bits .or .i64 c6.flags 8),body:=c5.1.text}:Segm)]) λl9=>
  .cal n7.c (a.1.s,c5.1,()) λc10=>
  .ite (a.1.timer==0) (.ret (.next ((⟨a.1.tuple,a.1.state,c10,a.1.r,a.1.window,a.1.most,a.1.opts,3,a.1.tries⟩:Conn),({a.2.1 with r.held:=[]}:Conn),l9)))<|
  .ret (.next (({a.1 with s.una:=c10.una,s.data:=c10.data,s.sent:=c10.sent,s.fin:=c10.fin,s.finSent:=c10.finSent,s.done:=c10.done}:Conn),({a.2.1 with r.held:=[]}:Conn),l9)))<|
 .ite c5.1.fin (.grd (xr a.2.2 1 104)<|
  .val (a.2.2++[({c6 with seq:=c5.1.seq,flags:=(bits .or .i64 c6.flags 1),body:=c5.1.text}:Segm)]) λl11=>
  .cal n7.c (a.1.s,c5.1,()) λc12=>
  .ite (a.1.timer==0) (.ret (.next ((⟨a.1.tuple,a.1.state,c12,a.1.r,a.1.window,a.1.most,a.1.opts,3,a.1.tries⟩:Conn),({a.2.1 with r.held:=[]}:Conn),l11)))<|
  .ret (.next (({a.1 with s.una:=c12.una,s.data:=c12.data,s.sent:=c12.sent,s.fin:=c12.fin,s.finSent:=c12.finSent,s.done:=c12.done}:Conn),({a.2.1 with r.held:=[]}:Conn),l11)))<|
 .grd (xr a.2.2 1 104)<|
 .cal n7.c (a.1.s,c5.1,()) λc13=>
 .ite (a.1.timer==0) (.ret (.next ((⟨a.1.tuple,a.1.state,c13,a.1.r,a.1.window,a.1.most,a.1.opts,3,a.1.tries⟩:Conn),({a.2.1 with r.held:=[]}:Conn),(a.2.2++[({c6 with seq:=c5.1.seq,body:=c5.1.text}:Segm)]))))<|
 .ret (.next (({a.1 with s.una:=c13.una,s.data:=c13.data,s.sent:=c13.sent,s.fin:=c13.fin,s.finSent:=c13.finSent,s.done:=c13.done}:Conn),({a.2.1 with r.held:=[]}:Conn),(a.2.2++[({c6 with seq:=c5.1.seq,body:=c5.1.text}:Segm)])))
noncomputable def me:sU.V→LW sU (Conn×Conn×List Segm) ((Conn×List Segm)):=λ(v0,v1,v2,v3,_)=>⟨(v1,v2,v3),λa=>(v0,a.1,a.2.1,a.2.2,()),sF v0,Hz v1.s,oN .ret ⟨[zp 4 0,zo 5 1],[zk .conn 2,za .segm,zf]⟩ (λp=>(p.1,p.2,()))⟩
set_option maxHeartbeats 4000000 in
theorem Qw:LS Tryz.prog Q4 [0] (leW 0 sU me):=Wr st (aV SM) _ me [] trivial
theorem Sq {v0:Int}{v1 v2:Conn}{v3:List Segm}(h0:aa v1∧aa v2∧sL am v3∧v3.length+Hz v1.s≤49):(me (v0,v1,v2,v3,())).W (λp=>aa p.1∧sL am p.2∧p.2.length≤49):=
 LW.okW (a:=(v1,v2,v3)) (λa=>aa a.1∧aa a.2.1∧sL am a.2.2∧a.2.2.length+Hz a.1.s≤49) (λa=>Hz a.1.s) rfl h0 λ(v1,v2,v3) hv=>by
  refine Tr.V λc4 hc4=>Tr.C ?_ λc5 hc5 qc5=>Tr.I (λb0=>Tr.Ro ?_) λb0=>Tr.C ?_ λc6 hc6 qc6=>Tr.I (λb1=>Tr.I (λb2=>Tr.Gb ?_ λg3=>Tr.V λl7 hl7=>Tr.C ?_ λc8 hc8 qc8=>Tr.I (λb4=>Tr.Rn ?_) λb4=>Tr.Rn ?_) λb2=>Tr.Gb ?_ λg3=>Tr.V λl9 hl9=>Tr.C ?_ λc10 hc10 qc10=>Tr.I (λb4=>Tr.Rn ?_) λb4=>Tr.Rn ?_) λb1=>Tr.I (λb2=>Tr.Gb ?_ λg3=>Tr.V λl11 hl11=>Tr.C ?_ λc12 hc12 qc12=>Tr.I (λb4=>Tr.Rn ?_) λb4=>Tr.Rn ?_) λb2=>Tr.Gb ?_ λg3=>Tr.C ?_ λc13 hc13 qc13=>Tr.I (λb4=>Tr.Rn ?_) λb4=>Tr.Rn ?_
  all_goals ((first|grind|(have tl:∀s:ae,s=[]∨0<s.length:=(λs=>by cases s<;>simp);grind)))
noncomputable def mL:FT (Conn×Int×Unit) (Conn×List Segm) (λx=>aa x.1) (λx v=>aa v.1∧sL am v.2∧v.2.length≤49):= .mk (λ(x0,x1,_)=>
  .cal dA.c (x0,()) λc1=>
  .bnd (β:=Bool×Unit) (.as (λw=>(w.1=false→SO c1.s∧RO c1.r)) (.cal ib.c (c1,()) λc2=>
   .ite (!c2) (.ret (true,()))<|
   .ite (c1.state==8) (.ret (true,()))<|
   .ret ((c1.state==7),()))) λ(u3a0,_)=>
  .ite u3a0 (.ret (c1,[]))<|
  .lp (me (x1,c1,(⟨⟨0,0,0⟩,0,⟨0,[],0,false,false,false⟩,⟨0,[],[],0,false⟩,0,0,⟨0,0,false,false,0,0⟩,0,0⟩:Conn),[],())).lp λ(p14a0,p14a1)=>
  .ret (p14a0,p14a1)) (pE @Sq)
noncomputable def B7:=bK st Q4 SM [(leW 0 sU me)] (ks:=[.st .conn,.sc (.int .i64)]) mL (λv=>[(true,fo (.o true) v.1),(false,[sc (.o true) .segm v.2])]) Tryz.func254 ⟨Qw,trivial⟩
noncomputable def V1:=[ku,ol]
noncomputable def TU:Fx:=⟨258,Tryz.f258,[(3000001,rA 0 13)],0⟩
noncomputable def B4:FT (Sndr×ae×Unit) (Sndr×Int) (λx=>bP x.1∧sS x.2.1) (λx v=>bP v.1):= .mk λ(x0,x1,_)=>
  .bnd (β:=Bool×Unit) (.as (λw=>(w.1=false→SO x0)) (.cal fg.c (x0,()) λc1=>
   .ite (!c1) (.ret (true,()))<|
   .ret (x0.fin,()))) λ(u2a0,_)=>
  .ite u2a0 (.ret (x0,0))<|
  .val (jr.f ((x1.length:Int),(IntKind.wrap .i64 (48-(x0.data.length:Int))),())) λc3=>
  .grd ((decide (0≤c3))&&(decide (c3≤(x1.length:Int))))<|
  .grd (Nat.ble (x0.data.length+((x1.take c3.toNat).drop 0).length) ak)<|
  .ret (({x0 with data:=(x0.data++((x1.take c3.toNat).drop 0))}:Sndr),c3)
noncomputable def Ve:=bK st TU V1 [] (ks:=[.st .sndr,.sc .str]) B4 (λv=>[(true,wa v.1),(false,[.c (.int .i64 v.2)])]) Tryz.func258 trivial
noncomputable def uv:FT (Tabl×Conn×Unit) (Tabl) (λx=>aM x.1∧aa x.2.1) (λx v=>aM v):= .mk λ(x0,x1,_)=>
  .cal mj.c (x0,()) λc1=>
  .cal d6.c (x0,x1.tuple,()) λc2=>
  .ite (decide (0≤c2)) (.cal dA.c (x1,()) λc3=>
   .grd (cd c1.conns c2)<|
   .ret (⟨(c1.conns.set c2.toNat c3),c1.waiting⟩:Tabl))<|
  .ret c1
noncomputable def E7:=aN st Tryz.func259 [sM,gc,dC] (ks:=[.st .tabl,.st .conn]) uv (λv=>[(true,ri (.o true) (.o true) v)])
noncomputable def zS:FT (Recv×Int×Unit) (Recv×ae) (λx=>aw x.1) (λx v=>aw v.1∧sS v.2∧v.1.held.length=x.1.held.length):= .mk λ(x0,x1,_)=>
  .cal dU.c (x0,()) λc1=>
  .cal kn.c (x0,()) λc2=>
  .ite (!c2) (.ret (c1,[]))<|
  .val (jr.f (x1,(x0.data.length:Int),())) λc3=>
  .val (fp.f (0,c3,())) λc4=>
  .grd (KV x0.data c4 (x0.data.length:Int))<|
  .grd ((decide (0≤c4))&&(decide (c4≤(x0.data.length:Int))))<|
  .ret (({c1 with data:=((x0.data.take ((x0.data.length:Int).toNat)).drop c4.toNat)}:Recv),((x0.data.take c4.toNat).drop 0))
noncomputable def Tg:=aN st Tryz.func260 [yk,rP,ol,lV] (ks:=[.st .recv,.sc (.int .i64)]) zS (λv=>[(true,vo (.o true) v.1),(false,[.c (.str v.2)])])
noncomputable def lF:FT (ae×Unit) (Bool) (λx=>sS x.1) (λ_ _=>True):= .mk λ(x0,_)=>
  .cal sW.c (x0,()) λc1=>
  .ret (c1==0)
noncomputable def CT:=aN st Tryz.func264 [EK] (ks:=[.sc .str]) lF rB
noncomputable def bt:FT (Conn×Unit) (Segm) (λx=>aa x.1) (λx v=>am v):= .mk λ(x0,_)=>
  .cal ic.c (x0.s,()) λc1=>
  .cal bp.c (x0.r,()) λc2=>
  .val (bM.f (())) λc3=>
  .ret (⟨x0.tuple.my,x0.tuple.port,c1,x0.r.next,16,c2,c3,[]⟩:Segm)
noncomputable def uE:=aN st Tryz.func292 [HV,kp,i1] (ks:=[.st .conn]) bt (λv=>[(true,th v)])
noncomputable def mh:FT (Fram×Unit) (ae) (λx=>qa x.1) (λx v=>sS v∧v.length≤1600):=⟨λ(x0,_)=>
  .cal yU.c (x0,()) λc1=>
  .ite (!c1) (.ret [])<|
  .cal aO.c (x0.dst,6,()) λc2=>
  .cal aO.c (x0.src,6,()) λc3=>
  .grd (Nat.ble (c2.length+c3.length) ak)<|
  .cal aO.c (x0.type,2,()) λc4=>
  .grd (Nat.ble ((c2++c3).length+c4.length) ak)<|
  .grd (Nat.ble (((c2++c3)++c4).length+x0.body.length) ak)<|
  .ret (((c2++c3)++c4)++x0.body),
 λ(x0,_) hp=>by
  refine Tr.C trivial λc1 hc1 qc1=>Tr.I (λb0=>Tr.R ?_) λb0=>Tr.C trivial λc2 hc2 qc2=>Tr.C trivial λc3 hc3 qc3=>Tr.Gb ?_ λg1=>Tr.C trivial λc4 hc4 qc4=>Tr.Gb ?_ λg2=>Tr.Gb ?_ λg3=>Tr.R ?_
  all_goals ((first|(simp only[List.length_append,List.length_cons,List.length_nil,ak,sS]at*;omega)|grind))⟩
noncomputable def tv:=aN st Tryz.func321 [QS,j7] (ks:=[.st .fram]) mh (λv=>[(false,[.c (.str v)])])
noncomputable def ug:FT (Sipr×Int×Unit) (Sipr) (λ_=>True) (λ_ _=>True):= .mk λ(x0,x1,_)=>
  .cal iC.c (({x0 with d:=(bits .xor .u64 x0.d x1)}:Sipr),()) λc1=>
  .cal iC.c (c1,()) λc2=>
  .ret ({c2 with a:=(bits .xor .u64 c2.a x1)}:Sipr)
noncomputable def Tt:=aN st Tryz.func349 [CD] (ks:=[.st .sipr,.sc (.int .u64)]) ug (λv=>[(true,EI v)])
noncomputable def CI:FT (Sipr×Unit) (Int) (λ_=>True) (λ_ _=>True):= .mk λ(x0,_)=>
  .cal iC.c (({x0 with c:=(bits .xor .u64 x0.c 255)}:Sipr),()) λc1=>
  .cal iC.c (c1,()) λc2=>
  .cal iC.c (c2,()) λc3=>
  .cal iC.c (c3,()) λc4=>
  .ret (bits .xor .u64 (bits .xor .u64 (bits .xor .u64 c4.a c4.b) c4.c) c4.d)
noncomputable def Us:=aN st Tryz.func351 [CD] (ks:=[.st .sipr]) CI (λv=>[(false,[.c (.int .u64 v)])])
noncomputable def N3:=[MQ]
noncomputable def NH:Fx:=⟨353,Tryz.f353,[(3000002,rA 0 29)],0⟩
noncomputable def vn:FT (Arpm×Int×Int×Unit) (Arpm×Bool) (λ_=>True) (λ_ _=>True):= .mk λ(x0,x1,x2,_)=>
  .bnd (β:=Bool×Unit) (.ite (x0.kind != 1) (.ret (true,()))<|
   .ite (x0.dstIp != x2) (.ret (true,()))<|
   .cal Dq.c ((⟨2,x1,x2,x0.srcHw,x0.srcIp⟩:Arpm),()) λc1=>
   .ret ((!c1),())) λ(u2a0,_)=>
  .ite u2a0 (.ret ((⟨0,0,0,0,0⟩:Arpm),false))<|
  .ret ((⟨2,x1,x2,x0.srcHw,x0.srcIp⟩:Arpm),true)
noncomputable def OX:=bK st NH N3 [] (ks:=[.st .arpm,.sc (.int .i64),.sc (.int .i64)]) vn (λv=>[(true,Pa v.1),(false,[.c (.bool v.2)])]) Tryz.func353 trivial
noncomputable def uj:FT (Arpm×Unit) (ae) (λ_=>True) (λx v=>sS v∧v.length≤40):=⟨λ(x0,_)=>
  .cal Dq.c (x0,()) λc1=>
  .ite (!c1) (.ret [])<|
  .cal aO.c (x0.kind,2,()) λc2=>
  .grd (Nat.ble (6+c2.length) ak)<|
  .cal aO.c (x0.srcHw,6,()) λc3=>
  .grd (Nat.ble (([0,1,8,0,6,4]++c2).length+c3.length) ak)<|
  .cal aO.c (x0.srcIp,4,()) λc4=>
  .grd (Nat.ble ((([0,1,8,0,6,4]++c2)++c3).length+c4.length) ak)<|
  .cal aO.c (x0.dstHw,6,()) λc5=>
  .grd (Nat.ble (((([0,1,8,0,6,4]++c2)++c3)++c4).length+c5.length) ak)<|
  .cal aO.c (x0.dstIp,4,()) λc6=>
  .grd (Nat.ble ((((([0,1,8,0,6,4]++c2)++c3)++c4)++c5).length+c6.length) ak)<|
  .ret ((((([0,1,8,0,6,4]++c2)++c3)++c4)++c5)++c6),
 λ(x0,_) hp=>by
  refine Tr.C trivial λc1 hc1 qc1=>Tr.I (λb0=>Tr.R ?_) λb0=>Tr.C trivial λc2 hc2 qc2=>Tr.Gb ?_ λg1=>Tr.C trivial λc3 hc3 qc3=>Tr.Gb ?_ λg2=>Tr.C trivial λc4 hc4 qc4=>Tr.Gb ?_ λg3=>Tr.C trivial λc5 hc5 qc5=>Tr.Gb ?_ λg4=>Tr.C trivial λc6 hc6 qc6=>Tr.Gb ?_ λg5=>Tr.R ?_
  all_goals ((first|(simp only[List.length_append,List.length_cons,List.length_nil,ak,sS]at*;omega)|grind))⟩
noncomputable def Fn:=aN st Tryz.func354 [MQ,j7] (ks:=[.st .arpm]) uj (λv=>[(false,[.c (.str v)])])
noncomputable def R3:=[B3]
noncomputable def Tf:Fx:=⟨362,Tryz.f362,[(3000003,rA 0 27)],0⟩
noncomputable def zW:FT (List Half×Half×Int×Unit) (List Half×Bool) (λx=>sS x.1) (λx v=>sS v.1∧(v.1.length:Int)≤x.1.length+1):= .mk λ(x0,x1,x2,_)=>
  .grd (Nat.ble ((2*(0+x0.length)+1024)*96) aU)<|
  .grd (Nat.ble ((2*(0+x0.length)+1024)*96) aU)<|
  .grd (xr ([]++x0) 1 96)<|
  .bnd (β:=Bool×Unit) (.as (λw=>(w.1=false→(([]++x0)++[x1]).length≤64)) (.ite (decide (x2≤(x0.length:Int))) (.ret (true,()))<|
   .cal n9.c ((([]++x0)++[x1]),()) λc1=>
   .ret ((!c1),()))) λ(u2a0,_)=>
  .ite u2a0 (.ret (([]++x0),false))<|
  .ret ((([]++x0)++[x1]),true)
noncomputable def S2:=bK st Tf R3 [] (ks:=[.sc (.sl .half),.st .half,.sc (.int .i64)]) zW (λv=>[(false,[sc (.o true) .half v.1]),(false,[.c (.bool v.2)])]) Tryz.func362 trivial
noncomputable def Bh:=[jd,Mm,SN]
noncomputable def Bp:Fx:=⟨366,Tryz.f366,[(3000004,rA 0 24)],0⟩
noncomputable def kx:FT (Int×Opti×Unit) (Opti) (λ_=>True) (λ_ _=>True):= .mk λ(x0,x1,_)=>
  .val (cu.f (())) λc1=>
  .cal Dw.c (x0,()) λc2=>
  .cal y5.c (x1.echo,()) λc3=>
  .bnd (β:=Bool×Unit) (.ite x1.stamp (.ret (c3.2.2,()))<|
   .ret (false,())) λ(u4a0,_)=>
  .ite u4a0 (.ret (⟨c2,c3.1,c3.2.1,true,x1.val,c1.echo⟩:Opti))<|
  .ret ({c1 with mss:=c2}:Opti)
noncomputable def Bx:=bK st Bp Bh [] (ks:=[.sc (.int .i64),.st .opti]) kx (λv=>[(true,pD v)]) Tryz.func366 trivial
noncomputable def qj:FT (Pack×Unit) (ae) (λx=>kt x.1) (λx v=>sS v∧v.length≤1520):=⟨λ(x0,_)=>
  .cal vA.c (x0,()) λc1=>
  .ite (!c1) (.ret [])<|
  .cal aO.c ((IntKind.wrap .i64 (20+(x0.body.length:Int))),2,()) λc2=>
  .grd (Nat.ble (2+c2.length) ak)<|
  .cal aO.c (x0.id,2,()) λc3=>
  .grd (Nat.ble (([69,0]++c2).length+c3.length) ak)<|
  .grd (Nat.ble ((([69,0]++c2)++c3).length+2) ak)<|
  .cal aO.c (x0.ttl,1,()) λc4=>
  .grd (Nat.ble (((([69,0]++c2)++c3)++[0,0]).length+c4.length) ak)<|
  .cal aO.c (x0.proto,1,()) λc5=>
  .grd (Nat.ble ((((([69,0]++c2)++c3)++[0,0])++c4).length+c5.length) ak)<|
  .cal aO.c (x0.src,4,()) λc6=>
  .cal aO.c (x0.dst,4,()) λc7=>
  .grd (Nat.ble (c6.length+c7.length) ak)<|
  .grd (Nat.ble (((((([69,0]++c2)++c3)++[0,0])++c4)++c5).length+(c6++c7).length) ak)<|
  .cal vV.c ((((((([69,0]++c2)++c3)++[0,0])++c4)++c5)++(c6++c7)),()) λc8=>
  .cal aO.c (c8,2,()) λc9=>
  .grd (Nat.ble (((((([69,0]++c2)++c3)++[0,0])++c4)++c5).length+c9.length) ak)<|
  .grd (Nat.ble ((((((([69,0]++c2)++c3)++[0,0])++c4)++c5)++c9).length+(c6++c7).length) ak)<|
  .val ((((((([69,0]++c2)++c3)++[0,0])++c4)++c5)++c9)++(c6++c7)) λe10=>
  .grd (Nat.ble (e10.length+x0.body.length) ak)<|
  .ret (e10++x0.body),
 λ(x0,_) hp=>by
  refine Tr.C trivial λc1 hc1 qc1=>Tr.I (λb0=>Tr.R ?_) λb0=>Tr.C trivial λc2 hc2 qc2=>Tr.Gb ?_ λg1=>Tr.C trivial λc3 hc3 qc3=>Tr.Gb ?_ λg2=>Tr.Gb ?_ λg3=>Tr.C trivial λc4 hc4 qc4=>Tr.Gb ?_ λg4=>Tr.C trivial λc5 hc5 qc5=>Tr.Gb ?_ λg5=>Tr.C trivial λc6 hc6 qc6=>Tr.C trivial λc7 hc7 qc7=>Tr.Gb ?_ λg6=>Tr.Gb ?_ λg7=>Tr.C ?_ λc8 hc8 qc8=>Tr.C trivial λc9 hc9 qc9=>Tr.Gb ?_ λg8=>Tr.Gb ?_ λg9=>Tr.V λe10 he10=>Tr.Gb ?_ λg10=>Tr.R ?_
  all_goals ((first|(simp only[List.length_append,List.length_cons,List.length_nil,ak,sS]at*;omega)|grind))⟩
noncomputable def J3:=aN st Tryz.func368 [NU,j7,ER] (ks:=[.st .pack]) qj (λv=>[(false,[.c (.str v)])])

end
end Go.Proofs.YtfpdenjmlnhnnaaGreat
