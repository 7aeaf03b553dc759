/-
  Contracts of functions and plain laws (printed by a program): each theorem says what a function of the program returns; conditions are its hypotheses.
-/
import Derived.Test.YtfpdenjmlnhnnaaGreatBase
set_option linter.all false
set_option maxRecDepth 4000
namespace Go.Proofs.YtfpdenjmlnhnnaaGreat
open Go Go.RowKit
noncomputable section
@[reducible] def zp (t i:Nat):Nat×Bool×List Pt:=(t,false,[.ptr i 0])
@[reducible] def zi (t:Nat):Nat×Bool×List Pt:=(t,false,[.int .i64])
@[reducible] def zb (t:Nat):Nat×Bool×List Pt:=(t,false,[.bool])
@[reducible] def zu (t:Nat):Nat×Bool×List Pt:=(t,false,[.undef])
@[reducible] def zs (t:Nat):Nat×Bool×List Pt:=(t,false,[.str])
@[reducible] def zl (n:Nat)(t:Ty):Nat×Bool×List Pt:=(n,false,[.sl .arg t])
@[reducible] def zo (n k:Nat):Nat×Bool×List Pt:=(n,false,[.own k])
@[reducible] def zx (t:Ty):Osh:=.box [.st t []]
@[reducible] def zg (t:Ty):Osh:=.box [.st t [.sl .arg]]
@[reducible] def zk (t:Ty)(k:Nat):Osh:=.box [.st t [.own k]]
@[reducible] def zf :Osh:=.of false true
@[reducible] def za (t:Ty):Osh:=.arr t false true
noncomputable def LH:FF (List Int×Unit) (Bool):=⟨λ(x0,_)=>
  .ret (decide (1048576<(x0.length:Int)))⟩
@[grind=] theorem afx (x0:List Int):LH.f (x0,())=decide (1048576<(x0.length:Int)):=by
 simp only[LH,FF.f,Tr.nice]
noncomputable def ada:=ly st Tryz.func6 [] (ks:=[.sc (.sl .u8)]) LH rB
def xu:Sh:=⟨[zl 0 .issu,zp 3 0,zi 5],[zx .issu]⟩
noncomputable def xO (v0:List Issu)(v2:Issu)(v1:Int)(a:Unit):Tr (Stp (Unit) ((Unit))):=
 .grd (cG v0 v1)<|
 .ite ((((v0.getD v1.toNat (Ty.zero .issu)).tuple.ip==v2.tuple.ip)&&(((v0.getD v1.toNat (Ty.zero .issu)).tuple.port==v2.tuple.port)&&(((v0.getD v1.toNat (Ty.zero .issu)).tuple.my==v2.tuple.my)&&true)))&&(((v0.getD v1.toNat (Ty.zero .issu)).seq==v2.seq)&&(((v0.getD v1.toNat (Ty.zero .issu)).cookie==v2.cookie)&&true))) (.ret (.out ()))<|
 .ret (.next ())
noncomputable def lQ:xu.V→tq xu Unit (Unit):=λ(v0,v1,v2,_)=>⟨v1,(),λv1 _=>(v0,v1,v2,()),λv1 _=>(decide (v1<(v0.length:Int))),xO v0 v2,up,1,(Int.toNat ((v0.length:Int)-v1)),.inl,eR,oB .ret ⟨[zb 4],[]⟩ (λ_=>(true,())) (.exit 0) ⟨[zu 4],[]⟩ (λ_=>())⟩
theorem Ig {v0:List Issu}{v1:Int}{v2:Issu}(h0:0≤v1)(h1:(v0.length:Int)≤4611686018427387904):(lQ (v0,v1,v2,())).U (v0.length:Int) (λ_ _=>True) (λ_=>True):=
 ju h0 h1 trivial
noncomputable def oy:FT (List Issu×Issu×Unit) (Bool) (λx=>x.1.length≤274877906944) (λ_ _=>True):= .mk (λ(x0,x1,_)=>
  .lp (lQ (x0,0,x1,())).lp λw1=> .sum w1 (λ_=>
  .ret true)<|
  λ_=>
  .ret false) (qU @Ig)
noncomputable def Em:=eE st Tryz.func13 [(0,lb [0,3,5] [4])] [] 0 lQ (ks:=[.sc (.sl .issu),.st .issu]) oy rB
noncomputable def tL:FT (List Acti×Unit) (List Acti) (λx=>sL ba x.1) (λx v=>sL ba v∧v.length≤60∧v.length≤x.1.length):= .mk λ(x0,_)=>
  .grd ((decide (0≤(if 60<(x0.length:Int)then 60 else(x0.length:Int))))&&(decide ((if 60<(x0.length:Int)then 60 else(x0.length:Int))≤(x0.length:Int))))<|
  .ret ((x0.take ((if 60<(x0.length:Int)then 60 else(x0.length:Int)).toNat)).drop 0)
noncomputable def Ny:=a9 st Tryz.func41 [] (ks:=[.sc (.sl .acti)]) tL (λv=>[(false,[sc .c .acti v])])
noncomputable def bp:FF (Segm×Int×Unit) (Bool):=⟨λ(x0,x1,_)=>
  .ret ((bits .and .i64 x0.flags x1)==x1)⟩
noncomputable def vW:=ly st Tryz.func58 [] (ks:=[.st .segm,.sc (.int .i64)]) bp rB
noncomputable def bK:FF (Int×Int×Unit) (Int):=⟨λ(x0,x1,_)=>
  .ret (bits .and .i64 (IntKind.wrap .i64 (x0+x1)) 4294967295)⟩
noncomputable def fo:=ly st Tryz.func59 [] (ks:=[.sc (.int .i64),.sc (.int .i64)]) bK rI
def DN:Sh:=⟨[zl 0 .u8,zi 3,zi 4],[]⟩
noncomputable def Rh (v0:List Int)(v2:Int)(a:Int):Tr (Stp (Int) ((Int))):=
 .ite (decide (v2<4000)) (.grd (cG v0 v2)<|
  .val (IntKind.wrap .i64 ((IntKind.wrap .i64 (a*131))+(IntKind.wrap .i64 (v0.getD v2.toNat 0)))) λe1=>
  .ret (.next (bits .and .i64 (IntKind.wrap .i64 (e1+7)) 1073741823)))<|
 .ret (.out a)
noncomputable def wI:DN.V→tq DN Int (Int):=λ(v0,v1,v2,_)=>⟨v2,v1,λv2 a=>(v0,a,v2,()),λv2 _=>(decide (v2<(v0.length:Int))),Rh v0,up,1,(Int.toNat ((v0.length:Int)-v2)),.inl,eR,oB (.exit 0) ⟨[zl 0 .u8,zu 2,zi 3],[]⟩ (λp=>(v0,p,())) (.exit 0) ⟨[zl 0 .u8,zu 2,zi 3],[]⟩ (λx=>(v0,x.2,()))⟩
theorem Rr {v0:List Int}{v1 v2:Int}(h0:0≤v2)(h1:(v0.length:Int)≤4611686018427387904):(wI (v0,v1,v2,())).U (v0.length:Int) (λ_ _=>True) (λ_=>True):=
 ju (a:=v1) h0 h1 trivial
noncomputable def Yv:FT (List Int×Unit) (Curs) (λx=>x.1.length≤1048576) (λx v=>ah v):= .mk (λ(x0,_)=>
  .lp (wI (x0,(IntKind.wrap .i64 (28655+(x0.length:Int))),0,())).lp λw2=> .sum w2 (λp2a0=>
  .ret (⟨x0,0,p2a0⟩:Curs))<|
  λ(_,a2_0)=>
  .ret (⟨x0,0,a2_0⟩:Curs)) (qU @Rr)
noncomputable def Zi:=eE st Tryz.func78 [(0,lb [0,3,4] [0,2,3])] [] 0 wI (ks:=[.sc (.sl .u8)]) Yv (λv=>[rb .curs v])
noncomputable def bk:FF (Int×Int×Int×Unit) (Bool):=⟨λ(x0,x1,x2,_)=>
  .ite (decide (x1≤x0)) (.ret (decide (x0≤x2)))<|
  .ret false⟩
@[grind=] theorem au (x0 x1 x2:Int):bk.f (x0,x1,x2,())=(decide (x1≤x0)&&decide (x0≤x2)):=by
 simp only[bk,FF.f,Tr.nice]
 cases decide (x1≤x0)<;>rfl
noncomputable def bI:=ly st Tryz.func81 [] (ks:=[.sc (.int .i64),.sc (.int .i64),.sc (.int .i64)]) bk rB
noncomputable def ae:FT (Int×Int×Unit) (Bool) (λ_=>True) (λx v=>(x.2.1=32→(v=true↔0≤x.1∧x.1≤4294967295))∧(x.2.1=16→(v=true↔0≤x.1∧x.1≤65535))∧(x.2.1=48→(v=true↔0≤x.1∧x.1≤281474976710655))∧(x.2.1=8→(v=true↔0≤x.1∧x.1≤255))∧(x.2.1=6→(v=true↔0≤x.1∧x.1≤63))):= .mk λ(x0,x1,_)=>
  .val (bk.f (x1,1,62,())) λc1=>
  .ite c1 (.grd (decide (0≤x1))<|
   .val (IntKind.wrap .i64 ((IntKind.wrap .i64 (1*2 ^ (min x1.toNat 64)))-1)) λe2=>
   .val (bk.f (x0,0,e2,())) λc3=>
   .ret c3)<|
  .ret false
@[grind=] theorem cb (x:Int):ae.f (x,32,())=(decide (0≤x)&&decide (x≤4294967295)):=by
 have h:=ae.c.h (x,32,()) trivial
 rw[Bool.eq_iff_iff]
 grind
@[grind=] theorem dj (x:Int):ae.f (x,16,())=(decide (0≤x)&&decide (x≤65535)):=by
 have h:=ae.c.h (x,16,()) trivial
 rw[Bool.eq_iff_iff]
 grind
@[grind=] theorem UK (x:Int):ae.f (x,48,())=(decide (0≤x)&&decide (x≤281474976710655)):=by
 have h:=ae.c.h (x,48,()) trivial
 rw[Bool.eq_iff_iff]
 grind
@[grind=] theorem Xp (x:Int):ae.f (x,8,())=(decide (0≤x)&&decide (x≤255)):=by
 have h:=ae.c.h (x,8,()) trivial
 rw[Bool.eq_iff_iff]
 grind
@[grind=] theorem Wk (x:Int):ae.f (x,6,())=(decide (0≤x)&&decide (x≤63)):=by
 have h:=ae.c.h (x,6,()) trivial
 rw[Bool.eq_iff_iff]
 grind
noncomputable def ca:=a9 st Tryz.func82 [bI] (ks:=[.sc (.int .i64),.sc (.int .i64)]) ae rB
noncomputable def bV:FF (Unit) (Opti):=⟨λ_=>
  .ret (⟨0,(-1),false,false,0,0⟩:Opti)⟩
noncomputable def jJ:=ly st Tryz.func92 [] (ks:=[]) bV (λv=>[(true,oU v)])
noncomputable def gb:FT (Int×Unit) (Int) (λ_=>True) (λ_ _=>True):= .mk λ(x0,_)=>
  .val (bk.f (x0,0,7,())) λc1=>
  .ite (!c1) (.ret 0)<|
  .grd ((decide (0≤x0))&&(decide (x0<8)))<|
  .ret ([64,256,536,1024,1300,1400,1440,1460].getD x0.toNat 0)
noncomputable def Ol:=a9 st Tryz.func93 [bI] (ks:=[.sc (.int .i64)]) gb rI
def xD:Sh:=⟨[zi 0,zi 3],[]⟩
noncomputable def lP (v0:Int)(v1:Int)(a:Unit):Tr (Stp (Unit) ((Int))):=
 .cal gb.c (v1,()) λc1=>
 .ite (decide (c1≤v0)) (.ret (.out v1))<|
 .ret (.next ())
noncomputable def ec:xD.V→tq xD Unit (Int):=λ(v0,v1,_)=>⟨v1,(),λv1 _=>(v0,v1,()),λv1 _=>(decide (0<v1)),lP v0,dn,(-1),(Int.toNat (v1-0)),.inl,eR,oB .ret ⟨[zi 2],[]⟩ (λp=>(p,())) (.exit 0) ⟨[zu 2],[]⟩ (λ_=>())⟩
theorem Ht {v0 v1:Int}(h0:v1≤9223372036854775807):(ec (v0,v1,())).S (λ_ _=>True) (λ_=>True):=by
 refine LC.okS trivial (λj a hj hv=>⟨⟨?_, ?_⟩, ?_⟩) (λa hv=> ?_)
 ·simp only[ec,decide_eq_true_eq]at*;omega
 ·simp only[ec]at*;exact dnw (by omega) (by omega)
 ·refine Tr.C trivial λ_ _ _=>Tr.Z (by kernel_rfl)
 ·simp only[ec,decide_eq_false_iff_not]at*;omega
noncomputable def jr:FT (Int×Unit) (Int) (λ_=>True) (λ_ _=>True):= .mk (λ(x0,_)=>
  .lp (ec (x0,7,())).lp λw2=> .sum w2 (λp2a0=>
  .ret p2a0)<|
  λ_=>
  .ret 0) (qU @Ht)
noncomputable def Q5:=eE st Tryz.func94 [(0,lb [0,3] [2])] [Ol] 0 ec (ks:=[.sc (.int .i64)]) jr rI
noncomputable def z5:FF (Opti×Unit) (Int):=⟨λ(x0,_)=>
  .ite (x0.mss==0) (.ret 536)<|
  .ret x0.mss⟩
noncomputable def Tc:=ly st Tryz.func95 [] (ks:=[.st .opti]) z5 rI
noncomputable def mH:FF (Int×Segm×Unit) (Tupl):=⟨λ(x0,x1,_)=>
  .ret (⟨x0,x1.from_,x1.to⟩:Tupl)⟩
noncomputable def tS:=ly st Tryz.func100 [] (ks:=[.sc (.int .i64),.st .segm]) mH (λv=>[(true,FI v)])
noncomputable def uD:FF (Int×Segm×Unit) (Tupl):=⟨λ(x0,x1,_)=>
  .ret (⟨x0,x1.from_,x1.to⟩:Tupl)⟩
noncomputable def Gl:=ly st Tryz.func116 [] (ks:=[.sc (.int .i64),.st .segm]) uD (λv=>[(true,FI v)])
noncomputable def gn:FF (Segm×Int×Unit) (Bool):=⟨λ(x0,x1,_)=>
  .ret ((bits .and .i64 x0.flags x1)==x1)⟩
noncomputable def wV:=ly st Tryz.func117 [] (ks:=[.st .segm,.sc (.int .i64)]) gn rB
def zj:Sh:=⟨[zp 2 0,zp 3 1,zi 5],[zg .mac,zg .mac]⟩
noncomputable def sR (v1 v2:Mac)(v0:Int)(a:Unit):Tr (Stp (Unit) ((Unit))):=
 .grd (cG v1.rows v0)<|
 .grd (cG v2.rows v0)<|
 .ite (!(((v1.rows.getD v0.toNat (Ty.zero .macRow)).input==(v2.rows.getD v0.toNat (Ty.zero .macRow)).input)&&(((v1.rows.getD v0.toNat (Ty.zero .macRow)).value==(v2.rows.getD v0.toNat (Ty.zero .macRow)).value)&&true))) (.ret (.out ()))<|
 .ret (.next ())
noncomputable def kn:zj.V→tq zj Unit (Unit):=λ(v0,v1,v2,_)=>⟨v0,(),λv0 _=>(v0,v1,v2,()),λv0 _=>(decide (v0<(v1.rows.length:Int))),sR v1 v2,up,1,(Int.toNat ((v1.rows.length:Int)-v0)),.inl,eR,oB .ret ⟨[zb 4],[]⟩ (λ_=>(false,())) (.exit 0) ⟨[zu 4],[]⟩ (λ_=>())⟩
theorem I8 {v0:Int}{v1 v2:Mac}(h0:0≤v0)(h1:(v1.rows.length:Int)≤4611686018427387904)(h2:(v1.rows.length:Int)≤(v2.rows.length:Int)):(kn (v0,v1,v2,())).U (v1.rows.length:Int) (λ_ _=>True) (λ_=>True):=
 ju h0 h1 trivial
noncomputable def mK:FT (Mac×Mac×Unit) (Bool) (λx=>dV x.1∧dV x.2.1) (λ_ _=>True):= .mk (λ(x0,x1,_)=>
  .bnd (β:=Bool×Unit) (.ite (!(x0.use==x1.use)) (.ret (true,()))<|
   .ite (x0.k != x1.k) (.ret (true,()))<|
   .ite (x0.l != x1.l) (.ret (true,()))<|
   .ret (((x0.rows.length:Int) != (x1.rows.length:Int)),())) λ(u1a0,_)=>
  .ite u1a0 (.ret false)<|
  .lp (kn (0,x0,x1,())).lp λw2=> .sum w2 (λ_=>
  .ret false)<|
  λ_=>
  .ret true) (qU @I8)
noncomputable def G9:=eE st Tryz.func120 [(0,lb [2,3,5] [4]),(3000001,rA 0 33)] [] 0 kn (ks:=[.st .mac,.st .mac]) mK rB
noncomputable def kS:FT (Mac×Unit) (Mac) (λx=>dV x.1) (λx v=>dV v∧v=x.1):=⟨λ(x0,_)=>
  .grd (Nat.ble ((2*(0+x0.rows.length)+1024)*24) bc)<|
  .ret ({x0 with rows:=([]++x0.rows)}:Mac),
 λ(x0,_) hp=>by
  refine Tr.Gb ?_ λg0=>Tr.R ?_
  all_goals ((first|grind|(refine⟨by grind, ?_⟩;first|(simp only[List.nil_append];done)|(subst_vars;rfl)|simp_all)))⟩
noncomputable def yJ:=a9 st Tryz.func121 [] (ks:=[.st .mac]) kS (λv=>[(true,KS (.o true) v)])
def sT:Sh:=⟨[zl 0 .issu,zp 3 0,zi 7,zi 8],[zx .issu]⟩
noncomputable def sQ (v0:List Issu)(v3:Issu)(v2:Int)(a:Unit):Tr (Stp (Unit) ((Int))):=
 .grd (cG v0 v2)<|
 .ite (((v3.tuple.ip==(v0.getD v2.toNat (Ty.zero .issu)).tuple.ip)&&((v3.tuple.port==(v0.getD v2.toNat (Ty.zero .issu)).tuple.port)&&((v3.tuple.my==(v0.getD v2.toNat (Ty.zero .issu)).tuple.my)&&true)))&&((v3.seq==(v0.getD v2.toNat (Ty.zero .issu)).seq)&&((v3.cookie==(v0.getD v2.toNat (Ty.zero .issu)).cookie)&&true))) (.ret (.out v2))<|
 .ret (.next ())
noncomputable def iW:sT.V→tq sT Unit (Int):=λ(v0,v1,v2,v3,_)=>⟨v2,(),λv2 _=>(v0,v1,v2,v3,()),λv2 _=>(decide (v2<v1)),sQ v0 v3,up,1,(Int.toNat (v1-v2)),.inl,eR,oB .ret ⟨[zi 4],[]⟩ (λp=>(p,())) (.exit 0) ⟨[zu 4],[]⟩ (λ_=>())⟩
theorem Cr {v0:List Issu}{v1 v2:Int}{v3:Issu}(h0:0≤v2)(h1:v1≤4611686018427387904)(h2:v1≤(v0.length:Int)):(iW (v0,v1,v2,v3,())).U v1 (λ_ _=>True) (λp=>v2≤p∧p<v1):=
 ju h0 h1 trivial
noncomputable def pB:FT (List Issu×Issu×Unit) (Int) (λx=>x.1.length≤274877906944) (λ_ _=>True):= .mk (λ(x0,x1,_)=>
  .lp (iW (x0,(x0.length:Int),0,x1,())).lp λw1=> .sum w1 (λp1a0=>
  .ret p1a0)<|
  λ_=>
  .ret (-1)) (qU @Cr)
noncomputable def H9:=eE st Tryz.func124 [(0,lb [0,3,7,8] [4])] [] 0 iW (ks:=[.sc (.sl .issu),.st .issu]) pB rI
noncomputable def rl:FT (Link×Unit) (Link) (λx=>fb x.1) (λx v=>fb v):= .mk λ(x0,_)=>
  .grd (Nat.ble ((2*(0+x0.cache.length)+1024)*24) bc)<|
  .ret ({x0 with cache:=([]++x0.cache)}:Link)
noncomputable def Gs:=a9 st Tryz.func125 [] (ks:=[.st .link]) rl (λv=>[(true,BJ (.o true) v)])
noncomputable def ce:FF (Int×Int×Int×Unit) (Bool):=⟨λ(x0,x1,x2,_)=>
  .ite (decide (x1≤x0)) (.ret (decide (x0≤x2)))<|
  .ret false⟩
@[grind=] theorem bH (x0 x1 x2:Int):ce.f (x0,x1,x2,())=(decide (x1≤x0)&&decide (x0≤x2)):=by
 simp only[ce,FF.f,Tr.nice]
 cases decide (x1≤x0)<;>rfl
noncomputable def cy:=ly st Tryz.func127 [] (ks:=[.sc (.int .i64),.sc (.int .i64),.sc (.int .i64)]) ce rB
def Hp:Sh:=⟨[zl 0 .entr,zo 3 0,zi 4],[za .entr]⟩
noncomputable def Ho (v0:List Entr)(v1:Int)(a:List Entr):Tr (Stp (List Entr) (Empty)):=
 .grd (cG v0 v1)<|
 .ite (decide ((v0.getD v1.toNat (Ty.zero .entr)).age<9)) (.grd (px a 1 24)<|
  .val (a++[({(v0.getD v1.toNat (Ty.zero .entr))with age:=(IntKind.wrap .i64 ((v0.getD v1.toNat (Ty.zero .entr)).age+1))}:Entr)]) λl1=>
  .ret (.next l1))<|
 .ret (.next a)
noncomputable def pT:Hp.V→qf Hp (List Entr):=λ(v0,v1,v2,_)=>⟨v1,v2,λv1 a=>(v0,v1,a,()),λv1 _=>(decide (v1<(v0.length:Int))),Ho v0,up,1,(Int.toNat ((v0.length:Int)-v1)),Empty.elim,Prod.mk,oN (.exit 0) ⟨[zu 2,zo 3 0],[za .entr]⟩ (λx=>(x.2,()))⟩
theorem UD {v0 v2:List Entr}{v1:Int}(h0:0≤v1)(h1:(v0.length:Int)≤4611686018427387904)(h2:sS v0)(h3:(v2.length:Int)≤v1):(pT (v0,v1,v2,())).U (v0.length:Int) (λv1 a=>(a.length:Int)≤v1) (λ_=>True):=
 ju (a:=v2) h0 h1 h3
noncomputable def KW:FT (List Entr×Unit) (List Entr) (λx=>sS x.1) (λx v=>sS v∧v.length≤x.1.length):=⟨λ(x0,_)=>
  .lp (pT (x0,0,[],())).lp λ(_,a2_0)=>
  .ret a2_0,
 λ(x0,_) hp=>by
  refine Tr.L (UD ?_ ?_ ?_ ?_) (λa2_0 _=>Tr.R ?_) (λp=>Empty.elim p)
  all_goals ((try simp only[pT,LC.lp,LC.ct,Ct.lp]at*)<;>grind)⟩
noncomputable def UE:=eE st Tryz.func135 [(0,lb [0,3,4] [2,3])] [] 0 pT (ks:=[.sc (.sl .entr)]) KW (λv=>[(false,[sc (.o true) .entr v])])
def xP:Sh:=⟨[zl 0 .tupl,zp 3 0,zi 5],[zx .tupl]⟩
noncomputable def xS (v0:List Tupl)(v2:Tupl)(v1:Int)(a:Unit):Tr (Stp (Unit) ((Unit))):=
 .grd (cG v0 v1)<|
 .ite (((v0.getD v1.toNat (Ty.zero .tupl)).ip==v2.ip)&&(((v0.getD v1.toNat (Ty.zero .tupl)).port==v2.port)&&(((v0.getD v1.toNat (Ty.zero .tupl)).my==v2.my)&&true))) (.ret (.out ()))<|
 .ret (.next ())
noncomputable def lK:xP.V→tq xP Unit (Unit):=λ(v0,v1,v2,_)=>⟨v1,(),λv1 _=>(v0,v1,v2,()),λv1 _=>(decide (v1<(v0.length:Int))),xS v0 v2,up,1,(Int.toNat ((v0.length:Int)-v1)),.inl,eR,oB .ret ⟨[zb 4],[]⟩ (λ_=>(true,())) (.exit 0) ⟨[zu 4],[]⟩ (λ_=>())⟩
theorem IC {v0:List Tupl}{v1:Int}{v2:Tupl}(h0:0≤v1)(h1:(v0.length:Int)≤4611686018427387904):(lK (v0,v1,v2,())).U (v0.length:Int) (λ_ _=>True) (λ_=>True):=
 ju h0 h1 trivial
noncomputable def oZ:FT (List Tupl×Tupl×Unit) (Bool) (λx=>wS x.1) (λ_ _=>True):= .mk (λ(x0,x1,_)=>
  .lp (lK (x0,0,x1,())).lp λw1=> .sum w1 (λ_=>
  .ret true)<|
  λ_=>
  .ret false) (qU @IC)
noncomputable def wj:=eE st Tryz.func138 [(0,lb [0,3,5] [4])] [] 0 lK (ks:=[.sc (.sl .tupl),.st .tupl]) oZ rB
def xe:Sh:=⟨[zp 2 0,zp 3 1,zi 5],[.box [.st .tabl [.sl .arg,.sl .arg]],zx .tupl]⟩
noncomputable def xL (v1:Tabl)(v2:Tupl)(v0:Int)(a:Unit):Tr (Stp (Unit) ((Int))):=
 .grd (cG v1.conns v0)<|
 .ite (((v1.conns.getD v0.toNat (Ty.zero .conn)).tuple.ip==v2.ip)&&(((v1.conns.getD v0.toNat (Ty.zero .conn)).tuple.port==v2.port)&&(((v1.conns.getD v0.toNat (Ty.zero .conn)).tuple.my==v2.my)&&true))) (.ret (.out v0))<|
 .ret (.next ())
noncomputable def lT:xe.V→tq xe Unit (Int):=λ(v0,v1,v2,_)=>⟨v0,(),λv0 _=>(v0,v1,v2,()),λv0 _=>(decide (v0<(v1.conns.length:Int))),xL v1 v2,up,1,(Int.toNat ((v1.conns.length:Int)-v0)),.inl,eR,oB .ret ⟨[zi 4],[]⟩ (λp=>(p,())) (.exit 0) ⟨[zu 4],[]⟩ (λ_=>())⟩
theorem HD {v0:Int}{v1:Tabl}{v2:Tupl}(h0:0≤v0)(h1:(v1.conns.length:Int)≤4611686018427387904):(lT (v0,v1,v2,())).U (v1.conns.length:Int) (λ_ _=>True) (λp=>v0≤p∧p<(v1.conns.length:Int)):=
 ju h0 h1 trivial
noncomputable def dT:FT (Tabl×Tupl×Unit) (Int) (λx=>wS x.1.conns) (λx v=> -1≤v∧v<x.1.conns.length):= .mk (λ(x0,x1,_)=>
  .lp (lT (0,x0,x1,())).lp λw1=> .sum w1 (λp1a0=>
  .ret p1a0)<|
  λ_=>
  .ret (-1)) (qU @HD)
noncomputable def fA:=eE st Tryz.func140 [(0,lb [2,3,5] [4])] [] 0 lT (ks:=[.st .tabl,.st .tupl]) dT rI
noncomputable def aG:FT (Tupl×Unit) (Bool) (λ_=>True) (λ_ _=>True):= .mk λ(x0,_)=>
  .cal ae.c (x0.ip,32,()) λc1=>
  .ite c1 (.cal ae.c (x0.port,16,()) λc2=>
   .ite c2 (.cal ae.c (x0.my,16,()) λc3=>
    .ret c3)<|
   .ret false)<|
  .ret false
noncomputable def mM:=a9 st Tryz.func163 [ca] (ks:=[.st .tupl]) aG rB
def GJ:Sh:=⟨[zo 3 0,zl 7 .entr,zi 8,zi 9],[za .entr]⟩
noncomputable def Hl (v0:List Entr)(v2:Int)(a:List Entr):Tr (Stp (List Entr) (Empty)):=
 .grd (cG v0 v2)<|
 .ite (decide ((IntKind.wrap .i64 ((v0.getD v2.toNat (Ty.zero .entr)).age+1))≤9)) (.grd (px a 1 24)<|
  .val (a++[({(v0.getD v2.toNat (Ty.zero .entr))with age:=(IntKind.wrap .i64 ((v0.getD v2.toNat (Ty.zero .entr)).age+1))}:Entr)]) λl1=>
  .ret (.next l1))<|
 .ret (.next a)
noncomputable def qb:GJ.V→qf GJ (List Entr):=λ(v0,v1,v2,v3,_)=>⟨v2,v3,λv2 a=>(v0,v1,v2,a,()),λv2 _=>(decide (v2<v1)),Hl v0,up,1,(Int.toNat (v1-v2)),Empty.elim,Prod.mk,oN (.exit 0) ⟨[zu 2,zo 3 0],[za .entr]⟩ (λx=>(x.2,()))⟩
theorem ST {v0 v3:List Entr}{v1 v2:Int}(h0:0≤v2)(h1:v1≤4611686018427387904)(h2:sS v0)(h3:v1≤4294967296)(h4:v1≤(v0.length:Int))(h5:(v3.length:Int)≤v2):(qb (v0,v1,v2,v3,())).U v1 (λv2 a=>(a.length:Int)≤v2) (λ_=>True):=
 ju (a:=v3) h0 h1 h5
noncomputable def Ql:FT (List Entr×Unit) (List Entr) (λx=>sS x.1) (λx v=>sS v):=⟨λ(x0,_)=>
  .lp (qb (x0,(x0.length:Int),0,[],())).lp λ(_,a2_0)=>
  .ret a2_0,
 λ(x0,_) hp=>by
  refine Tr.L (ST ?_ ?_ ?_ ?_ ?_ ?_) (λa2_0 _=>Tr.R ?_) (λp=>Empty.elim p)
  all_goals ((try simp only[qb,LC.lp,LC.ct,Ct.lp]at*)<;>grind)⟩
noncomputable def abX:=eE st Tryz.func165 [(0,lb [3,7,8,9] [2,3])] [] 0 qb (ks:=[.sc (.sl .entr)]) Ql (λv=>[(false,[sc (.o true) .entr v])])
def sX:Sh:=⟨[zl 0 .tupl,zp 3 0,zi 7,zi 8],[zx .tupl]⟩
noncomputable def rF (v0:List Tupl)(v3:Tupl)(v2:Int)(a:Unit):Tr (Stp (Unit) ((Int))):=
 .grd (cG v0 v2)<|
 .ite ((v3.ip==(v0.getD v2.toNat (Ty.zero .tupl)).ip)&&((v3.port==(v0.getD v2.toNat (Ty.zero .tupl)).port)&&((v3.my==(v0.getD v2.toNat (Ty.zero .tupl)).my)&&true))) (.ret (.out v2))<|
 .ret (.next ())
noncomputable def jq:sX.V→tq sX Unit (Int):=λ(v0,v1,v2,v3,_)=>⟨v2,(),λv2 _=>(v0,v1,v2,v3,()),λv2 _=>(decide (v2<v1)),rF v0 v3,up,1,(Int.toNat (v1-v2)),.inl,eR,oB .ret ⟨[zi 4],[]⟩ (λp=>(p,())) (.exit 0) ⟨[zu 4],[]⟩ (λ_=>())⟩
theorem B4 {v0:List Tupl}{v1 v2:Int}{v3:Tupl}(h0:0≤v2)(h1:v1≤4611686018427387904)(h2:v1≤(v0.length:Int)):(jq (v0,v1,v2,v3,())).U v1 (λ_ _=>True) (λp=>v2≤p∧p<v1):=
 ju h0 h1 trivial
noncomputable def lr:FT (List Tupl×Tupl×Unit) (Int) (λx=>wS x.1) (λx v=> -1≤v∧v<x.1.length):= .mk (λ(x0,x1,_)=>
  .lp (jq (x0,(x0.length:Int),0,x1,())).lp λw1=> .sum w1 (λp1a0=>
  .ret p1a0)<|
  λ_=>
  .ret (-1)) (qU @B4)
noncomputable def xA:=eE st Tryz.func175 [(0,lb [0,3,7,8] [4])] [] 0 jq (ks:=[.sc (.sl .tupl),.st .tupl]) lr rI
noncomputable def gH:FT (Int×Unit) (Int×Int×Int) (λ_=>True) (λ_ _=>True):= .mk λ(x0,_)=>
  .cal ae.c (x0,32,()) λc1=>
  .ite (!c1) (.ret ((-1),(-1),(-1)))<|
  .ret ((IntKind.wrap .i64 (x0.tdiv 134217728)),((IntKind.wrap .i64 (x0.tdiv 16777216)).tmod 8),(x0.tmod 16777216))
noncomputable def H4:=a9 st Tryz.func187 [ca] (ks:=[.sc (.int .i64)]) gH (λv=>[(false,[.c (.int .i64 v.1)]),(false,[.c (.int .i64 v.2.1)]),(false,[.c (.int .i64 v.2.2)])])
noncomputable def Nc:=[ca,bI]
noncomputable def Nw:Fx:=⟨193,Tryz.f193,[(3000001,rA 0 15)],0⟩
noncomputable def aM:FT (Opti×Unit) (Bool) (λ_=>True) (λ_ _=>True):= .mk λ(x0,_)=>
  .bnd (β:=Bool×Unit) (.ite (!x0.stamp) (.ite (x0.val != 0) (.ret (true,()))<|
    .ret ((x0.echo != 0),()))<|
   .ret (false,())) λ(u1a0,_)=>
  .ite u1a0 (.ret false)<|
  .cal ae.c (x0.mss,16,()) λc2=>
  .ite c2 (.val (bk.f (x0.scale,(-1),14,())) λc3=>
   .ite c3 (.cal ae.c (x0.val,32,()) λc4=>
    .ite c4 (.cal ae.c (x0.echo,32,()) λc5=>
     .ret c5)<|
    .ret false)<|
   .ret false)<|
  .ret false
noncomputable def lu:=bS st Nw Nc [] (ks:=[.st .opti]) aM rB Tryz.func193 trivial
noncomputable def eB:FT (List Half×Unit) (List Half) (λx=>sS x.1) (λx v=>v=x.1):=⟨λx=> .ret x.1,λ_ _=>Tr.R rfl⟩
theorem JI (x:List Half×Unit)(hp:sS x.1):M4 Tryz.prog 195 (JY [.sc (.sl .half)] x) ((λv=>[rv (.sc (.sl .half)) [.o true] v]) (eB.f x)):=by
 refine M4.byNil (t:= .half) (xs:=x.1) (λh=> ?_) ?_
 ·obtain⟨x,_⟩:=x;subst h
  exact fn0 st Tryz.func195 (by kernel_rfl) (by kernel_rfl)
 ·exact fn0 st Tryz.func195 (by kernel_rfl) (Eq.trans (b:=bif Nat.ble ((2*(0+x.1.length)+1024)*96) bc then some ((λv=>[rv (.sc (.sl .half)) [.o true] v]) x.1)else none) (by kernel_rfl) (by rw[show Nat.ble ((2*(0+x.1.length)+1024)*96) bc=true by simp only[Nat.ble_eq,bc];simp only[sS]at hp;omega];rfl))
noncomputable def sC:Ent1 Tryz.prog:=abB 195 (ks:=[.sc (.sl .half)]) eB.c (λv=>[rv (.sc (.sl .half)) [.o true] v]) JI
noncomputable def ak:FT (Segm×Unit) (Bool) (λ_=>True) (λx v=>(v=true→x.1.body.length≤1420)):= .mk λ(x0,_)=>
  .cal ae.c (x0.from_,16,()) λc1=>
  .ite c1 (.cal ae.c (x0.to,16,()) λc2=>
   .ite c2 (.cal ae.c (x0.window,16,()) λc3=>
    .ite c3 (.cal ae.c (x0.seq,32,()) λc4=>
     .ite c4 (.cal ae.c (x0.ack,32,()) λc5=>
      .ite c5 (.cal ae.c (x0.flags,6,()) λc6=>
       .ite c6 (.cal aM.c (x0.opts,()) λc7=>
        .ite c7 (.ret (decide ((x0.body.length:Int)≤1420)))<|
        .ret false)<|
       .ret false)<|
      .ret false)<|
     .ret false)<|
    .ret false)<|
   .ret false)<|
  .ret false
noncomputable def jF:=a9 st Tryz.func196 [ca,lu] (ks:=[.st .segm]) ak rB
noncomputable def bQ:FF (Int×Unit) (Int):=⟨λ(x0,_)=>
  .ite (decide ((x0.tmod 4294967296)<0)) (.ret (IntKind.wrap .i64 ((x0.tmod 4294967296)+4294967296)))<|
  .ret (x0.tmod 4294967296)⟩
@[grind=] theorem adV (x0:Int):bQ.f (x0,())=(x0%4294967296):=by
 simp only[bQ,FF.f,Tr.nice]
 rcases Int.lt_or_le x0 0 with h|h
 ·rw[(iC 4294967296).2 h,di]
  cases hd:decide (-(-x0%4294967296)<0)with
  |true=>simp only[decide_eq_true_eq]at hd;simp only[cond_true];omega
  |false=>simp only[decide_eq_false_iff_not]at hd;simp only[cond_false];omega
 ·rw[(iC 4294967296).1 h,di]
  cases hd:decide (x0%4294967296<0)with
  |true=>simp only[decide_eq_true_eq]at hd;omega
  |false=>rfl
noncomputable def gI:=ly st Tryz.func211 [] (ks:=[.sc (.int .i64)]) bQ rI
noncomputable def gL:FT (List Entr×Unit) (List Entr) (λx=>sS x.1) (λx v=>v=x.1):=⟨λx=> .ret x.1,λ_ _=>Tr.R rfl⟩
theorem H0 (x:List Entr×Unit)(hp:sS x.1):M4 Tryz.prog 231 (JY [.sc (.sl .entr)] x) ((λv=>[rv (.sc (.sl .entr)) [.o true] v]) (gL.f x)):=by
 refine M4.byNil (t:= .entr) (xs:=x.1) (λh=> ?_) ?_
 ·obtain⟨x,_⟩:=x;subst h
  exact fn0 st Tryz.func231 (by kernel_rfl) (by kernel_rfl)
 ·exact fn0 st Tryz.func231 (by kernel_rfl) (Eq.trans (b:=bif Nat.ble ((2*(0+x.1.length)+1024)*24) bc then some ((λv=>[rv (.sc (.sl .entr)) [.o true] v]) x.1)else none) (by kernel_rfl) (by rw[show Nat.ble ((2*(0+x.1.length)+1024)*24) bc=true by simp only[Nat.ble_eq,bc];simp only[sS]at hp;omega];rfl))
noncomputable def xx:Ent1 Tryz.prog:=abB 231 (ks:=[.sc (.sl .entr)]) gL.c (λv=>[rv (.sc (.sl .entr)) [.o true] v]) H0
noncomputable def uO:FT (Keys×Unit) (Keys) (λx=>cU x.1) (λx v=>cU v∧v=x.1):=⟨λ(x0,_)=>
  .cal kS.c (x0.now,()) λc1=>
  .cal kS.c (x0.before,()) λc2=>
  .ret (⟨x0.epoch,c1,c2,x0.two⟩:Keys),
 λ(x0,_) hp=>by
  refine Tr.C ?_ λc1 hc1 qc1=>Tr.C ?_ λc2 hc2 qc2=>Tr.R ?_
  all_goals ((first|grind|(refine⟨by grind, ?_⟩;first|(simp only[List.nil_append];done)|(subst_vars;rfl)|simp_all)))⟩
noncomputable def GQ:=a9 st Tryz.func234 [yJ] (ks:=[.st .keys]) uO (λv=>[(true,BI (.o true) (.o true) v)])
noncomputable def IK:FF (Fram×Int×Unit) (Bool):=⟨λ(x0,x1,_)=>
  .ite (x0.dst==x1) (.ret true)<|
  .ret (x0.dst==281474976710655)⟩
noncomputable def Z7:=ly st Tryz.func235 [] (ks:=[.st .fram,.sc (.int .i64)]) IK rB
def yx:Sh:=⟨[zs 0,zi 1,zi 2,zi 8,zi 9],[]⟩
noncomputable def rJ (v0:aa)(v1:Int)(v4:Int)(a:Int):Tr (Stp (Int) (Empty)):=
 .grd (cG v0 (IntKind.wrap .i64 (v1+v4)))<|
 .val (IntKind.wrap .i64 ((IntKind.wrap .i64 (256*a))+(IntKind.wrap .i64 (ai v0 ((IntKind.wrap .i64 (v1+v4)).toNat))))) λe4=>
 .ret (.next e4)
noncomputable def n9:yx.V→qf yx Int:=λ(v0,v1,v2,v3,v4,_)=>⟨v4,v3,λv4 a=>(v0,v1,v2,a,v4,()),λv4 _=>(decide (v4<v2)),rJ v0 v1,up,1,(Int.toNat (v2-v4)),Empty.elim,Prod.mk,oN (.exit 0) ⟨[zu 6,zu 7,zi 8],[]⟩ (λx=>(x.2,()))⟩
theorem Kf {v0:aa}{v1 v2 v3 v4:Int}(h0:0≤v4)(h1:v2≤4611686018427387904)(h2:0≤v1)(h3:v1+v2≤(v0.length:Int))(h4:sS v0):(n9 (v0,v1,v2,v3,v4,())).U v2 (λ_ _=>True) (λ_=>True):=
 ju (a:=v3) h0 h1 trivial
noncomputable def bR:FT (aa×Int×Int×Unit) (Int×Bool) (λx=>sS x.1) (λ_ _=>True):= .mk (λ(x0,x1,x2,_)=>
  .bnd (β:=Bool×Unit) (.val (ce.f (x2,1,6,())) λc1=>
   .ite (!c1) (.ret (true,()))<|
   .val (ce.f (x1,0,(IntKind.wrap .i64 ((x0.length:Int)-x2)),())) λc2=>
   .ret ((!c2),())) λ(u3a0,_)=>
  .ite u3a0 (.ret (0,false))<|
  .lp (n9 (x0,x1,x2,0,0,())).lp λ(_,a5_0)=>
  .ret (a5_0,true)) (qU @Kf)
noncomputable def p9:=eE st Tryz.func240 [(0,lb [0,1,2,8,9] [6,7,8]),(3000001,rA 0 21)] [cy] 0 n9 (ks:=[.sc .str,.sc (.int .i64),.sc (.int .i64)]) bR (λv=>[(false,[.c (.int .i64 v.1)]),(false,[.c (.bool v.2)])])
def xI:Sh:=⟨[zl 0 .half,zp 3 0,zi 5],[zx .tupl]⟩
noncomputable def xk (v0:List Half)(v2:Tupl)(v1:Int)(a:Unit):Tr (Stp (Unit) ((Int))):=
 .grd (cG v0 v1)<|
 .ite (((v0.getD v1.toNat (Ty.zero .half)).tuple.ip==v2.ip)&&(((v0.getD v1.toNat (Ty.zero .half)).tuple.port==v2.port)&&(((v0.getD v1.toNat (Ty.zero .half)).tuple.my==v2.my)&&true))) (.ret (.out v1))<|
 .ret (.next ())
noncomputable def lX:xI.V→tq xI Unit (Int):=λ(v0,v1,v2,_)=>⟨v1,(),λv1 _=>(v0,v1,v2,()),λv1 _=>(decide (v1<(v0.length:Int))),xk v0 v2,up,1,(Int.toNat ((v0.length:Int)-v1)),.inl,eR,oB .ret ⟨[zi 4],[]⟩ (λp=>(p,())) (.exit 0) ⟨[zu 4],[]⟩ (λ_=>())⟩
theorem Hu {v0:List Half}{v1:Int}{v2:Tupl}(h0:0≤v1)(h1:(v0.length:Int)≤4611686018427387904):(lX (v0,v1,v2,())).U (v0.length:Int) (λ_ _=>True) (λp=>v1≤p∧p<(v0.length:Int)):=
 ju h0 h1 trivial
noncomputable def i5:FT (List Half×Tupl×Unit) (Int) (λx=>wS x.1) (λx v=> -1≤v∧v<x.1.length):= .mk (λ(x0,x1,_)=>
  .lp (lX (x0,0,x1,())).lp λw1=> .sum w1 (λp1a0=>
  .ret p1a0)<|
  λ_=>
  .ret (-1)) (qU @Hu)
noncomputable def n5:=eE st Tryz.func244 [(0,lb [0,3,5] [4])] [] 0 lX (ks:=[.sc (.sl .half),.st .tupl]) i5 rI
noncomputable def sv:FT (List Half×Tupl×Unit) (List Half) (λx=>sS x.1) (λx v=>sS v):= .mk λ(x0,x1,_)=>
  .cal i5.c (x0,x1,()) λc1=>
  .ite (decide (c1<0)) (.grd (Nat.ble ((2*(0+x0.length)+1024)*96) bc)<|
   .ret ([]++x0))<|
  .grd ((decide (0≤c1))&&(decide (c1≤(x0.length:Int))))<|
  .grd (Nat.ble ((2*(0+((x0.take c1.toNat).drop 0).length)+1024)*96) bc)<|
  .grd (KN x0 (IntKind.wrap .i64 (c1+1)) (x0.length:Int))<|
  .grd (Nat.ble ((2*(([]++((x0.take c1.toNat).drop 0)).length+((x0.take ((x0.length:Int).toNat)).drop ((IntKind.wrap .i64 (c1+1)).toNat)).length)+1024)*96) bc)<|
  .val (([]++((x0.take c1.toNat).drop 0))++((x0.take ((x0.length:Int).toNat)).drop ((IntKind.wrap .i64 (c1+1)).toNat))) λl2=>
  .ret l2
noncomputable def Dx:=a9 st Tryz.func245 [n5] (ks:=[.sc (.sl .half),.st .tupl]) sv (λv=>[(false,[sc (.o true) .half v])])
noncomputable def fD:FF (Int×Int×Unit) (Int):=⟨λ(x0,x1,_)=>
  .ite (decide (x1<x0)) (.ret x0)<|
  .ret x1⟩
@[grind=] theorem mt (x0 x1:Int):fD.f (x0,x1,())=(if x1<x0 then x0 else x1):=by
 simp only[fD,FF.f,Tr.nice]
 by_cases h:x1<x0<;>simp[h]
noncomputable def mw:=ly st Tryz.func255 [] (ks:=[.sc (.int .i64),.sc (.int .i64)]) fD rI
def tF:Sh:=⟨[zl 0 .half,zo 3 0,zi 4],[za .half]⟩
noncomputable def t6 (v0:List Half)(v1:Int)(a:List Half):Tr (Stp (List Half) (Empty)):=
 .grd (cG v0 v1)<|
 .ite (decide ((v0.getD v1.toNat (Ty.zero .half)).age<6)) (.grd (px a 1 96)<|
  .val (a++[({(v0.getD v1.toNat (Ty.zero .half))with age:=(IntKind.wrap .i64 ((v0.getD v1.toNat (Ty.zero .half)).age+1))}:Half)]) λl1=>
  .ret (.next l1))<|
 .ret (.next a)
noncomputable def gz:tF.V→qf tF (List Half):=λ(v0,v1,v2,_)=>⟨v1,v2,λv1 a=>(v0,v1,a,()),λv1 _=>(decide (v1<(v0.length:Int))),t6 v0,up,1,(Int.toNat ((v0.length:Int)-v1)),Empty.elim,Prod.mk,oN (.exit 0) ⟨[zu 2,zo 3 0],[za .half]⟩ (λx=>(x.2,()))⟩
theorem CZ {v0 v2:List Half}{v1:Int}(h0:0≤v1)(h1:(v0.length:Int)≤4611686018427387904)(h2:sS v0)(h3:(v2.length:Int)≤v1):(gz (v0,v1,v2,())).U (v0.length:Int) (λv1 a=>(a.length:Int)≤v1) (λ_=>True):=
 ju (a:=v2) h0 h1 h3
noncomputable def qM:FT (List Half×Unit) (List Half) (λx=>sS x.1) (λx v=>sS v):=⟨λ(x0,_)=>
  .lp (gz (x0,0,[],())).lp λ(_,a2_0)=>
  .ret a2_0,
 λ(x0,_) hp=>by
  refine Tr.L (CZ ?_ ?_ ?_ ?_) (λa2_0 _=>Tr.R ?_) (λp=>Empty.elim p)
  all_goals ((try simp only[gz,LC.lp,LC.ct,Ct.lp]at*)<;>grind)⟩
noncomputable def Lz:=eE st Tryz.func256 [(0,lb [0,3,4] [2,3])] [] 0 gz (ks:=[.sc (.sl .half)]) qM (λv=>[(false,[sc (.o true) .half v])])
noncomputable def eb:FT (Recv×Unit) (Recv) (λx=>ay x.1) (λx v=>ay v∧v=x.1):=⟨λ(x0,_)=>
  .grd (Nat.ble ((2*(0+x0.held.length)+1024)*24) bc)<|
  .ret ({x0 with held:=([]++x0.held)}:Recv),
 λ(x0,_) hp=>by
  refine Tr.Gb ?_ λg0=>Tr.R ?_
  all_goals ((first|grind|(refine⟨by grind, ?_⟩;first|(simp only[List.nil_append];done)|(subst_vars;rfl)|simp_all)))⟩
noncomputable def zc:=a9 st Tryz.func257 [] (ks:=[.st .recv]) eb (λv=>[(true,uw (.o true) v)])
noncomputable def gO:FT (Recv×Unit) (Int) (λx=>ay x.1) (λx v=>0≤v∧v≤32∧(x.1.data.length≤32→v=Zy x.1)):= .mk λ(x0,_)=>
  .ite x0.done (.ret 0)<|
  .val (fD.f (0,(IntKind.wrap .i64 (32-(x0.data.length:Int))),())) λc1=>
  .ret c1
noncomputable def kQ:=a9 st Tryz.func261 [mw] (ks:=[.st .recv]) gO rI
noncomputable def gk:FT (Fram×Unit) (Bool) (λ_=>True) (λx v=>(v=true→x.1.body.length≤1586)):= .mk λ(x0,_)=>
  .cal ae.c (x0.dst,48,()) λc1=>
  .ite c1 (.cal ae.c (x0.src,48,()) λc2=>
   .ite c2 (.val (bk.f (x0.type,1536,65535,())) λc3=>
    .ite c3 (.ret (decide ((x0.body.length:Int)≤1586)))<|
    .ret false)<|
   .ret false)<|
  .ret false
noncomputable def Hn:=a9 st Tryz.func263 [ca,bI] (ks:=[.st .fram]) gk rB
def CQ:Sh:=⟨[zl 0 .entr,zi 1,zi 5],[]⟩
noncomputable def C7 (v0:List Entr)(v1:Int)(v2:Int)(a:Unit):Tr (Stp (Unit) ((Int))):=
 .grd (cG v0 v2)<|
 .ite ((v0.getD v2.toNat (Ty.zero .entr)).ip==v1) (.ret (.out v2))<|
 .ret (.next ())
noncomputable def rc:CQ.V→tq CQ Unit (Int):=λ(v0,v1,v2,_)=>⟨v2,(),λv2 _=>(v0,v1,v2,()),λv2 _=>(decide (v2<(v0.length:Int))),C7 v0 v1,up,1,(Int.toNat ((v0.length:Int)-v2)),.inl,eR,oB .ret ⟨[zi 4],[]⟩ (λp=>(p,())) (.exit 0) ⟨[zu 4],[]⟩ (λ_=>())⟩
theorem QX {v0:List Entr}{v1 v2:Int}(h0:0≤v2)(h1:(v0.length:Int)≤4611686018427387904):(rc (v0,v1,v2,())).U (v0.length:Int) (λ_ _=>True) (λp=>v2≤p∧p<(v0.length:Int)):=
 ju h0 h1 trivial
noncomputable def zX:FT (List Entr×Int×Unit) (Int) (λx=>sS x.1) (λx v=> -1≤v∧v<x.1.length):= .mk (λ(x0,x1,_)=>
  .lp (rc (x0,x1,0,())).lp λw1=> .sum w1 (λp1a0=>
  .ret p1a0)<|
  λ_=>
  .ret (-1)) (qU @QX)
noncomputable def FJ:=eE st Tryz.func268 [(0,lb [0,1,5] [4])] [] 0 rc (ks:=[.sc (.sl .entr),.sc (.int .i64)]) zX rI
noncomputable def wx:FT (Limi×Unit) (Bool) (λ_=>True) (λx v=>(v=true→x.1.halves≤64∧x.1.waiting≤16∧x.1.conns≤16)):= .mk λ(x0,_)=>
  .val (ce.f (x0.halves,1,64,())) λc1=>
  .ite c1 (.val (ce.f (x0.waiting,1,16,())) λc2=>
   .ite c2 (.val (ce.f (x0.conns,1,16,())) λc3=>
    .ite c3 (.val (ce.f (x0.chal,0,1000,())) λc4=>
     .ret c4)<|
    .ret false)<|
   .ret false)<|
  .ret false
noncomputable def RU:=a9 st Tryz.func269 [cy] (ks:=[.st .limi]) wx rB
def Gj:Sh:=⟨[zi 1,zl 8 .entr,zi 9,zi 10],[]⟩
noncomputable def Hj (v0:Int)(v1:List Entr)(v3:Int)(a:Unit):Tr (Stp (Unit) ((Int))):=
 .grd (cG v1 v3)<|
 .ite ((v1.getD v3.toNat (Ty.zero .entr)).ip==v0) (.ret (.out ((v1.getD v3.toNat (Ty.zero .entr)).hw)))<|
 .ret (.next ())
noncomputable def tD:Gj.V→tq Gj Unit (Int):=λ(v0,v1,v2,v3,_)=>⟨v3,(),λv3 _=>(v0,v1,v2,v3,()),λv3 _=>(decide (v3<v2)),Hj v0 v1,up,1,(Int.toNat (v2-v3)),.inl,eR,oB .ret ⟨[zi 4,zb 5],[]⟩ (λp=>(p,true,())) (.exit 0) ⟨[zu 4,zu 5],[]⟩ (λ_=>())⟩
theorem Sy {v0 v2 v3:Int}{v1:List Entr}(h0:0≤v3)(h1:v2≤4611686018427387904)(h2:v2≤(v1.length:Int)):(tD (v0,v1,v2,v3,())).U v2 (λ_ _=>True) (λ_=>True):=
 ju h0 h1 trivial
noncomputable def B0:FT (List Entr×Int×Unit) (Int×Bool) (λx=>sS x.1) (λ_ _=>True):= .mk (λ(x0,x1,_)=>
  .lp (tD (x1,x0,(x0.length:Int),0,())).lp λw1=> .sum w1 (λp1a0=>
  .ret (p1a0,true))<|
  λ_=>
  .ret (0,false)) (qU @Sy)
noncomputable def Tw:=eE st Tryz.func271 [(0,lb [1,8,9,10] [4,5])] [] 0 tD (ks:=[.sc (.sl .entr),.sc (.int .i64)]) B0 (λv=>[(false,[.c (.int .i64 v.1)]),(false,[.c (.bool v.2)])])
def qu:Sh:=⟨[zl 0 .macRow,zl 1 .macRow,zi 12,zi 13],[]⟩
noncomputable def qw (v0 v1:List MacRow)(v3:Int)(a:Unit):Tr (Stp (Unit) ((Unit))):=
 .grd (cG v0 v3)<|
 .grd (cG v1 v3)<|
 .ite (!(((v0.getD v3.toNat (Ty.zero .macRow)).input==(v1.getD v3.toNat (Ty.zero .macRow)).input)&&(((v0.getD v3.toNat (Ty.zero .macRow)).value==(v1.getD v3.toNat (Ty.zero .macRow)).value)&&true))) (.ret (.out ()))<|
 .ret (.next ())
noncomputable def gX:qu.V→tq qu Unit (Unit):=λ(v0,v1,v2,v3,_)=>⟨v3,(),λv3 _=>(v0,v1,v2,v3,()),λv3 _=>(decide (v3<v2)),qw v0 v1,up,1,(Int.toNat (v2-v3)),.inl,eR,oB .ret ⟨[zb 4],[]⟩ (λ_=>(false,())) (.exit 0) ⟨[zu 4],[]⟩ (λ_=>())⟩
theorem AE {v0 v1:List MacRow}{v2 v3:Int}(h0:0≤v3)(h1:v2≤4611686018427387904)(h2:v2≤(v0.length:Int))(h3:v2≤(v1.length:Int)):(gX (v0,v1,v2,v3,())).U v2 (λ_ _=>True) (λ_=>True):=
 ju h0 h1 trivial
noncomputable def nC:FT (List MacRow×List MacRow×Unit) (Bool) (λx=>sL bm x.1∧sL bm x.2.1) (λ_ _=>True):= .mk (λ(x0,x1,_)=>
  .ite ((x0.length:Int) != (x1.length:Int)) (.ret false)<|
  .lp (gX (x0,x1,(x0.length:Int),0,())).lp λw1=> .sum w1 (λ_=>
  .ret false)<|
  λ_=>
  .ret true) (qU @AE)
noncomputable def F1:=eE st Tryz.func276 [(0,lb [0,1,12,13] [4])] [] 0 gX (ks:=[.sc (.sl .macRow),.sc (.sl .macRow)]) nC rB
noncomputable def tK:FF (Fram×Int×Unit) (Bool):=⟨λ(x0,x1,_)=>
  .ite (x0.dst==x1) (.ret true)<|
  .ret (x0.dst==281474976710655)⟩
noncomputable def ZX:=ly st Tryz.func277 [] (ks:=[.st .fram,.sc (.int .i64)]) tK rB
def tV:Sh:=⟨[zo 3 0,zl 7 .half,zi 8,zi 9],[za .half]⟩
noncomputable def ue (v0:List Half)(v2:Int)(a:List Half):Tr (Stp (List Half) (Empty)):=
 .grd (cG v0 v2)<|
 .ite (decide ((IntKind.wrap .i64 ((v0.getD v2.toNat (Ty.zero .half)).age+1))≤6)) (.grd (px a 1 96)<|
  .val (a++[({(v0.getD v2.toNat (Ty.zero .half))with age:=(IntKind.wrap .i64 ((v0.getD v2.toNat (Ty.zero .half)).age+1))}:Half)]) λl1=>
  .ret (.next l1))<|
 .ret (.next a)
noncomputable def gr:tV.V→qf tV (List Half):=λ(v0,v1,v2,v3,_)=>⟨v2,v3,λv2 a=>(v0,v1,v2,a,()),λv2 _=>(decide (v2<v1)),ue v0,up,1,(Int.toNat (v1-v2)),Empty.elim,Prod.mk,oN (.exit 0) ⟨[zu 2,zo 3 0],[za .half]⟩ (λx=>(x.2,()))⟩
theorem CR {v0 v3:List Half}{v1 v2:Int}(h0:0≤v2)(h1:v1≤4611686018427387904)(h2:sS v0)(h3:v1≤4294967296)(h4:v1≤(v0.length:Int))(h5:(v3.length:Int)≤v2):(gr (v0,v1,v2,v3,())).U v1 (λv2 a=>(a.length:Int)≤v2) (λ_=>True):=
 ju (a:=v3) h0 h1 h5
noncomputable def qN:FT (List Half×Unit) (List Half) (λx=>sS x.1) (λx v=>sS v):=⟨λ(x0,_)=>
  .lp (gr (x0,(x0.length:Int),0,[],())).lp λ(_,a2_0)=>
  .ret a2_0,
 λ(x0,_) hp=>by
  refine Tr.L (CR ?_ ?_ ?_ ?_ ?_ ?_) (λa2_0 _=>Tr.R ?_) (λp=>Empty.elim p)
  all_goals ((try simp only[gr,LC.lp,LC.ct,Ct.lp]at*)<;>grind)⟩
noncomputable def LI:=eE st Tryz.func283 [(0,lb [3,7,8,9] [2,3])] [] 0 gr (ks:=[.sc (.sl .half)]) qN (λv=>[(false,[sc (.o true) .half v])])
noncomputable def pk:FT (List Tupl×Unit) (List Tupl) (λx=>sS x.1) (λx v=>v=x.1):=⟨λx=> .ret x.1,λ_ _=>Tr.R rfl⟩
theorem H3 (x:List Tupl×Unit)(hp:sS x.1):M4 Tryz.prog 286 (JY [.sc (.sl .tupl)] x) ((λv=>[rv (.sc (.sl .tupl)) [.o true] v]) (pk.f x)):=by
 refine M4.byNil (t:= .tupl) (xs:=x.1) (λh=> ?_) ?_
 ·obtain⟨x,_⟩:=x;subst h
  exact fn0 st Tryz.func286 (by kernel_rfl) (by kernel_rfl)
 ·exact fn0 st Tryz.func286 (by kernel_rfl) (Eq.trans (b:=bif Nat.ble ((2*(0+x.1.length)+1024)*24) bc then some ((λv=>[rv (.sc (.sl .tupl)) [.o true] v]) x.1)else none) (by kernel_rfl) (by rw[show Nat.ble ((2*(0+x.1.length)+1024)*24) bc=true by simp only[Nat.ble_eq,bc];simp only[sS]at hp;omega];rfl))
noncomputable def HQ:Ent1 Tryz.prog:=abB 286 (ks:=[.sc (.sl .tupl)]) pk.c (λv=>[rv (.sc (.sl .tupl)) [.o true] v]) H3
noncomputable def bB:FT (Recv×Unit) (Int) (λx=>ay x.1) (λx v=>0≤v∧v≤32∧(x.1.data.length≤32→v=Zy x.1)):= .mk λ(x0,_)=>
  .ite x0.done (.ret 0)<|
  .val (β:=Int) (if 0<(IntKind.wrap .i64 (32-(x0.data.length:Int)))then(IntKind.wrap .i64 (32-(x0.data.length:Int)))else 0) λe1=>
  .ret e1
noncomputable def kZ:=a9 st Tryz.func291 [] (ks:=[.st .recv]) bB rI
def zr:Sh:=⟨[zi 0,zo 5 0,zi 6],[za .u8]⟩
noncomputable def dP (v1:Int)(a:Int×List Int):Tr (Stp (Int×List Int) (Empty)):=
 .grd (cG a.2 v1)<|
 .ret (.next ((a.1.fdiv 256),(a.2.set v1.toNat (IntKind.wrap .u8 a.1))))
noncomputable def eL:zr.V→qf zr (Int×List Int):=λ(v0,v1,v2,_)=>⟨v1,(v0,v2),λv1 a=>(a.1,v1,a.2,()),λv1 _=>(decide (0≤v1)),dP,dn,(-1),(Int.toNat (v1-0+1)),Empty.elim,Prod.mk,oN (.exit 0) ⟨[zu 4,zo 5 0],[za .u8]⟩ (λx=>(x.2.2,()))⟩
theorem L0 {v0 v1:Int}{v2:List Int}(h0:v1≤9223372036854775807)(h1:sS v2)(h2:v2.length=v2.length∧v1<(v2.length:Int)):(eL (v0,v1,v2,())).D 0 (λv1 a=>a.2.length=v2.length∧v1<(a.2.length:Int)) (λ_=>True):=
 lcD (a:=(v0,v2)) h0 (by decide) h2
noncomputable def aA:FT (Int×Int×Unit) (aa) (λ_=>True) (λx v=>sS v∧(v.length:Int)≤max x.2.1 0):=⟨λ(x0,x1,_)=>
  .bnd (β:=Bool×Unit) (.val (bk.f (x1,1,6,())) λc1=>
   .ite (!c1) (.ret (true,()))<|
   .cal ae.c (x0,(IntKind.wrap .i64 (8*x1)),()) λc2=>
   .ret ((!c2),())) λ(u3a0,_)=>
  .ite u3a0 (.ret [])<|
  .grd ((((decide (0≤x1))&&(decide (x1=x1)))&&(decide (x1*1≤(bc:Int))))&&(decide (x1≤(bc:Int))))<|
  .lp (eL (x0,(IntKind.wrap .i64 (x1-1)),(List.replicate x1.toNat 0),())).lp λ(_,_,a4_1)=>
  .ret (aw a4_1),
 λ(x0,x1,_) hp=>by
  refine Tr.B (Q':=λ_=>True) (Tr.V λ_ _=>Tr.I (λ_=>Tr.R trivial) λ_=>Tr.C trivial λ_ _ _=>Tr.R trivial) (λ(u3a0,_) _ _=>Tr.I (λ_=>Tr.R ?_) λ_=>Tr.G4 ?_ λ_=>Tr.L (L0 ?_ ?_ ?_) (λ(a4_0,a4_1) _=>Tr.R ?_) (λp=>Empty.elim p))
  all_goals ((try simp only[eL,LC.lp,LC.ct,Ct.lp,Tr.nice,j5]at*)<;>grind)⟩
noncomputable def kJ:=eE st Tryz.func294 [(0,lb [0,5,6] [4,5]),(3000001,rA 0 16)] [bI,ca] 0 eL (ks:=[.sc (.int .i64),.sc (.int .i64)]) aA (λv=>[(false,[.c (.str v)])])
noncomputable def aU:FT (Segm×Unit) (Int) (λx=>am x.1) (λx v=>0≤v∧v≤x.1.body.length+2):= .mk λ(x0,_)=>
  .val (bp.f (x0,2,())) λc1=>
  .ite c1 (.val (bp.f (x0,1,())) λc2=>
   .ite c2 (.val (IntKind.wrap .i64 ((IntKind.wrap .i64 ((x0.body.length:Int)+1))+1)) λe3=>
    .ret e3)<|
   .ret (IntKind.wrap .i64 ((x0.body.length:Int)+1)))<|
  .val (bp.f (x0,1,())) λc4=>
  .ite c4 (.ret (IntKind.wrap .i64 ((x0.body.length:Int)+1)))<|
  .ret (x0.body.length:Int)
noncomputable def sF:=a9 st Tryz.func308 [vW] (ks:=[.st .segm]) aU rI
noncomputable def um:FT (List Half×Int×Int×Unit) (Nat×List Half) (λx=>sS x.1∧0≤x.2.1∧x.2.1≤x.2.2.1∧x.2.2.1≤x.1.length) (λx v=>sS v.2∧v.1≤x.1.length∧v.2.length=x.1.length):=⟨λ(x0,x1,x2,_)=>
  .grd ((((decide (0≤x1))&&(decide (x1≤x2)))&&(decide (x2≤(x0.length:Int))))&&(decide ((x0.length:Int)≤(x0.length:Int))))<|
  .ite (x1==x2) (.ret (x0.length,x0))<|
  .grd ((decide (0≤x1))&&(decide (x1≤(x0.length:Int))))<|
  .grd (KN x0 x2 (x0.length:Int))<|
  .grd (((Nat.ble x1.toNat x2.toNat)&&(Nat.beq ((x0.length:Int).toNat) x0.length))&&true)<|
  .val (((((x0.take x1.toNat++x0.drop x2.toNat)++x0.drop (x1.toNat+(x0.length-x2.toNat))).take (x1.toNat+(x0.length-x2.toNat))).drop 0).length:Int) λe1=>
  .grd (KN ((x0.take x1.toNat++x0.drop x2.toNat)++x0.drop (x1.toNat+(x0.length-x2.toNat))) e1 (x0.length:Int))<|
  .val ((((x0.take x1.toNat++x0.drop x2.toNat)++x0.drop (x1.toNat+(x0.length-x2.toNat))).take e1.toNat++List.replicate ((x0.length:Int).toNat-e1.toNat) (Ty.zero .half))++((x0.take x1.toNat++x0.drop x2.toNat)++x0.drop (x1.toNat+(x0.length-x2.toNat))).drop ((x0.length:Int).toNat)) λl2=>
  .ret ((x1.toNat+(x0.length-x2.toNat)),l2),
 λ(x0,x1,x2,_) hp=>by
  refine Tr.G4 ?_ λg0=>Tr.I (λb1=>Tr.R ?_) λb1=>Tr.G2 ?_ λg2=>Tr.G3 ?_ λg3=>Tr.G ?_ λg4=>Tr.V λe1 he1=>Tr.G3 ?_ λg5=>Tr.V λl2 hl2=>Tr.R ?_
  all_goals ((first|grind|(simp only[Bool.and_eq_true,and_true,List.length_set,Nat.ble_eq,Nat.beq_eq,decide_eq_true_eq,List.length_append,List.length_take,List.length_drop,List.drop_zero,List.length_replicate,sS]at*;omega)))⟩
noncomputable def IG:=cq st ⟨310,Tryz.f310,[],1⟩ [] [] [.wr false [.own 0],.sc (.int .i64),.sc (.int .i64)] [.arr .half] (λx y=>(y.1,x.2.1,x.2.2.1,())) um (λv=>[(false,[.shr 0 v.1])]) (λx y v=>(v.2,())) Tryz.func310 (by kernel_rfl) trivial
noncomputable def jO:FF (Opti×Unit) (Opti):=⟨λ(x0,_)=>
  .ite x0.stamp (.ret x0)<|
  .val (bV.f (())) λc1=>
  .ret ({c1 with mss:=x0.mss}:Opti)⟩
noncomputable def HH:=ly st Tryz.func313 [jJ] (ks:=[.st .opti]) jO (λv=>[(true,oU v)])
noncomputable def pm:FT (List Piec×Unit) (List Piec) (λx=>sS x.1) (λx v=>v=x.1):=⟨λx=> .ret x.1,λ_ _=>Tr.R rfl⟩
theorem HC (x:List Piec×Unit)(hp:sS x.1):M4 Tryz.prog 317 (JY [.sc (.sl .piec)] x) ((λv=>[rv (.sc (.sl .piec)) [.o true] v]) (pm.f x)):=by
 refine M4.byNil (t:= .piec) (xs:=x.1) (λh=> ?_) ?_
 ·obtain⟨x,_⟩:=x;subst h
  exact fn0 st Tryz.func317 (by kernel_rfl) (by kernel_rfl)
 ·exact fn0 st Tryz.func317 (by kernel_rfl) (Eq.trans (b:=bif Nat.ble ((2*(0+x.1.length)+1024)*24) bc then some ((λv=>[rv (.sc (.sl .piec)) [.o true] v]) x.1)else none) (by kernel_rfl) (by rw[show Nat.ble ((2*(0+x.1.length)+1024)*24) bc=true by simp only[Nat.ble_eq,bc];simp only[sS]at hp;omega];rfl))
noncomputable def HB:Ent1 Tryz.prog:=abB 317 (ks:=[.sc (.sl .piec)]) pm.c (λv=>[rv (.sc (.sl .piec)) [.o true] v]) HC
noncomputable def jZ:FF (Int×Int×Unit) (Int):=⟨λ(x0,x1,_)=>
  .ite (decide (x0<x1)) (.ret x0)<|
  .ret x1⟩
@[grind=] theorem kA (x0 x1:Int):jZ.f (x0,x1,())=(if x0<x1 then x0 else x1):=by
 simp only[jZ,FF.f,Tr.nice]
 by_cases h:x0<x1<;>simp[h]
noncomputable def ot:=ly st Tryz.func322 [] (ks:=[.sc (.int .i64),.sc (.int .i64)]) jZ rI
noncomputable def pX:FT (Int×Int×Unit) (Mac) (λ_=>True) (λx v=>dV v):= .mk λ(x0,x1,_)=>
  .ret (⟨false,x0,x1,[]⟩:Mac)
noncomputable def wi:=a9 st Tryz.func337 [] (ks:=[.sc (.int .u64),.sc (.int .u64)]) pX (λv=>[(true,KS (.o true) v)])
noncomputable def rV:FT (List MacRow×Unit) (Mac) (λx=>sL bm x.1) (λx v=>dV v):= .mk λ(x0,_)=>
  .grd (Nat.ble ((2*(0+x0.length)+1024)*24) bc)<|
  .ret (⟨true,0,0,([]++x0)⟩:Mac)
noncomputable def Df:=a9 st Tryz.func341 [] (ks:=[.sc (.sl .macRow)]) rV (λv=>[(true,KS (.o true) v)])
noncomputable def vQ:FF (Int×Int×Unit) (Sipr):=⟨λ(x0,x1,_)=>
  .ret (⟨(bits .xor .u64 x0 8317987319222330741),(bits .xor .u64 x1 7237128888997146477),(bits .xor .u64 x0 7816392313619706465),(bits .xor .u64 x1 8387220255154660723)⟩:Sipr)⟩
noncomputable def P7:=ly st Tryz.func348 [] (ks:=[.sc (.int .u64),.sc (.int .u64)]) vQ (λv=>[(true,Fu v)])
def A5:Sh:=⟨[zs 0,(3,false,[.int .u64]),zi 4],[]⟩
noncomputable def NX (v0:aa)(v2:Int)(a:Int):Tr (Stp (Int) (Empty)):=
 .grd (cG v0 v2)<|
 .val (bits .or .u64 (IntKind.wrap .u64 (a*256)) (IntKind.wrap .u64 (ai v0 v2.toNat))) λe1=>
 .ret (.next e1)
noncomputable def pH:A5.V→qf A5 Int:=λ(v0,v1,v2,_)=>⟨v2,v1,λv2 a=>(v0,a,v2,()),λv2 _=>(decide (0≤v2)),NX v0,dn,(-1),(Int.toNat (v2-0+1)),Empty.elim,Prod.mk,oN (.exit 0) ⟨[zu 2,(3,false,[.int .u64])],[]⟩ (λx=>(x.2,()))⟩
theorem Nf {v0:aa}{v1 v2:Int}(h0:v2≤9223372036854775807)(h1:v2<(v0.length:Int)):(pH (v0,v1,v2,())).D 0 (λv2 a=>v2<(v0.length:Int)) (λ_=>True):=
 lcD (a:=v1) h0 (by decide) h1
noncomputable def sA:FT (aa×Unit) (Int) (λx=>sS x.1) (λ_ _=>True):= .mk (λ(x0,_)=>
  .lp (pH (x0,0,(IntKind.wrap .i64 ((x0.length:Int)-1)),())).lp λ(_,a2_0)=>
  .ret a2_0) (qU @Nf)
noncomputable def XI:=eE st Tryz.func350 [(0,lb [0,3,4] [2,3])] [] 0 pH (ks:=[.sc .str]) sA (λv=>[(false,[.c (.int .u64 v)])])
noncomputable def bX:FF (Unit) (Opti):=⟨λ_=>
  .ret (⟨0,(-1),false,false,0,0⟩:Opti)⟩
noncomputable def eA:=ly st Tryz.func356 [] (ks:=[]) bX (λv=>[(true,oU v)])
noncomputable def Z2:=[p9,ot]
noncomputable def ZH:Fx:=⟨357,Tryz.f357,[(3000002,rA 0 8),(3000004,rA 0 22),(3000006,rA 0 35),(3000008,rA 0 44)],0⟩
noncomputable def IX:FT (Opti×aa×Unit) (Opti) (λx=>sS x.2.1∧0<x.2.1.length) (λ_ _=>True):= .mk λ(x0,x1,_)=>
  .bnd (β:=Bool×Unit) (.grd (decide (0<(x1.length:Int)))<|
   .ite ((ai x1 0)==2) (.ret (((x1.length:Int)==4),()))<|
   .ret (false,())) λ(u1a0,_)=>
  .ite u1a0 (.cal bR.c (x1,2,2,()) λc2=>
   .ret ({x0 with mss:=c2.1}:Opti))<|
  .bnd (β:=Bool×Unit) (.grd (decide (0<(x1.length:Int)))<|
   .ite ((ai x1 0)==3) (.ret (((x1.length:Int)==3),()))<|
   .ret (false,())) λ(u3a0,_)=>
  .ite u3a0 (.grd (decide (2<(x1.length:Int)))<|
   .val (jZ.f (14,(IntKind.wrap .i64 (ai x1 2)),())) λc4=>
   .ret ({x0 with scale:=c4}:Opti))<|
  .bnd (β:=Bool×Unit) (.grd (decide (0<(x1.length:Int)))<|
   .ite ((ai x1 0)==4) (.ret (((x1.length:Int)==2),()))<|
   .ret (false,())) λ(u5a0,_)=>
  .ite u5a0 (.ret ({x0 with sack:=true}:Opti))<|
  .bnd (β:=Bool×Unit) (.grd (decide (0<(x1.length:Int)))<|
   .ite ((ai x1 0)==8) (.ret (((x1.length:Int)==10),()))<|
   .ret (false,())) λ(u6a0,_)=>
  .ite u6a0 (.cal bR.c (x1,2,4,()) λc7=>
   .cal bR.c (x1,6,4,()) λc8=>
   .ret ({x0 with stamp:=true,val:=c7.1,echo:=c8.1}:Opti))<|
  .ret x0
noncomputable def ZP:=bS st ZH Z2 [] (ks:=[.st .opti,.sc .str]) IX (λv=>[(true,oU v)]) Tryz.func357 trivial
noncomputable def pj:FF (Opti×Unit) (Opti):=⟨λ(x0,_)=>
  .ite x0.stamp (.ret x0)<|
  .val (bX.f (())) λc1=>
  .ret ({c1 with mss:=x0.mss}:Opti)⟩
noncomputable def Ij:=ly st Tryz.func363 [eA] (ks:=[.st .opti]) pj (λv=>[(true,oU v)])
noncomputable def Rk:FT (List Entr×Int×Unit) (Int×Bool) (λx=>sS x.1) (λ_ _=>True):= .mk λ(x0,x1,_)=>
  .cal zX.c (x0,x1,()) λc1=>
  .ite (decide (c1<0)) (.ret (0,false))<|
  .grd (cG x0 c1)<|
  .ret ((x0.getD c1.toNat (Ty.zero .entr)).hw,true)
noncomputable def acs:=a9 st Tryz.func367 [FJ] (ks:=[.sc (.sl .entr),.sc (.int .i64)]) Rk (λv=>[(false,[.c (.int .i64 v.1)]),(false,[.c (.bool v.2)])])
noncomputable def Dz:FF (Conn×Unit) (Bool):=⟨λ(x0,_)=>
  .ite (!(x0.s.data==[])) (.ret true)<|
  .ite x0.s.fin (.ret (!x0.s.done))<|
  .ret false⟩
noncomputable def Xm:=ly st Tryz.func370 [] (ks:=[.st .conn]) Dz rB
noncomputable def Ml:FF (Int×Unit) (Bool):=⟨λ(x0,_)=>
  .ite (x0 != 1) (.ret (x0 != 4))<|
  .ret false⟩
noncomputable def Wf:=ly st Tryz.func373 [] (ks:=[.sc (.int .i64)]) Ml rB
noncomputable def CJ:FF (Conn×Unit) (Int):=⟨λ(x0,_)=>
  .ite (x0.opts.mss==0) (.ret 536)<|
  .val (jZ.f (1460,x0.opts.mss,())) λc1=>
  .val (fD.f (1,c1,())) λc2=>
  .ret c2⟩
noncomputable def XV:=ly st Tryz.func376 [ot,mw] (ks:=[.st .conn]) CJ rI
def zB:Sh:=⟨[zs 0,zi 1,zi 8,zi 25,zi 26],[]⟩
noncomputable def rX (v0:aa)(v1:Int)(v4:Int)(a:Int):Tr (Stp (Int) (Empty)):=
 .grd (cG v0 (IntKind.wrap .i64 (v1+v4)))<|
 .val (bits .or .i64 (IntKind.wrap .i64 (a*256)) (IntKind.wrap .i64 (ai v0 ((IntKind.wrap .i64 (v1+v4)).toNat)))) λe3=>
 .ret (.next e3)
noncomputable def nk:zB.V→qf zB Int:=λ(v0,v1,v2,v3,v4,_)=>⟨v4,v2,λv4 a=>(v0,v1,a,v3,v4,()),λv4 _=>(decide (v4<v3)),rX v0 v1,up,1,(Int.toNat (v3-v4)),Empty.elim,Prod.mk,oN (.exit 0) ⟨[zu 6,zu 7,zi 8],[]⟩ (λx=>(x.2,()))⟩
theorem Mu {v0:aa}{v1 v2 v3 v4:Int}(h0:0≤v4)(h1:v3≤4611686018427387904)(h2:0≤v1)(h3:v1+v3≤(v0.length:Int))(h4:sS v0):(nk (v0,v1,v2,v3,v4,())).U v3 (λ_ _=>True) (λ_=>True):=
 ju (a:=v2) h0 h1 trivial
noncomputable def Az:FT (aa×Int×Int×Unit) (Int×Bool) (λx=>sS x.1) (λ_ _=>True):= .mk (λ(x0,x1,x2,_)=>
  .bnd (β:=Bool×Unit) (.val (bk.f (x2,1,6,())) λc1=>
   .ite (!c1) (.ret (true,()))<|
   .ite (decide (x1<0)) (.ret (true,()))<|
   .ret ((decide ((IntKind.wrap .i64 ((x0.length:Int)-x2))<x1)),())) λ(u2a0,_)=>
  .ite u2a0 (.ret (0,false))<|
  .lp (nk (x0,x1,0,x2,0,())).lp λ(_,a4_0)=>
  .ret (a4_0,true)) (qU @Mu)
noncomputable def SB:=eE st Tryz.func378 [(0,lb [0,1,8,25,26] [6,7,8]),(3000001,rA 0 24)] [bI] 0 nk (ks:=[.sc .str,.sc (.int .i64),.sc (.int .i64)]) Az (λv=>[(false,[.c (.int .i64 v.1)]),(false,[.c (.bool v.2)])])
noncomputable def Qu:=[ca,bI]
noncomputable def RH:Fx:=⟨380,Tryz.f380,[(3000001,rA 0 21),(3000003,rA 0 36)],0⟩
noncomputable def bj:FT (Sndr×Unit) (Bool) (λ_=>True) (λx v=>(v=true↔SO x.1)):= .mk λ(x0,_)=>
  .bnd (β:=Bool×Unit) (.cal ae.c (x0.una,32,()) λc1=>
   .ite (!c1) (.ret (true,()))<|
   .ite (decide (48<(x0.data.length:Int))) (.ret (true,()))<|
   .val (bk.f (x0.sent,0,(x0.data.length:Int),())) λc2=>
   .ret ((!c2),())) λ(u3a0,_)=>
  .ite u3a0 (.ret false)<|
  .bnd (β:=Bool×Unit) (.ite x0.finSent (.ite (!x0.fin) (.ret (true,()))<|
    .ret ((x0.sent != (x0.data.length:Int)),()))<|
   .ret (false,())) λ(u4a0,_)=>
  .ite u4a0 (.ret false)<|
  .ite (!x0.done) (.ret true)<|
  .ite x0.fin (.ite (!x0.finSent) (.ret (x0.data==[]))<|
   .ret false)<|
  .ret false
noncomputable def le:=bS st RH Qu [] (ks:=[.st .sndr]) bj rB Tryz.func380 trivial
def t7:Sh:=⟨[zp 1 0,zi 4,zi 5,zl 45 .piec,zi 46,zi 47],[zg .recv]⟩
def Cf:An:=⟨⟨[],[],false,0⟩,⟨[1,2,4],[],false,0⟩,⟨[],[]⟩,[(.normal,⟨[zp 1 0,zb 2,zi 4],[zg .recv]⟩)]⟩
noncomputable def dY (v0:Int)(v2:List Piec)(v4:Int)(a:Int):Tr (Stp (Int) ((Unit))):=
 .grd (cG v2 v4)<|
 .bnd (β:=Bool×Unit) (.ite ((v2.getD v4.toNat (Ty.zero .piec)).text==[]) (.ret (true,()))<|
  .ite (decide ((v2.getD v4.toNat (Ty.zero .piec)).off≤a)) (.ret (true,()))<|
  .val (IntKind.wrap .i64 (v0-(((v2.getD v4.toNat (Ty.zero .piec)).text).length:Int))) λe6=>
  .ret ((decide (e6<(v2.getD v4.toNat (Ty.zero .piec)).off)),())) λ(u7a0,_)=>
 .ite u7a0 (.ret (.out ()))<|
 .val (IntKind.wrap .i64 ((v2.getD v4.toNat (Ty.zero .piec)).off+(((v2.getD v4.toNat (Ty.zero .piec)).text).length:Int))) λe8=>
 .ret (.next e8)
noncomputable def fa:t7.V→tq t7 Int (Unit):=λ(v0,v1,v2,v3,v4,v5,_)=>⟨v4,v1,λv4 a=>(v0,a,v2,v3,v4,v5,()),λv4 _=>(decide (v4<v3)),dY v0 v2,up,1,(Int.toNat (v3-v4)),.inl,eR,oB .ret ⟨[zp 1 0,zb 2],[zg .recv]⟩ (λ_=>(false,v5,())) (.exit 0) ⟨[zp 1 0,zu 2],[zg .recv]⟩ (λ_=>(v5,()))⟩
theorem DA {v0 v1 v3 v4:Int}{v2:List Piec}{v5:Recv}(h0:0≤v4)(h1:v3≤4611686018427387904)(h2:v0≤32)(h3:0≤v0)(h4:sL jS v2)(h5:v3≤(v2.length:Int))(h6:0≤v1∧v1≤32∧dg (pw v0) (v2.take v4.toNat)):(fa (v0,v1,v2,v3,v4,v5,())).U v3 (λv4 a=>0≤a∧a≤32∧dg (pw v0) (v2.take v4.toNat)) (λ_=>True):=
 LC.okU (i:=v4) (a:=v1) (λ_ _=>rfl) (λ_=>rfl) rfl h0 h1 h6 λv4 v1 hj hk hv=>by
  refine Tr.G2 ?_ λ_=>Tr.B (Q':=λ_=>True) (Tr.F (by kernel_rfl) trivial) (λ(u7a0,_) _ _=>Tr.I (λ_=>Tr.Ro trivial) λ_=>Tr.V λ_ _=>Tr.Rn ?_)
  all_goals ((try simp only[Tr.nice,j5]at*)<;>grind [←ade])
noncomputable def br:FT (Recv×Unit) (Bool) (λx=>ay x.1) (λx v=>(v=true→RO x.1)∧(v=true→dg (pw (Zy x.1)) x.1.held)):=⟨λ(x0,_)=>
  .cal bB.c (x0,()) λc1=>
  .bnd (β:=Bool×Unit) (.cal ae.c (x0.next,32,()) λc2=>
   .ite (!c2) (.ret (true,()))<|
   .ite (decide (32<(x0.data.length:Int))) (.ret (true,()))<|
   .ite (decide (3<(x0.held.length:Int))) (.ret (true,()))<|
   .val (bk.f (x0.fin,(-1),c1,())) λc3=>
   .ite (!c3) (.ret (true,()))<|
   .ret ((x0.fin==0),())) λ(u4a0,_)=>
  .ite u4a0 (.ret false)<|
  .bnd (β:=Bool×Int×Recv×Unit) (.ite (x0.fin != (-1)) (.ret (false,x0.fin,x0,()))<|
   .ret (false,c1,x0,())) λ(_,u5a1,u5a2,_)=>
  .lp (fa (u5a1,0,u5a2.held,(u5a2.held.length:Int),0,u5a2,())).lp λw9=> .sum w9 (λ_=>
  .ret false)<|
  λ_=>
  .ite (!u5a2.done) (.ret true)<|
  .ite ((u5a2.held.length:Int)==0) (.ret (u5a2.fin==(-1)))<|
  .ret false,
 λ(x0,_) hp=>by
  refine Tr.C ?_ λc1 hc1 qc1=>Tr.B (Q':=λ_=>True) (Tr.C trivial λc2 hc2 qc2=>Tr.F (by kernel_rfl) trivial) (λ(u4a0,_) hj4 qj4=>Tr.I (λb0=>Tr.R ?_) λb0=>Tr.B (Q':=λw=>ay w.2.2.1∧0≤w.2.1∧w.2.1≤32∧w.2.2.1=x0∧(x0.data.length≤32→w.2.1≤Zy x0)) (Tr.I (λb1=>Tr.R ?_) λb1=>Tr.R ?_) (λ(u5a0,u5a1,u5a2,_) hj5 qj5=>Tr.L (DA ?_ ?_ ?_ ?_ ?_ ?_ ?_) (λa9_0 i9=>Tr.Sr (Tr.I (λb1=>Tr.R ?_) λb1=>Tr.I (λb2=>Tr.R ?_) λb2=>Tr.R ?_)) (λ_ hp9=>Tr.Sl (Tr.R ?_))))
  all_goals ((try simp only[fa,LC.lp,LC.ct,Ct.lp,Tr.nice,j5]at*)<;>grind [aev,afB,afk])⟩
noncomputable def td:=eE st Tryz.func381 [(0,lb [1,4,5,45,46,47] [1,2]),(1000041,Cf),(3000002,rA 0 37),(3000011,rA 0 69)] [kZ,ca,bI] 0 fa (ks:=[.st .recv]) br rB
noncomputable def nm:FT (Arpm×Unit) (Bool) (λ_=>True) (λ_ _=>True):= .mk λ(x0,_)=>
  .val (bk.f (x0.kind,1,2,())) λc1=>
  .ite c1 (.cal ae.c (x0.srcHw,48,()) λc2=>
   .ite c2 (.cal ae.c (x0.dstHw,48,()) λc3=>
    .ite c3 (.cal ae.c (x0.srcIp,32,()) λc4=>
     .ite c4 (.cal ae.c (x0.dstIp,32,()) λc5=>
      .ret c5)<|
     .ret false)<|
    .ret false)<|
   .ret false)<|
  .ret false
noncomputable def FQ:=a9 st Tryz.func383 [bI,ca] (ks:=[.st .arpm]) nm rB
noncomputable def ta:FT (List Entr×Int×Int×Unit) (Nat×List Entr) (λx=>sS x.1∧0≤x.2.1∧x.2.1≤x.2.2.1∧x.2.2.1≤x.1.length) (λx v=>sS v.2∧v.1≤x.1.length∧v.2.length=x.1.length):=⟨λ(x0,x1,x2,_)=>
  .grd ((((decide (0≤x1))&&(decide (x1≤x2)))&&(decide (x2≤(x0.length:Int))))&&(decide ((x0.length:Int)≤(x0.length:Int))))<|
  .ite (x1==x2) (.ret (x0.length,x0))<|
  .grd ((decide (0≤x1))&&(decide (x1≤(x0.length:Int))))<|
  .grd (KN x0 x2 (x0.length:Int))<|
  .grd (((Nat.ble x1.toNat x2.toNat)&&(Nat.beq ((x0.length:Int).toNat) x0.length))&&true)<|
  .val (((((x0.take x1.toNat++x0.drop x2.toNat)++x0.drop (x1.toNat+(x0.length-x2.toNat))).take (x1.toNat+(x0.length-x2.toNat))).drop 0).length:Int) λe1=>
  .grd (KN ((x0.take x1.toNat++x0.drop x2.toNat)++x0.drop (x1.toNat+(x0.length-x2.toNat))) e1 (x0.length:Int))<|
  .val ((((x0.take x1.toNat++x0.drop x2.toNat)++x0.drop (x1.toNat+(x0.length-x2.toNat))).take e1.toNat++List.replicate ((x0.length:Int).toNat-e1.toNat) (Ty.zero .entr))++((x0.take x1.toNat++x0.drop x2.toNat)++x0.drop (x1.toNat+(x0.length-x2.toNat))).drop ((x0.length:Int).toNat)) λl2=>
  .ret ((x1.toNat+(x0.length-x2.toNat)),l2),
 λ(x0,x1,x2,_) hp=>by
  refine Tr.G4 ?_ λg0=>Tr.I (λb1=>Tr.R ?_) λb1=>Tr.G2 ?_ λg2=>Tr.G3 ?_ λg3=>Tr.G ?_ λg4=>Tr.V λe1 he1=>Tr.G3 ?_ λg5=>Tr.V λl2 hl2=>Tr.R ?_
  all_goals ((first|grind|(simp only[Bool.and_eq_true,and_true,List.length_set,Nat.ble_eq,Nat.beq_eq,decide_eq_true_eq,List.length_append,List.length_take,List.length_drop,List.drop_zero,List.length_replicate,sS]at*;omega)))⟩
noncomputable def E3:=cq st ⟨384,Tryz.f384,[],1⟩ [] [] [.wr false [.own 0],.sc (.int .i64),.sc (.int .i64)] [.arr .entr] (λx y=>(y.1,x.2.1,x.2.2.1,())) ta (λv=>[(false,[.shr 0 v.1])]) (λx y v=>(v.2,())) Tryz.func384 (by kernel_rfl) trivial
noncomputable def jM:FT (Sndr×Unit) (Sndr) (λx=>bZ x.1) (λx v=>bZ v):= .mk λ(x0,_)=>
  .cal bj.c (x0,()) λc1=>
  .ite (!c1) (.ret x0)<|
  .ret ({x0 with sent:=0,finSent:=false}:Sndr)
noncomputable def TY:=a9 st Tryz.func386 [le] (ks:=[.st .sndr]) jM (λv=>[(true,uo v)])
noncomputable def nb:FT (List MacRow×Unit) (List MacRow) (λx=>sS x.1) (λx v=>v=x.1):=⟨λx=> .ret x.1,λ_ _=>Tr.R rfl⟩
theorem E5 (x:List MacRow×Unit)(hp:sS x.1):M4 Tryz.prog 387 (JY [.sc (.sl .macRow)] x) ((λv=>[rv (.sc (.sl .macRow)) [.o true] v]) (nb.f x)):=by
 refine M4.byNil (t:= .macRow) (xs:=x.1) (λh=> ?_) ?_
 ·obtain⟨x,_⟩:=x;subst h
  exact fn0 st Tryz.func387 (by kernel_rfl) (by kernel_rfl)
 ·exact fn0 st Tryz.func387 (by kernel_rfl) (Eq.trans (b:=bif Nat.ble ((2*(0+x.1.length)+1024)*24) bc then some ((λv=>[rv (.sc (.sl .macRow)) [.o true] v]) x.1)else none) (by kernel_rfl) (by rw[show Nat.ble ((2*(0+x.1.length)+1024)*24) bc=true by simp only[Nat.ble_eq,bc];simp only[sS]at hp;omega];rfl))
noncomputable def E0:Ent1 Tryz.prog:=abB 387 (ks:=[.sc (.sl .macRow)]) nb.c (λv=>[rv (.sc (.sl .macRow)) [.o true] v]) E5
noncomputable def dH:FF (Conn×Unit) (Int):=⟨λ(x0,_)=>
  .ite (x0.opts.mss==0) (.ret 536)<|
  .val (β:=Int) (if 1<(if 1460<x0.opts.mss then 1460 else x0.opts.mss)then(if 1460<x0.opts.mss then 1460 else x0.opts.mss)else 1) λe1=>
  .ret e1⟩
noncomputable def W7:=ly st Tryz.func389 [] (ks:=[.st .conn]) dH rI
noncomputable def dG:FT (Sndr×Chun×Unit) (Sndr) (λx=>bZ x.1∧qK x.2.1) (λx v=>bZ v∧(SO x.1→(x.2.1.text.length:Int)+x.1.sent≤x.1.data.length→x.1.finSent=false→(x.2.1.fin=true→x.1.fin=true∧x.1.done=false∧x.1.sent+x.2.1.text.length=x.1.data.length)→v={x.1 with sent:=x.1.sent+x.2.1.text.length,finSent:=x.2.1.fin})):= .mk λ(x0,x1,_)=>
  .ite x0.finSent (.cal bj.c (x0,()) λc1=>
   .ite (!c1) (.ret x0)<|
   .cal bj.c (({x0 with sent:=(IntKind.wrap .i64 (x0.sent+(x1.text.length:Int))),finSent:=true}:Sndr),()) λc2=>
   .ite (!c2) (.ret x0)<|
   .ite x1.fin (.ite (!x0.fin) (.ret x0)<|
    .ite x0.done (.ret x0)<|
    .ret ({x0 with sent:=(IntKind.wrap .i64 (x0.sent+(x1.text.length:Int))),finSent:=true}:Sndr))<|
   .ret ({x0 with sent:=(IntKind.wrap .i64 (x0.sent+(x1.text.length:Int))),finSent:=true}:Sndr))<|
  .cal bj.c (x0,()) λc3=>
  .ite (!c3) (.ret x0)<|
  .cal bj.c (({x0 with sent:=(IntKind.wrap .i64 (x0.sent+(x1.text.length:Int))),finSent:=x1.fin}:Sndr),()) λc4=>
  .ite (!c4) (.ret x0)<|
  .ite x1.fin (.ite (!x0.fin) (.ret x0)<|
   .ite x0.done (.ret x0)<|
   .ret ({x0 with sent:=(IntKind.wrap .i64 (x0.sent+(x1.text.length:Int))),finSent:=x1.fin}:Sndr))<|
  .ret ({x0 with sent:=(IntKind.wrap .i64 (x0.sent+(x1.text.length:Int))),finSent:=x1.fin}:Sndr)
noncomputable def T2:=a9 st Tryz.func390 [le] (ks:=[.st .sndr,.st .chun]) dG (λv=>[(true,uo v)])
def Bi:Sh:=⟨[zi 0],[]⟩
noncomputable def ul (a:Int):Tr (Stp (Int) ((Int))):=
 .ite (decide (65536≤a)) (.val (IntKind.wrap .i64 ((IntKind.wrap .i64 (a.tdiv 65536))+(a.tmod 65536))) λe1=>
  .ret (.next e1))<|
 .ret (.out a)
noncomputable def py:Bi.V→LW Bi (Int) ((Int)):=λ(v0,_)=>⟨v0,λa=>(a,()),ul,Int.toNat v0,oN (.exit 0) ⟨[zi 0,zu 2],[]⟩ (λp=>(p,()))⟩
theorem M9 {v0:Int}(h0:0≤v0∧v0≤9223372036854775807):(py (v0,())).W (λp=>0≤p∧p≤65535):=
 LW.okW (a:=v0) (λa=>0≤a∧a≤9223372036854775807) (λa=>Int.toNat a) rfl h0 λv0 hv=>by
  refine Tr.I (λb0=>Tr.V λe1 he1=>Tr.Rn ?_) λb0=>Tr.Ro ?_
  all_goals (((try subst_vars);simp only[decide_eq_true_eq,decide_eq_false_iff_not]at*;first|omega|(rw[Pa (by omega) (by omega)];omega)|grind))
noncomputable def EG:FT (Int×Unit) (Int) (λx=>x.1≤9223372036854775807) (λx v=>0≤v∧v≤65535):= .mk (λ(x0,_)=>
  .ite (decide (x0<0)) (.ret 0)<|
  .lp (py (x0,())).lp λp2a0=>
  .ret p2a0) (qU @M9)
noncomputable def Xx:=NI st Tryz.func392 [(0,lb [0] [0,2])] [] 0 py (ks:=[.sc (.int .i64)]) EG rI
def yu:Sh:=⟨[zs 0,zi 3,zi 4],[]⟩
noncomputable def iA (v0:aa)(v2:Int)(a:Int):Tr (Stp (Int) (Empty)):=
 .ite ((v2.tmod 2)==0) (.grd (cG v0 v2)<|
  .val (IntKind.wrap .i64 (a+(IntKind.wrap .i64 ((IntKind.wrap .i64 (ai v0 v2.toNat))*256)))) λe1=>
  .ret (.next e1))<|
 .grd (cG v0 v2)<|
 .ret (.next (IntKind.wrap .i64 (a+(IntKind.wrap .i64 (ai v0 v2.toNat)))))
noncomputable def kH:yu.V→qf yu Int:=λ(v0,v1,v2,_)=>⟨v2,v1,λv2 a=>(v0,a,v2,()),λv2 _=>(decide (v2<(v0.length:Int))),iA v0,up,1,(Int.toNat ((v0.length:Int)-v2)),Empty.elim,Prod.mk,oN (.exit 0) ⟨[zu 2,zi 3],[]⟩ (λx=>(x.2,()))⟩
theorem MA {v0:aa}{v1 v2:Int}(h0:0≤v2)(h1:(v0.length:Int)≤4611686018427387904)(h2:sS v0)(h3:0≤v1∧v1≤65536*v2):(kH (v0,v1,v2,())).U (v0.length:Int) (λv2 a=>0≤a∧a≤65536*v2) (λ_=>True):=
 ju (a:=v1) h0 h1 h3
noncomputable def ru:FT (aa×Unit) (Int) (λx=>sS x.1) (λx v=>0≤v∧v≤281474976710656):=⟨λ(x0,_)=>
  .lp (kH (x0,0,0,())).lp λ(_,a2_0)=>
  .ret a2_0,
 λ(x0,_) hp=>by
  refine Tr.L (MA ?_ ?_ ?_ ?_) (λa2_0 _=>Tr.R ?_) (λp=>Empty.elim p)
  all_goals ((try simp only[kH,LC.lp,LC.ct,Ct.lp]at*)<;>grind)⟩
noncomputable def Ua:=eE st Tryz.func393 [(0,lb [0,3,4] [2,3])] [] 0 kH (ks:=[.sc .str]) ru rI
noncomputable def md:FT (Pack×Unit) (Bool) (λ_=>True) (λx v=>(v=true→x.1.body.length≤1480)):= .mk λ(x0,_)=>
  .cal ae.c (x0.src,32,()) λc1=>
  .ite c1 (.cal ae.c (x0.dst,32,()) λc2=>
   .ite c2 (.val (bk.f (x0.ttl,1,255,())) λc3=>
    .ite c3 (.cal ae.c (x0.proto,8,()) λc4=>
     .ite c4 (.cal ae.c (x0.id,16,()) λc5=>
      .ite c5 (.ret (decide ((x0.body.length:Int)≤1480)))<|
      .ret false)<|
     .ret false)<|
    .ret false)<|
   .ret false)<|
  .ret false
noncomputable def RT:=a9 st Tryz.func394 [ca,bI] (ks:=[.st .pack]) md rB
noncomputable def ya:FT (Int×Opti×Unit) (Int) (λ_=>True) (λ_ _=>True):= .mk λ(x0,x1,_)=>
  .grd (decide (0≤(if x1.scale<0 then 0 else x1.scale)))<|
  .val (IntKind.wrap .i64 (x0*2 ^ (min (if x1.scale<0 then 0 else x1.scale).toNat 64))) λe1=>
  .ret (if 1073725440<e1 then 1073725440 else e1)
noncomputable def MB:=a9 st Tryz.func401 [] (ks:=[.sc (.int .i64),.st .opti]) ya rI
noncomputable def dz:FT (Sndr×Unit) (Int) (λx=>bZ x.1) (λx v=>(0≤x.1.sent∧x.1.sent≤1000→x.1.sent≤v∧v≤x.1.sent+1)):= .mk λ(x0,_)=>
  .ite x0.finSent (.ret (IntKind.wrap .i64 (x0.sent+1)))<|
  .ret x0.sent
noncomputable def rP:=a9 st Tryz.func402 [] (ks:=[.st .sndr]) dz rI
noncomputable def jD:FT (Int×Unit) (Recv) (λ_=>True) (λx v=>ay v):= .mk λ(x0,_)=>
  .val (bK.f (x0,0,())) λc1=>
  .ret (⟨c1,[],[],(-1),false⟩:Recv)
noncomputable def Hr:=a9 st Tryz.func407 [fo] (ks:=[.sc (.int .i64)]) jD (λv=>[(true,uw (.o true) v)])
noncomputable def SZ:=[ca]
noncomputable def UQ:Fx:=⟨408,Tryz.f408,[(3000001,rA 0 13)],0⟩
noncomputable def mA:FT (Int×Unit) (Int×Bool×Bool) (λ_=>True) (λ_ _=>True):= .mk λ(x0,_)=>
  .bnd (β:=Bool×Unit) (.cal ae.c (x0,32,()) λc1=>
   .ite (!c1) (.ret (true,()))<|
   .ret (((bits .and .i64 x0 32)==0),())) λ(u2a0,_)=>
  .ite u2a0 (.ret ((-1),false,false))<|
  .ite ((bits .and .i64 x0 15)==15) (.ret ((-1),((bits .and .i64 x0 16) != 0),true))<|
  .ret ((bits .and .i64 x0 15),((bits .and .i64 x0 16) != 0),true)
noncomputable def VM:=bS st UQ SZ [] (ks:=[.sc (.int .i64)]) mA (λv=>[(false,[.c (.int .i64 v.1)]),(false,[.c (.bool v.2.1)]),(false,[.c (.bool v.2.2)])]) Tryz.func408 trivial
def Bx:Sh:=⟨[zi 0],[]⟩
noncomputable def ui (a:Int):Tr (Stp (Int) ((Int))):=
 .ite (decide (65535<a)) (.val (IntKind.wrap .i64 ((IntKind.wrap .i64 (a.tdiv 65536))+(a.tmod 65536))) λe1=>
  .ret (.next e1))<|
 .ret (.out a)
noncomputable def pr:Bx.V→LW Bx (Int) ((Int)):=λ(v0,_)=>⟨v0,λa=>(a,()),ui,Int.toNat v0,oN (.exit 0) ⟨[zi 0,zu 2],[]⟩ (λp=>(p,()))⟩
theorem Nk {v0:Int}(h0:0≤v0∧v0≤9223372036854775807):(pr (v0,())).W (λp=>0≤p∧p≤65535):=
 LW.okW (a:=v0) (λa=>0≤a∧a≤9223372036854775807) (λa=>Int.toNat a) rfl h0 λv0 hv=>by
  refine Tr.I (λb0=>Tr.V λe1 he1=>Tr.Rn ?_) λb0=>Tr.Ro ?_
  all_goals (((try subst_vars);simp only[decide_eq_true_eq,decide_eq_false_iff_not]at*;first|omega|(rw[Pa (by omega) (by omega)];omega)|grind))
noncomputable def Ey:FT (Int×Unit) (Int) (λx=>x.1≤9223372036854775807) (λx v=>0≤v∧v≤65535):= .mk (λ(x0,_)=>
  .ite (decide (x0<0)) (.ret 0)<|
  .lp (pr (x0,())).lp λp2a0=>
  .ret p2a0) (qU @Nk)
noncomputable def WD:=NI st Tryz.func430 [(0,lb [0] [0,2])] [] 0 pr (ks:=[.sc (.int .i64)]) Ey rI
def y4:Sh:=⟨[zs 0,zi 3,zi 4],[]⟩
noncomputable def im (v0:aa)(v2:Int)(a:Int):Tr (Stp (Int) (Empty)):=
 .grd (cG v0 v2)<|
 .val (IntKind.wrap .i64 (a+(IntKind.wrap .i64 (256*(IntKind.wrap .i64 (ai v0 v2.toNat)))))) λe1=>
 .ite (decide ((IntKind.wrap .i64 (v2+1))<(v0.length:Int))) (.grd (cG v0 (IntKind.wrap .i64 (v2+1)))<|
  .val (IntKind.wrap .i64 (e1+(IntKind.wrap .i64 (ai v0 ((IntKind.wrap .i64 (v2+1)).toNat))))) λe2=>
  .ret (.next e2))<|
 .ret (.next e1)
noncomputable def dQ:y4.V→qf y4 Int:=λ(v0,v1,v2,_)=>⟨v2,v1,λv2 a=>(v0,a,v2,()),λv2 _=>(decide (v2<(v0.length:Int))),im v0,λv2=>IntKind.wrap .i64 (v2+2),2,(Int.toNat (((v0.length:Int)-v2+1)/2)),Empty.elim,Prod.mk,oN (.exit 0) ⟨[zu 2,zi 3],[]⟩ (λx=>(x.2,()))⟩
theorem K8 {v0:aa}{v1 v2:Int}(h0:0≤v2)(h1:(v0.length:Int)≤4611686018427387904)(h2:sS v0)(h3:0≤v1∧v1≤65536*v2):(dQ (v0,v1,v2,())).S (λv2 a=>0≤a∧a≤65536*v2) (λ_=>True):=by
 refine LC.okS h3 (λj a hj hv=>⟨⟨?_, ?_⟩, ?_⟩) (λa hv=> ?_)
 ·simp only[dQ,decide_eq_true_eq]at*;omega
 ·simp only[dQ]at*;exact aq (by omega) (by omega)
 ·refine Tr.G2 ?_ λ_=>Tr.V λ_ _=>Tr.I (λ_=>Tr.G2 ?_ λ_=>Tr.V λ_ _=>Tr.Rn ?_) λ_=>Tr.Rn ?_
  all_goals (try simp only[dQ]at*)<;>(grind)
 ·simp only[dQ,decide_eq_false_iff_not]at*;omega
noncomputable def z8:FT (aa×Unit) (Int) (λx=>sS x.1) (λx v=>0≤v∧v≤281474976710656):=⟨λ(x0,_)=>
  .lp (dQ (x0,0,0,())).lp λ(_,a3_0)=>
  .ret a3_0,
 λ(x0,_) hp=>by
  refine Tr.L (K8 ?_ ?_ ?_ ?_) (λa3_0 _=>Tr.R ?_) (λp=>Empty.elim p)
  all_goals ((try simp only[dQ,LC.lp,LC.ct,Ct.lp]at*)<;>grind)⟩
noncomputable def TZ:=eE st Tryz.func431 [(0,lb [0,3,4] [2,3])] [] 0 dQ (ks:=[.sc .str]) z8 rI
noncomputable def i2:FT (Segm×Unit) (Int) (λx=>am x.1) (λx v=>0≤v∧v≤x.1.body.length+2):= .mk λ(x0,_)=>
  .val (gn.f (x0,2,())) λc1=>
  .ite c1 (.val (gn.f (x0,1,())) λc2=>
   .ite c2 (.val (IntKind.wrap .i64 ((IntKind.wrap .i64 ((x0.body.length:Int)+1))+1)) λe3=>
    .ret e3)<|
   .ret (IntKind.wrap .i64 ((x0.body.length:Int)+1)))<|
  .val (gn.f (x0,1,())) λc4=>
  .ite c4 (.ret (IntKind.wrap .i64 ((x0.body.length:Int)+1)))<|
  .ret (x0.body.length:Int)
noncomputable def sW:=a9 st Tryz.func432 [wV] (ks:=[.st .segm]) i2 rI
noncomputable def lv:FT (Int×Unit) (Recv) (λ_=>True) (λx v=>ay v∧v.held.length≤3):= .mk λ(x0,_)=>
  .val (bQ.f (x0,())) λc1=>
  .ret (⟨c1,[],[],(-1),false⟩:Recv)
noncomputable def xt:=a9 st Tryz.func438 [gI] (ks:=[.sc (.int .i64)]) lv (λv=>[(true,uw (.o true) v)])
noncomputable def Ee:FT (Int×Unit) (Int) (λ_=>True) (λ_ _=>True):= .mk λ(x0,_)=>
  .val (ce.f (x0,0,7,())) λc1=>
  .ite (!c1) (.ret 0)<|
  .grd ((decide (0≤x0))&&(decide (x0<8)))<|
  .ret ([64,256,536,1024,1300,1400,1440,1460].getD x0.toNat 0)
noncomputable def PA:=a9 st Tryz.func439 [cy] (ks:=[.sc (.int .i64)]) Ee rI
noncomputable def gN:FT (Sndr×Unit) (Int) (λx=>bZ x.1) (λx v=>(0≤x.1.sent∧x.1.sent≤1000→x.1.sent≤v∧v≤x.1.sent+1)):= .mk λ(x0,_)=>
  .ite x0.finSent (.ret (IntKind.wrap .i64 (x0.sent+1)))<|
  .ret x0.sent
noncomputable def jg:=a9 st Tryz.func442 [] (ks:=[.st .sndr]) gN rI
noncomputable def CI:FF (Conn×Unit) (Bool):=⟨λ(x0,_)=>
  .ite (!(x0.s.data==[])) (.ret true)<|
  .ite x0.s.fin (.ret (!x0.s.done))<|
  .ret false⟩
noncomputable def Yj:=ly st Tryz.func443 [] (ks:=[.st .conn]) CI rB
noncomputable def tv:FF (Int×Int×Unit) (Int):=⟨λ(x0,x1,_)=>
  .ret (bits .and .i64 (IntKind.wrap .i64 (x0-x1)) 4294967295)⟩
@[grind=] theorem Vu (a b:Int):tv.f (a,b,())=(a-b)%4294967296:=by
 simp only[tv,FF.f,Tr.nice]
 rw[tk,di];omega
noncomputable def F6:=ly st Tryz.func445 [] (ks:=[.sc (.int .i64),.sc (.int .i64)]) tv rI
noncomputable def rD:FF (Int×Int×Unit) (Int):=⟨λ(x0,x1,_)=>
  .val (IntKind.wrap .i32 (IntKind.wrap .u32 ((IntKind.wrap .u32 x0)-(IntKind.wrap .u32 x1)))) λe1=>
  .ret (IntKind.wrap .i64 e1)⟩
noncomputable def yj:=ly st Tryz.func446 [] (ks:=[.sc (.int .i64),.sc (.int .i64)]) rD rI
noncomputable def ov:FF (Int×Int×Bool×Unit) (Int):=⟨λ(x0,x1,x2,_)=>
  .ite x2 (.val (IntKind.wrap .i64 ((IntKind.wrap .i64 ((IntKind.wrap .i64 (x0*64))+32))+16)) λe1=>
   .val (bk.f (x1,0,14,())) λc2=>
   .ite (!c2) (.ret (bits .and .i64 (IntKind.wrap .i64 (e1+15)) 4294967295))<|
   .ret (bits .and .i64 (IntKind.wrap .i64 (e1+x1)) 4294967295))<|
  .val (bk.f (x1,0,14,())) λc3=>
  .ite (!c3) (.val (IntKind.wrap .i64 ((IntKind.wrap .i64 ((IntKind.wrap .i64 (x0*64))+32))+15)) λe4=>
   .ret (bits .and .i64 e4 4294967295))<|
  .val (IntKind.wrap .i64 ((IntKind.wrap .i64 ((IntKind.wrap .i64 (x0*64))+32))+x1)) λe5=>
  .ret (bits .and .i64 e5 4294967295)⟩
noncomputable def Vj:=ly st Tryz.func450 [bI] (ks:=[.sc (.int .i64),.sc (.int .i64),.sc .bool]) ov rI
noncomputable def kV:FT (Int×Int×Unit) (Int) (λx=>0≤x.2.1) (λ_ _=>True):= .mk λ(x0,x1,_)=>
  .grd (decide (0≤x1))<|
  .grd (decide (0≤(IntKind.wrap .u64 (64-x1))))<|
  .val (bits .or .u64 (IntKind.wrap .u64 (x0*2 ^ (min x1.toNat 64))) (x0.fdiv (2 ^ (min (IntKind.wrap .u64 (64-x1)).toNat 64)))) λe1=>
  .ret e1
noncomputable def U7:=a9 st Tryz.func466 [] (ks:=[.sc (.int .u64),.sc (.int .u64)]) kV (λv=>[(false,[.c (.int .u64 v)])])
noncomputable def pc:FF (Int×Int×Int×Unit) (Bool):=⟨λ(x0,x1,x2,_)=>
  .ite (decide (0<x2)) (.val (bQ.f (x0,())) λc1=>
   .val (bQ.f (x1,())) λc2=>
   .val (bQ.f ((IntKind.wrap .i64 (c1-c2)),())) λc3=>
   .ret (decide (c3<x2)))<|
  .ret false⟩
noncomputable def wU:=ly st Tryz.func467 [gI] (ks:=[.sc (.int .i64),.sc (.int .i64),.sc (.int .i64)]) pc rB
def xy:Sh:=⟨[zi 0,zi 3,zi 4],[]⟩
noncomputable def xj (v0:Int)(v2:Int)(a:Int):Tr (Stp (Int) (Empty)):=
 .cal Ee.c (v2,()) λc1=>
 .ite (decide (c1≤v0)) (.ret (.next v2))<|
 .ret (.next a)
noncomputable def lH:xy.V→qf xy Int:=λ(v0,v1,v2,_)=>⟨v2,v1,λv2 a=>(v0,a,v2,()),λv2 _=>(decide (v2<8)),xj v0,up,1,(Int.toNat (8-v2)),Empty.elim,Prod.mk,oN (.exit 0) ⟨[zu 2,zi 3],[]⟩ (λx=>(x.2,()))⟩
theorem Id {v0 v1 v2:Int}(h0:0≤v2):(lH (v0,v1,v2,())).U 8 (λ_ _=>True) (λ_=>True):=
 ju (a:=v1) h0 (by decide) trivial
noncomputable def wh:FT (Int×Unit) (Int) (λ_=>True) (λ_ _=>True):= .mk (λ(x0,_)=>
  .lp (lH (x0,0,0,())).lp λ(_,a2_0)=>
  .ret a2_0) (qU @Id)
noncomputable def RX:=eE st Tryz.func473 [(0,lb [0,3,4] [2,3])] [PA] 0 lH (ks:=[.sc (.int .i64)]) wh rI
noncomputable def UF:=[cy,gI]
def JG:An:=⟨⟨[],[],false,0⟩,⟨[0,1,6,7],[],false,0⟩,⟨[],[]⟩,[(.normal,⟨[zi 0,zi 1,zi 6,zi 7],[]⟩)]⟩
noncomputable def UY:Fx:=⟨474,Tryz.f474,[(1000008,JG)],0⟩
noncomputable def Ai:FF (Int×Int×Bool×Unit) (Int):=⟨λ(x0,x1,x2,_)=>
  .bnd (β:=Int×Int×Int×Int×Unit) (.ite x2 (.ret (x0,x1,0,48,()))<|
   .ret (x0,x1,0,32,())) λ(u1a0,u1a1,_,u1a3,_)=>
  .val (ce.f (u1a1,0,14,())) λc2=>
  .ite c2 (.val (bQ.f (u1a0,())) λc3=>
   .val (IntKind.wrap .i64 ((IntKind.wrap .i64 (c3*64))+(IntKind.wrap .i64 (u1a3+u1a1)))) λe4=>
   .val (bQ.f (e4,())) λc5=>
   .ret c5)<|
  .val (bQ.f (u1a0,())) λc6=>
  .val (IntKind.wrap .i64 ((IntKind.wrap .i64 (c6*64))+(IntKind.wrap .i64 (u1a3+15)))) λe7=>
  .val (bQ.f (e7,())) λc8=>
  .ret c8⟩
noncomputable def VP:=YL st UY UF [] (ks:=[.sc (.int .i64),.sc (.int .i64),.sc .bool]) Ai rI Tryz.func474 trivial
noncomputable def th:FF (Int×Int×Unit) (Sipr):=⟨λ(x0,x1,_)=>
  .ret (⟨(bits .xor .u64 x0 8317987319222330741),(bits .xor .u64 x1 7237128888997146477),(bits .xor .u64 x0 7816392313619706465),(bits .xor .u64 x1 8387220255154660723)⟩:Sipr)⟩
noncomputable def Sa:=ly st Tryz.func475 [] (ks:=[.sc (.int .u64),.sc (.int .u64)]) th (λv=>[(true,Fu v)])
def Bh:Sh:=⟨[zl 0 .u8,(3,false,[.int .u64]),zi 4],[]⟩
noncomputable def Nb (v0:List Int)(v2:Int)(a:Int):Tr (Stp (Int) (Empty)):=
 .grd (cG v0 v2)<|
 .val (bits .or .u64 (IntKind.wrap .u64 (a*256)) (IntKind.wrap .u64 (v0.getD v2.toNat 0))) λe1=>
 .ret (.next e1)
noncomputable def pI:Bh.V→qf Bh Int:=λ(v0,v1,v2,_)=>⟨v2,v1,λv2 a=>(v0,a,v2,()),λv2 _=>(decide (0≤v2)),Nb v0,dn,(-1),(Int.toNat (v2-0+1)),Empty.elim,Prod.mk,oN (.exit 0) ⟨[zu 2,(3,false,[.int .u64])],[]⟩ (λx=>(x.2,()))⟩
theorem Nr {v0:List Int}{v1 v2:Int}(h0:v2≤9223372036854775807)(h1:v2<(v0.length:Int)):(pI (v0,v1,v2,())).D 0 (λv2 a=>v2<(v0.length:Int)) (λ_=>True):=
 lcD (a:=v1) h0 (by decide) h1
noncomputable def rK:FT (List Int×Unit) (Int) (λx=>sS x.1∧8≤x.1.length) (λ_ _=>True):= .mk (λ(x0,_)=>
  .lp (pI (x0,0,7,())).lp λ(_,a2_0)=>
  .ret a2_0) (qU @Nr)
noncomputable def Xk:=eE st Tryz.func477 [(0,lb [0,3,4] [2,3])] [] 0 pI (ks:=[.sc (.sl .u8)]) rK (λv=>[(false,[.c (.int .u64 v)])])
def ub:Sh:=⟨[zl 0 .bool,zb 1,zi 7,zi 8],[]⟩
noncomputable def tT (v0:List Bool)(v1:Bool)(v3:Int)(a:Unit):Tr (Stp (Unit) ((Int))):=
 .grd (cG v0 v3)<|
 .ite (v1==(v0.getD v3.toNat false)) (.ret (.out v3))<|
 .ret (.next ())
noncomputable def jV:ub.V→tq ub Unit (Int):=λ(v0,v1,v2,v3,_)=>⟨v3,(),λv3 _=>(v0,v1,v2,v3,()),λv3 _=>(decide (v3<v2)),tT v0 v1,up,1,(Int.toNat (v2-v3)),.inl,eR,oB .ret ⟨[zi 4],[]⟩ (λp=>(p,())) (.exit 0) ⟨[zu 4],[]⟩ (λ_=>())⟩
theorem DZ {v0:List Bool}{v1:Bool}{v2 v3:Int}(h0:0≤v3)(h1:v2≤4611686018427387904)(h2:v2≤(v0.length:Int)):(jV (v0,v1,v2,v3,())).U v2 (λ_ _=>True) (λp=>v3≤p∧p<v2):=
 ju h0 h1 trivial
noncomputable def qA:FT (List Bool×Bool×Unit) (Int) (λx=>wS x.1) (λx v=> -1≤v∧v<x.1.length):= .mk (λ(x0,x1,_)=>
  .lp (jV (x0,x1,(x0.length:Int),0,())).lp λw1=> .sum w1 (λp1a0=>
  .ret p1a0)<|
  λ_=>
  .ret (-1)) (qU @DZ)
noncomputable def Mz:=eE st Tryz.func479 [(0,lb [0,1,7,8] [4])] [] 0 jV (ks:=[.sc (.sl .bool),.sc .bool]) qA rI
noncomputable def yV:FT (Int×Unit) (aa) (λx=>0≤x.1∧x.1≤1048576) (λx v=>sS v):= .mk λ(x0,_)=>
  .grd ((((decide (0≤x0))&&(decide (x0=x0)))&&(decide (x0*1≤(bc:Int))))&&(decide (x0≤(bc:Int))))<|
  .ret (aw (List.replicate x0.toNat 0))
noncomputable def wL:=a9 st Tryz.func484 [] (ks:=[.sc (.int .i64)]) yV (λv=>[(false,[.c (.str v)])])
noncomputable def ri:FF (Int×Int×Unit) (Int):=⟨λ(x0,x1,_)=>
  .val (bQ.f (x0,())) λc1=>
  .val (bQ.f (x1,())) λc2=>
  .val (bQ.f ((IntKind.wrap .i64 (c1-c2)),())) λc3=>
  .ite (decide (2147483647<c3)) (.ret (IntKind.wrap .i64 (c3-4294967296)))<|
  .ret c3⟩
noncomputable def yT:=ly st Tryz.func487 [gI] (ks:=[.sc (.int .i64),.sc (.int .i64)]) ri rI
noncomputable def qQ:List (Ent1 Tryz.prog):=[]
def lU:Sh:=⟨[zp 1 0,zo 3 1,zi 4],[zg .recv,za .i64]⟩
def jW:Sh:=⟨[zp 1 0,zo 3 1,zi 5,zi 6],[zg .recv,za .i64]⟩
def lV:Sh:=⟨[zp 1 0,zo 3 1,zi 5],[zg .recv,za .i64]⟩
noncomputable def qL:Fx:=⟨489,Tryz.f489,[(0,lb [1,3,4] [1,2,3]),(4,lb [1,3,5,6] [1,2,3,5]),(2,lb [1,3,5] [2,3])],0⟩
noncomputable def xz (v0:Int)(a:List Int):Tr (Stp (List Int) (Empty)):=
 .grd (cG a v0)<|
 .ret (.next (a.set v0.toNat (-1)))
noncomputable def cr:lU.V→qf lU (List Int):=λ(v0,v1,v2,_)=>⟨v0,v2,λv0 a=>(v0,v1,a,()),λv0 a=>(decide (v0<(a.length:Int))),xz,up,1,(Int.toNat ((v2.length:Int)-v0)),Empty.elim,Prod.mk,oN (.exit 0) ⟨[zp 1 0,zu 2,zo 3 1],[zg .recv,za .i64]⟩ (λx=>(v1,x.2,()))⟩
theorem Ic:LS Tryz.prog qL [0] (gc 0 lU cr):=dd st (aL qQ) _ cr [] trivial
theorem HK {v0:Int}{v1:Recv}{v2:List Int}(h0:0≤v0)(h1:(v2.length:Int)≤4611686018427387904)(h2:sS v2)(h3:v2.length=v2.length):(cr (v0,v1,v2,())).S (λv0 a=>a.length=v2.length∧a.length=v2.length) (λ_=>True):=by
 refine LC.okS ⟨rfl,h3⟩ (λj a hj hv=>⟨⟨?_, ?_⟩, ?_⟩) (λa hv=> ?_)
 ·simp only[cr,decide_eq_true_eq]at*;omega
 ·simp only[cr]at*;exact upw (by omega) (by omega)
 ·refine Tr.G2 ?_ λ_=>Tr.Rn ?_
  all_goals (try simp only[cr]at*)<;>(grind)
 ·simp only[cr,decide_eq_false_iff_not]at*;omega
noncomputable def m8 (vb0:Int)(vb2:Recv)(a:Int×List Int):Tr (Stp (Int×List Int) ((List Int))):=
 .grd (cG vb2.held vb0)<|
 .ite (decide (a.1<(((vb2.held.getD vb0.toNat (Ty.zero .piec)).text).length:Int))) (.grd (cG vb2.held vb0)<|
  .val (IntKind.wrap .i64 ((vb2.held.getD vb0.toNat (Ty.zero .piec)).off+a.1)) λe2=>
  .grd (cG vb2.held vb0)<|
  .grd (cG ((vb2.held.getD vb0.toNat (Ty.zero .piec)).text) a.1)<|
  .val (IntKind.wrap .i64 (ai ((vb2.held.getD vb0.toNat (Ty.zero .piec)).text) a.1.toNat)) λe3=>
  .grd (cG a.2 e2)<|
  .ret (.next ((IntKind.wrap .i64 (a.1+1)),(a.2.set e2.toNat e3))))<|
 .ret (.out a.2)
noncomputable def d8:jW.V→LW jW (Int×List Int) ((List Int)):=λ(vb0,vb1,vb2,vb3,_)=>⟨(vb1,vb3),λa=>(vb0,a.1,vb2,a.2,()),m8 vb0 vb2,Int.toNat (((vb2.held.getD vb0.toNat (Ty.zero .piec)).text.length:Int)-vb1),oN (.exit 4) ⟨[zp 1 0,zu 2,zo 3 1,zi 5],[zg .recv,za .i64]⟩ (λp=>(vb0,vb2,p,()))⟩
theorem Dh:LS Tryz.prog qL [1,0] (leW 4 jW d8):=Tt st (aL qQ) _ d8 [] trivial
theorem DU {vb0 vb1:Int}{vb2:Recv}{vb3:List Int}(h0:0≤vb0)(h1:vb0<(vb2.held.length:Int))(h2:dg po vb2.held)(h3:ay vb2)(h4:0≤vb1∧vb3.length=33):(d8 (vb0,vb1,vb2,vb3,())).W (λp=>p.length=33):=
 LW.okW (a:=(vb1,vb3)) (λa=>0≤a.1∧a.2.length=33) (λa=>Int.toNat (((vb2.held.getD vb0.toNat (Ty.zero .piec)).text.length:Int)-a.1)) rfl h4 λ(vb1,vb3) hv=>by
  refine Tr.G2 ?_ λg0=>Tr.I (λb1=>Tr.G2 ?_ λg2=>Tr.V λe2 he2=>Tr.G2 ?_ λg3=>Tr.G2 ?_ λg4=>Tr.V λe3 he3=>Tr.G2 ?_ λg5=>Tr.Rn ?_) λb1=>Tr.Ro ?_
  all_goals ((have hp:=afq (i:=vb0.toNat) h2 (by omega);simp only[po]at hp;grind))
noncomputable def xG (v1:Recv)(v0:Int)(a:List Int):Tr (Stp (List Int) (Empty)):=
 .lp (d8 (v0,0,v1,a,())).lp λp4a0=>
 .ret (.next p4a0)
noncomputable def fg:lV.V→qf lV (List Int):=λ(v0,v1,v2,_)=>⟨v0,v2,λv0 a=>(v0,v1,a,()),λv0 _=>(decide (v0<(v1.held.length:Int))),xG v1,up,1,(Int.toNat ((v1.held.length:Int)-v0)),Empty.elim,Prod.mk,oN (.exit 2) ⟨[zu 2,zo 3 0],[za .i64]⟩ (λx=>(x.2,()))⟩
theorem Iz:LS Tryz.prog qL [1] (gc 2 lV fg):=dd st (aL qQ) _ fg [(leW 4 jW d8)] ⟨Dh,trivial⟩
theorem Ix {v0:Int}{v1:Recv}{v2:List Int}(h0:0≤v0)(h1:(v1.held.length:Int)≤4611686018427387904)(h2:dg po v1.held)(h3:ay v1)(h4:v2.length=33):(fg (v0,v1,v2,())).U (v1.held.length:Int) (λv0 a=>a.length=33) (λ_=>True):=
 LC.okU (i:=v0) (a:=v2) (λ_ _=>rfl) (λ_=>rfl) rfl h0 h1 h4 λv0 v2 hj hk hv=>by
  refine Tr.L (DU ?_ ?_ ?_ ?_ ?_) (λa=>Empty.elim a) (λp4a0 _=>Tr.Rn ?_)
  all_goals ((try simp only[d8,LW.lp,LW.cw,Cw.lp]at*)<;>grind)
noncomputable def wD:FT (Recv×Unit) (List Int) (λx=>ay x.1∧dg po x.1.held) (λx v=>sS v∧v.length=33):=⟨λ(x0,_)=>
  .lp (cr (0,x0,(List.replicate 33 0),())).lp λ(_,a1_0)=>
  .lp (fg (0,x0,a1_0,())).lp λ(_,a5_0)=>
  .ret a5_0,
 λ(x0,_) hp=>by
  refine Tr.L (HK ?_ ?_ ?_ ?_) (λa1_0 _=>Tr.L (Ix ?_ ?_ ?_ ?_ ?_) (λa5_0 _=>Tr.R ?_) (λp=>Empty.elim p)) (λp=>Empty.elim p)
  all_goals ((try simp only[cr,fg,LC.lp,LC.ct,Ct.lp]at*)<;>grind)⟩
noncomputable def Qo:=bS st qL qQ [(gc 0 lU cr),(gc 2 lV fg)] (ks:=[.st .recv]) wD (λv=>[(false,[sc (.o true) .i64 v])]) Tryz.func489 ⟨Ic,Iz,trivial⟩
def yh:Sh:=⟨[zl 0 .i64,zi 5],[]⟩
noncomputable def nB (v0:List Int)(v1:Int)(a:Unit):Tr (Stp (Unit) ((Unit))):=
 .grd (cG v0 v1)<|
 .ite (decide (0≤(v0.getD v1.toNat 0))) (.ret (.out ()))<|
 .ret (.next ())
noncomputable def od:yh.V→tq yh Unit (Unit):=λ(v0,v1,_)=>⟨v1,(),λv1 _=>(v0,v1,()),λv1 _=>(decide (v1<(v0.length:Int))),nB v0,up,1,(Int.toNat ((v0.length:Int)-v1)),.inl,eR,oB .ret ⟨[zb 4],[]⟩ (λ_=>(false,())) (.exit 0) ⟨[zu 4],[]⟩ (λ_=>())⟩
theorem J5 {v0:List Int}{v1:Int}(h0:0≤v1)(h1:(v0.length:Int)≤4611686018427387904):(od (v0,v1,())).U (v0.length:Int) (λ_ _=>True) (λ_=>True):=
 ju h0 h1 trivial
noncomputable def vc:FT (List Int×Int×Unit) (Bool) (λx=>sS x.1∧0≤x.2.1) (λ_ _=>True):= .mk (λ(x0,x1,_)=>
  .lp (od (x0,x1,())).lp λw1=> .sum w1 (λ_=>
  .ret false)<|
  λ_=>
  .ret true) (qU @J5)
noncomputable def Vq:=eE st Tryz.func490 [(0,lb [0,5] [4])] [] 0 od (ks:=[.sc (.sl .i64),.sc (.int .i64)]) vc rB
def uM:Sh:=⟨[zl 0 .i64,zi 1,zo 5 0,zi 6],[za .piec]⟩
noncomputable def cD (v0:List Int)(v1:Int)(v2:Int)(a:List Piec):Tr (Stp (List Piec) (Empty)):=
 .grd (cG v0 v2)<|
 .ite (decide ((v0.getD v2.toNat 0)<0)) (.ret (.next a))<|
 .bnd (β:=Bool×Unit) (.ite (decide (0<(a.length:Int))) (.grd (cG a (IntKind.wrap .i64 ((a.length:Int)-1)))<|
   .val ((a.getD (IntKind.wrap .i64 ((a.length:Int)-1)).toNat (Ty.zero .piec)).off) λe1=>
   .grd (cG a (IntKind.wrap .i64 ((a.length:Int)-1)))<|
   .val ((a.getD (IntKind.wrap .i64 ((a.length:Int)-1)).toNat (Ty.zero .piec)).text) λe2=>
   .ret (((IntKind.wrap .i64 (e1+(e2.length:Int)))==(IntKind.wrap .i64 (v2-v1))),()))<|
  .ret (false,())) λ(u3a0,_)=>
 .ite u3a0 (.grd (cG a (IntKind.wrap .i64 ((a.length:Int)-1)))<|
  .val ((a.getD (IntKind.wrap .i64 ((a.length:Int)-1)).toNat (Ty.zero .piec)).text) λe4=>
  .grd (cG v0 v2)<|
  .grd (Nat.ble (e4.length+(aw [(IntKind.wrap .u8 (v0.getD v2.toNat 0))]).length) ao)<|
  .grd (cG a (IntKind.wrap .i64 ((a.length:Int)-1)))<|
  .val (a.set (IntKind.wrap .i64 ((a.length:Int)-1)).toNat (⟨(a.getD (IntKind.wrap .i64 ((a.length:Int)-1)).toNat (Ty.zero .piec)).off,(e4++(aw [(IntKind.wrap .u8 (v0.getD v2.toNat 0))]))⟩:Piec)) λl5=>
  .ret (.next l5))<|
 .grd (cG v0 v2)<|
 .grd (px a 1 24)<|
 .val (a++[(⟨(IntKind.wrap .i64 (v2-v1)),(aw [(IntKind.wrap .u8 (v0.getD v2.toNat 0))])⟩:Piec)]) λl6=>
 .ret (.next l6)
noncomputable def il:uM.V→qf uM (List Piec):=λ(v0,v1,v2,v3,_)=>⟨v2,v3,λv2 a=>(v0,v1,v2,a,()),λv2 _=>(decide (v2<(v0.length:Int))),cD v0 v1,up,1,(Int.toNat ((v0.length:Int)-v2)),Empty.elim,Prod.mk,oN (.exit 0) ⟨[zu 4,zo 5 0],[za .piec]⟩ (λx=>(x.2,()))⟩
theorem Fr {v0:List Int}{v1 v2:Int}{v3:List Piec}(h0:0≤v2)(h1:(v0.length:Int)≤4611686018427387904)(h2:sS v0)(h3:(v3.length:Int)≤v2∧dg (pl v2) v3):(il (v0,v1,v2,v3,())).U (v0.length:Int) (λv2 a=>(a.length:Int)≤v2∧dg (pl v2) a) (λ_=>True):=
 LC.okU (i:=v2) (a:=v3) (λ_ _=>rfl) (λ_=>rfl) rfl h0 h1 h3 λv2 v3 hj hk hv=>by
  refine Tr.G2 ?_ λg0=>Tr.I (λb1=>Tr.Rn ?_) λb1=>Tr.B (Q':=λw=>(w.1=true→0<v3.length)) (Tr.I (λb2=>Tr.G2 ?_ λg3=>Tr.V λe1 he1=>Tr.G2 ?_ λg4=>Tr.V λe2 he2=>Tr.R ?_) λb2=>Tr.R ?_) (λ(u3a0,_) hj3 qj3=>Tr.I (λb2=>Tr.G2 ?_ λg3=>Tr.V λe4 he4=>Tr.G2 ?_ λg4=>Tr.Gb ?_ λg5=>Tr.G2 ?_ λg6=>Tr.V λl5 hl5=>Tr.Rn ?_) λb2=>Tr.G2 ?_ λg3=>Tr.Gb ?_ λg4=>Tr.V λl6 hl6=>Tr.Rn ?_)
  all_goals ((try simp only[Tr.nice,j5]at*)<;>(have hp:=ae0 hv.2 (show(0:Int)≤v2 by omega);have hu:=afA hv.2;have hw:0<v3.length→IntKind.wrap .i64 ((v3.length:Int)-1)=v3.length-1:=λh=>aq (by omega) (by simp only[sS]at h2;omega);have hq:=hp (IntKind.wrap .i64 ((v3.length:Int)-1)).toNat;(try rw[←he4]at hq);clear hj hp;first|omega|(simp only[bC,List.length_cons,List.length_nil,ao,sS]at*;omega)|(subst hl5;exact⟨by rw[List.length_set];omega,ae2 hu (by simp only[pl,List.length_append,bC,List.length_cons,List.length_nil];omega)⟩)|(subst hl6;exact⟨by simp only[List.length_append,List.length_cons,List.length_nil];omega,adh hu (by simp only[pl,bC,List.length_cons,List.length_nil];omega)⟩)|grind))
noncomputable def pP:FT (List Int×Int×Unit) (List Piec) (λx=>sS x.1∧0≤x.2.1∧x.2.1≤4294967296) (λx v=>sL jS v):=⟨λ(x0,x1,_)=>
  .lp (il (x0,x1,x1,[],())).lp λ(_,a7_0)=>
  .ret a7_0,
 λ(x0,x1,_) hp=>by
  refine Tr.L (Fr ?_ ?_ ?_ ?_) (λa7_0 i7=>Tr.R ?_) (λp=>Empty.elim p)
  all_goals ((try simp only[il,LC.lp,LC.ct,Ct.lp]at*)<;>grind [afJ])⟩
noncomputable def Oe:=eE st Tryz.func491 [(0,lb [0,1,5,6] [4,5]),(3000007,rA 0 44)] [] 0 il (ks:=[.sc (.sl .i64),.sc (.int .i64)]) pP (λv=>[(false,[sc (.o true) .piec v])])
noncomputable def Qb:List (Ent1 Tryz.prog):=[]
def HT:An:=⟨⟨[],[],false,0⟩,⟨[1,2],[],false,0⟩,⟨[],[]⟩,[(.ret,⟨[zp 1 0,zi 2],[zg .conn]⟩),(.normal,⟨[zp 1 0,zi 2],[zg .conn]⟩)]⟩
noncomputable def Rg:Fx:=⟨492,Tryz.f492,[(1000005,HT),(3000006,rA 0 12)],0⟩
noncomputable def vH:FT (Conn×Unit) (Int) (λx=>ac x.1) (λ_ _=>True):= .mk λ(x0,_)=>
  .bnd (β:=(Int×Conn×Unit)⊕(Int×Conn×Unit)) (.as (Sum.elim (λw=>ac w.2.1) (λw=>ac w.2.1)) (.ite (x0.state==1) (.ite x0.r.done (.ret (.inl (4,x0,())))<|
    .ret (.inr ((0,x0,()))))<|
   .ite (x0.state==2) (.bnd (β:=Bool×Unit) (.ite x0.s.done (.ret (x0.r.done,()))<|
     .ret (false,())) λ(u1a0,_)=>
    .ite u1a0 (.ret (.inl (7,x0,())))<|
    .ite x0.s.done (.ret (.inl (3,x0,())))<|
    .ite x0.r.done (.ret (.inl (5,x0,())))<|
    .ret (.inr ((0,x0,()))))<|
   .ite (x0.state==3) (.ite x0.r.done (.ret (.inl (7,x0,())))<|
    .ret (.inr ((0,x0,()))))<|
   .ite (x0.state==5) (.ite x0.s.done (.ret (.inl (7,x0,())))<|
    .ret (.inr ((0,x0,()))))<|
   .ite (x0.state==6) (.ite x0.s.done (.ret (.inl (8,x0,())))<|
    .ret (.inr ((0,x0,()))))<|
   .ret (.inr ((0,x0,()))))) λw2=> .sum w2 (λ(u2a0,_,_)=>
  .ret u2a0)<|
  λ(_,u2b1,_)=>
  .ret u2b1.state
noncomputable def Qw:=bS st Rg Qb [] (ks:=[.st .conn]) vH rI Tryz.func492 trivial
noncomputable def dB:FT (Int×Int×Unit) (Int) (λ_=>True) (λ_ _=>True):= .mk λ(x0,x1,_)=>
  .grd (decide (0≤(bits .and .u64 (IntKind.wrap .u64 x1) 63)))<|
  .val (IntKind.wrap .u64 (x0*2 ^ (min (bits .and .u64 (IntKind.wrap .u64 x1) 63).toNat 64))) λe1=>
  .grd (decide (0≤(IntKind.wrap .u64 (64-(bits .and .u64 (IntKind.wrap .u64 x1) 63)))))<|
  .val (x0.fdiv (2 ^ (min (IntKind.wrap .u64 (64-(bits .and .u64 (IntKind.wrap .u64 x1) 63))).toNat 64))) λe2=>
  .ret (bits .or .u64 e1 e2)
noncomputable def ET:=a9 st Tryz.func497 [] (ks:=[.sc (.int .u64),.sc (.int .i64)]) dB (λv=>[(false,[.c (.int .u64 v)])])
noncomputable def Qn:=[yJ]
noncomputable def Ri:Fx:=⟨46,Tryz.f46,[(3000003,rA 0 14)],0⟩
noncomputable def wv:FT (Keys×Int×Unit) (Mac×Bool) (λx=>cU x.1) (λx v=>dV v.1):= .mk λ(x0,x1,_)=>
  .ite (x1==x0.epoch) (.cal kS.c (x0.now,()) λc1=>
   .ret (c1,true))<|
  .bnd (β:=Bool×Unit) (.ite x0.two (.ret ((x1==(IntKind.wrap .i64 (x0.epoch-1))),()))<|
   .ret (false,())) λ(u2a0,_)=>
  .ite u2a0 (.cal kS.c (x0.before,()) λc3=>
   .ret (c3,true))<|
  .ret ((⟨false,0,0,[]⟩:Mac),false)
noncomputable def Rl:=bS st Ri Qn [] (ks:=[.st .keys,.sc (.int .i64)]) wv (λv=>[(true,KS (.o true) v.1),(false,[.c (.bool v.2)])]) Tryz.func46 trivial
noncomputable def oS:FT (List Issu×Issu×Unit) (Bool) (λx=>x.1.length≤274877906944) (λ_ _=>True):= .mk λ(x0,x1,_)=>
  .cal pB.c (x0,x1,()) λc1=>
  .ret (decide (0≤c1))
noncomputable def Cb:=a9 st Tryz.func48 [H9] (ks:=[.sc (.sl .issu),.st .issu]) oS rB
noncomputable def fL:FT (Limi×Unit) (Bool) (λ_=>True) (λx v=>(v=true→x.1.halves≤64∧x.1.waiting≤16∧x.1.conns≤16)):= .mk λ(x0,_)=>
  .val (bk.f (x0.halves,1,64,())) λc1=>
  .ite c1 (.val (bk.f (x0.waiting,1,16,())) λc2=>
   .ite c2 (.val (bk.f (x0.conns,1,16,())) λc3=>
    .ite c3 (.val (bk.f (x0.chal,0,1000,())) λc4=>
     .ret c4)<|
    .ret false)<|
   .ret false)<|
  .ret false
noncomputable def Re:=a9 st Tryz.func66 [bI] (ks:=[.st .limi]) fL rB
noncomputable def iE:FT (List Tupl×Tupl×Unit) (Bool) (λx=>sS x.1) (λ_ _=>True):= .mk λ(x0,x1,_)=>
  .cal lr.c (x0,x1,()) λc1=>
  .ret (decide (0≤c1))
noncomputable def rZ:=a9 st Tryz.func74 [xA] (ks:=[.sc (.sl .tupl),.st .tupl]) iE rB
noncomputable def bJ:FF (Int×Int×Unit) (Int):=⟨λ(x0,x1,_)=>
  .val (bQ.f (x0,())) λc1=>
  .val (bQ.f (x1,())) λc2=>
  .val (bQ.f ((IntKind.wrap .i64 (c1+c2)),())) λc3=>
  .ret c3⟩
noncomputable def dh:=ly st Tryz.func101 [gI] (ks:=[.sc (.int .i64),.sc (.int .i64)]) bJ rI
noncomputable def mD:FT (Link×Unit) (Link) (λx=>fb x.1) (λx v=>fb v):= .mk λ(x0,_)=>
  .cal gL.c (x0.cache,()) λc1=>
  .ret ({x0 with cache:=c1}:Link)
noncomputable def Be:=a9 st Tryz.func115 [xx] (ks:=[.st .link]) mD (λv=>[(true,BJ (.o true) v)])
noncomputable def aI:FT (Int×Int×Unit) (Bool) (λ_=>True) (λx v=>(x.2.1=32→(v=true↔0≤x.1∧x.1≤4294967295))∧(x.2.1=16→(v=true↔0≤x.1∧x.1≤65535))∧(x.2.1=48→(v=true↔0≤x.1∧x.1≤281474976710655))∧(x.2.1=8→(v=true↔0≤x.1∧x.1≤255))∧(x.2.1=6→(v=true↔0≤x.1∧x.1≤63))):=⟨λ(x0,x1,_)=>
  .val (ce.f (x1,1,62,())) λc1=>
  .ite c1 (.grd (decide (0≤(IntKind.wrap .u64 x1)))<|
   .val (IntKind.wrap .i64 ((IntKind.wrap .i64 (1*2 ^ (min (IntKind.wrap .u64 x1).toNat 64)))-1)) λe2=>
   .val (ce.f (x0,0,e2,())) λc3=>
   .ret c3)<|
  .ret false,
 λ(x0,x1,_) hp=>by
  refine Tr.V λ_ _=>Tr.I (λ_=>Tr.G1 ?_ λ_=>Tr.V λ_ _=>Tr.V λ_ _=>Tr.R ?_) λ_=>Tr.R ?_
  all_goals (grind [Us])⟩
@[grind=] theorem UV (x:Int):aI.f (x,32,())=(decide (0≤x)&&decide (x≤4294967295)):=by
 have h:=aI.c.h (x,32,()) trivial
 rw[Bool.eq_iff_iff]
 grind
@[grind=] theorem UA (x:Int):aI.f (x,16,())=(decide (0≤x)&&decide (x≤65535)):=by
 have h:=aI.c.h (x,16,()) trivial
 rw[Bool.eq_iff_iff]
 grind
@[grind=] theorem ad1 (x:Int):aI.f (x,48,())=(decide (0≤x)&&decide (x≤281474976710655)):=by
 have h:=aI.c.h (x,48,()) trivial
 rw[Bool.eq_iff_iff]
 grind
@[grind=] theorem afd (x:Int):aI.f (x,8,())=(decide (0≤x)&&decide (x≤255)):=by
 have h:=aI.c.h (x,8,()) trivial
 rw[Bool.eq_iff_iff]
 grind
@[grind=] theorem ae6 (x:Int):aI.f (x,6,())=(decide (0≤x)&&decide (x≤63)):=by
 have h:=aI.c.h (x,6,()) trivial
 rw[Bool.eq_iff_iff]
 grind
noncomputable def cc:=a9 st Tryz.func118 [cy] (ks:=[.sc (.int .i64),.sc (.int .i64)]) aI rB
noncomputable def Fo:=[cy]
def oh:Sh:=⟨[zp 1 0,zi 3,zi 4],[zg .mac]⟩
def ra:Sh:=⟨[zp 1 0,zi 3],[zg .mac]⟩
noncomputable def FN:Fx:=⟨119,Tryz.f119,[(2,lb [1,3,4] [1,2,3]),(0,lb [1,3] [1,2])],0⟩
noncomputable def sH (vb0:Int)(vb2:Mac)(vb1:Int)(a:Unit):Tr (Stp (Unit) ((Unit))):=
 .grd (cG vb2.rows vb1)<|
 .grd (cG vb2.rows vb0)<|
 .ite ((vb2.rows.getD vb1.toNat (Ty.zero .macRow)).input==(vb2.rows.getD vb0.toNat (Ty.zero .macRow)).input) (.ret (.out ()))<|
 .ret (.next ())
noncomputable def fX:oh.V→tq oh Unit (Unit):=λ(vb0,vb1,vb2,_)=>⟨vb1,(),λvb1 _=>(vb0,vb1,vb2,()),λvb1 _=>(decide (vb1<vb0)),sH vb0 vb2,up,1,(Int.toNat (vb0-vb1)),.inl,eR,oB .ret ⟨[zp 1 0,zb 2,zi 3],[zg .mac]⟩ (λ_=>(false,vb0,vb2,())) (.exit 2) ⟨[zp 1 0,zu 2,zi 3],[zg .mac]⟩ (λ_=>(vb0,vb2,()))⟩
theorem LF:LS Tryz.prog FN [0,0] (gc 2 oh fX):=dd st (aL Fo) _ fX [] trivial
theorem J7 {vb0 vb1:Int}{vb2:Mac}(h0:0≤vb1)(h1:vb0≤4611686018427387904)(h2:vb0≤(vb2.rows.length:Int))(h3:0≤vb0)(h4:vb0<(vb2.rows.length:Int)):(fX (vb0,vb1,vb2,())).U vb0 (λ_ _=>True) (λ_=>True):=
 ju h0 h1 trivial
noncomputable def vL (v1:Mac)(v0:Int)(a:Unit):Tr (Stp (Unit) ((Unit))):=
 .grd (cG v1.rows v0)<|
 .val (ce.f ((v1.rows.getD v0.toNat (Ty.zero .macRow)).value,0,16777215,())) λc1=>
 .ite (!c1) (.ret (.out ()))<|
 .lp (fX (v0,0,v1,())).lp λw2=> .sum w2 (λ_=>
 .ret (.out ()))<|
 λ_=>
 .ret (.next ())
noncomputable def ld:ra.V→tq ra Unit (Unit):=λ(v0,v1,_)=>⟨v0,(),λv0 _=>(v0,v1,()),λv0 _=>(decide (v0<(v1.rows.length:Int))),vL v1,up,1,(Int.toNat ((v1.rows.length:Int)-v0)),.inl,eR,oB .ret ⟨[zp 1 0,zb 2],[zg .mac]⟩ (λ_=>(false,v1,())) (.exit 0) ⟨[zp 1 0,zu 2],[zg .mac]⟩ (λ_=>(v1,()))⟩
theorem Qz:LS Tryz.prog FN [0] (gc 0 ra ld):=dd st (aL Fo) _ ld [(gc 2 oh fX)] ⟨LF,trivial⟩
theorem Qe {v0:Int}{v1:Mac}(h0:0≤v0)(h1:(v1.rows.length:Int)≤4611686018427387904)(h2:dV v1):(ld (v0,v1,())).U (v1.rows.length:Int) (λ_ _=>True) (λ_=>True):=
 LC.okU (i:=v0) (a:=()) (λ_ _=>rfl) (λ_=>rfl) rfl h0 h1 trivial λv0 _ hj hk hv=>by
  refine Tr.G2 ?_ λ_=>Tr.V λ_ _=>Tr.I (λ_=>Tr.Ro trivial) λ_=>Tr.L (J7 ?_ ?_ ?_ ?_ ?_) (λ_ _=>Tr.Sr (Tr.Rn trivial)) (λ_ _=>Tr.Sl (Tr.Ro trivial))
  all_goals ((try simp only[fX,LC.lp,LC.ct,Ct.lp]at*)<;>grind)
noncomputable def uc:FT (Mac×Unit) (Bool) (λx=>dV x.1) (λx v=>(v=true→x.1.rows.length≤64)):= .mk (λ(x0,_)=>
  .ite (!x0.use) (.ret ((x0.rows.length:Int)==0))<|
  .lp (ld (0,x0,())).lp λw3=> .sum w3 (λ_=>
  .ret false)<|
  λ_=>
  .ite (x0.k==0) (.ite (x0.l==0) (.ret (decide ((x0.rows.length:Int)≤64)))<|
   .ret false)<|
  .ret false) (qU @Qe)
noncomputable def Ff:=bS st FN Fo [(gc 0 ra ld)] (ks:=[.st .mac]) uc rB Tryz.func119 ⟨Qz,trivial⟩
noncomputable def k7:FT (Tupl×Unit) (Bool) (λ_=>True) (λ_ _=>True):= .mk λ(x0,_)=>
  .cal aI.c (x0.ip,32,()) λc1=>
  .ite c1 (.cal aI.c (x0.port,16,()) λc2=>
   .ite c2 (.cal aI.c (x0.my,16,()) λc3=>
    .ret c3)<|
   .ret false)<|
  .ret false
noncomputable def pW:=a9 st Tryz.func128 [cc] (ks:=[.st .tupl]) k7 rB
noncomputable def dF:FT (Conn×Unit) (Conn) (λx=>ac x.1) (λx v=>ac v∧v=x.1):=⟨λ(x0,_)=>
  .cal eb.c (x0.r,()) λc1=>
  .ret ({x0 with r.next:=c1.next,r.data:=c1.data,r.held:=c1.held,r.fin:=c1.fin,r.done:=c1.done}:Conn),
 λ(x0,_) hp=>by
  refine Tr.C ?_ λc1 hc1 qc1=>Tr.R ?_
  all_goals ((first|grind|(refine⟨by grind, ?_⟩;first|(simp only[List.nil_append];done)|(subst_vars;rfl)|simp_all)))⟩
noncomputable def dJ:=a9 st Tryz.func139 [zc] (ks:=[.st .conn]) dF (λv=>[(true,fh (.o true) v)])
def zy:Sh:=⟨[zl 0 .entr,zi 3],[]⟩
noncomputable def tj (v0:List Entr)(v1:Int)(a:Unit):Tr (Stp (Unit) ((Unit))):=
 .grd (cG v0 v1)<|
 .cal aI.c ((v0.getD v1.toNat (Ty.zero .entr)).ip,32,()) λc1=>
 .ite (!c1) (.ret (.out ()))<|
 .cal aI.c ((v0.getD v1.toNat (Ty.zero .entr)).hw,48,()) λc2=>
 .ite (!c2) (.ret (.out ()))<|
 .val (ce.f ((v0.getD v1.toNat (Ty.zero .entr)).age,0,9,())) λc3=>
 .ite (!c3) (.ret (.out ()))<|
 .grd ((decide (0≤v1))&&(decide (v1≤(v0.length:Int))))<|
 .cal zX.c (((v0.take v1.toNat).drop 0),(v0.getD v1.toNat (Ty.zero .entr)).ip,()) λc4=>
 .ite (decide (0≤c4)) (.ret (.out ()))<|
 .ret (.next ())
noncomputable def nW:zy.V→tq zy Unit (Unit):=λ(v0,v1,_)=>⟨v1,(),λv1 _=>(v0,v1,()),λv1 _=>(decide (v1<(v0.length:Int))),tj v0,up,1,(Int.toNat ((v0.length:Int)-v1)),.inl,eR,oB .ret ⟨[zl 0 .entr,zb 2],[]⟩ (λ_=>(v0,false,())) (.exit 0) ⟨[zl 0 .entr,zu 2],[]⟩ (λ_=>(v0,()))⟩
theorem LA {v0:List Entr}{v1:Int}(h0:0≤v1)(h1:(v0.length:Int)≤4611686018427387904)(h2:sS v0):(nW (v0,v1,())).U (v0.length:Int) (λ_ _=>True) (λ_=>True):=
 ju h0 h1 trivial
noncomputable def uK:FT (List Entr×Unit) (Bool) (λx=>sS x.1) (λx v=>(v=true→x.1.length≤4)):= .mk (λ(x0,_)=>
  .lp (nW (x0,0,())).lp λw5=> .sum w5 (λ_=>
  .ret false)<|
  λ_=>
  .ret (decide ((x0.length:Int)≤4))) (qU @LA)
noncomputable def Gx:=eE st Tryz.func152 [(0,lb [0,3] [0,2])] [cc,cy,FJ] 0 nW (ks:=[.sc (.sl .entr)]) uK rB
def yH:Sh:=⟨[zl 0 .entr,zl 10 .entr,zi 11,zi 12],[]⟩
noncomputable def eV (v0 v1:List Entr)(v3:Int)(a:Unit):Tr (Stp (Unit) ((Unit))):=
 .grd (cG v1 v3)<|
 .bnd (β:=Bool×Unit) (.cal ae.c ((v1.getD v3.toNat (Ty.zero .entr)).ip,32,()) λc1=>
  .ite (!c1) (.ret (true,()))<|
  .cal ae.c ((v1.getD v3.toNat (Ty.zero .entr)).hw,48,()) λc2=>
  .ite (!c2) (.ret (true,()))<|
  .val (bk.f ((v1.getD v3.toNat (Ty.zero .entr)).age,0,9,())) λc3=>
  .ret ((!c3),())) λ(u4a0,_)=>
 .ite u4a0 (.ret (.out ()))<|
 .grd ((decide (0≤v3))&&(decide (v3≤(v0.length:Int))))<|
 .cal B0.c (((v0.take v3.toNat).drop 0),(v1.getD v3.toNat (Ty.zero .entr)).ip,()) λc5=>
 .ite c5.2 (.ret (.out ()))<|
 .ret (.next ())
noncomputable def kx:yH.V→tq yH Unit (Unit):=λ(v0,v1,v2,v3,_)=>⟨v3,(),λv3 _=>(v0,v1,v2,v3,()),λv3 _=>(decide (v3<v2)),eV v0 v1,up,1,(Int.toNat (v2-v3)),.inl,eR,oB .ret ⟨[zb 2],[]⟩ (λ_=>(false,())) (.exit 0) ⟨[zu 2],[]⟩ (λ_=>())⟩
theorem JA {v0 v1:List Entr}{v2 v3:Int}(h0:0≤v3)(h1:v2≤4611686018427387904)(h2:sS v0)(h3:sS v1)(h4:v2≤(v1.length:Int))(h5:v2≤(v0.length:Int)):(kx (v0,v1,v2,v3,())).U v2 (λ_ _=>True) (λ_=>True):=
 ju h0 h1 trivial
noncomputable def gl:FT (List Entr×Unit) (Bool) (λx=>sS x.1) (λx v=>(v=true→x.1.length≤4)):= .mk (λ(x0,_)=>
  .ite (decide (4<(x0.length:Int))) (.ret false)<|
  .lp (kx (x0,x0,(x0.length:Int),0,())).lp λw6=> .sum w6 (λ_=>
  .ret false)<|
  λ_=>
  .ret true) (qU @JA)
noncomputable def GO:=eE st Tryz.func155 [(0,lb [0,10,11,12] [2]),(3000006,rA 0 32)] [ca,bI,Tw] 0 kx (ks:=[.sc (.sl .entr)]) gl rB
noncomputable def fF:FT (Mac×Mac×Unit) (Bool) (λx=>dV x.1∧dV x.2.1) (λ_ _=>True):= .mk λ(x0,x1,_)=>
  .ite (x0.use==x1.use) (.ite (x0.k==x1.k) (.ite (x0.l==x1.l) (.cal nC.c (x0.rows,x1.rows,()) λc1=>
     .ret c1)<|
    .ret false)<|
   .ret false)<|
  .ret false
noncomputable def Gd:=a9 st Tryz.func162 [F1] (ks:=[.st .mac,.st .mac]) fF rB
noncomputable def Qk:=[mM,ca,bI,kJ]
noncomputable def Qa:Fx:=⟨188,Tryz.f188,[(3000001,rA 0 26)],0⟩
noncomputable def fN:FT (Tupl×Int×Int×Int×Unit) (aa) (λ_=>True) (λx v=>sS v∧v.length≤40):=⟨λ(x0,x1,x2,x3,_)=>
  .bnd (β:=Bool×Unit) (.cal aG.c (x0,()) λc1=>
   .ite (!c1) (.ret (true,()))<|
   .cal ae.c (x1,32,()) λc2=>
   .ite (!c2) (.ret (true,()))<|
   .cal ae.c (x2,32,()) λc3=>
   .ite (!c3) (.ret (true,()))<|
   .val (bk.f (x3,0,7,())) λc4=>
   .ret ((!c4),())) λ(u5a0,_)=>
  .ite u5a0 (.ret [])<|
  .cal aA.c (x0.ip,4,()) λc6=>
  .cal aA.c (x0.port,2,()) λc7=>
  .grd (Nat.ble (c6.length+c7.length) ao)<|
  .cal aA.c (x0.my,2,()) λc8=>
  .grd (Nat.ble ((c6++c7).length+c8.length) ao)<|
  .cal aA.c (x1,4,()) λc9=>
  .grd (Nat.ble (((c6++c7)++c8).length+c9.length) ao)<|
  .cal aA.c (x2,4,()) λc10=>
  .grd (Nat.ble ((((c6++c7)++c8)++c9).length+c10.length) ao)<|
  .cal aA.c (x3,1,()) λc11=>
  .grd (Nat.ble (((((c6++c7)++c8)++c9)++c10).length+c11.length) ao)<|
  .ret (((((c6++c7)++c8)++c9)++c10)++c11),
 λ(x0,x1,x2,x3,_) hp=>by
  refine Tr.B (Q':=λ_=>True) (Tr.C trivial λc1 hc1 qc1=>Tr.I (λb0=>Tr.R trivial) λb0=>Tr.C trivial λc2 hc2 qc2=>Tr.I (λb1=>Tr.R trivial) λb1=>Tr.C trivial λc3 hc3 qc3=>Tr.F (by kernel_rfl) trivial) (λ(u5a0,_) hj5 qj5=>Tr.I (λb0=>Tr.R ?_) λb0=>Tr.C trivial λc6 hc6 qc6=>Tr.C trivial λc7 hc7 qc7=>Tr.Gb ?_ λg1=>Tr.C trivial λc8 hc8 qc8=>Tr.Gb ?_ λg2=>Tr.C trivial λc9 hc9 qc9=>Tr.Gb ?_ λg3=>Tr.C trivial λc10 hc10 qc10=>Tr.Gb ?_ λg4=>Tr.C trivial λc11 hc11 qc11=>Tr.Gb ?_ λg5=>Tr.R ?_)
  all_goals ((try simp only[Tr.nice,j5]at*)<;>(first|(simp only[List.length_append,List.length_cons,List.length_nil,ao,sS]at*;omega)|grind))⟩
noncomputable def Qd:=bS st Qa Qk [] (ks:=[.st .tupl,.sc (.int .i64),.sc (.int .i64),.sc (.int .i64)]) fN (λv=>[(false,[.c (.str v)])]) Tryz.func188 trivial
noncomputable def gg:FT (Recv×Unit) (Recv) (λx=>ay x.1) (λx v=>ay v∧v=x.1):=⟨λ(x0,_)=>
  .cal pm.c (x0.held,()) λc1=>
  .ret ({x0 with held:=c1}:Recv),
 λ(x0,_) hp=>by
  refine Tr.C ?_ λc1 hc1 qc1=>Tr.R ?_
  all_goals ((first|grind|(refine⟨by grind, ?_⟩;first|(simp only[List.nil_append];done)|(subst_vars;rfl)|simp_all)))⟩
noncomputable def n3:=a9 st Tryz.func203 [HB] (ks:=[.st .recv]) gg (λv=>[(true,uw (.o true) v)])
def ye:Sh:=⟨[zi 1,zi 2,zo 7 0,zi 9,zi 10],[za .entr]⟩
noncomputable def J0 (v4:List Entr)(v3:Int)(a:Int):Tr (Stp (Int) (Empty)):=
 .grd (cG v4 v3)<|
 .grd (cG v4 a)<|
 .ite (decide ((v4.getD a.toNat (Ty.zero .entr)).age<(v4.getD v3.toNat (Ty.zero .entr)).age)) (.ret (.next v3))<|
 .ret (.next a)
noncomputable def kr:ye.V→qf ye Int:=λ(v0,v1,v2,v3,v4,_)=>⟨v3,v2,λv3 a=>(v0,v1,a,v3,v4,()),λv3 _=>(decide (v3<(v4.length:Int))),J0 v4,up,1,(Int.toNat ((v4.length:Int)-v3)),Empty.elim,Prod.mk,oN (.exit 0) ⟨[zi 1,zi 2,zu 6,(7,false,[.sl .any .entr]),zi 9],[]⟩ (λx=>(v0,v1,v4,x.2,()))⟩
theorem JX {v0 v1 v2 v3:Int}{v4:List Entr}(h0:0≤v3)(h1:(v4.length:Int)≤4611686018427387904)(h2:0≤v2∧v2<v4.length):(kr (v0,v1,v2,v3,v4,())).U (v4.length:Int) (λv3 a=>0≤a∧a<v4.length) (λ_=>True):=
 ju (a:=v2) h0 h1 h2
noncomputable def oY:FT (List Entr×Int×Int×Unit) (List Entr) (λx=>sS x.1) (λx v=>sS v∧v.length≤x.1.length+1):=⟨λ(x0,x1,x2,_)=>
  .grd (Nat.ble ((2*(0+x0.length)+1024)*24) bc)<|
  .bnd (β:=Bool×Unit) (.cal uK.c (x0,()) λc1=>
   .ite (!c1) (.ret (true,()))<|
   .cal aI.c (x1,32,()) λc2=>
   .ite (!c2) (.ret (true,()))<|
   .cal aI.c (x2,48,()) λc3=>
   .ret ((!c3),())) λ(u4a0,_)=>
  .ite u4a0 (.ret ([]++x0))<|
  .cal zX.c (x0,x1,()) λc5=>
  .ite (decide (0≤c5)) (.grd (cG ([]++x0) c5)<|
   .ret (([]++x0).set c5.toNat (⟨x1,x2,0⟩:Entr)))<|
  .ite ((([]++x0).length:Int)==4) (.lp (kr (x1,x2,0,1,([]++x0),())).lp λ(_,a6_0)=>
   .grd ((decide (0≤a6_0))&&(decide (a6_0≤(([]++x0).length:Int))))<|
   .grd (Nat.ble ((2*(0+((([]++x0).take a6_0.toNat).drop 0).length)+1024)*24) bc)<|
   .grd (KN ([]++x0) (IntKind.wrap .i64 (a6_0+1)) (([]++x0).length:Int))<|
   .grd (Nat.ble ((2*(([]++((([]++x0).take a6_0.toNat).drop 0)).length+((([]++x0).take ((([]++x0).length:Int).toNat)).drop ((IntKind.wrap .i64 (a6_0+1)).toNat)).length)+1024)*24) bc)<|
   .val (([]++((([]++x0).take a6_0.toNat).drop 0))++((([]++x0).take ((([]++x0).length:Int).toNat)).drop ((IntKind.wrap .i64 (a6_0+1)).toNat))) λl7=>
   .grd (px l7 1 24)<|
   .ret (l7++[(⟨x1,x2,0⟩:Entr)]))<|
  .grd (px ([]++x0) 1 24)<|
  .ret (([]++x0)++[(⟨x1,x2,0⟩:Entr)]),
 λ(x0,x1,x2,_) hp=>by
  refine Tr.Gb ?_ λ_=>Tr.B (Q':=λw=>(w.1=false→x0.length≤4)) (Tr.C ?_ λ_ _ _=>Tr.I (λ_=>Tr.R ?_) λ_=>Tr.C trivial λ_ _ _=>Tr.I (λ_=>Tr.R ?_) λ_=>Tr.C trivial λ_ _ _=>Tr.R ?_) (λ(u4a0,_) _ _=>Tr.I (λ_=>Tr.R ?_) λ_=>Tr.C ?_ λ_ _ _=>Tr.I (λ_=>Tr.G2 ?_ λ_=>Tr.R ?_) λ_=>Tr.I (λ_=>Tr.L (JX ?_ ?_ ?_) (λa6_0 _=>Tr.G2 ?_ λ_=>Tr.Gb ?_ λ_=>Tr.G3 ?_ λ_=>Tr.Gb ?_ λ_=>Tr.V λ_ _=>Tr.Gb ?_ λ_=>Tr.R ?_) (λp=>Empty.elim p)) λ_=>Tr.Gb ?_ λ_=>Tr.R ?_)
  all_goals ((try simp only[kr,LC.lp,LC.ct,Ct.lp,Tr.nice,j5]at*)<;>grind)⟩
noncomputable def tP:=eE st Tryz.func226 [(0,la ⟨[1,2,7,9,10],[],false,0⟩ ⟨[1,2,6,7,9],[.soft 7 0],false,0⟩),(3000002,rA 0 26)] [Gx,cc,FJ] 0 kr (ks:=[.sc (.sl .entr),.sc (.int .i64),.sc (.int .i64)]) oY (λv=>[(false,[sc (.o true) .entr v])])
def yb:Sh:=⟨[zi 0,zo 5 0,zi 6],[za .u8]⟩
noncomputable def m9 (v1:Int)(a:Int×List Int):Tr (Stp (Int×List Int) (Empty)):=
 .grd (cG a.2 v1)<|
 .ret (.next ((IntKind.wrap .i64 (a.1.tdiv 256)),(a.2.set v1.toNat (IntKind.wrap .u8 (a.1.tmod 256)))))
noncomputable def kI:yb.V→qf yb (Int×List Int):=λ(v0,v1,v2,_)=>⟨v1,(v0,v2),λv1 a=>(a.1,v1,a.2,()),λv1 _=>(decide (0≤v1)),m9,dn,(-1),(Int.toNat (v1-0+1)),Empty.elim,Prod.mk,oN (.exit 0) ⟨[zu 4,zo 5 0],[za .u8]⟩ (λx=>(x.2.2,()))⟩
theorem JZ {v0 v1:Int}{v2:List Int}(h0:v1≤9223372036854775807)(h1:sS v2)(h2:v2.length=v2.length∧v1<(v2.length:Int)):(kI (v0,v1,v2,())).D 0 (λv1 a=>a.2.length=v2.length∧v1<(a.2.length:Int)) (λ_=>True):=
 lcD (a:=(v0,v2)) h0 (by decide) h2
noncomputable def aX:FT (Int×Int×Unit) (aa) (λ_=>True) (λx v=>sS v∧(v.length:Int)≤max x.2.1 0):=⟨λ(x0,x1,_)=>
  .bnd (β:=Bool×Unit) (.val (ce.f (x1,1,6,())) λc1=>
   .ite (!c1) (.ret (true,()))<|
   .cal aI.c (x0,(IntKind.wrap .i64 (8*x1)),()) λc2=>
   .ret ((!c2),())) λ(u3a0,_)=>
  .ite u3a0 (.ret [])<|
  .grd ((((decide (0≤x1))&&(decide (x1=x1)))&&(decide (x1*1≤(bc:Int))))&&(decide (x1≤(bc:Int))))<|
  .lp (kI (x0,(IntKind.wrap .i64 (x1-1)),(List.replicate x1.toNat 0),())).lp λ(_,_,a4_1)=>
  .ret (aw a4_1),
 λ(x0,x1,_) hp=>by
  refine Tr.B (Q':=λ_=>True) (Tr.V λ_ _=>Tr.I (λ_=>Tr.R trivial) λ_=>Tr.C trivial λ_ _ _=>Tr.R trivial) (λ(u3a0,_) _ _=>Tr.I (λ_=>Tr.R ?_) λ_=>Tr.G4 ?_ λ_=>Tr.L (JZ ?_ ?_ ?_) (λ(a4_0,a4_1) _=>Tr.R ?_) (λp=>Empty.elim p))
  all_goals ((try simp only[kI,LC.lp,LC.ct,Ct.lp,Tr.nice,j5]at*)<;>grind)⟩
noncomputable def ku:=eE st Tryz.func232 [(0,lb [0,5,6] [4,5]),(3000001,rA 0 16)] [cy,cc] 0 kI (ks:=[.sc (.int .i64),.sc (.int .i64)]) aX (λv=>[(false,[.c (.str v)])])
noncomputable def K9:=[ku]
noncomputable def KR:Fx:=⟨237,Tryz.f237,[(3000004,rA 0 25)],0⟩
noncomputable def nJ:FT (Int×Int×Int×Unit) (aa) (λ_=>True) (λx v=>sS v∧v.length≤20):=⟨λ(x0,x1,x2,_)=>
  .cal aX.c (x0,4,()) λc1=>
  .cal aX.c (x1,4,()) λc2=>
  .cal aX.c (x2,2,()) λc3=>
  .bnd (β:=Bool×Unit) (.ite (c1==[]) (.ret (true,()))<|
   .ite (c2==[]) (.ret (true,()))<|
   .ret ((c3==[]),())) λ(u4a0,_)=>
  .ite u4a0 (.ret [])<|
  .grd (Nat.ble (c1.length+c2.length) ao)<|
  .grd (Nat.ble ((c1++c2).length+2) ao)<|
  .grd (Nat.ble (((c1++c2)++[0,6]).length+c3.length) ao)<|
  .ret (((c1++c2)++[0,6])++c3),
 λ(x0,x1,x2,_) hp=>by
  refine Tr.C trivial λc1 hc1 qc1=>Tr.C trivial λc2 hc2 qc2=>Tr.C trivial λc3 hc3 qc3=>Tr.B (Q':=λ_=>True) (Tr.F (by kernel_rfl) trivial) (λ(u4a0,_) hj4 qj4=>Tr.I (λb0=>Tr.R ?_) λb0=>Tr.Gb ?_ λg1=>Tr.Gb ?_ λg2=>Tr.Gb ?_ λg3=>Tr.R ?_)
  all_goals ((try simp only[Tr.nice,j5]at*)<;>(first|(simp only[List.length_append,List.length_cons,List.length_nil,ao,sS]at*;omega)|grind))⟩
noncomputable def yE:=bS st KR K9 [] (ks:=[.sc (.int .i64),.sc (.int .i64),.sc (.int .i64)]) nJ (λv=>[(false,[.c (.str v)])]) Tryz.func237 trivial
def sK:Sh:=⟨[zs 0,zp 2 0,zp 4 1,zi 5],[zx .opti,zx .opti]⟩
noncomputable def cV (v0:aa)(a:Int×Opti):Tr (Stp (Int×Opti) ((Opti×Opti)⊕(Opti))):=
 .ite (decide (a.1<(v0.length:Int))) (.grd (cG v0 a.1)<|
  .ite ((ai v0 a.1.toNat) != 0) (.grd (cG v0 a.1)<|
   .ite ((ai v0 a.1.toNat)==1) (.ret (.next ((IntKind.wrap .i64 (a.1+1)),a.2)))<|
   .bnd (β:=Bool×Unit) (.ite (decide ((v0.length:Int)≤(IntKind.wrap .i64 (a.1+1)))) (.ret (true,()))<|
    .grd (cG v0 (IntKind.wrap .i64 (a.1+1)))<|
    .ite (decide ((ai v0 ((IntKind.wrap .i64 (a.1+1)).toNat))<2)) (.ret (true,()))<|
    .grd (cG v0 (IntKind.wrap .i64 (a.1+1)))<|
    .ret ((decide ((IntKind.wrap .i64 ((v0.length:Int)-a.1))<(IntKind.wrap .i64 (ai v0 ((IntKind.wrap .i64 (a.1+1)).toNat))))),())) λ(u2a0,_)=>
   .ite u2a0 (.val (bX.f (())) λc3=>
    .ret (.out (.inl (c3,a.2))))<|
   .grd (cG v0 (IntKind.wrap .i64 (a.1+1)))<|
   .val (IntKind.wrap .i64 (a.1+(IntKind.wrap .i64 (ai v0 ((IntKind.wrap .i64 (a.1+1)).toNat))))) λe4=>
   .grd (KN v0 a.1 e4)<|
   .cal IX.c (a.2,((v0.take e4.toNat).drop a.1.toNat),()) λc5=>
   .ret (.next (e4,c5)))<|
  .ret (.out (.inr (a.2))))<|
 .ret (.out (.inr (a.2)))
instance s_ReadOptions_L0_i:Inhabited ((Opti×Opti)⊕(Opti)):=⟨.inl default⟩
noncomputable def jh:sK.V→LW sK (Int×Opti) ((Opti×Opti)⊕(Opti)):=λ(v0,v1,v2,v3,_)=>⟨(v1,v3),λa=>(v0,a.1,v2,a.2,()),cV v0,Int.toNat ((v0.length:Int)-v1),oB .ret ⟨[zp 2 0,zb 3,zp 4 1],[zx .opti,zx .opti]⟩ (λp=>(false,p.1,p.2,())) (.exit 0) ⟨[zp 2 0,zu 3,zp 4 1],[zx .opti,zx .opti]⟩ (λp=>(v2,p,()))⟩
theorem BV {v0:aa}{v1:Int}{v2 v3:Opti}(h0:sS v0)(h1:0≤v1):(jh (v0,v1,v2,v3,())).W (λ_=>True):=
 lwW (a:=(v1,v3)) (λa=>0≤a.1) (λa=>Int.toNat ((v0.length:Int)-a.1)) h1
noncomputable def lj:FT (aa×Unit) (Opti×Bool) (λx=>sS x.1) (λ_ _=>True):= .mk (λ(x0,_)=>
  .val (bX.f (())) λc1=>
  .lp (jh (x0,0,(⟨0,0,false,false,0,0⟩:Opti),c1,())).lp λq6=> .sum q6 (λ(p6a0,_)=>
  .ret (p6a0,false))<|
  λp6b0=>
  .ret (p6b0,true)) (qU @BV)
noncomputable def IA:=NI st Tryz.func239 [(0,lb [0,2,4,5] [2,3,4]),(3000006,rA 0 47)] [eA,ZP] 0 jh (ks:=[.sc .str]) lj (λv=>[(true,oU v.1),(false,[.c (.bool v.2)])])
noncomputable def em:FT (aa×Int×Int×Unit) (Int) (λx=>sS x.1) (λ_ _=>True):= .mk λ(x0,x1,x2,_)=>
  .cal Az.c (x0,x1,x2,()) λc1=>
  .ret c1.1
noncomputable def yw:=a9 st Tryz.func262 [SB] (ks:=[.sc .str,.sc (.int .i64),.sc (.int .i64)]) em rI
noncomputable def Kq:=[ca,kJ]
noncomputable def KB:Fx:=⟨265,Tryz.f265,[(3000001,rA 0 19)],0⟩
noncomputable def ew:FT (Int×Int×Int×Unit) (aa) (λ_=>True) (λx v=>sS v∧v.length≤20):=⟨λ(x0,x1,x2,_)=>
  .bnd (β:=Bool×Unit) (.cal ae.c (x0,32,()) λc1=>
   .ite (!c1) (.ret (true,()))<|
   .cal ae.c (x1,32,()) λc2=>
   .ite (!c2) (.ret (true,()))<|
   .cal ae.c (x2,16,()) λc3=>
   .ret ((!c3),())) λ(u4a0,_)=>
  .ite u4a0 (.ret [])<|
  .cal aA.c (x0,4,()) λc5=>
  .cal aA.c (x1,4,()) λc6=>
  .grd (Nat.ble (c5.length+c6.length) ao)<|
  .grd (Nat.ble ((c5++c6).length+2) ao)<|
  .cal aA.c (x2,2,()) λc7=>
  .grd (Nat.ble (((c5++c6)++[0,6]).length+c7.length) ao)<|
  .ret (((c5++c6)++[0,6])++c7),
 λ(x0,x1,x2,_) hp=>by
  refine Tr.B (Q':=λ_=>True) (Tr.C trivial λc1 hc1 qc1=>Tr.I (λb0=>Tr.R trivial) λb0=>Tr.C trivial λc2 hc2 qc2=>Tr.I (λb1=>Tr.R trivial) λb1=>Tr.C trivial λc3 hc3 qc3=>Tr.R trivial) (λ(u4a0,_) hj4 qj4=>Tr.I (λb0=>Tr.R ?_) λb0=>Tr.C trivial λc5 hc5 qc5=>Tr.C trivial λc6 hc6 qc6=>Tr.Gb ?_ λg1=>Tr.Gb ?_ λg2=>Tr.C trivial λc7 hc7 qc7=>Tr.Gb ?_ λg3=>Tr.R ?_)
  all_goals ((try simp only[Tr.nice,j5]at*)<;>(first|(simp only[List.length_append,List.length_cons,List.length_nil,ao,sS]at*;omega)|grind))⟩
noncomputable def yG:=bS st KB Kq [] (ks:=[.sc (.int .i64),.sc (.int .i64),.sc (.int .i64)]) ew (λv=>[(false,[.c (.str v)])]) Tryz.func265 trivial
def r8:Sh:=⟨[zs 0,zp 2 0,zp 4 1,zi 5],[zx .opti,zx .opti]⟩
noncomputable def cY (v0:aa)(a:Int×Opti):Tr (Stp (Int×Opti) ((Opti)⊕(Opti×Opti))):=
 .ite (decide (a.1<(v0.length:Int))) (.grd (cG v0 a.1)<|
  .ite ((ai v0 a.1.toNat)==0) (.ret (.out (.inl a.2)))<|
  .ite ((ai v0 a.1.toNat)==1) (.ret (.next ((IntKind.wrap .i64 (a.1+1)),a.2)))<|
  .ite (decide ((v0.length:Int)≤(IntKind.wrap .i64 (a.1+1)))) (.val (bV.f (())) λc2=>
   .ret (.out (.inr ((c2,a.2)))))<|
  .grd (cG v0 (IntKind.wrap .i64 (a.1+1)))<|
  .bnd (β:=Bool×Unit) (.ite (decide ((IntKind.wrap .i64 (ai v0 ((IntKind.wrap .i64 (a.1+1)).toNat)))<2)) (.ret (true,()))<|
   .ret ((decide ((IntKind.wrap .i64 ((v0.length:Int)-a.1))<(IntKind.wrap .i64 (ai v0 ((IntKind.wrap .i64 (a.1+1)).toNat))))),())) λ(u3a0,_)=>
  .ite u3a0 (.val (bV.f (())) λc4=>
   .ret (.out (.inr ((c4,a.2)))))<|
  .bnd (β:=Bool×Unit) (.ite ((ai v0 a.1.toNat)==2) (.ret (((IntKind.wrap .i64 (ai v0 ((IntKind.wrap .i64 (a.1+1)).toNat)))==4),()))<|
   .ret (false,())) λ(u5a0,_)=>
  .ite u5a0 (.cal em.c (v0,(IntKind.wrap .i64 (a.1+2)),2,()) λc6=>
   .val (IntKind.wrap .i64 (a.1+(IntKind.wrap .i64 (ai v0 ((IntKind.wrap .i64 (a.1+1)).toNat))))) λe7=>
   .ret (.next (e7,({a.2 with mss:=c6}:Opti))))<|
  .bnd (β:=Bool×Unit) (.ite ((ai v0 a.1.toNat)==3) (.ret (((IntKind.wrap .i64 (ai v0 ((IntKind.wrap .i64 (a.1+1)).toNat)))==3),()))<|
   .ret (false,())) λ(u8a0,_)=>
  .ite u8a0 (.grd (cG v0 (IntKind.wrap .i64 (a.1+2)))<|
   .val (β:=Int) (if 14<(IntKind.wrap .i64 (ai v0 ((IntKind.wrap .i64 (a.1+2)).toNat)))then 14 else(IntKind.wrap .i64 (ai v0 ((IntKind.wrap .i64 (a.1+2)).toNat)))) λe9=>
   .val (IntKind.wrap .i64 (a.1+(IntKind.wrap .i64 (ai v0 ((IntKind.wrap .i64 (a.1+1)).toNat))))) λe10=>
   .ret (.next (e10,({a.2 with scale:=e9}:Opti))))<|
  .bnd (β:=Bool×Unit) (.ite ((ai v0 a.1.toNat)==4) (.ret (((IntKind.wrap .i64 (ai v0 ((IntKind.wrap .i64 (a.1+1)).toNat)))==2),()))<|
   .ret (false,())) λ(u11a0,_)=>
  .ite u11a0 (.val (IntKind.wrap .i64 (a.1+(IntKind.wrap .i64 (ai v0 ((IntKind.wrap .i64 (a.1+1)).toNat))))) λe12=>
   .ret (.next (e12,({a.2 with sack:=true}:Opti))))<|
  .bnd (β:=Bool×Unit) (.ite ((ai v0 a.1.toNat)==8) (.ret (((IntKind.wrap .i64 (ai v0 ((IntKind.wrap .i64 (a.1+1)).toNat)))==10),()))<|
   .ret (false,())) λ(u13a0,_)=>
  .ite u13a0 (.cal em.c (v0,(IntKind.wrap .i64 (a.1+2)),4,()) λc14=>
   .cal em.c (v0,(IntKind.wrap .i64 (a.1+6)),4,()) λc15=>
   .val (IntKind.wrap .i64 (a.1+(IntKind.wrap .i64 (ai v0 ((IntKind.wrap .i64 (a.1+1)).toNat))))) λe16=>
   .ret (.next (e16,({a.2 with stamp:=true,val:=c14,echo:=c15}:Opti))))<|
  .val (IntKind.wrap .i64 (a.1+(IntKind.wrap .i64 (ai v0 ((IntKind.wrap .i64 (a.1+1)).toNat))))) λe17=>
  .ret (.next (e17,a.2)))<|
 .ret (.out (.inl a.2))
instance i_ReadOptions_L0_i:Inhabited ((Opti)⊕(Opti×Opti)):=⟨.inl default⟩
noncomputable def je:r8.V→LW r8 (Int×Opti) ((Opti)⊕(Opti×Opti)):=λ(v0,v1,v2,v3,_)=>⟨(v1,v3),λa=>(v0,a.1,v2,a.2,()),cY v0,Int.toNat ((v0.length:Int)-v1),oB (.exit 0) ⟨[zp 2 0,zu 3,zp 4 1],[zx .opti,zx .opti]⟩ (λp=>(v2,p,())) .ret ⟨[zp 2 0,zb 3,zp 4 1],[zx .opti,zx .opti]⟩ (λp=>(false,p.1,p.2,()))⟩
theorem Cy {v0:aa}{v1:Int}{v2 v3:Opti}(h0:sS v0)(h1:0≤v1):(je (v0,v1,v2,v3,())).W (λ_=>True):=
 lwW (a:=(v1,v3)) (λa=>0≤a.1) (λa=>Int.toNat ((v0.length:Int)-a.1)) h1
noncomputable def lx:FT (aa×Unit) (Opti×Bool) (λx=>sS x.1) (λ_ _=>True):= .mk (λ(x0,_)=>
  .val (bV.f (())) λc1=>
  .lp (je (x0,0,(⟨0,0,false,false,0,0⟩:Opti),c1,())).lp λq18=> .sum q18 (λp18a0=>
  .ret (p18a0,true))<|
  λ(p18b0,_)=>
  .ret (p18b0,false)) (qU @Cy)
noncomputable def H7:=NI st Tryz.func266 [(0,lb [0,2,4,5] [2,3,4]),(3000011,rA 0 42),(3000013,rA 0 44),(3000015,rA 0 56),(3000017,rA 0 70),(3000019,rA 0 78)] [jJ,yw] 0 je (ks:=[.sc .str]) lx (λv=>[(true,oU v.1),(false,[.c (.bool v.2)])])
noncomputable def Np:=[cc,cy]
noncomputable def ND:Fx:=⟨270,Tryz.f270,[(3000001,rA 0 15)],0⟩
noncomputable def eT:FT (Opti×Unit) (Bool) (λ_=>True) (λ_ _=>True):= .mk λ(x0,_)=>
  .bnd (β:=Bool×Unit) (.ite (!x0.stamp) (.ite (x0.val != 0) (.ret (true,()))<|
    .ret ((x0.echo != 0),()))<|
   .ret (false,())) λ(u1a0,_)=>
  .ite u1a0 (.ret false)<|
  .cal aI.c (x0.mss,16,()) λc2=>
  .ite c2 (.val (ce.f (x0.scale,(-1),14,())) λc3=>
   .ite c3 (.cal aI.c (x0.val,32,()) λc4=>
    .ite c4 (.cal aI.c (x0.echo,32,()) λc5=>
     .ret c5)<|
    .ret false)<|
   .ret false)<|
  .ret false
noncomputable def lE:=bS st ND Np [] (ks:=[.st .opti]) eT rB Tryz.func270 trivial
noncomputable def Yb:=[mM,le,td,lu,bI]
def JN:An:=⟨⟨[],[],false,0⟩,⟨[1,2,3],[],false,0⟩,⟨[],[]⟩,[(.normal,⟨[zp 1 0,zb 2,zi 3],[zg .conn]⟩)]⟩
noncomputable def W0:Fx:=⟨272,Tryz.f272,[(1000037,JN),(3000001,rA 0 34),(3000006,rA 0 62)],0⟩
noncomputable def aO:FT (Conn×Unit) (Bool) (λx=>ac x.1) (λx v=>(v=true→SO x.1.s∧RO x.1.r)):= .mk λ(x0,_)=>
  .bnd (β:=Bool×Unit) (.as (λw=>(w.1=false→SO x0.s∧RO x0.r∧dg (pw (Zy x0.r)) x0.r.held)) (.cal aG.c (x0.tuple,()) λc1=>
   .ite (!c1) (.ret (true,()))<|
   .cal bj.c (x0.s,()) λc2=>
   .ite (!c2) (.ret (true,()))<|
   .cal br.c (x0.r,()) λc3=>
   .ite (!c3) (.ret (true,()))<|
   .cal aM.c (x0.opts,()) λc4=>
   .ite (!c4) (.ret (true,()))<|
   .val (bk.f (x0.state,1,8,())) λc5=>
   .ret ((!c5),()))) λ(u6a0,_)=>
  .ite u6a0 (.ret false)<|
  .bnd (β:=Bool×Int×Conn×Unit) (.as (λw=>ac w.2.2.1) (.ite (x0.state==7) (.ret (false,4,x0,()))<|
   .ret (false,3,x0,()))) λ(_,u7a1,u7a2,_)=>
  .bnd (β:=Bool×Unit) (.val (bk.f (u7a2.most,0,1073725440,())) λc8=>
   .ite (!c8) (.ret (true,()))<|
   .val (bk.f (u7a2.window,0,u7a2.most,())) λc9=>
   .ite (!c9) (.ret (true,()))<|
   .val (bk.f (u7a2.timer,0,u7a1,())) λc10=>
   .ite (!c10) (.ret (true,()))<|
   .val (bk.f (u7a2.tries,0,3,())) λc11=>
   .ret ((!c11),())) λ(u12a0,_)=>
  .ite u12a0 (.ret false)<|
  .ite (u7a2.state==1) (.ite (!u7a2.s.fin) (.ite (!u7a2.s.done) (.ret (!u7a2.r.done))<|
    .ret false)<|
   .ret false)<|
  .ite (u7a2.state==2) (.ite u7a2.s.fin (.ite (!u7a2.s.done) (.ret (!u7a2.r.done))<|
    .ret false)<|
   .ret false)<|
  .ite (u7a2.state==3) (.ite u7a2.s.fin (.ite u7a2.s.done (.ret (!u7a2.r.done))<|
    .ret false)<|
   .ret false)<|
  .ite (u7a2.state==4) (.ite (!u7a2.s.fin) (.ite (!u7a2.s.done) (.ret u7a2.r.done)<|
    .ret false)<|
   .ret false)<|
  .ite (u7a2.state==5) (.ite (u7a2.state==5) (.ite u7a2.s.fin (.ite (!u7a2.s.done) (.ret u7a2.r.done)<|
     .ret false)<|
    .ret false)<|
   .ite (u7a2.state==7) (.ite u7a2.s.fin (.ite u7a2.s.done (.ret u7a2.r.done)<|
     .ret false)<|
    .ret false)<|
   .ret true)<|
  .ite (u7a2.state==6) (.ite u7a2.s.fin (.ite (!u7a2.s.done) (.ret u7a2.r.done)<|
    .ret false)<|
   .ret false)<|
  .ite (u7a2.state==7) (.ite u7a2.s.fin (.ite u7a2.s.done (.ret u7a2.r.done)<|
    .ret false)<|
   .ret false)<|
  .ret true
noncomputable def gP:=bS st W0 Yb [] (ks:=[.st .conn]) aO rB Tryz.func272 trivial
noncomputable def SN:=[yw,FQ]
noncomputable def UH:Fx:=⟨278,Tryz.f278,[(3000001,rA 0 12)],0⟩
noncomputable def vo:FT (aa×Unit) (Arpm×Bool) (λx=>sS x.1) (λ_ _=>True):= .mk λ(x0,_)=>
  .bnd (β:=Bool×Unit) (.ite (decide ((x0.length:Int)<28)) (.ret (true,()))<|
   .grd (decide (6≤(x0.length:Int)))<|
   .ret ((!(((x0.take 6).drop 0)==[0,1,8,0,6,4])),())) λ(u1a0,_)=>
  .ite u1a0 (.ret ((⟨0,0,0,0,0⟩:Arpm),false))<|
  .cal em.c (x0,6,2,()) λc2=>
  .cal em.c (x0,8,6,()) λc3=>
  .cal em.c (x0,14,4,()) λc4=>
  .cal em.c (x0,18,6,()) λc5=>
  .cal em.c (x0,24,4,()) λc6=>
  .cal nm.c ((⟨c2,c3,c4,c5,c6⟩:Arpm),()) λc7=>
  .ite (!c7) (.ret ((⟨0,0,0,0,0⟩:Arpm),false))<|
  .ret ((⟨c2,c3,c4,c5,c6⟩:Arpm),true)
noncomputable def SL:=bS st UH SN [] (ks:=[.sc .str]) vo (λv=>[(true,ML v.1),(false,[.c (.bool v.2)])]) Tryz.func278 trivial
noncomputable def yP:=[xx,GO,ca,E3]
def n6:Sh:=⟨[zi 1,zi 2,zo 7 0,zi 29,zi 30],[za .entr]⟩
def ny:Sh:=⟨[zi 1,zi 2,zo 7 0,zi 9,zo 54 0,zi 55,zi 56],[za .entr]⟩
noncomputable def zN:Fx:=⟨279,Tryz.f279,[(0,lb [1,2,7,29,30] [1,2,6,7]),(2,lb [1,2,7,9,54,55,56] [1,2,6,7,9]),(3000002,rA 0 26)],0⟩
noncomputable def zH (v0 v1:Int)(v4:List Entr)(v3:Int)(a:Unit):Tr (Stp (Unit) ((List Entr))):=
 .grd (cG v4 v3)<|
 .ite ((v4.getD v3.toNat (Ty.zero .entr)).ip==v0) (.grd (cG v4 v3)<|
  .grd ((decide (0≤v3))&&(decide (v3<((v4.set v3.toNat ({(v4.getD v3.toNat (Ty.zero .entr))with hw:=v1}:Entr)).length:Int))))<|
  .val ((v4.set v3.toNat ({(v4.getD v3.toNat (Ty.zero .entr))with hw:=v1}:Entr)).set v3.toNat ({((v4.set v3.toNat ({(v4.getD v3.toNat (Ty.zero .entr))with hw:=v1}:Entr)).getD v3.toNat (Ty.zero .entr))with age:=0}:Entr)) λl6=>
  .ret (.out l6))<|
 .ret (.next ())
noncomputable def f7:n6.V→tq n6 Unit (List Entr):=λ(v0,v1,v2,v3,v4,_)=>⟨v3,(),λv3 _=>(v0,v1,v2,v3,v4,()),λv3 _=>(decide (v3<v2)),zH v0 v1 v4,up,1,(Int.toNat (v2-v3)),.inl,eR,oB .ret ⟨[zi 1,zi 2,zo 6 0,zo 7 0],[za .entr]⟩ (λp=>(v0,v1,p,())) (.exit 0) ⟨[zi 1,zi 2,zu 6,zo 7 0],[za .entr]⟩ (λ_=>(v0,v1,v4,()))⟩
theorem Ms:LS Tryz.prog zN [0] (gc 0 n6 f7):=dd st (aL yP) _ f7 [] trivial
theorem KF {v0 v1 v2 v3:Int}{v4:List Entr}(h0:0≤v3)(h1:v2≤4611686018427387904)(h2:sS v4)(h3:v2≤(v4.length:Int)):(f7 (v0,v1,v2,v3,v4,())).U v2 (λ_ _=>True) (λp=>sS p):=
 ju h0 h1 trivial
noncomputable def eC (v5:List Entr)(v4:Int)(a:Int):Tr (Stp (Int) (Empty)):=
 .grd (cG v5 v4)<|
 .grd (cG v5 a)<|
 .ite (decide ((v5.getD a.toNat (Ty.zero .entr)).age<(v5.getD v4.toNat (Ty.zero .entr)).age)) (.ret (.next v4))<|
 .ret (.next a)
noncomputable def ga:ny.V→qf ny Int:=λ(v0,v1,v2,v3,v4,v5,_)=>⟨v4,v2,λv4 a=>(v0,v1,a,v3,v4,v5,()),λv4 _=>(decide (v4<v3)),eC v5,up,1,(Int.toNat (v3-v4)),Empty.elim,Prod.mk,oN (.exit 2) ⟨[zi 1,zi 2,zu 6,zo 7 0,zi 9],[za .entr]⟩ (λx=>(v0,v1,x.2,v5,()))⟩
theorem Mc:LS Tryz.prog zN [1] (gc 2 ny ga):=dd st (aL yP) _ ga [] trivial
theorem MK {v0 v1 v2 v3 v4:Int}{v5:List Entr}(h0:0≤v4)(h1:v3≤4611686018427387904)(h2:v3≤(v5.length:Int))(h3:0≤v2∧v2<v5.length):(ga (v0,v1,v2,v3,v4,v5,())).U v3 (λv4 a=>0≤a∧a<v5.length) (λ_=>True):=
 ju (a:=v2) h0 h1 h3
noncomputable def u5:FT (List Entr×Int×Int×Unit) (List Entr) (λx=>sS x.1) (λx v=>sS v):=⟨λ(x0,x1,x2,_)=>
  .cal gL.c (x0,()) λc1=>
  .bnd (β:=Bool×Unit) (.cal gl.c (x0,()) λc2=>
   .ite (!c2) (.ret (true,()))<|
   .cal ae.c (x1,32,()) λc3=>
   .ite (!c3) (.ret (true,()))<|
   .cal ae.c (x2,48,()) λc4=>
   .ret ((!c4),())) λ(u5a0,_)=>
  .ite u5a0 (.ret c1)<|
  .lp (f7 (x1,x2,(c1.length:Int),0,c1,())).lp λw7=> .sum w7 (λp7a0=>
  .ret p7a0)<|
  λ_=>
  .ite ((c1.length:Int)==4) (.lp (ga (x1,x2,0,(c1.length:Int),0,c1,())).lp λ(_,a8_0)=>
   .cal ta.c (c1,a8_0,(IntKind.wrap .i64 (a8_0+1)),()) λc9=>
   .grd (px (c9.2.take c9.1) 1 24)<|
   .ret ((c9.2.take c9.1)++[(⟨x1,x2,0⟩:Entr)]))<|
  .grd (px c1 1 24)<|
  .ret (c1++[(⟨x1,x2,0⟩:Entr)]),
 λ(x0,x1,x2,_) hp=>by
  refine Tr.C ?_ λ_ _ _=>Tr.B (Q':=λw=>(w.1=false→x0.length≤4)) (Tr.C ?_ λ_ _ _=>Tr.I (λ_=>Tr.R ?_) λ_=>Tr.C trivial λ_ _ _=>Tr.I (λ_=>Tr.R ?_) λ_=>Tr.C trivial λ_ _ _=>Tr.R ?_) (λ(u5a0,_) _ _=>Tr.I (λ_=>Tr.R ?_) λ_=>Tr.L (KF ?_ ?_ ?_ ?_) (λ_ _=>Tr.Sr (Tr.I (λ_=>Tr.L (MK ?_ ?_ ?_ ?_) (λa8_0 _=>Tr.C ?_ λ_ _ _=>Tr.Gb ?_ λ_=>Tr.R ?_) (λp=>Empty.elim p)) λ_=>Tr.Gb ?_ λ_=>Tr.R ?_)) (λp7a0 _=>Tr.Sl (Tr.R ?_)))
  all_goals ((try simp only[f7,ga,LC.lp,LC.ct,Ct.lp,Tr.nice,j5]at*)<;>grind)⟩
noncomputable def Tq:=bS st zN yP [(gc 0 n6 f7),(gc 2 ny ga)] (ks:=[.sc (.sl .entr),.sc (.int .i64),.sc (.int .i64)]) u5 (λv=>[(false,[sc (.o true) .entr v])]) Tryz.func279 ⟨Ms,Mc,trivial⟩
noncomputable def Qi:=[FQ]
noncomputable def Rv:Fx:=⟨280,Tryz.f280,[(3000002,rA 0 29)],0⟩
noncomputable def oD:FT (Arpm×Int×Int×Unit) (Arpm×Bool) (λ_=>True) (λ_ _=>True):= .mk λ(x0,x1,x2,_)=>
  .bnd (β:=Bool×Unit) (.ite (x0.kind != 1) (.ret (true,()))<|
   .ite (x0.dstIp != x2) (.ret (true,()))<|
   .cal nm.c ((⟨2,x1,x2,x0.srcHw,x0.srcIp⟩:Arpm),()) λc1=>
   .ret ((!c1),())) λ(u2a0,_)=>
  .ite u2a0 (.ret ((⟨0,0,0,0,0⟩:Arpm),false))<|
  .ret ((⟨2,x1,x2,x0.srcHw,x0.srcIp⟩:Arpm),true)
noncomputable def Rf:=bS st Rv Qi [] (ks:=[.st .arpm,.sc (.int .i64),.sc (.int .i64)]) oD (λv=>[(true,ML v.1),(false,[.c (.bool v.2)])]) Tryz.func280 trivial
noncomputable def gm:FT (Fram×Unit) (aa) (λx=>pt x.1) (λx v=>sS v∧v.length≤1600):=⟨λ(x0,_)=>
  .cal gk.c (x0,()) λc1=>
  .ite (!c1) (.ret [])<|
  .cal aA.c (x0.dst,6,()) λc2=>
  .cal aA.c (x0.src,6,()) λc3=>
  .grd (Nat.ble (c2.length+c3.length) ao)<|
  .cal aA.c (x0.type,2,()) λc4=>
  .grd (Nat.ble ((c2++c3).length+c4.length) ao)<|
  .grd (Nat.ble (((c2++c3)++c4).length+x0.body.length) ao)<|
  .ret (((c2++c3)++c4)++x0.body),
 λ(x0,_) hp=>by
  refine Tr.C trivial λc1 hc1 qc1=>Tr.I (λb0=>Tr.R ?_) λb0=>Tr.C trivial λc2 hc2 qc2=>Tr.C trivial λc3 hc3 qc3=>Tr.Gb ?_ λg1=>Tr.C trivial λc4 hc4 qc4=>Tr.Gb ?_ λg2=>Tr.Gb ?_ λg3=>Tr.R ?_
  all_goals ((first|(simp only[List.length_append,List.length_cons,List.length_nil,ao,sS]at*;omega)|grind))⟩
noncomputable def Bg:=a9 st Tryz.func281 [Hn,kJ] (ks:=[.st .fram]) gm (λv=>[(false,[.c (.str v)])])
noncomputable def kP:FT (Arpm×Unit) (aa) (λ_=>True) (λx v=>sS v∧v.length≤40):=⟨λ(x0,_)=>
  .cal nm.c (x0,()) λc1=>
  .ite (!c1) (.ret [])<|
  .cal aA.c (x0.kind,2,()) λc2=>
  .grd (Nat.ble (6+c2.length) ao)<|
  .cal aA.c (x0.srcHw,6,()) λc3=>
  .grd (Nat.ble (([0,1,8,0,6,4]++c2).length+c3.length) ao)<|
  .cal aA.c (x0.srcIp,4,()) λc4=>
  .grd (Nat.ble ((([0,1,8,0,6,4]++c2)++c3).length+c4.length) ao)<|
  .cal aA.c (x0.dstHw,6,()) λc5=>
  .grd (Nat.ble (((([0,1,8,0,6,4]++c2)++c3)++c4).length+c5.length) ao)<|
  .cal aA.c (x0.dstIp,4,()) λc6=>
  .grd (Nat.ble ((((([0,1,8,0,6,4]++c2)++c3)++c4)++c5).length+c6.length) ao)<|
  .ret ((((([0,1,8,0,6,4]++c2)++c3)++c4)++c5)++c6),
 λ(x0,_) hp=>by
  refine Tr.C trivial λc1 hc1 qc1=>Tr.I (λb0=>Tr.R ?_) λb0=>Tr.C trivial λc2 hc2 qc2=>Tr.Gb ?_ λg1=>Tr.C trivial λc3 hc3 qc3=>Tr.Gb ?_ λg2=>Tr.C trivial λc4 hc4 qc4=>Tr.Gb ?_ λg3=>Tr.C trivial λc5 hc5 qc5=>Tr.Gb ?_ λg4=>Tr.C trivial λc6 hc6 qc6=>Tr.Gb ?_ λg5=>Tr.R ?_
  all_goals ((first|(simp only[List.length_append,List.length_cons,List.length_nil,ao,sS]at*;omega)|grind))⟩
noncomputable def T1:=a9 st Tryz.func282 [FQ,kJ] (ks:=[.st .arpm]) kP (λv=>[(false,[.c (.str v)])])
noncomputable def kG:FT (Mac×Unit) (Mac) (λx=>dV x.1) (λx v=>dV v∧v=x.1):=⟨λ(x0,_)=>
  .cal nb.c (x0.rows,()) λc1=>
  .ret ({x0 with rows:=c1}:Mac),
 λ(x0,_) hp=>by
  refine Tr.C ?_ λc1 hc1 qc1=>Tr.R ?_
  all_goals ((first|grind|(refine⟨by grind, ?_⟩;first|(simp only[List.nil_append];done)|(subst_vars;rfl)|simp_all)))⟩
noncomputable def wT:=a9 st Tryz.func285 [E0] (ks:=[.st .mac]) kG (λv=>[(true,KS (.o true) v)])
noncomputable def XH:=[le]
noncomputable def XY:Fx:=⟨288,Tryz.f288,[(3000001,rA 0 13)],0⟩
noncomputable def EI:FT (Sndr×aa×Unit) (Sndr×Int) (λx=>bZ x.1∧sS x.2.1) (λx v=>bZ v.1):= .mk λ(x0,x1,_)=>
  .bnd (β:=Bool×Unit) (.as (λw=>(w.1=false→SO x0)) (.cal bj.c (x0,()) λc1=>
   .ite (!c1) (.ret (true,()))<|
   .ret (x0.fin,()))) λ(u2a0,_)=>
  .ite u2a0 (.ret (x0,0))<|
  .val (β:=Int) (if(IntKind.wrap .i64 (48-(x0.data.length:Int)))<(x1.length:Int)then(IntKind.wrap .i64 (48-(x0.data.length:Int)))else(x1.length:Int)) λe3=>
  .grd ((decide (0≤e3))&&(decide (e3≤(x1.length:Int))))<|
  .grd (Nat.ble (x0.data.length+((x1.take e3.toNat).drop 0).length) ao)<|
  .ret (({x0 with data:=(x0.data++((x1.take e3.toNat).drop 0))}:Sndr),e3)
noncomputable def XB:=bS st XY XH [] (ks:=[.st .sndr,.sc .str]) EI (λv=>[(true,uo v.1),(false,[.c (.int .i64 v.2)])]) Tryz.func288 trivial
noncomputable def Ac:FT (Recv×Int×Unit) (Recv×aa) (λx=>ay x.1) (λx v=>ay v.1∧sS v.2):= .mk λ(x0,x1,_)=>
  .cal gg.c (x0,()) λc1=>
  .cal br.c (x0,()) λc2=>
  .ite (!c2) (.ret (c1,[]))<|
  .val (β:=Int) (if 0<(if(x0.data.length:Int)<x1 then(x0.data.length:Int)else x1)then(if(x0.data.length:Int)<x1 then(x0.data.length:Int)else x1)else 0) λe3=>
  .grd (KN x0.data e3 (x0.data.length:Int))<|
  .grd ((decide (0≤e3))&&(decide (e3≤(x0.data.length:Int))))<|
  .ret (({c1 with data:=((x0.data.take ((x0.data.length:Int).toNat)).drop e3.toNat)}:Recv),((x0.data.take e3.toNat).drop 0))
noncomputable def Uk:=a9 st Tryz.func290 [n3,td] (ks:=[.st .recv,.sc (.int .i64)]) Ac (λv=>[(true,uw (.o true) v.1),(false,[.c (.str v.2)])])
def sa:Sh:=⟨[zs 3],[]⟩
def CA:An:=⟨⟨[],[],false,0⟩,⟨[1,2,3],[],false,0⟩,⟨[],[]⟩,[(.normal,⟨[zp 1 0,zs 2,zs 3],[zx .opti]⟩)]⟩
def AR:An:=⟨⟨[],[],false,0⟩,⟨[1,2,3],[],false,0⟩,⟨[],[]⟩,[(.normal,⟨[zp 1 0,zs 2,zs 3],[zx .opti]⟩)]⟩
def AM:An:=⟨⟨[],[],false,0⟩,⟨[1,2,3],[],false,0⟩,⟨[],[]⟩,[(.normal,⟨[zp 1 0,zs 2,zs 3],[zx .opti]⟩)]⟩
def AF:An:=⟨⟨[],[],false,0⟩,⟨[2,3],[],false,0⟩,⟨[],[]⟩,[(.normal,⟨[zs 2,zs 3],[]⟩)]⟩
noncomputable def rN (a:aa):Tr (Stp (aa) ((aa))):=
 .ite (((a.length:Int).tmod 4) != 0) (.grd (Nat.ble (a.length+1) ao)<|
  .ret (.next (a++[1])))<|
 .ret (.out a)
noncomputable def iY:sa.V→LW sa (aa) ((aa)):=λ(v0,_)=>⟨v0,λa=>(a,()),rN,(4-v0.length%4)%4,oN (.exit 0) ⟨[zu 2,zs 3],[]⟩ (λp=>(p,()))⟩
theorem BG {v0:aa}(h0:v0.length+(4-v0.length%4)%4≤20):(iY (v0,())).W (λp=>p.length≤20):=
 lwW (a:=v0) (λa=>a.length+(4-a.length%4)%4≤20) (λa=>(4-a.length%4)%4) h0
noncomputable def cF:FT (Opti×Unit) (aa) (λ_=>True) (λx v=>sS v∧v.length≤20):= .mk (λ(x0,_)=>
  .cal aM.c (x0,()) λc1=>
  .ite (!c1) (.ret [])<|
  .bnd (β:=aa×aa×Opti×Unit) (.as (λw=>sS w.1∧sS w.2.1∧w.2.1.length≤4) (.ite (x0.mss != 0) (.cal aA.c (x0.mss,2,()) λc2=>
    .grd (Nat.ble (2+c2.length) ao)<|
    .grd (Nat.ble (0+([2,4]++c2).length) ao)<|
    .ret ([],([]++([2,4]++c2)),x0,()))<|
   .ret ([],[],x0,()))) λ(u3a0,u3a1,u3a2,_)=>
  .bnd (β:=aa×aa×Opti×Unit) (.as (λw=>sS w.1∧sS w.2.1∧w.2.1.length≤7) (.ite (u3a2.scale != (-1)) (.cal aA.c (u3a2.scale,1,()) λc4=>
    .grd (Nat.ble (2+c4.length) ao)<|
    .grd (Nat.ble (u3a1.length+([3,3]++c4).length) ao)<|
    .ret (u3a0,(u3a1++([3,3]++c4)),u3a2,()))<|
   .ret (u3a0,u3a1,u3a2,()))) λ(u5a0,u5a1,u5a2,_)=>
  .bnd (β:=aa×aa×Opti×Unit) (.as (λw=>sS w.1∧sS w.2.1∧w.2.1.length≤9) (.ite u5a2.sack (.grd (Nat.ble (u5a1.length+2) ao)<|
    .ret (u5a0,(u5a1++[4,2]),u5a2,()))<|
   .ret (u5a0,u5a1,u5a2,()))) λ(u6a0,u6a1,u6a2,_)=>
  .bnd (β:=aa×aa×Unit) (.as (λw=>sS w.1∧sS w.2.1∧w.2.1.length≤19) (.ite u6a2.stamp (.cal aA.c (u6a2.val,4,()) λc7=>
    .grd (Nat.ble (2+c7.length) ao)<|
    .cal aA.c (u6a2.echo,4,()) λc8=>
    .grd (Nat.ble (([8,10]++c7).length+c8.length) ao)<|
    .grd (Nat.ble (u6a1.length+(([8,10]++c7)++c8).length) ao)<|
    .ret (u6a0,(u6a1++(([8,10]++c7)++c8)),()))<|
   .ret (u6a0,u6a1,()))) λ(_,u9a1,_)=>
  .lp (iY (u9a1,())).lp λp10a0=>
  .ret p10a0) (qU @BG)
noncomputable def Iu:=NI st Tryz.func293 [(0,lb [3] [2,3]),(1000009,CA),(1000018,AR),(1000026,AM),(1000030,AF)] [lu,kJ] 0 iY (ks:=[.st .opti]) cF (λv=>[(false,[.c (.str v)])])
noncomputable def tW:FT (aa×Unit) (Int) (λx=>sS x.1) (λ_ _=>True):= .mk λ(x0,_)=>
  .cal ru.c (x0,()) λc1=>
  .cal EG.c (c1,()) λc2=>
  .ret (IntKind.wrap .i64 (65535-c2))
noncomputable def Fg:=a9 st Tryz.func295 [Ua,Xx] (ks:=[.sc .str]) tW rI
noncomputable def rf:FT (Pack×Unit) (aa) (λx=>iZ x.1) (λx v=>sS v∧v.length≤1520):=⟨λ(x0,_)=>
  .cal md.c (x0,()) λc1=>
  .ite (!c1) (.ret [])<|
  .cal aA.c ((IntKind.wrap .i64 (20+(x0.body.length:Int))),2,()) λc2=>
  .grd (Nat.ble (2+c2.length) ao)<|
  .cal aA.c (x0.id,2,()) λc3=>
  .grd (Nat.ble (([69,0]++c2).length+c3.length) ao)<|
  .grd (Nat.ble ((([69,0]++c2)++c3).length+2) ao)<|
  .cal aA.c (x0.ttl,1,()) λc4=>
  .grd (Nat.ble (((([69,0]++c2)++c3)++[0,0]).length+c4.length) ao)<|
  .cal aA.c (x0.proto,1,()) λc5=>
  .grd (Nat.ble ((((([69,0]++c2)++c3)++[0,0])++c4).length+c5.length) ao)<|
  .cal aA.c (x0.src,4,()) λc6=>
  .cal aA.c (x0.dst,4,()) λc7=>
  .grd (Nat.ble (c6.length+c7.length) ao)<|
  .grd (Nat.ble (((((([69,0]++c2)++c3)++[0,0])++c4)++c5).length+2) ao)<|
  .grd (Nat.ble ((((((([69,0]++c2)++c3)++[0,0])++c4)++c5)++[0,0]).length+(c6++c7).length) ao)<|
  .val ((((((([69,0]++c2)++c3)++[0,0])++c4)++c5)++[0,0])++(c6++c7)) λe8=>
  .cal tW.c (e8,()) λc9=>
  .cal aA.c (c9,2,()) λc10=>
  .grd (Nat.ble (((((([69,0]++c2)++c3)++[0,0])++c4)++c5).length+c10.length) ao)<|
  .grd (Nat.ble ((((((([69,0]++c2)++c3)++[0,0])++c4)++c5)++c10).length+(c6++c7).length) ao)<|
  .val ((((((([69,0]++c2)++c3)++[0,0])++c4)++c5)++c10)++(c6++c7)) λe11=>
  .grd (Nat.ble (e11.length+x0.body.length) ao)<|
  .ret (e11++x0.body),
 λ(x0,_) hp=>by
  refine Tr.C trivial λc1 hc1 qc1=>Tr.I (λb0=>Tr.R ?_) λb0=>Tr.C trivial λc2 hc2 qc2=>Tr.Gb ?_ λg1=>Tr.C trivial λc3 hc3 qc3=>Tr.Gb ?_ λg2=>Tr.Gb ?_ λg3=>Tr.C trivial λc4 hc4 qc4=>Tr.Gb ?_ λg4=>Tr.C trivial λc5 hc5 qc5=>Tr.Gb ?_ λg5=>Tr.C trivial λc6 hc6 qc6=>Tr.C trivial λc7 hc7 qc7=>Tr.Gb ?_ λg6=>Tr.Gb ?_ λg7=>Tr.Gb ?_ λg8=>Tr.V λe8 he8=>Tr.C ?_ λc9 hc9 qc9=>Tr.C trivial λc10 hc10 qc10=>Tr.Gb ?_ λg9=>Tr.Gb ?_ λg10=>Tr.V λe11 he11=>Tr.Gb ?_ λg11=>Tr.R ?_
  all_goals ((first|(simp only[List.length_append,List.length_cons,List.length_nil,ao,sS]at*;omega)|grind))⟩
noncomputable def MS:=a9 st Tryz.func296 [RT,kJ,Fg] (ks:=[.st .pack]) rf (λv=>[(false,[.c (.str v)])])
noncomputable def P5:=[wT]
noncomputable def Q1:Fx:=⟨303,Tryz.f303,[(3000003,rA 0 14)],0⟩
noncomputable def oT:FT (Keys×Int×Unit) (Mac×Bool) (λx=>cU x.1) (λx v=>dV v.1):= .mk λ(x0,x1,_)=>
  .ite (x1==x0.epoch) (.cal kG.c (x0.now,()) λc1=>
   .ret (c1,true))<|
  .bnd (β:=Bool×Unit) (.ite x0.two (.ret ((x1==(IntKind.wrap .i64 (x0.epoch-1))),()))<|
   .ret (false,())) λ(u2a0,_)=>
  .ite u2a0 (.cal kG.c (x0.before,()) λc3=>
   .ret (c3,true))<|
  .ret ((⟨false,0,0,[]⟩:Mac),false)
noncomputable def QQ:=bS st Q1 P5 [] (ks:=[.st .keys,.sc (.int .i64)]) oT (λv=>[(true,KS (.o true) v.1),(false,[.c (.bool v.2)])]) Tryz.func303 trivial
noncomputable def kq:FT (Segm×Unit) (Segm×Bool) (λx=>am x.1) (λx v=>am v.1):= .mk λ(x0,_)=>
  .val (bp.f (x0,4,())) λc1=>
  .ite c1 (.ret ((⟨0,0,0,0,0,0,⟨0,0,false,false,0,0⟩,[]⟩:Segm),false))<|
  .val (bV.f (())) λc2=>
  .val (bp.f (x0,16,())) λc3=>
  .ite c3 (.ret ((⟨x0.to,x0.from_,x0.ack,0,4,0,c2,[]⟩:Segm),true))<|
  .cal aU.c (x0,()) λc4=>
  .val (bK.f (x0.seq,c4,())) λc5=>
  .ret ((⟨x0.to,x0.from_,0,c5,20,0,c2,[]⟩:Segm),true)
noncomputable def Rq:=a9 st Tryz.func305 [vW,jJ,sF,fo] (ks:=[.st .segm]) kq (λv=>[(true,oK v.1),(false,[.c (.bool v.2)])])
noncomputable def Sp:=[lu,jJ,ca,MB,fo,Hr]
def H8:An:=⟨⟨[],[],false,0⟩,⟨[1,2,4,5,8,10],[],false,0⟩,⟨[],[]⟩,[(.normal,⟨[zi 1,zi 2,zi 4,zp 5 0,zp 8 1,zp 10 2],[zx .tupl,zx .opti,.box [.st .conn [.nil .piec]]]⟩)]⟩
def HJ:An:=⟨⟨[],[],false,0⟩,⟨[1,2,4,5,8,10],[],false,0⟩,⟨[],[]⟩,[(.normal,⟨[zi 1,zi 2,zi 4,zp 5 0,zp 8 1,zp 10 2],[zx .tupl,zx .opti,.box [.st .conn [.nil .piec]]]⟩)]⟩
noncomputable def Uq:Fx:=⟨314,Tryz.f314,[(1000014,H8),(1000018,HJ)],0⟩
noncomputable def uZ:FT (Tupl×Int×Int×Opti×Int×Unit) (Conn) (λ_=>True) (λx v=>ac v):= .mk λ(x0,x1,x2,x3,x4,_)=>
  .cal aM.c (x3,()) λc1=>
  .bnd (β:=Int×Int×Int×Tupl×Opti×Conn×Unit) (.as (λw=>ac w.2.2.2.2.2.1) (.ite (!c1) (.val (bV.f (())) λc2=>
    .ret (x1,x2,x4,x0,c2,(⟨⟨0,0,0⟩,0,⟨0,[],0,false,false,false⟩,⟨0,[],[],0,false⟩,0,0,⟨0,0,false,false,0,0⟩,0,0⟩:Conn),()))<|
   .ret (x1,x2,x4,x0,x3,(⟨⟨0,0,0⟩,0,⟨0,[],0,false,false,false⟩,⟨0,[],[],0,false⟩,0,0,⟨0,0,false,false,0,0⟩,0,0⟩:Conn),()))) λ(u3a0,u3a1,u3a2,u3a3,u3a4,u3a5,_)=>
  .cal ae.c (u3a2,16,()) λc4=>
  .bnd (β:=Int×Int×Int×Tupl×Opti×Conn×Unit) (.as (λw=>ac w.2.2.2.2.2.1) (.ite (!c4) (.ret (u3a0,u3a1,0,u3a3,u3a4,({u3a5 with r.held:=[]}:Conn),()))<|
   .ret (u3a0,u3a1,u3a2,u3a3,u3a4,({u3a5 with r.held:=[]}:Conn),()))) λ(u5a0,u5a1,u5a2,u5a3,u5a4,_,_)=>
  .cal ya.c (u5a2,u5a4,()) λc6=>
  .val (bK.f (u5a0,1,())) λc7=>
  .val (bK.f (u5a1,1,())) λc8=>
  .cal jD.c (c8,()) λc9=>
  .ret (⟨u5a3,1,⟨c7,[],0,false,false,false⟩,c9,c6,c6,u5a4,0,0⟩:Conn)
noncomputable def VO:=bS st Uq Sp [] (ks:=[.st .tupl,.sc (.int .i64),.sc (.int .i64),.st .opti,.sc (.int .i64)]) uZ (λv=>[(true,fh (.o true) v)]) Tryz.func314 trivial
noncomputable def Cs:=[jJ,Ol,VM]
noncomputable def B9:Fx:=⟨315,Tryz.f315,[(3000004,rA 0 24)],0⟩
noncomputable def bL:FT (Int×Opti×Unit) (Opti) (λ_=>True) (λ_ _=>True):= .mk λ(x0,x1,_)=>
  .val (bV.f (())) λc1=>
  .cal gb.c (x0,()) λc2=>
  .cal mA.c (x1.echo,()) λc3=>
  .bnd (β:=Bool×Unit) (.ite x1.stamp (.ret (c3.2.2,()))<|
   .ret (false,())) λ(u4a0,_)=>
  .ite u4a0 (.ret (⟨c2,c3.1,c3.2.1,true,x1.val,c1.echo⟩:Opti))<|
  .ret ({c1 with mss:=c2}:Opti)
noncomputable def BF:=bS st B9 Cs [] (ks:=[.sc (.int .i64),.st .opti]) bL (λv=>[(true,oU v)]) Tryz.func315 trivial
noncomputable def tX:FT (aa×Unit) (Int) (λx=>sS x.1) (λ_ _=>True):= .mk λ(x0,_)=>
  .cal z8.c (x0,()) λc1=>
  .cal Ey.c (c1,()) λc2=>
  .ret (IntKind.wrap .i64 (65535-c2))
noncomputable def Ad:=a9 st Tryz.func355 [TZ,WD] (ks:=[.sc .str]) tX rI
noncomputable def wR:FT (Segm×Unit) (Segm×Bool) (λx=>am x.1) (λx v=>am v.1):= .mk λ(x0,_)=>
  .val (gn.f (x0,4,())) λc1=>
  .ite c1 (.ret ((⟨0,0,0,0,0,0,⟨0,0,false,false,0,0⟩,[]⟩:Segm),false))<|
  .val (bX.f (())) λc2=>
  .val (gn.f (x0,16,())) λc3=>
  .ite c3 (.ret ((⟨x0.to,x0.from_,x0.ack,0,4,0,c2,[]⟩:Segm),true))<|
  .cal i2.c (x0,()) λc4=>
  .val (bJ.f (x0.seq,c4,())) λc5=>
  .ret ((⟨x0.to,x0.from_,0,c5,20,0,c2,[]⟩:Segm),true)
noncomputable def QA:=a9 st Tryz.func358 [wV,eA,sW,dh] (ks:=[.st .segm]) wR (λv=>[(true,oK v.1),(false,[.c (.bool v.2)])])
noncomputable def S5:=[lE,eA,cc,mw,dh,xt]
def HG:An:=⟨⟨[],[],false,0⟩,⟨[1,2,4,5,8,10],[],false,0⟩,⟨[],[]⟩,[(.normal,⟨[zi 1,zi 2,zi 4,zp 5 0,zp 8 1,zp 10 2],[zx .tupl,zx .opti,.box [.st .conn [.nil .piec]]]⟩)]⟩
def Hs:An:=⟨⟨[],[],false,0⟩,⟨[1,2,4,5,8,10],[],false,0⟩,⟨[],[]⟩,[(.normal,⟨[zi 1,zi 2,zi 4,zp 5 0,zp 8 1,zp 10 2],[zx .tupl,zx .opti,.box [.st .conn [.nil .piec]]]⟩)]⟩
noncomputable def U9:Fx:=⟨365,Tryz.f365,[(1000014,HG),(1000018,Hs)],0⟩
noncomputable def ry:FT (Tupl×Int×Int×Opti×Int×Unit) (Conn) (λ_=>True) (λx v=>ac v):= .mk λ(x0,x1,x2,x3,x4,_)=>
  .cal eT.c (x3,()) λc1=>
  .bnd (β:=Int×Int×Int×Tupl×Opti×Conn×Unit) (.as (λw=>ac w.2.2.2.2.2.1) (.ite (!c1) (.val (bX.f (())) λc2=>
    .ret (x1,x2,x4,x0,c2,(⟨⟨0,0,0⟩,0,⟨0,[],0,false,false,false⟩,⟨0,[],[],0,false⟩,0,0,⟨0,0,false,false,0,0⟩,0,0⟩:Conn),()))<|
   .ret (x1,x2,x4,x0,x3,(⟨⟨0,0,0⟩,0,⟨0,[],0,false,false,false⟩,⟨0,[],[],0,false⟩,0,0,⟨0,0,false,false,0,0⟩,0,0⟩:Conn),()))) λ(u3a0,u3a1,u3a2,u3a3,u3a4,u3a5,_)=>
  .cal aI.c (u3a2,16,()) λc4=>
  .bnd (β:=Int×Int×Int×Tupl×Opti×Conn×Unit) (.as (λw=>ac w.2.2.2.2.2.1) (.ite (!c4) (.ret (u3a0,u3a1,0,u3a3,u3a4,({u3a5 with r.held:=[]}:Conn),()))<|
   .ret (u3a0,u3a1,u3a2,u3a3,u3a4,({u3a5 with r.held:=[]}:Conn),()))) λ(u5a0,u5a1,u5a2,u5a3,u5a4,_,_)=>
  .val (fD.f (0,u5a4.scale,())) λc6=>
  .grd (decide (0≤(IntKind.wrap .u64 c6)))<|
  .val (bJ.f (u5a0,1,())) λc7=>
  .val (bJ.f (u5a1,1,())) λc8=>
  .cal lv.c (c8,()) λc9=>
  .ret (⟨u5a3,1,⟨c7,[],0,false,false,false⟩,c9,(IntKind.wrap .i64 (u5a2*2 ^ (min (IntKind.wrap .u64 c6).toNat 64))),(IntKind.wrap .i64 (u5a2*2 ^ (min (IntKind.wrap .u64 c6).toNat 64))),u5a4,0,0⟩:Conn)
noncomputable def Gt:=bS st U9 S5 [] (ks:=[.st .tupl,.sc (.int .i64),.sc (.int .i64),.st .opti,.sc (.int .i64)]) ry (λv=>[(true,fh (.o true) v)]) Tryz.func365 trivial
def sN:Sh:=⟨[zs 3],[]⟩
def Ca:An:=⟨⟨[],[],false,0⟩,⟨[1,2,3],[],false,0⟩,⟨[],[]⟩,[(.normal,⟨[zp 1 0,zs 2,zs 3],[zx .opti]⟩)]⟩
def AL:An:=⟨⟨[],[],false,0⟩,⟨[1,2,3],[],false,0⟩,⟨[],[]⟩,[(.normal,⟨[zp 1 0,zs 2,zs 3],[zx .opti]⟩)]⟩
def AJ:An:=⟨⟨[],[],false,0⟩,⟨[1,2,3],[],false,0⟩,⟨[],[]⟩,[(.normal,⟨[zp 1 0,zs 2,zs 3],[zx .opti]⟩)]⟩
def AK:An:=⟨⟨[],[],false,0⟩,⟨[2,3],[],false,0⟩,⟨[],[]⟩,[(.normal,⟨[zs 2,zs 3],[]⟩)]⟩
noncomputable def tg (a:aa):Tr (Stp (aa) ((aa))):=
 .ite (((a.length:Int).tmod 4) != 0) (.grd (Nat.ble (a.length+1) ao)<|
  .ret (.next (a++[1])))<|
 .ret (.out a)
noncomputable def jk:sN.V→LW sN (aa) ((aa)):=λ(v0,_)=>⟨v0,λa=>(a,()),tg,(4-v0.length%4)%4,oN (.exit 0) ⟨[zu 2,zs 3],[]⟩ (λp=>(p,()))⟩
theorem BL {v0:aa}(h0:v0.length+(4-v0.length%4)%4≤20):(jk (v0,())).W (λp=>p.length≤20):=
 lwW (a:=v0) (λa=>a.length+(4-a.length%4)%4≤20) (λa=>(4-a.length%4)%4) h0
noncomputable def pL:FT (Opti×Unit) (aa) (λ_=>True) (λx v=>sS v∧v.length≤20):= .mk (λ(x0,_)=>
  .cal eT.c (x0,()) λc1=>
  .ite (!c1) (.ret [])<|
  .bnd (β:=aa×aa×Opti×Unit) (.as (λw=>sS w.1∧sS w.2.1∧w.2.1.length≤4) (.ite (x0.mss != 0) (.cal aX.c (x0.mss,2,()) λc2=>
    .grd (Nat.ble (2+c2.length) ao)<|
    .ret ([],([2,4]++c2),x0,()))<|
   .ret ([],[],x0,()))) λ(u3a0,u3a1,u3a2,_)=>
  .bnd (β:=aa×aa×Opti×Unit) (.as (λw=>sS w.1∧sS w.2.1∧w.2.1.length≤7) (.ite (decide (0≤u3a2.scale)) (.grd (Nat.ble (u3a1.length+2) ao)<|
    .cal aX.c (u3a2.scale,1,()) λc4=>
    .grd (Nat.ble ((u3a1++[3,3]).length+c4.length) ao)<|
    .ret (u3a0,((u3a1++[3,3])++c4),u3a2,()))<|
   .ret (u3a0,u3a1,u3a2,()))) λ(u5a0,u5a1,u5a2,_)=>
  .bnd (β:=aa×aa×Opti×Unit) (.as (λw=>sS w.1∧sS w.2.1∧w.2.1.length≤9) (.ite u5a2.sack (.grd (Nat.ble (u5a1.length+2) ao)<|
    .ret (u5a0,(u5a1++[4,2]),u5a2,()))<|
   .ret (u5a0,u5a1,u5a2,()))) λ(u6a0,u6a1,u6a2,_)=>
  .bnd (β:=aa×aa×Unit) (.as (λw=>sS w.1∧sS w.2.1∧w.2.1.length≤19) (.ite u6a2.stamp (.grd (Nat.ble (u6a1.length+2) ao)<|
    .cal aX.c (u6a2.val,4,()) λc7=>
    .grd (Nat.ble ((u6a1++[8,10]).length+c7.length) ao)<|
    .cal aX.c (u6a2.echo,4,()) λc8=>
    .grd (Nat.ble (((u6a1++[8,10])++c7).length+c8.length) ao)<|
    .ret (u6a0,(((u6a1++[8,10])++c7)++c8),()))<|
   .ret (u6a0,u6a1,()))) λ(_,u9a1,_)=>
  .lp (jk (u9a1,())).lp λp10a0=>
  .ret p10a0) (qU @BL)
noncomputable def Hv:=NI st Tryz.func369 [(0,lb [3] [2,3]),(1000009,Ca),(1000018,AL),(1000026,AJ),(1000030,AK)] [lE,ku] 0 jk (ks:=[.st .opti]) pL (λv=>[(false,[.c (.str v)])])
noncomputable def QT:=[cc,cy]
noncomputable def P9:Fx:=⟨371,Tryz.f371,[(3000001,rA 0 21),(3000003,rA 0 36)],0⟩
noncomputable def fj:FT (Sndr×Unit) (Bool) (λ_=>True) (λx v=>(v=true↔SO x.1)):= .mk λ(x0,_)=>
  .bnd (β:=Bool×Unit) (.cal aI.c (x0.una,32,()) λc1=>
   .ite (!c1) (.ret (true,()))<|
   .ite (decide (48<(x0.data.length:Int))) (.ret (true,()))<|
   .val (ce.f (x0.sent,0,(x0.data.length:Int),())) λc2=>
   .ret ((!c2),())) λ(u3a0,_)=>
  .ite u3a0 (.ret false)<|
  .bnd (β:=Bool×Unit) (.ite x0.finSent (.ite (!x0.fin) (.ret (true,()))<|
    .ret ((x0.sent != (x0.data.length:Int)),()))<|
   .ret (false,())) λ(u4a0,_)=>
  .ite u4a0 (.ret false)<|
  .ite (!x0.done) (.ret true)<|
  .ite x0.fin (.ite (!x0.finSent) (.ret (x0.data==[]))<|
   .ret false)<|
  .ret false
noncomputable def kU:=bS st P9 QT [] (ks:=[.st .sndr]) fj rB Tryz.func371 trivial
def uf:Sh:=⟨[zp 1 0,zi 3,zi 4,zi 5],[zg .recv]⟩
noncomputable def eZ (v0:Int)(v3:Recv)(v2:Int)(a:Int):Tr (Stp (Int) ((Int))):=
 .grd (cG v3.held v2)<|
 .bnd (β:=Bool×Unit) (.ite ((v3.held.getD v2.toNat (Ty.zero .piec)).text==[]) (.ret (true,()))<|
  .ite (decide ((v3.held.getD v2.toNat (Ty.zero .piec)).off≤a)) (.ret (true,()))<|
  .ite (decide (v0<(v3.held.getD v2.toNat (Ty.zero .piec)).off)) (.ret (true,()))<|
  .val (IntKind.wrap .i64 ((v3.held.getD v2.toNat (Ty.zero .piec)).off+(((v3.held.getD v2.toNat (Ty.zero .piec)).text).length:Int))) λe5=>
  .ret ((decide (v0<e5)),())) λ(u6a0,_)=>
 .ite u6a0 (.ret (.out a))<|
 .val (IntKind.wrap .i64 ((v3.held.getD v2.toNat (Ty.zero .piec)).off+(((v3.held.getD v2.toNat (Ty.zero .piec)).text).length:Int))) λe7=>
 .ret (.next e7)
noncomputable def gE:uf.V→tq uf Int (Int):=λ(v0,v1,v2,v3,_)=>⟨v2,v1,λv2 a=>(v0,a,v2,v3,()),λv2 _=>(decide (v2<(v3.held.length:Int))),eZ v0 v3,up,1,(Int.toNat ((v3.held.length:Int)-v2)),.inl,eR,oB .ret ⟨[zp 1 0,zb 2,zi 4],[zg .recv]⟩ (λp=>(false,p,v3,())) (.exit 0) ⟨[zp 1 0,zu 2,zi 4],[zg .recv]⟩ (λx=>(x.2,v3,()))⟩
theorem DP {v0 v1 v2:Int}{v3:Recv}(h0:0≤v2)(h1:(v3.held.length:Int)≤4611686018427387904)(h2:v0≤32)(h3:0≤v0)(h4:ay v3)(h5:0≤v1∧v1≤32∧dg po (v3.held.take v2.toNat)):(gE (v0,v1,v2,v3,())).U (v3.held.length:Int) (λv2 a=>0≤a∧a≤32∧dg po (v3.held.take v2.toNat)) (λ_=>True):=
 LC.okU (i:=v2) (a:=v1) (λ_ _=>rfl) (λ_=>rfl) rfl h0 h1 h5 λv2 v1 hj hk hv=>by
  refine Tr.G2 ?_ λ_=>Tr.B (Q':=λ_=>True) (Tr.F (by kernel_rfl) trivial) (λ(u6a0,_) _ _=>Tr.I (λ_=>Tr.Ro trivial) λ_=>Tr.V λ_ _=>Tr.Rn ?_)
  all_goals ((try simp only[Tr.nice,j5]at*)<;>grind [←adl])
noncomputable def lc:FT (Recv×Unit) (Bool) (λx=>ay x.1) (λx v=>(v=true→RO x.1)):=⟨λ(x0,_)=>
  .cal gO.c (x0,()) λc1=>
  .bnd (β:=Bool×Unit) (.cal aI.c (x0.next,32,()) λc2=>
   .ite (!c2) (.ret (true,()))<|
   .ite (decide (32<(x0.data.length:Int))) (.ret (true,()))<|
   .ite (decide (3<(x0.held.length:Int))) (.ret (true,()))<|
   .val (ce.f (x0.fin,(-1),c1,())) λc3=>
   .ite (!c3) (.ret (true,()))<|
   .ret ((x0.fin==0),())) λ(u4a0,_)=>
  .ite u4a0 (.ret false)<|
  .lp (gE (c1,0,0,x0,())).lp λw8=> .sum w8 (λ_=>
  .ret false)<|
  λ(_,a8_0)=>
  .ite (decide (x0.fin<0)) (.ite (!x0.done) (.ret true)<|
   .ite ((x0.held.length:Int)==0) (.ret (x0.fin==(-1)))<|
   .ret false)<|
  .ite (decide (a8_0≤x0.fin)) (.ite (!x0.done) (.ret true)<|
   .ite ((x0.held.length:Int)==0) (.ret (x0.fin==(-1)))<|
   .ret false)<|
  .ret false,
 λ(x0,_) hp=>by
  refine Tr.C ?_ λ_ _ _=>Tr.B (Q':=λ_=>True) (Tr.C trivial λ_ _ _=>Tr.F (by kernel_rfl) trivial) (λ(u4a0,_) _ _=>Tr.I (λ_=>Tr.R ?_) λ_=>Tr.L (DP ?_ ?_ ?_ ?_ ?_ ?_) (λa8_0 _=>Tr.Sr (Tr.I (λ_=>Tr.I (λ_=>Tr.R ?_) λ_=>Tr.I (λ_=>Tr.R ?_) λ_=>Tr.R ?_) λ_=>Tr.I (λ_=>Tr.I (λ_=>Tr.R ?_) λ_=>Tr.I (λ_=>Tr.R ?_) λ_=>Tr.R ?_) λ_=>Tr.R ?_)) (λp8a0 _=>Tr.Sl (Tr.R ?_)))
  all_goals ((try simp only[gE,LC.lp,LC.ct,Ct.lp,Tr.nice,j5]at*)<;>grind [aeB])⟩
noncomputable def sJ:=eE st Tryz.func372 [(0,lb [1,3,4,5] [1,2,4]),(3000002,rA 0 36),(3000009,rA 0 73)] [kQ,cc,cy] 0 gE (ks:=[.st .recv]) lc rB
noncomputable def zD:FT (Sndr×Unit) (Int) (λx=>bZ x.1) (λ_ _=>True):= .mk λ(x0,_)=>
  .cal gN.c (x0,()) λc1=>
  .val (bJ.f (x0.una,c1,())) λc2=>
  .ret c2
noncomputable def Jt:=a9 st Tryz.func374 [jg,dh] (ks:=[.st .sndr]) zD rI
noncomputable def Nz:=[kU,ot,mw,jg,Jt]
noncomputable def NR:Fx:=⟨375,Tryz.f375,[(3000007,rA 0 79)],0⟩
noncomputable def p8:FT (Sndr×Int×Int×Unit) (Chun×Bool) (λx=>bZ x.1) (λx v=>qK v.1∧(v.2=true→SO x.1∧(v.1.text.length:Int)+x.1.sent≤x.1.data.length∧x.1.finSent=false∧(v.1.text=[]→v.1.fin=true)∧(v.1.fin=true→x.1.fin=true∧x.1.done=false∧x.1.sent+v.1.text.length=x.1.data.length))):=⟨λ(x0,x1,x2,_)=>
  .cal fj.c (x0,()) λc1=>
  .ite (!c1) (.ret ((⟨0,[],false⟩:Chun),false))<|
  .val (jZ.f (x1,1000000,())) λc2=>
  .val (fD.f (0,c2,())) λc3=>
  .cal gN.c (x0,()) λc4=>
  .val (fD.f (0,(IntKind.wrap .i64 (c3-c4)),())) λc5=>
  .val (jZ.f (x2,c5,())) λc6=>
  .val (jZ.f (c6,(IntKind.wrap .i64 ((x0.data.length:Int)-x0.sent)),())) λc7=>
  .val (fD.f (0,c7,())) λc8=>
  .cal zD.c (x0,()) λc9=>
  .grd (KN x0.data x0.sent (IntKind.wrap .i64 (x0.sent+c8)))<|
  .val ((x0.data.take ((IntKind.wrap .i64 (x0.sent+c8)).toNat)).drop x0.sent.toNat) λe10=>
  .ite x0.fin (.ite (!x0.finSent) (.ite (!x0.done) (.ite ((IntKind.wrap .i64 (x0.sent+c8))==(x0.data.length:Int)) (.bnd (β:=Bool×Unit) (.ite (c8==0) (.ret ((!(decide (c8<c5))),()))<|
       .ret (false,())) λ(u11a0,_)=>
      .ite u11a0 (.ret ((⟨0,[],false⟩:Chun),false))<|
      .ret ((⟨c9,e10,(decide (c8<c5))⟩:Chun),true))<|
     .bnd (β:=Bool×Unit) (.ite (c8==0) (.ret (true,()))<|
      .ret (false,())) λ(u12a0,_)=>
     .ite u12a0 (.ret ((⟨0,[],false⟩:Chun),false))<|
     .ret ((⟨c9,e10,false⟩:Chun),true))<|
    .bnd (β:=Bool×Unit) (.ite (c8==0) (.ret (true,()))<|
     .ret (false,())) λ(u13a0,_)=>
    .ite u13a0 (.ret ((⟨0,[],false⟩:Chun),false))<|
    .ret ((⟨c9,e10,false⟩:Chun),true))<|
   .bnd (β:=Bool×Unit) (.ite (c8==0) (.ret (true,()))<|
    .ret (false,())) λ(u14a0,_)=>
   .ite u14a0 (.ret ((⟨0,[],false⟩:Chun),false))<|
   .ret ((⟨c9,e10,false⟩:Chun),true))<|
  .bnd (β:=Bool×Unit) (.ite (c8==0) (.ret (true,()))<|
   .ret (false,())) λ(u15a0,_)=>
  .ite u15a0 (.ret ((⟨0,[],false⟩:Chun),false))<|
  .ret ((⟨c9,e10,false⟩:Chun),true),
 λ(x0,x1,x2,_) hp=>by
  refine Tr.C trivial λc1 hc1 qc1=>Tr.I (λb0=>Tr.R ?_) λb0=>Tr.V λc2 hc2=>Tr.V λc3 hc3=>Tr.C ?_ λc4 hc4 qc4=>Tr.V λc5 hc5=>Tr.V λc6 hc6=>Tr.V λc7 hc7=>Tr.V λc8 hc8=>Tr.C ?_ λc9 hc9 qc9=>Tr.G3 ?_ λg1=>Tr.V λe10 he10=>Tr.I (λb2=>Tr.I (λb3=>Tr.I (λb4=>Tr.I (λb5=>Tr.B (Q':=λ_=>True) (Tr.F (by kernel_rfl) trivial) (λ(u11a0,_) hj11 qj11=>Tr.I (λb6=>Tr.R ?_) λb6=>Tr.R ?_)) λb5=>Tr.B (Q':=λ_=>True) (Tr.F (by kernel_rfl) trivial) (λ(u12a0,_) hj12 qj12=>Tr.I (λb6=>Tr.R ?_) λb6=>Tr.R ?_)) λb4=>Tr.B (Q':=λ_=>True) (Tr.F (by kernel_rfl) trivial) (λ(u13a0,_) hj13 qj13=>Tr.I (λb5=>Tr.R ?_) λb5=>Tr.R ?_)) λb3=>Tr.B (Q':=λ_=>True) (Tr.F (by kernel_rfl) trivial) (λ(u14a0,_) hj14 qj14=>Tr.I (λb4=>Tr.R ?_) λb4=>Tr.R ?_)) λb2=>Tr.B (Q':=λ_=>True) (Tr.F (by kernel_rfl) trivial) (λ(u15a0,_) hj15 qj15=>Tr.I (λb3=>Tr.R ?_) λb3=>Tr.R ?_)
  all_goals ((try simp only[Tr.nice,j5]at*)<;>(first|grind|(have hs:SO x0:=(by grind);have h7:c7≤(x0.data.length:Int)-x0.sent:=(by rw[hc7,kA,aq (by grind) (by grind)];split<;>omega);have h8:0≤c8∧c8≤(x0.data.length:Int)-x0.sent:=(by rw[hc8,mt];have:=hs.2.2.2.2.1;split<;>omega);clear hc7 hc8 hc4 hc2 hc3 hc6 hc5;grind)))⟩
noncomputable def Bu:=bS st NR Nz [] (ks:=[.st .sndr,.sc (.int .i64),.sc (.int .i64)]) p8 (λv=>[(true,abQ v.1),(false,[.c (.bool v.2)])]) Tryz.func375 trivial
noncomputable def mF:FT (Sndr×Chun×Unit) (Sndr) (λx=>bZ x.1∧qK x.2.1) (λx v=>bZ v∧(SO x.1→(x.2.1.text.length:Int)+x.1.sent≤x.1.data.length→x.1.finSent=false→(x.2.1.fin=true→x.1.fin=true∧x.1.done=false∧x.1.sent+x.2.1.text.length=x.1.data.length)→v={x.1 with sent:=x.1.sent+x.2.1.text.length,finSent:=x.2.1.fin})):= .mk λ(x0,x1,_)=>
  .ite x0.finSent (.cal fj.c (x0,()) λc1=>
   .ite (!c1) (.ret x0)<|
   .cal fj.c (({x0 with sent:=(IntKind.wrap .i64 (x0.sent+(x1.text.length:Int))),finSent:=true}:Sndr),()) λc2=>
   .ite (!c2) (.ret x0)<|
   .ite x1.fin (.ite x0.done (.ret x0)<|
    .ret ({x0 with sent:=(IntKind.wrap .i64 (x0.sent+(x1.text.length:Int))),finSent:=true}:Sndr))<|
   .ret ({x0 with sent:=(IntKind.wrap .i64 (x0.sent+(x1.text.length:Int))),finSent:=true}:Sndr))<|
  .cal fj.c (x0,()) λc3=>
  .ite (!c3) (.ret x0)<|
  .cal fj.c (({x0 with sent:=(IntKind.wrap .i64 (x0.sent+(x1.text.length:Int))),finSent:=x1.fin}:Sndr),()) λc4=>
  .ite (!c4) (.ret x0)<|
  .ite x1.fin (.ite x0.done (.ret x0)<|
   .ret ({x0 with sent:=(IntKind.wrap .i64 (x0.sent+(x1.text.length:Int))),finSent:=x1.fin}:Sndr))<|
  .ret ({x0 with sent:=(IntKind.wrap .i64 (x0.sent+(x1.text.length:Int))),finSent:=x1.fin}:Sndr)
noncomputable def Gi:=a9 st Tryz.func377 [kU] (ks:=[.st .sndr,.st .chun]) mF (λv=>[(true,uo v)])
noncomputable def nl:FT (Conn×Unit) (Bool) (λx=>ac x.1) (λ_ _=>True):= .mk λ(x0,_)=>
  .cal aO.c (x0,()) λc1=>
  .ite c1 (.ite (x0.state==7) (.ret true)<|
   .ite (x0.state != 8) (.val (CI.f (x0,())) λc2=>
    .ret c2)<|
   .ret false)<|
  .ret false
noncomputable def Zw:=a9 st Tryz.func385 [gP,Yj] (ks:=[.st .conn]) nl rB
noncomputable def gZ:FT (Sndr×Unit) (Int) (λx=>bZ x.1) (λ_ _=>True):= .mk λ(x0,_)=>
  .cal dz.c (x0,()) λc1=>
  .val (bK.f (x0.una,c1,())) λc2=>
  .ret c2
noncomputable def KO:=a9 st Tryz.func391 [rP,fo] (ks:=[.st .sndr]) gZ rI
noncomputable def oC:FF (Int×Int×Int×Unit) (Bool):=⟨λ(x0,x1,x2,_)=>
  .ite (decide (4294967295<x2)) (.ret true)<|
  .ite (decide (1≤x2)) (.val (tv.f (x0,x1,())) λc1=>
   .ret (decide (c1<x2)))<|
  .ret false⟩
noncomputable def vZ:=ly st Tryz.func397 [F6] (ks:=[.sc (.int .i64),.sc (.int .i64),.sc (.int .i64)]) oC rB
noncomputable def Am:FT (Conn×Int×Unit) (Bool) (λx=>ac x.1) (λ_ _=>True):= .mk λ(x0,x1,_)=>
  .val (β:=Int) (if 0<(if 2147483648<x0.most then 2147483648 else x0.most)then(if 2147483648<x0.most then 2147483648 else x0.most)else 0) λe1=>
  .val (rD.f (x1,x0.s.una,())) λc2=>
  .cal dz.c (x0.s,()) λc3=>
  .val (bk.f (c2,(IntKind.wrap .i64 (0-e1)),c3,())) λc4=>
  .ret c4
noncomputable def T8:=a9 st Tryz.func399 [yj,rP,bI] (ks:=[.st .conn,.sc (.int .i64)]) Am rB
noncomputable def ZS:=[yj,le,rP,bI,fo]
noncomputable def Zp:Fx:=⟨400,Tryz.f400,[(3000002,rA 0 22)],0⟩
noncomputable def I6:FT (Sndr×Int×Unit) (Sndr×Bool) (λx=>bZ x.1) (λx v=>bZ v.1):= .mk λ(x0,x1,_)=>
  .val (rD.f (x1,x0.una,())) λc1=>
  .bnd (β:=Bool×Unit) (.as (λw=>(w.1=false→SO x0)) (.cal bj.c (x0,()) λc2=>
   .ite (!c2) (.ret (true,()))<|
   .cal dz.c (x0,()) λc3=>
   .val (bk.f (c1,0,c3,())) λc4=>
   .ret ((!c4),()))) λ(u5a0,_)=>
  .ite u5a0 (.ret (x0,false))<|
  .grd (KN x0.data (if(x0.data.length:Int)<c1 then(x0.data.length:Int)else c1) (x0.data.length:Int))<|
  .val ((x0.data.take ((x0.data.length:Int).toNat)).drop ((if(x0.data.length:Int)<c1 then(x0.data.length:Int)else c1).toNat)) λe6=>
  .val (bK.f (x0.una,c1,())) λc7=>
  .val (IntKind.wrap .i64 (x0.sent-(if(x0.data.length:Int)<c1 then(x0.data.length:Int)else c1))) λe8=>
  .ite (c1==(IntKind.wrap .i64 (x0.sent+1))) (.ret ((⟨c7,e6,e8,x0.fin,false,true⟩:Sndr),true))<|
  .ret (({x0 with una:=c7,data:=e6,sent:=e8}:Sndr),true)
noncomputable def aaa:=bS st Zp ZS [] (ks:=[.st .sndr,.sc (.int .i64)]) I6 (λv=>[(true,uo v.1),(false,[.c (.bool v.2)])]) Tryz.func400 trivial
noncomputable def EP:=[bI,Vj]
def xX:An:=⟨⟨[],[],false,0⟩,⟨[1,2,4,5],[],false,0⟩,⟨[],[]⟩,[(.normal,⟨[zi 1,zp 2 0,zp 4 1,zp 5 2],[zx .opti,zx .opti,zx .opti]⟩)]⟩
noncomputable def DD:Fx:=⟨406,Tryz.f406,[(1000013,xX)],0⟩
noncomputable def gh:FF (Opti×Int×Unit) (Opti):=⟨λ(x0,x1,_)=>
  .ite (!x0.stamp) (.ret (⟨1460,(-1),false,false,0,0⟩:Opti))<|
  .val (bk.f (x0.scale,0,14,())) λc1=>
  .bnd (β:=Int×Opti×Opti×Opti×Unit) (.ite c1 (.ret (x1,x0,(⟨0,0,false,false,0,0⟩:Opti),(⟨1460,0,false,false,0,0⟩:Opti),()))<|
   .ret (x1,x0,(⟨0,0,false,false,0,0⟩:Opti),(⟨1460,(-1),false,false,0,0⟩:Opti),())) λ(u2a0,u2a1,_,u2a3,_)=>
  .val (ov.f (u2a0,u2a1.scale,u2a1.sack,())) λc3=>
  .ret (⟨u2a3.mss,u2a3.scale,u2a1.sack,true,c3,u2a1.val⟩:Opti)⟩
noncomputable def EL:=YL st DD EP [] (ks:=[.st .opti,.sc (.int .i64)]) gh (λv=>[(true,oU v)]) Tryz.func406 trivial
noncomputable def zW:FT (Fram×Unit) (Bool) (λ_=>True) (λx v=>(v=true→x.1.body.length≤1586)):= .mk λ(x0,_)=>
  .cal aI.c (x0.dst,48,()) λc1=>
  .ite c1 (.cal aI.c (x0.src,48,()) λc2=>
   .ite c2 (.val (ce.f (x0.type,1536,65535,())) λc3=>
    .ite c3 (.ret (decide ((x0.body.length:Int)≤1586)))<|
    .ret false)<|
   .ret false)<|
  .ret false
noncomputable def SH:=a9 st Tryz.func410 [cc,cy] (ks:=[.st .fram]) zW rB
noncomputable def iX:FT (Sipr×Unit) (Sipr) (λ_=>True) (λ_ _=>True):= .mk λ(x0,_)=>
  .cal kV.c (x0.b,13,()) λc1=>
  .cal kV.c ((IntKind.wrap .u64 (x0.a+x0.b)),32,()) λc2=>
  .cal kV.c (x0.d,16,()) λc3=>
  .val (IntKind.wrap .u64 (c2+(bits .xor .u64 c3 (IntKind.wrap .u64 (x0.c+x0.d))))) λe4=>
  .cal kV.c ((bits .xor .u64 c3 (IntKind.wrap .u64 (x0.c+x0.d))),21,()) λc5=>
  .val (IntKind.wrap .u64 ((IntKind.wrap .u64 (x0.c+x0.d))+(bits .xor .u64 c1 (IntKind.wrap .u64 (x0.a+x0.b))))) λe6=>
  .cal kV.c ((bits .xor .u64 c1 (IntKind.wrap .u64 (x0.a+x0.b))),17,()) λc7=>
  .cal kV.c (e6,32,()) λc8=>
  .ret (⟨e4,(bits .xor .u64 c7 e6),c8,(bits .xor .u64 c5 e4)⟩:Sipr)
noncomputable def EE:=a9 st Tryz.func428 [U7] (ks:=[.st .sipr]) iX (λv=>[(true,Fu v)])
noncomputable def Db:FT (Arpm×Unit) (Bool) (λ_=>True) (λ_ _=>True):= .mk λ(x0,_)=>
  .val (ce.f (x0.kind,1,2,())) λc1=>
  .ite c1 (.cal aI.c (x0.srcHw,48,()) λc2=>
   .ite c2 (.cal aI.c (x0.dstHw,48,()) λc3=>
    .ite c3 (.cal aI.c (x0.srcIp,32,()) λc4=>
     .ite c4 (.cal aI.c (x0.dstIp,32,()) λc5=>
      .ret c5)<|
     .ret false)<|
    .ret false)<|
   .ret false)<|
  .ret false
noncomputable def PH:=a9 st Tryz.func429 [cy,cc] (ks:=[.st .arpm]) Db rB
noncomputable def DR:=[cy,VP]
def xW:An:=⟨⟨[],[],false,0⟩,⟨[1,2,4,5],[],false,0⟩,⟨[],[]⟩,[(.normal,⟨[zi 1,zp 2 0,zp 4 1,zp 5 2],[zx .opti,zx .opti,zx .opti]⟩)]⟩
noncomputable def C3:Fx:=⟨436,Tryz.f436,[(1000013,xW)],0⟩
noncomputable def lW:FF (Opti×Int×Unit) (Opti):=⟨λ(x0,x1,_)=>
  .ite (!x0.stamp) (.ret (⟨1460,(-1),false,false,0,0⟩:Opti))<|
  .val (ce.f (x0.scale,0,14,())) λc1=>
  .bnd (β:=Int×Opti×Opti×Opti×Unit) (.ite c1 (.ret (x1,x0,(⟨0,0,false,false,0,0⟩:Opti),(⟨1460,0,false,false,0,0⟩:Opti),()))<|
   .ret (x1,x0,(⟨0,0,false,false,0,0⟩:Opti),(⟨1460,(-1),false,false,0,0⟩:Opti),())) λ(u2a0,u2a1,_,u2a3,_)=>
  .val (Ai.f (u2a0,u2a1.scale,u2a1.sack,())) λc3=>
  .ret (⟨u2a3.mss,u2a3.scale,u2a1.sack,true,c3,u2a1.val⟩:Opti)⟩
noncomputable def D6:=YL st C3 DR [] (ks:=[.st .opti,.sc (.int .i64)]) lW (λv=>[(true,oU v)]) Tryz.func436 trivial
noncomputable def Tu:=[cc]
noncomputable def Sk:Fx:=⟨440,Tryz.f440,[(3000001,rA 0 13)],0⟩
noncomputable def zZ:FT (Int×Unit) (Int×Bool×Bool) (λ_=>True) (λ_ _=>True):= .mk λ(x0,_)=>
  .bnd (β:=Bool×Unit) (.cal aI.c (x0,32,()) λc1=>
   .ite (!c1) (.ret (true,()))<|
   .ret (((bits .and .i64 x0 32)==0),())) λ(u2a0,_)=>
  .ite u2a0 (.ret ((-1),false,false))<|
  .ite ((x0.tmod 16)==15) (.ret ((-1),((bits .and .i64 x0 16) != 0),true))<|
  .ret ((x0.tmod 16),((bits .and .i64 x0 16) != 0),true)
noncomputable def Tg:=bS st Sk Tu [] (ks:=[.sc (.int .i64)]) zZ (λv=>[(false,[.c (.int .i64 v.1)]),(false,[.c (.bool v.2.1)]),(false,[.c (.bool v.2.2)])]) Tryz.func440 trivial
noncomputable def wm:FT (Pack×Unit) (Bool) (λ_=>True) (λx v=>(v=true→x.1.body.length≤1480)):= .mk λ(x0,_)=>
  .cal aI.c (x0.src,32,()) λc1=>
  .ite c1 (.cal aI.c (x0.dst,32,()) λc2=>
   .ite c2 (.val (ce.f (x0.ttl,1,255,())) λc3=>
    .ite c3 (.cal aI.c (x0.proto,8,()) λc4=>
     .ite c4 (.cal aI.c (x0.id,16,()) λc5=>
      .ite c5 (.ret (decide ((x0.body.length:Int)≤1480)))<|
      .ret false)<|
     .ret false)<|
    .ret false)<|
   .ret false)<|
  .ret false
noncomputable def RF:=a9 st Tryz.func441 [cc,cy] (ks:=[.st .pack]) wm rB
noncomputable def Qx:=[vZ,F6]
noncomputable def Q9:Fx:=⟨447,Tryz.f447,[(3000002,rA 0 16)],0⟩
noncomputable def wH:FF (Int×Int×Int×Int×Unit) (Bool):=⟨λ(x0,x1,x2,x3,_)=>
  .bnd (β:=Bool×Unit) (.ite (decide ((if 65536<x1 then 65536 else x1)<1)) (.ret (true,()))<|
   .ret ((decide (x3<1)),())) λ(u1a0,_)=>
  .ite u1a0 (.ret false)<|
  .val (oC.f (x0,x2,x3,())) λc2=>
  .ite c2 (.ret true)<|
  .val (tv.f (x2,x0,())) λc3=>
  .ret (decide (c3<(if 65536<x1 then 65536 else x1)))⟩
noncomputable def QB:=YL st Q9 Qx [] (ks:=[.sc (.int .i64),.sc (.int .i64),.sc (.int .i64),.sc (.int .i64)]) wH rB Tryz.func447 trivial
noncomputable def fp:FT (List Bool×Bool×Unit) (Bool) (λx=>sS x.1) (λ_ _=>True):= .mk λ(x0,x1,_)=>
  .cal qA.c (x0,x1,()) λc1=>
  .ret (decide (0≤c1))
noncomputable def Dk:=a9 st Tryz.func449 [Mz] (ks:=[.sc (.sl .bool),.sc .bool]) fp rB
noncomputable def Ao:FT (Conn×Int×Unit) (Bool) (λx=>ac x.1) (λ_ _=>True):= .mk λ(x0,x1,_)=>
  .val (ri.f (x1,x0.s.una,())) λc1=>
  .cal gN.c (x0.s,()) λc2=>
  .ite (decide (c1≤c2)) (.ite (decide (0≤c1)) (.ret true)<|
   .ite (decide (2147483648≤x0.most)) (.ret true)<|
   .ite (decide (0<x0.most)) (.ret (decide ((IntKind.wrap .i64 (0-x0.most))≤c1)))<|
   .ret false)<|
  .ret false
noncomputable def Vy:=a9 st Tryz.func469 [yT,jg] (ks:=[.st .conn,.sc (.int .i64)]) Ao rB
noncomputable def Zh:=[yT,kU,jg,cy,dh]
def Oa:An:=⟨⟨[],[],false,0⟩,⟨[2,4,5,6,7],[],false,0⟩,⟨[],[]⟩,[(.normal,⟨[zp 2 0,zp 4 1,zb 5,zi 6,zp 7 2],[zx .sndr,zx .sndr,zx .sndr]⟩)]⟩
noncomputable def aaM:Fx:=⟨470,Tryz.f470,[(1000032,Oa),(3000002,rA 0 21)],0⟩
noncomputable def CL:FT (Sndr×Int×Unit) (Sndr×Bool) (λx=>bZ x.1) (λx v=>bZ v.1):= .mk λ(x0,x1,_)=>
  .val (ri.f (x1,x0.una,())) λc1=>
  .bnd (β:=Bool×Unit) (.as (λw=>(w.1=false→SO x0)∧(w.1=false→0≤c1∧c1≤x0.sent+1)) (.cal fj.c (x0,()) λc2=>
   .ite (!c2) (.ret (true,()))<|
   .cal gN.c (x0,()) λc3=>
   .val (ce.f (c1,0,c3,())) λc4=>
   .ret ((!c4),()))) λ(u5a0,_)=>
  .ite u5a0 (.ret (x0,false))<|
  .val (bJ.f (x0.una,c1,())) λc6=>
  .bnd (β:=Bool×Int×Sndr×Sndr×Sndr×Unit) (.as (λw=>bZ w.2.2.1∧bZ w.2.2.2.1∧bZ w.2.2.2.2.1∧0≤w.2.1∧w.2.1≤x0.data.length∧w.2.2.1=x0) (.ite (decide (x0.sent<c1)) (.ret (false,x0.sent,x0,(⟨0,[],0,false,false,false⟩:Sndr),({x0 with una:=c6,finSent:=false,done:=true}:Sndr),()))<|
   .ret (false,c1,x0,(⟨0,[],0,false,false,false⟩:Sndr),({x0 with una:=c6}:Sndr),()))) λ(_,u7a1,u7a2,_,u7a4,_)=>
  .grd (KN u7a2.data u7a1 (u7a2.data.length:Int))<|
  .ret (({u7a4 with data:=((u7a2.data.take ((u7a2.data.length:Int).toNat)).drop u7a1.toNat),sent:=(IntKind.wrap .i64 (u7a2.sent-u7a1))}:Sndr),true)
noncomputable def Pc:=bS st aaM Zh [] (ks:=[.st .sndr,.sc (.int .i64)]) CL (λv=>[(true,uo v.1),(false,[.c (.bool v.2)])]) Tryz.func470 trivial
noncomputable def yK:=[zc,sJ,kQ,Qo,dh,gI,Vq,Oe]
def nt:Sh:=⟨[zi 1,zs 2,zb 3,zp 4 0,zp 8 1,zp 9 2,zi 10,zo 11 3,zi 12],[zg .recv,.box [.st .recv [.nil .piec]],zk .recv 4,za .i64,zf]⟩
def nL:Sh:=⟨[zp 4 0,zp 8 1,zp 9 2,zo 11 3,zi 15,zo 16 4],[zg .recv,.box [.st .recv [.nil .piec]],zk .recv 5,za .i64,za .u8,zf]⟩
def xH:An:=⟨⟨[],[],false,0⟩,⟨[4,8,9,11],[],false,0⟩,⟨[],[]⟩,[(.normal,⟨[zp 4 0,zp 8 1,zp 9 2,zo 11 3],[zg .recv,.box [.st .recv [.nil .piec]],zk .recv 4,za .i64,zf]⟩)]⟩
def oz:An:=⟨⟨[],[],false,0⟩,⟨[4,8,9],[],false,0⟩,⟨[],[]⟩,[(.normal,⟨[zp 4 0,zp 8 1,zp 9 2],[zg .recv,.box [.st .recv [.nil .piec]],zk .recv 3,zf]⟩)]⟩
noncomputable def zn:Fx:=⟨471,Tryz.f471,[(0,lb [1,2,3,4,8,9,10,11,12] [1,2,3,4,8,9,10,11]),(2,lb [4,8,9,11,15,16] [4,8,9,11,15,16]),(1000095,xH),(1000137,oz),(3000002,rA 0 25),(3000010,rA 0 64),(3000013,rA 0 95)],0⟩
noncomputable def r7 (v0:Int)(v1:aa)(v3:Int)(v5:Recv)(v4:Int)(a:Recv×List Int):Tr (Stp (Recv×List Int) (Empty)):=
 .val (bJ.f (v0,v4,())) λc6=>
 .val (bQ.f ((IntKind.wrap .i64 (c6-v5.next)),())) λc7=>
 .bnd (β:=Bool×Unit) (.ite (decide (c7<v3)) (.ite (decide (v5.fin<0)) (.grd (cG a.2 c7)<|
    .ret ((decide ((a.2.getD c7.toNat 0)<0)),()))<|
   .ite (decide (c7<v5.fin)) (.grd (cG a.2 c7)<|
    .ret ((decide ((a.2.getD c7.toNat 0)<0)),()))<|
   .ret (false,()))<|
  .ret (false,())) λ(u8a0,_)=>
 .ite u8a0 (.grd (cG v1 v4)<|
  .grd (cG a.2 c7)<|
  .ret (.next (({a.1 with held:=[]}:Recv),(a.2.set c7.toNat (IntKind.wrap .i64 (ai v1 v4.toNat))))))<|
 .ret (.next (({a.1 with held:=[]}:Recv),a.2))
noncomputable def fS:nt.V→qf nt (Recv×List Int):=λ(v0,v1,v2,v3,v4,v5,v6,v7,v8,_)=>⟨v4,(v6,v8),λv4 a=>(v0,v1,v2,v3,v4,v5,a.1,v7,a.2,()),λv4 _=>(decide (v4<(v1.length:Int))),r7 v0 v1 v3 v5,up,1,(Int.toNat ((v1.length:Int)-v4)),Empty.elim,Prod.mk,oN (.exit 0) ⟨[zi 1,zs 2,zb 3,zp 4 0,zp 8 1,zp 9 2,zi 10,zo 11 3],[zg .recv,.box [.st .recv [.nil .piec]],zk .recv 4,za .i64,zf]⟩ (λx=>(v0,v1,v2,v3,v5,({x.2.1 with held:=[]}:Recv),v7,x.2.2,()))⟩
theorem Jy:LS Tryz.prog zn [0] (gc 0 nt fS):=dd st (aL yK) _ fS [] trivial
theorem Ll {v0 v3 v4:Int}{v1:aa}{v2:Bool}{v5 v6 v7:Recv}{v8:List Int}(h0:0≤v4)(h1:(v1.length:Int)≤4611686018427387904)(h2:v3≤32)(h3:sS v1)(h4:ay v5)(h5:sS v8)(h6:ay v6∧v8.length=v8.length∧v8.length=33):(fS (v0,v1,v2,v3,v4,v5,v6,v7,v8,())).U (v1.length:Int) (λv4 a=>ay a.1∧a.2.length=v8.length∧a.2.length=33) (λ_=>True):=
 ju (a:=(v6,v8)) h0 h1 h6
noncomputable def kE (v4:List Int)(v0:Int)(a:Recv×List Int):Tr (Stp (Recv×List Int) ((Int×Recv×List Int))):=
 .grd (cG v4 v0)<|
 .ite (decide (0≤(v4.getD v0.toNat 0))) (.grd (cG v4 v0)<|
  .grd (px a.2 1 1)<|
  .ret (.next (({a.1 with held:=[]}:Recv),(a.2++[(IntKind.wrap .u8 (v4.getD v0.toNat 0))]))))<|
 .ret (.out (v0,({a.1 with held:=[]}:Recv),a.2))
noncomputable def eU:nL.V→tq nL (Recv×List Int) (Int×Recv×List Int):=λ(v0,v1,v2,v3,v4,v5,_)=>⟨v0,(v2,v5),λv0 a=>(v0,v1,a.1,v3,v4,a.2,()),λv0 _=>(decide (v0<(v4.length:Int))),kE v4,up,1,(Int.toNat ((v4.length:Int)-v0)),.inl,eR,oB (.exit 2) ⟨[zp 4 0,zp 8 1,zp 9 2,zo 11 3,zi 15,zo 16 4],[zg .recv,.box [.st .recv [.nil .piec]],zk .recv 5,za .i64,za .u8,zf]⟩ (λp=>(p.1,v1,p.2.1,v3,v4,p.2.2,())) (.exit 2) ⟨[zp 4 0,zp 8 1,zp 9 2,zo 11 3,zi 15,zo 16 4],[zg .recv,.box [.st .recv [.nil .piec]],zk .recv 5,za .i64,za .u8,zf]⟩ (λx=>(x.1,v1,({x.2.1 with held:=[]}:Recv),v3,v4,x.2.2,()))⟩
theorem Kv:LS Tryz.prog zn [1] (gc 2 nL eU):=dd st (aL yK) _ eU [] trivial
theorem Jj {v0:Int}{v1 v2 v3:Recv}{v4 v5:List Int}(h0:0≤v0)(h1:(v4.length:Int)≤4611686018427387904)(h2:sS v4)(h3:ay v2∧(v5.length:Int)=v0):(eU (v0,v1,v2,v3,v4,v5,())).U (v4.length:Int) (λv0 a=>ay a.1∧(a.2.length:Int)=v0) (λp=>ay p.2.1∧sS p.2.2∧v0≤p.1∧p.1<(v4.length:Int)∧p.2.2.length≤v4.length):=
 ju (a:=(v2,v5)) h0 h1 h3
noncomputable def rp:FT (Recv×Int×aa×Bool×Unit) (Recv) (λx=>ay x.1∧sS x.2.2.1) (λx v=>ay v∧(v.held.length:Int)≤max x.1.held.length 3):=⟨λ(x0,x1,x2,x3,_)=>
  .cal eb.c (x0,()) λc1=>
  .bnd (β:=Bool×Unit) (.cal lc.c (x0,()) λc2=>
   .ite (!c2) (.ret (true,()))<|
   .ret (x0.done,())) λ(u3a0,_)=>
  .ite u3a0 (.ret c1)<|
  .cal gO.c (x0,()) λc4=>
  .cal wD.c (x0,()) λc5=>
  .lp (fS (x1,x2,x3,c4,0,x0,(⟨0,[],[],0,false⟩:Recv),c1,c5,())).lp λ(_,a9_0,a9_1)=>
  .val (bJ.f (x1,(x2.length:Int),())) λc10=>
  .val (bQ.f ((IntKind.wrap .i64 (c10-x0.next)),())) λc11=>
  .bnd (β:=Bool×Unit) (.ite x3 (.ite (decide (x0.fin<0)) (.ite (decide (c11≤c4)) (.cal vc.c (a9_1,c11,()) λc12=>
      .ret (c12,()))<|
     .ret (false,()))<|
    .ret (false,()))<|
   .ret (false,())) λ(u13a0,_)=>
  .bnd (β:=WT xH.es) (.ite u13a0 (.ret (x0,({({a9_0 with held:=[]}:Recv)with held:=[]}:Recv),({c1 with fin:=c11}:Recv),a9_1,()))<|
   .ret (x0,({({a9_0 with held:=[]}:Recv)with held:=[]}:Recv),c1,a9_1,())) λ(u14a0,u14a1,u14a2,u14a3,_)=>
  .lp (eU (0,u14a0,({u14a1 with held:=[]}:Recv),u14a2,u14a3,[],())).lp λw15=> .sum w15 (λ(p15a0,p15a1,p15a2)=>
  .grd (Nat.ble (u14a0.data.length+(aw p15a2).length) ao)<|
  .val (bJ.f (u14a0.next,p15a0,())) λc16=>
  .cal pP.c (u14a3,p15a0,()) λc17=>
  .bnd (β:=WT oz.es) (.ite (decide (0≤u14a2.fin)) (.ret (u14a0,({p15a1 with held:=[]}:Recv),(⟨c16,(u14a0.data++(aw p15a2)),c17,(IntKind.wrap .i64 (u14a2.fin-p15a0)),u14a2.done⟩:Recv),()))<|
   .ret (u14a0,({p15a1 with held:=[]}:Recv),(⟨c16,(u14a0.data++(aw p15a2)),c17,u14a2.fin,u14a2.done⟩:Recv),())) λ(u18a0,_,u18a2,_)=>
  .ite (u18a2.fin==0) (.val (bJ.f (u18a2.next,1,())) λc19=>
   .ite (decide (3<(u18a2.held.length:Int))) (.cal eb.c (u18a0,()) λc20=>
    .ret c20)<|
   .ret (⟨c19,u18a2.data,u18a2.held,(-1),true⟩:Recv))<|
  .ite (decide (3<(u18a2.held.length:Int))) (.cal eb.c (u18a0,()) λc21=>
   .ret c21)<|
  .ret u18a2)<|
  λ(n15,a15_0,a15_1)=>
  .grd (Nat.ble (u14a0.data.length+(aw a15_1).length) ao)<|
  .val (bJ.f (u14a0.next,n15,())) λc22=>
  .cal pP.c (u14a3,n15,()) λc23=>
  .bnd (β:=WT oz.es) (.ite (decide (0≤u14a2.fin)) (.ret (u14a0,({({a15_0 with held:=[]}:Recv)with held:=[]}:Recv),(⟨c22,(u14a0.data++(aw a15_1)),c23,(IntKind.wrap .i64 (u14a2.fin-n15)),u14a2.done⟩:Recv),()))<|
   .ret (u14a0,({({a15_0 with held:=[]}:Recv)with held:=[]}:Recv),(⟨c22,(u14a0.data++(aw a15_1)),c23,u14a2.fin,u14a2.done⟩:Recv),())) λ(u24a0,_,u24a2,_)=>
  .ite (u24a2.fin==0) (.val (bJ.f (u24a2.next,1,())) λc25=>
   .ite (decide (3<(u24a2.held.length:Int))) (.cal eb.c (u24a0,()) λc26=>
    .ret c26)<|
   .ret (⟨c25,u24a2.data,u24a2.held,(-1),true⟩:Recv))<|
  .ite (decide (3<(u24a2.held.length:Int))) (.cal eb.c (u24a0,()) λc27=>
   .ret c27)<|
  .ret u24a2,
 λ(x0,x1,x2,x3,_) hp=>by
  refine Tr.C ?_ λc1 hc1 qc1=>Tr.B (Q':=λw=>(w.1=false→RO x0)) (Tr.C ?_ λc2 hc2 qc2=>Tr.I (λb0=>Tr.R ?_) λb0=>Tr.R ?_) (λ(u3a0,_) hj3 qj3=>Tr.I (λb0=>Tr.R ?_) λb0=>Tr.C ?_ λc4 hc4 qc4=>Tr.C ?_ λc5 hc5 qc5=>Tr.L (Ll ?_ ?_ ?_ ?_ ?_ ?_ ?_) (λ(a9_0,a9_1) i9=>Tr.V λc10 hc10=>Tr.V λc11 hc11=>Tr.B (Q':=λ_=>True) (Tr.I (λb1=>Tr.I (λb2=>Tr.I (λb3=>Tr.C ?_ λc12 hc12 qc12=>Tr.R trivial) λb3=>Tr.R trivial) λb2=>Tr.R trivial) λb1=>Tr.R trivial) (λ(u13a0,_) hj13 qj13=>Tr.B (Q':=λw=>ay w.1∧ay w.2.1∧ay w.2.2.1∧sS w.2.2.2.1∧w.1=x0∧w.2.2.2.1.length=33∧w.1.data.length≤32) (Tr.I (λb1=>Tr.R ?_) λb1=>Tr.R ?_) (λ(u14a0,u14a1,u14a2,u14a3,_) hj14 qj14=>Tr.L (Jj ?_ ?_ ?_ ?_) (λ(a15_0,a15_1) i15=>Tr.Sr (Tr.Gb ?_ λg1=>Tr.V λc22 hc22=>Tr.C ?_ λc23 hc23 qc23=>Tr.B (Q':=λw=>ay w.1∧ay w.2.1∧ay w.2.2.1∧w.1=x0) (Tr.I (λb2=>Tr.R ?_) λb2=>Tr.R ?_) (λ(u24a0,u24a1,u24a2,_) hj24 qj24=>Tr.I (λb2=>Tr.V λc25 hc25=>Tr.I (λb3=>Tr.C ?_ λc26 hc26 qc26=>Tr.R ?_) λb3=>Tr.R ?_) λb2=>Tr.I (λb3=>Tr.C ?_ λc27 hc27 qc27=>Tr.R ?_) λb3=>Tr.R ?_))) (λ(p15a0,p15a1,p15a2) hp15=>Tr.Sl (Tr.Gb ?_ λg1=>Tr.V λc16 hc16=>Tr.C ?_ λc17 hc17 qc17=>Tr.B (Q':=λw=>ay w.1∧ay w.2.1∧ay w.2.2.1∧w.1=x0) (Tr.I (λb2=>Tr.R ?_) λb2=>Tr.R ?_) (λ(u18a0,u18a1,u18a2,_) hj18 qj18=>Tr.I (λb2=>Tr.V λc19 hc19=>Tr.I (λb3=>Tr.C ?_ λc20 hc20 qc20=>Tr.R ?_) λb3=>Tr.R ?_) λb2=>Tr.I (λb3=>Tr.C ?_ λc21 hc21 qc21=>Tr.R ?_) λb3=>Tr.R ?_)))))) (λp=>Empty.elim p))
  all_goals ((try simp only[fS,eU,LC.lp,LC.ct,Ct.lp,Tr.nice,j5]at*)<;>grind)⟩
noncomputable def GN:=bS st zn yK [(gc 0 nt fS),(gc 2 nL eU)] (ks:=[.st .recv,.sc (.int .i64),.sc .str,.sc .bool]) rp (λv=>[(true,uw (.o true) v)]) Tryz.func471 ⟨Jy,Kv,trivial⟩
def xl:Sh:=⟨[zi 0,zi 1,zi 2,zi 3,zi 9],[]⟩
noncomputable def jy (v0 v2 v3:Int)(v4:Int)(a:Unit):Tr (Stp (Unit) ((Unit)⊕(Unit))):=
 .ite (decide (v4<65536)) (.val (bJ.f (v0,v4,())) λc1=>
  .val (pc.f (c1,v2,v3,())) λc2=>
  .ite c2 (.ret (.out (.inl ())))<|
  .ret (.next ()))<|
 .ret (.out (.inr (())))
noncomputable def lN:xl.V→tq xl Unit ((Unit)⊕(Unit)):=λ(v0,v1,v2,v3,v4,_)=>⟨v4,(),λv4 _=>(v0,v1,v2,v3,v4,()),λv4 _=>(decide (v4<v1)),jy v0 v2 v3,up,1,(Int.toNat (v1-v4)),.inl,eR,λ_ k w=>Sum.elim (oB .ret ⟨[zb 8],[]⟩ (λ_=>(true,())) (.exit 0) ⟨[zu 8],[]⟩ (λ_=>()) _ k) (λ_=>k (.exit 0) (Sh.enc ⟨[zu 8],[]⟩ ())) w⟩
theorem Hz {v0 v1 v2 v3 v4:Int}(h0:0≤v4)(h1:v1≤4611686018427387904):(lN (v0,v1,v2,v3,v4,())).U v1 (λ_ _=>True) (λ_=>True):=
 LC.okU (i:=v4) (a:=()) (λ_ _=>rfl) (λ_=>rfl) rfl h0 h1 trivial λv4 _ hj hk hv=>Tr.Z (by kernel_rfl)
noncomputable def vK:FT (Int×Int×Int×Int×Unit) (Bool) (λx=>x.2.1≤4611686018427387904) (λ_ _=>True):= .mk (λ(x0,x1,x2,x3,_)=>
  .lp (lN (x0,x1,x2,x3,0,())).lp λw3=> .sum w3 (λq3=> .sum q3 (λ_=>
  .ret true)<|
  λ_=>
  .ret false)<|
  λ_=>
  .ret false) (qU @Hz)
noncomputable def RK:=eE st Tryz.func488 [(0,lb [0,1,2,3,9] [8])] [dh,wU] 0 lN (ks:=[.sc (.int .i64),.sc (.int .i64),.sc (.int .i64),.sc (.int .i64)]) vK rB
noncomputable def kD:FT (Sipr×Unit) (Sipr) (λ_=>True) (λ_ _=>True):= .mk λ(x0,_)=>
  .cal dB.c (x0.b,13,()) λc1=>
  .cal dB.c ((IntKind.wrap .u64 (x0.a+x0.b)),32,()) λc2=>
  .cal dB.c (x0.d,16,()) λc3=>
  .val (IntKind.wrap .u64 (c2+(bits .xor .u64 c3 (IntKind.wrap .u64 (x0.c+x0.d))))) λe4=>
  .cal dB.c ((bits .xor .u64 c3 (IntKind.wrap .u64 (x0.c+x0.d))),21,()) λc5=>
  .val (IntKind.wrap .u64 ((IntKind.wrap .u64 (x0.c+x0.d))+(bits .xor .u64 c1 (IntKind.wrap .u64 (x0.a+x0.b))))) λe6=>
  .cal dB.c ((bits .xor .u64 c1 (IntKind.wrap .u64 (x0.a+x0.b))),17,()) λc7=>
  .cal dB.c (e6,32,()) λc8=>
  .ret (⟨e4,(bits .xor .u64 c7 e6),c8,(bits .xor .u64 c5 e4)⟩:Sipr)
noncomputable def DG:=a9 st Tryz.func493 [ET] (ks:=[.st .sipr]) kD (λv=>[(true,Fu v)])
noncomputable def gM:FT (Int×Int×List Bool×List Int×Unit) (List Bool×List Int) (λx=>sS x.2.2.1∧sS x.2.2.2.1∧0≤x.1∧x.1<x.2.2.1.length∧x.2.2.1.length=x.2.2.2.1.length) (λx v=>sS v.1∧sS v.2∧v.1.length=x.2.2.1.length∧v.2.length=x.2.2.2.1.length):= .mk λ(x0,x1,y2,y3,_)=>
  .grd (cG y2 x0)<|
  .ite (!(y2.getD x0.toNat false)) (.grd (cG y2 x0)<|
   .grd (cG y3 x0)<|
   .ret ((y2.set x0.toNat true),(y3.set x0.toNat x1)))<|
  .ret (y2,y3)
noncomputable def Hw:=cq st ⟨448,Tryz.f448,[],4⟩ [] [] [.sc (.int .i64),.sc (.int .u8),.wr false [.ptr 1],.wr false [.ptr 3]] [.arr .bool,.box [.own 0],.arr .u8,.box [.own 2]] (λx y=>(x.1,x.2.1,y.1,y.2.2.1,())) gM (λv=>[]) (λx y v=>(v.1,(()),v.2,(()),())) Tryz.func448 (by kernel_rfl) trivial
noncomputable def rU:FT (List Issu×Issu×Unit) (Bool) (λx=>x.1.length≤274877906944) (λ_ _=>True):= .mk λ(x0,x1,_)=>
  .cal oS.c (x0,x1,()) λc1=>
  .ret c1
noncomputable def DM:=a9 st Tryz.func12 [Cb] (ks:=[.sc (.sl .issu),.st .issu]) rU rB
noncomputable def pK:FT (Int×Unit) (Int×Int×Int) (λ_=>True) (λ_ _=>True):= .mk λ(x0,_)=>
  .cal aI.c (x0,32,()) λc1=>
  .ite (!c1) (.ret ((-1),(-1),(-1)))<|
  .ret ((IntKind.wrap .i64 (x0.tdiv 134217728)),((IntKind.wrap .i64 (x0.tdiv 16777216)).tmod 8),(x0.tmod 16777216))
noncomputable def Il:=a9 st Tryz.func44 [cc] (ks:=[.sc (.int .i64)]) pK (λv=>[(false,[.c (.int .i64 v.1)]),(false,[.c (.int .i64 v.2.1)]),(false,[.c (.int .i64 v.2.2)])])
noncomputable def X0:=[cc,Ff,G9]
noncomputable def Xi:Fx:=⟨45,Tryz.f45,[(3000001,rA 0 18)],0⟩
noncomputable def uC:FT (Keys×Unit) (Bool) (λx=>cU x.1) (λx v=>(v=true→0≤x.1.epoch∧x.1.epoch≤4294967295)):= .mk λ(x0,_)=>
  .bnd (β:=Bool×Unit) (.as (λw=>(w.1=false→x0.now.rows.length≤64∧x0.before.rows.length≤64)) (.cal aI.c (x0.epoch,32,()) λc1=>
   .ite (!c1) (.ret (true,()))<|
   .cal uc.c (x0.now,()) λc2=>
   .ite (!c2) (.ret (true,()))<|
   .cal uc.c (x0.before,()) λc3=>
   .ret ((!c3),()))) λ(u4a0,_)=>
  .ite u4a0 (.ret false)<|
  .ite x0.two (.ret (decide (1≤x0.epoch)))<|
  .cal mK.c (x0.before,(⟨false,0,0,[]⟩:Mac),()) λc5=>
  .ret c5
noncomputable def Cn:=bS st Xi X0 [] (ks:=[.st .keys]) uC rB Tryz.func45 trivial
noncomputable def aap:=[cy,G9,Ff,pW]
def QY:An:=⟨⟨[],[],false,0⟩,⟨[1,2,3],[],false,0⟩,⟨[],[]⟩,[(.normal,⟨[zp 1 0,zb 2,zp 3 1],[zg .acti,.box [.st .acti [.nil .macRow]]]⟩),(.normal,⟨[zp 1 0,zb 2,zp 3 1],[zg .acti,zg .acti]⟩)]⟩
noncomputable def aak:Fx:=⟨50,Tryz.f50,[(1000009,QY),(3000016,rA 0 73)],0⟩
noncomputable def Ea:FT (Acti×Unit) (Bool) (λx=>ba x.1) (λ_ _=>True):= .mk λ(x0,_)=>
  .bnd (β:=(Bool×Acti×Acti×Unit)⊕(Bool×Acti×Acti×Unit)) (.as (Sum.elim (λw=>ba w.2.1∧ba w.2.2.1) (λw=>ba w.2.1∧ba w.2.2.1)) (.ite (x0.kind==1) (.ret (.inl (false,x0,(⟨x0.kind,⟨0,0,0⟩,0,x0.text,⟨false,0,0,[]⟩⟩:Acti),())))<|
   .ite (x0.kind==3) (.ret (.inr ((false,x0,({x0 with tuple.ip:=0,tuple.port:=0,tuple.my:=0,n:=0,text:=[]}:Acti),()))))<|
   .ite (x0.kind==5) (.ret (.inl (false,x0,({x0 with n:=0,mac.use:=false,mac.k:=0,mac.l:=0,mac.rows:=[]}:Acti),())))<|
   .ite (x0.kind==6) (.ret (.inl (false,x0,({x0 with text:=[],mac.use:=false,mac.k:=0,mac.l:=0,mac.rows:=[]}:Acti),())))<|
   .ite (x0.kind==7) (.ite (x0.kind==7) (.ret (.inl (false,x0,(⟨x0.kind,x0.tuple,0,[],⟨false,0,0,[]⟩⟩:Acti),())))<|
    .ret (.inl (false,x0,(⟨x0.kind,⟨0,0,0⟩,0,[],⟨false,0,0,[]⟩⟩:Acti),())))<|
   .ite (x0.kind==8) (.ret (.inl (false,x0,(⟨x0.kind,x0.tuple,0,[],⟨false,0,0,[]⟩⟩:Acti),())))<|
   .ret (.inl (false,x0,(⟨x0.kind,⟨0,0,0⟩,0,[],⟨false,0,0,[]⟩⟩:Acti),())))) λw1=> .sum w1 (λ(_,u1a1,u1a2,_)=>
  .bnd (β:=Bool×Unit) (.val (ce.f (u1a1.kind,1,8,())) λc2=>
   .ite (!c2) (.ret (true,()))<|
   .ite (!((u1a1.tuple.ip==u1a2.tuple.ip)&&((u1a1.tuple.port==u1a2.tuple.port)&&((u1a1.tuple.my==u1a2.tuple.my)&&true)))) (.ret (true,()))<|
   .ite (u1a1.n != u1a2.n) (.ret (true,()))<|
   .ite (!(u1a1.text==u1a2.text)) (.ret (true,()))<|
   .cal mK.c (u1a1.mac,({u1a2.mac with rows:=[]}:Mac),()) λc3=>
   .ret ((!c3),())) λ(u4a0,_)=>
  .ite u4a0 (.ret false)<|
  .ite (decide ((u1a1.text.length:Int)≤1600)) (.cal uc.c (u1a1.mac,()) λc5=>
   .ite c5 (.cal k7.c (u1a1.tuple,()) λc6=>
    .ite c6 (.val (ce.f (u1a1.n,0,65535,())) λc7=>
     .ret c7)<|
    .ret false)<|
   .ret false)<|
  .ret false)<|
  λ(_,u1b1,u1b2,_)=>
  .bnd (β:=Bool×Unit) (.val (ce.f (u1b1.kind,1,8,())) λc8=>
   .ite (!c8) (.ret (true,()))<|
   .ite (!((u1b1.tuple.ip==u1b2.tuple.ip)&&((u1b1.tuple.port==u1b2.tuple.port)&&((u1b1.tuple.my==u1b2.tuple.my)&&true)))) (.ret (true,()))<|
   .ite (u1b1.n != u1b2.n) (.ret (true,()))<|
   .ite (!(u1b1.text==u1b2.text)) (.ret (true,()))<|
   .cal mK.c (u1b1.mac,u1b2.mac,()) λc9=>
   .ret ((!c9),())) λ(u10a0,_)=>
  .ite u10a0 (.ret false)<|
  .ite (decide ((u1b1.text.length:Int)≤1600)) (.cal uc.c (u1b1.mac,()) λc11=>
   .ite c11 (.cal k7.c (u1b1.tuple,()) λc12=>
    .ite c12 (.val (ce.f (u1b1.n,0,65535,())) λc13=>
     .ret c13)<|
    .ret false)<|
   .ret false)<|
  .ret false
noncomputable def aaz:=bS st aak aap [] (ks:=[.st .acti]) Ea rB Tryz.func50 trivial
noncomputable def E9:=[wj,dJ,fA]
def qO:Sh:=⟨[zp 1 0,zp 2 1,zp 3 2,zi 4],[.box [.st .tabl [.sl .arg,.sl .arg]],.box [.st .tabl [.nil .conn,.nil .tupl]],.box [.st .tabl [.own 3,.nil .tupl]],zf]⟩
def qZ:Sh:=⟨[zp 1 0,zp 2 1,zp 3 2,zi 5],[.box [.st .tabl [.sl .arg,.sl .arg]],.box [.st .tabl [.nil .conn,.nil .tupl]],.box [.st .tabl [.own 3,.own 4]],zf,zf]⟩
noncomputable def E4:Fx:=⟨55,Tryz.f55,[(0,la ⟨[1,2,3,4],[.box 3 0 .conn],false,0⟩ ⟨[1,2,3],[],false,0⟩),(2,la ⟨[1,2,3,5],[.box 3 1 .tupl],false,0⟩ ⟨[2,3],[],false,0⟩),(3000005,rA 0 31)],0⟩
noncomputable def vI (v1:Tabl)(v0:Int)(a:Tabl×Tabl):Tr (Stp (Tabl×Tabl) (Empty)):=
 .bnd (β:=Bool×Unit) (.grd (cG v1.conns v0)<|
  .ite ((v1.conns.getD v0.toNat (Ty.zero .conn)).state != 8) (.ret (true,()))<|
  .grd (cG v1.conns v0)<|
  .cal oZ.c (v1.waiting,(v1.conns.getD v0.toNat (Ty.zero .conn)).tuple,()) λc4=>
  .ret (c4,())) λ(u5a0,_)=>
 .ite u5a0 (.grd (cG v1.conns v0)<|
  .cal dF.c ((v1.conns.getD v0.toNat (Ty.zero .conn)),()) λc6=>
  .grd (px a.2.conns 1 208)<|
  .ret (.next ((⟨[],[]⟩:Tabl),(⟨(a.2.conns++[c6]),[]⟩:Tabl))))<|
 .ret (.next ((⟨[],[]⟩:Tabl),(⟨a.2.conns,[]⟩:Tabl)))
noncomputable def iV:qO.V→qf qO (Tabl×Tabl):=λ(v0,v1,v2,v3,_)=>⟨v0,(v2,v3),λv0 a=>(v0,v1,a.1,a.2,()),λv0 _=>(decide (v0<(v1.conns.length:Int))),vI v1,up,1,(Int.toNat ((v1.conns.length:Int)-v0)),Empty.elim,Prod.mk,oN (.exit 0) ⟨[zp 1 0,zp 2 1,zp 3 2],[.box [.st .tabl [.sl .arg,.sl .arg]],.box [.st .tabl [.nil .conn,.nil .tupl]],.box [.st .tabl [.own 3,.nil .tupl]],zf]⟩ (λx=>(v1,(⟨[],[]⟩:Tabl),(⟨x.2.2.conns,[]⟩:Tabl),()))⟩
theorem Qg:LS Tryz.prog E4 [0] (gc 0 qO iV):=dd st (aL E9) _ iV [] trivial
theorem QN {v0:Int}{v1 v2 v3:Tabl}(h0:0≤v0)(h1:(v1.conns.length:Int)≤4611686018427387904)(h2:aV v1)(h3:aV v2∧(v3.conns.length:Int)≤v0∧dg ac v3.conns∧sS v3.waiting):(iV (v0,v1,v2,v3,())).U (v1.conns.length:Int) (λv0 a=>aV a.1∧(a.2.conns.length:Int)≤v0∧dg ac a.2.conns∧sS a.2.waiting) (λ_=>True):=
 ju (a:=(v2,v3)) h0 h1 h3
noncomputable def vv (v1:Tabl)(v0:Int)(a:Tabl×Tabl):Tr (Stp (Tabl×Tabl) (Empty)):=
 .grd (cG v1.waiting v0)<|
 .cal dT.c (v1,(v1.waiting.getD v0.toNat (Ty.zero .tupl)),()) λc9=>
 .ite (decide (0≤c9)) (.grd (cG v1.waiting v0)<|
  .grd (px a.2.waiting 1 24)<|
  .ret (.next ((⟨[],[]⟩:Tabl),(⟨a.2.conns,(a.2.waiting++[(v1.waiting.getD v0.toNat (Ty.zero .tupl))])⟩:Tabl))))<|
 .ret (.next ((⟨[],[]⟩:Tabl),a.2))
noncomputable def jl:qZ.V→qf qZ (Tabl×Tabl):=λ(v0,v1,v2,v3,_)=>⟨v0,(v2,v3),λv0 a=>(v0,v1,a.1,a.2,()),λv0 _=>(decide (v0<(v1.waiting.length:Int))),vv v1,up,1,(Int.toNat ((v1.waiting.length:Int)-v0)),Empty.elim,Prod.mk,oN (.exit 2) ⟨[zp 2 0,zp 3 1],[.box [.st .tabl [.nil .conn,.nil .tupl]],.box [.st .tabl [.own 2,.own 3]],zf,zf]⟩ (λx=>((⟨[],[]⟩:Tabl),x.2.2,()))⟩
theorem Rx:LS Tryz.prog E4 [1] (gc 2 qZ jl):=dd st (aL E9) _ jl [] trivial
theorem QI {v0:Int}{v1 v2 v3:Tabl}(h0:0≤v0)(h1:(v1.waiting.length:Int)≤4611686018427387904)(h2:aV v1)(h3:sL ac v3.conns)(h4:aV v2∧v3.conns.length=v3.conns.length∧dg ac v3.conns∧(v3.waiting.length:Int)≤v0):(jl (v0,v1,v2,v3,())).U (v1.waiting.length:Int) (λv0 a=>aV a.1∧a.2.conns.length=v3.conns.length∧dg ac a.2.conns∧(a.2.waiting.length:Int)≤v0) (λ_=>True):=
 ju (a:=(v2,v3)) h0 h1 h4
noncomputable def Ax:FT (Tabl×Unit) (Tabl) (λx=>aV x.1) (λx v=>aV v):=⟨λ(x0,_)=>
  .lp (iV (0,x0,(⟨[],[]⟩:Tabl),(⟨[],[]⟩:Tabl),())).lp λ(_,_,a7_1)=>
  .lp (jl (0,x0,(⟨[],[]⟩:Tabl),(⟨(⟨a7_1.conns,[]⟩:Tabl).conns,[]⟩:Tabl),())).lp λ(_,_,a10_1)=>
  .ret a10_1,
 λ(x0,_) hp=>by
  refine Tr.L (QN ?_ ?_ ?_ ?_) (λ(a7_0,a7_1) _=>Tr.L (QI ?_ ?_ ?_ ?_ ?_) (λ(a10_0,a10_1) _=>Tr.R ?_) (λp=>Empty.elim p)) (λp=>Empty.elim p)
  all_goals ((try simp only[iV,jl,LC.lp,LC.ct,Ct.lp]at*)<;>grind)⟩
noncomputable def FO:=bS st E4 E9 [(gc 0 qO iV),(gc 2 qZ jl)] (ks:=[.st .tabl]) Ax (λv=>[(true,qh (.o true) (.o true) v)]) Tryz.func55 ⟨Qg,Rx,trivial⟩
noncomputable def uP:FT (Link×Unit) (Bool) (λx=>fb x.1) (λ_ _=>True):= .mk λ(x0,_)=>
  .cal aI.c (x0.mac,48,()) λc1=>
  .ite c1 (.ite (x0.mac != 281474976710655) (.cal aI.c (x0.ip,32,()) λc2=>
    .ite c2 (.cal uK.c (x0.cache,()) λc3=>
     .ret c3)<|
    .ret false)<|
   .ret false)<|
  .ret false
noncomputable def Cl:=a9 st Tryz.func62 [cc,Gx] (ks:=[.st .link]) uP rB
noncomputable def dX:FT (Link×Unit) (Bool) (λx=>fb x.1) (λ_ _=>True):= .mk λ(x0,_)=>
  .cal ae.c (x0.mac,48,()) λc1=>
  .ite c1 (.ite (x0.mac != 281474976710655) (.cal ae.c (x0.ip,32,()) λc2=>
    .ite c2 (.cal gl.c (x0.cache,()) λc3=>
     .ret c3)<|
    .ret false)<|
   .ret false)<|
  .ret false
noncomputable def Cp:=a9 st Tryz.func64 [ca,GO] (ks:=[.st .link]) dX rB
noncomputable def ci:FT (Conn×Unit) (Conn) (λx=>ac x.1) (λx v=>ac v∧v=x.1):=⟨λ(x0,_)=>
  .cal gg.c (x0.r,()) λc1=>
  .ret ({x0 with r.next:=c1.next,r.data:=c1.data,r.held:=c1.held,r.fin:=c1.fin,r.done:=c1.done}:Conn),
 λ(x0,_) hp=>by
  refine Tr.C ?_ λc1 hc1 qc1=>Tr.R ?_
  all_goals ((first|grind|(refine⟨by grind, ?_⟩;first|(simp only[List.nil_append];done)|(subst_vars;rfl)|simp_all)))⟩
noncomputable def cZ:=a9 st Tryz.func91 [n3] (ks:=[.st .conn]) ci (λv=>[(true,fh (.o true) v)])
noncomputable def R6:=[pW,cc,cy,ku]
noncomputable def RG:Fx:=⟨122,Tryz.f122,[(3000001,rA 0 26)],0⟩
noncomputable def xa:FT (Tupl×Int×Int×Int×Unit) (aa) (λ_=>True) (λx v=>sS v∧v.length≤40):=⟨λ(x0,x1,x2,x3,_)=>
  .bnd (β:=Bool×Unit) (.cal k7.c (x0,()) λc1=>
   .ite (!c1) (.ret (true,()))<|
   .cal aI.c (x1,32,()) λc2=>
   .ite (!c2) (.ret (true,()))<|
   .cal aI.c (x2,32,()) λc3=>
   .ite (!c3) (.ret (true,()))<|
   .val (ce.f (x3,0,7,())) λc4=>
   .ret ((!c4),())) λ(u5a0,_)=>
  .ite u5a0 (.ret [])<|
  .cal aX.c (x0.ip,4,()) λc6=>
  .cal aX.c (x0.port,2,()) λc7=>
  .grd (Nat.ble (c6.length+c7.length) ao)<|
  .cal aX.c (x0.my,2,()) λc8=>
  .grd (Nat.ble ((c6++c7).length+c8.length) ao)<|
  .cal aX.c (x1,4,()) λc9=>
  .grd (Nat.ble (((c6++c7)++c8).length+c9.length) ao)<|
  .cal aX.c (x2,4,()) λc10=>
  .grd (Nat.ble ((((c6++c7)++c8)++c9).length+c10.length) ao)<|
  .cal aX.c (x3,1,()) λc11=>
  .grd (Nat.ble (((((c6++c7)++c8)++c9)++c10).length+c11.length) ao)<|
  .ret (((((c6++c7)++c8)++c9)++c10)++c11),
 λ(x0,x1,x2,x3,_) hp=>by
  refine Tr.B (Q':=λ_=>True) (Tr.C trivial λc1 hc1 qc1=>Tr.I (λb0=>Tr.R trivial) λb0=>Tr.C trivial λc2 hc2 qc2=>Tr.I (λb1=>Tr.R trivial) λb1=>Tr.C trivial λc3 hc3 qc3=>Tr.F (by kernel_rfl) trivial) (λ(u5a0,_) hj5 qj5=>Tr.I (λb0=>Tr.R ?_) λb0=>Tr.C trivial λc6 hc6 qc6=>Tr.C trivial λc7 hc7 qc7=>Tr.Gb ?_ λg1=>Tr.C trivial λc8 hc8 qc8=>Tr.Gb ?_ λg2=>Tr.C trivial λc9 hc9 qc9=>Tr.Gb ?_ λg3=>Tr.C trivial λc10 hc10 qc10=>Tr.Gb ?_ λg4=>Tr.C trivial λc11 hc11 qc11=>Tr.Gb ?_ λg5=>Tr.R ?_)
  all_goals ((try simp only[Tr.nice,j5]at*)<;>(first|(simp only[List.length_append,List.length_cons,List.length_nil,ao,sS]at*;omega)|grind))⟩
noncomputable def R1:=bS st RG R6 [] (ks:=[.st .tupl,.sc (.int .i64),.sc (.int .i64),.sc (.int .i64)]) xa (λv=>[(false,[.c (.str v)])]) Tryz.func122 trivial
noncomputable def VW:=[GQ,Cn,Ff,yJ]
noncomputable def UU:Fx:=⟨136,Tryz.f136,[(3000002,rA 0 20)],0⟩
noncomputable def zY:FT (Keys×Mac×Unit) (Keys) (λx=>cU x.1∧dV x.2.1) (λx v=>cU v):= .mk λ(x0,x1,_)=>
  .cal uO.c (x0,()) λc1=>
  .bnd (β:=Bool×Unit) (.as (λw=>(w.1=false→0≤x0.epoch∧x0.epoch≤4294967295∧x1.rows.length≤64)) (.cal uC.c (x0,()) λc2=>
   .ite (!c2) (.ret (true,()))<|
   .cal uc.c (x1,()) λc3=>
   .ite (!c3) (.ret (true,()))<|
   .ret ((x0.epoch==4294967295),()))) λ(u4a0,_)=>
  .ite u4a0 (.ret c1)<|
  .cal kS.c (x1,()) λc5=>
  .cal kS.c (x0.now,()) λc6=>
  .ret (⟨(IntKind.wrap .i64 (x0.epoch+1)),c5,c6,true⟩:Keys)
noncomputable def TN:=bS st UU VW [] (ks:=[.st .keys,.st .mac]) zY (λv=>[(true,BI (.o true) (.o true) v)]) Tryz.func136 trivial
def zF:Sh:=⟨[zp 1 0,zp 2 1,zp 3 2,zi 4],[.box [.st .tabl [.sl .arg,.sl .arg]],.box [.st .tabl [.nil .conn,.nil .tupl]],.box [.st .tabl [.own 3,.own 4]],zf,zf]⟩
noncomputable def xZ (v1:Tabl)(v0:Int)(a:Tabl×Tabl):Tr (Stp (Tabl×Tabl) (Empty)):=
 .grd (cG v1.conns v0)<|
 .cal dF.c ((v1.conns.getD v0.toNat (Ty.zero .conn)),()) λc2=>
 .grd (px a.2.conns 1 208)<|
 .ret (.next ((⟨[],[]⟩:Tabl),(⟨(a.2.conns++[c2]),a.2.waiting⟩:Tabl)))
noncomputable def j8:zF.V→qf zF (Tabl×Tabl):=λ(v0,v1,v2,v3,_)=>⟨v0,(v2,v3),λv0 a=>(v0,v1,a.1,a.2,()),λv0 _=>(decide (v0<(v1.conns.length:Int))),xZ v1,up,1,(Int.toNat ((v1.conns.length:Int)-v0)),Empty.elim,Prod.mk,oN (.exit 0) ⟨[zp 2 0,zp 3 1],[.box [.st .tabl [.nil .conn,.nil .tupl]],.box [.st .tabl [.own 2,.own 3]],zf,zf]⟩ (λx=>((⟨[],[]⟩:Tabl),x.2.2,()))⟩
theorem LP {v0:Int}{v1 v2 v3:Tabl}(h0:0≤v0)(h1:(v1.conns.length:Int)≤4611686018427387904)(h2:aV v1)(h3:sS v3.waiting)(h4:aV v2∧(v3.conns.length:Int)=v0∧dg ac v3.conns∧v3.waiting.length=v3.waiting.length):(j8 (v0,v1,v2,v3,())).U (v1.conns.length:Int) (λv0 a=>aV a.1∧(a.2.conns.length:Int)=v0∧dg ac a.2.conns∧a.2.waiting.length=v3.waiting.length) (λ_=>True):=
 ju (a:=(v2,v3)) h0 h1 h4
noncomputable def mz:FT (Tabl×Unit) (Tabl) (λx=>aV x.1) (λx v=>aV v∧v.conns.length=x.1.conns.length∧v.waiting.length=x.1.waiting.length):=⟨λ(x0,_)=>
  .grd (Nat.ble ((2*(0+x0.waiting.length)+1024)*24) bc)<|
  .lp (j8 (0,x0,(⟨[],[]⟩:Tabl),(⟨[],([]++x0.waiting)⟩:Tabl),())).lp λ(_,_,a3_1)=>
  .ret a3_1,
 λ(x0,_) hp=>by
  refine Tr.Gb ?_ λ_=>Tr.L (LP ?_ ?_ ?_ ?_ ?_) (λ(a3_0,a3_1) _=>Tr.R ?_) (λp=>Empty.elim p)
  all_goals ((try simp only[j8,LC.lp,LC.ct,Ct.lp]at*)<;>grind)⟩
noncomputable def t9:=eE st Tryz.func137 [(0,la ⟨[1,2,3,4],[.box 3 0 .conn],false,0⟩ ⟨[2,3],[],false,0⟩)] [dJ] 0 j8 (ks:=[.st .tabl]) mz (λv=>[(true,qh (.o true) (.o true) v)])
noncomputable def mB:FT (aa×Unit) (Fram×Bool) (λx=>sS x.1) (λx v=>pt v.1):= .mk λ(x0,_)=>
  .ite (decide ((x0.length:Int)<14)) (.ret ((⟨0,0,0,[]⟩:Fram),false))<|
  .cal em.c (x0,0,6,()) λc1=>
  .cal em.c (x0,6,6,()) λc2=>
  .cal em.c (x0,12,2,()) λc3=>
  .grd ((decide (14≤(x0.length:Int)))&&(decide ((x0.length:Int)≤(x0.length:Int))))<|
  .cal gk.c ((⟨c1,c2,c3,((x0.take ((x0.length:Int).toNat)).drop 14)⟩:Fram),()) λc4=>
  .ite (!c4) (.ret ((⟨0,0,0,[]⟩:Fram),false))<|
  .ret ((⟨c1,c2,c3,((x0.take ((x0.length:Int).toNat)).drop 14)⟩:Fram),true)
noncomputable def Bj:=a9 st Tryz.func146 [yw,Hn] (ks:=[.sc .str]) mB (λv=>[(true,WA v.1),(false,[.c (.bool v.2)])])
def xK:Sh:=⟨[zl 0 .half,zi 3],[]⟩
noncomputable def fw (v0:List Half)(v1:Int)(a:Unit):Tr (Stp (Unit) ((Unit))):=
 .grd (cG v0 v1)<|
 .cal k7.c ((v0.getD v1.toNat (Ty.zero .half)).tuple,()) λc1=>
 .ite (!c1) (.ret (.out ()))<|
 .cal aI.c ((v0.getD v1.toNat (Ty.zero .half)).iss,32,()) λc2=>
 .ite (!c2) (.ret (.out ()))<|
 .cal aI.c ((v0.getD v1.toNat (Ty.zero .half)).irs,32,()) λc3=>
 .ite (!c3) (.ret (.out ()))<|
 .cal aI.c ((v0.getD v1.toNat (Ty.zero .half)).window,16,()) λc4=>
 .ite (!c4) (.ret (.out ()))<|
 .cal eT.c ((v0.getD v1.toNat (Ty.zero .half)).opts,()) λc5=>
 .ite (!c5) (.ret (.out ()))<|
 .val (ce.f ((v0.getD v1.toNat (Ty.zero .half)).age,0,6,())) λc6=>
 .ite (!c6) (.ret (.out ()))<|
 .grd ((decide (0≤v1))&&(decide (v1≤(v0.length:Int))))<|
 .cal i5.c (((v0.take v1.toNat).drop 0),(v0.getD v1.toNat (Ty.zero .half)).tuple,()) λc7=>
 .ite (decide (0≤c7)) (.ret (.out ()))<|
 .ret (.next ())
noncomputable def jv:xK.V→tq xK Unit (Unit):=λ(v0,v1,_)=>⟨v1,(),λv1 _=>(v0,v1,()),λv1 _=>(decide (v1<(v0.length:Int))),fw v0,up,1,(Int.toNat ((v0.length:Int)-v1)),.inl,eR,oB .ret ⟨[zl 0 .half,zb 2],[]⟩ (λ_=>(v0,false,())) (.exit 0) ⟨[zl 0 .half,zu 2],[]⟩ (λ_=>(v0,()))⟩
theorem HN {v0:List Half}{v1:Int}(h0:0≤v1)(h1:(v0.length:Int)≤4611686018427387904)(h2:wS v0):(jv (v0,v1,())).U (v0.length:Int) (λ_ _=>True) (λ_=>True):=
 ju h0 h1 trivial
noncomputable def pi:FT (List Half×Unit) (Bool) (λx=>wS x.1) (λx v=>(v=true→x.1.length≤64)):= .mk (λ(x0,_)=>
  .lp (jv (x0,0,())).lp λw8=> .sum w8 (λ_=>
  .ret false)<|
  λ_=>
  .ret (decide ((x0.length:Int)≤64))) (qU @HN)
noncomputable def C8:=eE st Tryz.func154 [(0,lb [0,3] [0,2])] [pW,cc,lE,cy,n5] 0 jv (ks:=[.sc (.sl .half)]) pi rB
def tH:Sh:=⟨[zp 2 0,zp 3 1,zl 11 .conn,zi 12,zi 13],[.box [.st .tabl [.nil .conn,.nil .tupl]],.box [.st .tabl [.own 2,.own 3]],zf,zf]⟩
noncomputable def tI (v0:List Conn)(v2:Int)(a:Tabl×Tabl):Tr (Stp (Tabl×Tabl) (Empty)):=
 .grd (cG v0 v2)<|
 .cal ci.c ((v0.getD v2.toNat (Ty.zero .conn)),()) λc3=>
 .grd (px a.2.conns 1 208)<|
 .ret (.next ((⟨[],[]⟩:Tabl),(⟨(a.2.conns++[c3]),a.2.waiting⟩:Tabl)))
noncomputable def gA:tH.V→qf tH (Tabl×Tabl):=λ(v0,v1,v2,v3,v4,_)=>⟨v2,(v3,v4),λv2 a=>(v0,v1,v2,a.1,a.2,()),λv2 _=>(decide (v2<v1)),tI v0,up,1,(Int.toNat (v1-v2)),Empty.elim,Prod.mk,oN (.exit 0) ⟨[zp 2 0,zp 3 1],[.box [.st .tabl [.nil .conn,.nil .tupl]],.box [.st .tabl [.own 2,.own 3]],zf,zf]⟩ (λx=>((⟨[],[]⟩:Tabl),x.2.2,()))⟩
theorem Dg {v0:List Conn}{v1 v2:Int}{v3 v4:Tabl}(h0:0≤v2)(h1:v1≤4611686018427387904)(h2:sL ac v0)(h3:v1≤4294967296)(h4:sS v4.waiting)(h5:v1≤(v0.length:Int))(h6:aV v3∧(v4.conns.length:Int)=v2∧dg ac v4.conns∧v4.waiting.length=v4.waiting.length):(gA (v0,v1,v2,v3,v4,())).U v1 (λv2 a=>aV a.1∧(a.2.conns.length:Int)=v2∧dg ac a.2.conns∧a.2.waiting.length=v4.waiting.length) (λ_=>True):=
 ju (a:=(v3,v4)) h0 h1 h6
noncomputable def fB:FT (Tabl×Unit) (Tabl) (λx=>aV x.1) (λx v=>aV v∧v.conns.length=x.1.conns.length∧v.waiting.length=x.1.waiting.length):=⟨λ(x0,_)=>
  .cal pk.c (x0.waiting,()) λc1=>
  .lp (gA (x0.conns,(x0.conns.length:Int),0,(⟨[],[]⟩:Tabl),(⟨[],c1⟩:Tabl),())).lp λ(_,_,a4_1)=>
  .ret a4_1,
 λ(x0,_) hp=>by
  refine Tr.C ?_ λ_ _ _=>Tr.L (Dg ?_ ?_ ?_ ?_ ?_ ?_ ?_) (λ(a4_0,a4_1) _=>Tr.R ?_) (λp=>Empty.elim p)
  all_goals ((try simp only[gA,LC.lp,LC.ct,Ct.lp]at*)<;>grind)⟩
noncomputable def kt:=eE st Tryz.func168 [(0,la ⟨[2,3,11,12,13],[.box 3 0 .conn],false,0⟩ ⟨[2,3],[],false,0⟩)] [HQ,cZ] 0 gA (ks:=[.st .tabl]) fB (λv=>[(true,qh (.o true) (.o true) v)])
noncomputable def cE:FT (Segm×Int×Int×Unit) (aa) (λx=>am x.1) (λx v=>sS v∧v.length≤1500):=⟨λ(x0,x1,x2,_)=>
  .cal ak.c (x0,()) λc1=>
  .ite (!c1) (.ret [])<|
  .cal cF.c (x0.opts,()) λc2=>
  .val (IntKind.wrap .i64 ((IntKind.wrap .i64 (20+(c2.length:Int)))+(x0.body.length:Int))) λe3=>
  .cal ew.c (x1,x2,e3,()) λc4=>
  .ite (c4==[]) (.ret [])<|
  .cal aA.c (x0.from_,2,()) λc5=>
  .cal aA.c (x0.to,2,()) λc6=>
  .grd (Nat.ble (c5.length+c6.length) ao)<|
  .cal aA.c (x0.seq,4,()) λc7=>
  .grd (Nat.ble ((c5++c6).length+c7.length) ao)<|
  .cal aA.c (x0.ack,4,()) λc8=>
  .grd (Nat.ble (((c5++c6)++c7).length+c8.length) ao)<|
  .val (IntKind.wrap .i64 ((IntKind.wrap .i64 (20+(c2.length:Int))).tdiv 4)) λe9=>
  .cal aA.c ((IntKind.wrap .i64 (e9*16)),1,()) λc10=>
  .grd (Nat.ble ((((c5++c6)++c7)++c8).length+c10.length) ao)<|
  .cal aA.c (x0.flags,1,()) λc11=>
  .grd (Nat.ble (((((c5++c6)++c7)++c8)++c10).length+c11.length) ao)<|
  .cal aA.c (x0.window,2,()) λc12=>
  .grd (Nat.ble ((((((c5++c6)++c7)++c8)++c10)++c11).length+c12.length) ao)<|
  .grd (Nat.ble (2+c2.length) ao)<|
  .grd (Nat.ble (([0,0]++c2).length+x0.body.length) ao)<|
  .grd (Nat.ble (c4.length+((((((c5++c6)++c7)++c8)++c10)++c11)++c12).length) ao)<|
  .grd (Nat.ble ((c4++((((((c5++c6)++c7)++c8)++c10)++c11)++c12)).length+2) ao)<|
  .val ((c4++((((((c5++c6)++c7)++c8)++c10)++c11)++c12))++[0,0]) λe13=>
  .grd (Nat.ble (e13.length+(([0,0]++c2)++x0.body).length) ao)<|
  .cal tW.c ((e13++(([0,0]++c2)++x0.body)),()) λc14=>
  .cal aA.c (c14,2,()) λc15=>
  .grd (Nat.ble (((((((c5++c6)++c7)++c8)++c10)++c11)++c12).length+c15.length) ao)<|
  .grd (Nat.ble ((((((((c5++c6)++c7)++c8)++c10)++c11)++c12)++c15).length+(([0,0]++c2)++x0.body).length) ao)<|
  .val ((((((((c5++c6)++c7)++c8)++c10)++c11)++c12)++c15)++(([0,0]++c2)++x0.body)) λe16=>
  .ret e16,
 λ(x0,x1,x2,_) hp=>by
  refine Tr.C trivial λc1 hc1 qc1=>Tr.I (λb0=>Tr.R ?_) λb0=>Tr.C trivial λc2 hc2 qc2=>Tr.V λe3 he3=>Tr.C trivial λc4 hc4 qc4=>Tr.I (λb1=>Tr.R ?_) λb1=>Tr.C trivial λc5 hc5 qc5=>Tr.C trivial λc6 hc6 qc6=>Tr.Gb ?_ λg2=>Tr.C trivial λc7 hc7 qc7=>Tr.Gb ?_ λg3=>Tr.C trivial λc8 hc8 qc8=>Tr.Gb ?_ λg4=>Tr.V λe9 he9=>Tr.C trivial λc10 hc10 qc10=>Tr.Gb ?_ λg5=>Tr.C trivial λc11 hc11 qc11=>Tr.Gb ?_ λg6=>Tr.C trivial λc12 hc12 qc12=>Tr.Gb ?_ λg7=>Tr.Gb ?_ λg8=>Tr.Gb ?_ λg9=>Tr.Gb ?_ λg10=>Tr.Gb ?_ λg11=>Tr.V λe13 he13=>Tr.Gb ?_ λg12=>Tr.C ?_ λc14 hc14 qc14=>Tr.C trivial λc15 hc15 qc15=>Tr.Gb ?_ λg13=>Tr.Gb ?_ λg14=>Tr.V λe16 he16=>Tr.R ?_
  all_goals ((first|(simp only[List.length_append,List.length_cons,List.length_nil,ao,sS]at*;omega)|grind))⟩
noncomputable def Ib:=a9 st Tryz.func180 [jF,Iu,yG,kJ,Fg] (ks:=[.st .segm,.sc (.int .i64),.sc (.int .i64)]) cE (λv=>[(false,[.c (.str v)])])
noncomputable def SX:=[Tw,MS,Cp,Bg]
noncomputable def V2:Fx:=⟨181,Tryz.f181,[(3000003,rA 0 35)],0⟩
noncomputable def jE:FT (Link×Int×aa×Unit) (aa×Bool) (λx=>fb x.1∧sS x.2.2.1) (λx v=>sS v.1):= .mk λ(x0,x1,x2,_)=>
  .cal B0.c (x0.cache,x1,()) λc1=>
  .cal rf.c ((⟨x0.ip,x1,64,6,0,x2⟩:Pack),()) λc2=>
  .bnd (β:=Bool×Unit) (.cal dX.c (x0,()) λc3=>
   .ite (!c3) (.ret (true,()))<|
   .ite (!c1.2) (.ret (true,()))<|
   .ret ((c2==[]),())) λ(u4a0,_)=>
  .ite u4a0 (.ret ([],false))<|
  .cal gm.c ((⟨c1.1,x0.mac,2048,c2⟩:Fram),()) λc5=>
  .ret (c5,(!(c5==[])))
noncomputable def UX:=bS st V2 SX [] (ks:=[.st .link,.sc (.int .i64),.sc .str]) jE (λv=>[(false,[.c (.str v.1)]),(false,[.c (.bool v.2)])]) Tryz.func181 trivial
noncomputable def qd:FT (Keys×Unit) (Keys) (λx=>cU x.1) (λx v=>cU v∧v=x.1):=⟨λ(x0,_)=>
  .cal kG.c (x0.now,()) λc1=>
  .cal kG.c (x0.before,()) λc2=>
  .ret (⟨x0.epoch,c1,c2,x0.two⟩:Keys),
 λ(x0,_) hp=>by
  refine Tr.C ?_ λc1 hc1 qc1=>Tr.C ?_ λc2 hc2 qc2=>Tr.R ?_
  all_goals ((first|grind|(refine⟨by grind, ?_⟩;first|(simp only[List.nil_append];done)|(subst_vars;rfl)|simp_all)))⟩
noncomputable def BD:=a9 st Tryz.func194 [wT] (ks:=[.st .keys]) qd (λv=>[(true,BI (.o true) (.o true) v)])
noncomputable def f9:FT (Segm×Unit) (List Segm) (λx=>am x.1) (λx v=>sL am v):= .mk λ(x0,_)=>
  .cal kq.c (x0,()) λc1=>
  .ite c1.2 (.ret [c1.1])<|
  .ret []
noncomputable def L9:=a9 st Tryz.func197 [Rq] (ks:=[.st .segm]) f9 (λv=>[(false,[sc (.o true) .segm v])])
noncomputable def rR:FT (aa×Unit) (Bool) (λx=>sS x.1) (λ_ _=>True):= .mk λ(x0,_)=>
  .cal tX.c (x0,()) λc1=>
  .ret (c1==0)
noncomputable def DW:=a9 st Tryz.func238 [Ad] (ks:=[.sc .str]) rR rB
noncomputable def iU:FT (Segm×Unit) (Bool) (λ_=>True) (λx v=>(v=true→x.1.body.length≤1420)):= .mk λ(x0,_)=>
  .cal aI.c (x0.from_,16,()) λc1=>
  .ite c1 (.cal aI.c (x0.to,16,()) λc2=>
   .ite c2 (.cal aI.c (x0.window,16,()) λc3=>
    .ite c3 (.cal aI.c (x0.seq,32,()) λc4=>
     .ite c4 (.cal aI.c (x0.ack,32,()) λc5=>
      .ite c5 (.cal aI.c (x0.flags,6,()) λc6=>
       .ite c6 (.cal eT.c (x0.opts,()) λc7=>
        .ite c7 (.ret (decide ((x0.body.length:Int)≤1420)))<|
        .ret false)<|
       .ret false)<|
      .ret false)<|
     .ret false)<|
    .ret false)<|
   .ret false)<|
  .ret false
noncomputable def lD:=a9 st Tryz.func241 [cc,lE] (ks:=[.st .segm]) iU rB
noncomputable def lm:FT (Segm×Int×Int×Unit) (aa) (λx=>am x.1) (λx v=>sS v∧v.length≤1500):=⟨λ(x0,x1,x2,_)=>
  .cal iU.c (x0,()) λc1=>
  .ite (!c1) (.ret [])<|
  .cal pL.c (x0.opts,()) λc2=>
  .val (IntKind.wrap .i64 ((IntKind.wrap .i64 (20+(c2.length:Int)))+(x0.body.length:Int))) λe3=>
  .cal nJ.c (x1,x2,e3,()) λc4=>
  .ite (c4==[]) (.ret [])<|
  .cal aX.c (x0.from_,2,()) λc5=>
  .cal aX.c (x0.to,2,()) λc6=>
  .grd (Nat.ble (c5.length+c6.length) ao)<|
  .cal aX.c (x0.seq,4,()) λc7=>
  .grd (Nat.ble ((c5++c6).length+c7.length) ao)<|
  .cal aX.c (x0.ack,4,()) λc8=>
  .grd (Nat.ble (((c5++c6)++c7).length+c8.length) ao)<|
  .val (IntKind.wrap .i64 ((IntKind.wrap .i64 (20+(c2.length:Int))).tdiv 4)) λe9=>
  .cal aX.c ((IntKind.wrap .i64 (e9*16)),1,()) λc10=>
  .grd (Nat.ble ((((c5++c6)++c7)++c8).length+c10.length) ao)<|
  .cal aX.c (x0.flags,1,()) λc11=>
  .grd (Nat.ble (((((c5++c6)++c7)++c8)++c10).length+c11.length) ao)<|
  .cal aX.c (x0.window,2,()) λc12=>
  .grd (Nat.ble ((((((c5++c6)++c7)++c8)++c10)++c11).length+c12.length) ao)<|
  .grd (Nat.ble (2+c2.length) ao)<|
  .grd (Nat.ble (([0,0]++c2).length+x0.body.length) ao)<|
  .grd (Nat.ble (c4.length+((((((c5++c6)++c7)++c8)++c10)++c11)++c12).length) ao)<|
  .grd (Nat.ble ((c4++((((((c5++c6)++c7)++c8)++c10)++c11)++c12)).length+2) ao)<|
  .val ((c4++((((((c5++c6)++c7)++c8)++c10)++c11)++c12))++[0,0]) λe13=>
  .grd (Nat.ble (e13.length+(([0,0]++c2)++x0.body).length) ao)<|
  .cal tX.c ((e13++(([0,0]++c2)++x0.body)),()) λc14=>
  .cal aX.c (c14,2,()) λc15=>
  .grd (Nat.ble (((((((c5++c6)++c7)++c8)++c10)++c11)++c12).length+c15.length) ao)<|
  .grd (Nat.ble ((((((((c5++c6)++c7)++c8)++c10)++c11)++c12)++c15).length+(([0,0]++c2)++x0.body).length) ao)<|
  .val ((((((((c5++c6)++c7)++c8)++c10)++c11)++c12)++c15)++(([0,0]++c2)++x0.body)) λe16=>
  .ret e16,
 λ(x0,x1,x2,_) hp=>by
  refine Tr.C trivial λc1 hc1 qc1=>Tr.I (λb0=>Tr.R ?_) λb0=>Tr.C trivial λc2 hc2 qc2=>Tr.V λe3 he3=>Tr.C trivial λc4 hc4 qc4=>Tr.I (λb1=>Tr.R ?_) λb1=>Tr.C trivial λc5 hc5 qc5=>Tr.C trivial λc6 hc6 qc6=>Tr.Gb ?_ λg2=>Tr.C trivial λc7 hc7 qc7=>Tr.Gb ?_ λg3=>Tr.C trivial λc8 hc8 qc8=>Tr.Gb ?_ λg4=>Tr.V λe9 he9=>Tr.C trivial λc10 hc10 qc10=>Tr.Gb ?_ λg5=>Tr.C trivial λc11 hc11 qc11=>Tr.Gb ?_ λg6=>Tr.C trivial λc12 hc12 qc12=>Tr.Gb ?_ λg7=>Tr.Gb ?_ λg8=>Tr.Gb ?_ λg9=>Tr.Gb ?_ λg10=>Tr.Gb ?_ λg11=>Tr.V λe13 he13=>Tr.Gb ?_ λg12=>Tr.C ?_ λc14 hc14 qc14=>Tr.C trivial λc15 hc15 qc15=>Tr.Gb ?_ λg13=>Tr.Gb ?_ λg14=>Tr.V λe16 he16=>Tr.R ?_
  all_goals ((first|(simp only[List.length_append,List.length_cons,List.length_nil,ao,sS]at*;omega)|grind))⟩
noncomputable def xp:=a9 st Tryz.func249 [lD,Hv,yE,ku,Ad] (ks:=[.st .segm,.sc (.int .i64),.sc (.int .i64)]) lm (λv=>[(false,[.c (.str v)])])
noncomputable def W6:=[pW,kU,sJ,lE,cy,Wf]
def MI:An:=⟨⟨[],[],false,0⟩,⟨[1,2,3],[],false,0⟩,⟨[],[]⟩,[(.normal,⟨[zp 1 0,zb 2,zi 3],[zg .conn]⟩)]⟩
noncomputable def Yk:Fx:=⟨251,Tryz.f251,[(1000055,MI),(3000001,rA 0 52),(3000010,rA 0 4),(3000011,rA 0 5)],0⟩
noncomputable def hZ:FT (Conn×Unit) (Bool) (λx=>ac x.1) (λx v=>(v=true→SO x.1.s∧RO x.1.r)):= .mk λ(x0,_)=>
  .bnd (β:=Bool×Unit) (.as (λw=>(w.1=false→SO x0.s∧RO x0.r)) (.cal k7.c (x0.tuple,()) λc1=>
   .ite (!c1) (.ret (true,()))<|
   .cal fj.c (x0.s,()) λc2=>
   .ite (!c2) (.ret (true,()))<|
   .cal lc.c (x0.r,()) λc3=>
   .ite (!c3) (.ret (true,()))<|
   .cal eT.c (x0.opts,()) λc4=>
   .ite (!c4) (.ret (true,()))<|
   .val (ce.f (x0.state,1,8,())) λc5=>
   .ite (!c5) (.ret (true,()))<|
   .val (ce.f (x0.window,0,x0.most,())) λc6=>
   .ite (!c6) (.ret (true,()))<|
   .ite (decide (1073725440<x0.most)) (.ret (true,()))<|
   .val (ce.f (x0.tries,0,3,())) λc7=>
   .ret ((!c7),()))) λ(u8a0,_)=>
  .ite u8a0 (.ret false)<|
  .bnd (β:=Bool×Int×Conn×Unit) (.as (λw=>ac w.2.2.1) (.ite (x0.state==7) (.ret (false,4,x0,()))<|
   .ret (false,3,x0,()))) λ(_,u9a1,u9a2,_)=>
  .val (ce.f (u9a2.timer,0,u9a1,())) λc10=>
  .ite (!c10) (.ret false)<|
  .ite (u9a2.state==8) (.ret true)<|
  .bnd (β:=Bool×Unit) (.ite (u9a2.state==3) (.ret (true,()))<|
   .ret ((u9a2.state==7),())) λ(u11a0,_)=>
  .bnd (β:=Bool×Unit) (.ite (u9a2.state==4) (.ret (true,()))<|
   .ret ((decide (5≤u9a2.state)),())) λ(u12a0,_)=>
  .val (Ml.f (u9a2.state,())) λc13=>
  .ite (u9a2.s.fin==c13) (.ite (u9a2.s.done==u11a0) (.ret (u9a2.r.done==u12a0))<|
   .ret false)<|
  .ret false
noncomputable def gJ:=bS st Yk W6 [] (ks:=[.st .conn]) hZ rB Tryz.func251 trivial
noncomputable def jX:FT (Conn×Unit) (Segm) (λx=>ac x.1) (λx v=>am v):= .mk λ(x0,_)=>
  .cal zD.c (x0.s,()) λc1=>
  .cal gO.c (x0.r,()) λc2=>
  .val (bX.f (())) λc3=>
  .ret (⟨x0.tuple.my,x0.tuple.port,c1,x0.r.next,16,c2,c3,[]⟩:Segm)
noncomputable def vn:=a9 st Tryz.func252 [Jt,kQ,eA] (ks:=[.st .conn]) jX (λv=>[(true,oK v)])
noncomputable def zS:FT (Sndr×Unit) (Sndr) (λx=>bZ x.1) (λx v=>bZ v):= .mk λ(x0,_)=>
  .cal fj.c (x0,()) λc1=>
  .ite c1 (.ret ({x0 with sent:=0,finSent:=false}:Sndr))<|
  .ret x0
noncomputable def Ts:=a9 st Tryz.func253 [kU] (ks:=[.st .sndr]) zS (λv=>[(true,uo v)])
noncomputable def Ui:=[dJ,gJ,XV,Bu,vn,Gi]
def tY:Sh:=⟨[zi 1,zp 2 0,zp 4 1,zo 6 2],[zk .conn 3,.box [.st .conn [.nil .piec]],za .segm,zf]⟩
noncomputable def Vw:Fx:=⟨254,Tryz.f254,[(0,lb [1,2,4,6] [4,5]),(3000003,rA 0 25)],0⟩
noncomputable def tG (v0:Int)(a:Conn×Conn×List Segm):Tr (Stp (Conn×Conn×List Segm) ((Conn×List Segm))):=
 .val (CJ.f (a.1,())) λc4=>
 .cal p8.c (a.1.s,v0,c4,()) λc5=>
 .ite (!c5.2) (.ret (.out (a.1,a.2.2)))<|
 .cal jX.c (a.1,()) λc6=>
 .ite (!(c5.1.text==[])) (.ite c5.1.fin (.grd (px a.2.2 1 104)<|
   .val (a.2.2++[({c6 with seq:=c5.1.seq,flags:=(bits .or .i64 (bits .or .i64 c6.flags 8) 1),body:=c5.1.text}:Segm)]) λl7=>
   .cal mF.c (a.1.s,c5.1,()) λc8=>
   .ite (a.1.timer==0) (.ret (.next ((⟨a.1.tuple,a.1.state,c8,a.1.r,a.1.window,a.1.most,a.1.opts,3,a.1.tries⟩:Conn),({a.2.1 with r.held:=[]}:Conn),l7)))<|
   .ret (.next (({a.1 with s.una:=c8.una,s.data:=c8.data,s.sent:=c8.sent,s.fin:=c8.fin,s.finSent:=c8.finSent,s.done:=c8.done}:Conn),({a.2.1 with r.held:=[]}:Conn),l7)))<|
  .grd (px a.2.2 1 104)<|
  .val (a.2.2++[({c6 with seq:=c5.1.seq,flags:=(bits .or .i64 c6.flags 8),body:=c5.1.text}:Segm)]) λl9=>
  .cal mF.c (a.1.s,c5.1,()) λc10=>
  .ite (a.1.timer==0) (.ret (.next ((⟨a.1.tuple,a.1.state,c10,a.1.r,a.1.window,a.1.most,a.1.opts,3,a.1.tries⟩:Conn),({a.2.1 with r.held:=[]}:Conn),l9)))<|
  .ret (.next (({a.1 with s.una:=c10.una,s.data:=c10.data,s.sent:=c10.sent,s.fin:=c10.fin,s.finSent:=c10.finSent,s.done:=c10.done}:Conn),({a.2.1 with r.held:=[]}:Conn),l9)))<|
 .ite c5.1.fin (.grd (px a.2.2 1 104)<|
  .val (a.2.2++[({c6 with seq:=c5.1.seq,flags:=(bits .or .i64 c6.flags 1),body:=c5.1.text}:Segm)]) λl11=>
  .cal mF.c (a.1.s,c5.1,()) λc12=>
  .ite (a.1.timer==0) (.ret (.next ((⟨a.1.tuple,a.1.state,c12,a.1.r,a.1.window,a.1.most,a.1.opts,3,a.1.tries⟩:Conn),({a.2.1 with r.held:=[]}:Conn),l11)))<|
  .ret (.next (({a.1 with s.una:=c12.una,s.data:=c12.data,s.sent:=c12.sent,s.fin:=c12.fin,s.finSent:=c12.finSent,s.done:=c12.done}:Conn),({a.2.1 with r.held:=[]}:Conn),l11)))<|
 .grd (px a.2.2 1 104)<|
 .cal mF.c (a.1.s,c5.1,()) λc13=>
 .ite (a.1.timer==0) (.ret (.next ((⟨a.1.tuple,a.1.state,c13,a.1.r,a.1.window,a.1.most,a.1.opts,3,a.1.tries⟩:Conn),({a.2.1 with r.held:=[]}:Conn),(a.2.2++[({c6 with seq:=c5.1.seq,body:=c5.1.text}:Segm)]))))<|
 .ret (.next (({a.1 with s.una:=c13.una,s.data:=c13.data,s.sent:=c13.sent,s.fin:=c13.fin,s.finSent:=c13.finSent,s.done:=c13.done}:Conn),({a.2.1 with r.held:=[]}:Conn),(a.2.2++[({c6 with seq:=c5.1.seq,body:=c5.1.text}:Segm)])))
noncomputable def mE:tY.V→LW tY (Conn×Conn×List Segm) ((Conn×List Segm)):=λ(v0,v1,v2,v3,_)=>⟨(v1,v2,v3),λa=>(v0,a.1,a.2.1,a.2.2,()),tG v0,IO v1.s,oN .ret ⟨[zp 4 0,zo 5 1],[zk .conn 2,za .segm,zf]⟩ (λp=>(p.1,p.2,()))⟩
set_option maxHeartbeats 4000000 in
theorem Vl:LS Tryz.prog Vw [0] (leW 0 tY mE):=Tt st (aL Ui) _ mE [] trivial
theorem SY {v0:Int}{v1 v2:Conn}{v3:List Segm}(h0:ac v1∧ac v2∧sL am v3∧v3.length+IO v1.s≤49):(mE (v0,v1,v2,v3,())).W (λp=>ac p.1∧sL am p.2∧p.2.length≤49):=
 LW.okW (a:=(v1,v2,v3)) (λa=>ac a.1∧ac a.2.1∧sL am a.2.2∧a.2.2.length+IO a.1.s≤49) (λa=>IO a.1.s) rfl h0 λ(v1,v2,v3) hv=>by
  refine Tr.V λc4 hc4=>Tr.C ?_ λc5 hc5 qc5=>Tr.I (λb0=>Tr.Ro ?_) λb0=>Tr.C ?_ λc6 hc6 qc6=>Tr.I (λb1=>Tr.I (λb2=>Tr.Gb ?_ λg3=>Tr.V λl7 hl7=>Tr.C ?_ λc8 hc8 qc8=>Tr.I (λb4=>Tr.Rn ?_) λb4=>Tr.Rn ?_) λb2=>Tr.Gb ?_ λg3=>Tr.V λl9 hl9=>Tr.C ?_ λc10 hc10 qc10=>Tr.I (λb4=>Tr.Rn ?_) λb4=>Tr.Rn ?_) λb1=>Tr.I (λb2=>Tr.Gb ?_ λg3=>Tr.V λl11 hl11=>Tr.C ?_ λc12 hc12 qc12=>Tr.I (λb4=>Tr.Rn ?_) λb4=>Tr.Rn ?_) λb2=>Tr.Gb ?_ λg3=>Tr.C ?_ λc13 hc13 qc13=>Tr.I (λb4=>Tr.Rn ?_) λb4=>Tr.Rn ?_
  all_goals ((first|grind|(have tl:∀s:aa,s=[]∨0<s.length:=(λs=>by cases s<;>simp);grind)))
noncomputable def nY:FT (Conn×Int×Unit) (Conn×List Segm) (λx=>ac x.1) (λx v=>ac v.1∧sL am v.2∧v.2.length≤49):= .mk (λ(x0,x1,_)=>
  .cal dF.c (x0,()) λc1=>
  .bnd (β:=Bool×Unit) (.as (λw=>(w.1=false→SO c1.s∧RO c1.r)) (.cal hZ.c (c1,()) λc2=>
   .ite (!c2) (.ret (true,()))<|
   .ite (c1.state==8) (.ret (true,()))<|
   .ret ((c1.state==7),()))) λ(u3a0,_)=>
  .ite u3a0 (.ret (c1,[]))<|
  .lp (mE (x1,c1,(⟨⟨0,0,0⟩,0,⟨0,[],0,false,false,false⟩,⟨0,[],[],0,false⟩,0,0,⟨0,0,false,false,0,0⟩,0,0⟩:Conn),[],())).lp λ(p14a0,p14a1)=>
  .ret (p14a0,p14a1)) (qU @SY)
noncomputable def Di:=bS st Vw Ui [(leW 0 tY mE)] (ks:=[.st .conn,.sc (.int .i64)]) nY (λv=>[(true,fh (.o true) v.1),(false,[sc (.o true) .segm v.2])]) Tryz.func254 ⟨Vl,trivial⟩
noncomputable def Wr:=[kU,ot]
noncomputable def WG:Fx:=⟨258,Tryz.f258,[(3000001,rA 0 13)],0⟩
noncomputable def yR:FT (Sndr×aa×Unit) (Sndr×Int) (λx=>bZ x.1∧sS x.2.1) (λx v=>bZ v.1):= .mk λ(x0,x1,_)=>
  .bnd (β:=Bool×Unit) (.as (λw=>(w.1=false→SO x0)) (.cal fj.c (x0,()) λc1=>
   .ite (!c1) (.ret (true,()))<|
   .ret (x0.fin,()))) λ(u2a0,_)=>
  .ite u2a0 (.ret (x0,0))<|
  .val (jZ.f ((x1.length:Int),(IntKind.wrap .i64 (48-(x0.data.length:Int))),())) λc3=>
  .grd ((decide (0≤c3))&&(decide (c3≤(x1.length:Int))))<|
  .grd (Nat.ble (x0.data.length+((x1.take c3.toNat).drop 0).length) ao)<|
  .ret (({x0 with data:=(x0.data++((x1.take c3.toNat).drop 0))}:Sndr),c3)
noncomputable def K4:=bS st WG Wr [] (ks:=[.st .sndr,.sc .str]) yR (λv=>[(true,uo v.1),(false,[.c (.int .i64 v.2)])]) Tryz.func258 trivial
noncomputable def uB:FT (Tabl×Conn×Unit) (Tabl) (λx=>aV x.1∧ac x.2.1) (λx v=>aV v):= .mk λ(x0,x1,_)=>
  .cal mz.c (x0,()) λc1=>
  .cal dT.c (x0,x1.tuple,()) λc2=>
  .ite (decide (0≤c2)) (.cal dF.c (x1,()) λc3=>
   .grd (cG c1.conns c2)<|
   .ret (⟨(c1.conns.set c2.toNat c3),c1.waiting⟩:Tabl))<|
  .ret c1
noncomputable def Gn:=a9 st Tryz.func259 [t9,fA,dJ] (ks:=[.st .tabl,.st .conn]) uB (λv=>[(true,qh (.o true) (.o true) v)])
noncomputable def uE:FT (Recv×Int×Unit) (Recv×aa) (λx=>ay x.1) (λx v=>ay v.1∧sS v.2∧v.1.held.length=x.1.held.length):= .mk λ(x0,x1,_)=>
  .cal eb.c (x0,()) λc1=>
  .cal lc.c (x0,()) λc2=>
  .ite (!c2) (.ret (c1,[]))<|
  .val (jZ.f (x1,(x0.data.length:Int),())) λc3=>
  .val (fD.f (0,c3,())) λc4=>
  .grd (KN x0.data c4 (x0.data.length:Int))<|
  .grd ((decide (0≤c4))&&(decide (c4≤(x0.data.length:Int))))<|
  .ret (({c1 with data:=((x0.data.take ((x0.data.length:Int).toNat)).drop c4.toNat)}:Recv),((x0.data.take c4.toNat).drop 0))
noncomputable def GZ:=a9 st Tryz.func260 [zc,sJ,ot,mw] (ks:=[.st .recv,.sc (.int .i64)]) uE (λv=>[(true,uw (.o true) v.1),(false,[.c (.str v.2)])])
noncomputable def ml:FT (aa×Unit) (Bool) (λx=>sS x.1) (λ_ _=>True):= .mk λ(x0,_)=>
  .cal tW.c (x0,()) λc1=>
  .ret (c1==0)
noncomputable def CY:=a9 st Tryz.func264 [Fg] (ks:=[.sc .str]) ml rB
noncomputable def bD:FT (Conn×Unit) (Segm) (λx=>ac x.1) (λx v=>am v):= .mk λ(x0,_)=>
  .cal gZ.c (x0.s,()) λc1=>
  .cal bB.c (x0.r,()) λc2=>
  .val (bV.f (())) λc3=>
  .ret (⟨x0.tuple.my,x0.tuple.port,c1,x0.r.next,16,c2,c3,[]⟩:Segm)
noncomputable def vt:=a9 st Tryz.func292 [KO,kZ,jJ] (ks:=[.st .conn]) bD (λv=>[(true,oK v)])
noncomputable def fE:FT (Fram×Unit) (aa) (λx=>pt x.1) (λx v=>sS v∧v.length≤1600):=⟨λ(x0,_)=>
  .cal zW.c (x0,()) λc1=>
  .ite (!c1) (.ret [])<|
  .cal aX.c (x0.dst,6,()) λc2=>
  .cal aX.c (x0.src,6,()) λc3=>
  .grd (Nat.ble (c2.length+c3.length) ao)<|
  .cal aX.c (x0.type,2,()) λc4=>
  .grd (Nat.ble ((c2++c3).length+c4.length) ao)<|
  .grd (Nat.ble (((c2++c3)++c4).length+x0.body.length) ao)<|
  .ret (((c2++c3)++c4)++x0.body),
 λ(x0,_) hp=>by
  refine Tr.C trivial λc1 hc1 qc1=>Tr.I (λb0=>Tr.R ?_) λb0=>Tr.C trivial λc2 hc2 qc2=>Tr.C trivial λc3 hc3 qc3=>Tr.Gb ?_ λg1=>Tr.C trivial λc4 hc4 qc4=>Tr.Gb ?_ λg2=>Tr.Gb ?_ λg3=>Tr.R ?_
  all_goals ((first|(simp only[List.length_append,List.length_cons,List.length_nil,ao,sS]at*;omega)|grind))⟩
noncomputable def lF:=a9 st Tryz.func321 [SH,ku] (ks:=[.st .fram]) fE (λv=>[(false,[.c (.str v)])])
noncomputable def uS:FT (Sipr×Int×Unit) (Sipr) (λ_=>True) (λ_ _=>True):= .mk λ(x0,x1,_)=>
  .cal iX.c (({x0 with d:=(bits .xor .u64 x0.d x1)}:Sipr),()) λc1=>
  .cal iX.c (c1,()) λc2=>
  .ret ({c2 with a:=(bits .xor .u64 c2.a x1)}:Sipr)
noncomputable def TT:=a9 st Tryz.func349 [EE] (ks:=[.st .sipr,.sc (.int .u64)]) uS (λv=>[(true,Fu v)])
noncomputable def EH:FT (Sipr×Unit) (Int) (λ_=>True) (λ_ _=>True):= .mk λ(x0,_)=>
  .cal iX.c (({x0 with c:=(bits .xor .u64 x0.c 255)}:Sipr),()) λc1=>
  .cal iX.c (c1,()) λc2=>
  .cal iX.c (c2,()) λc3=>
  .cal iX.c (c3,()) λc4=>
  .ret (bits .xor .u64 (bits .xor .u64 (bits .xor .u64 c4.a c4.b) c4.c) c4.d)
noncomputable def Wm:=a9 st Tryz.func351 [EE] (ks:=[.st .sipr]) EH (λv=>[(false,[.c (.int .u64 v)])])
noncomputable def QD:=[PH]
noncomputable def PS:Fx:=⟨353,Tryz.f353,[(3000002,rA 0 29)],0⟩
noncomputable def vx:FT (Arpm×Int×Int×Unit) (Arpm×Bool) (λ_=>True) (λ_ _=>True):= .mk λ(x0,x1,x2,_)=>
  .bnd (β:=Bool×Unit) (.ite (x0.kind != 1) (.ret (true,()))<|
   .ite (x0.dstIp != x2) (.ret (true,()))<|
   .cal Db.c ((⟨2,x1,x2,x0.srcHw,x0.srcIp⟩:Arpm),()) λc1=>
   .ret ((!c1),())) λ(u2a0,_)=>
  .ite u2a0 (.ret ((⟨0,0,0,0,0⟩:Arpm),false))<|
  .ret ((⟨2,x1,x2,x0.srcHw,x0.srcIp⟩:Arpm),true)
noncomputable def Rz:=bS st PS QD [] (ks:=[.st .arpm,.sc (.int .i64),.sc (.int .i64)]) vx (λv=>[(true,ML v.1),(false,[.c (.bool v.2)])]) Tryz.func353 trivial
noncomputable def rq:FT (Arpm×Unit) (aa) (λ_=>True) (λx v=>sS v∧v.length≤40):=⟨λ(x0,_)=>
  .cal Db.c (x0,()) λc1=>
  .ite (!c1) (.ret [])<|
  .cal aX.c (x0.kind,2,()) λc2=>
  .grd (Nat.ble (6+c2.length) ao)<|
  .cal aX.c (x0.srcHw,6,()) λc3=>
  .grd (Nat.ble (([0,1,8,0,6,4]++c2).length+c3.length) ao)<|
  .cal aX.c (x0.srcIp,4,()) λc4=>
  .grd (Nat.ble ((([0,1,8,0,6,4]++c2)++c3).length+c4.length) ao)<|
  .cal aX.c (x0.dstHw,6,()) λc5=>
  .grd (Nat.ble (((([0,1,8,0,6,4]++c2)++c3)++c4).length+c5.length) ao)<|
  .cal aX.c (x0.dstIp,4,()) λc6=>
  .grd (Nat.ble ((((([0,1,8,0,6,4]++c2)++c3)++c4)++c5).length+c6.length) ao)<|
  .ret ((((([0,1,8,0,6,4]++c2)++c3)++c4)++c5)++c6),
 λ(x0,_) hp=>by
  refine Tr.C trivial λc1 hc1 qc1=>Tr.I (λb0=>Tr.R ?_) λb0=>Tr.C trivial λc2 hc2 qc2=>Tr.Gb ?_ λg1=>Tr.C trivial λc3 hc3 qc3=>Tr.Gb ?_ λg2=>Tr.C trivial λc4 hc4 qc4=>Tr.Gb ?_ λg3=>Tr.C trivial λc5 hc5 qc5=>Tr.Gb ?_ λg4=>Tr.C trivial λc6 hc6 qc6=>Tr.Gb ?_ λg5=>Tr.R ?_
  all_goals ((first|(simp only[List.length_append,List.length_cons,List.length_nil,ao,sS]at*;omega)|grind))⟩
noncomputable def yX:=a9 st Tryz.func354 [PH,ku] (ks:=[.st .arpm]) rq (λv=>[(false,[.c (.str v)])])
noncomputable def Tk:=[C8]
noncomputable def Vb:Fx:=⟨362,Tryz.f362,[(3000003,rA 0 27)],0⟩
noncomputable def u4:FT (List Half×Half×Int×Unit) (List Half×Bool) (λx=>sS x.1) (λx v=>sS v.1∧(v.1.length:Int)≤x.1.length+1):= .mk λ(x0,x1,x2,_)=>
  .grd (Nat.ble ((2*(0+x0.length)+1024)*96) bc)<|
  .grd (Nat.ble ((2*(0+x0.length)+1024)*96) bc)<|
  .grd (px ([]++x0) 1 96)<|
  .bnd (β:=Bool×Unit) (.as (λw=>(w.1=false→(([]++x0)++[x1]).length≤64)) (.ite (decide (x2≤(x0.length:Int))) (.ret (true,()))<|
   .cal pi.c ((([]++x0)++[x1]),()) λc1=>
   .ret ((!c1),()))) λ(u2a0,_)=>
  .ite u2a0 (.ret (([]++x0),false))<|
  .ret ((([]++x0)++[x1]),true)
noncomputable def Hb:=bS st Vb Tk [] (ks:=[.sc (.sl .half),.st .half,.sc (.int .i64)]) u4 (λv=>[(false,[sc (.o true) .half v.1]),(false,[.c (.bool v.2)])]) Tryz.func362 trivial
noncomputable def CC:=[eA,PA,Tg]
noncomputable def B5:Fx:=⟨366,Tryz.f366,[(3000004,rA 0 24)],0⟩
noncomputable def kW:FT (Int×Opti×Unit) (Opti) (λ_=>True) (λ_ _=>True):= .mk λ(x0,x1,_)=>
  .val (bX.f (())) λc1=>
  .cal Ee.c (x0,()) λc2=>
  .cal zZ.c (x1.echo,()) λc3=>
  .bnd (β:=Bool×Unit) (.ite x1.stamp (.ret (c3.2.2,()))<|
   .ret (false,())) λ(u4a0,_)=>
  .ite u4a0 (.ret (⟨c2,c3.1,c3.2.1,true,x1.val,c1.echo⟩:Opti))<|
  .ret ({c1 with mss:=c2}:Opti)
noncomputable def Cc:=bS st B5 CC [] (ks:=[.sc (.int .i64),.st .opti]) kW (λv=>[(true,oU v)]) Tryz.func366 trivial
noncomputable def kX:FT (Pack×Unit) (aa) (λx=>iZ x.1) (λx v=>sS v∧v.length≤1520):=⟨λ(x0,_)=>
  .cal wm.c (x0,()) λc1=>
  .ite (!c1) (.ret [])<|
  .cal aX.c ((IntKind.wrap .i64 (20+(x0.body.length:Int))),2,()) λc2=>
  .grd (Nat.ble (2+c2.length) ao)<|
  .cal aX.c (x0.id,2,()) λc3=>
  .grd (Nat.ble (([69,0]++c2).length+c3.length) ao)<|
  .grd (Nat.ble ((([69,0]++c2)++c3).length+2) ao)<|
  .cal aX.c (x0.ttl,1,()) λc4=>
  .grd (Nat.ble (((([69,0]++c2)++c3)++[0,0]).length+c4.length) ao)<|
  .cal aX.c (x0.proto,1,()) λc5=>
  .grd (Nat.ble ((((([69,0]++c2)++c3)++[0,0])++c4).length+c5.length) ao)<|
  .cal aX.c (x0.src,4,()) λc6=>
  .cal aX.c (x0.dst,4,()) λc7=>
  .grd (Nat.ble (c6.length+c7.length) ao)<|
  .grd (Nat.ble (((((([69,0]++c2)++c3)++[0,0])++c4)++c5).length+(c6++c7).length) ao)<|
  .cal tX.c ((((((([69,0]++c2)++c3)++[0,0])++c4)++c5)++(c6++c7)),()) λc8=>
  .cal aX.c (c8,2,()) λc9=>
  .grd (Nat.ble (((((([69,0]++c2)++c3)++[0,0])++c4)++c5).length+c9.length) ao)<|
  .grd (Nat.ble ((((((([69,0]++c2)++c3)++[0,0])++c4)++c5)++c9).length+(c6++c7).length) ao)<|
  .val ((((((([69,0]++c2)++c3)++[0,0])++c4)++c5)++c9)++(c6++c7)) λe10=>
  .grd (Nat.ble (e10.length+x0.body.length) ao)<|
  .ret (e10++x0.body),
 λ(x0,_) hp=>by
  refine Tr.C trivial λc1 hc1 qc1=>Tr.I (λb0=>Tr.R ?_) λb0=>Tr.C trivial λc2 hc2 qc2=>Tr.Gb ?_ λg1=>Tr.C trivial λc3 hc3 qc3=>Tr.Gb ?_ λg2=>Tr.Gb ?_ λg3=>Tr.C trivial λc4 hc4 qc4=>Tr.Gb ?_ λg4=>Tr.C trivial λc5 hc5 qc5=>Tr.Gb ?_ λg5=>Tr.C trivial λc6 hc6 qc6=>Tr.C trivial λc7 hc7 qc7=>Tr.Gb ?_ λg6=>Tr.Gb ?_ λg7=>Tr.C ?_ λc8 hc8 qc8=>Tr.C trivial λc9 hc9 qc9=>Tr.Gb ?_ λg8=>Tr.Gb ?_ λg9=>Tr.V λe10 he10=>Tr.Gb ?_ λg10=>Tr.R ?_
  all_goals ((first|(simp only[List.length_append,List.length_cons,List.length_nil,ao,sS]at*;omega)|grind))⟩
noncomputable def sG:=a9 st Tryz.func368 [RF,ku,Ad] (ks:=[.st .pack]) kX (λv=>[(false,[.c (.str v)])])
noncomputable def N8:=[le,rP,KO]
noncomputable def N3:Fx:=⟨388,Tryz.f388,[(3000007,rA 0 68)],0⟩
noncomputable def bh:FT (Sndr×Int×Int×Unit) (Chun×Bool) (λx=>bZ x.1) (λx v=>qK v.1∧(v.2=true→SO x.1∧(v.1.text.length:Int)+x.1.sent≤x.1.data.length∧x.1.finSent=false∧(v.1.text=[]→v.1.fin=true)∧(v.1.fin=true→x.1.fin=true∧x.1.done=false∧x.1.sent+v.1.text.length=x.1.data.length))):= .mk λ(x0,x1,x2,_)=>
  .cal bj.c (x0,()) λc1=>
  .ite (!c1) (.ret ((⟨0,[],false⟩:Chun),false))<|
  .cal dz.c (x0,()) λc2=>
  .grd (KN x0.data x0.sent (x0.data.length:Int))<|
  .val (((x0.data.take ((x0.data.length:Int).toNat)).drop x0.sent.toNat).length:Int) λe3=>
  .val (β:=Int) (if(IntKind.wrap .i64 ((if x1<(-1)then(-1)else x1)-c2))<(if x2<e3 then x2 else e3)then(IntKind.wrap .i64 ((if x1<(-1)then(-1)else x1)-c2))else(if x2<e3 then x2 else e3)) λe4=>
  .cal gZ.c (x0,()) λc5=>
  .grd ((decide (0≤(if 0<e4 then e4 else 0)))&&(decide ((if 0<e4 then e4 else 0)≤(((x0.data.take ((x0.data.length:Int).toNat)).drop x0.sent.toNat).length:Int))))<|
  .val ((((x0.data.take ((x0.data.length:Int).toNat)).drop x0.sent.toNat).take ((if 0<e4 then e4 else 0).toNat)).drop 0) λe6=>
  .ite x0.fin (.ite (!x0.finSent) (.ite (!x0.done) (.val (((x0.data.take ((x0.data.length:Int).toNat)).drop x0.sent.toNat).length:Int) λe7=>
     .ite ((if 0<e4 then e4 else 0)==e7) (.bnd (β:=Bool×Unit) (.ite (e6==[]) (.ret ((!(decide ((if 0<e4 then e4 else 0)<(IntKind.wrap .i64 ((if x1<(-1)then(-1)else x1)-c2))))),()))<|
       .ret (false,())) λ(u8a0,_)=>
      .ite u8a0 (.ret ((⟨0,[],false⟩:Chun),false))<|
      .ret ((⟨c5,e6,(decide ((if 0<e4 then e4 else 0)<(IntKind.wrap .i64 ((if x1<(-1)then(-1)else x1)-c2))))⟩:Chun),true))<|
     .bnd (β:=Bool×Unit) (.ite (e6==[]) (.ret (true,()))<|
      .ret (false,())) λ(u9a0,_)=>
     .ite u9a0 (.ret ((⟨0,[],false⟩:Chun),false))<|
     .ret ((⟨c5,e6,false⟩:Chun),true))<|
    .bnd (β:=Bool×Unit) (.ite (e6==[]) (.ret (true,()))<|
     .ret (false,())) λ(u10a0,_)=>
    .ite u10a0 (.ret ((⟨0,[],false⟩:Chun),false))<|
    .ret ((⟨c5,e6,false⟩:Chun),true))<|
   .bnd (β:=Bool×Unit) (.ite (e6==[]) (.ret (true,()))<|
    .ret (false,())) λ(u11a0,_)=>
   .ite u11a0 (.ret ((⟨0,[],false⟩:Chun),false))<|
   .ret ((⟨c5,e6,false⟩:Chun),true))<|
  .bnd (β:=Bool×Unit) (.ite (e6==[]) (.ret (true,()))<|
   .ret (false,())) λ(u12a0,_)=>
  .ite u12a0 (.ret ((⟨0,[],false⟩:Chun),false))<|
  .ret ((⟨c5,e6,false⟩:Chun),true)
noncomputable def Nd:=bS st N3 N8 [] (ks:=[.st .sndr,.sc (.int .i64),.sc (.int .i64)]) bh (λv=>[(true,abQ v.1),(false,[.c (.bool v.2)])]) Tryz.func388 trivial
noncomputable def Mv:=[sF,kZ,yj,vZ,QB]
noncomputable def Lo:Fx:=⟨398,Tryz.f398,[(3000003,rA 0 4)],0⟩
noncomputable def qI:FT (Conn×Segm×Unit) (Bool) (λx=>ac x.1∧am x.2.1) (λ_ _=>True):= .mk λ(x0,x1,_)=>
  .cal aU.c (x1,()) λc1=>
  .cal bB.c (x0.r,()) λc2=>
  .ite (c1==0) (.bnd (β:=Bool×Unit) (.val (rD.f (x1.seq,x0.r.next,())) λc3=>
    .ite (c3==0) (.ret (true,()))<|
    .val (oC.f (x1.seq,x0.r.next,c2,())) λc4=>
    .ret (c4,())) λ(u5a0,_)=>
   .ret u5a0)<|
  .val (wH.f (x1.seq,c1,x0.r.next,c2,())) λc6=>
  .ret c6
noncomputable def Mm:=bS st Lo Mv [] (ks:=[.st .conn,.st .segm]) qI rB Tryz.func398 trivial
noncomputable def kB:=[n3,td,kZ,fo,F6,Dk,Hw]
def kM:Sh:=⟨[zi 1,zs 2,zb 3,zp 4 0,zp 8 1,zp 9 2,zi 10,zp 11 3,zp 12 4,(13,false,[.fn 448 [4,3]]),zp 15 5,zl 42 .piec,zi 43,zi 44,zi 50,zi 51],[zg .recv,.box [.st .recv [.nil .piec]],zk .recv 6,.box [.own 7],.box [.own 8],zx .piec,zf,za .u8,za .bool]⟩
def nF:Sh:=⟨[zi 1,zs 2,zb 3,zp 4 0,zp 8 1,zp 9 2,zi 10,zp 11 3,zp 12 4,(13,false,[.fn 448 [4,3]]),zl 42 .piec,zi 43,zi 44],[zg .recv,.box [.st .recv [.nil .piec]],zk .recv 5,.box [.own 6],.box [.own 7],zf,za .u8,za .bool]⟩
def ne:Sh:=⟨[zi 1,zs 2,zb 3,zp 4 0,zp 8 1,zp 9 2,zi 10,zp 11 3,zp 12 4,(13,false,[.fn 448 [4,3]]),zi 67,zi 68],[zg .recv,.box [.st .recv [.nil .piec]],zk .recv 5,.box [.own 6],.box [.own 7],zf,za .u8,za .bool]⟩
def oj:Sh:=⟨[zp 4 0,zp 8 1,zp 9 2,zi 10,zp 11 3,zp 12 4,zp 19 5,zi 21],[zg .recv,.box [.st .recv [.nil .piec]],zk .recv 6,.box [.own 7],.box [.sl .any .bool],zg .recv,zf,za .u8]⟩
def kR:Sh:=⟨[zp 8 0,zp 9 1,zi 10,zp 11 2,zp 12 3,zp 19 4,zi 21,zi 22,zi 23],[.box [.st .recv [.nil .piec]],zk .recv 5,.box [.own 6],.box [.sl .any .bool],zk .recv 7,zf,za .u8,zf]⟩
def nN:Sh:=⟨[zp 8 0,zp 9 1,zi 10,zp 11 2,zp 12 3,zp 19 4,zi 21,zi 22],[.box [.st .recv [.nil .piec]],zk .recv 5,.box [.own 6],.box [.sl .any .bool],zk .recv 7,zf,za .u8,zf]⟩
def vl:An:=⟨⟨[],[],false,0⟩,⟨[4,8,9,10,11,12,19],[],false,0⟩,⟨[],[]⟩,[(.normal,⟨[zp 4 0,zp 8 1,zp 9 2,zi 10,zp 11 3,zp 12 4,zp 19 5],[zg .recv,.box [.st .recv [.nil .piec]],zk .recv 6,.box [.own 7],.box [.sl .any .bool],zg .recv,zf,za .u8]⟩)]⟩
def oG:An:=⟨⟨[],[],false,0⟩,⟨[8,9,10,11,12,19,21],[],false,0⟩,⟨[],[]⟩,[(.normal,⟨[zp 8 0,zp 9 1,zi 10,zp 11 2,zp 12 3,zp 19 4,zi 21],[.box [.st .recv [.nil .piec]],zk .recv 5,.box [.own 6],.box [.sl .any .bool],zg .recv,zf,za .u8]⟩)]⟩
noncomputable def kh:Fx:=⟨403,Tryz.f403,[(2,lb [1,2,3,4,8,9,10,11,12,13,15,42,43,44,50,51] [1,2,3,4,8,9,10,11,12,13,42,43,44]),(0,lb [1,2,3,4,8,9,10,11,12,13,42,43,44] [1,2,3,4,8,9,10,11,12,13]),(4,la ⟨[1,2,3,4,8,9,10,11,12,13,67,68],[],false,0⟩ ⟨[1,2,3,4,8,9,10,11,12],[.softb 12 0],false,0⟩),(6,lb [4,8,9,10,11,12,19,21] [4,8,9,10,11,12,19,21]),(10,lb [8,9,10,11,12,19,21,22,23] [8,9,10,11,12,19,21,22,23]),(8,la ⟨[8,9,10,11,12,19,21,22],[.box 19 2 .piec],false,0⟩ ⟨[8,9,19],[],false,0⟩),(1000123,vl),(1000152,oG),(3000002,rA 0 32),(3000021,rA 0 90),(3000026,rA 0 123)],0⟩
noncomputable def oX (vb12:Piec)(vb8:Int)(a:Recv×List Int×List Bool):Tr (Stp (Recv×List Int×List Bool) (Empty)):=
 .grd (cG vb12.text vb8)<|
 .cal gM.c ((IntKind.wrap .i64 (vb12.off+vb8)),(ai vb12.text vb8.toNat),a.2.2,a.2.1,()) λc5=>
 .ret (.next (({a.1 with held:=[]}:Recv),c5.2,c5.1))
noncomputable def dI:kM.V→qf kM (Recv×List Int×List Bool):=λ(vb0,vb1,vb2,vb3,vb4,vb5,vb6,vb7,vb8,vb9,vb10,vb11,vb12,vb13,vb14,_)=>⟨vb8,(vb10,vb13,vb14),λvb8 a=>(vb0,vb1,vb2,vb3,vb4,vb5,vb6,vb7,vb8,vb9,a.1,vb11,vb12,a.2.1,a.2.2,()),λvb8 _=>(decide (vb8<vb7)),oX vb12,up,1,(Int.toNat (vb7-vb8)),Empty.elim,Prod.mk,oN (.exit 2) ⟨[zi 1,zs 2,zb 3,zp 4 0,zp 8 1,zp 9 2,zi 10,zp 11 3,zp 12 4,(13,false,[.fn 448 [4,3]]),zl 42 .piec,zi 43,zi 44],[zg .recv,.box [.st .recv [.nil .piec]],zk .recv 5,.box [.own 6],.box [.own 7],zf,za .u8,za .bool]⟩ (λx=>(vb0,vb1,vb2,vb3,vb4,vb5,vb6,vb9,({x.2.1 with held:=[]}:Recv),vb11,x.2.2.1,x.2.2.2,()))⟩
theorem Fs:LS Tryz.prog kh [0,0] (gc 2 kM dI):=dd st (aL kB) _ dI [] trivial
theorem EV {vb0 vb3 vb5 vb6 vb7 vb8:Int}{vb1:aa}{vb2:Bool}{vb4:List Piec}{vb9 vb10 vb11:Recv}{vb12:Piec}{vb13:List Int}{vb14:List Bool}(h0:0≤vb8)(h1:vb7≤4611686018427387904)(h2:1≤vb12.off∧vb12.off+(vb12.text.length:Int)≤vb3)(h3:vb3≤32)(h4:jS vb12)(h5:vb7≤(vb12.text.length:Int))(h6:ay vb10∧sS vb13∧sS vb14∧vb13.length=vb14.length∧(vb14.length:Int)=vb3):(dI (vb0,vb1,vb2,vb3,vb4,vb5,vb6,vb7,vb8,vb9,vb10,vb11,vb12,vb13,vb14,())).U vb7 (λvb8 a=>ay a.1∧sS a.2.1∧sS a.2.2∧a.2.1.length=a.2.2.length∧(a.2.2.length:Int)=vb3) (λ_=>True):=
 ju (a:=(vb10,vb13,vb14)) h0 h1 h6
noncomputable def iz (v0:Int)(v1:aa)(v2:Bool)(v3:Int)(v4:List Piec)(v5:Int)(v7 v9:Recv)(v6:Int)(a:Recv×List Int×List Bool):Tr (Stp (Recv×List Int×List Bool) (Empty)):=
 .grd (cG v4 v6)<|
 .lp (dI (v0,v1,v2,v3,v4,v5,v6,(((v4.getD v6.toNat (Ty.zero .piec)).text).length:Int),0,v7,({a.1 with held:=[]}:Recv),v9,(v4.getD v6.toNat (Ty.zero .piec)),a.2.1,a.2.2,())).lp λ(_,a6_0,a6_1,a6_2)=>
 .ret (.next (({({a6_0 with held:=[]}:Recv)with held:=[]}:Recv),a6_1,a6_2))
noncomputable def fZ:nF.V→qf nF (Recv×List Int×List Bool):=λ(v0,v1,v2,v3,v4,v5,v6,v7,v8,v9,v10,v11,_)=>⟨v6,(v8,v10,v11),λv6 a=>(v0,v1,v2,v3,v4,v5,v6,v7,a.1,v9,a.2.1,a.2.2,()),λv6 _=>(decide (v6<v5)),iz v0 v1 v2 v3 v4 v5 v7 v9,up,1,(Int.toNat (v5-v6)),Empty.elim,Prod.mk,oN (.exit 0) ⟨[zi 1,zs 2,zb 3,zp 4 0,zp 8 1,zp 9 2,zi 10,zp 11 3,zp 12 4,(13,false,[.fn 448 [4,3]])],[zg .recv,.box [.st .recv [.nil .piec]],zk .recv 5,.box [.own 6],.box [.own 7],zf,za .u8,za .bool]⟩ (λx=>(v0,v1,v2,v3,v7,({x.2.1 with held:=[]}:Recv),v9,x.2.2.1,x.2.2.2,()))⟩
theorem K2:LS Tryz.prog kh [0] (gc 0 nF fZ):=dd st (aL kB) _ fZ [(gc 2 kM dI)] ⟨Fs,trivial⟩
theorem Lm {v0 v3 v5 v6:Int}{v1:aa}{v2:Bool}{v4:List Piec}{v7 v8 v9:Recv}{v10:List Int}{v11:List Bool}(h0:0≤v6)(h1:v5≤4611686018427387904)(h2:dg (pw v3) v4)(h3:v3≤32)(h4:sS v1)(h5:sL jS v4)(h6:ay v7)(h7:ay v9)(h8:v5≤(v4.length:Int))(h9:ay v8∧sS v10∧sS v11∧v10.length=v11.length∧(v11.length:Int)=v3):(fZ (v0,v1,v2,v3,v4,v5,v6,v7,v8,v9,v10,v11,())).U v5 (λv6 a=>ay a.1∧sS a.2.1∧sS a.2.2∧a.2.1.length=a.2.2.length∧(a.2.2.length:Int)=v3) (λ_=>True):=
 LC.okU (i:=v6) (a:=(v8,v10,v11)) (λ_ _=>rfl) (λ_=>rfl) rfl h0 h1 h9 λv6 (v8,v10,v11) hj hk hv=>by
  refine Tr.G2 ?_ λg0=>Tr.L (EV ?_ ?_ ?_ ?_ ?_ ?_ ?_) (λ(a6_0,a6_1,a6_2) i6=>Tr.Rn ?_) (λp=>Empty.elim p)
  all_goals ((try simp only[dI,LC.lp,LC.ct,Ct.lp]at*)<;>(have hp:=afE (i:=v6.toNat) h2 (by omega);simp only[pw]at hp;grind))
noncomputable def nS (v0:Int)(v1:aa)(v3:Int)(v6:Recv)(v5:Int)(a:Recv×List Int×List Bool):Tr (Stp (Recv×List Int×List Bool) (Empty)):=
 .val (bK.f (v0,v5,())) λc8=>
 .val (tv.f (c8,v6.next,())) λc9=>
 .bnd (β:=Bool×Unit) (.ite (decide (c9<v3)) (.ite (v6.fin==(-1)) (.ret (true,()))<|
   .ret ((decide (c9<v6.fin)),()))<|
  .ret (false,())) λ(u10a0,_)=>
 .ite u10a0 (.grd (cG v1 v5)<|
  .cal gM.c (c9,(ai v1 v5.toNat),a.2.2,a.2.1,()) λc11=>
  .ret (.next (({a.1 with held:=[]}:Recv),c11.2,c11.1)))<|
 .ret (.next (({a.1 with held:=[]}:Recv),a.2.1,a.2.2))
noncomputable def f8:ne.V→qf ne (Recv×List Int×List Bool):=λ(v0,v1,v2,v3,v4,v5,v6,v7,v8,v9,v10,_)=>⟨v5,(v7,v9,v10),λv5 a=>(v0,v1,v2,v3,v4,v5,v6,a.1,v8,a.2.1,a.2.2,()),λv5 _=>(decide (v5<v4)),nS v0 v1 v3 v6,up,1,(Int.toNat (v4-v5)),Empty.elim,Prod.mk,oN (.exit 4) ⟨[zi 1,zs 2,zb 3,zp 4 0,zp 8 1,zp 9 2,zi 10,zp 11 3,zp 12 4],[zg .recv,.box [.st .recv [.nil .piec]],zk .recv 5,.box [.own 6],.box [.sl .any .bool],zf,za .u8]⟩ (λx=>(v0,v1,v2,v3,v6,({x.2.1 with held:=[]}:Recv),v8,x.2.2.2,x.2.2.1,()))⟩
theorem LL:LS Tryz.prog kh [1] (gc 4 ne f8):=dd st (aL kB) _ f8 [] trivial
theorem MF {v0 v3 v4 v5:Int}{v1:aa}{v2:Bool}{v6 v7 v8:Recv}{v9:List Int}{v10:List Bool}(h0:0≤v5)(h1:v4≤4611686018427387904)(h2:v3≤32)(h3:sS v1)(h4:ay v6)(h5:v4≤(v1.length:Int))(h6:ay v7∧sS v9∧sS v10∧v9.length=v10.length∧(v10.length:Int)=v3):(f8 (v0,v1,v2,v3,v4,v5,v6,v7,v8,v9,v10,())).U v4 (λv5 a=>ay a.1∧sS a.2.1∧sS a.2.2∧a.2.1.length=a.2.2.length∧(a.2.2.length:Int)=v3) (λ_=>True):=
 ju (a:=(v7,v9,v10)) h0 h1 h6
noncomputable def sj (v5:List Bool)(v1:Int)(a:Recv):Tr (Stp (Recv) ((Int×Recv))):=
 .grd (cG v5 v1)<|
 .ite (v5.getD v1.toNat false) (.ret (.next ({a with held:=[]}:Recv)))<|
 .ret (.out (v1,({a with held:=[]}:Recv)))
noncomputable def eS:oj.V→tq oj Recv (Int×Recv):=λ(v0,v1,v2,v3,v4,v5,v6,v7,_)=>⟨v1,v3,λv1 a=>(v0,v1,v2,a,v4,v5,v6,v7,()),λv1 _=>(decide (v1<v0)),sj v5,up,1,(Int.toNat (v0-v1)),.inl,eR,oB (.exit 6) ⟨[zp 4 0,zp 8 1,zp 9 2,zi 10,zp 11 3,zp 12 4,zp 19 5,zi 21],[zg .recv,.box [.st .recv [.nil .piec]],zk .recv 6,.box [.own 7],.box [.sl .any .bool],zg .recv,zf,za .u8]⟩ (λp=>(v0,p.1,v2,p.2,v4,v5,v6,v7,())) (.exit 6) ⟨[zp 4 0,zp 8 1,zp 9 2,zi 10,zp 11 3,zp 12 4,zp 19 5,zi 21],[zg .recv,.box [.st .recv [.nil .piec]],zk .recv 6,.box [.own 7],.box [.sl .any .bool],zg .recv,zf,za .u8]⟩ (λx=>(v0,x.1,v2,({x.2 with held:=[]}:Recv),v4,v5,v6,v7,()))⟩
theorem MN:LS Tryz.prog kh [2] (gc 6 oj eS):=dd st (aL kB) _ eS [] trivial
theorem JO {v0 v1:Int}{v2 v3 v4 v6:Recv}{v5:List Bool}{v7:List Int}(h0:0≤v1)(h1:v0≤4611686018427387904)(h2:sS v5)(h3:v0≤(v5.length:Int))(h4:ay v3):(eS (v0,v1,v2,v3,v4,v5,v6,v7,())).U v0 (λv1 a=>ay a) (λp=>ay p.2∧v1≤p.1∧p.1<v0):=
 ju (a:=v3) h0 h1 h4
noncomputable def oQ (vb6:List Bool)(vb2:Int)(a:Recv):Tr (Stp (Recv) ((Int×Recv))):=
 .grd (cG vb6 vb2)<|
 .ite (vb6.getD vb2.toNat false) (.ret (.next ({a with held:=[]}:Recv)))<|
 .ret (.out (vb2,({a with held:=[]}:Recv)))
noncomputable def eq:kR.V→tq kR Recv (Int×Recv):=λ(vb0,vb1,vb2,vb3,vb4,vb5,vb6,vb7,vb8,_)=>⟨vb2,vb4,λvb2 a=>(vb0,vb1,vb2,vb3,a,vb5,vb6,vb7,vb8,()),λvb2 _=>(decide (vb2<vb0)),oQ vb6,up,1,(Int.toNat (vb0-vb2)),.inl,eR,oB (.exit 10) ⟨[zp 8 0,zp 9 1,zi 10,zp 11 2,zp 12 3,zp 19 4,zi 21,zi 22,zi 23],[.box [.st .recv [.nil .piec]],zk .recv 5,.box [.own 6],.box [.sl .any .bool],zk .recv 7,zf,za .u8,zf]⟩ (λp=>(vb0,vb1,p.1,vb3,p.2,vb5,vb6,vb7,vb8,())) (.exit 10) ⟨[zp 8 0,zp 9 1,zi 10,zp 11 2,zp 12 3,zp 19 4,zi 21,zi 22,zi 23],[.box [.st .recv [.nil .piec]],zk .recv 5,.box [.own 6],.box [.sl .any .bool],zk .recv 7,zf,za .u8,zf]⟩ (λx=>(vb0,vb1,x.1,vb3,({x.2 with held:=[]}:Recv),vb5,vb6,vb7,vb8,()))⟩
theorem Fi:LS Tryz.prog kh [3,0] (gc 10 kR eq):=dd st (aL kB) _ eq [] trivial
theorem Fn {vb0 vb1 vb2 vb3:Int}{vb4 vb5 vb7:Recv}{vb6:List Bool}{vb8:List Int}(h0:0≤vb2)(h1:vb0≤4611686018427387904)(h2:vb3=vb2)(h3:vb6.getD vb3.toNat false=true)(h4:sS vb6)(h5:vb0≤(vb6.length:Int))(h6:ay vb4):(eq (vb0,vb1,vb2,vb3,vb4,vb5,vb6,vb7,vb8,())).U vb0 (λvb2 a=>ay a) (λp=>ay p.2∧vb2≤p.1∧p.1<vb0∧vb3<p.1):=
 ju (a:=vb4) h0 h1 h6
noncomputable def fR (v0 v1:Int)(v4:Recv)(v5:List Bool)(v7:List Int)(a:Int×Recv×Recv):Tr (Stp (Int×Recv×Recv) ((Recv×Recv))):=
 .ite (decide (a.1<v0)) (.grd (cG v5 a.1)<|
  .ite (!(v5.getD a.1.toNat false)) (.ret (.next ((IntKind.wrap .i64 (a.1+1)),({a.2.1 with held:=[]}:Recv),a.2.2)))<|
  .lp (eq (v0,v1,a.1,a.1,({a.2.1 with held:=[]}:Recv),v4,v5,a.2.2,v7,())).lp λw22=> .sum w22 (λ(p22a0,p22a1)=>
  .grd (KN v7 a.1 p22a0)<|
  .grd (px a.2.2.held 1 24)<|
  .val (a.2.2.held++[(⟨(IntKind.wrap .i64 (a.1-v1)),(aw ((v7.take p22a0.toNat).drop a.1.toNat))⟩:Piec)]) λl23=>
  .ret (.next (p22a0,({p22a1 with held:=[]}:Recv),({a.2.2 with held:=l23}:Recv))))<|
  λ(n22,a22_0)=>
  .grd (KN v7 a.1 n22)<|
  .grd (px a.2.2.held 1 24)<|
  .val (a.2.2.held++[(⟨(IntKind.wrap .i64 (a.1-v1)),(aw ((v7.take n22.toNat).drop a.1.toNat))⟩:Piec)]) λl24=>
  .ret (.next (n22,({({a22_0 with held:=[]}:Recv)with held:=[]}:Recv),({a.2.2 with held:=l24}:Recv))))<|
 .ret (.out (({a.2.1 with held:=[]}:Recv),a.2.2))
noncomputable def dU:nN.V→LW nN (Int×Recv×Recv) ((Recv×Recv)):=λ(v0,v1,v2,v3,v4,v5,v6,v7,_)=>⟨(v2,v3,v6),λa=>(v0,v1,a.1,a.2.1,v4,v5,a.2.2,v7,()),fR v0 v1 v4 v5 v7,Int.toNat (v0-v2),oN (.exit 8) ⟨[zp 8 0,zp 9 1,zp 19 2],[.box [.st .recv [.nil .piec]],zk .recv 3,zk .recv 4,zf,zf]⟩ (λp=>(p.1,v4,p.2,()))⟩
theorem KU:LS Tryz.prog kh [3] (leW 8 nN dU):=Tt st (aL kB) _ dU [(gc 10 kR eq)] ⟨Fi,trivial⟩
theorem y8 {v0 v1 v2:Int}{v3 v4 v6:Recv}{v5:List Bool}{v7:List Int}(h0:v0≤32)(h1:(v5.length:Int)=v0)(h2:v7.length=v5.length)(h3:0≤v1)(h4:ay v4)(h5:sS v5)(h6:sS v7)(h7:ay v3∧ay v6∧v1≤v2∧v2≤v0∧(v6.held.length:Int)≤v2):(dU (v0,v1,v2,v3,v4,v5,v6,v7,())).W (λp=>ay p.1∧ay p.2):=
 LW.okW (a:=(v2,v3,v6)) (λa=>ay a.2.1∧ay a.2.2∧v1≤a.1∧a.1≤v0∧(a.2.2.held.length:Int)≤a.1) (λa=>Int.toNat (v0-a.1)) rfl h7 λ(v2,v3,v6) hv=>by
  refine Tr.I (λ_=>Tr.G2 ?_ λ_=>Tr.I (λ_=>Tr.Rn ?_) λ_=>Tr.L (Fn ?_ ?_ ?_ ?_ ?_ ?_ ?_) (λa22_0 _=>Tr.Sr (Tr.G3 ?_ λ_=>Tr.Gb ?_ λ_=>Tr.V λ_ _=>Tr.Rn ?_)) (λ(p22a0,p22a1) _=>Tr.Sl (Tr.G3 ?_ λ_=>Tr.Gb ?_ λ_=>Tr.V λ_ _=>Tr.Rn ?_))) λ_=>Tr.Ro ?_
  all_goals ((try simp only[eq,LC.lp,LC.ct,Ct.lp]at*)<;>grind)
noncomputable def uR:FT (Recv×Int×aa×Bool×Unit) (Recv) (λx=>ay x.1∧sS x.2.2.1) (λx v=>ay v):=⟨λ(x0,x1,x2,x3,_)=>
  .cal gg.c (x0,()) λc1=>
  .bnd (β:=Bool×Unit) (.cal br.c (x0,()) λc2=>
   .ite (!c2) (.ret (true,()))<|
   .ret (x0.done,())) λ(u3a0,_)=>
  .ite u3a0 (.ret c1)<|
  .cal bB.c (x0,()) λc4=>
  .grd ((((decide (0≤c4))&&(decide (c4=c4)))&&(decide (c4*1≤(bc:Int))))&&(decide (c4≤(bc:Int))))<|
  .grd ((((decide (0≤c4))&&(decide (c4=c4)))&&(decide (c4*1≤(bc:Int))))&&(decide (c4≤(bc:Int))))<|
  .lp (fZ (x1,x2,x3,c4,x0.held,(x0.held.length:Int),0,x0,(⟨0,[],[],0,false⟩:Recv),c1,(List.replicate c4.toNat 0),(List.replicate c4.toNat false),())).lp λ(_,a7_0,a7_1,a7_2)=>
  .lp (f8 (x1,x2,x3,c4,(x2.length:Int),0,x0,({({a7_0 with held:=[]}:Recv)with held:=[]}:Recv),c1,a7_1,a7_2,())).lp λ(_,a12_0,a12_1,a12_2)=>
  .val (bK.f (x1,(x2.length:Int),())) λc13=>
  .val (tv.f (c13,x0.next,())) λc14=>
  .bnd (β:=Bool×Unit) (.ite x3 (.ite (x0.fin==(-1)) (.ite (decide (c14≤c4)) (.grd (KN a12_2 c14 (a12_2.length:Int))<|
      .cal fp.c (((a12_2.take ((a12_2.length:Int).toNat)).drop c14.toNat),true,()) λc15=>
      .ret ((!c15),()))<|
     .ret (false,()))<|
    .ret (false,()))<|
   .ret (false,())) λ(u16a0,_)=>
  .bnd (β:=WT vl.es) (.ite u16a0 (.ret (c4,x0,({({a12_0 with held:=[]}:Recv)with held:=[]}:Recv),c1,a12_2,({x0 with fin:=c14}:Recv),a12_1,()))<|
   .ret (c4,x0,({({a12_0 with held:=[]}:Recv)with held:=[]}:Recv),c1,a12_2,x0,a12_1,())) λ(u17a0,u17a1,u17a2,u17a3,u17a4,u17a5,u17a6,_)=>
  .lp (eS (u17a0,0,u17a1,({u17a2 with held:=[]}:Recv),u17a3,u17a4,u17a5,u17a6,())).lp λw18=> .sum w18 (λ(p18a0,p18a1)=>
  .grd ((decide (0≤p18a0))&&(decide (p18a0≤(u17a6.length:Int))))<|
  .grd (Nat.ble (u17a5.data.length+(aw ((u17a6.take p18a0.toNat).drop 0)).length) ao)<|
  .val (bK.f (u17a1.next,p18a0,())) λc19=>
  .bnd (β:=WT oG.es) (.ite (u17a5.fin != (-1)) (.ret (u17a0,p18a0,({p18a1 with held:=[]}:Recv),u17a3,u17a4,(⟨c19,(u17a5.data++(aw ((u17a6.take p18a0.toNat).drop 0))),u17a5.held,(IntKind.wrap .i64 (u17a5.fin-p18a0)),u17a5.done⟩:Recv),u17a6,()))<|
   .ret (u17a0,p18a0,({p18a1 with held:=[]}:Recv),u17a3,u17a4,({u17a5 with next:=c19,data:=(u17a5.data++(aw ((u17a6.take p18a0.toNat).drop 0)))}:Recv),u17a6,())) λ(u20a0,u20a1,u20a2,u20a3,u20a4,u20a5,u20a6,_)=>
  .lp (dU (u20a0,u20a1,u20a1,({u20a2 with held:=[]}:Recv),u20a3,u20a4,({u20a5 with held:=[]}:Recv),u20a6,())).lp λ(_,p25a1)=>
  .ite (decide (3<(p25a1.held.length:Int))) (.ret u20a3)<|
  .ite (p25a1.fin==0) (.val (bK.f (p25a1.next,1,())) λc26=>
   .ret (⟨c26,p25a1.data,p25a1.held,(-1),true⟩:Recv))<|
  .ret p25a1)<|
  λ(n18,a18_0)=>
  .grd ((decide (0≤n18))&&(decide (n18≤(u17a6.length:Int))))<|
  .grd (Nat.ble (u17a5.data.length+(aw ((u17a6.take n18.toNat).drop 0)).length) ao)<|
  .val (bK.f (u17a1.next,n18,())) λc27=>
  .bnd (β:=WT oG.es) (.ite (u17a5.fin != (-1)) (.ret (u17a0,n18,({({a18_0 with held:=[]}:Recv)with held:=[]}:Recv),u17a3,u17a4,(⟨c27,(u17a5.data++(aw ((u17a6.take n18.toNat).drop 0))),u17a5.held,(IntKind.wrap .i64 (u17a5.fin-n18)),u17a5.done⟩:Recv),u17a6,()))<|
   .ret (u17a0,n18,({({a18_0 with held:=[]}:Recv)with held:=[]}:Recv),u17a3,u17a4,({u17a5 with next:=c27,data:=(u17a5.data++(aw ((u17a6.take n18.toNat).drop 0)))}:Recv),u17a6,())) λ(u28a0,u28a1,u28a2,u28a3,u28a4,u28a5,u28a6,_)=>
  .lp (dU (u28a0,u28a1,u28a1,({u28a2 with held:=[]}:Recv),u28a3,u28a4,({u28a5 with held:=[]}:Recv),u28a6,())).lp λ(_,p29a1)=>
  .ite (decide (3<(p29a1.held.length:Int))) (.ret u28a3)<|
  .ite (p29a1.fin==0) (.val (bK.f (p29a1.next,1,())) λc30=>
   .ret (⟨c30,p29a1.data,p29a1.held,(-1),true⟩:Recv))<|
  .ret p29a1,
 λ(x0,x1,x2,x3,_) hp=>by
  refine Tr.C ?_ λc1 hc1 qc1=>Tr.B (Q':=λw=>(w.1=false→RO x0∧dg (pw (Zy x0)) x0.held)) (Tr.C ?_ λc2 hc2 qc2=>Tr.I (λb0=>Tr.R ?_) λb0=>Tr.R ?_) (λ(u3a0,_) hj3 qj3=>Tr.I (λb0=>Tr.R ?_) λb0=>Tr.C ?_ λc4 hc4 qc4=>Tr.G4 ?_ λg1=>Tr.G4 ?_ λg2=>Tr.L (Lm ?_ ?_ ?_ ?_ ?_ ?_ ?_ ?_ ?_ ?_) (λ(a7_0,a7_1,a7_2) i7=>Tr.L (MF ?_ ?_ ?_ ?_ ?_ ?_ ?_) (λ(a12_0,a12_1,a12_2) i12=>Tr.V λc13 hc13=>Tr.V λc14 hc14=>Tr.B (Q':=λ_=>True) (Tr.I (λb3=>Tr.I (λb4=>Tr.I (λb5=>Tr.G3 ?_ λg6=>Tr.C ?_ λc15 hc15 qc15=>Tr.R trivial) λb5=>Tr.R trivial) λb4=>Tr.R trivial) λb3=>Tr.R trivial) (λ(u16a0,_) hj16 qj16=>Tr.B (Q':=λw=>ay w.2.1∧ay w.2.2.1∧ay w.2.2.2.1∧sS w.2.2.2.2.1∧ay w.2.2.2.2.2.1∧sS w.2.2.2.2.2.2.1∧w.1≤32∧0≤w.1∧(w.2.2.2.2.1.length:Int)=w.1∧w.2.2.2.2.2.2.1.length=w.2.2.2.2.1.length∧w.2.2.2.2.2.1.data.length≤32) (Tr.I (λb3=>Tr.R ?_) λb3=>Tr.R ?_) (λ(u17a0,u17a1,u17a2,u17a3,u17a4,u17a5,u17a6,_) hj17 qj17=>Tr.L (JO ?_ ?_ ?_ ?_ ?_) (λa18_0 i18=>Tr.Sr (Tr.G2 ?_ λg3=>Tr.Gb ?_ λg4=>Tr.V λc27 hc27=>Tr.B (Q':=λw=>ay w.2.2.1∧ay w.2.2.2.1∧sS w.2.2.2.2.1∧ay w.2.2.2.2.2.1∧sS w.2.2.2.2.2.2.1∧w.1≤32∧0≤w.2.1∧w.2.1≤w.1∧(w.2.2.2.2.1.length:Int)=w.1∧w.2.2.2.2.2.2.1.length=w.2.2.2.2.1.length∧w.2.2.2.2.2.1.data.length≤64) (Tr.I (λb5=>Tr.R ?_) λb5=>Tr.R ?_) (λ(u28a0,u28a1,u28a2,u28a3,u28a4,u28a5,u28a6,_) hj28 qj28=>Tr.L (y8 ?_ ?_ ?_ ?_ ?_ ?_ ?_ ?_) (λa=>Empty.elim a) (λ(p29a0,p29a1) hp29=>Tr.I (λb5=>Tr.R ?_) λb5=>Tr.I (λb6=>Tr.V λc30 hc30=>Tr.R ?_) λb6=>Tr.R ?_)))) (λ(p18a0,p18a1) hp18=>Tr.Sl (Tr.G2 ?_ λg3=>Tr.Gb ?_ λg4=>Tr.V λc19 hc19=>Tr.B (Q':=λw=>ay w.2.2.1∧ay w.2.2.2.1∧sS w.2.2.2.2.1∧ay w.2.2.2.2.2.1∧sS w.2.2.2.2.2.2.1∧w.1≤32∧0≤w.2.1∧w.2.1≤w.1∧(w.2.2.2.2.1.length:Int)=w.1∧w.2.2.2.2.2.2.1.length=w.2.2.2.2.1.length∧w.2.2.2.2.2.1.data.length≤64) (Tr.I (λb5=>Tr.R ?_) λb5=>Tr.R ?_) (λ(u20a0,u20a1,u20a2,u20a3,u20a4,u20a5,u20a6,_) hj20 qj20=>Tr.L (y8 ?_ ?_ ?_ ?_ ?_ ?_ ?_ ?_) (λa=>Empty.elim a) (λ(p25a0,p25a1) hp25=>Tr.I (λb5=>Tr.R ?_) λb5=>Tr.I (λb6=>Tr.V λc26 hc26=>Tr.R ?_) λb6=>Tr.R ?_))))))) (λp=>Empty.elim p)) (λp=>Empty.elim p))
  all_goals ((try simp only[fZ,f8,eS,dU,LC.lp,LC.ct,Ct.lp,LW.lp,LW.cw,Cw.lp,Tr.nice,j5]at*)<;>grind)⟩
noncomputable def S4:=bS st kh kB [(gc 0 nF fZ),(gc 4 ne f8),(gc 6 oj eS),(leW 8 nN dU)] (ks:=[.st .recv,.sc (.int .i64),.sc .str,.sc .bool]) uR (λv=>[(true,uw (.o true) v)]) Tryz.func403 ⟨K2,LL,MN,KU,trivial⟩
noncomputable def Wl:=[cZ,gP,bI]
def yQ:An:=⟨⟨[],[],false,0⟩,⟨[1,2,3],[],false,0⟩,⟨[],[]⟩,[(.normal,⟨[zp 1 0,zp 2 1,zp 3 2],[zg .conn,.box [.st .conn [.nil .piec]],zk .conn 3,zf]⟩),(.ret,⟨[zp 1 0,zp 2 1,zp 3 2],[zg .conn,zk .conn 3,zk .conn 3,zf]⟩)]⟩
noncomputable def Xe:Fx:=⟨404,Tryz.f404,[(1000016,yQ),(3000004,rA 0 16),(3000006,rA 0 24),(3000008,rA 0 35),(3000010,rA 0 43),(3000012,rA 0 51),(3000014,rA 0 59),(3000020,rA 0 85)],0⟩
noncomputable def rO:FT (Conn×Unit) (Conn) (λx=>ac x.1) (λx v=>ac v):= .mk λ(x0,_)=>
  .cal ci.c (x0,()) λc1=>
  .bnd (β:=Bool×Unit) (.ite (x0.state==1) (.ret (x0.r.done,()))<|
   .ret (false,())) λ(u2a0,_)=>
  .bnd (β:=WT yQ.es) (.as (Sum.elim (λw=>ac w.1∧ac w.2.1∧ac w.2.2.1) (λw=>ac w.1∧ac w.2.1∧ac w.2.2.1)) (.ite u2a0 (.ret (.inl (x0,(⟨⟨0,0,0⟩,0,⟨0,[],0,false,false,false⟩,⟨0,[],[],0,false⟩,0,0,⟨0,0,false,false,0,0⟩,0,0⟩:Conn),({c1 with state:=4}:Conn),())))<|
   .bnd (β:=Bool×Unit) (.ite (x0.state==2) (.ite x0.s.done (.ret (x0.r.done,()))<|
     .ret (false,()))<|
    .ret (false,())) λ(u3a0,_)=>
   .ite u3a0 (.ret (.inl (x0,(⟨⟨0,0,0⟩,0,⟨0,[],0,false,false,false⟩,⟨0,[],[],0,false⟩,0,0,⟨0,0,false,false,0,0⟩,0,0⟩:Conn),({c1 with state:=7}:Conn),())))<|
   .bnd (β:=Bool×Unit) (.ite (x0.state==2) (.ret (x0.s.done,()))<|
    .ret (false,())) λ(u4a0,_)=>
   .ite u4a0 (.ret (.inl (x0,(⟨⟨0,0,0⟩,0,⟨0,[],0,false,false,false⟩,⟨0,[],[],0,false⟩,0,0,⟨0,0,false,false,0,0⟩,0,0⟩:Conn),({c1 with state:=3}:Conn),())))<|
   .bnd (β:=Bool×Unit) (.ite (x0.state==2) (.ret (x0.r.done,()))<|
    .ret (false,())) λ(u5a0,_)=>
   .ite u5a0 (.ret (.inl (x0,(⟨⟨0,0,0⟩,0,⟨0,[],0,false,false,false⟩,⟨0,[],[],0,false⟩,0,0,⟨0,0,false,false,0,0⟩,0,0⟩:Conn),({c1 with state:=5}:Conn),())))<|
   .bnd (β:=Bool×Unit) (.ite (x0.state==3) (.ret (x0.r.done,()))<|
    .ret (false,())) λ(u6a0,_)=>
   .ite u6a0 (.ret (.inl (x0,(⟨⟨0,0,0⟩,0,⟨0,[],0,false,false,false⟩,⟨0,[],[],0,false⟩,0,0,⟨0,0,false,false,0,0⟩,0,0⟩:Conn),({c1 with state:=7}:Conn),())))<|
   .bnd (β:=Bool×Unit) (.ite (x0.state==5) (.ret (x0.s.done,()))<|
    .ret (false,())) λ(u7a0,_)=>
   .ite u7a0 (.ret (.inl (x0,(⟨⟨0,0,0⟩,0,⟨0,[],0,false,false,false⟩,⟨0,[],[],0,false⟩,0,0,⟨0,0,false,false,0,0⟩,0,0⟩:Conn),({c1 with state:=7}:Conn),())))<|
   .ite (x0.state==6) (.ite x0.s.done (.ret (.inl (x0,(⟨⟨0,0,0⟩,0,⟨0,[],0,false,false,false⟩,⟨0,[],[],0,false⟩,0,0,⟨0,0,false,false,0,0⟩,0,0⟩:Conn),({c1 with state:=8}:Conn),())))<|
    .ret (.inr ((x0,c1,c1,()))))<|
   .ret (.inr ((x0,c1,c1,()))))) λw8=> .sum w8 (λ(u8a0,_,u8a2,_)=>
  .bnd (β:=Bool×Unit) (.as (λw=>(w.1=false→SO ({u8a2 with timer:=0}:Conn).s∧RO ({u8a2 with timer:=0}:Conn).r)) (.cal aO.c (({u8a2 with timer:=0}:Conn),()) λc9=>
   .ite (!c9) (.ret (true,()))<|
   .val (bk.f (u8a0.timer,0,4,())) λc10=>
   .ret ((!c10),()))) λ(u11a0,_)=>
  .ite u11a0 (.cal ci.c (u8a0,()) λc12=>
   .ret c12)<|
  .ite (u8a2.state==7) (.ret ({u8a2 with timer:=4,tries:=0}:Conn))<|
  .ite (u8a2.state==8) (.ret ({u8a2 with timer:=0,tries:=0}:Conn))<|
  .ret u8a2)<|
  λ(_,u8b1,_,_)=>
  .ret u8b1
noncomputable def WK:=bS st Xe Wl [] (ks:=[.st .conn]) rO (λv=>[(true,fh (.o true) v)]) Tryz.func404 trivial
noncomputable def Ku:=[sW,kQ,yT,wU,RK]
noncomputable def ME:Fx:=⟨468,Tryz.f468,[(3000004,rA 0 4)],0⟩
noncomputable def qF:FT (Conn×Segm×Unit) (Bool) (λx=>ac x.1∧am x.2.1) (λ_ _=>True):= .mk λ(x0,x1,_)=>
  .cal i2.c (x1,()) λc1=>
  .cal gO.c (x0.r,()) λc2=>
  .ite (c1==0) (.bnd (β:=Bool×Unit) (.val (ri.f (x1.seq,x0.r.next,())) λc3=>
    .ite (c3==0) (.ret (true,()))<|
    .val (pc.f (x1.seq,x0.r.next,c2,())) λc4=>
    .ret (c4,())) λ(u5a0,_)=>
   .ret u5a0)<|
  .cal vK.c (x1.seq,c1,x0.r.next,c2,()) λc6=>
  .ret c6
noncomputable def Jk:=bS st ME Ku [] (ks:=[.st .conn,.st .segm]) qF rB Tryz.func468 trivial
noncomputable def WW:=[dJ,Qw,gJ,cy]
noncomputable def Xt:Fx:=⟨472,Tryz.f472,[(3000003,rA 0 37)],0⟩
noncomputable def tc:FT (Conn×Unit) (Conn) (λx=>ac x.1) (λx v=>ac v):= .mk λ(x0,_)=>
  .cal dF.c (x0,()) λc1=>
  .cal vH.c (x0,()) λc2=>
  .bnd (β:=Bool×Unit) (.as (λw=>(w.1=false→SO ({x0 with state:=c2,timer:=0,tries:=0}:Conn).s∧RO ({x0 with state:=c2,timer:=0,tries:=0}:Conn).r)) (.cal hZ.c (({x0 with state:=c2,timer:=0,tries:=0}:Conn),()) λc3=>
   .ite (!c3) (.ret (true,()))<|
   .val (ce.f (x0.timer,0,4,())) λc4=>
   .ite (!c4) (.ret (true,()))<|
   .val (ce.f (x0.tries,0,3,())) λc5=>
   .ret ((!c5),()))) λ(u6a0,_)=>
  .ite u6a0 (.cal dF.c (x0,()) λc7=>
   .ret c7)<|
  .ite (c2==x0.state) (.ret ({c1 with state:=c2}:Conn))<|
  .ite (c2==7) (.ite (c2==8) (.ret ({c1 with state:=c2,timer:=0,tries:=0}:Conn))<|
   .ret ({c1 with state:=c2,timer:=4,tries:=0}:Conn))<|
  .ite (c2==8) (.ret ({c1 with state:=c2,timer:=0,tries:=0}:Conn))<|
  .ret ({c1 with state:=c2}:Conn)
noncomputable def WB:=bS st Xt WW [] (ks:=[.st .conn]) tc (λv=>[(true,fh (.o true) v)]) Tryz.func472 trivial
noncomputable def va:FT (Sipr×Int×Unit) (Sipr) (λ_=>True) (λ_ _=>True):= .mk λ(x0,x1,_)=>
  .cal kD.c (({x0 with d:=(bits .xor .u64 x0.d x1)}:Sipr),()) λc1=>
  .cal kD.c (c1,()) λc2=>
  .ret ({c2 with a:=(bits .xor .u64 c2.a x1)}:Sipr)
noncomputable def VC:=a9 st Tryz.func476 [DG] (ks:=[.st .sipr,.sc (.int .u64)]) va (λv=>[(true,Fu v)])
def A9:Sh:=⟨[zp 1 0,zi 7],[zx .sipr]⟩
noncomputable def ut (v0:Int)(a:Sipr):Tr (Stp (Sipr) (Empty)):=
 .cal kD.c (a,()) λc1=>
 .ret (.next c1)
noncomputable def li:A9.V→qf A9 Sipr:=λ(v0,v1,_)=>⟨v0,v1,λv0 a=>(v0,a,()),λv0 _=>(decide (v0<4)),ut,up,1,(Int.toNat (4-v0)),Empty.elim,Prod.mk,oN (.exit 0) ⟨[zp 1 0,zu 2],[zx .sipr]⟩ (λx=>(x.2,()))⟩
theorem NH {v0:Int}{v1:Sipr}(h0:0≤v0):(li (v0,v1,())).U 4 (λ_ _=>True) (λ_=>True):=
 ju (a:=v1) h0 (by decide) trivial
noncomputable def vb:FT (Sipr×Unit) (Int) (λ_=>True) (λ_ _=>True):= .mk (λ(x0,_)=>
  .lp (li (0,({x0 with c:=(bits .xor .u64 x0.c 255)}:Sipr),())).lp λ(_,a2_0)=>
  .val (bits .xor .u64 (bits .xor .u64 (bits .xor .u64 a2_0.a a2_0.b) a2_0.c) a2_0.d) λe3=>
  .ret e3) (qU @NH)
noncomputable def XG:=eE st Tryz.func478 [(0,lb [1,7] [1,2])] [DG] 0 li (ks:=[.st .sipr]) vb (λv=>[(false,[.c (.int .u64 v)])])
noncomputable def wP:FT (Conn×Tupl×Unit) (Bool) (λ_=>True) (λ_ _=>True):= .mk λ(x0,y1,_)=>
  .ret ((x0.tuple.ip==y1.ip)&&((x0.tuple.port==y1.port)&&((x0.tuple.my==y1.my)&&true)))
noncomputable def Mf:=cq st ⟨174,Tryz.f174,[],1⟩ [] [] [.st .conn,.wr false [.ptr 0]] [.box [.st .tupl]] (λx y=>(x.1,y.1.1,())) wP rB (λx y v=>((y.1.1,()),())) Tryz.func174 (by kernel_rfl) trivial
noncomputable def vN:FT (Half×Tupl×Unit) (Bool) (λ_=>True) (λ_ _=>True):= .mk λ(x0,y1,_)=>
  .ret ((x0.tuple.ip==y1.ip)&&((x0.tuple.port==y1.port)&&((x0.tuple.my==y1.my)&&true)))
noncomputable def Kj:=cq st ⟨309,Tryz.f309,[],1⟩ [] [] [.st .half,.wr false [.ptr 0]] [.box [.st .tupl]] (λx y=>(x.1,y.1.1,())) vN rB (λx y v=>((y.1.1,()),())) Tryz.func309 (by kernel_rfl) trivial
noncomputable def lC:FT (Tabl×Unit) (Tabl×Tupl×Bool) (λx=>aV x.1) (λx v=>aV v.1∧v.1.conns.length=x.1.conns.length∧v.1.waiting.length≤x.1.waiting.length):= .mk λ(x0,_)=>
  .cal mz.c (x0,()) λc1=>
  .ite ((x0.waiting.length:Int)==0) (.ret (c1,(⟨0,0,0⟩:Tupl),false))<|
  .grd ((decide (1≤(x0.waiting.length:Int)))&&(decide ((x0.waiting.length:Int)≤(x0.waiting.length:Int))))<|
  .grd (Nat.ble ((2*(0+((x0.waiting.take ((x0.waiting.length:Int).toNat)).drop 1).length)+1024)*24) bc)<|
  .grd (decide (0<(x0.waiting.length:Int)))<|
  .ret ((⟨c1.conns,([]++((x0.waiting.take ((x0.waiting.length:Int).toNat)).drop 1))⟩:Tabl),(x0.waiting.getD 0 (Ty.zero .tupl)),true)
noncomputable def xf:=a9 st Tryz.func54 [t9] (ks:=[.st .tabl]) lC (λv=>[(true,qh (.o true) (.o true) v.1),(true,FI v.2.1),(false,[.c (.bool v.2.2)])])
noncomputable def Ir:=[kt]
noncomputable def Ip:Fx:=⟨71,Tryz.f71,[(4000000,la ⟨[],[],false,0⟩ ⟨[],[.softb 2 1],false,0⟩)],0⟩
noncomputable def pq:FT (Tabl×Unit) (Tabl×Tupl×Bool) (λx=>aV x.1) (λx v=>aV v.1∧v.1.conns.length=x.1.conns.length∧v.1.waiting.length≤x.1.waiting.length):= .mk λ(x0,_)=>
  .cal fB.c (x0,()) λc1=>
  .ite ((x0.waiting.length:Int)==0) (.ret (c1,(⟨0,0,0⟩:Tupl),false))<|
  .grd ((decide (1≤(c1.waiting.length:Int)))&&(decide ((c1.waiting.length:Int)≤(c1.waiting.length:Int))))<|
  .grd (decide (0<(x0.waiting.length:Int)))<|
  .ret ((⟨c1.conns,((c1.waiting.take ((c1.waiting.length:Int).toNat)).drop 1)⟩:Tabl),(x0.waiting.getD 0 (Ty.zero .tupl)),true)
noncomputable def Hq:=bS st Ip Ir [] (ks:=[.st .tabl]) pq (λv=>[(true,qh (.o true) .c v.1),(true,FI v.2.1),(false,[.c (.bool v.2.2)])]) Tryz.func71 trivial
def yg:Sh:=⟨[zi 1,zp 3 0,zo 7 1,zl 14 .segm,zi 15,zi 16],[.box [.st .stac [.sl .arg,.sl .arg,.sl .arg,.sl .arg,.sl .arg,.sl .arg]],za .str]⟩
noncomputable def y5 (v0:Int)(v1:List Segm)(v4:Stac)(v3:Int)(a:List aa):Tr (Stp (List aa) (Empty)):=
 .grd (cG v1 v3)<|
 .cal cE.c ((v1.getD v3.toNat (Ty.zero .segm)),v4.link.ip,v0,()) λc1=>
 .ite (c1==[]) (.ret (.next a))<|
 .cal jE.c (v4.link,v0,c1,()) λc2=>
 .ite c2.2 (.grd (px a 1 16)<|
  .ret (.next (a++[c2.1])))<|
 .ret (.next a)
noncomputable def j9:yg.V→qf yg (List aa):=λ(v0,v1,v2,v3,v4,v5,_)=>⟨v3,v5,λv3 a=>(v0,v1,v2,v3,v4,a,()),λv3 _=>(decide (v3<v2)),y5 v0 v1 v4,up,1,(Int.toNat (v2-v3)),Empty.elim,Prod.mk,oN (.exit 0) ⟨[zu 6,zo 7 0],[za .str]⟩ (λx=>(x.2,()))⟩
theorem L5 {v0 v2 v3:Int}{v1:List Segm}{v4:Stac}{v5:List aa}(h0:0≤v3)(h1:v2≤4611686018427387904)(h2:sL am v1)(h3:az v4)(h4:v2≤4294967296)(h5:v2≤(v1.length:Int))(h6:(v5.length:Int)≤v3∧dg sS v5):(j9 (v0,v1,v2,v3,v4,v5,())).U v2 (λv3 a=>(a.length:Int)≤v3∧dg sS a) (λ_=>True):=
 ju (a:=v5) h0 h1 h6
noncomputable def rE:FT (Stac×Int×List Segm×Unit) (List aa) (λx=>az x.1∧sL am x.2.2.1) (λx v=>sL sS v∧v.length≤x.2.2.1.length):=⟨λ(x0,x1,x2,_)=>
  .lp (j9 (x1,x2,(x2.length:Int),0,x0,[],())).lp λ(_,a3_0)=>
  .ret a3_0,
 λ(x0,x1,x2,_) hp=>by
  refine Tr.L (L5 ?_ ?_ ?_ ?_ ?_ ?_ ?_) (λa3_0 _=>Tr.R ?_) (λp=>Empty.elim p)
  all_goals ((try simp only[j9,LC.lp,LC.ct,Ct.lp]at*)<;>grind)⟩
noncomputable def yt:=eE st Tryz.func77 [(0,lb [1,3,7,14,15,16] [6,7])] [Ib,UX] 0 j9 (ks:=[.st .stac,.sc (.int .i64),.sc (.sl .segm)]) rE (λv=>[(false,[sc (.o true) .str v])])
noncomputable def gF:FT (Door×Unit) (Door) (λx=>aC x.1) (λx v=>aC v∧v.table.conns.length=x.1.table.conns.length∧v.table.waiting.length=x.1.table.waiting.length∧v.halves=x.1.halves):= .mk λ(x0,_)=>
  .cal qd.c (x0.keys,()) λc1=>
  .cal eB.c (x0.halves,()) λc2=>
  .cal fB.c (x0.table,()) λc3=>
  .ret (⟨x0.port,x0.clock,c1,x0.limits,c2,c3,x0.chal⟩:Door)
noncomputable def jL:=a9 st Tryz.func87 [BD,sC,kt] (ks:=[.st .door]) gF (λv=>[(true,kC (.o true) (.o true) (.o true) (.o true) (.o true) v)])

end
end Go.Proofs.YtfpdenjmlnhnnaaGreat
