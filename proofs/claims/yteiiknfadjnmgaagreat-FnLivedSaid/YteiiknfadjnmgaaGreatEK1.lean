/-
  Contracts of functions and plain laws (printed by a program): each theorem says what a function of the program returns; conditions are its hypotheses.
-/
import Derived.Test.YteiiknfadjnmgaaGreatBase
set_option linter.all false
set_option maxRecDepth 4000
namespace Go.Proofs.YteiiknfadjnmgaaGreat
open Go Go.RowKit
noncomputable section
@[reducible] def zp (t i:Nat):Nat×Bool×List Pt:=(t,false,[.ptr i 0])
@[reducible] def zi (t:Nat):Nat×Bool×List Pt:=(t,false,[.int .i64])
@[reducible] def zb (t:Nat):Nat×Bool×List Pt:=(t,false,[.bool])
@[reducible] def zu (t:Nat):Nat×Bool×List Pt:=(t,false,[.undef])
@[reducible] def zs (t:Nat):Nat×Bool×List Pt:=(t,false,[.str])
@[reducible] def zl (n:Nat)(t:Ty):Nat×Bool×List Pt:=(n,false,[.sl .arg t])
@[reducible] def zo (n k:Nat):Nat×Bool×List Pt:=(n,false,[.own k])
@[reducible] def zx (t:Ty):Osh:=.box [.st t []]
@[reducible] def zg (t:Ty):Osh:=.box [.st t [.sl .arg]]
@[reducible] def zk (t:Ty)(k:Nat):Osh:=.box [.st t [.own k]]
@[reducible] def zf :Osh:=.of false true
@[reducible] def za (t:Ty):Osh:=.arr t false true
noncomputable def yp:FF (List Int×Unit) (Bool):=⟨λ(x0,_)=>
  .ret (decide (1048576<(x0.length:Int)))⟩
@[grind=] theorem agb (x0:List Int):yp.f (x0,())=decide (1048576<(x0.length:Int)):=by
 simp only[yp,FF.f,Tr.nice]
noncomputable def RQ:=lI st Tryz.func10 [] (ks:=[.sc (.sl .u8)]) yp rB
def ug:Sh:=⟨[zp 2 0,zp 3 1,zi 5],[zg .resu,zg .resu]⟩
noncomputable def tM (v1 v2:Resu)(v0:Int)(a:Unit):Tr (Stp (Unit) ((Unit))):=
 .grd (cj v1.frames v0)<|
 .grd (cj v2.frames v0)<|
 .ite (!((v1.frames.getD v0.toNat [])==(v2.frames.getD v0.toNat []))) (.ret (.out ()))<|
 .ret (.next ())
noncomputable def j6:ug.V→qF ug Unit (Unit):=λ(v0,v1,v2,_)=>⟨v0,(),λv0 _=>(v0,v1,v2,()),λv0 _=>(decide (v0<(v1.frames.length:Int))),tM v1 v2,up,1,(Int.toNat ((v1.frames.length:Int)-v0)),.inl,eR,oB .ret ⟨[zp 2 0,zp 3 1,zb 4],[zg .resu,zg .resu]⟩ (λ_=>(false,v1,v2,())) (.exit 0) ⟨[zp 2 0,zp 3 1,zu 4],[zg .resu,zg .resu]⟩ (λ_=>(v1,v2,()))⟩
theorem EQ {v0:Int}{v1 v2:Resu}(h0:0≤v0)(h1:(v1.frames.length:Int)≤4611686018427387904)(h2:(v1.frames.length:Int)≤(v2.frames.length:Int)):(j6 (v0,v1,v2,())).U (v1.frames.length:Int) (λ_ _=>True) (λ_=>True):=
 iT h0 h1 trivial
noncomputable def jl:FT (Resu×Resu×Unit) (Bool) (λx=>eb x.1∧eb x.2.1) (λ_ _=>True):= .mk (λ(x0,x1,_)=>
  .ite ((x0.frames.length:Int) != (x1.frames.length:Int)) (.ret false)<|
  .lp (j6 (0,x0,x1,())).lp λw1=> .sum w1 (λ_=>
  .ret false)<|
  λ_=>
  .ite (x0.made==x1.made) (.ite ((x0.tuple.ip==x1.tuple.ip)&&((x0.tuple.port==x1.tuple.port)&&((x0.tuple.my==x1.tuple.my)&&true))) (.ite (x0.n==x1.n) (.ite (x0.text==x1.text) (.ret (x0.ok==x1.ok))<|
     .ret false)<|
    .ret false)<|
   .ret false)<|
  .ret false) (qm @EQ)
noncomputable def sT:=ez st Tryz.func15 [(0,lb [2,3,5] [2,3,4])] [] 0 j6 (ks:=[.st .resu,.st .resu]) jl rB
noncomputable def wu:List (Ent1 Tryz.prog):=[]
def j3:Sh:=⟨[zi 3,zl 20 .conn,zi 21,zi 22,zl 40 .piec,zi 41,zi 42],[]⟩
def lX:Sh:=⟨[zi 3,zl 20 .conn,zi 21,zi 22],[]⟩
noncomputable def xk:Fx:=⟨21,Tryz.f21,[(2,lb [3,20,21,22,40,41,42] [2,3,20,21,22]),(0,lb [3,20,21,22] [2,3])],0⟩
noncomputable def tT (vb4:List Piec)(vb6:Int)(a:Int):Tr (Stp (Int) (Empty)):=
 .grd (cj vb4 vb6)<|
 .val (IntKind.wrap .i64 (a+(((vb4.getD vb6.toNat (Ty.zero .piec)).text).length:Int))) λe4=>
 .ret (.next e4)
noncomputable def di:j3.V→qc j3 Int:=λ(vb0,vb1,vb2,vb3,vb4,vb5,vb6,_)=>⟨vb6,vb0,λvb6 a=>(a,vb1,vb2,vb3,vb4,vb5,vb6,()),λvb6 _=>(decide (vb6<vb5)),tT vb4,up,1,(Int.toNat (vb5-vb6)),Empty.elim,Prod.mk,oN (.exit 2) ⟨[zu 2,zi 3,zl 20 .conn,zi 21,zi 22],[]⟩ (λx=>(x.2,vb1,vb2,vb3,()))⟩
theorem Df:LS Tryz.prog xk [0,0] (fv 2 j3 di):=cI st (aH wu) _ di [] trivial
theorem Dk {vb0 vb2 vb3 vb5 vb6:Int}{vb1:List Conn}{vb4:List Piec}(h0:0≤vb6)(h1:vb5≤4611686018427387904)(h2:vb5≤(vb4.length:Int)):(di (vb0,vb1,vb2,vb3,vb4,vb5,vb6,())).U vb5 (λ_ _=>True) (λ_=>True):=
 iT (a:=vb0) h0 h1 trivial
noncomputable def jC (v1:List Conn)(v2:Int)(v3:Int)(a:Int):Tr (Stp (Int) (Empty)):=
 .grd (cj v1 v3)<|
 .val (IntKind.wrap .i64 (128+(((v1.getD v3.toNat (Ty.zero .conn)).s.data).length:Int))) λe2=>
 .val (IntKind.wrap .i64 (e2+(((v1.getD v3.toNat (Ty.zero .conn)).r.data).length:Int))) λe3=>
 .lp (di ((IntKind.wrap .i64 (a+e3)),v1,v2,v3,(v1.getD v3.toNat (Ty.zero .conn)).r.held,(((v1.getD v3.toNat (Ty.zero .conn)).r.held).length:Int),0,())).lp λ(_,a5_0)=>
 .ret (.next a5_0)
noncomputable def gd:lX.V→qc lX Int:=λ(v0,v1,v2,v3,_)=>⟨v3,v0,λv3 a=>(a,v1,v2,v3,()),λv3 _=>(decide (v3<v2)),jC v1 v2,up,1,(Int.toNat (v2-v3)),Empty.elim,Prod.mk,oN (.exit 0) ⟨[zu 2,zi 3],[]⟩ (λx=>(x.2,()))⟩
theorem HK:LS Tryz.prog xk [0] (fv 0 lX gd):=cI st (aH wu) _ gd [(fv 2 j3 di)] ⟨Df,trivial⟩
theorem Id {v0 v2 v3:Int}{v1:List Conn}(h0:0≤v3)(h1:v2≤4611686018427387904)(h2:sL ac v1)(h3:v2≤(v1.length:Int)):(gd (v0,v1,v2,v3,())).U v2 (λ_ _=>True) (λ_=>True):=
 LC.okU (i:=v3) (a:=v0) (λ_ _=>rfl) (λ_=>rfl) rfl h0 h1 trivial λv3 v0 hj hk hv=>by
  refine Tr.G2 ?_ λ_=>Tr.V λ_ _=>Tr.V λ_ _=>Tr.L (Dk ?_ ?_ ?_) (λa5_0 _=>Tr.Rn trivial) (λp=>Empty.elim p)
  all_goals ((try simp only[di,LC.lp,LC.ct,Ct.lp]at*)<;>grind)
noncomputable def pm:FT (Door×Unit) (Int) (λx=>aC x.1) (λ_ _=>True):= .mk (λ(x0,_)=>
  .val (IntKind.wrap .i64 ((IntKind.wrap .i64 (64*(x0.halves.length:Int)))+(IntKind.wrap .i64 (8*(x0.table.waiting.length:Int))))) λe1=>
  .lp (gd (e1,x0.table.conns,(x0.table.conns.length:Int),0,())).lp λ(_,a6_0)=>
  .ret a6_0) (qm @Id)
noncomputable def QL:=bM st xk wu [(fv 0 lX gd)] (ks:=[.st .door]) pm rI Tryz.func21 ⟨HK,trivial⟩
def xS:Sh:=⟨[zp 2 0,zp 3 1,zi 5],[.box [.st .tabl [.sl .arg,.sl .arg]],zx .tupl]⟩
noncomputable def xG (v1:Tabl)(v2:Tupl)(v0:Int)(a:Unit):Tr (Stp (Unit) ((Int))):=
 .grd (cj v1.conns v0)<|
 .ite (((v1.conns.getD v0.toNat (Ty.zero .conn)).tuple.ip==v2.ip)&&(((v1.conns.getD v0.toNat (Ty.zero .conn)).tuple.port==v2.port)&&(((v1.conns.getD v0.toNat (Ty.zero .conn)).tuple.my==v2.my)&&true))) (.ret (.out v0))<|
 .ret (.next ())
noncomputable def mg:xS.V→qF xS Unit (Int):=λ(v0,v1,v2,_)=>⟨v0,(),λv0 _=>(v0,v1,v2,()),λv0 _=>(decide (v0<(v1.conns.length:Int))),xG v1 v2,up,1,(Int.toNat ((v1.conns.length:Int)-v0)),.inl,eR,oB .ret ⟨[zi 4],[]⟩ (λp=>(p,())) (.exit 0) ⟨[zu 4],[]⟩ (λ_=>())⟩
theorem Ik {v0:Int}{v1:Tabl}{v2:Tupl}(h0:0≤v0)(h1:(v1.conns.length:Int)≤4611686018427387904):(mg (v0,v1,v2,())).U (v1.conns.length:Int) (λ_ _=>True) (λp=>v0≤p∧p<(v1.conns.length:Int)):=
 iT h0 h1 trivial
noncomputable def dC:FT (Tabl×Tupl×Unit) (Int) (λx=>wS x.1.conns) (λx v=> -1≤v∧v<x.1.conns.length):= .mk (λ(x0,x1,_)=>
  .lp (mg (0,x0,x1,())).lp λw1=> .sum w1 (λp1a0=>
  .ret p1a0)<|
  λ_=>
  .ret (-1)) (qm @Ik)
noncomputable def ex:=ez st Tryz.func23 [(0,lb [2,3,5] [4])] [] 0 mg (ks:=[.st .tabl,.st .tupl]) dC rI
def ye:Sh:=⟨[zl 0 .half,zp 3 0,zi 5],[zx .tupl]⟩
noncomputable def x6 (v0:List Half)(v2:Tupl)(v1:Int)(a:Unit):Tr (Stp (Unit) ((Int))):=
 .grd (cj v0 v1)<|
 .ite (((v0.getD v1.toNat (Ty.zero .half)).tuple.ip==v2.ip)&&(((v0.getD v1.toNat (Ty.zero .half)).tuple.port==v2.port)&&(((v0.getD v1.toNat (Ty.zero .half)).tuple.my==v2.my)&&true))) (.ret (.out v1))<|
 .ret (.next ())
noncomputable def mf:ye.V→qF ye Unit (Int):=λ(v0,v1,v2,_)=>⟨v1,(),λv1 _=>(v0,v1,v2,()),λv1 _=>(decide (v1<(v0.length:Int))),x6 v0 v2,up,1,(Int.toNat ((v0.length:Int)-v1)),.inl,eR,oB .ret ⟨[zi 4],[]⟩ (λp=>(p,())) (.exit 0) ⟨[zu 4],[]⟩ (λ_=>())⟩
theorem H9 {v0:List Half}{v1:Int}{v2:Tupl}(h0:0≤v1)(h1:(v0.length:Int)≤4611686018427387904):(mf (v0,v1,v2,())).U (v0.length:Int) (λ_ _=>True) (λp=>v1≤p∧p<(v0.length:Int)):=
 iT h0 h1 trivial
noncomputable def ju:FT (List Half×Tupl×Unit) (Int) (λx=>wS x.1) (λx v=> -1≤v∧v<x.1.length):= .mk (λ(x0,x1,_)=>
  .lp (mf (x0,0,x1,())).lp λw1=> .sum w1 (λp1a0=>
  .ret p1a0)<|
  λ_=>
  .ret (-1)) (qm @H9)
noncomputable def ot:=ez st Tryz.func49 [(0,lb [0,3,5] [4])] [] 0 mf (ks:=[.sc (.sl .half),.st .tupl]) ju rI
def Ew:Sh:=⟨[zl 0 .u8,zi 3,zi 4],[]⟩
noncomputable def R8 (v0:List Int)(v2:Int)(a:Int):Tr (Stp (Int) ((Int))):=
 .ite (decide (v2<4000)) (.grd (cj v0 v2)<|
  .val (IntKind.wrap .i64 ((IntKind.wrap .i64 (a*131))+(IntKind.wrap .i64 (v0.getD v2.toNat 0)))) λe1=>
  .ret (.next (bits .and .i64 (IntKind.wrap .i64 (e1+7)) 1073741823)))<|
 .ret (.out a)
noncomputable def wo:Ew.V→qF Ew Int (Int):=λ(v0,v1,v2,_)=>⟨v2,v1,λv2 a=>(v0,a,v2,()),λv2 _=>(decide (v2<(v0.length:Int))),R8 v0,up,1,(Int.toNat ((v0.length:Int)-v2)),.inl,eR,oB (.exit 0) ⟨[zl 0 .u8,zu 2,zi 3],[]⟩ (λp=>(v0,p,())) (.exit 0) ⟨[zl 0 .u8,zu 2,zi 3],[]⟩ (λx=>(v0,x.2,()))⟩
theorem Sp {v0:List Int}{v1 v2:Int}(h0:0≤v2)(h1:(v0.length:Int)≤4611686018427387904):(wo (v0,v1,v2,())).U (v0.length:Int) (λ_ _=>True) (λ_=>True):=
 iT (a:=v1) h0 h1 trivial
noncomputable def R7:FT (List Int×Unit) (Curs) (λx=>x.1.length≤1048576) (λx v=>af v):= .mk (λ(x0,_)=>
  .lp (wo (x0,(IntKind.wrap .i64 (28655+(x0.length:Int))),0,())).lp λw2=> .sum w2 (λp2a0=>
  .ret (⟨x0,0,p2a0⟩:Curs))<|
  λ(_,a2_0)=>
  .ret (⟨x0,0,a2_0⟩:Curs)) (qm @Sp)
noncomputable def Pg:=ez st Tryz.func50 [(0,lb [0,3,4] [0,2,3])] [] 0 wo (ks:=[.sc (.sl .u8)]) R7 (λv=>[rb .curs v])
def xQ:Sh:=⟨[zp 2 0,zp 3 1,zi 5],[zg .link,zg .link]⟩
noncomputable def xM (v1 v2:Link)(v0:Int)(a:Unit):Tr (Stp (Unit) ((Unit))):=
 .grd (cj v1.cache v0)<|
 .grd (cj v2.cache v0)<|
 .ite (!(((v1.cache.getD v0.toNat (Ty.zero .entr)).ip==(v2.cache.getD v0.toNat (Ty.zero .entr)).ip)&&(((v1.cache.getD v0.toNat (Ty.zero .entr)).hw==(v2.cache.getD v0.toNat (Ty.zero .entr)).hw)&&(((v1.cache.getD v0.toNat (Ty.zero .entr)).age==(v2.cache.getD v0.toNat (Ty.zero .entr)).age)&&true)))) (.ret (.out ()))<|
 .ret (.next ())
noncomputable def lR:xQ.V→qF xQ Unit (Unit):=λ(v0,v1,v2,_)=>⟨v0,(),λv0 _=>(v0,v1,v2,()),λv0 _=>(decide (v0<(v1.cache.length:Int))),xM v1 v2,up,1,(Int.toNat ((v1.cache.length:Int)-v0)),.inl,eR,oB .ret ⟨[zb 4],[]⟩ (λ_=>(false,())) (.exit 0) ⟨[zu 4],[]⟩ (λ_=>())⟩
theorem I8 {v0:Int}{v1 v2:Link}(h0:0≤v0)(h1:(v1.cache.length:Int)≤4611686018427387904)(h2:(v1.cache.length:Int)≤(v2.cache.length:Int)):(lR (v0,v1,v2,())).U (v1.cache.length:Int) (λ_ _=>True) (λ_=>True):=
 iT h0 h1 trivial
noncomputable def wh:FT (Link×Link×Unit) (Bool) (λx=>ec x.1∧ec x.2.1) (λ_ _=>True):= .mk (λ(x0,x1,_)=>
  .bnd (β:=Bool×Unit) (.ite (x0.mac != x1.mac) (.ret (true,()))<|
   .ite (x0.ip != x1.ip) (.ret (true,()))<|
   .ret (((x0.cache.length:Int) != (x1.cache.length:Int)),())) λ(u1a0,_)=>
  .ite u1a0 (.ret false)<|
  .lp (lR (0,x0,x1,())).lp λw2=> .sum w2 (λ_=>
  .ret false)<|
  λ_=>
  .ret true) (qm @I8)
noncomputable def SZ:=ez st Tryz.func71 [(0,lb [2,3,5] [4]),(3000001,rA 0 26)] [] 0 lR (ks:=[.st .link,.st .link]) wh rB
def qG:Sh:=⟨[zl 0 .str,zl 1 .str,zi 12,zi 13],[]⟩
noncomputable def qJ (v0 v1:List aa)(v3:Int)(a:Unit):Tr (Stp (Unit) ((Unit))):=
 .grd (cj v0 v3)<|
 .grd (cj v1 v3)<|
 .ite (!((v0.getD v3.toNat [])==(v1.getD v3.toNat []))) (.ret (.out ()))<|
 .ret (.next ())
noncomputable def hU:qG.V→qF qG Unit (Unit):=λ(v0,v1,v2,v3,_)=>⟨v3,(),λv3 _=>(v0,v1,v2,v3,()),λv3 _=>(decide (v3<v2)),qJ v0 v1,up,1,(Int.toNat (v2-v3)),.inl,eR,oB .ret ⟨[zb 4],[]⟩ (λ_=>(false,())) (.exit 0) ⟨[zu 4],[]⟩ (λ_=>())⟩
theorem Bb {v0 v1:List aa}{v2 v3:Int}(h0:0≤v3)(h1:v2≤4611686018427387904)(h2:v2≤(v0.length:Int))(h3:v2≤(v1.length:Int)):(hU (v0,v1,v2,v3,())).U v2 (λ_ _=>True) (λ_=>True):=
 iT h0 h1 trivial
noncomputable def nk:FT (List aa×List aa×Unit) (Bool) (λx=>sL sS x.1∧sL sS x.2.1) (λ_ _=>True):= .mk (λ(x0,x1,_)=>
  .ite ((x0.length:Int) != (x1.length:Int)) (.ret false)<|
  .lp (hU (x0,x1,(x0.length:Int),0,())).lp λw1=> .sum w1 (λ_=>
  .ret false)<|
  λ_=>
  .ret true) (qm @Bb)
noncomputable def Fg:=ez st Tryz.func73 [(0,lb [0,1,12,13] [4])] [] 0 hU (ks:=[.sc (.sl .str),.sc (.sl .str)]) nk rB
noncomputable def bh:FF (Int×Int×Int×Unit) (Bool):=⟨λ(x0,x1,x2,_)=>
  .ite (decide (x1≤x0)) (.ret (decide (x0≤x2)))<|
  .ret false⟩
@[grind=] theorem av (x0 x1 x2:Int):bh.f (x0,x1,x2,())=(decide (x1≤x0)&&decide (x0≤x2)):=by
 simp only[bh,FF.f,Tr.nice]
 cases decide (x1≤x0)<;>rfl
noncomputable def bG:=lI st Tryz.func74 [] (ks:=[.sc (.int .i64),.sc (.int .i64),.sc (.int .i64)]) bh rB
noncomputable def bZ:FF (Int×Int×Int×Unit) (Bool):=⟨λ(x0,x1,x2,_)=>
  .ite (decide (x1≤x0)) (.ret (decide (x0≤x2)))<|
  .ret false⟩
@[grind=] theorem bF (x0 x1 x2:Int):bZ.f (x0,x1,x2,())=(decide (x1≤x0)&&decide (x0≤x2)):=by
 simp only[bZ,FF.f,Tr.nice]
 cases decide (x1≤x0)<;>rfl
noncomputable def cx:=lI st Tryz.func78 [] (ks:=[.sc (.int .i64),.sc (.int .i64),.sc (.int .i64)]) bZ rB
def yN:Sh:=⟨[zp 2 0,zp 3 1,zi 5],[zg .mac,zg .mac]⟩
noncomputable def r9 (v1 v2:Mac)(v0:Int)(a:Unit):Tr (Stp (Unit) ((Unit))):=
 .grd (cj v1.rows v0)<|
 .grd (cj v2.rows v0)<|
 .ite (!(((v1.rows.getD v0.toNat (Ty.zero .macRow)).input==(v2.rows.getD v0.toNat (Ty.zero .macRow)).input)&&(((v1.rows.getD v0.toNat (Ty.zero .macRow)).value==(v2.rows.getD v0.toNat (Ty.zero .macRow)).value)&&true))) (.ret (.out ()))<|
 .ret (.next ())
noncomputable def kA:yN.V→qF yN Unit (Unit):=λ(v0,v1,v2,_)=>⟨v0,(),λv0 _=>(v0,v1,v2,()),λv0 _=>(decide (v0<(v1.rows.length:Int))),r9 v1 v2,up,1,(Int.toNat ((v1.rows.length:Int)-v0)),.inl,eR,oB .ret ⟨[zb 4],[]⟩ (λ_=>(false,())) (.exit 0) ⟨[zu 4],[]⟩ (λ_=>())⟩
theorem Nf {v0:Int}{v1 v2:Mac}(h0:0≤v0)(h1:(v1.rows.length:Int)≤4611686018427387904)(h2:(v1.rows.length:Int)≤(v2.rows.length:Int)):(kA (v0,v1,v2,())).U (v1.rows.length:Int) (λ_ _=>True) (λ_=>True):=
 iT h0 h1 trivial
noncomputable def jS:FT (Mac×Mac×Unit) (Bool) (λx=>dT x.1∧dT x.2.1) (λ_ _=>True):= .mk (λ(x0,x1,_)=>
  .bnd (β:=Bool×Unit) (.ite (!(x0.use==x1.use)) (.ret (true,()))<|
   .ite (x0.k != x1.k) (.ret (true,()))<|
   .ite (x0.l != x1.l) (.ret (true,()))<|
   .ret (((x0.rows.length:Int) != (x1.rows.length:Int)),())) λ(u1a0,_)=>
  .ite u1a0 (.ret false)<|
  .lp (kA (0,x0,x1,())).lp λw2=> .sum w2 (λ_=>
  .ret false)<|
  λ_=>
  .ret true) (qm @Nf)
noncomputable def z6:=ez st Tryz.func79 [(0,lb [2,3,5] [4]),(3000001,rA 0 33)] [] 0 kA (ks:=[.st .mac,.st .mac]) jS rB
noncomputable def FA:=[cx]
def nu:Sh:=⟨[zp 1 0,zi 3,zi 4],[zg .mac]⟩
def rl:Sh:=⟨[zp 1 0,zi 3],[zg .mac]⟩
noncomputable def E4:Fx:=⟨80,Tryz.f80,[(2,lb [1,3,4] [1,2,3]),(0,lb [1,3] [1,2])],0⟩
noncomputable def sv (vb0:Int)(vb2:Mac)(vb1:Int)(a:Unit):Tr (Stp (Unit) ((Unit))):=
 .grd (cj vb2.rows vb1)<|
 .grd (cj vb2.rows vb0)<|
 .ite ((vb2.rows.getD vb1.toNat (Ty.zero .macRow)).input==(vb2.rows.getD vb0.toNat (Ty.zero .macRow)).input) (.ret (.out ()))<|
 .ret (.next ())
noncomputable def f9:nu.V→qF nu Unit (Unit):=λ(vb0,vb1,vb2,_)=>⟨vb1,(),λvb1 _=>(vb0,vb1,vb2,()),λvb1 _=>(decide (vb1<vb0)),sv vb0 vb2,up,1,(Int.toNat (vb0-vb1)),.inl,eR,oB .ret ⟨[zp 1 0,zb 2,zi 3],[zg .mac]⟩ (λ_=>(false,vb0,vb2,())) (.exit 2) ⟨[zp 1 0,zu 2,zi 3],[zg .mac]⟩ (λ_=>(vb0,vb2,()))⟩
theorem Lf:LS Tryz.prog E4 [0,0] (fv 2 nu f9):=cI st (aH FA) _ f9 [] trivial
theorem JZ {vb0 vb1:Int}{vb2:Mac}(h0:0≤vb1)(h1:vb0≤4611686018427387904)(h2:vb0≤(vb2.rows.length:Int))(h3:0≤vb0)(h4:vb0<(vb2.rows.length:Int)):(f9 (vb0,vb1,vb2,())).U vb0 (λ_ _=>True) (λ_=>True):=
 iT h0 h1 trivial
noncomputable def wv (v1:Mac)(v0:Int)(a:Unit):Tr (Stp (Unit) ((Unit))):=
 .grd (cj v1.rows v0)<|
 .val (bZ.f ((v1.rows.getD v0.toNat (Ty.zero .macRow)).value,0,16777215,())) λc1=>
 .ite (!c1) (.ret (.out ()))<|
 .lp (f9 (v0,0,v1,())).lp λw2=> .sum w2 (λ_=>
 .ret (.out ()))<|
 λ_=>
 .ret (.next ())
noncomputable def kV:rl.V→qF rl Unit (Unit):=λ(v0,v1,_)=>⟨v0,(),λv0 _=>(v0,v1,()),λv0 _=>(decide (v0<(v1.rows.length:Int))),wv v1,up,1,(Int.toNat ((v1.rows.length:Int)-v0)),.inl,eR,oB .ret ⟨[zp 1 0,zb 2],[zg .mac]⟩ (λ_=>(false,v1,())) (.exit 0) ⟨[zp 1 0,zu 2],[zg .mac]⟩ (λ_=>(v1,()))⟩
theorem RL:LS Tryz.prog E4 [0] (fv 0 rl kV):=cI st (aH FA) _ kV [(fv 2 nu f9)] ⟨Lf,trivial⟩
theorem SP {v0:Int}{v1:Mac}(h0:0≤v0)(h1:(v1.rows.length:Int)≤4611686018427387904)(h2:dT v1):(kV (v0,v1,())).U (v1.rows.length:Int) (λ_ _=>True) (λ_=>True):=
 LC.okU (i:=v0) (a:=()) (λ_ _=>rfl) (λ_=>rfl) rfl h0 h1 trivial λv0 _ hj hk hv=>by
  refine Tr.G2 ?_ λ_=>Tr.V λ_ _=>Tr.I (λ_=>Tr.Ro trivial) λ_=>Tr.L (JZ ?_ ?_ ?_ ?_ ?_) (λ_ _=>Tr.Sr (Tr.Rn trivial)) (λ_ _=>Tr.Sl (Tr.Ro trivial))
  all_goals ((try simp only[f9,LC.lp,LC.ct,Ct.lp]at*)<;>grind)
noncomputable def uk:FT (Mac×Unit) (Bool) (λx=>dT x.1) (λx v=>(v=true→x.1.rows.length≤64)):= .mk (λ(x0,_)=>
  .ite (!x0.use) (.ret ((x0.rows.length:Int)==0))<|
  .lp (kV (0,x0,())).lp λw3=> .sum w3 (λ_=>
  .ret false)<|
  λ_=>
  .ite (x0.k==0) (.ite (x0.l==0) (.ret (decide ((x0.rows.length:Int)≤64)))<|
   .ret false)<|
  .ret false) (qm @SP)
noncomputable def FL:=bM st E4 FA [(fv 0 rl kV)] (ks:=[.st .mac]) uk rB Tryz.func80 ⟨RL,trivial⟩
noncomputable def fo:FT (Limi×Unit) (Bool) (λ_=>True) (λx v=>(v=true→x.1.halves≤64∧x.1.waiting≤16∧x.1.conns≤16)):= .mk λ(x0,_)=>
  .val (bh.f (x0.halves,1,64,())) λc1=>
  .ite c1 (.val (bh.f (x0.waiting,1,16,())) λc2=>
   .ite c2 (.val (bh.f (x0.conns,1,16,())) λc3=>
    .ite c3 (.val (bh.f (x0.chal,0,1000,())) λc4=>
     .ret c4)<|
    .ret false)<|
   .ret false)<|
  .ret false
noncomputable def C2:=a9 st Tryz.func86 [bG] (ks:=[.st .limi]) fo rB
noncomputable def tW:FT (List Acti×Unit) (List Acti) (λx=>sL bq x.1) (λx v=>sL bq v∧v.length≤60∧v.length≤x.1.length):= .mk λ(x0,_)=>
  .grd ((decide (0≤(if 60<(x0.length:Int)then 60 else(x0.length:Int))))&&(decide ((if 60<(x0.length:Int)then 60 else(x0.length:Int))≤(x0.length:Int))))<|
  .ret ((x0.take ((if 60<(x0.length:Int)then 60 else(x0.length:Int)).toNat)).drop 0)
noncomputable def Ok:=a9 st Tryz.func88 [] (ks:=[.sc (.sl .acti)]) tW (λv=>[(false,[sc .c .acti v])])
noncomputable def bH:FF (Segm×Int×Unit) (Bool):=⟨λ(x0,x1,_)=>
  .ret ((bits .and .i64 x0.flags x1)==x1)⟩
noncomputable def Ai:=lI st Tryz.func96 [] (ks:=[.st .segm,.sc (.int .i64)]) bH rB
noncomputable def bR:FF (Int×Int×Unit) (Int):=⟨λ(x0,x1,_)=>
  .ret (bits .and .i64 (IntKind.wrap .i64 (x0+x1)) 4294967295)⟩
noncomputable def gO:=lI st Tryz.func97 [] (ks:=[.sc (.int .i64),.sc (.int .i64)]) bR rI
noncomputable def ae:FT (Int×Int×Unit) (Bool) (λ_=>True) (λx v=>(x.2.1=32→(v=true↔0≤x.1∧x.1≤4294967295))∧(x.2.1=16→(v=true↔0≤x.1∧x.1≤65535))∧(x.2.1=48→(v=true↔0≤x.1∧x.1≤281474976710655))∧(x.2.1=8→(v=true↔0≤x.1∧x.1≤255))∧(x.2.1=6→(v=true↔0≤x.1∧x.1≤63))):= .mk λ(x0,x1,_)=>
  .val (bh.f (x1,1,62,())) λc1=>
  .ite c1 (.grd (decide (0≤x1))<|
   .val (IntKind.wrap .i64 ((IntKind.wrap .i64 (1*2 ^ (min x1.toNat 64)))-1)) λe2=>
   .val (bh.f (x0,0,e2,())) λc3=>
   .ret c3)<|
  .ret false
@[grind=] theorem cf (x:Int):ae.f (x,32,())=(decide (0≤x)&&decide (x≤4294967295)):=by
 have h:=ae.c.h (x,32,()) trivial
 rw[Bool.eq_iff_iff]
 grind
@[grind=] theorem dh (x:Int):ae.f (x,16,())=(decide (0≤x)&&decide (x≤65535)):=by
 have h:=ae.c.h (x,16,()) trivial
 rw[Bool.eq_iff_iff]
 grind
@[grind=] theorem VE (x:Int):ae.f (x,48,())=(decide (0≤x)&&decide (x≤281474976710655)):=by
 have h:=ae.c.h (x,48,()) trivial
 rw[Bool.eq_iff_iff]
 grind
@[grind=] theorem Yl (x:Int):ae.f (x,8,())=(decide (0≤x)&&decide (x≤255)):=by
 have h:=ae.c.h (x,8,()) trivial
 rw[Bool.eq_iff_iff]
 grind
@[grind=] theorem Xi (x:Int):ae.f (x,6,())=(decide (0≤x)&&decide (x≤63)):=by
 have h:=ae.c.h (x,6,()) trivial
 rw[Bool.eq_iff_iff]
 grind
noncomputable def bX:=a9 st Tryz.func100 [bG] (ks:=[.sc (.int .i64),.sc (.int .i64)]) ae rB
noncomputable def bQ:FF (Unit) (Opti):=⟨λ_=>
  .ret (⟨0,(-1),false,false,0,0⟩:Opti)⟩
noncomputable def jH:=lI st Tryz.func110 [] (ks:=[]) bQ (λv=>[(true,oI v)])
noncomputable def ga:FT (Int×Unit) (Int) (λ_=>True) (λ_ _=>True):= .mk λ(x0,_)=>
  .val (bh.f (x0,0,7,())) λc1=>
  .ite (!c1) (.ret 0)<|
  .grd ((decide (0≤x0))&&(decide (x0<8)))<|
  .ret ([64,256,536,1024,1300,1400,1440,1460].getD x0.toNat 0)
noncomputable def Pj:=a9 st Tryz.func111 [bG] (ks:=[.sc (.int .i64)]) ga rI
def x7:Sh:=⟨[zi 0,zi 3],[]⟩
noncomputable def l0 (v0:Int)(v1:Int)(a:Unit):Tr (Stp (Unit) ((Int))):=
 .cal ga.c (v1,()) λc1=>
 .ite (decide (c1≤v0)) (.ret (.out v1))<|
 .ret (.next ())
noncomputable def d9:x7.V→qF x7 Unit (Int):=λ(v0,v1,_)=>⟨v1,(),λv1 _=>(v0,v1,()),λv1 _=>(decide (0<v1)),l0 v0,dn,(-1),(Int.toNat (v1-0)),.inl,eR,oB .ret ⟨[zi 2],[]⟩ (λp=>(p,())) (.exit 0) ⟨[zu 2],[]⟩ (λ_=>())⟩
theorem Ig {v0 v1:Int}(h0:v1≤9223372036854775807):(d9 (v0,v1,())).S (λ_ _=>True) (λ_=>True):=by
 refine LC.okS trivial (λj a hj hv=>⟨⟨?_, ?_⟩, ?_⟩) (λa hv=> ?_)
 ·simp only[d9,decide_eq_true_eq]at*;omega
 ·simp only[d9]at*;exact dnw (by omega) (by omega)
 ·refine Tr.C trivial λ_ _ _=>Tr.Z (by kernel_rfl)
 ·simp only[d9,decide_eq_false_iff_not]at*;omega
noncomputable def jd:FT (Int×Unit) (Int) (λ_=>True) (λ_ _=>True):= .mk (λ(x0,_)=>
  .lp (d9 (x0,7,())).lp λw2=> .sum w2 (λp2a0=>
  .ret p2a0)<|
  λ_=>
  .ret 0) (qm @Ig)
noncomputable def Se:=ez st Tryz.func112 [(0,lb [0,3] [2])] [Pj] 0 d9 (ks:=[.sc (.int .i64)]) jd rI
noncomputable def Ar:FF (Opti×Unit) (Int):=⟨λ(x0,_)=>
  .ite (x0.mss==0) (.ret 536)<|
  .ret x0.mss⟩
noncomputable def TH:=lI st Tryz.func113 [] (ks:=[.st .opti]) Ar rI
noncomputable def pc:FF (Int×Segm×Unit) (Tupl):=⟨λ(x0,x1,_)=>
  .ret (⟨x0,x1.from_,x1.to⟩:Tupl)⟩
noncomputable def zt:=lI st Tryz.func118 [] (ks:=[.sc (.int .i64),.st .segm]) pc (λv=>[(true,E5 v)])
noncomputable def gW:FF (Segm×Int×Unit) (Bool):=⟨λ(x0,x1,_)=>
  .ret ((bits .and .i64 x0.flags x1)==x1)⟩
noncomputable def Ax:=lI st Tryz.func128 [] (ks:=[.st .segm,.sc (.int .i64)]) gW rB
def GI:Sh:=⟨[zo 3 0,zl 7 .entr,zi 8,zi 9],[za .entr]⟩
noncomputable def Ho (v0:List Entr)(v2:Int)(a:List Entr):Tr (Stp (List Entr) (Empty)):=
 .grd (cj v0 v2)<|
 .ite (decide ((IntKind.wrap .i64 ((v0.getD v2.toNat (Ty.zero .entr)).age+1))≤9)) (.grd (qq a 1 24)<|
  .val (a++[({(v0.getD v2.toNat (Ty.zero .entr))with age:=(IntKind.wrap .i64 ((v0.getD v2.toNat (Ty.zero .entr)).age+1))}:Entr)]) λl1=>
  .ret (.next l1))<|
 .ret (.next a)
noncomputable def pY:GI.V→qc GI (List Entr):=λ(v0,v1,v2,v3,_)=>⟨v2,v3,λv2 a=>(v0,v1,v2,a,()),λv2 _=>(decide (v2<v1)),Ho v0,up,1,(Int.toNat (v1-v2)),Empty.elim,Prod.mk,oN (.exit 0) ⟨[zu 2,zo 3 0],[za .entr]⟩ (λx=>(x.2,()))⟩
theorem WJ {v0 v3:List Entr}{v1 v2:Int}(h0:0≤v2)(h1:v1≤4611686018427387904)(h2:sS v0)(h3:v1≤4294967296)(h4:v1≤(v0.length:Int))(h5:(v3.length:Int)≤v2):(pY (v0,v1,v2,v3,())).U v1 (λv2 a=>(a.length:Int)≤v2) (λ_=>True):=
 iT (a:=v3) h0 h1 h5
noncomputable def R9:FT (List Entr×Unit) (List Entr) (λx=>sS x.1) (λx v=>sS v):=⟨λ(x0,_)=>
  .lp (pY (x0,(x0.length:Int),0,[],())).lp λ(_,a2_0)=>
  .ret a2_0,
 λ(x0,_) hp=>by
  refine Tr.L (WJ ?_ ?_ ?_ ?_ ?_ ?_) (λa2_0 _=>Tr.R ?_) (λp=>Empty.elim p)
  all_goals ((try simp only[pY,LC.lp,LC.ct,Ct.lp]at*)<;>grind)⟩
noncomputable def ab0:=ez st Tryz.func139 [(0,lb [3,7,8,9] [2,3])] [] 0 pY (ks:=[.sc (.sl .entr)]) R9 (λv=>[(false,[sc (.o true) .entr v])])
def tk:Sh:=⟨[zl 0 .tupl,zp 3 0,zi 7,zi 8],[zx .tupl]⟩
noncomputable def tv (v0:List Tupl)(v3:Tupl)(v2:Int)(a:Unit):Tr (Stp (Unit) ((Int))):=
 .grd (cj v0 v2)<|
 .ite ((v3.ip==(v0.getD v2.toNat (Ty.zero .tupl)).ip)&&((v3.port==(v0.getD v2.toNat (Ty.zero .tupl)).port)&&((v3.my==(v0.getD v2.toNat (Ty.zero .tupl)).my)&&true))) (.ret (.out v2))<|
 .ret (.next ())
noncomputable def jr:tk.V→qF tk Unit (Int):=λ(v0,v1,v2,v3,_)=>⟨v2,(),λv2 _=>(v0,v1,v2,v3,()),λv2 _=>(decide (v2<v1)),tv v0 v3,up,1,(Int.toNat (v1-v2)),.inl,eR,oB .ret ⟨[zi 4],[]⟩ (λp=>(p,())) (.exit 0) ⟨[zu 4],[]⟩ (λ_=>())⟩
theorem B7 {v0:List Tupl}{v1 v2:Int}{v3:Tupl}(h0:0≤v2)(h1:v1≤4611686018427387904)(h2:v1≤(v0.length:Int)):(jr (v0,v1,v2,v3,())).U v1 (λ_ _=>True) (λp=>v2≤p∧p<v1):=
 iT h0 h1 trivial
noncomputable def lz:FT (List Tupl×Tupl×Unit) (Int) (λx=>wS x.1) (λx v=> -1≤v∧v<x.1.length):= .mk (λ(x0,x1,_)=>
  .lp (jr (x0,(x0.length:Int),0,x1,())).lp λw1=> .sum w1 (λp1a0=>
  .ret p1a0)<|
  λ_=>
  .ret (-1)) (qm @B7)
noncomputable def xO:=ez st Tryz.func149 [(0,lb [0,3,7,8] [4])] [] 0 jr (ks:=[.sc (.sl .tupl),.st .tupl]) lz rI
noncomputable def rF:FT (Link×Unit) (Link) (λx=>ec x.1) (λx v=>ec v):= .mk λ(x0,_)=>
  .grd (Nat.ble ((2*(0+x0.cache.length)+1024)*24) bo)<|
  .ret ({x0 with cache:=([]++x0.cache)}:Link)
noncomputable def Hr:=a9 st Tryz.func156 [] (ks:=[.st .link]) rF (λv=>[(true,B4 (.o true) v)])
def Hy:Sh:=⟨[zl 0 .entr,zo 3 0,zi 4],[za .entr]⟩
noncomputable def Gy (v0:List Entr)(v1:Int)(a:List Entr):Tr (Stp (List Entr) (Empty)):=
 .grd (cj v0 v1)<|
 .ite (decide ((v0.getD v1.toNat (Ty.zero .entr)).age<9)) (.grd (qq a 1 24)<|
  .val (a++[({(v0.getD v1.toNat (Ty.zero .entr))with age:=(IntKind.wrap .i64 ((v0.getD v1.toNat (Ty.zero .entr)).age+1))}:Entr)]) λl1=>
  .ret (.next l1))<|
 .ret (.next a)
noncomputable def ql:Hy.V→qc Hy (List Entr):=λ(v0,v1,v2,_)=>⟨v1,v2,λv1 a=>(v0,v1,a,()),λv1 _=>(decide (v1<(v0.length:Int))),Gy v0,up,1,(Int.toNat ((v0.length:Int)-v1)),Empty.elim,Prod.mk,oN (.exit 0) ⟨[zu 2,zo 3 0],[za .entr]⟩ (λx=>(x.2,()))⟩
theorem VC {v0 v2:List Entr}{v1:Int}(h0:0≤v1)(h1:(v0.length:Int)≤4611686018427387904)(h2:sS v0)(h3:(v2.length:Int)≤v1):(ql (v0,v1,v2,())).U (v0.length:Int) (λv1 a=>(a.length:Int)≤v1) (λ_=>True):=
 iT (a:=v2) h0 h1 h3
noncomputable def ML:FT (List Entr×Unit) (List Entr) (λx=>sS x.1) (λx v=>sS v∧v.length≤x.1.length):=⟨λ(x0,_)=>
  .lp (ql (x0,0,[],())).lp λ(_,a2_0)=>
  .ret a2_0,
 λ(x0,_) hp=>by
  refine Tr.L (VC ?_ ?_ ?_ ?_) (λa2_0 _=>Tr.R ?_) (λp=>Empty.elim p)
  all_goals ((try simp only[ql,LC.lp,LC.ct,Ct.lp]at*)<;>grind)⟩
noncomputable def Tv:=ez st Tryz.func164 [(0,lb [0,3,4] [2,3])] [] 0 ql (ks:=[.sc (.sl .entr)]) ML (λv=>[(false,[sc (.o true) .entr v])])
def yg:Sh:=⟨[zl 0 .tupl,zp 3 0,zi 5],[zx .tupl]⟩
noncomputable def x8 (v0:List Tupl)(v2:Tupl)(v1:Int)(a:Unit):Tr (Stp (Unit) ((Unit))):=
 .grd (cj v0 v1)<|
 .ite (((v0.getD v1.toNat (Ty.zero .tupl)).ip==v2.ip)&&(((v0.getD v1.toNat (Ty.zero .tupl)).port==v2.port)&&(((v0.getD v1.toNat (Ty.zero .tupl)).my==v2.my)&&true))) (.ret (.out ()))<|
 .ret (.next ())
noncomputable def lZ:yg.V→qF yg Unit (Unit):=λ(v0,v1,v2,_)=>⟨v1,(),λv1 _=>(v0,v1,v2,()),λv1 _=>(decide (v1<(v0.length:Int))),x8 v0 v2,up,1,(Int.toNat ((v0.length:Int)-v1)),.inl,eR,oB .ret ⟨[zb 4],[]⟩ (λ_=>(true,())) (.exit 0) ⟨[zu 4],[]⟩ (λ_=>())⟩
theorem IR {v0:List Tupl}{v1:Int}{v2:Tupl}(h0:0≤v1)(h1:(v0.length:Int)≤4611686018427387904):(lZ (v0,v1,v2,())).U (v0.length:Int) (λ_ _=>True) (λ_=>True):=
 iT h0 h1 trivial
noncomputable def o9:FT (List Tupl×Tupl×Unit) (Bool) (λx=>wS x.1) (λ_ _=>True):= .mk (λ(x0,x1,_)=>
  .lp (lZ (x0,0,x1,())).lp λw1=> .sum w1 (λ_=>
  .ret true)<|
  λ_=>
  .ret false) (qm @IR)
noncomputable def wy:=ez st Tryz.func167 [(0,lb [0,3,5] [4])] [] 0 lZ (ks:=[.sc (.sl .tupl),.st .tupl]) o9 rB
noncomputable def wt:FT (Keys×Keys×Unit) (Bool) (λx=>cC x.1∧cC x.2.1) (λ_ _=>True):= .mk λ(x0,x1,_)=>
  .ite (x0.epoch==x1.epoch) (.ite (x0.two==x1.two) (.cal jS.c (x0.now,x1.now,()) λc1=>
    .ite c1 (.cal jS.c (x0.before,x1.before,()) λc2=>
     .ret c2)<|
    .ret false)<|
   .ret false)<|
  .ret false
noncomputable def Si:=a9 st Tryz.func174 [z6] (ks:=[.st .keys,.st .keys]) wt rB
def tX:Sh:=⟨[zl 0 .half,zl 1 .half,zi 5],[]⟩
noncomputable def ue (v0 v1:List Half)(v2:Int)(a:Unit):Tr (Stp (Unit) ((Unit))):=
 .grd (cj v0 v2)<|
 .grd (cj v1 v2)<|
 .ite (!((((v0.getD v2.toNat (Ty.zero .half)).tuple.ip==(v1.getD v2.toNat (Ty.zero .half)).tuple.ip)&&(((v0.getD v2.toNat (Ty.zero .half)).tuple.port==(v1.getD v2.toNat (Ty.zero .half)).tuple.port)&&(((v0.getD v2.toNat (Ty.zero .half)).tuple.my==(v1.getD v2.toNat (Ty.zero .half)).tuple.my)&&true)))&&(((v0.getD v2.toNat (Ty.zero .half)).iss==(v1.getD v2.toNat (Ty.zero .half)).iss)&&(((v0.getD v2.toNat (Ty.zero .half)).irs==(v1.getD v2.toNat (Ty.zero .half)).irs)&&((((v0.getD v2.toNat (Ty.zero .half)).opts.mss==(v1.getD v2.toNat (Ty.zero .half)).opts.mss)&&(((v0.getD v2.toNat (Ty.zero .half)).opts.scale==(v1.getD v2.toNat (Ty.zero .half)).opts.scale)&&(((v0.getD v2.toNat (Ty.zero .half)).opts.sack==(v1.getD v2.toNat (Ty.zero .half)).opts.sack)&&(((v0.getD v2.toNat (Ty.zero .half)).opts.stamp==(v1.getD v2.toNat (Ty.zero .half)).opts.stamp)&&(((v0.getD v2.toNat (Ty.zero .half)).opts.val==(v1.getD v2.toNat (Ty.zero .half)).opts.val)&&(((v0.getD v2.toNat (Ty.zero .half)).opts.echo==(v1.getD v2.toNat (Ty.zero .half)).opts.echo)&&true))))))&&(((v0.getD v2.toNat (Ty.zero .half)).age==(v1.getD v2.toNat (Ty.zero .half)).age)&&(((v0.getD v2.toNat (Ty.zero .half)).window==(v1.getD v2.toNat (Ty.zero .half)).window)&&true))))))) (.ret (.out ()))<|
 .ret (.next ())
noncomputable def j5:tX.V→qF tX Unit (Unit):=λ(v0,v1,v2,_)=>⟨v2,(),λv2 _=>(v0,v1,v2,()),λv2 _=>(decide (v2<(v0.length:Int))),ue v0 v1,up,1,(Int.toNat ((v0.length:Int)-v2)),.inl,eR,oB .ret ⟨[zb 4],[]⟩ (λ_=>(false,())) (.exit 0) ⟨[zu 4],[]⟩ (λ_=>())⟩
theorem Ej {v0 v1:List Half}{v2:Int}(h0:0≤v2)(h1:(v0.length:Int)≤4611686018427387904)(h2:(v0.length:Int)≤(v1.length:Int)):(j5 (v0,v1,v2,())).U (v0.length:Int) (λ_ _=>True) (λ_=>True):=
 iT h0 h1 trivial
noncomputable def qY:FT (List Half×List Half×Unit) (Bool) (λx=>sS x.1∧sS x.2.1) (λ_ _=>True):= .mk (λ(x0,x1,_)=>
  .ite ((x0.length:Int) != (x1.length:Int)) (.ret false)<|
  .lp (j5 (x0,x1,0,())).lp λw1=> .sum w1 (λ_=>
  .ret false)<|
  λ_=>
  .ret true) (qm @Ej)
noncomputable def JO:=ez st Tryz.func175 [(0,lb [0,1,5] [4])] [] 0 j5 (ks:=[.sc (.sl .half),.sc (.sl .half)]) qY rB
def qD:Sh:=⟨[zl 0 .macRow,zl 1 .macRow,zi 12,zi 13],[]⟩
noncomputable def qN (v0 v1:List MacRow)(v3:Int)(a:Unit):Tr (Stp (Unit) ((Unit))):=
 .grd (cj v0 v3)<|
 .grd (cj v1 v3)<|
 .ite (!(((v0.getD v3.toNat (Ty.zero .macRow)).input==(v1.getD v3.toNat (Ty.zero .macRow)).input)&&(((v0.getD v3.toNat (Ty.zero .macRow)).value==(v1.getD v3.toNat (Ty.zero .macRow)).value)&&true))) (.ret (.out ()))<|
 .ret (.next ())
noncomputable def hY:qD.V→qF qD Unit (Unit):=λ(v0,v1,v2,v3,_)=>⟨v3,(),λv3 _=>(v0,v1,v2,v3,()),λv3 _=>(decide (v3<v2)),qN v0 v1,up,1,(Int.toNat (v2-v3)),.inl,eR,oB .ret ⟨[zb 4],[]⟩ (λ_=>(false,())) (.exit 0) ⟨[zu 4],[]⟩ (λ_=>())⟩
theorem A2 {v0 v1:List MacRow}{v2 v3:Int}(h0:0≤v3)(h1:v2≤4611686018427387904)(h2:v2≤(v0.length:Int))(h3:v2≤(v1.length:Int)):(hY (v0,v1,v2,v3,())).U v2 (λ_ _=>True) (λ_=>True):=
 iT h0 h1 trivial
noncomputable def nR:FT (List MacRow×List MacRow×Unit) (Bool) (λx=>sL bk x.1∧sL bk x.2.1) (λ_ _=>True):= .mk (λ(x0,x1,_)=>
  .ite ((x0.length:Int) != (x1.length:Int)) (.ret false)<|
  .lp (hY (x0,x1,(x0.length:Int),0,())).lp λw1=> .sum w1 (λ_=>
  .ret false)<|
  λ_=>
  .ret true) (qm @A2)
noncomputable def Gd:=ez st Tryz.func179 [(0,lb [0,1,12,13] [4])] [] 0 hY (ks:=[.sc (.sl .macRow),.sc (.sl .macRow)]) nR rB
noncomputable def aI:FT (Int×Int×Unit) (Bool) (λ_=>True) (λx v=>(x.2.1=32→(v=true↔0≤x.1∧x.1≤4294967295))∧(x.2.1=16→(v=true↔0≤x.1∧x.1≤65535))∧(x.2.1=48→(v=true↔0≤x.1∧x.1≤281474976710655))∧(x.2.1=8→(v=true↔0≤x.1∧x.1≤255))∧(x.2.1=6→(v=true↔0≤x.1∧x.1≤63))):=⟨λ(x0,x1,_)=>
  .val (bZ.f (x1,1,62,())) λc1=>
  .ite c1 (.grd (decide (0≤(IntKind.wrap .u64 x1)))<|
   .val (IntKind.wrap .i64 ((IntKind.wrap .i64 (1*2 ^ (min (IntKind.wrap .u64 x1).toNat 64)))-1)) λe2=>
   .val (bZ.f (x0,0,e2,())) λc3=>
   .ret c3)<|
  .ret false,
 λ(x0,x1,_) hp=>by
  refine Tr.V λ_ _=>Tr.I (λ_=>Tr.G1 ?_ λ_=>Tr.V λ_ _=>Tr.V λ_ _=>Tr.R ?_) λ_=>Tr.R ?_
  all_goals (grind [We])⟩
@[grind=] theorem TU (x:Int):aI.f (x,32,())=(decide (0≤x)&&decide (x≤4294967295)):=by
 have h:=aI.c.h (x,32,()) trivial
 rw[Bool.eq_iff_iff]
 grind
@[grind=] theorem UC (x:Int):aI.f (x,16,())=(decide (0≤x)&&decide (x≤65535)):=by
 have h:=aI.c.h (x,16,()) trivial
 rw[Bool.eq_iff_iff]
 grind
@[grind=] theorem aeO (x:Int):aI.f (x,48,())=(decide (0≤x)&&decide (x≤281474976710655)):=by
 have h:=aI.c.h (x,48,()) trivial
 rw[Bool.eq_iff_iff]
 grind
@[grind=] theorem ae2 (x:Int):aI.f (x,8,())=(decide (0≤x)&&decide (x≤255)):=by
 have h:=aI.c.h (x,8,()) trivial
 rw[Bool.eq_iff_iff]
 grind
@[grind=] theorem afe (x:Int):aI.f (x,6,())=(decide (0≤x)&&decide (x≤63)):=by
 have h:=aI.c.h (x,6,()) trivial
 rw[Bool.eq_iff_iff]
 grind
noncomputable def ca:=a9 st Tryz.func180 [cx] (ks:=[.sc (.int .i64),.sc (.int .i64)]) aI rB
noncomputable def Af:FF (Int×Segm×Unit) (Tupl):=⟨λ(x0,x1,_)=>
  .ret (⟨x0,x1.from_,x1.to⟩:Tupl)⟩
noncomputable def Wc:=lI st Tryz.func192 [] (ks:=[.sc (.int .i64),.st .segm]) Af (λv=>[(true,E5 v)])
noncomputable def lc:FT (Mac×Unit) (Mac) (λx=>dT x.1) (λx v=>dT v∧v=x.1):=⟨λ(x0,_)=>
  .grd (Nat.ble ((2*(0+x0.rows.length)+1024)*24) bo)<|
  .ret ({x0 with rows:=([]++x0.rows)}:Mac),
 λ(x0,_) hp=>by
  refine Tr.Gb ?_ λg0=>Tr.R ?_
  all_goals ((first|grind|(refine⟨by grind, ?_⟩;first|(simp only[List.nil_append];done)|(subst_vars;rfl)|simp_all)))⟩
noncomputable def zF:=a9 st Tryz.func193 [] (ks:=[.st .mac]) lc (λv=>[(true,Ms (.o true) v)])
noncomputable def gK:FT (Int×Unit) (Int×Int×Int) (λ_=>True) (λ_ _=>True):= .mk λ(x0,_)=>
  .cal ae.c (x0,32,()) λc1=>
  .ite (!c1) (.ret ((-1),(-1),(-1)))<|
  .ret ((IntKind.wrap .i64 (x0.tdiv 134217728)),((IntKind.wrap .i64 (x0.tdiv 16777216)).tmod 8),(x0.tmod 16777216))
noncomputable def Iy:=a9 st Tryz.func202 [bX] (ks:=[.sc (.int .i64)]) gK (λv=>[(false,[.c (.int .i64 v.1)]),(false,[.c (.int .i64 v.2.1)]),(false,[.c (.int .i64 v.2.2)])])
noncomputable def OD:=[bX,bG]
noncomputable def N1:Fx:=⟨208,Tryz.f208,[(3000001,rA 0 15)],0⟩
noncomputable def aM:FT (Opti×Unit) (Bool) (λ_=>True) (λ_ _=>True):= .mk λ(x0,_)=>
  .bnd (β:=Bool×Unit) (.ite (!x0.stamp) (.ite (x0.val != 0) (.ret (true,()))<|
    .ret ((x0.echo != 0),()))<|
   .ret (false,())) λ(u1a0,_)=>
  .ite u1a0 (.ret false)<|
  .cal ae.c (x0.mss,16,()) λc2=>
  .ite c2 (.val (bh.f (x0.scale,(-1),14,())) λc3=>
   .ite c3 (.cal ae.c (x0.val,32,()) λc4=>
    .ite c4 (.cal ae.c (x0.echo,32,()) λc5=>
     .ret c5)<|
    .ret false)<|
   .ret false)<|
  .ret false
noncomputable def lN:=bM st N1 OD [] (ks:=[.st .opti]) aM rB Tryz.func208 trivial
noncomputable def eA:FT (List Half×Unit) (List Half) (λx=>sS x.1) (λx v=>v=x.1):=⟨λx=> .ret x.1,λ_ _=>Tr.R rfl⟩
theorem MN (x:List Half×Unit)(hp:sS x.1):Jk Tryz.prog 210 (ID [.sc (.sl .half)] x) ((λv=>[rv (.sc (.sl .half)) [.o true] v]) (eA.f x)):=by
 refine Jk.byNil (t:= .half) (xs:=x.1) (λh=> ?_) ?_
 ·obtain⟨x,_⟩:=x;subst h
  exact fn0 st Tryz.func210 (by kernel_rfl) (by kernel_rfl)
 ·exact fn0 st Tryz.func210 (by kernel_rfl) (Eq.trans (b:=bif Nat.ble ((2*(0+x.1.length)+1024)*96) bo then some ((λv=>[rv (.sc (.sl .half)) [.o true] v]) x.1)else none) (by kernel_rfl) (by rw[show Nat.ble ((2*(0+x.1.length)+1024)*96) bo=true by simp only[Nat.ble_eq,bo];simp only[sS]at hp;omega];rfl))
noncomputable def tg:Ent1 Tryz.prog:=ach 210 (ks:=[.sc (.sl .half)]) eA.c (λv=>[rv (.sc (.sl .half)) [.o true] v]) MN
noncomputable def ak:FT (Segm×Unit) (Bool) (λ_=>True) (λx v=>(v=true→x.1.body.length≤1420)):= .mk λ(x0,_)=>
  .cal ae.c (x0.from_,16,()) λc1=>
  .ite c1 (.cal ae.c (x0.to,16,()) λc2=>
   .ite c2 (.cal ae.c (x0.window,16,()) λc3=>
    .ite c3 (.cal ae.c (x0.seq,32,()) λc4=>
     .ite c4 (.cal ae.c (x0.ack,32,()) λc5=>
      .ite c5 (.cal ae.c (x0.flags,6,()) λc6=>
       .ite c6 (.cal aM.c (x0.opts,()) λc7=>
        .ite c7 (.ret (decide ((x0.body.length:Int)≤1420)))<|
        .ret false)<|
       .ret false)<|
      .ret false)<|
     .ret false)<|
    .ret false)<|
   .ret false)<|
  .ret false
noncomputable def jF:=a9 st Tryz.func211 [bX,lN] (ks:=[.st .segm]) ak rB
noncomputable def bK:FF (Int×Unit) (Int):=⟨λ(x0,_)=>
  .ite (decide ((x0.tmod 4294967296)<0)) (.ret (IntKind.wrap .i64 ((x0.tmod 4294967296)+4294967296)))<|
  .ret (x0.tmod 4294967296)⟩
@[grind=] theorem aeQ (x0:Int):bK.f (x0,())=(x0%4294967296):=by
 simp only[bK,FF.f,Tr.nice]
 rcases Int.lt_or_le x0 0 with h|h
 ·rw[(iy 4294967296).2 h,df]
  cases hd:decide (-(-x0%4294967296)<0)with
  |true=>simp only[decide_eq_true_eq]at hd;simp only[cond_true];omega
  |false=>simp only[decide_eq_false_iff_not]at hd;simp only[cond_false];omega
 ·rw[(iy 4294967296).1 h,df]
  cases hd:decide (x0%4294967296<0)with
  |true=>simp only[decide_eq_true_eq]at hd;omega
  |false=>rfl
noncomputable def gJ:=lI st Tryz.func226 [] (ks:=[.sc (.int .i64)]) bK rI
noncomputable def pW:FT (Int×Int×Unit) (Mac) (λ_=>True) (λx v=>dT v):= .mk λ(x0,x1,_)=>
  .ret (⟨false,x0,x1,[]⟩:Mac)
noncomputable def vT:=a9 st Tryz.func249 [] (ks:=[.sc (.int .u64),.sc (.int .u64)]) pW (λv=>[(true,Ms (.o true) v)])
noncomputable def su:FT (List MacRow×Unit) (Mac) (λx=>sL bk x.1) (λx v=>dT v):= .mk λ(x0,_)=>
  .grd (Nat.ble ((2*(0+x0.length)+1024)*24) bo)<|
  .ret (⟨true,0,0,([]++x0)⟩:Mac)
noncomputable def ET:=a9 st Tryz.func253 [] (ks:=[.sc (.sl .macRow)]) su (λv=>[(true,Ms (.o true) v)])
noncomputable def gH:FT (List Entr×Unit) (List Entr) (λx=>sS x.1) (λx v=>v=x.1):=⟨λx=> .ret x.1,λ_ _=>Tr.R rfl⟩
theorem Ix (x:List Entr×Unit)(hp:sS x.1):Jk Tryz.prog 255 (ID [.sc (.sl .entr)] x) ((λv=>[rv (.sc (.sl .entr)) [.o true] v]) (gH.f x)):=by
 refine Jk.byNil (t:= .entr) (xs:=x.1) (λh=> ?_) ?_
 ·obtain⟨x,_⟩:=x;subst h
  exact fn0 st Tryz.func255 (by kernel_rfl) (by kernel_rfl)
 ·exact fn0 st Tryz.func255 (by kernel_rfl) (Eq.trans (b:=bif Nat.ble ((2*(0+x.1.length)+1024)*24) bo then some ((λv=>[rv (.sc (.sl .entr)) [.o true] v]) x.1)else none) (by kernel_rfl) (by rw[show Nat.ble ((2*(0+x.1.length)+1024)*24) bo=true by simp only[Nat.ble_eq,bo];simp only[sS]at hp;omega];rfl))
noncomputable def xI:Ent1 Tryz.prog:=ach 255 (ks:=[.sc (.sl .entr)]) gH.c (λv=>[rv (.sc (.sl .entr)) [.o true] v]) Ix
noncomputable def tG:FF (Fram×Int×Unit) (Bool):=⟨λ(x0,x1,_)=>
  .ite (x0.dst==x1) (.ret true)<|
  .ret (x0.dst==281474976710655)⟩
noncomputable def aas:=lI st Tryz.func256 [] (ks:=[.st .fram,.sc (.int .i64)]) tG rB
def uc:Sh:=⟨[zo 3 0,zl 7 .half,zi 8,zi 9],[za .half]⟩
noncomputable def uv (v0:List Half)(v2:Int)(a:List Half):Tr (Stp (List Half) (Empty)):=
 .grd (cj v0 v2)<|
 .ite (decide ((IntKind.wrap .i64 ((v0.getD v2.toNat (Ty.zero .half)).age+1))≤6)) (.grd (qq a 1 96)<|
  .val (a++[({(v0.getD v2.toNat (Ty.zero .half))with age:=(IntKind.wrap .i64 ((v0.getD v2.toNat (Ty.zero .half)).age+1))}:Half)]) λl1=>
  .ret (.next l1))<|
 .ret (.next a)
noncomputable def gF:uc.V→qc uc (List Half):=λ(v0,v1,v2,v3,_)=>⟨v2,v3,λv2 a=>(v0,v1,v2,a,()),λv2 _=>(decide (v2<v1)),uv v0,up,1,(Int.toNat (v1-v2)),Empty.elim,Prod.mk,oN (.exit 0) ⟨[zu 2,zo 3 0],[za .half]⟩ (λx=>(x.2,()))⟩
theorem Ey {v0 v3:List Half}{v1 v2:Int}(h0:0≤v2)(h1:v1≤4611686018427387904)(h2:sS v0)(h3:v1≤4294967296)(h4:v1≤(v0.length:Int))(h5:(v3.length:Int)≤v2):(gF (v0,v1,v2,v3,())).U v1 (λv2 a=>(a.length:Int)≤v2) (λ_=>True):=
 iT (a:=v3) h0 h1 h5
noncomputable def rq:FT (List Half×Unit) (List Half) (λx=>sS x.1) (λx v=>sS v):=⟨λ(x0,_)=>
  .lp (gF (x0,(x0.length:Int),0,[],())).lp λ(_,a2_0)=>
  .ret a2_0,
 λ(x0,_) hp=>by
  refine Tr.L (Ey ?_ ?_ ?_ ?_ ?_ ?_) (λa2_0 _=>Tr.R ?_) (λp=>Empty.elim p)
  all_goals ((try simp only[gF,LC.lp,LC.ct,Ct.lp]at*)<;>grind)⟩
noncomputable def KP:=ez st Tryz.func266 [(0,lb [3,7,8,9] [2,3])] [] 0 gF (ks:=[.sc (.sl .half)]) rq (λv=>[(false,[sc (.o true) .half v])])
noncomputable def pJ:FT (List Tupl×Unit) (List Tupl) (λx=>sS x.1) (λx v=>v=x.1):=⟨λx=> .ret x.1,λ_ _=>Tr.R rfl⟩
theorem Ii (x:List Tupl×Unit)(hp:sS x.1):Jk Tryz.prog 269 (ID [.sc (.sl .tupl)] x) ((λv=>[rv (.sc (.sl .tupl)) [.o true] v]) (pJ.f x)):=by
 refine Jk.byNil (t:= .tupl) (xs:=x.1) (λh=> ?_) ?_
 ·obtain⟨x,_⟩:=x;subst h
  exact fn0 st Tryz.func269 (by kernel_rfl) (by kernel_rfl)
 ·exact fn0 st Tryz.func269 (by kernel_rfl) (Eq.trans (b:=bif Nat.ble ((2*(0+x.1.length)+1024)*24) bo then some ((λv=>[rv (.sc (.sl .tupl)) [.o true] v]) x.1)else none) (by kernel_rfl) (by rw[show Nat.ble ((2*(0+x.1.length)+1024)*24) bo=true by simp only[Nat.ble_eq,bo];simp only[sS]at hp;omega];rfl))
noncomputable def Im:Ent1 Tryz.prog:=ach 269 (ks:=[.sc (.sl .tupl)]) pJ.c (λv=>[rv (.sc (.sl .tupl)) [.o true] v]) Ii
noncomputable def bB:FT (Recv×Unit) (Int) (λx=>ay x.1) (λx v=>0≤v∧v≤32∧(x.1.data.length≤32→v=aav x.1)):= .mk λ(x0,_)=>
  .ite x0.done (.ret 0)<|
  .val (β:=Int) (if 0<(IntKind.wrap .i64 (32-(x0.data.length:Int)))then(IntKind.wrap .i64 (32-(x0.data.length:Int)))else 0) λe1=>
  .ret e1
noncomputable def kW:=a9 st Tryz.func275 [] (ks:=[.st .recv]) bB rI
def zT:Sh:=⟨[zi 0,zo 5 0,zi 6],[za .u8]⟩
noncomputable def dQ (v1:Int)(a:Int×List Int):Tr (Stp (Int×List Int) (Empty)):=
 .grd (cj a.2 v1)<|
 .ret (.next ((a.1.fdiv 256),(a.2.set v1.toNat (IntKind.wrap .u8 a.1))))
noncomputable def eH:zT.V→qc zT (Int×List Int):=λ(v0,v1,v2,_)=>⟨v1,(v0,v2),λv1 a=>(a.1,v1,a.2,()),λv1 _=>(decide (0≤v1)),dQ,dn,(-1),(Int.toNat (v1-0+1)),Empty.elim,Prod.mk,oN (.exit 0) ⟨[zu 4,zo 5 0],[za .u8]⟩ (λx=>(x.2.2,()))⟩
theorem M4 {v0 v1:Int}{v2:List Int}(h0:v1≤9223372036854775807)(h1:sS v2)(h2:v2.length=v2.length∧v1<(v2.length:Int)):(eH (v0,v1,v2,())).D 0 (λv1 a=>a.2.length=v2.length∧v1<(a.2.length:Int)) (λ_=>True):=
 lcD (a:=(v0,v2)) h0 (by decide) h2
noncomputable def aA:FT (Int×Int×Unit) (aa) (λ_=>True) (λx v=>sS v∧(v.length:Int)≤max x.2.1 0):=⟨λ(x0,x1,_)=>
  .bnd (β:=Bool×Unit) (.val (bh.f (x1,1,6,())) λc1=>
   .ite (!c1) (.ret (true,()))<|
   .cal ae.c (x0,(IntKind.wrap .i64 (8*x1)),()) λc2=>
   .ret ((!c2),())) λ(u3a0,_)=>
  .ite u3a0 (.ret [])<|
  .grd ((((decide (0≤x1))&&(decide (x1=x1)))&&(decide (x1*1≤(bo:Int))))&&(decide (x1≤(bo:Int))))<|
  .lp (eH (x0,(IntKind.wrap .i64 (x1-1)),(List.replicate x1.toNat 0),())).lp λ(_,_,a4_1)=>
  .ret (aw a4_1),
 λ(x0,x1,_) hp=>by
  refine Tr.B (Q':=λ_=>True) (Tr.V λ_ _=>Tr.I (λ_=>Tr.R trivial) λ_=>Tr.C trivial λ_ _ _=>Tr.R trivial) (λ(u3a0,_) _ _=>Tr.I (λ_=>Tr.R ?_) λ_=>Tr.G4 ?_ λ_=>Tr.L (M4 ?_ ?_ ?_) (λ(a4_0,a4_1) _=>Tr.R ?_) (λp=>Empty.elim p))
  all_goals ((try simp only[eH,LC.lp,LC.ct,Ct.lp,Tr.nice,iz]at*)<;>grind)⟩
noncomputable def kv:=ez st Tryz.func278 [(0,lb [0,5,6] [4,5]),(3000001,rA 0 16)] [bG,bX] 0 eH (ks:=[.sc (.int .i64),.sc (.int .i64)]) aA (λv=>[(false,[.c (.str v)])])
def Ha:Sh:=⟨[zi 1,zl 8 .entr,zi 9,zi 10],[]⟩
noncomputable def GG (v0:Int)(v1:List Entr)(v3:Int)(a:Unit):Tr (Stp (Unit) ((Int))):=
 .grd (cj v1 v3)<|
 .ite ((v1.getD v3.toNat (Ty.zero .entr)).ip==v0) (.ret (.out ((v1.getD v3.toNat (Ty.zero .entr)).hw)))<|
 .ret (.next ())
noncomputable def uu:Ha.V→qF Ha Unit (Int):=λ(v0,v1,v2,v3,_)=>⟨v3,(),λv3 _=>(v0,v1,v2,v3,()),λv3 _=>(decide (v3<v2)),GG v0 v1,up,1,(Int.toNat (v2-v3)),.inl,eR,oB .ret ⟨[zi 4,zb 5],[]⟩ (λp=>(p,true,())) (.exit 0) ⟨[zu 4,zu 5],[]⟩ (λ_=>())⟩
theorem Uh {v0 v2 v3:Int}{v1:List Entr}(h0:0≤v3)(h1:v2≤4611686018427387904)(h2:v2≤(v1.length:Int)):(uu (v0,v1,v2,v3,())).U v2 (λ_ _=>True) (λ_=>True):=
 iT h0 h1 trivial
noncomputable def B2:FT (List Entr×Int×Unit) (Int×Bool) (λx=>sS x.1) (λ_ _=>True):= .mk (λ(x0,x1,_)=>
  .lp (uu (x1,x0,(x0.length:Int),0,())).lp λw1=> .sum w1 (λp1a0=>
  .ret (p1a0,true))<|
  λ_=>
  .ret (0,false)) (qm @Uh)
noncomputable def WK:=ez st Tryz.func280 [(0,lb [1,8,9,10] [4,5])] [] 0 uu (ks:=[.sc (.sl .entr),.sc (.int .i64)]) B2 (λv=>[(false,[.c (.int .i64 v.1)]),(false,[.c (.bool v.2)])])
noncomputable def vr:FT (Keys×Unit) (Keys) (λx=>cC x.1) (λx v=>cC v∧v=x.1):=⟨λ(x0,_)=>
  .cal lc.c (x0.now,()) λc1=>
  .cal lc.c (x0.before,()) λc2=>
  .ret (⟨x0.epoch,c1,c2,x0.two⟩:Keys),
 λ(x0,_) hp=>by
  refine Tr.C ?_ λc1 hc1 qc1=>Tr.C ?_ λc2 hc2 qc2=>Tr.R ?_
  all_goals ((first|grind|(refine⟨by grind, ?_⟩;first|(simp only[List.nil_append];done)|(subst_vars;rfl)|simp_all)))⟩
noncomputable def GO:=a9 st Tryz.func282 [zF] (ks:=[.st .keys]) vr (λv=>[(true,B5 (.o true) (.o true) v)])
noncomputable def Jv:FF (Fram×Int×Unit) (Bool):=⟨λ(x0,x1,_)=>
  .ite (x0.dst==x1) (.ret true)<|
  .ret (x0.dst==281474976710655)⟩
noncomputable def aaL:=lI st Tryz.func283 [] (ks:=[.st .fram,.sc (.int .i64)]) Jv rB
def zE:Sh:=⟨[zs 0,zi 1,zi 2,zi 8,zi 9],[]⟩
noncomputable def sk (v0:aa)(v1:Int)(v4:Int)(a:Int):Tr (Stp (Int) (Empty)):=
 .grd (cj v0 (IntKind.wrap .i64 (v1+v4)))<|
 .val (IntKind.wrap .i64 ((IntKind.wrap .i64 (256*a))+(IntKind.wrap .i64 (ai v0 ((IntKind.wrap .i64 (v1+v4)).toNat))))) λe4=>
 .ret (.next e4)
noncomputable def nz:zE.V→qc zE Int:=λ(v0,v1,v2,v3,v4,_)=>⟨v4,v3,λv4 a=>(v0,v1,v2,a,v4,()),λv4 _=>(decide (v4<v2)),sk v0 v1,up,1,(Int.toNat (v2-v4)),Empty.elim,Prod.mk,oN (.exit 0) ⟨[zu 6,zu 7,zi 8],[]⟩ (λx=>(x.2,()))⟩
theorem LY {v0:aa}{v1 v2 v3 v4:Int}(h0:0≤v4)(h1:v2≤4611686018427387904)(h2:0≤v1)(h3:v1+v2≤(v0.length:Int))(h4:sS v0):(nz (v0,v1,v2,v3,v4,())).U v2 (λ_ _=>True) (λ_=>True):=
 iT (a:=v3) h0 h1 trivial
noncomputable def bN:FT (aa×Int×Int×Unit) (Int×Bool) (λx=>sS x.1) (λ_ _=>True):= .mk (λ(x0,x1,x2,_)=>
  .bnd (β:=Bool×Unit) (.val (bZ.f (x2,1,6,())) λc1=>
   .ite (!c1) (.ret (true,()))<|
   .val (bZ.f (x1,0,(IntKind.wrap .i64 ((x0.length:Int)-x2)),())) λc2=>
   .ret ((!c2),())) λ(u3a0,_)=>
  .ite u3a0 (.ret (0,false))<|
  .lp (nz (x0,x1,x2,0,0,())).lp λ(_,a5_0)=>
  .ret (a5_0,true)) (qm @LY)
noncomputable def qh:=ez st Tryz.func288 [(0,lb [0,1,2,8,9] [6,7,8]),(3000001,rA 0 21)] [cx] 0 nz (ks:=[.sc .str,.sc (.int .i64),.sc (.int .i64)]) bN (λv=>[(false,[.c (.int .i64 v.1)]),(false,[.c (.bool v.2)])])
noncomputable def sK:FT (List Half×Tupl×Unit) (List Half) (λx=>sS x.1) (λx v=>sS v):= .mk λ(x0,x1,_)=>
  .cal ju.c (x0,x1,()) λc1=>
  .ite (decide (c1<0)) (.grd (Nat.ble ((2*(0+x0.length)+1024)*96) bo)<|
   .ret ([]++x0))<|
  .grd ((decide (0≤c1))&&(decide (c1≤(x0.length:Int))))<|
  .grd (Nat.ble ((2*(0+((x0.take c1.toNat).drop 0).length)+1024)*96) bo)<|
  .grd (JQ x0 (IntKind.wrap .i64 (c1+1)) (x0.length:Int))<|
  .grd (Nat.ble ((2*(([]++((x0.take c1.toNat).drop 0)).length+((x0.take ((x0.length:Int).toNat)).drop ((IntKind.wrap .i64 (c1+1)).toNat)).length)+1024)*96) bo)<|
  .val (([]++((x0.take c1.toNat).drop 0))++((x0.take ((x0.length:Int).toNat)).drop ((IntKind.wrap .i64 (c1+1)).toNat))) λl2=>
  .ret l2
noncomputable def Dn:=a9 st Tryz.func292 [ot] (ks:=[.sc (.sl .half),.st .tupl]) sK (λv=>[(false,[sc (.o true) .half v])])
noncomputable def fB:FF (Int×Int×Unit) (Int):=⟨λ(x0,x1,_)=>
  .ite (decide (x1<x0)) (.ret x0)<|
  .ret x1⟩
@[grind=] theorem mD (x0 x1:Int):fB.f (x0,x1,())=(if x1<x0 then x0 else x1):=by
 simp only[fB,FF.f,Tr.nice]
 by_cases h:x1<x0<;>simp[h]
noncomputable def mO:=lI st Tryz.func302 [] (ks:=[.sc (.int .i64),.sc (.int .i64)]) fB rI
def tF:Sh:=⟨[zl 0 .half,zo 3 0,zi 4],[za .half]⟩
noncomputable def tS (v0:List Half)(v1:Int)(a:List Half):Tr (Stp (List Half) (Empty)):=
 .grd (cj v0 v1)<|
 .ite (decide ((v0.getD v1.toNat (Ty.zero .half)).age<6)) (.grd (qq a 1 96)<|
  .val (a++[({(v0.getD v1.toNat (Ty.zero .half))with age:=(IntKind.wrap .i64 ((v0.getD v1.toNat (Ty.zero .half)).age+1))}:Half)]) λl1=>
  .ret (.next l1))<|
 .ret (.next a)
noncomputable def gr:tF.V→qc tF (List Half):=λ(v0,v1,v2,_)=>⟨v1,v2,λv1 a=>(v0,v1,a,()),λv1 _=>(decide (v1<(v0.length:Int))),tS v0,up,1,(Int.toNat ((v0.length:Int)-v1)),Empty.elim,Prod.mk,oN (.exit 0) ⟨[zu 2,zo 3 0],[za .half]⟩ (λx=>(x.2,()))⟩
theorem EY {v0 v2:List Half}{v1:Int}(h0:0≤v1)(h1:(v0.length:Int)≤4611686018427387904)(h2:sS v0)(h3:(v2.length:Int)≤v1):(gr (v0,v1,v2,())).U (v0.length:Int) (λv1 a=>(a.length:Int)≤v1) (λ_=>True):=
 iT (a:=v2) h0 h1 h3
noncomputable def ra:FT (List Half×Unit) (List Half) (λx=>sS x.1) (λx v=>sS v):=⟨λ(x0,_)=>
  .lp (gr (x0,0,[],())).lp λ(_,a2_0)=>
  .ret a2_0,
 λ(x0,_) hp=>by
  refine Tr.L (EY ?_ ?_ ?_ ?_) (λa2_0 _=>Tr.R ?_) (λp=>Empty.elim p)
  all_goals ((try simp only[gr,LC.lp,LC.ct,Ct.lp]at*)<;>grind)⟩
noncomputable def Kb:=ez st Tryz.func303 [(0,lb [0,3,4] [2,3])] [] 0 gr (ks:=[.sc (.sl .half)]) ra (λv=>[(false,[sc (.o true) .half v])])
noncomputable def d7:FT (Recv×Unit) (Recv) (λx=>ay x.1) (λx v=>ay v∧v=x.1):=⟨λ(x0,_)=>
  .grd (Nat.ble ((2*(0+x0.held.length)+1024)*24) bo)<|
  .ret ({x0 with held:=([]++x0.held)}:Recv),
 λ(x0,_) hp=>by
  refine Tr.Gb ?_ λg0=>Tr.R ?_
  all_goals ((first|grind|(refine⟨by grind, ?_⟩;first|(simp only[List.nil_append];done)|(subst_vars;rfl)|simp_all)))⟩
noncomputable def zB:=a9 st Tryz.func304 [] (ks:=[.st .recv]) d7 (λv=>[(true,uy (.o true) v)])
noncomputable def gN:FT (Recv×Unit) (Int) (λx=>ay x.1) (λx v=>0≤v∧v≤32∧(x.1.data.length≤32→v=aav x.1)):= .mk λ(x0,_)=>
  .ite x0.done (.ret 0)<|
  .val (fB.f (0,(IntKind.wrap .i64 (32-(x0.data.length:Int))),())) λc1=>
  .ret c1
noncomputable def kX:=a9 st Tryz.func308 [mO] (ks:=[.st .recv]) gN rI
def EW:Sh:=⟨[zl 0 .entr,zi 1,zi 5],[]⟩
noncomputable def Ei (v0:List Entr)(v1:Int)(v2:Int)(a:Unit):Tr (Stp (Unit) ((Int))):=
 .grd (cj v0 v2)<|
 .ite ((v0.getD v2.toNat (Ty.zero .entr)).ip==v1) (.ret (.out v2))<|
 .ret (.next ())
noncomputable def rm:EW.V→qF EW Unit (Int):=λ(v0,v1,v2,_)=>⟨v2,(),λv2 _=>(v0,v1,v2,()),λv2 _=>(decide (v2<(v0.length:Int))),Ei v0 v1,up,1,(Int.toNat ((v0.length:Int)-v2)),.inl,eR,oB .ret ⟨[zi 4],[]⟩ (λp=>(p,())) (.exit 0) ⟨[zu 4],[]⟩ (λ_=>())⟩
theorem Sj {v0:List Entr}{v1 v2:Int}(h0:0≤v2)(h1:(v0.length:Int)≤4611686018427387904):(rm (v0,v1,v2,())).U (v0.length:Int) (λ_ _=>True) (λp=>v2≤p∧p<(v0.length:Int)):=
 iT h0 h1 trivial
noncomputable def AG:FT (List Entr×Int×Unit) (Int) (λx=>sS x.1) (λx v=> -1≤v∧v<x.1.length):= .mk (λ(x0,x1,_)=>
  .lp (rm (x0,x1,0,())).lp λw1=> .sum w1 (λp1a0=>
  .ret p1a0)<|
  λ_=>
  .ret (-1)) (qm @Sj)
noncomputable def F7:=ez st Tryz.func311 [(0,lb [0,1,5] [4])] [] 0 rm (ks:=[.sc (.sl .entr),.sc (.int .i64)]) AG rI
noncomputable def wG:FT (Limi×Unit) (Bool) (λ_=>True) (λx v=>(v=true→x.1.halves≤64∧x.1.waiting≤16∧x.1.conns≤16)):= .mk λ(x0,_)=>
  .val (bZ.f (x0.halves,1,64,())) λc1=>
  .ite c1 (.val (bZ.f (x0.waiting,1,16,())) λc2=>
   .ite c2 (.val (bZ.f (x0.conns,1,16,())) λc3=>
    .ite c3 (.val (bZ.f (x0.chal,0,1000,())) λc4=>
     .ret c4)<|
    .ret false)<|
   .ret false)<|
  .ret false
noncomputable def Sz:=a9 st Tryz.func312 [cx] (ks:=[.st .limi]) wG rB
noncomputable def Oa:=[ca,cx]
noncomputable def N7:Fx:=⟨313,Tryz.f313,[(3000001,rA 0 15)],0⟩
noncomputable def eQ:FT (Opti×Unit) (Bool) (λ_=>True) (λ_ _=>True):= .mk λ(x0,_)=>
  .bnd (β:=Bool×Unit) (.ite (!x0.stamp) (.ite (x0.val != 0) (.ret (true,()))<|
    .ret ((x0.echo != 0),()))<|
   .ret (false,())) λ(u1a0,_)=>
  .ite u1a0 (.ret false)<|
  .cal aI.c (x0.mss,16,()) λc2=>
  .ite c2 (.val (bZ.f (x0.scale,(-1),14,())) λc3=>
   .ite c3 (.cal aI.c (x0.val,32,()) λc4=>
    .ite c4 (.cal aI.c (x0.echo,32,()) λc5=>
     .ret c5)<|
    .ret false)<|
   .ret false)<|
  .ret false
noncomputable def lD:=bM st N7 Oa [] (ks:=[.st .opti]) eQ rB Tryz.func313 trivial
def zw:Sh:=⟨[zi 0,zo 5 0,zi 6],[za .u8]⟩
noncomputable def ou (v1:Int)(a:Int×List Int):Tr (Stp (Int×List Int) (Empty)):=
 .grd (cj a.2 v1)<|
 .ret (.next ((IntKind.wrap .i64 (a.1.tdiv 256)),(a.2.set v1.toNat (IntKind.wrap .u8 (a.1.tmod 256)))))
noncomputable def kr:zw.V→qc zw (Int×List Int):=λ(v0,v1,v2,_)=>⟨v1,(v0,v2),λv1 a=>(a.1,v1,a.2,()),λv1 _=>(decide (0≤v1)),ou,dn,(-1),(Int.toNat (v1-0+1)),Empty.elim,Prod.mk,oN (.exit 0) ⟨[zu 4,zo 5 0],[za .u8]⟩ (λx=>(x.2.2,()))⟩
theorem Mi {v0 v1:Int}{v2:List Int}(h0:v1≤9223372036854775807)(h1:sS v2)(h2:v2.length=v2.length∧v1<(v2.length:Int)):(kr (v0,v1,v2,())).D 0 (λv1 a=>a.2.length=v2.length∧v1<(a.2.length:Int)) (λ_=>True):=
 lcD (a:=(v0,v2)) h0 (by decide) h2
noncomputable def aW:FT (Int×Int×Unit) (aa) (λ_=>True) (λx v=>sS v∧(v.length:Int)≤max x.2.1 0):=⟨λ(x0,x1,_)=>
  .bnd (β:=Bool×Unit) (.val (bZ.f (x1,1,6,())) λc1=>
   .ite (!c1) (.ret (true,()))<|
   .cal aI.c (x0,(IntKind.wrap .i64 (8*x1)),()) λc2=>
   .ret ((!c2),())) λ(u3a0,_)=>
  .ite u3a0 (.ret [])<|
  .grd ((((decide (0≤x1))&&(decide (x1=x1)))&&(decide (x1*1≤(bo:Int))))&&(decide (x1≤(bo:Int))))<|
  .lp (kr (x0,(IntKind.wrap .i64 (x1-1)),(List.replicate x1.toNat 0),())).lp λ(_,_,a4_1)=>
  .ret (aw a4_1),
 λ(x0,x1,_) hp=>by
  refine Tr.B (Q':=λ_=>True) (Tr.V λ_ _=>Tr.I (λ_=>Tr.R trivial) λ_=>Tr.C trivial λ_ _ _=>Tr.R trivial) (λ(u3a0,_) _ _=>Tr.I (λ_=>Tr.R ?_) λ_=>Tr.G4 ?_ λ_=>Tr.L (Mi ?_ ?_ ?_) (λ(a4_0,a4_1) _=>Tr.R ?_) (λp=>Empty.elim p))
  all_goals ((try simp only[kr,LC.lp,LC.ct,Ct.lp,Tr.nice,iz]at*)<;>grind)⟩
noncomputable def kC:=ez st Tryz.func315 [(0,lb [0,5,6] [4,5]),(3000001,rA 0 16)] [cx,ca] 0 kr (ks:=[.sc (.int .i64),.sc (.int .i64)]) aW (λv=>[(false,[.c (.str v)])])
noncomputable def ge:FT (Fram×Unit) (Bool) (λ_=>True) (λx v=>(v=true→x.1.body.length≤1586)):= .mk λ(x0,_)=>
  .cal ae.c (x0.dst,48,()) λc1=>
  .ite c1 (.cal ae.c (x0.src,48,()) λc2=>
   .ite c2 (.val (bh.f (x0.type,1536,65535,())) λc3=>
    .ite c3 (.ret (decide ((x0.body.length:Int)≤1586)))<|
    .ret false)<|
   .ret false)<|
  .ret false
noncomputable def Hs:=a9 st Tryz.func317 [bX,bG] (ks:=[.st .fram]) ge rB
noncomputable def aR:FT (Segm×Unit) (Int) (λx=>ao x.1) (λx v=>0≤v∧v≤x.1.body.length+2):= .mk λ(x0,_)=>
  .val (bH.f (x0,2,())) λc1=>
  .ite c1 (.val (bH.f (x0,1,())) λc2=>
   .ite c2 (.val (IntKind.wrap .i64 ((IntKind.wrap .i64 ((x0.body.length:Int)+1))+1)) λe3=>
    .ret e3)<|
   .ret (IntKind.wrap .i64 ((x0.body.length:Int)+1)))<|
  .val (bH.f (x0,1,())) λc4=>
  .ite c4 (.ret (IntKind.wrap .i64 ((x0.body.length:Int)+1)))<|
  .ret (x0.body.length:Int)
noncomputable def sx:=a9 st Tryz.func327 [Ai] (ks:=[.st .segm]) aR rI
noncomputable def uL:FT (List Half×Int×Int×Unit) (Nat×List Half) (λx=>sS x.1∧0≤x.2.1∧x.2.1≤x.2.2.1∧x.2.2.1≤x.1.length) (λx v=>sS v.2∧v.1≤x.1.length∧v.2.length=x.1.length):=⟨λ(x0,x1,x2,_)=>
  .grd ((((decide (0≤x1))&&(decide (x1≤x2)))&&(decide (x2≤(x0.length:Int))))&&(decide ((x0.length:Int)≤(x0.length:Int))))<|
  .ite (x1==x2) (.ret (x0.length,x0))<|
  .grd ((decide (0≤x1))&&(decide (x1≤(x0.length:Int))))<|
  .grd (JQ x0 x2 (x0.length:Int))<|
  .grd (((Nat.ble x1.toNat x2.toNat)&&(Nat.beq ((x0.length:Int).toNat) x0.length))&&true)<|
  .val (((((x0.take x1.toNat++x0.drop x2.toNat)++x0.drop (x1.toNat+(x0.length-x2.toNat))).take (x1.toNat+(x0.length-x2.toNat))).drop 0).length:Int) λe1=>
  .grd (JQ ((x0.take x1.toNat++x0.drop x2.toNat)++x0.drop (x1.toNat+(x0.length-x2.toNat))) e1 (x0.length:Int))<|
  .val ((((x0.take x1.toNat++x0.drop x2.toNat)++x0.drop (x1.toNat+(x0.length-x2.toNat))).take e1.toNat++List.replicate ((x0.length:Int).toNat-e1.toNat) (Ty.zero .half))++((x0.take x1.toNat++x0.drop x2.toNat)++x0.drop (x1.toNat+(x0.length-x2.toNat))).drop ((x0.length:Int).toNat)) λl2=>
  .ret ((x1.toNat+(x0.length-x2.toNat)),l2),
 λ(x0,x1,x2,_) hp=>by
  refine Tr.G4 ?_ λg0=>Tr.I (λb1=>Tr.R ?_) λb1=>Tr.G2 ?_ λg2=>Tr.G3 ?_ λg3=>Tr.G ?_ λg4=>Tr.V λe1 he1=>Tr.G3 ?_ λg5=>Tr.V λl2 hl2=>Tr.R ?_
  all_goals ((first|grind|(simp only[Bool.and_eq_true,and_true,List.length_set,Nat.ble_eq,Nat.beq_eq,decide_eq_true_eq,List.length_append,List.length_take,List.length_drop,List.drop_zero,List.length_replicate,sS]at*;omega)))⟩
noncomputable def Iq:=cq st ⟨329,Tryz.f329,[],1⟩ [] [] [.wr false [.own 0],.sc (.int .i64),.sc (.int .i64)] [.arr .half] (λx y=>(y.1,x.2.1,x.2.2.1,())) uL (λv=>[(false,[.shr 0 v.1])]) (λx y v=>(v.2,())) Tryz.func329 (by kernel_rfl) trivial
noncomputable def jG:FF (Opti×Unit) (Opti):=⟨λ(x0,_)=>
  .ite x0.stamp (.ret x0)<|
  .val (bQ.f (())) λc1=>
  .ret ({c1 with mss:=x0.mss}:Opti)⟩
noncomputable def Ip:=lI st Tryz.func332 [jH] (ks:=[.st .opti]) jG (λv=>[(true,oI v)])
noncomputable def pB:FT (List Piec×Unit) (List Piec) (λx=>sS x.1) (λx v=>v=x.1):=⟨λx=> .ret x.1,λ_ _=>Tr.R rfl⟩
theorem IA (x:List Piec×Unit)(hp:sS x.1):Jk Tryz.prog 336 (ID [.sc (.sl .piec)] x) ((λv=>[rv (.sc (.sl .piec)) [.o true] v]) (pB.f x)):=by
 refine Jk.byNil (t:= .piec) (xs:=x.1) (λh=> ?_) ?_
 ·obtain⟨x,_⟩:=x;subst h
  exact fn0 st Tryz.func336 (by kernel_rfl) (by kernel_rfl)
 ·exact fn0 st Tryz.func336 (by kernel_rfl) (Eq.trans (b:=bif Nat.ble ((2*(0+x.1.length)+1024)*24) bo then some ((λv=>[rv (.sc (.sl .piec)) [.o true] v]) x.1)else none) (by kernel_rfl) (by rw[show Nat.ble ((2*(0+x.1.length)+1024)*24) bo=true by simp only[Nat.ble_eq,bo];simp only[sS]at hp;omega];rfl))
noncomputable def I5:Ent1 Tryz.prog:=ach 336 (ks:=[.sc (.sl .piec)]) pB.c (λv=>[rv (.sc (.sl .piec)) [.o true] v]) IA
noncomputable def j1:FF (Int×Int×Unit) (Int):=⟨λ(x0,x1,_)=>
  .ite (decide (x0<x1)) (.ret x0)<|
  .ret x1⟩
@[grind=] theorem kG (x0 x1:Int):j1.f (x0,x1,())=(if x0<x1 then x0 else x1):=by
 simp only[j1,FF.f,Tr.nice]
 by_cases h:x0<x1<;>simp[h]
noncomputable def oG:=lI st Tryz.func341 [] (ks:=[.sc (.int .i64),.sc (.int .i64)]) j1 rI
noncomputable def nF:FT (Arpm×Unit) (Bool) (λ_=>True) (λ_ _=>True):= .mk λ(x0,_)=>
  .val (bh.f (x0.kind,1,2,())) λc1=>
  .ite c1 (.cal ae.c (x0.srcHw,48,()) λc2=>
   .ite c2 (.cal ae.c (x0.dstHw,48,()) λc3=>
    .ite c3 (.cal ae.c (x0.srcIp,32,()) λc4=>
     .ite c4 (.cal ae.c (x0.dstIp,32,()) λc5=>
      .ret c5)<|
     .ret false)<|
    .ret false)<|
   .ret false)<|
  .ret false
noncomputable def E7:=a9 st Tryz.func370 [bG,bX] (ks:=[.st .arpm]) nF rB
noncomputable def rZ:FT (List Entr×Int×Int×Unit) (Nat×List Entr) (λx=>sS x.1∧0≤x.2.1∧x.2.1≤x.2.2.1∧x.2.2.1≤x.1.length) (λx v=>sS v.2∧v.1≤x.1.length∧v.2.length=x.1.length):=⟨λ(x0,x1,x2,_)=>
  .grd ((((decide (0≤x1))&&(decide (x1≤x2)))&&(decide (x2≤(x0.length:Int))))&&(decide ((x0.length:Int)≤(x0.length:Int))))<|
  .ite (x1==x2) (.ret (x0.length,x0))<|
  .grd ((decide (0≤x1))&&(decide (x1≤(x0.length:Int))))<|
  .grd (JQ x0 x2 (x0.length:Int))<|
  .grd (((Nat.ble x1.toNat x2.toNat)&&(Nat.beq ((x0.length:Int).toNat) x0.length))&&true)<|
  .val (((((x0.take x1.toNat++x0.drop x2.toNat)++x0.drop (x1.toNat+(x0.length-x2.toNat))).take (x1.toNat+(x0.length-x2.toNat))).drop 0).length:Int) λe1=>
  .grd (JQ ((x0.take x1.toNat++x0.drop x2.toNat)++x0.drop (x1.toNat+(x0.length-x2.toNat))) e1 (x0.length:Int))<|
  .val ((((x0.take x1.toNat++x0.drop x2.toNat)++x0.drop (x1.toNat+(x0.length-x2.toNat))).take e1.toNat++List.replicate ((x0.length:Int).toNat-e1.toNat) (Ty.zero .entr))++((x0.take x1.toNat++x0.drop x2.toNat)++x0.drop (x1.toNat+(x0.length-x2.toNat))).drop ((x0.length:Int).toNat)) λl2=>
  .ret ((x1.toNat+(x0.length-x2.toNat)),l2),
 λ(x0,x1,x2,_) hp=>by
  refine Tr.G4 ?_ λg0=>Tr.I (λb1=>Tr.R ?_) λb1=>Tr.G2 ?_ λg2=>Tr.G3 ?_ λg3=>Tr.G ?_ λg4=>Tr.V λe1 he1=>Tr.G3 ?_ λg5=>Tr.V λl2 hl2=>Tr.R ?_
  all_goals ((first|grind|(simp only[Bool.and_eq_true,and_true,List.length_set,Nat.ble_eq,Nat.beq_eq,decide_eq_true_eq,List.length_append,List.length_take,List.length_drop,List.drop_zero,List.length_replicate,sS]at*;omega)))⟩
noncomputable def Ft:=cq st ⟨371,Tryz.f371,[],1⟩ [] [] [.wr false [.own 0],.sc (.int .i64),.sc (.int .i64)] [.arr .entr] (λx y=>(y.1,x.2.1,x.2.2.1,())) rZ (λv=>[(false,[.shr 0 v.1])]) (λx y v=>(v.2,())) Tryz.func371 (by kernel_rfl) trivial
def yQ:Sh:=⟨[zs 0,zi 1,zi 8,zi 25,zi 26],[]⟩
noncomputable def sF (v0:aa)(v1:Int)(v4:Int)(a:Int):Tr (Stp (Int) (Empty)):=
 .grd (cj v0 (IntKind.wrap .i64 (v1+v4)))<|
 .val (bits .or .i64 (IntKind.wrap .i64 (a*256)) (IntKind.wrap .i64 (ai v0 ((IntKind.wrap .i64 (v1+v4)).toNat)))) λe3=>
 .ret (.next e3)
noncomputable def np:yQ.V→qc yQ Int:=λ(v0,v1,v2,v3,v4,_)=>⟨v4,v2,λv4 a=>(v0,v1,a,v3,v4,()),λv4 _=>(decide (v4<v3)),sF v0 v1,up,1,(Int.toNat (v3-v4)),Empty.elim,Prod.mk,oN (.exit 0) ⟨[zu 6,zu 7,zi 8],[]⟩ (λx=>(x.2,()))⟩
theorem LJ {v0:aa}{v1 v2 v3 v4:Int}(h0:0≤v4)(h1:v3≤4611686018427387904)(h2:0≤v1)(h3:v1+v3≤(v0.length:Int))(h4:sS v0):(np (v0,v1,v2,v3,v4,())).U v3 (λ_ _=>True) (λ_=>True):=
 iT (a:=v2) h0 h1 trivial
noncomputable def AF:FT (aa×Int×Int×Unit) (Int×Bool) (λx=>sS x.1) (λ_ _=>True):= .mk (λ(x0,x1,x2,_)=>
  .bnd (β:=Bool×Unit) (.val (bh.f (x2,1,6,())) λc1=>
   .ite (!c1) (.ret (true,()))<|
   .ite (decide (x1<0)) (.ret (true,()))<|
   .ret ((decide ((IntKind.wrap .i64 ((x0.length:Int)-x2))<x1)),())) λ(u2a0,_)=>
  .ite u2a0 (.ret (0,false))<|
  .lp (np (x0,x1,0,x2,0,())).lp λ(_,a4_0)=>
  .ret (a4_0,true)) (qm @LJ)
noncomputable def Vd:=ez st Tryz.func372 [(0,lb [0,1,8,25,26] [6,7,8]),(3000001,rA 0 24)] [bG] 0 np (ks:=[.sc .str,.sc (.int .i64),.sc (.int .i64)]) AF (λv=>[(false,[.c (.int .i64 v.1)]),(false,[.c (.bool v.2)])])
noncomputable def m9:FT (List MacRow×Unit) (List MacRow) (λx=>sS x.1) (λx v=>v=x.1):=⟨λx=> .ret x.1,λ_ _=>Tr.R rfl⟩
theorem Fh (x:List MacRow×Unit)(hp:sS x.1):Jk Tryz.prog 375 (ID [.sc (.sl .macRow)] x) ((λv=>[rv (.sc (.sl .macRow)) [.o true] v]) (m9.f x)):=by
 refine Jk.byNil (t:= .macRow) (xs:=x.1) (λh=> ?_) ?_
 ·obtain⟨x,_⟩:=x;subst h
  exact fn0 st Tryz.func375 (by kernel_rfl) (by kernel_rfl)
 ·exact fn0 st Tryz.func375 (by kernel_rfl) (Eq.trans (b:=bif Nat.ble ((2*(0+x.1.length)+1024)*24) bo then some ((λv=>[rv (.sc (.sl .macRow)) [.o true] v]) x.1)else none) (by kernel_rfl) (by rw[show Nat.ble ((2*(0+x.1.length)+1024)*24) bo=true by simp only[Nat.ble_eq,bo];simp only[sS]at hp;omega];rfl))
noncomputable def Gh:Ent1 Tryz.prog:=ach 375 (ks:=[.sc (.sl .macRow)]) m9.c (λv=>[rv (.sc (.sl .macRow)) [.o true] v]) Fh
noncomputable def Rf:=[bX,bG]
noncomputable def RI:Fx:=⟨376,Tryz.f376,[(3000001,rA 0 21),(3000003,rA 0 36)],0⟩
noncomputable def bi:FT (Sndr×Unit) (Bool) (λ_=>True) (λx v=>(v=true↔SO x.1)):= .mk λ(x0,_)=>
  .bnd (β:=Bool×Unit) (.cal ae.c (x0.una,32,()) λc1=>
   .ite (!c1) (.ret (true,()))<|
   .ite (decide (48<(x0.data.length:Int))) (.ret (true,()))<|
   .val (bh.f (x0.sent,0,(x0.data.length:Int),())) λc2=>
   .ret ((!c2),())) λ(u3a0,_)=>
  .ite u3a0 (.ret false)<|
  .bnd (β:=Bool×Unit) (.ite x0.finSent (.ite (!x0.fin) (.ret (true,()))<|
    .ret ((x0.sent != (x0.data.length:Int)),()))<|
   .ret (false,())) λ(u4a0,_)=>
  .ite u4a0 (.ret false)<|
  .ite (!x0.done) (.ret true)<|
  .ite x0.fin (.ite (!x0.finSent) (.ret (x0.data==[]))<|
   .ret false)<|
  .ret false
noncomputable def kY:=bM st RI Rf [] (ks:=[.st .sndr]) bi rB Tryz.func376 trivial
def ui:Sh:=⟨[zp 1 0,zi 4,zi 5,zl 45 .piec,zi 46,zi 47],[zg .recv]⟩
def B9:An:=⟨⟨[],[],false,0⟩,⟨[1,2,4],[],false,0⟩,⟨[],[]⟩,[(.normal,⟨[zp 1 0,zb 2,zi 4],[zg .recv]⟩)]⟩
noncomputable def dZ (v0:Int)(v2:List Piec)(v4:Int)(a:Int):Tr (Stp (Int) ((Unit))):=
 .grd (cj v2 v4)<|
 .bnd (β:=Bool×Unit) (.ite ((v2.getD v4.toNat (Ty.zero .piec)).text==[]) (.ret (true,()))<|
  .ite (decide ((v2.getD v4.toNat (Ty.zero .piec)).off≤a)) (.ret (true,()))<|
  .val (IntKind.wrap .i64 (v0-(((v2.getD v4.toNat (Ty.zero .piec)).text).length:Int))) λe6=>
  .ret ((decide (e6<(v2.getD v4.toNat (Ty.zero .piec)).off)),())) λ(u7a0,_)=>
 .ite u7a0 (.ret (.out ()))<|
 .val (IntKind.wrap .i64 ((v2.getD v4.toNat (Ty.zero .piec)).off+(((v2.getD v4.toNat (Ty.zero .piec)).text).length:Int))) λe8=>
 .ret (.next e8)
noncomputable def fa:ui.V→qF ui Int (Unit):=λ(v0,v1,v2,v3,v4,v5,_)=>⟨v4,v1,λv4 a=>(v0,a,v2,v3,v4,v5,()),λv4 _=>(decide (v4<v3)),dZ v0 v2,up,1,(Int.toNat (v3-v4)),.inl,eR,oB .ret ⟨[zp 1 0,zb 2],[zg .recv]⟩ (λ_=>(false,v5,())) (.exit 0) ⟨[zp 1 0,zu 2],[zg .recv]⟩ (λ_=>(v5,()))⟩
theorem EA {v0 v1 v3 v4:Int}{v2:List Piec}{v5:Recv}(h0:0≤v4)(h1:v3≤4611686018427387904)(h2:v0≤32)(h3:0≤v0)(h4:sL j8 v2)(h5:v3≤(v2.length:Int))(h6:0≤v1∧v1≤32∧cX (pw v0) (v2.take v4.toNat)):(fa (v0,v1,v2,v3,v4,v5,())).U v3 (λv4 a=>0≤a∧a≤32∧cX (pw v0) (v2.take v4.toNat)) (λ_=>True):=
 LC.okU (i:=v4) (a:=v1) (λ_ _=>rfl) (λ_=>rfl) rfl h0 h1 h6 λv4 v1 hj hk hv=>by
  refine Tr.G2 ?_ λ_=>Tr.B (Q':=λ_=>True) (Tr.F (by kernel_rfl) trivial) (λ(u7a0,_) _ _=>Tr.I (λ_=>Tr.Ro trivial) λ_=>Tr.V λ_ _=>Tr.Rn ?_)
  all_goals ((try simp only[Tr.nice,iz]at*)<;>grind [←ad2])
noncomputable def bp:FT (Recv×Unit) (Bool) (λx=>ay x.1) (λx v=>(v=true→RO x.1)∧(v=true→cX (pw (aav x.1)) x.1.held)):=⟨λ(x0,_)=>
  .cal bB.c (x0,()) λc1=>
  .bnd (β:=Bool×Unit) (.cal ae.c (x0.next,32,()) λc2=>
   .ite (!c2) (.ret (true,()))<|
   .ite (decide (32<(x0.data.length:Int))) (.ret (true,()))<|
   .ite (decide (3<(x0.held.length:Int))) (.ret (true,()))<|
   .val (bh.f (x0.fin,(-1),c1,())) λc3=>
   .ite (!c3) (.ret (true,()))<|
   .ret ((x0.fin==0),())) λ(u4a0,_)=>
  .ite u4a0 (.ret false)<|
  .bnd (β:=Bool×Int×Recv×Unit) (.ite (x0.fin != (-1)) (.ret (false,x0.fin,x0,()))<|
   .ret (false,c1,x0,())) λ(_,u5a1,u5a2,_)=>
  .lp (fa (u5a1,0,u5a2.held,(u5a2.held.length:Int),0,u5a2,())).lp λw9=> .sum w9 (λ_=>
  .ret false)<|
  λ_=>
  .ite (!u5a2.done) (.ret true)<|
  .ite ((u5a2.held.length:Int)==0) (.ret (u5a2.fin==(-1)))<|
  .ret false,
 λ(x0,_) hp=>by
  refine Tr.C ?_ λc1 hc1 qc1=>Tr.B (Q':=λ_=>True) (Tr.C trivial λc2 hc2 qc2=>Tr.F (by kernel_rfl) trivial) (λ(u4a0,_) hj4 qj4=>Tr.I (λb0=>Tr.R ?_) λb0=>Tr.B (Q':=λw=>ay w.2.2.1∧0≤w.2.1∧w.2.1≤32∧w.2.2.1=x0∧(x0.data.length≤32→w.2.1≤aav x0)) (Tr.I (λb1=>Tr.R ?_) λb1=>Tr.R ?_) (λ(u5a0,u5a1,u5a2,_) hj5 qj5=>Tr.L (EA ?_ ?_ ?_ ?_ ?_ ?_ ?_) (λa9_0 i9=>Tr.Sr (Tr.I (λb1=>Tr.R ?_) λb1=>Tr.I (λb2=>Tr.R ?_) λb2=>Tr.R ?_)) (λ_ hp9=>Tr.Sl (Tr.R ?_))))
  all_goals ((try simp only[fa,LC.lp,LC.ct,Ct.lp,Tr.nice,iz]at*)<;>grind [afs,afP,afW])⟩
noncomputable def sN:=ez st Tryz.func377 [(0,lb [1,4,5,45,46,47] [1,2]),(1000041,B9),(3000002,rA 0 37),(3000011,rA 0 69)] [kW,bX,bG] 0 fa (ks:=[.st .recv]) bp rB
noncomputable def dE:FF (Conn×Unit) (Int):=⟨λ(x0,_)=>
  .ite (x0.opts.mss==0) (.ret 536)<|
  .val (β:=Int) (if 1<(if 1460<x0.opts.mss then 1460 else x0.opts.mss)then(if 1460<x0.opts.mss then 1460 else x0.opts.mss)else 1) λe1=>
  .ret e1⟩
noncomputable def Y3:=lI st Tryz.func379 [] (ks:=[.st .conn]) dE rI
noncomputable def dJ:FT (Sndr×Chun×Unit) (Sndr) (λx=>bS x.1∧rc x.2.1) (λx v=>bS v∧(SO x.1→(x.2.1.text.length:Int)+x.1.sent≤x.1.data.length→x.1.finSent=false→(x.2.1.fin=true→x.1.fin=true∧x.1.done=false∧x.1.sent+x.2.1.text.length=x.1.data.length)→v={x.1 with sent:=x.1.sent+x.2.1.text.length,finSent:=x.2.1.fin})):= .mk λ(x0,x1,_)=>
  .ite x0.finSent (.cal bi.c (x0,()) λc1=>
   .ite (!c1) (.ret x0)<|
   .cal bi.c (({x0 with sent:=(IntKind.wrap .i64 (x0.sent+(x1.text.length:Int))),finSent:=true}:Sndr),()) λc2=>
   .ite (!c2) (.ret x0)<|
   .ite x1.fin (.ite (!x0.fin) (.ret x0)<|
    .ite x0.done (.ret x0)<|
    .ret ({x0 with sent:=(IntKind.wrap .i64 (x0.sent+(x1.text.length:Int))),finSent:=true}:Sndr))<|
   .ret ({x0 with sent:=(IntKind.wrap .i64 (x0.sent+(x1.text.length:Int))),finSent:=true}:Sndr))<|
  .cal bi.c (x0,()) λc3=>
  .ite (!c3) (.ret x0)<|
  .cal bi.c (({x0 with sent:=(IntKind.wrap .i64 (x0.sent+(x1.text.length:Int))),finSent:=x1.fin}:Sndr),()) λc4=>
  .ite (!c4) (.ret x0)<|
  .ite x1.fin (.ite (!x0.fin) (.ret x0)<|
   .ite x0.done (.ret x0)<|
   .ret ({x0 with sent:=(IntKind.wrap .i64 (x0.sent+(x1.text.length:Int))),finSent:=x1.fin}:Sndr))<|
  .ret ({x0 with sent:=(IntKind.wrap .i64 (x0.sent+(x1.text.length:Int))),finSent:=x1.fin}:Sndr)
noncomputable def TV:=a9 st Tryz.func380 [kY] (ks:=[.st .sndr,.st .chun]) dJ (λv=>[(true,uM v)])
def Be:Sh:=⟨[zi 0],[]⟩
noncomputable def uA (a:Int):Tr (Stp (Int) ((Int))):=
 .ite (decide (65536≤a)) (.val (IntKind.wrap .i64 ((IntKind.wrap .i64 (a.tdiv 65536))+(a.tmod 65536))) λe1=>
  .ret (.next e1))<|
 .ret (.out a)
noncomputable def pE:Be.V→LW Be (Int) ((Int)):=λ(v0,_)=>⟨v0,λa=>(a,()),uA,Int.toNat v0,oN (.exit 0) ⟨[zi 0,zu 2],[]⟩ (λp=>(p,()))⟩
theorem OX {v0:Int}(h0:0≤v0∧v0≤9223372036854775807):(pE (v0,())).W (λp=>0≤p∧p≤65535):=
 LW.okW (a:=v0) (λa=>0≤a∧a≤9223372036854775807) (λa=>Int.toNat a) rfl h0 λv0 hv=>by
  refine Tr.I (λb0=>Tr.V λe1 he1=>Tr.Rn ?_) λb0=>Tr.Ro ?_
  all_goals (((try subst_vars);simp only[decide_eq_true_eq,decide_eq_false_iff_not]at*;first|omega|(rw[P5 (by omega) (by omega)];omega)|grind))
noncomputable def DJ:FT (Int×Unit) (Int) (λx=>x.1≤9223372036854775807) (λx v=>0≤v∧v≤65535):= .mk (λ(x0,_)=>
  .ite (decide (x0<0)) (.ret 0)<|
  .lp (pE (x0,())).lp λp2a0=>
  .ret p2a0) (qm @OX)
noncomputable def YO:=NY st Tryz.func382 [(0,lb [0] [0,2])] [] 0 pE (ks:=[.sc (.int .i64)]) DJ rI
def yP:Sh:=⟨[zs 0,zi 3,zi 4],[]⟩
noncomputable def iD (v0:aa)(v2:Int)(a:Int):Tr (Stp (Int) (Empty)):=
 .ite ((v2.tmod 2)==0) (.grd (cj v0 v2)<|
  .val (IntKind.wrap .i64 (a+(IntKind.wrap .i64 ((IntKind.wrap .i64 (ai v0 v2.toNat))*256)))) λe1=>
  .ret (.next e1))<|
 .grd (cj v0 v2)<|
 .ret (.next (IntKind.wrap .i64 (a+(IntKind.wrap .i64 (ai v0 v2.toNat)))))
noncomputable def kB:yP.V→qc yP Int:=λ(v0,v1,v2,_)=>⟨v2,v1,λv2 a=>(v0,a,v2,()),λv2 _=>(decide (v2<(v0.length:Int))),iD v0,up,1,(Int.toNat ((v0.length:Int)-v2)),Empty.elim,Prod.mk,oN (.exit 0) ⟨[zu 2,zi 3],[]⟩ (λx=>(x.2,()))⟩
theorem Km {v0:aa}{v1 v2:Int}(h0:0≤v2)(h1:(v0.length:Int)≤4611686018427387904)(h2:sS v0)(h3:0≤v1∧v1≤65536*v2):(kB (v0,v1,v2,())).U (v0.length:Int) (λv2 a=>0≤a∧a≤65536*v2) (λ_=>True):=
 iT (a:=v1) h0 h1 h3
noncomputable def rS:FT (aa×Unit) (Int) (λx=>sS x.1) (λx v=>0≤v∧v≤281474976710656):=⟨λ(x0,_)=>
  .lp (kB (x0,0,0,())).lp λ(_,a2_0)=>
  .ret a2_0,
 λ(x0,_) hp=>by
  refine Tr.L (Km ?_ ?_ ?_ ?_) (λa2_0 _=>Tr.R ?_) (λp=>Empty.elim p)
  all_goals ((try simp only[kB,LC.lp,LC.ct,Ct.lp]at*)<;>grind)⟩
noncomputable def UB:=ez st Tryz.func383 [(0,lb [0,3,4] [2,3])] [] 0 kB (ks:=[.sc .str]) rS rI
noncomputable def mF:FT (Pack×Unit) (Bool) (λ_=>True) (λx v=>(v=true→x.1.body.length≤1480)):= .mk λ(x0,_)=>
  .cal ae.c (x0.src,32,()) λc1=>
  .ite c1 (.cal ae.c (x0.dst,32,()) λc2=>
   .ite c2 (.val (bh.f (x0.ttl,1,255,())) λc3=>
    .ite c3 (.cal ae.c (x0.proto,8,()) λc4=>
     .ite c4 (.cal ae.c (x0.id,16,()) λc5=>
      .ite c5 (.ret (decide ((x0.body.length:Int)≤1480)))<|
      .ret false)<|
     .ret false)<|
    .ret false)<|
   .ret false)<|
  .ret false
noncomputable def SN:=a9 st Tryz.func384 [bX,bG] (ks:=[.st .pack]) mF rB
noncomputable def bU:FF (Unit) (Opti):=⟨λ_=>
  .ret (⟨0,(-1),false,false,0,0⟩:Opti)⟩
noncomputable def eC:=lI st Tryz.func389 [] (ks:=[]) bU (λv=>[(true,oI v)])
noncomputable def aaQ:=[qh,oG]
noncomputable def aaw:Fx:=⟨390,Tryz.f390,[(3000002,rA 0 8),(3000004,rA 0 22),(3000006,rA 0 35),(3000008,rA 0 44)],0⟩
noncomputable def Jj:FT (Opti×aa×Unit) (Opti) (λx=>sS x.2.1∧0<x.2.1.length) (λ_ _=>True):= .mk λ(x0,x1,_)=>
  .bnd (β:=Bool×Unit) (.grd (decide (0<(x1.length:Int)))<|
   .ite ((ai x1 0)==2) (.ret (((x1.length:Int)==4),()))<|
   .ret (false,())) λ(u1a0,_)=>
  .ite u1a0 (.cal bN.c (x1,2,2,()) λc2=>
   .ret ({x0 with mss:=c2.1}:Opti))<|
  .bnd (β:=Bool×Unit) (.grd (decide (0<(x1.length:Int)))<|
   .ite ((ai x1 0)==3) (.ret (((x1.length:Int)==3),()))<|
   .ret (false,())) λ(u3a0,_)=>
  .ite u3a0 (.grd (decide (2<(x1.length:Int)))<|
   .val (j1.f (14,(IntKind.wrap .i64 (ai x1 2)),())) λc4=>
   .ret ({x0 with scale:=c4}:Opti))<|
  .bnd (β:=Bool×Unit) (.grd (decide (0<(x1.length:Int)))<|
   .ite ((ai x1 0)==4) (.ret (((x1.length:Int)==2),()))<|
   .ret (false,())) λ(u5a0,_)=>
  .ite u5a0 (.ret ({x0 with sack:=true}:Opti))<|
  .bnd (β:=Bool×Unit) (.grd (decide (0<(x1.length:Int)))<|
   .ite ((ai x1 0)==8) (.ret (((x1.length:Int)==10),()))<|
   .ret (false,())) λ(u6a0,_)=>
  .ite u6a0 (.cal bN.c (x1,2,4,()) λc7=>
   .cal bN.c (x1,6,4,()) λc8=>
   .ret ({x0 with stamp:=true,val:=c7.1,echo:=c8.1}:Opti))<|
  .ret x0
noncomputable def ZJ:=bM st aaw aaQ [] (ks:=[.st .opti,.sc .str]) Jj (λv=>[(true,oI v)]) Tryz.func390 trivial
noncomputable def pL:FF (Opti×Unit) (Opti):=⟨λ(x0,_)=>
  .ite x0.stamp (.ret x0)<|
  .val (bU.f (())) λc1=>
  .ret ({c1 with mss:=x0.mss}:Opti)⟩
noncomputable def It:=lI st Tryz.func395 [eC] (ks:=[.st .opti]) pL (λv=>[(true,oI v)])
noncomputable def Rt:FT (List Entr×Int×Unit) (Int×Bool) (λx=>sS x.1) (λ_ _=>True):= .mk λ(x0,x1,_)=>
  .cal AG.c (x0,x1,()) λc1=>
  .ite (decide (c1<0)) (.ret (0,false))<|
  .grd (cj x0 c1)<|
  .ret ((x0.getD c1.toNat (Ty.zero .entr)).hw,true)
noncomputable def abT:=a9 st Tryz.func399 [F7] (ks:=[.sc (.sl .entr),.sc (.int .i64)]) Rt (λv=>[(false,[.c (.int .i64 v.1)]),(false,[.c (.bool v.2)])])
def sY:Sh:=⟨[zs 3],[]⟩
def BT:An:=⟨⟨[],[],false,0⟩,⟨[1,2,3],[],false,0⟩,⟨[],[]⟩,[(.normal,⟨[zp 1 0,zs 2,zs 3],[zx .opti]⟩)]⟩
def A4:An:=⟨⟨[],[],false,0⟩,⟨[1,2,3],[],false,0⟩,⟨[],[]⟩,[(.normal,⟨[zp 1 0,zs 2,zs 3],[zx .opti]⟩)]⟩
def Bd:An:=⟨⟨[],[],false,0⟩,⟨[1,2,3],[],false,0⟩,⟨[],[]⟩,[(.normal,⟨[zp 1 0,zs 2,zs 3],[zx .opti]⟩)]⟩
def A7:An:=⟨⟨[],[],false,0⟩,⟨[2,3],[],false,0⟩,⟨[],[]⟩,[(.normal,⟨[zs 2,zs 3],[]⟩)]⟩
noncomputable def tn (a:aa):Tr (Stp (aa) ((aa))):=
 .ite (((a.length:Int).tmod 4) != 0) (.grd (Nat.ble (a.length+1) aq)<|
  .ret (.next (a++[1])))<|
 .ret (.out a)
noncomputable def jo:sY.V→LW sY (aa) ((aa)):=λ(v0,_)=>⟨v0,λa=>(a,()),tn,(4-v0.length%4)%4,oN (.exit 0) ⟨[zu 2,zs 3],[]⟩ (λp=>(p,()))⟩
theorem Cj {v0:aa}(h0:v0.length+(4-v0.length%4)%4≤20):(jo (v0,())).W (λp=>p.length≤20):=
 lwW (a:=v0) (λa=>a.length+(4-a.length%4)%4≤20) (λa=>(4-a.length%4)%4) h0
noncomputable def pK:FT (Opti×Unit) (aa) (λ_=>True) (λx v=>sS v∧v.length≤20):= .mk (λ(x0,_)=>
  .cal eQ.c (x0,()) λc1=>
  .ite (!c1) (.ret [])<|
  .bnd (β:=aa×aa×Opti×Unit) (.as (λw=>sS w.1∧sS w.2.1∧w.2.1.length≤4) (.ite (x0.mss != 0) (.cal aW.c (x0.mss,2,()) λc2=>
    .grd (Nat.ble (2+c2.length) aq)<|
    .ret ([],([2,4]++c2),x0,()))<|
   .ret ([],[],x0,()))) λ(u3a0,u3a1,u3a2,_)=>
  .bnd (β:=aa×aa×Opti×Unit) (.as (λw=>sS w.1∧sS w.2.1∧w.2.1.length≤7) (.ite (decide (0≤u3a2.scale)) (.grd (Nat.ble (u3a1.length+2) aq)<|
    .cal aW.c (u3a2.scale,1,()) λc4=>
    .grd (Nat.ble ((u3a1++[3,3]).length+c4.length) aq)<|
    .ret (u3a0,((u3a1++[3,3])++c4),u3a2,()))<|
   .ret (u3a0,u3a1,u3a2,()))) λ(u5a0,u5a1,u5a2,_)=>
  .bnd (β:=aa×aa×Opti×Unit) (.as (λw=>sS w.1∧sS w.2.1∧w.2.1.length≤9) (.ite u5a2.sack (.grd (Nat.ble (u5a1.length+2) aq)<|
    .ret (u5a0,(u5a1++[4,2]),u5a2,()))<|
   .ret (u5a0,u5a1,u5a2,()))) λ(u6a0,u6a1,u6a2,_)=>
  .bnd (β:=aa×aa×Unit) (.as (λw=>sS w.1∧sS w.2.1∧w.2.1.length≤19) (.ite u6a2.stamp (.grd (Nat.ble (u6a1.length+2) aq)<|
    .cal aW.c (u6a2.val,4,()) λc7=>
    .grd (Nat.ble ((u6a1++[8,10]).length+c7.length) aq)<|
    .cal aW.c (u6a2.echo,4,()) λc8=>
    .grd (Nat.ble (((u6a1++[8,10])++c7).length+c8.length) aq)<|
    .ret (u6a0,(((u6a1++[8,10])++c7)++c8),()))<|
   .ret (u6a0,u6a1,()))) λ(_,u9a1,_)=>
  .lp (jo (u9a1,())).lp λp10a0=>
  .ret p10a0) (qm @Cj)
noncomputable def IL:=NY st Tryz.func400 [(0,lb [3] [2,3]),(1000009,BT),(1000018,A4),(1000026,Bd),(1000030,A7)] [lD,kC] 0 jo (ks:=[.st .opti]) pK (λv=>[(false,[.c (.str v)])])
noncomputable def C6:FF (Conn×Unit) (Bool):=⟨λ(x0,_)=>
  .ite (!(x0.s.data==[])) (.ret true)<|
  .ite x0.s.fin (.ret (!x0.s.done))<|
  .ret false⟩
noncomputable def Xo:=lI st Tryz.func401 [] (ks:=[.st .conn]) C6 rB
noncomputable def Rv:=[ca,cx]
noncomputable def QO:Fx:=⟨402,Tryz.f402,[(3000001,rA 0 21),(3000003,rA 0 36)],0⟩
noncomputable def fh:FT (Sndr×Unit) (Bool) (λ_=>True) (λx v=>(v=true↔SO x.1)):= .mk λ(x0,_)=>
  .bnd (β:=Bool×Unit) (.cal aI.c (x0.una,32,()) λc1=>
   .ite (!c1) (.ret (true,()))<|
   .ite (decide (48<(x0.data.length:Int))) (.ret (true,()))<|
   .val (bZ.f (x0.sent,0,(x0.data.length:Int),())) λc2=>
   .ret ((!c2),())) λ(u3a0,_)=>
  .ite u3a0 (.ret false)<|
  .bnd (β:=Bool×Unit) (.ite x0.finSent (.ite (!x0.fin) (.ret (true,()))<|
    .ret ((x0.sent != (x0.data.length:Int)),()))<|
   .ret (false,())) λ(u4a0,_)=>
  .ite u4a0 (.ret false)<|
  .ite (!x0.done) (.ret true)<|
  .ite x0.fin (.ite (!x0.finSent) (.ret (x0.data==[]))<|
   .ret false)<|
  .ret false
noncomputable def k7:=bM st QO Rv [] (ks:=[.st .sndr]) fh rB Tryz.func402 trivial
def t9:Sh:=⟨[zp 1 0,zi 3,zi 4,zi 5],[zg .recv]⟩
noncomputable def fb (v0:Int)(v3:Recv)(v2:Int)(a:Int):Tr (Stp (Int) ((Int))):=
 .grd (cj v3.held v2)<|
 .bnd (β:=Bool×Unit) (.ite ((v3.held.getD v2.toNat (Ty.zero .piec)).text==[]) (.ret (true,()))<|
  .ite (decide ((v3.held.getD v2.toNat (Ty.zero .piec)).off≤a)) (.ret (true,()))<|
  .ite (decide (v0<(v3.held.getD v2.toNat (Ty.zero .piec)).off)) (.ret (true,()))<|
  .val (IntKind.wrap .i64 ((v3.held.getD v2.toNat (Ty.zero .piec)).off+(((v3.held.getD v2.toNat (Ty.zero .piec)).text).length:Int))) λe5=>
  .ret ((decide (v0<e5)),())) λ(u6a0,_)=>
 .ite u6a0 (.ret (.out a))<|
 .val (IntKind.wrap .i64 ((v3.held.getD v2.toNat (Ty.zero .piec)).off+(((v3.held.getD v2.toNat (Ty.zero .piec)).text).length:Int))) λe7=>
 .ret (.next e7)
noncomputable def gp:t9.V→qF t9 Int (Int):=λ(v0,v1,v2,v3,_)=>⟨v2,v1,λv2 a=>(v0,a,v2,v3,()),λv2 _=>(decide (v2<(v3.held.length:Int))),fb v0 v3,up,1,(Int.toNat ((v3.held.length:Int)-v2)),.inl,eR,oB .ret ⟨[zp 1 0,zb 2,zi 4],[zg .recv]⟩ (λp=>(false,p,v3,())) (.exit 0) ⟨[zp 1 0,zu 2,zi 4],[zg .recv]⟩ (λx=>(x.2,v3,()))⟩
theorem DF {v0 v1 v2:Int}{v3:Recv}(h0:0≤v2)(h1:(v3.held.length:Int)≤4611686018427387904)(h2:v0≤32)(h3:0≤v0)(h4:ay v3)(h5:0≤v1∧v1≤32∧cX po (v3.held.take v2.toNat)):(gp (v0,v1,v2,v3,())).U (v3.held.length:Int) (λv2 a=>0≤a∧a≤32∧cX po (v3.held.take v2.toNat)) (λ_=>True):=
 LC.okU (i:=v2) (a:=v1) (λ_ _=>rfl) (λ_=>rfl) rfl h0 h1 h5 λv2 v1 hj hk hv=>by
  refine Tr.G2 ?_ λ_=>Tr.B (Q':=λ_=>True) (Tr.F (by kernel_rfl) trivial) (λ(u6a0,_) _ _=>Tr.I (λ_=>Tr.Ro trivial) λ_=>Tr.V λ_ _=>Tr.Rn ?_)
  all_goals ((try simp only[Tr.nice,iz]at*)<;>grind [←ael])
noncomputable def ll:FT (Recv×Unit) (Bool) (λx=>ay x.1) (λx v=>(v=true→RO x.1)):=⟨λ(x0,_)=>
  .cal gN.c (x0,()) λc1=>
  .bnd (β:=Bool×Unit) (.cal aI.c (x0.next,32,()) λc2=>
   .ite (!c2) (.ret (true,()))<|
   .ite (decide (32<(x0.data.length:Int))) (.ret (true,()))<|
   .ite (decide (3<(x0.held.length:Int))) (.ret (true,()))<|
   .val (bZ.f (x0.fin,(-1),c1,())) λc3=>
   .ite (!c3) (.ret (true,()))<|
   .ret ((x0.fin==0),())) λ(u4a0,_)=>
  .ite u4a0 (.ret false)<|
  .lp (gp (c1,0,0,x0,())).lp λw8=> .sum w8 (λ_=>
  .ret false)<|
  λ(_,a8_0)=>
  .ite (decide (x0.fin<0)) (.ite (!x0.done) (.ret true)<|
   .ite ((x0.held.length:Int)==0) (.ret (x0.fin==(-1)))<|
   .ret false)<|
  .ite (decide (a8_0≤x0.fin)) (.ite (!x0.done) (.ret true)<|
   .ite ((x0.held.length:Int)==0) (.ret (x0.fin==(-1)))<|
   .ret false)<|
  .ret false,
 λ(x0,_) hp=>by
  refine Tr.C ?_ λ_ _ _=>Tr.B (Q':=λ_=>True) (Tr.C trivial λ_ _ _=>Tr.F (by kernel_rfl) trivial) (λ(u4a0,_) _ _=>Tr.I (λ_=>Tr.R ?_) λ_=>Tr.L (DF ?_ ?_ ?_ ?_ ?_ ?_) (λa8_0 _=>Tr.Sr (Tr.I (λ_=>Tr.I (λ_=>Tr.R ?_) λ_=>Tr.I (λ_=>Tr.R ?_) λ_=>Tr.R ?_) λ_=>Tr.I (λ_=>Tr.I (λ_=>Tr.R ?_) λ_=>Tr.I (λ_=>Tr.R ?_) λ_=>Tr.R ?_) λ_=>Tr.R ?_)) (λp8a0 _=>Tr.Sl (Tr.R ?_)))
  all_goals ((try simp only[gp,LC.lp,LC.ct,Ct.lp,Tr.nice,iz]at*)<;>grind [afH])⟩
noncomputable def sC:=ez st Tryz.func403 [(0,lb [1,3,4,5] [1,2,4]),(3000002,rA 0 36),(3000009,rA 0 73)] [kX,ca,cx] 0 gp (ks:=[.st .recv]) ll rB
noncomputable def J0:FF (Int×Unit) (Bool):=⟨λ(x0,_)=>
  .ite (x0 != 1) (.ret (x0 != 4))<|
  .ret false⟩
noncomputable def WO:=lI st Tryz.func404 [] (ks:=[.sc (.int .i64)]) J0 rB
noncomputable def Ef:FF (Conn×Unit) (Int):=⟨λ(x0,_)=>
  .ite (x0.opts.mss==0) (.ret 536)<|
  .val (j1.f (1460,x0.opts.mss,())) λc1=>
  .val (fB.f (1,c1,())) λc2=>
  .ret c2⟩
noncomputable def Y1:=lI st Tryz.func407 [oG,mO] (ks:=[.st .conn]) Ef rI
noncomputable def mH:FT (Sndr×Chun×Unit) (Sndr) (λx=>bS x.1∧rc x.2.1) (λx v=>bS v∧(SO x.1→(x.2.1.text.length:Int)+x.1.sent≤x.1.data.length→x.1.finSent=false→(x.2.1.fin=true→x.1.fin=true∧x.1.done=false∧x.1.sent+x.2.1.text.length=x.1.data.length)→v={x.1 with sent:=x.1.sent+x.2.1.text.length,finSent:=x.2.1.fin})):= .mk λ(x0,x1,_)=>
  .ite x0.finSent (.cal fh.c (x0,()) λc1=>
   .ite (!c1) (.ret x0)<|
   .cal fh.c (({x0 with sent:=(IntKind.wrap .i64 (x0.sent+(x1.text.length:Int))),finSent:=true}:Sndr),()) λc2=>
   .ite (!c2) (.ret x0)<|
   .ite x1.fin (.ite x0.done (.ret x0)<|
    .ret ({x0 with sent:=(IntKind.wrap .i64 (x0.sent+(x1.text.length:Int))),finSent:=true}:Sndr))<|
   .ret ({x0 with sent:=(IntKind.wrap .i64 (x0.sent+(x1.text.length:Int))),finSent:=true}:Sndr))<|
  .cal fh.c (x0,()) λc3=>
  .ite (!c3) (.ret x0)<|
  .cal fh.c (({x0 with sent:=(IntKind.wrap .i64 (x0.sent+(x1.text.length:Int))),finSent:=x1.fin}:Sndr),()) λc4=>
  .ite (!c4) (.ret x0)<|
  .ite x1.fin (.ite x0.done (.ret x0)<|
   .ret ({x0 with sent:=(IntKind.wrap .i64 (x0.sent+(x1.text.length:Int))),finSent:=x1.fin}:Sndr))<|
  .ret ({x0 with sent:=(IntKind.wrap .i64 (x0.sent+(x1.text.length:Int))),finSent:=x1.fin}:Sndr)
noncomputable def HF:=a9 st Tryz.func408 [k7] (ks:=[.st .sndr,.st .chun]) mH (λv=>[(true,uM v)])
def qL:Sh:=⟨[zp 2 0,zp 3 1,zi 5],[zg .recv,zg .recv]⟩
noncomputable def qE (v1 v2:Recv)(v0:Int)(a:Unit):Tr (Stp (Unit) ((Unit))):=
 .grd (cj v1.held v0)<|
 .grd (cj v2.held v0)<|
 .ite (!(((v1.held.getD v0.toNat (Ty.zero .piec)).off==(v2.held.getD v0.toNat (Ty.zero .piec)).off)&&(((v1.held.getD v0.toNat (Ty.zero .piec)).text==(v2.held.getD v0.toNat (Ty.zero .piec)).text)&&true))) (.ret (.out ()))<|
 .ret (.next ())
noncomputable def gZ:qL.V→qF qL Unit (Unit):=λ(v0,v1,v2,_)=>⟨v0,(),λv0 _=>(v0,v1,v2,()),λv0 _=>(decide (v0<(v1.held.length:Int))),qE v1 v2,up,1,(Int.toNat ((v1.held.length:Int)-v0)),.inl,eR,oB .ret ⟨[zb 4],[]⟩ (λ_=>(false,())) (.exit 0) ⟨[zu 4],[]⟩ (λ_=>())⟩
theorem A3 {v0:Int}{v1 v2:Recv}(h0:0≤v0)(h1:(v1.held.length:Int)≤4611686018427387904)(h2:(v1.held.length:Int)≤(v2.held.length:Int)):(gZ (v0,v1,v2,())).U (v1.held.length:Int) (λ_ _=>True) (λ_=>True):=
 iT h0 h1 trivial
noncomputable def nT:FT (Recv×Recv×Unit) (Bool) (λx=>ay x.1∧ay x.2.1) (λ_ _=>True):= .mk (λ(x0,x1,_)=>
  .bnd (β:=Bool×Unit) (.ite (x0.next != x1.next) (.ret (true,()))<|
   .ite (!(x0.data==x1.data)) (.ret (true,()))<|
   .ite (x0.fin != x1.fin) (.ret (true,()))<|
   .ite (!(x0.done==x1.done)) (.ret (true,()))<|
   .ret (((x0.held.length:Int) != (x1.held.length:Int)),())) λ(u1a0,_)=>
  .ite u1a0 (.ret false)<|
  .lp (gZ (0,x0,x1,())).lp λw2=> .sum w2 (λ_=>
  .ret false)<|
  λ_=>
  .ret true) (qm @A3)
noncomputable def F6:=ez st Tryz.func409 [(0,lb [2,3,5] [4]),(3000001,rA 0 40)] [] 0 gZ (ks:=[.st .recv,.st .recv]) nT rB
noncomputable def xi:FF (Int×Int×Unit) (Sipr):=⟨λ(x0,x1,_)=>
  .ret (⟨(bits .xor .u64 x0 8317987319222330741),(bits .xor .u64 x1 7237128888997146477),(bits .xor .u64 x0 7816392313619706465),(bits .xor .u64 x1 8387220255154660723)⟩:Sipr)⟩
noncomputable def QQ:=lI st Tryz.func410 [] (ks:=[.sc (.int .u64),.sc (.int .u64)]) xi (λv=>[(true,Fb v)])
def BE:Sh:=⟨[zs 0,(3,false,[.int .u64]),zi 4],[]⟩
noncomputable def OQ (v0:aa)(v2:Int)(a:Int):Tr (Stp (Int) (Empty)):=
 .grd (cj v0 v2)<|
 .val (bits .or .u64 (IntKind.wrap .u64 (a*256)) (IntKind.wrap .u64 (ai v0 v2.toNat))) λe1=>
 .ret (.next e1)
noncomputable def pQ:BE.V→qc BE Int:=λ(v0,v1,v2,_)=>⟨v2,v1,λv2 a=>(v0,a,v2,()),λv2 _=>(decide (0≤v2)),OQ v0,dn,(-1),(Int.toNat (v2-0+1)),Empty.elim,Prod.mk,oN (.exit 0) ⟨[zu 2,(3,false,[.int .u64])],[]⟩ (λx=>(x.2,()))⟩
theorem NE {v0:aa}{v1 v2:Int}(h0:v2≤9223372036854775807)(h1:v2<(v0.length:Int)):(pQ (v0,v1,v2,())).D 0 (λv2 a=>v2<(v0.length:Int)) (λ_=>True):=
 lcD (a:=v1) h0 (by decide) h1
noncomputable def sU:FT (aa×Unit) (Int) (λx=>sS x.1) (λ_ _=>True):= .mk (λ(x0,_)=>
  .lp (pQ (x0,0,(IntKind.wrap .i64 ((x0.length:Int)-1)),())).lp λ(_,a2_0)=>
  .ret a2_0) (qm @NE)
noncomputable def YY:=ez st Tryz.func412 [(0,lb [0,3,4] [2,3])] [] 0 pQ (ks:=[.sc .str]) sU (λv=>[(false,[.c (.int .u64 v)])])
noncomputable def yM:FT (Int×Opti×Unit) (Int) (λ_=>True) (λ_ _=>True):= .mk λ(x0,x1,_)=>
  .grd (decide (0≤(if x1.scale<0 then 0 else x1.scale)))<|
  .val (IntKind.wrap .i64 (x0*2 ^ (min (if x1.scale<0 then 0 else x1.scale).toNat 64))) λe1=>
  .ret (if 1073725440<e1 then 1073725440 else e1)
noncomputable def JU:=a9 st Tryz.func419 [] (ks:=[.sc (.int .i64),.st .opti]) yM rI
noncomputable def dr:FT (Sndr×Unit) (Int) (λx=>bS x.1) (λx v=>(0≤x.1.sent∧x.1.sent≤1000→x.1.sent≤v∧v≤x.1.sent+1)):= .mk λ(x0,_)=>
  .ite x0.finSent (.ret (IntKind.wrap .i64 (x0.sent+1)))<|
  .ret x0.sent
noncomputable def sO:=a9 st Tryz.func420 [] (ks:=[.st .sndr]) dr rI
noncomputable def jJ:FT (Int×Unit) (Recv) (λ_=>True) (λx v=>ay v):= .mk λ(x0,_)=>
  .val (bR.f (x0,0,())) λc1=>
  .ret (⟨c1,[],[],(-1),false⟩:Recv)
noncomputable def H5:=a9 st Tryz.func425 [gO] (ks:=[.sc (.int .i64)]) jJ (λv=>[(true,uy (.o true) v)])
noncomputable def VQ:=[bX]
noncomputable def Vr:Fx:=⟨426,Tryz.f426,[(3000001,rA 0 13)],0⟩
noncomputable def mT:FT (Int×Unit) (Int×Bool×Bool) (λ_=>True) (λ_ _=>True):= .mk λ(x0,_)=>
  .bnd (β:=Bool×Unit) (.cal ae.c (x0,32,()) λc1=>
   .ite (!c1) (.ret (true,()))<|
   .ret (((bits .and .i64 x0 32)==0),())) λ(u2a0,_)=>
  .ite u2a0 (.ret ((-1),false,false))<|
  .ite ((bits .and .i64 x0 15)==15) (.ret ((-1),((bits .and .i64 x0 16) != 0),true))<|
  .ret ((bits .and .i64 x0 15),((bits .and .i64 x0 16) != 0),true)
noncomputable def Tg:=bM st Vr VQ [] (ks:=[.sc (.int .i64)]) mT (λv=>[(false,[.c (.int .i64 v.1)]),(false,[.c (.bool v.2.1)]),(false,[.c (.bool v.2.2)])]) Tryz.func426 trivial
noncomputable def Aq:FT (Fram×Unit) (Bool) (λ_=>True) (λx v=>(v=true→x.1.body.length≤1586)):= .mk λ(x0,_)=>
  .cal aI.c (x0.dst,48,()) λc1=>
  .ite c1 (.cal aI.c (x0.src,48,()) λc2=>
   .ite c2 (.val (bZ.f (x0.type,1536,65535,())) λc3=>
    .ite c3 (.ret (decide ((x0.body.length:Int)≤1586)))<|
    .ret false)<|
   .ret false)<|
  .ret false
noncomputable def U5:=a9 st Tryz.func428 [ca,cx] (ks:=[.st .fram]) Aq rB
noncomputable def gI:FT (Sndr×Unit) (Int) (λx=>bS x.1) (λx v=>(0≤x.1.sent∧x.1.sent≤1000→x.1.sent≤v∧v≤x.1.sent+1)):= .mk λ(x0,_)=>
  .ite x0.finSent (.ret (IntKind.wrap .i64 (x0.sent+1)))<|
  .ret x0.sent
noncomputable def jt:=a9 st Tryz.func445 [] (ks:=[.st .sndr]) gI rI
noncomputable def wX:FT (Pack×Unit) (Bool) (λ_=>True) (λx v=>(v=true→x.1.body.length≤1480)):= .mk λ(x0,_)=>
  .cal aI.c (x0.src,32,()) λc1=>
  .ite c1 (.cal aI.c (x0.dst,32,()) λc2=>
   .ite c2 (.val (bZ.f (x0.ttl,1,255,())) λc3=>
    .ite c3 (.cal aI.c (x0.proto,8,()) λc4=>
     .ite c4 (.cal aI.c (x0.id,16,()) λc5=>
      .ite c5 (.ret (decide ((x0.body.length:Int)≤1480)))<|
      .ret false)<|
     .ret false)<|
    .ret false)<|
   .ret false)<|
  .ret false
noncomputable def RX:=a9 st Tryz.func447 [ca,cx] (ks:=[.st .pack]) wX rB
noncomputable def DP:FF (Conn×Unit) (Bool):=⟨λ(x0,_)=>
  .ite (!(x0.s.data==[])) (.ret true)<|
  .ite x0.s.fin (.ret (!x0.s.done))<|
  .ret false⟩
noncomputable def YS:=lI st Tryz.func449 [] (ks:=[.st .conn]) DP rB
noncomputable def Ee:FT (Arpm×Unit) (Bool) (λ_=>True) (λ_ _=>True):= .mk λ(x0,_)=>
  .val (bZ.f (x0.kind,1,2,())) λc1=>
  .ite c1 (.cal aI.c (x0.srcHw,48,()) λc2=>
   .ite c2 (.cal aI.c (x0.dstHw,48,()) λc3=>
    .ite c3 (.cal aI.c (x0.srcIp,32,()) λc4=>
     .ite c4 (.cal aI.c (x0.dstIp,32,()) λc5=>
      .ret c5)<|
     .ret false)<|
    .ret false)<|
   .ret false)<|
  .ret false
noncomputable def Pm:=a9 st Tryz.func450 [cx,ca] (ks:=[.st .arpm]) Ee rB
def BO:Sh:=⟨[zi 0],[]⟩
noncomputable def uK (a:Int):Tr (Stp (Int) ((Int))):=
 .ite (decide (65535<a)) (.val (IntKind.wrap .i64 ((IntKind.wrap .i64 (a.tdiv 65536))+(a.tmod 65536))) λe1=>
  .ret (.next e1))<|
 .ret (.out a)
noncomputable def pH:BO.V→LW BO (Int) ((Int)):=λ(v0,_)=>⟨v0,λa=>(a,()),uK,Int.toNat v0,oN (.exit 0) ⟨[zi 0,zu 2],[]⟩ (λp=>(p,()))⟩
theorem Ox {v0:Int}(h0:0≤v0∧v0≤9223372036854775807):(pH (v0,())).W (λp=>0≤p∧p≤65535):=
 LW.okW (a:=v0) (λa=>0≤a∧a≤9223372036854775807) (λa=>Int.toNat a) rfl h0 λv0 hv=>by
  refine Tr.I (λb0=>Tr.V λe1 he1=>Tr.Rn ?_) λb0=>Tr.Ro ?_
  all_goals (((try subst_vars);simp only[decide_eq_true_eq,decide_eq_false_iff_not]at*;first|omega|(rw[P5 (by omega) (by omega)];omega)|grind))
noncomputable def D4:FT (Int×Unit) (Int) (λx=>x.1≤9223372036854775807) (λx v=>0≤v∧v≤65535):= .mk (λ(x0,_)=>
  .ite (decide (x0<0)) (.ret 0)<|
  .lp (pH (x0,())).lp λp2a0=>
  .ret p2a0) (qm @Ox)
noncomputable def XC:=NY st Tryz.func451 [(0,lb [0] [0,2])] [] 0 pH (ks:=[.sc (.int .i64)]) D4 rI
def zO:Sh:=⟨[zs 0,zi 3,zi 4],[]⟩
noncomputable def ib (v0:aa)(v2:Int)(a:Int):Tr (Stp (Int) (Empty)):=
 .grd (cj v0 v2)<|
 .val (IntKind.wrap .i64 (a+(IntKind.wrap .i64 (256*(IntKind.wrap .i64 (ai v0 v2.toNat)))))) λe1=>
 .ite (decide ((IntKind.wrap .i64 (v2+1))<(v0.length:Int))) (.grd (cj v0 (IntKind.wrap .i64 (v2+1)))<|
  .val (IntKind.wrap .i64 (e1+(IntKind.wrap .i64 (ai v0 ((IntKind.wrap .i64 (v2+1)).toNat))))) λe2=>
  .ret (.next e2))<|
 .ret (.next e1)
noncomputable def dW:zO.V→qc zO Int:=λ(v0,v1,v2,_)=>⟨v2,v1,λv2 a=>(v0,a,v2,()),λv2 _=>(decide (v2<(v0.length:Int))),ib v0,λv2=>IntKind.wrap .i64 (v2+2),2,(Int.toNat (((v0.length:Int)-v2+1)/2)),Empty.elim,Prod.mk,oN (.exit 0) ⟨[zu 2,zi 3],[]⟩ (λx=>(x.2,()))⟩
theorem KN {v0:aa}{v1 v2:Int}(h0:0≤v2)(h1:(v0.length:Int)≤4611686018427387904)(h2:sS v0)(h3:0≤v1∧v1≤65536*v2):(dW (v0,v1,v2,())).S (λv2 a=>0≤a∧a≤65536*v2) (λ_=>True):=by
 refine LC.okS h3 (λj a hj hv=>⟨⟨?_, ?_⟩, ?_⟩) (λa hv=> ?_)
 ·simp only[dW,decide_eq_true_eq]at*;omega
 ·simp only[dW]at*;exact am (by omega) (by omega)
 ·refine Tr.G2 ?_ λ_=>Tr.V λ_ _=>Tr.I (λ_=>Tr.G2 ?_ λ_=>Tr.V λ_ _=>Tr.Rn ?_) λ_=>Tr.Rn ?_
  all_goals (try simp only[dW]at*)<;>(grind)
 ·simp only[dW,decide_eq_false_iff_not]at*;omega
noncomputable def Ad:FT (aa×Unit) (Int) (λx=>sS x.1) (λx v=>0≤v∧v≤281474976710656):=⟨λ(x0,_)=>
  .lp (dW (x0,0,0,())).lp λ(_,a3_0)=>
  .ret a3_0,
 λ(x0,_) hp=>by
  refine Tr.L (KN ?_ ?_ ?_ ?_) (λa3_0 _=>Tr.R ?_) (λp=>Empty.elim p)
  all_goals ((try simp only[dW,LC.lp,LC.ct,Ct.lp]at*)<;>grind)⟩
noncomputable def Tt:=ez st Tryz.func452 [(0,lb [0,3,4] [2,3])] [] 0 dW (ks:=[.sc .str]) Ad rI
noncomputable def i5:FT (Segm×Unit) (Int) (λx=>ao x.1) (λx v=>0≤v∧v≤x.1.body.length+2):= .mk λ(x0,_)=>
  .val (gW.f (x0,2,())) λc1=>
  .ite c1 (.val (gW.f (x0,1,())) λc2=>
   .ite c2 (.val (IntKind.wrap .i64 ((IntKind.wrap .i64 ((x0.body.length:Int)+1))+1)) λe3=>
    .ret e3)<|
   .ret (IntKind.wrap .i64 ((x0.body.length:Int)+1)))<|
  .val (gW.f (x0,1,())) λc4=>
  .ite c4 (.ret (IntKind.wrap .i64 ((x0.body.length:Int)+1)))<|
  .ret (x0.body.length:Int)
noncomputable def sZ:=a9 st Tryz.func453 [Ax] (ks:=[.st .segm]) i5 rI
noncomputable def lM:FT (Int×Unit) (Recv) (λ_=>True) (λx v=>ay v∧v.held.length≤3):= .mk λ(x0,_)=>
  .val (bK.f (x0,())) λc1=>
  .ret (⟨c1,[],[],(-1),false⟩:Recv)
noncomputable def ya:=a9 st Tryz.func456 [gJ] (ks:=[.sc (.int .i64)]) lM (λv=>[(true,uy (.o true) v)])
noncomputable def Eo:FT (Int×Unit) (Int) (λ_=>True) (λ_ _=>True):= .mk λ(x0,_)=>
  .val (bZ.f (x0,0,7,())) λc1=>
  .ite (!c1) (.ret 0)<|
  .grd ((decide (0≤x0))&&(decide (x0<8)))<|
  .ret ([64,256,536,1024,1300,1400,1440,1460].getD x0.toNat 0)
noncomputable def Qf:=a9 st Tryz.func457 [cx] (ks:=[.sc (.int .i64)]) Eo rI
noncomputable def VH:=[ca]
noncomputable def V0:Fx:=⟨458,Tryz.f458,[(3000001,rA 0 13)],0⟩
noncomputable def AL:FT (Int×Unit) (Int×Bool×Bool) (λ_=>True) (λ_ _=>True):= .mk λ(x0,_)=>
  .bnd (β:=Bool×Unit) (.cal aI.c (x0,32,()) λc1=>
   .ite (!c1) (.ret (true,()))<|
   .ret (((bits .and .i64 x0 32)==0),())) λ(u2a0,_)=>
  .ite u2a0 (.ret ((-1),false,false))<|
  .ite ((x0.tmod 16)==15) (.ret ((-1),((bits .and .i64 x0 16) != 0),true))<|
  .ret ((x0.tmod 16),((bits .and .i64 x0 16) != 0),true)
noncomputable def T9:=bM st V0 VH [] (ks:=[.sc (.int .i64)]) AL (λv=>[(false,[.c (.int .i64 v.1)]),(false,[.c (.bool v.2.1)]),(false,[.c (.bool v.2.2)])]) Tryz.func458 trivial
noncomputable def tP:FF (Int×Int×Unit) (Int):=⟨λ(x0,x1,_)=>
  .ret (bits .and .i64 (IntKind.wrap .i64 (x0-x1)) 4294967295)⟩
@[grind=] theorem UL (a b:Int):tP.f (a,b,())=(a-b)%4294967296:=by
 simp only[tP,FF.f,Tr.nice]
 rw[sB,df];omega
noncomputable def Fa:=lI st Tryz.func461 [] (ks:=[.sc (.int .i64),.sc (.int .i64)]) tP rI
noncomputable def rJ:FF (Int×Int×Unit) (Int):=⟨λ(x0,x1,_)=>
  .val (IntKind.wrap .i32 (IntKind.wrap .u32 ((IntKind.wrap .u32 x0)-(IntKind.wrap .u32 x1)))) λe1=>
  .ret (IntKind.wrap .i64 e1)⟩
noncomputable def yo:=lI st Tryz.func462 [] (ks:=[.sc (.int .i64),.sc (.int .i64)]) rJ rI
noncomputable def pu:FF (Int×Int×Bool×Unit) (Int):=⟨λ(x0,x1,x2,_)=>
  .ite x2 (.val (IntKind.wrap .i64 ((IntKind.wrap .i64 ((IntKind.wrap .i64 (x0*64))+32))+16)) λe1=>
   .val (bh.f (x1,0,14,())) λc2=>
   .ite (!c2) (.ret (bits .and .i64 (IntKind.wrap .i64 (e1+15)) 4294967295))<|
   .ret (bits .and .i64 (IntKind.wrap .i64 (e1+x1)) 4294967295))<|
  .val (bh.f (x1,0,14,())) λc3=>
  .ite (!c3) (.val (IntKind.wrap .i64 ((IntKind.wrap .i64 ((IntKind.wrap .i64 (x0*64))+32))+15)) λe4=>
   .ret (bits .and .i64 e4 4294967295))<|
  .val (IntKind.wrap .i64 ((IntKind.wrap .i64 ((IntKind.wrap .i64 (x0*64))+32))+x1)) λe5=>
  .ret (bits .and .i64 e5 4294967295)⟩
noncomputable def Vh:=lI st Tryz.func466 [bG] (ks:=[.sc (.int .i64),.sc (.int .i64),.sc .bool]) pu rI
noncomputable def yt:FT (Int×Unit) (aa) (λx=>0≤x.1∧x.1≤1048576) (λx v=>sS v):= .mk λ(x0,_)=>
  .grd ((((decide (0≤x0))&&(decide (x0=x0)))&&(decide (x0*1≤(bo:Int))))&&(decide (x0≤(bo:Int))))<|
  .ret (aw (List.replicate x0.toNat 0))
noncomputable def xf:=a9 st Tryz.func474 [] (ks:=[.sc (.int .i64)]) yt (λv=>[(false,[.c (.str v)])])
def xR:Sh:=⟨[zi 0,zi 3,zi 4],[]⟩
noncomputable def x9 (v0:Int)(v2:Int)(a:Int):Tr (Stp (Int) (Empty)):=
 .cal Eo.c (v2,()) λc1=>
 .ite (decide (c1≤v0)) (.ret (.next v2))<|
 .ret (.next a)
noncomputable def mj:xR.V→qc xR Int:=λ(v0,v1,v2,_)=>⟨v2,v1,λv2 a=>(v0,a,v2,()),λv2 _=>(decide (v2<8)),x9 v0,up,1,(Int.toNat (8-v2)),Empty.elim,Prod.mk,oN (.exit 0) ⟨[zu 2,zi 3],[]⟩ (λx=>(x.2,()))⟩
theorem HN {v0 v1 v2:Int}(h0:0≤v2):(mj (v0,v1,v2,())).U 8 (λ_ _=>True) (λ_=>True):=
 iT (a:=v1) h0 (by decide) trivial
noncomputable def vQ:FT (Int×Unit) (Int) (λ_=>True) (λ_ _=>True):= .mk (λ(x0,_)=>
  .lp (mj (x0,0,0,())).lp λ(_,a2_0)=>
  .ret a2_0) (qm @HN)
noncomputable def Ss:=ez st Tryz.func477 [(0,lb [0,3,4] [2,3])] [Qf] 0 mj (ks:=[.sc (.int .i64)]) vQ rI
noncomputable def UD:=[cx,gJ]
def Lj:An:=⟨⟨[],[],false,0⟩,⟨[0,1,6,7],[],false,0⟩,⟨[],[]⟩,[(.normal,⟨[zi 0,zi 1,zi 6,zi 7],[]⟩)]⟩
noncomputable def UF:Fx:=⟨478,Tryz.f478,[(1000008,Lj)],0⟩
noncomputable def Al:FF (Int×Int×Bool×Unit) (Int):=⟨λ(x0,x1,x2,_)=>
  .bnd (β:=Int×Int×Int×Int×Unit) (.ite x2 (.ret (x0,x1,0,48,()))<|
   .ret (x0,x1,0,32,())) λ(u1a0,u1a1,_,u1a3,_)=>
  .val (bZ.f (u1a1,0,14,())) λc2=>
  .ite c2 (.val (bK.f (u1a0,())) λc3=>
   .val (IntKind.wrap .i64 ((IntKind.wrap .i64 (c3*64))+(IntKind.wrap .i64 (u1a3+u1a1)))) λe4=>
   .val (bK.f (e4,())) λc5=>
   .ret c5)<|
  .val (bK.f (u1a0,())) λc6=>
  .val (IntKind.wrap .i64 ((IntKind.wrap .i64 (c6*64))+(IntKind.wrap .i64 (u1a3+15)))) λe7=>
  .val (bK.f (e7,())) λc8=>
  .ret c8⟩
noncomputable def Wn:=Zc st UF UD [] (ks:=[.sc (.int .i64),.sc (.int .i64),.sc .bool]) Al rI Tryz.func478 trivial
noncomputable def oW:FF (Int×Int×Int×Unit) (Bool):=⟨λ(x0,x1,x2,_)=>
  .ite (decide (0<x2)) (.val (bK.f (x0,())) λc1=>
   .val (bK.f (x1,())) λc2=>
   .val (bK.f ((IntKind.wrap .i64 (c1-c2)),())) λc3=>
   .ret (decide (c3<x2)))<|
  .ret false⟩
noncomputable def xh:=lI st Tryz.func479 [gJ] (ks:=[.sc (.int .i64),.sc (.int .i64),.sc (.int .i64)]) oW rB
noncomputable def lq:FT (Int×Int×Unit) (Int) (λx=>0≤x.2.1) (λ_ _=>True):= .mk λ(x0,x1,_)=>
  .grd (decide (0≤x1))<|
  .grd (decide (0≤(IntKind.wrap .u64 (64-x1))))<|
  .val (bits .or .u64 (IntKind.wrap .u64 (x0*2 ^ (min x1.toNat 64))) (x0.fdiv (2 ^ (min (IntKind.wrap .u64 (64-x1)).toNat 64)))) λe1=>
  .ret e1
noncomputable def TP:=a9 st Tryz.func485 [] (ks:=[.sc (.int .u64),.sc (.int .u64)]) lq (λv=>[(false,[.c (.int .u64 v)])])
noncomputable def tj:FF (Int×Int×Unit) (Sipr):=⟨λ(x0,x1,_)=>
  .ret (⟨(bits .xor .u64 x0 8317987319222330741),(bits .xor .u64 x1 7237128888997146477),(bits .xor .u64 x0 7816392313619706465),(bits .xor .u64 x1 8387220255154660723)⟩:Sipr)⟩
noncomputable def SQ:=lI st Tryz.func486 [] (ks:=[.sc (.int .u64),.sc (.int .u64)]) tj (λv=>[(true,Fb v)])
def Bx:Sh:=⟨[zl 0 .u8,(3,false,[.int .u64]),zi 4],[]⟩
noncomputable def NP (v0:List Int)(v2:Int)(a:Int):Tr (Stp (Int) (Empty)):=
 .grd (cj v0 v2)<|
 .val (bits .or .u64 (IntKind.wrap .u64 (a*256)) (IntKind.wrap .u64 (v0.getD v2.toNat 0))) λe1=>
 .ret (.next e1)
noncomputable def pP:Bx.V→qc Bx Int:=λ(v0,v1,v2,_)=>⟨v2,v1,λv2 a=>(v0,a,v2,()),λv2 _=>(decide (0≤v2)),NP v0,dn,(-1),(Int.toNat (v2-0+1)),Empty.elim,Prod.mk,oN (.exit 0) ⟨[zu 2,(3,false,[.int .u64])],[]⟩ (λx=>(x.2,()))⟩
theorem OY {v0:List Int}{v1 v2:Int}(h0:v2≤9223372036854775807)(h1:v2<(v0.length:Int)):(pP (v0,v1,v2,())).D 0 (λv2 a=>v2<(v0.length:Int)) (λ_=>True):=
 lcD (a:=v1) h0 (by decide) h1
noncomputable def tq:FT (List Int×Unit) (Int) (λx=>sS x.1∧8≤x.1.length) (λ_ _=>True):= .mk (λ(x0,_)=>
  .lp (pP (x0,0,7,())).lp λ(_,a2_0)=>
  .ret a2_0) (qm @OY)
noncomputable def XD:=ez st Tryz.func488 [(0,lb [0,3,4] [2,3])] [] 0 pP (ks:=[.sc (.sl .u8)]) tq (λv=>[(false,[.c (.int .u64 v)])])
def tR:Sh:=⟨[zl 0 .bool,zb 1,zi 7,zi 8],[]⟩
noncomputable def tV (v0:List Bool)(v1:Bool)(v3:Int)(a:Unit):Tr (Stp (Unit) ((Int))):=
 .grd (cj v0 v3)<|
 .ite (v1==(v0.getD v3.toNat false)) (.ret (.out v3))<|
 .ret (.next ())
noncomputable def jZ:tR.V→qF tR Unit (Int):=λ(v0,v1,v2,v3,_)=>⟨v3,(),λv3 _=>(v0,v1,v2,v3,()),λv3 _=>(decide (v3<v2)),tV v0 v1,up,1,(Int.toNat (v2-v3)),.inl,eR,oB .ret ⟨[zi 4],[]⟩ (λp=>(p,())) (.exit 0) ⟨[zu 4],[]⟩ (λ_=>())⟩
theorem Ed {v0:List Bool}{v1:Bool}{v2 v3:Int}(h0:0≤v3)(h1:v2≤4611686018427387904)(h2:v2≤(v0.length:Int)):(jZ (v0,v1,v2,v3,())).U v2 (λ_ _=>True) (λp=>v3≤p∧p<v2):=
 iT h0 h1 trivial
noncomputable def ri:FT (List Bool×Bool×Unit) (Int) (λx=>wS x.1) (λx v=> -1≤v∧v<x.1.length):= .mk (λ(x0,x1,_)=>
  .lp (jZ (x0,x1,(x0.length:Int),0,())).lp λw1=> .sum w1 (λp1a0=>
  .ret p1a0)<|
  λ_=>
  .ret (-1)) (qm @Ed)
noncomputable def JV:=ez st Tryz.func490 [(0,lb [0,1,7,8] [4])] [] 0 jZ (ks:=[.sc (.sl .bool),.sc .bool]) ri rI
noncomputable def rK:FF (Int×Int×Unit) (Int):=⟨λ(x0,x1,_)=>
  .val (bK.f (x0,())) λc1=>
  .val (bK.f (x1,())) λc2=>
  .val (bK.f ((IntKind.wrap .i64 (c1-c2)),())) λc3=>
  .ite (decide (2147483647<c3)) (.ret (IntKind.wrap .i64 (c3-4294967296)))<|
  .ret c3⟩
noncomputable def yL:=lI st Tryz.func494 [gJ] (ks:=[.sc (.int .i64),.sc (.int .i64)]) rK rI
noncomputable def rf:List (Ent1 Tryz.prog):=[]
def mh:Sh:=⟨[zp 1 0,zo 3 1,zi 4],[zg .recv,za .i64]⟩
def jY:Sh:=⟨[zp 1 0,zo 3 1,zi 5,zi 6],[zg .recv,za .i64]⟩
def lY:Sh:=⟨[zp 1 0,zo 3 1,zi 5],[zg .recv,za .i64]⟩
noncomputable def q0:Fx:=⟨496,Tryz.f496,[(0,lb [1,3,4] [1,2,3]),(4,lb [1,3,5,6] [1,2,3,5]),(2,lb [1,3,5] [2,3])],0⟩
noncomputable def xP (v0:Int)(a:List Int):Tr (Stp (List Int) (Empty)):=
 .grd (cj a v0)<|
 .ret (.next (a.set v0.toNat (-1)))
noncomputable def cu:mh.V→qc mh (List Int):=λ(v0,v1,v2,_)=>⟨v0,v2,λv0 a=>(v0,v1,a,()),λv0 a=>(decide (v0<(a.length:Int))),xP,up,1,(Int.toNat ((v2.length:Int)-v0)),Empty.elim,Prod.mk,oN (.exit 0) ⟨[zp 1 0,zu 2,zo 3 1],[zg .recv,za .i64]⟩ (λx=>(v1,x.2,()))⟩
theorem Ir:LS Tryz.prog q0 [0] (fv 0 mh cu):=cI st (aH rf) _ cu [] trivial
theorem HX {v0:Int}{v1:Recv}{v2:List Int}(h0:0≤v0)(h1:(v2.length:Int)≤4611686018427387904)(h2:sS v2)(h3:v2.length=v2.length):(cu (v0,v1,v2,())).S (λv0 a=>a.length=v2.length∧a.length=v2.length) (λ_=>True):=by
 refine LC.okS ⟨rfl,h3⟩ (λj a hj hv=>⟨⟨?_, ?_⟩, ?_⟩) (λa hv=> ?_)
 ·simp only[cu,decide_eq_true_eq]at*;omega
 ·simp only[cu]at*;exact upw (by omega) (by omega)
 ·refine Tr.G2 ?_ λ_=>Tr.Rn ?_
  all_goals (try simp only[cu]at*)<;>(grind)
 ·simp only[cu,decide_eq_false_iff_not]at*;omega
noncomputable def nm (vb0:Int)(vb2:Recv)(a:Int×List Int):Tr (Stp (Int×List Int) ((List Int))):=
 .grd (cj vb2.held vb0)<|
 .ite (decide (a.1<(((vb2.held.getD vb0.toNat (Ty.zero .piec)).text).length:Int))) (.grd (cj vb2.held vb0)<|
  .val (IntKind.wrap .i64 ((vb2.held.getD vb0.toNat (Ty.zero .piec)).off+a.1)) λe2=>
  .grd (cj vb2.held vb0)<|
  .grd (cj ((vb2.held.getD vb0.toNat (Ty.zero .piec)).text) a.1)<|
  .val (IntKind.wrap .i64 (ai ((vb2.held.getD vb0.toNat (Ty.zero .piec)).text) a.1.toNat)) λe3=>
  .grd (cj a.2 e2)<|
  .ret (.next ((IntKind.wrap .i64 (a.1+1)),(a.2.set e2.toNat e3))))<|
 .ret (.out a.2)
noncomputable def dX:jY.V→LW jY (Int×List Int) ((List Int)):=λ(vb0,vb1,vb2,vb3,_)=>⟨(vb1,vb3),λa=>(vb0,a.1,vb2,a.2,()),nm vb0 vb2,Int.toNat (((vb2.held.getD vb0.toNat (Ty.zero .piec)).text.length:Int)-vb1),oN (.exit 4) ⟨[zp 1 0,zu 2,zo 3 1,zi 5],[zg .recv,za .i64]⟩ (λp=>(vb0,vb2,p,()))⟩
theorem DT:LS Tryz.prog q0 [1,0] (leW 4 jY dX):=Ux st (aH rf) _ dX [] trivial
theorem CZ {vb0 vb1:Int}{vb2:Recv}{vb3:List Int}(h0:0≤vb0)(h1:vb0<(vb2.held.length:Int))(h2:cX po vb2.held)(h3:ay vb2)(h4:0≤vb1∧vb3.length=33):(dX (vb0,vb1,vb2,vb3,())).W (λp=>p.length=33):=
 LW.okW (a:=(vb1,vb3)) (λa=>0≤a.1∧a.2.length=33) (λa=>Int.toNat (((vb2.held.getD vb0.toNat (Ty.zero .piec)).text.length:Int)-a.1)) rfl h4 λ(vb1,vb3) hv=>by
  refine Tr.G2 ?_ λg0=>Tr.I (λb1=>Tr.G2 ?_ λg2=>Tr.V λe2 he2=>Tr.G2 ?_ λg3=>Tr.G2 ?_ λg4=>Tr.V λe3 he3=>Tr.G2 ?_ λg5=>Tr.Rn ?_) λb1=>Tr.Ro ?_
  all_goals ((have hp:=afV (i:=vb0.toNat) h2 (by omega);simp only[po]at hp;grind))
noncomputable def xT (v1:Recv)(v0:Int)(a:List Int):Tr (Stp (List Int) (Empty)):=
 .lp (dX (v0,0,v1,a,())).lp λp4a0=>
 .ret (.next p4a0)
noncomputable def fc:lY.V→qc lY (List Int):=λ(v0,v1,v2,_)=>⟨v0,v2,λv0 a=>(v0,v1,a,()),λv0 _=>(decide (v0<(v1.held.length:Int))),xT v1,up,1,(Int.toNat ((v1.held.length:Int)-v0)),Empty.elim,Prod.mk,oN (.exit 2) ⟨[zu 2,zo 3 0],[za .i64]⟩ (λx=>(x.2,()))⟩
theorem H8:LS Tryz.prog q0 [1] (fv 2 lY fc):=cI st (aH rf) _ fc [(leW 4 jY dX)] ⟨DT,trivial⟩
theorem I3 {v0:Int}{v1:Recv}{v2:List Int}(h0:0≤v0)(h1:(v1.held.length:Int)≤4611686018427387904)(h2:cX po v1.held)(h3:ay v1)(h4:v2.length=33):(fc (v0,v1,v2,())).U (v1.held.length:Int) (λv0 a=>a.length=33) (λ_=>True):=
 LC.okU (i:=v0) (a:=v2) (λ_ _=>rfl) (λ_=>rfl) rfl h0 h1 h4 λv0 v2 hj hk hv=>by
  refine Tr.L (CZ ?_ ?_ ?_ ?_ ?_) (λa=>Empty.elim a) (λp4a0 _=>Tr.Rn ?_)
  all_goals ((try simp only[dX,LW.lp,LW.cw,Cw.lp]at*)<;>grind)
noncomputable def vS:FT (Recv×Unit) (List Int) (λx=>ay x.1∧cX po x.1.held) (λx v=>sS v∧v.length=33):=⟨λ(x0,_)=>
  .lp (cu (0,x0,(List.replicate 33 0),())).lp λ(_,a1_0)=>
  .lp (fc (0,x0,a1_0,())).lp λ(_,a5_0)=>
  .ret a5_0,
 λ(x0,_) hp=>by
  refine Tr.L (HX ?_ ?_ ?_ ?_) (λa1_0 _=>Tr.L (I3 ?_ ?_ ?_ ?_ ?_) (λa5_0 _=>Tr.R ?_) (λp=>Empty.elim p)) (λp=>Empty.elim p)
  all_goals ((try simp only[cu,fc,LC.lp,LC.ct,Ct.lp]at*)<;>grind)⟩
noncomputable def RS:=bM st q0 rf [(fv 0 mh cu),(fv 2 lY fc)] (ks:=[.st .recv]) vS (λv=>[(false,[sc (.o true) .i64 v])]) Tryz.func496 ⟨Ir,H8,trivial⟩
def y8:Sh:=⟨[zl 0 .i64,zi 5],[]⟩
noncomputable def oj (v0:List Int)(v1:Int)(a:Unit):Tr (Stp (Unit) ((Unit))):=
 .grd (cj v0 v1)<|
 .ite (decide (0≤(v0.getD v1.toNat 0))) (.ret (.out ()))<|
 .ret (.next ())
noncomputable def ne:y8.V→qF y8 Unit (Unit):=λ(v0,v1,_)=>⟨v1,(),λv1 _=>(v0,v1,()),λv1 _=>(decide (v1<(v0.length:Int))),oj v0,up,1,(Int.toNat ((v0.length:Int)-v1)),.inl,eR,oB .ret ⟨[zb 4],[]⟩ (λ_=>(false,())) (.exit 0) ⟨[zu 4],[]⟩ (λ_=>())⟩
theorem Ly {v0:List Int}{v1:Int}(h0:0≤v1)(h1:(v0.length:Int)≤4611686018427387904):(ne (v0,v1,())).U (v0.length:Int) (λ_ _=>True) (λ_=>True):=
 iT h0 h1 trivial
noncomputable def vq:FT (List Int×Int×Unit) (Bool) (λx=>sS x.1∧0≤x.2.1) (λ_ _=>True):= .mk (λ(x0,x1,_)=>
  .lp (ne (x0,x1,())).lp λw1=> .sum w1 (λ_=>
  .ret false)<|
  λ_=>
  .ret true) (qm @Ly)
noncomputable def Vy:=ez st Tryz.func497 [(0,lb [0,5] [4])] [] 0 ne (ks:=[.sc (.sl .i64),.sc (.int .i64)]) vq rB
def vA:Sh:=⟨[zl 0 .i64,zi 1,zo 5 0,zi 6],[za .piec]⟩
noncomputable def cH (v0:List Int)(v1:Int)(v2:Int)(a:List Piec):Tr (Stp (List Piec) (Empty)):=
 .grd (cj v0 v2)<|
 .ite (decide ((v0.getD v2.toNat 0)<0)) (.ret (.next a))<|
 .bnd (β:=Bool×Unit) (.ite (decide (0<(a.length:Int))) (.grd (cj a (IntKind.wrap .i64 ((a.length:Int)-1)))<|
   .val ((a.getD (IntKind.wrap .i64 ((a.length:Int)-1)).toNat (Ty.zero .piec)).off) λe1=>
   .grd (cj a (IntKind.wrap .i64 ((a.length:Int)-1)))<|
   .val ((a.getD (IntKind.wrap .i64 ((a.length:Int)-1)).toNat (Ty.zero .piec)).text) λe2=>
   .ret (((IntKind.wrap .i64 (e1+(e2.length:Int)))==(IntKind.wrap .i64 (v2-v1))),()))<|
  .ret (false,())) λ(u3a0,_)=>
 .ite u3a0 (.grd (cj a (IntKind.wrap .i64 ((a.length:Int)-1)))<|
  .val ((a.getD (IntKind.wrap .i64 ((a.length:Int)-1)).toNat (Ty.zero .piec)).text) λe4=>
  .grd (cj v0 v2)<|
  .grd (Nat.ble (e4.length+(aw [(IntKind.wrap .u8 (v0.getD v2.toNat 0))]).length) aq)<|
  .grd (cj a (IntKind.wrap .i64 ((a.length:Int)-1)))<|
  .val (a.set (IntKind.wrap .i64 ((a.length:Int)-1)).toNat (⟨(a.getD (IntKind.wrap .i64 ((a.length:Int)-1)).toNat (Ty.zero .piec)).off,(e4++(aw [(IntKind.wrap .u8 (v0.getD v2.toNat 0))]))⟩:Piec)) λl5=>
  .ret (.next l5))<|
 .grd (cj v0 v2)<|
 .grd (qq a 1 24)<|
 .val (a++[(⟨(IntKind.wrap .i64 (v2-v1)),(aw [(IntKind.wrap .u8 (v0.getD v2.toNat 0))])⟩:Piec)]) λl6=>
 .ret (.next l6)
noncomputable def ii:vA.V→qc vA (List Piec):=λ(v0,v1,v2,v3,_)=>⟨v2,v3,λv2 a=>(v0,v1,v2,a,()),λv2 _=>(decide (v2<(v0.length:Int))),cH v0 v1,up,1,(Int.toNat ((v0.length:Int)-v2)),Empty.elim,Prod.mk,oN (.exit 0) ⟨[zu 4,zo 5 0],[za .piec]⟩ (λx=>(x.2,()))⟩
theorem Gi {v0:List Int}{v1 v2:Int}{v3:List Piec}(h0:0≤v2)(h1:(v0.length:Int)≤4611686018427387904)(h2:sS v0)(h3:(v3.length:Int)≤v2∧cX (pl v2) v3):(ii (v0,v1,v2,v3,())).U (v0.length:Int) (λv2 a=>(a.length:Int)≤v2∧cX (pl v2) a) (λ_=>True):=
 LC.okU (i:=v2) (a:=v3) (λ_ _=>rfl) (λ_=>rfl) rfl h0 h1 h3 λv2 v3 hj hk hv=>by
  refine Tr.G2 ?_ λg0=>Tr.I (λb1=>Tr.Rn ?_) λb1=>Tr.B (Q':=λw=>(w.1=true→0<v3.length)) (Tr.I (λb2=>Tr.G2 ?_ λg3=>Tr.V λe1 he1=>Tr.G2 ?_ λg4=>Tr.V λe2 he2=>Tr.R ?_) λb2=>Tr.R ?_) (λ(u3a0,_) hj3 qj3=>Tr.I (λb2=>Tr.G2 ?_ λg3=>Tr.V λe4 he4=>Tr.G2 ?_ λg4=>Tr.Gb ?_ λg5=>Tr.G2 ?_ λg6=>Tr.V λl5 hl5=>Tr.Rn ?_) λb2=>Tr.G2 ?_ λg3=>Tr.Gb ?_ λg4=>Tr.V λl6 hl6=>Tr.Rn ?_)
  all_goals ((try simp only[Tr.nice,iz]at*)<;>(have hp:=ae8 hv.2 (show(0:Int)≤v2 by omega);have hu:=afX hv.2;have hw:0<v3.length→IntKind.wrap .i64 ((v3.length:Int)-1)=v3.length-1:=λh=>am (by omega) (by simp only[sS]at h2;omega);have hq:=hp (IntKind.wrap .i64 ((v3.length:Int)-1)).toNat;(try rw[←he4]at hq);clear hj hp;first|omega|(simp only[bA,List.length_cons,List.length_nil,aq,sS]at*;omega)|(subst hl5;exact⟨by rw[List.length_set];omega,afG hu (by simp only[pl,List.length_append,bA,List.length_cons,List.length_nil];omega)⟩)|(subst hl6;exact⟨by simp only[List.length_append,List.length_cons,List.length_nil];omega,adV hu (by simp only[pl,bA,List.length_cons,List.length_nil];omega)⟩)|grind))
noncomputable def qp:FT (List Int×Int×Unit) (List Piec) (λx=>sS x.1∧0≤x.2.1∧x.2.1≤4294967296) (λx v=>sL j8 v):=⟨λ(x0,x1,_)=>
  .lp (ii (x0,x1,x1,[],())).lp λ(_,a7_0)=>
  .ret a7_0,
 λ(x0,x1,_) hp=>by
  refine Tr.L (Gi ?_ ?_ ?_ ?_) (λa7_0 i7=>Tr.R ?_) (λp=>Empty.elim p)
  all_goals ((try simp only[ii,LC.lp,LC.ct,Ct.lp]at*)<;>grind [af0])⟩
noncomputable def OL:=ez st Tryz.func498 [(0,lb [0,1,5,6] [4,5]),(3000007,rA 0 44)] [] 0 ii (ks:=[.sc (.sl .i64),.sc (.int .i64)]) qp (λv=>[(false,[sc (.o true) .piec v])])
noncomputable def Ry:List (Ent1 Tryz.prog):=[]
def Iv:An:=⟨⟨[],[],false,0⟩,⟨[1,2],[],false,0⟩,⟨[],[]⟩,[(.ret,⟨[zp 1 0,zi 2],[zg .conn]⟩),(.normal,⟨[zp 1 0,zi 2],[zg .conn]⟩)]⟩
noncomputable def R1:Fx:=⟨499,Tryz.f499,[(1000005,Iv),(3000006,rA 0 12)],0⟩
noncomputable def xl:FT (Conn×Unit) (Int) (λx=>ac x.1) (λ_ _=>True):= .mk λ(x0,_)=>
  .bnd (β:=(Int×Conn×Unit)⊕(Int×Conn×Unit)) (.as (Sum.elim (λw=>ac w.2.1) (λw=>ac w.2.1)) (.ite (x0.state==1) (.ite x0.r.done (.ret (.inl (4,x0,())))<|
    .ret (.inr ((0,x0,()))))<|
   .ite (x0.state==2) (.bnd (β:=Bool×Unit) (.ite x0.s.done (.ret (x0.r.done,()))<|
     .ret (false,())) λ(u1a0,_)=>
    .ite u1a0 (.ret (.inl (7,x0,())))<|
    .ite x0.s.done (.ret (.inl (3,x0,())))<|
    .ite x0.r.done (.ret (.inl (5,x0,())))<|
    .ret (.inr ((0,x0,()))))<|
   .ite (x0.state==3) (.ite x0.r.done (.ret (.inl (7,x0,())))<|
    .ret (.inr ((0,x0,()))))<|
   .ite (x0.state==5) (.ite x0.s.done (.ret (.inl (7,x0,())))<|
    .ret (.inr ((0,x0,()))))<|
   .ite (x0.state==6) (.ite x0.s.done (.ret (.inl (8,x0,())))<|
    .ret (.inr ((0,x0,()))))<|
   .ret (.inr ((0,x0,()))))) λw2=> .sum w2 (λ(u2a0,_,_)=>
  .ret u2a0)<|
  λ(_,u2b1,_)=>
  .ret u2b1.state
noncomputable def Sg:=bM st R1 Ry [] (ks:=[.st .conn]) xl rI Tryz.func499 trivial
noncomputable def du:FT (Int×Int×Unit) (Int) (λ_=>True) (λ_ _=>True):= .mk λ(x0,x1,_)=>
  .grd (decide (0≤(bits .and .u64 (IntKind.wrap .u64 x1) 63)))<|
  .val (IntKind.wrap .u64 (x0*2 ^ (min (bits .and .u64 (IntKind.wrap .u64 x1) 63).toNat 64))) λe1=>
  .grd (decide (0≤(IntKind.wrap .u64 (64-(bits .and .u64 (IntKind.wrap .u64 x1) 63)))))<|
  .val (x0.fdiv (2 ^ (min (IntKind.wrap .u64 (64-(bits .and .u64 (IntKind.wrap .u64 x1) 63))).toNat 64))) λe2=>
  .ret (bits .or .u64 e1 e2)
noncomputable def D1:=a9 st Tryz.func504 [] (ks:=[.sc (.int .u64),.sc (.int .i64)]) du (λv=>[(false,[.c (.int .u64 v)])])
noncomputable def rg:FT (Resu×Resu×Unit) (Bool) (λx=>eb x.1∧eb x.2.1) (λ_ _=>True):= .mk λ(x0,x1,_)=>
  .cal nk.c (x0.frames,x1.frames,()) λc1=>
  .ite c1 (.ite (x0.made==x1.made) (.ite ((x0.tuple.ip==x1.tuple.ip)&&((x0.tuple.port==x1.tuple.port)&&((x0.tuple.my==x1.tuple.my)&&true))) (.ite (x0.n==x1.n) (.ite (x0.text==x1.text) (.ret (x0.ok==x1.ok))<|
      .ret false)<|
     .ret false)<|
    .ret false)<|
   .ret false)<|
  .ret false
noncomputable def M0:=a9 st Tryz.func16 [Fg] (ks:=[.st .resu,.st .resu]) rg rB
noncomputable def iJ:FT (Limi×Unit) (Int) (λ_=>True) (λ_ _=>True):= .mk λ(x0,_)=>
  .cal fo.c (x0,()) λc1=>
  .ite (!c1) (.ret 0)<|
  .val (IntKind.wrap .i64 ((IntKind.wrap .i64 (64*x0.halves))+(IntKind.wrap .i64 (240*x0.conns)))) λe2=>
  .ret (IntKind.wrap .i64 (e2+(IntKind.wrap .i64 (8*x0.waiting))))
noncomputable def FR:=a9 st Tryz.func22 [C2] (ks:=[.st .limi]) iJ rI
noncomputable def iA:FT (List Tupl×Tupl×Unit) (Bool) (λx=>sS x.1) (λ_ _=>True):= .mk λ(x0,x1,_)=>
  .cal lz.c (x0,x1,()) λc1=>
  .ret (decide (0≤c1))
noncomputable def rT:=a9 st Tryz.func60 [xO] (ks:=[.sc (.sl .tupl),.st .tupl]) iA rB
noncomputable def fK:FT (Mac×Mac×Unit) (Bool) (λx=>dT x.1∧dT x.2.1) (λ_ _=>True):= .mk λ(x0,x1,_)=>
  .ite (x0.use==x1.use) (.ite (x0.k==x1.k) (.ite (x0.l==x1.l) (.cal nR.c (x0.rows,x1.rows,()) λc1=>
     .ret c1)<|
    .ret false)<|
   .ret false)<|
  .ret false
noncomputable def GK:=a9 st Tryz.func76 [Gd] (ks:=[.st .mac,.st .mac]) fK rB
noncomputable def aG:FT (Tupl×Unit) (Bool) (λ_=>True) (λ_ _=>True):= .mk λ(x0,_)=>
  .cal ae.c (x0.ip,32,()) λc1=>
  .ite c1 (.cal ae.c (x0.port,16,()) λc2=>
   .ite c2 (.cal ae.c (x0.my,16,()) λc3=>
    .ret c3)<|
   .ret false)<|
  .ret false
noncomputable def mM:=a9 st Tryz.func77 [bX] (ks:=[.st .tupl]) aG rB
noncomputable def lg:FT (Tupl×Unit) (Bool) (λ_=>True) (λ_ _=>True):= .mk λ(x0,_)=>
  .cal aI.c (x0.ip,32,()) λc1=>
  .ite c1 (.cal aI.c (x0.port,16,()) λc2=>
   .ite c2 (.cal aI.c (x0.my,16,()) λc3=>
    .ret c3)<|
   .ret false)<|
  .ret false
noncomputable def pX:=a9 st Tryz.func81 [ca] (ks:=[.st .tupl]) lg rB
noncomputable def pI:FT (Int×Unit) (Int×Int×Int) (λ_=>True) (λ_ _=>True):= .mk λ(x0,_)=>
  .cal aI.c (x0,32,()) λc1=>
  .ite (!c1) (.ret ((-1),(-1),(-1)))<|
  .ret ((IntKind.wrap .i64 (x0.tdiv 134217728)),((IntKind.wrap .i64 (x0.tdiv 16777216)).tmod 8),(x0.tmod 16777216))
noncomputable def HZ:=a9 st Tryz.func90 [ca] (ks:=[.sc (.int .i64)]) pI (λv=>[(false,[.c (.int .i64 v.1)]),(false,[.c (.int .i64 v.2.1)]),(false,[.c (.int .i64 v.2.2)])])
noncomputable def W9:=[ca,FL,z6]
noncomputable def YA:Fx:=⟨91,Tryz.f91,[(3000001,rA 0 18)],0⟩
noncomputable def vF:FT (Keys×Unit) (Bool) (λx=>cC x.1) (λx v=>(v=true→0≤x.1.epoch∧x.1.epoch≤4294967295)):= .mk λ(x0,_)=>
  .bnd (β:=Bool×Unit) (.as (λw=>(w.1=false→x0.now.rows.length≤64∧x0.before.rows.length≤64)) (.cal aI.c (x0.epoch,32,()) λc1=>
   .ite (!c1) (.ret (true,()))<|
   .cal uk.c (x0.now,()) λc2=>
   .ite (!c2) (.ret (true,()))<|
   .cal uk.c (x0.before,()) λc3=>
   .ret ((!c3),()))) λ(u4a0,_)=>
  .ite u4a0 (.ret false)<|
  .ite x0.two (.ret (decide (1≤x0.epoch)))<|
  .cal jS.c (x0.before,(⟨false,0,0,[]⟩:Mac),()) λc5=>
  .ret c5
noncomputable def Cp:=bM st YA W9 [] (ks:=[.st .keys]) vF rB Tryz.func91 trivial
noncomputable def Sd:=[zF]
noncomputable def Sv:Fx:=⟨92,Tryz.f92,[(3000003,rA 0 14)],0⟩
noncomputable def wx:FT (Keys×Int×Unit) (Mac×Bool) (λx=>cC x.1) (λx v=>dT v.1):= .mk λ(x0,x1,_)=>
  .ite (x1==x0.epoch) (.cal lc.c (x0.now,()) λc1=>
   .ret (c1,true))<|
  .bnd (β:=Bool×Unit) (.ite x0.two (.ret ((x1==(IntKind.wrap .i64 (x0.epoch-1))),()))<|
   .ret (false,())) λ(u2a0,_)=>
  .ite u2a0 (.cal lc.c (x0.before,()) λc3=>
   .ret (c3,true))<|
  .ret ((⟨false,0,0,[]⟩:Mac),false)
noncomputable def RK:=bM st Sv Sd [] (ks:=[.st .keys,.sc (.int .i64)]) wx (λv=>[(true,Ms (.o true) v.1),(false,[.c (.bool v.2)])]) Tryz.func92 trivial
noncomputable def bT:FF (Int×Int×Unit) (Int):=⟨λ(x0,x1,_)=>
  .val (bK.f (x0,())) λc1=>
  .val (bK.f (x1,())) λc2=>
  .val (bK.f ((IntKind.wrap .i64 (c1+c2)),())) λc3=>
  .ret c3⟩
noncomputable def dR:=lI st Tryz.func119 [gJ] (ks:=[.sc (.int .i64),.sc (.int .i64)]) bT rI
noncomputable def mK:FT (Link×Unit) (Link) (λx=>ec x.1) (λx v=>ec v):= .mk λ(x0,_)=>
  .cal gH.c (x0.cache,()) λc1=>
  .ret ({x0 with cache:=c1}:Link)
noncomputable def BF:=a9 st Tryz.func136 [xI] (ks:=[.st .link]) mK (λv=>[(true,B4 (.o true) v)])
noncomputable def Uk:=[GO,Cp,FL,zF]
noncomputable def UA:Fx:=⟨165,Tryz.f165,[(3000002,rA 0 20)],0⟩
noncomputable def Ak:FT (Keys×Mac×Unit) (Keys) (λx=>cC x.1∧dT x.2.1) (λx v=>cC v):= .mk λ(x0,x1,_)=>
  .cal vr.c (x0,()) λc1=>
  .bnd (β:=Bool×Unit) (.as (λw=>(w.1=false→0≤x0.epoch∧x0.epoch≤4294967295∧x1.rows.length≤64)) (.cal vF.c (x0,()) λc2=>
   .ite (!c2) (.ret (true,()))<|
   .cal uk.c (x1,()) λc3=>
   .ite (!c3) (.ret (true,()))<|
   .ret ((x0.epoch==4294967295),()))) λ(u4a0,_)=>
  .ite u4a0 (.ret c1)<|
  .cal lc.c (x1,()) λc5=>
  .cal lc.c (x0.now,()) λc6=>
  .ret (⟨(IntKind.wrap .i64 (x0.epoch+1)),c5,c6,true⟩:Keys)
noncomputable def WI:=bM st UA Uk [] (ks:=[.st .keys,.st .mac]) Ak (λv=>[(true,B5 (.o true) (.o true) v)]) Tryz.func165 trivial
noncomputable def dH:FT (Conn×Unit) (Conn) (λx=>ac x.1) (λx v=>ac v∧v=x.1):=⟨λ(x0,_)=>
  .cal d7.c (x0.r,()) λc1=>
  .ret ({x0 with r.next:=c1.next,r.data:=c1.data,r.held:=c1.held,r.fin:=c1.fin,r.done:=c1.done}:Conn),
 λ(x0,_) hp=>by
  refine Tr.C ?_ λc1 hc1 qc1=>Tr.R ?_
  all_goals ((first|grind|(refine⟨by grind, ?_⟩;first|(simp only[List.nil_append];done)|(subst_vars;rfl)|simp_all)))⟩
noncomputable def dD:=a9 st Tryz.func168 [zB] (ks:=[.st .conn]) dH (λv=>[(true,fg (.o true) v)])
def zd:Sh:=⟨[zl 0 .entr,zi 3],[]⟩
noncomputable def sV (v0:List Entr)(v1:Int)(a:Unit):Tr (Stp (Unit) ((Unit))):=
 .grd (cj v0 v1)<|
 .cal aI.c ((v0.getD v1.toNat (Ty.zero .entr)).ip,32,()) λc1=>
 .ite (!c1) (.ret (.out ()))<|
 .cal aI.c ((v0.getD v1.toNat (Ty.zero .entr)).hw,48,()) λc2=>
 .ite (!c2) (.ret (.out ()))<|
 .val (bZ.f ((v0.getD v1.toNat (Ty.zero .entr)).age,0,9,())) λc3=>
 .ite (!c3) (.ret (.out ()))<|
 .grd ((decide (0≤v1))&&(decide (v1≤(v0.length:Int))))<|
 .cal AG.c (((v0.take v1.toNat).drop 0),(v0.getD v1.toNat (Ty.zero .entr)).ip,()) λc4=>
 .ite (decide (0≤c4)) (.ret (.out ()))<|
 .ret (.next ())
noncomputable def nH:zd.V→qF zd Unit (Unit):=λ(v0,v1,_)=>⟨v1,(),λv1 _=>(v0,v1,()),λv1 _=>(decide (v1<(v0.length:Int))),sV v0,up,1,(Int.toNat ((v0.length:Int)-v1)),.inl,eR,oB .ret ⟨[zl 0 .entr,zb 2],[]⟩ (λ_=>(v0,false,())) (.exit 0) ⟨[zl 0 .entr,zu 2],[]⟩ (λ_=>(v0,()))⟩
theorem KE {v0:List Entr}{v1:Int}(h0:0≤v1)(h1:(v0.length:Int)≤4611686018427387904)(h2:sS v0):(nH (v0,v1,())).U (v0.length:Int) (λ_ _=>True) (λ_=>True):=
 iT h0 h1 trivial
noncomputable def u9:FT (List Entr×Unit) (Bool) (λx=>sS x.1) (λx v=>(v=true→x.1.length≤4)):= .mk (λ(x0,_)=>
  .lp (nH (x0,0,())).lp λw5=> .sum w5 (λ_=>
  .ret false)<|
  λ_=>
  .ret (decide ((x0.length:Int)≤4))) (qm @KE)
noncomputable def Hu:=ez st Tryz.func181 [(0,lb [0,3] [0,2])] [ca,cx,F7] 0 nH (ks:=[.sc (.sl .entr)]) u9 rB
def xW:Sh:=⟨[zl 0 .half,zi 3],[]⟩
noncomputable def fp (v0:List Half)(v1:Int)(a:Unit):Tr (Stp (Unit) ((Unit))):=
 .grd (cj v0 v1)<|
 .cal lg.c ((v0.getD v1.toNat (Ty.zero .half)).tuple,()) λc1=>
 .ite (!c1) (.ret (.out ()))<|
 .cal aI.c ((v0.getD v1.toNat (Ty.zero .half)).iss,32,()) λc2=>
 .ite (!c2) (.ret (.out ()))<|
 .cal aI.c ((v0.getD v1.toNat (Ty.zero .half)).irs,32,()) λc3=>
 .ite (!c3) (.ret (.out ()))<|
 .cal aI.c ((v0.getD v1.toNat (Ty.zero .half)).window,16,()) λc4=>
 .ite (!c4) (.ret (.out ()))<|
 .cal eQ.c ((v0.getD v1.toNat (Ty.zero .half)).opts,()) λc5=>
 .ite (!c5) (.ret (.out ()))<|
 .val (bZ.f ((v0.getD v1.toNat (Ty.zero .half)).age,0,6,())) λc6=>
 .ite (!c6) (.ret (.out ()))<|
 .grd ((decide (0≤v1))&&(decide (v1≤(v0.length:Int))))<|
 .cal ju.c (((v0.take v1.toNat).drop 0),(v0.getD v1.toNat (Ty.zero .half)).tuple,()) λc7=>
 .ite (decide (0≤c7)) (.ret (.out ()))<|
 .ret (.next ())
noncomputable def jB:xW.V→qF xW Unit (Unit):=λ(v0,v1,_)=>⟨v1,(),λv1 _=>(v0,v1,()),λv1 _=>(decide (v1<(v0.length:Int))),fp v0,up,1,(Int.toNat ((v0.length:Int)-v1)),.inl,eR,oB .ret ⟨[zl 0 .half,zb 2],[]⟩ (λ_=>(v0,false,())) (.exit 0) ⟨[zl 0 .half,zu 2],[]⟩ (λ_=>(v0,()))⟩
theorem Il {v0:List Half}{v1:Int}(h0:0≤v1)(h1:(v0.length:Int)≤4611686018427387904)(h2:wS v0):(jB (v0,v1,())).U (v0.length:Int) (λ_ _=>True) (λ_=>True):=
 iT h0 h1 trivial
noncomputable def pr:FT (List Half×Unit) (Bool) (λx=>wS x.1) (λx v=>(v=true→x.1.length≤64)):= .mk (λ(x0,_)=>
  .lp (jB (x0,0,())).lp λw8=> .sum w8 (λ_=>
  .ret false)<|
  λ_=>
  .ret (decide ((x0.length:Int)≤64))) (qm @Il)
noncomputable def ER:=ez st Tryz.func183 [(0,lb [0,3] [0,2])] [pX,ca,lD,cx,ot] 0 jB (ks:=[.sc (.sl .half)]) pr rB
def yA:Sh:=⟨[zl 0 .entr,zl 10 .entr,zi 11,zi 12],[]⟩
noncomputable def eU (v0 v1:List Entr)(v3:Int)(a:Unit):Tr (Stp (Unit) ((Unit))):=
 .grd (cj v1 v3)<|
 .bnd (β:=Bool×Unit) (.cal ae.c ((v1.getD v3.toNat (Ty.zero .entr)).ip,32,()) λc1=>
  .ite (!c1) (.ret (true,()))<|
  .cal ae.c ((v1.getD v3.toNat (Ty.zero .entr)).hw,48,()) λc2=>
  .ite (!c2) (.ret (true,()))<|
  .val (bh.f ((v1.getD v3.toNat (Ty.zero .entr)).age,0,9,())) λc3=>
  .ret ((!c3),())) λ(u4a0,_)=>
 .ite u4a0 (.ret (.out ()))<|
 .grd ((decide (0≤v3))&&(decide (v3≤(v0.length:Int))))<|
 .cal B2.c (((v0.take v3.toNat).drop 0),(v1.getD v3.toNat (Ty.zero .entr)).ip,()) λc5=>
 .ite c5.2 (.ret (.out ()))<|
 .ret (.next ())
noncomputable def ko:yA.V→qF yA Unit (Unit):=λ(v0,v1,v2,v3,_)=>⟨v3,(),λv3 _=>(v0,v1,v2,v3,()),λv3 _=>(decide (v3<v2)),eU v0 v1,up,1,(Int.toNat (v2-v3)),.inl,eR,oB .ret ⟨[zb 2],[]⟩ (λ_=>(false,())) (.exit 0) ⟨[zu 2],[]⟩ (λ_=>())⟩
theorem Lk {v0 v1:List Entr}{v2 v3:Int}(h0:0≤v3)(h1:v2≤4611686018427387904)(h2:sS v0)(h3:sS v1)(h4:v2≤(v1.length:Int))(h5:v2≤(v0.length:Int)):(ko (v0,v1,v2,v3,())).U v2 (λ_ _=>True) (λ_=>True):=
 iT h0 h1 trivial
noncomputable def gf:FT (List Entr×Unit) (Bool) (λx=>sS x.1) (λx v=>(v=true→x.1.length≤4)):= .mk (λ(x0,_)=>
  .ite (decide (4<(x0.length:Int))) (.ret false)<|
  .lp (ko (x0,x0,(x0.length:Int),0,())).lp λw6=> .sum w6 (λ_=>
  .ret false)<|
  λ_=>
  .ret true) (qm @Lk)
noncomputable def G6:=ez st Tryz.func184 [(0,lb [0,10,11,12] [2]),(3000006,rA 0 32)] [bX,bG,WK] 0 ko (ks:=[.sc (.sl .entr)]) gf rB
noncomputable def QX:=[pX,ca,cx,kC]
noncomputable def Q0:Fx:=⟨194,Tryz.f194,[(3000001,rA 0 26)],0⟩
noncomputable def vX:FT (Tupl×Int×Int×Int×Unit) (aa) (λ_=>True) (λx v=>sS v∧v.length≤40):=⟨λ(x0,x1,x2,x3,_)=>
  .bnd (β:=Bool×Unit) (.cal lg.c (x0,()) λc1=>
   .ite (!c1) (.ret (true,()))<|
   .cal aI.c (x1,32,()) λc2=>
   .ite (!c2) (.ret (true,()))<|
   .cal aI.c (x2,32,()) λc3=>
   .ite (!c3) (.ret (true,()))<|
   .val (bZ.f (x3,0,7,())) λc4=>
   .ret ((!c4),())) λ(u5a0,_)=>
  .ite u5a0 (.ret [])<|
  .cal aW.c (x0.ip,4,()) λc6=>
  .cal aW.c (x0.port,2,()) λc7=>
  .grd (Nat.ble (c6.length+c7.length) aq)<|
  .cal aW.c (x0.my,2,()) λc8=>
  .grd (Nat.ble ((c6++c7).length+c8.length) aq)<|
  .cal aW.c (x1,4,()) λc9=>
  .grd (Nat.ble (((c6++c7)++c8).length+c9.length) aq)<|
  .cal aW.c (x2,4,()) λc10=>
  .grd (Nat.ble ((((c6++c7)++c8)++c9).length+c10.length) aq)<|
  .cal aW.c (x3,1,()) λc11=>
  .grd (Nat.ble (((((c6++c7)++c8)++c9)++c10).length+c11.length) aq)<|
  .ret (((((c6++c7)++c8)++c9)++c10)++c11),
 λ(x0,x1,x2,x3,_) hp=>by
  refine Tr.B (Q':=λ_=>True) (Tr.C trivial λc1 hc1 qc1=>Tr.I (λb0=>Tr.R trivial) λb0=>Tr.C trivial λc2 hc2 qc2=>Tr.I (λb1=>Tr.R trivial) λb1=>Tr.C trivial λc3 hc3 qc3=>Tr.F (by kernel_rfl) trivial) (λ(u5a0,_) hj5 qj5=>Tr.I (λb0=>Tr.R ?_) λb0=>Tr.C trivial λc6 hc6 qc6=>Tr.C trivial λc7 hc7 qc7=>Tr.Gb ?_ λg1=>Tr.C trivial λc8 hc8 qc8=>Tr.Gb ?_ λg2=>Tr.C trivial λc9 hc9 qc9=>Tr.Gb ?_ λg3=>Tr.C trivial λc10 hc10 qc10=>Tr.Gb ?_ λg4=>Tr.C trivial λc11 hc11 qc11=>Tr.Gb ?_ λg5=>Tr.R ?_)
  all_goals ((try simp only[Tr.nice,iz]at*)<;>(first|(simp only[List.length_append,List.length_cons,List.length_nil,aq,sS]at*;omega)|grind))⟩
noncomputable def RM:=bM st Q0 QX [] (ks:=[.st .tupl,.sc (.int .i64),.sc (.int .i64),.sc (.int .i64)]) vX (λv=>[(false,[.c (.str v)])]) Tryz.func194 trivial
noncomputable def S0:=[mM,bX,bG,kv]
noncomputable def R3:Fx:=⟨203,Tryz.f203,[(3000001,rA 0 26)],0⟩
noncomputable def fW:FT (Tupl×Int×Int×Int×Unit) (aa) (λ_=>True) (λx v=>sS v∧v.length≤40):=⟨λ(x0,x1,x2,x3,_)=>
  .bnd (β:=Bool×Unit) (.cal aG.c (x0,()) λc1=>
   .ite (!c1) (.ret (true,()))<|
   .cal ae.c (x1,32,()) λc2=>
   .ite (!c2) (.ret (true,()))<|
   .cal ae.c (x2,32,()) λc3=>
   .ite (!c3) (.ret (true,()))<|
   .val (bh.f (x3,0,7,())) λc4=>
   .ret ((!c4),())) λ(u5a0,_)=>
  .ite u5a0 (.ret [])<|
  .cal aA.c (x0.ip,4,()) λc6=>
  .cal aA.c (x0.port,2,()) λc7=>
  .grd (Nat.ble (c6.length+c7.length) aq)<|
  .cal aA.c (x0.my,2,()) λc8=>
  .grd (Nat.ble ((c6++c7).length+c8.length) aq)<|
  .cal aA.c (x1,4,()) λc9=>
  .grd (Nat.ble (((c6++c7)++c8).length+c9.length) aq)<|
  .cal aA.c (x2,4,()) λc10=>
  .grd (Nat.ble ((((c6++c7)++c8)++c9).length+c10.length) aq)<|
  .cal aA.c (x3,1,()) λc11=>
  .grd (Nat.ble (((((c6++c7)++c8)++c9)++c10).length+c11.length) aq)<|
  .ret (((((c6++c7)++c8)++c9)++c10)++c11),
 λ(x0,x1,x2,x3,_) hp=>by
  refine Tr.B (Q':=λ_=>True) (Tr.C trivial λc1 hc1 qc1=>Tr.I (λb0=>Tr.R trivial) λb0=>Tr.C trivial λc2 hc2 qc2=>Tr.I (λb1=>Tr.R trivial) λb1=>Tr.C trivial λc3 hc3 qc3=>Tr.F (by kernel_rfl) trivial) (λ(u5a0,_) hj5 qj5=>Tr.I (λb0=>Tr.R ?_) λb0=>Tr.C trivial λc6 hc6 qc6=>Tr.C trivial λc7 hc7 qc7=>Tr.Gb ?_ λg1=>Tr.C trivial λc8 hc8 qc8=>Tr.Gb ?_ λg2=>Tr.C trivial λc9 hc9 qc9=>Tr.Gb ?_ λg3=>Tr.C trivial λc10 hc10 qc10=>Tr.Gb ?_ λg4=>Tr.C trivial λc11 hc11 qc11=>Tr.Gb ?_ λg5=>Tr.R ?_)
  all_goals ((try simp only[Tr.nice,iz]at*)<;>(first|(simp only[List.length_append,List.length_cons,List.length_nil,aq,sS]at*;omega)|grind))⟩
noncomputable def S2:=bM st R3 S0 [] (ks:=[.st .tupl,.sc (.int .i64),.sc (.int .i64),.sc (.int .i64)]) fW (λv=>[(false,[.c (.str v)])]) Tryz.func203 trivial
noncomputable def gg:FT (Recv×Unit) (Recv) (λx=>ay x.1) (λx v=>ay v∧v=x.1):=⟨λ(x0,_)=>
  .cal pB.c (x0.held,()) λc1=>
  .ret ({x0 with held:=c1}:Recv),
 λ(x0,_) hp=>by
  refine Tr.C ?_ λc1 hc1 qc1=>Tr.R ?_
  all_goals ((first|grind|(refine⟨by grind, ?_⟩;first|(simp only[List.nil_append];done)|(subst_vars;rfl)|simp_all)))⟩
noncomputable def nV:=a9 st Tryz.func218 [I5] (ks:=[.st .recv]) gg (λv=>[(true,uy (.o true) v)])
def yD:Sh:=⟨[zi 1,zi 2,zo 7 0,zi 9,zi 10],[za .entr]⟩
noncomputable def K6 (v4:List Entr)(v3:Int)(a:Int):Tr (Stp (Int) (Empty)):=
 .grd (cj v4 v3)<|
 .grd (cj v4 a)<|
 .ite (decide ((v4.getD a.toNat (Ty.zero .entr)).age<(v4.getD v3.toNat (Ty.zero .entr)).age)) (.ret (.next v3))<|
 .ret (.next a)
noncomputable def ku:yD.V→qc yD Int:=λ(v0,v1,v2,v3,v4,_)=>⟨v3,v2,λv3 a=>(v0,v1,a,v3,v4,()),λv3 _=>(decide (v3<(v4.length:Int))),K6 v4,up,1,(Int.toNat ((v4.length:Int)-v3)),Empty.elim,Prod.mk,oN (.exit 0) ⟨[zi 1,zi 2,zu 6,(7,false,[.sl .any .entr]),zi 9],[]⟩ (λx=>(v0,v1,v4,x.2,()))⟩
theorem Kt {v0 v1 v2 v3:Int}{v4:List Entr}(h0:0≤v3)(h1:(v4.length:Int)≤4611686018427387904)(h2:0≤v2∧v2<v4.length):(ku (v0,v1,v2,v3,v4,())).U (v4.length:Int) (λv3 a=>0≤a∧a<v4.length) (λ_=>True):=
 iT (a:=v2) h0 h1 h2
noncomputable def pj:FT (List Entr×Int×Int×Unit) (List Entr) (λx=>sS x.1) (λx v=>sS v∧v.length≤x.1.length+1):=⟨λ(x0,x1,x2,_)=>
  .grd (Nat.ble ((2*(0+x0.length)+1024)*24) bo)<|
  .bnd (β:=Bool×Unit) (.cal u9.c (x0,()) λc1=>
   .ite (!c1) (.ret (true,()))<|
   .cal aI.c (x1,32,()) λc2=>
   .ite (!c2) (.ret (true,()))<|
   .cal aI.c (x2,48,()) λc3=>
   .ret ((!c3),())) λ(u4a0,_)=>
  .ite u4a0 (.ret ([]++x0))<|
  .cal AG.c (x0,x1,()) λc5=>
  .ite (decide (0≤c5)) (.grd (cj ([]++x0) c5)<|
   .ret (([]++x0).set c5.toNat (⟨x1,x2,0⟩:Entr)))<|
  .ite ((([]++x0).length:Int)==4) (.lp (ku (x1,x2,0,1,([]++x0),())).lp λ(_,a6_0)=>
   .grd ((decide (0≤a6_0))&&(decide (a6_0≤(([]++x0).length:Int))))<|
   .grd (Nat.ble ((2*(0+((([]++x0).take a6_0.toNat).drop 0).length)+1024)*24) bo)<|
   .grd (JQ ([]++x0) (IntKind.wrap .i64 (a6_0+1)) (([]++x0).length:Int))<|
   .grd (Nat.ble ((2*(([]++((([]++x0).take a6_0.toNat).drop 0)).length+((([]++x0).take ((([]++x0).length:Int).toNat)).drop ((IntKind.wrap .i64 (a6_0+1)).toNat)).length)+1024)*24) bo)<|
   .val (([]++((([]++x0).take a6_0.toNat).drop 0))++((([]++x0).take ((([]++x0).length:Int).toNat)).drop ((IntKind.wrap .i64 (a6_0+1)).toNat))) λl7=>
   .grd (qq l7 1 24)<|
   .ret (l7++[(⟨x1,x2,0⟩:Entr)]))<|
  .grd (qq ([]++x0) 1 24)<|
  .ret (([]++x0)++[(⟨x1,x2,0⟩:Entr)]),
 λ(x0,x1,x2,_) hp=>by
  refine Tr.Gb ?_ λ_=>Tr.B (Q':=λw=>(w.1=false→x0.length≤4)) (Tr.C ?_ λ_ _ _=>Tr.I (λ_=>Tr.R ?_) λ_=>Tr.C trivial λ_ _ _=>Tr.I (λ_=>Tr.R ?_) λ_=>Tr.C trivial λ_ _ _=>Tr.R ?_) (λ(u4a0,_) _ _=>Tr.I (λ_=>Tr.R ?_) λ_=>Tr.C ?_ λ_ _ _=>Tr.I (λ_=>Tr.G2 ?_ λ_=>Tr.R ?_) λ_=>Tr.I (λ_=>Tr.L (Kt ?_ ?_ ?_) (λa6_0 _=>Tr.G2 ?_ λ_=>Tr.Gb ?_ λ_=>Tr.G3 ?_ λ_=>Tr.Gb ?_ λ_=>Tr.V λ_ _=>Tr.Gb ?_ λ_=>Tr.R ?_) (λp=>Empty.elim p)) λ_=>Tr.Gb ?_ λ_=>Tr.R ?_)
  all_goals ((try simp only[ku,LC.lp,LC.ct,Ct.lp,Tr.nice,iz]at*)<;>grind)⟩
noncomputable def tN:=ez st Tryz.func241 [(0,la ⟨[1,2,7,9,10],[],false,0⟩ ⟨[1,2,6,7,9],[.soft 7 0],false,0⟩),(3000002,rA 0 26)] [Hu,ca,F7] 0 ku (ks:=[.sc (.sl .entr),.sc (.int .i64),.sc (.int .i64)]) pj (λv=>[(false,[sc (.o true) .entr v])])
noncomputable def zc:=[xI,G6,bX,Ft]
def nM:Sh:=⟨[zi 1,zi 2,zo 7 0,zi 29,zi 30],[za .entr]⟩
def n7:Sh:=⟨[zi 1,zi 2,zo 7 0,zi 9,zo 54 0,zi 55,zi 56],[za .entr]⟩
noncomputable def zC:Fx:=⟨258,Tryz.f258,[(0,lb [1,2,7,29,30] [1,2,6,7]),(2,lb [1,2,7,9,54,55,56] [1,2,6,7,9]),(3000002,rA 0 26)],0⟩
noncomputable def y9 (v0 v1:Int)(v4:List Entr)(v3:Int)(a:Unit):Tr (Stp (Unit) ((List Entr))):=
 .grd (cj v4 v3)<|
 .ite ((v4.getD v3.toNat (Ty.zero .entr)).ip==v0) (.grd (cj v4 v3)<|
  .grd ((decide (0≤v3))&&(decide (v3<((v4.set v3.toNat ({(v4.getD v3.toNat (Ty.zero .entr))with hw:=v1}:Entr)).length:Int))))<|
  .val ((v4.set v3.toNat ({(v4.getD v3.toNat (Ty.zero .entr))with hw:=v1}:Entr)).set v3.toNat ({((v4.set v3.toNat ({(v4.getD v3.toNat (Ty.zero .entr))with hw:=v1}:Entr)).getD v3.toNat (Ty.zero .entr))with age:=0}:Entr)) λl6=>
  .ret (.out l6))<|
 .ret (.next ())
noncomputable def fM:nM.V→qF nM Unit (List Entr):=λ(v0,v1,v2,v3,v4,_)=>⟨v3,(),λv3 _=>(v0,v1,v2,v3,v4,()),λv3 _=>(decide (v3<v2)),y9 v0 v1 v4,up,1,(Int.toNat (v2-v3)),.inl,eR,oB .ret ⟨[zi 1,zi 2,zo 6 0,zo 7 0],[za .entr]⟩ (λp=>(v0,v1,p,())) (.exit 0) ⟨[zi 1,zi 2,zu 6,zo 7 0],[za .entr]⟩ (λ_=>(v0,v1,v4,()))⟩
theorem Kk:LS Tryz.prog zC [0] (fv 0 nM fM):=cI st (aH zc) _ fM [] trivial
theorem LA {v0 v1 v2 v3:Int}{v4:List Entr}(h0:0≤v3)(h1:v2≤4611686018427387904)(h2:sS v4)(h3:v2≤(v4.length:Int)):(fM (v0,v1,v2,v3,v4,())).U v2 (λ_ _=>True) (λp=>sS p):=
 iT h0 h1 trivial
noncomputable def eV (v5:List Entr)(v4:Int)(a:Int):Tr (Stp (Int) (Empty)):=
 .grd (cj v5 v4)<|
 .grd (cj v5 a)<|
 .ite (decide ((v5.getD a.toNat (Ty.zero .entr)).age<(v5.getD v4.toNat (Ty.zero .entr)).age)) (.ret (.next v4))<|
 .ret (.next a)
noncomputable def fS:n7.V→qc n7 Int:=λ(v0,v1,v2,v3,v4,v5,_)=>⟨v4,v2,λv4 a=>(v0,v1,a,v3,v4,v5,()),λv4 _=>(decide (v4<v3)),eV v5,up,1,(Int.toNat (v3-v4)),Empty.elim,Prod.mk,oN (.exit 2) ⟨[zi 1,zi 2,zu 6,zo 7 0,zi 9],[za .entr]⟩ (λx=>(v0,v1,x.2,v5,()))⟩
theorem Kq:LS Tryz.prog zC [1] (fv 2 n7 fS):=cI st (aH zc) _ fS [] trivial
theorem MY {v0 v1 v2 v3 v4:Int}{v5:List Entr}(h0:0≤v4)(h1:v3≤4611686018427387904)(h2:v3≤(v5.length:Int))(h3:0≤v2∧v2<v5.length):(fS (v0,v1,v2,v3,v4,v5,())).U v3 (λv4 a=>0≤a∧a<v5.length) (λ_=>True):=
 iT (a:=v2) h0 h1 h3
noncomputable def vg:FT (List Entr×Int×Int×Unit) (List Entr) (λx=>sS x.1) (λx v=>sS v):=⟨λ(x0,x1,x2,_)=>
  .cal gH.c (x0,()) λc1=>
  .bnd (β:=Bool×Unit) (.cal gf.c (x0,()) λc2=>
   .ite (!c2) (.ret (true,()))<|
   .cal ae.c (x1,32,()) λc3=>
   .ite (!c3) (.ret (true,()))<|
   .cal ae.c (x2,48,()) λc4=>
   .ret ((!c4),())) λ(u5a0,_)=>
  .ite u5a0 (.ret c1)<|
  .lp (fM (x1,x2,(c1.length:Int),0,c1,())).lp λw7=> .sum w7 (λp7a0=>
  .ret p7a0)<|
  λ_=>
  .ite ((c1.length:Int)==4) (.lp (fS (x1,x2,0,(c1.length:Int),0,c1,())).lp λ(_,a8_0)=>
   .cal rZ.c (c1,a8_0,(IntKind.wrap .i64 (a8_0+1)),()) λc9=>
   .grd (qq (c9.2.take c9.1) 1 24)<|
   .ret ((c9.2.take c9.1)++[(⟨x1,x2,0⟩:Entr)]))<|
  .grd (qq c1 1 24)<|
  .ret (c1++[(⟨x1,x2,0⟩:Entr)]),
 λ(x0,x1,x2,_) hp=>by
  refine Tr.C ?_ λ_ _ _=>Tr.B (Q':=λw=>(w.1=false→x0.length≤4)) (Tr.C ?_ λ_ _ _=>Tr.I (λ_=>Tr.R ?_) λ_=>Tr.C trivial λ_ _ _=>Tr.I (λ_=>Tr.R ?_) λ_=>Tr.C trivial λ_ _ _=>Tr.R ?_) (λ(u5a0,_) _ _=>Tr.I (λ_=>Tr.R ?_) λ_=>Tr.L (LA ?_ ?_ ?_ ?_) (λ_ _=>Tr.Sr (Tr.I (λ_=>Tr.L (MY ?_ ?_ ?_ ?_) (λa8_0 _=>Tr.C ?_ λ_ _ _=>Tr.Gb ?_ λ_=>Tr.R ?_) (λp=>Empty.elim p)) λ_=>Tr.Gb ?_ λ_=>Tr.R ?_)) (λp7a0 _=>Tr.Sl (Tr.R ?_)))
  all_goals ((try simp only[fM,fS,LC.lp,LC.ct,Ct.lp,Tr.nice,iz]at*)<;>grind)⟩
noncomputable def VU:=bM st zC zc [(fv 0 nM fM),(fv 2 n7 fS)] (ks:=[.sc (.sl .entr),.sc (.int .i64),.sc (.int .i64)]) vg (λv=>[(false,[sc (.o true) .entr v])]) Tryz.func258 ⟨Kk,Kq,trivial⟩
noncomputable def SU:=[E7]
noncomputable def Rm:Fx:=⟨259,Tryz.f259,[(3000002,rA 0 29)],0⟩
noncomputable def pk:FT (Arpm×Int×Int×Unit) (Arpm×Bool) (λ_=>True) (λ_ _=>True):= .mk λ(x0,x1,x2,_)=>
  .bnd (β:=Bool×Unit) (.ite (x0.kind != 1) (.ret (true,()))<|
   .ite (x0.dstIp != x2) (.ret (true,()))<|
   .cal nF.c ((⟨2,x1,x2,x0.srcHw,x0.srcIp⟩:Arpm),()) λc1=>
   .ret ((!c1),())) λ(u2a0,_)=>
  .ite u2a0 (.ret ((⟨0,0,0,0,0⟩:Arpm),false))<|
  .ret ((⟨2,x1,x2,x0.srcHw,x0.srcIp⟩:Arpm),true)
noncomputable def QR:=bM st Rm SU [] (ks:=[.st .arpm,.sc (.int .i64),.sc (.int .i64)]) pk (λv=>[(true,LQ v.1),(false,[.c (.bool v.2)])]) Tryz.func259 trivial
noncomputable def gv:FT (Fram×Unit) (aa) (λx=>pS x.1) (λx v=>sS v∧v.length≤1600):=⟨λ(x0,_)=>
  .cal ge.c (x0,()) λc1=>
  .ite (!c1) (.ret [])<|
  .cal aA.c (x0.dst,6,()) λc2=>
  .cal aA.c (x0.src,6,()) λc3=>
  .grd (Nat.ble (c2.length+c3.length) aq)<|
  .cal aA.c (x0.type,2,()) λc4=>
  .grd (Nat.ble ((c2++c3).length+c4.length) aq)<|
  .grd (Nat.ble (((c2++c3)++c4).length+x0.body.length) aq)<|
  .ret (((c2++c3)++c4)++x0.body),
 λ(x0,_) hp=>by
  refine Tr.C trivial λc1 hc1 qc1=>Tr.I (λb0=>Tr.R ?_) λb0=>Tr.C trivial λc2 hc2 qc2=>Tr.C trivial λc3 hc3 qc3=>Tr.Gb ?_ λg1=>Tr.C trivial λc4 hc4 qc4=>Tr.Gb ?_ λg2=>Tr.Gb ?_ λg3=>Tr.R ?_
  all_goals ((first|(simp only[List.length_append,List.length_cons,List.length_nil,aq,sS]at*;omega)|grind))⟩
noncomputable def Bu:=a9 st Tryz.func260 [Hs,kv] (ks:=[.st .fram]) gv (λv=>[(false,[.c (.str v)])])
noncomputable def k9:FT (Arpm×Unit) (aa) (λ_=>True) (λx v=>sS v∧v.length≤40):=⟨λ(x0,_)=>
  .cal nF.c (x0,()) λc1=>
  .ite (!c1) (.ret [])<|
  .cal aA.c (x0.kind,2,()) λc2=>
  .grd (Nat.ble (6+c2.length) aq)<|
  .cal aA.c (x0.srcHw,6,()) λc3=>
  .grd (Nat.ble (([0,1,8,0,6,4]++c2).length+c3.length) aq)<|
  .cal aA.c (x0.srcIp,4,()) λc4=>
  .grd (Nat.ble ((([0,1,8,0,6,4]++c2)++c3).length+c4.length) aq)<|
  .cal aA.c (x0.dstHw,6,()) λc5=>
  .grd (Nat.ble (((([0,1,8,0,6,4]++c2)++c3)++c4).length+c5.length) aq)<|
  .cal aA.c (x0.dstIp,4,()) λc6=>
  .grd (Nat.ble ((((([0,1,8,0,6,4]++c2)++c3)++c4)++c5).length+c6.length) aq)<|
  .ret ((((([0,1,8,0,6,4]++c2)++c3)++c4)++c5)++c6),
 λ(x0,_) hp=>by
  refine Tr.C trivial λc1 hc1 qc1=>Tr.I (λb0=>Tr.R ?_) λb0=>Tr.C trivial λc2 hc2 qc2=>Tr.Gb ?_ λg1=>Tr.C trivial λc3 hc3 qc3=>Tr.Gb ?_ λg2=>Tr.C trivial λc4 hc4 qc4=>Tr.Gb ?_ λg3=>Tr.C trivial λc5 hc5 qc5=>Tr.Gb ?_ λg4=>Tr.C trivial λc6 hc6 qc6=>Tr.Gb ?_ λg5=>Tr.R ?_
  all_goals ((first|(simp only[List.length_append,List.length_cons,List.length_nil,aq,sS]at*;omega)|grind))⟩
noncomputable def TL:=a9 st Tryz.func261 [E7,kv] (ks:=[.st .arpm]) k9 (λv=>[(false,[.c (.str v)])])
noncomputable def Mb:=[bX,kv]
noncomputable def LB:Fx:=⟨262,Tryz.f262,[(3000001,rA 0 19)],0⟩
noncomputable def eB:FT (Int×Int×Int×Unit) (aa) (λ_=>True) (λx v=>sS v∧v.length≤20):=⟨λ(x0,x1,x2,_)=>
  .bnd (β:=Bool×Unit) (.cal ae.c (x0,32,()) λc1=>
   .ite (!c1) (.ret (true,()))<|
   .cal ae.c (x1,32,()) λc2=>
   .ite (!c2) (.ret (true,()))<|
   .cal ae.c (x2,16,()) λc3=>
   .ret ((!c3),())) λ(u4a0,_)=>
  .ite u4a0 (.ret [])<|
  .cal aA.c (x0,4,()) λc5=>
  .cal aA.c (x1,4,()) λc6=>
  .grd (Nat.ble (c5.length+c6.length) aq)<|
  .grd (Nat.ble ((c5++c6).length+2) aq)<|
  .cal aA.c (x2,2,()) λc7=>
  .grd (Nat.ble (((c5++c6)++[0,6]).length+c7.length) aq)<|
  .ret (((c5++c6)++[0,6])++c7),
 λ(x0,x1,x2,_) hp=>by
  refine Tr.B (Q':=λ_=>True) (Tr.C trivial λc1 hc1 qc1=>Tr.I (λb0=>Tr.R trivial) λb0=>Tr.C trivial λc2 hc2 qc2=>Tr.I (λb1=>Tr.R trivial) λb1=>Tr.C trivial λc3 hc3 qc3=>Tr.R trivial) (λ(u4a0,_) hj4 qj4=>Tr.I (λb0=>Tr.R ?_) λb0=>Tr.C trivial λc5 hc5 qc5=>Tr.C trivial λc6 hc6 qc6=>Tr.Gb ?_ λg1=>Tr.Gb ?_ λg2=>Tr.C trivial λc7 hc7 qc7=>Tr.Gb ?_ λg3=>Tr.R ?_)
  all_goals ((try simp only[Tr.nice,iz]at*)<;>(first|(simp only[List.length_append,List.length_cons,List.length_nil,aq,sS]at*;omega)|grind))⟩
noncomputable def yw:=bM st LB Mb [] (ks:=[.sc (.int .i64),.sc (.int .i64),.sc (.int .i64)]) eB (λv=>[(false,[.c (.str v)])]) Tryz.func262 trivial
noncomputable def eq:FT (aa×Int×Int×Unit) (Int) (λx=>sS x.1) (λ_ _=>True):= .mk λ(x0,x1,x2,_)=>
  .cal AF.c (x0,x1,x2,()) λc1=>
  .ret c1.1
noncomputable def z0:=a9 st Tryz.func265 [Vd] (ks:=[.sc .str,.sc (.int .i64),.sc (.int .i64)]) eq rI
noncomputable def kD:FT (Mac×Unit) (Mac) (λx=>dT x.1) (λx v=>dT v∧v=x.1):=⟨λ(x0,_)=>
  .cal m9.c (x0.rows,()) λc1=>
  .ret ({x0 with rows:=c1}:Mac),
 λ(x0,_) hp=>by
  refine Tr.C ?_ λc1 hc1 qc1=>Tr.R ?_
  all_goals ((first|grind|(refine⟨by grind, ?_⟩;first|(simp only[List.nil_append];done)|(subst_vars;rfl)|simp_all)))⟩
noncomputable def xg:=a9 st Tryz.func268 [Gh] (ks:=[.st .mac]) kD (λv=>[(true,Ms (.o true) v)])
noncomputable def Xp:=[mM,kY,sN,lN,bG]
def KA:An:=⟨⟨[],[],false,0⟩,⟨[1,2,3],[],false,0⟩,⟨[],[]⟩,[(.normal,⟨[zp 1 0,zb 2,zi 3],[zg .conn]⟩)]⟩
noncomputable def Xd:Fx:=⟨271,Tryz.f271,[(1000037,KA),(3000001,rA 0 34),(3000006,rA 0 62)],0⟩
noncomputable def aN:FT (Conn×Unit) (Bool) (λx=>ac x.1) (λx v=>(v=true→SO x.1.s∧RO x.1.r)):= .mk λ(x0,_)=>
  .bnd (β:=Bool×Unit) (.as (λw=>(w.1=false→SO x0.s∧RO x0.r∧cX (pw (aav x0.r)) x0.r.held)) (.cal aG.c (x0.tuple,()) λc1=>
   .ite (!c1) (.ret (true,()))<|
   .cal bi.c (x0.s,()) λc2=>
   .ite (!c2) (.ret (true,()))<|
   .cal bp.c (x0.r,()) λc3=>
   .ite (!c3) (.ret (true,()))<|
   .cal aM.c (x0.opts,()) λc4=>
   .ite (!c4) (.ret (true,()))<|
   .val (bh.f (x0.state,1,8,())) λc5=>
   .ret ((!c5),()))) λ(u6a0,_)=>
  .ite u6a0 (.ret false)<|
  .bnd (β:=Bool×Int×Conn×Unit) (.as (λw=>ac w.2.2.1) (.ite (x0.state==7) (.ret (false,4,x0,()))<|
   .ret (false,3,x0,()))) λ(_,u7a1,u7a2,_)=>
  .bnd (β:=Bool×Unit) (.val (bh.f (u7a2.most,0,1073725440,())) λc8=>
   .ite (!c8) (.ret (true,()))<|
   .val (bh.f (u7a2.window,0,u7a2.most,())) λc9=>
   .ite (!c9) (.ret (true,()))<|
   .val (bh.f (u7a2.timer,0,u7a1,())) λc10=>
   .ite (!c10) (.ret (true,()))<|
   .val (bh.f (u7a2.tries,0,3,())) λc11=>
   .ret ((!c11),())) λ(u12a0,_)=>
  .ite u12a0 (.ret false)<|
  .ite (u7a2.state==1) (.ite (!u7a2.s.fin) (.ite (!u7a2.s.done) (.ret (!u7a2.r.done))<|
    .ret false)<|
   .ret false)<|
  .ite (u7a2.state==2) (.ite u7a2.s.fin (.ite (!u7a2.s.done) (.ret (!u7a2.r.done))<|
    .ret false)<|
   .ret false)<|
  .ite (u7a2.state==3) (.ite u7a2.s.fin (.ite u7a2.s.done (.ret (!u7a2.r.done))<|
    .ret false)<|
   .ret false)<|
  .ite (u7a2.state==4) (.ite (!u7a2.s.fin) (.ite (!u7a2.s.done) (.ret u7a2.r.done)<|
    .ret false)<|
   .ret false)<|
  .ite (u7a2.state==5) (.ite (u7a2.state==5) (.ite u7a2.s.fin (.ite (!u7a2.s.done) (.ret u7a2.r.done)<|
     .ret false)<|
    .ret false)<|
   .ite (u7a2.state==7) (.ite u7a2.s.fin (.ite u7a2.s.done (.ret u7a2.r.done)<|
     .ret false)<|
    .ret false)<|
   .ret true)<|
  .ite (u7a2.state==6) (.ite u7a2.s.fin (.ite (!u7a2.s.done) (.ret u7a2.r.done)<|
    .ret false)<|
   .ret false)<|
  .ite (u7a2.state==7) (.ite u7a2.s.fin (.ite u7a2.s.done (.ret u7a2.r.done)<|
    .ret false)<|
   .ret false)<|
  .ret true
noncomputable def gL:=bM st Xd Xp [] (ks:=[.st .conn]) aN rB Tryz.func271 trivial
noncomputable def Xs:=[kY]
noncomputable def YD:Fx:=⟨272,Tryz.f272,[(3000001,rA 0 13)],0⟩
noncomputable def Dr:FT (Sndr×aa×Unit) (Sndr×Int) (λx=>bS x.1∧sS x.2.1) (λx v=>bS v.1):= .mk λ(x0,x1,_)=>
  .bnd (β:=Bool×Unit) (.as (λw=>(w.1=false→SO x0)) (.cal bi.c (x0,()) λc1=>
   .ite (!c1) (.ret (true,()))<|
   .ret (x0.fin,()))) λ(u2a0,_)=>
  .ite u2a0 (.ret (x0,0))<|
  .val (β:=Int) (if(IntKind.wrap .i64 (48-(x0.data.length:Int)))<(x1.length:Int)then(IntKind.wrap .i64 (48-(x0.data.length:Int)))else(x1.length:Int)) λe3=>
  .grd ((decide (0≤e3))&&(decide (e3≤(x1.length:Int))))<|
  .grd (Nat.ble (x0.data.length+((x1.take e3.toNat).drop 0).length) aq)<|
  .ret (({x0 with data:=(x0.data++((x1.take e3.toNat).drop 0))}:Sndr),e3)
noncomputable def Yg:=bM st YD Xs [] (ks:=[.st .sndr,.sc .str]) Dr (λv=>[(true,uM v.1),(false,[.c (.int .i64 v.2)])]) Tryz.func272 trivial
noncomputable def AC:FT (Recv×Int×Unit) (Recv×aa) (λx=>ay x.1) (λx v=>ay v.1∧sS v.2):= .mk λ(x0,x1,_)=>
  .cal gg.c (x0,()) λc1=>
  .cal bp.c (x0,()) λc2=>
  .ite (!c2) (.ret (c1,[]))<|
  .val (β:=Int) (if 0<(if(x0.data.length:Int)<x1 then(x0.data.length:Int)else x1)then(if(x0.data.length:Int)<x1 then(x0.data.length:Int)else x1)else 0) λe3=>
  .grd (JQ x0.data e3 (x0.data.length:Int))<|
  .grd ((decide (0≤e3))&&(decide (e3≤(x0.data.length:Int))))<|
  .ret (({c1 with data:=((x0.data.take ((x0.data.length:Int).toNat)).drop e3.toNat)}:Recv),((x0.data.take e3.toNat).drop 0))
noncomputable def UI:=a9 st Tryz.func274 [nV,sN] (ks:=[.st .recv,.sc (.int .i64)]) AC (λv=>[(true,uy (.o true) v.1),(false,[.c (.str v.2)])])
def tw:Sh:=⟨[zs 3],[]⟩
def B3:An:=⟨⟨[],[],false,0⟩,⟨[1,2,3],[],false,0⟩,⟨[],[]⟩,[(.normal,⟨[zp 1 0,zs 2,zs 3],[zx .opti]⟩)]⟩
def A1:An:=⟨⟨[],[],false,0⟩,⟨[1,2,3],[],false,0⟩,⟨[],[]⟩,[(.normal,⟨[zp 1 0,zs 2,zs 3],[zx .opti]⟩)]⟩
def A9:An:=⟨⟨[],[],false,0⟩,⟨[1,2,3],[],false,0⟩,⟨[],[]⟩,[(.normal,⟨[zp 1 0,zs 2,zs 3],[zx .opti]⟩)]⟩
def A0:An:=⟨⟨[],[],false,0⟩,⟨[2,3],[],false,0⟩,⟨[],[]⟩,[(.normal,⟨[zs 2,zs 3],[]⟩)]⟩
noncomputable def th (a:aa):Tr (Stp (aa) ((aa))):=
 .ite (((a.length:Int).tmod 4) != 0) (.grd (Nat.ble (a.length+1) aq)<|
  .ret (.next (a++[1])))<|
 .ret (.out a)
noncomputable def jv:tw.V→LW tw (aa) ((aa)):=λ(v0,_)=>⟨v0,λa=>(a,()),th,(4-v0.length%4)%4,oN (.exit 0) ⟨[zu 2,zs 3],[]⟩ (λp=>(p,()))⟩
theorem Cl {v0:aa}(h0:v0.length+(4-v0.length%4)%4≤20):(jv (v0,())).W (λp=>p.length≤20):=
 lwW (a:=v0) (λa=>a.length+(4-a.length%4)%4≤20) (λa=>(4-a.length%4)%4) h0
noncomputable def cF:FT (Opti×Unit) (aa) (λ_=>True) (λx v=>sS v∧v.length≤20):= .mk (λ(x0,_)=>
  .cal aM.c (x0,()) λc1=>
  .ite (!c1) (.ret [])<|
  .bnd (β:=aa×aa×Opti×Unit) (.as (λw=>sS w.1∧sS w.2.1∧w.2.1.length≤4) (.ite (x0.mss != 0) (.cal aA.c (x0.mss,2,()) λc2=>
    .grd (Nat.ble (2+c2.length) aq)<|
    .grd (Nat.ble (0+([2,4]++c2).length) aq)<|
    .ret ([],([]++([2,4]++c2)),x0,()))<|
   .ret ([],[],x0,()))) λ(u3a0,u3a1,u3a2,_)=>
  .bnd (β:=aa×aa×Opti×Unit) (.as (λw=>sS w.1∧sS w.2.1∧w.2.1.length≤7) (.ite (u3a2.scale != (-1)) (.cal aA.c (u3a2.scale,1,()) λc4=>
    .grd (Nat.ble (2+c4.length) aq)<|
    .grd (Nat.ble (u3a1.length+([3,3]++c4).length) aq)<|
    .ret (u3a0,(u3a1++([3,3]++c4)),u3a2,()))<|
   .ret (u3a0,u3a1,u3a2,()))) λ(u5a0,u5a1,u5a2,_)=>
  .bnd (β:=aa×aa×Opti×Unit) (.as (λw=>sS w.1∧sS w.2.1∧w.2.1.length≤9) (.ite u5a2.sack (.grd (Nat.ble (u5a1.length+2) aq)<|
    .ret (u5a0,(u5a1++[4,2]),u5a2,()))<|
   .ret (u5a0,u5a1,u5a2,()))) λ(u6a0,u6a1,u6a2,_)=>
  .bnd (β:=aa×aa×Unit) (.as (λw=>sS w.1∧sS w.2.1∧w.2.1.length≤19) (.ite u6a2.stamp (.cal aA.c (u6a2.val,4,()) λc7=>
    .grd (Nat.ble (2+c7.length) aq)<|
    .cal aA.c (u6a2.echo,4,()) λc8=>
    .grd (Nat.ble (([8,10]++c7).length+c8.length) aq)<|
    .grd (Nat.ble (u6a1.length+(([8,10]++c7)++c8).length) aq)<|
    .ret (u6a0,(u6a1++(([8,10]++c7)++c8)),()))<|
   .ret (u6a0,u6a1,()))) λ(_,u9a1,_)=>
  .lp (jv (u9a1,())).lp λp10a0=>
  .ret p10a0) (qm @Cl)
noncomputable def IK:=NY st Tryz.func277 [(0,lb [3] [2,3]),(1000009,B3),(1000018,A1),(1000026,A9),(1000030,A0)] [lN,kv] 0 jv (ks:=[.st .opti]) cF (λv=>[(false,[.c (.str v)])])
noncomputable def tH:FT (aa×Unit) (Int) (λx=>sS x.1) (λ_ _=>True):= .mk λ(x0,_)=>
  .cal rS.c (x0,()) λc1=>
  .cal DJ.c (c1,()) λc2=>
  .ret (IntKind.wrap .i64 (65535-c2))
noncomputable def FV:=a9 st Tryz.func279 [UB,YO] (ks:=[.sc .str]) tH rI
noncomputable def rt:FT (Pack×Unit) (aa) (λx=>kS x.1) (λx v=>sS v∧v.length≤1520):=⟨λ(x0,_)=>
  .cal mF.c (x0,()) λc1=>
  .ite (!c1) (.ret [])<|
  .cal aA.c ((IntKind.wrap .i64 (20+(x0.body.length:Int))),2,()) λc2=>
  .grd (Nat.ble (2+c2.length) aq)<|
  .cal aA.c (x0.id,2,()) λc3=>
  .grd (Nat.ble (([69,0]++c2).length+c3.length) aq)<|
  .grd (Nat.ble ((([69,0]++c2)++c3).length+2) aq)<|
  .cal aA.c (x0.ttl,1,()) λc4=>
  .grd (Nat.ble (((([69,0]++c2)++c3)++[0,0]).length+c4.length) aq)<|
  .cal aA.c (x0.proto,1,()) λc5=>
  .grd (Nat.ble ((((([69,0]++c2)++c3)++[0,0])++c4).length+c5.length) aq)<|
  .cal aA.c (x0.src,4,()) λc6=>
  .cal aA.c (x0.dst,4,()) λc7=>
  .grd (Nat.ble (c6.length+c7.length) aq)<|
  .grd (Nat.ble (((((([69,0]++c2)++c3)++[0,0])++c4)++c5).length+2) aq)<|
  .grd (Nat.ble ((((((([69,0]++c2)++c3)++[0,0])++c4)++c5)++[0,0]).length+(c6++c7).length) aq)<|
  .val ((((((([69,0]++c2)++c3)++[0,0])++c4)++c5)++[0,0])++(c6++c7)) λe8=>
  .cal tH.c (e8,()) λc9=>
  .cal aA.c (c9,2,()) λc10=>
  .grd (Nat.ble (((((([69,0]++c2)++c3)++[0,0])++c4)++c5).length+c10.length) aq)<|
  .grd (Nat.ble ((((((([69,0]++c2)++c3)++[0,0])++c4)++c5)++c10).length+(c6++c7).length) aq)<|
  .val ((((((([69,0]++c2)++c3)++[0,0])++c4)++c5)++c10)++(c6++c7)) λe11=>
  .grd (Nat.ble (e11.length+x0.body.length) aq)<|
  .ret (e11++x0.body),
 λ(x0,_) hp=>by
  refine Tr.C trivial λc1 hc1 qc1=>Tr.I (λb0=>Tr.R ?_) λb0=>Tr.C trivial λc2 hc2 qc2=>Tr.Gb ?_ λg1=>Tr.C trivial λc3 hc3 qc3=>Tr.Gb ?_ λg2=>Tr.Gb ?_ λg3=>Tr.C trivial λc4 hc4 qc4=>Tr.Gb ?_ λg4=>Tr.C trivial λc5 hc5 qc5=>Tr.Gb ?_ λg5=>Tr.C trivial λc6 hc6 qc6=>Tr.C trivial λc7 hc7 qc7=>Tr.Gb ?_ λg6=>Tr.Gb ?_ λg7=>Tr.Gb ?_ λg8=>Tr.V λe8 he8=>Tr.C ?_ λc9 hc9 qc9=>Tr.C trivial λc10 hc10 qc10=>Tr.Gb ?_ λg9=>Tr.Gb ?_ λg10=>Tr.V λe11 he11=>Tr.Gb ?_ λg11=>Tr.R ?_
  all_goals ((first|(simp only[List.length_append,List.length_cons,List.length_nil,aq,sS]at*;omega)|grind))⟩
noncomputable def Ni:=a9 st Tryz.func281 [SN,kv,FV] (ks:=[.st .pack]) rt (λv=>[(false,[.c (.str v)])])
noncomputable def Ln:=[kC]
noncomputable def JS:Fx:=⟨285,Tryz.f285,[(3000004,rA 0 25)],0⟩
noncomputable def nJ:FT (Int×Int×Int×Unit) (aa) (λ_=>True) (λx v=>sS v∧v.length≤20):=⟨λ(x0,x1,x2,_)=>
  .cal aW.c (x0,4,()) λc1=>
  .cal aW.c (x1,4,()) λc2=>
  .cal aW.c (x2,2,()) λc3=>
  .bnd (β:=Bool×Unit) (.ite (c1==[]) (.ret (true,()))<|
   .ite (c2==[]) (.ret (true,()))<|
   .ret ((c3==[]),())) λ(u4a0,_)=>
  .ite u4a0 (.ret [])<|
  .grd (Nat.ble (c1.length+c2.length) aq)<|
  .grd (Nat.ble ((c1++c2).length+2) aq)<|
  .grd (Nat.ble (((c1++c2)++[0,6]).length+c3.length) aq)<|
  .ret (((c1++c2)++[0,6])++c3),
 λ(x0,x1,x2,_) hp=>by
  refine Tr.C trivial λc1 hc1 qc1=>Tr.C trivial λc2 hc2 qc2=>Tr.C trivial λc3 hc3 qc3=>Tr.B (Q':=λ_=>True) (Tr.F (by kernel_rfl) trivial) (λ(u4a0,_) hj4 qj4=>Tr.I (λb0=>Tr.R ?_) λb0=>Tr.Gb ?_ λg1=>Tr.Gb ?_ λg2=>Tr.Gb ?_ λg3=>Tr.R ?_)
  all_goals ((try simp only[Tr.nice,iz]at*)<;>(first|(simp only[List.length_append,List.length_cons,List.length_nil,aq,sS]at*;omega)|grind))⟩
noncomputable def zK:=bM st JS Ln [] (ks:=[.sc (.int .i64),.sc (.int .i64),.sc (.int .i64)]) nJ (λv=>[(false,[.c (.str v)])]) Tryz.func285 trivial
def ta:Sh:=⟨[zs 0,zp 2 0,zp 4 1,zi 5],[zx .opti,zx .opti]⟩
noncomputable def cT (v0:aa)(a:Int×Opti):Tr (Stp (Int×Opti) ((Opti×Opti)⊕(Opti))):=
 .ite (decide (a.1<(v0.length:Int))) (.grd (cj v0 a.1)<|
  .ite ((ai v0 a.1.toNat) != 0) (.grd (cj v0 a.1)<|
   .ite ((ai v0 a.1.toNat)==1) (.ret (.next ((IntKind.wrap .i64 (a.1+1)),a.2)))<|
   .bnd (β:=Bool×Unit) (.ite (decide ((v0.length:Int)≤(IntKind.wrap .i64 (a.1+1)))) (.ret (true,()))<|
    .grd (cj v0 (IntKind.wrap .i64 (a.1+1)))<|
    .ite (decide ((ai v0 ((IntKind.wrap .i64 (a.1+1)).toNat))<2)) (.ret (true,()))<|
    .grd (cj v0 (IntKind.wrap .i64 (a.1+1)))<|
    .ret ((decide ((IntKind.wrap .i64 ((v0.length:Int)-a.1))<(IntKind.wrap .i64 (ai v0 ((IntKind.wrap .i64 (a.1+1)).toNat))))),())) λ(u2a0,_)=>
   .ite u2a0 (.val (bU.f (())) λc3=>
    .ret (.out (.inl (c3,a.2))))<|
   .grd (cj v0 (IntKind.wrap .i64 (a.1+1)))<|
   .val (IntKind.wrap .i64 (a.1+(IntKind.wrap .i64 (ai v0 ((IntKind.wrap .i64 (a.1+1)).toNat))))) λe4=>
   .grd (JQ v0 a.1 e4)<|
   .cal Jj.c (a.2,((v0.take e4.toNat).drop a.1.toNat),()) λc5=>
   .ret (.next (e4,c5)))<|
  .ret (.out (.inr (a.2))))<|
 .ret (.out (.inr (a.2)))
instance s_ReadOptions_L0_i:Inhabited ((Opti×Opti)⊕(Opti)):=⟨.inl default⟩
noncomputable def jg:ta.V→LW ta (Int×Opti) ((Opti×Opti)⊕(Opti)):=λ(v0,v1,v2,v3,_)=>⟨(v1,v3),λa=>(v0,a.1,v2,a.2,()),cT v0,Int.toNat ((v0.length:Int)-v1),oB .ret ⟨[zp 2 0,zb 3,zp 4 1],[zx .opti,zx .opti]⟩ (λp=>(false,p.1,p.2,())) (.exit 0) ⟨[zp 2 0,zu 3,zp 4 1],[zx .opti,zx .opti]⟩ (λp=>(v2,p,()))⟩
theorem BV {v0:aa}{v1:Int}{v2 v3:Opti}(h0:sS v0)(h1:0≤v1):(jg (v0,v1,v2,v3,())).W (λ_=>True):=
 lwW (a:=(v1,v3)) (λa=>0≤a.1) (λa=>Int.toNat ((v0.length:Int)-a.1)) h1
noncomputable def ly:FT (aa×Unit) (Opti×Bool) (λx=>sS x.1) (λ_ _=>True):= .mk (λ(x0,_)=>
  .val (bU.f (())) λc1=>
  .lp (jg (x0,0,(⟨0,0,false,false,0,0⟩:Opti),c1,())).lp λq6=> .sum q6 (λ(p6a0,_)=>
  .ret (p6a0,false))<|
  λp6b0=>
  .ret (p6b0,true)) (qm @BV)
noncomputable def Iu:=NY st Tryz.func287 [(0,lb [0,2,4,5] [2,3,4]),(3000006,rA 0 47)] [eC,ZJ] 0 jg (ks:=[.sc .str]) ly (λv=>[(true,oI v.1),(false,[.c (.bool v.2)])])
noncomputable def i1:FT (Segm×Unit) (Bool) (λ_=>True) (λx v=>(v=true→x.1.body.length≤1420)):= .mk λ(x0,_)=>
  .cal aI.c (x0.from_,16,()) λc1=>
  .ite c1 (.cal aI.c (x0.to,16,()) λc2=>
   .ite c2 (.cal aI.c (x0.window,16,()) λc3=>
    .ite c3 (.cal aI.c (x0.seq,32,()) λc4=>
     .ite c4 (.cal aI.c (x0.ack,32,()) λc5=>
      .ite c5 (.cal aI.c (x0.flags,6,()) λc6=>
       .ite c6 (.cal eQ.c (x0.opts,()) λc7=>
        .ite c7 (.ret (decide ((x0.body.length:Int)≤1420)))<|
        .ret false)<|
       .ret false)<|
      .ret false)<|
     .ret false)<|
    .ret false)<|
   .ret false)<|
  .ret false
noncomputable def lB:=a9 st Tryz.func289 [ca,lD] (ks:=[.st .segm]) i1 rB
noncomputable def Xe:=[pX,k7,sC,lD,cx,WO]
def KZ:An:=⟨⟨[],[],false,0⟩,⟨[1,2,3],[],false,0⟩,⟨[],[]⟩,[(.normal,⟨[zp 1 0,zb 2,zi 3],[zg .conn]⟩)]⟩
noncomputable def XI:Fx:=⟨298,Tryz.f298,[(1000055,KZ),(3000001,rA 0 52),(3000010,rA 0 4),(3000011,rA 0 5)],0⟩
noncomputable def ic:FT (Conn×Unit) (Bool) (λx=>ac x.1) (λx v=>(v=true→SO x.1.s∧RO x.1.r)):= .mk λ(x0,_)=>
  .bnd (β:=Bool×Unit) (.as (λw=>(w.1=false→SO x0.s∧RO x0.r)) (.cal lg.c (x0.tuple,()) λc1=>
   .ite (!c1) (.ret (true,()))<|
   .cal fh.c (x0.s,()) λc2=>
   .ite (!c2) (.ret (true,()))<|
   .cal ll.c (x0.r,()) λc3=>
   .ite (!c3) (.ret (true,()))<|
   .cal eQ.c (x0.opts,()) λc4=>
   .ite (!c4) (.ret (true,()))<|
   .val (bZ.f (x0.state,1,8,())) λc5=>
   .ite (!c5) (.ret (true,()))<|
   .val (bZ.f (x0.window,0,x0.most,())) λc6=>
   .ite (!c6) (.ret (true,()))<|
   .ite (decide (1073725440<x0.most)) (.ret (true,()))<|
   .val (bZ.f (x0.tries,0,3,())) λc7=>
   .ret ((!c7),()))) λ(u8a0,_)=>
  .ite u8a0 (.ret false)<|
  .bnd (β:=Bool×Int×Conn×Unit) (.as (λw=>ac w.2.2.1) (.ite (x0.state==7) (.ret (false,4,x0,()))<|
   .ret (false,3,x0,()))) λ(_,u9a1,u9a2,_)=>
  .val (bZ.f (u9a2.timer,0,u9a1,())) λc10=>
  .ite (!c10) (.ret false)<|
  .ite (u9a2.state==8) (.ret true)<|
  .bnd (β:=Bool×Unit) (.ite (u9a2.state==3) (.ret (true,()))<|
   .ret ((u9a2.state==7),())) λ(u11a0,_)=>
  .bnd (β:=Bool×Unit) (.ite (u9a2.state==4) (.ret (true,()))<|
   .ret ((decide (5≤u9a2.state)),())) λ(u12a0,_)=>
  .val (J0.f (u9a2.state,())) λc13=>
  .ite (u9a2.s.fin==c13) (.ite (u9a2.s.done==u11a0) (.ret (u9a2.r.done==u12a0))<|
   .ret false)<|
  .ret false
noncomputable def gQ:=bM st XI Xe [] (ks:=[.st .conn]) ic rB Tryz.func298 trivial
noncomputable def AD:FT (Sndr×Unit) (Sndr) (λx=>bS x.1) (λx v=>bS v):= .mk λ(x0,_)=>
  .cal fh.c (x0,()) λc1=>
  .ite c1 (.ret ({x0 with sent:=0,finSent:=false}:Sndr))<|
  .ret x0
noncomputable def Wa:=a9 st Tryz.func300 [k7] (ks:=[.st .sndr]) AD (λv=>[(true,uM v)])
noncomputable def XJ:=[k7,oG]
noncomputable def XG:Fx:=⟨305,Tryz.f305,[(3000001,rA 0 13)],0⟩
noncomputable def zq:FT (Sndr×aa×Unit) (Sndr×Int) (λx=>bS x.1∧sS x.2.1) (λx v=>bS v.1):= .mk λ(x0,x1,_)=>
  .bnd (β:=Bool×Unit) (.as (λw=>(w.1=false→SO x0)) (.cal fh.c (x0,()) λc1=>
   .ite (!c1) (.ret (true,()))<|
   .ret (x0.fin,()))) λ(u2a0,_)=>
  .ite u2a0 (.ret (x0,0))<|
  .val (j1.f ((x1.length:Int),(IntKind.wrap .i64 (48-(x0.data.length:Int))),())) λc3=>
  .grd ((decide (0≤c3))&&(decide (c3≤(x1.length:Int))))<|
  .grd (Nat.ble (x0.data.length+((x1.take c3.toNat).drop 0).length) aq)<|
  .ret (({x0 with data:=(x0.data++((x1.take c3.toNat).drop 0))}:Sndr),c3)
noncomputable def JA:=bM st XG XJ [] (ks:=[.st .sndr,.sc .str]) zq (λv=>[(true,uM v.1),(false,[.c (.int .i64 v.2)])]) Tryz.func305 trivial
noncomputable def vO:FT (Recv×Int×Unit) (Recv×aa) (λx=>ay x.1) (λx v=>ay v.1∧sS v.2∧v.1.held.length=x.1.held.length):= .mk λ(x0,x1,_)=>
  .cal d7.c (x0,()) λc1=>
  .cal ll.c (x0,()) λc2=>
  .ite (!c2) (.ret (c1,[]))<|
  .val (j1.f (x1,(x0.data.length:Int),())) λc3=>
  .val (fB.f (0,c3,())) λc4=>
  .grd (JQ x0.data c4 (x0.data.length:Int))<|
  .grd ((decide (0≤c4))&&(decide (c4≤(x0.data.length:Int))))<|
  .ret (({c1 with data:=((x0.data.take ((x0.data.length:Int).toNat)).drop c4.toNat)}:Recv),((x0.data.take c4.toNat).drop 0))
noncomputable def Hd:=a9 st Tryz.func307 [zB,sC,oG,mO] (ks:=[.st .recv,.sc (.int .i64)]) vO (λv=>[(true,uy (.o true) v.1),(false,[.c (.str v.2)])])
noncomputable def wV:FT (Conn×Conn×Unit) (Bool) (λx=>ac x.1∧ac x.2.1) (λ_ _=>True):= .mk λ(x0,x1,_)=>
  .ite ((x0.tuple.ip==x1.tuple.ip)&&((x0.tuple.port==x1.tuple.port)&&((x0.tuple.my==x1.tuple.my)&&true))) (.ite (x0.state==x1.state) (.ite ((x0.s.una==x1.s.una)&&((x0.s.data==x1.s.data)&&((x0.s.sent==x1.s.sent)&&((x0.s.fin==x1.s.fin)&&((x0.s.finSent==x1.s.finSent)&&((x0.s.done==x1.s.done)&&true)))))) (.cal nT.c (x0.r,x1.r,()) λc1=>
     .ite c1 (.ite (x0.window==x1.window) (.ite (x0.most==x1.most) (.ite ((x0.opts.mss==x1.opts.mss)&&((x0.opts.scale==x1.opts.scale)&&((x0.opts.sack==x1.opts.sack)&&((x0.opts.stamp==x1.opts.stamp)&&((x0.opts.val==x1.opts.val)&&((x0.opts.echo==x1.opts.echo)&&true)))))) (.ite (x0.timer==x1.timer) (.ret (x0.tries==x1.tries))<|
         .ret false)<|
        .ret false)<|
       .ret false)<|
      .ret false)<|
     .ret false)<|
    .ret false)<|
   .ret false)<|
  .ret false
noncomputable def SJ:=a9 st Tryz.func309 [F6] (ks:=[.st .conn,.st .conn]) wV rB
noncomputable def Q7:=[xg]
noncomputable def SH:Fx:=⟨322,Tryz.f322,[(3000003,rA 0 14)],0⟩
noncomputable def oU:FT (Keys×Int×Unit) (Mac×Bool) (λx=>cC x.1) (λx v=>dT v.1):= .mk λ(x0,x1,_)=>
  .ite (x1==x0.epoch) (.cal kD.c (x0.now,()) λc1=>
   .ret (c1,true))<|
  .bnd (β:=Bool×Unit) (.ite x0.two (.ret ((x1==(IntKind.wrap .i64 (x0.epoch-1))),()))<|
   .ret (false,())) λ(u2a0,_)=>
  .ite u2a0 (.cal kD.c (x0.before,()) λc3=>
   .ret (c3,true))<|
  .ret ((⟨false,0,0,[]⟩:Mac),false)
noncomputable def QY:=bM st SH Q7 [] (ks:=[.st .keys,.sc (.int .i64)]) oU (λv=>[(true,Ms (.o true) v.1),(false,[.c (.bool v.2)])]) Tryz.func322 trivial
noncomputable def kI:FT (Segm×Unit) (Segm×Bool) (λx=>ao x.1) (λx v=>ao v.1):= .mk λ(x0,_)=>
  .val (bH.f (x0,4,())) λc1=>
  .ite c1 (.ret ((⟨0,0,0,0,0,0,⟨0,0,false,false,0,0⟩,[]⟩:Segm),false))<|
  .val (bQ.f (())) λc2=>
  .val (bH.f (x0,16,())) λc3=>
  .ite c3 (.ret ((⟨x0.to,x0.from_,x0.ack,0,4,0,c2,[]⟩:Segm),true))<|
  .cal aR.c (x0,()) λc4=>
  .val (bR.f (x0.seq,c4,())) λc5=>
  .ret ((⟨x0.to,x0.from_,0,c5,20,0,c2,[]⟩:Segm),true)
noncomputable def S4:=a9 st Tryz.func324 [Ai,jH,sx,gO] (ks:=[.st .segm]) kI (λv=>[(true,si v.1),(false,[.c (.bool v.2)])])
noncomputable def U1:=[lN,jH,bX,JU,gO,H5]
def HV:An:=⟨⟨[],[],false,0⟩,⟨[1,2,4,5,8,10],[],false,0⟩,⟨[],[]⟩,[(.normal,⟨[zi 1,zi 2,zi 4,zp 5 0,zp 8 1,zp 10 2],[zx .tupl,zx .opti,.box [.st .conn [.nil .piec]]]⟩)]⟩
def H2:An:=⟨⟨[],[],false,0⟩,⟨[1,2,4,5,8,10],[],false,0⟩,⟨[],[]⟩,[(.normal,⟨[zi 1,zi 2,zi 4,zp 5 0,zp 8 1,zp 10 2],[zx .tupl,zx .opti,.box [.st .conn [.nil .piec]]]⟩)]⟩
noncomputable def T5:Fx:=⟨333,Tryz.f333,[(1000014,HV),(1000018,H2)],0⟩
noncomputable def vE:FT (Tupl×Int×Int×Opti×Int×Unit) (Conn) (λ_=>True) (λx v=>ac v):= .mk λ(x0,x1,x2,x3,x4,_)=>
  .cal aM.c (x3,()) λc1=>
  .bnd (β:=Int×Int×Int×Tupl×Opti×Conn×Unit) (.as (λw=>ac w.2.2.2.2.2.1) (.ite (!c1) (.val (bQ.f (())) λc2=>
    .ret (x1,x2,x4,x0,c2,(⟨⟨0,0,0⟩,0,⟨0,[],0,false,false,false⟩,⟨0,[],[],0,false⟩,0,0,⟨0,0,false,false,0,0⟩,0,0⟩:Conn),()))<|
   .ret (x1,x2,x4,x0,x3,(⟨⟨0,0,0⟩,0,⟨0,[],0,false,false,false⟩,⟨0,[],[],0,false⟩,0,0,⟨0,0,false,false,0,0⟩,0,0⟩:Conn),()))) λ(u3a0,u3a1,u3a2,u3a3,u3a4,u3a5,_)=>
  .cal ae.c (u3a2,16,()) λc4=>
  .bnd (β:=Int×Int×Int×Tupl×Opti×Conn×Unit) (.as (λw=>ac w.2.2.2.2.2.1) (.ite (!c4) (.ret (u3a0,u3a1,0,u3a3,u3a4,({u3a5 with r.held:=[]}:Conn),()))<|
   .ret (u3a0,u3a1,u3a2,u3a3,u3a4,({u3a5 with r.held:=[]}:Conn),()))) λ(u5a0,u5a1,u5a2,u5a3,u5a4,_,_)=>
  .cal yM.c (u5a2,u5a4,()) λc6=>
  .val (bR.f (u5a0,1,())) λc7=>
  .val (bR.f (u5a1,1,())) λc8=>
  .cal jJ.c (c8,()) λc9=>
  .ret (⟨u5a3,1,⟨c7,[],0,false,false,false⟩,c9,c6,c6,u5a4,0,0⟩:Conn)
noncomputable def TJ:=bM st T5 U1 [] (ks:=[.st .tupl,.sc (.int .i64),.sc (.int .i64),.st .opti,.sc (.int .i64)]) vE (λv=>[(true,fg (.o true) v)]) Tryz.func333 trivial
noncomputable def BQ:=[jH,Pj,Tg]
noncomputable def Cb:Fx:=⟨334,Tryz.f334,[(3000004,rA 0 24)],0⟩
noncomputable def cZ:FT (Int×Opti×Unit) (Opti) (λ_=>True) (λ_ _=>True):= .mk λ(x0,x1,_)=>
  .val (bQ.f (())) λc1=>
  .cal ga.c (x0,()) λc2=>
  .cal mT.c (x1.echo,()) λc3=>
  .bnd (β:=Bool×Unit) (.ite x1.stamp (.ret (c3.2.2,()))<|
   .ret (false,())) λ(u4a0,_)=>
  .ite u4a0 (.ret (⟨c2,c3.1,c3.2.1,true,x1.val,c1.echo⟩:Opti))<|
  .ret ({c1 with mss:=c2}:Opti)
noncomputable def Cn:=bM st Cb BQ [] (ks:=[.sc (.int .i64),.st .opti]) cZ (λv=>[(true,oI v)]) Tryz.func334 trivial
noncomputable def fD:FT (Fram×Unit) (aa) (λx=>pS x.1) (λx v=>sS v∧v.length≤1600):=⟨λ(x0,_)=>
  .cal Aq.c (x0,()) λc1=>
  .ite (!c1) (.ret [])<|
  .cal aW.c (x0.dst,6,()) λc2=>
  .cal aW.c (x0.src,6,()) λc3=>
  .grd (Nat.ble (c2.length+c3.length) aq)<|
  .cal aW.c (x0.type,2,()) λc4=>
  .grd (Nat.ble ((c2++c3).length+c4.length) aq)<|
  .grd (Nat.ble (((c2++c3)++c4).length+x0.body.length) aq)<|
  .ret (((c2++c3)++c4)++x0.body),
 λ(x0,_) hp=>by
  refine Tr.C trivial λc1 hc1 qc1=>Tr.I (λb0=>Tr.R ?_) λb0=>Tr.C trivial λc2 hc2 qc2=>Tr.C trivial λc3 hc3 qc3=>Tr.Gb ?_ λg1=>Tr.C trivial λc4 hc4 qc4=>Tr.Gb ?_ λg2=>Tr.Gb ?_ λg3=>Tr.R ?_
  all_goals ((first|(simp only[List.length_append,List.length_cons,List.length_nil,aq,sS]at*;omega)|grind))⟩
noncomputable def lJ:=a9 st Tryz.func340 [U5,kC] (ks:=[.st .fram]) fD (λv=>[(false,[.c (.str v)])])
noncomputable def n8:FT (Conn×Unit) (Bool) (λx=>ac x.1) (λ_ _=>True):= .mk λ(x0,_)=>
  .cal aN.c (x0,()) λc1=>
  .ite c1 (.ite (x0.state==7) (.ret true)<|
   .ite (x0.state != 8) (.val (DP.f (x0,())) λc2=>
    .ret c2)<|
   .ret false)<|
  .ret false
noncomputable def abc:=a9 st Tryz.func373 [gL,YS] (ks:=[.st .conn]) n8 rB
noncomputable def jP:FT (Sndr×Unit) (Sndr) (λx=>bS x.1) (λx v=>bS v):= .mk λ(x0,_)=>
  .cal bi.c (x0,()) λc1=>
  .ite (!c1) (.ret x0)<|
  .ret ({x0 with sent:=0,finSent:=false}:Sndr)
noncomputable def Wo:=a9 st Tryz.func374 [kY] (ks:=[.st .sndr]) jP (λv=>[(true,uM v)])
noncomputable def ij:FT (Sndr×Unit) (Int) (λx=>bS x.1) (λ_ _=>True):= .mk λ(x0,_)=>
  .cal dr.c (x0,()) λc1=>
  .val (bR.f (x0.una,c1,())) λc2=>
  .ret c2
noncomputable def Kg:=a9 st Tryz.func381 [sO,gO] (ks:=[.st .sndr]) ij rI
noncomputable def Su:=[Pm]
noncomputable def Sx:Fx:=⟨386,Tryz.f386,[(3000002,rA 0 29)],0⟩
noncomputable def xe:FT (Arpm×Int×Int×Unit) (Arpm×Bool) (λ_=>True) (λ_ _=>True):= .mk λ(x0,x1,x2,_)=>
  .bnd (β:=Bool×Unit) (.ite (x0.kind != 1) (.ret (true,()))<|
   .ite (x0.dstIp != x2) (.ret (true,()))<|
   .cal Ee.c ((⟨2,x1,x2,x0.srcHw,x0.srcIp⟩:Arpm),()) λc1=>
   .ret ((!c1),())) λ(u2a0,_)=>
  .ite u2a0 (.ret ((⟨0,0,0,0,0⟩:Arpm),false))<|
  .ret ((⟨2,x1,x2,x0.srcHw,x0.srcIp⟩:Arpm),true)
noncomputable def QG:=bM st Sx Su [] (ks:=[.st .arpm,.sc (.int .i64),.sc (.int .i64)]) xe (λv=>[(true,LQ v.1),(false,[.c (.bool v.2)])]) Tryz.func386 trivial
noncomputable def rE:FT (Arpm×Unit) (aa) (λ_=>True) (λx v=>sS v∧v.length≤40):=⟨λ(x0,_)=>
  .cal Ee.c (x0,()) λc1=>
  .ite (!c1) (.ret [])<|
  .cal aW.c (x0.kind,2,()) λc2=>
  .grd (Nat.ble (6+c2.length) aq)<|
  .cal aW.c (x0.srcHw,6,()) λc3=>
  .grd (Nat.ble (([0,1,8,0,6,4]++c2).length+c3.length) aq)<|
  .cal aW.c (x0.srcIp,4,()) λc4=>
  .grd (Nat.ble ((([0,1,8,0,6,4]++c2)++c3).length+c4.length) aq)<|
  .cal aW.c (x0.dstHw,6,()) λc5=>
  .grd (Nat.ble (((([0,1,8,0,6,4]++c2)++c3)++c4).length+c5.length) aq)<|
  .cal aW.c (x0.dstIp,4,()) λc6=>
  .grd (Nat.ble ((((([0,1,8,0,6,4]++c2)++c3)++c4)++c5).length+c6.length) aq)<|
  .ret ((((([0,1,8,0,6,4]++c2)++c3)++c4)++c5)++c6),
 λ(x0,_) hp=>by
  refine Tr.C trivial λc1 hc1 qc1=>Tr.I (λb0=>Tr.R ?_) λb0=>Tr.C trivial λc2 hc2 qc2=>Tr.Gb ?_ λg1=>Tr.C trivial λc3 hc3 qc3=>Tr.Gb ?_ λg2=>Tr.C trivial λc4 hc4 qc4=>Tr.Gb ?_ λg3=>Tr.C trivial λc5 hc5 qc5=>Tr.Gb ?_ λg4=>Tr.C trivial λc6 hc6 qc6=>Tr.Gb ?_ λg5=>Tr.R ?_
  all_goals ((first|(simp only[List.length_append,List.length_cons,List.length_nil,aq,sS]at*;omega)|grind))⟩
noncomputable def zW:=a9 st Tryz.func387 [Pm,kC] (ks:=[.st .arpm]) rE (λv=>[(false,[.c (.str v)])])
noncomputable def ut:FT (aa×Unit) (Int) (λx=>sS x.1) (λ_ _=>True):= .mk λ(x0,_)=>
  .cal Ad.c (x0,()) λc1=>
  .cal D4.c (c1,()) λc2=>
  .ret (IntKind.wrap .i64 (65535-c2))
noncomputable def AQ:=a9 st Tryz.func388 [Tt,XC] (ks:=[.sc .str]) ut rI
noncomputable def wY:FT (Segm×Unit) (Segm×Bool) (λx=>ao x.1) (λx v=>ao v.1):= .mk λ(x0,_)=>
  .val (gW.f (x0,4,())) λc1=>
  .ite c1 (.ret ((⟨0,0,0,0,0,0,⟨0,0,false,false,0,0⟩,[]⟩:Segm),false))<|
  .val (bU.f (())) λc2=>
  .val (gW.f (x0,16,())) λc3=>
  .ite c3 (.ret ((⟨x0.to,x0.from_,x0.ack,0,4,0,c2,[]⟩:Segm),true))<|
  .cal i5.c (x0,()) λc4=>
  .val (bT.f (x0.seq,c4,())) λc5=>
  .ret ((⟨x0.to,x0.from_,0,c5,20,0,c2,[]⟩:Segm),true)
noncomputable def Q3:=a9 st Tryz.func391 [Ax,eC,sZ,dR] (ks:=[.st .segm]) wY (λv=>[(true,si v.1),(false,[.c (.bool v.2)])])
noncomputable def Ue:=[ER]
noncomputable def Wt:Fx:=⟨394,Tryz.f394,[(3000003,rA 0 27)],0⟩
noncomputable def vG:FT (List Half×Half×Int×Unit) (List Half×Bool) (λx=>sS x.1) (λx v=>sS v.1∧(v.1.length:Int)≤x.1.length+1):= .mk λ(x0,x1,x2,_)=>
  .grd (Nat.ble ((2*(0+x0.length)+1024)*96) bo)<|
  .grd (Nat.ble ((2*(0+x0.length)+1024)*96) bo)<|
  .grd (qq ([]++x0) 1 96)<|
  .bnd (β:=Bool×Unit) (.as (λw=>(w.1=false→(([]++x0)++[x1]).length≤64)) (.ite (decide (x2≤(x0.length:Int))) (.ret (true,()))<|
   .cal pr.c ((([]++x0)++[x1]),()) λc1=>
   .ret ((!c1),()))) λ(u2a0,_)=>
  .ite u2a0 (.ret (([]++x0),false))<|
  .ret ((([]++x0)++[x1]),true)
noncomputable def GE:=bM st Wt Ue [] (ks:=[.sc (.sl .half),.st .half,.sc (.int .i64)]) vG (λv=>[(false,[sc (.o true) .half v.1]),(false,[.c (.bool v.2)])]) Tryz.func394 trivial
noncomputable def Vv:=[lD,eC,ca,mO,dR,ya]
def HU:An:=⟨⟨[],[],false,0⟩,⟨[1,2,4,5,8,10],[],false,0⟩,⟨[],[]⟩,[(.normal,⟨[zi 1,zi 2,zi 4,zp 5 0,zp 8 1,zp 10 2],[zx .tupl,zx .opti,.box [.st .conn [.nil .piec]]]⟩)]⟩
def IO:An:=⟨⟨[],[],false,0⟩,⟨[1,2,4,5,8,10],[],false,0⟩,⟨[],[]⟩,[(.normal,⟨[zi 1,zi 2,zi 4,zp 5 0,zp 8 1,zp 10 2],[zx .tupl,zx .opti,.box [.st .conn [.nil .piec]]]⟩)]⟩
noncomputable def UG:Fx:=⟨397,Tryz.f397,[(1000014,HU),(1000018,IO)],0⟩
noncomputable def rD:FT (Tupl×Int×Int×Opti×Int×Unit) (Conn) (λ_=>True) (λx v=>ac v):= .mk λ(x0,x1,x2,x3,x4,_)=>
  .cal eQ.c (x3,()) λc1=>
  .bnd (β:=Int×Int×Int×Tupl×Opti×Conn×Unit) (.as (λw=>ac w.2.2.2.2.2.1) (.ite (!c1) (.val (bU.f (())) λc2=>
    .ret (x1,x2,x4,x0,c2,(⟨⟨0,0,0⟩,0,⟨0,[],0,false,false,false⟩,⟨0,[],[],0,false⟩,0,0,⟨0,0,false,false,0,0⟩,0,0⟩:Conn),()))<|
   .ret (x1,x2,x4,x0,x3,(⟨⟨0,0,0⟩,0,⟨0,[],0,false,false,false⟩,⟨0,[],[],0,false⟩,0,0,⟨0,0,false,false,0,0⟩,0,0⟩:Conn),()))) λ(u3a0,u3a1,u3a2,u3a3,u3a4,u3a5,_)=>
  .cal aI.c (u3a2,16,()) λc4=>
  .bnd (β:=Int×Int×Int×Tupl×Opti×Conn×Unit) (.as (λw=>ac w.2.2.2.2.2.1) (.ite (!c4) (.ret (u3a0,u3a1,0,u3a3,u3a4,({u3a5 with r.held:=[]}:Conn),()))<|
   .ret (u3a0,u3a1,u3a2,u3a3,u3a4,({u3a5 with r.held:=[]}:Conn),()))) λ(u5a0,u5a1,u5a2,u5a3,u5a4,_,_)=>
  .val (fB.f (0,u5a4.scale,())) λc6=>
  .grd (decide (0≤(IntKind.wrap .u64 c6)))<|
  .val (bT.f (u5a0,1,())) λc7=>
  .val (bT.f (u5a1,1,())) λc8=>
  .cal lM.c (c8,()) λc9=>
  .ret (⟨u5a3,1,⟨c7,[],0,false,false,false⟩,c9,(IntKind.wrap .i64 (u5a2*2 ^ (min (IntKind.wrap .u64 c6).toNat 64))),(IntKind.wrap .i64 (u5a2*2 ^ (min (IntKind.wrap .u64 c6).toNat 64))),u5a4,0,0⟩:Conn)
noncomputable def Gz:=bM st UG Vv [] (ks:=[.st .tupl,.sc (.int .i64),.sc (.int .i64),.st .opti,.sc (.int .i64)]) rD (λv=>[(true,fg (.o true) v)]) Tryz.func397 trivial
noncomputable def CJ:=[eC,Qf,T9]
noncomputable def Ch:Fx:=⟨398,Tryz.f398,[(3000004,rA 0 24)],0⟩
noncomputable def kU:FT (Int×Opti×Unit) (Opti) (λ_=>True) (λ_ _=>True):= .mk λ(x0,x1,_)=>
  .val (bU.f (())) λc1=>
  .cal Eo.c (x0,()) λc2=>
  .cal AL.c (x1.echo,()) λc3=>
  .bnd (β:=Bool×Unit) (.ite x1.stamp (.ret (c3.2.2,()))<|
   .ret (false,())) λ(u4a0,_)=>
  .ite u4a0 (.ret (⟨c2,c3.1,c3.2.1,true,x1.val,c1.echo⟩:Opti))<|
  .ret ({c1 with mss:=c2}:Opti)
noncomputable def Cg:=bM st Ch CJ [] (ks:=[.sc (.int .i64),.st .opti]) kU (λv=>[(true,oI v)]) Tryz.func398 trivial
noncomputable def yU:FT (Sndr×Unit) (Int) (λx=>bS x.1) (λ_ _=>True):= .mk λ(x0,_)=>
  .cal gI.c (x0,()) λc1=>
  .val (bT.f (x0.una,c1,())) λc2=>
  .ret c2
noncomputable def JL:=a9 st Tryz.func405 [jt,dR] (ks:=[.st .sndr]) yU rI
noncomputable def NF:=[k7,oG,mO,jt,JL]
noncomputable def Ol:Fx:=⟨406,Tryz.f406,[(3000007,rA 0 79)],0⟩
noncomputable def p9:FT (Sndr×Int×Int×Unit) (Chun×Bool) (λx=>bS x.1) (λx v=>rc v.1∧(v.2=true→SO x.1∧(v.1.text.length:Int)+x.1.sent≤x.1.data.length∧x.1.finSent=false∧(v.1.text=[]→v.1.fin=true)∧(v.1.fin=true→x.1.fin=true∧x.1.done=false∧x.1.sent+v.1.text.length=x.1.data.length))):=⟨λ(x0,x1,x2,_)=>
  .cal fh.c (x0,()) λc1=>
  .ite (!c1) (.ret ((⟨0,[],false⟩:Chun),false))<|
  .val (j1.f (x1,1000000,())) λc2=>
  .val (fB.f (0,c2,())) λc3=>
  .cal gI.c (x0,()) λc4=>
  .val (fB.f (0,(IntKind.wrap .i64 (c3-c4)),())) λc5=>
  .val (j1.f (x2,c5,())) λc6=>
  .val (j1.f (c6,(IntKind.wrap .i64 ((x0.data.length:Int)-x0.sent)),())) λc7=>
  .val (fB.f (0,c7,())) λc8=>
  .cal yU.c (x0,()) λc9=>
  .grd (JQ x0.data x0.sent (IntKind.wrap .i64 (x0.sent+c8)))<|
  .val ((x0.data.take ((IntKind.wrap .i64 (x0.sent+c8)).toNat)).drop x0.sent.toNat) λe10=>
  .ite x0.fin (.ite (!x0.finSent) (.ite (!x0.done) (.ite ((IntKind.wrap .i64 (x0.sent+c8))==(x0.data.length:Int)) (.bnd (β:=Bool×Unit) (.ite (c8==0) (.ret ((!(decide (c8<c5))),()))<|
       .ret (false,())) λ(u11a0,_)=>
      .ite u11a0 (.ret ((⟨0,[],false⟩:Chun),false))<|
      .ret ((⟨c9,e10,(decide (c8<c5))⟩:Chun),true))<|
     .bnd (β:=Bool×Unit) (.ite (c8==0) (.ret (true,()))<|
      .ret (false,())) λ(u12a0,_)=>
     .ite u12a0 (.ret ((⟨0,[],false⟩:Chun),false))<|
     .ret ((⟨c9,e10,false⟩:Chun),true))<|
    .bnd (β:=Bool×Unit) (.ite (c8==0) (.ret (true,()))<|
     .ret (false,())) λ(u13a0,_)=>
    .ite u13a0 (.ret ((⟨0,[],false⟩:Chun),false))<|
    .ret ((⟨c9,e10,false⟩:Chun),true))<|
   .bnd (β:=Bool×Unit) (.ite (c8==0) (.ret (true,()))<|
    .ret (false,())) λ(u14a0,_)=>
   .ite u14a0 (.ret ((⟨0,[],false⟩:Chun),false))<|
   .ret ((⟨c9,e10,false⟩:Chun),true))<|
  .bnd (β:=Bool×Unit) (.ite (c8==0) (.ret (true,()))<|
   .ret (false,())) λ(u15a0,_)=>
  .ite u15a0 (.ret ((⟨0,[],false⟩:Chun),false))<|
  .ret ((⟨c9,e10,false⟩:Chun),true),
 λ(x0,x1,x2,_) hp=>by
  refine Tr.C trivial λc1 hc1 qc1=>Tr.I (λb0=>Tr.R ?_) λb0=>Tr.V λc2 hc2=>Tr.V λc3 hc3=>Tr.C ?_ λc4 hc4 qc4=>Tr.V λc5 hc5=>Tr.V λc6 hc6=>Tr.V λc7 hc7=>Tr.V λc8 hc8=>Tr.C ?_ λc9 hc9 qc9=>Tr.G3 ?_ λg1=>Tr.V λe10 he10=>Tr.I (λb2=>Tr.I (λb3=>Tr.I (λb4=>Tr.I (λb5=>Tr.B (Q':=λ_=>True) (Tr.F (by kernel_rfl) trivial) (λ(u11a0,_) hj11 qj11=>Tr.I (λb6=>Tr.R ?_) λb6=>Tr.R ?_)) λb5=>Tr.B (Q':=λ_=>True) (Tr.F (by kernel_rfl) trivial) (λ(u12a0,_) hj12 qj12=>Tr.I (λb6=>Tr.R ?_) λb6=>Tr.R ?_)) λb4=>Tr.B (Q':=λ_=>True) (Tr.F (by kernel_rfl) trivial) (λ(u13a0,_) hj13 qj13=>Tr.I (λb5=>Tr.R ?_) λb5=>Tr.R ?_)) λb3=>Tr.B (Q':=λ_=>True) (Tr.F (by kernel_rfl) trivial) (λ(u14a0,_) hj14 qj14=>Tr.I (λb4=>Tr.R ?_) λb4=>Tr.R ?_)) λb2=>Tr.B (Q':=λ_=>True) (Tr.F (by kernel_rfl) trivial) (λ(u15a0,_) hj15 qj15=>Tr.I (λb3=>Tr.R ?_) λb3=>Tr.R ?_)
  all_goals ((try simp only[Tr.nice,iz]at*)<;>(first|grind|(have hs:SO x0:=(by grind);have h7:c7≤(x0.data.length:Int)-x0.sent:=(by rw[hc7,kG,am (by grind) (by grind)];split<;>omega);have h8:0≤c8∧c8≤(x0.data.length:Int)-x0.sent:=(by rw[hc8,mD];have:=hs.2.2.2.2.1;split<;>omega);clear hc7 hc8 hc4 hc2 hc3 hc6 hc5;grind)))⟩
noncomputable def BA:=bM st Ol NF [] (ks:=[.st .sndr,.sc (.int .i64),.sc (.int .i64)]) p9 (λv=>[(true,adb v.1),(false,[.c (.bool v.2)])]) Tryz.func406 trivial
noncomputable def oO:FF (Int×Int×Int×Unit) (Bool):=⟨λ(x0,x1,x2,_)=>
  .ite (decide (4294967295<x2)) (.ret true)<|
  .ite (decide (1≤x2)) (.val (tP.f (x0,x1,())) λc1=>
   .ret (decide (c1<x2)))<|
  .ret false⟩
noncomputable def xv:=lI st Tryz.func415 [Fa] (ks:=[.sc (.int .i64),.sc (.int .i64),.sc (.int .i64)]) oO rB
noncomputable def Am:FT (Conn×Int×Unit) (Bool) (λx=>ac x.1) (λ_ _=>True):= .mk λ(x0,x1,_)=>
  .val (β:=Int) (if 0<(if 2147483648<x0.most then 2147483648 else x0.most)then(if 2147483648<x0.most then 2147483648 else x0.most)else 0) λe1=>
  .val (rJ.f (x1,x0.s.una,())) λc2=>
  .cal dr.c (x0.s,()) λc3=>
  .val (bh.f (c2,(IntKind.wrap .i64 (0-e1)),c3,())) λc4=>
  .ret c4
noncomputable def V3:=a9 st Tryz.func417 [yo,sO,bG] (ks:=[.st .conn,.sc (.int .i64)]) Am rB
noncomputable def abt:=[yo,kY,sO,bG,gO]
noncomputable def aaO:Fx:=⟨418,Tryz.f418,[(3000002,rA 0 22)],0⟩
noncomputable def I9:FT (Sndr×Int×Unit) (Sndr×Bool) (λx=>bS x.1) (λx v=>bS v.1):= .mk λ(x0,x1,_)=>
  .val (rJ.f (x1,x0.una,())) λc1=>
  .bnd (β:=Bool×Unit) (.as (λw=>(w.1=false→SO x0)) (.cal bi.c (x0,()) λc2=>
   .ite (!c2) (.ret (true,()))<|
   .cal dr.c (x0,()) λc3=>
   .val (bh.f (c1,0,c3,())) λc4=>
   .ret ((!c4),()))) λ(u5a0,_)=>
  .ite u5a0 (.ret (x0,false))<|
  .grd (JQ x0.data (if(x0.data.length:Int)<c1 then(x0.data.length:Int)else c1) (x0.data.length:Int))<|
  .val ((x0.data.take ((x0.data.length:Int).toNat)).drop ((if(x0.data.length:Int)<c1 then(x0.data.length:Int)else c1).toNat)) λe6=>
  .val (bR.f (x0.una,c1,())) λc7=>
  .val (IntKind.wrap .i64 (x0.sent-(if(x0.data.length:Int)<c1 then(x0.data.length:Int)else c1))) λe8=>
  .ite (c1==(IntKind.wrap .i64 (x0.sent+1))) (.ret ((⟨c7,e6,e8,x0.fin,false,true⟩:Sndr),true))<|
  .ret (({x0 with una:=c7,data:=e6,sent:=e8}:Sndr),true)
noncomputable def ZX:=bM st aaO abt [] (ks:=[.st .sndr,.sc (.int .i64)]) I9 (λv=>[(true,uM v.1),(false,[.c (.bool v.2)])]) Tryz.func418 trivial
noncomputable def CV:=[bG,Vh]
def ym:An:=⟨⟨[],[],false,0⟩,⟨[1,2,4,5],[],false,0⟩,⟨[],[]⟩,[(.normal,⟨[zi 1,zp 2 0,zp 4 1,zp 5 2],[zx .opti,zx .opti,zx .opti]⟩)]⟩
noncomputable def Es:Fx:=⟨424,Tryz.f424,[(1000013,ym)],0⟩
noncomputable def gj:FF (Opti×Int×Unit) (Opti):=⟨λ(x0,x1,_)=>
  .ite (!x0.stamp) (.ret (⟨1460,(-1),false,false,0,0⟩:Opti))<|
  .val (bh.f (x0.scale,0,14,())) λc1=>
  .bnd (β:=Int×Opti×Opti×Opti×Unit) (.ite c1 (.ret (x1,x0,(⟨0,0,false,false,0,0⟩:Opti),(⟨1460,0,false,false,0,0⟩:Opti),()))<|
   .ret (x1,x0,(⟨0,0,false,false,0,0⟩:Opti),(⟨1460,(-1),false,false,0,0⟩:Opti),())) λ(u2a0,u2a1,_,u2a3,_)=>
  .val (pu.f (u2a0,u2a1.scale,u2a1.sack,())) λc3=>
  .ret (⟨u2a3.mss,u2a3.scale,u2a1.sack,true,c3,u2a1.val⟩:Opti)⟩
noncomputable def D6:=Zc st Es CV [] (ks:=[.st .opti,.sc (.int .i64)]) gj (λv=>[(true,oI v)]) Tryz.func424 trivial
noncomputable def EE:=[cx,Wn]
def yk:An:=⟨⟨[],[],false,0⟩,⟨[1,2,4,5],[],false,0⟩,⟨[],[]⟩,[(.normal,⟨[zi 1,zp 2 0,zp 4 1,zp 5 2],[zx .opti,zx .opti,zx .opti]⟩)]⟩
noncomputable def EG:Fx:=⟨443,Tryz.f443,[(1000013,yk)],0⟩
noncomputable def me:FF (Opti×Int×Unit) (Opti):=⟨λ(x0,x1,_)=>
  .ite (!x0.stamp) (.ret (⟨1460,(-1),false,false,0,0⟩:Opti))<|
  .val (bZ.f (x0.scale,0,14,())) λc1=>
  .bnd (β:=Int×Opti×Opti×Opti×Unit) (.ite c1 (.ret (x1,x0,(⟨0,0,false,false,0,0⟩:Opti),(⟨1460,0,false,false,0,0⟩:Opti),()))<|
   .ret (x1,x0,(⟨0,0,false,false,0,0⟩:Opti),(⟨1460,(-1),false,false,0,0⟩:Opti),())) λ(u2a0,u2a1,_,u2a3,_)=>
  .val (Al.f (u2a0,u2a1.scale,u2a1.sack,())) λc3=>
  .ret (⟨u2a3.mss,u2a3.scale,u2a1.sack,true,c3,u2a1.val⟩:Opti)⟩
noncomputable def D9:=Zc st EG EE [] (ks:=[.st .opti,.sc (.int .i64)]) me (λv=>[(true,oI v)]) Tryz.func443 trivial
noncomputable def jq:FT (Sipr×Unit) (Sipr) (λ_=>True) (λ_ _=>True):= .mk λ(x0,_)=>
  .cal lq.c (x0.b,13,()) λc1=>
  .cal lq.c ((IntKind.wrap .u64 (x0.a+x0.b)),32,()) λc2=>
  .cal lq.c (x0.d,16,()) λc3=>
  .val (IntKind.wrap .u64 (c2+(bits .xor .u64 c3 (IntKind.wrap .u64 (x0.c+x0.d))))) λe4=>
  .cal lq.c ((bits .xor .u64 c3 (IntKind.wrap .u64 (x0.c+x0.d))),21,()) λc5=>
  .val (IntKind.wrap .u64 ((IntKind.wrap .u64 (x0.c+x0.d))+(bits .xor .u64 c1 (IntKind.wrap .u64 (x0.a+x0.b))))) λe6=>
  .cal lq.c ((bits .xor .u64 c1 (IntKind.wrap .u64 (x0.a+x0.b))),17,()) λc7=>
  .cal lq.c (e6,32,()) λc8=>
  .ret (⟨e4,(bits .xor .u64 c7 e6),c8,(bits .xor .u64 c5 e4)⟩:Sipr)
noncomputable def DR:=a9 st Tryz.func459 [TP] (ks:=[.st .sipr]) jq (λv=>[(true,Fb v)])
noncomputable def Q4:=[xv,Fa]
noncomputable def QJ:Fx:=⟨463,Tryz.f463,[(3000002,rA 0 16)],0⟩
noncomputable def xy:FF (Int×Int×Int×Int×Unit) (Bool):=⟨λ(x0,x1,x2,x3,_)=>
  .bnd (β:=Bool×Unit) (.ite (decide ((if 65536<x1 then 65536 else x1)<1)) (.ret (true,()))<|
   .ret ((decide (x3<1)),())) λ(u1a0,_)=>
  .ite u1a0 (.ret false)<|
  .val (oO.f (x0,x2,x3,())) λc2=>
  .ite c2 (.ret true)<|
  .val (tP.f (x2,x0,())) λc3=>
  .ret (decide (c3<(if 65536<x1 then 65536 else x1)))⟩
noncomputable def SY:=Zc st QJ Q4 [] (ks:=[.sc (.int .i64),.sc (.int .i64),.sc (.int .i64),.sc (.int .i64)]) xy rB Tryz.func463 trivial
noncomputable def fm:FT (List Bool×Bool×Unit) (Bool) (λx=>sS x.1) (λ_ _=>True):= .mk λ(x0,x1,_)=>
  .cal ri.c (x0,x1,()) λc1=>
  .ret (decide (0≤c1))
noncomputable def Dd:=a9 st Tryz.func465 [JV] (ks:=[.sc (.sl .bool),.sc .bool]) fm rB
noncomputable def Ay:FT (Conn×Int×Unit) (Bool) (λx=>ac x.1) (λ_ _=>True):= .mk λ(x0,x1,_)=>
  .val (rK.f (x1,x0.s.una,())) λc1=>
  .cal gI.c (x0.s,()) λc2=>
  .ite (decide (c1≤c2)) (.ite (decide (0≤c1)) (.ret true)<|
   .ite (decide (2147483648≤x0.most)) (.ret true)<|
   .ite (decide (0<x0.most)) (.ret (decide ((IntKind.wrap .i64 (0-x0.most))≤c1)))<|
   .ret false)<|
  .ret false
noncomputable def Wg:=a9 st Tryz.func481 [yL,jt] (ks:=[.st .conn,.sc (.int .i64)]) Ay rB
noncomputable def abz:=[yL,k7,jt,cx,dR]
def Ov:An:=⟨⟨[],[],false,0⟩,⟨[2,4,5,6,7],[],false,0⟩,⟨[],[]⟩,[(.normal,⟨[zp 2 0,zp 4 1,zb 5,zi 6,zp 7 2],[zx .sndr,zx .sndr,zx .sndr]⟩)]⟩
noncomputable def aba:Fx:=⟨482,Tryz.f482,[(1000032,Ov),(3000002,rA 0 21)],0⟩
noncomputable def Er:FT (Sndr×Int×Unit) (Sndr×Bool) (λx=>bS x.1) (λx v=>bS v.1):= .mk λ(x0,x1,_)=>
  .val (rK.f (x1,x0.una,())) λc1=>
  .bnd (β:=Bool×Unit) (.as (λw=>(w.1=false→SO x0)∧(w.1=false→0≤c1∧c1≤x0.sent+1)) (.cal fh.c (x0,()) λc2=>
   .ite (!c2) (.ret (true,()))<|
   .cal gI.c (x0,()) λc3=>
   .val (bZ.f (c1,0,c3,())) λc4=>
   .ret ((!c4),()))) λ(u5a0,_)=>
  .ite u5a0 (.ret (x0,false))<|
  .val (bT.f (x0.una,c1,())) λc6=>
  .bnd (β:=Bool×Int×Sndr×Sndr×Sndr×Unit) (.as (λw=>bS w.2.2.1∧bS w.2.2.2.1∧bS w.2.2.2.2.1∧0≤w.2.1∧w.2.1≤x0.data.length∧w.2.2.1=x0) (.ite (decide (x0.sent<c1)) (.ret (false,x0.sent,x0,(⟨0,[],0,false,false,false⟩:Sndr),({x0 with una:=c6,finSent:=false,done:=true}:Sndr),()))<|
   .ret (false,c1,x0,(⟨0,[],0,false,false,false⟩:Sndr),({x0 with una:=c6}:Sndr),()))) λ(_,u7a1,u7a2,_,u7a4,_)=>
  .grd (JQ u7a2.data u7a1 (u7a2.data.length:Int))<|
  .ret (({u7a4 with data:=((u7a2.data.take ((u7a2.data.length:Int).toNat)).drop u7a1.toNat),sent:=(IntKind.wrap .i64 (u7a2.sent-u7a1))}:Sndr),true)
noncomputable def PZ:=bM st aba abz [] (ks:=[.st .sndr,.sc (.int .i64)]) Er (λv=>[(true,uM v.1),(false,[.c (.bool v.2)])]) Tryz.func482 trivial
noncomputable def yX:=[zB,sC,kX,RS,dR,gJ,Vy,OL]
def nj:Sh:=⟨[zi 1,zs 2,zb 3,zp 4 0,zp 8 1,zp 9 2,zi 10,zo 11 3,zi 12],[zg .recv,.box [.st .recv [.nil .piec]],zk .recv 4,za .i64,zf]⟩
def nC:Sh:=⟨[zp 4 0,zp 8 1,zp 9 2,zo 11 3,zi 15,zo 16 4],[zg .recv,.box [.st .recv [.nil .piec]],zk .recv 5,za .i64,za .u8,zf]⟩
def xV:An:=⟨⟨[],[],false,0⟩,⟨[4,8,9,11],[],false,0⟩,⟨[],[]⟩,[(.normal,⟨[zp 4 0,zp 8 1,zp 9 2,zo 11 3],[zg .recv,.box [.st .recv [.nil .piec]],zk .recv 4,za .i64,zf]⟩)]⟩
def ph:An:=⟨⟨[],[],false,0⟩,⟨[4,8,9],[],false,0⟩,⟨[],[]⟩,[(.normal,⟨[zp 4 0,zp 8 1,zp 9 2],[zg .recv,.box [.st .recv [.nil .piec]],zk .recv 3,zf]⟩)]⟩
noncomputable def yz:Fx:=⟨483,Tryz.f483,[(0,lb [1,2,3,4,8,9,10,11,12] [1,2,3,4,8,9,10,11]),(2,lb [4,8,9,11,15,16] [4,8,9,11,15,16]),(1000095,xV),(1000137,ph),(3000002,rA 0 25),(3000010,rA 0 64),(3000013,rA 0 95)],0⟩
noncomputable def sD (v0:Int)(v1:aa)(v3:Int)(v5:Recv)(v4:Int)(a:Recv×List Int):Tr (Stp (Recv×List Int) (Empty)):=
 .val (bT.f (v0,v4,())) λc6=>
 .val (bK.f ((IntKind.wrap .i64 (c6-v5.next)),())) λc7=>
 .bnd (β:=Bool×Unit) (.ite (decide (c7<v3)) (.ite (decide (v5.fin<0)) (.grd (cj a.2 c7)<|
    .ret ((decide ((a.2.getD c7.toNat 0)<0)),()))<|
   .ite (decide (c7<v5.fin)) (.grd (cj a.2 c7)<|
    .ret ((decide ((a.2.getD c7.toNat 0)<0)),()))<|
   .ret (false,()))<|
  .ret (false,())) λ(u8a0,_)=>
 .ite u8a0 (.grd (cj v1 v4)<|
  .grd (cj a.2 c7)<|
  .ret (.next (({a.1 with held:=[]}:Recv),(a.2.set c7.toNat (IntKind.wrap .i64 (ai v1 v4.toNat))))))<|
 .ret (.next (({a.1 with held:=[]}:Recv),a.2))
noncomputable def fL:nj.V→qc nj (Recv×List Int):=λ(v0,v1,v2,v3,v4,v5,v6,v7,v8,_)=>⟨v4,(v6,v8),λv4 a=>(v0,v1,v2,v3,v4,v5,a.1,v7,a.2,()),λv4 _=>(decide (v4<(v1.length:Int))),sD v0 v1 v3 v5,up,1,(Int.toNat ((v1.length:Int)-v4)),Empty.elim,Prod.mk,oN (.exit 0) ⟨[zi 1,zs 2,zb 3,zp 4 0,zp 8 1,zp 9 2,zi 10,zo 11 3],[zg .recv,.box [.st .recv [.nil .piec]],zk .recv 4,za .i64,zf]⟩ (λx=>(v0,v1,v2,v3,v5,({x.2.1 with held:=[]}:Recv),v7,x.2.2,()))⟩
theorem My:LS Tryz.prog yz [0] (fv 0 nj fL):=cI st (aH yX) _ fL [] trivial
theorem KQ {v0 v3 v4:Int}{v1:aa}{v2:Bool}{v5 v6 v7:Recv}{v8:List Int}(h0:0≤v4)(h1:(v1.length:Int)≤4611686018427387904)(h2:v3≤32)(h3:sS v1)(h4:ay v5)(h5:sS v8)(h6:ay v6∧v8.length=v8.length∧v8.length=33):(fL (v0,v1,v2,v3,v4,v5,v6,v7,v8,())).U (v1.length:Int) (λv4 a=>ay a.1∧a.2.length=v8.length∧a.2.length=33) (λ_=>True):=
 iT (a:=(v6,v8)) h0 h1 h6
noncomputable def kN (v4:List Int)(v0:Int)(a:Recv×List Int):Tr (Stp (Recv×List Int) ((Int×Recv×List Int))):=
 .grd (cj v4 v0)<|
 .ite (decide (0≤(v4.getD v0.toNat 0))) (.grd (cj v4 v0)<|
  .grd (qq a.2 1 1)<|
  .ret (.next (({a.1 with held:=[]}:Recv),(a.2++[(IntKind.wrap .u8 (v4.getD v0.toNat 0))]))))<|
 .ret (.out (v0,({a.1 with held:=[]}:Recv),a.2))
noncomputable def eT:nC.V→qF nC (Recv×List Int) (Int×Recv×List Int):=λ(v0,v1,v2,v3,v4,v5,_)=>⟨v0,(v2,v5),λv0 a=>(v0,v1,a.1,v3,v4,a.2,()),λv0 _=>(decide (v0<(v4.length:Int))),kN v4,up,1,(Int.toNat ((v4.length:Int)-v0)),.inl,eR,oB (.exit 2) ⟨[zp 4 0,zp 8 1,zp 9 2,zo 11 3,zi 15,zo 16 4],[zg .recv,.box [.st .recv [.nil .piec]],zk .recv 5,za .i64,za .u8,zf]⟩ (λp=>(p.1,v1,p.2.1,v3,v4,p.2.2,())) (.exit 2) ⟨[zp 4 0,zp 8 1,zp 9 2,zo 11 3,zi 15,zo 16 4],[zg .recv,.box [.st .recv [.nil .piec]],zk .recv 5,za .i64,za .u8,zf]⟩ (λx=>(x.1,v1,({x.2.1 with held:=[]}:Recv),v3,v4,x.2.2,()))⟩
theorem Lx:LS Tryz.prog yz [1] (fv 2 nC eT):=cI st (aH yX) _ eT [] trivial
theorem Kz {v0:Int}{v1 v2 v3:Recv}{v4 v5:List Int}(h0:0≤v0)(h1:(v4.length:Int)≤4611686018427387904)(h2:sS v4)(h3:ay v2∧(v5.length:Int)=v0):(eT (v0,v1,v2,v3,v4,v5,())).U (v4.length:Int) (λv0 a=>ay a.1∧(a.2.length:Int)=v0) (λp=>ay p.2.1∧sS p.2.2∧v0≤p.1∧p.1<(v4.length:Int)∧p.2.2.length≤v4.length):=
 iT (a:=(v2,v5)) h0 h1 h3
noncomputable def rH:FT (Recv×Int×aa×Bool×Unit) (Recv) (λx=>ay x.1∧sS x.2.2.1) (λx v=>ay v∧(v.held.length:Int)≤max x.1.held.length 3):=⟨λ(x0,x1,x2,x3,_)=>
  .cal d7.c (x0,()) λc1=>
  .bnd (β:=Bool×Unit) (.cal ll.c (x0,()) λc2=>
   .ite (!c2) (.ret (true,()))<|
   .ret (x0.done,())) λ(u3a0,_)=>
  .ite u3a0 (.ret c1)<|
  .cal gN.c (x0,()) λc4=>
  .cal vS.c (x0,()) λc5=>
  .lp (fL (x1,x2,x3,c4,0,x0,(⟨0,[],[],0,false⟩:Recv),c1,c5,())).lp λ(_,a9_0,a9_1)=>
  .val (bT.f (x1,(x2.length:Int),())) λc10=>
  .val (bK.f ((IntKind.wrap .i64 (c10-x0.next)),())) λc11=>
  .bnd (β:=Bool×Unit) (.ite x3 (.ite (decide (x0.fin<0)) (.ite (decide (c11≤c4)) (.cal vq.c (a9_1,c11,()) λc12=>
      .ret (c12,()))<|
     .ret (false,()))<|
    .ret (false,()))<|
   .ret (false,())) λ(u13a0,_)=>
  .bnd (β:=WT xV.es) (.ite u13a0 (.ret (x0,({({a9_0 with held:=[]}:Recv)with held:=[]}:Recv),({c1 with fin:=c11}:Recv),a9_1,()))<|
   .ret (x0,({({a9_0 with held:=[]}:Recv)with held:=[]}:Recv),c1,a9_1,())) λ(u14a0,u14a1,u14a2,u14a3,_)=>
  .lp (eT (0,u14a0,({u14a1 with held:=[]}:Recv),u14a2,u14a3,[],())).lp λw15=> .sum w15 (λ(p15a0,p15a1,p15a2)=>
  .grd (Nat.ble (u14a0.data.length+(aw p15a2).length) aq)<|
  .val (bT.f (u14a0.next,p15a0,())) λc16=>
  .cal qp.c (u14a3,p15a0,()) λc17=>
  .bnd (β:=WT ph.es) (.ite (decide (0≤u14a2.fin)) (.ret (u14a0,({p15a1 with held:=[]}:Recv),(⟨c16,(u14a0.data++(aw p15a2)),c17,(IntKind.wrap .i64 (u14a2.fin-p15a0)),u14a2.done⟩:Recv),()))<|
   .ret (u14a0,({p15a1 with held:=[]}:Recv),(⟨c16,(u14a0.data++(aw p15a2)),c17,u14a2.fin,u14a2.done⟩:Recv),())) λ(u18a0,_,u18a2,_)=>
  .ite (u18a2.fin==0) (.val (bT.f (u18a2.next,1,())) λc19=>
   .ite (decide (3<(u18a2.held.length:Int))) (.cal d7.c (u18a0,()) λc20=>
    .ret c20)<|
   .ret (⟨c19,u18a2.data,u18a2.held,(-1),true⟩:Recv))<|
  .ite (decide (3<(u18a2.held.length:Int))) (.cal d7.c (u18a0,()) λc21=>
   .ret c21)<|
  .ret u18a2)<|
  λ(n15,a15_0,a15_1)=>
  .grd (Nat.ble (u14a0.data.length+(aw a15_1).length) aq)<|
  .val (bT.f (u14a0.next,n15,())) λc22=>
  .cal qp.c (u14a3,n15,()) λc23=>
  .bnd (β:=WT ph.es) (.ite (decide (0≤u14a2.fin)) (.ret (u14a0,({({a15_0 with held:=[]}:Recv)with held:=[]}:Recv),(⟨c22,(u14a0.data++(aw a15_1)),c23,(IntKind.wrap .i64 (u14a2.fin-n15)),u14a2.done⟩:Recv),()))<|
   .ret (u14a0,({({a15_0 with held:=[]}:Recv)with held:=[]}:Recv),(⟨c22,(u14a0.data++(aw a15_1)),c23,u14a2.fin,u14a2.done⟩:Recv),())) λ(u24a0,_,u24a2,_)=>
  .ite (u24a2.fin==0) (.val (bT.f (u24a2.next,1,())) λc25=>
   .ite (decide (3<(u24a2.held.length:Int))) (.cal d7.c (u24a0,()) λc26=>
    .ret c26)<|
   .ret (⟨c25,u24a2.data,u24a2.held,(-1),true⟩:Recv))<|
  .ite (decide (3<(u24a2.held.length:Int))) (.cal d7.c (u24a0,()) λc27=>
   .ret c27)<|
  .ret u24a2,
 λ(x0,x1,x2,x3,_) hp=>by
  refine Tr.C ?_ λc1 hc1 qc1=>Tr.B (Q':=λw=>(w.1=false→RO x0)) (Tr.C ?_ λc2 hc2 qc2=>Tr.I (λb0=>Tr.R ?_) λb0=>Tr.R ?_) (λ(u3a0,_) hj3 qj3=>Tr.I (λb0=>Tr.R ?_) λb0=>Tr.C ?_ λc4 hc4 qc4=>Tr.C ?_ λc5 hc5 qc5=>Tr.L (KQ ?_ ?_ ?_ ?_ ?_ ?_ ?_) (λ(a9_0,a9_1) i9=>Tr.V λc10 hc10=>Tr.V λc11 hc11=>Tr.B (Q':=λ_=>True) (Tr.I (λb1=>Tr.I (λb2=>Tr.I (λb3=>Tr.C ?_ λc12 hc12 qc12=>Tr.R trivial) λb3=>Tr.R trivial) λb2=>Tr.R trivial) λb1=>Tr.R trivial) (λ(u13a0,_) hj13 qj13=>Tr.B (Q':=λw=>ay w.1∧ay w.2.1∧ay w.2.2.1∧sS w.2.2.2.1∧w.1=x0∧w.2.2.2.1.length=33∧w.1.data.length≤32) (Tr.I (λb1=>Tr.R ?_) λb1=>Tr.R ?_) (λ(u14a0,u14a1,u14a2,u14a3,_) hj14 qj14=>Tr.L (Kz ?_ ?_ ?_ ?_) (λ(a15_0,a15_1) i15=>Tr.Sr (Tr.Gb ?_ λg1=>Tr.V λc22 hc22=>Tr.C ?_ λc23 hc23 qc23=>Tr.B (Q':=λw=>ay w.1∧ay w.2.1∧ay w.2.2.1∧w.1=x0) (Tr.I (λb2=>Tr.R ?_) λb2=>Tr.R ?_) (λ(u24a0,u24a1,u24a2,_) hj24 qj24=>Tr.I (λb2=>Tr.V λc25 hc25=>Tr.I (λb3=>Tr.C ?_ λc26 hc26 qc26=>Tr.R ?_) λb3=>Tr.R ?_) λb2=>Tr.I (λb3=>Tr.C ?_ λc27 hc27 qc27=>Tr.R ?_) λb3=>Tr.R ?_))) (λ(p15a0,p15a1,p15a2) hp15=>Tr.Sl (Tr.Gb ?_ λg1=>Tr.V λc16 hc16=>Tr.C ?_ λc17 hc17 qc17=>Tr.B (Q':=λw=>ay w.1∧ay w.2.1∧ay w.2.2.1∧w.1=x0) (Tr.I (λb2=>Tr.R ?_) λb2=>Tr.R ?_) (λ(u18a0,u18a1,u18a2,_) hj18 qj18=>Tr.I (λb2=>Tr.V λc19 hc19=>Tr.I (λb3=>Tr.C ?_ λc20 hc20 qc20=>Tr.R ?_) λb3=>Tr.R ?_) λb2=>Tr.I (λb3=>Tr.C ?_ λc21 hc21 qc21=>Tr.R ?_) λb3=>Tr.R ?_)))))) (λp=>Empty.elim p))
  all_goals ((try simp only[fL,eT,LC.lp,LC.ct,Ct.lp,Tr.nice,iz]at*)<;>grind)⟩
noncomputable def Hz:=bM st yz yX [(fv 0 nj fL),(fv 2 nC eT)] (ks:=[.st .recv,.sc (.int .i64),.sc .str,.sc .bool]) rH (λv=>[(true,uy (.o true) v)]) Tryz.func483 ⟨My,Lx,trivial⟩
noncomputable def WZ:=[dD,Sg,gQ,cx]
noncomputable def WR:Fx:=⟨484,Tryz.f484,[(3000003,rA 0 37)],0⟩
noncomputable def sy:FT (Conn×Unit) (Conn) (λx=>ac x.1) (λx v=>ac v):= .mk λ(x0,_)=>
  .cal dH.c (x0,()) λc1=>
  .cal xl.c (x0,()) λc2=>
  .bnd (β:=Bool×Unit) (.as (λw=>(w.1=false→SO ({x0 with state:=c2,timer:=0,tries:=0}:Conn).s∧RO ({x0 with state:=c2,timer:=0,tries:=0}:Conn).r)) (.cal ic.c (({x0 with state:=c2,timer:=0,tries:=0}:Conn),()) λc3=>
   .ite (!c3) (.ret (true,()))<|
   .val (bZ.f (x0.timer,0,4,())) λc4=>
   .ite (!c4) (.ret (true,()))<|
   .val (bZ.f (x0.tries,0,3,())) λc5=>
   .ret ((!c5),()))) λ(u6a0,_)=>
  .ite u6a0 (.cal dH.c (x0,()) λc7=>
   .ret c7)<|
  .ite (c2==x0.state) (.ret ({c1 with state:=c2}:Conn))<|
  .ite (c2==7) (.ite (c2==8) (.ret ({c1 with state:=c2,timer:=0,tries:=0}:Conn))<|
   .ret ({c1 with state:=c2,timer:=4,tries:=0}:Conn))<|
  .ite (c2==8) (.ret ({c1 with state:=c2,timer:=0,tries:=0}:Conn))<|
  .ret ({c1 with state:=c2}:Conn)
noncomputable def XT:=bM st WR WZ [] (ks:=[.st .conn]) sy (λv=>[(true,fg (.o true) v)]) Tryz.func484 trivial
def xK:Sh:=⟨[zi 0,zi 1,zi 2,zi 3,zi 9],[]⟩
noncomputable def jA (v0 v2 v3:Int)(v4:Int)(a:Unit):Tr (Stp (Unit) ((Unit)⊕(Unit))):=
 .ite (decide (v4<65536)) (.val (bT.f (v0,v4,())) λc1=>
  .val (oW.f (c1,v2,v3,())) λc2=>
  .ite c2 (.ret (.out (.inl ())))<|
  .ret (.next ()))<|
 .ret (.out (.inr (())))
noncomputable def lO:xK.V→qF xK Unit ((Unit)⊕(Unit)):=λ(v0,v1,v2,v3,v4,_)=>⟨v4,(),λv4 _=>(v0,v1,v2,v3,v4,()),λv4 _=>(decide (v4<v1)),jA v0 v2 v3,up,1,(Int.toNat (v1-v4)),.inl,eR,λ_ k w=>Sum.elim (oB .ret ⟨[zb 8],[]⟩ (λ_=>(true,())) (.exit 0) ⟨[zu 8],[]⟩ (λ_=>()) _ k) (λ_=>k (.exit 0) (Sh.enc ⟨[zu 8],[]⟩ ())) w⟩
theorem HH {v0 v1 v2 v3 v4:Int}(h0:0≤v4)(h1:v1≤4611686018427387904):(lO (v0,v1,v2,v3,v4,())).U v1 (λ_ _=>True) (λ_=>True):=
 LC.okU (i:=v4) (a:=()) (λ_ _=>rfl) (λ_=>rfl) rfl h0 h1 trivial λv4 _ hj hk hv=>Tr.Z (by kernel_rfl)
noncomputable def xt:FT (Int×Int×Int×Int×Unit) (Bool) (λx=>x.2.1≤4611686018427387904) (λ_ _=>True):= .mk (λ(x0,x1,x2,x3,_)=>
  .lp (lO (x0,x1,x2,x3,0,())).lp λw3=> .sum w3 (λq3=> .sum q3 (λ_=>
  .ret true)<|
  λ_=>
  .ret false)<|
  λ_=>
  .ret false) (qm @HH)
noncomputable def R0:=ez st Tryz.func495 [(0,lb [0,1,2,3,9] [8])] [dR,xh] 0 lO (ks:=[.sc (.int .i64),.sc (.int .i64),.sc (.int .i64),.sc (.int .i64)]) xt rB
noncomputable def kf:FT (Sipr×Unit) (Sipr) (λ_=>True) (λ_ _=>True):= .mk λ(x0,_)=>
  .cal du.c (x0.b,13,()) λc1=>
  .cal du.c ((IntKind.wrap .u64 (x0.a+x0.b)),32,()) λc2=>
  .cal du.c (x0.d,16,()) λc3=>
  .val (IntKind.wrap .u64 (c2+(bits .xor .u64 c3 (IntKind.wrap .u64 (x0.c+x0.d))))) λe4=>
  .cal du.c ((bits .xor .u64 c3 (IntKind.wrap .u64 (x0.c+x0.d))),21,()) λc5=>
  .val (IntKind.wrap .u64 ((IntKind.wrap .u64 (x0.c+x0.d))+(bits .xor .u64 c1 (IntKind.wrap .u64 (x0.a+x0.b))))) λe6=>
  .cal du.c ((bits .xor .u64 c1 (IntKind.wrap .u64 (x0.a+x0.b))),17,()) λc7=>
  .cal du.c (e6,32,()) λc8=>
  .ret (⟨e4,(bits .xor .u64 c7 e6),c8,(bits .xor .u64 c5 e4)⟩:Sipr)
noncomputable def EX:=a9 st Tryz.func500 [D1] (ks:=[.st .sipr]) kf (λv=>[(true,Fb v)])
noncomputable def gP:FT (Int×Int×List Bool×List Int×Unit) (List Bool×List Int) (λx=>sS x.2.2.1∧sS x.2.2.2.1∧0≤x.1∧x.1<x.2.2.1.length∧x.2.2.1.length=x.2.2.2.1.length) (λx v=>sS v.1∧sS v.2∧v.1.length=x.2.2.1.length∧v.2.length=x.2.2.2.1.length):= .mk λ(x0,x1,y2,y3,_)=>
  .grd (cj y2 x0)<|
  .ite (!(y2.getD x0.toNat false)) (.grd (cj y2 x0)<|
   .grd (cj y3 x0)<|
   .ret ((y2.set x0.toNat true),(y3.set x0.toNat x1)))<|
  .ret (y2,y3)
noncomputable def IH:=cq st ⟨464,Tryz.f464,[],4⟩ [] [] [.sc (.int .i64),.sc (.int .u8),.wr false [.ptr 1],.wr false [.ptr 3]] [.arr .bool,.box [.own 0],.arr .u8,.box [.own 2]] (λx y=>(x.1,x.2.1,y.1,y.2.2.1,())) gP (λv=>[]) (λx y v=>(v.1,(()),v.2,(()),())) Tryz.func464 (by kernel_rfl) trivial
noncomputable def aaU:=[cx,z6,FL,pX]
def Q2:An:=⟨⟨[],[],false,0⟩,⟨[1,2,3],[],false,0⟩,⟨[],[]⟩,[(.normal,⟨[zp 1 0,zb 2,zp 3 1],[zg .acti,.box [.st .acti [.nil .macRow]]]⟩),(.normal,⟨[zp 1 0,zb 2,zp 3 1],[zg .acti,zg .acti]⟩)]⟩
noncomputable def ZP:Fx:=⟨18,Tryz.f18,[(1000009,Q2),(3000016,rA 0 73)],0⟩
noncomputable def ua:FT (Acti×Unit) (Bool) (λx=>bq x.1) (λ_ _=>True):= .mk λ(x0,_)=>
  .bnd (β:=(Bool×Acti×Acti×Unit)⊕(Bool×Acti×Acti×Unit)) (.as (Sum.elim (λw=>bq w.2.1∧bq w.2.2.1) (λw=>bq w.2.1∧bq w.2.2.1)) (.ite (x0.kind==1) (.ret (.inl (false,x0,(⟨x0.kind,⟨0,0,0⟩,0,x0.text,⟨false,0,0,[]⟩⟩:Acti),())))<|
   .ite (x0.kind==3) (.ret (.inr ((false,x0,({x0 with tuple.ip:=0,tuple.port:=0,tuple.my:=0,n:=0,text:=[]}:Acti),()))))<|
   .ite (x0.kind==5) (.ret (.inl (false,x0,({x0 with n:=0,mac.use:=false,mac.k:=0,mac.l:=0,mac.rows:=[]}:Acti),())))<|
   .ite (x0.kind==6) (.ret (.inl (false,x0,({x0 with text:=[],mac.use:=false,mac.k:=0,mac.l:=0,mac.rows:=[]}:Acti),())))<|
   .ite (x0.kind==7) (.ite (x0.kind==7) (.ret (.inl (false,x0,(⟨x0.kind,x0.tuple,0,[],⟨false,0,0,[]⟩⟩:Acti),())))<|
    .ret (.inl (false,x0,(⟨x0.kind,⟨0,0,0⟩,0,[],⟨false,0,0,[]⟩⟩:Acti),())))<|
   .ite (x0.kind==8) (.ret (.inl (false,x0,(⟨x0.kind,x0.tuple,0,[],⟨false,0,0,[]⟩⟩:Acti),())))<|
   .ret (.inl (false,x0,(⟨x0.kind,⟨0,0,0⟩,0,[],⟨false,0,0,[]⟩⟩:Acti),())))) λw1=> .sum w1 (λ(_,u1a1,u1a2,_)=>
  .bnd (β:=Bool×Unit) (.val (bZ.f (u1a1.kind,1,8,())) λc2=>
   .ite (!c2) (.ret (true,()))<|
   .ite (!((u1a1.tuple.ip==u1a2.tuple.ip)&&((u1a1.tuple.port==u1a2.tuple.port)&&((u1a1.tuple.my==u1a2.tuple.my)&&true)))) (.ret (true,()))<|
   .ite (u1a1.n != u1a2.n) (.ret (true,()))<|
   .ite (!(u1a1.text==u1a2.text)) (.ret (true,()))<|
   .cal jS.c (u1a1.mac,({u1a2.mac with rows:=[]}:Mac),()) λc3=>
   .ret ((!c3),())) λ(u4a0,_)=>
  .ite u4a0 (.ret false)<|
  .ite (decide ((u1a1.text.length:Int)≤1600)) (.cal uk.c (u1a1.mac,()) λc5=>
   .ite c5 (.cal lg.c (u1a1.tuple,()) λc6=>
    .ite c6 (.val (bZ.f (u1a1.n,0,65535,())) λc7=>
     .ret c7)<|
    .ret false)<|
   .ret false)<|
  .ret false)<|
  λ(_,u1b1,u1b2,_)=>
  .bnd (β:=Bool×Unit) (.val (bZ.f (u1b1.kind,1,8,())) λc8=>
   .ite (!c8) (.ret (true,()))<|
   .ite (!((u1b1.tuple.ip==u1b2.tuple.ip)&&((u1b1.tuple.port==u1b2.tuple.port)&&((u1b1.tuple.my==u1b2.tuple.my)&&true)))) (.ret (true,()))<|
   .ite (u1b1.n != u1b2.n) (.ret (true,()))<|
   .ite (!(u1b1.text==u1b2.text)) (.ret (true,()))<|
   .cal jS.c (u1b1.mac,u1b2.mac,()) λc9=>
   .ret ((!c9),())) λ(u10a0,_)=>
  .ite u10a0 (.ret false)<|
  .ite (decide ((u1b1.text.length:Int)≤1600)) (.cal uk.c (u1b1.mac,()) λc11=>
   .ite c11 (.cal lg.c (u1b1.tuple,()) λc12=>
    .ite c12 (.val (bZ.f (u1b1.n,0,65535,())) λc13=>
     .ret c13)<|
    .ret false)<|
   .ret false)<|
  .ret false
noncomputable def FU:=bM st ZP aaU [] (ks:=[.st .acti]) ua rB Tryz.func18 trivial
noncomputable def E8:=[wy,dD,ex]
def ry:Sh:=⟨[zp 1 0,zp 2 1,zp 3 2,zi 4],[.box [.st .tabl [.sl .arg,.sl .arg]],.box [.st .tabl [.nil .conn,.nil .tupl]],.box [.st .tabl [.own 3,.nil .tupl]],zf]⟩
def qW:Sh:=⟨[zp 1 0,zp 2 1,zp 3 2,zi 5],[.box [.st .tabl [.sl .arg,.sl .arg]],.box [.st .tabl [.nil .conn,.nil .tupl]],.box [.st .tabl [.own 3,.own 4]],zf,zf]⟩
noncomputable def FP:Fx:=⟨69,Tryz.f69,[(0,la ⟨[1,2,3,4],[.box 3 0 .conn],false,0⟩ ⟨[1,2,3],[],false,0⟩),(2,la ⟨[1,2,3,5],[.box 3 1 .tupl],false,0⟩ ⟨[2,3],[],false,0⟩),(3000005,rA 0 31)],0⟩
noncomputable def wq (v1:Tabl)(v0:Int)(a:Tabl×Tabl):Tr (Stp (Tabl×Tabl) (Empty)):=
 .bnd (β:=Bool×Unit) (.grd (cj v1.conns v0)<|
  .ite ((v1.conns.getD v0.toNat (Ty.zero .conn)).state != 8) (.ret (true,()))<|
  .grd (cj v1.conns v0)<|
  .cal o9.c (v1.waiting,(v1.conns.getD v0.toNat (Ty.zero .conn)).tuple,()) λc4=>
  .ret (c4,())) λ(u5a0,_)=>
 .ite u5a0 (.grd (cj v1.conns v0)<|
  .cal dH.c ((v1.conns.getD v0.toNat (Ty.zero .conn)),()) λc6=>
  .grd (qq a.2.conns 1 208)<|
  .ret (.next ((⟨[],[]⟩:Tabl),(⟨(a.2.conns++[c6]),[]⟩:Tabl))))<|
 .ret (.next ((⟨[],[]⟩:Tabl),(⟨a.2.conns,[]⟩:Tabl)))
noncomputable def i4:ry.V→qc ry (Tabl×Tabl):=λ(v0,v1,v2,v3,_)=>⟨v0,(v2,v3),λv0 a=>(v0,v1,a.1,a.2,()),λv0 _=>(decide (v0<(v1.conns.length:Int))),wq v1,up,1,(Int.toNat ((v1.conns.length:Int)-v0)),Empty.elim,Prod.mk,oN (.exit 0) ⟨[zp 1 0,zp 2 1,zp 3 2],[.box [.st .tabl [.sl .arg,.sl .arg]],.box [.st .tabl [.nil .conn,.nil .tupl]],.box [.st .tabl [.own 3,.nil .tupl]],zf]⟩ (λx=>(v1,(⟨[],[]⟩:Tabl),(⟨x.2.2.conns,[]⟩:Tabl),()))⟩
theorem Sn:LS Tryz.prog FP [0] (fv 0 ry i4):=cI st (aH E8) _ i4 [] trivial
theorem RZ {v0:Int}{v1 v2 v3:Tabl}(h0:0≤v0)(h1:(v1.conns.length:Int)≤4611686018427387904)(h2:aO v1)(h3:aO v2∧(v3.conns.length:Int)≤v0∧cX ac v3.conns∧sS v3.waiting):(i4 (v0,v1,v2,v3,())).U (v1.conns.length:Int) (λv0 a=>aO a.1∧(a.2.conns.length:Int)≤v0∧cX ac a.2.conns∧sS a.2.waiting) (λ_=>True):=
 iT (a:=(v2,v3)) h0 h1 h3
noncomputable def ww (v1:Tabl)(v0:Int)(a:Tabl×Tabl):Tr (Stp (Tabl×Tabl) (Empty)):=
 .grd (cj v1.waiting v0)<|
 .cal dC.c (v1,(v1.waiting.getD v0.toNat (Ty.zero .tupl)),()) λc9=>
 .ite (decide (0≤c9)) (.grd (cj v1.waiting v0)<|
  .grd (qq a.2.waiting 1 24)<|
  .ret (.next ((⟨[],[]⟩:Tabl),(⟨a.2.conns,(a.2.waiting++[(v1.waiting.getD v0.toNat (Ty.zero .tupl))])⟩:Tabl))))<|
 .ret (.next ((⟨[],[]⟩:Tabl),a.2))
noncomputable def je:qW.V→qc qW (Tabl×Tabl):=λ(v0,v1,v2,v3,_)=>⟨v0,(v2,v3),λv0 a=>(v0,v1,a.1,a.2,()),λv0 _=>(decide (v0<(v1.waiting.length:Int))),ww v1,up,1,(Int.toNat ((v1.waiting.length:Int)-v0)),Empty.elim,Prod.mk,oN (.exit 2) ⟨[zp 2 0,zp 3 1],[.box [.st .tabl [.nil .conn,.nil .tupl]],.box [.st .tabl [.own 2,.own 3]],zf,zf]⟩ (λx=>((⟨[],[]⟩:Tabl),x.2.2,()))⟩
theorem R6:LS Tryz.prog FP [1] (fv 2 qW je):=cI st (aH E8) _ je [] trivial
theorem Rx {v0:Int}{v1 v2 v3:Tabl}(h0:0≤v0)(h1:(v1.waiting.length:Int)≤4611686018427387904)(h2:aO v1)(h3:sL ac v3.conns)(h4:aO v2∧v3.conns.length=v3.conns.length∧cX ac v3.conns∧(v3.waiting.length:Int)≤v0):(je (v0,v1,v2,v3,())).U (v1.waiting.length:Int) (λv0 a=>aO a.1∧a.2.conns.length=v3.conns.length∧cX ac a.2.conns∧(a.2.waiting.length:Int)≤v0) (λ_=>True):=
 iT (a:=(v2,v3)) h0 h1 h4
noncomputable def Ag:FT (Tabl×Unit) (Tabl) (λx=>aO x.1) (λx v=>aO v):=⟨λ(x0,_)=>
  .lp (i4 (0,x0,(⟨[],[]⟩:Tabl),(⟨[],[]⟩:Tabl),())).lp λ(_,_,a7_1)=>
  .lp (je (0,x0,(⟨[],[]⟩:Tabl),(⟨(⟨a7_1.conns,[]⟩:Tabl).conns,[]⟩:Tabl),())).lp λ(_,_,a10_1)=>
  .ret a10_1,
 λ(x0,_) hp=>by
  refine Tr.L (RZ ?_ ?_ ?_ ?_) (λ(a7_0,a7_1) _=>Tr.L (Rx ?_ ?_ ?_ ?_ ?_) (λ(a10_0,a10_1) _=>Tr.R ?_) (λp=>Empty.elim p)) (λp=>Empty.elim p)
  all_goals ((try simp only[i4,je,LC.lp,LC.ct,Ct.lp]at*)<;>grind)⟩
noncomputable def F8:=bM st FP E8 [(fv 0 ry i4),(fv 2 qW je)] (ks:=[.st .tabl]) Ag (λv=>[(true,qw (.o true) (.o true) v)]) Tryz.func69 ⟨Sn,R6,trivial⟩
noncomputable def vk:FT (Link×Unit) (Bool) (λx=>ec x.1) (λ_ _=>True):= .mk λ(x0,_)=>
  .cal aI.c (x0.mac,48,()) λc1=>
  .ite c1 (.ite (x0.mac != 281474976710655) (.cal aI.c (x0.ip,32,()) λc2=>
    .ite c2 (.cal u9.c (x0.cache,()) λc3=>
     .ret c3)<|
    .ret false)<|
   .ret false)<|
  .ret false
noncomputable def CB:=a9 st Tryz.func82 [ca,Hu] (ks:=[.st .link]) vk rB
noncomputable def dV:FT (Link×Unit) (Bool) (λx=>ec x.1) (λ_ _=>True):= .mk λ(x0,_)=>
  .cal ae.c (x0.mac,48,()) λc1=>
  .ite c1 (.ite (x0.mac != 281474976710655) (.cal ae.c (x0.ip,32,()) λc2=>
    .ite c2 (.cal gf.c (x0.cache,()) λc3=>
     .ret c3)<|
    .ret false)<|
   .ret false)<|
  .ret false
noncomputable def Cq:=a9 st Tryz.func84 [bX,G6] (ks:=[.st .link]) dV rB
noncomputable def cc:FT (Conn×Unit) (Conn) (λx=>ac x.1) (λx v=>ac v∧v=x.1):=⟨λ(x0,_)=>
  .cal gg.c (x0.r,()) λc1=>
  .ret ({x0 with r.next:=c1.next,r.data:=c1.data,r.held:=c1.held,r.fin:=c1.fin,r.done:=c1.done}:Conn),
 λ(x0,_) hp=>by
  refine Tr.C ?_ λc1 hc1 qc1=>Tr.R ?_
  all_goals ((first|grind|(refine⟨by grind, ?_⟩;first|(simp only[List.nil_append];done)|(subst_vars;rfl)|simp_all)))⟩
noncomputable def cY:=a9 st Tryz.func109 [nV] (ks:=[.st .conn]) cc (λv=>[(true,fg (.o true) v)])
def ul:Sh:=⟨[zp 2 0,zp 3 1,zl 11 .conn,zi 12,zi 13],[.box [.st .tabl [.nil .conn,.nil .tupl]],.box [.st .tabl [.own 2,.own 3]],zf,zf]⟩
noncomputable def ur (v0:List Conn)(v2:Int)(a:Tabl×Tabl):Tr (Stp (Tabl×Tabl) (Empty)):=
 .grd (cj v0 v2)<|
 .cal cc.c ((v0.getD v2.toNat (Ty.zero .conn)),()) λc3=>
 .grd (qq a.2.conns 1 208)<|
 .ret (.next ((⟨[],[]⟩:Tabl),(⟨(a.2.conns++[c3]),a.2.waiting⟩:Tabl)))
noncomputable def gq:ul.V→qc ul (Tabl×Tabl):=λ(v0,v1,v2,v3,v4,_)=>⟨v2,(v3,v4),λv2 a=>(v0,v1,v2,a.1,a.2,()),λv2 _=>(decide (v2<v1)),ur v0,up,1,(Int.toNat (v1-v2)),Empty.elim,Prod.mk,oN (.exit 0) ⟨[zp 2 0,zp 3 1],[.box [.st .tabl [.nil .conn,.nil .tupl]],.box [.st .tabl [.own 2,.own 3]],zf,zf]⟩ (λx=>((⟨[],[]⟩:Tabl),x.2.2,()))⟩
theorem Dh {v0:List Conn}{v1 v2:Int}{v3 v4:Tabl}(h0:0≤v2)(h1:v1≤4611686018427387904)(h2:sL ac v0)(h3:v1≤4294967296)(h4:sS v4.waiting)(h5:v1≤(v0.length:Int))(h6:aO v3∧(v4.conns.length:Int)=v2∧cX ac v4.conns∧v4.waiting.length=v4.waiting.length):(gq (v0,v1,v2,v3,v4,())).U v1 (λv2 a=>aO a.1∧(a.2.conns.length:Int)=v2∧cX ac a.2.conns∧a.2.waiting.length=v4.waiting.length) (λ_=>True):=
 iT (a:=(v3,v4)) h0 h1 h6
noncomputable def fC:FT (Tabl×Unit) (Tabl) (λx=>aO x.1) (λx v=>aO v∧v.conns.length=x.1.conns.length∧v.waiting.length=x.1.waiting.length):=⟨λ(x0,_)=>
  .cal pJ.c (x0.waiting,()) λc1=>
  .lp (gq (x0.conns,(x0.conns.length:Int),0,(⟨[],[]⟩:Tabl),(⟨[],c1⟩:Tabl),())).lp λ(_,_,a4_1)=>
  .ret a4_1,
 λ(x0,_) hp=>by
  refine Tr.C ?_ λ_ _ _=>Tr.L (Dh ?_ ?_ ?_ ?_ ?_ ?_ ?_) (λ(a4_0,a4_1) _=>Tr.R ?_) (λp=>Empty.elim p)
  all_goals ((try simp only[gq,LC.lp,LC.ct,Ct.lp]at*)<;>grind)⟩
noncomputable def kw:=ez st Tryz.func142 [(0,la ⟨[2,3,11,12,13],[.box 3 0 .conn],false,0⟩ ⟨[2,3],[],false,0⟩)] [Im,cY] 0 gq (ks:=[.st .tabl]) fC (λv=>[(true,qw (.o true) (.o true) v)])
noncomputable def cE:FT (Segm×Int×Int×Unit) (aa) (λx=>ao x.1) (λx v=>sS v∧v.length≤1500):=⟨λ(x0,x1,x2,_)=>
  .cal ak.c (x0,()) λc1=>
  .ite (!c1) (.ret [])<|
  .cal cF.c (x0.opts,()) λc2=>
  .val (IntKind.wrap .i64 ((IntKind.wrap .i64 (20+(c2.length:Int)))+(x0.body.length:Int))) λe3=>
  .cal eB.c (x1,x2,e3,()) λc4=>
  .ite (c4==[]) (.ret [])<|
  .cal aA.c (x0.from_,2,()) λc5=>
  .cal aA.c (x0.to,2,()) λc6=>
  .grd (Nat.ble (c5.length+c6.length) aq)<|
  .cal aA.c (x0.seq,4,()) λc7=>
  .grd (Nat.ble ((c5++c6).length+c7.length) aq)<|
  .cal aA.c (x0.ack,4,()) λc8=>
  .grd (Nat.ble (((c5++c6)++c7).length+c8.length) aq)<|
  .val (IntKind.wrap .i64 ((IntKind.wrap .i64 (20+(c2.length:Int))).tdiv 4)) λe9=>
  .cal aA.c ((IntKind.wrap .i64 (e9*16)),1,()) λc10=>
  .grd (Nat.ble ((((c5++c6)++c7)++c8).length+c10.length) aq)<|
  .cal aA.c (x0.flags,1,()) λc11=>
  .grd (Nat.ble (((((c5++c6)++c7)++c8)++c10).length+c11.length) aq)<|
  .cal aA.c (x0.window,2,()) λc12=>
  .grd (Nat.ble ((((((c5++c6)++c7)++c8)++c10)++c11).length+c12.length) aq)<|
  .grd (Nat.ble (2+c2.length) aq)<|
  .grd (Nat.ble (([0,0]++c2).length+x0.body.length) aq)<|
  .grd (Nat.ble (c4.length+((((((c5++c6)++c7)++c8)++c10)++c11)++c12).length) aq)<|
  .grd (Nat.ble ((c4++((((((c5++c6)++c7)++c8)++c10)++c11)++c12)).length+2) aq)<|
  .val ((c4++((((((c5++c6)++c7)++c8)++c10)++c11)++c12))++[0,0]) λe13=>
  .grd (Nat.ble (e13.length+(([0,0]++c2)++x0.body).length) aq)<|
  .cal tH.c ((e13++(([0,0]++c2)++x0.body)),()) λc14=>
  .cal aA.c (c14,2,()) λc15=>
  .grd (Nat.ble (((((((c5++c6)++c7)++c8)++c10)++c11)++c12).length+c15.length) aq)<|
  .grd (Nat.ble ((((((((c5++c6)++c7)++c8)++c10)++c11)++c12)++c15).length+(([0,0]++c2)++x0.body).length) aq)<|
  .val ((((((((c5++c6)++c7)++c8)++c10)++c11)++c12)++c15)++(([0,0]++c2)++x0.body)) λe16=>
  .ret e16,
 λ(x0,x1,x2,_) hp=>by
  refine Tr.C trivial λc1 hc1 qc1=>Tr.I (λb0=>Tr.R ?_) λb0=>Tr.C trivial λc2 hc2 qc2=>Tr.V λe3 he3=>Tr.C trivial λc4 hc4 qc4=>Tr.I (λb1=>Tr.R ?_) λb1=>Tr.C trivial λc5 hc5 qc5=>Tr.C trivial λc6 hc6 qc6=>Tr.Gb ?_ λg2=>Tr.C trivial λc7 hc7 qc7=>Tr.Gb ?_ λg3=>Tr.C trivial λc8 hc8 qc8=>Tr.Gb ?_ λg4=>Tr.V λe9 he9=>Tr.C trivial λc10 hc10 qc10=>Tr.Gb ?_ λg5=>Tr.C trivial λc11 hc11 qc11=>Tr.Gb ?_ λg6=>Tr.C trivial λc12 hc12 qc12=>Tr.Gb ?_ λg7=>Tr.Gb ?_ λg8=>Tr.Gb ?_ λg9=>Tr.Gb ?_ λg10=>Tr.Gb ?_ λg11=>Tr.V λe13 he13=>Tr.Gb ?_ λg12=>Tr.C ?_ λc14 hc14 qc14=>Tr.C trivial λc15 hc15 qc15=>Tr.Gb ?_ λg13=>Tr.Gb ?_ λg14=>Tr.V λe16 he16=>Tr.R ?_
  all_goals ((first|(simp only[List.length_append,List.length_cons,List.length_nil,aq,sS]at*;omega)|grind))⟩
noncomputable def I7:=a9 st Tryz.func154 [jF,IK,yw,kv,FV] (ks:=[.st .segm,.sc (.int .i64),.sc (.int .i64)]) cE (λv=>[(false,[.c (.str v)])])
noncomputable def Tl:=[WK,Ni,Cq,Bu]
noncomputable def US:Fx:=⟨155,Tryz.f155,[(3000003,rA 0 35)],0⟩
noncomputable def jN:FT (Link×Int×aa×Unit) (aa×Bool) (λx=>ec x.1∧sS x.2.2.1) (λx v=>sS v.1):= .mk λ(x0,x1,x2,_)=>
  .cal B2.c (x0.cache,x1,()) λc1=>
  .cal rt.c ((⟨x0.ip,x1,64,6,0,x2⟩:Pack),()) λc2=>
  .bnd (β:=Bool×Unit) (.cal dV.c (x0,()) λc3=>
   .ite (!c3) (.ret (true,()))<|
   .ite (!c1.2) (.ret (true,()))<|
   .ret ((c2==[]),())) λ(u4a0,_)=>
  .ite u4a0 (.ret ([],false))<|
  .cal gv.c ((⟨c1.1,x0.mac,2048,c2⟩:Fram),()) λc5=>
  .ret (c5,(!(c5==[])))
noncomputable def Vm:=bM st US Tl [] (ks:=[.st .link,.sc (.int .i64),.sc .str]) jN (λv=>[(false,[.c (.str v.1)]),(false,[.c (.bool v.2)])]) Tryz.func155 trivial
def zZ:Sh:=⟨[zp 1 0,zp 2 1,zp 3 2,zi 4],[.box [.st .tabl [.sl .arg,.sl .arg]],.box [.st .tabl [.nil .conn,.nil .tupl]],.box [.st .tabl [.own 3,.own 4]],zf,zf]⟩
noncomputable def yv (v1:Tabl)(v0:Int)(a:Tabl×Tabl):Tr (Stp (Tabl×Tabl) (Empty)):=
 .grd (cj v1.conns v0)<|
 .cal dH.c ((v1.conns.getD v0.toNat (Ty.zero .conn)),()) λc2=>
 .grd (qq a.2.conns 1 208)<|
 .ret (.next ((⟨[],[]⟩:Tabl),(⟨(a.2.conns++[c2]),a.2.waiting⟩:Tabl)))
noncomputable def kM:zZ.V→qc zZ (Tabl×Tabl):=λ(v0,v1,v2,v3,_)=>⟨v0,(v2,v3),λv0 a=>(v0,v1,a.1,a.2,()),λv0 _=>(decide (v0<(v1.conns.length:Int))),yv v1,up,1,(Int.toNat ((v1.conns.length:Int)-v0)),Empty.elim,Prod.mk,oN (.exit 0) ⟨[zp 2 0,zp 3 1],[.box [.st .tabl [.nil .conn,.nil .tupl]],.box [.st .tabl [.own 2,.own 3]],zf,zf]⟩ (λx=>((⟨[],[]⟩:Tabl),x.2.2,()))⟩
theorem Kx {v0:Int}{v1 v2 v3:Tabl}(h0:0≤v0)(h1:(v1.conns.length:Int)≤4611686018427387904)(h2:aO v1)(h3:sS v3.waiting)(h4:aO v2∧(v3.conns.length:Int)=v0∧cX ac v3.conns∧v3.waiting.length=v3.waiting.length):(kM (v0,v1,v2,v3,())).U (v1.conns.length:Int) (λv0 a=>aO a.1∧(a.2.conns.length:Int)=v0∧cX ac a.2.conns∧a.2.waiting.length=v3.waiting.length) (λ_=>True):=
 iT (a:=(v2,v3)) h0 h1 h4
noncomputable def mJ:FT (Tabl×Unit) (Tabl) (λx=>aO x.1) (λx v=>aO v∧v.conns.length=x.1.conns.length∧v.waiting.length=x.1.waiting.length):=⟨λ(x0,_)=>
  .grd (Nat.ble ((2*(0+x0.waiting.length)+1024)*24) bo)<|
  .lp (kM (0,x0,(⟨[],[]⟩:Tabl),(⟨[],([]++x0.waiting)⟩:Tabl),())).lp λ(_,_,a3_1)=>
  .ret a3_1,
 λ(x0,_) hp=>by
  refine Tr.Gb ?_ λ_=>Tr.L (Kx ?_ ?_ ?_ ?_ ?_) (λ(a3_0,a3_1) _=>Tr.R ?_) (λp=>Empty.elim p)
  all_goals ((try simp only[kM,LC.lp,LC.ct,Ct.lp]at*)<;>grind)⟩
noncomputable def uo:=ez st Tryz.func166 [(0,la ⟨[1,2,3,4],[.box 3 0 .conn],false,0⟩ ⟨[2,3],[],false,0⟩)] [dD] 0 kM (ks:=[.st .tabl]) mJ (λv=>[(true,qw (.o true) (.o true) v)])
noncomputable def ux:=[SJ]
def li:Sh:=⟨[zp 2 0,zp 3 1,zi 5],[.box [.st .tabl [.sl .arg,.sl .arg]],.box [.st .tabl [.sl .arg,.sl .arg]]]⟩
def lj:Sh:=⟨[zp 2 0,zp 3 1,zi 6],[.box [.st .tabl [.sl .arg,.sl .arg]],.box [.st .tabl [.sl .arg,.sl .arg]]]⟩
noncomputable def uO:Fx:=⟨176,Tryz.f176,[(0,lb [2,3,5] [2,3,4]),(2,lb [2,3,6] [4]),(3000001,rA 0 22)],0⟩
noncomputable def oX (v1 v2:Tabl)(v0:Int)(a:Unit):Tr (Stp (Unit) ((Unit))):=
 .grd (cj v1.conns v0)<|
 .grd (cj v2.conns v0)<|
 .cal wV.c ((v1.conns.getD v0.toNat (Ty.zero .conn)),(v2.conns.getD v0.toNat (Ty.zero .conn)),()) λc2=>
 .ite (!c2) (.ret (.out ()))<|
 .ret (.next ())
noncomputable def fH:li.V→qF li Unit (Unit):=λ(v0,v1,v2,_)=>⟨v0,(),λv0 _=>(v0,v1,v2,()),λv0 _=>(decide (v0<(v1.conns.length:Int))),oX v1 v2,up,1,(Int.toNat ((v1.conns.length:Int)-v0)),.inl,eR,oB .ret ⟨[zp 2 0,zp 3 1,zb 4],[.box [.st .tabl [.sl .arg,.sl .arg]],.box [.st .tabl [.sl .arg,.sl .arg]]]⟩ (λ_=>(false,v1,v2,())) (.exit 0) ⟨[zp 2 0,zp 3 1,zu 4],[.box [.st .tabl [.sl .arg,.sl .arg]],.box [.st .tabl [.sl .arg,.sl .arg]]]⟩ (λ_=>(v1,v2,()))⟩
theorem FC:LS Tryz.prog uO [0] (fv 0 li fH):=cI st (aH ux) _ fH [] trivial
theorem Fo {v0:Int}{v1 v2:Tabl}(h0:0≤v0)(h1:(v1.conns.length:Int)≤4611686018427387904)(h2:aO v1)(h3:aO v2)(h4:(v1.conns.length:Int)≤(v2.conns.length:Int)):(fH (v0,v1,v2,())).U (v1.conns.length:Int) (λ_ _=>True) (λ_=>True):=
 iT h0 h1 trivial
noncomputable def pg (v1 v2:Tabl)(v0:Int)(a:Unit):Tr (Stp (Unit) ((Unit))):=
 .grd (cj v1.waiting v0)<|
 .grd (cj v2.waiting v0)<|
 .ite (!(((v1.waiting.getD v0.toNat (Ty.zero .tupl)).ip==(v2.waiting.getD v0.toNat (Ty.zero .tupl)).ip)&&(((v1.waiting.getD v0.toNat (Ty.zero .tupl)).port==(v2.waiting.getD v0.toNat (Ty.zero .tupl)).port)&&(((v1.waiting.getD v0.toNat (Ty.zero .tupl)).my==(v2.waiting.getD v0.toNat (Ty.zero .tupl)).my)&&true)))) (.ret (.out ()))<|
 .ret (.next ())
noncomputable def fJ:lj.V→qF lj Unit (Unit):=λ(v0,v1,v2,_)=>⟨v0,(),λv0 _=>(v0,v1,v2,()),λv0 _=>(decide (v0<(v1.waiting.length:Int))),pg v1 v2,up,1,(Int.toNat ((v1.waiting.length:Int)-v0)),.inl,eR,oB .ret ⟨[zb 4],[]⟩ (λ_=>(false,())) (.exit 2) ⟨[zu 4],[]⟩ (λ_=>())⟩
theorem Gj:LS Tryz.prog uO [1] (fv 2 lj fJ):=cI st (aH ux) _ fJ [] trivial
theorem pt {v0:Int}{v1 v2:Tabl}(h0:0≤v0)(h1:(v1.waiting.length:Int)≤4611686018427387904)(h2:(v1.waiting.length:Int)≤(v2.waiting.length:Int)):(fJ (v0,v1,v2,())).U (v1.waiting.length:Int) (λ_ _=>True) (λ_=>True):=
 iT h0 h1 trivial
noncomputable def um:FT (Tabl×Tabl×Unit) (Bool) (λx=>aO x.1∧aO x.2.1) (λ_ _=>True):= .mk (λ(x0,x1,_)=>
  .bnd (β:=Bool×Unit) (.ite ((x0.conns.length:Int) != (x1.conns.length:Int)) (.ret (true,()))<|
   .ret (((x0.waiting.length:Int) != (x1.waiting.length:Int)),())) λ(u1a0,_)=>
  .ite u1a0 (.ret false)<|
  .lp (fH (0,x0,x1,())).lp λw3=> .sum w3 (λ_=>
  .ret false)<|
  λ_=>
  .lp (fJ (0,x0,x1,())).lp λw4=> .sum w4 (λ_=>
  .ret false)<|
  λ_=>
  .ret true) (sk4 @Fo @pt @pt @pt)
noncomputable def OI:=bM st uO ux [(fv 0 li fH),(fv 2 lj fJ)] (ks:=[.st .tabl,.st .tabl]) um rB Tryz.func176 ⟨FC,Gj,trivial⟩
noncomputable def yW:=[Sz,gQ,ex,wy]
def oh:Sh:=⟨[zp 2 0,zi 5],[.box [.st .tabl [.sl .arg,.sl .arg]]]⟩
def oc:Sh:=⟨[zp 2 0,zi 6],[.box [.st .tabl [.sl .arg,.sl .arg]]]⟩
noncomputable def zM:Fx:=⟨182,Tryz.f182,[(0,lb [2,5] [2,4]),(2,lb [2,6] [4]),(3000001,rA 0 25)],0⟩
noncomputable def sH (v1:Tabl)(v0:Int)(a:Unit):Tr (Stp (Unit) ((Unit))):=
 .grd (cj v1.conns v0)<|
 .cal ic.c ((v1.conns.getD v0.toNat (Ty.zero .conn)),()) λc3=>
 .ite (!c3) (.ret (.out ()))<|
 .grd (cj v1.conns v0)<|
 .cal dC.c (v1,(v1.conns.getD v0.toNat (Ty.zero .conn)).tuple,()) λc4=>
 .ite (c4 != v0) (.ret (.out ()))<|
 .ret (.next ())
noncomputable def iC:oh.V→qF oh Unit (Unit):=λ(v0,v1,_)=>⟨v0,(),λv0 _=>(v0,v1,()),λv0 _=>(decide (v0<(v1.conns.length:Int))),sH v1,up,1,(Int.toNat ((v1.conns.length:Int)-v0)),.inl,eR,oB .ret ⟨[zp 2 0,zb 4],[.box [.st .tabl [.sl .arg,.sl .arg]]]⟩ (λ_=>(false,v1,())) (.exit 0) ⟨[zp 2 0,zu 4],[.box [.st .tabl [.sl .arg,.sl .arg]]]⟩ (λ_=>(v1,()))⟩
theorem Kc:LS Tryz.prog zM [0] (fv 0 oh iC):=cI st (aH yW) _ iC [] trivial
theorem Lh {v0:Int}{v1:Tabl}(h0:0≤v0)(h1:(v1.conns.length:Int)≤4611686018427387904)(h2:aO v1):(iC (v0,v1,())).U (v1.conns.length:Int) (λ_ _=>True) (λ_=>True):=
 iT h0 h1 trivial
noncomputable def tc (v1:Tabl)(v0:Int)(a:Unit):Tr (Stp (Unit) ((Unit))):=
 .grd ((decide (0≤v0))&&(decide (v0≤(v1.waiting.length:Int))))<|
 .grd (cj v1.waiting v0)<|
 .cal o9.c (((v1.waiting.take v0.toNat).drop 0),(v1.waiting.getD v0.toNat (Ty.zero .tupl)),()) λc6=>
 .ite c6 (.ret (.out ()))<|
 .grd (cj v1.waiting v0)<|
 .cal dC.c (v1,(v1.waiting.getD v0.toNat (Ty.zero .tupl)),()) λc7=>
 .ite (decide (c7<0)) (.ret (.out ()))<|
 .ret (.next ())
noncomputable def il:oc.V→qF oc Unit (Unit):=λ(v0,v1,_)=>⟨v0,(),λv0 _=>(v0,v1,()),λv0 _=>(decide (v0<(v1.waiting.length:Int))),tc v1,up,1,(Int.toNat ((v1.waiting.length:Int)-v0)),.inl,eR,oB .ret ⟨[zb 4],[]⟩ (λ_=>(false,())) (.exit 2) ⟨[zu 4],[]⟩ (λ_=>())⟩
theorem KJ:LS Tryz.prog zM [1] (fv 2 oc il):=cI st (aH yW) _ il [] trivial
theorem s9 {v0:Int}{v1:Tabl}(h0:0≤v0)(h1:(v1.waiting.length:Int)≤4611686018427387904)(h2:aO v1):(il (v0,v1,())).U (v1.waiting.length:Int) (λ_ _=>True) (λ_=>True):=
 iT h0 h1 trivial
noncomputable def uX:FT (Tabl×Limi×Unit) (Bool) (λx=>wS x.1.conns∧cX ac x.1.conns∧wS x.1.waiting) (λx v=>(v=true→x.1.conns.length≤16∧x.1.waiting.length≤16)):= .mk (λ(x0,x1,_)=>
  .bnd (β:=Bool×Unit) (.as (λw=>(w.1=false→x1.halves≤64∧x1.waiting≤16∧x1.conns≤16)) (.cal wG.c (x1,()) λc1=>
   .ite (!c1) (.ret (true,()))<|
   .ite (decide (x1.conns<(x0.conns.length:Int))) (.ret (true,()))<|
   .ret ((decide (x1.waiting<(x0.waiting.length:Int))),()))) λ(u2a0,_)=>
  .ite u2a0 (.ret false)<|
  .lp (iC (0,x0,())).lp λw5=> .sum w5 (λ_=>
  .ret false)<|
  λ_=>
  .lp (il (0,x0,())).lp λw8=> .sum w8 (λ_=>
  .ret false)<|
  λ_=>
  .ret true) (sk4 @Lh @s9 @s9 @s9)
noncomputable def GT:=bM st zM yW [(fv 0 oh iC),(fv 2 oc il)] (ks:=[.st .tabl,.st .limi]) uX rB Tryz.func182 ⟨Kc,KJ,trivial⟩
noncomputable def qd:FT (aa×Unit) (Fram×Bool) (λx=>sS x.1) (λx v=>pS v.1):= .mk λ(x0,_)=>
  .ite (decide ((x0.length:Int)<14)) (.ret ((⟨0,0,0,[]⟩:Fram),false))<|
  .cal eq.c (x0,0,6,()) λc1=>
  .cal eq.c (x0,6,6,()) λc2=>
  .cal eq.c (x0,12,2,()) λc3=>
  .grd ((decide (14≤(x0.length:Int)))&&(decide ((x0.length:Int)≤(x0.length:Int))))<|
  .cal ge.c ((⟨c1,c2,c3,((x0.take ((x0.length:Int).toNat)).drop 14)⟩:Fram),()) λc4=>
  .ite (!c4) (.ret ((⟨0,0,0,[]⟩:Fram),false))<|
  .ret ((⟨c1,c2,c3,((x0.take ((x0.length:Int).toNat)).drop 14)⟩:Fram),true)
noncomputable def OA:=a9 st Tryz.func197 [z0,Hs] (ks:=[.sc .str]) qd (λv=>[(true,YB v.1),(false,[.c (.bool v.2)])])
noncomputable def qe:FT (Keys×Unit) (Keys) (λx=>cC x.1) (λx v=>cC v∧v=x.1):=⟨λ(x0,_)=>
  .cal kD.c (x0.now,()) λc1=>
  .cal kD.c (x0.before,()) λc2=>
  .ret (⟨x0.epoch,c1,c2,x0.two⟩:Keys),
 λ(x0,_) hp=>by
  refine Tr.C ?_ λc1 hc1 qc1=>Tr.C ?_ λc2 hc2 qc2=>Tr.R ?_
  all_goals ((first|grind|(refine⟨by grind, ?_⟩;first|(simp only[List.nil_append];done)|(subst_vars;rfl)|simp_all)))⟩
noncomputable def Bw:=a9 st Tryz.func209 [xg] (ks:=[.st .keys]) qe (λv=>[(true,B5 (.o true) (.o true) v)])
noncomputable def gk:FT (Segm×Unit) (List Segm) (λx=>ao x.1) (λx v=>sL ao v):= .mk λ(x0,_)=>
  .cal kI.c (x0,()) λc1=>
  .ite c1.2 (.ret [c1.1])<|
  .ret []
noncomputable def LG:=a9 st Tryz.func212 [S4] (ks:=[.st .segm]) gk (λv=>[(false,[sc (.o true) .segm v])])
noncomputable def pU:FT (aa×Unit) (Fram×Bool) (λx=>sS x.1) (λx v=>pS v.1):= .mk λ(x0,_)=>
  .ite (decide ((x0.length:Int)<14)) (.ret ((⟨0,0,0,[]⟩:Fram),false))<|
  .grd ((decide (14≤(x0.length:Int)))&&(decide ((x0.length:Int)≤(x0.length:Int))))<|
  .cal bN.c (x0,0,6,()) λc1=>
  .cal bN.c (x0,6,6,()) λc2=>
  .cal bN.c (x0,12,2,()) λc3=>
  .cal fD.c ((⟨c1.1,c2.1,c3.1,((x0.take ((x0.length:Int).toNat)).drop 14)⟩:Fram),()) λc4=>
  .ite (!(c4==x0)) (.ret ((⟨0,0,0,[]⟩:Fram),false))<|
  .ret ((⟨c1.1,c2.1,c3.1,((x0.take ((x0.length:Int).toNat)).drop 14)⟩:Fram),true)
noncomputable def O3:=a9 st Tryz.func224 [qh,lJ] (ks:=[.sc .str]) pU (λv=>[(true,YB v.1),(false,[.c (.bool v.2)])])
noncomputable def T2:=[z0,E7]
noncomputable def Vt:Fx:=⟨257,Tryz.f257,[(3000001,rA 0 12)],0⟩
noncomputable def vi:FT (aa×Unit) (Arpm×Bool) (λx=>sS x.1) (λ_ _=>True):= .mk λ(x0,_)=>
  .bnd (β:=Bool×Unit) (.ite (decide ((x0.length:Int)<28)) (.ret (true,()))<|
   .grd (decide (6≤(x0.length:Int)))<|
   .ret ((!(((x0.take 6).drop 0)==[0,1,8,0,6,4])),())) λ(u1a0,_)=>
  .ite u1a0 (.ret ((⟨0,0,0,0,0⟩:Arpm),false))<|
  .cal eq.c (x0,6,2,()) λc2=>
  .cal eq.c (x0,8,6,()) λc3=>
  .cal eq.c (x0,14,4,()) λc4=>
  .cal eq.c (x0,18,6,()) λc5=>
  .cal eq.c (x0,24,4,()) λc6=>
  .cal nF.c ((⟨c2,c3,c4,c5,c6⟩:Arpm),()) λc7=>
  .ite (!c7) (.ret ((⟨0,0,0,0,0⟩:Arpm),false))<|
  .ret ((⟨c2,c3,c4,c5,c6⟩:Arpm),true)
noncomputable def Ws:=bM st Vt T2 [] (ks:=[.sc .str]) vi (λv=>[(true,LQ v.1),(false,[.c (.bool v.2)])]) Tryz.func257 trivial
noncomputable def mv:FT (aa×Unit) (Bool) (λx=>sS x.1) (λ_ _=>True):= .mk λ(x0,_)=>
  .cal tH.c (x0,()) λc1=>
  .ret (c1==0)
noncomputable def Dw:=a9 st Tryz.func263 [FV] (ks:=[.sc .str]) mv rB
def tB:Sh:=⟨[zs 0,zp 2 0,zp 4 1,zi 5],[zx .opti,zx .opti]⟩
noncomputable def cU (v0:aa)(a:Int×Opti):Tr (Stp (Int×Opti) ((Opti)⊕(Opti×Opti))):=
 .ite (decide (a.1<(v0.length:Int))) (.grd (cj v0 a.1)<|
  .ite ((ai v0 a.1.toNat)==0) (.ret (.out (.inl a.2)))<|
  .ite ((ai v0 a.1.toNat)==1) (.ret (.next ((IntKind.wrap .i64 (a.1+1)),a.2)))<|
  .ite (decide ((v0.length:Int)≤(IntKind.wrap .i64 (a.1+1)))) (.val (bQ.f (())) λc2=>
   .ret (.out (.inr ((c2,a.2)))))<|
  .grd (cj v0 (IntKind.wrap .i64 (a.1+1)))<|
  .bnd (β:=Bool×Unit) (.ite (decide ((IntKind.wrap .i64 (ai v0 ((IntKind.wrap .i64 (a.1+1)).toNat)))<2)) (.ret (true,()))<|
   .ret ((decide ((IntKind.wrap .i64 ((v0.length:Int)-a.1))<(IntKind.wrap .i64 (ai v0 ((IntKind.wrap .i64 (a.1+1)).toNat))))),())) λ(u3a0,_)=>
  .ite u3a0 (.val (bQ.f (())) λc4=>
   .ret (.out (.inr ((c4,a.2)))))<|
  .bnd (β:=Bool×Unit) (.ite ((ai v0 a.1.toNat)==2) (.ret (((IntKind.wrap .i64 (ai v0 ((IntKind.wrap .i64 (a.1+1)).toNat)))==4),()))<|
   .ret (false,())) λ(u5a0,_)=>
  .ite u5a0 (.cal eq.c (v0,(IntKind.wrap .i64 (a.1+2)),2,()) λc6=>
   .val (IntKind.wrap .i64 (a.1+(IntKind.wrap .i64 (ai v0 ((IntKind.wrap .i64 (a.1+1)).toNat))))) λe7=>
   .ret (.next (e7,({a.2 with mss:=c6}:Opti))))<|
  .bnd (β:=Bool×Unit) (.ite ((ai v0 a.1.toNat)==3) (.ret (((IntKind.wrap .i64 (ai v0 ((IntKind.wrap .i64 (a.1+1)).toNat)))==3),()))<|
   .ret (false,())) λ(u8a0,_)=>
  .ite u8a0 (.grd (cj v0 (IntKind.wrap .i64 (a.1+2)))<|
   .val (β:=Int) (if 14<(IntKind.wrap .i64 (ai v0 ((IntKind.wrap .i64 (a.1+2)).toNat)))then 14 else(IntKind.wrap .i64 (ai v0 ((IntKind.wrap .i64 (a.1+2)).toNat)))) λe9=>
   .val (IntKind.wrap .i64 (a.1+(IntKind.wrap .i64 (ai v0 ((IntKind.wrap .i64 (a.1+1)).toNat))))) λe10=>
   .ret (.next (e10,({a.2 with scale:=e9}:Opti))))<|
  .bnd (β:=Bool×Unit) (.ite ((ai v0 a.1.toNat)==4) (.ret (((IntKind.wrap .i64 (ai v0 ((IntKind.wrap .i64 (a.1+1)).toNat)))==2),()))<|
   .ret (false,())) λ(u11a0,_)=>
  .ite u11a0 (.val (IntKind.wrap .i64 (a.1+(IntKind.wrap .i64 (ai v0 ((IntKind.wrap .i64 (a.1+1)).toNat))))) λe12=>
   .ret (.next (e12,({a.2 with sack:=true}:Opti))))<|
  .bnd (β:=Bool×Unit) (.ite ((ai v0 a.1.toNat)==8) (.ret (((IntKind.wrap .i64 (ai v0 ((IntKind.wrap .i64 (a.1+1)).toNat)))==10),()))<|
   .ret (false,())) λ(u13a0,_)=>
  .ite u13a0 (.cal eq.c (v0,(IntKind.wrap .i64 (a.1+2)),4,()) λc14=>
   .cal eq.c (v0,(IntKind.wrap .i64 (a.1+6)),4,()) λc15=>
   .val (IntKind.wrap .i64 (a.1+(IntKind.wrap .i64 (ai v0 ((IntKind.wrap .i64 (a.1+1)).toNat))))) λe16=>
   .ret (.next (e16,({a.2 with stamp:=true,val:=c14,echo:=c15}:Opti))))<|
  .val (IntKind.wrap .i64 (a.1+(IntKind.wrap .i64 (ai v0 ((IntKind.wrap .i64 (a.1+1)).toNat))))) λe17=>
  .ret (.next (e17,a.2)))<|
 .ret (.out (.inl a.2))
instance i_ReadOptions_L0_i:Inhabited ((Opti)⊕(Opti×Opti)):=⟨.inl default⟩
noncomputable def jh:tB.V→LW tB (Int×Opti) ((Opti)⊕(Opti×Opti)):=λ(v0,v1,v2,v3,_)=>⟨(v1,v3),λa=>(v0,a.1,v2,a.2,()),cU v0,Int.toNat ((v0.length:Int)-v1),oB (.exit 0) ⟨[zp 2 0,zu 3,zp 4 1],[zx .opti,zx .opti]⟩ (λp=>(v2,p,())) .ret ⟨[zp 2 0,zb 3,zp 4 1],[zx .opti,zx .opti]⟩ (λp=>(false,p.1,p.2,()))⟩
theorem Cu {v0:aa}{v1:Int}{v2 v3:Opti}(h0:sS v0)(h1:0≤v1):(jh (v0,v1,v2,v3,())).W (λ_=>True):=
 lwW (a:=(v1,v3)) (λa=>0≤a.1) (λa=>Int.toNat ((v0.length:Int)-a.1)) h1
noncomputable def lx:FT (aa×Unit) (Opti×Bool) (λx=>sS x.1) (λ_ _=>True):= .mk (λ(x0,_)=>
  .val (bQ.f (())) λc1=>
  .lp (jh (x0,0,(⟨0,0,false,false,0,0⟩:Opti),c1,())).lp λq18=> .sum q18 (λp18a0=>
  .ret (p18a0,true))<|
  λ(p18b0,_)=>
  .ret (p18b0,false)) (qm @Cu)
noncomputable def HS:=NY st Tryz.func264 [(0,lb [0,2,4,5] [2,3,4]),(3000011,rA 0 42),(3000013,rA 0 44),(3000015,rA 0 56),(3000017,rA 0 70),(3000019,rA 0 78)] [jH,z0] 0 jh (ks:=[.sc .str]) lx (λv=>[(true,oI v.1),(false,[.c (.bool v.2)])])
noncomputable def bC:FT (Conn×Unit) (Segm) (λx=>ac x.1) (λx v=>ao v):= .mk λ(x0,_)=>
  .cal ij.c (x0.s,()) λc1=>
  .cal bB.c (x0.r,()) λc2=>
  .val (bQ.f (())) λc3=>
  .ret (⟨x0.tuple.my,x0.tuple.port,c1,x0.r.next,16,c2,c3,[]⟩:Segm)
noncomputable def vf:=a9 st Tryz.func276 [Kg,kW,jH] (ks:=[.st .conn]) bC (λv=>[(true,si v)])
noncomputable def sI:FT (aa×Unit) (Bool) (λx=>sS x.1) (λ_ _=>True):= .mk λ(x0,_)=>
  .cal ut.c (x0,()) λc1=>
  .ret (c1==0)
noncomputable def Dz:=a9 st Tryz.func286 [AQ] (ks:=[.sc .str]) sI rB
noncomputable def lG:FT (Segm×Int×Int×Unit) (aa) (λx=>ao x.1) (λx v=>sS v∧v.length≤1500):=⟨λ(x0,x1,x2,_)=>
  .cal i1.c (x0,()) λc1=>
  .ite (!c1) (.ret [])<|
  .cal pK.c (x0.opts,()) λc2=>
  .val (IntKind.wrap .i64 ((IntKind.wrap .i64 (20+(c2.length:Int)))+(x0.body.length:Int))) λe3=>
  .cal nJ.c (x1,x2,e3,()) λc4=>
  .ite (c4==[]) (.ret [])<|
  .cal aW.c (x0.from_,2,()) λc5=>
  .cal aW.c (x0.to,2,()) λc6=>
  .grd (Nat.ble (c5.length+c6.length) aq)<|
  .cal aW.c (x0.seq,4,()) λc7=>
  .grd (Nat.ble ((c5++c6).length+c7.length) aq)<|
  .cal aW.c (x0.ack,4,()) λc8=>
  .grd (Nat.ble (((c5++c6)++c7).length+c8.length) aq)<|
  .val (IntKind.wrap .i64 ((IntKind.wrap .i64 (20+(c2.length:Int))).tdiv 4)) λe9=>
  .cal aW.c ((IntKind.wrap .i64 (e9*16)),1,()) λc10=>
  .grd (Nat.ble ((((c5++c6)++c7)++c8).length+c10.length) aq)<|
  .cal aW.c (x0.flags,1,()) λc11=>
  .grd (Nat.ble (((((c5++c6)++c7)++c8)++c10).length+c11.length) aq)<|
  .cal aW.c (x0.window,2,()) λc12=>
  .grd (Nat.ble ((((((c5++c6)++c7)++c8)++c10)++c11).length+c12.length) aq)<|
  .grd (Nat.ble (2+c2.length) aq)<|
  .grd (Nat.ble (([0,0]++c2).length+x0.body.length) aq)<|
  .grd (Nat.ble (c4.length+((((((c5++c6)++c7)++c8)++c10)++c11)++c12).length) aq)<|
  .grd (Nat.ble ((c4++((((((c5++c6)++c7)++c8)++c10)++c11)++c12)).length+2) aq)<|
  .val ((c4++((((((c5++c6)++c7)++c8)++c10)++c11)++c12))++[0,0]) λe13=>
  .grd (Nat.ble (e13.length+(([0,0]++c2)++x0.body).length) aq)<|
  .cal ut.c ((e13++(([0,0]++c2)++x0.body)),()) λc14=>
  .cal aW.c (c14,2,()) λc15=>
  .grd (Nat.ble (((((((c5++c6)++c7)++c8)++c10)++c11)++c12).length+c15.length) aq)<|
  .grd (Nat.ble ((((((((c5++c6)++c7)++c8)++c10)++c11)++c12)++c15).length+(([0,0]++c2)++x0.body).length) aq)<|
  .val ((((((((c5++c6)++c7)++c8)++c10)++c11)++c12)++c15)++(([0,0]++c2)++x0.body)) λe16=>
  .ret e16,
 λ(x0,x1,x2,_) hp=>by
  refine Tr.C trivial λc1 hc1 qc1=>Tr.I (λb0=>Tr.R ?_) λb0=>Tr.C trivial λc2 hc2 qc2=>Tr.V λe3 he3=>Tr.C trivial λc4 hc4 qc4=>Tr.I (λb1=>Tr.R ?_) λb1=>Tr.C trivial λc5 hc5 qc5=>Tr.C trivial λc6 hc6 qc6=>Tr.Gb ?_ λg2=>Tr.C trivial λc7 hc7 qc7=>Tr.Gb ?_ λg3=>Tr.C trivial λc8 hc8 qc8=>Tr.Gb ?_ λg4=>Tr.V λe9 he9=>Tr.C trivial λc10 hc10 qc10=>Tr.Gb ?_ λg5=>Tr.C trivial λc11 hc11 qc11=>Tr.Gb ?_ λg6=>Tr.C trivial λc12 hc12 qc12=>Tr.Gb ?_ λg7=>Tr.Gb ?_ λg8=>Tr.Gb ?_ λg9=>Tr.Gb ?_ λg10=>Tr.Gb ?_ λg11=>Tr.V λe13 he13=>Tr.Gb ?_ λg12=>Tr.C ?_ λc14 hc14 qc14=>Tr.C trivial λc15 hc15 qc15=>Tr.Gb ?_ λg13=>Tr.Gb ?_ λg14=>Tr.V λe16 he16=>Tr.R ?_
  all_goals ((first|(simp only[List.length_append,List.length_cons,List.length_nil,aq,sS]at*;omega)|grind))⟩
noncomputable def xE:=a9 st Tryz.func296 [lB,IL,zK,kC,AQ] (ks:=[.st .segm,.sc (.int .i64),.sc (.int .i64)]) lG (λv=>[(false,[.c (.str v)])])
noncomputable def Jq:FT (Conn×Unit) (Bool) (λx=>ac x.1) (λ_ _=>True):= .mk λ(x0,_)=>
  .cal ic.c (x0,()) λc1=>
  .ite c1 (.ite (x0.state==7) (.ret true)<|
   .ite (x0.state != 8) (.val (C6.f (x0,())) λc2=>
    .ret c2)<|
   .ret false)<|
  .ret false
noncomputable def abi:=a9 st Tryz.func297 [gQ,Xo] (ks:=[.st .conn]) Jq rB
noncomputable def j7:FT (Conn×Unit) (Segm) (λx=>ac x.1) (λx v=>ao v):= .mk λ(x0,_)=>
  .cal yU.c (x0.s,()) λc1=>
  .cal gN.c (x0.r,()) λc2=>
  .val (bU.f (())) λc3=>
  .ret (⟨x0.tuple.my,x0.tuple.port,c1,x0.r.next,16,c2,c3,[]⟩:Segm)
noncomputable def vp:=a9 st Tryz.func299 [JL,kX,eC] (ks:=[.st .conn]) j7 (λv=>[(true,si v)])
noncomputable def Us:=[dD,gQ,Y1,BA,vp,HF]
def t7:Sh:=⟨[zi 1,zp 2 0,zp 4 1,zo 6 2],[zk .conn 3,.box [.st .conn [.nil .piec]],za .segm,zf]⟩
noncomputable def Tu:Fx:=⟨301,Tryz.f301,[(0,lb [1,2,4,6] [4,5]),(3000003,rA 0 25)],0⟩
noncomputable def tK (v0:Int)(a:Conn×Conn×List Segm):Tr (Stp (Conn×Conn×List Segm) ((Conn×List Segm))):=
 .val (Ef.f (a.1,())) λc4=>
 .cal p9.c (a.1.s,v0,c4,()) λc5=>
 .ite (!c5.2) (.ret (.out (a.1,a.2.2)))<|
 .cal j7.c (a.1,()) λc6=>
 .ite (!(c5.1.text==[])) (.ite c5.1.fin (.grd (qq a.2.2 1 104)<|
   .val (a.2.2++[({c6 with seq:=c5.1.seq,flags:=(bits .or .i64 (bits .or .i64 c6.flags 8) 1),body:=c5.1.text}:Segm)]) λl7=>
   .cal mH.c (a.1.s,c5.1,()) λc8=>
   .ite (a.1.timer==0) (.ret (.next ((⟨a.1.tuple,a.1.state,c8,a.1.r,a.1.window,a.1.most,a.1.opts,3,a.1.tries⟩:Conn),({a.2.1 with r.held:=[]}:Conn),l7)))<|
   .ret (.next (({a.1 with s.una:=c8.una,s.data:=c8.data,s.sent:=c8.sent,s.fin:=c8.fin,s.finSent:=c8.finSent,s.done:=c8.done}:Conn),({a.2.1 with r.held:=[]}:Conn),l7)))<|
  .grd (qq a.2.2 1 104)<|
  .val (a.2.2++[({c6 with seq:=c5.1.seq,flags:=(bits .or .i64 c6.flags 8),body:=c5.1.text}:Segm)]) λl9=>
  .cal mH.c (a.1.s,c5.1,()) λc10=>
  .ite (a.1.timer==0) (.ret (.next ((⟨a.1.tuple,a.1.state,c10,a.1.r,a.1.window,a.1.most,a.1.opts,3,a.1.tries⟩:Conn),({a.2.1 with r.held:=[]}:Conn),l9)))<|
  .ret (.next (({a.1 with s.una:=c10.una,s.data:=c10.data,s.sent:=c10.sent,s.fin:=c10.fin,s.finSent:=c10.finSent,s.done:=c10.done}:Conn),({a.2.1 with r.held:=[]}:Conn),l9)))<|
 .ite c5.1.fin (.grd (qq a.2.2 1 104)<|
  .val (a.2.2++[({c6 with seq:=c5.1.seq,flags:=(bits .or .i64 c6.flags 1),body:=c5.1.text}:Segm)]) λl11=>
  .cal mH.c (a.1.s,c5.1,()) λc12=>
  .ite (a.1.timer==0) (.ret (.next ((⟨a.1.tuple,a.1.state,c12,a.1.r,a.1.window,a.1.most,a.1.opts,3,a.1.tries⟩:Conn),({a.2.1 with r.held:=[]}:Conn),l11)))<|
  .ret (.next (({a.1 with s.una:=c12.una,s.data:=c12.data,s.sent:=c12.sent,s.fin:=c12.fin,s.finSent:=c12.finSent,s.done:=c12.done}:Conn),({a.2.1 with r.held:=[]}:Conn),l11)))<|
 .grd (qq a.2.2 1 104)<|
 .cal mH.c (a.1.s,c5.1,()) λc13=>
 .ite (a.1.timer==0) (.ret (.next ((⟨a.1.tuple,a.1.state,c13,a.1.r,a.1.window,a.1.most,a.1.opts,3,a.1.tries⟩:Conn),({a.2.1 with r.held:=[]}:Conn),(a.2.2++[({c6 with seq:=c5.1.seq,body:=c5.1.text}:Segm)]))))<|
 .ret (.next (({a.1 with s.una:=c13.una,s.data:=c13.data,s.sent:=c13.sent,s.fin:=c13.fin,s.finSent:=c13.finSent,s.done:=c13.done}:Conn),({a.2.1 with r.held:=[]}:Conn),(a.2.2++[({c6 with seq:=c5.1.seq,body:=c5.1.text}:Segm)])))
noncomputable def mU:t7.V→LW t7 (Conn×Conn×List Segm) ((Conn×List Segm)):=λ(v0,v1,v2,v3,_)=>⟨(v1,v2,v3),λa=>(v0,a.1,a.2.1,a.2.2,()),tK v0,Jo v1.s,oN .ret ⟨[zp 4 0,zo 5 1],[zk .conn 2,za .segm,zf]⟩ (λp=>(p.1,p.2,()))⟩
set_option maxHeartbeats 4000000 in
theorem Wf:LS Tryz.prog Tu [0] (leW 0 t7 mU):=Ux st (aH Us) _ mU [] trivial
theorem Tp {v0:Int}{v1 v2:Conn}{v3:List Segm}(h0:ac v1∧ac v2∧sL ao v3∧v3.length+Jo v1.s≤49):(mU (v0,v1,v2,v3,())).W (λp=>ac p.1∧sL ao p.2∧p.2.length≤49):=
 LW.okW (a:=(v1,v2,v3)) (λa=>ac a.1∧ac a.2.1∧sL ao a.2.2∧a.2.2.length+Jo a.1.s≤49) (λa=>Jo a.1.s) rfl h0 λ(v1,v2,v3) hv=>by
  refine Tr.V λc4 hc4=>Tr.C ?_ λc5 hc5 qc5=>Tr.I (λb0=>Tr.Ro ?_) λb0=>Tr.C ?_ λc6 hc6 qc6=>Tr.I (λb1=>Tr.I (λb2=>Tr.Gb ?_ λg3=>Tr.V λl7 hl7=>Tr.C ?_ λc8 hc8 qc8=>Tr.I (λb4=>Tr.Rn ?_) λb4=>Tr.Rn ?_) λb2=>Tr.Gb ?_ λg3=>Tr.V λl9 hl9=>Tr.C ?_ λc10 hc10 qc10=>Tr.I (λb4=>Tr.Rn ?_) λb4=>Tr.Rn ?_) λb1=>Tr.I (λb2=>Tr.Gb ?_ λg3=>Tr.V λl11 hl11=>Tr.C ?_ λc12 hc12 qc12=>Tr.I (λb4=>Tr.Rn ?_) λb4=>Tr.Rn ?_) λb2=>Tr.Gb ?_ λg3=>Tr.C ?_ λc13 hc13 qc13=>Tr.I (λb4=>Tr.Rn ?_) λb4=>Tr.Rn ?_
  all_goals ((first|grind|(have tl:∀s:aa,s=[]∨0<s.length:=(λs=>by cases s<;>simp);grind)))
noncomputable def nZ:FT (Conn×Int×Unit) (Conn×List Segm) (λx=>ac x.1) (λx v=>ac v.1∧sL ao v.2∧v.2.length≤49):= .mk (λ(x0,x1,_)=>
  .cal dH.c (x0,()) λc1=>
  .bnd (β:=Bool×Unit) (.as (λw=>(w.1=false→SO c1.s∧RO c1.r)) (.cal ic.c (c1,()) λc2=>
   .ite (!c2) (.ret (true,()))<|
   .ite (c1.state==8) (.ret (true,()))<|
   .ret ((c1.state==7),()))) λ(u3a0,_)=>
  .ite u3a0 (.ret (c1,[]))<|
  .lp (mU (x1,c1,(⟨⟨0,0,0⟩,0,⟨0,[],0,false,false,false⟩,⟨0,[],[],0,false⟩,0,0,⟨0,0,false,false,0,0⟩,0,0⟩:Conn),[],())).lp λ(p14a0,p14a1)=>
  .ret (p14a0,p14a1)) (qm @Tp)
noncomputable def Dj:=bM st Tu Us [(leW 0 t7 mU)] (ks:=[.st .conn,.sc (.int .i64)]) nZ (λv=>[(true,fg (.o true) v.1),(false,[sc (.o true) .segm v.2])]) Tryz.func301 ⟨Wf,trivial⟩
noncomputable def vj:FT (Tabl×Conn×Unit) (Tabl) (λx=>aO x.1∧ac x.2.1) (λx v=>aO v):= .mk λ(x0,x1,_)=>
  .cal mJ.c (x0,()) λc1=>
  .cal dC.c (x0,x1.tuple,()) λc2=>
  .ite (decide (0≤c2)) (.cal dH.c (x1,()) λc3=>
   .grd (cj c1.conns c2)<|
   .ret (⟨(c1.conns.set c2.toNat c3),c1.waiting⟩:Tabl))<|
  .ret c1
noncomputable def GP:=a9 st Tryz.func306 [uo,ex,dD] (ks:=[.st .tabl,.st .conn]) vj (λv=>[(true,qw (.o true) (.o true) v)])
noncomputable def kR:FT (Pack×Unit) (aa) (λx=>kS x.1) (λx v=>sS v∧v.length≤1520):=⟨λ(x0,_)=>
  .cal wX.c (x0,()) λc1=>
  .ite (!c1) (.ret [])<|
  .cal aW.c ((IntKind.wrap .i64 (20+(x0.body.length:Int))),2,()) λc2=>
  .grd (Nat.ble (2+c2.length) aq)<|
  .cal aW.c (x0.id,2,()) λc3=>
  .grd (Nat.ble (([69,0]++c2).length+c3.length) aq)<|
  .grd (Nat.ble ((([69,0]++c2)++c3).length+2) aq)<|
  .cal aW.c (x0.ttl,1,()) λc4=>
  .grd (Nat.ble (((([69,0]++c2)++c3)++[0,0]).length+c4.length) aq)<|
  .cal aW.c (x0.proto,1,()) λc5=>
  .grd (Nat.ble ((((([69,0]++c2)++c3)++[0,0])++c4).length+c5.length) aq)<|
  .cal aW.c (x0.src,4,()) λc6=>
  .cal aW.c (x0.dst,4,()) λc7=>
  .grd (Nat.ble (c6.length+c7.length) aq)<|
  .grd (Nat.ble (((((([69,0]++c2)++c3)++[0,0])++c4)++c5).length+(c6++c7).length) aq)<|
  .cal ut.c ((((((([69,0]++c2)++c3)++[0,0])++c4)++c5)++(c6++c7)),()) λc8=>
  .cal aW.c (c8,2,()) λc9=>
  .grd (Nat.ble (((((([69,0]++c2)++c3)++[0,0])++c4)++c5).length+c9.length) aq)<|
  .grd (Nat.ble ((((((([69,0]++c2)++c3)++[0,0])++c4)++c5)++c9).length+(c6++c7).length) aq)<|
  .val ((((((([69,0]++c2)++c3)++[0,0])++c4)++c5)++c9)++(c6++c7)) λe10=>
  .grd (Nat.ble (e10.length+x0.body.length) aq)<|
  .ret (e10++x0.body),
 λ(x0,_) hp=>by
  refine Tr.C trivial λc1 hc1 qc1=>Tr.I (λb0=>Tr.R ?_) λb0=>Tr.C trivial λc2 hc2 qc2=>Tr.Gb ?_ λg1=>Tr.C trivial λc3 hc3 qc3=>Tr.Gb ?_ λg2=>Tr.Gb ?_ λg3=>Tr.C trivial λc4 hc4 qc4=>Tr.Gb ?_ λg4=>Tr.C trivial λc5 hc5 qc5=>Tr.Gb ?_ λg5=>Tr.C trivial λc6 hc6 qc6=>Tr.C trivial λc7 hc7 qc7=>Tr.Gb ?_ λg6=>Tr.Gb ?_ λg7=>Tr.C ?_ λc8 hc8 qc8=>Tr.C trivial λc9 hc9 qc9=>Tr.Gb ?_ λg8=>Tr.Gb ?_ λg9=>Tr.V λe10 he10=>Tr.Gb ?_ λg10=>Tr.R ?_
  all_goals ((first|(simp only[List.length_append,List.length_cons,List.length_nil,aq,sS]at*;omega)|grind))⟩
noncomputable def rX:=a9 st Tryz.func367 [RX,kC,AQ] (ks:=[.st .pack]) kR (λv=>[(false,[.c (.str v)])])
noncomputable def NK:=[kY,sO,Kg]
noncomputable def Od:Fx:=⟨378,Tryz.f378,[(3000007,rA 0 68)],0⟩
noncomputable def bg:FT (Sndr×Int×Int×Unit) (Chun×Bool) (λx=>bS x.1) (λx v=>rc v.1∧(v.2=true→SO x.1∧(v.1.text.length:Int)+x.1.sent≤x.1.data.length∧x.1.finSent=false∧(v.1.text=[]→v.1.fin=true)∧(v.1.fin=true→x.1.fin=true∧x.1.done=false∧x.1.sent+v.1.text.length=x.1.data.length))):= .mk λ(x0,x1,x2,_)=>
  .cal bi.c (x0,()) λc1=>
  .ite (!c1) (.ret ((⟨0,[],false⟩:Chun),false))<|
  .cal dr.c (x0,()) λc2=>
  .grd (JQ x0.data x0.sent (x0.data.length:Int))<|
  .val (((x0.data.take ((x0.data.length:Int).toNat)).drop x0.sent.toNat).length:Int) λe3=>
  .val (β:=Int) (if(IntKind.wrap .i64 ((if x1<(-1)then(-1)else x1)-c2))<(if x2<e3 then x2 else e3)then(IntKind.wrap .i64 ((if x1<(-1)then(-1)else x1)-c2))else(if x2<e3 then x2 else e3)) λe4=>
  .cal ij.c (x0,()) λc5=>
  .grd ((decide (0≤(if 0<e4 then e4 else 0)))&&(decide ((if 0<e4 then e4 else 0)≤(((x0.data.take ((x0.data.length:Int).toNat)).drop x0.sent.toNat).length:Int))))<|
  .val ((((x0.data.take ((x0.data.length:Int).toNat)).drop x0.sent.toNat).take ((if 0<e4 then e4 else 0).toNat)).drop 0) λe6=>
  .ite x0.fin (.ite (!x0.finSent) (.ite (!x0.done) (.val (((x0.data.take ((x0.data.length:Int).toNat)).drop x0.sent.toNat).length:Int) λe7=>
     .ite ((if 0<e4 then e4 else 0)==e7) (.bnd (β:=Bool×Unit) (.ite (e6==[]) (.ret ((!(decide ((if 0<e4 then e4 else 0)<(IntKind.wrap .i64 ((if x1<(-1)then(-1)else x1)-c2))))),()))<|
       .ret (false,())) λ(u8a0,_)=>
      .ite u8a0 (.ret ((⟨0,[],false⟩:Chun),false))<|
      .ret ((⟨c5,e6,(decide ((if 0<e4 then e4 else 0)<(IntKind.wrap .i64 ((if x1<(-1)then(-1)else x1)-c2))))⟩:Chun),true))<|
     .bnd (β:=Bool×Unit) (.ite (e6==[]) (.ret (true,()))<|
      .ret (false,())) λ(u9a0,_)=>
     .ite u9a0 (.ret ((⟨0,[],false⟩:Chun),false))<|
     .ret ((⟨c5,e6,false⟩:Chun),true))<|
    .bnd (β:=Bool×Unit) (.ite (e6==[]) (.ret (true,()))<|
     .ret (false,())) λ(u10a0,_)=>
    .ite u10a0 (.ret ((⟨0,[],false⟩:Chun),false))<|
    .ret ((⟨c5,e6,false⟩:Chun),true))<|
   .bnd (β:=Bool×Unit) (.ite (e6==[]) (.ret (true,()))<|
    .ret (false,())) λ(u11a0,_)=>
   .ite u11a0 (.ret ((⟨0,[],false⟩:Chun),false))<|
   .ret ((⟨c5,e6,false⟩:Chun),true))<|
  .bnd (β:=Bool×Unit) (.ite (e6==[]) (.ret (true,()))<|
   .ret (false,())) λ(u12a0,_)=>
  .ite u12a0 (.ret ((⟨0,[],false⟩:Chun),false))<|
  .ret ((⟨c5,e6,false⟩:Chun),true)
noncomputable def NM:=bM st Od NK [] (ks:=[.st .sndr,.sc (.int .i64),.sc (.int .i64)]) bg (λv=>[(true,adb v.1),(false,[.c (.bool v.2)])]) Tryz.func378 trivial
noncomputable def vv:FT (aa×Unit) (Arpm×Bool) (λx=>sS x.1) (λ_ _=>True):= .mk λ(x0,_)=>
  .ite (decide ((x0.length:Int)<28)) (.ret ((⟨0,0,0,0,0⟩:Arpm),false))<|
  .cal bN.c (x0,6,2,()) λc1=>
  .cal bN.c (x0,8,6,()) λc2=>
  .cal bN.c (x0,14,4,()) λc3=>
  .cal bN.c (x0,18,6,()) λc4=>
  .cal bN.c (x0,24,4,()) λc5=>
  .cal rE.c ((⟨c1.1,c2.1,c3.1,c4.1,c5.1⟩:Arpm),()) λc6=>
  .grd (decide (28≤(x0.length:Int)))<|
  .ite (!(c6==((x0.take 28).drop 0))) (.ret ((⟨0,0,0,0,0⟩:Arpm),false))<|
  .ret ((⟨c1.1,c2.1,c3.1,c4.1,c5.1⟩:Arpm),true)
noncomputable def UE:=a9 st Tryz.func385 [qh,zW] (ks:=[.sc .str]) vv (λv=>[(true,LQ v.1),(false,[.c (.bool v.2)])])
noncomputable def vM:FT (Sipr×Int×Unit) (Sipr) (λ_=>True) (λ_ _=>True):= .mk λ(x0,x1,_)=>
  .cal jq.c (({x0 with d:=(bits .xor .u64 x0.d x1)}:Sipr),()) λc1=>
  .cal jq.c (c1,()) λc2=>
  .ret ({c2 with a:=(bits .xor .u64 c2.a x1)}:Sipr)
noncomputable def U3:=a9 st Tryz.func411 [DR] (ks:=[.st .sipr,.sc (.int .u64)]) vM (λv=>[(true,Fb v)])
noncomputable def EN:FT (Sipr×Unit) (Int) (λ_=>True) (λ_ _=>True):= .mk λ(x0,_)=>
  .cal jq.c (({x0 with c:=(bits .xor .u64 x0.c 255)}:Sipr),()) λc1=>
  .cal jq.c (c1,()) λc2=>
  .cal jq.c (c2,()) λc3=>
  .cal jq.c (c3,()) λc4=>
  .ret (bits .xor .u64 (bits .xor .u64 (bits .xor .u64 c4.a c4.b) c4.c) c4.d)
noncomputable def Xl:=a9 st Tryz.func413 [DR] (ks:=[.st .sipr]) EN (λv=>[(false,[.c (.int .u64 v)])])
noncomputable def MM:=[sx,kW,yo,xv,SY]
noncomputable def KI:Fx:=⟨416,Tryz.f416,[(3000003,rA 0 4)],0⟩
noncomputable def rp:FT (Conn×Segm×Unit) (Bool) (λx=>ac x.1∧ao x.2.1) (λ_ _=>True):= .mk λ(x0,x1,_)=>
  .cal aR.c (x1,()) λc1=>
  .cal bB.c (x0.r,()) λc2=>
  .ite (c1==0) (.bnd (β:=Bool×Unit) (.val (rJ.f (x1.seq,x0.r.next,())) λc3=>
    .ite (c3==0) (.ret (true,()))<|
    .val (oO.f (x1.seq,x0.r.next,c2,())) λc4=>
    .ret (c4,())) λ(u5a0,_)=>
   .ret u5a0)<|
  .val (xy.f (x1.seq,c1,x0.r.next,c2,())) λc6=>
  .ret c6
noncomputable def Nr:=bM st KI MM [] (ks:=[.st .conn,.st .segm]) rp rB Tryz.func416 trivial

end
end Go.Proofs.YteiiknfadjnmgaaGreat
