/-
  Contracts of functions and plain laws (printed by a program): each theorem says what a function of the program returns; conditions are its hypotheses.
-/
import Derived.Test.YtbkjnlihfgkkaaaGreatBase
set_option linter.all false
set_option maxRecDepth 4000
namespace Go.Proofs.YtbkjnlihfgkkaaaGreat
open Go Go.RowKit
noncomputable section
@[reducible] def zp (t i:Nat):Nat×Bool×List Pt:=(t,false,[.ptr i 0])
@[reducible] def zi (t:Nat):Nat×Bool×List Pt:=(t,false,[.int .i64])
@[reducible] def zb (t:Nat):Nat×Bool×List Pt:=(t,false,[.bool])
@[reducible] def zu (t:Nat):Nat×Bool×List Pt:=(t,false,[.undef])
@[reducible] def zs (t:Nat):Nat×Bool×List Pt:=(t,false,[.str])
@[reducible] def zl (n:Nat)(t:Ty):Nat×Bool×List Pt:=(n,false,[.sl .arg t])
@[reducible] def zo (n k:Nat):Nat×Bool×List Pt:=(n,false,[.own k])
@[reducible] def zx (t:Ty):Osh:=.box [.st t []]
@[reducible] def zg (t:Ty):Osh:=.box [.st t [.sl .arg]]
@[reducible] def zk (t:Ty)(k:Nat):Osh:=.box [.st t [.own k]]
@[reducible] def zf :Osh:=.of false true
@[reducible] def za (t:Ty):Osh:=.arr t false true
noncomputable def eP:FF (Tupl×Unit) (Tupl):=⟨λ(x0,_)=>
  .ret x0⟩
noncomputable def kN:=gz aq Tryz.func36 [] (ks:=[.st .tupl]) eP (λv=>[(true,Pq v)])
noncomputable def gk:FX (List Half×Int×Unit) (Int) (λ_=>True) (bC [.sc (.sl .half),.sc (.int .i64)]):=⟨λ(x0,x1,_)=>
  .ite (decide ((IntKind.wrap .i64 (x1-(x0.length:Int)))<0)) (.ret (-1))<|
  .ret (IntKind.wrap .i64 (x1-(x0.length:Int))),
 λ(x0,x1,_) hp hf=>by
  simp only[bC,Pk.fact,fX,eK,Fl.fact,Ty.fl,Ty.toH]at hf
  refine Tr.F (by kernel_rfl) trivial⟩
theorem IO (xs:List Half)(k:Int)(h0:0≤k)(h1:k≤1048576)(hl:xs.length≤140737488355328)(h:0≤gk.f (xs,k,())):gk.f (xs,k,())≤k∧xs.length≤1048576:=by
 have w:IntKind.wrap .i64 (k-(xs.length:Int))=k-(xs.length:Int):=au (by omega) (by omega)
 simp only[FX.f,gk,Tr.nice,w]at h⊢
 by_cases c:k-(xs.length:Int)<0
 ·rw[decide_eq_true c,cond_true]at h;omega
 ·rw[decide_eq_false c,cond_false];exact⟨by omega,by omega⟩
noncomputable def MG:=uh st Tryz.func63 [] (ks:=[.sc (.sl .half),.sc (.int .i64)]) gk rI
noncomputable def sW:FF (Limi×Unit) (Limi):=⟨λ(x0,_)=>
  .ret x0⟩
noncomputable def J4:=gz aq Tryz.func69 [] (ks:=[.st .limi]) sW (λv=>[(true,VX v)])
noncomputable def tw:FF (Limi×Limi×Unit) (Bool):=⟨λ(x0,x1,_)=>
  .ite (x0.halves != x1.halves) (.ret false)<|
  .ite (x0.waiting != x1.waiting) (.ret false)<|
  .ite (x0.conns != x1.conns) (.ret false)<|
  .ite (x0.chal != x1.chal) (.ret false)<|
  .ret true⟩
noncomputable def K0:=gz st Tryz.func76 [] (ks:=[.st .limi,.st .limi]) tw rB
noncomputable def fZ:FF (Segm×Int×Unit) (Bool):=⟨λ(x0,x1,_)=>
  .ret ((bits .and .i64 x0.flags x1)==x1)⟩
noncomputable def wn:=gz st Tryz.func90 [] (ks:=[.st .segm,.sc (.int .i64)]) fZ rB
noncomputable def bk:FF (Segm×Int×Unit) (Bool):=⟨λ(x0,x1,_)=>
  .ret ((bits .and .i64 x0.flags x1)==x1)⟩
noncomputable def wJ:=gz aq Tryz.func95 [] (ks:=[.st .segm,.sc (.int .i64)]) bk rB
noncomputable def bM:FF (Int×Int×Unit) (Int):=⟨λ(x0,x1,_)=>
  .ret (bits .and .i64 (IntKind.wrap .i64 (x0+x1)) 4294967295)⟩
noncomputable def fP:=gz aq Tryz.func96 [] (ks:=[.sc (.int .i64),.sc (.int .i64)]) bM rI
noncomputable def pa:FF (Tupl×Tupl×Unit) (Bool):=⟨λ(x0,x1,_)=>
  .ite (x0.ip != x1.ip) (.ret false)<|
  .ite (x0.port != x1.port) (.ret false)<|
  .ite (x0.my != x1.my) (.ret false)<|
  .ret true⟩
noncomputable def u6:=gz st Tryz.func99 [] (ks:=[.st .tupl,.st .tupl]) pa rB
def tZ:Sh:=⟨[zl 0 .half,zp 3 0,zi 5],[zx .tupl]⟩
noncomputable def uj (v0:List Half)(v2:Tupl)(v1:Int)(a:Unit):Tr (Stp (Unit) ((Int))):=
 .grd (aY v0 v1)<|
 .ite (((v0.getD v1.toNat (Ty.zero .half)).tuple.ip==v2.ip)&&(((v0.getD v1.toNat (Ty.zero .half)).tuple.port==v2.port)&&(((v0.getD v1.toNat (Ty.zero .half)).tuple.my==v2.my)&&true))) (.ret (.out v1))<|
 .ret (.next ())
noncomputable def kp:tZ.V→oi tZ Unit (Int):=λ(v0,v1,v2,_)=>⟨v1,(),λv1 _=>(v0,v1,v2,()),λv1 _=>(decide (v1<(v0.length:Int))),uj v0 v2,up,1,(Int.toNat ((v0.length:Int)-v1)),.inl,eR,oB .ret ⟨[zi 4],[]⟩ (λp=>(p,())) (.exit 0) ⟨[zu 4],[]⟩ (λ_=>())⟩
theorem CZ {v0:List Half}{v1:Int}{v2:Tupl}(h0:0≤v1)(h1:(v0.length:Int)≤4611686018427387904):(kp (v0,v1,v2,())).U (v0.length:Int) (λ_ _=>True) (λp=>v1≤p∧p<(v0.length:Int)):=
 mw h0 h1 trivial
noncomputable def hZ:FT (List Half×Tupl×Unit) (Int) (λx=>wS x.1) (λx v=> -1≤v∧v<x.1.length):= .mk (λ(x0,x1,_)=>
  .lp (kp (x0,0,x1,())).lp λw1=> .sum w1 (λp1a0=>
  .ret p1a0)<|
  λ_=>
  .ret (-1)) (ql @CZ)
noncomputable def lr:=eC st Tryz.func103 [(0,lb [0,3,5] [4])] [] 0 kp (ks:=[.sc (.sl .half),.st .tupl]) hZ rI
def uf:Sh:=⟨[zp 2 0,zp 3 1,zi 5],[.box [.st .tabl [.sl .arg,.sl .arg]],zx .tupl]⟩
noncomputable def ut (v1:Tabl)(v2:Tupl)(v0:Int)(a:Unit):Tr (Stp (Unit) ((Int))):=
 .grd (aY v1.conns v0)<|
 .ite (((v1.conns.getD v0.toNat (Ty.zero .conn)).tuple.ip==v2.ip)&&(((v1.conns.getD v0.toNat (Ty.zero .conn)).tuple.port==v2.port)&&(((v1.conns.getD v0.toNat (Ty.zero .conn)).tuple.my==v2.my)&&true))) (.ret (.out v0))<|
 .ret (.next ())
noncomputable def ka:uf.V→oi uf Unit (Int):=λ(v0,v1,v2,_)=>⟨v0,(),λv0 _=>(v0,v1,v2,()),λv0 _=>(decide (v0<(v1.conns.length:Int))),ut v1 v2,up,1,(Int.toNat ((v1.conns.length:Int)-v0)),.inl,eR,oB .ret ⟨[zi 4],[]⟩ (λp=>(p,())) (.exit 0) ⟨[zu 4],[]⟩ (λ_=>())⟩
theorem Db {v0:Int}{v1:Tabl}{v2:Tupl}(h0:0≤v0)(h1:(v1.conns.length:Int)≤4611686018427387904):(ka (v0,v1,v2,())).U (v1.conns.length:Int) (λ_ _=>True) (λp=>v0≤p∧p<(v1.conns.length:Int)):=
 mw h0 h1 trivial
noncomputable def eA:FT (Tabl×Tupl×Unit) (Int) (λx=>wS x.1.conns) (λx v=> -1≤v∧v<x.1.conns.length):= .mk (λ(x0,x1,_)=>
  .lp (ka (0,x0,x1,())).lp λw1=> .sum w1 (λp1a0=>
  .ret p1a0)<|
  λ_=>
  .ret (-1)) (ql @Db)
noncomputable def gM:=eC st Tryz.func104 [(0,lb [2,3,5] [4])] [] 0 ka (ks:=[.st .tabl,.st .tupl]) eA rI
noncomputable def jh:FF (Opti×Unit) (Opti):=⟨λ(x0,_)=>
  .ret x0⟩
noncomputable def nu:=gz aq Tryz.func107 [] (ks:=[.st .opti]) jh (λv=>[(true,sX v)])
def ux:Sh:=⟨[zi 0,zs 3],[]⟩
noncomputable def Dg (a:Int×aA):Tr (Stp (Int×aA) ((aA))):=
 .ite (decide (0<a.1)) (.grd (Nat.ble ((ay [(IntKind.wrap .u8 (IntKind.wrap .i64 (48+(a.1.tmod 10))))]).length+a.2.length) dF)<|
  .val ((ay [(IntKind.wrap .u8 (IntKind.wrap .i64 (48+(a.1.tmod 10))))])++a.2) λe1=>
  .ret (.next ((IntKind.wrap .i64 (a.1.tdiv 10)),e1)))<|
 .ret (.out a.2)
noncomputable def nZ:ux.V→LW ux (Int×aA) ((aA)):=λ(v0,v1,_)=>⟨(v0,v1),λa=>(a.1,a.2,()),Dg,Int.toNat v0,oN (.exit 0) ⟨[zu 2,zs 3],[]⟩ (λp=>(p,()))⟩
theorem De {v0:Int}{v1:aA}(h0:0≤v0∧v0*10 ^ v1.length≤9223372036854775807∧v1.length≤19):(nZ (v0,v1,())).W (λp=>p.length≤19):=
 LW.okW (a:=(v0,v1)) (λa=>0≤a.1∧a.1*10 ^ a.2.length≤9223372036854775807∧a.2.length≤19) (λa=>Int.toNat a.1) rfl h0 λ(v0,v1) hv=>by
  refine Tr.I (λb0=>Tr.Gb ?_ λg1=>Tr.V λe1 he1=>Tr.Rn ?_) λb0=>Tr.Ro ?_
  all_goals ((first|grind|(obtain⟨h1,h2,h3⟩:=hv;simp only[]at h1 h2 h3 he1;simp only[decide_eq_true_eq]at b0;have hq:(0:Int)<10 ^ v1.length:=Int.pow_pos (by omega);have hm:=Int.mul_le_mul_of_nonneg_left (show(1:Int)≤10 ^ v1.length by omega) h1;have h4:v0≤9223372036854775807:=(by omega);have e:IntKind.wrap .i64 (v0.tdiv 10)=v0/10:=(congrArg IntKind.i64.wrap ((Ac 10).1 h1)).trans (au (by omega) (by omega));have h5:v0/10*10 ^ (v1.length+1)≤v0*10 ^ v1.length:=(by rw[Int.pow_succ,Int.mul_comm (10 ^ v1.length) 10,←Int.mul_assoc];exact Int.mul_le_mul_of_nonneg_right (by omega) (Int.le_of_lt hq));have h6:v1.length≤18:=Classical.byContradiction λhh=>(by have h7:v1.length=19:=(by omega);rw[h7]at h2;omega);have h8:e1.length=v1.length+1:=(by rw[he1,List.length_append,a9];simp only[List.length_cons,List.length_nil];omega);simp only[e,h8];exact⟨⟨by omega,Int.le_trans h5 h2,by omega⟩,by omega⟩)))
noncomputable def bz:FT (Int×Unit) (aA) (λx=>x.1≤9223372036854775807) (λx v=>sS v):= .mk (λ(x0,_)=>
  .ite (decide (x0≤0)) (.ret [109,48])<|
  .lp (nZ (x0,[],())).lp λp2a0=>
  .grd (Nat.ble (1+p2a0.length) dF)<|
  .ret ([109]++p2a0)) (ql @De)
@[grind=] theorem Xp (m:Int):IntKind.wrap .i64 m=min (IntKind.wrap .i64 m) 9223372036854775807:=by rw[dh];omega
noncomputable def fE:=UN st Tryz.func117 [(0,lb [0,3] [2,3])] [] 0 nZ (ks:=[.sc (.int .i64)]) bz (λv=>[(false,[.c (.str v)])])
noncomputable def wM:FF (Int×Segm×Unit) (Tupl):=⟨λ(x0,x1,_)=>
  .ret (⟨x0,x1.from_,x1.to⟩:Tupl)⟩
noncomputable def LH:=gz st Tryz.func134 [] (ks:=[.sc (.int .i64),.st .segm]) wM (λv=>[(true,Pq v)])
noncomputable def pW:FT (List Half×Tupl×Unit) (List Half) (λx=>sS x.1) (λx v=>sS v):= .mk λ(x0,x1,_)=>
  .cal hZ.c (x0,x1,()) λc1=>
  .ite (decide (c1<0)) (.grd (Nat.ble ((2*(0+x0.length)+1024)*96) aM)<|
   .ret ([]++x0))<|
  .grd ((decide (0≤c1))&&(decide (c1≤(x0.length:Int))))<|
  .grd (Nat.ble ((2*(0+((x0.take c1.toNat).drop 0).length)+1024)*96) aM)<|
  .grd (SC x0 (IntKind.wrap .i64 (c1+1)) (x0.length:Int))<|
  .grd (Nat.ble ((2*(([]++((x0.take c1.toNat).drop 0)).length+((x0.take ((x0.length:Int).toNat)).drop ((IntKind.wrap .i64 (c1+1)).toNat)).length)+1024)*96) aM)<|
  .val (([]++((x0.take c1.toNat).drop 0))++((x0.take ((x0.length:Int).toNat)).drop ((IntKind.wrap .i64 (c1+1)).toNat))) λl2=>
  .ret l2
noncomputable def Ar:=bh st Tryz.func136 [lr] (ks:=[.sc (.sl .half),.st .tupl]) pW (λv=>[(false,[sc (.o true) .half v])])
noncomputable def wF:FF (Int×Segm×Unit) (Tupl):=⟨λ(x0,x1,_)=>
  .ret (⟨x0,x1.from_,x1.to⟩:Tupl)⟩
noncomputable def Np:=gz aq Tryz.func138 [] (ks:=[.sc (.int .i64),.st .segm]) wF (λv=>[(true,Pq v)])
noncomputable def DR:FT (Clie×Unit) (Segm) (λ_=>True) (λx v=>ah v):= .mk λ(x0,_)=>
  .ret ({x0 with from_:=x0.tuple.port,to:=x0.tuple.my,seq:=x0.isn,ack:=0,flags:=2,body:=[]}:Segm)
noncomputable def QR:=bh st Tryz.func151 [] (ks:=[.st .clie]) DR (λv=>[(true,pc v)])
noncomputable def DW:FT (Clie×Unit) (Segm) (λ_=>True) (λx v=>ah v):= .mk λ(x0,_)=>
  .ret ({x0 with from_:=x0.tuple.port,to:=x0.tuple.my,seq:=x0.isn,ack:=0,flags:=2,body:=[]}:Segm)
noncomputable def RK:=bh aq Tryz.func155 [] (ks:=[.st .clie]) DW (λv=>[(true,pc v)])
noncomputable def tn:FF (Sndr×Sndr×Unit) (Bool):=⟨λ(x0,x1,_)=>
  .ite (x0.una != x1.una) (.ret false)<|
  .ite (!(x0.data==x1.data)) (.ret false)<|
  .ite (x0.sent != x1.sent) (.ret false)<|
  .ite (!(x0.fin==x1.fin)) (.ret false)<|
  .ite (!(x0.finSent==x1.finSent)) (.ret false)<|
  .ite (!(x0.done==x1.done)) (.ret false)<|
  .ret true⟩
noncomputable def KN:=gz st Tryz.func158 [] (ks:=[.st .sndr,.st .sndr]) tn rB
noncomputable def kR:FF (Opti×Opti×Unit) (Bool):=⟨λ(x0,x1,_)=>
  .ite (x0.mss != x1.mss) (.ret false)<|
  .ite (x0.scale != x1.scale) (.ret false)<|
  .ite (!(x0.sack==x1.sack)) (.ret false)<|
  .ite (!(x0.stamp==x1.stamp)) (.ret false)<|
  .ite (x0.val != x1.val) (.ret false)<|
  .ite (x0.echo != x1.echo) (.ret false)<|
  .ret true⟩
noncomputable def rl:=gz st Tryz.func160 [] (ks:=[.st .opti,.st .opti]) kR rB
noncomputable def gW:FX (List Tupl×Int×Unit) (Int) (λ_=>True) (bC [.sc (.sl .tupl),.sc (.int .i64)]):=⟨λ(x0,x1,_)=>
  .ite (decide ((IntKind.wrap .i64 (x1-(x0.length:Int)))<0)) (.ret (-1))<|
  .ret (IntKind.wrap .i64 (x1-(x0.length:Int))),
 λ(x0,x1,_) hp hf=>by
  simp only[bC,Pk.fact,fX,eK,Fl.fact,Ty.fl,Ty.toH]at hf
  refine Tr.F (by kernel_rfl) trivial⟩
theorem EA (xs:List Tupl)(k:Int)(h0:0≤k)(h1:k≤1048576)(hl:xs.length≤140737488355328)(h:0≤gW.f (xs,k,())):gW.f (xs,k,())≤k∧xs.length≤1048576:=by
 have w:IntKind.wrap .i64 (k-(xs.length:Int))=k-(xs.length:Int):=au (by omega) (by omega)
 simp only[FX.f,gW,Tr.nice,w]at h⊢
 by_cases c:k-(xs.length:Int)<0
 ·rw[decide_eq_true c,cond_true]at h;omega
 ·rw[decide_eq_false c,cond_false];exact⟨by omega,by omega⟩
noncomputable def Je:=uh st Tryz.func164 [] (ks:=[.sc (.sl .tupl),.sc (.int .i64)]) gW rI
noncomputable def aZ:FX (MacRow×Int×Unit) (Int) (λ_=>True) (bC [.st .macRow,.sc (.int .i64)]):=⟨λ(x0,x1,_)=>
  .ite (decide ((IntKind.wrap .i64 (x1-(x0.input.length:Int)))<0)) (.ret (-1))<|
  .ret (IntKind.wrap .i64 (x1-(x0.input.length:Int))),
 λ(x0,x1,_) hp hf=>by
  simp only[bC,Pk.fact,fX,eK,Fl.fact,Ty.fl,Ty.toH]at hf
  refine Tr.F (by kernel_rfl) trivial⟩
theorem PS (x:MacRow)(k:Int)(h0:0≤k)(h1:k≤1048576)(hl:x.input.length≤4611686018427387904)(h:0≤aZ.f (x,k,())):aZ.f (x,k,())≤k∧x.input.length≤1048576:=by
 have w:IntKind.wrap .i64 (k-(x.input.length:Int))=k-(x.input.length:Int):=au (by omega) (by omega)
 simp only[FX.f,aZ,Tr.nice,w]at h⊢
 by_cases c:k-(x.input.length:Int)<0
 ·rw[decide_eq_true c,cond_true]at h;omega
 ·rw[decide_eq_false c,cond_false];exact⟨by omega,by omega⟩
noncomputable def Kj:=uh st Tryz.func165 [] (ks:=[.st .macRow,.sc (.int .i64)]) aZ rI
noncomputable def ju:FT (Mac×Unit) (Mac) (λx=>aP x.1) (λx v=>aP v∧v=x.1):=⟨λ(x0,_)=>
  .grd (Nat.ble ((2*(0+x0.rows.length)+1024)*24) aM)<|
  .ret ({x0 with rows:=([]++x0.rows)}:Mac),
 λ(x0,_) hp=>by
  refine Tr.Gb ?_ λg0=>Tr.R ?_
  all_goals ((first|grind|(refine⟨by grind, ?_⟩;first|(simp only[List.nil_append];done)|(subst_vars;rfl)|simp_all)))⟩
noncomputable def vi:=bh st Tryz.func170 [] (ks:=[.st .mac]) ju (λv=>[(true,Na (.o true) v)])
noncomputable def zv:FF (Half×Unit) (Half):=⟨λ(x0,_)=>
  .val (eP.f (x0.tuple,())) λc1=>
  .val (jh.f (x0.opts,())) λc2=>
  .ret (⟨c1,x0.iss,x0.irs,c2,x0.age,x0.window⟩:Half)⟩
noncomputable def Pc:=gz aq Tryz.func171 [kN,nu] (ks:=[.st .half]) zv (λv=>[(true,VK v)])
def uo:Sh:=⟨[zl 0 .tupl,zo 3 0,zi 4],[za .tupl]⟩
noncomputable def uD (v0:List Tupl)(v1:Int)(a:List Tupl):Tr (Stp (List Tupl) (Empty)):=
 .grd (aY v0 v1)<|
 .val (eP.f ((v0.getD v1.toNat (Ty.zero .tupl)),())) λc1=>
 .grd (aY a v1)<|
 .ret (.next (a.set v1.toNat c1))
noncomputable def iu:uo.V→yQ uo (List Tupl):=λ(v0,v1,v2,_)=>⟨v1,v2,λv1 a=>(v0,v1,a,()),λv1 _=>(decide (v1<(v0.length:Int))),uD v0,up,1,(Int.toNat ((v0.length:Int)-v1)),Empty.elim,Prod.mk,oN (.exit 0) ⟨[zu 2,zo 3 0],[za .tupl]⟩ (λx=>(x.2,()))⟩
theorem CP {v0 v2:List Tupl}{v1:Int}(h0:0≤v1)(h1:(v0.length:Int)≤4611686018427387904)(h2:sS v0)(h3:sS v2)(h4:v2.length=v2.length∧(v0.length:Int)≤(v2.length:Int)):(iu (v0,v1,v2,())).U (v0.length:Int) (λv1 a=>a.length=v2.length∧(v0.length:Int)≤(a.length:Int)) (λ_=>True):=
 mw (a:=v2) h0 h1 h4
noncomputable def tD:FT (List Tupl×Unit) (List Tupl) (λx=>sS x.1) (λx v=>sS v):=⟨λ(x0,_)=>
  .grd ((((decide (0≤(x0.length:Int)))&&(decide ((x0.length:Int)=(x0.length:Int))))&&(decide ((x0.length:Int)*24≤(aM:Int))))&&(decide ((x0.length:Int)≤(aM:Int))))<|
  .lp (iu (x0,0,(List.replicate ((x0.length:Int).toNat) (⟨0,0,0⟩:Tupl)),())).lp λ(_,a2_0)=>
  .ret a2_0,
 λ(x0,_) hp=>by
  refine Tr.G4 ?_ λ_=>Tr.L (CP ?_ ?_ ?_ ?_ ?_) (λa2_0 _=>Tr.R ?_) (λp=>Empty.elim p)
  all_goals ((try simp only[iu,LC.lp,LC.ct,Ct.lp]at*)<;>grind)⟩
noncomputable def KY:=eC aq Tryz.func173 [(0,lb [0,3,4] [2,3])] [kN] 0 iu (ks:=[.sc (.sl .tupl)]) tD (λv=>[(false,[sc (.o true) .tupl v])])
noncomputable def yx:FT (MacRow×Unit) (MacRow) (λx=>aE x.1) (λx v=>aE v):= .mk λ(x0,_)=>
  .ret x0
noncomputable def JR:=bh aq Tryz.func174 [] (ks:=[.st .macRow]) yx (λv=>[(true,TG v)])
noncomputable def dQ:FT (List Half×Unit) (List Half) (λx=>sS x.1) (λx v=>v=x.1):=⟨λx=> .ret x.1,λ_ _=>Tr.R rfl⟩
theorem E2 (x:List Half×Unit)(hp:sS x.1):Bn Tryz.prog 176 (CD [.sc (.sl .half)] x) ((λv=>[rv (.sc (.sl .half)) [.o true] v]) (dQ.f x)):=by
 refine Bn.byNil (t:= .half) (xs:=x.1) (λh=> ?_) ?_
 ·obtain⟨x,_⟩:=x;subst h
  exact Vi st Tryz.func176 (by kernel_rfl) (by kernel_rfl)
 ·exact Vi st Tryz.func176 (by kernel_rfl) (Eq.trans (b:=bif Nat.ble ((2*(0+x.1.length)+1024)*96) aM then some ((λv=>[rv (.sc (.sl .half)) [.o true] v]) x.1)else none) (by kernel_rfl) (by rw[show Nat.ble ((2*(0+x.1.length)+1024)*96) aM=true by simp only[Nat.ble_eq,aM];simp only[sS]at hp;omega];rfl))
noncomputable def pF:Ent1 Tryz.prog:=UO 176 (ks:=[.sc (.sl .half)]) dQ.c (λv=>[rv (.sc (.sl .half)) [.o true] v]) E2
noncomputable def Ay:FF (Half×Half×Unit) (Bool):=⟨λ(x0,x1,_)=>
  .val (pa.f (x0.tuple,x1.tuple,())) λc1=>
  .ite (!c1) (.ret false)<|
  .ite (x0.iss != x1.iss) (.ret false)<|
  .ite (x0.irs != x1.irs) (.ret false)<|
  .val (kR.f (x0.opts,x1.opts,())) λc2=>
  .ite (!c2) (.ret false)<|
  .ite (x0.age != x1.age) (.ret false)<|
  .ite (x0.window != x1.window) (.ret false)<|
  .ret true⟩
noncomputable def PB:=gz st Tryz.func181 [u6,rl] (ks:=[.st .half,.st .half]) Ay rB
def uv:Sh:=⟨[zl 0 .tupl,zl 1 .tupl,zi 5],[]⟩
noncomputable def ul (v0 v1:List Tupl)(v2:Int)(a:Unit):Tr (Stp (Unit) ((Unit))):=
 .grd (aY v0 v2)<|
 .grd (aY v1 v2)<|
 .val (pa.f ((v0.getD v2.toNat (Ty.zero .tupl)),(v1.getD v2.toNat (Ty.zero .tupl)),())) λc1=>
 .ite (!c1) (.ret (.out ()))<|
 .ret (.next ())
noncomputable def ko:uv.V→oi uv Unit (Unit):=λ(v0,v1,v2,_)=>⟨v2,(),λv2 _=>(v0,v1,v2,()),λv2 _=>(decide (v2<(v0.length:Int))),ul v0 v1,up,1,(Int.toNat ((v0.length:Int)-v2)),.inl,eR,oB .ret ⟨[zb 4],[]⟩ (λ_=>(false,())) (.exit 0) ⟨[zu 4],[]⟩ (λ_=>())⟩
theorem Du {v0 v1:List Tupl}{v2:Int}(h0:0≤v2)(h1:(v0.length:Int)≤4611686018427387904)(h2:(v0.length:Int)≤(v1.length:Int)):(ko (v0,v1,v2,())).U (v0.length:Int) (λ_ _=>True) (λ_=>True):=
 mw h0 h1 trivial
noncomputable def sZ:FT (List Tupl×List Tupl×Unit) (Bool) (λx=>sS x.1∧sS x.2.1) (λ_ _=>True):= .mk (λ(x0,x1,_)=>
  .ite ((x0.length:Int) != (x1.length:Int)) (.ret false)<|
  .lp (ko (x0,x1,0,())).lp λw2=> .sum w2 (λ_=>
  .ret false)<|
  λ_=>
  .ret true) (ql @Du)
noncomputable def K2:=eC st Tryz.func183 [(0,lb [0,1,5] [4])] [u6] 0 ko (ks:=[.sc (.sl .tupl),.sc (.sl .tupl)]) sZ rB
noncomputable def tk:FF (MacRow×MacRow×Unit) (Bool):=⟨λ(x0,x1,_)=>
  .ite (!(x0.input==x1.input)) (.ret false)<|
  .ite (x0.value != x1.value) (.ret false)<|
  .ret true⟩
noncomputable def KL:=gz st Tryz.func184 [] (ks:=[.st .macRow,.st .macRow]) tk rB
noncomputable def vd:List (Ent1 Tryz.prog):=[]
def iG:Sh:=⟨[zo 0 0,zi 1,zi 5],[.arr .tupl false false]⟩
noncomputable def vM:Fx:=⟨186,Tryz.f186,[(0,la ⟨[0,1,5],[],false,1⟩ ⟨[1,4],[],false,1⟩)],1⟩
noncomputable def iT (v1:Int)(a:Int×List Tupl):Tr (Stp (Int×List Tupl) (Empty)):=
 .grd (aY a.2 v1)<|
 .grd ((decide (0≤v1))&&(decide (v1<((a.2.set v1.toNat ({(a.2.getD v1.toNat (Ty.zero .tupl))with ip:=a.1}:Tupl)).length:Int))))<|
 .val ((a.2.set v1.toNat ({(a.2.getD v1.toNat (Ty.zero .tupl))with ip:=a.1}:Tupl)).set v1.toNat ({((a.2.set v1.toNat ({(a.2.getD v1.toNat (Ty.zero .tupl))with ip:=a.1}:Tupl)).getD v1.toNat (Ty.zero .tupl))with port:=(IntKind.wrap .i64 (a.1+1))}:Tupl)) λl1=>
 .grd (aY l1 v1)<|
 .val (l1.set v1.toNat ({(l1.getD v1.toNat (Ty.zero .tupl))with my:=(IntKind.wrap .i64 ((IntKind.wrap .i64 (a.1+1))+1))}:Tupl)) λl2=>
 .val (IntKind.wrap .i64 ((IntKind.wrap .i64 ((IntKind.wrap .i64 (a.1+1))+1))+1)) λe3=>
 .ret (.next (e3,l2))
noncomputable def bu:iG.V→yQ iG (Int×List Tupl):=λ(v0,v1,v2,_)=>⟨v1,(v0,v2),λv1 a=>(a.1,v1,a.2,()),λv1 a=>(decide (v1<(a.2.length:Int))),iT,up,1,(Int.toNat ((v2.length:Int)-v1)),Empty.elim,Prod.mk,oN (.exit 0) ⟨[zi 1,zu 4],[.arr .tupl false false]⟩ (λx=>(x.2.1,x.2.2,()))⟩
theorem zK:LS Tryz.prog vM [0] (kf 0 iG bu):=fe st (aR vd) _ bu [] trivial
theorem zZ {v0 v1:Int}{v2:List Tupl}(h0:0≤v1)(h1:(v2.length:Int)≤4611686018427387904)(h2:sS v2)(h3:v2.length=v2.length∧v0≤9223372036854775807):(bu (v0,v1,v2,())).S (λv1 a=>a.2.length=v2.length∧a.2.length=v2.length∧a.1≤9223372036854775807) (λ_=>True):=by
 refine LC.okS ⟨rfl,h3⟩ (λj a hj hv=>⟨⟨?_, ?_⟩, ?_⟩) (λa hv=> ?_)
 ·simp only[bu,decide_eq_true_eq]at*;omega
 ·simp only[bu]at*;exact U2 (by omega) (by omega)
 ·refine Tr.G2 ?_ λ_=>Tr.G2 ?_ λ_=>Tr.V λ_ _=>Tr.G2 ?_ λ_=>Tr.V λ_ _=>Tr.V λ_ _=>Tr.Rn ?_
  all_goals (try simp only[bu]at*)<;>(grind)
 ·simp only[bu,decide_eq_false_iff_not]at*;omega
noncomputable def oA:FT (List Tupl×Int×Unit) (Int×List Tupl) (λx=>sS x.1∧x.2.1≤9223372036854775807) (λx v=>sS v.2∧v.1≤9223372036854775807):=⟨λ(x0,x1,_)=>
  .lp (bu (x1,0,x0,())).lp λ(_,a4_0,a4_1)=>
  .ret (a4_0,a4_1),
 λ(x0,x1,_) hp=>by
  refine Tr.L (zZ ?_ ?_ ?_ ?_) (λ(a4_0,a4_1) _=>Tr.R ?_) (λp=>Empty.elim p)
  all_goals ((try simp only[bu,LC.lp,LC.ct,Ct.lp]at*)<;>grind)⟩
noncomputable def E4:=n7 st vM vd [(kf 0 iG bu)] [.wr false [.own 0],.sc (.int .i64)] [.arr .tupl] (λx y=>(y.1,x.2.1,())) oA (λv=>[(false,[.c (.int .i64 v.1)])]) (λx y v=>(v.2,())) Tryz.func186 (by kernel_rfl) ⟨zK,trivial⟩
def qJ:Sh:=⟨[zl 0 .tupl,zi 1,zi 5],[]⟩
noncomputable def iL (v0:List Tupl)(v2:Int)(a:Int):Tr (Stp (Int) ((Int))):=
 .grd (aY v0 v2)<|
 .ite ((v0.getD v2.toNat (Ty.zero .tupl)).ip != a) (.ret (.out a))<|
 .grd (aY v0 v2)<|
 .ite ((v0.getD v2.toNat (Ty.zero .tupl)).port != (IntKind.wrap .i64 (a+1))) (.ret (.out (IntKind.wrap .i64 (a+1))))<|
 .grd (aY v0 v2)<|
 .ite ((v0.getD v2.toNat (Ty.zero .tupl)).my != (IntKind.wrap .i64 ((IntKind.wrap .i64 (a+1))+1))) (.ret (.out (IntKind.wrap .i64 ((IntKind.wrap .i64 (a+1))+1))))<|
 .val (IntKind.wrap .i64 ((IntKind.wrap .i64 ((IntKind.wrap .i64 (a+1))+1))+1)) λe1=>
 .ret (.next e1)
noncomputable def iM:qJ.V→oi qJ Int (Int):=λ(v0,v1,v2,_)=>⟨v2,v1,λv2 a=>(v0,a,v2,()),λv2 _=>(decide (v2<(v0.length:Int))),iL v0,up,1,(Int.toNat ((v0.length:Int)-v2)),.inl,eR,oB .ret ⟨[zi 1,zi 4],[]⟩ (λp=>(p,(-1),())) (.exit 0) ⟨[zi 1,zu 4],[]⟩ (λx=>(x.2,()))⟩
theorem zF {v0:List Tupl}{v1 v2:Int}(h0:0≤v2)(h1:(v0.length:Int)≤4611686018427387904)(h2:v1≤9223372036854775807):(iM (v0,v1,v2,())).U (v0.length:Int) (λv2 a=>a≤9223372036854775807) (λ_=>True):=
 mw (a:=v1) h0 h1 h2
noncomputable def om:FT (List Tupl×Int×Unit) (Int) (λx=>sS x.1∧x.2.1≤9223372036854775807) (λx v=>v≤9223372036854775807):= .mk (λ(x0,x1,_)=>
  .lp (iM (x0,x1,0,())).lp λw2=> .sum w2 (λ_=>
  .ret (-1))<|
  λ(_,a2_0)=>
  .ret a2_0) (ql @zF)
noncomputable def Ei:=eC st Tryz.func189 [(0,lb [0,1,5] [1,4])] [] 0 iM (ks:=[.sc (.sl .tupl),.sc (.int .i64)]) om rI
noncomputable def cE:FF (Int×Unit) (Int):=⟨λ(x0,_)=>
  .ite (decide ((x0.tmod 4294967296)<0)) (.ret (IntKind.wrap .i64 ((x0.tmod 4294967296)+4294967296)))<|
  .ret (x0.tmod 4294967296)⟩
@[grind=] theorem VC (x0:Int):cE.f (x0,())=(x0%4294967296):=by
 simp only[cE,FF.f,Tr.nice]
 rcases Int.lt_or_le x0 0 with h|h
 ·rw[(il 4294967296).2 h,dh]
  cases hd:decide (-(-x0%4294967296)<0)with
  |true=>simp only[decide_eq_true_eq]at hd;simp only[cond_true];omega
  |false=>simp only[decide_eq_false_iff_not]at hd;simp only[cond_false];omega
 ·rw[(il 4294967296).1 h,dh]
  cases hd:decide (x0%4294967296<0)with
  |true=>simp only[decide_eq_true_eq]at hd;omega
  |false=>rfl
noncomputable def mT:=gz st Tryz.func193 [] (ks:=[.sc (.int .i64)]) cE rI
noncomputable def dC:FF (Unit) (Opti):=⟨λ_=>
  .ret (⟨0,(-1),false,false,0,0⟩:Opti)⟩
noncomputable def iE:=gz st Tryz.func203 [] (ks:=[]) dC (λv=>[(true,sX v)])
noncomputable def bo:FF (Int×Int×Int×Unit) (Bool):=⟨λ(x0,x1,x2,_)=>
  .ite (decide (x1≤x0)) (.ret (decide (x0≤x2)))<|
  .ret false⟩
@[grind=] theorem aC (x0 x1 x2:Int):bo.f (x0,x1,x2,())=(decide (x1≤x0)&&decide (x0≤x2)):=by
 simp only[bo,FF.f,Tr.nice]
 cases decide (x1≤x0)<;>rfl
noncomputable def bZ:=gz aq Tryz.func206 [] (ks:=[.sc (.int .i64),.sc (.int .i64),.sc (.int .i64)]) bo rB
noncomputable def cA:FF (Unit) (Opti):=⟨λ_=>
  .ret (⟨0,(-1),false,false,0,0⟩:Opti)⟩
noncomputable def iB:=gz aq Tryz.func216 [] (ks:=[]) cA (λv=>[(true,sX v)])
noncomputable def fL:FF (Int×Int×Unit) (Int):=⟨λ(x0,x1,_)=>
  .ite (decide (x1<x0)) (.ret x0)<|
  .ret x1⟩
@[grind=] theorem pf (x0 x1:Int):fL.f (x0,x1,())=(if x1<x0 then x0 else x1):=by
 simp only[fL,FF.f,Tr.nice]
 by_cases h:x1<x0<;>simp[h]
noncomputable def oZ:=gz st Tryz.func222 [] (ks:=[.sc (.int .i64),.sc (.int .i64)]) fL rI
noncomputable def ng:FT (Int×Unit) (Recv) (λ_=>True) (λx v=>am v∧v.held.length≤3):= .mk λ(x0,_)=>
  .val (cE.f (x0,())) λc1=>
  .ret (⟨c1,[],[],(-1),false⟩:Recv)
noncomputable def Dp:=bh st Tryz.func223 [mT] (ks:=[.sc (.int .i64)]) ng (λv=>[(true,yz (.o true) v)])
noncomputable def KQ:=[vi]
noncomputable def J5:Fx:=⟨225,Tryz.f225,[(3000003,rA 0 14)],0⟩
noncomputable def sF:FT (Keys×Int×Unit) (Mac×Bool) (λx=>bT x.1) (λx v=>aP v.1):= .mk λ(x0,x1,_)=>
  .ite (x1==x0.epoch) (.cal ju.c (x0.now,()) λc1=>
   .ret (c1,true))<|
  .bnd (β:=Bool×Unit) (.ite x0.two (.ret ((x1==(IntKind.wrap .i64 (x0.epoch-1))),()))<|
   .ret (false,())) λ(u2a0,_)=>
  .ite u2a0 (.cal ju.c (x0.before,()) λc3=>
   .ret (c3,true))<|
  .ret ((⟨false,0,0,[]⟩:Mac),false)
noncomputable def Jw:=dI st J5 KQ [] (ks:=[.st .keys,.sc (.int .i64)]) sF (λv=>[(true,Na (.o true) v.1),(false,[.c (.bool v.2)])]) Tryz.func225 trivial
noncomputable def vc:FT (Int×Opti×Unit) (Int) (λ_=>True) (λ_ _=>True):= .mk λ(x0,x1,_)=>
  .grd (decide (0≤(if x1.scale<0 then 0 else x1.scale)))<|
  .val (IntKind.wrap .i64 (x0*2 ^ (min (if x1.scale<0 then 0 else x1.scale).toNat 64))) λe1=>
  .ret (if 1073725440<e1 then 1073725440 else e1)
noncomputable def D7:=bh aq Tryz.func230 [] (ks:=[.sc (.int .i64),.st .opti]) vc rI
noncomputable def iz:FT (Int×Unit) (Recv) (λ_=>True) (λx v=>am v):= .mk λ(x0,_)=>
  .val (bM.f (x0,0,())) λc1=>
  .ret (⟨c1,[],[],(-1),false⟩:Recv)
noncomputable def CG:=bh aq Tryz.func231 [fP] (ks:=[.sc (.int .i64)]) iz (λv=>[(true,yz (.o true) v)])
noncomputable def fq:FT (Int×Unit) (Int) (λ_=>True) (λ_ _=>True):= .mk λ(x0,_)=>
  .val (bo.f (x0,0,7,())) λc1=>
  .ite (!c1) (.ret 0)<|
  .grd ((decide (0≤x0))&&(decide (x0<8)))<|
  .ret ([64,256,536,1024,1300,1400,1440,1460].getD x0.toNat 0)
noncomputable def H2:=bh aq Tryz.func235 [bZ] (ks:=[.sc (.int .i64)]) fq rI
noncomputable def aH:FT (Segm×Unit) (Int) (λx=>ah x.1) (λx v=>0≤v∧v≤x.1.body.length+2):= .mk λ(x0,_)=>
  .val (bk.f (x0,2,())) λc1=>
  .ite c1 (.val (bk.f (x0,1,())) λc2=>
   .ite c2 (.val (IntKind.wrap .i64 ((IntKind.wrap .i64 ((x0.body.length:Int)+1))+1)) λe3=>
    .ret e3)<|
   .ret (IntKind.wrap .i64 ((x0.body.length:Int)+1)))<|
  .val (bk.f (x0,1,())) λc4=>
  .ite c4 (.ret (IntKind.wrap .i64 ((x0.body.length:Int)+1)))<|
  .ret (x0.body.length:Int)
noncomputable def pT:=bh aq Tryz.func241 [wJ] (ks:=[.st .segm]) aH rI
noncomputable def qZ:FT (List Half×Int×Int×Unit) (Nat×List Half) (λx=>sS x.1∧0≤x.2.1∧x.2.1≤x.2.2.1∧x.2.2.1≤x.1.length) (λx v=>sS v.2∧v.1≤x.1.length∧v.2.length=x.1.length):=⟨λ(x0,x1,x2,_)=>
  .grd ((((decide (0≤x1))&&(decide (x1≤x2)))&&(decide (x2≤(x0.length:Int))))&&(decide ((x0.length:Int)≤(x0.length:Int))))<|
  .ite (x1==x2) (.ret (x0.length,x0))<|
  .grd ((decide (0≤x1))&&(decide (x1≤(x0.length:Int))))<|
  .grd (SC x0 x2 (x0.length:Int))<|
  .grd (((Nat.ble x1.toNat x2.toNat)&&(Nat.beq ((x0.length:Int).toNat) x0.length))&&true)<|
  .val (((((x0.take x1.toNat++x0.drop x2.toNat)++x0.drop (x1.toNat+(x0.length-x2.toNat))).take (x1.toNat+(x0.length-x2.toNat))).drop 0).length:Int) λe1=>
  .grd (SC ((x0.take x1.toNat++x0.drop x2.toNat)++x0.drop (x1.toNat+(x0.length-x2.toNat))) e1 (x0.length:Int))<|
  .val ((((x0.take x1.toNat++x0.drop x2.toNat)++x0.drop (x1.toNat+(x0.length-x2.toNat))).take e1.toNat++List.replicate ((x0.length:Int).toNat-e1.toNat) (Ty.zero .half))++((x0.take x1.toNat++x0.drop x2.toNat)++x0.drop (x1.toNat+(x0.length-x2.toNat))).drop ((x0.length:Int).toNat)) λl2=>
  .ret ((x1.toNat+(x0.length-x2.toNat)),l2),
 λ(x0,x1,x2,_) hp=>by
  refine Tr.G4 ?_ λg0=>Tr.I (λb1=>Tr.R ?_) λb1=>Tr.G2 ?_ λg2=>Tr.G3 ?_ λg3=>Tr.G ?_ λg4=>Tr.V λe1 he1=>Tr.G3 ?_ λg5=>Tr.V λl2 hl2=>Tr.R ?_
  all_goals ((first|grind|(simp only[Bool.and_eq_true,and_true,List.length_set,Nat.ble_eq,Nat.beq_eq,decide_eq_true_eq,List.length_append,List.length_take,List.length_drop,List.drop_zero,List.length_replicate,sS]at*;omega)))⟩
noncomputable def Dh:=n7 st ⟨242,Tryz.f242,[],1⟩ [] [] [.wr false [.own 0],.sc (.int .i64),.sc (.int .i64)] [.arr .half] (λx y=>(y.1,x.2.1,x.2.2.1,())) qZ (λv=>[(false,[.shr 0 v.1])]) (λx y v=>(v.2,())) Tryz.func242 (by kernel_rfl) trivial
noncomputable def dz:FF (Int×Int×Int×Unit) (Bool):=⟨λ(x0,x1,x2,_)=>
  .ite (decide (x1≤x0)) (.ret (decide (x0≤x2)))<|
  .ret false⟩
@[grind=] theorem cx (x0 x1 x2:Int):dz.f (x0,x1,x2,())=(decide (x1≤x0)&&decide (x0≤x2)):=by
 simp only[dz,FF.f,Tr.nice]
 cases decide (x1≤x0)<;>rfl
noncomputable def dZ:=gz st Tryz.func244 [] (ks:=[.sc (.int .i64),.sc (.int .i64),.sc (.int .i64)]) dz rB
noncomputable def dN:FT (Recv×Unit) (Recv) (λx=>am x.1) (λx v=>am v∧v=x.1):=⟨λ(x0,_)=>
  .grd (Nat.ble ((2*(0+x0.held.length)+1024)*24) aM)<|
  .ret ({x0 with held:=([]++x0.held)}:Recv),
 λ(x0,_) hp=>by
  refine Tr.Gb ?_ λg0=>Tr.R ?_
  all_goals ((first|grind|(refine⟨by grind, ?_⟩;first|(simp only[List.nil_append];done)|(subst_vars;rfl)|simp_all)))⟩
noncomputable def CF:=bh st Tryz.func271 [] (ks:=[.st .recv]) dN (λv=>[(true,yz (.o true) v)])
noncomputable def vI:=[fE]
def iR:Sh:=⟨[zo 0 0,zi 1,zi 5],[.arr .piec false false]⟩
noncomputable def vA:Fx:=⟨274,Tryz.f274,[(0,la ⟨[0,1,5],[],false,1⟩ ⟨[1,4],[],false,1⟩)],1⟩
noncomputable def iH (v1:Int)(a:Int×List Piec):Tr (Stp (Int×List Piec) (Empty)):=
 .grd (aY a.2 v1)<|
 .cal bz.c ((IntKind.wrap .i64 (a.1+1)),()) λc1=>
 .grd ((decide (0≤v1))&&(decide (v1<((a.2.set v1.toNat (⟨a.1,(a.2.getD v1.toNat (Ty.zero .piec)).text⟩:Piec)).length:Int))))<|
 .val ((a.2.set v1.toNat (⟨a.1,(a.2.getD v1.toNat (Ty.zero .piec)).text⟩:Piec)).set v1.toNat (⟨((a.2.set v1.toNat (⟨a.1,(a.2.getD v1.toNat (Ty.zero .piec)).text⟩:Piec)).getD v1.toNat (Ty.zero .piec)).off,c1⟩:Piec)) λl2=>
 .ret (.next ((IntKind.wrap .i64 ((IntKind.wrap .i64 (a.1+1))+1)),l2))
noncomputable def bt:iR.V→yQ iR (Int×List Piec):=λ(v0,v1,v2,_)=>⟨v1,(v0,v2),λv1 a=>(a.1,v1,a.2,()),λv1 a=>(decide (v1<(a.2.length:Int))),iH,up,1,(Int.toNat ((v2.length:Int)-v1)),Empty.elim,Prod.mk,oN (.exit 0) ⟨[zi 1,zu 4],[.arr .piec false false]⟩ (λx=>(x.2.1,x.2.2,()))⟩
theorem zB:LS Tryz.prog vA [0] (kf 0 iR bt):=fe st (aR vI) _ bt [] trivial
theorem Aw {v0 v1:Int}{v2:List Piec}(h0:0≤v1)(h1:(v2.length:Int)≤4611686018427387904)(h2:sL bq v2)(h3:v2.length=v2.length∧cU bq v2∧v0≤9223372036854775807):(bt (v0,v1,v2,())).S (λv1 a=>a.2.length=v2.length∧a.2.length=v2.length∧cU bq a.2∧a.1≤9223372036854775807) (λ_=>True):=by
 refine LC.okS ⟨rfl,h3⟩ (λj a hj hv=>⟨⟨?_, ?_⟩, ?_⟩) (λa hv=> ?_)
 ·simp only[bt,decide_eq_true_eq]at*;omega
 ·simp only[bt]at*;exact U2 (by omega) (by omega)
 ·refine Tr.G2 ?_ λ_=>Tr.C ?_ λ_ _ _=>Tr.G2 ?_ λ_=>Tr.V λ_ _=>Tr.Rn ?_
  all_goals (try simp only[bt]at*)<;>(grind)
 ·simp only[bt,decide_eq_false_iff_not]at*;omega
noncomputable def lx:FT (List Piec×Int×Unit) (Int×List Piec) (λx=>sL bq x.1∧x.2.1≤9223372036854775807) (λx v=>sL bq v.2∧v.1≤9223372036854775807):=⟨λ(x0,x1,_)=>
  .lp (bt (x1,0,x0,())).lp λ(_,a3_0,a3_1)=>
  .ret (a3_0,a3_1),
 λ(x0,x1,_) hp=>by
  refine Tr.L (Aw ?_ ?_ ?_ ?_) (λ(a3_0,a3_1) _=>Tr.R ?_) (λp=>Empty.elim p)
  all_goals ((try simp only[bt,LC.lp,LC.ct,Ct.lp]at*)<;>grind)⟩
noncomputable def vn:=n7 st vA vI [(kf 0 iR bt)] [.wr false [.own 0],.sc (.int .i64)] [.arr .piec] (λx y=>(y.1,x.2.1,())) lx (λv=>[(false,[.c (.int .i64 v.1)])]) (λx y v=>(v.2,())) Tryz.func274 (by kernel_rfl) ⟨zB,trivial⟩
def qG:Sh:=⟨[zl 0 .piec,zi 1,zi 5],[]⟩
noncomputable def iI (v0:List Piec)(v2:Int)(a:Int):Tr (Stp (Int) ((Int))):=
 .grd (aY v0 v2)<|
 .ite ((v0.getD v2.toNat (Ty.zero .piec)).off != a) (.ret (.out a))<|
 .grd (aY v0 v2)<|
 .cal bz.c ((IntKind.wrap .i64 (a+1)),()) λc1=>
 .ite (!((v0.getD v2.toNat (Ty.zero .piec)).text==c1)) (.ret (.out (IntKind.wrap .i64 (a+1))))<|
 .ret (.next (IntKind.wrap .i64 ((IntKind.wrap .i64 (a+1))+1)))
noncomputable def iJ:qG.V→oi qG Int (Int):=λ(v0,v1,v2,_)=>⟨v2,v1,λv2 a=>(v0,a,v2,()),λv2 _=>(decide (v2<(v0.length:Int))),iI v0,up,1,(Int.toNat ((v0.length:Int)-v2)),.inl,eR,oB .ret ⟨[zi 1,zi 4],[]⟩ (λp=>(p,(-1),())) (.exit 0) ⟨[zi 1,zu 4],[]⟩ (λx=>(x.2,()))⟩
theorem yW {v0:List Piec}{v1 v2:Int}(h0:0≤v2)(h1:(v0.length:Int)≤4611686018427387904)(h2:sL bq v0)(h3:v1≤9223372036854775807):(iJ (v0,v1,v2,())).U (v0.length:Int) (λv2 a=>a≤9223372036854775807) (λ_=>True):=
 mw (a:=v1) h0 h1 h3
noncomputable def lZ:FT (List Piec×Int×Unit) (Int) (λx=>sL bq x.1∧x.2.1≤9223372036854775807) (λx v=>v≤9223372036854775807):= .mk (λ(x0,x1,_)=>
  .lp (iJ (x0,x1,0,())).lp λw2=> .sum w2 (λ_=>
  .ret (-1))<|
  λ(_,a2_0)=>
  .ret a2_0) (ql @yW)
noncomputable def uW:=eC st Tryz.func275 [(0,lb [0,1,5] [1,4])] [fE] 0 iJ (ks:=[.sc (.sl .piec),.sc (.int .i64)]) lZ rI
def vV:Sh:=⟨[zp 2 0,zp 3 1,zi 5],[zg .mac,zg .mac]⟩
noncomputable def u4 (v1 v2:Mac)(v0:Int)(a:Unit):Tr (Stp (Unit) ((Unit))):=
 .grd (aY v1.rows v0)<|
 .grd (aY v2.rows v0)<|
 .ite (!(((v1.rows.getD v0.toNat (Ty.zero .macRow)).input==(v2.rows.getD v0.toNat (Ty.zero .macRow)).input)&&(((v1.rows.getD v0.toNat (Ty.zero .macRow)).value==(v2.rows.getD v0.toNat (Ty.zero .macRow)).value)&&true))) (.ret (.out ()))<|
 .ret (.next ())
noncomputable def mg:vV.V→oi vV Unit (Unit):=λ(v0,v1,v2,_)=>⟨v0,(),λv0 _=>(v0,v1,v2,()),λv0 _=>(decide (v0<(v1.rows.length:Int))),u4 v1 v2,up,1,(Int.toNat ((v1.rows.length:Int)-v0)),.inl,eR,oB .ret ⟨[zb 4],[]⟩ (λ_=>(false,())) (.exit 0) ⟨[zu 4],[]⟩ (λ_=>())⟩
theorem F6 {v0:Int}{v1 v2:Mac}(h0:0≤v0)(h1:(v1.rows.length:Int)≤4611686018427387904)(h2:(v1.rows.length:Int)≤(v2.rows.length:Int)):(mg (v0,v1,v2,())).U (v1.rows.length:Int) (λ_ _=>True) (λ_=>True):=
 mw h0 h1 trivial
noncomputable def xe:FT (Mac×Mac×Unit) (Bool) (λx=>aP x.1∧aP x.2.1) (λ_ _=>True):= .mk (λ(x0,x1,_)=>
  .bnd (β:=Bool×Unit) (.ite (!(x0.use==x1.use)) (.ret (true,()))<|
   .ite (x0.k != x1.k) (.ret (true,()))<|
   .ite (x0.l != x1.l) (.ret (true,()))<|
   .ret (((x0.rows.length:Int) != (x1.rows.length:Int)),())) λ(u1a0,_)=>
  .ite u1a0 (.ret false)<|
  .lp (mg (0,x0,x1,())).lp λw2=> .sum w2 (λ_=>
  .ret false)<|
  λ_=>
  .ret true) (ql @F6)
noncomputable def Nf:=eC st Tryz.func277 [(0,lb [2,3,5] [4]),(3000001,rA 0 33)] [] 0 mg (ks:=[.st .mac,.st .mac]) xe rB
noncomputable def nF:FT (List Tupl×Unit) (List Tupl) (λx=>sS x.1) (λx v=>v=x.1):=⟨λx=> .ret x.1,λ_ _=>Tr.R rfl⟩
theorem C7 (x:List Tupl×Unit)(hp:sS x.1):Bn Tryz.prog 279 (CD [.sc (.sl .tupl)] x) ((λv=>[rv (.sc (.sl .tupl)) [.o true] v]) (nF.f x)):=by
 refine Bn.byNil (t:= .tupl) (xs:=x.1) (λh=> ?_) ?_
 ·obtain⟨x,_⟩:=x;subst h
  exact Vi st Tryz.func279 (by kernel_rfl) (by kernel_rfl)
 ·exact Vi st Tryz.func279 (by kernel_rfl) (Eq.trans (b:=bif Nat.ble ((2*(0+x.1.length)+1024)*24) aM then some ((λv=>[rv (.sc (.sl .tupl)) [.o true] v]) x.1)else none) (by kernel_rfl) (by rw[show Nat.ble ((2*(0+x.1.length)+1024)*24) aM=true by simp only[Nat.ble_eq,aM];simp only[sS]at hp;omega];rfl))
noncomputable def Dw:Ent1 Tryz.prog:=UO 279 (ks:=[.sc (.sl .tupl)]) nF.c (λv=>[rv (.sc (.sl .tupl)) [.o true] v]) C7
noncomputable def lA:FT (List MacRow×Unit) (List MacRow) (λx=>sS x.1) (λx v=>v=x.1):=⟨λx=> .ret x.1,λ_ _=>Tr.R rfl⟩
theorem AR (x:List MacRow×Unit)(hp:sS x.1):Bn Tryz.prog 283 (CD [.sc (.sl .macRow)] x) ((λv=>[rv (.sc (.sl .macRow)) [.o true] v]) (lA.f x)):=by
 refine Bn.byNil (t:= .macRow) (xs:=x.1) (λh=> ?_) ?_
 ·obtain⟨x,_⟩:=x;subst h
  exact Vi st Tryz.func283 (by kernel_rfl) (by kernel_rfl)
 ·exact Vi st Tryz.func283 (by kernel_rfl) (Eq.trans (b:=bif Nat.ble ((2*(0+x.1.length)+1024)*24) aM then some ((λv=>[rv (.sc (.sl .macRow)) [.o true] v]) x.1)else none) (by kernel_rfl) (by rw[show Nat.ble ((2*(0+x.1.length)+1024)*24) aM=true by simp only[Nat.ble_eq,aM];simp only[sS]at hp;omega];rfl))
noncomputable def A2:Ent1 Tryz.prog:=UO 283 (ks:=[.sc (.sl .macRow)]) lA.c (λv=>[rv (.sc (.sl .macRow)) [.o true] v]) AR
def qg:Sh:=⟨[zl 0 .macRow,zi 1,zi 5],[]⟩
noncomputable def g9 (v0:List MacRow)(v2:Int)(a:Int):Tr (Stp (Int) ((Int))):=
 .grd (aY v0 v2)<|
 .cal bz.c (a,()) λc1=>
 .ite (!((v0.getD v2.toNat (Ty.zero .macRow)).input==c1)) (.ret (.out a))<|
 .grd (aY v0 v2)<|
 .ite ((v0.getD v2.toNat (Ty.zero .macRow)).value != (IntKind.wrap .i64 (a+1))) (.ret (.out (IntKind.wrap .i64 (a+1))))<|
 .ret (.next (IntKind.wrap .i64 ((IntKind.wrap .i64 (a+1))+1)))
noncomputable def ia:qg.V→oi qg Int (Int):=λ(v0,v1,v2,_)=>⟨v2,v1,λv2 a=>(v0,a,v2,()),λv2 _=>(decide (v2<(v0.length:Int))),g9 v0,up,1,(Int.toNat ((v0.length:Int)-v2)),.inl,eR,oB .ret ⟨[zi 1,zi 4],[]⟩ (λp=>(p,(-1),())) (.exit 0) ⟨[zi 1,zu 4],[]⟩ (λx=>(x.2,()))⟩
theorem yb {v0:List MacRow}{v1 v2:Int}(h0:0≤v2)(h1:(v0.length:Int)≤4611686018427387904)(h2:sL aE v0)(h3:v1≤9223372036854775807):(ia (v0,v1,v2,())).U (v0.length:Int) (λv2 a=>a≤9223372036854775807) (λ_=>True):=
 mw (a:=v1) h0 h1 h3
noncomputable def ny:FT (List MacRow×Int×Unit) (Int) (λx=>sL aE x.1∧x.2.1≤9223372036854775807) (λx v=>v≤9223372036854775807):= .mk (λ(x0,x1,_)=>
  .lp (ia (x0,x1,0,())).lp λw2=> .sum w2 (λ_=>
  .ret (-1))<|
  λ(_,a2_0)=>
  .ret a2_0) (ql @yb)
noncomputable def C9:=eC st Tryz.func284 [(0,lb [0,1,5] [1,4])] [fE] 0 ia (ks:=[.sc (.sl .macRow),.sc (.int .i64)]) ny rI
noncomputable def ne:FF (Int×Int×Unit) (Int):=⟨λ(x0,x1,_)=>
  .ite (decide (x0<x1)) (.ret x0)<|
  .ret x1⟩
@[grind=] theorem sH (x0 x1:Int):ne.f (x0,x1,())=(if x0<x1 then x0 else x1):=by
 simp only[ne,FF.f,Tr.nice]
 by_cases h:x0<x1<;>simp[h]
noncomputable def Bi:=gz st Tryz.func286 [] (ks:=[.sc (.int .i64),.sc (.int .i64)]) ne rI
noncomputable def Mp:=[dZ,mT]
def Fh:An:=⟨⟨[],[],false,0⟩,⟨[0,1,6,7],[],false,0⟩,⟨[],[]⟩,[(.normal,⟨[zi 0,zi 1,zi 6,zi 7],[]⟩)]⟩
noncomputable def Lt:Fx:=⟨291,Tryz.f291,[(1000008,Fh)],0⟩
noncomputable def wP:FF (Int×Int×Bool×Unit) (Int):=⟨λ(x0,x1,x2,_)=>
  .bnd (β:=Int×Int×Int×Int×Unit) (.ite x2 (.ret (x0,x1,0,48,()))<|
   .ret (x0,x1,0,32,())) λ(u1a0,u1a1,_,u1a3,_)=>
  .val (dz.f (u1a1,0,14,())) λc2=>
  .ite c2 (.val (cE.f (u1a0,())) λc3=>
   .val (IntKind.wrap .i64 ((IntKind.wrap .i64 (c3*64))+(IntKind.wrap .i64 (u1a3+u1a1)))) λe4=>
   .val (cE.f (e4,())) λc5=>
   .ret c5)<|
  .val (cE.f (u1a0,())) λc6=>
  .val (IntKind.wrap .i64 ((IntKind.wrap .i64 (c6*64))+(IntKind.wrap .i64 (u1a3+15)))) λe7=>
  .val (cE.f (e7,())) λc8=>
  .ret c8⟩
noncomputable def NH:=Qh st Lt Mp [] (ks:=[.sc (.int .i64),.sc (.int .i64),.sc .bool]) wP rI Tryz.func291 trivial
noncomputable def ff:FT (Limi×Unit) (Bool) (λ_=>True) (λx v=>(v=true→x.1.halves≤64∧x.1.waiting≤16∧x.1.conns≤16)):= .mk λ(x0,_)=>
  .val (bo.f (x0.halves,1,64,())) λc1=>
  .ite c1 (.val (bo.f (x0.waiting,1,16,())) λc2=>
   .ite c2 (.val (bo.f (x0.conns,1,16,())) λc3=>
    .ite c3 (.val (bo.f (x0.chal,0,1000,())) λc4=>
     .ret c4)<|
    .ret false)<|
   .ret false)<|
  .ret false
noncomputable def Jr:=bh aq Tryz.func292 [bZ] (ks:=[.st .limi]) ff rB
def p8:Sh:=⟨[zl 0 .tupl,zp 3 0,zi 7,zi 8],[zx .tupl]⟩
noncomputable def pM (v0:List Tupl)(v3:Tupl)(v2:Int)(a:Unit):Tr (Stp (Unit) ((Int))):=
 .grd (aY v0 v2)<|
 .ite ((v3.ip==(v0.getD v2.toNat (Ty.zero .tupl)).ip)&&((v3.port==(v0.getD v2.toNat (Ty.zero .tupl)).port)&&((v3.my==(v0.getD v2.toNat (Ty.zero .tupl)).my)&&true))) (.ret (.out v2))<|
 .ret (.next ())
noncomputable def gO:p8.V→oi p8 Unit (Int):=λ(v0,v1,v2,v3,_)=>⟨v2,(),λv2 _=>(v0,v1,v2,v3,()),λv2 _=>(decide (v2<v1)),pM v0 v3,up,1,(Int.toNat (v1-v2)),.inl,eR,oB .ret ⟨[zi 4],[]⟩ (λp=>(p,())) (.exit 0) ⟨[zu 4],[]⟩ (λ_=>())⟩
theorem yC {v0:List Tupl}{v1 v2:Int}{v3:Tupl}(h0:0≤v2)(h1:v1≤4611686018427387904)(h2:v1≤(v0.length:Int)):(gO (v0,v1,v2,v3,())).U v1 (λ_ _=>True) (λp=>v2≤p∧p<v1):=
 mw h0 h1 trivial
noncomputable def nf:FT (List Tupl×Tupl×Unit) (Int) (λx=>wS x.1) (λx v=> -1≤v∧v<x.1.length):= .mk (λ(x0,x1,_)=>
  .lp (gO (x0,(x0.length:Int),0,x1,())).lp λw1=> .sum w1 (λp1a0=>
  .ret p1a0)<|
  λ_=>
  .ret (-1)) (ql @yC)
noncomputable def Di:=eC st Tryz.func294 [(0,lb [0,3,7,8] [4])] [] 0 gO (ks:=[.sc (.sl .tupl),.st .tupl]) nf rI
def ud:Sh:=⟨[zi 0,zi 3],[]⟩
noncomputable def kh (v0:Int)(v1:Int)(a:Unit):Tr (Stp (Unit) ((Int))):=
 .cal fq.c (v1,()) λc1=>
 .ite (decide (c1≤v0)) (.ret (.out v1))<|
 .ret (.next ())
noncomputable def dD:ud.V→oi ud Unit (Int):=λ(v0,v1,_)=>⟨v1,(),λv1 _=>(v0,v1,()),λv1 _=>(decide (0<v1)),kh v0,dn,(-1),(Int.toNat (v1-0)),.inl,eR,oB .ret ⟨[zi 2],[]⟩ (λp=>(p,())) (.exit 0) ⟨[zu 2],[]⟩ (λ_=>())⟩
theorem Dq {v0 v1:Int}(h0:v1≤9223372036854775807):(dD (v0,v1,())).S (λ_ _=>True) (λ_=>True):=by
 refine LC.okS trivial (λj a hj hv=>⟨⟨?_, ?_⟩, ?_⟩) (λa hv=> ?_)
 ·simp only[dD,decide_eq_true_eq]at*;omega
 ·simp only[dD]at*;exact XA (by omega) (by omega)
 ·refine Tr.C trivial λ_ _ _=>Tr.Z (by kernel_rfl)
 ·simp only[dD,decide_eq_false_iff_not]at*;omega
noncomputable def gV:FT (Int×Unit) (Int) (λ_=>True) (λ_ _=>True):= .mk (λ(x0,_)=>
  .lp (dD (x0,7,())).lp λw2=> .sum w2 (λp2a0=>
  .ret p2a0)<|
  λ_=>
  .ret 0) (ql @Dq)
noncomputable def Jb:=eC aq Tryz.func295 [(0,lb [0,3] [2])] [H2] 0 dD (ks:=[.sc (.int .i64)]) gV rI
noncomputable def xd:FF (Opti×Unit) (Int):=⟨λ(x0,_)=>
  .ite (x0.mss==0) (.ret 536)<|
  .ret x0.mss⟩
noncomputable def Mu:=gz aq Tryz.func296 [] (ks:=[.st .opti]) xd rI
noncomputable def mU:FF (Int×Int×Bool×Unit) (Int):=⟨λ(x0,x1,x2,_)=>
  .ite x2 (.val (IntKind.wrap .i64 ((IntKind.wrap .i64 ((IntKind.wrap .i64 (x0*64))+32))+16)) λe1=>
   .val (bo.f (x1,0,14,())) λc2=>
   .ite (!c2) (.ret (bits .and .i64 (IntKind.wrap .i64 (e1+15)) 4294967295))<|
   .ret (bits .and .i64 (IntKind.wrap .i64 (e1+x1)) 4294967295))<|
  .val (bo.f (x1,0,14,())) λc3=>
  .ite (!c3) (.val (IntKind.wrap .i64 ((IntKind.wrap .i64 ((IntKind.wrap .i64 (x0*64))+32))+15)) λe4=>
   .ret (bits .and .i64 e4 4294967295))<|
  .val (IntKind.wrap .i64 ((IntKind.wrap .i64 ((IntKind.wrap .i64 (x0*64))+32))+x1)) λe5=>
  .ret (bits .and .i64 e5 4294967295)⟩
noncomputable def L6:=gz aq Tryz.func297 [bZ] (ks:=[.sc (.int .i64),.sc (.int .i64),.sc .bool]) mU rI
noncomputable def gX:FT (Segm×Unit) (Int) (λx=>ah x.1) (λx v=>0≤v∧v≤x.1.body.length+2):= .mk λ(x0,_)=>
  .val (fZ.f (x0,2,())) λc1=>
  .ite c1 (.val (fZ.f (x0,1,())) λc2=>
   .ite c2 (.val (IntKind.wrap .i64 ((IntKind.wrap .i64 ((x0.body.length:Int)+1))+1)) λe3=>
    .ret e3)<|
   .ret (IntKind.wrap .i64 ((x0.body.length:Int)+1)))<|
  .val (fZ.f (x0,1,())) λc4=>
  .ite c4 (.ret (IntKind.wrap .i64 ((x0.body.length:Int)+1)))<|
  .ret (x0.body.length:Int)
noncomputable def pZ:=bh st Tryz.func298 [wn] (ks:=[.st .segm]) gX rI
noncomputable def bQ:FT (Recv×Unit) (Int) (λx=>am x.1) (λx v=>0≤v∧v≤32∧(x.1.data.length≤32→v=R7 x.1)):= .mk λ(x0,_)=>
  .ite x0.done (.ret 0)<|
  .val (β:=Int) (if 0<(IntKind.wrap .i64 (32-(x0.data.length:Int)))then(IntKind.wrap .i64 (32-(x0.data.length:Int)))else 0) λe1=>
  .ret e1
noncomputable def mf:=bh aq Tryz.func308 [] (ks:=[.st .recv]) bQ rI
noncomputable def cG:FT (Sndr×Unit) (Int) (λx=>cI x.1) (λx v=>(0≤x.1.sent∧x.1.sent≤1000→x.1.sent≤v∧v≤x.1.sent+1)):= .mk λ(x0,_)=>
  .ite x0.finSent (.ret (IntKind.wrap .i64 (x0.sent+1)))<|
  .ret x0.sent
noncomputable def pD:=bh aq Tryz.func313 [] (ks:=[.st .sndr]) cG rI
noncomputable def cT:FF (Conn×Unit) (Int):=⟨λ(x0,_)=>
  .ite (x0.opts.mss==0) (.ret 536)<|
  .val (β:=Int) (if 1<(if 1460<x0.opts.mss then 1460 else x0.opts.mss)then(if 1460<x0.opts.mss then 1460 else x0.opts.mss)else 1) λe1=>
  .ret e1⟩
noncomputable def Pf:=gz aq Tryz.func317 [] (ks:=[.st .conn]) cT rI
noncomputable def sQ:FT (Limi×Unit) (Bool) (λ_=>True) (λx v=>(v=true→x.1.halves≤64∧x.1.waiting≤16∧x.1.conns≤16)):= .mk λ(x0,_)=>
  .val (dz.f (x0.halves,1,64,())) λc1=>
  .ite c1 (.val (dz.f (x0.waiting,1,16,())) λc2=>
   .ite c2 (.val (dz.f (x0.conns,1,16,())) λc3=>
    .ite c3 (.val (dz.f (x0.chal,0,1000,())) λc4=>
     .ret c4)<|
    .ret false)<|
   .ret false)<|
  .ret false
noncomputable def KR:=bh st Tryz.func319 [dZ] (ks:=[.st .limi]) sQ rB
def t5:Sh:=⟨[zl 0 .tupl,zp 3 0,zi 5],[zx .tupl]⟩
noncomputable def uE (v0:List Tupl)(v2:Tupl)(v1:Int)(a:Unit):Tr (Stp (Unit) ((Unit))):=
 .grd (aY v0 v1)<|
 .ite (((v0.getD v1.toNat (Ty.zero .tupl)).ip==v2.ip)&&(((v0.getD v1.toNat (Ty.zero .tupl)).port==v2.port)&&(((v0.getD v1.toNat (Ty.zero .tupl)).my==v2.my)&&true))) (.ret (.out ()))<|
 .ret (.next ())
noncomputable def ki:t5.V→oi t5 Unit (Unit):=λ(v0,v1,v2,_)=>⟨v1,(),λv1 _=>(v0,v1,v2,()),λv1 _=>(decide (v1<(v0.length:Int))),uE v0 v2,up,1,(Int.toNat ((v0.length:Int)-v1)),.inl,eR,oB .ret ⟨[zb 4],[]⟩ (λ_=>(true,())) (.exit 0) ⟨[zu 4],[]⟩ (λ_=>())⟩
theorem CR {v0:List Tupl}{v1:Int}{v2:Tupl}(h0:0≤v1)(h1:(v0.length:Int)≤4611686018427387904):(ki (v0,v1,v2,())).U (v0.length:Int) (λ_ _=>True) (λ_=>True):=
 mw h0 h1 trivial
noncomputable def tE:FT (List Tupl×Tupl×Unit) (Bool) (λx=>wS x.1) (λ_ _=>True):= .mk (λ(x0,x1,_)=>
  .lp (ki (x0,0,x1,())).lp λw1=> .sum w1 (λ_=>
  .ret true)<|
  λ_=>
  .ret false) (ql @CR)
noncomputable def KC:=eC st Tryz.func321 [(0,lb [0,3,5] [4])] [] 0 ki (ks:=[.sc (.sl .tupl),.st .tupl]) tE rB
noncomputable def nt:FT (List Piec×Unit) (List Piec) (λx=>sS x.1) (λx v=>v=x.1):=⟨λx=> .ret x.1,λ_ _=>Tr.R rfl⟩
theorem C6 (x:List Piec×Unit)(hp:sS x.1):Bn Tryz.prog 343 (CD [.sc (.sl .piec)] x) ((λv=>[rv (.sc (.sl .piec)) [.o true] v]) (nt.f x)):=by
 refine Bn.byNil (t:= .piec) (xs:=x.1) (λh=> ?_) ?_
 ·obtain⟨x,_⟩:=x;subst h
  exact Vi st Tryz.func343 (by kernel_rfl) (by kernel_rfl)
 ·exact Vi st Tryz.func343 (by kernel_rfl) (Eq.trans (b:=bif Nat.ble ((2*(0+x.1.length)+1024)*24) aM then some ((λv=>[rv (.sc (.sl .piec)) [.o true] v]) x.1)else none) (by kernel_rfl) (by rw[show Nat.ble ((2*(0+x.1.length)+1024)*24) aM=true by simp only[Nat.ble_eq,aM];simp only[sS]at hp;omega];rfl))
noncomputable def CJ:Ent1 Tryz.prog:=UO 343 (ks:=[.sc (.sl .piec)]) nt.c (λv=>[rv (.sc (.sl .piec)) [.o true] v]) C6
noncomputable def wC:FF (Piec×Piec×Unit) (Bool):=⟨λ(x0,x1,_)=>
  .ite (x0.off != x1.off) (.ret false)<|
  .ite (!(x0.text==x1.text)) (.ret false)<|
  .ret true⟩
noncomputable def Nc:=gz st Tryz.func344 [] (ks:=[.st .piec,.st .piec]) wC rB
noncomputable def jf:FX (Sndr×Int×Unit) (Int) (λ_=>True) (bC [.st .sndr,.sc (.int .i64)]):=⟨λ(x0,x1,_)=>
  .ite (decide ((IntKind.wrap .i64 (x1-(x0.data.length:Int)))<0)) (.ret (-1))<|
  .ret (IntKind.wrap .i64 (x1-(x0.data.length:Int))),
 λ(x0,x1,_) hp hf=>by
  simp only[bC,Pk.fact,fX,eK,Fl.fact,Ty.fl,Ty.toH]at hf
  refine Tr.F (by kernel_rfl) trivial⟩
theorem O3 (x:Sndr)(k:Int)(h0:0≤k)(h1:k≤1048576)(hl:x.data.length≤4611686018427387904)(h:0≤jf.f (x,k,())):jf.f (x,k,())≤k∧x.data.length≤1048576:=by
 have w:IntKind.wrap .i64 (k-(x.data.length:Int))=k-(x.data.length:Int):=au (by omega) (by omega)
 simp only[FX.f,jf,Tr.nice,w]at h⊢
 by_cases c:k-(x.data.length:Int)<0
 ·rw[decide_eq_true c,cond_true]at h;omega
 ·rw[decide_eq_false c,cond_false];exact⟨by omega,by omega⟩
noncomputable def Jh:=uh st Tryz.func345 [] (ks:=[.st .sndr,.sc (.int .i64)]) jf rI
noncomputable def tL:FT (Sndr×Unit) (Sndr) (λx=>cI x.1) (λx v=>cI v):= .mk λ(x0,_)=>
  .ret x0
noncomputable def Kw:=bh aq Tryz.func347 [] (ks:=[.st .sndr]) tL (λv=>[(true,Ev v)])
def oj:Sh:=⟨[zl 0 .macRow,zl 1 .macRow,zi 12,zi 13],[]⟩
noncomputable def oc (v0 v1:List MacRow)(v3:Int)(a:Unit):Tr (Stp (Unit) ((Unit))):=
 .grd (aY v0 v3)<|
 .grd (aY v1 v3)<|
 .ite (!(((v0.getD v3.toNat (Ty.zero .macRow)).input==(v1.getD v3.toNat (Ty.zero .macRow)).input)&&(((v0.getD v3.toNat (Ty.zero .macRow)).value==(v1.getD v3.toNat (Ty.zero .macRow)).value)&&true))) (.ret (.out ()))<|
 .ret (.next ())
noncomputable def ga:oj.V→oi oj Unit (Unit):=λ(v0,v1,v2,v3,_)=>⟨v3,(),λv3 _=>(v0,v1,v2,v3,()),λv3 _=>(decide (v3<v2)),oc v0 v1,up,1,(Int.toNat (v2-v3)),.inl,eR,oB .ret ⟨[zb 4],[]⟩ (λ_=>(false,())) (.exit 0) ⟨[zu 4],[]⟩ (λ_=>())⟩
theorem xh {v0 v1:List MacRow}{v2 v3:Int}(h0:0≤v3)(h1:v2≤4611686018427387904)(h2:v2≤(v0.length:Int))(h3:v2≤(v1.length:Int)):(ga (v0,v1,v2,v3,())).U v2 (λ_ _=>True) (λ_=>True):=
 mw h0 h1 trivial
noncomputable def qh:FT (List MacRow×List MacRow×Unit) (Bool) (λx=>sL aE x.1∧sL aE x.2.1) (λ_ _=>True):= .mk (λ(x0,x1,_)=>
  .ite ((x0.length:Int) != (x1.length:Int)) (.ret false)<|
  .lp (ga (x0,x1,(x0.length:Int),0,())).lp λw1=> .sum w1 (λ_=>
  .ret false)<|
  λ_=>
  .ret true) (ql @xh)
noncomputable def BS:=eC st Tryz.func349 [(0,lb [0,1,12,13] [4])] [] 0 ga (ks:=[.sc (.sl .macRow),.sc (.sl .macRow)]) qh rB
noncomputable def mJ:FF (Int×Int×Int×Unit) (Bool):=⟨λ(x0,x1,x2,_)=>
  .ite (decide (0<x2)) (.val (cE.f (x0,())) λc1=>
   .val (cE.f (x1,())) λc2=>
   .val (cE.f ((IntKind.wrap .i64 (c1-c2)),())) λc3=>
   .ret (decide (c3<x2)))<|
  .ret false⟩
noncomputable def sO:=gz st Tryz.func354 [mT] (ks:=[.sc (.int .i64),.sc (.int .i64),.sc (.int .i64)]) mJ rB
noncomputable def jp:FT (Recv×Unit) (Int) (λx=>am x.1) (λx v=>0≤v∧v≤32∧(x.1.data.length≤32→v=R7 x.1)):= .mk λ(x0,_)=>
  .ite x0.done (.ret 0)<|
  .val (fL.f (0,(IntKind.wrap .i64 (32-(x0.data.length:Int))),())) λc1=>
  .ret c1
noncomputable def ml:=bh st Tryz.func355 [oZ] (ks:=[.st .recv]) jp rI
noncomputable def jm:FT (Sndr×Unit) (Int) (λx=>cI x.1) (λx v=>(0≤x.1.sent∧x.1.sent≤1000→x.1.sent≤v∧v≤x.1.sent+1)):= .mk λ(x0,_)=>
  .ite x0.finSent (.ret (IntKind.wrap .i64 (x0.sent+1)))<|
  .ret x0.sent
noncomputable def mt:=bh st Tryz.func360 [] (ks:=[.st .sndr]) jm rI
noncomputable def y9:FF (Conn×Unit) (Int):=⟨λ(x0,_)=>
  .ite (x0.opts.mss==0) (.ret 536)<|
  .val (ne.f (1460,x0.opts.mss,())) λc1=>
  .val (fL.f (1,c1,())) λc2=>
  .ret c2⟩
noncomputable def O7:=gz st Tryz.func364 [Bi,oZ] (ks:=[.st .conn]) y9 rI
noncomputable def qN:FF (Int×Int×Unit) (Int):=⟨λ(x0,x1,_)=>
  .ret (bits .and .i64 (IntKind.wrap .i64 (x0-x1)) 4294967295)⟩
@[grind=] theorem ML (a b:Int):qN.f (a,b,())=(a-b)%4294967296:=by
 simp only[qN,FF.f,Tr.nice]
 rw[qe,dh];omega
noncomputable def BI:=gz aq Tryz.func368 [] (ks:=[.sc (.int .i64),.sc (.int .i64)]) qN rI
noncomputable def o9:FF (Int×Int×Unit) (Int):=⟨λ(x0,x1,_)=>
  .val (IntKind.wrap .i32 (IntKind.wrap .u32 ((IntKind.wrap .u32 x0)-(IntKind.wrap .u32 x1)))) λe1=>
  .ret (IntKind.wrap .i64 e1)⟩
noncomputable def uL:=gz aq Tryz.func369 [] (ks:=[.sc (.int .i64),.sc (.int .i64)]) o9 rI
noncomputable def D2:FF (Int×Unit) (Bool):=⟨λ(x0,_)=>
  .ite (x0 != 1) (.ret (x0 != 4))<|
  .ret false⟩
noncomputable def OX:=gz st Tryz.func375 [] (ks:=[.sc (.int .i64)]) D2 rB
noncomputable def oY:FF (Int×Int×Unit) (Int):=⟨λ(x0,x1,_)=>
  .val (cE.f (x0,())) λc1=>
  .val (cE.f (x1,())) λc2=>
  .val (cE.f ((IntKind.wrap .i64 (c1-c2)),())) λc3=>
  .ite (decide (2147483647<c3)) (.ret (IntKind.wrap .i64 (c3-4294967296)))<|
  .ret c3⟩
noncomputable def uV:=gz st Tryz.func385 [mT] (ks:=[.sc (.int .i64),.sc (.int .i64)]) oY rI
noncomputable def oQ:List (Ent1 Tryz.prog):=[]
def kd:Sh:=⟨[zp 1 0,zo 3 1,zi 4],[zg .recv,za .i64]⟩
def iQ:Sh:=⟨[zp 1 0,zo 3 1,zi 5,zi 6],[zg .recv,za .i64]⟩
def j9:Sh:=⟨[zp 1 0,zo 3 1,zi 5],[zg .recv,za .i64]⟩
noncomputable def oH:Fx:=⟨387,Tryz.f387,[(0,lb [1,3,4] [1,2,3]),(4,lb [1,3,5,6] [1,2,3,5]),(2,lb [1,3,5] [2,3])],0⟩
noncomputable def ue (v0:Int)(a:List Int):Tr (Stp (List Int) (Empty)):=
 .grd (aY a v0)<|
 .ret (.next (a.set v0.toNat (-1)))
noncomputable def bS:kd.V→yQ kd (List Int):=λ(v0,v1,v2,_)=>⟨v0,v2,λv0 a=>(v0,v1,a,()),λv0 a=>(decide (v0<(a.length:Int))),ue,up,1,(Int.toNat ((v2.length:Int)-v0)),Empty.elim,Prod.mk,oN (.exit 0) ⟨[zp 1 0,zu 2,zo 3 1],[zg .recv,za .i64]⟩ (λx=>(v1,x.2,()))⟩
theorem CV:LS Tryz.prog oH [0] (kf 0 kd bS):=fe st (aR oQ) _ bS [] trivial
theorem Dl {v0:Int}{v1:Recv}{v2:List Int}(h0:0≤v0)(h1:(v2.length:Int)≤4611686018427387904)(h2:sS v2)(h3:v2.length=v2.length):(bS (v0,v1,v2,())).S (λv0 a=>a.length=v2.length∧a.length=v2.length) (λ_=>True):=by
 refine LC.okS ⟨rfl,h3⟩ (λj a hj hv=>⟨⟨?_, ?_⟩, ?_⟩) (λa hv=> ?_)
 ·simp only[bS,decide_eq_true_eq]at*;omega
 ·simp only[bS]at*;exact U2 (by omega) (by omega)
 ·refine Tr.G2 ?_ λ_=>Tr.Rn ?_
  all_goals (try simp only[bS]at*)<;>(grind)
 ·simp only[bS,decide_eq_false_iff_not]at*;omega
noncomputable def lX (vb0:Int)(vb2:Recv)(a:Int×List Int):Tr (Stp (Int×List Int) ((List Int))):=
 .grd (aY vb2.held vb0)<|
 .ite (decide (a.1<(((vb2.held.getD vb0.toNat (Ty.zero .piec)).text).length:Int))) (.grd (aY vb2.held vb0)<|
  .val (IntKind.wrap .i64 ((vb2.held.getD vb0.toNat (Ty.zero .piec)).off+a.1)) λe2=>
  .grd (aY vb2.held vb0)<|
  .grd (aY ((vb2.held.getD vb0.toNat (Ty.zero .piec)).text) a.1)<|
  .val (IntKind.wrap .i64 (ce ((vb2.held.getD vb0.toNat (Ty.zero .piec)).text) a.1.toNat)) λe3=>
  .grd (aY a.2 e2)<|
  .ret (.next ((IntKind.wrap .i64 (a.1+1)),(a.2.set e2.toNat e3))))<|
 .ret (.out a.2)
noncomputable def dr:iQ.V→LW iQ (Int×List Int) ((List Int)):=λ(vb0,vb1,vb2,vb3,_)=>⟨(vb1,vb3),λa=>(vb0,a.1,vb2,a.2,()),lX vb0 vb2,Int.toNat (((vb2.held.getD vb0.toNat (Ty.zero .piec)).text.length:Int)-vb1),oN (.exit 4) ⟨[zp 1 0,zu 2,zo 3 1,zi 5],[zg .recv,za .i64]⟩ (λp=>(vb0,vb2,p,()))⟩
theorem AD:LS Tryz.prog oH [1,0] (Uf 4 iQ dr):=Qu st (aR oQ) _ dr [] trivial
theorem Aq {vb0 vb1:Int}{vb2:Recv}{vb3:List Int}(h0:0≤vb0)(h1:vb0<(vb2.held.length:Int))(h2:cU po vb2.held)(h3:am vb2)(h4:0≤vb1∧vb3.length=33):(dr (vb0,vb1,vb2,vb3,())).W (λp=>p.length=33):=
 LW.okW (a:=(vb1,vb3)) (λa=>0≤a.1∧a.2.length=33) (λa=>Int.toNat (((vb2.held.getD vb0.toNat (Ty.zero .piec)).text.length:Int)-a.1)) rfl h4 λ(vb1,vb3) hv=>by
  refine Tr.G2 ?_ λg0=>Tr.I (λb1=>Tr.G2 ?_ λg2=>Tr.V λe2 he2=>Tr.G2 ?_ λg3=>Tr.G2 ?_ λg4=>Tr.V λe3 he3=>Tr.G2 ?_ λg5=>Tr.Rn ?_) λb1=>Tr.Ro ?_
  all_goals ((have hp:=WY (i:=vb0.toNat) h2 (by omega);simp only[po]at hp;grind))
noncomputable def ug (v1:Recv)(v0:Int)(a:List Int):Tr (Stp (List Int) (Empty)):=
 .lp (dr (v0,0,v1,a,())).lp λp4a0=>
 .ret (.next p4a0)
noncomputable def eu:j9.V→yQ j9 (List Int):=λ(v0,v1,v2,_)=>⟨v0,v2,λv0 a=>(v0,v1,a,()),λv0 _=>(decide (v0<(v1.held.length:Int))),ug v1,up,1,(Int.toNat ((v1.held.length:Int)-v0)),Empty.elim,Prod.mk,oN (.exit 2) ⟨[zu 2,zo 3 0],[za .i64]⟩ (λx=>(x.2,()))⟩
theorem C3:LS Tryz.prog oH [1] (kf 2 j9 eu):=fe st (aR oQ) _ eu [(Uf 4 iQ dr)] ⟨AD,trivial⟩
theorem CI {v0:Int}{v1:Recv}{v2:List Int}(h0:0≤v0)(h1:(v1.held.length:Int)≤4611686018427387904)(h2:cU po v1.held)(h3:am v1)(h4:v2.length=33):(eu (v0,v1,v2,())).U (v1.held.length:Int) (λv0 a=>a.length=33) (λ_=>True):=
 LC.okU (i:=v0) (a:=v2) (λ_ _=>rfl) (λ_=>rfl) rfl h0 h1 h4 λv0 v2 hj hk hv=>by
  refine Tr.L (Aq ?_ ?_ ?_ ?_ ?_) (λa=>Empty.elim a) (λp4a0 _=>Tr.Rn ?_)
  all_goals ((try simp only[dr,LW.lp,LW.cw,Cw.lp]at*)<;>grind)
noncomputable def th:FT (Recv×Unit) (List Int) (λx=>am x.1∧cU po x.1.held) (λx v=>sS v∧v.length=33):=⟨λ(x0,_)=>
  .lp (bS (0,x0,(List.replicate 33 0),())).lp λ(_,a1_0)=>
  .lp (eu (0,x0,a1_0,())).lp λ(_,a5_0)=>
  .ret a5_0,
 λ(x0,_) hp=>by
  refine Tr.L (Dl ?_ ?_ ?_ ?_) (λa1_0 _=>Tr.L (CI ?_ ?_ ?_ ?_ ?_) (λa5_0 _=>Tr.R ?_) (λp=>Empty.elim p)) (λp=>Empty.elim p)
  all_goals ((try simp only[bS,eu,LC.lp,LC.ct,Ct.lp]at*)<;>grind)⟩
noncomputable def Kx:=dI st oH oQ [(kf 0 kd bS),(kf 2 j9 eu)] (ks:=[.st .recv]) th (λv=>[(false,[sc (.o true) .i64 v])]) Tryz.func387 ⟨CV,C3,trivial⟩
def ve:Sh:=⟨[zl 0 .i64,zi 5],[]⟩
noncomputable def mu (v0:List Int)(v1:Int)(a:Unit):Tr (Stp (Unit) ((Unit))):=
 .grd (aY v0 v1)<|
 .ite (decide (0≤(v0.getD v1.toNat 0))) (.ret (.out ()))<|
 .ret (.next ())
noncomputable def mj:ve.V→oi ve Unit (Unit):=λ(v0,v1,_)=>⟨v1,(),λv1 _=>(v0,v1,()),λv1 _=>(decide (v1<(v0.length:Int))),mu v0,up,1,(Int.toNat ((v0.length:Int)-v1)),.inl,eR,oB .ret ⟨[zb 4],[]⟩ (λ_=>(false,())) (.exit 0) ⟨[zu 4],[]⟩ (λ_=>())⟩
theorem D8 {v0:List Int}{v1:Int}(h0:0≤v1)(h1:(v0.length:Int)≤4611686018427387904):(mj (v0,v1,())).U (v0.length:Int) (λ_ _=>True) (λ_=>True):=
 mw h0 h1 trivial
noncomputable def rK:FT (List Int×Int×Unit) (Bool) (λx=>sS x.1∧0≤x.2.1) (λ_ _=>True):= .mk (λ(x0,x1,_)=>
  .lp (mj (x0,x1,())).lp λw1=> .sum w1 (λ_=>
  .ret false)<|
  λ_=>
  .ret true) (ql @D8)
noncomputable def Nd:=eC st Tryz.func388 [(0,lb [0,5] [4])] [] 0 mj (ks:=[.sc (.sl .i64),.sc (.int .i64)]) rK rB
def rz:Sh:=⟨[zl 0 .i64,zi 1,zo 5 0,zi 6],[za .piec]⟩
noncomputable def bV (v0:List Int)(v1:Int)(v2:Int)(a:List Piec):Tr (Stp (List Piec) (Empty)):=
 .grd (aY v0 v2)<|
 .ite (decide ((v0.getD v2.toNat 0)<0)) (.ret (.next a))<|
 .bnd (β:=Bool×Unit) (.ite (decide (0<(a.length:Int))) (.grd (aY a (IntKind.wrap .i64 ((a.length:Int)-1)))<|
   .val ((a.getD (IntKind.wrap .i64 ((a.length:Int)-1)).toNat (Ty.zero .piec)).off) λe1=>
   .grd (aY a (IntKind.wrap .i64 ((a.length:Int)-1)))<|
   .val ((a.getD (IntKind.wrap .i64 ((a.length:Int)-1)).toNat (Ty.zero .piec)).text) λe2=>
   .ret (((IntKind.wrap .i64 (e1+(e2.length:Int)))==(IntKind.wrap .i64 (v2-v1))),()))<|
  .ret (false,())) λ(u3a0,_)=>
 .ite u3a0 (.grd (aY a (IntKind.wrap .i64 ((a.length:Int)-1)))<|
  .val ((a.getD (IntKind.wrap .i64 ((a.length:Int)-1)).toNat (Ty.zero .piec)).text) λe4=>
  .grd (aY v0 v2)<|
  .grd (Nat.ble (e4.length+(ay [(IntKind.wrap .u8 (v0.getD v2.toNat 0))]).length) dF)<|
  .grd (aY a (IntKind.wrap .i64 ((a.length:Int)-1)))<|
  .val (a.set (IntKind.wrap .i64 ((a.length:Int)-1)).toNat (⟨(a.getD (IntKind.wrap .i64 ((a.length:Int)-1)).toNat (Ty.zero .piec)).off,(e4++(ay [(IntKind.wrap .u8 (v0.getD v2.toNat 0))]))⟩:Piec)) λl5=>
  .ret (.next l5))<|
 .grd (aY v0 v2)<|
 .grd (GN a 1 24)<|
 .val (a++[(⟨(IntKind.wrap .i64 (v2-v1)),(ay [(IntKind.wrap .u8 (v0.getD v2.toNat 0))])⟩:Piec)]) λl6=>
 .ret (.next l6)
noncomputable def gn:rz.V→yQ rz (List Piec):=λ(v0,v1,v2,v3,_)=>⟨v2,v3,λv2 a=>(v0,v1,v2,a,()),λv2 _=>(decide (v2<(v0.length:Int))),bV v0 v1,up,1,(Int.toNat ((v0.length:Int)-v2)),Empty.elim,Prod.mk,oN (.exit 0) ⟨[zu 4,zo 5 0],[za .piec]⟩ (λx=>(x.2,()))⟩
theorem BV {v0:List Int}{v1 v2:Int}{v3:List Piec}(h0:0≤v2)(h1:(v0.length:Int)≤4611686018427387904)(h2:sS v0)(h3:(v3.length:Int)≤v2∧cU (pl v2) v3):(gn (v0,v1,v2,v3,())).U (v0.length:Int) (λv2 a=>(a.length:Int)≤v2∧cU (pl v2) a) (λ_=>True):=
 LC.okU (i:=v2) (a:=v3) (λ_ _=>rfl) (λ_=>rfl) rfl h0 h1 h3 λv2 v3 hj hk hv=>by
  refine Tr.G2 ?_ λg0=>Tr.I (λb1=>Tr.Rn ?_) λb1=>Tr.B (Q':=λw=>(w.1=true→0<v3.length)) (Tr.I (λb2=>Tr.G2 ?_ λg3=>Tr.V λe1 he1=>Tr.G2 ?_ λg4=>Tr.V λe2 he2=>Tr.R ?_) λb2=>Tr.R ?_) (λ(u3a0,_) hj3 qj3=>Tr.I (λb2=>Tr.G2 ?_ λg3=>Tr.V λe4 he4=>Tr.G2 ?_ λg4=>Tr.Gb ?_ λg5=>Tr.G2 ?_ λg6=>Tr.V λl5 hl5=>Tr.Rn ?_) λb2=>Tr.G2 ?_ λg3=>Tr.Gb ?_ λg4=>Tr.V λl6 hl6=>Tr.Rn ?_)
  all_goals ((try simp only[Tr.nice,iq]at*)<;>(have hp:=Wg hv.2 (show(0:Int)≤v2 by omega);have hu:=WG hv.2;have hw:0<v3.length→IntKind.wrap .i64 ((v3.length:Int)-1)=v3.length-1:=λh=>au (by omega) (by simp only[sS]at h2;omega);have hq:=hp (IntKind.wrap .i64 ((v3.length:Int)-1)).toNat;(try rw[←he4]at hq);clear hj hp;first|omega|(simp only[a9,List.length_cons,List.length_nil,dF,sS]at*;omega)|(subst hl5;exact⟨by rw[List.length_set];omega,VQ hu (by simp only[pl,List.length_append,a9,List.length_cons,List.length_nil];omega)⟩)|(subst hl6;exact⟨by simp only[List.length_append,List.length_cons,List.length_nil];omega,Uh hu (by simp only[pl,a9,List.length_cons,List.length_nil];omega)⟩)|grind))
noncomputable def nL:FT (List Int×Int×Unit) (List Piec) (λx=>sS x.1∧0≤x.2.1∧x.2.1≤4294967296) (λx v=>sL bq v):=⟨λ(x0,x1,_)=>
  .lp (gn (x0,x1,x1,[],())).lp λ(_,a7_0)=>
  .ret a7_0,
 λ(x0,x1,_) hp=>by
  refine Tr.L (BV ?_ ?_ ?_ ?_) (λa7_0 i7=>Tr.R ?_) (λp=>Empty.elim p)
  all_goals ((try simp only[gn,LC.lp,LC.ct,Ct.lp]at*)<;>grind [WH])⟩
noncomputable def HN:=eC st Tryz.func389 [(0,lb [0,1,5,6] [4,5]),(3000007,rA 0 44)] [] 0 gn (ks:=[.sc (.sl .i64),.sc (.int .i64)]) nL (λv=>[(false,[sc (.o true) .piec v])])
noncomputable def Km:List (Ent1 Tryz.prog):=[]
def C2:An:=⟨⟨[],[],false,0⟩,⟨[1,2],[],false,0⟩,⟨[],[]⟩,[(.ret,⟨[zp 1 0,zi 2],[zg .conn]⟩),(.normal,⟨[zp 1 0,zi 2],[zg .conn]⟩)]⟩
noncomputable def JB:Fx:=⟨390,Tryz.f390,[(1000005,C2),(3000006,rA 0 12)],0⟩
noncomputable def ta:FT (Conn×Unit) (Int) (λx=>ac x.1) (λ_ _=>True):= .mk λ(x0,_)=>
  .bnd (β:=(Int×Conn×Unit)⊕(Int×Conn×Unit)) (.as (Sum.elim (λw=>ac w.2.1) (λw=>ac w.2.1)) (.ite (x0.state==1) (.ite x0.r.done (.ret (.inl (4,x0,())))<|
    .ret (.inr ((0,x0,()))))<|
   .ite (x0.state==2) (.bnd (β:=Bool×Unit) (.ite x0.s.done (.ret (x0.r.done,()))<|
     .ret (false,())) λ(u1a0,_)=>
    .ite u1a0 (.ret (.inl (7,x0,())))<|
    .ite x0.s.done (.ret (.inl (3,x0,())))<|
    .ite x0.r.done (.ret (.inl (5,x0,())))<|
    .ret (.inr ((0,x0,()))))<|
   .ite (x0.state==3) (.ite x0.r.done (.ret (.inl (7,x0,())))<|
    .ret (.inr ((0,x0,()))))<|
   .ite (x0.state==5) (.ite x0.s.done (.ret (.inl (7,x0,())))<|
    .ret (.inr ((0,x0,()))))<|
   .ite (x0.state==6) (.ite x0.s.done (.ret (.inl (8,x0,())))<|
    .ret (.inr ((0,x0,()))))<|
   .ret (.inr ((0,x0,()))))) λw2=> .sum w2 (λ(u2a0,_,_)=>
  .ret u2a0)<|
  λ(_,u2b1,_)=>
  .ret u2b1.state
noncomputable def JM:=dI st JB Km [] (ks:=[.st .conn]) ta rI Tryz.func390 trivial
noncomputable def sM:FF (Int×Int×Unit) (Sipr):=⟨λ(x0,x1,_)=>
  .ret (⟨(bits .xor .u64 x0 8317987319222330741),(bits .xor .u64 x1 7237128888997146477),(bits .xor .u64 x0 7816392313619706465),(bits .xor .u64 x1 8387220255154660723)⟩:Sipr)⟩
noncomputable def Jx:=gz st Tryz.func391 [] (ks:=[.sc (.int .u64),.sc (.int .u64)]) sM (λv=>[(true,BQ v)])
def xC:Sh:=⟨[zs 0,(3,false,[.int .u64]),zi 4],[]⟩
noncomputable def Hk (v0:aA)(v2:Int)(a:Int):Tr (Stp (Int) (Empty)):=
 .grd (aY v0 v2)<|
 .val (bits .or .u64 (IntKind.wrap .u64 (a*256)) (IntKind.wrap .u64 (ce v0 v2.toNat))) λe1=>
 .ret (.next e1)
noncomputable def nv:xC.V→yQ xC Int:=λ(v0,v1,v2,_)=>⟨v2,v1,λv2 a=>(v0,a,v2,()),λv2 _=>(decide (0≤v2)),Hk v0,dn,(-1),(Int.toNat (v2-0+1)),Empty.elim,Prod.mk,oN (.exit 0) ⟨[zu 2,(3,false,[.int .u64])],[]⟩ (λx=>(x.2,()))⟩
theorem He {v0:aA}{v1 v2:Int}(h0:v2≤9223372036854775807)(h1:v2<(v0.length:Int)):(nv (v0,v1,v2,())).D 0 (λv2 a=>v2<(v0.length:Int)) (λ_=>True):=
 WF (a:=v1) h0 (by decide) h1
noncomputable def px:FT (aA×Unit) (Int) (λx=>sS x.1) (λ_ _=>True):= .mk (λ(x0,_)=>
  .lp (nv (x0,0,(IntKind.wrap .i64 ((x0.length:Int)-1)),())).lp λ(_,a2_0)=>
  .ret a2_0) (ql @He)
noncomputable def PJ:=eC st Tryz.func393 [(0,lb [0,3,4] [2,3])] [] 0 nv (ks:=[.sc .str]) px (λv=>[(false,[.c (.int .u64 v)])])
noncomputable def qc:FF (Int×Int×Unit) (Sipr):=⟨λ(x0,x1,_)=>
  .ret (⟨(bits .xor .u64 x0 8317987319222330741),(bits .xor .u64 x1 7237128888997146477),(bits .xor .u64 x0 7816392313619706465),(bits .xor .u64 x1 8387220255154660723)⟩:Sipr)⟩
noncomputable def Jg:=gz aq Tryz.func395 [] (ks:=[.sc (.int .u64),.sc (.int .u64)]) qc (λv=>[(true,BQ v)])
def xo:Sh:=⟨[zl 0 .u8,(3,false,[.int .u64]),zi 4],[]⟩
noncomputable def GZ (v0:List Int)(v2:Int)(a:Int):Tr (Stp (Int) (Empty)):=
 .grd (aY v0 v2)<|
 .val (bits .or .u64 (IntKind.wrap .u64 (a*256)) (IntKind.wrap .u64 (v0.getD v2.toNat 0))) λe1=>
 .ret (.next e1)
noncomputable def nH:xo.V→yQ xo Int:=λ(v0,v1,v2,_)=>⟨v2,v1,λv2 a=>(v0,a,v2,()),λv2 _=>(decide (0≤v2)),GZ v0,dn,(-1),(Int.toNat (v2-0+1)),Empty.elim,Prod.mk,oN (.exit 0) ⟨[zu 2,(3,false,[.int .u64])],[]⟩ (λx=>(x.2,()))⟩
theorem Hy {v0:List Int}{v1 v2:Int}(h0:v2≤9223372036854775807)(h1:v2<(v0.length:Int)):(nH (v0,v1,v2,())).D 0 (λv2 a=>v2<(v0.length:Int)) (λ_=>True):=
 WF (a:=v1) h0 (by decide) h1
noncomputable def pN:FT (List Int×Unit) (Int) (λx=>sS x.1∧8≤x.1.length) (λ_ _=>True):= .mk (λ(x0,_)=>
  .lp (nH (x0,0,7,())).lp λ(_,a2_0)=>
  .ret a2_0) (ql @Hy)
noncomputable def Od:=eC aq Tryz.func397 [(0,lb [0,3,4] [2,3])] [] 0 nH (ks:=[.sc (.sl .u8)]) pN (λv=>[(false,[.c (.int .u64 v)])])
def qt:Sh:=⟨[zl 0 .bool,zb 1,zi 7,zi 8],[]⟩
noncomputable def qm (v0:List Bool)(v1:Bool)(v3:Int)(a:Unit):Tr (Stp (Unit) ((Int))):=
 .grd (aY v0 v3)<|
 .ite (v1==(v0.getD v3.toNat false)) (.ret (.out v3))<|
 .ret (.next ())
noncomputable def iP:qt.V→oi qt Unit (Int):=λ(v0,v1,v2,v3,_)=>⟨v3,(),λv3 _=>(v0,v1,v2,v3,()),λv3 _=>(decide (v3<v2)),qm v0 v1,up,1,(Int.toNat (v2-v3)),.inl,eR,oB .ret ⟨[zi 4],[]⟩ (λp=>(p,())) (.exit 0) ⟨[zu 4],[]⟩ (λ_=>())⟩
theorem zm {v0:List Bool}{v1:Bool}{v2 v3:Int}(h0:0≤v3)(h1:v2≤4611686018427387904)(h2:v2≤(v0.length:Int)):(iP (v0,v1,v2,v3,())).U v2 (λ_ _=>True) (λp=>v3≤p∧p<v2):=
 mw h0 h1 trivial
noncomputable def oq:FT (List Bool×Bool×Unit) (Int) (λx=>wS x.1) (λx v=> -1≤v∧v<x.1.length):= .mk (λ(x0,x1,_)=>
  .lp (iP (x0,x1,(x0.length:Int),0,())).lp λw1=> .sum w1 (λp1a0=>
  .ret p1a0)<|
  λ_=>
  .ret (-1)) (ql @zm)
noncomputable def EL:=eC st Tryz.func399 [(0,lb [0,1,7,8] [4])] [] 0 iP (ks:=[.sc (.sl .bool),.sc .bool]) oq rI
noncomputable def dM:FX (Piec×Int×Unit) (Int) (λ_=>True) (bC [.st .piec,.sc (.int .i64)]):=⟨λ(x0,x1,_)=>
  .ite (decide ((IntKind.wrap .i64 (x1-(x0.text.length:Int)))<0)) (.ret (-1))<|
  .ret (IntKind.wrap .i64 (x1-(x0.text.length:Int))),
 λ(x0,x1,_) hp hf=>by
  simp only[bC,Pk.fact,fX,eK,Fl.fact,Ty.fl,Ty.toH]at hf
  refine Tr.F (by kernel_rfl) trivial⟩
theorem nP {a e:Int}(h:0≤(bif decide (a<0)then-1 else e)):0≤a∧(bif decide (a<0)then-1 else e)=e:=by
 by_cases c:a<0
 ·rw[decide_eq_true c,cond_true]at h;omega
 ·rw[decide_eq_false c];exact⟨by omega,rfl⟩
theorem yU {T:Type}(F:T→Int→Int)(P:T→Prop):∀(r:List T) (j:Nat) (a b:Int),(∀x∈r,∀k,0≤k→k≤1048576→0≤F x k→F x k≤k∧P x)→0≤a→a≤1048576→eJ (λ_ x a=>bif decide (F x a<0)then Stp.out (F x a)else Stp.next (F x a)) j r a= .next b→(0≤b∧b≤a)∧∀y∈r,P y
 |[],_,a,b,_,h0,h1,h=>by
  cases h
  exact⟨⟨h0,Int.le_refl _⟩,λy hy=>by cases hy⟩
 |x::r,j,a,b,hF,h0,h1,h=>by
  simp only[eJ]at h
  by_cases c:F x a<0
  ·rw[decide_eq_true c,cond_true]at h;cases h
  ·rw[decide_eq_false c,cond_false]at h
   simp only[Stp.elim]at h
   obtain⟨h2,h3⟩:=hF x List.mem_cons_self a h0 h1 (by omega)
   obtain⟨h4,h5⟩:=yU F P r (j+1) _ b (λy hy=>hF y (List.mem_cons_of_mem _ hy)) (by omega) (by omega) h
   refine⟨⟨h4.1,by omega⟩,λy hy=> ?_⟩
   rcases List.mem_cons.1 hy with rfl|hy
   ·exact h3
   ·exact h5 y hy
theorem Rg (x:Piec)(k:Int)(h0:0≤k)(h1:k≤1048576)(hl:x.text.length≤4611686018427387904)(h:0≤dM.f (x,k,())):dM.f (x,k,())≤k∧x.text.length≤1048576:=by
 have w:IntKind.wrap .i64 (k-(x.text.length:Int))=k-(x.text.length:Int):=au (by omega) (by omega)
 simp only[FX.f,dM,Tr.nice,w]at h⊢
 by_cases c:k-(x.text.length:Int)<0
 ·rw[decide_eq_true c,cond_true]at h;omega
 ·rw[decide_eq_false c,cond_false];exact⟨by omega,by omega⟩
noncomputable def LD:=uh st Tryz.func400 [] (ks:=[.st .piec,.sc (.int .i64)]) dM rI
noncomputable def BG:FT (Piec×Unit) (Piec) (λx=>bq x.1) (λx v=>bq v):= .mk λ(x0,_)=>
  .ret x0
noncomputable def LG:=bh aq Tryz.func401 [] (ks:=[.st .piec]) BG (λv=>[(true,V7 v)])
noncomputable def jx:FT (Int×Int×Unit) (Int) (λx=>0≤x.2.1) (λ_ _=>True):= .mk λ(x0,x1,_)=>
  .grd (decide (0≤x1))<|
  .grd (decide (0≤(IntKind.wrap .u64 (64-x1))))<|
  .val (bits .or .u64 (IntKind.wrap .u64 (x0*2 ^ (min x1.toNat 64))) (x0.fdiv (2 ^ (min (IntKind.wrap .u64 (64-x1)).toNat 64)))) λe1=>
  .ret e1
noncomputable def NA:=bh st Tryz.func404 [] (ks:=[.sc (.int .u64),.sc (.int .u64)]) jx (λv=>[(false,[.c (.int .u64 v)])])
noncomputable def cK:FT (Int×Int×Unit) (Int) (λ_=>True) (λ_ _=>True):= .mk λ(x0,x1,_)=>
  .grd (decide (0≤(bits .and .u64 (IntKind.wrap .u64 x1) 63)))<|
  .val (IntKind.wrap .u64 (x0*2 ^ (min (bits .and .u64 (IntKind.wrap .u64 x1) 63).toNat 64))) λe1=>
  .grd (decide (0≤(IntKind.wrap .u64 (64-(bits .and .u64 (IntKind.wrap .u64 x1) 63)))))<|
  .val (x0.fdiv (2 ^ (min (IntKind.wrap .u64 (64-(bits .and .u64 (IntKind.wrap .u64 x1) 63))).toNat 64))) λe2=>
  .ret (bits .or .u64 e1 e2)
noncomputable def zI:=bh st Tryz.func405 [] (ks:=[.sc (.int .u64),.sc (.int .i64)]) cK (λv=>[(false,[.c (.int .u64 v)])])
noncomputable def dE:FT (Segm×Unit) (Segm) (λx=>ah x.1) (λx v=>ah v):= .mk λ(x0,_)=>
  .val (jh.f (x0.opts,())) λc1=>
  .ret ({x0 with opts.mss:=c1.mss,opts.scale:=c1.scale,opts.sack:=c1.sack,opts.stamp:=c1.stamp,opts.val:=c1.val,opts.echo:=c1.echo}:Segm)
noncomputable def rk:=bh aq Tryz.func37 [nu] (ks:=[.st .segm]) dE (λv=>[(true,pc v)])
noncomputable def rQ:=[fE]
def gf:Sh:=⟨[zo 0 0,zi 1,zi 5],[.arr .segm false false]⟩
noncomputable def sk:Fx:=⟨40,Tryz.f40,[(0,la ⟨[0,1,5],[],false,1⟩ ⟨[1,4],[],false,1⟩)],1⟩
noncomputable def gc (v1:Int)(a:Int×List Segm):Tr (Stp (Int×List Segm) (Empty)):=
 .grd (aY a.2 v1)<|
 .grd ((decide (0≤v1))&&(decide (v1<((a.2.set v1.toNat ({(a.2.getD v1.toNat (Ty.zero .segm))with from_:=a.1}:Segm)).length:Int))))<|
 .val ((a.2.set v1.toNat ({(a.2.getD v1.toNat (Ty.zero .segm))with from_:=a.1}:Segm)).set v1.toNat ({((a.2.set v1.toNat ({(a.2.getD v1.toNat (Ty.zero .segm))with from_:=a.1}:Segm)).getD v1.toNat (Ty.zero .segm))with to:=(IntKind.wrap .i64 (a.1+1))}:Segm)) λl1=>
 .grd (aY l1 v1)<|
 .val (l1.set v1.toNat ({(l1.getD v1.toNat (Ty.zero .segm))with seq:=(IntKind.wrap .i64 ((IntKind.wrap .i64 (a.1+1))+1))}:Segm)) λl2=>
 .val (IntKind.wrap .i64 ((IntKind.wrap .i64 ((IntKind.wrap .i64 (a.1+1))+1))+1)) λe3=>
 .grd (aY l2 v1)<|
 .grd ((decide (0≤v1))&&(decide (v1<((l2.set v1.toNat ({(l2.getD v1.toNat (Ty.zero .segm))with ack:=e3}:Segm)).length:Int))))<|
 .val ((l2.set v1.toNat ({(l2.getD v1.toNat (Ty.zero .segm))with ack:=e3}:Segm)).set v1.toNat ({((l2.set v1.toNat ({(l2.getD v1.toNat (Ty.zero .segm))with ack:=e3}:Segm)).getD v1.toNat (Ty.zero .segm))with flags:=(IntKind.wrap .i64 (e3+1))}:Segm)) λl4=>
 .grd (aY l4 v1)<|
 .val (l4.set v1.toNat ({(l4.getD v1.toNat (Ty.zero .segm))with window:=(IntKind.wrap .i64 ((IntKind.wrap .i64 (e3+1))+1))}:Segm)) λl5=>
 .val (IntKind.wrap .i64 ((IntKind.wrap .i64 ((IntKind.wrap .i64 (e3+1))+1))+1)) λe6=>
 .grd (aY l5 v1)<|
 .grd ((decide (0≤v1))&&(decide (v1<((l5.set v1.toNat ({(l5.getD v1.toNat (Ty.zero .segm))with opts.mss:=e6}:Segm)).length:Int))))<|
 .val ((l5.set v1.toNat ({(l5.getD v1.toNat (Ty.zero .segm))with opts.mss:=e6}:Segm)).set v1.toNat ({((l5.set v1.toNat ({(l5.getD v1.toNat (Ty.zero .segm))with opts.mss:=e6}:Segm)).getD v1.toNat (Ty.zero .segm))with opts.scale:=(IntKind.wrap .i64 (e6+1))}:Segm)) λl7=>
 .grd (aY l7 v1)<|
 .val (l7.set v1.toNat ({(l7.getD v1.toNat (Ty.zero .segm))with opts.sack:=(((IntKind.wrap .i64 ((IntKind.wrap .i64 (e6+1))+1)).tmod 3)==0)}:Segm)) λl8=>
 .val (IntKind.wrap .i64 ((IntKind.wrap .i64 ((IntKind.wrap .i64 (e6+1))+1))+1)) λe9=>
 .grd (aY l8 v1)<|
 .val (l8.set v1.toNat ({(l8.getD v1.toNat (Ty.zero .segm))with opts.stamp:=((e9.tmod 3)==0)}:Segm)) λl10=>
 .grd (aY l10 v1)<|
 .val (l10.set v1.toNat ({(l10.getD v1.toNat (Ty.zero .segm))with opts.val:=(IntKind.wrap .i64 (e9+1))}:Segm)) λl11=>
 .grd (aY l11 v1)<|
 .val (l11.set v1.toNat ({(l11.getD v1.toNat (Ty.zero .segm))with opts.echo:=(IntKind.wrap .i64 ((IntKind.wrap .i64 (e9+1))+1))}:Segm)) λl12=>
 .val (IntKind.wrap .i64 ((IntKind.wrap .i64 ((IntKind.wrap .i64 (e9+1))+1))+1)) λe13=>
 .cal bz.c (e13,()) λc14=>
 .grd (aY l12 v1)<|
 .ret (.next ((IntKind.wrap .i64 (e13+1)),(l12.set v1.toNat ({(l12.getD v1.toNat (Ty.zero .segm))with body:=c14}:Segm))))
noncomputable def be:gf.V→yQ gf (Int×List Segm):=λ(v0,v1,v2,_)=>⟨v1,(v0,v2),λv1 a=>(a.1,v1,a.2,()),λv1 a=>(decide (v1<(a.2.length:Int))),gc,up,1,(Int.toNat ((v2.length:Int)-v1)),Empty.elim,Prod.mk,oN (.exit 0) ⟨[zi 1,zu 4],[.arr .segm false false]⟩ (λx=>(x.2.1,x.2.2,()))⟩
theorem xg:LS Tryz.prog sk [0] (kf 0 gf be):=fe st (aR rQ) _ be [] trivial
theorem xi {v0 v1:Int}{v2:List Segm}(h0:0≤v1)(h1:(v2.length:Int)≤4611686018427387904)(h2:sL ah v2)(h3:v2.length=v2.length∧cU ah v2∧v0≤9223372036854775807):(be (v0,v1,v2,())).S (λv1 a=>a.2.length=v2.length∧a.2.length=v2.length∧cU ah a.2∧a.1≤9223372036854775807) (λ_=>True):=by
 refine LC.okS ⟨rfl,h3⟩ (λj a hj hv=>⟨⟨?_, ?_⟩, ?_⟩) (λa hv=> ?_)
 ·simp only[be,decide_eq_true_eq]at*;omega
 ·simp only[be]at*;exact U2 (by omega) (by omega)
 ·refine Tr.G2 ?_ λ_=>Tr.G2 ?_ λ_=>Tr.V λ_ _=>Tr.G2 ?_ λ_=>Tr.V λ_ _=>Tr.V λ_ _=>Tr.G2 ?_ λ_=>Tr.G2 ?_ λ_=>Tr.V λ_ _=>Tr.G2 ?_ λ_=>Tr.V λ_ _=>Tr.V λ_ _=>Tr.G2 ?_ λ_=>Tr.G2 ?_ λ_=>Tr.V λ_ _=>Tr.G2 ?_ λ_=>Tr.V λ_ _=>Tr.V λ_ _=>Tr.G2 ?_ λ_=>Tr.V λ_ _=>Tr.G2 ?_ λ_=>Tr.V λ_ _=>Tr.G2 ?_ λ_=>Tr.V λ_ _=>Tr.V λ_ _=>Tr.C ?_ λ_ _ _=>Tr.G2 ?_ λ_=>Tr.Rn ?_
  all_goals (try simp only[be]at*)<;>(grind)
 ·simp only[be,decide_eq_false_iff_not]at*;omega
noncomputable def gj:FT (List Segm×Int×Unit) (Int×List Segm) (λx=>sL ah x.1∧x.2.1≤9223372036854775807) (λx v=>sL ah v.2∧v.1≤9223372036854775807):=⟨λ(x0,x1,_)=>
  .lp (be (x1,0,x0,())).lp λ(_,a15_0,a15_1)=>
  .ret (a15_0,a15_1),
 λ(x0,x1,_) hp=>by
  refine Tr.L (xi ?_ ?_ ?_ ?_) (λ(a15_0,a15_1) _=>Tr.R ?_) (λp=>Empty.elim p)
  all_goals ((try simp only[be,LC.lp,LC.ct,Ct.lp]at*)<;>grind)⟩
noncomputable def mI:=n7 st sk rQ [(kf 0 gf be)] [.wr false [.own 0],.sc (.int .i64)] [.arr .segm] (λx y=>(y.1,x.2.1,())) gj (λv=>[(false,[.c (.int .i64 v.1)])]) (λx y v=>(v.2,())) Tryz.func40 (by kernel_rfl) ⟨xg,trivial⟩
def oe:Sh:=⟨[zl 0 .segm,zi 1,zi 5],[]⟩
noncomputable def gb (v0:List Segm)(v2:Int)(a:Int):Tr (Stp (Int) ((Int))):=
 .grd (aY v0 v2)<|
 .ite ((v0.getD v2.toNat (Ty.zero .segm)).from_ != a) (.ret (.out a))<|
 .grd (aY v0 v2)<|
 .ite ((v0.getD v2.toNat (Ty.zero .segm)).to != (IntKind.wrap .i64 (a+1))) (.ret (.out (IntKind.wrap .i64 (a+1))))<|
 .grd (aY v0 v2)<|
 .ite ((v0.getD v2.toNat (Ty.zero .segm)).seq != (IntKind.wrap .i64 ((IntKind.wrap .i64 (a+1))+1))) (.ret (.out (IntKind.wrap .i64 ((IntKind.wrap .i64 (a+1))+1))))<|
 .val (IntKind.wrap .i64 ((IntKind.wrap .i64 ((IntKind.wrap .i64 (a+1))+1))+1)) λe1=>
 .grd (aY v0 v2)<|
 .ite ((v0.getD v2.toNat (Ty.zero .segm)).ack != e1) (.ret (.out e1))<|
 .grd (aY v0 v2)<|
 .ite ((v0.getD v2.toNat (Ty.zero .segm)).flags != (IntKind.wrap .i64 (e1+1))) (.ret (.out (IntKind.wrap .i64 (e1+1))))<|
 .grd (aY v0 v2)<|
 .ite ((v0.getD v2.toNat (Ty.zero .segm)).window != (IntKind.wrap .i64 ((IntKind.wrap .i64 (e1+1))+1))) (.ret (.out (IntKind.wrap .i64 ((IntKind.wrap .i64 (e1+1))+1))))<|
 .val (IntKind.wrap .i64 ((IntKind.wrap .i64 ((IntKind.wrap .i64 (e1+1))+1))+1)) λe2=>
 .grd (aY v0 v2)<|
 .ite ((v0.getD v2.toNat (Ty.zero .segm)).opts.mss != e2) (.ret (.out e2))<|
 .grd (aY v0 v2)<|
 .ite ((v0.getD v2.toNat (Ty.zero .segm)).opts.scale != (IntKind.wrap .i64 (e2+1))) (.ret (.out (IntKind.wrap .i64 (e2+1))))<|
 .grd (aY v0 v2)<|
 .ite (!((v0.getD v2.toNat (Ty.zero .segm)).opts.sack==(((IntKind.wrap .i64 ((IntKind.wrap .i64 (e2+1))+1)).tmod 3)==0))) (.ret (.out (IntKind.wrap .i64 ((IntKind.wrap .i64 (e2+1))+1))))<|
 .val (IntKind.wrap .i64 ((IntKind.wrap .i64 ((IntKind.wrap .i64 (e2+1))+1))+1)) λe3=>
 .grd (aY v0 v2)<|
 .ite (!((v0.getD v2.toNat (Ty.zero .segm)).opts.stamp==((e3.tmod 3)==0))) (.ret (.out e3))<|
 .grd (aY v0 v2)<|
 .ite ((v0.getD v2.toNat (Ty.zero .segm)).opts.val != (IntKind.wrap .i64 (e3+1))) (.ret (.out (IntKind.wrap .i64 (e3+1))))<|
 .grd (aY v0 v2)<|
 .ite ((v0.getD v2.toNat (Ty.zero .segm)).opts.echo != (IntKind.wrap .i64 ((IntKind.wrap .i64 (e3+1))+1))) (.ret (.out (IntKind.wrap .i64 ((IntKind.wrap .i64 (e3+1))+1))))<|
 .val (IntKind.wrap .i64 ((IntKind.wrap .i64 ((IntKind.wrap .i64 (e3+1))+1))+1)) λe4=>
 .grd (aY v0 v2)<|
 .cal bz.c (e4,()) λc5=>
 .ite (!((v0.getD v2.toNat (Ty.zero .segm)).body==c5)) (.ret (.out e4))<|
 .ret (.next (IntKind.wrap .i64 (e4+1)))
noncomputable def gg:oe.V→oi oe Int (Int):=λ(v0,v1,v2,_)=>⟨v2,v1,λv2 a=>(v0,a,v2,()),λv2 _=>(decide (v2<(v0.length:Int))),gb v0,up,1,(Int.toNat ((v0.length:Int)-v2)),.inl,eR,oB .ret ⟨[zi 1,zi 4],[]⟩ (λp=>(p,(-1),())) (.exit 0) ⟨[zi 1,zu 4],[]⟩ (λx=>(x.2,()))⟩
theorem xl {v0:List Segm}{v1 v2:Int}(h0:0≤v2)(h1:(v0.length:Int)≤4611686018427387904)(h2:sL ah v0)(h3:v1≤9223372036854775807):(gg (v0,v1,v2,())).U (v0.length:Int) (λv2 a=>a≤9223372036854775807) (λ_=>True):=
 mw (a:=v1) h0 h1 h3
noncomputable def dj:FT (List Segm×Int×Unit) (Int) (λx=>sL ah x.1∧x.2.1≤9223372036854775807) (λx v=>v≤9223372036854775807):= .mk (λ(x0,x1,_)=>
  .lp (gg (x0,x1,0,())).lp λw6=> .sum w6 (λ_=>
  .ret (-1))<|
  λ(_,a6_0)=>
  .ret a6_0) (ql @xl)
noncomputable def mN:=eC st Tryz.func41 [(0,lb [0,1,5] [1,4])] [fE] 0 gg (ks:=[.sc (.sl .segm),.sc (.int .i64)]) dj rI
noncomputable def mY:FF (Clie×Unit) (Clie):=⟨λ(x0,_)=>
  .val (eP.f (x0.tuple,())) λc1=>
  .val (jh.f (x0.opts,())) λc2=>
  .ret (⟨c1,x0.isn,c2,x0.window⟩:Clie)⟩
noncomputable def KE:=gz aq Tryz.func54 [kN,nu] (ks:=[.st .clie]) mY (λv=>[(true,We v)])
noncomputable def xI:=[Kj]
def jK:Sh:=⟨[zl 0 .macRow,zi 1,zi 5],[]⟩
noncomputable def xH:Fx:=⟨65,Tryz.f65,[(0,lb [0,1,5] [1,4])],0⟩
noncomputable def jF (v0:List MacRow)(v2:Int)(a:Int):Tr (Stp (Int) ((Int))):=
 .grd (aY v0 v2)<|
 .cal aZ.c ((v0.getD v2.toNat (Ty.zero .macRow)),a,()) λc1=>
 .ite (decide (c1<0)) (.ret (.out c1))<|
 .ret (.next c1)
noncomputable def cY:jK.V→oi jK Int (Int):=λ(v0,v1,v2,_)=>⟨v2,v1,λv2 a=>(v0,a,v2,()),λv2 _=>(decide (v2<(v0.length:Int))),jF v0,up,1,(Int.toNat ((v0.length:Int)-v2)),.inl,eR,oB .ret ⟨[zi 1,zi 4],[]⟩ (λp=>(p,(-1),())) (.exit 0) ⟨[zi 1,zu 4],[]⟩ (λx=>(x.2,()))⟩
theorem Bh:LS Tryz.prog xH [0] (kf 0 jK cY):=fe st (aR xI) _ cY [] trivial
theorem Bm {v0:List MacRow}{v1 v2:Int}(h0:0≤v2)(h1:(v0.length:Int)≤4611686018427387904):(cY (v0,v1,v2,())).U (v0.length:Int) (λ_ _=>True) (λ_=>True):=
 mw (a:=v1) h0 h1 trivial
noncomputable def cS:FX (List MacRow×Int×Unit) (Int) (λ_=>True) (bC [.sc (.sl .macRow),.sc (.int .i64)]):=⟨λ(x0,x1,_)=>
  .ite (decide ((IntKind.wrap .i64 (x1-(x0.length:Int)))<0)) (.ret (-1))<|
  .lp (cY (x0,(IntKind.wrap .i64 (x1-(x0.length:Int))),0,())).lp λw2=> .sum w2 (λ_=>
  .ret (-1))<|
  λ(_,a2_0)=>
  .ret a2_0,
 λ(x0,x1,_) hp hf=>by
  simp only[bC,Pk.fact,fX,eK,Fl.fact,Ty.fl,Ty.toH]at hf
  refine Tr.I (λ_=>Tr.R trivial) λ_=>Tr.L (Bm ?_ ?_) (λa2_0 _=>Tr.Sr (Tr.R trivial)) (λp2a0 _=>Tr.Sl (Tr.R trivial))
  all_goals ((try simp only[cY,LC.lp,LC.ct,Ct.lp]at*)<;>grind)⟩
theorem UR (r:MacRow)(k:Int)(h0:0≤k)(h1:k≤1048576)(hr:r.input.length≤4611686018427387904):aZ.f (r,k,())=bif decide (k-(r.input.length:Int)<0)then-1 else k-(r.input.length:Int):=by
 simp only[FX.f,aZ,Tr.nice]
 rw[au (by omega) (by omega)]
theorem B8:∀(r:List MacRow) (j:Nat) (a b:Int),0≤a→a≤1048576→(∀y∈r,y.input.length≤4611686018427387904)→eJ (λ_ x a=>(bif decide (aZ.f (x,a,())<0)then Stp.out (aZ.f (x,a,()))else Stp.next (aZ.f (x,a,())))) j r a= .next b→(0≤b∧b≤a)∧∀y∈r,y.input.length≤1048576
 |[],_,a,b,h0,h1,_,h=>by
  cases h
  exact⟨⟨h0,Int.le_refl _⟩,λy hy=>by cases hy⟩
 |x::r,j,a,b,h0,h1,hr,h=>by
  have hx:=hr x List.mem_cons_self
  have e:=UR x a h0 h1 hx
  simp only[eJ,e]at h
  by_cases c:a-(x.input.length:Int)<0
  ·rw[decide_eq_true c,cond_true]at h;cases h
  ·rw[decide_eq_false c,cond_false,decide_eq_false c,cond_false]at h
   simp only[Stp.elim]at h
   obtain⟨h2,h3⟩:=B8 r (j+1) _ b (by omega) (by omega) (λy hy=>hr y (List.mem_cons_of_mem _ hy)) h
   refine⟨⟨h2.1,by omega⟩,λy hy=> ?_⟩
   rcases List.mem_cons.1 hy with rfl|hy
   ·omega
   ·exact h3 y hy
theorem Kq (xs:List MacRow)(k:Int)(h0:0≤k)(h1:k≤1048576)(hl:xs.length≤140737488355328)(he:HR .macRow xs)(h:0≤cS.f (xs,k,())):sL aE xs∧xs.length≤1048576:=by
 have hr:∀y∈xs,y.input.length≤4611686018427387904:=λy hy=>(he y hy (.str y.input) List.mem_cons_self).slen
 have w:IntKind.wrap .i64 (k-(xs.length:Int))=k-(xs.length:Int):=au (by omega) (by omega)
 simp only[FX.f,PX,cS,cY,w,ar]at h
 by_cases c:k-(xs.length:Int)<0
 ·rw[decide_eq_true c,cond_true]at h;omega
 rw[decide_eq_false c,cond_false]at h
 rw[bE xs _ rfl (F:=λ_ x a=>(bif decide (aZ.f (x,a,())<0)then Stp.out (aZ.f (x,a,()))else Stp.next (aZ.f (x,a,())))) (λj x a hx=>by
  simp only[PX,jF,aa,getD_some hx])]at h
 cases hn:eJ (λ_ x a=>(bif decide (aZ.f (x,a,())<0)then Stp.out (aZ.f (x,a,()))else Stp.next (aZ.f (x,a,())))) 0 xs (k-(xs.length:Int))with
 |out p=>rw[hn]at h;simp only[Stp.elim]at h;omega
 |next b=>
  have:=B8 xs 0 _ b (by omega) (by omega) hr hn
  refine⟨⟨by omega,λy hy=> ?_⟩,by omega⟩
  have:=this.2 y hy
  unfold aE;omega
theorem Nq (xs:List MacRow)(k:Int)(h0:0≤k)(h1:k≤1048576)(hl:xs.length≤140737488355328)(he:HR .macRow xs)(h:0≤cS.f (xs,k,())):cS.f (xs,k,())≤k∧xs.length≤1048576∧cU aE xs:=by
 have w:IntKind.wrap .i64 (k-(xs.length:Int))=k-(xs.length:Int):=au (by omega) (by omega)
 simp only[FX.f,PX,cS,cY,w,ar]at h⊢
 by_cases c:k-(xs.length:Int)<0
 ·rw[decide_eq_true c,cond_true]at h;omega
 rw[decide_eq_false c,cond_false]at h⊢
 have hf:∀(j:Nat) x a,xs[j]? =some x→(jF xs (j:Int) a).nice=(bif decide (aZ.f (x,a,())<0)then Stp.out (aZ.f (x,a,()))else Stp.next (aZ.f (x,a,()))):=λj x a hx=>by
  simp only[PX,jF,aa,getD_some hx]
 rw[bE xs _ rfl (F:=λ_ x a=>(bif decide (aZ.f (x,a,())<0)then Stp.out (aZ.f (x,a,()))else Stp.next (aZ.f (x,a,())))) hf]at h⊢
 cases hn:eJ (λ_ x a=>(bif decide (aZ.f (x,a,())<0)then Stp.out (aZ.f (x,a,()))else Stp.next (aZ.f (x,a,())))) 0 xs (k-(xs.length:Int))with
 |out p=>rw[hn]at h;simp only[Stp.elim]at h;omega
 |next b=>
  obtain⟨h2,h3⟩:=yU (λx a=>aZ.f (x,a,())) aE xs 0 _ b (λx hx k h0 h1 h=>(have h4:=PS x k h0 h1 (he x hx (.str x.input) List.mem_cons_self).slen h;⟨h4.1,(by unfold aE;omega)⟩)) (by omega) (by omega) hn
  simp only[Stp.elim]
  exact⟨by omega,by omega,h3⟩
noncomputable def GT:=JW st xH xI [(kf 0 jK cY)] (ks:=[.sc (.sl .macRow),.sc (.int .i64)]) cS rI Tryz.func65 ⟨Bh,trivial⟩
def uN:Sh:=⟨[zl 0 .half,zo 3 0,zi 4],[za .half]⟩
noncomputable def vo (v0:List Half)(v1:Int)(a:List Half):Tr (Stp (List Half) (Empty)):=
 .grd (aY v0 v1)<|
 .val (zv.f ((v0.getD v1.toNat (Ty.zero .half)),())) λc2=>
 .grd (aY a v1)<|
 .ret (.next (a.set v1.toNat c2))
noncomputable def jo:uN.V→yQ uN (List Half):=λ(v0,v1,v2,_)=>⟨v1,v2,λv1 a=>(v0,v1,a,()),λv1 _=>(decide (v1<(v0.length:Int))),vo v0,up,1,(Int.toNat ((v0.length:Int)-v1)),Empty.elim,Prod.mk,oN (.exit 0) ⟨[zu 2,zo 3 0],[za .half]⟩ (λx=>(x.2,()))⟩
theorem FQ {v0 v2:List Half}{v1:Int}(h0:0≤v1)(h1:(v0.length:Int)≤4611686018427387904)(h2:sS v0)(h3:sS v2)(h4:v2.length=v2.length∧(v0.length:Int)≤(v2.length:Int)):(jo (v0,v1,v2,())).U (v0.length:Int) (λv1 a=>a.length=v2.length∧(v0.length:Int)≤(a.length:Int)) (λ_=>True):=
 mw (a:=v2) h0 h1 h4
noncomputable def wh:FT (List Half×Unit) (List Half) (λx=>sS x.1) (λx v=>sS v):=⟨λ(x0,_)=>
  .grd ((((decide (0≤(x0.length:Int)))&&(decide ((x0.length:Int)=(x0.length:Int))))&&(decide ((x0.length:Int)*96≤(aM:Int))))&&(decide ((x0.length:Int)≤(aM:Int))))<|
  .val (List.replicate ((x0.length:Int).toNat) (⟨⟨0,0,0⟩,0,0,⟨0,0,false,false,0,0⟩,0,0⟩:Half)) λl1=>
  .lp (jo (x0,0,l1,())).lp λ(_,a3_0)=>
  .ret a3_0,
 λ(x0,_) hp=>by
  refine Tr.G4 ?_ λ_=>Tr.V λ_ _=>Tr.L (FQ ?_ ?_ ?_ ?_ ?_) (λa3_0 _=>Tr.R ?_) (λp=>Empty.elim p)
  all_goals ((try simp only[jo,LC.lp,LC.ct,Ct.lp]at*)<;>grind)⟩
noncomputable def Ms:=eC aq Tryz.func70 [(0,lb [0,3,4] [2,3])] [Pc] 0 jo (ks:=[.sc (.sl .half)]) wh (λv=>[(false,[sc (.o true) .half v])])
def rG:Sh:=⟨[zl 0 .macRow,zo 3 0,zi 4],[za .macRow]⟩
noncomputable def rC (v0:List MacRow)(v1:Int)(a:List MacRow):Tr (Stp (List MacRow) (Empty)):=
 .grd (aY v0 v1)<|
 .cal yx.c ((v0.getD v1.toNat (Ty.zero .macRow)),()) λc1=>
 .grd (aY a v1)<|
 .ret (.next (a.set v1.toNat c1))
noncomputable def gm:rG.V→yQ rG (List MacRow):=λ(v0,v1,v2,_)=>⟨v1,v2,λv1 a=>(v0,v1,a,()),λv1 _=>(decide (v1<(v0.length:Int))),rC v0,up,1,(Int.toNat ((v0.length:Int)-v1)),Empty.elim,Prod.mk,oN (.exit 0) ⟨[zu 2,zo 3 0],[za .macRow]⟩ (λx=>(x.2,()))⟩
theorem Be {v0 v2:List MacRow}{v1:Int}(h0:0≤v1)(h1:(v0.length:Int)≤4611686018427387904)(h2:sL aE v0)(h3:sL aE v2)(h4:v2.length=v2.length∧cU aE v2∧(v0.length:Int)≤(v2.length:Int)):(gm (v0,v1,v2,())).U (v0.length:Int) (λv1 a=>a.length=v2.length∧cU aE a∧(v0.length:Int)≤(a.length:Int)) (λ_=>True):=
 mw (a:=v2) h0 h1 h4
noncomputable def qx:FT (List MacRow×Unit) (List MacRow) (λx=>sL aE x.1) (λx v=>sL aE v):=⟨λ(x0,_)=>
  .grd ((((decide (0≤(x0.length:Int)))&&(decide ((x0.length:Int)=(x0.length:Int))))&&(decide ((x0.length:Int)*24≤(aM:Int))))&&(decide ((x0.length:Int)≤(aM:Int))))<|
  .lp (gm (x0,0,(List.replicate ((x0.length:Int).toNat) (⟨[],0⟩:MacRow)),())).lp λ(_,a2_0)=>
  .ret a2_0,
 λ(x0,_) hp=>by
  refine Tr.G4 ?_ λ_=>Tr.L (Be ?_ ?_ ?_ ?_ ?_) (λa2_0 _=>Tr.R ?_) (λp=>Empty.elim p)
  all_goals ((try simp only[gm,LC.lp,LC.ct,Ct.lp]at*)<;>grind)⟩
noncomputable def GR:=eC aq Tryz.func72 [(0,lb [0,3,4] [2,3])] [JR] 0 gm (ks:=[.sc (.sl .macRow)]) qx (λv=>[(false,[sc (.o true) .macRow v])])
def vG:Sh:=⟨[zl 0 .half,zl 1 .half,zi 5],[]⟩
noncomputable def vP (v0 v1:List Half)(v2:Int)(a:Unit):Tr (Stp (Unit) ((Unit))):=
 .grd (aY v0 v2)<|
 .grd (aY v1 v2)<|
 .val (Ay.f ((v0.getD v2.toNat (Ty.zero .half)),(v1.getD v2.toNat (Ty.zero .half)),())) λc1=>
 .ite (!c1) (.ret (.out ()))<|
 .ret (.next ())
noncomputable def mh:vG.V→oi vG Unit (Unit):=λ(v0,v1,v2,_)=>⟨v2,(),λv2 _=>(v0,v1,v2,()),λv2 _=>(decide (v2<(v0.length:Int))),vP v0 v1,up,1,(Int.toNat ((v0.length:Int)-v2)),.inl,eR,oB .ret ⟨[zb 4],[]⟩ (λ_=>(false,())) (.exit 0) ⟨[zu 4],[]⟩ (λ_=>())⟩
theorem GD {v0 v1:List Half}{v2:Int}(h0:0≤v2)(h1:(v0.length:Int)≤4611686018427387904)(h2:(v0.length:Int)≤(v1.length:Int)):(mh (v0,v1,v2,())).U (v0.length:Int) (λ_ _=>True) (λ_=>True):=
 mw h0 h1 trivial
noncomputable def wV:FT (List Half×List Half×Unit) (Bool) (λx=>sS x.1∧sS x.2.1) (λ_ _=>True):= .mk (λ(x0,x1,_)=>
  .ite ((x0.length:Int) != (x1.length:Int)) (.ret false)<|
  .lp (mh (x0,x1,0,())).lp λw2=> .sum w2 (λ_=>
  .ret false)<|
  λ_=>
  .ret true) (ql @GD)
noncomputable def Le:=eC st Tryz.func77 [(0,lb [0,1,5] [4])] [PB] 0 mh (ks:=[.sc (.sl .half),.sc (.sl .half)]) wV rB
def rS:Sh:=⟨[zl 0 .macRow,zl 1 .macRow,zi 5],[]⟩
noncomputable def sv (v0 v1:List MacRow)(v2:Int)(a:Unit):Tr (Stp (Unit) ((Unit))):=
 .grd (aY v0 v2)<|
 .grd (aY v1 v2)<|
 .val (tk.f ((v0.getD v2.toNat (Ty.zero .macRow)),(v1.getD v2.toNat (Ty.zero .macRow)),())) λc1=>
 .ite (!c1) (.ret (.out ()))<|
 .ret (.next ())
noncomputable def jE:rS.V→oi rS Unit (Unit):=λ(v0,v1,v2,_)=>⟨v2,(),λv2 _=>(v0,v1,v2,()),λv2 _=>(decide (v2<(v0.length:Int))),sv v0 v1,up,1,(Int.toNat ((v0.length:Int)-v2)),.inl,eR,oB .ret ⟨[zb 4],[]⟩ (λ_=>(false,())) (.exit 0) ⟨[zu 4],[]⟩ (λ_=>())⟩
theorem Bl {v0 v1:List MacRow}{v2:Int}(h0:0≤v2)(h1:(v0.length:Int)≤4611686018427387904)(h2:(v0.length:Int)≤(v1.length:Int)):(jE (v0,v1,v2,())).U (v0.length:Int) (λ_ _=>True) (λ_=>True):=
 mw h0 h1 trivial
noncomputable def qr:FT (List MacRow×List MacRow×Unit) (Bool) (λx=>sL aE x.1∧sL aE x.2.1) (λ_ _=>True):= .mk (λ(x0,x1,_)=>
  .ite ((x0.length:Int) != (x1.length:Int)) (.ret false)<|
  .lp (jE (x0,x1,0,())).lp λw2=> .sum w2 (λ_=>
  .ret false)<|
  λ_=>
  .ret true) (ql @Bl)
noncomputable def HQ:=eC st Tryz.func79 [(0,lb [0,1,5] [4])] [KL] 0 jE (ks:=[.sc (.sl .macRow),.sc (.sl .macRow)]) qr rB
noncomputable def ub:=[fE]
def hU:Sh:=⟨[zo 0 0,zi 1,zi 5],[.arr .macRow false false]⟩
noncomputable def t6:Fx:=⟨83,Tryz.f83,[(0,la ⟨[0,1,5],[],false,1⟩ ⟨[1,4],[],false,1⟩)],1⟩
noncomputable def gU (v1:Int)(a:Int×List MacRow):Tr (Stp (Int×List MacRow) (Empty)):=
 .cal bz.c (a.1,()) λc1=>
 .grd (aY a.2 v1)<|
 .grd ((decide (0≤v1))&&(decide (v1<((a.2.set v1.toNat (⟨c1,(a.2.getD v1.toNat (Ty.zero .macRow)).value⟩:MacRow)).length:Int))))<|
 .val ((a.2.set v1.toNat (⟨c1,(a.2.getD v1.toNat (Ty.zero .macRow)).value⟩:MacRow)).set v1.toNat (⟨((a.2.set v1.toNat (⟨c1,(a.2.getD v1.toNat (Ty.zero .macRow)).value⟩:MacRow)).getD v1.toNat (Ty.zero .macRow)).input,(IntKind.wrap .i64 (a.1+1))⟩:MacRow)) λl2=>
 .ret (.next ((IntKind.wrap .i64 ((IntKind.wrap .i64 (a.1+1))+1)),l2))
noncomputable def bm:hU.V→yQ hU (Int×List MacRow):=λ(v0,v1,v2,_)=>⟨v1,(v0,v2),λv1 a=>(a.1,v1,a.2,()),λv1 a=>(decide (v1<(a.2.length:Int))),gU,up,1,(Int.toNat ((v2.length:Int)-v1)),Empty.elim,Prod.mk,oN (.exit 0) ⟨[zi 1,zu 4],[.arr .macRow false false]⟩ (λx=>(x.2.1,x.2.2,()))⟩
theorem x9:LS Tryz.prog t6 [0] (kf 0 hU bm):=fe st (aR ub) _ bm [] trivial
theorem xZ {v0 v1:Int}{v2:List MacRow}(h0:0≤v1)(h1:(v2.length:Int)≤4611686018427387904)(h2:sL aE v2)(h3:v2.length=v2.length∧cU aE v2∧v0≤9223372036854775807):(bm (v0,v1,v2,())).S (λv1 a=>a.2.length=v2.length∧a.2.length=v2.length∧cU aE a.2∧a.1≤9223372036854775807) (λ_=>True):=by
 refine LC.okS ⟨rfl,h3⟩ (λj a hj hv=>⟨⟨?_, ?_⟩, ?_⟩) (λa hv=> ?_)
 ·simp only[bm,decide_eq_true_eq]at*;omega
 ·simp only[bm]at*;exact U2 (by omega) (by omega)
 ·refine Tr.C ?_ λ_ _ _=>Tr.G2 ?_ λ_=>Tr.G2 ?_ λ_=>Tr.V λ_ _=>Tr.Rn ?_
  all_goals (try simp only[bm]at*)<;>(grind)
 ·simp only[bm,decide_eq_false_iff_not]at*;omega
noncomputable def j3:FT (List MacRow×Int×Unit) (Int×List MacRow) (λx=>sL aE x.1∧x.2.1≤9223372036854775807) (λx v=>sL aE v.2∧v.1≤9223372036854775807):=⟨λ(x0,x1,_)=>
  .lp (bm (x1,0,x0,())).lp λ(_,a3_0,a3_1)=>
  .ret (a3_0,a3_1),
 λ(x0,x1,_) hp=>by
  refine Tr.L (xZ ?_ ?_ ?_ ?_) (λ(a3_0,a3_1) _=>Tr.R ?_) (λp=>Empty.elim p)
  all_goals ((try simp only[bm,LC.lp,LC.ct,Ct.lp]at*)<;>grind)⟩
noncomputable def um:=n7 st t6 ub [(kf 0 hU bm)] [.wr false [.own 0],.sc (.int .i64)] [.arr .macRow] (λx y=>(y.1,x.2.1,())) j3 (λv=>[(false,[.c (.int .i64 v.1)])]) (λx y v=>(v.2,())) Tryz.func83 (by kernel_rfl) ⟨x9,trivial⟩
noncomputable def cd:FF (Int×Int×Unit) (Int):=⟨λ(x0,x1,_)=>
  .val (cE.f (x0,())) λc1=>
  .val (cE.f (x1,())) λc2=>
  .val (cE.f ((IntKind.wrap .i64 (c1+c2)),())) λc3=>
  .ret c3⟩
noncomputable def fQ:=gz st Tryz.func91 [mT] (ks:=[.sc (.int .i64),.sc (.int .i64)]) cd rI
noncomputable def nm:FF (Opti×Unit) (Opti):=⟨λ(x0,_)=>
  .ite x0.stamp (.ret x0)<|
  .val (dC.f (())) λc1=>
  .ret ({c1 with mss:=x0.mss}:Opti)⟩
noncomputable def Dc:=gz st Tryz.func106 [iE] (ks:=[.st .opti]) nm (λv=>[(true,sX v)])
noncomputable def iC:FF (Opti×Unit) (Opti):=⟨λ(x0,_)=>
  .ite x0.stamp (.ret x0)<|
  .val (cA.f (())) λc1=>
  .ret ({c1 with mss:=x0.mss}:Opti)⟩
noncomputable def Dr:=gz aq Tryz.func115 [iB] (ks:=[.st .opti]) iC (λv=>[(true,sX v)])
noncomputable def qD:FF (Segm×Segm×Unit) (Bool):=⟨λ(x0,x1,_)=>
  .ite (x0.from_ != x1.from_) (.ret false)<|
  .ite (x0.to != x1.to) (.ret false)<|
  .ite (x0.seq != x1.seq) (.ret false)<|
  .ite (x0.ack != x1.ack) (.ret false)<|
  .ite (x0.flags != x1.flags) (.ret false)<|
  .ite (x0.window != x1.window) (.ret false)<|
  .val (kR.f (x0.opts,x1.opts,())) λc1=>
  .ite (!c1) (.ret false)<|
  .ite (!(x0.body==x1.body)) (.ret false)<|
  .ret true⟩
noncomputable def G7:=gz st Tryz.func116 [rl] (ks:=[.st .segm,.st .segm]) qD rB
noncomputable def aN:FT (Int×Int×Unit) (Bool) (λ_=>True) (λx v=>(x.2.1=32→(v=true↔0≤x.1∧x.1≤4294967295))∧(x.2.1=16→(v=true↔0≤x.1∧x.1≤65535))∧(x.2.1=48→(v=true↔0≤x.1∧x.1≤281474976710655))∧(x.2.1=8→(v=true↔0≤x.1∧x.1≤255))∧(x.2.1=6→(v=true↔0≤x.1∧x.1≤63))):=⟨λ(x0,x1,_)=>
  .val (dz.f (x1,1,62,())) λc1=>
  .ite c1 (.grd (decide (0≤(IntKind.wrap .u64 x1)))<|
   .val (IntKind.wrap .i64 ((IntKind.wrap .i64 (1*2 ^ (min (IntKind.wrap .u64 x1).toNat 64)))-1)) λe2=>
   .val (dz.f (x0,0,e2,())) λc3=>
   .ret c3)<|
  .ret false,
 λ(x0,x1,_) hp=>by
  refine Tr.V λ_ _=>Tr.I (λ_=>Tr.G1 ?_ λ_=>Tr.V λ_ _=>Tr.V λ_ _=>Tr.R ?_) λ_=>Tr.R ?_
  all_goals (grind [LA])⟩
@[grind=] theorem Mw (x:Int):aN.f (x,32,())=(decide (0≤x)&&decide (x≤4294967295)):=by
 have h:=aN.c.h (x,32,()) trivial
 rw[Bool.eq_iff_iff]
 grind
@[grind=] theorem NG (x:Int):aN.f (x,16,())=(decide (0≤x)&&decide (x≤65535)):=by
 have h:=aN.c.h (x,16,()) trivial
 rw[Bool.eq_iff_iff]
 grind
@[grind=] theorem Vp (x:Int):aN.f (x,48,())=(decide (0≤x)&&decide (x≤281474976710655)):=by
 have h:=aN.c.h (x,48,()) trivial
 rw[Bool.eq_iff_iff]
 grind
@[grind=] theorem VT (x:Int):aN.f (x,8,())=(decide (0≤x)&&decide (x≤255)):=by
 have h:=aN.c.h (x,8,()) trivial
 rw[Bool.eq_iff_iff]
 grind
@[grind=] theorem Wr (x:Int):aN.f (x,6,())=(decide (0≤x)&&decide (x≤63)):=by
 have h:=aN.c.h (x,6,()) trivial
 rw[Bool.eq_iff_iff]
 grind
noncomputable def cM:=bh st Tryz.func132 [dZ] (ks:=[.sc (.int .i64),.sc (.int .i64)]) aN rB
noncomputable def aj:FT (Int×Int×Unit) (Bool) (λ_=>True) (λx v=>(x.2.1=32→(v=true↔0≤x.1∧x.1≤4294967295))∧(x.2.1=16→(v=true↔0≤x.1∧x.1≤65535))∧(x.2.1=48→(v=true↔0≤x.1∧x.1≤281474976710655))∧(x.2.1=8→(v=true↔0≤x.1∧x.1≤255))∧(x.2.1=6→(v=true↔0≤x.1∧x.1≤63))):= .mk λ(x0,x1,_)=>
  .val (bo.f (x1,1,62,())) λc1=>
  .ite c1 (.grd (decide (0≤x1))<|
   .val (IntKind.wrap .i64 ((IntKind.wrap .i64 (1*2 ^ (min x1.toNat 64)))-1)) λe2=>
   .val (bo.f (x0,0,e2,())) λc3=>
   .ret c3)<|
  .ret false
@[grind=] theorem cl (x:Int):aj.f (x,32,())=(decide (0≤x)&&decide (x≤4294967295)):=by
 have h:=aj.c.h (x,32,()) trivial
 rw[Bool.eq_iff_iff]
 grind
@[grind=] theorem eO (x:Int):aj.f (x,16,())=(decide (0≤x)&&decide (x≤65535)):=by
 have h:=aj.c.h (x,16,()) trivial
 rw[Bool.eq_iff_iff]
 grind
@[grind=] theorem Vc (x:Int):aj.f (x,48,())=(decide (0≤x)&&decide (x≤281474976710655)):=by
 have h:=aj.c.h (x,48,()) trivial
 rw[Bool.eq_iff_iff]
 grind
@[grind=] theorem Wu (x:Int):aj.f (x,8,())=(decide (0≤x)&&decide (x≤255)):=by
 have h:=aj.c.h (x,8,()) trivial
 rw[Bool.eq_iff_iff]
 grind
@[grind=] theorem OO (x:Int):aj.f (x,6,())=(decide (0≤x)&&decide (x≤63)):=by
 have h:=aj.c.h (x,6,()) trivial
 rw[Bool.eq_iff_iff]
 grind
noncomputable def cL:=bh aq Tryz.func137 [bZ] (ks:=[.sc (.int .i64),.sc (.int .i64)]) aj rB
noncomputable def Lf:=[fQ,iE]
noncomputable def L4:Fx:=⟨152,Tryz.f152,[(3000002,rA 0 19),(3000005,rA 0 42)],0⟩
noncomputable def wq:FT (Clie×Segm×Unit) (Segm×Bool) (λx=>ah x.2.1) (λx v=>ah v.1):= .mk λ(x0,x1,_)=>
  .val (cd.f (x0.isn,1,())) λc1=>
  .bnd (β:=Bool×Unit) (.ite (x1.flags != 18) (.ret (true,()))<|
   .ret ((x1.ack != c1),())) λ(u2a0,_)=>
  .ite u2a0 (.ret ((⟨0,0,0,0,0,0,⟨0,0,false,false,0,0⟩,[]⟩:Segm),false))<|
  .val (cd.f (x1.seq,1,())) λc3=>
  .val (dC.f (())) λc4=>
  .bnd (β:=Bool×Unit) (.ite x0.opts.stamp (.ret (x1.opts.stamp,()))<|
   .ret (false,())) λ(u5a0,_)=>
  .ite u5a0 (.val (cd.f (x0.opts.val,1,())) λc6=>
   .ret ((⟨x0.tuple.port,x0.tuple.my,c1,c3,16,x0.window,⟨c4.mss,c4.scale,c4.sack,true,c6,x1.opts.val⟩,[]⟩:Segm),true))<|
  .ret ((⟨x0.tuple.port,x0.tuple.my,c1,c3,16,x0.window,c4,[]⟩:Segm),true)
noncomputable def M6:=dI st L4 Lf [] (ks:=[.st .clie,.st .segm]) wq (λv=>[(true,pc v.1),(false,[.c (.bool v.2)])]) Tryz.func152 trivial
noncomputable def fx:FT (Conn×Unit) (Conn) (λx=>ac x.1) (λx v=>ac v∧v=x.1):=⟨λ(x0,_)=>
  .cal dN.c (x0.r,()) λc1=>
  .ret ({x0 with r.next:=c1.next,r.data:=c1.data,r.held:=c1.held,r.fin:=c1.fin,r.done:=c1.done}:Conn),
 λ(x0,_) hp=>by
  refine Tr.C ?_ λc1 hc1 qc1=>Tr.R ?_
  all_goals ((first|grind|(refine⟨by grind, ?_⟩;first|(simp only[List.nil_append];done)|(subst_vars;rfl)|simp_all)))⟩
noncomputable def gC:=bh st Tryz.func153 [CF] (ks:=[.st .conn]) fx (λv=>[(true,kJ (.o true) v)])
noncomputable def MT:=[fP,iB]
noncomputable def N7:Fx:=⟨156,Tryz.f156,[(3000001,rA 0 17),(3000004,rA 0 42)],0⟩
noncomputable def kV:FT (Clie×Segm×Unit) (Segm×Bool) (λx=>ah x.2.1) (λx v=>ah v.1):= .mk λ(x0,x1,_)=>
  .bnd (β:=Bool×Unit) (.ite (x1.flags != 18) (.ret (true,()))<|
   .val (bM.f (x0.isn,1,())) λc1=>
   .ret ((x1.ack != c1),())) λ(u2a0,_)=>
  .ite u2a0 (.ret ((⟨0,0,0,0,0,0,⟨0,0,false,false,0,0⟩,[]⟩:Segm),false))<|
  .val (bM.f (x0.isn,1,())) λc3=>
  .val (bM.f (x1.seq,1,())) λc4=>
  .val (cA.f (())) λc5=>
  .bnd (β:=Bool×Unit) (.ite x0.opts.stamp (.ret (x1.opts.stamp,()))<|
   .ret (false,())) λ(u6a0,_)=>
  .ite u6a0 (.val (bM.f (x0.opts.val,1,())) λc7=>
   .ret ((⟨x0.tuple.port,x0.tuple.my,c3,c4,16,x0.window,⟨c5.mss,c5.scale,c5.sack,true,c7,x1.opts.val⟩,[]⟩:Segm),true))<|
  .ret ((⟨x0.tuple.port,x0.tuple.my,c3,c4,16,x0.window,c5,[]⟩:Segm),true)
noncomputable def M0:=dI aq N7 MT [] (ks:=[.st .clie,.st .segm]) kV (λv=>[(true,pc v.1),(false,[.c (.bool v.2)])]) Tryz.func156 trivial
noncomputable def p7:FT (Recv×Int×Unit) (Int×List Piec) (λx=>am x.1∧x.2.1≤9223372036854775807) (λx v=>sL bq v.2∧v.1≤9223372036854775807):= .mk λ(x0,x1,_)=>
  .cal lx.c (x0.held,x1,()) λc1=>
  .ret (c1.1,c1.2)
noncomputable def BF:=n7 st ⟨161,Tryz.f161,[],1⟩ [vn] [] [.wr true [.c (.int .i64),.c .str,.own 0,.c (.int .i64),.c .bool],.sc (.int .i64)] [.arr .piec] (λx y=>((⟨x.1.1,x.1.2.1,y.1,x.1.2.2.1,x.1.2.2.2.1⟩:Recv),x.2.1,())) p7 (λv=>[(false,[.c (.int .i64 v.1)])]) (λx y v=>(v.2,())) Tryz.func161 (by kernel_rfl) trivial
noncomputable def pC:FT (Recv×Int×Unit) (Int) (λx=>am x.1∧x.2.1≤9223372036854775807) (λx v=>v≤9223372036854775807):= .mk λ(x0,x1,_)=>
  .cal lZ.c (x0.held,x1,()) λc1=>
  .ite (decide (c1<0)) (.ret (-1))<|
  .ret c1
noncomputable def A1:=bh st Tryz.func162 [uW] (ks:=[.st .recv,.sc (.int .i64)]) pC rI
noncomputable def r9:FT (Keys×Unit) (Keys) (λx=>bT x.1) (λx v=>bT v∧v=x.1):=⟨λ(x0,_)=>
  .cal ju.c (x0.now,()) λc1=>
  .cal ju.c (x0.before,()) λc2=>
  .ret (⟨x0.epoch,c1,c2,x0.two⟩:Keys),
 λ(x0,_) hp=>by
  refine Tr.C ?_ λc1 hc1 qc1=>Tr.C ?_ λc2 hc2 qc2=>Tr.R ?_
  all_goals ((first|grind|(refine⟨by grind, ?_⟩;first|(simp only[List.nil_append];done)|(subst_vars;rfl)|simp_all)))⟩
noncomputable def Cs:=bh st Tryz.func166 [vi] (ks:=[.st .keys]) r9 (λv=>[(true,Gv (.o true) (.o true) v)])
def vF:Sh:=⟨[zp 1 0,zp 2 1,zp 3 2,zi 4],[.box [.st .tabl [.sl .arg,.sl .arg]],.box [.st .tabl [.nil .conn,.nil .tupl]],.box [.st .tabl [.own 3,.own 4]],zf,zf]⟩
noncomputable def vk (v1:Tabl)(v0:Int)(a:Tabl×Tabl):Tr (Stp (Tabl×Tabl) (Empty)):=
 .grd (aY v1.conns v0)<|
 .cal fx.c ((v1.conns.getD v0.toNat (Ty.zero .conn)),()) λc2=>
 .grd (GN a.2.conns 1 208)<|
 .ret (.next ((⟨[],[]⟩:Tabl),(⟨(a.2.conns++[c2]),a.2.waiting⟩:Tabl)))
noncomputable def jc:vF.V→yQ vF (Tabl×Tabl):=λ(v0,v1,v2,v3,_)=>⟨v0,(v2,v3),λv0 a=>(v0,v1,a.1,a.2,()),λv0 _=>(decide (v0<(v1.conns.length:Int))),vk v1,up,1,(Int.toNat ((v1.conns.length:Int)-v0)),Empty.elim,Prod.mk,oN (.exit 0) ⟨[zp 2 0,zp 3 1],[.box [.st .tabl [.nil .conn,.nil .tupl]],.box [.st .tabl [.own 2,.own 3]],zf,zf]⟩ (λx=>((⟨[],[]⟩:Tabl),x.2.2,()))⟩
theorem E9 {v0:Int}{v1 v2 v3:Tabl}(h0:0≤v0)(h1:(v1.conns.length:Int)≤4611686018427387904)(h2:bA v1)(h3:sS v3.waiting)(h4:bA v2∧(v3.conns.length:Int)=v0∧cU ac v3.conns∧v3.waiting.length=v3.waiting.length):(jc (v0,v1,v2,v3,())).U (v1.conns.length:Int) (λv0 a=>bA a.1∧(a.2.conns.length:Int)=v0∧cU ac a.2.conns∧a.2.waiting.length=v3.waiting.length) (λ_=>True):=
 mw (a:=(v2,v3)) h0 h1 h4
noncomputable def mX:FT (Tabl×Unit) (Tabl) (λx=>bA x.1) (λx v=>bA v∧v.conns.length=x.1.conns.length∧v.waiting.length=x.1.waiting.length):=⟨λ(x0,_)=>
  .grd (Nat.ble ((2*(0+x0.waiting.length)+1024)*24) aM)<|
  .lp (jc (0,x0,(⟨[],[]⟩:Tabl),(⟨[],([]++x0.waiting)⟩:Tabl),())).lp λ(_,_,a3_1)=>
  .ret a3_1,
 λ(x0,_) hp=>by
  refine Tr.Gb ?_ λ_=>Tr.L (E9 ?_ ?_ ?_ ?_ ?_) (λ(a3_0,a3_1) _=>Tr.R ?_) (λp=>Empty.elim p)
  all_goals ((try simp only[jc,LC.lp,LC.ct,Ct.lp]at*)<;>grind)⟩
noncomputable def vj:=eC st Tryz.func167 [(0,la ⟨[1,2,3,4],[.box 3 0 .conn],false,0⟩ ⟨[2,3],[],false,0⟩)] [gC] 0 jc (ks:=[.st .tabl]) mX (λv=>[(true,xW (.o true) (.o true) v)])
noncomputable def Bt:=[dZ]
def lI:Sh:=⟨[zp 1 0,zi 3,zi 4],[zg .mac]⟩
def oy:Sh:=⟨[zp 1 0,zi 3],[zg .mac]⟩
noncomputable def A4:Fx:=⟨169,Tryz.f169,[(2,lb [1,3,4] [1,2,3]),(0,lb [1,3] [1,2])],0⟩
noncomputable def pq (vb0:Int)(vb2:Mac)(vb1:Int)(a:Unit):Tr (Stp (Unit) ((Unit))):=
 .grd (aY vb2.rows vb1)<|
 .grd (aY vb2.rows vb0)<|
 .ite ((vb2.rows.getD vb1.toNat (Ty.zero .macRow)).input==(vb2.rows.getD vb0.toNat (Ty.zero .macRow)).input) (.ret (.out ()))<|
 .ret (.next ())
noncomputable def fk:lI.V→oi lI Unit (Unit):=λ(vb0,vb1,vb2,_)=>⟨vb1,(),λvb1 _=>(vb0,vb1,vb2,()),λvb1 _=>(decide (vb1<vb0)),pq vb0 vb2,up,1,(Int.toNat (vb0-vb1)),.inl,eR,oB .ret ⟨[zp 1 0,zb 2,zi 3],[zg .mac]⟩ (λ_=>(false,vb0,vb2,())) (.exit 2) ⟨[zp 1 0,zu 2,zi 3],[zg .mac]⟩ (λ_=>(vb0,vb2,()))⟩
theorem EQ:LS Tryz.prog A4 [0,0] (kf 2 lI fk):=fe st (aR Bt) _ fk [] trivial
theorem D6 {vb0 vb1:Int}{vb2:Mac}(h0:0≤vb1)(h1:vb0≤4611686018427387904)(h2:vb0≤(vb2.rows.length:Int))(h3:0≤vb0)(h4:vb0<(vb2.rows.length:Int)):(fk (vb0,vb1,vb2,())).U vb0 (λ_ _=>True) (λ_=>True):=
 mw h0 h1 trivial
noncomputable def tY (v1:Mac)(v0:Int)(a:Unit):Tr (Stp (Unit) ((Unit))):=
 .grd (aY v1.rows v0)<|
 .val (dz.f ((v1.rows.getD v0.toNat (Ty.zero .macRow)).value,0,16777215,())) λc1=>
 .ite (!c1) (.ret (.out ()))<|
 .lp (fk (v0,0,v1,())).lp λw2=> .sum w2 (λ_=>
 .ret (.out ()))<|
 λ_=>
 .ret (.next ())
noncomputable def jy:oy.V→oi oy Unit (Unit):=λ(v0,v1,_)=>⟨v0,(),λv0 _=>(v0,v1,()),λv0 _=>(decide (v0<(v1.rows.length:Int))),tY v1,up,1,(Int.toNat ((v1.rows.length:Int)-v0)),.inl,eR,oB .ret ⟨[zp 1 0,zb 2],[zg .mac]⟩ (λ_=>(false,v1,())) (.exit 0) ⟨[zp 1 0,zu 2],[zg .mac]⟩ (λ_=>(v1,()))⟩
theorem JC:LS Tryz.prog A4 [0] (kf 0 oy jy):=fe st (aR Bt) _ jy [(kf 2 lI fk)] ⟨EQ,trivial⟩
theorem JH {v0:Int}{v1:Mac}(h0:0≤v0)(h1:(v1.rows.length:Int)≤4611686018427387904)(h2:aP v1):(jy (v0,v1,())).U (v1.rows.length:Int) (λ_ _=>True) (λ_=>True):=
 LC.okU (i:=v0) (a:=()) (λ_ _=>rfl) (λ_=>rfl) rfl h0 h1 trivial λv0 _ hj hk hv=>by
  refine Tr.G2 ?_ λ_=>Tr.V λ_ _=>Tr.I (λ_=>Tr.Ro trivial) λ_=>Tr.L (D6 ?_ ?_ ?_ ?_ ?_) (λ_ _=>Tr.Sr (Tr.Rn trivial)) (λ_ _=>Tr.Sl (Tr.Ro trivial))
  all_goals ((try simp only[fk,LC.lp,LC.ct,Ct.lp]at*)<;>grind)
noncomputable def wB:FT (Mac×Unit) (Bool) (λx=>aP x.1) (λx v=>(v=true→x.1.rows.length≤64)):= .mk (λ(x0,_)=>
  .ite (!x0.use) (.ret ((x0.rows.length:Int)==0))<|
  .lp (jy (0,x0,())).lp λw3=> .sum w3 (λ_=>
  .ret false)<|
  λ_=>
  .ite (x0.k==0) (.ite (x0.l==0) (.ret (decide ((x0.rows.length:Int)≤64)))<|
   .ret false)<|
  .ret false) (ql @JH)
noncomputable def Iy:=dI st A4 Bt [(kf 0 oy jy)] (ks:=[.st .mac]) wB rB Tryz.func169 ⟨JC,trivial⟩
noncomputable def jq:FT (Mac×Unit) (Mac) (λx=>aP x.1) (λx v=>aP v∧v=x.1):=⟨λ(x0,_)=>
  .cal lA.c (x0.rows,()) λc1=>
  .ret ({x0 with rows:=c1}:Mac),
 λ(x0,_) hp=>by
  refine Tr.C ?_ λc1 hc1 qc1=>Tr.R ?_
  all_goals ((first|grind|(refine⟨by grind, ?_⟩;first|(simp only[List.nil_append];done)|(subst_vars;rfl)|simp_all)))⟩
noncomputable def tR:=bh aq Tryz.func180 [A2] (ks:=[.st .mac]) jq (λv=>[(true,Na (.o true) v)])
noncomputable def xK:=[fE,vn]
def jC:Sh:=⟨[(0,false,[.down 0]),zi 1,zi 5],[.dar .conn]⟩
noncomputable def xA:Fx:=⟨185,Tryz.f185,[(0,la ⟨[0,1,5],[],false,1⟩ ⟨[1,4],[],false,1⟩)],1⟩
noncomputable def jG (v1:Int)(a:Int×List Conn):Tr (Stp (Int×List Conn) (Empty)):=
 .grd (aY a.2 v1)<|
 .grd ((decide (0≤v1))&&(decide (v1<((a.2.set v1.toNat ({(a.2.getD v1.toNat (Ty.zero .conn))with tuple.ip:=a.1}:Conn)).length:Int))))<|
 .val ((a.2.set v1.toNat ({(a.2.getD v1.toNat (Ty.zero .conn))with tuple.ip:=a.1}:Conn)).set v1.toNat ({((a.2.set v1.toNat ({(a.2.getD v1.toNat (Ty.zero .conn))with tuple.ip:=a.1}:Conn)).getD v1.toNat (Ty.zero .conn))with tuple.port:=(IntKind.wrap .i64 (a.1+1))}:Conn)) λl1=>
 .grd (aY l1 v1)<|
 .val (l1.set v1.toNat ({(l1.getD v1.toNat (Ty.zero .conn))with tuple.my:=(IntKind.wrap .i64 ((IntKind.wrap .i64 (a.1+1))+1))}:Conn)) λl2=>
 .val (IntKind.wrap .i64 ((IntKind.wrap .i64 ((IntKind.wrap .i64 (a.1+1))+1))+1)) λe3=>
 .grd (aY l2 v1)<|
 .grd ((decide (0≤v1))&&(decide (v1<((l2.set v1.toNat ({(l2.getD v1.toNat (Ty.zero .conn))with state:=e3}:Conn)).length:Int))))<|
 .val ((l2.set v1.toNat ({(l2.getD v1.toNat (Ty.zero .conn))with state:=e3}:Conn)).set v1.toNat ({((l2.set v1.toNat ({(l2.getD v1.toNat (Ty.zero .conn))with state:=e3}:Conn)).getD v1.toNat (Ty.zero .conn))with s.una:=(IntKind.wrap .i64 (e3+1))}:Conn)) λl4=>
 .cal bz.c ((IntKind.wrap .i64 ((IntKind.wrap .i64 (e3+1))+1)),()) λc5=>
 .grd (aY l4 v1)<|
 .val (IntKind.wrap .i64 ((IntKind.wrap .i64 ((IntKind.wrap .i64 (e3+1))+1))+1)) λe6=>
 .grd ((decide (0≤v1))&&(decide (v1<((l4.set v1.toNat ({(l4.getD v1.toNat (Ty.zero .conn))with s.data:=c5}:Conn)).length:Int))))<|
 .val ((l4.set v1.toNat ({(l4.getD v1.toNat (Ty.zero .conn))with s.data:=c5}:Conn)).set v1.toNat ({((l4.set v1.toNat ({(l4.getD v1.toNat (Ty.zero .conn))with s.data:=c5}:Conn)).getD v1.toNat (Ty.zero .conn))with s.sent:=e6}:Conn)) λl7=>
 .grd (aY l7 v1)<|
 .val (l7.set v1.toNat ({(l7.getD v1.toNat (Ty.zero .conn))with s.fin:=(((IntKind.wrap .i64 (e6+1)).tmod 3)==0)}:Conn)) λl8=>
 .grd (aY l8 v1)<|
 .val (l8.set v1.toNat ({(l8.getD v1.toNat (Ty.zero .conn))with s.finSent:=(((IntKind.wrap .i64 ((IntKind.wrap .i64 (e6+1))+1)).tmod 3)==0)}:Conn)) λl9=>
 .val (IntKind.wrap .i64 ((IntKind.wrap .i64 ((IntKind.wrap .i64 (e6+1))+1))+1)) λe10=>
 .grd (aY l9 v1)<|
 .val (l9.set v1.toNat ({(l9.getD v1.toNat (Ty.zero .conn))with s.done:=((e10.tmod 3)==0)}:Conn)) λl11=>
 .grd (aY l11 v1)<|
 .val (l11.set v1.toNat ({(l11.getD v1.toNat (Ty.zero .conn))with r.next:=(IntKind.wrap .i64 (e10+1))}:Conn)) λl12=>
 .cal bz.c ((IntKind.wrap .i64 ((IntKind.wrap .i64 (e10+1))+1)),()) λc13=>
 .grd (aY l12 v1)<|
 .val (IntKind.wrap .i64 ((IntKind.wrap .i64 ((IntKind.wrap .i64 (e10+1))+1))+1)) λe14=>
 .grd ((decide (0≤v1))&&(decide (v1<((l12.set v1.toNat ({(l12.getD v1.toNat (Ty.zero .conn))with r.data:=c13}:Conn)).length:Int))))<|
 .cal lx.c (((l12.set v1.toNat ({(l12.getD v1.toNat (Ty.zero .conn))with r.data:=c13}:Conn)).getD v1.toNat (Ty.zero .conn)).r.held,e14,()) λc15=>
 .val ((l12.set v1.toNat ({(l12.getD v1.toNat (Ty.zero .conn))with r.data:=c13}:Conn)).set v1.toNat ({((l12.set v1.toNat ({(l12.getD v1.toNat (Ty.zero .conn))with r.data:=c13}:Conn)).getD v1.toNat (Ty.zero .conn))with r.held:=c15.2}:Conn)) λl16=>
 .grd (aY l16 v1)<|
 .grd ((decide (0≤v1))&&(decide (v1<((l16.set v1.toNat ({(l16.getD v1.toNat (Ty.zero .conn))with r.fin:=c15.1}:Conn)).length:Int))))<|
 .val ((l16.set v1.toNat ({(l16.getD v1.toNat (Ty.zero .conn))with r.fin:=c15.1}:Conn)).set v1.toNat ({((l16.set v1.toNat ({(l16.getD v1.toNat (Ty.zero .conn))with r.fin:=c15.1}:Conn)).getD v1.toNat (Ty.zero .conn))with r.done:=(((IntKind.wrap .i64 (c15.1+1)).tmod 3)==0)}:Conn)) λl17=>
 .grd (aY l17 v1)<|
 .val (l17.set v1.toNat ({(l17.getD v1.toNat (Ty.zero .conn))with window:=(IntKind.wrap .i64 ((IntKind.wrap .i64 (c15.1+1))+1))}:Conn)) λl18=>
 .val (IntKind.wrap .i64 ((IntKind.wrap .i64 ((IntKind.wrap .i64 (c15.1+1))+1))+1)) λe19=>
 .grd (aY l18 v1)<|
 .grd ((decide (0≤v1))&&(decide (v1<((l18.set v1.toNat ({(l18.getD v1.toNat (Ty.zero .conn))with most:=e19}:Conn)).length:Int))))<|
 .val ((l18.set v1.toNat ({(l18.getD v1.toNat (Ty.zero .conn))with most:=e19}:Conn)).set v1.toNat ({((l18.set v1.toNat ({(l18.getD v1.toNat (Ty.zero .conn))with most:=e19}:Conn)).getD v1.toNat (Ty.zero .conn))with opts.mss:=(IntKind.wrap .i64 (e19+1))}:Conn)) λl20=>
 .grd (aY l20 v1)<|
 .val (l20.set v1.toNat ({(l20.getD v1.toNat (Ty.zero .conn))with opts.scale:=(IntKind.wrap .i64 ((IntKind.wrap .i64 (e19+1))+1))}:Conn)) λl21=>
 .val (IntKind.wrap .i64 ((IntKind.wrap .i64 ((IntKind.wrap .i64 (e19+1))+1))+1)) λe22=>
 .grd (aY l21 v1)<|
 .val (l21.set v1.toNat ({(l21.getD v1.toNat (Ty.zero .conn))with opts.sack:=((e22.tmod 3)==0)}:Conn)) λl23=>
 .grd (aY l23 v1)<|
 .val (l23.set v1.toNat ({(l23.getD v1.toNat (Ty.zero .conn))with opts.stamp:=(((IntKind.wrap .i64 (e22+1)).tmod 3)==0)}:Conn)) λl24=>
 .grd (aY l24 v1)<|
 .val (l24.set v1.toNat ({(l24.getD v1.toNat (Ty.zero .conn))with opts.val:=(IntKind.wrap .i64 ((IntKind.wrap .i64 (e22+1))+1))}:Conn)) λl25=>
 .val (IntKind.wrap .i64 ((IntKind.wrap .i64 ((IntKind.wrap .i64 (e22+1))+1))+1)) λe26=>
 .grd (aY l25 v1)<|
 .grd ((decide (0≤v1))&&(decide (v1<((l25.set v1.toNat ({(l25.getD v1.toNat (Ty.zero .conn))with opts.echo:=e26}:Conn)).length:Int))))<|
 .val ((l25.set v1.toNat ({(l25.getD v1.toNat (Ty.zero .conn))with opts.echo:=e26}:Conn)).set v1.toNat ({((l25.set v1.toNat ({(l25.getD v1.toNat (Ty.zero .conn))with opts.echo:=e26}:Conn)).getD v1.toNat (Ty.zero .conn))with timer:=(IntKind.wrap .i64 (e26+1))}:Conn)) λl27=>
 .grd (aY l27 v1)<|
 .val (l27.set v1.toNat ({(l27.getD v1.toNat (Ty.zero .conn))with tries:=(IntKind.wrap .i64 ((IntKind.wrap .i64 (e26+1))+1))}:Conn)) λl28=>
 .val (IntKind.wrap .i64 ((IntKind.wrap .i64 ((IntKind.wrap .i64 (e26+1))+1))+1)) λe29=>
 .ret (.next (e29,l28))
noncomputable def bF:jC.V→yQ jC (Int×List Conn):=λ(v0,v1,v2,_)=>⟨v1,(v0,v2),λv1 a=>(a.1,v1,a.2,()),λv1 a=>(decide (v1<(a.2.length:Int))),jG,up,1,(Int.toNat ((v2.length:Int)-v1)),Empty.elim,Prod.mk,oN (.exit 0) ⟨[zi 1,zu 4],[.dar .conn]⟩ (λx=>(x.2.1,x.2.2,()))⟩
theorem Bp:LS Tryz.prog xA [0] (kf 0 jC bF):=fe st (aR xK) _ bF [] trivial
theorem Bw {v0 v1:Int}{v2:List Conn}(h0:0≤v1)(h1:(v2.length:Int)≤4611686018427387904)(h2:sL ac v2)(h3:v2.length=v2.length∧cU ac v2∧v0≤9223372036854775807):(bF (v0,v1,v2,())).S (λv1 a=>a.2.length=v2.length∧a.2.length=v2.length∧cU ac a.2∧a.1≤9223372036854775807) (λ_=>True):=by
 refine LC.okS ⟨rfl,h3⟩ (λj a hj hv=>⟨⟨?_, ?_⟩, ?_⟩) (λa hv=> ?_)
 ·simp only[bF,decide_eq_true_eq]at*;omega
 ·simp only[bF]at*;exact U2 (by omega) (by omega)
 ·refine Tr.G2 ?_ λ_=>Tr.G2 ?_ λ_=>Tr.V λ_ _=>Tr.G2 ?_ λ_=>Tr.V λ_ _=>Tr.V λ_ _=>Tr.G2 ?_ λ_=>Tr.G2 ?_ λ_=>Tr.V λ_ _=>Tr.C ?_ λ_ _ _=>Tr.G2 ?_ λ_=>Tr.V λ_ _=>Tr.G2 ?_ λ_=>Tr.V λ_ _=>Tr.G2 ?_ λ_=>Tr.V λ_ _=>Tr.G2 ?_ λ_=>Tr.V λ_ _=>Tr.V λ_ _=>Tr.G2 ?_ λ_=>Tr.V λ_ _=>Tr.G2 ?_ λ_=>Tr.V λ_ _=>Tr.C ?_ λ_ _ _=>Tr.G2 ?_ λ_=>Tr.V λ_ _=>Tr.G2 ?_ λ_=>Tr.C ?_ λ_ _ _=>Tr.V λ_ _=>Tr.G2 ?_ λ_=>Tr.G2 ?_ λ_=>Tr.V λ_ _=>Tr.G2 ?_ λ_=>Tr.V λ_ _=>Tr.V λ_ _=>Tr.G2 ?_ λ_=>Tr.G2 ?_ λ_=>Tr.V λ_ _=>Tr.G2 ?_ λ_=>Tr.V λ_ _=>Tr.V λ_ _=>Tr.G2 ?_ λ_=>Tr.V λ_ _=>Tr.G2 ?_ λ_=>Tr.V λ_ _=>Tr.G2 ?_ λ_=>Tr.V λ_ _=>Tr.V λ_ _=>Tr.G2 ?_ λ_=>Tr.G2 ?_ λ_=>Tr.V λ_ _=>Tr.G2 ?_ λ_=>Tr.V λ_ _=>Tr.V λ_ _=>Tr.Rn ?_
  all_goals (try simp only[bF]at*)<;>(grind)
 ·simp only[bF,decide_eq_false_iff_not]at*;omega
noncomputable def qE:FT (List Conn×Int×Unit) (Int×List Conn) (λx=>sL ac x.1∧x.2.1≤9223372036854775807) (λx v=>sL ac v.2∧v.1≤9223372036854775807):=⟨λ(x0,x1,_)=>
  .lp (bF (x1,0,x0,())).lp λ(_,a30_0,a30_1)=>
  .ret (a30_0,a30_1),
 λ(x0,x1,_) hp=>by
  refine Tr.L (Bw ?_ ?_ ?_ ?_) (λ(a30_0,a30_1) _=>Tr.R ?_) (λp=>Empty.elim p)
  all_goals ((try simp only[bF,LC.lp,LC.ct,Ct.lp]at*)<;>grind)⟩
noncomputable def Hd:=n7 st xA xK [(kf 0 jC bF)] [.wr false [.down 0],.sc (.int .i64)] [.dar .conn] (λx y=>(y.1,x.2.1,())) qE (λv=>[(false,[.c (.int .i64 v.1)])]) (λx y v=>(v.2,())) Tryz.func185 (by kernel_rfl) ⟨Bp,trivial⟩
noncomputable def wO:FT (Mac×Int×Unit) (Int) (λx=>aP x.1∧x.2.1≤9223372036854775807) (λx v=>v≤9223372036854775807):= .mk λ(x0,x1,_)=>
  .cal ny.c (x0.rows,x1,()) λc1=>
  .ite (decide (c1<0)) (.ret (-1))<|
  .ret c1
noncomputable def LR:=bh st Tryz.func187 [C9] (ks:=[.st .mac,.sc (.int .i64)]) wO rI
def sw:Sh:=⟨[zl 0 .conn,zi 1,zi 5],[]⟩
noncomputable def jz (v0:List Conn)(v2:Int)(a:Int):Tr (Stp (Int) ((Int))):=
 .grd (aY v0 v2)<|
 .ite ((v0.getD v2.toNat (Ty.zero .conn)).tuple.ip != a) (.ret (.out a))<|
 .grd (aY v0 v2)<|
 .ite ((v0.getD v2.toNat (Ty.zero .conn)).tuple.port != (IntKind.wrap .i64 (a+1))) (.ret (.out (IntKind.wrap .i64 (a+1))))<|
 .grd (aY v0 v2)<|
 .ite ((v0.getD v2.toNat (Ty.zero .conn)).tuple.my != (IntKind.wrap .i64 ((IntKind.wrap .i64 (a+1))+1))) (.ret (.out (IntKind.wrap .i64 ((IntKind.wrap .i64 (a+1))+1))))<|
 .val (IntKind.wrap .i64 ((IntKind.wrap .i64 ((IntKind.wrap .i64 (a+1))+1))+1)) λe1=>
 .grd (aY v0 v2)<|
 .ite ((v0.getD v2.toNat (Ty.zero .conn)).state != e1) (.ret (.out e1))<|
 .grd (aY v0 v2)<|
 .ite ((v0.getD v2.toNat (Ty.zero .conn)).s.una != (IntKind.wrap .i64 (e1+1))) (.ret (.out (IntKind.wrap .i64 (e1+1))))<|
 .grd (aY v0 v2)<|
 .cal bz.c ((IntKind.wrap .i64 ((IntKind.wrap .i64 (e1+1))+1)),()) λc2=>
 .ite (!((v0.getD v2.toNat (Ty.zero .conn)).s.data==c2)) (.ret (.out (IntKind.wrap .i64 ((IntKind.wrap .i64 (e1+1))+1))))<|
 .val (IntKind.wrap .i64 ((IntKind.wrap .i64 ((IntKind.wrap .i64 (e1+1))+1))+1)) λe3=>
 .grd (aY v0 v2)<|
 .ite ((v0.getD v2.toNat (Ty.zero .conn)).s.sent != e3) (.ret (.out e3))<|
 .grd (aY v0 v2)<|
 .ite (!((v0.getD v2.toNat (Ty.zero .conn)).s.fin==(((IntKind.wrap .i64 (e3+1)).tmod 3)==0))) (.ret (.out (IntKind.wrap .i64 (e3+1))))<|
 .grd (aY v0 v2)<|
 .ite (!((v0.getD v2.toNat (Ty.zero .conn)).s.finSent==(((IntKind.wrap .i64 ((IntKind.wrap .i64 (e3+1))+1)).tmod 3)==0))) (.ret (.out (IntKind.wrap .i64 ((IntKind.wrap .i64 (e3+1))+1))))<|
 .val (IntKind.wrap .i64 ((IntKind.wrap .i64 ((IntKind.wrap .i64 (e3+1))+1))+1)) λe4=>
 .grd (aY v0 v2)<|
 .ite (!((v0.getD v2.toNat (Ty.zero .conn)).s.done==((e4.tmod 3)==0))) (.ret (.out e4))<|
 .grd (aY v0 v2)<|
 .ite ((v0.getD v2.toNat (Ty.zero .conn)).r.next != (IntKind.wrap .i64 (e4+1))) (.ret (.out (IntKind.wrap .i64 (e4+1))))<|
 .grd (aY v0 v2)<|
 .cal bz.c ((IntKind.wrap .i64 ((IntKind.wrap .i64 (e4+1))+1)),()) λc5=>
 .ite (!((v0.getD v2.toNat (Ty.zero .conn)).r.data==c5)) (.ret (.out (IntKind.wrap .i64 ((IntKind.wrap .i64 (e4+1))+1))))<|
 .val (IntKind.wrap .i64 ((IntKind.wrap .i64 ((IntKind.wrap .i64 (e4+1))+1))+1)) λe6=>
 .grd (aY v0 v2)<|
 .cal lZ.c ((v0.getD v2.toNat (Ty.zero .conn)).r.held,e6,()) λc7=>
 .ite (decide (c7<0)) (.ret (.out c7))<|
 .grd (aY v0 v2)<|
 .ite ((v0.getD v2.toNat (Ty.zero .conn)).r.fin != c7) (.ret (.out c7))<|
 .grd (aY v0 v2)<|
 .ite (!((v0.getD v2.toNat (Ty.zero .conn)).r.done==(((IntKind.wrap .i64 (c7+1)).tmod 3)==0))) (.ret (.out (IntKind.wrap .i64 (c7+1))))<|
 .grd (aY v0 v2)<|
 .ite ((v0.getD v2.toNat (Ty.zero .conn)).window != (IntKind.wrap .i64 ((IntKind.wrap .i64 (c7+1))+1))) (.ret (.out (IntKind.wrap .i64 ((IntKind.wrap .i64 (c7+1))+1))))<|
 .val (IntKind.wrap .i64 ((IntKind.wrap .i64 ((IntKind.wrap .i64 (c7+1))+1))+1)) λe8=>
 .grd (aY v0 v2)<|
 .ite ((v0.getD v2.toNat (Ty.zero .conn)).most != e8) (.ret (.out e8))<|
 .grd (aY v0 v2)<|
 .ite ((v0.getD v2.toNat (Ty.zero .conn)).opts.mss != (IntKind.wrap .i64 (e8+1))) (.ret (.out (IntKind.wrap .i64 (e8+1))))<|
 .grd (aY v0 v2)<|
 .ite ((v0.getD v2.toNat (Ty.zero .conn)).opts.scale != (IntKind.wrap .i64 ((IntKind.wrap .i64 (e8+1))+1))) (.ret (.out (IntKind.wrap .i64 ((IntKind.wrap .i64 (e8+1))+1))))<|
 .val (IntKind.wrap .i64 ((IntKind.wrap .i64 ((IntKind.wrap .i64 (e8+1))+1))+1)) λe9=>
 .grd (aY v0 v2)<|
 .ite (!((v0.getD v2.toNat (Ty.zero .conn)).opts.sack==((e9.tmod 3)==0))) (.ret (.out e9))<|
 .grd (aY v0 v2)<|
 .ite (!((v0.getD v2.toNat (Ty.zero .conn)).opts.stamp==(((IntKind.wrap .i64 (e9+1)).tmod 3)==0))) (.ret (.out (IntKind.wrap .i64 (e9+1))))<|
 .grd (aY v0 v2)<|
 .ite ((v0.getD v2.toNat (Ty.zero .conn)).opts.val != (IntKind.wrap .i64 ((IntKind.wrap .i64 (e9+1))+1))) (.ret (.out (IntKind.wrap .i64 ((IntKind.wrap .i64 (e9+1))+1))))<|
 .val (IntKind.wrap .i64 ((IntKind.wrap .i64 ((IntKind.wrap .i64 (e9+1))+1))+1)) λe10=>
 .grd (aY v0 v2)<|
 .ite ((v0.getD v2.toNat (Ty.zero .conn)).opts.echo != e10) (.ret (.out e10))<|
 .grd (aY v0 v2)<|
 .ite ((v0.getD v2.toNat (Ty.zero .conn)).timer != (IntKind.wrap .i64 (e10+1))) (.ret (.out (IntKind.wrap .i64 (e10+1))))<|
 .grd (aY v0 v2)<|
 .ite ((v0.getD v2.toNat (Ty.zero .conn)).tries != (IntKind.wrap .i64 ((IntKind.wrap .i64 (e10+1))+1))) (.ret (.out (IntKind.wrap .i64 ((IntKind.wrap .i64 (e10+1))+1))))<|
 .val (IntKind.wrap .i64 ((IntKind.wrap .i64 ((IntKind.wrap .i64 (e10+1))+1))+1)) λe11=>
 .ret (.next e11)
noncomputable def jH:sw.V→oi sw Int (Int):=λ(v0,v1,v2,_)=>⟨v2,v1,λv2 a=>(v0,a,v2,()),λv2 _=>(decide (v2<(v0.length:Int))),jz v0,up,1,(Int.toNat ((v0.length:Int)-v2)),.inl,eR,oB .ret ⟨[zi 1,zi 4],[]⟩ (λp=>(p,(-1),())) (.exit 0) ⟨[zi 1,zu 4],[]⟩ (λx=>(x.2,()))⟩
theorem BD {v0:List Conn}{v1 v2:Int}(h0:0≤v2)(h1:(v0.length:Int)≤4611686018427387904)(h2:sL ac v0)(h3:v1≤9223372036854775807):(jH (v0,v1,v2,())).U (v0.length:Int) (λv2 a=>a≤9223372036854775807) (λ_=>True):=
 mw (a:=v1) h0 h1 h3
noncomputable def qS:FT (List Conn×Int×Unit) (Int) (λx=>sL ac x.1∧x.2.1≤9223372036854775807) (λx v=>v≤9223372036854775807):= .mk (λ(x0,x1,_)=>
  .lp (jH (x0,x1,0,())).lp λw12=> .sum w12 (λ_=>
  .ret (-1))<|
  λ(_,a12_0)=>
  .ret a12_0) (ql @BD)
noncomputable def Hr:=eC st Tryz.func188 [(0,lb [0,1,5] [1,4])] [fE,uW] 0 jH (ks:=[.sc (.sl .conn),.sc (.int .i64)]) qS rI
noncomputable def lc:FT (Tupl×Unit) (Bool) (λ_=>True) (λ_ _=>True):= .mk λ(x0,_)=>
  .cal aN.c (x0.ip,32,()) λc1=>
  .ite c1 (.cal aN.c (x0.port,16,()) λc2=>
   .ite c2 (.cal aN.c (x0.my,16,()) λc3=>
    .ret c3)<|
   .ret false)<|
  .ret false
noncomputable def nU:=bh st Tryz.func199 [cM] (ks:=[.st .tupl]) lc rB
noncomputable def zd:=[dZ,NH]
def uH:An:=⟨⟨[],[],false,0⟩,⟨[1,2,4,5],[],false,0⟩,⟨[],[]⟩,[(.normal,⟨[zi 1,zp 2 0,zp 4 1,zp 5 2],[zx .opti,zx .opti,zx .opti]⟩)]⟩
noncomputable def yR:Fx:=⟨201,Tryz.f201,[(1000013,uH)],0⟩
noncomputable def kv:FF (Opti×Int×Unit) (Opti):=⟨λ(x0,x1,_)=>
  .ite (!x0.stamp) (.ret (⟨1460,(-1),false,false,0,0⟩:Opti))<|
  .val (dz.f (x0.scale,0,14,())) λc1=>
  .bnd (β:=Int×Opti×Opti×Opti×Unit) (.ite c1 (.ret (x1,x0,(⟨0,0,false,false,0,0⟩:Opti),(⟨1460,0,false,false,0,0⟩:Opti),()))<|
   .ret (x1,x0,(⟨0,0,false,false,0,0⟩:Opti),(⟨1460,(-1),false,false,0,0⟩:Opti),())) λ(u2a0,u2a1,_,u2a3,_)=>
  .val (wP.f (u2a0,u2a1.scale,u2a1.sack,())) λc3=>
  .ret (⟨u2a3.mss,u2a3.scale,u2a1.sack,true,c3,u2a1.val⟩:Opti)⟩
noncomputable def zT:=Qh st yR zd [] (ks:=[.st .opti,.sc (.int .i64)]) kv (λv=>[(true,sX v)]) Tryz.func201 trivial
noncomputable def G8:=[cL,bZ]
noncomputable def HK:Fx:=⟨209,Tryz.f209,[(3000001,rA 0 15)],0⟩
noncomputable def aF:FT (Opti×Unit) (Bool) (λ_=>True) (λ_ _=>True):= .mk λ(x0,_)=>
  .bnd (β:=Bool×Unit) (.ite (!x0.stamp) (.ite (x0.val != 0) (.ret (true,()))<|
    .ret ((x0.echo != 0),()))<|
   .ret (false,())) λ(u1a0,_)=>
  .ite u1a0 (.ret false)<|
  .cal aj.c (x0.mss,16,()) λc2=>
  .ite c2 (.val (bo.f (x0.scale,(-1),14,())) λc3=>
   .ite c3 (.cal aj.c (x0.val,32,()) λc4=>
    .ite c4 (.cal aj.c (x0.echo,32,()) λc5=>
     .ret c5)<|
    .ret false)<|
   .ret false)<|
  .ret false
noncomputable def j5:=dI aq HK G8 [] (ks:=[.st .opti]) aF rB Tryz.func209 trivial
noncomputable def zt:=[bZ,L6]
def uF:An:=⟨⟨[],[],false,0⟩,⟨[1,2,4,5],[],false,0⟩,⟨[],[]⟩,[(.normal,⟨[zi 1,zp 2 0,zp 4 1,zp 5 2],[zx .opti,zx .opti,zx .opti]⟩)]⟩
noncomputable def AG:Fx:=⟨211,Tryz.f211,[(1000013,uF)],0⟩
noncomputable def fy:FF (Opti×Int×Unit) (Opti):=⟨λ(x0,x1,_)=>
  .ite (!x0.stamp) (.ret (⟨1460,(-1),false,false,0,0⟩:Opti))<|
  .val (bo.f (x0.scale,0,14,())) λc1=>
  .bnd (β:=Int×Opti×Opti×Opti×Unit) (.ite c1 (.ret (x1,x0,(⟨0,0,false,false,0,0⟩:Opti),(⟨1460,0,false,false,0,0⟩:Opti),()))<|
   .ret (x1,x0,(⟨0,0,false,false,0,0⟩:Opti),(⟨1460,(-1),false,false,0,0⟩:Opti),())) λ(u2a0,u2a1,_,u2a3,_)=>
  .val (mU.f (u2a0,u2a1.scale,u2a1.sack,())) λc3=>
  .ret (⟨u2a3.mss,u2a3.scale,u2a1.sack,true,c3,u2a1.val⟩:Opti)⟩
noncomputable def zD:=Qh aq AG zt [] (ks:=[.st .opti,.sc (.int .i64)]) fy (λv=>[(true,sX v)]) Tryz.func211 trivial
noncomputable def sy:FT (Segm×Unit) (Segm×Bool) (λx=>ah x.1) (λx v=>ah v.1):= .mk λ(x0,_)=>
  .val (fZ.f (x0,4,())) λc1=>
  .ite c1 (.ret ((⟨0,0,0,0,0,0,⟨0,0,false,false,0,0⟩,[]⟩:Segm),false))<|
  .val (dC.f (())) λc2=>
  .val (fZ.f (x0,16,())) λc3=>
  .ite c3 (.ret ((⟨x0.to,x0.from_,x0.ack,0,4,0,c2,[]⟩:Segm),true))<|
  .cal gX.c (x0,()) λc4=>
  .val (cd.f (x0.seq,c4,())) λc5=>
  .ret ((⟨x0.to,x0.from_,0,c5,20,0,c2,[]⟩:Segm),true)
noncomputable def JA:=bh st Tryz.func217 [wn,iE,pZ,fQ] (ks:=[.st .segm]) sy (λv=>[(true,pc v.1),(false,[.c (.bool v.2)])])
noncomputable def wl:FT (Tabl×Conn×Unit) (Tabl) (λx=>bA x.1∧ac x.2.1) (λx v=>bA v):= .mk λ(x0,x1,_)=>
  .cal mX.c (x0,()) λc1=>
  .cal eA.c (x0,x1.tuple,()) λc2=>
  .ite (decide (0≤c2)) (.cal fx.c (x1,()) λc3=>
   .grd (aY c1.conns c2)<|
   .ret (⟨(c1.conns.set c2.toNat c3),c1.waiting⟩:Tabl))<|
  .ret c1
noncomputable def NP:=bh st Tryz.func220 [vj,gM,gC] (ks:=[.st .tabl,.st .conn]) wl (λv=>[(true,xW (.o true) (.o true) v)])
noncomputable def G0:=[cM,dZ]
noncomputable def Hf:Fx:=⟨221,Tryz.f221,[(3000001,rA 0 15)],0⟩
noncomputable def d9:FT (Opti×Unit) (Bool) (λ_=>True) (λ_ _=>True):= .mk λ(x0,_)=>
  .bnd (β:=Bool×Unit) (.ite (!x0.stamp) (.ite (x0.val != 0) (.ret (true,()))<|
    .ret ((x0.echo != 0),()))<|
   .ret (false,())) λ(u1a0,_)=>
  .ite u1a0 (.ret false)<|
  .cal aN.c (x0.mss,16,()) λc2=>
  .ite c2 (.val (dz.f (x0.scale,(-1),14,())) λc3=>
   .ite c3 (.cal aN.c (x0.val,32,()) λc4=>
    .ite c4 (.cal aN.c (x0.echo,32,()) λc5=>
     .ret c5)<|
    .ret false)<|
   .ret false)<|
  .ret false
noncomputable def j4:=dI st Hf G0 [] (ks:=[.st .opti]) d9 rB Tryz.func221 trivial
noncomputable def nj:FT (Int×Unit) (Int×Int×Int) (λ_=>True) (λ_ _=>True):= .mk λ(x0,_)=>
  .cal aN.c (x0,32,()) λc1=>
  .ite (!c1) (.ret ((-1),(-1),(-1)))<|
  .ret ((IntKind.wrap .i64 (x0.tdiv 134217728)),((IntKind.wrap .i64 (x0.tdiv 16777216)).tmod 8),(x0.tmod 16777216))
noncomputable def CY:=bh st Tryz.func224 [cM] (ks:=[.sc (.int .i64)]) nj (λv=>[(false,[.c (.int .i64 v.1)]),(false,[.c (.int .i64 v.2.1)]),(false,[.c (.int .i64 v.2.2)])])
noncomputable def y4:FT (Int×Unit) (Int) (λ_=>True) (λ_ _=>True):= .mk λ(x0,_)=>
  .val (dz.f (x0,0,7,())) λc1=>
  .ite (!c1) (.ret 0)<|
  .grd ((decide (0≤x0))&&(decide (x0<8)))<|
  .ret ([64,256,536,1024,1300,1400,1440,1460].getD x0.toNat 0)
noncomputable def IM:=bh st Tryz.func227 [dZ] (ks:=[.sc (.int .i64)]) y4 rI
noncomputable def LV:=[cM]
noncomputable def Nt:Fx:=⟨228,Tryz.f228,[(3000001,rA 0 13)],0⟩
noncomputable def wY:FT (Int×Unit) (Int×Bool×Bool) (λ_=>True) (λ_ _=>True):= .mk λ(x0,_)=>
  .bnd (β:=Bool×Unit) (.cal aN.c (x0,32,()) λc1=>
   .ite (!c1) (.ret (true,()))<|
   .ret (((bits .and .i64 x0 32)==0),())) λ(u2a0,_)=>
  .ite u2a0 (.ret ((-1),false,false))<|
  .ite ((x0.tmod 16)==15) (.ret ((-1),((bits .and .i64 x0 16) != 0),true))<|
  .ret ((x0.tmod 16),((bits .and .i64 x0 16) != 0),true)
noncomputable def Mz:=dI st Nt LV [] (ks:=[.sc (.int .i64)]) wY (λv=>[(false,[.c (.int .i64 v.1)]),(false,[.c (.bool v.2.1)]),(false,[.c (.bool v.2.2)])]) Tryz.func228 trivial
noncomputable def iY:FT (Segm×Unit) (Segm×Bool) (λx=>ah x.1) (λx v=>ah v.1):= .mk λ(x0,_)=>
  .val (bk.f (x0,4,())) λc1=>
  .ite c1 (.ret ((⟨0,0,0,0,0,0,⟨0,0,false,false,0,0⟩,[]⟩:Segm),false))<|
  .val (cA.f (())) λc2=>
  .val (bk.f (x0,16,())) λc3=>
  .ite c3 (.ret ((⟨x0.to,x0.from_,x0.ack,0,4,0,c2,[]⟩:Segm),true))<|
  .cal aH.c (x0,()) λc4=>
  .val (bM.f (x0.seq,c4,())) λc5=>
  .ret ((⟨x0.to,x0.from_,0,c5,20,0,c2,[]⟩:Segm),true)
noncomputable def Kz:=bh aq Tryz.func229 [wJ,iB,pT,fP] (ks:=[.st .segm]) iY (λv=>[(true,pc v.1),(false,[.c (.bool v.2)])])
noncomputable def fU:FT (Int×Unit) (Int×Int×Int) (λ_=>True) (λ_ _=>True):= .mk λ(x0,_)=>
  .cal aj.c (x0,32,()) λc1=>
  .ite (!c1) (.ret ((-1),(-1),(-1)))<|
  .ret ((IntKind.wrap .i64 (x0.tdiv 134217728)),((IntKind.wrap .i64 (x0.tdiv 16777216)).tmod 8),(x0.tmod 16777216))
noncomputable def C5:=bh aq Tryz.func232 [cL] (ks:=[.sc (.int .i64)]) fU (λv=>[(false,[.c (.int .i64 v.1)]),(false,[.c (.int .i64 v.2.1)]),(false,[.c (.int .i64 v.2.2)])])
noncomputable def Jq:=[tR]
noncomputable def J3:Fx:=⟨233,Tryz.f233,[(3000003,rA 0 14)],0⟩
noncomputable def mO:FT (Keys×Int×Unit) (Mac×Bool) (λx=>bT x.1) (λx v=>aP v.1):= .mk λ(x0,x1,_)=>
  .ite (x1==x0.epoch) (.cal jq.c (x0.now,()) λc1=>
   .ret (c1,true))<|
  .bnd (β:=Bool×Unit) (.ite x0.two (.ret ((x1==(IntKind.wrap .i64 (x0.epoch-1))),()))<|
   .ret (false,())) λ(u2a0,_)=>
  .ite u2a0 (.cal jq.c (x0.before,()) λc3=>
   .ret (c3,true))<|
  .ret ((⟨false,0,0,[]⟩:Mac),false)
noncomputable def Ky:=dI aq J3 Jq [] (ks:=[.st .keys,.sc (.int .i64)]) mO (λv=>[(true,Na (.o true) v.1),(false,[.c (.bool v.2)])]) Tryz.func233 trivial
noncomputable def LM:=[cL]
noncomputable def Nk:Fx:=⟨236,Tryz.f236,[(3000001,rA 0 13)],0⟩
noncomputable def kM:FT (Int×Unit) (Int×Bool×Bool) (λ_=>True) (λ_ _=>True):= .mk λ(x0,_)=>
  .bnd (β:=Bool×Unit) (.cal aj.c (x0,32,()) λc1=>
   .ite (!c1) (.ret (true,()))<|
   .ret (((bits .and .i64 x0 32)==0),())) λ(u2a0,_)=>
  .ite u2a0 (.ret ((-1),false,false))<|
  .ite ((bits .and .i64 x0 15)==15) (.ret ((-1),((bits .and .i64 x0 16) != 0),true))<|
  .ret ((bits .and .i64 x0 15),((bits .and .i64 x0 16) != 0),true)
noncomputable def Ln:=dI aq Nk LM [] (ks:=[.sc (.int .i64)]) kM (λv=>[(false,[.c (.int .i64 v.1)]),(false,[.c (.bool v.2.1)]),(false,[.c (.bool v.2.2)])]) Tryz.func236 trivial
noncomputable def im:FT (Recv×Unit) (Recv) (λx=>am x.1) (λx v=>am v∧v=x.1):=⟨λ(x0,_)=>
  .cal nt.c (x0.held,()) λc1=>
  .ret ({x0 with held:=c1}:Recv),
 λ(x0,_) hp=>by
  refine Tr.C ?_ λc1 hc1 qc1=>Tr.R ?_
  all_goals ((first|grind|(refine⟨by grind, ?_⟩;first|(simp only[List.nil_append];done)|(subst_vars;rfl)|simp_all)))⟩
noncomputable def qB:=bh aq Tryz.func272 [CJ] (ks:=[.st .recv]) im (λv=>[(true,yz (.o true) v)])
def t8:Sh:=⟨[zl 0 .piec,zl 1 .piec,zi 5],[]⟩
noncomputable def uC (v0 v1:List Piec)(v2:Int)(a:Unit):Tr (Stp (Unit) ((Unit))):=
 .grd (aY v0 v2)<|
 .grd (aY v1 v2)<|
 .val (wC.f ((v0.getD v2.toNat (Ty.zero .piec)),(v1.getD v2.toNat (Ty.zero .piec)),())) λc1=>
 .ite (!c1) (.ret (.out ()))<|
 .ret (.next ())
noncomputable def kn:t8.V→oi t8 Unit (Unit):=λ(v0,v1,v2,_)=>⟨v2,(),λv2 _=>(v0,v1,v2,()),λv2 _=>(decide (v2<(v0.length:Int))),uC v0 v1,up,1,(Int.toNat ((v0.length:Int)-v2)),.inl,eR,oB .ret ⟨[zb 4],[]⟩ (λ_=>(false,())) (.exit 0) ⟨[zu 4],[]⟩ (λ_=>())⟩
theorem Dk {v0 v1:List Piec}{v2:Int}(h0:0≤v2)(h1:(v0.length:Int)≤4611686018427387904)(h2:(v0.length:Int)≤(v1.length:Int)):(kn (v0,v1,v2,())).U (v0.length:Int) (λ_ _=>True) (λ_=>True):=
 mw h0 h1 trivial
noncomputable def sI:FT (List Piec×List Piec×Unit) (Bool) (λx=>sL bq x.1∧sL bq x.2.1) (λ_ _=>True):= .mk (λ(x0,x1,_)=>
  .ite ((x0.length:Int) != (x1.length:Int)) (.ret false)<|
  .lp (kn (x0,x1,0,())).lp λw2=> .sum w2 (λ_=>
  .ret false)<|
  λ_=>
  .ret true) (ql @Dk)
noncomputable def KP:=eC st Tryz.func273 [(0,lb [0,1,5] [4])] [Nc] 0 kn (ks:=[.sc (.sl .piec),.sc (.sl .piec)]) sI rB
noncomputable def wy:FT (Mac×Mac×Unit) (Bool) (λx=>aP x.1∧aP x.2.1) (λ_ _=>True):= .mk λ(x0,x1,_)=>
  .ite (x0.use==x1.use) (.ite (x0.k==x1.k) (.ite (x0.l==x1.l) (.cal qh.c (x0.rows,x1.rows,()) λc1=>
     .ret c1)<|
    .ret false)<|
   .ret false)<|
  .ret false
noncomputable def Nh:=bh aq Tryz.func280 [BS] (ks:=[.st .mac,.st .mac]) wy rB
def uz:Sh:=⟨[zi 0,zi 3,zi 4],[]⟩
noncomputable def t9 (v0:Int)(v2:Int)(a:Int):Tr (Stp (Int) (Empty)):=
 .cal y4.c (v2,()) λc1=>
 .ite (decide (c1≤v0)) (.ret (.next v2))<|
 .ret (.next a)
noncomputable def kg:uz.V→yQ uz Int:=λ(v0,v1,v2,_)=>⟨v2,v1,λv2 a=>(v0,a,v2,()),λv2 _=>(decide (v2<8)),t9 v0,up,1,(Int.toNat (8-v2)),Empty.elim,Prod.mk,oN (.exit 0) ⟨[zu 2,zi 3],[]⟩ (λx=>(x.2,()))⟩
theorem C8 {v0 v1 v2:Int}(h0:0≤v2):(kg (v0,v1,v2,())).U 8 (λ_ _=>True) (λ_=>True):=
 mw (a:=v1) h0 (by decide) trivial
noncomputable def tK:FT (Int×Unit) (Int) (λ_=>True) (λ_ _=>True):= .mk (λ(x0,_)=>
  .lp (kg (x0,0,0,())).lp λ(_,a2_0)=>
  .ret a2_0) (ql @C8)
noncomputable def J7:=eC st Tryz.func290 [(0,lb [0,3,4] [2,3])] [IM] 0 kg (ks:=[.sc (.int .i64)]) tK rI
noncomputable def nb:FF (Int×Int×Int×Unit) (Bool):=⟨λ(x0,x1,x2,_)=>
  .ite (decide (4294967295<x2)) (.ret true)<|
  .ite (decide (1≤x2)) (.val (qN.f (x0,x1,())) λc1=>
   .ret (decide (c1<x2)))<|
  .ret false⟩
noncomputable def sz:=gz aq Tryz.func307 [BI] (ks:=[.sc (.int .i64),.sc (.int .i64),.sc (.int .i64)]) nb rB
noncomputable def we:FT (Conn×Int×Unit) (Bool) (λx=>ac x.1) (λ_ _=>True):= .mk λ(x0,x1,_)=>
  .val (β:=Int) (if 0<(if 2147483648<x0.most then 2147483648 else x0.most)then(if 2147483648<x0.most then 2147483648 else x0.most)else 0) λe1=>
  .val (o9.f (x1,x0.s.una,())) λc2=>
  .cal cG.c (x0.s,()) λc3=>
  .val (bo.f (c2,(IntKind.wrap .i64 (0-e1)),c3,())) λc4=>
  .ret c4
noncomputable def L1:=bh aq Tryz.func310 [uL,pD,bZ] (ks:=[.st .conn,.sc (.int .i64)]) we rB
noncomputable def jr:FT (Sndr×Unit) (Int) (λx=>cI x.1) (λ_ _=>True):= .mk λ(x0,_)=>
  .cal cG.c (x0,()) λc1=>
  .val (bM.f (x0.una,c1,())) λc2=>
  .ret c2
noncomputable def ED:=bh aq Tryz.func311 [pD,fP] (ks:=[.st .sndr]) jr rI
def uZ:Sh:=⟨[zi 0,zo 5 0,zi 6],[za .u8]⟩
noncomputable def lw (v1:Int)(a:Int×List Int):Tr (Stp (Int×List Int) (Empty)):=
 .grd (aY a.2 v1)<|
 .ret (.next ((IntKind.wrap .i64 (a.1.tdiv 256)),(a.2.set v1.toNat (IntKind.wrap .u8 (a.1.tmod 256)))))
noncomputable def i3:uZ.V→yQ uZ (Int×List Int):=λ(v0,v1,v2,_)=>⟨v1,(v0,v2),λv1 a=>(a.1,v1,a.2,()),λv1 _=>(decide (0≤v1)),lw,dn,(-1),(Int.toNat (v1-0+1)),Empty.elim,Prod.mk,oN (.exit 0) ⟨[zu 4,zo 5 0],[za .u8]⟩ (λx=>(x.2.2,()))⟩
theorem Gj {v0 v1:Int}{v2:List Int}(h0:v1≤9223372036854775807)(h1:sS v2)(h2:v2.length=v2.length∧v1<(v2.length:Int)):(i3 (v0,v1,v2,())).D 0 (λv1 a=>a.2.length=v2.length∧v1<(a.2.length:Int)) (λ_=>True):=
 WF (a:=(v0,v2)) h0 (by decide) h2
noncomputable def jD:FT (Int×Int×Unit) (aA) (λ_=>True) (λx v=>sS v∧(v.length:Int)≤max x.2.1 0):=⟨λ(x0,x1,_)=>
  .bnd (β:=Bool×Unit) (.val (dz.f (x1,1,6,())) λc1=>
   .ite (!c1) (.ret (true,()))<|
   .cal aN.c (x0,(IntKind.wrap .i64 (8*x1)),()) λc2=>
   .ret ((!c2),())) λ(u3a0,_)=>
  .ite u3a0 (.ret [])<|
  .grd ((((decide (0≤x1))&&(decide (x1=x1)))&&(decide (x1*1≤(aM:Int))))&&(decide (x1≤(aM:Int))))<|
  .lp (i3 (x0,(IntKind.wrap .i64 (x1-1)),(List.replicate x1.toNat 0),())).lp λ(_,_,a4_1)=>
  .ret (ay a4_1),
 λ(x0,x1,_) hp=>by
  refine Tr.B (Q':=λ_=>True) (Tr.V λ_ _=>Tr.I (λ_=>Tr.R trivial) λ_=>Tr.C trivial λ_ _ _=>Tr.R trivial) (λ(u3a0,_) _ _=>Tr.I (λ_=>Tr.R ?_) λ_=>Tr.G4 ?_ λ_=>Tr.L (Gj ?_ ?_ ?_) (λ(a4_0,a4_1) _=>Tr.R ?_) (λp=>Empty.elim p))
  all_goals ((try simp only[i3,LC.lp,LC.ct,Ct.lp,Tr.nice,iq]at*)<;>grind)⟩
noncomputable def Ns:=eC st Tryz.func327 [(0,lb [0,5,6] [4,5]),(3000001,rA 0 16)] [dZ,cM] 0 i3 (ks:=[.sc (.int .i64),.sc (.int .i64)]) jD (λv=>[(false,[.c (.str v)])])
def uQ:Sh:=⟨[zi 0,zo 5 0,zi 6],[za .u8]⟩
noncomputable def jb (v1:Int)(a:Int×List Int):Tr (Stp (Int×List Int) (Empty)):=
 .grd (aY a.2 v1)<|
 .ret (.next ((a.1.fdiv 256),(a.2.set v1.toNat (IntKind.wrap .u8 a.1))))
noncomputable def gt:uQ.V→yQ uQ (Int×List Int):=λ(v0,v1,v2,_)=>⟨v1,(v0,v2),λv1 a=>(a.1,v1,a.2,()),λv1 _=>(decide (0≤v1)),jb,dn,(-1),(Int.toNat (v1-0+1)),Empty.elim,Prod.mk,oN (.exit 0) ⟨[zu 4,zo 5 0],[za .u8]⟩ (λx=>(x.2.2,()))⟩
theorem FA {v0 v1:Int}{v2:List Int}(h0:v1≤9223372036854775807)(h1:sS v2)(h2:v2.length=v2.length∧v1<(v2.length:Int)):(gt (v0,v1,v2,())).D 0 (λv1 a=>a.2.length=v2.length∧v1<(a.2.length:Int)) (λ_=>True):=
 WF (a:=(v0,v2)) h0 (by decide) h2
noncomputable def fv:FT (Int×Int×Unit) (aA) (λ_=>True) (λx v=>sS v∧(v.length:Int)≤max x.2.1 0):=⟨λ(x0,x1,_)=>
  .bnd (β:=Bool×Unit) (.val (bo.f (x1,1,6,())) λc1=>
   .ite (!c1) (.ret (true,()))<|
   .cal aj.c (x0,(IntKind.wrap .i64 (8*x1)),()) λc2=>
   .ret ((!c2),())) λ(u3a0,_)=>
  .ite u3a0 (.ret [])<|
  .grd ((((decide (0≤x1))&&(decide (x1=x1)))&&(decide (x1*1≤(aM:Int))))&&(decide (x1≤(aM:Int))))<|
  .lp (gt (x0,(IntKind.wrap .i64 (x1-1)),(List.replicate x1.toNat 0),())).lp λ(_,_,a4_1)=>
  .ret (ay a4_1),
 λ(x0,x1,_) hp=>by
  refine Tr.B (Q':=λ_=>True) (Tr.V λ_ _=>Tr.I (λ_=>Tr.R trivial) λ_=>Tr.C trivial λ_ _ _=>Tr.R trivial) (λ(u3a0,_) _ _=>Tr.I (λ_=>Tr.R ?_) λ_=>Tr.G4 ?_ λ_=>Tr.L (FA ?_ ?_ ?_) (λ(a4_0,a4_1) _=>Tr.R ?_) (λp=>Empty.elim p))
  all_goals ((try simp only[gt,LC.lp,LC.ct,Ct.lp,Tr.nice,iq]at*)<;>grind)⟩
noncomputable def Ls:=eC aq Tryz.func337 [(0,lb [0,5,6] [4,5]),(3000001,rA 0 16)] [bZ,cL] 0 gt (ks:=[.sc (.int .i64),.sc (.int .i64)]) fv (λv=>[(false,[.c (.str v)])])
noncomputable def Jp:=[cL,bZ]
noncomputable def KV:Fx:=⟨352,Tryz.f352,[(3000001,rA 0 21),(3000003,rA 0 36)],0⟩
noncomputable def bp:FT (Sndr×Unit) (Bool) (λ_=>True) (λx v=>(v=true↔SO x.1)):= .mk λ(x0,_)=>
  .bnd (β:=Bool×Unit) (.cal aj.c (x0.una,32,()) λc1=>
   .ite (!c1) (.ret (true,()))<|
   .ite (decide (48<(x0.data.length:Int))) (.ret (true,()))<|
   .val (bo.f (x0.sent,0,(x0.data.length:Int),())) λc2=>
   .ret ((!c2),())) λ(u3a0,_)=>
  .ite u3a0 (.ret false)<|
  .bnd (β:=Bool×Unit) (.ite x0.finSent (.ite (!x0.fin) (.ret (true,()))<|
    .ret ((x0.sent != (x0.data.length:Int)),()))<|
   .ret (false,())) λ(u4a0,_)=>
  .ite u4a0 (.ret false)<|
  .ite (!x0.done) (.ret true)<|
  .ite x0.fin (.ite (!x0.finSent) (.ret (x0.data==[]))<|
   .ret false)<|
  .ret false
noncomputable def ov:=dI aq KV Jp [] (ks:=[.st .sndr]) bp rB Tryz.func352 trivial
def qw:Sh:=⟨[zp 1 0,zi 4,zi 5,zl 45 .piec,zi 46,zi 47],[zg .recv]⟩
def ye:An:=⟨⟨[],[],false,0⟩,⟨[1,2,4],[],false,0⟩,⟨[],[]⟩,[(.normal,⟨[zp 1 0,zb 2,zi 4],[zg .recv]⟩)]⟩
noncomputable def dk (v0:Int)(v2:List Piec)(v4:Int)(a:Int):Tr (Stp (Int) ((Unit))):=
 .grd (aY v2 v4)<|
 .bnd (β:=Bool×Unit) (.ite ((v2.getD v4.toNat (Ty.zero .piec)).text==[]) (.ret (true,()))<|
  .ite (decide ((v2.getD v4.toNat (Ty.zero .piec)).off≤a)) (.ret (true,()))<|
  .val (IntKind.wrap .i64 (v0-(((v2.getD v4.toNat (Ty.zero .piec)).text).length:Int))) λe6=>
  .ret ((decide (e6<(v2.getD v4.toNat (Ty.zero .piec)).off)),())) λ(u7a0,_)=>
 .ite u7a0 (.ret (.out ()))<|
 .val (IntKind.wrap .i64 ((v2.getD v4.toNat (Ty.zero .piec)).off+(((v2.getD v4.toNat (Ty.zero .piec)).text).length:Int))) λe8=>
 .ret (.next e8)
noncomputable def eq:qw.V→oi qw Int (Unit):=λ(v0,v1,v2,v3,v4,v5,_)=>⟨v4,v1,λv4 a=>(v0,a,v2,v3,v4,v5,()),λv4 _=>(decide (v4<v3)),dk v0 v2,up,1,(Int.toNat (v3-v4)),.inl,eR,oB .ret ⟨[zp 1 0,zb 2],[zg .recv]⟩ (λ_=>(false,v5,())) (.exit 0) ⟨[zp 1 0,zu 2],[zg .recv]⟩ (λ_=>(v5,()))⟩
theorem zH {v0 v1 v3 v4:Int}{v2:List Piec}{v5:Recv}(h0:0≤v4)(h1:v3≤4611686018427387904)(h2:v0≤32)(h3:0≤v0)(h4:sL bq v2)(h5:v3≤(v2.length:Int))(h6:0≤v1∧v1≤32∧cU (pw v0) (v2.take v4.toNat)):(eq (v0,v1,v2,v3,v4,v5,())).U v3 (λv4 a=>0≤a∧a≤32∧cU (pw v0) (v2.take v4.toNat)) (λ_=>True):=
 LC.okU (i:=v4) (a:=v1) (λ_ _=>rfl) (λ_=>rfl) rfl h0 h1 h6 λv4 v1 hj hk hv=>by
  refine Tr.G2 ?_ λ_=>Tr.B (Q':=λ_=>True) (Tr.F (by kernel_rfl) trivial) (λ(u7a0,_) _ _=>Tr.I (λ_=>Tr.Ro trivial) λ_=>Tr.V λ_ _=>Tr.Rn ?_)
  all_goals ((try simp only[Tr.nice,iq]at*)<;>grind [←Ul])
noncomputable def br:FT (Recv×Unit) (Bool) (λx=>am x.1) (λx v=>(v=true→RO x.1)∧(v=true→cU (pw (R7 x.1)) x.1.held)):=⟨λ(x0,_)=>
  .cal bQ.c (x0,()) λc1=>
  .bnd (β:=Bool×Unit) (.cal aj.c (x0.next,32,()) λc2=>
   .ite (!c2) (.ret (true,()))<|
   .ite (decide (32<(x0.data.length:Int))) (.ret (true,()))<|
   .ite (decide (3<(x0.held.length:Int))) (.ret (true,()))<|
   .val (bo.f (x0.fin,(-1),c1,())) λc3=>
   .ite (!c3) (.ret (true,()))<|
   .ret ((x0.fin==0),())) λ(u4a0,_)=>
  .ite u4a0 (.ret false)<|
  .bnd (β:=Bool×Int×Recv×Unit) (.ite (x0.fin != (-1)) (.ret (false,x0.fin,x0,()))<|
   .ret (false,c1,x0,())) λ(_,u5a1,u5a2,_)=>
  .lp (eq (u5a1,0,u5a2.held,(u5a2.held.length:Int),0,u5a2,())).lp λw9=> .sum w9 (λ_=>
  .ret false)<|
  λ_=>
  .ite (!u5a2.done) (.ret true)<|
  .ite ((u5a2.held.length:Int)==0) (.ret (u5a2.fin==(-1)))<|
  .ret false,
 λ(x0,_) hp=>by
  refine Tr.C ?_ λc1 hc1 qc1=>Tr.B (Q':=λ_=>True) (Tr.C trivial λc2 hc2 qc2=>Tr.F (by kernel_rfl) trivial) (λ(u4a0,_) hj4 qj4=>Tr.I (λb0=>Tr.R ?_) λb0=>Tr.B (Q':=λw=>am w.2.2.1∧0≤w.2.1∧w.2.1≤32∧w.2.2.1=x0∧(x0.data.length≤32→w.2.1≤R7 x0)) (Tr.I (λb1=>Tr.R ?_) λb1=>Tr.R ?_) (λ(u5a0,u5a1,u5a2,_) hj5 qj5=>Tr.L (zH ?_ ?_ ?_ ?_ ?_ ?_ ?_) (λa9_0 i9=>Tr.Sr (Tr.I (λb1=>Tr.R ?_) λb1=>Tr.I (λb2=>Tr.R ?_) λb2=>Tr.R ?_)) (λ_ hp9=>Tr.Sl (Tr.R ?_))))
  all_goals ((try simp only[eq,LC.lp,LC.ct,Ct.lp,Tr.nice,iq]at*)<;>grind [VO,WM,W4])⟩
noncomputable def vv:=eC aq Tryz.func353 [(0,lb [1,4,5,45,46,47] [1,2]),(1000041,ye),(3000002,rA 0 37),(3000011,rA 0 69)] [mf,cL,bZ] 0 eq (ks:=[.st .recv]) br rB
noncomputable def wE:FT (Conn×Int×Unit) (Bool) (λx=>ac x.1) (λ_ _=>True):= .mk λ(x0,x1,_)=>
  .val (oY.f (x1,x0.s.una,())) λc1=>
  .cal jm.c (x0.s,()) λc2=>
  .ite (decide (c1≤c2)) (.ite (decide (0≤c1)) (.ret true)<|
   .ite (decide (2147483648≤x0.most)) (.ret true)<|
   .ite (decide (0<x0.most)) (.ret (decide ((IntKind.wrap .i64 (0-x0.most))≤c1)))<|
   .ret false)<|
  .ret false
noncomputable def NC:=bh st Tryz.func357 [uV,mt] (ks:=[.st .conn,.sc (.int .i64)]) wE rB
noncomputable def vS:FT (Sndr×Unit) (Int) (λx=>cI x.1) (λ_ _=>True):= .mk λ(x0,_)=>
  .cal jm.c (x0,()) λc1=>
  .val (cd.f (x0.una,c1,())) λc2=>
  .ret c2
noncomputable def FY:=bh st Tryz.func358 [mt,fQ] (ks:=[.st .sndr]) vS rI
noncomputable def Js:=[sz,BI]
noncomputable def JO:Fx:=⟨370,Tryz.f370,[(3000002,rA 0 16)],0⟩
noncomputable def tu:FF (Int×Int×Int×Int×Unit) (Bool):=⟨λ(x0,x1,x2,x3,_)=>
  .bnd (β:=Bool×Unit) (.ite (decide ((if 65536<x1 then 65536 else x1)<1)) (.ret (true,()))<|
   .ret ((decide (x3<1)),())) λ(u1a0,_)=>
  .ite u1a0 (.ret false)<|
  .val (nb.f (x0,x2,x3,())) λc2=>
  .ite c2 (.ret true)<|
  .val (qN.f (x2,x0,())) λc3=>
  .ret (decide (c3<(if 65536<x1 then 65536 else x1)))⟩
noncomputable def Kr:=Qh aq JO Js [] (ks:=[.sc (.int .i64),.sc (.int .i64),.sc (.int .i64),.sc (.int .i64)]) tu rB Tryz.func370 trivial
noncomputable def ew:FT (List Bool×Bool×Unit) (Bool) (λx=>sS x.1) (λ_ _=>True):= .mk λ(x0,x1,_)=>
  .cal oq.c (x0,x1,()) λc1=>
  .ret (decide (0≤c1))
noncomputable def zA:=bh st Tryz.func372 [EL] (ks:=[.sc (.sl .bool),.sc .bool]) ew rB
noncomputable def KW:=[cM,dZ]
noncomputable def JF:Fx:=⟨373,Tryz.f373,[(3000001,rA 0 21),(3000003,rA 0 36)],0⟩
noncomputable def fT:FT (Sndr×Unit) (Bool) (λ_=>True) (λx v=>(v=true↔SO x.1)):= .mk λ(x0,_)=>
  .bnd (β:=Bool×Unit) (.cal aN.c (x0.una,32,()) λc1=>
   .ite (!c1) (.ret (true,()))<|
   .ite (decide (48<(x0.data.length:Int))) (.ret (true,()))<|
   .val (dz.f (x0.sent,0,(x0.data.length:Int),())) λc2=>
   .ret ((!c2),())) λ(u3a0,_)=>
  .ite u3a0 (.ret false)<|
  .bnd (β:=Bool×Unit) (.ite x0.finSent (.ite (!x0.fin) (.ret (true,()))<|
    .ret ((x0.sent != (x0.data.length:Int)),()))<|
   .ret (false,())) λ(u4a0,_)=>
  .ite u4a0 (.ret false)<|
  .ite (!x0.done) (.ret true)<|
  .ite x0.fin (.ite (!x0.finSent) (.ret (x0.data==[]))<|
   .ret false)<|
  .ret false
noncomputable def oK:=dI st JF KW [] (ks:=[.st .sndr]) fT rB Tryz.func373 trivial
def qn:Sh:=⟨[zp 1 0,zi 3,zi 4,zi 5],[zg .recv]⟩
noncomputable def ek (v0:Int)(v3:Recv)(v2:Int)(a:Int):Tr (Stp (Int) ((Int))):=
 .grd (aY v3.held v2)<|
 .bnd (β:=Bool×Unit) (.ite ((v3.held.getD v2.toNat (Ty.zero .piec)).text==[]) (.ret (true,()))<|
  .ite (decide ((v3.held.getD v2.toNat (Ty.zero .piec)).off≤a)) (.ret (true,()))<|
  .ite (decide (v0<(v3.held.getD v2.toNat (Ty.zero .piec)).off)) (.ret (true,()))<|
  .val (IntKind.wrap .i64 ((v3.held.getD v2.toNat (Ty.zero .piec)).off+(((v3.held.getD v2.toNat (Ty.zero .piec)).text).length:Int))) λe5=>
  .ret ((decide (v0<e5)),())) λ(u6a0,_)=>
 .ite u6a0 (.ret (.out a))<|
 .val (IntKind.wrap .i64 ((v3.held.getD v2.toNat (Ty.zero .piec)).off+(((v3.held.getD v2.toNat (Ty.zero .piec)).text).length:Int))) λe7=>
 .ret (.next e7)
noncomputable def fJ:qn.V→oi qn Int (Int):=λ(v0,v1,v2,v3,_)=>⟨v2,v1,λv2 a=>(v0,a,v2,v3,()),λv2 _=>(decide (v2<(v3.held.length:Int))),ek v0 v3,up,1,(Int.toNat ((v3.held.length:Int)-v2)),.inl,eR,oB .ret ⟨[zp 1 0,zb 2,zi 4],[zg .recv]⟩ (λp=>(false,p,v3,())) (.exit 0) ⟨[zp 1 0,zu 2,zi 4],[zg .recv]⟩ (λx=>(x.2,v3,()))⟩
theorem Ah {v0 v1 v2:Int}{v3:Recv}(h0:0≤v2)(h1:(v3.held.length:Int)≤4611686018427387904)(h2:v0≤32)(h3:0≤v0)(h4:am v3)(h5:0≤v1∧v1≤32∧cU po (v3.held.take v2.toNat)):(fJ (v0,v1,v2,v3,())).U (v3.held.length:Int) (λv2 a=>0≤a∧a≤32∧cU po (v3.held.take v2.toNat)) (λ_=>True):=
 LC.okU (i:=v2) (a:=v1) (λ_ _=>rfl) (λ_=>rfl) rfl h0 h1 h5 λv2 v1 hj hk hv=>by
  refine Tr.G2 ?_ λ_=>Tr.B (Q':=λ_=>True) (Tr.F (by kernel_rfl) trivial) (λ(u6a0,_) _ _=>Tr.I (λ_=>Tr.Ro trivial) λ_=>Tr.V λ_ _=>Tr.Rn ?_)
  all_goals ((try simp only[Tr.nice,iq]at*)<;>grind [←UT])
noncomputable def lY:FT (Recv×Unit) (Bool) (λx=>am x.1) (λx v=>(v=true→RO x.1)):=⟨λ(x0,_)=>
  .cal jp.c (x0,()) λc1=>
  .bnd (β:=Bool×Unit) (.cal aN.c (x0.next,32,()) λc2=>
   .ite (!c2) (.ret (true,()))<|
   .ite (decide (32<(x0.data.length:Int))) (.ret (true,()))<|
   .ite (decide (3<(x0.held.length:Int))) (.ret (true,()))<|
   .val (dz.f (x0.fin,(-1),c1,())) λc3=>
   .ite (!c3) (.ret (true,()))<|
   .ret ((x0.fin==0),())) λ(u4a0,_)=>
  .ite u4a0 (.ret false)<|
  .lp (fJ (c1,0,0,x0,())).lp λw8=> .sum w8 (λ_=>
  .ret false)<|
  λ(_,a8_0)=>
  .ite (decide (x0.fin<0)) (.ite (!x0.done) (.ret true)<|
   .ite ((x0.held.length:Int)==0) (.ret (x0.fin==(-1)))<|
   .ret false)<|
  .ite (decide (a8_0≤x0.fin)) (.ite (!x0.done) (.ret true)<|
   .ite ((x0.held.length:Int)==0) (.ret (x0.fin==(-1)))<|
   .ret false)<|
  .ret false,
 λ(x0,_) hp=>by
  refine Tr.C ?_ λ_ _ _=>Tr.B (Q':=λ_=>True) (Tr.C trivial λ_ _ _=>Tr.F (by kernel_rfl) trivial) (λ(u4a0,_) _ _=>Tr.I (λ_=>Tr.R ?_) λ_=>Tr.L (Ah ?_ ?_ ?_ ?_ ?_ ?_) (λa8_0 _=>Tr.Sr (Tr.I (λ_=>Tr.I (λ_=>Tr.R ?_) λ_=>Tr.I (λ_=>Tr.R ?_) λ_=>Tr.R ?_) λ_=>Tr.I (λ_=>Tr.I (λ_=>Tr.R ?_) λ_=>Tr.I (λ_=>Tr.R ?_) λ_=>Tr.R ?_) λ_=>Tr.R ?_)) (λp8a0 _=>Tr.Sl (Tr.R ?_)))
  all_goals ((try simp only[fJ,LC.lp,LC.ct,Ct.lp,Tr.nice,iq]at*)<;>grind [VH])⟩
noncomputable def vR:=eC st Tryz.func374 [(0,lb [1,3,4,5] [1,2,4]),(3000002,rA 0 36),(3000009,rA 0 73)] [ml,cM,dZ] 0 fJ (ks:=[.st .recv]) lY rB
noncomputable def zR:=[LD]
def kt:Sh:=⟨[zl 0 .piec,zi 1,zi 5],[]⟩
noncomputable def zJ:Fx:=⟨383,Tryz.f383,[(0,lb [0,1,5] [1,4])],0⟩
noncomputable def n5 (v0:List Piec)(v2:Int)(a:Int):Tr (Stp (Int) ((Int))):=
 .grd (aY v0 v2)<|
 .cal dM.c ((v0.getD v2.toNat (Ty.zero .piec)),a,()) λc1=>
 .ite (decide (c1<0)) (.ret (.out c1))<|
 .ret (.next c1)
noncomputable def eB:kt.V→oi kt Int (Int):=λ(v0,v1,v2,_)=>⟨v2,v1,λv2 a=>(v0,a,v2,()),λv2 _=>(decide (v2<(v0.length:Int))),n5 v0,up,1,(Int.toNat ((v0.length:Int)-v2)),.inl,eR,oB .ret ⟨[zi 1,zi 4],[]⟩ (λp=>(p,(-1),())) (.exit 0) ⟨[zi 1,zu 4],[]⟩ (λx=>(x.2,()))⟩
theorem CW:LS Tryz.prog zJ [0] (kf 0 kt eB):=fe st (aR zR) _ eB [] trivial
theorem CM {v0:List Piec}{v1 v2:Int}(h0:0≤v2)(h1:(v0.length:Int)≤4611686018427387904):(eB (v0,v1,v2,())).U (v0.length:Int) (λ_ _=>True) (λ_=>True):=
 mw (a:=v1) h0 h1 trivial
noncomputable def kB:FX (List Piec×Int×Unit) (Int) (λ_=>True) (bC [.sc (.sl .piec),.sc (.int .i64)]):=⟨λ(x0,x1,_)=>
  .ite (decide ((IntKind.wrap .i64 (x1-(x0.length:Int)))<0)) (.ret (-1))<|
  .lp (eB (x0,(IntKind.wrap .i64 (x1-(x0.length:Int))),0,())).lp λw2=> .sum w2 (λ_=>
  .ret (-1))<|
  λ(_,a2_0)=>
  .ret a2_0,
 λ(x0,x1,_) hp hf=>by
  simp only[bC,Pk.fact,fX,eK,Fl.fact,Ty.fl,Ty.toH]at hf
  refine Tr.I (λ_=>Tr.R trivial) λ_=>Tr.L (CM ?_ ?_) (λa2_0 _=>Tr.Sr (Tr.R trivial)) (λp2a0 _=>Tr.Sl (Tr.R trivial))
  all_goals ((try simp only[eB,LC.lp,LC.ct,Ct.lp]at*)<;>grind)⟩
theorem Pr (xs:List Piec)(k:Int)(h0:0≤k)(h1:k≤1048576)(hl:xs.length≤140737488355328)(he:HR .piec xs)(h:0≤kB.f (xs,k,())):kB.f (xs,k,())≤k∧xs.length≤1048576∧cU bq xs:=by
 have w:IntKind.wrap .i64 (k-(xs.length:Int))=k-(xs.length:Int):=au (by omega) (by omega)
 simp only[FX.f,PX,kB,eB,w,ar]at h⊢
 by_cases c:k-(xs.length:Int)<0
 ·rw[decide_eq_true c,cond_true]at h;omega
 rw[decide_eq_false c,cond_false]at h⊢
 have hf:∀(j:Nat) x a,xs[j]? =some x→(n5 xs (j:Int) a).nice=(bif decide (dM.f (x,a,())<0)then Stp.out (dM.f (x,a,()))else Stp.next (dM.f (x,a,()))):=λj x a hx=>by
  simp only[PX,n5,aa,getD_some hx]
 rw[bE xs _ rfl (F:=λ_ x a=>(bif decide (dM.f (x,a,())<0)then Stp.out (dM.f (x,a,()))else Stp.next (dM.f (x,a,())))) hf]at h⊢
 cases hn:eJ (λ_ x a=>(bif decide (dM.f (x,a,())<0)then Stp.out (dM.f (x,a,()))else Stp.next (dM.f (x,a,())))) 0 xs (k-(xs.length:Int))with
 |out p=>rw[hn]at h;simp only[Stp.elim]at h;omega
 |next b=>
  obtain⟨h2,h3⟩:=yU (λx a=>dM.f (x,a,())) bq xs 0 _ b (λx hx k h0 h1 h=>(have h4:=Rg x k h0 h1 (he x hx (.str x.text) (List.mem_cons_of_mem _ List.mem_cons_self)).slen h;⟨h4.1,(by unfold bq;omega)⟩)) (by omega) (by omega) hn
  simp only[Stp.elim]
  exact⟨by omega,by omega,h3⟩
noncomputable def KT:=JW st zJ zR [(kf 0 kt eB)] (ks:=[.sc (.sl .piec),.sc (.int .i64)]) kB rI Tryz.func383 ⟨CW,trivial⟩
def uw:Sh:=⟨[zl 0 .piec,zo 3 0,zi 4],[za .piec]⟩
noncomputable def un (v0:List Piec)(v1:Int)(a:List Piec):Tr (Stp (List Piec) (Empty)):=
 .grd (aY v0 v1)<|
 .cal BG.c ((v0.getD v1.toNat (Ty.zero .piec)),()) λc1=>
 .grd (aY a v1)<|
 .ret (.next (a.set v1.toNat c1))
noncomputable def ij:uw.V→yQ uw (List Piec):=λ(v0,v1,v2,_)=>⟨v1,v2,λv1 a=>(v0,v1,a,()),λv1 _=>(decide (v1<(v0.length:Int))),un v0,up,1,(Int.toNat ((v0.length:Int)-v1)),Empty.elim,Prod.mk,oN (.exit 0) ⟨[zu 2,zo 3 0],[za .piec]⟩ (λx=>(x.2,()))⟩
theorem CL {v0 v2:List Piec}{v1:Int}(h0:0≤v1)(h1:(v0.length:Int)≤4611686018427387904)(h2:sL bq v0)(h3:sL bq v2)(h4:v2.length=v2.length∧cU bq v2∧(v0.length:Int)≤(v2.length:Int)):(ij (v0,v1,v2,())).U (v0.length:Int) (λv1 a=>a.length=v2.length∧cU bq a∧(v0.length:Int)≤(a.length:Int)) (λ_=>True):=
 mw (a:=v2) h0 h1 h4
noncomputable def tN:FT (List Piec×Unit) (List Piec) (λx=>sL bq x.1) (λx v=>sL bq v):=⟨λ(x0,_)=>
  .grd ((((decide (0≤(x0.length:Int)))&&(decide ((x0.length:Int)=(x0.length:Int))))&&(decide ((x0.length:Int)*24≤(aM:Int))))&&(decide ((x0.length:Int)≤(aM:Int))))<|
  .lp (ij (x0,0,(List.replicate ((x0.length:Int).toNat) (⟨0,[]⟩:Piec)),())).lp λ(_,a2_0)=>
  .ret a2_0,
 λ(x0,_) hp=>by
  refine Tr.G4 ?_ λ_=>Tr.L (CL ?_ ?_ ?_ ?_ ?_) (λa2_0 _=>Tr.R ?_) (λp=>Empty.elim p)
  all_goals ((try simp only[ij,LC.lp,LC.ct,Ct.lp]at*)<;>grind)⟩
noncomputable def JU:=eC aq Tryz.func384 [(0,lb [0,3,4] [2,3])] [LG] 0 ij (ks:=[.sc (.sl .piec)]) tN (λv=>[(false,[sc (.o true) .piec v])])
def ui:Sh:=⟨[zi 0,zi 1,zi 2,zi 3,zi 9],[]⟩
noncomputable def ii (v0 v2 v3:Int)(v4:Int)(a:Unit):Tr (Stp (Unit) ((Unit)⊕(Unit))):=
 .ite (decide (v4<65536)) (.val (cd.f (v0,v4,())) λc1=>
  .val (mJ.f (c1,v2,v3,())) λc2=>
  .ite c2 (.ret (.out (.inl ())))<|
  .ret (.next ()))<|
 .ret (.out (.inr (())))
noncomputable def ke:ui.V→oi ui Unit ((Unit)⊕(Unit)):=λ(v0,v1,v2,v3,v4,_)=>⟨v4,(),λv4 _=>(v0,v1,v2,v3,v4,()),λv4 _=>(decide (v4<v1)),ii v0 v2 v3,up,1,(Int.toNat (v1-v4)),.inl,eR,λ_ k w=>Sum.elim (oB .ret ⟨[zb 8],[]⟩ (λ_=>(true,())) (.exit 0) ⟨[zu 8],[]⟩ (λ_=>()) _ k) (λ_=>k (.exit 0) (Sh.enc ⟨[zu 8],[]⟩ ())) w⟩
theorem Da {v0 v1 v2 v3 v4:Int}(h0:0≤v4)(h1:v1≤4611686018427387904):(ke (v0,v1,v2,v3,v4,())).U v1 (λ_ _=>True) (λ_=>True):=
 LC.okU (i:=v4) (a:=()) (λ_ _=>rfl) (λ_=>rfl) rfl h0 h1 trivial λv4 _ hj hk hv=>Tr.Z (by kernel_rfl)
noncomputable def tv:FT (Int×Int×Int×Int×Unit) (Bool) (λx=>x.2.1≤4611686018427387904) (λ_ _=>True):= .mk (λ(x0,x1,x2,x3,_)=>
  .lp (ke (x0,x1,x2,x3,0,())).lp λw3=> .sum w3 (λq3=> .sum q3 (λ_=>
  .ret true)<|
  λ_=>
  .ret false)<|
  λ_=>
  .ret false) (ql @Da)
noncomputable def J9:=eC st Tryz.func386 [(0,lb [0,1,2,3,9] [8])] [fQ,sO] 0 ke (ks:=[.sc (.int .i64),.sc (.int .i64),.sc (.int .i64),.sc (.int .i64)]) tv rB
noncomputable def gS:FT (Sipr×Unit) (Sipr) (λ_=>True) (λ_ _=>True):= .mk λ(x0,_)=>
  .cal jx.c (x0.b,13,()) λc1=>
  .cal jx.c ((IntKind.wrap .u64 (x0.a+x0.b)),32,()) λc2=>
  .cal jx.c (x0.d,16,()) λc3=>
  .val (IntKind.wrap .u64 (c2+(bits .xor .u64 c3 (IntKind.wrap .u64 (x0.c+x0.d))))) λe4=>
  .cal jx.c ((bits .xor .u64 c3 (IntKind.wrap .u64 (x0.c+x0.d))),21,()) λc5=>
  .val (IntKind.wrap .u64 ((IntKind.wrap .u64 (x0.c+x0.d))+(bits .xor .u64 c1 (IntKind.wrap .u64 (x0.a+x0.b))))) λe6=>
  .cal jx.c ((bits .xor .u64 c1 (IntKind.wrap .u64 (x0.a+x0.b))),17,()) λc7=>
  .cal jx.c (e6,32,()) λc8=>
  .ret (⟨e4,(bits .xor .u64 c7 e6),c8,(bits .xor .u64 c5 e4)⟩:Sipr)
noncomputable def AC:=bh st Tryz.func402 [NA] (ks:=[.st .sipr]) gS (λv=>[(true,BQ v)])
noncomputable def jt:FT (Sipr×Unit) (Sipr) (λ_=>True) (λ_ _=>True):= .mk λ(x0,_)=>
  .cal cK.c (x0.b,13,()) λc1=>
  .cal cK.c ((IntKind.wrap .u64 (x0.a+x0.b)),32,()) λc2=>
  .cal cK.c (x0.d,16,()) λc3=>
  .val (IntKind.wrap .u64 (c2+(bits .xor .u64 c3 (IntKind.wrap .u64 (x0.c+x0.d))))) λe4=>
  .cal cK.c ((bits .xor .u64 c3 (IntKind.wrap .u64 (x0.c+x0.d))),21,()) λc5=>
  .val (IntKind.wrap .u64 ((IntKind.wrap .u64 (x0.c+x0.d))+(bits .xor .u64 c1 (IntKind.wrap .u64 (x0.a+x0.b))))) λe6=>
  .cal cK.c ((bits .xor .u64 c1 (IntKind.wrap .u64 (x0.a+x0.b))),17,()) λc7=>
  .cal cK.c (e6,32,()) λc8=>
  .ret (⟨e4,(bits .xor .u64 c7 e6),c8,(bits .xor .u64 c5 e4)⟩:Sipr)
noncomputable def AE:=bh aq Tryz.func403 [zI] (ks:=[.st .sipr]) jt (λv=>[(true,BQ v)])
noncomputable def cq:FX (Mac×Int×Unit) (Int) (λ_=>True) (bC [.st .mac,.sc (.int .i64)]):=⟨λ(x0,x1,_)=>
  .cal cS.c (x0.rows,x1,()) λc1=>
  .ite (decide (c1<0)) (.ret (-1))<|
  .ret c1,
 λ(x0,x1,_) hp hf=>by
  simp only[bC,Pk.fact,fX,eK,Fl.fact,Ty.fl,Ty.toH]at hf
  refine Tr.C trivial λ_ _ _=>Tr.F (by kernel_rfl) trivial⟩
theorem WU (x:Mac)(hl:x.rows.length≤140737488355328)(he:HR .macRow x.rows)(h:0≤cq.f (x,1048576,())):aP x∧x.rows.length≤1048576:=by
 have e:cq.f (x,1048576,())=bif decide (cS.f (x.rows,1048576,())<0)then-1 else cS.f (x.rows,1048576,()):=by simp only[FX.f,PX,cq]
 rw[e]at h
 have:0≤cS.f (x.rows,1048576,()):=by
  by_cases c:cS.f (x.rows,1048576,())<0
  ·rw[decide_eq_true c,cond_true]at h;omega
  ·omega
 have h2:=Kq x.rows 1048576 (by omega) (by omega) hl he this
 exact⟨by unfold aP;exact h2.1,h2.2⟩
theorem JI (x:Mac)(k:Int)(h0:0≤k)(h1:k≤1048576)(hl:x.rows.length≤140737488355328)(he:HR .macRow x.rows)(h:0≤cq.f (x,k,())):cq.f (x,k,())≤k∧aP x:=by
 have e:cq.f (x,k,())=(bif decide (cS.f (x.rows,k,())<0)then-1 else cS.f (x.rows,k,())):=by first|(simp only[FX.f,PX,cq];done)|(simp only[FX.f,PX,cq];rfl)
 rw[e]at h⊢
 obtain⟨p0,e0⟩:=nP h
 rw[e0]at h⊢
 have b0:=Nq _ _ h0 (by omega) hl he p0
 refine⟨by omega, ?_⟩
 unfold aP
 exact⟨by omega,b0.2.2⟩
noncomputable def IY:=uh st Tryz.func11 [GT] (ks:=[.st .mac,.sc (.int .i64)]) cq rI
noncomputable def wo:FT (Mac×Unit) (Mac) (λx=>aP x.1) (λx v=>aP v):= .mk λ(x0,_)=>
  .cal qx.c (x0.rows,()) λc1=>
  .ret ({x0 with rows:=c1}:Mac)
noncomputable def HX:=bh aq Tryz.func14 [GR] (ks:=[.st .mac]) wo (λv=>[(true,Na (.o true) v)])
noncomputable def wH:FT (Mac×Mac×Unit) (Bool) (λx=>aP x.1∧aP x.2.1) (λ_ _=>True):= .mk λ(x0,x1,_)=>
  .ite (!(x0.use==x1.use)) (.ret false)<|
  .ite (x0.k != x1.k) (.ret false)<|
  .ite (x0.l != x1.l) (.ret false)<|
  .cal qr.c (x0.rows,x1.rows,()) λc1=>
  .ite (!c1) (.ret false)<|
  .ret true
noncomputable def I6:=bh st Tryz.func17 [HQ] (ks:=[.st .mac,.st .mac]) wH rB
noncomputable def wA:FT (Mac×Int×Unit) (Int×List MacRow) (λx=>aP x.1∧x.2.1≤9223372036854775807) (λx v=>sL aE v.2∧v.1≤9223372036854775807):= .mk λ(x0,x1,_)=>
  .cal j3.c (x0.rows,x1,()) λc1=>
  .ret (c1.1,c1.2)
noncomputable def K8:=n7 st ⟨19,Tryz.f19,[],1⟩ [um] [] [.wr true [.c .bool,.c (.int .u64),.c (.int .u64),.own 0],.sc (.int .i64)] [.arr .macRow] (λx y=>((⟨x.1.1,x.1.2.1,x.1.2.2.1,y.1⟩:Mac),x.2.1,())) wA (λv=>[(false,[.c (.int .i64 v.1)])]) (λx y v=>(v.2,())) Tryz.func19 (by kernel_rfl) trivial
def qP:Sh:=⟨[zl 0 .segm,zl 1 .segm,zi 5],[]⟩
noncomputable def qL (v0 v1:List Segm)(v2:Int)(a:Unit):Tr (Stp (Unit) ((Unit))):=
 .grd (aY v0 v2)<|
 .grd (aY v1 v2)<|
 .val (qD.f ((v0.getD v2.toNat (Ty.zero .segm)),(v1.getD v2.toNat (Ty.zero .segm)),())) λc1=>
 .ite (!c1) (.ret (.out ()))<|
 .ret (.next ())
noncomputable def iU:qP.V→oi qP Unit (Unit):=λ(v0,v1,v2,_)=>⟨v2,(),λv2 _=>(v0,v1,v2,()),λv2 _=>(decide (v2<(v0.length:Int))),qL v0 v1,up,1,(Int.toNat ((v0.length:Int)-v2)),.inl,eR,oB .ret ⟨[zb 4],[]⟩ (λ_=>(false,())) (.exit 0) ⟨[zu 4],[]⟩ (λ_=>())⟩
theorem z4 {v0 v1:List Segm}{v2:Int}(h0:0≤v2)(h1:(v0.length:Int)≤4611686018427387904)(h2:(v0.length:Int)≤(v1.length:Int)):(iU (v0,v1,v2,())).U (v0.length:Int) (λ_ _=>True) (λ_=>True):=
 mw h0 h1 trivial
noncomputable def cJ:FT (List Segm×List Segm×Unit) (Bool) (λx=>sL ah x.1∧sL ah x.2.1) (λ_ _=>True):= .mk (λ(x0,x1,_)=>
  .ite ((x0.length:Int) != (x1.length:Int)) (.ret false)<|
  .lp (iU (x0,x1,0,())).lp λw2=> .sum w2 (λ_=>
  .ret false)<|
  λ_=>
  .ret true) (ql @z4)
noncomputable def p4:=eC st Tryz.func39 [(0,lb [0,1,5] [4])] [G7] 0 iU (ks:=[.sc (.sl .segm),.sc (.sl .segm)]) cJ rB
noncomputable def Fu:=[IY]
def nE:Sh:=⟨[zl 0 .mac,zi 1,zi 5],[]⟩
noncomputable def FO:Fx:=⟨52,Tryz.f52,[(0,lb [0,1,5] [1,4])],0⟩
noncomputable def rp (v0:List Mac)(v2:Int)(a:Int):Tr (Stp (Int) ((Int))):=
 .grd (aY v0 v2)<|
 .cal cq.c ((v0.getD v2.toNat (Ty.zero .mac)),a,()) λc1=>
 .ite (decide (c1<0)) (.ret (.out c1))<|
 .ret (.next c1)
noncomputable def fO:nE.V→oi nE Int (Int):=λ(v0,v1,v2,_)=>⟨v2,v1,λv2 a=>(v0,a,v2,()),λv2 _=>(decide (v2<(v0.length:Int))),rp v0,up,1,(Int.toNat ((v0.length:Int)-v2)),.inl,eR,oB .ret ⟨[zi 1,zi 4],[]⟩ (λp=>(p,(-1),())) (.exit 0) ⟨[zi 1,zu 4],[]⟩ (λx=>(x.2,()))⟩
theorem HB:LS Tryz.prog FO [0] (kf 0 nE fO):=fe st (aR Fu) _ fO [] trivial
theorem GQ {v0:List Mac}{v1 v2:Int}(h0:0≤v2)(h1:(v0.length:Int)≤4611686018427387904):(fO (v0,v1,v2,())).U (v0.length:Int) (λ_ _=>True) (λ_=>True):=
 mw (a:=v1) h0 h1 trivial
noncomputable def pb:FX (List Mac×Int×Unit) (Int) (λ_=>True) (bC [.sc (.sl .mac),.sc (.int .i64)]):=⟨λ(x0,x1,_)=>
  .ite (decide ((IntKind.wrap .i64 (x1-(x0.length:Int)))<0)) (.ret (-1))<|
  .lp (fO (x0,(IntKind.wrap .i64 (x1-(x0.length:Int))),0,())).lp λw2=> .sum w2 (λ_=>
  .ret (-1))<|
  λ(_,a2_0)=>
  .ret a2_0,
 λ(x0,x1,_) hp hf=>by
  simp only[bC,Pk.fact,fX,eK,Fl.fact,Ty.fl,Ty.toH]at hf
  refine Tr.I (λ_=>Tr.R trivial) λ_=>Tr.L (GQ ?_ ?_) (λa2_0 _=>Tr.Sr (Tr.R trivial)) (λp2a0 _=>Tr.Sl (Tr.R trivial))
  all_goals ((try simp only[fO,LC.lp,LC.ct,Ct.lp]at*)<;>grind)⟩
theorem MY (xs:List Mac)(k:Int)(h0:0≤k)(h1:k≤1048576)(hl:xs.length≤140737488355328)(he:HR .mac xs)(h:0≤pb.f (xs,k,())):pb.f (xs,k,())≤k∧xs.length≤1048576∧cU aP xs:=by
 have w:IntKind.wrap .i64 (k-(xs.length:Int))=k-(xs.length:Int):=au (by omega) (by omega)
 simp only[FX.f,PX,pb,fO,w,ar]at h⊢
 by_cases c:k-(xs.length:Int)<0
 ·rw[decide_eq_true c,cond_true]at h;omega
 rw[decide_eq_false c,cond_false]at h⊢
 have hf:∀(j:Nat) x a,xs[j]? =some x→(rp xs (j:Int) a).nice=(bif decide (cq.f (x,a,())<0)then Stp.out (cq.f (x,a,()))else Stp.next (cq.f (x,a,()))):=λj x a hx=>by
  simp only[PX,rp,aa,getD_some hx]
 rw[bE xs _ rfl (F:=λ_ x a=>(bif decide (cq.f (x,a,())<0)then Stp.out (cq.f (x,a,()))else Stp.next (cq.f (x,a,())))) hf]at h⊢
 cases hn:eJ (λ_ x a=>(bif decide (cq.f (x,a,())<0)then Stp.out (cq.f (x,a,()))else Stp.next (cq.f (x,a,())))) 0 xs (k-(xs.length:Int))with
 |out p=>rw[hn]at h;simp only[Stp.elim]at h;omega
 |next b=>
  obtain⟨h2,h3⟩:=yU (λx a=>cq.f (x,a,())) aP xs 0 _ b (λx hx k h0 h1 h=>JI x k h0 h1 (he x hx (.sl .macRow x.rows) (by simp[Ty.cells,Ty.fl,Ty.toH,df,Fl.cell])).len (λy hy=>(he x hx (.sl .macRow x.rows) (by simp[Ty.cells,Ty.fl,Ty.toH,df,Fl.cell])).elem hy) h) (by omega) (by omega) hn
  simp only[Stp.elim]
  exact⟨by omega,by omega,h3⟩
noncomputable def PH:=JW st FO Fu [(kf 0 nE fO)] (ks:=[.sc (.sl .mac),.sc (.int .i64)]) pb rI Tryz.func52 ⟨HB,trivial⟩
def xT:Sh:=⟨[zl 0 .mac,(3,false,[.down 0]),zi 4],[.dar .mac]⟩
noncomputable def xv (v0:List Mac)(v1:Int)(a:List Mac):Tr (Stp (List Mac) (Empty)):=
 .grd (aY v0 v1)<|
 .cal wo.c ((v0.getD v1.toNat (Ty.zero .mac)),()) λc1=>
 .grd (aY a v1)<|
 .ret (.next (a.set v1.toNat c1))
noncomputable def jZ:xT.V→yQ xT (List Mac):=λ(v0,v1,v2,_)=>⟨v1,v2,λv1 a=>(v0,v1,a,()),λv1 _=>(decide (v1<(v0.length:Int))),xv v0,up,1,(Int.toNat ((v0.length:Int)-v1)),Empty.elim,Prod.mk,oN (.exit 0) ⟨[zu 2,(3,false,[.down 0])],[.dar .mac]⟩ (λx=>(x.2,()))⟩
theorem Ho {v0 v2:List Mac}{v1:Int}(h0:0≤v1)(h1:(v0.length:Int)≤4611686018427387904)(h2:sL aP v0)(h3:sL aP v2)(h4:v2.length=v2.length∧cU aP v2∧(v0.length:Int)≤(v2.length:Int)):(jZ (v0,v1,v2,())).U (v0.length:Int) (λv1 a=>a.length=v2.length∧cU aP a∧(v0.length:Int)≤(a.length:Int)) (λ_=>True):=
 mw (a:=v2) h0 h1 h4
noncomputable def pK:FT (List Mac×Unit) (List Mac) (λx=>sL aP x.1) (λx v=>sL aP v):=⟨λ(x0,_)=>
  .grd ((((decide (0≤(x0.length:Int)))&&(decide ((x0.length:Int)=(x0.length:Int))))&&(decide ((x0.length:Int)*48≤(aM:Int))))&&(decide ((x0.length:Int)≤(aM:Int))))<|
  .lp (jZ (x0,0,(List.replicate ((x0.length:Int).toNat) (⟨false,0,0,[]⟩:Mac)),())).lp λ(_,a2_0)=>
  .ret a2_0,
 λ(x0,_) hp=>by
  refine Tr.G4 ?_ λ_=>Tr.L (Ho ?_ ?_ ?_ ?_ ?_) (λa2_0 _=>Tr.R ?_) (λp=>Empty.elim p)
  all_goals ((try simp only[jZ,LC.lp,LC.ct,Ct.lp]at*)<;>grind)⟩
noncomputable def Pd:=eC aq Tryz.func55 [(0,lb [0,3,4] [2,3])] [HX] 0 jZ (ks:=[.sc (.sl .mac)]) pK (λv=>[(false,[sc .d .mac v])])
def xt:Sh:=⟨[zl 0 .mac,zl 1 .mac,zi 5],[]⟩
noncomputable def xF (v0 v1:List Mac)(v2:Int)(a:Unit):Tr (Stp (Unit) ((Unit))):=
 .grd (aY v0 v2)<|
 .grd (aY v1 v2)<|
 .cal wH.c ((v0.getD v2.toNat (Ty.zero .mac)),(v1.getD v2.toNat (Ty.zero .mac)),()) λc1=>
 .ite (!c1) (.ret (.out ()))<|
 .ret (.next ())
noncomputable def nB:xt.V→oi xt Unit (Unit):=λ(v0,v1,v2,_)=>⟨v2,(),λv2 _=>(v0,v1,v2,()),λv2 _=>(decide (v2<(v0.length:Int))),xF v0 v1,up,1,(Int.toNat ((v0.length:Int)-v2)),.inl,eR,oB .ret ⟨[zb 4],[]⟩ (λ_=>(false,())) (.exit 0) ⟨[zu 4],[]⟩ (λ_=>())⟩
theorem Hz {v0 v1:List Mac}{v2:Int}(h0:0≤v2)(h1:(v0.length:Int)≤4611686018427387904)(h2:sL aP v0)(h3:sL aP v1)(h4:(v0.length:Int)≤(v1.length:Int)):(nB (v0,v1,v2,())).U (v0.length:Int) (λ_ _=>True) (λ_=>True):=
 mw h0 h1 trivial
noncomputable def AA:FT (List Mac×List Mac×Unit) (Bool) (λx=>sL aP x.1∧sL aP x.2.1) (λ_ _=>True):= .mk (λ(x0,x1,_)=>
  .ite ((x0.length:Int) != (x1.length:Int)) (.ret false)<|
  .lp (nB (x0,x1,0,())).lp λw2=> .sum w2 (λ_=>
  .ret false)<|
  λ_=>
  .ret true) (ql @Hz)
noncomputable def OI:=eC st Tryz.func58 [(0,lb [0,1,5] [4])] [I6] 0 nB (ks:=[.sc (.sl .mac),.sc (.sl .mac)]) AA rB
noncomputable def z3:=[um]
def kq:Sh:=⟨[(0,false,[.down 0]),zi 1,zi 5],[.dar .mac]⟩
noncomputable def Az:Fx:=⟨59,Tryz.f59,[(0,la ⟨[0,1,5],[],false,1⟩ ⟨[1,4],[],false,1⟩)],1⟩
noncomputable def ku (v1:Int)(a:Int×List Mac):Tr (Stp (Int×List Mac) (Empty)):=
 .grd (aY a.2 v1)<|
 .val (a.2.set v1.toNat ({(a.2.getD v1.toNat (Ty.zero .mac))with use:=((a.1.tmod 3)==0)}:Mac)) λl1=>
 .grd (aY l1 v1)<|
 .val (l1.set v1.toNat ({(l1.getD v1.toNat (Ty.zero .mac))with k:=(IntKind.wrap .u64 (IntKind.wrap .i64 (a.1+1)))}:Mac)) λl2=>
 .val (IntKind.wrap .u64 (IntKind.wrap .i64 ((IntKind.wrap .i64 (a.1+1))+1))) λe3=>
 .grd (aY l2 v1)<|
 .val (IntKind.wrap .i64 ((IntKind.wrap .i64 ((IntKind.wrap .i64 (a.1+1))+1))+1)) λe4=>
 .grd ((decide (0≤v1))&&(decide (v1<((l2.set v1.toNat ({(l2.getD v1.toNat (Ty.zero .mac))with l:=e3}:Mac)).length:Int))))<|
 .cal j3.c (((l2.set v1.toNat ({(l2.getD v1.toNat (Ty.zero .mac))with l:=e3}:Mac)).getD v1.toNat (Ty.zero .mac)).rows,e4,()) λc5=>
 .val ((l2.set v1.toNat ({(l2.getD v1.toNat (Ty.zero .mac))with l:=e3}:Mac)).set v1.toNat ({((l2.set v1.toNat ({(l2.getD v1.toNat (Ty.zero .mac))with l:=e3}:Mac)).getD v1.toNat (Ty.zero .mac))with rows:=c5.2}:Mac)) λl6=>
 .ret (.next (c5.1,l6))
noncomputable def bR:kq.V→yQ kq (Int×List Mac):=λ(v0,v1,v2,_)=>⟨v1,(v0,v2),λv1 a=>(a.1,v1,a.2,()),λv1 a=>(decide (v1<(a.2.length:Int))),ku,up,1,(Int.toNat ((v2.length:Int)-v1)),Empty.elim,Prod.mk,oN (.exit 0) ⟨[zi 1,zu 4],[.dar .mac]⟩ (λx=>(x.2.1,x.2.2,()))⟩
theorem Dj:LS Tryz.prog Az [0] (kf 0 kq bR):=fe st (aR z3) _ bR [] trivial
theorem Df {v0 v1:Int}{v2:List Mac}(h0:0≤v1)(h1:(v2.length:Int)≤4611686018427387904)(h2:sL aP v2)(h3:v2.length=v2.length∧cU aP v2∧v0≤9223372036854775807):(bR (v0,v1,v2,())).S (λv1 a=>a.2.length=v2.length∧a.2.length=v2.length∧cU aP a.2∧a.1≤9223372036854775807) (λ_=>True):=by
 refine LC.okS ⟨rfl,h3⟩ (λj a hj hv=>⟨⟨?_, ?_⟩, ?_⟩) (λa hv=> ?_)
 ·simp only[bR,decide_eq_true_eq]at*;omega
 ·simp only[bR]at*;exact U2 (by omega) (by omega)
 ·refine Tr.G2 ?_ λ_=>Tr.V λ_ _=>Tr.G2 ?_ λ_=>Tr.V λ_ _=>Tr.V λ_ _=>Tr.G2 ?_ λ_=>Tr.V λ_ _=>Tr.G2 ?_ λ_=>Tr.C ?_ λ_ _ _=>Tr.V λ_ _=>Tr.Rn ?_
  all_goals (try simp only[bR]at*)<;>(grind)
 ·simp only[bR,decide_eq_false_iff_not]at*;omega
noncomputable def sK:FT (List Mac×Int×Unit) (Int×List Mac) (λx=>sL aP x.1∧x.2.1≤9223372036854775807) (λx v=>sL aP v.2∧v.1≤9223372036854775807):=⟨λ(x0,x1,_)=>
  .lp (bR (x1,0,x0,())).lp λ(_,a7_0,a7_1)=>
  .ret (a7_0,a7_1),
 λ(x0,x1,_) hp=>by
  refine Tr.L (Df ?_ ?_ ?_ ?_) (λ(a7_0,a7_1) _=>Tr.R ?_) (λp=>Empty.elim p)
  all_goals ((try simp only[bR,LC.lp,LC.ct,Ct.lp]at*)<;>grind)⟩
noncomputable def Kf:=n7 st Az z3 [(kf 0 kq bR)] [.wr false [.down 0],.sc (.int .i64)] [.dar .mac] (λx y=>(y.1,x.2.1,())) sK (λv=>[(false,[.c (.int .i64 v.1)])]) (λx y v=>(v.2,())) Tryz.func59 (by kernel_rfl) ⟨Dj,trivial⟩
noncomputable def tz:FT (Conn×Int×Unit) (Int×List Piec) (λx=>ac x.1∧x.2.1≤9223372036854775807) (λx v=>sL bq v.2∧v.1≤9223372036854775807):= .mk λ(x0,x1,_)=>
  .cal p7.c (x0.r,x1,()) λc1=>
  .ret (c1.1,c1.2)
noncomputable def Kp:=n7 st ⟨60,Tryz.f60,[],1⟩ [BF] [] [.wr true [.c (.int .i64),.c (.int .i64),.c (.int .i64),.c (.int .i64),.c (.int .i64),.c .str,.c (.int .i64),.c .bool,.c .bool,.c .bool,.c (.int .i64),.c .str,.own 0,.c (.int .i64),.c .bool,.c (.int .i64),.c (.int .i64),.c (.int .i64),.c (.int .i64),.c .bool,.c .bool,.c (.int .i64),.c (.int .i64),.c (.int .i64),.c (.int .i64)],.sc (.int .i64)] [.arr .piec] (λx y=>((⟨⟨x.1.1,x.1.2.1,x.1.2.2.1⟩,x.1.2.2.2.1,⟨x.1.2.2.2.2.1,x.1.2.2.2.2.2.1,x.1.2.2.2.2.2.2.1,x.1.2.2.2.2.2.2.2.1,x.1.2.2.2.2.2.2.2.2.1,x.1.2.2.2.2.2.2.2.2.2.1⟩,⟨x.1.2.2.2.2.2.2.2.2.2.2.1,x.1.2.2.2.2.2.2.2.2.2.2.2.1,y.1,x.1.2.2.2.2.2.2.2.2.2.2.2.2.1,x.1.2.2.2.2.2.2.2.2.2.2.2.2.2.1⟩,x.1.2.2.2.2.2.2.2.2.2.2.2.2.2.2.1,x.1.2.2.2.2.2.2.2.2.2.2.2.2.2.2.2.1,⟨x.1.2.2.2.2.2.2.2.2.2.2.2.2.2.2.2.2.1,x.1.2.2.2.2.2.2.2.2.2.2.2.2.2.2.2.2.2.1,x.1.2.2.2.2.2.2.2.2.2.2.2.2.2.2.2.2.2.2.1,x.1.2.2.2.2.2.2.2.2.2.2.2.2.2.2.2.2.2.2.2.1,x.1.2.2.2.2.2.2.2.2.2.2.2.2.2.2.2.2.2.2.2.2.1,x.1.2.2.2.2.2.2.2.2.2.2.2.2.2.2.2.2.2.2.2.2.2.1⟩,x.1.2.2.2.2.2.2.2.2.2.2.2.2.2.2.2.2.2.2.2.2.2.2.1,x.1.2.2.2.2.2.2.2.2.2.2.2.2.2.2.2.2.2.2.2.2.2.2.2.1⟩:Conn),x.2.1,())) tz (λv=>[(false,[.c (.int .i64 v.1)])]) (λx y v=>(v.2,())) Tryz.func60 (by kernel_rfl) trivial
noncomputable def p6:FT (Conn×Int×Unit) (Int) (λx=>ac x.1∧x.2.1≤9223372036854775807) (λx v=>v≤9223372036854775807):= .mk λ(x0,x1,_)=>
  .cal pC.c (x0.r,x1,()) λc1=>
  .ite (decide (c1<0)) (.ret (-1))<|
  .ret c1
noncomputable def KS:=bh st Tryz.func61 [A1] (ks:=[.st .conn,.sc (.int .i64)]) p6 rI
noncomputable def eT:FX (Keys×Int×Unit) (Int) (λ_=>True) (bC [.st .keys,.sc (.int .i64)]):=⟨λ(x0,x1,_)=>
  .cal cq.c (x0.now,x1,()) λc1=>
  .ite (decide (c1<0)) (.ret (-1))<|
  .cal cq.c (x0.before,c1,()) λc2=>
  .ite (decide (c2<0)) (.ret (-1))<|
  .ret c2,
 λ(x0,x1,_) hp hf=>by
  simp only[bC,Pk.fact,fX,eK,Fl.fact,Ty.fl,Ty.toH]at hf
  refine Tr.C trivial λ_ _ _=>Tr.I (λ_=>Tr.R trivial) λ_=>Tr.C trivial λ_ _ _=>Tr.F (by kernel_rfl) trivial⟩
theorem LL (x:Keys)(k:Int)(h0:0≤k)(h1:k≤1048576)(n1:x.now.rows.length≤140737488355328)(n2:HR .macRow x.now.rows)(m1:x.before.rows.length≤140737488355328)(m2:HR .macRow x.before.rows)(h:0≤eT.f (x,k,())):eT.f (x,k,())≤k∧bT x:=by
 have e:eT.f (x,k,())=(bif decide (cq.f (x.now,k,())<0)then-1 else(bif decide (cq.f (x.before,cq.f (x.now,k,()),())<0)then-1 else cq.f (x.before,cq.f (x.now,k,()),()))):=by first|(simp only[FX.f,PX,eT];done)|(simp only[FX.f,PX,eT];rfl)
 rw[e]at h⊢
 obtain⟨p0,e0⟩:=nP h
 rw[e0]at h⊢
 obtain⟨p1,e1⟩:=nP h
 rw[e1]at h⊢
 have b0:=JI _ _ h0 (by omega) n1 n2 p0
 have b1:=JI _ _ p0 (by omega) m1 m2 p1
 refine⟨by omega, ?_⟩
 have q0:=b0.2
 have q1:=b1.2
 unfold aP at q0 q1
 unfold bT
 exact⟨q0.1,q0.2,q1.1,q1.2⟩
noncomputable def PT:=uh st Tryz.func62 [IY] (ks:=[.st .keys,.sc (.int .i64)]) eT rI
noncomputable def cW:FT (Door×Unit) (Door) (λx=>ai x.1) (λx v=>ai v∧v.table.conns.length=x.1.table.conns.length∧v.table.waiting.length=x.1.table.waiting.length∧v.halves=x.1.halves):= .mk λ(x0,_)=>
  .cal r9.c (x0.keys,()) λc1=>
  .grd (Nat.ble ((2*(0+x0.halves.length)+1024)*96) aM)<|
  .cal mX.c (x0.table,()) λc2=>
  .ret (⟨x0.port,x0.clock,c1,x0.limits,([]++x0.halves),c2,x0.chal⟩:Door)
noncomputable def gK:=bh st Tryz.func66 [Cs,vj] (ks:=[.st .door]) cW (λv=>[(true,jW (.o true) (.o true) (.o true) (.o true) (.o true) v)])
noncomputable def AL:FT (Keys×Unit) (Keys) (λx=>bT x.1) (λx v=>bT v):= .mk λ(x0,_)=>
  .cal wo.c (x0.now,()) λc1=>
  .cal wo.c (x0.before,()) λc2=>
  .ret (⟨x0.epoch,c1,c2,x0.two⟩:Keys)
noncomputable def O0:=bh aq Tryz.func68 [HX] (ks:=[.st .keys]) AL (λv=>[(true,Gv (.o true) (.o true) v)])
noncomputable def zE:FT (Keys×Keys×Unit) (Bool) (λx=>bT x.1∧bT x.2.1) (λ_ _=>True):= .mk λ(x0,x1,_)=>
  .ite (x0.epoch != x1.epoch) (.ret false)<|
  .cal wH.c (x0.now,x1.now,()) λc1=>
  .ite (!c1) (.ret false)<|
  .cal wH.c (x0.before,x1.before,()) λc2=>
  .ite (!c2) (.ret false)<|
  .ite (!(x0.two==x1.two)) (.ret false)<|
  .ret true
noncomputable def P6:=bh st Tryz.func75 [I6] (ks:=[.st .keys,.st .keys]) zE rB
noncomputable def sU:FT (Keys×Int×Unit) (Int×List MacRow×List MacRow) (λx=>bT x.1∧x.2.1≤9223372036854775807) (λx v=>sL aE v.2.1∧sL aE v.2.2∧v.1≤9223372036854775807):= .mk λ(x0,x1,_)=>
  .cal wA.c (x0.now,x1,()) λc1=>
  .cal wA.c (x0.before,c1.1,()) λc2=>
  .ret (c2.1,c1.2,c2.2)
noncomputable def Jm:=n7 st ⟨80,Tryz.f80,[],2⟩ [K8] [] [.wr true [.c (.int .i64),.c .bool,.c (.int .u64),.c (.int .u64),.own 0,.c .bool,.c (.int .u64),.c (.int .u64),.own 1,.c .bool],.sc (.int .i64)] [.arr .macRow,.arr .macRow] (λx y=>((⟨x.1.1,⟨x.1.2.1,x.1.2.2.1,x.1.2.2.2.1,y.1⟩,⟨x.1.2.2.2.2.1,x.1.2.2.2.2.2.1,x.1.2.2.2.2.2.2.1,y.2.1⟩,x.1.2.2.2.2.2.2.2.1⟩:Keys),x.2.1,())) sU (λv=>[(false,[.c (.int .i64 v.1)])]) (λx y v=>(v.2.1,v.2.2,())) Tryz.func80 (by kernel_rfl) trivial
noncomputable def qy:FT (Tabl×Int×Unit) (Int×List Conn×List Tupl) (λx=>bA x.1∧x.2.1≤9223372036854775807) (λx v=>sL ac v.2.1∧sS v.2.2∧v.1≤9223372036854775807):= .mk λ(x0,x1,_)=>
  .cal qE.c (x0.conns,x1,()) λc1=>
  .cal oA.c (x0.waiting,c1.1,()) λc2=>
  .ret (c2.1,c1.2,c2.2)
noncomputable def Hu:=n7 st ⟨82,Tryz.f82,[],2⟩ [Hd,E4] [] [.wr true [.down 0,.own 1],.sc (.int .i64)] [.dar .conn,.arr .tupl] (λx y=>((⟨y.1,y.2.1⟩:Tabl),x.2.1,())) qy (λv=>[(false,[.c (.int .i64 v.1)])]) (λx y v=>(v.2.1,v.2.2,())) Tryz.func82 (by kernel_rfl) trivial
noncomputable def tc:FT (Keys×Int×Unit) (Int) (λx=>bT x.1∧x.2.1≤9223372036854775807) (λx v=>v≤9223372036854775807):= .mk λ(x0,x1,_)=>
  .cal wO.c (x0.now,x1,()) λc1=>
  .ite (decide (c1<0)) (.ret (-1))<|
  .cal wO.c (x0.before,c1,()) λc2=>
  .ite (decide (c2<0)) (.ret (-1))<|
  .ret c2
noncomputable def KZ:=bh st Tryz.func84 [LR] (ks:=[.st .keys,.sc (.int .i64)]) tc rI
noncomputable def qq:FT (Tabl×Int×Unit) (Int) (λx=>bA x.1∧x.2.1≤9223372036854775807) (λx v=>v≤9223372036854775807):= .mk λ(x0,x1,_)=>
  .cal qS.c (x0.conns,x1,()) λc1=>
  .ite (decide (c1<0)) (.ret (-1))<|
  .cal om.c (x0.waiting,c1,()) λc2=>
  .ite (decide (c2<0)) (.ret (-1))<|
  .ret c2
noncomputable def GS:=bh st Tryz.func86 [Hr,Ei] (ks:=[.st .tabl,.sc (.int .i64)]) qq rI
noncomputable def az:FT (Tupl×Unit) (Bool) (λ_=>True) (λ_ _=>True):= .mk λ(x0,_)=>
  .cal aj.c (x0.ip,32,()) λc1=>
  .ite c1 (.cal aj.c (x0.port,16,()) λc2=>
   .ite c2 (.cal aj.c (x0.my,16,()) λc3=>
    .ret c3)<|
   .ret false)<|
  .ret false
noncomputable def kU:=bh aq Tryz.func109 [cL] (ks:=[.st .tupl]) az rB
noncomputable def ae:FT (Segm×Unit) (Bool) (λ_=>True) (λx v=>(v=true→x.1.body.length≤1420)):= .mk λ(x0,_)=>
  .cal aj.c (x0.from_,16,()) λc1=>
  .ite c1 (.cal aj.c (x0.to,16,()) λc2=>
   .ite c2 (.cal aj.c (x0.window,16,()) λc3=>
    .ite c3 (.cal aj.c (x0.seq,32,()) λc4=>
     .ite c4 (.cal aj.c (x0.ack,32,()) λc5=>
      .ite c5 (.cal aj.c (x0.flags,6,()) λc6=>
       .ite c6 (.cal aF.c (x0.opts,()) λc7=>
        .ite c7 (.ret (decide ((x0.body.length:Int)≤1420)))<|
        .ret false)<|
       .ret false)<|
      .ret false)<|
     .ret false)<|
    .ret false)<|
   .ret false)<|
  .ret false
noncomputable def nz:=bh aq Tryz.func110 [cL,j5] (ks:=[.st .segm]) ae rB
noncomputable def kw:FT (Door×Segm×Unit) (Door×List Segm×Int) (λx=>ai x.1∧ah x.2.1) (λx v=>ai v.1∧sL ah v.2.1):= .mk λ(x0,x1,_)=>
  .cal sy.c (x1,()) λc1=>
  .ite (!c1.2) (.cal cW.c (x0,()) λc2=>
   .ret (c2,[],0))<|
  .cal cW.c (x0,()) λc3=>
  .ret (c3,[c1.1],0)
noncomputable def zP:=bh st Tryz.func118 [JA,gK] (ks:=[.st .door,.st .segm]) kw (λv=>[(true,jW (.o true) (.o true) (.o true) (.o true) (.o true) v.1),(false,[sc (.o true) .segm v.2.1]),(false,[.c (.int .i64 v.2.2)])])
noncomputable def MB:=[j4,iE,cM,oZ,fQ,Dp]
def CK:An:=⟨⟨[],[],false,0⟩,⟨[1,2,4,5,8,10],[],false,0⟩,⟨[],[]⟩,[(.normal,⟨[zi 1,zi 2,zi 4,zp 5 0,zp 8 1,zp 10 2],[zx .tupl,zx .opti,.box [.st .conn [.nil .piec]]]⟩)]⟩
def Dt:An:=⟨⟨[],[],false,0⟩,⟨[1,2,4,5,8,10],[],false,0⟩,⟨[],[]⟩,[(.normal,⟨[zi 1,zi 2,zi 4,zp 5 0,zp 8 1,zp 10 2],[zx .tupl,zx .opti,.box [.st .conn [.nil .piec]]]⟩)]⟩
noncomputable def K9:Fx:=⟨120,Tryz.f120,[(1000014,CK),(1000018,Dt)],0⟩
noncomputable def ru:FT (Tupl×Int×Int×Opti×Int×Unit) (Conn) (λ_=>True) (λx v=>ac v):= .mk λ(x0,x1,x2,x3,x4,_)=>
  .cal d9.c (x3,()) λc1=>
  .bnd (β:=Int×Int×Int×Tupl×Opti×Conn×Unit) (.as (λw=>ac w.2.2.2.2.2.1) (.ite (!c1) (.val (dC.f (())) λc2=>
    .ret (x1,x2,x4,x0,c2,(⟨⟨0,0,0⟩,0,⟨0,[],0,false,false,false⟩,⟨0,[],[],0,false⟩,0,0,⟨0,0,false,false,0,0⟩,0,0⟩:Conn),()))<|
   .ret (x1,x2,x4,x0,x3,(⟨⟨0,0,0⟩,0,⟨0,[],0,false,false,false⟩,⟨0,[],[],0,false⟩,0,0,⟨0,0,false,false,0,0⟩,0,0⟩:Conn),()))) λ(u3a0,u3a1,u3a2,u3a3,u3a4,u3a5,_)=>
  .cal aN.c (u3a2,16,()) λc4=>
  .bnd (β:=Int×Int×Int×Tupl×Opti×Conn×Unit) (.as (λw=>ac w.2.2.2.2.2.1) (.ite (!c4) (.ret (u3a0,u3a1,0,u3a3,u3a4,({u3a5 with r.held:=[]}:Conn),()))<|
   .ret (u3a0,u3a1,u3a2,u3a3,u3a4,({u3a5 with r.held:=[]}:Conn),()))) λ(u5a0,u5a1,u5a2,u5a3,u5a4,_,_)=>
  .val (fL.f (0,u5a4.scale,())) λc6=>
  .grd (decide (0≤(IntKind.wrap .u64 c6)))<|
  .val (cd.f (u5a0,1,())) λc7=>
  .val (cd.f (u5a1,1,())) λc8=>
  .cal ng.c (c8,()) λc9=>
  .ret (⟨u5a3,1,⟨c7,[],0,false,false,false⟩,c9,(IntKind.wrap .i64 (u5a2*2 ^ (min (IntKind.wrap .u64 c6).toNat 64))),(IntKind.wrap .i64 (u5a2*2 ^ (min (IntKind.wrap .u64 c6).toNat 64))),u5a4,0,0⟩:Conn)
noncomputable def Mq:=dI st K9 MB [] (ks:=[.st .tupl,.sc (.int .i64),.sc (.int .i64),.st .opti,.sc (.int .i64)]) ru (λv=>[(true,kJ (.o true) v)]) Tryz.func120 trivial
noncomputable def yl:=[iE,IM,Mz]
noncomputable def xY:Fx:=⟨122,Tryz.f122,[(3000004,rA 0 24)],0⟩
noncomputable def jI:FT (Int×Opti×Unit) (Opti) (λ_=>True) (λ_ _=>True):= .mk λ(x0,x1,_)=>
  .val (dC.f (())) λc1=>
  .cal y4.c (x0,()) λc2=>
  .cal wY.c (x1.echo,()) λc3=>
  .bnd (β:=Bool×Unit) (.ite x1.stamp (.ret (c3.2.2,()))<|
   .ret (false,())) λ(u4a0,_)=>
  .ite u4a0 (.ret (⟨c2,c3.1,c3.2.1,true,x1.val,c1.echo⟩:Opti))<|
  .ret ({c1 with mss:=c2}:Opti)
noncomputable def yF:=dI st xY yl [] (ks:=[.sc (.int .i64),.st .opti]) jI (λv=>[(true,sX v)]) Tryz.func122 trivial
noncomputable def fB:FT (Segm×Unit) (List Segm) (λx=>ah x.1) (λx v=>sL ah v):= .mk λ(x0,_)=>
  .cal iY.c (x0,()) λc1=>
  .ite c1.2 (.ret [c1.1])<|
  .ret []
noncomputable def E3:=bh aq Tryz.func123 [Kz] (ks:=[.st .segm]) fB (λv=>[(false,[sc (.o true) .segm v])])
noncomputable def La:=[j5,iB,cL,D7,fP,CG]
def CN:An:=⟨⟨[],[],false,0⟩,⟨[1,2,4,5,8,10],[],false,0⟩,⟨[],[]⟩,[(.normal,⟨[zi 1,zi 2,zi 4,zp 5 0,zp 8 1,zp 10 2],[zx .tupl,zx .opti,.box [.st .conn [.nil .piec]]]⟩)]⟩
def CT:An:=⟨⟨[],[],false,0⟩,⟨[1,2,4,5,8,10],[],false,0⟩,⟨[],[]⟩,[(.normal,⟨[zi 1,zi 2,zi 4,zp 5 0,zp 8 1,zp 10 2],[zx .tupl,zx .opti,.box [.st .conn [.nil .piec]]]⟩)]⟩
noncomputable def NU:Fx:=⟨124,Tryz.f124,[(1000014,CN),(1000018,CT)],0⟩
noncomputable def sj:FT (Tupl×Int×Int×Opti×Int×Unit) (Conn) (λ_=>True) (λx v=>ac v):= .mk λ(x0,x1,x2,x3,x4,_)=>
  .cal aF.c (x3,()) λc1=>
  .bnd (β:=Int×Int×Int×Tupl×Opti×Conn×Unit) (.as (λw=>ac w.2.2.2.2.2.1) (.ite (!c1) (.val (cA.f (())) λc2=>
    .ret (x1,x2,x4,x0,c2,(⟨⟨0,0,0⟩,0,⟨0,[],0,false,false,false⟩,⟨0,[],[],0,false⟩,0,0,⟨0,0,false,false,0,0⟩,0,0⟩:Conn),()))<|
   .ret (x1,x2,x4,x0,x3,(⟨⟨0,0,0⟩,0,⟨0,[],0,false,false,false⟩,⟨0,[],[],0,false⟩,0,0,⟨0,0,false,false,0,0⟩,0,0⟩:Conn),()))) λ(u3a0,u3a1,u3a2,u3a3,u3a4,u3a5,_)=>
  .cal aj.c (u3a2,16,()) λc4=>
  .bnd (β:=Int×Int×Int×Tupl×Opti×Conn×Unit) (.as (λw=>ac w.2.2.2.2.2.1) (.ite (!c4) (.ret (u3a0,u3a1,0,u3a3,u3a4,({u3a5 with r.held:=[]}:Conn),()))<|
   .ret (u3a0,u3a1,u3a2,u3a3,u3a4,({u3a5 with r.held:=[]}:Conn),()))) λ(u5a0,u5a1,u5a2,u5a3,u5a4,_,_)=>
  .cal vc.c (u5a2,u5a4,()) λc6=>
  .val (bM.f (u5a0,1,())) λc7=>
  .val (bM.f (u5a1,1,())) λc8=>
  .cal iz.c (c8,()) λc9=>
  .ret (⟨u5a3,1,⟨c7,[],0,false,false,false⟩,c9,c6,c6,u5a4,0,0⟩:Conn)
noncomputable def Lc:=dI aq NU La [] (ks:=[.st .tupl,.sc (.int .i64),.sc (.int .i64),.st .opti,.sc (.int .i64)]) sj (λv=>[(true,kJ (.o true) v)]) Tryz.func124 trivial
noncomputable def x7:=[iB,H2,Ln]
noncomputable def yK:Fx:=⟨126,Tryz.f126,[(3000004,rA 0 24)],0⟩
noncomputable def cr:FT (Int×Opti×Unit) (Opti) (λ_=>True) (λ_ _=>True):= .mk λ(x0,x1,_)=>
  .val (cA.f (())) λc1=>
  .cal fq.c (x0,()) λc2=>
  .cal kM.c (x1.echo,()) λc3=>
  .bnd (β:=Bool×Unit) (.ite x1.stamp (.ret (c3.2.2,()))<|
   .ret (false,())) λ(u4a0,_)=>
  .ite u4a0 (.ret (⟨c2,c3.1,c3.2.1,true,x1.val,c1.echo⟩:Opti))<|
  .ret ({c1 with mss:=c2}:Opti)
noncomputable def yy:=dI aq yK x7 [] (ks:=[.sc (.int .i64),.st .opti]) cr (λv=>[(true,sX v)]) Tryz.func126 trivial
noncomputable def k8:FT (Segm×Unit) (Bool) (λ_=>True) (λx v=>(v=true→x.1.body.length≤1420)):= .mk λ(x0,_)=>
  .cal aN.c (x0.from_,16,()) λc1=>
  .ite c1 (.cal aN.c (x0.to,16,()) λc2=>
   .ite c2 (.cal aN.c (x0.window,16,()) λc3=>
    .ite c3 (.cal aN.c (x0.seq,32,()) λc4=>
     .ite c4 (.cal aN.c (x0.ack,32,()) λc5=>
      .ite c5 (.cal aN.c (x0.flags,6,()) λc6=>
       .ite c6 (.cal d9.c (x0.opts,()) λc7=>
        .ite c7 (.ret (decide ((x0.body.length:Int)≤1420)))<|
        .ret false)<|
       .ret false)<|
      .ret false)<|
     .ret false)<|
    .ret false)<|
   .ret false)<|
  .ret false
noncomputable def rc:=bh st Tryz.func133 [cM,j4] (ks:=[.st .segm]) k8 rB
noncomputable def tB:FT (Clie×Unit) (Bool) (λ_=>True) (λ_ _=>True):= .mk λ(x0,_)=>
  .cal lc.c (x0.tuple,()) λc1=>
  .ite c1 (.cal d9.c (x0.opts,()) λc2=>
   .ite c2 (.cal aN.c (x0.isn,32,()) λc3=>
    .ite c3 (.cal aN.c (x0.window,16,()) λc4=>
     .ret c4)<|
    .ret false)<|
   .ret false)<|
  .ret false
noncomputable def KJ:=bh st Tryz.func150 [nU,j4,cM] (ks:=[.st .clie]) tB rB
noncomputable def kC:FT (Clie×Unit) (Bool) (λ_=>True) (λ_ _=>True):= .mk λ(x0,_)=>
  .cal az.c (x0.tuple,()) λc1=>
  .ite c1 (.cal aF.c (x0.opts,()) λc2=>
   .ite c2 (.cal aj.c (x0.isn,32,()) λc3=>
    .ite c3 (.cal aj.c (x0.window,16,()) λc4=>
     .ret c4)<|
    .ret false)<|
   .ret false)<|
  .ret false
noncomputable def JY:=bh aq Tryz.func154 [kU,j5,cL] (ks:=[.st .clie]) kC rB
noncomputable def cV:FT (Conn×Unit) (Conn) (λx=>ac x.1) (λx v=>ac v∧v=x.1):=⟨λ(x0,_)=>
  .cal im.c (x0.r,()) λc1=>
  .ret ({x0 with r.next:=c1.next,r.data:=c1.data,r.held:=c1.held,r.fin:=c1.fin,r.done:=c1.done}:Conn),
 λ(x0,_) hp=>by
  refine Tr.C ?_ λc1 hc1 qc1=>Tr.R ?_
  all_goals ((first|grind|(refine⟨by grind, ?_⟩;first|(simp only[List.nil_append];done)|(subst_vars;rfl)|simp_all)))⟩
noncomputable def eN:=bh aq Tryz.func157 [qB] (ks:=[.st .conn]) cV (λv=>[(true,kJ (.o true) v)])
noncomputable def oE:FT (Recv×Recv×Unit) (Bool) (λx=>am x.1∧am x.2.1) (λ_ _=>True):= .mk λ(x0,x1,_)=>
  .ite (x0.next != x1.next) (.ret false)<|
  .ite (!(x0.data==x1.data)) (.ret false)<|
  .cal sI.c (x0.held,x1.held,()) λc1=>
  .ite (!c1) (.ret false)<|
  .ite (x0.fin != x1.fin) (.ret false)<|
  .ite (!(x0.done==x1.done)) (.ret false)<|
  .ret true
noncomputable def Gz:=bh st Tryz.func159 [KP] (ks:=[.st .recv,.st .recv]) oE rB
noncomputable def Ox:=[cM,Iy,Nf]
noncomputable def Oc:Fx:=⟨168,Tryz.f168,[(3000001,rA 0 18)],0⟩
noncomputable def rL:FT (Keys×Unit) (Bool) (λx=>bT x.1) (λx v=>(v=true→0≤x.1.epoch∧x.1.epoch≤4294967295)):= .mk λ(x0,_)=>
  .bnd (β:=Bool×Unit) (.as (λw=>(w.1=false→x0.now.rows.length≤64∧x0.before.rows.length≤64)) (.cal aN.c (x0.epoch,32,()) λc1=>
   .ite (!c1) (.ret (true,()))<|
   .cal wB.c (x0.now,()) λc2=>
   .ite (!c2) (.ret (true,()))<|
   .cal wB.c (x0.before,()) λc3=>
   .ret ((!c3),()))) λ(u4a0,_)=>
  .ite u4a0 (.ret false)<|
  .ite x0.two (.ret (decide (1≤x0.epoch)))<|
  .cal xe.c (x0.before,(⟨false,0,0,[]⟩:Mac),()) λc5=>
  .ret c5
noncomputable def xV:=dI st Oc Ox [] (ks:=[.st .keys]) rL rB Tryz.func168 trivial
noncomputable def nJ:FT (Keys×Unit) (Keys) (λx=>bT x.1) (λx v=>bT v∧v=x.1):=⟨λ(x0,_)=>
  .cal jq.c (x0.now,()) λc1=>
  .cal jq.c (x0.before,()) λc2=>
  .ret (⟨x0.epoch,c1,c2,x0.two⟩:Keys),
 λ(x0,_) hp=>by
  refine Tr.C ?_ λc1 hc1 qc1=>Tr.C ?_ λc2 hc2 qc2=>Tr.R ?_
  all_goals ((first|grind|(refine⟨by grind, ?_⟩;first|(simp only[List.nil_append];done)|(subst_vars;rfl)|simp_all)))⟩
noncomputable def xS:=bh aq Tryz.func175 [tR] (ks:=[.st .keys]) nJ (λv=>[(true,Gv (.o true) (.o true) v)])
def qY:Sh:=⟨[zp 2 0,zp 3 1,zl 11 .conn,zi 12,zi 13],[.box [.st .tabl [.nil .conn,.nil .tupl]],.box [.st .tabl [.down 2,.own 3]],.ofd,zf]⟩
noncomputable def qp (v0:List Conn)(v2:Int)(a:Tabl×Tabl):Tr (Stp (Tabl×Tabl) (Empty)):=
 .grd (aY v0 v2)<|
 .cal cV.c ((v0.getD v2.toNat (Ty.zero .conn)),()) λc3=>
 .grd (GN a.2.conns 1 208)<|
 .ret (.next ((⟨[],[]⟩:Tabl),(⟨(a.2.conns++[c3]),a.2.waiting⟩:Tabl)))
noncomputable def fD:qY.V→yQ qY (Tabl×Tabl):=λ(v0,v1,v2,v3,v4,_)=>⟨v2,(v3,v4),λv2 a=>(v0,v1,v2,a.1,a.2,()),λv2 _=>(decide (v2<v1)),qp v0,up,1,(Int.toNat (v1-v2)),Empty.elim,Prod.mk,oN (.exit 0) ⟨[zp 2 0,zp 3 1],[.box [.st .tabl [.nil .conn,.nil .tupl]],.box [.st .tabl [.down 2,.own 3]],.ofd,zf]⟩ (λx=>((⟨[],[]⟩:Tabl),x.2.2,()))⟩
theorem Aj {v0:List Conn}{v1 v2:Int}{v3 v4:Tabl}(h0:0≤v2)(h1:v1≤4611686018427387904)(h2:sL ac v0)(h3:v1≤4294967296)(h4:sS v4.waiting)(h5:v1≤(v0.length:Int))(h6:bA v3∧(v4.conns.length:Int)=v2∧cU ac v4.conns∧v4.waiting.length=v4.waiting.length):(fD (v0,v1,v2,v3,v4,())).U v1 (λv2 a=>bA a.1∧(a.2.conns.length:Int)=v2∧cU ac a.2.conns∧a.2.waiting.length=v4.waiting.length) (λ_=>True):=
 mw (a:=(v3,v4)) h0 h1 h6
noncomputable def gQ:FT (Tabl×Unit) (Tabl) (λx=>bA x.1) (λx v=>bA v∧v.conns.length=x.1.conns.length∧v.waiting.length=x.1.waiting.length):=⟨λ(x0,_)=>
  .cal nF.c (x0.waiting,()) λc1=>
  .lp (fD (x0.conns,(x0.conns.length:Int),0,(⟨[],[]⟩:Tabl),(⟨[],c1⟩:Tabl),())).lp λ(_,_,a4_1)=>
  .ret a4_1,
 λ(x0,_) hp=>by
  refine Tr.C ?_ λ_ _ _=>Tr.L (Aj ?_ ?_ ?_ ?_ ?_ ?_ ?_) (λ(a4_0,a4_1) _=>Tr.R ?_) (λp=>Empty.elim p)
  all_goals ((try simp only[fD,LC.lp,LC.ct,Ct.lp]at*)<;>grind)⟩
noncomputable def pP:=eC aq Tryz.func177 [(0,la ⟨[2,3,11,12,13],[.dbox 3 0 .conn],false,0⟩ ⟨[2,3],[],false,0⟩)] [Dw,eN] 0 fD (ks:=[.st .tabl]) gQ (λv=>[(true,xW .d (.o true) v)])
def uA:Sh:=⟨[zl 0 .half,zi 3],[]⟩
noncomputable def ex (v0:List Half)(v1:Int)(a:Unit):Tr (Stp (Unit) ((Unit))):=
 .grd (aY v0 v1)<|
 .cal lc.c ((v0.getD v1.toNat (Ty.zero .half)).tuple,()) λc1=>
 .ite (!c1) (.ret (.out ()))<|
 .cal aN.c ((v0.getD v1.toNat (Ty.zero .half)).iss,32,()) λc2=>
 .ite (!c2) (.ret (.out ()))<|
 .cal aN.c ((v0.getD v1.toNat (Ty.zero .half)).irs,32,()) λc3=>
 .ite (!c3) (.ret (.out ()))<|
 .cal aN.c ((v0.getD v1.toNat (Ty.zero .half)).window,16,()) λc4=>
 .ite (!c4) (.ret (.out ()))<|
 .cal d9.c ((v0.getD v1.toNat (Ty.zero .half)).opts,()) λc5=>
 .ite (!c5) (.ret (.out ()))<|
 .val (dz.f ((v0.getD v1.toNat (Ty.zero .half)).age,0,6,())) λc6=>
 .ite (!c6) (.ret (.out ()))<|
 .grd ((decide (0≤v1))&&(decide (v1≤(v0.length:Int))))<|
 .cal hZ.c (((v0.take v1.toNat).drop 0),(v0.getD v1.toNat (Ty.zero .half)).tuple,()) λc7=>
 .ite (decide (0≤c7)) (.ret (.out ()))<|
 .ret (.next ())
noncomputable def ik:uA.V→oi uA Unit (Unit):=λ(v0,v1,_)=>⟨v1,(),λv1 _=>(v0,v1,()),λv1 _=>(decide (v1<(v0.length:Int))),ex v0,up,1,(Int.toNat ((v0.length:Int)-v1)),.inl,eR,oB .ret ⟨[zl 0 .half,zb 2],[]⟩ (λ_=>(v0,false,())) (.exit 0) ⟨[zl 0 .half,zu 2],[]⟩ (λ_=>(v0,()))⟩
theorem CX {v0:List Half}{v1:Int}(h0:0≤v1)(h1:(v0.length:Int)≤4611686018427387904)(h2:wS v0):(ik (v0,v1,())).U (v0.length:Int) (λ_ _=>True) (λ_=>True):=
 mw h0 h1 trivial
noncomputable def mF:FT (List Half×Unit) (Bool) (λx=>wS x.1) (λx v=>(v=true→x.1.length≤64)):= .mk (λ(x0,_)=>
  .lp (ik (x0,0,())).lp λw8=> .sum w8 (λ_=>
  .ret false)<|
  λ_=>
  .ret (decide ((x0.length:Int)≤64))) (ql @CX)
noncomputable def zn:=eC st Tryz.func202 [(0,lb [0,3] [0,2])] [nU,cM,j4,dZ,lr] 0 ik (ks:=[.sc (.sl .half)]) mF rB
noncomputable def cp:FT (Conn×Unit) (Segm) (λx=>ac x.1) (λx v=>ah v):= .mk λ(x0,_)=>
  .cal jr.c (x0.s,()) λc1=>
  .cal bQ.c (x0.r,()) λc2=>
  .val (cA.f (())) λc3=>
  .ret (⟨x0.tuple.my,x0.tuple.port,c1,x0.r.next,16,c2,c3,[]⟩:Segm)
noncomputable def IT:=bh aq Tryz.func238 [ED,mf,iB] (ks:=[.st .conn]) cp (λv=>[(true,pc v)])
noncomputable def Py:=[kU,ov,vv,j5,bZ]
def EO:An:=⟨⟨[],[],false,0⟩,⟨[1,2,3],[],false,0⟩,⟨[],[]⟩,[(.normal,⟨[zp 1 0,zb 2,zi 3],[zg .conn]⟩)]⟩
noncomputable def Pw:Fx:=⟨293,Tryz.f293,[(1000037,EO),(3000001,rA 0 34),(3000006,rA 0 62)],0⟩
noncomputable def bG:FT (Conn×Unit) (Bool) (λx=>ac x.1) (λx v=>(v=true→SO x.1.s∧RO x.1.r)):= .mk λ(x0,_)=>
  .bnd (β:=Bool×Unit) (.as (λw=>(w.1=false→SO x0.s∧RO x0.r∧cU (pw (R7 x0.r)) x0.r.held)) (.cal az.c (x0.tuple,()) λc1=>
   .ite (!c1) (.ret (true,()))<|
   .cal bp.c (x0.s,()) λc2=>
   .ite (!c2) (.ret (true,()))<|
   .cal br.c (x0.r,()) λc3=>
   .ite (!c3) (.ret (true,()))<|
   .cal aF.c (x0.opts,()) λc4=>
   .ite (!c4) (.ret (true,()))<|
   .val (bo.f (x0.state,1,8,())) λc5=>
   .ret ((!c5),()))) λ(u6a0,_)=>
  .ite u6a0 (.ret false)<|
  .bnd (β:=Bool×Int×Conn×Unit) (.as (λw=>ac w.2.2.1) (.ite (x0.state==7) (.ret (false,4,x0,()))<|
   .ret (false,3,x0,()))) λ(_,u7a1,u7a2,_)=>
  .bnd (β:=Bool×Unit) (.val (bo.f (u7a2.most,0,1073725440,())) λc8=>
   .ite (!c8) (.ret (true,()))<|
   .val (bo.f (u7a2.window,0,u7a2.most,())) λc9=>
   .ite (!c9) (.ret (true,()))<|
   .val (bo.f (u7a2.timer,0,u7a1,())) λc10=>
   .ite (!c10) (.ret (true,()))<|
   .val (bo.f (u7a2.tries,0,3,())) λc11=>
   .ret ((!c11),())) λ(u12a0,_)=>
  .ite u12a0 (.ret false)<|
  .ite (u7a2.state==1) (.ite (!u7a2.s.fin) (.ite (!u7a2.s.done) (.ret (!u7a2.r.done))<|
    .ret false)<|
   .ret false)<|
  .ite (u7a2.state==2) (.ite u7a2.s.fin (.ite (!u7a2.s.done) (.ret (!u7a2.r.done))<|
    .ret false)<|
   .ret false)<|
  .ite (u7a2.state==3) (.ite u7a2.s.fin (.ite u7a2.s.done (.ret (!u7a2.r.done))<|
    .ret false)<|
   .ret false)<|
  .ite (u7a2.state==4) (.ite (!u7a2.s.fin) (.ite (!u7a2.s.done) (.ret u7a2.r.done)<|
    .ret false)<|
   .ret false)<|
  .ite (u7a2.state==5) (.ite (u7a2.state==5) (.ite u7a2.s.fin (.ite (!u7a2.s.done) (.ret u7a2.r.done)<|
     .ret false)<|
    .ret false)<|
   .ite (u7a2.state==7) (.ite u7a2.s.fin (.ite u7a2.s.done (.ret u7a2.r.done)<|
     .ret false)<|
    .ret false)<|
   .ret true)<|
  .ite (u7a2.state==6) (.ite u7a2.s.fin (.ite (!u7a2.s.done) (.ret u7a2.r.done)<|
    .ret false)<|
   .ret false)<|
  .ite (u7a2.state==7) (.ite u7a2.s.fin (.ite u7a2.s.done (.ret u7a2.r.done)<|
    .ret false)<|
   .ret false)<|
  .ret true
noncomputable def tH:=dI aq Pw Py [] (ks:=[.st .conn]) bG rB Tryz.func293 trivial
noncomputable def lk:FT (Conn×Unit) (Segm) (λx=>ac x.1) (λx v=>ah v):= .mk λ(x0,_)=>
  .cal vS.c (x0.s,()) λc1=>
  .cal jp.c (x0.r,()) λc2=>
  .val (dC.f (())) λc3=>
  .ret (⟨x0.tuple.my,x0.tuple.port,c1,x0.r.next,16,c2,c3,[]⟩:Segm)
noncomputable def IG:=bh st Tryz.func300 [FY,ml,iE] (ks:=[.st .conn]) lk (λv=>[(true,pc v)])
noncomputable def Ju:=[nU,cM,dZ,Ns]
noncomputable def KF:Fx:=⟨303,Tryz.f303,[(3000001,rA 0 26)],0⟩
noncomputable def tW:FT (Tupl×Int×Int×Int×Unit) (aA) (λ_=>True) (λx v=>sS v∧v.length≤40):=⟨λ(x0,x1,x2,x3,_)=>
  .bnd (β:=Bool×Unit) (.cal lc.c (x0,()) λc1=>
   .ite (!c1) (.ret (true,()))<|
   .cal aN.c (x1,32,()) λc2=>
   .ite (!c2) (.ret (true,()))<|
   .cal aN.c (x2,32,()) λc3=>
   .ite (!c3) (.ret (true,()))<|
   .val (dz.f (x3,0,7,())) λc4=>
   .ret ((!c4),())) λ(u5a0,_)=>
  .ite u5a0 (.ret [])<|
  .cal jD.c (x0.ip,4,()) λc6=>
  .cal jD.c (x0.port,2,()) λc7=>
  .grd (Nat.ble (c6.length+c7.length) dF)<|
  .cal jD.c (x0.my,2,()) λc8=>
  .grd (Nat.ble ((c6++c7).length+c8.length) dF)<|
  .cal jD.c (x1,4,()) λc9=>
  .grd (Nat.ble (((c6++c7)++c8).length+c9.length) dF)<|
  .cal jD.c (x2,4,()) λc10=>
  .grd (Nat.ble ((((c6++c7)++c8)++c9).length+c10.length) dF)<|
  .cal jD.c (x3,1,()) λc11=>
  .grd (Nat.ble (((((c6++c7)++c8)++c9)++c10).length+c11.length) dF)<|
  .ret (((((c6++c7)++c8)++c9)++c10)++c11),
 λ(x0,x1,x2,x3,_) hp=>by
  refine Tr.B (Q':=λ_=>True) (Tr.C trivial λc1 hc1 qc1=>Tr.I (λb0=>Tr.R trivial) λb0=>Tr.C trivial λc2 hc2 qc2=>Tr.I (λb1=>Tr.R trivial) λb1=>Tr.C trivial λc3 hc3 qc3=>Tr.F (by kernel_rfl) trivial) (λ(u5a0,_) hj5 qj5=>Tr.I (λb0=>Tr.R ?_) λb0=>Tr.C trivial λc6 hc6 qc6=>Tr.C trivial λc7 hc7 qc7=>Tr.Gb ?_ λg1=>Tr.C trivial λc8 hc8 qc8=>Tr.Gb ?_ λg2=>Tr.C trivial λc9 hc9 qc9=>Tr.Gb ?_ λg3=>Tr.C trivial λc10 hc10 qc10=>Tr.Gb ?_ λg4=>Tr.C trivial λc11 hc11 qc11=>Tr.Gb ?_ λg5=>Tr.R ?_)
  all_goals ((try simp only[Tr.nice,iq]at*)<;>(first|(simp only[List.length_append,List.length_cons,List.length_nil,dF,sS]at*;omega)|grind))⟩
noncomputable def KG:=dI st KF Ju [] (ks:=[.st .tupl,.sc (.int .i64),.sc (.int .i64),.sc (.int .i64)]) tW (λv=>[(false,[.c (.str v)])]) Tryz.func303 trivial
noncomputable def JP:=[kU,cL,bZ,Ls]
noncomputable def Ks:Fx:=⟨305,Tryz.f305,[(3000001,rA 0 26)],0⟩
noncomputable def eV:FT (Tupl×Int×Int×Int×Unit) (aA) (λ_=>True) (λx v=>sS v∧v.length≤40):=⟨λ(x0,x1,x2,x3,_)=>
  .bnd (β:=Bool×Unit) (.cal az.c (x0,()) λc1=>
   .ite (!c1) (.ret (true,()))<|
   .cal aj.c (x1,32,()) λc2=>
   .ite (!c2) (.ret (true,()))<|
   .cal aj.c (x2,32,()) λc3=>
   .ite (!c3) (.ret (true,()))<|
   .val (bo.f (x3,0,7,())) λc4=>
   .ret ((!c4),())) λ(u5a0,_)=>
  .ite u5a0 (.ret [])<|
  .cal fv.c (x0.ip,4,()) λc6=>
  .cal fv.c (x0.port,2,()) λc7=>
  .grd (Nat.ble (c6.length+c7.length) dF)<|
  .cal fv.c (x0.my,2,()) λc8=>
  .grd (Nat.ble ((c6++c7).length+c8.length) dF)<|
  .cal fv.c (x1,4,()) λc9=>
  .grd (Nat.ble (((c6++c7)++c8).length+c9.length) dF)<|
  .cal fv.c (x2,4,()) λc10=>
  .grd (Nat.ble ((((c6++c7)++c8)++c9).length+c10.length) dF)<|
  .cal fv.c (x3,1,()) λc11=>
  .grd (Nat.ble (((((c6++c7)++c8)++c9)++c10).length+c11.length) dF)<|
  .ret (((((c6++c7)++c8)++c9)++c10)++c11),
 λ(x0,x1,x2,x3,_) hp=>by
  refine Tr.B (Q':=λ_=>True) (Tr.C trivial λc1 hc1 qc1=>Tr.I (λb0=>Tr.R trivial) λb0=>Tr.C trivial λc2 hc2 qc2=>Tr.I (λb1=>Tr.R trivial) λb1=>Tr.C trivial λc3 hc3 qc3=>Tr.F (by kernel_rfl) trivial) (λ(u5a0,_) hj5 qj5=>Tr.I (λb0=>Tr.R ?_) λb0=>Tr.C trivial λc6 hc6 qc6=>Tr.C trivial λc7 hc7 qc7=>Tr.Gb ?_ λg1=>Tr.C trivial λc8 hc8 qc8=>Tr.Gb ?_ λg2=>Tr.C trivial λc9 hc9 qc9=>Tr.Gb ?_ λg3=>Tr.C trivial λc10 hc10 qc10=>Tr.Gb ?_ λg4=>Tr.C trivial λc11 hc11 qc11=>Tr.Gb ?_ λg5=>Tr.R ?_)
  all_goals ((try simp only[Tr.nice,iq]at*)<;>(first|(simp only[List.length_append,List.length_cons,List.length_nil,dF,sS]at*;omega)|grind))⟩
noncomputable def KI:=dI aq Ks JP [] (ks:=[.st .tupl,.sc (.int .i64),.sc (.int .i64),.sc (.int .i64)]) eV (λv=>[(false,[.c (.str v)])]) Tryz.func305 trivial
noncomputable def Ez:=[pT,mf,uL,sz,Kr]
noncomputable def Gw:Fx:=⟨309,Tryz.f309,[(3000003,rA 0 4)],0⟩
noncomputable def oD:FT (Conn×Segm×Unit) (Bool) (λx=>ac x.1∧ah x.2.1) (λ_ _=>True):= .mk λ(x0,x1,_)=>
  .cal aH.c (x1,()) λc1=>
  .cal bQ.c (x0.r,()) λc2=>
  .ite (c1==0) (.bnd (β:=Bool×Unit) (.val (o9.f (x1.seq,x0.r.next,())) λc3=>
    .ite (c3==0) (.ret (true,()))<|
    .val (nb.f (x1.seq,x0.r.next,c2,())) λc4=>
    .ret (c4,())) λ(u5a0,_)=>
   .ret u5a0)<|
  .val (tu.f (x1.seq,c1,x0.r.next,c2,())) λc6=>
  .ret c6
noncomputable def Ey:=dI aq Gw Ez [] (ks:=[.st .conn,.st .segm]) oD rB Tryz.func309 trivial
noncomputable def RE:=[uL,ov,pD,bZ,fP]
noncomputable def QS:Fx:=⟨312,Tryz.f312,[(3000002,rA 0 22)],0⟩
noncomputable def DN:FT (Sndr×Int×Unit) (Sndr×Bool) (λx=>cI x.1) (λx v=>cI v.1):= .mk λ(x0,x1,_)=>
  .val (o9.f (x1,x0.una,())) λc1=>
  .bnd (β:=Bool×Unit) (.as (λw=>(w.1=false→SO x0)) (.cal bp.c (x0,()) λc2=>
   .ite (!c2) (.ret (true,()))<|
   .cal cG.c (x0,()) λc3=>
   .val (bo.f (c1,0,c3,())) λc4=>
   .ret ((!c4),()))) λ(u5a0,_)=>
  .ite u5a0 (.ret (x0,false))<|
  .grd (SC x0.data (if(x0.data.length:Int)<c1 then(x0.data.length:Int)else c1) (x0.data.length:Int))<|
  .val ((x0.data.take ((x0.data.length:Int).toNat)).drop ((if(x0.data.length:Int)<c1 then(x0.data.length:Int)else c1).toNat)) λe6=>
  .val (bM.f (x0.una,c1,())) λc7=>
  .val (IntKind.wrap .i64 (x0.sent-(if(x0.data.length:Int)<c1 then(x0.data.length:Int)else c1))) λe8=>
  .ite (c1==(IntKind.wrap .i64 (x0.sent+1))) (.ret ((⟨c7,e6,e8,x0.fin,false,true⟩:Sndr),true))<|
  .ret (({x0 with una:=c7,data:=e6,sent:=e8}:Sndr),true)
noncomputable def Sm:=dI aq QS RE [] (ks:=[.st .sndr,.sc (.int .i64)]) DN (λv=>[(true,Ev v.1),(false,[.c (.bool v.2)])]) Tryz.func312 trivial
noncomputable def O1:=[eN,tH,bZ]
def vX:An:=⟨⟨[],[],false,0⟩,⟨[1,2,3],[],false,0⟩,⟨[],[]⟩,[(.normal,⟨[zp 1 0,zp 2 1,zp 3 2],[zg .conn,.box [.st .conn [.nil .piec]],zk .conn 3,zf]⟩),(.ret,⟨[zp 1 0,zp 2 1,zp 3 2],[zg .conn,zk .conn 3,zk .conn 3,zf]⟩)]⟩
noncomputable def OT:Fx:=⟨315,Tryz.f315,[(1000016,vX),(3000004,rA 0 16),(3000006,rA 0 24),(3000008,rA 0 35),(3000010,rA 0 43),(3000012,rA 0 51),(3000014,rA 0 59),(3000020,rA 0 85)],0⟩
noncomputable def qi:FT (Conn×Unit) (Conn) (λx=>ac x.1) (λx v=>ac v):= .mk λ(x0,_)=>
  .cal cV.c (x0,()) λc1=>
  .bnd (β:=Bool×Unit) (.ite (x0.state==1) (.ret (x0.r.done,()))<|
   .ret (false,())) λ(u2a0,_)=>
  .bnd (β:=WT vX.es) (.as (Sum.elim (λw=>ac w.1∧ac w.2.1∧ac w.2.2.1) (λw=>ac w.1∧ac w.2.1∧ac w.2.2.1)) (.ite u2a0 (.ret (.inl (x0,(⟨⟨0,0,0⟩,0,⟨0,[],0,false,false,false⟩,⟨0,[],[],0,false⟩,0,0,⟨0,0,false,false,0,0⟩,0,0⟩:Conn),({c1 with state:=4}:Conn),())))<|
   .bnd (β:=Bool×Unit) (.ite (x0.state==2) (.ite x0.s.done (.ret (x0.r.done,()))<|
     .ret (false,()))<|
    .ret (false,())) λ(u3a0,_)=>
   .ite u3a0 (.ret (.inl (x0,(⟨⟨0,0,0⟩,0,⟨0,[],0,false,false,false⟩,⟨0,[],[],0,false⟩,0,0,⟨0,0,false,false,0,0⟩,0,0⟩:Conn),({c1 with state:=7}:Conn),())))<|
   .bnd (β:=Bool×Unit) (.ite (x0.state==2) (.ret (x0.s.done,()))<|
    .ret (false,())) λ(u4a0,_)=>
   .ite u4a0 (.ret (.inl (x0,(⟨⟨0,0,0⟩,0,⟨0,[],0,false,false,false⟩,⟨0,[],[],0,false⟩,0,0,⟨0,0,false,false,0,0⟩,0,0⟩:Conn),({c1 with state:=3}:Conn),())))<|
   .bnd (β:=Bool×Unit) (.ite (x0.state==2) (.ret (x0.r.done,()))<|
    .ret (false,())) λ(u5a0,_)=>
   .ite u5a0 (.ret (.inl (x0,(⟨⟨0,0,0⟩,0,⟨0,[],0,false,false,false⟩,⟨0,[],[],0,false⟩,0,0,⟨0,0,false,false,0,0⟩,0,0⟩:Conn),({c1 with state:=5}:Conn),())))<|
   .bnd (β:=Bool×Unit) (.ite (x0.state==3) (.ret (x0.r.done,()))<|
    .ret (false,())) λ(u6a0,_)=>
   .ite u6a0 (.ret (.inl (x0,(⟨⟨0,0,0⟩,0,⟨0,[],0,false,false,false⟩,⟨0,[],[],0,false⟩,0,0,⟨0,0,false,false,0,0⟩,0,0⟩:Conn),({c1 with state:=7}:Conn),())))<|
   .bnd (β:=Bool×Unit) (.ite (x0.state==5) (.ret (x0.s.done,()))<|
    .ret (false,())) λ(u7a0,_)=>
   .ite u7a0 (.ret (.inl (x0,(⟨⟨0,0,0⟩,0,⟨0,[],0,false,false,false⟩,⟨0,[],[],0,false⟩,0,0,⟨0,0,false,false,0,0⟩,0,0⟩:Conn),({c1 with state:=7}:Conn),())))<|
   .ite (x0.state==6) (.ite x0.s.done (.ret (.inl (x0,(⟨⟨0,0,0⟩,0,⟨0,[],0,false,false,false⟩,⟨0,[],[],0,false⟩,0,0,⟨0,0,false,false,0,0⟩,0,0⟩:Conn),({c1 with state:=8}:Conn),())))<|
    .ret (.inr ((x0,c1,c1,()))))<|
   .ret (.inr ((x0,c1,c1,()))))) λw8=> .sum w8 (λ(u8a0,_,u8a2,_)=>
  .bnd (β:=Bool×Unit) (.as (λw=>(w.1=false→SO ({u8a2 with timer:=0}:Conn).s∧RO ({u8a2 with timer:=0}:Conn).r)) (.cal bG.c (({u8a2 with timer:=0}:Conn),()) λc9=>
   .ite (!c9) (.ret (true,()))<|
   .val (bo.f (u8a0.timer,0,4,())) λc10=>
   .ret ((!c10),()))) λ(u11a0,_)=>
  .ite u11a0 (.cal cV.c (u8a0,()) λc12=>
   .ret c12)<|
  .ite (u8a2.state==7) (.ret ({u8a2 with timer:=4,tries:=0}:Conn))<|
  .ite (u8a2.state==8) (.ret ({u8a2 with timer:=0,tries:=0}:Conn))<|
  .ret u8a2)<|
  λ(_,u8b1,_,_)=>
  .ret u8b1
noncomputable def OU:=dI aq OT O1 [] (ks:=[.st .conn]) qi (λv=>[(true,kJ (.o true) v)]) Tryz.func315 trivial
noncomputable def Hh:=[ov,pD,ED]
noncomputable def HD:Fx:=⟨316,Tryz.f316,[(3000007,rA 0 68)],0⟩
noncomputable def aO:FT (Sndr×Int×Int×Unit) (Chun×Bool) (λx=>cI x.1) (λx v=>oJ v.1∧(v.2=true→SO x.1∧(v.1.text.length:Int)+x.1.sent≤x.1.data.length∧x.1.finSent=false∧(v.1.text=[]→v.1.fin=true)∧(v.1.fin=true→x.1.fin=true∧x.1.done=false∧x.1.sent+v.1.text.length=x.1.data.length))):= .mk λ(x0,x1,x2,_)=>
  .cal bp.c (x0,()) λc1=>
  .ite (!c1) (.ret ((⟨0,[],false⟩:Chun),false))<|
  .cal cG.c (x0,()) λc2=>
  .grd (SC x0.data x0.sent (x0.data.length:Int))<|
  .val (((x0.data.take ((x0.data.length:Int).toNat)).drop x0.sent.toNat).length:Int) λe3=>
  .val (β:=Int) (if(IntKind.wrap .i64 ((if x1<(-1)then(-1)else x1)-c2))<(if x2<e3 then x2 else e3)then(IntKind.wrap .i64 ((if x1<(-1)then(-1)else x1)-c2))else(if x2<e3 then x2 else e3)) λe4=>
  .cal jr.c (x0,()) λc5=>
  .grd ((decide (0≤(if 0<e4 then e4 else 0)))&&(decide ((if 0<e4 then e4 else 0)≤(((x0.data.take ((x0.data.length:Int).toNat)).drop x0.sent.toNat).length:Int))))<|
  .val ((((x0.data.take ((x0.data.length:Int).toNat)).drop x0.sent.toNat).take ((if 0<e4 then e4 else 0).toNat)).drop 0) λe6=>
  .ite x0.fin (.ite (!x0.finSent) (.ite (!x0.done) (.val (((x0.data.take ((x0.data.length:Int).toNat)).drop x0.sent.toNat).length:Int) λe7=>
     .ite ((if 0<e4 then e4 else 0)==e7) (.bnd (β:=Bool×Unit) (.ite (e6==[]) (.ret ((!(decide ((if 0<e4 then e4 else 0)<(IntKind.wrap .i64 ((if x1<(-1)then(-1)else x1)-c2))))),()))<|
       .ret (false,())) λ(u8a0,_)=>
      .ite u8a0 (.ret ((⟨0,[],false⟩:Chun),false))<|
      .ret ((⟨c5,e6,(decide ((if 0<e4 then e4 else 0)<(IntKind.wrap .i64 ((if x1<(-1)then(-1)else x1)-c2))))⟩:Chun),true))<|
     .bnd (β:=Bool×Unit) (.ite (e6==[]) (.ret (true,()))<|
      .ret (false,())) λ(u9a0,_)=>
     .ite u9a0 (.ret ((⟨0,[],false⟩:Chun),false))<|
     .ret ((⟨c5,e6,false⟩:Chun),true))<|
    .bnd (β:=Bool×Unit) (.ite (e6==[]) (.ret (true,()))<|
     .ret (false,())) λ(u10a0,_)=>
    .ite u10a0 (.ret ((⟨0,[],false⟩:Chun),false))<|
    .ret ((⟨c5,e6,false⟩:Chun),true))<|
   .bnd (β:=Bool×Unit) (.ite (e6==[]) (.ret (true,()))<|
    .ret (false,())) λ(u11a0,_)=>
   .ite u11a0 (.ret ((⟨0,[],false⟩:Chun),false))<|
   .ret ((⟨c5,e6,false⟩:Chun),true))<|
  .bnd (β:=Bool×Unit) (.ite (e6==[]) (.ret (true,()))<|
   .ret (false,())) λ(u12a0,_)=>
  .ite u12a0 (.ret ((⟨0,[],false⟩:Chun),false))<|
  .ret ((⟨c5,e6,false⟩:Chun),true)
noncomputable def Hs:=dI aq HD Hh [] (ks:=[.st .sndr,.sc (.int .i64),.sc (.int .i64)]) aO (λv=>[(true,TZ v.1),(false,[.c (.bool v.2)])]) Tryz.func316 trivial
noncomputable def cZ:FT (Sndr×Chun×Unit) (Sndr) (λx=>cI x.1∧oJ x.2.1) (λx v=>cI v∧(SO x.1→(x.2.1.text.length:Int)+x.1.sent≤x.1.data.length→x.1.finSent=false→(x.2.1.fin=true→x.1.fin=true∧x.1.done=false∧x.1.sent+x.2.1.text.length=x.1.data.length)→v={x.1 with sent:=x.1.sent+x.2.1.text.length,finSent:=x.2.1.fin})):= .mk λ(x0,x1,_)=>
  .ite x0.finSent (.cal bp.c (x0,()) λc1=>
   .ite (!c1) (.ret x0)<|
   .cal bp.c (({x0 with sent:=(IntKind.wrap .i64 (x0.sent+(x1.text.length:Int))),finSent:=true}:Sndr),()) λc2=>
   .ite (!c2) (.ret x0)<|
   .ite x1.fin (.ite (!x0.fin) (.ret x0)<|
    .ite x0.done (.ret x0)<|
    .ret ({x0 with sent:=(IntKind.wrap .i64 (x0.sent+(x1.text.length:Int))),finSent:=true}:Sndr))<|
   .ret ({x0 with sent:=(IntKind.wrap .i64 (x0.sent+(x1.text.length:Int))),finSent:=true}:Sndr))<|
  .cal bp.c (x0,()) λc3=>
  .ite (!c3) (.ret x0)<|
  .cal bp.c (({x0 with sent:=(IntKind.wrap .i64 (x0.sent+(x1.text.length:Int))),finSent:=x1.fin}:Sndr),()) λc4=>
  .ite (!c4) (.ret x0)<|
  .ite x1.fin (.ite (!x0.fin) (.ret x0)<|
   .ite x0.done (.ret x0)<|
   .ret ({x0 with sent:=(IntKind.wrap .i64 (x0.sent+(x1.text.length:Int))),finSent:=x1.fin}:Sndr))<|
  .ret ({x0 with sent:=(IntKind.wrap .i64 (x0.sent+(x1.text.length:Int))),finSent:=x1.fin}:Sndr)
noncomputable def Lw:=bh aq Tryz.func318 [ov] (ks:=[.st .sndr,.st .chun]) cZ (λv=>[(true,Ev v)])
noncomputable def OV:=[nU,oK,vR,j4,dZ,OX]
def Fy:An:=⟨⟨[],[],false,0⟩,⟨[1,2,3],[],false,0⟩,⟨[],[]⟩,[(.normal,⟨[zp 1 0,zb 2,zi 3],[zg .conn]⟩)]⟩
noncomputable def PP:Fx:=⟨320,Tryz.f320,[(1000055,Fy),(3000001,rA 0 52),(3000010,rA 0 4),(3000011,rA 0 5)],0⟩
noncomputable def pd:FT (Conn×Unit) (Bool) (λx=>ac x.1) (λx v=>(v=true→SO x.1.s∧RO x.1.r)):= .mk λ(x0,_)=>
  .bnd (β:=Bool×Unit) (.as (λw=>(w.1=false→SO x0.s∧RO x0.r)) (.cal lc.c (x0.tuple,()) λc1=>
   .ite (!c1) (.ret (true,()))<|
   .cal fT.c (x0.s,()) λc2=>
   .ite (!c2) (.ret (true,()))<|
   .cal lY.c (x0.r,()) λc3=>
   .ite (!c3) (.ret (true,()))<|
   .cal d9.c (x0.opts,()) λc4=>
   .ite (!c4) (.ret (true,()))<|
   .val (dz.f (x0.state,1,8,())) λc5=>
   .ite (!c5) (.ret (true,()))<|
   .val (dz.f (x0.window,0,x0.most,())) λc6=>
   .ite (!c6) (.ret (true,()))<|
   .ite (decide (1073725440<x0.most)) (.ret (true,()))<|
   .val (dz.f (x0.tries,0,3,())) λc7=>
   .ret ((!c7),()))) λ(u8a0,_)=>
  .ite u8a0 (.ret false)<|
  .bnd (β:=Bool×Int×Conn×Unit) (.as (λw=>ac w.2.2.1) (.ite (x0.state==7) (.ret (false,4,x0,()))<|
   .ret (false,3,x0,()))) λ(_,u9a1,u9a2,_)=>
  .val (dz.f (u9a2.timer,0,u9a1,())) λc10=>
  .ite (!c10) (.ret false)<|
  .ite (u9a2.state==8) (.ret true)<|
  .bnd (β:=Bool×Unit) (.ite (u9a2.state==3) (.ret (true,()))<|
   .ret ((u9a2.state==7),())) λ(u11a0,_)=>
  .bnd (β:=Bool×Unit) (.ite (u9a2.state==4) (.ret (true,()))<|
   .ret ((decide (5≤u9a2.state)),())) λ(u12a0,_)=>
  .val (D2.f (u9a2.state,())) λc13=>
  .ite (u9a2.s.fin==c13) (.ite (u9a2.s.done==u11a0) (.ret (u9a2.r.done==u12a0))<|
   .ret false)<|
  .ret false
noncomputable def tj:=dI st PP OV [] (ks:=[.st .conn]) pd rB Tryz.func320 trivial
noncomputable def fF:FX (Recv×Int×Unit) (Int) (λ_=>True) (bC [.st .recv,.sc (.int .i64)]):=⟨λ(x0,x1,_)=>
  .ite (decide ((IntKind.wrap .i64 (x1-(x0.data.length:Int)))<0)) (.ret (-1))<|
  .cal kB.c (x0.held,(IntKind.wrap .i64 (x1-(x0.data.length:Int))),()) λc1=>
  .ite (decide (c1<0)) (.ret (-1))<|
  .ret c1,
 λ(x0,x1,_) hp hf=>by
  simp only[bC,Pk.fact,fX,eK,Fl.fact,Ty.fl,Ty.toH]at hf
  refine Tr.I (λ_=>Tr.R trivial) λ_=>Tr.C trivial λ_ _ _=>Tr.F (by kernel_rfl) trivial⟩
theorem JG (x:Recv)(k:Int)(h0:0≤k)(h1:k≤1048576)(hd:x.data.length≤4611686018427387904)(hl:x.held.length≤140737488355328)(he:HR .piec x.held)(h:0≤fF.f (x,k,())):fF.f (x,k,())≤k∧x.data.length≤1048576∧x.held.length≤1048576∧cU bq x.held:=by
 have w:IntKind.wrap .i64 (k-(x.data.length:Int))=k-(x.data.length:Int):=au (by omega) (by omega)
 have e:fF.f (x,k,())=(bif decide (k-(x.data.length:Int)<0)then-1 else(bif decide (kB.f (x.held,k-(x.data.length:Int),())<0)then-1 else kB.f (x.held,k-(x.data.length:Int),()))):=by simp only[FX.f,PX,fF,w]
 rw[e]at h⊢
 obtain⟨p0,e0⟩:=nP h
 rw[e0]at h⊢
 obtain⟨p1,e1⟩:=nP h
 rw[e1]at h⊢
 have b:=Pr x.held _ p0 (by omega) hl he p1
 exact⟨by omega,by omega,b.2.1,b.2.2⟩
noncomputable def GC:=uh st Tryz.func346 [KT] (ks:=[.st .recv,.sc (.int .i64)]) fF rI
noncomputable def oC:FT (Recv×Unit) (Recv) (λx=>am x.1) (λx v=>am v):= .mk λ(x0,_)=>
  .cal tN.c (x0.held,()) λc1=>
  .ret ({x0 with held:=c1}:Recv)
noncomputable def Ec:=bh aq Tryz.func348 [JU] (ks:=[.st .recv]) oC (λv=>[(true,yz (.o true) v)])
noncomputable def EY:=[pZ,ml,uV,sO,J9]
noncomputable def ET:Fx:=⟨356,Tryz.f356,[(3000004,rA 0 4)],0⟩
noncomputable def oO:FT (Conn×Segm×Unit) (Bool) (λx=>ac x.1∧ah x.2.1) (λ_ _=>True):= .mk λ(x0,x1,_)=>
  .cal gX.c (x1,()) λc1=>
  .cal jp.c (x0.r,()) λc2=>
  .ite (c1==0) (.bnd (β:=Bool×Unit) (.val (oY.f (x1.seq,x0.r.next,())) λc3=>
    .ite (c3==0) (.ret (true,()))<|
    .val (mJ.f (x1.seq,x0.r.next,c2,())) λc4=>
    .ret (c4,())) λ(u5a0,_)=>
   .ret u5a0)<|
  .cal tv.c (x1.seq,c1,x0.r.next,c2,()) λc6=>
  .ret c6
noncomputable def EK:=dI st ET EY [] (ks:=[.st .conn,.st .segm]) oO rB Tryz.func356 trivial
noncomputable def Q4:=[uV,oK,mt,dZ,fQ]
def HH:An:=⟨⟨[],[],false,0⟩,⟨[2,4,5,6,7],[],false,0⟩,⟨[],[]⟩,[(.normal,⟨[zp 2 0,zp 4 1,zb 5,zi 6,zp 7 2],[zx .sndr,zx .sndr,zx .sndr]⟩)]⟩
noncomputable def Ri:Fx:=⟨359,Tryz.f359,[(1000032,HH),(3000002,rA 0 21)],0⟩
noncomputable def DK:FT (Sndr×Int×Unit) (Sndr×Bool) (λx=>cI x.1) (λx v=>cI v.1):= .mk λ(x0,x1,_)=>
  .val (oY.f (x1,x0.una,())) λc1=>
  .bnd (β:=Bool×Unit) (.as (λw=>(w.1=false→SO x0)∧(w.1=false→0≤c1∧c1≤x0.sent+1)) (.cal fT.c (x0,()) λc2=>
   .ite (!c2) (.ret (true,()))<|
   .cal jm.c (x0,()) λc3=>
   .val (dz.f (c1,0,c3,())) λc4=>
   .ret ((!c4),()))) λ(u5a0,_)=>
  .ite u5a0 (.ret (x0,false))<|
  .val (cd.f (x0.una,c1,())) λc6=>
  .bnd (β:=Bool×Int×Sndr×Sndr×Sndr×Unit) (.as (λw=>cI w.2.2.1∧cI w.2.2.2.1∧cI w.2.2.2.2.1∧0≤w.2.1∧w.2.1≤x0.data.length∧w.2.2.1=x0) (.ite (decide (x0.sent<c1)) (.ret (false,x0.sent,x0,(⟨0,[],0,false,false,false⟩:Sndr),({x0 with una:=c6,finSent:=false,done:=true}:Sndr),()))<|
   .ret (false,c1,x0,(⟨0,[],0,false,false,false⟩:Sndr),({x0 with una:=c6}:Sndr),()))) λ(_,u7a1,u7a2,_,u7a4,_)=>
  .grd (SC u7a2.data u7a1 (u7a2.data.length:Int))<|
  .ret (({u7a4 with data:=((u7a2.data.take ((u7a2.data.length:Int).toNat)).drop u7a1.toNat),sent:=(IntKind.wrap .i64 (u7a2.sent-u7a1))}:Sndr),true)
noncomputable def Rt:=dI st Ri Q4 [] (ks:=[.st .sndr,.sc (.int .i64)]) DK (λv=>[(true,Ev v.1),(false,[.c (.bool v.2)])]) Tryz.func359 trivial
noncomputable def uK:=[CF,vR,ml,Kx,fQ,mT,Nd,HN]
def lj:Sh:=⟨[zi 1,zs 2,zb 3,zp 4 0,zp 8 1,zp 9 2,zi 10,zo 11 3,zi 12],[zg .recv,.box [.st .recv [.nil .piec]],zk .recv 4,za .i64,zf]⟩
def lL:Sh:=⟨[zp 4 0,zp 8 1,zp 9 2,zo 11 3,zi 15,zo 16 4],[zg .recv,.box [.st .recv [.nil .piec]],zk .recv 5,za .i64,za .u8,zf]⟩
def t7:An:=⟨⟨[],[],false,0⟩,⟨[4,8,9,11],[],false,0⟩,⟨[],[]⟩,[(.normal,⟨[zp 4 0,zp 8 1,zp 9 2,zo 11 3],[zg .recv,.box [.st .recv [.nil .piec]],zk .recv 4,za .i64,zf]⟩)]⟩
def m7:An:=⟨⟨[],[],false,0⟩,⟨[4,8,9],[],false,0⟩,⟨[],[]⟩,[(.normal,⟨[zp 4 0,zp 8 1,zp 9 2],[zg .recv,.box [.st .recv [.nil .piec]],zk .recv 3,zf]⟩)]⟩
noncomputable def vy:Fx:=⟨361,Tryz.f361,[(0,lb [1,2,3,4,8,9,10,11,12] [1,2,3,4,8,9,10,11]),(2,lb [4,8,9,11,15,16] [4,8,9,11,15,16]),(1000095,t7),(1000137,m7),(3000002,rA 0 25),(3000010,rA 0 64),(3000013,rA 0 95)],0⟩
noncomputable def pJ (v0:Int)(v1:aA)(v3:Int)(v5:Recv)(v4:Int)(a:Recv×List Int):Tr (Stp (Recv×List Int) (Empty)):=
 .val (cd.f (v0,v4,())) λc6=>
 .val (cE.f ((IntKind.wrap .i64 (c6-v5.next)),())) λc7=>
 .bnd (β:=Bool×Unit) (.ite (decide (c7<v3)) (.ite (decide (v5.fin<0)) (.grd (aY a.2 c7)<|
    .ret ((decide ((a.2.getD c7.toNat 0)<0)),()))<|
   .ite (decide (c7<v5.fin)) (.grd (aY a.2 c7)<|
    .ret ((decide ((a.2.getD c7.toNat 0)<0)),()))<|
   .ret (false,()))<|
  .ret (false,())) λ(u8a0,_)=>
 .ite u8a0 (.grd (aY v1 v4)<|
  .grd (aY a.2 c7)<|
  .ret (.next (({a.1 with held:=[]}:Recv),(a.2.set c7.toNat (IntKind.wrap .i64 (ce v1 v4.toNat))))))<|
 .ret (.next (({a.1 with held:=[]}:Recv),a.2))
noncomputable def eQ:lj.V→yQ lj (Recv×List Int):=λ(v0,v1,v2,v3,v4,v5,v6,v7,v8,_)=>⟨v4,(v6,v8),λv4 a=>(v0,v1,v2,v3,v4,v5,a.1,v7,a.2,()),λv4 _=>(decide (v4<(v1.length:Int))),pJ v0 v1 v3 v5,up,1,(Int.toNat ((v1.length:Int)-v4)),Empty.elim,Prod.mk,oN (.exit 0) ⟨[zi 1,zs 2,zb 3,zp 4 0,zp 8 1,zp 9 2,zi 10,zo 11 3],[zg .recv,.box [.st .recv [.nil .piec]],zk .recv 4,za .i64,zf]⟩ (λx=>(v0,v1,v2,v3,v5,({x.2.1 with held:=[]}:Recv),v7,x.2.2,()))⟩
theorem E5:LS Tryz.prog vy [0] (kf 0 lj eQ):=fe st (aR uK) _ eQ [] trivial
theorem Es {v0 v3 v4:Int}{v1:aA}{v2:Bool}{v5 v6 v7:Recv}{v8:List Int}(h0:0≤v4)(h1:(v1.length:Int)≤4611686018427387904)(h2:v3≤32)(h3:sS v1)(h4:am v5)(h5:sS v8)(h6:am v6∧v8.length=v8.length∧v8.length=33):(eQ (v0,v1,v2,v3,v4,v5,v6,v7,v8,())).U (v1.length:Int) (λv4 a=>am a.1∧a.2.length=v8.length∧a.2.length=33) (λ_=>True):=
 mw (a:=(v6,v8)) h0 h1 h6
noncomputable def i4 (v4:List Int)(v0:Int)(a:Recv×List Int):Tr (Stp (Recv×List Int) ((Int×Recv×List Int))):=
 .grd (aY v4 v0)<|
 .ite (decide (0≤(v4.getD v0.toNat 0))) (.grd (aY v4 v0)<|
  .grd (GN a.2 1 1)<|
  .ret (.next (({a.1 with held:=[]}:Recv),(a.2++[(IntKind.wrap .u8 (v4.getD v0.toNat 0))]))))<|
 .ret (.out (v0,({a.1 with held:=[]}:Recv),a.2))
noncomputable def d6:lL.V→oi lL (Recv×List Int) (Int×Recv×List Int):=λ(v0,v1,v2,v3,v4,v5,_)=>⟨v0,(v2,v5),λv0 a=>(v0,v1,a.1,v3,v4,a.2,()),λv0 _=>(decide (v0<(v4.length:Int))),i4 v4,up,1,(Int.toNat ((v4.length:Int)-v0)),.inl,eR,oB (.exit 2) ⟨[zp 4 0,zp 8 1,zp 9 2,zo 11 3,zi 15,zo 16 4],[zg .recv,.box [.st .recv [.nil .piec]],zk .recv 5,za .i64,za .u8,zf]⟩ (λp=>(p.1,v1,p.2.1,v3,v4,p.2.2,())) (.exit 2) ⟨[zp 4 0,zp 8 1,zp 9 2,zo 11 3,zi 15,zo 16 4],[zg .recv,.box [.st .recv [.nil .piec]],zk .recv 5,za .i64,za .u8,zf]⟩ (λx=>(x.1,v1,({x.2.1 with held:=[]}:Recv),v3,v4,x.2.2,()))⟩
theorem Fv:LS Tryz.prog vy [1] (kf 2 lL d6):=fe st (aR uK) _ d6 [] trivial
theorem Gx {v0:Int}{v1 v2 v3:Recv}{v4 v5:List Int}(h0:0≤v0)(h1:(v4.length:Int)≤4611686018427387904)(h2:sS v4)(h3:am v2∧(v5.length:Int)=v0):(d6 (v0,v1,v2,v3,v4,v5,())).U (v4.length:Int) (λv0 a=>am a.1∧(a.2.length:Int)=v0) (λp=>am p.2.1∧sS p.2.2∧v0≤p.1∧p.1<(v4.length:Int)∧p.2.2.length≤v4.length):=
 mw (a:=(v2,v5)) h0 h1 h3
noncomputable def su:FT (Recv×Int×aA×Bool×Unit) (Recv) (λx=>am x.1∧sS x.2.2.1) (λx v=>am v∧(v.held.length:Int)≤max x.1.held.length 3):=⟨λ(x0,x1,x2,x3,_)=>
  .cal dN.c (x0,()) λc1=>
  .bnd (β:=Bool×Unit) (.cal lY.c (x0,()) λc2=>
   .ite (!c2) (.ret (true,()))<|
   .ret (x0.done,())) λ(u3a0,_)=>
  .ite u3a0 (.ret c1)<|
  .cal jp.c (x0,()) λc4=>
  .cal th.c (x0,()) λc5=>
  .lp (eQ (x1,x2,x3,c4,0,x0,(⟨0,[],[],0,false⟩:Recv),c1,c5,())).lp λ(_,a9_0,a9_1)=>
  .val (cd.f (x1,(x2.length:Int),())) λc10=>
  .val (cE.f ((IntKind.wrap .i64 (c10-x0.next)),())) λc11=>
  .bnd (β:=Bool×Unit) (.ite x3 (.ite (decide (x0.fin<0)) (.ite (decide (c11≤c4)) (.cal rK.c (a9_1,c11,()) λc12=>
      .ret (c12,()))<|
     .ret (false,()))<|
    .ret (false,()))<|
   .ret (false,())) λ(u13a0,_)=>
  .bnd (β:=WT t7.es) (.ite u13a0 (.ret (x0,({({a9_0 with held:=[]}:Recv)with held:=[]}:Recv),({c1 with fin:=c11}:Recv),a9_1,()))<|
   .ret (x0,({({a9_0 with held:=[]}:Recv)with held:=[]}:Recv),c1,a9_1,())) λ(u14a0,u14a1,u14a2,u14a3,_)=>
  .lp (d6 (0,u14a0,({u14a1 with held:=[]}:Recv),u14a2,u14a3,[],())).lp λw15=> .sum w15 (λ(p15a0,p15a1,p15a2)=>
  .grd (Nat.ble (u14a0.data.length+(ay p15a2).length) dF)<|
  .val (cd.f (u14a0.next,p15a0,())) λc16=>
  .cal nL.c (u14a3,p15a0,()) λc17=>
  .bnd (β:=WT m7.es) (.ite (decide (0≤u14a2.fin)) (.ret (u14a0,({p15a1 with held:=[]}:Recv),(⟨c16,(u14a0.data++(ay p15a2)),c17,(IntKind.wrap .i64 (u14a2.fin-p15a0)),u14a2.done⟩:Recv),()))<|
   .ret (u14a0,({p15a1 with held:=[]}:Recv),(⟨c16,(u14a0.data++(ay p15a2)),c17,u14a2.fin,u14a2.done⟩:Recv),())) λ(u18a0,_,u18a2,_)=>
  .ite (u18a2.fin==0) (.val (cd.f (u18a2.next,1,())) λc19=>
   .ite (decide (3<(u18a2.held.length:Int))) (.cal dN.c (u18a0,()) λc20=>
    .ret c20)<|
   .ret (⟨c19,u18a2.data,u18a2.held,(-1),true⟩:Recv))<|
  .ite (decide (3<(u18a2.held.length:Int))) (.cal dN.c (u18a0,()) λc21=>
   .ret c21)<|
  .ret u18a2)<|
  λ(n15,a15_0,a15_1)=>
  .grd (Nat.ble (u14a0.data.length+(ay a15_1).length) dF)<|
  .val (cd.f (u14a0.next,n15,())) λc22=>
  .cal nL.c (u14a3,n15,()) λc23=>
  .bnd (β:=WT m7.es) (.ite (decide (0≤u14a2.fin)) (.ret (u14a0,({({a15_0 with held:=[]}:Recv)with held:=[]}:Recv),(⟨c22,(u14a0.data++(ay a15_1)),c23,(IntKind.wrap .i64 (u14a2.fin-n15)),u14a2.done⟩:Recv),()))<|
   .ret (u14a0,({({a15_0 with held:=[]}:Recv)with held:=[]}:Recv),(⟨c22,(u14a0.data++(ay a15_1)),c23,u14a2.fin,u14a2.done⟩:Recv),())) λ(u24a0,_,u24a2,_)=>
  .ite (u24a2.fin==0) (.val (cd.f (u24a2.next,1,())) λc25=>
   .ite (decide (3<(u24a2.held.length:Int))) (.cal dN.c (u24a0,()) λc26=>
    .ret c26)<|
   .ret (⟨c25,u24a2.data,u24a2.held,(-1),true⟩:Recv))<|
  .ite (decide (3<(u24a2.held.length:Int))) (.cal dN.c (u24a0,()) λc27=>
   .ret c27)<|
  .ret u24a2,
 λ(x0,x1,x2,x3,_) hp=>by
  refine Tr.C ?_ λc1 hc1 qc1=>Tr.B (Q':=λw=>(w.1=false→RO x0)) (Tr.C ?_ λc2 hc2 qc2=>Tr.I (λb0=>Tr.R ?_) λb0=>Tr.R ?_) (λ(u3a0,_) hj3 qj3=>Tr.I (λb0=>Tr.R ?_) λb0=>Tr.C ?_ λc4 hc4 qc4=>Tr.C ?_ λc5 hc5 qc5=>Tr.L (Es ?_ ?_ ?_ ?_ ?_ ?_ ?_) (λ(a9_0,a9_1) i9=>Tr.V λc10 hc10=>Tr.V λc11 hc11=>Tr.B (Q':=λ_=>True) (Tr.I (λb1=>Tr.I (λb2=>Tr.I (λb3=>Tr.C ?_ λc12 hc12 qc12=>Tr.R trivial) λb3=>Tr.R trivial) λb2=>Tr.R trivial) λb1=>Tr.R trivial) (λ(u13a0,_) hj13 qj13=>Tr.B (Q':=λw=>am w.1∧am w.2.1∧am w.2.2.1∧sS w.2.2.2.1∧w.1=x0∧w.2.2.2.1.length=33∧w.1.data.length≤32) (Tr.I (λb1=>Tr.R ?_) λb1=>Tr.R ?_) (λ(u14a0,u14a1,u14a2,u14a3,_) hj14 qj14=>Tr.L (Gx ?_ ?_ ?_ ?_) (λ(a15_0,a15_1) i15=>Tr.Sr (Tr.Gb ?_ λg1=>Tr.V λc22 hc22=>Tr.C ?_ λc23 hc23 qc23=>Tr.B (Q':=λw=>am w.1∧am w.2.1∧am w.2.2.1∧w.1=x0) (Tr.I (λb2=>Tr.R ?_) λb2=>Tr.R ?_) (λ(u24a0,u24a1,u24a2,_) hj24 qj24=>Tr.I (λb2=>Tr.V λc25 hc25=>Tr.I (λb3=>Tr.C ?_ λc26 hc26 qc26=>Tr.R ?_) λb3=>Tr.R ?_) λb2=>Tr.I (λb3=>Tr.C ?_ λc27 hc27 qc27=>Tr.R ?_) λb3=>Tr.R ?_))) (λ(p15a0,p15a1,p15a2) hp15=>Tr.Sl (Tr.Gb ?_ λg1=>Tr.V λc16 hc16=>Tr.C ?_ λc17 hc17 qc17=>Tr.B (Q':=λw=>am w.1∧am w.2.1∧am w.2.2.1∧w.1=x0) (Tr.I (λb2=>Tr.R ?_) λb2=>Tr.R ?_) (λ(u18a0,u18a1,u18a2,_) hj18 qj18=>Tr.I (λb2=>Tr.V λc19 hc19=>Tr.I (λb3=>Tr.C ?_ λc20 hc20 qc20=>Tr.R ?_) λb3=>Tr.R ?_) λb2=>Tr.I (λb3=>Tr.C ?_ λc21 hc21 qc21=>Tr.R ?_) λb3=>Tr.R ?_)))))) (λp=>Empty.elim p))
  all_goals ((try simp only[eQ,d6,LC.lp,LC.ct,Ct.lp,Tr.nice,iq]at*)<;>grind)⟩
noncomputable def Mb:=dI st vy uK [(kf 0 lj eQ),(kf 2 lL d6)] (ks:=[.st .recv,.sc (.int .i64),.sc .str,.sc .bool]) su (λv=>[(true,yz (.o true) v)]) Tryz.func361 ⟨E5,Fv,trivial⟩
noncomputable def Qc:=[gC,JM,tj,dZ]
noncomputable def P5:Fx:=⟨362,Tryz.f362,[(3000003,rA 0 37)],0⟩
noncomputable def pS:FT (Conn×Unit) (Conn) (λx=>ac x.1) (λx v=>ac v):= .mk λ(x0,_)=>
  .cal fx.c (x0,()) λc1=>
  .cal ta.c (x0,()) λc2=>
  .bnd (β:=Bool×Unit) (.as (λw=>(w.1=false→SO ({x0 with state:=c2,timer:=0,tries:=0}:Conn).s∧RO ({x0 with state:=c2,timer:=0,tries:=0}:Conn).r)) (.cal pd.c (({x0 with state:=c2,timer:=0,tries:=0}:Conn),()) λc3=>
   .ite (!c3) (.ret (true,()))<|
   .val (dz.f (x0.timer,0,4,())) λc4=>
   .ite (!c4) (.ret (true,()))<|
   .val (dz.f (x0.tries,0,3,())) λc5=>
   .ret ((!c5),()))) λ(u6a0,_)=>
  .ite u6a0 (.cal fx.c (x0,()) λc7=>
   .ret c7)<|
  .ite (c2==x0.state) (.ret ({c1 with state:=c2}:Conn))<|
  .ite (c2==7) (.ite (c2==8) (.ret ({c1 with state:=c2,timer:=0,tries:=0}:Conn))<|
   .ret ({c1 with state:=c2,timer:=4,tries:=0}:Conn))<|
  .ite (c2==8) (.ret ({c1 with state:=c2,timer:=0,tries:=0}:Conn))<|
  .ret ({c1 with state:=c2}:Conn)
noncomputable def Qb:=dI st P5 Qc [] (ks:=[.st .conn]) pS (λv=>[(true,kJ (.o true) v)]) Tryz.func362 trivial
noncomputable def Hb:=[oK,Bi,oZ,mt,FY]
noncomputable def Hg:Fx:=⟨363,Tryz.f363,[(3000007,rA 0 79)],0⟩
noncomputable def qU:FT (Sndr×Int×Int×Unit) (Chun×Bool) (λx=>cI x.1) (λx v=>oJ v.1∧(v.2=true→SO x.1∧(v.1.text.length:Int)+x.1.sent≤x.1.data.length∧x.1.finSent=false∧(v.1.text=[]→v.1.fin=true)∧(v.1.fin=true→x.1.fin=true∧x.1.done=false∧x.1.sent+v.1.text.length=x.1.data.length))):=⟨λ(x0,x1,x2,_)=>
  .cal fT.c (x0,()) λc1=>
  .ite (!c1) (.ret ((⟨0,[],false⟩:Chun),false))<|
  .val (ne.f (x1,1000000,())) λc2=>
  .val (fL.f (0,c2,())) λc3=>
  .cal jm.c (x0,()) λc4=>
  .val (fL.f (0,(IntKind.wrap .i64 (c3-c4)),())) λc5=>
  .val (ne.f (x2,c5,())) λc6=>
  .val (ne.f (c6,(IntKind.wrap .i64 ((x0.data.length:Int)-x0.sent)),())) λc7=>
  .val (fL.f (0,c7,())) λc8=>
  .cal vS.c (x0,()) λc9=>
  .grd (SC x0.data x0.sent (IntKind.wrap .i64 (x0.sent+c8)))<|
  .val ((x0.data.take ((IntKind.wrap .i64 (x0.sent+c8)).toNat)).drop x0.sent.toNat) λe10=>
  .ite x0.fin (.ite (!x0.finSent) (.ite (!x0.done) (.ite ((IntKind.wrap .i64 (x0.sent+c8))==(x0.data.length:Int)) (.bnd (β:=Bool×Unit) (.ite (c8==0) (.ret ((!(decide (c8<c5))),()))<|
       .ret (false,())) λ(u11a0,_)=>
      .ite u11a0 (.ret ((⟨0,[],false⟩:Chun),false))<|
      .ret ((⟨c9,e10,(decide (c8<c5))⟩:Chun),true))<|
     .bnd (β:=Bool×Unit) (.ite (c8==0) (.ret (true,()))<|
      .ret (false,())) λ(u12a0,_)=>
     .ite u12a0 (.ret ((⟨0,[],false⟩:Chun),false))<|
     .ret ((⟨c9,e10,false⟩:Chun),true))<|
    .bnd (β:=Bool×Unit) (.ite (c8==0) (.ret (true,()))<|
     .ret (false,())) λ(u13a0,_)=>
    .ite u13a0 (.ret ((⟨0,[],false⟩:Chun),false))<|
    .ret ((⟨c9,e10,false⟩:Chun),true))<|
   .bnd (β:=Bool×Unit) (.ite (c8==0) (.ret (true,()))<|
    .ret (false,())) λ(u14a0,_)=>
   .ite u14a0 (.ret ((⟨0,[],false⟩:Chun),false))<|
   .ret ((⟨c9,e10,false⟩:Chun),true))<|
  .bnd (β:=Bool×Unit) (.ite (c8==0) (.ret (true,()))<|
   .ret (false,())) λ(u15a0,_)=>
  .ite u15a0 (.ret ((⟨0,[],false⟩:Chun),false))<|
  .ret ((⟨c9,e10,false⟩:Chun),true),
 λ(x0,x1,x2,_) hp=>by
  refine Tr.C trivial λc1 hc1 qc1=>Tr.I (λb0=>Tr.R ?_) λb0=>Tr.V λc2 hc2=>Tr.V λc3 hc3=>Tr.C ?_ λc4 hc4 qc4=>Tr.V λc5 hc5=>Tr.V λc6 hc6=>Tr.V λc7 hc7=>Tr.V λc8 hc8=>Tr.C ?_ λc9 hc9 qc9=>Tr.G3 ?_ λg1=>Tr.V λe10 he10=>Tr.I (λb2=>Tr.I (λb3=>Tr.I (λb4=>Tr.I (λb5=>Tr.B (Q':=λ_=>True) (Tr.F (by kernel_rfl) trivial) (λ(u11a0,_) hj11 qj11=>Tr.I (λb6=>Tr.R ?_) λb6=>Tr.R ?_)) λb5=>Tr.B (Q':=λ_=>True) (Tr.F (by kernel_rfl) trivial) (λ(u12a0,_) hj12 qj12=>Tr.I (λb6=>Tr.R ?_) λb6=>Tr.R ?_)) λb4=>Tr.B (Q':=λ_=>True) (Tr.F (by kernel_rfl) trivial) (λ(u13a0,_) hj13 qj13=>Tr.I (λb5=>Tr.R ?_) λb5=>Tr.R ?_)) λb3=>Tr.B (Q':=λ_=>True) (Tr.F (by kernel_rfl) trivial) (λ(u14a0,_) hj14 qj14=>Tr.I (λb4=>Tr.R ?_) λb4=>Tr.R ?_)) λb2=>Tr.B (Q':=λ_=>True) (Tr.F (by kernel_rfl) trivial) (λ(u15a0,_) hj15 qj15=>Tr.I (λb3=>Tr.R ?_) λb3=>Tr.R ?_)
  all_goals ((try simp only[Tr.nice,iq]at*)<;>(first|grind|(have hs:SO x0:=(by grind);have h7:c7≤(x0.data.length:Int)-x0.sent:=(by rw[hc7,sH,au (by grind) (by grind)];split<;>omega);have h8:0≤c8∧c8≤(x0.data.length:Int)-x0.sent:=(by rw[hc8,pf];have:=hs.2.2.2.2.1;split<;>omega);clear hc7 hc8 hc4 hc2 hc3 hc6 hc5;grind)))⟩
noncomputable def GP:=dI st Hg Hb [] (ks:=[.st .sndr,.sc (.int .i64),.sc (.int .i64)]) qU (λv=>[(true,TZ v.1),(false,[.c (.bool v.2)])]) Tryz.func363 trivial
noncomputable def mG:FT (Sndr×Chun×Unit) (Sndr) (λx=>cI x.1∧oJ x.2.1) (λx v=>cI v∧(SO x.1→(x.2.1.text.length:Int)+x.1.sent≤x.1.data.length→x.1.finSent=false→(x.2.1.fin=true→x.1.fin=true∧x.1.done=false∧x.1.sent+x.2.1.text.length=x.1.data.length)→v={x.1 with sent:=x.1.sent+x.2.1.text.length,finSent:=x.2.1.fin})):= .mk λ(x0,x1,_)=>
  .ite x0.finSent (.cal fT.c (x0,()) λc1=>
   .ite (!c1) (.ret x0)<|
   .cal fT.c (({x0 with sent:=(IntKind.wrap .i64 (x0.sent+(x1.text.length:Int))),finSent:=true}:Sndr),()) λc2=>
   .ite (!c2) (.ret x0)<|
   .ite x1.fin (.ite x0.done (.ret x0)<|
    .ret ({x0 with sent:=(IntKind.wrap .i64 (x0.sent+(x1.text.length:Int))),finSent:=true}:Sndr))<|
   .ret ({x0 with sent:=(IntKind.wrap .i64 (x0.sent+(x1.text.length:Int))),finSent:=true}:Sndr))<|
  .cal fT.c (x0,()) λc3=>
  .ite (!c3) (.ret x0)<|
  .cal fT.c (({x0 with sent:=(IntKind.wrap .i64 (x0.sent+(x1.text.length:Int))),finSent:=x1.fin}:Sndr),()) λc4=>
  .ite (!c4) (.ret x0)<|
  .ite x1.fin (.ite x0.done (.ret x0)<|
   .ret ({x0 with sent:=(IntKind.wrap .i64 (x0.sent+(x1.text.length:Int))),finSent:=x1.fin}:Sndr))<|
  .ret ({x0 with sent:=(IntKind.wrap .i64 (x0.sent+(x1.text.length:Int))),finSent:=x1.fin}:Sndr)
noncomputable def Lb:=bh st Tryz.func365 [oK] (ks:=[.st .sndr,.st .chun]) mG (λv=>[(true,Ev v)])
noncomputable def rF:FT (Sipr×Int×Unit) (Sipr) (λ_=>True) (λ_ _=>True):= .mk λ(x0,x1,_)=>
  .cal gS.c (({x0 with d:=(bits .xor .u64 x0.d x1)}:Sipr),()) λc1=>
  .cal gS.c (c1,()) λc2=>
  .ret ({c2 with a:=(bits .xor .u64 c2.a x1)}:Sipr)
noncomputable def Nn:=bh st Tryz.func392 [AC] (ks:=[.st .sipr,.sc (.int .u64)]) rF (λv=>[(true,BQ v)])
noncomputable def zz:FT (Sipr×Unit) (Int) (λ_=>True) (λ_ _=>True):= .mk λ(x0,_)=>
  .cal gS.c (({x0 with c:=(bits .xor .u64 x0.c 255)}:Sipr),()) λc1=>
  .cal gS.c (c1,()) λc2=>
  .cal gS.c (c2,()) λc3=>
  .cal gS.c (c3,()) λc4=>
  .ret (bits .xor .u64 (bits .xor .u64 (bits .xor .u64 c4.a c4.b) c4.c) c4.d)
noncomputable def O6:=bh st Tryz.func394 [AC] (ks:=[.st .sipr]) zz (λv=>[(false,[.c (.int .u64 v)])])
noncomputable def rq:FT (Sipr×Int×Unit) (Sipr) (λ_=>True) (λ_ _=>True):= .mk λ(x0,x1,_)=>
  .cal jt.c (({x0 with d:=(bits .xor .u64 x0.d x1)}:Sipr),()) λc1=>
  .cal jt.c (c1,()) λc2=>
  .ret ({c2 with a:=(bits .xor .u64 c2.a x1)}:Sipr)
noncomputable def NS:=bh aq Tryz.func396 [AE] (ks:=[.st .sipr,.sc (.int .u64)]) rq (λv=>[(true,BQ v)])
def xR:Sh:=⟨[zp 1 0,zi 7],[zx .sipr]⟩
noncomputable def rb (v0:Int)(a:Sipr):Tr (Stp (Sipr) (Empty)):=
 .cal jt.c (a,()) λc1=>
 .ret (.next c1)
noncomputable def jX:xR.V→yQ xR Sipr:=λ(v0,v1,_)=>⟨v0,v1,λv0 a=>(v0,a,()),λv0 _=>(decide (v0<4)),rb,up,1,(Int.toNat (4-v0)),Empty.elim,Prod.mk,oN (.exit 0) ⟨[zp 1 0,zu 2],[zx .sipr]⟩ (λx=>(x.2,()))⟩
theorem GY {v0:Int}{v1:Sipr}(h0:0≤v0):(jX (v0,v1,())).U 4 (λ_ _=>True) (λ_=>True):=
 mw (a:=v1) h0 (by decide) trivial
noncomputable def sx:FT (Sipr×Unit) (Int) (λ_=>True) (λ_ _=>True):= .mk (λ(x0,_)=>
  .lp (jX (0,({x0 with c:=(bits .xor .u64 x0.c 255)}:Sipr),())).lp λ(_,a2_0)=>
  .val (bits .xor .u64 (bits .xor .u64 (bits .xor .u64 a2_0.a a2_0.b) a2_0.c) a2_0.d) λe3=>
  .ret e3) (ql @GY)
noncomputable def O5:=eC aq Tryz.func398 [(0,lb [1,7] [1,2])] [AE] 0 jX (ks:=[.st .sipr]) sx (λv=>[(false,[.c (.int .u64 v)])])
noncomputable def tq:FT (Half×Tupl×Unit) (Bool) (λ_=>True) (λ_ _=>True):= .mk λ(x0,y1,_)=>
  .ret ((x0.tuple.ip==y1.ip)&&((x0.tuple.port==y1.port)&&((x0.tuple.my==y1.my)&&true)))
noncomputable def Ed:=n7 aq ⟨213,Tryz.f213,[],1⟩ [] [] [.st .half,.wr false [.ptr 0]] [.box [.st .tupl]] (λx y=>(x.1,y.1.1,())) tq rB (λx y v=>((y.1.1,()),())) Tryz.func213 (by kernel_rfl) trivial
noncomputable def tM:FT (Conn×Tupl×Unit) (Bool) (λ_=>True) (λ_ _=>True):= .mk λ(x0,y1,_)=>
  .ret ((x0.tuple.ip==y1.ip)&&((x0.tuple.port==y1.port)&&((x0.tuple.my==y1.my)&&true)))
noncomputable def Ej:=n7 aq ⟨215,Tryz.f215,[],1⟩ [] [] [.st .conn,.wr false [.ptr 0]] [.box [.st .tupl]] (λx y=>(x.1,y.1.1,())) tM rB (λx y v=>((y.1.1,()),())) Tryz.func215 (by kernel_rfl) trivial
noncomputable def fS:FT (Int×Int×List Bool×List Int×Unit) (List Bool×List Int) (λx=>sS x.2.2.1∧sS x.2.2.2.1∧0≤x.1∧x.1<x.2.2.1.length∧x.2.2.1.length=x.2.2.2.1.length) (λx v=>sS v.1∧sS v.2∧v.1.length=x.2.2.1.length∧v.2.length=x.2.2.2.1.length):= .mk λ(x0,x1,y2,y3,_)=>
  .grd (aY y2 x0)<|
  .ite (!(y2.getD x0.toNat false)) (.grd (aY y2 x0)<|
   .grd (aY y3 x0)<|
   .ret ((y2.set x0.toNat true),(y3.set x0.toNat x1)))<|
  .ret (y2,y3)
noncomputable def Dd:=n7 aq ⟨371,Tryz.f371,[],4⟩ [] [] [.sc (.int .i64),.sc (.int .u8),.wr false [.ptr 1],.wr false [.ptr 3]] [.arr .bool,.box [.own 0],.arr .u8,.box [.own 2]] (λx y=>(x.1,x.2.1,y.1,y.2.2.1,())) fS (λv=>[]) (λx y v=>(v.1,(()),v.2,(()),())) Tryz.func371 (by kernel_rfl) trivial
noncomputable def pE:FT (Conn×Conn×Unit) (Bool) (λx=>ac x.1∧ac x.2.1) (λ_ _=>True):= .mk λ(x0,x1,_)=>
  .val (pa.f (x0.tuple,x1.tuple,())) λc1=>
  .ite (!c1) (.ret false)<|
  .ite (x0.state != x1.state) (.ret false)<|
  .val (tn.f (x0.s,x1.s,())) λc2=>
  .ite (!c2) (.ret false)<|
  .cal oE.c (x0.r,x1.r,()) λc3=>
  .ite (!c3) (.ret false)<|
  .ite (x0.window != x1.window) (.ret false)<|
  .ite (x0.most != x1.most) (.ret false)<|
  .val (kR.f (x0.opts,x1.opts,())) λc4=>
  .ite (!c4) (.ret false)<|
  .ite (x0.timer != x1.timer) (.ret false)<|
  .ite (x0.tries != x1.tries) (.ret false)<|
  .ret true
noncomputable def Gp:=bh st Tryz.func57 [u6,KN,Gz,rl] (ks:=[.st .conn,.st .conn]) pE rB
noncomputable def NX:=[Cs,xV,Iy,vi]
noncomputable def L7:Fx:=⟨67,Tryz.f67,[(3000002,rA 0 20)],0⟩
noncomputable def wv:FT (Keys×Mac×Unit) (Keys) (λx=>bT x.1∧aP x.2.1) (λx v=>bT v):= .mk λ(x0,x1,_)=>
  .cal r9.c (x0,()) λc1=>
  .bnd (β:=Bool×Unit) (.as (λw=>(w.1=false→0≤x0.epoch∧x0.epoch≤4294967295∧x1.rows.length≤64)) (.cal rL.c (x0,()) λc2=>
   .ite (!c2) (.ret (true,()))<|
   .cal wB.c (x1,()) λc3=>
   .ite (!c3) (.ret (true,()))<|
   .ret ((x0.epoch==4294967295),()))) λ(u4a0,_)=>
  .ite u4a0 (.ret c1)<|
  .cal ju.c (x1,()) λc5=>
  .cal ju.c (x0.now,()) λc6=>
  .ret (⟨(IntKind.wrap .i64 (x0.epoch+1)),c5,c6,true⟩:Keys)
noncomputable def MN:=dI st L7 NX [] (ks:=[.st .keys,.st .mac]) wv (λv=>[(true,Gv (.o true) (.o true) v)]) Tryz.func67 trivial
noncomputable def d7:FT (Door×Unit) (Door) (λx=>ai x.1) (λx v=>ai v∧v.table.conns.length=x.1.table.conns.length∧v.table.waiting.length=x.1.table.waiting.length∧v.halves=x.1.halves):= .mk λ(x0,_)=>
  .cal nJ.c (x0.keys,()) λc1=>
  .cal dQ.c (x0.halves,()) λc2=>
  .cal gQ.c (x0.table,()) λc3=>
  .ret (⟨x0.port,x0.clock,c1,x0.limits,c2,c3,x0.chal⟩:Door)
noncomputable def j7:=bh aq Tryz.func73 [xS,pF,pP] (ks:=[.st .door]) d7 (λv=>[(true,jW (.o true) (.o true) (.o true) .d (.o true) v)])
noncomputable def N4:=[zn]
noncomputable def Ny:Fx:=⟨105,Tryz.f105,[(3000003,rA 0 27)],0⟩
noncomputable def wU:FT (List Half×Half×Int×Unit) (List Half×Bool) (λx=>sS x.1) (λx v=>sS v.1∧(v.1.length:Int)≤x.1.length+1):= .mk λ(x0,x1,x2,_)=>
  .grd (Nat.ble ((2*(0+x0.length)+1024)*96) aM)<|
  .grd (Nat.ble ((2*(0+x0.length)+1024)*96) aM)<|
  .grd (GN ([]++x0) 1 96)<|
  .bnd (β:=Bool×Unit) (.as (λw=>(w.1=false→(([]++x0)++[x1]).length≤64)) (.ite (decide (x2≤(x0.length:Int))) (.ret (true,()))<|
   .cal mF.c ((([]++x0)++[x1]),()) λc1=>
   .ret ((!c1),()))) λ(u2a0,_)=>
  .ite u2a0 (.ret (([]++x0),false))<|
  .ret ((([]++x0)++[x1]),true)
noncomputable def Nx:=dI st Ny N4 [] (ks:=[.sc (.sl .half),.st .half,.sc (.int .i64)]) wU (λv=>[(false,[sc (.o true) .half v.1]),(false,[.c (.bool v.2)])]) Tryz.func105 trivial
def vU:Sh:=⟨[zl 0 .conn,zl 1 .conn,zi 5],[]⟩
noncomputable def uO (v0 v1:List Conn)(v2:Int)(a:Unit):Tr (Stp (Unit) ((Unit))):=
 .grd (aY v0 v2)<|
 .grd (aY v1 v2)<|
 .cal pE.c ((v0.getD v2.toNat (Ty.zero .conn)),(v1.getD v2.toNat (Ty.zero .conn)),()) λc1=>
 .ite (!c1) (.ret (.out ()))<|
 .ret (.next ())
noncomputable def lF:vU.V→oi vU Unit (Unit):=λ(v0,v1,v2,_)=>⟨v2,(),λv2 _=>(v0,v1,v2,()),λv2 _=>(decide (v2<(v0.length:Int))),uO v0 v1,up,1,(Int.toNat ((v0.length:Int)-v2)),.inl,eR,oB .ret ⟨[zb 4],[]⟩ (λ_=>(false,())) (.exit 0) ⟨[zu 4],[]⟩ (λ_=>())⟩
theorem F1 {v0 v1:List Conn}{v2:Int}(h0:0≤v2)(h1:(v0.length:Int)≤4611686018427387904)(h2:sL ac v0)(h3:sL ac v1)(h4:(v0.length:Int)≤(v1.length:Int)):(lF (v0,v1,v2,())).U (v0.length:Int) (λ_ _=>True) (λ_=>True):=
 mw h0 h1 trivial
noncomputable def wR:FT (List Conn×List Conn×Unit) (Bool) (λx=>sL ac x.1∧sL ac x.2.1) (λ_ _=>True):= .mk (λ(x0,x1,_)=>
  .ite ((x0.length:Int) != (x1.length:Int)) (.ret false)<|
  .lp (lF (x0,x1,0,())).lp λw2=> .sum w2 (λ_=>
  .ret false)<|
  λ_=>
  .ret true) (ql @F1)
noncomputable def LT:=eC st Tryz.func182 [(0,lb [0,1,5] [4])] [Gp] 0 lF (ks:=[.sc (.sl .conn),.sc (.sl .conn)]) wR rB
noncomputable def LB:=[tH,nz,wJ,mf,sz,Ey,L1]
noncomputable def Nl:Fx:=⟨237,Tryz.f237,[(3000001,rA 0 17)],0⟩
noncomputable def rE:FT (Conn×Segm×Unit) (Int) (λx=>ac x.1∧ah x.2.1) (λ_ _=>True):= .mk λ(x0,x1,_)=>
  .bnd (β:=Bool×Unit) (.as (λw=>(w.1=false→SO x0.s∧RO x0.r∧x1.body.length≤1420)) (.cal bG.c (x0,()) λc1=>
   .ite (!c1) (.ret (true,()))<|
   .ite (x0.state==8) (.ret (true,()))<|
   .cal ae.c (x1,()) λc2=>
   .ret ((!c2),()))) λ(u3a0,_)=>
  .ite u3a0 (.ret 1)<|
  .val (bk.f (x1,4,())) λc4=>
  .ite c4 (.ite (x1.seq==x0.r.next) (.ret 2)<|
   .cal bQ.c (x0.r,()) λc5=>
   .val (nb.f (x1.seq,x0.r.next,c5,())) λc6=>
   .ite c6 (.ret 3)<|
   .ret 1)<|
  .val (bk.f (x1,2,())) λc7=>
  .ite c7 (.ret 3)<|
  .cal oD.c (x0,x1,()) λc8=>
  .ite (!c8) (.ret 4)<|
  .val (bk.f (x1,16,())) λc9=>
  .ite (!c9) (.ret 1)<|
  .cal we.c (x0,x1.ack,()) λc10=>
  .ite (!c10) (.ret 3)<|
  .ret 5
noncomputable def B5:=dI aq Nl LB [] (ks:=[.st .conn,.st .segm]) rE rI Tryz.func237 trivial
def Cb:Sh:=⟨[zi 1,zp 4 0,zp 6 1,zo 7 2],[.box [.st .conn [.nil .piec]],zk .conn 3,za .segm,zf]⟩
noncomputable def bN (v0:Int)(a:Conn×Conn×List Segm):Tr (Stp (Conn×Conn×List Segm) ((Conn×Conn×List Segm))):=
 .val (cT.f (a.2.1,())) λc4=>
 .cal aO.c (a.2.1.s,v0,c4,()) λc5=>
 .ite (!c5.2) (.ret (.out (({a.1 with r.held:=[]}:Conn),a.2.1,a.2.2)))<|
 .cal cp.c (a.2.1,()) λc6=>
 .ite (!(c5.1.text==[])) (.ite c5.1.fin (.grd (GN a.2.2 1 104)<|
   .val (a.2.2++[({c6 with seq:=c5.1.seq,flags:=(bits .or .i64 (bits .or .i64 c6.flags 8) 1),body:=c5.1.text}:Segm)]) λl7=>
   .cal cZ.c (a.2.1.s,c5.1,()) λc8=>
   .ret (.next (({a.1 with r.held:=[]}:Conn),({a.2.1 with s.una:=c8.una,s.data:=c8.data,s.sent:=c8.sent,s.fin:=c8.fin,s.finSent:=c8.finSent,s.done:=c8.done}:Conn),l7)))<|
  .grd (GN a.2.2 1 104)<|
  .val (a.2.2++[({c6 with seq:=c5.1.seq,flags:=(bits .or .i64 c6.flags 8),body:=c5.1.text}:Segm)]) λl9=>
  .cal cZ.c (a.2.1.s,c5.1,()) λc10=>
  .ret (.next (({a.1 with r.held:=[]}:Conn),({a.2.1 with s.una:=c10.una,s.data:=c10.data,s.sent:=c10.sent,s.fin:=c10.fin,s.finSent:=c10.finSent,s.done:=c10.done}:Conn),l9)))<|
 .ite c5.1.fin (.grd (GN a.2.2 1 104)<|
  .val (a.2.2++[({c6 with seq:=c5.1.seq,flags:=(bits .or .i64 c6.flags 1),body:=c5.1.text}:Segm)]) λl11=>
  .cal cZ.c (a.2.1.s,c5.1,()) λc12=>
  .ret (.next (({a.1 with r.held:=[]}:Conn),({a.2.1 with s.una:=c12.una,s.data:=c12.data,s.sent:=c12.sent,s.fin:=c12.fin,s.finSent:=c12.finSent,s.done:=c12.done}:Conn),l11)))<|
 .grd (GN a.2.2 1 104)<|
 .cal cZ.c (a.2.1.s,c5.1,()) λc13=>
 .ret (.next (({a.1 with r.held:=[]}:Conn),({a.2.1 with s.una:=c13.una,s.data:=c13.data,s.sent:=c13.sent,s.fin:=c13.fin,s.finSent:=c13.finSent,s.done:=c13.done}:Conn),(a.2.2++[({c6 with seq:=c5.1.seq,body:=c5.1.text}:Segm)])))
noncomputable def je:Cb.V→LW Cb (Conn×Conn×List Segm) ((Conn×Conn×List Segm)):=λ(v0,v1,v2,v3,_)=>⟨(v1,v2,v3),λa=>(v0,a.1,a.2.1,a.2.2,()),bN v0,DX v2.s,oN (.exit 0) ⟨[zp 4 0,zu 5,zp 6 1,zo 7 2],[.box [.st .conn [.nil .piec]],zk .conn 3,za .segm,zf]⟩ (λp=>(p.1,p.2.1,p.2.2,()))⟩
theorem LP {v0:Int}{v1 v2:Conn}{v3:List Segm}(h0:ac v1∧ac v2∧sL ah v3∧v3.length+DX v2.s≤49):(je (v0,v1,v2,v3,())).W (λp=>ac p.1∧ac p.2.1∧sL ah p.2.2∧p.2.2.length≤49):=
 LW.okW (a:=(v1,v2,v3)) (λa=>ac a.1∧ac a.2.1∧sL ah a.2.2∧a.2.2.length+DX a.2.1.s≤49) (λa=>DX a.2.1.s) rfl h0 λ(v1,v2,v3) hv=>by
  refine Tr.V λc4 hc4=>Tr.C ?_ λc5 hc5 qc5=>Tr.I (λb0=>Tr.Ro ?_) λb0=>Tr.C ?_ λc6 hc6 qc6=>Tr.I (λb1=>Tr.I (λb2=>Tr.Gb ?_ λg3=>Tr.V λl7 hl7=>Tr.C ?_ λc8 hc8 qc8=>Tr.Rn ?_) λb2=>Tr.Gb ?_ λg3=>Tr.V λl9 hl9=>Tr.C ?_ λc10 hc10 qc10=>Tr.Rn ?_) λb1=>Tr.I (λb2=>Tr.Gb ?_ λg3=>Tr.V λl11 hl11=>Tr.C ?_ λc12 hc12 qc12=>Tr.Rn ?_) λb2=>Tr.Gb ?_ λg3=>Tr.C ?_ λc13 hc13 qc13=>Tr.Rn ?_
  all_goals ((first|grind|(have tl:∀s:aA,s=[]∨0<s.length:=(λs=>by cases s<;>simp);grind)))
noncomputable def dT:FT (Conn×Int×Unit) (Conn×List Segm) (λx=>ac x.1) (λx v=>ac v.1∧sL ah v.2∧v.2.length≤49):= .mk (λ(x0,x1,_)=>
  .cal cV.c (x0,()) λc1=>
  .bnd (β:=Bool×Unit) (.as (λw=>(w.1=false→SO x0.s∧RO x0.r)) (.cal bG.c (x0,()) λc2=>
   .ite (!c2) (.ret (true,()))<|
   .ite (x0.state==8) (.ret (true,()))<|
   .ret ((x0.state==7),()))) λ(u3a0,_)=>
  .ite u3a0 (.ret (c1,[]))<|
  .lp (je (x1,(⟨⟨0,0,0⟩,0,⟨0,[],0,false,false,false⟩,⟨0,[],[],0,false⟩,0,0,⟨0,0,false,false,0,0⟩,0,0⟩:Conn),c1,[],())).lp λ(_,p14a1,p14a2)=>
  .bnd (β:=Bool×Unit) (.ite (decide (0<(p14a2.length:Int))) (.ret ((p14a1.timer==0),()))<|
   .ret (false,())) λ(u15a0,_)=>
  .ite u15a0 (.ret (({p14a1 with timer:=3}:Conn),p14a2))<|
  .ret (p14a1,p14a2)) (ql @LP)
noncomputable def SV:=UN aq Tryz.func240 [(0,lb [1,4,6,7] [4,5,6,7]),(3000002,rA 0 25),(3000016,rA 0 76)] [eN,tH,Pf,Hs,IT,Lw] 0 je (ks:=[.st .conn,.sc (.int .i64)]) dT (λv=>[(true,kJ (.o true) v.1),(false,[sc (.o true) .segm v.2])])
noncomputable def vC:=[KR,tj,gM,KC]
def mp:Sh:=⟨[zp 2 0,zi 5],[.box [.st .tabl [.sl .arg,.sl .arg]]]⟩
def mc:Sh:=⟨[zp 2 0,zi 6],[.box [.st .tabl [.sl .arg,.sl .arg]]]⟩
noncomputable def vu:Fx:=⟨243,Tryz.f243,[(0,lb [2,5] [2,4]),(2,lb [2,6] [4]),(3000001,rA 0 25)],0⟩
noncomputable def pk (v1:Tabl)(v0:Int)(a:Unit):Tr (Stp (Unit) ((Unit))):=
 .grd (aY v1.conns v0)<|
 .cal pd.c ((v1.conns.getD v0.toNat (Ty.zero .conn)),()) λc3=>
 .ite (!c3) (.ret (.out ()))<|
 .grd (aY v1.conns v0)<|
 .cal eA.c (v1,(v1.conns.getD v0.toNat (Ty.zero .conn)).tuple,()) λc4=>
 .ite (c4 != v0) (.ret (.out ()))<|
 .ret (.next ())
noncomputable def gq:mp.V→oi mp Unit (Unit):=λ(v0,v1,_)=>⟨v0,(),λv0 _=>(v0,v1,()),λv0 _=>(decide (v0<(v1.conns.length:Int))),pk v1,up,1,(Int.toNat ((v1.conns.length:Int)-v0)),.inl,eR,oB .ret ⟨[zp 2 0,zb 4],[.box [.st .tabl [.sl .arg,.sl .arg]]]⟩ (λ_=>(false,v1,())) (.exit 0) ⟨[zp 2 0,zu 4],[.box [.st .tabl [.sl .arg,.sl .arg]]]⟩ (λ_=>(v1,()))⟩
theorem EH:LS Tryz.prog vu [0] (kf 0 mp gq):=fe st (aR vC) _ gq [] trivial
theorem GE {v0:Int}{v1:Tabl}(h0:0≤v0)(h1:(v1.conns.length:Int)≤4611686018427387904)(h2:bA v1):(gq (v0,v1,())).U (v1.conns.length:Int) (λ_ _=>True) (λ_=>True):=
 mw h0 h1 trivial
noncomputable def pn (v1:Tabl)(v0:Int)(a:Unit):Tr (Stp (Unit) ((Unit))):=
 .grd ((decide (0≤v0))&&(decide (v0≤(v1.waiting.length:Int))))<|
 .grd (aY v1.waiting v0)<|
 .cal tE.c (((v1.waiting.take v0.toNat).drop 0),(v1.waiting.getD v0.toNat (Ty.zero .tupl)),()) λc6=>
 .ite c6 (.ret (.out ()))<|
 .grd (aY v1.waiting v0)<|
 .cal eA.c (v1,(v1.waiting.getD v0.toNat (Ty.zero .tupl)),()) λc7=>
 .ite (decide (c7<0)) (.ret (.out ()))<|
 .ret (.next ())
noncomputable def gp:mc.V→oi mc Unit (Unit):=λ(v0,v1,_)=>⟨v0,(),λv0 _=>(v0,v1,()),λv0 _=>(decide (v0<(v1.waiting.length:Int))),pn v1,up,1,(Int.toNat ((v1.waiting.length:Int)-v0)),.inl,eR,oB .ret ⟨[zb 4],[]⟩ (λ_=>(false,())) (.exit 2) ⟨[zu 4],[]⟩ (λ_=>())⟩
theorem Gh:LS Tryz.prog vu [1] (kf 2 mc gp):=fe st (aR vC) _ gp [] trivial
theorem pX {v0:Int}{v1:Tabl}(h0:0≤v0)(h1:(v1.waiting.length:Int)≤4611686018427387904)(h2:bA v1):(gp (v0,v1,())).U (v1.waiting.length:Int) (λ_ _=>True) (λ_=>True):=
 mw h0 h1 trivial
noncomputable def rx:FT (Tabl×Limi×Unit) (Bool) (λx=>wS x.1.conns∧cU ac x.1.conns∧wS x.1.waiting) (λx v=>(v=true→x.1.conns.length≤16∧x.1.waiting.length≤16)):= .mk (λ(x0,x1,_)=>
  .bnd (β:=Bool×Unit) (.as (λw=>(w.1=false→x1.halves≤64∧x1.waiting≤16∧x1.conns≤16)) (.cal sQ.c (x1,()) λc1=>
   .ite (!c1) (.ret (true,()))<|
   .ite (decide (x1.conns<(x0.conns.length:Int))) (.ret (true,()))<|
   .ret ((decide (x1.waiting<(x0.waiting.length:Int))),()))) λ(u2a0,_)=>
  .ite u2a0 (.ret false)<|
  .lp (gq (0,x0,())).lp λw5=> .sum w5 (λ_=>
  .ret false)<|
  λ_=>
  .lp (gp (0,x0,())).lp λw8=> .sum w8 (λ_=>
  .ret false)<|
  λ_=>
  .ret true) (XF @GE @pX @pX @pX)
noncomputable def Cf:=dI st vu vC [(kf 0 mp gq),(kf 2 mc gp)] (ks:=[.st .tabl,.st .limi]) rx rB Tryz.func243 ⟨EH,Gh,trivial⟩
noncomputable def dU:FX (Conn×Int×Unit) (Int) (λ_=>True) (bC [.st .conn,.sc (.int .i64)]):=⟨λ(x0,x1,_)=>
  .cal jf.c (x0.s,x1,()) λc1=>
  .ite (decide (c1<0)) (.ret (-1))<|
  .cal fF.c (x0.r,c1,()) λc2=>
  .ite (decide (c2<0)) (.ret (-1))<|
  .ret c2,
 λ(x0,x1,_) hp hf=>by
  simp only[bC,Pk.fact,fX,eK,Fl.fact,Ty.fl,Ty.toH]at hf
  refine Tr.C trivial λ_ _ _=>Tr.I (λ_=>Tr.R trivial) λ_=>Tr.C trivial λ_ _ _=>Tr.F (by kernel_rfl) trivial⟩
theorem Ub (x:Conn)(k:Int)(h0:0≤k)(h1:k≤1048576)(hf:∀c∈Ty.conn.cells x,FactC c)(h:0≤dU.f (x,k,())):dU.f (x,k,())≤k∧ac x:=by
 have e:dU.f (x,k,())=(bif decide (jf.f (x.s,k,())<0)then-1 else(bif decide (fF.f (x.r,jf.f (x.s,k,()),())<0)then-1 else fF.f (x.r,jf.f (x.s,k,()),()))):=by first|(simp only[FX.f,PX,dU];done)|(simp only[FX.f,PX,dU];rfl)
 rw[e]at h⊢
 obtain⟨p0,e0⟩:=nP h
 rw[e0]at h⊢
 obtain⟨p1,e1⟩:=nP h
 rw[e1]at h⊢
 have b0:=O3 _ _ h0 (by omega) (hf (.str x.s.data) (by simp[Ty.cells,Ty.fl,Ty.toH,df,Fl.cell])).slen p0
 have b1:=JG _ _ p0 (by omega) (hf (.str x.r.data) (by simp[Ty.cells,Ty.fl,Ty.toH,df,Fl.cell])).slen (hf (.sl .piec x.r.held) (by simp[Ty.cells,Ty.fl,Ty.toH,df,Fl.cell])).len (λy hy=>(hf (.sl .piec x.r.held) (by simp[Ty.cells,Ty.fl,Ty.toH,df,Fl.cell])).elem hy) p1
 refine⟨by omega, ?_⟩
 unfold ac
 exact⟨by omega,by omega,by omega,b1.2.2.2⟩
noncomputable def P0:=uh st Tryz.func276 [Jh,GC] (ks:=[.st .conn,.sc (.int .i64)]) dU rI
noncomputable def y8:FT (Conn×Unit) (Conn) (λx=>ac x.1) (λx v=>ac v):= .mk λ(x0,_)=>
  .val (eP.f (x0.tuple,())) λc1=>
  .cal tL.c (x0.s,()) λc2=>
  .cal oC.c (x0.r,()) λc3=>
  .val (jh.f (x0.opts,())) λc4=>
  .ret (⟨c1,x0.state,c2,c3,x0.window,x0.most,c4,x0.timer,x0.tries⟩:Conn)
noncomputable def OK:=bh aq Tryz.func278 [kN,Kw,Ec,nu] (ks:=[.st .conn]) y8 (λv=>[(true,kJ (.o true) v)])
noncomputable def MJ:=[tj,rc,wn,ml,sO,EK,NC]
noncomputable def Li:Fx:=⟨299,Tryz.f299,[(3000001,rA 0 5),(3000003,rA 0 19),(3000005,rA 0 30)],0⟩
noncomputable def rZ:FT (Conn×Segm×Unit) (Int) (λx=>ac x.1∧ah x.2.1) (λ_ _=>True):= .mk λ(x0,x1,_)=>
  .bnd (β:=Bool×Unit) (.as (λw=>(w.1=false→SO x0.s∧RO x0.r∧x1.body.length≤1420)) (.cal pd.c (x0,()) λc1=>
   .ite (!c1) (.ret (true,()))<|
   .ite (x0.state==8) (.ret (true,()))<|
   .cal k8.c (x1,()) λc2=>
   .ret ((!c2),()))) λ(u3a0,_)=>
  .ite u3a0 (.ret 1)<|
  .bnd (β:=Bool×Unit) (.val (fZ.f (x1,4,())) λc4=>
   .ite c4 (.ret ((x1.seq==x0.r.next),()))<|
   .ret (false,())) λ(u5a0,_)=>
  .ite u5a0 (.ret 2)<|
  .bnd (β:=Bool×Unit) (.val (fZ.f (x1,4,())) λc6=>
   .ite c6 (.cal jp.c (x0.r,()) λc7=>
    .val (mJ.f (x1.seq,x0.r.next,c7,())) λc8=>
    .ret (c8,()))<|
   .ret (false,())) λ(u9a0,_)=>
  .ite u9a0 (.ret 3)<|
  .val (fZ.f (x1,4,())) λc10=>
  .ite c10 (.ret 1)<|
  .val (fZ.f (x1,2,())) λc11=>
  .ite c11 (.ret 3)<|
  .cal oO.c (x0,x1,()) λc12=>
  .ite (!c12) (.ret 4)<|
  .val (fZ.f (x1,16,())) λc13=>
  .ite (!c13) (.ret 1)<|
  .cal wE.c (x0,x1.ack,()) λc14=>
  .ite (!c14) (.ret 3)<|
  .ret 5
noncomputable def Cr:=dI st Li MJ [] (ks:=[.st .conn,.st .segm]) rZ rI Tryz.func299 trivial
noncomputable def Ru:=[gC,Cr,Rt,oZ,Bi,mt,dZ,wn,Mb,Qb]
def xB:An:=⟨⟨[],[],false,0⟩,⟨[2,3,4,5],[],false,0⟩,⟨[],[]⟩,[(.normal,⟨[zp 2 0,zp 3 1,zp 4 2,zp 5 3],[zg .conn,zx .segm,.box [.st .conn [.nil .piec]],zk .conn 4,zf]⟩)]⟩
noncomputable def RJ:Fx:=⟨301,Tryz.f301,[(1000024,xB),(3000010,rA 0 59)],0⟩
noncomputable def Ao:FT (Conn×Segm×Unit) (Conn) (λx=>ac x.1∧ah x.2.1) (λx v=>ac v):= .mk λ(x0,x1,_)=>
  .cal fx.c (x0,()) λc1=>
  .cal rZ.c (x0,x1,()) λc2=>
  .ite (c2 != 5) (.ret c1)<|
  .cal DK.c (x0.s,x1.ack,()) λc3=>
  .bnd (β:=WT xB.es) (.as (λw=>ac w.1∧ah w.2.1∧ac w.2.2.1∧ac w.2.2.2.1) (.ite c3.2 (.val (fL.f (0,x0.opts.scale,())) λc4=>
    .grd (decide (0≤(IntKind.wrap .u64 c4)))<|
    .val (IntKind.wrap .i64 (x1.window*2 ^ (min (IntKind.wrap .u64 c4).toNat 64))) λe5=>
    .val (ne.f (1073725440,e5,())) λc6=>
    .val (fL.f (c1.most,c6,())) λc7=>
    .cal jm.c (c3.1,()) λc8=>
    .bnd (β:=Bool×Unit) (.ite (c3.1.una != x0.s.una) (.ret ((x0.state != 7),()))<|
     .ite (c8==0) (.ret ((x0.state != 7),()))<|
     .ret (false,())) λ(u9a0,_)=>
    .ite u9a0 (.ite (decide (0<c8)) (.ret (x0,x1,(⟨⟨0,0,0⟩,0,⟨0,[],0,false,false,false⟩,⟨0,[],[],0,false⟩,0,0,⟨0,0,false,false,0,0⟩,0,0⟩:Conn),(⟨c1.tuple,c1.state,c3.1,c1.r,c6,c7,c1.opts,3,0⟩:Conn),()))<|
     .ret (x0,x1,(⟨⟨0,0,0⟩,0,⟨0,[],0,false,false,false⟩,⟨0,[],[],0,false⟩,0,0,⟨0,0,false,false,0,0⟩,0,0⟩:Conn),(⟨c1.tuple,c1.state,c3.1,c1.r,c6,c7,c1.opts,0,0⟩:Conn),()))<|
    .ret (x0,x1,(⟨⟨0,0,0⟩,0,⟨0,[],0,false,false,false⟩,⟨0,[],[],0,false⟩,0,0,⟨0,0,false,false,0,0⟩,0,0⟩:Conn),(⟨c1.tuple,c1.state,c3.1,c1.r,c6,c7,c1.opts,c1.timer,c1.tries⟩:Conn),()))<|
   .ret (x0,x1,(⟨⟨0,0,0⟩,0,⟨0,[],0,false,false,false⟩,⟨0,[],[],0,false⟩,0,0,⟨0,0,false,false,0,0⟩,0,0⟩:Conn),c1,()))) λ(u10a0,u10a1,_,u10a3,_)=>
  .val (dz.f (u10a0.state,1,3,())) λc11=>
  .ite c11 (.val (fZ.f (u10a1,1,())) λc12=>
   .cal su.c (u10a0.r,u10a1.seq,u10a1.body,c12,()) λc13=>
   .cal pS.c (({u10a3 with r.next:=c13.next,r.data:=c13.data,r.held:=c13.held,r.fin:=c13.fin,r.done:=c13.done}:Conn),()) λc14=>
   .ret c14)<|
  .cal pS.c (u10a3,()) λc15=>
  .ret c15
noncomputable def SA:=dI st RJ Ru [] (ks:=[.st .conn,.st .segm]) Ao (λv=>[(true,kJ (.o true) v)]) Tryz.func301 trivial

end
end Go.Proofs.YtbkjnlihfgkkaaaGreat
