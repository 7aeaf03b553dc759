/-
  Contracts of functions and plain laws (printed by a program): each theorem says what a function of the program returns; conditions are its hypotheses.
-/
import Derived.Test.YtbkjnlihfgkkaaaGreatBase
set_option linter.all false
set_option maxRecDepth 4000
namespace Go.Proofs.YtbkjnlihfgkkaaaGreat
open Go Go.RowKit
noncomputable section
@[reducible] def zp (t i:Nat):Nat×Bool×List Pt:=(t,false,[.ptr i 0])
@[reducible] def zi (t:Nat):Nat×Bool×List Pt:=(t,false,[.int .i64])
@[reducible] def zb (t:Nat):Nat×Bool×List Pt:=(t,false,[.bool])
@[reducible] def zu (t:Nat):Nat×Bool×List Pt:=(t,false,[.undef])
@[reducible] def zs (t:Nat):Nat×Bool×List Pt:=(t,false,[.str])
@[reducible] def zl (n:Nat)(t:Ty):Nat×Bool×List Pt:=(n,false,[.sl .arg t])
@[reducible] def zo (n k:Nat):Nat×Bool×List Pt:=(n,false,[.own k])
@[reducible] def zx (t:Ty):Osh:=.box [.st t []]
@[reducible] def zg (t:Ty):Osh:=.box [.st t [.sl .arg]]
@[reducible] def zk (t:Ty)(k:Nat):Osh:=.box [.st t [.own k]]
@[reducible] def zf :Osh:=.of false true
@[reducible] def za (t:Ty):Osh:=.arr t false true
noncomputable def fk:FF (Tupl×Unit) (Tupl):=⟨λ(x0,_)=>
  .ret x0⟩
noncomputable def hP:=gg aY Tryz.func36 [] (ks:=[.st .tupl]) fk (λv=>[(true,Ch v)])
def iU:Sh:=⟨[zl 0 .str,zl 1 .str,zi 5],[]⟩
noncomputable def iB (v0 v1:List ac)(v2:Int)(a:Unit):Tr (Stp (Unit) ((Unit))):=
 .grd (bX v0 v2)<|
 .grd (bX v1 v2)<|
 .ite (!((v0.getD v2.toNat [])==(v1.getD v2.toNat []))) (.ret (.out ()))<|
 .ret (.next ())
noncomputable def dR:iU.V→yK iU Unit (Unit):=λ(v0,v1,v2,_)=>⟨v2,(),λv2 _=>(v0,v1,v2,()),λv2 _=>(decide (v2<(v0.length:Int))),iB v0 v1,up,1,(Int.toNat ((v0.length:Int)-v2)),.inl,eR,oB .ret ⟨[zb 4],[]⟩ (λ_=>(false,())) (.exit 0) ⟨[zu 4],[]⟩ (λ_=>())⟩
theorem n8 {v0 v1:List ac}{v2:Int}(h0:0≤v2)(h1:(v0.length:Int)≤4611686018427387904)(h2:(v0.length:Int)≤(v1.length:Int)):(dR (v0,v1,v2,())).U (v0.length:Int) (λ_ _=>True) (λ_=>True):=
 pI h0 h1 trivial
noncomputable def gV:FT (List ac×List ac×Unit) (Bool) (λx=>sL sS x.1∧sL sS x.2.1) (λ_ _=>True):= .mk (λ(x0,x1,_)=>
  .ite ((x0.length:Int) != (x1.length:Int)) (.ret false)<|
  .lp (dR (x0,x1,0,())).lp λw1=> .sum w1 (λ_=>
  .ret false)<|
  λ_=>
  .ret true) (wH @n8)
noncomputable def sM:=f7 st Tryz.func48 [(0,lb [0,1,5] [4])] [] 0 dR (ks:=[.sc (.sl .str),.sc (.sl .str)]) gV rB
noncomputable def cq:FX (List Half×Int×Unit) (Int) (λ_=>True) (aQ [.sc (.sl .half),.sc (.int .i64)]):=⟨λ(x0,x1,_)=>
  .ite (decide ((IntKind.wrap .i64 (x1-(x0.length:Int)))<0)) (.ret (-1))<|
  .ret (IntKind.wrap .i64 (x1-(x0.length:Int))),
 λ(x0,x1,_) hp hf=>by
  simp only[aQ,Pk.fact,cZ,cg,Fl.fact,Ty.fl,Ty.toH]at hf
  refine Tr.F (by kernel_rfl) trivial⟩
theorem tn (xs:List Half)(k:Int)(h0:0≤k)(h1:k≤1048576)(hl:xs.length≤140737488355328)(h:0≤cq.f (xs,k,())):cq.f (xs,k,())≤k∧xs.length≤1048576:=by
 have w:IntKind.wrap .i64 (k-(xs.length:Int))=k-(xs.length:Int):=ap (by omega) (by omega)
 simp only[FX.f,cq,Tr.nice,w]at h⊢
 by_cases c:k-(xs.length:Int)<0
 ·rw[decide_eq_true c,cond_true]at h;omega
 ·rw[decide_eq_false c,cond_false];exact⟨by omega,by omega⟩
noncomputable def vu:=gE st Tryz.func63 [] (ks:=[.sc (.sl .half),.sc (.int .i64)]) cq rI
noncomputable def jo:FF (Limi×Unit) (Limi):=⟨λ(x0,_)=>
  .ret x0⟩
noncomputable def ui:=gg aY Tryz.func69 [] (ks:=[.st .limi]) jo (λv=>[(true,Da v)])
noncomputable def jC:FF (Limi×Limi×Unit) (Bool):=⟨λ(x0,x1,_)=>
  .ite (x0.halves != x1.halves) (.ret false)<|
  .ite (x0.waiting != x1.waiting) (.ret false)<|
  .ite (x0.conns != x1.conns) (.ret false)<|
  .ite (x0.chal != x1.chal) (.ret false)<|
  .ret true⟩
noncomputable def uv:=gg st Tryz.func76 [] (ks:=[.st .limi,.st .limi]) jC rB
noncomputable def yu:FF (Segm×Int×Unit) (Bool):=⟨λ(x0,x1,_)=>
  .ret ((bits .and .i64 x0.flags x1)==x1)⟩
noncomputable def BB:=gg st Tryz.func90 [] (ks:=[.st .segm,.sc (.int .i64)]) yu rB
def iI:Sh:=⟨[zl 0 .str,zo 3 0,zi 4],[za .str]⟩
noncomputable def iz (v0:List ac)(v1:Int)(a:List ac):Tr (Stp (List ac) (Empty)):=
 .grd (bX v0 v1)<|
 .grd (bX a v1)<|
 .ret (.next (a.set v1.toNat (v0.getD v1.toNat [])))
noncomputable def cA:iI.V→qb iI (List ac):=λ(v0,v1,v2,_)=>⟨v1,v2,λv1 a=>(v0,v1,a,()),λv1 _=>(decide (v1<(v0.length:Int))),iz v0,up,1,(Int.toNat ((v0.length:Int)-v1)),Empty.elim,Prod.mk,oN (.exit 0) ⟨[zu 2,zo 3 0],[za .str]⟩ (λx=>(x.2,()))⟩
theorem od {v0 v2:List ac}{v1:Int}(h0:0≤v1)(h1:(v0.length:Int)≤4611686018427387904)(h2:sL sS v0)(h3:sL sS v2)(h4:v2.length=v2.length∧eF sS v2∧(v0.length:Int)≤(v2.length:Int)):(cA (v0,v1,v2,())).U (v0.length:Int) (λv1 a=>a.length=v2.length∧eF sS a∧(v0.length:Int)≤(a.length:Int)) (λ_=>True):=
 pI (a:=v2) h0 h1 h4
noncomputable def gP:FT (List ac×Unit) (List ac) (λx=>sL sS x.1) (λx v=>sL sS v):=⟨λ(x0,_)=>
  .grd ((((decide (0≤(x0.length:Int)))&&(decide ((x0.length:Int)=(x0.length:Int))))&&(decide ((x0.length:Int)*16≤(aA:Int))))&&(decide ((x0.length:Int)≤(aA:Int))))<|
  .lp (cA (x0,0,(List.replicate ((x0.length:Int).toNat) []),())).lp λ(_,a1_0)=>
  .ret a1_0,
 λ(x0,_) hp=>by
  refine Tr.G4 ?_ λ_=>Tr.L (od ?_ ?_ ?_ ?_ ?_) (λa1_0 _=>Tr.R ?_) (λp=>Empty.elim p)
  all_goals ((try simp only[cA,LC.lp,LC.ct,Ct.lp]at*)<;>grind)⟩
noncomputable def sC:=f7 aY Tryz.func93 [(0,lb [0,3,4] [2,3])] [] 0 cA (ks:=[.sc (.sl .str)]) gP (λv=>[(false,[sc (.o true) .str v])])
noncomputable def n0:FF (Segm×Int×Unit) (Bool):=⟨λ(x0,x1,_)=>
  .ret ((bits .and .i64 x0.flags x1)==x1)⟩
noncomputable def Bu:=gg aY Tryz.func95 [] (ks:=[.st .segm,.sc (.int .i64)]) n0 rB
noncomputable def kw:FF (Int×Int×Unit) (Int):=⟨λ(x0,x1,_)=>
  .ret (bits .and .i64 (IntKind.wrap .i64 (x0+x1)) 4294967295)⟩
noncomputable def xE:=gg aY Tryz.func96 [] (ks:=[.sc (.int .i64),.sc (.int .i64)]) kw rI
noncomputable def eC:FF (Tupl×Tupl×Unit) (Bool):=⟨λ(x0,x1,_)=>
  .ite (x0.ip != x1.ip) (.ret false)<|
  .ite (x0.port != x1.port) (.ret false)<|
  .ite (x0.my != x1.my) (.ret false)<|
  .ret true⟩
noncomputable def fL:=gg st Tryz.func99 [] (ks:=[.st .tupl,.st .tupl]) eC rB
noncomputable def fM:FF (Opti×Unit) (Opti):=⟨λ(x0,_)=>
  .ret x0⟩
noncomputable def mc:=gg aY Tryz.func107 [] (ks:=[.st .opti]) fM (λv=>[(true,oi v)])
def jJ:Sh:=⟨[zi 0,zs 3],[]⟩
noncomputable def pt (a:Int×ac):Tr (Stp (Int×ac) ((ac))):=
 .ite (decide (0<a.1)) (.grd (Nat.ble ((il [(IntKind.wrap .u8 (IntKind.wrap .i64 (48+(a.1.tmod 10))))]).length+a.2.length) bp)<|
  .val ((il [(IntKind.wrap .u8 (IntKind.wrap .i64 (48+(a.1.tmod 10))))])++a.2) λe1=>
  .ret (.next ((IntKind.wrap .i64 (a.1.tdiv 10)),e1)))<|
 .ret (.out a.2)
noncomputable def fS:jJ.V→LW jJ (Int×ac) ((ac)):=λ(v0,v1,_)=>⟨(v0,v1),λa=>(a.1,a.2,()),pt,Int.toNat v0,oN (.exit 0) ⟨[zu 2,zs 3],[]⟩ (λp=>(p,()))⟩
theorem pP {v0:Int}{v1:ac}(h0:0≤v0∧v0*10 ^ v1.length≤9223372036854775807∧v1.length≤19):(fS (v0,v1,())).W (λp=>p.length≤19):=
 LW.okW (a:=(v0,v1)) (λa=>0≤a.1∧a.1*10 ^ a.2.length≤9223372036854775807∧a.2.length≤19) (λa=>Int.toNat a.1) rfl h0 λ(v0,v1) hv=>by
  refine Tr.I (λb0=>Tr.Gb ?_ λg1=>Tr.V λe1 he1=>Tr.Rn ?_) λb0=>Tr.Ro ?_
  all_goals ((first|grind|(obtain⟨h1,h2,h3⟩:=hv;simp only[]at h1 h2 h3 he1;simp only[decide_eq_true_eq]at b0;have hq:(0:Int)<10 ^ v1.length:=Int.pow_pos (by omega);have hm:=Int.mul_le_mul_of_nonneg_left (show(1:Int)≤10 ^ v1.length by omega) h1;have h4:v0≤9223372036854775807:=(by omega);have e:IntKind.wrap .i64 (v0.tdiv 10)=v0/10:=(congrArg IntKind.i64.wrap ((nW 10).1 h1)).trans (ap (by omega) (by omega));have h5:v0/10*10 ^ (v1.length+1)≤v0*10 ^ v1.length:=(by rw[Int.pow_succ,Int.mul_comm (10 ^ v1.length) 10,←Int.mul_assoc];exact Int.mul_le_mul_of_nonneg_right (by omega) (Int.le_of_lt hq));have h6:v1.length≤18:=Classical.byContradiction λhh=>(by have h7:v1.length=19:=(by omega);rw[h7]at h2;omega);have h8:e1.length=v1.length+1:=(by rw[he1,List.length_append,gp];simp only[List.length_cons,List.length_nil];omega);simp only[e,h8];exact⟨⟨by omega,Int.le_trans h5 h2,by omega⟩,by omega⟩)))
noncomputable def bf:FT (Int×Unit) (ac) (λx=>x.1≤9223372036854775807) (λx v=>sS v):= .mk (λ(x0,_)=>
  .ite (decide (x0≤0)) (.ret [109,48])<|
  .lp (fS (x0,[],())).lp λp2a0=>
  .grd (Nat.ble (1+p2a0.length) bp)<|
  .ret ([109]++p2a0)) (wH @pP)
@[grind=] theorem DJ (m:Int):IntKind.wrap .i64 m=min (IntKind.wrap .i64 m) 9223372036854775807:=by rw[bH];omega
noncomputable def gh:=Aq st Tryz.func117 [(0,lb [0,3] [2,3])] [] 0 fS (ks:=[.sc (.int .i64)]) bf (λv=>[(false,[.c (.str v)])])
noncomputable def iY:FF (Sndr×Sndr×Unit) (Bool):=⟨λ(x0,x1,_)=>
  .ite (x0.una != x1.una) (.ret false)<|
  .ite (!(x0.data==x1.data)) (.ret false)<|
  .ite (x0.sent != x1.sent) (.ret false)<|
  .ite (!(x0.fin==x1.fin)) (.ret false)<|
  .ite (!(x0.finSent==x1.finSent)) (.ret false)<|
  .ite (!(x0.done==x1.done)) (.ret false)<|
  .ret true⟩
noncomputable def um:=gg st Tryz.func158 [] (ks:=[.st .sndr,.st .sndr]) iY rB
noncomputable def fH:FF (Opti×Opti×Unit) (Bool):=⟨λ(x0,x1,_)=>
  .ite (x0.mss != x1.mss) (.ret false)<|
  .ite (x0.scale != x1.scale) (.ret false)<|
  .ite (!(x0.sack==x1.sack)) (.ret false)<|
  .ite (!(x0.stamp==x1.stamp)) (.ret false)<|
  .ite (x0.val != x1.val) (.ret false)<|
  .ite (x0.echo != x1.echo) (.ret false)<|
  .ret true⟩
noncomputable def lY:=gg st Tryz.func160 [] (ks:=[.st .opti,.st .opti]) fH rB
noncomputable def cQ:FX (List Tupl×Int×Unit) (Int) (λ_=>True) (aQ [.sc (.sl .tupl),.sc (.int .i64)]):=⟨λ(x0,x1,_)=>
  .ite (decide ((IntKind.wrap .i64 (x1-(x0.length:Int)))<0)) (.ret (-1))<|
  .ret (IntKind.wrap .i64 (x1-(x0.length:Int))),
 λ(x0,x1,_) hp hf=>by
  simp only[aQ,Pk.fact,cZ,cg,Fl.fact,Ty.fl,Ty.toH]at hf
  refine Tr.F (by kernel_rfl) trivial⟩
theorem qO (xs:List Tupl)(k:Int)(h0:0≤k)(h1:k≤1048576)(hl:xs.length≤140737488355328)(h:0≤cQ.f (xs,k,())):cQ.f (xs,k,())≤k∧xs.length≤1048576:=by
 have w:IntKind.wrap .i64 (k-(xs.length:Int))=k-(xs.length:Int):=ap (by omega) (by omega)
 simp only[FX.f,cQ,Tr.nice,w]at h⊢
 by_cases c:k-(xs.length:Int)<0
 ·rw[decide_eq_true c,cond_true]at h;omega
 ·rw[decide_eq_false c,cond_false];exact⟨by omega,by omega⟩
noncomputable def uQ:=gE st Tryz.func164 [] (ks:=[.sc (.sl .tupl),.sc (.int .i64)]) cQ rI
noncomputable def ar:FX (MacRow×Int×Unit) (Int) (λ_=>True) (aQ [.st .macRow,.sc (.int .i64)]):=⟨λ(x0,x1,_)=>
  .ite (decide ((IntKind.wrap .i64 (x1-(x0.input.length:Int)))<0)) (.ret (-1))<|
  .ret (IntKind.wrap .i64 (x1-(x0.input.length:Int))),
 λ(x0,x1,_) hp hf=>by
  simp only[aQ,Pk.fact,cZ,cg,Fl.fact,Ty.fl,Ty.toH]at hf
  refine Tr.F (by kernel_rfl) trivial⟩
theorem xD (x:MacRow)(k:Int)(h0:0≤k)(h1:k≤1048576)(hl:x.input.length≤4611686018427387904)(h:0≤ar.f (x,k,())):ar.f (x,k,())≤k∧x.input.length≤1048576:=by
 have w:IntKind.wrap .i64 (k-(x.input.length:Int))=k-(x.input.length:Int):=ap (by omega) (by omega)
 simp only[FX.f,ar,Tr.nice,w]at h⊢
 by_cases c:k-(x.input.length:Int)<0
 ·rw[decide_eq_true c,cond_true]at h;omega
 ·rw[decide_eq_false c,cond_false];exact⟨by omega,by omega⟩
noncomputable def ue:=gE st Tryz.func165 [] (ks:=[.st .macRow,.sc (.int .i64)]) ar rI
noncomputable def ne:FF (Half×Unit) (Half):=⟨λ(x0,_)=>
  .val (fk.f (x0.tuple,())) λc1=>
  .val (fM.f (x0.opts,())) λc2=>
  .ret (⟨c1,x0.iss,x0.irs,c2,x0.age,x0.window⟩:Half)⟩
noncomputable def xf:=gg aY Tryz.func171 [hP,mc] (ks:=[.st .half]) ne (λv=>[(true,CB v)])
def j5:Sh:=⟨[zl 0 .tupl,zo 3 0,zi 4],[za .tupl]⟩
noncomputable def jN (v0:List Tupl)(v1:Int)(a:List Tupl):Tr (Stp (List Tupl) (Empty)):=
 .grd (bX v0 v1)<|
 .val (fk.f ((v0.getD v1.toNat (Ty.zero .tupl)),())) λc1=>
 .grd (bX a v1)<|
 .ret (.next (a.set v1.toNat c1))
noncomputable def cV:j5.V→qb j5 (List Tupl):=λ(v0,v1,v2,_)=>⟨v1,v2,λv1 a=>(v0,v1,a,()),λv1 _=>(decide (v1<(v0.length:Int))),jN v0,up,1,(Int.toNat ((v0.length:Int)-v1)),Empty.elim,Prod.mk,oN (.exit 0) ⟨[zu 2,zo 3 0],[za .tupl]⟩ (λx=>(x.2,()))⟩
theorem pu {v0 v2:List Tupl}{v1:Int}(h0:0≤v1)(h1:(v0.length:Int)≤4611686018427387904)(h2:sS v0)(h3:sS v2)(h4:v2.length=v2.length∧(v0.length:Int)≤(v2.length:Int)):(cV (v0,v1,v2,())).U (v0.length:Int) (λv1 a=>a.length=v2.length∧(v0.length:Int)≤(a.length:Int)) (λ_=>True):=
 pI (a:=v2) h0 h1 h4
noncomputable def jb:FT (List Tupl×Unit) (List Tupl) (λx=>sS x.1) (λx v=>sS v):=⟨λ(x0,_)=>
  .grd ((((decide (0≤(x0.length:Int)))&&(decide ((x0.length:Int)=(x0.length:Int))))&&(decide ((x0.length:Int)*24≤(aA:Int))))&&(decide ((x0.length:Int)≤(aA:Int))))<|
  .lp (cV (x0,0,(List.replicate ((x0.length:Int).toNat) (⟨0,0,0⟩:Tupl)),())).lp λ(_,a2_0)=>
  .ret a2_0,
 λ(x0,_) hp=>by
  refine Tr.G4 ?_ λ_=>Tr.L (pu ?_ ?_ ?_ ?_ ?_) (λa2_0 _=>Tr.R ?_) (λp=>Empty.elim p)
  all_goals ((try simp only[cV,LC.lp,LC.ct,Ct.lp]at*)<;>grind)⟩
noncomputable def tU:=f7 aY Tryz.func173 [(0,lb [0,3,4] [2,3])] [hP] 0 cV (ks:=[.sc (.sl .tupl)]) jb (λv=>[(false,[sc (.o true) .tupl v])])
noncomputable def ml:FT (MacRow×Unit) (MacRow) (λx=>ao x.1) (λx v=>ao v):= .mk λ(x0,_)=>
  .ret x0
noncomputable def uC:=dh aY Tryz.func174 [] (ks:=[.st .macRow]) ml (λv=>[(true,zS v)])
noncomputable def nU:FF (Half×Half×Unit) (Bool):=⟨λ(x0,x1,_)=>
  .val (eC.f (x0.tuple,x1.tuple,())) λc1=>
  .ite (!c1) (.ret false)<|
  .ite (x0.iss != x1.iss) (.ret false)<|
  .ite (x0.irs != x1.irs) (.ret false)<|
  .val (fH.f (x0.opts,x1.opts,())) λc2=>
  .ite (!c2) (.ret false)<|
  .ite (x0.age != x1.age) (.ret false)<|
  .ite (x0.window != x1.window) (.ret false)<|
  .ret true⟩
noncomputable def xZ:=gg st Tryz.func181 [fL,lY] (ks:=[.st .half,.st .half]) nU rB
def jR:Sh:=⟨[zl 0 .tupl,zl 1 .tupl,zi 5],[]⟩
noncomputable def jT (v0 v1:List Tupl)(v2:Int)(a:Unit):Tr (Stp (Unit) ((Unit))):=
 .grd (bX v0 v2)<|
 .grd (bX v1 v2)<|
 .val (eC.f ((v0.getD v2.toNat (Ty.zero .tupl)),(v1.getD v2.toNat (Ty.zero .tupl)),())) λc1=>
 .ite (!c1) (.ret (.out ()))<|
 .ret (.next ())
noncomputable def er:jR.V→yK jR Unit (Unit):=λ(v0,v1,v2,_)=>⟨v2,(),λv2 _=>(v0,v1,v2,()),λv2 _=>(decide (v2<(v0.length:Int))),jT v0 v1,up,1,(Int.toNat ((v0.length:Int)-v2)),.inl,eR,oB .ret ⟨[zb 4],[]⟩ (λ_=>(false,())) (.exit 0) ⟨[zu 4],[]⟩ (λ_=>())⟩
theorem pJ {v0 v1:List Tupl}{v2:Int}(h0:0≤v2)(h1:(v0.length:Int)≤4611686018427387904)(h2:(v0.length:Int)≤(v1.length:Int)):(er (v0,v1,v2,())).U (v0.length:Int) (λ_ _=>True) (λ_=>True):=
 pI h0 h1 trivial
noncomputable def ju:FT (List Tupl×List Tupl×Unit) (Bool) (λx=>sS x.1∧sS x.2.1) (λ_ _=>True):= .mk (λ(x0,x1,_)=>
  .ite ((x0.length:Int) != (x1.length:Int)) (.ret false)<|
  .lp (er (x0,x1,0,())).lp λw2=> .sum w2 (λ_=>
  .ret false)<|
  λ_=>
  .ret true) (wH @pJ)
noncomputable def uw:=f7 st Tryz.func183 [(0,lb [0,1,5] [4])] [fL] 0 er (ks:=[.sc (.sl .tupl),.sc (.sl .tupl)]) ju rB
noncomputable def i5:FF (MacRow×MacRow×Unit) (Bool):=⟨λ(x0,x1,_)=>
  .ite (!(x0.input==x1.input)) (.ret false)<|
  .ite (x0.value != x1.value) (.ret false)<|
  .ret true⟩
noncomputable def uy:=gg st Tryz.func184 [] (ks:=[.st .macRow,.st .macRow]) i5 rB
noncomputable def ka:List (Ent1 Tryz.prog):=[]
def du:Sh:=⟨[zo 0 0,zi 1,zi 5],[.arr .tupl false false]⟩
noncomputable def kH:Fx:=⟨186,Tryz.f186,[(0,la ⟨[0,1,5],[],false,1⟩ ⟨[1,4],[],false,1⟩)],1⟩
noncomputable def dl (v1:Int)(a:Int×List Tupl):Tr (Stp (Int×List Tupl) (Empty)):=
 .grd (bX a.2 v1)<|
 .grd ((decide (0≤v1))&&(decide (v1<((a.2.set v1.toNat ({(a.2.getD v1.toNat (Ty.zero .tupl))with ip:=a.1}:Tupl)).length:Int))))<|
 .val ((a.2.set v1.toNat ({(a.2.getD v1.toNat (Ty.zero .tupl))with ip:=a.1}:Tupl)).set v1.toNat ({((a.2.set v1.toNat ({(a.2.getD v1.toNat (Ty.zero .tupl))with ip:=a.1}:Tupl)).getD v1.toNat (Ty.zero .tupl))with port:=(IntKind.wrap .i64 (a.1+1))}:Tupl)) λl1=>
 .grd (bX l1 v1)<|
 .val (l1.set v1.toNat ({(l1.getD v1.toNat (Ty.zero .tupl))with my:=(IntKind.wrap .i64 ((IntKind.wrap .i64 (a.1+1))+1))}:Tupl)) λl2=>
 .val (IntKind.wrap .i64 ((IntKind.wrap .i64 ((IntKind.wrap .i64 (a.1+1))+1))+1)) λe3=>
 .ret (.next (e3,l2))
noncomputable def aF:du.V→qb du (Int×List Tupl):=λ(v0,v1,v2,_)=>⟨v1,(v0,v2),λv1 a=>(a.1,v1,a.2,()),λv1 a=>(decide (v1<(a.2.length:Int))),dl,up,1,(Int.toNat ((v2.length:Int)-v1)),Empty.elim,Prod.mk,oN (.exit 0) ⟨[zi 1,zu 4],[.arr .tupl false false]⟩ (λx=>(x.2.1,x.2.2,()))⟩
theorem mY:LS Tryz.prog kH [0] (n4 0 du aF):=iJ st (bJ ka) _ aF [] trivial
theorem nD {v0 v1:Int}{v2:List Tupl}(h0:0≤v1)(h1:(v2.length:Int)≤4611686018427387904)(h2:sS v2)(h3:v2.length=v2.length∧v0≤9223372036854775807):(aF (v0,v1,v2,())).S (λv1 a=>a.2.length=v2.length∧a.2.length=v2.length∧a.1≤9223372036854775807) (λ_=>True):=by
 refine LC.okS ⟨rfl,h3⟩ (λj a hj hv=>⟨⟨?_, ?_⟩, ?_⟩) (λa hv=> ?_)
 ·simp only[aF,decide_eq_true_eq]at*;omega
 ·simp only[aF]at*;exact BE (by omega) (by omega)
 ·refine Tr.G2 ?_ λ_=>Tr.G2 ?_ λ_=>Tr.V λ_ _=>Tr.G2 ?_ λ_=>Tr.V λ_ _=>Tr.V λ_ _=>Tr.Rn ?_
  all_goals (try simp only[aF]at*)<;>(grind)
 ·simp only[aF,decide_eq_false_iff_not]at*;omega
noncomputable def gi:FT (List Tupl×Int×Unit) (Int×List Tupl) (λx=>sS x.1∧x.2.1≤9223372036854775807) (λx v=>sS v.2∧v.1≤9223372036854775807):=⟨λ(x0,x1,_)=>
  .lp (aF (x1,0,x0,())).lp λ(_,a4_0,a4_1)=>
  .ret (a4_0,a4_1),
 λ(x0,x1,_) hp=>by
  refine Tr.L (nD ?_ ?_ ?_ ?_) (λ(a4_0,a4_1) _=>Tr.R ?_) (λp=>Empty.elim p)
  all_goals ((try simp only[aF,LC.lp,LC.ct,Ct.lp]at*)<;>grind)⟩
noncomputable def rk:=mz st kH ka [(n4 0 du aF)] [.wr false [.own 0],.sc (.int .i64)] [.arr .tupl] (λx y=>(y.1,x.2.1,())) gi (λv=>[(false,[.c (.int .i64 v.1)])]) (λx y v=>(v.2,())) Tryz.func186 (by kernel_rfl) ⟨mY,trivial⟩
noncomputable def ex:FX (List Entr×Int×Unit) (Int) (λ_=>True) (aQ [.sc (.sl .entr),.sc (.int .i64)]):=⟨λ(x0,x1,_)=>
  .ite (decide ((IntKind.wrap .i64 (x1-(x0.length:Int)))<0)) (.ret (-1))<|
  .ret (IntKind.wrap .i64 (x1-(x0.length:Int))),
 λ(x0,x1,_) hp hf=>by
  simp only[aQ,Pk.fact,cZ,cg,Fl.fact,Ty.fl,Ty.toH]at hf
  refine Tr.F (by kernel_rfl) trivial⟩
theorem xj (xs:List Entr)(k:Int)(h0:0≤k)(h1:k≤1048576)(hl:xs.length≤140737488355328)(h:0≤ex.f (xs,k,())):ex.f (xs,k,())≤k∧xs.length≤1048576:=by
 have w:IntKind.wrap .i64 (k-(xs.length:Int))=k-(xs.length:Int):=ap (by omega) (by omega)
 simp only[FX.f,ex,Tr.nice,w]at h⊢
 by_cases c:k-(xs.length:Int)<0
 ·rw[decide_eq_true c,cond_true]at h;omega
 ·rw[decide_eq_false c,cond_false];exact⟨by omega,by omega⟩
noncomputable def uh:=gE st Tryz.func190 [] (ks:=[.sc (.sl .entr),.sc (.int .i64)]) ex rI
noncomputable def fJ:FF (Int×Unit) (Int):=⟨λ(x0,_)=>
  .ite (decide ((x0.tmod 4294967296)<0)) (.ret (IntKind.wrap .i64 ((x0.tmod 4294967296)+4294967296)))<|
  .ret (x0.tmod 4294967296)⟩
@[grind=] theorem B8 (x0:Int):fJ.f (x0,())=(x0%4294967296):=by
 simp only[fJ,FF.f,Tr.nice]
 rcases Int.lt_or_le x0 0 with h|h
 ·rw[(iE 4294967296).2 h,bH]
  cases hd:decide (-(-x0%4294967296)<0)with
  |true=>simp only[decide_eq_true_eq]at hd;simp only[cond_true];omega
  |false=>simp only[decide_eq_false_iff_not]at hd;simp only[cond_false];omega
 ·rw[(iE 4294967296).1 h,bH]
  cases hd:decide (x0%4294967296<0)with
  |true=>simp only[decide_eq_true_eq]at hd;omega
  |false=>rfl
noncomputable def xp:=gg st Tryz.func193 [] (ks:=[.sc (.int .i64)]) fJ rI
noncomputable def kG:List (Ent1 Tryz.prog):=[]
def dz:Sh:=⟨[zo 0 0,zi 1,zi 5],[.arr .entr false false]⟩
noncomputable def kd:Fx:=⟨198,Tryz.f198,[(0,la ⟨[0,1,5],[],false,1⟩ ⟨[1,4],[],false,1⟩)],1⟩
noncomputable def di (v1:Int)(a:Int×List Entr):Tr (Stp (Int×List Entr) (Empty)):=
 .grd (bX a.2 v1)<|
 .grd ((decide (0≤v1))&&(decide (v1<((a.2.set v1.toNat ({(a.2.getD v1.toNat (Ty.zero .entr))with ip:=a.1}:Entr)).length:Int))))<|
 .val ((a.2.set v1.toNat ({(a.2.getD v1.toNat (Ty.zero .entr))with ip:=a.1}:Entr)).set v1.toNat ({((a.2.set v1.toNat ({(a.2.getD v1.toNat (Ty.zero .entr))with ip:=a.1}:Entr)).getD v1.toNat (Ty.zero .entr))with hw:=(IntKind.wrap .i64 (a.1+1))}:Entr)) λl1=>
 .grd (bX l1 v1)<|
 .val (l1.set v1.toNat ({(l1.getD v1.toNat (Ty.zero .entr))with age:=(IntKind.wrap .i64 ((IntKind.wrap .i64 (a.1+1))+1))}:Entr)) λl2=>
 .val (IntKind.wrap .i64 ((IntKind.wrap .i64 ((IntKind.wrap .i64 (a.1+1))+1))+1)) λe3=>
 .ret (.next (e3,l2))
noncomputable def aC:dz.V→qb dz (Int×List Entr):=λ(v0,v1,v2,_)=>⟨v1,(v0,v2),λv1 a=>(a.1,v1,a.2,()),λv1 a=>(decide (v1<(a.2.length:Int))),di,up,1,(Int.toNat ((v2.length:Int)-v1)),Empty.elim,Prod.mk,oN (.exit 0) ⟨[zi 1,zu 4],[.arr .entr false false]⟩ (λx=>(x.2.1,x.2.2,()))⟩
theorem nT:LS Tryz.prog kd [0] (n4 0 dz aC):=iJ st (bJ kG) _ aC [] trivial
theorem mN {v0 v1:Int}{v2:List Entr}(h0:0≤v1)(h1:(v2.length:Int)≤4611686018427387904)(h2:sS v2)(h3:v2.length=v2.length∧v0≤9223372036854775807):(aC (v0,v1,v2,())).S (λv1 a=>a.2.length=v2.length∧a.2.length=v2.length∧a.1≤9223372036854775807) (λ_=>True):=by
 refine LC.okS ⟨rfl,h3⟩ (λj a hj hv=>⟨⟨?_, ?_⟩, ?_⟩) (λa hv=> ?_)
 ·simp only[aC,decide_eq_true_eq]at*;omega
 ·simp only[aC]at*;exact BE (by omega) (by omega)
 ·refine Tr.G2 ?_ λ_=>Tr.G2 ?_ λ_=>Tr.V λ_ _=>Tr.G2 ?_ λ_=>Tr.V λ_ _=>Tr.V λ_ _=>Tr.Rn ?_
  all_goals (try simp only[aC]at*)<;>(grind)
 ·simp only[aC,decide_eq_false_iff_not]at*;omega
noncomputable def f5:FT (List Entr×Int×Unit) (Int×List Entr) (λx=>sS x.1∧x.2.1≤9223372036854775807) (λx v=>sS v.2∧v.1≤9223372036854775807):=⟨λ(x0,x1,_)=>
  .lp (aC (x1,0,x0,())).lp λ(_,a4_0,a4_1)=>
  .ret (a4_0,a4_1),
 λ(x0,x1,_) hp=>by
  refine Tr.L (mN ?_ ?_ ?_ ?_) (λ(a4_0,a4_1) _=>Tr.R ?_) (λp=>Empty.elim p)
  all_goals ((try simp only[aC,LC.lp,LC.ct,Ct.lp]at*)<;>grind)⟩
noncomputable def qm:=mz st kd kG [(n4 0 dz aC)] [.wr false [.own 0],.sc (.int .i64)] [.arr .entr] (λx y=>(y.1,x.2.1,())) f5 (λv=>[(false,[.c (.int .i64 v.1)])]) (λx y v=>(v.2,())) Tryz.func198 (by kernel_rfl) ⟨nT,trivial⟩
noncomputable def dE:FF (Unit) (Opti):=⟨λ_=>
  .ret (⟨0,(-1),false,false,0,0⟩:Opti)⟩
noncomputable def sj:=gg st Tryz.func203 [] (ks:=[]) dE (λv=>[(true,oi v)])
noncomputable def eW:FF (Int×Int×Int×Unit) (Bool):=⟨λ(x0,x1,x2,_)=>
  .ite (decide (x1≤x0)) (.ret (decide (x0≤x2)))<|
  .ret false⟩
@[grind=] theorem bN (x0 x1 x2:Int):eW.f (x0,x1,x2,())=(decide (x1≤x0)&&decide (x0≤x2)):=by
 simp only[eW,FF.f,Tr.nice]
 cases decide (x1≤x0)<;>rfl
noncomputable def gt:=gg aY Tryz.func206 [] (ks:=[.sc (.int .i64),.sc (.int .i64),.sc (.int .i64)]) eW rB
noncomputable def cC:FF (Unit) (Opti):=⟨λ_=>
  .ret (⟨0,(-1),false,false,0,0⟩:Opti)⟩
noncomputable def sF:=gg aY Tryz.func216 [] (ks:=[]) cC (λv=>[(true,oi v)])
noncomputable def fP:FF (Int×Int×Int×Unit) (Bool):=⟨λ(x0,x1,x2,_)=>
  .ite (decide (x1≤x0)) (.ret (decide (x0≤x2)))<|
  .ret false⟩
@[grind=] theorem fj (x0 x1 x2:Int):fP.f (x0,x1,x2,())=(decide (x1≤x0)&&decide (x0≤x2)):=by
 simp only[fP,FF.f,Tr.nice]
 cases decide (x1≤x0)<;>rfl
noncomputable def gq:=gg st Tryz.func244 [] (ks:=[.sc (.int .i64),.sc (.int .i64),.sc (.int .i64)]) fP rB
def kW:Sh:=⟨[zs 0,zi 1,zi 2,zi 8,zi 9],[]⟩
noncomputable def gv (v0:ac)(v1:Int)(v4:Int)(a:Int):Tr (Stp (Int) (Empty)):=
 .grd (bX v0 (IntKind.wrap .i64 (v1+v4)))<|
 .val (IntKind.wrap .i64 ((IntKind.wrap .i64 (256*a))+(IntKind.wrap .i64 (Z v0 ((IntKind.wrap .i64 (v1+v4)).toNat))))) λe4=>
 .ret (.next e4)
noncomputable def eT:kW.V→qb kW Int:=λ(v0,v1,v2,v3,v4,_)=>⟨v4,v3,λv4 a=>(v0,v1,v2,a,v4,()),λv4 _=>(decide (v4<v2)),gv v0 v1,up,1,(Int.toNat (v2-v4)),Empty.elim,Prod.mk,oN (.exit 0) ⟨[zu 6,zu 7,zi 8],[]⟩ (λx=>(x.2,()))⟩
theorem qX {v0:ac}{v1 v2 v3 v4:Int}(h0:0≤v4)(h1:v2≤4611686018427387904)(h2:0≤v1)(h3:v1+v2≤(v0.length:Int))(h4:sS v0):(eT (v0,v1,v2,v3,v4,())).U v2 (λ_ _=>True) (λ_=>True):=
 pI (a:=v3) h0 h1 trivial
noncomputable def aP:FT (ac×Int×Int×Unit) (Int×Bool) (λx=>sS x.1) (λ_ _=>True):= .mk (λ(x0,x1,x2,_)=>
  .bnd (β:=Bool×Unit) (.val (fP.f (x2,1,6,())) λc1=>
   .ite (!c1) (.ret (true,()))<|
   .val (fP.f (x1,0,(IntKind.wrap .i64 ((x0.length:Int)-x2)),())) λc2=>
   .ret ((!c2),())) λ(u3a0,_)=>
  .ite u3a0 (.ret (0,false))<|
  .lp (eT (x0,x1,x2,0,0,())).lp λ(_,a5_0)=>
  .ret (a5_0,true)) (wH @qX)
noncomputable def g9:=f7 st Tryz.func253 [(0,lb [0,1,2,8,9] [6,7,8]),(3000001,rA 0 21)] [gq] 0 eT (ks:=[.sc .str,.sc (.int .i64),.sc (.int .i64)]) aP (λv=>[(false,[.c (.int .i64 v.1)]),(false,[.c (.bool v.2)])])
noncomputable def kF:=[gh]
def dr:Sh:=⟨[zo 0 0,zi 1,zi 5],[.arr .piec false false]⟩
noncomputable def kb:Fx:=⟨274,Tryz.f274,[(0,la ⟨[0,1,5],[],false,1⟩ ⟨[1,4],[],false,1⟩)],1⟩
noncomputable def dA (v1:Int)(a:Int×List Piec):Tr (Stp (Int×List Piec) (Empty)):=
 .grd (bX a.2 v1)<|
 .cal bf.c ((IntKind.wrap .i64 (a.1+1)),()) λc1=>
 .grd ((decide (0≤v1))&&(decide (v1<((a.2.set v1.toNat (⟨a.1,(a.2.getD v1.toNat (Ty.zero .piec)).text⟩:Piec)).length:Int))))<|
 .val ((a.2.set v1.toNat (⟨a.1,(a.2.getD v1.toNat (Ty.zero .piec)).text⟩:Piec)).set v1.toNat (⟨((a.2.set v1.toNat (⟨a.1,(a.2.getD v1.toNat (Ty.zero .piec)).text⟩:Piec)).getD v1.toNat (Ty.zero .piec)).off,c1⟩:Piec)) λl2=>
 .ret (.next ((IntKind.wrap .i64 ((IntKind.wrap .i64 (a.1+1))+1)),l2))
noncomputable def aD:dr.V→qb dr (Int×List Piec):=λ(v0,v1,v2,_)=>⟨v1,(v0,v2),λv1 a=>(a.1,v1,a.2,()),λv1 a=>(decide (v1<(a.2.length:Int))),dA,up,1,(Int.toNat ((v2.length:Int)-v1)),Empty.elim,Prod.mk,oN (.exit 0) ⟨[zi 1,zu 4],[.arr .piec false false]⟩ (λx=>(x.2.1,x.2.2,()))⟩
theorem mU:LS Tryz.prog kb [0] (n4 0 dr aD):=iJ st (bJ kF) _ aD [] trivial
theorem m9 {v0 v1:Int}{v2:List Piec}(h0:0≤v1)(h1:(v2.length:Int)≤4611686018427387904)(h2:sL be v2)(h3:v2.length=v2.length∧eF be v2∧v0≤9223372036854775807):(aD (v0,v1,v2,())).S (λv1 a=>a.2.length=v2.length∧a.2.length=v2.length∧eF be a.2∧a.1≤9223372036854775807) (λ_=>True):=by
 refine LC.okS ⟨rfl,h3⟩ (λj a hj hv=>⟨⟨?_, ?_⟩, ?_⟩) (λa hv=> ?_)
 ·simp only[aD,decide_eq_true_eq]at*;omega
 ·simp only[aD]at*;exact BE (by omega) (by omega)
 ·refine Tr.G2 ?_ λ_=>Tr.C ?_ λ_ _ _=>Tr.G2 ?_ λ_=>Tr.V λ_ _=>Tr.Rn ?_
  all_goals (try simp only[aD]at*)<;>(grind)
 ·simp only[aD,decide_eq_false_iff_not]at*;omega
noncomputable def ga:FT (List Piec×Int×Unit) (Int×List Piec) (λx=>sL be x.1∧x.2.1≤9223372036854775807) (λx v=>sL be v.2∧v.1≤9223372036854775807):=⟨λ(x0,x1,_)=>
  .lp (aD (x1,0,x0,())).lp λ(_,a3_0,a3_1)=>
  .ret (a3_0,a3_1),
 λ(x0,x1,_) hp=>by
  refine Tr.L (m9 ?_ ?_ ?_ ?_) (λ(a3_0,a3_1) _=>Tr.R ?_) (λp=>Empty.elim p)
  all_goals ((try simp only[aD,LC.lp,LC.ct,Ct.lp]at*)<;>grind)⟩
noncomputable def qs:=mz st kb kF [(n4 0 dr aD)] [.wr false [.own 0],.sc (.int .i64)] [.arr .piec] (λx y=>(y.1,x.2.1,())) ga (λv=>[(false,[.c (.int .i64 v.1)])]) (λx y v=>(v.2,())) Tryz.func274 (by kernel_rfl) ⟨mU,trivial⟩
noncomputable def m6:FF (Int×Int×Unit) (Int):=⟨λ(x0,x1,_)=>
  .ite (decide (x0<x1)) (.ret x0)<|
  .ret x1⟩
@[grind=] theorem rc (x0 x1:Int):m6.f (x0,x1,())=(if x0<x1 then x0 else x1):=by
 simp only[m6,FF.f,Tr.nice]
 by_cases h:x0<x1<;>simp[h]
noncomputable def s8:=gg st Tryz.func286 [] (ks:=[.sc (.int .i64),.sc (.int .i64)]) m6 rI
noncomputable def oD:FF (Entr×Unit) (Entr):=⟨λ(x0,_)=>
  .ret x0⟩
noncomputable def vR:=gg aY Tryz.func287 [] (ks:=[.st .entr]) oD (λv=>[(true,C0 v)])
noncomputable def lB:FF (Entr×Entr×Unit) (Bool):=⟨λ(x0,x1,_)=>
  .ite (x0.ip != x1.ip) (.ret false)<|
  .ite (x0.hw != x1.hw) (.ret false)<|
  .ite (x0.age != x1.age) (.ret false)<|
  .ret true⟩
noncomputable def vN:=gg st Tryz.func289 [] (ks:=[.st .entr,.st .entr]) lB rB
noncomputable def yZ:=[g9,s8]
noncomputable def zq:Fx:=⟨329,Tryz.f329,[(3000002,rA 0 8),(3000004,rA 0 22),(3000006,rA 0 35),(3000008,rA 0 44)],0⟩
noncomputable def pT:FT (Opti×ac×Unit) (Opti) (λx=>sS x.2.1∧0<x.2.1.length) (λ_ _=>True):= .mk λ(x0,x1,_)=>
  .bnd (β:=Bool×Unit) (.grd (decide (0<(x1.length:Int)))<|
   .ite ((Z x1 0)==2) (.ret (((x1.length:Int)==4),()))<|
   .ret (false,())) λ(u1a0,_)=>
  .ite u1a0 (.cal aP.c (x1,2,2,()) λc2=>
   .ret ({x0 with mss:=c2.1}:Opti))<|
  .bnd (β:=Bool×Unit) (.grd (decide (0<(x1.length:Int)))<|
   .ite ((Z x1 0)==3) (.ret (((x1.length:Int)==3),()))<|
   .ret (false,())) λ(u3a0,_)=>
  .ite u3a0 (.grd (decide (2<(x1.length:Int)))<|
   .val (m6.f (14,(IntKind.wrap .i64 (Z x1 2)),())) λc4=>
   .ret ({x0 with scale:=c4}:Opti))<|
  .bnd (β:=Bool×Unit) (.grd (decide (0<(x1.length:Int)))<|
   .ite ((Z x1 0)==4) (.ret (((x1.length:Int)==2),()))<|
   .ret (false,())) λ(u5a0,_)=>
  .ite u5a0 (.ret ({x0 with sack:=true}:Opti))<|
  .bnd (β:=Bool×Unit) (.grd (decide (0<(x1.length:Int)))<|
   .ite ((Z x1 0)==8) (.ret (((x1.length:Int)==10),()))<|
   .ret (false,())) λ(u6a0,_)=>
  .ite u6a0 (.cal aP.c (x1,2,4,()) λc7=>
   .cal aP.c (x1,6,4,()) λc8=>
   .ret ({x0 with stamp:=true,val:=c7.1,echo:=c8.1}:Opti))<|
  .ret x0
noncomputable def zy:=ol st zq yZ [] (ks:=[.st .opti,.sc .str]) pT (λv=>[(true,oi v)]) Tryz.func329 trivial
def kv:Sh:=⟨[zs 0,zi 1,zi 8,zi 25,zi 26],[]⟩
noncomputable def gF (v0:ac)(v1:Int)(v4:Int)(a:Int):Tr (Stp (Int) (Empty)):=
 .grd (bX v0 (IntKind.wrap .i64 (v1+v4)))<|
 .val (bits .or .i64 (IntKind.wrap .i64 (a*256)) (IntKind.wrap .i64 (Z v0 ((IntKind.wrap .i64 (v1+v4)).toNat)))) λe3=>
 .ret (.next e3)
noncomputable def eU:kv.V→qb kv Int:=λ(v0,v1,v2,v3,v4,_)=>⟨v4,v2,λv4 a=>(v0,v1,a,v3,v4,()),λv4 _=>(decide (v4<v3)),gF v0 v1,up,1,(Int.toNat (v3-v4)),Empty.elim,Prod.mk,oN (.exit 0) ⟨[zu 6,zu 7,zi 8],[]⟩ (λx=>(x.2,()))⟩
theorem rl {v0:ac}{v1 v2 v3 v4:Int}(h0:0≤v4)(h1:v3≤4611686018427387904)(h2:0≤v1)(h3:v1+v3≤(v0.length:Int))(h4:sS v0):(eU (v0,v1,v2,v3,v4,())).U v3 (λ_ _=>True) (λ_=>True):=
 pI (a:=v2) h0 h1 trivial
noncomputable def li:FT (ac×Int×Int×Unit) (Int×Bool) (λx=>sS x.1) (λ_ _=>True):= .mk (λ(x0,x1,x2,_)=>
  .bnd (β:=Bool×Unit) (.val (eW.f (x2,1,6,())) λc1=>
   .ite (!c1) (.ret (true,()))<|
   .ite (decide (x1<0)) (.ret (true,()))<|
   .ret ((decide ((IntKind.wrap .i64 ((x0.length:Int)-x2))<x1)),())) λ(u2a0,_)=>
  .ite u2a0 (.ret (0,false))<|
  .lp (eU (x0,x1,0,x2,0,())).lp λ(_,a4_0)=>
  .ret (a4_0,true)) (wH @rl)
noncomputable def vF:=f7 aY Tryz.func339 [(0,lb [0,1,8,25,26] [6,7,8]),(3000001,rA 0 24)] [gt] 0 eU (ks:=[.sc .str,.sc (.int .i64),.sc (.int .i64)]) li (λv=>[(false,[.c (.int .i64 v.1)]),(false,[.c (.bool v.2)])])
noncomputable def lA:FF (Piec×Piec×Unit) (Bool):=⟨λ(x0,x1,_)=>
  .ite (x0.off != x1.off) (.ret false)<|
  .ite (!(x0.text==x1.text)) (.ret false)<|
  .ret true⟩
noncomputable def wt:=gg st Tryz.func344 [] (ks:=[.st .piec,.st .piec]) lA rB
noncomputable def dC:FX (Sndr×Int×Unit) (Int) (λ_=>True) (aQ [.st .sndr,.sc (.int .i64)]):=⟨λ(x0,x1,_)=>
  .ite (decide ((IntKind.wrap .i64 (x1-(x0.data.length:Int)))<0)) (.ret (-1))<|
  .ret (IntKind.wrap .i64 (x1-(x0.data.length:Int))),
 λ(x0,x1,_) hp hf=>by
  simp only[aQ,Pk.fact,cZ,cg,Fl.fact,Ty.fl,Ty.toH]at hf
  refine Tr.F (by kernel_rfl) trivial⟩
theorem wU (x:Sndr)(k:Int)(h0:0≤k)(h1:k≤1048576)(hl:x.data.length≤4611686018427387904)(h:0≤dC.f (x,k,())):dC.f (x,k,())≤k∧x.data.length≤1048576:=by
 have w:IntKind.wrap .i64 (k-(x.data.length:Int))=k-(x.data.length:Int):=ap (by omega) (by omega)
 simp only[FX.f,dC,Tr.nice,w]at h⊢
 by_cases c:k-(x.data.length:Int)<0
 ·rw[decide_eq_true c,cond_true]at h;omega
 ·rw[decide_eq_false c,cond_false];exact⟨by omega,by omega⟩
noncomputable def ut:=gE st Tryz.func345 [] (ks:=[.st .sndr,.sc (.int .i64)]) dC rI
noncomputable def ja:FT (Sndr×Unit) (Sndr) (λx=>yd x.1) (λx v=>yd v):= .mk λ(x0,_)=>
  .ret x0
noncomputable def tW:=dh aY Tryz.func347 [] (ks:=[.st .sndr]) ja (λv=>[(true,CF v)])
def lQ:Sh:=⟨[zi 0],[]⟩
noncomputable def iq (a:Int):Tr (Stp (Int) ((Int))):=
 .ite (decide (65535<a)) (.val (IntKind.wrap .i64 ((IntKind.wrap .i64 (a.tdiv 65536))+(a.tmod 65536))) λe1=>
  .ret (.next e1))<|
 .ret (.out a)
noncomputable def fx:lQ.V→LW lQ (Int) ((Int)):=λ(v0,_)=>⟨v0,λa=>(a,()),iq,Int.toNat v0,oN (.exit 0) ⟨[zi 0,zu 2],[]⟩ (λp=>(p,()))⟩
theorem si {v0:Int}(h0:0≤v0∧v0≤9223372036854775807):(fx (v0,())).W (λp=>0≤p∧p≤65535):=
 LW.okW (a:=v0) (λa=>0≤a∧a≤9223372036854775807) (λa=>Int.toNat a) rfl h0 λv0 hv=>by
  refine Tr.I (λb0=>Tr.V λe1 he1=>Tr.Rn ?_) λb0=>Tr.Ro ?_
  all_goals (((try subst_vars);simp only[decide_eq_true_eq,decide_eq_false_iff_not]at*;first|omega|(rw[tA (by omega) (by omega)];omega)|grind))
noncomputable def nm:FT (Int×Unit) (Int) (λx=>x.1≤9223372036854775807) (λx v=>0≤v∧v≤65535):= .mk (λ(x0,_)=>
  .ite (decide (x0<0)) (.ret 0)<|
  .lp (fx (x0,())).lp λp2a0=>
  .ret p2a0) (wH @si)
noncomputable def xS:=Aq st Tryz.func377 [(0,lb [0] [0,2])] [] 0 fx (ks:=[.sc (.int .i64)]) nm rI
def kt:Sh:=⟨[zs 0,zi 3,zi 4],[]⟩
noncomputable def cu (v0:ac)(v2:Int)(a:Int):Tr (Stp (Int) (Empty)):=
 .grd (bX v0 v2)<|
 .val (IntKind.wrap .i64 (a+(IntKind.wrap .i64 (256*(IntKind.wrap .i64 (Z v0 v2.toNat)))))) λe1=>
 .ite (decide ((IntKind.wrap .i64 (v2+1))<(v0.length:Int))) (.grd (bX v0 (IntKind.wrap .i64 (v2+1)))<|
  .val (IntKind.wrap .i64 (e1+(IntKind.wrap .i64 (Z v0 ((IntKind.wrap .i64 (v2+1)).toNat))))) λe2=>
  .ret (.next e2))<|
 .ret (.next e1)
noncomputable def bl:kt.V→qb kt Int:=λ(v0,v1,v2,_)=>⟨v2,v1,λv2 a=>(v0,a,v2,()),λv2 _=>(decide (v2<(v0.length:Int))),cu v0,λv2=>IntKind.wrap .i64 (v2+2),2,(Int.toNat (((v0.length:Int)-v2+1)/2)),Empty.elim,Prod.mk,oN (.exit 0) ⟨[zu 2,zi 3],[]⟩ (λx=>(x.2,()))⟩
theorem p5 {v0:ac}{v1 v2:Int}(h0:0≤v2)(h1:(v0.length:Int)≤4611686018427387904)(h2:sS v0)(h3:0≤v1∧v1≤65536*v2):(bl (v0,v1,v2,())).S (λv2 a=>0≤a∧a≤65536*v2) (λ_=>True):=by
 refine LC.okS h3 (λj a hj hv=>⟨⟨?_, ?_⟩, ?_⟩) (λa hv=> ?_)
 ·simp only[bl,decide_eq_true_eq]at*;omega
 ·simp only[bl]at*;exact ap (by omega) (by omega)
 ·refine Tr.G2 ?_ λ_=>Tr.V λ_ _=>Tr.I (λ_=>Tr.G2 ?_ λ_=>Tr.V λ_ _=>Tr.Rn ?_) λ_=>Tr.Rn ?_
  all_goals (try simp only[bl]at*)<;>(grind)
 ·simp only[bl,decide_eq_false_iff_not]at*;omega
noncomputable def ld:FT (ac×Unit) (Int) (λx=>sS x.1) (λx v=>0≤v∧v≤281474976710656):=⟨λ(x0,_)=>
  .lp (bl (x0,0,0,())).lp λ(_,a3_0)=>
  .ret a3_0,
 λ(x0,_) hp=>by
  refine Tr.L (p5 ?_ ?_ ?_ ?_) (λa3_0 _=>Tr.R ?_) (λp=>Empty.elim p)
  all_goals ((try simp only[bl,LC.lp,LC.ct,Ct.lp]at*)<;>grind)⟩
noncomputable def wu:=f7 st Tryz.func378 [(0,lb [0,3,4] [2,3])] [] 0 bl (ks:=[.sc .str]) ld rI
def mb:Sh:=⟨[zi 0],[]⟩
noncomputable def im (a:Int):Tr (Stp (Int) ((Int))):=
 .ite (decide (65536≤a)) (.val (IntKind.wrap .i64 ((IntKind.wrap .i64 (a.tdiv 65536))+(a.tmod 65536))) λe1=>
  .ret (.next e1))<|
 .ret (.out a)
noncomputable def fu:mb.V→LW mb (Int) ((Int)):=λ(v0,_)=>⟨v0,λa=>(a,()),im,Int.toNat v0,oN (.exit 0) ⟨[zi 0,zu 2],[]⟩ (λp=>(p,()))⟩
theorem sK {v0:Int}(h0:0≤v0∧v0≤9223372036854775807):(fu (v0,())).W (λp=>0≤p∧p≤65535):=
 LW.okW (a:=v0) (λa=>0≤a∧a≤9223372036854775807) (λa=>Int.toNat a) rfl h0 λv0 hv=>by
  refine Tr.I (λb0=>Tr.V λe1 he1=>Tr.Rn ?_) λb0=>Tr.Ro ?_
  all_goals (((try subst_vars);simp only[decide_eq_true_eq,decide_eq_false_iff_not]at*;first|omega|(rw[tA (by omega) (by omega)];omega)|grind))
noncomputable def nE:FT (Int×Unit) (Int) (λx=>x.1≤9223372036854775807) (λx v=>0≤v∧v≤65535):= .mk (λ(x0,_)=>
  .ite (decide (x0<0)) (.ret 0)<|
  .lp (fu (x0,())).lp λp2a0=>
  .ret p2a0) (wH @sK)
noncomputable def wY:=Aq aY Tryz.func380 [(0,lb [0] [0,2])] [] 0 fu (ks:=[.sc (.int .i64)]) nE rI
def ki:Sh:=⟨[zs 0,zi 3,zi 4],[]⟩
noncomputable def cr (v0:ac)(v2:Int)(a:Int):Tr (Stp (Int) (Empty)):=
 .ite ((v2.tmod 2)==0) (.grd (bX v0 v2)<|
  .val (IntKind.wrap .i64 (a+(IntKind.wrap .i64 ((IntKind.wrap .i64 (Z v0 v2.toNat))*256)))) λe1=>
  .ret (.next e1))<|
 .grd (bX v0 v2)<|
 .ret (.next (IntKind.wrap .i64 (a+(IntKind.wrap .i64 (Z v0 v2.toNat)))))
noncomputable def dG:ki.V→qb ki Int:=λ(v0,v1,v2,_)=>⟨v2,v1,λv2 a=>(v0,a,v2,()),λv2 _=>(decide (v2<(v0.length:Int))),cr v0,up,1,(Int.toNat ((v0.length:Int)-v2)),Empty.elim,Prod.mk,oN (.exit 0) ⟨[zu 2,zi 3],[]⟩ (λx=>(x.2,()))⟩
theorem qc {v0:ac}{v1 v2:Int}(h0:0≤v2)(h1:(v0.length:Int)≤4611686018427387904)(h2:sS v0)(h3:0≤v1∧v1≤65536*v2):(dG (v0,v1,v2,())).U (v0.length:Int) (λv2 a=>0≤a∧a≤65536*v2) (λ_=>True):=
 pI (a:=v1) h0 h1 h3
noncomputable def k8:FT (ac×Unit) (Int) (λx=>sS x.1) (λx v=>0≤v∧v≤281474976710656):=⟨λ(x0,_)=>
  .lp (dG (x0,0,0,())).lp λ(_,a2_0)=>
  .ret a2_0,
 λ(x0,_) hp=>by
  refine Tr.L (qc ?_ ?_ ?_ ?_) (λa2_0 _=>Tr.R ?_) (λp=>Empty.elim p)
  all_goals ((try simp only[dG,LC.lp,LC.ct,Ct.lp]at*)<;>grind)⟩
noncomputable def u6:=f7 aY Tryz.func381 [(0,lb [0,3,4] [2,3])] [] 0 dG (ks:=[.sc .str]) k8 rI
noncomputable def bu:FX (Piec×Int×Unit) (Int) (λ_=>True) (aQ [.st .piec,.sc (.int .i64)]):=⟨λ(x0,x1,_)=>
  .ite (decide ((IntKind.wrap .i64 (x1-(x0.text.length:Int)))<0)) (.ret (-1))<|
  .ret (IntKind.wrap .i64 (x1-(x0.text.length:Int))),
 λ(x0,x1,_) hp hf=>by
  simp only[aQ,Pk.fact,cZ,cg,Fl.fact,Ty.fl,Ty.toH]at hf
  refine Tr.F (by kernel_rfl) trivial⟩
theorem dw {a e:Int}(h:0≤(bif decide (a<0)then-1 else e)):0≤a∧(bif decide (a<0)then-1 else e)=e:=by
 by_cases c:a<0
 ·rw[decide_eq_true c,cond_true]at h;omega
 ·rw[decide_eq_false c];exact⟨by omega,rfl⟩
theorem nY {T:Type}(F:T→Int→Int)(P:T→Prop):∀(r:List T) (j:Nat) (a b:Int),(∀x∈r,∀k,0≤k→k≤1048576→0≤F x k→F x k≤k∧P x)→0≤a→a≤1048576→fi (λ_ x a=>bif decide (F x a<0)then Stp.out (F x a)else Stp.next (F x a)) j r a= .next b→(0≤b∧b≤a)∧∀y∈r,P y
 |[],_,a,b,_,h0,h1,h=>by
  cases h
  exact⟨⟨h0,Int.le_refl _⟩,λy hy=>by cases hy⟩
 |x::r,j,a,b,hF,h0,h1,h=>by
  simp only[fi]at h
  by_cases c:F x a<0
  ·rw[decide_eq_true c,cond_true]at h;cases h
  ·rw[decide_eq_false c,cond_false]at h
   simp only[Stp.elim]at h
   obtain⟨h2,h3⟩:=hF x List.mem_cons_self a h0 h1 (by omega)
   obtain⟨h4,h5⟩:=nY F P r (j+1) _ b (λy hy=>hF y (List.mem_cons_of_mem _ hy)) (by omega) (by omega) h
   refine⟨⟨h4.1,by omega⟩,λy hy=> ?_⟩
   rcases List.mem_cons.1 hy with rfl|hy
   ·exact h3
   ·exact h5 y hy
theorem y8 (x:Piec)(k:Int)(h0:0≤k)(h1:k≤1048576)(hl:x.text.length≤4611686018427387904)(h:0≤bu.f (x,k,())):bu.f (x,k,())≤k∧x.text.length≤1048576:=by
 have w:IntKind.wrap .i64 (k-(x.text.length:Int))=k-(x.text.length:Int):=ap (by omega) (by omega)
 simp only[FX.f,bu,Tr.nice,w]at h⊢
 by_cases c:k-(x.text.length:Int)<0
 ·rw[decide_eq_true c,cond_true]at h;omega
 ·rw[decide_eq_false c,cond_false];exact⟨by omega,by omega⟩
noncomputable def vv:=gE st Tryz.func400 [] (ks:=[.st .piec,.sc (.int .i64)]) bu rI
noncomputable def om:FT (Piec×Unit) (Piec) (λx=>be x.1) (λx v=>be v):= .mk λ(x0,_)=>
  .ret x0
noncomputable def vD:=dh aY Tryz.func401 [] (ks:=[.st .piec]) om (λv=>[(true,CS v)])
noncomputable def ez:FT (Resu×Unit) (Resu) (λx=>fc x.1) (λx v=>fc v):= .mk λ(x0,_)=>
  .cal gP.c (x0.frames,()) λc1=>
  .val (fk.f (x0.tuple,())) λc2=>
  .ret ({x0 with frames:=c1,tuple.ip:=c2.ip,tuple.port:=c2.port,tuple.my:=c2.my}:Resu)
noncomputable def uU:=dh aY Tryz.func25 [sC,hP] (ks:=[.st .resu]) ez (λv=>[(true,C1 (.o true) v)])
noncomputable def iZ:FT (Resu×Resu×Unit) (Bool) (λx=>fc x.1∧fc x.2.1) (λ_ _=>True):= .mk λ(x0,x1,_)=>
  .cal gV.c (x0.frames,x1.frames,()) λc1=>
  .ite (!c1) (.ret false)<|
  .ite (x0.made != x1.made) (.ret false)<|
  .val (eC.f (x0.tuple,x1.tuple,())) λc2=>
  .ite (!c2) (.ret false)<|
  .ite (x0.n != x1.n) (.ret false)<|
  .ite (!(x0.text==x1.text)) (.ret false)<|
  .ite (!(x0.ok==x1.ok)) (.ret false)<|
  .ret true
noncomputable def t8:=dh st Tryz.func29 [sM,fL] (ks:=[.st .resu,.st .resu]) iZ rB
noncomputable def jH:=[gh]
def cN:Sh:=⟨[zo 0 0,zi 1,zi 5],[.arr .str false false]⟩
noncomputable def jV:Fx:=⟨49,Tryz.f49,[(0,la ⟨[0,1,5],[],false,1⟩ ⟨[1,4],[],false,1⟩)],1⟩
noncomputable def cJ (v1:Int)(a:Int×List ac):Tr (Stp (Int×List ac) (Empty)):=
 .cal bf.c (a.1,()) λc1=>
 .grd (bX a.2 v1)<|
 .ret (.next ((IntKind.wrap .i64 (a.1+1)),(a.2.set v1.toNat c1)))
noncomputable def ay:cN.V→qb cN (Int×List ac):=λ(v0,v1,v2,_)=>⟨v1,(v0,v2),λv1 a=>(a.1,v1,a.2,()),λv1 a=>(decide (v1<(a.2.length:Int))),cJ,up,1,(Int.toNat ((v2.length:Int)-v1)),Empty.elim,Prod.mk,oN (.exit 0) ⟨[zi 1,zu 4],[.arr .str false false]⟩ (λx=>(x.2.1,x.2.2,()))⟩
theorem mv:LS Tryz.prog jV [0] (n4 0 cN ay):=iJ st (bJ jH) _ ay [] trivial
theorem md {v0 v1:Int}{v2:List ac}(h0:0≤v1)(h1:(v2.length:Int)≤4611686018427387904)(h2:sL sS v2)(h3:v2.length=v2.length∧eF sS v2∧v0≤9223372036854775807):(ay (v0,v1,v2,())).S (λv1 a=>a.2.length=v2.length∧a.2.length=v2.length∧eF sS a.2∧a.1≤9223372036854775807) (λ_=>True):=by
 refine LC.okS ⟨rfl,h3⟩ (λj a hj hv=>⟨⟨?_, ?_⟩, ?_⟩) (λa hv=> ?_)
 ·simp only[ay,decide_eq_true_eq]at*;omega
 ·simp only[ay]at*;exact BE (by omega) (by omega)
 ·refine Tr.C ?_ λ_ _ _=>Tr.G2 ?_ λ_=>Tr.Rn ?_
  all_goals (try simp only[ay]at*)<;>(grind)
 ·simp only[ay,decide_eq_false_iff_not]at*;omega
noncomputable def fA:FT (List ac×Int×Unit) (Int×List ac) (λx=>sL sS x.1∧x.2.1≤9223372036854775807) (λx v=>sL sS v.2∧v.1≤9223372036854775807):=⟨λ(x0,x1,_)=>
  .lp (ay (x1,0,x0,())).lp λ(_,a2_0,a2_1)=>
  .ret (a2_0,a2_1),
 λ(x0,x1,_) hp=>by
  refine Tr.L (md ?_ ?_ ?_ ?_) (λ(a2_0,a2_1) _=>Tr.R ?_) (λp=>Empty.elim p)
  all_goals ((try simp only[ay,LC.lp,LC.ct,Ct.lp]at*)<;>grind)⟩
noncomputable def pD:=mz st jV jH [(n4 0 cN ay)] [.wr false [.own 0],.sc (.int .i64)] [.arr .str] (λx y=>(y.1,x.2.1,())) fA (λv=>[(false,[.c (.int .i64 v.1)])]) (λx y v=>(v.2,())) Tryz.func49 (by kernel_rfl) ⟨mv,trivial⟩
noncomputable def lL:=[ue]
def dY:Sh:=⟨[zl 0 .macRow,zi 1,zi 5],[]⟩
noncomputable def lX:Fx:=⟨65,Tryz.f65,[(0,lb [0,1,5] [1,4])],0⟩
noncomputable def dX (v0:List MacRow)(v2:Int)(a:Int):Tr (Stp (Int) ((Int))):=
 .grd (bX v0 v2)<|
 .cal ar.c ((v0.getD v2.toNat (Ty.zero .macRow)),a,()) λc1=>
 .ite (decide (c1<0)) (.ret (.out c1))<|
 .ret (.next c1)
noncomputable def bg:dY.V→yK dY Int (Int):=λ(v0,v1,v2,_)=>⟨v2,v1,λv2 a=>(v0,a,v2,()),λv2 _=>(decide (v2<(v0.length:Int))),dX v0,up,1,(Int.toNat ((v0.length:Int)-v2)),.inl,eR,oB .ret ⟨[zi 1,zi 4],[]⟩ (λp=>(p,(-1),())) (.exit 0) ⟨[zi 1,zu 4],[]⟩ (λx=>(x.2,()))⟩
theorem oz:LS Tryz.prog lX [0] (n4 0 dY bg):=iJ st (bJ lL) _ bg [] trivial
theorem oG {v0:List MacRow}{v1 v2:Int}(h0:0≤v2)(h1:(v0.length:Int)≤4611686018427387904):(bg (v0,v1,v2,())).U (v0.length:Int) (λ_ _=>True) (λ_=>True):=
 pI (a:=v1) h0 h1 trivial
noncomputable def bh:FX (List MacRow×Int×Unit) (Int) (λ_=>True) (aQ [.sc (.sl .macRow),.sc (.int .i64)]):=⟨λ(x0,x1,_)=>
  .ite (decide ((IntKind.wrap .i64 (x1-(x0.length:Int)))<0)) (.ret (-1))<|
  .lp (bg (x0,(IntKind.wrap .i64 (x1-(x0.length:Int))),0,())).lp λw2=> .sum w2 (λ_=>
  .ret (-1))<|
  λ(_,a2_0)=>
  .ret a2_0,
 λ(x0,x1,_) hp hf=>by
  simp only[aQ,Pk.fact,cZ,cg,Fl.fact,Ty.fl,Ty.toH]at hf
  refine Tr.I (λ_=>Tr.R trivial) λ_=>Tr.L (oG ?_ ?_) (λa2_0 _=>Tr.Sr (Tr.R trivial)) (λp2a0 _=>Tr.Sl (Tr.R trivial))
  all_goals ((try simp only[bg,LC.lp,LC.ct,Ct.lp]at*)<;>grind)⟩
theorem BT (r:MacRow)(k:Int)(h0:0≤k)(h1:k≤1048576)(hr:r.input.length≤4611686018427387904):ar.f (r,k,())=bif decide (k-(r.input.length:Int)<0)then-1 else k-(r.input.length:Int):=by
 simp only[FX.f,ar,Tr.nice]
 rw[ap (by omega) (by omega)]
theorem pf:∀(r:List MacRow) (j:Nat) (a b:Int),0≤a→a≤1048576→(∀y∈r,y.input.length≤4611686018427387904)→fi (λ_ x a=>(bif decide (ar.f (x,a,())<0)then Stp.out (ar.f (x,a,()))else Stp.next (ar.f (x,a,())))) j r a= .next b→(0≤b∧b≤a)∧∀y∈r,y.input.length≤1048576
 |[],_,a,b,h0,h1,_,h=>by
  cases h
  exact⟨⟨h0,Int.le_refl _⟩,λy hy=>by cases hy⟩
 |x::r,j,a,b,h0,h1,hr,h=>by
  have hx:=hr x List.mem_cons_self
  have e:=BT x a h0 h1 hx
  simp only[fi,e]at h
  by_cases c:a-(x.input.length:Int)<0
  ·rw[decide_eq_true c,cond_true]at h;cases h
  ·rw[decide_eq_false c,cond_false,decide_eq_false c,cond_false]at h
   simp only[Stp.elim]at h
   obtain⟨h2,h3⟩:=pf r (j+1) _ b (by omega) (by omega) (λy hy=>hr y (List.mem_cons_of_mem _ hy)) h
   refine⟨⟨h2.1,by omega⟩,λy hy=> ?_⟩
   rcases List.mem_cons.1 hy with rfl|hy
   ·omega
   ·exact h3 y hy
theorem uI (xs:List MacRow)(k:Int)(h0:0≤k)(h1:k≤1048576)(hl:xs.length≤140737488355328)(he:nQ .macRow xs)(h:0≤bh.f (xs,k,())):sL ao xs∧xs.length≤1048576:=by
 have hr:∀y∈xs,y.input.length≤4611686018427387904:=λy hy=>(he y hy (.str y.input) List.mem_cons_self).slen
 have w:IntKind.wrap .i64 (k-(xs.length:Int))=k-(xs.length:Int):=ap (by omega) (by omega)
 simp only[FX.f,PX,bh,bg,w,av]at h
 by_cases c:k-(xs.length:Int)<0
 ·rw[decide_eq_true c,cond_true]at h;omega
 rw[decide_eq_false c,cond_false]at h
 rw[bQ xs _ rfl (F:=λ_ x a=>(bif decide (ar.f (x,a,())<0)then Stp.out (ar.f (x,a,()))else Stp.next (ar.f (x,a,())))) (λj x a hx=>by
  simp only[PX,dX,aj,getD_some hx])]at h
 cases hn:fi (λ_ x a=>(bif decide (ar.f (x,a,())<0)then Stp.out (ar.f (x,a,()))else Stp.next (ar.f (x,a,())))) 0 xs (k-(xs.length:Int))with
 |out p=>rw[hn]at h;simp only[Stp.elim]at h;omega
 |next b=>
  have:=pf xs 0 _ b (by omega) (by omega) hr hn
  refine⟨⟨by omega,λy hy=> ?_⟩,by omega⟩
  have:=this.2 y hy
  unfold ao;omega
theorem vy (xs:List MacRow)(k:Int)(h0:0≤k)(h1:k≤1048576)(hl:xs.length≤140737488355328)(he:nQ .macRow xs)(h:0≤bh.f (xs,k,())):bh.f (xs,k,())≤k∧xs.length≤1048576∧eF ao xs:=by
 have w:IntKind.wrap .i64 (k-(xs.length:Int))=k-(xs.length:Int):=ap (by omega) (by omega)
 simp only[FX.f,PX,bh,bg,w,av]at h⊢
 by_cases c:k-(xs.length:Int)<0
 ·rw[decide_eq_true c,cond_true]at h;omega
 rw[decide_eq_false c,cond_false]at h⊢
 have hf:∀(j:Nat) x a,xs[j]? =some x→(dX xs (j:Int) a).nice=(bif decide (ar.f (x,a,())<0)then Stp.out (ar.f (x,a,()))else Stp.next (ar.f (x,a,()))):=λj x a hx=>by
  simp only[PX,dX,aj,getD_some hx]
 rw[bQ xs _ rfl (F:=λ_ x a=>(bif decide (ar.f (x,a,())<0)then Stp.out (ar.f (x,a,()))else Stp.next (ar.f (x,a,())))) hf]at h⊢
 cases hn:fi (λ_ x a=>(bif decide (ar.f (x,a,())<0)then Stp.out (ar.f (x,a,()))else Stp.next (ar.f (x,a,())))) 0 xs (k-(xs.length:Int))with
 |out p=>rw[hn]at h;simp only[Stp.elim]at h;omega
 |next b=>
  obtain⟨h2,h3⟩:=nY (λx a=>ar.f (x,a,())) ao xs 0 _ b (λx hx k h0 h1 h=>(have h4:=xD x k h0 h1 (he x hx (.str x.input) List.mem_cons_self).slen h;⟨h4.1,(by unfold ao;omega)⟩)) (by omega) (by omega) hn
  simp only[Stp.elim]
  exact⟨by omega,by omega,h3⟩
noncomputable def sY:=zn st lX lL [(n4 0 dY bg)] (ks:=[.sc (.sl .macRow),.sc (.int .i64)]) bh rI Tryz.func65 ⟨oz,trivial⟩
def kQ:Sh:=⟨[zl 0 .half,zo 3 0,zi 4],[za .half]⟩
noncomputable def kK (v0:List Half)(v1:Int)(a:List Half):Tr (Stp (List Half) (Empty)):=
 .grd (bX v0 v1)<|
 .val (ne.f ((v0.getD v1.toNat (Ty.zero .half)),())) λc2=>
 .grd (bX a v1)<|
 .ret (.next (a.set v1.toNat c2))
noncomputable def dJ:kQ.V→qb kQ (List Half):=λ(v0,v1,v2,_)=>⟨v1,v2,λv1 a=>(v0,v1,a,()),λv1 _=>(decide (v1<(v0.length:Int))),kK v0,up,1,(Int.toNat ((v0.length:Int)-v1)),Empty.elim,Prod.mk,oN (.exit 0) ⟨[zu 2,zo 3 0],[za .half]⟩ (λx=>(x.2,()))⟩
theorem rh {v0 v2:List Half}{v1:Int}(h0:0≤v1)(h1:(v0.length:Int)≤4611686018427387904)(h2:sS v0)(h3:sS v2)(h4:v2.length=v2.length∧(v0.length:Int)≤(v2.length:Int)):(dJ (v0,v1,v2,())).U (v0.length:Int) (λv1 a=>a.length=v2.length∧(v0.length:Int)≤(a.length:Int)) (λ_=>True):=
 pI (a:=v2) h0 h1 h4
noncomputable def ll:FT (List Half×Unit) (List Half) (λx=>sS x.1) (λx v=>sS v):=⟨λ(x0,_)=>
  .grd ((((decide (0≤(x0.length:Int)))&&(decide ((x0.length:Int)=(x0.length:Int))))&&(decide ((x0.length:Int)*96≤(aA:Int))))&&(decide ((x0.length:Int)≤(aA:Int))))<|
  .val (List.replicate ((x0.length:Int).toNat) (⟨⟨0,0,0⟩,0,0,⟨0,0,false,false,0,0⟩,0,0⟩:Half)) λl1=>
  .lp (dJ (x0,0,l1,())).lp λ(_,a3_0)=>
  .ret a3_0,
 λ(x0,_) hp=>by
  refine Tr.G4 ?_ λ_=>Tr.V λ_ _=>Tr.L (rh ?_ ?_ ?_ ?_ ?_) (λa3_0 _=>Tr.R ?_) (λp=>Empty.elim p)
  all_goals ((try simp only[dJ,LC.lp,LC.ct,Ct.lp]at*)<;>grind)⟩
noncomputable def wG:=f7 aY Tryz.func70 [(0,lb [0,3,4] [2,3])] [xf] 0 dJ (ks:=[.sc (.sl .half)]) ll (λv=>[(false,[sc (.o true) .half v])])
def iG:Sh:=⟨[zl 0 .macRow,zo 3 0,zi 4],[za .macRow]⟩
noncomputable def iO (v0:List MacRow)(v1:Int)(a:List MacRow):Tr (Stp (List MacRow) (Empty)):=
 .grd (bX v0 v1)<|
 .cal ml.c ((v0.getD v1.toNat (Ty.zero .macRow)),()) λc1=>
 .grd (bX a v1)<|
 .ret (.next (a.set v1.toNat c1))
noncomputable def cx:iG.V→qb iG (List MacRow):=λ(v0,v1,v2,_)=>⟨v1,v2,λv1 a=>(v0,v1,a,()),λv1 _=>(decide (v1<(v0.length:Int))),iO v0,up,1,(Int.toNat ((v0.length:Int)-v1)),Empty.elim,Prod.mk,oN (.exit 0) ⟨[zu 2,zo 3 0],[za .macRow]⟩ (λx=>(x.2,()))⟩
theorem n7 {v0 v2:List MacRow}{v1:Int}(h0:0≤v1)(h1:(v0.length:Int)≤4611686018427387904)(h2:sL ao v0)(h3:sL ao v2)(h4:v2.length=v2.length∧eF ao v2∧(v0.length:Int)≤(v2.length:Int)):(cx (v0,v1,v2,())).U (v0.length:Int) (λv1 a=>a.length=v2.length∧eF ao a∧(v0.length:Int)≤(a.length:Int)) (λ_=>True):=
 pI (a:=v2) h0 h1 h4
noncomputable def ik:FT (List MacRow×Unit) (List MacRow) (λx=>sL ao x.1) (λx v=>sL ao v):=⟨λ(x0,_)=>
  .grd ((((decide (0≤(x0.length:Int)))&&(decide ((x0.length:Int)=(x0.length:Int))))&&(decide ((x0.length:Int)*24≤(aA:Int))))&&(decide ((x0.length:Int)≤(aA:Int))))<|
  .lp (cx (x0,0,(List.replicate ((x0.length:Int).toNat) (⟨[],0⟩:MacRow)),())).lp λ(_,a2_0)=>
  .ret a2_0,
 λ(x0,_) hp=>by
  refine Tr.G4 ?_ λ_=>Tr.L (n7 ?_ ?_ ?_ ?_ ?_) (λa2_0 _=>Tr.R ?_) (λp=>Empty.elim p)
  all_goals ((try simp only[cx,LC.lp,LC.ct,Ct.lp]at*)<;>grind)⟩
noncomputable def sJ:=f7 aY Tryz.func72 [(0,lb [0,3,4] [2,3])] [uC] 0 cx (ks:=[.sc (.sl .macRow)]) ik (λv=>[(false,[sc (.o true) .macRow v])])
def kC:Sh:=⟨[zl 0 .half,zl 1 .half,zi 5],[]⟩
noncomputable def ke (v0 v1:List Half)(v2:Int)(a:Unit):Tr (Stp (Unit) ((Unit))):=
 .grd (bX v0 v2)<|
 .grd (bX v1 v2)<|
 .val (nU.f ((v0.getD v2.toNat (Ty.zero .half)),(v1.getD v2.toNat (Ty.zero .half)),())) λc1=>
 .ite (!c1) (.ret (.out ()))<|
 .ret (.next ())
noncomputable def eJ:kC.V→yK kC Unit (Unit):=λ(v0,v1,v2,_)=>⟨v2,(),λv2 _=>(v0,v1,v2,()),λv2 _=>(decide (v2<(v0.length:Int))),ke v0 v1,up,1,(Int.toNat ((v0.length:Int)-v2)),.inl,eR,oB .ret ⟨[zb 4],[]⟩ (λ_=>(false,())) (.exit 0) ⟨[zu 4],[]⟩ (λ_=>())⟩
theorem qY {v0 v1:List Half}{v2:Int}(h0:0≤v2)(h1:(v0.length:Int)≤4611686018427387904)(h2:(v0.length:Int)≤(v1.length:Int)):(eJ (v0,v1,v2,())).U (v0.length:Int) (λ_ _=>True) (λ_=>True):=
 pI h0 h1 trivial
noncomputable def k9:FT (List Half×List Half×Unit) (Bool) (λx=>sS x.1∧sS x.2.1) (λ_ _=>True):= .mk (λ(x0,x1,_)=>
  .ite ((x0.length:Int) != (x1.length:Int)) (.ret false)<|
  .lp (eJ (x0,x1,0,())).lp λw2=> .sum w2 (λ_=>
  .ret false)<|
  λ_=>
  .ret true) (wH @qY)
noncomputable def vC:=f7 st Tryz.func77 [(0,lb [0,1,5] [4])] [xZ] 0 eJ (ks:=[.sc (.sl .half),.sc (.sl .half)]) k9 rB
def iH:Sh:=⟨[zl 0 .macRow,zl 1 .macRow,zi 5],[]⟩
noncomputable def iR (v0 v1:List MacRow)(v2:Int)(a:Unit):Tr (Stp (Unit) ((Unit))):=
 .grd (bX v0 v2)<|
 .grd (bX v1 v2)<|
 .val (i5.f ((v0.getD v2.toNat (Ty.zero .macRow)),(v1.getD v2.toNat (Ty.zero .macRow)),())) λc1=>
 .ite (!c1) (.ret (.out ()))<|
 .ret (.next ())
noncomputable def dN:iH.V→yK iH Unit (Unit):=λ(v0,v1,v2,_)=>⟨v2,(),λv2 _=>(v0,v1,v2,()),λv2 _=>(decide (v2<(v0.length:Int))),iR v0 v1,up,1,(Int.toNat ((v0.length:Int)-v2)),.inl,eR,oB .ret ⟨[zb 4],[]⟩ (λ_=>(false,())) (.exit 0) ⟨[zu 4],[]⟩ (λ_=>())⟩
theorem n9 {v0 v1:List MacRow}{v2:Int}(h0:0≤v2)(h1:(v0.length:Int)≤4611686018427387904)(h2:(v0.length:Int)≤(v1.length:Int)):(dN (v0,v1,v2,())).U (v0.length:Int) (λ_ _=>True) (λ_=>True):=
 pI h0 h1 trivial
noncomputable def gM:FT (List MacRow×List MacRow×Unit) (Bool) (λx=>sL ao x.1∧sL ao x.2.1) (λ_ _=>True):= .mk (λ(x0,x1,_)=>
  .ite ((x0.length:Int) != (x1.length:Int)) (.ret false)<|
  .lp (dN (x0,x1,0,())).lp λw2=> .sum w2 (λ_=>
  .ret false)<|
  λ_=>
  .ret true) (wH @n9)
noncomputable def sU:=f7 st Tryz.func79 [(0,lb [0,1,5] [4])] [uy] 0 dN (ks:=[.sc (.sl .macRow),.sc (.sl .macRow)]) gM rB
noncomputable def jF:=[gh]
def cG:Sh:=⟨[zo 0 0,zi 1,zi 5],[.arr .macRow false false]⟩
noncomputable def jW:Fx:=⟨83,Tryz.f83,[(0,la ⟨[0,1,5],[],false,1⟩ ⟨[1,4],[],false,1⟩)],1⟩
noncomputable def cK (v1:Int)(a:Int×List MacRow):Tr (Stp (Int×List MacRow) (Empty)):=
 .cal bf.c (a.1,()) λc1=>
 .grd (bX a.2 v1)<|
 .grd ((decide (0≤v1))&&(decide (v1<((a.2.set v1.toNat (⟨c1,(a.2.getD v1.toNat (Ty.zero .macRow)).value⟩:MacRow)).length:Int))))<|
 .val ((a.2.set v1.toNat (⟨c1,(a.2.getD v1.toNat (Ty.zero .macRow)).value⟩:MacRow)).set v1.toNat (⟨((a.2.set v1.toNat (⟨c1,(a.2.getD v1.toNat (Ty.zero .macRow)).value⟩:MacRow)).getD v1.toNat (Ty.zero .macRow)).input,(IntKind.wrap .i64 (a.1+1))⟩:MacRow)) λl2=>
 .ret (.next ((IntKind.wrap .i64 ((IntKind.wrap .i64 (a.1+1))+1)),l2))
noncomputable def az:cG.V→qb cG (Int×List MacRow):=λ(v0,v1,v2,_)=>⟨v1,(v0,v2),λv1 a=>(a.1,v1,a.2,()),λv1 a=>(decide (v1<(a.2.length:Int))),cK,up,1,(Int.toNat ((v2.length:Int)-v1)),Empty.elim,Prod.mk,oN (.exit 0) ⟨[zi 1,zu 4],[.arr .macRow false false]⟩ (λx=>(x.2.1,x.2.2,()))⟩
theorem mF:LS Tryz.prog jW [0] (n4 0 cG az):=iJ st (bJ jF) _ az [] trivial
theorem mg {v0 v1:Int}{v2:List MacRow}(h0:0≤v1)(h1:(v2.length:Int)≤4611686018427387904)(h2:sL ao v2)(h3:v2.length=v2.length∧eF ao v2∧v0≤9223372036854775807):(az (v0,v1,v2,())).S (λv1 a=>a.2.length=v2.length∧a.2.length=v2.length∧eF ao a.2∧a.1≤9223372036854775807) (λ_=>True):=by
 refine LC.okS ⟨rfl,h3⟩ (λj a hj hv=>⟨⟨?_, ?_⟩, ?_⟩) (λa hv=> ?_)
 ·simp only[az,decide_eq_true_eq]at*;omega
 ·simp only[az]at*;exact BE (by omega) (by omega)
 ·refine Tr.C ?_ λ_ _ _=>Tr.G2 ?_ λ_=>Tr.G2 ?_ λ_=>Tr.V λ_ _=>Tr.Rn ?_
  all_goals (try simp only[az]at*)<;>(grind)
 ·simp only[az,decide_eq_false_iff_not]at*;omega
noncomputable def fy:FT (List MacRow×Int×Unit) (Int×List MacRow) (λx=>sL ao x.1∧x.2.1≤9223372036854775807) (λx v=>sL ao v.2∧v.1≤9223372036854775807):=⟨λ(x0,x1,_)=>
  .lp (az (x1,0,x0,())).lp λ(_,a3_0,a3_1)=>
  .ret (a3_0,a3_1),
 λ(x0,x1,_) hp=>by
  refine Tr.L (mg ?_ ?_ ?_ ?_) (λ(a3_0,a3_1) _=>Tr.R ?_) (λp=>Empty.elim p)
  all_goals ((try simp only[az,LC.lp,LC.ct,Ct.lp]at*)<;>grind)⟩
noncomputable def px:=mz st jW jF [(n4 0 cG az)] [.wr false [.own 0],.sc (.int .i64)] [.arr .macRow] (λx y=>(y.1,x.2.1,())) fy (λv=>[(false,[.c (.int .i64 v.1)])]) (λx y v=>(v.2,())) Tryz.func83 (by kernel_rfl) ⟨mF,trivial⟩
noncomputable def cy:FX (Link×Int×Unit) (Int) (λ_=>True) (aQ [.st .link,.sc (.int .i64)]):=⟨λ(x0,x1,_)=>
  .cal ex.c (x0.cache,x1,()) λc1=>
  .ite (decide (c1<0)) (.ret (-1))<|
  .ret c1,
 λ(x0,x1,_) hp hf=>by
  simp only[aQ,Pk.fact,cZ,cg,Fl.fact,Ty.fl,Ty.toH]at hf
  refine Tr.C trivial λ_ _ _=>Tr.F (by kernel_rfl) trivial⟩
theorem vY (x:Link)(k:Int)(h0:0≤k)(h1:k≤1048576)(hl:x.cache.length≤140737488355328)(h:0≤cy.f (x,k,())):cy.f (x,k,())≤k∧x.cache.length≤1048576:=by
 have e:cy.f (x,k,())=(bif decide (ex.f (x.cache,k,())<0)then-1 else ex.f (x.cache,k,())):=by first|(simp only[FX.f,PX,cy];done)|(simp only[FX.f,PX,cy];rfl)
 rw[e]at h⊢
 obtain⟨p0,e0⟩:=dw h
 rw[e0]at h⊢
 have b0:=xj _ _ h0 (by omega) hl p0
 refine⟨by omega, ?_⟩
 exact b0.2
noncomputable def wZ:=gE st Tryz.func87 [uh] (ks:=[.st .link,.sc (.int .i64)]) cy rI
noncomputable def nu:FF (Int×Int×Unit) (Int):=⟨λ(x0,x1,_)=>
  .val (fJ.f (x0,())) λc1=>
  .val (fJ.f (x1,())) λc2=>
  .val (fJ.f ((IntKind.wrap .i64 (c1+c2)),())) λc3=>
  .ret c3⟩
noncomputable def xY:=gg st Tryz.func91 [xp] (ks:=[.sc (.int .i64),.sc (.int .i64)]) nu rI
noncomputable def lq:FF (Issu×Issu×Unit) (Bool):=⟨λ(x0,x1,_)=>
  .val (eC.f (x0.tuple,x1.tuple,())) λc1=>
  .ite (!c1) (.ret false)<|
  .ite (x0.seq != x1.seq) (.ret false)<|
  .ite (x0.cookie != x1.cookie) (.ret false)<|
  .ret true⟩
noncomputable def vP:=gg st Tryz.func97 [fL] (ks:=[.st .issu,.st .issu]) lq rB
noncomputable def mn:FT (Link×Int×Unit) (Int×List Entr) (λx=>nH x.1∧x.2.1≤9223372036854775807) (λx v=>sS v.2∧v.1≤9223372036854775807):= .mk λ(x0,x1,_)=>
  .cal f5.c (x0.cache,x1,()) λc1=>
  .ret (c1.1,c1.2)
noncomputable def ur:=mz st ⟨100,Tryz.f100,[],1⟩ [qm] [] [.wr true [.c (.int .i64),.c (.int .i64),.own 0],.sc (.int .i64)] [.arr .entr] (λx y=>((⟨x.1.1,x.1.2.1,y.1⟩:Link),x.2.1,())) mn (λv=>[(false,[.c (.int .i64 v.1)])]) (λx y v=>(v.2,())) Tryz.func100 (by kernel_rfl) trivial
noncomputable def aO:FT (Int×Int×Unit) (Bool) (λ_=>True) (λx v=>(x.2.1=32→(v=true↔0≤x.1∧x.1≤4294967295))∧(x.2.1=16→(v=true↔0≤x.1∧x.1≤65535))∧(x.2.1=48→(v=true↔0≤x.1∧x.1≤281474976710655))∧(x.2.1=8→(v=true↔0≤x.1∧x.1≤255))∧(x.2.1=6→(v=true↔0≤x.1∧x.1≤63))):=⟨λ(x0,x1,_)=>
  .val (fP.f (x1,1,62,())) λc1=>
  .ite c1 (.grd (decide (0≤(IntKind.wrap .u64 x1)))<|
   .val (IntKind.wrap .i64 ((IntKind.wrap .i64 (1*2 ^ (min (IntKind.wrap .u64 x1).toNat 64)))-1)) λe2=>
   .val (fP.f (x0,0,e2,())) λc3=>
   .ret c3)<|
  .ret false,
 λ(x0,x1,_) hp=>by
  refine Tr.V λ_ _=>Tr.I (λ_=>Tr.G1 ?_ λ_=>Tr.V λ_ _=>Tr.V λ_ _=>Tr.R ?_) λ_=>Tr.R ?_
  all_goals (grind [v6])⟩
@[grind=] theorem Cb (x:Int):aO.f (x,32,())=(decide (0≤x)&&decide (x≤4294967295)):=by
 have h:=aO.c.h (x,32,()) trivial
 rw[Bool.eq_iff_iff]
 grind
@[grind=] theorem Cf (x:Int):aO.f (x,16,())=(decide (0≤x)&&decide (x≤65535)):=by
 have h:=aO.c.h (x,16,()) trivial
 rw[Bool.eq_iff_iff]
 grind
@[grind=] theorem B7 (x:Int):aO.f (x,48,())=(decide (0≤x)&&decide (x≤281474976710655)):=by
 have h:=aO.c.h (x,48,()) trivial
 rw[Bool.eq_iff_iff]
 grind
@[grind=] theorem Cl (x:Int):aO.f (x,8,())=(decide (0≤x)&&decide (x≤255)):=by
 have h:=aO.c.h (x,8,()) trivial
 rw[Bool.eq_iff_iff]
 grind
@[grind=] theorem C5 (x:Int):aO.f (x,6,())=(decide (0≤x)&&decide (x≤63)):=by
 have h:=aO.c.h (x,6,()) trivial
 rw[Bool.eq_iff_iff]
 grind
noncomputable def jA:=dh st Tryz.func132 [gq] (ks:=[.sc (.int .i64),.sc (.int .i64)]) aO rB
noncomputable def aq:FT (Int×Int×Unit) (Bool) (λ_=>True) (λx v=>(x.2.1=32→(v=true↔0≤x.1∧x.1≤4294967295))∧(x.2.1=16→(v=true↔0≤x.1∧x.1≤65535))∧(x.2.1=48→(v=true↔0≤x.1∧x.1≤281474976710655))∧(x.2.1=8→(v=true↔0≤x.1∧x.1≤255))∧(x.2.1=6→(v=true↔0≤x.1∧x.1≤63))):= .mk λ(x0,x1,_)=>
  .val (eW.f (x1,1,62,())) λc1=>
  .ite c1 (.grd (decide (0≤x1))<|
   .val (IntKind.wrap .i64 ((IntKind.wrap .i64 (1*2 ^ (min x1.toNat 64)))-1)) λe2=>
   .val (eW.f (x0,0,e2,())) λc3=>
   .ret c3)<|
  .ret false
@[grind=] theorem Cd (x:Int):aq.f (x,32,())=(decide (0≤x)&&decide (x≤4294967295)):=by
 have h:=aq.c.h (x,32,()) trivial
 rw[Bool.eq_iff_iff]
 grind
@[grind=] theorem vU (x:Int):aq.f (x,16,())=(decide (0≤x)&&decide (x≤65535)):=by
 have h:=aq.c.h (x,16,()) trivial
 rw[Bool.eq_iff_iff]
 grind
@[grind=] theorem B5 (x:Int):aq.f (x,48,())=(decide (0≤x)&&decide (x≤281474976710655)):=by
 have h:=aq.c.h (x,48,()) trivial
 rw[Bool.eq_iff_iff]
 grind
@[grind=] theorem CA (x:Int):aq.f (x,8,())=(decide (0≤x)&&decide (x≤255)):=by
 have h:=aq.c.h (x,8,()) trivial
 rw[Bool.eq_iff_iff]
 grind
@[grind=] theorem Cr (x:Int):aq.f (x,6,())=(decide (0≤x)&&decide (x≤63)):=by
 have h:=aq.c.h (x,6,()) trivial
 rw[Bool.eq_iff_iff]
 grind
noncomputable def gz:=dh aY Tryz.func137 [gt] (ks:=[.sc (.int .i64),.sc (.int .i64)]) aq rB
noncomputable def lT:=[gh,qs]
def dM:Sh:=⟨[(0,false,[.down 0]),zi 1,zi 5],[.dar .conn]⟩
noncomputable def lO:Fx:=⟨185,Tryz.f185,[(0,la ⟨[0,1,5],[],false,1⟩ ⟨[1,4],[],false,1⟩)],1⟩
noncomputable def dP (v1:Int)(a:Int×List Conn):Tr (Stp (Int×List Conn) (Empty)):=
 .grd (bX a.2 v1)<|
 .grd ((decide (0≤v1))&&(decide (v1<((a.2.set v1.toNat ({(a.2.getD v1.toNat (Ty.zero .conn))with tuple.ip:=a.1}:Conn)).length:Int))))<|
 .val ((a.2.set v1.toNat ({(a.2.getD v1.toNat (Ty.zero .conn))with tuple.ip:=a.1}:Conn)).set v1.toNat ({((a.2.set v1.toNat ({(a.2.getD v1.toNat (Ty.zero .conn))with tuple.ip:=a.1}:Conn)).getD v1.toNat (Ty.zero .conn))with tuple.port:=(IntKind.wrap .i64 (a.1+1))}:Conn)) λl1=>
 .grd (bX l1 v1)<|
 .val (l1.set v1.toNat ({(l1.getD v1.toNat (Ty.zero .conn))with tuple.my:=(IntKind.wrap .i64 ((IntKind.wrap .i64 (a.1+1))+1))}:Conn)) λl2=>
 .val (IntKind.wrap .i64 ((IntKind.wrap .i64 ((IntKind.wrap .i64 (a.1+1))+1))+1)) λe3=>
 .grd (bX l2 v1)<|
 .grd ((decide (0≤v1))&&(decide (v1<((l2.set v1.toNat ({(l2.getD v1.toNat (Ty.zero .conn))with state:=e3}:Conn)).length:Int))))<|
 .val ((l2.set v1.toNat ({(l2.getD v1.toNat (Ty.zero .conn))with state:=e3}:Conn)).set v1.toNat ({((l2.set v1.toNat ({(l2.getD v1.toNat (Ty.zero .conn))with state:=e3}:Conn)).getD v1.toNat (Ty.zero .conn))with s.una:=(IntKind.wrap .i64 (e3+1))}:Conn)) λl4=>
 .cal bf.c ((IntKind.wrap .i64 ((IntKind.wrap .i64 (e3+1))+1)),()) λc5=>
 .grd (bX l4 v1)<|
 .val (IntKind.wrap .i64 ((IntKind.wrap .i64 ((IntKind.wrap .i64 (e3+1))+1))+1)) λe6=>
 .grd ((decide (0≤v1))&&(decide (v1<((l4.set v1.toNat ({(l4.getD v1.toNat (Ty.zero .conn))with s.data:=c5}:Conn)).length:Int))))<|
 .val ((l4.set v1.toNat ({(l4.getD v1.toNat (Ty.zero .conn))with s.data:=c5}:Conn)).set v1.toNat ({((l4.set v1.toNat ({(l4.getD v1.toNat (Ty.zero .conn))with s.data:=c5}:Conn)).getD v1.toNat (Ty.zero .conn))with s.sent:=e6}:Conn)) λl7=>
 .grd (bX l7 v1)<|
 .val (l7.set v1.toNat ({(l7.getD v1.toNat (Ty.zero .conn))with s.fin:=(((IntKind.wrap .i64 (e6+1)).tmod 3)==0)}:Conn)) λl8=>
 .grd (bX l8 v1)<|
 .val (l8.set v1.toNat ({(l8.getD v1.toNat (Ty.zero .conn))with s.finSent:=(((IntKind.wrap .i64 ((IntKind.wrap .i64 (e6+1))+1)).tmod 3)==0)}:Conn)) λl9=>
 .val (IntKind.wrap .i64 ((IntKind.wrap .i64 ((IntKind.wrap .i64 (e6+1))+1))+1)) λe10=>
 .grd (bX l9 v1)<|
 .val (l9.set v1.toNat ({(l9.getD v1.toNat (Ty.zero .conn))with s.done:=((e10.tmod 3)==0)}:Conn)) λl11=>
 .grd (bX l11 v1)<|
 .val (l11.set v1.toNat ({(l11.getD v1.toNat (Ty.zero .conn))with r.next:=(IntKind.wrap .i64 (e10+1))}:Conn)) λl12=>
 .cal bf.c ((IntKind.wrap .i64 ((IntKind.wrap .i64 (e10+1))+1)),()) λc13=>
 .grd (bX l12 v1)<|
 .val (IntKind.wrap .i64 ((IntKind.wrap .i64 ((IntKind.wrap .i64 (e10+1))+1))+1)) λe14=>
 .grd ((decide (0≤v1))&&(decide (v1<((l12.set v1.toNat ({(l12.getD v1.toNat (Ty.zero .conn))with r.data:=c13}:Conn)).length:Int))))<|
 .cal ga.c (((l12.set v1.toNat ({(l12.getD v1.toNat (Ty.zero .conn))with r.data:=c13}:Conn)).getD v1.toNat (Ty.zero .conn)).r.held,e14,()) λc15=>
 .val ((l12.set v1.toNat ({(l12.getD v1.toNat (Ty.zero .conn))with r.data:=c13}:Conn)).set v1.toNat ({((l12.set v1.toNat ({(l12.getD v1.toNat (Ty.zero .conn))with r.data:=c13}:Conn)).getD v1.toNat (Ty.zero .conn))with r.held:=c15.2}:Conn)) λl16=>
 .grd (bX l16 v1)<|
 .grd ((decide (0≤v1))&&(decide (v1<((l16.set v1.toNat ({(l16.getD v1.toNat (Ty.zero .conn))with r.fin:=c15.1}:Conn)).length:Int))))<|
 .val ((l16.set v1.toNat ({(l16.getD v1.toNat (Ty.zero .conn))with r.fin:=c15.1}:Conn)).set v1.toNat ({((l16.set v1.toNat ({(l16.getD v1.toNat (Ty.zero .conn))with r.fin:=c15.1}:Conn)).getD v1.toNat (Ty.zero .conn))with r.done:=(((IntKind.wrap .i64 (c15.1+1)).tmod 3)==0)}:Conn)) λl17=>
 .grd (bX l17 v1)<|
 .val (l17.set v1.toNat ({(l17.getD v1.toNat (Ty.zero .conn))with window:=(IntKind.wrap .i64 ((IntKind.wrap .i64 (c15.1+1))+1))}:Conn)) λl18=>
 .val (IntKind.wrap .i64 ((IntKind.wrap .i64 ((IntKind.wrap .i64 (c15.1+1))+1))+1)) λe19=>
 .grd (bX l18 v1)<|
 .grd ((decide (0≤v1))&&(decide (v1<((l18.set v1.toNat ({(l18.getD v1.toNat (Ty.zero .conn))with most:=e19}:Conn)).length:Int))))<|
 .val ((l18.set v1.toNat ({(l18.getD v1.toNat (Ty.zero .conn))with most:=e19}:Conn)).set v1.toNat ({((l18.set v1.toNat ({(l18.getD v1.toNat (Ty.zero .conn))with most:=e19}:Conn)).getD v1.toNat (Ty.zero .conn))with opts.mss:=(IntKind.wrap .i64 (e19+1))}:Conn)) λl20=>
 .grd (bX l20 v1)<|
 .val (l20.set v1.toNat ({(l20.getD v1.toNat (Ty.zero .conn))with opts.scale:=(IntKind.wrap .i64 ((IntKind.wrap .i64 (e19+1))+1))}:Conn)) λl21=>
 .val (IntKind.wrap .i64 ((IntKind.wrap .i64 ((IntKind.wrap .i64 (e19+1))+1))+1)) λe22=>
 .grd (bX l21 v1)<|
 .val (l21.set v1.toNat ({(l21.getD v1.toNat (Ty.zero .conn))with opts.sack:=((e22.tmod 3)==0)}:Conn)) λl23=>
 .grd (bX l23 v1)<|
 .val (l23.set v1.toNat ({(l23.getD v1.toNat (Ty.zero .conn))with opts.stamp:=(((IntKind.wrap .i64 (e22+1)).tmod 3)==0)}:Conn)) λl24=>
 .grd (bX l24 v1)<|
 .val (l24.set v1.toNat ({(l24.getD v1.toNat (Ty.zero .conn))with opts.val:=(IntKind.wrap .i64 ((IntKind.wrap .i64 (e22+1))+1))}:Conn)) λl25=>
 .val (IntKind.wrap .i64 ((IntKind.wrap .i64 ((IntKind.wrap .i64 (e22+1))+1))+1)) λe26=>
 .grd (bX l25 v1)<|
 .grd ((decide (0≤v1))&&(decide (v1<((l25.set v1.toNat ({(l25.getD v1.toNat (Ty.zero .conn))with opts.echo:=e26}:Conn)).length:Int))))<|
 .val ((l25.set v1.toNat ({(l25.getD v1.toNat (Ty.zero .conn))with opts.echo:=e26}:Conn)).set v1.toNat ({((l25.set v1.toNat ({(l25.getD v1.toNat (Ty.zero .conn))with opts.echo:=e26}:Conn)).getD v1.toNat (Ty.zero .conn))with timer:=(IntKind.wrap .i64 (e26+1))}:Conn)) λl27=>
 .grd (bX l27 v1)<|
 .val (l27.set v1.toNat ({(l27.getD v1.toNat (Ty.zero .conn))with tries:=(IntKind.wrap .i64 ((IntKind.wrap .i64 (e26+1))+1))}:Conn)) λl28=>
 .val (IntKind.wrap .i64 ((IntKind.wrap .i64 ((IntKind.wrap .i64 (e26+1))+1))+1)) λe29=>
 .ret (.next (e29,l28))
noncomputable def aL:dM.V→qb dM (Int×List Conn):=λ(v0,v1,v2,_)=>⟨v1,(v0,v2),λv1 a=>(a.1,v1,a.2,()),λv1 a=>(decide (v1<(a.2.length:Int))),dP,up,1,(Int.toNat ((v2.length:Int)-v1)),Empty.elim,Prod.mk,oN (.exit 0) ⟨[zi 1,zu 4],[.dar .conn]⟩ (λx=>(x.2.1,x.2.2,()))⟩
theorem oy:LS Tryz.prog lO [0] (n4 0 dM aL):=iJ st (bJ lT) _ aL [] trivial
theorem oc {v0 v1:Int}{v2:List Conn}(h0:0≤v1)(h1:(v2.length:Int)≤4611686018427387904)(h2:sL aG v2)(h3:v2.length=v2.length∧eF aG v2∧v0≤9223372036854775807):(aL (v0,v1,v2,())).S (λv1 a=>a.2.length=v2.length∧a.2.length=v2.length∧eF aG a.2∧a.1≤9223372036854775807) (λ_=>True):=by
 refine LC.okS ⟨rfl,h3⟩ (λj a hj hv=>⟨⟨?_, ?_⟩, ?_⟩) (λa hv=> ?_)
 ·simp only[aL,decide_eq_true_eq]at*;omega
 ·simp only[aL]at*;exact BE (by omega) (by omega)
 ·refine Tr.G2 ?_ λ_=>Tr.G2 ?_ λ_=>Tr.V λ_ _=>Tr.G2 ?_ λ_=>Tr.V λ_ _=>Tr.V λ_ _=>Tr.G2 ?_ λ_=>Tr.G2 ?_ λ_=>Tr.V λ_ _=>Tr.C ?_ λ_ _ _=>Tr.G2 ?_ λ_=>Tr.V λ_ _=>Tr.G2 ?_ λ_=>Tr.V λ_ _=>Tr.G2 ?_ λ_=>Tr.V λ_ _=>Tr.G2 ?_ λ_=>Tr.V λ_ _=>Tr.V λ_ _=>Tr.G2 ?_ λ_=>Tr.V λ_ _=>Tr.G2 ?_ λ_=>Tr.V λ_ _=>Tr.C ?_ λ_ _ _=>Tr.G2 ?_ λ_=>Tr.V λ_ _=>Tr.G2 ?_ λ_=>Tr.C ?_ λ_ _ _=>Tr.V λ_ _=>Tr.G2 ?_ λ_=>Tr.G2 ?_ λ_=>Tr.V λ_ _=>Tr.G2 ?_ λ_=>Tr.V λ_ _=>Tr.V λ_ _=>Tr.G2 ?_ λ_=>Tr.G2 ?_ λ_=>Tr.V λ_ _=>Tr.G2 ?_ λ_=>Tr.V λ_ _=>Tr.V λ_ _=>Tr.G2 ?_ λ_=>Tr.V λ_ _=>Tr.G2 ?_ λ_=>Tr.V λ_ _=>Tr.G2 ?_ λ_=>Tr.V λ_ _=>Tr.V λ_ _=>Tr.G2 ?_ λ_=>Tr.G2 ?_ λ_=>Tr.V λ_ _=>Tr.G2 ?_ λ_=>Tr.V λ_ _=>Tr.V λ_ _=>Tr.Rn ?_
  all_goals (try simp only[aL]at*)<;>(grind)
 ·simp only[aL,decide_eq_false_iff_not]at*;omega
noncomputable def ij:FT (List Conn×Int×Unit) (Int×List Conn) (λx=>sL aG x.1∧x.2.1≤9223372036854775807) (λx v=>sL aG v.2∧v.1≤9223372036854775807):=⟨λ(x0,x1,_)=>
  .lp (aL (x1,0,x0,())).lp λ(_,a30_0,a30_1)=>
  .ret (a30_0,a30_1),
 λ(x0,x1,_) hp=>by
  refine Tr.L (oc ?_ ?_ ?_ ?_) (λ(a30_0,a30_1) _=>Tr.R ?_) (λp=>Empty.elim p)
  all_goals ((try simp only[aL,LC.lp,LC.ct,Ct.lp]at*)<;>grind)⟩
noncomputable def sV:=mz st lO lT [(n4 0 dM aL)] [.wr false [.down 0],.sc (.int .i64)] [.dar .conn] (λx y=>(y.1,x.2.1,())) ij (λv=>[(false,[.c (.int .i64 v.1)])]) (λx y v=>(v.2,())) Tryz.func185 (by kernel_rfl) ⟨oy,trivial⟩
def jM:Sh:=⟨[zl 0 .entr,zo 3 0,zi 4],[za .entr]⟩
noncomputable def jZ (v0:List Entr)(v1:Int)(a:List Entr):Tr (Stp (List Entr) (Empty)):=
 .grd (bX v0 v1)<|
 .val (oD.f ((v0.getD v1.toNat (Ty.zero .entr)),())) λc1=>
 .grd (bX a v1)<|
 .ret (.next (a.set v1.toNat c1))
noncomputable def cU:jM.V→qb jM (List Entr):=λ(v0,v1,v2,_)=>⟨v1,v2,λv1 a=>(v0,v1,a,()),λv1 _=>(decide (v1<(v0.length:Int))),jZ v0,up,1,(Int.toNat ((v0.length:Int)-v1)),Empty.elim,Prod.mk,oN (.exit 0) ⟨[zu 2,zo 3 0],[za .entr]⟩ (λx=>(x.2,()))⟩
theorem pO {v0 v2:List Entr}{v1:Int}(h0:0≤v1)(h1:(v0.length:Int)≤4611686018427387904)(h2:sS v0)(h3:sS v2)(h4:v2.length=v2.length∧(v0.length:Int)≤(v2.length:Int)):(cU (v0,v1,v2,())).U (v0.length:Int) (λv1 a=>a.length=v2.length∧(v0.length:Int)≤(a.length:Int)) (λ_=>True):=
 pI (a:=v2) h0 h1 h4
noncomputable def jx:FT (List Entr×Unit) (List Entr) (λx=>sS x.1) (λx v=>sS v):=⟨λ(x0,_)=>
  .grd ((((decide (0≤(x0.length:Int)))&&(decide ((x0.length:Int)=(x0.length:Int))))&&(decide ((x0.length:Int)*24≤(aA:Int))))&&(decide ((x0.length:Int)≤(aA:Int))))<|
  .lp (cU (x0,0,(List.replicate ((x0.length:Int).toNat) (⟨0,0,0⟩:Entr)),())).lp λ(_,a2_0)=>
  .ret a2_0,
 λ(x0,_) hp=>by
  refine Tr.G4 ?_ λ_=>Tr.L (pO ?_ ?_ ?_ ?_ ?_) (λa2_0 _=>Tr.R ?_) (λp=>Empty.elim p)
  all_goals ((try simp only[cU,LC.lp,LC.ct,Ct.lp]at*)<;>grind)⟩
noncomputable def uR:=f7 aY Tryz.func194 [(0,lb [0,3,4] [2,3])] [vR] 0 cU (ks:=[.sc (.sl .entr)]) jx (λv=>[(false,[sc (.o true) .entr v])])
def jI:Sh:=⟨[zl 0 .entr,zl 1 .entr,zi 5],[]⟩
noncomputable def jD (v0 v1:List Entr)(v2:Int)(a:Unit):Tr (Stp (Unit) ((Unit))):=
 .grd (bX v0 v2)<|
 .grd (bX v1 v2)<|
 .val (lB.f ((v0.getD v2.toNat (Ty.zero .entr)),(v1.getD v2.toNat (Ty.zero .entr)),())) λc1=>
 .ite (!c1) (.ret (.out ()))<|
 .ret (.next ())
noncomputable def eo:jI.V→yK jI Unit (Unit):=λ(v0,v1,v2,_)=>⟨v2,(),λv2 _=>(v0,v1,v2,()),λv2 _=>(decide (v2<(v0.length:Int))),jD v0 v1,up,1,(Int.toNat ((v0.length:Int)-v2)),.inl,eR,oB .ret ⟨[zb 4],[]⟩ (λ_=>(false,())) (.exit 0) ⟨[zu 4],[]⟩ (λ_=>())⟩
theorem pn {v0 v1:List Entr}{v2:Int}(h0:0≤v2)(h1:(v0.length:Int)≤4611686018427387904)(h2:(v0.length:Int)≤(v1.length:Int)):(eo (v0,v1,v2,())).U (v0.length:Int) (λ_ _=>True) (λ_=>True):=
 pI h0 h1 trivial
noncomputable def jg:FT (List Entr×List Entr×Unit) (Bool) (λx=>sS x.1∧sS x.2.1) (λ_ _=>True):= .mk (λ(x0,x1,_)=>
  .ite ((x0.length:Int) != (x1.length:Int)) (.ret false)<|
  .lp (eo (x0,x1,0,())).lp λw2=> .sum w2 (λ_=>
  .ret false)<|
  λ_=>
  .ret true) (wH @pn)
noncomputable def tY:=f7 st Tryz.func197 [(0,lb [0,1,5] [4])] [vN] 0 eo (ks:=[.sc (.sl .entr),.sc (.sl .entr)]) jg rB
noncomputable def su:=[gz,gt]
noncomputable def sr:Fx:=⟨209,Tryz.f209,[(3000001,rA 0 15)],0⟩
noncomputable def gY:FT (Opti×Unit) (Bool) (λ_=>True) (λ_ _=>True):= .mk λ(x0,_)=>
  .bnd (β:=Bool×Unit) (.ite (!x0.stamp) (.ite (x0.val != 0) (.ret (true,()))<|
    .ret ((x0.echo != 0),()))<|
   .ret (false,())) λ(u1a0,_)=>
  .ite u1a0 (.ret false)<|
  .cal aq.c (x0.mss,16,()) λc2=>
  .ite c2 (.val (eW.f (x0.scale,(-1),14,())) λc3=>
   .ite c3 (.cal aq.c (x0.val,32,()) λc4=>
    .ite c4 (.cal aq.c (x0.echo,32,()) λc5=>
     .ret c5)<|
    .ret false)<|
   .ret false)<|
  .ret false
noncomputable def sk:=ol aY sr su [] (ks:=[.st .opti]) gY rB Tryz.func209 trivial
noncomputable def sN:=[jA,gq]
noncomputable def sw:Fx:=⟨221,Tryz.f221,[(3000001,rA 0 15)],0⟩
noncomputable def gZ:FT (Opti×Unit) (Bool) (λ_=>True) (λ_ _=>True):= .mk λ(x0,_)=>
  .bnd (β:=Bool×Unit) (.ite (!x0.stamp) (.ite (x0.val != 0) (.ret (true,()))<|
    .ret ((x0.echo != 0),()))<|
   .ret (false,())) λ(u1a0,_)=>
  .ite u1a0 (.ret false)<|
  .cal aO.c (x0.mss,16,()) λc2=>
  .ite c2 (.val (fP.f (x0.scale,(-1),14,())) λc3=>
   .ite c3 (.cal aO.c (x0.val,32,()) λc4=>
    .ite c4 (.cal aO.c (x0.echo,32,()) λc5=>
     .ret c5)<|
    .ret false)<|
   .ret false)<|
  .ret false
noncomputable def ss:=ol st sw sN [] (ks:=[.st .opti]) gZ rB Tryz.func221 trivial
def gJ:Sh:=⟨[zs 0,zp 2 0,zp 4 1,zi 5],[zx .opti,zx .opti]⟩
noncomputable def aZ (v0:ac)(a:Int×Opti):Tr (Stp (Int×Opti) ((Opti×Opti)⊕(Opti))):=
 .ite (decide (a.1<(v0.length:Int))) (.grd (bX v0 a.1)<|
  .ite ((Z v0 a.1.toNat) != 0) (.grd (bX v0 a.1)<|
   .ite ((Z v0 a.1.toNat)==1) (.ret (.next ((IntKind.wrap .i64 (a.1+1)),a.2)))<|
   .bnd (β:=Bool×Unit) (.ite (decide ((v0.length:Int)≤(IntKind.wrap .i64 (a.1+1)))) (.ret (true,()))<|
    .grd (bX v0 (IntKind.wrap .i64 (a.1+1)))<|
    .ite (decide ((Z v0 ((IntKind.wrap .i64 (a.1+1)).toNat))<2)) (.ret (true,()))<|
    .grd (bX v0 (IntKind.wrap .i64 (a.1+1)))<|
    .ret ((decide ((IntKind.wrap .i64 ((v0.length:Int)-a.1))<(IntKind.wrap .i64 (Z v0 ((IntKind.wrap .i64 (a.1+1)).toNat))))),())) λ(u2a0,_)=>
   .ite u2a0 (.val (dE.f (())) λc3=>
    .ret (.out (.inl (c3,a.2))))<|
   .grd (bX v0 (IntKind.wrap .i64 (a.1+1)))<|
   .val (IntKind.wrap .i64 (a.1+(IntKind.wrap .i64 (Z v0 ((IntKind.wrap .i64 (a.1+1)).toNat))))) λe4=>
   .grd (DK v0 a.1 e4)<|
   .cal pT.c (a.2,((v0.take e4.toNat).drop a.1.toNat),()) λc5=>
   .ret (.next (e4,c5)))<|
  .ret (.out (.inr (a.2))))<|
 .ret (.out (.inr (a.2)))
instance s_ReadOptions_L0_i:Inhabited ((Opti×Opti)⊕(Opti)):=⟨.inl default⟩
noncomputable def cM:gJ.V→LW gJ (Int×Opti) ((Opti×Opti)⊕(Opti)):=λ(v0,v1,v2,v3,_)=>⟨(v1,v3),λa=>(v0,a.1,v2,a.2,()),aZ v0,Int.toNat ((v0.length:Int)-v1),oB .ret ⟨[zp 2 0,zb 3,zp 4 1],[zx .opti,zx .opti]⟩ (λp=>(false,p.1,p.2,())) (.exit 0) ⟨[zp 2 0,zu 3,zp 4 1],[zx .opti,zx .opti]⟩ (λp=>(v2,p,()))⟩
theorem mI {v0:ac}{v1:Int}{v2 v3:Opti}(h0:sS v0)(h1:0≤v1):(cM (v0,v1,v2,v3,())).W (λ_=>True):=
 DT (a:=(v1,v3)) (λa=>0≤a.1) (λa=>Int.toNat ((v0.length:Int)-a.1)) h1
noncomputable def ec:FT (ac×Unit) (Opti×Bool) (λx=>sS x.1) (λ_ _=>True):= .mk (λ(x0,_)=>
  .val (dE.f (())) λc1=>
  .lp (cM (x0,0,(⟨0,0,false,false,0,0⟩:Opti),c1,())).lp λq6=> .sum q6 (λ(p6a0,_)=>
  .ret (p6a0,false))<|
  λp6b0=>
  .ret (p6b0,true)) (wH @mI)
noncomputable def pQ:=Aq st Tryz.func252 [(0,lb [0,2,4,5] [2,3,4]),(3000006,rA 0 47)] [sj,zy] 0 cM (ks:=[.sc .str]) ec (λv=>[(true,oi v.1),(false,[.c (.bool v.2)])])
noncomputable def b9:FT (ac×Int×Int×Unit) (Int) (λx=>sS x.1) (λ_ _=>True):= .mk λ(x0,x1,x2,_)=>
  .cal li.c (x0,x1,x2,()) λc1=>
  .ret c1.1
noncomputable def nG:=dh aY Tryz.func267 [vF] (ks:=[.sc .str,.sc (.int .i64),.sc (.int .i64)]) b9 rI
def jS:Sh:=⟨[zl 0 .piec,zl 1 .piec,zi 5],[]⟩
noncomputable def jQ (v0 v1:List Piec)(v2:Int)(a:Unit):Tr (Stp (Unit) ((Unit))):=
 .grd (bX v0 v2)<|
 .grd (bX v1 v2)<|
 .val (lA.f ((v0.getD v2.toNat (Ty.zero .piec)),(v1.getD v2.toNat (Ty.zero .piec)),())) λc1=>
 .ite (!c1) (.ret (.out ()))<|
 .ret (.next ())
noncomputable def en:jS.V→yK jS Unit (Unit):=λ(v0,v1,v2,_)=>⟨v2,(),λv2 _=>(v0,v1,v2,()),λv2 _=>(decide (v2<(v0.length:Int))),jQ v0 v1,up,1,(Int.toNat ((v0.length:Int)-v2)),.inl,eR,oB .ret ⟨[zb 4],[]⟩ (λ_=>(false,())) (.exit 0) ⟨[zu 4],[]⟩ (λ_=>())⟩
theorem pK {v0 v1:List Piec}{v2:Int}(h0:0≤v2)(h1:(v0.length:Int)≤4611686018427387904)(h2:(v0.length:Int)≤(v1.length:Int)):(en (v0,v1,v2,())).U (v0.length:Int) (λ_ _=>True) (λ_=>True):=
 pI h0 h1 trivial
noncomputable def jB:FT (List Piec×List Piec×Unit) (Bool) (λx=>sL be x.1∧sL be x.2.1) (λ_ _=>True):= .mk (λ(x0,x1,_)=>
  .ite ((x0.length:Int) != (x1.length:Int)) (.ret false)<|
  .lp (en (x0,x1,0,())).lp λw2=> .sum w2 (λ_=>
  .ret false)<|
  λ_=>
  .ret true) (wH @pK)
noncomputable def ud:=f7 st Tryz.func273 [(0,lb [0,1,5] [4])] [wt] 0 en (ks:=[.sc (.sl .piec),.sc (.sl .piec)]) jB rB
noncomputable def ca:FT (Fram×Unit) (Bool) (λ_=>True) (λx v=>(v=true→x.1.body.length≤1586)):= .mk λ(x0,_)=>
  .cal aq.c (x0.dst,48,()) λc1=>
  .ite c1 (.cal aq.c (x0.src,48,()) λc2=>
   .ite c2 (.val (eW.f (x0.type,1536,65535,())) λc3=>
    .ite c3 (.ret (decide ((x0.body.length:Int)≤1586)))<|
    .ret false)<|
   .ret false)<|
  .ret false
noncomputable def pc:=dh aY Tryz.func288 [gz,gt] (ks:=[.st .fram]) ca rB
def kZ:Sh:=⟨[zi 0,zo 5 0,zi 6],[za .u8]⟩
noncomputable def eP (v1:Int)(a:Int×List Int):Tr (Stp (Int×List Int) (Empty)):=
 .grd (bX a.2 v1)<|
 .ret (.next ((IntKind.wrap .i64 (a.1.tdiv 256)),(a.2.set v1.toNat (IntKind.wrap .u8 (a.1.tmod 256)))))
noncomputable def dK:kZ.V→qb kZ (Int×List Int):=λ(v0,v1,v2,_)=>⟨v1,(v0,v2),λv1 a=>(a.1,v1,a.2,()),λv1 _=>(decide (0≤v1)),eP,dn,(-1),(Int.toNat (v1-0+1)),Empty.elim,Prod.mk,oN (.exit 0) ⟨[zu 4,zo 5 0],[za .u8]⟩ (λx=>(x.2.2,()))⟩
theorem rf {v0 v1:Int}{v2:List Int}(h0:v1≤9223372036854775807)(h1:sS v2)(h2:v2.length=v2.length∧v1<(v2.length:Int)):(dK (v0,v1,v2,())).D 0 (λv1 a=>a.2.length=v2.length∧v1<(a.2.length:Int)) (λ_=>True):=
 D2 (a:=(v0,v2)) h0 (by decide) h2
noncomputable def dU:FT (Int×Int×Unit) (ac) (λ_=>True) (λx v=>sS v∧(v.length:Int)≤max x.2.1 0):=⟨λ(x0,x1,_)=>
  .bnd (β:=Bool×Unit) (.val (fP.f (x1,1,6,())) λc1=>
   .ite (!c1) (.ret (true,()))<|
   .cal aO.c (x0,(IntKind.wrap .i64 (8*x1)),()) λc2=>
   .ret ((!c2),())) λ(u3a0,_)=>
  .ite u3a0 (.ret [])<|
  .grd ((((decide (0≤x1))&&(decide (x1=x1)))&&(decide (x1*1≤(aA:Int))))&&(decide (x1≤(aA:Int))))<|
  .lp (dK (x0,(IntKind.wrap .i64 (x1-1)),(List.replicate x1.toNat 0),())).lp λ(_,_,a4_1)=>
  .ret (il a4_1),
 λ(x0,x1,_) hp=>by
  refine Tr.B (Q':=λ_=>True) (Tr.V λ_ _=>Tr.I (λ_=>Tr.R trivial) λ_=>Tr.C trivial λ_ _ _=>Tr.R trivial) (λ(u3a0,_) _ _=>Tr.I (λ_=>Tr.R ?_) λ_=>Tr.G4 ?_ λ_=>Tr.L (rf ?_ ?_ ?_) (λ(a4_0,a4_1) _=>Tr.R ?_) (λp=>Empty.elim p))
  all_goals ((try simp only[dK,LC.lp,LC.ct,Ct.lp,Tr.nice,jd]at*)<;>grind)⟩
noncomputable def oV:=f7 st Tryz.func327 [(0,lb [0,5,6] [4,5]),(3000001,rA 0 16)] [gq,jA] 0 dK (ks:=[.sc (.int .i64),.sc (.int .i64)]) dU (λv=>[(false,[.c (.str v)])])
noncomputable def pR:FT (ac×Unit) (Int) (λx=>sS x.1) (λ_ _=>True):= .mk λ(x0,_)=>
  .cal ld.c (x0,()) λc1=>
  .cal nm.c (c1,()) λc2=>
  .ret (IntKind.wrap .i64 (65535-c2))
noncomputable def yY:=dh st Tryz.func328 [wu,xS] (ks:=[.sc .str]) pR rI
def kh:Sh:=⟨[zi 0,zo 5 0,zi 6],[za .u8]⟩
noncomputable def bT (v1:Int)(a:Int×List Int):Tr (Stp (Int×List Int) (Empty)):=
 .grd (bX a.2 v1)<|
 .ret (.next ((a.1.fdiv 256),(a.2.set v1.toNat (IntKind.wrap .u8 a.1))))
noncomputable def bS:kh.V→qb kh (Int×List Int):=λ(v0,v1,v2,_)=>⟨v1,(v0,v2),λv1 a=>(a.1,v1,a.2,()),λv1 _=>(decide (0≤v1)),bT,dn,(-1),(Int.toNat (v1-0+1)),Empty.elim,Prod.mk,oN (.exit 0) ⟨[zu 4,zo 5 0],[za .u8]⟩ (λx=>(x.2.2,()))⟩
theorem qk {v0 v1:Int}{v2:List Int}(h0:v1≤9223372036854775807)(h1:sS v2)(h2:v2.length=v2.length∧v1<(v2.length:Int)):(bS (v0,v1,v2,())).D 0 (λv1 a=>a.2.length=v2.length∧v1<(a.2.length:Int)) (λ_=>True):=
 D2 (a:=(v0,v2)) h0 (by decide) h2
noncomputable def bi:FT (Int×Int×Unit) (ac) (λ_=>True) (λx v=>sS v∧(v.length:Int)≤max x.2.1 0):=⟨λ(x0,x1,_)=>
  .bnd (β:=Bool×Unit) (.val (eW.f (x1,1,6,())) λc1=>
   .ite (!c1) (.ret (true,()))<|
   .cal aq.c (x0,(IntKind.wrap .i64 (8*x1)),()) λc2=>
   .ret ((!c2),())) λ(u3a0,_)=>
  .ite u3a0 (.ret [])<|
  .grd ((((decide (0≤x1))&&(decide (x1=x1)))&&(decide (x1*1≤(aA:Int))))&&(decide (x1≤(aA:Int))))<|
  .lp (bS (x0,(IntKind.wrap .i64 (x1-1)),(List.replicate x1.toNat 0),())).lp λ(_,_,a4_1)=>
  .ret (il a4_1),
 λ(x0,x1,_) hp=>by
  refine Tr.B (Q':=λ_=>True) (Tr.V λ_ _=>Tr.I (λ_=>Tr.R trivial) λ_=>Tr.C trivial λ_ _ _=>Tr.R trivial) (λ(u3a0,_) _ _=>Tr.I (λ_=>Tr.R ?_) λ_=>Tr.G4 ?_ λ_=>Tr.L (qk ?_ ?_ ?_) (λ(a4_0,a4_1) _=>Tr.R ?_) (λp=>Empty.elim p))
  all_goals ((try simp only[bS,LC.lp,LC.ct,Ct.lp,Tr.nice,jd]at*)<;>grind)⟩
noncomputable def o8:=f7 aY Tryz.func337 [(0,lb [0,5,6] [4,5]),(3000001,rA 0 16)] [gt,gz] 0 bS (ks:=[.sc (.int .i64),.sc (.int .i64)]) bi (λv=>[(false,[.c (.str v)])])
noncomputable def pY:FT (ac×Unit) (Int) (λx=>sS x.1) (λ_ _=>True):= .mk λ(x0,_)=>
  .cal k8.c (x0,()) λc1=>
  .cal nE.c (c1,()) λc2=>
  .ret (IntKind.wrap .i64 (65535-c2))
noncomputable def yI:=dh aY Tryz.func338 [u6,wY] (ks:=[.sc .str]) pY rI
noncomputable def lm:FT (Fram×Unit) (Bool) (λ_=>True) (λx v=>(v=true→x.1.body.length≤1586)):= .mk λ(x0,_)=>
  .cal aO.c (x0.dst,48,()) λc1=>
  .ite c1 (.cal aO.c (x0.src,48,()) λc2=>
   .ite c2 (.val (fP.f (x0.type,1536,65535,())) λc3=>
    .ite c3 (.ret (decide ((x0.body.length:Int)≤1586)))<|
    .ret false)<|
   .ret false)<|
  .ret false
noncomputable def wo:=dh st Tryz.func351 [jA,gq] (ks:=[.st .fram]) lm rB
noncomputable def nl:=[vv]
def eq:Sh:=⟨[zl 0 .piec,zi 1,zi 5],[]⟩
noncomputable def nz:Fx:=⟨383,Tryz.f383,[(0,lb [0,1,5] [1,4])],0⟩
noncomputable def fQ (v0:List Piec)(v2:Int)(a:Int):Tr (Stp (Int) ((Int))):=
 .grd (bX v0 v2)<|
 .cal bu.c ((v0.getD v2.toNat (Ty.zero .piec)),a,()) λc1=>
 .ite (decide (c1<0)) (.ret (.out c1))<|
 .ret (.next c1)
noncomputable def bG:eq.V→yK eq Int (Int):=λ(v0,v1,v2,_)=>⟨v2,v1,λv2 a=>(v0,a,v2,()),λv2 _=>(decide (v2<(v0.length:Int))),fQ v0,up,1,(Int.toNat ((v0.length:Int)-v2)),.inl,eR,oB .ret ⟨[zi 1,zi 4],[]⟩ (λp=>(p,(-1),())) (.exit 0) ⟨[zi 1,zu 4],[]⟩ (λx=>(x.2,()))⟩
theorem pL:LS Tryz.prog nz [0] (n4 0 eq bG):=iJ st (bJ nl) _ bG [] trivial
theorem py {v0:List Piec}{v1 v2:Int}(h0:0≤v2)(h1:(v0.length:Int)≤4611686018427387904):(bG (v0,v1,v2,())).U (v0.length:Int) (λ_ _=>True) (λ_=>True):=
 pI (a:=v1) h0 h1 trivial
noncomputable def eu:FX (List Piec×Int×Unit) (Int) (λ_=>True) (aQ [.sc (.sl .piec),.sc (.int .i64)]):=⟨λ(x0,x1,_)=>
  .ite (decide ((IntKind.wrap .i64 (x1-(x0.length:Int)))<0)) (.ret (-1))<|
  .lp (bG (x0,(IntKind.wrap .i64 (x1-(x0.length:Int))),0,())).lp λw2=> .sum w2 (λ_=>
  .ret (-1))<|
  λ(_,a2_0)=>
  .ret a2_0,
 λ(x0,x1,_) hp hf=>by
  simp only[aQ,Pk.fact,cZ,cg,Fl.fact,Ty.fl,Ty.toH]at hf
  refine Tr.I (λ_=>Tr.R trivial) λ_=>Tr.L (py ?_ ?_) (λa2_0 _=>Tr.Sr (Tr.R trivial)) (λp2a0 _=>Tr.Sl (Tr.R trivial))
  all_goals ((try simp only[bG,LC.lp,LC.ct,Ct.lp]at*)<;>grind)⟩
theorem wP (xs:List Piec)(k:Int)(h0:0≤k)(h1:k≤1048576)(hl:xs.length≤140737488355328)(he:nQ .piec xs)(h:0≤eu.f (xs,k,())):eu.f (xs,k,())≤k∧xs.length≤1048576∧eF be xs:=by
 have w:IntKind.wrap .i64 (k-(xs.length:Int))=k-(xs.length:Int):=ap (by omega) (by omega)
 simp only[FX.f,PX,eu,bG,w,av]at h⊢
 by_cases c:k-(xs.length:Int)<0
 ·rw[decide_eq_true c,cond_true]at h;omega
 rw[decide_eq_false c,cond_false]at h⊢
 have hf:∀(j:Nat) x a,xs[j]? =some x→(fQ xs (j:Int) a).nice=(bif decide (bu.f (x,a,())<0)then Stp.out (bu.f (x,a,()))else Stp.next (bu.f (x,a,()))):=λj x a hx=>by
  simp only[PX,fQ,aj,getD_some hx]
 rw[bQ xs _ rfl (F:=λ_ x a=>(bif decide (bu.f (x,a,())<0)then Stp.out (bu.f (x,a,()))else Stp.next (bu.f (x,a,())))) hf]at h⊢
 cases hn:fi (λ_ x a=>(bif decide (bu.f (x,a,())<0)then Stp.out (bu.f (x,a,()))else Stp.next (bu.f (x,a,())))) 0 xs (k-(xs.length:Int))with
 |out p=>rw[hn]at h;simp only[Stp.elim]at h;omega
 |next b=>
  obtain⟨h2,h3⟩:=nY (λx a=>bu.f (x,a,())) be xs 0 _ b (λx hx k h0 h1 h=>(have h4:=y8 x k h0 h1 (he x hx (.str x.text) (List.mem_cons_of_mem _ List.mem_cons_self)).slen h;⟨h4.1,(by unfold be;omega)⟩)) (by omega) (by omega) hn
  simp only[Stp.elim]
  exact⟨by omega,by omega,h3⟩
noncomputable def uH:=zn st nz nl [(n4 0 eq bG)] (ks:=[.sc (.sl .piec),.sc (.int .i64)]) eu rI Tryz.func383 ⟨pL,trivial⟩
def jU:Sh:=⟨[zl 0 .piec,zo 3 0,zi 4],[za .piec]⟩
noncomputable def jP (v0:List Piec)(v1:Int)(a:List Piec):Tr (Stp (List Piec) (Empty)):=
 .grd (bX v0 v1)<|
 .cal om.c ((v0.getD v1.toNat (Ty.zero .piec)),()) λc1=>
 .grd (bX a v1)<|
 .ret (.next (a.set v1.toNat c1))
noncomputable def cW:jU.V→qb jU (List Piec):=λ(v0,v1,v2,_)=>⟨v1,v2,λv1 a=>(v0,v1,a,()),λv1 _=>(decide (v1<(v0.length:Int))),jP v0,up,1,(Int.toNat ((v0.length:Int)-v1)),Empty.elim,Prod.mk,oN (.exit 0) ⟨[zu 2,zo 3 0],[za .piec]⟩ (λx=>(x.2,()))⟩
theorem pr {v0 v2:List Piec}{v1:Int}(h0:0≤v1)(h1:(v0.length:Int)≤4611686018427387904)(h2:sL be v0)(h3:sL be v2)(h4:v2.length=v2.length∧eF be v2∧(v0.length:Int)≤(v2.length:Int)):(cW (v0,v1,v2,())).U (v0.length:Int) (λv1 a=>a.length=v2.length∧eF be a∧(v0.length:Int)≤(a.length:Int)) (λ_=>True):=
 pI (a:=v2) h0 h1 h4
noncomputable def jh:FT (List Piec×Unit) (List Piec) (λx=>sL be x.1) (λx v=>sL be v):=⟨λ(x0,_)=>
  .grd ((((decide (0≤(x0.length:Int)))&&(decide ((x0.length:Int)=(x0.length:Int))))&&(decide ((x0.length:Int)*24≤(aA:Int))))&&(decide ((x0.length:Int)≤(aA:Int))))<|
  .lp (cW (x0,0,(List.replicate ((x0.length:Int).toNat) (⟨0,[]⟩:Piec)),())).lp λ(_,a2_0)=>
  .ret a2_0,
 λ(x0,_) hp=>by
  refine Tr.G4 ?_ λ_=>Tr.L (pr ?_ ?_ ?_ ?_ ?_) (λa2_0 _=>Tr.R ?_) (λp=>Empty.elim p)
  all_goals ((try simp only[cW,LC.lp,LC.ct,Ct.lp]at*)<;>grind)⟩
noncomputable def uE:=f7 aY Tryz.func384 [(0,lb [0,3,4] [2,3])] [vD] 0 cW (ks:=[.sc (.sl .piec)]) jh (λv=>[(false,[sc (.o true) .piec v])])
noncomputable def cm:FX (Mac×Int×Unit) (Int) (λ_=>True) (aQ [.st .mac,.sc (.int .i64)]):=⟨λ(x0,x1,_)=>
  .cal bh.c (x0.rows,x1,()) λc1=>
  .ite (decide (c1<0)) (.ret (-1))<|
  .ret c1,
 λ(x0,x1,_) hp hf=>by
  simp only[aQ,Pk.fact,cZ,cg,Fl.fact,Ty.fl,Ty.toH]at hf
  refine Tr.C trivial λ_ _ _=>Tr.F (by kernel_rfl) trivial⟩
theorem Dj (x:Mac)(hl:x.rows.length≤140737488355328)(he:nQ .macRow x.rows)(h:0≤cm.f (x,1048576,())):eG x∧x.rows.length≤1048576:=by
 have e:cm.f (x,1048576,())=bif decide (bh.f (x.rows,1048576,())<0)then-1 else bh.f (x.rows,1048576,()):=by simp only[FX.f,PX,cm]
 rw[e]at h
 have:0≤bh.f (x.rows,1048576,()):=by
  by_cases c:bh.f (x.rows,1048576,())<0
  ·rw[decide_eq_true c,cond_true]at h;omega
  ·omega
 have h2:=uI x.rows 1048576 (by omega) (by omega) hl he this
 exact⟨by unfold eG;exact h2.1,h2.2⟩
theorem x3 (x:Mac)(k:Int)(h0:0≤k)(h1:k≤1048576)(hl:x.rows.length≤140737488355328)(he:nQ .macRow x.rows)(h:0≤cm.f (x,k,())):cm.f (x,k,())≤k∧eG x:=by
 have e:cm.f (x,k,())=(bif decide (bh.f (x.rows,k,())<0)then-1 else bh.f (x.rows,k,())):=by first|(simp only[FX.f,PX,cm];done)|(simp only[FX.f,PX,cm];rfl)
 rw[e]at h⊢
 obtain⟨p0,e0⟩:=dw h
 rw[e0]at h⊢
 have b0:=vy _ _ h0 (by omega) hl he p0
 refine⟨by omega, ?_⟩
 unfold eG
 exact⟨by omega,b0.2.2⟩
noncomputable def zc:=gE st Tryz.func11 [sY] (ks:=[.st .mac,.sc (.int .i64)]) cm rI
noncomputable def mQ:FT (Mac×Unit) (Mac) (λx=>eG x.1) (λx v=>eG v):= .mk λ(x0,_)=>
  .cal ik.c (x0.rows,()) λc1=>
  .ret ({x0 with rows:=c1}:Mac)
noncomputable def yJ:=dh aY Tryz.func14 [sJ] (ks:=[.st .mac]) mQ (λv=>[(true,Dp (.o true) v)])
noncomputable def mV:FT (Mac×Mac×Unit) (Bool) (λx=>eG x.1∧eG x.2.1) (λ_ _=>True):= .mk λ(x0,x1,_)=>
  .ite (!(x0.use==x1.use)) (.ret false)<|
  .ite (x0.k != x1.k) (.ret false)<|
  .ite (x0.l != x1.l) (.ret false)<|
  .cal gM.c (x0.rows,x1.rows,()) λc1=>
  .ite (!c1) (.ret false)<|
  .ret true
noncomputable def zj:=dh st Tryz.func17 [sU] (ks:=[.st .mac,.st .mac]) mV rB
noncomputable def le:FT (Mac×Int×Unit) (Int×List MacRow) (λx=>eG x.1∧x.2.1≤9223372036854775807) (λx v=>sL ao v.2∧v.1≤9223372036854775807):= .mk λ(x0,x1,_)=>
  .cal fy.c (x0.rows,x1,()) λc1=>
  .ret (c1.1,c1.2)
noncomputable def vH:=mz st ⟨19,Tryz.f19,[],1⟩ [px] [] [.wr true [.c .bool,.c (.int .u64),.c (.int .u64),.own 0],.sc (.int .i64)] [.arr .macRow] (λx y=>((⟨x.1.1,x.1.2.1,x.1.2.2.1,y.1⟩:Mac),x.2.1,())) le (λv=>[(false,[.c (.int .i64 v.1)])]) (λx y v=>(v.2,())) Tryz.func19 (by kernel_rfl) trivial
def jL:Sh:=⟨[zl 0 .issu,zl 1 .issu,zi 5],[]⟩
noncomputable def j4 (v0 v1:List Issu)(v2:Int)(a:Unit):Tr (Stp (Unit) ((Unit))):=
 .grd (bX v0 v2)<|
 .grd (bX v1 v2)<|
 .val (lq.f ((v0.getD v2.toNat (Ty.zero .issu)),(v1.getD v2.toNat (Ty.zero .issu)),())) λc1=>
 .ite (!c1) (.ret (.out ()))<|
 .ret (.next ())
noncomputable def et:jL.V→yK jL Unit (Unit):=λ(v0,v1,v2,_)=>⟨v2,(),λv2 _=>(v0,v1,v2,()),λv2 _=>(decide (v2<(v0.length:Int))),j4 v0 v1,up,1,(Int.toNat ((v0.length:Int)-v2)),.inl,eR,oB .ret ⟨[zb 4],[]⟩ (λ_=>(false,())) (.exit 0) ⟨[zu 4],[]⟩ (λ_=>())⟩
theorem pi {v0 v1:List Issu}{v2:Int}(h0:0≤v2)(h1:(v0.length:Int)≤4611686018427387904)(h2:(v0.length:Int)≤(v1.length:Int)):(et (v0,v1,v2,())).U (v0.length:Int) (λ_ _=>True) (λ_=>True):=
 pI h0 h1 trivial
noncomputable def fm:FT (List Issu×List Issu×Unit) (Bool) (λx=>sS x.1∧sS x.2.1) (λ_ _=>True):= .mk (λ(x0,x1,_)=>
  .ite ((x0.length:Int) != (x1.length:Int)) (.ret false)<|
  .lp (et (x0,x1,0,())).lp λw2=> .sum w2 (λ_=>
  .ret false)<|
  λ_=>
  .ret true) (wH @pi)
noncomputable def tS:=f7 st Tryz.func27 [(0,lb [0,1,5] [4])] [vP] 0 et (ks:=[.sc (.sl .issu),.sc (.sl .issu)]) fm rB
noncomputable def f0:FT (Resu×Int×Unit) (Int×List ac) (λx=>fc x.1∧x.2.1≤9223372036854775807) (λx v=>sL sS v.2∧v.1≤9223372036854775807):= .mk λ(x0,x1,_)=>
  .cal fA.c (x0.frames,x1,()) λc1=>
  .ret (c1.1,c1.2)
noncomputable def qR:=mz st ⟨31,Tryz.f31,[],1⟩ [pD] [] [.wr true [.own 0,.c (.int .i64),.c (.int .i64),.c (.int .i64),.c (.int .i64),.c (.int .i64),.c .str,.c .bool],.sc (.int .i64)] [.arr .str] (λx y=>((⟨y.1,x.1.1,⟨x.1.2.1,x.1.2.2.1,x.1.2.2.2.1⟩,x.1.2.2.2.2.1,x.1.2.2.2.2.2.1,x.1.2.2.2.2.2.2.1⟩:Resu),x.2.1,())) f0 (λv=>[(false,[.c (.int .i64 v.1)])]) (λx y v=>(v.2,())) Tryz.func31 (by kernel_rfl) trivial
noncomputable def bR:FX (Keys×Int×Unit) (Int) (λ_=>True) (aQ [.st .keys,.sc (.int .i64)]):=⟨λ(x0,x1,_)=>
  .cal cm.c (x0.now,x1,()) λc1=>
  .ite (decide (c1<0)) (.ret (-1))<|
  .cal cm.c (x0.before,c1,()) λc2=>
  .ite (decide (c2<0)) (.ret (-1))<|
  .ret c2,
 λ(x0,x1,_) hp hf=>by
  simp only[aQ,Pk.fact,cZ,cg,Fl.fact,Ty.fl,Ty.toH]at hf
  refine Tr.C trivial λ_ _ _=>Tr.I (λ_=>Tr.R trivial) λ_=>Tr.C trivial λ_ _ _=>Tr.F (by kernel_rfl) trivial⟩
theorem wc (x:Keys)(k:Int)(h0:0≤k)(h1:k≤1048576)(n1:x.now.rows.length≤140737488355328)(n2:nQ .macRow x.now.rows)(m1:x.before.rows.length≤140737488355328)(m2:nQ .macRow x.before.rows)(h:0≤bR.f (x,k,())):bR.f (x,k,())≤k∧hU x:=by
 have e:bR.f (x,k,())=(bif decide (cm.f (x.now,k,())<0)then-1 else(bif decide (cm.f (x.before,cm.f (x.now,k,()),())<0)then-1 else cm.f (x.before,cm.f (x.now,k,()),()))):=by first|(simp only[FX.f,PX,bR];done)|(simp only[FX.f,PX,bR];rfl)
 rw[e]at h⊢
 obtain⟨p0,e0⟩:=dw h
 rw[e0]at h⊢
 obtain⟨p1,e1⟩:=dw h
 rw[e1]at h⊢
 have b0:=x3 _ _ h0 (by omega) n1 n2 p0
 have b1:=x3 _ _ p0 (by omega) m1 m2 p1
 refine⟨by omega, ?_⟩
 have q0:=b0.2
 have q1:=b1.2
 unfold eG at q0 q1
 unfold hU
 exact⟨q0.1,q0.2,q1.1,q1.2⟩
noncomputable def xe:=gE st Tryz.func62 [zc] (ks:=[.st .keys,.sc (.int .i64)]) bR rI
noncomputable def nF:FT (Keys×Unit) (Keys) (λx=>hU x.1) (λx v=>hU v):= .mk λ(x0,_)=>
  .cal mQ.c (x0.now,()) λc1=>
  .cal mQ.c (x0.before,()) λc2=>
  .ret (⟨x0.epoch,c1,c2,x0.two⟩:Keys)
noncomputable def xA:=dh aY Tryz.func68 [yJ] (ks:=[.st .keys]) nF (λv=>[(true,CQ (.o true) (.o true) v)])
noncomputable def nf:FT (Keys×Keys×Unit) (Bool) (λx=>hU x.1∧hU x.2.1) (λ_ _=>True):= .mk λ(x0,x1,_)=>
  .ite (x0.epoch != x1.epoch) (.ret false)<|
  .cal mV.c (x0.now,x1.now,()) λc1=>
  .ite (!c1) (.ret false)<|
  .cal mV.c (x0.before,x1.before,()) λc2=>
  .ite (!c2) (.ret false)<|
  .ite (!(x0.two==x1.two)) (.ret false)<|
  .ret true
noncomputable def xJ:=dh st Tryz.func75 [zj] (ks:=[.st .keys,.st .keys]) nf rB
noncomputable def je:FT (Keys×Int×Unit) (Int×List MacRow×List MacRow) (λx=>hU x.1∧x.2.1≤9223372036854775807) (λx v=>sL ao v.2.1∧sL ao v.2.2∧v.1≤9223372036854775807):= .mk λ(x0,x1,_)=>
  .cal le.c (x0.now,x1,()) λc1=>
  .cal le.c (x0.before,c1.1,()) λc2=>
  .ret (c2.1,c1.2,c2.2)
noncomputable def uu:=mz st ⟨80,Tryz.f80,[],2⟩ [vH] [] [.wr true [.c (.int .i64),.c .bool,.c (.int .u64),.c (.int .u64),.own 0,.c .bool,.c (.int .u64),.c (.int .u64),.own 1,.c .bool],.sc (.int .i64)] [.arr .macRow,.arr .macRow] (λx y=>((⟨x.1.1,⟨x.1.2.1,x.1.2.2.1,x.1.2.2.2.1,y.1⟩,⟨x.1.2.2.2.2.1,x.1.2.2.2.2.2.1,x.1.2.2.2.2.2.2.1,y.2.1⟩,x.1.2.2.2.2.2.2.2.1⟩:Keys),x.2.1,())) je (λv=>[(false,[.c (.int .i64 v.1)])]) (λx y v=>(v.2.1,v.2.2,())) Tryz.func80 (by kernel_rfl) trivial
noncomputable def hY:FT (Tabl×Int×Unit) (Int×List Conn×List Tupl) (λx=>gX x.1∧x.2.1≤9223372036854775807) (λx v=>sL aG v.2.1∧sS v.2.2∧v.1≤9223372036854775807):= .mk λ(x0,x1,_)=>
  .cal ij.c (x0.conns,x1,()) λc1=>
  .cal gi.c (x0.waiting,c1.1,()) λc2=>
  .ret (c2.1,c1.2,c2.2)
noncomputable def sB:=mz st ⟨82,Tryz.f82,[],2⟩ [sV,rk] [] [.wr true [.down 0,.own 1],.sc (.int .i64)] [.dar .conn,.arr .tupl] (λx y=>((⟨y.1,y.2.1⟩:Tabl),x.2.1,())) hY (λv=>[(false,[.c (.int .i64 v.1)])]) (λx y v=>(v.2.1,v.2.2,())) Tryz.func82 (by kernel_rfl) trivial
noncomputable def nR:FT (Link×Unit) (Link) (λx=>nH x.1) (λx v=>nH v):= .mk λ(x0,_)=>
  .cal jx.c (x0.cache,()) λc1=>
  .ret ({x0 with cache:=c1}:Link)
noncomputable def wN:=dh aY Tryz.func92 [uR] (ks:=[.st .link]) nR (λv=>[(true,CP (.o true) v)])
noncomputable def mT:FT (Link×Link×Unit) (Bool) (λx=>nH x.1∧nH x.2.1) (λ_ _=>True):= .mk λ(x0,x1,_)=>
  .ite (x0.mac != x1.mac) (.ret false)<|
  .ite (x0.ip != x1.ip) (.ret false)<|
  .cal jg.c (x0.cache,x1.cache,()) λc1=>
  .ite (!c1) (.ret false)<|
  .ret true
noncomputable def w8:=dh st Tryz.func98 [tY] (ks:=[.st .link,.st .link]) mT rB
noncomputable def gR:FT (Segm×Unit) (Bool) (λ_=>True) (λx v=>(v=true→x.1.body.length≤1420)):= .mk λ(x0,_)=>
  .cal aq.c (x0.from_,16,()) λc1=>
  .ite c1 (.cal aq.c (x0.to,16,()) λc2=>
   .ite c2 (.cal aq.c (x0.window,16,()) λc3=>
    .ite c3 (.cal aq.c (x0.seq,32,()) λc4=>
     .ite c4 (.cal aq.c (x0.ack,32,()) λc5=>
      .ite c5 (.cal aq.c (x0.flags,6,()) λc6=>
       .ite c6 (.cal gY.c (x0.opts,()) λc7=>
        .ite c7 (.ret (decide ((x0.body.length:Int)≤1420)))<|
        .ret false)<|
       .ret false)<|
      .ret false)<|
     .ret false)<|
    .ret false)<|
   .ret false)<|
  .ret false
noncomputable def sy:=dh aY Tryz.func110 [gz,sk] (ks:=[.st .segm]) gR rB
noncomputable def gN:FT (Segm×Unit) (Bool) (λ_=>True) (λx v=>(v=true→x.1.body.length≤1420)):= .mk λ(x0,_)=>
  .cal aO.c (x0.from_,16,()) λc1=>
  .ite c1 (.cal aO.c (x0.to,16,()) λc2=>
   .ite c2 (.cal aO.c (x0.window,16,()) λc3=>
    .ite c3 (.cal aO.c (x0.seq,32,()) λc4=>
     .ite c4 (.cal aO.c (x0.ack,32,()) λc5=>
      .ite c5 (.cal aO.c (x0.flags,6,()) λc6=>
       .ite c6 (.cal gZ.c (x0.opts,()) λc7=>
        .ite c7 (.ret (decide ((x0.body.length:Int)≤1420)))<|
        .ret false)<|
       .ret false)<|
      .ret false)<|
     .ret false)<|
    .ret false)<|
   .ret false)<|
  .ret false
noncomputable def sq:=dh st Tryz.func133 [jA,ss] (ks:=[.st .segm]) gN rB
noncomputable def gf:FT (Recv×Recv×Unit) (Bool) (λx=>pV x.1∧pV x.2.1) (λ_ _=>True):= .mk λ(x0,x1,_)=>
  .ite (x0.next != x1.next) (.ret false)<|
  .ite (!(x0.data==x1.data)) (.ret false)<|
  .cal jB.c (x0.held,x1.held,()) λc1=>
  .ite (!c1) (.ret false)<|
  .ite (x0.fin != x1.fin) (.ret false)<|
  .ite (!(x0.done==x1.done)) (.ret false)<|
  .ret true
noncomputable def rZ:=dh st Tryz.func159 [ud] (ks:=[.st .recv,.st .recv]) gf rB
noncomputable def fE:FT (ac×Unit) (Fram×Bool) (λx=>sS x.1) (λx v=>pW v.1):= .mk λ(x0,_)=>
  .ite (decide ((x0.length:Int)<14)) (.ret ((⟨0,0,0,[]⟩:Fram),false))<|
  .cal b9.c (x0,0,6,()) λc1=>
  .cal b9.c (x0,6,6,()) λc2=>
  .cal b9.c (x0,12,2,()) λc3=>
  .grd ((decide (14≤(x0.length:Int)))&&(decide ((x0.length:Int)≤(x0.length:Int))))<|
  .cal ca.c ((⟨c1,c2,c3,((x0.take ((x0.length:Int).toNat)).drop 14)⟩:Fram),()) λc4=>
  .ite (!c4) (.ret ((⟨0,0,0,[]⟩:Fram),false))<|
  .ret ((⟨c1,c2,c3,((x0.take ((x0.length:Int).toNat)).drop 14)⟩:Fram),true)
noncomputable def sE:=dh aY Tryz.func195 [nG,pc] (ks:=[.sc .str]) fE (λv=>[(true,A8 v.1),(false,[.c (.bool v.2)])])
noncomputable def qn:=[oV]
noncomputable def qh:Fx:=⟨250,Tryz.f250,[(3000004,rA 0 25)],0⟩
noncomputable def gc:FT (Int×Int×Int×Unit) (ac) (λ_=>True) (λx v=>sS v∧v.length≤20):=⟨λ(x0,x1,x2,_)=>
  .cal dU.c (x0,4,()) λc1=>
  .cal dU.c (x1,4,()) λc2=>
  .cal dU.c (x2,2,()) λc3=>
  .bnd (β:=Bool×Unit) (.ite (c1==[]) (.ret (true,()))<|
   .ite (c2==[]) (.ret (true,()))<|
   .ret ((c3==[]),())) λ(u4a0,_)=>
  .ite u4a0 (.ret [])<|
  .grd (Nat.ble (c1.length+c2.length) bp)<|
  .grd (Nat.ble ((c1++c2).length+2) bp)<|
  .grd (Nat.ble (((c1++c2)++[0,6]).length+c3.length) bp)<|
  .ret (((c1++c2)++[0,6])++c3),
 λ(x0,x1,x2,_) hp=>by
  refine Tr.C trivial λc1 hc1 qc1=>Tr.C trivial λc2 hc2 qc2=>Tr.C trivial λc3 hc3 qc3=>Tr.B (Q':=λ_=>True) (Tr.F (by kernel_rfl) trivial) (λ(u4a0,_) hj4 qj4=>Tr.I (λb0=>Tr.R ?_) λb0=>Tr.Gb ?_ λg1=>Tr.Gb ?_ λg2=>Tr.Gb ?_ λg3=>Tr.R ?_)
  all_goals ((try simp only[Tr.nice,jd]at*)<;>(first|(simp only[List.length_append,List.length_cons,List.length_nil,bp,sS]at*;omega)|grind))⟩
noncomputable def rS:=ol st qh qn [] (ks:=[.sc (.int .i64),.sc (.int .i64),.sc (.int .i64)]) gc (λv=>[(false,[.c (.str v)])]) Tryz.func250 trivial
noncomputable def gj:FT (ac×Unit) (Bool) (λx=>sS x.1) (λ_ _=>True):= .mk λ(x0,_)=>
  .cal pR.c (x0,()) λc1=>
  .ret (c1==0)
noncomputable def np:=dh st Tryz.func251 [yY] (ks:=[.sc .str]) gj rB
noncomputable def dH:FT (Fram×Unit) (ac) (λx=>pW x.1) (λx v=>sS v∧v.length≤1600):=⟨λ(x0,_)=>
  .cal ca.c (x0,()) λc1=>
  .ite (!c1) (.ret [])<|
  .cal bi.c (x0.dst,6,()) λc2=>
  .cal bi.c (x0.src,6,()) λc3=>
  .grd (Nat.ble (c2.length+c3.length) bp)<|
  .cal bi.c (x0.type,2,()) λc4=>
  .grd (Nat.ble ((c2++c3).length+c4.length) bp)<|
  .grd (Nat.ble (((c2++c3)++c4).length+x0.body.length) bp)<|
  .ret (((c2++c3)++c4)++x0.body),
 λ(x0,_) hp=>by
  refine Tr.C trivial λc1 hc1 qc1=>Tr.I (λb0=>Tr.R ?_) λb0=>Tr.C trivial λc2 hc2 qc2=>Tr.C trivial λc3 hc3 qc3=>Tr.Gb ?_ λg1=>Tr.C trivial λc4 hc4 qc4=>Tr.Gb ?_ λg2=>Tr.Gb ?_ λg3=>Tr.R ?_
  all_goals ((first|(simp only[List.length_append,List.length_cons,List.length_nil,bp,sS]at*;omega)|grind))⟩
noncomputable def Bc:=dh aY Tryz.func262 [pc,o8] (ks:=[.st .fram]) dH (λv=>[(false,[.c (.str v)])])
noncomputable def rG:=[gz,o8]
noncomputable def qT:Fx:=⟨264,Tryz.f264,[(3000001,rA 0 19)],0⟩
noncomputable def cL:FT (Int×Int×Int×Unit) (ac) (λ_=>True) (λx v=>sS v∧v.length≤20):=⟨λ(x0,x1,x2,_)=>
  .bnd (β:=Bool×Unit) (.cal aq.c (x0,32,()) λc1=>
   .ite (!c1) (.ret (true,()))<|
   .cal aq.c (x1,32,()) λc2=>
   .ite (!c2) (.ret (true,()))<|
   .cal aq.c (x2,16,()) λc3=>
   .ret ((!c3),())) λ(u4a0,_)=>
  .ite u4a0 (.ret [])<|
  .cal bi.c (x0,4,()) λc5=>
  .cal bi.c (x1,4,()) λc6=>
  .grd (Nat.ble (c5.length+c6.length) bp)<|
  .grd (Nat.ble ((c5++c6).length+2) bp)<|
  .cal bi.c (x2,2,()) λc7=>
  .grd (Nat.ble (((c5++c6)++[0,6]).length+c7.length) bp)<|
  .ret (((c5++c6)++[0,6])++c7),
 λ(x0,x1,x2,_) hp=>by
  refine Tr.B (Q':=λ_=>True) (Tr.C trivial λc1 hc1 qc1=>Tr.I (λb0=>Tr.R trivial) λb0=>Tr.C trivial λc2 hc2 qc2=>Tr.I (λb1=>Tr.R trivial) λb1=>Tr.C trivial λc3 hc3 qc3=>Tr.R trivial) (λ(u4a0,_) hj4 qj4=>Tr.I (λb0=>Tr.R ?_) λb0=>Tr.C trivial λc5 hc5 qc5=>Tr.C trivial λc6 hc6 qc6=>Tr.Gb ?_ λg1=>Tr.Gb ?_ λg2=>Tr.C trivial λc7 hc7 qc7=>Tr.Gb ?_ λg3=>Tr.R ?_)
  all_goals ((try simp only[Tr.nice,jd]at*)<;>(first|(simp only[List.length_append,List.length_cons,List.length_nil,bp,sS]at*;omega)|grind))⟩
noncomputable def rQ:=ol aY qT rG [] (ks:=[.sc (.int .i64),.sc (.int .i64),.sc (.int .i64)]) cL (λv=>[(false,[.c (.str v)])]) Tryz.func264 trivial
noncomputable def ew:FT (ac×Unit) (Bool) (λx=>sS x.1) (λ_ _=>True):= .mk λ(x0,_)=>
  .cal pY.c (x0,()) λc1=>
  .ret (c1==0)
noncomputable def nh:=dh aY Tryz.func265 [yI] (ks:=[.sc .str]) ew rB
def gD:Sh:=⟨[zs 0,zp 2 0,zp 4 1,zi 5],[zx .opti,zx .opti]⟩
noncomputable def aX (v0:ac)(a:Int×Opti):Tr (Stp (Int×Opti) ((Opti)⊕(Opti×Opti))):=
 .ite (decide (a.1<(v0.length:Int))) (.grd (bX v0 a.1)<|
  .ite ((Z v0 a.1.toNat)==0) (.ret (.out (.inl a.2)))<|
  .ite ((Z v0 a.1.toNat)==1) (.ret (.next ((IntKind.wrap .i64 (a.1+1)),a.2)))<|
  .ite (decide ((v0.length:Int)≤(IntKind.wrap .i64 (a.1+1)))) (.val (cC.f (())) λc2=>
   .ret (.out (.inr ((c2,a.2)))))<|
  .grd (bX v0 (IntKind.wrap .i64 (a.1+1)))<|
  .bnd (β:=Bool×Unit) (.ite (decide ((IntKind.wrap .i64 (Z v0 ((IntKind.wrap .i64 (a.1+1)).toNat)))<2)) (.ret (true,()))<|
   .ret ((decide ((IntKind.wrap .i64 ((v0.length:Int)-a.1))<(IntKind.wrap .i64 (Z v0 ((IntKind.wrap .i64 (a.1+1)).toNat))))),())) λ(u3a0,_)=>
  .ite u3a0 (.val (cC.f (())) λc4=>
   .ret (.out (.inr ((c4,a.2)))))<|
  .bnd (β:=Bool×Unit) (.ite ((Z v0 a.1.toNat)==2) (.ret (((IntKind.wrap .i64 (Z v0 ((IntKind.wrap .i64 (a.1+1)).toNat)))==4),()))<|
   .ret (false,())) λ(u5a0,_)=>
  .ite u5a0 (.cal b9.c (v0,(IntKind.wrap .i64 (a.1+2)),2,()) λc6=>
   .val (IntKind.wrap .i64 (a.1+(IntKind.wrap .i64 (Z v0 ((IntKind.wrap .i64 (a.1+1)).toNat))))) λe7=>
   .ret (.next (e7,({a.2 with mss:=c6}:Opti))))<|
  .bnd (β:=Bool×Unit) (.ite ((Z v0 a.1.toNat)==3) (.ret (((IntKind.wrap .i64 (Z v0 ((IntKind.wrap .i64 (a.1+1)).toNat)))==3),()))<|
   .ret (false,())) λ(u8a0,_)=>
  .ite u8a0 (.grd (bX v0 (IntKind.wrap .i64 (a.1+2)))<|
   .val (β:=Int) (if 14<(IntKind.wrap .i64 (Z v0 ((IntKind.wrap .i64 (a.1+2)).toNat)))then 14 else(IntKind.wrap .i64 (Z v0 ((IntKind.wrap .i64 (a.1+2)).toNat)))) λe9=>
   .val (IntKind.wrap .i64 (a.1+(IntKind.wrap .i64 (Z v0 ((IntKind.wrap .i64 (a.1+1)).toNat))))) λe10=>
   .ret (.next (e10,({a.2 with scale:=e9}:Opti))))<|
  .bnd (β:=Bool×Unit) (.ite ((Z v0 a.1.toNat)==4) (.ret (((IntKind.wrap .i64 (Z v0 ((IntKind.wrap .i64 (a.1+1)).toNat)))==2),()))<|
   .ret (false,())) λ(u11a0,_)=>
  .ite u11a0 (.val (IntKind.wrap .i64 (a.1+(IntKind.wrap .i64 (Z v0 ((IntKind.wrap .i64 (a.1+1)).toNat))))) λe12=>
   .ret (.next (e12,({a.2 with sack:=true}:Opti))))<|
  .bnd (β:=Bool×Unit) (.ite ((Z v0 a.1.toNat)==8) (.ret (((IntKind.wrap .i64 (Z v0 ((IntKind.wrap .i64 (a.1+1)).toNat)))==10),()))<|
   .ret (false,())) λ(u13a0,_)=>
  .ite u13a0 (.cal b9.c (v0,(IntKind.wrap .i64 (a.1+2)),4,()) λc14=>
   .cal b9.c (v0,(IntKind.wrap .i64 (a.1+6)),4,()) λc15=>
   .val (IntKind.wrap .i64 (a.1+(IntKind.wrap .i64 (Z v0 ((IntKind.wrap .i64 (a.1+1)).toNat))))) λe16=>
   .ret (.next (e16,({a.2 with stamp:=true,val:=c14,echo:=c15}:Opti))))<|
  .val (IntKind.wrap .i64 (a.1+(IntKind.wrap .i64 (Z v0 ((IntKind.wrap .i64 (a.1+1)).toNat))))) λe17=>
  .ret (.next (e17,a.2)))<|
 .ret (.out (.inl a.2))
instance i_ReadOptions_L0_i:Inhabited ((Opti)⊕(Opti×Opti)):=⟨.inl default⟩
noncomputable def cP:gD.V→LW gD (Int×Opti) ((Opti)⊕(Opti×Opti)):=λ(v0,v1,v2,v3,_)=>⟨(v1,v3),λa=>(v0,a.1,v2,a.2,()),aX v0,Int.toNat ((v0.length:Int)-v1),oB (.exit 0) ⟨[zp 2 0,zu 3,zp 4 1],[zx .opti,zx .opti]⟩ (λp=>(v2,p,())) .ret ⟨[zp 2 0,zb 3,zp 4 1],[zx .opti,zx .opti]⟩ (λp=>(false,p.1,p.2,()))⟩
theorem mj {v0:ac}{v1:Int}{v2 v3:Opti}(h0:sS v0)(h1:0≤v1):(cP (v0,v1,v2,v3,())).W (λ_=>True):=
 DT (a:=(v1,v3)) (λa=>0≤a.1) (λa=>Int.toNat ((v0.length:Int)-a.1)) h1
noncomputable def ee:FT (ac×Unit) (Opti×Bool) (λx=>sS x.1) (λ_ _=>True):= .mk (λ(x0,_)=>
  .val (cC.f (())) λc1=>
  .lp (cP (x0,0,(⟨0,0,false,false,0,0⟩:Opti),c1,())).lp λq18=> .sum q18 (λp18a0=>
  .ret (p18a0,true))<|
  λ(p18b0,_)=>
  .ret (p18b0,false)) (wH @mj)
noncomputable def pF:=Aq aY Tryz.func266 [(0,lb [0,2,4,5] [2,3,4]),(3000011,rA 0 42),(3000013,rA 0 44),(3000015,rA 0 56),(3000017,rA 0 70),(3000019,rA 0 78)] [sF,nG] 0 cP (ks:=[.sc .str]) ee (λv=>[(true,oi v.1),(false,[.c (.bool v.2)])])
noncomputable def gO:FT (Fram×Unit) (ac) (λx=>pW x.1) (λx v=>sS v∧v.length≤1600):=⟨λ(x0,_)=>
  .cal lm.c (x0,()) λc1=>
  .ite (!c1) (.ret [])<|
  .cal dU.c (x0.dst,6,()) λc2=>
  .cal dU.c (x0.src,6,()) λc3=>
  .grd (Nat.ble (c2.length+c3.length) bp)<|
  .cal dU.c (x0.type,2,()) λc4=>
  .grd (Nat.ble ((c2++c3).length+c4.length) bp)<|
  .grd (Nat.ble (((c2++c3)++c4).length+x0.body.length) bp)<|
  .ret (((c2++c3)++c4)++x0.body),
 λ(x0,_) hp=>by
  refine Tr.C trivial λc1 hc1 qc1=>Tr.I (λb0=>Tr.R ?_) λb0=>Tr.C trivial λc2 hc2 qc2=>Tr.C trivial λc3 hc3 qc3=>Tr.Gb ?_ λg1=>Tr.C trivial λc4 hc4 qc4=>Tr.Gb ?_ λg2=>Tr.Gb ?_ λg3=>Tr.R ?_
  all_goals ((first|(simp only[List.length_append,List.length_cons,List.length_nil,bp,sS]at*;omega)|grind))⟩
noncomputable def sD:=dh st Tryz.func285 [wo,oV] (ks:=[.st .fram]) gO (λv=>[(false,[.c (.str v)])])
noncomputable def cb:FX (Recv×Int×Unit) (Int) (λ_=>True) (aQ [.st .recv,.sc (.int .i64)]):=⟨λ(x0,x1,_)=>
  .ite (decide ((IntKind.wrap .i64 (x1-(x0.data.length:Int)))<0)) (.ret (-1))<|
  .cal eu.c (x0.held,(IntKind.wrap .i64 (x1-(x0.data.length:Int))),()) λc1=>
  .ite (decide (c1<0)) (.ret (-1))<|
  .ret c1,
 λ(x0,x1,_) hp hf=>by
  simp only[aQ,Pk.fact,cZ,cg,Fl.fact,Ty.fl,Ty.toH]at hf
  refine Tr.I (λ_=>Tr.R trivial) λ_=>Tr.C trivial λ_ _ _=>Tr.F (by kernel_rfl) trivial⟩
theorem uz (x:Recv)(k:Int)(h0:0≤k)(h1:k≤1048576)(hd:x.data.length≤4611686018427387904)(hl:x.held.length≤140737488355328)(he:nQ .piec x.held)(h:0≤cb.f (x,k,())):cb.f (x,k,())≤k∧x.data.length≤1048576∧x.held.length≤1048576∧eF be x.held:=by
 have w:IntKind.wrap .i64 (k-(x.data.length:Int))=k-(x.data.length:Int):=ap (by omega) (by omega)
 have e:cb.f (x,k,())=(bif decide (k-(x.data.length:Int)<0)then-1 else(bif decide (eu.f (x.held,k-(x.data.length:Int),())<0)then-1 else eu.f (x.held,k-(x.data.length:Int),()))):=by simp only[FX.f,PX,cb,w]
 rw[e]at h⊢
 obtain⟨p0,e0⟩:=dw h
 rw[e0]at h⊢
 obtain⟨p1,e1⟩:=dw h
 rw[e1]at h⊢
 have b:=wP x.held _ p0 (by omega) hl he p1
 exact⟨by omega,by omega,b.2.1,b.2.2⟩
noncomputable def rL:=gE st Tryz.func346 [uH] (ks:=[.st .recv,.sc (.int .i64)]) cb rI
noncomputable def gd:FT (Recv×Unit) (Recv) (λx=>pV x.1) (λx v=>pV v):= .mk λ(x0,_)=>
  .cal jh.c (x0.held,()) λc1=>
  .ret ({x0 with held:=c1}:Recv)
noncomputable def qG:=dh aY Tryz.func348 [uE] (ks:=[.st .recv]) gd (λv=>[(true,CJ (.o true) v)])
noncomputable def n3:FT (Conn×Conn×Unit) (Bool) (λx=>aG x.1∧aG x.2.1) (λ_ _=>True):= .mk λ(x0,x1,_)=>
  .val (eC.f (x0.tuple,x1.tuple,())) λc1=>
  .ite (!c1) (.ret false)<|
  .ite (x0.state != x1.state) (.ret false)<|
  .val (iY.f (x0.s,x1.s,())) λc2=>
  .ite (!c2) (.ret false)<|
  .cal gf.c (x0.r,x1.r,()) λc3=>
  .ite (!c3) (.ret false)<|
  .ite (x0.window != x1.window) (.ret false)<|
  .ite (x0.most != x1.most) (.ret false)<|
  .val (fH.f (x0.opts,x1.opts,())) λc4=>
  .ite (!c4) (.ret false)<|
  .ite (x0.timer != x1.timer) (.ret false)<|
  .ite (x0.tries != x1.tries) (.ret false)<|
  .ret true
noncomputable def xt:=dh st Tryz.func57 [fL,um,rZ,lY] (ks:=[.st .conn,.st .conn]) n3 rB
noncomputable def pM:=[rS,gq,np,pQ,g9,sq]
noncomputable def pG:Fx:=⟨142,Tryz.f142,[(3000005,rA 0 42),(3000014,rA 0 96)],0⟩
noncomputable def eg:FT (ac×Int×Int×Unit) (Segm×Bool) (λx=>sS x.1∧x.1.length≤4294967200) (λx v=>gU v.1):= .mk λ(x0,x1,x2,_)=>
  .ite (decide ((x0.length:Int)<20)) (.ret ((⟨0,0,0,0,0,0,⟨0,0,false,false,0,0⟩,[]⟩:Segm),false))<|
  .grd (decide (12<(x0.length:Int)))<|
  .val (IntKind.wrap .i64 ((IntKind.wrap .i64 ((IntKind.wrap .i64 (Z x0 12)).tdiv 16))*4)) λe1=>
  .cal gc.c (x1,x2,(x0.length:Int),()) λc2=>
  .bnd (β:=Bool×Unit) (.val (fP.f (e1,20,(x0.length:Int),())) λc3=>
   .ite (!c3) (.ret (true,()))<|
   .ite (c2==[]) (.ret (true,()))<|
   .grd (Nat.ble (c2.length+x0.length) bp)<|
   .cal gj.c ((c2++x0),()) λc4=>
   .ret ((!c4),())) λ(u5a0,_)=>
  .ite u5a0 (.ret ((⟨0,0,0,0,0,0,⟨0,0,false,false,0,0⟩,[]⟩:Segm),false))<|
  .grd ((decide (20≤e1))&&(decide (e1≤(x0.length:Int))))<|
  .cal ec.c (((x0.take e1.toNat).drop 20),()) λc6=>
  .grd (decide (13<(x0.length:Int)))<|
  .grd (DK x0 e1 (x0.length:Int))<|
  .cal aP.c (x0,0,2,()) λc7=>
  .cal aP.c (x0,2,2,()) λc8=>
  .cal aP.c (x0,4,4,()) λc9=>
  .cal aP.c (x0,8,4,()) λc10=>
  .cal aP.c (x0,14,2,()) λc11=>
  .bnd (β:=Bool×Unit) (.as (λw=>(w.1=false→(⟨c7.1,c8.1,c9.1,c10.1,((IntKind.wrap .i64 (Z x0 13)).tmod 64),c11.1,c6.1,((x0.take ((x0.length:Int).toNat)).drop e1.toNat)⟩:Segm).body.length≤1420)) (.ite (!c6.2) (.ret (true,()))<|
   .cal gN.c ((⟨c7.1,c8.1,c9.1,c10.1,((IntKind.wrap .i64 (Z x0 13)).tmod 64),c11.1,c6.1,((x0.take ((x0.length:Int).toNat)).drop e1.toNat)⟩:Segm),()) λc12=>
   .ret ((!c12),()))) λ(u13a0,_)=>
  .ite u13a0 (.ret ((⟨0,0,0,0,0,0,⟨0,0,false,false,0,0⟩,[]⟩:Segm),false))<|
  .ret ((⟨c7.1,c8.1,c9.1,c10.1,((IntKind.wrap .i64 (Z x0 13)).tmod 64),c11.1,c6.1,((x0.take ((x0.length:Int).toNat)).drop e1.toNat)⟩:Segm),true)
noncomputable def ph:=ol st pG pM [] (ks:=[.sc .str,.sc (.int .i64),.sc (.int .i64)]) eg (λv=>[(true,uD v.1),(false,[.c (.bool v.2)])]) Tryz.func142 trivial
noncomputable def pj:=[rQ,nh,pF,nG,sy]
noncomputable def pA:Fx:=⟨147,Tryz.f147,[(3000005,rA 0 45),(3000009,rA 0 79)],0⟩
noncomputable def aI:FT (ac×Int×Int×Unit) (Segm×Bool) (λx=>sS x.1∧x.1.length≤4294967200) (λx v=>gU v.1):= .mk λ(x0,x1,x2,_)=>
  .ite (decide ((x0.length:Int)<20)) (.ret ((⟨0,0,0,0,0,0,⟨0,0,false,false,0,0⟩,[]⟩:Segm),false))<|
  .grd (decide (12<(x0.length:Int)))<|
  .val (IntKind.wrap .i64 ((IntKind.wrap .i64 ((IntKind.wrap .i64 (Z x0 12)).tdiv 16))*4)) λe1=>
  .cal cL.c (x1,x2,(x0.length:Int),()) λc2=>
  .bnd (β:=Bool×Unit) (.ite (decide (e1<20)) (.ret (true,()))<|
   .ite (decide ((x0.length:Int)<e1)) (.ret (true,()))<|
   .ite (c2==[]) (.ret (true,()))<|
   .grd (Nat.ble (c2.length+x0.length) bp)<|
   .cal ew.c ((c2++x0),()) λc3=>
   .ret ((!c3),())) λ(u4a0,_)=>
  .ite u4a0 (.ret ((⟨0,0,0,0,0,0,⟨0,0,false,false,0,0⟩,[]⟩:Segm),false))<|
  .grd ((decide (20≤e1))&&(decide (e1≤(x0.length:Int))))<|
  .cal ee.c (((x0.take e1.toNat).drop 20),()) λc5=>
  .cal b9.c (x0,0,2,()) λc6=>
  .cal b9.c (x0,2,2,()) λc7=>
  .cal b9.c (x0,4,4,()) λc8=>
  .cal b9.c (x0,8,4,()) λc9=>
  .grd (decide (13<(x0.length:Int)))<|
  .cal b9.c (x0,14,2,()) λc10=>
  .grd (DK x0 e1 (x0.length:Int))<|
  .bnd (β:=Bool×Unit) (.as (λw=>(w.1=false→(⟨c6,c7,c8,c9,(bits .and .i64 (IntKind.wrap .i64 (Z x0 13)) 63),c10,c5.1,((x0.take ((x0.length:Int).toNat)).drop e1.toNat)⟩:Segm).body.length≤1420)) (.ite (!c5.2) (.ret (true,()))<|
   .cal gR.c ((⟨c6,c7,c8,c9,(bits .and .i64 (IntKind.wrap .i64 (Z x0 13)) 63),c10,c5.1,((x0.take ((x0.length:Int).toNat)).drop e1.toNat)⟩:Segm),()) λc11=>
   .ret ((!c11),()))) λ(u12a0,_)=>
  .ite u12a0 (.ret ((⟨0,0,0,0,0,0,⟨0,0,false,false,0,0⟩,[]⟩:Segm),false))<|
  .ret ((⟨c6,c7,c8,c9,(bits .and .i64 (IntKind.wrap .i64 (Z x0 13)) 63),c10,c5.1,((x0.take ((x0.length:Int).toNat)).drop e1.toNat)⟩:Segm),true)
noncomputable def pE:=ol aY pA pj [] (ks:=[.sc .str,.sc (.int .i64),.sc (.int .i64)]) aI (λv=>[(true,uD v.1),(false,[.c (.bool v.2)])]) Tryz.func147 trivial
def kN:Sh:=⟨[zl 0 .conn,zl 1 .conn,zi 5],[]⟩
noncomputable def kB (v0 v1:List Conn)(v2:Int)(a:Unit):Tr (Stp (Unit) ((Unit))):=
 .grd (bX v0 v2)<|
 .grd (bX v1 v2)<|
 .cal n3.c ((v0.getD v2.toNat (Ty.zero .conn)),(v1.getD v2.toNat (Ty.zero .conn)),()) λc1=>
 .ite (!c1) (.ret (.out ()))<|
 .ret (.next ())
noncomputable def eX:kN.V→yK kN Unit (Unit):=λ(v0,v1,v2,_)=>⟨v2,(),λv2 _=>(v0,v1,v2,()),λv2 _=>(decide (v2<(v0.length:Int))),kB v0 v1,up,1,(Int.toNat ((v0.length:Int)-v2)),.inl,eR,oB .ret ⟨[zb 4],[]⟩ (λ_=>(false,())) (.exit 0) ⟨[zu 4],[]⟩ (λ_=>())⟩
theorem p7 {v0 v1:List Conn}{v2:Int}(h0:0≤v2)(h1:(v0.length:Int)≤4611686018427387904)(h2:sL aG v0)(h3:sL aG v1)(h4:(v0.length:Int)≤(v1.length:Int)):(eX (v0,v1,v2,())).U (v0.length:Int) (λ_ _=>True) (λ_=>True):=
 pI h0 h1 trivial
noncomputable def lz:FT (List Conn×List Conn×Unit) (Bool) (λx=>sL aG x.1∧sL aG x.2.1) (λ_ _=>True):= .mk (λ(x0,x1,_)=>
  .ite ((x0.length:Int) != (x1.length:Int)) (.ret false)<|
  .lp (eX (x0,x1,0,())).lp λw2=> .sum w2 (λ_=>
  .ret false)<|
  λ_=>
  .ret true) (wH @p7)
noncomputable def vW:=f7 st Tryz.func182 [(0,lb [0,1,5] [4])] [xt] 0 eX (ks:=[.sc (.sl .conn),.sc (.sl .conn)]) lz rB
noncomputable def fD:FT (ac×Unit) (Fram×Bool) (λx=>sS x.1) (λx v=>pW v.1):= .mk λ(x0,_)=>
  .ite (decide ((x0.length:Int)<14)) (.ret ((⟨0,0,0,[]⟩:Fram),false))<|
  .grd ((decide (14≤(x0.length:Int)))&&(decide ((x0.length:Int)≤(x0.length:Int))))<|
  .cal aP.c (x0,0,6,()) λc1=>
  .cal aP.c (x0,6,6,()) λc2=>
  .cal aP.c (x0,12,2,()) λc3=>
  .cal gO.c ((⟨c1.1,c2.1,c3.1,((x0.take ((x0.length:Int).toNat)).drop 14)⟩:Fram),()) λc4=>
  .ite (!(c4==x0)) (.ret ((⟨0,0,0,[]⟩:Fram),false))<|
  .ret ((⟨c1.1,c2.1,c3.1,((x0.take ((x0.length:Int).toNat)).drop 14)⟩:Fram),true)
noncomputable def sO:=dh st Tryz.func191 [g9,sD] (ks:=[.sc .str]) fD (λv=>[(true,A8 v.1),(false,[.c (.bool v.2)])])
noncomputable def rJ:=[np,g9,s8,gq]
noncomputable def qZ:Fx:=⟨192,Tryz.f192,[(3000010,rA 0 43)],0⟩
noncomputable def eS:FT (ac×Unit) (Pack×Int) (λx=>sS x.1) (λx v=>pX v.1∧v.1.body.length≤1500):= .mk λ(x0,_)=>
  .ite (decide ((x0.length:Int)<20)) (.ret ((⟨0,0,0,0,0,[]⟩:Pack),1))<|
  .grd (decide (0<(x0.length:Int)))<|
  .ite ((Z x0 0) != 69) (.ret ((⟨0,0,0,0,0,[]⟩:Pack),2))<|
  .grd (decide (20≤(x0.length:Int)))<|
  .cal gj.c (((x0.take 20).drop 0),()) λc1=>
  .ite (!c1) (.ret ((⟨0,0,0,0,0,[]⟩:Pack),3))<|
  .cal aP.c (x0,2,2,()) λc2=>
  .val (m6.f ((x0.length:Int),1500,())) λc3=>
  .val (fP.f (c2.1,20,c3,())) λc4=>
  .ite (!c4) (.ret ((⟨0,0,0,0,0,[]⟩:Pack),4))<|
  .bnd (β:=Bool×Unit) (.grd (decide (6<(x0.length:Int)))<|
   .ite ((bits .and .u8 (Z x0 6) 191) != 0) (.ret (true,()))<|
   .grd (decide (7<(x0.length:Int)))<|
   .ret (((Z x0 7) != 0),())) λ(u5a0,_)=>
  .ite u5a0 (.ret ((⟨0,0,0,0,0,[]⟩:Pack),5))<|
  .grd (decide (8<(x0.length:Int)))<|
  .grd (decide (9<(x0.length:Int)))<|
  .grd ((decide (20≤c2.1))&&(decide (c2.1≤(x0.length:Int))))<|
  .ite ((IntKind.wrap .i64 (Z x0 8))==0) (.ret ((⟨0,0,0,0,0,[]⟩:Pack),6))<|
  .cal aP.c (x0,4,2,()) λc6=>
  .cal aP.c (x0,12,4,()) λc7=>
  .cal aP.c (x0,16,4,()) λc8=>
  .ret ((⟨c7.1,c8.1,(IntKind.wrap .i64 (Z x0 8)),(IntKind.wrap .i64 (Z x0 9)),c6.1,((x0.take c2.1.toNat).drop 20)⟩:Pack),0)
noncomputable def rm:=ol st qZ rJ [] (ks:=[.sc .str]) eS (λv=>[(true,uK v.1),(false,[.c (.int .i64 v.2)])]) Tryz.func192 trivial
noncomputable def qS:=[nG,nh]
noncomputable def rV:Fx:=⟨196,Tryz.f196,[(3000008,rA 0 22)],0⟩
noncomputable def eQ:FT (ac×Unit) (Pack×Int) (λx=>sS x.1) (λx v=>pX v.1∧v.1.body.length≤1500):= .mk λ(x0,_)=>
  .ite (decide ((x0.length:Int)<20)) (.ret ((⟨0,0,0,0,0,[]⟩:Pack),1))<|
  .cal b9.c (x0,2,2,()) λc1=>
  .grd (decide (0<(x0.length:Int)))<|
  .ite ((Z x0 0) != 69) (.ret ((⟨0,0,0,0,0,[]⟩:Pack),2))<|
  .grd (decide (20≤(x0.length:Int)))<|
  .cal ew.c (((x0.take 20).drop 0),()) λc2=>
  .ite (!c2) (.ret ((⟨0,0,0,0,0,[]⟩:Pack),3))<|
  .bnd (β:=Bool×Unit) (.ite (decide (c1<20)) (.ret (true,()))<|
   .ite (decide ((x0.length:Int)<c1)) (.ret (true,()))<|
   .ret ((decide (1500<c1)),())) λ(u3a0,_)=>
  .ite u3a0 (.ret ((⟨0,0,0,0,0,[]⟩:Pack),4))<|
  .cal b9.c (x0,6,2,()) λc4=>
  .ite ((bits .andNot .i64 c4 16384) != 0) (.ret ((⟨0,0,0,0,0,[]⟩:Pack),5))<|
  .grd (decide (8<(x0.length:Int)))<|
  .ite ((Z x0 8)==0) (.ret ((⟨0,0,0,0,0,[]⟩:Pack),6))<|
  .cal b9.c (x0,12,4,()) λc5=>
  .cal b9.c (x0,16,4,()) λc6=>
  .grd (decide (8<(x0.length:Int)))<|
  .grd (decide (9<(x0.length:Int)))<|
  .cal b9.c (x0,4,2,()) λc7=>
  .grd ((decide (20≤c1))&&(decide (c1≤(x0.length:Int))))<|
  .ret ((⟨c5,c6,(IntKind.wrap .i64 (Z x0 8)),(IntKind.wrap .i64 (Z x0 9)),c7,((x0.take c1.toNat).drop 20)⟩:Pack),0)
noncomputable def rq:=ol aY rV qS [] (ks:=[.sc .str]) eQ (λv=>[(true,uK v.1),(false,[.c (.int .i64 v.2)])]) Tryz.func196 trivial
noncomputable def bC:FX (Conn×Int×Unit) (Int) (λ_=>True) (aQ [.st .conn,.sc (.int .i64)]):=⟨λ(x0,x1,_)=>
  .cal dC.c (x0.s,x1,()) λc1=>
  .ite (decide (c1<0)) (.ret (-1))<|
  .cal cb.c (x0.r,c1,()) λc2=>
  .ite (decide (c2<0)) (.ret (-1))<|
  .ret c2,
 λ(x0,x1,_) hp hf=>by
  simp only[aQ,Pk.fact,cZ,cg,Fl.fact,Ty.fl,Ty.toH]at hf
  refine Tr.C trivial λ_ _ _=>Tr.I (λ_=>Tr.R trivial) λ_=>Tr.C trivial λ_ _ _=>Tr.F (by kernel_rfl) trivial⟩
theorem Ao (x:Conn)(k:Int)(h0:0≤k)(h1:k≤1048576)(hf:∀c∈Ty.conn.cells x,FactC c)(h:0≤bC.f (x,k,())):bC.f (x,k,())≤k∧aG x:=by
 have e:bC.f (x,k,())=(bif decide (dC.f (x.s,k,())<0)then-1 else(bif decide (cb.f (x.r,dC.f (x.s,k,()),())<0)then-1 else cb.f (x.r,dC.f (x.s,k,()),()))):=by first|(simp only[FX.f,PX,bC];done)|(simp only[FX.f,PX,bC];rfl)
 rw[e]at h⊢
 obtain⟨p0,e0⟩:=dw h
 rw[e0]at h⊢
 obtain⟨p1,e1⟩:=dw h
 rw[e1]at h⊢
 have b0:=wU _ _ h0 (by omega) (hf (.str x.s.data) (by simp[Ty.cells,Ty.fl,Ty.toH,br,Fl.cell])).slen p0
 have b1:=uz _ _ p0 (by omega) (hf (.str x.r.data) (by simp[Ty.cells,Ty.fl,Ty.toH,br,Fl.cell])).slen (hf (.sl .piec x.r.held) (by simp[Ty.cells,Ty.fl,Ty.toH,br,Fl.cell])).len (λy hy=>(hf (.sl .piec x.r.held) (by simp[Ty.cells,Ty.fl,Ty.toH,br,Fl.cell])).elem hy) p1
 refine⟨by omega, ?_⟩
 unfold aG
 exact⟨by omega,by omega,by omega,b1.2.2.2⟩
noncomputable def xw:=gE st Tryz.func276 [ut,rL] (ks:=[.st .conn,.sc (.int .i64)]) bC rI
noncomputable def nt:FT (Conn×Unit) (Conn) (λx=>aG x.1) (λx v=>aG v):= .mk λ(x0,_)=>
  .val (fk.f (x0.tuple,())) λc1=>
  .cal ja.c (x0.s,()) λc2=>
  .cal gd.c (x0.r,()) λc3=>
  .val (fM.f (x0.opts,())) λc4=>
  .ret (⟨c1,x0.state,c2,c3,x0.window,x0.most,c4,x0.timer,x0.tries⟩:Conn)
noncomputable def xO:=dh aY Tryz.func278 [hP,tW,qG,mc] (ks:=[.st .conn]) nt (λv=>[(true,Cs (.o true) v)])
noncomputable def lr:FT (Tabl×Tabl×Unit) (Bool) (λx=>gX x.1∧gX x.2.1) (λ_ _=>True):= .mk λ(x0,x1,_)=>
  .cal lz.c (x0.conns,x1.conns,()) λc1=>
  .ite (!c1) (.ret false)<|
  .cal ju.c (x0.waiting,x1.waiting,()) λc2=>
  .ite (!c2) (.ret false)<|
  .ret true
noncomputable def vL:=dh st Tryz.func78 [vW,uw] (ks:=[.st .tabl,.st .tabl]) lr rB
noncomputable def df:FT (ac×Unit) (Pack×Segm×Bool) (λx=>sS x.1) (λx v=>pX v.1∧gU v.2.1):= .mk λ(x0,_)=>
  .cal fD.c (x0,()) λc1=>
  .cal eS.c (c1.1.body,()) λc2=>
  .cal eg.c (c2.1.body,c2.1.src,c2.1.dst,()) λc3=>
  .ite c1.2 (.ite (c2.2==0) (.ret (c2.1,c3.1,c3.2))<|
   .ret (c2.1,c3.1,false))<|
  .ret (c2.1,c3.1,false)
noncomputable def vT:=dh st Tryz.func89 [sO,rm,ph] (ks:=[.sc .str]) df (λv=>[(true,uK v.1),(true,uD v.2.1),(false,[.c (.bool v.2.2)])])
noncomputable def xz:=[sE,rq,pE]
noncomputable def xl:Fx:=⟨94,Tryz.f94,[(3000003,rA 0 27)],0⟩
noncomputable def eh:FT (ac×Unit) (Pack×Segm×Bool) (λx=>sS x.1) (λx v=>pX v.1∧gU v.2.1):= .mk λ(x0,_)=>
  .cal fE.c (x0,()) λc1=>
  .cal eQ.c (c1.1.body,()) λc2=>
  .bnd (β:=Bool×Unit) (.ite (!c1.2) (.ret (true,()))<|
   .ret ((c2.2 != 0),())) λ(u3a0,_)=>
  .ite u3a0 (.ret ((⟨0,0,0,0,0,[]⟩:Pack),(⟨0,0,0,0,0,0,⟨0,0,false,false,0,0⟩,[]⟩:Segm),false))<|
  .cal aI.c (c2.1.body,c2.1.src,c2.1.dst,()) λc4=>
  .ret (c2.1,c4.1,c4.2)
noncomputable def xQ:=ol aY xl xz [] (ks:=[.sc .str]) eh (λv=>[(true,uK v.1),(true,uD v.2.1),(false,[.c (.bool v.2.2)])]) Tryz.func94 trivial
noncomputable def pd:=[xw]
def eH:Sh:=⟨[zl 0 .conn,zi 1,zi 5],[]⟩
noncomputable def pe:Fx:=⟨163,Tryz.f163,[(0,lb [0,1,5] [1,4])],0⟩
noncomputable def gH (v0:List Conn)(v2:Int)(a:Int):Tr (Stp (Int) ((Int))):=
 .grd (bX v0 v2)<|
 .cal bC.c ((v0.getD v2.toNat (Ty.zero .conn)),a,()) λc1=>
 .ite (decide (c1<0)) (.ret (.out c1))<|
 .ret (.next c1)
noncomputable def bW:eH.V→yK eH Int (Int):=λ(v0,v1,v2,_)=>⟨v2,v1,λv2 a=>(v0,a,v2,()),λv2 _=>(decide (v2<(v0.length:Int))),gH v0,up,1,(Int.toNat ((v0.length:Int)-v2)),.inl,eR,oB .ret ⟨[zi 1,zi 4],[]⟩ (λp=>(p,(-1),())) (.exit 0) ⟨[zi 1,zu 4],[]⟩ (λx=>(x.2,()))⟩
theorem qV:LS Tryz.prog pe [0] (n4 0 eH bW):=iJ st (bJ pd) _ bW [] trivial
theorem re {v0:List Conn}{v1 v2:Int}(h0:0≤v2)(h1:(v0.length:Int)≤4611686018427387904):(bW (v0,v1,v2,())).U (v0.length:Int) (λ_ _=>True) (λ_=>True):=
 pI (a:=v1) h0 h1 trivial
noncomputable def cp:FX (List Conn×Int×Unit) (Int) (λ_=>True) (aQ [.sc (.sl .conn),.sc (.int .i64)]):=⟨λ(x0,x1,_)=>
  .ite (decide ((IntKind.wrap .i64 (x1-(x0.length:Int)))<0)) (.ret (-1))<|
  .lp (bW (x0,(IntKind.wrap .i64 (x1-(x0.length:Int))),0,())).lp λw2=> .sum w2 (λ_=>
  .ret (-1))<|
  λ(_,a2_0)=>
  .ret a2_0,
 λ(x0,x1,_) hp hf=>by
  simp only[aQ,Pk.fact,cZ,cg,Fl.fact,Ty.fl,Ty.toH]at hf
  refine Tr.I (λ_=>Tr.R trivial) λ_=>Tr.L (re ?_ ?_) (λa2_0 _=>Tr.Sr (Tr.R trivial)) (λp2a0 _=>Tr.Sl (Tr.R trivial))
  all_goals ((try simp only[bW,LC.lp,LC.ct,Ct.lp]at*)<;>grind)⟩
theorem tN (xs:List Conn)(k:Int)(h0:0≤k)(h1:k≤1048576)(hl:xs.length≤140737488355328)(he:nQ .conn xs)(h:0≤cp.f (xs,k,())):cp.f (xs,k,())≤k∧xs.length≤1048576∧eF aG xs:=by
 have w:IntKind.wrap .i64 (k-(xs.length:Int))=k-(xs.length:Int):=ap (by omega) (by omega)
 simp only[FX.f,PX,cp,bW,w,av]at h⊢
 by_cases c:k-(xs.length:Int)<0
 ·rw[decide_eq_true c,cond_true]at h;omega
 rw[decide_eq_false c,cond_false]at h⊢
 have hf:∀(j:Nat) x a,xs[j]? =some x→(gH xs (j:Int) a).nice=(bif decide (bC.f (x,a,())<0)then Stp.out (bC.f (x,a,()))else Stp.next (bC.f (x,a,()))):=λj x a hx=>by
  simp only[PX,gH,aj,getD_some hx]
 rw[bQ xs _ rfl (F:=λ_ x a=>(bif decide (bC.f (x,a,())<0)then Stp.out (bC.f (x,a,()))else Stp.next (bC.f (x,a,())))) hf]at h⊢
 cases hn:fi (λ_ x a=>(bif decide (bC.f (x,a,())<0)then Stp.out (bC.f (x,a,()))else Stp.next (bC.f (x,a,())))) 0 xs (k-(xs.length:Int))with
 |out p=>rw[hn]at h;simp only[Stp.elim]at h;omega
 |next b=>
  obtain⟨h2,h3⟩:=nY (λx a=>bC.f (x,a,())) aG xs 0 _ b (λx hx k h0 h1 h=>Ao x k h0 h1 (he x hx) h) (by omega) (by omega) hn
  simp only[Stp.elim]
  exact⟨by omega,by omega,h3⟩
noncomputable def u5:=zn st pe pd [(n4 0 eH bW)] (ks:=[.sc (.sl .conn),.sc (.int .i64)]) cp rI Tryz.func163 ⟨qV,trivial⟩
def kY:Sh:=⟨[zl 0 .conn,(3,false,[.down 0]),zi 4],[.dar .conn]⟩
noncomputable def kn (v0:List Conn)(v1:Int)(a:List Conn):Tr (Stp (List Conn) (Empty)):=
 .grd (bX v0 v1)<|
 .cal nt.c ((v0.getD v1.toNat (Ty.zero .conn)),()) λc2=>
 .grd (bX a v1)<|
 .ret (.next (a.set v1.toNat c2))
noncomputable def dD:kY.V→qb kY (List Conn):=λ(v0,v1,v2,_)=>⟨v1,v2,λv1 a=>(v0,v1,a,()),λv1 _=>(decide (v1<(v0.length:Int))),kn v0,up,1,(Int.toNat ((v0.length:Int)-v1)),Empty.elim,Prod.mk,oN (.exit 0) ⟨[zu 2,(3,false,[.down 0])],[.dar .conn]⟩ (λx=>(x.2,()))⟩
theorem qC {v0 v2:List Conn}{v1:Int}(h0:0≤v1)(h1:(v0.length:Int)≤4611686018427387904)(h2:sL aG v0)(h3:sL aG v2)(h4:v2.length=v2.length∧eF aG v2∧(v0.length:Int)≤(v2.length:Int)):(dD (v0,v1,v2,())).U (v0.length:Int) (λv1 a=>a.length=v2.length∧eF aG a∧(v0.length:Int)≤(a.length:Int)) (λ_=>True):=
 pI (a:=v2) h0 h1 h4
noncomputable def lj:FT (List Conn×Unit) (List Conn) (λx=>sL aG x.1) (λx v=>sL aG v):=⟨λ(x0,_)=>
  .grd ((((decide (0≤(x0.length:Int)))&&(decide ((x0.length:Int)=(x0.length:Int))))&&(decide ((x0.length:Int)*208≤(aA:Int))))&&(decide ((x0.length:Int)≤(aA:Int))))<|
  .val (List.replicate ((x0.length:Int).toNat) (⟨⟨0,0,0⟩,0,⟨0,[],0,false,false,false⟩,⟨0,[],[],0,false⟩,0,0,⟨0,0,false,false,0,0⟩,0,0⟩:Conn)) λl1=>
  .lp (dD (x0,0,l1,())).lp λ(_,a3_0)=>
  .ret a3_0,
 λ(x0,_) hp=>by
  refine Tr.G4 ?_ λ_=>Tr.V λ_ _=>Tr.L (qC ?_ ?_ ?_ ?_ ?_) (λa3_0 _=>Tr.R ?_) (λp=>Empty.elim p)
  all_goals ((try simp only[dD,LC.lp,LC.ct,Ct.lp]at*)<;>grind)⟩
noncomputable def ww:=f7 aY Tryz.func172 [(0,lb [0,3,4] [2,3])] [xO] 0 dD (ks:=[.sc (.sl .conn)]) lj (λv=>[(false,[sc .d .conn v])])
noncomputable def mZ:FT (Door×Door×Unit) (Bool) (λx=>em x.1∧em x.2.1) (λ_ _=>True):= .mk λ(x0,x1,_)=>
  .ite (x0.port != x1.port) (.ret false)<|
  .ite (x0.clock != x1.clock) (.ret false)<|
  .cal nf.c (x0.keys,x1.keys,()) λc1=>
  .ite (!c1) (.ret false)<|
  .val (jC.f (x0.limits,x1.limits,())) λc2=>
  .ite (!c2) (.ret false)<|
  .cal k9.c (x0.halves,x1.halves,()) λc3=>
  .ite (!c3) (.ret false)<|
  .cal lr.c (x0.table,x1.table,()) λc4=>
  .ite (!c4) (.ret false)<|
  .ite (x0.chal != x1.chal) (.ret false)<|
  .ret true
noncomputable def xI:=dh st Tryz.func16 [xJ,uv,vC,vL] (ks:=[.st .door,.st .door]) mZ rB
def jE:Sh:=⟨[zp 3 0,zo 5 1,zi 6],[zg .resu,za .issu]⟩
noncomputable def jG (v1:Resu)(v0:Int)(a:List Issu):Tr (Stp (List Issu) (Empty)):=
 .grd (bX v1.frames v0)<|
 .cal df.c ((v1.frames.getD v0.toNat []),()) λc1=>
 .bnd (β:=Bool×Unit) (.ite c1.2.2 (.val (yu.f (c1.2.1,18,())) λc2=>
   .ret (c2,()))<|
  .ret (false,())) λ(u3a0,_)=>
 .ite u3a0 (.val (nu.f (c1.2.1.ack,(-1),())) λc4=>
  .grd (DZ a 1 40)<|
  .ret (.next (a++[(⟨⟨c1.1.dst,c1.2.1.to,c1.2.1.from_⟩,c4,c1.2.1.seq⟩:Issu)])))<|
 .ret (.next a)
noncomputable def cX:jE.V→qb jE (List Issu):=λ(v0,v1,v2,_)=>⟨v0,v2,λv0 a=>(v0,v1,a,()),λv0 _=>(decide (v0<(v1.frames.length:Int))),jG v1,up,1,(Int.toNat ((v1.frames.length:Int)-v0)),Empty.elim,Prod.mk,oN (.exit 0) ⟨[zu 4,zo 5 0],[za .issu]⟩ (λx=>(x.2,()))⟩
theorem pk {v0:Int}{v1:Resu}{v2:List Issu}(h0:0≤v0)(h1:(v1.frames.length:Int)≤4611686018427387904)(h2:fc v1)(h3:(v2.length:Int)≤v0):(cX (v0,v1,v2,())).U (v1.frames.length:Int) (λv0 a=>(a.length:Int)≤v0) (λ_=>True):=
 pI (a:=v2) h0 h1 h3
noncomputable def gm:FT (Stac×Resu×Unit) (List Issu) (λx=>ep x.1∧fc x.2.1) (λx v=>sS v):=⟨λ(x0,x1,_)=>
  .lp (cX (0,x1,[],())).lp λ(_,a5_0)=>
  .ret a5_0,
 λ(x0,x1,_) hp=>by
  refine Tr.L (pk ?_ ?_ ?_ ?_) (λa5_0 _=>Tr.R ?_) (λp=>Empty.elim p)
  all_goals ((try simp only[cX,LC.lp,LC.ct,Ct.lp]at*)<;>grind)⟩
noncomputable def t9:=f7 st Tryz.func23 [(0,lb [3,5,6] [4,5]),(3000006,rA 0 32)] [vT,BB,xY] 0 cX (ks:=[.st .stac,.st .resu]) gm (λv=>[(false,[sc (.o true) .issu v])])
def jK:Sh:=⟨[zo 5 0,zl 13 .str,zi 14,zi 15],[za .issu]⟩
noncomputable def jO (v0:List ac)(v2:Int)(a:List Issu):Tr (Stp (List Issu) (Empty)):=
 .grd (bX v0 v2)<|
 .cal eh.c ((v0.getD v2.toNat []),()) λc1=>
 .bnd (β:=Bool×Unit) (.ite c1.2.2 (.val (n0.f (c1.2.1,18,())) λc2=>
   .ret (c2,()))<|
  .ret (false,())) λ(u3a0,_)=>
 .ite u3a0 (.val (kw.f (c1.2.1.ack,(-1),())) λc4=>
  .grd (DZ a 1 40)<|
  .ret (.next (a++[(⟨⟨c1.1.dst,c1.2.1.to,c1.2.1.from_⟩,c4,c1.2.1.seq⟩:Issu)])))<|
 .ret (.next a)
noncomputable def cY:jK.V→qb jK (List Issu):=λ(v0,v1,v2,v3,_)=>⟨v2,v3,λv2 a=>(v0,v1,v2,a,()),λv2 _=>(decide (v2<v1)),jO v0,up,1,(Int.toNat (v1-v2)),Empty.elim,Prod.mk,oN (.exit 0) ⟨[zu 4,zo 5 0],[za .issu]⟩ (λx=>(x.2,()))⟩
theorem pH {v0:List ac}{v1 v2:Int}{v3:List Issu}(h0:0≤v2)(h1:v1≤4611686018427387904)(h2:sL sS v0)(h3:v1≤4294967296)(h4:v1≤(v0.length:Int))(h5:(v3.length:Int)≤v2):(cY (v0,v1,v2,v3,())).U v1 (λv2 a=>(a.length:Int)≤v2) (λ_=>True):=
 pI (a:=v3) h0 h1 h5
noncomputable def cH:FT (Stac×Resu×Unit) (List Issu) (λx=>ep x.1∧fc x.2.1) (λx v=>sS v):=⟨λ(x0,x1,_)=>
  .lp (cY (x1.frames,(x1.frames.length:Int),0,[],())).lp λ(_,a5_0)=>
  .ret a5_0,
 λ(x0,x1,_) hp=>by
  refine Tr.L (pH ?_ ?_ ?_ ?_ ?_ ?_) (λa5_0 _=>Tr.R ?_) (λp=>Empty.elim p)
  all_goals ((try simp only[cY,LC.lp,LC.ct,Ct.lp]at*)<;>grind)⟩
noncomputable def ua:=f7 aY Tryz.func26 [(0,lb [5,13,14,15] [4,5]),(3000006,rA 0 29)] [xQ,Bu,xE] 0 cY (ks:=[.st .stac,.st .resu]) cH (λv=>[(false,[sc (.o true) .issu v])])
noncomputable def lg:FT (Stac×Stac×Unit) (Bool) (λx=>ep x.1∧ep x.2.1) (λ_ _=>True):= .mk λ(x0,x1,_)=>
  .cal mT.c (x0.link,x1.link,()) λc1=>
  .ite (!c1) (.ret false)<|
  .cal mZ.c (x0.door,x1.door,()) λc2=>
  .ite (!c2) (.ret false)<|
  .ret true
noncomputable def vS:=dh st Tryz.func28 [w8,xI] (ks:=[.st .stac,.st .stac]) lg rB
noncomputable def bm:FX (Tabl×Int×Unit) (Int) (λ_=>True) (aQ [.st .tabl,.sc (.int .i64)]):=⟨λ(x0,x1,_)=>
  .cal cp.c (x0.conns,x1,()) λc1=>
  .ite (decide (c1<0)) (.ret (-1))<|
  .cal cQ.c (x0.waiting,c1,()) λc2=>
  .ite (decide (c2<0)) (.ret (-1))<|
  .ret c2,
 λ(x0,x1,_) hp hf=>by
  simp only[aQ,Pk.fact,cZ,cg,Fl.fact,Ty.fl,Ty.toH]at hf
  refine Tr.C trivial λ_ _ _=>Tr.I (λ_=>Tr.R trivial) λ_=>Tr.C trivial λ_ _ _=>Tr.F (by kernel_rfl) trivial⟩
theorem zF (x:Tabl)(k:Int)(h0:0≤k)(h1:k≤1048576)(hl:x.conns.length≤140737488355328)(he:nQ .conn x.conns)(hw:x.waiting.length≤140737488355328)(h:0≤bm.f (x,k,())):bm.f (x,k,())≤k∧gX x:=by
 have e:bm.f (x,k,())=(bif decide (cp.f (x.conns,k,())<0)then-1 else(bif decide (cQ.f (x.waiting,cp.f (x.conns,k,()),())<0)then-1 else cQ.f (x.waiting,cp.f (x.conns,k,()),()))):=by first|(simp only[FX.f,PX,bm];done)|(simp only[FX.f,PX,bm];rfl)
 rw[e]at h⊢
 obtain⟨p0,e0⟩:=dw h
 rw[e0]at h⊢
 obtain⟨p1,e1⟩:=dw h
 rw[e1]at h⊢
 have b0:=tN _ _ h0 (by omega) hl he p0
 have b1:=qO _ _ p0 (by omega) hw p1
 refine⟨by omega, ?_⟩
 unfold gX
 exact⟨by omega,b0.2.2,by omega⟩
theorem yV (x:Tabl)(k:Int)(h0:0≤k)(h1:k≤1048576)(hl:x.conns.length≤140737488355328)(he:nQ .conn x.conns)(hw:x.waiting.length≤140737488355328)(h:0≤bm.f (x,k,())):bm.f (x,k,())≤k∧x.conns.length≤1048576:=by
 have e:bm.f (x,k,())=(bif decide (cp.f (x.conns,k,())<0)then-1 else(bif decide (cQ.f (x.waiting,cp.f (x.conns,k,()),())<0)then-1 else cQ.f (x.waiting,cp.f (x.conns,k,()),()))):=by first|(simp only[FX.f,PX,bm];done)|(simp only[FX.f,PX,bm];rfl)
 rw[e]at h⊢
 obtain⟨p0,e0⟩:=dw h
 rw[e0]at h⊢
 obtain⟨p1,e1⟩:=dw h
 rw[e1]at h⊢
 have b0:=tN _ _ h0 (by omega) hl he p0
 have b1:=qO _ _ p0 (by omega) hw p1
 refine⟨by omega, ?_⟩
 exact b0.2.1
noncomputable def vB:=gE st Tryz.func64 [u5,uQ] (ks:=[.st .tabl,.sc (.int .i64)]) bm rI
noncomputable def lk:FT (Tabl×Unit) (Tabl) (λx=>gX x.1) (λx v=>gX v):= .mk λ(x0,_)=>
  .cal lj.c (x0.conns,()) λc1=>
  .cal jb.c (x0.waiting,()) λc2=>
  .ret (⟨c1,c2⟩:Tabl)
noncomputable def va:=dh aY Tryz.func71 [ww,tU] (ks:=[.st .tabl]) lk (λv=>[(true,C2 .d (.o true) v)])
noncomputable def bL:FX (Door×Int×Unit) (Int) (λ_=>True) (aQ [.st .door,.sc (.int .i64)]):=⟨λ(x0,x1,_)=>
  .cal bR.c (x0.keys,x1,()) λc1=>
  .ite (decide (c1<0)) (.ret (-1))<|
  .cal cq.c (x0.halves,c1,()) λc2=>
  .ite (decide (c2<0)) (.ret (-1))<|
  .cal bm.c (x0.table,c2,()) λc3=>
  .ite (decide (c3<0)) (.ret (-1))<|
  .ret c3,
 λ(x0,x1,_) hp hf=>by
  simp only[aQ,Pk.fact,cZ,cg,Fl.fact,Ty.fl,Ty.toH]at hf
  refine Tr.C trivial λ_ _ _=>Tr.I (λ_=>Tr.R trivial) λ_=>Tr.C trivial λ_ _ _=>Tr.I (λ_=>Tr.R trivial) λ_=>Tr.C trivial λ_ _ _=>Tr.F (by kernel_rfl) trivial⟩
theorem Ac (x:Door)(k:Int)(h0:0≤k)(h1:k≤1048576)(n1:x.keys.now.rows.length≤140737488355328)(n2:nQ .macRow x.keys.now.rows)(m1:x.keys.before.rows.length≤140737488355328)(m2:nQ .macRow x.keys.before.rows)(hh:x.halves.length≤140737488355328)(hl:x.table.conns.length≤140737488355328)(he:nQ .conn x.table.conns)(hw:x.table.waiting.length≤140737488355328)(h:0≤bL.f (x,k,())):bL.f (x,k,())≤k∧em x:=by
 have e:bL.f (x,k,())=(bif decide (bR.f (x.keys,k,())<0)then-1 else(bif decide (cq.f (x.halves,bR.f (x.keys,k,()),())<0)then-1 else(bif decide (bm.f (x.table,cq.f (x.halves,bR.f (x.keys,k,()),()),())<0)then-1 else bm.f (x.table,cq.f (x.halves,bR.f (x.keys,k,()),()),())))):=by first|(simp only[FX.f,PX,bL];done)|(simp only[FX.f,PX,bL];rfl)
 rw[e]at h⊢
 obtain⟨p0,e0⟩:=dw h
 rw[e0]at h⊢
 obtain⟨p1,e1⟩:=dw h
 rw[e1]at h⊢
 obtain⟨p2,e2⟩:=dw h
 rw[e2]at h⊢
 have b0:=wc _ _ h0 (by omega) n1 n2 m1 m2 p0
 have b1:=tn _ _ p0 (by omega) hh p1
 have b2:=zF _ _ p1 (by omega) hl he hw p2
 refine⟨by omega, ?_⟩
 have q0:=b0.2
 have q1:=b1.2
 have q2:=b2.2
 unfold hU at q0
 unfold gX at q2
 unfold em
 exact⟨q0.1,q0.2.1,q0.2.2.1,q0.2.2.2,by omega,q2.1,q2.2.1,q2.2.2⟩
theorem AG (x:Door)(k:Int)(h0:0≤k)(h1:k≤1048576)(n1:x.keys.now.rows.length≤140737488355328)(n2:nQ .macRow x.keys.now.rows)(m1:x.keys.before.rows.length≤140737488355328)(m2:nQ .macRow x.keys.before.rows)(hh:x.halves.length≤140737488355328)(hl:x.table.conns.length≤140737488355328)(he:nQ .conn x.table.conns)(hw:x.table.waiting.length≤140737488355328)(h:0≤bL.f (x,k,())):bL.f (x,k,())≤k∧x.table.conns.length≤1048576:=by
 have e:bL.f (x,k,())=(bif decide (bR.f (x.keys,k,())<0)then-1 else(bif decide (cq.f (x.halves,bR.f (x.keys,k,()),())<0)then-1 else(bif decide (bm.f (x.table,cq.f (x.halves,bR.f (x.keys,k,()),()),())<0)then-1 else bm.f (x.table,cq.f (x.halves,bR.f (x.keys,k,()),()),())))):=by first|(simp only[FX.f,PX,bL];done)|(simp only[FX.f,PX,bL];rfl)
 rw[e]at h⊢
 obtain⟨p0,e0⟩:=dw h
 rw[e0]at h⊢
 obtain⟨p1,e1⟩:=dw h
 rw[e1]at h⊢
 obtain⟨p2,e2⟩:=dw h
 rw[e2]at h⊢
 have b0:=wc _ _ h0 (by omega) n1 n2 m1 m2 p0
 have b1:=tn _ _ p0 (by omega) hh p1
 have b2:=yV _ _ p1 (by omega) hl he hw p2
 refine⟨by omega, ?_⟩
 exact b2.2
noncomputable def wV:=gE st Tryz.func10 [xe,vu,vB] (ks:=[.st .door,.sc (.int .i64)]) bL rI
noncomputable def mW:FT (Door×Unit) (Door) (λx=>em x.1) (λx v=>em v):= .mk λ(x0,_)=>
  .cal nF.c (x0.keys,()) λc1=>
  .val (jo.f (x0.limits,())) λc2=>
  .cal ll.c (x0.halves,()) λc3=>
  .cal lk.c (x0.table,()) λc4=>
  .ret (⟨x0.port,x0.clock,c1,c2,c3,c4,x0.chal⟩:Door)
noncomputable def wR:=dh aY Tryz.func13 [xA,ui,wG,va] (ks:=[.st .door]) mW (λv=>[(true,CM (.o true) (.o true) (.o true) .d (.o true) v)])
noncomputable def bb:FX (Stac×Int×Unit) (Int) (λ_=>True) (aQ [.st .stac,.sc (.int .i64)]):=⟨λ(x0,x1,_)=>
  .cal cy.c (x0.link,x1,()) λc1=>
  .ite (decide (c1<0)) (.ret (-1))<|
  .cal bL.c (x0.door,c1,()) λc2=>
  .ite (decide (c2<0)) (.ret (-1))<|
  .ret c2,
 λ(x0,x1,_) hp hf=>by
  simp only[aQ,Pk.fact,cZ,cg,Fl.fact,Ty.fl,Ty.toH]at hf
  refine Tr.C trivial λ_ _ _=>Tr.I (λ_=>Tr.R trivial) λ_=>Tr.C trivial λ_ _ _=>Tr.F (by kernel_rfl) trivial⟩
theorem tj (x:Stac)(k:Int)(h0:0≤k)(h1:k≤1048576)(hc:x.link.cache.length≤140737488355328)(n1:x.door.keys.now.rows.length≤140737488355328)(n2:nQ .macRow x.door.keys.now.rows)(m1:x.door.keys.before.rows.length≤140737488355328)(m2:nQ .macRow x.door.keys.before.rows)(hh:x.door.halves.length≤140737488355328)(hl:x.door.table.conns.length≤140737488355328)(he:nQ .conn x.door.table.conns)(hw:x.door.table.waiting.length≤140737488355328)(h:0≤bb.f (x,k,())):bb.f (x,k,())≤k∧ep x:=by
 have e:bb.f (x,k,())=(bif decide (cy.f (x.link,k,())<0)then-1 else(bif decide (bL.f (x.door,cy.f (x.link,k,()),())<0)then-1 else bL.f (x.door,cy.f (x.link,k,()),()))):=by first|(simp only[FX.f,PX,bb];done)|(simp only[FX.f,PX,bb];rfl)
 rw[e]at h⊢
 obtain⟨p0,e0⟩:=dw h
 rw[e0]at h⊢
 obtain⟨p1,e1⟩:=dw h
 rw[e1]at h⊢
 have b0:=vY _ _ h0 (by omega) hc p0
 have b1:=Ac _ _ p0 (by omega) n1 n2 m1 m2 hh hl he hw p1
 refine⟨by omega, ?_⟩
 have q0:=b0.2
 have q1:=b1.2
 unfold em at q1
 unfold ep
 exact⟨by omega,q1⟩
theorem ze (x:Stac)(k:Int)(h0:0≤k)(h1:k≤1048576)(hc:x.link.cache.length≤140737488355328)(n1:x.door.keys.now.rows.length≤140737488355328)(n2:nQ .macRow x.door.keys.now.rows)(m1:x.door.keys.before.rows.length≤140737488355328)(m2:nQ .macRow x.door.keys.before.rows)(hh:x.door.halves.length≤140737488355328)(hl:x.door.table.conns.length≤140737488355328)(he:nQ .conn x.door.table.conns)(hw:x.door.table.waiting.length≤140737488355328)(h:0≤bb.f (x,k,())):bb.f (x,k,())≤k∧x.door.table.conns.length≤1048576:=by
 have e:bb.f (x,k,())=(bif decide (cy.f (x.link,k,())<0)then-1 else(bif decide (bL.f (x.door,cy.f (x.link,k,()),())<0)then-1 else bL.f (x.door,cy.f (x.link,k,()),()))):=by first|(simp only[FX.f,PX,bb];done)|(simp only[FX.f,PX,bb];rfl)
 rw[e]at h⊢
 obtain⟨p0,e0⟩:=dw h
 rw[e0]at h⊢
 obtain⟨p1,e1⟩:=dw h
 rw[e1]at h⊢
 have b0:=vY _ _ h0 (by omega) hc p0
 have b1:=AG _ _ p0 (by omega) n1 n2 m1 m2 hh hl he hw p1
 refine⟨by omega, ?_⟩
 exact b1.2
noncomputable def vQ:=gE st Tryz.func21 [wZ,wV] (ks:=[.st .stac,.sc (.int .i64)]) bb rI
noncomputable def fo:FT (Stac×Unit) (Stac) (λx=>ep x.1) (λx v=>ep v):= .mk λ(x0,_)=>
  .cal nR.c (x0.link,()) λc1=>
  .cal mW.c (x0.door,()) λc2=>
  .ret (⟨c1,c2⟩:Stac)
noncomputable def wx:=dh aY Tryz.func24 [wN,wR] (ks:=[.st .stac]) fo (λv=>[(true,CR (.o true) (.o true) (.o true) (.o true) .d (.o true) v)])
noncomputable def kU:List (Ent1 Tryz.prog):=[]
def dj:Sh:=⟨[zo 0 0,zi 1,zi 5],[.arr .issu false false]⟩
noncomputable def j9:Fx:=⟨32,Tryz.f32,[(0,la ⟨[0,1,5],[],false,1⟩ ⟨[1,4],[],false,1⟩)],1⟩
noncomputable def dq (v1:Int)(a:Int×List Issu):Tr (Stp (Int×List Issu) (Empty)):=
 .grd (bX a.2 v1)<|
 .grd ((decide (0≤v1))&&(decide (v1<((a.2.set v1.toNat ({(a.2.getD v1.toNat (Ty.zero .issu))with tuple.ip:=a.1}:Issu)).length:Int))))<|
 .val ((a.2.set v1.toNat ({(a.2.getD v1.toNat (Ty.zero .issu))with tuple.ip:=a.1}:Issu)).set v1.toNat ({((a.2.set v1.toNat ({(a.2.getD v1.toNat (Ty.zero .issu))with tuple.ip:=a.1}:Issu)).getD v1.toNat (Ty.zero .issu))with tuple.port:=(IntKind.wrap .i64 (a.1+1))}:Issu)) λl1=>
 .grd (bX l1 v1)<|
 .val (l1.set v1.toNat ({(l1.getD v1.toNat (Ty.zero .issu))with tuple.my:=(IntKind.wrap .i64 ((IntKind.wrap .i64 (a.1+1))+1))}:Issu)) λl2=>
 .val (IntKind.wrap .i64 ((IntKind.wrap .i64 ((IntKind.wrap .i64 (a.1+1))+1))+1)) λe3=>
 .grd (bX l2 v1)<|
 .grd ((decide (0≤v1))&&(decide (v1<((l2.set v1.toNat ({(l2.getD v1.toNat (Ty.zero .issu))with seq:=e3}:Issu)).length:Int))))<|
 .val ((l2.set v1.toNat ({(l2.getD v1.toNat (Ty.zero .issu))with seq:=e3}:Issu)).set v1.toNat ({((l2.set v1.toNat ({(l2.getD v1.toNat (Ty.zero .issu))with seq:=e3}:Issu)).getD v1.toNat (Ty.zero .issu))with cookie:=(IntKind.wrap .i64 (e3+1))}:Issu)) λl4=>
 .ret (.next ((IntKind.wrap .i64 ((IntKind.wrap .i64 (e3+1))+1)),l4))
noncomputable def aE:dj.V→qb dj (Int×List Issu):=λ(v0,v1,v2,_)=>⟨v1,(v0,v2),λv1 a=>(a.1,v1,a.2,()),λv1 a=>(decide (v1<(a.2.length:Int))),dq,up,1,(Int.toNat ((v2.length:Int)-v1)),Empty.elim,Prod.mk,oN (.exit 0) ⟨[zi 1,zu 4],[.arr .issu false false]⟩ (λx=>(x.2.1,x.2.2,()))⟩
theorem mL:LS Tryz.prog j9 [0] (n4 0 dj aE):=iJ st (bJ kU) _ aE [] trivial
theorem mM {v0 v1:Int}{v2:List Issu}(h0:0≤v1)(h1:(v2.length:Int)≤4611686018427387904)(h2:sS v2)(h3:v2.length=v2.length∧v0≤9223372036854775807):(aE (v0,v1,v2,())).S (λv1 a=>a.2.length=v2.length∧a.2.length=v2.length∧a.1≤9223372036854775807) (λ_=>True):=by
 refine LC.okS ⟨rfl,h3⟩ (λj a hj hv=>⟨⟨?_, ?_⟩, ?_⟩) (λa hv=> ?_)
 ·simp only[aE,decide_eq_true_eq]at*;omega
 ·simp only[aE]at*;exact BE (by omega) (by omega)
 ·refine Tr.G2 ?_ λ_=>Tr.G2 ?_ λ_=>Tr.V λ_ _=>Tr.G2 ?_ λ_=>Tr.V λ_ _=>Tr.V λ_ _=>Tr.G2 ?_ λ_=>Tr.G2 ?_ λ_=>Tr.V λ_ _=>Tr.Rn ?_
  all_goals (try simp only[aE]at*)<;>(grind)
 ·simp only[aE,decide_eq_false_iff_not]at*;omega
noncomputable def ge:FT (List Issu×Int×Unit) (Int×List Issu) (λx=>sS x.1∧x.2.1≤9223372036854775807) (λx v=>sS v.2∧v.1≤9223372036854775807):=⟨λ(x0,x1,_)=>
  .lp (aE (x1,0,x0,())).lp λ(_,a5_0,a5_1)=>
  .ret (a5_0,a5_1),
 λ(x0,x1,_) hp=>by
  refine Tr.L (mM ?_ ?_ ?_ ?_) (λ(a5_0,a5_1) _=>Tr.R ?_) (λp=>Empty.elim p)
  all_goals ((try simp only[aE,LC.lp,LC.ct,Ct.lp]at*)<;>grind)⟩
noncomputable def rX:=mz st j9 kU [(n4 0 dj aE)] [.wr false [.own 0],.sc (.int .i64)] [.arr .issu] (λx y=>(y.1,x.2.1,())) ge (λv=>[(false,[.c (.int .i64 v.1)])]) (λx y v=>(v.2,())) Tryz.func32 (by kernel_rfl) ⟨mL,trivial⟩
def ig:Sh:=⟨[zl 0 .issu,zi 1,zi 5],[]⟩
noncomputable def dm (v0:List Issu)(v2:Int)(a:Int):Tr (Stp (Int) ((Int))):=
 .grd (bX v0 v2)<|
 .ite ((v0.getD v2.toNat (Ty.zero .issu)).tuple.ip != a) (.ret (.out a))<|
 .grd (bX v0 v2)<|
 .ite ((v0.getD v2.toNat (Ty.zero .issu)).tuple.port != (IntKind.wrap .i64 (a+1))) (.ret (.out (IntKind.wrap .i64 (a+1))))<|
 .grd (bX v0 v2)<|
 .ite ((v0.getD v2.toNat (Ty.zero .issu)).tuple.my != (IntKind.wrap .i64 ((IntKind.wrap .i64 (a+1))+1))) (.ret (.out (IntKind.wrap .i64 ((IntKind.wrap .i64 (a+1))+1))))<|
 .val (IntKind.wrap .i64 ((IntKind.wrap .i64 ((IntKind.wrap .i64 (a+1))+1))+1)) λe1=>
 .grd (bX v0 v2)<|
 .ite ((v0.getD v2.toNat (Ty.zero .issu)).seq != e1) (.ret (.out e1))<|
 .grd (bX v0 v2)<|
 .ite ((v0.getD v2.toNat (Ty.zero .issu)).cookie != (IntKind.wrap .i64 (e1+1))) (.ret (.out (IntKind.wrap .i64 (e1+1))))<|
 .ret (.next (IntKind.wrap .i64 ((IntKind.wrap .i64 (e1+1))+1)))
noncomputable def dk:ig.V→yK ig Int (Int):=λ(v0,v1,v2,_)=>⟨v2,v1,λv2 a=>(v0,a,v2,()),λv2 _=>(decide (v2<(v0.length:Int))),dm v0,up,1,(Int.toNat ((v0.length:Int)-v2)),.inl,eR,oB .ret ⟨[zi 1,zi 4],[]⟩ (λp=>(p,(-1),())) (.exit 0) ⟨[zi 1,zu 4],[]⟩ (λx=>(x.2,()))⟩
theorem ng {v0:List Issu}{v1 v2:Int}(h0:0≤v2)(h1:(v0.length:Int)≤4611686018427387904)(h2:v1≤9223372036854775807):(dk (v0,v1,v2,())).U (v0.length:Int) (λv2 a=>a≤9223372036854775807) (λ_=>True):=
 pI (a:=v1) h0 h1 h2
noncomputable def eO:FT (List Issu×Int×Unit) (Int) (λx=>sS x.1∧x.2.1≤9223372036854775807) (λx v=>v≤9223372036854775807):= .mk (λ(x0,x1,_)=>
  .lp (dk (x0,x1,0,())).lp λw2=> .sum w2 (λ_=>
  .ret (-1))<|
  λ(_,a2_0)=>
  .ret a2_0) (wH @ng)
noncomputable def rO:=f7 st Tryz.func33 [(0,lb [0,1,5] [1,4])] [] 0 dk (ks:=[.sc (.sl .issu),.sc (.int .i64)]) eO rI
noncomputable def l6:List (Ent1 Tryz.prog):=[]
def dL:Sh:=⟨[zo 0 0,zi 1,zi 5],[.arr .half false false]⟩
noncomputable def ma:Fx:=⟨81,Tryz.f81,[(0,la ⟨[0,1,5],[],false,1⟩ ⟨[1,4],[],false,1⟩)],1⟩
noncomputable def dV (v1:Int)(a:Int×List Half):Tr (Stp (Int×List Half) (Empty)):=
 .grd (bX a.2 v1)<|
 .grd ((decide (0≤v1))&&(decide (v1<((a.2.set v1.toNat ({(a.2.getD v1.toNat (Ty.zero .half))with tuple.ip:=a.1}:Half)).length:Int))))<|
 .val ((a.2.set v1.toNat ({(a.2.getD v1.toNat (Ty.zero .half))with tuple.ip:=a.1}:Half)).set v1.toNat ({((a.2.set v1.toNat ({(a.2.getD v1.toNat (Ty.zero .half))with tuple.ip:=a.1}:Half)).getD v1.toNat (Ty.zero .half))with tuple.port:=(IntKind.wrap .i64 (a.1+1))}:Half)) λl1=>
 .grd (bX l1 v1)<|
 .val (l1.set v1.toNat ({(l1.getD v1.toNat (Ty.zero .half))with tuple.my:=(IntKind.wrap .i64 ((IntKind.wrap .i64 (a.1+1))+1))}:Half)) λl2=>
 .val (IntKind.wrap .i64 ((IntKind.wrap .i64 ((IntKind.wrap .i64 (a.1+1))+1))+1)) λe3=>
 .grd (bX l2 v1)<|
 .grd ((decide (0≤v1))&&(decide (v1<((l2.set v1.toNat ({(l2.getD v1.toNat (Ty.zero .half))with iss:=e3}:Half)).length:Int))))<|
 .val ((l2.set v1.toNat ({(l2.getD v1.toNat (Ty.zero .half))with iss:=e3}:Half)).set v1.toNat ({((l2.set v1.toNat ({(l2.getD v1.toNat (Ty.zero .half))with iss:=e3}:Half)).getD v1.toNat (Ty.zero .half))with irs:=(IntKind.wrap .i64 (e3+1))}:Half)) λl4=>
 .grd (bX l4 v1)<|
 .val (l4.set v1.toNat ({(l4.getD v1.toNat (Ty.zero .half))with opts.mss:=(IntKind.wrap .i64 ((IntKind.wrap .i64 (e3+1))+1))}:Half)) λl5=>
 .val (IntKind.wrap .i64 ((IntKind.wrap .i64 ((IntKind.wrap .i64 (e3+1))+1))+1)) λe6=>
 .grd (bX l5 v1)<|
 .grd ((decide (0≤v1))&&(decide (v1<((l5.set v1.toNat ({(l5.getD v1.toNat (Ty.zero .half))with opts.scale:=e6}:Half)).length:Int))))<|
 .val ((l5.set v1.toNat ({(l5.getD v1.toNat (Ty.zero .half))with opts.scale:=e6}:Half)).set v1.toNat ({((l5.set v1.toNat ({(l5.getD v1.toNat (Ty.zero .half))with opts.scale:=e6}:Half)).getD v1.toNat (Ty.zero .half))with opts.sack:=(((IntKind.wrap .i64 (e6+1)).tmod 3)==0)}:Half)) λl7=>
 .grd (bX l7 v1)<|
 .val (l7.set v1.toNat ({(l7.getD v1.toNat (Ty.zero .half))with opts.stamp:=(((IntKind.wrap .i64 ((IntKind.wrap .i64 (e6+1))+1)).tmod 3)==0)}:Half)) λl8=>
 .val (IntKind.wrap .i64 ((IntKind.wrap .i64 ((IntKind.wrap .i64 (e6+1))+1))+1)) λe9=>
 .grd (bX l8 v1)<|
 .grd ((decide (0≤v1))&&(decide (v1<((l8.set v1.toNat ({(l8.getD v1.toNat (Ty.zero .half))with opts.val:=e9}:Half)).length:Int))))<|
 .val ((l8.set v1.toNat ({(l8.getD v1.toNat (Ty.zero .half))with opts.val:=e9}:Half)).set v1.toNat ({((l8.set v1.toNat ({(l8.getD v1.toNat (Ty.zero .half))with opts.val:=e9}:Half)).getD v1.toNat (Ty.zero .half))with opts.echo:=(IntKind.wrap .i64 (e9+1))}:Half)) λl10=>
 .grd (bX l10 v1)<|
 .val (l10.set v1.toNat ({(l10.getD v1.toNat (Ty.zero .half))with age:=(IntKind.wrap .i64 ((IntKind.wrap .i64 (e9+1))+1))}:Half)) λl11=>
 .val (IntKind.wrap .i64 ((IntKind.wrap .i64 ((IntKind.wrap .i64 (e9+1))+1))+1)) λe12=>
 .grd (bX l11 v1)<|
 .ret (.next ((IntKind.wrap .i64 (e12+1)),(l11.set v1.toNat ({(l11.getD v1.toNat (Ty.zero .half))with window:=e12}:Half))))
noncomputable def aK:dL.V→qb dL (Int×List Half):=λ(v0,v1,v2,_)=>⟨v1,(v0,v2),λv1 a=>(a.1,v1,a.2,()),λv1 a=>(decide (v1<(a.2.length:Int))),dV,up,1,(Int.toNat ((v2.length:Int)-v1)),Empty.elim,Prod.mk,oN (.exit 0) ⟨[zi 1,zu 4],[.arr .half false false]⟩ (λx=>(x.2.1,x.2.2,()))⟩
theorem oa:LS Tryz.prog ma [0] (n4 0 dL aK):=iJ st (bJ l6) _ aK [] trivial
theorem n6 {v0 v1:Int}{v2:List Half}(h0:0≤v1)(h1:(v2.length:Int)≤4611686018427387904)(h2:sS v2)(h3:v2.length=v2.length∧v0≤9223372036854775807):(aK (v0,v1,v2,())).S (λv1 a=>a.2.length=v2.length∧a.2.length=v2.length∧a.1≤9223372036854775807) (λ_=>True):=by
 refine LC.okS ⟨rfl,h3⟩ (λj a hj hv=>⟨⟨?_, ?_⟩, ?_⟩) (λa hv=> ?_)
 ·simp only[aK,decide_eq_true_eq]at*;omega
 ·simp only[aK]at*;exact BE (by omega) (by omega)
 ·refine Tr.G2 ?_ λ_=>Tr.G2 ?_ λ_=>Tr.V λ_ _=>Tr.G2 ?_ λ_=>Tr.V λ_ _=>Tr.V λ_ _=>Tr.G2 ?_ λ_=>Tr.G2 ?_ λ_=>Tr.V λ_ _=>Tr.G2 ?_ λ_=>Tr.V λ_ _=>Tr.V λ_ _=>Tr.G2 ?_ λ_=>Tr.G2 ?_ λ_=>Tr.V λ_ _=>Tr.G2 ?_ λ_=>Tr.V λ_ _=>Tr.V λ_ _=>Tr.G2 ?_ λ_=>Tr.G2 ?_ λ_=>Tr.V λ_ _=>Tr.G2 ?_ λ_=>Tr.V λ_ _=>Tr.V λ_ _=>Tr.G2 ?_ λ_=>Tr.Rn ?_
  all_goals (try simp only[aK]at*)<;>(grind)
 ·simp only[aK,decide_eq_false_iff_not]at*;omega
noncomputable def ii:FT (List Half×Int×Unit) (Int×List Half) (λx=>sS x.1∧x.2.1≤9223372036854775807) (λx v=>sS v.2∧v.1≤9223372036854775807):=⟨λ(x0,x1,_)=>
  .lp (aK (x1,0,x0,())).lp λ(_,a13_0,a13_1)=>
  .ret (a13_0,a13_1),
 λ(x0,x1,_) hp=>by
  refine Tr.L (n6 ?_ ?_ ?_ ?_) (λ(a13_0,a13_1) _=>Tr.R ?_) (λp=>Empty.elim p)
  all_goals ((try simp only[aK,LC.lp,LC.ct,Ct.lp]at*)<;>grind)⟩
noncomputable def sA:=mz st ma l6 [(n4 0 dL aK)] [.wr false [.own 0],.sc (.int .i64)] [.arr .half] (λx y=>(y.1,x.2.1,())) ii (λv=>[(false,[.c (.int .i64 v.1)])]) (λx y v=>(v.2,())) Tryz.func81 (by kernel_rfl) ⟨oa,trivial⟩
noncomputable def lU:List (Ent1 Tryz.prog):=[]
def dS:Sh:=⟨[zl 0 .str,zi 1,zi 5],[]⟩
noncomputable def lM:Fx:=⟨88,Tryz.f88,[(0,lb [0,1,5] [1,4])],0⟩
noncomputable def fp (v0:List ac)(v2:Int)(a:Int):Tr (Stp (Int) ((Int))):=
 .grd (bX v0 v2)<|
 .ite (decide ((IntKind.wrap .i64 (a-((v0.getD v2.toNat []).length:Int)))<0)) (.ret (.out (IntKind.wrap .i64 (a-((v0.getD v2.toNat []).length:Int)))))<|
 .ret (.next (IntKind.wrap .i64 (a-((v0.getD v2.toNat []).length:Int))))
noncomputable def bv:dS.V→yK dS Int (Int):=λ(v0,v1,v2,_)=>⟨v2,v1,λv2 a=>(v0,a,v2,()),λv2 _=>(decide (v2<(v0.length:Int))),fp v0,up,1,(Int.toNat ((v0.length:Int)-v2)),.inl,eR,oB .ret ⟨[zi 1,zi 4],[]⟩ (λp=>(p,(-1),())) (.exit 0) ⟨[zi 1,zu 4],[]⟩ (λx=>(x.2,()))⟩
theorem oE:LS Tryz.prog lM [0] (n4 0 dS bv):=iJ st (bJ lU) _ bv [] trivial
theorem oI {v0:List ac}{v1 v2:Int}(h0:0≤v2)(h1:(v0.length:Int)≤4611686018427387904):(bv (v0,v1,v2,())).U (v0.length:Int) (λ_ _=>True) (λ_=>True):=
 pI (a:=v1) h0 h1 trivial
noncomputable def bO:FX (List ac×Int×Unit) (Int) (λ_=>True) (aQ [.sc (.sl .str),.sc (.int .i64)]):=⟨λ(x0,x1,_)=>
  .ite (decide ((IntKind.wrap .i64 (x1-(x0.length:Int)))<0)) (.ret (-1))<|
  .lp (bv (x0,(IntKind.wrap .i64 (x1-(x0.length:Int))),0,())).lp λw1=> .sum w1 (λ_=>
  .ret (-1))<|
  λ(_,a1_0)=>
  .ret a1_0,
 λ(x0,x1,_) hp hf=>by
  simp only[aQ,Pk.fact,cZ,cg,Fl.fact,Ty.fl,Ty.toH]at hf
  refine Tr.I (λ_=>Tr.R trivial) λ_=>Tr.L (oI ?_ ?_) (λa1_0 _=>Tr.Sr (Tr.R trivial)) (λp1a0 _=>Tr.Sl (Tr.R trivial))
  all_goals ((try simp only[bv,LC.lp,LC.ct,Ct.lp]at*)<;>grind)⟩
theorem uZ (xs:List ac)(k:Int)(h0:0≤k)(h1:k≤1048576)(hl:xs.length≤140737488355328)(he:nQ .str xs)(h:0≤bO.f (xs,k,())):bO.f (xs,k,())≤k∧xs.length≤1048576∧eF sS xs:=by
 have w:IntKind.wrap .i64 (k-(xs.length:Int))=k-(xs.length:Int):=ap (by omega) (by omega)
 simp only[FX.f,PX,bO,bv,w,av]at h⊢
 by_cases c:k-(xs.length:Int)<0
 ·rw[decide_eq_true c,cond_true]at h;omega
 rw[decide_eq_false c,cond_false]at h⊢
 have hf:∀(j:Nat) x a,xs[j]? =some x→(fp xs (j:Int) a).nice=(bif decide (IntKind.wrap .i64 (a-(List.length x:Int))<0)then Stp.out (IntKind.wrap .i64 (a-(List.length x:Int)))else Stp.next (IntKind.wrap .i64 (a-(List.length x:Int)))):=λj x a hx=>by
  simp only[PX,fp,aj,getD_some hx]
 rw[bQ xs _ rfl (F:=λ_ x a=>(bif decide (IntKind.wrap .i64 (a-(List.length x:Int))<0)then Stp.out (IntKind.wrap .i64 (a-(List.length x:Int)))else Stp.next (IntKind.wrap .i64 (a-(List.length x:Int))))) hf]at h⊢
 cases hn:fi (λ_ x a=>(bif decide (IntKind.wrap .i64 (a-(List.length x:Int))<0)then Stp.out (IntKind.wrap .i64 (a-(List.length x:Int)))else Stp.next (IntKind.wrap .i64 (a-(List.length x:Int))))) 0 xs (k-(xs.length:Int))with
 |out p=>rw[hn]at h;simp only[Stp.elim]at h;omega
 |next b=>
  obtain⟨h2,h3⟩:=nY (λ(x:ac) a=>IntKind.wrap .i64 (a-(List.length x:Int))) sS xs 0 _ b (λx hx k h0 h1 h=>by
   have hx2:=Bw he x hx
   have w2:IntKind.wrap .i64 (k-(List.length x:Int))=k-(List.length x:Int):=ap (by omega) (by omega)
   simp only[w2]at h⊢
   exact⟨by omega,by unfold sS;omega⟩) (by omega) (by omega) hn
  simp only[Stp.elim]
  exact⟨by omega,by omega,h3⟩
noncomputable def sx:=zn st lM lU [(n4 0 dS bv)] (ks:=[.sc (.sl .str),.sc (.int .i64)]) bO rI Tryz.func88 ⟨oE,trivial⟩
noncomputable def dF:FX (Resu×Int×Unit) (Int) (λ_=>True) (aQ [.st .resu,.sc (.int .i64)]):=⟨λ(x0,x1,_)=>
  .cal bO.c (x0.frames,x1,()) λc1=>
  .ite (decide (c1<0)) (.ret (-1))<|
  .ite (decide ((IntKind.wrap .i64 (c1-(x0.text.length:Int)))<0)) (.ret (-1))<|
  .ret (IntKind.wrap .i64 (c1-(x0.text.length:Int))),
 λ(x0,x1,_) hp hf=>by
  simp only[aQ,Pk.fact,cZ,cg,Fl.fact,Ty.fl,Ty.toH]at hf
  refine Tr.C trivial λ_ _ _=>Tr.F (by kernel_rfl) trivial⟩
theorem rj (x:Resu)(k:Int)(h0:0≤k)(h1:k≤1048576)(hl:x.frames.length≤140737488355328)(he:nQ .str x.frames)(hd:x.text.length≤4611686018427387904)(h:0≤dF.f (x,k,())):dF.f (x,k,())≤k∧x.frames.length≤1048576∧fc x:=by
 have e0:dF.f (x,k,())=(bif decide (bO.f (x.frames,k,())<0)then-1 else(bif decide (IntKind.wrap .i64 (bO.f (x.frames,k,())-(x.text.length:Int))<0)then-1 else IntKind.wrap .i64 (bO.f (x.frames,k,())-(x.text.length:Int)))):=by simp only[FX.f,PX,dF]
 rw[e0]at h⊢
 obtain⟨p0,e1⟩:=dw h
 rw[e1]at h⊢
 have b:=uZ x.frames k h0 h1 hl he p0
 obtain⟨p1,e2⟩:=dw h
 rw[e2]at h⊢
 have w:IntKind.wrap .i64 (bO.f (x.frames,k,())-(x.text.length:Int))=bO.f (x.frames,k,())-(x.text.length:Int):=ap (by omega) (by omega)
 rw[w]at p1⊢
 refine⟨by omega,b.2.1, ?_⟩
 unfold fc
 exact⟨by omega,b.2.2,by omega⟩
noncomputable def uJ:=gE st Tryz.func22 [sx] (ks:=[.st .resu,.sc (.int .i64)]) dF rI
noncomputable def gl:FT (Door×Int×Unit) (Int×List MacRow×List MacRow×List Half×List Conn×List Tupl) (λx=>em x.1∧x.2.1≤9223372036854775807) (λx v=>sL ao v.2.1∧sL ao v.2.2.1∧sS v.2.2.2.1∧sL aG v.2.2.2.2.1∧sS v.2.2.2.2.2∧v.1≤9223372036854775807):= .mk λ(x0,x1,_)=>
  .cal je.c (x0.keys,x1,()) λc1=>
  .cal ii.c (x0.halves,c1.1,()) λc2=>
  .cal hY.c (x0.table,c2.1,()) λc3=>
  .ret (c3.1,c1.2.1,c1.2.2,c2.2,c3.2.1,c3.2.2)
noncomputable def tX:=mz st ⟨18,Tryz.f18,[],5⟩ [uu,sA,sB] [] [.wr true [.c (.int .i64),.c (.int .i64),.c (.int .i64),.c .bool,.c (.int .u64),.c (.int .u64),.own 0,.c .bool,.c (.int .u64),.c (.int .u64),.own 1,.c .bool,.c (.int .i64),.c (.int .i64),.c (.int .i64),.c (.int .i64),.own 2,.down 3,.own 4,.c (.int .i64)],.sc (.int .i64)] [.arr .macRow,.arr .macRow,.arr .half,.dar .conn,.arr .tupl] (λx y=>((⟨x.1.1,x.1.2.1,⟨x.1.2.2.1,⟨x.1.2.2.2.1,x.1.2.2.2.2.1,x.1.2.2.2.2.2.1,y.1⟩,⟨x.1.2.2.2.2.2.2.1,x.1.2.2.2.2.2.2.2.1,x.1.2.2.2.2.2.2.2.2.1,y.2.1⟩,x.1.2.2.2.2.2.2.2.2.2.1⟩,⟨x.1.2.2.2.2.2.2.2.2.2.2.1,x.1.2.2.2.2.2.2.2.2.2.2.2.1,x.1.2.2.2.2.2.2.2.2.2.2.2.2.1,x.1.2.2.2.2.2.2.2.2.2.2.2.2.2.1⟩,y.2.2.1,⟨y.2.2.2.1,y.2.2.2.2.1⟩,x.1.2.2.2.2.2.2.2.2.2.2.2.2.2.2.1⟩:Door),x.2.1,())) gl (λv=>[(false,[.c (.int .i64 v.1)])]) (λx y v=>(v.2.1,v.2.2.1,v.2.2.2.1,v.2.2.2.2.1,v.2.2.2.2.2,())) Tryz.func18 (by kernel_rfl) trivial
noncomputable def ia:FT (Stac×Int×Unit) (Int×List Entr×List MacRow×List MacRow×List Half×List Conn×List Tupl) (λx=>ep x.1∧x.2.1≤9223372036854775807) (λx v=>sS v.2.1∧sL ao v.2.2.1∧sL ao v.2.2.2.1∧sS v.2.2.2.2.1∧sL aG v.2.2.2.2.2.1∧sS v.2.2.2.2.2.2∧v.1≤9223372036854775807):= .mk λ(x0,x1,_)=>
  .cal mn.c (x0.link,x1,()) λc1=>
  .cal gl.c (x0.door,c1.1,()) λc2=>
  .ret (c2.1,c1.2,c2.2.1,c2.2.2.1,c2.2.2.2.1,c2.2.2.2.2.1,c2.2.2.2.2.2)
noncomputable def sv:=mz st ⟨30,Tryz.f30,[],6⟩ [ur,tX] [] [.wr true [.c (.int .i64),.c (.int .i64),.own 0,.c (.int .i64),.c (.int .i64),.c (.int .i64),.c .bool,.c (.int .u64),.c (.int .u64),.own 1,.c .bool,.c (.int .u64),.c (.int .u64),.own 2,.c .bool,.c (.int .i64),.c (.int .i64),.c (.int .i64),.c (.int .i64),.own 3,.down 4,.own 5,.c (.int .i64)],.sc (.int .i64)] [.arr .entr,.arr .macRow,.arr .macRow,.arr .half,.dar .conn,.arr .tupl] (λx y=>((⟨⟨x.1.1,x.1.2.1,y.1⟩,⟨x.1.2.2.1,x.1.2.2.2.1,⟨x.1.2.2.2.2.1,⟨x.1.2.2.2.2.2.1,x.1.2.2.2.2.2.2.1,x.1.2.2.2.2.2.2.2.1,y.2.1⟩,⟨x.1.2.2.2.2.2.2.2.2.1,x.1.2.2.2.2.2.2.2.2.2.1,x.1.2.2.2.2.2.2.2.2.2.2.1,y.2.2.1⟩,x.1.2.2.2.2.2.2.2.2.2.2.2.1⟩,⟨x.1.2.2.2.2.2.2.2.2.2.2.2.2.1,x.1.2.2.2.2.2.2.2.2.2.2.2.2.2.1,x.1.2.2.2.2.2.2.2.2.2.2.2.2.2.2.1,x.1.2.2.2.2.2.2.2.2.2.2.2.2.2.2.2.1⟩,y.2.2.2.1,⟨y.2.2.2.2.1,y.2.2.2.2.2.1⟩,x.1.2.2.2.2.2.2.2.2.2.2.2.2.2.2.2.2.1⟩⟩:Stac),x.2.1,())) ia (λv=>[(false,[.c (.int .i64 v.1)])]) (λx y v=>(v.2.1,v.2.2.1,v.2.2.2.1,v.2.2.2.2.1,v.2.2.2.2.2.1,v.2.2.2.2.2.2,())) Tryz.func30 (by kernel_rfl) trivial
noncomputable def lH:=[vQ,uJ,wx,uU,t9,ua,tS,vS,t8,sv,qR,rX,rO]
noncomputable def lJ:Fx:=⟨4,Tryz.f4,[(3000021,rA 0 63)],0⟩
noncomputable def fe:FX (Stac×Resu×Unit) (Bool) (λ_=>True) (aQ [.st .stac,.st .resu]):=⟨λ(x0,x1,_)=>
  .cal bb.c (x0,1048576,()) λc1=>
  .ite (decide (c1<0)) (.ret true)<|
  .cal dF.c (x1,c1,()) λc2=>
  .ite (decide (c2<0)) (.ret true)<|
  .cal fo.c (x0,()) λc3=>
  .cal ez.c (x1,()) λc4=>
  .cal gm.c (c3,c4,()) λc5=>
  .cal fo.c (x0,()) λc6=>
  .cal ez.c (x1,()) λc7=>
  .cal cH.c (c6,c7,()) λc8=>
  .cal fm.c (c8,c5,()) λc9=>
  .ite (!c9) (.ret false)<|
  .cal fo.c (x0,()) λc10=>
  .cal lg.c (c6,c10,()) λc11=>
  .ite (!c11) (.ret false)<|
  .cal ez.c (x1,()) λc12=>
  .cal iZ.c (c7,c12,()) λc13=>
  .ite (!c13) (.ret false)<|
  .cal ia.c (c6,1,()) λc14=>
  .cal f0.c (c7,c14.1,()) λc15=>
  .bnd (β:=Bool×Unit) (.ite (decide (c15.1<0)) (.ret (true,()))<|
   .cal fm.c (c8,c5,()) λc16=>
   .ret ((!c16),())) λ(u17a0,_)=>
  .ite u17a0 (.ret false)<|
  .cal ge.c (c8,1,()) λc18=>
  .cal eO.c (c18.2,1,()) λc19=>
  .ite (decide (c19<0)) (.ret false)<|
  .ite (c19 != c18.1) (.ret false)<|
  .cal fo.c (x0,()) λc20=>
  .cal ez.c (x1,()) λc21=>
  .cal cH.c (c20,c21,()) λc22=>
  .cal fm.c (c22,c5,()) λc23=>
  .ite (!c23) (.ret false)<|
  .cal eO.c (c18.2,1,()) λc24=>
  .ite (decide (c24<0)) (.ret false)<|
  .ite (c24 != c18.1) (.ret false)<|
  .ret true,
 λ(x0,x1,_) hp hf=>by
  simp only[aQ,Pk.fact,cZ,cg,Fl.fact,Ty.fl,Ty.toH]at hf
  refine Tr.C trivial λc1 hc1 qc1=>Tr.I (λb0=>Tr.R trivial) λb0=>Tr.C trivial λc2 hc2 qc2=>Tr.I (λb1=>Tr.R trivial) λb1=>Tr.C ?_ λc3 hc3 qc3=>Tr.C ?_ λc4 hc4 qc4=>Tr.C ?_ λc5 hc5 qc5=>Tr.C ?_ λc6 hc6 qc6=>Tr.C ?_ λc7 hc7 qc7=>Tr.C ?_ λc8 hc8 qc8=>Tr.C ?_ λc9 hc9 qc9=>Tr.I (λb2=>Tr.R trivial) λb2=>Tr.C ?_ λc10 hc10 qc10=>Tr.C ?_ λc11 hc11 qc11=>Tr.I (λb3=>Tr.R trivial) λb3=>Tr.C ?_ λc12 hc12 qc12=>Tr.C ?_ λc13 hc13 qc13=>Tr.I (λb4=>Tr.R trivial) λb4=>Tr.C ?_ λc14 hc14 qc14=>Tr.C ?_ λc15 hc15 qc15=>Tr.B (Q':=λ_=>True) (Tr.I (λb5=>Tr.R trivial) λb5=>Tr.C ?_ λc16 hc16 qc16=>Tr.R trivial) (λ(u17a0,_) hj17 qj17=>Tr.I (λb5=>Tr.R trivial) λb5=>Tr.C ?_ λc18 hc18 qc18=>Tr.C ?_ λc19 hc19 qc19=>Tr.I (λb6=>Tr.R trivial) λb6=>Tr.I (λb7=>Tr.R trivial) λb7=>Tr.C ?_ λc20 hc20 qc20=>Tr.C ?_ λc21 hc21 qc21=>Tr.C ?_ λc22 hc22 qc22=>Tr.C ?_ λc23 hc23 qc23=>Tr.I (λb8=>Tr.R trivial) λb8=>Tr.C ?_ λc24 hc24 qc24=>Tr.F (by kernel_rfl) trivial)
  all_goals ((try simp only[Tr.nice,jd]at*)<;>((obtain⟨⟨_,_,⟨hc,_⟩,_,_,_,_,_,_,⟨n1,n2⟩,_,_,_,⟨m1,m2⟩,_,_,_,_,_,⟨hh,_⟩,⟨hl,he⟩,⟨hw,_⟩,_⟩,⟨⟨f1,f2⟩,_,_,_,_,_,htx,_,_⟩,_⟩:=hf;have k1:0≤bb.f (x0,1048576,()):=(by rw[←hc1];simpa using b0);have hS:=(tj x0 1048576 (by omega) (by omega) hc n1 n2 m1 m2 hh hl he hw k1);have hS2:=hS.2;have hR:=(rj x1 _ k1 (by omega) f1 f2 htx (by rw[←hc1,←hc2];simpa using b1)).2.2;grind)))⟩
noncomputable def lF:=zn st lJ lH [] (ks:=[.st .stac,.st .resu]) fe rB Tryz.func4 trivial
theorem m5 (n b:Int):aO.f (n,b,())=aq.f (n,b,()):=by
 simp only[PX,aO,aq,fj,bN]
 cases h:(decide (1≤b)&&decide (b≤62))with
 |false=>simp only[cond_false]
 |true=>
  have h1:1≤b∧b≤62:=by simpa using h
  rw[v6 (by omega) (by omega)]
theorem we (x:Opti):gZ.f (x,())=gY.f (x,()):=by
 simp only[PX,gZ,gY,m5,fj,bN]
theorem yx (x:Int):fJ.f (x,())=x%4294967296:=by
 simp only[PX,fJ]
 rcases Int.lt_or_le x 0 with h|h
 ·rw[(iE 4294967296).2 h,bH]
  cases hd:decide (-(-x%4294967296)<0)with
  |true=>simp only[decide_eq_true_eq]at hd;simp only[cond_true];omega
  |false=>simp only[decide_eq_false_iff_not]at hd;simp only[cond_false];omega
 ·rw[(iE 4294967296).1 h,bH]
  cases hd:decide (x%4294967296<0)with
  |true=>simp only[decide_eq_true_eq]at hd;omega
  |false=>rfl
theorem mE (a b:Int):kw.f (a,b,())=(a+b)%4294967296:=by
 simp only[PX,kw]
 rw[rY,bH];omega
theorem zO (a b:Int):nu.f (a,b,())=kw.f (a,b,()):=by
 rw[mE]
 simp only[PX,nu,yx,bH];omega
theorem tJ (n b:Int):dU.f (n,b,())=bi.f (n,b,()):=by
 simp only[PX,dU,bi,m5,fj,bN,dK,bS]
 cases h1:(decide (1≤b)&&decide (b≤6))with
 |false=>rfl
 |true=>
  cases h2:aq.f (n,(IntKind.wrap .i64 (8*b)),())with
  |false=>rfl
  |true=>
   have hb:0≤n∧n≤9223372036854775807:=by
    revert h2
    simp only[PX,aq,bN]
    cases(decide (1≤IntKind.wrap .i64 (8*b))&&decide (IntKind.wrap .i64 (8*b)≤62))with
    |false=>simp
    |true=>
     simp only[cond_true,Bool.and_eq_true,decide_eq_true_eq]
     generalize(IntKind.wrap .i64 (1*2 ^ (min (IntKind.wrap .i64 (8*b)).toNat 64)))=z
     rw[bH]
     omega
   have e:∀k i r,ce (λj a=>(eP j a).nice) (-1) k i (n,r)=ce (λj a=>(bT j a).nice) (-1) k i (n,r):=by
    intro k i r
    refine oM (P:=λa=>0≤a.1∧a.1≤9223372036854775807) (λi a ha=> ?_) (λi a a' ha he=> ?_) k i (n,r) hb
    ·simp only[PX,eP,bT]
     rw[(nW 256).1 ha.1,(iE 256).1 ha.1,ap (by omega) (by omega),Int.fdiv_eq_ediv_of_nonneg a.1 (by omega),lw,lw,Int.emod_emod]
    ·simp only[PX,eP]at he
     cases he
     show 0≤IntKind.wrap .i64 (a.1.tdiv 256)∧_
     rw[(nW 256).1 ha.1,ap (by omega) (by omega)]
     omega
   simp only[e]
theorem wd (x:Segm):gN.f (x,())=gR.f (x,()):=by simp only[PX,gN,gR,m5,we]
theorem qw {A W:Type}{f:Int→A→Stp A W}{st:Int}{P:A→Prop}(hp:∀i a a',P a→f i a= .next a'→P a'):∀(k:Nat) (i:Int) (a a':A),P a→ce f st k i a= .next a'→P a'
 |0,_,_,_,ha,h=>by cases h;exact ha
 |k+1,i,a,a',ha,h=>by
  simp only[ce]at h
  cases hf:f i a with
  |out w'=>rw[hf]at h;cases h
  |next a1=>rw[hf]at h;exact qw hp k _ a1 a' (hp i a a1 ha hf) h
theorem Au {T:Type}{xs:List T}{j:Nat}{x:T}(h:xs[j]? =some x):x∈xs:=List.mem_of_getElem? h
theorem dQ {W:Type}{f:Int→Unit→Stp Unit W}:∀(k:Nat) (i:Int),(∀j,f j ()= .next ())→ce f 1 k i ()= .next ()
 |0,_,_=>rfl
 |k+1,i,h=>by simp only[ce,h,Stp.elim];exact dQ k _ h
theorem eA (t:ac)(k:Nat)(hk:k<t.length):Z t k=(t[k].toNat:Int):=by
 simp[Z,List.getD,hk]
theorem nS (b:UInt8):(b.toNat:Int)≤255:=by have:=b.toNat_lt;omega
theorem Dy (g:Segm)(n:Int):yu.f (g,n,())=n0.f (g,n,()):=by simp only[PX,yu,n0]
theorem fT (a b:Bool):(bif a then(!b,())else(false,())).1=(a&& !b):=by cases a<;>cases b<;>rfl
theorem wj (n sz:Int)(h1:1≤sz)(h6:sz≤6)(h:aq.f (n,8*sz,())=true):((bi.f (n,sz,())).length:Int)=sz:=by
 have hw:IntKind.wrap .i64 (8*sz)=8*sz:=ap (by omega) (by omega)
 simp only[PX,bi,bN,bS,hw,h,decide_eq_true h1,decide_eq_true h6,Bool.and_self,Bool.not_true,cond_false]
 generalize Int.toNat (IntKind.wrap .i64 (sz-1)-0+1)=k
 generalize IntKind.wrap .i64 (sz-1)=i
 cases hf:ce (λj a=>(bT j a).nice) (-1) k i (n,List.replicate sz.toNat 0)with
 |out e=>exact Empty.elim e
 |next a=>
  have:=qw (P:=λa:Int×List Int=>a.2.length=sz.toNat) (λi a a' ha h=>by
   simp only[PX,bT]at h
   cases h
   simpa using ha) _ _ _ _ (by simp) hf
  simp only[PX,Stp.elim,gp]
  omega
theorem vf (n sz:Int)(h1:1≤sz)(h6:sz≤6)(h:aq.f (n,8*sz,())=false):bi.f (n,sz,())=[]:=by
 have hw:IntKind.wrap .i64 (8*sz)=8*sz:=ap (by omega) (by omega)
 simp only[PX,bi,bN,hw,h,decide_eq_true h1,decide_eq_true h6,Bool.and_self,Bool.not_true,Bool.not_false,cond_false,cond_true]
theorem ku (n sz:Int)(h1:1≤sz)(h6:sz≤6):(bi.f (n,sz,())==[])= !aq.f (n,8*sz,()):=by
 rcases Bool.eq_false_or_eq_true (aq.f (n,8*sz,()))with h|h
 ·have:=wj n sz h1 h6 h
  rw[h]
  cases hp:bi.f (n,sz,())with
  |nil=>rw[hp]at this;simp at this;omega
  |cons a r=>rfl
 ·rw[vf n sz h1 h6 h,h];rfl
def ws:Bool→ac→Int
 |_,[]=>0
 |false,b::t=>256*(b.toNat:Int)+ws true t
 |true,b::t=>(b.toNat:Int)+ws false t
theorem CE (v:ac)(hv:v.length≤4294967296):∀(n j:Nat) (a:Int),j+n=v.length→0≤a→a≤65536*(j:Int)→ce (λj a=>(cr v j a).nice) 1 n (j:Int) a= .next (a+ws (j%2==1) (v.drop j))
 |0,j,a,h,_,_=>by rw[List.drop_of_length_le (by omega)];simp[ce,ws]
 |n+1,j,a,h,h0,h1=>by
  have hj:j<v.length:=by omega
  have hb:=nS v[j]
  rw[List.drop_eq_getElem_cons hj]
  have ht:(((j:Int).tmod 2)==0)= !(j%2==1):=by
   rw[Int.tmod_eq_emod_of_nonneg (by omega),Bool.eq_iff_iff]
   simp;omega
  have hnx:((j+1)%2==1)= !(j%2==1):=by
   rw[Bool.eq_iff_iff];simp;omega
  cases hp:(j%2==1)with
  |true=>
   have ih:=CE v hv n (j+1) (a+(v[j].toNat:Int)) (by omega) (by omega) (by omega)
   simp only[PX,cr]at ih
   simp only[ce,PX,cr,ht,hp,aj,eA _ _ hj,Bool.not_true,cond_false,Stp.elim,ws]
   rw[ap (m:=(v[j].toNat:Int)) (by omega) (by omega),ap (by omega) (by omega),show(j:Int)+1=((j+1:Nat):Int) by omega,ih,hnx,hp]
   simp only[Bool.not_true]
   congr 1;omega
  |false=>
   have ih:=CE v hv n (j+1) (a+256*(v[j].toNat:Int)) (by omega) (by omega) (by omega)
   simp only[PX,cr]at ih
   simp only[ce,PX,cr,ht,hp,aj,eA _ _ hj,Bool.not_false,cond_true,Stp.elim,ws]
   rw[ap (m:=(v[j].toNat:Int)) (by omega) (by omega),ap (m:=(v[j].toNat:Int)*256) (by omega) (by omega),ap (by omega) (by omega),show(j:Int)+1=((j+1:Nat):Int) by omega,show a+(v[j].toNat:Int)*256=a+256*(v[j].toNat:Int) by omega,ih,hnx,hp]
   simp only[Bool.not_false]
   congr 1;omega
theorem uF (v:ac)(hv:v.length≤4294967296):k8.f (v,())=ws false v:=by
 simp only[PX,k8,dG]
 have:=CE v hv v.length 0 0 (by omega) (by omega) (by omega)
 rw[av,show(0:Int)=((0:Nat):Int) from rfl]
 rw[show(0:Int)=((0:Nat):Int) from rfl]at this
 rw[this]
 simp[Stp.elim]
theorem CY (v:ac)(hv:v.length≤4294967296):∀(k j:Nat) (a:Int),k=(v.length-j+1)/2→0≤a→a≤65536*(j:Int)→ce (λj a=>(cu v j a).nice) 2 k (j:Int) a= .next (a+ws false (v.drop j))
 |0,j,a,h,_,_=>by rw[List.drop_of_length_le (by omega)];simp[ce,ws]
 |k+1,j,a,h,h0,h1=>by
  have hj:j<v.length:=by omega
  have hb:=nS v[j]
  rw[List.drop_eq_getElem_cons hj]
  by_cases h2:j+1<v.length
  ·have hb2:=nS v[j+1]
   have ih:=CY v hv k (j+2) (a+256*(v[j].toNat:Int)+(v[j+1].toNat:Int)) (by omega) (by omega) (by omega)
   rw[List.drop_eq_getElem_cons h2]
   simp only[PX,cu]at ih
   simp only[ce,PX,cu,aj,eA _ _ hj,Stp.elim,ws]
   rw[ap (m:=(j:Int)+1) (by omega) (by omega),decide_eq_true (show(j:Int)+1<(v.length:Int) by omega),cond_true,show((j:Int)+1).toNat=j+1 by omega,eA _ _ h2,ap (m:=(v[j].toNat:Int)) (by omega) (by omega),ap (m:=256*(v[j].toNat:Int)) (by omega) (by omega),ap (m:=a+256*(v[j].toNat:Int)) (by omega) (by omega),ap (m:=(v[j+1].toNat:Int)) (by omega) (by omega),ap (by omega) (by omega)]
   simp only[Stp.elim]
   rw[show(j:Int)+2=((j+2:Nat):Int) by omega,ih]
   congr 1
   have e:ws false (List.drop (j+1+1) v)=ws false (List.drop (j+2) v):=rfl
   omega
  ·have ih:=CY v hv k (j+2) (a+256*(v[j].toNat:Int)) (by omega) (by omega) (by omega)
   rw[List.drop_of_length_le (show v.length≤j+1 by omega)]
   rw[List.drop_of_length_le (show v.length≤j+2 by omega)]at ih
   simp only[PX,cu]at ih
   simp only[ce,PX,cu,aj,eA _ _ hj,Stp.elim,ws]
   rw[ap (m:=(j:Int)+1) (by omega) (by omega),decide_eq_false (show¬(j:Int)+1<(v.length:Int) by omega),cond_false,ap (m:=(v[j].toNat:Int)) (by omega) (by omega),ap (m:=256*(v[j].toNat:Int)) (by omega) (by omega),ap (m:=a+256*(v[j].toNat:Int)) (by omega) (by omega)]
   simp only[Stp.elim]
   rw[show(j:Int)+2=((j+2:Nat):Int) by omega,ih]
   congr 1
   simp only[ws];omega
theorem uA (v:ac)(hv:v.length≤4294967296):ld.f (v,())=ws false v:=by
 simp only[PX,ld,bl]
 have:=CY v hv ((v.length+1)/2) 0 0 (by omega) (by omega) (by omega)
 rw[show Int.toNat (((v.length:Int)-0+1)/2)=(v.length+1)/2 by omega,show(0:Int)=((0:Nat):Int) from rfl]
 rw[show(0:Int)=((0:Nat):Int) from rfl]at this
 rw[this]
 simp[Stp.elim]
theorem AI (n:Int):nm.f (n,())=nE.f (n,()):=by
 have e:iq=im:=by
  funext a
  unfold iq im
  rw[show decide (65535<a)=decide (65536≤a) from decide_eq_decide.2 (by omega)]
 simp only[PX,nm,nE,fx,fu,e]
theorem BL (v:ac)(hv:v.length≤4294967296):pR.f (v,())=pY.f (v,()):=by
 simp only[PX,pR,pY,uA v hv,uF v hv,AI]
theorem ul (a b n:Int):gc.f (a,b,n,())=cL.f (a,b,n,()):=by
 have h1:=ku a 4 (by omega) (by omega)
 have h2:=ku b 4 (by omega) (by omega)
 have h3:=ku n 2 (by omega) (by omega)
 rw[show(8:Int)*4=32 from rfl]at h1 h2
 rw[show(8:Int)*2=16 from rfl]at h3
 simp only[PX,gc,cL,tJ,h1,h2,h3]
theorem Dh (a b n:Int):(cL.f (a,b,n,())).length≤20:=(cL.c.h (a,b,n,()) trivial).2
theorem yD (f:Fram):lm.f (f,())=ca.f (f,()):=by
 simp only[PX,lm,ca,m5,fj,bN]
theorem wE (f:Fram):gO.f (f,())=dH.f (f,()):=by
 simp only[PX,gO,dH,yD,tJ]
theorem td {T U W:Type}(xs:List T)(F:T→List U){f:Int→List U→Stp (List U) W}(h:∀(j:Nat) x a,xs[j]? =some x→f (j:Int) a= .next (a++F x)):ce f 1 (Int.toNat ((xs.length:Int)-0)) 0 []= .next (xs.flatMap F):=by
 rw[av,bQ xs _ rfl (F:=λ_ x a=> .next (a++F x)) h]
 have key:∀(r:List T) (j:Nat) (a:List U),fi (W:=W) (λ_ x a=> .next (a++F x)) j r a= .next (a++r.flatMap F):=by
  intro r
  induction r with
  |nil=>intro j a;simp[fi]
  |cons x r ih=>
   intro j a
   have:=ih (j+1) (a++F x)
   rw[List.flatMap_cons,←List.append_assoc,←this]
   rfl
 rw[key];simp
def lI (b:ac):Int:=b.foldl (λn x=>n*256+(x.toNat:Int)) 0
def ri:Nat→Int→ac
 |0,_=>[]
 |k+1,n=>ri k (n/256)++[UInt8.ofNat (n%256).toNat]
theorem lu (b:ac)(x:UInt8):lI (b++[x])=lI b*256+(x.toNat:Int):=by simp[lI]
theorem uS {P:ac→Prop}(h0:P [])(h1:∀b x,P b→P (b++[x]))(b:ac):P b:=by
 have key:∀(n:Nat) (b:ac),b.length=n→P b:=by
  intro n
  induction n with
  |zero=>intro b hb;rw[List.eq_nil_of_length_eq_zero hb];exact h0
  |succ n ih=>
   intro b hb
   have hne:b≠[]:=by rintro rfl;simp at hb
   rw[←List.dropLast_concat_getLast hne]
   exact h1 _ _ (ih _ (by rw[List.length_dropLast];omega))
 exact key _ b rfl
theorem Bg (b:ac):0≤lI b:=by
 induction b using uS with
 |h0=>simp[lI]
 |h1 b x ih=>
  rw[lu];omega
theorem Bn (b:ac):lI b<256 ^ b.length:=by
 induction b using uS with
 |h0=>simp[lI]
 |h1 b x ih=>
  rw[lu,List.length_append,List.length_singleton,Int.pow_succ]
  have:=nS x
  omega
theorem BQ (x:UInt8):UInt8.ofNat x.toNat=x:=by simp
theorem zt (b:ac):ri b.length (lI b)=b:=by
 induction b using uS with
 |h0=>rfl
 |h1 b x ih=>
  rw[lu,List.length_append,List.length_singleton]
  have hx:=nS x
  have e1:(lI b*256+(x.toNat:Int))/256=lI b:=by omega
  have e2:((lI b*256+(x.toNat:Int))%256).toNat=x.toNat:=by omega
  simp only[ri,e1,e2,ih,BQ]
theorem se (k:Nat)(x:Int)(t:List Int):(List.replicate (k+1) (0:Int)++t).set k x=List.replicate k 0++(x::t):=by
 rw[List.replicate_succ',List.append_assoc,List.set_append_right _ _ (by simp)]
 simp
theorem zZ (n:Int):((UInt8.ofNat (n%256).toNat).toNat:Int)=n%256:=by
 rw[UInt8.toNat_ofNat'];omega
theorem p9 (b:ac):il (mA b)=b:=by
 unfold il mA
 rw[List.map_map]
 refine(List.map_congr_left (g:=id) λx _=> ?_).trans (List.map_id b)
 simp
theorem vi {f:Int→Int×List Int→Stp (Int×List Int) Empty}(hf:∀i a,f i a= .next (a.1/256,a.2.set i.toNat (a.1%256))):∀(m:Nat) (n:Int) (t:List Int),∃n',ce f (-1) m ((m:Int)-1) (n,List.replicate m 0++t)= .next (n',mA (ri m n)++t)
 |0,n,t=>⟨n,by simp[ce,ri,mA]⟩
 |m+1,n,t=>by
  obtain⟨n',ih⟩:=vi hf m (n/256) (n%256::t)
  refine⟨n', ?_⟩
  have e1:((m+1:Nat):Int)-1=(m:Int):=by omega
  simp only[ce,hf,Stp.elim,e1,aj,se]
  rw[show(m:Int)+ -1=(m:Int)-1 by omega,ih]
  simp only[ri,mA,List.map_append,List.map_cons,List.map_nil,zZ,List.append_assoc,List.cons_append,List.nil_append]
theorem i6 (n sz:Int)(h1:1≤sz)(h6:sz≤6)(h:aq.f (n,8*sz,())=true):bi.f (n,sz,())=ri sz.toNat n:=by
 have hw:IntKind.wrap .i64 (8*sz)=8*sz:=ap (by omega) (by omega)
 obtain⟨n',e⟩:=vi (f:=λj a=>(bT j a).nice) (λi a=>by
  simp only[PX,bT,lw]
  rw[Int.fdiv_eq_ediv_of_nonneg _ (by omega)]) sz.toNat n []
 rw[List.append_nil,List.append_nil]at e
 have e1:IntKind.wrap .i64 (sz-1)=(sz.toNat:Int)-1:=by rw[ap (by omega) (by omega)];omega
 have e2:Int.toNat (((sz.toNat:Int)-1)-0+1)=sz.toNat:=by omega
 simp only[PX,bi,bN,bS,hw,h,decide_eq_true h1,decide_eq_true h6,Bool.and_self,Bool.not_true,cond_false,e1,e2]
 refine(congrArg (Stp.elim _ _) e).trans ?_
 simp only[Stp.elim,p9]
def gw (s:ac)(p n:Nat):Int:=lI ((s.drop p).take n)
theorem Aw {s:ac}{p n:Nat}(h:p+n≤s.length):((s.drop p).take n).length=n:=by
 rw[List.length_take,List.length_drop];omega
theorem A7 {s:ac}{p n:Nat}(h:p+n≤s.length):0≤gw s p n∧gw s p n<256 ^ n:=by
 refine⟨Bg _, ?_⟩
 have:=Bn ((s.drop p).take n)
 rwa [Aw h]at this
theorem t6 {s:ac}{p n:Nat}(h:p+n≤s.length):ri n (gw s p n)=(s.drop p).take n:=by
 have:=zt ((s.drop p).take n)
 rwa [Aw h]at this
theorem qo (s:ac)(p:Nat){f:Int→Int→Stp Int Empty}(hf:∀(j:Nat) (a:Int),p+j<s.length→0≤a→a<1099511627776→f (j:Int) a= .next (a*256+Z s (p+j))):∀(m j:Nat),j+m≤6→p+j+m≤s.length→ce f 1 m (j:Int) (lI ((s.drop p).take j))= .next (lI ((s.drop p).take (j+m)))
 |0,j,_,_=>rfl
 |m+1,j,h1,h2=>by
  have hr:=A7 (s:=s) (p:=p) (n:=j) (by omega)
  unfold gw at hr
  have hj:(256:Int) ^ j≤1099511627776:=by
   rcases(show j=0∨j=1∨j=2∨j=3∨j=4∨j=5 by omega)with rfl|rfl|rfl|rfl|rfl|rfl<;>decide
  have hp:p+j<s.length:=by omega
  have e:(s.drop p).take (j+1)=(s.drop p).take j++[s[p+j]]:=by
   rw[List.take_succ_eq_append_getElem (by rw[List.length_drop];omega),List.getElem_drop]
  simp only[ce]
  rw[hf j _ (by omega) hr.1 (by omega)]
  simp only[Stp.elim]
  rw[eA s (p+j) hp,←lu,←e,show(j:Int)+1=((j+1:Nat):Int) by omega,qo s p hf m (j+1) (by omega) (by omega),show j+1+m=j+(m+1) by omega]
theorem Dx (a b:Int)(h0:0≤a)(h1:a<1099511627776)(h2:0≤b)(h3:b≤255):bits .or .i64 (a*256) b=a*256+b:=by
 obtain⟨x,rfl⟩:=Int.eq_ofNat_of_zero_le h0
 obtain⟨y,rfl⟩:=Int.eq_ofNat_of_zero_le h2
 have key:(BitVec.ofInt 64 ((x:Int)*256)|||BitVec.ofInt 64 (y:Int)).toNat=x*256+y:=by
  rw[BitVec.toNat_or,BitVec.toNat_ofInt,BitVec.toNat_ofInt,show((x:Int)*256%((2 ^ 64:Nat):Int)).toNat=x*256 by omega,show((y:Int)%((2 ^ 64:Nat):Int)).toNat=y by omega,show x*256=x<<<8 by rw[Nat.shiftLeft_eq],Nat.shiftLeft_add_eq_or_of_lt (by omega)]
 show IntKind.i64.wrap ((BitVec.ofInt 64 ((x:Int)*256)|||BitVec.ofInt 64 (y:Int)).toNat:Nat)=_
 rw[key,bH]
 omega
theorem uO (s:ac)(p n:Nat)(h1:1≤n)(h6:n≤6)(hp:p+n≤s.length)(hs:s.length≤4294967296):li.f (s,(p:Int),(n:Int),())=(gw s p n,true):=by
 have e:=qo s p (f:=λj a=>(gF s (p:Int) j a).nice) (λj a h ha hb=>by
  have:=cS s (p+j)
  simp only[PX,gF]
  rw[ap (m:=(p:Int)+(j:Int)) (by omega) (by omega),show((p:Int)+(j:Int)).toNat=p+j by omega,ap (m:=Z s (p+j)) (by omega) (by omega),ap (m:=a*256) (by omega) (by omega),Dx a _ ha hb (by omega) (by omega)]) n 0 (by omega) (by omega)
 rw[Nat.zero_add]at e
 have c1:(decide ((1:Int)≤(n:Int))&&decide ((n:Int)≤6))=true:=by simp;omega
 have c2:decide ((p:Int)<0)=false:=by simp
 have c3:decide (IntKind.wrap .i64 ((s.length:Int)-(n:Int))<(p:Int))=false:=by rw[ap (by omega) (by omega)];simp;omega
 simp only[PX,li,bN,eU,c1,c2,c3,Bool.not_true,cond_false,av]
 refine(congrArg (Stp.elim _ _) e).trans ?_
 simp only[Stp.elim,gw]
theorem aN (s:ac)(p n:Nat)(h1:1≤n)(h6:n≤6)(hp:p+n≤s.length)(hs:s.length≤4294967296):aP.f (s,(p:Int),(n:Int),())=(gw s p n,true):=by
 have e:=qo s p (f:=λj a=>(gv s (p:Int) j a).nice) (λj a h ha hb=>by
  have:=cS s (p+j)
  simp only[PX,gv]
  rw[ap (m:=(p:Int)+(j:Int)) (by omega) (by omega),show((p:Int)+(j:Int)).toNat=p+j by omega,ap (m:=Z s (p+j)) (by omega) (by omega),ap (m:=256*a) (by omega) (by omega),ap (by omega) (by omega),Int.mul_comm]) n 0 (by omega) (by omega)
 rw[Nat.zero_add]at e
 have c1:(decide ((1:Int)≤(n:Int))&&decide ((n:Int)≤6))=true:=by simp;omega
 have c3:(decide ((0:Int)≤(p:Int))&&decide ((p:Int)≤(IntKind.wrap .i64 ((s.length:Int)-(n:Int)))))=true:=by rw[ap (by omega) (by omega)];simp;omega
 simp only[PX,aP,fj,eT,c1,c3,Bool.not_true,cond_false,av]
 refine(congrArg (Stp.elim _ _) e).trans ?_
 simp only[Stp.elim,gw]
theorem bn (s:ac)(p n:Nat)(h1:1≤n)(h6:n≤6)(hp:p+n≤s.length)(hs:s.length≤4294967296):b9.f (s,(p:Int),(n:Int),())=gw s p n:=by
 simp only[PX,b9,uO s p n h1 h6 hp hs]
theorem qa (v:ac)(hv:v.length≤4294967296):gj.f (v,())=ew.f (v,()):=by
 simp only[PX,gj,ew,BL v hv]
theorem C7 (a:Int)(h0:0≤a)(h1:a≤255):(bits .and .u8 a 191 != 0)= !(a==0||a==64):=by
 obtain⟨x,rfl⟩:=Int.eq_ofNat_of_zero_le h0
 have key:∀y:Fin 256,(bits .and .u8 ((y.val:Nat):Int) 191 != 0)= !(((y.val:Nat):Int)==0||((y.val:Nat):Int)==64):=by decide+kernel
 exact key ⟨x,by omega⟩
theorem DM (n:Int)(h0:0≤n)(h1:n≤65535):(bits .andNot .i64 n 16384 != 0)= !(n==0||n==16384):=by
 obtain⟨x,rfl⟩:=Int.eq_ofNat_of_zero_le h0
 by_cases c:x=0∨x=16384
 ·rcases c with rfl|rfl<;>decide+kernel
 ·have hx:((x:Int)==0||(x:Int)==16384)=false:=by simp;omega
  rw[hx,Bool.not_false,bne_iff_ne]
  intro he
  have h2:IntKind.i64.wrap (((BitVec.ofInt 64 (x:Int))&&& ~~~(BitVec.ofInt 64 16384)).toNat:Nat)=0:=he
  have e0:BitVec.ofInt 64 (x:Int)=BitVec.ofNat 64 x:=by
   apply BitVec.eq_of_toNat_eq;rw[BitVec.toNat_ofInt,BitVec.toNat_ofNat];omega
  rw[e0]at h2
  have h3:(BitVec.ofNat 64 x)&&& ~~~(BitVec.ofInt 64 16384)=0#64:=by
   apply BitVec.eq_of_toNat_eq
   have:=((BitVec.ofNat 64 x)&&& ~~~(BitVec.ofInt 64 16384)).isLt
   rw[bH]at h2
   simp only[BitVec.toNat_ofNat]
   omega
  have h4:(BitVec.ofNat 64 x)=(BitVec.ofNat 64 x)&&& 16384#64:=by
   ext i hi
   have:=congrArg (λb=>b.getLsbD i) h3
   simp only[BitVec.getLsbD_and,BitVec.getLsbD_not,hi,decide_true,Bool.true_and,BitVec.getLsbD_zero]at this
   rw[BitVec.getElem_and]
   have e:(BitVec.ofInt 64 16384).getLsbD i=(16384#64).getLsbD i:=rfl
   rw[e]at this
   rw[←BitVec.getLsbD_eq_getElem,←BitVec.getLsbD_eq_getElem]
   revert this
   cases(BitVec.ofNat 64 x).getLsbD i<;>cases(16384#64).getLsbD i<;>simp
  have h5:=congrArg BitVec.toNat h4
  rw[BitVec.toNat_and,BitVec.toNat_ofNat,BitVec.toNat_ofNat,Nat.mod_eq_of_lt (by omega),show 16384%2 ^ 64=2 ^ 14 from rfl]at h5
  have h6:x≤2 ^ 14:=by rw[h5];exact Nat.and_le_right
  have h7:x<2 ^ 14:=by omega
  have h8:x&&& 2 ^ 14=0:=by
   apply Nat.eq_of_testBit_eq
   intro i
   rw[Nat.testBit_and,Nat.testBit_two_pow,Nat.zero_testBit]
   by_cases hi:14=i
   ·subst hi;rw[Nat.testBit_lt_two_pow h7];rfl
   ·simp[hi]
  omega
theorem Ee (a b:UInt8):lI [a,b]=(a.toNat:Int)*256+b.toNat:=by simp[lI]
theorem Eg (s:ac)(p:Nat)(h:p+2≤s.length):gw s p 2=Z s p*256+Z s (p+1):=by
 rw[eA s p (by omega),eA s (p+1) (by omega),gw,List.drop_eq_getElem_cons (by omega),List.drop_eq_getElem_cons (i:=p+1) (by omega)]
 simp only[List.take_succ_cons,List.take_zero,Ee]
def bZ (s:ac):Fram×Bool:=if s.length<14 then(⟨0,0,0,[]⟩,false)else bif ca.f (⟨gw s 0 6,gw s 6 6,gw s 12 2,s.drop 14⟩,())then(⟨gw s 0 6,gw s 6 6,gw s 12 2,s.drop 14⟩,true)else(⟨0,0,0,[]⟩,false)
theorem vM {α:Type}(s:List α):s.take ((s.length:Int).toNat)=s:=by rw[aj,List.take_length]
theorem rx (s:ac)(hs:s.length≤4294967296):fE.f (s,())=bZ s:=by
 unfold bZ
 by_cases h:s.length<14
 ·rw[if_pos h]
  simp only[PX,fE,decide_eq_true (show(s.length:Int)<14 by omega),cond_true]
 ·rw[if_neg h]
  have w1:=bn s 0 6 (by omega) (by omega) (by omega) hs
  have w2:=bn s 6 6 (by omega) (by omega) (by omega) hs
  have w3:=bn s 12 2 (by omega) (by omega) (by omega) hs
  simp only[Int.ofNat_zero,Int.cast_ofNat_Int]at w1 w2 w3
  simp only[PX,fE,decide_eq_false (show¬(s.length:Int)<14 by omega),cond_false,w1,w2,w3,vM]
  cases ca.f (⟨gw s 0 6,gw s 6 6,gw s 12 2,s.drop 14⟩,())<;>rfl
theorem vr (f:Fram):ca.f (f,())=true↔aq.f (f.dst,48,())=true∧aq.f (f.src,48,())=true∧1536≤f.type∧f.type≤65535∧f.body.length≤1586:=by
 simp only[PX,ca,bN]
 cases aq.f (f.dst,48,())<;>cases aq.f (f.src,48,())<;>simp<;>omega
theorem qL (f:Fram)(h:ca.f (f,())=true):dH.f (f,())=ri 6 f.dst++ri 6 f.src++ri 2 f.type++f.body:=by
 obtain⟨h1,h2,h3,h4,h5⟩:=(vr f).1 h
 have p1:=i6 f.dst 6 (by omega) (by omega) h1
 have p2:=i6 f.src 6 (by omega) (by omega) h2
 have p3:=i6 f.type 2 (by omega) (by omega) (by rw[show(8:Int)*2=16 from rfl,vU];simp;omega)
 simp only[PX,dH,h,p1,p2,p3,Bool.not_true,cond_false]
 rfl
theorem DL (s:ac)(h:14≤s.length):(s.drop 0).take 6++(s.drop 6).take 6++(s.drop 12).take 2++s.drop 14=s:=by
 rw[List.drop_zero,List.append_assoc,List.append_assoc,show s.drop 14=(s.drop 12).drop 2 by rw[List.drop_drop],List.take_append_drop,show s.drop 12=(s.drop 6).drop 6 by rw[List.drop_drop],List.take_append_drop,List.take_append_drop]
theorem rr (s:ac)(hs:s.length≤4294967296):fD.f (s,())=bZ s:=by
 unfold bZ
 by_cases h:s.length<14
 ·rw[if_pos h]
  simp only[PX,fD,decide_eq_true (show(s.length:Int)<14 by omega),cond_true]
 ·rw[if_neg h]
  have w1:=aN s 0 6 (by omega) (by omega) (by omega) hs
  have w2:=aN s 6 6 (by omega) (by omega) (by omega) hs
  have w3:=aN s 12 2 (by omega) (by omega) (by omega) hs
  simp only[Int.ofNat_zero,Int.cast_ofNat_Int]at w1 w2 w3
  simp only[PX,fD,decide_eq_false (show¬(s.length:Int)<14 by omega),cond_false,w1,w2,w3,vM,wE]
  rcases Bool.eq_false_or_eq_true (ca.f (⟨gw s 0 6,gw s 6 6,gw s 12 2,s.drop 14⟩,()))with ho|ho
  ·rw[qL _ ho,ho]
   simp only[]
   rw[t6 (by omega),t6 (by omega),t6 (by omega),DL s (by omega),beq_self_eq_true,Bool.not_true,cond_false,cond_true]
  ·have e:dH.f (⟨gw s 0 6,gw s 6 6,gw s 12 2,s.drop 14⟩,())=[]:=by simp only[PX,dH,ho,Bool.not_false,cond_true]
   have e2:(([]:ac)==s)=false:=by
    cases s with
    |nil=>simp at h
    |cons a r=>rfl
   rw[e,ho,e2,Bool.not_false,cond_true,cond_false]
def zP:Pack:=⟨0,0,0,0,0,[]⟩
def cj (s:ac):Pack×Int:=
 bif decide (s.length<20)then(zP,1)else bif Z s 0 != 69 then(zP,2)else bif !ew.f (s.take 20,())then(zP,3)else
 bif (decide (gw s 2 2<20)||(decide ((s.length:Int)<gw s 2 2)||decide (1500<gw s 2 2)))then(zP,4)else bif !(gw s 6 2==0||gw s 6 2==16384)then(zP,5)else bif Z s 8==0 then(zP,6)else
 (⟨gw s 12 4,gw s 16 4,Z s 8,Z s 9,gw s 4 2,(s.take (gw s 2 2).toNat).drop 20⟩,0)
theorem o7 (s:ac)(k:Nat):IntKind.wrap .i64 (Z s k)=Z s k:=by
 have:=cS s k
 exact ap (by omega) (by omega)
theorem pg (s:ac)(hs:s.length≤4294967296):eQ.f (s,())=cj s:=by
 unfold cj
 by_cases h:s.length<20
 ·rw[decide_eq_true h,cond_true]
  simp only[PX,eQ,decide_eq_true (show(s.length:Int)<20 by omega),cond_true,zP]
 ·rw[decide_eq_false h,cond_false]
  have w1:=bn s 2 2 (by omega) (by omega) (by omega) hs
  have w2:=bn s 6 2 (by omega) (by omega) (by omega) hs
  have w3:=bn s 12 4 (by omega) (by omega) (by omega) hs
  have w4:=bn s 16 4 (by omega) (by omega) (by omega) hs
  have w5:=bn s 4 2 (by omega) (by omega) (by omega) hs
  simp only[Int.cast_ofNat_Int]at w1 w2 w3 w4 w5
  have r6:=A7 (s:=s) (p:=6) (n:=2) (by omega)
  have a6:=DM (gw s 6 2) r6.1 (by have:=r6.2;omega)
  simp only[PX,eQ,decide_eq_false (show¬(s.length:Int)<20 by omega),cond_false,w1,w2,w3,w4,w5,o7,a6,List.drop_zero,zP]
  cases decide (gw s 2 2<20)<;>cases decide ((s.length:Int)<gw s 2 2)<;>simp only[cond_true,cond_false,Bool.true_or,Bool.false_or]
theorem pN (s:ac)(hs:s.length≤4294967296):eS.f (s,())=cj s:=by
 unfold cj
 by_cases h:s.length<20
 ·rw[decide_eq_true h,cond_true]
  simp only[PX,eS,decide_eq_true (show(s.length:Int)<20 by omega),cond_true,zP]
 ·rw[decide_eq_false h,cond_false]
  have w1:=aN s 2 2 (by omega) (by omega) (by omega) hs
  have w3:=aN s 12 4 (by omega) (by omega) (by omega) hs
  have w4:=aN s 16 4 (by omega) (by omega) (by omega) hs
  have w5:=aN s 4 2 (by omega) (by omega) (by omega) hs
  simp only[Int.cast_ofNat_Int]at w1 w3 w4 w5
  have b6:=cS s 6
  have b7:=cS s 7
  have e6:=Eg s 6 (by omega)
  have a6:=C7 (Z s 6) b6.1 b6.2
  have e1:(!(decide (20≤gw s 2 2)&&decide (gw s 2 2≤if(s.length:Int)<1500 then(s.length:Int)else 1500)))=(decide (gw s 2 2<20)||(decide ((s.length:Int)<gw s 2 2)||decide (1500<gw s 2 2))):=by
   rw[Bool.eq_iff_iff];simp;split<;>omega
  have e2:(bif !(Z s 6==0||Z s 6==64)then true else Z s 7 != 0)= !(gw s 6 2==0||gw s 6 2==16384):=by
   rw[e6,Bool.eq_iff_iff]
   cases h6:(Z s 6==0||Z s 6==64)<;>simp at h6⊢<;>omega
  have hq:=qa (s.take 20) (by rw[List.length_take];omega)
  simp only[PX,eS,decide_eq_false (show¬(s.length:Int)<20 by omega),cond_false,w1,w3,w4,w5,o7,a6,rc,fj,e1,hq,List.drop_zero,zP]
  rw[←e2]
  cases(!(Z s 6==0||Z s 6==64))<;>rfl
theorem mC {A W V:Type}[Inhabited W][Inhabited V]{f:A→Stp A W}{g:A→Stp A V}{h:W→V}{Inv:A→Prop}{meas:A→Nat}(hs:∀a,Inv a→(∃a',f a= .next a'∧g a= .next a'∧Inv a'∧meas a'<meas a)∨(∃w,f a= .out w∧g a= .out (h w))):∀(m:Nat) (a:A),meas a<m→Inv a→h (fU f m a)=fU g m a
 |0,_,hm,_=>absurd hm (Nat.not_lt_zero _)
 |m+1,a,hm,hi=>by
  simp only[fU]
  rcases hs a hi with⟨a',e1,e2,e3,e4⟩|⟨w,e1,e2⟩
  ·rw[e1,e2]
   exact mC hs m a' (by omega) e3
  ·rw[e1,e2];rfl
def jk:Opti:=⟨0,-1,false,false,0,0⟩
def zA (v:ac)(p:Nat)(o:Opti):Opti:=
 bif Z v p==2&&Z v (p+1)==4 then{o with mss:=gw v (p+2) 2}else bif Z v p==3&&Z v (p+1)==3 then{o with scale:=if 14<Z v (p+2)then 14 else Z v (p+2)}else
 bif Z v p==4&&Z v (p+1)==2 then{o with sack:=true}else bif Z v p==8&&Z v (p+1)==10 then{o with stamp:=true,val:=gw v (p+2) 4,echo:=gw v (p+6) 4}else o
def bx (v:ac)(a:Int×Opti):Stp (Int×Opti) (Opti×Bool):=
 bif !decide (a.1<(v.length:Int))then .out (a.2,true)else bif Z v a.1.toNat==0 then .out (a.2,true)else bif Z v a.1.toNat==1 then .next (a.1+1,a.2)else
 bif decide ((v.length:Int)≤a.1+1)||(decide (Z v (a.1.toNat+1)<2)||decide ((v.length:Int)-a.1<Z v (a.1.toNat+1)))then .out (jk,false)else .next (a.1+Z v (a.1.toNat+1),zA v a.1.toNat a.2)
def BK (v:ac)(a:Int×Opti):Opti×Bool:=fU (bx v) (Int.toNat ((v.length:Int)-a.1)+1) a
theorem o9 (v:ac)(a:Int×Opti)(h:0≤a.1)(a':Int×Opti)(e:bx v a= .next a'):0≤a'.1∧Int.toNat ((v.length:Int)-a'.1)<Int.toNat ((v.length:Int)-a.1):=by
 unfold bx at e
 by_cases h1:a.1<(v.length:Int)
 case neg=>rw[decide_eq_false h1]at e;cases e
 rw[decide_eq_true h1,Bool.not_true,cond_false]at e
 cases h2:(Z v a.1.toNat==0)with
 |true=>rw[h2]at e;cases e
 |false=>
  rw[h2,cond_false]at e
  cases h3:(Z v a.1.toNat==1)with
  |true=>rw[h3,cond_true]at e;cases e;simp only[];omega
  |false=>
   rw[h3,cond_false]at e
   cases h4:(decide ((v.length:Int)≤a.1+1)||(decide (Z v (a.1.toNat+1)<2)||decide ((v.length:Int)-a.1<Z v (a.1.toNat+1))))with
   |true=>rw[h4]at e;cases e
   |false=>
    rw[h4,cond_false]at e
    cases e
    simp at h4
    simp only[];omega
theorem oJ (v:ac)(hv:v.length≤4294967296):ee.f (v,())=BK v (0,jk):=by
 have key:=mC (f:=λa=>(aX v a).nice) (g:=bx v) (h:=Sum.elim (λo=>(o,true)) (λp=>(p.1,false))) (Inv:=λa:Int×Opti=>0≤a.1) (meas:=λa=>Int.toNat ((v.length:Int)-a.1)) (λa ha=>by
  have ha:0≤a.1:=ha
  by_cases h1:a.1<(v.length:Int)
  case neg=>refine .inr ⟨.inl a.2, ?_, ?_⟩<;>simp only[PX,aX,bx,decide_eq_false h1,cond_false,Bool.not_false,cond_true,Sum.elim_inl]
  have w1:IntKind.wrap .i64 (a.1+1)=a.1+1:=ap (by omega) (by omega)
  have w2:IntKind.wrap .i64 (a.1+2)=a.1+2:=ap (by omega) (by omega)
  have w6:IntKind.wrap .i64 (a.1+6)=a.1+6:=ap (by omega) (by omega)
  have wl:IntKind.wrap .i64 ((v.length:Int)-a.1)=(v.length:Int)-a.1:=ap (by omega) (by omega)
  have t1:(a.1+1).toNat=a.1.toNat+1:=by omega
  have t2:(a.1+2).toNat=a.1.toNat+2:=by omega
  have b1:=cS v (a.1.toNat+1)
  have wb:IntKind.wrap .i64 (a.1+Z v (a.1.toNat+1))=a.1+Z v (a.1.toNat+1):=ap (by omega) (by omega)
  have hst:=o9 v a ha
  have eN:cC.f ()=jk:=by simp only[PX,cC,jk]
  cases h2:(Z v a.1.toNat==0)with
  |true=>refine .inr ⟨.inl a.2, ?_, ?_⟩<;>simp only[PX,aX,bx,decide_eq_true h1,h2,cond_false,Bool.not_true,cond_true,Sum.elim_inl]
  |false=>
   cases h3:(Z v a.1.toNat==1)with
   |true=>
    have e:bx v a= .next (a.1+1,a.2):=by simp only[bx,decide_eq_true h1,h2,h3,cond_false,Bool.not_true,cond_true]
    refine .inl ⟨_, ?_,e,hst _ e⟩
    simp only[PX,aX,decide_eq_true h1,h2,h3,cond_false,cond_true,w1]
   |false=>
    cases h4:(decide ((v.length:Int)≤a.1+1)||(decide (Z v (a.1.toNat+1)<2)||decide ((v.length:Int)-a.1<Z v (a.1.toNat+1))))with
    |true=>
     have e:bx v a= .out (jk,false):=by simp only[bx,decide_eq_true h1,h2,h3,h4,cond_false,Bool.not_true,cond_true]
     refine .inr ⟨.inr (jk,a.2), ?_,e⟩
     revert h4
     simp only[PX,aX,decide_eq_true h1,h2,h3,cond_false,cond_true,w1,wl,t1,o7,eN]
     cases decide ((v.length:Int)≤a.1+1)<;>cases decide (Z v (a.1.toNat+1)<2)<;>cases decide ((v.length:Int)-a.1<Z v (a.1.toNat+1))<;>intro h4<;>first|rfl|cases h4
    |false=>
     have e:bx v a= .next (a.1+Z v (a.1.toNat+1),zA v a.1.toNat a.2):=by simp only[bx,decide_eq_true h1,h2,h3,h4,cond_false,Bool.not_true,cond_true]
     refine .inl ⟨_, ?_,e,hst _ e⟩
     simp only[Bool.or_eq_false_iff,decide_eq_false_iff_not]at h4
     obtain⟨h5,h6,h7⟩:=h4
     simp only[PX,aX,decide_eq_true h1,h2,h3,cond_false,cond_true,w1,w2,w6,wl,t1,t2,o7,decide_eq_false h5,decide_eq_false h6,decide_eq_false h7,wb,zA]
     have g2:(Z v a.1.toNat==2&&Z v (a.1.toNat+1)==4)=true→b9.f (v,a.1+2,2,())=gw v (a.1.toNat+2) 2:=λhh=>by
      simp at hh
      have:=bn v (a.1.toNat+2) 2 (by omega) (by omega) (by omega) hv
      rw[show((a.1.toNat+2:Nat):Int)=a.1+2 by omega]at this
      exact this
     have g8:(Z v a.1.toNat==8&&Z v (a.1.toNat+1)==10)=true→b9.f (v,a.1+2,4,())=gw v (a.1.toNat+2) 4∧b9.f (v,a.1+6,4,())=gw v (a.1.toNat+6) 4:=λhh=>by
      simp at hh
      have k1:=bn v (a.1.toNat+2) 4 (by omega) (by omega) (by omega) hv
      have k2:=bn v (a.1.toNat+6) 4 (by omega) (by omega) (by omega) hv
      rw[show((a.1.toNat+2:Nat):Int)=a.1+2 by omega]at k1
      rw[show((a.1.toNat+6:Nat):Int)=a.1+6 by omega]at k2
      exact⟨k1,k2⟩
     revert g2 g8
     cases(Z v a.1.toNat==2)<;>cases(Z v (a.1.toNat+1)==4)<;>cases(Z v a.1.toNat==3)<;>cases(Z v (a.1.toNat+1)==3)<;>cases(Z v a.1.toNat==4)<;>cases(Z v (a.1.toNat+1)==2)<;>cases(Z v a.1.toNat==8)<;>cases(Z v (a.1.toNat+1)==10)<;>intro g2 g8<;>simp only[Bool.and_true,Bool.and_false,Bool.false_and,Bool.true_and,cond_true,cond_false]<;>first|rfl|(rw[g2 rfl])|(rw[(g8 rfl).1,(g8 rfl).2])) (Int.toNat ((v.length:Int)-0)+1) (0,jk) (by simp) (by simp)
 have eN:cC.f ()=jk:=by simp only[PX,cC,jk]
 simp only[PX,ee,cP,eN]
 rw[BK,←key]
 cases fU (λa=>(aX v a).nice) (Int.toNat ((v.length:Int)-0)+1) (0,jk)<;>rfl
theorem wC (v:ac)(e p k:Nat)(h:p+k<e):Z ((v.take e).drop p) k=Z v (p+k):=by
 simp[Z,List.getD,List.getElem?_drop,List.getElem?_take,h]
theorem Az (v:ac)(e p k n:Nat)(h:p+k+n≤e):gw ((v.take e).drop p) k n=gw v (p+k) n:=by
 unfold gw
 rw[List.drop_drop,List.drop_take,List.take_take,Nat.min_eq_left (by omega)]
theorem xk (v:ac)(p e:Nat)(o:Opti)(hv:v.length≤4294967296)(he:e≤v.length)(h2:p+2≤e)(hn:Z v (p+1)=(e:Int)-p):pT.f (o,(v.take e).drop p,())=zA v p o:=by
 have hl:((v.take e).drop p).length=e-p:=by rw[List.length_drop,List.length_take];omega
 have c0:=wC v e p 0 (by omega)
 rw[Nat.add_zero]at c0
 have w4:(((v.take e).drop p).length:Int)=Z v (p+1):=by rw[hl,hn];omega
 have hx:((v.take e).drop p).length≤4294967296:=by omega
 have g2:(Z v p==2&&Z v (p+1)==4)=true→aP.f ((v.take e).drop p,2,2,())=(gw v (p+2) 2,true):=λhh=>by
  simp at hh
  have:=aN ((v.take e).drop p) 2 2 (by omega) (by omega) (by omega) hx
  rw[Az _ _ _ _ _ (by omega)]at this
  exact this
 have g3:(Z v p==3&&Z v (p+1)==3)=true→Z ((v.take e).drop p) 2=Z v (p+2):=λhh=>by
  simp at hh
  exact wC v e p 2 (by omega)
 have g8:(Z v p==8&&Z v (p+1)==10)=true→aP.f ((v.take e).drop p,2,4,())=(gw v (p+2) 4,true)∧aP.f ((v.take e).drop p,6,4,())=(gw v (p+6) 4,true):=λhh=>by
  simp at hh
  have k1:=aN ((v.take e).drop p) 2 4 (by omega) (by omega) (by omega) hx
  have k2:=aN ((v.take e).drop p) 6 4 (by omega) (by omega) (by omega) hx
  rw[Az _ _ _ _ _ (by omega)]at k1 k2
  exact⟨k1,k2⟩
 simp only[PX,pT,zA,c0,w4,o7,rc]
 revert g2 g3 g8
 cases(Z v p==2)<;>cases(Z v (p+1)==4)<;>cases(Z v p==3)<;>cases(Z v (p+1)==3)<;>cases(Z v p==4)<;>cases(Z v (p+1)==2)<;>cases(Z v p==8)<;>cases(Z v (p+1)==10)<;>intro g2 g3 g8<;>simp only[Bool.and_true,Bool.and_false,Bool.false_and,Bool.true_and,cond_true,cond_false]<;>first|rfl|(rw[g2 rfl])|(rw[g3 rfl])|(rw[(g8 rfl).1,(g8 rfl).2])
theorem og (v:ac)(hv:v.length≤4294967296):ec.f (v,())=BK v (0,jk):=by
 have key:=mC (f:=λa=>(aZ v a).nice) (g:=bx v) (h:=Sum.elim (λp=>(p.1,false)) (λo=>(o,true))) (Inv:=λa:Int×Opti=>0≤a.1) (meas:=λa=>Int.toNat ((v.length:Int)-a.1)) (λa ha=>by
  have ha:0≤a.1:=ha
  by_cases h1:a.1<(v.length:Int)
  case neg=>refine .inr ⟨.inr a.2, ?_, ?_⟩<;>simp only[PX,aZ,bx,decide_eq_false h1,cond_false,Bool.not_false,cond_true,Sum.elim_inr]
  have w1:IntKind.wrap .i64 (a.1+1)=a.1+1:=ap (by omega) (by omega)
  have wl:IntKind.wrap .i64 ((v.length:Int)-a.1)=(v.length:Int)-a.1:=ap (by omega) (by omega)
  have t1:(a.1+1).toNat=a.1.toNat+1:=by omega
  have b1:=cS v (a.1.toNat+1)
  have wb:IntKind.wrap .i64 (a.1+Z v (a.1.toNat+1))=a.1+Z v (a.1.toNat+1):=ap (by omega) (by omega)
  have hst:=o9 v a ha
  have eN:dE.f ()=jk:=by simp only[PX,dE,jk]
  cases h2:(Z v a.1.toNat==0)with
  |true=>refine .inr ⟨.inr a.2, ?_, ?_⟩<;>simp only[PX,aZ,bx,decide_eq_true h1,bne,h2,cond_false,Bool.not_true,cond_true,Sum.elim_inr]
  |false=>
   cases h3:(Z v a.1.toNat==1)with
   |true=>
    have e:bx v a= .next (a.1+1,a.2):=by simp only[bx,decide_eq_true h1,h2,h3,cond_false,Bool.not_true,cond_true]
    refine .inl ⟨_, ?_,e,hst _ e⟩
    simp only[PX,aZ,decide_eq_true h1,bne,h2,h3,Bool.not_false,cond_false,cond_true,w1]
   |false=>
    cases h4:(decide ((v.length:Int)≤a.1+1)||(decide (Z v (a.1.toNat+1)<2)||decide ((v.length:Int)-a.1<Z v (a.1.toNat+1))))with
    |true=>
     have e:bx v a= .out (jk,false):=by simp only[bx,decide_eq_true h1,h2,h3,h4,cond_false,Bool.not_true,cond_true]
     refine .inr ⟨.inl (jk,a.2), ?_,e⟩
     revert h4
     simp only[PX,aZ,decide_eq_true h1,bne,h2,h3,Bool.not_false,cond_false,cond_true,w1,wl,t1,o7,eN]
     cases decide ((v.length:Int)≤a.1+1)<;>cases decide (Z v (a.1.toNat+1)<2)<;>cases decide ((v.length:Int)-a.1<Z v (a.1.toNat+1))<;>intro h4<;>first|rfl|cases h4
    |false=>
     have e:bx v a= .next (a.1+Z v (a.1.toNat+1),zA v a.1.toNat a.2):=by simp only[bx,decide_eq_true h1,h2,h3,h4,cond_false,Bool.not_true,cond_true]
     refine .inl ⟨_, ?_,e,hst _ e⟩
     simp only[Bool.or_eq_false_iff,decide_eq_false_iff_not]at h4
     obtain⟨h5,h6,h7⟩:=h4
     have hl:=xk v a.1.toNat (a.1+Z v (a.1.toNat+1)).toNat a.2 hv (by omega) (by omega) (by omega)
     simp only[PX,aZ,decide_eq_true h1,bne,h2,h3,Bool.not_false,cond_false,cond_true,w1,wl,t1,o7,decide_eq_false h5,decide_eq_false h6,decide_eq_false h7,wb,hl]) (Int.toNat ((v.length:Int)-0)+1) (0,jk) (by simp) (by simp)
 have eN:dE.f ()=jk:=by simp only[PX,dE,jk]
 simp only[PX,ec,cM,eN]
 rw[BK,←key]
 cases fU (λa=>(aZ v a).nice) (Int.toNat ((v.length:Int)-0)+1) (0,jk)<;>rfl
theorem CU (a:Int)(h0:0≤a)(h1:a≤255):bits .and .i64 a 63=a.tmod 64:=by
 obtain⟨x,rfl⟩:=Int.eq_ofNat_of_zero_le h0
 have key:∀y:Fin 256,bits .and .i64 ((y.val:Nat):Int) 63=((y.val:Nat):Int).tmod 64:=by decide+kernel
 exact key ⟨x,by omega⟩
theorem sH (v:ac)(hv:v.length≤4294967296):ec.f (v,())=ee.f (v,()):=by
 rw[og v hv,oJ v hv]
theorem sX (s:ac)(a b:Int)(hs:s.length≤4294967276):eg.f (s,a,b,())=aI.f (s,a,b,()):=by
 by_cases h:s.length<20
 ·simp only[PX,eg,aI,decide_eq_true (show(s.length:Int)<20 by omega),cond_true]
 ·have fT:s.length≤4294967296:=by omega
  have w1:=bn s 0 2 (by omega) (by omega) (by omega) fT
  have w2:=bn s 2 2 (by omega) (by omega) (by omega) fT
  have w3:=bn s 4 4 (by omega) (by omega) (by omega) fT
  have w4:=bn s 8 4 (by omega) (by omega) (by omega) fT
  have w5:=bn s 14 2 (by omega) (by omega) (by omega) fT
  have v1:=aN s 0 2 (by omega) (by omega) (by omega) fT
  have v2:=aN s 2 2 (by omega) (by omega) (by omega) fT
  have v3:=aN s 4 4 (by omega) (by omega) (by omega) fT
  have v4:=aN s 8 4 (by omega) (by omega) (by omega) fT
  have v5:=aN s 14 2 (by omega) (by omega) (by omega) fT
  simp only[Int.ofNat_zero,Int.cast_ofNat_Int]at w1 w2 w3 w4 w5 v1 v2 v3 v4 v5
  have b13:=cS s 13
  have e13:=CU (Z s 13) b13.1 b13.2
  have hph:=Dh a b (s.length:Int)
  have hq:=qa (cL.f (a,b,(s.length:Int),())++s) (by rw[List.length_append];omega)
  simp only[PX,eg,aI,decide_eq_false (show¬(s.length:Int)<20 by omega),cond_false,w1,w2,w3,w4,w5,v1,v2,v3,v4,v5,o7,e13,ul,fj,hq,wd]
  generalize IntKind.wrap .i64 ((IntKind.wrap .i64 ((Z s 12).tdiv 16))*4)=n
  rw[sH _ (by rw[List.length_drop,List.length_take];omega)]
  rw[show(!(decide (20≤n)&&decide (n≤(s.length:Int))))=(decide (n<20)||decide ((s.length:Int)<n)) by rw[Bool.eq_iff_iff];simp<;>omega]
  cases decide (n<20)<;>cases decide ((s.length:Int)<n)<;>rfl
theorem tu (s:ac):(bZ s).1.body.length≤s.length:=by
 unfold bZ
 split
 ·simp
 ·cases ca.f (⟨gw s 0 6,gw s 6 6,gw s 12 2,s.drop 14⟩,())<;>simp
theorem y9 (s:ac):(cj s).1.body.length≤s.length-20:=by
 unfold cj
 by_cases h:s.length<20
 ·rw[decide_eq_true h];exact Nat.zero_le _
 ·rw[decide_eq_false h]
  cases(Z s 0 != 69)
  case true=>exact Nat.zero_le _
  cases(!ew.f (s.take 20,()))
  case true=>exact Nat.zero_le _
  cases(decide (gw s 2 2<20)||(decide ((s.length:Int)<gw s 2 2)||decide (1500<gw s 2 2)))
  case true=>exact Nat.zero_le _
  cases(!(gw s 6 2==0||gw s 6 2==16384))
  case true=>exact Nat.zero_le _
  cases(Z s 8==0)
  case true=>exact Nat.zero_le _
  simp only[cond_false,List.length_drop,List.length_take]
  omega
theorem m8 (x:Tupl):eC.f (x,x,())=true:=by simp only[PX,eC,bne_self_eq_false,cond_false]
theorem tK (x:Opti):fH.f (x,x,())=true:=by simp only[PX,fH,bne_self_eq_false,beq_self_eq_true,Bool.not_true,cond_false]
theorem A5 (x:Sndr):iY.f (x,x,())=true:=by simp only[PX,iY,bne_self_eq_false,beq_self_eq_true,Bool.not_true,cond_false]
theorem BH (x:Entr):lB.f (x,x,())=true:=by simp only[PX,lB,bne_self_eq_false,cond_false]
theorem zM (x:MacRow):i5.f (x,x,())=true:=by simp only[PX,i5,bne_self_eq_false,beq_self_eq_true,Bool.not_true,cond_false]
theorem BF (x:Piec):lA.f (x,x,())=true:=by simp only[PX,lA,bne_self_eq_false,beq_self_eq_true,Bool.not_true,cond_false]
theorem Cz (x:Half):nU.f (x,x,())=true:=by simp only[PX,nU,m8,tK,bne_self_eq_false,Bool.not_true,cond_false]
theorem Ay (x:Limi):jC.f (x,x,())=true:=by simp only[PX,jC,bne_self_eq_false,cond_false]
theorem Am (x:List Tupl):ju.f (x,x,())=true:=by
 simp only[PX,ju,er,bne_self_eq_false,cond_false]
 rw[dQ _ _ λj=>by simp only[PX,jT,m8,Bool.not_true,cond_false]]
 rfl
theorem z4 (x:List Entr):jg.f (x,x,())=true:=by
 simp only[PX,jg,eo,bne_self_eq_false,cond_false]
 rw[dQ _ _ λj=>by simp only[PX,jD,BH,Bool.not_true,cond_false]]
 rfl
theorem yU (x:List MacRow):gM.f (x,x,())=true:=by
 simp only[PX,gM,dN,bne_self_eq_false,cond_false]
 rw[dQ _ _ λj=>by simp only[PX,iR,zM,Bool.not_true,cond_false]]
 rfl
theorem z3 (x:List Piec):jB.f (x,x,())=true:=by
 simp only[PX,jB,en,bne_self_eq_false,cond_false]
 rw[dQ _ _ λj=>by simp only[PX,jQ,BF,Bool.not_true,cond_false]]
 rfl
theorem BJ (x:List Half):k9.f (x,x,())=true:=by
 simp only[PX,k9,eJ,bne_self_eq_false,cond_false]
 rw[dQ _ _ λj=>by simp only[PX,ke,Cz,Bool.not_true,cond_false]]
 rfl
theorem xG (x:Recv):gf.f (x,x,())=true:=by simp only[PX,gf,z3,bne_self_eq_false,beq_self_eq_true,Bool.not_true,cond_false]
theorem CO (x:Conn):n3.f (x,x,())=true:=by simp only[PX,n3,m8,A5,xG,tK,bne_self_eq_false,Bool.not_true,cond_false]
theorem Bq (x:List Conn):lz.f (x,x,())=true:=by
 simp only[PX,lz,eX,bne_self_eq_false,cond_false]
 rw[dQ _ _ λj=>by simp only[PX,kB,CO,Bool.not_true,cond_false]]
 rfl
theorem Du (x:Mac):mV.f (x,x,())=true:=by simp only[PX,mV,yU,bne_self_eq_false,beq_self_eq_true,Bool.not_true,cond_false]
theorem CN (x:Keys):nf.f (x,x,())=true:=by simp only[PX,nf,Du,bne_self_eq_false,beq_self_eq_true,Bool.not_true,cond_false]
theorem Bv (x:Tabl):lr.f (x,x,())=true:=by simp only[PX,lr,Bq,Am,Bool.not_true,cond_false]
theorem Db (x:Door):mZ.f (x,x,())=true:=by simp only[PX,mZ,CN,Ay,BJ,Bv,bne_self_eq_false,Bool.not_true,cond_false]
theorem CK (x:Link):mT.f (x,x,())=true:=by simp only[PX,mT,z4,bne_self_eq_false,Bool.not_true,cond_false]
theorem Be (x:Stac):lg.f (x,x,())=true:=by simp only[PX,lg,CK,Db,Bool.not_true,cond_false]
theorem yO (x:Limi):jo.f (x,())=x:=by simp only[PX,jo]
theorem wJ (x:List MacRow):ik.f (x,())=x:=by
 simp only[PX,ik,cx,av,aj]
 rw[bQ x _ rfl (F:=λj y a=> .next (a.set j y)) (λj y a h=>by simp only[PX,iO,ml,aj,getD_some h])]
 have:=dB (W:=Empty) (λy:MacRow=>y) x 0 (List.replicate x.length (⟨[],0⟩:MacRow)) (by simp)
 rw[this]
 simp[Stp.elim]
theorem Cp (x:Mac):mQ.f (x,())=x:=by simp only[PX,mQ,wJ]
def nM:Int→List MacRow→List MacRow
 |_,[]=>[]
 |k,_::r=>⟨bf.f (k,()),k+1⟩::nM (k+2) r
theorem tF:∀(r A:List MacRow) (k:Int),0≤k→k+2*(r.length:Int)≤4611686018427387904→ce (λj a=>(cK j a).nice) 1 r.length (A.length:Int) (k,A++r)= .next (k+2*(r.length:Int),A++nM k r)
 |[],A,k,_,_=>by simp[ce,nM]
 |x::r,A,k,h0,h1=>by
  simp only[List.length_cons]at h1
  have w1:IntKind.wrap .i64 (k+1)=k+1:=ap (by omega) (by omega)
  have w2:IntKind.wrap .i64 (k+1+1)=k+2:=by rw[ap (by omega) (by omega)];omega
  have ih:=tF r (A++[⟨bf.f (k,()),k+1⟩]) (k+2) (by omega) (by omega)
  simp only[PX,cK]at ih
  simp only[List.length_cons,ce,PX,cK,aj,Stp.elim,w1,w2]
  have e1:∀y z:MacRow,(A++y::r).set A.length z=A++z::r:=λy z=>by
   rw[List.set_append_right _ _ (Nat.le_refl _)];simp
  have e2:∀y:MacRow,(A++y::r).getD A.length (Ty.zero .macRow)=y:=λy=>getD_some (by simp)
  simp only[e1,e2]
  have e3:A++(⟨bf.f (k,()),k+1⟩:MacRow)::r=(A++[⟨bf.f (k,()),k+1⟩])++r:=by simp
  rw[e3,show(A.length:Int)+1=((A++[(⟨bf.f (k,()),k+1⟩:MacRow)]).length:Int) by simp,ih]
  simp only[nM,List.append_assoc,List.cons_append,List.nil_append]
  congr 2;omega
theorem tg (xs:List MacRow)(k:Int)(h0:0≤k)(h1:k+2*(xs.length:Int)≤4611686018427387904):fy.f (xs,k,())=(k+2*(xs.length:Int),nM k xs):=by
 have:=tF xs [] k h0 h1
 rw[List.nil_append,List.nil_append]at this
 simp only[PX,fy,az,av]
 refine(congrArg (Stp.elim _ _) this).trans ?_
 simp only[Stp.elim]
def wm (raw:ac):List Issu:=bif (bZ raw).2&&((cj (bZ raw).1.body).2==0&&((aI.f ((cj (bZ raw).1.body).1.body,(cj (bZ raw).1.body).1.src,(cj (bZ raw).1.body).1.dst,())).2&&n0.f ((aI.f ((cj (bZ raw).1.body).1.body,(cj (bZ raw).1.body).1.src,(cj (bZ raw).1.body).1.dst,())).1,18,())))then
 [⟨⟨(cj (bZ raw).1.body).1.dst,(aI.f ((cj (bZ raw).1.body).1.body,(cj (bZ raw).1.body).1.src,(cj (bZ raw).1.body).1.dst,())).1.to,(aI.f ((cj (bZ raw).1.body).1.body,(cj (bZ raw).1.body).1.src,(cj (bZ raw).1.body).1.dst,())).1.from_⟩,((aI.f ((cj (bZ raw).1.body).1.body,(cj (bZ raw).1.body).1.src,(cj (bZ raw).1.body).1.dst,())).1.ack+ -1)%4294967296,(aI.f ((cj (bZ raw).1.body).1.body,(cj (bZ raw).1.body).1.src,(cj (bZ raw).1.body).1.dst,())).1.seq⟩]else[]
theorem wg (raw:ac)(hs:raw.length≤4294967296)(a:List Issu):(bif (bif (eh.f (raw,())).2.2 then(n0.f ((eh.f (raw,())).2.1,18,()),())else(false,())).1 then(Stp.next (a++[(⟨⟨(eh.f (raw,())).1.dst,(eh.f (raw,())).2.1.to,(eh.f (raw,())).2.1.from_⟩,((eh.f (raw,())).2.1.ack+ -1)%4294967296,(eh.f (raw,())).2.1.seq⟩:Issu)]):Stp (List Issu) Empty)else .next a)= .next (a++wm raw):=by
 have hb:=tu raw
 unfold wm
 simp only[PX,eh,rx raw hs]
 generalize bZ raw=F at hb
 rw[pg F.1.body (by omega)]
 generalize cj F.1.body=P
 cases F.2 with
 |false=>simp
 |true=>
  simp only[Bool.not_true,cond_false,Bool.true_and]
  cases hp:(P.2==0)with
  |false=>simp only[bne,hp];simp
  |true=>
   simp only[bne,hp,Bool.not_true,cond_false,Bool.true_and]
   cases(aI.f (P.1.body,P.1.src,P.1.dst,())).2 with
   |false=>simp
   |true=>cases n0.f ((aI.f (P.1.body,P.1.src,P.1.dst,())).1,18,())<;>simp
theorem vV (raw:ac)(hs:raw.length≤4294967296)(a:List Issu):(bif (bif (df.f (raw,())).2.2 then(n0.f ((df.f (raw,())).2.1,18,()),())else(false,())).1 then(Stp.next (a++[(⟨⟨(df.f (raw,())).1.dst,(df.f (raw,())).2.1.to,(df.f (raw,())).2.1.from_⟩,((df.f (raw,())).2.1.ack+ -1)%4294967296,(df.f (raw,())).2.1.seq⟩:Issu)]):Stp (List Issu) Empty)else .next a)= .next (a++wm raw):=by
 have hb:=tu raw
 have hb2:=y9 (bZ raw).1.body
 unfold wm
 simp only[PX,df,rr raw hs]
 generalize bZ raw=F at hb hb2
 rw[pN F.1.body (by omega)]
 generalize cj F.1.body=P at hb2
 have hl:P.1.body.length≤4294967276:=by omega
 rw[sX _ _ _ hl]
 cases F.2 with
 |false=>simp
 |true=>
  simp only[cond_true,Bool.true_and]
  cases hp:(P.2==0)with
  |false=>simp
  |true=>
   simp only[cond_true,Bool.true_and]
   cases(aI.f (P.1.body,P.1.src,P.1.dst,())).2 with
   |false=>simp
   |true=>cases n0.f ((aI.f (P.1.body,P.1.src,P.1.dst,())).1,18,())<;>simp
theorem sg (s:Stac)(r:Resu)(h:∀y∈r.frames,y.length≤4294967296):cH.f (s,r,())=r.frames.flatMap wm:=by
 simp only[PX,cH,cY]
 rw[td r.frames wm (λj x a hx=>by
  simp only[PX,jO,aj,getD_some hx,mE]
  exact wg x (h x (Au hx)) a)]
 rfl
theorem sf (s:Stac)(r:Resu)(h:∀y∈r.frames,y.length≤4294967296):gm.f (s,r,())=r.frames.flatMap wm:=by
 simp only[PX,gm,cX]
 rw[td r.frames wm (λj x a hx=>by
  simp only[PX,jG,aj,getD_some hx,zO,mE,Dy]
  exact vV x (h x (Au hx)) a)]
 rfl
theorem m7 (x:Tupl):fk.f (x,())=x:=by simp only[PX,fk]
theorem qd (x:Opti):fM.f (x,())=x:=by simp only[PX,fM]
theorem BU (x:Half):ne.f (x,())=x:=by simp only[PX,ne,m7,qd]
theorem zd (x:List Entr):jx.f (x,())=x:=by
 simp only[PX,jx,cU,av,aj]
 rw[bQ x _ rfl (F:=λj y a=> .next (a.set j y)) (λj y a h=>by simp only[PX,jZ,oD,aj,getD_some h])]
 rw[dB (W:=Empty) (λy:Entr=>y) x 0 _ (by simp)]
 simp[Stp.elim]
theorem zG (x:List Tupl):jb.f (x,())=x:=by
 simp only[PX,jb,cV,av,aj]
 rw[bQ x _ rfl (F:=λj y a=> .next (a.set j y)) (λj y a h=>by simp only[PX,jN,m7,aj,getD_some h])]
 rw[dB (W:=Empty) (λy:Tupl=>y) x 0 _ (by simp)]
 simp[Stp.elim]
theorem zV (x:List Half):ll.f (x,())=x:=by
 simp only[PX,ll,dJ,av,aj]
 rw[bQ x _ rfl (F:=λj y a=> .next (a.set j y)) (λj y a h=>by simp only[PX,kK,BU,aj,getD_some h])]
 rw[dB (W:=Empty) (λy:Half=>y) x 0 _ (by simp)]
 simp[Stp.elim]
theorem yG (x:List Piec):jh.f (x,())=x:=by
 simp only[PX,jh,cW,av,aj]
 rw[bQ x _ rfl (F:=λj y a=> .next (a.set j y)) (λj y a h=>by simp only[PX,jP,om,aj,getD_some h])]
 rw[dB (W:=Empty) (λy:Piec=>y) x 0 _ (by simp)]
 simp[Stp.elim]
theorem yR (x:Sndr):ja.f (x,())=x:=by simp only[PX,ja]
theorem vJ (x:Recv):gd.f (x,())=x:=by simp only[PX,gd,yG]
theorem BX (x:Conn):nt.f (x,())=x:=by simp only[PX,nt,m7,qd,yR,vJ]
theorem Aa (x:List Conn):lj.f (x,())=x:=by
 simp only[PX,lj,dD,av,aj]
 rw[bQ x _ rfl (F:=λj y a=> .next (a.set j y)) (λj y a h=>by simp only[PX,kn,BX,aj,getD_some h])]
 rw[dB (W:=Empty) (λy:Conn=>y) x 0 _ (by simp)]
 simp[Stp.elim]
theorem Bh (x:Keys):nF.f (x,())=x:=by simp only[PX,nF,Cp]
theorem zR (x:Tabl):lk.f (x,())=x:=by simp only[PX,lk,Aa,zG]
theorem BD (x:Door):mW.f (x,())=x:=by simp only[PX,mW,Bh,yO,zV,zR]
theorem BA (x:Link):nR.f (x,())=x:=by simp only[PX,nR,zd]
theorem AF (x:Stac):fo.f (x,())=x:=by simp only[PX,fo,BA,BD]
theorem Bt (x:Issu):lq.f (x,x,())=true:=by simp only[PX,lq,m8,bne_self_eq_false,Bool.not_true,cond_false]
def ba {α:Type}(n:α→Int):List α→Int
 |[]=>0
 |x::r=>n x+ba n r
def ck {α:Type}(n:α→Int)(M:Int→α→α):Int→List α→List α
 |_,[]=>[]
 |k,x::r=>M k x::ck n M (k+n x) r
theorem tC {α:Type}(n:α→Int)(M:Int→α→α):∀(k:Int) (xs:List α),(ck n M k xs).length=xs.length
 |_,[]=>rfl
 |k,x::r=>by simp[ck,tC n M (k+n x) r]
theorem a7 {α:Type}{n:α→Int}(hn:∀x,0≤n x):∀(xs:List α),0≤ba n xs
 |[]=>Int.le_refl _
 |x::r=>by
  have:=a7 hn r
  have:=hn x
  simp only[ba];omega
theorem ic {α:Type}{n:α→Int}{B:Int}:∀(xs:List α),(∀x∈xs,n x≤B)→ba n xs≤B*(xs.length:Int)
 |[],_=>by simp[ba]
 |x::r,h=>by
  have h1:=ic r λy hy=>h y (List.mem_cons_of_mem _ hy)
  have h2:=h x List.mem_cons_self
  have e:B*((x::r).length:Int)=B*(r.length:Int)+B:=by rw[List.length_cons];push_cast;rw[Int.mul_add,Int.mul_one]
  simp only[ba];omega
theorem dI {α:Type}{n:α→Int}{M:Int→α→α}{T:Int→Int×List α→Stp (Int×List α) Empty}(hn:∀x,0≤n x)(hT:∀(A r:List α) (x:α) (k:Int),0≤k→k+n x≤4611686018427387904→T (A.length:Int) (k,A++x::r)= .next (k+n x,A++M k x::r)):∀(r A:List α) (k:Int),0≤k→k+ba n r≤4611686018427387904→ce T 1 r.length (A.length:Int) (k,A++r)= .next (k+ba n r,A++ck n M k r)
 |[],A,k,_,_=>by simp[ce,ck,ba]
 |x::r,A,k,h0,h1=>by
  simp only[ba]at h1
  have h2:=hn x
  have h3:=a7 hn r
  have ih:=dI hn hT r (A++[M k x]) (k+n x) (by omega) (by omega)
  rw[List.length_cons]
  simp only[ce]
  rw[hT A r x k h0 (by omega)]
  simp only[Stp.elim]
  rw[show A++M k x::r=(A++[M k x])++r by simp,show(A.length:Int)+1=((A++[M k x]).length:Int) by simp,ih]
  simp only[ck,ba,List.append_assoc,List.cons_append,List.nil_append]
  congr 2;omega
theorem rz {α W:Type}{n:α→Int}{M:Int→α→α}{H:Int→Int→Stp Int W}(v:List α)(hn:∀x,0≤n x)(hH:∀(j:Nat) (x:α) (k:Int),0≤k→k+n x≤4611686018427387904→v[j]? =some (M k x)→H (j:Int) k= .next (k+n x)):∀(r:List α) (j:Nat) (k:Int),0≤k→k+ba n r≤4611686018427387904→v.drop j=ck n M k r→ce H 1 r.length (j:Int) k= .next (k+ba n r)
 |[],_,k,_,_,_=>by simp[ce,ba]
 |x::r,j,k,h0,h1,h2=>by
  simp only[ba]at h1
  have h5:=hn x
  have h6:=a7 hn r
  have hg:v[j]? =some (M k x):=by
   have:=congrArg (λl=>l[0]?) h2
   simpa [ck]using this
  have h3:v.drop (j+1)=ck n M (k+n x) r:=by
   have:=congrArg (List.drop 1) h2
   simpa [ck,List.drop_drop]using this
  have ih:=rz v hn hH r (j+1) (k+n x) (by omega) (by omega) h3
  rw[List.length_cons]
  simp only[ce]
  rw[hH j x k h0 (by omega) hg]
  simp only[Stp.elim]
  rw[show(j:Int)+1=((j+1:Nat):Int) by omega,ih]
  simp only[ba]
  congr 1;omega
theorem jq {α:Type}(A r:List α)(y z:α):(A++y::r).set A.length z=A++z::r:=by
 rw[List.set_append_right _ _ (Nat.le_refl _)];simp
theorem jt {α:Type}(A r:List α)(y d:α):(A++y::r).getD A.length d=y:=getD_some (by simp)
theorem zJ {k L N:Int}(j j':Int)(h:j'=j+1)(hj:0≤j)(hN:j'≤N)(h0:0≤k)(hL:0≤L)(h1:k+(N+L)≤4611686018427387904):IntKind.wrap .i64 (k+j+L+1)=k+j'+L:=by rw[ap (by omega) (by omega)];omega
theorem Ad {k L N:Int}(j j':Int)(h:j'=j+1)(hj:0≤j)(hN:j'≤N)(h0:0≤k)(hL:0≤L)(h1:k+(N+L)≤4611686018427387904):IntKind.wrap .i64 (k+j+1)=k+j':=by rw[ap (by omega) (by omega)];omega
theorem pq {k N:Int}(j j':Int)(h:j'=j+1)(hj:0≤j)(hN:j'≤N)(h0:0≤k)(h1:k+N≤4611686018427387904):IntKind.wrap .i64 (k+j+1)=k+j':=by rw[ap (by omega) (by omega)];omega
theorem D6 {k L N:Int}(hN:1≤N)(h0:0≤k)(hL:0≤L)(h1:k+(N+L)≤4611686018427387904):IntKind.wrap .i64 (k+1)=k+1:=ap (by omega) (by omega)
theorem CW {k N:Int}(hN:1≤N)(h0:0≤k)(h1:k+N≤4611686018427387904):IntKind.wrap .i64 (k+1)=k+1:=ap (by omega) (by omega)
def d7 (_x:ac):Int:=1
def r8 (k:Int)(_x:ac):ac:=bf.f (k,())
theorem lK (x:ac):0≤d7 x:=by unfold d7;omega
theorem pC (A r:List ac)(x:ac)(k:Int)(h0:0≤k)(h1:k+d7 x≤4611686018427387904):(cJ (A.length:Int) (k,A++x::r)).nice= .next (k+d7 x,A++r8 k x::r):=by
 unfold d7 at h1⊢
 have e0:IntKind.wrap .i64 (k+1)=k+1:=CW (by decide) h0 h1
 simp only[PX,cJ,aj,jq,jt,e0,r8]
theorem wB (xs:List ac)(k:Int)(h0:0≤k)(h1:k+ba d7 xs≤4611686018427387904):fA.f (xs,k,())=(k+ba d7 xs,ck d7 r8 k xs):=by
 have:=dI (T:=λj a=>(cJ j a).nice) (M:=r8) lK pC xs [] k h0 h1
 rw[List.nil_append,List.nil_append]at this
 simp only[PX,fA,ay,av]
 refine(congrArg (Stp.elim _ _) this).trans ?_
 simp only[Stp.elim]
def cT (_x:Piec):Int:=2
def vx (k:Int)(_x:Piec):Piec:=⟨k,bf.f (k+1,())⟩
theorem jl (x:Piec):0≤cT x:=by unfold cT;omega
theorem ry (A r:List Piec)(x:Piec)(k:Int)(h0:0≤k)(h1:k+cT x≤4611686018427387904):(dA (A.length:Int) (k,A++x::r)).nice= .next (k+cT x,A++vx k x::r):=by
 unfold cT at h1⊢
 have e0:IntKind.wrap .i64 (k+1)=k+1:=CW (by decide) h0 h1
 have e1:IntKind.wrap .i64 (k+1+1)=k+2:=pq 1 2 (by decide) (by decide) (by decide) h0 h1
 simp only[PX,dA,aj,jq,jt,e0,e1,vx]
theorem xW (xs:List Piec)(k:Int)(h0:0≤k)(h1:k+ba cT xs≤4611686018427387904):ga.f (xs,k,())=(k+ba cT xs,ck cT vx k xs):=by
 have:=dI (T:=λj a=>(dA j a).nice) (M:=vx) jl ry xs [] k h0 h1
 rw[List.nil_append,List.nil_append]at this
 simp only[PX,ga,aD,av]
 refine(congrArg (Stp.elim _ _) this).trans ?_
 simp only[Stp.elim]
def gk (_x:Half):Int:=13
def vG (k:Int)(_x:Half):Half:=⟨⟨k,k+1,k+2⟩,k+3,k+4,⟨k+5,k+6,((k+7).tmod 3==0),((k+8).tmod 3==0),k+9,k+10⟩,k+11,k+12⟩
theorem jy (x:Half):0≤gk x:=by unfold gk;omega
theorem sm (A r:List Half)(x:Half)(k:Int)(h0:0≤k)(h1:k+gk x≤4611686018427387904):(dV (A.length:Int) (k,A++x::r)).nice= .next (k+gk x,A++vG k x::r):=by
 unfold gk at h1⊢
 have e0:IntKind.wrap .i64 (k+1)=k+1:=CW (by decide) h0 h1
 have e1:IntKind.wrap .i64 (k+1+1)=k+2:=pq 1 2 (by decide) (by decide) (by decide) h0 h1
 have e2:IntKind.wrap .i64 (k+2+1)=k+3:=pq 2 3 (by decide) (by decide) (by decide) h0 h1
 have e3:IntKind.wrap .i64 (k+3+1)=k+4:=pq 3 4 (by decide) (by decide) (by decide) h0 h1
 have e4:IntKind.wrap .i64 (k+4+1)=k+5:=pq 4 5 (by decide) (by decide) (by decide) h0 h1
 have e5:IntKind.wrap .i64 (k+5+1)=k+6:=pq 5 6 (by decide) (by decide) (by decide) h0 h1
 have e6:IntKind.wrap .i64 (k+6+1)=k+7:=pq 6 7 (by decide) (by decide) (by decide) h0 h1
 have e7:IntKind.wrap .i64 (k+7+1)=k+8:=pq 7 8 (by decide) (by decide) (by decide) h0 h1
 have e8:IntKind.wrap .i64 (k+8+1)=k+9:=pq 8 9 (by decide) (by decide) (by decide) h0 h1
 have e9:IntKind.wrap .i64 (k+9+1)=k+10:=pq 9 10 (by decide) (by decide) (by decide) h0 h1
 have e10:IntKind.wrap .i64 (k+10+1)=k+11:=pq 10 11 (by decide) (by decide) (by decide) h0 h1
 have e11:IntKind.wrap .i64 (k+11+1)=k+12:=pq 11 12 (by decide) (by decide) (by decide) h0 h1
 have e12:IntKind.wrap .i64 (k+12+1)=k+13:=pq 12 13 (by decide) (by decide) (by decide) h0 h1
 simp only[PX,dV,aj,jq,jt,e0,e1,e2,e3,e4,e5,e6,e7,e8,e9,e10,e11,e12,vG]
theorem yQ (xs:List Half)(k:Int)(h0:0≤k)(h1:k+ba gk xs≤4611686018427387904):ii.f (xs,k,())=(k+ba gk xs,ck gk vG k xs):=by
 have:=dI (T:=λj a=>(dV j a).nice) (M:=vG) jy sm xs [] k h0 h1
 rw[List.nil_append,List.nil_append]at this
 simp only[PX,ii,aK,av]
 refine(congrArg (Stp.elim _ _) this).trans ?_
 simp only[Stp.elim]
def iW (_x:Tupl):Int:=3
def tH (k:Int)(_x:Tupl):Tupl:=⟨k,k+1,k+2⟩
theorem i7 (x:Tupl):0≤iW x:=by unfold iW;omega
theorem qp (A r:List Tupl)(x:Tupl)(k:Int)(h0:0≤k)(h1:k+iW x≤4611686018427387904):(dl (A.length:Int) (k,A++x::r)).nice= .next (k+iW x,A++tH k x::r):=by
 unfold iW at h1⊢
 have e0:IntKind.wrap .i64 (k+1)=k+1:=CW (by decide) h0 h1
 have e1:IntKind.wrap .i64 (k+1+1)=k+2:=pq 1 2 (by decide) (by decide) (by decide) h0 h1
 have e2:IntKind.wrap .i64 (k+2+1)=k+3:=pq 2 3 (by decide) (by decide) (by decide) h0 h1
 simp only[PX,dl,aj,jq,jt,e0,e1,e2,tH]
theorem wK (xs:List Tupl)(k:Int)(h0:0≤k)(h1:k+ba iW xs≤4611686018427387904):gi.f (xs,k,())=(k+ba iW xs,ck iW tH k xs):=by
 have:=dI (T:=λj a=>(dl j a).nice) (M:=tH) i7 qp xs [] k h0 h1
 rw[List.nil_append,List.nil_append]at this
 simp only[PX,gi,aF,av]
 refine(congrArg (Stp.elim _ _) this).trans ?_
 simp only[Stp.elim]
def fC (x:Conn):Int:=24+ba cT x.r.held
def rT (k:Int)(x:Conn):Conn:=⟨⟨k,k+1,k+2⟩,k+3,⟨k+4,bf.f (k+5,()),k+6,((k+7).tmod 3==0),((k+8).tmod 3==0),((k+9).tmod 3==0)⟩,⟨k+10,bf.f (k+11,()),ck cT vx (k+12) x.r.held,k+12+ba cT x.r.held,((k+13+ba cT x.r.held).tmod 3==0)⟩,k+14+ba cT x.r.held,k+15+ba cT x.r.held,⟨k+16+ba cT x.r.held,k+17+ba cT x.r.held,((k+18+ba cT x.r.held).tmod 3==0),((k+19+ba cT x.r.held).tmod 3==0),k+20+ba cT x.r.held,k+21+ba cT x.r.held⟩,k+22+ba cT x.r.held,k+23+ba cT x.r.held⟩
theorem iX (x:Conn):0≤fC x:=by have:=a7 jl x.r.held;unfold fC;omega
set_option maxHeartbeats 1000000 in theorem sQ (A r:List Conn)(x:Conn)(k:Int)(h0:0≤k)(h1:k+fC x≤4611686018427387904):(dP (A.length:Int) (k,A++x::r)).nice= .next (k+fC x,A++rT k x::r):=by
 unfold fC at h1⊢
 have hn:=a7 jl x.r.held
 have hm12:=xW x.r.held (k+12) (by omega) (by omega)
 simp only[rT]
 generalize ba cT x.r.held=L at*
 have e0:IntKind.wrap .i64 (k+1)=k+1:=D6 (by decide) h0 hn h1
 have e1:IntKind.wrap .i64 (k+1+1)=k+2:=Ad 1 2 (by decide) (by decide) (by decide) h0 hn h1
 have e2:IntKind.wrap .i64 (k+2+1)=k+3:=Ad 2 3 (by decide) (by decide) (by decide) h0 hn h1
 have e3:IntKind.wrap .i64 (k+3+1)=k+4:=Ad 3 4 (by decide) (by decide) (by decide) h0 hn h1
 have e4:IntKind.wrap .i64 (k+4+1)=k+5:=Ad 4 5 (by decide) (by decide) (by decide) h0 hn h1
 have e5:IntKind.wrap .i64 (k+5+1)=k+6:=Ad 5 6 (by decide) (by decide) (by decide) h0 hn h1
 have e6:IntKind.wrap .i64 (k+6+1)=k+7:=Ad 6 7 (by decide) (by decide) (by decide) h0 hn h1
 have e7:IntKind.wrap .i64 (k+7+1)=k+8:=Ad 7 8 (by decide) (by decide) (by decide) h0 hn h1
 have e8:IntKind.wrap .i64 (k+8+1)=k+9:=Ad 8 9 (by decide) (by decide) (by decide) h0 hn h1
 have e9:IntKind.wrap .i64 (k+9+1)=k+10:=Ad 9 10 (by decide) (by decide) (by decide) h0 hn h1
 have e10:IntKind.wrap .i64 (k+10+1)=k+11:=Ad 10 11 (by decide) (by decide) (by decide) h0 hn h1
 have e11:IntKind.wrap .i64 (k+11+1)=k+12:=Ad 11 12 (by decide) (by decide) (by decide) h0 hn h1
 have e12:IntKind.wrap .i64 (k+12+L+1)=k+13+L:=zJ 12 13 (by decide) (by decide) (by decide) h0 hn h1
 have e13:IntKind.wrap .i64 (k+13+L+1)=k+14+L:=zJ 13 14 (by decide) (by decide) (by decide) h0 hn h1
 have e14:IntKind.wrap .i64 (k+14+L+1)=k+15+L:=zJ 14 15 (by decide) (by decide) (by decide) h0 hn h1
 have e15:IntKind.wrap .i64 (k+15+L+1)=k+16+L:=zJ 15 16 (by decide) (by decide) (by decide) h0 hn h1
 have e16:IntKind.wrap .i64 (k+16+L+1)=k+17+L:=zJ 16 17 (by decide) (by decide) (by decide) h0 hn h1
 have e17:IntKind.wrap .i64 (k+17+L+1)=k+18+L:=zJ 17 18 (by decide) (by decide) (by decide) h0 hn h1
 have e18:IntKind.wrap .i64 (k+18+L+1)=k+19+L:=zJ 18 19 (by decide) (by decide) (by decide) h0 hn h1
 have e19:IntKind.wrap .i64 (k+19+L+1)=k+20+L:=zJ 19 20 (by decide) (by decide) (by decide) h0 hn h1
 have e20:IntKind.wrap .i64 (k+20+L+1)=k+21+L:=zJ 20 21 (by decide) (by decide) (by decide) h0 hn h1
 have e21:IntKind.wrap .i64 (k+21+L+1)=k+22+L:=zJ 21 22 (by decide) (by decide) (by decide) h0 hn h1
 have e22:IntKind.wrap .i64 (k+22+L+1)=k+23+L:=zJ 22 23 (by decide) (by decide) (by decide) h0 hn h1
 have e23:IntKind.wrap .i64 (k+23+L+1)=k+24+L:=zJ 23 24 (by decide) (by decide) (by decide) h0 hn h1
 simp only[PX,dP,aj,jq,jt,e0,e1,e2,e3,e4,e5,e6,e7,e8,e9,e10,e11,e12,e13,e14,e15,e16,e17,e18,e19,e20,e21,e22,e23,hm12,rT]
 congr 2;omega
theorem zr (xs:List Conn)(k:Int)(h0:0≤k)(h1:k+ba fC xs≤4611686018427387904):ij.f (xs,k,())=(k+ba fC xs,ck fC rT k xs):=by
 have:=dI (T:=λj a=>(dP j a).nice) (M:=rT) iX sQ xs [] k h0 h1
 rw[List.nil_append,List.nil_append]at this
 simp only[PX,ij,aL,av]
 refine(congrArg (Stp.elim _ _) this).trans ?_
 simp only[Stp.elim]
def ib (_x:Entr):Int:=3
def vz (k:Int)(_x:Entr):Entr:=⟨k,k+1,k+2⟩
theorem ji (x:Entr):0≤ib x:=by unfold ib;omega
theorem sa (A r:List Entr)(x:Entr)(k:Int)(h0:0≤k)(h1:k+ib x≤4611686018427387904):(di (A.length:Int) (k,A++x::r)).nice= .next (k+ib x,A++vz k x::r):=by
 unfold ib at h1⊢
 have e0:IntKind.wrap .i64 (k+1)=k+1:=CW (by decide) h0 h1
 have e1:IntKind.wrap .i64 (k+1+1)=k+2:=pq 1 2 (by decide) (by decide) (by decide) h0 h1
 have e2:IntKind.wrap .i64 (k+2+1)=k+3:=pq 2 3 (by decide) (by decide) (by decide) h0 h1
 simp only[PX,di,aj,jq,jt,e0,e1,e2,vz]
theorem xP (xs:List Entr)(k:Int)(h0:0≤k)(h1:k+ba ib xs≤4611686018427387904):f5.f (xs,k,())=(k+ba ib xs,ck ib vz k xs):=by
 have:=dI (T:=λj a=>(di j a).nice) (M:=vz) ji sa xs [] k h0 h1
 rw[List.nil_append,List.nil_append]at this
 simp only[PX,f5,aC,av]
 refine(congrArg (Stp.elim _ _) this).trans ?_
 simp only[Stp.elim]
def eb (_x:Issu):Int:=5
def lV (k:Int)(_x:Issu):Issu:=⟨⟨k,k+1,k+2⟩,k+3,k+4⟩
theorem jf (x:Issu):0≤eb x:=by unfold eb;omega
theorem r9 (A r:List Issu)(x:Issu)(k:Int)(h0:0≤k)(h1:k+eb x≤4611686018427387904):(dq (A.length:Int) (k,A++x::r)).nice= .next (k+eb x,A++lV k x::r):=by
 unfold eb at h1⊢
 have e0:IntKind.wrap .i64 (k+1)=k+1:=CW (by decide) h0 h1
 have e1:IntKind.wrap .i64 (k+1+1)=k+2:=pq 1 2 (by decide) (by decide) (by decide) h0 h1
 have e2:IntKind.wrap .i64 (k+2+1)=k+3:=pq 2 3 (by decide) (by decide) (by decide) h0 h1
 have e3:IntKind.wrap .i64 (k+3+1)=k+4:=pq 3 4 (by decide) (by decide) (by decide) h0 h1
 have e4:IntKind.wrap .i64 (k+4+1)=k+5:=pq 4 5 (by decide) (by decide) (by decide) h0 h1
 simp only[PX,dq,aj,jq,jt,e0,e1,e2,e3,e4,lV]
theorem r7 (v:List Issu)(j:Nat)(x:Issu)(k:Int)(h0:0≤k)(h1:k+eb x≤4611686018427387904)(hg:v[j]? =some (lV k x)):(dm v (j:Int) k).nice= .next (k+eb x):=by
 unfold eb at h1⊢
 have e0:IntKind.wrap .i64 (k+1)=k+1:=CW (by decide) h0 h1
 have e1:IntKind.wrap .i64 (k+1+1)=k+2:=pq 1 2 (by decide) (by decide) (by decide) h0 h1
 have e2:IntKind.wrap .i64 (k+2+1)=k+3:=pq 2 3 (by decide) (by decide) (by decide) h0 h1
 have e3:IntKind.wrap .i64 (k+3+1)=k+4:=pq 3 4 (by decide) (by decide) (by decide) h0 h1
 have e4:IntKind.wrap .i64 (k+4+1)=k+5:=pq 4 5 (by decide) (by decide) (by decide) h0 h1
 simp only[PX,dm,aj,getD_some hg,lV,e0,e1,e2,e3,e4,beq_self_eq_true,bne_self_eq_false,Bool.not_true,cond_false]
theorem xB (xs:List Issu)(k:Int)(h0:0≤k)(h1:k+ba eb xs≤4611686018427387904):ge.f (xs,k,())=(k+ba eb xs,ck eb lV k xs):=by
 have:=dI (T:=λj a=>(dq j a).nice) (M:=lV) jf r9 xs [] k h0 h1
 rw[List.nil_append,List.nil_append]at this
 simp only[PX,ge,aE,av]
 refine(congrArg (Stp.elim _ _) this).trans ?_
 simp only[Stp.elim]
theorem xo (xs:List Issu)(k:Int)(h0:0≤k)(h1:k+ba eb xs≤4611686018427387904):eO.f (ck eb lV k xs,k,())=k+ba eb xs:=by
 have:=rz (W:=Int) (H:=λj a=>(dm (ck eb lV k xs) j a).nice) (M:=lV) (ck eb lV k xs) jf (λj x k h0 h1 hg=>r7 _ j x k h0 h1 hg) xs 0 k h0 h1 rfl
 simp only[PX,eO,dk,av,tC]
 refine(congrArg (Stp.elim _ _) this).trans ?_
 simp only[Stp.elim]
def iK (x:Keys):Int:=2*(x.now.rows.length:Int)+2*(x.before.rows.length:Int)
def qv (x:Tabl):Int:=ba fC x.conns+ba iW x.waiting
def oO (x:Door):Int:=iK x.keys+ba gk x.halves+qv x.table
def nA (x:Stac):Int:=ba ib x.link.cache+oO x.door
theorem mS (x:Tabl):0≤qv x:=by
 have:=a7 iX x.conns
 have:=a7 i7 x.waiting
 unfold qv;omega
theorem nb (x:Door):0≤oO x:=by
 have:=a7 jy x.halves
 have:=mS x.table
 unfold oO iK;omega
theorem t7 (x:Stac):0≤nA x:=by
 have:=a7 ji x.link.cache
 have:=nb x.door
 unfold nA;omega
theorem yz (x:Keys)(k:Int)(h0:0≤k)(h1:k+iK x≤4611686018427387904):je.f (x,k,())=(k+iK x,nM k x.now.rows,nM (k+2*(x.now.rows.length:Int)) x.before.rows):=by
 unfold iK at h1⊢
 simp only[PX,je,le,tg x.now.rows k h0 (by omega),tg x.before.rows (k+2*(x.now.rows.length:Int)) (by omega) (by omega)]
 congr 1;omega
theorem y3 (x:Tabl)(k:Int)(h0:0≤k)(h1:k+qv x≤4611686018427387904):hY.f (x,k,())=(k+qv x,ck fC rT k x.conns,ck iW tH (k+ba fC x.conns) x.waiting):=by
 have a:=a7 iX x.conns
 have b:=a7 i7 x.waiting
 unfold qv at h1⊢
 simp only[PX,hY,zr x.conns k h0 (by omega),wK x.waiting (k+ba fC x.conns) (by omega) (by omega)]
 congr 1;omega
theorem zm (x:Door)(k:Int)(h0:0≤k)(h1:k+oO x≤4611686018427387904):gl.f (x,k,())=(k+oO x,nM k x.keys.now.rows,nM (k+2*(x.keys.now.rows.length:Int)) x.keys.before.rows,ck gk vG (k+iK x.keys) x.halves,ck fC rT (k+iK x.keys+ba gk x.halves) x.table.conns,ck iW tH (k+iK x.keys+ba gk x.halves+ba fC x.table.conns) x.table.waiting):=by
 have a:=a7 jy x.halves
 have b:=mS x.table
 have c:0≤iK x.keys:=by unfold iK;omega
 unfold oO at h1⊢
 simp only[PX,gl,yz x.keys k h0 (by omega),yQ x.halves (k+iK x.keys) (by omega) (by omega),y3 x.table (k+iK x.keys+ba gk x.halves) (by omega) (by omega)]
 congr 1;omega
theorem zE (x:Stac)(k:Int)(h0:0≤k)(h1:k+nA x≤4611686018427387904):ia.f (x,k,())=(k+nA x,ck ib vz k x.link.cache,(gl.f (x.door,k+ba ib x.link.cache,())).2):=by
 have a:=a7 ji x.link.cache
 have b:=nb x.door
 unfold nA at h1⊢
 simp only[PX,ia,mn,xP x.link.cache k h0 (by omega),zm x.door (k+ba ib x.link.cache) (by omega) (by omega)]
 congr 1;omega
theorem Ak (x:Conn)(h:aG x):fC x≤8589934616:=by
 have h2:x.r.held.length≤4294967296:=by unfold aG at h;omega
 have h3:=ic (n:=cT) (B:=2) x.r.held λy _=>by unfold cT;omega
 unfold fC;omega
theorem A2 (d:Door)(h:em d)(hc:d.table.conns.length≤268435456):oO d≤2400000000000000000:=by
 unfold em at h
 obtain⟨h1,_,h2,_,h3,_,h4,h5⟩:=h
 have a:=ic (n:=gk) (B:=13) d.halves λy _=>by unfold gk;omega
 have b:=ic (n:=fC) (B:=8589934616) d.table.conns λy hy=>Ak y (h4 y hy)
 have c:=ic (n:=iW) (B:=3) d.table.waiting λy _=>by unfold iW;omega
 unfold oO iK qv
 omega
theorem xg (x:List ac):gP.f (x,())=x:=by
 simp only[PX,gP,cA,av,aj]
 rw[bQ x _ rfl (F:=λj y a=> .next (a.set j y)) (λj y a h=>by simp only[PX,iz,aj,getD_some h])]
 have:=dB (W:=Empty) (λy:ac=>y) x 0 (List.replicate x.length ([]:ac)) (by simp)
 rw[this]
 simp[Stp.elim]
theorem yv (x:Resu):ez.f (x,())=x:=by simp only[PX,ez,xg,m7]
theorem yW (x:List ac):gV.f (x,x,())=true:=by
 simp only[PX,gV,dR,bne_self_eq_false,cond_false]
 rw[dQ _ _ λj=>by simp only[PX,iB,beq_self_eq_true,Bool.not_true,cond_false]]
 rfl
theorem AK (x:Resu):iZ.f (x,x,())=true:=by simp only[PX,iZ,yW,m8,bne_self_eq_false,beq_self_eq_true,Bool.not_true,cond_false]
theorem v9 (x:List Issu):fm.f (x,x,())=true:=by
 simp only[PX,fm,et,bne_self_eq_false,cond_false]
 rw[dQ _ _ λj=>by simp only[PX,j4,Bt,Bool.not_true,cond_false]]
 rfl
theorem AX (s:Stac)(h:ep s)(hc:s.door.table.conns.length≤268435456):nA s≤2500000000000000000:=by
 have a:=ic (n:=ib) (B:=3) s.link.cache λy _=>by unfold ib;omega
 have hl:s.link.cache.length≤4294967296:=by unfold ep at h;omega
 have hd:em s.door:=by unfold ep at h;unfold em;exact h.2
 have b:=A2 s.door hd hc
 unfold nA
 omega
theorem AH (xs:List Issu)(h:xs.length≤4294967296):0≤ba eb xs∧ba eb xs≤30000000000:=by
 have a:=ic (n:=eb) (B:=5) xs λy _=>by unfold eb;omega
 exact⟨a7 jf xs,by omega⟩
theorem yL (xs:List ac)(h:xs.length≤4294967296):0≤ba d7 xs∧ba d7 xs≤4294967296:=by
 have a:=ic (n:=d7) (B:=1) xs λy _=>by unfold d7;omega
 exact⟨a7 lK xs,by omega⟩
theorem zI (x:Resu)(k:Int)(h0:0≤k)(h1:k+ba d7 x.frames≤4611686018427387904):f0.f (x,k,())=(k+ba d7 x.frames,ck d7 r8 k x.frames):=by
 simp only[PX,f0,wB x.frames k h0 h1]
theorem ny (x0:Stac)(x1:Resu)(hf:aQ [.st .stac,.st .resu] (x0,x1,())):fe.f (x0,x1,())=true:=by
 simp only[aQ,Pk.fact,cZ,cg,Fl.fact,Ty.fl,Ty.toH]at hf
 obtain⟨⟨_,_,⟨hc,_⟩,_,_,_,_,_,_,⟨n1,n2⟩,_,_,_,⟨m1,m2⟩,_,_,_,_,_,⟨hh,_⟩,⟨hl,he⟩,⟨hw,_⟩,_⟩,⟨⟨f1,f2⟩,_,_,_,_,_,htx,_,_⟩,_⟩:=hf
 refine Eq.trans (b:=bif decide (bb.f (x0,1048576,())<0)then true else bif decide (dF.f (x1,bb.f (x0,1048576,()),())<0)then true else Tr.nice _) rfl ?_
 rcases Bool.eq_false_or_eq_true (decide (bb.f (x0,1048576,())<0))with hz|hz
 ·rw[hz,cond_true]
 have k1:0≤bb.f (x0,1048576,()):=by simpa using hz
 have hS:=tj x0 1048576 (by omega) (by omega) hc n1 n2 m1 m2 hh hl he hw k1
 have hC:=(ze x0 1048576 (by omega) (by omega) hc n1 n2 m1 m2 hh hl he hw k1).2
 rcases Bool.eq_false_or_eq_true (decide (dF.f (x1,bb.f (x0,1048576,()),())<0))with hz2|hz2
 ·rw[hz,cond_false,hz2,cond_true]
 have hR:=(rj x1 _ k1 (by omega) f1 f2 htx (by simpa using hz2)).2
 have hfr:∀y∈x1.frames,y.length≤4294967296:=by have:=hR.2;unfold fc at this;exact this.2.1
 have e1:gm.f (x0,x1,())=cH.f (x0,x1,()):=(sf x0 x1 hfr).trans (sg x0 x1 hfr).symm
 have hg:(cH.f (x0,x1,())).length≤4294967296:=cH.c.h (x0,x1,()) ⟨hS.2,hR.2⟩
 have b0:=AX x0 hS.2 (by omega)
 have c0:=t7 x0
 have b1:=yL x1.frames (by omega)
 have b2:=AH _ hg
 rw[hz,cond_false,hz2,cond_false]
 simp only[PX,AF,yv,e1,Be,AK,v9,Bool.not_true,cond_false]
 clear e1
 generalize cH.f (x0,x1,())=g at*
 have m0:=zE x0 1 (by decide) (by omega)
 have m1:=zI x1 (1+nA x0) (by omega) (by omega)
 have m2:=xB g 1 (by decide) (by omega)
 have z0:decide (1+nA x0+ba d7 x1.frames<0)=false:=by simp;omega
 have z1:decide (1+ba eb g<0)=false:=by simp;omega
 simp only[m0,m1,m2,z0,v9,xo g 1 (by decide) (by omega),z1,bne_self_eq_false,Bool.not_true,cond_false]

end
end Go.Proofs.YtbkjnlihfgkkaaaGreat
