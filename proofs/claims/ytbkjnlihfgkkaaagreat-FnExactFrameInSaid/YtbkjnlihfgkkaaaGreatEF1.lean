/-
  Contracts of functions and plain laws (printed by a program): each theorem says what a function of the program returns; conditions are its hypotheses.
-/
import Derived.Test.YtbkjnlihfgkkaaaGreatBase
set_option linter.all false
set_option maxRecDepth 4000
namespace Go.Proofs.YtbkjnlihfgkkaaaGreat
open Go Go.RowKit
noncomputable section
@[reducible] def zp (t i:Nat):Nat×Bool×List Pt:=(t,false,[.ptr i 0])
@[reducible] def zi (t:Nat):Nat×Bool×List Pt:=(t,false,[.int .i64])
@[reducible] def zb (t:Nat):Nat×Bool×List Pt:=(t,false,[.bool])
@[reducible] def zu (t:Nat):Nat×Bool×List Pt:=(t,false,[.undef])
@[reducible] def zs (t:Nat):Nat×Bool×List Pt:=(t,false,[.str])
@[reducible] def zl (n:Nat)(t:Ty):Nat×Bool×List Pt:=(n,false,[.sl .arg t])
@[reducible] def zo (n k:Nat):Nat×Bool×List Pt:=(n,false,[.own k])
@[reducible] def zx (t:Ty):Osh:=.box [.st t []]
@[reducible] def zg (t:Ty):Osh:=.box [.st t [.sl .arg]]
@[reducible] def zk (t:Ty)(k:Nat):Osh:=.box [.st t [.own k]]
@[reducible] def zf :Osh:=.of false true
@[reducible] def za (t:Ty):Osh:=.arr t false true
noncomputable def qc:FF (Tupl×Unit) (Tupl):=⟨λ(x0,_)=>
  .ret x0⟩
noncomputable def wX:=gj ao Tryz.func36 [] (ks:=[.st .tupl]) qc (λv=>[(true,ST v)])
def tN:Sh:=⟨[zl 0 .str,zl 1 .str,zi 5],[]⟩
noncomputable def tW (v0 v1:List ac)(v2:Int)(a:Unit):Tr (Stp (Unit) ((Unit))):=
 .grd (ba v0 v2)<|
 .grd (ba v1 v2)<|
 .ite (!((v0.getD v2.toNat [])==(v1.getD v2.toNat []))) (.ret (.out ()))<|
 .ret (.next ())
noncomputable def kv:tN.V->nL tN Unit (Unit):=λ(v0,v1,v2,_)=>⟨v2,(),λv2 _=>(v0,v1,v2,()),λv2 _=>(decide (v2<(v0.length:Int))),tW v0 v1,up,1,(Int.toNat ((v0.length:Int)-v2)),.inl,eR,oB .ret ⟨[zb 4],[]⟩ (λ_=>(false,())) (.exit 0) ⟨[zu 4],[]⟩ (λ_=>())⟩
theorem D1 {v0 v1:List ac}{v2:Int}(h0:0<=v2)(h1:(v0.length:Int)<=4611686018427387904)(h2:(v0.length:Int)<=(v1.length:Int)):(kv (v0,v1,v2,())).U (v0.length:Int) (λ_ _=>True) (λ_=>True):=
 kx h0 h1 trivial
noncomputable def lK:FT (List ac×List ac×Unit) (Bool) (λx=>sL sS x.1/\sL sS x.2.1) (λ_ _=>True):= .mk (λ(x0,x1,_)=>
  .ite ((x0.length:Int) != (x1.length:Int)) (.ret false)<|
  .lp (kv (x0,x1,0,())).lp λw1=> .sum w1 (λ_=>
  .ret false)<|
  λ_=>
  .ret true) (np @D1)
noncomputable def Ln:=dr st Tryz.func48 [(0,lb [0,1,5] [4])] [] 0 kv (ks:=[.sc (.sl .str),.sc (.sl .str)]) lK rB
noncomputable def gA:FX (List Half×Int×Unit) (Int) (λ_=>True) (cG [.sc (.sl .half),.sc (.int .i64)]):=⟨λ(x0,x1,_)=>
  .ite (decide ((IntKind.wrap .i64 (x1-(x0.length:Int)))<0)) (.ret (-1))<|
  .ret (IntKind.wrap .i64 (x1-(x0.length:Int))),
 λ(x0,x1,_) hp hf=>by
  simp only[cG,Pk.fact,jT,gy,Fl.fact,Ty.fl,Ty.toH]at hf
  refine Tr.F (by kernel_rfl) trivial⟩
theorem LV (xs:List Half)(k:Int)(h0:0<=k)(h1:k<=1048576)(hl:xs.length<=140737488355328)(h:0<=gA.f (xs,k,())):gA.f (xs,k,())<=k/\xs.length<=1048576:=by
 have w:IntKind.wrap .i64 (k-(xs.length:Int))=k-(xs.length:Int):=aj (by omega) (by omega)
 simp only[FX.f,gA,Tr.nice,w]at h|-
 by_cases c:k-(xs.length:Int)<0
 ·rw[decide_eq_true c,cond_true]at h;omega
 ·rw[decide_eq_false c,cond_false];exact⟨by omega,by omega⟩
noncomputable def Pp:=sC st Tryz.func63 [] (ks:=[.sc (.sl .half),.sc (.int .i64)]) gA rI
noncomputable def u5:FF (Limi×Unit) (Limi):=⟨λ(x0,_)=>
  .ret x0⟩
noncomputable def MQ:=gj ao Tryz.func69 [] (ks:=[.st .limi]) u5 (λv=>[(true,abu v)])
noncomputable def uA:FF (Limi×Limi×Unit) (Bool):=⟨λ(x0,x1,_)=>
  .ite (x0.halves != x1.halves) (.ret false)<|
  .ite (x0.waiting != x1.waiting) (.ret false)<|
  .ite (x0.conns != x1.conns) (.ret false)<|
  .ite (x0.chal != x1.chal) (.ret false)<|
  .ret true⟩
noncomputable def Nn:=gj st Tryz.func76 [] (ks:=[.st .limi,.st .limi]) uA rB
noncomputable def gg:FF (Segm×Int×Unit) (Bool):=⟨λ(x0,x1,_)=>
  .ret ((bits .and .i64 x0.flags x1)==x1)⟩
noncomputable def yW:=gj st Tryz.func90 [] (ks:=[.st .segm,.sc (.int .i64)]) gg rB
noncomputable def bm:FF (Segm×Int×Unit) (Bool):=⟨λ(x0,x1,_)=>
  .ret ((bits .and .i64 x0.flags x1)==x1)⟩
noncomputable def yo:=gj ao Tryz.func95 [] (ks:=[.st .segm,.sc (.int .i64)]) bm rB
noncomputable def cM:FF (Int×Int×Unit) (Int):=⟨λ(x0,x1,_)=>
  .ret (bits .and .i64 (IntKind.wrap .i64 (x0+x1)) 4294967295)⟩
noncomputable def ik:=gj ao Tryz.func96 [] (ks:=[.sc (.int .i64),.sc (.int .i64)]) cM rI
noncomputable def qd:FF (Tupl×Tupl×Unit) (Bool):=⟨λ(x0,x1,_)=>
  .ite (x0.ip != x1.ip) (.ret false)<|
  .ite (x0.port != x1.port) (.ret false)<|
  .ite (x0.my != x1.my) (.ret false)<|
  .ret true⟩
noncomputable def wW:=gj st Tryz.func99 [] (ks:=[.st .tupl,.st .tupl]) qd rB
def vC:Sh:=⟨[zl 0 .half,zp 3 0,zi 5],[zx .tupl]⟩
noncomputable def vM (v0:List Half)(v2:Tupl)(v1:Int)(a:Unit):Tr (Stp (Unit) ((Int))):=
 .grd (ba v0 v1)<|
 .ite (((v0.getD v1.toNat (Ty.zero .half)).tuple.ip==v2.ip)&&(((v0.getD v1.toNat (Ty.zero .half)).tuple.port==v2.port)&&(((v0.getD v1.toNat (Ty.zero .half)).tuple.my==v2.my)&&true))) (.ret (.out v1))<|
 .ret (.next ())
noncomputable def kU:vC.V->nL vC Unit (Int):=λ(v0,v1,v2,_)=>⟨v1,(),λv1 _=>(v0,v1,v2,()),λv1 _=>(decide (v1<(v0.length:Int))),vM v0 v2,up,1,(Int.toNat ((v0.length:Int)-v1)),.inl,eR,oB .ret ⟨[zi 4],[]⟩ (λp=>(p,())) (.exit 0) ⟨[zu 4],[]⟩ (λ_=>())⟩
theorem FO {v0:List Half}{v1:Int}{v2:Tupl}(h0:0<=v1)(h1:(v0.length:Int)<=4611686018427387904):(kU (v0,v1,v2,())).U (v0.length:Int) (λ_ _=>True) (λp=>v1<=p/\p<(v0.length:Int)):=
 kx h0 h1 trivial
noncomputable def iC:FT (List Half×Tupl×Unit) (Int) (λx=>wS x.1) (λx v=> -1<=v/\v<x.1.length):= .mk (λ(x0,x1,_)=>
  .lp (kU (x0,0,x1,())).lp λw1=> .sum w1 (λp1a0=>
  .ret p1a0)<|
  λ_=>
  .ret (-1)) (np @FO)
noncomputable def mW:=dr st Tryz.func103 [(0,lb [0,3,5] [4])] [] 0 kU (ks:=[.sc (.sl .half),.st .tupl]) iC rI
def vx:Sh:=⟨[zp 2 0,zp 3 1,zi 5],[.box [.st .tabl [.sl .arg,.sl .arg]],zx .tupl]⟩
noncomputable def vp (v1:Tabl)(v2:Tupl)(v0:Int)(a:Unit):Tr (Stp (Unit) ((Int))):=
 .grd (ba v1.conns v0)<|
 .ite (((v1.conns.getD v0.toNat (Ty.zero .conn)).tuple.ip==v2.ip)&&(((v1.conns.getD v0.toNat (Ty.zero .conn)).tuple.port==v2.port)&&(((v1.conns.getD v0.toNat (Ty.zero .conn)).tuple.my==v2.my)&&true))) (.ret (.out v0))<|
 .ret (.next ())
noncomputable def lc:vx.V->nL vx Unit (Int):=λ(v0,v1,v2,_)=>⟨v0,(),λv0 _=>(v0,v1,v2,()),λv0 _=>(decide (v0<(v1.conns.length:Int))),vp v1 v2,up,1,(Int.toNat ((v1.conns.length:Int)-v0)),.inl,eR,oB .ret ⟨[zi 4],[]⟩ (λp=>(p,())) (.exit 0) ⟨[zu 4],[]⟩ (λ_=>())⟩
theorem FZ {v0:Int}{v1:Tabl}{v2:Tupl}(h0:0<=v0)(h1:(v1.conns.length:Int)<=4611686018427387904):(lc (v0,v1,v2,())).U (v1.conns.length:Int) (λ_ _=>True) (λp=>v0<=p/\p<(v1.conns.length:Int)):=
 kx h0 h1 trivial
noncomputable def fu:FT (Tabl×Tupl×Unit) (Int) (λx=>wS x.1.conns) (λx v=> -1<=v/\v<x.1.conns.length):= .mk (λ(x0,x1,_)=>
  .lp (lc (0,x0,x1,())).lp λw1=> .sum w1 (λp1a0=>
  .ret p1a0)<|
  λ_=>
  .ret (-1)) (np @FZ)
noncomputable def kp:=dr st Tryz.func104 [(0,lb [2,3,5] [4])] [] 0 lc (ks:=[.st .tabl,.st .tupl]) fu rI
noncomputable def oJ:FF (Opti×Unit) (Opti):=⟨λ(x0,_)=>
  .ret x0⟩
noncomputable def zS:=gj ao Tryz.func107 [] (ks:=[.st .opti]) oJ (λv=>[(true,pg v)])
def vg:Sh:=⟨[zi 0,zs 3],[]⟩
noncomputable def FV (a:Int×ac):Tr (Stp (Int×ac) ((ac))):=
 .ite (decide (0<a.1)) (.grd (Nat.ble ((az [(IntKind.wrap .u8 (IntKind.wrap .i64 (48+(a.1.tmod 10))))]).length+a.2.length) am)<|
  .val ((az [(IntKind.wrap .u8 (IntKind.wrap .i64 (48+(a.1.tmod 10))))])++a.2) λe1=>
  .ret (.next ((IntKind.wrap .i64 (a.1.tdiv 10)),e1)))<|
 .ret (.out a.2)
noncomputable def pe:vg.V->LW vg (Int×ac) ((ac)):=λ(v0,v1,_)=>⟨(v0,v1),λa=>(a.1,a.2,()),FV,Int.toNat v0,oN (.exit 0) ⟨[zu 2,zs 3],[]⟩ (λp=>(p,()))⟩
theorem FS {v0:Int}{v1:ac}(h0:0<=v0/\v0*10 ^ v1.length<=9223372036854775807/\v1.length<=19):(pe (v0,v1,())).W (λp=>p.length<=19):=
 LW.okW (a:=(v0,v1)) (λa=>0<=a.1/\a.1*10 ^ a.2.length<=9223372036854775807/\a.2.length<=19) (λa=>Int.toNat a.1) rfl h0 λ(v0,v1) hv=>by
  refine Tr.I (λb0=>Tr.Gb ?_ λg1=>Tr.V λe1 he1=>Tr.Rn ?_) λb0=>Tr.Ro ?_
  all_goals ((first|grind|(obtain⟨h1,h2,h3⟩:=hv;simp only[]at h1 h2 h3 he1;simp only[decide_eq_true_eq]at b0;have hq:(0:Int)<10 ^ v1.length:=Int.pow_pos (by omega);have hm:=Int.mul_le_mul_of_nonneg_left (show(1:Int)<=10 ^ v1.length by omega) h1;have h4:v0<=9223372036854775807:=(by omega);have e:IntKind.wrap .i64 (v0.tdiv 10)=v0/10:=(congrArg IntKind.i64.wrap ((xV 10).1 h1)).trans (aj (by omega) (by omega));have h5:v0/10*10 ^ (v1.length+1)<=v0*10 ^ v1.length:=(by rw[Int.pow_succ,Int.mul_comm (10 ^ v1.length) 10,<-Int.mul_assoc];exact Int.mul_le_mul_of_nonneg_right (by omega) (Int.le_of_lt hq));have h6:v1.length<=18:=Classical.byContradiction λhh=>(by have h7:v1.length=19:=(by omega);rw[h7]at h2;omega);have h8:e1.length=v1.length+1:=(by rw[he1,List.length_append,aX];simp only[List.length_cons,List.length_nil];omega);simp only[e,h8];exact⟨⟨by omega,Int.le_trans h5 h2,by omega⟩,by omega⟩)))
noncomputable def bK:FT (Int×Unit) (ac) (λx=>x.1<=9223372036854775807) (λx v=>sS v):= .mk (λ(x0,_)=>
  .ite (decide (x0<=0)) (.ret [109,48])<|
  .lp (pe (x0,[],())).lp λp2a0=>
  .grd (Nat.ble (1+p2a0.length) am)<|
  .ret ([109]++p2a0)) (np @FS)
@[grind=] theorem acv (m:Int):IntKind.wrap .i64 m=min (IntKind.wrap .i64 m) 9223372036854775807:=by rw[cO];omega
noncomputable def fP:=KG st Tryz.func117 [(0,lb [0,3] [2,3])] [] 0 pe (ks:=[.sc (.int .i64)]) bK (λv=>[(false,[.c (.str v)])])
noncomputable def yO:FF (Int×Segm×Unit) (Tupl):=⟨λ(x0,x1,_)=>
  .ret (⟨x0,x1.from_,x1.to⟩:Tupl)⟩
noncomputable def RN:=gj st Tryz.func134 [] (ks:=[.sc (.int .i64),.st .segm]) yO (λv=>[(true,ST v)])
noncomputable def qu:FT (List Half×Tupl×Unit) (List Half) (λx=>sS x.1) (λx v=>sS v):= .mk λ(x0,x1,_)=>
  .cal iC.c (x0,x1,()) λc1=>
  .ite (decide (c1<0)) (.grd (Nat.ble ((2*(0+x0.length)+1024)*96) aM)<|
   .ret ([]++x0))<|
  .grd ((decide (0<=c1))&&(decide (c1<=(x0.length:Int))))<|
  .grd (Nat.ble ((2*(0+((x0.take c1.toNat).drop 0).length)+1024)*96) aM)<|
  .grd (O3 x0 (IntKind.wrap .i64 (c1+1)) (x0.length:Int))<|
  .grd (Nat.ble ((2*(([]++((x0.take c1.toNat).drop 0)).length+((x0.take ((x0.length:Int).toNat)).drop ((IntKind.wrap .i64 (c1+1)).toNat)).length)+1024)*96) aM)<|
  .val (([]++((x0.take c1.toNat).drop 0))++((x0.take ((x0.length:Int).toNat)).drop ((IntKind.wrap .i64 (c1+1)).toNat))) λl2=>
  .ret l2
noncomputable def Cv:=aU st Tryz.func136 [mW] (ks:=[.sc (.sl .half),.st .tupl]) qu (λv=>[(false,[sc (.o true) .half v])])
noncomputable def yj:FF (Int×Segm×Unit) (Tupl):=⟨λ(x0,x1,_)=>
  .ret (⟨x0,x1.from_,x1.to⟩:Tupl)⟩
noncomputable def Qk:=gj ao Tryz.func138 [] (ks:=[.sc (.int .i64),.st .segm]) yj (λv=>[(true,ST v)])
noncomputable def uk:FF (Sndr×Sndr×Unit) (Bool):=⟨λ(x0,x1,_)=>
  .ite (x0.una != x1.una) (.ret false)<|
  .ite (!(x0.data==x1.data)) (.ret false)<|
  .ite (x0.sent != x1.sent) (.ret false)<|
  .ite (!(x0.fin==x1.fin)) (.ret false)<|
  .ite (!(x0.finSent==x1.finSent)) (.ret false)<|
  .ite (!(x0.done==x1.done)) (.ret false)<|
  .ret true⟩
noncomputable def NR:=gj st Tryz.func158 [] (ks:=[.st .sndr,.st .sndr]) uk rB
noncomputable def pc:FF (Opti×Opti×Unit) (Bool):=⟨λ(x0,x1,_)=>
  .ite (x0.mss != x1.mss) (.ret false)<|
  .ite (x0.scale != x1.scale) (.ret false)<|
  .ite (!(x0.sack==x1.sack)) (.ret false)<|
  .ite (!(x0.stamp==x1.stamp)) (.ret false)<|
  .ite (x0.val != x1.val) (.ret false)<|
  .ite (x0.echo != x1.echo) (.ret false)<|
  .ret true⟩
noncomputable def zJ:=gj st Tryz.func160 [] (ks:=[.st .opti,.st .opti]) pc rB
noncomputable def iJ:FX (List Tupl×Int×Unit) (Int) (λ_=>True) (cG [.sc (.sl .tupl),.sc (.int .i64)]):=⟨λ(x0,x1,_)=>
  .ite (decide ((IntKind.wrap .i64 (x1-(x0.length:Int)))<0)) (.ret (-1))<|
  .ret (IntKind.wrap .i64 (x1-(x0.length:Int))),
 λ(x0,x1,_) hp hf=>by
  simp only[cG,Pk.fact,jT,gy,Fl.fact,Ty.fl,Ty.toH]at hf
  refine Tr.F (by kernel_rfl) trivial⟩
theorem Ia (xs:List Tupl)(k:Int)(h0:0<=k)(h1:k<=1048576)(hl:xs.length<=140737488355328)(h:0<=iJ.f (xs,k,())):iJ.f (xs,k,())<=k/\xs.length<=1048576:=by
 have w:IntKind.wrap .i64 (k-(xs.length:Int))=k-(xs.length:Int):=aj (by omega) (by omega)
 simp only[FX.f,iJ,Tr.nice,w]at h|-
 by_cases c:k-(xs.length:Int)<0
 ·rw[decide_eq_true c,cond_true]at h;omega
 ·rw[decide_eq_false c,cond_false];exact⟨by omega,by omega⟩
noncomputable def Nj:=sC st Tryz.func164 [] (ks:=[.sc (.sl .tupl),.sc (.int .i64)]) iJ rI
noncomputable def be:FX (MacRow×Int×Unit) (Int) (λ_=>True) (cG [.st .macRow,.sc (.int .i64)]):=⟨λ(x0,x1,_)=>
  .ite (decide ((IntKind.wrap .i64 (x1-(x0.input.length:Int)))<0)) (.ret (-1))<|
  .ret (IntKind.wrap .i64 (x1-(x0.input.length:Int))),
 λ(x0,x1,_) hp hf=>by
  simp only[cG,Pk.fact,jT,gy,Fl.fact,Ty.fl,Ty.toH]at hf
  refine Tr.F (by kernel_rfl) trivial⟩
theorem Ut (x:MacRow)(k:Int)(h0:0<=k)(h1:k<=1048576)(hl:x.input.length<=4611686018427387904)(h:0<=be.f (x,k,())):be.f (x,k,())<=k/\x.input.length<=1048576:=by
 have w:IntKind.wrap .i64 (k-(x.input.length:Int))=k-(x.input.length:Int):=aj (by omega) (by omega)
 simp only[FX.f,be,Tr.nice,w]at h|-
 by_cases c:k-(x.input.length:Int)<0
 ·rw[decide_eq_true c,cond_true]at h;omega
 ·rw[decide_eq_false c,cond_false];exact⟨by omega,by omega⟩
noncomputable def N8:=sC st Tryz.func165 [] (ks:=[.st .macRow,.sc (.int .i64)]) be rI
noncomputable def nP:FT (Mac×Unit) (Mac) (λx=>cN x.1) (λx v=>cN v/\v=x.1):=⟨λ(x0,_)=>
  .grd (Nat.ble ((2*(0+x0.rows.length)+1024)*24) aM)<|
  .ret ({x0 with rows:=([]++x0.rows)}:Mac),
 λ(x0,_) hp=>by
  refine Tr.Gb ?_ λg0=>Tr.R ?_
  all_goals ((first|grind|(refine⟨by grind, ?_⟩;first|(simp only[List.nil_append];done)|(subst_vars;rfl)|simp_all)))⟩
noncomputable def EE:=aU st Tryz.func170 [] (ks:=[.st .mac]) nP (λv=>[(true,Qv (.o true) v)])
noncomputable def Bl:FF (Half×Unit) (Half):=⟨λ(x0,_)=>
  .val (qc.f (x0.tuple,())) λc1=>
  .val (oJ.f (x0.opts,())) λc2=>
  .ret (⟨c1,x0.iss,x0.irs,c2,x0.age,x0.window⟩:Half)⟩
noncomputable def TF:=gj ao Tryz.func171 [wX,zS] (ks:=[.st .half]) Bl (λv=>[(true,abn v)])
def vO:Sh:=⟨[zl 0 .tupl,zo 3 0,zi 4],[za .tupl]⟩
noncomputable def ve (v0:List Tupl)(v1:Int)(a:List Tupl):Tr (Stp (List Tupl) (Empty)):=
 .grd (ba v0 v1)<|
 .val (qc.f ((v0.getD v1.toNat (Ty.zero .tupl)),())) λc1=>
 .grd (ba a v1)<|
 .ret (.next (a.set v1.toNat c1))
noncomputable def iM:vO.V->wa vO (List Tupl):=λ(v0,v1,v2,_)=>⟨v1,v2,λv1 a=>(v0,v1,a,()),λv1 _=>(decide (v1<(v0.length:Int))),ve v0,up,1,(Int.toNat ((v0.length:Int)-v1)),Empty.elim,Prod.mk,oN (.exit 0) ⟨[zu 2,zo 3 0],[za .tupl]⟩ (λx=>(x.2,()))⟩
theorem E7 {v0 v2:List Tupl}{v1:Int}(h0:0<=v1)(h1:(v0.length:Int)<=4611686018427387904)(h2:sS v0)(h3:sS v2)(h4:v2.length=v2.length/\(v0.length:Int)<=(v2.length:Int)):(iM (v0,v1,v2,())).U (v0.length:Int) (λv1 a=>a.length=v2.length/\(v0.length:Int)<=(a.length:Int)) (λ_=>True):=
 kx (a:=v2) h0 h1 h4
noncomputable def uI:FT (List Tupl×Unit) (List Tupl) (λx=>sS x.1) (λx v=>sS v):=⟨λ(x0,_)=>
  .grd ((((decide (0<=(x0.length:Int)))&&(decide ((x0.length:Int)=(x0.length:Int))))&&(decide ((x0.length:Int)*24<=(aM:Int))))&&(decide ((x0.length:Int)<=(aM:Int))))<|
  .lp (iM (x0,0,(List.replicate ((x0.length:Int).toNat) (⟨0,0,0⟩:Tupl)),())).lp λ(_,a2_0)=>
  .ret a2_0,
 λ(x0,_) hp=>by
  refine Tr.G4 ?_ λ_=>Tr.L (E7 ?_ ?_ ?_ ?_ ?_) (λa2_0 _=>Tr.R ?_) (λp=>Empty.elim p)
  all_goals ((try simp only[iM,LC.lp,LC.ct,Ct.lp]at*)<;>grind)⟩
noncomputable def Oo:=dr ao Tryz.func173 [(0,lb [0,3,4] [2,3])] [wX] 0 iM (ks:=[.sc (.sl .tupl)]) uI (λv=>[(false,[sc (.o true) .tupl v])])
noncomputable def A8:FT (MacRow×Unit) (MacRow) (λx=>aE x.1) (λx v=>aE v):= .mk λ(x0,_)=>
  .ret x0
noncomputable def NI:=aU ao Tryz.func174 [] (ks:=[.st .macRow]) A8 (λv=>[(true,Y3 v)])
noncomputable def dU:FT (List Half×Unit) (List Half) (λx=>sS x.1) (λx v=>v=x.1):=⟨λx=> .ret x.1,λ_ _=>Tr.R rfl⟩
theorem IO (x:List Half×Unit)(hp:sS x.1):Ke Tryz.prog 176 (Gw [.sc (.sl .half)] x) ((λv=>[rv (.sc (.sl .half)) [.o true] v]) (dU.f x)):=by
 refine Ke.byNil (t:= .half) (xs:=x.1) (λh=> ?_) ?_
 ·obtain⟨x,_⟩:=x;subst h
  exact Zx st Tryz.func176 (by kernel_rfl) (by kernel_rfl)
 ·exact Zx st Tryz.func176 (by kernel_rfl) (Eq.trans (b:=bif Nat.ble ((2*(0+x.1.length)+1024)*96) aM then some ((λv=>[rv (.sc (.sl .half)) [.o true] v]) x.1)else none) (by kernel_rfl) (by rw[show Nat.ble ((2*(0+x.1.length)+1024)*96) aM=true by simp only[Nat.ble_eq,aM];simp only[sS]at hp;omega];rfl))
noncomputable def rk:Ent1 Tryz.prog:=Za 176 (ks:=[.sc (.sl .half)]) dU.c (λv=>[rv (.sc (.sl .half)) [.o true] v]) IO
noncomputable def Bj:FF (Half×Half×Unit) (Bool):=⟨λ(x0,x1,_)=>
  .val (qd.f (x0.tuple,x1.tuple,())) λc1=>
  .ite (!c1) (.ret false)<|
  .ite (x0.iss != x1.iss) (.ret false)<|
  .ite (x0.irs != x1.irs) (.ret false)<|
  .val (pc.f (x0.opts,x1.opts,())) λc2=>
  .ite (!c2) (.ret false)<|
  .ite (x0.age != x1.age) (.ret false)<|
  .ite (x0.window != x1.window) (.ret false)<|
  .ret true⟩
noncomputable def TX:=gj st Tryz.func181 [wW,zJ] (ks:=[.st .half,.st .half]) Bj rB
def vD:Sh:=⟨[zl 0 .tupl,zl 1 .tupl,zi 5],[]⟩
noncomputable def vy (v0 v1:List Tupl)(v2:Int)(a:Unit):Tr (Stp (Unit) ((Unit))):=
 .grd (ba v0 v2)<|
 .grd (ba v1 v2)<|
 .val (qd.f ((v0.getD v2.toNat (Ty.zero .tupl)),(v1.getD v2.toNat (Ty.zero .tupl)),())) λc1=>
 .ite (!c1) (.ret (.out ()))<|
 .ret (.next ())
noncomputable def k9:vD.V->nL vD Unit (Unit):=λ(v0,v1,v2,_)=>⟨v2,(),λv2 _=>(v0,v1,v2,()),λv2 _=>(decide (v2<(v0.length:Int))),vy v0 v1,up,1,(Int.toNat ((v0.length:Int)-v2)),.inl,eR,oB .ret ⟨[zb 4],[]⟩ (λ_=>(false,())) (.exit 0) ⟨[zu 4],[]⟩ (λ_=>())⟩
theorem FU {v0 v1:List Tupl}{v2:Int}(h0:0<=v2)(h1:(v0.length:Int)<=4611686018427387904)(h2:(v0.length:Int)<=(v1.length:Int)):(k9 (v0,v1,v2,())).U (v0.length:Int) (λ_ _=>True) (λ_=>True):=
 kx h0 h1 trivial
noncomputable def ue:FT (List Tupl×List Tupl×Unit) (Bool) (λx=>sS x.1/\sS x.2.1) (λ_ _=>True):= .mk (λ(x0,x1,_)=>
  .ite ((x0.length:Int) != (x1.length:Int)) (.ret false)<|
  .lp (k9 (x0,x1,0,())).lp λw2=> .sum w2 (λ_=>
  .ret false)<|
  λ_=>
  .ret true) (np @FU)
noncomputable def M9:=dr st Tryz.func183 [(0,lb [0,1,5] [4])] [wW] 0 k9 (ks:=[.sc (.sl .tupl),.sc (.sl .tupl)]) ue rB
noncomputable def vc:FF (MacRow×MacRow×Unit) (Bool):=⟨λ(x0,x1,_)=>
  .ite (!(x0.input==x1.input)) (.ret false)<|
  .ite (x0.value != x1.value) (.ret false)<|
  .ret true⟩
noncomputable def Nt:=gj st Tryz.func184 [] (ks:=[.st .macRow,.st .macRow]) vc rB
noncomputable def wT:List (Ent1 Tryz.prog):=[]
def jh:Sh:=⟨[zo 0 0,zi 1,zi 5],[.arr .tupl false false]⟩
noncomputable def wY:Fx:=⟨186,Tryz.f186,[(0,la ⟨[0,1,5],[],false,1⟩ ⟨[1,4],[],false,1⟩)],1⟩
noncomputable def jp (v1:Int)(a:Int×List Tupl):Tr (Stp (Int×List Tupl) (Empty)):=
 .grd (ba a.2 v1)<|
 .grd ((decide (0<=v1))&&(decide (v1<((a.2.set v1.toNat ({(a.2.getD v1.toNat (Ty.zero .tupl))with ip:=a.1}:Tupl)).length:Int))))<|
 .val ((a.2.set v1.toNat ({(a.2.getD v1.toNat (Ty.zero .tupl))with ip:=a.1}:Tupl)).set v1.toNat ({((a.2.set v1.toNat ({(a.2.getD v1.toNat (Ty.zero .tupl))with ip:=a.1}:Tupl)).getD v1.toNat (Ty.zero .tupl))with port:=(IntKind.wrap .i64 (a.1+1))}:Tupl)) λl1=>
 .grd (ba l1 v1)<|
 .val (l1.set v1.toNat ({(l1.getD v1.toNat (Ty.zero .tupl))with my:=(IntKind.wrap .i64 ((IntKind.wrap .i64 (a.1+1))+1))}:Tupl)) λl2=>
 .val (IntKind.wrap .i64 ((IntKind.wrap .i64 ((IntKind.wrap .i64 (a.1+1))+1))+1)) λe3=>
 .ret (.next (e3,l2))
noncomputable def bE:jh.V->wa jh (Int×List Tupl):=λ(v0,v1,v2,_)=>⟨v1,(v0,v2),λv1 a=>(a.1,v1,a.2,()),λv1 a=>(decide (v1<(a.2.length:Int))),jp,up,1,(Int.toNat ((v2.length:Int)-v1)),Empty.elim,Prod.mk,oN (.exit 0) ⟨[zi 1,zu 4],[.arr .tupl false false]⟩ (λx=>(x.2.1,x.2.2,()))⟩
theorem Bn:LS Tryz.prog wY [0] (kD 0 jh bE):=fa st (aW wT) _ bE [] trivial
theorem CK {v0 v1:Int}{v2:List Tupl}(h0:0<=v1)(h1:(v2.length:Int)<=4611686018427387904)(h2:sS v2)(h3:v2.length=v2.length/\v0<=9223372036854775807):(bE (v0,v1,v2,())).S (λv1 a=>a.2.length=v2.length/\a.2.length=v2.length/\a.1<=9223372036854775807) (λ_=>True):=by
 refine LC.okS ⟨rfl,h3⟩ (λj a hj hv=>⟨⟨?_, ?_⟩, ?_⟩) (λa hv=> ?_)
 ·simp only[bE,decide_eq_true_eq]at*;omega
 ·simp only[bE]at*;exact upw (by omega) (by omega)
 ·refine Tr.G2 ?_ λ_=>Tr.G2 ?_ λ_=>Tr.V λ_ _=>Tr.G2 ?_ λ_=>Tr.V λ_ _=>Tr.V λ_ _=>Tr.Rn ?_
  all_goals (try simp only[bE]at*)<;>(grind)
 ·simp only[bE,decide_eq_false_iff_not]at*;omega
noncomputable def pZ:FT (List Tupl×Int×Unit) (Int×List Tupl) (λx=>sS x.1/\x.2.1<=9223372036854775807) (λx v=>sS v.2/\v.1<=9223372036854775807):=⟨λ(x0,x1,_)=>
  .lp (bE (x1,0,x0,())).lp λ(_,a4_0,a4_1)=>
  .ret (a4_0,a4_1),
 λ(x0,x1,_) hp=>by
  refine Tr.L (CK ?_ ?_ ?_ ?_) (λ(a4_0,a4_1) _=>Tr.R ?_) (λp=>Empty.elim p)
  all_goals ((try simp only[bE,LC.lp,LC.ct,Ct.lp]at*)<;>grind)⟩
noncomputable def IE:=oV st wY wT [(kD 0 jh bE)] [.wr false [.own 0],.sc (.int .i64)] [.arr .tupl] (λx y=>(y.1,x.2.1,())) pZ (λv=>[(false,[.c (.int .i64 v.1)])]) (λx y v=>(v.2,())) Tryz.func186 (by kernel_rfl) ⟨Bn,trivial⟩
def sE:Sh:=⟨[zl 0 .tupl,zi 1,zi 5],[]⟩
noncomputable def jb (v0:List Tupl)(v2:Int)(a:Int):Tr (Stp (Int) ((Int))):=
 .grd (ba v0 v2)<|
 .ite ((v0.getD v2.toNat (Ty.zero .tupl)).ip != a) (.ret (.out a))<|
 .grd (ba v0 v2)<|
 .ite ((v0.getD v2.toNat (Ty.zero .tupl)).port != (IntKind.wrap .i64 (a+1))) (.ret (.out (IntKind.wrap .i64 (a+1))))<|
 .grd (ba v0 v2)<|
 .ite ((v0.getD v2.toNat (Ty.zero .tupl)).my != (IntKind.wrap .i64 ((IntKind.wrap .i64 (a+1))+1))) (.ret (.out (IntKind.wrap .i64 ((IntKind.wrap .i64 (a+1))+1))))<|
 .val (IntKind.wrap .i64 ((IntKind.wrap .i64 ((IntKind.wrap .i64 (a+1))+1))+1)) λe1=>
 .ret (.next e1)
noncomputable def je:sE.V->nL sE Int (Int):=λ(v0,v1,v2,_)=>⟨v2,v1,λv2 a=>(v0,a,v2,()),λv2 _=>(decide (v2<(v0.length:Int))),jb v0,up,1,(Int.toNat ((v0.length:Int)-v2)),.inl,eR,oB .ret ⟨[zi 1,zi 4],[]⟩ (λp=>(p,(-1),())) (.exit 0) ⟨[zi 1,zu 4],[]⟩ (λx=>(x.2,()))⟩
theorem CB {v0:List Tupl}{v1 v2:Int}(h0:0<=v2)(h1:(v0.length:Int)<=4611686018427387904)(h2:v1<=9223372036854775807):(je (v0,v1,v2,())).U (v0.length:Int) (λv2 a=>a<=9223372036854775807) (λ_=>True):=
 kx (a:=v1) h0 h1 h2
noncomputable def pJ:FT (List Tupl×Int×Unit) (Int) (λx=>sS x.1/\x.2.1<=9223372036854775807) (λx v=>v<=9223372036854775807):= .mk (λ(x0,x1,_)=>
  .lp (je (x0,x1,0,())).lp λw2=> .sum w2 (λ_=>
  .ret (-1))<|
  λ(_,a2_0)=>
  .ret a2_0) (np @CB)
noncomputable def Jy:=dr st Tryz.func189 [(0,lb [0,1,5] [1,4])] [] 0 je (ks:=[.sc (.sl .tupl),.sc (.int .i64)]) pJ rI
noncomputable def lq:FX (List Entr×Int×Unit) (Int) (λ_=>True) (cG [.sc (.sl .entr),.sc (.int .i64)]):=⟨λ(x0,x1,_)=>
  .ite (decide ((IntKind.wrap .i64 (x1-(x0.length:Int)))<0)) (.ret (-1))<|
  .ret (IntKind.wrap .i64 (x1-(x0.length:Int))),
 λ(x0,x1,_) hp hf=>by
  simp only[cG,Pk.fact,jT,gy,Fl.fact,Ty.fl,Ty.toH]at hf
  refine Tr.F (by kernel_rfl) trivial⟩
theorem SN (xs:List Entr)(k:Int)(h0:0<=k)(h1:k<=1048576)(hl:xs.length<=140737488355328)(h:0<=lq.f (xs,k,())):lq.f (xs,k,())<=k/\xs.length<=1048576:=by
 have w:IntKind.wrap .i64 (k-(xs.length:Int))=k-(xs.length:Int):=aj (by omega) (by omega)
 simp only[FX.f,lq,Tr.nice,w]at h|-
 by_cases c:k-(xs.length:Int)<0
 ·rw[decide_eq_true c,cond_true]at h;omega
 ·rw[decide_eq_false c,cond_false];exact⟨by omega,by omega⟩
noncomputable def N6:=sC st Tryz.func190 [] (ks:=[.sc (.sl .entr),.sc (.int .i64)]) lq rI
noncomputable def cS:FF (Int×Unit) (Int):=⟨λ(x0,_)=>
  .ite (decide ((x0.tmod 4294967296)<0)) (.ret (IntKind.wrap .i64 ((x0.tmod 4294967296)+4294967296)))<|
  .ret (x0.tmod 4294967296)⟩
@[grind=] theorem aay (x0:Int):cS.f (x0,())=(x0%4294967296):=by
 simp only[cS,FF.f,Tr.nice]
 rcases Int.lt_or_le x0 0 with h|h
 ·rw[(gF 4294967296).2 h,cO]
  cases hd:decide (-(-x0%4294967296)<0)with
  |true=>simp only[decide_eq_true_eq]at hd;simp only[cond_true];omega
  |false=>simp only[decide_eq_false_iff_not]at hd;simp only[cond_false];omega
 ·rw[(gF 4294967296).1 h,cO]
  cases hd:decide (x0%4294967296<0)with
  |true=>simp only[decide_eq_true_eq]at hd;omega
  |false=>rfl
noncomputable def nD:=gj st Tryz.func193 [] (ks:=[.sc (.int .i64)]) cS rI
noncomputable def xq:List (Ent1 Tryz.prog):=[]
def jo:Sh:=⟨[zo 0 0,zi 1,zi 5],[.arr .entr false false]⟩
noncomputable def wj:Fx:=⟨198,Tryz.f198,[(0,la ⟨[0,1,5],[],false,1⟩ ⟨[1,4],[],false,1⟩)],1⟩
noncomputable def jg (v1:Int)(a:Int×List Entr):Tr (Stp (Int×List Entr) (Empty)):=
 .grd (ba a.2 v1)<|
 .grd ((decide (0<=v1))&&(decide (v1<((a.2.set v1.toNat ({(a.2.getD v1.toNat (Ty.zero .entr))with ip:=a.1}:Entr)).length:Int))))<|
 .val ((a.2.set v1.toNat ({(a.2.getD v1.toNat (Ty.zero .entr))with ip:=a.1}:Entr)).set v1.toNat ({((a.2.set v1.toNat ({(a.2.getD v1.toNat (Ty.zero .entr))with ip:=a.1}:Entr)).getD v1.toNat (Ty.zero .entr))with hw:=(IntKind.wrap .i64 (a.1+1))}:Entr)) λl1=>
 .grd (ba l1 v1)<|
 .val (l1.set v1.toNat ({(l1.getD v1.toNat (Ty.zero .entr))with age:=(IntKind.wrap .i64 ((IntKind.wrap .i64 (a.1+1))+1))}:Entr)) λl2=>
 .val (IntKind.wrap .i64 ((IntKind.wrap .i64 ((IntKind.wrap .i64 (a.1+1))+1))+1)) λe3=>
 .ret (.next (e3,l2))
noncomputable def bC:jo.V->wa jo (Int×List Entr):=λ(v0,v1,v2,_)=>⟨v1,(v0,v2),λv1 a=>(a.1,v1,a.2,()),λv1 a=>(decide (v1<(a.2.length:Int))),jg,up,1,(Int.toNat ((v2.length:Int)-v1)),Empty.elim,Prod.mk,oN (.exit 0) ⟨[zi 1,zu 4],[.arr .entr false false]⟩ (λx=>(x.2.1,x.2.2,()))⟩
theorem Ch:LS Tryz.prog wj [0] (kD 0 jo bC):=fa st (aW xq) _ bC [] trivial
theorem Co {v0 v1:Int}{v2:List Entr}(h0:0<=v1)(h1:(v2.length:Int)<=4611686018427387904)(h2:sS v2)(h3:v2.length=v2.length/\v0<=9223372036854775807):(bC (v0,v1,v2,())).S (λv1 a=>a.2.length=v2.length/\a.2.length=v2.length/\a.1<=9223372036854775807) (λ_=>True):=by
 refine LC.okS ⟨rfl,h3⟩ (λj a hj hv=>⟨⟨?_, ?_⟩, ?_⟩) (λa hv=> ?_)
 ·simp only[bC,decide_eq_true_eq]at*;omega
 ·simp only[bC]at*;exact upw (by omega) (by omega)
 ·refine Tr.G2 ?_ λ_=>Tr.G2 ?_ λ_=>Tr.V λ_ _=>Tr.G2 ?_ λ_=>Tr.V λ_ _=>Tr.V λ_ _=>Tr.Rn ?_
  all_goals (try simp only[bC]at*)<;>(grind)
 ·simp only[bC,decide_eq_false_iff_not]at*;omega
noncomputable def pN:FT (List Entr×Int×Unit) (Int×List Entr) (λx=>sS x.1/\x.2.1<=9223372036854775807) (λx v=>sS v.2/\v.1<=9223372036854775807):=⟨λ(x0,x1,_)=>
  .lp (bC (x1,0,x0,())).lp λ(_,a4_0,a4_1)=>
  .ret (a4_0,a4_1),
 λ(x0,x1,_) hp=>by
  refine Tr.L (Co ?_ ?_ ?_ ?_) (λ(a4_0,a4_1) _=>Tr.R ?_) (λp=>Empty.elim p)
  all_goals ((try simp only[bC,LC.lp,LC.ct,Ct.lp]at*)<;>grind)⟩
noncomputable def I3:=oV st wj xq [(kD 0 jo bC)] [.wr false [.own 0],.sc (.int .i64)] [.arr .entr] (λx y=>(y.1,x.2.1,())) pN (λv=>[(false,[.c (.int .i64 v.1)])]) (λx y v=>(v.2,())) Tryz.func198 (by kernel_rfl) ⟨Ch,trivial⟩
noncomputable def ck:FF (Unit) (Opti):=⟨λ_=>
  .ret (⟨0,(-1),false,false,0,0⟩:Opti)⟩
noncomputable def iZ:=gj st Tryz.func203 [] (ks:=[]) ck (λv=>[(true,pg v)])
noncomputable def a9:FF (Int×Int×Int×Unit) (Bool):=⟨λ(x0,x1,x2,_)=>
  .ite (decide (x1<=x0)) (.ret (decide (x0<=x2)))<|
  .ret false⟩
@[grind=] theorem ar (x0 x1 x2:Int):a9.f (x0,x1,x2,())=(decide (x1<=x0)&&decide (x0<=x2)):=by
 simp only[a9,FF.f,Tr.nice]
 cases decide (x1<=x0)<;>rfl
noncomputable def bu:=gj ao Tryz.func206 [] (ks:=[.sc (.int .i64),.sc (.int .i64),.sc (.int .i64)]) a9 rB
noncomputable def bH:FF (Unit) (Opti):=⟨λ_=>
  .ret (⟨0,(-1),false,false,0,0⟩:Opti)⟩
noncomputable def ja:=gj ao Tryz.func216 [] (ks:=[]) bH (λv=>[(true,pg v)])
noncomputable def fM:FF (Int×Int×Unit) (Int):=⟨λ(x0,x1,_)=>
  .ite (decide (x1<x0)) (.ret x0)<|
  .ret x1⟩
@[grind=] theorem rq (x0 x1:Int):fM.f (x0,x1,())=(if x1<x0 then x0 else x1):=by
 simp only[fM,FF.f,Tr.nice]
 by_cases h:x1<x0<;>simp[h]
noncomputable def qj:=gj st Tryz.func222 [] (ks:=[.sc (.int .i64),.sc (.int .i64)]) fM rI
noncomputable def om:FT (Int×Unit) (Recv) (λ_=>True) (λx v=>ax v/\v.held.length<=3):= .mk λ(x0,_)=>
  .val (cS.f (x0,())) λc1=>
  .ret (⟨c1,[],[],(-1),false⟩:Recv)
noncomputable def Fy:=aU st Tryz.func223 [nD] (ks:=[.sc (.int .i64)]) om (λv=>[(true,Ah (.o true) v)])
noncomputable def MI:=[EE]
noncomputable def MM:Fx:=⟨225,Tryz.f225,[(3000003,rA 0 14)],0⟩
noncomputable def ub:FT (Keys×Int×Unit) (Mac×Bool) (λx=>dM x.1) (λx v=>cN v.1):= .mk λ(x0,x1,_)=>
  .ite (x1==x0.epoch) (.cal nP.c (x0.now,()) λc1=>
   .ret (c1,true))<|
  .bnd (β:=Bool×Unit) (.ite x0.two (.ret ((x1==(IntKind.wrap .i64 (x0.epoch-1))),()))<|
   .ret (false,())) λ(u2a0,_)=>
  .ite u2a0 (.cal nP.c (x0.before,()) λc3=>
   .ret (c3,true))<|
  .ret ((⟨false,0,0,[]⟩:Mac),false)
noncomputable def OY:=cI st MM MI [] (ks:=[.st .keys,.sc (.int .i64)]) ub (λv=>[(true,Qv (.o true) v.1),(false,[.c (.bool v.2)])]) Tryz.func225 trivial
noncomputable def wC:FT (Int×Opti×Unit) (Int) (λ_=>True) (λ_ _=>True):= .mk λ(x0,x1,_)=>
  .grd (decide (0<=(if x1.scale<0 then 0 else x1.scale)))<|
  .val (IntKind.wrap .i64 (x0*2 ^ (min (if x1.scale<0 then 0 else x1.scale).toNat 64))) λe1=>
  .ret (if 1073725440<e1 then 1073725440 else e1)
noncomputable def He:=aU ao Tryz.func230 [] (ks:=[.sc (.int .i64),.st .opti]) wC rI
noncomputable def i5:FT (Int×Unit) (Recv) (λ_=>True) (λx v=>ax v):= .mk λ(x0,_)=>
  .val (cM.f (x0,0,())) λc1=>
  .ret (⟨c1,[],[],(-1),false⟩:Recv)
noncomputable def Fq:=aU ao Tryz.func231 [ik] (ks:=[.sc (.int .i64)]) i5 (λv=>[(true,Ah (.o true) v)])
noncomputable def fE:FT (Int×Unit) (Int) (λ_=>True) (λ_ _=>True):= .mk λ(x0,_)=>
  .val (a9.f (x0,0,7,())) λc1=>
  .ite (!c1) (.ret 0)<|
  .grd ((decide (0<=x0))&&(decide (x0<8)))<|
  .ret ([64,256,536,1024,1300,1400,1440,1460].getD x0.toNat 0)
noncomputable def Lt:=aU ao Tryz.func235 [bu] (ks:=[.sc (.int .i64)]) fE rI
noncomputable def aK:FT (Segm×Unit) (Int) (λx=>aw x.1) (λx v=>0<=v/\v<=x.1.body.length+2):= .mk λ(x0,_)=>
  .val (bm.f (x0,2,())) λc1=>
  .ite c1 (.val (bm.f (x0,1,())) λc2=>
   .ite c2 (.val (IntKind.wrap .i64 ((IntKind.wrap .i64 ((x0.body.length:Int)+1))+1)) λe3=>
    .ret e3)<|
   .ret (IntKind.wrap .i64 ((x0.body.length:Int)+1)))<|
  .val (bm.f (x0,1,())) λc4=>
  .ite c4 (.ret (IntKind.wrap .i64 ((x0.body.length:Int)+1)))<|
  .ret (x0.body.length:Int)
noncomputable def rj:=aU ao Tryz.func241 [yo] (ks:=[.st .segm]) aK rI
noncomputable def sR:FT (List Half×Int×Int×Unit) (Nat×List Half) (λx=>sS x.1/\0<=x.2.1/\x.2.1<=x.2.2.1/\x.2.2.1<=x.1.length) (λx v=>sS v.2/\v.1<=x.1.length/\v.2.length=x.1.length):=⟨λ(x0,x1,x2,_)=>
  .grd ((((decide (0<=x1))&&(decide (x1<=x2)))&&(decide (x2<=(x0.length:Int))))&&(decide ((x0.length:Int)<=(x0.length:Int))))<|
  .ite (x1==x2) (.ret (x0.length,x0))<|
  .grd ((decide (0<=x1))&&(decide (x1<=(x0.length:Int))))<|
  .grd (O3 x0 x2 (x0.length:Int))<|
  .grd (((Nat.ble x1.toNat x2.toNat)&&(Nat.beq ((x0.length:Int).toNat) x0.length))&&true)<|
  .val (((((x0.take x1.toNat++x0.drop x2.toNat)++x0.drop (x1.toNat+(x0.length-x2.toNat))).take (x1.toNat+(x0.length-x2.toNat))).drop 0).length:Int) λe1=>
  .grd (O3 ((x0.take x1.toNat++x0.drop x2.toNat)++x0.drop (x1.toNat+(x0.length-x2.toNat))) e1 (x0.length:Int))<|
  .val ((((x0.take x1.toNat++x0.drop x2.toNat)++x0.drop (x1.toNat+(x0.length-x2.toNat))).take e1.toNat++List.replicate ((x0.length:Int).toNat-e1.toNat) (Ty.zero .half))++((x0.take x1.toNat++x0.drop x2.toNat)++x0.drop (x1.toNat+(x0.length-x2.toNat))).drop ((x0.length:Int).toNat)) λl2=>
  .ret ((x1.toNat+(x0.length-x2.toNat)),l2),
 λ(x0,x1,x2,_) hp=>by
  refine Tr.G4 ?_ λg0=>Tr.I (λb1=>Tr.R ?_) λb1=>Tr.G2 ?_ λg2=>Tr.G3 ?_ λg3=>Tr.G ?_ λg4=>Tr.V λe1 he1=>Tr.G3 ?_ λg5=>Tr.V λl2 hl2=>Tr.R ?_
  all_goals ((first|grind|(simp only[Bool.and_eq_true,and_true,List.length_set,Nat.ble_eq,Nat.beq_eq,decide_eq_true_eq,List.length_append,List.length_take,List.length_drop,List.drop_zero,List.length_replicate,sS]at*;omega)))⟩
noncomputable def FN:=oV st ⟨242,Tryz.f242,[],1⟩ [] [] [.wr false [.own 0],.sc (.int .i64),.sc (.int .i64)] [.arr .half] (λx y=>(y.1,x.2.1,x.2.2.1,())) sR (λv=>[(false,[.shr 0 v.1])]) (λx y v=>(v.2,())) Tryz.func242 (by kernel_rfl) trivial
noncomputable def cm:FF (Int×Int×Int×Unit) (Bool):=⟨λ(x0,x1,x2,_)=>
  .ite (decide (x1<=x0)) (.ret (decide (x0<=x2)))<|
  .ret false⟩
@[grind=] theorem bx (x0 x1 x2:Int):cm.f (x0,x1,x2,())=(decide (x1<=x0)&&decide (x0<=x2)):=by
 simp only[cm,FF.f,Tr.nice]
 cases decide (x1<=x0)<;>rfl
noncomputable def cu:=gj st Tryz.func244 [] (ks:=[.sc (.int .i64),.sc (.int .i64),.sc (.int .i64)]) cm rB
noncomputable def ql:FT (Link×Unit) (Link) (λx=>eA x.1) (λx v=>eA v):= .mk λ(x0,_)=>
  .grd (Nat.ble ((2*(0+x0.cache.length)+1024)*24) aM)<|
  .ret ({x0 with cache:=([]++x0.cache)}:Link)
noncomputable def Et:=aU st Tryz.func245 [] (ks:=[.st .link]) ql (λv=>[(true,DQ (.o true) v)])
noncomputable def GA:FF (Fram×Int×Unit) (Bool):=⟨λ(x0,x1,_)=>
  .ite (x0.dst==x1) (.ret true)<|
  .ret (x0.dst==281474976710655)⟩
noncomputable def Wn:=gj st Tryz.func247 [] (ks:=[.st .fram,.sc (.int .i64)]) GA rB
def xY:Sh:=⟨[zs 0,zi 1,zi 2,zi 8,zi 9],[]⟩
noncomputable def qm (v0:ac)(v1:Int)(v4:Int)(a:Int):Tr (Stp (Int) (Empty)):=
 .grd (ba v0 (IntKind.wrap .i64 (v1+v4)))<|
 .val (IntKind.wrap .i64 ((IntKind.wrap .i64 (256*a))+(IntKind.wrap .i64 (af v0 ((IntKind.wrap .i64 (v1+v4)).toNat))))) λe4=>
 .ret (.next e4)
noncomputable def mN:xY.V->wa xY Int:=λ(v0,v1,v2,v3,v4,_)=>⟨v4,v3,λv4 a=>(v0,v1,v2,a,v4,()),λv4 _=>(decide (v4<v2)),qm v0 v1,up,1,(Int.toNat (v2-v4)),Empty.elim,Prod.mk,oN (.exit 0) ⟨[zu 6,zu 7,zi 8],[]⟩ (λx=>(x.2,()))⟩
theorem Hm {v0:ac}{v1 v2 v3 v4:Int}(h0:0<=v4)(h1:v2<=4611686018427387904)(h2:0<=v1)(h3:v1+v2<=(v0.length:Int))(h4:sS v0):(mN (v0,v1,v2,v3,v4,())).U v2 (λ_ _=>True) (λ_=>True):=
 kx (a:=v3) h0 h1 trivial
noncomputable def bv:FT (ac×Int×Int×Unit) (Int×Bool) (λx=>sS x.1) (λ_ _=>True):= .mk (λ(x0,x1,x2,_)=>
  .bnd (β:=Bool×Unit) (.val (cm.f (x2,1,6,())) λc1=>
   .ite (!c1) (.ret (true,()))<|
   .val (cm.f (x1,0,(IntKind.wrap .i64 ((x0.length:Int)-x2)),())) λc2=>
   .ret ((!c2),())) λ(u3a0,_)=>
  .ite u3a0 (.ret (0,false))<|
  .lp (mN (x0,x1,x2,0,0,())).lp λ(_,a5_0)=>
  .ret (a5_0,true)) (np @Hm)
noncomputable def oZ:=dr st Tryz.func253 [(0,lb [0,1,2,8,9] [6,7,8]),(3000001,rA 0 21)] [cu] 0 mN (ks:=[.sc .str,.sc (.int .i64),.sc (.int .i64)]) bv (λv=>[(false,[.c (.int .i64 v.1)]),(false,[.c (.bool v.2)])])
noncomputable def ss:FF (Fram×Int×Unit) (Bool):=⟨λ(x0,x1,_)=>
  .ite (x0.dst==x1) (.ret true)<|
  .ret (x0.dst==281474976710655)⟩
noncomputable def XK:=gj ao Tryz.func258 [] (ks:=[.st .fram,.sc (.int .i64)]) ss rB
def sB:Sh:=⟨[zl 0 .entr,zi 1,zi 5],[]⟩
noncomputable def jl (v0:List Entr)(v2:Int)(a:Int):Tr (Stp (Int) ((Int))):=
 .grd (ba v0 v2)<|
 .ite ((v0.getD v2.toNat (Ty.zero .entr)).ip != a) (.ret (.out a))<|
 .grd (ba v0 v2)<|
 .ite ((v0.getD v2.toNat (Ty.zero .entr)).hw != (IntKind.wrap .i64 (a+1))) (.ret (.out (IntKind.wrap .i64 (a+1))))<|
 .grd (ba v0 v2)<|
 .ite ((v0.getD v2.toNat (Ty.zero .entr)).age != (IntKind.wrap .i64 ((IntKind.wrap .i64 (a+1))+1))) (.ret (.out (IntKind.wrap .i64 ((IntKind.wrap .i64 (a+1))+1))))<|
 .val (IntKind.wrap .i64 ((IntKind.wrap .i64 ((IntKind.wrap .i64 (a+1))+1))+1)) λe1=>
 .ret (.next e1)
noncomputable def jf:sB.V->nL sB Int (Int):=λ(v0,v1,v2,_)=>⟨v2,v1,λv2 a=>(v0,a,v2,()),λv2 _=>(decide (v2<(v0.length:Int))),jl v0,up,1,(Int.toNat ((v0.length:Int)-v2)),.inl,eR,oB .ret ⟨[zi 1,zi 4],[]⟩ (λp=>(p,(-1),())) (.exit 0) ⟨[zi 1,zu 4],[]⟩ (λx=>(x.2,()))⟩
theorem C2 {v0:List Entr}{v1 v2:Int}(h0:0<=v2)(h1:(v0.length:Int)<=4611686018427387904)(h2:v1<=9223372036854775807):(jf (v0,v1,v2,())).U (v0.length:Int) (λv2 a=>a<=9223372036854775807) (λ_=>True):=
 kx (a:=v1) h0 h1 h2
noncomputable def qa:FT (List Entr×Int×Unit) (Int) (λx=>sS x.1/\x.2.1<=9223372036854775807) (λx v=>v<=9223372036854775807):= .mk (λ(x0,x1,_)=>
  .lp (jf (x0,x1,0,())).lp λw2=> .sum w2 (λ_=>
  .ret (-1))<|
  λ(_,a2_0)=>
  .ret a2_0) (np @C2)
noncomputable def Jq:=dr st Tryz.func270 [(0,lb [0,1,5] [1,4])] [] 0 jf (ks:=[.sc (.sl .entr),.sc (.int .i64)]) qa rI
noncomputable def dT:FT (Recv×Unit) (Recv) (λx=>ax x.1) (λx v=>ax v/\v=x.1):=⟨λ(x0,_)=>
  .grd (Nat.ble ((2*(0+x0.held.length)+1024)*24) aM)<|
  .ret ({x0 with held:=([]++x0.held)}:Recv),
 λ(x0,_) hp=>by
  refine Tr.Gb ?_ λg0=>Tr.R ?_
  all_goals ((first|grind|(refine⟨by grind, ?_⟩;first|(simp only[List.nil_append];done)|(subst_vars;rfl)|simp_all)))⟩
noncomputable def ES:=aU st Tryz.func271 [] (ks:=[.st .recv]) dT (λv=>[(true,Ah (.o true) v)])
noncomputable def xM:=[fP]
def jc:Sh:=⟨[zo 0 0,zi 1,zi 5],[.arr .piec false false]⟩
noncomputable def wE:Fx:=⟨274,Tryz.f274,[(0,la ⟨[0,1,5],[],false,1⟩ ⟨[1,4],[],false,1⟩)],1⟩
noncomputable def jt (v1:Int)(a:Int×List Piec):Tr (Stp (Int×List Piec) (Empty)):=
 .grd (ba a.2 v1)<|
 .cal bK.c ((IntKind.wrap .i64 (a.1+1)),()) λc1=>
 .grd ((decide (0<=v1))&&(decide (v1<((a.2.set v1.toNat (⟨a.1,(a.2.getD v1.toNat (Ty.zero .piec)).text⟩:Piec)).length:Int))))<|
 .val ((a.2.set v1.toNat (⟨a.1,(a.2.getD v1.toNat (Ty.zero .piec)).text⟩:Piec)).set v1.toNat (⟨((a.2.set v1.toNat (⟨a.1,(a.2.getD v1.toNat (Ty.zero .piec)).text⟩:Piec)).getD v1.toNat (Ty.zero .piec)).off,c1⟩:Piec)) λl2=>
 .ret (.next ((IntKind.wrap .i64 ((IntKind.wrap .i64 (a.1+1))+1)),l2))
noncomputable def bF:jc.V->wa jc (Int×List Piec):=λ(v0,v1,v2,_)=>⟨v1,(v0,v2),λv1 a=>(a.1,v1,a.2,()),λv1 a=>(decide (v1<(a.2.length:Int))),jt,up,1,(Int.toNat ((v2.length:Int)-v1)),Empty.elim,Prod.mk,oN (.exit 0) ⟨[zi 1,zu 4],[.arr .piec false false]⟩ (λx=>(x.2.1,x.2.2,()))⟩
theorem CU:LS Tryz.prog wE [0] (kD 0 jc bF):=fa st (aW xM) _ bF [] trivial
theorem Bw {v0 v1:Int}{v2:List Piec}(h0:0<=v1)(h1:(v2.length:Int)<=4611686018427387904)(h2:sL bD v2)(h3:v2.length=v2.length/\dP bD v2/\v0<=9223372036854775807):(bF (v0,v1,v2,())).S (λv1 a=>a.2.length=v2.length/\a.2.length=v2.length/\dP bD a.2/\a.1<=9223372036854775807) (λ_=>True):=by
 refine LC.okS ⟨rfl,h3⟩ (λj a hj hv=>⟨⟨?_, ?_⟩, ?_⟩) (λa hv=> ?_)
 ·simp only[bF,decide_eq_true_eq]at*;omega
 ·simp only[bF]at*;exact upw (by omega) (by omega)
 ·refine Tr.G2 ?_ λ_=>Tr.C ?_ λ_ _ _=>Tr.G2 ?_ λ_=>Tr.V λ_ _=>Tr.Rn ?_
  all_goals (try simp only[bF]at*)<;>(grind)
 ·simp only[bF,decide_eq_false_iff_not]at*;omega
noncomputable def p6:FT (List Piec×Int×Unit) (Int×List Piec) (λx=>sL bD x.1/\x.2.1<=9223372036854775807) (λx v=>sL bD v.2/\v.1<=9223372036854775807):=⟨λ(x0,x1,_)=>
  .lp (bF (x1,0,x0,())).lp λ(_,a3_0,a3_1)=>
  .ret (a3_0,a3_1),
 λ(x0,x1,_) hp=>by
  refine Tr.L (Bw ?_ ?_ ?_ ?_) (λ(a3_0,a3_1) _=>Tr.R ?_) (λp=>Empty.elim p)
  all_goals ((try simp only[bF,LC.lp,LC.ct,Ct.lp]at*)<;>grind)⟩
noncomputable def IJ:=oV st wE xM [(kD 0 jc bF)] [.wr false [.own 0],.sc (.int .i64)] [.arr .piec] (λx y=>(y.1,x.2.1,())) p6 (λv=>[(false,[.c (.int .i64 v.1)])]) (λx y v=>(v.2,())) Tryz.func274 (by kernel_rfl) ⟨CU,trivial⟩
def rR:Sh:=⟨[zl 0 .piec,zi 1,zi 5],[]⟩
noncomputable def jq (v0:List Piec)(v2:Int)(a:Int):Tr (Stp (Int) ((Int))):=
 .grd (ba v0 v2)<|
 .ite ((v0.getD v2.toNat (Ty.zero .piec)).off != a) (.ret (.out a))<|
 .grd (ba v0 v2)<|
 .cal bK.c ((IntKind.wrap .i64 (a+1)),()) λc1=>
 .ite (!((v0.getD v2.toNat (Ty.zero .piec)).text==c1)) (.ret (.out (IntKind.wrap .i64 (a+1))))<|
 .ret (.next (IntKind.wrap .i64 ((IntKind.wrap .i64 (a+1))+1)))
noncomputable def jr:rR.V->nL rR Int (Int):=λ(v0,v1,v2,_)=>⟨v2,v1,λv2 a=>(v0,a,v2,()),λv2 _=>(decide (v2<(v0.length:Int))),jq v0,up,1,(Int.toNat ((v0.length:Int)-v2)),.inl,eR,oB .ret ⟨[zi 1,zi 4],[]⟩ (λp=>(p,(-1),())) (.exit 0) ⟨[zi 1,zu 4],[]⟩ (λx=>(x.2,()))⟩
theorem Cf {v0:List Piec}{v1 v2:Int}(h0:0<=v2)(h1:(v0.length:Int)<=4611686018427387904)(h2:sL bD v0)(h3:v1<=9223372036854775807):(jr (v0,v1,v2,())).U (v0.length:Int) (λv2 a=>a<=9223372036854775807) (λ_=>True):=
 kx (a:=v1) h0 h1 h3
noncomputable def pL:FT (List Piec×Int×Unit) (Int) (λx=>sL bD x.1/\x.2.1<=9223372036854775807) (λx v=>v<=9223372036854775807):= .mk (λ(x0,x1,_)=>
  .lp (jr (x0,x1,0,())).lp λw2=> .sum w2 (λ_=>
  .ret (-1))<|
  λ(_,a2_0)=>
  .ret a2_0) (np @Cf)
noncomputable def GP:=dr st Tryz.func275 [(0,lb [0,1,5] [1,4])] [fP] 0 jr (ks:=[.sc (.sl .piec),.sc (.int .i64)]) pL rI
def wq:Sh:=⟨[zp 2 0,zp 3 1,zi 5],[zg .mac,zg .mac]⟩
noncomputable def wR (v1 v2:Mac)(v0:Int)(a:Unit):Tr (Stp (Unit) ((Unit))):=
 .grd (ba v1.rows v0)<|
 .grd (ba v2.rows v0)<|
 .ite (!(((v1.rows.getD v0.toNat (Ty.zero .macRow)).input==(v2.rows.getD v0.toNat (Ty.zero .macRow)).input)&&(((v1.rows.getD v0.toNat (Ty.zero .macRow)).value==(v2.rows.getD v0.toNat (Ty.zero .macRow)).value)&&true))) (.ret (.out ()))<|
 .ret (.next ())
noncomputable def ng:wq.V->nL wq Unit (Unit):=λ(v0,v1,v2,_)=>⟨v0,(),λv0 _=>(v0,v1,v2,()),λv0 _=>(decide (v0<(v1.rows.length:Int))),wR v1 v2,up,1,(Int.toNat ((v1.rows.length:Int)-v0)),.inl,eR,oB .ret ⟨[zb 4],[]⟩ (λ_=>(false,())) (.exit 0) ⟨[zu 4],[]⟩ (λ_=>())⟩
theorem HH {v0:Int}{v1 v2:Mac}(h0:0<=v0)(h1:(v1.rows.length:Int)<=4611686018427387904)(h2:(v1.rows.length:Int)<=(v2.rows.length:Int)):(ng (v0,v1,v2,())).U (v1.rows.length:Int) (λ_ _=>True) (λ_=>True):=
 kx h0 h1 trivial
noncomputable def y8:FT (Mac×Mac×Unit) (Bool) (λx=>cN x.1/\cN x.2.1) (λ_ _=>True):= .mk (λ(x0,x1,_)=>
  .bnd (β:=Bool×Unit) (.ite (!(x0.use==x1.use)) (.ret (true,()))<|
   .ite (x0.k != x1.k) (.ret (true,()))<|
   .ite (x0.l != x1.l) (.ret (true,()))<|
   .ret (((x0.rows.length:Int) != (x1.rows.length:Int)),())) λ(u1a0,_)=>
  .ite u1a0 (.ret false)<|
  .lp (ng (0,x0,x1,())).lp λw2=> .sum w2 (λ_=>
  .ret false)<|
  λ_=>
  .ret true) (np @HH)
noncomputable def RG:=dr st Tryz.func277 [(0,lb [2,3,5] [4]),(3000001,rA 0 33)] [] 0 ng (ks:=[.st .mac,.st .mac]) y8 rB
noncomputable def ov:FT (List Tupl×Unit) (List Tupl) (λx=>sS x.1) (λx v=>v=x.1):=⟨λx=> .ret x.1,λ_ _=>Tr.R rfl⟩
theorem Fg (x:List Tupl×Unit)(hp:sS x.1):Ke Tryz.prog 279 (Gw [.sc (.sl .tupl)] x) ((λv=>[rv (.sc (.sl .tupl)) [.o true] v]) (ov.f x)):=by
 refine Ke.byNil (t:= .tupl) (xs:=x.1) (λh=> ?_) ?_
 ·obtain⟨x,_⟩:=x;subst h
  exact Zx st Tryz.func279 (by kernel_rfl) (by kernel_rfl)
 ·exact Zx st Tryz.func279 (by kernel_rfl) (Eq.trans (b:=bif Nat.ble ((2*(0+x.1.length)+1024)*24) aM then some ((λv=>[rv (.sc (.sl .tupl)) [.o true] v]) x.1)else none) (by kernel_rfl) (by rw[show Nat.ble ((2*(0+x.1.length)+1024)*24) aM=true by simp only[Nat.ble_eq,aM];simp only[sS]at hp;omega];rfl))
noncomputable def FC:Ent1 Tryz.prog:=Za 279 (ks:=[.sc (.sl .tupl)]) ov.c (λv=>[rv (.sc (.sl .tupl)) [.o true] v]) Fg
noncomputable def lW:FT (List MacRow×Unit) (List MacRow) (λx=>sS x.1) (λx v=>v=x.1):=⟨λx=> .ret x.1,λ_ _=>Tr.R rfl⟩
theorem DL (x:List MacRow×Unit)(hp:sS x.1):Ke Tryz.prog 283 (Gw [.sc (.sl .macRow)] x) ((λv=>[rv (.sc (.sl .macRow)) [.o true] v]) (lW.f x)):=by
 refine Ke.byNil (t:= .macRow) (xs:=x.1) (λh=> ?_) ?_
 ·obtain⟨x,_⟩:=x;subst h
  exact Zx st Tryz.func283 (by kernel_rfl) (by kernel_rfl)
 ·exact Zx st Tryz.func283 (by kernel_rfl) (Eq.trans (b:=bif Nat.ble ((2*(0+x.1.length)+1024)*24) aM then some ((λv=>[rv (.sc (.sl .macRow)) [.o true] v]) x.1)else none) (by kernel_rfl) (by rw[show Nat.ble ((2*(0+x.1.length)+1024)*24) aM=true by simp only[Nat.ble_eq,aM];simp only[sS]at hp;omega];rfl))
noncomputable def D6:Ent1 Tryz.prog:=Za 283 (ks:=[.sc (.sl .macRow)]) lW.c (λv=>[rv (.sc (.sl .macRow)) [.o true] v]) DL
def qE:Sh:=⟨[zl 0 .macRow,zi 1,zi 5],[]⟩
noncomputable def iy (v0:List MacRow)(v2:Int)(a:Int):Tr (Stp (Int) ((Int))):=
 .grd (ba v0 v2)<|
 .cal bK.c (a,()) λc1=>
 .ite (!((v0.getD v2.toNat (Ty.zero .macRow)).input==c1)) (.ret (.out a))<|
 .grd (ba v0 v2)<|
 .ite ((v0.getD v2.toNat (Ty.zero .macRow)).value != (IntKind.wrap .i64 (a+1))) (.ret (.out (IntKind.wrap .i64 (a+1))))<|
 .ret (.next (IntKind.wrap .i64 ((IntKind.wrap .i64 (a+1))+1)))
noncomputable def hU:qE.V->nL qE Int (Int):=λ(v0,v1,v2,_)=>⟨v2,v1,λv2 a=>(v0,a,v2,()),λv2 _=>(decide (v2<(v0.length:Int))),iy v0,up,1,(Int.toNat ((v0.length:Int)-v2)),.inl,eR,oB .ret ⟨[zi 1,zi 4],[]⟩ (λp=>(p,(-1),())) (.exit 0) ⟨[zi 1,zu 4],[]⟩ (λx=>(x.2,()))⟩
theorem AP {v0:List MacRow}{v1 v2:Int}(h0:0<=v2)(h1:(v0.length:Int)<=4611686018427387904)(h2:sL aE v0)(h3:v1<=9223372036854775807):(hU (v0,v1,v2,())).U (v0.length:Int) (λv2 a=>a<=9223372036854775807) (λ_=>True):=
 kx (a:=v1) h0 h1 h3
noncomputable def oE:FT (List MacRow×Int×Unit) (Int) (λx=>sL aE x.1/\x.2.1<=9223372036854775807) (λx v=>v<=9223372036854775807):= .mk (λ(x0,x1,_)=>
  .lp (hU (x0,x1,0,())).lp λw2=> .sum w2 (λ_=>
  .ret (-1))<|
  λ(_,a2_0)=>
  .ret a2_0) (np @AP)
noncomputable def Gk:=dr st Tryz.func284 [(0,lb [0,1,5] [1,4])] [fP] 0 hU (ks:=[.sc (.sl .macRow),.sc (.int .i64)]) oE rI
noncomputable def kX:FF (Int×Int×Unit) (Int):=⟨λ(x0,x1,_)=>
  .ite (decide (x0<x1)) (.ret x0)<|
  .ret x1⟩
@[grind=] theorem nY (x0 x1:Int):kX.f (x0,x1,())=(if x0<x1 then x0 else x1):=by
 simp only[kX,FF.f,Tr.nice]
 by_cases h:x0<x1<;>simp[h]
noncomputable def tI:=gj st Tryz.func286 [] (ks:=[.sc (.int .i64),.sc (.int .i64)]) kX rI
noncomputable def Dq:FF (Entr×Unit) (Entr):=⟨λ(x0,_)=>
  .ret x0⟩
noncomputable def RI:=gj ao Tryz.func287 [] (ks:=[.st .entr]) Dq (λv=>[(true,aaZ v)])
noncomputable def yX:FF (Entr×Entr×Unit) (Bool):=⟨λ(x0,x1,_)=>
  .ite (x0.ip != x1.ip) (.ret false)<|
  .ite (x0.hw != x1.hw) (.ret false)<|
  .ite (x0.age != x1.age) (.ret false)<|
  .ret true⟩
noncomputable def Pd:=gj st Tryz.func289 [] (ks:=[.st .entr,.st .entr]) yX rB
noncomputable def Sd:=[cu,nD]
def IP:An:=⟨⟨[],[],false,0⟩,⟨[0,1,6,7],[],false,0⟩,⟨[],[]⟩,[(.normal,⟨[zi 0,zi 1,zi 6,zi 7],[]⟩)]⟩
noncomputable def R5:Fx:=⟨291,Tryz.f291,[(1000008,IP)],0⟩
noncomputable def yI:FF (Int×Int×Bool×Unit) (Int):=⟨λ(x0,x1,x2,_)=>
  .bnd (β:=Int×Int×Int×Int×Unit) (.ite x2 (.ret (x0,x1,0,48,()))<|
   .ret (x0,x1,0,32,())) λ(u1a0,u1a1,_,u1a3,_)=>
  .val (cm.f (u1a1,0,14,())) λc2=>
  .ite c2 (.val (cS.f (u1a0,())) λc3=>
   .val (IntKind.wrap .i64 ((IntKind.wrap .i64 (c3*64))+(IntKind.wrap .i64 (u1a3+u1a1)))) λe4=>
   .val (cS.f (e4,())) λc5=>
   .ret c5)<|
  .val (cS.f (u1a0,())) λc6=>
  .val (IntKind.wrap .i64 ((IntKind.wrap .i64 (c6*64))+(IntKind.wrap .i64 (u1a3+15)))) λe7=>
  .val (cS.f (e7,())) λc8=>
  .ret c8⟩
noncomputable def Pu:=Vg st R5 Sd [] (ks:=[.sc (.int .i64),.sc (.int .i64),.sc .bool]) yI rI Tryz.func291 trivial
noncomputable def ff:FT (Limi×Unit) (Bool) (λ_=>True) (λx v=>(v=true->x.1.halves<=64/\x.1.waiting<=16/\x.1.conns<=16)):= .mk λ(x0,_)=>
  .val (a9.f (x0.halves,1,64,())) λc1=>
  .ite c1 (.val (a9.f (x0.waiting,1,16,())) λc2=>
   .ite c2 (.val (a9.f (x0.conns,1,16,())) λc3=>
    .ite c3 (.val (a9.f (x0.chal,0,1000,())) λc4=>
     .ret c4)<|
    .ret false)<|
   .ret false)<|
  .ret false
noncomputable def OB:=aU ao Tryz.func292 [bu] (ks:=[.st .limi]) ff rB
def qK:Sh:=⟨[zl 0 .tupl,zp 3 0,zi 7,zi 8],[zx .tupl]⟩
noncomputable def qw (v0:List Tupl)(v3:Tupl)(v2:Int)(a:Unit):Tr (Stp (Unit) ((Int))):=
 .grd (ba v0 v2)<|
 .ite ((v3.ip==(v0.getD v2.toNat (Ty.zero .tupl)).ip)&&((v3.port==(v0.getD v2.toNat (Ty.zero .tupl)).port)&&((v3.my==(v0.getD v2.toNat (Ty.zero .tupl)).my)&&true))) (.ret (.out v2))<|
 .ret (.next ())
noncomputable def iI:qK.V->nL qK Unit (Int):=λ(v0,v1,v2,v3,_)=>⟨v2,(),λv2 _=>(v0,v1,v2,v3,()),λv2 _=>(decide (v2<v1)),qw v0 v3,up,1,(Int.toNat (v1-v2)),.inl,eR,oB .ret ⟨[zi 4],[]⟩ (λp=>(p,())) (.exit 0) ⟨[zu 4],[]⟩ (λ_=>())⟩
theorem AA {v0:List Tupl}{v1 v2:Int}{v3:Tupl}(h0:0<=v2)(h1:v1<=4611686018427387904)(h2:v1<=(v0.length:Int)):(iI (v0,v1,v2,v3,())).U v1 (λ_ _=>True) (λp=>v2<=p/\p<v1):=
 kx h0 h1 trivial
noncomputable def oy:FT (List Tupl×Tupl×Unit) (Int) (λx=>wS x.1) (λx v=> -1<=v/\v<x.1.length):= .mk (λ(x0,x1,_)=>
  .lp (iI (x0,(x0.length:Int),0,x1,())).lp λw1=> .sum w1 (λp1a0=>
  .ret p1a0)<|
  λ_=>
  .ret (-1)) (np @AA)
noncomputable def Gj:=dr st Tryz.func294 [(0,lb [0,3,7,8] [4])] [] 0 iI (ks:=[.sc (.sl .tupl),.st .tupl]) oy rI
def vf:Sh:=⟨[zi 0,zi 3],[]⟩
noncomputable def k8 (v0:Int)(v1:Int)(a:Unit):Tr (Stp (Unit) ((Int))):=
 .cal fE.c (v1,()) λc1=>
 .ite (decide (c1<=v0)) (.ret (.out v1))<|
 .ret (.next ())
noncomputable def dH:vf.V->nL vf Unit (Int):=λ(v0,v1,_)=>⟨v1,(),λv1 _=>(v0,v1,()),λv1 _=>(decide (0<v1)),k8 v0,dn,(-1),(Int.toNat (v1-0)),.inl,eR,oB .ret ⟨[zi 2],[]⟩ (λp=>(p,())) (.exit 0) ⟨[zu 2],[]⟩ (λ_=>())⟩
theorem Ga {v0 v1:Int}(h0:v1<=9223372036854775807):(dH (v0,v1,())).S (λ_ _=>True) (λ_=>True):=by
 refine LC.okS trivial (λj a hj hv=>⟨⟨?_, ?_⟩, ?_⟩) (λa hv=> ?_)
 ·simp only[dH,decide_eq_true_eq]at*;omega
 ·simp only[dH]at*;exact dnw (by omega) (by omega)
 ·refine Tr.C trivial λ_ _ _=>Tr.Z (by kernel_rfl)
 ·simp only[dH,decide_eq_false_iff_not]at*;omega
noncomputable def ij:FT (Int×Unit) (Int) (λ_=>True) (λ_ _=>True):= .mk (λ(x0,_)=>
  .lp (dH (x0,7,())).lp λw2=> .sum w2 (λp2a0=>
  .ret p2a0)<|
  λ_=>
  .ret 0) (np @Ga)
noncomputable def OT:=dr ao Tryz.func295 [(0,lb [0,3] [2])] [Lt] 0 dH (ks:=[.sc (.int .i64)]) ij rI
noncomputable def yk:FF (Opti×Unit) (Int):=⟨λ(x0,_)=>
  .ite (x0.mss==0) (.ret 536)<|
  .ret x0.mss⟩
noncomputable def Q5:=gj ao Tryz.func296 [] (ks:=[.st .opti]) yk rI
noncomputable def n5:FF (Int×Int×Bool×Unit) (Int):=⟨λ(x0,x1,x2,_)=>
  .ite x2 (.val (IntKind.wrap .i64 ((IntKind.wrap .i64 ((IntKind.wrap .i64 (x0*64))+32))+16)) λe1=>
   .val (a9.f (x1,0,14,())) λc2=>
   .ite (!c2) (.ret (bits .and .i64 (IntKind.wrap .i64 (e1+15)) 4294967295))<|
   .ret (bits .and .i64 (IntKind.wrap .i64 (e1+x1)) 4294967295))<|
  .val (a9.f (x1,0,14,())) λc3=>
  .ite (!c3) (.val (IntKind.wrap .i64 ((IntKind.wrap .i64 ((IntKind.wrap .i64 (x0*64))+32))+15)) λe4=>
   .ret (bits .and .i64 e4 4294967295))<|
  .val (IntKind.wrap .i64 ((IntKind.wrap .i64 ((IntKind.wrap .i64 (x0*64))+32))+x1)) λe5=>
  .ret (bits .and .i64 e5 4294967295)⟩
noncomputable def QH:=gj ao Tryz.func297 [bu] (ks:=[.sc (.int .i64),.sc (.int .i64),.sc .bool]) n5 rI
noncomputable def gZ:FT (Segm×Unit) (Int) (λx=>aw x.1) (λx v=>0<=v/\v<=x.1.body.length+2):= .mk λ(x0,_)=>
  .val (gg.f (x0,2,())) λc1=>
  .ite c1 (.val (gg.f (x0,1,())) λc2=>
   .ite c2 (.val (IntKind.wrap .i64 ((IntKind.wrap .i64 ((x0.body.length:Int)+1))+1)) λe3=>
    .ret e3)<|
   .ret (IntKind.wrap .i64 ((x0.body.length:Int)+1)))<|
  .val (gg.f (x0,1,())) λc4=>
  .ite c4 (.ret (IntKind.wrap .i64 ((x0.body.length:Int)+1)))<|
  .ret (x0.body.length:Int)
noncomputable def rx:=aU st Tryz.func298 [yW] (ks:=[.st .segm]) gZ rI
noncomputable def bX:FT (Recv×Unit) (Int) (λx=>ax x.1) (λx v=>0<=v/\v<=32/\(x.1.data.length<=32->v=Wv x.1)):= .mk λ(x0,_)=>
  .ite x0.done (.ret 0)<|
  .val (β:=Int) (if 0<(IntKind.wrap .i64 (32-(x0.data.length:Int)))then(IntKind.wrap .i64 (32-(x0.data.length:Int)))else 0) λe1=>
  .ret e1
noncomputable def na:=aU ao Tryz.func308 [] (ks:=[.st .recv]) bX rI
noncomputable def cY:FT (Sndr×Unit) (Int) (λx=>dW x.1) (λx v=>(0<=x.1.sent/\x.1.sent<=1000->x.1.sent<=v/\v<=x.1.sent+1)):= .mk λ(x0,_)=>
  .ite x0.finSent (.ret (IntKind.wrap .i64 (x0.sent+1)))<|
  .ret x0.sent
noncomputable def qI:=aU ao Tryz.func313 [] (ks:=[.st .sndr]) cY rI
noncomputable def dj:FF (Conn×Unit) (Int):=⟨λ(x0,_)=>
  .ite (x0.opts.mss==0) (.ret 536)<|
  .val (β:=Int) (if 1<(if 1460<x0.opts.mss then 1460 else x0.opts.mss)then(if 1460<x0.opts.mss then 1460 else x0.opts.mss)else 1) λe1=>
  .ret e1⟩
noncomputable def TZ:=gj ao Tryz.func317 [] (ks:=[.st .conn]) dj rI
noncomputable def uW:FT (Limi×Unit) (Bool) (λ_=>True) (λx v=>(v=true->x.1.halves<=64/\x.1.waiting<=16/\x.1.conns<=16)):= .mk λ(x0,_)=>
  .val (cm.f (x0.halves,1,64,())) λc1=>
  .ite c1 (.val (cm.f (x0.waiting,1,16,())) λc2=>
   .ite c2 (.val (cm.f (x0.conns,1,16,())) λc3=>
    .ite c3 (.val (cm.f (x0.chal,0,1000,())) λc4=>
     .ret c4)<|
    .ret false)<|
   .ret false)<|
  .ret false
noncomputable def OC:=aU st Tryz.func319 [cu] (ks:=[.st .limi]) uW rB
def vV:Sh:=⟨[zl 0 .tupl,zp 3 0,zi 5],[zx .tupl]⟩
noncomputable def vR (v0:List Tupl)(v2:Tupl)(v1:Int)(a:Unit):Tr (Stp (Unit) ((Unit))):=
 .grd (ba v0 v1)<|
 .ite (((v0.getD v1.toNat (Ty.zero .tupl)).ip==v2.ip)&&(((v0.getD v1.toNat (Ty.zero .tupl)).port==v2.port)&&(((v0.getD v1.toNat (Ty.zero .tupl)).my==v2.my)&&true))) (.ret (.out ()))<|
 .ret (.next ())
noncomputable def kV:vV.V->nL vV Unit (Unit):=λ(v0,v1,v2,_)=>⟨v1,(),λv1 _=>(v0,v1,v2,()),λv1 _=>(decide (v1<(v0.length:Int))),vR v0 v2,up,1,(Int.toNat ((v0.length:Int)-v1)),.inl,eR,oB .ret ⟨[zb 4],[]⟩ (λ_=>(true,())) (.exit 0) ⟨[zu 4],[]⟩ (λ_=>())⟩
theorem Fd {v0:List Tupl}{v1:Int}{v2:Tupl}(h0:0<=v1)(h1:(v0.length:Int)<=4611686018427387904):(kV (v0,v1,v2,())).U (v0.length:Int) (λ_ _=>True) (λ_=>True):=
 kx h0 h1 trivial
noncomputable def uE:FT (List Tupl×Tupl×Unit) (Bool) (λx=>wS x.1) (λ_ _=>True):= .mk (λ(x0,x1,_)=>
  .lp (kV (x0,0,x1,())).lp λw1=> .sum w1 (λ_=>
  .ret true)<|
  λ_=>
  .ret false) (np @Fd)
noncomputable def OM:=dr st Tryz.func321 [(0,lb [0,3,5] [4])] [] 0 kV (ks:=[.sc (.sl .tupl),.st .tupl]) uE rB
def Ca:Sh:=⟨[zl 0 .entr,zi 1,zi 5],[]⟩
noncomputable def B1 (v0:List Entr)(v1:Int)(v2:Int)(a:Unit):Tr (Stp (Unit) ((Int))):=
 .grd (ba v0 v2)<|
 .ite ((v0.getD v2.toNat (Ty.zero .entr)).ip==v1) (.ret (.out v2))<|
 .ret (.next ())
noncomputable def pW:Ca.V->nL Ca Unit (Int):=λ(v0,v1,v2,_)=>⟨v2,(),λv2 _=>(v0,v1,v2,()),λv2 _=>(decide (v2<(v0.length:Int))),B1 v0 v1,up,1,(Int.toNat ((v0.length:Int)-v2)),.inl,eR,oB .ret ⟨[zi 4],[]⟩ (λp=>(p,())) (.exit 0) ⟨[zu 4],[]⟩ (λ_=>())⟩
theorem ML {v0:List Entr}{v1 v2:Int}(h0:0<=v2)(h1:(v0.length:Int)<=4611686018427387904):(pW (v0,v1,v2,())).U (v0.length:Int) (λ_ _=>True) (λp=>v2<=p/\p<(v0.length:Int)):=
 kx h0 h1 trivial
noncomputable def ya:FT (List Entr×Int×Unit) (Int) (λx=>sS x.1) (λx v=> -1<=v/\v<x.1.length):= .mk (λ(x0,x1,_)=>
  .lp (pW (x0,x1,0,())).lp λw1=> .sum w1 (λp1a0=>
  .ret p1a0)<|
  λ_=>
  .ret (-1)) (np @ML)
noncomputable def Ea:=dr st Tryz.func326 [(0,lb [0,1,5] [4])] [] 0 pW (ks:=[.sc (.sl .entr),.sc (.int .i64)]) ya rI
noncomputable def Xw:=[oZ,tI]
noncomputable def Wq:Fx:=⟨329,Tryz.f329,[(3000002,rA 0 8),(3000004,rA 0 22),(3000006,rA 0 35),(3000008,rA 0 44)],0⟩
noncomputable def GD:FT (Opti×ac×Unit) (Opti) (λx=>sS x.2.1/\0<x.2.1.length) (λ_ _=>True):= .mk λ(x0,x1,_)=>
  .bnd (β:=Bool×Unit) (.grd (decide (0<(x1.length:Int)))<|
   .ite ((af x1 0)==2) (.ret (((x1.length:Int)==4),()))<|
   .ret (false,())) λ(u1a0,_)=>
  .ite u1a0 (.cal bv.c (x1,2,2,()) λc2=>
   .ret ({x0 with mss:=c2.1}:Opti))<|
  .bnd (β:=Bool×Unit) (.grd (decide (0<(x1.length:Int)))<|
   .ite ((af x1 0)==3) (.ret (((x1.length:Int)==3),()))<|
   .ret (false,())) λ(u3a0,_)=>
  .ite u3a0 (.grd (decide (2<(x1.length:Int)))<|
   .val (kX.f (14,(IntKind.wrap .i64 (af x1 2)),())) λc4=>
   .ret ({x0 with scale:=c4}:Opti))<|
  .bnd (β:=Bool×Unit) (.grd (decide (0<(x1.length:Int)))<|
   .ite ((af x1 0)==4) (.ret (((x1.length:Int)==2),()))<|
   .ret (false,())) λ(u5a0,_)=>
  .ite u5a0 (.ret ({x0 with sack:=true}:Opti))<|
  .bnd (β:=Bool×Unit) (.grd (decide (0<(x1.length:Int)))<|
   .ite ((af x1 0)==8) (.ret (((x1.length:Int)==10),()))<|
   .ret (false,())) λ(u6a0,_)=>
  .ite u6a0 (.cal bv.c (x1,2,4,()) λc7=>
   .cal bv.c (x1,6,4,()) λc8=>
   .ret ({x0 with stamp:=true,val:=c7.1,echo:=c8.1}:Opti))<|
  .ret x0
noncomputable def XC:=cI st Wq Xw [] (ks:=[.st .opti,.sc .str]) GD (λv=>[(true,pg v)]) Tryz.func329 trivial
noncomputable def OK:FT (List Entr×Int×Unit) (Int×Bool) (λx=>sS x.1) (λ_ _=>True):= .mk λ(x0,x1,_)=>
  .cal ya.c (x0,x1,()) λc1=>
  .ite (decide (c1<0)) (.ret (0,false))<|
  .grd (ba x0 c1)<|
  .ret ((x0.getD c1.toNat (Ty.zero .entr)).hw,true)
noncomputable def Yu:=aU st Tryz.func330 [Ea] (ks:=[.sc (.sl .entr),.sc (.int .i64)]) OK (λv=>[(false,[.c (.int .i64 v.1)]),(false,[.c (.bool v.2)])])
noncomputable def f9:FT (List Entr×Unit) (List Entr) (λx=>sS x.1) (λx v=>v=x.1):=⟨λx=> .ret x.1,λ_ _=>Tr.R rfl⟩
theorem FB (x:List Entr×Unit)(hp:sS x.1):Ke Tryz.prog 333 (Gw [.sc (.sl .entr)] x) ((λv=>[rv (.sc (.sl .entr)) [.o true] v]) (f9.f x)):=by
 refine Ke.byNil (t:= .entr) (xs:=x.1) (λh=> ?_) ?_
 ·obtain⟨x,_⟩:=x;subst h
  exact Zx st Tryz.func333 (by kernel_rfl) (by kernel_rfl)
 ·exact Zx st Tryz.func333 (by kernel_rfl) (Eq.trans (b:=bif Nat.ble ((2*(0+x.1.length)+1024)*24) aM then some ((λv=>[rv (.sc (.sl .entr)) [.o true] v]) x.1)else none) (by kernel_rfl) (by rw[show Nat.ble ((2*(0+x.1.length)+1024)*24) aM=true by simp only[Nat.ble_eq,aM];simp only[sS]at hp;omega];rfl))
noncomputable def vz:Ent1 Tryz.prog:=Za 333 (ks:=[.sc (.sl .entr)]) f9.c (λv=>[rv (.sc (.sl .entr)) [.o true] v]) FB
noncomputable def rt:FT (List Entr×Int×Int×Unit) (Nat×List Entr) (λx=>sS x.1/\0<=x.2.1/\x.2.1<=x.2.2.1/\x.2.2.1<=x.1.length) (λx v=>sS v.2/\v.1<=x.1.length/\v.2.length=x.1.length):=⟨λ(x0,x1,x2,_)=>
  .grd ((((decide (0<=x1))&&(decide (x1<=x2)))&&(decide (x2<=(x0.length:Int))))&&(decide ((x0.length:Int)<=(x0.length:Int))))<|
  .ite (x1==x2) (.ret (x0.length,x0))<|
  .grd ((decide (0<=x1))&&(decide (x1<=(x0.length:Int))))<|
  .grd (O3 x0 x2 (x0.length:Int))<|
  .grd (((Nat.ble x1.toNat x2.toNat)&&(Nat.beq ((x0.length:Int).toNat) x0.length))&&true)<|
  .val (((((x0.take x1.toNat++x0.drop x2.toNat)++x0.drop (x1.toNat+(x0.length-x2.toNat))).take (x1.toNat+(x0.length-x2.toNat))).drop 0).length:Int) λe1=>
  .grd (O3 ((x0.take x1.toNat++x0.drop x2.toNat)++x0.drop (x1.toNat+(x0.length-x2.toNat))) e1 (x0.length:Int))<|
  .val ((((x0.take x1.toNat++x0.drop x2.toNat)++x0.drop (x1.toNat+(x0.length-x2.toNat))).take e1.toNat++List.replicate ((x0.length:Int).toNat-e1.toNat) (Ty.zero .entr))++((x0.take x1.toNat++x0.drop x2.toNat)++x0.drop (x1.toNat+(x0.length-x2.toNat))).drop ((x0.length:Int).toNat)) λl2=>
  .ret ((x1.toNat+(x0.length-x2.toNat)),l2),
 λ(x0,x1,x2,_) hp=>by
  refine Tr.G4 ?_ λg0=>Tr.I (λb1=>Tr.R ?_) λb1=>Tr.G2 ?_ λg2=>Tr.G3 ?_ λg3=>Tr.G ?_ λg4=>Tr.V λe1 he1=>Tr.G3 ?_ λg5=>Tr.V λl2 hl2=>Tr.R ?_
  all_goals ((first|grind|(simp only[Bool.and_eq_true,and_true,List.length_set,Nat.ble_eq,Nat.beq_eq,decide_eq_true_eq,List.length_append,List.length_take,List.length_drop,List.drop_zero,List.length_replicate,sS]at*;omega)))⟩
noncomputable def Du:=oV st ⟨336,Tryz.f336,[],1⟩ [] [] [.wr false [.own 0],.sc (.int .i64),.sc (.int .i64)] [.arr .entr] (λx y=>(y.1,x.2.1,x.2.2.1,())) rt (λv=>[(false,[.shr 0 v.1])]) (λx y v=>(v.2,())) Tryz.func336 (by kernel_rfl) trivial
def xX:Sh:=⟨[zs 0,zi 1,zi 8,zi 25,zi 26],[]⟩
noncomputable def rz (v0:ac)(v1:Int)(v4:Int)(a:Int):Tr (Stp (Int) (Empty)):=
 .grd (ba v0 (IntKind.wrap .i64 (v1+v4)))<|
 .val (bits .or .i64 (IntKind.wrap .i64 (a*256)) (IntKind.wrap .i64 (af v0 ((IntKind.wrap .i64 (v1+v4)).toNat)))) λe3=>
 .ret (.next e3)
noncomputable def mD:xX.V->wa xX Int:=λ(v0,v1,v2,v3,v4,_)=>⟨v4,v2,λv4 a=>(v0,v1,a,v3,v4,()),λv4 _=>(decide (v4<v3)),rz v0 v1,up,1,(Int.toNat (v3-v4)),Empty.elim,Prod.mk,oN (.exit 0) ⟨[zu 6,zu 7,zi 8],[]⟩ (λx=>(x.2,()))⟩
theorem JN {v0:ac}{v1 v2 v3 v4:Int}(h0:0<=v4)(h1:v3<=4611686018427387904)(h2:0<=v1)(h3:v1+v3<=(v0.length:Int))(h4:sS v0):(mD (v0,v1,v2,v3,v4,())).U v3 (λ_ _=>True) (λ_=>True):=
 kx (a:=v2) h0 h1 trivial
noncomputable def yD:FT (ac×Int×Int×Unit) (Int×Bool) (λx=>sS x.1) (λ_ _=>True):= .mk (λ(x0,x1,x2,_)=>
  .bnd (β:=Bool×Unit) (.val (a9.f (x2,1,6,())) λc1=>
   .ite (!c1) (.ret (true,()))<|
   .ite (decide (x1<0)) (.ret (true,()))<|
   .ret ((decide ((IntKind.wrap .i64 ((x0.length:Int)-x2))<x1)),())) λ(u2a0,_)=>
  .ite u2a0 (.ret (0,false))<|
  .lp (mD (x0,x1,0,x2,0,())).lp λ(_,a4_0)=>
  .ret (a4_0,true)) (np @JN)
noncomputable def Sf:=dr ao Tryz.func339 [(0,lb [0,1,8,25,26] [6,7,8]),(3000001,rA 0 24)] [bu] 0 mD (ks:=[.sc .str,.sc (.int .i64),.sc (.int .i64)]) yD (λv=>[(false,[.c (.int .i64 v.1)]),(false,[.c (.bool v.2)])])
def ER:Sh:=⟨[zi 1,zl 8 .entr,zi 9,zi 10],[]⟩
noncomputable def Es (v0:Int)(v1:List Entr)(v3:Int)(a:Unit):Tr (Stp (Unit) ((Int))):=
 .grd (ba v1 v3)<|
 .ite ((v1.getD v3.toNat (Ty.zero .entr)).ip==v0) (.ret (.out ((v1.getD v3.toNat (Ty.zero .entr)).hw)))<|
 .ret (.next ())
noncomputable def sj:ER.V->nL ER Unit (Int):=λ(v0,v1,v2,v3,_)=>⟨v3,(),λv3 _=>(v0,v1,v2,v3,()),λv3 _=>(decide (v3<v2)),Es v0 v1,up,1,(Int.toNat (v2-v3)),.inl,eR,oB .ret ⟨[zi 4,zb 5],[]⟩ (λp=>(p,true,())) (.exit 0) ⟨[zu 4,zu 5],[]⟩ (λ_=>())⟩
theorem RB {v0 v2 v3:Int}{v1:List Entr}(h0:0<=v3)(h1:v2<=4611686018427387904)(h2:v2<=(v1.length:Int)):(sj (v0,v1,v2,v3,())).U v2 (λ_ _=>True) (λ_=>True):=
 kx h0 h1 trivial
noncomputable def AI:FT (List Entr×Int×Unit) (Int×Bool) (λx=>sS x.1) (λ_ _=>True):= .mk (λ(x0,x1,_)=>
  .lp (sj (x1,x0,(x0.length:Int),0,())).lp λw1=> .sum w1 (λp1a0=>
  .ret (p1a0,true))<|
  λ_=>
  .ret (0,false)) (np @RB)
noncomputable def QB:=dr ao Tryz.func341 [(0,lb [1,8,9,10] [4,5])] [] 0 sj (ks:=[.sc (.sl .entr),.sc (.int .i64)]) AI (λv=>[(false,[.c (.int .i64 v.1)]),(false,[.c (.bool v.2)])])
noncomputable def oi:FT (List Piec×Unit) (List Piec) (λx=>sS x.1) (λx v=>v=x.1):=⟨λx=> .ret x.1,λ_ _=>Tr.R rfl⟩
theorem Fm (x:List Piec×Unit)(hp:sS x.1):Ke Tryz.prog 343 (Gw [.sc (.sl .piec)] x) ((λv=>[rv (.sc (.sl .piec)) [.o true] v]) (oi.f x)):=by
 refine Ke.byNil (t:= .piec) (xs:=x.1) (λh=> ?_) ?_
 ·obtain⟨x,_⟩:=x;subst h
  exact Zx st Tryz.func343 (by kernel_rfl) (by kernel_rfl)
 ·exact Zx st Tryz.func343 (by kernel_rfl) (Eq.trans (b:=bif Nat.ble ((2*(0+x.1.length)+1024)*24) aM then some ((λv=>[rv (.sc (.sl .piec)) [.o true] v]) x.1)else none) (by kernel_rfl) (by rw[show Nat.ble ((2*(0+x.1.length)+1024)*24) aM=true by simp only[Nat.ble_eq,aM];simp only[sS]at hp;omega];rfl))
noncomputable def F8:Ent1 Tryz.prog:=Za 343 (ks:=[.sc (.sl .piec)]) oi.c (λv=>[rv (.sc (.sl .piec)) [.o true] v]) Fm
noncomputable def yU:FF (Piec×Piec×Unit) (Bool):=⟨λ(x0,x1,_)=>
  .ite (x0.off != x1.off) (.ret false)<|
  .ite (!(x0.text==x1.text)) (.ret false)<|
  .ret true⟩
noncomputable def Qb:=gj st Tryz.func344 [] (ks:=[.st .piec,.st .piec]) yU rB
noncomputable def jM:FX (Sndr×Int×Unit) (Int) (λ_=>True) (cG [.st .sndr,.sc (.int .i64)]):=⟨λ(x0,x1,_)=>
  .ite (decide ((IntKind.wrap .i64 (x1-(x0.data.length:Int)))<0)) (.ret (-1))<|
  .ret (IntKind.wrap .i64 (x1-(x0.data.length:Int))),
 λ(x0,x1,_) hp hf=>by
  simp only[cG,Pk.fact,jT,gy,Fl.fact,Ty.fl,Ty.toH]at hf
  refine Tr.F (by kernel_rfl) trivial⟩
theorem TH (x:Sndr)(k:Int)(h0:0<=k)(h1:k<=1048576)(hl:x.data.length<=4611686018427387904)(h:0<=jM.f (x,k,())):jM.f (x,k,())<=k/\x.data.length<=1048576:=by
 have w:IntKind.wrap .i64 (k-(x.data.length:Int))=k-(x.data.length:Int):=aj (by omega) (by omega)
 simp only[FX.f,jM,Tr.nice,w]at h|-
 by_cases c:k-(x.data.length:Int)<0
 ·rw[decide_eq_true c,cond_true]at h;omega
 ·rw[decide_eq_false c,cond_false];exact⟨by omega,by omega⟩
noncomputable def OA:=sC st Tryz.func345 [] (ks:=[.st .sndr,.sc (.int .i64)]) jM rI
noncomputable def ut:FT (Sndr×Unit) (Sndr) (λx=>dW x.1) (λx v=>dW v):= .mk λ(x0,_)=>
  .ret x0
noncomputable def Oj:=aU ao Tryz.func347 [] (ks:=[.st .sndr]) ut (λv=>[(true,Kg v)])
def pr:Sh:=⟨[zl 0 .macRow,zl 1 .macRow,zi 12,zi 13],[]⟩
noncomputable def py (v0 v1:List MacRow)(v3:Int)(a:Unit):Tr (Stp (Unit) ((Unit))):=
 .grd (ba v0 v3)<|
 .grd (ba v1 v3)<|
 .ite (!(((v0.getD v3.toNat (Ty.zero .macRow)).input==(v1.getD v3.toNat (Ty.zero .macRow)).input)&&(((v0.getD v3.toNat (Ty.zero .macRow)).value==(v1.getD v3.toNat (Ty.zero .macRow)).value)&&true))) (.ret (.out ()))<|
 .ret (.next ())
noncomputable def gn:pr.V->nL pr Unit (Unit):=λ(v0,v1,v2,v3,_)=>⟨v3,(),λv3 _=>(v0,v1,v2,v3,()),λv3 _=>(decide (v3<v2)),py v0 v1,up,1,(Int.toNat (v2-v3)),.inl,eR,oB .ret ⟨[zb 4],[]⟩ (λ_=>(false,())) (.exit 0) ⟨[zu 4],[]⟩ (λ_=>())⟩
theorem zv {v0 v1:List MacRow}{v2 v3:Int}(h0:0<=v3)(h1:v2<=4611686018427387904)(h2:v2<=(v0.length:Int))(h3:v2<=(v1.length:Int)):(gn (v0,v1,v2,v3,())).U v2 (λ_ _=>True) (λ_=>True):=
 kx h0 h1 trivial
noncomputable def qS:FT (List MacRow×List MacRow×Unit) (Bool) (λx=>sL aE x.1/\sL aE x.2.1) (λ_ _=>True):= .mk (λ(x0,x1,_)=>
  .ite ((x0.length:Int) != (x1.length:Int)) (.ret false)<|
  .lp (gn (x0,x1,(x0.length:Int),0,())).lp λw1=> .sum w1 (λ_=>
  .ret false)<|
  λ_=>
  .ret true) (np @zv)
noncomputable def D3:=dr st Tryz.func349 [(0,lb [0,1,12,13] [4])] [] 0 gn (ks:=[.sc (.sl .macRow),.sc (.sl .macRow)]) qS rB
noncomputable def nF:FF (Int×Int×Int×Unit) (Bool):=⟨λ(x0,x1,x2,_)=>
  .ite (decide (0<x2)) (.val (cS.f (x0,())) λc1=>
   .val (cS.f (x1,())) λc2=>
   .val (cS.f ((IntKind.wrap .i64 (c1-c2)),())) λc3=>
   .ret (decide (c3<x2)))<|
  .ret false⟩
noncomputable def uu:=gj st Tryz.func354 [nD] (ks:=[.sc (.int .i64),.sc (.int .i64),.sc (.int .i64)]) nF rB
noncomputable def ju:FT (Recv×Unit) (Int) (λx=>ax x.1) (λx v=>0<=v/\v<=32/\(x.1.data.length<=32->v=Wv x.1)):= .mk λ(x0,_)=>
  .ite x0.done (.ret 0)<|
  .val (fM.f (0,(IntKind.wrap .i64 (32-(x0.data.length:Int))),())) λc1=>
  .ret c1
noncomputable def mY:=aU st Tryz.func355 [qj] (ks:=[.st .recv]) ju rI
noncomputable def jG:FT (Sndr×Unit) (Int) (λx=>dW x.1) (λx v=>(0<=x.1.sent/\x.1.sent<=1000->x.1.sent<=v/\v<=x.1.sent+1)):= .mk λ(x0,_)=>
  .ite x0.finSent (.ret (IntKind.wrap .i64 (x0.sent+1)))<|
  .ret x0.sent
noncomputable def mI:=aU st Tryz.func360 [] (ks:=[.st .sndr]) jG rI
noncomputable def CF:FF (Conn×Unit) (Int):=⟨λ(x0,_)=>
  .ite (x0.opts.mss==0) (.ret 536)<|
  .val (kX.f (1460,x0.opts.mss,())) λc1=>
  .val (fM.f (1,c1,())) λc2=>
  .ret c2⟩
noncomputable def S8:=gj st Tryz.func364 [tI,qj] (ks:=[.st .conn]) CF rI
noncomputable def rP:FF (Int×Int×Unit) (Int):=⟨λ(x0,x1,_)=>
  .ret (bits .and .i64 (IntKind.wrap .i64 (x0-x1)) 4294967295)⟩
@[grind=] theorem Ps (a b:Int):rP.f (a,b,())=(a-b)%4294967296:=by
 simp only[rP,FF.f,Tr.nice]
 rw[rp,cO];omega
noncomputable def DG:=gj ao Tryz.func368 [] (ks:=[.sc (.int .i64),.sc (.int .i64)]) rP rI
noncomputable def qh:FF (Int×Int×Unit) (Int):=⟨λ(x0,x1,_)=>
  .val (IntKind.wrap .i32 (IntKind.wrap .u32 ((IntKind.wrap .u32 x0)-(IntKind.wrap .u32 x1)))) λe1=>
  .ret (IntKind.wrap .i64 e1)⟩
noncomputable def wz:=gj ao Tryz.func369 [] (ks:=[.sc (.int .i64),.sc (.int .i64)]) qh rI
noncomputable def Hd:FF (Int×Unit) (Bool):=⟨λ(x0,_)=>
  .ite (x0 != 1) (.ret (x0 != 4))<|
  .ret false⟩
noncomputable def TY:=gj st Tryz.func375 [] (ks:=[.sc (.int .i64)]) Hd rB
def zE:Sh:=⟨[zi 0],[]⟩
noncomputable def sG (a:Int):Tr (Stp (Int) ((Int))):=
 .ite (decide (65535<a)) (.val (IntKind.wrap .i64 ((IntKind.wrap .i64 (a.tdiv 65536))+(a.tmod 65536))) λe1=>
  .ret (.next e1))<|
 .ret (.out a)
noncomputable def oj:zE.V->LW zE (Int) ((Int)):=λ(v0,_)=>⟨v0,λa=>(a,()),sG,Int.toNat v0,oN (.exit 0) ⟨[zi 0,zu 2],[]⟩ (λp=>(p,()))⟩
theorem Kt {v0:Int}(h0:0<=v0/\v0<=9223372036854775807):(oj (v0,())).W (λp=>0<=p/\p<=65535):=
 LW.okW (a:=v0) (λa=>0<=a/\a<=9223372036854775807) (λa=>Int.toNat a) rfl h0 λv0 hv=>by
  refine Tr.I (λb0=>Tr.V λe1 he1=>Tr.Rn ?_) λb0=>Tr.Ro ?_
  all_goals (((try subst_vars);simp only[decide_eq_true_eq,decide_eq_false_iff_not]at*;first|omega|(rw[Mc (by omega) (by omega)];omega)|grind))
noncomputable def Bh:FT (Int×Unit) (Int) (λx=>x.1<=9223372036854775807) (λx v=>0<=v/\v<=65535):= .mk (λ(x0,_)=>
  .ite (decide (x0<0)) (.ret 0)<|
  .lp (oj (x0,())).lp λp2a0=>
  .ret p2a0) (np @Kt)
noncomputable def TA:=KG st Tryz.func377 [(0,lb [0] [0,2])] [] 0 oj (ks:=[.sc (.int .i64)]) Bh rI
def xd:Sh:=⟨[zs 0,zi 3,zi 4],[]⟩
noncomputable def gz (v0:ac)(v2:Int)(a:Int):Tr (Stp (Int) (Empty)):=
 .grd (ba v0 v2)<|
 .val (IntKind.wrap .i64 (a+(IntKind.wrap .i64 (256*(IntKind.wrap .i64 (af v0 v2.toNat)))))) λe1=>
 .ite (decide ((IntKind.wrap .i64 (v2+1))<(v0.length:Int))) (.grd (ba v0 (IntKind.wrap .i64 (v2+1)))<|
  .val (IntKind.wrap .i64 (e1+(IntKind.wrap .i64 (af v0 ((IntKind.wrap .i64 (v2+1)).toNat))))) λe2=>
  .ret (.next e2))<|
 .ret (.next e1)
noncomputable def dz:xd.V->wa xd Int:=λ(v0,v1,v2,_)=>⟨v2,v1,λv2 a=>(v0,a,v2,()),λv2 _=>(decide (v2<(v0.length:Int))),gz v0,λv2=>IntKind.wrap .i64 (v2+2),2,(Int.toNat (((v0.length:Int)-v2+1)/2)),Empty.elim,Prod.mk,oN (.exit 0) ⟨[zu 2,zi 3],[]⟩ (λx=>(x.2,()))⟩
theorem JS {v0:ac}{v1 v2:Int}(h0:0<=v2)(h1:(v0.length:Int)<=4611686018427387904)(h2:sS v0)(h3:0<=v1/\v1<=65536*v2):(dz (v0,v1,v2,())).S (λv2 a=>0<=a/\a<=65536*v2) (λ_=>True):=by
 refine LC.okS h3 (λj a hj hv=>⟨⟨?_, ?_⟩, ?_⟩) (λa hv=> ?_)
 ·simp only[dz,decide_eq_true_eq]at*;omega
 ·simp only[dz]at*;exact aj (by omega) (by omega)
 ·refine Tr.G2 ?_ λ_=>Tr.V λ_ _=>Tr.I (λ_=>Tr.G2 ?_ λ_=>Tr.V λ_ _=>Tr.Rn ?_) λ_=>Tr.Rn ?_
  all_goals (try simp only[dz]at*)<;>(grind)
 ·simp only[dz,decide_eq_false_iff_not]at*;omega
noncomputable def yQ:FT (ac×Unit) (Int) (λx=>sS x.1) (λx v=>0<=v/\v<=281474976710656):=⟨λ(x0,_)=>
  .lp (dz (x0,0,0,())).lp λ(_,a3_0)=>
  .ret a3_0,
 λ(x0,_) hp=>by
  refine Tr.L (JS ?_ ?_ ?_ ?_) (λa3_0 _=>Tr.R ?_) (λp=>Empty.elim p)
  all_goals ((try simp only[dz,LC.lp,LC.ct,Ct.lp]at*)<;>grind)⟩
noncomputable def QW:=dr st Tryz.func378 [(0,lb [0,3,4] [2,3])] [] 0 dz (ks:=[.sc .str]) yQ rI
def zU:Sh:=⟨[zi 0],[]⟩
noncomputable def sH (a:Int):Tr (Stp (Int) ((Int))):=
 .ite (decide (65536<=a)) (.val (IntKind.wrap .i64 ((IntKind.wrap .i64 (a.tdiv 65536))+(a.tmod 65536))) λe1=>
  .ret (.next e1))<|
 .ret (.out a)
noncomputable def oo:zU.V->LW zU (Int) ((Int)):=λ(v0,_)=>⟨v0,λa=>(a,()),sH,Int.toNat v0,oN (.exit 0) ⟨[zi 0,zu 2],[]⟩ (λp=>(p,()))⟩
theorem Kq {v0:Int}(h0:0<=v0/\v0<=9223372036854775807):(oo (v0,())).W (λp=>0<=p/\p<=65535):=
 LW.okW (a:=v0) (λa=>0<=a/\a<=9223372036854775807) (λa=>Int.toNat a) rfl h0 λv0 hv=>by
  refine Tr.I (λb0=>Tr.V λe1 he1=>Tr.Rn ?_) λb0=>Tr.Ro ?_
  all_goals (((try subst_vars);simp only[decide_eq_true_eq,decide_eq_false_iff_not]at*;first|omega|(rw[Mc (by omega) (by omega)];omega)|grind))
noncomputable def BK:FT (Int×Unit) (Int) (λx=>x.1<=9223372036854775807) (λx v=>0<=v/\v<=65535):= .mk (λ(x0,_)=>
  .ite (decide (x0<0)) (.ret 0)<|
  .lp (oo (x0,())).lp λp2a0=>
  .ret p2a0) (np @Kq)
noncomputable def Ue:=KG ao Tryz.func380 [(0,lb [0] [0,2])] [] 0 oo (ks:=[.sc (.int .i64)]) BK rI
def xb:Sh:=⟨[zs 0,zi 3,zi 4],[]⟩
noncomputable def gu (v0:ac)(v2:Int)(a:Int):Tr (Stp (Int) (Empty)):=
 .ite ((v2.tmod 2)==0) (.grd (ba v0 v2)<|
  .val (IntKind.wrap .i64 (a+(IntKind.wrap .i64 ((IntKind.wrap .i64 (af v0 v2.toNat))*256)))) λe1=>
  .ret (.next e1))<|
 .grd (ba v0 v2)<|
 .ret (.next (IntKind.wrap .i64 (a+(IntKind.wrap .i64 (af v0 v2.toNat)))))
noncomputable def jV:xb.V->wa xb Int:=λ(v0,v1,v2,_)=>⟨v2,v1,λv2 a=>(v0,a,v2,()),λv2 _=>(decide (v2<(v0.length:Int))),gu v0,up,1,(Int.toNat ((v0.length:Int)-v2)),Empty.elim,Prod.mk,oN (.exit 0) ⟨[zu 2,zi 3],[]⟩ (λx=>(x.2,()))⟩
theorem Hw {v0:ac}{v1 v2:Int}(h0:0<=v2)(h1:(v0.length:Int)<=4611686018427387904)(h2:sS v0)(h3:0<=v1/\v1<=65536*v2):(jV (v0,v1,v2,())).U (v0.length:Int) (λv2 a=>0<=a/\a<=65536*v2) (λ_=>True):=
 kx (a:=v1) h0 h1 h3
noncomputable def qg:FT (ac×Unit) (Int) (λx=>sS x.1) (λx v=>0<=v/\v<=281474976710656):=⟨λ(x0,_)=>
  .lp (jV (x0,0,0,())).lp λ(_,a2_0)=>
  .ret a2_0,
 λ(x0,_) hp=>by
  refine Tr.L (Hw ?_ ?_ ?_ ?_) (λa2_0 _=>Tr.R ?_) (λp=>Empty.elim p)
  all_goals ((try simp only[jV,LC.lp,LC.ct,Ct.lp]at*)<;>grind)⟩
noncomputable def QU:=dr ao Tryz.func381 [(0,lb [0,3,4] [2,3])] [] 0 jV (ks:=[.sc .str]) qg rI
noncomputable def qi:FF (Int×Int×Unit) (Int):=⟨λ(x0,x1,_)=>
  .val (cS.f (x0,())) λc1=>
  .val (cS.f (x1,())) λc2=>
  .val (cS.f ((IntKind.wrap .i64 (c1-c2)),())) λc3=>
  .ite (decide (2147483647<c3)) (.ret (IntKind.wrap .i64 (c3-4294967296)))<|
  .ret c3⟩
noncomputable def xC:=gj st Tryz.func385 [nD] (ks:=[.sc (.int .i64),.sc (.int .i64)]) qi rI
noncomputable def pG:List (Ent1 Tryz.prog):=[]
def kQ:Sh:=⟨[zp 1 0,zo 3 1,zi 4],[zg .recv,za .i64]⟩
def jd:Sh:=⟨[zp 1 0,zo 3 1,zi 5,zi 6],[zg .recv,za .i64]⟩
def kR:Sh:=⟨[zp 1 0,zo 3 1,zi 5],[zg .recv,za .i64]⟩
noncomputable def pB:Fx:=⟨387,Tryz.f387,[(0,lb [1,3,4] [1,2,3]),(4,lb [1,3,5,6] [1,2,3,5]),(2,lb [1,3,5] [2,3])],0⟩
noncomputable def vt (v0:Int)(a:List Int):Tr (Stp (List Int) (Empty)):=
 .grd (ba a v0)<|
 .ret (.next (a.set v0.toNat (-1)))
noncomputable def cc:kQ.V->wa kQ (List Int):=λ(v0,v1,v2,_)=>⟨v0,v2,λv0 a=>(v0,v1,a,()),λv0 a=>(decide (v0<(a.length:Int))),vt,up,1,(Int.toNat ((v2.length:Int)-v0)),Empty.elim,Prod.mk,oN (.exit 0) ⟨[zp 1 0,zu 2,zo 3 1],[zg .recv,za .i64]⟩ (λx=>(v1,x.2,()))⟩
theorem F5:LS Tryz.prog pB [0] (kD 0 kQ cc):=fa st (aW pG) _ cc [] trivial
theorem F2 {v0:Int}{v1:Recv}{v2:List Int}(h0:0<=v0)(h1:(v2.length:Int)<=4611686018427387904)(h2:sS v2)(h3:v2.length=v2.length):(cc (v0,v1,v2,())).S (λv0 a=>a.length=v2.length/\a.length=v2.length) (λ_=>True):=by
 refine LC.okS ⟨rfl,h3⟩ (λj a hj hv=>⟨⟨?_, ?_⟩, ?_⟩) (λa hv=> ?_)
 ·simp only[cc,decide_eq_true_eq]at*;omega
 ·simp only[cc]at*;exact upw (by omega) (by omega)
 ·refine Tr.G2 ?_ λ_=>Tr.Rn ?_
  all_goals (try simp only[cc]at*)<;>(grind)
 ·simp only[cc,decide_eq_false_iff_not]at*;omega
noncomputable def mg (vb0:Int)(vb2:Recv)(a:Int×List Int):Tr (Stp (Int×List Int) ((List Int))):=
 .grd (ba vb2.held vb0)<|
 .ite (decide (a.1<(((vb2.held.getD vb0.toNat (Ty.zero .piec)).text).length:Int))) (.grd (ba vb2.held vb0)<|
  .val (IntKind.wrap .i64 ((vb2.held.getD vb0.toNat (Ty.zero .piec)).off+a.1)) λe2=>
  .grd (ba vb2.held vb0)<|
  .grd (ba ((vb2.held.getD vb0.toNat (Ty.zero .piec)).text) a.1)<|
  .val (IntKind.wrap .i64 (af ((vb2.held.getD vb0.toNat (Ty.zero .piec)).text) a.1.toNat)) λe3=>
  .grd (ba a.2 e2)<|
  .ret (.next ((IntKind.wrap .i64 (a.1+1)),(a.2.set e2.toNat e3))))<|
 .ret (.out a.2)
noncomputable def dB:jd.V->LW jd (Int×List Int) ((List Int)):=λ(vb0,vb1,vb2,vb3,_)=>⟨(vb1,vb3),λa=>(vb0,a.1,vb2,a.2,()),mg vb0 vb2,Int.toNat (((vb2.held.getD vb0.toNat (Ty.zero .piec)).text.length:Int)-vb1),oN (.exit 4) ⟨[zp 1 0,zu 2,zo 3 1,zi 5],[zg .recv,za .i64]⟩ (λp=>(vb0,vb2,p,()))⟩
theorem BV:LS Tryz.prog pB [1,0] (Zt 4 jd dB):=VA st (aW pG) _ dB [] trivial
theorem CD {vb0 vb1:Int}{vb2:Recv}{vb3:List Int}(h0:0<=vb0)(h1:vb0<(vb2.held.length:Int))(h2:dP po vb2.held)(h3:ax vb2)(h4:0<=vb1/\vb3.length=33):(dB (vb0,vb1,vb2,vb3,())).W (λp=>p.length=33):=
 LW.okW (a:=(vb1,vb3)) (λa=>0<=a.1/\a.2.length=33) (λa=>Int.toNat (((vb2.held.getD vb0.toNat (Ty.zero .piec)).text.length:Int)-a.1)) rfl h4 λ(vb1,vb3) hv=>by
  refine Tr.G2 ?_ λg0=>Tr.I (λb1=>Tr.G2 ?_ λg2=>Tr.V λe2 he2=>Tr.G2 ?_ λg3=>Tr.G2 ?_ λg4=>Tr.V λe3 he3=>Tr.G2 ?_ λg5=>Tr.Rn ?_) λb1=>Tr.Ro ?_
  all_goals ((have hp:=ab1 (i:=vb0.toNat) h2 (by omega);simp only[po]at hp;grind))
noncomputable def vQ (v1:Recv)(v0:Int)(a:List Int):Tr (Stp (List Int) (Empty)):=
 .lp (dB (v0,0,v1,a,())).lp λp4a0=>
 .ret (.next p4a0)
noncomputable def eP:kR.V->wa kR (List Int):=λ(v0,v1,v2,_)=>⟨v0,v2,λv0 a=>(v0,v1,a,()),λv0 _=>(decide (v0<(v1.held.length:Int))),vQ v1,up,1,(Int.toNat ((v1.held.length:Int)-v0)),Empty.elim,Prod.mk,oN (.exit 2) ⟨[zu 2,zo 3 0],[za .i64]⟩ (λx=>(x.2,()))⟩
theorem F6:LS Tryz.prog pB [1] (kD 2 kR eP):=fa st (aW pG) _ eP [(Zt 4 jd dB)] ⟨BV,trivial⟩
theorem Gl {v0:Int}{v1:Recv}{v2:List Int}(h0:0<=v0)(h1:(v1.held.length:Int)<=4611686018427387904)(h2:dP po v1.held)(h3:ax v1)(h4:v2.length=33):(eP (v0,v1,v2,())).U (v1.held.length:Int) (λv0 a=>a.length=33) (λ_=>True):=
 LC.okU (i:=v0) (a:=v2) (λ_ _=>rfl) (λ_=>rfl) rfl h0 h1 h4 λv0 v2 hj hk hv=>by
  refine Tr.L (CD ?_ ?_ ?_ ?_ ?_) (λa=>Empty.elim a) (λp4a0 _=>Tr.Rn ?_)
  all_goals ((try simp only[dB,LW.lp,LW.cw,Cw.lp]at*)<;>grind)
noncomputable def uB:FT (Recv×Unit) (List Int) (λx=>ax x.1/\dP po x.1.held) (λx v=>sS v/\v.length=33):=⟨λ(x0,_)=>
  .lp (cc (0,x0,(List.replicate 33 0),())).lp λ(_,a1_0)=>
  .lp (eP (0,x0,a1_0,())).lp λ(_,a5_0)=>
  .ret a5_0,
 λ(x0,_) hp=>by
  refine Tr.L (F2 ?_ ?_ ?_ ?_) (λa1_0 _=>Tr.L (Gl ?_ ?_ ?_ ?_ ?_) (λa5_0 _=>Tr.R ?_) (λp=>Empty.elim p)) (λp=>Empty.elim p)
  all_goals ((try simp only[cc,eP,LC.lp,LC.ct,Ct.lp]at*)<;>grind)⟩
noncomputable def Nv:=cI st pB pG [(kD 0 kQ cc),(kD 2 kR eP)] (ks:=[.st .recv]) uB (λv=>[(false,[sc (.o true) .i64 v])]) Tryz.func387 ⟨F5,F6,trivial⟩
def xU:Sh:=⟨[zl 0 .i64,zi 5],[]⟩
noncomputable def mU (v0:List Int)(v1:Int)(a:Unit):Tr (Stp (Unit) ((Unit))):=
 .grd (ba v0 v1)<|
 .ite (decide (0<=(v0.getD v1.toNat 0))) (.ret (.out ()))<|
 .ret (.next ())
noncomputable def mR:xU.V->nL xU Unit (Unit):=λ(v0,v1,_)=>⟨v1,(),λv1 _=>(v0,v1,()),λv1 _=>(decide (v1<(v0.length:Int))),mU v0,up,1,(Int.toNat ((v0.length:Int)-v1)),.inl,eR,oB .ret ⟨[zb 4],[]⟩ (λ_=>(false,())) (.exit 0) ⟨[zu 4],[]⟩ (λ_=>())⟩
theorem Ix {v0:List Int}{v1:Int}(h0:0<=v1)(h1:(v0.length:Int)<=4611686018427387904):(mR (v0,v1,())).U (v0.length:Int) (λ_ _=>True) (λ_=>True):=
 kx h0 h1 trivial
noncomputable def tg:FT (List Int×Int×Unit) (Bool) (λx=>sS x.1/\0<=x.2.1) (λ_ _=>True):= .mk (λ(x0,x1,_)=>
  .lp (mR (x0,x1,())).lp λw1=> .sum w1 (λ_=>
  .ret false)<|
  λ_=>
  .ret true) (np @Ix)
noncomputable def Pf:=dr st Tryz.func388 [(0,lb [0,5] [4])] [] 0 mR (ks:=[.sc (.sl .i64),.sc (.int .i64)]) tg rB
def tC:Sh:=⟨[zl 0 .i64,zi 1,zo 5 0,zi 6],[za .piec]⟩
noncomputable def cf (v0:List Int)(v1:Int)(v2:Int)(a:List Piec):Tr (Stp (List Piec) (Empty)):=
 .grd (ba v0 v2)<|
 .ite (decide ((v0.getD v2.toNat 0)<0)) (.ret (.next a))<|
 .bnd (β:=Bool×Unit) (.ite (decide (0<(a.length:Int))) (.grd (ba a (IntKind.wrap .i64 ((a.length:Int)-1)))<|
   .val ((a.getD (IntKind.wrap .i64 ((a.length:Int)-1)).toNat (Ty.zero .piec)).off) λe1=>
   .grd (ba a (IntKind.wrap .i64 ((a.length:Int)-1)))<|
   .val ((a.getD (IntKind.wrap .i64 ((a.length:Int)-1)).toNat (Ty.zero .piec)).text) λe2=>
   .ret (((IntKind.wrap .i64 (e1+(e2.length:Int)))==(IntKind.wrap .i64 (v2-v1))),()))<|
  .ret (false,())) λ(u3a0,_)=>
 .ite u3a0 (.grd (ba a (IntKind.wrap .i64 ((a.length:Int)-1)))<|
  .val ((a.getD (IntKind.wrap .i64 ((a.length:Int)-1)).toNat (Ty.zero .piec)).text) λe4=>
  .grd (ba v0 v2)<|
  .grd (Nat.ble (e4.length+(az [(IntKind.wrap .u8 (v0.getD v2.toNat 0))]).length) am)<|
  .grd (ba a (IntKind.wrap .i64 ((a.length:Int)-1)))<|
  .val (a.set (IntKind.wrap .i64 ((a.length:Int)-1)).toNat (⟨(a.getD (IntKind.wrap .i64 ((a.length:Int)-1)).toNat (Ty.zero .piec)).off,(e4++(az [(IntKind.wrap .u8 (v0.getD v2.toNat 0))]))⟩:Piec)) λl5=>
  .ret (.next l5))<|
 .grd (ba v0 v2)<|
 .grd (De a 1 24)<|
 .val (a++[(⟨(IntKind.wrap .i64 (v2-v1)),(az [(IntKind.wrap .u8 (v0.getD v2.toNat 0))])⟩:Piec)]) λl6=>
 .ret (.next l6)
noncomputable def gP:tC.V->wa tC (List Piec):=λ(v0,v1,v2,v3,_)=>⟨v2,v3,λv2 a=>(v0,v1,v2,a,()),λv2 _=>(decide (v2<(v0.length:Int))),cf v0 v1,up,1,(Int.toNat ((v0.length:Int)-v2)),Empty.elim,Prod.mk,oN (.exit 0) ⟨[zu 4,zo 5 0],[za .piec]⟩ (λx=>(x.2,()))⟩
theorem DI {v0:List Int}{v1 v2:Int}{v3:List Piec}(h0:0<=v2)(h1:(v0.length:Int)<=4611686018427387904)(h2:sS v0)(h3:(v3.length:Int)<=v2/\dP (pl v2) v3):(gP (v0,v1,v2,v3,())).U (v0.length:Int) (λv2 a=>(a.length:Int)<=v2/\dP (pl v2) a) (λ_=>True):=
 LC.okU (i:=v2) (a:=v3) (λ_ _=>rfl) (λ_=>rfl) rfl h0 h1 h3 λv2 v3 hj hk hv=>by
  refine Tr.G2 ?_ λg0=>Tr.I (λb1=>Tr.Rn ?_) λb1=>Tr.B (Q':=λw=>(w.1=true->0<v3.length)) (Tr.I (λb2=>Tr.G2 ?_ λg3=>Tr.V λe1 he1=>Tr.G2 ?_ λg4=>Tr.V λe2 he2=>Tr.R ?_) λb2=>Tr.R ?_) (λ(u3a0,_) hj3 qj3=>Tr.I (λb2=>Tr.G2 ?_ λg3=>Tr.V λe4 he4=>Tr.G2 ?_ λg4=>Tr.Gb ?_ λg5=>Tr.G2 ?_ λg6=>Tr.V λl5 hl5=>Tr.Rn ?_) λb2=>Tr.G2 ?_ λg3=>Tr.Gb ?_ λg4=>Tr.V λl6 hl6=>Tr.Rn ?_)
  all_goals ((try simp only[Tr.nice,kt]at*)<;>(have hp:=abF hv.2 (show(0:Int)<=v2 by omega);have hu:=ab6 hv.2;have hw:0<v3.length->IntKind.wrap .i64 ((v3.length:Int)-1)=v3.length-1:=λh=>aj (by omega) (by simp only[sS]at h2;omega);have hq:=hp (IntKind.wrap .i64 ((v3.length:Int)-1)).toNat;(try rw[<-he4]at hq);clear hj hp;first|omega|(simp only[aX,List.length_cons,List.length_nil,am,sS]at*;omega)|(subst hl5;exact⟨by rw[List.length_set];omega,aaT hu (by simp only[pl,List.length_append,aX,List.length_cons,List.length_nil];omega)⟩)|(subst hl6;exact⟨by simp only[List.length_append,List.length_cons,List.length_nil];omega,aat hu (by simp only[pl,aX,List.length_cons,List.length_nil];omega)⟩)|grind))
noncomputable def oS:FT (List Int×Int×Unit) (List Piec) (λx=>sS x.1/\0<=x.2.1/\x.2.1<=4294967296) (λx v=>sL bD v):=⟨λ(x0,x1,_)=>
  .lp (gP (x0,x1,x1,[],())).lp λ(_,a7_0)=>
  .ret a7_0,
 λ(x0,x1,_) hp=>by
  refine Tr.L (DI ?_ ?_ ?_ ?_) (λa7_0 i7=>Tr.R ?_) (λp=>Empty.elim p)
  all_goals ((try simp only[gP,LC.lp,LC.ct,Ct.lp]at*)<;>grind [abX])⟩
noncomputable def KA:=dr st Tryz.func389 [(0,lb [0,1,5,6] [4,5]),(3000007,rA 0 44)] [] 0 gP (ks:=[.sc (.sl .i64),.sc (.int .i64)]) oS (λv=>[(false,[sc (.o true) .piec v])])
noncomputable def NM:List (Ent1 Tryz.prog):=[]
def E8:An:=⟨⟨[],[],false,0⟩,⟨[1,2],[],false,0⟩,⟨[],[]⟩,[(.ret,⟨[zp 1 0,zi 2],[zg .conn]⟩),(.normal,⟨[zp 1 0,zi 2],[zg .conn]⟩)]⟩
noncomputable def NU:Fx:=⟨390,Tryz.f390,[(1000005,E8),(3000006,rA 0 12)],0⟩
noncomputable def vb:FT (Conn×Unit) (Int) (λx=>ah x.1) (λ_ _=>True):= .mk λ(x0,_)=>
  .bnd (β:=(Int×Conn×Unit)⊕(Int×Conn×Unit)) (.as (Sum.elim (λw=>ah w.2.1) (λw=>ah w.2.1)) (.ite (x0.state==1) (.ite x0.r.done (.ret (.inl (4,x0,())))<|
    .ret (.inr ((0,x0,()))))<|
   .ite (x0.state==2) (.bnd (β:=Bool×Unit) (.ite x0.s.done (.ret (x0.r.done,()))<|
     .ret (false,())) λ(u1a0,_)=>
    .ite u1a0 (.ret (.inl (7,x0,())))<|
    .ite x0.s.done (.ret (.inl (3,x0,())))<|
    .ite x0.r.done (.ret (.inl (5,x0,())))<|
    .ret (.inr ((0,x0,()))))<|
   .ite (x0.state==3) (.ite x0.r.done (.ret (.inl (7,x0,())))<|
    .ret (.inr ((0,x0,()))))<|
   .ite (x0.state==5) (.ite x0.s.done (.ret (.inl (7,x0,())))<|
    .ret (.inr ((0,x0,()))))<|
   .ite (x0.state==6) (.ite x0.s.done (.ret (.inl (8,x0,())))<|
    .ret (.inr ((0,x0,()))))<|
   .ret (.inr ((0,x0,()))))) λw2=> .sum w2 (λ(u2a0,_,_)=>
  .ret u2a0)<|
  λ(_,u2b1,_)=>
  .ret u2b1.state
noncomputable def OU:=cI st NU NM [] (ks:=[.st .conn]) vb rI Tryz.func390 trivial
noncomputable def va:FF (Int×Int×Unit) (Sipr):=⟨λ(x0,x1,_)=>
  .ret (⟨(bits .xor .u64 x0 8317987319222330741),(bits .xor .u64 x1 7237128888997146477),(bits .xor .u64 x0 7816392313619706465),(bits .xor .u64 x1 8387220255154660723)⟩:Sipr)⟩
noncomputable def ME:=gj st Tryz.func391 [] (ks:=[.sc (.int .u64),.sc (.int .u64)]) va (λv=>[(true,DR v)])
def zK:Sh:=⟨[zs 0,(3,false,[.int .u64]),zi 4],[]⟩
noncomputable def KH (v0:ac)(v2:Int)(a:Int):Tr (Stp (Int) (Empty)):=
 .grd (ba v0 v2)<|
 .val (bits .or .u64 (IntKind.wrap .u64 (a*256)) (IntKind.wrap .u64 (af v0 v2.toNat))) λe1=>
 .ret (.next e1)
noncomputable def oG:zK.V->wa zK Int:=λ(v0,v1,v2,_)=>⟨v2,v1,λv2 a=>(v0,a,v2,()),λv2 _=>(decide (0<=v2)),KH v0,dn,(-1),(Int.toNat (v2-0+1)),Empty.elim,Prod.mk,oN (.exit 0) ⟨[zu 2,(3,false,[.int .u64])],[]⟩ (λx=>(x.2,()))⟩
theorem KZ {v0:ac}{v1 v2:Int}(h0:v2<=9223372036854775807)(h1:v2<(v0.length:Int)):(oG (v0,v1,v2,())).D 0 (λv2 a=>v2<(v0.length:Int)) (λ_=>True):=
 lcD (a:=v1) h0 (by decide) h1
noncomputable def qN:FT (ac×Unit) (Int) (λx=>sS x.1) (λ_ _=>True):= .mk (λ(x0,_)=>
  .lp (oG (x0,0,(IntKind.wrap .i64 ((x0.length:Int)-1)),())).lp λ(_,a2_0)=>
  .ret a2_0) (np @KZ)
noncomputable def Td:=dr st Tryz.func393 [(0,lb [0,3,4] [2,3])] [] 0 oG (ks:=[.sc .str]) qN (λv=>[(false,[.c (.int .u64 v)])])
noncomputable def qA:FF (Int×Int×Unit) (Sipr):=⟨λ(x0,x1,_)=>
  .ret (⟨(bits .xor .u64 x0 8317987319222330741),(bits .xor .u64 x1 7237128888997146477),(bits .xor .u64 x0 7816392313619706465),(bits .xor .u64 x1 8387220255154660723)⟩:Sipr)⟩
noncomputable def Oy:=gj ao Tryz.func395 [] (ks:=[.sc (.int .u64),.sc (.int .u64)]) qA (λv=>[(true,DR v)])
def zX:Sh:=⟨[zl 0 .u8,(3,false,[.int .u64]),zi 4],[]⟩
noncomputable def KQ (v0:List Int)(v2:Int)(a:Int):Tr (Stp (Int) (Empty)):=
 .grd (ba v0 v2)<|
 .val (bits .or .u64 (IntKind.wrap .u64 (a*256)) (IntKind.wrap .u64 (v0.getD v2.toNat 0))) λe1=>
 .ret (.next e1)
noncomputable def oe:zX.V->wa zX Int:=λ(v0,v1,v2,_)=>⟨v2,v1,λv2 a=>(v0,a,v2,()),λv2 _=>(decide (0<=v2)),KQ v0,dn,(-1),(Int.toNat (v2-0+1)),Empty.elim,Prod.mk,oN (.exit 0) ⟨[zu 2,(3,false,[.int .u64])],[]⟩ (λx=>(x.2,()))⟩
theorem Ld {v0:List Int}{v1 v2:Int}(h0:v2<=9223372036854775807)(h1:v2<(v0.length:Int)):(oe (v0,v1,v2,())).D 0 (λv2 a=>v2<(v0.length:Int)) (λ_=>True):=
 lcD (a:=v1) h0 (by decide) h1
noncomputable def rg:FT (List Int×Unit) (Int) (λx=>sS x.1/\8<=x.1.length) (λ_ _=>True):= .mk (λ(x0,_)=>
  .lp (oe (x0,0,7,())).lp λ(_,a2_0)=>
  .ret a2_0) (np @Ld)
noncomputable def Uw:=dr ao Tryz.func397 [(0,lb [0,3,4] [2,3])] [] 0 oe (ks:=[.sc (.sl .u8)]) rg (λv=>[(false,[.c (.int .u64 v)])])
def rU:Sh:=⟨[zl 0 .bool,zb 1,zi 7,zi 8],[]⟩
noncomputable def rV (v0:List Bool)(v1:Bool)(v3:Int)(a:Unit):Tr (Stp (Unit) ((Int))):=
 .grd (ba v0 v3)<|
 .ite (v1==(v0.getD v3.toNat false)) (.ret (.out v3))<|
 .ret (.next ())
noncomputable def ji:rU.V->nL rU Unit (Int):=λ(v0,v1,v2,v3,_)=>⟨v3,(),λv3 _=>(v0,v1,v2,v3,()),λv3 _=>(decide (v3<v2)),rV v0 v1,up,1,(Int.toNat (v2-v3)),.inl,eR,oB .ret ⟨[zi 4],[]⟩ (λp=>(p,())) (.exit 0) ⟨[zu 4],[]⟩ (λ_=>())⟩
theorem BS {v0:List Bool}{v1:Bool}{v2 v3:Int}(h0:0<=v3)(h1:v2<=4611686018427387904)(h2:v2<=(v0.length:Int)):(ji (v0,v1,v2,v3,())).U v2 (λ_ _=>True) (λp=>v3<=p/\p<v2):=
 kx h0 h1 trivial
noncomputable def pU:FT (List Bool×Bool×Unit) (Int) (λx=>wS x.1) (λx v=> -1<=v/\v<x.1.length):= .mk (λ(x0,x1,_)=>
  .lp (ji (x0,x1,(x0.length:Int),0,())).lp λw1=> .sum w1 (λp1a0=>
  .ret p1a0)<|
  λ_=>
  .ret (-1)) (np @BS)
noncomputable def Ki:=dr st Tryz.func399 [(0,lb [0,1,7,8] [4])] [] 0 ji (ks:=[.sc (.sl .bool),.sc .bool]) pU rI
noncomputable def dQ:FX (Piec×Int×Unit) (Int) (λ_=>True) (cG [.st .piec,.sc (.int .i64)]):=⟨λ(x0,x1,_)=>
  .ite (decide ((IntKind.wrap .i64 (x1-(x0.text.length:Int)))<0)) (.ret (-1))<|
  .ret (IntKind.wrap .i64 (x1-(x0.text.length:Int))),
 λ(x0,x1,_) hp hf=>by
  simp only[cG,Pk.fact,jT,gy,Fl.fact,Ty.fl,Ty.toH]at hf
  refine Tr.F (by kernel_rfl) trivial⟩
theorem kA {a e:Int}(h:0<=(bif decide (a<0)then-1 else e)):0<=a/\(bif decide (a<0)then-1 else e)=e:=by
 by_cases c:a<0
 ·rw[decide_eq_true c,cond_true]at h;omega
 ·rw[decide_eq_false c];exact⟨by omega,rfl⟩
theorem Gr {T:Type}(F:T->Int->Int)(P:T->Prop):∀(r:List T) (j:Nat) (a b:Int),(∀x∈r,∀k,0<=k->k<=1048576->0<=F x k->F x k<=k/\P x)->0<=a->a<=1048576->eT (λ_ x a=>bif decide (F x a<0)then Stp.out (F x a)else Stp.next (F x a)) j r a= .next b->(0<=b/\b<=a)/\∀y∈r,P y
 |[],_,a,b,_,h0,h1,h=>by
  cases h
  exact⟨⟨h0,Int.le_refl _⟩,λy hy=>by cases hy⟩
 |x::r,j,a,b,hF,h0,h1,h=>by
  simp only[eT]at h
  by_cases c:F x a<0
  ·rw[decide_eq_true c,cond_true]at h;cases h
  ·rw[decide_eq_false c,cond_false]at h
   simp only[Stp.elim]at h
   obtain⟨h2,h3⟩:=hF x List.mem_cons_self a h0 h1 (by omega)
   obtain⟨h4,h5⟩:=Gr F P r (j+1) _ b (λy hy=>hF y (List.mem_cons_of_mem _ hy)) (by omega) (by omega) h
   refine⟨⟨h4.1,by omega⟩,λy hy=> ?_⟩
   rcases List.mem_cons.1 hy with rfl|hy
   ·exact h3
   ·exact h5 y hy
theorem VO (x:Piec)(k:Int)(h0:0<=k)(h1:k<=1048576)(hl:x.text.length<=4611686018427387904)(h:0<=dQ.f (x,k,())):dQ.f (x,k,())<=k/\x.text.length<=1048576:=by
 have w:IntKind.wrap .i64 (k-(x.text.length:Int))=k-(x.text.length:Int):=aj (by omega) (by omega)
 simp only[FX.f,dQ,Tr.nice,w]at h|-
 by_cases c:k-(x.text.length:Int)<0
 ·rw[decide_eq_true c,cond_true]at h;omega
 ·rw[decide_eq_false c,cond_false];exact⟨by omega,by omega⟩
noncomputable def Ra:=sC st Tryz.func400 [] (ks:=[.st .piec,.sc (.int .i64)]) dQ rI
noncomputable def Eg:FT (Piec×Unit) (Piec) (λx=>bD x.1) (λx v=>bD v):= .mk λ(x0,_)=>
  .ret x0
noncomputable def PF:=aU ao Tryz.func401 [] (ks:=[.st .piec]) Eg (λv=>[(true,abl v)])
noncomputable def j6:FT (Int×Int×Unit) (Int) (λx=>0<=x.2.1) (λ_ _=>True):= .mk λ(x0,x1,_)=>
  .grd (decide (0<=x1))<|
  .grd (decide (0<=(IntKind.wrap .u64 (64-x1))))<|
  .val (bits .or .u64 (IntKind.wrap .u64 (x0*2 ^ (min x1.toNat 64))) (x0.fdiv (2 ^ (min (IntKind.wrap .u64 (64-x1)).toNat 64)))) λe1=>
  .ret e1
noncomputable def SF:=aU st Tryz.func404 [] (ks:=[.sc (.int .u64),.sc (.int .u64)]) j6 (λv=>[(false,[.c (.int .u64 v)])])
noncomputable def dd:FT (Int×Int×Unit) (Int) (λ_=>True) (λ_ _=>True):= .mk λ(x0,x1,_)=>
  .grd (decide (0<=(bits .and .u64 (IntKind.wrap .u64 x1) 63)))<|
  .val (IntKind.wrap .u64 (x0*2 ^ (min (bits .and .u64 (IntKind.wrap .u64 x1) 63).toNat 64))) λe1=>
  .grd (decide (0<=(IntKind.wrap .u64 (64-(bits .and .u64 (IntKind.wrap .u64 x1) 63)))))<|
  .val (x0.fdiv (2 ^ (min (IntKind.wrap .u64 (64-(bits .and .u64 (IntKind.wrap .u64 x1) 63))).toNat 64))) λe2=>
  .ret (bits .or .u64 e1 e2)
noncomputable def BZ:=aU st Tryz.func405 [] (ks:=[.sc (.int .u64),.sc (.int .i64)]) dd (λv=>[(false,[.c (.int .u64 v)])])
noncomputable def vm:=[fP]
def iA:Sh:=⟨[zo 0 0,zi 1,zi 5],[.arr .str false false]⟩
noncomputable def vv:Fx:=⟨49,Tryz.f49,[(0,la ⟨[0,1,5],[],false,1⟩ ⟨[1,4],[],false,1⟩)],1⟩
noncomputable def iG (v1:Int)(a:Int×List ac):Tr (Stp (Int×List ac) (Empty)):=
 .cal bK.c (a.1,()) λc1=>
 .grd (ba a.2 v1)<|
 .ret (.next ((IntKind.wrap .i64 (a.1+1)),(a.2.set v1.toNat c1)))
noncomputable def bp:iA.V->wa iA (Int×List ac):=λ(v0,v1,v2,_)=>⟨v1,(v0,v2),λv1 a=>(a.1,v1,a.2,()),λv1 a=>(decide (v1<(a.2.length:Int))),iG,up,1,(Int.toNat ((v2.length:Int)-v1)),Empty.elim,Prod.mk,oN (.exit 0) ⟨[zi 1,zu 4],[.arr .str false false]⟩ (λx=>(x.2.1,x.2.2,()))⟩
theorem Ai:LS Tryz.prog vv [0] (kD 0 iA bp):=fa st (aW vm) _ bp [] trivial
theorem AW {v0 v1:Int}{v2:List ac}(h0:0<=v1)(h1:(v2.length:Int)<=4611686018427387904)(h2:sL sS v2)(h3:v2.length=v2.length/\dP sS v2/\v0<=9223372036854775807):(bp (v0,v1,v2,())).S (λv1 a=>a.2.length=v2.length/\a.2.length=v2.length/\dP sS a.2/\a.1<=9223372036854775807) (λ_=>True):=by
 refine LC.okS ⟨rfl,h3⟩ (λj a hj hv=>⟨⟨?_, ?_⟩, ?_⟩) (λa hv=> ?_)
 ·simp only[bp,decide_eq_true_eq]at*;omega
 ·simp only[bp]at*;exact upw (by omega) (by omega)
 ·refine Tr.C ?_ λ_ _ _=>Tr.G2 ?_ λ_=>Tr.Rn ?_
  all_goals (try simp only[bp]at*)<;>(grind)
 ·simp only[bp,decide_eq_false_iff_not]at*;omega
noncomputable def oc:FT (List ac×Int×Unit) (Int×List ac) (λx=>sL sS x.1/\x.2.1<=9223372036854775807) (λx v=>sL sS v.2/\v.1<=9223372036854775807):=⟨λ(x0,x1,_)=>
  .lp (bp (x1,0,x0,())).lp λ(_,a2_0,a2_1)=>
  .ret (a2_0,a2_1),
 λ(x0,x1,_) hp=>by
  refine Tr.L (AW ?_ ?_ ?_ ?_) (λ(a2_0,a2_1) _=>Tr.R ?_) (λp=>Empty.elim p)
  all_goals ((try simp only[bp,LC.lp,LC.ct,Ct.lp]at*)<;>grind)⟩
noncomputable def Ft:=oV st vv vm [(kD 0 iA bp)] [.wr false [.own 0],.sc (.int .i64)] [.arr .str] (λx y=>(y.1,x.2.1,())) oc (λv=>[(false,[.c (.int .i64 v.1)])]) (λx y v=>(v.2,())) Tryz.func49 (by kernel_rfl) ⟨Ai,trivial⟩
def qq:Sh:=⟨[zl 0 .str,zi 1,zi 5],[]⟩
noncomputable def iB (v0:List ac)(v2:Int)(a:Int):Tr (Stp (Int) ((Int))):=
 .grd (ba v0 v2)<|
 .cal bK.c (a,()) λc1=>
 .ite (!((v0.getD v2.toNat [])==c1)) (.ret (.out a))<|
 .ret (.next (IntKind.wrap .i64 (a+1)))
noncomputable def iE:qq.V->nL qq Int (Int):=λ(v0,v1,v2,_)=>⟨v2,v1,λv2 a=>(v0,a,v2,()),λv2 _=>(decide (v2<(v0.length:Int))),iB v0,up,1,(Int.toNat ((v0.length:Int)-v2)),.inl,eR,oB .ret ⟨[zi 1,zi 4],[]⟩ (λp=>(p,(-1),())) (.exit 0) ⟨[zi 1,zu 4],[]⟩ (λx=>(x.2,()))⟩
theorem AR {v0:List ac}{v1 v2:Int}(h0:0<=v2)(h1:(v0.length:Int)<=4611686018427387904)(h2:sL sS v0)(h3:v1<=9223372036854775807):(iE (v0,v1,v2,())).U (v0.length:Int) (λv2 a=>a<=9223372036854775807) (λ_=>True):=
 kx (a:=v1) h0 h1 h3
noncomputable def kL:FT (List ac×Int×Unit) (Int) (λx=>sL sS x.1/\x.2.1<=9223372036854775807) (λx v=>v<=9223372036854775807):= .mk (λ(x0,x1,_)=>
  .lp (iE (x0,x1,0,())).lp λw2=> .sum w2 (λ_=>
  .ret (-1))<|
  λ(_,a2_0)=>
  .ret a2_0) (np @AR)
noncomputable def Fe:=dr st Tryz.func51 [(0,lb [0,1,5] [1,4])] [fP] 0 iE (ks:=[.sc (.sl .str),.sc (.int .i64)]) kL rI
noncomputable def zZ:=[N8]
def kh:Sh:=⟨[zl 0 .macRow,zi 1,zi 5],[]⟩
noncomputable def z3:Fx:=⟨65,Tryz.f65,[(0,lb [0,1,5] [1,4])],0⟩
noncomputable def j3 (v0:List MacRow)(v2:Int)(a:Int):Tr (Stp (Int) ((Int))):=
 .grd (ba v0 v2)<|
 .cal be.c ((v0.getD v2.toNat (Ty.zero .macRow)),a,()) λc1=>
 .ite (decide (c1<0)) (.ret (.out c1))<|
 .ret (.next c1)
noncomputable def de:kh.V->nL kh Int (Int):=λ(v0,v1,v2,_)=>⟨v2,v1,λv2 a=>(v0,a,v2,()),λv2 _=>(decide (v2<(v0.length:Int))),j3 v0,up,1,(Int.toNat ((v0.length:Int)-v2)),.inl,eR,oB .ret ⟨[zi 1,zi 4],[]⟩ (λp=>(p,(-1),())) (.exit 0) ⟨[zi 1,zu 4],[]⟩ (λx=>(x.2,()))⟩
theorem DS:LS Tryz.prog z3 [0] (kD 0 kh de):=fa st (aW zZ) _ de [] trivial
theorem D5 {v0:List MacRow}{v1 v2:Int}(h0:0<=v2)(h1:(v0.length:Int)<=4611686018427387904):(de (v0,v1,v2,())).U (v0.length:Int) (λ_ _=>True) (λ_=>True):=
 kx (a:=v1) h0 h1 trivial
noncomputable def df:FX (List MacRow×Int×Unit) (Int) (λ_=>True) (cG [.sc (.sl .macRow),.sc (.int .i64)]):=⟨λ(x0,x1,_)=>
  .ite (decide ((IntKind.wrap .i64 (x1-(x0.length:Int)))<0)) (.ret (-1))<|
  .lp (de (x0,(IntKind.wrap .i64 (x1-(x0.length:Int))),0,())).lp λw2=> .sum w2 (λ_=>
  .ret (-1))<|
  λ(_,a2_0)=>
  .ret a2_0,
 λ(x0,x1,_) hp hf=>by
  simp only[cG,Pk.fact,jT,gy,Fl.fact,Ty.fl,Ty.toH]at hf
  refine Tr.I (λ_=>Tr.R trivial) λ_=>Tr.L (D5 ?_ ?_) (λa2_0 _=>Tr.Sr (Tr.R trivial)) (λp2a0 _=>Tr.Sl (Tr.R trivial))
  all_goals ((try simp only[de,LC.lp,LC.ct,Ct.lp]at*)<;>grind)⟩
theorem aaj (r:MacRow)(k:Int)(h0:0<=k)(h1:k<=1048576)(hr:r.input.length<=4611686018427387904):be.f (r,k,())=bif decide (k-(r.input.length:Int)<0)then-1 else k-(r.input.length:Int):=by
 simp only[FX.f,be,Tr.nice]
 rw[aj (by omega) (by omega)]
theorem EM:∀(r:List MacRow) (j:Nat) (a b:Int),0<=a->a<=1048576->(∀y∈r,y.input.length<=4611686018427387904)->eT (λ_ x a=>(bif decide (be.f (x,a,())<0)then Stp.out (be.f (x,a,()))else Stp.next (be.f (x,a,())))) j r a= .next b->(0<=b/\b<=a)/\∀y∈r,y.input.length<=1048576
 |[],_,a,b,h0,h1,_,h=>by
  cases h
  exact⟨⟨h0,Int.le_refl _⟩,λy hy=>by cases hy⟩
 |x::r,j,a,b,h0,h1,hr,h=>by
  have hx:=hr x List.mem_cons_self
  have e:=aaj x a h0 h1 hx
  simp only[eT,e]at h
  by_cases c:a-(x.input.length:Int)<0
  ·rw[decide_eq_true c,cond_true]at h;cases h
  ·rw[decide_eq_false c,cond_false,decide_eq_false c,cond_false]at h
   simp only[Stp.elim]at h
   obtain⟨h2,h3⟩:=EM r (j+1) _ b (by omega) (by omega) (λy hy=>hr y (List.mem_cons_of_mem _ hy)) h
   refine⟨⟨h2.1,by omega⟩,λy hy=> ?_⟩
   rcases List.mem_cons.1 hy with rfl|hy
   ·omega
   ·exact h3 y hy
theorem Oz (xs:List MacRow)(k:Int)(h0:0<=k)(h1:k<=1048576)(hl:xs.length<=140737488355328)(he:EV .macRow xs)(h:0<=df.f (xs,k,())):sL aE xs/\xs.length<=1048576:=by
 have hr:∀y∈xs,y.input.length<=4611686018427387904:=λy hy=>(he y hy (.str y.input) List.mem_cons_self).slen
 have w:IntKind.wrap .i64 (k-(xs.length:Int))=k-(xs.length:Int):=aj (by omega) (by omega)
 simp only[FX.f,PX,df,de,w,av]at h
 by_cases c:k-(xs.length:Int)<0
 ·rw[decide_eq_true c,cond_true]at h;omega
 rw[decide_eq_false c,cond_false]at h
 rw[bA xs _ rfl (F:=λ_ x a=>(bif decide (be.f (x,a,())<0)then Stp.out (be.f (x,a,()))else Stp.next (be.f (x,a,())))) (λj x a hx=>by
  simp only[PX,j3,aa,getD_some hx])]at h
 cases hn:eT (λ_ x a=>(bif decide (be.f (x,a,())<0)then Stp.out (be.f (x,a,()))else Stp.next (be.f (x,a,())))) 0 xs (k-(xs.length:Int))with
 |out p=>rw[hn]at h;simp only[Stp.elim]at h;omega
 |next b=>
  have:=EM xs 0 _ b (by omega) (by omega) hr hn
  refine⟨⟨by omega,λy hy=> ?_⟩,by omega⟩
  have:=this.2 y hy
  unfold aE;omega
theorem Ry (xs:List MacRow)(k:Int)(h0:0<=k)(h1:k<=1048576)(hl:xs.length<=140737488355328)(he:EV .macRow xs)(h:0<=df.f (xs,k,())):df.f (xs,k,())<=k/\xs.length<=1048576/\dP aE xs:=by
 have w:IntKind.wrap .i64 (k-(xs.length:Int))=k-(xs.length:Int):=aj (by omega) (by omega)
 simp only[FX.f,PX,df,de,w,av]at h|-
 by_cases c:k-(xs.length:Int)<0
 ·rw[decide_eq_true c,cond_true]at h;omega
 rw[decide_eq_false c,cond_false]at h|-
 have hf:∀(j:Nat) x a,xs[j]? =some x->(j3 xs (j:Int) a).nice=(bif decide (be.f (x,a,())<0)then Stp.out (be.f (x,a,()))else Stp.next (be.f (x,a,()))):=λj x a hx=>by
  simp only[PX,j3,aa,getD_some hx]
 rw[bA xs _ rfl (F:=λ_ x a=>(bif decide (be.f (x,a,())<0)then Stp.out (be.f (x,a,()))else Stp.next (be.f (x,a,())))) hf]at h|-
 cases hn:eT (λ_ x a=>(bif decide (be.f (x,a,())<0)then Stp.out (be.f (x,a,()))else Stp.next (be.f (x,a,())))) 0 xs (k-(xs.length:Int))with
 |out p=>rw[hn]at h;simp only[Stp.elim]at h;omega
 |next b=>
  obtain⟨h2,h3⟩:=Gr (λx a=>be.f (x,a,())) aE xs 0 _ b (λx hx k h0 h1 h=>(have h4:=Ut x k h0 h1 (he x hx (.str x.input) List.mem_cons_self).slen h;⟨h4.1,(by unfold aE;omega)⟩)) (by omega) (by omega) hn
  simp only[Stp.elim]
  exact⟨by omega,by omega,h3⟩
noncomputable def Ll:=YH st z3 zZ [(kD 0 kh de)] (ks:=[.sc (.sl .macRow),.sc (.int .i64)]) df rI Tryz.func65 ⟨DS,trivial⟩
def xI:Sh:=⟨[zl 0 .half,zo 3 0,zi 4],[za .half]⟩
noncomputable def xi (v0:List Half)(v1:Int)(a:List Half):Tr (Stp (List Half) (Empty)):=
 .grd (ba v0 v1)<|
 .val (Bl.f ((v0.getD v1.toNat (Ty.zero .half)),())) λc2=>
 .grd (ba a v1)<|
 .ret (.next (a.set v1.toNat c2))
noncomputable def jX:xI.V->wa xI (List Half):=λ(v0,v1,v2,_)=>⟨v1,v2,λv1 a=>(v0,v1,a,()),λv1 _=>(decide (v1<(v0.length:Int))),xi v0,up,1,(Int.toNat ((v0.length:Int)-v1)),Empty.elim,Prod.mk,oN (.exit 0) ⟨[zu 2,zo 3 0],[za .half]⟩ (λx=>(x.2,()))⟩
theorem I7 {v0 v2:List Half}{v1:Int}(h0:0<=v1)(h1:(v0.length:Int)<=4611686018427387904)(h2:sS v0)(h3:sS v2)(h4:v2.length=v2.length/\(v0.length:Int)<=(v2.length:Int)):(jX (v0,v1,v2,())).U (v0.length:Int) (λv1 a=>a.length=v2.length/\(v0.length:Int)<=(a.length:Int)) (λ_=>True):=
 kx (a:=v2) h0 h1 h4
noncomputable def yE:FT (List Half×Unit) (List Half) (λx=>sS x.1) (λx v=>sS v):=⟨λ(x0,_)=>
  .grd ((((decide (0<=(x0.length:Int)))&&(decide ((x0.length:Int)=(x0.length:Int))))&&(decide ((x0.length:Int)*96<=(aM:Int))))&&(decide ((x0.length:Int)<=(aM:Int))))<|
  .val (List.replicate ((x0.length:Int).toNat) (⟨⟨0,0,0⟩,0,0,⟨0,0,false,false,0,0⟩,0,0⟩:Half)) λl1=>
  .lp (jX (x0,0,l1,())).lp λ(_,a3_0)=>
  .ret a3_0,
 λ(x0,_) hp=>by
  refine Tr.G4 ?_ λ_=>Tr.V λ_ _=>Tr.L (I7 ?_ ?_ ?_ ?_ ?_) (λa3_0 _=>Tr.R ?_) (λp=>Empty.elim p)
  all_goals ((try simp only[jX,LC.lp,LC.ct,Ct.lp]at*)<;>grind)⟩
noncomputable def Qf:=dr ao Tryz.func70 [(0,lb [0,3,4] [2,3])] [TF] 0 jX (ks:=[.sc (.sl .half)]) yE (λv=>[(false,[sc (.o true) .half v])])
def tq:Sh:=⟨[zl 0 .macRow,zo 3 0,zi 4],[za .macRow]⟩
noncomputable def tT (v0:List MacRow)(v1:Int)(a:List MacRow):Tr (Stp (List MacRow) (Empty)):=
 .grd (ba v0 v1)<|
 .cal A8.c ((v0.getD v1.toNat (Ty.zero .macRow)),()) λc1=>
 .grd (ba a v1)<|
 .ret (.next (a.set v1.toNat c1))
noncomputable def gI:tq.V->wa tq (List MacRow):=λ(v0,v1,v2,_)=>⟨v1,v2,λv1 a=>(v0,v1,a,()),λv1 _=>(decide (v1<(v0.length:Int))),tT v0,up,1,(Int.toNat ((v0.length:Int)-v1)),Empty.elim,Prod.mk,oN (.exit 0) ⟨[zu 2,zo 3 0],[za .macRow]⟩ (λx=>(x.2,()))⟩
theorem Dj {v0 v2:List MacRow}{v1:Int}(h0:0<=v1)(h1:(v0.length:Int)<=4611686018427387904)(h2:sL aE v0)(h3:sL aE v2)(h4:v2.length=v2.length/\dP aE v2/\(v0.length:Int)<=(v2.length:Int)):(gI (v0,v1,v2,())).U (v0.length:Int) (λv1 a=>a.length=v2.length/\dP aE a/\(v0.length:Int)<=(a.length:Int)) (λ_=>True):=
 kx (a:=v2) h0 h1 h4
noncomputable def sm:FT (List MacRow×Unit) (List MacRow) (λx=>sL aE x.1) (λx v=>sL aE v):=⟨λ(x0,_)=>
  .grd ((((decide (0<=(x0.length:Int)))&&(decide ((x0.length:Int)=(x0.length:Int))))&&(decide ((x0.length:Int)*24<=(aM:Int))))&&(decide ((x0.length:Int)<=(aM:Int))))<|
  .lp (gI (x0,0,(List.replicate ((x0.length:Int).toNat) (⟨[],0⟩:MacRow)),())).lp λ(_,a2_0)=>
  .ret a2_0,
 λ(x0,_) hp=>by
  refine Tr.G4 ?_ λ_=>Tr.L (Dj ?_ ?_ ?_ ?_ ?_) (λa2_0 _=>Tr.R ?_) (λp=>Empty.elim p)
  all_goals ((try simp only[gI,LC.lp,LC.ct,Ct.lp]at*)<;>grind)⟩
noncomputable def Lm:=dr ao Tryz.func72 [(0,lb [0,3,4] [2,3])] [NI] 0 gI (ks:=[.sc (.sl .macRow)]) sm (λv=>[(false,[sc (.o true) .macRow v])])
def xj:Sh:=⟨[zl 0 .half,zl 1 .half,zi 5],[]⟩
noncomputable def wK (v0 v1:List Half)(v2:Int)(a:Unit):Tr (Stp (Unit) ((Unit))):=
 .grd (ba v0 v2)<|
 .grd (ba v1 v2)<|
 .val (Bj.f ((v0.getD v2.toNat (Ty.zero .half)),(v1.getD v2.toNat (Ty.zero .half)),())) λc1=>
 .ite (!c1) (.ret (.out ()))<|
 .ret (.next ())
noncomputable def mc:xj.V->nL xj Unit (Unit):=λ(v0,v1,v2,_)=>⟨v2,(),λv2 _=>(v0,v1,v2,()),λv2 _=>(decide (v2<(v0.length:Int))),wK v0 v1,up,1,(Int.toNat ((v0.length:Int)-v2)),.inl,eR,oB .ret ⟨[zb 4],[]⟩ (λ_=>(false,())) (.exit 0) ⟨[zu 4],[]⟩ (λ_=>())⟩
theorem JW {v0 v1:List Half}{v2:Int}(h0:0<=v2)(h1:(v0.length:Int)<=4611686018427387904)(h2:(v0.length:Int)<=(v1.length:Int)):(mc (v0,v1,v2,())).U (v0.length:Int) (λ_ _=>True) (λ_=>True):=
 kx h0 h1 trivial
noncomputable def y6:FT (List Half×List Half×Unit) (Bool) (λx=>sS x.1/\sS x.2.1) (λ_ _=>True):= .mk (λ(x0,x1,_)=>
  .ite ((x0.length:Int) != (x1.length:Int)) (.ret false)<|
  .lp (mc (x0,x1,0,())).lp λw2=> .sum w2 (λ_=>
  .ret false)<|
  λ_=>
  .ret true) (np @JW)
noncomputable def Pl:=dr st Tryz.func77 [(0,lb [0,1,5] [4])] [TX] 0 mc (ks:=[.sc (.sl .half),.sc (.sl .half)]) y6 rB
def s9:Sh:=⟨[zl 0 .macRow,zl 1 .macRow,zi 5],[]⟩
noncomputable def tD (v0 v1:List MacRow)(v2:Int)(a:Unit):Tr (Stp (Unit) ((Unit))):=
 .grd (ba v0 v2)<|
 .grd (ba v1 v2)<|
 .val (vc.f ((v0.getD v2.toNat (Ty.zero .macRow)),(v1.getD v2.toNat (Ty.zero .macRow)),())) λc1=>
 .ite (!c1) (.ret (.out ()))<|
 .ret (.next ())
noncomputable def kq:s9.V->nL s9 Unit (Unit):=λ(v0,v1,v2,_)=>⟨v2,(),λv2 _=>(v0,v1,v2,()),λv2 _=>(decide (v2<(v0.length:Int))),tD v0 v1,up,1,(Int.toNat ((v0.length:Int)-v2)),.inl,eR,oB .ret ⟨[zb 4],[]⟩ (λ_=>(false,())) (.exit 0) ⟨[zu 4],[]⟩ (λ_=>())⟩
theorem DW {v0 v1:List MacRow}{v2:Int}(h0:0<=v2)(h1:(v0.length:Int)<=4611686018427387904)(h2:(v0.length:Int)<=(v1.length:Int)):(kq (v0,v1,v2,())).U (v0.length:Int) (λ_ _=>True) (λ_=>True):=
 kx h0 h1 trivial
noncomputable def rF:FT (List MacRow×List MacRow×Unit) (Bool) (λx=>sL aE x.1/\sL aE x.2.1) (λ_ _=>True):= .mk (λ(x0,x1,_)=>
  .ite ((x0.length:Int) != (x1.length:Int)) (.ret false)<|
  .lp (kq (x0,x1,0,())).lp λw2=> .sum w2 (λ_=>
  .ret false)<|
  λ_=>
  .ret true) (np @DW)
noncomputable def KM:=dr st Tryz.func79 [(0,lb [0,1,5] [4])] [Nt] 0 kq (ks:=[.sc (.sl .macRow),.sc (.sl .macRow)]) rF rB
noncomputable def vU:=[fP]
def ic:Sh:=⟨[zo 0 0,zi 1,zi 5],[.arr .macRow false false]⟩
noncomputable def vJ:Fx:=⟨83,Tryz.f83,[(0,la ⟨[0,1,5],[],false,1⟩ ⟨[1,4],[],false,1⟩)],1⟩
noncomputable def iz (v1:Int)(a:Int×List MacRow):Tr (Stp (Int×List MacRow) (Empty)):=
 .cal bK.c (a.1,()) λc1=>
 .grd (ba a.2 v1)<|
 .grd ((decide (0<=v1))&&(decide (v1<((a.2.set v1.toNat (⟨c1,(a.2.getD v1.toNat (Ty.zero .macRow)).value⟩:MacRow)).length:Int))))<|
 .val ((a.2.set v1.toNat (⟨c1,(a.2.getD v1.toNat (Ty.zero .macRow)).value⟩:MacRow)).set v1.toNat (⟨((a.2.set v1.toNat (⟨c1,(a.2.getD v1.toNat (Ty.zero .macRow)).value⟩:MacRow)).getD v1.toNat (Ty.zero .macRow)).input,(IntKind.wrap .i64 (a.1+1))⟩:MacRow)) λl2=>
 .ret (.next ((IntKind.wrap .i64 ((IntKind.wrap .i64 (a.1+1))+1)),l2))
noncomputable def bt:ic.V->wa ic (Int×List MacRow):=λ(v0,v1,v2,_)=>⟨v1,(v0,v2),λv1 a=>(a.1,v1,a.2,()),λv1 a=>(decide (v1<(a.2.length:Int))),iz,up,1,(Int.toNat ((v2.length:Int)-v1)),Empty.elim,Prod.mk,oN (.exit 0) ⟨[zi 1,zu 4],[.arr .macRow false false]⟩ (λx=>(x.2.1,x.2.2,()))⟩
theorem AM:LS Tryz.prog vJ [0] (kD 0 ic bt):=fa st (aW vU) _ bt [] trivial
theorem Ar {v0 v1:Int}{v2:List MacRow}(h0:0<=v1)(h1:(v2.length:Int)<=4611686018427387904)(h2:sL aE v2)(h3:v2.length=v2.length/\dP aE v2/\v0<=9223372036854775807):(bt (v0,v1,v2,())).S (λv1 a=>a.2.length=v2.length/\a.2.length=v2.length/\dP aE a.2/\a.1<=9223372036854775807) (λ_=>True):=by
 refine LC.okS ⟨rfl,h3⟩ (λj a hj hv=>⟨⟨?_, ?_⟩, ?_⟩) (λa hv=> ?_)
 ·simp only[bt,decide_eq_true_eq]at*;omega
 ·simp only[bt]at*;exact upw (by omega) (by omega)
 ·refine Tr.C ?_ λ_ _ _=>Tr.G2 ?_ λ_=>Tr.G2 ?_ λ_=>Tr.V λ_ _=>Tr.Rn ?_
  all_goals (try simp only[bt]at*)<;>(grind)
 ·simp only[bt,decide_eq_false_iff_not]at*;omega
noncomputable def oA:FT (List MacRow×Int×Unit) (Int×List MacRow) (λx=>sL aE x.1/\x.2.1<=9223372036854775807) (λx v=>sL aE v.2/\v.1<=9223372036854775807):=⟨λ(x0,x1,_)=>
  .lp (bt (x1,0,x0,())).lp λ(_,a3_0,a3_1)=>
  .ret (a3_0,a3_1),
 λ(x0,x1,_) hp=>by
  refine Tr.L (Ar ?_ ?_ ?_ ?_) (λ(a3_0,a3_1) _=>Tr.R ?_) (λp=>Empty.elim p)
  all_goals ((try simp only[bt,LC.lp,LC.ct,Ct.lp]at*)<;>grind)⟩
noncomputable def FD:=oV st vJ vU [(kD 0 ic bt)] [.wr false [.own 0],.sc (.int .i64)] [.arr .macRow] (λx y=>(y.1,x.2.1,())) oA (λv=>[(false,[.c (.int .i64 v.1)])]) (λx y v=>(v.2,())) Tryz.func83 (by kernel_rfl) ⟨AM,trivial⟩
noncomputable def gG:FX (Link×Int×Unit) (Int) (λ_=>True) (cG [.st .link,.sc (.int .i64)]):=⟨λ(x0,x1,_)=>
  .cal lq.c (x0.cache,x1,()) λc1=>
  .ite (decide (c1<0)) (.ret (-1))<|
  .ret c1,
 λ(x0,x1,_) hp hf=>by
  simp only[cG,Pk.fact,jT,gy,Fl.fact,Ty.fl,Ty.toH]at hf
  refine Tr.C trivial λ_ _ _=>Tr.F (by kernel_rfl) trivial⟩
theorem Se (x:Link)(k:Int)(h0:0<=k)(h1:k<=1048576)(hl:x.cache.length<=140737488355328)(h:0<=gG.f (x,k,())):gG.f (x,k,())<=k/\x.cache.length<=1048576:=by
 have e:gG.f (x,k,())=(bif decide (lq.f (x.cache,k,())<0)then-1 else lq.f (x.cache,k,())):=by first|(simp only[FX.f,PX,gG];done)|(simp only[FX.f,PX,gG];rfl)
 rw[e]at h|-
 obtain⟨p0,e0⟩:=kA h
 rw[e0]at h|-
 have b0:=SN _ _ h0 (by omega) hl p0
 refine⟨by omega, ?_⟩
 exact b0.2
noncomputable def UX:=sC st Tryz.func87 [N6] (ks:=[.st .link,.sc (.int .i64)]) gG rI
noncomputable def cX:FF (Int×Int×Unit) (Int):=⟨λ(x0,x1,_)=>
  .val (cS.f (x0,())) λc1=>
  .val (cS.f (x1,())) λc2=>
  .val (cS.f ((IntKind.wrap .i64 (c1+c2)),())) λc3=>
  .ret c3⟩
noncomputable def ib:=gj st Tryz.func91 [nD] (ks:=[.sc (.int .i64),.sc (.int .i64)]) cX rI
noncomputable def Az:FT (Link×Int×Unit) (Int×List Entr) (λx=>eA x.1/\x.2.1<=9223372036854775807) (λx v=>sS v.2/\v.1<=9223372036854775807):= .mk λ(x0,x1,_)=>
  .cal pN.c (x0.cache,x1,()) λc1=>
  .ret (c1.1,c1.2)
noncomputable def NQ:=oV st ⟨100,Tryz.f100,[],1⟩ [I3] [] [.wr true [.c (.int .i64),.c (.int .i64),.own 0],.sc (.int .i64)] [.arr .entr] (λx y=>((⟨x.1.1,x.1.2.1,y.1⟩:Link),x.2.1,())) Az (λv=>[(false,[.c (.int .i64 v.1)])]) (λx y v=>(v.2,())) Tryz.func100 (by kernel_rfl) trivial
noncomputable def oq:FF (Opti×Unit) (Opti):=⟨λ(x0,_)=>
  .ite x0.stamp (.ret x0)<|
  .val (ck.f (())) λc1=>
  .ret ({c1 with mss:=x0.mss}:Opti)⟩
noncomputable def Fv:=gj st Tryz.func106 [iZ] (ks:=[.st .opti]) oq (λv=>[(true,pg v)])
noncomputable def i3:FF (Opti×Unit) (Opti):=⟨λ(x0,_)=>
  .ite x0.stamp (.ret x0)<|
  .val (bH.f (())) λc1=>
  .ret ({c1 with mss:=x0.mss}:Opti)⟩
noncomputable def Ff:=gj ao Tryz.func115 [ja] (ks:=[.st .opti]) i3 (λv=>[(true,pg v)])
noncomputable def aA:FT (Int×Int×Unit) (Bool) (λ_=>True) (λx v=>(x.2.1=32->(v=true↔0<=x.1/\x.1<=4294967295))/\(x.2.1=16->(v=true↔0<=x.1/\x.1<=65535))/\(x.2.1=48->(v=true↔0<=x.1/\x.1<=281474976710655))/\(x.2.1=8->(v=true↔0<=x.1/\x.1<=255))/\(x.2.1=6->(v=true↔0<=x.1/\x.1<=63))):=⟨λ(x0,x1,_)=>
  .val (cm.f (x1,1,62,())) λc1=>
  .ite c1 (.grd (decide (0<=(IntKind.wrap .u64 x1)))<|
   .val (IntKind.wrap .i64 ((IntKind.wrap .i64 (1*2 ^ (min (IntKind.wrap .u64 x1).toNat 64)))-1)) λe2=>
   .val (cm.f (x0,0,e2,())) λc3=>
   .ret c3)<|
  .ret false,
 λ(x0,x1,_) hp=>by
  refine Tr.V λ_ _=>Tr.I (λ_=>Tr.G1 ?_ λ_=>Tr.V λ_ _=>Tr.V λ_ _=>Tr.R ?_) λ_=>Tr.R ?_
  all_goals (grind [Qd])⟩
@[grind=] theorem P6 (x:Int):aA.f (x,32,())=(decide (0<=x)&&decide (x<=4294967295)):=by
 have h:=aA.c.h (x,32,()) trivial
 rw[Bool.eq_iff_iff]
 grind
@[grind=] theorem SA (x:Int):aA.f (x,16,())=(decide (0<=x)&&decide (x<=65535)):=by
 have h:=aA.c.h (x,16,()) trivial
 rw[Bool.eq_iff_iff]
 grind
@[grind=] theorem aaK (x:Int):aA.f (x,48,())=(decide (0<=x)&&decide (x<=281474976710655)):=by
 have h:=aA.c.h (x,48,()) trivial
 rw[Bool.eq_iff_iff]
 grind
@[grind=] theorem aa8 (x:Int):aA.f (x,8,())=(decide (0<=x)&&decide (x<=255)):=by
 have h:=aA.c.h (x,8,()) trivial
 rw[Bool.eq_iff_iff]
 grind
@[grind=] theorem abA (x:Int):aA.f (x,6,())=(decide (0<=x)&&decide (x<=63)):=by
 have h:=aA.c.h (x,6,()) trivial
 rw[Bool.eq_iff_iff]
 grind
noncomputable def bN:=aU st Tryz.func132 [cu] (ks:=[.sc (.int .i64),.sc (.int .i64)]) aA rB
noncomputable def ae:FT (Int×Int×Unit) (Bool) (λ_=>True) (λx v=>(x.2.1=32->(v=true↔0<=x.1/\x.1<=4294967295))/\(x.2.1=16->(v=true↔0<=x.1/\x.1<=65535))/\(x.2.1=48->(v=true↔0<=x.1/\x.1<=281474976710655))/\(x.2.1=8->(v=true↔0<=x.1/\x.1<=255))/\(x.2.1=6->(v=true↔0<=x.1/\x.1<=63))):= .mk λ(x0,x1,_)=>
  .val (a9.f (x1,1,62,())) λc1=>
  .ite c1 (.grd (decide (0<=x1))<|
   .val (IntKind.wrap .i64 ((IntKind.wrap .i64 (1*2 ^ (min x1.toNat 64)))-1)) λe2=>
   .val (a9.f (x0,0,e2,())) λc3=>
   .ret c3)<|
  .ret false
@[grind=] theorem bU (x:Int):ae.f (x,32,())=(decide (0<=x)&&decide (x<=4294967295)):=by
 have h:=ae.c.h (x,32,()) trivial
 rw[Bool.eq_iff_iff]
 grind
@[grind=] theorem cQ (x:Int):ae.f (x,16,())=(decide (0<=x)&&decide (x<=65535)):=by
 have h:=ae.c.h (x,16,()) trivial
 rw[Bool.eq_iff_iff]
 grind
@[grind=] theorem Qe (x:Int):ae.f (x,48,())=(decide (0<=x)&&decide (x<=281474976710655)):=by
 have h:=ae.c.h (x,48,()) trivial
 rw[Bool.eq_iff_iff]
 grind
@[grind=] theorem U2 (x:Int):ae.f (x,8,())=(decide (0<=x)&&decide (x<=255)):=by
 have h:=ae.c.h (x,8,()) trivial
 rw[Bool.eq_iff_iff]
 grind
@[grind=] theorem SR (x:Int):ae.f (x,6,())=(decide (0<=x)&&decide (x<=63)):=by
 have h:=ae.c.h (x,6,()) trivial
 rw[Bool.eq_iff_iff]
 grind
noncomputable def bI:=aU ao Tryz.func137 [bu] (ks:=[.sc (.int .i64),.sc (.int .i64)]) ae rB
noncomputable def AL:FT (Link×Int×Unit) (Int) (λx=>eA x.1/\x.2.1<=9223372036854775807) (λx v=>v<=9223372036854775807):= .mk λ(x0,x1,_)=>
  .cal qa.c (x0.cache,x1,()) λc1=>
  .ite (decide (c1<0)) (.ret (-1))<|
  .ret c1
noncomputable def Oh:=aU st Tryz.func149 [Jq] (ks:=[.st .link,.sc (.int .i64)]) AL rI
noncomputable def gt:FT (Conn×Unit) (Conn) (λx=>ah x.1) (λx v=>ah v/\v=x.1):=⟨λ(x0,_)=>
  .cal dT.c (x0.r,()) λc1=>
  .ret ({x0 with r.next:=c1.next,r.data:=c1.data,r.held:=c1.held,r.fin:=c1.fin,r.done:=c1.done}:Conn),
 λ(x0,_) hp=>by
  refine Tr.C ?_ λc1 hc1 qc1=>Tr.R ?_
  all_goals ((first|grind|(refine⟨by grind, ?_⟩;first|(simp only[List.nil_append];done)|(subst_vars;rfl)|simp_all)))⟩
noncomputable def jQ:=aU st Tryz.func153 [ES] (ks:=[.st .conn]) gt (λv=>[(true,nJ (.o true) v)])
noncomputable def yu:FT (Keys×Unit) (Keys) (λx=>dM x.1) (λx v=>dM v/\v=x.1):=⟨λ(x0,_)=>
  .cal nP.c (x0.now,()) λc1=>
  .cal nP.c (x0.before,()) λc2=>
  .ret (⟨x0.epoch,c1,c2,x0.two⟩:Keys),
 λ(x0,_) hp=>by
  refine Tr.C ?_ λc1 hc1 qc1=>Tr.C ?_ λc2 hc2 qc2=>Tr.R ?_
  all_goals ((first|grind|(refine⟨by grind, ?_⟩;first|(simp only[List.nil_append];done)|(subst_vars;rfl)|simp_all)))⟩
noncomputable def Rk:=aU st Tryz.func166 [EE] (ks:=[.st .keys]) yu (λv=>[(true,T9 (.o true) (.o true) v)])
def xD:Sh:=⟨[zp 1 0,zp 2 1,zp 3 2,zi 4],[.box [.st .tabl [.sl .arg,.sl .arg]],.box [.st .tabl [.nil .conn,.nil .tupl]],.box [.st .tabl [.own 3,.own 4]],zf,zf]⟩
noncomputable def xh (v1:Tabl)(v0:Int)(a:Tabl×Tabl):Tr (Stp (Tabl×Tabl) (Empty)):=
 .grd (ba v1.conns v0)<|
 .cal gt.c ((v1.conns.getD v0.toNat (Ty.zero .conn)),()) λc2=>
 .grd (De a.2.conns 1 208)<|
 .ret (.next ((⟨[],[]⟩:Tabl),(⟨(a.2.conns++[c2]),a.2.waiting⟩:Tabl)))
noncomputable def jA:xD.V->wa xD (Tabl×Tabl):=λ(v0,v1,v2,v3,_)=>⟨v0,(v2,v3),λv0 a=>(v0,v1,a.1,a.2,()),λv0 _=>(decide (v0<(v1.conns.length:Int))),xh v1,up,1,(Int.toNat ((v1.conns.length:Int)-v0)),Empty.elim,Prod.mk,oN (.exit 0) ⟨[zp 2 0,zp 3 1],[.box [.st .tabl [.nil .conn,.nil .tupl]],.box [.st .tabl [.own 2,.own 3]],zf,zf]⟩ (λx=>((⟨[],[]⟩:Tabl),x.2.2,()))⟩
theorem Hy {v0:Int}{v1 v2 v3:Tabl}(h0:0<=v0)(h1:(v1.conns.length:Int)<=4611686018427387904)(h2:ce v1)(h3:sS v3.waiting)(h4:ce v2/\(v3.conns.length:Int)=v0/\dP ah v3.conns/\v3.waiting.length=v3.waiting.length):(jA (v0,v1,v2,v3,())).U (v1.conns.length:Int) (λv0 a=>ce a.1/\(a.2.conns.length:Int)=v0/\dP ah a.2.conns/\a.2.waiting.length=v3.waiting.length) (λ_=>True):=
 kx (a:=(v2,v3)) h0 h1 h4
noncomputable def n9:FT (Tabl×Unit) (Tabl) (λx=>ce x.1) (λx v=>ce v/\v.conns.length=x.1.conns.length/\v.waiting.length=x.1.waiting.length):=⟨λ(x0,_)=>
  .grd (Nat.ble ((2*(0+x0.waiting.length)+1024)*24) aM)<|
  .lp (jA (0,x0,(⟨[],[]⟩:Tabl),(⟨[],([]++x0.waiting)⟩:Tabl),())).lp λ(_,_,a3_1)=>
  .ret a3_1,
 λ(x0,_) hp=>by
  refine Tr.Gb ?_ λ_=>Tr.L (Hy ?_ ?_ ?_ ?_ ?_) (λ(a3_0,a3_1) _=>Tr.R ?_) (λp=>Empty.elim p)
  all_goals ((try simp only[jA,LC.lp,LC.ct,Ct.lp]at*)<;>grind)⟩
noncomputable def wH:=dr st Tryz.func167 [(0,la ⟨[1,2,3,4],[.box 3 0 .conn],false,0⟩ ⟨[2,3],[],false,0⟩)] [jQ] 0 jA (ks:=[.st .tabl]) n9 (λv=>[(true,AE (.o true) (.o true) v)])
noncomputable def D4:=[cu]
def nl:Sh:=⟨[zp 1 0,zi 3,zi 4],[zg .mac]⟩
def pF:Sh:=⟨[zp 1 0,zi 3],[zg .mac]⟩
noncomputable def DM:Fx:=⟨169,Tryz.f169,[(2,lb [1,3,4] [1,2,3]),(0,lb [1,3] [1,2])],0⟩
noncomputable def rl (vb0:Int)(vb2:Mac)(vb1:Int)(a:Unit):Tr (Stp (Unit) ((Unit))):=
 .grd (ba vb2.rows vb1)<|
 .grd (ba vb2.rows vb0)<|
 .ite ((vb2.rows.getD vb1.toNat (Ty.zero .macRow)).input==(vb2.rows.getD vb0.toNat (Ty.zero .macRow)).input) (.ret (.out ()))<|
 .ret (.next ())
noncomputable def fm:nl.V->nL nl Unit (Unit):=λ(vb0,vb1,vb2,_)=>⟨vb1,(),λvb1 _=>(vb0,vb1,vb2,()),λvb1 _=>(decide (vb1<vb0)),rl vb0 vb2,up,1,(Int.toNat (vb0-vb1)),.inl,eR,oB .ret ⟨[zp 1 0,zb 2,zi 3],[zg .mac]⟩ (λ_=>(false,vb0,vb2,())) (.exit 2) ⟨[zp 1 0,zu 2,zi 3],[zg .mac]⟩ (λ_=>(vb0,vb2,()))⟩
theorem JP:LS Tryz.prog DM [0,0] (kD 2 nl fm):=fa st (aW D4) _ fm [] trivial
theorem Ig {vb0 vb1:Int}{vb2:Mac}(h0:0<=vb1)(h1:vb0<=4611686018427387904)(h2:vb0<=(vb2.rows.length:Int))(h3:0<=vb0)(h4:vb0<(vb2.rows.length:Int)):(fm (vb0,vb1,vb2,())).U vb0 (λ_ _=>True) (λ_=>True):=
 kx h0 h1 trivial
noncomputable def u7 (v1:Mac)(v0:Int)(a:Unit):Tr (Stp (Unit) ((Unit))):=
 .grd (ba v1.rows v0)<|
 .val (cm.f ((v1.rows.getD v0.toNat (Ty.zero .macRow)).value,0,16777215,())) λc1=>
 .ite (!c1) (.ret (.out ()))<|
 .lp (fm (v0,0,v1,())).lp λw2=> .sum w2 (λ_=>
 .ret (.out ()))<|
 λ_=>
 .ret (.next ())
noncomputable def ko:pF.V->nL pF Unit (Unit):=λ(v0,v1,_)=>⟨v0,(),λv0 _=>(v0,v1,()),λv0 _=>(decide (v0<(v1.rows.length:Int))),u7 v1,up,1,(Int.toNat ((v1.rows.length:Int)-v0)),.inl,eR,oB .ret ⟨[zp 1 0,zb 2],[zg .mac]⟩ (λ_=>(false,v1,())) (.exit 0) ⟨[zp 1 0,zu 2],[zg .mac]⟩ (λ_=>(v1,()))⟩
theorem MZ:LS Tryz.prog DM [0] (kD 0 pF ko):=fa st (aW D4) _ ko [(kD 2 nl fm)] ⟨JP,trivial⟩
theorem MS {v0:Int}{v1:Mac}(h0:0<=v0)(h1:(v1.rows.length:Int)<=4611686018427387904)(h2:cN v1):(ko (v0,v1,())).U (v1.rows.length:Int) (λ_ _=>True) (λ_=>True):=
 LC.okU (i:=v0) (a:=()) (λ_ _=>rfl) (λ_=>rfl) rfl h0 h1 trivial λv0 _ hj hk hv=>by
  refine Tr.G2 ?_ λ_=>Tr.V λ_ _=>Tr.I (λ_=>Tr.Ro trivial) λ_=>Tr.L (Ig ?_ ?_ ?_ ?_ ?_) (λ_ _=>Tr.Sr (Tr.Rn trivial)) (λ_ _=>Tr.Sl (Tr.Ro trivial))
  all_goals ((try simp only[fm,LC.lp,LC.ct,Ct.lp]at*)<;>grind)
noncomputable def CQ:FT (Mac×Unit) (Bool) (λx=>cN x.1) (λx v=>(v=true->x.1.rows.length<=64)):= .mk (λ(x0,_)=>
  .ite (!x0.use) (.ret ((x0.rows.length:Int)==0))<|
  .lp (ko (0,x0,())).lp λw3=> .sum w3 (λ_=>
  .ret false)<|
  λ_=>
  .ite (x0.k==0) (.ite (x0.l==0) (.ret (decide ((x0.rows.length:Int)<=64)))<|
   .ret false)<|
  .ret false) (np @MS)
noncomputable def VM:=cI st DM D4 [(kD 0 pF ko)] (ks:=[.st .mac]) CQ rB Tryz.func169 ⟨MZ,trivial⟩
noncomputable def lm:FT (Mac×Unit) (Mac) (λx=>cN x.1) (λx v=>cN v/\v=x.1):=⟨λ(x0,_)=>
  .cal lW.c (x0.rows,()) λc1=>
  .ret ({x0 with rows:=c1}:Mac),
 λ(x0,_) hp=>by
  refine Tr.C ?_ λc1 hc1 qc1=>Tr.R ?_
  all_goals ((first|grind|(refine⟨by grind, ?_⟩;first|(simp only[List.nil_append];done)|(subst_vars;rfl)|simp_all)))⟩
noncomputable def C4:=aU ao Tryz.func180 [D6] (ks:=[.st .mac]) lm (λv=>[(true,Qv (.o true) v)])
noncomputable def zQ:=[fP,IJ]
def ku:Sh:=⟨[(0,false,[.down 0]),zi 1,zi 5],[.dar .conn]⟩
noncomputable def zM:Fx:=⟨185,Tryz.f185,[(0,la ⟨[0,1,5],[],false,1⟩ ⟨[1,4],[],false,1⟩)],1⟩
noncomputable def j9 (v1:Int)(a:Int×List Conn):Tr (Stp (Int×List Conn) (Empty)):=
 .grd (ba a.2 v1)<|
 .grd ((decide (0<=v1))&&(decide (v1<((a.2.set v1.toNat ({(a.2.getD v1.toNat (Ty.zero .conn))with tuple.ip:=a.1}:Conn)).length:Int))))<|
 .val ((a.2.set v1.toNat ({(a.2.getD v1.toNat (Ty.zero .conn))with tuple.ip:=a.1}:Conn)).set v1.toNat ({((a.2.set v1.toNat ({(a.2.getD v1.toNat (Ty.zero .conn))with tuple.ip:=a.1}:Conn)).getD v1.toNat (Ty.zero .conn))with tuple.port:=(IntKind.wrap .i64 (a.1+1))}:Conn)) λl1=>
 .grd (ba l1 v1)<|
 .val (l1.set v1.toNat ({(l1.getD v1.toNat (Ty.zero .conn))with tuple.my:=(IntKind.wrap .i64 ((IntKind.wrap .i64 (a.1+1))+1))}:Conn)) λl2=>
 .val (IntKind.wrap .i64 ((IntKind.wrap .i64 ((IntKind.wrap .i64 (a.1+1))+1))+1)) λe3=>
 .grd (ba l2 v1)<|
 .grd ((decide (0<=v1))&&(decide (v1<((l2.set v1.toNat ({(l2.getD v1.toNat (Ty.zero .conn))with state:=e3}:Conn)).length:Int))))<|
 .val ((l2.set v1.toNat ({(l2.getD v1.toNat (Ty.zero .conn))with state:=e3}:Conn)).set v1.toNat ({((l2.set v1.toNat ({(l2.getD v1.toNat (Ty.zero .conn))with state:=e3}:Conn)).getD v1.toNat (Ty.zero .conn))with s.una:=(IntKind.wrap .i64 (e3+1))}:Conn)) λl4=>
 .cal bK.c ((IntKind.wrap .i64 ((IntKind.wrap .i64 (e3+1))+1)),()) λc5=>
 .grd (ba l4 v1)<|
 .val (IntKind.wrap .i64 ((IntKind.wrap .i64 ((IntKind.wrap .i64 (e3+1))+1))+1)) λe6=>
 .grd ((decide (0<=v1))&&(decide (v1<((l4.set v1.toNat ({(l4.getD v1.toNat (Ty.zero .conn))with s.data:=c5}:Conn)).length:Int))))<|
 .val ((l4.set v1.toNat ({(l4.getD v1.toNat (Ty.zero .conn))with s.data:=c5}:Conn)).set v1.toNat ({((l4.set v1.toNat ({(l4.getD v1.toNat (Ty.zero .conn))with s.data:=c5}:Conn)).getD v1.toNat (Ty.zero .conn))with s.sent:=e6}:Conn)) λl7=>
 .grd (ba l7 v1)<|
 .val (l7.set v1.toNat ({(l7.getD v1.toNat (Ty.zero .conn))with s.fin:=(((IntKind.wrap .i64 (e6+1)).tmod 3)==0)}:Conn)) λl8=>
 .grd (ba l8 v1)<|
 .val (l8.set v1.toNat ({(l8.getD v1.toNat (Ty.zero .conn))with s.finSent:=(((IntKind.wrap .i64 ((IntKind.wrap .i64 (e6+1))+1)).tmod 3)==0)}:Conn)) λl9=>
 .val (IntKind.wrap .i64 ((IntKind.wrap .i64 ((IntKind.wrap .i64 (e6+1))+1))+1)) λe10=>
 .grd (ba l9 v1)<|
 .val (l9.set v1.toNat ({(l9.getD v1.toNat (Ty.zero .conn))with s.done:=((e10.tmod 3)==0)}:Conn)) λl11=>
 .grd (ba l11 v1)<|
 .val (l11.set v1.toNat ({(l11.getD v1.toNat (Ty.zero .conn))with r.next:=(IntKind.wrap .i64 (e10+1))}:Conn)) λl12=>
 .cal bK.c ((IntKind.wrap .i64 ((IntKind.wrap .i64 (e10+1))+1)),()) λc13=>
 .grd (ba l12 v1)<|
 .val (IntKind.wrap .i64 ((IntKind.wrap .i64 ((IntKind.wrap .i64 (e10+1))+1))+1)) λe14=>
 .grd ((decide (0<=v1))&&(decide (v1<((l12.set v1.toNat ({(l12.getD v1.toNat (Ty.zero .conn))with r.data:=c13}:Conn)).length:Int))))<|
 .cal p6.c (((l12.set v1.toNat ({(l12.getD v1.toNat (Ty.zero .conn))with r.data:=c13}:Conn)).getD v1.toNat (Ty.zero .conn)).r.held,e14,()) λc15=>
 .val ((l12.set v1.toNat ({(l12.getD v1.toNat (Ty.zero .conn))with r.data:=c13}:Conn)).set v1.toNat ({((l12.set v1.toNat ({(l12.getD v1.toNat (Ty.zero .conn))with r.data:=c13}:Conn)).getD v1.toNat (Ty.zero .conn))with r.held:=c15.2}:Conn)) λl16=>
 .grd (ba l16 v1)<|
 .grd ((decide (0<=v1))&&(decide (v1<((l16.set v1.toNat ({(l16.getD v1.toNat (Ty.zero .conn))with r.fin:=c15.1}:Conn)).length:Int))))<|
 .val ((l16.set v1.toNat ({(l16.getD v1.toNat (Ty.zero .conn))with r.fin:=c15.1}:Conn)).set v1.toNat ({((l16.set v1.toNat ({(l16.getD v1.toNat (Ty.zero .conn))with r.fin:=c15.1}:Conn)).getD v1.toNat (Ty.zero .conn))with r.done:=(((IntKind.wrap .i64 (c15.1+1)).tmod 3)==0)}:Conn)) λl17=>
 .grd (ba l17 v1)<|
 .val (l17.set v1.toNat ({(l17.getD v1.toNat (Ty.zero .conn))with window:=(IntKind.wrap .i64 ((IntKind.wrap .i64 (c15.1+1))+1))}:Conn)) λl18=>
 .val (IntKind.wrap .i64 ((IntKind.wrap .i64 ((IntKind.wrap .i64 (c15.1+1))+1))+1)) λe19=>
 .grd (ba l18 v1)<|
 .grd ((decide (0<=v1))&&(decide (v1<((l18.set v1.toNat ({(l18.getD v1.toNat (Ty.zero .conn))with most:=e19}:Conn)).length:Int))))<|
 .val ((l18.set v1.toNat ({(l18.getD v1.toNat (Ty.zero .conn))with most:=e19}:Conn)).set v1.toNat ({((l18.set v1.toNat ({(l18.getD v1.toNat (Ty.zero .conn))with most:=e19}:Conn)).getD v1.toNat (Ty.zero .conn))with opts.mss:=(IntKind.wrap .i64 (e19+1))}:Conn)) λl20=>
 .grd (ba l20 v1)<|
 .val (l20.set v1.toNat ({(l20.getD v1.toNat (Ty.zero .conn))with opts.scale:=(IntKind.wrap .i64 ((IntKind.wrap .i64 (e19+1))+1))}:Conn)) λl21=>
 .val (IntKind.wrap .i64 ((IntKind.wrap .i64 ((IntKind.wrap .i64 (e19+1))+1))+1)) λe22=>
 .grd (ba l21 v1)<|
 .val (l21.set v1.toNat ({(l21.getD v1.toNat (Ty.zero .conn))with opts.sack:=((e22.tmod 3)==0)}:Conn)) λl23=>
 .grd (ba l23 v1)<|
 .val (l23.set v1.toNat ({(l23.getD v1.toNat (Ty.zero .conn))with opts.stamp:=(((IntKind.wrap .i64 (e22+1)).tmod 3)==0)}:Conn)) λl24=>
 .grd (ba l24 v1)<|
 .val (l24.set v1.toNat ({(l24.getD v1.toNat (Ty.zero .conn))with opts.val:=(IntKind.wrap .i64 ((IntKind.wrap .i64 (e22+1))+1))}:Conn)) λl25=>
 .val (IntKind.wrap .i64 ((IntKind.wrap .i64 ((IntKind.wrap .i64 (e22+1))+1))+1)) λe26=>
 .grd (ba l25 v1)<|
 .grd ((decide (0<=v1))&&(decide (v1<((l25.set v1.toNat ({(l25.getD v1.toNat (Ty.zero .conn))with opts.echo:=e26}:Conn)).length:Int))))<|
 .val ((l25.set v1.toNat ({(l25.getD v1.toNat (Ty.zero .conn))with opts.echo:=e26}:Conn)).set v1.toNat ({((l25.set v1.toNat ({(l25.getD v1.toNat (Ty.zero .conn))with opts.echo:=e26}:Conn)).getD v1.toNat (Ty.zero .conn))with timer:=(IntKind.wrap .i64 (e26+1))}:Conn)) λl27=>
 .grd (ba l27 v1)<|
 .val (l27.set v1.toNat ({(l27.getD v1.toNat (Ty.zero .conn))with tries:=(IntKind.wrap .i64 ((IntKind.wrap .i64 (e26+1))+1))}:Conn)) λl28=>
 .val (IntKind.wrap .i64 ((IntKind.wrap .i64 ((IntKind.wrap .i64 (e26+1))+1))+1)) λe29=>
 .ret (.next (e29,l28))
noncomputable def bP:ku.V->wa ku (Int×List Conn):=λ(v0,v1,v2,_)=>⟨v1,(v0,v2),λv1 a=>(a.1,v1,a.2,()),λv1 a=>(decide (v1<(a.2.length:Int))),j9,up,1,(Int.toNat ((v2.length:Int)-v1)),Empty.elim,Prod.mk,oN (.exit 0) ⟨[zi 1,zu 4],[.dar .conn]⟩ (λx=>(x.2.1,x.2.2,()))⟩
theorem DZ:LS Tryz.prog zM [0] (kD 0 ku bP):=fa st (aW zQ) _ bP [] trivial
theorem Ds {v0 v1:Int}{v2:List Conn}(h0:0<=v1)(h1:(v2.length:Int)<=4611686018427387904)(h2:sL ah v2)(h3:v2.length=v2.length/\dP ah v2/\v0<=9223372036854775807):(bP (v0,v1,v2,())).S (λv1 a=>a.2.length=v2.length/\a.2.length=v2.length/\dP ah a.2/\a.1<=9223372036854775807) (λ_=>True):=by
 refine LC.okS ⟨rfl,h3⟩ (λj a hj hv=>⟨⟨?_, ?_⟩, ?_⟩) (λa hv=> ?_)
 ·simp only[bP,decide_eq_true_eq]at*;omega
 ·simp only[bP]at*;exact upw (by omega) (by omega)
 ·refine Tr.G2 ?_ λ_=>Tr.G2 ?_ λ_=>Tr.V λ_ _=>Tr.G2 ?_ λ_=>Tr.V λ_ _=>Tr.V λ_ _=>Tr.G2 ?_ λ_=>Tr.G2 ?_ λ_=>Tr.V λ_ _=>Tr.C ?_ λ_ _ _=>Tr.G2 ?_ λ_=>Tr.V λ_ _=>Tr.G2 ?_ λ_=>Tr.V λ_ _=>Tr.G2 ?_ λ_=>Tr.V λ_ _=>Tr.G2 ?_ λ_=>Tr.V λ_ _=>Tr.V λ_ _=>Tr.G2 ?_ λ_=>Tr.V λ_ _=>Tr.G2 ?_ λ_=>Tr.V λ_ _=>Tr.C ?_ λ_ _ _=>Tr.G2 ?_ λ_=>Tr.V λ_ _=>Tr.G2 ?_ λ_=>Tr.C ?_ λ_ _ _=>Tr.V λ_ _=>Tr.G2 ?_ λ_=>Tr.G2 ?_ λ_=>Tr.V λ_ _=>Tr.G2 ?_ λ_=>Tr.V λ_ _=>Tr.V λ_ _=>Tr.G2 ?_ λ_=>Tr.G2 ?_ λ_=>Tr.V λ_ _=>Tr.G2 ?_ λ_=>Tr.V λ_ _=>Tr.V λ_ _=>Tr.G2 ?_ λ_=>Tr.V λ_ _=>Tr.G2 ?_ λ_=>Tr.V λ_ _=>Tr.G2 ?_ λ_=>Tr.V λ_ _=>Tr.V λ_ _=>Tr.G2 ?_ λ_=>Tr.G2 ?_ λ_=>Tr.V λ_ _=>Tr.G2 ?_ λ_=>Tr.V λ_ _=>Tr.V λ_ _=>Tr.Rn ?_
  all_goals (try simp only[bP]at*)<;>(grind)
 ·simp only[bP,decide_eq_false_iff_not]at*;omega
noncomputable def rL:FT (List Conn×Int×Unit) (Int×List Conn) (λx=>sL ah x.1/\x.2.1<=9223372036854775807) (λx v=>sL ah v.2/\v.1<=9223372036854775807):=⟨λ(x0,x1,_)=>
  .lp (bP (x1,0,x0,())).lp λ(_,a30_0,a30_1)=>
  .ret (a30_0,a30_1),
 λ(x0,x1,_) hp=>by
  refine Tr.L (Ds ?_ ?_ ?_ ?_) (λ(a30_0,a30_1) _=>Tr.R ?_) (λp=>Empty.elim p)
  all_goals ((try simp only[bP,LC.lp,LC.ct,Ct.lp]at*)<;>grind)⟩
noncomputable def Ku:=oV st zM zQ [(kD 0 ku bP)] [.wr false [.down 0],.sc (.int .i64)] [.dar .conn] (λx y=>(y.1,x.2.1,())) rL (λv=>[(false,[.c (.int .i64 v.1)])]) (λx y v=>(v.2,())) Tryz.func185 (by kernel_rfl) ⟨DZ,trivial⟩
noncomputable def yL:FT (Mac×Int×Unit) (Int) (λx=>cN x.1/\x.2.1<=9223372036854775807) (λx v=>v<=9223372036854775807):= .mk λ(x0,x1,_)=>
  .cal oE.c (x0.rows,x1,()) λc1=>
  .ite (decide (c1<0)) (.ret (-1))<|
  .ret c1
noncomputable def Si:=aU st Tryz.func187 [Gk] (ks:=[.st .mac,.sc (.int .i64)]) yL rI
def sX:Sh:=⟨[zl 0 .conn,zi 1,zi 5],[]⟩
noncomputable def ke (v0:List Conn)(v2:Int)(a:Int):Tr (Stp (Int) ((Int))):=
 .grd (ba v0 v2)<|
 .ite ((v0.getD v2.toNat (Ty.zero .conn)).tuple.ip != a) (.ret (.out a))<|
 .grd (ba v0 v2)<|
 .ite ((v0.getD v2.toNat (Ty.zero .conn)).tuple.port != (IntKind.wrap .i64 (a+1))) (.ret (.out (IntKind.wrap .i64 (a+1))))<|
 .grd (ba v0 v2)<|
 .ite ((v0.getD v2.toNat (Ty.zero .conn)).tuple.my != (IntKind.wrap .i64 ((IntKind.wrap .i64 (a+1))+1))) (.ret (.out (IntKind.wrap .i64 ((IntKind.wrap .i64 (a+1))+1))))<|
 .val (IntKind.wrap .i64 ((IntKind.wrap .i64 ((IntKind.wrap .i64 (a+1))+1))+1)) λe1=>
 .grd (ba v0 v2)<|
 .ite ((v0.getD v2.toNat (Ty.zero .conn)).state != e1) (.ret (.out e1))<|
 .grd (ba v0 v2)<|
 .ite ((v0.getD v2.toNat (Ty.zero .conn)).s.una != (IntKind.wrap .i64 (e1+1))) (.ret (.out (IntKind.wrap .i64 (e1+1))))<|
 .grd (ba v0 v2)<|
 .cal bK.c ((IntKind.wrap .i64 ((IntKind.wrap .i64 (e1+1))+1)),()) λc2=>
 .ite (!((v0.getD v2.toNat (Ty.zero .conn)).s.data==c2)) (.ret (.out (IntKind.wrap .i64 ((IntKind.wrap .i64 (e1+1))+1))))<|
 .val (IntKind.wrap .i64 ((IntKind.wrap .i64 ((IntKind.wrap .i64 (e1+1))+1))+1)) λe3=>
 .grd (ba v0 v2)<|
 .ite ((v0.getD v2.toNat (Ty.zero .conn)).s.sent != e3) (.ret (.out e3))<|
 .grd (ba v0 v2)<|
 .ite (!((v0.getD v2.toNat (Ty.zero .conn)).s.fin==(((IntKind.wrap .i64 (e3+1)).tmod 3)==0))) (.ret (.out (IntKind.wrap .i64 (e3+1))))<|
 .grd (ba v0 v2)<|
 .ite (!((v0.getD v2.toNat (Ty.zero .conn)).s.finSent==(((IntKind.wrap .i64 ((IntKind.wrap .i64 (e3+1))+1)).tmod 3)==0))) (.ret (.out (IntKind.wrap .i64 ((IntKind.wrap .i64 (e3+1))+1))))<|
 .val (IntKind.wrap .i64 ((IntKind.wrap .i64 ((IntKind.wrap .i64 (e3+1))+1))+1)) λe4=>
 .grd (ba v0 v2)<|
 .ite (!((v0.getD v2.toNat (Ty.zero .conn)).s.done==((e4.tmod 3)==0))) (.ret (.out e4))<|
 .grd (ba v0 v2)<|
 .ite ((v0.getD v2.toNat (Ty.zero .conn)).r.next != (IntKind.wrap .i64 (e4+1))) (.ret (.out (IntKind.wrap .i64 (e4+1))))<|
 .grd (ba v0 v2)<|
 .cal bK.c ((IntKind.wrap .i64 ((IntKind.wrap .i64 (e4+1))+1)),()) λc5=>
 .ite (!((v0.getD v2.toNat (Ty.zero .conn)).r.data==c5)) (.ret (.out (IntKind.wrap .i64 ((IntKind.wrap .i64 (e4+1))+1))))<|
 .val (IntKind.wrap .i64 ((IntKind.wrap .i64 ((IntKind.wrap .i64 (e4+1))+1))+1)) λe6=>
 .grd (ba v0 v2)<|
 .cal pL.c ((v0.getD v2.toNat (Ty.zero .conn)).r.held,e6,()) λc7=>
 .ite (decide (c7<0)) (.ret (.out c7))<|
 .grd (ba v0 v2)<|
 .ite ((v0.getD v2.toNat (Ty.zero .conn)).r.fin != c7) (.ret (.out c7))<|
 .grd (ba v0 v2)<|
 .ite (!((v0.getD v2.toNat (Ty.zero .conn)).r.done==(((IntKind.wrap .i64 (c7+1)).tmod 3)==0))) (.ret (.out (IntKind.wrap .i64 (c7+1))))<|
 .grd (ba v0 v2)<|
 .ite ((v0.getD v2.toNat (Ty.zero .conn)).window != (IntKind.wrap .i64 ((IntKind.wrap .i64 (c7+1))+1))) (.ret (.out (IntKind.wrap .i64 ((IntKind.wrap .i64 (c7+1))+1))))<|
 .val (IntKind.wrap .i64 ((IntKind.wrap .i64 ((IntKind.wrap .i64 (c7+1))+1))+1)) λe8=>
 .grd (ba v0 v2)<|
 .ite ((v0.getD v2.toNat (Ty.zero .conn)).most != e8) (.ret (.out e8))<|
 .grd (ba v0 v2)<|
 .ite ((v0.getD v2.toNat (Ty.zero .conn)).opts.mss != (IntKind.wrap .i64 (e8+1))) (.ret (.out (IntKind.wrap .i64 (e8+1))))<|
 .grd (ba v0 v2)<|
 .ite ((v0.getD v2.toNat (Ty.zero .conn)).opts.scale != (IntKind.wrap .i64 ((IntKind.wrap .i64 (e8+1))+1))) (.ret (.out (IntKind.wrap .i64 ((IntKind.wrap .i64 (e8+1))+1))))<|
 .val (IntKind.wrap .i64 ((IntKind.wrap .i64 ((IntKind.wrap .i64 (e8+1))+1))+1)) λe9=>
 .grd (ba v0 v2)<|
 .ite (!((v0.getD v2.toNat (Ty.zero .conn)).opts.sack==((e9.tmod 3)==0))) (.ret (.out e9))<|
 .grd (ba v0 v2)<|
 .ite (!((v0.getD v2.toNat (Ty.zero .conn)).opts.stamp==(((IntKind.wrap .i64 (e9+1)).tmod 3)==0))) (.ret (.out (IntKind.wrap .i64 (e9+1))))<|
 .grd (ba v0 v2)<|
 .ite ((v0.getD v2.toNat (Ty.zero .conn)).opts.val != (IntKind.wrap .i64 ((IntKind.wrap .i64 (e9+1))+1))) (.ret (.out (IntKind.wrap .i64 ((IntKind.wrap .i64 (e9+1))+1))))<|
 .val (IntKind.wrap .i64 ((IntKind.wrap .i64 ((IntKind.wrap .i64 (e9+1))+1))+1)) λe10=>
 .grd (ba v0 v2)<|
 .ite ((v0.getD v2.toNat (Ty.zero .conn)).opts.echo != e10) (.ret (.out e10))<|
 .grd (ba v0 v2)<|
 .ite ((v0.getD v2.toNat (Ty.zero .conn)).timer != (IntKind.wrap .i64 (e10+1))) (.ret (.out (IntKind.wrap .i64 (e10+1))))<|
 .grd (ba v0 v2)<|
 .ite ((v0.getD v2.toNat (Ty.zero .conn)).tries != (IntKind.wrap .i64 ((IntKind.wrap .i64 (e10+1))+1))) (.ret (.out (IntKind.wrap .i64 ((IntKind.wrap .i64 (e10+1))+1))))<|
 .val (IntKind.wrap .i64 ((IntKind.wrap .i64 ((IntKind.wrap .i64 (e10+1))+1))+1)) λe11=>
 .ret (.next e11)
noncomputable def kb:sX.V->nL sX Int (Int):=λ(v0,v1,v2,_)=>⟨v2,v1,λv2 a=>(v0,a,v2,()),λv2 _=>(decide (v2<(v0.length:Int))),ke v0,up,1,(Int.toNat ((v0.length:Int)-v2)),.inl,eR,oB .ret ⟨[zi 1,zi 4],[]⟩ (λp=>(p,(-1),())) (.exit 0) ⟨[zi 1,zu 4],[]⟩ (λx=>(x.2,()))⟩
theorem Eb {v0:List Conn}{v1 v2:Int}(h0:0<=v2)(h1:(v0.length:Int)<=4611686018427387904)(h2:sL ah v0)(h3:v1<=9223372036854775807):(kb (v0,v1,v2,())).U (v0.length:Int) (λv2 a=>a<=9223372036854775807) (λ_=>True):=
 kx (a:=v1) h0 h1 h3
noncomputable def rM:FT (List Conn×Int×Unit) (Int) (λx=>sL ah x.1/\x.2.1<=9223372036854775807) (λx v=>v<=9223372036854775807):= .mk (λ(x0,x1,_)=>
  .lp (kb (x0,x1,0,())).lp λw12=> .sum w12 (λ_=>
  .ret (-1))<|
  λ(_,a12_0)=>
  .ret a12_0) (np @Eb)
noncomputable def Kn:=dr st Tryz.func188 [(0,lb [0,1,5] [1,4])] [fP,GP] 0 kb (ks:=[.sc (.sl .conn),.sc (.int .i64)]) rM rI
def vS:Sh:=⟨[zl 0 .entr,zo 3 0,zi 4],[za .entr]⟩
noncomputable def vI (v0:List Entr)(v1:Int)(a:List Entr):Tr (Stp (List Entr) (Empty)):=
 .grd (ba v0 v1)<|
 .val (Dq.f ((v0.getD v1.toNat (Ty.zero .entr)),())) λc1=>
 .grd (ba a v1)<|
 .ret (.next (a.set v1.toNat c1))
noncomputable def iL:vS.V->wa vS (List Entr):=λ(v0,v1,v2,_)=>⟨v1,v2,λv1 a=>(v0,v1,a,()),λv1 _=>(decide (v1<(v0.length:Int))),vI v0,up,1,(Int.toNat ((v0.length:Int)-v1)),Empty.elim,Prod.mk,oN (.exit 0) ⟨[zu 2,zo 3 0],[za .entr]⟩ (λx=>(x.2,()))⟩
theorem Fc {v0 v2:List Entr}{v1:Int}(h0:0<=v1)(h1:(v0.length:Int)<=4611686018427387904)(h2:sS v0)(h3:sS v2)(h4:v2.length=v2.length/\(v0.length:Int)<=(v2.length:Int)):(iL (v0,v1,v2,())).U (v0.length:Int) (λv1 a=>a.length=v2.length/\(v0.length:Int)<=(a.length:Int)) (λ_=>True):=
 kx (a:=v2) h0 h1 h4
noncomputable def uN:FT (List Entr×Unit) (List Entr) (λx=>sS x.1) (λx v=>sS v):=⟨λ(x0,_)=>
  .grd ((((decide (0<=(x0.length:Int)))&&(decide ((x0.length:Int)=(x0.length:Int))))&&(decide ((x0.length:Int)*24<=(aM:Int))))&&(decide ((x0.length:Int)<=(aM:Int))))<|
  .lp (iL (x0,0,(List.replicate ((x0.length:Int).toNat) (⟨0,0,0⟩:Entr)),())).lp λ(_,a2_0)=>
  .ret a2_0,
 λ(x0,_) hp=>by
  refine Tr.G4 ?_ λ_=>Tr.L (Fc ?_ ?_ ?_ ?_ ?_) (λa2_0 _=>Tr.R ?_) (λp=>Empty.elim p)
  all_goals ((try simp only[iL,LC.lp,LC.ct,Ct.lp]at*)<;>grind)⟩
noncomputable def NS:=dr ao Tryz.func194 [(0,lb [0,3,4] [2,3])] [RI] 0 iL (ks:=[.sc (.sl .entr)]) uN (λv=>[(false,[sc (.o true) .entr v])])
def vG:Sh:=⟨[zl 0 .entr,zl 1 .entr,zi 5],[]⟩
noncomputable def vd (v0 v1:List Entr)(v2:Int)(a:Unit):Tr (Stp (Unit) ((Unit))):=
 .grd (ba v0 v2)<|
 .grd (ba v1 v2)<|
 .val (yX.f ((v0.getD v2.toNat (Ty.zero .entr)),(v1.getD v2.toNat (Ty.zero .entr)),())) λc1=>
 .ite (!c1) (.ret (.out ()))<|
 .ret (.next ())
noncomputable def ld:vG.V->nL vG Unit (Unit):=λ(v0,v1,v2,_)=>⟨v2,(),λv2 _=>(v0,v1,v2,()),λv2 _=>(decide (v2<(v0.length:Int))),vd v0 v1,up,1,(Int.toNat ((v0.length:Int)-v2)),.inl,eR,oB .ret ⟨[zb 4],[]⟩ (λ_=>(false,())) (.exit 0) ⟨[zu 4],[]⟩ (λ_=>())⟩
theorem Gf {v0 v1:List Entr}{v2:Int}(h0:0<=v2)(h1:(v0.length:Int)<=4611686018427387904)(h2:(v0.length:Int)<=(v1.length:Int)):(ld (v0,v1,v2,())).U (v0.length:Int) (λ_ _=>True) (λ_=>True):=
 kx h0 h1 trivial
noncomputable def uQ:FT (List Entr×List Entr×Unit) (Bool) (λx=>sS x.1/\sS x.2.1) (λ_ _=>True):= .mk (λ(x0,x1,_)=>
  .ite ((x0.length:Int) != (x1.length:Int)) (.ret false)<|
  .lp (ld (x0,x1,0,())).lp λw2=> .sum w2 (λ_=>
  .ret false)<|
  λ_=>
  .ret true) (np @Gf)
noncomputable def M3:=dr st Tryz.func197 [(0,lb [0,1,5] [4])] [Pd] 0 ld (ks:=[.sc (.sl .entr),.sc (.sl .entr)]) uQ rB
noncomputable def nS:FT (Tupl×Unit) (Bool) (λ_=>True) (λ_ _=>True):= .mk λ(x0,_)=>
  .cal aA.c (x0.ip,32,()) λc1=>
  .ite c1 (.cal aA.c (x0.port,16,()) λc2=>
   .ite c2 (.cal aA.c (x0.my,16,()) λc3=>
    .ret c3)<|
   .ret false)<|
  .ret false
noncomputable def sD:=aU st Tryz.func199 [bN] (ks:=[.st .tupl]) nS rB
noncomputable def Cn:=[cu,Pu]
def vY:An:=⟨⟨[],[],false,0⟩,⟨[1,2,4,5],[],false,0⟩,⟨[],[]⟩,[(.normal,⟨[zi 1,zp 2 0,zp 4 1,zp 5 2],[zx .opti,zx .opti,zx .opti]⟩)]⟩
noncomputable def Br:Fx:=⟨201,Tryz.f201,[(1000013,vY)],0⟩
noncomputable def le:FF (Opti×Int×Unit) (Opti):=⟨λ(x0,x1,_)=>
  .ite (!x0.stamp) (.ret (⟨1460,(-1),false,false,0,0⟩:Opti))<|
  .val (cm.f (x0.scale,0,14,())) λc1=>
  .bnd (β:=Int×Opti×Opti×Opti×Unit) (.ite c1 (.ret (x1,x0,(⟨0,0,false,false,0,0⟩:Opti),(⟨1460,0,false,false,0,0⟩:Opti),()))<|
   .ret (x1,x0,(⟨0,0,false,false,0,0⟩:Opti),(⟨1460,(-1),false,false,0,0⟩:Opti),())) λ(u2a0,u2a1,_,u2a3,_)=>
  .val (yI.f (u2a0,u2a1.scale,u2a1.sack,())) λc3=>
  .ret (⟨u2a3.mss,u2a3.scale,u2a1.sack,true,c3,u2a1.val⟩:Opti)⟩
noncomputable def BC:=Vg st Br Cn [] (ks:=[.st .opti,.sc (.int .i64)]) le (λv=>[(true,pg v)]) Tryz.func201 trivial
noncomputable def KI:=[bI,bu]
noncomputable def KR:Fx:=⟨209,Tryz.f209,[(3000001,rA 0 15)],0⟩
noncomputable def aF:FT (Opti×Unit) (Bool) (λ_=>True) (λ_ _=>True):= .mk λ(x0,_)=>
  .bnd (β:=Bool×Unit) (.ite (!x0.stamp) (.ite (x0.val != 0) (.ret (true,()))<|
    .ret ((x0.echo != 0),()))<|
   .ret (false,())) λ(u1a0,_)=>
  .ite u1a0 (.ret false)<|
  .cal ae.c (x0.mss,16,()) λc2=>
  .ite c2 (.val (a9.f (x0.scale,(-1),14,())) λc3=>
   .ite c3 (.cal ae.c (x0.val,32,()) λc4=>
    .ite c4 (.cal ae.c (x0.echo,32,()) λc5=>
     .ret c5)<|
    .ret false)<|
   .ret false)<|
  .ret false
noncomputable def kG:=cI ao KR KI [] (ks:=[.st .opti]) aF rB Tryz.func209 trivial
noncomputable def CC:=[bu,QH]
def vX:An:=⟨⟨[],[],false,0⟩,⟨[1,2,4,5],[],false,0⟩,⟨[],[]⟩,[(.normal,⟨[zi 1,zp 2 0,zp 4 1,zp 5 2],[zx .opti,zx .opti,zx .opti]⟩)]⟩
noncomputable def BQ:Fx:=⟨211,Tryz.f211,[(1000013,vX)],0⟩
noncomputable def fG:FF (Opti×Int×Unit) (Opti):=⟨λ(x0,x1,_)=>
  .ite (!x0.stamp) (.ret (⟨1460,(-1),false,false,0,0⟩:Opti))<|
  .val (a9.f (x0.scale,0,14,())) λc1=>
  .bnd (β:=Int×Opti×Opti×Opti×Unit) (.ite c1 (.ret (x1,x0,(⟨0,0,false,false,0,0⟩:Opti),(⟨1460,0,false,false,0,0⟩:Opti),()))<|
   .ret (x1,x0,(⟨0,0,false,false,0,0⟩:Opti),(⟨1460,(-1),false,false,0,0⟩:Opti),())) λ(u2a0,u2a1,_,u2a3,_)=>
  .val (n5.f (u2a0,u2a1.scale,u2a1.sack,())) λc3=>
  .ret (⟨u2a3.mss,u2a3.scale,u2a1.sack,true,c3,u2a1.val⟩:Opti)⟩
noncomputable def B4:=Vg ao BQ CC [] (ks:=[.st .opti,.sc (.int .i64)]) fG (λv=>[(true,pg v)]) Tryz.func211 trivial
noncomputable def uj:FT (Segm×Unit) (Segm×Bool) (λx=>aw x.1) (λx v=>aw v.1):= .mk λ(x0,_)=>
  .val (gg.f (x0,4,())) λc1=>
  .ite c1 (.ret ((⟨0,0,0,0,0,0,⟨0,0,false,false,0,0⟩,[]⟩:Segm),false))<|
  .val (ck.f (())) λc2=>
  .val (gg.f (x0,16,())) λc3=>
  .ite c3 (.ret ((⟨x0.to,x0.from_,x0.ack,0,4,0,c2,[]⟩:Segm),true))<|
  .cal gZ.c (x0,()) λc4=>
  .val (cX.f (x0.seq,c4,())) λc5=>
  .ret ((⟨x0.to,x0.from_,0,c5,20,0,c2,[]⟩:Segm),true)
noncomputable def OQ:=aU st Tryz.func217 [yW,iZ,rx,ib] (ks:=[.st .segm]) uj (λv=>[(true,xG v.1),(false,[.c (.bool v.2)])])
noncomputable def yN:FT (Tabl×Conn×Unit) (Tabl) (λx=>ce x.1/\ah x.2.1) (λx v=>ce v):= .mk λ(x0,x1,_)=>
  .cal n9.c (x0,()) λc1=>
  .cal fu.c (x0,x1.tuple,()) λc2=>
  .ite (decide (0<=c2)) (.cal gt.c (x1,()) λc3=>
   .grd (ba c1.conns c2)<|
   .ret (⟨(c1.conns.set c2.toNat c3),c1.waiting⟩:Tabl))<|
  .ret c1
noncomputable def RY:=aU st Tryz.func220 [wH,kp,jQ] (ks:=[.st .tabl,.st .conn]) yN (λv=>[(true,AE (.o true) (.o true) v)])
noncomputable def La:=[bN,cu]
noncomputable def Le:Fx:=⟨221,Tryz.f221,[(3000001,rA 0 15)],0⟩
noncomputable def d9:FT (Opti×Unit) (Bool) (λ_=>True) (λ_ _=>True):= .mk λ(x0,_)=>
  .bnd (β:=Bool×Unit) (.ite (!x0.stamp) (.ite (x0.val != 0) (.ret (true,()))<|
    .ret ((x0.echo != 0),()))<|
   .ret (false,())) λ(u1a0,_)=>
  .ite u1a0 (.ret false)<|
  .cal aA.c (x0.mss,16,()) λc2=>
  .ite c2 (.val (cm.f (x0.scale,(-1),14,())) λc3=>
   .ite c3 (.cal aA.c (x0.val,32,()) λc4=>
    .ite c4 (.cal aA.c (x0.echo,32,()) λc5=>
     .ret c5)<|
    .ret false)<|
   .ret false)<|
  .ret false
noncomputable def kN:=cI st Le La [] (ks:=[.st .opti]) d9 rB Tryz.func221 trivial
noncomputable def oD:FT (Int×Unit) (Int×Int×Int) (λ_=>True) (λ_ _=>True):= .mk λ(x0,_)=>
  .cal aA.c (x0,32,()) λc1=>
  .ite (!c1) (.ret ((-1),(-1),(-1)))<|
  .ret ((IntKind.wrap .i64 (x0.tdiv 134217728)),((IntKind.wrap .i64 (x0.tdiv 16777216)).tmod 8),(x0.tmod 16777216))
noncomputable def FY:=aU st Tryz.func224 [bN] (ks:=[.sc (.int .i64)]) oD (λv=>[(false,[.c (.int .i64 v.1)]),(false,[.c (.int .i64 v.2.1)]),(false,[.c (.int .i64 v.2.2)])])
noncomputable def CM:FT (Int×Unit) (Int) (λ_=>True) (λ_ _=>True):= .mk λ(x0,_)=>
  .val (cm.f (x0,0,7,())) λc1=>
  .ite (!c1) (.ret 0)<|
  .grd ((decide (0<=x0))&&(decide (x0<8)))<|
  .ret ([64,256,536,1024,1300,1400,1440,1460].getD x0.toNat 0)
noncomputable def LJ:=aU st Tryz.func227 [cu] (ks:=[.sc (.int .i64)]) CM rI
noncomputable def Rp:=[bN]
noncomputable def Qg:Fx:=⟨228,Tryz.f228,[(3000001,rA 0 13)],0⟩
noncomputable def yC:FT (Int×Unit) (Int×Bool×Bool) (λ_=>True) (λ_ _=>True):= .mk λ(x0,_)=>
  .bnd (β:=Bool×Unit) (.cal aA.c (x0,32,()) λc1=>
   .ite (!c1) (.ret (true,()))<|
   .ret (((bits .and .i64 x0 32)==0),())) λ(u2a0,_)=>
  .ite u2a0 (.ret ((-1),false,false))<|
  .ite ((x0.tmod 16)==15) (.ret ((-1),((bits .and .i64 x0 16) != 0),true))<|
  .ret ((x0.tmod 16),((bits .and .i64 x0 16) != 0),true)
noncomputable def Q8:=cI st Qg Rp [] (ks:=[.sc (.int .i64)]) yC (λv=>[(false,[.c (.int .i64 v.1)]),(false,[.c (.bool v.2.1)]),(false,[.c (.bool v.2.2)])]) Tryz.func228 trivial
noncomputable def jE:FT (Segm×Unit) (Segm×Bool) (λx=>aw x.1) (λx v=>aw v.1):= .mk λ(x0,_)=>
  .val (bm.f (x0,4,())) λc1=>
  .ite c1 (.ret ((⟨0,0,0,0,0,0,⟨0,0,false,false,0,0⟩,[]⟩:Segm),false))<|
  .val (bH.f (())) λc2=>
  .val (bm.f (x0,16,())) λc3=>
  .ite c3 (.ret ((⟨x0.to,x0.from_,x0.ack,0,4,0,c2,[]⟩:Segm),true))<|
  .cal aK.c (x0,()) λc4=>
  .val (cM.f (x0.seq,c4,())) λc5=>
  .ret ((⟨x0.to,x0.from_,0,c5,20,0,c2,[]⟩:Segm),true)
noncomputable def MP:=aU ao Tryz.func229 [yo,ja,rj,ik] (ks:=[.st .segm]) jE (λv=>[(true,xG v.1),(false,[.c (.bool v.2)])])
noncomputable def gc:FT (Int×Unit) (Int×Int×Int) (λ_=>True) (λ_ _=>True):= .mk λ(x0,_)=>
  .cal ae.c (x0,32,()) λc1=>
  .ite (!c1) (.ret ((-1),(-1),(-1)))<|
  .ret ((IntKind.wrap .i64 (x0.tdiv 134217728)),((IntKind.wrap .i64 (x0.tdiv 16777216)).tmod 8),(x0.tmod 16777216))
noncomputable def Fs:=aU ao Tryz.func232 [bI] (ks:=[.sc (.int .i64)]) gc (λv=>[(false,[.c (.int .i64 v.1)]),(false,[.c (.int .i64 v.2.1)]),(false,[.c (.int .i64 v.2.2)])])
noncomputable def N3:=[C4]
noncomputable def O0:Fx:=⟨233,Tryz.f233,[(3000003,rA 0 14)],0⟩
noncomputable def nT:FT (Keys×Int×Unit) (Mac×Bool) (λx=>dM x.1) (λx v=>cN v.1):= .mk λ(x0,x1,_)=>
  .ite (x1==x0.epoch) (.cal lm.c (x0.now,()) λc1=>
   .ret (c1,true))<|
  .bnd (β:=Bool×Unit) (.ite x0.two (.ret ((x1==(IntKind.wrap .i64 (x0.epoch-1))),()))<|
   .ret (false,())) λ(u2a0,_)=>
  .ite u2a0 (.cal lm.c (x0.before,()) λc3=>
   .ret (c3,true))<|
  .ret ((⟨false,0,0,[]⟩:Mac),false)
noncomputable def Nr:=cI ao O0 N3 [] (ks:=[.st .keys,.sc (.int .i64)]) nT (λv=>[(true,Qv (.o true) v.1),(false,[.c (.bool v.2)])]) Tryz.func233 trivial
noncomputable def Pn:=[bI]
noncomputable def PY:Fx:=⟨236,Tryz.f236,[(3000001,rA 0 13)],0⟩
noncomputable def lN:FT (Int×Unit) (Int×Bool×Bool) (λ_=>True) (λ_ _=>True):= .mk λ(x0,_)=>
  .bnd (β:=Bool×Unit) (.cal ae.c (x0,32,()) λc1=>
   .ite (!c1) (.ret (true,()))<|
   .ret (((bits .and .i64 x0 32)==0),())) λ(u2a0,_)=>
  .ite u2a0 (.ret ((-1),false,false))<|
  .ite ((bits .and .i64 x0 15)==15) (.ret ((-1),((bits .and .i64 x0 16) != 0),true))<|
  .ret ((bits .and .i64 x0 15),((bits .and .i64 x0 16) != 0),true)
noncomputable def Rr:=cI ao PY Pn [] (ks:=[.sc (.int .i64)]) lN (λv=>[(false,[.c (.int .i64 v.1)]),(false,[.c (.bool v.2.1)]),(false,[.c (.bool v.2.2)])]) Tryz.func236 trivial
def qp:Sh:=⟨[zs 0,zp 2 0,zp 4 1,zi 5],[zx .opti,zx .opti]⟩
noncomputable def cF (v0:ac)(a:Int×Opti):Tr (Stp (Int×Opti) ((Opti×Opti)⊕(Opti))):=
 .ite (decide (a.1<(v0.length:Int))) (.grd (ba v0 a.1)<|
  .ite ((af v0 a.1.toNat) != 0) (.grd (ba v0 a.1)<|
   .ite ((af v0 a.1.toNat)==1) (.ret (.next ((IntKind.wrap .i64 (a.1+1)),a.2)))<|
   .bnd (β:=Bool×Unit) (.ite (decide ((v0.length:Int)<=(IntKind.wrap .i64 (a.1+1)))) (.ret (true,()))<|
    .grd (ba v0 (IntKind.wrap .i64 (a.1+1)))<|
    .ite (decide ((af v0 ((IntKind.wrap .i64 (a.1+1)).toNat))<2)) (.ret (true,()))<|
    .grd (ba v0 (IntKind.wrap .i64 (a.1+1)))<|
    .ret ((decide ((IntKind.wrap .i64 ((v0.length:Int)-a.1))<(IntKind.wrap .i64 (af v0 ((IntKind.wrap .i64 (a.1+1)).toNat))))),())) λ(u2a0,_)=>
   .ite u2a0 (.val (ck.f (())) λc3=>
    .ret (.out (.inl (c3,a.2))))<|
   .grd (ba v0 (IntKind.wrap .i64 (a.1+1)))<|
   .val (IntKind.wrap .i64 (a.1+(IntKind.wrap .i64 (af v0 ((IntKind.wrap .i64 (a.1+1)).toNat))))) λe4=>
   .grd (O3 v0 a.1 e4)<|
   .cal GD.c (a.2,((v0.take e4.toNat).drop a.1.toNat),()) λc5=>
   .ret (.next (e4,c5)))<|
  .ret (.out (.inr (a.2))))<|
 .ret (.out (.inr (a.2)))
instance s_ReadOptions_L0_i:Inhabited ((Opti×Opti)⊕(Opti)):=⟨.inl default⟩
noncomputable def ii:qp.V->LW qp (Int×Opti) ((Opti×Opti)⊕(Opti)):=λ(v0,v1,v2,v3,_)=>⟨(v1,v3),λa=>(v0,a.1,v2,a.2,()),cF v0,Int.toNat ((v0.length:Int)-v1),oB .ret ⟨[zp 2 0,zb 3,zp 4 1],[zx .opti,zx .opti]⟩ (λp=>(false,p.1,p.2,())) (.exit 0) ⟨[zp 2 0,zu 3,zp 4 1],[zx .opti,zx .opti]⟩ (λp=>(v2,p,()))⟩
theorem Aj {v0:ac}{v1:Int}{v2 v3:Opti}(h0:sS v0)(h1:0<=v1):(ii (v0,v1,v2,v3,())).W (λ_=>True):=
 lwW (a:=(v1,v3)) (λa=>0<=a.1) (λa=>Int.toNat ((v0.length:Int)-a.1)) h1
noncomputable def kP:FT (ac×Unit) (Opti×Bool) (λx=>sS x.1) (λ_ _=>True):= .mk (λ(x0,_)=>
  .val (ck.f (())) λc1=>
  .lp (ii (x0,0,(⟨0,0,false,false,0,0⟩:Opti),c1,())).lp λq6=> .sum q6 (λ(p6a0,_)=>
  .ret (p6a0,false))<|
  λp6b0=>
  .ret (p6b0,true)) (np @Aj)
noncomputable def FW:=KG st Tryz.func252 [(0,lb [0,2,4,5] [2,3,4]),(3000006,rA 0 47)] [iZ,XC] 0 ii (ks:=[.sc .str]) kP (λv=>[(true,pg v.1),(false,[.c (.bool v.2)])])
noncomputable def lI:FT (Link×Unit) (Link) (λx=>eA x.1) (λx v=>eA v):= .mk λ(x0,_)=>
  .cal f9.c (x0.cache,()) λc1=>
  .ret ({x0 with cache:=c1}:Link)
noncomputable def zV:=aU ao Tryz.func256 [vz] (ks:=[.st .link]) lI (λv=>[(true,DQ (.o true) v)])
noncomputable def dR:FT (ac×Int×Int×Unit) (Int) (λx=>sS x.1) (λ_ _=>True):= .mk λ(x0,x1,x2,_)=>
  .cal yD.c (x0,x1,x2,()) λc1=>
  .ret c1.1
noncomputable def xT:=aU ao Tryz.func267 [Sf] (ks:=[.sc .str,.sc (.int .i64),.sc (.int .i64)]) dR rI
noncomputable def iQ:FT (Recv×Unit) (Recv) (λx=>ax x.1) (λx v=>ax v/\v=x.1):=⟨λ(x0,_)=>
  .cal oi.c (x0.held,()) λc1=>
  .ret ({x0 with held:=c1}:Recv),
 λ(x0,_) hp=>by
  refine Tr.C ?_ λc1 hc1 qc1=>Tr.R ?_
  all_goals ((first|grind|(refine⟨by grind, ?_⟩;first|(simp only[List.nil_append];done)|(subst_vars;rfl)|simp_all)))⟩
noncomputable def sv:=aU ao Tryz.func272 [F8] (ks:=[.st .recv]) iQ (λv=>[(true,Ah (.o true) v)])
def vk:Sh:=⟨[zl 0 .piec,zl 1 .piec,zi 5],[]⟩
noncomputable def vK (v0 v1:List Piec)(v2:Int)(a:Unit):Tr (Stp (Unit) ((Unit))):=
 .grd (ba v0 v2)<|
 .grd (ba v1 v2)<|
 .val (yU.f ((v0.getD v2.toNat (Ty.zero .piec)),(v1.getD v2.toNat (Ty.zero .piec)),())) λc1=>
 .ite (!c1) (.ret (.out ()))<|
 .ret (.next ())
noncomputable def kS:vk.V->nL vk Unit (Unit):=λ(v0,v1,v2,_)=>⟨v2,(),λv2 _=>(v0,v1,v2,()),λv2 _=>(decide (v2<(v0.length:Int))),vK v0 v1,up,1,(Int.toNat ((v0.length:Int)-v2)),.inl,eR,oB .ret ⟨[zb 4],[]⟩ (λ_=>(false,())) (.exit 0) ⟨[zu 4],[]⟩ (λ_=>())⟩
theorem Fr {v0 v1:List Piec}{v2:Int}(h0:0<=v2)(h1:(v0.length:Int)<=4611686018427387904)(h2:(v0.length:Int)<=(v1.length:Int)):(kS (v0,v1,v2,())).U (v0.length:Int) (λ_ _=>True) (λ_=>True):=
 kx h0 h1 trivial
noncomputable def u3:FT (List Piec×List Piec×Unit) (Bool) (λx=>sL bD x.1/\sL bD x.2.1) (λ_ _=>True):= .mk (λ(x0,x1,_)=>
  .ite ((x0.length:Int) != (x1.length:Int)) (.ret false)<|
  .lp (kS (x0,x1,0,())).lp λw2=> .sum w2 (λ_=>
  .ret false)<|
  λ_=>
  .ret true) (np @Fr)
noncomputable def NK:=dr st Tryz.func273 [(0,lb [0,1,5] [4])] [Qb] 0 kS (ks:=[.sc (.sl .piec),.sc (.sl .piec)]) u3 rB
noncomputable def yV:FT (Mac×Mac×Unit) (Bool) (λx=>cN x.1/\cN x.2.1) (λ_ _=>True):= .mk λ(x0,x1,_)=>
  .ite (x0.use==x1.use) (.ite (x0.k==x1.k) (.ite (x0.l==x1.l) (.cal qS.c (x0.rows,x1.rows,()) λc1=>
     .ret c1)<|
    .ret false)<|
   .ret false)<|
  .ret false
noncomputable def Rl:=aU ao Tryz.func280 [D3] (ks:=[.st .mac,.st .mac]) yV rB
noncomputable def fJ:FT (Fram×Unit) (Bool) (λ_=>True) (λx v=>(v=true->x.1.body.length<=1586)):= .mk λ(x0,_)=>
  .cal ae.c (x0.dst,48,()) λc1=>
  .ite c1 (.cal ae.c (x0.src,48,()) λc2=>
   .ite c2 (.val (a9.f (x0.type,1536,65535,())) λc3=>
    .ite c3 (.ret (decide ((x0.body.length:Int)<=1586)))<|
    .ret false)<|
   .ret false)<|
  .ret false
noncomputable def E1:=aU ao Tryz.func288 [bI,bu] (ks:=[.st .fram]) fJ rB
def vE:Sh:=⟨[zi 0,zi 3,zi 4],[]⟩
noncomputable def vA (v0:Int)(v2:Int)(a:Int):Tr (Stp (Int) (Empty)):=
 .cal CM.c (v2,()) λc1=>
 .ite (decide (c1<=v0)) (.ret (.next v2))<|
 .ret (.next a)
noncomputable def kZ:vE.V->wa vE Int:=λ(v0,v1,v2,_)=>⟨v2,v1,λv2 a=>(v0,a,v2,()),λv2 _=>(decide (v2<8)),vA v0,up,1,(Int.toNat (8-v2)),Empty.elim,Prod.mk,oN (.exit 0) ⟨[zu 2,zi 3],[]⟩ (λx=>(x.2,()))⟩
theorem Fn {v0 v1 v2:Int}(h0:0<=v2):(kZ (v0,v1,v2,())).U 8 (λ_ _=>True) (λ_=>True):=
 kx (a:=v1) h0 (by decide) trivial
noncomputable def um:FT (Int×Unit) (Int) (λ_=>True) (λ_ _=>True):= .mk (λ(x0,_)=>
  .lp (kZ (x0,0,0,())).lp λ(_,a2_0)=>
  .ret a2_0) (np @Fn)
noncomputable def M5:=dr st Tryz.func290 [(0,lb [0,3,4] [2,3])] [LJ] 0 kZ (ks:=[.sc (.int .i64)]) um rI
noncomputable def nK:FF (Int×Int×Int×Unit) (Bool):=⟨λ(x0,x1,x2,_)=>
  .ite (decide (4294967295<x2)) (.ret true)<|
  .ite (decide (1<=x2)) (.val (rP.f (x0,x1,())) λc1=>
   .ret (decide (c1<x2)))<|
  .ret false⟩
noncomputable def uT:=gj ao Tryz.func307 [DG] (ks:=[.sc (.int .i64),.sc (.int .i64),.sc (.int .i64)]) nK rB
noncomputable def yx:FT (Conn×Int×Unit) (Bool) (λx=>ah x.1) (λ_ _=>True):= .mk λ(x0,x1,_)=>
  .val (β:=Int) (if 0<(if 2147483648<x0.most then 2147483648 else x0.most)then(if 2147483648<x0.most then 2147483648 else x0.most)else 0) λe1=>
  .val (qh.f (x1,x0.s.una,())) λc2=>
  .cal cY.c (x0.s,()) λc3=>
  .val (a9.f (c2,(IntKind.wrap .i64 (0-e1)),c3,())) λc4=>
  .ret c4
noncomputable def Rt:=aU ao Tryz.func310 [wz,qI,bu] (ks:=[.st .conn,.sc (.int .i64)]) yx rB
noncomputable def jN:FT (Sndr×Unit) (Int) (λx=>dW x.1) (λ_ _=>True):= .mk λ(x0,_)=>
  .cal cY.c (x0,()) λc1=>
  .val (cM.f (x0.una,c1,())) λc2=>
  .ret c2
noncomputable def II:=aU ao Tryz.func311 [qI,ik] (ks:=[.st .sndr]) jN rI
def wi:Sh:=⟨[zl 0 .entr,zi 3],[]⟩
noncomputable def rh (v0:List Entr)(v1:Int)(a:Unit):Tr (Stp (Unit) ((Unit))):=
 .grd (ba v0 v1)<|
 .cal aA.c ((v0.getD v1.toNat (Ty.zero .entr)).ip,32,()) λc1=>
 .ite (!c1) (.ret (.out ()))<|
 .cal aA.c ((v0.getD v1.toNat (Ty.zero .entr)).hw,48,()) λc2=>
 .ite (!c2) (.ret (.out ()))<|
 .val (cm.f ((v0.getD v1.toNat (Ty.zero .entr)).age,0,9,())) λc3=>
 .ite (!c3) (.ret (.out ()))<|
 .grd ((decide (0<=v1))&&(decide (v1<=(v0.length:Int))))<|
 .cal ya.c (((v0.take v1.toNat).drop 0),(v0.getD v1.toNat (Ty.zero .entr)).ip,()) λc4=>
 .ite (decide (0<=c4)) (.ret (.out ()))<|
 .ret (.next ())
noncomputable def me:wi.V->nL wi Unit (Unit):=λ(v0,v1,_)=>⟨v1,(),λv1 _=>(v0,v1,()),λv1 _=>(decide (v1<(v0.length:Int))),rh v0,up,1,(Int.toNat ((v0.length:Int)-v1)),.inl,eR,oB .ret ⟨[zl 0 .entr,zb 2],[]⟩ (λ_=>(v0,false,())) (.exit 0) ⟨[zl 0 .entr,zu 2],[]⟩ (λ_=>(v0,()))⟩
theorem JR {v0:List Entr}{v1:Int}(h0:0<=v1)(h1:(v0.length:Int)<=4611686018427387904)(h2:sS v0):(me (v0,v1,())).U (v0.length:Int) (λ_ _=>True) (λ_=>True):=
 kx h0 h1 trivial
noncomputable def tU:FT (List Entr×Unit) (Bool) (λx=>sS x.1) (λx v=>(v=true->x.1.length<=4)):= .mk (λ(x0,_)=>
  .lp (me (x0,0,())).lp λw5=> .sum w5 (λ_=>
  .ret false)<|
  λ_=>
  .ret (decide ((x0.length:Int)<=4))) (np @JR)
noncomputable def ET:=dr st Tryz.func322 [(0,lb [0,3] [0,2])] [bN,cu,Ea] 0 me (ks:=[.sc (.sl .entr)]) tU rB
def xl:Sh:=⟨[zi 0,zo 5 0,zi 6],[za .u8]⟩
noncomputable def nf (v1:Int)(a:Int×List Int):Tr (Stp (Int×List Int) (Empty)):=
 .grd (ba a.2 v1)<|
 .ret (.next ((IntKind.wrap .i64 (a.1.tdiv 256)),(a.2.set v1.toNat (IntKind.wrap .u8 (a.1.tmod 256)))))
noncomputable def jv:xl.V->wa xl (Int×List Int):=λ(v0,v1,v2,_)=>⟨v1,(v0,v2),λv1 a=>(a.1,v1,a.2,()),λv1 _=>(decide (0<=v1)),nf,dn,(-1),(Int.toNat (v1-0+1)),Empty.elim,Prod.mk,oN (.exit 0) ⟨[zu 4,zo 5 0],[za .u8]⟩ (λx=>(x.2.2,()))⟩
theorem Hf {v0 v1:Int}{v2:List Int}(h0:v1<=9223372036854775807)(h1:sS v2)(h2:v2.length=v2.length/\v1<(v2.length:Int)):(jv (v0,v1,v2,())).D 0 (λv1 a=>a.2.length=v2.length/\v1<(a.2.length:Int)) (λ_=>True):=
 lcD (a:=(v0,v2)) h0 (by decide) h2
noncomputable def aN:FT (Int×Int×Unit) (ac) (λ_=>True) (λx v=>sS v/\(v.length:Int)<=max x.2.1 0):=⟨λ(x0,x1,_)=>
  .bnd (β:=Bool×Unit) (.val (cm.f (x1,1,6,())) λc1=>
   .ite (!c1) (.ret (true,()))<|
   .cal aA.c (x0,(IntKind.wrap .i64 (8*x1)),()) λc2=>
   .ret ((!c2),())) λ(u3a0,_)=>
  .ite u3a0 (.ret [])<|
  .grd ((((decide (0<=x1))&&(decide (x1=x1)))&&(decide (x1*1<=(aM:Int))))&&(decide (x1<=(aM:Int))))<|
  .lp (jv (x0,(IntKind.wrap .i64 (x1-1)),(List.replicate x1.toNat 0),())).lp λ(_,_,a4_1)=>
  .ret (az a4_1),
 λ(x0,x1,_) hp=>by
  refine Tr.B (Q':=λ_=>True) (Tr.V λ_ _=>Tr.I (λ_=>Tr.R trivial) λ_=>Tr.C trivial λ_ _ _=>Tr.R trivial) (λ(u3a0,_) _ _=>Tr.I (λ_=>Tr.R ?_) λ_=>Tr.G4 ?_ λ_=>Tr.L (Hf ?_ ?_ ?_) (λ(a4_0,a4_1) _=>Tr.R ?_) (λp=>Empty.elim p))
  all_goals ((try simp only[jv,LC.lp,LC.ct,Ct.lp,Tr.nice,kt]at*)<;>grind)⟩
noncomputable def jP:=dr st Tryz.func327 [(0,lb [0,5,6] [4,5]),(3000001,rA 0 16)] [cu,bN] 0 jv (ks:=[.sc (.int .i64),.sc (.int .i64)]) aN (λv=>[(false,[.c (.str v)])])
noncomputable def u9:FT (ac×Unit) (Int) (λx=>sS x.1) (λ_ _=>True):= .mk λ(x0,_)=>
  .cal yQ.c (x0,()) λc1=>
  .cal Bh.c (c1,()) λc2=>
  .ret (IntKind.wrap .i64 (65535-c2))
noncomputable def Dg:=aU st Tryz.func328 [QW,TA] (ks:=[.sc .str]) u9 rI
def rf:Sh:=⟨[zs 3],[]⟩
def A7:An:=⟨⟨[],[],false,0⟩,⟨[1,2,3],[],false,0⟩,⟨[],[]⟩,[(.normal,⟨[zp 1 0,zs 2,zs 3],[zx .opti]⟩)]⟩
def ze:An:=⟨⟨[],[],false,0⟩,⟨[1,2,3],[],false,0⟩,⟨[],[]⟩,[(.normal,⟨[zp 1 0,zs 2,zs 3],[zx .opti]⟩)]⟩
def zq:An:=⟨⟨[],[],false,0⟩,⟨[1,2,3],[],false,0⟩,⟨[],[]⟩,[(.normal,⟨[zp 1 0,zs 2,zs 3],[zx .opti]⟩)]⟩
def zn:An:=⟨⟨[],[],false,0⟩,⟨[2,3],[],false,0⟩,⟨[],[]⟩,[(.normal,⟨[zs 2,zs 3],[]⟩)]⟩
noncomputable def ra (a:ac):Tr (Stp (ac) ((ac))):=
 .ite (((a.length:Int).tmod 4) != 0) (.grd (Nat.ble (a.length+1) am)<|
  .ret (.next (a++[1])))<|
 .ret (.out a)
noncomputable def iD:rf.V->LW rf (ac) ((ac)):=λ(v0,_)=>⟨v0,λa=>(a,()),ra,(4-v0.length%4)%4,oN (.exit 0) ⟨[zu 2,zs 3],[]⟩ (λp=>(p,()))⟩
theorem A1 {v0:ac}(h0:v0.length+(4-v0.length%4)%4<=20):(iD (v0,())).W (λp=>p.length<=20):=
 lwW (a:=v0) (λa=>a.length+(4-a.length%4)%4<=20) (λa=>(4-a.length%4)%4) h0
noncomputable def oz:FT (Opti×Unit) (ac) (λ_=>True) (λx v=>sS v/\v.length<=20):= .mk (λ(x0,_)=>
  .cal d9.c (x0,()) λc1=>
  .ite (!c1) (.ret [])<|
  .bnd (β:=ac×ac×Opti×Unit) (.as (λw=>sS w.1/\sS w.2.1/\w.2.1.length<=4) (.ite (x0.mss != 0) (.cal aN.c (x0.mss,2,()) λc2=>
    .grd (Nat.ble (2+c2.length) am)<|
    .ret ([],([2,4]++c2),x0,()))<|
   .ret ([],[],x0,()))) λ(u3a0,u3a1,u3a2,_)=>
  .bnd (β:=ac×ac×Opti×Unit) (.as (λw=>sS w.1/\sS w.2.1/\w.2.1.length<=7) (.ite (decide (0<=u3a2.scale)) (.grd (Nat.ble (u3a1.length+2) am)<|
    .cal aN.c (u3a2.scale,1,()) λc4=>
    .grd (Nat.ble ((u3a1++[3,3]).length+c4.length) am)<|
    .ret (u3a0,((u3a1++[3,3])++c4),u3a2,()))<|
   .ret (u3a0,u3a1,u3a2,()))) λ(u5a0,u5a1,u5a2,_)=>
  .bnd (β:=ac×ac×Opti×Unit) (.as (λw=>sS w.1/\sS w.2.1/\w.2.1.length<=9) (.ite u5a2.sack (.grd (Nat.ble (u5a1.length+2) am)<|
    .ret (u5a0,(u5a1++[4,2]),u5a2,()))<|
   .ret (u5a0,u5a1,u5a2,()))) λ(u6a0,u6a1,u6a2,_)=>
  .bnd (β:=ac×ac×Unit) (.as (λw=>sS w.1/\sS w.2.1/\w.2.1.length<=19) (.ite u6a2.stamp (.grd (Nat.ble (u6a1.length+2) am)<|
    .cal aN.c (u6a2.val,4,()) λc7=>
    .grd (Nat.ble ((u6a1++[8,10]).length+c7.length) am)<|
    .cal aN.c (u6a2.echo,4,()) λc8=>
    .grd (Nat.ble (((u6a1++[8,10])++c7).length+c8.length) am)<|
    .ret (u6a0,(((u6a1++[8,10])++c7)++c8),()))<|
   .ret (u6a0,u6a1,()))) λ(_,u9a1,_)=>
  .lp (iD (u9a1,())).lp λp10a0=>
  .ret p10a0) (np @A1)
noncomputable def F7:=KG st Tryz.func332 [(0,lb [3] [2,3]),(1000009,A7),(1000018,ze),(1000026,zq),(1000030,zn)] [kN,jP] 0 iD (ks:=[.st .opti]) oz (λv=>[(false,[.c (.str v)])])
def xS:Sh:=⟨[zl 0 .entr,zl 10 .entr,zi 11,zi 12],[]⟩
noncomputable def eg (v0 v1:List Entr)(v3:Int)(a:Unit):Tr (Stp (Unit) ((Unit))):=
 .grd (ba v1 v3)<|
 .bnd (β:=Bool×Unit) (.cal ae.c ((v1.getD v3.toNat (Ty.zero .entr)).ip,32,()) λc1=>
  .ite (!c1) (.ret (true,()))<|
  .cal ae.c ((v1.getD v3.toNat (Ty.zero .entr)).hw,48,()) λc2=>
  .ite (!c2) (.ret (true,()))<|
  .val (a9.f ((v1.getD v3.toNat (Ty.zero .entr)).age,0,9,())) λc3=>
  .ret ((!c3),())) λ(u4a0,_)=>
 .ite u4a0 (.ret (.out ()))<|
 .grd ((decide (0<=v3))&&(decide (v3<=(v0.length:Int))))<|
 .cal AI.c (((v0.take v3.toNat).drop 0),(v1.getD v3.toNat (Ty.zero .entr)).ip,()) λc5=>
 .ite c5.2 (.ret (.out ()))<|
 .ret (.next ())
noncomputable def jI:xS.V->nL xS Unit (Unit):=λ(v0,v1,v2,v3,_)=>⟨v3,(),λv3 _=>(v0,v1,v2,v3,()),λv3 _=>(decide (v3<v2)),eg v0 v1,up,1,(Int.toNat (v2-v3)),.inl,eR,oB .ret ⟨[zb 2],[]⟩ (λ_=>(false,())) (.exit 0) ⟨[zu 2],[]⟩ (λ_=>())⟩
theorem GN {v0 v1:List Entr}{v2 v3:Int}(h0:0<=v3)(h1:v2<=4611686018427387904)(h2:sS v0)(h3:sS v1)(h4:v2<=(v1.length:Int))(h5:v2<=(v0.length:Int)):(jI (v0,v1,v2,v3,())).U v2 (λ_ _=>True) (λ_=>True):=
 kx h0 h1 trivial
noncomputable def gM:FT (List Entr×Unit) (Bool) (λx=>sS x.1) (λx v=>(v=true->x.1.length<=4)):= .mk (λ(x0,_)=>
  .ite (decide (4<(x0.length:Int))) (.ret false)<|
  .lp (jI (x0,x0,(x0.length:Int),0,())).lp λw6=> .sum w6 (λ_=>
  .ret false)<|
  λ_=>
  .ret true) (np @GN)
noncomputable def Ep:=dr ao Tryz.func334 [(0,lb [0,10,11,12] [2]),(3000006,rA 0 32)] [bI,bu,QB] 0 jI (ks:=[.sc (.sl .entr)]) gM rB
noncomputable def mZ:FT (Arpm×Unit) (Bool) (λ_=>True) (λ_ _=>True):= .mk λ(x0,_)=>
  .val (a9.f (x0.kind,1,2,())) λc1=>
  .ite c1 (.cal ae.c (x0.srcHw,48,()) λc2=>
   .ite c2 (.cal ae.c (x0.dstHw,48,()) λc3=>
    .ite c3 (.cal ae.c (x0.srcIp,32,()) λc4=>
     .ite c4 (.cal ae.c (x0.dstIp,32,()) λc5=>
      .ret c5)<|
     .ret false)<|
    .ret false)<|
   .ret false)<|
  .ret false
noncomputable def DP:=aU ao Tryz.func335 [bu,bI] (ks:=[.st .arpm]) mZ rB
def xA:Sh:=⟨[zi 0,zo 5 0,zi 6],[za .u8]⟩
noncomputable def dD (v1:Int)(a:Int×List Int):Tr (Stp (Int×List Int) (Empty)):=
 .grd (ba a.2 v1)<|
 .ret (.next ((a.1.fdiv 256),(a.2.set v1.toNat (IntKind.wrap .u8 a.1))))
noncomputable def d7:xA.V->wa xA (Int×List Int):=λ(v0,v1,v2,_)=>⟨v1,(v0,v2),λv1 a=>(a.1,v1,a.2,()),λv1 _=>(decide (0<=v1)),dD,dn,(-1),(Int.toNat (v1-0+1)),Empty.elim,Prod.mk,oN (.exit 0) ⟨[zu 4,zo 5 0],[za .u8]⟩ (λx=>(x.2.2,()))⟩
theorem Hi {v0 v1:Int}{v2:List Int}(h0:v1<=9223372036854775807)(h1:sS v2)(h2:v2.length=v2.length/\v1<(v2.length:Int)):(d7 (v0,v1,v2,())).D 0 (λv1 a=>a.2.length=v2.length/\v1<(a.2.length:Int)) (λ_=>True):=
 lcD (a:=(v0,v2)) h0 (by decide) h2
noncomputable def au:FT (Int×Int×Unit) (ac) (λ_=>True) (λx v=>sS v/\(v.length:Int)<=max x.2.1 0):=⟨λ(x0,x1,_)=>
  .bnd (β:=Bool×Unit) (.val (a9.f (x1,1,6,())) λc1=>
   .ite (!c1) (.ret (true,()))<|
   .cal ae.c (x0,(IntKind.wrap .i64 (8*x1)),()) λc2=>
   .ret ((!c2),())) λ(u3a0,_)=>
  .ite u3a0 (.ret [])<|
  .grd ((((decide (0<=x1))&&(decide (x1=x1)))&&(decide (x1*1<=(aM:Int))))&&(decide (x1<=(aM:Int))))<|
  .lp (d7 (x0,(IntKind.wrap .i64 (x1-1)),(List.replicate x1.toNat 0),())).lp λ(_,_,a4_1)=>
  .ret (az a4_1),
 λ(x0,x1,_) hp=>by
  refine Tr.B (Q':=λ_=>True) (Tr.V λ_ _=>Tr.I (λ_=>Tr.R trivial) λ_=>Tr.C trivial λ_ _ _=>Tr.R trivial) (λ(u3a0,_) _ _=>Tr.I (λ_=>Tr.R ?_) λ_=>Tr.G4 ?_ λ_=>Tr.L (Hi ?_ ?_ ?_) (λ(a4_0,a4_1) _=>Tr.R ?_) (λp=>Empty.elim p))
  all_goals ((try simp only[d7,LC.lp,LC.ct,Ct.lp,Tr.nice,kt]at*)<;>grind)⟩
noncomputable def jx:=dr ao Tryz.func337 [(0,lb [0,5,6] [4,5]),(3000001,rA 0 16)] [bu,bI] 0 d7 (ks:=[.sc (.int .i64),.sc (.int .i64)]) au (λv=>[(false,[.c (.str v)])])
noncomputable def r7:FT (ac×Unit) (Int) (λx=>sS x.1) (λ_ _=>True):= .mk λ(x0,_)=>
  .cal qg.c (x0,()) λc1=>
  .cal BK.c (c1,()) λc2=>
  .ret (IntKind.wrap .i64 (65535-c2))
noncomputable def D7:=aU ao Tryz.func338 [QU,Ue] (ks:=[.sc .str]) r7 rI
def qQ:Sh:=⟨[zs 3],[]⟩
def AH:An:=⟨⟨[],[],false,0⟩,⟨[1,2,3],[],false,0⟩,⟨[],[]⟩,[(.normal,⟨[zp 1 0,zs 2,zs 3],[zx .opti]⟩)]⟩
def zc:An:=⟨⟨[],[],false,0⟩,⟨[1,2,3],[],false,0⟩,⟨[],[]⟩,[(.normal,⟨[zp 1 0,zs 2,zs 3],[zx .opti]⟩)]⟩
def zd:An:=⟨⟨[],[],false,0⟩,⟨[1,2,3],[],false,0⟩,⟨[],[]⟩,[(.normal,⟨[zp 1 0,zs 2,zs 3],[zx .opti]⟩)]⟩
def zt:An:=⟨⟨[],[],false,0⟩,⟨[2,3],[],false,0⟩,⟨[],[]⟩,[(.normal,⟨[zs 2,zs 3],[]⟩)]⟩
noncomputable def qs (a:ac):Tr (Stp (ac) ((ac))):=
 .ite (((a.length:Int).tmod 4) != 0) (.grd (Nat.ble (a.length+1) am)<|
  .ret (.next (a++[1])))<|
 .ret (.out a)
noncomputable def iH:qQ.V->LW qQ (ac) ((ac)):=λ(v0,_)=>⟨v0,λa=>(a,()),qs,(4-v0.length%4)%4,oN (.exit 0) ⟨[zu 2,zs 3],[]⟩ (λp=>(p,()))⟩
theorem AX {v0:ac}(h0:v0.length+(4-v0.length%4)%4<=20):(iH (v0,())).W (λp=>p.length<=20):=
 lwW (a:=v0) (λa=>a.length+(4-a.length%4)%4<=20) (λa=>(4-a.length%4)%4) h0
noncomputable def cg:FT (Opti×Unit) (ac) (λ_=>True) (λx v=>sS v/\v.length<=20):= .mk (λ(x0,_)=>
  .cal aF.c (x0,()) λc1=>
  .ite (!c1) (.ret [])<|
  .bnd (β:=ac×ac×Opti×Unit) (.as (λw=>sS w.1/\sS w.2.1/\w.2.1.length<=4) (.ite (x0.mss != 0) (.cal au.c (x0.mss,2,()) λc2=>
    .grd (Nat.ble (2+c2.length) am)<|
    .grd (Nat.ble (0+([2,4]++c2).length) am)<|
    .ret ([],([]++([2,4]++c2)),x0,()))<|
   .ret ([],[],x0,()))) λ(u3a0,u3a1,u3a2,_)=>
  .bnd (β:=ac×ac×Opti×Unit) (.as (λw=>sS w.1/\sS w.2.1/\w.2.1.length<=7) (.ite (u3a2.scale != (-1)) (.cal au.c (u3a2.scale,1,()) λc4=>
    .grd (Nat.ble (2+c4.length) am)<|
    .grd (Nat.ble (u3a1.length+([3,3]++c4).length) am)<|
    .ret (u3a0,(u3a1++([3,3]++c4)),u3a2,()))<|
   .ret (u3a0,u3a1,u3a2,()))) λ(u5a0,u5a1,u5a2,_)=>
  .bnd (β:=ac×ac×Opti×Unit) (.as (λw=>sS w.1/\sS w.2.1/\w.2.1.length<=9) (.ite u5a2.sack (.grd (Nat.ble (u5a1.length+2) am)<|
    .ret (u5a0,(u5a1++[4,2]),u5a2,()))<|
   .ret (u5a0,u5a1,u5a2,()))) λ(u6a0,u6a1,u6a2,_)=>
  .bnd (β:=ac×ac×Unit) (.as (λw=>sS w.1/\sS w.2.1/\w.2.1.length<=19) (.ite u6a2.stamp (.cal au.c (u6a2.val,4,()) λc7=>
    .grd (Nat.ble (2+c7.length) am)<|
    .cal au.c (u6a2.echo,4,()) λc8=>
    .grd (Nat.ble (([8,10]++c7).length+c8.length) am)<|
    .grd (Nat.ble (u6a1.length+(([8,10]++c7)++c8).length) am)<|
    .ret (u6a0,(u6a1++(([8,10]++c7)++c8)),()))<|
   .ret (u6a0,u6a1,()))) λ(_,u9a1,_)=>
  .lp (iH (u9a1,())).lp λp10a0=>
  .ret p10a0) (np @AX)
noncomputable def Fk:=KG ao Tryz.func340 [(0,lb [3] [2,3]),(1000009,AH),(1000018,zc),(1000026,zd),(1000030,zt)] [kG,jx] 0 iH (ks:=[.st .opti]) cg (λv=>[(false,[.c (.str v)])])
noncomputable def yy:FT (Fram×Unit) (Bool) (λ_=>True) (λx v=>(v=true->x.1.body.length<=1586)):= .mk λ(x0,_)=>
  .cal aA.c (x0.dst,48,()) λc1=>
  .ite c1 (.cal aA.c (x0.src,48,()) λc2=>
   .ite c2 (.val (cm.f (x0.type,1536,65535,())) λc3=>
    .ite c3 (.ret (decide ((x0.body.length:Int)<=1586)))<|
    .ret false)<|
   .ret false)<|
  .ret false
noncomputable def PQ:=aU st Tryz.func351 [bN,cu] (ks:=[.st .fram]) yy rB
noncomputable def Ns:=[bI,bu]
noncomputable def OZ:Fx:=⟨352,Tryz.f352,[(3000001,rA 0 21),(3000003,rA 0 36)],0⟩
noncomputable def br:FT (Sndr×Unit) (Bool) (λ_=>True) (λx v=>(v=true↔SO x.1)):= .mk λ(x0,_)=>
  .bnd (β:=Bool×Unit) (.cal ae.c (x0.una,32,()) λc1=>
   .ite (!c1) (.ret (true,()))<|
   .ite (decide (48<(x0.data.length:Int))) (.ret (true,()))<|
   .val (a9.f (x0.sent,0,(x0.data.length:Int),())) λc2=>
   .ret ((!c2),())) λ(u3a0,_)=>
  .ite u3a0 (.ret false)<|
  .bnd (β:=Bool×Unit) (.ite x0.finSent (.ite (!x0.fin) (.ret (true,()))<|
    .ret ((x0.sent != (x0.data.length:Int)),()))<|
   .ret (false,())) λ(u4a0,_)=>
  .ite u4a0 (.ret false)<|
  .ite (!x0.done) (.ret true)<|
  .ite x0.fin (.ite (!x0.finSent) (.ret (x0.data==[]))<|
   .ret false)<|
  .ret false
noncomputable def pP:=cI ao OZ Ns [] (ks:=[.st .sndr]) br rB Tryz.func352 trivial
def r9:Sh:=⟨[zp 1 0,zi 4,zi 5,zl 45 .piec,zi 46,zi 47],[zg .recv]⟩
def AN:An:=⟨⟨[],[],false,0⟩,⟨[1,2,4],[],false,0⟩,⟨[],[]⟩,[(.normal,⟨[zp 1 0,zb 2,zi 4],[zg .recv]⟩)]⟩
noncomputable def dE (v0:Int)(v2:List Piec)(v4:Int)(a:Int):Tr (Stp (Int) ((Unit))):=
 .grd (ba v2 v4)<|
 .bnd (β:=Bool×Unit) (.ite ((v2.getD v4.toNat (Ty.zero .piec)).text==[]) (.ret (true,()))<|
  .ite (decide ((v2.getD v4.toNat (Ty.zero .piec)).off<=a)) (.ret (true,()))<|
  .val (IntKind.wrap .i64 (v0-(((v2.getD v4.toNat (Ty.zero .piec)).text).length:Int))) λe6=>
  .ret ((decide (e6<(v2.getD v4.toNat (Ty.zero .piec)).off)),())) λ(u7a0,_)=>
 .ite u7a0 (.ret (.out ()))<|
 .val (IntKind.wrap .i64 ((v2.getD v4.toNat (Ty.zero .piec)).off+(((v2.getD v4.toNat (Ty.zero .piec)).text).length:Int))) λe8=>
 .ret (.next e8)
noncomputable def ew:r9.V->nL r9 Int (Unit):=λ(v0,v1,v2,v3,v4,v5,_)=>⟨v4,v1,λv4 a=>(v0,a,v2,v3,v4,v5,()),λv4 _=>(decide (v4<v3)),dE v0 v2,up,1,(Int.toNat (v3-v4)),.inl,eR,oB .ret ⟨[zp 1 0,zb 2],[zg .recv]⟩ (λ_=>(false,v5,())) (.exit 0) ⟨[zp 1 0,zu 2],[zg .recv]⟩ (λ_=>(v5,()))⟩
theorem BO {v0 v1 v3 v4:Int}{v2:List Piec}{v5:Recv}(h0:0<=v4)(h1:v3<=4611686018427387904)(h2:v0<=32)(h3:0<=v0)(h4:sL bD v2)(h5:v3<=(v2.length:Int))(h6:0<=v1/\v1<=32/\dP (pw v0) (v2.take v4.toNat)):(ew (v0,v1,v2,v3,v4,v5,())).U v3 (λv4 a=>0<=a/\a<=32/\dP (pw v0) (v2.take v4.toNat)) (λ_=>True):=
 LC.okU (i:=v4) (a:=v1) (λ_ _=>rfl) (λ_=>rfl) rfl h0 h1 h6 λv4 v1 hj hk hv=>by
  refine Tr.G2 ?_ λ_=>Tr.B (Q':=λ_=>True) (Tr.F (by kernel_rfl) trivial) (λ(u7a0,_) _ _=>Tr.I (λ_=>Tr.Ro trivial) λ_=>Tr.V λ_ _=>Tr.Rn ?_)
  all_goals ((try simp only[Tr.nice,kt]at*)<;>grind [<-ZW])
noncomputable def bB:FT (Recv×Unit) (Bool) (λx=>ax x.1) (λx v=>(v=true->RO x.1)/\(v=true->dP (pw (Wv x.1)) x.1.held)):=⟨λ(x0,_)=>
  .cal bX.c (x0,()) λc1=>
  .bnd (β:=Bool×Unit) (.cal ae.c (x0.next,32,()) λc2=>
   .ite (!c2) (.ret (true,()))<|
   .ite (decide (32<(x0.data.length:Int))) (.ret (true,()))<|
   .ite (decide (3<(x0.held.length:Int))) (.ret (true,()))<|
   .val (a9.f (x0.fin,(-1),c1,())) λc3=>
   .ite (!c3) (.ret (true,()))<|
   .ret ((x0.fin==0),())) λ(u4a0,_)=>
  .ite u4a0 (.ret false)<|
  .bnd (β:=Bool×Int×Recv×Unit) (.ite (x0.fin != (-1)) (.ret (false,x0.fin,x0,()))<|
   .ret (false,c1,x0,())) λ(_,u5a1,u5a2,_)=>
  .lp (ew (u5a1,0,u5a2.held,(u5a2.held.length:Int),0,u5a2,())).lp λw9=> .sum w9 (λ_=>
  .ret false)<|
  λ_=>
  .ite (!u5a2.done) (.ret true)<|
  .ite ((u5a2.held.length:Int)==0) (.ret (u5a2.fin==(-1)))<|
  .ret false,
 λ(x0,_) hp=>by
  refine Tr.C ?_ λc1 hc1 qc1=>Tr.B (Q':=λ_=>True) (Tr.C trivial λc2 hc2 qc2=>Tr.F (by kernel_rfl) trivial) (λ(u4a0,_) hj4 qj4=>Tr.I (λb0=>Tr.R ?_) λb0=>Tr.B (Q':=λw=>ax w.2.2.1/\0<=w.2.1/\w.2.1<=32/\w.2.2.1=x0/\(x0.data.length<=32->w.2.1<=Wv x0)) (Tr.I (λb1=>Tr.R ?_) λb1=>Tr.R ?_) (λ(u5a0,u5a1,u5a2,_) hj5 qj5=>Tr.L (BO ?_ ?_ ?_ ?_ ?_ ?_ ?_) (λa9_0 i9=>Tr.Sr (Tr.I (λb1=>Tr.R ?_) λb1=>Tr.I (λb2=>Tr.R ?_) λb2=>Tr.R ?_)) (λ_ hp9=>Tr.Sl (Tr.R ?_))))
  all_goals ((try simp only[ew,LC.lp,LC.ct,Ct.lp,Tr.nice,kt]at*)<;>grind [aa1,abV,abM])⟩
noncomputable def wO:=dr ao Tryz.func353 [(0,lb [1,4,5,45,46,47] [1,2]),(1000041,AN),(3000002,rA 0 37),(3000011,rA 0 69)] [na,bI,bu] 0 ew (ks:=[.st .recv]) bB rB
noncomputable def y7:FT (Conn×Int×Unit) (Bool) (λx=>ah x.1) (λ_ _=>True):= .mk λ(x0,x1,_)=>
  .val (qi.f (x1,x0.s.una,())) λc1=>
  .cal jG.c (x0.s,()) λc2=>
  .ite (decide (c1<=c2)) (.ite (decide (0<=c1)) (.ret true)<|
   .ite (decide (2147483648<=x0.most)) (.ret true)<|
   .ite (decide (0<x0.most)) (.ret (decide ((IntKind.wrap .i64 (0-x0.most))<=c1)))<|
   .ret false)<|
  .ret false
noncomputable def Px:=aU st Tryz.func357 [xC,mI] (ks:=[.st .conn,.sc (.int .i64)]) y7 rB
noncomputable def xv:FT (Sndr×Unit) (Int) (λx=>dW x.1) (λ_ _=>True):= .mk λ(x0,_)=>
  .cal jG.c (x0,()) λc1=>
  .val (cX.f (x0.una,c1,())) λc2=>
  .ret c2
noncomputable def J0:=aU st Tryz.func358 [mI,ib] (ks:=[.st .sndr]) xv rI
noncomputable def M7:=[uT,DG]
noncomputable def Nc:Fx:=⟨370,Tryz.f370,[(3000002,rA 0 16)],0⟩
noncomputable def un:FF (Int×Int×Int×Int×Unit) (Bool):=⟨λ(x0,x1,x2,x3,_)=>
  .bnd (β:=Bool×Unit) (.ite (decide ((if 65536<x1 then 65536 else x1)<1)) (.ret (true,()))<|
   .ret ((decide (x3<1)),())) λ(u1a0,_)=>
  .ite u1a0 (.ret false)<|
  .val (nK.f (x0,x2,x3,())) λc2=>
  .ite c2 (.ret true)<|
  .val (rP.f (x2,x0,())) λc3=>
  .ret (decide (c3<(if 65536<x1 then 65536 else x1)))⟩
noncomputable def Nq:=Vg ao Nc M7 [] (ks:=[.sc (.int .i64),.sc (.int .i64),.sc (.int .i64),.sc (.int .i64)]) un rB Tryz.func370 trivial
noncomputable def eI:FT (List Bool×Bool×Unit) (Bool) (λx=>sS x.1) (λ_ _=>True):= .mk λ(x0,x1,_)=>
  .cal pU.c (x0,x1,()) λc1=>
  .ret (decide (0<=c1))
noncomputable def BP:=aU st Tryz.func372 [Ki] (ks:=[.sc (.sl .bool),.sc .bool]) eI rB
noncomputable def Nm:=[bN,cu]
noncomputable def Nw:Fx:=⟨373,Tryz.f373,[(3000001,rA 0 21),(3000003,rA 0 36)],0⟩
noncomputable def fZ:FT (Sndr×Unit) (Bool) (λ_=>True) (λx v=>(v=true↔SO x.1)):= .mk λ(x0,_)=>
  .bnd (β:=Bool×Unit) (.cal aA.c (x0.una,32,()) λc1=>
   .ite (!c1) (.ret (true,()))<|
   .ite (decide (48<(x0.data.length:Int))) (.ret (true,()))<|
   .val (cm.f (x0.sent,0,(x0.data.length:Int),())) λc2=>
   .ret ((!c2),())) λ(u3a0,_)=>
  .ite u3a0 (.ret false)<|
  .bnd (β:=Bool×Unit) (.ite x0.finSent (.ite (!x0.fin) (.ret (true,()))<|
    .ret ((x0.sent != (x0.data.length:Int)),()))<|
   .ret (false,())) λ(u4a0,_)=>
  .ite u4a0 (.ret false)<|
  .ite (!x0.done) (.ret true)<|
  .ite x0.fin (.ite (!x0.finSent) (.ret (x0.data==[]))<|
   .ret false)<|
  .ret false
noncomputable def pV:=cI st Nw Nm [] (ks:=[.st .sndr]) fZ rB Tryz.func373 trivial
def rT:Sh:=⟨[zp 1 0,zi 3,zi 4,zi 5],[zg .recv]⟩
noncomputable def eG (v0:Int)(v3:Recv)(v2:Int)(a:Int):Tr (Stp (Int) ((Int))):=
 .grd (ba v3.held v2)<|
 .bnd (β:=Bool×Unit) (.ite ((v3.held.getD v2.toNat (Ty.zero .piec)).text==[]) (.ret (true,()))<|
  .ite (decide ((v3.held.getD v2.toNat (Ty.zero .piec)).off<=a)) (.ret (true,()))<|
  .ite (decide (v0<(v3.held.getD v2.toNat (Ty.zero .piec)).off)) (.ret (true,()))<|
  .val (IntKind.wrap .i64 ((v3.held.getD v2.toNat (Ty.zero .piec)).off+(((v3.held.getD v2.toNat (Ty.zero .piec)).text).length:Int))) λe5=>
  .ret ((decide (v0<e5)),())) λ(u6a0,_)=>
 .ite u6a0 (.ret (.out a))<|
 .val (IntKind.wrap .i64 ((v3.held.getD v2.toNat (Ty.zero .piec)).off+(((v3.held.getD v2.toNat (Ty.zero .piec)).text).length:Int))) λe7=>
 .ret (.next e7)
noncomputable def fV:rT.V->nL rT Int (Int):=λ(v0,v1,v2,v3,_)=>⟨v2,v1,λv2 a=>(v0,a,v2,v3,()),λv2 _=>(decide (v2<(v3.held.length:Int))),eG v0 v3,up,1,(Int.toNat ((v3.held.length:Int)-v2)),.inl,eR,oB .ret ⟨[zp 1 0,zb 2,zi 4],[zg .recv]⟩ (λp=>(false,p,v3,())) (.exit 0) ⟨[zp 1 0,zu 2,zi 4],[zg .recv]⟩ (λx=>(x.2,v3,()))⟩
theorem BG {v0 v1 v2:Int}{v3:Recv}(h0:0<=v2)(h1:(v3.held.length:Int)<=4611686018427387904)(h2:v0<=32)(h3:0<=v0)(h4:ax v3)(h5:0<=v1/\v1<=32/\dP po (v3.held.take v2.toNat)):(fV (v0,v1,v2,v3,())).U (v3.held.length:Int) (λv2 a=>0<=a/\a<=32/\dP po (v3.held.take v2.toNat)) (λ_=>True):=
 LC.okU (i:=v2) (a:=v1) (λ_ _=>rfl) (λ_=>rfl) rfl h0 h1 h5 λv2 v1 hj hk hv=>by
  refine Tr.G2 ?_ λ_=>Tr.B (Q':=λ_=>True) (Tr.F (by kernel_rfl) trivial) (λ(u6a0,_) _ _=>Tr.I (λ_=>Tr.Ro trivial) λ_=>Tr.V λ_ _=>Tr.Rn ?_)
  all_goals ((try simp only[Tr.nice,kt]at*)<;>grind [<-Zz])
noncomputable def m9:FT (Recv×Unit) (Bool) (λx=>ax x.1) (λx v=>(v=true->RO x.1)):=⟨λ(x0,_)=>
  .cal ju.c (x0,()) λc1=>
  .bnd (β:=Bool×Unit) (.cal aA.c (x0.next,32,()) λc2=>
   .ite (!c2) (.ret (true,()))<|
   .ite (decide (32<(x0.data.length:Int))) (.ret (true,()))<|
   .ite (decide (3<(x0.held.length:Int))) (.ret (true,()))<|
   .val (cm.f (x0.fin,(-1),c1,())) λc3=>
   .ite (!c3) (.ret (true,()))<|
   .ret ((x0.fin==0),())) λ(u4a0,_)=>
  .ite u4a0 (.ret false)<|
  .lp (fV (c1,0,0,x0,())).lp λw8=> .sum w8 (λ_=>
  .ret false)<|
  λ(_,a8_0)=>
  .ite (decide (x0.fin<0)) (.ite (!x0.done) (.ret true)<|
   .ite ((x0.held.length:Int)==0) (.ret (x0.fin==(-1)))<|
   .ret false)<|
  .ite (decide (a8_0<=x0.fin)) (.ite (!x0.done) (.ret true)<|
   .ite ((x0.held.length:Int)==0) (.ret (x0.fin==(-1)))<|
   .ret false)<|
  .ret false,
 λ(x0,_) hp=>by
  refine Tr.C ?_ λ_ _ _=>Tr.B (Q':=λ_=>True) (Tr.C trivial λ_ _ _=>Tr.F (by kernel_rfl) trivial) (λ(u4a0,_) _ _=>Tr.I (λ_=>Tr.R ?_) λ_=>Tr.L (BG ?_ ?_ ?_ ?_ ?_ ?_) (λa8_0 _=>Tr.Sr (Tr.I (λ_=>Tr.I (λ_=>Tr.R ?_) λ_=>Tr.I (λ_=>Tr.R ?_) λ_=>Tr.R ?_) λ_=>Tr.I (λ_=>Tr.I (λ_=>Tr.R ?_) λ_=>Tr.I (λ_=>Tr.R ?_) λ_=>Tr.R ?_) λ_=>Tr.R ?_)) (λp8a0 _=>Tr.Sl (Tr.R ?_)))
  all_goals ((try simp only[fV,LC.lp,LC.ct,Ct.lp,Tr.nice,kt]at*)<;>grind [aa5])⟩
noncomputable def xZ:=dr st Tryz.func374 [(0,lb [1,3,4,5] [1,2,4]),(3000002,rA 0 36),(3000009,rA 0 73)] [mY,bN,cu] 0 fV (ks:=[.st .recv]) m9 rB
noncomputable def CL:FT (Arpm×Unit) (Bool) (λ_=>True) (λ_ _=>True):= .mk λ(x0,_)=>
  .val (cm.f (x0.kind,1,2,())) λc1=>
  .ite c1 (.cal aA.c (x0.srcHw,48,()) λc2=>
   .ite c2 (.cal aA.c (x0.dstHw,48,()) λc3=>
    .ite c3 (.cal aA.c (x0.srcIp,32,()) λc4=>
     .ite c4 (.cal aA.c (x0.dstIp,32,()) λc5=>
      .ret c5)<|
     .ret false)<|
    .ret false)<|
   .ret false)<|
  .ret false
noncomputable def L9:=aU st Tryz.func376 [cu,bN] (ks:=[.st .arpm]) CL rB
noncomputable def uy:FT (Pack×Unit) (Bool) (λ_=>True) (λx v=>(v=true->x.1.body.length<=1480)):= .mk λ(x0,_)=>
  .cal aA.c (x0.src,32,()) λc1=>
  .ite c1 (.cal aA.c (x0.dst,32,()) λc2=>
   .ite c2 (.val (cm.f (x0.ttl,1,255,())) λc3=>
    .ite c3 (.cal aA.c (x0.proto,8,()) λc4=>
     .ite c4 (.cal aA.c (x0.id,16,()) λc5=>
      .ite c5 (.ret (decide ((x0.body.length:Int)<=1480)))<|
      .ret false)<|
     .ret false)<|
    .ret false)<|
   .ret false)<|
  .ret false
noncomputable def N4:=aU st Tryz.func379 [bN,cu] (ks:=[.st .pack]) uy rB
noncomputable def lB:FT (Pack×Unit) (Bool) (λ_=>True) (λx v=>(v=true->x.1.body.length<=1480)):= .mk λ(x0,_)=>
  .cal ae.c (x0.src,32,()) λc1=>
  .ite c1 (.cal ae.c (x0.dst,32,()) λc2=>
   .ite c2 (.val (a9.f (x0.ttl,1,255,())) λc3=>
    .ite c3 (.cal ae.c (x0.proto,8,()) λc4=>
     .ite c4 (.cal ae.c (x0.id,16,()) λc5=>
      .ite c5 (.ret (decide ((x0.body.length:Int)<=1480)))<|
      .ret false)<|
     .ret false)<|
    .ret false)<|
   .ret false)<|
  .ret false
noncomputable def MK:=aU ao Tryz.func382 [bI,bu] (ks:=[.st .pack]) lB rB
noncomputable def Ck:=[Ra]
def kT:Sh:=⟨[zl 0 .piec,zi 1,zi 5],[]⟩
noncomputable def Cd:Fx:=⟨383,Tryz.f383,[(0,lb [0,1,5] [1,4])],0⟩
noncomputable def pj (v0:List Piec)(v2:Int)(a:Int):Tr (Stp (Int) ((Int))):=
 .grd (ba v0 v2)<|
 .cal dQ.c ((v0.getD v2.toNat (Ty.zero .piec)),a,()) λc1=>
 .ite (decide (c1<0)) (.ret (.out c1))<|
 .ret (.next c1)
noncomputable def eJ:kT.V->nL kT Int (Int):=λ(v0,v1,v2,_)=>⟨v2,v1,λv2 a=>(v0,a,v2,()),λv2 _=>(decide (v2<(v0.length:Int))),pj v0,up,1,(Int.toNat ((v0.length:Int)-v2)),.inl,eR,oB .ret ⟨[zi 1,zi 4],[]⟩ (λp=>(p,(-1),())) (.exit 0) ⟨[zi 1,zu 4],[]⟩ (λx=>(x.2,()))⟩
theorem FE:LS Tryz.prog Cd [0] (kD 0 kT eJ):=fa st (aW Ck) _ eJ [] trivial
theorem F4 {v0:List Piec}{v1 v2:Int}(h0:0<=v2)(h1:(v0.length:Int)<=4611686018427387904):(eJ (v0,v1,v2,())).U (v0.length:Int) (λ_ _=>True) (λ_=>True):=
 kx (a:=v1) h0 h1 trivial
noncomputable def lw:FX (List Piec×Int×Unit) (Int) (λ_=>True) (cG [.sc (.sl .piec),.sc (.int .i64)]):=⟨λ(x0,x1,_)=>
  .ite (decide ((IntKind.wrap .i64 (x1-(x0.length:Int)))<0)) (.ret (-1))<|
  .lp (eJ (x0,(IntKind.wrap .i64 (x1-(x0.length:Int))),0,())).lp λw2=> .sum w2 (λ_=>
  .ret (-1))<|
  λ(_,a2_0)=>
  .ret a2_0,
 λ(x0,x1,_) hp hf=>by
  simp only[cG,Pk.fact,jT,gy,Fl.fact,Ty.fl,Ty.toH]at hf
  refine Tr.I (λ_=>Tr.R trivial) λ_=>Tr.L (F4 ?_ ?_) (λa2_0 _=>Tr.Sr (Tr.R trivial)) (λp2a0 _=>Tr.Sl (Tr.R trivial))
  all_goals ((try simp only[eJ,LC.lp,LC.ct,Ct.lp]at*)<;>grind)⟩
theorem T6 (xs:List Piec)(k:Int)(h0:0<=k)(h1:k<=1048576)(hl:xs.length<=140737488355328)(he:EV .piec xs)(h:0<=lw.f (xs,k,())):lw.f (xs,k,())<=k/\xs.length<=1048576/\dP bD xs:=by
 have w:IntKind.wrap .i64 (k-(xs.length:Int))=k-(xs.length:Int):=aj (by omega) (by omega)
 simp only[FX.f,PX,lw,eJ,w,av]at h|-
 by_cases c:k-(xs.length:Int)<0
 ·rw[decide_eq_true c,cond_true]at h;omega
 rw[decide_eq_false c,cond_false]at h|-
 have hf:∀(j:Nat) x a,xs[j]? =some x->(pj xs (j:Int) a).nice=(bif decide (dQ.f (x,a,())<0)then Stp.out (dQ.f (x,a,()))else Stp.next (dQ.f (x,a,()))):=λj x a hx=>by
  simp only[PX,pj,aa,getD_some hx]
 rw[bA xs _ rfl (F:=λ_ x a=>(bif decide (dQ.f (x,a,())<0)then Stp.out (dQ.f (x,a,()))else Stp.next (dQ.f (x,a,())))) hf]at h|-
 cases hn:eT (λ_ x a=>(bif decide (dQ.f (x,a,())<0)then Stp.out (dQ.f (x,a,()))else Stp.next (dQ.f (x,a,())))) 0 xs (k-(xs.length:Int))with
 |out p=>rw[hn]at h;simp only[Stp.elim]at h;omega
 |next b=>
  obtain⟨h2,h3⟩:=Gr (λx a=>dQ.f (x,a,())) bD xs 0 _ b (λx hx k h0 h1 h=>(have h4:=VO x k h0 h1 (he x hx (.str x.text) (List.mem_cons_of_mem _ List.mem_cons_self)).slen h;⟨h4.1,(by unfold bD;omega)⟩)) (by omega) (by omega) hn
  simp only[Stp.elim]
  exact⟨by omega,by omega,h3⟩
noncomputable def OS:=YH st Cd Ck [(kD 0 kT eJ)] (ks:=[.sc (.sl .piec),.sc (.int .i64)]) lw rI Tryz.func383 ⟨FE,trivial⟩
def vF:Sh:=⟨[zl 0 .piec,zo 3 0,zi 4],[za .piec]⟩
noncomputable def vl (v0:List Piec)(v1:Int)(a:List Piec):Tr (Stp (List Piec) (Empty)):=
 .grd (ba v0 v1)<|
 .cal Eg.c ((v0.getD v1.toNat (Ty.zero .piec)),()) λc1=>
 .grd (ba a v1)<|
 .ret (.next (a.set v1.toNat c1))
noncomputable def iP:vF.V->wa vF (List Piec):=λ(v0,v1,v2,_)=>⟨v1,v2,λv1 a=>(v0,v1,a,()),λv1 _=>(decide (v1<(v0.length:Int))),vl v0,up,1,(Int.toNat ((v0.length:Int)-v1)),Empty.elim,Prod.mk,oN (.exit 0) ⟨[zu 2,zo 3 0],[za .piec]⟩ (λx=>(x.2,()))⟩
theorem Ge {v0 v2:List Piec}{v1:Int}(h0:0<=v1)(h1:(v0.length:Int)<=4611686018427387904)(h2:sL bD v0)(h3:sL bD v2)(h4:v2.length=v2.length/\dP bD v2/\(v0.length:Int)<=(v2.length:Int)):(iP (v0,v1,v2,())).U (v0.length:Int) (λv1 a=>a.length=v2.length/\dP bD a/\(v0.length:Int)<=(a.length:Int)) (λ_=>True):=
 kx (a:=v2) h0 h1 h4
noncomputable def u6:FT (List Piec×Unit) (List Piec) (λx=>sL bD x.1) (λx v=>sL bD v):=⟨λ(x0,_)=>
  .grd ((((decide (0<=(x0.length:Int)))&&(decide ((x0.length:Int)=(x0.length:Int))))&&(decide ((x0.length:Int)*24<=(aM:Int))))&&(decide ((x0.length:Int)<=(aM:Int))))<|
  .lp (iP (x0,0,(List.replicate ((x0.length:Int).toNat) (⟨0,[]⟩:Piec)),())).lp λ(_,a2_0)=>
  .ret a2_0,
 λ(x0,_) hp=>by
  refine Tr.G4 ?_ λ_=>Tr.L (Ge ?_ ?_ ?_ ?_ ?_) (λa2_0 _=>Tr.R ?_) (λp=>Empty.elim p)
  all_goals ((try simp only[iP,LC.lp,LC.ct,Ct.lp]at*)<;>grind)⟩
noncomputable def NJ:=dr ao Tryz.func384 [(0,lb [0,3,4] [2,3])] [PF] 0 iP (ks:=[.sc (.sl .piec)]) u6 (λv=>[(false,[sc (.o true) .piec v])])
def vj:Sh:=⟨[zi 0,zi 1,zi 2,zi 3,zi 9],[]⟩
noncomputable def iO (v0 v2 v3:Int)(v4:Int)(a:Unit):Tr (Stp (Unit) ((Unit)⊕(Unit))):=
 .ite (decide (v4<65536)) (.val (cX.f (v0,v4,())) λc1=>
  .val (nF.f (c1,v2,v3,())) λc2=>
  .ite c2 (.ret (.out (.inl ())))<|
  .ret (.next ()))<|
 .ret (.out (.inr (())))
noncomputable def kW:vj.V->nL vj Unit ((Unit)⊕(Unit)):=λ(v0,v1,v2,v3,v4,_)=>⟨v4,(),λv4 _=>(v0,v1,v2,v3,v4,()),λv4 _=>(decide (v4<v1)),iO v0 v2 v3,up,1,(Int.toNat (v1-v4)),.inl,eR,λ_ k w=>Sum.elim (oB .ret ⟨[zb 8],[]⟩ (λ_=>(true,())) (.exit 0) ⟨[zu 8],[]⟩ (λ_=>()) _ k) (λ_=>k (.exit 0) (Sh.enc ⟨[zu 8],[]⟩ ())) w⟩
theorem Fo {v0 v1 v2 v3 v4:Int}(h0:0<=v4)(h1:v1<=4611686018427387904):(kW (v0,v1,v2,v3,v4,())).U v1 (λ_ _=>True) (λ_=>True):=
 LC.okU (i:=v4) (a:=()) (λ_ _=>rfl) (λ_=>rfl) rfl h0 h1 trivial λv4 _ hj hk hv=>Tr.Z (by kernel_rfl)
noncomputable def uc:FT (Int×Int×Int×Int×Unit) (Bool) (λx=>x.2.1<=4611686018427387904) (λ_ _=>True):= .mk (λ(x0,x1,x2,x3,_)=>
  .lp (kW (x0,x1,x2,x3,0,())).lp λw3=> .sum w3 (λq3=> .sum q3 (λ_=>
  .ret true)<|
  λ_=>
  .ret false)<|
  λ_=>
  .ret false) (np @Fo)
noncomputable def ON:=dr st Tryz.func386 [(0,lb [0,1,2,3,9] [8])] [ib,uu] 0 kW (ks:=[.sc (.int .i64),.sc (.int .i64),.sc (.int .i64),.sc (.int .i64)]) uc rB
noncomputable def iq:FT (Sipr×Unit) (Sipr) (λ_=>True) (λ_ _=>True):= .mk λ(x0,_)=>
  .cal j6.c (x0.b,13,()) λc1=>
  .cal j6.c ((IntKind.wrap .u64 (x0.a+x0.b)),32,()) λc2=>
  .cal j6.c (x0.d,16,()) λc3=>
  .val (IntKind.wrap .u64 (c2+(bits .xor .u64 c3 (IntKind.wrap .u64 (x0.c+x0.d))))) λe4=>
  .cal j6.c ((bits .xor .u64 c3 (IntKind.wrap .u64 (x0.c+x0.d))),21,()) λc5=>
  .val (IntKind.wrap .u64 ((IntKind.wrap .u64 (x0.c+x0.d))+(bits .xor .u64 c1 (IntKind.wrap .u64 (x0.a+x0.b))))) λe6=>
  .cal j6.c ((bits .xor .u64 c1 (IntKind.wrap .u64 (x0.a+x0.b))),17,()) λc7=>
  .cal j6.c (e6,32,()) λc8=>
  .ret (⟨e4,(bits .xor .u64 c7 e6),c8,(bits .xor .u64 c5 e4)⟩:Sipr)
noncomputable def BX:=aU st Tryz.func402 [SF] (ks:=[.st .sipr]) iq (λv=>[(true,DR v)])
noncomputable def jz:FT (Sipr×Unit) (Sipr) (λ_=>True) (λ_ _=>True):= .mk λ(x0,_)=>
  .cal dd.c (x0.b,13,()) λc1=>
  .cal dd.c ((IntKind.wrap .u64 (x0.a+x0.b)),32,()) λc2=>
  .cal dd.c (x0.d,16,()) λc3=>
  .val (IntKind.wrap .u64 (c2+(bits .xor .u64 c3 (IntKind.wrap .u64 (x0.c+x0.d))))) λe4=>
  .cal dd.c ((bits .xor .u64 c3 (IntKind.wrap .u64 (x0.c+x0.d))),21,()) λc5=>
  .val (IntKind.wrap .u64 ((IntKind.wrap .u64 (x0.c+x0.d))+(bits .xor .u64 c1 (IntKind.wrap .u64 (x0.a+x0.b))))) λe6=>
  .cal dd.c ((bits .xor .u64 c1 (IntKind.wrap .u64 (x0.a+x0.b))),17,()) λc7=>
  .cal dd.c (e6,32,()) λc8=>
  .ret (⟨e4,(bits .xor .u64 c7 e6),c8,(bits .xor .u64 c5 e4)⟩:Sipr)
noncomputable def C0:=aU ao Tryz.func403 [BZ] (ks:=[.st .sipr]) jz (λv=>[(true,DR v)])
noncomputable def gm:FX (Mac×Int×Unit) (Int) (λ_=>True) (cG [.st .mac,.sc (.int .i64)]):=⟨λ(x0,x1,_)=>
  .cal df.c (x0.rows,x1,()) λc1=>
  .ite (decide (c1<0)) (.ret (-1))<|
  .ret c1,
 λ(x0,x1,_) hp hf=>by
  simp only[cG,Pk.fact,jT,gy,Fl.fact,Ty.fl,Ty.toH]at hf
  refine Tr.C trivial λ_ _ _=>Tr.F (by kernel_rfl) trivial⟩
theorem ace (x:Mac)(hl:x.rows.length<=140737488355328)(he:EV .macRow x.rows)(h:0<=gm.f (x,1048576,())):cN x/\x.rows.length<=1048576:=by
 have e:gm.f (x,1048576,())=bif decide (df.f (x.rows,1048576,())<0)then-1 else df.f (x.rows,1048576,()):=by simp only[FX.f,PX,gm]
 rw[e]at h
 have:0<=df.f (x.rows,1048576,()):=by
  by_cases c:df.f (x.rows,1048576,())<0
  ·rw[decide_eq_true c,cond_true]at h;omega
  ·omega
 have h2:=Oz x.rows 1048576 (by omega) (by omega) hl he this
 exact⟨by unfold cN;exact h2.1,h2.2⟩
theorem Vp (x:Mac)(k:Int)(h0:0<=k)(h1:k<=1048576)(hl:x.rows.length<=140737488355328)(he:EV .macRow x.rows)(h:0<=gm.f (x,k,())):gm.f (x,k,())<=k/\cN x:=by
 have e:gm.f (x,k,())=(bif decide (df.f (x.rows,k,())<0)then-1 else df.f (x.rows,k,())):=by first|(simp only[FX.f,PX,gm];done)|(simp only[FX.f,PX,gm];rfl)
 rw[e]at h|-
 obtain⟨p0,e0⟩:=kA h
 rw[e0]at h|-
 have b0:=Ry _ _ h0 (by omega) hl he p0
 refine⟨by omega, ?_⟩
 unfold cN
 exact⟨by omega,b0.2.2⟩
noncomputable def VV:=sC st Tryz.func11 [Ll] (ks:=[.st .mac,.sc (.int .i64)]) gm rI
noncomputable def CG:FT (Mac×Unit) (Mac) (λx=>cN x.1) (λx v=>cN v):= .mk λ(x0,_)=>
  .cal sm.c (x0.rows,()) λc1=>
  .ret ({x0 with rows:=c1}:Mac)
noncomputable def W6:=aU ao Tryz.func14 [Lm] (ks:=[.st .mac]) CG (λv=>[(true,Qv (.o true) v)])
noncomputable def BD:FT (Mac×Mac×Unit) (Bool) (λx=>cN x.1/\cN x.2.1) (λ_ _=>True):= .mk λ(x0,x1,_)=>
  .ite (!(x0.use==x1.use)) (.ret false)<|
  .ite (x0.k != x1.k) (.ret false)<|
  .ite (x0.l != x1.l) (.ret false)<|
  .cal rF.c (x0.rows,x1.rows,()) λc1=>
  .ite (!c1) (.ret false)<|
  .ret true
noncomputable def Wi:=aU st Tryz.func17 [KM] (ks:=[.st .mac,.st .mac]) BD rB
noncomputable def yh:FT (Mac×Int×Unit) (Int×List MacRow) (λx=>cN x.1/\x.2.1<=9223372036854775807) (λx v=>sL aE v.2/\v.1<=9223372036854775807):= .mk λ(x0,x1,_)=>
  .cal oA.c (x0.rows,x1,()) λc1=>
  .ret (c1.1,c1.2)
noncomputable def Ss:=oV st ⟨19,Tryz.f19,[],1⟩ [FD] [] [.wr true [.c .bool,.c (.int .u64),.c (.int .u64),.own 0],.sc (.int .i64)] [.arr .macRow] (λx y=>((⟨x.1.1,x.1.2.1,x.1.2.2.1,y.1⟩:Mac),x.2.1,())) yh (λv=>[(false,[.c (.int .i64 v.1)])]) (λx y v=>(v.2,())) Tryz.func19 (by kernel_rfl) trivial
noncomputable def fy:FX (Keys×Int×Unit) (Int) (λ_=>True) (cG [.st .keys,.sc (.int .i64)]):=⟨λ(x0,x1,_)=>
  .cal gm.c (x0.now,x1,()) λc1=>
  .ite (decide (c1<0)) (.ret (-1))<|
  .cal gm.c (x0.before,c1,()) λc2=>
  .ite (decide (c2<0)) (.ret (-1))<|
  .ret c2,
 λ(x0,x1,_) hp hf=>by
  simp only[cG,Pk.fact,jT,gy,Fl.fact,Ty.fl,Ty.toH]at hf
  refine Tr.C trivial λ_ _ _=>Tr.I (λ_=>Tr.R trivial) λ_=>Tr.C trivial λ_ _ _=>Tr.F (by kernel_rfl) trivial⟩
theorem Pj (x:Keys)(k:Int)(h0:0<=k)(h1:k<=1048576)(n1:x.now.rows.length<=140737488355328)(n2:EV .macRow x.now.rows)(m1:x.before.rows.length<=140737488355328)(m2:EV .macRow x.before.rows)(h:0<=fy.f (x,k,())):fy.f (x,k,())<=k/\dM x:=by
 have e:fy.f (x,k,())=(bif decide (gm.f (x.now,k,())<0)then-1 else(bif decide (gm.f (x.before,gm.f (x.now,k,()),())<0)then-1 else gm.f (x.before,gm.f (x.now,k,()),()))):=by first|(simp only[FX.f,PX,fy];done)|(simp only[FX.f,PX,fy];rfl)
 rw[e]at h|-
 obtain⟨p0,e0⟩:=kA h
 rw[e0]at h|-
 obtain⟨p1,e1⟩:=kA h
 rw[e1]at h|-
 have b0:=Vp _ _ h0 (by omega) n1 n2 p0
 have b1:=Vp _ _ p0 (by omega) m1 m2 p1
 refine⟨by omega, ?_⟩
 have q0:=b0.2
 have q1:=b1.2
 unfold cN at q0 q1
 unfold dM
 exact⟨q0.1,q0.2,q1.1,q1.2⟩
noncomputable def Tb:=sC st Tryz.func62 [VV] (ks:=[.st .keys,.sc (.int .i64)]) fy rI
noncomputable def eE:FT (Door×Unit) (Door) (λx=>ay x.1) (λx v=>ay v/\v.table.conns.length=x.1.table.conns.length/\v.table.waiting.length=x.1.table.waiting.length/\v.halves=x.1.halves):= .mk λ(x0,_)=>
  .cal yu.c (x0.keys,()) λc1=>
  .grd (Nat.ble ((2*(0+x0.halves.length)+1024)*96) aM)<|
  .cal n9.c (x0.table,()) λc2=>
  .ret (⟨x0.port,x0.clock,c1,x0.limits,([]++x0.halves),c2,x0.chal⟩:Door)
noncomputable def jS:=aU st Tryz.func66 [Rk,wH] (ks:=[.st .door]) eE (λv=>[(true,pn (.o true) (.o true) (.o true) (.o true) (.o true) v)])
noncomputable def Cz:FT (Keys×Unit) (Keys) (λx=>dM x.1) (λx v=>dM v):= .mk λ(x0,_)=>
  .cal CG.c (x0.now,()) λc1=>
  .cal CG.c (x0.before,()) λc2=>
  .ret (⟨x0.epoch,c1,c2,x0.two⟩:Keys)
noncomputable def TG:=aU ao Tryz.func68 [W6] (ks:=[.st .keys]) Cz (λv=>[(true,T9 (.o true) (.o true) v)])
noncomputable def Bt:FT (Keys×Keys×Unit) (Bool) (λx=>dM x.1/\dM x.2.1) (λ_ _=>True):= .mk λ(x0,x1,_)=>
  .ite (x0.epoch != x1.epoch) (.ret false)<|
  .cal BD.c (x0.now,x1.now,()) λc1=>
  .ite (!c1) (.ret false)<|
  .cal BD.c (x0.before,x1.before,()) λc2=>
  .ite (!c2) (.ret false)<|
  .ite (!(x0.two==x1.two)) (.ret false)<|
  .ret true
noncomputable def Tg:=aU st Tryz.func75 [Wi] (ks:=[.st .keys,.st .keys]) Bt rB
noncomputable def uf:FT (Keys×Int×Unit) (Int×List MacRow×List MacRow) (λx=>dM x.1/\x.2.1<=9223372036854775807) (λx v=>sL aE v.2.1/\sL aE v.2.2/\v.1<=9223372036854775807):= .mk λ(x0,x1,_)=>
  .cal yh.c (x0.now,x1,()) λc1=>
  .cal yh.c (x0.before,c1.1,()) λc2=>
  .ret (c2.1,c1.2,c2.2)
noncomputable def Ot:=oV st ⟨80,Tryz.f80,[],2⟩ [Ss] [] [.wr true [.c (.int .i64),.c .bool,.c (.int .u64),.c (.int .u64),.own 0,.c .bool,.c (.int .u64),.c (.int .u64),.own 1,.c .bool],.sc (.int .i64)] [.arr .macRow,.arr .macRow] (λx y=>((⟨x.1.1,⟨x.1.2.1,x.1.2.2.1,x.1.2.2.2.1,y.1⟩,⟨x.1.2.2.2.2.1,x.1.2.2.2.2.2.1,x.1.2.2.2.2.2.2.1,y.2.1⟩,x.1.2.2.2.2.2.2.2.1⟩:Keys),x.2.1,())) uf (λv=>[(false,[.c (.int .i64 v.1)])]) (λx y v=>(v.2.1,v.2.2,())) Tryz.func80 (by kernel_rfl) trivial
noncomputable def sA:FT (Tabl×Int×Unit) (Int×List Conn×List Tupl) (λx=>ce x.1/\x.2.1<=9223372036854775807) (λx v=>sL ah v.2.1/\sS v.2.2/\v.1<=9223372036854775807):= .mk λ(x0,x1,_)=>
  .cal rL.c (x0.conns,x1,()) λc1=>
  .cal pZ.c (x0.waiting,c1.1,()) λc2=>
  .ret (c2.1,c1.2,c2.2)
noncomputable def KL:=oV st ⟨82,Tryz.f82,[],2⟩ [Ku,IE] [] [.wr true [.down 0,.own 1],.sc (.int .i64)] [.dar .conn,.arr .tupl] (λx y=>((⟨y.1,y.2.1⟩:Tabl),x.2.1,())) sA (λv=>[(false,[.c (.int .i64 v.1)])]) (λx y v=>(v.2.1,v.2.2,())) Tryz.func82 (by kernel_rfl) trivial
noncomputable def ur:FT (Keys×Int×Unit) (Int) (λx=>dM x.1/\x.2.1<=9223372036854775807) (λx v=>v<=9223372036854775807):= .mk λ(x0,x1,_)=>
  .cal yL.c (x0.now,x1,()) λc1=>
  .ite (decide (c1<0)) (.ret (-1))<|
  .cal yL.c (x0.before,c1,()) λc2=>
  .ite (decide (c2<0)) (.ret (-1))<|
  .ret c2
noncomputable def Np:=aU st Tryz.func84 [Si] (ks:=[.st .keys,.sc (.int .i64)]) ur rI
noncomputable def sk:FT (Tabl×Int×Unit) (Int) (λx=>ce x.1/\x.2.1<=9223372036854775807) (λx v=>v<=9223372036854775807):= .mk λ(x0,x1,_)=>
  .cal rM.c (x0.conns,x1,()) λc1=>
  .ite (decide (c1<0)) (.ret (-1))<|
  .cal pJ.c (x0.waiting,c1,()) λc2=>
  .ite (decide (c2<0)) (.ret (-1))<|
  .ret c2
noncomputable def K7:=aU st Tryz.func86 [Kn,Jy] (ks:=[.st .tabl,.sc (.int .i64)]) sk rI
noncomputable def C6:FT (Link×Unit) (Link) (λx=>eA x.1) (λx v=>eA v):= .mk λ(x0,_)=>
  .cal uN.c (x0.cache,()) λc1=>
  .ret ({x0 with cache:=c1}:Link)
noncomputable def S3:=aU ao Tryz.func92 [NS] (ks:=[.st .link]) C6 (λv=>[(true,DQ (.o true) v)])
noncomputable def BI:FT (Link×Link×Unit) (Bool) (λx=>eA x.1/\eA x.2.1) (λ_ _=>True):= .mk λ(x0,x1,_)=>
  .ite (x0.mac != x1.mac) (.ret false)<|
  .ite (x0.ip != x1.ip) (.ret false)<|
  .cal uQ.c (x0.cache,x1.cache,()) λc1=>
  .ite (!c1) (.ret false)<|
  .ret true
noncomputable def TU:=aU st Tryz.func98 [M3] (ks:=[.st .link,.st .link]) BI rB
noncomputable def aG:FT (Tupl×Unit) (Bool) (λ_=>True) (λ_ _=>True):= .mk λ(x0,_)=>
  .cal ae.c (x0.ip,32,()) λc1=>
  .ite c1 (.cal ae.c (x0.port,16,()) λc2=>
   .ite c2 (.cal ae.c (x0.my,16,()) λc3=>
    .ret c3)<|
   .ret false)<|
  .ret false
noncomputable def oU:=aU ao Tryz.func109 [bI] (ks:=[.st .tupl]) aG rB
noncomputable def ai:FT (Segm×Unit) (Bool) (λ_=>True) (λx v=>(v=true->x.1.body.length<=1420)):= .mk λ(x0,_)=>
  .cal ae.c (x0.from_,16,()) λc1=>
  .ite c1 (.cal ae.c (x0.to,16,()) λc2=>
   .ite c2 (.cal ae.c (x0.window,16,()) λc3=>
    .ite c3 (.cal ae.c (x0.seq,32,()) λc4=>
     .ite c4 (.cal ae.c (x0.ack,32,()) λc5=>
      .ite c5 (.cal ae.c (x0.flags,6,()) λc6=>
       .ite c6 (.cal aF.c (x0.opts,()) λc7=>
        .ite c7 (.ret (decide ((x0.body.length:Int)<=1420)))<|
        .ret false)<|
       .ret false)<|
      .ret false)<|
     .ret false)<|
    .ret false)<|
   .ret false)<|
  .ret false
noncomputable def iV:=aU ao Tryz.func110 [bI,kG] (ks:=[.st .segm]) ai rB
noncomputable def ll:FT (Door×Segm×Unit) (Door×List Segm×Int) (λx=>ay x.1/\aw x.2.1) (λx v=>ay v.1/\sL aw v.2.1):= .mk λ(x0,x1,_)=>
  .cal uj.c (x1,()) λc1=>
  .ite (!c1.2) (.cal eE.c (x0,()) λc2=>
   .ret (c2,[],0))<|
  .cal eE.c (x0,()) λc3=>
  .ret (c3,[c1.1],0)
noncomputable def BN:=aU st Tryz.func118 [OQ,jS] (ks:=[.st .door,.st .segm]) ll (λv=>[(true,pn (.o true) (.o true) (.o true) (.o true) (.o true) v.1),(false,[sc (.o true) .segm v.2.1]),(false,[.c (.int .i64 v.2.2)])])
noncomputable def PP:=[kN,iZ,bN,qj,ib,Fy]
def F9:An:=⟨⟨[],[],false,0⟩,⟨[1,2,4,5,8,10],[],false,0⟩,⟨[],[]⟩,[(.normal,⟨[zi 1,zi 2,zi 4,zp 5 0,zp 8 1,zp 10 2],[zx .tupl,zx .opti,.box [.st .conn [.nil .piec]]]⟩)]⟩
def Fp:An:=⟨⟨[],[],false,0⟩,⟨[1,2,4,5,8,10],[],false,0⟩,⟨[],[]⟩,[(.normal,⟨[zi 1,zi 2,zi 4,zp 5 0,zp 8 1,zp 10 2],[zx .tupl,zx .opti,.box [.st .conn [.nil .piec]]]⟩)]⟩
noncomputable def Pm:Fx:=⟨120,Tryz.f120,[(1000014,F9),(1000018,Fp)],0⟩
noncomputable def tR:FT (Tupl×Int×Int×Opti×Int×Unit) (Conn) (λ_=>True) (λx v=>ah v):= .mk λ(x0,x1,x2,x3,x4,_)=>
  .cal d9.c (x3,()) λc1=>
  .bnd (β:=Int×Int×Int×Tupl×Opti×Conn×Unit) (.as (λw=>ah w.2.2.2.2.2.1) (.ite (!c1) (.val (ck.f (())) λc2=>
    .ret (x1,x2,x4,x0,c2,(⟨⟨0,0,0⟩,0,⟨0,[],0,false,false,false⟩,⟨0,[],[],0,false⟩,0,0,⟨0,0,false,false,0,0⟩,0,0⟩:Conn),()))<|
   .ret (x1,x2,x4,x0,x3,(⟨⟨0,0,0⟩,0,⟨0,[],0,false,false,false⟩,⟨0,[],[],0,false⟩,0,0,⟨0,0,false,false,0,0⟩,0,0⟩:Conn),()))) λ(u3a0,u3a1,u3a2,u3a3,u3a4,u3a5,_)=>
  .cal aA.c (u3a2,16,()) λc4=>
  .bnd (β:=Int×Int×Int×Tupl×Opti×Conn×Unit) (.as (λw=>ah w.2.2.2.2.2.1) (.ite (!c4) (.ret (u3a0,u3a1,0,u3a3,u3a4,({u3a5 with r.held:=[]}:Conn),()))<|
   .ret (u3a0,u3a1,u3a2,u3a3,u3a4,({u3a5 with r.held:=[]}:Conn),()))) λ(u5a0,u5a1,u5a2,u5a3,u5a4,_,_)=>
  .val (fM.f (0,u5a4.scale,())) λc6=>
  .grd (decide (0<=(IntKind.wrap .u64 c6)))<|
  .val (cX.f (u5a0,1,())) λc7=>
  .val (cX.f (u5a1,1,())) λc8=>
  .cal om.c (c8,()) λc9=>
  .ret (⟨u5a3,1,⟨c7,[],0,false,false,false⟩,c9,(IntKind.wrap .i64 (u5a2*2 ^ (min (IntKind.wrap .u64 c6).toNat 64))),(IntKind.wrap .i64 (u5a2*2 ^ (min (IntKind.wrap .u64 c6).toNat 64))),u5a4,0,0⟩:Conn)
noncomputable def Pg:=cI st Pm PP [] (ks:=[.st .tupl,.sc (.int .i64),.sc (.int .i64),.st .opti,.sc (.int .i64)]) tR (λv=>[(true,nJ (.o true) v)]) Tryz.func120 trivial
noncomputable def Ao:=[iZ,LJ,Q8]
noncomputable def AG:Fx:=⟨122,Tryz.f122,[(3000004,rA 0 24)],0⟩
noncomputable def j4:FT (Int×Opti×Unit) (Opti) (λ_=>True) (λ_ _=>True):= .mk λ(x0,x1,_)=>
  .val (ck.f (())) λc1=>
  .cal CM.c (x0,()) λc2=>
  .cal yC.c (x1.echo,()) λc3=>
  .bnd (β:=Bool×Unit) (.ite x1.stamp (.ret (c3.2.2,()))<|
   .ret (false,())) λ(u4a0,_)=>
  .ite u4a0 (.ret (⟨c2,c3.1,c3.2.1,true,x1.val,c1.echo⟩:Opti))<|
  .ret ({c1 with mss:=c2}:Opti)
noncomputable def AY:=cI st AG Ao [] (ks:=[.sc (.int .i64),.st .opti]) j4 (λv=>[(true,pg v)]) Tryz.func122 trivial
noncomputable def fL:FT (Segm×Unit) (List Segm) (λx=>aw x.1) (λx v=>sL aw v):= .mk λ(x0,_)=>
  .cal jE.c (x0,()) λc1=>
  .ite c1.2 (.ret [c1.1])<|
  .ret []
noncomputable def JT:=aU ao Tryz.func123 [MP] (ks:=[.st .segm]) fL (λv=>[(false,[sc (.o true) .segm v])])
noncomputable def Sw:=[kG,ja,bI,He,ik,Fq]
def FK:An:=⟨⟨[],[],false,0⟩,⟨[1,2,4,5,8,10],[],false,0⟩,⟨[],[]⟩,[(.normal,⟨[zi 1,zi 2,zi 4,zp 5 0,zp 8 1,zp 10 2],[zx .tupl,zx .opti,.box [.st .conn [.nil .piec]]]⟩)]⟩
def F3:An:=⟨⟨[],[],false,0⟩,⟨[1,2,4,5,8,10],[],false,0⟩,⟨[],[]⟩,[(.normal,⟨[zi 1,zi 2,zi 4,zp 5 0,zp 8 1,zp 10 2],[zx .tupl,zx .opti,.box [.st .conn [.nil .piec]]]⟩)]⟩
noncomputable def RE:Fx:=⟨124,Tryz.f124,[(1000014,FK),(1000018,F3)],0⟩
noncomputable def tK:FT (Tupl×Int×Int×Opti×Int×Unit) (Conn) (λ_=>True) (λx v=>ah v):= .mk λ(x0,x1,x2,x3,x4,_)=>
  .cal aF.c (x3,()) λc1=>
  .bnd (β:=Int×Int×Int×Tupl×Opti×Conn×Unit) (.as (λw=>ah w.2.2.2.2.2.1) (.ite (!c1) (.val (bH.f (())) λc2=>
    .ret (x1,x2,x4,x0,c2,(⟨⟨0,0,0⟩,0,⟨0,[],0,false,false,false⟩,⟨0,[],[],0,false⟩,0,0,⟨0,0,false,false,0,0⟩,0,0⟩:Conn),()))<|
   .ret (x1,x2,x4,x0,x3,(⟨⟨0,0,0⟩,0,⟨0,[],0,false,false,false⟩,⟨0,[],[],0,false⟩,0,0,⟨0,0,false,false,0,0⟩,0,0⟩:Conn),()))) λ(u3a0,u3a1,u3a2,u3a3,u3a4,u3a5,_)=>
  .cal ae.c (u3a2,16,()) λc4=>
  .bnd (β:=Int×Int×Int×Tupl×Opti×Conn×Unit) (.as (λw=>ah w.2.2.2.2.2.1) (.ite (!c4) (.ret (u3a0,u3a1,0,u3a3,u3a4,({u3a5 with r.held:=[]}:Conn),()))<|
   .ret (u3a0,u3a1,u3a2,u3a3,u3a4,({u3a5 with r.held:=[]}:Conn),()))) λ(u5a0,u5a1,u5a2,u5a3,u5a4,_,_)=>
  .cal wC.c (u5a2,u5a4,()) λc6=>
  .val (cM.f (u5a0,1,())) λc7=>
  .val (cM.f (u5a1,1,())) λc8=>
  .cal i5.c (c8,()) λc9=>
  .ret (⟨u5a3,1,⟨c7,[],0,false,false,false⟩,c9,c6,c6,u5a4,0,0⟩:Conn)
noncomputable def Pe:=cI ao RE Sw [] (ks:=[.st .tupl,.sc (.int .i64),.sc (.int .i64),.st .opti,.sc (.int .i64)]) tK (λv=>[(true,nJ (.o true) v)]) Tryz.func124 trivial
noncomputable def A5:=[ja,Lt,Rr]
noncomputable def Av:Fx:=⟨126,Tryz.f126,[(3000004,rA 0 24)],0⟩
noncomputable def cK:FT (Int×Opti×Unit) (Opti) (λ_=>True) (λ_ _=>True):= .mk λ(x0,x1,_)=>
  .val (bH.f (())) λc1=>
  .cal fE.c (x0,()) λc2=>
  .cal lN.c (x1.echo,()) λc3=>
  .bnd (β:=Bool×Unit) (.ite x1.stamp (.ret (c3.2.2,()))<|
   .ret (false,())) λ(u4a0,_)=>
  .ite u4a0 (.ret (⟨c2,c3.1,c3.2.1,true,x1.val,c1.echo⟩:Opti))<|
  .ret ({c1 with mss:=c2}:Opti)
noncomputable def AQ:=cI ao Av A5 [] (ks:=[.sc (.int .i64),.st .opti]) cK (λv=>[(true,pg v)]) Tryz.func126 trivial
noncomputable def gT:FT (Segm×Unit) (Bool) (λ_=>True) (λx v=>(v=true->x.1.body.length<=1420)):= .mk λ(x0,_)=>
  .cal aA.c (x0.from_,16,()) λc1=>
  .ite c1 (.cal aA.c (x0.to,16,()) λc2=>
   .ite c2 (.cal aA.c (x0.window,16,()) λc3=>
    .ite c3 (.cal aA.c (x0.seq,32,()) λc4=>
     .ite c4 (.cal aA.c (x0.ack,32,()) λc5=>
      .ite c5 (.cal aA.c (x0.flags,6,()) λc6=>
       .ite c6 (.cal d9.c (x0.opts,()) λc7=>
        .ite c7 (.ret (decide ((x0.body.length:Int)<=1420)))<|
        .ret false)<|
       .ret false)<|
      .ret false)<|
     .ret false)<|
    .ret false)<|
   .ret false)<|
  .ret false
noncomputable def kF:=aU st Tryz.func133 [bN,kN] (ks:=[.st .segm]) gT rB
noncomputable def yB:FT (Stac×Unit) (Stac) (λx=>cL x.1) (λx v=>cL v):= .mk λ(x0,_)=>
  .cal ql.c (x0.link,()) λc1=>
  .cal eE.c (x0.door,()) λc2=>
  .ret (⟨c1,c2⟩:Stac)
noncomputable def QR:=aU st Tryz.func139 [Et,jS] (ks:=[.st .stac]) yB (λv=>[(true,H6 (.o true) (.o true) (.o true) (.o true) (.o true) (.o true) v)])
noncomputable def dI:FT (Conn×Unit) (Conn) (λx=>ah x.1) (λx v=>ah v/\v=x.1):=⟨λ(x0,_)=>
  .cal iQ.c (x0.r,()) λc1=>
  .ret ({x0 with r.next:=c1.next,r.data:=c1.data,r.held:=c1.held,r.fin:=c1.fin,r.done:=c1.done}:Conn),
 λ(x0,_) hp=>by
  refine Tr.C ?_ λc1 hc1 qc1=>Tr.R ?_
  all_goals ((first|grind|(refine⟨by grind, ?_⟩;first|(simp only[List.nil_append];done)|(subst_vars;rfl)|simp_all)))⟩
noncomputable def fX:=aU ao Tryz.func157 [sv] (ks:=[.st .conn]) dI (λv=>[(true,nJ (.o true) v)])
noncomputable def p9:FT (Recv×Recv×Unit) (Bool) (λx=>ax x.1/\ax x.2.1) (λ_ _=>True):= .mk λ(x0,x1,_)=>
  .ite (x0.next != x1.next) (.ret false)<|
  .ite (!(x0.data==x1.data)) (.ret false)<|
  .cal u3.c (x0.held,x1.held,()) λc1=>
  .ite (!c1) (.ret false)<|
  .ite (x0.fin != x1.fin) (.ret false)<|
  .ite (!(x0.done==x1.done)) (.ret false)<|
  .ret true
noncomputable def Ih:=aU st Tryz.func159 [NK] (ks:=[.st .recv,.st .recv]) p9 rB
noncomputable def SK:=[bN,VM,RG]
noncomputable def UR:Fx:=⟨168,Tryz.f168,[(3000001,rA 0 18)],0⟩
noncomputable def wm:FT (Keys×Unit) (Bool) (λx=>dM x.1) (λx v=>(v=true->0<=x.1.epoch/\x.1.epoch<=4294967295)):= .mk λ(x0,_)=>
  .bnd (β:=Bool×Unit) (.as (λw=>(w.1=false->x0.now.rows.length<=64/\x0.before.rows.length<=64)) (.cal aA.c (x0.epoch,32,()) λc1=>
   .ite (!c1) (.ret (true,()))<|
   .cal CQ.c (x0.now,()) λc2=>
   .ite (!c2) (.ret (true,()))<|
   .cal CQ.c (x0.before,()) λc3=>
   .ret ((!c3),()))) λ(u4a0,_)=>
  .ite u4a0 (.ret false)<|
  .ite x0.two (.ret (decide (1<=x0.epoch)))<|
  .cal y8.c (x0.before,(⟨false,0,0,[]⟩:Mac),()) λc5=>
  .ret c5
noncomputable def JA:=cI st UR SK [] (ks:=[.st .keys]) wm rB Tryz.func168 trivial
noncomputable def rN:FT (Keys×Unit) (Keys) (λx=>dM x.1) (λx v=>dM v/\v=x.1):=⟨λ(x0,_)=>
  .cal lm.c (x0.now,()) λc1=>
  .cal lm.c (x0.before,()) λc2=>
  .ret (⟨x0.epoch,c1,c2,x0.two⟩:Keys),
 λ(x0,_) hp=>by
  refine Tr.C ?_ λc1 hc1 qc1=>Tr.C ?_ λc2 hc2 qc2=>Tr.R ?_
  all_goals ((first|grind|(refine⟨by grind, ?_⟩;first|(simp only[List.nil_append];done)|(subst_vars;rfl)|simp_all)))⟩
noncomputable def Kv:=aU ao Tryz.func175 [C4] (ks:=[.st .keys]) rN (λv=>[(true,T9 (.o true) (.o true) v)])
def rK:Sh:=⟨[zp 2 0,zp 3 1,zl 11 .conn,zi 12,zi 13],[.box [.st .tabl [.nil .conn,.nil .tupl]],.box [.st .tabl [.down 2,.own 3]],.ofd,zf]⟩
noncomputable def rH (v0:List Conn)(v2:Int)(a:Tabl×Tabl):Tr (Stp (Tabl×Tabl) (Empty)):=
 .grd (ba v0 v2)<|
 .cal dI.c ((v0.getD v2.toNat (Ty.zero .conn)),()) λc3=>
 .grd (De a.2.conns 1 208)<|
 .ret (.next ((⟨[],[]⟩:Tabl),(⟨(a.2.conns++[c3]),a.2.waiting⟩:Tabl)))
noncomputable def fS:rK.V->wa rK (Tabl×Tabl):=λ(v0,v1,v2,v3,v4,_)=>⟨v2,(v3,v4),λv2 a=>(v0,v1,v2,a.1,a.2,()),λv2 _=>(decide (v2<v1)),rH v0,up,1,(Int.toNat (v1-v2)),Empty.elim,Prod.mk,oN (.exit 0) ⟨[zp 2 0,zp 3 1],[.box [.st .tabl [.nil .conn,.nil .tupl]],.box [.st .tabl [.down 2,.own 3]],.ofd,zf]⟩ (λx=>((⟨[],[]⟩:Tabl),x.2.2,()))⟩
theorem BW {v0:List Conn}{v1 v2:Int}{v3 v4:Tabl}(h0:0<=v2)(h1:v1<=4611686018427387904)(h2:sL ah v0)(h3:v1<=4294967296)(h4:sS v4.waiting)(h5:v1<=(v0.length:Int))(h6:ce v3/\(v4.conns.length:Int)=v2/\dP ah v4.conns/\v4.waiting.length=v4.waiting.length):(fS (v0,v1,v2,v3,v4,())).U v1 (λv2 a=>ce a.1/\(a.2.conns.length:Int)=v2/\dP ah a.2.conns/\a.2.waiting.length=v4.waiting.length) (λ_=>True):=
 kx (a:=(v3,v4)) h0 h1 h6
noncomputable def ig:FT (Tabl×Unit) (Tabl) (λx=>ce x.1) (λx v=>ce v/\v.conns.length=x.1.conns.length/\v.waiting.length=x.1.waiting.length):=⟨λ(x0,_)=>
  .cal ov.c (x0.waiting,()) λc1=>
  .lp (fS (x0.conns,(x0.conns.length:Int),0,(⟨[],[]⟩:Tabl),(⟨[],c1⟩:Tabl),())).lp λ(_,_,a4_1)=>
  .ret a4_1,
 λ(x0,_) hp=>by
  refine Tr.C ?_ λ_ _ _=>Tr.L (BW ?_ ?_ ?_ ?_ ?_ ?_ ?_) (λ(a4_0,a4_1) _=>Tr.R ?_) (λp=>Empty.elim p)
  all_goals ((try simp only[fS,LC.lp,LC.ct,Ct.lp]at*)<;>grind)⟩
noncomputable def qT:=dr ao Tryz.func177 [(0,la ⟨[2,3,11,12,13],[.dbox 3 0 .conn],false,0⟩ ⟨[2,3],[],false,0⟩)] [FC,fX] 0 fS (ks:=[.st .tabl]) ig (λv=>[(true,AE .d (.o true) v)])
noncomputable def oO:FT (ac×Unit) (Fram×Bool) (λx=>sS x.1) (λx v=>CP v.1):= .mk λ(x0,_)=>
  .ite (decide ((x0.length:Int)<14)) (.ret ((⟨0,0,0,[]⟩:Fram),false))<|
  .cal dR.c (x0,0,6,()) λc1=>
  .cal dR.c (x0,6,6,()) λc2=>
  .cal dR.c (x0,12,2,()) λc3=>
  .grd ((decide (14<=(x0.length:Int)))&&(decide ((x0.length:Int)<=(x0.length:Int))))<|
  .cal fJ.c ((⟨c1,c2,c3,((x0.take ((x0.length:Int).toNat)).drop 14)⟩:Fram),()) λc4=>
  .ite (!c4) (.ret ((⟨0,0,0,[]⟩:Fram),false))<|
  .ret ((⟨c1,c2,c3,((x0.take ((x0.length:Int).toNat)).drop 14)⟩:Fram),true)
noncomputable def KE:=aU ao Tryz.func195 [xT,E1] (ks:=[.sc .str]) oO (λv=>[(true,Yh v.1),(false,[.c (.bool v.2)])])
def vh:Sh:=⟨[zl 0 .half,zi 3],[]⟩
noncomputable def eO (v0:List Half)(v1:Int)(a:Unit):Tr (Stp (Unit) ((Unit))):=
 .grd (ba v0 v1)<|
 .cal nS.c ((v0.getD v1.toNat (Ty.zero .half)).tuple,()) λc1=>
 .ite (!c1) (.ret (.out ()))<|
 .cal aA.c ((v0.getD v1.toNat (Ty.zero .half)).iss,32,()) λc2=>
 .ite (!c2) (.ret (.out ()))<|
 .cal aA.c ((v0.getD v1.toNat (Ty.zero .half)).irs,32,()) λc3=>
 .ite (!c3) (.ret (.out ()))<|
 .cal aA.c ((v0.getD v1.toNat (Ty.zero .half)).window,16,()) λc4=>
 .ite (!c4) (.ret (.out ()))<|
 .cal d9.c ((v0.getD v1.toNat (Ty.zero .half)).opts,()) λc5=>
 .ite (!c5) (.ret (.out ()))<|
 .val (cm.f ((v0.getD v1.toNat (Ty.zero .half)).age,0,6,())) λc6=>
 .ite (!c6) (.ret (.out ()))<|
 .grd ((decide (0<=v1))&&(decide (v1<=(v0.length:Int))))<|
 .cal iC.c (((v0.take v1.toNat).drop 0),(v0.getD v1.toNat (Ty.zero .half)).tuple,()) λc7=>
 .ite (decide (0<=c7)) (.ret (.out ()))<|
 .ret (.next ())
noncomputable def iT:vh.V->nL vh Unit (Unit):=λ(v0,v1,_)=>⟨v1,(),λv1 _=>(v0,v1,()),λv1 _=>(decide (v1<(v0.length:Int))),eO v0,up,1,(Int.toNat ((v0.length:Int)-v1)),.inl,eR,oB .ret ⟨[zl 0 .half,zb 2],[]⟩ (λ_=>(v0,false,())) (.exit 0) ⟨[zl 0 .half,zu 2],[]⟩ (λ_=>(v0,()))⟩
theorem FQ {v0:List Half}{v1:Int}(h0:0<=v1)(h1:(v0.length:Int)<=4611686018427387904)(h2:wS v0):(iT (v0,v1,())).U (v0.length:Int) (λ_ _=>True) (λ_=>True):=
 kx h0 h1 trivial
noncomputable def nR:FT (List Half×Unit) (Bool) (λx=>wS x.1) (λx v=>(v=true->x.1.length<=64)):= .mk (λ(x0,_)=>
  .lp (iT (x0,0,())).lp λw8=> .sum w8 (λ_=>
  .ret false)<|
  λ_=>
  .ret (decide ((x0.length:Int)<=64))) (np @FQ)
noncomputable def C9:=dr st Tryz.func202 [(0,lb [0,3] [0,2])] [sD,bN,kN,cu,mW] 0 iT (ks:=[.sc (.sl .half)]) nR rB
noncomputable def cJ:FT (Conn×Unit) (Segm) (λx=>ah x.1) (λx v=>aw v):= .mk λ(x0,_)=>
  .cal jN.c (x0.s,()) λc1=>
  .cal bX.c (x0.r,()) λc2=>
  .val (bH.f (())) λc3=>
  .ret (⟨x0.tuple.my,x0.tuple.port,c1,x0.r.next,16,c2,c3,[]⟩:Segm)
noncomputable def Mr:=aU ao Tryz.func238 [II,na,ja] (ks:=[.st .conn]) cJ (λv=>[(true,xG v)])
noncomputable def tz:FT (Link×Unit) (Bool) (λx=>eA x.1) (λ_ _=>True):= .mk λ(x0,_)=>
  .cal aA.c (x0.mac,48,()) λc1=>
  .ite c1 (.ite (x0.mac != 281474976710655) (.cal aA.c (x0.ip,32,()) λc2=>
    .ite c2 (.cal tU.c (x0.cache,()) λc3=>
     .ret c3)<|
    .ret false)<|
   .ret false)<|
  .ret false
noncomputable def A0:=aU st Tryz.func246 [bN,ET] (ks:=[.st .link]) tz rB
def wA:Sh:=⟨[zi 1,zi 2,zo 7 0,zi 9,zi 10],[za .entr]⟩
noncomputable def H0 (v4:List Entr)(v3:Int)(a:Int):Tr (Stp (Int) (Empty)):=
 .grd (ba v4 v3)<|
 .grd (ba v4 a)<|
 .ite (decide ((v4.getD a.toNat (Ty.zero .entr)).age<(v4.getD v3.toNat (Ty.zero .entr)).age)) (.ret (.next v3))<|
 .ret (.next a)
noncomputable def jD:wA.V->wa wA Int:=λ(v0,v1,v2,v3,v4,_)=>⟨v3,v2,λv3 a=>(v0,v1,a,v3,v4,()),λv3 _=>(decide (v3<(v4.length:Int))),H0 v4,up,1,(Int.toNat ((v4.length:Int)-v3)),Empty.elim,Prod.mk,oN (.exit 0) ⟨[zi 1,zi 2,zu 6,(7,false,[.sl .any .entr]),zi 9],[]⟩ (λx=>(v0,v1,v4,x.2,()))⟩
theorem GZ {v0 v1 v2 v3:Int}{v4:List Entr}(h0:0<=v3)(h1:(v4.length:Int)<=4611686018427387904)(h2:0<=v2/\v2<v4.length):(jD (v0,v1,v2,v3,v4,())).U (v4.length:Int) (λv3 a=>0<=a/\a<v4.length) (λ_=>True):=
 kx (a:=v2) h0 h1 h2
noncomputable def tH:FT (List Entr×Int×Int×Unit) (List Entr) (λx=>sS x.1) (λx v=>sS v/\v.length<=x.1.length+1):=⟨λ(x0,x1,x2,_)=>
  .grd (Nat.ble ((2*(0+x0.length)+1024)*24) aM)<|
  .bnd (β:=Bool×Unit) (.cal tU.c (x0,()) λc1=>
   .ite (!c1) (.ret (true,()))<|
   .cal aA.c (x1,32,()) λc2=>
   .ite (!c2) (.ret (true,()))<|
   .cal aA.c (x2,48,()) λc3=>
   .ret ((!c3),())) λ(u4a0,_)=>
  .ite u4a0 (.ret ([]++x0))<|
  .cal ya.c (x0,x1,()) λc5=>
  .ite (decide (0<=c5)) (.grd (ba ([]++x0) c5)<|
   .ret (([]++x0).set c5.toNat (⟨x1,x2,0⟩:Entr)))<|
  .ite ((([]++x0).length:Int)==4) (.lp (jD (x1,x2,0,1,([]++x0),())).lp λ(_,a6_0)=>
   .grd ((decide (0<=a6_0))&&(decide (a6_0<=(([]++x0).length:Int))))<|
   .grd (Nat.ble ((2*(0+((([]++x0).take a6_0.toNat).drop 0).length)+1024)*24) aM)<|
   .grd (O3 ([]++x0) (IntKind.wrap .i64 (a6_0+1)) (([]++x0).length:Int))<|
   .grd (Nat.ble ((2*(([]++((([]++x0).take a6_0.toNat).drop 0)).length+((([]++x0).take ((([]++x0).length:Int).toNat)).drop ((IntKind.wrap .i64 (a6_0+1)).toNat)).length)+1024)*24) aM)<|
   .val (([]++((([]++x0).take a6_0.toNat).drop 0))++((([]++x0).take ((([]++x0).length:Int).toNat)).drop ((IntKind.wrap .i64 (a6_0+1)).toNat))) λl7=>
   .grd (De l7 1 24)<|
   .ret (l7++[(⟨x1,x2,0⟩:Entr)]))<|
  .grd (De ([]++x0) 1 24)<|
  .ret (([]++x0)++[(⟨x1,x2,0⟩:Entr)]),
 λ(x0,x1,x2,_) hp=>by
  refine Tr.Gb ?_ λ_=>Tr.B (Q':=λw=>(w.1=false->x0.length<=4)) (Tr.C ?_ λ_ _ _=>Tr.I (λ_=>Tr.R ?_) λ_=>Tr.C trivial λ_ _ _=>Tr.I (λ_=>Tr.R ?_) λ_=>Tr.C trivial λ_ _ _=>Tr.R ?_) (λ(u4a0,_) _ _=>Tr.I (λ_=>Tr.R ?_) λ_=>Tr.C ?_ λ_ _ _=>Tr.I (λ_=>Tr.G2 ?_ λ_=>Tr.R ?_) λ_=>Tr.I (λ_=>Tr.L (GZ ?_ ?_ ?_) (λa6_0 _=>Tr.G2 ?_ λ_=>Tr.Gb ?_ λ_=>Tr.G3 ?_ λ_=>Tr.Gb ?_ λ_=>Tr.V λ_ _=>Tr.Gb ?_ λ_=>Tr.R ?_) (λp=>Empty.elim p)) λ_=>Tr.Gb ?_ λ_=>Tr.R ?_)
  all_goals ((try simp only[jD,LC.lp,LC.ct,Ct.lp,Tr.nice,kt]at*)<;>grind)⟩
noncomputable def E3:=dr st Tryz.func249 [(0,la ⟨[1,2,7,9,10],[],false,0⟩ ⟨[1,2,6,7,9],[.soft 7 0],false,0⟩),(3000002,rA 0 26)] [ET,bN,Ea] 0 jD (ks:=[.sc (.sl .entr),.sc (.int .i64),.sc (.int .i64)]) tH (λv=>[(false,[sc (.o true) .entr v])])
noncomputable def JB:=[jP]
noncomputable def Ho:Fx:=⟨250,Tryz.f250,[(3000004,rA 0 25)],0⟩
noncomputable def mP:FT (Int×Int×Int×Unit) (ac) (λ_=>True) (λx v=>sS v/\v.length<=20):=⟨λ(x0,x1,x2,_)=>
  .cal aN.c (x0,4,()) λc1=>
  .cal aN.c (x1,4,()) λc2=>
  .cal aN.c (x2,2,()) λc3=>
  .bnd (β:=Bool×Unit) (.ite (c1==[]) (.ret (true,()))<|
   .ite (c2==[]) (.ret (true,()))<|
   .ret ((c3==[]),())) λ(u4a0,_)=>
  .ite u4a0 (.ret [])<|
  .grd (Nat.ble (c1.length+c2.length) am)<|
  .grd (Nat.ble ((c1++c2).length+2) am)<|
  .grd (Nat.ble (((c1++c2)++[0,6]).length+c3.length) am)<|
  .ret (((c1++c2)++[0,6])++c3),
 λ(x0,x1,x2,_) hp=>by
  refine Tr.C trivial λc1 hc1 qc1=>Tr.C trivial λc2 hc2 qc2=>Tr.C trivial λc3 hc3 qc3=>Tr.B (Q':=λ_=>True) (Tr.F (by kernel_rfl) trivial) (λ(u4a0,_) hj4 qj4=>Tr.I (λb0=>Tr.R ?_) λb0=>Tr.Gb ?_ λg1=>Tr.Gb ?_ λg2=>Tr.Gb ?_ λg3=>Tr.R ?_)
  all_goals ((try simp only[Tr.nice,kt]at*)<;>(first|(simp only[List.length_append,List.length_cons,List.length_nil,am,sS]at*;omega)|grind))⟩
noncomputable def xp:=cI st Ho JB [] (ks:=[.sc (.int .i64),.sc (.int .i64),.sc (.int .i64)]) mP (λv=>[(false,[.c (.str v)])]) Tryz.func250 trivial
noncomputable def qv:FT (ac×Unit) (Bool) (λx=>sS x.1) (λ_ _=>True):= .mk λ(x0,_)=>
  .cal u9.c (x0,()) λc1=>
  .ret (c1==0)
noncomputable def CY:=aU st Tryz.func251 [Dg] (ks:=[.sc .str]) qv rB
noncomputable def ol:FT (Segm×Int×Int×Unit) (ac) (λx=>aw x.1) (λx v=>sS v/\v.length<=1500):=⟨λ(x0,x1,x2,_)=>
  .cal gT.c (x0,()) λc1=>
  .ite (!c1) (.ret [])<|
  .cal oz.c (x0.opts,()) λc2=>
  .val (IntKind.wrap .i64 ((IntKind.wrap .i64 (20+(c2.length:Int)))+(x0.body.length:Int))) λe3=>
  .cal mP.c (x1,x2,e3,()) λc4=>
  .ite (c4==[]) (.ret [])<|
  .cal aN.c (x0.from_,2,()) λc5=>
  .cal aN.c (x0.to,2,()) λc6=>
  .grd (Nat.ble (c5.length+c6.length) am)<|
  .cal aN.c (x0.seq,4,()) λc7=>
  .grd (Nat.ble ((c5++c6).length+c7.length) am)<|
  .cal aN.c (x0.ack,4,()) λc8=>
  .grd (Nat.ble (((c5++c6)++c7).length+c8.length) am)<|
  .val (IntKind.wrap .i64 ((IntKind.wrap .i64 (20+(c2.length:Int))).tdiv 4)) λe9=>
  .cal aN.c ((IntKind.wrap .i64 (e9*16)),1,()) λc10=>
  .grd (Nat.ble ((((c5++c6)++c7)++c8).length+c10.length) am)<|
  .cal aN.c (x0.flags,1,()) λc11=>
  .grd (Nat.ble (((((c5++c6)++c7)++c8)++c10).length+c11.length) am)<|
  .cal aN.c (x0.window,2,()) λc12=>
  .grd (Nat.ble ((((((c5++c6)++c7)++c8)++c10)++c11).length+c12.length) am)<|
  .grd (Nat.ble (2+c2.length) am)<|
  .grd (Nat.ble (([0,0]++c2).length+x0.body.length) am)<|
  .grd (Nat.ble (c4.length+((((((c5++c6)++c7)++c8)++c10)++c11)++c12).length) am)<|
  .grd (Nat.ble ((c4++((((((c5++c6)++c7)++c8)++c10)++c11)++c12)).length+2) am)<|
  .val ((c4++((((((c5++c6)++c7)++c8)++c10)++c11)++c12))++[0,0]) λe13=>
  .grd (Nat.ble (e13.length+(([0,0]++c2)++x0.body).length) am)<|
  .cal u9.c ((e13++(([0,0]++c2)++x0.body)),()) λc14=>
  .cal aN.c (c14,2,()) λc15=>
  .grd (Nat.ble (((((((c5++c6)++c7)++c8)++c10)++c11)++c12).length+c15.length) am)<|
  .grd (Nat.ble ((((((((c5++c6)++c7)++c8)++c10)++c11)++c12)++c15).length+(([0,0]++c2)++x0.body).length) am)<|
  .val ((((((((c5++c6)++c7)++c8)++c10)++c11)++c12)++c15)++(([0,0]++c2)++x0.body)) λe16=>
  .ret e16,
 λ(x0,x1,x2,_) hp=>by
  refine Tr.C trivial λc1 hc1 qc1=>Tr.I (λb0=>Tr.R ?_) λb0=>Tr.C trivial λc2 hc2 qc2=>Tr.V λe3 he3=>Tr.C trivial λc4 hc4 qc4=>Tr.I (λb1=>Tr.R ?_) λb1=>Tr.C trivial λc5 hc5 qc5=>Tr.C trivial λc6 hc6 qc6=>Tr.Gb ?_ λg2=>Tr.C trivial λc7 hc7 qc7=>Tr.Gb ?_ λg3=>Tr.C trivial λc8 hc8 qc8=>Tr.Gb ?_ λg4=>Tr.V λe9 he9=>Tr.C trivial λc10 hc10 qc10=>Tr.Gb ?_ λg5=>Tr.C trivial λc11 hc11 qc11=>Tr.Gb ?_ λg6=>Tr.C trivial λc12 hc12 qc12=>Tr.Gb ?_ λg7=>Tr.Gb ?_ λg8=>Tr.Gb ?_ λg9=>Tr.Gb ?_ λg10=>Tr.Gb ?_ λg11=>Tr.V λe13 he13=>Tr.Gb ?_ λg12=>Tr.C ?_ λc14 hc14 qc14=>Tr.C trivial λc15 hc15 qc15=>Tr.Gb ?_ λg13=>Tr.Gb ?_ λg14=>Tr.V λe16 he16=>Tr.R ?_
  all_goals ((first|(simp only[List.length_append,List.length_cons,List.length_nil,am,sS]at*;omega)|grind))⟩
noncomputable def FR:=aU st Tryz.func255 [kF,F7,xp,jP,Dg] (ks:=[.st .segm,.sc (.int .i64),.sc (.int .i64)]) ol (λv=>[(false,[.c (.str v)])])
noncomputable def eV:FT (Link×Unit) (Bool) (λx=>eA x.1) (λ_ _=>True):= .mk λ(x0,_)=>
  .cal ae.c (x0.mac,48,()) λc1=>
  .ite c1 (.ite (x0.mac != 281474976710655) (.cal ae.c (x0.ip,32,()) λc2=>
    .ite c2 (.cal gM.c (x0.cache,()) λc3=>
     .ret c3)<|
    .ret false)<|
   .ret false)<|
  .ret false
noncomputable def AK:=aU ao Tryz.func257 [bI,Ep] (ks:=[.st .link]) eV rB
noncomputable def R0:=[xT,DP]
noncomputable def RA:Fx:=⟨259,Tryz.f259,[(3000001,rA 0 12)],0⟩
noncomputable def sV:FT (ac×Unit) (Arpm×Bool) (λx=>sS x.1) (λ_ _=>True):= .mk λ(x0,_)=>
  .bnd (β:=Bool×Unit) (.ite (decide ((x0.length:Int)<28)) (.ret (true,()))<|
   .grd (decide (6<=(x0.length:Int)))<|
   .ret ((!(((x0.take 6).drop 0)==[0,1,8,0,6,4])),())) λ(u1a0,_)=>
  .ite u1a0 (.ret ((⟨0,0,0,0,0⟩:Arpm),false))<|
  .cal dR.c (x0,6,2,()) λc2=>
  .cal dR.c (x0,8,6,()) λc3=>
  .cal dR.c (x0,14,4,()) λc4=>
  .cal dR.c (x0,18,6,()) λc5=>
  .cal dR.c (x0,24,4,()) λc6=>
  .cal mZ.c ((⟨c2,c3,c4,c5,c6⟩:Arpm),()) λc7=>
  .ite (!c7) (.ret ((⟨0,0,0,0,0⟩:Arpm),false))<|
  .ret ((⟨c2,c3,c4,c5,c6⟩:Arpm),true)
noncomputable def SG:=cI ao RA R0 [] (ks:=[.sc .str]) sV (λv=>[(true,NE v.1),(false,[.c (.bool v.2)])]) Tryz.func259 trivial
noncomputable def xe:=[vz,Ep,bI,Du]
def mH:Sh:=⟨[zi 1,zi 2,zo 7 0,zi 29,zi 30],[za .entr]⟩
def m6:Sh:=⟨[zi 1,zi 2,zo 7 0,zi 9,zo 54 0,zi 55,zi 56],[za .entr]⟩
noncomputable def xK:Fx:=⟨260,Tryz.f260,[(0,lb [1,2,7,29,30] [1,2,6,7]),(2,lb [1,2,7,9,54,55,56] [1,2,6,7,9]),(3000002,rA 0 26)],0⟩
noncomputable def wg (v0 v1:Int)(v4:List Entr)(v3:Int)(a:Unit):Tr (Stp (Unit) ((List Entr))):=
 .grd (ba v4 v3)<|
 .ite ((v4.getD v3.toNat (Ty.zero .entr)).ip==v0) (.grd (ba v4 v3)<|
  .grd ((decide (0<=v3))&&(decide (v3<((v4.set v3.toNat ({(v4.getD v3.toNat (Ty.zero .entr))with hw:=v1}:Entr)).length:Int))))<|
  .val ((v4.set v3.toNat ({(v4.getD v3.toNat (Ty.zero .entr))with hw:=v1}:Entr)).set v3.toNat ({((v4.set v3.toNat ({(v4.getD v3.toNat (Ty.zero .entr))with hw:=v1}:Entr)).getD v3.toNat (Ty.zero .entr))with age:=0}:Entr)) λl6=>
  .ret (.out l6))<|
 .ret (.next ())
noncomputable def fg:mH.V->nL mH Unit (List Entr):=λ(v0,v1,v2,v3,v4,_)=>⟨v3,(),λv3 _=>(v0,v1,v2,v3,v4,()),λv3 _=>(decide (v3<v2)),wg v0 v1 v4,up,1,(Int.toNat (v2-v3)),.inl,eR,oB .ret ⟨[zi 1,zi 2,zo 6 0,zo 7 0],[za .entr]⟩ (λp=>(v0,v1,p,())) (.exit 0) ⟨[zi 1,zi 2,zu 6,zo 7 0],[za .entr]⟩ (λ_=>(v0,v1,v4,()))⟩
theorem IZ:LS Tryz.prog xK [0] (kD 0 mH fg):=fa ao (aW xe) _ fg [] trivial
theorem Iy {v0 v1 v2 v3:Int}{v4:List Entr}(h0:0<=v3)(h1:v2<=4611686018427387904)(h2:sS v4)(h3:v2<=(v4.length:Int)):(fg (v0,v1,v2,v3,v4,())).U v2 (λ_ _=>True) (λp=>sS p):=
 kx h0 h1 trivial
noncomputable def eb (v5:List Entr)(v4:Int)(a:Int):Tr (Stp (Int) (Empty)):=
 .grd (ba v5 v4)<|
 .grd (ba v5 a)<|
 .ite (decide ((v5.getD a.toNat (Ty.zero .entr)).age<(v5.getD v4.toNat (Ty.zero .entr)).age)) (.ret (.next v4))<|
 .ret (.next a)
noncomputable def fA:m6.V->wa m6 Int:=λ(v0,v1,v2,v3,v4,v5,_)=>⟨v4,v2,λv4 a=>(v0,v1,a,v3,v4,v5,()),λv4 _=>(decide (v4<v3)),eb v5,up,1,(Int.toNat (v3-v4)),Empty.elim,Prod.mk,oN (.exit 2) ⟨[zi 1,zi 2,zu 6,zo 7 0,zi 9],[za .entr]⟩ (λx=>(v0,v1,x.2,v5,()))⟩
theorem GX:LS Tryz.prog xK [1] (kD 2 m6 fA):=fa ao (aW xe) _ fA [] trivial
theorem HY {v0 v1 v2 v3 v4:Int}{v5:List Entr}(h0:0<=v4)(h1:v3<=4611686018427387904)(h2:v3<=(v5.length:Int))(h3:0<=v2/\v2<v5.length):(fA (v0,v1,v2,v3,v4,v5,())).U v3 (λv4 a=>0<=a/\a<v5.length) (λ_=>True):=
 kx (a:=v2) h0 h1 h3
noncomputable def tB:FT (List Entr×Int×Int×Unit) (List Entr) (λx=>sS x.1) (λx v=>sS v):=⟨λ(x0,x1,x2,_)=>
  .cal f9.c (x0,()) λc1=>
  .bnd (β:=Bool×Unit) (.cal gM.c (x0,()) λc2=>
   .ite (!c2) (.ret (true,()))<|
   .cal ae.c (x1,32,()) λc3=>
   .ite (!c3) (.ret (true,()))<|
   .cal ae.c (x2,48,()) λc4=>
   .ret ((!c4),())) λ(u5a0,_)=>
  .ite u5a0 (.ret c1)<|
  .lp (fg (x1,x2,(c1.length:Int),0,c1,())).lp λw7=> .sum w7 (λp7a0=>
  .ret p7a0)<|
  λ_=>
  .ite ((c1.length:Int)==4) (.lp (fA (x1,x2,0,(c1.length:Int),0,c1,())).lp λ(_,a8_0)=>
   .cal rt.c (c1,a8_0,(IntKind.wrap .i64 (a8_0+1)),()) λc9=>
   .grd (De (c9.2.take c9.1) 1 24)<|
   .ret ((c9.2.take c9.1)++[(⟨x1,x2,0⟩:Entr)]))<|
  .grd (De c1 1 24)<|
  .ret (c1++[(⟨x1,x2,0⟩:Entr)]),
 λ(x0,x1,x2,_) hp=>by
  refine Tr.C ?_ λ_ _ _=>Tr.B (Q':=λw=>(w.1=false->x0.length<=4)) (Tr.C ?_ λ_ _ _=>Tr.I (λ_=>Tr.R ?_) λ_=>Tr.C trivial λ_ _ _=>Tr.I (λ_=>Tr.R ?_) λ_=>Tr.C trivial λ_ _ _=>Tr.R ?_) (λ(u5a0,_) _ _=>Tr.I (λ_=>Tr.R ?_) λ_=>Tr.L (Iy ?_ ?_ ?_ ?_) (λ_ _=>Tr.Sr (Tr.I (λ_=>Tr.L (HY ?_ ?_ ?_ ?_) (λa8_0 _=>Tr.C ?_ λ_ _ _=>Tr.Gb ?_ λ_=>Tr.R ?_) (λp=>Empty.elim p)) λ_=>Tr.Gb ?_ λ_=>Tr.R ?_)) (λp7a0 _=>Tr.Sl (Tr.R ?_)))
  all_goals ((try simp only[fg,fA,LC.lp,LC.ct,Ct.lp,Tr.nice,kt]at*)<;>grind)⟩
noncomputable def Rv:=cI ao xK xe [(kD 0 mH fg),(kD 2 m6 fA)] (ks:=[.sc (.sl .entr),.sc (.int .i64),.sc (.int .i64)]) tB (λv=>[(false,[sc (.o true) .entr v])]) Tryz.func260 ⟨IZ,GX,trivial⟩
noncomputable def NA:=[DP]
noncomputable def Om:Fx:=⟨261,Tryz.f261,[(3000002,rA 0 29)],0⟩
noncomputable def n6:FT (Arpm×Int×Int×Unit) (Arpm×Bool) (λ_=>True) (λ_ _=>True):= .mk λ(x0,x1,x2,_)=>
  .bnd (β:=Bool×Unit) (.ite (x0.kind != 1) (.ret (true,()))<|
   .ite (x0.dstIp != x2) (.ret (true,()))<|
   .cal mZ.c ((⟨2,x1,x2,x0.srcHw,x0.srcIp⟩:Arpm),()) λc1=>
   .ret ((!c1),())) λ(u2a0,_)=>
  .ite u2a0 (.ret ((⟨0,0,0,0,0⟩:Arpm),false))<|
  .ret ((⟨2,x1,x2,x0.srcHw,x0.srcIp⟩:Arpm),true)
noncomputable def Ny:=cI ao Om NA [] (ks:=[.st .arpm,.sc (.int .i64),.sc (.int .i64)]) n6 (λv=>[(true,NE v.1),(false,[.c (.bool v.2)])]) Tryz.func261 trivial
noncomputable def fR:FT (Fram×Unit) (ac) (λx=>CP x.1) (λx v=>sS v/\v.length<=1600):=⟨λ(x0,_)=>
  .cal fJ.c (x0,()) λc1=>
  .ite (!c1) (.ret [])<|
  .cal au.c (x0.dst,6,()) λc2=>
  .cal au.c (x0.src,6,()) λc3=>
  .grd (Nat.ble (c2.length+c3.length) am)<|
  .cal au.c (x0.type,2,()) λc4=>
  .grd (Nat.ble ((c2++c3).length+c4.length) am)<|
  .grd (Nat.ble (((c2++c3)++c4).length+x0.body.length) am)<|
  .ret (((c2++c3)++c4)++x0.body),
 λ(x0,_) hp=>by
  refine Tr.C trivial λc1 hc1 qc1=>Tr.I (λb0=>Tr.R ?_) λb0=>Tr.C trivial λc2 hc2 qc2=>Tr.C trivial λc3 hc3 qc3=>Tr.Gb ?_ λg1=>Tr.C trivial λc4 hc4 qc4=>Tr.Gb ?_ λg2=>Tr.Gb ?_ λg3=>Tr.R ?_
  all_goals ((first|(simp only[List.length_append,List.length_cons,List.length_nil,am,sS]at*;omega)|grind))⟩
noncomputable def zz:=aU ao Tryz.func262 [E1,jx] (ks:=[.st .fram]) fR (λv=>[(false,[.c (.str v)])])
noncomputable def j5:FT (Arpm×Unit) (ac) (λ_=>True) (λx v=>sS v/\v.length<=40):=⟨λ(x0,_)=>
  .cal mZ.c (x0,()) λc1=>
  .ite (!c1) (.ret [])<|
  .cal au.c (x0.kind,2,()) λc2=>
  .grd (Nat.ble (6+c2.length) am)<|
  .cal au.c (x0.srcHw,6,()) λc3=>
  .grd (Nat.ble (([0,1,8,0,6,4]++c2).length+c3.length) am)<|
  .cal au.c (x0.srcIp,4,()) λc4=>
  .grd (Nat.ble ((([0,1,8,0,6,4]++c2)++c3).length+c4.length) am)<|
  .cal au.c (x0.dstHw,6,()) λc5=>
  .grd (Nat.ble (((([0,1,8,0,6,4]++c2)++c3)++c4).length+c5.length) am)<|
  .cal au.c (x0.dstIp,4,()) λc6=>
  .grd (Nat.ble ((((([0,1,8,0,6,4]++c2)++c3)++c4)++c5).length+c6.length) am)<|
  .ret ((((([0,1,8,0,6,4]++c2)++c3)++c4)++c5)++c6),
 λ(x0,_) hp=>by
  refine Tr.C trivial λc1 hc1 qc1=>Tr.I (λb0=>Tr.R ?_) λb0=>Tr.C trivial λc2 hc2 qc2=>Tr.Gb ?_ λg1=>Tr.C trivial λc3 hc3 qc3=>Tr.Gb ?_ λg2=>Tr.C trivial λc4 hc4 qc4=>Tr.Gb ?_ λg3=>Tr.C trivial λc5 hc5 qc5=>Tr.Gb ?_ λg4=>Tr.C trivial λc6 hc6 qc6=>Tr.Gb ?_ λg5=>Tr.R ?_
  all_goals ((first|(simp only[List.length_append,List.length_cons,List.length_nil,am,sS]at*;omega)|grind))⟩
noncomputable def Sb:=aU ao Tryz.func263 [DP,jx] (ks:=[.st .arpm]) j5 (λv=>[(false,[.c (.str v)])])
noncomputable def IA:=[bI,jx]
noncomputable def Ja:Fx:=⟨264,Tryz.f264,[(3000001,rA 0 19)],0⟩
noncomputable def dV:FT (Int×Int×Int×Unit) (ac) (λ_=>True) (λx v=>sS v/\v.length<=20):=⟨λ(x0,x1,x2,_)=>
  .bnd (β:=Bool×Unit) (.cal ae.c (x0,32,()) λc1=>
   .ite (!c1) (.ret (true,()))<|
   .cal ae.c (x1,32,()) λc2=>
   .ite (!c2) (.ret (true,()))<|
   .cal ae.c (x2,16,()) λc3=>
   .ret ((!c3),())) λ(u4a0,_)=>
  .ite u4a0 (.ret [])<|
  .cal au.c (x0,4,()) λc5=>
  .cal au.c (x1,4,()) λc6=>
  .grd (Nat.ble (c5.length+c6.length) am)<|
  .grd (Nat.ble ((c5++c6).length+2) am)<|
  .cal au.c (x2,2,()) λc7=>
  .grd (Nat.ble (((c5++c6)++[0,6]).length+c7.length) am)<|
  .ret (((c5++c6)++[0,6])++c7),
 λ(x0,x1,x2,_) hp=>by
  refine Tr.B (Q':=λ_=>True) (Tr.C trivial λc1 hc1 qc1=>Tr.I (λb0=>Tr.R trivial) λb0=>Tr.C trivial λc2 hc2 qc2=>Tr.I (λb1=>Tr.R trivial) λb1=>Tr.C trivial λc3 hc3 qc3=>Tr.R trivial) (λ(u4a0,_) hj4 qj4=>Tr.I (λb0=>Tr.R ?_) λb0=>Tr.C trivial λc5 hc5 qc5=>Tr.C trivial λc6 hc6 qc6=>Tr.Gb ?_ λg1=>Tr.Gb ?_ λg2=>Tr.C trivial λc7 hc7 qc7=>Tr.Gb ?_ λg3=>Tr.R ?_)
  all_goals ((try simp only[Tr.nice,kt]at*)<;>(first|(simp only[List.length_append,List.length_cons,List.length_nil,am,sS]at*;omega)|grind))⟩
noncomputable def xa:=cI ao Ja IA [] (ks:=[.sc (.int .i64),.sc (.int .i64),.sc (.int .i64)]) dV (λv=>[(false,[.c (.str v)])]) Tryz.func264 trivial
noncomputable def lv:FT (ac×Unit) (Bool) (λx=>sS x.1) (λ_ _=>True):= .mk λ(x0,_)=>
  .cal r7.c (x0,()) λc1=>
  .ret (c1==0)
noncomputable def CR:=aU ao Tryz.func265 [D7] (ks:=[.sc .str]) lv rB
def rc:Sh:=⟨[zs 0,zp 2 0,zp 4 1,zi 5],[zx .opti,zx .opti]⟩
noncomputable def cA (v0:ac)(a:Int×Opti):Tr (Stp (Int×Opti) ((Opti)⊕(Opti×Opti))):=
 .ite (decide (a.1<(v0.length:Int))) (.grd (ba v0 a.1)<|
  .ite ((af v0 a.1.toNat)==0) (.ret (.out (.inl a.2)))<|
  .ite ((af v0 a.1.toNat)==1) (.ret (.next ((IntKind.wrap .i64 (a.1+1)),a.2)))<|
  .ite (decide ((v0.length:Int)<=(IntKind.wrap .i64 (a.1+1)))) (.val (bH.f (())) λc2=>
   .ret (.out (.inr ((c2,a.2)))))<|
  .grd (ba v0 (IntKind.wrap .i64 (a.1+1)))<|
  .bnd (β:=Bool×Unit) (.ite (decide ((IntKind.wrap .i64 (af v0 ((IntKind.wrap .i64 (a.1+1)).toNat)))<2)) (.ret (true,()))<|
   .ret ((decide ((IntKind.wrap .i64 ((v0.length:Int)-a.1))<(IntKind.wrap .i64 (af v0 ((IntKind.wrap .i64 (a.1+1)).toNat))))),())) λ(u3a0,_)=>
  .ite u3a0 (.val (bH.f (())) λc4=>
   .ret (.out (.inr ((c4,a.2)))))<|
  .bnd (β:=Bool×Unit) (.ite ((af v0 a.1.toNat)==2) (.ret (((IntKind.wrap .i64 (af v0 ((IntKind.wrap .i64 (a.1+1)).toNat)))==4),()))<|
   .ret (false,())) λ(u5a0,_)=>
  .ite u5a0 (.cal dR.c (v0,(IntKind.wrap .i64 (a.1+2)),2,()) λc6=>
   .val (IntKind.wrap .i64 (a.1+(IntKind.wrap .i64 (af v0 ((IntKind.wrap .i64 (a.1+1)).toNat))))) λe7=>
   .ret (.next (e7,({a.2 with mss:=c6}:Opti))))<|
  .bnd (β:=Bool×Unit) (.ite ((af v0 a.1.toNat)==3) (.ret (((IntKind.wrap .i64 (af v0 ((IntKind.wrap .i64 (a.1+1)).toNat)))==3),()))<|
   .ret (false,())) λ(u8a0,_)=>
  .ite u8a0 (.grd (ba v0 (IntKind.wrap .i64 (a.1+2)))<|
   .val (β:=Int) (if 14<(IntKind.wrap .i64 (af v0 ((IntKind.wrap .i64 (a.1+2)).toNat)))then 14 else(IntKind.wrap .i64 (af v0 ((IntKind.wrap .i64 (a.1+2)).toNat)))) λe9=>
   .val (IntKind.wrap .i64 (a.1+(IntKind.wrap .i64 (af v0 ((IntKind.wrap .i64 (a.1+1)).toNat))))) λe10=>
   .ret (.next (e10,({a.2 with scale:=e9}:Opti))))<|
  .bnd (β:=Bool×Unit) (.ite ((af v0 a.1.toNat)==4) (.ret (((IntKind.wrap .i64 (af v0 ((IntKind.wrap .i64 (a.1+1)).toNat)))==2),()))<|
   .ret (false,())) λ(u11a0,_)=>
  .ite u11a0 (.val (IntKind.wrap .i64 (a.1+(IntKind.wrap .i64 (af v0 ((IntKind.wrap .i64 (a.1+1)).toNat))))) λe12=>
   .ret (.next (e12,({a.2 with sack:=true}:Opti))))<|
  .bnd (β:=Bool×Unit) (.ite ((af v0 a.1.toNat)==8) (.ret (((IntKind.wrap .i64 (af v0 ((IntKind.wrap .i64 (a.1+1)).toNat)))==10),()))<|
   .ret (false,())) λ(u13a0,_)=>
  .ite u13a0 (.cal dR.c (v0,(IntKind.wrap .i64 (a.1+2)),4,()) λc14=>
   .cal dR.c (v0,(IntKind.wrap .i64 (a.1+6)),4,()) λc15=>
   .val (IntKind.wrap .i64 (a.1+(IntKind.wrap .i64 (af v0 ((IntKind.wrap .i64 (a.1+1)).toNat))))) λe16=>
   .ret (.next (e16,({a.2 with stamp:=true,val:=c14,echo:=c15}:Opti))))<|
  .val (IntKind.wrap .i64 (a.1+(IntKind.wrap .i64 (af v0 ((IntKind.wrap .i64 (a.1+1)).toNat))))) λe17=>
  .ret (.next (e17,a.2)))<|
 .ret (.out (.inl a.2))
instance i_ReadOptions_L0_i:Inhabited ((Opti)⊕(Opti×Opti)):=⟨.inl default⟩
noncomputable def im:rc.V->LW rc (Int×Opti) ((Opti)⊕(Opti×Opti)):=λ(v0,v1,v2,v3,_)=>⟨(v1,v3),λa=>(v0,a.1,v2,a.2,()),cA v0,Int.toNat ((v0.length:Int)-v1),oB (.exit 0) ⟨[zp 2 0,zu 3,zp 4 1],[zx .opti,zx .opti]⟩ (λp=>(v2,p,())) .ret ⟨[zp 2 0,zb 3,zp 4 1],[zx .opti,zx .opti]⟩ (λp=>(false,p.1,p.2,()))⟩
theorem AD {v0:ac}{v1:Int}{v2 v3:Opti}(h0:sS v0)(h1:0<=v1):(im (v0,v1,v2,v3,())).W (λ_=>True):=
 lwW (a:=(v1,v3)) (λa=>0<=a.1) (λa=>Int.toNat ((v0.length:Int)-a.1)) h1
noncomputable def kM:FT (ac×Unit) (Opti×Bool) (λx=>sS x.1) (λ_ _=>True):= .mk (λ(x0,_)=>
  .val (bH.f (())) λc1=>
  .lp (im (x0,0,(⟨0,0,false,false,0,0⟩:Opti),c1,())).lp λq18=> .sum q18 (λp18a0=>
  .ret (p18a0,true))<|
  λ(p18b0,_)=>
  .ret (p18b0,false)) (np @AD)
noncomputable def Gg:=KG ao Tryz.func266 [(0,lb [0,2,4,5] [2,3,4]),(3000011,rA 0 42),(3000013,rA 0 44),(3000015,rA 0 56),(3000017,rA 0 70),(3000019,rA 0 78)] [ja,xT] 0 im (ks:=[.sc .str]) kM (λv=>[(true,pg v.1),(false,[.c (.bool v.2)])])
noncomputable def cj:FT (Segm×Int×Int×Unit) (ac) (λx=>aw x.1) (λx v=>sS v/\v.length<=1500):=⟨λ(x0,x1,x2,_)=>
  .cal ai.c (x0,()) λc1=>
  .ite (!c1) (.ret [])<|
  .cal cg.c (x0.opts,()) λc2=>
  .val (IntKind.wrap .i64 ((IntKind.wrap .i64 (20+(c2.length:Int)))+(x0.body.length:Int))) λe3=>
  .cal dV.c (x1,x2,e3,()) λc4=>
  .ite (c4==[]) (.ret [])<|
  .cal au.c (x0.from_,2,()) λc5=>
  .cal au.c (x0.to,2,()) λc6=>
  .grd (Nat.ble (c5.length+c6.length) am)<|
  .cal au.c (x0.seq,4,()) λc7=>
  .grd (Nat.ble ((c5++c6).length+c7.length) am)<|
  .cal au.c (x0.ack,4,()) λc8=>
  .grd (Nat.ble (((c5++c6)++c7).length+c8.length) am)<|
  .val (IntKind.wrap .i64 ((IntKind.wrap .i64 (20+(c2.length:Int))).tdiv 4)) λe9=>
  .cal au.c ((IntKind.wrap .i64 (e9*16)),1,()) λc10=>
  .grd (Nat.ble ((((c5++c6)++c7)++c8).length+c10.length) am)<|
  .cal au.c (x0.flags,1,()) λc11=>
  .grd (Nat.ble (((((c5++c6)++c7)++c8)++c10).length+c11.length) am)<|
  .cal au.c (x0.window,2,()) λc12=>
  .grd (Nat.ble ((((((c5++c6)++c7)++c8)++c10)++c11).length+c12.length) am)<|
  .grd (Nat.ble (2+c2.length) am)<|
  .grd (Nat.ble (([0,0]++c2).length+x0.body.length) am)<|
  .grd (Nat.ble (c4.length+((((((c5++c6)++c7)++c8)++c10)++c11)++c12).length) am)<|
  .grd (Nat.ble ((c4++((((((c5++c6)++c7)++c8)++c10)++c11)++c12)).length+2) am)<|
  .val ((c4++((((((c5++c6)++c7)++c8)++c10)++c11)++c12))++[0,0]) λe13=>
  .grd (Nat.ble (e13.length+(([0,0]++c2)++x0.body).length) am)<|
  .cal r7.c ((e13++(([0,0]++c2)++x0.body)),()) λc14=>
  .cal au.c (c14,2,()) λc15=>
  .grd (Nat.ble (((((((c5++c6)++c7)++c8)++c10)++c11)++c12).length+c15.length) am)<|
  .grd (Nat.ble ((((((((c5++c6)++c7)++c8)++c10)++c11)++c12)++c15).length+(([0,0]++c2)++x0.body).length) am)<|
  .val ((((((((c5++c6)++c7)++c8)++c10)++c11)++c12)++c15)++(([0,0]++c2)++x0.body)) λe16=>
  .ret e16,
 λ(x0,x1,x2,_) hp=>by
  refine Tr.C trivial λc1 hc1 qc1=>Tr.I (λb0=>Tr.R ?_) λb0=>Tr.C trivial λc2 hc2 qc2=>Tr.V λe3 he3=>Tr.C trivial λc4 hc4 qc4=>Tr.I (λb1=>Tr.R ?_) λb1=>Tr.C trivial λc5 hc5 qc5=>Tr.C trivial λc6 hc6 qc6=>Tr.Gb ?_ λg2=>Tr.C trivial λc7 hc7 qc7=>Tr.Gb ?_ λg3=>Tr.C trivial λc8 hc8 qc8=>Tr.Gb ?_ λg4=>Tr.V λe9 he9=>Tr.C trivial λc10 hc10 qc10=>Tr.Gb ?_ λg5=>Tr.C trivial λc11 hc11 qc11=>Tr.Gb ?_ λg6=>Tr.C trivial λc12 hc12 qc12=>Tr.Gb ?_ λg7=>Tr.Gb ?_ λg8=>Tr.Gb ?_ λg9=>Tr.Gb ?_ λg10=>Tr.Gb ?_ λg11=>Tr.V λe13 he13=>Tr.Gb ?_ λg12=>Tr.C ?_ λc14 hc14 qc14=>Tr.C trivial λc15 hc15 qc15=>Tr.Gb ?_ λg13=>Tr.Gb ?_ λg14=>Tr.V λe16 he16=>Tr.R ?_
  all_goals ((first|(simp only[List.length_append,List.length_cons,List.length_nil,am,sS]at*;omega)|grind))⟩
noncomputable def Gd:=aU ao Tryz.func268 [iV,Fk,xa,jx,D7] (ks:=[.st .segm,.sc (.int .i64),.sc (.int .i64)]) cj (λv=>[(false,[.c (.str v)])])
noncomputable def lP:FT (Fram×Unit) (ac) (λx=>CP x.1) (λx v=>sS v/\v.length<=1600):=⟨λ(x0,_)=>
  .cal yy.c (x0,()) λc1=>
  .ite (!c1) (.ret [])<|
  .cal aN.c (x0.dst,6,()) λc2=>
  .cal aN.c (x0.src,6,()) λc3=>
  .grd (Nat.ble (c2.length+c3.length) am)<|
  .cal aN.c (x0.type,2,()) λc4=>
  .grd (Nat.ble ((c2++c3).length+c4.length) am)<|
  .grd (Nat.ble (((c2++c3)++c4).length+x0.body.length) am)<|
  .ret (((c2++c3)++c4)++x0.body),
 λ(x0,_) hp=>by
  refine Tr.C trivial λc1 hc1 qc1=>Tr.I (λb0=>Tr.R ?_) λb0=>Tr.C trivial λc2 hc2 qc2=>Tr.C trivial λc3 hc3 qc3=>Tr.Gb ?_ λg1=>Tr.C trivial λc4 hc4 qc4=>Tr.Gb ?_ λg2=>Tr.Gb ?_ λg3=>Tr.R ?_
  all_goals ((first|(simp only[List.length_append,List.length_cons,List.length_nil,am,sS]at*;omega)|grind))⟩
noncomputable def sN:=aU st Tryz.func285 [PQ,jP] (ks:=[.st .fram]) lP (λv=>[(false,[.c (.str v)])])
noncomputable def T8:=[oU,pP,wO,kG,bu]
def HK:An:=⟨⟨[],[],false,0⟩,⟨[1,2,3],[],false,0⟩,⟨[],[]⟩,[(.normal,⟨[zp 1 0,zb 2,zi 3],[zg .conn]⟩)]⟩
noncomputable def UH:Fx:=⟨293,Tryz.f293,[(1000037,HK),(3000001,rA 0 34),(3000006,rA 0 62)],0⟩
noncomputable def bR:FT (Conn×Unit) (Bool) (λx=>ah x.1) (λx v=>(v=true->SO x.1.s/\RO x.1.r)):= .mk λ(x0,_)=>
  .bnd (β:=Bool×Unit) (.as (λw=>(w.1=false->SO x0.s/\RO x0.r/\dP (pw (Wv x0.r)) x0.r.held)) (.cal aG.c (x0.tuple,()) λc1=>
   .ite (!c1) (.ret (true,()))<|
   .cal br.c (x0.s,()) λc2=>
   .ite (!c2) (.ret (true,()))<|
   .cal bB.c (x0.r,()) λc3=>
   .ite (!c3) (.ret (true,()))<|
   .cal aF.c (x0.opts,()) λc4=>
   .ite (!c4) (.ret (true,()))<|
   .val (a9.f (x0.state,1,8,())) λc5=>
   .ret ((!c5),()))) λ(u6a0,_)=>
  .ite u6a0 (.ret false)<|
  .bnd (β:=Bool×Int×Conn×Unit) (.as (λw=>ah w.2.2.1) (.ite (x0.state==7) (.ret (false,4,x0,()))<|
   .ret (false,3,x0,()))) λ(_,u7a1,u7a2,_)=>
  .bnd (β:=Bool×Unit) (.val (a9.f (u7a2.most,0,1073725440,())) λc8=>
   .ite (!c8) (.ret (true,()))<|
   .val (a9.f (u7a2.window,0,u7a2.most,())) λc9=>
   .ite (!c9) (.ret (true,()))<|
   .val (a9.f (u7a2.timer,0,u7a1,())) λc10=>
   .ite (!c10) (.ret (true,()))<|
   .val (a9.f (u7a2.tries,0,3,())) λc11=>
   .ret ((!c11),())) λ(u12a0,_)=>
  .ite u12a0 (.ret false)<|
  .ite (u7a2.state==1) (.ite (!u7a2.s.fin) (.ite (!u7a2.s.done) (.ret (!u7a2.r.done))<|
    .ret false)<|
   .ret false)<|
  .ite (u7a2.state==2) (.ite u7a2.s.fin (.ite (!u7a2.s.done) (.ret (!u7a2.r.done))<|
    .ret false)<|
   .ret false)<|
  .ite (u7a2.state==3) (.ite u7a2.s.fin (.ite u7a2.s.done (.ret (!u7a2.r.done))<|
    .ret false)<|
   .ret false)<|
  .ite (u7a2.state==4) (.ite (!u7a2.s.fin) (.ite (!u7a2.s.done) (.ret u7a2.r.done)<|
    .ret false)<|
   .ret false)<|
  .ite (u7a2.state==5) (.ite (u7a2.state==5) (.ite u7a2.s.fin (.ite (!u7a2.s.done) (.ret u7a2.r.done)<|
     .ret false)<|
    .ret false)<|
   .ite (u7a2.state==7) (.ite u7a2.s.fin (.ite u7a2.s.done (.ret u7a2.r.done)<|
     .ret false)<|
    .ret false)<|
   .ret true)<|
  .ite (u7a2.state==6) (.ite u7a2.s.fin (.ite (!u7a2.s.done) (.ret u7a2.r.done)<|
    .ret false)<|
   .ret false)<|
  .ite (u7a2.state==7) (.ite u7a2.s.fin (.ite u7a2.s.done (.ret u7a2.r.done)<|
    .ret false)<|
   .ret false)<|
  .ret true
noncomputable def ul:=cI ao UH T8 [] (ks:=[.st .conn]) bR rB Tryz.func293 trivial
noncomputable def nb:FT (Conn×Unit) (Segm) (λx=>ah x.1) (λx v=>aw v):= .mk λ(x0,_)=>
  .cal xv.c (x0.s,()) λc1=>
  .cal ju.c (x0.r,()) λc2=>
  .val (ck.f (())) λc3=>
  .ret (⟨x0.tuple.my,x0.tuple.port,c1,x0.r.next,16,c2,c3,[]⟩:Segm)
noncomputable def Lx:=aU st Tryz.func300 [J0,mY,iZ] (ks:=[.st .conn]) nb (λv=>[(true,xG v)])
noncomputable def ND:=[sD,bN,cu,jP]
noncomputable def OJ:Fx:=⟨303,Tryz.f303,[(3000001,rA 0 26)],0⟩
noncomputable def uw:FT (Tupl×Int×Int×Int×Unit) (ac) (λ_=>True) (λx v=>sS v/\v.length<=40):=⟨λ(x0,x1,x2,x3,_)=>
  .bnd (β:=Bool×Unit) (.cal nS.c (x0,()) λc1=>
   .ite (!c1) (.ret (true,()))<|
   .cal aA.c (x1,32,()) λc2=>
   .ite (!c2) (.ret (true,()))<|
   .cal aA.c (x2,32,()) λc3=>
   .ite (!c3) (.ret (true,()))<|
   .val (cm.f (x3,0,7,())) λc4=>
   .ret ((!c4),())) λ(u5a0,_)=>
  .ite u5a0 (.ret [])<|
  .cal aN.c (x0.ip,4,()) λc6=>
  .cal aN.c (x0.port,2,()) λc7=>
  .grd (Nat.ble (c6.length+c7.length) am)<|
  .cal aN.c (x0.my,2,()) λc8=>
  .grd (Nat.ble ((c6++c7).length+c8.length) am)<|
  .cal aN.c (x1,4,()) λc9=>
  .grd (Nat.ble (((c6++c7)++c8).length+c9.length) am)<|
  .cal aN.c (x2,4,()) λc10=>
  .grd (Nat.ble ((((c6++c7)++c8)++c9).length+c10.length) am)<|
  .cal aN.c (x3,1,()) λc11=>
  .grd (Nat.ble (((((c6++c7)++c8)++c9)++c10).length+c11.length) am)<|
  .ret (((((c6++c7)++c8)++c9)++c10)++c11),
 λ(x0,x1,x2,x3,_) hp=>by
  refine Tr.B (Q':=λ_=>True) (Tr.C trivial λc1 hc1 qc1=>Tr.I (λb0=>Tr.R trivial) λb0=>Tr.C trivial λc2 hc2 qc2=>Tr.I (λb1=>Tr.R trivial) λb1=>Tr.C trivial λc3 hc3 qc3=>Tr.F (by kernel_rfl) trivial) (λ(u5a0,_) hj5 qj5=>Tr.I (λb0=>Tr.R ?_) λb0=>Tr.C trivial λc6 hc6 qc6=>Tr.C trivial λc7 hc7 qc7=>Tr.Gb ?_ λg1=>Tr.C trivial λc8 hc8 qc8=>Tr.Gb ?_ λg2=>Tr.C trivial λc9 hc9 qc9=>Tr.Gb ?_ λg3=>Tr.C trivial λc10 hc10 qc10=>Tr.Gb ?_ λg4=>Tr.C trivial λc11 hc11 qc11=>Tr.Gb ?_ λg5=>Tr.R ?_)
  all_goals ((try simp only[Tr.nice,kt]at*)<;>(first|(simp only[List.length_append,List.length_cons,List.length_nil,am,sS]at*;omega)|grind))⟩
noncomputable def NV:=cI st OJ ND [] (ks:=[.st .tupl,.sc (.int .i64),.sc (.int .i64),.sc (.int .i64)]) uw (λv=>[(false,[.c (.str v)])]) Tryz.func303 trivial
noncomputable def NN:=[oU,bI,bu,jx]
noncomputable def Ov:Fx:=⟨305,Tryz.f305,[(3000001,rA 0 26)],0⟩
noncomputable def fB:FT (Tupl×Int×Int×Int×Unit) (ac) (λ_=>True) (λx v=>sS v/\v.length<=40):=⟨λ(x0,x1,x2,x3,_)=>
  .bnd (β:=Bool×Unit) (.cal aG.c (x0,()) λc1=>
   .ite (!c1) (.ret (true,()))<|
   .cal ae.c (x1,32,()) λc2=>
   .ite (!c2) (.ret (true,()))<|
   .cal ae.c (x2,32,()) λc3=>
   .ite (!c3) (.ret (true,()))<|
   .val (a9.f (x3,0,7,())) λc4=>
   .ret ((!c4),())) λ(u5a0,_)=>
  .ite u5a0 (.ret [])<|
  .cal au.c (x0.ip,4,()) λc6=>
  .cal au.c (x0.port,2,()) λc7=>
  .grd (Nat.ble (c6.length+c7.length) am)<|
  .cal au.c (x0.my,2,()) λc8=>
  .grd (Nat.ble ((c6++c7).length+c8.length) am)<|
  .cal au.c (x1,4,()) λc9=>
  .grd (Nat.ble (((c6++c7)++c8).length+c9.length) am)<|
  .cal au.c (x2,4,()) λc10=>
  .grd (Nat.ble ((((c6++c7)++c8)++c9).length+c10.length) am)<|
  .cal au.c (x3,1,()) λc11=>
  .grd (Nat.ble (((((c6++c7)++c8)++c9)++c10).length+c11.length) am)<|
  .ret (((((c6++c7)++c8)++c9)++c10)++c11),
 λ(x0,x1,x2,x3,_) hp=>by
  refine Tr.B (Q':=λ_=>True) (Tr.C trivial λc1 hc1 qc1=>Tr.I (λb0=>Tr.R trivial) λb0=>Tr.C trivial λc2 hc2 qc2=>Tr.I (λb1=>Tr.R trivial) λb1=>Tr.C trivial λc3 hc3 qc3=>Tr.F (by kernel_rfl) trivial) (λ(u5a0,_) hj5 qj5=>Tr.I (λb0=>Tr.R ?_) λb0=>Tr.C trivial λc6 hc6 qc6=>Tr.C trivial λc7 hc7 qc7=>Tr.Gb ?_ λg1=>Tr.C trivial λc8 hc8 qc8=>Tr.Gb ?_ λg2=>Tr.C trivial λc9 hc9 qc9=>Tr.Gb ?_ λg3=>Tr.C trivial λc10 hc10 qc10=>Tr.Gb ?_ λg4=>Tr.C trivial λc11 hc11 qc11=>Tr.Gb ?_ λg5=>Tr.R ?_)
  all_goals ((try simp only[Tr.nice,kt]at*)<;>(first|(simp only[List.length_append,List.length_cons,List.length_nil,am,sS]at*;omega)|grind))⟩
noncomputable def Ou:=cI ao Ov NN [] (ks:=[.st .tupl,.sc (.int .i64),.sc (.int .i64),.sc (.int .i64)]) fB (λv=>[(false,[.c (.str v)])]) Tryz.func305 trivial
noncomputable def Hp:=[rj,na,wz,uT,Nq]
noncomputable def Jw:Fx:=⟨309,Tryz.f309,[(3000003,rA 0 4)],0⟩
noncomputable def pM:FT (Conn×Segm×Unit) (Bool) (λx=>ah x.1/\aw x.2.1) (λ_ _=>True):= .mk λ(x0,x1,_)=>
  .cal aK.c (x1,()) λc1=>
  .cal bX.c (x0.r,()) λc2=>
  .ite (c1==0) (.bnd (β:=Bool×Unit) (.val (qh.f (x1.seq,x0.r.next,())) λc3=>
    .ite (c3==0) (.ret (true,()))<|
    .val (nK.f (x1.seq,x0.r.next,c2,())) λc4=>
    .ret (c4,())) λ(u5a0,_)=>
   .ret u5a0)<|
  .val (un.f (x1.seq,c1,x0.r.next,c2,())) λc6=>
  .ret c6
noncomputable def HZ:=cI ao Jw Hp [] (ks:=[.st .conn,.st .segm]) pM rB Tryz.func309 trivial
noncomputable def WN:=[wz,pP,qI,bu,ik]
noncomputable def WK:Fx:=⟨312,Tryz.f312,[(3000002,rA 0 22)],0⟩
noncomputable def Gu:FT (Sndr×Int×Unit) (Sndr×Bool) (λx=>dW x.1) (λx v=>dW v.1):= .mk λ(x0,x1,_)=>
  .val (qh.f (x1,x0.una,())) λc1=>
  .bnd (β:=Bool×Unit) (.as (λw=>(w.1=false->SO x0)) (.cal br.c (x0,()) λc2=>
   .ite (!c2) (.ret (true,()))<|
   .cal cY.c (x0,()) λc3=>
   .val (a9.f (c1,0,c3,())) λc4=>
   .ret ((!c4),()))) λ(u5a0,_)=>
  .ite u5a0 (.ret (x0,false))<|
  .grd (O3 x0.data (if(x0.data.length:Int)<c1 then(x0.data.length:Int)else c1) (x0.data.length:Int))<|
  .val ((x0.data.take ((x0.data.length:Int).toNat)).drop ((if(x0.data.length:Int)<c1 then(x0.data.length:Int)else c1).toNat)) λe6=>
  .val (cM.f (x0.una,c1,())) λc7=>
  .val (IntKind.wrap .i64 (x0.sent-(if(x0.data.length:Int)<c1 then(x0.data.length:Int)else c1))) λe8=>
  .ite (c1==(IntKind.wrap .i64 (x0.sent+1))) (.ret ((⟨c7,e6,e8,x0.fin,false,true⟩:Sndr),true))<|
  .ret (({x0 with una:=c7,data:=e6,sent:=e8}:Sndr),true)
noncomputable def Wp:=cI ao WK WN [] (ks:=[.st .sndr,.sc (.int .i64)]) Gu (λv=>[(true,Kg v.1),(false,[.c (.bool v.2)])]) Tryz.func312 trivial
noncomputable def Tx:=[fX,ul,bu]
def we:An:=⟨⟨[],[],false,0⟩,⟨[1,2,3],[],false,0⟩,⟨[],[]⟩,[(.normal,⟨[zp 1 0,zp 2 1,zp 3 2],[zg .conn,.box [.st .conn [.nil .piec]],zk .conn 3,zf]⟩),(.ret,⟨[zp 1 0,zp 2 1,zp 3 2],[zg .conn,zk .conn 3,zk .conn 3,zf]⟩)]⟩
noncomputable def UA:Fx:=⟨315,Tryz.f315,[(1000016,we),(3000004,rA 0 16),(3000006,rA 0 24),(3000008,rA 0 35),(3000010,rA 0 43),(3000012,rA 0 51),(3000014,rA 0 59),(3000020,rA 0 85)],0⟩
noncomputable def qx:FT (Conn×Unit) (Conn) (λx=>ah x.1) (λx v=>ah v):= .mk λ(x0,_)=>
  .cal dI.c (x0,()) λc1=>
  .bnd (β:=Bool×Unit) (.ite (x0.state==1) (.ret (x0.r.done,()))<|
   .ret (false,())) λ(u2a0,_)=>
  .bnd (β:=WT we.es) (.as (Sum.elim (λw=>ah w.1/\ah w.2.1/\ah w.2.2.1) (λw=>ah w.1/\ah w.2.1/\ah w.2.2.1)) (.ite u2a0 (.ret (.inl (x0,(⟨⟨0,0,0⟩,0,⟨0,[],0,false,false,false⟩,⟨0,[],[],0,false⟩,0,0,⟨0,0,false,false,0,0⟩,0,0⟩:Conn),({c1 with state:=4}:Conn),())))<|
   .bnd (β:=Bool×Unit) (.ite (x0.state==2) (.ite x0.s.done (.ret (x0.r.done,()))<|
     .ret (false,()))<|
    .ret (false,())) λ(u3a0,_)=>
   .ite u3a0 (.ret (.inl (x0,(⟨⟨0,0,0⟩,0,⟨0,[],0,false,false,false⟩,⟨0,[],[],0,false⟩,0,0,⟨0,0,false,false,0,0⟩,0,0⟩:Conn),({c1 with state:=7}:Conn),())))<|
   .bnd (β:=Bool×Unit) (.ite (x0.state==2) (.ret (x0.s.done,()))<|
    .ret (false,())) λ(u4a0,_)=>
   .ite u4a0 (.ret (.inl (x0,(⟨⟨0,0,0⟩,0,⟨0,[],0,false,false,false⟩,⟨0,[],[],0,false⟩,0,0,⟨0,0,false,false,0,0⟩,0,0⟩:Conn),({c1 with state:=3}:Conn),())))<|
   .bnd (β:=Bool×Unit) (.ite (x0.state==2) (.ret (x0.r.done,()))<|
    .ret (false,())) λ(u5a0,_)=>
   .ite u5a0 (.ret (.inl (x0,(⟨⟨0,0,0⟩,0,⟨0,[],0,false,false,false⟩,⟨0,[],[],0,false⟩,0,0,⟨0,0,false,false,0,0⟩,0,0⟩:Conn),({c1 with state:=5}:Conn),())))<|
   .bnd (β:=Bool×Unit) (.ite (x0.state==3) (.ret (x0.r.done,()))<|
    .ret (false,())) λ(u6a0,_)=>
   .ite u6a0 (.ret (.inl (x0,(⟨⟨0,0,0⟩,0,⟨0,[],0,false,false,false⟩,⟨0,[],[],0,false⟩,0,0,⟨0,0,false,false,0,0⟩,0,0⟩:Conn),({c1 with state:=7}:Conn),())))<|
   .bnd (β:=Bool×Unit) (.ite (x0.state==5) (.ret (x0.s.done,()))<|
    .ret (false,())) λ(u7a0,_)=>
   .ite u7a0 (.ret (.inl (x0,(⟨⟨0,0,0⟩,0,⟨0,[],0,false,false,false⟩,⟨0,[],[],0,false⟩,0,0,⟨0,0,false,false,0,0⟩,0,0⟩:Conn),({c1 with state:=7}:Conn),())))<|
   .ite (x0.state==6) (.ite x0.s.done (.ret (.inl (x0,(⟨⟨0,0,0⟩,0,⟨0,[],0,false,false,false⟩,⟨0,[],[],0,false⟩,0,0,⟨0,0,false,false,0,0⟩,0,0⟩:Conn),({c1 with state:=8}:Conn),())))<|
    .ret (.inr ((x0,c1,c1,()))))<|
   .ret (.inr ((x0,c1,c1,()))))) λw8=> .sum w8 (λ(u8a0,_,u8a2,_)=>
  .bnd (β:=Bool×Unit) (.as (λw=>(w.1=false->SO ({u8a2 with timer:=0}:Conn).s/\RO ({u8a2 with timer:=0}:Conn).r)) (.cal bR.c (({u8a2 with timer:=0}:Conn),()) λc9=>
   .ite (!c9) (.ret (true,()))<|
   .val (a9.f (u8a0.timer,0,4,())) λc10=>
   .ret ((!c10),()))) λ(u11a0,_)=>
  .ite u11a0 (.cal dI.c (u8a0,()) λc12=>
   .ret c12)<|
  .ite (u8a2.state==7) (.ret ({u8a2 with timer:=4,tries:=0}:Conn))<|
  .ite (u8a2.state==8) (.ret ({u8a2 with timer:=0,tries:=0}:Conn))<|
  .ret u8a2)<|
  λ(_,u8b1,_,_)=>
  .ret u8b1
noncomputable def UF:=cI ao UA Tx [] (ks:=[.st .conn]) qx (λv=>[(true,nJ (.o true) v)]) Tryz.func315 trivial
noncomputable def K8:=[pP,qI,II]
noncomputable def KB:Fx:=⟨316,Tryz.f316,[(3000007,rA 0 68)],0⟩
noncomputable def aV:FT (Sndr×Int×Int×Unit) (Chun×Bool) (λx=>dW x.1) (λx v=>Cj v.1/\(v.2=true->SO x.1/\(v.1.text.length:Int)+x.1.sent<=x.1.data.length/\x.1.finSent=false/\(v.1.text=[]->v.1.fin=true)/\(v.1.fin=true->x.1.fin=true/\x.1.done=false/\x.1.sent+v.1.text.length=x.1.data.length))):= .mk λ(x0,x1,x2,_)=>
  .cal br.c (x0,()) λc1=>
  .ite (!c1) (.ret ((⟨0,[],false⟩:Chun),false))<|
  .cal cY.c (x0,()) λc2=>
  .grd (O3 x0.data x0.sent (x0.data.length:Int))<|
  .val (((x0.data.take ((x0.data.length:Int).toNat)).drop x0.sent.toNat).length:Int) λe3=>
  .val (β:=Int) (if(IntKind.wrap .i64 ((if x1<(-1)then(-1)else x1)-c2))<(if x2<e3 then x2 else e3)then(IntKind.wrap .i64 ((if x1<(-1)then(-1)else x1)-c2))else(if x2<e3 then x2 else e3)) λe4=>
  .cal jN.c (x0,()) λc5=>
  .grd ((decide (0<=(if 0<e4 then e4 else 0)))&&(decide ((if 0<e4 then e4 else 0)<=(((x0.data.take ((x0.data.length:Int).toNat)).drop x0.sent.toNat).length:Int))))<|
  .val ((((x0.data.take ((x0.data.length:Int).toNat)).drop x0.sent.toNat).take ((if 0<e4 then e4 else 0).toNat)).drop 0) λe6=>
  .ite x0.fin (.ite (!x0.finSent) (.ite (!x0.done) (.val (((x0.data.take ((x0.data.length:Int).toNat)).drop x0.sent.toNat).length:Int) λe7=>
     .ite ((if 0<e4 then e4 else 0)==e7) (.bnd (β:=Bool×Unit) (.ite (e6==[]) (.ret ((!(decide ((if 0<e4 then e4 else 0)<(IntKind.wrap .i64 ((if x1<(-1)then(-1)else x1)-c2))))),()))<|
       .ret (false,())) λ(u8a0,_)=>
      .ite u8a0 (.ret ((⟨0,[],false⟩:Chun),false))<|
      .ret ((⟨c5,e6,(decide ((if 0<e4 then e4 else 0)<(IntKind.wrap .i64 ((if x1<(-1)then(-1)else x1)-c2))))⟩:Chun),true))<|
     .bnd (β:=Bool×Unit) (.ite (e6==[]) (.ret (true,()))<|
      .ret (false,())) λ(u9a0,_)=>
     .ite u9a0 (.ret ((⟨0,[],false⟩:Chun),false))<|
     .ret ((⟨c5,e6,false⟩:Chun),true))<|
    .bnd (β:=Bool×Unit) (.ite (e6==[]) (.ret (true,()))<|
     .ret (false,())) λ(u10a0,_)=>
    .ite u10a0 (.ret ((⟨0,[],false⟩:Chun),false))<|
    .ret ((⟨c5,e6,false⟩:Chun),true))<|
   .bnd (β:=Bool×Unit) (.ite (e6==[]) (.ret (true,()))<|
    .ret (false,())) λ(u11a0,_)=>
   .ite u11a0 (.ret ((⟨0,[],false⟩:Chun),false))<|
   .ret ((⟨c5,e6,false⟩:Chun),true))<|
  .bnd (β:=Bool×Unit) (.ite (e6==[]) (.ret (true,()))<|
   .ret (false,())) λ(u12a0,_)=>
  .ite u12a0 (.ret ((⟨0,[],false⟩:Chun),false))<|
  .ret ((⟨c5,e6,false⟩:Chun),true)
noncomputable def K3:=cI ao KB K8 [] (ks:=[.st .sndr,.sc (.int .i64),.sc (.int .i64)]) aV (λv=>[(true,YP v.1),(false,[.c (.bool v.2)])]) Tryz.func316 trivial

end
end Go.Proofs.YtbkjnlihfgkkaaaGreat
