/-
  Contracts of functions and plain laws (printed by a program): each theorem says what a function of the program returns; conditions are its hypotheses.
-/
import Derived.Test.YtbkjnlihfgkkaaaGreatBase
set_option linter.all false
set_option maxRecDepth 4000
namespace Go.Proofs.YtbkjnlihfgkkaaaGreat
open Go Go.RowKit
noncomputable section
@[reducible] def zp (t i:Nat):Nat×Bool×List Pt:=(t,false,[.ptr i 0])
@[reducible] def zi (t:Nat):Nat×Bool×List Pt:=(t,false,[.int .i64])
@[reducible] def zb (t:Nat):Nat×Bool×List Pt:=(t,false,[.bool])
@[reducible] def zu (t:Nat):Nat×Bool×List Pt:=(t,false,[.undef])
@[reducible] def zs (t:Nat):Nat×Bool×List Pt:=(t,false,[.str])
@[reducible] def zl (n:Nat)(t:Ty):Nat×Bool×List Pt:=(n,false,[.sl .arg t])
@[reducible] def zo (n k:Nat):Nat×Bool×List Pt:=(n,false,[.own k])
@[reducible] def zx (t:Ty):Osh:=.box [.st t []]
@[reducible] def zg (t:Ty):Osh:=.box [.st t [.sl .arg]]
@[reducible] def zk (t:Ty)(k:Nat):Osh:=.box [.st t [.own k]]
@[reducible] def zf :Osh:=.of false true
@[reducible] def za (t:Ty):Osh:=.arr t false true
noncomputable def fA:FF (Tupl×Unit) (Tupl):=⟨λ(x0,_)=>
  .ret x0⟩
noncomputable def jx:=ma bH Tryz.func36 [] (ks:=[.st .tupl]) fA (λv=>[(true,zD v)])
noncomputable def cc:FX (List Half×Int×Unit) (Int) (λ_=>True) (a8 [.sc (.sl .half),.sc (.int .i64)]):=⟨λ(x0,x1,_)=>
  .ite (decide ((IntKind.wrap .i64 (x1-(x0.length:Int)))<0)) (.ret (-1))<|
  .ret (IntKind.wrap .i64 (x1-(x0.length:Int))),
 λ(x0,x1,_) hp hf=>by
  simp only[a8,Pk.fact,dS,cK,Fl.fact,Ty.fl,Ty.toH]at hf
  refine Tr.F (by kernel_rfl) trivial⟩
theorem ql (xs:List Half)(k:Int)(h0:0≤k)(h1:k≤1048576)(hl:xs.length≤140737488355328)(h:0≤cc.f (xs,k,())):cc.f (xs,k,())≤k∧xs.length≤1048576:=by
 have w:IntKind.wrap .i64 (k-(xs.length:Int))=k-(xs.length:Int):=bP (by omega) (by omega)
 simp only[FX.f,cc,Tr.nice,w]at h⊢
 by_cases c:k-(xs.length:Int)<0
 ·rw[decide_eq_true c,cond_true]at h;omega
 ·rw[decide_eq_false c,cond_false];exact⟨by omega,by omega⟩
noncomputable def ss:=iT st Tryz.func63 [] (ks:=[.sc (.sl .half),.sc (.int .i64)]) cc rI
noncomputable def ib:FF (Limi×Unit) (Limi):=⟨λ(x0,_)=>
  .ret x0⟩
noncomputable def ru:=ma bH Tryz.func69 [] (ks:=[.st .limi]) ib (λv=>[(true,yT v)])
noncomputable def hU:FF (Limi×Limi×Unit) (Bool):=⟨λ(x0,x1,_)=>
  .ite (x0.halves != x1.halves) (.ret false)<|
  .ite (x0.waiting != x1.waiting) (.ret false)<|
  .ite (x0.conns != x1.conns) (.ret false)<|
  .ite (x0.chal != x1.chal) (.ret false)<|
  .ret true⟩
noncomputable def rj:=ma st Tryz.func76 [] (ks:=[.st .limi,.st .limi]) hU rB
noncomputable def fB:FF (Tupl×Tupl×Unit) (Bool):=⟨λ(x0,x1,_)=>
  .ite (x0.ip != x1.ip) (.ret false)<|
  .ite (x0.port != x1.port) (.ret false)<|
  .ite (x0.my != x1.my) (.ret false)<|
  .ret true⟩
noncomputable def jr:=ma st Tryz.func99 [] (ks:=[.st .tupl,.st .tupl]) fB rB
noncomputable def eL:FF (Opti×Unit) (Opti):=⟨λ(x0,_)=>
  .ret x0⟩
noncomputable def kj:=ma bH Tryz.func107 [] (ks:=[.st .opti]) eL (λv=>[(true,yW v)])
def iG:Sh:=⟨[zi 0,zs 3],[]⟩
noncomputable def ng (a:Int×bu):Tr (Stp (Int×bu) ((bu))):=
 .ite (decide (0<a.1)) (.grd (Nat.ble ((nQ [(IntKind.wrap .u8 (IntKind.wrap .i64 (48+(a.1.tmod 10))))]).length+a.2.length) gm)<|
  .val ((nQ [(IntKind.wrap .u8 (IntKind.wrap .i64 (48+(a.1.tmod 10))))])++a.2) λe1=>
  .ret (.next ((IntKind.wrap .i64 (a.1.tdiv 10)),e1)))<|
 .ret (.out a.2)
noncomputable def eS:iG.V→LW iG (Int×bu) ((bu)):=λ(v0,v1,_)=>⟨(v0,v1),λa=>(a.1,a.2,()),ng,Int.toNat v0,oN (.exit 0) ⟨[zu 2,zs 3],[]⟩ (λp=>(p,()))⟩
theorem nz {v0:Int}{v1:bu}(h0:0≤v0∧v0*10 ^ v1.length≤9223372036854775807∧v1.length≤19):(eS (v0,v1,())).W (λp=>p.length≤19):=
 LW.okW (a:=(v0,v1)) (λa=>0≤a.1∧a.1*10 ^ a.2.length≤9223372036854775807∧a.2.length≤19) (λa=>Int.toNat a.1) rfl h0 λ(v0,v1) hv=>by
  refine Tr.I (λb0=>Tr.Gb ?_ λg1=>Tr.V λe1 he1=>Tr.Rn ?_) λb0=>Tr.Ro ?_
  all_goals ((first|grind|(obtain⟨h1,h2,h3⟩:=hv;simp only[]at h1 h2 h3 he1;simp only[decide_eq_true_eq]at b0;have hq:(0:Int)<10 ^ v1.length:=Int.pow_pos (by omega);have hm:=Int.mul_le_mul_of_nonneg_left (show(1:Int)≤10 ^ v1.length by omega) h1;have h4:v0≤9223372036854775807:=(by omega);have e:IntKind.wrap .i64 (v0.tdiv 10)=v0/10:=(congrArg IntKind.i64.wrap ((xg 10).1 h1)).trans (bP (by omega) (by omega));have h5:v0/10*10 ^ (v1.length+1)≤v0*10 ^ v1.length:=(by rw[Int.pow_succ,Int.mul_comm (10 ^ v1.length) 10,←Int.mul_assoc];exact Int.mul_le_mul_of_nonneg_right (by omega) (Int.le_of_lt hq));have h6:v1.length≤18:=Classical.byContradiction λhh=>(by have h7:v1.length=19:=(by omega);rw[h7]at h2;omega);have h8:e1.length=v1.length+1:=(by rw[he1,List.length_append,jk];simp only[List.length_cons,List.length_nil];omega);simp only[e,h8];exact⟨⟨by omega,Int.le_trans h5 h2,by omega⟩,by omega⟩)))
noncomputable def aI:FT (Int×Unit) (bu) (λx=>x.1≤9223372036854775807) (λx v=>sS v):= .mk (λ(x0,_)=>
  .ite (decide (x0≤0)) (.ret [109,48])<|
  .lp (eS (x0,[],())).lp λp2a0=>
  .grd (Nat.ble (1+p2a0.length) gm)<|
  .ret ([109]++p2a0)) (tK @nz)
@[grind=] theorem Ag (m:Int):IntKind.wrap .i64 m=min (IntKind.wrap .i64 m) 9223372036854775807:=by rw[kN];omega
noncomputable def dl:=Ai st Tryz.func117 [(0,lb [0,3] [2,3])] [] 0 eS (ks:=[.sc (.int .i64)]) aI (λv=>[(false,[.c (.str v)])])
noncomputable def g9:FF (Sndr×Sndr×Unit) (Bool):=⟨λ(x0,x1,_)=>
  .ite (x0.una != x1.una) (.ret false)<|
  .ite (!(x0.data==x1.data)) (.ret false)<|
  .ite (x0.sent != x1.sent) (.ret false)<|
  .ite (!(x0.fin==x1.fin)) (.ret false)<|
  .ite (!(x0.finSent==x1.finSent)) (.ret false)<|
  .ite (!(x0.done==x1.done)) (.ret false)<|
  .ret true⟩
noncomputable def rc:=ma st Tryz.func158 [] (ks:=[.st .sndr,.st .sndr]) g9 rB
noncomputable def eG:FF (Opti×Opti×Unit) (Bool):=⟨λ(x0,x1,_)=>
  .ite (x0.mss != x1.mss) (.ret false)<|
  .ite (x0.scale != x1.scale) (.ret false)<|
  .ite (!(x0.sack==x1.sack)) (.ret false)<|
  .ite (!(x0.stamp==x1.stamp)) (.ret false)<|
  .ite (x0.val != x1.val) (.ret false)<|
  .ite (x0.echo != x1.echo) (.ret false)<|
  .ret true⟩
noncomputable def kA:=ma st Tryz.func160 [] (ks:=[.st .opti,.st .opti]) eG rB
noncomputable def cp:FX (List Tupl×Int×Unit) (Int) (λ_=>True) (a8 [.sc (.sl .tupl),.sc (.int .i64)]):=⟨λ(x0,x1,_)=>
  .ite (decide ((IntKind.wrap .i64 (x1-(x0.length:Int)))<0)) (.ret (-1))<|
  .ret (IntKind.wrap .i64 (x1-(x0.length:Int))),
 λ(x0,x1,_) hp hf=>by
  simp only[a8,Pk.fact,dS,cK,Fl.fact,Ty.fl,Ty.toH]at hf
  refine Tr.F (by kernel_rfl) trivial⟩
theorem oy (xs:List Tupl)(k:Int)(h0:0≤k)(h1:k≤1048576)(hl:xs.length≤140737488355328)(h:0≤cp.f (xs,k,())):cp.f (xs,k,())≤k∧xs.length≤1048576:=by
 have w:IntKind.wrap .i64 (k-(xs.length:Int))=k-(xs.length:Int):=bP (by omega) (by omega)
 simp only[FX.f,cp,Tr.nice,w]at h⊢
 by_cases c:k-(xs.length:Int)<0
 ·rw[decide_eq_true c,cond_true]at h;omega
 ·rw[decide_eq_false c,cond_false];exact⟨by omega,by omega⟩
noncomputable def rr:=iT st Tryz.func164 [] (ks:=[.sc (.sl .tupl),.sc (.int .i64)]) cp rI
noncomputable def ap:FX (MacRow×Int×Unit) (Int) (λ_=>True) (a8 [.st .macRow,.sc (.int .i64)]):=⟨λ(x0,x1,_)=>
  .ite (decide ((IntKind.wrap .i64 (x1-(x0.input.length:Int)))<0)) (.ret (-1))<|
  .ret (IntKind.wrap .i64 (x1-(x0.input.length:Int))),
 λ(x0,x1,_) hp hf=>by
  simp only[a8,Pk.fact,dS,cK,Fl.fact,Ty.fl,Ty.toH]at hf
  refine Tr.F (by kernel_rfl) trivial⟩
theorem ud (x:MacRow)(k:Int)(h0:0≤k)(h1:k≤1048576)(hl:x.input.length≤4611686018427387904)(h:0≤ap.f (x,k,())):ap.f (x,k,())≤k∧x.input.length≤1048576:=by
 have w:IntKind.wrap .i64 (k-(x.input.length:Int))=k-(x.input.length:Int):=bP (by omega) (by omega)
 simp only[FX.f,ap,Tr.nice,w]at h⊢
 by_cases c:k-(x.input.length:Int)<0
 ·rw[decide_eq_true c,cond_true]at h;omega
 ·rw[decide_eq_false c,cond_false];exact⟨by omega,by omega⟩
noncomputable def qU:=iT st Tryz.func165 [] (ks:=[.st .macRow,.sc (.int .i64)]) ap rI
noncomputable def ev:FT (Mac×Unit) (Mac) (λx=>aX x.1) (λx v=>aX v∧v=x.1):=⟨λ(x0,_)=>
  .grd (Nat.ble ((2*(0+x0.rows.length)+1024)*24) aq)<|
  .ret ({x0 with rows:=([]++x0.rows)}:Mac),
 λ(x0,_) hp=>by
  refine Tr.Gb ?_ λg0=>Tr.R ?_
  all_goals ((first|grind|(refine⟨by grind, ?_⟩;first|(simp only[List.nil_append];done)|(subst_vars;rfl)|simp_all)))⟩
noncomputable def m8:=cY st Tryz.func170 [] (ks:=[.st .mac]) ev (λv=>[(true,wB (.o true) v)])
noncomputable def lE:FF (Half×Unit) (Half):=⟨λ(x0,_)=>
  .val (fA.f (x0.tuple,())) λc1=>
  .val (eL.f (x0.opts,())) λc2=>
  .ret (⟨c1,x0.iss,x0.irs,c2,x0.age,x0.window⟩:Half)⟩
noncomputable def uT:=ma bH Tryz.func171 [jx,kj] (ks:=[.st .half]) lE (λv=>[(true,zG v)])
def il:Sh:=⟨[zl 0 .tupl,zo 3 0,zi 4],[za .tupl]⟩
noncomputable def iq (v0:List Tupl)(v1:Int)(a:List Tupl):Tr (Stp (List Tupl) (Empty)):=
 .grd (bk v0 v1)<|
 .val (fA.f ((v0.getD v1.toNat (Ty.zero .tupl)),())) λc1=>
 .grd (bk a v1)<|
 .ret (.next (a.set v1.toNat c1))
noncomputable def cA:il.V→wi il (List Tupl):=λ(v0,v1,v2,_)=>⟨v1,v2,λv1 a=>(v0,v1,a,()),λv1 _=>(decide (v1<(v0.length:Int))),iq v0,up,1,(Int.toNat ((v0.length:Int)-v1)),Empty.elim,Prod.mk,oN (.exit 0) ⟨[zu 2,zo 3 0],[za .tupl]⟩ (λx=>(x.2,()))⟩
theorem nA {v0 v2:List Tupl}{v1:Int}(h0:0≤v1)(h1:(v0.length:Int)≤4611686018427387904)(h2:sS v0)(h3:sS v2)(h4:v2.length=v2.length∧(v0.length:Int)≤(v2.length:Int)):(cA (v0,v1,v2,())).U (v0.length:Int) (λv1 a=>a.length=v2.length∧(v0.length:Int)≤(a.length:Int)) (λ_=>True):=
 nb (a:=v2) h0 h1 h4
noncomputable def gW:FT (List Tupl×Unit) (List Tupl) (λx=>sS x.1) (λx v=>sS v):=⟨λ(x0,_)=>
  .grd ((((decide (0≤(x0.length:Int)))&&(decide ((x0.length:Int)=(x0.length:Int))))&&(decide ((x0.length:Int)*24≤(aq:Int))))&&(decide ((x0.length:Int)≤(aq:Int))))<|
  .lp (cA (x0,0,(List.replicate ((x0.length:Int).toNat) (⟨0,0,0⟩:Tupl)),())).lp λ(_,a2_0)=>
  .ret a2_0,
 λ(x0,_) hp=>by
  refine Tr.G4 ?_ λ_=>Tr.L (nA ?_ ?_ ?_ ?_ ?_) (λa2_0 _=>Tr.R ?_) (λp=>Empty.elim p)
  all_goals ((try simp only[cA,LC.lp,LC.ct,Ct.lp]at*)<;>grind)⟩
noncomputable def qQ:=gM bH Tryz.func173 [(0,lb [0,3,4] [2,3])] [jx] 0 cA (ks:=[.sc (.sl .tupl)]) gW (λv=>[(false,[sc (.o true) .tupl v])])
noncomputable def kS:FT (MacRow×Unit) (MacRow) (λx=>af x.1) (λx v=>af v):= .mk λ(x0,_)=>
  .ret x0
noncomputable def rF:=cY bH Tryz.func174 [] (ks:=[.st .macRow]) kS (λv=>[(true,xe v)])
noncomputable def fw:FT (List Half×Unit) (List Half) (λx=>sS x.1) (λx v=>v=x.1):=⟨λx=> .ret x.1,λ_ _=>Tr.R rfl⟩
theorem nW (x:List Half×Unit)(hp:sS x.1):p9 Tryz.prog 176 (pD [.sc (.sl .half)] x) ((λv=>[rv (.sc (.sl .half)) [.o true] v]) (fw.f x)):=by
 refine p9.byNil (t:= .half) (xs:=x.1) (λh=> ?_) ?_
 ·obtain⟨x,_⟩:=x;subst h
  exact yF st Tryz.func176 (by kernel_rfl) (by kernel_rfl)
 ·exact yF st Tryz.func176 (by kernel_rfl) (Eq.trans (b:=bif Nat.ble ((2*(0+x.1.length)+1024)*96) aq then some ((λv=>[rv (.sc (.sl .half)) [.o true] v]) x.1)else none) (by kernel_rfl) (by rw[show Nat.ble ((2*(0+x.1.length)+1024)*96) aq=true by simp only[Nat.ble_eq,aq];simp only[sS]at hp;omega];rfl))
noncomputable def n6:Ent1 Tryz.prog:=xM 176 (ks:=[.sc (.sl .half)]) fw.c (λv=>[rv (.sc (.sl .half)) [.o true] v]) nW
noncomputable def lg:FF (Half×Half×Unit) (Bool):=⟨λ(x0,x1,_)=>
  .val (fB.f (x0.tuple,x1.tuple,())) λc1=>
  .ite (!c1) (.ret false)<|
  .ite (x0.iss != x1.iss) (.ret false)<|
  .ite (x0.irs != x1.irs) (.ret false)<|
  .val (eG.f (x0.opts,x1.opts,())) λc2=>
  .ite (!c2) (.ret false)<|
  .ite (x0.age != x1.age) (.ret false)<|
  .ite (x0.window != x1.window) (.ret false)<|
  .ret true⟩
noncomputable def uP:=ma st Tryz.func181 [jr,kA] (ks:=[.st .half,.st .half]) lg rB
def iC:Sh:=⟨[zl 0 .tupl,zl 1 .tupl,zi 5],[]⟩
noncomputable def iu (v0 v1:List Tupl)(v2:Int)(a:Unit):Tr (Stp (Unit) ((Unit))):=
 .grd (bk v0 v2)<|
 .grd (bk v1 v2)<|
 .val (fB.f ((v0.getD v2.toNat (Ty.zero .tupl)),(v1.getD v2.toNat (Ty.zero .tupl)),())) λc1=>
 .ite (!c1) (.ret (.out ()))<|
 .ret (.next ())
noncomputable def dJ:iC.V→rg iC Unit (Unit):=λ(v0,v1,v2,_)=>⟨v2,(),λv2 _=>(v0,v1,v2,()),λv2 _=>(decide (v2<(v0.length:Int))),iu v0 v1,up,1,(Int.toNat ((v0.length:Int)-v2)),.inl,eR,oB .ret ⟨[zb 4],[]⟩ (λ_=>(false,())) (.exit 0) ⟨[zu 4],[]⟩ (λ_=>())⟩
theorem nm {v0 v1:List Tupl}{v2:Int}(h0:0≤v2)(h1:(v0.length:Int)≤4611686018427387904)(h2:(v0.length:Int)≤(v1.length:Int)):(dJ (v0,v1,v2,())).U (v0.length:Int) (λ_ _=>True) (λ_=>True):=
 nb h0 h1 trivial
noncomputable def gP:FT (List Tupl×List Tupl×Unit) (Bool) (λx=>sS x.1∧sS x.2.1) (λ_ _=>True):= .mk (λ(x0,x1,_)=>
  .ite ((x0.length:Int) != (x1.length:Int)) (.ret false)<|
  .lp (dJ (x0,x1,0,())).lp λw2=> .sum w2 (λ_=>
  .ret false)<|
  λ_=>
  .ret true) (tK @nm)
noncomputable def rP:=gM st Tryz.func183 [(0,lb [0,1,5] [4])] [jr] 0 dJ (ks:=[.sc (.sl .tupl),.sc (.sl .tupl)]) gP rB
noncomputable def gS:FF (MacRow×MacRow×Unit) (Bool):=⟨λ(x0,x1,_)=>
  .ite (!(x0.input==x1.input)) (.ret false)<|
  .ite (x0.value != x1.value) (.ret false)<|
  .ret true⟩
noncomputable def rD:=ma st Tryz.func184 [] (ks:=[.st .macRow,.st .macRow]) gS rB
noncomputable def jh:List (Ent1 Tryz.prog):=[]
def cP:Sh:=⟨[zo 0 0,zi 1,zi 5],[.arr .tupl false false]⟩
noncomputable def jd:Fx:=⟨186,Tryz.f186,[(0,la ⟨[0,1,5],[],false,1⟩ ⟨[1,4],[],false,1⟩)],1⟩
noncomputable def cJ (v1:Int)(a:Int×List Tupl):Tr (Stp (Int×List Tupl) (Empty)):=
 .grd (bk a.2 v1)<|
 .grd ((decide (0≤v1))&&(decide (v1<((a.2.set v1.toNat ({(a.2.getD v1.toNat (Ty.zero .tupl))with ip:=a.1}:Tupl)).length:Int))))<|
 .val ((a.2.set v1.toNat ({(a.2.getD v1.toNat (Ty.zero .tupl))with ip:=a.1}:Tupl)).set v1.toNat ({((a.2.set v1.toNat ({(a.2.getD v1.toNat (Ty.zero .tupl))with ip:=a.1}:Tupl)).getD v1.toNat (Ty.zero .tupl))with port:=(IntKind.wrap .i64 (a.1+1))}:Tupl)) λl1=>
 .grd (bk l1 v1)<|
 .val (l1.set v1.toNat ({(l1.getD v1.toNat (Ty.zero .tupl))with my:=(IntKind.wrap .i64 ((IntKind.wrap .i64 (a.1+1))+1))}:Tupl)) λl2=>
 .val (IntKind.wrap .i64 ((IntKind.wrap .i64 ((IntKind.wrap .i64 (a.1+1))+1))+1)) λe3=>
 .ret (.next (e3,l2))
noncomputable def az:cP.V→wi cP (Int×List Tupl):=λ(v0,v1,v2,_)=>⟨v1,(v0,v2),λv1 a=>(a.1,v1,a.2,()),λv1 a=>(decide (v1<(a.2.length:Int))),cJ,up,1,(Int.toNat ((v2.length:Int)-v1)),Empty.elim,Prod.mk,oN (.exit 0) ⟨[zi 1,zu 4],[.arr .tupl false false]⟩ (λx=>(x.2.1,x.2.2,()))⟩
theorem lN:LS Tryz.prog jd [0] (m6 0 cP az):=iJ st (bC jh) _ az [] trivial
theorem lC {v0 v1:Int}{v2:List Tupl}(h0:0≤v1)(h1:(v2.length:Int)≤4611686018427387904)(h2:sS v2)(h3:v2.length=v2.length∧v0≤9223372036854775807):(az (v0,v1,v2,())).S (λv1 a=>a.2.length=v2.length∧a.2.length=v2.length∧a.1≤9223372036854775807) (λ_=>True):=by
 refine LC.okS ⟨rfl,h3⟩ (λj a hj hv=>⟨⟨?_, ?_⟩, ?_⟩) (λa hv=> ?_)
 ·simp only[az,decide_eq_true_eq]at*;omega
 ·simp only[az]at*;exact zO (by omega) (by omega)
 ·refine Tr.G2 ?_ λ_=>Tr.G2 ?_ λ_=>Tr.V λ_ _=>Tr.G2 ?_ λ_=>Tr.V λ_ _=>Tr.V λ_ _=>Tr.Rn ?_
  all_goals (try simp only[az]at*)<;>(grind)
 ·simp only[az,decide_eq_false_iff_not]at*;omega
noncomputable def fp:FT (List Tupl×Int×Unit) (Int×List Tupl) (λx=>sS x.1∧x.2.1≤9223372036854775807) (λx v=>sS v.2∧v.1≤9223372036854775807):=⟨λ(x0,x1,_)=>
  .lp (az (x1,0,x0,())).lp λ(_,a4_0,a4_1)=>
  .ret (a4_0,a4_1),
 λ(x0,x1,_) hp=>by
  refine Tr.L (lC ?_ ?_ ?_ ?_) (λ(a4_0,a4_1) _=>Tr.R ?_) (λp=>Empty.elim p)
  all_goals ((try simp only[az,LC.lp,LC.ct,Ct.lp]at*)<;>grind)⟩
noncomputable def oG:=nl st jd jh [(m6 0 cP az)] [.wr false [.own 0],.sc (.int .i64)] [.arr .tupl] (λx y=>(y.1,x.2.1,())) fp (λv=>[(false,[.c (.int .i64 v.1)])]) (λx y v=>(v.2,())) Tryz.func186 (by kernel_rfl) ⟨lN,trivial⟩
def f6:Sh:=⟨[zl 0 .tupl,zi 1,zi 5],[]⟩
noncomputable def cM (v0:List Tupl)(v2:Int)(a:Int):Tr (Stp (Int) ((Int))):=
 .grd (bk v0 v2)<|
 .ite ((v0.getD v2.toNat (Ty.zero .tupl)).ip != a) (.ret (.out a))<|
 .grd (bk v0 v2)<|
 .ite ((v0.getD v2.toNat (Ty.zero .tupl)).port != (IntKind.wrap .i64 (a+1))) (.ret (.out (IntKind.wrap .i64 (a+1))))<|
 .grd (bk v0 v2)<|
 .ite ((v0.getD v2.toNat (Ty.zero .tupl)).my != (IntKind.wrap .i64 ((IntKind.wrap .i64 (a+1))+1))) (.ret (.out (IntKind.wrap .i64 ((IntKind.wrap .i64 (a+1))+1))))<|
 .val (IntKind.wrap .i64 ((IntKind.wrap .i64 ((IntKind.wrap .i64 (a+1))+1))+1)) λe1=>
 .ret (.next e1)
noncomputable def cH:f6.V→rg f6 Int (Int):=λ(v0,v1,v2,_)=>⟨v2,v1,λv2 a=>(v0,a,v2,()),λv2 _=>(decide (v2<(v0.length:Int))),cM v0,up,1,(Int.toNat ((v0.length:Int)-v2)),.inl,eR,oB .ret ⟨[zi 1,zi 4],[]⟩ (λp=>(p,(-1),())) (.exit 0) ⟨[zi 1,zu 4],[]⟩ (λx=>(x.2,()))⟩
theorem lz {v0:List Tupl}{v1 v2:Int}(h0:0≤v2)(h1:(v0.length:Int)≤4611686018427387904)(h2:v1≤9223372036854775807):(cH (v0,v1,v2,())).U (v0.length:Int) (λv2 a=>a≤9223372036854775807) (λ_=>True):=
 nb (a:=v1) h0 h1 h2
noncomputable def fi:FT (List Tupl×Int×Unit) (Int) (λx=>sS x.1∧x.2.1≤9223372036854775807) (λx v=>v≤9223372036854775807):= .mk (λ(x0,x1,_)=>
  .lp (cH (x0,x1,0,())).lp λw2=> .sum w2 (λ_=>
  .ret (-1))<|
  λ(_,a2_0)=>
  .ret a2_0) (tK @lz)
noncomputable def py:=gM st Tryz.func189 [(0,lb [0,1,5] [1,4])] [] 0 cH (ks:=[.sc (.sl .tupl),.sc (.int .i64)]) fi rI
noncomputable def fD:FF (Int×Int×Int×Unit) (Bool):=⟨λ(x0,x1,x2,_)=>
  .ite (decide (x1≤x0)) (.ret (decide (x0≤x2)))<|
  .ret false⟩
@[grind=] theorem jy (x0 x1 x2:Int):fD.f (x0,x1,x2,())=(decide (x1≤x0)&&decide (x0≤x2)):=by
 simp only[fD,FF.f,Tr.nice]
 cases decide (x1≤x0)<;>rfl
noncomputable def kW:=ma bH Tryz.func206 [] (ks:=[.sc (.int .i64),.sc (.int .i64),.sc (.int .i64)]) fD rB
noncomputable def mz:FF (Int×Int×Int×Unit) (Bool):=⟨λ(x0,x1,x2,_)=>
  .ite (decide (x1≤x0)) (.ret (decide (x0≤x2)))<|
  .ret false⟩
@[grind=] theorem qx (x0 x1 x2:Int):mz.f (x0,x1,x2,())=(decide (x1≤x0)&&decide (x0≤x2)):=by
 simp only[mz,FF.f,Tr.nice]
 cases decide (x1≤x0)<;>rfl
noncomputable def rV:=ma st Tryz.func244 [] (ks:=[.sc (.int .i64),.sc (.int .i64),.sc (.int .i64)]) mz rB
noncomputable def j7:FT (Recv×Unit) (Recv) (λx=>dI x.1) (λx v=>dI v∧v=x.1):=⟨λ(x0,_)=>
  .grd (Nat.ble ((2*(0+x0.held.length)+1024)*24) aq)<|
  .ret ({x0 with held:=([]++x0.held)}:Recv),
 λ(x0,_) hp=>by
  refine Tr.Gb ?_ λg0=>Tr.R ?_
  all_goals ((first|grind|(refine⟨by grind, ?_⟩;first|(simp only[List.nil_append];done)|(subst_vars;rfl)|simp_all)))⟩
noncomputable def sD:=cY st Tryz.func271 [] (ks:=[.st .recv]) j7 (λv=>[(true,tS (.o true) v)])
noncomputable def jc:=[dl]
def cQ:Sh:=⟨[zo 0 0,zi 1,zi 5],[.arr .piec false false]⟩
noncomputable def iU:Fx:=⟨274,Tryz.f274,[(0,la ⟨[0,1,5],[],false,1⟩ ⟨[1,4],[],false,1⟩)],1⟩
noncomputable def cI (v1:Int)(a:Int×List Piec):Tr (Stp (Int×List Piec) (Empty)):=
 .grd (bk a.2 v1)<|
 .cal aI.c ((IntKind.wrap .i64 (a.1+1)),()) λc1=>
 .grd ((decide (0≤v1))&&(decide (v1<((a.2.set v1.toNat (⟨a.1,(a.2.getD v1.toNat (Ty.zero .piec)).text⟩:Piec)).length:Int))))<|
 .val ((a.2.set v1.toNat (⟨a.1,(a.2.getD v1.toNat (Ty.zero .piec)).text⟩:Piec)).set v1.toNat (⟨((a.2.set v1.toNat (⟨a.1,(a.2.getD v1.toNat (Ty.zero .piec)).text⟩:Piec)).getD v1.toNat (Ty.zero .piec)).off,c1⟩:Piec)) λl2=>
 .ret (.next ((IntKind.wrap .i64 ((IntKind.wrap .i64 (a.1+1))+1)),l2))
noncomputable def ay:cQ.V→wi cQ (Int×List Piec):=λ(v0,v1,v2,_)=>⟨v1,(v0,v2),λv1 a=>(a.1,v1,a.2,()),λv1 a=>(decide (v1<(a.2.length:Int))),cI,up,1,(Int.toNat ((v2.length:Int)-v1)),Empty.elim,Prod.mk,oN (.exit 0) ⟨[zi 1,zu 4],[.arr .piec false false]⟩ (λx=>(x.2.1,x.2.2,()))⟩
theorem lV:LS Tryz.prog iU [0] (m6 0 cQ ay):=iJ st (bC jc) _ ay [] trivial
theorem ly {v0 v1:Int}{v2:List Piec}(h0:0≤v1)(h1:(v2.length:Int)≤4611686018427387904)(h2:sL aQ v2)(h3:v2.length=v2.length∧cW aQ v2∧v0≤9223372036854775807):(ay (v0,v1,v2,())).S (λv1 a=>a.2.length=v2.length∧a.2.length=v2.length∧cW aQ a.2∧a.1≤9223372036854775807) (λ_=>True):=by
 refine LC.okS ⟨rfl,h3⟩ (λj a hj hv=>⟨⟨?_, ?_⟩, ?_⟩) (λa hv=> ?_)
 ·simp only[ay,decide_eq_true_eq]at*;omega
 ·simp only[ay]at*;exact zO (by omega) (by omega)
 ·refine Tr.G2 ?_ λ_=>Tr.C ?_ λ_ _ _=>Tr.G2 ?_ λ_=>Tr.V λ_ _=>Tr.Rn ?_
  all_goals (try simp only[ay]at*)<;>(grind)
 ·simp only[ay,decide_eq_false_iff_not]at*;omega
noncomputable def fq:FT (List Piec×Int×Unit) (Int×List Piec) (λx=>sL aQ x.1∧x.2.1≤9223372036854775807) (λx v=>sL aQ v.2∧v.1≤9223372036854775807):=⟨λ(x0,x1,_)=>
  .lp (ay (x1,0,x0,())).lp λ(_,a3_0,a3_1)=>
  .ret (a3_0,a3_1),
 λ(x0,x1,_) hp=>by
  refine Tr.L (ly ?_ ?_ ?_ ?_) (λ(a3_0,a3_1) _=>Tr.R ?_) (λp=>Empty.elim p)
  all_goals ((try simp only[ay,LC.lp,LC.ct,Ct.lp]at*)<;>grind)⟩
noncomputable def pd:=nl st iU jc [(m6 0 cQ ay)] [.wr false [.own 0],.sc (.int .i64)] [.arr .piec] (λx y=>(y.1,x.2.1,())) fq (λv=>[(false,[.c (.int .i64 v.1)])]) (λx y v=>(v.2,())) Tryz.func274 (by kernel_rfl) ⟨lV,trivial⟩
def ga:Sh:=⟨[zl 0 .piec,zi 1,zi 5],[]⟩
noncomputable def cN (v0:List Piec)(v2:Int)(a:Int):Tr (Stp (Int) ((Int))):=
 .grd (bk v0 v2)<|
 .ite ((v0.getD v2.toNat (Ty.zero .piec)).off != a) (.ret (.out a))<|
 .grd (bk v0 v2)<|
 .cal aI.c ((IntKind.wrap .i64 (a+1)),()) λc1=>
 .ite (!((v0.getD v2.toNat (Ty.zero .piec)).text==c1)) (.ret (.out (IntKind.wrap .i64 (a+1))))<|
 .ret (.next (IntKind.wrap .i64 ((IntKind.wrap .i64 (a+1))+1)))
noncomputable def cG:ga.V→rg ga Int (Int):=λ(v0,v1,v2,_)=>⟨v2,v1,λv2 a=>(v0,a,v2,()),λv2 _=>(decide (v2<(v0.length:Int))),cN v0,up,1,(Int.toNat ((v0.length:Int)-v2)),.inl,eR,oB .ret ⟨[zi 1,zi 4],[]⟩ (λp=>(p,(-1),())) (.exit 0) ⟨[zi 1,zu 4],[]⟩ (λx=>(x.2,()))⟩
theorem lY {v0:List Piec}{v1 v2:Int}(h0:0≤v2)(h1:(v0.length:Int)≤4611686018427387904)(h2:sL aQ v0)(h3:v1≤9223372036854775807):(cG (v0,v1,v2,())).U (v0.length:Int) (λv2 a=>a≤9223372036854775807) (λ_=>True):=
 nb (a:=v1) h0 h1 h3
noncomputable def fv:FT (List Piec×Int×Unit) (Int) (λx=>sL aQ x.1∧x.2.1≤9223372036854775807) (λx v=>v≤9223372036854775807):= .mk (λ(x0,x1,_)=>
  .lp (cG (x0,x1,0,())).lp λw2=> .sum w2 (λ_=>
  .ret (-1))<|
  λ(_,a2_0)=>
  .ret a2_0) (tK @lY)
noncomputable def oC:=gM st Tryz.func275 [(0,lb [0,1,5] [1,4])] [dl] 0 cG (ks:=[.sc (.sl .piec),.sc (.int .i64)]) fv rI
def jB:Sh:=⟨[zp 2 0,zp 3 1,zi 5],[zg .mac,zg .mac]⟩
noncomputable def iV (v1 v2:Mac)(v0:Int)(a:Unit):Tr (Stp (Unit) ((Unit))):=
 .grd (bk v1.rows v0)<|
 .grd (bk v2.rows v0)<|
 .ite (!(((v1.rows.getD v0.toNat (Ty.zero .macRow)).input==(v2.rows.getD v0.toNat (Ty.zero .macRow)).input)&&(((v1.rows.getD v0.toNat (Ty.zero .macRow)).value==(v2.rows.getD v0.toNat (Ty.zero .macRow)).value)&&true))) (.ret (.out ()))<|
 .ret (.next ())
noncomputable def d7:jB.V→rg jB Unit (Unit):=λ(v0,v1,v2,_)=>⟨v0,(),λv0 _=>(v0,v1,v2,()),λv0 _=>(decide (v0<(v1.rows.length:Int))),iV v1 v2,up,1,(Int.toNat ((v1.rows.length:Int)-v0)),.inl,eR,oB .ret ⟨[zb 4],[]⟩ (λ_=>(false,())) (.exit 0) ⟨[zu 4],[]⟩ (λ_=>())⟩
theorem pe {v0:Int}{v1 v2:Mac}(h0:0≤v0)(h1:(v1.rows.length:Int)≤4611686018427387904)(h2:(v1.rows.length:Int)≤(v2.rows.length:Int)):(d7 (v0,v1,v2,())).U (v1.rows.length:Int) (λ_ _=>True) (λ_=>True):=
 nb h0 h1 trivial
noncomputable def jL:FT (Mac×Mac×Unit) (Bool) (λx=>aX x.1∧aX x.2.1) (λ_ _=>True):= .mk (λ(x0,x1,_)=>
  .bnd (β:=Bool×Unit) (.ite (!(x0.use==x1.use)) (.ret (true,()))<|
   .ite (x0.k != x1.k) (.ret (true,()))<|
   .ite (x0.l != x1.l) (.ret (true,()))<|
   .ret (((x0.rows.length:Int) != (x1.rows.length:Int)),())) λ(u1a0,_)=>
  .ite u1a0 (.ret false)<|
  .lp (d7 (0,x0,x1,())).lp λw2=> .sum w2 (λ_=>
  .ret false)<|
  λ_=>
  .ret true) (tK @pe)
noncomputable def tE:=gM st Tryz.func277 [(0,lb [2,3,5] [4]),(3000001,rA 0 33)] [] 0 d7 (ks:=[.st .mac,.st .mac]) jL rB
noncomputable def eA:FT (List Tupl×Unit) (List Tupl) (λx=>sS x.1) (λx v=>v=x.1):=⟨λx=> .ret x.1,λ_ _=>Tr.R rfl⟩
theorem ny (x:List Tupl×Unit)(hp:sS x.1):p9 Tryz.prog 279 (pD [.sc (.sl .tupl)] x) ((λv=>[rv (.sc (.sl .tupl)) [.o true] v]) (eA.f x)):=by
 refine p9.byNil (t:= .tupl) (xs:=x.1) (λh=> ?_) ?_
 ·obtain⟨x,_⟩:=x;subst h
  exact yF st Tryz.func279 (by kernel_rfl) (by kernel_rfl)
 ·exact yF st Tryz.func279 (by kernel_rfl) (Eq.trans (b:=bif Nat.ble ((2*(0+x.1.length)+1024)*24) aq then some ((λv=>[rv (.sc (.sl .tupl)) [.o true] v]) x.1)else none) (by kernel_rfl) (by rw[show Nat.ble ((2*(0+x.1.length)+1024)*24) aq=true by simp only[Nat.ble_eq,aq];simp only[sS]at hp;omega];rfl))
noncomputable def nu:Ent1 Tryz.prog:=xM 279 (ks:=[.sc (.sl .tupl)]) eA.c (λv=>[rv (.sc (.sl .tupl)) [.o true] v]) ny
noncomputable def d8:FT (List MacRow×Unit) (List MacRow) (λx=>sS x.1) (λx v=>v=x.1):=⟨λx=> .ret x.1,λ_ _=>Tr.R rfl⟩
theorem mb (x:List MacRow×Unit)(hp:sS x.1):p9 Tryz.prog 283 (pD [.sc (.sl .macRow)] x) ((λv=>[rv (.sc (.sl .macRow)) [.o true] v]) (d8.f x)):=by
 refine p9.byNil (t:= .macRow) (xs:=x.1) (λh=> ?_) ?_
 ·obtain⟨x,_⟩:=x;subst h
  exact yF st Tryz.func283 (by kernel_rfl) (by kernel_rfl)
 ·exact yF st Tryz.func283 (by kernel_rfl) (Eq.trans (b:=bif Nat.ble ((2*(0+x.1.length)+1024)*24) aq then some ((λv=>[rv (.sc (.sl .macRow)) [.o true] v]) x.1)else none) (by kernel_rfl) (by rw[show Nat.ble ((2*(0+x.1.length)+1024)*24) aq=true by simp only[Nat.ble_eq,aq];simp only[sS]at hp;omega];rfl))
noncomputable def mH:Ent1 Tryz.prog:=xM 283 (ks:=[.sc (.sl .macRow)]) d8.c (λv=>[rv (.sc (.sl .macRow)) [.o true] v]) mb
def fP:Sh:=⟨[zl 0 .macRow,zi 1,zi 5],[]⟩
noncomputable def cz (v0:List MacRow)(v2:Int)(a:Int):Tr (Stp (Int) ((Int))):=
 .grd (bk v0 v2)<|
 .cal aI.c (a,()) λc1=>
 .ite (!((v0.getD v2.toNat (Ty.zero .macRow)).input==c1)) (.ret (.out a))<|
 .grd (bk v0 v2)<|
 .ite ((v0.getD v2.toNat (Ty.zero .macRow)).value != (IntKind.wrap .i64 (a+1))) (.ret (.out (IntKind.wrap .i64 (a+1))))<|
 .ret (.next (IntKind.wrap .i64 ((IntKind.wrap .i64 (a+1))+1)))
noncomputable def cy:fP.V→rg fP Int (Int):=λ(v0,v1,v2,_)=>⟨v2,v1,λv2 a=>(v0,a,v2,()),λv2 _=>(decide (v2<(v0.length:Int))),cz v0,up,1,(Int.toNat ((v0.length:Int)-v2)),.inl,eR,oB .ret ⟨[zi 1,zi 4],[]⟩ (λp=>(p,(-1),())) (.exit 0) ⟨[zi 1,zu 4],[]⟩ (λx=>(x.2,()))⟩
theorem kM {v0:List MacRow}{v1 v2:Int}(h0:0≤v2)(h1:(v0.length:Int)≤4611686018427387904)(h2:sL af v0)(h3:v1≤9223372036854775807):(cy (v0,v1,v2,())).U (v0.length:Int) (λv2 a=>a≤9223372036854775807) (λ_=>True):=
 nb (a:=v1) h0 h1 h3
noncomputable def eE:FT (List MacRow×Int×Unit) (Int) (λx=>sL af x.1∧x.2.1≤9223372036854775807) (λx v=>v≤9223372036854775807):= .mk (λ(x0,x1,_)=>
  .lp (cy (x0,x1,0,())).lp λw2=> .sum w2 (λ_=>
  .ret (-1))<|
  λ(_,a2_0)=>
  .ret a2_0) (tK @kM)
noncomputable def np:=gM st Tryz.func284 [(0,lb [0,1,5] [1,4])] [dl] 0 cy (ks:=[.sc (.sl .macRow),.sc (.int .i64)]) eE rI
noncomputable def eB:FT (List Piec×Unit) (List Piec) (λx=>sS x.1) (λx v=>v=x.1):=⟨λx=> .ret x.1,λ_ _=>Tr.R rfl⟩
theorem nt (x:List Piec×Unit)(hp:sS x.1):p9 Tryz.prog 343 (pD [.sc (.sl .piec)] x) ((λv=>[rv (.sc (.sl .piec)) [.o true] v]) (eB.f x)):=by
 refine p9.byNil (t:= .piec) (xs:=x.1) (λh=> ?_) ?_
 ·obtain⟨x,_⟩:=x;subst h
  exact yF st Tryz.func343 (by kernel_rfl) (by kernel_rfl)
 ·exact yF st Tryz.func343 (by kernel_rfl) (Eq.trans (b:=bif Nat.ble ((2*(0+x.1.length)+1024)*24) aq then some ((λv=>[rv (.sc (.sl .piec)) [.o true] v]) x.1)else none) (by kernel_rfl) (by rw[show Nat.ble ((2*(0+x.1.length)+1024)*24) aq=true by simp only[Nat.ble_eq,aq];simp only[sS]at hp;omega];rfl))
noncomputable def nw:Ent1 Tryz.prog:=xM 343 (ks:=[.sc (.sl .piec)]) eB.c (λv=>[rv (.sc (.sl .piec)) [.o true] v]) nt
noncomputable def jY:FF (Piec×Piec×Unit) (Bool):=⟨λ(x0,x1,_)=>
  .ite (x0.off != x1.off) (.ret false)<|
  .ite (!(x0.text==x1.text)) (.ret false)<|
  .ret true⟩
noncomputable def r7:=ma st Tryz.func344 [] (ks:=[.st .piec,.st .piec]) jY rB
noncomputable def cV:FX (Sndr×Int×Unit) (Int) (λ_=>True) (a8 [.st .sndr,.sc (.int .i64)]):=⟨λ(x0,x1,_)=>
  .ite (decide ((IntKind.wrap .i64 (x1-(x0.data.length:Int)))<0)) (.ret (-1))<|
  .ret (IntKind.wrap .i64 (x1-(x0.data.length:Int))),
 λ(x0,x1,_) hp hf=>by
  simp only[a8,Pk.fact,dS,cK,Fl.fact,Ty.fl,Ty.toH]at hf
  refine Tr.F (by kernel_rfl) trivial⟩
theorem uK (x:Sndr)(k:Int)(h0:0≤k)(h1:k≤1048576)(hl:x.data.length≤4611686018427387904)(h:0≤cV.f (x,k,())):cV.f (x,k,())≤k∧x.data.length≤1048576:=by
 have w:IntKind.wrap .i64 (k-(x.data.length:Int))=k-(x.data.length:Int):=bP (by omega) (by omega)
 simp only[FX.f,cV,Tr.nice,w]at h⊢
 by_cases c:k-(x.data.length:Int)<0
 ·rw[decide_eq_true c,cond_true]at h;omega
 ·rw[decide_eq_false c,cond_false];exact⟨by omega,by omega⟩
noncomputable def qY:=iT st Tryz.func345 [] (ks:=[.st .sndr,.sc (.int .i64)]) cV rI
noncomputable def gR:FT (Sndr×Unit) (Sndr) (λx=>j9 x.1) (λx v=>j9 v):= .mk λ(x0,_)=>
  .ret x0
noncomputable def rO:=cY bH Tryz.func347 [] (ks:=[.st .sndr]) gR (λv=>[(true,zd v)])
def eV:Sh:=⟨[zl 0 .macRow,zl 1 .macRow,zi 12,zi 13],[]⟩
noncomputable def fb (v0 v1:List MacRow)(v3:Int)(a:Unit):Tr (Stp (Unit) ((Unit))):=
 .grd (bk v0 v3)<|
 .grd (bk v1 v3)<|
 .ite (!(((v0.getD v3.toNat (Ty.zero .macRow)).input==(v1.getD v3.toNat (Ty.zero .macRow)).input)&&(((v0.getD v3.toNat (Ty.zero .macRow)).value==(v1.getD v3.toNat (Ty.zero .macRow)).value)&&true))) (.ret (.out ()))<|
 .ret (.next ())
noncomputable def b9:eV.V→rg eV Unit (Unit):=λ(v0,v1,v2,v3,_)=>⟨v3,(),λv3 _=>(v0,v1,v2,v3,()),λv3 _=>(decide (v3<v2)),fb v0 v1,up,1,(Int.toNat (v2-v3)),.inl,eR,oB .ret ⟨[zb 4],[]⟩ (λ_=>(false,())) (.exit 0) ⟨[zu 4],[]⟩ (λ_=>())⟩
theorem kf {v0 v1:List MacRow}{v2 v3:Int}(h0:0≤v3)(h1:v2≤4611686018427387904)(h2:v2≤(v0.length:Int))(h3:v2≤(v1.length:Int)):(b9 (v0,v1,v2,v3,())).U v2 (λ_ _=>True) (λ_=>True):=
 nb h0 h1 trivial
noncomputable def fE:FT (List MacRow×List MacRow×Unit) (Bool) (λx=>sL af x.1∧sL af x.2.1) (λ_ _=>True):= .mk (λ(x0,x1,_)=>
  .ite ((x0.length:Int) != (x1.length:Int)) (.ret false)<|
  .lp (b9 (x0,x1,(x0.length:Int),0,())).lp λw1=> .sum w1 (λ_=>
  .ret false)<|
  λ_=>
  .ret true) (tK @kf)
noncomputable def mc:=gM st Tryz.func349 [(0,lb [0,1,12,13] [4])] [] 0 b9 (ks:=[.sc (.sl .macRow),.sc (.sl .macRow)]) fE rB
noncomputable def bj:FX (Piec×Int×Unit) (Int) (λ_=>True) (a8 [.st .piec,.sc (.int .i64)]):=⟨λ(x0,x1,_)=>
  .ite (decide ((IntKind.wrap .i64 (x1-(x0.text.length:Int)))<0)) (.ret (-1))<|
  .ret (IntKind.wrap .i64 (x1-(x0.text.length:Int))),
 λ(x0,x1,_) hp hf=>by
  simp only[a8,Pk.fact,dS,cK,Fl.fact,Ty.fl,Ty.toH]at hf
  refine Tr.F (by kernel_rfl) trivial⟩
theorem eF {a e:Int}(h:0≤(bif decide (a<0)then-1 else e)):0≤a∧(bif decide (a<0)then-1 else e)=e:=by
 by_cases c:a<0
 ·rw[decide_eq_true c,cond_true]at h;omega
 ·rw[decide_eq_false c];exact⟨by omega,rfl⟩
theorem nG {T:Type}(F:T→Int→Int)(P:T→Prop):∀(r:List T) (j:Nat) (a b:Int),(∀x∈r,∀k,0≤k→k≤1048576→0≤F x k→F x k≤k∧P x)→0≤a→a≤1048576→dP (λ_ x a=>bif decide (F x a<0)then Stp.out (F x a)else Stp.next (F x a)) j r a= .next b→(0≤b∧b≤a)∧∀y∈r,P y
 |[],_,a,b,_,h0,h1,h=>by
  cases h
  exact⟨⟨h0,Int.le_refl _⟩,λy hy=>by cases hy⟩
 |x::r,j,a,b,hF,h0,h1,h=>by
  simp only[dP]at h
  by_cases c:F x a<0
  ·rw[decide_eq_true c,cond_true]at h;cases h
  ·rw[decide_eq_false c,cond_false]at h
   simp only[Stp.elim]at h
   obtain⟨h2,h3⟩:=hF x List.mem_cons_self a h0 h1 (by omega)
   obtain⟨h4,h5⟩:=nG F P r (j+1) _ b (λy hy=>hF y (List.mem_cons_of_mem _ hy)) (by omega) (by omega) h
   refine⟨⟨h4.1,by omega⟩,λy hy=> ?_⟩
   rcases List.mem_cons.1 hy with rfl|hy
   ·exact h3
   ·exact h5 y hy
theorem vy (x:Piec)(k:Int)(h0:0≤k)(h1:k≤1048576)(hl:x.text.length≤4611686018427387904)(h:0≤bj.f (x,k,())):bj.f (x,k,())≤k∧x.text.length≤1048576:=by
 have w:IntKind.wrap .i64 (k-(x.text.length:Int))=k-(x.text.length:Int):=bP (by omega) (by omega)
 simp only[FX.f,bj,Tr.nice,w]at h⊢
 by_cases c:k-(x.text.length:Int)<0
 ·rw[decide_eq_true c,cond_true]at h;omega
 ·rw[decide_eq_false c,cond_false];exact⟨by omega,by omega⟩
noncomputable def sg:=iT st Tryz.func400 [] (ks:=[.st .piec,.sc (.int .i64)]) bj rI
noncomputable def mp:FT (Piec×Unit) (Piec) (λx=>aQ x.1) (λx v=>aQ v):= .mk λ(x0,_)=>
  .ret x0
noncomputable def sX:=cY bH Tryz.func401 [] (ks:=[.st .piec]) mp (λv=>[(true,y7 v)])
noncomputable def kv:=[qU]
def dg:Sh:=⟨[zl 0 .macRow,zi 1,zi 5],[]⟩
noncomputable def kq:Fx:=⟨65,Tryz.f65,[(0,lb [0,1,5] [1,4])],0⟩
noncomputable def dd (v0:List MacRow)(v2:Int)(a:Int):Tr (Stp (Int) ((Int))):=
 .grd (bk v0 v2)<|
 .cal ap.c ((v0.getD v2.toNat (Ty.zero .macRow)),a,()) λc1=>
 .ite (decide (c1<0)) (.ret (.out c1))<|
 .ret (.next c1)
noncomputable def aY:dg.V→rg dg Int (Int):=λ(v0,v1,v2,_)=>⟨v2,v1,λv2 a=>(v0,a,v2,()),λv2 _=>(decide (v2<(v0.length:Int))),dd v0,up,1,(Int.toNat ((v0.length:Int)-v2)),.inl,eR,oB .ret ⟨[zi 1,zi 4],[]⟩ (λp=>(p,(-1),())) (.exit 0) ⟨[zi 1,zu 4],[]⟩ (λx=>(x.2,()))⟩
theorem mi:LS Tryz.prog kq [0] (m6 0 dg aY):=iJ st (bC kv) _ aY [] trivial
theorem mI {v0:List MacRow}{v1 v2:Int}(h0:0≤v2)(h1:(v0.length:Int)≤4611686018427387904):(aY (v0,v1,v2,())).U (v0.length:Int) (λ_ _=>True) (λ_=>True):=
 nb (a:=v1) h0 h1 trivial
noncomputable def a5:FX (List MacRow×Int×Unit) (Int) (λ_=>True) (a8 [.sc (.sl .macRow),.sc (.int .i64)]):=⟨λ(x0,x1,_)=>
  .ite (decide ((IntKind.wrap .i64 (x1-(x0.length:Int)))<0)) (.ret (-1))<|
  .lp (aY (x0,(IntKind.wrap .i64 (x1-(x0.length:Int))),0,())).lp λw2=> .sum w2 (λ_=>
  .ret (-1))<|
  λ(_,a2_0)=>
  .ret a2_0,
 λ(x0,x1,_) hp hf=>by
  simp only[a8,Pk.fact,dS,cK,Fl.fact,Ty.fl,Ty.toH]at hf
  refine Tr.I (λ_=>Tr.R trivial) λ_=>Tr.L (mI ?_ ?_) (λa2_0 _=>Tr.Sr (Tr.R trivial)) (λp2a0 _=>Tr.Sl (Tr.R trivial))
  all_goals ((try simp only[aY,LC.lp,LC.ct,Ct.lp]at*)<;>grind)⟩
theorem x8 (r:MacRow)(k:Int)(h0:0≤k)(h1:k≤1048576)(hr:r.input.length≤4611686018427387904):ap.f (r,k,())=bif decide (k-(r.input.length:Int)<0)then-1 else k-(r.input.length:Int):=by
 simp only[FX.f,ap,Tr.nice]
 rw[bP (by omega) (by omega)]
theorem mN:∀(r:List MacRow) (j:Nat) (a b:Int),0≤a→a≤1048576→(∀y∈r,y.input.length≤4611686018427387904)→dP (λ_ x a=>(bif decide (ap.f (x,a,())<0)then Stp.out (ap.f (x,a,()))else Stp.next (ap.f (x,a,())))) j r a= .next b→(0≤b∧b≤a)∧∀y∈r,y.input.length≤1048576
 |[],_,a,b,h0,h1,_,h=>by
  cases h
  exact⟨⟨h0,Int.le_refl _⟩,λy hy=>by cases hy⟩
 |x::r,j,a,b,h0,h1,hr,h=>by
  have hx:=hr x List.mem_cons_self
  have e:=x8 x a h0 h1 hx
  simp only[dP,e]at h
  by_cases c:a-(x.input.length:Int)<0
  ·rw[decide_eq_true c,cond_true]at h;cases h
  ·rw[decide_eq_false c,cond_false,decide_eq_false c,cond_false]at h
   simp only[Stp.elim]at h
   obtain⟨h2,h3⟩:=mN r (j+1) _ b (by omega) (by omega) (λy hy=>hr y (List.mem_cons_of_mem _ hy)) h
   refine⟨⟨h2.1,by omega⟩,λy hy=> ?_⟩
   rcases List.mem_cons.1 hy with rfl|hy
   ·omega
   ·exact h3 y hy
theorem rE (xs:List MacRow)(k:Int)(h0:0≤k)(h1:k≤1048576)(hl:xs.length≤140737488355328)(he:qN .macRow xs)(h:0≤a5.f (xs,k,())):sL af xs∧xs.length≤1048576:=by
 have hr:∀y∈xs,y.input.length≤4611686018427387904:=λy hy=>(he y hy (.str y.input) List.mem_cons_self).slen
 have w:IntKind.wrap .i64 (k-(xs.length:Int))=k-(xs.length:Int):=bP (by omega) (by omega)
 simp only[FX.f,PX,a5,aY,w,ax]at h
 by_cases c:k-(xs.length:Int)<0
 ·rw[decide_eq_true c,cond_true]at h;omega
 rw[decide_eq_false c,cond_false]at h
 rw[bI xs _ rfl (F:=λ_ x a=>(bif decide (ap.f (x,a,())<0)then Stp.out (ap.f (x,a,()))else Stp.next (ap.f (x,a,())))) (λj x a hx=>by
  simp only[PX,dd,al,getD_some hx])]at h
 cases hn:dP (λ_ x a=>(bif decide (ap.f (x,a,())<0)then Stp.out (ap.f (x,a,()))else Stp.next (ap.f (x,a,())))) 0 xs (k-(xs.length:Int))with
 |out p=>rw[hn]at h;simp only[Stp.elim]at h;omega
 |next b=>
  have:=mN xs 0 _ b (by omega) (by omega) hr hn
  refine⟨⟨by omega,λy hy=> ?_⟩,by omega⟩
  have:=this.2 y hy
  unfold af;omega
theorem r6 (xs:List MacRow)(k:Int)(h0:0≤k)(h1:k≤1048576)(hl:xs.length≤140737488355328)(he:qN .macRow xs)(h:0≤a5.f (xs,k,())):a5.f (xs,k,())≤k∧xs.length≤1048576∧cW af xs:=by
 have w:IntKind.wrap .i64 (k-(xs.length:Int))=k-(xs.length:Int):=bP (by omega) (by omega)
 simp only[FX.f,PX,a5,aY,w,ax]at h⊢
 by_cases c:k-(xs.length:Int)<0
 ·rw[decide_eq_true c,cond_true]at h;omega
 rw[decide_eq_false c,cond_false]at h⊢
 have hf:∀(j:Nat) x a,xs[j]? =some x→(dd xs (j:Int) a).nice=(bif decide (ap.f (x,a,())<0)then Stp.out (ap.f (x,a,()))else Stp.next (ap.f (x,a,()))):=λj x a hx=>by
  simp only[PX,dd,al,getD_some hx]
 rw[bI xs _ rfl (F:=λ_ x a=>(bif decide (ap.f (x,a,())<0)then Stp.out (ap.f (x,a,()))else Stp.next (ap.f (x,a,())))) hf]at h⊢
 cases hn:dP (λ_ x a=>(bif decide (ap.f (x,a,())<0)then Stp.out (ap.f (x,a,()))else Stp.next (ap.f (x,a,())))) 0 xs (k-(xs.length:Int))with
 |out p=>rw[hn]at h;simp only[Stp.elim]at h;omega
 |next b=>
  obtain⟨h2,h3⟩:=nG (λx a=>ap.f (x,a,())) af xs 0 _ b (λx hx k h0 h1 h=>(have h4:=ud x k h0 h1 (he x hx (.str x.input) List.mem_cons_self).slen h;⟨h4.1,(by unfold af;omega)⟩)) (by omega) (by omega) hn
  simp only[Stp.elim]
  exact⟨by omega,by omega,h3⟩
noncomputable def pG:=xl st kq kv [(m6 0 dg aY)] (ks:=[.sc (.sl .macRow),.sc (.int .i64)]) a5 rI Tryz.func65 ⟨mi,trivial⟩
def i3:Sh:=⟨[zl 0 .half,zo 3 0,zi 4],[za .half]⟩
noncomputable def ju (v0:List Half)(v1:Int)(a:List Half):Tr (Stp (List Half) (Empty)):=
 .grd (bk v0 v1)<|
 .val (lE.f ((v0.getD v1.toNat (Ty.zero .half)),())) λc2=>
 .grd (bk a v1)<|
 .ret (.next (a.set v1.toNat c2))
noncomputable def cT:i3.V→wi i3 (List Half):=λ(v0,v1,v2,_)=>⟨v1,v2,λv1 a=>(v0,v1,a,()),λv1 _=>(decide (v1<(v0.length:Int))),ju v0,up,1,(Int.toNat ((v0.length:Int)-v1)),Empty.elim,Prod.mk,oN (.exit 0) ⟨[zu 2,zo 3 0],[za .half]⟩ (λx=>(x.2,()))⟩
theorem oc {v0 v2:List Half}{v1:Int}(h0:0≤v1)(h1:(v0.length:Int)≤4611686018427387904)(h2:sS v0)(h3:sS v2)(h4:v2.length=v2.length∧(v0.length:Int)≤(v2.length:Int)):(cT (v0,v1,v2,())).U (v0.length:Int) (λv1 a=>a.length=v2.length∧(v0.length:Int)≤(a.length:Int)) (λ_=>True):=
 nb (a:=v2) h0 h1 h4
noncomputable def jM:FT (List Half×Unit) (List Half) (λx=>sS x.1) (λx v=>sS v):=⟨λ(x0,_)=>
  .grd ((((decide (0≤(x0.length:Int)))&&(decide ((x0.length:Int)=(x0.length:Int))))&&(decide ((x0.length:Int)*96≤(aq:Int))))&&(decide ((x0.length:Int)≤(aq:Int))))<|
  .val (List.replicate ((x0.length:Int).toNat) (⟨⟨0,0,0⟩,0,0,⟨0,0,false,false,0,0⟩,0,0⟩:Half)) λl1=>
  .lp (cT (x0,0,l1,())).lp λ(_,a3_0)=>
  .ret a3_0,
 λ(x0,_) hp=>by
  refine Tr.G4 ?_ λ_=>Tr.V λ_ _=>Tr.L (oc ?_ ?_ ?_ ?_ ?_) (λa3_0 _=>Tr.R ?_) (λp=>Empty.elim p)
  all_goals ((try simp only[cT,LC.lp,LC.ct,Ct.lp]at*)<;>grind)⟩
noncomputable def ta:=gM bH Tryz.func70 [(0,lb [0,3,4] [2,3])] [uT] 0 cT (ks:=[.sc (.sl .half)]) jM (λv=>[(false,[sc (.o true) .half v])])
def gI:Sh:=⟨[zl 0 .macRow,zo 3 0,zi 4],[za .macRow]⟩
noncomputable def gH (v0:List MacRow)(v1:Int)(a:List MacRow):Tr (Stp (List MacRow) (Empty)):=
 .grd (bk v0 v1)<|
 .cal kS.c ((v0.getD v1.toNat (Ty.zero .macRow)),()) λc1=>
 .grd (bk a v1)<|
 .ret (.next (a.set v1.toNat c1))
noncomputable def cg:gI.V→wi gI (List MacRow):=λ(v0,v1,v2,_)=>⟨v1,v2,λv1 a=>(v0,v1,a,()),λv1 _=>(decide (v1<(v0.length:Int))),gH v0,up,1,(Int.toNat ((v0.length:Int)-v1)),Empty.elim,Prod.mk,oN (.exit 0) ⟨[zu 2,zo 3 0],[za .macRow]⟩ (λx=>(x.2,()))⟩
theorem mA {v0 v2:List MacRow}{v1:Int}(h0:0≤v1)(h1:(v0.length:Int)≤4611686018427387904)(h2:sL af v0)(h3:sL af v2)(h4:v2.length=v2.length∧cW af v2∧(v0.length:Int)≤(v2.length:Int)):(cg (v0,v1,v2,())).U (v0.length:Int) (λv1 a=>a.length=v2.length∧cW af a∧(v0.length:Int)≤(a.length:Int)) (λ_=>True):=
 nb (a:=v2) h0 h1 h4
noncomputable def f5:FT (List MacRow×Unit) (List MacRow) (λx=>sL af x.1) (λx v=>sL af v):=⟨λ(x0,_)=>
  .grd ((((decide (0≤(x0.length:Int)))&&(decide ((x0.length:Int)=(x0.length:Int))))&&(decide ((x0.length:Int)*24≤(aq:Int))))&&(decide ((x0.length:Int)≤(aq:Int))))<|
  .lp (cg (x0,0,(List.replicate ((x0.length:Int).toNat) (⟨[],0⟩:MacRow)),())).lp λ(_,a2_0)=>
  .ret a2_0,
 λ(x0,_) hp=>by
  refine Tr.G4 ?_ λ_=>Tr.L (mA ?_ ?_ ?_ ?_ ?_) (λa2_0 _=>Tr.R ?_) (λp=>Empty.elim p)
  all_goals ((try simp only[cg,LC.lp,LC.ct,Ct.lp]at*)<;>grind)⟩
noncomputable def pT:=gM bH Tryz.func72 [(0,lb [0,3,4] [2,3])] [rF] 0 cg (ks:=[.sc (.sl .macRow)]) f5 (λv=>[(false,[sc (.o true) .macRow v])])
def iL:Sh:=⟨[zl 0 .half,zl 1 .half,zi 5],[]⟩
noncomputable def je (v0 v1:List Half)(v2:Int)(a:Unit):Tr (Stp (Unit) ((Unit))):=
 .grd (bk v0 v2)<|
 .grd (bk v1 v2)<|
 .val (lg.f ((v0.getD v2.toNat (Ty.zero .half)),(v1.getD v2.toNat (Ty.zero .half)),())) λc1=>
 .ite (!c1) (.ret (.out ()))<|
 .ret (.next ())
noncomputable def ep:iL.V→rg iL Unit (Unit):=λ(v0,v1,v2,_)=>⟨v2,(),λv2 _=>(v0,v1,v2,()),λv2 _=>(decide (v2<(v0.length:Int))),je v0 v1,up,1,(Int.toNat ((v0.length:Int)-v2)),.inl,eR,oB .ret ⟨[zb 4],[]⟩ (λ_=>(false,())) (.exit 0) ⟨[zu 4],[]⟩ (λ_=>())⟩
theorem pt {v0 v1:List Half}{v2:Int}(h0:0≤v2)(h1:(v0.length:Int)≤4611686018427387904)(h2:(v0.length:Int)≤(v1.length:Int)):(ep (v0,v1,v2,())).U (v0.length:Int) (λ_ _=>True) (λ_=>True):=
 nb h0 h1 trivial
noncomputable def jU:FT (List Half×List Half×Unit) (Bool) (λx=>sS x.1∧sS x.2.1) (λ_ _=>True):= .mk (λ(x0,x1,_)=>
  .ite ((x0.length:Int) != (x1.length:Int)) (.ret false)<|
  .lp (ep (x0,x1,0,())).lp λw2=> .sum w2 (λ_=>
  .ret false)<|
  λ_=>
  .ret true) (tK @pt)
noncomputable def r9:=gM st Tryz.func77 [(0,lb [0,1,5] [4])] [uP] 0 ep (ks:=[.sc (.sl .half),.sc (.sl .half)]) jU rB
def gE:Sh:=⟨[zl 0 .macRow,zl 1 .macRow,zi 5],[]⟩
noncomputable def gq (v0 v1:List MacRow)(v2:Int)(a:Unit):Tr (Stp (Unit) ((Unit))):=
 .grd (bk v0 v2)<|
 .grd (bk v1 v2)<|
 .val (gS.f ((v0.getD v2.toNat (Ty.zero .macRow)),(v1.getD v2.toNat (Ty.zero .macRow)),())) λc1=>
 .ite (!c1) (.ret (.out ()))<|
 .ret (.next ())
noncomputable def dk:gE.V→rg gE Unit (Unit):=λ(v0,v1,v2,_)=>⟨v2,(),λv2 _=>(v0,v1,v2,()),λv2 _=>(decide (v2<(v0.length:Int))),gq v0 v1,up,1,(Int.toNat ((v0.length:Int)-v2)),.inl,eR,oB .ret ⟨[zb 4],[]⟩ (λ_=>(false,())) (.exit 0) ⟨[zu 4],[]⟩ (λ_=>())⟩
theorem mJ {v0 v1:List MacRow}{v2:Int}(h0:0≤v2)(h1:(v0.length:Int)≤4611686018427387904)(h2:(v0.length:Int)≤(v1.length:Int)):(dk (v0,v1,v2,())).U (v0.length:Int) (λ_ _=>True) (λ_=>True):=
 nb h0 h1 trivial
noncomputable def f4:FT (List MacRow×List MacRow×Unit) (Bool) (λx=>sL af x.1∧sL af x.2.1) (λ_ _=>True):= .mk (λ(x0,x1,_)=>
  .ite ((x0.length:Int) != (x1.length:Int)) (.ret false)<|
  .lp (dk (x0,x1,0,())).lp λw2=> .sum w2 (λ_=>
  .ret false)<|
  λ_=>
  .ret true) (tK @mJ)
noncomputable def pP:=gM st Tryz.func79 [(0,lb [0,1,5] [4])] [rD] 0 dk (ks:=[.sc (.sl .macRow),.sc (.sl .macRow)]) f4 rB
noncomputable def im:=[dl]
def cq:Sh:=⟨[zo 0 0,zi 1,zi 5],[.arr .macRow false false]⟩
noncomputable def io:Fx:=⟨83,Tryz.f83,[(0,la ⟨[0,1,5],[],false,1⟩ ⟨[1,4],[],false,1⟩)],1⟩
noncomputable def cu (v1:Int)(a:Int×List MacRow):Tr (Stp (Int×List MacRow) (Empty)):=
 .cal aI.c (a.1,()) λc1=>
 .grd (bk a.2 v1)<|
 .grd ((decide (0≤v1))&&(decide (v1<((a.2.set v1.toNat (⟨c1,(a.2.getD v1.toNat (Ty.zero .macRow)).value⟩:MacRow)).length:Int))))<|
 .val ((a.2.set v1.toNat (⟨c1,(a.2.getD v1.toNat (Ty.zero .macRow)).value⟩:MacRow)).set v1.toNat (⟨((a.2.set v1.toNat (⟨c1,(a.2.getD v1.toNat (Ty.zero .macRow)).value⟩:MacRow)).getD v1.toNat (Ty.zero .macRow)).input,(IntKind.wrap .i64 (a.1+1))⟩:MacRow)) λl2=>
 .ret (.next ((IntKind.wrap .i64 ((IntKind.wrap .i64 (a.1+1))+1)),l2))
noncomputable def aw:cq.V→wi cq (Int×List MacRow):=λ(v0,v1,v2,_)=>⟨v1,(v0,v2),λv1 a=>(a.1,v1,a.2,()),λv1 a=>(decide (v1<(a.2.length:Int))),cu,up,1,(Int.toNat ((v2.length:Int)-v1)),Empty.elim,Prod.mk,oN (.exit 0) ⟨[zi 1,zu 4],[.arr .macRow false false]⟩ (λx=>(x.2.1,x.2.2,()))⟩
theorem kR:LS Tryz.prog io [0] (m6 0 cq aw):=iJ st (bC im) _ aw [] trivial
theorem kL {v0 v1:Int}{v2:List MacRow}(h0:0≤v1)(h1:(v2.length:Int)≤4611686018427387904)(h2:sL af v2)(h3:v2.length=v2.length∧cW af v2∧v0≤9223372036854775807):(aw (v0,v1,v2,())).S (λv1 a=>a.2.length=v2.length∧a.2.length=v2.length∧cW af a.2∧a.1≤9223372036854775807) (λ_=>True):=by
 refine LC.okS ⟨rfl,h3⟩ (λj a hj hv=>⟨⟨?_, ?_⟩, ?_⟩) (λa hv=> ?_)
 ·simp only[aw,decide_eq_true_eq]at*;omega
 ·simp only[aw]at*;exact zO (by omega) (by omega)
 ·refine Tr.C ?_ λ_ _ _=>Tr.G2 ?_ λ_=>Tr.G2 ?_ λ_=>Tr.V λ_ _=>Tr.Rn ?_
  all_goals (try simp only[aw]at*)<;>(grind)
 ·simp only[aw,decide_eq_false_iff_not]at*;omega
noncomputable def eD:FT (List MacRow×Int×Unit) (Int×List MacRow) (λx=>sL af x.1∧x.2.1≤9223372036854775807) (λx v=>sL af v.2∧v.1≤9223372036854775807):=⟨λ(x0,x1,_)=>
  .lp (aw (x1,0,x0,())).lp λ(_,a3_0,a3_1)=>
  .ret (a3_0,a3_1),
 λ(x0,x1,_) hp=>by
  refine Tr.L (kL ?_ ?_ ?_ ?_) (λ(a3_0,a3_1) _=>Tr.R ?_) (λp=>Empty.elim p)
  all_goals ((try simp only[aw,LC.lp,LC.ct,Ct.lp]at*)<;>grind)⟩
noncomputable def nf:=nl st io im [(m6 0 cq aw)] [.wr false [.own 0],.sc (.int .i64)] [.arr .macRow] (λx y=>(y.1,x.2.1,())) eD (λv=>[(false,[.c (.int .i64 v.1)])]) (λx y v=>(v.2,())) Tryz.func83 (by kernel_rfl) ⟨kR,trivial⟩
noncomputable def bV:FT (Int×Int×Unit) (Bool) (λ_=>True) (λx v=>(x.2.1=32→(v=true↔0≤x.1∧x.1≤4294967295))∧(x.2.1=16→(v=true↔0≤x.1∧x.1≤65535))∧(x.2.1=48→(v=true↔0≤x.1∧x.1≤281474976710655))∧(x.2.1=8→(v=true↔0≤x.1∧x.1≤255))∧(x.2.1=6→(v=true↔0≤x.1∧x.1≤63))):=⟨λ(x0,x1,_)=>
  .val (mz.f (x1,1,62,())) λc1=>
  .ite c1 (.grd (decide (0≤(IntKind.wrap .u64 x1)))<|
   .val (IntKind.wrap .i64 ((IntKind.wrap .i64 (1*2 ^ (min (IntKind.wrap .u64 x1).toNat 64)))-1)) λe2=>
   .val (mz.f (x0,0,e2,())) λc3=>
   .ret c3)<|
  .ret false,
 λ(x0,x1,_) hp=>by
  refine Tr.V λ_ _=>Tr.I (λ_=>Tr.G1 ?_ λ_=>Tr.V λ_ _=>Tr.V λ_ _=>Tr.R ?_) λ_=>Tr.R ?_
  all_goals (grind [r8])⟩
@[grind=] theorem yK (x:Int):bV.f (x,32,())=(decide (0≤x)&&decide (x≤4294967295)):=by
 have h:=bV.c.h (x,32,()) trivial
 rw[Bool.eq_iff_iff]
 grind
@[grind=] theorem yL (x:Int):bV.f (x,16,())=(decide (0≤x)&&decide (x≤65535)):=by
 have h:=bV.c.h (x,16,()) trivial
 rw[Bool.eq_iff_iff]
 grind
@[grind=] theorem yo (x:Int):bV.f (x,48,())=(decide (0≤x)&&decide (x≤281474976710655)):=by
 have h:=bV.c.h (x,48,()) trivial
 rw[Bool.eq_iff_iff]
 grind
@[grind=] theorem yM (x:Int):bV.f (x,8,())=(decide (0≤x)&&decide (x≤255)):=by
 have h:=bV.c.h (x,8,()) trivial
 rw[Bool.eq_iff_iff]
 grind
@[grind=] theorem y2 (x:Int):bV.f (x,6,())=(decide (0≤x)&&decide (x≤63)):=by
 have h:=bV.c.h (x,6,()) trivial
 rw[Bool.eq_iff_iff]
 grind
noncomputable def uJ:=cY st Tryz.func132 [rV] (ks:=[.sc (.int .i64),.sc (.int .i64)]) bV rB
noncomputable def cd:FT (Int×Int×Unit) (Bool) (λ_=>True) (λx v=>(x.2.1=32→(v=true↔0≤x.1∧x.1≤4294967295))∧(x.2.1=16→(v=true↔0≤x.1∧x.1≤65535))∧(x.2.1=48→(v=true↔0≤x.1∧x.1≤281474976710655))∧(x.2.1=8→(v=true↔0≤x.1∧x.1≤255))∧(x.2.1=6→(v=true↔0≤x.1∧x.1≤63))):= .mk λ(x0,x1,_)=>
  .val (fD.f (x1,1,62,())) λc1=>
  .ite c1 (.grd (decide (0≤x1))<|
   .val (IntKind.wrap .i64 ((IntKind.wrap .i64 (1*2 ^ (min x1.toNat 64)))-1)) λe2=>
   .val (fD.f (x0,0,e2,())) λc3=>
   .ret c3)<|
  .ret false
@[grind=] theorem tk (x:Int):cd.f (x,32,())=(decide (0≤x)&&decide (x≤4294967295)):=by
 have h:=cd.c.h (x,32,()) trivial
 rw[Bool.eq_iff_iff]
 grind
@[grind=] theorem yE (x:Int):cd.f (x,16,())=(decide (0≤x)&&decide (x≤65535)):=by
 have h:=cd.c.h (x,16,()) trivial
 rw[Bool.eq_iff_iff]
 grind
@[grind=] theorem yH (x:Int):cd.f (x,48,())=(decide (0≤x)&&decide (x≤281474976710655)):=by
 have h:=cd.c.h (x,48,()) trivial
 rw[Bool.eq_iff_iff]
 grind
@[grind=] theorem yY (x:Int):cd.f (x,8,())=(decide (0≤x)&&decide (x≤255)):=by
 have h:=cd.c.h (x,8,()) trivial
 rw[Bool.eq_iff_iff]
 grind
@[grind=] theorem yX (x:Int):cd.f (x,6,())=(decide (0≤x)&&decide (x≤63)):=by
 have h:=cd.c.h (x,6,()) trivial
 rw[Bool.eq_iff_iff]
 grind
noncomputable def yO:=cY bH Tryz.func137 [kW] (ks:=[.sc (.int .i64),.sc (.int .i64)]) cd rB
noncomputable def j6:FT (Conn×Unit) (Conn) (λx=>am x.1) (λx v=>am v∧v=x.1):=⟨λ(x0,_)=>
  .cal j7.c (x0.r,()) λc1=>
  .ret ({x0 with r.next:=c1.next,r.data:=c1.data,r.held:=c1.held,r.fin:=c1.fin,r.done:=c1.done}:Conn),
 λ(x0,_) hp=>by
  refine Tr.C ?_ λc1 hc1 qc1=>Tr.R ?_
  all_goals ((first|grind|(refine⟨by grind, ?_⟩;first|(simp only[List.nil_append];done)|(subst_vars;rfl)|simp_all)))⟩
noncomputable def tF:=cY st Tryz.func153 [sD] (ks:=[.st .conn]) j6 (λv=>[(true,uq (.o true) v)])
noncomputable def gC:FT (Keys×Unit) (Keys) (λx=>a6 x.1) (λx v=>a6 v∧v=x.1):=⟨λ(x0,_)=>
  .cal ev.c (x0.now,()) λc1=>
  .cal ev.c (x0.before,()) λc2=>
  .ret (⟨x0.epoch,c1,c2,x0.two⟩:Keys),
 λ(x0,_) hp=>by
  refine Tr.C ?_ λc1 hc1 qc1=>Tr.C ?_ λc2 hc2 qc2=>Tr.R ?_
  all_goals ((first|grind|(refine⟨by grind, ?_⟩;first|(simp only[List.nil_append];done)|(subst_vars;rfl)|simp_all)))⟩
noncomputable def mP:=cY st Tryz.func166 [m8] (ks:=[.st .keys]) gC (λv=>[(true,o9 (.o true) (.o true) v)])
def i6:Sh:=⟨[zp 1 0,zp 2 1,zp 3 2,zi 4],[.box [.st .tabl [.sl .arg,.sl .arg]],.box [.st .tabl [.nil .conn,.nil .tupl]],.box [.st .tabl [.own 3,.own 4]],zf,zf]⟩
noncomputable def iO (v1:Tabl)(v0:Int)(a:Tabl×Tabl):Tr (Stp (Tabl×Tabl) (Empty)):=
 .grd (bk v1.conns v0)<|
 .cal j6.c ((v1.conns.getD v0.toNat (Ty.zero .conn)),()) λc2=>
 .grd (Aw a.2.conns 1 208)<|
 .ret (.next ((⟨[],[]⟩:Tabl),(⟨(a.2.conns++[c2]),a.2.waiting⟩:Tabl)))
noncomputable def cS:i6.V→wi i6 (Tabl×Tabl):=λ(v0,v1,v2,v3,_)=>⟨v0,(v2,v3),λv0 a=>(v0,v1,a.1,a.2,()),λv0 _=>(decide (v0<(v1.conns.length:Int))),iO v1,up,1,(Int.toNat ((v1.conns.length:Int)-v0)),Empty.elim,Prod.mk,oN (.exit 0) ⟨[zp 2 0,zp 3 1],[.box [.st .tabl [.nil .conn,.nil .tupl]],.box [.st .tabl [.own 2,.own 3]],zf,zf]⟩ (λx=>((⟨[],[]⟩:Tabl),x.2.2,()))⟩
theorem oQ {v0:Int}{v1 v2 v3:Tabl}(h0:0≤v0)(h1:(v1.conns.length:Int)≤4611686018427387904)(h2:bf v1)(h3:sS v3.waiting)(h4:bf v2∧(v3.conns.length:Int)=v0∧cW am v3.conns∧v3.waiting.length=v3.waiting.length):(cS (v0,v1,v2,v3,())).U (v1.conns.length:Int) (λv0 a=>bf a.1∧(a.2.conns.length:Int)=v0∧cW am a.2.conns∧a.2.waiting.length=v3.waiting.length) (λ_=>True):=
 nb (a:=(v2,v3)) h0 h1 h4
noncomputable def j8:FT (Tabl×Unit) (Tabl) (λx=>bf x.1) (λx v=>bf v∧v.conns.length=x.1.conns.length∧v.waiting.length=x.1.waiting.length):=⟨λ(x0,_)=>
  .grd (Nat.ble ((2*(0+x0.waiting.length)+1024)*24) aq)<|
  .lp (cS (0,x0,(⟨[],[]⟩:Tabl),(⟨[],([]++x0.waiting)⟩:Tabl),())).lp λ(_,_,a3_1)=>
  .ret a3_1,
 λ(x0,_) hp=>by
  refine Tr.Gb ?_ λ_=>Tr.L (oQ ?_ ?_ ?_ ?_ ?_) (λ(a3_0,a3_1) _=>Tr.R ?_) (λp=>Empty.elim p)
  all_goals ((try simp only[cS,LC.lp,LC.ct,Ct.lp]at*)<;>grind)⟩
noncomputable def sC:=gM st Tryz.func167 [(0,la ⟨[1,2,3,4],[.box 3 0 .conn],false,0⟩ ⟨[2,3],[],false,0⟩)] [tF] 0 cS (ks:=[.st .tabl]) j8 (λv=>[(true,uz (.o true) (.o true) v)])
noncomputable def mv:=[rV]
def eg:Sh:=⟨[zp 1 0,zi 3,zi 4],[zg .mac]⟩
def fm:Sh:=⟨[zp 1 0,zi 3],[zg .mac]⟩
noncomputable def mt:Fx:=⟨169,Tryz.f169,[(2,lb [1,3,4] [1,2,3]),(0,lb [1,3] [1,2])],0⟩
noncomputable def fM (vb0:Int)(vb2:Mac)(vb1:Int)(a:Unit):Tr (Stp (Unit) ((Unit))):=
 .grd (bk vb2.rows vb1)<|
 .grd (bk vb2.rows vb0)<|
 .ite ((vb2.rows.getD vb1.toNat (Ty.zero .macRow)).input==(vb2.rows.getD vb0.toNat (Ty.zero .macRow)).input) (.ret (.out ()))<|
 .ret (.next ())
noncomputable def bM:eg.V→rg eg Unit (Unit):=λ(vb0,vb1,vb2,_)=>⟨vb1,(),λvb1 _=>(vb0,vb1,vb2,()),λvb1 _=>(decide (vb1<vb0)),fM vb0 vb2,up,1,(Int.toNat (vb0-vb1)),.inl,eR,oB .ret ⟨[zp 1 0,zb 2,zi 3],[zg .mac]⟩ (λ_=>(false,vb0,vb2,())) (.exit 2) ⟨[zp 1 0,zu 2,zi 3],[zg .mac]⟩ (λ_=>(vb0,vb2,()))⟩
theorem pq:LS Tryz.prog mt [0,0] (m6 2 eg bM):=iJ st (bC mv) _ bM [] trivial
theorem ou {vb0 vb1:Int}{vb2:Mac}(h0:0≤vb1)(h1:vb0≤4611686018427387904)(h2:vb0≤(vb2.rows.length:Int))(h3:0≤vb0)(h4:vb0<(vb2.rows.length:Int)):(bM (vb0,vb1,vb2,())).U vb0 (λ_ _=>True) (λ_=>True):=
 nb h0 h1 trivial
noncomputable def ig (v1:Mac)(v0:Int)(a:Unit):Tr (Stp (Unit) ((Unit))):=
 .grd (bk v1.rows v0)<|
 .val (mz.f ((v1.rows.getD v0.toNat (Ty.zero .macRow)).value,0,16777215,())) λc1=>
 .ite (!c1) (.ret (.out ()))<|
 .lp (bM (v0,0,v1,())).lp λw2=> .sum w2 (λ_=>
 .ret (.out ()))<|
 λ_=>
 .ret (.next ())
noncomputable def dj:fm.V→rg fm Unit (Unit):=λ(v0,v1,_)=>⟨v0,(),λv0 _=>(v0,v1,()),λv0 _=>(decide (v0<(v1.rows.length:Int))),ig v1,up,1,(Int.toNat ((v1.rows.length:Int)-v0)),.inl,eR,oB .ret ⟨[zp 1 0,zb 2],[zg .mac]⟩ (λ_=>(false,v1,())) (.exit 0) ⟨[zp 1 0,zu 2],[zg .mac]⟩ (λ_=>(v1,()))⟩
theorem rl:LS Tryz.prog mt [0] (m6 0 fm dj):=iJ st (bC mv) _ dj [(m6 2 eg bM)] ⟨pq,trivial⟩
theorem qP {v0:Int}{v1:Mac}(h0:0≤v0)(h1:(v1.rows.length:Int)≤4611686018427387904)(h2:aX v1):(dj (v0,v1,())).U (v1.rows.length:Int) (λ_ _=>True) (λ_=>True):=
 LC.okU (i:=v0) (a:=()) (λ_ _=>rfl) (λ_=>rfl) rfl h0 h1 trivial λv0 _ hj hk hv=>by
  refine Tr.G2 ?_ λ_=>Tr.V λ_ _=>Tr.I (λ_=>Tr.Ro trivial) λ_=>Tr.L (ou ?_ ?_ ?_ ?_ ?_) (λ_ _=>Tr.Sr (Tr.Rn trivial)) (λ_ _=>Tr.Sl (Tr.Ro trivial))
  all_goals ((try simp only[bM,LC.lp,LC.ct,Ct.lp]at*)<;>grind)
noncomputable def jS:FT (Mac×Unit) (Bool) (λx=>aX x.1) (λx v=>(v=true→x.1.rows.length≤64)):= .mk (λ(x0,_)=>
  .ite (!x0.use) (.ret ((x0.rows.length:Int)==0))<|
  .lp (dj (0,x0,())).lp λw3=> .sum w3 (λ_=>
  .ret false)<|
  λ_=>
  .ite (x0.k==0) (.ite (x0.l==0) (.ret (decide ((x0.rows.length:Int)≤64)))<|
   .ret false)<|
  .ret false) (tK @qP)
noncomputable def qI:=se st mt mv [(m6 0 fm dj)] (ks:=[.st .mac]) jS rB Tryz.func169 ⟨rl,trivial⟩
noncomputable def ey:FT (Mac×Unit) (Mac) (λx=>aX x.1) (λx v=>aX v∧v=x.1):=⟨λ(x0,_)=>
  .cal d8.c (x0.rows,()) λc1=>
  .ret ({x0 with rows:=c1}:Mac),
 λ(x0,_) hp=>by
  refine Tr.C ?_ λc1 hc1 qc1=>Tr.R ?_
  all_goals ((first|grind|(refine⟨by grind, ?_⟩;first|(simp only[List.nil_append];done)|(subst_vars;rfl)|simp_all)))⟩
noncomputable def lX:=cY bH Tryz.func180 [mH] (ks:=[.st .mac]) ey (λv=>[(true,wB (.o true) v)])
noncomputable def kn:=[dl,pd]
def di:Sh:=⟨[(0,false,[.down 0]),zi 1,zi 5],[.dar .conn]⟩
noncomputable def kp:Fx:=⟨185,Tryz.f185,[(0,la ⟨[0,1,5],[],false,1⟩ ⟨[1,4],[],false,1⟩)],1⟩
noncomputable def dq (v1:Int)(a:Int×List Conn):Tr (Stp (Int×List Conn) (Empty)):=
 .grd (bk a.2 v1)<|
 .grd ((decide (0≤v1))&&(decide (v1<((a.2.set v1.toNat ({(a.2.getD v1.toNat (Ty.zero .conn))with tuple.ip:=a.1}:Conn)).length:Int))))<|
 .val ((a.2.set v1.toNat ({(a.2.getD v1.toNat (Ty.zero .conn))with tuple.ip:=a.1}:Conn)).set v1.toNat ({((a.2.set v1.toNat ({(a.2.getD v1.toNat (Ty.zero .conn))with tuple.ip:=a.1}:Conn)).getD v1.toNat (Ty.zero .conn))with tuple.port:=(IntKind.wrap .i64 (a.1+1))}:Conn)) λl1=>
 .grd (bk l1 v1)<|
 .val (l1.set v1.toNat ({(l1.getD v1.toNat (Ty.zero .conn))with tuple.my:=(IntKind.wrap .i64 ((IntKind.wrap .i64 (a.1+1))+1))}:Conn)) λl2=>
 .val (IntKind.wrap .i64 ((IntKind.wrap .i64 ((IntKind.wrap .i64 (a.1+1))+1))+1)) λe3=>
 .grd (bk l2 v1)<|
 .grd ((decide (0≤v1))&&(decide (v1<((l2.set v1.toNat ({(l2.getD v1.toNat (Ty.zero .conn))with state:=e3}:Conn)).length:Int))))<|
 .val ((l2.set v1.toNat ({(l2.getD v1.toNat (Ty.zero .conn))with state:=e3}:Conn)).set v1.toNat ({((l2.set v1.toNat ({(l2.getD v1.toNat (Ty.zero .conn))with state:=e3}:Conn)).getD v1.toNat (Ty.zero .conn))with s.una:=(IntKind.wrap .i64 (e3+1))}:Conn)) λl4=>
 .cal aI.c ((IntKind.wrap .i64 ((IntKind.wrap .i64 (e3+1))+1)),()) λc5=>
 .grd (bk l4 v1)<|
 .val (IntKind.wrap .i64 ((IntKind.wrap .i64 ((IntKind.wrap .i64 (e3+1))+1))+1)) λe6=>
 .grd ((decide (0≤v1))&&(decide (v1<((l4.set v1.toNat ({(l4.getD v1.toNat (Ty.zero .conn))with s.data:=c5}:Conn)).length:Int))))<|
 .val ((l4.set v1.toNat ({(l4.getD v1.toNat (Ty.zero .conn))with s.data:=c5}:Conn)).set v1.toNat ({((l4.set v1.toNat ({(l4.getD v1.toNat (Ty.zero .conn))with s.data:=c5}:Conn)).getD v1.toNat (Ty.zero .conn))with s.sent:=e6}:Conn)) λl7=>
 .grd (bk l7 v1)<|
 .val (l7.set v1.toNat ({(l7.getD v1.toNat (Ty.zero .conn))with s.fin:=(((IntKind.wrap .i64 (e6+1)).tmod 3)==0)}:Conn)) λl8=>
 .grd (bk l8 v1)<|
 .val (l8.set v1.toNat ({(l8.getD v1.toNat (Ty.zero .conn))with s.finSent:=(((IntKind.wrap .i64 ((IntKind.wrap .i64 (e6+1))+1)).tmod 3)==0)}:Conn)) λl9=>
 .val (IntKind.wrap .i64 ((IntKind.wrap .i64 ((IntKind.wrap .i64 (e6+1))+1))+1)) λe10=>
 .grd (bk l9 v1)<|
 .val (l9.set v1.toNat ({(l9.getD v1.toNat (Ty.zero .conn))with s.done:=((e10.tmod 3)==0)}:Conn)) λl11=>
 .grd (bk l11 v1)<|
 .val (l11.set v1.toNat ({(l11.getD v1.toNat (Ty.zero .conn))with r.next:=(IntKind.wrap .i64 (e10+1))}:Conn)) λl12=>
 .cal aI.c ((IntKind.wrap .i64 ((IntKind.wrap .i64 (e10+1))+1)),()) λc13=>
 .grd (bk l12 v1)<|
 .val (IntKind.wrap .i64 ((IntKind.wrap .i64 ((IntKind.wrap .i64 (e10+1))+1))+1)) λe14=>
 .grd ((decide (0≤v1))&&(decide (v1<((l12.set v1.toNat ({(l12.getD v1.toNat (Ty.zero .conn))with r.data:=c13}:Conn)).length:Int))))<|
 .cal fq.c (((l12.set v1.toNat ({(l12.getD v1.toNat (Ty.zero .conn))with r.data:=c13}:Conn)).getD v1.toNat (Ty.zero .conn)).r.held,e14,()) λc15=>
 .val ((l12.set v1.toNat ({(l12.getD v1.toNat (Ty.zero .conn))with r.data:=c13}:Conn)).set v1.toNat ({((l12.set v1.toNat ({(l12.getD v1.toNat (Ty.zero .conn))with r.data:=c13}:Conn)).getD v1.toNat (Ty.zero .conn))with r.held:=c15.2}:Conn)) λl16=>
 .grd (bk l16 v1)<|
 .grd ((decide (0≤v1))&&(decide (v1<((l16.set v1.toNat ({(l16.getD v1.toNat (Ty.zero .conn))with r.fin:=c15.1}:Conn)).length:Int))))<|
 .val ((l16.set v1.toNat ({(l16.getD v1.toNat (Ty.zero .conn))with r.fin:=c15.1}:Conn)).set v1.toNat ({((l16.set v1.toNat ({(l16.getD v1.toNat (Ty.zero .conn))with r.fin:=c15.1}:Conn)).getD v1.toNat (Ty.zero .conn))with r.done:=(((IntKind.wrap .i64 (c15.1+1)).tmod 3)==0)}:Conn)) λl17=>
 .grd (bk l17 v1)<|
 .val (l17.set v1.toNat ({(l17.getD v1.toNat (Ty.zero .conn))with window:=(IntKind.wrap .i64 ((IntKind.wrap .i64 (c15.1+1))+1))}:Conn)) λl18=>
 .val (IntKind.wrap .i64 ((IntKind.wrap .i64 ((IntKind.wrap .i64 (c15.1+1))+1))+1)) λe19=>
 .grd (bk l18 v1)<|
 .grd ((decide (0≤v1))&&(decide (v1<((l18.set v1.toNat ({(l18.getD v1.toNat (Ty.zero .conn))with most:=e19}:Conn)).length:Int))))<|
 .val ((l18.set v1.toNat ({(l18.getD v1.toNat (Ty.zero .conn))with most:=e19}:Conn)).set v1.toNat ({((l18.set v1.toNat ({(l18.getD v1.toNat (Ty.zero .conn))with most:=e19}:Conn)).getD v1.toNat (Ty.zero .conn))with opts.mss:=(IntKind.wrap .i64 (e19+1))}:Conn)) λl20=>
 .grd (bk l20 v1)<|
 .val (l20.set v1.toNat ({(l20.getD v1.toNat (Ty.zero .conn))with opts.scale:=(IntKind.wrap .i64 ((IntKind.wrap .i64 (e19+1))+1))}:Conn)) λl21=>
 .val (IntKind.wrap .i64 ((IntKind.wrap .i64 ((IntKind.wrap .i64 (e19+1))+1))+1)) λe22=>
 .grd (bk l21 v1)<|
 .val (l21.set v1.toNat ({(l21.getD v1.toNat (Ty.zero .conn))with opts.sack:=((e22.tmod 3)==0)}:Conn)) λl23=>
 .grd (bk l23 v1)<|
 .val (l23.set v1.toNat ({(l23.getD v1.toNat (Ty.zero .conn))with opts.stamp:=(((IntKind.wrap .i64 (e22+1)).tmod 3)==0)}:Conn)) λl24=>
 .grd (bk l24 v1)<|
 .val (l24.set v1.toNat ({(l24.getD v1.toNat (Ty.zero .conn))with opts.val:=(IntKind.wrap .i64 ((IntKind.wrap .i64 (e22+1))+1))}:Conn)) λl25=>
 .val (IntKind.wrap .i64 ((IntKind.wrap .i64 ((IntKind.wrap .i64 (e22+1))+1))+1)) λe26=>
 .grd (bk l25 v1)<|
 .grd ((decide (0≤v1))&&(decide (v1<((l25.set v1.toNat ({(l25.getD v1.toNat (Ty.zero .conn))with opts.echo:=e26}:Conn)).length:Int))))<|
 .val ((l25.set v1.toNat ({(l25.getD v1.toNat (Ty.zero .conn))with opts.echo:=e26}:Conn)).set v1.toNat ({((l25.set v1.toNat ({(l25.getD v1.toNat (Ty.zero .conn))with opts.echo:=e26}:Conn)).getD v1.toNat (Ty.zero .conn))with timer:=(IntKind.wrap .i64 (e26+1))}:Conn)) λl27=>
 .grd (bk l27 v1)<|
 .val (l27.set v1.toNat ({(l27.getD v1.toNat (Ty.zero .conn))with tries:=(IntKind.wrap .i64 ((IntKind.wrap .i64 (e26+1))+1))}:Conn)) λl28=>
 .val (IntKind.wrap .i64 ((IntKind.wrap .i64 ((IntKind.wrap .i64 (e26+1))+1))+1)) λe29=>
 .ret (.next (e29,l28))
noncomputable def aD:di.V→wi di (Int×List Conn):=λ(v0,v1,v2,_)=>⟨v1,(v0,v2),λv1 a=>(a.1,v1,a.2,()),λv1 a=>(decide (v1<(a.2.length:Int))),dq,up,1,(Int.toNat ((v2.length:Int)-v1)),Empty.elim,Prod.mk,oN (.exit 0) ⟨[zi 1,zu 4],[.dar .conn]⟩ (λx=>(x.2.1,x.2.2,()))⟩
theorem mG:LS Tryz.prog kp [0] (m6 0 di aD):=iJ st (bC kn) _ aD [] trivial
theorem mf {v0 v1:Int}{v2:List Conn}(h0:0≤v1)(h1:(v2.length:Int)≤4611686018427387904)(h2:sL am v2)(h3:v2.length=v2.length∧cW am v2∧v0≤9223372036854775807):(aD (v0,v1,v2,())).S (λv1 a=>a.2.length=v2.length∧a.2.length=v2.length∧cW am a.2∧a.1≤9223372036854775807) (λ_=>True):=by
 refine LC.okS ⟨rfl,h3⟩ (λj a hj hv=>⟨⟨?_, ?_⟩, ?_⟩) (λa hv=> ?_)
 ·simp only[aD,decide_eq_true_eq]at*;omega
 ·simp only[aD]at*;exact zO (by omega) (by omega)
 ·refine Tr.G2 ?_ λ_=>Tr.G2 ?_ λ_=>Tr.V λ_ _=>Tr.G2 ?_ λ_=>Tr.V λ_ _=>Tr.V λ_ _=>Tr.G2 ?_ λ_=>Tr.G2 ?_ λ_=>Tr.V λ_ _=>Tr.C ?_ λ_ _ _=>Tr.G2 ?_ λ_=>Tr.V λ_ _=>Tr.G2 ?_ λ_=>Tr.V λ_ _=>Tr.G2 ?_ λ_=>Tr.V λ_ _=>Tr.G2 ?_ λ_=>Tr.V λ_ _=>Tr.V λ_ _=>Tr.G2 ?_ λ_=>Tr.V λ_ _=>Tr.G2 ?_ λ_=>Tr.V λ_ _=>Tr.C ?_ λ_ _ _=>Tr.G2 ?_ λ_=>Tr.V λ_ _=>Tr.G2 ?_ λ_=>Tr.C ?_ λ_ _ _=>Tr.V λ_ _=>Tr.G2 ?_ λ_=>Tr.G2 ?_ λ_=>Tr.V λ_ _=>Tr.G2 ?_ λ_=>Tr.V λ_ _=>Tr.V λ_ _=>Tr.G2 ?_ λ_=>Tr.G2 ?_ λ_=>Tr.V λ_ _=>Tr.G2 ?_ λ_=>Tr.V λ_ _=>Tr.V λ_ _=>Tr.G2 ?_ λ_=>Tr.V λ_ _=>Tr.G2 ?_ λ_=>Tr.V λ_ _=>Tr.G2 ?_ λ_=>Tr.V λ_ _=>Tr.V λ_ _=>Tr.G2 ?_ λ_=>Tr.G2 ?_ λ_=>Tr.V λ_ _=>Tr.G2 ?_ λ_=>Tr.V λ_ _=>Tr.V λ_ _=>Tr.Rn ?_
  all_goals (try simp only[aD]at*)<;>(grind)
 ·simp only[aD,decide_eq_false_iff_not]at*;omega
noncomputable def f0:FT (List Conn×Int×Unit) (Int×List Conn) (λx=>sL am x.1∧x.2.1≤9223372036854775807) (λx v=>sL am v.2∧v.1≤9223372036854775807):=⟨λ(x0,x1,_)=>
  .lp (aD (x1,0,x0,())).lp λ(_,a30_0,a30_1)=>
  .ret (a30_0,a30_1),
 λ(x0,x1,_) hp=>by
  refine Tr.L (mf ?_ ?_ ?_ ?_) (λ(a30_0,a30_1) _=>Tr.R ?_) (λp=>Empty.elim p)
  all_goals ((try simp only[aD,LC.lp,LC.ct,Ct.lp]at*)<;>grind)⟩
noncomputable def pU:=nl st kp kn [(m6 0 di aD)] [.wr false [.down 0],.sc (.int .i64)] [.dar .conn] (λx y=>(y.1,x.2.1,())) f0 (λv=>[(false,[.c (.int .i64 v.1)])]) (λx y v=>(v.2,())) Tryz.func185 (by kernel_rfl) ⟨mG,trivial⟩
noncomputable def jJ:FT (Mac×Int×Unit) (Int) (λx=>aX x.1∧x.2.1≤9223372036854775807) (λx v=>v≤9223372036854775807):= .mk λ(x0,x1,_)=>
  .cal eE.c (x0.rows,x1,()) λc1=>
  .ite (decide (c1<0)) (.ret (-1))<|
  .ret c1
noncomputable def tl:=cY st Tryz.func187 [np] (ks:=[.st .mac,.sc (.int .i64)]) jJ rI
def gF:Sh:=⟨[zl 0 .conn,zi 1,zi 5],[]⟩
noncomputable def dh (v0:List Conn)(v2:Int)(a:Int):Tr (Stp (Int) ((Int))):=
 .grd (bk v0 v2)<|
 .ite ((v0.getD v2.toNat (Ty.zero .conn)).tuple.ip != a) (.ret (.out a))<|
 .grd (bk v0 v2)<|
 .ite ((v0.getD v2.toNat (Ty.zero .conn)).tuple.port != (IntKind.wrap .i64 (a+1))) (.ret (.out (IntKind.wrap .i64 (a+1))))<|
 .grd (bk v0 v2)<|
 .ite ((v0.getD v2.toNat (Ty.zero .conn)).tuple.my != (IntKind.wrap .i64 ((IntKind.wrap .i64 (a+1))+1))) (.ret (.out (IntKind.wrap .i64 ((IntKind.wrap .i64 (a+1))+1))))<|
 .val (IntKind.wrap .i64 ((IntKind.wrap .i64 ((IntKind.wrap .i64 (a+1))+1))+1)) λe1=>
 .grd (bk v0 v2)<|
 .ite ((v0.getD v2.toNat (Ty.zero .conn)).state != e1) (.ret (.out e1))<|
 .grd (bk v0 v2)<|
 .ite ((v0.getD v2.toNat (Ty.zero .conn)).s.una != (IntKind.wrap .i64 (e1+1))) (.ret (.out (IntKind.wrap .i64 (e1+1))))<|
 .grd (bk v0 v2)<|
 .cal aI.c ((IntKind.wrap .i64 ((IntKind.wrap .i64 (e1+1))+1)),()) λc2=>
 .ite (!((v0.getD v2.toNat (Ty.zero .conn)).s.data==c2)) (.ret (.out (IntKind.wrap .i64 ((IntKind.wrap .i64 (e1+1))+1))))<|
 .val (IntKind.wrap .i64 ((IntKind.wrap .i64 ((IntKind.wrap .i64 (e1+1))+1))+1)) λe3=>
 .grd (bk v0 v2)<|
 .ite ((v0.getD v2.toNat (Ty.zero .conn)).s.sent != e3) (.ret (.out e3))<|
 .grd (bk v0 v2)<|
 .ite (!((v0.getD v2.toNat (Ty.zero .conn)).s.fin==(((IntKind.wrap .i64 (e3+1)).tmod 3)==0))) (.ret (.out (IntKind.wrap .i64 (e3+1))))<|
 .grd (bk v0 v2)<|
 .ite (!((v0.getD v2.toNat (Ty.zero .conn)).s.finSent==(((IntKind.wrap .i64 ((IntKind.wrap .i64 (e3+1))+1)).tmod 3)==0))) (.ret (.out (IntKind.wrap .i64 ((IntKind.wrap .i64 (e3+1))+1))))<|
 .val (IntKind.wrap .i64 ((IntKind.wrap .i64 ((IntKind.wrap .i64 (e3+1))+1))+1)) λe4=>
 .grd (bk v0 v2)<|
 .ite (!((v0.getD v2.toNat (Ty.zero .conn)).s.done==((e4.tmod 3)==0))) (.ret (.out e4))<|
 .grd (bk v0 v2)<|
 .ite ((v0.getD v2.toNat (Ty.zero .conn)).r.next != (IntKind.wrap .i64 (e4+1))) (.ret (.out (IntKind.wrap .i64 (e4+1))))<|
 .grd (bk v0 v2)<|
 .cal aI.c ((IntKind.wrap .i64 ((IntKind.wrap .i64 (e4+1))+1)),()) λc5=>
 .ite (!((v0.getD v2.toNat (Ty.zero .conn)).r.data==c5)) (.ret (.out (IntKind.wrap .i64 ((IntKind.wrap .i64 (e4+1))+1))))<|
 .val (IntKind.wrap .i64 ((IntKind.wrap .i64 ((IntKind.wrap .i64 (e4+1))+1))+1)) λe6=>
 .grd (bk v0 v2)<|
 .cal fv.c ((v0.getD v2.toNat (Ty.zero .conn)).r.held,e6,()) λc7=>
 .ite (decide (c7<0)) (.ret (.out c7))<|
 .grd (bk v0 v2)<|
 .ite ((v0.getD v2.toNat (Ty.zero .conn)).r.fin != c7) (.ret (.out c7))<|
 .grd (bk v0 v2)<|
 .ite (!((v0.getD v2.toNat (Ty.zero .conn)).r.done==(((IntKind.wrap .i64 (c7+1)).tmod 3)==0))) (.ret (.out (IntKind.wrap .i64 (c7+1))))<|
 .grd (bk v0 v2)<|
 .ite ((v0.getD v2.toNat (Ty.zero .conn)).window != (IntKind.wrap .i64 ((IntKind.wrap .i64 (c7+1))+1))) (.ret (.out (IntKind.wrap .i64 ((IntKind.wrap .i64 (c7+1))+1))))<|
 .val (IntKind.wrap .i64 ((IntKind.wrap .i64 ((IntKind.wrap .i64 (c7+1))+1))+1)) λe8=>
 .grd (bk v0 v2)<|
 .ite ((v0.getD v2.toNat (Ty.zero .conn)).most != e8) (.ret (.out e8))<|
 .grd (bk v0 v2)<|
 .ite ((v0.getD v2.toNat (Ty.zero .conn)).opts.mss != (IntKind.wrap .i64 (e8+1))) (.ret (.out (IntKind.wrap .i64 (e8+1))))<|
 .grd (bk v0 v2)<|
 .ite ((v0.getD v2.toNat (Ty.zero .conn)).opts.scale != (IntKind.wrap .i64 ((IntKind.wrap .i64 (e8+1))+1))) (.ret (.out (IntKind.wrap .i64 ((IntKind.wrap .i64 (e8+1))+1))))<|
 .val (IntKind.wrap .i64 ((IntKind.wrap .i64 ((IntKind.wrap .i64 (e8+1))+1))+1)) λe9=>
 .grd (bk v0 v2)<|
 .ite (!((v0.getD v2.toNat (Ty.zero .conn)).opts.sack==((e9.tmod 3)==0))) (.ret (.out e9))<|
 .grd (bk v0 v2)<|
 .ite (!((v0.getD v2.toNat (Ty.zero .conn)).opts.stamp==(((IntKind.wrap .i64 (e9+1)).tmod 3)==0))) (.ret (.out (IntKind.wrap .i64 (e9+1))))<|
 .grd (bk v0 v2)<|
 .ite ((v0.getD v2.toNat (Ty.zero .conn)).opts.val != (IntKind.wrap .i64 ((IntKind.wrap .i64 (e9+1))+1))) (.ret (.out (IntKind.wrap .i64 ((IntKind.wrap .i64 (e9+1))+1))))<|
 .val (IntKind.wrap .i64 ((IntKind.wrap .i64 ((IntKind.wrap .i64 (e9+1))+1))+1)) λe10=>
 .grd (bk v0 v2)<|
 .ite ((v0.getD v2.toNat (Ty.zero .conn)).opts.echo != e10) (.ret (.out e10))<|
 .grd (bk v0 v2)<|
 .ite ((v0.getD v2.toNat (Ty.zero .conn)).timer != (IntKind.wrap .i64 (e10+1))) (.ret (.out (IntKind.wrap .i64 (e10+1))))<|
 .grd (bk v0 v2)<|
 .ite ((v0.getD v2.toNat (Ty.zero .conn)).tries != (IntKind.wrap .i64 ((IntKind.wrap .i64 (e10+1))+1))) (.ret (.out (IntKind.wrap .i64 ((IntKind.wrap .i64 (e10+1))+1))))<|
 .val (IntKind.wrap .i64 ((IntKind.wrap .i64 ((IntKind.wrap .i64 (e10+1))+1))+1)) λe11=>
 .ret (.next e11)
noncomputable def dr:gF.V→rg gF Int (Int):=λ(v0,v1,v2,_)=>⟨v2,v1,λv2 a=>(v0,a,v2,()),λv2 _=>(decide (v2<(v0.length:Int))),dh v0,up,1,(Int.toNat ((v0.length:Int)-v2)),.inl,eR,oB .ret ⟨[zi 1,zi 4],[]⟩ (λp=>(p,(-1),())) (.exit 0) ⟨[zi 1,zu 4],[]⟩ (λx=>(x.2,()))⟩
theorem mE {v0:List Conn}{v1 v2:Int}(h0:0≤v2)(h1:(v0.length:Int)≤4611686018427387904)(h2:sL am v0)(h3:v1≤9223372036854775807):(dr (v0,v1,v2,())).U (v0.length:Int) (λv2 a=>a≤9223372036854775807) (λ_=>True):=
 nb (a:=v1) h0 h1 h3
noncomputable def gk:FT (List Conn×Int×Unit) (Int) (λx=>sL am x.1∧x.2.1≤9223372036854775807) (λx v=>v≤9223372036854775807):= .mk (λ(x0,x1,_)=>
  .lp (dr (x0,x1,0,())).lp λw12=> .sum w12 (λ_=>
  .ret (-1))<|
  λ(_,a12_0)=>
  .ret a12_0) (tK @mE)
noncomputable def p6:=gM st Tryz.func188 [(0,lb [0,1,5] [1,4])] [dl,oC] 0 dr (ks:=[.sc (.sl .conn),.sc (.int .i64)]) gk rI
noncomputable def dH:FT (Recv×Unit) (Recv) (λx=>dI x.1) (λx v=>dI v∧v=x.1):=⟨λ(x0,_)=>
  .cal eB.c (x0.held,()) λc1=>
  .ret ({x0 with held:=c1}:Recv),
 λ(x0,_) hp=>by
  refine Tr.C ?_ λc1 hc1 qc1=>Tr.R ?_
  all_goals ((first|grind|(refine⟨by grind, ?_⟩;first|(simp only[List.nil_append];done)|(subst_vars;rfl)|simp_all)))⟩
noncomputable def lO:=cY bH Tryz.func272 [nw] (ks:=[.st .recv]) dH (λv=>[(true,tS (.o true) v)])
def ik:Sh:=⟨[zl 0 .piec,zl 1 .piec,zi 5],[]⟩
noncomputable def iE (v0 v1:List Piec)(v2:Int)(a:Unit):Tr (Stp (Unit) ((Unit))):=
 .grd (bk v0 v2)<|
 .grd (bk v1 v2)<|
 .val (jY.f ((v0.getD v2.toNat (Ty.zero .piec)),(v1.getD v2.toNat (Ty.zero .piec)),())) λc1=>
 .ite (!c1) (.ret (.out ()))<|
 .ret (.next ())
noncomputable def dG:ik.V→rg ik Unit (Unit):=λ(v0,v1,v2,_)=>⟨v2,(),λv2 _=>(v0,v1,v2,()),λv2 _=>(decide (v2<(v0.length:Int))),iE v0 v1,up,1,(Int.toNat ((v0.length:Int)-v2)),.inl,eR,oB .ret ⟨[zb 4],[]⟩ (λ_=>(false,())) (.exit 0) ⟨[zu 4],[]⟩ (λ_=>())⟩
theorem nh {v0 v1:List Piec}{v2:Int}(h0:0≤v2)(h1:(v0.length:Int)≤4611686018427387904)(h2:(v0.length:Int)≤(v1.length:Int)):(dG (v0,v1,v2,())).U (v0.length:Int) (λ_ _=>True) (λ_=>True):=
 nb h0 h1 trivial
noncomputable def ij:FT (List Piec×List Piec×Unit) (Bool) (λx=>sL aQ x.1∧sL aQ x.2.1) (λ_ _=>True):= .mk (λ(x0,x1,_)=>
  .ite ((x0.length:Int) != (x1.length:Int)) (.ret false)<|
  .lp (dG (x0,x1,0,())).lp λw2=> .sum w2 (λ_=>
  .ret false)<|
  λ_=>
  .ret true) (tK @nh)
noncomputable def rN:=gM st Tryz.func273 [(0,lb [0,1,5] [4])] [r7] 0 dG (ks:=[.sc (.sl .piec),.sc (.sl .piec)]) ij rB
noncomputable def j3:FT (Mac×Mac×Unit) (Bool) (λx=>aX x.1∧aX x.2.1) (λ_ _=>True):= .mk λ(x0,x1,_)=>
  .ite (x0.use==x1.use) (.ite (x0.k==x1.k) (.ite (x0.l==x1.l) (.cal fE.c (x0.rows,x1.rows,()) λc1=>
     .ret c1)<|
    .ret false)<|
   .ret false)<|
  .ret false
noncomputable def sU:=cY bH Tryz.func280 [mc] (ks:=[.st .mac,.st .mac]) j3 rB
noncomputable def lH:=[sg]
def dF:Sh:=⟨[zl 0 .piec,zi 1,zi 5],[]⟩
noncomputable def lA:Fx:=⟨383,Tryz.f383,[(0,lb [0,1,5] [1,4])],0⟩
noncomputable def eT (v0:List Piec)(v2:Int)(a:Int):Tr (Stp (Int) ((Int))):=
 .grd (bk v0 v2)<|
 .cal bj.c ((v0.getD v2.toNat (Ty.zero .piec)),a,()) λc1=>
 .ite (decide (c1<0)) (.ret (.out c1))<|
 .ret (.next c1)
noncomputable def bA:dF.V→rg dF Int (Int):=λ(v0,v1,v2,_)=>⟨v2,v1,λv2 a=>(v0,a,v2,()),λv2 _=>(decide (v2<(v0.length:Int))),eT v0,up,1,(Int.toNat ((v0.length:Int)-v2)),.inl,eR,oB .ret ⟨[zi 1,zi 4],[]⟩ (λp=>(p,(-1),())) (.exit 0) ⟨[zi 1,zu 4],[]⟩ (λx=>(x.2,()))⟩
theorem nc:LS Tryz.prog lA [0] (m6 0 dF bA):=iJ st (bC lH) _ bA [] trivial
theorem nq {v0:List Piec}{v1 v2:Int}(h0:0≤v2)(h1:(v0.length:Int)≤4611686018427387904):(bA (v0,v1,v2,())).U (v0.length:Int) (λ_ _=>True) (λ_=>True):=
 nb (a:=v1) h0 h1 trivial
noncomputable def dL:FX (List Piec×Int×Unit) (Int) (λ_=>True) (a8 [.sc (.sl .piec),.sc (.int .i64)]):=⟨λ(x0,x1,_)=>
  .ite (decide ((IntKind.wrap .i64 (x1-(x0.length:Int)))<0)) (.ret (-1))<|
  .lp (bA (x0,(IntKind.wrap .i64 (x1-(x0.length:Int))),0,())).lp λw2=> .sum w2 (λ_=>
  .ret (-1))<|
  λ(_,a2_0)=>
  .ret a2_0,
 λ(x0,x1,_) hp hf=>by
  simp only[a8,Pk.fact,dS,cK,Fl.fact,Ty.fl,Ty.toH]at hf
  refine Tr.I (λ_=>Tr.R trivial) λ_=>Tr.L (nq ?_ ?_) (λa2_0 _=>Tr.Sr (Tr.R trivial)) (λp2a0 _=>Tr.Sl (Tr.R trivial))
  all_goals ((try simp only[bA,LC.lp,LC.ct,Ct.lp]at*)<;>grind)⟩
theorem tM (xs:List Piec)(k:Int)(h0:0≤k)(h1:k≤1048576)(hl:xs.length≤140737488355328)(he:qN .piec xs)(h:0≤dL.f (xs,k,())):dL.f (xs,k,())≤k∧xs.length≤1048576∧cW aQ xs:=by
 have w:IntKind.wrap .i64 (k-(xs.length:Int))=k-(xs.length:Int):=bP (by omega) (by omega)
 simp only[FX.f,PX,dL,bA,w,ax]at h⊢
 by_cases c:k-(xs.length:Int)<0
 ·rw[decide_eq_true c,cond_true]at h;omega
 rw[decide_eq_false c,cond_false]at h⊢
 have hf:∀(j:Nat) x a,xs[j]? =some x→(eT xs (j:Int) a).nice=(bif decide (bj.f (x,a,())<0)then Stp.out (bj.f (x,a,()))else Stp.next (bj.f (x,a,()))):=λj x a hx=>by
  simp only[PX,eT,al,getD_some hx]
 rw[bI xs _ rfl (F:=λ_ x a=>(bif decide (bj.f (x,a,())<0)then Stp.out (bj.f (x,a,()))else Stp.next (bj.f (x,a,())))) hf]at h⊢
 cases hn:dP (λ_ x a=>(bif decide (bj.f (x,a,())<0)then Stp.out (bj.f (x,a,()))else Stp.next (bj.f (x,a,())))) 0 xs (k-(xs.length:Int))with
 |out p=>rw[hn]at h;simp only[Stp.elim]at h;omega
 |next b=>
  obtain⟨h2,h3⟩:=nG (λx a=>bj.f (x,a,())) aQ xs 0 _ b (λx hx k h0 h1 h=>(have h4:=vy x k h0 h1 (he x hx (.str x.text) (List.mem_cons_of_mem _ List.mem_cons_self)).slen h;⟨h4.1,(by unfold aQ;omega)⟩)) (by omega) (by omega) hn
  simp only[Stp.elim]
  exact⟨by omega,by omega,h3⟩
noncomputable def rp:=xl st lA lH [(m6 0 dF bA)] (ks:=[.sc (.sl .piec),.sc (.int .i64)]) dL rI Tryz.func383 ⟨nc,trivial⟩
def iy:Sh:=⟨[zl 0 .piec,zo 3 0,zi 4],[za .piec]⟩
noncomputable def iA (v0:List Piec)(v1:Int)(a:List Piec):Tr (Stp (List Piec) (Empty)):=
 .grd (bk v0 v1)<|
 .cal mp.c ((v0.getD v1.toNat (Ty.zero .piec)),()) λc1=>
 .grd (bk a v1)<|
 .ret (.next (a.set v1.toNat c1))
noncomputable def cB:iy.V→wi iy (List Piec):=λ(v0,v1,v2,_)=>⟨v1,v2,λv1 a=>(v0,v1,a,()),λv1 _=>(decide (v1<(v0.length:Int))),iA v0,up,1,(Int.toNat ((v0.length:Int)-v1)),Empty.elim,Prod.mk,oN (.exit 0) ⟨[zu 2,zo 3 0],[za .piec]⟩ (λx=>(x.2,()))⟩
theorem ne {v0 v2:List Piec}{v1:Int}(h0:0≤v1)(h1:(v0.length:Int)≤4611686018427387904)(h2:sL aQ v0)(h3:sL aQ v2)(h4:v2.length=v2.length∧cW aQ v2∧(v0.length:Int)≤(v2.length:Int)):(cB (v0,v1,v2,())).U (v0.length:Int) (λv1 a=>a.length=v2.length∧cW aQ a∧(v0.length:Int)≤(a.length:Int)) (λ_=>True):=
 nb (a:=v2) h0 h1 h4
noncomputable def hY:FT (List Piec×Unit) (List Piec) (λx=>sL aQ x.1) (λx v=>sL aQ v):=⟨λ(x0,_)=>
  .grd ((((decide (0≤(x0.length:Int)))&&(decide ((x0.length:Int)=(x0.length:Int))))&&(decide ((x0.length:Int)*24≤(aq:Int))))&&(decide ((x0.length:Int)≤(aq:Int))))<|
  .lp (cB (x0,0,(List.replicate ((x0.length:Int).toNat) (⟨0,[]⟩:Piec)),())).lp λ(_,a2_0)=>
  .ret a2_0,
 λ(x0,_) hp=>by
  refine Tr.G4 ?_ λ_=>Tr.L (ne ?_ ?_ ?_ ?_ ?_) (λa2_0 _=>Tr.R ?_) (λp=>Empty.elim p)
  all_goals ((try simp only[cB,LC.lp,LC.ct,Ct.lp]at*)<;>grind)⟩
noncomputable def rQ:=gM bH Tryz.func384 [(0,lb [0,3,4] [2,3])] [sX] 0 cB (ks:=[.sc (.sl .piec)]) hY (λv=>[(false,[sc (.o true) .piec v])])
noncomputable def bD:FX (Mac×Int×Unit) (Int) (λ_=>True) (a8 [.st .mac,.sc (.int .i64)]):=⟨λ(x0,x1,_)=>
  .cal a5.c (x0.rows,x1,()) λc1=>
  .ite (decide (c1<0)) (.ret (-1))<|
  .ret c1,
 λ(x0,x1,_) hp hf=>by
  simp only[a8,Pk.fact,dS,cK,Fl.fact,Ty.fl,Ty.toH]at hf
  refine Tr.C trivial λ_ _ _=>Tr.F (by kernel_rfl) trivial⟩
theorem zT (x:Mac)(hl:x.rows.length≤140737488355328)(he:qN .macRow x.rows)(h:0≤bD.f (x,1048576,())):aX x∧x.rows.length≤1048576:=by
 have e:bD.f (x,1048576,())=bif decide (a5.f (x.rows,1048576,())<0)then-1 else a5.f (x.rows,1048576,()):=by simp only[FX.f,PX,bD]
 rw[e]at h
 have:0≤a5.f (x.rows,1048576,()):=by
  by_cases c:a5.f (x.rows,1048576,())<0
  ·rw[decide_eq_true c,cond_true]at h;omega
  ·omega
 have h2:=rE x.rows 1048576 (by omega) (by omega) hl he this
 exact⟨by unfold aX;exact h2.1,h2.2⟩
theorem nS (x:Mac)(k:Int)(h0:0≤k)(h1:k≤1048576)(hl:x.rows.length≤140737488355328)(he:qN .macRow x.rows)(h:0≤bD.f (x,k,())):bD.f (x,k,())≤k∧aX x:=by
 have e:bD.f (x,k,())=(bif decide (a5.f (x.rows,k,())<0)then-1 else a5.f (x.rows,k,())):=by first|(simp only[FX.f,PX,bD];done)|(simp only[FX.f,PX,bD];rfl)
 rw[e]at h⊢
 obtain⟨p0,e0⟩:=eF h
 rw[e0]at h⊢
 have b0:=r6 _ _ h0 (by omega) hl he p0
 refine⟨by omega, ?_⟩
 unfold aX
 exact⟨by omega,b0.2.2⟩
noncomputable def qB:=iT st Tryz.func11 [pG] (ks:=[.st .mac,.sc (.int .i64)]) bD rI
noncomputable def fe:FT (Mac×Unit) (Mac) (λx=>aX x.1) (λx v=>aX v):= .mk λ(x0,_)=>
  .cal f5.c (x0.rows,()) λc1=>
  .ret ({x0 with rows:=c1}:Mac)
noncomputable def qH:=cY bH Tryz.func14 [pT] (ks:=[.st .mac]) fe (λv=>[(true,wB (.o true) v)])
noncomputable def jQ:FT (Mac×Mac×Unit) (Bool) (λx=>aX x.1∧aX x.2.1) (λ_ _=>True):= .mk λ(x0,x1,_)=>
  .ite (!(x0.use==x1.use)) (.ret false)<|
  .ite (x0.k != x1.k) (.ret false)<|
  .ite (x0.l != x1.l) (.ret false)<|
  .cal f4.c (x0.rows,x1.rows,()) λc1=>
  .ite (!c1) (.ret false)<|
  .ret true
noncomputable def qy:=cY st Tryz.func17 [pP] (ks:=[.st .mac,.st .mac]) jQ rB
noncomputable def ex:FT (Mac×Int×Unit) (Int×List MacRow) (λx=>aX x.1∧x.2.1≤9223372036854775807) (λx v=>sL af v.2∧v.1≤9223372036854775807):= .mk λ(x0,x1,_)=>
  .cal eD.c (x0.rows,x1,()) λc1=>
  .ret (c1.1,c1.2)
noncomputable def mL:=nl st ⟨19,Tryz.f19,[],1⟩ [nf] [] [.wr true [.c .bool,.c (.int .u64),.c (.int .u64),.own 0],.sc (.int .i64)] [.arr .macRow] (λx y=>((⟨x.1.1,x.1.2.1,x.1.2.2.1,y.1⟩:Mac),x.2.1,())) ex (λv=>[(false,[.c (.int .i64 v.1)])]) (λx y v=>(v.2,())) Tryz.func19 (by kernel_rfl) trivial
noncomputable def bN:FX (Keys×Int×Unit) (Int) (λ_=>True) (a8 [.st .keys,.sc (.int .i64)]):=⟨λ(x0,x1,_)=>
  .cal bD.c (x0.now,x1,()) λc1=>
  .ite (decide (c1<0)) (.ret (-1))<|
  .cal bD.c (x0.before,c1,()) λc2=>
  .ite (decide (c2<0)) (.ret (-1))<|
  .ret c2,
 λ(x0,x1,_) hp hf=>by
  simp only[a8,Pk.fact,dS,cK,Fl.fact,Ty.fl,Ty.toH]at hf
  refine Tr.C trivial λ_ _ _=>Tr.I (λ_=>Tr.R trivial) λ_=>Tr.C trivial λ_ _ _=>Tr.F (by kernel_rfl) trivial⟩
theorem tG (x:Keys)(k:Int)(h0:0≤k)(h1:k≤1048576)(n1:x.now.rows.length≤140737488355328)(n2:qN .macRow x.now.rows)(m1:x.before.rows.length≤140737488355328)(m2:qN .macRow x.before.rows)(h:0≤bN.f (x,k,())):bN.f (x,k,())≤k∧a6 x:=by
 have e:bN.f (x,k,())=(bif decide (bD.f (x.now,k,())<0)then-1 else(bif decide (bD.f (x.before,bD.f (x.now,k,()),())<0)then-1 else bD.f (x.before,bD.f (x.now,k,()),()))):=by first|(simp only[FX.f,PX,bN];done)|(simp only[FX.f,PX,bN];rfl)
 rw[e]at h⊢
 obtain⟨p0,e0⟩:=eF h
 rw[e0]at h⊢
 obtain⟨p1,e1⟩:=eF h
 rw[e1]at h⊢
 have b0:=nS _ _ h0 (by omega) n1 n2 p0
 have b1:=nS _ _ p0 (by omega) m1 m2 p1
 refine⟨by omega, ?_⟩
 have q0:=b0.2
 have q1:=b1.2
 unfold aX at q0 q1
 unfold a6
 exact⟨q0.1,q0.2,q1.1,q1.2⟩
noncomputable def t6:=iT st Tryz.func62 [qB] (ks:=[.st .keys,.sc (.int .i64)]) bN rI
noncomputable def jP:FT (Door×Unit) (Door) (λx=>ba x.1) (λx v=>ba v∧v.table.conns.length=x.1.table.conns.length∧v.table.waiting.length=x.1.table.waiting.length∧v.halves=x.1.halves):= .mk λ(x0,_)=>
  .cal gC.c (x0.keys,()) λc1=>
  .grd (Nat.ble ((2*(0+x0.halves.length)+1024)*96) aq)<|
  .cal j8.c (x0.table,()) λc2=>
  .ret (⟨x0.port,x0.clock,c1,x0.limits,([]++x0.halves),c2,x0.chal⟩:Door)
noncomputable def tn:=cY st Tryz.func66 [mP,sC] (ks:=[.st .door]) jP (λv=>[(true,px (.o true) (.o true) (.o true) (.o true) (.o true) v)])
noncomputable def lM:FT (Keys×Unit) (Keys) (λx=>a6 x.1) (λx v=>a6 v):= .mk λ(x0,_)=>
  .cal fe.c (x0.now,()) λc1=>
  .cal fe.c (x0.before,()) λc2=>
  .ret (⟨x0.epoch,c1,c2,x0.two⟩:Keys)
noncomputable def ub:=cY bH Tryz.func68 [qH] (ks:=[.st .keys]) lM (λv=>[(true,o9 (.o true) (.o true) v)])
noncomputable def lF:FT (Keys×Keys×Unit) (Bool) (λx=>a6 x.1∧a6 x.2.1) (λ_ _=>True):= .mk λ(x0,x1,_)=>
  .ite (x0.epoch != x1.epoch) (.ret false)<|
  .cal jQ.c (x0.now,x1.now,()) λc1=>
  .ite (!c1) (.ret false)<|
  .cal jQ.c (x0.before,x1.before,()) λc2=>
  .ite (!c2) (.ret false)<|
  .ite (!(x0.two==x1.two)) (.ret false)<|
  .ret true
noncomputable def tN:=cY st Tryz.func75 [qy] (ks:=[.st .keys,.st .keys]) lF rB
noncomputable def gY:FT (Keys×Int×Unit) (Int×List MacRow×List MacRow) (λx=>a6 x.1∧x.2.1≤9223372036854775807) (λx v=>sL af v.2.1∧sL af v.2.2∧v.1≤9223372036854775807):= .mk λ(x0,x1,_)=>
  .cal ex.c (x0.now,x1,()) λc1=>
  .cal ex.c (x0.before,c1.1,()) λc2=>
  .ret (c2.1,c1.2,c2.2)
noncomputable def qV:=nl st ⟨80,Tryz.f80,[],2⟩ [mL] [] [.wr true [.c (.int .i64),.c .bool,.c (.int .u64),.c (.int .u64),.own 0,.c .bool,.c (.int .u64),.c (.int .u64),.own 1,.c .bool],.sc (.int .i64)] [.arr .macRow,.arr .macRow] (λx y=>((⟨x.1.1,⟨x.1.2.1,x.1.2.2.1,x.1.2.2.2.1,y.1⟩,⟨x.1.2.2.2.2.1,x.1.2.2.2.2.2.1,x.1.2.2.2.2.2.2.1,y.2.1⟩,x.1.2.2.2.2.2.2.2.1⟩:Keys),x.2.1,())) gY (λv=>[(false,[.c (.int .i64 v.1)])]) (λx y v=>(v.2.1,v.2.2,())) Tryz.func80 (by kernel_rfl) trivial
noncomputable def fX:FT (Tabl×Int×Unit) (Int×List Conn×List Tupl) (λx=>bf x.1∧x.2.1≤9223372036854775807) (λx v=>sL am v.2.1∧sS v.2.2∧v.1≤9223372036854775807):= .mk λ(x0,x1,_)=>
  .cal f0.c (x0.conns,x1,()) λc1=>
  .cal fp.c (x0.waiting,c1.1,()) λc2=>
  .ret (c2.1,c1.2,c2.2)
noncomputable def pR:=nl st ⟨82,Tryz.f82,[],2⟩ [pU,oG] [] [.wr true [.down 0,.own 1],.sc (.int .i64)] [.dar .conn,.arr .tupl] (λx y=>((⟨y.1,y.2.1⟩:Tabl),x.2.1,())) fX (λv=>[(false,[.c (.int .i64 v.1)])]) (λx y v=>(v.2.1,v.2.2,())) Tryz.func82 (by kernel_rfl) trivial
noncomputable def hP:FT (Keys×Int×Unit) (Int) (λx=>a6 x.1∧x.2.1≤9223372036854775807) (λx v=>v≤9223372036854775807):= .mk λ(x0,x1,_)=>
  .cal jJ.c (x0.now,x1,()) λc1=>
  .ite (decide (c1<0)) (.ret (-1))<|
  .cal jJ.c (x0.before,c1,()) λc2=>
  .ite (decide (c2<0)) (.ret (-1))<|
  .ret c2
noncomputable def rk:=cY st Tryz.func84 [tl] (ks:=[.st .keys,.sc (.int .i64)]) hP rI
noncomputable def gd:FT (Tabl×Int×Unit) (Int) (λx=>bf x.1∧x.2.1≤9223372036854775807) (λx v=>v≤9223372036854775807):= .mk λ(x0,x1,_)=>
  .cal gk.c (x0.conns,x1,()) λc1=>
  .ite (decide (c1<0)) (.ret (-1))<|
  .cal fi.c (x0.waiting,c1,()) λc2=>
  .ite (decide (c2<0)) (.ret (-1))<|
  .ret c2
noncomputable def p7:=cY st Tryz.func86 [p6,py] (ks:=[.st .tabl,.sc (.int .i64)]) gd rI
noncomputable def gb:FT (Conn×Unit) (Conn) (λx=>am x.1) (λx v=>am v∧v=x.1):=⟨λ(x0,_)=>
  .cal dH.c (x0.r,()) λc1=>
  .ret ({x0 with r.next:=c1.next,r.data:=c1.data,r.held:=c1.held,r.fin:=c1.fin,r.done:=c1.done}:Conn),
 λ(x0,_) hp=>by
  refine Tr.C ?_ λc1 hc1 qc1=>Tr.R ?_
  all_goals ((first|grind|(refine⟨by grind, ?_⟩;first|(simp only[List.nil_append];done)|(subst_vars;rfl)|simp_all)))⟩
noncomputable def p8:=cY bH Tryz.func157 [lO] (ks:=[.st .conn]) gb (λv=>[(true,uq (.o true) v)])
noncomputable def fj:FT (Recv×Recv×Unit) (Bool) (λx=>dI x.1∧dI x.2.1) (λ_ _=>True):= .mk λ(x0,x1,_)=>
  .ite (x0.next != x1.next) (.ret false)<|
  .ite (!(x0.data==x1.data)) (.ret false)<|
  .cal ij.c (x0.held,x1.held,()) λc1=>
  .ite (!c1) (.ret false)<|
  .ite (x0.fin != x1.fin) (.ret false)<|
  .ite (!(x0.done==x1.done)) (.ret false)<|
  .ret true
noncomputable def oH:=cY st Tryz.func159 [rN] (ks:=[.st .recv,.st .recv]) fj rB
noncomputable def uy:=[uJ,qI,tE]
noncomputable def un:Fx:=⟨168,Tryz.f168,[(3000001,rA 0 18)],0⟩
noncomputable def ll:FT (Keys×Unit) (Bool) (λx=>a6 x.1) (λx v=>(v=true→0≤x.1.epoch∧x.1.epoch≤4294967295)):= .mk λ(x0,_)=>
  .bnd (β:=Bool×Unit) (.as (λw=>(w.1=false→x0.now.rows.length≤64∧x0.before.rows.length≤64)) (.cal bV.c (x0.epoch,32,()) λc1=>
   .ite (!c1) (.ret (true,()))<|
   .cal jS.c (x0.now,()) λc2=>
   .ite (!c2) (.ret (true,()))<|
   .cal jS.c (x0.before,()) λc3=>
   .ret ((!c3),()))) λ(u4a0,_)=>
  .ite u4a0 (.ret false)<|
  .ite x0.two (.ret (decide (1≤x0.epoch)))<|
  .cal jL.c (x0.before,(⟨false,0,0,[]⟩:Mac),()) λc5=>
  .ret c5
noncomputable def t5:=se st un uy [] (ks:=[.st .keys]) ll rB Tryz.func168 trivial
noncomputable def eH:FT (Keys×Unit) (Keys) (λx=>a6 x.1) (λx v=>a6 v∧v=x.1):=⟨λ(x0,_)=>
  .cal ey.c (x0.now,()) λc1=>
  .cal ey.c (x0.before,()) λc2=>
  .ret (⟨x0.epoch,c1,c2,x0.two⟩:Keys),
 λ(x0,_) hp=>by
  refine Tr.C ?_ λc1 hc1 qc1=>Tr.C ?_ λc2 hc2 qc2=>Tr.R ?_
  all_goals ((first|grind|(refine⟨by grind, ?_⟩;first|(simp only[List.nil_append];done)|(subst_vars;rfl)|simp_all)))⟩
noncomputable def ko:=cY bH Tryz.func175 [lX] (ks:=[.st .keys]) eH (λv=>[(true,o9 (.o true) (.o true) v)])
def gf:Sh:=⟨[zp 2 0,zp 3 1,zl 11 .conn,zi 12,zi 13],[.box [.st .tabl [.nil .conn,.nil .tupl]],.box [.st .tabl [.down 2,.own 3]],.ofd,zf]⟩
noncomputable def gl (v0:List Conn)(v2:Int)(a:Tabl×Tabl):Tr (Stp (Tabl×Tabl) (Empty)):=
 .grd (bk v0 v2)<|
 .cal gb.c ((v0.getD v2.toNat (Ty.zero .conn)),()) λc3=>
 .grd (Aw a.2.conns 1 208)<|
 .ret (.next ((⟨[],[]⟩:Tabl),(⟨(a.2.conns++[c3]),a.2.waiting⟩:Tabl)))
noncomputable def bR:gf.V→wi gf (Tabl×Tabl):=λ(v0,v1,v2,v3,v4,_)=>⟨v2,(v3,v4),λv2 a=>(v0,v1,v2,a.1,a.2,()),λv2 _=>(decide (v2<v1)),gl v0,up,1,(Int.toNat (v1-v2)),Empty.elim,Prod.mk,oN (.exit 0) ⟨[zp 2 0,zp 3 1],[.box [.st .tabl [.nil .conn,.nil .tupl]],.box [.st .tabl [.down 2,.own 3]],.ofd,zf]⟩ (λx=>((⟨[],[]⟩:Tabl),x.2.2,()))⟩
theorem lJ {v0:List Conn}{v1 v2:Int}{v3 v4:Tabl}(h0:0≤v2)(h1:v1≤4611686018427387904)(h2:sL am v0)(h3:v1≤4294967296)(h4:sS v4.waiting)(h5:v1≤(v0.length:Int))(h6:bf v3∧(v4.conns.length:Int)=v2∧cW am v4.conns∧v4.waiting.length=v4.waiting.length):(bR (v0,v1,v2,v3,v4,())).U v1 (λv2 a=>bf a.1∧(a.2.conns.length:Int)=v2∧cW am a.2.conns∧a.2.waiting.length=v4.waiting.length) (λ_=>True):=
 nb (a:=(v3,v4)) h0 h1 h6
noncomputable def fx:FT (Tabl×Unit) (Tabl) (λx=>bf x.1) (λx v=>bf v∧v.conns.length=x.1.conns.length∧v.waiting.length=x.1.waiting.length):=⟨λ(x0,_)=>
  .cal eA.c (x0.waiting,()) λc1=>
  .lp (bR (x0.conns,(x0.conns.length:Int),0,(⟨[],[]⟩:Tabl),(⟨[],c1⟩:Tabl),())).lp λ(_,_,a4_1)=>
  .ret a4_1,
 λ(x0,_) hp=>by
  refine Tr.C ?_ λ_ _ _=>Tr.L (lJ ?_ ?_ ?_ ?_ ?_ ?_ ?_) (λ(a4_0,a4_1) _=>Tr.R ?_) (λp=>Empty.elim p)
  all_goals ((try simp only[bR,LC.lp,LC.ct,Ct.lp]at*)<;>grind)⟩
noncomputable def oz:=gM bH Tryz.func177 [(0,la ⟨[2,3,11,12,13],[.dbox 3 0 .conn],false,0⟩ ⟨[2,3],[],false,0⟩)] [nu,p8] 0 bR (ks:=[.st .tabl]) fx (λv=>[(true,uz .d (.o true) v)])
noncomputable def bS:FX (Recv×Int×Unit) (Int) (λ_=>True) (a8 [.st .recv,.sc (.int .i64)]):=⟨λ(x0,x1,_)=>
  .ite (decide ((IntKind.wrap .i64 (x1-(x0.data.length:Int)))<0)) (.ret (-1))<|
  .cal dL.c (x0.held,(IntKind.wrap .i64 (x1-(x0.data.length:Int))),()) λc1=>
  .ite (decide (c1<0)) (.ret (-1))<|
  .ret c1,
 λ(x0,x1,_) hp hf=>by
  simp only[a8,Pk.fact,dS,cK,Fl.fact,Ty.fl,Ty.toH]at hf
  refine Tr.I (λ_=>Tr.R trivial) λ_=>Tr.C trivial λ_ _ _=>Tr.F (by kernel_rfl) trivial⟩
theorem rL (x:Recv)(k:Int)(h0:0≤k)(h1:k≤1048576)(hd:x.data.length≤4611686018427387904)(hl:x.held.length≤140737488355328)(he:qN .piec x.held)(h:0≤bS.f (x,k,())):bS.f (x,k,())≤k∧x.data.length≤1048576∧x.held.length≤1048576∧cW aQ x.held:=by
 have w:IntKind.wrap .i64 (k-(x.data.length:Int))=k-(x.data.length:Int):=bP (by omega) (by omega)
 have e:bS.f (x,k,())=(bif decide (k-(x.data.length:Int)<0)then-1 else(bif decide (dL.f (x.held,k-(x.data.length:Int),())<0)then-1 else dL.f (x.held,k-(x.data.length:Int),()))):=by simp only[FX.f,PX,bS,w]
 rw[e]at h⊢
 obtain⟨p0,e0⟩:=eF h
 rw[e0]at h⊢
 obtain⟨p1,e1⟩:=eF h
 rw[e1]at h⊢
 have b:=tM x.held _ p0 (by omega) hl he p1
 exact⟨by omega,by omega,b.2.1,b.2.2⟩
noncomputable def nV:=iT st Tryz.func346 [rp] (ks:=[.st .recv,.sc (.int .i64)]) bS rI
noncomputable def fh:FT (Recv×Unit) (Recv) (λx=>dI x.1) (λx v=>dI v):= .mk λ(x0,_)=>
  .cal hY.c (x0.held,()) λc1=>
  .ret ({x0 with held:=c1}:Recv)
noncomputable def pn:=cY bH Tryz.func348 [rQ] (ks:=[.st .recv]) fh (λv=>[(true,tS (.o true) v)])
noncomputable def lq:FT (Conn×Conn×Unit) (Bool) (λx=>am x.1∧am x.2.1) (λ_ _=>True):= .mk λ(x0,x1,_)=>
  .val (fB.f (x0.tuple,x1.tuple,())) λc1=>
  .ite (!c1) (.ret false)<|
  .ite (x0.state != x1.state) (.ret false)<|
  .val (g9.f (x0.s,x1.s,())) λc2=>
  .ite (!c2) (.ret false)<|
  .cal fj.c (x0.r,x1.r,()) λc3=>
  .ite (!c3) (.ret false)<|
  .ite (x0.window != x1.window) (.ret false)<|
  .ite (x0.most != x1.most) (.ret false)<|
  .val (eG.f (x0.opts,x1.opts,())) λc4=>
  .ite (!c4) (.ret false)<|
  .ite (x0.timer != x1.timer) (.ret false)<|
  .ite (x0.tries != x1.tries) (.ret false)<|
  .ret true
noncomputable def ui:=cY st Tryz.func57 [jr,rc,oH,kA] (ks:=[.st .conn,.st .conn]) lq rB
noncomputable def sw:=[mP,t5,qI,m8]
noncomputable def sk:Fx:=⟨67,Tryz.f67,[(3000002,rA 0 20)],0⟩
noncomputable def jH:FT (Keys×Mac×Unit) (Keys) (λx=>a6 x.1∧aX x.2.1) (λx v=>a6 v):= .mk λ(x0,x1,_)=>
  .cal gC.c (x0,()) λc1=>
  .bnd (β:=Bool×Unit) (.as (λw=>(w.1=false→0≤x0.epoch∧x0.epoch≤4294967295∧x1.rows.length≤64)) (.cal ll.c (x0,()) λc2=>
   .ite (!c2) (.ret (true,()))<|
   .cal jS.c (x1,()) λc3=>
   .ite (!c3) (.ret (true,()))<|
   .ret ((x0.epoch==4294967295),()))) λ(u4a0,_)=>
  .ite u4a0 (.ret c1)<|
  .cal ev.c (x1,()) λc5=>
  .cal ev.c (x0.now,()) λc6=>
  .ret (⟨(IntKind.wrap .i64 (x0.epoch+1)),c5,c6,true⟩:Keys)
noncomputable def tc:=se st sk sw [] (ks:=[.st .keys,.st .mac]) jH (λv=>[(true,o9 (.o true) (.o true) v)]) Tryz.func67 trivial
noncomputable def gh:FT (Door×Unit) (Door) (λx=>ba x.1) (λx v=>ba v∧v.table.conns.length=x.1.table.conns.length∧v.table.waiting.length=x.1.table.waiting.length∧v.halves=x.1.halves):= .mk λ(x0,_)=>
  .cal eH.c (x0.keys,()) λc1=>
  .cal fw.c (x0.halves,()) λc2=>
  .cal fx.c (x0.table,()) λc3=>
  .ret (⟨x0.port,x0.clock,c1,x0.limits,c2,c3,x0.chal⟩:Door)
noncomputable def pI:=cY bH Tryz.func73 [ko,n6,oz] (ks:=[.st .door]) gh (λv=>[(true,px (.o true) (.o true) (.o true) .d (.o true) v)])
def jl:Sh:=⟨[zl 0 .conn,zl 1 .conn,zi 5],[]⟩
noncomputable def jq (v0 v1:List Conn)(v2:Int)(a:Unit):Tr (Stp (Unit) ((Unit))):=
 .grd (bk v0 v2)<|
 .grd (bk v1 v2)<|
 .cal lq.c ((v0.getD v2.toNat (Ty.zero .conn)),(v1.getD v2.toNat (Ty.zero .conn)),()) λc1=>
 .ite (!c1) (.ret (.out ()))<|
 .ret (.next ())
noncomputable def d4:jl.V→rg jl Unit (Unit):=λ(v0,v1,v2,_)=>⟨v2,(),λv2 _=>(v0,v1,v2,()),λv2 _=>(decide (v2<(v0.length:Int))),jq v0 v1,up,1,(Int.toNat ((v0.length:Int)-v2)),.inl,eR,oB .ret ⟨[zb 4],[]⟩ (λ_=>(false,())) (.exit 0) ⟨[zu 4],[]⟩ (λ_=>())⟩
theorem o8 {v0 v1:List Conn}{v2:Int}(h0:0≤v2)(h1:(v0.length:Int)≤4611686018427387904)(h2:sL am v0)(h3:sL am v1)(h4:(v0.length:Int)≤(v1.length:Int)):(d4 (v0,v1,v2,())).U (v0.length:Int) (λ_ _=>True) (λ_=>True):=
 nb h0 h1 trivial
noncomputable def jW:FT (List Conn×List Conn×Unit) (Bool) (λx=>sL am x.1∧sL am x.2.1) (λ_ _=>True):= .mk (λ(x0,x1,_)=>
  .ite ((x0.length:Int) != (x1.length:Int)) (.ret false)<|
  .lp (d4 (x0,x1,0,())).lp λw2=> .sum w2 (λ_=>
  .ret false)<|
  λ_=>
  .ret true) (tK @o8)
noncomputable def sv:=gM st Tryz.func182 [(0,lb [0,1,5] [4])] [ui] 0 d4 (ks:=[.sc (.sl .conn),.sc (.sl .conn)]) jW rB
noncomputable def bo:FX (Conn×Int×Unit) (Int) (λ_=>True) (a8 [.st .conn,.sc (.int .i64)]):=⟨λ(x0,x1,_)=>
  .cal cV.c (x0.s,x1,()) λc1=>
  .ite (decide (c1<0)) (.ret (-1))<|
  .cal bS.c (x0.r,c1,()) λc2=>
  .ite (decide (c2<0)) (.ret (-1))<|
  .ret c2,
 λ(x0,x1,_) hp hf=>by
  simp only[a8,Pk.fact,dS,cK,Fl.fact,Ty.fl,Ty.toH]at hf
  refine Tr.C trivial λ_ _ _=>Tr.I (λ_=>Tr.R trivial) λ_=>Tr.C trivial λ_ _ _=>Tr.F (by kernel_rfl) trivial⟩
theorem wJ (x:Conn)(k:Int)(h0:0≤k)(h1:k≤1048576)(hf:∀c∈Ty.conn.cells x,FactC c)(h:0≤bo.f (x,k,())):bo.f (x,k,())≤k∧am x:=by
 have e:bo.f (x,k,())=(bif decide (cV.f (x.s,k,())<0)then-1 else(bif decide (bS.f (x.r,cV.f (x.s,k,()),())<0)then-1 else bS.f (x.r,cV.f (x.s,k,()),()))):=by first|(simp only[FX.f,PX,bo];done)|(simp only[FX.f,PX,bo];rfl)
 rw[e]at h⊢
 obtain⟨p0,e0⟩:=eF h
 rw[e0]at h⊢
 obtain⟨p1,e1⟩:=eF h
 rw[e1]at h⊢
 have b0:=uK _ _ h0 (by omega) (hf (.str x.s.data) (by simp[Ty.cells,Ty.fl,Ty.toH,be,Fl.cell])).slen p0
 have b1:=rL _ _ p0 (by omega) (hf (.str x.r.data) (by simp[Ty.cells,Ty.fl,Ty.toH,be,Fl.cell])).slen (hf (.sl .piec x.r.held) (by simp[Ty.cells,Ty.fl,Ty.toH,be,Fl.cell])).len (λy hy=>(hf (.sl .piec x.r.held) (by simp[Ty.cells,Ty.fl,Ty.toH,be,Fl.cell])).elem hy) p1
 refine⟨by omega, ?_⟩
 unfold am
 exact⟨by omega,by omega,by omega,b1.2.2.2⟩
noncomputable def uS:=iT st Tryz.func276 [qY,nV] (ks:=[.st .conn,.sc (.int .i64)]) bo rI
noncomputable def lB:FT (Conn×Unit) (Conn) (λx=>am x.1) (λx v=>am v):= .mk λ(x0,_)=>
  .val (fA.f (x0.tuple,())) λc1=>
  .cal gR.c (x0.s,()) λc2=>
  .cal fh.c (x0.r,()) λc3=>
  .val (eL.f (x0.opts,())) λc4=>
  .ret (⟨c1,x0.state,c2,c3,x0.window,x0.most,c4,x0.timer,x0.tries⟩:Conn)
noncomputable def uF:=cY bH Tryz.func278 [jx,rO,pn,kj] (ks:=[.st .conn]) lB (λv=>[(true,uq (.o true) v)])
noncomputable def gg:FT (Door×Mac×Unit) (Door) (λx=>ba x.1∧aX x.2.1) (λx v=>ba v):= .mk λ(x0,x1,_)=>
  .cal jP.c (x0,()) λc1=>
  .cal jH.c (x0.keys,x1,()) λc2=>
  .ret (⟨c1.port,c1.clock,c2,c1.limits,c1.halves,c1.table,c1.chal⟩:Door)
noncomputable def pS:=cY st Tryz.func12 [tn,tc] (ks:=[.st .door,.st .mac]) gg (λv=>[(true,px (.o true) (.o true) (.o true) (.o true) (.o true) v)])
noncomputable def jO:FT (Tabl×Tabl×Unit) (Bool) (λx=>bf x.1∧bf x.2.1) (λ_ _=>True):= .mk λ(x0,x1,_)=>
  .cal jW.c (x0.conns,x1.conns,()) λc1=>
  .ite (!c1) (.ret false)<|
  .cal gP.c (x0.waiting,x1.waiting,()) λc2=>
  .ite (!c2) (.ret false)<|
  .ret true
noncomputable def sR:=cY st Tryz.func78 [sv,rP] (ks:=[.st .tabl,.st .tabl]) jO rB
noncomputable def mQ:=[uS]
def d9:Sh:=⟨[zl 0 .conn,zi 1,zi 5],[]⟩
noncomputable def m5:Fx:=⟨163,Tryz.f163,[(0,lb [0,1,5] [1,4])],0⟩
noncomputable def fQ (v0:List Conn)(v2:Int)(a:Int):Tr (Stp (Int) ((Int))):=
 .grd (bk v0 v2)<|
 .cal bo.c ((v0.getD v2.toNat (Ty.zero .conn)),a,()) λc1=>
 .ite (decide (c1<0)) (.ret (.out c1))<|
 .ret (.next c1)
noncomputable def bK:d9.V→rg d9 Int (Int):=λ(v0,v1,v2,_)=>⟨v2,v1,λv2 a=>(v0,a,v2,()),λv2 _=>(decide (v2<(v0.length:Int))),fQ v0,up,1,(Int.toNat ((v0.length:Int)-v2)),.inl,eR,oB .ret ⟨[zi 1,zi 4],[]⟩ (λp=>(p,(-1),())) (.exit 0) ⟨[zi 1,zu 4],[]⟩ (λx=>(x.2,()))⟩
theorem n9:LS Tryz.prog m5 [0] (m6 0 d9 bK):=iJ st (bC mQ) _ bK [] trivial
theorem oU {v0:List Conn}{v1 v2:Int}(h0:0≤v2)(h1:(v0.length:Int)≤4611686018427387904):(bK (v0,v1,v2,())).U (v0.length:Int) (λ_ _=>True) (λ_=>True):=
 nb (a:=v1) h0 h1 trivial
noncomputable def ci:FX (List Conn×Int×Unit) (Int) (λ_=>True) (a8 [.sc (.sl .conn),.sc (.int .i64)]):=⟨λ(x0,x1,_)=>
  .ite (decide ((IntKind.wrap .i64 (x1-(x0.length:Int)))<0)) (.ret (-1))<|
  .lp (bK (x0,(IntKind.wrap .i64 (x1-(x0.length:Int))),0,())).lp λw2=> .sum w2 (λ_=>
  .ret (-1))<|
  λ(_,a2_0)=>
  .ret a2_0,
 λ(x0,x1,_) hp hf=>by
  simp only[a8,Pk.fact,dS,cK,Fl.fact,Ty.fl,Ty.toH]at hf
  refine Tr.I (λ_=>Tr.R trivial) λ_=>Tr.L (oU ?_ ?_) (λa2_0 _=>Tr.Sr (Tr.R trivial)) (λp2a0 _=>Tr.Sl (Tr.R trivial))
  all_goals ((try simp only[bK,LC.lp,LC.ct,Ct.lp]at*)<;>grind)⟩
theorem qq (xs:List Conn)(k:Int)(h0:0≤k)(h1:k≤1048576)(hl:xs.length≤140737488355328)(he:qN .conn xs)(h:0≤ci.f (xs,k,())):ci.f (xs,k,())≤k∧xs.length≤1048576∧cW am xs:=by
 have w:IntKind.wrap .i64 (k-(xs.length:Int))=k-(xs.length:Int):=bP (by omega) (by omega)
 simp only[FX.f,PX,ci,bK,w,ax]at h⊢
 by_cases c:k-(xs.length:Int)<0
 ·rw[decide_eq_true c,cond_true]at h;omega
 rw[decide_eq_false c,cond_false]at h⊢
 have hf:∀(j:Nat) x a,xs[j]? =some x→(fQ xs (j:Int) a).nice=(bif decide (bo.f (x,a,())<0)then Stp.out (bo.f (x,a,()))else Stp.next (bo.f (x,a,()))):=λj x a hx=>by
  simp only[PX,fQ,al,getD_some hx]
 rw[bI xs _ rfl (F:=λ_ x a=>(bif decide (bo.f (x,a,())<0)then Stp.out (bo.f (x,a,()))else Stp.next (bo.f (x,a,())))) hf]at h⊢
 cases hn:dP (λ_ x a=>(bif decide (bo.f (x,a,())<0)then Stp.out (bo.f (x,a,()))else Stp.next (bo.f (x,a,())))) 0 xs (k-(xs.length:Int))with
 |out p=>rw[hn]at h;simp only[Stp.elim]at h;omega
 |next b=>
  obtain⟨h2,h3⟩:=nG (λx a=>bo.f (x,a,())) am xs 0 _ b (λx hx k h0 h1 h=>wJ x k h0 h1 (he x hx) h) (by omega) (by omega) hn
  simp only[Stp.elim]
  exact⟨by omega,by omega,h3⟩
noncomputable def s8:=xl st m5 mQ [(m6 0 d9 bK)] (ks:=[.sc (.sl .conn),.sc (.int .i64)]) ci rI Tryz.func163 ⟨n9,trivial⟩
def jG:Sh:=⟨[zl 0 .conn,(3,false,[.down 0]),zi 4],[.dar .conn]⟩
noncomputable def jF (v0:List Conn)(v1:Int)(a:List Conn):Tr (Stp (List Conn) (Empty)):=
 .grd (bk v0 v1)<|
 .cal lB.c ((v0.getD v1.toNat (Ty.zero .conn)),()) λc2=>
 .grd (bk a v1)<|
 .ret (.next (a.set v1.toNat c2))
noncomputable def cU:jG.V→wi jG (List Conn):=λ(v0,v1,v2,_)=>⟨v1,v2,λv1 a=>(v0,v1,a,()),λv1 _=>(decide (v1<(v0.length:Int))),jF v0,up,1,(Int.toNat ((v0.length:Int)-v1)),Empty.elim,Prod.mk,oN (.exit 0) ⟨[zu 2,(3,false,[.down 0])],[.dar .conn]⟩ (λx=>(x.2,()))⟩
theorem oe {v0 v2:List Conn}{v1:Int}(h0:0≤v1)(h1:(v0.length:Int)≤4611686018427387904)(h2:sL am v0)(h3:sL am v2)(h4:v2.length=v2.length∧cW am v2∧(v0.length:Int)≤(v2.length:Int)):(cU (v0,v1,v2,())).U (v0.length:Int) (λv1 a=>a.length=v2.length∧cW am a∧(v0.length:Int)≤(a.length:Int)) (λ_=>True):=
 nb (a:=v2) h0 h1 h4
noncomputable def jX:FT (List Conn×Unit) (List Conn) (λx=>sL am x.1) (λx v=>sL am v):=⟨λ(x0,_)=>
  .grd ((((decide (0≤(x0.length:Int)))&&(decide ((x0.length:Int)=(x0.length:Int))))&&(decide ((x0.length:Int)*208≤(aq:Int))))&&(decide ((x0.length:Int)≤(aq:Int))))<|
  .val (List.replicate ((x0.length:Int).toNat) (⟨⟨0,0,0⟩,0,⟨0,[],0,false,false,false⟩,⟨0,[],[],0,false⟩,0,0,⟨0,0,false,false,0,0⟩,0,0⟩:Conn)) λl1=>
  .lp (cU (x0,0,l1,())).lp λ(_,a3_0)=>
  .ret a3_0,
 λ(x0,_) hp=>by
  refine Tr.G4 ?_ λ_=>Tr.V λ_ _=>Tr.L (oe ?_ ?_ ?_ ?_ ?_) (λa3_0 _=>Tr.R ?_) (λp=>Empty.elim p)
  all_goals ((try simp only[cU,LC.lp,LC.ct,Ct.lp]at*)<;>grind)⟩
noncomputable def tC:=gM bH Tryz.func172 [(0,lb [0,3,4] [2,3])] [uF] 0 cU (ks:=[.sc (.sl .conn)]) jX (λv=>[(false,[sc .d .conn v])])
noncomputable def fH:FT (Door×Door×Unit) (Bool) (λx=>ba x.1∧ba x.2.1) (λ_ _=>True):= .mk λ(x0,x1,_)=>
  .ite (x0.port != x1.port) (.ret false)<|
  .ite (x0.clock != x1.clock) (.ret false)<|
  .cal lF.c (x0.keys,x1.keys,()) λc1=>
  .ite (!c1) (.ret false)<|
  .val (hU.f (x0.limits,x1.limits,())) λc2=>
  .ite (!c2) (.ret false)<|
  .cal jU.c (x0.halves,x1.halves,()) λc3=>
  .ite (!c3) (.ret false)<|
  .cal jO.c (x0.table,x1.table,()) λc4=>
  .ite (!c4) (.ret false)<|
  .ite (x0.chal != x1.chal) (.ret false)<|
  .ret true
noncomputable def tL:=cY st Tryz.func16 [tN,rj,r9,sR] (ks:=[.st .door,.st .door]) fH rB
noncomputable def bb:FX (Tabl×Int×Unit) (Int) (λ_=>True) (a8 [.st .tabl,.sc (.int .i64)]):=⟨λ(x0,x1,_)=>
  .cal ci.c (x0.conns,x1,()) λc1=>
  .ite (decide (c1<0)) (.ret (-1))<|
  .cal cp.c (x0.waiting,c1,()) λc2=>
  .ite (decide (c2<0)) (.ret (-1))<|
  .ret c2,
 λ(x0,x1,_) hp hf=>by
  simp only[a8,Pk.fact,dS,cK,Fl.fact,Ty.fl,Ty.toH]at hf
  refine Tr.C trivial λ_ _ _=>Tr.I (λ_=>Tr.R trivial) λ_=>Tr.C trivial λ_ _ _=>Tr.F (by kernel_rfl) trivial⟩
theorem vC (x:Tabl)(k:Int)(h0:0≤k)(h1:k≤1048576)(hl:x.conns.length≤140737488355328)(he:qN .conn x.conns)(hw:x.waiting.length≤140737488355328)(h:0≤bb.f (x,k,())):bb.f (x,k,())≤k∧bf x:=by
 have e:bb.f (x,k,())=(bif decide (ci.f (x.conns,k,())<0)then-1 else(bif decide (cp.f (x.waiting,ci.f (x.conns,k,()),())<0)then-1 else cp.f (x.waiting,ci.f (x.conns,k,()),()))):=by first|(simp only[FX.f,PX,bb];done)|(simp only[FX.f,PX,bb];rfl)
 rw[e]at h⊢
 obtain⟨p0,e0⟩:=eF h
 rw[e0]at h⊢
 obtain⟨p1,e1⟩:=eF h
 rw[e1]at h⊢
 have b0:=qq _ _ h0 (by omega) hl he p0
 have b1:=oy _ _ p0 (by omega) hw p1
 refine⟨by omega, ?_⟩
 unfold bf
 exact⟨by omega,b0.2.2,by omega⟩
theorem vT (x:Tabl)(k:Int)(h0:0≤k)(h1:k≤1048576)(hl:x.conns.length≤140737488355328)(he:qN .conn x.conns)(hw:x.waiting.length≤140737488355328)(h:0≤bb.f (x,k,())):bb.f (x,k,())≤k∧x.conns.length≤1048576:=by
 have e:bb.f (x,k,())=(bif decide (ci.f (x.conns,k,())<0)then-1 else(bif decide (cp.f (x.waiting,ci.f (x.conns,k,()),())<0)then-1 else cp.f (x.waiting,ci.f (x.conns,k,()),()))):=by first|(simp only[FX.f,PX,bb];done)|(simp only[FX.f,PX,bb];rfl)
 rw[e]at h⊢
 obtain⟨p0,e0⟩:=eF h
 rw[e0]at h⊢
 obtain⟨p1,e1⟩:=eF h
 rw[e1]at h⊢
 have b0:=qq _ _ h0 (by omega) hl he p0
 have b1:=oy _ _ p0 (by omega) hw p1
 refine⟨by omega, ?_⟩
 exact b0.2.1
noncomputable def tp:=iT st Tryz.func64 [s8,rr] (ks:=[.st .tabl,.sc (.int .i64)]) bb rI
noncomputable def jV:FT (Tabl×Unit) (Tabl) (λx=>bf x.1) (λx v=>bf v):= .mk λ(x0,_)=>
  .cal jX.c (x0.conns,()) λc1=>
  .cal gW.c (x0.waiting,()) λc2=>
  .ret (⟨c1,c2⟩:Tabl)
noncomputable def sY:=cY bH Tryz.func71 [tC,qQ] (ks:=[.st .tabl]) jV (λv=>[(true,uz .d (.o true) v)])
noncomputable def l6:FT (MacRow×MacRow×Unit) (Bool) (λ_=>True) (λ_ _=>True):= .mk λ(x0,y1,_)=>
  .ret (x0.input==y1.input)
noncomputable def sa:=nl bH ⟨282,Tryz.f282,[],1⟩ [] [] [.st .macRow,.wr false [.ptr 0]] [.box [.st .macRow]] (λx y=>(x.1,y.1.1,())) l6 rB (λx y v=>((y.1.1,()),())) Tryz.func282 (by kernel_rfl) trivial
noncomputable def cf:=[sa]
def aG:Sh:=⟨[zl 0 .macRow,(1,false,[.fn 282 [0]]),zi 7,zi 8],[zx .macRow]⟩
noncomputable def ce:Fx:=⟨350,Tryz.f350,[(0,la ⟨[0,1,7,8],[],false,1⟩ ⟨[4],[],false,1⟩)],1⟩
noncomputable def bO (v0:List MacRow)(v3:MacRow)(v2:Int)(a:Unit):Tr (Stp (Unit) ((Int))):=
 .grd (bk v0 v2)<|
 .cal l6.c ((v0.getD v2.toNat (Ty.zero .macRow)),v3,()) λc1=>
 .ite c1 (.ret (.out v2))<|
 .ret (.next ())
noncomputable def ao:aG.V→rg aG Unit (Int):=λ(v0,v1,v2,v3,_)=>⟨v2,(),λv2 _=>(v0,v1,v2,v3,()),λv2 _=>(decide (v2<v1)),bO v0 v3,up,1,(Int.toNat (v1-v2)),.inl,eR,oB .ret ⟨[zi 4],[zx .macRow]⟩ (λp=>(p,v3,())) (.exit 0) ⟨[zu 4],[zx .macRow]⟩ (λ_=>(v3,()))⟩
theorem dV:LS Tryz.prog ce [0] (m6 0 aG ao):=iJ st (bC cf) _ ao [] trivial
theorem dW {v0:List MacRow}{v1 v2:Int}{v3:MacRow}(h0:0≤v2)(h1:v1≤4611686018427387904)(h2:v1≤(v0.length:Int)):(ao (v0,v1,v2,v3,())).U v1 (λ_ _=>True) (λp=>v2≤p∧p<v1):=
 nb h0 h1 trivial
noncomputable def bx:FT (List MacRow×MacRow×Unit) (Int) (λx=>wS x.1) (λx v=> -1≤v∧v<x.1.length):= .mk (λ(x0,y1_0,_)=>
  .lp (ao (x0,(x0.length:Int),0,y1_0,())).lp λw2=> .sum w2 (λp2a0=>
  .ret p2a0)<|
  λ_=>
  .ret (-1)) (tK @dW)
noncomputable def ew:=nl st ce cf [(m6 0 aG ao)] [.sc (.sl .macRow),.fn 282 [0]] [.box [.st .macRow]] (λx y=>(x.1,y.1.1,())) bx rI (λx y v=>((y.1.1,()),())) Tryz.func350 (by kernel_rfl) ⟨dV,trivial⟩
noncomputable def bh:FX (Door×Int×Unit) (Int) (λ_=>True) (a8 [.st .door,.sc (.int .i64)]):=⟨λ(x0,x1,_)=>
  .cal bN.c (x0.keys,x1,()) λc1=>
  .ite (decide (c1<0)) (.ret (-1))<|
  .cal cc.c (x0.halves,c1,()) λc2=>
  .ite (decide (c2<0)) (.ret (-1))<|
  .cal bb.c (x0.table,c2,()) λc3=>
  .ite (decide (c3<0)) (.ret (-1))<|
  .ret c3,
 λ(x0,x1,_) hp hf=>by
  simp only[a8,Pk.fact,dS,cK,Fl.fact,Ty.fl,Ty.toH]at hf
  refine Tr.C trivial λ_ _ _=>Tr.I (λ_=>Tr.R trivial) λ_=>Tr.C trivial λ_ _ _=>Tr.I (λ_=>Tr.R trivial) λ_=>Tr.C trivial λ_ _ _=>Tr.F (by kernel_rfl) trivial⟩
theorem s7 (x:Door)(k:Int)(h0:0≤k)(h1:k≤1048576)(n1:x.keys.now.rows.length≤140737488355328)(n2:qN .macRow x.keys.now.rows)(m1:x.keys.before.rows.length≤140737488355328)(m2:qN .macRow x.keys.before.rows)(hh:x.halves.length≤140737488355328)(hl:x.table.conns.length≤140737488355328)(he:qN .conn x.table.conns)(hw:x.table.waiting.length≤140737488355328)(h:0≤bh.f (x,k,())):bh.f (x,k,())≤k∧ba x:=by
 have e:bh.f (x,k,())=(bif decide (bN.f (x.keys,k,())<0)then-1 else(bif decide (cc.f (x.halves,bN.f (x.keys,k,()),())<0)then-1 else(bif decide (bb.f (x.table,cc.f (x.halves,bN.f (x.keys,k,()),()),())<0)then-1 else bb.f (x.table,cc.f (x.halves,bN.f (x.keys,k,()),()),())))):=by first|(simp only[FX.f,PX,bh];done)|(simp only[FX.f,PX,bh];rfl)
 rw[e]at h⊢
 obtain⟨p0,e0⟩:=eF h
 rw[e0]at h⊢
 obtain⟨p1,e1⟩:=eF h
 rw[e1]at h⊢
 obtain⟨p2,e2⟩:=eF h
 rw[e2]at h⊢
 have b0:=tG _ _ h0 (by omega) n1 n2 m1 m2 p0
 have b1:=ql _ _ p0 (by omega) hh p1
 have b2:=vC _ _ p1 (by omega) hl he hw p2
 refine⟨by omega, ?_⟩
 have q0:=b0.2
 have q1:=b1.2
 have q2:=b2.2
 unfold a6 at q0
 unfold bf at q2
 unfold ba
 exact⟨q0.1,q0.2.1,q0.2.2.1,q0.2.2.2,by omega,q2.1,q2.2.1,q2.2.2⟩
theorem xB (x:Door)(k:Int)(h0:0≤k)(h1:k≤1048576)(n1:x.keys.now.rows.length≤140737488355328)(n2:qN .macRow x.keys.now.rows)(m1:x.keys.before.rows.length≤140737488355328)(m2:qN .macRow x.keys.before.rows)(hh:x.halves.length≤140737488355328)(hl:x.table.conns.length≤140737488355328)(he:qN .conn x.table.conns)(hw:x.table.waiting.length≤140737488355328)(h:0≤bh.f (x,k,())):bh.f (x,k,())≤k∧x.table.conns.length≤1048576:=by
 have e:bh.f (x,k,())=(bif decide (bN.f (x.keys,k,())<0)then-1 else(bif decide (cc.f (x.halves,bN.f (x.keys,k,()),())<0)then-1 else(bif decide (bb.f (x.table,cc.f (x.halves,bN.f (x.keys,k,()),()),())<0)then-1 else bb.f (x.table,cc.f (x.halves,bN.f (x.keys,k,()),()),())))):=by first|(simp only[FX.f,PX,bh];done)|(simp only[FX.f,PX,bh];rfl)
 rw[e]at h⊢
 obtain⟨p0,e0⟩:=eF h
 rw[e0]at h⊢
 obtain⟨p1,e1⟩:=eF h
 rw[e1]at h⊢
 obtain⟨p2,e2⟩:=eF h
 rw[e2]at h⊢
 have b0:=tG _ _ h0 (by omega) n1 n2 m1 m2 p0
 have b1:=ql _ _ p0 (by omega) hh p1
 have b2:=vT _ _ p1 (by omega) hl he hw p2
 refine⟨by omega, ?_⟩
 exact b2.2
noncomputable def ur:=iT st Tryz.func10 [t6,ss,tp] (ks:=[.st .door,.sc (.int .i64)]) bh rI
noncomputable def fF:FT (Door×Unit) (Door) (λx=>ba x.1) (λx v=>ba v):= .mk λ(x0,_)=>
  .cal lM.c (x0.keys,()) λc1=>
  .val (ib.f (x0.limits,())) λc2=>
  .cal jM.c (x0.halves,()) λc3=>
  .cal jV.c (x0.table,()) λc4=>
  .ret (⟨x0.port,x0.clock,c1,c2,c3,c4,x0.chal⟩:Door)
noncomputable def uU:=cY bH Tryz.func13 [ub,ru,ta,sY] (ks:=[.st .door]) fF (λv=>[(true,px (.o true) (.o true) (.o true) .d (.o true) v)])
noncomputable def aM:FT (List MacRow×MacRow×Unit) (Bool) (λx=>sL af x.1∧af x.2.1) (λ_ _=>True):= .mk λ(x0,y1_0,_)=>
  .cal bx.c (x0,y1_0,()) λc1=>
  .ret (decide (0≤c1))
noncomputable def dU:=nl st ⟨281,Tryz.f281,[],1⟩ [ew] [] [.sc (.sl .macRow),.fn 282 [0]] [.box [.st .macRow]] (λx y=>(x.1,y.1.1,())) aM rB (λx y v=>((y.1.1,()),())) Tryz.func281 (by kernel_rfl) trivial
def ld:Sh:=⟨[zp 1 0,zl 27 .macRow,zi 28,zi 29],[zg .mac]⟩
noncomputable def fu (v0:List MacRow)(v3:Mac)(v2:Int)(a:Unit):Tr (Stp (Unit) ((Unit))):=
 .grd (bk v0 v2)<|
 .val (fD.f ((v0.getD v2.toNat (Ty.zero .macRow)).value,0,16777215,())) λc2=>
 .ite (!c2) (.ret (.out ()))<|
 .grd ((decide (0≤v2))&&(decide (v2≤(v3.rows.length:Int))))<|
 .cal aM.c (((v3.rows.take v2.toNat).drop 0),(v0.getD v2.toNat (Ty.zero .macRow)),()) λc3=>
 .ite c3 (.ret (.out ()))<|
 .ret (.next ())
noncomputable def fg:ld.V→rg ld Unit (Unit):=λ(v0,v1,v2,v3,_)=>⟨v2,(),λv2 _=>(v0,v1,v2,v3,()),λv2 _=>(decide (v2<v1)),fu v0 v3,up,1,(Int.toNat (v1-v2)),.inl,eR,oB .ret ⟨[zb 2],[]⟩ (λ_=>(false,())) (.exit 0) ⟨[zu 2],[]⟩ (λ_=>())⟩
theorem rK {v0:List MacRow}{v1 v2:Int}{v3:Mac}(h0:0≤v2)(h1:v1≤4611686018427387904)(h2:sL af v0)(h3:aX v3)(h4:v1≤(v0.length:Int))(h5:v1≤(v3.rows.length:Int)):(fg (v0,v1,v2,v3,())).U v1 (λ_ _=>True) (λ_=>True):=
 nb h0 h1 trivial
noncomputable def gc:FT (Mac×Unit) (Bool) (λx=>aX x.1) (λx v=>(v=true→x.1.rows.length≤64)):= .mk (λ(x0,_)=>
  .ite (!x0.use) (.ret ((x0.rows.length:Int)==0))<|
  .bnd (β:=Bool×Unit) (.ite (x0.k != 0) (.ret (true,()))<|
   .ite (x0.l != 0) (.ret (true,()))<|
   .ret ((decide (64<(x0.rows.length:Int))),())) λ(u1a0,_)=>
  .ite u1a0 (.ret false)<|
  .lp (fg (x0.rows,(x0.rows.length:Int),0,x0,())).lp λw4=> .sum w4 (λ_=>
  .ret false)<|
  λ_=>
  .ret true) (tK @rK)
noncomputable def qk:=gM bH Tryz.func179 [(0,lb [1,27,28,29] [2]),(3000003,rA 0 25)] [kW,dU] 0 fg (ks:=[.st .mac]) gc rB
noncomputable def uQ:=[kW,qk,sU]
def pX:An:=⟨⟨[],[],false,0⟩,⟨[1,2,3],[],false,0⟩,⟨[],[]⟩,[(.normal,⟨[zp 1 0,zb 2,zi 3],[.box [.st .keys [.sl .arg,.sl .arg]]]⟩)]⟩
noncomputable def t8:Fx:=⟨178,Tryz.f178,[(1000005,pX)],0⟩
noncomputable def lm:FT (Keys×Unit) (Bool) (λx=>a6 x.1) (λx v=>(v=true→0≤x.1.epoch∧x.1.epoch≤4294967295)):= .mk λ(x0,_)=>
  .bnd (β:=Bool×Int×Keys×Unit) (.as (λw=>a6 w.2.2.1∧0≤w.2.1∧w.2.2.1=x0) (.ite x0.two (.ret (false,1,x0,()))<|
   .ret (false,0,x0,()))) λ(_,u1a1,u1a2,_)=>
  .val (fD.f (u1a2.epoch,u1a1,4294967295,())) λc2=>
  .ite c2 (.cal gc.c (u1a2.now,()) λc3=>
   .ite c3 (.cal gc.c (u1a2.before,()) λc4=>
    .ite c4 (.ite u1a2.two (.ret true)<|
     .cal j3.c (u1a2.before,(⟨false,0,0,[]⟩:Mac),()) λc5=>
     .ret c5)<|
    .ret false)<|
   .ret false)<|
  .ret false
noncomputable def uo:=se bH t8 uQ [] (ks:=[.st .keys]) lm rB Tryz.func178 trivial
noncomputable def rX:=[ko,uo,qk,lX]
noncomputable def su:Fx:=⟨74,Tryz.f74,[(3000002,rA 0 20)],0⟩
noncomputable def gy:FT (Keys×Mac×Unit) (Keys) (λx=>a6 x.1∧aX x.2.1) (λx v=>a6 v):= .mk λ(x0,x1,_)=>
  .cal eH.c (x0,()) λc1=>
  .bnd (β:=Bool×Unit) (.as (λw=>(w.1=false→0≤x0.epoch∧x0.epoch≤4294967295∧x1.rows.length≤64)) (.cal lm.c (x0,()) λc2=>
   .ite (!c2) (.ret (true,()))<|
   .cal gc.c (x1,()) λc3=>
   .ite (!c3) (.ret (true,()))<|
   .ret ((x0.epoch==4294967295),()))) λ(u4a0,_)=>
  .ite u4a0 (.ret c1)<|
  .cal ey.c (x1,()) λc5=>
  .ret (⟨(IntKind.wrap .i64 (x0.epoch+1)),c5,c1.now,true⟩:Keys)
noncomputable def sj:=se bH su rX [] (ks:=[.st .keys,.st .mac]) gy (λv=>[(true,o9 (.o true) (.o true) v)]) Tryz.func74 trivial
noncomputable def bc:FT (Door×Mac×Unit) (Door) (λx=>ba x.1∧aX x.2.1) (λx v=>ba v):= .mk λ(x0,x1,_)=>
  .cal gh.c (x0,()) λc1=>
  .cal gy.c (x0.keys,x1,()) λc2=>
  .ret (⟨c1.port,c1.clock,c2,c1.limits,c1.halves,c1.table,c1.chal⟩:Door)
noncomputable def p4:=cY bH Tryz.func15 [pI,sj] (ks:=[.st .door,.st .mac]) bc (λv=>[(true,px (.o true) (.o true) (.o true) .d (.o true) v)])
noncomputable def kx:List (Ent1 Tryz.prog):=[]
def cX:Sh:=⟨[zo 0 0,zi 1,zi 5],[.arr .half false false]⟩
noncomputable def ku:Fx:=⟨81,Tryz.f81,[(0,la ⟨[0,1,5],[],false,1⟩ ⟨[1,4],[],false,1⟩)],1⟩
noncomputable def de (v1:Int)(a:Int×List Half):Tr (Stp (Int×List Half) (Empty)):=
 .grd (bk a.2 v1)<|
 .grd ((decide (0≤v1))&&(decide (v1<((a.2.set v1.toNat ({(a.2.getD v1.toNat (Ty.zero .half))with tuple.ip:=a.1}:Half)).length:Int))))<|
 .val ((a.2.set v1.toNat ({(a.2.getD v1.toNat (Ty.zero .half))with tuple.ip:=a.1}:Half)).set v1.toNat ({((a.2.set v1.toNat ({(a.2.getD v1.toNat (Ty.zero .half))with tuple.ip:=a.1}:Half)).getD v1.toNat (Ty.zero .half))with tuple.port:=(IntKind.wrap .i64 (a.1+1))}:Half)) λl1=>
 .grd (bk l1 v1)<|
 .val (l1.set v1.toNat ({(l1.getD v1.toNat (Ty.zero .half))with tuple.my:=(IntKind.wrap .i64 ((IntKind.wrap .i64 (a.1+1))+1))}:Half)) λl2=>
 .val (IntKind.wrap .i64 ((IntKind.wrap .i64 ((IntKind.wrap .i64 (a.1+1))+1))+1)) λe3=>
 .grd (bk l2 v1)<|
 .grd ((decide (0≤v1))&&(decide (v1<((l2.set v1.toNat ({(l2.getD v1.toNat (Ty.zero .half))with iss:=e3}:Half)).length:Int))))<|
 .val ((l2.set v1.toNat ({(l2.getD v1.toNat (Ty.zero .half))with iss:=e3}:Half)).set v1.toNat ({((l2.set v1.toNat ({(l2.getD v1.toNat (Ty.zero .half))with iss:=e3}:Half)).getD v1.toNat (Ty.zero .half))with irs:=(IntKind.wrap .i64 (e3+1))}:Half)) λl4=>
 .grd (bk l4 v1)<|
 .val (l4.set v1.toNat ({(l4.getD v1.toNat (Ty.zero .half))with opts.mss:=(IntKind.wrap .i64 ((IntKind.wrap .i64 (e3+1))+1))}:Half)) λl5=>
 .val (IntKind.wrap .i64 ((IntKind.wrap .i64 ((IntKind.wrap .i64 (e3+1))+1))+1)) λe6=>
 .grd (bk l5 v1)<|
 .grd ((decide (0≤v1))&&(decide (v1<((l5.set v1.toNat ({(l5.getD v1.toNat (Ty.zero .half))with opts.scale:=e6}:Half)).length:Int))))<|
 .val ((l5.set v1.toNat ({(l5.getD v1.toNat (Ty.zero .half))with opts.scale:=e6}:Half)).set v1.toNat ({((l5.set v1.toNat ({(l5.getD v1.toNat (Ty.zero .half))with opts.scale:=e6}:Half)).getD v1.toNat (Ty.zero .half))with opts.sack:=(((IntKind.wrap .i64 (e6+1)).tmod 3)==0)}:Half)) λl7=>
 .grd (bk l7 v1)<|
 .val (l7.set v1.toNat ({(l7.getD v1.toNat (Ty.zero .half))with opts.stamp:=(((IntKind.wrap .i64 ((IntKind.wrap .i64 (e6+1))+1)).tmod 3)==0)}:Half)) λl8=>
 .val (IntKind.wrap .i64 ((IntKind.wrap .i64 ((IntKind.wrap .i64 (e6+1))+1))+1)) λe9=>
 .grd (bk l8 v1)<|
 .grd ((decide (0≤v1))&&(decide (v1<((l8.set v1.toNat ({(l8.getD v1.toNat (Ty.zero .half))with opts.val:=e9}:Half)).length:Int))))<|
 .val ((l8.set v1.toNat ({(l8.getD v1.toNat (Ty.zero .half))with opts.val:=e9}:Half)).set v1.toNat ({((l8.set v1.toNat ({(l8.getD v1.toNat (Ty.zero .half))with opts.val:=e9}:Half)).getD v1.toNat (Ty.zero .half))with opts.echo:=(IntKind.wrap .i64 (e9+1))}:Half)) λl10=>
 .grd (bk l10 v1)<|
 .val (l10.set v1.toNat ({(l10.getD v1.toNat (Ty.zero .half))with age:=(IntKind.wrap .i64 ((IntKind.wrap .i64 (e9+1))+1))}:Half)) λl11=>
 .val (IntKind.wrap .i64 ((IntKind.wrap .i64 ((IntKind.wrap .i64 (e9+1))+1))+1)) λe12=>
 .grd (bk l11 v1)<|
 .ret (.next ((IntKind.wrap .i64 (e12+1)),(l11.set v1.toNat ({(l11.getD v1.toNat (Ty.zero .half))with window:=e12}:Half))))
noncomputable def aC:cX.V→wi cX (Int×List Half):=λ(v0,v1,v2,_)=>⟨v1,(v0,v2),λv1 a=>(a.1,v1,a.2,()),λv1 a=>(decide (v1<(a.2.length:Int))),de,up,1,(Int.toNat ((v2.length:Int)-v1)),Empty.elim,Prod.mk,oN (.exit 0) ⟨[zi 1,zu 4],[.arr .half false false]⟩ (λx=>(x.2.1,x.2.2,()))⟩
theorem mF:LS Tryz.prog ku [0] (m6 0 cX aC):=iJ st (bC kx) _ aC [] trivial
theorem mu {v0 v1:Int}{v2:List Half}(h0:0≤v1)(h1:(v2.length:Int)≤4611686018427387904)(h2:sS v2)(h3:v2.length=v2.length∧v0≤9223372036854775807):(aC (v0,v1,v2,())).S (λv1 a=>a.2.length=v2.length∧a.2.length=v2.length∧a.1≤9223372036854775807) (λ_=>True):=by
 refine LC.okS ⟨rfl,h3⟩ (λj a hj hv=>⟨⟨?_, ?_⟩, ?_⟩) (λa hv=> ?_)
 ·simp only[aC,decide_eq_true_eq]at*;omega
 ·simp only[aC]at*;exact zO (by omega) (by omega)
 ·refine Tr.G2 ?_ λ_=>Tr.G2 ?_ λ_=>Tr.V λ_ _=>Tr.G2 ?_ λ_=>Tr.V λ_ _=>Tr.V λ_ _=>Tr.G2 ?_ λ_=>Tr.G2 ?_ λ_=>Tr.V λ_ _=>Tr.G2 ?_ λ_=>Tr.V λ_ _=>Tr.V λ_ _=>Tr.G2 ?_ λ_=>Tr.G2 ?_ λ_=>Tr.V λ_ _=>Tr.G2 ?_ λ_=>Tr.V λ_ _=>Tr.V λ_ _=>Tr.G2 ?_ λ_=>Tr.G2 ?_ λ_=>Tr.V λ_ _=>Tr.G2 ?_ λ_=>Tr.V λ_ _=>Tr.V λ_ _=>Tr.G2 ?_ λ_=>Tr.Rn ?_
  all_goals (try simp only[aC]at*)<;>(grind)
 ·simp only[aC,decide_eq_false_iff_not]at*;omega
noncomputable def ge:FT (List Half×Int×Unit) (Int×List Half) (λx=>sS x.1∧x.2.1≤9223372036854775807) (λx v=>sS v.2∧v.1≤9223372036854775807):=⟨λ(x0,x1,_)=>
  .lp (aC (x1,0,x0,())).lp λ(_,a13_0,a13_1)=>
  .ret (a13_0,a13_1),
 λ(x0,x1,_) hp=>by
  refine Tr.L (mu ?_ ?_ ?_ ?_) (λ(a13_0,a13_1) _=>Tr.R ?_) (λp=>Empty.elim p)
  all_goals ((try simp only[aC,LC.lp,LC.ct,Ct.lp]at*)<;>grind)⟩
noncomputable def pN:=nl st ku kx [(m6 0 cX aC)] [.wr false [.own 0],.sc (.int .i64)] [.arr .half] (λx y=>(y.1,x.2.1,())) ge (λv=>[(false,[.c (.int .i64 v.1)])]) (λx y v=>(v.2,())) Tryz.func81 (by kernel_rfl) ⟨mF,trivial⟩
def gA:Sh:=⟨[zl 0 .half,zi 1,zi 5],[]⟩
noncomputable def dn (v0:List Half)(v2:Int)(a:Int):Tr (Stp (Int) ((Int))):=
 .grd (bk v0 v2)<|
 .ite ((v0.getD v2.toNat (Ty.zero .half)).tuple.ip != a) (.ret (.out a))<|
 .grd (bk v0 v2)<|
 .ite ((v0.getD v2.toNat (Ty.zero .half)).tuple.port != (IntKind.wrap .i64 (a+1))) (.ret (.out (IntKind.wrap .i64 (a+1))))<|
 .grd (bk v0 v2)<|
 .ite ((v0.getD v2.toNat (Ty.zero .half)).tuple.my != (IntKind.wrap .i64 ((IntKind.wrap .i64 (a+1))+1))) (.ret (.out (IntKind.wrap .i64 ((IntKind.wrap .i64 (a+1))+1))))<|
 .val (IntKind.wrap .i64 ((IntKind.wrap .i64 ((IntKind.wrap .i64 (a+1))+1))+1)) λe1=>
 .grd (bk v0 v2)<|
 .ite ((v0.getD v2.toNat (Ty.zero .half)).iss != e1) (.ret (.out e1))<|
 .grd (bk v0 v2)<|
 .ite ((v0.getD v2.toNat (Ty.zero .half)).irs != (IntKind.wrap .i64 (e1+1))) (.ret (.out (IntKind.wrap .i64 (e1+1))))<|
 .grd (bk v0 v2)<|
 .ite ((v0.getD v2.toNat (Ty.zero .half)).opts.mss != (IntKind.wrap .i64 ((IntKind.wrap .i64 (e1+1))+1))) (.ret (.out (IntKind.wrap .i64 ((IntKind.wrap .i64 (e1+1))+1))))<|
 .val (IntKind.wrap .i64 ((IntKind.wrap .i64 ((IntKind.wrap .i64 (e1+1))+1))+1)) λe2=>
 .grd (bk v0 v2)<|
 .ite ((v0.getD v2.toNat (Ty.zero .half)).opts.scale != e2) (.ret (.out e2))<|
 .grd (bk v0 v2)<|
 .ite (!((v0.getD v2.toNat (Ty.zero .half)).opts.sack==(((IntKind.wrap .i64 (e2+1)).tmod 3)==0))) (.ret (.out (IntKind.wrap .i64 (e2+1))))<|
 .grd (bk v0 v2)<|
 .ite (!((v0.getD v2.toNat (Ty.zero .half)).opts.stamp==(((IntKind.wrap .i64 ((IntKind.wrap .i64 (e2+1))+1)).tmod 3)==0))) (.ret (.out (IntKind.wrap .i64 ((IntKind.wrap .i64 (e2+1))+1))))<|
 .val (IntKind.wrap .i64 ((IntKind.wrap .i64 ((IntKind.wrap .i64 (e2+1))+1))+1)) λe3=>
 .grd (bk v0 v2)<|
 .ite ((v0.getD v2.toNat (Ty.zero .half)).opts.val != e3) (.ret (.out e3))<|
 .grd (bk v0 v2)<|
 .ite ((v0.getD v2.toNat (Ty.zero .half)).opts.echo != (IntKind.wrap .i64 (e3+1))) (.ret (.out (IntKind.wrap .i64 (e3+1))))<|
 .grd (bk v0 v2)<|
 .ite ((v0.getD v2.toNat (Ty.zero .half)).age != (IntKind.wrap .i64 ((IntKind.wrap .i64 (e3+1))+1))) (.ret (.out (IntKind.wrap .i64 ((IntKind.wrap .i64 (e3+1))+1))))<|
 .val (IntKind.wrap .i64 ((IntKind.wrap .i64 ((IntKind.wrap .i64 (e3+1))+1))+1)) λe4=>
 .grd (bk v0 v2)<|
 .ite ((v0.getD v2.toNat (Ty.zero .half)).window != e4) (.ret (.out e4))<|
 .ret (.next (IntKind.wrap .i64 (e4+1)))
noncomputable def dm:gA.V→rg gA Int (Int):=λ(v0,v1,v2,_)=>⟨v2,v1,λv2 a=>(v0,a,v2,()),λv2 _=>(decide (v2<(v0.length:Int))),dn v0,up,1,(Int.toNat ((v0.length:Int)-v2)),.inl,eR,oB .ret ⟨[zi 1,zi 4],[]⟩ (λp=>(p,(-1),())) (.exit 0) ⟨[zi 1,zu 4],[]⟩ (λx=>(x.2,()))⟩
theorem mh {v0:List Half}{v1 v2:Int}(h0:0≤v2)(h1:(v0.length:Int)≤4611686018427387904)(h2:v1≤9223372036854775807):(dm (v0,v1,v2,())).U (v0.length:Int) (λv2 a=>a≤9223372036854775807) (λ_=>True):=
 nb (a:=v1) h0 h1 h2
noncomputable def fW:FT (List Half×Int×Unit) (Int) (λx=>sS x.1∧x.2.1≤9223372036854775807) (λx v=>v≤9223372036854775807):= .mk (λ(x0,x1,_)=>
  .lp (dm (x0,x1,0,())).lp λw5=> .sum w5 (λ_=>
  .ret (-1))<|
  λ(_,a5_0)=>
  .ret a5_0) (tK @mh)
noncomputable def pW:=gM st Tryz.func85 [(0,lb [0,1,5] [1,4])] [] 0 dm (ks:=[.sc (.sl .half),.sc (.int .i64)]) fW rI
noncomputable def fG:FT (Door×Int×Unit) (Int×List MacRow×List MacRow×List Half×List Conn×List Tupl) (λx=>ba x.1∧x.2.1≤9223372036854775807) (λx v=>sL af v.2.1∧sL af v.2.2.1∧sS v.2.2.2.1∧sL am v.2.2.2.2.1∧sS v.2.2.2.2.2∧v.1≤9223372036854775807):= .mk λ(x0,x1,_)=>
  .cal gY.c (x0.keys,x1,()) λc1=>
  .cal ge.c (x0.halves,c1.1,()) λc2=>
  .cal fX.c (x0.table,c2.1,()) λc3=>
  .ret (c3.1,c1.2.1,c1.2.2,c2.2,c3.2.1,c3.2.2)
noncomputable def rm:=nl st ⟨18,Tryz.f18,[],5⟩ [qV,pN,pR] [] [.wr true [.c (.int .i64),.c (.int .i64),.c (.int .i64),.c .bool,.c (.int .u64),.c (.int .u64),.own 0,.c .bool,.c (.int .u64),.c (.int .u64),.own 1,.c .bool,.c (.int .i64),.c (.int .i64),.c (.int .i64),.c (.int .i64),.own 2,.down 3,.own 4,.c (.int .i64)],.sc (.int .i64)] [.arr .macRow,.arr .macRow,.arr .half,.dar .conn,.arr .tupl] (λx y=>((⟨x.1.1,x.1.2.1,⟨x.1.2.2.1,⟨x.1.2.2.2.1,x.1.2.2.2.2.1,x.1.2.2.2.2.2.1,y.1⟩,⟨x.1.2.2.2.2.2.2.1,x.1.2.2.2.2.2.2.2.1,x.1.2.2.2.2.2.2.2.2.1,y.2.1⟩,x.1.2.2.2.2.2.2.2.2.2.1⟩,⟨x.1.2.2.2.2.2.2.2.2.2.2.1,x.1.2.2.2.2.2.2.2.2.2.2.2.1,x.1.2.2.2.2.2.2.2.2.2.2.2.2.1,x.1.2.2.2.2.2.2.2.2.2.2.2.2.2.1⟩,y.2.2.1,⟨y.2.2.2.1,y.2.2.2.2.1⟩,x.1.2.2.2.2.2.2.2.2.2.2.2.2.2.2.1⟩:Door),x.2.1,())) fG (λv=>[(false,[.c (.int .i64 v.1)])]) (λx y v=>(v.2.1,v.2.2.1,v.2.2.2.1,v.2.2.2.2.1,v.2.2.2.2.2,())) Tryz.func18 (by kernel_rfl) trivial
noncomputable def fR:FT (Door×Int×Unit) (Int) (λx=>ba x.1∧x.2.1≤9223372036854775807) (λx v=>v≤9223372036854775807):= .mk λ(x0,x1,_)=>
  .cal hP.c (x0.keys,x1,()) λc1=>
  .ite (decide (c1<0)) (.ret (-1))<|
  .cal fW.c (x0.halves,c1,()) λc2=>
  .ite (decide (c2<0)) (.ret (-1))<|
  .cal gd.c (x0.table,c2,()) λc3=>
  .ite (decide (c3<0)) (.ret (-1))<|
  .ret c3
noncomputable def ri:=cY st Tryz.func20 [rk,pW,p7] (ks:=[.st .door,.sc (.int .i64)]) fR rI
noncomputable def iR:=[ur,qB,uU,qH,pS,p4,tL,qy,rm,mL,ri]
noncomputable def ji:Fx:=⟨3,Tryz.f3,[(3000021,rA 0 63)],0⟩
noncomputable def dN:FX (Door×Mac×Unit) (Bool) (λ_=>True) (a8 [.st .door,.st .mac]):=⟨λ(x0,x1,_)=>
  .cal bh.c (x0,1048576,()) λc1=>
  .ite (decide (c1<0)) (.ret true)<|
  .cal bD.c (x1,c1,()) λc2=>
  .ite (decide (c2<0)) (.ret true)<|
  .cal fF.c (x0,()) λc3=>
  .cal fe.c (x1,()) λc4=>
  .cal gg.c (c3,c4,()) λc5=>
  .cal fF.c (x0,()) λc6=>
  .cal fe.c (x1,()) λc7=>
  .cal bc.c (c6,c7,()) λc8=>
  .cal fH.c (c8,c5,()) λc9=>
  .ite (!c9) (.ret false)<|
  .cal fF.c (x0,()) λc10=>
  .cal fH.c (c6,c10,()) λc11=>
  .ite (!c11) (.ret false)<|
  .cal fe.c (x1,()) λc12=>
  .cal jQ.c (c7,c12,()) λc13=>
  .ite (!c13) (.ret false)<|
  .cal fG.c (c6,1,()) λc14=>
  .cal ex.c (c7,c14.1,()) λc15=>
  .bnd (β:=Bool×Unit) (.ite (decide (c15.1<0)) (.ret (true,()))<|
   .cal fH.c (c8,c5,()) λc16=>
   .ret ((!c16),())) λ(u17a0,_)=>
  .ite u17a0 (.ret false)<|
  .cal fG.c (c8,1,()) λc18=>
  .cal fR.c (({c8 with keys.now.rows:=c18.2.1,keys.before.rows:=c18.2.2.1,halves:=c18.2.2.2.1,table.conns:=c18.2.2.2.2.1,table.waiting:=c18.2.2.2.2.2}:Door),1,()) λc19=>
  .ite (decide (c19<0)) (.ret false)<|
  .ite (c19 != c18.1) (.ret false)<|
  .cal fF.c (x0,()) λc20=>
  .cal fe.c (x1,()) λc21=>
  .cal bc.c (c20,c21,()) λc22=>
  .cal fH.c (c22,c5,()) λc23=>
  .ite (!c23) (.ret false)<|
  .cal fR.c (({c8 with keys.now.rows:=c18.2.1,keys.before.rows:=c18.2.2.1,halves:=c18.2.2.2.1,table.conns:=c18.2.2.2.2.1,table.waiting:=c18.2.2.2.2.2}:Door),1,()) λc24=>
  .ite (decide (c24<0)) (.ret false)<|
  .ite (c24 != c18.1) (.ret false)<|
  .ret true,
 λ(x0,x1,_) hp hf=>by
  simp only[a8,Pk.fact,dS,cK,Fl.fact,Ty.fl,Ty.toH]at hf
  refine Tr.C trivial λc1 hc1 qc1=>Tr.I (λb0=>Tr.R trivial) λb0=>Tr.C trivial λc2 hc2 qc2=>Tr.I (λb1=>Tr.R trivial) λb1=>Tr.C ?_ λc3 hc3 qc3=>Tr.C ?_ λc4 hc4 qc4=>Tr.C ?_ λc5 hc5 qc5=>Tr.C ?_ λc6 hc6 qc6=>Tr.C ?_ λc7 hc7 qc7=>Tr.C ?_ λc8 hc8 qc8=>Tr.C ?_ λc9 hc9 qc9=>Tr.I (λb2=>Tr.R trivial) λb2=>Tr.C ?_ λc10 hc10 qc10=>Tr.C ?_ λc11 hc11 qc11=>Tr.I (λb3=>Tr.R trivial) λb3=>Tr.C ?_ λc12 hc12 qc12=>Tr.C ?_ λc13 hc13 qc13=>Tr.I (λb4=>Tr.R trivial) λb4=>Tr.C ?_ λc14 hc14 qc14=>Tr.C ?_ λc15 hc15 qc15=>Tr.B (Q':=λ_=>True) (Tr.I (λb5=>Tr.R trivial) λb5=>Tr.C ?_ λc16 hc16 qc16=>Tr.R trivial) (λ(u17a0,_) hj17 qj17=>Tr.I (λb5=>Tr.R trivial) λb5=>Tr.C ?_ λc18 hc18 qc18=>Tr.C ?_ λc19 hc19 qc19=>Tr.I (λb6=>Tr.R trivial) λb6=>Tr.I (λb7=>Tr.R trivial) λb7=>Tr.C ?_ λc20 hc20 qc20=>Tr.C ?_ λc21 hc21 qc21=>Tr.C ?_ λc22 hc22 qc22=>Tr.C ?_ λc23 hc23 qc23=>Tr.I (λb8=>Tr.R trivial) λb8=>Tr.C ?_ λc24 hc24 qc24=>Tr.F (by kernel_rfl) trivial)
  all_goals ((try simp only[Tr.nice,lw]at*)<;>((obtain⟨⟨_,_,_,_,_,_,⟨n1,n2⟩,_,_,_,⟨m1,m2⟩,_,_,_,_,_,⟨hh,_⟩,⟨hl,he⟩,⟨hw,_⟩,_⟩,⟨_,_,_,⟨r1,r2⟩,_⟩,_⟩:=hf;have k1:0≤bh.f (x0,1048576,()):=(by rw[←hc1];simpa using b0);have hD:=(s7 x0 1048576 (by omega) (by omega) n1 n2 m1 m2 hh hl he hw k1);have hD2:=hD.2;have hM:=(nS x1 _ k1 (by omega) r1 r2 (by rw[←hc1,←hc2];simpa using b1)).2;grind)))⟩
noncomputable def iM:=xl st ji iR [] (ks:=[.st .door,.st .mac]) dN rB Tryz.func3 trivial
theorem wO (n b:Int):bV.f (n,b,())=cd.f (n,b,()):=by
 simp only[PX,bV,cd,qx,jy]
 cases h:(decide (1≤b)&&decide (b≤62))with
 |false=>simp only[cond_false]
 |true=>
  have h1:1≤b∧b≤62:=by simpa using h
  rw[r8 (by omega) (by omega)]
theorem vP (x y:Mac):jL.f (x,y,())=j3.f (x,y,()):=by
 simp only[PX,jL,j3,fE,d7,b9,iV,fb]
 have e1:(x.k != y.k)= !(x.k==y.k):=rfl
 have e2:(x.l != y.l)= !(x.l==y.l):=rfl
 rw[e1,e2]
 cases(x.use==y.use)<;>cases(x.k==y.k)<;>cases(x.l==y.l)<;>cases((x.rows.length:Int) != (y.rows.length:Int))<;>rfl
theorem wX (x:Mac)(r:List MacRow)(j:Nat)(hj:j<r.length)(hr:x.rows=r):
  Stp.elim (γ:=Stp Unit Unit) (λ_=> .next ()) (λ_=> .out ()) (dA (λi a=>(fM (j:Int) x i a).nice) 1 (Int.toNat ((j:Int)-0)) 0 ())=
  bif aM.f (((r.take j).drop 0),(r.getD j (Ty.zero .macRow)),())then .out ()else .next ():=by
 subst hr
 let p:MacRow→Bool:=λy=>y.input==(x.rows.getD j (Ty.zero .macRow)).input
 simp only[PX,aM,bx,ao]
 rw[List.drop_zero]
 have hl:(x.rows.take j).length=j:=by rw[List.length_take];omega
 rw[bI (x.rows.take j) _ (by rw[hl];simp) (F:=λq y a=>bif p y then .out ()else .next ()) (by
  intro q y a h
  have hq:q<j:=by
   have:=(List.getElem?_eq_some_iff.1 h).1;omega
  have h2:x.rows[q]? =some y:=by rw[List.getElem?_take]at h;simpa [hq]using h
  simp only[PX,fM,al,getD_some h2,p])]
 rw[bI (x.rows.take j) _ (by simp) (F:=λq y a=>bif p y then .out (q:Int)else .next ()) (by
  intro q y a h
  simp only[PX,bO,l6,al,getD_some h,p])]
 rw[kJ (w:=λ_ _=>()),kJ (w:=λj _=>(j:Int))]
 cases h:(x.rows.take j).findIdx? p with
 |none=>simp[PX,Stp.elim]
 |some i=>
  have:=(List.findIdx?_eq_some_iff_getElem.1 h).1
  simp only[List.getElem?_eq_getElem this,Stp.elim]
  simp[PX]
theorem u7 (x:Mac):jS.f (x,())=gc.f (x,()):=by
 simp only[PX,jS,gc,dj,fg]
 have e:dA (λj a=>(ig x j a).nice) 1 (Int.toNat ((x.rows.length:Int)-0)) 0 ()=dA (λj a=>(fu x.rows x j a).nice) 1 (Int.toNat ((x.rows.length:Int)-0)) 0 ():=by
  rw[ax]
  refine sV x.rows.length 0 () (λj a hj=> ?_)
  have:=wX x x.rows j (by omega) rfl
  simp only[PX,ig,fu,bM,al,qx,jy]at this⊢
  rw[this]
 rw[e]
 have e1:(x.k != 0)= !(x.k==0):=rfl
 have e2:(x.l != 0)= !(x.l==0):=rfl
 have e3:decide (64<(x.rows.length:Int))= !decide ((x.rows.length:Int)≤64):=by
  rcases Int.lt_or_le 64 (x.rows.length:Int)with h|h
  ·simp[h,show¬((x.rows.length:Int)≤64) by omega]
  ·simp[h,show¬(64<(x.rows.length:Int)) by omega]
 rw[e1,e2,e3]
 generalize dA (λj a=>(fu x.rows x j a).nice) 1 (Int.toNat ((x.rows.length:Int)-0)) 0 ()=z
 cases x.use<;>cases z<;>cases(x.k==0)<;>cases(x.l==0)<;>cases decide ((x.rows.length:Int)≤64)<;>simp[PX,Stp.elim]
theorem wI (k:Keys):ll.f (k,())=lm.f (k,()):=by
 simp only[PX,ll,lm,wO,u7,vP,tk,jy]
 cases ht:k.two<;>simp only[PX,cond_true,cond_false,ht]<;>cases gc.f (k.now,())<;>cases gc.f (k.before,())<;>grind
theorem qD (m:Mac):ev.f (m,())=m:=by simp only[PX,ev,List.nil_append]
theorem ol (m:Mac):ey.f (m,())=m:=by simp only[PX,ey,d8]
theorem kH:∀(r:List Conn) (j:Nat) (c:List Conn) (w:List Tupl),dP (W:=Empty) (λ_ x (a:Tabl×Tabl)=> .next ((⟨[],[]⟩:Tabl),(⟨a.2.conns++[x],a.2.waiting⟩:Tabl))) j r (⟨[],[]⟩,⟨c,w⟩)= .next (⟨[],[]⟩,⟨c++r,w⟩)
 |[],_,c,w=>by simp only[dP,List.append_nil]
 |x::r,j,c,w=>by
  simp only[dP,Stp.elim]
  rw[kH r]
  simp
theorem vY (x:Recv):j7.f (x,())=x:=by simp only[PX,j7,List.nil_append]
theorem nd (x:Recv):dH.f (x,())=x:=by simp only[PX,dH,eB]
theorem vG (x:Conn):j6.f (x,())=x:=by simp only[PX,j6,vY]
theorem sf (x:Conn):gb.f (x,())=x:=by simp only[PX,gb,nd]
theorem qw (x:Keys):gC.f (x,())=x:=by simp only[PX,gC,qD]
theorem mV (x:Keys):eH.f (x,())=x:=by simp only[PX,eH,ol]
theorem vV (x:Tabl):j8.f (x,())=x:=by
 simp only[PX,j8,cS,List.nil_append]
 rw[ax,bI x.conns _ rfl (F:=λ_ y (a:Tabl×Tabl)=> .next ((⟨[],[]⟩:Tabl),(⟨a.2.conns++[y],a.2.waiting⟩:Tabl))) (by
  intro j y a h
  simp only[PX,iO,al,getD_some h,vG]),kH]
 simp only[Stp.elim,PX,List.nil_append]
theorem rf (x:Tabl):fx.f (x,())=x:=by
 simp only[PX,fx,bR,eA]
 rw[ax,bI x.conns _ rfl (F:=λ_ y (a:Tabl×Tabl)=> .next ((⟨[],[]⟩:Tabl),(⟨a.2.conns++[y],a.2.waiting⟩:Tabl))) (by
  intro j y a h
  simp only[PX,gl,al,getD_some h,sf]),kH]
 simp only[Stp.elim,PX,List.nil_append]
theorem we (x:Door):jP.f (x,())=x:=by simp only[PX,jP,qw,vV,List.nil_append]
theorem mZ (x:Door):gh.f (x,())=x:=by simp only[PX,gh,mV,rf,fw]
theorem vJ (k:Keys)(m:Mac):jH.f (k,m,())=gy.f (k,m,()):=by
 simp only[PX,jH,gy,qw,mV,qD,ol,wI,u7]
theorem si (d:Door)(m:Mac):gg.f (d,m,())=bc.f (d,m,()):=by
 simp only[PX,gg,bc,we,mZ,vJ]
theorem fC {W:Type}{f:Int→Unit→Stp Unit W}:∀(k:Nat) (i:Int),(∀j,f j ()= .next ())→dA f 1 k i ()= .next ()
 |0,_,_=>rfl
 |k+1,i,h=>by simp only[dA,h,Stp.elim];exact fC k _ h
theorem rq (x:Tupl):fB.f (x,x,())=true:=by simp only[PX,fB,bne_self_eq_false,cond_false]
theorem qJ (x:Opti):eG.f (x,x,())=true:=by simp only[PX,eG,bne_self_eq_false,beq_self_eq_true,Bool.not_true,cond_false]
theorem w8 (x:Sndr):g9.f (x,x,())=true:=by simp only[PX,g9,bne_self_eq_false,beq_self_eq_true,Bool.not_true,cond_false]
theorem wP (x:MacRow):gS.f (x,x,())=true:=by simp only[PX,gS,bne_self_eq_false,beq_self_eq_true,Bool.not_true,cond_false]
theorem xS (x:Piec):jY.f (x,x,())=true:=by simp only[PX,jY,bne_self_eq_false,beq_self_eq_true,Bool.not_true,cond_false]
theorem y3 (x:Half):lg.f (x,x,())=true:=by simp only[PX,lg,rq,qJ,bne_self_eq_false,Bool.not_true,cond_false]
theorem xv (x:Limi):hU.f (x,x,())=true:=by simp only[PX,hU,bne_self_eq_false,cond_false]
theorem wN (x:List Tupl):gP.f (x,x,())=true:=by
 simp only[PX,gP,dJ,bne_self_eq_false,cond_false]
 rw[fC _ _ λj=>by simp only[PX,iu,rq,Bool.not_true,cond_false]]
 rfl
theorem wc (x:List MacRow):f4.f (x,x,())=true:=by
 simp only[PX,f4,dk,bne_self_eq_false,cond_false]
 rw[fC _ _ λj=>by simp only[PX,gq,wP,Bool.not_true,cond_false]]
 rfl
theorem w9 (x:List Piec):ij.f (x,x,())=true:=by
 simp only[PX,ij,dG,bne_self_eq_false,cond_false]
 rw[fC _ _ λj=>by simp only[PX,iE,xS,Bool.not_true,cond_false]]
 rfl
theorem xN (x:List Half):jU.f (x,x,())=true:=by
 simp only[PX,jU,ep,bne_self_eq_false,cond_false]
 rw[fC _ _ λj=>by simp only[PX,je,y3,Bool.not_true,cond_false]]
 rfl
theorem uR (x:Recv):fj.f (x,x,())=true:=by simp only[PX,fj,w9,bne_self_eq_false,beq_self_eq_true,Bool.not_true,cond_false]
theorem y9 (x:Conn):lq.f (x,x,())=true:=by simp only[PX,lq,rq,w8,uR,qJ,bne_self_eq_false,Bool.not_true,cond_false]
theorem x9 (x:List Conn):jW.f (x,x,())=true:=by
 simp only[PX,jW,d4,bne_self_eq_false,cond_false]
 rw[fC _ _ λj=>by simp only[PX,jq,y9,Bool.not_true,cond_false]]
 rfl
theorem wK (x:Mac):jQ.f (x,x,())=true:=by simp only[PX,jQ,wc,bne_self_eq_false,beq_self_eq_true,Bool.not_true,cond_false]
theorem zz (x:Keys):lF.f (x,x,())=true:=by simp only[PX,lF,wK,bne_self_eq_false,beq_self_eq_true,Bool.not_true,cond_false]
theorem xY (x:Tabl):jO.f (x,x,())=true:=by simp only[PX,jO,x9,wN,Bool.not_true,cond_false]
theorem wA (x:Door):fH.f (x,x,())=true:=by simp only[PX,fH,zz,xv,xN,xY,bne_self_eq_false,Bool.not_true,cond_false]
theorem v7 (x:Limi):ib.f (x,())=x:=by simp only[PX,ib]
theorem um (x:List MacRow):f5.f (x,())=x:=by
 simp only[PX,f5,cg,ax,al]
 rw[bI x _ rfl (F:=λj y a=> .next (a.set j y)) (λj y a h=>by simp only[PX,gH,kS,al,getD_some h])]
 have:=et (W:=Empty) (λy:MacRow=>y) x 0 (List.replicate x.length (⟨[],0⟩:MacRow)) (by simp)
 rw[this]
 simp[Stp.elim]
theorem wE (x:Mac):fe.f (x,())=x:=by simp only[PX,fe,um]
def dt:Int→List MacRow→List MacRow
 |_,[]=>[]
 |k,_::r=>⟨aI.f (k,()),k+1⟩::dt (k+2) r
theorem qj:∀(k:Int) (xs:List MacRow),(dt k xs).length=xs.length
 |_,[]=>rfl
 |k,_::r=>by simp[dt,qj (k+2) r]
theorem qE:∀(r A:List MacRow) (k:Int),0≤k→k+2*(r.length:Int)≤4611686018427387904→dA (λj a=>(cu j a).nice) 1 r.length (A.length:Int) (k,A++r)= .next (k+2*(r.length:Int),A++dt k r)
 |[],A,k,_,_=>by simp[dA,dt]
 |x::r,A,k,h0,h1=>by
  simp only[List.length_cons]at h1
  have w1:IntKind.wrap .i64 (k+1)=k+1:=bP (by omega) (by omega)
  have w2:IntKind.wrap .i64 (k+1+1)=k+2:=by rw[bP (by omega) (by omega)];omega
  have ih:=qE r (A++[⟨aI.f (k,()),k+1⟩]) (k+2) (by omega) (by omega)
  simp only[PX,cu]at ih
  simp only[List.length_cons,dA,PX,cu,al,Stp.elim,w1,w2]
  have e1:∀y z:MacRow,(A++y::r).set A.length z=A++z::r:=λy z=>by
   rw[List.set_append_right _ _ (Nat.le_refl _)];simp
  have e2:∀y:MacRow,(A++y::r).getD A.length (Ty.zero .macRow)=y:=λy=>getD_some (by simp)
  simp only[e1,e2]
  have e3:A++(⟨aI.f (k,()),k+1⟩:MacRow)::r=(A++[⟨aI.f (k,()),k+1⟩])++r:=by simp
  rw[e3,show(A.length:Int)+1=((A++[(⟨aI.f (k,()),k+1⟩:MacRow)]).length:Int) by simp,ih]
  simp only[dt,List.append_assoc,List.cons_append,List.nil_append]
  congr 2;omega
theorem mK (xs:List MacRow)(k:Int)(h0:0≤k)(h1:k+2*(xs.length:Int)≤4611686018427387904):eD.f (xs,k,())=(k+2*(xs.length:Int),dt k xs):=by
 have:=qE xs [] k h0 h1
 rw[List.nil_append,List.nil_append]at this
 simp only[PX,eD,aw,ax]
 refine(congrArg (Stp.elim _ _) this).trans ?_
 simp only[Stp.elim]
theorem qu (v:List MacRow):∀(r:List MacRow) (j:Nat) (k:Int),0≤k→k+2*(r.length:Int)≤4611686018427387904→v.drop j=dt k r→dA (λj a=>(cz v j a).nice) 1 r.length (j:Int) k= .next (k+2*(r.length:Int))
 |[],_,k,_,_,_=>by simp[dA]
 |x::r,j,k,h0,h1,h2=>by
  simp only[List.length_cons]at h1
  have w1:IntKind.wrap .i64 (k+1)=k+1:=bP (by omega) (by omega)
  have w2:IntKind.wrap .i64 (k+1+1)=k+2:=by rw[bP (by omega) (by omega)];omega
  have hg:v[j]? =some ⟨aI.f (k,()),k+1⟩:=by
   have:=congrArg (λl=>l[0]?) h2
   simpa [dt]using this
  have h3:v.drop (j+1)=dt (k+2) r:=by
   have:=congrArg (List.drop 1) h2
   simpa [dt,List.drop_drop]using this
  have ih:=qu v r (j+1) (k+2) (by omega) (by omega) h3
  simp only[PX,cz]at ih
  simp only[List.length_cons,dA,PX,cz,al,getD_some hg,w1,w2,beq_self_eq_true,bne_self_eq_false,Bool.not_true,cond_false,Stp.elim]
  rw[show(j:Int)+1=((j+1:Nat):Int) by omega,ih]
  congr 1;omega
theorem qh (xs:List MacRow)(k:Int)(h0:0≤k)(h1:k+2*(xs.length:Int)≤4611686018427387904):eE.f (dt k xs,k,())=k+2*(xs.length:Int):=by
 have:=qu (dt k xs) xs 0 k h0 h1 rfl
 simp only[PX,eE,cy,ax,qj]
 refine(congrArg (Stp.elim _ _) this).trans ?_
 simp only[Stp.elim]
theorem om (x:Tupl):fA.f (x,())=x:=by simp only[PX,fA]
theorem pc (x:Opti):eL.f (x,())=x:=by simp only[PX,eL]
theorem xQ (x:Half):lE.f (x,())=x:=by simp only[PX,lE,om,pc]
theorem vF (x:List Tupl):gW.f (x,())=x:=by
 simp only[PX,gW,cA,ax,al]
 rw[bI x _ rfl (F:=λj y a=> .next (a.set j y)) (λj y a h=>by simp only[PX,iq,om,al,getD_some h])]
 rw[et (W:=Empty) (λy:Tupl=>y) x 0 _ (by simp)]
 simp[Stp.elim]
theorem xj (x:List Half):jM.f (x,())=x:=by
 simp only[PX,jM,cT,ax,al]
 rw[bI x _ rfl (F:=λj y a=> .next (a.set j y)) (λj y a h=>by simp only[PX,ju,xQ,al,getD_some h])]
 rw[et (W:=Empty) (λy:Half=>y) x 0 _ (by simp)]
 simp[Stp.elim]
theorem vB (x:List Piec):hY.f (x,())=x:=by
 simp only[PX,hY,cB,ax,al]
 rw[bI x _ rfl (F:=λj y a=> .next (a.set j y)) (λj y a h=>by simp only[PX,iA,mp,al,getD_some h])]
 rw[et (W:=Empty) (λy:Piec=>y) x 0 _ (by simp)]
 simp[Stp.elim]
theorem vE (x:Sndr):gR.f (x,())=x:=by simp only[PX,gR]
theorem sm (x:Recv):fh.f (x,())=x:=by simp only[PX,fh,vB]
theorem xZ (x:Conn):lB.f (x,())=x:=by simp only[PX,lB,om,pc,vE,sm]
theorem xD (x:List Conn):jX.f (x,())=x:=by
 simp only[PX,jX,cU,ax,al]
 rw[bI x _ rfl (F:=λj y a=> .next (a.set j y)) (λj y a h=>by simp only[PX,jF,xZ,al,getD_some h])]
 rw[et (W:=Empty) (λy:Conn=>y) x 0 _ (by simp)]
 simp[Stp.elim]
theorem xT (x:Keys):lM.f (x,())=x:=by simp only[PX,lM,wE]
theorem wQ (x:Tabl):jV.f (x,())=x:=by simp only[PX,jV,xD,vF]
theorem xL (x:Door):fF.f (x,())=x:=by simp only[PX,fF,xT,v7,xj,wQ]
def aR {α:Type}(n:α→Int):List α→Int
 |[]=>0
 |x::r=>n x+aR n r
def bg {α:Type}(n:α→Int)(M:Int→α→α):Int→List α→List α
 |_,[]=>[]
 |k,x::r=>M k x::bg n M (k+n x) r
theorem gJ {α:Type}(n:α→Int)(M:Int→α→α):∀(k:Int) (xs:List α),(bg n M k xs).length=xs.length
 |_,[]=>rfl
 |k,x::r=>by simp[bg,gJ n M (k+n x) r]
theorem aP {α:Type}{n:α→Int}(hn:∀x,0≤n x):∀(xs:List α),0≤aR n xs
 |[]=>Int.le_refl _
 |x::r=>by
  have:=aP hn r
  have:=hn x
  simp only[aR];omega
theorem le {α:Type}{n:α→Int}{B:Int}:∀(xs:List α),(∀x∈xs,n x≤B)→aR n xs≤B*(xs.length:Int)
 |[],_=>by simp[aR]
 |x::r,h=>by
  have h1:=le r λy hy=>h y (List.mem_cons_of_mem _ hy)
  have h2:=h x List.mem_cons_self
  have e:B*((x::r).length:Int)=B*(r.length:Int)+B:=by rw[List.length_cons];push_cast;rw[Int.mul_add,Int.mul_one]
  simp only[aR];omega
theorem fU {α:Type}{n:α→Int}{M:Int→α→α}{T:Int→Int×List α→Stp (Int×List α) Empty}(hn:∀x,0≤n x)(hT:∀(A r:List α) (x:α) (k:Int),0≤k→k+n x≤4611686018427387904→T (A.length:Int) (k,A++x::r)= .next (k+n x,A++M k x::r)):∀(r A:List α) (k:Int),0≤k→k+aR n r≤4611686018427387904→dA T 1 r.length (A.length:Int) (k,A++r)= .next (k+aR n r,A++bg n M k r)
 |[],A,k,_,_=>by simp[dA,bg,aR]
 |x::r,A,k,h0,h1=>by
  simp only[aR]at h1
  have h2:=hn x
  have h3:=aP hn r
  have ih:=fU hn hT r (A++[M k x]) (k+n x) (by omega) (by omega)
  rw[List.length_cons]
  simp only[dA]
  rw[hT A r x k h0 (by omega)]
  simp only[Stp.elim]
  rw[show A++M k x::r=(A++[M k x])++r by simp,show(A.length:Int)+1=((A++[M k x]).length:Int) by simp,ih]
  simp only[bg,aR,List.append_assoc,List.cons_append,List.nil_append]
  congr 2;omega
theorem fS {α W:Type}{n:α→Int}{M:Int→α→α}{H:Int→Int→Stp Int W}(v:List α)(hn:∀x,0≤n x)(hH:∀(j:Nat) (x:α) (k:Int),0≤k→k+n x≤4611686018427387904→v[j]? =some (M k x)→H (j:Int) k= .next (k+n x)):∀(r:List α) (j:Nat) (k:Int),0≤k→k+aR n r≤4611686018427387904→v.drop j=bg n M k r→dA H 1 r.length (j:Int) k= .next (k+aR n r)
 |[],_,k,_,_,_=>by simp[dA,aR]
 |x::r,j,k,h0,h1,h2=>by
  simp only[aR]at h1
  have h5:=hn x
  have h6:=aP hn r
  have hg:v[j]? =some (M k x):=by
   have:=congrArg (λl=>l[0]?) h2
   simpa [bg]using this
  have h3:v.drop (j+1)=bg n M (k+n x) r:=by
   have:=congrArg (List.drop 1) h2
   simpa [bg,List.drop_drop]using this
  have ih:=fS v hn hH r (j+1) (k+n x) (by omega) (by omega) h3
  rw[List.length_cons]
  simp only[dA]
  rw[hH j x k h0 (by omega) hg]
  simp only[Stp.elim]
  rw[show(j:Int)+1=((j+1:Nat):Int) by omega,ih]
  simp only[aR]
  congr 1;omega
theorem nF {α:Type}(A r:List α)(y z:α):(A++y::r).set A.length z=A++z::r:=by
 rw[List.set_append_right _ _ (Nat.le_refl _)];simp
theorem nE {α:Type}(A r:List α)(y d:α):(A++y::r).getD A.length d=y:=getD_some (by simp)
theorem nR {k L N:Int}(j j':Int)(h:j'=j+1)(hj:0≤j)(hN:j'≤N)(h0:0≤k)(hL:0≤L)(h1:k+(N+L)≤4611686018427387904):IntKind.wrap .i64 (k+j+L+1)=k+j'+L:=by rw[bP (by omega) (by omega)];omega
theorem pE {k L N:Int}(j j':Int)(h:j'=j+1)(hj:0≤j)(hN:j'≤N)(h0:0≤k)(hL:0≤L)(h1:k+(N+L)≤4611686018427387904):IntKind.wrap .i64 (k+j+1)=k+j':=by rw[bP (by omega) (by omega)];omega
theorem k7 {k N:Int}(j j':Int)(h:j'=j+1)(hj:0≤j)(hN:j'≤N)(h0:0≤k)(h1:k+N≤4611686018427387904):IntKind.wrap .i64 (k+j+1)=k+j':=by rw[bP (by omega) (by omega)];omega
theorem Av {k L N:Int}(hN:1≤N)(h0:0≤k)(hL:0≤L)(h1:k+(N+L)≤4611686018427387904):IntKind.wrap .i64 (k+1)=k+1:=bP (by omega) (by omega)
theorem zQ {k N:Int}(hN:1≤N)(h0:0≤k)(h1:k+N≤4611686018427387904):IntKind.wrap .i64 (k+1)=k+1:=bP (by omega) (by omega)
def bt (_x:Piec):Int:=2
def iY (k:Int)(_x:Piec):Piec:=⟨k,aI.f (k+1,())⟩
theorem en (x:Piec):0≤bt x:=by unfold bt;omega
theorem oh (A r:List Piec)(x:Piec)(k:Int)(h0:0≤k)(h1:k+bt x≤4611686018427387904):(cI (A.length:Int) (k,A++x::r)).nice= .next (k+bt x,A++iY k x::r):=by
 unfold bt at h1⊢
 have e0:IntKind.wrap .i64 (k+1)=k+1:=zQ (by decide) h0 h1
 have e1:IntKind.wrap .i64 (k+1+1)=k+2:=k7 1 2 (by decide) (by decide) (by decide) h0 h1
 simp only[PX,cI,al,nF,nE,e0,e1,iY]
theorem ot (v:List Piec)(j:Nat)(x:Piec)(k:Int)(h0:0≤k)(h1:k+bt x≤4611686018427387904)(hg:v[j]? =some (iY k x)):(cN v (j:Int) k).nice= .next (k+bt x):=by
 unfold bt at h1⊢
 have e0:IntKind.wrap .i64 (k+1)=k+1:=zQ (by decide) h0 h1
 have e1:IntKind.wrap .i64 (k+1+1)=k+2:=k7 1 2 (by decide) (by decide) (by decide) h0 h1
 simp only[PX,cN,al,getD_some hg,iY,e0,e1,beq_self_eq_true,bne_self_eq_false,Bool.not_true,cond_false]
theorem ug (xs:List Piec)(k:Int)(h0:0≤k)(h1:k+aR bt xs≤4611686018427387904):fq.f (xs,k,())=(k+aR bt xs,bg bt iY k xs):=by
 have:=fU (T:=λj a=>(cI j a).nice) (M:=iY) en oh xs [] k h0 h1
 rw[List.nil_append,List.nil_append]at this
 simp only[PX,fq,ay,ax]
 refine(congrArg (Stp.elim _ _) this).trans ?_
 simp only[Stp.elim]
theorem uh (xs:List Piec)(k:Int)(h0:0≤k)(h1:k+aR bt xs≤4611686018427387904):fv.f (bg bt iY k xs,k,())=k+aR bt xs:=by
 have:=fS (W:=Int) (H:=λj a=>(cN (bg bt iY k xs) j a).nice) (M:=iY) (bg bt iY k xs) en (λj x k h0 h1 hg=>ot _ j x k h0 h1 hg) xs 0 k h0 h1 rfl
 simp only[PX,fv,cG,ax,gJ]
 refine(congrArg (Stp.elim _ _) this).trans ?_
 simp only[Stp.elim]
def bW (_x:Half):Int:=13
def iz (k:Int)(_x:Half):Half:=⟨⟨k,k+1,k+2⟩,k+3,k+4,⟨k+5,k+6,((k+7).tmod 3==0),((k+8).tmod 3==0),k+9,k+10⟩,k+11,k+12⟩
theorem ed (x:Half):0≤bW x:=by unfold bW;omega
theorem pH (A r:List Half)(x:Half)(k:Int)(h0:0≤k)(h1:k+bW x≤4611686018427387904):(de (A.length:Int) (k,A++x::r)).nice= .next (k+bW x,A++iz k x::r):=by
 unfold bW at h1⊢
 have e0:IntKind.wrap .i64 (k+1)=k+1:=zQ (by decide) h0 h1
 have e1:IntKind.wrap .i64 (k+1+1)=k+2:=k7 1 2 (by decide) (by decide) (by decide) h0 h1
 have e2:IntKind.wrap .i64 (k+2+1)=k+3:=k7 2 3 (by decide) (by decide) (by decide) h0 h1
 have e3:IntKind.wrap .i64 (k+3+1)=k+4:=k7 3 4 (by decide) (by decide) (by decide) h0 h1
 have e4:IntKind.wrap .i64 (k+4+1)=k+5:=k7 4 5 (by decide) (by decide) (by decide) h0 h1
 have e5:IntKind.wrap .i64 (k+5+1)=k+6:=k7 5 6 (by decide) (by decide) (by decide) h0 h1
 have e6:IntKind.wrap .i64 (k+6+1)=k+7:=k7 6 7 (by decide) (by decide) (by decide) h0 h1
 have e7:IntKind.wrap .i64 (k+7+1)=k+8:=k7 7 8 (by decide) (by decide) (by decide) h0 h1
 have e8:IntKind.wrap .i64 (k+8+1)=k+9:=k7 8 9 (by decide) (by decide) (by decide) h0 h1
 have e9:IntKind.wrap .i64 (k+9+1)=k+10:=k7 9 10 (by decide) (by decide) (by decide) h0 h1
 have e10:IntKind.wrap .i64 (k+10+1)=k+11:=k7 10 11 (by decide) (by decide) (by decide) h0 h1
 have e11:IntKind.wrap .i64 (k+11+1)=k+12:=k7 11 12 (by decide) (by decide) (by decide) h0 h1
 have e12:IntKind.wrap .i64 (k+12+1)=k+13:=k7 12 13 (by decide) (by decide) (by decide) h0 h1
 simp only[PX,de,al,nF,nE,e0,e1,e2,e3,e4,e5,e6,e7,e8,e9,e10,e11,e12,iz]
theorem pF (v:List Half)(j:Nat)(x:Half)(k:Int)(h0:0≤k)(h1:k+bW x≤4611686018427387904)(hg:v[j]? =some (iz k x)):(dn v (j:Int) k).nice= .next (k+bW x):=by
 unfold bW at h1⊢
 have e0:IntKind.wrap .i64 (k+1)=k+1:=zQ (by decide) h0 h1
 have e1:IntKind.wrap .i64 (k+1+1)=k+2:=k7 1 2 (by decide) (by decide) (by decide) h0 h1
 have e2:IntKind.wrap .i64 (k+2+1)=k+3:=k7 2 3 (by decide) (by decide) (by decide) h0 h1
 have e3:IntKind.wrap .i64 (k+3+1)=k+4:=k7 3 4 (by decide) (by decide) (by decide) h0 h1
 have e4:IntKind.wrap .i64 (k+4+1)=k+5:=k7 4 5 (by decide) (by decide) (by decide) h0 h1
 have e5:IntKind.wrap .i64 (k+5+1)=k+6:=k7 5 6 (by decide) (by decide) (by decide) h0 h1
 have e6:IntKind.wrap .i64 (k+6+1)=k+7:=k7 6 7 (by decide) (by decide) (by decide) h0 h1
 have e7:IntKind.wrap .i64 (k+7+1)=k+8:=k7 7 8 (by decide) (by decide) (by decide) h0 h1
 have e8:IntKind.wrap .i64 (k+8+1)=k+9:=k7 8 9 (by decide) (by decide) (by decide) h0 h1
 have e9:IntKind.wrap .i64 (k+9+1)=k+10:=k7 9 10 (by decide) (by decide) (by decide) h0 h1
 have e10:IntKind.wrap .i64 (k+10+1)=k+11:=k7 10 11 (by decide) (by decide) (by decide) h0 h1
 have e11:IntKind.wrap .i64 (k+11+1)=k+12:=k7 11 12 (by decide) (by decide) (by decide) h0 h1
 have e12:IntKind.wrap .i64 (k+12+1)=k+13:=k7 12 13 (by decide) (by decide) (by decide) h0 h1
 simp only[PX,dn,al,getD_some hg,iz,e0,e1,e2,e3,e4,e5,e6,e7,e8,e9,e10,e11,e12,beq_self_eq_true,bne_self_eq_false,Bool.not_true,cond_false]
theorem vv (xs:List Half)(k:Int)(h0:0≤k)(h1:k+aR bW xs≤4611686018427387904):ge.f (xs,k,())=(k+aR bW xs,bg bW iz k xs):=by
 have:=fU (T:=λj a=>(de j a).nice) (M:=iz) ed pH xs [] k h0 h1
 rw[List.nil_append,List.nil_append]at this
 simp only[PX,ge,aC,ax]
 refine(congrArg (Stp.elim _ _) this).trans ?_
 simp only[Stp.elim]
theorem vX (xs:List Half)(k:Int)(h0:0≤k)(h1:k+aR bW xs≤4611686018427387904):fW.f (bg bW iz k xs,k,())=k+aR bW xs:=by
 have:=fS (W:=Int) (H:=λj a=>(dn (bg bW iz k xs) j a).nice) (M:=iz) (bg bW iz k xs) ed (λj x k h0 h1 hg=>pF _ j x k h0 h1 hg) xs 0 k h0 h1 rfl
 simp only[PX,fW,dm,ax,gJ]
 refine(congrArg (Stp.elim _ _) this).trans ?_
 simp only[Stp.elim]
def cL (_x:Tupl):Int:=3
def fZ (k:Int)(_x:Tupl):Tupl:=⟨k,k+1,k+2⟩
theorem er (x:Tupl):0≤cL x:=by unfold cL;omega
theorem pb (A r:List Tupl)(x:Tupl)(k:Int)(h0:0≤k)(h1:k+cL x≤4611686018427387904):(cJ (A.length:Int) (k,A++x::r)).nice= .next (k+cL x,A++fZ k x::r):=by
 unfold cL at h1⊢
 have e0:IntKind.wrap .i64 (k+1)=k+1:=zQ (by decide) h0 h1
 have e1:IntKind.wrap .i64 (k+1+1)=k+2:=k7 1 2 (by decide) (by decide) (by decide) h0 h1
 have e2:IntKind.wrap .i64 (k+2+1)=k+3:=k7 2 3 (by decide) (by decide) (by decide) h0 h1
 simp only[PX,cJ,al,nF,nE,e0,e1,e2,fZ]
theorem oI (v:List Tupl)(j:Nat)(x:Tupl)(k:Int)(h0:0≤k)(h1:k+cL x≤4611686018427387904)(hg:v[j]? =some (fZ k x)):(cM v (j:Int) k).nice= .next (k+cL x):=by
 unfold cL at h1⊢
 have e0:IntKind.wrap .i64 (k+1)=k+1:=zQ (by decide) h0 h1
 have e1:IntKind.wrap .i64 (k+1+1)=k+2:=k7 1 2 (by decide) (by decide) (by decide) h0 h1
 have e2:IntKind.wrap .i64 (k+2+1)=k+3:=k7 2 3 (by decide) (by decide) (by decide) h0 h1
 simp only[PX,cM,al,getD_some hg,fZ,e0,e1,e2,beq_self_eq_true,bne_self_eq_false,Bool.not_true,cond_false]
theorem uH (xs:List Tupl)(k:Int)(h0:0≤k)(h1:k+aR cL xs≤4611686018427387904):fp.f (xs,k,())=(k+aR cL xs,bg cL fZ k xs):=by
 have:=fU (T:=λj a=>(cJ j a).nice) (M:=fZ) er pb xs [] k h0 h1
 rw[List.nil_append,List.nil_append]at this
 simp only[PX,fp,az,ax]
 refine(congrArg (Stp.elim _ _) this).trans ?_
 simp only[Stp.elim]
theorem tT (xs:List Tupl)(k:Int)(h0:0≤k)(h1:k+aR cL xs≤4611686018427387904):fi.f (bg cL fZ k xs,k,())=k+aR cL xs:=by
 have:=fS (W:=Int) (H:=λj a=>(cM (bg cL fZ k xs) j a).nice) (M:=fZ) (bg cL fZ k xs) er (λj x k h0 h1 hg=>oI _ j x k h0 h1 hg) xs 0 k h0 h1 rfl
 simp only[PX,fi,cH,ax,gJ]
 refine(congrArg (Stp.elim _ _) this).trans ?_
 simp only[Stp.elim]
def bG (x:Conn):Int:=24+aR bt x.r.held
def eZ (k:Int)(x:Conn):Conn:=⟨⟨k,k+1,k+2⟩,k+3,⟨k+4,aI.f (k+5,()),k+6,((k+7).tmod 3==0),((k+8).tmod 3==0),((k+9).tmod 3==0)⟩,⟨k+10,aI.f (k+11,()),bg bt iY (k+12) x.r.held,k+12+aR bt x.r.held,((k+13+aR bt x.r.held).tmod 3==0)⟩,k+14+aR bt x.r.held,k+15+aR bt x.r.held,⟨k+16+aR bt x.r.held,k+17+aR bt x.r.held,((k+18+aR bt x.r.held).tmod 3==0),((k+19+aR bt x.r.held).tmod 3==0),k+20+aR bt x.r.held,k+21+aR bt x.r.held⟩,k+22+aR bt x.r.held,k+23+aR bt x.r.held⟩
theorem d5 (x:Conn):0≤bG x:=by have:=aP en x.r.held;unfold bG;omega
set_option maxHeartbeats 1000000 in theorem pL (A r:List Conn)(x:Conn)(k:Int)(h0:0≤k)(h1:k+bG x≤4611686018427387904):(dq (A.length:Int) (k,A++x::r)).nice= .next (k+bG x,A++eZ k x::r):=by
 unfold bG at h1⊢
 have hn:=aP en x.r.held
 have hm12:=ug x.r.held (k+12) (by omega) (by omega)
 simp only[eZ]
 generalize aR bt x.r.held=L at*
 have e0:IntKind.wrap .i64 (k+1)=k+1:=Av (by decide) h0 hn h1
 have e1:IntKind.wrap .i64 (k+1+1)=k+2:=pE 1 2 (by decide) (by decide) (by decide) h0 hn h1
 have e2:IntKind.wrap .i64 (k+2+1)=k+3:=pE 2 3 (by decide) (by decide) (by decide) h0 hn h1
 have e3:IntKind.wrap .i64 (k+3+1)=k+4:=pE 3 4 (by decide) (by decide) (by decide) h0 hn h1
 have e4:IntKind.wrap .i64 (k+4+1)=k+5:=pE 4 5 (by decide) (by decide) (by decide) h0 hn h1
 have e5:IntKind.wrap .i64 (k+5+1)=k+6:=pE 5 6 (by decide) (by decide) (by decide) h0 hn h1
 have e6:IntKind.wrap .i64 (k+6+1)=k+7:=pE 6 7 (by decide) (by decide) (by decide) h0 hn h1
 have e7:IntKind.wrap .i64 (k+7+1)=k+8:=pE 7 8 (by decide) (by decide) (by decide) h0 hn h1
 have e8:IntKind.wrap .i64 (k+8+1)=k+9:=pE 8 9 (by decide) (by decide) (by decide) h0 hn h1
 have e9:IntKind.wrap .i64 (k+9+1)=k+10:=pE 9 10 (by decide) (by decide) (by decide) h0 hn h1
 have e10:IntKind.wrap .i64 (k+10+1)=k+11:=pE 10 11 (by decide) (by decide) (by decide) h0 hn h1
 have e11:IntKind.wrap .i64 (k+11+1)=k+12:=pE 11 12 (by decide) (by decide) (by decide) h0 hn h1
 have e12:IntKind.wrap .i64 (k+12+L+1)=k+13+L:=nR 12 13 (by decide) (by decide) (by decide) h0 hn h1
 have e13:IntKind.wrap .i64 (k+13+L+1)=k+14+L:=nR 13 14 (by decide) (by decide) (by decide) h0 hn h1
 have e14:IntKind.wrap .i64 (k+14+L+1)=k+15+L:=nR 14 15 (by decide) (by decide) (by decide) h0 hn h1
 have e15:IntKind.wrap .i64 (k+15+L+1)=k+16+L:=nR 15 16 (by decide) (by decide) (by decide) h0 hn h1
 have e16:IntKind.wrap .i64 (k+16+L+1)=k+17+L:=nR 16 17 (by decide) (by decide) (by decide) h0 hn h1
 have e17:IntKind.wrap .i64 (k+17+L+1)=k+18+L:=nR 17 18 (by decide) (by decide) (by decide) h0 hn h1
 have e18:IntKind.wrap .i64 (k+18+L+1)=k+19+L:=nR 18 19 (by decide) (by decide) (by decide) h0 hn h1
 have e19:IntKind.wrap .i64 (k+19+L+1)=k+20+L:=nR 19 20 (by decide) (by decide) (by decide) h0 hn h1
 have e20:IntKind.wrap .i64 (k+20+L+1)=k+21+L:=nR 20 21 (by decide) (by decide) (by decide) h0 hn h1
 have e21:IntKind.wrap .i64 (k+21+L+1)=k+22+L:=nR 21 22 (by decide) (by decide) (by decide) h0 hn h1
 have e22:IntKind.wrap .i64 (k+22+L+1)=k+23+L:=nR 22 23 (by decide) (by decide) (by decide) h0 hn h1
 have e23:IntKind.wrap .i64 (k+23+L+1)=k+24+L:=nR 23 24 (by decide) (by decide) (by decide) h0 hn h1
 simp only[PX,dq,al,nF,nE,e0,e1,e2,e3,e4,e5,e6,e7,e8,e9,e10,e11,e12,e13,e14,e15,e16,e17,e18,e19,e20,e21,e22,e23,hm12,eZ]
 congr 2;omega
set_option maxHeartbeats 1000000 in theorem pV (v:List Conn)(j:Nat)(x:Conn)(k:Int)(h0:0≤k)(h1:k+bG x≤4611686018427387904)(hg:v[j]? =some (eZ k x)):(dh v (j:Int) k).nice= .next (k+bG x):=by
 unfold bG at h1⊢
 have hn:=aP en x.r.held
 have hh12:=uh x.r.held (k+12) (by omega) (by omega)
 simp only[eZ]at hg
 generalize aR bt x.r.held=L at*
 have e0:IntKind.wrap .i64 (k+1)=k+1:=Av (by decide) h0 hn h1
 have e1:IntKind.wrap .i64 (k+1+1)=k+2:=pE 1 2 (by decide) (by decide) (by decide) h0 hn h1
 have e2:IntKind.wrap .i64 (k+2+1)=k+3:=pE 2 3 (by decide) (by decide) (by decide) h0 hn h1
 have e3:IntKind.wrap .i64 (k+3+1)=k+4:=pE 3 4 (by decide) (by decide) (by decide) h0 hn h1
 have e4:IntKind.wrap .i64 (k+4+1)=k+5:=pE 4 5 (by decide) (by decide) (by decide) h0 hn h1
 have e5:IntKind.wrap .i64 (k+5+1)=k+6:=pE 5 6 (by decide) (by decide) (by decide) h0 hn h1
 have e6:IntKind.wrap .i64 (k+6+1)=k+7:=pE 6 7 (by decide) (by decide) (by decide) h0 hn h1
 have e7:IntKind.wrap .i64 (k+7+1)=k+8:=pE 7 8 (by decide) (by decide) (by decide) h0 hn h1
 have e8:IntKind.wrap .i64 (k+8+1)=k+9:=pE 8 9 (by decide) (by decide) (by decide) h0 hn h1
 have e9:IntKind.wrap .i64 (k+9+1)=k+10:=pE 9 10 (by decide) (by decide) (by decide) h0 hn h1
 have e10:IntKind.wrap .i64 (k+10+1)=k+11:=pE 10 11 (by decide) (by decide) (by decide) h0 hn h1
 have e11:IntKind.wrap .i64 (k+11+1)=k+12:=pE 11 12 (by decide) (by decide) (by decide) h0 hn h1
 have e12:IntKind.wrap .i64 (k+12+L+1)=k+13+L:=nR 12 13 (by decide) (by decide) (by decide) h0 hn h1
 have e13:IntKind.wrap .i64 (k+13+L+1)=k+14+L:=nR 13 14 (by decide) (by decide) (by decide) h0 hn h1
 have e14:IntKind.wrap .i64 (k+14+L+1)=k+15+L:=nR 14 15 (by decide) (by decide) (by decide) h0 hn h1
 have e15:IntKind.wrap .i64 (k+15+L+1)=k+16+L:=nR 15 16 (by decide) (by decide) (by decide) h0 hn h1
 have e16:IntKind.wrap .i64 (k+16+L+1)=k+17+L:=nR 16 17 (by decide) (by decide) (by decide) h0 hn h1
 have e17:IntKind.wrap .i64 (k+17+L+1)=k+18+L:=nR 17 18 (by decide) (by decide) (by decide) h0 hn h1
 have e18:IntKind.wrap .i64 (k+18+L+1)=k+19+L:=nR 18 19 (by decide) (by decide) (by decide) h0 hn h1
 have e19:IntKind.wrap .i64 (k+19+L+1)=k+20+L:=nR 19 20 (by decide) (by decide) (by decide) h0 hn h1
 have e20:IntKind.wrap .i64 (k+20+L+1)=k+21+L:=nR 20 21 (by decide) (by decide) (by decide) h0 hn h1
 have e21:IntKind.wrap .i64 (k+21+L+1)=k+22+L:=nR 21 22 (by decide) (by decide) (by decide) h0 hn h1
 have e22:IntKind.wrap .i64 (k+22+L+1)=k+23+L:=nR 22 23 (by decide) (by decide) (by decide) h0 hn h1
 have e23:IntKind.wrap .i64 (k+23+L+1)=k+24+L:=nR 23 24 (by decide) (by decide) (by decide) h0 hn h1
 have hz12:decide (k+12+L<0)=false:=by simp;omega
 simp only[PX,dh,al,getD_some hg,eZ,e0,e1,e2,e3,e4,e5,e6,e7,e8,e9,e10,e11,e12,e13,e14,e15,e16,e17,e18,e19,e20,e21,e22,e23,hh12,hz12,beq_self_eq_true,bne_self_eq_false,Bool.not_true,cond_false]
 congr 1;omega
theorem vq (xs:List Conn)(k:Int)(h0:0≤k)(h1:k+aR bG xs≤4611686018427387904):f0.f (xs,k,())=(k+aR bG xs,bg bG eZ k xs):=by
 have:=fU (T:=λj a=>(dq j a).nice) (M:=eZ) d5 pL xs [] k h0 h1
 rw[List.nil_append,List.nil_append]at this
 simp only[PX,f0,aD,ax]
 refine(congrArg (Stp.elim _ _) this).trans ?_
 simp only[Stp.elim]
theorem vn (xs:List Conn)(k:Int)(h0:0≤k)(h1:k+aR bG xs≤4611686018427387904):gk.f (bg bG eZ k xs,k,())=k+aR bG xs:=by
 have:=fS (W:=Int) (H:=λj a=>(dh (bg bG eZ k xs) j a).nice) (M:=eZ) (bg bG eZ k xs) d5 (λj x k h0 h1 hg=>pV _ j x k h0 h1 hg) xs 0 k h0 h1 rfl
 simp only[PX,gk,dr,ax,gJ]
 refine(congrArg (Stp.elim _ _) this).trans ?_
 simp only[Stp.elim]
def cm (x:Keys):Int:=2*(x.now.rows.length:Int)+2*(x.before.rows.length:Int)
def jt (x:Tabl):Int:=aR bG x.conns+aR cL x.waiting
def gu (x:Door):Int:=cm x.keys+aR bW x.halves+jt x.table
theorem gU (x:Tabl):0≤jt x:=by
 have:=aP d5 x.conns
 have:=aP er x.waiting
 unfold jt;omega
theorem lj (x:Door):0≤gu x:=by
 have:=aP ed x.halves
 have:=gU x.table
 unfold gu cm;omega
theorem vD (x:Keys)(k:Int)(h0:0≤k)(h1:k+cm x≤4611686018427387904):gY.f (x,k,())=(k+cm x,dt k x.now.rows,dt (k+2*(x.now.rows.length:Int)) x.before.rows):=by
 unfold cm at h1⊢
 simp only[PX,gY,ex,mK x.now.rows k h0 (by omega),mK x.before.rows (k+2*(x.now.rows.length:Int)) (by omega) (by omega)]
 congr 1;omega
theorem vI (x:Keys)(k:Int)(h0:0≤k)(h1:k+cm x≤4611686018427387904)(y:Keys)(e1:y.now.rows=dt k x.now.rows)(e2:y.before.rows=dt (k+2*(x.now.rows.length:Int)) x.before.rows):hP.f (y,k,())=k+cm x:=by
 unfold cm at h1⊢
 simp only[PX,hP,jJ,e1,e2,qh x.now.rows k h0 (by omega)]
 rw[show decide (k+2*(x.now.rows.length:Int)<0)=false by simp;omega]
 simp only[cond_false,qh x.before.rows (k+2*(x.now.rows.length:Int)) (by omega) (by omega)]
 rw[show decide (k+2*(x.now.rows.length:Int)<0)=false by simp;omega,show decide (k+2*(x.now.rows.length:Int)+2*(x.before.rows.length:Int)<0)=false by simp;omega]
 simp only[cond_false]
 rw[show decide (k+2*(x.now.rows.length:Int)+2*(x.before.rows.length:Int)<0)=false by simp;omega]
 simp only[cond_false]
 omega
theorem vS (x:Tabl)(k:Int)(h0:0≤k)(h1:k+jt x≤4611686018427387904):fX.f (x,k,())=(k+jt x,bg bG eZ k x.conns,bg cL fZ (k+aR bG x.conns) x.waiting):=by
 have a:=aP d5 x.conns
 have b:=aP er x.waiting
 unfold jt at h1⊢
 simp only[PX,fX,vq x.conns k h0 (by omega),uH x.waiting (k+aR bG x.conns) (by omega) (by omega)]
 congr 1;omega
theorem vW (x:Tabl)(k:Int)(h0:0≤k)(h1:k+jt x≤4611686018427387904)(y:Tabl)(e1:y.conns=bg bG eZ k x.conns)(e2:y.waiting=bg cL fZ (k+aR bG x.conns) x.waiting):gd.f (y,k,())=k+jt x:=by
 have a:=aP d5 x.conns
 have b:=aP er x.waiting
 unfold jt at h1⊢
 simp only[PX,gd,e1,e2,vn x.conns k h0 (by omega)]
 rw[show decide (k+aR bG x.conns<0)=false by simp;omega]
 simp only[cond_false,tT x.waiting (k+aR bG x.conns) (by omega) (by omega)]
 rw[show decide (k+aR bG x.conns+aR cL x.waiting<0)=false by simp;omega]
 simp only[cond_false]
 omega
theorem qM (x:Door)(k:Int)(h0:0≤k)(h1:k+gu x≤4611686018427387904):fG.f (x,k,())=(k+gu x,dt k x.keys.now.rows,dt (k+2*(x.keys.now.rows.length:Int)) x.keys.before.rows,bg bW iz (k+cm x.keys) x.halves,bg bG eZ (k+cm x.keys+aR bW x.halves) x.table.conns,bg cL fZ (k+cm x.keys+aR bW x.halves+aR bG x.table.conns) x.table.waiting):=by
 have a:=aP ed x.halves
 have b:=gU x.table
 have c:0≤cm x.keys:=by unfold cm;omega
 unfold gu at h1⊢
 simp only[PX,fG,vD x.keys k h0 (by omega),vv x.halves (k+cm x.keys) (by omega) (by omega),vS x.table (k+cm x.keys+aR bW x.halves) (by omega) (by omega)]
 congr 1;omega
theorem vZ (x:Door)(k:Int)(h0:0≤k)(h1:k+gu x≤4611686018427387904)(y:Door)(e1:y.keys.now.rows=dt k x.keys.now.rows)(e2:y.keys.before.rows=dt (k+2*(x.keys.now.rows.length:Int)) x.keys.before.rows)(e3:y.halves=bg bW iz (k+cm x.keys) x.halves)(e4:y.table.conns=bg bG eZ (k+cm x.keys+aR bW x.halves) x.table.conns)(e5:y.table.waiting=bg cL fZ (k+cm x.keys+aR bW x.halves+aR bG x.table.conns) x.table.waiting):fR.f (y,k,())=k+gu x:=by
 have a:=aP ed x.halves
 have b:=gU x.table
 have c:0≤cm x.keys:=by unfold cm;omega
 unfold gu at h1⊢
 simp only[PX,fR,vI x.keys k h0 (by omega) y.keys e1 e2]
 rw[show decide (k+cm x.keys<0)=false by simp;omega]
 simp only[cond_false,e3,vX x.halves (k+cm x.keys) (by omega) (by omega)]
 rw[show decide (k+cm x.keys+aR bW x.halves<0)=false by simp;omega]
 simp only[cond_false,vW x.table (k+cm x.keys+aR bW x.halves) (by omega) (by omega) y.table e4 e5]
 rw[show decide (k+cm x.keys+aR bW x.halves+jt x.table<0)=false by simp;omega]
 simp only[cond_false]
 omega
theorem wY (x:Mac)(k:Int)(h0:0≤k)(h1:k+2*(x.rows.length:Int)≤4611686018427387904):ex.f (x,k,())=(k+2*(x.rows.length:Int),dt k x.rows):=by
 simp only[PX,ex,mK x.rows k h0 h1]
theorem xz (x:Conn)(h:am x):bG x≤8589934616:=by
 have h2:x.r.held.length≤4294967296:=by unfold am at h;omega
 have h3:=le (n:=bt) (B:=2) x.r.held λy _=>by unfold bt;omega
 unfold bG;omega
theorem rZ (d:Door)(h:ba d)(hc:d.table.conns.length≤268435456):gu d≤2400000000000000000:=by
 unfold ba at h
 obtain⟨h1,_,h2,_,h3,_,h4,h5⟩:=h
 have a:=le (n:=bW) (B:=13) d.halves λy _=>by unfold bW;omega
 have b:=le (n:=bG) (B:=8589934616) d.table.conns λy hy=>xz y (h4 y hy)
 have c:=le (n:=cL) (B:=3) d.table.waiting λy _=>by unfold cL;omega
 unfold gu cm jt
 omega
theorem kO (x0:Door)(x1:Mac)(hf:a8 [.st .door,.st .mac] (x0,x1,())):dN.f (x0,x1,())=true:=by
 simp only[a8,Pk.fact,dS,cK,Fl.fact,Ty.fl,Ty.toH]at hf
 obtain⟨⟨_,_,_,_,_,_,⟨n1,n2⟩,_,_,_,⟨m1,m2⟩,_,_,_,_,_,⟨hh,_⟩,⟨hl,he⟩,⟨hw,_⟩,_⟩,⟨_,_,_,⟨r1,r2⟩,_⟩,_⟩:=hf
 refine Eq.trans (b:=bif decide (bh.f (x0,1048576,())<0)then true else bif decide (bD.f (x1,bh.f (x0,1048576,()),())<0)then true else Tr.nice _) rfl ?_
 rcases Bool.eq_false_or_eq_true (decide (bh.f (x0,1048576,())<0))with hz|hz
 ·rw[hz,cond_true]
 have k1:0≤bh.f (x0,1048576,()):=by simpa using hz
 have hD:=s7 x0 1048576 (by omega) (by omega) n1 n2 m1 m2 hh hl he hw k1
 have hC:=(xB x0 1048576 (by omega) (by omega) n1 n2 m1 m2 hh hl he hw k1).2
 rcases Bool.eq_false_or_eq_true (decide (bD.f (x1,bh.f (x0,1048576,()),())<0))with hz2|hz2
 ·rw[hz,cond_false,hz2,cond_true]
 have hM:=(nS x1 _ k1 (by omega) r1 r2 (by simpa using hz2)).2
 have hr:x1.rows.length≤4294967296:=by unfold aX at hM;omega
 have e1:=si x0 x1
 have e2:bc.f (x0,x1,())={x0 with keys:=gy.f (x0.keys,x1,())}:=by simp only[PX,bc,mZ]
 have hg:ba (bc.f (x0,x1,())):=bc.c.h (x0,x1,()) ⟨hD.2,hM⟩
 have hgc:(bc.f (x0,x1,())).table.conns.length≤268435456:=by rw[e2];show x0.table.conns.length≤268435456;omega
 have b0:=rZ x0 hD.2 (by omega)
 have b1:=rZ _ hg hgc
 have c0:=lj x0
 have c1:=lj (bc.f (x0,x1,()))
 rw[hz,cond_false,hz2,cond_false]
 simp only[PX,xL,wE,e1,wA,wK,Bool.not_true,cond_false]
 generalize bc.f (x0,x1,())=g at*
 have m0:=qM x0 1 (by decide) (by omega)
 have m3:=wY x1 (1+gu x0) (by omega) (by omega)
 have m1:=qM g 1 (by decide) (by omega)
 have z1:decide (1+gu x0+2*(x1.rows.length:Int)<0)=false:=by simp;omega
 have z2:decide (1+gu g<0)=false:=by simp;omega
 simp only[wA,wK,Bool.not_true,m0,m3,m1,z1,cond_false]
 rw[vZ g 1 (by decide) (by omega) _ rfl rfl rfl rfl rfl]
 simp only[z2,bne_self_eq_false,cond_false]

end
end Go.Proofs.YtbkjnlihfgkkaaaGreat
