/-
  Contracts of functions and plain laws (printed by a program): each theorem says what a function of the program returns; conditions are its hypotheses.
-/
import Derived.Test.YtffjmkhjhchnmaaGreatBase
set_option linter.all false
set_option maxRecDepth 4000
namespace Go.Proofs.YtffjmkhjhchnmaaGreat
open Go Go.RowKit
noncomputable section
@[reducible] def zp (t i:Nat):Nat×Bool×List Pt:=(t,false,[.ptr i 0])
@[reducible] def zi (t:Nat):Nat×Bool×List Pt:=(t,false,[.int .i64])
@[reducible] def zb (t:Nat):Nat×Bool×List Pt:=(t,false,[.bool])
@[reducible] def zu (t:Nat):Nat×Bool×List Pt:=(t,false,[.undef])
@[reducible] def zs (t:Nat):Nat×Bool×List Pt:=(t,false,[.str])
@[reducible] def zl (n:Nat)(t:Ty):Nat×Bool×List Pt:=(n,false,[.sl .arg t])
@[reducible] def zo (n k:Nat):Nat×Bool×List Pt:=(n,false,[.own k])
@[reducible] def zx (t:Ty):Osh:=.box [.st t []]
@[reducible] def zg (t:Ty):Osh:=.box [.st t [.sl .arg]]
@[reducible] def zk (t:Ty)(k:Nat):Osh:=.box [.st t [.own k]]
@[reducible] def zf :Osh:=.of false true
@[reducible] def za (t:Ty):Osh:=.arr t false true
def pL:Sh:=⟨[zl 0 .str,zl 1 .str,zi 5],[]⟩
noncomputable def pQ (v0 v1:List ah)(v2:Int)(a:Unit):Tr (Stp (Unit) ((Unit))):=
 .grd (aY v0 v2)<|
 .grd (aY v1 v2)<|
 .u (!((v0.getD v2.toNat [])==(v1.getD v2.toNat []))) (.r (.out ()))<|
 .r (.next ())
noncomputable def ig:pL.V→nB pL Unit (Unit):=λ(v0,v1,v2,_)=>⟨v2,(),λv2 _=>(v0,v1,v2,()),λv2 _=>(decide (v2<(v0.length:Int))),pQ v0 v1,up,1,(Int.toNat ((v0.length:Int)-v2)),.inl,eR,oB .ret ⟨[zb 4],[]⟩ (λ_=>(false,())) (.exit 0) ⟨[zu 4],[]⟩ (λ_=>())⟩
theorem xK {v0 v1:List ah}{v2:Int}(h0:0≤v2)(h1:(v0.length:Int)≤4611686018427387904)(h2:(v0.length:Int)≤(v1.length:Int)):(ig (v0,v1,v2,())).U (v0.length:Int) (λ_ _=>True) (λ_=>True):=
 iT h0 h1 trivial
noncomputable def jL:FT (List ah×List ah×Unit) (Bool) (λx=>sL sS x.1∧sL sS x.2.1) (λ_ _=>True):= .mk (λ(x0,x1,_)=>
  .u ((x0.length:Int) != (x1.length:Int)) (.r false)<|
  .lp (ig (x0,x1,0,())).lp λw1=> .sum w1 (λ_=>
  .r false)<|
  λ_=>
  .r true) (ot @xK)
noncomputable def DE:=dm st Tryz.func24 [(0,lb [0,1,5] [4])] [] 0 ig (ks:=[.sc (.sl .str),.sc (.sl .str)]) jL rB
noncomputable def fh:FX (List Half×Int×Unit) (Int) (λ_=>True) (bP [.sc (.sl .half),.sc (.int .i64)]):=⟨λ(x0,x1,_)=>
  .u (decide ((IntKind.wrap .i64 (x1-(x0.length:Int)))<0)) (.r (-1))<|
  .r (IntKind.wrap .i64 (x1-(x0.length:Int))),
 λ(x0,x1,_) hp hf=>by
  simp only[bP,Pk.fact,gd,eo,Fl.fact,Ty.fl,Ty.toH]at hf
  refine Tr.F (by kernel_rfl) trivial⟩
theorem Ec (xs:List Half)(k:Int)(h0:0≤k)(h1:k≤1048576)(hl:xs.length≤140737488355328)(h:0≤fh.f (xs,k,())):fh.f (xs,k,())≤k∧xs.length≤1048576:=by
 have w:IntKind.wrap .i64 (k-(xs.length:Int))=k-(xs.length:Int):=aw (by omega) (by omega)
 simp only[FX.f,fh,Tr.nice,w]at h⊢
 by_cases c:k-(xs.length:Int)<0
 ·rw[decide_eq_true c,cond_true]at h;omega
 ·rw[decide_eq_false c,cond_false];exact⟨by omega,by omega⟩
noncomputable def G5:=oG st Tryz.func56 [] (ks:=[.sc (.sl .half),.sc (.int .i64)]) fh rI
noncomputable def gO:FF (Int×Unit) (Int):=⟨λ(x0,_)=>
  .u (decide ((x0.tmod 4294967296)<0)) (.r (IntKind.wrap .i64 ((x0.tmod 4294967296)+4294967296)))<|
  .r (x0.tmod 4294967296)⟩
@[grind=] theorem Pi (x0:Int):gO.f (x0,())=(x0%4294967296):=by
 simp only[gO,FF.f,Tr.nice]
 rcases Int.lt_or_le x0 0 with h|h
 ·rw[(pS 4294967296).2 h,eI]
  cases hd:decide (-(-x0%4294967296)<0)with
  |true=>simp only[decide_eq_true_eq]at hd;simp only[cond_true];omega
  |false=>simp only[decide_eq_false_iff_not]at hd;simp only[cond_false];omega
 ·rw[(pS 4294967296).1 h,eI]
  cases hd:decide (x0%4294967296<0)with
  |true=>simp only[decide_eq_true_eq]at hd;omega
  |false=>rfl
noncomputable def Cm:=kS st Tryz.func60 [] (ks:=[.sc (.int .i64)]) gO rI
def oS:Sh:=⟨[zl 0 .half,zo 3 0,zi 4],[za .half]⟩
noncomputable def n8 (v0:List Half)(v1:Int)(a:List Half):Tr (Stp (List Half) (Empty)):=
 .grd (aY v0 v1)<|
 .u (decide ((v0.getD v1.toNat (Ty.zero .half)).age<6)) (.grd (El a 1 96)<|
  .d (a++[({(v0.getD v1.toNat (Ty.zero .half))with age:=(IntKind.wrap .i64 ((v0.getD v1.toNat (Ty.zero .half)).age+1))}:Half)]) λl1=>
  .r (.next l1))<|
 .r (.next a)
noncomputable def eE:oS.V→rL oS (List Half):=λ(v0,v1,v2,_)=>⟨v1,v2,λv1 a=>(v0,v1,a,()),λv1 _=>(decide (v1<(v0.length:Int))),n8 v0,up,1,(Int.toNat ((v0.length:Int)-v1)),Empty.elim,Prod.mk,oN (.exit 0) ⟨[zu 2,zo 3 0],[za .half]⟩ (λx=>(x.2,()))⟩
theorem wO {v0 v2:List Half}{v1:Int}(h0:0≤v1)(h1:(v0.length:Int)≤4611686018427387904)(h2:sS v0)(h3:(v2.length:Int)≤v1):(eE (v0,v1,v2,())).U (v0.length:Int) (λv1 a=>(a.length:Int)≤v1) (λ_=>True):=
 iT (a:=v2) h0 h1 h3
noncomputable def mS:FT (List Half×Unit) (List Half) (λx=>sS x.1) (λx v=>sS v):=⟨λ(x0,_)=>
  .lp (eE (x0,0,[],())).lp λ(_,a2_0)=>
  .r a2_0,
 λ(x0,_) hp=>by
  refine Tr.L (wO ?_ ?_ ?_ ?_) (λa2_0 _=>Tr.R ?_) (λp=>Empty.elim p)
  all_goals ((try simp only[eE,LC.lp,LC.ct,Ct.lp]at*)<;>grind)⟩
noncomputable def Ay:=dm st Tryz.func61 [(0,lb [0,3,4] [2,3])] [] 0 eE (ks:=[.sc (.sl .half)]) mS (λv=>[(false,[sc (.o true) .half v])])
noncomputable def qu:FF (Limi×Unit) (Limi):=⟨λ(x0,_)=>
  .r x0⟩
noncomputable def Gn:=kS az Tryz.func65 [] (ks:=[.st .limi]) qu (λv=>[(true,Qt v)])
noncomputable def qG:FF (Limi×Limi×Unit) (Bool):=⟨λ(x0,x1,_)=>
  .u (x0.halves != x1.halves) (.r false)<|
  .u (x0.waiting != x1.waiting) (.r false)<|
  .u (x0.conns != x1.conns) (.r false)<|
  .u (x0.chal != x1.chal) (.r false)<|
  .r true⟩
noncomputable def FD:=kS st Tryz.func70 [] (ks:=[.st .limi,.st .limi]) qG rB
def qY:Sh:=⟨[zi 0,zs 3],[]⟩
noncomputable def zY (a:Int×ah):Tr (Stp (Int×ah) ((ah))):=
 .u (decide (0<a.1)) (.grd (Nat.ble ((tY [(IntKind.wrap .u8 (IntKind.wrap .i64 (48+(a.1.tmod 10))))]).length+a.2.length) ak)<|
  .d ((tY [(IntKind.wrap .u8 (IntKind.wrap .i64 (48+(a.1.tmod 10))))])++a.2) λe1=>
  .r (.next ((IntKind.wrap .i64 (a.1.tdiv 10)),e1)))<|
 .r (.out a.2)
noncomputable def mi:qY.V→LW qY (Int×ah) ((ah)):=λ(v0,v1,_)=>⟨(v0,v1),λa=>(a.1,a.2,()),zY,Int.toNat v0,oN (.exit 0) ⟨[zu 2,zs 3],[]⟩ (λp=>(p,()))⟩
theorem zG {v0:Int}{v1:ah}(h0:0≤v0∧v0*10 ^ v1.length≤9223372036854775807∧v1.length≤19):(mi (v0,v1,())).W (λp=>p.length≤19):=
 LW.okW (a:=(v0,v1)) (λa=>0≤a.1∧a.1*10 ^ a.2.length≤9223372036854775807∧a.2.length≤19) (λa=>Int.toNat a.1) rfl h0 λ(v0,v1) hv=>by
  refine Tr.I (λb0=>Tr.Gb ?_ λg1=>Tr.V λe1 he1=>Tr.Rn ?_) λb0=>Tr.Ro ?_
  all_goals ((first|grind|(obtain⟨h1,h2,h3⟩:=hv;simp only[]at h1 h2 h3 he1;simp only[decide_eq_true_eq]at b0;have hq:(0:Int)<10 ^ v1.length:=Int.pow_pos (by omega);have hm:=Int.mul_le_mul_of_nonneg_left (show(1:Int)≤10 ^ v1.length by omega) h1;have h4:v0≤9223372036854775807:=(by omega);have e:IntKind.wrap .i64 (v0.tdiv 10)=v0/10:=(congrArg IntKind.i64.wrap ((vL 10).1 h1)).trans (aw (by omega) (by omega));have h5:v0/10*10 ^ (v1.length+1)≤v0*10 ^ v1.length:=(by rw[Int.pow_succ,Int.mul_comm (10 ^ v1.length) 10,←Int.mul_assoc];exact Int.mul_le_mul_of_nonneg_right (by omega) (Int.le_of_lt hq));have h6:v1.length≤18:=Classical.byContradiction λhh=>(by have h7:v1.length=19:=(by omega);rw[h7]at h2;omega);have h8:e1.length=v1.length+1:=(by rw[he1,List.length_append,ny];simp only[List.length_cons,List.length_nil];omega);simp only[e,h8];exact⟨⟨by omega,Int.le_trans h5 h2,by omega⟩,by omega⟩)))
noncomputable def a8:FT (Int×Unit) (ah) (λx=>x.1≤9223372036854775807) (λx v=>sS v):= .mk (λ(x0,_)=>
  .u (decide (x0≤0)) (.r [109,48])<|
  .lp (mi (x0,[],())).lp λp2a0=>
  .grd (Nat.ble (1+p2a0.length) ak)<|
  .r ([109]++p2a0)) (ot @zG)
@[grind=] theorem Q7 (m:Int):IntKind.wrap .i64 m=min (IntKind.wrap .i64 m) 9223372036854775807:=by rw[eI];omega
noncomputable def cU:=L6 st Tryz.func77 [(0,lb [0,3] [2,3])] [] 0 mi (ks:=[.sc (.int .i64)]) a8 (λv=>[(false,[.c (.str v)])])
def pR:Sh:=⟨[zl 0 .half,zi 1,zi 5],[]⟩
noncomputable def ij (v0:List Half)(v2:Int)(a:Int):Tr (Stp (Int) ((Int))):=
 .grd (aY v0 v2)<|
 .u ((v0.getD v2.toNat (Ty.zero .half)).tuple.ip != a) (.r (.out a))<|
 .grd (aY v0 v2)<|
 .u ((v0.getD v2.toNat (Ty.zero .half)).tuple.port != (IntKind.wrap .i64 (a+1))) (.r (.out (IntKind.wrap .i64 (a+1))))<|
 .grd (aY v0 v2)<|
 .u ((v0.getD v2.toNat (Ty.zero .half)).tuple.my != (IntKind.wrap .i64 ((IntKind.wrap .i64 (a+1))+1))) (.r (.out (IntKind.wrap .i64 ((IntKind.wrap .i64 (a+1))+1))))<|
 .d (IntKind.wrap .i64 ((IntKind.wrap .i64 ((IntKind.wrap .i64 (a+1))+1))+1)) λe1=>
 .grd (aY v0 v2)<|
 .u ((v0.getD v2.toNat (Ty.zero .half)).iss != e1) (.r (.out e1))<|
 .grd (aY v0 v2)<|
 .u ((v0.getD v2.toNat (Ty.zero .half)).irs != (IntKind.wrap .i64 (e1+1))) (.r (.out (IntKind.wrap .i64 (e1+1))))<|
 .grd (aY v0 v2)<|
 .u ((v0.getD v2.toNat (Ty.zero .half)).opts.mss != (IntKind.wrap .i64 ((IntKind.wrap .i64 (e1+1))+1))) (.r (.out (IntKind.wrap .i64 ((IntKind.wrap .i64 (e1+1))+1))))<|
 .d (IntKind.wrap .i64 ((IntKind.wrap .i64 ((IntKind.wrap .i64 (e1+1))+1))+1)) λe2=>
 .grd (aY v0 v2)<|
 .u ((v0.getD v2.toNat (Ty.zero .half)).opts.scale != e2) (.r (.out e2))<|
 .grd (aY v0 v2)<|
 .u (!((v0.getD v2.toNat (Ty.zero .half)).opts.sack==(((IntKind.wrap .i64 (e2+1)).tmod 3)==0))) (.r (.out (IntKind.wrap .i64 (e2+1))))<|
 .grd (aY v0 v2)<|
 .u (!((v0.getD v2.toNat (Ty.zero .half)).opts.stamp==(((IntKind.wrap .i64 ((IntKind.wrap .i64 (e2+1))+1)).tmod 3)==0))) (.r (.out (IntKind.wrap .i64 ((IntKind.wrap .i64 (e2+1))+1))))<|
 .d (IntKind.wrap .i64 ((IntKind.wrap .i64 ((IntKind.wrap .i64 (e2+1))+1))+1)) λe3=>
 .grd (aY v0 v2)<|
 .u ((v0.getD v2.toNat (Ty.zero .half)).opts.val != e3) (.r (.out e3))<|
 .grd (aY v0 v2)<|
 .u ((v0.getD v2.toNat (Ty.zero .half)).opts.echo != (IntKind.wrap .i64 (e3+1))) (.r (.out (IntKind.wrap .i64 (e3+1))))<|
 .grd (aY v0 v2)<|
 .u ((v0.getD v2.toNat (Ty.zero .half)).age != (IntKind.wrap .i64 ((IntKind.wrap .i64 (e3+1))+1))) (.r (.out (IntKind.wrap .i64 ((IntKind.wrap .i64 (e3+1))+1))))<|
 .d (IntKind.wrap .i64 ((IntKind.wrap .i64 ((IntKind.wrap .i64 (e3+1))+1))+1)) λe4=>
 .grd (aY v0 v2)<|
 .u ((v0.getD v2.toNat (Ty.zero .half)).window != e4) (.r (.out e4))<|
 .r (.next (IntKind.wrap .i64 (e4+1)))
noncomputable def ii:pR.V→nB pR Int (Int):=λ(v0,v1,v2,_)=>⟨v2,v1,λv2 a=>(v0,a,v2,()),λv2 _=>(decide (v2<(v0.length:Int))),ij v0,up,1,(Int.toNat ((v0.length:Int)-v2)),.inl,eR,oB .ret ⟨[zi 1,zi 4],[]⟩ (λp=>(p,(-1),())) (.exit 0) ⟨[zi 1,zu 4],[]⟩ (λx=>(x.2,()))⟩
theorem xM {v0:List Half}{v1 v2:Int}(h0:0≤v2)(h1:(v0.length:Int)≤4611686018427387904)(h2:v1≤9223372036854775807):(ii (v0,v1,v2,())).U (v0.length:Int) (λv2 a=>a≤9223372036854775807) (λ_=>True):=
 iT (a:=v1) h0 h1 h2
noncomputable def oU:FT (List Half×Int×Unit) (Int) (λx=>sS x.1∧x.2.1≤9223372036854775807) (λx v=>v≤9223372036854775807):= .mk (λ(x0,x1,_)=>
  .lp (ii (x0,x1,0,())).lp λw5=> .sum w5 (λ_=>
  .r (-1))<|
  λ(_,a5_0)=>
  .r a5_0) (ot @xM)
noncomputable def DS:=dm st Tryz.func79 [(0,lb [0,1,5] [1,4])] [] 0 ii (ks:=[.sc (.sl .half),.sc (.int .i64)]) oU rI
def yF:Sh:=⟨[zl 0 .entr,zo 3 0,zi 4],[za .entr]⟩
noncomputable def yD (v0:List Entr)(v1:Int)(a:List Entr):Tr (Stp (List Entr) (Empty)):=
 .grd (aY v0 v1)<|
 .u (decide ((v0.getD v1.toNat (Ty.zero .entr)).age<9)) (.grd (El a 1 24)<|
  .d (a++[({(v0.getD v1.toNat (Ty.zero .entr))with age:=(IntKind.wrap .i64 ((v0.getD v1.toNat (Ty.zero .entr)).age+1))}:Entr)]) λl1=>
  .r (.next l1))<|
 .r (.next a)
noncomputable def lN:yF.V→rL yF (List Entr):=λ(v0,v1,v2,_)=>⟨v1,v2,λv1 a=>(v0,v1,a,()),λv1 _=>(decide (v1<(v0.length:Int))),yD v0,up,1,(Int.toNat ((v0.length:Int)-v1)),Empty.elim,Prod.mk,oN (.exit 0) ⟨[zu 2,zo 3 0],[za .entr]⟩ (λx=>(x.2,()))⟩
theorem HN {v0 v2:List Entr}{v1:Int}(h0:0≤v1)(h1:(v0.length:Int)≤4611686018427387904)(h2:sS v0)(h3:(v2.length:Int)≤v1):(lN (v0,v1,v2,())).U (v0.length:Int) (λv1 a=>(a.length:Int)≤v1) (λ_=>True):=
 iT (a:=v2) h0 h1 h3
noncomputable def Gg:FT (List Entr×Unit) (List Entr) (λx=>sS x.1) (λx v=>sS v∧v.length≤x.1.length):=⟨λ(x0,_)=>
  .lp (lN (x0,0,[],())).lp λ(_,a2_0)=>
  .r a2_0,
 λ(x0,_) hp=>by
  refine Tr.L (HN ?_ ?_ ?_ ?_) (λa2_0 _=>Tr.R ?_) (λp=>Empty.elim p)
  all_goals ((try simp only[lN,LC.lp,LC.ct,Ct.lp]at*)<;>grind)⟩
noncomputable def MZ:=dm st Tryz.func85 [(0,lb [0,3,4] [2,3])] [] 0 lN (ks:=[.sc (.sl .entr)]) Gg (λv=>[(false,[sc (.o true) .entr v])])
def yI:Sh:=⟨[zo 3 0,zl 7 .entr,zi 8,zi 9],[za .entr]⟩
noncomputable def yS (v0:List Entr)(v2:Int)(a:List Entr):Tr (Stp (List Entr) (Empty)):=
 .grd (aY v0 v2)<|
 .u (decide ((IntKind.wrap .i64 ((v0.getD v2.toNat (Ty.zero .entr)).age+1))≤9)) (.grd (El a 1 24)<|
  .d (a++[({(v0.getD v2.toNat (Ty.zero .entr))with age:=(IntKind.wrap .i64 ((v0.getD v2.toNat (Ty.zero .entr)).age+1))}:Entr)]) λl1=>
  .r (.next l1))<|
 .r (.next a)
noncomputable def lI:yI.V→rL yI (List Entr):=λ(v0,v1,v2,v3,_)=>⟨v2,v3,λv2 a=>(v0,v1,v2,a,()),λv2 _=>(decide (v2<v1)),yS v0,up,1,(Int.toNat (v1-v2)),Empty.elim,Prod.mk,oN (.exit 0) ⟨[zu 2,zo 3 0],[za .entr]⟩ (λx=>(x.2,()))⟩
theorem Hz {v0 v3:List Entr}{v1 v2:Int}(h0:0≤v2)(h1:v1≤4611686018427387904)(h2:sS v0)(h3:v1≤4294967296)(h4:v1≤(v0.length:Int))(h5:(v3.length:Int)≤v2):(lI (v0,v1,v2,v3,())).U v1 (λv2 a=>(a.length:Int)≤v2) (λ_=>True):=
 iT (a:=v3) h0 h1 h5
noncomputable def F9:FT (List Entr×Unit) (List Entr) (λx=>sS x.1) (λx v=>sS v):=⟨λ(x0,_)=>
  .lp (lI (x0,(x0.length:Int),0,[],())).lp λ(_,a2_0)=>
  .r a2_0,
 λ(x0,_) hp=>by
  refine Tr.L (Hz ?_ ?_ ?_ ?_ ?_ ?_) (λa2_0 _=>Tr.R ?_) (λp=>Empty.elim p)
  all_goals ((try simp only[lI,LC.lp,LC.ct,Ct.lp]at*)<;>grind)⟩
noncomputable def MP:=dm az Tryz.func89 [(0,lb [3,7,8,9] [2,3])] [] 0 lI (ks:=[.sc (.sl .entr)]) F9 (λv=>[(false,[sc (.o true) .entr v])])
noncomputable def na:FF (Tupl×Unit) (Tupl):=⟨λ(x0,_)=>
  .r x0⟩
noncomputable def sa:=kS az Tryz.func100 [] (ks:=[.st .tupl]) na (λv=>[(true,Qy v)])
noncomputable def nf:FF (Tupl×Tupl×Unit) (Bool):=⟨λ(x0,x1,_)=>
  .u (x0.ip != x1.ip) (.r false)<|
  .u (x0.port != x1.port) (.r false)<|
  .u (x0.my != x1.my) (.r false)<|
  .r true⟩
noncomputable def r8:=kS st Tryz.func111 [] (ks:=[.st .tupl,.st .tupl]) nf rB
noncomputable def rc:=[cU]
def fY:Sh:=⟨[zo 0 0,zi 1,zi 5],[.arr .macRow false false]⟩
noncomputable def ry:Fx:=⟨115,Tryz.f115,[(0,la ⟨[0,1,5],[],false,1⟩ ⟨[1,4],[],false,1⟩)],1⟩
noncomputable def fU (v1:Int)(a:Int×List MacRow):Tr (Stp (Int×List MacRow) (Empty)):=
 .l a8.c (a.1,()) λc1=>
 .grd (aY a.2 v1)<|
 .grd ((decide (0≤v1))&&(decide (v1<((a.2.set v1.toNat (⟨c1,(a.2.getD v1.toNat (Ty.zero .macRow)).value⟩:MacRow)).length:Int))))<|
 .d ((a.2.set v1.toNat (⟨c1,(a.2.getD v1.toNat (Ty.zero .macRow)).value⟩:MacRow)).set v1.toNat (⟨((a.2.set v1.toNat (⟨c1,(a.2.getD v1.toNat (Ty.zero .macRow)).value⟩:MacRow)).getD v1.toNat (Ty.zero .macRow)).input,(IntKind.wrap .i64 (a.1+1))⟩:MacRow)) λl2=>
 .r (.next ((IntKind.wrap .i64 ((IntKind.wrap .i64 (a.1+1))+1)),l2))
noncomputable def be:fY.V→rL fY (Int×List MacRow):=λ(v0,v1,v2,_)=>⟨v1,(v0,v2),λv1 a=>(a.1,v1,a.2,()),λv1 a=>(decide (v1<(a.2.length:Int))),fU,up,1,(Int.toNat ((v2.length:Int)-v1)),Empty.elim,Prod.mk,oN (.exit 0) ⟨[zi 1,zu 4],[.arr .macRow false false]⟩ (λx=>(x.2.1,x.2.2,()))⟩
theorem vx:LS Tryz.prog ry [0] (ji 0 fY be):=dW st (aL rc) _ be [] trivial
theorem vc {v0 v1:Int}{v2:List MacRow}(h0:0≤v1)(h1:(v2.length:Int)≤4611686018427387904)(h2:sL aj v2)(h3:v2.length=v2.length∧cI aj v2∧v0≤9223372036854775807):(be (v0,v1,v2,())).S (λv1 a=>a.2.length=v2.length∧a.2.length=v2.length∧cI aj a.2∧a.1≤9223372036854775807) (λ_=>True):=by
 refine LC.okS ⟨rfl,h3⟩ (λj a hj hv=>⟨⟨?_, ?_⟩, ?_⟩) (λa hv=> ?_)
 ·simp only[be,decide_eq_true_eq]at*;omega
 ·simp only[be]at*;exact MH (by omega) (by omega)
 ·refine Tr.C ?_ λ_ _ _=>Tr.G2 ?_ λ_=>Tr.G2 ?_ λ_=>Tr.V λ_ _=>Tr.Rn ?_
  all_goals (try simp only[be]at*)<;>(grind)
 ·simp only[be,decide_eq_false_iff_not]at*;omega
noncomputable def lk:FT (List MacRow×Int×Unit) (Int×List MacRow) (λx=>sL aj x.1∧x.2.1≤9223372036854775807) (λx v=>sL aj v.2∧v.1≤9223372036854775807):=⟨λ(x0,x1,_)=>
  .lp (be (x1,0,x0,())).lp λ(_,a3_0,a3_1)=>
  .r (a3_0,a3_1),
 λ(x0,x1,_) hp=>by
  refine Tr.L (vc ?_ ?_ ?_ ?_) (λ(a3_0,a3_1) _=>Tr.R ?_) (λp=>Empty.elim p)
  all_goals ((try simp only[be,LC.lp,LC.ct,Ct.lp]at*)<;>grind)⟩
noncomputable def zE:=jT st ry rc [(ji 0 fY be)] [.wr false [.own 0],.sc (.int .i64)] [.arr .macRow] (λx y=>(y.1,x.2.1,())) lk (λv=>[(false,[.c (.int .i64 v.1)])]) (λx y v=>(v.2,())) Tryz.func115 (by kernel_rfl) ⟨vx,trivial⟩
noncomputable def fS:FX (List Tupl×Int×Unit) (Int) (λ_=>True) (bP [.sc (.sl .tupl),.sc (.int .i64)]):=⟨λ(x0,x1,_)=>
  .u (decide ((IntKind.wrap .i64 (x1-(x0.length:Int)))<0)) (.r (-1))<|
  .r (IntKind.wrap .i64 (x1-(x0.length:Int))),
 λ(x0,x1,_) hp hf=>by
  simp only[bP,Pk.fact,gd,eo,Fl.fact,Ty.fl,Ty.toH]at hf
  refine Tr.F (by kernel_rfl) trivial⟩
theorem A9 (xs:List Tupl)(k:Int)(h0:0≤k)(h1:k≤1048576)(hl:xs.length≤140737488355328)(h:0≤fS.f (xs,k,())):fS.f (xs,k,())≤k∧xs.length≤1048576:=by
 have w:IntKind.wrap .i64 (k-(xs.length:Int))=k-(xs.length:Int):=aw (by omega) (by omega)
 simp only[FX.f,fS,Tr.nice,w]at h⊢
 by_cases c:k-(xs.length:Int)<0
 ·rw[decide_eq_true c,cond_true]at h;omega
 ·rw[decide_eq_false c,cond_false];exact⟨by omega,by omega⟩
noncomputable def GL:=oG st Tryz.func129 [] (ks:=[.sc (.sl .tupl),.sc (.int .i64)]) fS rI
noncomputable def dX:FF (Int×Int×Int×Unit) (Bool):=⟨λ(x0,x1,x2,_)=>
  .u (decide (x1≤x0)) (.r (decide (x0≤x2)))<|
  .r false⟩
@[grind=] theorem dr (x0 x1 x2:Int):dX.f (x0,x1,x2,())=(decide (x1≤x0)&&decide (x0≤x2)):=by
 simp only[dX,FF.f,Tr.nice]
 cases decide (x1≤x0)<;>rfl
noncomputable def fx:=kS st Tryz.func136 [] (ks:=[.sc (.int .i64),.sc (.int .i64),.sc (.int .i64)]) dX rB
def qZ:Sh:=⟨[zp 2 0,zp 3 1,zi 5],[.box [.st .tabl [.sl .arg,.sl .arg]],zx .tupl]⟩
noncomputable def rr (v1:Tabl)(v2:Tupl)(v0:Int)(a:Unit):Tr (Stp (Unit) ((Int))):=
 .grd (aY v1.conns v0)<|
 .u (((v1.conns.getD v0.toNat (Ty.zero .conn)).tuple.ip==v2.ip)&&(((v1.conns.getD v0.toNat (Ty.zero .conn)).tuple.port==v2.port)&&(((v1.conns.getD v0.toNat (Ty.zero .conn)).tuple.my==v2.my)&&true))) (.r (.out v0))<|
 .r (.next ())
noncomputable def jb:qZ.V→nB qZ Unit (Int):=λ(v0,v1,v2,_)=>⟨v0,(),λv0 _=>(v0,v1,v2,()),λv0 _=>(decide (v0<(v1.conns.length:Int))),rr v1 v2,up,1,(Int.toNat ((v1.conns.length:Int)-v0)),.inl,eR,oB .ret ⟨[zi 4],[]⟩ (λp=>(p,())) (.exit 0) ⟨[zu 4],[]⟩ (λ_=>())⟩
theorem zy {v0:Int}{v1:Tabl}{v2:Tupl}(h0:0≤v0)(h1:(v1.conns.length:Int)≤4611686018427387904):(jb (v0,v1,v2,())).U (v1.conns.length:Int) (λ_ _=>True) (λp=>v0≤p∧p<(v1.conns.length:Int)):=
 iT h0 h1 trivial
noncomputable def hP:FT (Tabl×Tupl×Unit) (Int) (λx=>wS x.1.conns) (λx v=> -1≤v∧v<x.1.conns.length):= .mk (λ(x0,x1,_)=>
  .lp (jb (0,x0,x1,())).lp λw1=> .sum w1 (λp1a0=>
  .r p1a0)<|
  λ_=>
  .r (-1)) (ot @zy)
noncomputable def qT:=dm st Tryz.func137 [(0,lb [2,3,5] [4])] [] 0 jb (ks:=[.st .tabl,.st .tupl]) hP rI
noncomputable def lr:FF (Int×Int×Unit) (Int):=⟨λ(x0,x1,_)=>
  .u (decide (x1<x0)) (.r x0)<|
  .r x1⟩
@[grind=] theorem nt (x0 x1:Int):lr.f (x0,x1,())=(if x1<x0 then x0 else x1):=by
 simp only[lr,FF.f,Tr.nice]
 by_cases h:x1<x0<;>simp[h]
noncomputable def tQ:=kS st Tryz.func144 [] (ks:=[.sc (.int .i64),.sc (.int .i64)]) lr rI
def rz:Sh:=⟨[zl 0 .tupl,zp 3 0,zi 5],[zx .tupl]⟩
noncomputable def rb (v0:List Tupl)(v2:Tupl)(v1:Int)(a:Unit):Tr (Stp (Unit) ((Unit))):=
 .grd (aY v0 v1)<|
 .u (((v0.getD v1.toNat (Ty.zero .tupl)).ip==v2.ip)&&(((v0.getD v1.toNat (Ty.zero .tupl)).port==v2.port)&&(((v0.getD v1.toNat (Ty.zero .tupl)).my==v2.my)&&true))) (.r (.out ()))<|
 .r (.next ())
noncomputable def jc:rz.V→nB rz Unit (Unit):=λ(v0,v1,v2,_)=>⟨v1,(),λv1 _=>(v0,v1,v2,()),λv1 _=>(decide (v1<(v0.length:Int))),rb v0 v2,up,1,(Int.toNat ((v0.length:Int)-v1)),.inl,eR,oB .ret ⟨[zb 4],[]⟩ (λ_=>(true,())) (.exit 0) ⟨[zu 4],[]⟩ (λ_=>())⟩
theorem zv {v0:List Tupl}{v1:Int}{v2:Tupl}(h0:0≤v1)(h1:(v0.length:Int)≤4611686018427387904):(jc (v0,v1,v2,())).U (v0.length:Int) (λ_ _=>True) (λ_=>True):=
 iT h0 h1 trivial
noncomputable def nC:FT (List Tupl×Tupl×Unit) (Bool) (λx=>wS x.1) (λ_ _=>True):= .mk (λ(x0,x1,_)=>
  .lp (jc (x0,0,x1,())).lp λw1=> .sum w1 (λ_=>
  .r true)<|
  λ_=>
  .r false) (ot @zv)
noncomputable def v7:=dm st Tryz.func145 [(0,lb [0,3,5] [4])] [] 0 jc (ks:=[.sc (.sl .tupl),.st .tupl]) nC rB
def rg:Sh:=⟨[zl 0 .tupl,zo 3 0,zi 4],[za .tupl]⟩
noncomputable def rD (v0:List Tupl)(v1:Int)(a:List Tupl):Tr (Stp (List Tupl) (Empty)):=
 .grd (aY v0 v1)<|
 .d (na.f ((v0.getD v1.toNat (Ty.zero .tupl)),())) λc1=>
 .grd (aY a v1)<|
 .r (.next (a.set v1.toNat c1))
noncomputable def gg:rg.V→rL rg (List Tupl):=λ(v0,v1,v2,_)=>⟨v1,v2,λv1 a=>(v0,v1,a,()),λv1 _=>(decide (v1<(v0.length:Int))),rD v0,up,1,(Int.toNat ((v0.length:Int)-v1)),Empty.elim,Prod.mk,oN (.exit 0) ⟨[zu 2,zo 3 0],[za .tupl]⟩ (λx=>(x.2,()))⟩
theorem zq {v0 v2:List Tupl}{v1:Int}(h0:0≤v1)(h1:(v0.length:Int)≤4611686018427387904)(h2:sS v0)(h3:sS v2)(h4:v2.length=v2.length∧(v0.length:Int)≤(v2.length:Int)):(gg (v0,v1,v2,())).U (v0.length:Int) (λv1 a=>a.length=v2.length∧(v0.length:Int)≤(a.length:Int)) (λ_=>True):=
 iT (a:=v2) h0 h1 h4
noncomputable def qg:FT (List Tupl×Unit) (List Tupl) (λx=>sS x.1) (λx v=>sS v):=⟨λ(x0,_)=>
  .grd ((((decide (0≤(x0.length:Int)))&&(decide ((x0.length:Int)=(x0.length:Int))))&&(decide ((x0.length:Int)*24≤(aD:Int))))&&(decide ((x0.length:Int)≤(aD:Int))))<|
  .lp (gg (x0,0,(List.replicate ((x0.length:Int).toNat) (⟨0,0,0⟩:Tupl)),())).lp λ(_,a2_0)=>
  .r a2_0,
 λ(x0,_) hp=>by
  refine Tr.G4 ?_ λ_=>Tr.L (zq ?_ ?_ ?_ ?_ ?_) (λa2_0 _=>Tr.R ?_) (λp=>Empty.elim p)
  all_goals ((try simp only[gg,LC.lp,LC.ct,Ct.lp]at*)<;>grind)⟩
noncomputable def Fs:=dm az Tryz.func148 [(0,lb [0,3,4] [2,3])] [sa] 0 gg (ks:=[.sc (.sl .tupl)]) qg (λv=>[(false,[sc (.o true) .tupl v])])
noncomputable def fc:FF (Int×Int×Unit) (Int):=⟨λ(x0,x1,_)=>
  .r (bits .and .i64 (IntKind.wrap .i64 (x0+x1)) 4294967295)⟩
noncomputable def CI:=kS az Tryz.func151 [] (ks:=[.sc (.int .i64),.sc (.int .i64)]) fc rI
def o8:Sh:=⟨[zo 3 0,zl 7 .half,zi 8,zi 9],[za .half]⟩
noncomputable def od (v0:List Half)(v2:Int)(a:List Half):Tr (Stp (List Half) (Empty)):=
 .grd (aY v0 v2)<|
 .u (decide ((IntKind.wrap .i64 ((v0.getD v2.toNat (Ty.zero .half)).age+1))≤6)) (.grd (El a 1 96)<|
  .d (a++[({(v0.getD v2.toNat (Ty.zero .half))with age:=(IntKind.wrap .i64 ((v0.getD v2.toNat (Ty.zero .half)).age+1))}:Half)]) λl1=>
  .r (.next l1))<|
 .r (.next a)
noncomputable def eC:o8.V→rL o8 (List Half):=λ(v0,v1,v2,v3,_)=>⟨v2,v3,λv2 a=>(v0,v1,v2,a,()),λv2 _=>(decide (v2<v1)),od v0,up,1,(Int.toNat (v1-v2)),Empty.elim,Prod.mk,oN (.exit 0) ⟨[zu 2,zo 3 0],[za .half]⟩ (λx=>(x.2,()))⟩
theorem wo {v0 v3:List Half}{v1 v2:Int}(h0:0≤v2)(h1:v1≤4611686018427387904)(h2:sS v0)(h3:v1≤4294967296)(h4:v1≤(v0.length:Int))(h5:(v3.length:Int)≤v2):(eC (v0,v1,v2,v3,())).U v1 (λv2 a=>(a.length:Int)≤v2) (λ_=>True):=
 iT (a:=v3) h0 h1 h5
noncomputable def mN:FT (List Half×Unit) (List Half) (λx=>sS x.1) (λx v=>sS v):=⟨λ(x0,_)=>
  .lp (eC (x0,(x0.length:Int),0,[],())).lp λ(_,a2_0)=>
  .r a2_0,
 λ(x0,_) hp=>by
  refine Tr.L (wo ?_ ?_ ?_ ?_ ?_ ?_) (λa2_0 _=>Tr.R ?_) (λp=>Empty.elim p)
  all_goals ((try simp only[eC,LC.lp,LC.ct,Ct.lp]at*)<;>grind)⟩
noncomputable def Cg:=dm az Tryz.func152 [(0,lb [3,7,8,9] [2,3])] [] 0 eC (ks:=[.sc (.sl .half)]) mN (λv=>[(false,[sc (.o true) .half v])])
def rl:Sh:=⟨[zl 0 .tupl,zl 1 .tupl,zi 5],[]⟩
noncomputable def qX (v0 v1:List Tupl)(v2:Int)(a:Unit):Tr (Stp (Unit) ((Unit))):=
 .grd (aY v0 v2)<|
 .grd (aY v1 v2)<|
 .d (nf.f ((v0.getD v2.toNat (Ty.zero .tupl)),(v1.getD v2.toNat (Ty.zero .tupl)),())) λc1=>
 .u (!c1) (.r (.out ()))<|
 .r (.next ())
noncomputable def jh:rl.V→nB rl Unit (Unit):=λ(v0,v1,v2,_)=>⟨v2,(),λv2 _=>(v0,v1,v2,()),λv2 _=>(decide (v2<(v0.length:Int))),qX v0 v1,up,1,(Int.toNat ((v0.length:Int)-v2)),.inl,eR,oB .ret ⟨[zb 4],[]⟩ (λ_=>(false,())) (.exit 0) ⟨[zu 4],[]⟩ (λ_=>())⟩
theorem zW {v0 v1:List Tupl}{v2:Int}(h0:0≤v2)(h1:(v0.length:Int)≤4611686018427387904)(h2:(v0.length:Int)≤(v1.length:Int)):(jh (v0,v1,v2,())).U (v0.length:Int) (λ_ _=>True) (λ_=>True):=
 iT h0 h1 trivial
noncomputable def qm:FT (List Tupl×List Tupl×Unit) (Bool) (λx=>sS x.1∧sS x.2.1) (λ_ _=>True):= .mk (λ(x0,x1,_)=>
  .u ((x0.length:Int) != (x1.length:Int)) (.r false)<|
  .lp (jh (x0,x1,0,())).lp λw2=> .sum w2 (λ_=>
  .r false)<|
  λ_=>
  .r true) (ot @zW)
noncomputable def Fh:=dm st Tryz.func156 [(0,lb [0,1,5] [4])] [r8] 0 jh (ks:=[.sc (.sl .tupl),.sc (.sl .tupl)]) qm rB
noncomputable def jM:FF (Opti×Opti×Unit) (Bool):=⟨λ(x0,x1,_)=>
  .u (x0.mss != x1.mss) (.r false)<|
  .u (x0.scale != x1.scale) (.r false)<|
  .u (!(x0.sack==x1.sack)) (.r false)<|
  .u (!(x0.stamp==x1.stamp)) (.r false)<|
  .u (x0.val != x1.val) (.r false)<|
  .u (x0.echo != x1.echo) (.r false)<|
  .r true⟩
noncomputable def ph:=kS st Tryz.func157 [] (ks:=[.st .opti,.st .opti]) jM rB
noncomputable def tA:List (Ent1 Tryz.prog):=[]
def gm:Sh:=⟨[zo 0 0,zi 1,zi 5],[.arr .tupl false false]⟩
noncomputable def si:Fx:=⟨159,Tryz.f159,[(0,la ⟨[0,1,5],[],false,1⟩ ⟨[1,4],[],false,1⟩)],1⟩
noncomputable def gC (v1:Int)(a:Int×List Tupl):Tr (Stp (Int×List Tupl) (Empty)):=
 .grd (aY a.2 v1)<|
 .grd ((decide (0≤v1))&&(decide (v1<((a.2.set v1.toNat ({(a.2.getD v1.toNat (Ty.zero .tupl))with ip:=a.1}:Tupl)).length:Int))))<|
 .d ((a.2.set v1.toNat ({(a.2.getD v1.toNat (Ty.zero .tupl))with ip:=a.1}:Tupl)).set v1.toNat ({((a.2.set v1.toNat ({(a.2.getD v1.toNat (Ty.zero .tupl))with ip:=a.1}:Tupl)).getD v1.toNat (Ty.zero .tupl))with port:=(IntKind.wrap .i64 (a.1+1))}:Tupl)) λl1=>
 .grd (aY l1 v1)<|
 .d (l1.set v1.toNat ({(l1.getD v1.toNat (Ty.zero .tupl))with my:=(IntKind.wrap .i64 ((IntKind.wrap .i64 (a.1+1))+1))}:Tupl)) λl2=>
 .d (IntKind.wrap .i64 ((IntKind.wrap .i64 ((IntKind.wrap .i64 (a.1+1))+1))+1)) λe3=>
 .r (.next (e3,l2))
noncomputable def bm:gm.V→rL gm (Int×List Tupl):=λ(v0,v1,v2,_)=>⟨v1,(v0,v2),λv1 a=>(a.1,v1,a.2,()),λv1 a=>(decide (v1<(a.2.length:Int))),gC,up,1,(Int.toNat ((v2.length:Int)-v1)),Empty.elim,Prod.mk,oN (.exit 0) ⟨[zi 1,zu 4],[.arr .tupl false false]⟩ (λx=>(x.2.1,x.2.2,()))⟩
theorem vR:LS Tryz.prog si [0] (ji 0 gm bm):=dW st (aL tA) _ bm [] trivial
theorem vM {v0 v1:Int}{v2:List Tupl}(h0:0≤v1)(h1:(v2.length:Int)≤4611686018427387904)(h2:sS v2)(h3:v2.length=v2.length∧v0≤9223372036854775807):(bm (v0,v1,v2,())).S (λv1 a=>a.2.length=v2.length∧a.2.length=v2.length∧a.1≤9223372036854775807) (λ_=>True):=by
 refine LC.okS ⟨rfl,h3⟩ (λj a hj hv=>⟨⟨?_, ?_⟩, ?_⟩) (λa hv=> ?_)
 ·simp only[bm,decide_eq_true_eq]at*;omega
 ·simp only[bm]at*;exact MH (by omega) (by omega)
 ·refine Tr.G2 ?_ λ_=>Tr.G2 ?_ λ_=>Tr.V λ_ _=>Tr.G2 ?_ λ_=>Tr.V λ_ _=>Tr.V λ_ _=>Tr.Rn ?_
  all_goals (try simp only[bm]at*)<;>(grind)
 ·simp only[bm,decide_eq_false_iff_not]at*;omega
noncomputable def mJ:FT (List Tupl×Int×Unit) (Int×List Tupl) (λx=>sS x.1∧x.2.1≤9223372036854775807) (λx v=>sS v.2∧v.1≤9223372036854775807):=⟨λ(x0,x1,_)=>
  .lp (bm (x1,0,x0,())).lp λ(_,a4_0,a4_1)=>
  .r (a4_0,a4_1),
 λ(x0,x1,_) hp=>by
  refine Tr.L (vM ?_ ?_ ?_ ?_) (λ(a4_0,a4_1) _=>Tr.R ?_) (λp=>Empty.elim p)
  all_goals ((try simp only[bm,LC.lp,LC.ct,Ct.lp]at*)<;>grind)⟩
noncomputable def BR:=jT st si tA [(ji 0 gm bm)] [.wr false [.own 0],.sc (.int .i64)] [.arr .tupl] (λx y=>(y.1,x.2.1,())) mJ (λv=>[(false,[.c (.int .i64 v.1)])]) (λx y v=>(v.2,())) Tryz.func159 (by kernel_rfl) ⟨vR,trivial⟩
def oD:Sh:=⟨[zl 0 .tupl,zi 1,zi 5],[]⟩
noncomputable def gr (v0:List Tupl)(v2:Int)(a:Int):Tr (Stp (Int) ((Int))):=
 .grd (aY v0 v2)<|
 .u ((v0.getD v2.toNat (Ty.zero .tupl)).ip != a) (.r (.out a))<|
 .grd (aY v0 v2)<|
 .u ((v0.getD v2.toNat (Ty.zero .tupl)).port != (IntKind.wrap .i64 (a+1))) (.r (.out (IntKind.wrap .i64 (a+1))))<|
 .grd (aY v0 v2)<|
 .u ((v0.getD v2.toNat (Ty.zero .tupl)).my != (IntKind.wrap .i64 ((IntKind.wrap .i64 (a+1))+1))) (.r (.out (IntKind.wrap .i64 ((IntKind.wrap .i64 (a+1))+1))))<|
 .d (IntKind.wrap .i64 ((IntKind.wrap .i64 ((IntKind.wrap .i64 (a+1))+1))+1)) λe1=>
 .r (.next e1)
noncomputable def gA:oD.V→nB oD Int (Int):=λ(v0,v1,v2,_)=>⟨v2,v1,λv2 a=>(v0,a,v2,()),λv2 _=>(decide (v2<(v0.length:Int))),gr v0,up,1,(Int.toNat ((v0.length:Int)-v2)),.inl,eR,oB .ret ⟨[zi 1,zi 4],[]⟩ (λp=>(p,(-1),())) (.exit 0) ⟨[zi 1,zu 4],[]⟩ (λx=>(x.2,()))⟩
theorem vK {v0:List Tupl}{v1 v2:Int}(h0:0≤v2)(h1:(v0.length:Int)≤4611686018427387904)(h2:v1≤9223372036854775807):(gA (v0,v1,v2,())).U (v0.length:Int) (λv2 a=>a≤9223372036854775807) (λ_=>True):=
 iT (a:=v1) h0 h1 h2
noncomputable def mU:FT (List Tupl×Int×Unit) (Int) (λx=>sS x.1∧x.2.1≤9223372036854775807) (λx v=>v≤9223372036854775807):= .mk (λ(x0,x1,_)=>
  .lp (gA (x0,x1,0,())).lp λw2=> .sum w2 (λ_=>
  .r (-1))<|
  λ(_,a2_0)=>
  .r a2_0) (ot @vK)
noncomputable def AO:=dm st Tryz.func162 [(0,lb [0,1,5] [1,4])] [] 0 gA (ks:=[.sc (.sl .tupl),.sc (.int .i64)]) mU rI
noncomputable def jz:FX (List Entr×Int×Unit) (Int) (λ_=>True) (bP [.sc (.sl .entr),.sc (.int .i64)]):=⟨λ(x0,x1,_)=>
  .u (decide ((IntKind.wrap .i64 (x1-(x0.length:Int)))<0)) (.r (-1))<|
  .r (IntKind.wrap .i64 (x1-(x0.length:Int))),
 λ(x0,x1,_) hp hf=>by
  simp only[bP,Pk.fact,gd,eo,Fl.fact,Ty.fl,Ty.toH]at hf
  refine Tr.F (by kernel_rfl) trivial⟩
theorem JC (xs:List Entr)(k:Int)(h0:0≤k)(h1:k≤1048576)(hl:xs.length≤140737488355328)(h:0≤jz.f (xs,k,())):jz.f (xs,k,())≤k∧xs.length≤1048576:=by
 have w:IntKind.wrap .i64 (k-(xs.length:Int))=k-(xs.length:Int):=aw (by omega) (by omega)
 simp only[FX.f,jz,Tr.nice,w]at h⊢
 by_cases c:k-(xs.length:Int)<0
 ·rw[decide_eq_true c,cond_true]at h;omega
 ·rw[decide_eq_false c,cond_false];exact⟨by omega,by omega⟩
noncomputable def Ft:=oG st Tryz.func163 [] (ks:=[.sc (.sl .entr),.sc (.int .i64)]) jz rI
noncomputable def yh:FT (Link×Unit) (Link) (λx=>gu x.1) (λx v=>gu v):= .mk λ(x0,_)=>
  .grd (Nat.ble ((2*(0+x0.cache.length)+1024)*24) aD)<|
  .r ({x0 with cache:=([]++x0.cache)}:Link)
noncomputable def HR:=bu st Tryz.func164 [] (ks:=[.st .link]) yh (λv=>[(true,JE (.o true) v)])
noncomputable def sw:List (Ent1 Tryz.prog):=[]
def gq:Sh:=⟨[zo 0 0,zi 1,zi 5],[.arr .entr false false]⟩
noncomputable def sQ:Fx:=⟨174,Tryz.f174,[(0,la ⟨[0,1,5],[],false,1⟩ ⟨[1,4],[],false,1⟩)],1⟩
noncomputable def gG (v1:Int)(a:Int×List Entr):Tr (Stp (Int×List Entr) (Empty)):=
 .grd (aY a.2 v1)<|
 .grd ((decide (0≤v1))&&(decide (v1<((a.2.set v1.toNat ({(a.2.getD v1.toNat (Ty.zero .entr))with ip:=a.1}:Entr)).length:Int))))<|
 .d ((a.2.set v1.toNat ({(a.2.getD v1.toNat (Ty.zero .entr))with ip:=a.1}:Entr)).set v1.toNat ({((a.2.set v1.toNat ({(a.2.getD v1.toNat (Ty.zero .entr))with ip:=a.1}:Entr)).getD v1.toNat (Ty.zero .entr))with hw:=(IntKind.wrap .i64 (a.1+1))}:Entr)) λl1=>
 .grd (aY l1 v1)<|
 .d (l1.set v1.toNat ({(l1.getD v1.toNat (Ty.zero .entr))with age:=(IntKind.wrap .i64 ((IntKind.wrap .i64 (a.1+1))+1))}:Entr)) λl2=>
 .d (IntKind.wrap .i64 ((IntKind.wrap .i64 ((IntKind.wrap .i64 (a.1+1))+1))+1)) λe3=>
 .r (.next (e3,l2))
noncomputable def bo:gq.V→rL gq (Int×List Entr):=λ(v0,v1,v2,_)=>⟨v1,(v0,v2),λv1 a=>(a.1,v1,a.2,()),λv1 a=>(decide (v1<(a.2.length:Int))),gG,up,1,(Int.toNat ((v2.length:Int)-v1)),Empty.elim,Prod.mk,oN (.exit 0) ⟨[zi 1,zu 4],[.arr .entr false false]⟩ (λx=>(x.2.1,x.2.2,()))⟩
theorem wX:LS Tryz.prog sQ [0] (ji 0 gq bo):=dW st (aL sw) _ bo [] trivial
theorem wF {v0 v1:Int}{v2:List Entr}(h0:0≤v1)(h1:(v2.length:Int)≤4611686018427387904)(h2:sS v2)(h3:v2.length=v2.length∧v0≤9223372036854775807):(bo (v0,v1,v2,())).S (λv1 a=>a.2.length=v2.length∧a.2.length=v2.length∧a.1≤9223372036854775807) (λ_=>True):=by
 refine LC.okS ⟨rfl,h3⟩ (λj a hj hv=>⟨⟨?_, ?_⟩, ?_⟩) (λa hv=> ?_)
 ·simp only[bo,decide_eq_true_eq]at*;omega
 ·simp only[bo]at*;exact MH (by omega) (by omega)
 ·refine Tr.G2 ?_ λ_=>Tr.G2 ?_ λ_=>Tr.V λ_ _=>Tr.G2 ?_ λ_=>Tr.V λ_ _=>Tr.V λ_ _=>Tr.Rn ?_
  all_goals (try simp only[bo]at*)<;>(grind)
 ·simp only[bo,decide_eq_false_iff_not]at*;omega
noncomputable def mR:FT (List Entr×Int×Unit) (Int×List Entr) (λx=>sS x.1∧x.2.1≤9223372036854775807) (λx v=>sS v.2∧v.1≤9223372036854775807):=⟨λ(x0,x1,_)=>
  .lp (bo (x1,0,x0,())).lp λ(_,a4_0,a4_1)=>
  .r (a4_0,a4_1),
 λ(x0,x1,_) hp=>by
  refine Tr.L (wF ?_ ?_ ?_ ?_) (λ(a4_0,a4_1) _=>Tr.R ?_) (λp=>Empty.elim p)
  all_goals ((try simp only[bo,LC.lp,LC.ct,Ct.lp]at*)<;>grind)⟩
noncomputable def B3:=jT st sQ sw [(ji 0 gq bo)] [.wr false [.own 0],.sc (.int .i64)] [.arr .entr] (λx y=>(y.1,x.2.1,())) mR (λv=>[(false,[.c (.int .i64 v.1)])]) (λx y v=>(v.2,())) Tryz.func174 (by kernel_rfl) ⟨wX,trivial⟩
def oQ:Sh:=⟨[zl 0 .entr,zi 1,zi 5],[]⟩
noncomputable def gF (v0:List Entr)(v2:Int)(a:Int):Tr (Stp (Int) ((Int))):=
 .grd (aY v0 v2)<|
 .u ((v0.getD v2.toNat (Ty.zero .entr)).ip != a) (.r (.out a))<|
 .grd (aY v0 v2)<|
 .u ((v0.getD v2.toNat (Ty.zero .entr)).hw != (IntKind.wrap .i64 (a+1))) (.r (.out (IntKind.wrap .i64 (a+1))))<|
 .grd (aY v0 v2)<|
 .u ((v0.getD v2.toNat (Ty.zero .entr)).age != (IntKind.wrap .i64 ((IntKind.wrap .i64 (a+1))+1))) (.r (.out (IntKind.wrap .i64 ((IntKind.wrap .i64 (a+1))+1))))<|
 .d (IntKind.wrap .i64 ((IntKind.wrap .i64 ((IntKind.wrap .i64 (a+1))+1))+1)) λe1=>
 .r (.next e1)
noncomputable def gt:oQ.V→nB oQ Int (Int):=λ(v0,v1,v2,_)=>⟨v2,v1,λv2 a=>(v0,a,v2,()),λv2 _=>(decide (v2<(v0.length:Int))),gF v0,up,1,(Int.toNat ((v0.length:Int)-v2)),.inl,eR,oB .ret ⟨[zi 1,zi 4],[]⟩ (λp=>(p,(-1),())) (.exit 0) ⟨[zi 1,zu 4],[]⟩ (λx=>(x.2,()))⟩
theorem wQ {v0:List Entr}{v1 v2:Int}(h0:0≤v2)(h1:(v0.length:Int)≤4611686018427387904)(h2:v1≤9223372036854775807):(gt (v0,v1,v2,())).U (v0.length:Int) (λv2 a=>a≤9223372036854775807) (λ_=>True):=
 iT (a:=v1) h0 h1 h2
noncomputable def mC:FT (List Entr×Int×Unit) (Int) (λx=>sS x.1∧x.2.1≤9223372036854775807) (λx v=>v≤9223372036854775807):= .mk (λ(x0,x1,_)=>
  .lp (gt (x0,x1,0,())).lp λw2=> .sum w2 (λ_=>
  .r (-1))<|
  λ(_,a2_0)=>
  .r a2_0) (ot @wQ)
noncomputable def AQ:=dm st Tryz.func175 [(0,lb [0,1,5] [1,4])] [] 0 gt (ks:=[.sc (.sl .entr),.sc (.int .i64)]) mC rI
def rT:Sh:=⟨[zp 2 0,zp 3 1,zi 5],[zg .mac,zg .mac]⟩
noncomputable def sC (v1 v2:Mac)(v0:Int)(a:Unit):Tr (Stp (Unit) ((Unit))):=
 .grd (aY v1.rows v0)<|
 .grd (aY v2.rows v0)<|
 .u (!(((v1.rows.getD v0.toNat (Ty.zero .macRow)).input==(v2.rows.getD v0.toNat (Ty.zero .macRow)).input)&&(((v1.rows.getD v0.toNat (Ty.zero .macRow)).value==(v2.rows.getD v0.toNat (Ty.zero .macRow)).value)&&true))) (.r (.out ()))<|
 .r (.next ())
noncomputable def kd:rT.V→nB rT Unit (Unit):=λ(v0,v1,v2,_)=>⟨v0,(),λv0 _=>(v0,v1,v2,()),λv0 _=>(decide (v0<(v1.rows.length:Int))),sC v1 v2,up,1,(Int.toNat ((v1.rows.length:Int)-v0)),.inl,eR,oB .ret ⟨[zb 4],[]⟩ (λ_=>(false,())) (.exit 0) ⟨[zu 4],[]⟩ (λ_=>())⟩
theorem BB {v0:Int}{v1 v2:Mac}(h0:0≤v0)(h1:(v1.rows.length:Int)≤4611686018427387904)(h2:(v1.rows.length:Int)≤(v2.rows.length:Int)):(kd (v0,v1,v2,())).U (v1.rows.length:Int) (λ_ _=>True) (λ_=>True):=
 iT h0 h1 trivial
noncomputable def tI:FT (Mac×Mac×Unit) (Bool) (λx=>dS x.1∧dS x.2.1) (λ_ _=>True):= .mk (λ(x0,x1,_)=>
  .bnd (β:=Bool×Unit) (.u (!(x0.use==x1.use)) (.r (true,()))<|
   .u (x0.k != x1.k) (.r (true,()))<|
   .u (x0.l != x1.l) (.r (true,()))<|
   .r (((x0.rows.length:Int) != (x1.rows.length:Int)),())) λ(u1a0,_)=>
  .u u1a0 (.r false)<|
  .lp (kd (0,x0,x1,())).lp λw2=> .sum w2 (λ_=>
  .r false)<|
  λ_=>
  .r true) (ot @BB)
noncomputable def IK:=dm st Tryz.func177 [(0,lb [2,3,5] [4]),(3000001,rA 0 33)] [] 0 kd (ks:=[.st .mac,.st .mac]) tI rB
noncomputable def x3:=[fx]
def kN:Sh:=⟨[zp 1 0,zi 3,zi 4],[zg .mac]⟩
def mT:Sh:=⟨[zp 1 0,zi 3],[zg .mac]⟩
noncomputable def xP:Fx:=⟨178,Tryz.f178,[(2,lb [1,3,4] [1,2,3]),(0,lb [1,3] [1,2])],0⟩
noncomputable def nV (vb0:Int)(vb2:Mac)(vb1:Int)(a:Unit):Tr (Stp (Unit) ((Unit))):=
 .grd (aY vb2.rows vb1)<|
 .grd (aY vb2.rows vb0)<|
 .u ((vb2.rows.getD vb1.toNat (Ty.zero .macRow)).input==(vb2.rows.getD vb0.toNat (Ty.zero .macRow)).input) (.r (.out ()))<|
 .r (.next ())
noncomputable def dR:kN.V→nB kN Unit (Unit):=λ(vb0,vb1,vb2,_)=>⟨vb1,(),λvb1 _=>(vb0,vb1,vb2,()),λvb1 _=>(decide (vb1<vb0)),nV vb0 vb2,up,1,(Int.toNat (vb0-vb1)),.inl,eR,oB .ret ⟨[zp 1 0,zb 2,zi 3],[zg .mac]⟩ (λ_=>(false,vb0,vb2,())) (.exit 2) ⟨[zp 1 0,zu 2,zi 3],[zg .mac]⟩ (λ_=>(vb0,vb2,()))⟩
theorem Al:LS Tryz.prog xP [0,0] (ji 2 kN dR):=dW st (aL x3) _ dR [] trivial
theorem BM {vb0 vb1:Int}{vb2:Mac}(h0:0≤vb1)(h1:vb0≤4611686018427387904)(h2:vb0≤(vb2.rows.length:Int))(h3:0≤vb0)(h4:vb0<(vb2.rows.length:Int)):(dR (vb0,vb1,vb2,())).U vb0 (λ_ _=>True) (λ_=>True):=
 iT h0 h1 trivial
noncomputable def qC (v1:Mac)(v0:Int)(a:Unit):Tr (Stp (Unit) ((Unit))):=
 .grd (aY v1.rows v0)<|
 .d (dX.f ((v1.rows.getD v0.toNat (Ty.zero .macRow)).value,0,16777215,())) λc1=>
 .u (!c1) (.r (.out ()))<|
 .lp (dR (v0,0,v1,())).lp λw2=> .sum w2 (λ_=>
 .r (.out ()))<|
 λ_=>
 .r (.next ())
noncomputable def iq:mT.V→nB mT Unit (Unit):=λ(v0,v1,_)=>⟨v0,(),λv0 _=>(v0,v1,()),λv0 _=>(decide (v0<(v1.rows.length:Int))),qC v1,up,1,(Int.toNat ((v1.rows.length:Int)-v0)),.inl,eR,oB .ret ⟨[zp 1 0,zb 2],[zg .mac]⟩ (λ_=>(false,v1,())) (.exit 0) ⟨[zp 1 0,zu 2],[zg .mac]⟩ (λ_=>(v1,()))⟩
theorem FR:LS Tryz.prog xP [0] (ji 0 mT iq):=dW st (aL x3) _ iq [(ji 2 kN dR)] ⟨Al,trivial⟩
theorem Gp {v0:Int}{v1:Mac}(h0:0≤v0)(h1:(v1.rows.length:Int)≤4611686018427387904)(h2:dS v1):(iq (v0,v1,())).U (v1.rows.length:Int) (λ_ _=>True) (λ_=>True):=
 LC.okU (i:=v0) (a:=()) (λ_ _=>rfl) (λ_=>rfl) rfl h0 h1 trivial λv0 _ hj hk hv=>by
  refine Tr.G2 ?_ λ_=>Tr.V λ_ _=>Tr.I (λ_=>Tr.Ro trivial) λ_=>Tr.L (BM ?_ ?_ ?_ ?_ ?_) (λ_ _=>Tr.Sr (Tr.Rn trivial)) (λ_ _=>Tr.Sl (Tr.Ro trivial))
  all_goals ((try simp only[dR,LC.lp,LC.ct,Ct.lp]at*)<;>grind)
noncomputable def xj:FT (Mac×Unit) (Bool) (λx=>dS x.1) (λx v=>(v=true→x.1.rows.length≤64)):= .mk (λ(x0,_)=>
  .u (!x0.use) (.r ((x0.rows.length:Int)==0))<|
  .lp (iq (0,x0,())).lp λw3=> .sum w3 (λ_=>
  .r false)<|
  λ_=>
  .u (x0.k==0) (.u (x0.l==0) (.r (decide ((x0.rows.length:Int)≤64)))<|
   .r false)<|
  .r false) (ot @Gp)
noncomputable def Lv:=lh st xP x3 [(ji 0 mT iq)] (ks:=[.st .mac]) xj rB Tryz.func178 ⟨FR,trivial⟩
noncomputable def bF:FF (Int×Int×Int×Unit) (Bool):=⟨λ(x0,x1,x2,_)=>
  .u (decide (x1≤x0)) (.r (decide (x0≤x2)))<|
  .r false⟩
@[grind=] theorem aG (x0 x1 x2:Int):bF.f (x0,x1,x2,())=(decide (x1≤x0)&&decide (x0≤x2)):=by
 simp only[bF,FF.f,Tr.nice]
 cases decide (x1≤x0)<;>rfl
noncomputable def cG:=kS az Tryz.func190 [] (ks:=[.sc (.int .i64),.sc (.int .i64),.sc (.int .i64)]) bF rB
def nJ:Sh:=⟨[zl 0 .tupl,zp 3 0,zi 7,zi 8],[zx .tupl]⟩
noncomputable def np (v0:List Tupl)(v3:Tupl)(v2:Int)(a:Unit):Tr (Stp (Unit) ((Int))):=
 .grd (aY v0 v2)<|
 .u ((v3.ip==(v0.getD v2.toNat (Ty.zero .tupl)).ip)&&((v3.port==(v0.getD v2.toNat (Ty.zero .tupl)).port)&&((v3.my==(v0.getD v2.toNat (Ty.zero .tupl)).my)&&true))) (.r (.out v2))<|
 .r (.next ())
noncomputable def fV:nJ.V→nB nJ Unit (Int):=λ(v0,v1,v2,v3,_)=>⟨v2,(),λv2 _=>(v0,v1,v2,v3,()),λv2 _=>(decide (v2<v1)),np v0 v3,up,1,(Int.toNat (v1-v2)),.inl,eR,oB .ret ⟨[zi 4],[]⟩ (λp=>(p,())) (.exit 0) ⟨[zu 4],[]⟩ (λ_=>())⟩
theorem vB {v0:List Tupl}{v1 v2:Int}{v3:Tupl}(h0:0≤v2)(h1:v1≤4611686018427387904)(h2:v1≤(v0.length:Int)):(fV (v0,v1,v2,v3,())).U v1 (λ_ _=>True) (λp=>v2≤p∧p<v1):=
 iT h0 h1 trivial
noncomputable def iU:FT (List Tupl×Tupl×Unit) (Int) (λx=>wS x.1) (λx v=> -1≤v∧v<x.1.length):= .mk (λ(x0,x1,_)=>
  .lp (fV (x0,(x0.length:Int),0,x1,())).lp λw1=> .sum w1 (λp1a0=>
  .r p1a0)<|
  λ_=>
  .r (-1)) (ot @vB)
noncomputable def ro:=dm st Tryz.func205 [(0,lb [0,3,7,8] [4])] [] 0 fV (ks:=[.sc (.sl .tupl),.st .tupl]) iU rI
noncomputable def wn:FF (Int×Int×Unit) (Int):=⟨λ(x0,x1,_)=>
  .d (gO.f (x0,())) λc1=>
  .d (gO.f (x1,())) λc2=>
  .d (gO.f ((IntKind.wrap .i64 (c1+c2)),())) λc3=>
  .r c3⟩
noncomputable def Km:=kS st Tryz.func214 [Cm] (ks:=[.sc (.int .i64),.sc (.int .i64)]) wn rI
noncomputable def pP:FT (Mac×Unit) (Mac) (λx=>dS x.1) (λx v=>dS v∧v=x.1):=⟨λ(x0,_)=>
  .grd (Nat.ble ((2*(0+x0.rows.length)+1024)*24) aD)<|
  .r ({x0 with rows:=([]++x0.rows)}:Mac),
 λ(x0,_) hp=>by
  refine Tr.Gb ?_ λg0=>Tr.R ?_
  all_goals ((first|grind|(refine⟨by grind, ?_⟩;first|(simp only[List.nil_append];done)|(subst_vars;rfl)|simp_all)))⟩
noncomputable def IA:=bu st Tryz.func232 [] (ks:=[.st .mac]) pP (λv=>[(true,MU (.o true) v)])
noncomputable def qQ:FT (Limi×Unit) (Bool) (λ_=>True) (λx v=>(v=true→x.1.halves≤64∧x.1.waiting≤16∧x.1.conns≤16)):= .mk λ(x0,_)=>
  .d (dX.f (x0.halves,1,64,())) λc1=>
  .u c1 (.d (dX.f (x0.waiting,1,16,())) λc2=>
   .u c2 (.d (dX.f (x0.conns,1,16,())) λc3=>
    .u c3 (.d (dX.f (x0.chal,0,1000,())) λc4=>
     .r c4)<|
    .r false)<|
   .r false)<|
  .r false
noncomputable def FS:=bu st Tryz.func233 [fx] (ks:=[.st .limi]) qQ rB
def rE:Sh:=⟨[zl 0 .half,zp 3 0,zi 5],[zx .tupl]⟩
noncomputable def rf (v0:List Half)(v2:Tupl)(v1:Int)(a:Unit):Tr (Stp (Unit) ((Int))):=
 .grd (aY v0 v1)<|
 .u (((v0.getD v1.toNat (Ty.zero .half)).tuple.ip==v2.ip)&&(((v0.getD v1.toNat (Ty.zero .half)).tuple.port==v2.port)&&(((v0.getD v1.toNat (Ty.zero .half)).tuple.my==v2.my)&&true))) (.r (.out v1))<|
 .r (.next ())
noncomputable def i5:rE.V→nB rE Unit (Int):=λ(v0,v1,v2,_)=>⟨v1,(),λv1 _=>(v0,v1,v2,()),λv1 _=>(decide (v1<(v0.length:Int))),rf v0 v2,up,1,(Int.toNat ((v0.length:Int)-v1)),.inl,eR,oB .ret ⟨[zi 4],[]⟩ (λp=>(p,())) (.exit 0) ⟨[zu 4],[]⟩ (λ_=>())⟩
theorem zB {v0:List Half}{v1:Int}{v2:Tupl}(h0:0≤v1)(h1:(v0.length:Int)≤4611686018427387904):(i5 (v0,v1,v2,())).U (v0.length:Int) (λ_ _=>True) (λp=>v1≤p∧p<(v0.length:Int)):=
 iT h0 h1 trivial
noncomputable def p6:FT (List Half×Tupl×Unit) (Int) (λx=>wS x.1) (λx v=> -1≤v∧v<x.1.length):= .mk (λ(x0,x1,_)=>
  .lp (i5 (x0,0,x1,())).lp λw1=> .sum w1 (λp1a0=>
  .r p1a0)<|
  λ_=>
  .r (-1)) (ot @zB)
noncomputable def Gz:=dm st Tryz.func235 [(0,lb [0,3,5] [4])] [] 0 i5 (ks:=[.sc (.sl .half),.st .tupl]) p6 rI
noncomputable def t8:FT (Recv×Unit) (Recv) (λx=>gv x.1) (λx v=>gv v∧v=x.1):=⟨λ(x0,_)=>
  .grd (Nat.ble ((2*(0+x0.held.length)+1024)*24) aD)<|
  .r ({x0 with held:=([]++x0.held)}:Recv),
 λ(x0,_) hp=>by
  refine Tr.Gb ?_ λg0=>Tr.R ?_
  all_goals ((first|grind|(refine⟨by grind, ?_⟩;first|(simp only[List.nil_append];done)|(subst_vars;rfl)|simp_all)))⟩
noncomputable def Ik:=bu st Tryz.func236 [] (ks:=[.st .recv]) t8 (λv=>[(true,JP (.o true) v)])
noncomputable def wJ:FF (Conn×Unit) (Bool):=⟨λ(x0,_)=>
  .u (!(x0.s.data==[])) (.r true)<|
  .u x0.s.fin (.r (!x0.s.done))<|
  .r false⟩
noncomputable def JM:=kS st Tryz.func237 [] (ks:=[.st .conn]) wJ rB
noncomputable def CG:FF (Int×Unit) (Bool):=⟨λ(x0,_)=>
  .u (x0 != 1) (.r (x0 != 4))<|
  .r false⟩
noncomputable def JV:=kS st Tryz.func240 [] (ks:=[.sc (.int .i64)]) CG rB
noncomputable def nI:FT (Recv×Unit) (Int) (λx=>gv x.1) (λx v=>0≤v∧v≤32∧(x.1.data.length≤32→v=N3 x.1)):= .mk λ(x0,_)=>
  .u x0.done (.r 0)<|
  .d (lr.f (0,(IntKind.wrap .i64 (32-(x0.data.length:Int))),())) λc1=>
  .r c1
noncomputable def wb:=bu st Tryz.func242 [tQ] (ks:=[.st .recv]) nI rI
noncomputable def rV:FF (Unit) (Opti):=⟨λ_=>
  .r (⟨0,(-1),false,false,0,0⟩:Opti)⟩
noncomputable def Dn:=kS st Tryz.func243 [] (ks:=[]) rV (λv=>[(true,Ks v)])
noncomputable def lL:FF (Opti×Unit) (Opti):=⟨λ(x0,_)=>
  .r x0⟩
noncomputable def uM:=kS az Tryz.func247 [] (ks:=[.st .opti]) lL (λv=>[(true,Ks v)])
noncomputable def mO:FT (List Half×Unit) (List Half) (λx=>sS x.1) (λx v=>v=x.1):=⟨λx=> .r x.1,λ_ _=>Tr.R rfl⟩
theorem BC (x:List Half×Unit)(hp:sS x.1):zO Tryz.prog 250 (zV [.sc (.sl .half)] x) ((λv=>[rv (.sc (.sl .half)) [.o true] v]) (mO.f x)):=by
 refine zO.byNil (t:= .half) (xs:=x.1) (λh=> ?_) ?_
 ·obtain⟨x,_⟩:=x;subst h
  exact Oi st Tryz.func250 (by kernel_rfl) (by kernel_rfl)
 ·exact Oi st Tryz.func250 (by kernel_rfl) (Eq.trans (b:=bif Nat.ble ((2*(0+x.1.length)+1024)*96) aD then some ((λv=>[rv (.sc (.sl .half)) [.o true] v]) x.1)else none) (by kernel_rfl) (by rw[show Nat.ble ((2*(0+x.1.length)+1024)*96) aD=true by simp only[Nat.ble_eq,aD];simp only[sS]at hp;omega];rfl))
noncomputable def AJ:Ent1 Tryz.prog:=MX 250 (ks:=[.sc (.sl .half)]) mO.c (λv=>[rv (.sc (.sl .half)) [.o true] v]) BC
noncomputable def aa:FT (Int×Int×Unit) (Bool) (λ_=>True) (λx v=>(x.2.1=32→(v=true↔0≤x.1∧x.1≤4294967295))∧(x.2.1=16→(v=true↔0≤x.1∧x.1≤65535))∧(x.2.1=48→(v=true↔0≤x.1∧x.1≤281474976710655))∧(x.2.1=8→(v=true↔0≤x.1∧x.1≤255))∧(x.2.1=6→(v=true↔0≤x.1∧x.1≤63))):= .mk λ(x0,x1,_)=>
  .d (bF.f (x1,1,62,())) λc1=>
  .u c1 (.grd (decide (0≤x1))<|
   .d (IntKind.wrap .i64 ((IntKind.wrap .i64 (1*2 ^ (min x1.toNat 64)))-1)) λe2=>
   .d (bF.f (x0,0,e2,())) λc3=>
   .r c3)<|
  .r false
@[grind=] theorem gP (x:Int):aa.f (x,32,())=(decide (0≤x)&&decide (x≤4294967295)):=by
 have h:=aa.c.h (x,32,()) trivial
 rw[Bool.eq_iff_iff]
 grind
@[grind=] theorem oi (x:Int):aa.f (x,16,())=(decide (0≤x)&&decide (x≤65535)):=by
 have h:=aa.c.h (x,16,()) trivial
 rw[Bool.eq_iff_iff]
 grind
@[grind=] theorem IU (x:Int):aa.f (x,48,())=(decide (0≤x)&&decide (x≤281474976710655)):=by
 have h:=aa.c.h (x,48,()) trivial
 rw[Bool.eq_iff_iff]
 grind
@[grind=] theorem Jz (x:Int):aa.f (x,8,())=(decide (0≤x)&&decide (x≤255)):=by
 have h:=aa.c.h (x,8,()) trivial
 rw[Bool.eq_iff_iff]
 grind
@[grind=] theorem KD (x:Int):aa.f (x,6,())=(decide (0≤x)&&decide (x≤63)):=by
 have h:=aa.c.h (x,6,()) trivial
 rw[Bool.eq_iff_iff]
 grind
noncomputable def cQ:=bu az Tryz.func251 [cG] (ks:=[.sc (.int .i64),.sc (.int .i64)]) aa rB
noncomputable def r7:=[cU]
def gD:Sh:=⟨[zo 0 0,zi 1,zi 5],[.arr .piec false false]⟩
noncomputable def rZ:Fx:=⟨263,Tryz.f263,[(0,la ⟨[0,1,5],[],false,1⟩ ⟨[1,4],[],false,1⟩)],1⟩
noncomputable def gp (v1:Int)(a:Int×List Piec):Tr (Stp (Int×List Piec) (Empty)):=
 .grd (aY a.2 v1)<|
 .l a8.c ((IntKind.wrap .i64 (a.1+1)),()) λc1=>
 .grd ((decide (0≤v1))&&(decide (v1<((a.2.set v1.toNat (⟨a.1,(a.2.getD v1.toNat (Ty.zero .piec)).text⟩:Piec)).length:Int))))<|
 .d ((a.2.set v1.toNat (⟨a.1,(a.2.getD v1.toNat (Ty.zero .piec)).text⟩:Piec)).set v1.toNat (⟨((a.2.set v1.toNat (⟨a.1,(a.2.getD v1.toNat (Ty.zero .piec)).text⟩:Piec)).getD v1.toNat (Ty.zero .piec)).off,c1⟩:Piec)) λl2=>
 .r (.next ((IntKind.wrap .i64 ((IntKind.wrap .i64 (a.1+1))+1)),l2))
noncomputable def bj:gD.V→rL gD (Int×List Piec):=λ(v0,v1,v2,_)=>⟨v1,(v0,v2),λv1 a=>(a.1,v1,a.2,()),λv1 a=>(decide (v1<(a.2.length:Int))),gp,up,1,(Int.toNat ((v2.length:Int)-v1)),Empty.elim,Prod.mk,oN (.exit 0) ⟨[zi 1,zu 4],[.arr .piec false false]⟩ (λx=>(x.2.1,x.2.2,()))⟩
theorem vZ:LS Tryz.prog rZ [0] (ji 0 gD bj):=dW st (aL r7) _ bj [] trivial
theorem wH {v0 v1:Int}{v2:List Piec}(h0:0≤v1)(h1:(v2.length:Int)≤4611686018427387904)(h2:sL bK v2)(h3:v2.length=v2.length∧cI bK v2∧v0≤9223372036854775807):(bj (v0,v1,v2,())).S (λv1 a=>a.2.length=v2.length∧a.2.length=v2.length∧cI bK a.2∧a.1≤9223372036854775807) (λ_=>True):=by
 refine LC.okS ⟨rfl,h3⟩ (λj a hj hv=>⟨⟨?_, ?_⟩, ?_⟩) (λa hv=> ?_)
 ·simp only[bj,decide_eq_true_eq]at*;omega
 ·simp only[bj]at*;exact MH (by omega) (by omega)
 ·refine Tr.G2 ?_ λ_=>Tr.C ?_ λ_ _ _=>Tr.G2 ?_ λ_=>Tr.V λ_ _=>Tr.Rn ?_
  all_goals (try simp only[bj]at*)<;>(grind)
 ·simp only[bj,decide_eq_false_iff_not]at*;omega
noncomputable def m5:FT (List Piec×Int×Unit) (Int×List Piec) (λx=>sL bK x.1∧x.2.1≤9223372036854775807) (λx v=>sL bK v.2∧v.1≤9223372036854775807):=⟨λ(x0,x1,_)=>
  .lp (bj (x1,0,x0,())).lp λ(_,a3_0,a3_1)=>
  .r (a3_0,a3_1),
 λ(x0,x1,_) hp=>by
  refine Tr.L (wH ?_ ?_ ?_ ?_) (λ(a3_0,a3_1) _=>Tr.R ?_) (λp=>Empty.elim p)
  all_goals ((try simp only[bj,LC.lp,LC.ct,Ct.lp]at*)<;>grind)⟩
noncomputable def C2:=jT st rZ r7 [(ji 0 gD bj)] [.wr false [.own 0],.sc (.int .i64)] [.arr .piec] (λx y=>(y.1,x.2.1,())) m5 (λv=>[(false,[.c (.int .i64 v.1)])]) (λx y v=>(v.2,())) Tryz.func263 (by kernel_rfl) ⟨vZ,trivial⟩
def nT:Sh:=⟨[zl 0 .macRow,zi 1,zi 5],[]⟩
noncomputable def fO (v0:List MacRow)(v2:Int)(a:Int):Tr (Stp (Int) ((Int))):=
 .grd (aY v0 v2)<|
 .l a8.c (a,()) λc1=>
 .u (!((v0.getD v2.toNat (Ty.zero .macRow)).input==c1)) (.r (.out a))<|
 .grd (aY v0 v2)<|
 .u ((v0.getD v2.toNat (Ty.zero .macRow)).value != (IntKind.wrap .i64 (a+1))) (.r (.out (IntKind.wrap .i64 (a+1))))<|
 .r (.next (IntKind.wrap .i64 ((IntKind.wrap .i64 (a+1))+1)))
noncomputable def f7:nT.V→nB nT Int (Int):=λ(v0,v1,v2,_)=>⟨v2,v1,λv2 a=>(v0,a,v2,()),λv2 _=>(decide (v2<(v0.length:Int))),fO v0,up,1,(Int.toNat ((v0.length:Int)-v2)),.inl,eR,oB .ret ⟨[zi 1,zi 4],[]⟩ (λp=>(p,(-1),())) (.exit 0) ⟨[zi 1,zu 4],[]⟩ (λx=>(x.2,()))⟩
theorem va {v0:List MacRow}{v1 v2:Int}(h0:0≤v2)(h1:(v0.length:Int)≤4611686018427387904)(h2:sL aj v0)(h3:v1≤9223372036854775807):(f7 (v0,v1,v2,())).U (v0.length:Int) (λv2 a=>a≤9223372036854775807) (λ_=>True):=
 iT (a:=v1) h0 h1 h3
noncomputable def lx:FT (List MacRow×Int×Unit) (Int) (λx=>sL aj x.1∧x.2.1≤9223372036854775807) (λx v=>v≤9223372036854775807):= .mk (λ(x0,x1,_)=>
  .lp (f7 (x0,x1,0,())).lp λw2=> .sum w2 (λ_=>
  .r (-1))<|
  λ(_,a2_0)=>
  .r a2_0) (ot @va)
noncomputable def zN:=dm st Tryz.func264 [(0,lb [0,1,5] [1,4])] [cU] 0 f7 (ks:=[.sc (.sl .macRow),.sc (.int .i64)]) lx rI
def oV:Sh:=⟨[zl 0 .piec,zi 1,zi 5],[]⟩
noncomputable def gH (v0:List Piec)(v2:Int)(a:Int):Tr (Stp (Int) ((Int))):=
 .grd (aY v0 v2)<|
 .u ((v0.getD v2.toNat (Ty.zero .piec)).off != a) (.r (.out a))<|
 .grd (aY v0 v2)<|
 .l a8.c ((IntKind.wrap .i64 (a+1)),()) λc1=>
 .u (!((v0.getD v2.toNat (Ty.zero .piec)).text==c1)) (.r (.out (IntKind.wrap .i64 (a+1))))<|
 .r (.next (IntKind.wrap .i64 ((IntKind.wrap .i64 (a+1))+1)))
noncomputable def gy:oV.V→nB oV Int (Int):=λ(v0,v1,v2,_)=>⟨v2,v1,λv2 a=>(v0,a,v2,()),λv2 _=>(decide (v2<(v0.length:Int))),gH v0,up,1,(Int.toNat ((v0.length:Int)-v2)),.inl,eR,oB .ret ⟨[zi 1,zi 4],[]⟩ (λp=>(p,(-1),())) (.exit 0) ⟨[zi 1,zu 4],[]⟩ (λx=>(x.2,()))⟩
theorem wU {v0:List Piec}{v1 v2:Int}(h0:0≤v2)(h1:(v0.length:Int)≤4611686018427387904)(h2:sL bK v0)(h3:v1≤9223372036854775807):(gy (v0,v1,v2,())).U (v0.length:Int) (λv2 a=>a≤9223372036854775807) (λ_=>True):=
 iT (a:=v1) h0 h1 h3
noncomputable def mY:FT (List Piec×Int×Unit) (Int) (λx=>sL bK x.1∧x.2.1≤9223372036854775807) (λx v=>v≤9223372036854775807):= .mk (λ(x0,x1,_)=>
  .lp (gy (x0,x1,0,())).lp λw2=> .sum w2 (λ_=>
  .r (-1))<|
  λ(_,a2_0)=>
  .r a2_0) (ot @wU)
noncomputable def Cq:=dm st Tryz.func265 [(0,lb [0,1,5] [1,4])] [cU] 0 gy (ks:=[.sc (.sl .piec),.sc (.int .i64)]) mY rI
noncomputable def x7:FF (Entr×Unit) (Entr):=⟨λ(x0,_)=>
  .r x0⟩
noncomputable def Hn:=kS az Tryz.func275 [] (ks:=[.st .entr]) x7 (λv=>[(true,P8 v)])
noncomputable def lB:FT (List Entr×Unit) (List Entr) (λx=>sS x.1) (λx v=>v=x.1):=⟨λx=> .r x.1,λ_ _=>Tr.R rfl⟩
theorem y5 (x:List Entr×Unit)(hp:sS x.1):zO Tryz.prog 276 (zV [.sc (.sl .entr)] x) ((λv=>[rv (.sc (.sl .entr)) [.o true] v]) (lB.f x)):=by
 refine zO.byNil (t:= .entr) (xs:=x.1) (λh=> ?_) ?_
 ·obtain⟨x,_⟩:=x;subst h
  exact Oi st Tryz.func276 (by kernel_rfl) (by kernel_rfl)
 ·exact Oi st Tryz.func276 (by kernel_rfl) (Eq.trans (b:=bif Nat.ble ((2*(0+x.1.length)+1024)*24) aD then some ((λv=>[rv (.sc (.sl .entr)) [.o true] v]) x.1)else none) (by kernel_rfl) (by rw[show Nat.ble ((2*(0+x.1.length)+1024)*24) aD=true by simp only[Nat.ble_eq,aD];simp only[sS]at hp;omega];rfl))
noncomputable def zK:Ent1 Tryz.prog:=MX 276 (ks:=[.sc (.sl .entr)]) lB.c (λv=>[rv (.sc (.sl .entr)) [.o true] v]) y5
def tw:Sh:=⟨[zi 0,zo 5 0,zi 6],[za .u8]⟩
noncomputable def gT (v1:Int)(a:Int×List Int):Tr (Stp (Int×List Int) (Empty)):=
 .grd (aY a.2 v1)<|
 .r (.next ((a.1.fdiv 256),(a.2.set v1.toNat (IntKind.wrap .u8 a.1))))
noncomputable def fC:tw.V→rL tw (Int×List Int):=λ(v0,v1,v2,_)=>⟨v1,(v0,v2),λv1 a=>(a.1,v1,a.2,()),λv1 _=>(decide (0≤v1)),gT,dn,(-1),(Int.toNat (v1-0+1)),Empty.elim,Prod.mk,oN (.exit 0) ⟨[zu 4,zo 5 0],[za .u8]⟩ (λx=>(x.2.2,()))⟩
theorem Bh {v0 v1:Int}{v2:List Int}(h0:v1≤9223372036854775807)(h1:sS v2)(h2:v2.length=v2.length∧v1<(v2.length:Int)):(fC (v0,v1,v2,())).D 0 (λv1 a=>a.2.length=v2.length∧v1<(a.2.length:Int)) (λ_=>True):=
 Rj (a:=(v0,v2)) h0 (by decide) h2
noncomputable def av:FT (Int×Int×Unit) (ah) (λ_=>True) (λx v=>sS v∧(v.length:Int)≤max x.2.1 0):=⟨λ(x0,x1,_)=>
  .bnd (β:=Bool×Unit) (.d (bF.f (x1,1,6,())) λc1=>
   .u (!c1) (.r (true,()))<|
   .l aa.c (x0,(IntKind.wrap .i64 (8*x1)),()) λc2=>
   .r ((!c2),())) λ(u3a0,_)=>
  .u u3a0 (.r [])<|
  .grd ((((decide (0≤x1))&&(decide (x1=x1)))&&(decide (x1*1≤(aD:Int))))&&(decide (x1≤(aD:Int))))<|
  .lp (fC (x0,(IntKind.wrap .i64 (x1-1)),(List.replicate x1.toNat 0),())).lp λ(_,_,a4_1)=>
  .r (tY a4_1),
 λ(x0,x1,_) hp=>by
  refine Tr.B (Q':=λ_=>True) (Tr.V λ_ _=>Tr.I (λ_=>Tr.R trivial) λ_=>Tr.C trivial λ_ _ _=>Tr.R trivial) (λ(u3a0,_) _ _=>Tr.I (λ_=>Tr.R ?_) λ_=>Tr.G4 ?_ λ_=>Tr.L (Bh ?_ ?_ ?_) (λ(a4_0,a4_1) _=>Tr.R ?_) (λp=>Empty.elim p))
  all_goals ((try simp only[fC,LC.lp,LC.ct,Ct.lp,Tr.nice,jt]at*)<;>grind)⟩
noncomputable def lJ:=dm az Tryz.func281 [(0,lb [0,5,6] [4,5]),(3000001,rA 0 16)] [cG,cQ] 0 fC (ks:=[.sc (.int .i64),.sc (.int .i64)]) av (λv=>[(false,[.c (.str v)])])
def yY:Sh:=⟨[zi 1,zl 8 .entr,zi 9,zi 10],[]⟩
noncomputable def yO (v0:Int)(v1:List Entr)(v3:Int)(a:Unit):Tr (Stp (Unit) ((Int))):=
 .grd (aY v1 v3)<|
 .u ((v1.getD v3.toNat (Ty.zero .entr)).ip==v0) (.r (.out ((v1.getD v3.toNat (Ty.zero .entr)).hw)))<|
 .r (.next ())
noncomputable def ol:yY.V→nB yY Unit (Int):=λ(v0,v1,v2,v3,_)=>⟨v3,(),λv3 _=>(v0,v1,v2,v3,()),λv3 _=>(decide (v3<v2)),yO v0 v1,up,1,(Int.toNat (v2-v3)),.inl,eR,oB .ret ⟨[zi 4,zb 5],[]⟩ (λp=>(p,true,())) (.exit 0) ⟨[zu 4,zu 5],[]⟩ (λ_=>())⟩
theorem GX {v0 v2 v3:Int}{v1:List Entr}(h0:0≤v3)(h1:v2≤4611686018427387904)(h2:v2≤(v1.length:Int)):(ol (v0,v1,v2,v3,())).U v2 (λ_ _=>True) (λ_=>True):=
 iT h0 h1 trivial
noncomputable def vv:FT (List Entr×Int×Unit) (Int×Bool) (λx=>sS x.1) (λ_ _=>True):= .mk (λ(x0,x1,_)=>
  .lp (ol (x1,x0,(x0.length:Int),0,())).lp λw1=> .sum w1 (λp1a0=>
  .r (p1a0,true))<|
  λ_=>
  .r (0,false)) (ot @GX)
noncomputable def Hi:=dm az Tryz.func283 [(0,lb [1,8,9,10] [4,5])] [] 0 ol (ks:=[.sc (.sl .entr),.sc (.int .i64)]) vv (λv=>[(false,[.c (.int .i64 v.1)]),(false,[.c (.bool v.2)])])
noncomputable def ud:FF (Entr×Entr×Unit) (Bool):=⟨λ(x0,x1,_)=>
  .u (x0.ip != x1.ip) (.r false)<|
  .u (x0.hw != x1.hw) (.r false)<|
  .u (x0.age != x1.age) (.r false)<|
  .r true⟩
noncomputable def I4:=kS st Tryz.func286 [] (ks:=[.st .entr,.st .entr]) ud rB
noncomputable def aQ:FX (MacRow×Int×Unit) (Int) (λ_=>True) (bP [.st .macRow,.sc (.int .i64)]):=⟨λ(x0,x1,_)=>
  .u (decide ((IntKind.wrap .i64 (x1-(x0.input.length:Int)))<0)) (.r (-1))<|
  .r (IntKind.wrap .i64 (x1-(x0.input.length:Int))),
 λ(x0,x1,_) hp hf=>by
  simp only[bP,Pk.fact,gd,eo,Fl.fact,Ty.fl,Ty.toH]at hf
  refine Tr.F (by kernel_rfl) trivial⟩
theorem Jy (x:MacRow)(k:Int)(h0:0≤k)(h1:k≤1048576)(hl:x.input.length≤4611686018427387904)(h:0≤aQ.f (x,k,())):aQ.f (x,k,())≤k∧x.input.length≤1048576:=by
 have w:IntKind.wrap .i64 (k-(x.input.length:Int))=k-(x.input.length:Int):=aw (by omega) (by omega)
 simp only[FX.f,aQ,Tr.nice,w]at h⊢
 by_cases c:k-(x.input.length:Int)<0
 ·rw[decide_eq_true c,cond_true]at h;omega
 ·rw[decide_eq_false c,cond_false];exact⟨by omega,by omega⟩
noncomputable def Fv:=oG st Tryz.func287 [] (ks:=[.st .macRow,.sc (.int .i64)]) aQ rI
noncomputable def vj:FT (MacRow×Unit) (MacRow) (λx=>aj x.1) (λx v=>aj v):= .mk λ(x0,_)=>
  .r x0
noncomputable def Fa:=bu az Tryz.func304 [] (ks:=[.st .macRow]) vj (λv=>[(true,Nd v)])
def mr:Sh:=⟨[zl 0 .macRow,zl 1 .macRow,zi 12,zi 13],[]⟩
noncomputable def mz (v0 v1:List MacRow)(v3:Int)(a:Unit):Tr (Stp (Unit) ((Unit))):=
 .grd (aY v0 v3)<|
 .grd (aY v1 v3)<|
 .u (!(((v0.getD v3.toNat (Ty.zero .macRow)).input==(v1.getD v3.toNat (Ty.zero .macRow)).input)&&(((v0.getD v3.toNat (Ty.zero .macRow)).value==(v1.getD v3.toNat (Ty.zero .macRow)).value)&&true))) (.r (.out ()))<|
 .r (.next ())
noncomputable def eX:mr.V→nB mr Unit (Unit):=λ(v0,v1,v2,v3,_)=>⟨v3,(),λv3 _=>(v0,v1,v2,v3,()),λv3 _=>(decide (v3<v2)),mz v0 v1,up,1,(Int.toNat (v2-v3)),.inl,eR,oB .ret ⟨[zb 4],[]⟩ (λ_=>(false,())) (.exit 0) ⟨[zu 4],[]⟩ (λ_=>())⟩
theorem uw {v0 v1:List MacRow}{v2 v3:Int}(h0:0≤v3)(h1:v2≤4611686018427387904)(h2:v2≤(v0.length:Int))(h3:v2≤(v1.length:Int)):(eX (v0,v1,v2,v3,())).U v2 (λ_ _=>True) (λ_=>True):=
 iT h0 h1 trivial
noncomputable def nN:FT (List MacRow×List MacRow×Unit) (Bool) (λx=>sL aj x.1∧sL aj x.2.1) (λ_ _=>True):= .mk (λ(x0,x1,_)=>
  .u ((x0.length:Int) != (x1.length:Int)) (.r false)<|
  .lp (eX (x0,x1,(x0.length:Int),0,())).lp λw1=> .sum w1 (λ_=>
  .r false)<|
  λ_=>
  .r true) (ot @uw)
noncomputable def yp:=dm st Tryz.func307 [(0,lb [0,1,12,13] [4])] [] 0 eX (ks:=[.sc (.sl .macRow),.sc (.sl .macRow)]) nN rB
noncomputable def lD:FT (List Tupl×Unit) (List Tupl) (λx=>sS x.1) (λx v=>v=x.1):=⟨λx=> .r x.1,λ_ _=>Tr.R rfl⟩
theorem zF (x:List Tupl×Unit)(hp:sS x.1):zO Tryz.prog 325 (zV [.sc (.sl .tupl)] x) ((λv=>[rv (.sc (.sl .tupl)) [.o true] v]) (lD.f x)):=by
 refine zO.byNil (t:= .tupl) (xs:=x.1) (λh=> ?_) ?_
 ·obtain⟨x,_⟩:=x;subst h
  exact Oi st Tryz.func325 (by kernel_rfl) (by kernel_rfl)
 ·exact Oi st Tryz.func325 (by kernel_rfl) (Eq.trans (b:=bif Nat.ble ((2*(0+x.1.length)+1024)*24) aD then some ((λv=>[rv (.sc (.sl .tupl)) [.o true] v]) x.1)else none) (by kernel_rfl) (by rw[show Nat.ble ((2*(0+x.1.length)+1024)*24) aD=true by simp only[Nat.ble_eq,aD];simp only[sS]at hp;omega];rfl))
noncomputable def zn:Ent1 Tryz.prog:=MX 325 (ks:=[.sc (.sl .tupl)]) lD.c (λv=>[rv (.sc (.sl .tupl)) [.o true] v]) zF
noncomputable def cb:FT (Recv×Unit) (Int) (λx=>gv x.1) (λx v=>0≤v∧v≤32∧(x.1.data.length≤32→v=N3 x.1)):= .mk λ(x0,_)=>
  .u x0.done (.r 0)<|
  .d (β:=Int) (if 0<(IntKind.wrap .i64 (32-(x0.data.length:Int)))then(IntKind.wrap .i64 (32-(x0.data.length:Int)))else 0) λe1=>
  .r e1
noncomputable def xq:=bu az Tryz.func329 [] (ks:=[.st .recv]) cb rI
noncomputable def qv:FF (MacRow×MacRow×Unit) (Bool):=⟨λ(x0,x1,_)=>
  .u (!(x0.input==x1.input)) (.r false)<|
  .u (x0.value != x1.value) (.r false)<|
  .r true⟩
noncomputable def E4:=kS st Tryz.func331 [] (ks:=[.st .macRow,.st .macRow]) qv rB
noncomputable def gM:FX (Sndr×Int×Unit) (Int) (λ_=>True) (bP [.st .sndr,.sc (.int .i64)]):=⟨λ(x0,x1,_)=>
  .u (decide ((IntKind.wrap .i64 (x1-(x0.data.length:Int)))<0)) (.r (-1))<|
  .r (IntKind.wrap .i64 (x1-(x0.data.length:Int))),
 λ(x0,x1,_) hp hf=>by
  simp only[bP,Pk.fact,gd,eo,Fl.fact,Ty.fl,Ty.toH]at hf
  refine Tr.F (by kernel_rfl) trivial⟩
theorem Ka (x:Sndr)(k:Int)(h0:0≤k)(h1:k≤1048576)(hl:x.data.length≤4611686018427387904)(h:0≤gM.f (x,k,())):gM.f (x,k,())≤k∧x.data.length≤1048576:=by
 have w:IntKind.wrap .i64 (k-(x.data.length:Int))=k-(x.data.length:Int):=aw (by omega) (by omega)
 simp only[FX.f,gM,Tr.nice,w]at h⊢
 by_cases c:k-(x.data.length:Int)<0
 ·rw[decide_eq_true c,cond_true]at h;omega
 ·rw[decide_eq_false c,cond_false];exact⟨by omega,by omega⟩
noncomputable def FH:=oG st Tryz.func351 [] (ks:=[.st .sndr,.sc (.int .i64)]) gM rI
noncomputable def nX:FT (Sndr×Unit) (Int) (λx=>d8 x.1) (λx v=>(0≤x.1.sent∧x.1.sent≤1000→x.1.sent≤v∧v≤x.1.sent+1)):= .mk λ(x0,_)=>
  .u x0.finSent (.r (IntKind.wrap .i64 (x0.sent+1)))<|
  .r x0.sent
noncomputable def xd:=bu st Tryz.func353 [] (ks:=[.st .sndr]) nX rI
noncomputable def qh:FF (Int×Int×Unit) (Int):=⟨λ(x0,x1,_)=>
  .u (decide (x0<x1)) (.r x0)<|
  .r x1⟩
@[grind=] theorem vn (x0 x1:Int):qh.f (x0,x1,())=(if x0<x1 then x0 else x1):=by
 simp only[qh,FF.f,Tr.nice]
 by_cases h:x0<x1<;>simp[h]
noncomputable def ES:=kS st Tryz.func354 [] (ks:=[.sc (.int .i64),.sc (.int .i64)]) qh rI
noncomputable def qH:FT (Sndr×Unit) (Sndr) (λx=>d8 x.1) (λx v=>d8 v):= .mk λ(x0,_)=>
  .r x0
noncomputable def Gt:=bu az Tryz.func355 [] (ks:=[.st .sndr]) qH (λv=>[(true,BE v)])
noncomputable def dY:FT (Limi×Unit) (Bool) (λ_=>True) (λx v=>(v=true→x.1.halves≤64∧x.1.waiting≤16∧x.1.conns≤16)):= .mk λ(x0,_)=>
  .d (bF.f (x0.halves,1,64,())) λc1=>
  .u c1 (.d (bF.f (x0.waiting,1,16,())) λc2=>
   .u c2 (.d (bF.f (x0.conns,1,16,())) λc3=>
    .u c3 (.d (bF.f (x0.chal,0,1000,())) λc4=>
     .r c4)<|
    .r false)<|
   .r false)<|
  .r false
noncomputable def Ge:=bu az Tryz.func357 [cG] (ks:=[.st .limi]) dY rB
noncomputable def Dw:=[cQ,cG]
noncomputable def Dj:Fx:=⟨358,Tryz.f358,[(3000001,rA 0 15)],0⟩
noncomputable def bf:FT (Opti×Unit) (Bool) (λ_=>True) (λ_ _=>True):= .mk λ(x0,_)=>
  .bnd (β:=Bool×Unit) (.u (!x0.stamp) (.u (x0.val != 0) (.r (true,()))<|
    .r ((x0.echo != 0),()))<|
   .r (false,())) λ(u1a0,_)=>
  .u u1a0 (.r false)<|
  .l aa.c (x0.mss,16,()) λc2=>
  .u c2 (.d (bF.f (x0.scale,(-1),14,())) λc3=>
   .u c3 (.l aa.c (x0.val,32,()) λc4=>
    .u c4 (.l aa.c (x0.echo,32,()) λc5=>
     .r c5)<|
    .r false)<|
   .r false)<|
  .r false
noncomputable def ly:=lh az Dj Dw [] (ks:=[.st .opti]) bf rB Tryz.func358 trivial
noncomputable def vP:FF (Conn×Unit) (Bool):=⟨λ(x0,_)=>
  .u (!(x0.s.data==[])) (.r true)<|
  .u x0.s.fin (.r (!x0.s.done))<|
  .r false⟩
noncomputable def JO:=kS az Tryz.func360 [] (ks:=[.st .conn]) vP rB
noncomputable def FW:=[cQ,cG]
noncomputable def Fp:Fx:=⟨361,Tryz.f361,[(3000001,rA 0 21),(3000003,rA 0 36)],0⟩
noncomputable def bv:FT (Sndr×Unit) (Bool) (λ_=>True) (λx v=>(v=true↔SO x.1)):= .mk λ(x0,_)=>
  .bnd (β:=Bool×Unit) (.l aa.c (x0.una,32,()) λc1=>
   .u (!c1) (.r (true,()))<|
   .u (decide (48<(x0.data.length:Int))) (.r (true,()))<|
   .d (bF.f (x0.sent,0,(x0.data.length:Int),())) λc2=>
   .r ((!c2),())) λ(u3a0,_)=>
  .u u3a0 (.r false)<|
  .bnd (β:=Bool×Unit) (.u x0.finSent (.u (!x0.fin) (.r (true,()))<|
    .r ((x0.sent != (x0.data.length:Int)),()))<|
   .r (false,())) λ(u4a0,_)=>
  .u u4a0 (.r false)<|
  .u (!x0.done) (.r true)<|
  .u x0.fin (.u (!x0.finSent) (.r (x0.data==[]))<|
   .r false)<|
  .r false
noncomputable def mW:=lh az Fp FW [] (ks:=[.st .sndr]) bv rB Tryz.func361 trivial
def oL:Sh:=⟨[zp 1 0,zi 4,zi 5,zl 45 .piec,zi 46,zi 47],[zg .recv]⟩
def vG:An:=⟨⟨[],[],false,0⟩,⟨[1,2,4],[],false,0⟩,⟨[],[]⟩,[(.normal,⟨[zp 1 0,zb 2,zi 4],[zg .recv]⟩)]⟩
noncomputable def cy (v0:Int)(v2:List Piec)(v4:Int)(a:Int):Tr (Stp (Int) ((Unit))):=
 .grd (aY v2 v4)<|
 .bnd (β:=Bool×Unit) (.u ((v2.getD v4.toNat (Ty.zero .piec)).text==[]) (.r (true,()))<|
  .u (decide ((v2.getD v4.toNat (Ty.zero .piec)).off≤a)) (.r (true,()))<|
  .d (IntKind.wrap .i64 (v0-(((v2.getD v4.toNat (Ty.zero .piec)).text).length:Int))) λe6=>
  .r ((decide (e6<(v2.getD v4.toNat (Ty.zero .piec)).off)),())) λ(u7a0,_)=>
 .u u7a0 (.r (.out ()))<|
 .d (IntKind.wrap .i64 ((v2.getD v4.toNat (Ty.zero .piec)).off+(((v2.getD v4.toNat (Ty.zero .piec)).text).length:Int))) λe8=>
 .r (.next e8)
noncomputable def dA:oL.V→nB oL Int (Unit):=λ(v0,v1,v2,v3,v4,v5,_)=>⟨v4,v1,λv4 a=>(v0,a,v2,v3,v4,v5,()),λv4 _=>(decide (v4<v3)),cy v0 v2,up,1,(Int.toNat (v3-v4)),.inl,eR,oB .ret ⟨[zp 1 0,zb 2],[zg .recv]⟩ (λ_=>(false,v5,())) (.exit 0) ⟨[zp 1 0,zu 2],[zg .recv]⟩ (λ_=>(v5,()))⟩
theorem vY {v0 v1 v3 v4:Int}{v2:List Piec}{v5:Recv}(h0:0≤v4)(h1:v3≤4611686018427387904)(h2:v0≤32)(h3:0≤v0)(h4:sL bK v2)(h5:v3≤(v2.length:Int))(h6:0≤v1∧v1≤32∧cI (pw v0) (v2.take v4.toNat)):(dA (v0,v1,v2,v3,v4,v5,())).U v3 (λv4 a=>0≤a∧a≤32∧cI (pw v0) (v2.take v4.toNat)) (λ_=>True):=
 LC.okU (i:=v4) (a:=v1) (λ_ _=>rfl) (λ_=>rfl) rfl h0 h1 h6 λv4 v1 hj hk hv=>by
  refine Tr.G2 ?_ λ_=>Tr.B (Q':=λ_=>True) (Tr.F (by kernel_rfl) trivial) (λ(u7a0,_) _ _=>Tr.I (λ_=>Tr.Ro trivial) λ_=>Tr.V λ_ _=>Tr.Rn ?_)
  all_goals ((try simp only[Tr.nice,jt]at*)<;>grind [←Pd])
noncomputable def cV:FT (Recv×Unit) (Bool) (λx=>gv x.1) (λx v=>(v=true→RO x.1)∧(v=true→cI (pw (N3 x.1)) x.1.held)):=⟨λ(x0,_)=>
  .l cb.c (x0,()) λc1=>
  .bnd (β:=Bool×Unit) (.l aa.c (x0.next,32,()) λc2=>
   .u (!c2) (.r (true,()))<|
   .u (decide (32<(x0.data.length:Int))) (.r (true,()))<|
   .u (decide (3<(x0.held.length:Int))) (.r (true,()))<|
   .d (bF.f (x0.fin,(-1),c1,())) λc3=>
   .u (!c3) (.r (true,()))<|
   .r ((x0.fin==0),())) λ(u4a0,_)=>
  .u u4a0 (.r false)<|
  .bnd (β:=Bool×Int×Recv×Unit) (.u (x0.fin != (-1)) (.r (false,x0.fin,x0,()))<|
   .r (false,c1,x0,())) λ(_,u5a1,u5a2,_)=>
  .lp (dA (u5a1,0,u5a2.held,(u5a2.held.length:Int),0,u5a2,())).lp λw9=> .sum w9 (λ_=>
  .r false)<|
  λ_=>
  .u (!u5a2.done) (.r true)<|
  .u ((u5a2.held.length:Int)==0) (.r (u5a2.fin==(-1)))<|
  .r false,
 λ(x0,_) hp=>by
  refine Tr.C ?_ λc1 hc1 qc1=>Tr.B (Q':=λ_=>True) (Tr.C trivial λc2 hc2 qc2=>Tr.F (by kernel_rfl) trivial) (λ(u4a0,_) hj4 qj4=>Tr.I (λb0=>Tr.R ?_) λb0=>Tr.B (Q':=λw=>gv w.2.2.1∧0≤w.2.1∧w.2.1≤32∧w.2.2.1=x0∧(x0.data.length≤32→w.2.1≤N3 x0)) (Tr.I (λb1=>Tr.R ?_) λb1=>Tr.R ?_) (λ(u5a0,u5a1,u5a2,_) hj5 qj5=>Tr.L (vY ?_ ?_ ?_ ?_ ?_ ?_ ?_) (λa9_0 i9=>Tr.Sr (Tr.I (λb1=>Tr.R ?_) λb1=>Tr.I (λb2=>Tr.R ?_) λb2=>Tr.R ?_)) (λ_ hp9=>Tr.Sl (Tr.R ?_))))
  all_goals ((try simp only[dA,LC.lp,LC.ct,Ct.lp,Tr.nice,jt]at*)<;>grind [P0,QN,QQ])⟩
noncomputable def BK:=dm az Tryz.func362 [(0,lb [1,4,5,45,46,47] [1,2]),(1000041,vG),(3000002,rA 0 37),(3000011,rA 0 69)] [xq,cQ,cG] 0 dA (ks:=[.st .recv]) cV rB
noncomputable def oE:FF (Unit) (Opti):=⟨λ_=>
  .r (⟨0,(-1),false,false,0,0⟩:Opti)⟩
noncomputable def DG:=kS az Tryz.func364 [] (ks:=[]) oE (λv=>[(true,Ks v)])
noncomputable def eH:FF (Conn×Unit) (Int):=⟨λ(x0,_)=>
  .u (x0.opts.mss==0) (.r 536)<|
  .d (β:=Int) (if 1<(if 1460<x0.opts.mss then 1460 else x0.opts.mss)then(if 1460<x0.opts.mss then 1460 else x0.opts.mss)else 1) λe1=>
  .r e1⟩
noncomputable def JY:=kS az Tryz.func366 [] (ks:=[.st .conn]) eH rI
noncomputable def cl:FT (Sndr×Chun×Unit) (Sndr) (λx=>d8 x.1∧we x.2.1) (λx v=>d8 v∧(SO x.1→(x.2.1.text.length:Int)+x.1.sent≤x.1.data.length→x.1.finSent=false→(x.2.1.fin=true→x.1.fin=true∧x.1.done=false∧x.1.sent+x.2.1.text.length=x.1.data.length)→v={x.1 with sent:=x.1.sent+x.2.1.text.length,finSent:=x.2.1.fin})):= .mk λ(x0,x1,_)=>
  .u x0.finSent (.l bv.c (x0,()) λc1=>
   .u (!c1) (.r x0)<|
   .l bv.c (({x0 with sent:=(IntKind.wrap .i64 (x0.sent+(x1.text.length:Int))),finSent:=true}:Sndr),()) λc2=>
   .u (!c2) (.r x0)<|
   .u x1.fin (.u (!x0.fin) (.r x0)<|
    .u x0.done (.r x0)<|
    .r ({x0 with sent:=(IntKind.wrap .i64 (x0.sent+(x1.text.length:Int))),finSent:=true}:Sndr))<|
   .r ({x0 with sent:=(IntKind.wrap .i64 (x0.sent+(x1.text.length:Int))),finSent:=true}:Sndr))<|
  .l bv.c (x0,()) λc3=>
  .u (!c3) (.r x0)<|
  .l bv.c (({x0 with sent:=(IntKind.wrap .i64 (x0.sent+(x1.text.length:Int))),finSent:=x1.fin}:Sndr),()) λc4=>
  .u (!c4) (.r x0)<|
  .u x1.fin (.u (!x0.fin) (.r x0)<|
   .u x0.done (.r x0)<|
   .r ({x0 with sent:=(IntKind.wrap .i64 (x0.sent+(x1.text.length:Int))),finSent:=x1.fin}:Sndr))<|
  .r ({x0 with sent:=(IntKind.wrap .i64 (x0.sent+(x1.text.length:Int))),finSent:=x1.fin}:Sndr)
noncomputable def HT:=bu az Tryz.func367 [mW] (ks:=[.st .sndr,.st .chun]) cl (λv=>[(true,BE v)])
noncomputable def qI:FF (Sndr×Sndr×Unit) (Bool):=⟨λ(x0,x1,_)=>
  .u (x0.una != x1.una) (.r false)<|
  .u (!(x0.data==x1.data)) (.r false)<|
  .u (x0.sent != x1.sent) (.r false)<|
  .u (!(x0.fin==x1.fin)) (.r false)<|
  .u (!(x0.finSent==x1.finSent)) (.r false)<|
  .u (!(x0.done==x1.done)) (.r false)<|
  .r true⟩
noncomputable def Gd:=kS st Tryz.func368 [] (ks:=[.st .sndr,.st .sndr]) qI rB
def wN:Sh:=⟨[zl 0 .entr,zi 1,zi 5],[]⟩
noncomputable def vW (v0:List Entr)(v1:Int)(v2:Int)(a:Unit):Tr (Stp (Unit) ((Int))):=
 .grd (aY v0 v2)<|
 .u ((v0.getD v2.toNat (Ty.zero .entr)).ip==v1) (.r (.out v2))<|
 .r (.next ())
noncomputable def mG:wN.V→nB wN Unit (Int):=λ(v0,v1,v2,_)=>⟨v2,(),λv2 _=>(v0,v1,v2,()),λv2 _=>(decide (v2<(v0.length:Int))),vW v0 v1,up,1,(Int.toNat ((v0.length:Int)-v2)),.inl,eR,oB .ret ⟨[zi 4],[]⟩ (λp=>(p,())) (.exit 0) ⟨[zu 4],[]⟩ (λ_=>())⟩
theorem Fw {v0:List Entr}{v1 v2:Int}(h0:0≤v2)(h1:(v0.length:Int)≤4611686018427387904):(mG (v0,v1,v2,())).U (v0.length:Int) (λ_ _=>True) (λp=>v2≤p∧p<(v0.length:Int)):=
 iT h0 h1 trivial
noncomputable def xf:FT (List Entr×Int×Unit) (Int) (λx=>sS x.1) (λx v=> -1≤v∧v<x.1.length):= .mk (λ(x0,x1,_)=>
  .lp (mG (x0,x1,0,())).lp λw1=> .sum w1 (λp1a0=>
  .r p1a0)<|
  λ_=>
  .r (-1)) (ot @Fw)
noncomputable def Ep:=dm st Tryz.func370 [(0,lb [0,1,5] [4])] [] 0 mG (ks:=[.sc (.sl .entr),.sc (.int .i64)]) xf rI
def uW:Sh:=⟨[zi 0],[]⟩
noncomputable def pf (a:Int):Tr (Stp (Int) ((Int))):=
 .u (decide (65535<a)) (.d (IntKind.wrap .i64 ((IntKind.wrap .i64 (a.tdiv 65536))+(a.tmod 65536))) λe1=>
  .r (.next e1))<|
 .r (.out a)
noncomputable def lu:uW.V→LW uW (Int) ((Int)):=λ(v0,_)=>⟨v0,λa=>(a,()),pf,Int.toNat v0,oN (.exit 0) ⟨[zi 0,zu 2],[]⟩ (λp=>(p,()))⟩
theorem Df {v0:Int}(h0:0≤v0∧v0≤9223372036854775807):(lu (v0,())).W (λp=>0≤p∧p≤65535):=
 LW.okW (a:=v0) (λa=>0≤a∧a≤9223372036854775807) (λa=>Int.toNat a) rfl h0 λv0 hv=>by
  refine Tr.I (λb0=>Tr.V λe1 he1=>Tr.Rn ?_) λb0=>Tr.Ro ?_
  all_goals (((try subst_vars);simp only[decide_eq_true_eq,decide_eq_false_iff_not]at*;first|omega|(rw[EY (by omega) (by omega)];omega)|grind))
noncomputable def wu:FT (Int×Unit) (Int) (λx=>x.1≤9223372036854775807) (λx v=>0≤v∧v≤65535):= .mk (λ(x0,_)=>
  .u (decide (x0<0)) (.r 0)<|
  .lp (lu (x0,())).lp λp2a0=>
  .r p2a0) (ot @Df)
noncomputable def JT:=L6 st Tryz.func373 [(0,lb [0] [0,2])] [] 0 lu (ks:=[.sc (.int .i64)]) wu rI
def tq:Sh:=⟨[zs 0,zi 3,zi 4],[]⟩
noncomputable def fj (v0:ah)(v2:Int)(a:Int):Tr (Stp (Int) (Empty)):=
 .grd (aY v0 v2)<|
 .d (IntKind.wrap .i64 (a+(IntKind.wrap .i64 (256*(IntKind.wrap .i64 (nZ v0 v2.toNat)))))) λe1=>
 .u (decide ((IntKind.wrap .i64 (v2+1))<(v0.length:Int))) (.grd (aY v0 (IntKind.wrap .i64 (v2+1)))<|
  .d (IntKind.wrap .i64 (e1+(IntKind.wrap .i64 (nZ v0 ((IntKind.wrap .i64 (v2+1)).toNat))))) λe2=>
  .r (.next e2))<|
 .r (.next e1)
noncomputable def cC:tq.V→rL tq Int:=λ(v0,v1,v2,_)=>⟨v2,v1,λv2 a=>(v0,a,v2,()),λv2 _=>(decide (v2<(v0.length:Int))),fj v0,λv2=>IntKind.wrap .i64 (v2+2),2,(Int.toNat (((v0.length:Int)-v2+1)/2)),Empty.elim,Prod.mk,oN (.exit 0) ⟨[zu 2,zi 3],[]⟩ (λx=>(x.2,()))⟩
theorem A2 {v0:ah}{v1 v2:Int}(h0:0≤v2)(h1:(v0.length:Int)≤4611686018427387904)(h2:sS v0)(h3:0≤v1∧v1≤65536*v2):(cC (v0,v1,v2,())).S (λv2 a=>0≤a∧a≤65536*v2) (λ_=>True):=by
 refine LC.okS h3 (λj a hj hv=>⟨⟨?_, ?_⟩, ?_⟩) (λa hv=> ?_)
 ·simp only[cC,decide_eq_true_eq]at*;omega
 ·simp only[cC]at*;exact aw (by omega) (by omega)
 ·refine Tr.G2 ?_ λ_=>Tr.V λ_ _=>Tr.I (λ_=>Tr.G2 ?_ λ_=>Tr.V λ_ _=>Tr.Rn ?_) λ_=>Tr.Rn ?_
  all_goals (try simp only[cC]at*)<;>(grind)
 ·simp only[cC,decide_eq_false_iff_not]at*;omega
noncomputable def um:FT (ah×Unit) (Int) (λx=>sS x.1) (λx v=>0≤v∧v≤281474976710656):=⟨λ(x0,_)=>
  .lp (cC (x0,0,0,())).lp λ(_,a3_0)=>
  .r a3_0,
 λ(x0,_) hp=>by
  refine Tr.L (A2 ?_ ?_ ?_ ?_) (λa3_0 _=>Tr.R ?_) (λp=>Empty.elim p)
  all_goals ((try simp only[cC,LC.lp,LC.ct,Ct.lp]at*)<;>grind)⟩
noncomputable def GV:=dm st Tryz.func374 [(0,lb [0,3,4] [2,3])] [] 0 cC (ks:=[.sc .str]) um rI
def uR:Sh:=⟨[zi 0],[]⟩
noncomputable def pi (a:Int):Tr (Stp (Int) ((Int))):=
 .u (decide (65536≤a)) (.d (IntKind.wrap .i64 ((IntKind.wrap .i64 (a.tdiv 65536))+(a.tmod 65536))) λe1=>
  .r (.next e1))<|
 .r (.out a)
noncomputable def lv:uR.V→LW uR (Int) ((Int)):=λ(v0,_)=>⟨v0,λa=>(a,()),pi,Int.toNat v0,oN (.exit 0) ⟨[zi 0,zu 2],[]⟩ (λp=>(p,()))⟩
theorem Dt {v0:Int}(h0:0≤v0∧v0≤9223372036854775807):(lv (v0,())).W (λp=>0≤p∧p≤65535):=
 LW.okW (a:=v0) (λa=>0≤a∧a≤9223372036854775807) (λa=>Int.toNat a) rfl h0 λv0 hv=>by
  refine Tr.I (λb0=>Tr.V λe1 he1=>Tr.Rn ?_) λb0=>Tr.Ro ?_
  all_goals (((try subst_vars);simp only[decide_eq_true_eq,decide_eq_false_iff_not]at*;first|omega|(rw[EY (by omega) (by omega)];omega)|grind))
noncomputable def vO:FT (Int×Unit) (Int) (λx=>x.1≤9223372036854775807) (λx v=>0≤v∧v≤65535):= .mk (λ(x0,_)=>
  .u (decide (x0<0)) (.r 0)<|
  .lp (lv (x0,())).lp λp2a0=>
  .r p2a0) (ot @Dt)
noncomputable def J6:=L6 az Tryz.func375 [(0,lb [0] [0,2])] [] 0 lv (ks:=[.sc (.int .i64)]) vO rI
def rQ:Sh:=⟨[zs 0,zi 3,zi 4],[]⟩
noncomputable def fw (v0:ah)(v2:Int)(a:Int):Tr (Stp (Int) (Empty)):=
 .u ((v2.tmod 2)==0) (.grd (aY v0 v2)<|
  .d (IntKind.wrap .i64 (a+(IntKind.wrap .i64 ((IntKind.wrap .i64 (nZ v0 v2.toNat))*256)))) λe1=>
  .r (.next e1))<|
 .grd (aY v0 v2)<|
 .r (.next (IntKind.wrap .i64 (a+(IntKind.wrap .i64 (nZ v0 v2.toNat)))))
noncomputable def gL:rQ.V→rL rQ Int:=λ(v0,v1,v2,_)=>⟨v2,v1,λv2 a=>(v0,a,v2,()),λv2 _=>(decide (v2<(v0.length:Int))),fw v0,up,1,(Int.toNat ((v0.length:Int)-v2)),Empty.elim,Prod.mk,oN (.exit 0) ⟨[zu 2,zi 3],[]⟩ (λx=>(x.2,()))⟩
theorem BN {v0:ah}{v1 v2:Int}(h0:0≤v2)(h1:(v0.length:Int)≤4611686018427387904)(h2:sS v0)(h3:0≤v1∧v1≤65536*v2):(gL (v0,v1,v2,())).U (v0.length:Int) (λv2 a=>0≤a∧a≤65536*v2) (λ_=>True):=
 iT (a:=v1) h0 h1 h3
noncomputable def ne:FT (ah×Unit) (Int) (λx=>sS x.1) (λx v=>0≤v∧v≤281474976710656):=⟨λ(x0,_)=>
  .lp (gL (x0,0,0,())).lp λ(_,a2_0)=>
  .r a2_0,
 λ(x0,_) hp=>by
  refine Tr.L (BN ?_ ?_ ?_ ?_) (λa2_0 _=>Tr.R ?_) (λp=>Empty.elim p)
  all_goals ((try simp only[gL,LC.lp,LC.ct,Ct.lp]at*)<;>grind)⟩
noncomputable def Ih:=dm az Tryz.func376 [(0,lb [0,3,4] [2,3])] [] 0 gL (ks:=[.sc .str]) ne rI
noncomputable def jv:FT (Pack×Unit) (Bool) (λ_=>True) (λx v=>(v=true→x.1.body.length≤1480)):= .mk λ(x0,_)=>
  .l aa.c (x0.src,32,()) λc1=>
  .u c1 (.l aa.c (x0.dst,32,()) λc2=>
   .u c2 (.d (bF.f (x0.ttl,1,255,())) λc3=>
    .u c3 (.l aa.c (x0.proto,8,()) λc4=>
     .u c4 (.l aa.c (x0.id,16,()) λc5=>
      .u c5 (.r (decide ((x0.body.length:Int)≤1480)))<|
      .r false)<|
     .r false)<|
    .r false)<|
   .r false)<|
  .r false
noncomputable def GB:=bu az Tryz.func377 [cQ,cG] (ks:=[.st .pack]) jv rB
noncomputable def tE:FT (Fram×Unit) (Bool) (λ_=>True) (λx v=>(v=true→x.1.body.length≤1586)):= .mk λ(x0,_)=>
  .l aa.c (x0.dst,48,()) λc1=>
  .u c1 (.l aa.c (x0.src,48,()) λc2=>
   .u c2 (.d (bF.f (x0.type,1536,65535,())) λc3=>
    .u c3 (.r (decide ((x0.body.length:Int)≤1586)))<|
    .r false)<|
   .r false)<|
  .r false
noncomputable def IX:=bu az Tryz.func378 [cQ,cG] (ks:=[.st .fram]) tE rB
noncomputable def kG:FT (List MacRow×Unit) (List MacRow) (λx=>sS x.1) (λx v=>v=x.1):=⟨λx=> .r x.1,λ_ _=>Tr.R rfl⟩
theorem xI (x:List MacRow×Unit)(hp:sS x.1):zO Tryz.prog 410 (zV [.sc (.sl .macRow)] x) ((λv=>[rv (.sc (.sl .macRow)) [.o true] v]) (kG.f x)):=by
 refine zO.byNil (t:= .macRow) (xs:=x.1) (λh=> ?_) ?_
 ·obtain⟨x,_⟩:=x;subst h
  exact Oi st Tryz.func410 (by kernel_rfl) (by kernel_rfl)
 ·exact Oi st Tryz.func410 (by kernel_rfl) (Eq.trans (b:=bif Nat.ble ((2*(0+x.1.length)+1024)*24) aD then some ((λv=>[rv (.sc (.sl .macRow)) [.o true] v]) x.1)else none) (by kernel_rfl) (by rw[show Nat.ble ((2*(0+x.1.length)+1024)*24) aD=true by simp only[Nat.ble_eq,aD];simp only[sS]at hp;omega];rfl))
noncomputable def xW:Ent1 Tryz.prog:=MX 410 (ks:=[.sc (.sl .macRow)]) kG.c (λv=>[rv (.sc (.sl .macRow)) [.o true] v]) xI
noncomputable def lz:FT (List Piec×Unit) (List Piec) (λx=>sS x.1) (λx v=>v=x.1):=⟨λx=> .r x.1,λ_ _=>Tr.R rfl⟩
theorem y8 (x:List Piec×Unit)(hp:sS x.1):zO Tryz.prog 411 (zV [.sc (.sl .piec)] x) ((λv=>[rv (.sc (.sl .piec)) [.o true] v]) (lz.f x)):=by
 refine zO.byNil (t:= .piec) (xs:=x.1) (λh=> ?_) ?_
 ·obtain⟨x,_⟩:=x;subst h
  exact Oi st Tryz.func411 (by kernel_rfl) (by kernel_rfl)
 ·exact Oi st Tryz.func411 (by kernel_rfl) (Eq.trans (b:=bif Nat.ble ((2*(0+x.1.length)+1024)*24) aD then some ((λv=>[rv (.sc (.sl .piec)) [.o true] v]) x.1)else none) (by kernel_rfl) (by rw[show Nat.ble ((2*(0+x.1.length)+1024)*24) aD=true by simp only[Nat.ble_eq,aD];simp only[sS]at hp;omega];rfl))
noncomputable def zc:Ent1 Tryz.prog:=MX 411 (ks:=[.sc (.sl .piec)]) lz.c (λv=>[rv (.sc (.sl .piec)) [.o true] v]) y8
noncomputable def dK:FT (Sndr×Unit) (Int) (λx=>d8 x.1) (λx v=>(0≤x.1.sent∧x.1.sent≤1000→x.1.sent≤v∧v≤x.1.sent+1)):= .mk λ(x0,_)=>
  .u x0.finSent (.r (IntKind.wrap .i64 (x0.sent+1)))<|
  .r x0.sent
noncomputable def Aj:=bu az Tryz.func432 [] (ks:=[.st .sndr]) dK rI
noncomputable def cO:FX (Piec×Int×Unit) (Int) (λ_=>True) (bP [.st .piec,.sc (.int .i64)]):=⟨λ(x0,x1,_)=>
  .u (decide ((IntKind.wrap .i64 (x1-(x0.text.length:Int)))<0)) (.r (-1))<|
  .r (IntKind.wrap .i64 (x1-(x0.text.length:Int))),
 λ(x0,x1,_) hp hf=>by
  simp only[bP,Pk.fact,gd,eo,Fl.fact,Ty.fl,Ty.toH]at hf
  refine Tr.F (by kernel_rfl) trivial⟩
theorem iK {a e:Int}(h:0≤(bif decide (a<0)then-1 else e)):0≤a∧(bif decide (a<0)then-1 else e)=e:=by
 by_cases c:a<0
 ·rw[decide_eq_true c,cond_true]at h;omega
 ·rw[decide_eq_false c];exact⟨by omega,rfl⟩
theorem Aa {T:Type}(F:T→Int→Int)(P:T→Prop):∀(r:List T) (j:Nat) (a b:Int),(∀x∈r,∀k,0≤k→k≤1048576→0≤F x k→F x k≤k∧P x)→0≤a→a≤1048576→cT (λ_ x a=>bif decide (F x a<0)then Stp.out (F x a)else Stp.next (F x a)) j r a= .next b→(0≤b∧b≤a)∧∀y∈r,P y
 |[],_,a,b,_,h0,h1,h=>by
  cases h
  exact⟨⟨h0,Int.le_refl _⟩,λy hy=>by cases hy⟩
 |x::r,j,a,b,hF,h0,h1,h=>by
  simp only[cT]at h
  by_cases c:F x a<0
  ·rw[decide_eq_true c,cond_true]at h;cases h
  ·rw[decide_eq_false c,cond_false]at h
   simp only[Stp.elim]at h
   obtain⟨h2,h3⟩:=hF x List.mem_cons_self a h0 h1 (by omega)
   obtain⟨h4,h5⟩:=Aa F P r (j+1) _ b (λy hy=>hF y (List.mem_cons_of_mem _ hy)) (by omega) (by omega) h
   refine⟨⟨h4.1,by omega⟩,λy hy=> ?_⟩
   rcases List.mem_cons.1 hy with rfl|hy
   ·exact h3
   ·exact h5 y hy
theorem LX (x:Piec)(k:Int)(h0:0≤k)(h1:k≤1048576)(hl:x.text.length≤4611686018427387904)(h:0≤cO.f (x,k,())):cO.f (x,k,())≤k∧x.text.length≤1048576:=by
 have w:IntKind.wrap .i64 (k-(x.text.length:Int))=k-(x.text.length:Int):=aw (by omega) (by omega)
 simp only[FX.f,cO,Tr.nice,w]at h⊢
 by_cases c:k-(x.text.length:Int)<0
 ·rw[decide_eq_true c,cond_true]at h;omega
 ·rw[decide_eq_false c,cond_false];exact⟨by omega,by omega⟩
noncomputable def IH:=oG st Tryz.func474 [] (ks:=[.st .piec,.sc (.int .i64)]) cO rI
noncomputable def xD:FT (Piec×Unit) (Piec) (λx=>bK x.1) (λx v=>bK v):= .mk λ(x0,_)=>
  .r x0
noncomputable def Hg:=bu az Tryz.func475 [] (ks:=[.st .piec]) xD (λv=>[(true,PY v)])
noncomputable def tJ:FF (Piec×Piec×Unit) (Bool):=⟨λ(x0,x1,_)=>
  .u (x0.off != x1.off) (.r false)<|
  .u (!(x0.text==x1.text)) (.r false)<|
  .r true⟩
noncomputable def Ie:=kS st Tryz.func476 [] (ks:=[.st .piec,.st .piec]) tJ rB
noncomputable def pM:=[cU]
def eU:Sh:=⟨[zo 0 0,zi 1,zi 5],[.arr .segm false false]⟩
noncomputable def pu:Fx:=⟨16,Tryz.f16,[(0,la ⟨[0,1,5],[],false,1⟩ ⟨[1,4],[],false,1⟩)],1⟩
noncomputable def fa (v1:Int)(a:Int×List Segm):Tr (Stp (Int×List Segm) (Empty)):=
 .grd (aY a.2 v1)<|
 .grd ((decide (0≤v1))&&(decide (v1<((a.2.set v1.toNat ({(a.2.getD v1.toNat (Ty.zero .segm))with from_:=a.1}:Segm)).length:Int))))<|
 .d ((a.2.set v1.toNat ({(a.2.getD v1.toNat (Ty.zero .segm))with from_:=a.1}:Segm)).set v1.toNat ({((a.2.set v1.toNat ({(a.2.getD v1.toNat (Ty.zero .segm))with from_:=a.1}:Segm)).getD v1.toNat (Ty.zero .segm))with to:=(IntKind.wrap .i64 (a.1+1))}:Segm)) λl1=>
 .grd (aY l1 v1)<|
 .d (l1.set v1.toNat ({(l1.getD v1.toNat (Ty.zero .segm))with seq:=(IntKind.wrap .i64 ((IntKind.wrap .i64 (a.1+1))+1))}:Segm)) λl2=>
 .d (IntKind.wrap .i64 ((IntKind.wrap .i64 ((IntKind.wrap .i64 (a.1+1))+1))+1)) λe3=>
 .grd (aY l2 v1)<|
 .grd ((decide (0≤v1))&&(decide (v1<((l2.set v1.toNat ({(l2.getD v1.toNat (Ty.zero .segm))with ack:=e3}:Segm)).length:Int))))<|
 .d ((l2.set v1.toNat ({(l2.getD v1.toNat (Ty.zero .segm))with ack:=e3}:Segm)).set v1.toNat ({((l2.set v1.toNat ({(l2.getD v1.toNat (Ty.zero .segm))with ack:=e3}:Segm)).getD v1.toNat (Ty.zero .segm))with flags:=(IntKind.wrap .i64 (e3+1))}:Segm)) λl4=>
 .grd (aY l4 v1)<|
 .d (l4.set v1.toNat ({(l4.getD v1.toNat (Ty.zero .segm))with window:=(IntKind.wrap .i64 ((IntKind.wrap .i64 (e3+1))+1))}:Segm)) λl5=>
 .d (IntKind.wrap .i64 ((IntKind.wrap .i64 ((IntKind.wrap .i64 (e3+1))+1))+1)) λe6=>
 .grd (aY l5 v1)<|
 .grd ((decide (0≤v1))&&(decide (v1<((l5.set v1.toNat ({(l5.getD v1.toNat (Ty.zero .segm))with opts.mss:=e6}:Segm)).length:Int))))<|
 .d ((l5.set v1.toNat ({(l5.getD v1.toNat (Ty.zero .segm))with opts.mss:=e6}:Segm)).set v1.toNat ({((l5.set v1.toNat ({(l5.getD v1.toNat (Ty.zero .segm))with opts.mss:=e6}:Segm)).getD v1.toNat (Ty.zero .segm))with opts.scale:=(IntKind.wrap .i64 (e6+1))}:Segm)) λl7=>
 .grd (aY l7 v1)<|
 .d (l7.set v1.toNat ({(l7.getD v1.toNat (Ty.zero .segm))with opts.sack:=(((IntKind.wrap .i64 ((IntKind.wrap .i64 (e6+1))+1)).tmod 3)==0)}:Segm)) λl8=>
 .d (IntKind.wrap .i64 ((IntKind.wrap .i64 ((IntKind.wrap .i64 (e6+1))+1))+1)) λe9=>
 .grd (aY l8 v1)<|
 .d (l8.set v1.toNat ({(l8.getD v1.toNat (Ty.zero .segm))with opts.stamp:=((e9.tmod 3)==0)}:Segm)) λl10=>
 .grd (aY l10 v1)<|
 .d (l10.set v1.toNat ({(l10.getD v1.toNat (Ty.zero .segm))with opts.val:=(IntKind.wrap .i64 (e9+1))}:Segm)) λl11=>
 .grd (aY l11 v1)<|
 .d (l11.set v1.toNat ({(l11.getD v1.toNat (Ty.zero .segm))with opts.echo:=(IntKind.wrap .i64 ((IntKind.wrap .i64 (e9+1))+1))}:Segm)) λl12=>
 .d (IntKind.wrap .i64 ((IntKind.wrap .i64 ((IntKind.wrap .i64 (e9+1))+1))+1)) λe13=>
 .l a8.c (e13,()) λc14=>
 .grd (aY l12 v1)<|
 .r (.next ((IntKind.wrap .i64 (e13+1)),(l12.set v1.toNat ({(l12.getD v1.toNat (Ty.zero .segm))with body:=c14}:Segm))))
noncomputable def aX:eU.V→rL eU (Int×List Segm):=λ(v0,v1,v2,_)=>⟨v1,(v0,v2),λv1 a=>(a.1,v1,a.2,()),λv1 a=>(decide (v1<(a.2.length:Int))),fa,up,1,(Int.toNat ((v2.length:Int)-v1)),Empty.elim,Prod.mk,oN (.exit 0) ⟨[zi 1,zu 4],[.arr .segm false false]⟩ (λx=>(x.2.1,x.2.2,()))⟩
theorem uy:LS Tryz.prog pu [0] (ji 0 eU aX):=dW st (aL pM) _ aX [] trivial
theorem uv {v0 v1:Int}{v2:List Segm}(h0:0≤v1)(h1:(v2.length:Int)≤4611686018427387904)(h2:sL aW v2)(h3:v2.length=v2.length∧cI aW v2∧v0≤9223372036854775807):(aX (v0,v1,v2,())).S (λv1 a=>a.2.length=v2.length∧a.2.length=v2.length∧cI aW a.2∧a.1≤9223372036854775807) (λ_=>True):=by
 refine LC.okS ⟨rfl,h3⟩ (λj a hj hv=>⟨⟨?_, ?_⟩, ?_⟩) (λa hv=> ?_)
 ·simp only[aX,decide_eq_true_eq]at*;omega
 ·simp only[aX]at*;exact MH (by omega) (by omega)
 ·refine Tr.G2 ?_ λ_=>Tr.G2 ?_ λ_=>Tr.V λ_ _=>Tr.G2 ?_ λ_=>Tr.V λ_ _=>Tr.V λ_ _=>Tr.G2 ?_ λ_=>Tr.G2 ?_ λ_=>Tr.V λ_ _=>Tr.G2 ?_ λ_=>Tr.V λ_ _=>Tr.V λ_ _=>Tr.G2 ?_ λ_=>Tr.G2 ?_ λ_=>Tr.V λ_ _=>Tr.G2 ?_ λ_=>Tr.V λ_ _=>Tr.V λ_ _=>Tr.G2 ?_ λ_=>Tr.V λ_ _=>Tr.G2 ?_ λ_=>Tr.V λ_ _=>Tr.G2 ?_ λ_=>Tr.V λ_ _=>Tr.V λ_ _=>Tr.C ?_ λ_ _ _=>Tr.G2 ?_ λ_=>Tr.Rn ?_
  all_goals (try simp only[aX]at*)<;>(grind)
 ·simp only[aX,decide_eq_false_iff_not]at*;omega
noncomputable def ku:FT (List Segm×Int×Unit) (Int×List Segm) (λx=>sL aW x.1∧x.2.1≤9223372036854775807) (λx v=>sL aW v.2∧v.1≤9223372036854775807):=⟨λ(x0,x1,_)=>
  .lp (aX (x1,0,x0,())).lp λ(_,a15_0,a15_1)=>
  .r (a15_0,a15_1),
 λ(x0,x1,_) hp=>by
  refine Tr.L (uv ?_ ?_ ?_ ?_) (λ(a15_0,a15_1) _=>Tr.R ?_) (λp=>Empty.elim p)
  all_goals ((try simp only[aX,LC.lp,LC.ct,Ct.lp]at*)<;>grind)⟩
noncomputable def yg:=jT st pu pM [(ji 0 eU aX)] [.wr false [.own 0],.sc (.int .i64)] [.arr .segm] (λx y=>(y.1,x.2.1,())) ku (λv=>[(false,[.c (.int .i64 v.1)])]) (λx y v=>(v.2,())) Tryz.func16 (by kernel_rfl) ⟨uy,trivial⟩
def mv:Sh:=⟨[zl 0 .segm,zi 1,zi 5],[]⟩
noncomputable def fb (v0:List Segm)(v2:Int)(a:Int):Tr (Stp (Int) ((Int))):=
 .grd (aY v0 v2)<|
 .u ((v0.getD v2.toNat (Ty.zero .segm)).from_ != a) (.r (.out a))<|
 .grd (aY v0 v2)<|
 .u ((v0.getD v2.toNat (Ty.zero .segm)).to != (IntKind.wrap .i64 (a+1))) (.r (.out (IntKind.wrap .i64 (a+1))))<|
 .grd (aY v0 v2)<|
 .u ((v0.getD v2.toNat (Ty.zero .segm)).seq != (IntKind.wrap .i64 ((IntKind.wrap .i64 (a+1))+1))) (.r (.out (IntKind.wrap .i64 ((IntKind.wrap .i64 (a+1))+1))))<|
 .d (IntKind.wrap .i64 ((IntKind.wrap .i64 ((IntKind.wrap .i64 (a+1))+1))+1)) λe1=>
 .grd (aY v0 v2)<|
 .u ((v0.getD v2.toNat (Ty.zero .segm)).ack != e1) (.r (.out e1))<|
 .grd (aY v0 v2)<|
 .u ((v0.getD v2.toNat (Ty.zero .segm)).flags != (IntKind.wrap .i64 (e1+1))) (.r (.out (IntKind.wrap .i64 (e1+1))))<|
 .grd (aY v0 v2)<|
 .u ((v0.getD v2.toNat (Ty.zero .segm)).window != (IntKind.wrap .i64 ((IntKind.wrap .i64 (e1+1))+1))) (.r (.out (IntKind.wrap .i64 ((IntKind.wrap .i64 (e1+1))+1))))<|
 .d (IntKind.wrap .i64 ((IntKind.wrap .i64 ((IntKind.wrap .i64 (e1+1))+1))+1)) λe2=>
 .grd (aY v0 v2)<|
 .u ((v0.getD v2.toNat (Ty.zero .segm)).opts.mss != e2) (.r (.out e2))<|
 .grd (aY v0 v2)<|
 .u ((v0.getD v2.toNat (Ty.zero .segm)).opts.scale != (IntKind.wrap .i64 (e2+1))) (.r (.out (IntKind.wrap .i64 (e2+1))))<|
 .grd (aY v0 v2)<|
 .u (!((v0.getD v2.toNat (Ty.zero .segm)).opts.sack==(((IntKind.wrap .i64 ((IntKind.wrap .i64 (e2+1))+1)).tmod 3)==0))) (.r (.out (IntKind.wrap .i64 ((IntKind.wrap .i64 (e2+1))+1))))<|
 .d (IntKind.wrap .i64 ((IntKind.wrap .i64 ((IntKind.wrap .i64 (e2+1))+1))+1)) λe3=>
 .grd (aY v0 v2)<|
 .u (!((v0.getD v2.toNat (Ty.zero .segm)).opts.stamp==((e3.tmod 3)==0))) (.r (.out e3))<|
 .grd (aY v0 v2)<|
 .u ((v0.getD v2.toNat (Ty.zero .segm)).opts.val != (IntKind.wrap .i64 (e3+1))) (.r (.out (IntKind.wrap .i64 (e3+1))))<|
 .grd (aY v0 v2)<|
 .u ((v0.getD v2.toNat (Ty.zero .segm)).opts.echo != (IntKind.wrap .i64 ((IntKind.wrap .i64 (e3+1))+1))) (.r (.out (IntKind.wrap .i64 ((IntKind.wrap .i64 (e3+1))+1))))<|
 .d (IntKind.wrap .i64 ((IntKind.wrap .i64 ((IntKind.wrap .i64 (e3+1))+1))+1)) λe4=>
 .grd (aY v0 v2)<|
 .l a8.c (e4,()) λc5=>
 .u (!((v0.getD v2.toNat (Ty.zero .segm)).body==c5)) (.r (.out e4))<|
 .r (.next (IntKind.wrap .i64 (e4+1)))
noncomputable def eS:mv.V→nB mv Int (Int):=λ(v0,v1,v2,_)=>⟨v2,v1,λv2 a=>(v0,a,v2,()),λv2 _=>(decide (v2<(v0.length:Int))),fb v0,up,1,(Int.toNat ((v0.length:Int)-v2)),.inl,eR,oB .ret ⟨[zi 1,zi 4],[]⟩ (λp=>(p,(-1),())) (.exit 0) ⟨[zi 1,zu 4],[]⟩ (λx=>(x.2,()))⟩
theorem ux {v0:List Segm}{v1 v2:Int}(h0:0≤v2)(h1:(v0.length:Int)≤4611686018427387904)(h2:sL aW v0)(h3:v1≤9223372036854775807):(eS (v0,v1,v2,())).U (v0.length:Int) (λv2 a=>a≤9223372036854775807) (λ_=>True):=
 iT (a:=v1) h0 h1 h3
noncomputable def hZ:FT (List Segm×Int×Unit) (Int) (λx=>sL aW x.1∧x.2.1≤9223372036854775807) (λx v=>v≤9223372036854775807):= .mk (λ(x0,x1,_)=>
  .lp (eS (x0,x1,0,())).lp λw6=> .sum w6 (λ_=>
  .r (-1))<|
  λ(_,a6_0)=>
  .r a6_0) (ot @ux)
noncomputable def yf:=dm st Tryz.func18 [(0,lb [0,1,5] [1,4])] [cU] 0 eS (ks:=[.sc (.sl .segm),.sc (.int .i64)]) hZ rI
noncomputable def rh:=[cU]
def f8:Sh:=⟨[zo 0 0,zi 1,zi 5],[.arr .str false false]⟩
noncomputable def rq:Fx:=⟨26,Tryz.f26,[(0,la ⟨[0,1,5],[],false,1⟩ ⟨[1,4],[],false,1⟩)],1⟩
noncomputable def fX (v1:Int)(a:Int×List ah):Tr (Stp (Int×List ah) (Empty)):=
 .l a8.c (a.1,()) λc1=>
 .grd (aY a.2 v1)<|
 .r (.next ((IntKind.wrap .i64 (a.1+1)),(a.2.set v1.toNat c1)))
noncomputable def bb:f8.V→rL f8 (Int×List ah):=λ(v0,v1,v2,_)=>⟨v1,(v0,v2),λv1 a=>(a.1,v1,a.2,()),λv1 a=>(decide (v1<(a.2.length:Int))),fX,up,1,(Int.toNat ((v2.length:Int)-v1)),Empty.elim,Prod.mk,oN (.exit 0) ⟨[zi 1,zu 4],[.arr .str false false]⟩ (λx=>(x.2.1,x.2.2,()))⟩
theorem vI:LS Tryz.prog rq [0] (ji 0 f8 bb):=dW st (aL rh) _ bb [] trivial
theorem vf {v0 v1:Int}{v2:List ah}(h0:0≤v1)(h1:(v2.length:Int)≤4611686018427387904)(h2:sL sS v2)(h3:v2.length=v2.length∧cI sS v2∧v0≤9223372036854775807):(bb (v0,v1,v2,())).S (λv1 a=>a.2.length=v2.length∧a.2.length=v2.length∧cI sS a.2∧a.1≤9223372036854775807) (λ_=>True):=by
 refine LC.okS ⟨rfl,h3⟩ (λj a hj hv=>⟨⟨?_, ?_⟩, ?_⟩) (λa hv=> ?_)
 ·simp only[bb,decide_eq_true_eq]at*;omega
 ·simp only[bb]at*;exact MH (by omega) (by omega)
 ·refine Tr.C ?_ λ_ _ _=>Tr.G2 ?_ λ_=>Tr.Rn ?_
  all_goals (try simp only[bb]at*)<;>(grind)
 ·simp only[bb,decide_eq_false_iff_not]at*;omega
noncomputable def lC:FT (List ah×Int×Unit) (Int×List ah) (λx=>sL sS x.1∧x.2.1≤9223372036854775807) (λx v=>sL sS v.2∧v.1≤9223372036854775807):=⟨λ(x0,x1,_)=>
  .lp (bb (x1,0,x0,())).lp λ(_,a2_0,a2_1)=>
  .r (a2_0,a2_1),
 λ(x0,x1,_) hp=>by
  refine Tr.L (vf ?_ ?_ ?_ ?_) (λ(a2_0,a2_1) _=>Tr.R ?_) (λp=>Empty.elim p)
  all_goals ((try simp only[bb,LC.lp,LC.ct,Ct.lp]at*)<;>grind)⟩
noncomputable def zQ:=jT st rq rh [(ji 0 f8 bb)] [.wr false [.own 0],.sc (.int .i64)] [.arr .str] (λx y=>(y.1,x.2.1,())) lC (λv=>[(false,[.c (.int .i64 v.1)])]) (λx y v=>(v.2,())) Tryz.func26 (by kernel_rfl) ⟨vI,trivial⟩
def nH:Sh:=⟨[zl 0 .str,zi 1,zi 5],[]⟩
noncomputable def fZ (v0:List ah)(v2:Int)(a:Int):Tr (Stp (Int) ((Int))):=
 .grd (aY v0 v2)<|
 .l a8.c (a,()) λc1=>
 .u (!((v0.getD v2.toNat [])==c1)) (.r (.out a))<|
 .r (.next (IntKind.wrap .i64 (a+1)))
noncomputable def fN:nH.V→nB nH Int (Int):=λ(v0,v1,v2,_)=>⟨v2,v1,λv2 a=>(v0,a,v2,()),λv2 _=>(decide (v2<(v0.length:Int))),fZ v0,up,1,(Int.toNat ((v0.length:Int)-v2)),.inl,eR,oB .ret ⟨[zi 1,zi 4],[]⟩ (λp=>(p,(-1),())) (.exit 0) ⟨[zi 1,zu 4],[]⟩ (λx=>(x.2,()))⟩
theorem vg {v0:List ah}{v1 v2:Int}(h0:0≤v2)(h1:(v0.length:Int)≤4611686018427387904)(h2:sL sS v0)(h3:v1≤9223372036854775807):(fN (v0,v1,v2,())).U (v0.length:Int) (λv2 a=>a≤9223372036854775807) (λ_=>True):=
 iT (a:=v1) h0 h1 h3
noncomputable def iX:FT (List ah×Int×Unit) (Int) (λx=>sL sS x.1∧x.2.1≤9223372036854775807) (λx v=>v≤9223372036854775807):= .mk (λ(x0,x1,_)=>
  .lp (fN (x0,x1,0,())).lp λw2=> .sum w2 (λ_=>
  .r (-1))<|
  λ(_,a2_0)=>
  .r a2_0) (ot @vg)
noncomputable def zR:=dm st Tryz.func28 [(0,lb [0,1,5] [1,4])] [cU] 0 fN (ks:=[.sc (.sl .str),.sc (.int .i64)]) iX rI
noncomputable def n9:FF (Segm×Segm×Unit) (Bool):=⟨λ(x0,x1,_)=>
  .u (x0.from_ != x1.from_) (.r false)<|
  .u (x0.to != x1.to) (.r false)<|
  .u (x0.seq != x1.seq) (.r false)<|
  .u (x0.ack != x1.ack) (.r false)<|
  .u (x0.flags != x1.flags) (.r false)<|
  .u (x0.window != x1.window) (.r false)<|
  .d (jM.f (x0.opts,x1.opts,())) λc1=>
  .u (!c1) (.r false)<|
  .u (!(x0.body==x1.body)) (.r false)<|
  .r true⟩
noncomputable def Dq:=kS st Tryz.func73 [ph] (ks:=[.st .segm,.st .segm]) n9 rB
noncomputable def fg:FX (Link×Int×Unit) (Int) (λ_=>True) (bP [.st .link,.sc (.int .i64)]):=⟨λ(x0,x1,_)=>
  .l jz.c (x0.cache,x1,()) λc1=>
  .u (decide (c1<0)) (.r (-1))<|
  .r c1,
 λ(x0,x1,_) hp hf=>by
  simp only[bP,Pk.fact,gd,eo,Fl.fact,Ty.fl,Ty.toH]at hf
  refine Tr.C trivial λ_ _ _=>Tr.F (by kernel_rfl) trivial⟩
theorem H3 (x:Link)(k:Int)(h0:0≤k)(h1:k≤1048576)(hl:x.cache.length≤140737488355328)(h:0≤fg.f (x,k,())):fg.f (x,k,())≤k∧x.cache.length≤1048576:=by
 have e:fg.f (x,k,())=(bif decide (jz.f (x.cache,k,())<0)then-1 else jz.f (x.cache,k,())):=by first|(simp only[FX.f,PX,fg];done)|(simp only[FX.f,PX,fg];rfl)
 rw[e]at h⊢
 obtain⟨p0,e0⟩:=iK h
 rw[e0]at h⊢
 have b0:=JC _ _ h0 (by omega) hl p0
 refine⟨by omega, ?_⟩
 exact b0.2
noncomputable def Kk:=oG st Tryz.func81 [Ft] (ks:=[.st .link,.sc (.int .i64)]) fg rI
noncomputable def vH:FT (Link×Int×Unit) (Int×List Entr) (λx=>gu x.1∧x.2.1≤9223372036854775807) (λx v=>sS v.2∧v.1≤9223372036854775807):= .mk λ(x0,x1,_)=>
  .l mR.c (x0.cache,x1,()) λc1=>
  .r (c1.1,c1.2)
noncomputable def FE:=jT st ⟨92,Tryz.f92,[],1⟩ [B3] [] [.wr true [.c (.int .i64),.c (.int .i64),.own 0],.sc (.int .i64)] [.arr .entr] (λx y=>((⟨x.1.1,x.1.2.1,y.1⟩:Link),x.2.1,())) vH (λv=>[(false,[.c (.int .i64 v.1)])]) (λx y v=>(v.2,())) Tryz.func92 (by kernel_rfl) trivial
noncomputable def vA:FT (Link×Int×Unit) (Int) (λx=>gu x.1∧x.2.1≤9223372036854775807) (λx v=>v≤9223372036854775807):= .mk λ(x0,x1,_)=>
  .l mC.c (x0.cache,x1,()) λc1=>
  .u (decide (c1<0)) (.r (-1))<|
  .r c1
noncomputable def Fo:=bu st Tryz.func93 [AQ] (ks:=[.st .link,.sc (.int .i64)]) vA rI
noncomputable def iy:FT (List Tupl×Tupl×Unit) (Bool) (λx=>sS x.1) (λ_ _=>True):= .mk λ(x0,x1,_)=>
  .l iU.c (x0,x1,()) λc1=>
  .r (decide (0≤c1))
noncomputable def vy:=bu st Tryz.func108 [ro] (ks:=[.sc (.sl .tupl),.st .tupl]) iy rB
noncomputable def tM:FT (Mac×Int×Unit) (Int×List MacRow) (λx=>dS x.1∧x.2.1≤9223372036854775807) (λx v=>sL aj v.2∧v.1≤9223372036854775807):= .mk λ(x0,x1,_)=>
  .l lk.c (x0.rows,x1,()) λc1=>
  .r (c1.1,c1.2)
noncomputable def HQ:=jT st ⟨113,Tryz.f113,[],1⟩ [zE] [] [.wr true [.c .bool,.c (.int .u64),.c (.int .u64),.own 0],.sc (.int .i64)] [.arr .macRow] (λx y=>((⟨x.1.1,x.1.2.1,x.1.2.2.1,y.1⟩:Mac),x.2.1,())) tM (λv=>[(false,[.c (.int .i64 v.1)])]) (λx y v=>(v.2,())) Tryz.func113 (by kernel_rfl) trivial
noncomputable def t6:FT (Keys×Unit) (Keys) (λx=>eY x.1) (λx v=>eY v∧v=x.1):=⟨λ(x0,_)=>
  .l pP.c (x0.now,()) λc1=>
  .l pP.c (x0.before,()) λc2=>
  .r (⟨x0.epoch,c1,c2,x0.two⟩:Keys),
 λ(x0,_) hp=>by
  refine Tr.C ?_ λc1 hc1 qc1=>Tr.C ?_ λc2 hc2 qc2=>Tr.R ?_
  all_goals ((first|grind|(refine⟨by grind, ?_⟩;first|(simp only[List.nil_append];done)|(subst_vars;rfl)|simp_all)))⟩
noncomputable def Ip:=bu st Tryz.func130 [IA] (ks:=[.st .keys]) t6 (λv=>[(true,Kh (.o true) (.o true) v)])
noncomputable def aC:FT (Int×Int×Unit) (Bool) (λ_=>True) (λx v=>(x.2.1=32→(v=true↔0≤x.1∧x.1≤4294967295))∧(x.2.1=16→(v=true↔0≤x.1∧x.1≤65535))∧(x.2.1=48→(v=true↔0≤x.1∧x.1≤281474976710655))∧(x.2.1=8→(v=true↔0≤x.1∧x.1≤255))∧(x.2.1=6→(v=true↔0≤x.1∧x.1≤63))):=⟨λ(x0,x1,_)=>
  .d (dX.f (x1,1,62,())) λc1=>
  .u c1 (.grd (decide (0≤(IntKind.wrap .u64 x1)))<|
   .d (IntKind.wrap .i64 ((IntKind.wrap .i64 (1*2 ^ (min (IntKind.wrap .u64 x1).toNat 64)))-1)) λe2=>
   .d (dX.f (x0,0,e2,())) λc3=>
   .r c3)<|
  .r false,
 λ(x0,x1,_) hp=>by
  refine Tr.V λ_ _=>Tr.I (λ_=>Tr.G1 ?_ λ_=>Tr.V λ_ _=>Tr.V λ_ _=>Tr.R ?_) λ_=>Tr.R ?_
  all_goals (grind [G7])⟩
@[grind=] theorem Pm (x:Int):aC.f (x,32,())=(decide (0≤x)&&decide (x≤4294967295)):=by
 have h:=aC.c.h (x,32,()) trivial
 rw[Bool.eq_iff_iff]
 grind
@[grind=] theorem Pw (x:Int):aC.f (x,16,())=(decide (0≤x)&&decide (x≤65535)):=by
 have h:=aC.c.h (x,16,()) trivial
 rw[Bool.eq_iff_iff]
 grind
@[grind=] theorem PA (x:Int):aC.f (x,48,())=(decide (0≤x)&&decide (x≤281474976710655)):=by
 have h:=aC.c.h (x,48,()) trivial
 rw[Bool.eq_iff_iff]
 grind
@[grind=] theorem PH (x:Int):aC.f (x,8,())=(decide (0≤x)&&decide (x≤255)):=by
 have h:=aC.c.h (x,8,()) trivial
 rw[Bool.eq_iff_iff]
 grind
@[grind=] theorem PN (x:Int):aC.f (x,6,())=(decide (0≤x)&&decide (x≤63)):=by
 have h:=aC.c.h (x,6,()) trivial
 rw[Bool.eq_iff_iff]
 grind
noncomputable def cP:=bu st Tryz.func132 [fx] (ks:=[.sc (.int .i64),.sc (.int .i64)]) aC rB
noncomputable def J7:=[cP,Lv,IK]
noncomputable def JS:Fx:=⟨133,Tryz.f133,[(3000001,rA 0 18)],0⟩
noncomputable def xt:FT (Keys×Unit) (Bool) (λx=>eY x.1) (λx v=>(v=true→0≤x.1.epoch∧x.1.epoch≤4294967295)):= .mk λ(x0,_)=>
  .bnd (β:=Bool×Unit) (.as (λw=>(w.1=false→x0.now.rows.length≤64∧x0.before.rows.length≤64)) (.l aC.c (x0.epoch,32,()) λc1=>
   .u (!c1) (.r (true,()))<|
   .l xj.c (x0.now,()) λc2=>
   .u (!c2) (.r (true,()))<|
   .l xj.c (x0.before,()) λc3=>
   .r ((!c3),()))) λ(u4a0,_)=>
  .u u4a0 (.r false)<|
  .u x0.two (.r (decide (1≤x0.epoch)))<|
  .l tI.c (x0.before,(⟨false,0,0,[]⟩:Mac),()) λc5=>
  .r c5
noncomputable def Kw:=lh st JS J7 [] (ks:=[.st .keys]) xt rB Tryz.func133 trivial
noncomputable def lf:FT (Conn×Unit) (Conn) (λx=>ae x.1) (λx v=>ae v∧v=x.1):=⟨λ(x0,_)=>
  .l t8.c (x0.r,()) λc1=>
  .r ({x0 with r.next:=c1.next,r.data:=c1.data,r.held:=c1.held,r.fin:=c1.fin,r.done:=c1.done}:Conn),
 λ(x0,_) hp=>by
  refine Tr.C ?_ λc1 hc1 qc1=>Tr.R ?_
  all_goals ((first|grind|(refine⟨by grind, ?_⟩;first|(simp only[List.nil_append];done)|(subst_vars;rfl)|simp_all)))⟩
noncomputable def oo:=bu st Tryz.func138 [Ik] (ks:=[.st .conn]) lf (λv=>[(true,vr (.o true) v)])
noncomputable def wD:FF (Half×Unit) (Half):=⟨λ(x0,_)=>
  .d (na.f (x0.tuple,())) λc1=>
  .d (lL.f (x0.opts,())) λc2=>
  .r (⟨c1,x0.iss,x0.irs,c2,x0.age,x0.window⟩:Half)⟩
noncomputable def Kj:=kS az Tryz.func146 [sa,uM] (ks:=[.st .half]) wD (λv=>[(true,Qg v)])
noncomputable def xl:FF (Half×Half×Unit) (Bool):=⟨λ(x0,x1,_)=>
  .d (nf.f (x0.tuple,x1.tuple,())) λc1=>
  .u (!c1) (.r false)<|
  .u (x0.iss != x1.iss) (.r false)<|
  .u (x0.irs != x1.irs) (.r false)<|
  .d (jM.f (x0.opts,x1.opts,())) λc2=>
  .u (!c2) (.r false)<|
  .u (x0.age != x1.age) (.r false)<|
  .u (x0.window != x1.window) (.r false)<|
  .r true⟩
noncomputable def JD:=kS st Tryz.func154 [r8,ph] (ks:=[.st .half,.st .half]) xl rB
noncomputable def uT:=[cU,C2]
def iH:Sh:=⟨[(0,false,[.down 0]),zi 1,zi 5],[.dar .conn]⟩
noncomputable def uH:Fx:=⟨158,Tryz.f158,[(0,la ⟨[0,1,5],[],false,1⟩ ⟨[1,4],[],false,1⟩)],1⟩
noncomputable def io (v1:Int)(a:Int×List Conn):Tr (Stp (Int×List Conn) (Empty)):=
 .grd (aY a.2 v1)<|
 .grd ((decide (0≤v1))&&(decide (v1<((a.2.set v1.toNat ({(a.2.getD v1.toNat (Ty.zero .conn))with tuple.ip:=a.1}:Conn)).length:Int))))<|
 .d ((a.2.set v1.toNat ({(a.2.getD v1.toNat (Ty.zero .conn))with tuple.ip:=a.1}:Conn)).set v1.toNat ({((a.2.set v1.toNat ({(a.2.getD v1.toNat (Ty.zero .conn))with tuple.ip:=a.1}:Conn)).getD v1.toNat (Ty.zero .conn))with tuple.port:=(IntKind.wrap .i64 (a.1+1))}:Conn)) λl1=>
 .grd (aY l1 v1)<|
 .d (l1.set v1.toNat ({(l1.getD v1.toNat (Ty.zero .conn))with tuple.my:=(IntKind.wrap .i64 ((IntKind.wrap .i64 (a.1+1))+1))}:Conn)) λl2=>
 .d (IntKind.wrap .i64 ((IntKind.wrap .i64 ((IntKind.wrap .i64 (a.1+1))+1))+1)) λe3=>
 .grd (aY l2 v1)<|
 .grd ((decide (0≤v1))&&(decide (v1<((l2.set v1.toNat ({(l2.getD v1.toNat (Ty.zero .conn))with state:=e3}:Conn)).length:Int))))<|
 .d ((l2.set v1.toNat ({(l2.getD v1.toNat (Ty.zero .conn))with state:=e3}:Conn)).set v1.toNat ({((l2.set v1.toNat ({(l2.getD v1.toNat (Ty.zero .conn))with state:=e3}:Conn)).getD v1.toNat (Ty.zero .conn))with s.una:=(IntKind.wrap .i64 (e3+1))}:Conn)) λl4=>
 .l a8.c ((IntKind.wrap .i64 ((IntKind.wrap .i64 (e3+1))+1)),()) λc5=>
 .grd (aY l4 v1)<|
 .d (IntKind.wrap .i64 ((IntKind.wrap .i64 ((IntKind.wrap .i64 (e3+1))+1))+1)) λe6=>
 .grd ((decide (0≤v1))&&(decide (v1<((l4.set v1.toNat ({(l4.getD v1.toNat (Ty.zero .conn))with s.data:=c5}:Conn)).length:Int))))<|
 .d ((l4.set v1.toNat ({(l4.getD v1.toNat (Ty.zero .conn))with s.data:=c5}:Conn)).set v1.toNat ({((l4.set v1.toNat ({(l4.getD v1.toNat (Ty.zero .conn))with s.data:=c5}:Conn)).getD v1.toNat (Ty.zero .conn))with s.sent:=e6}:Conn)) λl7=>
 .grd (aY l7 v1)<|
 .d (l7.set v1.toNat ({(l7.getD v1.toNat (Ty.zero .conn))with s.fin:=(((IntKind.wrap .i64 (e6+1)).tmod 3)==0)}:Conn)) λl8=>
 .grd (aY l8 v1)<|
 .d (l8.set v1.toNat ({(l8.getD v1.toNat (Ty.zero .conn))with s.finSent:=(((IntKind.wrap .i64 ((IntKind.wrap .i64 (e6+1))+1)).tmod 3)==0)}:Conn)) λl9=>
 .d (IntKind.wrap .i64 ((IntKind.wrap .i64 ((IntKind.wrap .i64 (e6+1))+1))+1)) λe10=>
 .grd (aY l9 v1)<|
 .d (l9.set v1.toNat ({(l9.getD v1.toNat (Ty.zero .conn))with s.done:=((e10.tmod 3)==0)}:Conn)) λl11=>
 .grd (aY l11 v1)<|
 .d (l11.set v1.toNat ({(l11.getD v1.toNat (Ty.zero .conn))with r.next:=(IntKind.wrap .i64 (e10+1))}:Conn)) λl12=>
 .l a8.c ((IntKind.wrap .i64 ((IntKind.wrap .i64 (e10+1))+1)),()) λc13=>
 .grd (aY l12 v1)<|
 .d (IntKind.wrap .i64 ((IntKind.wrap .i64 ((IntKind.wrap .i64 (e10+1))+1))+1)) λe14=>
 .grd ((decide (0≤v1))&&(decide (v1<((l12.set v1.toNat ({(l12.getD v1.toNat (Ty.zero .conn))with r.data:=c13}:Conn)).length:Int))))<|
 .l m5.c (((l12.set v1.toNat ({(l12.getD v1.toNat (Ty.zero .conn))with r.data:=c13}:Conn)).getD v1.toNat (Ty.zero .conn)).r.held,e14,()) λc15=>
 .d ((l12.set v1.toNat ({(l12.getD v1.toNat (Ty.zero .conn))with r.data:=c13}:Conn)).set v1.toNat ({((l12.set v1.toNat ({(l12.getD v1.toNat (Ty.zero .conn))with r.data:=c13}:Conn)).getD v1.toNat (Ty.zero .conn))with r.held:=c15.2}:Conn)) λl16=>
 .grd (aY l16 v1)<|
 .grd ((decide (0≤v1))&&(decide (v1<((l16.set v1.toNat ({(l16.getD v1.toNat (Ty.zero .conn))with r.fin:=c15.1}:Conn)).length:Int))))<|
 .d ((l16.set v1.toNat ({(l16.getD v1.toNat (Ty.zero .conn))with r.fin:=c15.1}:Conn)).set v1.toNat ({((l16.set v1.toNat ({(l16.getD v1.toNat (Ty.zero .conn))with r.fin:=c15.1}:Conn)).getD v1.toNat (Ty.zero .conn))with r.done:=(((IntKind.wrap .i64 (c15.1+1)).tmod 3)==0)}:Conn)) λl17=>
 .grd (aY l17 v1)<|
 .d (l17.set v1.toNat ({(l17.getD v1.toNat (Ty.zero .conn))with window:=(IntKind.wrap .i64 ((IntKind.wrap .i64 (c15.1+1))+1))}:Conn)) λl18=>
 .d (IntKind.wrap .i64 ((IntKind.wrap .i64 ((IntKind.wrap .i64 (c15.1+1))+1))+1)) λe19=>
 .grd (aY l18 v1)<|
 .grd ((decide (0≤v1))&&(decide (v1<((l18.set v1.toNat ({(l18.getD v1.toNat (Ty.zero .conn))with most:=e19}:Conn)).length:Int))))<|
 .d ((l18.set v1.toNat ({(l18.getD v1.toNat (Ty.zero .conn))with most:=e19}:Conn)).set v1.toNat ({((l18.set v1.toNat ({(l18.getD v1.toNat (Ty.zero .conn))with most:=e19}:Conn)).getD v1.toNat (Ty.zero .conn))with opts.mss:=(IntKind.wrap .i64 (e19+1))}:Conn)) λl20=>
 .grd (aY l20 v1)<|
 .d (l20.set v1.toNat ({(l20.getD v1.toNat (Ty.zero .conn))with opts.scale:=(IntKind.wrap .i64 ((IntKind.wrap .i64 (e19+1))+1))}:Conn)) λl21=>
 .d (IntKind.wrap .i64 ((IntKind.wrap .i64 ((IntKind.wrap .i64 (e19+1))+1))+1)) λe22=>
 .grd (aY l21 v1)<|
 .d (l21.set v1.toNat ({(l21.getD v1.toNat (Ty.zero .conn))with opts.sack:=((e22.tmod 3)==0)}:Conn)) λl23=>
 .grd (aY l23 v1)<|
 .d (l23.set v1.toNat ({(l23.getD v1.toNat (Ty.zero .conn))with opts.stamp:=(((IntKind.wrap .i64 (e22+1)).tmod 3)==0)}:Conn)) λl24=>
 .grd (aY l24 v1)<|
 .d (l24.set v1.toNat ({(l24.getD v1.toNat (Ty.zero .conn))with opts.val:=(IntKind.wrap .i64 ((IntKind.wrap .i64 (e22+1))+1))}:Conn)) λl25=>
 .d (IntKind.wrap .i64 ((IntKind.wrap .i64 ((IntKind.wrap .i64 (e22+1))+1))+1)) λe26=>
 .grd (aY l25 v1)<|
 .grd ((decide (0≤v1))&&(decide (v1<((l25.set v1.toNat ({(l25.getD v1.toNat (Ty.zero .conn))with opts.echo:=e26}:Conn)).length:Int))))<|
 .d ((l25.set v1.toNat ({(l25.getD v1.toNat (Ty.zero .conn))with opts.echo:=e26}:Conn)).set v1.toNat ({((l25.set v1.toNat ({(l25.getD v1.toNat (Ty.zero .conn))with opts.echo:=e26}:Conn)).getD v1.toNat (Ty.zero .conn))with timer:=(IntKind.wrap .i64 (e26+1))}:Conn)) λl27=>
 .grd (aY l27 v1)<|
 .d (l27.set v1.toNat ({(l27.getD v1.toNat (Ty.zero .conn))with tries:=(IntKind.wrap .i64 ((IntKind.wrap .i64 (e26+1))+1))}:Conn)) λl28=>
 .d (IntKind.wrap .i64 ((IntKind.wrap .i64 ((IntKind.wrap .i64 (e26+1))+1))+1)) λe29=>
 .r (.next (e29,l28))
noncomputable def bz:iH.V→rL iH (Int×List Conn):=λ(v0,v1,v2,_)=>⟨v1,(v0,v2),λv1 a=>(a.1,v1,a.2,()),λv1 a=>(decide (v1<(a.2.length:Int))),io,up,1,(Int.toNat ((v2.length:Int)-v1)),Empty.elim,Prod.mk,oN (.exit 0) ⟨[zi 1,zu 4],[.dar .conn]⟩ (λx=>(x.2.1,x.2.2,()))⟩
theorem xL:LS Tryz.prog uH [0] (ji 0 iH bz):=dW st (aL uT) _ bz [] trivial
theorem yw {v0 v1:Int}{v2:List Conn}(h0:0≤v1)(h1:(v2.length:Int)≤4611686018427387904)(h2:sL ae v2)(h3:v2.length=v2.length∧cI ae v2∧v0≤9223372036854775807):(bz (v0,v1,v2,())).S (λv1 a=>a.2.length=v2.length∧a.2.length=v2.length∧cI ae a.2∧a.1≤9223372036854775807) (λ_=>True):=by
 refine LC.okS ⟨rfl,h3⟩ (λj a hj hv=>⟨⟨?_, ?_⟩, ?_⟩) (λa hv=> ?_)
 ·simp only[bz,decide_eq_true_eq]at*;omega
 ·simp only[bz]at*;exact MH (by omega) (by omega)
 ·refine Tr.G2 ?_ λ_=>Tr.G2 ?_ λ_=>Tr.V λ_ _=>Tr.G2 ?_ λ_=>Tr.V λ_ _=>Tr.V λ_ _=>Tr.G2 ?_ λ_=>Tr.G2 ?_ λ_=>Tr.V λ_ _=>Tr.C ?_ λ_ _ _=>Tr.G2 ?_ λ_=>Tr.V λ_ _=>Tr.G2 ?_ λ_=>Tr.V λ_ _=>Tr.G2 ?_ λ_=>Tr.V λ_ _=>Tr.G2 ?_ λ_=>Tr.V λ_ _=>Tr.V λ_ _=>Tr.G2 ?_ λ_=>Tr.V λ_ _=>Tr.G2 ?_ λ_=>Tr.V λ_ _=>Tr.C ?_ λ_ _ _=>Tr.G2 ?_ λ_=>Tr.V λ_ _=>Tr.G2 ?_ λ_=>Tr.C ?_ λ_ _ _=>Tr.V λ_ _=>Tr.G2 ?_ λ_=>Tr.G2 ?_ λ_=>Tr.V λ_ _=>Tr.G2 ?_ λ_=>Tr.V λ_ _=>Tr.V λ_ _=>Tr.G2 ?_ λ_=>Tr.G2 ?_ λ_=>Tr.V λ_ _=>Tr.G2 ?_ λ_=>Tr.V λ_ _=>Tr.V λ_ _=>Tr.G2 ?_ λ_=>Tr.V λ_ _=>Tr.G2 ?_ λ_=>Tr.V λ_ _=>Tr.G2 ?_ λ_=>Tr.V λ_ _=>Tr.V λ_ _=>Tr.G2 ?_ λ_=>Tr.G2 ?_ λ_=>Tr.V λ_ _=>Tr.G2 ?_ λ_=>Tr.V λ_ _=>Tr.V λ_ _=>Tr.Rn ?_
  all_goals (try simp only[bz]at*)<;>(grind)
 ·simp only[bz,decide_eq_false_iff_not]at*;omega
noncomputable def oT:FT (List Conn×Int×Unit) (Int×List Conn) (λx=>sL ae x.1∧x.2.1≤9223372036854775807) (λx v=>sL ae v.2∧v.1≤9223372036854775807):=⟨λ(x0,x1,_)=>
  .lp (bz (x1,0,x0,())).lp λ(_,a30_0,a30_1)=>
  .r (a30_0,a30_1),
 λ(x0,x1,_) hp=>by
  refine Tr.L (yw ?_ ?_ ?_ ?_) (λ(a30_0,a30_1) _=>Tr.R ?_) (λp=>Empty.elim p)
  all_goals ((try simp only[bz,LC.lp,LC.ct,Ct.lp]at*)<;>grind)⟩
noncomputable def DI:=jT st uH uT [(ji 0 iH bz)] [.wr false [.down 0],.sc (.int .i64)] [.dar .conn] (λx y=>(y.1,x.2.1,())) oT (λv=>[(false,[.c (.int .i64 v.1)])]) (λx y v=>(v.2,())) Tryz.func158 (by kernel_rfl) ⟨xL,trivial⟩
noncomputable def tX:FT (Mac×Int×Unit) (Int) (λx=>dS x.1∧x.2.1≤9223372036854775807) (λx v=>v≤9223372036854775807):= .mk λ(x0,x1,_)=>
  .l lx.c (x0.rows,x1,()) λc1=>
  .u (decide (c1<0)) (.r (-1))<|
  .r c1
noncomputable def Ii:=bu st Tryz.func160 [zN] (ks:=[.st .mac,.sc (.int .i64)]) tX rI
def pD:Sh:=⟨[zl 0 .conn,zi 1,zi 5],[]⟩
noncomputable def ik (v0:List Conn)(v2:Int)(a:Int):Tr (Stp (Int) ((Int))):=
 .grd (aY v0 v2)<|
 .u ((v0.getD v2.toNat (Ty.zero .conn)).tuple.ip != a) (.r (.out a))<|
 .grd (aY v0 v2)<|
 .u ((v0.getD v2.toNat (Ty.zero .conn)).tuple.port != (IntKind.wrap .i64 (a+1))) (.r (.out (IntKind.wrap .i64 (a+1))))<|
 .grd (aY v0 v2)<|
 .u ((v0.getD v2.toNat (Ty.zero .conn)).tuple.my != (IntKind.wrap .i64 ((IntKind.wrap .i64 (a+1))+1))) (.r (.out (IntKind.wrap .i64 ((IntKind.wrap .i64 (a+1))+1))))<|
 .d (IntKind.wrap .i64 ((IntKind.wrap .i64 ((IntKind.wrap .i64 (a+1))+1))+1)) λe1=>
 .grd (aY v0 v2)<|
 .u ((v0.getD v2.toNat (Ty.zero .conn)).state != e1) (.r (.out e1))<|
 .grd (aY v0 v2)<|
 .u ((v0.getD v2.toNat (Ty.zero .conn)).s.una != (IntKind.wrap .i64 (e1+1))) (.r (.out (IntKind.wrap .i64 (e1+1))))<|
 .grd (aY v0 v2)<|
 .l a8.c ((IntKind.wrap .i64 ((IntKind.wrap .i64 (e1+1))+1)),()) λc2=>
 .u (!((v0.getD v2.toNat (Ty.zero .conn)).s.data==c2)) (.r (.out (IntKind.wrap .i64 ((IntKind.wrap .i64 (e1+1))+1))))<|
 .d (IntKind.wrap .i64 ((IntKind.wrap .i64 ((IntKind.wrap .i64 (e1+1))+1))+1)) λe3=>
 .grd (aY v0 v2)<|
 .u ((v0.getD v2.toNat (Ty.zero .conn)).s.sent != e3) (.r (.out e3))<|
 .grd (aY v0 v2)<|
 .u (!((v0.getD v2.toNat (Ty.zero .conn)).s.fin==(((IntKind.wrap .i64 (e3+1)).tmod 3)==0))) (.r (.out (IntKind.wrap .i64 (e3+1))))<|
 .grd (aY v0 v2)<|
 .u (!((v0.getD v2.toNat (Ty.zero .conn)).s.finSent==(((IntKind.wrap .i64 ((IntKind.wrap .i64 (e3+1))+1)).tmod 3)==0))) (.r (.out (IntKind.wrap .i64 ((IntKind.wrap .i64 (e3+1))+1))))<|
 .d (IntKind.wrap .i64 ((IntKind.wrap .i64 ((IntKind.wrap .i64 (e3+1))+1))+1)) λe4=>
 .grd (aY v0 v2)<|
 .u (!((v0.getD v2.toNat (Ty.zero .conn)).s.done==((e4.tmod 3)==0))) (.r (.out e4))<|
 .grd (aY v0 v2)<|
 .u ((v0.getD v2.toNat (Ty.zero .conn)).r.next != (IntKind.wrap .i64 (e4+1))) (.r (.out (IntKind.wrap .i64 (e4+1))))<|
 .grd (aY v0 v2)<|
 .l a8.c ((IntKind.wrap .i64 ((IntKind.wrap .i64 (e4+1))+1)),()) λc5=>
 .u (!((v0.getD v2.toNat (Ty.zero .conn)).r.data==c5)) (.r (.out (IntKind.wrap .i64 ((IntKind.wrap .i64 (e4+1))+1))))<|
 .d (IntKind.wrap .i64 ((IntKind.wrap .i64 ((IntKind.wrap .i64 (e4+1))+1))+1)) λe6=>
 .grd (aY v0 v2)<|
 .l mY.c ((v0.getD v2.toNat (Ty.zero .conn)).r.held,e6,()) λc7=>
 .u (decide (c7<0)) (.r (.out c7))<|
 .grd (aY v0 v2)<|
 .u ((v0.getD v2.toNat (Ty.zero .conn)).r.fin != c7) (.r (.out c7))<|
 .grd (aY v0 v2)<|
 .u (!((v0.getD v2.toNat (Ty.zero .conn)).r.done==(((IntKind.wrap .i64 (c7+1)).tmod 3)==0))) (.r (.out (IntKind.wrap .i64 (c7+1))))<|
 .grd (aY v0 v2)<|
 .u ((v0.getD v2.toNat (Ty.zero .conn)).window != (IntKind.wrap .i64 ((IntKind.wrap .i64 (c7+1))+1))) (.r (.out (IntKind.wrap .i64 ((IntKind.wrap .i64 (c7+1))+1))))<|
 .d (IntKind.wrap .i64 ((IntKind.wrap .i64 ((IntKind.wrap .i64 (c7+1))+1))+1)) λe8=>
 .grd (aY v0 v2)<|
 .u ((v0.getD v2.toNat (Ty.zero .conn)).most != e8) (.r (.out e8))<|
 .grd (aY v0 v2)<|
 .u ((v0.getD v2.toNat (Ty.zero .conn)).opts.mss != (IntKind.wrap .i64 (e8+1))) (.r (.out (IntKind.wrap .i64 (e8+1))))<|
 .grd (aY v0 v2)<|
 .u ((v0.getD v2.toNat (Ty.zero .conn)).opts.scale != (IntKind.wrap .i64 ((IntKind.wrap .i64 (e8+1))+1))) (.r (.out (IntKind.wrap .i64 ((IntKind.wrap .i64 (e8+1))+1))))<|
 .d (IntKind.wrap .i64 ((IntKind.wrap .i64 ((IntKind.wrap .i64 (e8+1))+1))+1)) λe9=>
 .grd (aY v0 v2)<|
 .u (!((v0.getD v2.toNat (Ty.zero .conn)).opts.sack==((e9.tmod 3)==0))) (.r (.out e9))<|
 .grd (aY v0 v2)<|
 .u (!((v0.getD v2.toNat (Ty.zero .conn)).opts.stamp==(((IntKind.wrap .i64 (e9+1)).tmod 3)==0))) (.r (.out (IntKind.wrap .i64 (e9+1))))<|
 .grd (aY v0 v2)<|
 .u ((v0.getD v2.toNat (Ty.zero .conn)).opts.val != (IntKind.wrap .i64 ((IntKind.wrap .i64 (e9+1))+1))) (.r (.out (IntKind.wrap .i64 ((IntKind.wrap .i64 (e9+1))+1))))<|
 .d (IntKind.wrap .i64 ((IntKind.wrap .i64 ((IntKind.wrap .i64 (e9+1))+1))+1)) λe10=>
 .grd (aY v0 v2)<|
 .u ((v0.getD v2.toNat (Ty.zero .conn)).opts.echo != e10) (.r (.out e10))<|
 .grd (aY v0 v2)<|
 .u ((v0.getD v2.toNat (Ty.zero .conn)).timer != (IntKind.wrap .i64 (e10+1))) (.r (.out (IntKind.wrap .i64 (e10+1))))<|
 .grd (aY v0 v2)<|
 .u ((v0.getD v2.toNat (Ty.zero .conn)).tries != (IntKind.wrap .i64 ((IntKind.wrap .i64 (e10+1))+1))) (.r (.out (IntKind.wrap .i64 ((IntKind.wrap .i64 (e10+1))+1))))<|
 .d (IntKind.wrap .i64 ((IntKind.wrap .i64 ((IntKind.wrap .i64 (e10+1))+1))+1)) λe11=>
 .r (.next e11)
noncomputable def il:pD.V→nB pD Int (Int):=λ(v0,v1,v2,_)=>⟨v2,v1,λv2 a=>(v0,a,v2,()),λv2 _=>(decide (v2<(v0.length:Int))),ik v0,up,1,(Int.toNat ((v0.length:Int)-v2)),.inl,eR,oB .ret ⟨[zi 1,zi 4],[]⟩ (λp=>(p,(-1),())) (.exit 0) ⟨[zi 1,zu 4],[]⟩ (λx=>(x.2,()))⟩
theorem xV {v0:List Conn}{v1 v2:Int}(h0:0≤v2)(h1:(v0.length:Int)≤4611686018427387904)(h2:sL ae v0)(h3:v1≤9223372036854775807):(il (v0,v1,v2,())).U (v0.length:Int) (λv2 a=>a≤9223372036854775807) (λ_=>True):=
 iT (a:=v1) h0 h1 h3
noncomputable def oY:FT (List Conn×Int×Unit) (Int) (λx=>sL ae x.1∧x.2.1≤9223372036854775807) (λx v=>v≤9223372036854775807):= .mk (λ(x0,x1,_)=>
  .lp (il (x0,x1,0,())).lp λw12=> .sum w12 (λ_=>
  .r (-1))<|
  λ(_,a12_0)=>
  .r a12_0) (ot @xV)
noncomputable def DQ:=dm st Tryz.func161 [(0,lb [0,1,5] [1,4])] [cU,Cq] 0 il (ks:=[.sc (.sl .conn),.sc (.int .i64)]) oY rI
def ri:Sh:=⟨[zl 0 .entr,zo 3 0,zi 4],[za .entr]⟩
noncomputable def rF (v0:List Entr)(v1:Int)(a:List Entr):Tr (Stp (List Entr) (Empty)):=
 .grd (aY v0 v1)<|
 .d (x7.f ((v0.getD v1.toNat (Ty.zero .entr)),())) λc1=>
 .grd (aY a v1)<|
 .r (.next (a.set v1.toNat c1))
noncomputable def gc:ri.V→rL ri (List Entr):=λ(v0,v1,v2,_)=>⟨v1,v2,λv1 a=>(v0,v1,a,()),λv1 _=>(decide (v1<(v0.length:Int))),rF v0,up,1,(Int.toNat ((v0.length:Int)-v1)),Empty.elim,Prod.mk,oN (.exit 0) ⟨[zu 2,zo 3 0],[za .entr]⟩ (λx=>(x.2,()))⟩
theorem zm {v0 v2:List Entr}{v1:Int}(h0:0≤v1)(h1:(v0.length:Int)≤4611686018427387904)(h2:sS v0)(h3:sS v2)(h4:v2.length=v2.length∧(v0.length:Int)≤(v2.length:Int)):(gc (v0,v1,v2,())).U (v0.length:Int) (λv1 a=>a.length=v2.length∧(v0.length:Int)≤(a.length:Int)) (λ_=>True):=
 iT (a:=v2) h0 h1 h4
noncomputable def qd:FT (List Entr×Unit) (List Entr) (λx=>sS x.1) (λx v=>sS v):=⟨λ(x0,_)=>
  .grd ((((decide (0≤(x0.length:Int)))&&(decide ((x0.length:Int)=(x0.length:Int))))&&(decide ((x0.length:Int)*24≤(aD:Int))))&&(decide ((x0.length:Int)≤(aD:Int))))<|
  .lp (gc (x0,0,(List.replicate ((x0.length:Int).toNat) (⟨0,0,0⟩:Entr)),())).lp λ(_,a2_0)=>
  .r a2_0,
 λ(x0,_) hp=>by
  refine Tr.G4 ?_ λ_=>Tr.L (zm ?_ ?_ ?_ ?_ ?_) (λa2_0 _=>Tr.R ?_) (λp=>Empty.elim p)
  all_goals ((try simp only[gc,LC.lp,LC.ct,Ct.lp]at*)<;>grind)⟩
noncomputable def FP:=dm az Tryz.func168 [(0,lb [0,3,4] [2,3])] [Hn] 0 gc (ks:=[.sc (.sl .entr)]) qd (λv=>[(false,[sc (.o true) .entr v])])
noncomputable def s9:FT (Link×Unit) (Link) (λx=>gu x.1) (λx v=>gu v):= .mk λ(x0,_)=>
  .l lB.c (x0.cache,()) λc1=>
  .r ({x0 with cache:=c1}:Link)
noncomputable def DX:=bu az Tryz.func169 [zK] (ks:=[.st .link]) s9 (λv=>[(true,JE (.o true) v)])
def rp:Sh:=⟨[zl 0 .entr,zl 1 .entr,zi 5],[]⟩
noncomputable def rk (v0 v1:List Entr)(v2:Int)(a:Unit):Tr (Stp (Unit) ((Unit))):=
 .grd (aY v0 v2)<|
 .grd (aY v1 v2)<|
 .d (ud.f ((v0.getD v2.toNat (Ty.zero .entr)),(v1.getD v2.toNat (Ty.zero .entr)),())) λc1=>
 .u (!c1) (.r (.out ()))<|
 .r (.next ())
noncomputable def ja:rp.V→nB rp Unit (Unit):=λ(v0,v1,v2,_)=>⟨v2,(),λv2 _=>(v0,v1,v2,()),λv2 _=>(decide (v2<(v0.length:Int))),rk v0 v1,up,1,(Int.toNat ((v0.length:Int)-v2)),.inl,eR,oB .ret ⟨[zb 4],[]⟩ (λ_=>(false,())) (.exit 0) ⟨[zu 4],[]⟩ (λ_=>())⟩
theorem zC {v0 v1:List Entr}{v2:Int}(h0:0≤v2)(h1:(v0.length:Int)≤4611686018427387904)(h2:(v0.length:Int)≤(v1.length:Int)):(ja (v0,v1,v2,())).U (v0.length:Int) (λ_ _=>True) (λ_=>True):=
 iT h0 h1 trivial
noncomputable def qD:FT (List Entr×List Entr×Unit) (Bool) (λx=>sS x.1∧sS x.2.1) (λ_ _=>True):= .mk (λ(x0,x1,_)=>
  .u ((x0.length:Int) != (x1.length:Int)) (.r false)<|
  .lp (ja (x0,x1,0,())).lp λw2=> .sum w2 (λ_=>
  .r false)<|
  λ_=>
  .r true) (ot @zC)
noncomputable def Gm:=dm st Tryz.func173 [(0,lb [0,1,5] [4])] [I4] 0 ja (ks:=[.sc (.sl .entr),.sc (.sl .entr)]) qD rB
noncomputable def uU:=[Fv]
def iC:Sh:=⟨[zl 0 .macRow,zi 1,zi 5],[]⟩
noncomputable def uP:Fx:=⟨176,Tryz.f176,[(0,lb [0,1,5] [1,4])],0⟩
noncomputable def iJ (v0:List MacRow)(v2:Int)(a:Int):Tr (Stp (Int) ((Int))):=
 .grd (aY v0 v2)<|
 .l aQ.c ((v0.getD v2.toNat (Ty.zero .macRow)),a,()) λc1=>
 .u (decide (c1<0)) (.r (.out c1))<|
 .r (.next c1)
noncomputable def ck:iC.V→nB iC Int (Int):=λ(v0,v1,v2,_)=>⟨v2,v1,λv2 a=>(v0,a,v2,()),λv2 _=>(decide (v2<(v0.length:Int))),iJ v0,up,1,(Int.toNat ((v0.length:Int)-v2)),.inl,eR,oB .ret ⟨[zi 1,zi 4],[]⟩ (λp=>(p,(-1),())) (.exit 0) ⟨[zi 1,zu 4],[]⟩ (λx=>(x.2,()))⟩
theorem xR:LS Tryz.prog uP [0] (ji 0 iC ck):=dW st (aL uU) _ ck [] trivial
theorem ye {v0:List MacRow}{v1 v2:Int}(h0:0≤v2)(h1:(v0.length:Int)≤4611686018427387904):(ck (v0,v1,v2,())).U (v0.length:Int) (λ_ _=>True) (λ_=>True):=
 iT (a:=v1) h0 h1 trivial
noncomputable def cj:FX (List MacRow×Int×Unit) (Int) (λ_=>True) (bP [.sc (.sl .macRow),.sc (.int .i64)]):=⟨λ(x0,x1,_)=>
  .u (decide ((IntKind.wrap .i64 (x1-(x0.length:Int)))<0)) (.r (-1))<|
  .lp (ck (x0,(IntKind.wrap .i64 (x1-(x0.length:Int))),0,())).lp λw2=> .sum w2 (λ_=>
  .r (-1))<|
  λ(_,a2_0)=>
  .r a2_0,
 λ(x0,x1,_) hp hf=>by
  simp only[bP,Pk.fact,gd,eo,Fl.fact,Ty.fl,Ty.toH]at hf
  refine Tr.I (λ_=>Tr.R trivial) λ_=>Tr.L (ye ?_ ?_) (λa2_0 _=>Tr.Sr (Tr.R trivial)) (λp2a0 _=>Tr.Sl (Tr.R trivial))
  all_goals ((try simp only[ck,LC.lp,LC.ct,Ct.lp]at*)<;>grind)⟩
theorem OT (r:MacRow)(k:Int)(h0:0≤k)(h1:k≤1048576)(hr:r.input.length≤4611686018427387904):aQ.f (r,k,())=bif decide (k-(r.input.length:Int)<0)then-1 else k-(r.input.length:Int):=by
 simp only[FX.f,aQ,Tr.nice]
 rw[aw (by omega) (by omega)]
theorem y3:∀(r:List MacRow) (j:Nat) (a b:Int),0≤a→a≤1048576→(∀y∈r,y.input.length≤4611686018427387904)→cT (λ_ x a=>(bif decide (aQ.f (x,a,())<0)then Stp.out (aQ.f (x,a,()))else Stp.next (aQ.f (x,a,())))) j r a= .next b→(0≤b∧b≤a)∧∀y∈r,y.input.length≤1048576
 |[],_,a,b,h0,h1,_,h=>by
  cases h
  exact⟨⟨h0,Int.le_refl _⟩,λy hy=>by cases hy⟩
 |x::r,j,a,b,h0,h1,hr,h=>by
  have hx:=hr x List.mem_cons_self
  have e:=OT x a h0 h1 hx
  simp only[cT,e]at h
  by_cases c:a-(x.input.length:Int)<0
  ·rw[decide_eq_true c,cond_true]at h;cases h
  ·rw[decide_eq_false c,cond_false,decide_eq_false c,cond_false]at h
   simp only[Stp.elim]at h
   obtain⟨h2,h3⟩:=y3 r (j+1) _ b (by omega) (by omega) (λy hy=>hr y (List.mem_cons_of_mem _ hy)) h
   refine⟨⟨h2.1,by omega⟩,λy hy=> ?_⟩
   rcases List.mem_cons.1 hy with rfl|hy
   ·omega
   ·exact h3 y hy
theorem Gw (xs:List MacRow)(k:Int)(h0:0≤k)(h1:k≤1048576)(hl:xs.length≤140737488355328)(he:yN .macRow xs)(h:0≤cj.f (xs,k,())):sL aj xs∧xs.length≤1048576:=by
 have hr:∀y∈xs,y.input.length≤4611686018427387904:=λy hy=>(he y hy (.str y.input) List.mem_cons_self).slen
 have w:IntKind.wrap .i64 (k-(xs.length:Int))=k-(xs.length:Int):=aw (by omega) (by omega)
 simp only[FX.f,PX,cj,ck,w,ai]at h
 by_cases c:k-(xs.length:Int)<0
 ·rw[decide_eq_true c,cond_true]at h;omega
 rw[decide_eq_false c,cond_false]at h
 rw[bi xs _ rfl (F:=λ_ x a=>(bif decide (aQ.f (x,a,())<0)then Stp.out (aQ.f (x,a,()))else Stp.next (aQ.f (x,a,())))) (λj x a hx=>by
  simp only[PX,iJ,Z,getD_some hx])]at h
 cases hn:cT (λ_ x a=>(bif decide (aQ.f (x,a,())<0)then Stp.out (aQ.f (x,a,()))else Stp.next (aQ.f (x,a,())))) 0 xs (k-(xs.length:Int))with
 |out p=>rw[hn]at h;simp only[Stp.elim]at h;omega
 |next b=>
  have:=y3 xs 0 _ b (by omega) (by omega) hr hn
  refine⟨⟨by omega,λy hy=> ?_⟩,by omega⟩
  have:=this.2 y hy
  unfold aj;omega
theorem HV (xs:List MacRow)(k:Int)(h0:0≤k)(h1:k≤1048576)(hl:xs.length≤140737488355328)(he:yN .macRow xs)(h:0≤cj.f (xs,k,())):cj.f (xs,k,())≤k∧xs.length≤1048576∧cI aj xs:=by
 have w:IntKind.wrap .i64 (k-(xs.length:Int))=k-(xs.length:Int):=aw (by omega) (by omega)
 simp only[FX.f,PX,cj,ck,w,ai]at h⊢
 by_cases c:k-(xs.length:Int)<0
 ·rw[decide_eq_true c,cond_true]at h;omega
 rw[decide_eq_false c,cond_false]at h⊢
 have hf:∀(j:Nat) x a,xs[j]? =some x→(iJ xs (j:Int) a).nice=(bif decide (aQ.f (x,a,())<0)then Stp.out (aQ.f (x,a,()))else Stp.next (aQ.f (x,a,()))):=λj x a hx=>by
  simp only[PX,iJ,Z,getD_some hx]
 rw[bi xs _ rfl (F:=λ_ x a=>(bif decide (aQ.f (x,a,())<0)then Stp.out (aQ.f (x,a,()))else Stp.next (aQ.f (x,a,())))) hf]at h⊢
 cases hn:cT (λ_ x a=>(bif decide (aQ.f (x,a,())<0)then Stp.out (aQ.f (x,a,()))else Stp.next (aQ.f (x,a,())))) 0 xs (k-(xs.length:Int))with
 |out p=>rw[hn]at h;simp only[Stp.elim]at h;omega
 |next b=>
  obtain⟨h2,h3⟩:=Aa (λx a=>aQ.f (x,a,())) aj xs 0 _ b (λx hx k h0 h1 h=>(have h4:=Jy x k h0 h1 (he x hx (.str x.input) List.mem_cons_self).slen h;⟨h4.1,(by unfold aj;omega)⟩)) (by omega) (by omega) hn
  simp only[Stp.elim]
  exact⟨by omega,by omega,h3⟩
noncomputable def DL:=Mw st uP uU [(ji 0 iC ck)] (ks:=[.sc (.sl .macRow),.sc (.int .i64)]) cj rI Tryz.func176 ⟨xR,trivial⟩
noncomputable def pA:FT (Tupl×Unit) (Bool) (λ_=>True) (λ_ _=>True):= .mk λ(x0,_)=>
  .l aC.c (x0.ip,32,()) λc1=>
  .u c1 (.l aC.c (x0.port,16,()) λc2=>
   .u c2 (.l aC.c (x0.my,16,()) λc3=>
    .r c3)<|
   .r false)<|
  .r false
noncomputable def yz:=bu st Tryz.func179 [cP] (ks:=[.st .tupl]) pA rB
def pU:Sh:=⟨[zl 0 .macRow,zo 3 0,zi 4],[za .macRow]⟩
noncomputable def pK (v0:List MacRow)(v1:Int)(a:List MacRow):Tr (Stp (List MacRow) (Empty)):=
 .grd (aY v0 v1)<|
 .l vj.c ((v0.getD v1.toNat (Ty.zero .macRow)),()) λc1=>
 .grd (aY a v1)<|
 .r (.next (a.set v1.toNat c1))
noncomputable def fD:pU.V→rL pU (List MacRow):=λ(v0,v1,v2,_)=>⟨v1,v2,λv1 a=>(v0,v1,a,()),λv1 _=>(decide (v1<(v0.length:Int))),pK v0,up,1,(Int.toNat ((v0.length:Int)-v1)),Empty.elim,Prod.mk,oN (.exit 0) ⟨[zu 2,zo 3 0],[za .macRow]⟩ (λx=>(x.2,()))⟩
theorem x5 {v0 v2:List MacRow}{v1:Int}(h0:0≤v1)(h1:(v0.length:Int)≤4611686018427387904)(h2:sL aj v0)(h3:sL aj v2)(h4:v2.length=v2.length∧cI aj v2∧(v0.length:Int)≤(v2.length:Int)):(fD (v0,v1,v2,())).U (v0.length:Int) (λv1 a=>a.length=v2.length∧cI aj a∧(v0.length:Int)≤(a.length:Int)) (λ_=>True):=
 iT (a:=v2) h0 h1 h4
noncomputable def oM:FT (List MacRow×Unit) (List MacRow) (λx=>sL aj x.1) (λx v=>sL aj v):=⟨λ(x0,_)=>
  .grd ((((decide (0≤(x0.length:Int)))&&(decide ((x0.length:Int)=(x0.length:Int))))&&(decide ((x0.length:Int)*24≤(aD:Int))))&&(decide ((x0.length:Int)≤(aD:Int))))<|
  .lp (fD (x0,0,(List.replicate ((x0.length:Int).toNat) (⟨[],0⟩:MacRow)),())).lp λ(_,a2_0)=>
  .r a2_0,
 λ(x0,_) hp=>by
  refine Tr.G4 ?_ λ_=>Tr.L (x5 ?_ ?_ ?_ ?_ ?_) (λa2_0 _=>Tr.R ?_) (λp=>Empty.elim p)
  all_goals ((try simp only[fD,LC.lp,LC.ct,Ct.lp]at*)<;>grind)⟩
noncomputable def Dk:=dm az Tryz.func189 [(0,lb [0,3,4] [2,3])] [Fa] 0 fD (ks:=[.sc (.sl .macRow)]) oM (λv=>[(false,[sc (.o true) .macRow v])])
noncomputable def ur:FT (Mac×Mac×Unit) (Bool) (λx=>dS x.1∧dS x.2.1) (λ_ _=>True):= .mk λ(x0,x1,_)=>
  .u (x0.use==x1.use) (.u (x0.k==x1.k) (.u (x0.l==x1.l) (.l nN.c (x0.rows,x1.rows,()) λc1=>
     .r c1)<|
    .r false)<|
   .r false)<|
  .r false
noncomputable def Hf:=bu az Tryz.func192 [yp] (ks:=[.st .mac,.st .mac]) ur rB
noncomputable def cH:FT (Tupl×Unit) (Bool) (λ_=>True) (λ_ _=>True):= .mk λ(x0,_)=>
  .l aa.c (x0.ip,32,()) λc1=>
  .u c1 (.l aa.c (x0.port,16,()) λc2=>
   .u c2 (.l aa.c (x0.my,16,()) λc3=>
    .r c3)<|
   .r false)<|
  .r false
noncomputable def yJ:=bu az Tryz.func193 [cQ] (ks:=[.st .tupl]) cH rB
def pH:Sh:=⟨[zl 0 .macRow,zl 1 .macRow,zi 5],[]⟩
noncomputable def pC (v0 v1:List MacRow)(v2:Int)(a:Unit):Tr (Stp (Unit) ((Unit))):=
 .grd (aY v0 v2)<|
 .grd (aY v1 v2)<|
 .d (qv.f ((v0.getD v2.toNat (Ty.zero .macRow)),(v1.getD v2.toNat (Ty.zero .macRow)),())) λc1=>
 .u (!c1) (.r (.out ()))<|
 .r (.next ())
noncomputable def iz:pH.V→nB pH Unit (Unit):=λ(v0,v1,v2,_)=>⟨v2,(),λv2 _=>(v0,v1,v2,()),λv2 _=>(decide (v2<(v0.length:Int))),pC v0 v1,up,1,(Int.toNat ((v0.length:Int)-v2)),.inl,eR,oB .ret ⟨[zb 4],[]⟩ (λ_=>(false,())) (.exit 0) ⟨[zu 4],[]⟩ (λ_=>())⟩
theorem yc {v0 v1:List MacRow}{v2:Int}(h0:0≤v2)(h1:(v0.length:Int)≤4611686018427387904)(h2:(v0.length:Int)≤(v1.length:Int)):(iz (v0,v1,v2,())).U (v0.length:Int) (λ_ _=>True) (λ_=>True):=
 iT h0 h1 trivial
noncomputable def oW:FT (List MacRow×List MacRow×Unit) (Bool) (λx=>sL aj x.1∧sL aj x.2.1) (λ_ _=>True):= .mk (λ(x0,x1,_)=>
  .u ((x0.length:Int) != (x1.length:Int)) (.r false)<|
  .lp (iz (x0,x1,0,())).lp λw2=> .sum w2 (λ_=>
  .r false)<|
  λ_=>
  .r true) (ot @yc)
noncomputable def Dl:=dm st Tryz.func211 [(0,lb [0,1,5] [4])] [E4] 0 iz (ks:=[.sc (.sl .macRow),.sc (.sl .macRow)]) oW rB
noncomputable def DF:=[cP,fx]
noncomputable def Dx:Fx:=⟨234,Tryz.f234,[(3000001,rA 0 15)],0⟩
noncomputable def gR:FT (Opti×Unit) (Bool) (λ_=>True) (λ_ _=>True):= .mk λ(x0,_)=>
  .bnd (β:=Bool×Unit) (.u (!x0.stamp) (.u (x0.val != 0) (.r (true,()))<|
    .r ((x0.echo != 0),()))<|
   .r (false,())) λ(u1a0,_)=>
  .u u1a0 (.r false)<|
  .l aC.c (x0.mss,16,()) λc2=>
  .u c2 (.d (dX.f (x0.scale,(-1),14,())) λc3=>
   .u c3 (.l aC.c (x0.val,32,()) λc4=>
    .u c4 (.l aC.c (x0.echo,32,()) λc5=>
     .r c5)<|
    .r false)<|
   .r false)<|
  .r false
noncomputable def ll:=lh st Dx DF [] (ks:=[.st .opti]) gR rB Tryz.func234 trivial
noncomputable def E8:=[cP,fx]
noncomputable def GK:Fx:=⟨238,Tryz.f238,[(3000001,rA 0 21),(3000003,rA 0 36)],0⟩
noncomputable def eK:FT (Sndr×Unit) (Bool) (λ_=>True) (λx v=>(v=true↔SO x.1)):= .mk λ(x0,_)=>
  .bnd (β:=Bool×Unit) (.l aC.c (x0.una,32,()) λc1=>
   .u (!c1) (.r (true,()))<|
   .u (decide (48<(x0.data.length:Int))) (.r (true,()))<|
   .d (dX.f (x0.sent,0,(x0.data.length:Int),())) λc2=>
   .r ((!c2),())) λ(u3a0,_)=>
  .u u3a0 (.r false)<|
  .bnd (β:=Bool×Unit) (.u x0.finSent (.u (!x0.fin) (.r (true,()))<|
    .r ((x0.sent != (x0.data.length:Int)),()))<|
   .r (false,())) λ(u4a0,_)=>
  .u u4a0 (.r false)<|
  .u (!x0.done) (.r true)<|
  .u x0.fin (.u (!x0.finSent) (.r (x0.data==[]))<|
   .r false)<|
  .r false
noncomputable def mA:=lh st GK E8 [] (ks:=[.st .sndr]) eK rB Tryz.func238 trivial
def oZ:Sh:=⟨[zp 1 0,zi 3,zi 4,zi 5],[zg .recv]⟩
noncomputable def dB (v0:Int)(v3:Recv)(v2:Int)(a:Int):Tr (Stp (Int) ((Int))):=
 .grd (aY v3.held v2)<|
 .bnd (β:=Bool×Unit) (.u ((v3.held.getD v2.toNat (Ty.zero .piec)).text==[]) (.r (true,()))<|
  .u (decide ((v3.held.getD v2.toNat (Ty.zero .piec)).off≤a)) (.r (true,()))<|
  .u (decide (v0<(v3.held.getD v2.toNat (Ty.zero .piec)).off)) (.r (true,()))<|
  .d (IntKind.wrap .i64 ((v3.held.getD v2.toNat (Ty.zero .piec)).off+(((v3.held.getD v2.toNat (Ty.zero .piec)).text).length:Int))) λe5=>
  .r ((decide (v0<e5)),())) λ(u6a0,_)=>
 .u u6a0 (.r (.out a))<|
 .d (IntKind.wrap .i64 ((v3.held.getD v2.toNat (Ty.zero .piec)).off+(((v3.held.getD v2.toNat (Ty.zero .piec)).text).length:Int))) λe7=>
 .r (.next e7)
noncomputable def eB:oZ.V→nB oZ Int (Int):=λ(v0,v1,v2,v3,_)=>⟨v2,v1,λv2 a=>(v0,a,v2,v3,()),λv2 _=>(decide (v2<(v3.held.length:Int))),dB v0 v3,up,1,(Int.toNat ((v3.held.length:Int)-v2)),.inl,eR,oB .ret ⟨[zp 1 0,zb 2,zi 4],[zg .recv]⟩ (λp=>(false,p,v3,())) (.exit 0) ⟨[zp 1 0,zu 2,zi 4],[zg .recv]⟩ (λx=>(x.2,v3,()))⟩
theorem xo {v0 v1 v2:Int}{v3:Recv}(h0:0≤v2)(h1:(v3.held.length:Int)≤4611686018427387904)(h2:v0≤32)(h3:0≤v0)(h4:gv v3)(h5:0≤v1∧v1≤32∧cI po (v3.held.take v2.toNat)):(eB (v0,v1,v2,v3,())).U (v3.held.length:Int) (λv2 a=>0≤a∧a≤32∧cI po (v3.held.take v2.toNat)) (λ_=>True):=
 LC.okU (i:=v2) (a:=v1) (λ_ _=>rfl) (λ_=>rfl) rfl h0 h1 h5 λv2 v1 hj hk hv=>by
  refine Tr.G2 ?_ λ_=>Tr.B (Q':=λ_=>True) (Tr.F (by kernel_rfl) trivial) (λ(u6a0,_) _ _=>Tr.I (λ_=>Tr.Ro trivial) λ_=>Tr.V λ_ _=>Tr.Rn ?_)
  all_goals ((try simp only[Tr.nice,jt]at*)<;>grind [←ON])
noncomputable def mZ:FT (Recv×Unit) (Bool) (λx=>gv x.1) (λx v=>(v=true→RO x.1)):=⟨λ(x0,_)=>
  .l nI.c (x0,()) λc1=>
  .bnd (β:=Bool×Unit) (.l aC.c (x0.next,32,()) λc2=>
   .u (!c2) (.r (true,()))<|
   .u (decide (32<(x0.data.length:Int))) (.r (true,()))<|
   .u (decide (3<(x0.held.length:Int))) (.r (true,()))<|
   .d (dX.f (x0.fin,(-1),c1,())) λc3=>
   .u (!c3) (.r (true,()))<|
   .r ((x0.fin==0),())) λ(u4a0,_)=>
  .u u4a0 (.r false)<|
  .lp (eB (c1,0,0,x0,())).lp λw8=> .sum w8 (λ_=>
  .r false)<|
  λ(_,a8_0)=>
  .u (decide (x0.fin<0)) (.u (!x0.done) (.r true)<|
   .u ((x0.held.length:Int)==0) (.r (x0.fin==(-1)))<|
   .r false)<|
  .u (decide (a8_0≤x0.fin)) (.u (!x0.done) (.r true)<|
   .u ((x0.held.length:Int)==0) (.r (x0.fin==(-1)))<|
   .r false)<|
  .r false,
 λ(x0,_) hp=>by
  refine Tr.C ?_ λ_ _ _=>Tr.B (Q':=λ_=>True) (Tr.C trivial λ_ _ _=>Tr.F (by kernel_rfl) trivial) (λ(u4a0,_) _ _=>Tr.I (λ_=>Tr.R ?_) λ_=>Tr.L (xo ?_ ?_ ?_ ?_ ?_ ?_) (λa8_0 _=>Tr.Sr (Tr.I (λ_=>Tr.I (λ_=>Tr.R ?_) λ_=>Tr.I (λ_=>Tr.R ?_) λ_=>Tr.R ?_) λ_=>Tr.I (λ_=>Tr.I (λ_=>Tr.R ?_) λ_=>Tr.I (λ_=>Tr.R ?_) λ_=>Tr.R ?_) λ_=>Tr.R ?_)) (λp8a0 _=>Tr.Sl (Tr.R ?_)))
  all_goals ((try simp only[eB,LC.lp,LC.ct,Ct.lp,Tr.nice,jt]at*)<;>grind [PW])⟩
noncomputable def Ak:=dm st Tryz.func239 [(0,lb [1,3,4,5] [1,2,4]),(3000002,rA 0 36),(3000009,rA 0 73)] [wb,cP,fx] 0 eB (ks:=[.st .recv]) mZ rB
noncomputable def tc:FT (Sndr×Unit) (Int) (λx=>d8 x.1) (λ_ _=>True):= .mk λ(x0,_)=>
  .l nX.c (x0,()) λc1=>
  .d (wn.f (x0.una,c1,())) λc2=>
  .r c2
noncomputable def CX:=bu st Tryz.func241 [xd,Km] (ks:=[.st .sndr]) tc rI
noncomputable def C8:=[mA,ES,tQ,xd,CX]
noncomputable def Dm:Fx:=⟨244,Tryz.f244,[(3000007,rA 0 79)],0⟩
noncomputable def oA:FT (Sndr×Int×Int×Unit) (Chun×Bool) (λx=>d8 x.1) (λx v=>we v.1∧(v.2=true→SO x.1∧(v.1.text.length:Int)+x.1.sent≤x.1.data.length∧x.1.finSent=false∧(v.1.text=[]→v.1.fin=true)∧(v.1.fin=true→x.1.fin=true∧x.1.done=false∧x.1.sent+v.1.text.length=x.1.data.length))):=⟨λ(x0,x1,x2,_)=>
  .l eK.c (x0,()) λc1=>
  .u (!c1) (.r ((⟨0,[],false⟩:Chun),false))<|
  .d (qh.f (x1,1000000,())) λc2=>
  .d (lr.f (0,c2,())) λc3=>
  .l nX.c (x0,()) λc4=>
  .d (lr.f (0,(IntKind.wrap .i64 (c3-c4)),())) λc5=>
  .d (qh.f (x2,c5,())) λc6=>
  .d (qh.f (c6,(IntKind.wrap .i64 ((x0.data.length:Int)-x0.sent)),())) λc7=>
  .d (lr.f (0,c7,())) λc8=>
  .l tc.c (x0,()) λc9=>
  .grd (Q1 x0.data x0.sent (IntKind.wrap .i64 (x0.sent+c8)))<|
  .d ((x0.data.take ((IntKind.wrap .i64 (x0.sent+c8)).toNat)).drop x0.sent.toNat) λe10=>
  .u x0.fin (.u (!x0.finSent) (.u (!x0.done) (.u ((IntKind.wrap .i64 (x0.sent+c8))==(x0.data.length:Int)) (.bnd (β:=Bool×Unit) (.u (c8==0) (.r ((!(decide (c8<c5))),()))<|
       .r (false,())) λ(u11a0,_)=>
      .u u11a0 (.r ((⟨0,[],false⟩:Chun),false))<|
      .r ((⟨c9,e10,(decide (c8<c5))⟩:Chun),true))<|
     .bnd (β:=Bool×Unit) (.u (c8==0) (.r (true,()))<|
      .r (false,())) λ(u12a0,_)=>
     .u u12a0 (.r ((⟨0,[],false⟩:Chun),false))<|
     .r ((⟨c9,e10,false⟩:Chun),true))<|
    .bnd (β:=Bool×Unit) (.u (c8==0) (.r (true,()))<|
     .r (false,())) λ(u13a0,_)=>
    .u u13a0 (.r ((⟨0,[],false⟩:Chun),false))<|
    .r ((⟨c9,e10,false⟩:Chun),true))<|
   .bnd (β:=Bool×Unit) (.u (c8==0) (.r (true,()))<|
    .r (false,())) λ(u14a0,_)=>
   .u u14a0 (.r ((⟨0,[],false⟩:Chun),false))<|
   .r ((⟨c9,e10,false⟩:Chun),true))<|
  .bnd (β:=Bool×Unit) (.u (c8==0) (.r (true,()))<|
   .r (false,())) λ(u15a0,_)=>
  .u u15a0 (.r ((⟨0,[],false⟩:Chun),false))<|
  .r ((⟨c9,e10,false⟩:Chun),true),
 λ(x0,x1,x2,_) hp=>by
  refine Tr.C trivial λc1 hc1 qc1=>Tr.I (λb0=>Tr.R ?_) λb0=>Tr.V λc2 hc2=>Tr.V λc3 hc3=>Tr.C ?_ λc4 hc4 qc4=>Tr.V λc5 hc5=>Tr.V λc6 hc6=>Tr.V λc7 hc7=>Tr.V λc8 hc8=>Tr.C ?_ λc9 hc9 qc9=>Tr.G3 ?_ λg1=>Tr.V λe10 he10=>Tr.I (λb2=>Tr.I (λb3=>Tr.I (λb4=>Tr.I (λb5=>Tr.B (Q':=λ_=>True) (Tr.F (by kernel_rfl) trivial) (λ(u11a0,_) hj11 qj11=>Tr.I (λb6=>Tr.R ?_) λb6=>Tr.R ?_)) λb5=>Tr.B (Q':=λ_=>True) (Tr.F (by kernel_rfl) trivial) (λ(u12a0,_) hj12 qj12=>Tr.I (λb6=>Tr.R ?_) λb6=>Tr.R ?_)) λb4=>Tr.B (Q':=λ_=>True) (Tr.F (by kernel_rfl) trivial) (λ(u13a0,_) hj13 qj13=>Tr.I (λb5=>Tr.R ?_) λb5=>Tr.R ?_)) λb3=>Tr.B (Q':=λ_=>True) (Tr.F (by kernel_rfl) trivial) (λ(u14a0,_) hj14 qj14=>Tr.I (λb4=>Tr.R ?_) λb4=>Tr.R ?_)) λb2=>Tr.B (Q':=λ_=>True) (Tr.F (by kernel_rfl) trivial) (λ(u15a0,_) hj15 qj15=>Tr.I (λb3=>Tr.R ?_) λb3=>Tr.R ?_)
  all_goals ((try simp only[Tr.nice,jt]at*)<;>(first|grind|(have hs:SO x0:=(by grind);have h7:c7≤(x0.data.length:Int)-x0.sent:=(by rw[hc7,vn,aw (by grind) (by grind)];split<;>omega);have h8:0≤c8∧c8≤(x0.data.length:Int)-x0.sent:=(by rw[hc8,nt];have:=hs.2.2.2.2.1;split<;>omega);clear hc7 hc8 hc4 hc2 hc3 hc6 hc5;grind)))⟩
noncomputable def Du:=lh st Dm C8 [] (ks:=[.st .sndr,.sc (.int .i64),.sc (.int .i64)]) oA (λv=>[(true,NF v.1),(false,[.c (.bool v.2)])]) Tryz.func244 trivial
noncomputable def wB:FF (Conn×Unit) (Int):=⟨λ(x0,_)=>
  .u (x0.opts.mss==0) (.r 536)<|
  .d (qh.f (1460,x0.opts.mss,())) λc1=>
  .d (lr.f (1,c1,())) λc2=>
  .r c2⟩
noncomputable def Jk:=kS st Tryz.func245 [ES,tQ] (ks:=[.st .conn]) wB rI
noncomputable def kZ:FT (Sndr×Chun×Unit) (Sndr) (λx=>d8 x.1∧we x.2.1) (λx v=>d8 v∧(SO x.1→(x.2.1.text.length:Int)+x.1.sent≤x.1.data.length→x.1.finSent=false→(x.2.1.fin=true→x.1.fin=true∧x.1.done=false∧x.1.sent+x.2.1.text.length=x.1.data.length)→v={x.1 with sent:=x.1.sent+x.2.1.text.length,finSent:=x.2.1.fin})):= .mk λ(x0,x1,_)=>
  .u x0.finSent (.l eK.c (x0,()) λc1=>
   .u (!c1) (.r x0)<|
   .l eK.c (({x0 with sent:=(IntKind.wrap .i64 (x0.sent+(x1.text.length:Int))),finSent:=true}:Sndr),()) λc2=>
   .u (!c2) (.r x0)<|
   .u x1.fin (.u x0.done (.r x0)<|
    .r ({x0 with sent:=(IntKind.wrap .i64 (x0.sent+(x1.text.length:Int))),finSent:=true}:Sndr))<|
   .r ({x0 with sent:=(IntKind.wrap .i64 (x0.sent+(x1.text.length:Int))),finSent:=true}:Sndr))<|
  .l eK.c (x0,()) λc3=>
  .u (!c3) (.r x0)<|
  .l eK.c (({x0 with sent:=(IntKind.wrap .i64 (x0.sent+(x1.text.length:Int))),finSent:=x1.fin}:Sndr),()) λc4=>
  .u (!c4) (.r x0)<|
  .u x1.fin (.u x0.done (.r x0)<|
   .r ({x0 with sent:=(IntKind.wrap .i64 (x0.sent+(x1.text.length:Int))),finSent:=x1.fin}:Sndr))<|
  .r ({x0 with sent:=(IntKind.wrap .i64 (x0.sent+(x1.text.length:Int))),finSent:=x1.fin}:Sndr)
noncomputable def Ir:=bu st Tryz.func246 [mA] (ks:=[.st .sndr,.st .chun]) kZ (λv=>[(true,BE v)])
noncomputable def JW:=[yJ,mW,BK,ly,cG]
def Ch:An:=⟨⟨[],[],false,0⟩,⟨[1,2,3],[],false,0⟩,⟨[],[]⟩,[(.normal,⟨[zp 1 0,zb 2,zi 3],[zg .conn]⟩)]⟩
noncomputable def JR:Fx:=⟨258,Tryz.f258,[(1000037,Ch),(3000001,rA 0 34),(3000006,rA 0 62)],0⟩
noncomputable def cm:FT (Conn×Unit) (Bool) (λx=>ae x.1) (λx v=>(v=true→SO x.1.s∧RO x.1.r)):= .mk λ(x0,_)=>
  .bnd (β:=Bool×Unit) (.as (λw=>(w.1=false→SO x0.s∧RO x0.r∧cI (pw (N3 x0.r)) x0.r.held)) (.l cH.c (x0.tuple,()) λc1=>
   .u (!c1) (.r (true,()))<|
   .l bv.c (x0.s,()) λc2=>
   .u (!c2) (.r (true,()))<|
   .l cV.c (x0.r,()) λc3=>
   .u (!c3) (.r (true,()))<|
   .l bf.c (x0.opts,()) λc4=>
   .u (!c4) (.r (true,()))<|
   .d (bF.f (x0.state,1,8,())) λc5=>
   .r ((!c5),()))) λ(u6a0,_)=>
  .u u6a0 (.r false)<|
  .bnd (β:=Bool×Int×Conn×Unit) (.as (λw=>ae w.2.2.1) (.u (x0.state==7) (.r (false,4,x0,()))<|
   .r (false,3,x0,()))) λ(_,u7a1,u7a2,_)=>
  .bnd (β:=Bool×Unit) (.d (bF.f (u7a2.most,0,1073725440,())) λc8=>
   .u (!c8) (.r (true,()))<|
   .d (bF.f (u7a2.window,0,u7a2.most,())) λc9=>
   .u (!c9) (.r (true,()))<|
   .d (bF.f (u7a2.timer,0,u7a1,())) λc10=>
   .u (!c10) (.r (true,()))<|
   .d (bF.f (u7a2.tries,0,3,())) λc11=>
   .r ((!c11),())) λ(u12a0,_)=>
  .u u12a0 (.r false)<|
  .u (u7a2.state==1) (.u (!u7a2.s.fin) (.u (!u7a2.s.done) (.r (!u7a2.r.done))<|
    .r false)<|
   .r false)<|
  .u (u7a2.state==2) (.u u7a2.s.fin (.u (!u7a2.s.done) (.r (!u7a2.r.done))<|
    .r false)<|
   .r false)<|
  .u (u7a2.state==3) (.u u7a2.s.fin (.u u7a2.s.done (.r (!u7a2.r.done))<|
    .r false)<|
   .r false)<|
  .u (u7a2.state==4) (.u (!u7a2.s.fin) (.u (!u7a2.s.done) (.r u7a2.r.done)<|
    .r false)<|
   .r false)<|
  .u (u7a2.state==5) (.u (u7a2.state==5) (.u u7a2.s.fin (.u (!u7a2.s.done) (.r u7a2.r.done)<|
     .r false)<|
    .r false)<|
   .u (u7a2.state==7) (.u u7a2.s.fin (.u u7a2.s.done (.r u7a2.r.done)<|
     .r false)<|
    .r false)<|
   .r true)<|
  .u (u7a2.state==6) (.u u7a2.s.fin (.u (!u7a2.s.done) (.r u7a2.r.done)<|
    .r false)<|
   .r false)<|
  .u (u7a2.state==7) (.u u7a2.s.fin (.u u7a2.s.done (.r u7a2.r.done)<|
    .r false)<|
   .r false)<|
  .r true
noncomputable def qt:=lh az JR JW [] (ks:=[.st .conn]) cm rB Tryz.func258 trivial
noncomputable def gl:FT (Sndr×Unit) (Sndr) (λx=>d8 x.1) (λx v=>d8 v):= .mk λ(x0,_)=>
  .l bv.c (x0,()) λc1=>
  .u (!c1) (.r x0)<|
  .r ({x0 with sent:=0,finSent:=false}:Sndr)
noncomputable def Hv:=bu az Tryz.func260 [mW] (ks:=[.st .sndr]) gl (λv=>[(true,BE v)])
def sO:Sh:=⟨[zl 0 .entr,zi 3],[]⟩
noncomputable def nQ (v0:List Entr)(v1:Int)(a:Unit):Tr (Stp (Unit) ((Unit))):=
 .grd (aY v0 v1)<|
 .l aC.c ((v0.getD v1.toNat (Ty.zero .entr)).ip,32,()) λc1=>
 .u (!c1) (.r (.out ()))<|
 .l aC.c ((v0.getD v1.toNat (Ty.zero .entr)).hw,48,()) λc2=>
 .u (!c2) (.r (.out ()))<|
 .d (dX.f ((v0.getD v1.toNat (Ty.zero .entr)).age,0,9,())) λc3=>
 .u (!c3) (.r (.out ()))<|
 .grd ((decide (0≤v1))&&(decide (v1≤(v0.length:Int))))<|
 .l xf.c (((v0.take v1.toNat).drop 0),(v0.getD v1.toNat (Ty.zero .entr)).ip,()) λc4=>
 .u (decide (0≤c4)) (.r (.out ()))<|
 .r (.next ())
noncomputable def ko:sO.V→nB sO Unit (Unit):=λ(v0,v1,_)=>⟨v1,(),λv1 _=>(v0,v1,()),λv1 _=>(decide (v1<(v0.length:Int))),nQ v0,up,1,(Int.toNat ((v0.length:Int)-v1)),.inl,eR,oB .ret ⟨[zl 0 .entr,zb 2],[]⟩ (λ_=>(v0,false,())) (.exit 0) ⟨[zl 0 .entr,zu 2],[]⟩ (λ_=>(v0,()))⟩
theorem C0 {v0:List Entr}{v1:Int}(h0:0≤v1)(h1:(v0.length:Int)≤4611686018427387904)(h2:sS v0):(ko (v0,v1,())).U (v0.length:Int) (λ_ _=>True) (λ_=>True):=
 iT h0 h1 trivial
noncomputable def tU:FT (List Entr×Unit) (Bool) (λx=>sS x.1) (λx v=>(v=true→x.1.length≤4)):= .mk (λ(x0,_)=>
  .lp (ko (x0,0,())).lp λw5=> .sum w5 (λ_=>
  .r false)<|
  λ_=>
  .r (decide ((x0.length:Int)≤4))) (ot @C0)
noncomputable def GN:=dm st Tryz.func266 [(0,lb [0,3] [0,2])] [cP,fx,Ep] 0 ko (ks:=[.sc (.sl .entr)]) tU rB
noncomputable def Gv:FT (List Entr×Int×Unit) (Int×Bool) (λx=>sS x.1) (λ_ _=>True):= .mk λ(x0,x1,_)=>
  .l xf.c (x0,x1,()) λc1=>
  .u (decide (c1<0)) (.r (0,false))<|
  .grd (aY x0 c1)<|
  .r ((x0.getD c1.toNat (Ty.zero .entr)).hw,true)
noncomputable def Og:=bu st Tryz.func267 [Ep] (ks:=[.sc (.sl .entr),.sc (.int .i64)]) Gv (λv=>[(false,[.c (.int .i64 v.1)]),(false,[.c (.bool v.2)])])
noncomputable def ou:FT (Segm×Unit) (Bool) (λ_=>True) (λx v=>(v=true→x.1.body.length≤1420)):= .mk λ(x0,_)=>
  .l aC.c (x0.from_,16,()) λc1=>
  .u c1 (.l aC.c (x0.to,16,()) λc2=>
   .u c2 (.l aC.c (x0.window,16,()) λc3=>
    .u c3 (.l aC.c (x0.seq,32,()) λc4=>
     .u c4 (.l aC.c (x0.ack,32,()) λc5=>
      .u c5 (.l aC.c (x0.flags,6,()) λc6=>
       .u c6 (.l gR.c (x0.opts,()) λc7=>
        .u c7 (.r (decide ((x0.body.length:Int)≤1420)))<|
        .r false)<|
       .r false)<|
      .r false)<|
     .r false)<|
    .r false)<|
   .r false)<|
  .r false
noncomputable def Dy:=bu st Tryz.func270 [cP,ll] (ks:=[.st .segm]) ou rB
def rP:Sh:=⟨[zi 0,zo 5 0,zi 6],[za .u8]⟩
noncomputable def kh (v1:Int)(a:Int×List Int):Tr (Stp (Int×List Int) (Empty)):=
 .grd (aY a.2 v1)<|
 .r (.next ((IntKind.wrap .i64 (a.1.tdiv 256)),(a.2.set v1.toNat (IntKind.wrap .u8 (a.1.tmod 256)))))
noncomputable def gY:rP.V→rL rP (Int×List Int):=λ(v0,v1,v2,_)=>⟨v1,(v0,v2),λv1 a=>(a.1,v1,a.2,()),λv1 _=>(decide (0≤v1)),kh,dn,(-1),(Int.toNat (v1-0+1)),Empty.elim,Prod.mk,oN (.exit 0) ⟨[zu 4,zo 5 0],[za .u8]⟩ (λx=>(x.2.2,()))⟩
theorem CN {v0 v1:Int}{v2:List Int}(h0:v1≤9223372036854775807)(h1:sS v2)(h2:v2.length=v2.length∧v1<(v2.length:Int)):(gY (v0,v1,v2,())).D 0 (λv1 a=>a.2.length=v2.length∧v1<(a.2.length:Int)) (λ_=>True):=
 Rj (a:=(v0,v2)) h0 (by decide) h2
noncomputable def aZ:FT (Int×Int×Unit) (ah) (λ_=>True) (λx v=>sS v∧(v.length:Int)≤max x.2.1 0):=⟨λ(x0,x1,_)=>
  .bnd (β:=Bool×Unit) (.d (dX.f (x1,1,6,())) λc1=>
   .u (!c1) (.r (true,()))<|
   .l aC.c (x0,(IntKind.wrap .i64 (8*x1)),()) λc2=>
   .r ((!c2),())) λ(u3a0,_)=>
  .u u3a0 (.r [])<|
  .grd ((((decide (0≤x1))&&(decide (x1=x1)))&&(decide (x1*1≤(aD:Int))))&&(decide (x1≤(aD:Int))))<|
  .lp (gY (x0,(IntKind.wrap .i64 (x1-1)),(List.replicate x1.toNat 0),())).lp λ(_,_,a4_1)=>
  .r (tY a4_1),
 λ(x0,x1,_) hp=>by
  refine Tr.B (Q':=λ_=>True) (Tr.V λ_ _=>Tr.I (λ_=>Tr.R trivial) λ_=>Tr.C trivial λ_ _ _=>Tr.R trivial) (λ(u3a0,_) _ _=>Tr.I (λ_=>Tr.R ?_) λ_=>Tr.G4 ?_ λ_=>Tr.L (CN ?_ ?_ ?_) (λ(a4_0,a4_1) _=>Tr.R ?_) (λp=>Empty.elim p))
  all_goals ((try simp only[gY,LC.lp,LC.ct,Ct.lp,Tr.nice,jt]at*)<;>grind)⟩
noncomputable def l0:=dm st Tryz.func273 [(0,lb [0,5,6] [4,5]),(3000001,rA 0 16)] [fx,cP] 0 gY (ks:=[.sc (.int .i64),.sc (.int .i64)]) aZ (λv=>[(false,[.c (.str v)])])
noncomputable def un:FT (ah×Unit) (Int) (λx=>sS x.1) (λ_ _=>True):= .mk λ(x0,_)=>
  .l um.c (x0,()) λc1=>
  .l wu.c (c1,()) λc2=>
  .r (IntKind.wrap .i64 (65535-c2))
noncomputable def Ef:=bu st Tryz.func274 [GV,JT] (ks:=[.sc .str]) un rI
def sT:Sh:=⟨[zl 0 .entr,zl 10 .entr,zi 11,zi 12],[]⟩
noncomputable def de (v0 v1:List Entr)(v3:Int)(a:Unit):Tr (Stp (Unit) ((Unit))):=
 .grd (aY v1 v3)<|
 .bnd (β:=Bool×Unit) (.l aa.c ((v1.getD v3.toNat (Ty.zero .entr)).ip,32,()) λc1=>
  .u (!c1) (.r (true,()))<|
  .l aa.c ((v1.getD v3.toNat (Ty.zero .entr)).hw,48,()) λc2=>
  .u (!c2) (.r (true,()))<|
  .d (bF.f ((v1.getD v3.toNat (Ty.zero .entr)).age,0,9,())) λc3=>
  .r ((!c3),())) λ(u4a0,_)=>
 .u u4a0 (.r (.out ()))<|
 .grd ((decide (0≤v3))&&(decide (v3≤(v0.length:Int))))<|
 .l vv.c (((v0.take v3.toNat).drop 0),(v1.getD v3.toNat (Ty.zero .entr)).ip,()) λc5=>
 .u c5.2 (.r (.out ()))<|
 .r (.next ())
noncomputable def gV:sT.V→nB sT Unit (Unit):=λ(v0,v1,v2,v3,_)=>⟨v3,(),λv3 _=>(v0,v1,v2,v3,()),λv3 _=>(decide (v3<v2)),de v0 v1,up,1,(Int.toNat (v2-v3)),.inl,eR,oB .ret ⟨[zb 2],[]⟩ (λ_=>(false,())) (.exit 0) ⟨[zu 2],[]⟩ (λ_=>())⟩
theorem AU {v0 v1:List Entr}{v2 v3:Int}(h0:0≤v3)(h1:v2≤4611686018427387904)(h2:sS v0)(h3:sS v1)(h4:v2≤(v1.length:Int))(h5:v2≤(v0.length:Int)):(gV (v0,v1,v2,v3,())).U v2 (λ_ _=>True) (λ_=>True):=
 iT h0 h1 trivial
noncomputable def li:FT (List Entr×Unit) (Bool) (λx=>sS x.1) (λx v=>(v=true→x.1.length≤4)):= .mk (λ(x0,_)=>
  .u (decide (4<(x0.length:Int))) (.r false)<|
  .lp (gV (x0,x0,(x0.length:Int),0,())).lp λw6=> .sum w6 (λ_=>
  .r false)<|
  λ_=>
  .r true) (ot @AU)
noncomputable def Hy:=dm az Tryz.func277 [(0,lb [0,10,11,12] [2]),(3000006,rA 0 32)] [cQ,cG,Hi] 0 gV (ks:=[.sc (.sl .entr)]) li rB
noncomputable def bk:FT (Segm×Unit) (Bool) (λ_=>True) (λx v=>(v=true→x.1.body.length≤1420)):= .mk λ(x0,_)=>
  .l aa.c (x0.from_,16,()) λc1=>
  .u c1 (.l aa.c (x0.to,16,()) λc2=>
   .u c2 (.l aa.c (x0.window,16,()) λc3=>
    .u c3 (.l aa.c (x0.seq,32,()) λc4=>
     .u c4 (.l aa.c (x0.ack,32,()) λc5=>
      .u c5 (.l aa.c (x0.flags,6,()) λc6=>
       .u c6 (.l bf.c (x0.opts,()) λc7=>
        .u c7 (.r (decide ((x0.body.length:Int)≤1420)))<|
        .r false)<|
       .r false)<|
      .r false)<|
     .r false)<|
    .r false)<|
   .r false)<|
  .r false
noncomputable def Dc:=bu az Tryz.func278 [cQ,ly] (ks:=[.st .segm]) bk rB
def nU:Sh:=⟨[zs 3],[]⟩
def vC:An:=⟨⟨[],[],false,0⟩,⟨[1,2,3],[],false,0⟩,⟨[],[]⟩,[(.normal,⟨[zp 1 0,zs 2,zs 3],[zx .opti]⟩)]⟩
def uB:An:=⟨⟨[],[],false,0⟩,⟨[1,2,3],[],false,0⟩,⟨[],[]⟩,[(.normal,⟨[zp 1 0,zs 2,zs 3],[zx .opti]⟩)]⟩
def uu:An:=⟨⟨[],[],false,0⟩,⟨[1,2,3],[],false,0⟩,⟨[],[]⟩,[(.normal,⟨[zp 1 0,zs 2,zs 3],[zx .opti]⟩)]⟩
def uD:An:=⟨⟨[],[],false,0⟩,⟨[2,3],[],false,0⟩,⟨[],[]⟩,[(.normal,⟨[zs 2,zs 3],[]⟩)]⟩
noncomputable def ng (a:ah):Tr (Stp (ah) ((ah))):=
 .u (((a.length:Int).tmod 4) != 0) (.grd (Nat.ble (a.length+1) ak)<|
  .r (.next (a++[1])))<|
 .r (.out a)
noncomputable def f9:nU.V→LW nU (ah) ((ah)):=λ(v0,_)=>⟨v0,λa=>(a,()),ng,(4-v0.length%4)%4,oN (.exit 0) ⟨[zu 2,zs 3],[]⟩ (λp=>(p,()))⟩
theorem vt {v0:ah}(h0:v0.length+(4-v0.length%4)%4≤20):(f9 (v0,())).W (λp=>p.length≤20):=
 Rk (a:=v0) (λa=>a.length+(4-a.length%4)%4≤20) (λa=>(4-a.length%4)%4) h0
noncomputable def bN:FT (Opti×Unit) (ah) (λ_=>True) (λx v=>sS v∧v.length≤20):= .mk (λ(x0,_)=>
  .l bf.c (x0,()) λc1=>
  .u (!c1) (.r [])<|
  .bnd (β:=ah×ah×Opti×Unit) (.as (λw=>sS w.1∧sS w.2.1∧w.2.1.length≤4) (.u (x0.mss != 0) (.l av.c (x0.mss,2,()) λc2=>
    .grd (Nat.ble (2+c2.length) ak)<|
    .grd (Nat.ble (0+([2,4]++c2).length) ak)<|
    .r ([],([]++([2,4]++c2)),x0,()))<|
   .r ([],[],x0,()))) λ(u3a0,u3a1,u3a2,_)=>
  .bnd (β:=ah×ah×Opti×Unit) (.as (λw=>sS w.1∧sS w.2.1∧w.2.1.length≤7) (.u (u3a2.scale != (-1)) (.l av.c (u3a2.scale,1,()) λc4=>
    .grd (Nat.ble (2+c4.length) ak)<|
    .grd (Nat.ble (u3a1.length+([3,3]++c4).length) ak)<|
    .r (u3a0,(u3a1++([3,3]++c4)),u3a2,()))<|
   .r (u3a0,u3a1,u3a2,()))) λ(u5a0,u5a1,u5a2,_)=>
  .bnd (β:=ah×ah×Opti×Unit) (.as (λw=>sS w.1∧sS w.2.1∧w.2.1.length≤9) (.u u5a2.sack (.grd (Nat.ble (u5a1.length+2) ak)<|
    .r (u5a0,(u5a1++[4,2]),u5a2,()))<|
   .r (u5a0,u5a1,u5a2,()))) λ(u6a0,u6a1,u6a2,_)=>
  .bnd (β:=ah×ah×Unit) (.as (λw=>sS w.1∧sS w.2.1∧w.2.1.length≤19) (.u u6a2.stamp (.l av.c (u6a2.val,4,()) λc7=>
    .grd (Nat.ble (2+c7.length) ak)<|
    .l av.c (u6a2.echo,4,()) λc8=>
    .grd (Nat.ble (([8,10]++c7).length+c8.length) ak)<|
    .grd (Nat.ble (u6a1.length+(([8,10]++c7)++c8).length) ak)<|
    .r (u6a0,(u6a1++(([8,10]++c7)++c8)),()))<|
   .r (u6a0,u6a1,()))) λ(_,u9a1,_)=>
  .lp (f9 (u9a1,())).lp λp10a0=>
  .r p10a0) (ot @vt)
noncomputable def zD:=L6 az Tryz.func279 [(0,lb [3] [2,3]),(1000009,vC),(1000018,uB),(1000026,uu),(1000030,uD)] [ly,lJ] 0 f9 (ks:=[.st .opti]) bN (λv=>[(false,[.c (.str v)])])
noncomputable def Cs:=[cQ,lJ]
noncomputable def AF:Fx:=⟨280,Tryz.f280,[(3000001,rA 0 19)],0⟩
noncomputable def ey:FT (Int×Int×Int×Unit) (ah) (λ_=>True) (λx v=>sS v∧v.length≤20):=⟨λ(x0,x1,x2,_)=>
  .bnd (β:=Bool×Unit) (.l aa.c (x0,32,()) λc1=>
   .u (!c1) (.r (true,()))<|
   .l aa.c (x1,32,()) λc2=>
   .u (!c2) (.r (true,()))<|
   .l aa.c (x2,16,()) λc3=>
   .r ((!c3),())) λ(u4a0,_)=>
  .u u4a0 (.r [])<|
  .l av.c (x0,4,()) λc5=>
  .l av.c (x1,4,()) λc6=>
  .grd (Nat.ble (c5.length+c6.length) ak)<|
  .grd (Nat.ble ((c5++c6).length+2) ak)<|
  .l av.c (x2,2,()) λc7=>
  .grd (Nat.ble (((c5++c6)++[0,6]).length+c7.length) ak)<|
  .r (((c5++c6)++[0,6])++c7),
 λ(x0,x1,x2,_) hp=>by
  refine Tr.B (Q':=λ_=>True) (Tr.C trivial λc1 hc1 qc1=>Tr.I (λb0=>Tr.R trivial) λb0=>Tr.C trivial λc2 hc2 qc2=>Tr.I (λb1=>Tr.R trivial) λb1=>Tr.C trivial λc3 hc3 qc3=>Tr.R trivial) (λ(u4a0,_) hj4 qj4=>Tr.I (λb0=>Tr.R ?_) λb0=>Tr.C trivial λc5 hc5 qc5=>Tr.C trivial λc6 hc6 qc6=>Tr.Gb ?_ λg1=>Tr.Gb ?_ λg2=>Tr.C trivial λc7 hc7 qc7=>Tr.Gb ?_ λg3=>Tr.R ?_)
  all_goals ((try simp only[Tr.nice,jt]at*)<;>(first|(simp only[List.length_append,List.length_cons,List.length_nil,ak,sS]at*;omega)|grind))⟩
noncomputable def Bt:=lh az AF Cs [] (ks:=[.sc (.int .i64),.sc (.int .i64),.sc (.int .i64)]) ey (λv=>[(false,[.c (.str v)])]) Tryz.func280 trivial
noncomputable def qr:FT (ah×Unit) (Int) (λx=>sS x.1) (λ_ _=>True):= .mk λ(x0,_)=>
  .l ne.c (x0,()) λc1=>
  .l vO.c (c1,()) λc2=>
  .r (IntKind.wrap .i64 (65535-c2))
noncomputable def Es:=bu az Tryz.func282 [Ih,J6] (ks:=[.sc .str]) qr rI
noncomputable def mF:FT (Pack×Unit) (ah) (λx=>KY x.1) (λx v=>sS v∧v.length≤1520):=⟨λ(x0,_)=>
  .l jv.c (x0,()) λc1=>
  .u (!c1) (.r [])<|
  .l av.c ((IntKind.wrap .i64 (20+(x0.body.length:Int))),2,()) λc2=>
  .grd (Nat.ble (2+c2.length) ak)<|
  .l av.c (x0.id,2,()) λc3=>
  .grd (Nat.ble (([69,0]++c2).length+c3.length) ak)<|
  .grd (Nat.ble ((([69,0]++c2)++c3).length+2) ak)<|
  .l av.c (x0.ttl,1,()) λc4=>
  .grd (Nat.ble (((([69,0]++c2)++c3)++[0,0]).length+c4.length) ak)<|
  .l av.c (x0.proto,1,()) λc5=>
  .grd (Nat.ble ((((([69,0]++c2)++c3)++[0,0])++c4).length+c5.length) ak)<|
  .l av.c (x0.src,4,()) λc6=>
  .l av.c (x0.dst,4,()) λc7=>
  .grd (Nat.ble (c6.length+c7.length) ak)<|
  .grd (Nat.ble (((((([69,0]++c2)++c3)++[0,0])++c4)++c5).length+2) ak)<|
  .grd (Nat.ble ((((((([69,0]++c2)++c3)++[0,0])++c4)++c5)++[0,0]).length+(c6++c7).length) ak)<|
  .d ((((((([69,0]++c2)++c3)++[0,0])++c4)++c5)++[0,0])++(c6++c7)) λe8=>
  .l qr.c (e8,()) λc9=>
  .l av.c (c9,2,()) λc10=>
  .grd (Nat.ble (((((([69,0]++c2)++c3)++[0,0])++c4)++c5).length+c10.length) ak)<|
  .grd (Nat.ble ((((((([69,0]++c2)++c3)++[0,0])++c4)++c5)++c10).length+(c6++c7).length) ak)<|
  .d ((((((([69,0]++c2)++c3)++[0,0])++c4)++c5)++c10)++(c6++c7)) λe11=>
  .grd (Nat.ble (e11.length+x0.body.length) ak)<|
  .r (e11++x0.body),
 λ(x0,_) hp=>by
  refine Tr.C trivial λc1 hc1 qc1=>Tr.I (λb0=>Tr.R ?_) λb0=>Tr.C trivial λc2 hc2 qc2=>Tr.Gb ?_ λg1=>Tr.C trivial λc3 hc3 qc3=>Tr.Gb ?_ λg2=>Tr.Gb ?_ λg3=>Tr.C trivial λc4 hc4 qc4=>Tr.Gb ?_ λg4=>Tr.C trivial λc5 hc5 qc5=>Tr.Gb ?_ λg5=>Tr.C trivial λc6 hc6 qc6=>Tr.C trivial λc7 hc7 qc7=>Tr.Gb ?_ λg6=>Tr.Gb ?_ λg7=>Tr.Gb ?_ λg8=>Tr.V λe8 he8=>Tr.C ?_ λc9 hc9 qc9=>Tr.C trivial λc10 hc10 qc10=>Tr.Gb ?_ λg9=>Tr.Gb ?_ λg10=>Tr.V λe11 he11=>Tr.Gb ?_ λg11=>Tr.R ?_
  all_goals ((first|(simp only[List.length_append,List.length_cons,List.length_nil,ak,sS]at*;omega)|grind))⟩
noncomputable def Cj:=bu az Tryz.func284 [GB,lJ,Es] (ks:=[.st .pack]) mF (λv=>[(false,[.c (.str v)])])
noncomputable def oX:FT (Fram×Unit) (ah) (λx=>KZ x.1) (λx v=>sS v∧v.length≤1600):=⟨λ(x0,_)=>
  .l tE.c (x0,()) λc1=>
  .u (!c1) (.r [])<|
  .l av.c (x0.dst,6,()) λc2=>
  .l av.c (x0.src,6,()) λc3=>
  .grd (Nat.ble (c2.length+c3.length) ak)<|
  .l av.c (x0.type,2,()) λc4=>
  .grd (Nat.ble ((c2++c3).length+c4.length) ak)<|
  .grd (Nat.ble (((c2++c3)++c4).length+x0.body.length) ak)<|
  .r (((c2++c3)++c4)++x0.body),
 λ(x0,_) hp=>by
  refine Tr.C trivial λc1 hc1 qc1=>Tr.I (λb0=>Tr.R ?_) λb0=>Tr.C trivial λc2 hc2 qc2=>Tr.C trivial λc3 hc3 qc3=>Tr.Gb ?_ λg1=>Tr.C trivial λc4 hc4 qc4=>Tr.Gb ?_ λg2=>Tr.Gb ?_ λg3=>Tr.R ?_
  all_goals ((first|(simp only[List.length_append,List.length_cons,List.length_nil,ak,sS]at*;omega)|grind))⟩
noncomputable def DR:=bu az Tryz.func285 [IX,lJ] (ks:=[.st .fram]) oX (λv=>[(false,[.c (.str v)])])
noncomputable def n3:FT (Mac×Unit) (Mac) (λx=>dS x.1) (λx v=>dS v∧v=x.1):=⟨λ(x0,_)=>
  .l kG.c (x0.rows,()) λc1=>
  .r ({x0 with rows:=c1}:Mac),
 λ(x0,_) hp=>by
  refine Tr.C ?_ λc1 hc1 qc1=>Tr.R ?_
  all_goals ((first|grind|(refine⟨by grind, ?_⟩;first|(simp only[List.nil_append];done)|(subst_vars;rfl)|simp_all)))⟩
noncomputable def F4:=bu az Tryz.func324 [xW] (ks:=[.st .mac]) n3 (λv=>[(true,MU (.o true) v)])
noncomputable def jd:FT (Recv×Unit) (Recv) (λx=>gv x.1) (λx v=>gv v∧v=x.1):=⟨λ(x0,_)=>
  .l lz.c (x0.held,()) λc1=>
  .r ({x0 with held:=c1}:Recv),
 λ(x0,_) hp=>by
  refine Tr.C ?_ λc1 hc1 qc1=>Tr.R ?_
  all_goals ((first|grind|(refine⟨by grind, ?_⟩;first|(simp only[List.nil_append];done)|(subst_vars;rfl)|simp_all)))⟩
noncomputable def wG:=bu az Tryz.func330 [zc] (ks:=[.st .recv]) jd (λv=>[(true,JP (.o true) v)])
noncomputable def gW:FT (Sndr×Unit) (Int) (λx=>d8 x.1) (λ_ _=>True):= .mk λ(x0,_)=>
  .l dK.c (x0,()) λc1=>
  .d (fc.f (x0.una,c1,())) λc2=>
  .r c2
noncomputable def AD:=bu az Tryz.func363 [Aj,CI] (ks:=[.st .sndr]) gW rI
noncomputable def D7:=[mW,Aj,AD]
noncomputable def DZ:Fx:=⟨365,Tryz.f365,[(3000007,rA 0 68)],0⟩
noncomputable def bh:FT (Sndr×Int×Int×Unit) (Chun×Bool) (λx=>d8 x.1) (λx v=>we v.1∧(v.2=true→SO x.1∧(v.1.text.length:Int)+x.1.sent≤x.1.data.length∧x.1.finSent=false∧(v.1.text=[]→v.1.fin=true)∧(v.1.fin=true→x.1.fin=true∧x.1.done=false∧x.1.sent+v.1.text.length=x.1.data.length))):= .mk λ(x0,x1,x2,_)=>
  .l bv.c (x0,()) λc1=>
  .u (!c1) (.r ((⟨0,[],false⟩:Chun),false))<|
  .l dK.c (x0,()) λc2=>
  .grd (Q1 x0.data x0.sent (x0.data.length:Int))<|
  .d (((x0.data.take ((x0.data.length:Int).toNat)).drop x0.sent.toNat).length:Int) λe3=>
  .d (β:=Int) (if(IntKind.wrap .i64 ((if x1<(-1)then(-1)else x1)-c2))<(if x2<e3 then x2 else e3)then(IntKind.wrap .i64 ((if x1<(-1)then(-1)else x1)-c2))else(if x2<e3 then x2 else e3)) λe4=>
  .l gW.c (x0,()) λc5=>
  .grd ((decide (0≤(if 0<e4 then e4 else 0)))&&(decide ((if 0<e4 then e4 else 0)≤(((x0.data.take ((x0.data.length:Int).toNat)).drop x0.sent.toNat).length:Int))))<|
  .d ((((x0.data.take ((x0.data.length:Int).toNat)).drop x0.sent.toNat).take ((if 0<e4 then e4 else 0).toNat)).drop 0) λe6=>
  .u x0.fin (.u (!x0.finSent) (.u (!x0.done) (.d (((x0.data.take ((x0.data.length:Int).toNat)).drop x0.sent.toNat).length:Int) λe7=>
     .u ((if 0<e4 then e4 else 0)==e7) (.bnd (β:=Bool×Unit) (.u (e6==[]) (.r ((!(decide ((if 0<e4 then e4 else 0)<(IntKind.wrap .i64 ((if x1<(-1)then(-1)else x1)-c2))))),()))<|
       .r (false,())) λ(u8a0,_)=>
      .u u8a0 (.r ((⟨0,[],false⟩:Chun),false))<|
      .r ((⟨c5,e6,(decide ((if 0<e4 then e4 else 0)<(IntKind.wrap .i64 ((if x1<(-1)then(-1)else x1)-c2))))⟩:Chun),true))<|
     .bnd (β:=Bool×Unit) (.u (e6==[]) (.r (true,()))<|
      .r (false,())) λ(u9a0,_)=>
     .u u9a0 (.r ((⟨0,[],false⟩:Chun),false))<|
     .r ((⟨c5,e6,false⟩:Chun),true))<|
    .bnd (β:=Bool×Unit) (.u (e6==[]) (.r (true,()))<|
     .r (false,())) λ(u10a0,_)=>
    .u u10a0 (.r ((⟨0,[],false⟩:Chun),false))<|
    .r ((⟨c5,e6,false⟩:Chun),true))<|
   .bnd (β:=Bool×Unit) (.u (e6==[]) (.r (true,()))<|
    .r (false,())) λ(u11a0,_)=>
   .u u11a0 (.r ((⟨0,[],false⟩:Chun),false))<|
   .r ((⟨c5,e6,false⟩:Chun),true))<|
  .bnd (β:=Bool×Unit) (.u (e6==[]) (.r (true,()))<|
   .r (false,())) λ(u12a0,_)=>
  .u u12a0 (.r ((⟨0,[],false⟩:Chun),false))<|
  .r ((⟨c5,e6,false⟩:Chun),true)
noncomputable def D2:=lh az DZ D7 [] (ks:=[.st .sndr,.sc (.int .i64),.sc (.int .i64)]) bh (λv=>[(true,NF v.1),(false,[.c (.bool v.2)])]) Tryz.func365 trivial
noncomputable def pY:FT (Pack×Unit) (Bool) (λ_=>True) (λx v=>(v=true→x.1.body.length≤1480)):= .mk λ(x0,_)=>
  .l aC.c (x0.src,32,()) λc1=>
  .u c1 (.l aC.c (x0.dst,32,()) λc2=>
   .u c2 (.d (dX.f (x0.ttl,1,255,())) λc3=>
    .u c3 (.l aC.c (x0.proto,8,()) λc4=>
     .u c4 (.l aC.c (x0.id,16,()) λc5=>
      .u c5 (.r (decide ((x0.body.length:Int)≤1480)))<|
      .r false)<|
     .r false)<|
    .r false)<|
   .r false)<|
  .r false
noncomputable def Fb:=bu st Tryz.func371 [cP,fx] (ks:=[.st .pack]) pY rB
noncomputable def tV:FT (Fram×Unit) (Bool) (λ_=>True) (λx v=>(v=true→x.1.body.length≤1586)):= .mk λ(x0,_)=>
  .l aC.c (x0.dst,48,()) λc1=>
  .u c1 (.l aC.c (x0.src,48,()) λc2=>
   .u c2 (.d (dX.f (x0.type,1536,65535,())) λc3=>
    .u c3 (.r (decide ((x0.body.length:Int)≤1586)))<|
    .r false)<|
   .r false)<|
  .r false
noncomputable def HE:=bu st Tryz.func372 [cP,fx] (ks:=[.st .fram]) tV rB
noncomputable def wI:=[IH]
def jf:Sh:=⟨[zl 0 .piec,zi 1,zi 5],[]⟩
noncomputable def xe:Fx:=⟨430,Tryz.f430,[(0,lb [0,1,5] [1,4])],0⟩
noncomputable def mn (v0:List Piec)(v2:Int)(a:Int):Tr (Stp (Int) ((Int))):=
 .grd (aY v0 v2)<|
 .l cO.c ((v0.getD v2.toNat (Ty.zero .piec)),a,()) λc1=>
 .u (decide (c1<0)) (.r (.out c1))<|
 .r (.next c1)
noncomputable def dH:jf.V→nB jf Int (Int):=λ(v0,v1,v2,_)=>⟨v2,v1,λv2 a=>(v0,a,v2,()),λv2 _=>(decide (v2<(v0.length:Int))),mn v0,up,1,(Int.toNat ((v0.length:Int)-v2)),.inl,eR,oB .ret ⟨[zi 1,zi 4],[]⟩ (λp=>(p,(-1),())) (.exit 0) ⟨[zi 1,zu 4],[]⟩ (λx=>(x.2,()))⟩
theorem zd:LS Tryz.prog xe [0] (ji 0 jf dH):=dW st (aL wI) _ dH [] trivial
theorem zM {v0:List Piec}{v1 v2:Int}(h0:0≤v2)(h1:(v0.length:Int)≤4611686018427387904):(dH (v0,v1,v2,())).U (v0.length:Int) (λ_ _=>True) (λ_=>True):=
 iT (a:=v1) h0 h1 trivial
noncomputable def jx:FX (List Piec×Int×Unit) (Int) (λ_=>True) (bP [.sc (.sl .piec),.sc (.int .i64)]):=⟨λ(x0,x1,_)=>
  .u (decide ((IntKind.wrap .i64 (x1-(x0.length:Int)))<0)) (.r (-1))<|
  .lp (dH (x0,(IntKind.wrap .i64 (x1-(x0.length:Int))),0,())).lp λw2=> .sum w2 (λ_=>
  .r (-1))<|
  λ(_,a2_0)=>
  .r a2_0,
 λ(x0,x1,_) hp hf=>by
  simp only[bP,Pk.fact,gd,eo,Fl.fact,Ty.fl,Ty.toH]at hf
  refine Tr.I (λ_=>Tr.R trivial) λ_=>Tr.L (zM ?_ ?_) (λa2_0 _=>Tr.Sr (Tr.R trivial)) (λp2a0 _=>Tr.Sl (Tr.R trivial))
  all_goals ((try simp only[dH,LC.lp,LC.ct,Ct.lp]at*)<;>grind)⟩
theorem Jf (xs:List Piec)(k:Int)(h0:0≤k)(h1:k≤1048576)(hl:xs.length≤140737488355328)(he:yN .piec xs)(h:0≤jx.f (xs,k,())):jx.f (xs,k,())≤k∧xs.length≤1048576∧cI bK xs:=by
 have w:IntKind.wrap .i64 (k-(xs.length:Int))=k-(xs.length:Int):=aw (by omega) (by omega)
 simp only[FX.f,PX,jx,dH,w,ai]at h⊢
 by_cases c:k-(xs.length:Int)<0
 ·rw[decide_eq_true c,cond_true]at h;omega
 rw[decide_eq_false c,cond_false]at h⊢
 have hf:∀(j:Nat) x a,xs[j]? =some x→(mn xs (j:Int) a).nice=(bif decide (cO.f (x,a,())<0)then Stp.out (cO.f (x,a,()))else Stp.next (cO.f (x,a,()))):=λj x a hx=>by
  simp only[PX,mn,Z,getD_some hx]
 rw[bi xs _ rfl (F:=λ_ x a=>(bif decide (cO.f (x,a,())<0)then Stp.out (cO.f (x,a,()))else Stp.next (cO.f (x,a,())))) hf]at h⊢
 cases hn:cT (λ_ x a=>(bif decide (cO.f (x,a,())<0)then Stp.out (cO.f (x,a,()))else Stp.next (cO.f (x,a,())))) 0 xs (k-(xs.length:Int))with
 |out p=>rw[hn]at h;simp only[Stp.elim]at h;omega
 |next b=>
  obtain⟨h2,h3⟩:=Aa (λx a=>cO.f (x,a,())) bK xs 0 _ b (λx hx k h0 h1 h=>(have h4:=LX x k h0 h1 (he x hx (.str x.text) (List.mem_cons_of_mem _ List.mem_cons_self)).slen h;⟨h4.1,(by unfold bK;omega)⟩)) (by omega) (by omega) hn
  simp only[Stp.elim]
  exact⟨by omega,by omega,h3⟩
noncomputable def E7:=Mw st xe wI [(ji 0 jf dH)] (ks:=[.sc (.sl .piec),.sc (.int .i64)]) jx rI Tryz.func430 ⟨zd,trivial⟩
def rH:Sh:=⟨[zl 0 .piec,zo 3 0,zi 4],[za .piec]⟩
noncomputable def ra (v0:List Piec)(v1:Int)(a:List Piec):Tr (Stp (List Piec) (Empty)):=
 .grd (aY v0 v1)<|
 .l xD.c ((v0.getD v1.toNat (Ty.zero .piec)),()) λc1=>
 .grd (aY a v1)<|
 .r (.next (a.set v1.toNat c1))
noncomputable def gf:rH.V→rL rH (List Piec):=λ(v0,v1,v2,_)=>⟨v1,v2,λv1 a=>(v0,v1,a,()),λv1 _=>(decide (v1<(v0.length:Int))),ra v0,up,1,(Int.toNat ((v0.length:Int)-v1)),Empty.elim,Prod.mk,oN (.exit 0) ⟨[zu 2,zo 3 0],[za .piec]⟩ (λx=>(x.2,()))⟩
theorem zI {v0 v2:List Piec}{v1:Int}(h0:0≤v1)(h1:(v0.length:Int)≤4611686018427387904)(h2:sL bK v0)(h3:sL bK v2)(h4:v2.length=v2.length∧cI bK v2∧(v0.length:Int)≤(v2.length:Int)):(gf (v0,v1,v2,())).U (v0.length:Int) (λv1 a=>a.length=v2.length∧cI bK a∧(v0.length:Int)≤(a.length:Int)) (λ_=>True):=
 iT (a:=v2) h0 h1 h4
noncomputable def qO:FT (List Piec×Unit) (List Piec) (λx=>sL bK x.1) (λx v=>sL bK v):=⟨λ(x0,_)=>
  .grd ((((decide (0≤(x0.length:Int)))&&(decide ((x0.length:Int)=(x0.length:Int))))&&(decide ((x0.length:Int)*24≤(aD:Int))))&&(decide ((x0.length:Int)≤(aD:Int))))<|
  .lp (gf (x0,0,(List.replicate ((x0.length:Int).toNat) (⟨0,[]⟩:Piec)),())).lp λ(_,a2_0)=>
  .r a2_0,
 λ(x0,_) hp=>by
  refine Tr.G4 ?_ λ_=>Tr.L (zI ?_ ?_ ?_ ?_ ?_) (λa2_0 _=>Tr.R ?_) (λp=>Empty.elim p)
  all_goals ((try simp only[gf,LC.lp,LC.ct,Ct.lp]at*)<;>grind)⟩
noncomputable def Fg:=dm az Tryz.func431 [(0,lb [0,3,4] [2,3])] [Hg] 0 gf (ks:=[.sc (.sl .piec)]) qO (λv=>[(false,[sc (.o true) .piec v])])
def qW:Sh:=⟨[zl 0 .piec,zl 1 .piec,zi 5],[]⟩
noncomputable def rC (v0 v1:List Piec)(v2:Int)(a:Unit):Tr (Stp (Unit) ((Unit))):=
 .grd (aY v0 v2)<|
 .grd (aY v1 v2)<|
 .d (tJ.f ((v0.getD v2.toNat (Ty.zero .piec)),(v1.getD v2.toNat (Ty.zero .piec)),())) λc1=>
 .u (!c1) (.r (.out ()))<|
 .r (.next ())
noncomputable def i4:qW.V→nB qW Unit (Unit):=λ(v0,v1,v2,_)=>⟨v2,(),λv2 _=>(v0,v1,v2,()),λv2 _=>(decide (v2<(v0.length:Int))),rC v0 v1,up,1,(Int.toNat ((v0.length:Int)-v2)),.inl,eR,oB .ret ⟨[zb 4],[]⟩ (λ_=>(false,())) (.exit 0) ⟨[zu 4],[]⟩ (λ_=>())⟩
theorem y9 {v0 v1:List Piec}{v2:Int}(h0:0≤v2)(h1:(v0.length:Int)≤4611686018427387904)(h2:(v0.length:Int)≤(v1.length:Int)):(i4 (v0,v1,v2,())).U (v0.length:Int) (λ_ _=>True) (λ_=>True):=
 iT h0 h1 trivial
noncomputable def p8:FT (List Piec×List Piec×Unit) (Bool) (λx=>sL bK x.1∧sL bK x.2.1) (λ_ _=>True):= .mk (λ(x0,x1,_)=>
  .u ((x0.length:Int) != (x1.length:Int)) (.r false)<|
  .lp (i4 (x0,x1,0,())).lp λw2=> .sum w2 (λ_=>
  .r false)<|
  λ_=>
  .r true) (ot @y9)
noncomputable def GD:=dm st Tryz.func433 [(0,lb [0,1,5] [4])] [Ie] 0 i4 (ks:=[.sc (.sl .piec),.sc (.sl .piec)]) p8 rB
def oj:Sh:=⟨[zl 0 .segm,zl 1 .segm,zi 5],[]⟩
noncomputable def ov (v0 v1:List Segm)(v2:Int)(a:Unit):Tr (Stp (Unit) ((Unit))):=
 .grd (aY v0 v2)<|
 .grd (aY v1 v2)<|
 .d (n9.f ((v0.getD v2.toNat (Ty.zero .segm)),(v1.getD v2.toNat (Ty.zero .segm)),())) λc1=>
 .u (!c1) (.r (.out ()))<|
 .r (.next ())
noncomputable def gz:oj.V→nB oj Unit (Unit):=λ(v0,v1,v2,_)=>⟨v2,(),λv2 _=>(v0,v1,v2,()),λv2 _=>(decide (v2<(v0.length:Int))),ov v0 v1,up,1,(Int.toNat ((v0.length:Int)-v2)),.inl,eR,oB .ret ⟨[zb 4],[]⟩ (λ_=>(false,())) (.exit 0) ⟨[zu 4],[]⟩ (λ_=>())⟩
theorem wE {v0 v1:List Segm}{v2:Int}(h0:0≤v2)(h1:(v0.length:Int)≤4611686018427387904)(h2:(v0.length:Int)≤(v1.length:Int)):(gz (v0,v1,v2,())).U (v0.length:Int) (λ_ _=>True) (λ_=>True):=
 iT h0 h1 trivial
noncomputable def iE:FT (List Segm×List Segm×Unit) (Bool) (λx=>sL aW x.1∧sL aW x.2.1) (λ_ _=>True):= .mk (λ(x0,x1,_)=>
  .u ((x0.length:Int) != (x1.length:Int)) (.r false)<|
  .lp (gz (x0,x1,0,())).lp λw2=> .sum w2 (λ_=>
  .r false)<|
  λ_=>
  .r true) (ot @wE)
noncomputable def Cb:=dm st Tryz.func14 [(0,lb [0,1,5] [4])] [Dq] 0 gz (ks:=[.sc (.sl .segm),.sc (.sl .segm)]) iE rB
noncomputable def ya:=[v7,oo,qT]
def mQ:Sh:=⟨[zp 1 0,zp 2 1,zp 3 2,zi 4],[.box [.st .tabl [.sl .arg,.sl .arg]],.box [.st .tabl [.nil .conn,.nil .tupl]],.box [.st .tabl [.own 3,.nil .tupl]],zf]⟩
def mI:Sh:=⟨[zp 1 0,zp 2 1,zp 3 2,zi 5],[.box [.st .tabl [.sl .arg,.sl .arg]],.box [.st .tabl [.nil .conn,.nil .tupl]],.box [.st .tabl [.own 3,.own 4]],zf,zf]⟩
noncomputable def yu:Fx:=⟨63,Tryz.f63,[(0,la ⟨[1,2,3,4],[.box 3 0 .conn],false,0⟩ ⟨[1,2,3],[],false,0⟩),(2,la ⟨[1,2,3,5],[.box 3 1 .tupl],false,0⟩ ⟨[2,3],[],false,0⟩),(3000005,rA 0 31)],0⟩
noncomputable def qs (v1:Tabl)(v0:Int)(a:Tabl×Tabl):Tr (Stp (Tabl×Tabl) (Empty)):=
 .bnd (β:=Bool×Unit) (.grd (aY v1.conns v0)<|
  .u ((v1.conns.getD v0.toNat (Ty.zero .conn)).state != 8) (.r (true,()))<|
  .grd (aY v1.conns v0)<|
  .l nC.c (v1.waiting,(v1.conns.getD v0.toNat (Ty.zero .conn)).tuple,()) λc4=>
  .r (c4,())) λ(u5a0,_)=>
 .u u5a0 (.grd (aY v1.conns v0)<|
  .l lf.c ((v1.conns.getD v0.toNat (Ty.zero .conn)),()) λc6=>
  .grd (El a.2.conns 1 208)<|
  .r (.next ((⟨[],[]⟩:Tabl),(⟨(a.2.conns++[c6]),[]⟩:Tabl))))<|
 .r (.next ((⟨[],[]⟩:Tabl),(⟨a.2.conns,[]⟩:Tabl)))
noncomputable def fM:mQ.V→rL mQ (Tabl×Tabl):=λ(v0,v1,v2,v3,_)=>⟨v0,(v2,v3),λv0 a=>(v0,v1,a.1,a.2,()),λv0 _=>(decide (v0<(v1.conns.length:Int))),qs v1,up,1,(Int.toNat ((v1.conns.length:Int)-v0)),Empty.elim,Prod.mk,oN (.exit 0) ⟨[zp 1 0,zp 2 1,zp 3 2],[.box [.st .tabl [.sl .arg,.sl .arg]],.box [.st .tabl [.nil .conn,.nil .tupl]],.box [.st .tabl [.own 3,.nil .tupl]],zf]⟩ (λx=>(v1,(⟨[],[]⟩:Tabl),(⟨x.2.2.conns,[]⟩:Tabl),()))⟩
theorem Fz:LS Tryz.prog yu [0] (ji 0 mQ fM):=dW st (aL ya) _ fM [] trivial
theorem FC {v0:Int}{v1 v2 v3:Tabl}(h0:0≤v0)(h1:(v1.conns.length:Int)≤4611686018427387904)(h2:aF v1)(h3:aF v2∧(v3.conns.length:Int)≤v0∧cI ae v3.conns∧sS v3.waiting):(fM (v0,v1,v2,v3,())).U (v1.conns.length:Int) (λv0 a=>aF a.1∧(a.2.conns.length:Int)≤v0∧cI ae a.2.conns∧sS a.2.waiting) (λ_=>True):=
 iT (a:=(v2,v3)) h0 h1 h3
noncomputable def qk (v1:Tabl)(v0:Int)(a:Tabl×Tabl):Tr (Stp (Tabl×Tabl) (Empty)):=
 .grd (aY v1.waiting v0)<|
 .l hP.c (v1,(v1.waiting.getD v0.toNat (Ty.zero .tupl)),()) λc9=>
 .u (decide (0≤c9)) (.grd (aY v1.waiting v0)<|
  .grd (El a.2.waiting 1 24)<|
  .r (.next ((⟨[],[]⟩:Tabl),(⟨a.2.conns,(a.2.waiting++[(v1.waiting.getD v0.toNat (Ty.zero .tupl))])⟩:Tabl))))<|
 .r (.next ((⟨[],[]⟩:Tabl),a.2))
noncomputable def fP:mI.V→rL mI (Tabl×Tabl):=λ(v0,v1,v2,v3,_)=>⟨v0,(v2,v3),λv0 a=>(v0,v1,a.1,a.2,()),λv0 _=>(decide (v0<(v1.waiting.length:Int))),qk v1,up,1,(Int.toNat ((v1.waiting.length:Int)-v0)),Empty.elim,Prod.mk,oN (.exit 2) ⟨[zp 2 0,zp 3 1],[.box [.st .tabl [.nil .conn,.nil .tupl]],.box [.st .tabl [.own 2,.own 3]],zf,zf]⟩ (λx=>((⟨[],[]⟩:Tabl),x.2.2,()))⟩
theorem FA:LS Tryz.prog yu [1] (ji 2 mI fP):=dW st (aL ya) _ fP [] trivial
theorem FK {v0:Int}{v1 v2 v3:Tabl}(h0:0≤v0)(h1:(v1.waiting.length:Int)≤4611686018427387904)(h2:aF v1)(h3:sL ae v3.conns)(h4:aF v2∧v3.conns.length=v3.conns.length∧cI ae v3.conns∧(v3.waiting.length:Int)≤v0):(fP (v0,v1,v2,v3,())).U (v1.waiting.length:Int) (λv0 a=>aF a.1∧a.2.conns.length=v3.conns.length∧cI ae a.2.conns∧(a.2.waiting.length:Int)≤v0) (λ_=>True):=
 iT (a:=(v2,v3)) h0 h1 h4
noncomputable def Ah:FT (Tabl×Unit) (Tabl) (λx=>aF x.1) (λx v=>aF v):=⟨λ(x0,_)=>
  .lp (fM (0,x0,(⟨[],[]⟩:Tabl),(⟨[],[]⟩:Tabl),())).lp λ(_,_,a7_1)=>
  .lp (fP (0,x0,(⟨[],[]⟩:Tabl),(⟨(⟨a7_1.conns,[]⟩:Tabl).conns,[]⟩:Tabl),())).lp λ(_,_,a10_1)=>
  .r a10_1,
 λ(x0,_) hp=>by
  refine Tr.L (FC ?_ ?_ ?_ ?_) (λ(a7_0,a7_1) _=>Tr.L (FK ?_ ?_ ?_ ?_ ?_) (λ(a10_0,a10_1) _=>Tr.R ?_) (λp=>Empty.elim p)) (λp=>Empty.elim p)
  all_goals ((try simp only[fM,fP,LC.lp,LC.ct,Ct.lp]at*)<;>grind)⟩
noncomputable def Mb:=lh st yu ya [(ji 0 mQ fM),(ji 2 mI fP)] (ks:=[.st .tabl]) Ah (λv=>[(true,Bp (.o true) (.o true) v)]) Tryz.func63 ⟨Fz,FA,trivial⟩
def sW:Sh:=⟨[zl 0 .half,zo 3 0,zi 4],[za .half]⟩
noncomputable def sj (v0:List Half)(v1:Int)(a:List Half):Tr (Stp (List Half) (Empty)):=
 .grd (aY v0 v1)<|
 .d (wD.f ((v0.getD v1.toNat (Ty.zero .half)),())) λc2=>
 .grd (aY a v1)<|
 .r (.next (a.set v1.toNat c2))
noncomputable def gK:sW.V→rL sW (List Half):=λ(v0,v1,v2,_)=>⟨v1,v2,λv1 a=>(v0,v1,a,()),λv1 _=>(decide (v1<(v0.length:Int))),sj v0,up,1,(Int.toNat ((v0.length:Int)-v1)),Empty.elim,Prod.mk,oN (.exit 0) ⟨[zu 2,zo 3 0],[za .half]⟩ (λx=>(x.2,()))⟩
theorem AV {v0 v2:List Half}{v1:Int}(h0:0≤v1)(h1:(v0.length:Int)≤4611686018427387904)(h2:sS v0)(h3:sS v2)(h4:v2.length=v2.length∧(v0.length:Int)≤(v2.length:Int)):(gK (v0,v1,v2,())).U (v0.length:Int) (λv1 a=>a.length=v2.length∧(v0.length:Int)≤(a.length:Int)) (λ_=>True):=
 iT (a:=v2) h0 h1 h4
noncomputable def ub:FT (List Half×Unit) (List Half) (λx=>sS x.1) (λx v=>sS v):=⟨λ(x0,_)=>
  .grd ((((decide (0≤(x0.length:Int)))&&(decide ((x0.length:Int)=(x0.length:Int))))&&(decide ((x0.length:Int)*96≤(aD:Int))))&&(decide ((x0.length:Int)≤(aD:Int))))<|
  .d (List.replicate ((x0.length:Int).toNat) (⟨⟨0,0,0⟩,0,0,⟨0,0,false,false,0,0⟩,0,0⟩:Half)) λl1=>
  .lp (gK (x0,0,l1,())).lp λ(_,a3_0)=>
  .r a3_0,
 λ(x0,_) hp=>by
  refine Tr.G4 ?_ λ_=>Tr.V λ_ _=>Tr.L (AV ?_ ?_ ?_ ?_ ?_) (λa3_0 _=>Tr.R ?_) (λp=>Empty.elim p)
  all_goals ((try simp only[gK,LC.lp,LC.ct,Ct.lp]at*)<;>grind)⟩
noncomputable def IR:=dm az Tryz.func66 [(0,lb [0,3,4] [2,3])] [Kj] 0 gK (ks:=[.sc (.sl .half)]) ub (λv=>[(false,[sc (.o true) .half v])])
def rY:Sh:=⟨[zl 0 .half,zl 1 .half,zi 5],[]⟩
noncomputable def ta (v0 v1:List Half)(v2:Int)(a:Unit):Tr (Stp (Unit) ((Unit))):=
 .grd (aY v0 v2)<|
 .grd (aY v1 v2)<|
 .d (xl.f ((v0.getD v2.toNat (Ty.zero .half)),(v1.getD v2.toNat (Ty.zero .half)),())) λc1=>
 .u (!c1) (.r (.out ()))<|
 .r (.next ())
noncomputable def kw:rY.V→nB rY Unit (Unit):=λ(v0,v1,v2,_)=>⟨v2,(),λv2 _=>(v0,v1,v2,()),λv2 _=>(decide (v2<(v0.length:Int))),ta v0 v1,up,1,(Int.toNat ((v0.length:Int)-v2)),.inl,eR,oB .ret ⟨[zb 4],[]⟩ (λ_=>(false,())) (.exit 0) ⟨[zu 4],[]⟩ (λ_=>())⟩
theorem AH {v0 v1:List Half}{v2:Int}(h0:0≤v2)(h1:(v0.length:Int)≤4611686018427387904)(h2:(v0.length:Int)≤(v1.length:Int)):(kw (v0,v1,v2,())).U (v0.length:Int) (λ_ _=>True) (λ_=>True):=
 iT h0 h1 trivial
noncomputable def ua:FT (List Half×List Half×Unit) (Bool) (λx=>sS x.1∧sS x.2.1) (λ_ _=>True):= .mk (λ(x0,x1,_)=>
  .u ((x0.length:Int) != (x1.length:Int)) (.r false)<|
  .lp (kw (x0,x1,0,())).lp λw2=> .sum w2 (λ_=>
  .r false)<|
  λ_=>
  .r true) (ot @AH)
noncomputable def G6:=dm st Tryz.func71 [(0,lb [0,1,5] [4])] [JD] 0 kw (ks:=[.sc (.sl .half),.sc (.sl .half)]) ua rB
noncomputable def p7:FT (Keys×Int×Unit) (Int×List MacRow×List MacRow) (λx=>eY x.1∧x.2.1≤9223372036854775807) (λx v=>sL aj v.2.1∧sL aj v.2.2∧v.1≤9223372036854775807):= .mk λ(x0,x1,_)=>
  .l tM.c (x0.now,x1,()) λc1=>
  .l tM.c (x0.before,c1.1,()) λc2=>
  .r (c2.1,c1.2,c2.2)
noncomputable def Gx:=jT st ⟨74,Tryz.f74,[],2⟩ [HQ] [] [.wr true [.c (.int .i64),.c .bool,.c (.int .u64),.c (.int .u64),.own 0,.c .bool,.c (.int .u64),.c (.int .u64),.own 1,.c .bool],.sc (.int .i64)] [.arr .macRow,.arr .macRow] (λx y=>((⟨x.1.1,⟨x.1.2.1,x.1.2.2.1,x.1.2.2.2.1,y.1⟩,⟨x.1.2.2.2.2.1,x.1.2.2.2.2.2.1,x.1.2.2.2.2.2.2.1,y.2.1⟩,x.1.2.2.2.2.2.2.2.1⟩:Keys),x.2.1,())) p7 (λv=>[(false,[.c (.int .i64 v.1)])]) (λx y v=>(v.2.1,v.2.2,())) Tryz.func74 (by kernel_rfl) trivial
noncomputable def om:FT (Tabl×Int×Unit) (Int×List Conn×List Tupl) (λx=>aF x.1∧x.2.1≤9223372036854775807) (λx v=>sL ae v.2.1∧sS v.2.2∧v.1≤9223372036854775807):= .mk λ(x0,x1,_)=>
  .l oT.c (x0.conns,x1,()) λc1=>
  .l mJ.c (x0.waiting,c1.1,()) λc2=>
  .r (c2.1,c1.2,c2.2)
noncomputable def D0:=jT st ⟨76,Tryz.f76,[],2⟩ [DI,BR] [] [.wr true [.down 0,.own 1],.sc (.int .i64)] [.dar .conn,.arr .tupl] (λx y=>((⟨y.1,y.2.1⟩:Tabl),x.2.1,())) om (λv=>[(false,[.c (.int .i64 v.1)])]) (λx y v=>(v.2.1,v.2.2,())) Tryz.func76 (by kernel_rfl) trivial
noncomputable def pW:FT (Keys×Int×Unit) (Int) (λx=>eY x.1∧x.2.1≤9223372036854775807) (λx v=>v≤9223372036854775807):= .mk λ(x0,x1,_)=>
  .l tX.c (x0.now,x1,()) λc1=>
  .u (decide (c1<0)) (.r (-1))<|
  .l tX.c (x0.before,c1,()) λc2=>
  .u (decide (c2<0)) (.r (-1))<|
  .r c2
noncomputable def FM:=bu st Tryz.func78 [Ii] (ks:=[.st .keys,.sc (.int .i64)]) pW rI
noncomputable def o7:FT (Tabl×Int×Unit) (Int) (λx=>aF x.1∧x.2.1≤9223372036854775807) (λx v=>v≤9223372036854775807):= .mk λ(x0,x1,_)=>
  .l oY.c (x0.conns,x1,()) λc1=>
  .u (decide (c1<0)) (.r (-1))<|
  .l mU.c (x0.waiting,c1,()) λc2=>
  .u (decide (c2<0)) (.r (-1))<|
  .r c2
noncomputable def DW:=bu st Tryz.func80 [DQ,AO] (ks:=[.st .tabl,.sc (.int .i64)]) o7 rI
noncomputable def xr:FT (Link×Unit) (Link) (λx=>gu x.1) (λx v=>gu v):= .mk λ(x0,_)=>
  .l qd.c (x0.cache,()) λc1=>
  .r ({x0 with cache:=c1}:Link)
noncomputable def Kf:=bu az Tryz.func86 [FP] (ks:=[.st .link]) xr (λv=>[(true,JE (.o true) v)])
noncomputable def xb:FT (Link×Link×Unit) (Bool) (λx=>gu x.1∧gu x.2.1) (λ_ _=>True):= .mk λ(x0,x1,_)=>
  .u (x0.mac != x1.mac) (.r false)<|
  .u (x0.ip != x1.ip) (.r false)<|
  .l qD.c (x0.cache,x1.cache,()) λc1=>
  .u (!c1) (.r false)<|
  .r true
noncomputable def Kp:=bu st Tryz.func91 [Gm] (ks:=[.st .link,.st .link]) xb rB
noncomputable def eT:FX (Mac×Int×Unit) (Int) (λ_=>True) (bP [.st .mac,.sc (.int .i64)]):=⟨λ(x0,x1,_)=>
  .l cj.c (x0.rows,x1,()) λc1=>
  .u (decide (c1<0)) (.r (-1))<|
  .r c1,
 λ(x0,x1,_) hp hf=>by
  simp only[bP,Pk.fact,gd,eo,Fl.fact,Ty.fl,Ty.toH]at hf
  refine Tr.C trivial λ_ _ _=>Tr.F (by kernel_rfl) trivial⟩
theorem QH (x:Mac)(hl:x.rows.length≤140737488355328)(he:yN .macRow x.rows)(h:0≤eT.f (x,1048576,())):dS x∧x.rows.length≤1048576:=by
 have e:eT.f (x,1048576,())=bif decide (cj.f (x.rows,1048576,())<0)then-1 else cj.f (x.rows,1048576,()):=by simp only[FX.f,PX,eT]
 rw[e]at h
 have:0≤cj.f (x.rows,1048576,()):=by
  by_cases c:cj.f (x.rows,1048576,())<0
  ·rw[decide_eq_true c,cond_true]at h;omega
  ·omega
 have h2:=Gw x.rows 1048576 (by omega) (by omega) hl he this
 exact⟨by unfold dS;exact h2.1,h2.2⟩
theorem KV (x:Mac)(k:Int)(h0:0≤k)(h1:k≤1048576)(hl:x.rows.length≤140737488355328)(he:yN .macRow x.rows)(h:0≤eT.f (x,k,())):eT.f (x,k,())≤k∧dS x:=by
 have e:eT.f (x,k,())=(bif decide (cj.f (x.rows,k,())<0)then-1 else cj.f (x.rows,k,())):=by first|(simp only[FX.f,PX,eT];done)|(simp only[FX.f,PX,eT];rfl)
 rw[e]at h⊢
 obtain⟨p0,e0⟩:=iK h
 rw[e0]at h⊢
 have b0:=HV _ _ h0 (by omega) hl he p0
 refine⟨by omega, ?_⟩
 unfold dS
 exact⟨by omega,b0.2.2⟩
noncomputable def LP:=oG st Tryz.func94 [DL] (ks:=[.st .mac,.sc (.int .i64)]) eT rI
noncomputable def w7:FT (Mac×Unit) (Mac) (λx=>dS x.1) (λx v=>dS v):= .mk λ(x0,_)=>
  .l oM.c (x0.rows,()) λc1=>
  .r ({x0 with rows:=c1}:Mac)
noncomputable def LI:=bu az Tryz.func101 [Dk] (ks:=[.st .mac]) w7 (λv=>[(true,MU (.o true) v)])
noncomputable def wK:FT (Mac×Mac×Unit) (Bool) (λx=>dS x.1∧dS x.2.1) (λ_ _=>True):= .mk λ(x0,x1,_)=>
  .u (!(x0.use==x1.use)) (.r false)<|
  .u (x0.k != x1.k) (.r false)<|
  .u (x0.l != x1.l) (.r false)<|
  .l oW.c (x0.rows,x1.rows,()) λc1=>
  .u (!c1) (.r false)<|
  .r true
noncomputable def Ml:=bu st Tryz.func112 [Dl] (ks:=[.st .mac,.st .mac]) wK rB
def sk:Sh:=⟨[zp 1 0,zp 2 1,zp 3 2,zi 4],[.box [.st .tabl [.sl .arg,.sl .arg]],.box [.st .tabl [.nil .conn,.nil .tupl]],.box [.st .tabl [.own 3,.own 4]],zf,zf]⟩
noncomputable def sX (v1:Tabl)(v0:Int)(a:Tabl×Tabl):Tr (Stp (Tabl×Tabl) (Empty)):=
 .grd (aY v1.conns v0)<|
 .l lf.c ((v1.conns.getD v0.toNat (Ty.zero .conn)),()) λc2=>
 .grd (El a.2.conns 1 208)<|
 .r (.next ((⟨[],[]⟩:Tabl),(⟨(a.2.conns++[c2]),a.2.waiting⟩:Tabl)))
noncomputable def ib:sk.V→rL sk (Tabl×Tabl):=λ(v0,v1,v2,v3,_)=>⟨v0,(v2,v3),λv0 a=>(v0,v1,a.1,a.2,()),λv0 _=>(decide (v0<(v1.conns.length:Int))),sX v1,up,1,(Int.toNat ((v1.conns.length:Int)-v0)),Empty.elim,Prod.mk,oN (.exit 0) ⟨[zp 2 0,zp 3 1],[.box [.st .tabl [.nil .conn,.nil .tupl]],.box [.st .tabl [.own 2,.own 3]],zf,zf]⟩ (λx=>((⟨[],[]⟩:Tabl),x.2.2,()))⟩
theorem Bc {v0:Int}{v1 v2 v3:Tabl}(h0:0≤v0)(h1:(v1.conns.length:Int)≤4611686018427387904)(h2:aF v1)(h3:sS v3.waiting)(h4:aF v2∧(v3.conns.length:Int)=v0∧cI ae v3.conns∧v3.waiting.length=v3.waiting.length):(ib (v0,v1,v2,v3,())).U (v1.conns.length:Int) (λv0 a=>aF a.1∧(a.2.conns.length:Int)=v0∧cI ae a.2.conns∧a.2.waiting.length=v3.waiting.length) (λ_=>True):=
 iT (a:=(v2,v3)) h0 h1 h4
noncomputable def uo:FT (Tabl×Unit) (Tabl) (λx=>aF x.1) (λx v=>aF v∧v.conns.length=x.1.conns.length∧v.waiting.length=x.1.waiting.length):=⟨λ(x0,_)=>
  .grd (Nat.ble ((2*(0+x0.waiting.length)+1024)*24) aD)<|
  .lp (ib (0,x0,(⟨[],[]⟩:Tabl),(⟨[],([]++x0.waiting)⟩:Tabl),())).lp λ(_,_,a3_1)=>
  .r a3_1,
 λ(x0,_) hp=>by
  refine Tr.Gb ?_ λ_=>Tr.L (Bc ?_ ?_ ?_ ?_ ?_) (λ(a3_0,a3_1) _=>Tr.R ?_) (λp=>Empty.elim p)
  all_goals ((try simp only[ib,LC.lp,LC.ct,Ct.lp]at*)<;>grind)⟩
noncomputable def GO:=dm st Tryz.func131 [(0,la ⟨[1,2,3,4],[.box 3 0 .conn],false,0⟩ ⟨[2,3],[],false,0⟩)] [oo] 0 ib (ks:=[.st .tabl]) uo (λv=>[(true,Bp (.o true) (.o true) v)])
def rm:Sh:=⟨[zl 0 .half,zi 3],[]⟩
noncomputable def dD (v0:List Half)(v1:Int)(a:Unit):Tr (Stp (Unit) ((Unit))):=
 .grd (aY v0 v1)<|
 .l pA.c ((v0.getD v1.toNat (Ty.zero .half)).tuple,()) λc1=>
 .u (!c1) (.r (.out ()))<|
 .l aC.c ((v0.getD v1.toNat (Ty.zero .half)).iss,32,()) λc2=>
 .u (!c2) (.r (.out ()))<|
 .l aC.c ((v0.getD v1.toNat (Ty.zero .half)).irs,32,()) λc3=>
 .u (!c3) (.r (.out ()))<|
 .l aC.c ((v0.getD v1.toNat (Ty.zero .half)).window,16,()) λc4=>
 .u (!c4) (.r (.out ()))<|
 .l gR.c ((v0.getD v1.toNat (Ty.zero .half)).opts,()) λc5=>
 .u (!c5) (.r (.out ()))<|
 .d (dX.f ((v0.getD v1.toNat (Ty.zero .half)).age,0,6,())) λc6=>
 .u (!c6) (.r (.out ()))<|
 .grd ((decide (0≤v1))&&(decide (v1≤(v0.length:Int))))<|
 .l p6.c (((v0.take v1.toNat).drop 0),(v0.getD v1.toNat (Ty.zero .half)).tuple,()) λc7=>
 .u (decide (0≤c7)) (.r (.out ()))<|
 .r (.next ())
noncomputable def gb:rm.V→nB rm Unit (Unit):=λ(v0,v1,_)=>⟨v1,(),λv1 _=>(v0,v1,()),λv1 _=>(decide (v1<(v0.length:Int))),dD v0,up,1,(Int.toNat ((v0.length:Int)-v1)),.inl,eR,oB .ret ⟨[zl 0 .half,zb 2],[]⟩ (λ_=>(v0,false,())) (.exit 0) ⟨[zl 0 .half,zu 2],[]⟩ (λ_=>(v0,()))⟩
theorem zr {v0:List Half}{v1:Int}(h0:0≤v1)(h1:(v0.length:Int)≤4611686018427387904)(h2:wS v0):(gb (v0,v1,())).U (v0.length:Int) (λ_ _=>True) (λ_=>True):=
 iT h0 h1 trivial
noncomputable def nK:FT (List Half×Unit) (Bool) (λx=>wS x.1) (λx v=>(v=true→x.1.length≤64)):= .mk (λ(x0,_)=>
  .lp (gb (x0,0,())).lp λw8=> .sum w8 (λ_=>
  .r false)<|
  λ_=>
  .r (decide ((x0.length:Int)≤64))) (ot @zr)
noncomputable def Gl:=dm st Tryz.func135 [(0,lb [0,3] [0,2])] [yz,cP,ll,fx,Gz] 0 gb (ks:=[.sc (.sl .half)]) nK rB
noncomputable def KG:=[yz,mA,Ak,ll,fx,JV]
def Bu:An:=⟨⟨[],[],false,0⟩,⟨[1,2,3],[],false,0⟩,⟨[],[]⟩,[(.normal,⟨[zp 1 0,zb 2,zi 3],[zg .conn]⟩)]⟩
noncomputable def JZ:Fx:=⟨140,Tryz.f140,[(1000055,Bu),(3000001,rA 0 52),(3000010,rA 0 4),(3000011,rA 0 5)],0⟩
noncomputable def nv:FT (Conn×Unit) (Bool) (λx=>ae x.1) (λx v=>(v=true→SO x.1.s∧RO x.1.r)):= .mk λ(x0,_)=>
  .bnd (β:=Bool×Unit) (.as (λw=>(w.1=false→SO x0.s∧RO x0.r)) (.l pA.c (x0.tuple,()) λc1=>
   .u (!c1) (.r (true,()))<|
   .l eK.c (x0.s,()) λc2=>
   .u (!c2) (.r (true,()))<|
   .l mZ.c (x0.r,()) λc3=>
   .u (!c3) (.r (true,()))<|
   .l gR.c (x0.opts,()) λc4=>
   .u (!c4) (.r (true,()))<|
   .d (dX.f (x0.state,1,8,())) λc5=>
   .u (!c5) (.r (true,()))<|
   .d (dX.f (x0.window,0,x0.most,())) λc6=>
   .u (!c6) (.r (true,()))<|
   .u (decide (1073725440<x0.most)) (.r (true,()))<|
   .d (dX.f (x0.tries,0,3,())) λc7=>
   .r ((!c7),()))) λ(u8a0,_)=>
  .u u8a0 (.r false)<|
  .bnd (β:=Bool×Int×Conn×Unit) (.as (λw=>ae w.2.2.1) (.u (x0.state==7) (.r (false,4,x0,()))<|
   .r (false,3,x0,()))) λ(_,u9a1,u9a2,_)=>
  .d (dX.f (u9a2.timer,0,u9a1,())) λc10=>
  .u (!c10) (.r false)<|
  .u (u9a2.state==8) (.r true)<|
  .bnd (β:=Bool×Unit) (.u (u9a2.state==3) (.r (true,()))<|
   .r ((u9a2.state==7),())) λ(u11a0,_)=>
  .bnd (β:=Bool×Unit) (.u (u9a2.state==4) (.r (true,()))<|
   .r ((decide (5≤u9a2.state)),())) λ(u12a0,_)=>
  .d (CG.f (u9a2.state,())) λc13=>
  .u (u9a2.s.fin==c13) (.u (u9a2.s.done==u11a0) (.r (u9a2.r.done==u12a0))<|
   .r false)<|
  .r false
noncomputable def ql:=lh st JZ KG [] (ks:=[.st .conn]) nv rB Tryz.func140 trivial
noncomputable def vV:FT (Conn×Unit) (Segm) (λx=>ae x.1) (λx v=>aW v):= .mk λ(x0,_)=>
  .l tc.c (x0.s,()) λc1=>
  .l nI.c (x0.r,()) λc2=>
  .d (rV.f (())) λc3=>
  .r (⟨x0.tuple.my,x0.tuple.port,c1,x0.r.next,16,c2,c3,[]⟩:Segm)
noncomputable def EB:=bu st Tryz.func141 [CX,wb,Dn] (ks:=[.st .conn]) vV (λv=>[(true,M6 v)])
noncomputable def tZ:FT (Sndr×Unit) (Sndr) (λx=>d8 x.1) (λx v=>d8 v):= .mk λ(x0,_)=>
  .l eK.c (x0,()) λc1=>
  .u c1 (.r ({x0 with sent:=0,finSent:=false}:Sndr))<|
  .r x0
noncomputable def IG:=bu st Tryz.func142 [mA] (ks:=[.st .sndr]) tZ (λv=>[(true,BE v)])
noncomputable def GQ:=[oo,ql,Jk,Du,EB,Ir]
def n7:Sh:=⟨[zi 1,zp 2 0,zp 4 1,zo 6 2],[zk .conn 3,.box [.st .conn [.nil .piec]],za .segm,zf]⟩
noncomputable def Hh:Fx:=⟨143,Tryz.f143,[(0,lb [1,2,4,6] [4,5]),(3000003,rA 0 25)],0⟩
noncomputable def oO (v0:Int)(a:Conn×Conn×List Segm):Tr (Stp (Conn×Conn×List Segm) ((Conn×List Segm))):=
 .d (wB.f (a.1,())) λc4=>
 .l oA.c (a.1.s,v0,c4,()) λc5=>
 .u (!c5.2) (.r (.out (a.1,a.2.2)))<|
 .l vV.c (a.1,()) λc6=>
 .u (!(c5.1.text==[])) (.u c5.1.fin (.grd (El a.2.2 1 104)<|
   .d (a.2.2++[({c6 with seq:=c5.1.seq,flags:=(bits .or .i64 (bits .or .i64 c6.flags 8) 1),body:=c5.1.text}:Segm)]) λl7=>
   .l kZ.c (a.1.s,c5.1,()) λc8=>
   .u (a.1.timer==0) (.r (.next ((⟨a.1.tuple,a.1.state,c8,a.1.r,a.1.window,a.1.most,a.1.opts,3,a.1.tries⟩:Conn),({a.2.1 with r.held:=[]}:Conn),l7)))<|
   .r (.next (({a.1 with s.una:=c8.una,s.data:=c8.data,s.sent:=c8.sent,s.fin:=c8.fin,s.finSent:=c8.finSent,s.done:=c8.done}:Conn),({a.2.1 with r.held:=[]}:Conn),l7)))<|
  .grd (El a.2.2 1 104)<|
  .d (a.2.2++[({c6 with seq:=c5.1.seq,flags:=(bits .or .i64 c6.flags 8),body:=c5.1.text}:Segm)]) λl9=>
  .l kZ.c (a.1.s,c5.1,()) λc10=>
  .u (a.1.timer==0) (.r (.next ((⟨a.1.tuple,a.1.state,c10,a.1.r,a.1.window,a.1.most,a.1.opts,3,a.1.tries⟩:Conn),({a.2.1 with r.held:=[]}:Conn),l9)))<|
  .r (.next (({a.1 with s.una:=c10.una,s.data:=c10.data,s.sent:=c10.sent,s.fin:=c10.fin,s.finSent:=c10.finSent,s.done:=c10.done}:Conn),({a.2.1 with r.held:=[]}:Conn),l9)))<|
 .u c5.1.fin (.grd (El a.2.2 1 104)<|
  .d (a.2.2++[({c6 with seq:=c5.1.seq,flags:=(bits .or .i64 c6.flags 1),body:=c5.1.text}:Segm)]) λl11=>
  .l kZ.c (a.1.s,c5.1,()) λc12=>
  .u (a.1.timer==0) (.r (.next ((⟨a.1.tuple,a.1.state,c12,a.1.r,a.1.window,a.1.most,a.1.opts,3,a.1.tries⟩:Conn),({a.2.1 with r.held:=[]}:Conn),l11)))<|
  .r (.next (({a.1 with s.una:=c12.una,s.data:=c12.data,s.sent:=c12.sent,s.fin:=c12.fin,s.finSent:=c12.finSent,s.done:=c12.done}:Conn),({a.2.1 with r.held:=[]}:Conn),l11)))<|
 .grd (El a.2.2 1 104)<|
 .l kZ.c (a.1.s,c5.1,()) λc13=>
 .u (a.1.timer==0) (.r (.next ((⟨a.1.tuple,a.1.state,c13,a.1.r,a.1.window,a.1.most,a.1.opts,3,a.1.tries⟩:Conn),({a.2.1 with r.held:=[]}:Conn),(a.2.2++[({c6 with seq:=c5.1.seq,body:=c5.1.text}:Segm)]))))<|
 .r (.next (({a.1 with s.una:=c13.una,s.data:=c13.data,s.sent:=c13.sent,s.fin:=c13.fin,s.finSent:=c13.finSent,s.done:=c13.done}:Conn),({a.2.1 with r.held:=[]}:Conn),(a.2.2++[({c6 with seq:=c5.1.seq,body:=c5.1.text}:Segm)])))
noncomputable def jK:n7.V→LW n7 (Conn×Conn×List Segm) ((Conn×List Segm)):=λ(v0,v1,v2,v3,_)=>⟨(v1,v2,v3),λa=>(v0,a.1,a.2.1,a.2.2,()),oO v0,Dz v1.s,oN .ret ⟨[zp 4 0,zo 5 1],[zk .conn 2,za .segm,zf]⟩ (λp=>(p.1,p.2,()))⟩
set_option maxHeartbeats 4000000 in
theorem IY:LS Tryz.prog Hh [0] (Qz 0 n7 jK):=PE st (aL GQ) _ jK [] trivial
theorem HK {v0:Int}{v1 v2:Conn}{v3:List Segm}(h0:ae v1∧ae v2∧sL aW v3∧v3.length+Dz v1.s≤49):(jK (v0,v1,v2,v3,())).W (λp=>ae p.1∧sL aW p.2∧p.2.length≤49):=
 LW.okW (a:=(v1,v2,v3)) (λa=>ae a.1∧ae a.2.1∧sL aW a.2.2∧a.2.2.length+Dz a.1.s≤49) (λa=>Dz a.1.s) rfl h0 λ(v1,v2,v3) hv=>by
  refine Tr.V λc4 hc4=>Tr.C ?_ λc5 hc5 qc5=>Tr.I (λb0=>Tr.Ro ?_) λb0=>Tr.C ?_ λc6 hc6 qc6=>Tr.I (λb1=>Tr.I (λb2=>Tr.Gb ?_ λg3=>Tr.V λl7 hl7=>Tr.C ?_ λc8 hc8 qc8=>Tr.I (λb4=>Tr.Rn ?_) λb4=>Tr.Rn ?_) λb2=>Tr.Gb ?_ λg3=>Tr.V λl9 hl9=>Tr.C ?_ λc10 hc10 qc10=>Tr.I (λb4=>Tr.Rn ?_) λb4=>Tr.Rn ?_) λb1=>Tr.I (λb2=>Tr.Gb ?_ λg3=>Tr.V λl11 hl11=>Tr.C ?_ λc12 hc12 qc12=>Tr.I (λb4=>Tr.Rn ?_) λb4=>Tr.Rn ?_) λb2=>Tr.Gb ?_ λg3=>Tr.C ?_ λc13 hc13 qc13=>Tr.I (λb4=>Tr.Rn ?_) λb4=>Tr.Rn ?_
  all_goals ((first|grind|(have tl:∀s:ah,s=[]∨0<s.length:=(λs=>by cases s<;>simp);grind)))
noncomputable def GH:FT (Conn×Int×Unit) (Conn×List Segm) (λx=>ae x.1) (λx v=>ae v.1∧sL aW v.2∧v.2.length≤49):= .mk (λ(x0,x1,_)=>
  .l lf.c (x0,()) λc1=>
  .bnd (β:=Bool×Unit) (.as (λw=>(w.1=false→SO c1.s∧RO c1.r)) (.l nv.c (c1,()) λc2=>
   .u (!c2) (.r (true,()))<|
   .u (c1.state==8) (.r (true,()))<|
   .r ((c1.state==7),()))) λ(u3a0,_)=>
  .u u3a0 (.r (c1,[]))<|
  .lp (jK (x1,c1,(⟨⟨0,0,0⟩,0,⟨0,[],0,false,false,false⟩,⟨0,[],[],0,false⟩,0,0,⟨0,0,false,false,0,0⟩,0,0⟩:Conn),[],())).lp λ(p14a0,p14a1)=>
  .r (p14a0,p14a1)) (ot @HK)
noncomputable def NR:=lh st Hh GQ [(Qz 0 n7 jK)] (ks:=[.st .conn,.sc (.int .i64)]) GH (λv=>[(true,vr (.o true) v.1),(false,[sc (.o true) .segm v.2])]) Tryz.func143 ⟨IY,trivial⟩
noncomputable def sU:FT (Link×Unit) (Bool) (λx=>gu x.1) (λ_ _=>True):= .mk λ(x0,_)=>
  .l aC.c (x0.mac,48,()) λc1=>
  .u c1 (.u (x0.mac != 281474976710655) (.l aC.c (x0.ip,32,()) λc2=>
    .u c2 (.l tU.c (x0.cache,()) λc3=>
     .r c3)<|
    .r false)<|
   .r false)<|
  .r false
noncomputable def CH:=bu st Tryz.func165 [cP,GN] (ks:=[.st .link]) sU rB
noncomputable def gh:FT (Link×Unit) (Bool) (λx=>gu x.1) (λ_ _=>True):= .mk λ(x0,_)=>
  .l aa.c (x0.mac,48,()) λc1=>
  .u c1 (.u (x0.mac != 281474976710655) (.l aa.c (x0.ip,32,()) λc2=>
    .u c2 (.l li.c (x0.cache,()) λc3=>
     .r c3)<|
    .r false)<|
   .r false)<|
  .r false
noncomputable def Br:=bu az Tryz.func170 [cQ,Hy] (ks:=[.st .link]) gh rB
noncomputable def bO:FT (Segm×Int×Int×Unit) (ah) (λx=>aW x.1) (λx v=>sS v∧v.length≤1500):=⟨λ(x0,x1,x2,_)=>
  .l bk.c (x0,()) λc1=>
  .u (!c1) (.r [])<|
  .l bN.c (x0.opts,()) λc2=>
  .d (IntKind.wrap .i64 ((IntKind.wrap .i64 (20+(c2.length:Int)))+(x0.body.length:Int))) λe3=>
  .l ey.c (x1,x2,e3,()) λc4=>
  .u (c4==[]) (.r [])<|
  .l av.c (x0.from_,2,()) λc5=>
  .l av.c (x0.to,2,()) λc6=>
  .grd (Nat.ble (c5.length+c6.length) ak)<|
  .l av.c (x0.seq,4,()) λc7=>
  .grd (Nat.ble ((c5++c6).length+c7.length) ak)<|
  .l av.c (x0.ack,4,()) λc8=>
  .grd (Nat.ble (((c5++c6)++c7).length+c8.length) ak)<|
  .d (IntKind.wrap .i64 ((IntKind.wrap .i64 (20+(c2.length:Int))).tdiv 4)) λe9=>
  .l av.c ((IntKind.wrap .i64 (e9*16)),1,()) λc10=>
  .grd (Nat.ble ((((c5++c6)++c7)++c8).length+c10.length) ak)<|
  .l av.c (x0.flags,1,()) λc11=>
  .grd (Nat.ble (((((c5++c6)++c7)++c8)++c10).length+c11.length) ak)<|
  .l av.c (x0.window,2,()) λc12=>
  .grd (Nat.ble ((((((c5++c6)++c7)++c8)++c10)++c11).length+c12.length) ak)<|
  .grd (Nat.ble (2+c2.length) ak)<|
  .grd (Nat.ble (([0,0]++c2).length+x0.body.length) ak)<|
  .grd (Nat.ble (c4.length+((((((c5++c6)++c7)++c8)++c10)++c11)++c12).length) ak)<|
  .grd (Nat.ble ((c4++((((((c5++c6)++c7)++c8)++c10)++c11)++c12)).length+2) ak)<|
  .d ((c4++((((((c5++c6)++c7)++c8)++c10)++c11)++c12))++[0,0]) λe13=>
  .grd (Nat.ble (e13.length+(([0,0]++c2)++x0.body).length) ak)<|
  .l qr.c ((e13++(([0,0]++c2)++x0.body)),()) λc14=>
  .l av.c (c14,2,()) λc15=>
  .grd (Nat.ble (((((((c5++c6)++c7)++c8)++c10)++c11)++c12).length+c15.length) ak)<|
  .grd (Nat.ble ((((((((c5++c6)++c7)++c8)++c10)++c11)++c12)++c15).length+(([0,0]++c2)++x0.body).length) ak)<|
  .d ((((((((c5++c6)++c7)++c8)++c10)++c11)++c12)++c15)++(([0,0]++c2)++x0.body)) λe16=>
  .r e16,
 λ(x0,x1,x2,_) hp=>by
  refine Tr.C trivial λc1 hc1 qc1=>Tr.I (λb0=>Tr.R ?_) λb0=>Tr.C trivial λc2 hc2 qc2=>Tr.V λe3 he3=>Tr.C trivial λc4 hc4 qc4=>Tr.I (λb1=>Tr.R ?_) λb1=>Tr.C trivial λc5 hc5 qc5=>Tr.C trivial λc6 hc6 qc6=>Tr.Gb ?_ λg2=>Tr.C trivial λc7 hc7 qc7=>Tr.Gb ?_ λg3=>Tr.C trivial λc8 hc8 qc8=>Tr.Gb ?_ λg4=>Tr.V λe9 he9=>Tr.C trivial λc10 hc10 qc10=>Tr.Gb ?_ λg5=>Tr.C trivial λc11 hc11 qc11=>Tr.Gb ?_ λg6=>Tr.C trivial λc12 hc12 qc12=>Tr.Gb ?_ λg7=>Tr.Gb ?_ λg8=>Tr.Gb ?_ λg9=>Tr.Gb ?_ λg10=>Tr.Gb ?_ λg11=>Tr.V λe13 he13=>Tr.Gb ?_ λg12=>Tr.C ?_ λc14 hc14 qc14=>Tr.C trivial λc15 hc15 qc15=>Tr.Gb ?_ λg13=>Tr.Gb ?_ λg14=>Tr.V λe16 he16=>Tr.R ?_
  all_goals ((first|(simp only[List.length_append,List.length_cons,List.length_nil,ak,sS]at*;omega)|grind))⟩
noncomputable def ze:=bu az Tryz.func171 [Dc,zD,Bt,lJ,Es] (ks:=[.st .segm,.sc (.int .i64),.sc (.int .i64)]) bO (λv=>[(false,[.c (.str v)])])
noncomputable def GU:=[Hi,Cj,Br,DR]
noncomputable def H0:Fx:=⟨172,Tryz.f172,[(3000003,rA 0 35)],0⟩
noncomputable def gi:FT (Link×Int×ah×Unit) (ah×Bool) (λx=>gu x.1∧sS x.2.2.1) (λx v=>sS v.1):= .mk λ(x0,x1,x2,_)=>
  .l vv.c (x0.cache,x1,()) λc1=>
  .l mF.c ((⟨x0.ip,x1,64,6,0,x2⟩:Pack),()) λc2=>
  .bnd (β:=Bool×Unit) (.l gh.c (x0,()) λc3=>
   .u (!c3) (.r (true,()))<|
   .u (!c1.2) (.r (true,()))<|
   .r ((c2==[]),())) λ(u4a0,_)=>
  .u u4a0 (.r ([],false))<|
  .l oX.c ((⟨c1.1,x0.mac,2048,c2⟩:Fram),()) λc5=>
  .r (c5,(!(c5==[])))
noncomputable def I5:=lh az H0 GU [] (ks:=[.st .link,.sc (.int .i64),.sc .str]) gi (λv=>[(false,[.c (.str v.1)]),(false,[.c (.bool v.2)])]) Tryz.func172 trivial
noncomputable def jN:FT (Conn×Unit) (Conn) (λx=>ae x.1) (λx v=>ae v∧v=x.1):=⟨λ(x0,_)=>
  .l jd.c (x0.r,()) λc1=>
  .r ({x0 with r.next:=c1.next,r.data:=c1.data,r.held:=c1.held,r.fin:=c1.fin,r.done:=c1.done}:Conn),
 λ(x0,_) hp=>by
  refine Tr.C ?_ λc1 hc1 qc1=>Tr.R ?_
  all_goals ((first|grind|(refine⟨by grind, ?_⟩;first|(simp only[List.nil_append];done)|(subst_vars;rfl)|simp_all)))⟩
noncomputable def pd:=bu az Tryz.func210 [wG] (ks:=[.st .conn]) jN (λv=>[(true,vr (.o true) v)])
noncomputable def n5:FT (Keys×Unit) (Keys) (λx=>eY x.1) (λx v=>eY v∧v=x.1):=⟨λ(x0,_)=>
  .l n3.c (x0.now,()) λc1=>
  .l n3.c (x0.before,()) λc2=>
  .r (⟨x0.epoch,c1,c2,x0.two⟩:Keys),
 λ(x0,_) hp=>by
  refine Tr.C ?_ λc1 hc1 qc1=>Tr.C ?_ λc2 hc2 qc2=>Tr.R ?_
  all_goals ((first|grind|(refine⟨by grind, ?_⟩;first|(simp only[List.nil_append];done)|(subst_vars;rfl)|simp_all)))⟩
noncomputable def DK:=bu az Tryz.func249 [F4] (ks:=[.st .keys]) n5 (λv=>[(true,Kh (.o true) (.o true) v)])
noncomputable def j4:FT (Conn×Unit) (Bool) (λx=>ae x.1) (λ_ _=>True):= .mk λ(x0,_)=>
  .l cm.c (x0,()) λc1=>
  .u c1 (.u (x0.state==7) (.r true)<|
   .u (x0.state != 8) (.d (vP.f (x0,())) λc2=>
    .r c2)<|
   .r false)<|
  .r false
noncomputable def L2:=bu az Tryz.func257 [qt,JO] (ks:=[.st .conn]) j4 rB
noncomputable def cN:FT (Conn×Unit) (Segm) (λx=>ae x.1) (λx v=>aW v):= .mk λ(x0,_)=>
  .l gW.c (x0.s,()) λc1=>
  .l cb.c (x0.r,()) λc2=>
  .d (oE.f (())) λc3=>
  .r (⟨x0.tuple.my,x0.tuple.port,c1,x0.r.next,16,c2,c3,[]⟩:Segm)
noncomputable def E2:=bu az Tryz.func259 [AD,xq,DG] (ks:=[.st .conn]) cN (λv=>[(true,M6 v)])
def y4:Sh:=⟨[zi 1,zp 4 0,zp 6 1,zo 7 2],[.box [.st .conn [.nil .piec]],zk .conn 3,za .segm,zf]⟩
noncomputable def cp (v0:Int)(a:Conn×Conn×List Segm):Tr (Stp (Conn×Conn×List Segm) ((Conn×Conn×List Segm))):=
 .d (eH.f (a.2.1,())) λc4=>
 .l bh.c (a.2.1.s,v0,c4,()) λc5=>
 .u (!c5.2) (.r (.out (({a.1 with r.held:=[]}:Conn),a.2.1,a.2.2)))<|
 .l cN.c (a.2.1,()) λc6=>
 .u (!(c5.1.text==[])) (.u c5.1.fin (.grd (El a.2.2 1 104)<|
   .d (a.2.2++[({c6 with seq:=c5.1.seq,flags:=(bits .or .i64 (bits .or .i64 c6.flags 8) 1),body:=c5.1.text}:Segm)]) λl7=>
   .l cl.c (a.2.1.s,c5.1,()) λc8=>
   .r (.next (({a.1 with r.held:=[]}:Conn),({a.2.1 with s.una:=c8.una,s.data:=c8.data,s.sent:=c8.sent,s.fin:=c8.fin,s.finSent:=c8.finSent,s.done:=c8.done}:Conn),l7)))<|
  .grd (El a.2.2 1 104)<|
  .d (a.2.2++[({c6 with seq:=c5.1.seq,flags:=(bits .or .i64 c6.flags 8),body:=c5.1.text}:Segm)]) λl9=>
  .l cl.c (a.2.1.s,c5.1,()) λc10=>
  .r (.next (({a.1 with r.held:=[]}:Conn),({a.2.1 with s.una:=c10.una,s.data:=c10.data,s.sent:=c10.sent,s.fin:=c10.fin,s.finSent:=c10.finSent,s.done:=c10.done}:Conn),l9)))<|
 .u c5.1.fin (.grd (El a.2.2 1 104)<|
  .d (a.2.2++[({c6 with seq:=c5.1.seq,flags:=(bits .or .i64 c6.flags 1),body:=c5.1.text}:Segm)]) λl11=>
  .l cl.c (a.2.1.s,c5.1,()) λc12=>
  .r (.next (({a.1 with r.held:=[]}:Conn),({a.2.1 with s.una:=c12.una,s.data:=c12.data,s.sent:=c12.sent,s.fin:=c12.fin,s.finSent:=c12.finSent,s.done:=c12.done}:Conn),l11)))<|
 .grd (El a.2.2 1 104)<|
 .l cl.c (a.2.1.s,c5.1,()) λc13=>
 .r (.next (({a.1 with r.held:=[]}:Conn),({a.2.1 with s.una:=c13.una,s.data:=c13.data,s.sent:=c13.sent,s.fin:=c13.fin,s.finSent:=c13.finSent,s.done:=c13.done}:Conn),(a.2.2++[({c6 with seq:=c5.1.seq,body:=c5.1.text}:Segm)])))
noncomputable def jJ:y4.V→LW y4 (Conn×Conn×List Segm) ((Conn×Conn×List Segm)):=λ(v0,v1,v2,v3,_)=>⟨(v1,v2,v3),λa=>(v0,a.1,a.2.1,a.2.2,()),cp v0,Dz v2.s,oN (.exit 0) ⟨[zp 4 0,zu 5,zp 6 1,zo 7 2],[.box [.st .conn [.nil .piec]],zk .conn 3,za .segm,zf]⟩ (λp=>(p.1,p.2.1,p.2.2,()))⟩
theorem Hk {v0:Int}{v1 v2:Conn}{v3:List Segm}(h0:ae v1∧ae v2∧sL aW v3∧v3.length+Dz v2.s≤49):(jJ (v0,v1,v2,v3,())).W (λp=>ae p.1∧ae p.2.1∧sL aW p.2.2∧p.2.2.length≤49):=
 LW.okW (a:=(v1,v2,v3)) (λa=>ae a.1∧ae a.2.1∧sL aW a.2.2∧a.2.2.length+Dz a.2.1.s≤49) (λa=>Dz a.2.1.s) rfl h0 λ(v1,v2,v3) hv=>by
  refine Tr.V λc4 hc4=>Tr.C ?_ λc5 hc5 qc5=>Tr.I (λb0=>Tr.Ro ?_) λb0=>Tr.C ?_ λc6 hc6 qc6=>Tr.I (λb1=>Tr.I (λb2=>Tr.Gb ?_ λg3=>Tr.V λl7 hl7=>Tr.C ?_ λc8 hc8 qc8=>Tr.Rn ?_) λb2=>Tr.Gb ?_ λg3=>Tr.V λl9 hl9=>Tr.C ?_ λc10 hc10 qc10=>Tr.Rn ?_) λb1=>Tr.I (λb2=>Tr.Gb ?_ λg3=>Tr.V λl11 hl11=>Tr.C ?_ λc12 hc12 qc12=>Tr.Rn ?_) λb2=>Tr.Gb ?_ λg3=>Tr.C ?_ λc13 hc13 qc13=>Tr.Rn ?_
  all_goals ((first|grind|(have tl:∀s:ah,s=[]∨0<s.length:=(λs=>by cases s<;>simp);grind)))
noncomputable def o9:FT (Conn×Int×Unit) (Conn×List Segm) (λx=>ae x.1) (λx v=>ae v.1∧sL aW v.2∧v.2.length≤49):= .mk (λ(x0,x1,_)=>
  .l jN.c (x0,()) λc1=>
  .bnd (β:=Bool×Unit) (.as (λw=>(w.1=false→SO x0.s∧RO x0.r)) (.l cm.c (x0,()) λc2=>
   .u (!c2) (.r (true,()))<|
   .u (x0.state==8) (.r (true,()))<|
   .r ((x0.state==7),()))) λ(u3a0,_)=>
  .u u3a0 (.r (c1,[]))<|
  .lp (jJ (x1,(⟨⟨0,0,0⟩,0,⟨0,[],0,false,false,false⟩,⟨0,[],[],0,false⟩,0,0,⟨0,0,false,false,0,0⟩,0,0⟩:Conn),c1,[],())).lp λ(_,p14a1,p14a2)=>
  .bnd (β:=Bool×Unit) (.u (decide (0<(p14a2.length:Int))) (.r ((p14a1.timer==0),()))<|
   .r (false,())) λ(u15a0,_)=>
  .u u15a0 (.r (({p14a1 with timer:=3}:Conn),p14a2))<|
  .r (p14a1,p14a2)) (ot @Hk)
noncomputable def NE:=L6 az Tryz.func261 [(0,lb [1,4,6,7] [4,5,6,7]),(3000002,rA 0 25),(3000016,rA 0 76)] [pd,qt,JY,D2,E2,HT] 0 jJ (ks:=[.st .conn,.sc (.int .i64)]) o9 (λv=>[(true,vr (.o true) v.1),(false,[sc (.o true) .segm v.2])])
noncomputable def m6:FT (Pack×Unit) (ah) (λx=>KY x.1) (λx v=>sS v∧v.length≤1520):=⟨λ(x0,_)=>
  .l pY.c (x0,()) λc1=>
  .u (!c1) (.r [])<|
  .l aZ.c ((IntKind.wrap .i64 (20+(x0.body.length:Int))),2,()) λc2=>
  .grd (Nat.ble (2+c2.length) ak)<|
  .l aZ.c (x0.id,2,()) λc3=>
  .grd (Nat.ble (([69,0]++c2).length+c3.length) ak)<|
  .grd (Nat.ble ((([69,0]++c2)++c3).length+2) ak)<|
  .l aZ.c (x0.ttl,1,()) λc4=>
  .grd (Nat.ble (((([69,0]++c2)++c3)++[0,0]).length+c4.length) ak)<|
  .l aZ.c (x0.proto,1,()) λc5=>
  .grd (Nat.ble ((((([69,0]++c2)++c3)++[0,0])++c4).length+c5.length) ak)<|
  .l aZ.c (x0.src,4,()) λc6=>
  .l aZ.c (x0.dst,4,()) λc7=>
  .grd (Nat.ble (c6.length+c7.length) ak)<|
  .grd (Nat.ble (((((([69,0]++c2)++c3)++[0,0])++c4)++c5).length+(c6++c7).length) ak)<|
  .l un.c ((((((([69,0]++c2)++c3)++[0,0])++c4)++c5)++(c6++c7)),()) λc8=>
  .l aZ.c (c8,2,()) λc9=>
  .grd (Nat.ble (((((([69,0]++c2)++c3)++[0,0])++c4)++c5).length+c9.length) ak)<|
  .grd (Nat.ble ((((((([69,0]++c2)++c3)++[0,0])++c4)++c5)++c9).length+(c6++c7).length) ak)<|
  .d ((((((([69,0]++c2)++c3)++[0,0])++c4)++c5)++c9)++(c6++c7)) λe10=>
  .grd (Nat.ble (e10.length+x0.body.length) ak)<|
  .r (e10++x0.body),
 λ(x0,_) hp=>by
  refine Tr.C trivial λc1 hc1 qc1=>Tr.I (λb0=>Tr.R ?_) λb0=>Tr.C trivial λc2 hc2 qc2=>Tr.Gb ?_ λg1=>Tr.C trivial λc3 hc3 qc3=>Tr.Gb ?_ λg2=>Tr.Gb ?_ λg3=>Tr.C trivial λc4 hc4 qc4=>Tr.Gb ?_ λg4=>Tr.C trivial λc5 hc5 qc5=>Tr.Gb ?_ λg5=>Tr.C trivial λc6 hc6 qc6=>Tr.C trivial λc7 hc7 qc7=>Tr.Gb ?_ λg6=>Tr.Gb ?_ λg7=>Tr.C ?_ λc8 hc8 qc8=>Tr.C trivial λc9 hc9 qc9=>Tr.Gb ?_ λg8=>Tr.Gb ?_ λg9=>Tr.V λe10 he10=>Tr.Gb ?_ λg10=>Tr.R ?_
  all_goals ((first|(simp only[List.length_append,List.length_cons,List.length_nil,ak,sS]at*;omega)|grind))⟩
noncomputable def BW:=bu st Tryz.func268 [Fb,l0,Ef] (ks:=[.st .pack]) m6 (λv=>[(false,[.c (.str v)])])
noncomputable def oI:FT (Fram×Unit) (ah) (λx=>KZ x.1) (λx v=>sS v∧v.length≤1600):=⟨λ(x0,_)=>
  .l tV.c (x0,()) λc1=>
  .u (!c1) (.r [])<|
  .l aZ.c (x0.dst,6,()) λc2=>
  .l aZ.c (x0.src,6,()) λc3=>
  .grd (Nat.ble (c2.length+c3.length) ak)<|
  .l aZ.c (x0.type,2,()) λc4=>
  .grd (Nat.ble ((c2++c3).length+c4.length) ak)<|
  .grd (Nat.ble (((c2++c3)++c4).length+x0.body.length) ak)<|
  .r (((c2++c3)++c4)++x0.body),
 λ(x0,_) hp=>by
  refine Tr.C trivial λc1 hc1 qc1=>Tr.I (λb0=>Tr.R ?_) λb0=>Tr.C trivial λc2 hc2 qc2=>Tr.C trivial λc3 hc3 qc3=>Tr.Gb ?_ λg1=>Tr.C trivial λc4 hc4 qc4=>Tr.Gb ?_ λg2=>Tr.Gb ?_ λg3=>Tr.R ?_
  all_goals ((first|(simp only[List.length_append,List.length_cons,List.length_nil,ak,sS]at*;omega)|grind))⟩
noncomputable def Dg:=bu st Tryz.func269 [HE,l0] (ks:=[.st .fram]) oI (λv=>[(false,[.c (.str v)])])
def nm:Sh:=⟨[zs 3],[]⟩
def vk:An:=⟨⟨[],[],false,0⟩,⟨[1,2,3],[],false,0⟩,⟨[],[]⟩,[(.normal,⟨[zp 1 0,zs 2,zs 3],[zx .opti]⟩)]⟩
def uE:An:=⟨⟨[],[],false,0⟩,⟨[1,2,3],[],false,0⟩,⟨[],[]⟩,[(.normal,⟨[zp 1 0,zs 2,zs 3],[zx .opti]⟩)]⟩
def uF:An:=⟨⟨[],[],false,0⟩,⟨[1,2,3],[],false,0⟩,⟨[],[]⟩,[(.normal,⟨[zp 1 0,zs 2,zs 3],[zx .opti]⟩)]⟩
def uG:An:=⟨⟨[],[],false,0⟩,⟨[2,3],[],false,0⟩,⟨[],[]⟩,[(.normal,⟨[zs 2,zs 3],[]⟩)]⟩
noncomputable def nu (a:ah):Tr (Stp (ah) ((ah))):=
 .u (((a.length:Int).tmod 4) != 0) (.grd (Nat.ble (a.length+1) ak)<|
  .r (.next (a++[1])))<|
 .r (.out a)
noncomputable def fT:nm.V→LW nm (ah) ((ah)):=λ(v0,_)=>⟨v0,λa=>(a,()),nu,(4-v0.length%4)%4,oN (.exit 0) ⟨[zu 2,zs 3],[]⟩ (λp=>(p,()))⟩
theorem vF {v0:ah}(h0:v0.length+(4-v0.length%4)%4≤20):(fT (v0,())).W (λp=>p.length≤20):=
 Rk (a:=v0) (λa=>a.length+(4-a.length%4)%4≤20) (λa=>(4-a.length%4)%4) h0
noncomputable def lq:FT (Opti×Unit) (ah) (λ_=>True) (λx v=>sS v∧v.length≤20):= .mk (λ(x0,_)=>
  .l gR.c (x0,()) λc1=>
  .u (!c1) (.r [])<|
  .bnd (β:=ah×ah×Opti×Unit) (.as (λw=>sS w.1∧sS w.2.1∧w.2.1.length≤4) (.u (x0.mss != 0) (.l aZ.c (x0.mss,2,()) λc2=>
    .grd (Nat.ble (2+c2.length) ak)<|
    .r ([],([2,4]++c2),x0,()))<|
   .r ([],[],x0,()))) λ(u3a0,u3a1,u3a2,_)=>
  .bnd (β:=ah×ah×Opti×Unit) (.as (λw=>sS w.1∧sS w.2.1∧w.2.1.length≤7) (.u (decide (0≤u3a2.scale)) (.grd (Nat.ble (u3a1.length+2) ak)<|
    .l aZ.c (u3a2.scale,1,()) λc4=>
    .grd (Nat.ble ((u3a1++[3,3]).length+c4.length) ak)<|
    .r (u3a0,((u3a1++[3,3])++c4),u3a2,()))<|
   .r (u3a0,u3a1,u3a2,()))) λ(u5a0,u5a1,u5a2,_)=>
  .bnd (β:=ah×ah×Opti×Unit) (.as (λw=>sS w.1∧sS w.2.1∧w.2.1.length≤9) (.u u5a2.sack (.grd (Nat.ble (u5a1.length+2) ak)<|
    .r (u5a0,(u5a1++[4,2]),u5a2,()))<|
   .r (u5a0,u5a1,u5a2,()))) λ(u6a0,u6a1,u6a2,_)=>
  .bnd (β:=ah×ah×Unit) (.as (λw=>sS w.1∧sS w.2.1∧w.2.1.length≤19) (.u u6a2.stamp (.grd (Nat.ble (u6a1.length+2) ak)<|
    .l aZ.c (u6a2.val,4,()) λc7=>
    .grd (Nat.ble ((u6a1++[8,10]).length+c7.length) ak)<|
    .l aZ.c (u6a2.echo,4,()) λc8=>
    .grd (Nat.ble (((u6a1++[8,10])++c7).length+c8.length) ak)<|
    .r (u6a0,(((u6a1++[8,10])++c7)++c8),()))<|
   .r (u6a0,u6a1,()))) λ(_,u9a1,_)=>
  .lp (fT (u9a1,())).lp λp10a0=>
  .r p10a0) (ot @vF)
noncomputable def zH:=L6 st Tryz.func271 [(0,lb [3] [2,3]),(1000009,vk),(1000018,uE),(1000026,uF),(1000030,uG)] [ll,l0] 0 fT (ks:=[.st .opti]) lq (λv=>[(false,[.c (.str v)])])
noncomputable def CR:=[l0]
noncomputable def Bx:Fx:=⟨272,Tryz.f272,[(3000004,rA 0 25)],0⟩
noncomputable def mK:FT (Int×Int×Int×Unit) (ah) (λ_=>True) (λx v=>sS v∧v.length≤20):=⟨λ(x0,x1,x2,_)=>
  .l aZ.c (x0,4,()) λc1=>
  .l aZ.c (x1,4,()) λc2=>
  .l aZ.c (x2,2,()) λc3=>
  .bnd (β:=Bool×Unit) (.u (c1==[]) (.r (true,()))<|
   .u (c2==[]) (.r (true,()))<|
   .r ((c3==[]),())) λ(u4a0,_)=>
  .u u4a0 (.r [])<|
  .grd (Nat.ble (c1.length+c2.length) ak)<|
  .grd (Nat.ble ((c1++c2).length+2) ak)<|
  .grd (Nat.ble (((c1++c2)++[0,6]).length+c3.length) ak)<|
  .r (((c1++c2)++[0,6])++c3),
 λ(x0,x1,x2,_) hp=>by
  refine Tr.C trivial λc1 hc1 qc1=>Tr.C trivial λc2 hc2 qc2=>Tr.C trivial λc3 hc3 qc3=>Tr.B (Q':=λ_=>True) (Tr.F (by kernel_rfl) trivial) (λ(u4a0,_) hj4 qj4=>Tr.I (λb0=>Tr.R ?_) λb0=>Tr.Gb ?_ λg1=>Tr.Gb ?_ λg2=>Tr.Gb ?_ λg3=>Tr.R ?_)
  all_goals ((try simp only[Tr.nice,jt]at*)<;>(first|(simp only[List.length_append,List.length_cons,List.length_nil,ak,sS]at*;omega)|grind))⟩
noncomputable def A5:=lh st Bx CR [] (ks:=[.sc (.int .i64),.sc (.int .i64),.sc (.int .i64)]) mK (λv=>[(false,[.c (.str v)])]) Tryz.func272 trivial
noncomputable def er:FX (Recv×Int×Unit) (Int) (λ_=>True) (bP [.st .recv,.sc (.int .i64)]):=⟨λ(x0,x1,_)=>
  .u (decide ((IntKind.wrap .i64 (x1-(x0.data.length:Int)))<0)) (.r (-1))<|
  .l jx.c (x0.held,(IntKind.wrap .i64 (x1-(x0.data.length:Int))),()) λc1=>
  .u (decide (c1<0)) (.r (-1))<|
  .r c1,
 λ(x0,x1,_) hp hf=>by
  simp only[bP,Pk.fact,gd,eo,Fl.fact,Ty.fl,Ty.toH]at hf
  refine Tr.I (λ_=>Tr.R trivial) λ_=>Tr.C trivial λ_ _ _=>Tr.F (by kernel_rfl) trivial⟩
theorem F7 (x:Recv)(k:Int)(h0:0≤k)(h1:k≤1048576)(hd:x.data.length≤4611686018427387904)(hl:x.held.length≤140737488355328)(he:yN .piec x.held)(h:0≤er.f (x,k,())):er.f (x,k,())≤k∧x.data.length≤1048576∧x.held.length≤1048576∧cI bK x.held:=by
 have w:IntKind.wrap .i64 (k-(x.data.length:Int))=k-(x.data.length:Int):=aw (by omega) (by omega)
 have e:er.f (x,k,())=(bif decide (k-(x.data.length:Int)<0)then-1 else(bif decide (jx.f (x.held,k-(x.data.length:Int),())<0)then-1 else jx.f (x.held,k-(x.data.length:Int),()))):=by simp only[FX.f,PX,er,w]
 rw[e]at h⊢
 obtain⟨p0,e0⟩:=iK h
 rw[e0]at h⊢
 obtain⟨p1,e1⟩:=iK h
 rw[e1]at h⊢
 have b:=Jf x.held _ p0 (by omega) hl he p1
 exact⟨by omega,by omega,b.2.1,b.2.2⟩
noncomputable def AW:=oG st Tryz.func352 [E7] (ks:=[.st .recv,.sc (.int .i64)]) er rI
noncomputable def mL:FT (Recv×Unit) (Recv) (λx=>gv x.1) (λx v=>gv v):= .mk λ(x0,_)=>
  .l qO.c (x0.held,()) λc1=>
  .r ({x0 with held:=c1}:Recv)
noncomputable def Bz:=bu az Tryz.func356 [Fg] (ks:=[.st .recv]) mL (λv=>[(true,JP (.o true) v)])
noncomputable def mV:FT (Recv×Recv×Unit) (Bool) (λx=>gv x.1∧gv x.2.1) (λ_ _=>True):= .mk λ(x0,x1,_)=>
  .u (x0.next != x1.next) (.r false)<|
  .u (!(x0.data==x1.data)) (.r false)<|
  .l p8.c (x0.held,x1.held,()) λc1=>
  .u (!c1) (.r false)<|
  .u (x0.fin != x1.fin) (.r false)<|
  .u (!(x0.done==x1.done)) (.r false)<|
  .r true
noncomputable def AY:=bu st Tryz.func369 [GD] (ks:=[.st .recv,.st .recv]) mV rB
noncomputable def qz:FT (Conn×Tupl×Unit) (Bool) (λ_=>True) (λ_ _=>True):= .mk λ(x0,y1,_)=>
  .r ((x0.tuple.ip==y1.ip)&&((x0.tuple.port==y1.port)&&((x0.tuple.my==y1.my)&&true)))
noncomputable def Bo:=jT az ⟨204,Tryz.f204,[],1⟩ [] [] [.st .conn,.wr false [.ptr 0]] [.box [.st .tupl]] (λx y=>(x.1,y.1.1,())) qz rB (λx y v=>((y.1.1,()),())) Tryz.func204 (by kernel_rfl) trivial
noncomputable def qi:FT (Half×Tupl×Unit) (Bool) (λ_=>True) (λ_ _=>True):= .mk λ(x0,y1,_)=>
  .r ((x0.tuple.ip==y1.ip)&&((x0.tuple.port==y1.port)&&((x0.tuple.my==y1.my)&&true)))
noncomputable def A6:=jT az ⟨401,Tryz.f401,[],1⟩ [] [] [.st .half,.wr false [.ptr 0]] [.box [.st .tupl]] (λx y=>(x.1,y.1.1,())) qi rB (λx y v=>((y.1.1,()),())) Tryz.func401 (by kernel_rfl) trivial
noncomputable def lc:FT (Door×Int×Unit) (Int) (λx=>aN x.1∧x.2.1≤9223372036854775807) (λx v=>v≤9223372036854775807):= .mk λ(x0,x1,_)=>
  .l pW.c (x0.keys,x1,()) λc1=>
  .u (decide (c1<0)) (.r (-1))<|
  .l oU.c (x0.halves,c1,()) λc2=>
  .u (decide (c2<0)) (.r (-1))<|
  .l o7.c (x0.table,c2,()) λc3=>
  .u (decide (c3<0)) (.r (-1))<|
  .r c3
noncomputable def vU:=bu st Tryz.func17 [FM,DS,DW] (ks:=[.st .door,.sc (.int .i64)]) lc rI
noncomputable def lS:FT (Stac×Int×Unit) (Int) (λx=>bq x.1∧x.2.1≤9223372036854775807) (λx v=>v≤9223372036854775807):= .mk λ(x0,x1,_)=>
  .l vA.c (x0.link,x1,()) λc1=>
  .u (decide (c1<0)) (.r (-1))<|
  .l lc.c (x0.door,c1,()) λc2=>
  .u (decide (c2<0)) (.r (-1))<|
  .r c2
noncomputable def D4:=bu st Tryz.func27 [Fo,vU] (ks:=[.st .stac,.sc (.int .i64)]) lS rI
noncomputable def d5:FX (Keys×Int×Unit) (Int) (λ_=>True) (bP [.st .keys,.sc (.int .i64)]):=⟨λ(x0,x1,_)=>
  .l eT.c (x0.now,x1,()) λc1=>
  .u (decide (c1<0)) (.r (-1))<|
  .l eT.c (x0.before,c1,()) λc2=>
  .u (decide (c2<0)) (.r (-1))<|
  .r c2,
 λ(x0,x1,_) hp hf=>by
  simp only[bP,Pk.fact,gd,eo,Fl.fact,Ty.fl,Ty.toH]at hf
  refine Tr.C trivial λ_ _ _=>Tr.I (λ_=>Tr.R trivial) λ_=>Tr.C trivial λ_ _ _=>Tr.F (by kernel_rfl) trivial⟩
theorem Hu (x:Keys)(k:Int)(h0:0≤k)(h1:k≤1048576)(n1:x.now.rows.length≤140737488355328)(n2:yN .macRow x.now.rows)(m1:x.before.rows.length≤140737488355328)(m2:yN .macRow x.before.rows)(h:0≤d5.f (x,k,())):d5.f (x,k,())≤k∧eY x:=by
 have e:d5.f (x,k,())=(bif decide (eT.f (x.now,k,())<0)then-1 else(bif decide (eT.f (x.before,eT.f (x.now,k,()),())<0)then-1 else eT.f (x.before,eT.f (x.now,k,()),()))):=by first|(simp only[FX.f,PX,d5];done)|(simp only[FX.f,PX,d5];rfl)
 rw[e]at h⊢
 obtain⟨p0,e0⟩:=iK h
 rw[e0]at h⊢
 obtain⟨p1,e1⟩:=iK h
 rw[e1]at h⊢
 have b0:=KV _ _ h0 (by omega) n1 n2 p0
 have b1:=KV _ _ p0 (by omega) m1 m2 p1
 refine⟨by omega, ?_⟩
 have q0:=b0.2
 have q1:=b1.2
 unfold dS at q0 q1
 unfold eY
 exact⟨q0.1,q0.2,q1.1,q1.2⟩
noncomputable def Jg:=oG st Tryz.func55 [LP] (ks:=[.st .keys,.sc (.int .i64)]) d5 rI
noncomputable def pr:FT (Door×Unit) (Door) (λx=>aN x.1) (λx v=>aN v∧v.table.conns.length=x.1.table.conns.length∧v.table.waiting.length=x.1.table.waiting.length∧v.halves=x.1.halves):= .mk λ(x0,_)=>
  .l t6.c (x0.keys,()) λc1=>
  .grd (Nat.ble ((2*(0+x0.halves.length)+1024)*96) aD)<|
  .l uo.c (x0.table,()) λc2=>
  .r (⟨x0.port,x0.clock,c1,x0.limits,([]++x0.halves),c2,x0.chal⟩:Door)
noncomputable def yC:=bu st Tryz.func58 [Ip,GO] (ks:=[.st .door]) pr (λv=>[(true,xB (.o true) (.o true) (.o true) (.o true) (.o true) v)])
noncomputable def vX:FT (Keys×Unit) (Keys) (λx=>eY x.1) (λx v=>eY v):= .mk λ(x0,_)=>
  .l w7.c (x0.now,()) λc1=>
  .l w7.c (x0.before,()) λc2=>
  .r (⟨x0.epoch,c1,c2,x0.two⟩:Keys)
noncomputable def J5:=bu az Tryz.func64 [LI] (ks:=[.st .keys]) vX (λv=>[(true,Kh (.o true) (.o true) v)])
noncomputable def wq:FT (Keys×Keys×Unit) (Bool) (λx=>eY x.1∧eY x.2.1) (λ_ _=>True):= .mk λ(x0,x1,_)=>
  .u (x0.epoch != x1.epoch) (.r false)<|
  .l wK.c (x0.now,x1.now,()) λc1=>
  .u (!c1) (.r false)<|
  .l wK.c (x0.before,x1.before,()) λc2=>
  .u (!c2) (.r false)<|
  .u (!(x0.two==x1.two)) (.r false)<|
  .r true
noncomputable def Kq:=bu st Tryz.func69 [Ml] (ks:=[.st .keys,.st .keys]) wq rB
noncomputable def t5:FT (Stac×Unit) (Stac) (λx=>bq x.1) (λx v=>bq v):= .mk λ(x0,_)=>
  .l yh.c (x0.link,()) λc1=>
  .l pr.c (x0.door,()) λc2=>
  .r (⟨c1,c2⟩:Stac)
noncomputable def Iq:=bu st Tryz.func82 [HR,yC] (ks:=[.st .stac]) t5 (λv=>[(true,AG (.o true) (.o true) (.o true) (.o true) (.o true) (.o true) v)])
def sM:Sh:=⟨[zi 1,zp 3 0,zo 7 1,zl 14 .segm,zi 15,zi 16],[.box [.st .stac [.sl .arg,.sl .arg,.sl .arg,.sl .arg,.sl .arg,.sl .arg]],za .str]⟩
noncomputable def r9 (v0:Int)(v1:List Segm)(v4:Stac)(v3:Int)(a:List ah):Tr (Stp (List ah) (Empty)):=
 .grd (aY v1 v3)<|
 .l bO.c ((v1.getD v3.toNat (Ty.zero .segm)),v4.link.ip,v0,()) λc1=>
 .u (c1==[]) (.r (.next a))<|
 .l gi.c (v4.link,v0,c1,()) λc2=>
 .u c2.2 (.grd (El a 1 16)<|
  .r (.next (a++[c2.1])))<|
 .r (.next a)
noncomputable def gS:sM.V→rL sM (List ah):=λ(v0,v1,v2,v3,v4,v5,_)=>⟨v3,v5,λv3 a=>(v0,v1,v2,v3,v4,a,()),λv3 _=>(decide (v3<v2)),r9 v0 v1 v4,up,1,(Int.toNat (v2-v3)),Empty.elim,Prod.mk,oN (.exit 0) ⟨[zu 6,zo 7 0],[za .str]⟩ (λx=>(x.2,()))⟩
theorem Bj {v0 v2 v3:Int}{v1:List Segm}{v4:Stac}{v5:List ah}(h0:0≤v3)(h1:v2≤4611686018427387904)(h2:sL aW v1)(h3:bq v4)(h4:v2≤4294967296)(h5:v2≤(v1.length:Int))(h6:(v5.length:Int)≤v3∧cI sS v5):(gS (v0,v1,v2,v3,v4,v5,())).U v2 (λv3 a=>(a.length:Int)≤v3∧cI sS a) (λ_=>True):=
 iT (a:=v5) h0 h1 h6
noncomputable def ue:FT (Stac×Int×List Segm×Unit) (List ah) (λx=>bq x.1∧sL aW x.2.2.1) (λx v=>sL sS v∧v.length≤x.2.2.1.length):=⟨λ(x0,x1,x2,_)=>
  .lp (gS (x1,x2,(x2.length:Int),0,x0,[],())).lp λ(_,a3_0)=>
  .r a3_0,
 λ(x0,x1,x2,_) hp=>by
  refine Tr.L (Bj ?_ ?_ ?_ ?_ ?_ ?_ ?_) (λa3_0 _=>Tr.R ?_) (λp=>Empty.elim p)
  all_goals ((try simp only[gS,LC.lp,LC.ct,Ct.lp]at*)<;>grind)⟩
noncomputable def HY:=dm az Tryz.func90 [(0,lb [1,3,7,14,15,16] [6,7])] [ze,I5] 0 gS (ks:=[.st .stac,.sc (.int .i64),.sc (.sl .segm)]) ue (λv=>[(false,[sc (.o true) .str v])])
noncomputable def s7:=[FS,ql,qT,v7]
def j6:Sh:=⟨[zp 2 0,zi 5],[.box [.st .tabl [.sl .arg,.sl .arg]]]⟩
def kB:Sh:=⟨[zp 2 0,zi 6],[.box [.st .tabl [.sl .arg,.sl .arg]]]⟩
noncomputable def rM:Fx:=⟨134,Tryz.f134,[(0,lb [2,5] [2,4]),(2,lb [2,6] [4]),(3000001,rA 0 25)],0⟩
noncomputable def nY (v1:Tabl)(v0:Int)(a:Unit):Tr (Stp (Unit) ((Unit))):=
 .grd (aY v1.conns v0)<|
 .l nv.c ((v1.conns.getD v0.toNat (Ty.zero .conn)),()) λc3=>
 .u (!c3) (.r (.out ()))<|
 .grd (aY v1.conns v0)<|
 .l hP.c (v1,(v1.conns.getD v0.toNat (Ty.zero .conn)).tuple,()) λc4=>
 .u (c4 != v0) (.r (.out ()))<|
 .r (.next ())
noncomputable def fm:j6.V→nB j6 Unit (Unit):=λ(v0,v1,_)=>⟨v0,(),λv0 _=>(v0,v1,()),λv0 _=>(decide (v0<(v1.conns.length:Int))),nY v1,up,1,(Int.toNat ((v1.conns.length:Int)-v0)),.inl,eR,oB .ret ⟨[zp 2 0,zb 4],[.box [.st .tabl [.sl .arg,.sl .arg]]]⟩ (λ_=>(false,v1,())) (.exit 0) ⟨[zp 2 0,zu 4],[.box [.st .tabl [.sl .arg,.sl .arg]]]⟩ (λ_=>(v1,()))⟩
theorem A8:LS Tryz.prog rM [0] (ji 0 j6 fm):=dW st (aL s7) _ fm [] trivial
theorem CW {v0:Int}{v1:Tabl}(h0:0≤v0)(h1:(v1.conns.length:Int)≤4611686018427387904)(h2:aF v1):(fm (v0,v1,())).U (v1.conns.length:Int) (λ_ _=>True) (λ_=>True):=
 iT h0 h1 trivial
noncomputable def nS (v1:Tabl)(v0:Int)(a:Unit):Tr (Stp (Unit) ((Unit))):=
 .grd ((decide (0≤v0))&&(decide (v0≤(v1.waiting.length:Int))))<|
 .grd (aY v1.waiting v0)<|
 .l nC.c (((v1.waiting.take v0.toNat).drop 0),(v1.waiting.getD v0.toNat (Ty.zero .tupl)),()) λc6=>
 .u c6 (.r (.out ()))<|
 .grd (aY v1.waiting v0)<|
 .l hP.c (v1,(v1.waiting.getD v0.toNat (Ty.zero .tupl)),()) λc7=>
 .u (decide (c7<0)) (.r (.out ()))<|
 .r (.next ())
noncomputable def fp:kB.V→nB kB Unit (Unit):=λ(v0,v1,_)=>⟨v0,(),λv0 _=>(v0,v1,()),λv0 _=>(decide (v0<(v1.waiting.length:Int))),nS v1,up,1,(Int.toNat ((v1.waiting.length:Int)-v0)),.inl,eR,oB .ret ⟨[zb 4],[]⟩ (λ_=>(false,())) (.exit 2) ⟨[zu 4],[]⟩ (λ_=>())⟩
theorem Cd:LS Tryz.prog rM [1] (ji 2 kB fp):=dW st (aL s7) _ fp [] trivial
theorem nz {v0:Int}{v1:Tabl}(h0:0≤v0)(h1:(v1.waiting.length:Int)≤4611686018427387904)(h2:aF v1):(fp (v0,v1,())).U (v1.waiting.length:Int) (λ_ _=>True) (λ_=>True):=
 iT h0 h1 trivial
noncomputable def tN:FT (Tabl×Limi×Unit) (Bool) (λx=>wS x.1.conns∧cI ae x.1.conns∧wS x.1.waiting) (λx v=>(v=true→x.1.conns.length≤16∧x.1.waiting.length≤16)):= .mk (λ(x0,x1,_)=>
  .bnd (β:=Bool×Unit) (.as (λw=>(w.1=false→x1.halves≤64∧x1.waiting≤16∧x1.conns≤16)) (.l qQ.c (x1,()) λc1=>
   .u (!c1) (.r (true,()))<|
   .u (decide (x1.conns<(x0.conns.length:Int))) (.r (true,()))<|
   .r ((decide (x1.waiting<(x0.waiting.length:Int))),()))) λ(u2a0,_)=>
  .u u2a0 (.r false)<|
  .lp (fm (0,x0,())).lp λw5=> .sum w5 (λ_=>
  .r false)<|
  λ_=>
  .lp (fp (0,x0,())).lp λw8=> .sum w8 (λ_=>
  .r false)<|
  λ_=>
  .r true) (Rs @CW @nz @nz @nz)
noncomputable def I3:=lh st rM s7 [(ji 0 j6 fm),(ji 2 kB fp)] (ks:=[.st .tabl,.st .limi]) tN rB Tryz.func134 ⟨A8,Cd,trivial⟩
noncomputable def z5:FT (Conn×Unit) (Bool) (λx=>ae x.1) (λ_ _=>True):= .mk λ(x0,_)=>
  .l nv.c (x0,()) λc1=>
  .u c1 (.u (x0.state==7) (.r true)<|
   .u (x0.state != 8) (.d (wJ.f (x0,())) λc2=>
    .r c2)<|
   .r false)<|
  .r false
noncomputable def Mp:=bu st Tryz.func139 [ql,JM] (ks:=[.st .conn]) z5 rB
noncomputable def Fr:=[pd,L2,qt,E2,Hv,NE]
def px:An:=⟨⟨[],[],false,0⟩,⟨[2,3,4],[],false,0⟩,⟨[],[]⟩,[(.normal,⟨[zp 2 0,(3,false,[.nil]),zp 4 1],[.box [.st .conn [.nil .piec]],zk .conn 2,zf]⟩)]⟩
def pt:An:=⟨⟨[],[],false,0⟩,⟨[1,2,3,4],[],false,0⟩,⟨[],[]⟩,[(.normal,⟨[zp 1 0,zp 2 1,(3,false,[.nil]),zp 4 2],[zg .conn,.box [.st .conn [.nil .piec]],zk .conn 3,zf]⟩)]⟩
def pk:An:=⟨⟨[],[],false,0⟩,⟨[2,3,4,6],[],false,0⟩,⟨[],[]⟩,[(.normal,⟨[zp 2 0,(3,false,[.nil]),zp 4 1,zi 6],[.box [.st .conn [.nil .piec]],zk .conn 2,zf]⟩)]⟩
noncomputable def Gs:Fx:=⟨153,Tryz.f153,[(1000014,px),(1000020,pt),(1000068,pk)],0⟩
noncomputable def qE:FT (Conn×Unit) (Conn×List Segm) (λx=>ae x.1) (λx v=>ae v.1∧sL aW v.2∧v.2.length≤49):= .mk λ(x0,_)=>
  .l jN.c (x0,()) λc1=>
  .l j4.c (x0,()) λc2=>
  .u (!c2) (.l cm.c (x0,()) λc3=>
   .bnd (β:=WT px.es) (.as (λw=>ae w.1∧ae w.2.1) (.u c3 (.r ((⟨⟨0,0,0⟩,0,⟨0,[],0,false,false,false⟩,⟨0,[],[],0,false⟩,0,0,⟨0,0,false,false,0,0⟩,0,0⟩:Conn),({c1 with timer:=0,tries:=0}:Conn),()))<|
    .r ((⟨⟨0,0,0⟩,0,⟨0,[],0,false,false,false⟩,⟨0,[],[],0,false⟩,0,0,⟨0,0,false,false,0,0⟩,0,0⟩:Conn),c1,()))) λ(_,u4a1,_)=>
   .r (u4a1,[]))<|
  .bnd (β:=WT pt.es) (.as (λw=>ae w.1∧ae w.2.1∧ae w.2.2.1) (.u (c1.timer==0) (.u (x0.state==7) (.r (x0,(⟨⟨0,0,0⟩,0,⟨0,[],0,false,false,false⟩,⟨0,[],[],0,false⟩,0,0,⟨0,0,false,false,0,0⟩,0,0⟩:Conn),({c1 with timer:=4}:Conn),()))<|
    .r (x0,(⟨⟨0,0,0⟩,0,⟨0,[],0,false,false,false⟩,⟨0,[],[],0,false⟩,0,0,⟨0,0,false,false,0,0⟩,0,0⟩:Conn),({c1 with timer:=3}:Conn),()))<|
   .r (x0,(⟨⟨0,0,0⟩,0,⟨0,[],0,false,false,false⟩,⟨0,[],[],0,false⟩,0,0,⟨0,0,false,false,0,0⟩,0,0⟩:Conn),c1,()))) λ(u5a0,u5a1,u5a2,_)=>
  .u (decide (0<(IntKind.wrap .i64 (u5a2.timer-1)))) (.r (({u5a2 with timer:=(IntKind.wrap .i64 (u5a2.timer-1))}:Conn),[]))<|
  .u (u5a0.state==7) (.r (({u5a2 with state:=8,timer:=(IntKind.wrap .i64 (u5a2.timer-1)),tries:=0}:Conn),[]))<|
  .u (u5a0.tries==3) (.l cN.c (u5a0,()) λc6=>
   .r (({u5a2 with state:=8,timer:=0,tries:=0}:Conn),[({c6 with flags:=(bits .or .i64 c6.flags 4)}:Segm)]))<|
  .l gl.c (u5a2.s,()) λc7=>
  .bnd (β:=WT pk.es) (.as (λw=>ae w.2.1∧ae w.2.2.1) (.u (u5a0.window==0) (.r (1,({u5a1 with r.held:=[]}:Conn),(⟨u5a2.tuple,u5a2.state,c7,u5a2.r,u5a2.window,u5a2.most,u5a2.opts,(IntKind.wrap .i64 (u5a2.timer-1)),(IntKind.wrap .i64 (u5a2.tries+1))⟩:Conn),()))<|
   .r (u5a0.window,({u5a1 with r.held:=[]}:Conn),(⟨u5a2.tuple,u5a2.state,c7,u5a2.r,u5a2.window,u5a2.most,u5a2.opts,(IntKind.wrap .i64 (u5a2.timer-1)),(IntKind.wrap .i64 (u5a2.tries+1))⟩:Conn),()))) λ(u8a0,_,u8a2,_)=>
  .l o9.c (u8a2,u8a0,()) λc9=>
  .r (({c9.1 with timer:=3}:Conn),c9.2)
noncomputable def Fq:=lh az Gs Fr [] (ks:=[.st .conn]) qE (λv=>[(true,vr (.o true) v.1),(false,[sc (.o true) .segm v.2])]) Tryz.func153 trivial
noncomputable def IB:=[Og,CH,BW,Dg]
noncomputable def IO:Fx:=⟨166,Tryz.f166,[(3000002,rA 0 25)],0⟩
noncomputable def uq:FT (Link×Int×ah×Unit) (ah×Bool) (λx=>gu x.1∧sS x.2.2.1) (λx v=>sS v.1):= .mk λ(x0,x1,x2,_)=>
  .l Gv.c (x0.cache,x1,()) λc1=>
  .bnd (β:=Bool×Unit) (.l sU.c (x0,()) λc2=>
   .u (!c2) (.r (true,()))<|
   .r ((!c1.2),())) λ(u3a0,_)=>
  .u u3a0 (.r ([],false))<|
  .l m6.c ((⟨x0.ip,x1,64,6,0,x2⟩:Pack),()) λc4=>
  .u (c4==[]) (.r ([],false))<|
  .l oI.c ((⟨c1.1,x0.mac,2048,c4⟩:Fram),()) λc5=>
  .r (c5,(!(c5==[])))
noncomputable def G0:=lh st IO IB [] (ks:=[.st .link,.sc (.int .i64),.sc .str]) uq (λv=>[(false,[.c (.str v.1)]),(false,[.c (.bool v.2)])]) Tryz.func166 trivial
noncomputable def lE:FT (Segm×Int×Int×Unit) (ah) (λx=>aW x.1) (λx v=>sS v∧v.length≤1500):=⟨λ(x0,x1,x2,_)=>
  .l ou.c (x0,()) λc1=>
  .u (!c1) (.r [])<|
  .l lq.c (x0.opts,()) λc2=>
  .d (IntKind.wrap .i64 ((IntKind.wrap .i64 (20+(c2.length:Int)))+(x0.body.length:Int))) λe3=>
  .l mK.c (x1,x2,e3,()) λc4=>
  .u (c4==[]) (.r [])<|
  .l aZ.c (x0.from_,2,()) λc5=>
  .l aZ.c (x0.to,2,()) λc6=>
  .grd (Nat.ble (c5.length+c6.length) ak)<|
  .l aZ.c (x0.seq,4,()) λc7=>
  .grd (Nat.ble ((c5++c6).length+c7.length) ak)<|
  .l aZ.c (x0.ack,4,()) λc8=>
  .grd (Nat.ble (((c5++c6)++c7).length+c8.length) ak)<|
  .d (IntKind.wrap .i64 ((IntKind.wrap .i64 (20+(c2.length:Int))).tdiv 4)) λe9=>
  .l aZ.c ((IntKind.wrap .i64 (e9*16)),1,()) λc10=>
  .grd (Nat.ble ((((c5++c6)++c7)++c8).length+c10.length) ak)<|
  .l aZ.c (x0.flags,1,()) λc11=>
  .grd (Nat.ble (((((c5++c6)++c7)++c8)++c10).length+c11.length) ak)<|
  .l aZ.c (x0.window,2,()) λc12=>
  .grd (Nat.ble ((((((c5++c6)++c7)++c8)++c10)++c11).length+c12.length) ak)<|
  .grd (Nat.ble (2+c2.length) ak)<|
  .grd (Nat.ble (([0,0]++c2).length+x0.body.length) ak)<|
  .grd (Nat.ble (c4.length+((((((c5++c6)++c7)++c8)++c10)++c11)++c12).length) ak)<|
  .grd (Nat.ble ((c4++((((((c5++c6)++c7)++c8)++c10)++c11)++c12)).length+2) ak)<|
  .d ((c4++((((((c5++c6)++c7)++c8)++c10)++c11)++c12))++[0,0]) λe13=>
  .grd (Nat.ble (e13.length+(([0,0]++c2)++x0.body).length) ak)<|
  .l un.c ((e13++(([0,0]++c2)++x0.body)),()) λc14=>
  .l aZ.c (c14,2,()) λc15=>
  .grd (Nat.ble (((((((c5++c6)++c7)++c8)++c10)++c11)++c12).length+c15.length) ak)<|
  .grd (Nat.ble ((((((((c5++c6)++c7)++c8)++c10)++c11)++c12)++c15).length+(([0,0]++c2)++x0.body).length) ak)<|
  .d ((((((((c5++c6)++c7)++c8)++c10)++c11)++c12)++c15)++(([0,0]++c2)++x0.body)) λe16=>
  .r e16,
 λ(x0,x1,x2,_) hp=>by
  refine Tr.C trivial λc1 hc1 qc1=>Tr.I (λb0=>Tr.R ?_) λb0=>Tr.C trivial λc2 hc2 qc2=>Tr.V λe3 he3=>Tr.C trivial λc4 hc4 qc4=>Tr.I (λb1=>Tr.R ?_) λb1=>Tr.C trivial λc5 hc5 qc5=>Tr.C trivial λc6 hc6 qc6=>Tr.Gb ?_ λg2=>Tr.C trivial λc7 hc7 qc7=>Tr.Gb ?_ λg3=>Tr.C trivial λc8 hc8 qc8=>Tr.Gb ?_ λg4=>Tr.V λe9 he9=>Tr.C trivial λc10 hc10 qc10=>Tr.Gb ?_ λg5=>Tr.C trivial λc11 hc11 qc11=>Tr.Gb ?_ λg6=>Tr.C trivial λc12 hc12 qc12=>Tr.Gb ?_ λg7=>Tr.Gb ?_ λg8=>Tr.Gb ?_ λg9=>Tr.Gb ?_ λg10=>Tr.Gb ?_ λg11=>Tr.V λe13 he13=>Tr.Gb ?_ λg12=>Tr.C ?_ λc14 hc14 qc14=>Tr.C trivial λc15 hc15 qc15=>Tr.Gb ?_ λg13=>Tr.Gb ?_ λg14=>Tr.V λe16 he16=>Tr.R ?_
  all_goals ((first|(simp only[List.length_append,List.length_cons,List.length_nil,ak,sS]at*;omega)|grind))⟩
noncomputable def zS:=bu st Tryz.func167 [Dy,zH,A5,l0,Ef] (ks:=[.st .segm,.sc (.int .i64),.sc (.int .i64)]) lE (λv=>[(false,[.c (.str v)])])
def og:Sh:=⟨[zp 2 0,zp 3 1,zl 11 .conn,zi 12,zi 13],[.box [.st .tabl [.nil .conn,.nil .tupl]],.box [.st .tabl [.down 2,.own 3]],.ofd,zf]⟩
noncomputable def oH (v0:List Conn)(v2:Int)(a:Tabl×Tabl):Tr (Stp (Tabl×Tabl) (Empty)):=
 .grd (aY v0 v2)<|
 .l jN.c ((v0.getD v2.toNat (Ty.zero .conn)),()) λc3=>
 .grd (El a.2.conns 1 208)<|
 .r (.next ((⟨[],[]⟩:Tabl),(⟨(a.2.conns++[c3]),a.2.waiting⟩:Tabl)))
noncomputable def ew:og.V→rL og (Tabl×Tabl):=λ(v0,v1,v2,v3,v4,_)=>⟨v2,(v3,v4),λv2 a=>(v0,v1,v2,a.1,a.2,()),λv2 _=>(decide (v2<v1)),oH v0,up,1,(Int.toNat (v1-v2)),Empty.elim,Prod.mk,oN (.exit 0) ⟨[zp 2 0,zp 3 1],[.box [.st .tabl [.nil .conn,.nil .tupl]],.box [.st .tabl [.down 2,.own 3]],.ofd,zf]⟩ (λx=>((⟨[],[]⟩:Tabl),x.2.2,()))⟩
theorem vS {v0:List Conn}{v1 v2:Int}{v3 v4:Tabl}(h0:0≤v2)(h1:v1≤4611686018427387904)(h2:sL ae v0)(h3:v1≤4294967296)(h4:sS v4.waiting)(h5:v1≤(v0.length:Int))(h6:aF v3∧(v4.conns.length:Int)=v2∧cI ae v4.conns∧v4.waiting.length=v4.waiting.length):(ew (v0,v1,v2,v3,v4,())).U v1 (λv2 a=>aF a.1∧(a.2.conns.length:Int)=v2∧cI ae a.2.conns∧a.2.waiting.length=v4.waiting.length) (λ_=>True):=
 iT (a:=(v3,v4)) h0 h1 h6
noncomputable def ke:FT (Tabl×Unit) (Tabl) (λx=>aF x.1) (λx v=>aF v∧v.conns.length=x.1.conns.length∧v.waiting.length=x.1.waiting.length):=⟨λ(x0,_)=>
  .l lD.c (x0.waiting,()) λc1=>
  .lp (ew (x0.conns,(x0.conns.length:Int),0,(⟨[],[]⟩:Tabl),(⟨[],c1⟩:Tabl),())).lp λ(_,_,a4_1)=>
  .r a4_1,
 λ(x0,_) hp=>by
  refine Tr.C ?_ λ_ _ _=>Tr.L (vS ?_ ?_ ?_ ?_ ?_ ?_ ?_) (λ(a4_0,a4_1) _=>Tr.R ?_) (λp=>Empty.elim p)
  all_goals ((try simp only[ew,LC.lp,LC.ct,Ct.lp]at*)<;>grind)⟩
noncomputable def td:=dm az Tryz.func198 [(0,la ⟨[2,3,11,12,13],[.dbox 3 0 .conn],false,0⟩ ⟨[2,3],[],false,0⟩)] [zn,pd] 0 ew (ks:=[.st .tabl]) ke (λv=>[(true,Bp .d (.o true) v)])
noncomputable def dj:FX (Conn×Int×Unit) (Int) (λ_=>True) (bP [.st .conn,.sc (.int .i64)]):=⟨λ(x0,x1,_)=>
  .l gM.c (x0.s,x1,()) λc1=>
  .u (decide (c1<0)) (.r (-1))<|
  .l er.c (x0.r,c1,()) λc2=>
  .u (decide (c2<0)) (.r (-1))<|
  .r c2,
 λ(x0,x1,_) hp hf=>by
  simp only[bP,Pk.fact,gd,eo,Fl.fact,Ty.fl,Ty.toH]at hf
  refine Tr.C trivial λ_ _ _=>Tr.I (λ_=>Tr.R trivial) λ_=>Tr.C trivial λ_ _ _=>Tr.F (by kernel_rfl) trivial⟩
theorem M8 (x:Conn)(k:Int)(h0:0≤k)(h1:k≤1048576)(hf:∀c∈Ty.conn.cells x,FactC c)(h:0≤dj.f (x,k,())):dj.f (x,k,())≤k∧ae x:=by
 have e:dj.f (x,k,())=(bif decide (gM.f (x.s,k,())<0)then-1 else(bif decide (er.f (x.r,gM.f (x.s,k,()),())<0)then-1 else er.f (x.r,gM.f (x.s,k,()),()))):=by first|(simp only[FX.f,PX,dj];done)|(simp only[FX.f,PX,dj];rfl)
 rw[e]at h⊢
 obtain⟨p0,e0⟩:=iK h
 rw[e0]at h⊢
 obtain⟨p1,e1⟩:=iK h
 rw[e1]at h⊢
 have b0:=Ka _ _ h0 (by omega) (hf (.str x.s.data) (by simp[Ty.cells,Ty.fl,Ty.toH,cM,Fl.cell])).slen p0
 have b1:=F7 _ _ p0 (by omega) (hf (.str x.r.data) (by simp[Ty.cells,Ty.fl,Ty.toH,cM,Fl.cell])).slen (hf (.sl .piec x.r.held) (by simp[Ty.cells,Ty.fl,Ty.toH,cM,Fl.cell])).len (λy hy=>(hf (.sl .piec x.r.held) (by simp[Ty.cells,Ty.fl,Ty.toH,cM,Fl.cell])).elem hy) p1
 refine⟨by omega, ?_⟩
 unfold ae
 exact⟨by omega,by omega,by omega,b1.2.2.2⟩
noncomputable def JQ:=oG st Tryz.func231 [FH,AW] (ks:=[.st .conn,.sc (.int .i64)]) dj rI
noncomputable def wT:FT (Conn×Unit) (Conn) (λx=>ae x.1) (λx v=>ae v):= .mk λ(x0,_)=>
  .d (na.f (x0.tuple,())) λc1=>
  .l qH.c (x0.s,()) λc2=>
  .l mL.c (x0.r,()) λc3=>
  .d (lL.f (x0.opts,())) λc4=>
  .r (⟨c1,x0.state,c2,c3,x0.window,x0.most,c4,x0.timer,x0.tries⟩:Conn)
noncomputable def JB:=bu az Tryz.func248 [sa,Gt,Bz,uM] (ks:=[.st .conn]) wT (λv=>[(true,vr (.o true) v)])
noncomputable def wz:FT (Conn×Conn×Unit) (Bool) (λx=>ae x.1∧ae x.2.1) (λ_ _=>True):= .mk λ(x0,x1,_)=>
  .d (nf.f (x0.tuple,x1.tuple,())) λc1=>
  .u (!c1) (.r false)<|
  .u (x0.state != x1.state) (.r false)<|
  .d (qI.f (x0.s,x1.s,())) λc2=>
  .u (!c2) (.r false)<|
  .l mV.c (x0.r,x1.r,()) λc3=>
  .u (!c3) (.r false)<|
  .u (x0.window != x1.window) (.r false)<|
  .u (x0.most != x1.most) (.r false)<|
  .d (jM.f (x0.opts,x1.opts,())) λc4=>
  .u (!c4) (.r false)<|
  .u (x0.timer != x1.timer) (.r false)<|
  .u (x0.tries != x1.tries) (.r false)<|
  .r true
noncomputable def Jj:=bu st Tryz.func262 [r8,Gd,AY,ph] (ks:=[.st .conn,.st .conn]) wz rB
noncomputable def eN:=[Bo]
def bC:Sh:=⟨[zl 0 .conn,(1,false,[.fn 204 [0]]),zi 7,zi 8],[zx .tupl]⟩
noncomputable def eM:Fx:=⟨203,Tryz.f203,[(0,la ⟨[0,1,7,8],[],false,1⟩ ⟨[4],[],false,1⟩)],1⟩
noncomputable def dZ (v0:List Conn)(v3:Tupl)(v2:Int)(a:Unit):Tr (Stp (Unit) ((Int))):=
 .grd (aY v0 v2)<|
 .l qz.c ((v0.getD v2.toNat (Ty.zero .conn)),v3,()) λc1=>
 .u c1 (.r (.out v2))<|
 .r (.next ())
noncomputable def aK:bC.V→nB bC Unit (Int):=λ(v0,v1,v2,v3,_)=>⟨v2,(),λv2 _=>(v0,v1,v2,v3,()),λv2 _=>(decide (v2<v1)),dZ v0 v3,up,1,(Int.toNat (v1-v2)),.inl,eR,oB .ret ⟨[zi 4],[zx .tupl]⟩ (λp=>(p,v3,())) (.exit 0) ⟨[zu 4],[zx .tupl]⟩ (λ_=>(v3,()))⟩
theorem jy:LS Tryz.prog eM [0] (ji 0 bC aK):=dW st (aL eN) _ aK [] trivial
theorem jp {v0:List Conn}{v1 v2:Int}{v3:Tupl}(h0:0≤v2)(h1:v1≤4611686018427387904)(h2:v1≤(v0.length:Int)):(aK (v0,v1,v2,v3,())).U v1 (λ_ _=>True) (λp=>v2≤p∧p<v1):=
 iT h0 h1 trivial
noncomputable def dg:FT (List Conn×Tupl×Unit) (Int) (λx=>wS x.1) (λx v=> -1≤v∧v<x.1.length):= .mk (λ(x0,y1_0,_)=>
  .lp (aK (x0,(x0.length:Int),0,y1_0,())).lp λw2=> .sum w2 (λp2a0=>
  .r p2a0)<|
  λ_=>
  .r (-1)) (ot @jp)
noncomputable def kU:=jT st eM eN [(ji 0 bC aK)] [.wr false [.c (.sl .conn)],.fn 204 [0]] [.box [.st .tupl]] (λx y=>(x.1.1,y.1.1,())) dg rI (λx y v=>((y.1.1,()),())) Tryz.func203 (by kernel_rfl) ⟨jy,trivial⟩
noncomputable def eP:=[A6]
def bD:Sh:=⟨[zl 0 .half,(1,false,[.fn 401 [0]]),zi 7,zi 8],[zx .tupl]⟩
noncomputable def eQ:Fx:=⟨359,Tryz.f359,[(0,la ⟨[0,1,7,8],[],false,1⟩ ⟨[4],[],false,1⟩)],1⟩
noncomputable def dT (v0:List Half)(v3:Tupl)(v2:Int)(a:Unit):Tr (Stp (Unit) ((Int))):=
 .grd (aY v0 v2)<|
 .l qi.c ((v0.getD v2.toNat (Ty.zero .half)),v3,()) λc1=>
 .u c1 (.r (.out v2))<|
 .r (.next ())
noncomputable def aI:bD.V→nB bD Unit (Int):=λ(v0,v1,v2,v3,_)=>⟨v2,(),λv2 _=>(v0,v1,v2,v3,()),λv2 _=>(decide (v2<v1)),dT v0 v3,up,1,(Int.toNat (v1-v2)),.inl,eR,oB .ret ⟨[zi 4],[zx .tupl]⟩ (λp=>(p,v3,())) (.exit 0) ⟨[zu 4],[zx .tupl]⟩ (λ_=>(v3,()))⟩
theorem jl:LS Tryz.prog eQ [0] (ji 0 bD aI):=dW st (aL eP) _ aI [] trivial
theorem jB {v0:List Half}{v1 v2:Int}{v3:Tupl}(h0:0≤v2)(h1:v1≤4611686018427387904)(h2:v1≤(v0.length:Int)):(aI (v0,v1,v2,v3,())).U v1 (λ_ _=>True) (λp=>v2≤p∧p<v1):=
 iT h0 h1 trivial
noncomputable def dq:FT (List Half×Tupl×Unit) (Int) (λx=>wS x.1) (λx v=> -1≤v∧v<x.1.length):= .mk (λ(x0,y1_0,_)=>
  .lp (aI (x0,(x0.length:Int),0,y1_0,())).lp λw2=> .sum w2 (λp2a0=>
  .r p2a0)<|
  λ_=>
  .r (-1)) (ot @jB)
noncomputable def kR:=jT st eQ eP [(ji 0 bD aI)] [.sc (.sl .half),.fn 401 [0]] [.box [.st .tupl]] (λx y=>(x.1,y.1.1,())) dq rI (λx y v=>((y.1.1,()),())) Tryz.func359 (by kernel_rfl) ⟨jl,trivial⟩
def uI:Sh:=⟨[zp 1 0,zi 3],[.box [.st .door [.sl .arg,.sl .arg,.sl .arg,.sl .arg,.sl .arg]]]⟩
noncomputable def u4 (v1:Door)(v0:Int)(a:Unit):Tr (Stp (Unit) ((Unit))):=
 .grd (aY v1.halves v0)<|
 .l hP.c (v1.table,(v1.halves.getD v0.toNat (Ty.zero .half)).tuple,()) λc8=>
 .u (decide (0≤c8)) (.r (.out ()))<|
 .r (.next ())
noncomputable def lm:uI.V→nB uI Unit (Unit):=λ(v0,v1,_)=>⟨v0,(),λv0 _=>(v0,v1,()),λv0 _=>(decide (v0<(v1.halves.length:Int))),u4 v1,up,1,(Int.toNat ((v1.halves.length:Int)-v0)),.inl,eR,oB .ret ⟨[zb 2],[]⟩ (λ_=>(false,())) (.exit 0) ⟨[zu 2],[]⟩ (λ_=>())⟩
theorem DU {v0:Int}{v1:Door}(h0:0≤v0)(h1:(v1.halves.length:Int)≤4611686018427387904)(h2:aN v1):(lm (v0,v1,())).U (v1.halves.length:Int) (λ_ _=>True) (λ_=>True):=
 iT h0 h1 trivial
noncomputable def rO:FT (Door×Unit) (Bool) (λx=>aN x.1) (λx v=>(v=true→x.1.table.conns.length≤16)):= .mk (λ(x0,_)=>
  .bnd (β:=Bool×Unit) (.as (λw=>(w.1=false→0≤x0.keys.epoch∧x0.keys.epoch≤4294967295∧x0.table.conns.length≤16∧x0.table.waiting.length≤16∧x0.halves.length≤64)) (.l aC.c (x0.port,16,()) λc1=>
   .u (!c1) (.r (true,()))<|
   .l aC.c (x0.clock,32,()) λc2=>
   .u (!c2) (.r (true,()))<|
   .l xt.c (x0.keys,()) λc3=>
   .u (!c3) (.r (true,()))<|
   .l tN.c (x0.table,x0.limits,()) λc4=>
   .u (!c4) (.r (true,()))<|
   .l nK.c (x0.halves,()) λc5=>
   .u (!c5) (.r (true,()))<|
   .u (decide (x0.limits.halves<(x0.halves.length:Int))) (.r (true,()))<|
   .d (dX.f (x0.chal,0,x0.limits.chal,())) λc6=>
   .r ((!c6),()))) λ(u7a0,_)=>
  .u u7a0 (.r false)<|
  .lp (lm (0,x0,())).lp λw9=> .sum w9 (λ_=>
  .r false)<|
  λ_=>
  .r true) (ot @DU)
noncomputable def BA:=dm st Tryz.func59 [(0,lb [1,3] [2]),(3000001,rA 0 51)] [cP,Kw,I3,Gl,fx,qT] 0 lm (ks:=[.st .door]) rO rB
noncomputable def FB:=[oo,Mp,ql,EB,IG,tQ,NR]
def pq:An:=⟨⟨[],[],false,0⟩,⟨[2,3,4,5],[],false,0⟩,⟨[],[]⟩,[(.normal,⟨[zp 2 0,(3,false,[.nil]),zp 4 1,zo 5 2],[.box [.st .conn [.nil .piec]],zk .conn 3,za .segm,zf]⟩)]⟩
def pB:An:=⟨⟨[],[],false,0⟩,⟨[1,2,3,4,5],[],false,0⟩,⟨[],[]⟩,[(.normal,⟨[zp 1 0,zp 2 1,(3,false,[.nil]),zp 4 2,zo 5 3],[zg .conn,.box [.st .conn [.nil .piec]],zk .conn 4,za .segm,zf]⟩)]⟩
noncomputable def GJ:Fx:=⟨62,Tryz.f62,[(1000016,pq),(1000023,pB)],0⟩
noncomputable def nD:FT (Conn×Unit) (Conn×List Segm) (λx=>ae x.1) (λx v=>ae v.1∧sL aW v.2∧v.2.length≤49):= .mk λ(x0,_)=>
  .l lf.c (x0,()) λc1=>
  .l z5.c (x0,()) λc2=>
  .u (!c2) (.l nv.c (x0,()) λc3=>
   .bnd (β:=WT pq.es) (.as (λw=>ae w.1∧ae w.2.1∧sL aW w.2.2.1∧w.2.2.1.length≤49) (.u c3 (.r ((⟨⟨0,0,0⟩,0,⟨0,[],0,false,false,false⟩,⟨0,[],[],0,false⟩,0,0,⟨0,0,false,false,0,0⟩,0,0⟩:Conn),({c1 with timer:=0,tries:=0}:Conn),[],()))<|
    .r ((⟨⟨0,0,0⟩,0,⟨0,[],0,false,false,false⟩,⟨0,[],[],0,false⟩,0,0,⟨0,0,false,false,0,0⟩,0,0⟩:Conn),c1,[],()))) λ(_,u4a1,u4a2,_)=>
   .r (u4a1,u4a2))<|
  .bnd (β:=WT pB.es) (.as (λw=>ae w.1∧ae w.2.1∧ae w.2.2.1∧sL aW w.2.2.2.1∧w.2.2.2.1.length≤49) (.u (c1.timer==0) (.u (x0.state==7) (.r (x0,(⟨⟨0,0,0⟩,0,⟨0,[],0,false,false,false⟩,⟨0,[],[],0,false⟩,0,0,⟨0,0,false,false,0,0⟩,0,0⟩:Conn),({c1 with timer:=4}:Conn),[],()))<|
    .r (x0,(⟨⟨0,0,0⟩,0,⟨0,[],0,false,false,false⟩,⟨0,[],[],0,false⟩,0,0,⟨0,0,false,false,0,0⟩,0,0⟩:Conn),({c1 with timer:=3}:Conn),[],()))<|
   .r (x0,(⟨⟨0,0,0⟩,0,⟨0,[],0,false,false,false⟩,⟨0,[],[],0,false⟩,0,0,⟨0,0,false,false,0,0⟩,0,0⟩:Conn),c1,[],()))) λ(u5a0,_,u5a2,u5a3,_)=>
  .u (decide (0<(IntKind.wrap .i64 (u5a2.timer-1)))) (.r (({u5a2 with timer:=(IntKind.wrap .i64 (u5a2.timer-1))}:Conn),u5a3))<|
  .u (u5a0.state==7) (.r (({u5a2 with state:=8,timer:=(IntKind.wrap .i64 (u5a2.timer-1)),tries:=0}:Conn),u5a3))<|
  .u (u5a0.tries==3) (.l vV.c (u5a0,()) λc6=>
   .r (({u5a2 with state:=8,timer:=(IntKind.wrap .i64 (u5a2.timer-1)),tries:=0}:Conn),[({c6 with flags:=(bits .or .i64 c6.flags 4)}:Segm)]))<|
  .l tZ.c (u5a0.s,()) λc7=>
  .d (lr.f (1,u5a2.window,())) λc8=>
  .l GH.c ((⟨u5a2.tuple,u5a2.state,c7,u5a2.r,u5a2.window,u5a2.most,u5a2.opts,(IntKind.wrap .i64 (u5a2.timer-1)),(IntKind.wrap .i64 (u5a0.tries+1))⟩:Conn),c8,()) λc9=>
  .r (({c9.1 with timer:=3}:Conn),c9.2)
noncomputable def wd:=lh st GJ FB [] (ks:=[.st .conn]) nD (λv=>[(true,vr (.o true) v.1),(false,[sc (.o true) .segm v.2])]) Tryz.func62 trivial
noncomputable def tK:FT (Stac×Unit) (Bool) (λx=>bq x.1) (λx v=>(v=true→x.1.door.table.conns.length≤16)):= .mk λ(x0,_)=>
  .l sU.c (x0.link,()) λc1=>
  .u c1 (.l rO.c (x0.door,()) λc2=>
   .r c2)<|
  .r false
noncomputable def IT:=bu st Tryz.func83 [CH,BA] (ks:=[.st .stac]) tK rB
def sv:Sh:=⟨[zi 1,zl 2 .segm,zp 3 0,zo 7 1,zi 8],[.box [.st .stac [.sl .arg,.sl .arg,.sl .arg,.sl .arg,.sl .arg,.sl .arg]],za .str]⟩
noncomputable def th (v0:Int)(v1:List Segm)(v3:Stac)(v2:Int)(a:List ah):Tr (Stp (List ah) (Empty)):=
 .grd (aY v1 v2)<|
 .l lE.c ((v1.getD v2.toNat (Ty.zero .segm)),v3.link.ip,v0,()) λc1=>
 .l uq.c (v3.link,v0,c1,()) λc2=>
 .u c2.2 (.grd (El a 1 16)<|
  .r (.next (a++[c2.1])))<|
 .r (.next a)
noncomputable def gX:sv.V→rL sv (List ah):=λ(v0,v1,v2,v3,v4,_)=>⟨v2,v4,λv2 a=>(v0,v1,v2,v3,a,()),λv2 _=>(decide (v2<(v1.length:Int))),th v0 v1 v3,up,1,(Int.toNat ((v1.length:Int)-v2)),Empty.elim,Prod.mk,oN (.exit 0) ⟨[zu 6,zo 7 0],[za .str]⟩ (λx=>(x.2,()))⟩
theorem Ao {v0 v2:Int}{v1:List Segm}{v3:Stac}{v4:List ah}(h0:0≤v2)(h1:(v1.length:Int)≤4611686018427387904)(h2:sL aW v1)(h3:bq v3)(h4:(v4.length:Int)≤v2∧cI sS v4):(gX (v0,v1,v2,v3,v4,())).U (v1.length:Int) (λv2 a=>(a.length:Int)≤v2∧cI sS a) (λ_=>True):=
 iT (a:=v4) h0 h1 h4
noncomputable def tP:FT (Stac×Int×List Segm×Unit) (List ah) (λx=>bq x.1∧sL aW x.2.2.1) (λx v=>sL sS v∧v.length≤x.2.2.1.length):=⟨λ(x0,x1,x2,_)=>
  .lp (gX (x1,x2,0,x0,[],())).lp λ(_,a3_0)=>
  .r a3_0,
 λ(x0,x1,x2,_) hp=>by
  refine Tr.L (Ao ?_ ?_ ?_ ?_ ?_) (λa3_0 _=>Tr.R ?_) (λp=>Empty.elim p)
  all_goals ((try simp only[gX,LC.lp,LC.ct,Ct.lp]at*)<;>grind)⟩
noncomputable def Ic:=dm st Tryz.func84 [(0,lb [1,2,3,7,8] [6,7])] [zS,G0] 0 gX (ks:=[.st .stac,.sc (.int .i64),.sc (.sl .segm)]) tP (λv=>[(false,[sc (.o true) .str v])])
noncomputable def bE:FT (Tabl×Tupl×Unit) (Int) (λx=>wS x.1.conns) (λx v=> -1≤v∧v<x.1.conns.length):= .mk λ(x0,x1,_)=>
  .l dg.c (x0.conns,x1,()) λc1=>
  .r c1
noncomputable def qb:=bu az Tryz.func107 [kU] (ks:=[.st .tabl,.st .tupl]) bE rI
noncomputable def yy:=[JQ]
def jZ:Sh:=⟨[zl 0 .conn,zi 1,zi 5],[]⟩
noncomputable def yE:Fx:=⟨128,Tryz.f128,[(0,lb [0,1,5] [1,4])],0⟩
noncomputable def nq (v0:List Conn)(v2:Int)(a:Int):Tr (Stp (Int) ((Int))):=
 .grd (aY v0 v2)<|
 .l dj.c ((v0.getD v2.toNat (Ty.zero .conn)),a,()) λc1=>
 .u (decide (c1<0)) (.r (.out c1))<|
 .r (.next c1)
noncomputable def dU:jZ.V→nB jZ Int (Int):=λ(v0,v1,v2,_)=>⟨v2,v1,λv2 a=>(v0,a,v2,()),λv2 _=>(decide (v2<(v0.length:Int))),nq v0,up,1,(Int.toNat ((v0.length:Int)-v2)),.inl,eR,oB .ret ⟨[zi 1,zi 4],[]⟩ (λp=>(p,(-1),())) (.exit 0) ⟨[zi 1,zu 4],[]⟩ (λx=>(x.2,()))⟩
theorem B1:LS Tryz.prog yE [0] (ji 0 jZ dU):=dW st (aL yy) _ dU [] trivial
theorem AE {v0:List Conn}{v1 v2:Int}(h0:0≤v2)(h1:(v0.length:Int)≤4611686018427387904):(dU (v0,v1,v2,())).U (v0.length:Int) (λ_ _=>True) (λ_=>True):=
 iT (a:=v1) h0 h1 trivial
noncomputable def fv:FX (List Conn×Int×Unit) (Int) (λ_=>True) (bP [.sc (.sl .conn),.sc (.int .i64)]):=⟨λ(x0,x1,_)=>
  .u (decide ((IntKind.wrap .i64 (x1-(x0.length:Int)))<0)) (.r (-1))<|
  .lp (dU (x0,(IntKind.wrap .i64 (x1-(x0.length:Int))),0,())).lp λw2=> .sum w2 (λ_=>
  .r (-1))<|
  λ(_,a2_0)=>
  .r a2_0,
 λ(x0,x1,_) hp hf=>by
  simp only[bP,Pk.fact,gd,eo,Fl.fact,Ty.fl,Ty.toH]at hf
  refine Tr.I (λ_=>Tr.R trivial) λ_=>Tr.L (AE ?_ ?_) (λa2_0 _=>Tr.Sr (Tr.R trivial)) (λp2a0 _=>Tr.Sl (Tr.R trivial))
  all_goals ((try simp only[dU,LC.lp,LC.ct,Ct.lp]at*)<;>grind)⟩
theorem EX (xs:List Conn)(k:Int)(h0:0≤k)(h1:k≤1048576)(hl:xs.length≤140737488355328)(he:yN .conn xs)(h:0≤fv.f (xs,k,())):fv.f (xs,k,())≤k∧xs.length≤1048576∧cI ae xs:=by
 have w:IntKind.wrap .i64 (k-(xs.length:Int))=k-(xs.length:Int):=aw (by omega) (by omega)
 simp only[FX.f,PX,fv,dU,w,ai]at h⊢
 by_cases c:k-(xs.length:Int)<0
 ·rw[decide_eq_true c,cond_true]at h;omega
 rw[decide_eq_false c,cond_false]at h⊢
 have hf:∀(j:Nat) x a,xs[j]? =some x→(nq xs (j:Int) a).nice=(bif decide (dj.f (x,a,())<0)then Stp.out (dj.f (x,a,()))else Stp.next (dj.f (x,a,()))):=λj x a hx=>by
  simp only[PX,nq,Z,getD_some hx]
 rw[bi xs _ rfl (F:=λ_ x a=>(bif decide (dj.f (x,a,())<0)then Stp.out (dj.f (x,a,()))else Stp.next (dj.f (x,a,())))) hf]at h⊢
 cases hn:cT (λ_ x a=>(bif decide (dj.f (x,a,())<0)then Stp.out (dj.f (x,a,()))else Stp.next (dj.f (x,a,())))) 0 xs (k-(xs.length:Int))with
 |out p=>rw[hn]at h;simp only[Stp.elim]at h;omega
 |next b=>
  obtain⟨h2,h3⟩:=Aa (λx a=>dj.f (x,a,())) ae xs 0 _ b (λx hx k h0 h1 h=>M8 x k h0 h1 (he x hx) h) (by omega) (by omega) hn
  simp only[Stp.elim]
  exact⟨by omega,by omega,h3⟩
noncomputable def GP:=Mw st yE yy [(ji 0 jZ dU)] (ks:=[.sc (.sl .conn),.sc (.int .i64)]) fv rI Tryz.func128 ⟨B1,trivial⟩
def sZ:Sh:=⟨[zl 0 .conn,(3,false,[.down 0]),zi 4],[.dar .conn]⟩
noncomputable def sD (v0:List Conn)(v1:Int)(a:List Conn):Tr (Stp (List Conn) (Empty)):=
 .grd (aY v0 v1)<|
 .l wT.c ((v0.getD v1.toNat (Ty.zero .conn)),()) λc2=>
 .grd (aY a v1)<|
 .r (.next (a.set v1.toNat c2))
noncomputable def gQ:sZ.V→rL sZ (List Conn):=λ(v0,v1,v2,_)=>⟨v1,v2,λv1 a=>(v0,v1,a,()),λv1 _=>(decide (v1<(v0.length:Int))),sD v0,up,1,(Int.toNat ((v0.length:Int)-v1)),Empty.elim,Prod.mk,oN (.exit 0) ⟨[zu 2,(3,false,[.down 0])],[.dar .conn]⟩ (λx=>(x.2,()))⟩
theorem BQ {v0 v2:List Conn}{v1:Int}(h0:0≤v1)(h1:(v0.length:Int)≤4611686018427387904)(h2:sL ae v0)(h3:sL ae v2)(h4:v2.length=v2.length∧cI ae v2∧(v0.length:Int)≤(v2.length:Int)):(gQ (v0,v1,v2,())).U (v0.length:Int) (λv1 a=>a.length=v2.length∧cI ae a∧(v0.length:Int)≤(a.length:Int)) (λ_=>True):=
 iT (a:=v2) h0 h1 h4
noncomputable def tH:FT (List Conn×Unit) (List Conn) (λx=>sL ae x.1) (λx v=>sL ae v):=⟨λ(x0,_)=>
  .grd ((((decide (0≤(x0.length:Int)))&&(decide ((x0.length:Int)=(x0.length:Int))))&&(decide ((x0.length:Int)*208≤(aD:Int))))&&(decide ((x0.length:Int)≤(aD:Int))))<|
  .d (List.replicate ((x0.length:Int).toNat) (⟨⟨0,0,0⟩,0,⟨0,[],0,false,false,false⟩,⟨0,[],[],0,false⟩,0,0,⟨0,0,false,false,0,0⟩,0,0⟩:Conn)) λl1=>
  .lp (gQ (x0,0,l1,())).lp λ(_,a3_0)=>
  .r a3_0,
 λ(x0,_) hp=>by
  refine Tr.G4 ?_ λ_=>Tr.V λ_ _=>Tr.L (BQ ?_ ?_ ?_ ?_ ?_) (λa3_0 _=>Tr.R ?_) (λp=>Empty.elim p)
  all_goals ((try simp only[gQ,LC.lp,LC.ct,Ct.lp]at*)<;>grind)⟩
noncomputable def Id:=dm az Tryz.func147 [(0,lb [0,3,4] [2,3])] [JB] 0 gQ (ks:=[.sc (.sl .conn)]) tH (λv=>[(false,[sc .d .conn v])])
noncomputable def lR:FT (Door×Unit) (Door) (λx=>aN x.1) (λx v=>aN v∧v.table.conns.length=x.1.table.conns.length∧v.table.waiting.length=x.1.table.waiting.length∧v.halves=x.1.halves):= .mk λ(x0,_)=>
  .l n5.c (x0.keys,()) λc1=>
  .l mO.c (x0.halves,()) λc2=>
  .l ke.c (x0.table,()) λc3=>
  .r (⟨x0.port,x0.clock,c1,x0.limits,c2,c3,x0.chal⟩:Door)
noncomputable def uX:=bu az Tryz.func149 [DK,AJ,td] (ks:=[.st .door]) lR (λv=>[(true,xB (.o true) (.o true) (.o true) .d (.o true) v)])
def sV:Sh:=⟨[zl 0 .conn,zl 1 .conn,zi 5],[]⟩
noncomputable def sI (v0 v1:List Conn)(v2:Int)(a:Unit):Tr (Stp (Unit) ((Unit))):=
 .grd (aY v0 v2)<|
 .grd (aY v1 v2)<|
 .l wz.c ((v0.getD v2.toNat (Ty.zero .conn)),(v1.getD v2.toNat (Ty.zero .conn)),()) λc1=>
 .u (!c1) (.r (.out ()))<|
 .r (.next ())
noncomputable def kH:sV.V→nB sV Unit (Unit):=λ(v0,v1,v2,_)=>⟨v2,(),λv2 _=>(v0,v1,v2,()),λv2 _=>(decide (v2<(v0.length:Int))),sI v0 v1,up,1,(Int.toNat ((v0.length:Int)-v2)),.inl,eR,oB .ret ⟨[zb 4],[]⟩ (λ_=>(false,())) (.exit 0) ⟨[zu 4],[]⟩ (λ_=>())⟩
theorem A3 {v0 v1:List Conn}{v2:Int}(h0:0≤v2)(h1:(v0.length:Int)≤4611686018427387904)(h2:sL ae v0)(h3:sL ae v1)(h4:(v0.length:Int)≤(v1.length:Int)):(kH (v0,v1,v2,())).U (v0.length:Int) (λ_ _=>True) (λ_=>True):=
 iT h0 h1 trivial
noncomputable def tG:FT (List Conn×List Conn×Unit) (Bool) (λx=>sL ae x.1∧sL ae x.2.1) (λ_ _=>True):= .mk (λ(x0,x1,_)=>
  .u ((x0.length:Int) != (x1.length:Int)) (.r false)<|
  .lp (kH (x0,x1,0,())).lp λw2=> .sum w2 (λ_=>
  .r false)<|
  λ_=>
  .r true) (ot @A3)
noncomputable def IP:=dm st Tryz.func155 [(0,lb [0,1,5] [4])] [Jj] 0 kH (ks:=[.sc (.sl .conn),.sc (.sl .conn)]) tG rB
noncomputable def tv:=[Ge,qt,qb,ro]
def kq:Sh:=⟨[zp 2 0,zl 29 .conn,zi 30,zi 31],[.box [.st .tabl [.sl .arg,.sl .arg]]]⟩
def jX:Sh:=⟨[zp 2 0,zl 49 .tupl,zi 50,zi 51],[.box [.st .tabl [.sl .arg,.sl .arg]]]⟩
noncomputable def ss:Fx:=⟨253,Tryz.f253,[(0,lb [2,29,30,31] [2,4]),(2,lb [2,49,50,51] [4]),(3000001,rA 0 27)],0⟩
noncomputable def di (v0:List Conn)(v3:Tabl)(v2:Int)(a:Unit):Tr (Stp (Unit) ((Unit))):=
 .grd (aY v0 v2)<|
 .l cm.c ((v0.getD v2.toNat (Ty.zero .conn)),()) λc3=>
 .u (!c3) (.r (.out ()))<|
 .l bE.c (v3,(v0.getD v2.toNat (Ty.zero .conn)).tuple,()) λc4=>
 .u (c4 != v2) (.r (.out ()))<|
 .r (.next ())
noncomputable def dV:kq.V→nB kq Unit (Unit):=λ(v0,v1,v2,v3,_)=>⟨v2,(),λv2 _=>(v0,v1,v2,v3,()),λv2 _=>(decide (v2<v1)),di v0 v3,up,1,(Int.toNat (v1-v2)),.inl,eR,oB .ret ⟨[zp 2 0,zb 4],[.box [.st .tabl [.sl .arg,.sl .arg]]]⟩ (λ_=>(false,v3,())) (.exit 0) ⟨[zp 2 0,zu 4],[.box [.st .tabl [.sl .arg,.sl .arg]]]⟩ (λ_=>(v3,()))⟩
theorem Am:LS Tryz.prog ss [0] (ji 0 kq dV):=dW az (aL tv) _ dV [] trivial
theorem C3 {v0:List Conn}{v1 v2:Int}{v3:Tabl}(h0:0≤v2)(h1:v1≤4611686018427387904)(h2:sL ae v0)(h3:aF v3)(h4:v1≤(v0.length:Int)):(dV (v0,v1,v2,v3,())).U v1 (λ_ _=>True) (λ_=>True):=
 iT h0 h1 trivial
noncomputable def cZ (v0:List Tupl)(v3:Tabl)(v2:Int)(a:Unit):Tr (Stp (Unit) ((Unit))):=
 .grd (aY v0 v2)<|
 .l bE.c (v3,(v0.getD v2.toNat (Ty.zero .tupl)),()) λc6=>
 .u (decide (c6<0)) (.r (.out ()))<|
 .l iU.c (v3.waiting,(v0.getD v2.toNat (Ty.zero .tupl)),()) λc7=>
 .u (c7 != v2) (.r (.out ()))<|
 .r (.next ())
noncomputable def d7:jX.V→nB jX Unit (Unit):=λ(v0,v1,v2,v3,_)=>⟨v2,(),λv2 _=>(v0,v1,v2,v3,()),λv2 _=>(decide (v2<v1)),cZ v0 v3,up,1,(Int.toNat (v1-v2)),.inl,eR,oB .ret ⟨[zb 4],[]⟩ (λ_=>(false,())) (.exit 2) ⟨[zu 4],[]⟩ (λ_=>())⟩
theorem B7:LS Tryz.prog ss [1] (ji 2 jX d7):=dW az (aL tv) _ d7 [] trivial
theorem nR {v0:List Tupl}{v1 v2:Int}{v3:Tabl}(h0:0≤v2)(h1:v1≤4611686018427387904)(h2:sS v0)(h3:aF v3)(h4:v1≤(v0.length:Int)):(d7 (v0,v1,v2,v3,())).U v1 (λ_ _=>True) (λ_=>True):=
 iT h0 h1 trivial
noncomputable def iD:FT (Tabl×Limi×Unit) (Bool) (λx=>wS x.1.conns∧cI ae x.1.conns∧wS x.1.waiting) (λx v=>(v=true→x.1.conns.length≤16∧x.1.waiting.length≤16)):= .mk (λ(x0,x1,_)=>
  .bnd (β:=Bool×Unit) (.as (λw=>(w.1=false→x1.halves≤64∧x1.waiting≤16∧x1.conns≤16)) (.l dY.c (x1,()) λc1=>
   .u (!c1) (.r (true,()))<|
   .u (decide (x1.conns<(x0.conns.length:Int))) (.r (true,()))<|
   .r ((decide (x1.waiting<(x0.waiting.length:Int))),()))) λ(u2a0,_)=>
  .u u2a0 (.r false)<|
  .lp (dV (x0.conns,(x0.conns.length:Int),0,x0,())).lp λw5=> .sum w5 (λ_=>
  .r false)<|
  λ_=>
  .lp (d7 (x0.waiting,(x0.waiting.length:Int),0,x0,())).lp λw8=> .sum w8 (λ_=>
  .r false)<|
  λ_=>
  .r true) (Rs @C3 @nR @nR @nR)
noncomputable def Ij:=lh az ss tv [(ji 0 kq dV),(ji 2 jX d7)] (ks:=[.st .tabl,.st .limi]) iD rB Tryz.func253 ⟨Am,B7,trivial⟩
noncomputable def qq:FT (List Half×Tupl×Unit) (Int) (λx=>wS x.1) (λx v=> -1≤v∧v<x.1.length):= .mk λ(x0,x1,_)=>
  .l dq.c (x0,x1,()) λc1=>
  .r c1
noncomputable def FL:=bu az Tryz.func320 [kR] (ks:=[.sc (.sl .half),.st .tupl]) qq rI
noncomputable def x9:FT (MacRow×MacRow×Unit) (Bool) (λ_=>True) (λ_ _=>True):= .mk λ(x0,y1,_)=>
  .r (x0.input==y1.input)
noncomputable def H1:=jT az ⟨306,Tryz.f306,[],1⟩ [] [] [.st .macRow,.wr false [.ptr 0]] [.box [.st .macRow]] (λx y=>(x.1,y.1.1,())) x9 rB (λx y v=>((y.1.1,()),())) Tryz.func306 (by kernel_rfl) trivial

end
end Go.Proofs.YtffjmkhjhchnmaaGreat
