/-
  Contracts of functions and plain laws (printed by a program): each theorem says what a function of the program returns; conditions are its hypotheses.
-/
import Derived.Test.YtffjmkhjhchnmaaGreatET1
set_option linter.all false
set_option maxRecDepth 4000
namespace Go.Proofs.YtffjmkhjhchnmaaGreat
open Go Go.RowKit
noncomputable section
noncomputable def fE:=[H1]
def bJ:Sh:=⟨[zl 0 .macRow,(1,false,[.fn 306 [0]]),zi 7,zi 8],[zx .macRow]⟩
noncomputable def fk:Fx:=⟨393,Tryz.f393,[(0,la ⟨[0,1,7,8],[],false,1⟩ ⟨[4],[],false,1⟩)],1⟩
noncomputable def eb (v0:List MacRow)(v3:MacRow)(v2:Int)(a:Unit):Tr (Stp (Unit) ((Int))):=
 .grd (aY v0 v2)<|
 .l x9.c ((v0.getD v2.toNat (Ty.zero .macRow)),v3,()) λc1=>
 .u c1 (.r (.out v2))<|
 .r (.next ())
noncomputable def aO:bJ.V→nB bJ Unit (Int):=λ(v0,v1,v2,v3,_)=>⟨v2,(),λv2 _=>(v0,v1,v2,v3,()),λv2 _=>(decide (v2<v1)),eb v0 v3,up,1,(Int.toNat (v1-v2)),.inl,eR,oB .ret ⟨[zi 4],[zx .macRow]⟩ (λp=>(p,v3,())) (.exit 0) ⟨[zu 4],[zx .macRow]⟩ (λ_=>(v3,()))⟩
theorem jO:LS Tryz.prog fk [0] (ji 0 bJ aO):=dW st (aL fE) _ aO [] trivial
theorem jU {v0:List MacRow}{v1 v2:Int}{v3:MacRow}(h0:0≤v2)(h1:v1≤4611686018427387904)(h2:v1≤(v0.length:Int)):(aO (v0,v1,v2,v3,())).U v1 (λ_ _=>True) (λp=>v2≤p∧p<v1):=
 iT h0 h1 trivial
noncomputable def dC:FT (List MacRow×MacRow×Unit) (Int) (λx=>wS x.1) (λx v=> -1≤v∧v<x.1.length):= .mk (λ(x0,y1_0,_)=>
  .lp (aO (x0,(x0.length:Int),0,y1_0,())).lp λw2=> .sum w2 (λp2a0=>
  .r p2a0)<|
  λ_=>
  .r (-1)) (ot @jU)
noncomputable def kX:=jT st fk fE [(ji 0 bJ aO)] [.sc (.sl .macRow),.fn 306 [0]] [.box [.st .macRow]] (λx y=>(x.1,y.1.1,())) dC rI (λx y v=>((y.1.1,()),())) Tryz.func393 (by kernel_rfl) ⟨jO,trivial⟩
noncomputable def xw:=[yC,BA,Cm,Ay,wd,Mb]
def jg:Sh:=⟨[zp 2 0,zp 4 1,zo 5 2,zi 6],[.box [.st .door [.nil .macRow,.nil .macRow,.nil .half,.nil .conn,.nil .tupl]],.box [.st .door [.own 3,.own 4,.own 5,.own 6,.own 7]],za .segm,zf,zf,zf,zf,zf]⟩
noncomputable def vQ:Fx:=⟨10,Tryz.f10,[(0,lb [2,4,5,6] [2,3,4,5])],0⟩
noncomputable def mc (v0:Int)(a:Door×Door×List Segm):Tr (Stp (Door×Door×List Segm) (Empty)):=
 .grd (aY a.2.1.table.conns v0)<|
 .l nD.c ((a.2.1.table.conns.getD v0.toNat (Ty.zero .conn)),()) λc5=>
 .grd (aY a.2.1.table.conns v0)<|
 .grd (Nat.ble ((2*(a.2.2.length+c5.2.length)+1024)*104) aD)<|
 .r (.next (({a.1 with keys.now.rows:=[],keys.before.rows:=[],halves:=[],table.conns:=[],table.waiting:=[]}:Door),({a.2.1 with table.conns:=(a.2.1.table.conns.set v0.toNat c5.1)}:Door),(a.2.2++c5.2)))
noncomputable def bG:jg.V→rL jg (Door×Door×List Segm):=λ(v0,v1,v2,v3,_)=>⟨v0,(v1,v2,v3),λv0 a=>(v0,a.1,a.2.1,a.2.2,()),λv0 a=>(decide (v0<(a.2.1.table.conns.length:Int))),mc,up,1,(Int.toNat ((v2.table.conns.length:Int)-v0)),Empty.elim,Prod.mk,oN (.exit 0) ⟨[zp 2 0,zu 3,zp 4 1,zo 5 2],[.box [.st .door [.nil .macRow,.nil .macRow,.nil .half,.nil .conn,.nil .tupl]],.box [.st .door [.own 3,.own 4,.own 5,.own 6,.own 7]],za .segm,zf,zf,zf,zf,zf]⟩ (λx=>(({x.2.1 with keys.now.rows:=[],keys.before.rows:=[],halves:=[],table.conns:=[],table.waiting:=[]}:Door),x.2.2.1,x.2.2.2,()))⟩
set_option maxHeartbeats 4000000 in
theorem zj:LS Tryz.prog vQ [0] (ji 0 jg bG):=dW st (aL xw) _ bG [] trivial
theorem zh {v0:Int}{v1 v2:Door}{v3:List Segm}(h0:0≤v0)(h1:(v2.table.conns.length:Int)≤4611686018427387904)(h2:sL aj v2.keys.now.rows)(h3:sL aj v2.keys.before.rows)(h4:sS v2.halves)(h5:sL ae v2.table.conns)(h6:sS v2.table.waiting)(h7:aN v1∧v2.keys.now.rows.length=v2.keys.now.rows.length∧cI aj v2.keys.now.rows∧v2.keys.before.rows.length=v2.keys.before.rows.length∧cI aj v2.keys.before.rows∧v2.halves.length=v2.halves.length∧v2.table.conns.length=v2.table.conns.length∧cI ae v2.table.conns∧v2.table.waiting.length=v2.table.waiting.length∧sL aW v3∧0≤v0∧v0≤16∧v2.table.conns.length≤16∧(v3.length:Int)≤49*v0):(bG (v0,v1,v2,v3,())).S (λv0 a=>a.2.1.table.conns.length=v2.table.conns.length∧aN a.1∧a.2.1.keys.now.rows.length=v2.keys.now.rows.length∧cI aj a.2.1.keys.now.rows∧a.2.1.keys.before.rows.length=v2.keys.before.rows.length∧cI aj a.2.1.keys.before.rows∧a.2.1.halves.length=v2.halves.length∧a.2.1.table.conns.length=v2.table.conns.length∧cI ae a.2.1.table.conns∧a.2.1.table.waiting.length=v2.table.waiting.length∧sL aW a.2.2∧0≤v0∧v0≤16∧a.2.1.table.conns.length≤16∧(a.2.2.length:Int)≤49*v0) (λ_=>True):=by
 refine LC.okS ⟨rfl,h7⟩ (λj a hj hv=>⟨⟨?_, ?_⟩, ?_⟩) (λa hv=> ?_)
 ·simp only[bG,decide_eq_true_eq]at*;omega
 ·simp only[bG]at*;exact MH (by omega) (by omega)
 ·refine Tr.G2 ?_ λ_=>Tr.C ?_ λ_ _ _=>Tr.G2 ?_ λ_=>Tr.Gb ?_ λ_=>Tr.Rn ?_
  all_goals (try simp only[bG]at*)<;>(grind)
 ·simp only[bG,decide_eq_false_iff_not]at*;omega
noncomputable def jr:FT (Door×Unit) (Door×List Segm) (λx=>aN x.1) (λx v=>aN v.1∧sL aW v.2):=⟨λ(x0,_)=>
  .l pr.c (x0,()) λc1=>
  .l rO.c (x0,()) λc2=>
  .u (!c2) (.r (c1,[]))<|
  .d (gO.f ((IntKind.wrap .i64 (x0.clock+1)),())) λc3=>
  .l mS.c (x0.halves,()) λc4=>
  .lp (bG (0,(⟨0,0,⟨0,⟨false,0,0,[]⟩,⟨false,0,0,[]⟩,false⟩,⟨0,0,0,0⟩,[],⟨[],[]⟩,0⟩:Door),({c1 with clock:=c3,halves:=c4,chal:=0}:Door),[],())).lp λ(_,_,a6_1,a6_2)=>
  .l Ah.c (a6_1.table,()) λc7=>
  .r (({a6_1 with table.conns:=c7.conns,table.waiting:=c7.waiting}:Door),a6_2),
 λ(x0,_) hp=>by
  refine Tr.C ?_ λ_ _ _=>Tr.C ?_ λ_ _ _=>Tr.I (λ_=>Tr.R ?_) λ_=>Tr.V λ_ _=>Tr.C ?_ λ_ _ _=>Tr.L (zh ?_ ?_ ?_ ?_ ?_ ?_ ?_ ?_) (λ(a6_0,a6_1,a6_2) _=>Tr.C ?_ λ_ _ _=>Tr.R ?_) (λp=>Empty.elim p)
  all_goals ((try simp only[bG,LC.lp,LC.ct,Ct.lp]at*)<;>grind)⟩
noncomputable def wh:=lh st vQ xw [(ji 0 jg bG)] (ks:=[.st .door]) jr (λv=>[(true,xB (.o true) (.o true) (.o true) (.o true) (.o true) v.1),(false,[sc (.o true) .segm v.2])]) Tryz.func10 ⟨zj,trivial⟩
def pJ:Sh:=⟨[zp 1 0,zp 2 1,zp 4 2,zo 5 3,zi 6],[.box [.st .stac [.sl .arg,.sl .arg,.sl .arg,.sl .arg,.sl .arg,.sl .arg]],.box [.st .stac [.nil .entr,.nil .macRow,.nil .macRow,.nil .half,.nil .conn,.nil .tupl]],.box [.st .stac [.own 4,.own 5,.own 6,.own 7,.own 8,.own 9]],za .str,zf,zf,zf,zf,zf,zf]⟩
noncomputable def k9 (v1:Stac)(v0:Int)(a:Stac×List ah):Tr (Stp (Stac×List ah) (Empty)):=
 .grd (aY v1.door.table.conns v0)<|
 .l nD.c ((v1.door.table.conns.getD v0.toNat (Ty.zero .conn)),()) λc3=>
 .l tP.c (v1,(v1.door.table.conns.getD v0.toNat (Ty.zero .conn)).tuple.ip,c3.2,()) λc4=>
 .grd (Nat.ble ((2*(a.2.length+c4.length)+1024)*16) aD)<|
 .r (.next (({a.1 with link.cache:=[],door.keys.now.rows:=[],door.keys.before.rows:=[],door.halves:=[],door.table.conns:=[],door.table.waiting:=[]}:Stac),(a.2++c4)))
noncomputable def fA:pJ.V→rL pJ (Stac×List ah):=λ(v0,v1,v2,v3,v4,_)=>⟨v0,(v2,v4),λv0 a=>(v0,v1,a.1,v3,a.2,()),λv0 _=>(decide (v0<(v1.door.table.conns.length:Int))),k9 v1,up,1,(Int.toNat ((v1.door.table.conns.length:Int)-v0)),Empty.elim,Prod.mk,oN (.exit 0) ⟨[zp 1 0,zp 2 1,zu 3,zp 4 2,zo 5 3],[.box [.st .stac [.sl .arg,.sl .arg,.sl .arg,.sl .arg,.sl .arg,.sl .arg]],.box [.st .stac [.nil .entr,.nil .macRow,.nil .macRow,.nil .half,.nil .conn,.nil .tupl]],.box [.st .stac [.own 4,.own 5,.own 6,.own 7,.own 8,.own 9]],za .str,zf,zf,zf,zf,zf,zf]⟩ (λx=>(v1,({x.2.1 with link.cache:=[],door.keys.now.rows:=[],door.keys.before.rows:=[],door.halves:=[],door.table.conns:=[],door.table.waiting:=[]}:Stac),v3,x.2.2,()))⟩
theorem xF {v0:Int}{v1 v2 v3:Stac}{v4:List ah}(h0:0≤v0)(h1:(v1.door.table.conns.length:Int)≤4611686018427387904)(h2:v1.door.table.conns.length≤16)(h3:bq v1)(h4:bq v2∧sL sS v4∧(v4.length:Int)≤49*v0):(fA (v0,v1,v2,v3,v4,())).U (v1.door.table.conns.length:Int) (λv0 a=>bq a.1∧sL sS a.2∧(a.2.length:Int)≤49*v0) (λ_=>True):=
 iT (a:=(v2,v4)) h0 h1 h4
noncomputable def gJ:FT (Stac×Unit) (Stac×List ah) (λx=>bq x.1) (λx v=>bq v.1∧sL sS v.2):=⟨λ(x0,_)=>
  .l t5.c (x0,()) λc1=>
  .l tK.c (x0,()) λc2=>
  .u (!c2) (.r (c1,[]))<|
  .lp (fA (0,x0,(⟨⟨0,0,[]⟩,⟨0,0,⟨0,⟨false,0,0,[]⟩,⟨false,0,0,[]⟩,false⟩,⟨0,0,0,0⟩,[],⟨[],[]⟩,0⟩⟩:Stac),c1,[],())).lp λ(_,_,a5_1)=>
  .l jr.c (x0.door,()) λc6=>
  .l Gg.c (x0.link.cache,()) λc7=>
  .r ((⟨⟨c1.link.mac,c1.link.ip,c7⟩,c6.1⟩:Stac),a5_1),
 λ(x0,_) hp=>by
  refine Tr.C ?_ λ_ _ _=>Tr.C ?_ λ_ _ _=>Tr.I (λ_=>Tr.R ?_) λ_=>Tr.L (xF ?_ ?_ ?_ ?_ ?_) (λ(a5_0,a5_1) _=>Tr.C ?_ λ_ _ _=>Tr.C ?_ λ_ _ _=>Tr.R ?_) (λp=>Empty.elim p)
  all_goals ((try simp only[fA,LC.lp,LC.ct,Ct.lp]at*)<;>grind)⟩
noncomputable def DJ:=dm st Tryz.func20 [(0,lb [1,2,4,5,6] [1,2,3,4,5])] [Iq,IT,wd,Ic,wh,MZ] 0 fA (ks:=[.st .stac]) gJ (λv=>[(true,AG (.o true) (.o true) (.o true) (.o true) (.o true) (.o true) v.1),(false,[sc (.o true) .str v.2])])
noncomputable def cJ:FX (Tabl×Int×Unit) (Int) (λ_=>True) (bP [.st .tabl,.sc (.int .i64)]):=⟨λ(x0,x1,_)=>
  .l fv.c (x0.conns,x1,()) λc1=>
  .u (decide (c1<0)) (.r (-1))<|
  .l fS.c (x0.waiting,c1,()) λc2=>
  .u (decide (c2<0)) (.r (-1))<|
  .r c2,
 λ(x0,x1,_) hp hf=>by
  simp only[bP,Pk.fact,gd,eo,Fl.fact,Ty.fl,Ty.toH]at hf
  refine Tr.C trivial λ_ _ _=>Tr.I (λ_=>Tr.R trivial) λ_=>Tr.C trivial λ_ _ _=>Tr.F (by kernel_rfl) trivial⟩
theorem ME (x:Tabl)(k:Int)(h0:0≤k)(h1:k≤1048576)(hl:x.conns.length≤140737488355328)(he:yN .conn x.conns)(hw:x.waiting.length≤140737488355328)(h:0≤cJ.f (x,k,())):cJ.f (x,k,())≤k∧aF x:=by
 have e:cJ.f (x,k,())=(bif decide (fv.f (x.conns,k,())<0)then-1 else(bif decide (fS.f (x.waiting,fv.f (x.conns,k,()),())<0)then-1 else fS.f (x.waiting,fv.f (x.conns,k,()),()))):=by first|(simp only[FX.f,PX,cJ];done)|(simp only[FX.f,PX,cJ];rfl)
 rw[e]at h⊢
 obtain⟨p0,e0⟩:=iK h
 rw[e0]at h⊢
 obtain⟨p1,e1⟩:=iK h
 rw[e1]at h⊢
 have b0:=EX _ _ h0 (by omega) hl he p0
 have b1:=A9 _ _ p0 (by omega) hw p1
 refine⟨by omega, ?_⟩
 unfold aF
 exact⟨by omega,b0.2.2,by omega⟩
theorem LV (x:Tabl)(k:Int)(h0:0≤k)(h1:k≤1048576)(hl:x.conns.length≤140737488355328)(he:yN .conn x.conns)(hw:x.waiting.length≤140737488355328)(h:0≤cJ.f (x,k,())):cJ.f (x,k,())≤k∧x.conns.length≤1048576:=by
 have e:cJ.f (x,k,())=(bif decide (fv.f (x.conns,k,())<0)then-1 else(bif decide (fS.f (x.waiting,fv.f (x.conns,k,()),())<0)then-1 else fS.f (x.waiting,fv.f (x.conns,k,()),()))):=by first|(simp only[FX.f,PX,cJ];done)|(simp only[FX.f,PX,cJ];rfl)
 rw[e]at h⊢
 obtain⟨p0,e0⟩:=iK h
 rw[e0]at h⊢
 obtain⟨p1,e1⟩:=iK h
 rw[e1]at h⊢
 have b0:=EX _ _ h0 (by omega) hl he p0
 have b1:=A9 _ _ p0 (by omega) hw p1
 refine⟨by omega, ?_⟩
 exact b0.2.1
noncomputable def HX:=oG st Tryz.func57 [GP,GL] (ks:=[.st .tabl,.sc (.int .i64)]) cJ rI
noncomputable def t7:FT (Tabl×Unit) (Tabl) (λx=>aF x.1) (λx v=>aF v):= .mk λ(x0,_)=>
  .l tH.c (x0.conns,()) λc1=>
  .l qg.c (x0.waiting,()) λc2=>
  .r (⟨c1,c2⟩:Tabl)
noncomputable def GY:=bu az Tryz.func67 [Id,Fs] (ks:=[.st .tabl]) t7 (λv=>[(true,Bp .d (.o true) v)])
noncomputable def tL:FT (Tabl×Tabl×Unit) (Bool) (λx=>aF x.1∧aF x.2.1) (λ_ _=>True):= .mk λ(x0,x1,_)=>
  .l tG.c (x0.conns,x1.conns,()) λc1=>
  .u (!c1) (.r false)<|
  .l qm.c (x0.waiting,x1.waiting,()) λc2=>
  .u (!c2) (.r false)<|
  .r true
noncomputable def Ho:=bu st Tryz.func72 [IP,Fh] (ks:=[.st .tabl,.st .tabl]) tL rB
noncomputable def mD:FT (Stac×Unit) (Stac) (λx=>bq x.1) (λx v=>bq v):= .mk λ(x0,_)=>
  .l s9.c (x0.link,()) λc1=>
  .l lR.c (x0.door,()) λc2=>
  .r (⟨c1,c2⟩:Stac)
noncomputable def AC:=bu az Tryz.func87 [DX,uX] (ks:=[.st .stac]) mD (λv=>[(true,AG (.o true) (.o true) (.o true) (.o true) .d (.o true) v)])
def ru:Sh:=⟨[zl 0 .half,zl 8 .half,zi 9,zi 10],[]⟩
noncomputable def me (v0 v1:List Half)(v3:Int)(a:Unit):Tr (Stp (Unit) ((Unit))):=
 .grd (aY v1 v3)<|
 .l cH.c ((v1.getD v3.toNat (Ty.zero .half)).tuple,()) λc1=>
 .u (!c1) (.r (.out ()))<|
 .l aa.c ((v1.getD v3.toNat (Ty.zero .half)).iss,32,()) λc2=>
 .u (!c2) (.r (.out ()))<|
 .l aa.c ((v1.getD v3.toNat (Ty.zero .half)).irs,32,()) λc3=>
 .u (!c3) (.r (.out ()))<|
 .l aa.c ((v1.getD v3.toNat (Ty.zero .half)).window,16,()) λc4=>
 .u (!c4) (.r (.out ()))<|
 .l bf.c ((v1.getD v3.toNat (Ty.zero .half)).opts,()) λc5=>
 .u (!c5) (.r (.out ()))<|
 .d (bF.f ((v1.getD v3.toNat (Ty.zero .half)).age,0,6,())) λc6=>
 .u (!c6) (.r (.out ()))<|
 .l qq.c (v0,(v1.getD v3.toNat (Ty.zero .half)).tuple,()) λc7=>
 .u (c7 != v3) (.r (.out ()))<|
 .r (.next ())
noncomputable def i6:ru.V→nB ru Unit (Unit):=λ(v0,v1,v2,v3,_)=>⟨v3,(),λv3 _=>(v0,v1,v2,v3,()),λv3 _=>(decide (v3<v2)),me v0 v1,up,1,(Int.toNat (v2-v3)),.inl,eR,oB .ret ⟨[zb 2],[]⟩ (λ_=>(false,())) (.exit 0) ⟨[zu 2],[]⟩ (λ_=>())⟩
theorem zP {v0 v1:List Half}{v2 v3:Int}(h0:0≤v3)(h1:v2≤4611686018427387904)(h2:wS v0)(h3:v2≤(v1.length:Int)):(i6 (v0,v1,v2,v3,())).U v2 (λ_ _=>True) (λ_=>True):=
 iT h0 h1 trivial
noncomputable def gZ:FT (List Half×Unit) (Bool) (λx=>wS x.1) (λx v=>(v=true→x.1.length≤64)):= .mk (λ(x0,_)=>
  .u (decide (64<(x0.length:Int))) (.r false)<|
  .lp (i6 (x0,x0,(x0.length:Int),0,())).lp λw8=> .sum w8 (λ_=>
  .r false)<|
  λ_=>
  .r true) (ot @zP)
noncomputable def Gj:=dm az Tryz.func254 [(0,lb [0,8,9,10] [2])] [yJ,cQ,ly,cG,FL] 0 i6 (ks:=[.sc (.sl .half)]) gZ rB
noncomputable def bV:FT (List MacRow×MacRow×Unit) (Bool) (λx=>sL aj x.1∧aj x.2.1) (λ_ _=>True):= .mk λ(x0,y1_0,_)=>
  .l dC.c (x0,y1_0,()) λc1=>
  .r (decide (0≤c1))
noncomputable def jV:=jT st ⟨305,Tryz.f305,[],1⟩ [kX] [] [.sc (.sl .macRow),.fn 306 [0]] [.box [.st .macRow]] (λx y=>(x.1,y.1.1,())) bV rB (λx y v=>((y.1.1,()),())) Tryz.func305 (by kernel_rfl) trivial
noncomputable def cf:FX (Door×Int×Unit) (Int) (λ_=>True) (bP [.st .door,.sc (.int .i64)]):=⟨λ(x0,x1,_)=>
  .l d5.c (x0.keys,x1,()) λc1=>
  .u (decide (c1<0)) (.r (-1))<|
  .l fh.c (x0.halves,c1,()) λc2=>
  .u (decide (c2<0)) (.r (-1))<|
  .l cJ.c (x0.table,c2,()) λc3=>
  .u (decide (c3<0)) (.r (-1))<|
  .r c3,
 λ(x0,x1,_) hp hf=>by
  simp only[bP,Pk.fact,gd,eo,Fl.fact,Ty.fl,Ty.toH]at hf
  refine Tr.C trivial λ_ _ _=>Tr.I (λ_=>Tr.R trivial) λ_=>Tr.C trivial λ_ _ _=>Tr.I (λ_=>Tr.R trivial) λ_=>Tr.C trivial λ_ _ _=>Tr.F (by kernel_rfl) trivial⟩
theorem CQ (x:Door)(k:Int)(h0:0≤k)(h1:k≤1048576)(n1:x.keys.now.rows.length≤140737488355328)(n2:yN .macRow x.keys.now.rows)(m1:x.keys.before.rows.length≤140737488355328)(m2:yN .macRow x.keys.before.rows)(hh:x.halves.length≤140737488355328)(hl:x.table.conns.length≤140737488355328)(he:yN .conn x.table.conns)(hw:x.table.waiting.length≤140737488355328)(h:0≤cf.f (x,k,())):cf.f (x,k,())≤k∧aN x:=by
 have e:cf.f (x,k,())=(bif decide (d5.f (x.keys,k,())<0)then-1 else(bif decide (fh.f (x.halves,d5.f (x.keys,k,()),())<0)then-1 else(bif decide (cJ.f (x.table,fh.f (x.halves,d5.f (x.keys,k,()),()),())<0)then-1 else cJ.f (x.table,fh.f (x.halves,d5.f (x.keys,k,()),()),())))):=by first|(simp only[FX.f,PX,cf];done)|(simp only[FX.f,PX,cf];rfl)
 rw[e]at h⊢
 obtain⟨p0,e0⟩:=iK h
 rw[e0]at h⊢
 obtain⟨p1,e1⟩:=iK h
 rw[e1]at h⊢
 obtain⟨p2,e2⟩:=iK h
 rw[e2]at h⊢
 have b0:=Hu _ _ h0 (by omega) n1 n2 m1 m2 p0
 have b1:=Ec _ _ p0 (by omega) hh p1
 have b2:=ME _ _ p1 (by omega) hl he hw p2
 refine⟨by omega, ?_⟩
 have q0:=b0.2
 have q1:=b1.2
 have q2:=b2.2
 unfold eY at q0
 unfold aF at q2
 unfold aN
 exact⟨q0.1,q0.2.1,q0.2.2.1,q0.2.2.2,by omega,q2.1,q2.2.1,q2.2.2⟩
theorem HS (x:Door)(k:Int)(h0:0≤k)(h1:k≤1048576)(n1:x.keys.now.rows.length≤140737488355328)(n2:yN .macRow x.keys.now.rows)(m1:x.keys.before.rows.length≤140737488355328)(m2:yN .macRow x.keys.before.rows)(hh:x.halves.length≤140737488355328)(hl:x.table.conns.length≤140737488355328)(he:yN .conn x.table.conns)(hw:x.table.waiting.length≤140737488355328)(h:0≤cf.f (x,k,())):cf.f (x,k,())≤k∧x.table.conns.length≤1048576:=by
 have e:cf.f (x,k,())=(bif decide (d5.f (x.keys,k,())<0)then-1 else(bif decide (fh.f (x.halves,d5.f (x.keys,k,()),())<0)then-1 else(bif decide (cJ.f (x.table,fh.f (x.halves,d5.f (x.keys,k,()),()),())<0)then-1 else cJ.f (x.table,fh.f (x.halves,d5.f (x.keys,k,()),()),())))):=by first|(simp only[FX.f,PX,cf];done)|(simp only[FX.f,PX,cf];rfl)
 rw[e]at h⊢
 obtain⟨p0,e0⟩:=iK h
 rw[e0]at h⊢
 obtain⟨p1,e1⟩:=iK h
 rw[e1]at h⊢
 obtain⟨p2,e2⟩:=iK h
 rw[e2]at h⊢
 have b0:=Hu _ _ h0 (by omega) n1 n2 m1 m2 p0
 have b1:=Ec _ _ p0 (by omega) hh p1
 have b2:=LV _ _ p1 (by omega) hl he hw p2
 refine⟨by omega, ?_⟩
 exact b2.2
noncomputable def BD:=oG st Tryz.func9 [Jg,G5,HX] (ks:=[.st .door,.sc (.int .i64)]) cf rI
noncomputable def lT:FT (Door×Unit) (Door) (λx=>aN x.1) (λx v=>aN v):= .mk λ(x0,_)=>
  .l vX.c (x0.keys,()) λc1=>
  .d (qu.f (x0.limits,())) λc2=>
  .l ub.c (x0.halves,()) λc3=>
  .l t7.c (x0.table,()) λc4=>
  .r (⟨x0.port,x0.clock,c1,c2,c3,c4,x0.chal⟩:Door)
noncomputable def BI:=bu az Tryz.func11 [J5,Gn,IR,GY] (ks:=[.st .door]) lT (λv=>[(true,xB (.o true) (.o true) (.o true) .d (.o true) v)])
noncomputable def lP:FT (Door×Door×Unit) (Bool) (λx=>aN x.1∧aN x.2.1) (λ_ _=>True):= .mk λ(x0,x1,_)=>
  .u (x0.port != x1.port) (.r false)<|
  .u (x0.clock != x1.clock) (.r false)<|
  .l wq.c (x0.keys,x1.keys,()) λc1=>
  .u (!c1) (.r false)<|
  .d (qG.f (x0.limits,x1.limits,())) λc2=>
  .u (!c2) (.r false)<|
  .l ua.c (x0.halves,x1.halves,()) λc3=>
  .u (!c3) (.r false)<|
  .l tL.c (x0.table,x1.table,()) λc4=>
  .u (!c4) (.r false)<|
  .u (x0.chal != x1.chal) (.r false)<|
  .r true
noncomputable def Co:=bu st Tryz.func13 [Kq,FD,G6,Ho] (ks:=[.st .door,.st .door]) lP rB
noncomputable def cK:FX (Stac×Int×Unit) (Int) (λ_=>True) (bP [.st .stac,.sc (.int .i64)]):=⟨λ(x0,x1,_)=>
  .l fg.c (x0.link,x1,()) λc1=>
  .u (decide (c1<0)) (.r (-1))<|
  .l cf.c (x0.door,c1,()) λc2=>
  .u (decide (c2<0)) (.r (-1))<|
  .r c2,
 λ(x0,x1,_) hp hf=>by
  simp only[bP,Pk.fact,gd,eo,Fl.fact,Ty.fl,Ty.toH]at hf
  refine Tr.C trivial λ_ _ _=>Tr.I (λ_=>Tr.R trivial) λ_=>Tr.C trivial λ_ _ _=>Tr.F (by kernel_rfl) trivial⟩
theorem EW (x:Stac)(k:Int)(h0:0≤k)(h1:k≤1048576)(hc:x.link.cache.length≤140737488355328)(n1:x.door.keys.now.rows.length≤140737488355328)(n2:yN .macRow x.door.keys.now.rows)(m1:x.door.keys.before.rows.length≤140737488355328)(m2:yN .macRow x.door.keys.before.rows)(hh:x.door.halves.length≤140737488355328)(hl:x.door.table.conns.length≤140737488355328)(he:yN .conn x.door.table.conns)(hw:x.door.table.waiting.length≤140737488355328)(h:0≤cK.f (x,k,())):cK.f (x,k,())≤k∧bq x:=by
 have e:cK.f (x,k,())=(bif decide (fg.f (x.link,k,())<0)then-1 else(bif decide (cf.f (x.door,fg.f (x.link,k,()),())<0)then-1 else cf.f (x.door,fg.f (x.link,k,()),()))):=by first|(simp only[FX.f,PX,cK];done)|(simp only[FX.f,PX,cK];rfl)
 rw[e]at h⊢
 obtain⟨p0,e0⟩:=iK h
 rw[e0]at h⊢
 obtain⟨p1,e1⟩:=iK h
 rw[e1]at h⊢
 have b0:=H3 _ _ h0 (by omega) hc p0
 have b1:=CQ _ _ p0 (by omega) n1 n2 m1 m2 hh hl he hw p1
 refine⟨by omega, ?_⟩
 have q0:=b0.2
 have q1:=b1.2
 unfold aN at q1
 unfold bq
 exact⟨by omega,q1⟩
theorem Lx (x:Stac)(k:Int)(h0:0≤k)(h1:k≤1048576)(hc:x.link.cache.length≤140737488355328)(n1:x.door.keys.now.rows.length≤140737488355328)(n2:yN .macRow x.door.keys.now.rows)(m1:x.door.keys.before.rows.length≤140737488355328)(m2:yN .macRow x.door.keys.before.rows)(hh:x.door.halves.length≤140737488355328)(hl:x.door.table.conns.length≤140737488355328)(he:yN .conn x.door.table.conns)(hw:x.door.table.waiting.length≤140737488355328)(h:0≤cK.f (x,k,())):cK.f (x,k,())≤k∧x.door.table.conns.length≤1048576:=by
 have e:cK.f (x,k,())=(bif decide (fg.f (x.link,k,())<0)then-1 else(bif decide (cf.f (x.door,fg.f (x.link,k,()),())<0)then-1 else cf.f (x.door,fg.f (x.link,k,()),()))):=by first|(simp only[FX.f,PX,cK];done)|(simp only[FX.f,PX,cK];rfl)
 rw[e]at h⊢
 obtain⟨p0,e0⟩:=iK h
 rw[e0]at h⊢
 obtain⟨p1,e1⟩:=iK h
 rw[e1]at h⊢
 have b0:=H3 _ _ h0 (by omega) hc p0
 have b1:=HS _ _ p0 (by omega) n1 n2 m1 m2 hh hl he hw p1
 refine⟨by omega, ?_⟩
 exact b1.2
noncomputable def Hm:=oG st Tryz.func19 [Kk,BD] (ks:=[.st .stac,.sc (.int .i64)]) cK rI
noncomputable def le:FT (Stac×Unit) (Stac) (λx=>bq x.1) (λx v=>bq v):= .mk λ(x0,_)=>
  .l xr.c (x0.link,()) λc1=>
  .l lT.c (x0.door,()) λc2=>
  .r (⟨c1,c2⟩:Stac)
noncomputable def Hd:=bu az Tryz.func21 [Kf,BI] (ks:=[.st .stac]) le (λv=>[(true,AG (.o true) (.o true) (.o true) (.o true) .d (.o true) v)])
noncomputable def kY:FT (Stac×Stac×Unit) (Bool) (λx=>bq x.1∧bq x.2.1) (λ_ _=>True):= .mk λ(x0,x1,_)=>
  .l xb.c (x0.link,x1.link,()) λc1=>
  .u (!c1) (.r false)<|
  .l lP.c (x0.door,x1.door,()) λc2=>
  .u (!c2) (.r false)<|
  .r true
noncomputable def Iw:=bu st Tryz.func23 [Kp,Co] (ks:=[.st .stac,.st .stac]) kY rB
def wY:Sh:=⟨[zp 1 0,zl 27 .macRow,zi 28,zi 29],[zg .mac]⟩
noncomputable def mX (v0:List MacRow)(v3:Mac)(v2:Int)(a:Unit):Tr (Stp (Unit) ((Unit))):=
 .grd (aY v0 v2)<|
 .d (bF.f ((v0.getD v2.toNat (Ty.zero .macRow)).value,0,16777215,())) λc2=>
 .u (!c2) (.r (.out ()))<|
 .grd ((decide (0≤v2))&&(decide (v2≤(v3.rows.length:Int))))<|
 .l bV.c (((v3.rows.take v2.toNat).drop 0),(v0.getD v2.toNat (Ty.zero .macRow)),()) λc3=>
 .u c3 (.r (.out ()))<|
 .r (.next ())
noncomputable def mH:wY.V→nB wY Unit (Unit):=λ(v0,v1,v2,v3,_)=>⟨v2,(),λv2 _=>(v0,v1,v2,v3,()),λv2 _=>(decide (v2<v1)),mX v0 v3,up,1,(Int.toNat (v1-v2)),.inl,eR,oB .ret ⟨[zb 2],[]⟩ (λ_=>(false,())) (.exit 0) ⟨[zu 2],[]⟩ (λ_=>())⟩
theorem GF {v0:List MacRow}{v1 v2:Int}{v3:Mac}(h0:0≤v2)(h1:v1≤4611686018427387904)(h2:sL aj v0)(h3:dS v3)(h4:v1≤(v0.length:Int))(h5:v1≤(v3.rows.length:Int)):(mH (v0,v1,v2,v3,())).U v1 (λ_ _=>True) (λ_=>True):=
 iT h0 h1 trivial
noncomputable def qp:FT (Mac×Unit) (Bool) (λx=>dS x.1) (λx v=>(v=true→x.1.rows.length≤64)):= .mk (λ(x0,_)=>
  .u (!x0.use) (.r ((x0.rows.length:Int)==0))<|
  .bnd (β:=Bool×Unit) (.u (x0.k != 0) (.r (true,()))<|
   .u (x0.l != 0) (.r (true,()))<|
   .r ((decide (64<(x0.rows.length:Int))),())) λ(u1a0,_)=>
  .u u1a0 (.r false)<|
  .lp (mH (x0.rows,(x0.rows.length:Int),0,x0,())).lp λw4=> .sum w4 (λ_=>
  .r false)<|
  λ_=>
  .r true) (ot @GF)
noncomputable def LQ:=dm az Tryz.func191 [(0,lb [1,27,28,29] [2]),(3000003,rA 0 25)] [cG,jV] 0 mH (ks:=[.st .mac]) qp rB
noncomputable def Jd:=[cG,LQ,Hf]
def C9:An:=⟨⟨[],[],false,0⟩,⟨[1,2,3],[],false,0⟩,⟨[],[]⟩,[(.normal,⟨[zp 1 0,zb 2,zi 3],[.box [.st .keys [.sl .arg,.sl .arg]]]⟩)]⟩
noncomputable def Je:Fx:=⟨252,Tryz.f252,[(1000005,C9)],0⟩
noncomputable def nP:FT (Keys×Unit) (Bool) (λx=>eY x.1) (λx v=>(v=true→0≤x.1.epoch∧x.1.epoch≤4294967295)):= .mk λ(x0,_)=>
  .bnd (β:=Bool×Int×Keys×Unit) (.as (λw=>eY w.2.2.1∧0≤w.2.1∧w.2.2.1=x0) (.u x0.two (.r (false,1,x0,()))<|
   .r (false,0,x0,()))) λ(_,u1a1,u1a2,_)=>
  .d (bF.f (u1a2.epoch,u1a1,4294967295,())) λc2=>
  .u c2 (.l qp.c (u1a2.now,()) λc3=>
   .u c3 (.l qp.c (u1a2.before,()) λc4=>
    .u c4 (.u u1a2.two (.r true)<|
     .l ur.c (u1a2.before,(⟨false,0,0,[]⟩:Mac),()) λc5=>
     .r c5)<|
    .r false)<|
   .r false)<|
  .r false
noncomputable def Js:=lh az Je Jd [] (ks:=[.st .keys]) nP rB Tryz.func252 trivial
noncomputable def m8:FT (ConnR×Tabl×Unit) (Bool) (λx=>dd x.1∧aF x.2.1) (λ_ _=>True):= .mk λ(x0,y1,_)=>
  .u (x0.state==8) (.l iy.c (y1.waiting,x0.tuple,()) λc1=>
   .r (!c1))<|
  .r false
noncomputable def yP:=jT He ⟨200,Tryz.f200,[],1⟩ [vy] [] [.st .connR,.wr false [.ptr 0]] [.box [.st .tabl]] (λx y=>(x.1,y.1.1,())) m8 rB (λx y v=>((y.1.1,()),())) Tryz.func200 (by kernel_rfl) trivial
noncomputable def fu:=[yP]
def bM:Sh:=⟨[zo 0 0,(1,false,[.fn 200 [1]]),zi 7,zi 8],[.arr .connR false false,.box [.st .tabl [.sl .any,.sl .any]]]⟩
noncomputable def fq:Fx:=⟨203,Tryz.f203,[(0,la ⟨[0,1,7,8],[.softo 1 0,.softo 1 1],false,2⟩ ⟨[4],[],false,2⟩)],2⟩
noncomputable def ec (v2:List ConnR)(v3:Tabl)(v1:Int)(a:Unit):Tr (Stp (Unit) ((Int))):=
 .grd (aY v2 v1)<|
 .l m8.c ((v2.getD v1.toNat (Ty.zero .connR)),v3,()) λc2=>
 .u c2 (.r (.out v1))<|
 .r (.next ())
noncomputable def aP:bM.V→nB bM Unit (Int):=λ(v0,v1,v2,v3,_)=>⟨v1,(),λv1 _=>(v0,v1,v2,v3,()),λv1 _=>(decide (v1<v0)),ec v2 v3,up,1,(Int.toNat (v0-v1)),.inl,eR,oB .ret ⟨[zi 4],[.arr .connR false false,.box [.st .tabl [.sl .any,.sl .any]]]⟩ (λp=>(p,v2,v3,())) (.exit 0) ⟨[zu 4],[.arr .connR false false,.box [.st .tabl [.sl .any,.sl .any]]]⟩ (λ_=>(v2,v3,()))⟩
theorem jQ:LS Tryz.prog fq [0] (ji 0 bM aP):=dW He (aL fu) _ aP [] trivial
theorem jS {v0 v1:Int}{v2:List ConnR}{v3:Tabl}(h0:0≤v1)(h1:v0≤4611686018427387904)(h2:sL dd v2)(h3:aF v3)(h4:v0≤(v2.length:Int)):(aP (v0,v1,v2,v3,())).U v0 (λ_ _=>True) (λp=>v1≤p∧p<v0):=
 iT h0 h1 trivial
noncomputable def ci:FT (List ConnR×Tabl×Unit) (Int) (λx=>sL dd x.1∧aF x.2.1) (λx v=> -1≤v∧v<x.1.length):= .mk (λ(x0,y1_0,_)=>
  .lp (aP ((x0.length:Int),0,x0,y1_0,())).lp λw3=> .sum w3 (λp3a0=>
  .r p3a0)<|
  λ_=>
  .r (-1)) (ot @jS)
noncomputable def k8:=jT He fq fu [(ji 0 bM aP)] [.wr false [.own 0],.fn 200 [1]] [.arr .connR,.box [.st .tabl]] (λx y=>(y.1,y.2.1.1,())) ci rI (λx y v=>(y.1,(y.2.1.1,()),())) Tryz.func203 (by kernel_rfl) ⟨jQ,trivial⟩
noncomputable def fK:=[k8,yP]
def bS:Sh:=⟨[zo 0 0,(1,false,[.fn 200 [1]]),zi 5,zi 6],[.arr .connR false false,.box [.st .tabl [.sl .any,.sl .any]]]⟩
noncomputable def fG:Fx:=⟨199,Tryz.f199,[(0,la ⟨[0,1,5,6],[],false,2⟩ ⟨[0,4,5],[],false,2⟩)],2⟩
noncomputable def cB (v3:Tabl)(v1:Int)(a:Int×List ConnR):Tr (Stp (Int×List ConnR) (Empty)):=
 .grd (aY a.2 v1)<|
 .l m8.c ((a.2.getD v1.toNat (Ty.zero .connR)),v3,()) λc2=>
 .u (!c2) (.grd (aY a.2 a.1)<|
  .r (.next ((IntKind.wrap .i64 (a.1+1)),(a.2.set a.1.toNat (a.2.getD v1.toNat (Ty.zero .connR))))))<|
 .r (.next (a.1,a.2))
noncomputable def ao:bS.V→rL bS (Int×List ConnR):=λ(v0,v1,v2,v3,_)=>⟨v1,(v0,v2),λv1 a=>(a.1,v1,a.2,v3,()),λv1 a=>(decide (v1<(a.2.length:Int))),cB v3,up,1,(Int.toNat ((v2.length:Int)-v1)),Empty.elim,Prod.mk,oN (.exit 0) ⟨[zo 0 0,zu 4,zi 5],[.arr .connR false false,.box [.st .tabl [.sl .any,.sl .any]]]⟩ (λx=>(x.2.1,x.2.2,v3,()))⟩
theorem kf:LS Tryz.prog fG [0] (ji 0 bS ao):=dW He (aL fK) _ ao [] trivial
theorem ka {v0 v1:Int}{v2:List ConnR}{v3:Tabl}(h0:0≤v1)(h1:(v2.length:Int)≤4611686018427387904)(h2:aF v3)(h3:sL dd v2)(h4:v2.length=v2.length∧cI dd v2∧0≤v0∧v0<v1∧v0<v2.length):(ao (v0,v1,v2,v3,())).S (λv1 a=>a.2.length=v2.length∧a.2.length=v2.length∧cI dd a.2∧0≤a.1∧a.1<v1∧a.1<a.2.length) (λ_=>True):=by
 refine LC.okS ⟨rfl,h4⟩ (λj a hj hv=>⟨⟨?_, ?_⟩, ?_⟩) (λa hv=> ?_)
 ·simp only[ao,decide_eq_true_eq]at*;omega
 ·simp only[ao]at*;exact MH (by omega) (by omega)
 ·refine Tr.G2 ?_ λ_=>Tr.C ?_ λ_ _ _=>Tr.I (λ_=>Tr.G2 ?_ λ_=>Tr.Rn ?_) λ_=>Tr.Rn ?_
  all_goals (try simp only[ao]at*)<;>(grind)
 ·simp only[ao,decide_eq_false_iff_not]at*;omega
noncomputable def cr:FT (List ConnR×Tabl×Unit) (Nat×List ConnR) (λx=>sL dd x.1∧aF x.2.1) (λx v=>sL dd v.2∧v.1≤x.1.length∧v.2.length=x.1.length):=⟨λ(x0,y1_0,_)=>
  .l ci.c (x0,y1_0,()) λc1=>
  .u (c1==(-1)) (.r (x0.length,x0))<|
  .lp (ao (c1,(IntKind.wrap .i64 (c1+1)),x0,y1_0,())).lp λ(_,a3_0,a3_1)=>
  .grd (Q1 a3_1 a3_0 (a3_1.length:Int))<|
  .d ((a3_1.take a3_0.toNat++List.replicate ((a3_1.length:Int).toNat-a3_0.toNat) (Ty.zero .connR))++a3_1.drop ((a3_1.length:Int).toNat)) λl4=>
  .grd ((decide (0≤a3_0))&&(decide (a3_0≤(l4.length:Int))))<|
  .r (a3_0.toNat,l4),
 λ(x0,y1_0,_) hp=>by
  refine Tr.C ?_ λc1 hc1 qc1=>Tr.I (λb0=>Tr.R ?_) λb0=>Tr.L (ka ?_ ?_ ?_ ?_ ?_) (λ(a3_0,a3_1) i3=>Tr.G3 ?_ λg1=>Tr.V λl4 hl4=>Tr.G2 ?_ λg2=>Tr.R ?_) (λp=>Empty.elim p)
  all_goals ((try simp only[ao,LC.lp,LC.ct,Ct.lp]at*)<;>(first|grind|(have hz:dd (Ty.zero .connR):=(by unfold dd;(repeat' apply And.intro);all_goals first|exact λ_ h=>absurd h (List.not_mem_nil)|decide+kernel);grind)))⟩
noncomputable def fJ:=jT He fG fK [(ji 0 bS ao)] [.wr false [.own 0],.fn 200 [1]] [.arr .connR,.box [.st .tabl]] (λx y=>(y.1,y.2.1.1,())) cr (λv=>[(false,[.shr 0 v.1])]) (λx y v=>(v.2,(y.2.1.1,()),())) Tryz.func199 (by kernel_rfl) ⟨kf,trivial⟩
noncomputable def vb (t:Tabl)(c:ConnR):Bool:=m8.f (c,t,())
noncomputable def ge (t:Tabl)(c:Conn):Bool:= !vb t (nl c (.slice none 0 0))
theorem Rb (t:Tabl)(c:Conn)(v:Value):vb t (nl c v)= !ge t c:=by
 simp only[ge,Bool.not_not]
 rfl
theorem Qm (xs:List ConnR)(t:Tabl)(hl:xs.length≤4294967296):cr.f (xs,t,())=((xs.filter (λx=> !vb t x)).length,xs.filter (λx=> !vb t x)++List.replicate (xs.length-(xs.filter (λx=> !vb t x)).length) (Ty.zero .connR)):=by
 have ep:∀x,m8.f (x,t,())=vb t x:=λ_=>rfl
 have ei:ci.f (xs,t,())=iW (vb t) xs:=by
  simp only[PX,ci,aP]
  rw[iI (vb t) xs (λj x a h=>by
   simp only[PX,ec,Z,getD_some h,ep])]
  unfold iW
  cases xs.findIdx? (vb t)<;>rfl
 simp only[PX,cr,ao,ei]
 cases hf:(iW (vb t) xs== -1)with
 |true=>
  have e1:=Eg _ _ hf
  simp only[cond_true,e1,Nat.sub_self,List.replicate_zero,List.append_nil]
 |false=>
  obtain⟨i,hi,hlt,ht⟩:=EC _ _ hf
  simp only[hi,cond_false]
  rw[aw (by omega) (by omega)]
  obtain⟨k',zs,e,z1,z2,z3⟩:=xh (vb t) xs (f:=λj a=>(cB t j a).nice) (λj k ys x hx hk hj=>by
   simp only[PX,cB,Z,getD_some hx,ep]
   rw[aw (by omega) (by omega)]
   cases vb t x<;>rfl) (xs.length-(i+1)) (i+1) i xs rfl (by omega) (by omega) ht rfl
  rw[show Int.toNat ((xs.length:Int)-((i:Int)+1))=xs.length-(i+1) by omega]
  have e2:((i:Int)+1)=((i+1:Nat):Int):=by omega
  rw[e2,e]
  simp only[Stp.elim,PX]
  obtain⟨g1,g2⟩:=O5 (vb t) xs zs k' (Ty.zero .connR) z1 z2 z3
  rw[Z,Z,g2,←g1]
noncomputable def m9:Fnc (List Conn×Tabl×Unit) (Nat×List Conn) (λx=>sL ae x.1∧aF x.2.1) (λx v=>sL ae v.2∧v.1≤x.1.length∧v.2.length=x.1.length) where
 f:=λx=>((x.1.filter (ge x.2.1)).length,x.1.filter (ge x.2.1)++List.replicate (x.1.length-(x.1.filter (ge x.2.1)).length) (Ty.zero .conn))
 h:=λx hp=>by
  have h1:=List.length_filter_le (ge x.2.1) x.1
  have hl:(x.1.filter (ge x.2.1)++List.replicate (x.1.length-(x.1.filter (ge x.2.1)).length) (Ty.zero .conn)).length=x.1.length:=by rw[List.length_append,List.length_replicate];omega
  refine⟨⟨by rw[hl];exact hp.1.1,λy hy=> ?_⟩,h1,hl⟩
  rcases List.mem_append.1 hy with hy|hy
  ·exact hp.1.2 y (List.mem_filter.1 hy).1
  ·rw[(List.mem_replicate.1 hy).2]
   unfold ae;(repeat' apply And.intro);all_goals first|exact λ_ h=>absurd h (List.not_mem_nil)|decide+kernel
theorem PM (xs:List Conn)(t:Tabl)(hp:sL ae xs∧aF t):kI Tryz.prog 199 [.wr false [.down 0],.fn 200 [1]] [.dar .conn xs,.box (Ap [.st .tabl] (t,()))] [(false,[.shr 0 (m9.f (xs,t,())).1])] [.dar .conn (m9.f (xs,t,())).2,.box (Ap [.st .tabl] (t,()))]:=by
 have e1:(xs.zipIdx.filter λp=>ge t p.1).length=(xs.filter (ge t)).length:=by
  rw[←List.length_map (f:=Prod.fst),←Aw xs (ge t)]
 have e2:(xs.zipIdx.filter λp=>ge t p.1).map (·.1)=xs.filter (ge t):=(Aw xs (ge t)).symm
 have h:=kI.del (P:=Tryz.prog) (f:=199) (g:=200) (ks:=[1]) (Os:=[.box (Ap [.st .tabl] (t,()))]) (Os':=[.box (Ap [.st .tabl] (t,()))]) (xs:=xs) (K:=xs.zipIdx.filter λp=>ge t p.1) List.filter_sublist (xs.length-(xs.filter (ge t)).length) λrv hrv=> ?_
 ·rw[e1,e2]at h
  exact h
 ·have hlen:(xs.zipIdx.map λp=>nl p.1 (rv p.2)).length=xs.length:=by rw[List.length_map,List.length_zipIdx]
  have hq:sL dd (xs.zipIdx.map λp=>nl p.1 (rv p.2)):=by
   refine⟨by rw[hlen];exact hp.1.1,λy hy=> ?_⟩
   obtain⟨p,hp1,rfl⟩:=List.mem_map.1 hy
   have h1:p.1∈xs:=List.mem_of_getElem? (List.mk_mem_zipIdx_iff_getElem?.1 (show(p.1,p.2)∈_ from hp1))
   have h2:=hp.1.2 _ h1
   unfold ae at h2
   unfold dd
   simp only[nl]
   grind
  have ek:((xs.zipIdx.map λp=>nl p.1 (rv p.2)).filter λx=> !vb t x)=(xs.zipIdx.filter λp=>ge t p.1).map λp=>nl p.1 (rv p.2):=by
   rw[List.filter_map]
   congr 1
  have hz:fJ.g [.wr false [.own 0],.fn 200 [1]] [.arr .connR (xs.zipIdx.map λp=>nl p.1 (rv p.2)),.box (Ap [.st .tabl] (t,()))] (cS×List MO) (λR O=>some (R,O))=
    some ([(false,[.shr 0 (xs.zipIdx.filter λp=>ge t p.1).length])],[.arr .connR (((xs.zipIdx.filter λp=>ge t p.1).map λp=>nl p.1 (rv p.2))++List.replicate (xs.length-(xs.filter (ge t)).length) (Ty.zero .connR)),.box (Ap [.st .tabl] (t,()))]):=
   Eq.trans (b:=C6 (dc (sL dd (xs.zipIdx.map λp=>nl p.1 (rv p.2))∧aF t)) (jt (cr.f (xs.zipIdx.map λp=>nl p.1 (rv p.2),t,())) λv=>some ([(false,[.shr 0 v.1])],[.arr .connR v.2,.box (Ap [.st .tabl] (t,()))])) none) (by kernel_rfl) (by
    rw[KU ⟨hq,hp.2⟩,Qm _ _ (by rw[hlen];exact hp.1.1),ek,hlen,List.length_map,e1]
    rfl)
  obtain⟨R,O',h1,h2⟩:=fJ.ok _ _ _ _ _ hz
  cases h2
  exact h1
noncomputable def GS:Ent1 Tryz.prog:=QB 199 [.wr false [.down 0],.fn 200 [1]] [.dar .conn,.box [.st .tabl]] (λx y=>(y.1,y.2.1.1,())) m9 (λv=>[(false,[.shr 0 v.1])]) (λx y v=>(v.2,(y.2.1.1,()),())) λx y hp=>PM _ _ hp
noncomputable def vz:FT (Half×Door×Unit) (Bool) (λx=>aN x.2.1) (λ_ _=>True):= .mk λ(x0,y1,_)=>
  .l bE.c (y1.table,x0.tuple,()) λc1=>
  .r (decide (0≤c1))
noncomputable def FV:=jT az ⟨256,Tryz.f256,[],1⟩ [qb] [] [.st .half,.wr false [.ptr 0]] [.box [.st .door]] (λx y=>(x.1,y.1.1,())) vz rB (λx y v=>((y.1.1,()),())) Tryz.func256 (by kernel_rfl) trivial
noncomputable def fF:=[FV]
def bU:Sh:=⟨[zl 0 .half,(1,false,[.fn 256 [0]]),zi 7,zi 8],[.box [.st .door [.sl .any,.sl .any,.sl .any,.sl .any,.sl .any]]]⟩
noncomputable def fH:Fx:=⟨359,Tryz.f359,[(0,la ⟨[0,1,7,8],[.softo 0 6,.softo 0 10,.softo 0 16,.softo 0 17,.softo 0 18],false,1⟩ ⟨[4],[],false,1⟩)],1⟩
noncomputable def eu (v0:List Half)(v3:Door)(v2:Int)(a:Unit):Tr (Stp (Unit) ((Int))):=
 .grd (aY v0 v2)<|
 .l vz.c ((v0.getD v2.toNat (Ty.zero .half)),v3,()) λc2=>
 .u c2 (.r (.out v2))<|
 .r (.next ())
noncomputable def aV:bU.V→nB bU Unit (Int):=λ(v0,v1,v2,v3,_)=>⟨v2,(),λv2 _=>(v0,v1,v2,v3,()),λv2 _=>(decide (v2<v1)),eu v0 v3,up,1,(Int.toNat (v1-v2)),.inl,eR,oB .ret ⟨[zi 4],[.box [.st .door [.sl .any,.sl .any,.sl .any,.sl .any,.sl .any]]]⟩ (λp=>(p,v3,())) (.exit 0) ⟨[zu 4],[.box [.st .door [.sl .any,.sl .any,.sl .any,.sl .any,.sl .any]]]⟩ (λ_=>(v3,()))⟩
theorem kv:LS Tryz.prog fH [0] (ji 0 bU aV):=dW st (aL fF) _ aV [] trivial
theorem kO {v0:List Half}{v1 v2:Int}{v3:Door}(h0:0≤v2)(h1:v1≤4611686018427387904)(h2:sS v0)(h3:aN v3)(h4:v1≤(v0.length:Int)):(aV (v0,v1,v2,v3,())).U v1 (λ_ _=>True) (λp=>v2≤p∧p<v1):=
 iT h0 h1 trivial
noncomputable def dM:FT (List Half×Door×Unit) (Int) (λx=>sS x.1∧aN x.2.1) (λx v=> -1≤v∧v<x.1.length):= .mk (λ(x0,y1_0,_)=>
  .lp (aV (x0,(x0.length:Int),0,y1_0,())).lp λw3=> .sum w3 (λp3a0=>
  .r p3a0)<|
  λ_=>
  .r (-1)) (ot @kO)
noncomputable def lG:=jT st fH fF [(ji 0 bU aV)] [.sc (.sl .half),.fn 256 [0]] [.box [.st .door]] (λx y=>(x.1,y.1.1,())) dM rI (λx y v=>((y.1.1,()),())) Tryz.func359 (by kernel_rfl) ⟨kv,trivial⟩
noncomputable def ca:FT (List Half×Door×Unit) (Bool) (λx=>sS x.1∧aN x.2.1) (λ_ _=>True):= .mk λ(x0,y1_0,_)=>
  .l dM.c (x0,y1_0,()) λc1=>
  .r (decide (0≤c1))
noncomputable def kj:=jT st ⟨255,Tryz.f255,[],1⟩ [lG] [] [.sc (.sl .half),.fn 256 [0]] [.box [.st .door]] (λx y=>(x.1,y.1.1,())) ca rB (λx y v=>((y.1.1,()),())) Tryz.func255 (by kernel_rfl) trivial
noncomputable def Kr:=[cQ,Js,Ij,Gj,cG,kj]
noncomputable def JF:Fx:=⟨150,Tryz.f150,[(3000001,rA 0 50)],0⟩
noncomputable def dL:FT (Door×Unit) (Bool) (λx=>aN x.1) (λx v=>(v=true→x.1.table.conns.length≤16)):= .mk λ(x0,_)=>
  .bnd (β:=Bool×Unit) (.as (λw=>(w.1=false→0≤x0.keys.epoch∧x0.keys.epoch≤4294967295∧x0.table.conns.length≤16∧x0.table.waiting.length≤16∧x0.halves.length≤64)) (.l aa.c (x0.port,16,()) λc1=>
   .u (!c1) (.r (true,()))<|
   .l aa.c (x0.clock,32,()) λc2=>
   .u (!c2) (.r (true,()))<|
   .l nP.c (x0.keys,()) λc3=>
   .u (!c3) (.r (true,()))<|
   .l iD.c (x0.table,x0.limits,()) λc4=>
   .u (!c4) (.r (true,()))<|
   .l gZ.c (x0.halves,()) λc5=>
   .u (!c5) (.r (true,()))<|
   .u (decide (x0.limits.halves<(x0.halves.length:Int))) (.r (true,()))<|
   .d (bF.f (x0.chal,0,x0.limits.chal,())) λc6=>
   .r ((!c6),()))) λ(u7a0,_)=>
  .u u7a0 (.r false)<|
  .l ca.c (x0.halves,x0,()) λc8=>
  .r (!c8)
noncomputable def BP:=lh az JF Kr [] (ks:=[.st .door]) dL rB Tryz.func150 trivial
noncomputable def eh:FT (Stac×Unit) (Bool) (λx=>bq x.1) (λx v=>(v=true→x.1.door.table.conns.length≤16)):= .mk λ(x0,_)=>
  .l gh.c (x0.link,()) λc1=>
  .u c1 (.l dL.c (x0.door,()) λc2=>
   .r c2)<|
  .r false
noncomputable def IW:=bu az Tryz.func88 [Br,BP] (ks:=[.st .stac]) eh rB
noncomputable def pF:FT (Tupl×Tabl×Unit) (Bool) (λx=>aF x.2.1) (λ_ _=>True):= .mk λ(x0,y1,_)=>
  .l bE.c (y1,x0,()) λc1=>
  .r (decide (c1<0))
noncomputable def y2:=jT az ⟨202,Tryz.f202,[],1⟩ [qb] [] [.st .tupl,.wr false [.ptr 0]] [.box [.st .tabl]] (λx y=>(x.1,y.1.1,())) pF rB (λx y v=>((y.1.1,()),())) Tryz.func202 (by kernel_rfl) trivial
noncomputable def eL:=[y2]
def bB:Sh:=⟨[zo 0 0,(1,false,[.fn 202 [1]]),zi 7,zi 8],[.arr .tupl false false,.box [.st .tabl [.sl .any,.sl .any]]]⟩
noncomputable def eO:Fx:=⟨326,Tryz.f326,[(0,la ⟨[0,1,7,8],[.softo 1 0,.softo 1 1],false,2⟩ ⟨[4],[],false,2⟩)],2⟩
noncomputable def d6 (v2:List Tupl)(v3:Tabl)(v1:Int)(a:Unit):Tr (Stp (Unit) ((Int))):=
 .grd (aY v2 v1)<|
 .l pF.c ((v2.getD v1.toNat (Ty.zero .tupl)),v3,()) λc2=>
 .u c2 (.r (.out v1))<|
 .r (.next ())
noncomputable def aH:bB.V→nB bB Unit (Int):=λ(v0,v1,v2,v3,_)=>⟨v1,(),λv1 _=>(v0,v1,v2,v3,()),λv1 _=>(decide (v1<v0)),d6 v2 v3,up,1,(Int.toNat (v0-v1)),.inl,eR,oB .ret ⟨[zi 4],[.arr .tupl false false,.box [.st .tabl [.sl .any,.sl .any]]]⟩ (λp=>(p,v2,v3,())) (.exit 0) ⟨[zu 4],[.arr .tupl false false,.box [.st .tabl [.sl .any,.sl .any]]]⟩ (λ_=>(v2,v3,()))⟩
theorem jq:LS Tryz.prog eO [0] (ji 0 bB aH):=dW st (aL eL) _ aH [] trivial
theorem jD {v0 v1:Int}{v2:List Tupl}{v3:Tabl}(h0:0≤v1)(h1:v0≤4611686018427387904)(h2:sS v2)(h3:aF v3)(h4:v0≤(v2.length:Int)):(aH (v0,v1,v2,v3,())).U v0 (λ_ _=>True) (λp=>v1≤p∧p<v0):=
 iT h0 h1 trivial
noncomputable def cd:FT (List Tupl×Tabl×Unit) (Int) (λx=>sS x.1∧aF x.2.1) (λx v=> -1≤v∧v<x.1.length):= .mk (λ(x0,y1_0,_)=>
  .lp (aH ((x0.length:Int),0,x0,y1_0,())).lp λw3=> .sum w3 (λp3a0=>
  .r p3a0)<|
  λ_=>
  .r (-1)) (ot @jD)
noncomputable def kQ:=jT st eO eL [(ji 0 bB aH)] [.wr false [.own 0],.fn 202 [1]] [.arr .tupl,.box [.st .tabl]] (λx y=>(y.1,y.2.1.1,())) cd rI (λx y v=>(y.1,(y.2.1.1,()),())) Tryz.func326 (by kernel_rfl) ⟨jq,trivial⟩
noncomputable def fe:=[kQ,y2]
def bL:Sh:=⟨[zo 0 0,(1,false,[.fn 202 [1]]),zi 5,zi 6],[.arr .tupl false false,.box [.st .tabl [.sl .any,.sl .any]]]⟩
noncomputable def fo:Fx:=⟨201,Tryz.f201,[(0,la ⟨[0,1,5,6],[],false,2⟩ ⟨[0,4,5],[],false,2⟩)],2⟩
noncomputable def cx (v3:Tabl)(v1:Int)(a:Int×List Tupl):Tr (Stp (Int×List Tupl) (Empty)):=
 .grd (aY a.2 v1)<|
 .l pF.c ((a.2.getD v1.toNat (Ty.zero .tupl)),v3,()) λc2=>
 .u (!c2) (.grd (aY a.2 a.1)<|
  .r (.next ((IntKind.wrap .i64 (a.1+1)),(a.2.set a.1.toNat (a.2.getD v1.toNat (Ty.zero .tupl))))))<|
 .r (.next (a.1,a.2))
noncomputable def am:bL.V→rL bL (Int×List Tupl):=λ(v0,v1,v2,v3,_)=>⟨v1,(v0,v2),λv1 a=>(a.1,v1,a.2,v3,()),λv1 a=>(decide (v1<(a.2.length:Int))),cx v3,up,1,(Int.toNat ((v2.length:Int)-v1)),Empty.elim,Prod.mk,oN (.exit 0) ⟨[zo 0 0,zu 4,zi 5],[.arr .tupl false false,.box [.st .tabl [.sl .any,.sl .any]]]⟩ (λx=>(x.2.1,x.2.2,v3,()))⟩
theorem jR:LS Tryz.prog fo [0] (ji 0 bL am):=dW st (aL fe) _ am [] trivial
theorem jP {v0 v1:Int}{v2:List Tupl}{v3:Tabl}(h0:0≤v1)(h1:(v2.length:Int)≤4611686018427387904)(h2:aF v3)(h3:sS v2)(h4:v2.length=v2.length∧0≤v0∧v0<v1∧v0<v2.length):(am (v0,v1,v2,v3,())).S (λv1 a=>a.2.length=v2.length∧a.2.length=v2.length∧0≤a.1∧a.1<v1∧a.1<a.2.length) (λ_=>True):=by
 refine LC.okS ⟨rfl,h4⟩ (λj a hj hv=>⟨⟨?_, ?_⟩, ?_⟩) (λa hv=> ?_)
 ·simp only[am,decide_eq_true_eq]at*;omega
 ·simp only[am]at*;exact MH (by omega) (by omega)
 ·refine Tr.G2 ?_ λ_=>Tr.C ?_ λ_ _ _=>Tr.I (λ_=>Tr.G2 ?_ λ_=>Tr.Rn ?_) λ_=>Tr.Rn ?_
  all_goals (try simp only[am]at*)<;>(grind)
 ·simp only[am,decide_eq_false_iff_not]at*;omega
noncomputable def bH:FT (List Tupl×Tabl×Unit) (Nat×List Tupl) (λx=>sS x.1∧aF x.2.1) (λx v=>sS v.2∧v.1≤x.1.length∧v.2.length=x.1.length):=⟨λ(x0,y1_0,_)=>
  .l cd.c (x0,y1_0,()) λc1=>
  .u (c1==(-1)) (.r (x0.length,x0))<|
  .lp (am (c1,(IntKind.wrap .i64 (c1+1)),x0,y1_0,())).lp λ(_,a3_0,a3_1)=>
  .grd (Q1 a3_1 a3_0 (a3_1.length:Int))<|
  .d ((a3_1.take a3_0.toNat++List.replicate ((a3_1.length:Int).toNat-a3_0.toNat) (Ty.zero .tupl))++a3_1.drop ((a3_1.length:Int).toNat)) λl4=>
  .grd ((decide (0≤a3_0))&&(decide (a3_0≤(l4.length:Int))))<|
  .r (a3_0.toNat,l4),
 λ(x0,y1_0,_) hp=>by
  refine Tr.C ?_ λ_ _ _=>Tr.I (λ_=>Tr.R ?_) λ_=>Tr.L (jP ?_ ?_ ?_ ?_ ?_) (λ(a3_0,a3_1) _=>Tr.G3 ?_ λ_=>Tr.V λ_ _=>Tr.G2 ?_ λ_=>Tr.R ?_) (λp=>Empty.elim p)
  all_goals ((try simp only[am,LC.lp,LC.ct,Ct.lp]at*)<;>grind)⟩
noncomputable def kW:=jT st fo fe [(ji 0 bL am)] [.wr false [.own 0],.fn 202 [1]] [.arr .tupl,.box [.st .tabl]] (λx y=>(y.1,y.2.1.1,())) bH (λv=>[(false,[.shr 0 v.1])]) (λx y v=>(v.2,(y.2.1.1,()),())) Tryz.func201 (by kernel_rfl) ⟨jR,trivial⟩
noncomputable def Ae:FT (Tabl×Unit) (Tabl) (λx=>aF x.1) (λx v=>aF v):= .mk λ(x0,_)=>
  .l ke.c (x0,()) λc1=>
  .l m9 (c1.conns,x0,()) λc2=>
  .l bH.c (c1.waiting,x0,()) λc3=>
  .r (⟨(c2.2.take c2.1),(c3.2.take c3.1)⟩:Tabl)
noncomputable def Ma:=bu az Tryz.func106 [td,GS,kW] (ks:=[.st .tabl]) Ae (λv=>[(true,Bp .d (.o true) v)])
noncomputable def qP:=[uX,BP,CI,Cg,Fq,Ma]
def gn:Sh:=⟨[zp 2 0,zp 4 1,zo 5 2,zp 7 3,zl 30 .conn,zi 31,zi 32,zo 48 4,zi 49,zi 50],[.box [.st .door [.nil .macRow,.nil .macRow,.nil .half,.nil .conn,.nil .tupl]],.box [.st .door [.own 5,.own 6,.own 7,.down 8,.own 9]],za .mail,zg .conn,za .segm,zf,zf,zf,.ofd,zf]⟩
def i7:Sh:=⟨[zp 2 0,zp 4 1,zo 5 2,zl 30 .conn,zi 31,zi 32],[.box [.st .door [.nil .macRow,.nil .macRow,.nil .half,.nil .conn,.nil .tupl]],.box [.st .door [.own 3,.own 4,.own 5,.down 6,.own 7]],za .mail,zf,zf,zf,.ofd,zf]⟩
noncomputable def qB:Fx:=⟨68,Tryz.f68,[(2,lb [2,4,5,7,30,31,32,48,49,50] [2,3,4,5,30,31,32]),(0,lb [2,4,5,30,31,32] [2,3,4,5])],0⟩
noncomputable def j7 (vb8:Conn)(vb9:List Segm)(vb4:Int)(a:Door×List Mail):Tr (Stp (Door×List Mail) (Empty)):=
 .grd (aY vb9 vb4)<|
 .grd (El a.2 1 112)<|
 .r (.next (({a.1 with keys.now.rows:=[],keys.before.rows:=[],halves:=[],table.conns:=[],table.waiting:=[]}:Door),(a.2++[(⟨vb8.tuple.ip,(vb9.getD vb4.toNat (Ty.zero .segm))⟩:Mail)])))
noncomputable def cF:gn.V→rL gn (Door×List Mail):=λ(vb0,vb1,vb2,vb3,vb4,vb5,vb6,vb7,vb8,vb9,_)=>⟨vb4,(vb5,vb7),λvb4 a=>(vb0,vb1,vb2,vb3,vb4,a.1,vb6,a.2,vb8,vb9,()),λvb4 _=>(decide (vb4<vb3)),j7 vb8 vb9,up,1,(Int.toNat (vb3-vb4)),Empty.elim,Prod.mk,oN (.exit 2) ⟨[zp 2 0,zu 3,zp 4 1,zo 5 2,zl 30 .conn,zi 31,zi 32],[.box [.st .door [.nil .macRow,.nil .macRow,.nil .half,.nil .conn,.nil .tupl]],.box [.st .door [.own 3,.own 4,.own 5,.down 6,.own 7]],za .mail,zf,zf,zf,.ofd,zf]⟩ (λx=>(vb0,vb1,vb2,({x.2.1 with keys.now.rows:=[],keys.before.rows:=[],halves:=[],table.conns:=[],table.waiting:=[]}:Door),vb6,x.2.2,()))⟩
theorem xp:LS Tryz.prog qB [0,0] (ji 2 gn cF):=dW az (aL qP) _ cF [] trivial
theorem wL {vb0:List Conn}{vb1 vb2 vb3 vb4:Int}{vb5 vb6:Door}{vb7:List Mail}{vb8:Conn}{vb9:List Segm}(h0:0≤vb4)(h1:vb3≤4611686018427387904)(h2:vb9.length≤49)(h3:vb7.length≤1000)(h4:ae vb8)(h5:sL aW vb9)(h6:vb3≤(vb9.length:Int))(h7:aN vb5∧(vb7.length:Int)≤vb7.length+vb4∧cI kp vb7):(cF (vb0,vb1,vb2,vb3,vb4,vb5,vb6,vb7,vb8,vb9,())).U vb3 (λvb4 a=>aN a.1∧(a.2.length:Int)≤vb7.length+vb4∧cI kp a.2) (λ_=>True):=
 iT (a:=(vb5,vb7)) h0 h1 h7
noncomputable def mg (v0:List Conn)(v1:Int)(v2:Int)(a:Door×Door×List Mail):Tr (Stp (Door×Door×List Mail) (Empty)):=
 .grd (aY v0 v2)<|
 .l qE.c ((v0.getD v2.toNat (Ty.zero .conn)),()) λc5=>
 .grd (aY a.2.1.table.conns v2)<|
 .lp (cF (v0,v1,v2,(c5.2.length:Int),0,({a.1 with keys.now.rows:=[],keys.before.rows:=[],halves:=[],table.conns:=[],table.waiting:=[]}:Door),({a.2.1 with table.conns:=(a.2.1.table.conns.set v2.toNat c5.1)}:Door),a.2.2,(v0.getD v2.toNat (Ty.zero .conn)),c5.2,())).lp λ(_,a6_0,a6_1)=>
 .r (.next (({({a6_0 with keys.now.rows:=[],keys.before.rows:=[],halves:=[],table.conns:=[],table.waiting:=[]}:Door)with keys.now.rows:=[],keys.before.rows:=[],halves:=[],table.conns:=[],table.waiting:=[]}:Door),({a.2.1 with table.conns:=(a.2.1.table.conns.set v2.toNat c5.1)}:Door),a6_1))
noncomputable def dG:i7.V→rL i7 (Door×Door×List Mail):=λ(v0,v1,v2,v3,v4,v5,_)=>⟨v2,(v3,v4,v5),λv2 a=>(v0,v1,v2,a.1,a.2.1,a.2.2,()),λv2 _=>(decide (v2<v1)),mg v0 v1,up,1,(Int.toNat (v1-v2)),Empty.elim,Prod.mk,oN (.exit 0) ⟨[zp 2 0,zu 3,zp 4 1,zo 5 2],[.box [.st .door [.nil .macRow,.nil .macRow,.nil .half,.nil .conn,.nil .tupl]],.box [.st .door [.own 3,.own 4,.own 5,.down 6,.own 7]],za .mail,zf,zf,zf,.ofd,zf]⟩ (λx=>(({x.2.1 with keys.now.rows:=[],keys.before.rows:=[],halves:=[],table.conns:=[],table.waiting:=[]}:Door),x.2.2.1,x.2.2.2,()))⟩
theorem zA:LS Tryz.prog qB [0] (ji 0 i7 dG):=dW az (aL qP) _ dG [(ji 2 gn cF)] ⟨xp,trivial⟩
theorem zz {v0:List Conn}{v1 v2:Int}{v3 v4:Door}{v5:List Mail}(h0:0≤v2)(h1:v1≤4611686018427387904)(h2:v1≤16)(h3:sL ae v0)(h4:sL aj v4.keys.now.rows)(h5:sL aj v4.keys.before.rows)(h6:sS v4.halves)(h7:sL ae v4.table.conns)(h8:sS v4.table.waiting)(h9:v1≤(v0.length:Int))(h10:aN v3∧v4.keys.now.rows.length=v4.keys.now.rows.length∧cI aj v4.keys.now.rows∧v4.keys.before.rows.length=v4.keys.before.rows.length∧cI aj v4.keys.before.rows∧v4.halves.length=v4.halves.length∧v4.table.conns.length=v4.table.conns.length∧cI ae v4.table.conns∧v4.table.waiting.length=v4.table.waiting.length∧sL kp v5∧(v5.length:Int)≤49*v2∧v1≤(v4.table.conns.length:Int)):(dG (v0,v1,v2,v3,v4,v5,())).U v1 (λv2 a=>aN a.1∧a.2.1.keys.now.rows.length=v4.keys.now.rows.length∧cI aj a.2.1.keys.now.rows∧a.2.1.keys.before.rows.length=v4.keys.before.rows.length∧cI aj a.2.1.keys.before.rows∧a.2.1.halves.length=v4.halves.length∧a.2.1.table.conns.length=v4.table.conns.length∧cI ae a.2.1.table.conns∧a.2.1.table.waiting.length=v4.table.waiting.length∧sL kp a.2.2∧(a.2.2.length:Int)≤49*v2∧v1≤(a.2.1.table.conns.length:Int)) (λ_=>True):=
 LC.okU (i:=v2) (a:=(v3,v4,v5)) (λ_ _=>rfl) (λ_=>rfl) rfl h0 h1 h10 λv2 (v3,v4,v5) hj hk hv=>by
  refine Tr.G2 ?_ λ_=>Tr.C ?_ λ_ _ _=>Tr.G2 ?_ λ_=>Tr.L (wL ?_ ?_ ?_ ?_ ?_ ?_ ?_ ?_) (λ(a6_0,a6_1) _=>Tr.Rn ?_) (λp=>Empty.elim p)
  all_goals ((try simp only[cF,LC.lp,LC.ct,Ct.lp]at*)<;>grind)
noncomputable def jm:FT (Door×Unit) (Door×List Mail) (λx=>aN x.1) (λx v=>aN v.1∧sL kp v.2):=⟨λ(x0,_)=>
  .l lR.c (x0,()) λc1=>
  .l dL.c (x0,()) λc2=>
  .u (!c2) (.r (c1,[]))<|
  .d (fc.f (x0.clock,1,())) λc3=>
  .l mN.c (x0.halves,()) λc4=>
  .lp (dG (x0.table.conns,(x0.table.conns.length:Int),0,(⟨0,0,⟨0,⟨false,0,0,[]⟩,⟨false,0,0,[]⟩,false⟩,⟨0,0,0,0⟩,[],⟨[],[]⟩,0⟩:Door),({c1 with clock:=c3,halves:=c4,chal:=0}:Door),[],())).lp λ(_,_,a7_1,a7_2)=>
  .l Ae.c (a7_1.table,()) λc8=>
  .r (({a7_1 with table.conns:=c8.conns,table.waiting:=c8.waiting}:Door),a7_2),
 λ(x0,_) hp=>by
  refine Tr.C ?_ λ_ _ _=>Tr.C ?_ λ_ _ _=>Tr.I (λ_=>Tr.R ?_) λ_=>Tr.V λ_ _=>Tr.C ?_ λ_ _ _=>Tr.L (zz ?_ ?_ ?_ ?_ ?_ ?_ ?_ ?_ ?_ ?_ ?_) (λ(a7_0,a7_1,a7_2) _=>Tr.C ?_ λ_ _ _=>Tr.R ?_) (λp=>Empty.elim p)
  all_goals ((try simp only[dG,LC.lp,LC.ct,Ct.lp]at*)<;>grind)⟩
noncomputable def wl:=lh az qB qP [(ji 0 i7 dG)] (ks:=[.st .door]) jm (λv=>[(true,xB (.o true) (.o true) (.o true) .d (.o true) v.1),(false,[sc (.o true) .mail v.2])]) Tryz.func68 ⟨zA,trivial⟩
def rG:Sh:=⟨[zp 2 0,zp 4 1,zo 6 2,zo 15 3,zi 16,zi 17],[.box [.st .door [.nil .macRow,.nil .macRow,.nil .half,.nil .conn,.nil .tupl]],.box [.st .door [.own 4,.own 5,.own 6,.down 7,.own 8]],za .segm,za .mail,zf,zf,zf,.ofd,zf]⟩
noncomputable def mb (v5:List Mail)(v1:Int)(a:Door×List Segm):Tr (Stp (Door×List Segm) (Empty)):=
 .grd (aY v5 v1)<|
 .grd (El a.2 1 104)<|
 .r (.next (({a.1 with keys.now.rows:=[],keys.before.rows:=[],halves:=[],table.conns:=[],table.waiting:=[]}:Door),(a.2++[(v5.getD v1.toNat (Ty.zero .mail)).g])))
noncomputable def eg:rG.V→rL rG (Door×List Segm):=λ(v0,v1,v2,v3,v4,v5,_)=>⟨v1,(v2,v4),λv1 a=>(v0,v1,a.1,v3,a.2,v5,()),λv1 _=>(decide (v1<v0)),mb v5,up,1,(Int.toNat (v0-v1)),Empty.elim,Prod.mk,oN (.exit 0) ⟨[zp 2 0,zu 3,zp 4 1,zo 6 2],[.box [.st .door [.nil .macRow,.nil .macRow,.nil .half,.nil .conn,.nil .tupl]],.box [.st .door [.own 3,.own 4,.own 5,.down 6,.own 7]],za .segm,zf,zf,zf,.ofd,zf]⟩ (λx=>(({x.2.1 with keys.now.rows:=[],keys.before.rows:=[],halves:=[],table.conns:=[],table.waiting:=[]}:Door),v3,x.2.2,()))⟩
theorem zw {v0 v1:Int}{v2 v3:Door}{v4:List Segm}{v5:List Mail}(h0:0≤v1)(h1:v0≤4611686018427387904)(h2:sL kp v5)(h3:v0≤4294967296)(h4:v0≤(v5.length:Int))(h5:aN v2∧(v4.length:Int)=v1∧cI aW v4):(eg (v0,v1,v2,v3,v4,v5,())).U v0 (λv1 a=>aN a.1∧(a.2.length:Int)=v1∧cI aW a.2) (λ_=>True):=
 iT (a:=(v2,v4)) h0 h1 h5
noncomputable def cz:FT (Door×Unit) (Door×List Segm) (λx=>aN x.1) (λx v=>aN v.1∧sL aW v.2):=⟨λ(x0,_)=>
  .l jm.c (x0,()) λc1=>
  .lp (eg ((c1.2.length:Int),0,(⟨0,0,⟨0,⟨false,0,0,[]⟩,⟨false,0,0,[]⟩,false⟩,⟨0,0,0,0⟩,[],⟨[],[]⟩,0⟩:Door),c1.1,[],c1.2,())).lp λ(_,_,a2_1)=>
  .r (c1.1,a2_1),
 λ(x0,_) hp=>by
  refine Tr.C ?_ λ_ _ _=>Tr.L (zw ?_ ?_ ?_ ?_ ?_ ?_) (λ(a2_0,a2_1) _=>Tr.R ?_) (λp=>Empty.elim p)
  all_goals ((try simp only[eg,LC.lp,LC.ct,Ct.lp]at*)<;>grind)⟩
noncomputable def Fk:=dm az Tryz.func12 [(0,lb [2,4,6,15,16,17] [2,3,4,6])] [wl] 0 eg (ks:=[.st .door]) cz (λv=>[(true,xB (.o true) (.o true) (.o true) .d (.o true) v.1),(false,[sc (.o true) .segm v.2])])
def pn:Sh:=⟨[zp 1 0,zp 2 1,zp 4 2,zo 7 3,zo 31 4,zi 32,zi 33],[.box [.st .stac [.sl .arg,.sl .arg,.sl .arg,.sl .arg,.sl .arg,.sl .arg]],.box [.st .stac [.nil .entr,.nil .macRow,.nil .macRow,.nil .half,.nil .conn,.nil .tupl]],.box [.st .stac [.own 5,.own 6,.own 7,.own 8,.down 9,.own 10]],za .str,za .mail,zf,zf,zf,zf,.ofd,zf]⟩
noncomputable def k7 (v2:Stac)(v6:List Mail)(v1:Int)(a:Stac×List ah):Tr (Stp (Stac×List ah) (Empty)):=
 .grd (aY v6 v1)<|
 .l ue.c (v2,(v6.getD v1.toNat (Ty.zero .mail)).ip,[(v6.getD v1.toNat (Ty.zero .mail)).g],()) λc5=>
 .grd (Nat.ble ((2*(a.2.length+c5.length)+1024)*16) aD)<|
 .r (.next (({a.1 with link.cache:=[],door.keys.now.rows:=[],door.keys.before.rows:=[],door.halves:=[],door.table.conns:=[],door.table.waiting:=[]}:Stac),(a.2++c5)))
noncomputable def fB:pn.V→rL pn (Stac×List ah):=λ(v0,v1,v2,v3,v4,v5,v6,_)=>⟨v1,(v3,v5),λv1 a=>(v0,v1,v2,a.1,v4,a.2,v6,()),λv1 _=>(decide (v1<v0)),k7 v2 v6,up,1,(Int.toNat (v0-v1)),Empty.elim,Prod.mk,oN (.exit 0) ⟨[zp 2 0,zu 3,zp 4 1,zo 7 2],[.box [.st .stac [.nil .entr,.nil .macRow,.nil .macRow,.nil .half,.nil .conn,.nil .tupl]],.box [.st .stac [.own 3,.own 4,.own 5,.own 6,.down 7,.own 8]],za .str,zf,zf,zf,zf,.ofd,zf]⟩ (λx=>(({x.2.1 with link.cache:=[],door.keys.now.rows:=[],door.keys.before.rows:=[],door.halves:=[],door.table.conns:=[],door.table.waiting:=[]}:Stac),v4,x.2.2,()))⟩
theorem xY {v0 v1:Int}{v2 v3 v4:Stac}{v5:List ah}{v6:List Mail}(h0:0≤v1)(h1:v0≤4611686018427387904)(h2:bq v2)(h3:sL kp v6)(h4:v0≤(v6.length:Int))(h5:bq v3∧sL sS v5∧(v5.length:Int)≤v1):(fB (v0,v1,v2,v3,v4,v5,v6,())).U v0 (λv1 a=>bq a.1∧sL sS a.2∧(a.2.length:Int)≤v1) (λ_=>True):=
 iT (a:=(v3,v5)) h0 h1 h5
noncomputable def cc:FT (Stac×Unit) (Stac×List ah) (λx=>bq x.1) (λx v=>bq v.1∧sL sS v.2):=⟨λ(x0,_)=>
  .l mD.c (x0,()) λc1=>
  .l eh.c (x0,()) λc2=>
  .u (!c2) (.r (c1,[]))<|
  .l F9.c (x0.link.cache,()) λc3=>
  .l jm.c (x0.door,()) λc4=>
  .lp (fB ((c4.2.length:Int),0,x0,(⟨⟨0,0,[]⟩,⟨0,0,⟨0,⟨false,0,0,[]⟩,⟨false,0,0,[]⟩,false⟩,⟨0,0,0,0⟩,[],⟨[],[]⟩,0⟩⟩:Stac),(⟨⟨c1.link.mac,c1.link.ip,c3⟩,c4.1⟩:Stac),[],c4.2,())).lp λ(_,_,a6_1)=>
  .r ((⟨⟨c1.link.mac,c1.link.ip,c3⟩,c4.1⟩:Stac),a6_1),
 λ(x0,_) hp=>by
  refine Tr.C ?_ λ_ _ _=>Tr.C ?_ λ_ _ _=>Tr.I (λ_=>Tr.R ?_) λ_=>Tr.C ?_ λ_ _ _=>Tr.C ?_ λ_ _ _=>Tr.L (xY ?_ ?_ ?_ ?_ ?_ ?_) (λ(a6_0,a6_1) _=>Tr.R ?_) (λp=>Empty.elim p)
  all_goals ((try simp only[fB,LC.lp,LC.ct,Ct.lp]at*)<;>grind)⟩
noncomputable def De:=dm az Tryz.func22 [(0,lb [1,2,4,7,31,32,33] [2,3,4,7])] [AC,IW,MP,wl,HY] 0 fB (ks:=[.st .stac]) cc (λv=>[(true,AG (.o true) (.o true) (.o true) (.o true) .d (.o true) v.1),(false,[sc (.o true) .str v.2])])
noncomputable def uV:List (Ent1 Tryz.prog):=[]
def iB:Sh:=⟨[zo 0 0,zi 1,zi 5],[.arr .half false false]⟩
noncomputable def uK:Fx:=⟨75,Tryz.f75,[(0,la ⟨[0,1,5],[],false,1⟩ ⟨[1,4],[],false,1⟩)],1⟩
noncomputable def iG (v1:Int)(a:Int×List Half):Tr (Stp (Int×List Half) (Empty)):=
 .grd (aY a.2 v1)<|
 .grd ((decide (0≤v1))&&(decide (v1<((a.2.set v1.toNat ({(a.2.getD v1.toNat (Ty.zero .half))with tuple.ip:=a.1}:Half)).length:Int))))<|
 .d ((a.2.set v1.toNat ({(a.2.getD v1.toNat (Ty.zero .half))with tuple.ip:=a.1}:Half)).set v1.toNat ({((a.2.set v1.toNat ({(a.2.getD v1.toNat (Ty.zero .half))with tuple.ip:=a.1}:Half)).getD v1.toNat (Ty.zero .half))with tuple.port:=(IntKind.wrap .i64 (a.1+1))}:Half)) λl1=>
 .grd (aY l1 v1)<|
 .d (l1.set v1.toNat ({(l1.getD v1.toNat (Ty.zero .half))with tuple.my:=(IntKind.wrap .i64 ((IntKind.wrap .i64 (a.1+1))+1))}:Half)) λl2=>
 .d (IntKind.wrap .i64 ((IntKind.wrap .i64 ((IntKind.wrap .i64 (a.1+1))+1))+1)) λe3=>
 .grd (aY l2 v1)<|
 .grd ((decide (0≤v1))&&(decide (v1<((l2.set v1.toNat ({(l2.getD v1.toNat (Ty.zero .half))with iss:=e3}:Half)).length:Int))))<|
 .d ((l2.set v1.toNat ({(l2.getD v1.toNat (Ty.zero .half))with iss:=e3}:Half)).set v1.toNat ({((l2.set v1.toNat ({(l2.getD v1.toNat (Ty.zero .half))with iss:=e3}:Half)).getD v1.toNat (Ty.zero .half))with irs:=(IntKind.wrap .i64 (e3+1))}:Half)) λl4=>
 .grd (aY l4 v1)<|
 .d (l4.set v1.toNat ({(l4.getD v1.toNat (Ty.zero .half))with opts.mss:=(IntKind.wrap .i64 ((IntKind.wrap .i64 (e3+1))+1))}:Half)) λl5=>
 .d (IntKind.wrap .i64 ((IntKind.wrap .i64 ((IntKind.wrap .i64 (e3+1))+1))+1)) λe6=>
 .grd (aY l5 v1)<|
 .grd ((decide (0≤v1))&&(decide (v1<((l5.set v1.toNat ({(l5.getD v1.toNat (Ty.zero .half))with opts.scale:=e6}:Half)).length:Int))))<|
 .d ((l5.set v1.toNat ({(l5.getD v1.toNat (Ty.zero .half))with opts.scale:=e6}:Half)).set v1.toNat ({((l5.set v1.toNat ({(l5.getD v1.toNat (Ty.zero .half))with opts.scale:=e6}:Half)).getD v1.toNat (Ty.zero .half))with opts.sack:=(((IntKind.wrap .i64 (e6+1)).tmod 3)==0)}:Half)) λl7=>
 .grd (aY l7 v1)<|
 .d (l7.set v1.toNat ({(l7.getD v1.toNat (Ty.zero .half))with opts.stamp:=(((IntKind.wrap .i64 ((IntKind.wrap .i64 (e6+1))+1)).tmod 3)==0)}:Half)) λl8=>
 .d (IntKind.wrap .i64 ((IntKind.wrap .i64 ((IntKind.wrap .i64 (e6+1))+1))+1)) λe9=>
 .grd (aY l8 v1)<|
 .grd ((decide (0≤v1))&&(decide (v1<((l8.set v1.toNat ({(l8.getD v1.toNat (Ty.zero .half))with opts.val:=e9}:Half)).length:Int))))<|
 .d ((l8.set v1.toNat ({(l8.getD v1.toNat (Ty.zero .half))with opts.val:=e9}:Half)).set v1.toNat ({((l8.set v1.toNat ({(l8.getD v1.toNat (Ty.zero .half))with opts.val:=e9}:Half)).getD v1.toNat (Ty.zero .half))with opts.echo:=(IntKind.wrap .i64 (e9+1))}:Half)) λl10=>
 .grd (aY l10 v1)<|
 .d (l10.set v1.toNat ({(l10.getD v1.toNat (Ty.zero .half))with age:=(IntKind.wrap .i64 ((IntKind.wrap .i64 (e9+1))+1))}:Half)) λl11=>
 .d (IntKind.wrap .i64 ((IntKind.wrap .i64 ((IntKind.wrap .i64 (e9+1))+1))+1)) λe12=>
 .grd (aY l11 v1)<|
 .r (.next ((IntKind.wrap .i64 (e12+1)),(l11.set v1.toNat ({(l11.getD v1.toNat (Ty.zero .half))with window:=e12}:Half))))
noncomputable def bt:iB.V→rL iB (Int×List Half):=λ(v0,v1,v2,_)=>⟨v1,(v0,v2),λv1 a=>(a.1,v1,a.2,()),λv1 a=>(decide (v1<(a.2.length:Int))),iG,up,1,(Int.toNat ((v2.length:Int)-v1)),Empty.elim,Prod.mk,oN (.exit 0) ⟨[zi 1,zu 4],[.arr .half false false]⟩ (λx=>(x.2.1,x.2.2,()))⟩
theorem yb:LS Tryz.prog uK [0] (ji 0 iB bt):=dW st (aL uV) _ bt [] trivial
theorem yi {v0 v1:Int}{v2:List Half}(h0:0≤v1)(h1:(v2.length:Int)≤4611686018427387904)(h2:sS v2)(h3:v2.length=v2.length∧v0≤9223372036854775807):(bt (v0,v1,v2,())).S (λv1 a=>a.2.length=v2.length∧a.2.length=v2.length∧a.1≤9223372036854775807) (λ_=>True):=by
 refine LC.okS ⟨rfl,h3⟩ (λj a hj hv=>⟨⟨?_, ?_⟩, ?_⟩) (λa hv=> ?_)
 ·simp only[bt,decide_eq_true_eq]at*;omega
 ·simp only[bt]at*;exact MH (by omega) (by omega)
 ·refine Tr.G2 ?_ λ_=>Tr.G2 ?_ λ_=>Tr.V λ_ _=>Tr.G2 ?_ λ_=>Tr.V λ_ _=>Tr.V λ_ _=>Tr.G2 ?_ λ_=>Tr.G2 ?_ λ_=>Tr.V λ_ _=>Tr.G2 ?_ λ_=>Tr.V λ_ _=>Tr.V λ_ _=>Tr.G2 ?_ λ_=>Tr.G2 ?_ λ_=>Tr.V λ_ _=>Tr.G2 ?_ λ_=>Tr.V λ_ _=>Tr.V λ_ _=>Tr.G2 ?_ λ_=>Tr.G2 ?_ λ_=>Tr.V λ_ _=>Tr.G2 ?_ λ_=>Tr.V λ_ _=>Tr.V λ_ _=>Tr.G2 ?_ λ_=>Tr.Rn ?_
  all_goals (try simp only[bt]at*)<;>(grind)
 ·simp only[bt,decide_eq_false_iff_not]at*;omega
noncomputable def oa:FT (List Half×Int×Unit) (Int×List Half) (λx=>sS x.1∧x.2.1≤9223372036854775807) (λx v=>sS v.2∧v.1≤9223372036854775807):=⟨λ(x0,x1,_)=>
  .lp (bt (x1,0,x0,())).lp λ(_,a13_0,a13_1)=>
  .r (a13_0,a13_1),
 λ(x0,x1,_) hp=>by
  refine Tr.L (yi ?_ ?_ ?_ ?_) (λ(a13_0,a13_1) _=>Tr.R ?_) (λp=>Empty.elim p)
  all_goals ((try simp only[bt,LC.lp,LC.ct,Ct.lp]at*)<;>grind)⟩
noncomputable def DN:=jT st uK uV [(ji 0 iB bt)] [.wr false [.own 0],.sc (.int .i64)] [.arr .half] (λx y=>(y.1,x.2.1,())) oa (λv=>[(false,[.c (.int .i64 v.1)])]) (λx y v=>(v.2,())) Tryz.func75 (by kernel_rfl) ⟨yb,trivial⟩
noncomputable def dE:FT (Door×Int×Unit) (Int×List MacRow×List MacRow×List Half×List Conn×List Tupl) (λx=>aN x.1∧x.2.1≤9223372036854775807) (λx v=>sL aj v.2.1∧sL aj v.2.2.1∧sS v.2.2.2.1∧sL ae v.2.2.2.2.1∧sS v.2.2.2.2.2∧v.1≤9223372036854775807):= .mk λ(x0,x1,_)=>
  .l p7.c (x0.keys,x1,()) λc1=>
  .l oa.c (x0.halves,c1.1,()) λc2=>
  .l om.c (x0.table,c2.1,()) λc3=>
  .r (c3.1,c1.2.1,c1.2.2,c2.2,c3.2.1,c3.2.2)
noncomputable def xa:=jT st ⟨15,Tryz.f15,[],5⟩ [Gx,DN,D0] [] [.wr true [.c (.int .i64),.c (.int .i64),.c (.int .i64),.c .bool,.c (.int .u64),.c (.int .u64),.own 0,.c .bool,.c (.int .u64),.c (.int .u64),.own 1,.c .bool,.c (.int .i64),.c (.int .i64),.c (.int .i64),.c (.int .i64),.own 2,.down 3,.own 4,.c (.int .i64)],.sc (.int .i64)] [.arr .macRow,.arr .macRow,.arr .half,.dar .conn,.arr .tupl] (λx y=>((⟨x.1.1,x.1.2.1,⟨x.1.2.2.1,⟨x.1.2.2.2.1,x.1.2.2.2.2.1,x.1.2.2.2.2.2.1,y.1⟩,⟨x.1.2.2.2.2.2.2.1,x.1.2.2.2.2.2.2.2.1,x.1.2.2.2.2.2.2.2.2.1,y.2.1⟩,x.1.2.2.2.2.2.2.2.2.2.1⟩,⟨x.1.2.2.2.2.2.2.2.2.2.2.1,x.1.2.2.2.2.2.2.2.2.2.2.2.1,x.1.2.2.2.2.2.2.2.2.2.2.2.2.1,x.1.2.2.2.2.2.2.2.2.2.2.2.2.2.1⟩,y.2.2.1,⟨y.2.2.2.1,y.2.2.2.2.1⟩,x.1.2.2.2.2.2.2.2.2.2.2.2.2.2.2.1⟩:Door),x.2.1,())) dE (λv=>[(false,[.c (.int .i64 v.1)])]) (λx y v=>(v.2.1,v.2.2.1,v.2.2.2.1,v.2.2.2.2.1,v.2.2.2.2.2,())) Tryz.func15 (by kernel_rfl) trivial
noncomputable def lW:FT (Stac×Int×Unit) (Int×List Entr×List MacRow×List MacRow×List Half×List Conn×List Tupl) (λx=>bq x.1∧x.2.1≤9223372036854775807) (λx v=>sS v.2.1∧sL aj v.2.2.1∧sL aj v.2.2.2.1∧sS v.2.2.2.2.1∧sL ae v.2.2.2.2.2.1∧sS v.2.2.2.2.2.2∧v.1≤9223372036854775807):= .mk λ(x0,x1,_)=>
  .l vH.c (x0.link,x1,()) λc1=>
  .l dE.c (x0.door,c1.1,()) λc2=>
  .r (c2.1,c1.2,c2.2.1,c2.2.2.1,c2.2.2.2.1,c2.2.2.2.2.1,c2.2.2.2.2.2)
noncomputable def DP:=jT st ⟨25,Tryz.f25,[],6⟩ [FE,xa] [] [.wr true [.c (.int .i64),.c (.int .i64),.own 0,.c (.int .i64),.c (.int .i64),.c (.int .i64),.c .bool,.c (.int .u64),.c (.int .u64),.own 1,.c .bool,.c (.int .u64),.c (.int .u64),.own 2,.c .bool,.c (.int .i64),.c (.int .i64),.c (.int .i64),.c (.int .i64),.own 3,.down 4,.own 5,.c (.int .i64)],.sc (.int .i64)] [.arr .entr,.arr .macRow,.arr .macRow,.arr .half,.dar .conn,.arr .tupl] (λx y=>((⟨⟨x.1.1,x.1.2.1,y.1⟩,⟨x.1.2.2.1,x.1.2.2.2.1,⟨x.1.2.2.2.2.1,⟨x.1.2.2.2.2.2.1,x.1.2.2.2.2.2.2.1,x.1.2.2.2.2.2.2.2.1,y.2.1⟩,⟨x.1.2.2.2.2.2.2.2.2.1,x.1.2.2.2.2.2.2.2.2.2.1,x.1.2.2.2.2.2.2.2.2.2.2.1,y.2.2.1⟩,x.1.2.2.2.2.2.2.2.2.2.2.2.1⟩,⟨x.1.2.2.2.2.2.2.2.2.2.2.2.2.1,x.1.2.2.2.2.2.2.2.2.2.2.2.2.2.1,x.1.2.2.2.2.2.2.2.2.2.2.2.2.2.2.1,x.1.2.2.2.2.2.2.2.2.2.2.2.2.2.2.2.1⟩,y.2.2.2.1,⟨y.2.2.2.2.1,y.2.2.2.2.2.1⟩,x.1.2.2.2.2.2.2.2.2.2.2.2.2.2.2.2.2.1⟩⟩:Stac),x.2.1,())) lW (λv=>[(false,[.c (.int .i64 v.1)])]) (λx y v=>(v.2.1,v.2.2.1,v.2.2.2.1,v.2.2.2.2.1,v.2.2.2.2.2.1,v.2.2.2.2.2.2,())) Tryz.func25 (by kernel_rfl) trivial
noncomputable def uA:=[BD,BI,wh,Fk,Co,Cb,xa,yg,vU,yf]
noncomputable def uz:Fx:=⟨3,Tryz.f3,[(3000008,rA 0 41),(3000014,rA 0 63),(3000029,rA 0 98)],0⟩
noncomputable def kE:FX (Door×Unit) (Bool) (λ_=>True) (bP [.st .door]):=⟨λ(x0,_)=>
  .l cf.c (x0,1048576,()) λc1=>
  .u (decide (c1<0)) (.r true)<|
  .l lT.c (x0,()) λc2=>
  .l jr.c (c2,()) λc3=>
  .l lT.c (x0,()) λc4=>
  .l cz.c (c4,()) λc5=>
  .bnd (β:=Bool×Unit) (.l lP.c (c5.1,c3.1,()) λc6=>
   .u (!c6) (.r (true,()))<|
   .l iE.c (c5.2,c3.2,()) λc7=>
   .r ((!c7),())) λ(u8a0,_)=>
  .u u8a0 (.r false)<|
  .l lT.c (x0,()) λc9=>
  .l lP.c (c4,c9,()) λc10=>
  .u (!c10) (.r false)<|
  .l dE.c (c4,1,()) λc11=>
  .bnd (β:=Bool×Unit) (.u (decide (c11.1<0)) (.r (true,()))<|
   .l lP.c (c5.1,c3.1,()) λc12=>
   .u (!c12) (.r (true,()))<|
   .l iE.c (c5.2,c3.2,()) λc13=>
   .r ((!c13),())) λ(u14a0,_)=>
  .u u14a0 (.r false)<|
  .l dE.c (c5.1,1,()) λc15=>
  .l ku.c (c5.2,c15.1,()) λc16=>
  .l lc.c (({c5.1 with keys.now.rows:=c15.2.1,keys.before.rows:=c15.2.2.1,halves:=c15.2.2.2.1,table.conns:=c15.2.2.2.2.1,table.waiting:=c15.2.2.2.2.2}:Door),1,()) λc17=>
  .u (decide (c17<0)) (.r false)<|
  .l hZ.c (c16.2,c17,()) λc18=>
  .u (decide (c18<0)) (.r false)<|
  .u (c18 != c16.1) (.r false)<|
  .l lT.c (x0,()) λc19=>
  .l cz.c (c19,()) λc20=>
  .bnd (β:=Bool×Unit) (.l lP.c (c20.1,c3.1,()) λc21=>
   .u (!c21) (.r (true,()))<|
   .l iE.c (c20.2,c3.2,()) λc22=>
   .r ((!c22),())) λ(u23a0,_)=>
  .u u23a0 (.r false)<|
  .l lc.c (({c5.1 with keys.now.rows:=c15.2.1,keys.before.rows:=c15.2.2.1,halves:=c15.2.2.2.1,table.conns:=c15.2.2.2.2.1,table.waiting:=c15.2.2.2.2.2}:Door),1,()) λc24=>
  .u (decide (c24<0)) (.r false)<|
  .l hZ.c (c16.2,c24,()) λc25=>
  .u (decide (c25<0)) (.r false)<|
  .u (c25 != c16.1) (.r false)<|
  .r true,
 λ(x0,_) hp hf=>by
  simp only[bP,Pk.fact,gd,eo,Fl.fact,Ty.fl,Ty.toH]at hf
  refine Tr.C trivial λc1 hc1 qc1=>Tr.I (λb0=>Tr.R trivial) λb0=>Tr.C ?_ λc2 hc2 qc2=>Tr.C ?_ λc3 hc3 qc3=>Tr.C ?_ λc4 hc4 qc4=>Tr.C ?_ λc5 hc5 qc5=>Tr.B (Q':=λ_=>True) (Tr.C ?_ λc6 hc6 qc6=>Tr.I (λb1=>Tr.R trivial) λb1=>Tr.C ?_ λc7 hc7 qc7=>Tr.R trivial) (λ(u8a0,_) hj8 qj8=>Tr.I (λb1=>Tr.R trivial) λb1=>Tr.C ?_ λc9 hc9 qc9=>Tr.C ?_ λc10 hc10 qc10=>Tr.I (λb2=>Tr.R trivial) λb2=>Tr.C ?_ λc11 hc11 qc11=>Tr.B (Q':=λ_=>True) (Tr.I (λb3=>Tr.R trivial) λb3=>Tr.C ?_ λc12 hc12 qc12=>Tr.I (λb4=>Tr.R trivial) λb4=>Tr.C ?_ λc13 hc13 qc13=>Tr.R trivial) (λ(u14a0,_) hj14 qj14=>Tr.I (λb3=>Tr.R trivial) λb3=>Tr.C ?_ λc15 hc15 qc15=>Tr.C ?_ λc16 hc16 qc16=>Tr.C ?_ λc17 hc17 qc17=>Tr.I (λb4=>Tr.R trivial) λb4=>Tr.C ?_ λc18 hc18 qc18=>Tr.I (λb5=>Tr.R trivial) λb5=>Tr.I (λb6=>Tr.R trivial) λb6=>Tr.C ?_ λc19 hc19 qc19=>Tr.C ?_ λc20 hc20 qc20=>Tr.B (Q':=λ_=>True) (Tr.C ?_ λc21 hc21 qc21=>Tr.I (λb7=>Tr.R trivial) λb7=>Tr.C ?_ λc22 hc22 qc22=>Tr.R trivial) (λ(u23a0,_) hj23 qj23=>Tr.I (λb7=>Tr.R trivial) λb7=>Tr.C ?_ λc24 hc24 qc24=>Tr.I (λb8=>Tr.R trivial) λb8=>Tr.C ?_ λc25 hc25 qc25=>Tr.F (by kernel_rfl) trivial)))
  all_goals ((try simp only[Tr.nice,jt]at*)<;>((obtain⟨⟨_,_,_,_,_,_,⟨n1,n2⟩,_,_,_,⟨m1,m2⟩,_,_,_,_,_,⟨hh,_⟩,⟨hl,he⟩,⟨hw,_⟩,_⟩,_⟩:=hf;have k1:0≤cf.f (x0,1048576,()):=(by rw[←hc1];simpa using b0);have hD:=(CQ x0 1048576 (by omega) (by omega) n1 n2 m1 m2 hh hl he hw k1);have hD2:=hD.2;grind)))⟩
noncomputable def uC:=Mw st uz uA [] (ks:=[.st .door]) kE rB Tryz.func3 trivial
noncomputable def sE:=[Hm,Hd,DJ,De,Iw,DE,DP,zQ,D4,zR]
noncomputable def tp:Fx:=⟨4,Tryz.f4,[(3000008,rA 0 41),(3000014,rA 0 63),(3000029,rA 0 98)],0⟩
noncomputable def jo:FX (Stac×Unit) (Bool) (λ_=>True) (bP [.st .stac]):=⟨λ(x0,_)=>
  .l cK.c (x0,1048576,()) λc1=>
  .u (decide (c1<0)) (.r true)<|
  .l le.c (x0,()) λc2=>
  .l gJ.c (c2,()) λc3=>
  .l le.c (x0,()) λc4=>
  .l cc.c (c4,()) λc5=>
  .bnd (β:=Bool×Unit) (.l kY.c (c5.1,c3.1,()) λc6=>
   .u (!c6) (.r (true,()))<|
   .l jL.c (c5.2,c3.2,()) λc7=>
   .r ((!c7),())) λ(u8a0,_)=>
  .u u8a0 (.r false)<|
  .l le.c (x0,()) λc9=>
  .l kY.c (c4,c9,()) λc10=>
  .u (!c10) (.r false)<|
  .l lW.c (c4,1,()) λc11=>
  .bnd (β:=Bool×Unit) (.u (decide (c11.1<0)) (.r (true,()))<|
   .l kY.c (c5.1,c3.1,()) λc12=>
   .u (!c12) (.r (true,()))<|
   .l jL.c (c5.2,c3.2,()) λc13=>
   .r ((!c13),())) λ(u14a0,_)=>
  .u u14a0 (.r false)<|
  .l lW.c (c5.1,1,()) λc15=>
  .l lC.c (c5.2,c15.1,()) λc16=>
  .l lS.c (({c5.1 with link.cache:=c15.2.1,door.keys.now.rows:=c15.2.2.1,door.keys.before.rows:=c15.2.2.2.1,door.halves:=c15.2.2.2.2.1,door.table.conns:=c15.2.2.2.2.2.1,door.table.waiting:=c15.2.2.2.2.2.2}:Stac),1,()) λc17=>
  .u (decide (c17<0)) (.r false)<|
  .l iX.c (c16.2,c17,()) λc18=>
  .u (decide (c18<0)) (.r false)<|
  .u (c18 != c16.1) (.r false)<|
  .l le.c (x0,()) λc19=>
  .l cc.c (c19,()) λc20=>
  .bnd (β:=Bool×Unit) (.l kY.c (c20.1,c3.1,()) λc21=>
   .u (!c21) (.r (true,()))<|
   .l jL.c (c20.2,c3.2,()) λc22=>
   .r ((!c22),())) λ(u23a0,_)=>
  .u u23a0 (.r false)<|
  .l lS.c (({c5.1 with link.cache:=c15.2.1,door.keys.now.rows:=c15.2.2.1,door.keys.before.rows:=c15.2.2.2.1,door.halves:=c15.2.2.2.2.1,door.table.conns:=c15.2.2.2.2.2.1,door.table.waiting:=c15.2.2.2.2.2.2}:Stac),1,()) λc24=>
  .u (decide (c24<0)) (.r false)<|
  .l iX.c (c16.2,c24,()) λc25=>
  .u (decide (c25<0)) (.r false)<|
  .u (c25 != c16.1) (.r false)<|
  .r true,
 λ(x0,_) hp hf=>by
  simp only[bP,Pk.fact,gd,eo,Fl.fact,Ty.fl,Ty.toH]at hf
  refine Tr.C trivial λc1 hc1 qc1=>Tr.I (λb0=>Tr.R trivial) λb0=>Tr.C ?_ λc2 hc2 qc2=>Tr.C ?_ λc3 hc3 qc3=>Tr.C ?_ λc4 hc4 qc4=>Tr.C ?_ λc5 hc5 qc5=>Tr.B (Q':=λ_=>True) (Tr.C ?_ λc6 hc6 qc6=>Tr.I (λb1=>Tr.R trivial) λb1=>Tr.C ?_ λc7 hc7 qc7=>Tr.R trivial) (λ(u8a0,_) hj8 qj8=>Tr.I (λb1=>Tr.R trivial) λb1=>Tr.C ?_ λc9 hc9 qc9=>Tr.C ?_ λc10 hc10 qc10=>Tr.I (λb2=>Tr.R trivial) λb2=>Tr.C ?_ λc11 hc11 qc11=>Tr.B (Q':=λ_=>True) (Tr.I (λb3=>Tr.R trivial) λb3=>Tr.C ?_ λc12 hc12 qc12=>Tr.I (λb4=>Tr.R trivial) λb4=>Tr.C ?_ λc13 hc13 qc13=>Tr.R trivial) (λ(u14a0,_) hj14 qj14=>Tr.I (λb3=>Tr.R trivial) λb3=>Tr.C ?_ λc15 hc15 qc15=>Tr.C ?_ λc16 hc16 qc16=>Tr.C ?_ λc17 hc17 qc17=>Tr.I (λb4=>Tr.R trivial) λb4=>Tr.C ?_ λc18 hc18 qc18=>Tr.I (λb5=>Tr.R trivial) λb5=>Tr.I (λb6=>Tr.R trivial) λb6=>Tr.C ?_ λc19 hc19 qc19=>Tr.C ?_ λc20 hc20 qc20=>Tr.B (Q':=λ_=>True) (Tr.C ?_ λc21 hc21 qc21=>Tr.I (λb7=>Tr.R trivial) λb7=>Tr.C ?_ λc22 hc22 qc22=>Tr.R trivial) (λ(u23a0,_) hj23 qj23=>Tr.I (λb7=>Tr.R trivial) λb7=>Tr.C ?_ λc24 hc24 qc24=>Tr.I (λb8=>Tr.R trivial) λb8=>Tr.C ?_ λc25 hc25 qc25=>Tr.F (by kernel_rfl) trivial)))
  all_goals ((try simp only[Tr.nice,jt]at*)<;>((obtain⟨⟨_,_,⟨hc,_⟩,_,_,_,_,_,_,⟨n1,n2⟩,_,_,_,⟨m1,m2⟩,_,_,_,_,_,⟨hh,_⟩,⟨hl,he⟩,⟨hw,_⟩,_⟩,_⟩:=hf;have k1:0≤cK.f (x0,1048576,()):=(by rw[←hc1];simpa using b0);have hS:=(EW x0 1048576 (by omega) (by omega) hc n1 n2 m1 m2 hh hl he hw k1);have hS2:=hS.2;grind)))⟩
noncomputable def tn:=Mw st tp sE [] (ks:=[.st .stac]) jo rB Tryz.func4 trivial
theorem eA (n b:Int):aC.f (n,b,())=aa.f (n,b,()):=by
 simp only[PX,aC,aa,dr,aG]
 cases h:(decide (1≤b)&&decide (b≤62))with
 |false=>simp only[cond_false]
 |true=>
  have h1:1≤b∧b≤62:=by simpa using h
  rw[G7 (by omega) (by omega)]
theorem xC (x:Tupl):pA.f (x,())=cH.f (x,()):=by
 simp only[PX,pA,cH,eA]
theorem lF (x:Opti):gR.f (x,())=bf.f (x,()):=by
 simp only[PX,gR,bf,eA,dr,aG]
theorem xE (x:Int):gO.f (x,())=x%4294967296:=by
 simp only[PX,gO]
 rcases Int.lt_or_le x 0 with h|h
 ·rw[(pS 4294967296).2 h,eI]
  cases hd:decide (-(-x%4294967296)<0)with
  |true=>simp only[decide_eq_true_eq]at hd;simp only[cond_true];omega
  |false=>simp only[decide_eq_false_iff_not]at hd;simp only[cond_false];omega
 ·rw[(pS 4294967296).1 h,eI]
  cases hd:decide (x%4294967296<0)with
  |true=>simp only[decide_eq_true_eq]at hd;omega
  |false=>rfl
theorem lg (a b:Int):fc.f (a,b,())=(a+b)%4294967296:=by
 simp only[PX,fc]
 rw[Ci,eI];omega
theorem Nw (a b:Int):wn.f (a,b,())=fc.f (a,b,()):=by
 rw[lg]
 simp only[PX,wn,xE,eI];omega
theorem LD (x y:Mac):tI.f (x,y,())=ur.f (x,y,()):=by
 simp only[PX,tI,ur,nN,kd,eX,sC,mz]
 have e1:(x.k != y.k)= !(x.k==y.k):=rfl
 have e2:(x.l != y.l)= !(x.l==y.l):=rfl
 rw[e1,e2]
 cases(x.use==y.use)<;>cases(x.k==y.k)<;>cases(x.l==y.l)<;>cases((x.rows.length:Int) != (y.rows.length:Int))<;>rfl
theorem pT (n b:Int):aZ.f (n,b,())=av.f (n,b,()):=by
 simp only[PX,aZ,av,eA,dr,aG,gY,fC]
 cases h1:(decide (1≤b)&&decide (b≤6))with
 |false=>rfl
 |true=>
  cases h2:aa.f (n,(IntKind.wrap .i64 (8*b)),())with
  |false=>rfl
  |true=>
   have hb:0≤n∧n≤9223372036854775807:=by
    revert h2
    simp only[PX,aa,aG]
    cases(decide (1≤IntKind.wrap .i64 (8*b))&&decide (IntKind.wrap .i64 (8*b)≤62))with
    |false=>simp
    |true=>
     simp only[cond_true,Bool.and_eq_true,decide_eq_true_eq]
     generalize(IntKind.wrap .i64 (1*2 ^ (min (IntKind.wrap .i64 (8*b)).toNat 64)))=z
     rw[eI]
     omega
   have e:∀k i r,a9 (λj a=>(kh j a).nice) (-1) k i (n,r)=a9 (λj a=>(gT j a).nice) (-1) k i (n,r):=by
    intro k i r
    refine yX (P:=λa=>0≤a.1∧a.1≤9223372036854775807) (λi a ha=> ?_) (λi a a' ha he=> ?_) k i (n,r) hb
    ·simp only[PX,kh,gT]
     rw[(vL 256).1 ha.1,(pS 256).1 ha.1,aw (by omega) (by omega),Int.fdiv_eq_ediv_of_nonneg a.1 (by omega),xU,xU,Int.emod_emod]
    ·simp only[PX,kh]at he
     cases he
     show 0≤IntKind.wrap .i64 (a.1.tdiv 256)∧_
     rw[(vL 256).1 ha.1,aw (by omega) (by omega)]
     omega
   simp only[e]
theorem Ni (x:Mac)(r:List MacRow)(j:Nat)(hj:j<r.length)(hr:x.rows=r):
  Stp.elim (γ:=Stp Unit Unit) (λ_=> .next ()) (λ_=> .out ()) (a9 (λi a=>(nV (j:Int) x i a).nice) 1 (Int.toNat ((j:Int)-0)) 0 ())=
  bif bV.f (((r.take j).drop 0),(r.getD j (Ty.zero .macRow)),())then .out ()else .next ():=by
 subst hr
 let p:MacRow→Bool:=λy=>y.input==(x.rows.getD j (Ty.zero .macRow)).input
 simp only[PX,bV,dC,aO]
 rw[List.drop_zero]
 have hl:(x.rows.take j).length=j:=by rw[List.length_take];omega
 rw[bi (x.rows.take j) _ (by rw[hl];simp) (F:=λq y a=>bif p y then .out ()else .next ()) (by
  intro q y a h
  have hq:q<j:=by
   have:=(List.getElem?_eq_some_iff.1 h).1;omega
  have h2:x.rows[q]? =some y:=by rw[List.getElem?_take]at h;simpa [hq]using h
  simp only[PX,nV,Z,getD_some h2,p])]
 rw[bi (x.rows.take j) _ (by simp) (F:=λq y a=>bif p y then .out (q:Int)else .next ()) (by
  intro q y a h
  simp only[PX,eb,x9,Z,getD_some h,p])]
 rw[ju (w:=λ_ _=>()),ju (w:=λj _=>(j:Int))]
 cases h:(x.rows.take j).findIdx? p with
 |none=>simp[PX,Stp.elim]
 |some i=>
  have:=(List.findIdx?_eq_some_iff_getElem.1 h).1
  simp only[List.getElem?_eq_getElem this,Stp.elim]
  simp[PX]
theorem OB (x:Mac):xj.f (x,())=qp.f (x,()):=by
 simp only[PX,xj,qp,iq,mH]
 have e:a9 (λj a=>(qC x j a).nice) 1 (Int.toNat ((x.rows.length:Int)-0)) 0 ()=a9 (λj a=>(mX x.rows x j a).nice) 1 (Int.toNat ((x.rows.length:Int)-0)) 0 ():=by
  rw[ai]
  refine Ht x.rows.length 0 () (λj a hj=> ?_)
  have:=Ni x x.rows j (by omega) rfl
  simp only[PX,qC,mX,dR,Z,dr,aG]at this⊢
  rw[this]
 rw[e]
 have e1:(x.k != 0)= !(x.k==0):=rfl
 have e2:(x.l != 0)= !(x.l==0):=rfl
 have e3:decide (64<(x.rows.length:Int))= !decide ((x.rows.length:Int)≤64):=by
  rcases Int.lt_or_le 64 (x.rows.length:Int)with h|h
  ·simp[h,show¬((x.rows.length:Int)≤64) by omega]
  ·simp[h,show¬(64<(x.rows.length:Int)) by omega]
 rw[e1,e2,e3]
 generalize a9 (λj a=>(mX x.rows x j a).nice) 1 (Int.toNat ((x.rows.length:Int)-0)) 0 ()=z
 cases x.use<;>cases z<;>cases(x.k==0)<;>cases(x.l==0)<;>cases decide ((x.rows.length:Int)≤64)<;>simp[PX,Stp.elim]
theorem NS (k:Keys):xt.f (k,())=nP.f (k,()):=by
 simp only[PX,xt,nP,eA,OB,LD,gP,aG]
 cases ht:k.two<;>simp only[PX,cond_true,cond_false,ht]<;>cases qp.f (k.now,())<;>cases qp.f (k.before,())<;>grind
theorem Mz (m:Mac):pP.f (m,())=m:=by simp only[PX,pP,List.nil_append]
theorem Jt (m:Mac):n3.f (m,())=m:=by simp only[PX,n3,kG]
theorem HF (x:Segm):ou.f (x,())=bk.f (x,()):=by simp only[PX,ou,bk,eA,lF]
theorem Qh (x:Int):lr.f (0,x,())=(if 0<x then x else 0):=by
 rw[nt];grind
theorem BU {A W:Type}{f:Int→A→Stp A W}{st:Int}{P:A→Prop}(hp:∀i a a',P a→f i a= .next a'→P a'):∀(k:Nat) (i:Int) (a a':A),P a→a9 f st k i a= .next a'→P a'
 |0,_,_,_,ha,h=>by cases h;exact ha
 |k+1,i,a,a',ha,h=>by
  simp only[a9]at h
  cases hf:f i a with
  |out w'=>rw[hf]at h;cases h
  |next a1=>rw[hf]at h;exact BU hp k _ a1 a' (hp i a a1 ha hf) h
theorem oy {T:Type}(p:T→Bool)(xs:List T):decide (0≤iW p xs)=xs.any p:=by
 unfold iW
 cases h:xs.findIdx? p with
 |none=>
  rw[List.findIdx?_eq_none_iff]at h
  symm
  show xs.any p=false
  rw[List.any_eq_false]
  intro x hx;simp[h x hx]
 |some i=>
  obtain⟨h1,h2,_⟩:=List.findIdx?_eq_some_iff_getElem.1 h
  have:xs.any p=true:=by rw[List.any_eq_true];exact⟨xs[i],List.getElem_mem h1,h2⟩
  rw[this];simp
theorem Oq {T:Type}(p:T→Bool)(xs:List T):decide (iW p xs<0)= !xs.any p:=by
 rw[←oy]
 by_cases h:0≤iW p xs
 ·rw[decide_eq_true h,decide_eq_false (by omega)];rfl
 ·rw[decide_eq_false h,decide_eq_true (by omega)];rfl
theorem z4 {T:Type}(p:T→Bool)(xs:List T)(j:Nat)(x:T)(hx:xs[j]? =some x)(hp:p x=true):(iW p xs != (j:Int))=(xs.take j).any p:=by
 obtain⟨hj,rfl⟩:=List.getElem?_eq_some_iff.1 hx
 unfold iW
 cases h:xs.findIdx? p with
 |none=>
  rw[List.findIdx?_eq_none_iff]at h
  have:=h _ (List.getElem_mem hj)
  rw[hp]at this;cases this
 |some i=>
  obtain⟨h1,h2,h3⟩:=List.findIdx?_eq_some_iff_getElem.1 h
  simp only[]
  rw[Bool.eq_iff_iff]
  simp only[bne_iff_ne,ne_eq,List.any_eq_true]
  constructor
  ·intro hne
   have hij:i<j:=by
    rcases Nat.lt_or_ge i j with h4|h4
    ·exact h4
    ·have h5:j<i:=by omega
     have:=h3 j h5
     simp[hp]at this
   refine⟨xs[i], ?_,h2⟩
   rw[List.mem_take_iff_getElem]
   exact⟨i,by omega,rfl⟩
  ·rintro⟨y,hy,hpy⟩ he
   rw[List.mem_take_iff_getElem]at hy
   obtain⟨k,hk,rfl⟩:=hy
   have:k<i:=by omega
   have:=h3 k this
   simp[hpy]at this
def ml (t y:Tupl):Bool:=(y.ip==t.ip)&&((y.port==t.port)&&((y.my==t.my)&&true))
theorem sy (t:Tupl):ml t t=true:=by simp[ml]
theorem r6 (xs:List Half)(t:Tupl):p6.f (xs,t,())=iW (λh=>ml t h.tuple) xs:=by
 simp only[PX,p6,i5]
 rw[iI (λh:Half=>ml t h.tuple) xs (λj x a h=>by
  simp only[PX,rf,Z,getD_some h,ml])]
 unfold iW
 cases xs.findIdx? (λh=>ml t h.tuple)<;>rfl
theorem CZ (xs:List Half)(t:Tupl):qq.f (xs,t,())=iW (λh=>ml t h.tuple) xs:=by
 simp only[PX,qq,dq,aI]
 rw[iI (λh:Half=>ml t h.tuple) xs (λj x a h=>by
  simp only[PX,dT,qi,Z,getD_some h,ml])]
 unfold iW
 cases xs.findIdx? (λh=>ml t h.tuple)<;>rfl
theorem AN (x:Tabl)(t:Tupl):hP.f (x,t,())=iW (λh=>ml t h.tuple) x.conns:=by
 simp only[PX,hP,jb]
 rw[iI (λh:Conn=>ml t h.tuple) x.conns (λj x a h=>by
  simp only[PX,rr,Z,getD_some h,ml])]
 unfold iW
 cases x.conns.findIdx? (λh=>ml t h.tuple)<;>rfl
theorem kF (x:Tabl)(t:Tupl):bE.f (x,t,())=iW (λh=>ml t h.tuple) x.conns:=by
 simp only[PX,bE,dg,aK]
 rw[iI (λh:Conn=>ml t h.tuple) x.conns (λj x a h=>by
  simp only[PX,dZ,qz,Z,getD_some h,ml])]
 unfold iW
 cases x.conns.findIdx? (λh=>ml t h.tuple)<;>rfl
theorem p4 (x:Tabl)(t:Tupl):hP.f (x,t,())=bE.f (x,t,()):=by rw[AN,kF]
theorem Bb (x:Recv):nI.f (x,())=cb.f (x,()):=by
 simp only[PX,nI,cb,Qh]
theorem Il (x:Recv)(h:(x.data.length:Int)≤32):cb.f (x,())≤32:=by
 simp only[PX,cb]
 cases x.done with
 |true=>simp only[cond_true];omega
 |false=>
  simp only[cond_false]
  rw[aw (by omega) (by omega)]
  split<;>omega
theorem qR (x:Sndr):eK.f (x,())=bv.f (x,()):=by
 simp only[PX,eK,bv,eA,dr,aG]
def lO (L:Int):Int→List Piec→Option Int
 |a,[]=>some a
 |a,p::r=>bif (p.text==[])||decide (p.off≤a)||decide (L<p.off+(p.text.length:Int))then none else lO L (p.off+(p.text.length:Int)) r
theorem Hq (L:Int):∀(r:List Piec) (a b:Int),lO L a r=some b→a≤b∧(a≤L→b≤L)
 |[],a,b,h=>by cases h;exact⟨Int.le_refl _,λh=>h⟩
 |p::r,a,b,h=>by
  simp only[lO]at h
  cases hc:((p.text==[])||decide (p.off≤a)||decide (L<p.off+(p.text.length:Int)))with
  |true=>rw[hc]at h;cases h
  |false=>
   rw[hc]at h
   simp only[Bool.or_eq_false_iff,decide_eq_false_iff_not]at hc
   have:=Hq L r _ b h
   omega
theorem D9 (L M:Int)(hLM:L≤M):∀(r:List Piec) (a:Int),a≤L→lO L a r=(match lO M a r with|some b=>bif decide (b≤L)then some b else none|none=>none)
 |[],a,h=>by simp only[lO,decide_eq_true h,cond_true]
 |p::r,a,h=>by
  simp only[lO]
  cases h1:((p.text==[])||decide (p.off≤a))with
  |true=>simp only[Bool.true_or,cond_true]
  |false=>
   simp only[Bool.false_or]
   by_cases h2:L<p.off+(p.text.length:Int)
   ·rw[decide_eq_true h2]
    simp only[cond_true]
    by_cases h3:M<p.off+(p.text.length:Int)
    ·rw[decide_eq_true h3];rfl
    ·rw[decide_eq_false h3]
     simp only[cond_false]
     cases hw:lO M (p.off+(p.text.length:Int)) r with
     |none=>rfl
     |some b=>
      have:=(Hq M r _ b hw).1
      simp only[]
      rw[decide_eq_false (by omega)]
      rfl
   ·rw[decide_eq_false h2,decide_eq_false (show¬M<p.off+(p.text.length:Int) by omega)]
    simp only[cond_false]
    exact D9 L M hLM r _ (by omega)
def kg (xs:List Piec):Prop:=∀y∈xs,y.text.length≤4611686018427387904
theorem HC {s:ah}(h:(s==[])=false):0<s.length:=by
 cases s with
 |nil=>cases h
 |cons=>simp
theorem vi {W:Type}{F:Nat→Piec→Int→Stp Int W}{L:Int}{w:W}:∀(r:List Piec) (j:Nat) (a:Int),0≤a→a≤32→L≤32→(∀p∈r,∀j a,0≤a→a≤32→(∃w,(p.text==[]||decide (p.off≤a)||decide (L<p.off+(p.text.length:Int)))=true∧F j p a= .out w)∨((p.text==[]||decide (p.off≤a)||decide (L<p.off+(p.text.length:Int)))=false∧F j p a= .next (p.off+(p.text.length:Int))))→
  (match lO L a r with|some b=>cT F j r a= .next b|none=>∃w,cT F j r a= .out w)
 |[],j,a,_,_,_,_=>rfl
 |p::r,j,a,h0,h1,hL,hF=>by
  rcases hF p List.mem_cons_self j a h0 h1 with⟨w,hc,hf⟩|⟨hc,hf⟩
  ·simp only[lO,hc,cond_true,cT,hf,Stp.elim]
   exact⟨w,rfl⟩
  ·simp only[lO,hc,cond_false,cT,hf,Stp.elim]
   simp only[Bool.or_eq_false_iff,decide_eq_false_iff_not]at hc
   exact vi (w:=w) r (j+1) _ (by omega) (by omega) hL λq hq=>hF q (List.mem_cons_of_mem _ hq)
theorem PU (x:Recv)(L:Int)(hL:L≤32)(hs:kg x.held):match lO L 0 x.held with|some b=>a9 (λj a=>(dB L x j a).nice) 1 (Int.toNat ((x.held.length:Int)-0)) 0 0= .next b|none=>∃w,a9 (λj a=>(dB L x j a).nice) 1 (Int.toNat ((x.held.length:Int)-0)) 0 0= .out w:=by
 rw[ai,bi x.held _ rfl (F:=λj p a=>(dB L {x with held:=[p]} 0 a).nice) (by
  intro j p a h
  simp only[PX,dB,Z,getD_some h]
  rfl)]
 refine vi (w:=(0:Int)) _ _ _ (by omega) (by omega) hL λp hp j a h0 h1=> ?_
 have hl:=hs p hp
 simp only[PX,dB,show Int.toNat 0=0 from rfl,List.getD_cons_zero]
 cases h2:(p.text==[])with
 |true=>exact .inl ⟨_,rfl,rfl⟩
 |false=>
  have hp:=HC h2
  cases h3:decide (p.off≤a)with
  |true=>exact .inl ⟨_,rfl,rfl⟩
  |false=>
   simp only[decide_eq_false_iff_not]at h3
   simp only[cond_false,Bool.false_or]
   by_cases h4:L<p.off
   ·refine .inl ⟨a,decide_eq_true (by omega), ?_⟩
    rw[decide_eq_true h4];rfl
   ·rw[decide_eq_false h4,aw (by omega) (by omega)]
    simp only[cond_false]
    by_cases h5:L<p.off+(p.text.length:Int)
    ·rw[decide_eq_true h5];exact .inl ⟨_,rfl,rfl⟩
    ·rw[decide_eq_false h5];exact .inr ⟨rfl,rfl⟩
theorem JI (x:Recv)(L:Int)(hL0: -9223372036854775808≤L-4611686018427387904)(hL:L≤32)(hs:kg x.held):match lO L 0 x.held with|some b=>a9 (λj a=>(cy L x.held j a).nice) 1 (Int.toNat ((x.held.length:Int)-0)) 0 0= .next b|none=>∃w,a9 (λj a=>(cy L x.held j a).nice) 1 (Int.toNat ((x.held.length:Int)-0)) 0 0= .out w:=by
 rw[ai,bi x.held _ rfl (F:=λj p a=>(cy L [p] 0 a).nice) (by
  intro j p a h
  simp only[PX,cy,Z,getD_some h]
  rfl)]
 refine vi (w:=()) _ _ _ (by omega) (by omega) hL λp hp j a h0 h1=> ?_
 have hl:=hs p hp
 simp only[PX,cy,show Int.toNat 0=0 from rfl,List.getD_cons_zero]
 cases h2:(p.text==[])with
 |true=>exact .inl ⟨_,rfl,rfl⟩
 |false=>
  have hp:=HC h2
  cases h3:decide (p.off≤a)with
  |true=>exact .inl ⟨_,rfl,rfl⟩
  |false=>
   simp only[decide_eq_false_iff_not]at h3
   simp only[cond_false,Bool.false_or]
   rw[aw (m:=L-(p.text.length:Int)) (by omega) (by omega)]
   by_cases h5:L<p.off+(p.text.length:Int)
   ·rw[decide_eq_true h5,decide_eq_true (by omega)];exact .inl ⟨_,rfl,rfl⟩
   ·rw[decide_eq_false h5,decide_eq_false (by omega),aw (by omega) (by omega)];exact .inr ⟨rfl,rfl⟩
theorem FQ (x:Recv)(hs:kg x.held):mZ.f (x,())=cV.f (x,()):=by
 simp only[PX,mZ,cV,eB,dA,eA,dr,Bb]
 cases aa.f (x.next,32,())with
 |false=>rfl
 |true=>
  by_cases hd:32<(x.data.length:Int)
  ·rw[decide_eq_true hd];rfl
  ·rw[decide_eq_false hd]
   have hw:=Il x (by omega)
   simp only[Bool.not_true,cond_false]
   cases decide (3<(x.held.length:Int))with
   |true=>rfl
   |false=>
    simp only[cond_false]
    rw[aG]
    by_cases hf: -1≤x.fin∧x.fin≤cb.f (x,())
    ·rw[decide_eq_true hf.1,decide_eq_true hf.2]
     simp only[Bool.and_self,Bool.not_true,cond_false]
     cases h0:(x.fin==0)with
     |true=>rfl
     |false=>
      simp only[cond_false]
      have h0:x.fin≠0:=by simpa using h0
      have k1:=PU x (cb.f (x,())) hw hs
      by_cases h1:x.fin= -1
      ·have k2:=JI x (cb.f (x,())) (by omega) hw hs
       rw[show(x.fin != -1)=false by simp[h1],show decide (x.fin<0)=true from decide_eq_true (by omega)]
       simp only[cond_true,cond_false]
       cases hp:lO (cb.f (x,())) 0 x.held with
       |some b=>rw[hp]at k1 k2;simp only[]at k1 k2;rw[k1,k2];rfl
       |none=>rw[hp]at k1 k2;obtain⟨w1,k1⟩:=k1;obtain⟨w2,k2⟩:=k2;rw[k1,k2];rfl
      ·have k2:=JI x x.fin (by omega) (by omega) hs
       rw[show(x.fin != -1)=true by simp[h1],show decide (x.fin<0)=false from decide_eq_false (by omega)]
       simp only[cond_true,cond_false]
       rw[D9 x.fin (cb.f (x,())) (by omega) x.held 0 (by omega)]at k2
       cases hp:lO (cb.f (x,())) 0 x.held with
       |none=>rw[hp]at k1 k2;obtain⟨w1,k1⟩:=k1;obtain⟨w2,k2⟩:=k2;rw[k1,k2];rfl
       |some b=>
        rw[hp]at k1 k2
        simp only[]at k1 k2
        rw[k1]
        by_cases hb:b≤x.fin
        ·rw[decide_eq_true hb]at k2
         simp only[cond_true]at k2
         rw[k2];simp only[Stp.elim,decide_eq_true hb,cond_true]
        ·rw[decide_eq_false hb]at k2
         obtain⟨w2,k2⟩:=k2
         rw[k2];simp only[Stp.elim,decide_eq_false hb,cond_false]
    ·have:(decide (-1≤x.fin)&&decide (x.fin≤cb.f (x,())))=false:=by
      rw[Bool.and_eq_false_iff];simp only[decide_eq_false_iff_not];omega
     rw[this];rfl
theorem ww (x:Conn)(hs:kg x.r.held):nv.f (x,())=cm.f (x,()):=by
 simp only[PX,nv,cm,CG,xC,qR,FQ x.r hs,lF,dr,aG]
 cases cH.f (x.tuple,())with
 |false=>rfl
 |true=>
 cases bv.f (x.s,())with
 |false=>rfl
 |true=>
 cases cV.f (x.r,())with
 |false=>rfl
 |true=>
 cases bf.f (x.opts,())with
 |false=>rfl
 |true=>
 simp only[Bool.not_true,cond_false]
 have hm:(bif !(decide (0≤x.window)&&decide (x.window≤x.most))then true else decide (1073725440<x.most))=(bif !(decide (0≤x.most)&&decide (x.most≤1073725440))then true else !(decide (0≤x.window)&&decide (x.window≤x.most))):=by
  rw[Bool.eq_iff_iff]
  by_cases h1:0≤x.window<;>by_cases h2:x.window≤x.most<;>by_cases h3:1073725440<x.most<;>by_cases h4:0≤x.most<;>by_cases h5:x.most≤1073725440<;>simp[h1,h2,h3,h4,h5]<;>omega
 have ej:∀b:Bool,(bif b then(false,(4:Int),x,())else(false,3,x,()))=(false,(bif b then 4 else 3),x,()):=λb=>by cases b<;>rfl
 have et:∀b:Bool,decide (x.timer≤bif b then 4 else 3)=bif b then decide (x.timer≤4)else decide (x.timer≤3):=λb=>by cases b<;>rfl
 simp only[ej,et]
 revert hm
 generalize(decide (0≤x.window)&&decide (x.window≤x.most))=W
 generalize decide (1073725440<x.most)=M
 generalize(decide (0≤x.most)&&decide (x.most≤1073725440))=N
 generalize(decide (0≤x.tries)&&decide (x.tries≤3))=T
 generalize decide (0≤x.timer)=T0
 generalize decide (x.timer≤4)=T4
 generalize decide (x.timer≤3)=T3
 generalize x.s.fin=sf
 generalize x.s.done=sd
 generalize x.r.done=rd
 generalize x.state=k
 have hk:k=1∨k=2∨k=3∨k=4∨k=5∨k=6∨k=7∨k=8∨(decide (1≤k)&&decide (k≤8))=false:=by
  simp only[Bool.and_eq_false_iff,decide_eq_false_iff_not];omega
 rcases hk with rfl|rfl|rfl|rfl|rfl|rfl|rfl|rfl|hk
 iterate 8 (revert W M N T T0 T4 T3 sf sd rd;decide+kernel)
 intro _;simp only[hk];rfl
theorem KB (x:Limi):qQ.f (x,())=dY.f (x,()):=by
 simp only[PX,qQ,dY,dr,aG]
theorem uh {T V W:Type}(xs:List T){f:Int→Unit→Stp Unit V}{g:Int→Unit→Stp Unit W}{k:Nat}(hk:k=xs.length)(h:∀(j:Nat) x,xs[j]? =some x→(∃v w,f j ()= .out v∧g j ()= .out w)∨(f j ()= .next ()∧g j ()= .next ())):
  (∃v w,a9 f 1 k 0 ()= .out v∧a9 g 1 k 0 ()= .out w)∨(a9 f 1 k 0 ()= .next ()∧a9 g 1 k 0 ()= .next ()):=by
 subst hk
 have:∀(n i:Nat),i+n=xs.length→(∃v w,a9 f 1 n (i:Int) ()= .out v∧a9 g 1 n (i:Int) ()= .out w)∨(a9 f 1 n (i:Int) ()= .next ()∧a9 g 1 n (i:Int) ()= .next ()):=by
  intro n
  induction n with
  |zero=>intro i _;exact .inr ⟨rfl,rfl⟩
  |succ n ih=>
   intro i hi
   rcases h i xs[i] (List.getElem?_eq_getElem (by omega))with⟨v,w,h1,h2⟩|⟨h1,h2⟩
   ·exact .inl ⟨v,w,by simp only[a9,h1,Stp.elim],by simp only[a9,h2,Stp.elim]⟩
   ·simp only[a9,h1,h2,Stp.elim]
    have:=ih (i+1) (by omega)
    rwa [show((i+1:Nat):Int)=(i:Int)+1 by omega]at this
 exact this xs.length 0 (by omega)
theorem v8 (xs:List Tupl)(t:Tupl):nC.f (xs,t,())=xs.any (ml t):=by
 simp only[PX,nC,jc]
 rw[ai,bi xs _ rfl (F:=λj y a=>bif ml t y then .out ()else .next ()) (by
  intro j y a h
  simp only[PX,rb,Z,getD_some h,ml])]
 rw[ju (p:=ml t) (w:=λ_ _=>())]
 cases h:xs.findIdx? (ml t)with
 |none=>
  rw[List.findIdx?_eq_none_iff]at h
  simp only[Stp.elim]
  symm
  rw[List.any_eq_false]
  intro x hx;simp[h x hx]
 |some i=>
  obtain⟨h1,h2,_⟩:=List.findIdx?_eq_some_iff_getElem.1 h
  simp only[List.getElem?_eq_getElem h1,Stp.elim]
  symm
  rw[List.any_eq_true];exact⟨xs[i],List.getElem_mem h1,h2⟩
theorem mj (xs:List Tupl)(t:Tupl):iU.f (xs,t,())=iW (ml t) xs:=by
 have e:∀a b:Int,(a==b)=(b==a):=λa b=>by rw[Bool.eq_iff_iff];simp only[beq_iff_eq];exact eq_comm
 simp only[PX,iU,fV]
 rw[iI (ml t) xs (λj x a h=>by
  simp only[PX,np,Z,getD_some h,ml,e t.ip,e t.port,e t.my])]
 unfold iW
 cases xs.findIdx? (ml t)<;>rfl
theorem mf {T:Type}{xs:List T}{j:Nat}{x:T}(h:xs[j]? =some x):x∈xs:=List.mem_of_getElem? h
theorem Mv (x:Tabl)(l:Limi)(hs:∀y∈x.conns,kg y.r.held):tN.f (x,l,())=iD.f (x,l,()):=by
 simp only[PX,tN,iD,fm,dV,fp,d7,KB]
 have h1:=uh x.conns (f:=λj a=>(nY x j a).nice) (g:=λj a=>(di x.conns x j a).nice) (k:=Int.toNat ((x.conns.length:Int)-0)) (ai _) (λj y hy=>by
  simp only[PX,nY,di,Z,getD_some hy,ww y (hs y (mf hy)),p4]
  cases cm.f (y,())with
  |false=>exact .inl ⟨_,_,rfl,rfl⟩
  |true=>cases(bE.f (x,y.tuple,()) != (j:Int))with
   |true=>exact .inl ⟨_,_,rfl,rfl⟩
   |false=>exact .inr ⟨rfl,rfl⟩)
 have h2:=uh x.waiting (f:=λj a=>(nS x j a).nice) (g:=λj a=>(cZ x.waiting x j a).nice) (k:=Int.toNat ((x.waiting.length:Int)-0)) (ai _) (λj y hy=>by
  simp only[PX,nS,cZ,Z,getD_some hy,v8,mj,p4,List.drop_zero]
  rw[z4 (ml y) x.waiting j y hy (sy y)]
  cases(x.waiting.take j).any (ml y)<;>cases decide (bE.f (x,y,())<0)<;>first|exact .inl ⟨_,_,rfl,rfl⟩|exact .inr ⟨rfl,rfl⟩)
 rcases h1 with⟨v,w,h3,h4⟩|⟨h3,h4⟩
 ·rw[h3,h4]
  cases(dY.f (l,()))<;>cases decide (l.conns<(x.conns.length:Int))<;>cases decide (l.waiting<(x.waiting.length:Int))<;>rfl
 ·rw[h3,h4]
  rcases h2 with⟨v,w,h5,h6⟩|⟨h5,h6⟩
  ·rw[h5,h6]
   all_goals (cases(dY.f (l,()))<;>cases decide (l.conns<(x.conns.length:Int))<;>cases decide (l.waiting<(x.waiting.length:Int))<;>rfl)
  ·rw[h5,h6]
   all_goals (cases(dY.f (l,()))<;>cases decide (l.conns<(x.conns.length:Int))<;>cases decide (l.waiting<(x.waiting.length:Int))<;>rfl)
theorem Bq (xs:List Half):nK.f (xs,())=gZ.f (xs,()):=by
 simp only[PX,nK,gZ,gb,i6]
 have h1:=uh xs (f:=λj a=>(dD xs j a).nice) (g:=λj a=>(me xs xs j a).nice) (k:=Int.toNat ((xs.length:Int)-0)) (ai _) (λj y hy=>by
  simp only[PX,dD,me,Z,getD_some hy,xC,eA,lF,dr,aG,r6,CZ,List.drop_zero,oy]
  rw[z4 (λh:Half=>ml y.tuple h.tuple) xs j y hy (sy _)]
  cases cH.f (y.tuple,())with
  |false=>exact .inl ⟨_,_,rfl,rfl⟩
  |true=>
  cases aa.f (y.iss,32,())with
  |false=>exact .inl ⟨_,_,rfl,rfl⟩
  |true=>
  cases aa.f (y.irs,32,())with
  |false=>exact .inl ⟨_,_,rfl,rfl⟩
  |true=>
  cases aa.f (y.window,16,())with
  |false=>exact .inl ⟨_,_,rfl,rfl⟩
  |true=>
  cases bf.f (y.opts,())with
  |false=>exact .inl ⟨_,_,rfl,rfl⟩
  |true=>
  cases(decide (0≤y.age)&&decide (y.age≤6))with
  |false=>exact .inl ⟨_,_,rfl,rfl⟩
  |true=>
  cases(xs.take j).any (λh=>ml y.tuple h.tuple)with
  |true=>exact .inl ⟨_,_,rfl,rfl⟩
  |false=>exact .inr ⟨rfl,rfl⟩)
 rcases h1 with⟨v,w,h3,h4⟩|⟨h3,h4⟩<;>rw[h3,h4]<;>by_cases h:64<(xs.length:Int)
 ·rw[decide_eq_true h];rfl
 ·rw[decide_eq_false h];rfl
 ·rw[decide_eq_true h];simp only[Stp.elim,cond_true];exact decide_eq_false (by omega)
 ·rw[decide_eq_false h];simp only[Stp.elim,cond_false];exact decide_eq_true (by omega)
theorem BL (d:Door)(xs:List Half):ca.f (xs,d,())=xs.any (λh=>decide (0≤bE.f (d.table,h.tuple,()))):=by
 simp only[PX,ca,dM,aV]
 rw[iI (λh:Half=>decide (0≤bE.f (d.table,h.tuple,()))) xs (λj y a h=>by
  simp only[PX,eu,vz,Z,getD_some h])]
 rw[←oy]
 unfold iW
 cases xs.findIdx? (λh=>decide (0≤bE.f (d.table,h.tuple,())))<;>rfl
theorem L5 {T:Type}(p:T→Bool)(xs:List T)(j:Nat):cT (W:=Unit) (λ_ y (_:Unit)=>bif p y then .out ()else .next ()) j xs ()=bif xs.any p then .out ()else .next ():=by
 rw[ju (w:=λ_ _=>())]
 cases h:xs.findIdx? p with
 |none=>
  rw[List.findIdx?_eq_none_iff]at h
  have:xs.any p=false:=by
   rw[List.any_eq_false]
   intro y hy;simp[h y hy]
  rw[this];rfl
 |some i=>
  obtain⟨h1,h2,_⟩:=List.findIdx?_eq_some_iff_getElem.1 h
  have:xs.any p=true:=by rw[List.any_eq_true];exact⟨xs[i],List.getElem_mem h1,h2⟩
  rw[this];simp only[List.getElem?_eq_getElem h1];rfl
theorem Hc (x:Door)(hs:∀y∈x.table.conns,kg y.r.held):rO.f (x,())=dL.f (x,()):=by
 simp only[PX,rO,dL,lm,eA,NS,Mv x.table x.limits hs,Bq,dr,aG,BL]
 rw[ai,bi x.halves _ rfl (F:=λj y a=>bif decide (0≤bE.f (x.table,y.tuple,()))then .out ()else .next ()) (by
  intro j y a h
  simp only[PX,u4,Z,getD_some h,p4])]
 rw[L5 (λy:Half=>decide (0≤bE.f (x.table,y.tuple,())))]
 cases x.halves.any (λy=>decide (0≤bE.f (x.table,y.tuple,())))<;>rfl
theorem vo:∀(r:List Conn) (j:Nat) (c:List Conn) (w:List Tupl),cT (W:=Empty) (λ_ x (a:Tabl×Tabl)=> .next ((⟨[],[]⟩:Tabl),(⟨a.2.conns++[x],a.2.waiting⟩:Tabl))) j r (⟨[],[]⟩,⟨c,w⟩)= .next (⟨[],[]⟩,⟨c++r,w⟩)
 |[],_,c,w=>by simp only[cT,List.append_nil]
 |x::r,j,c,w=>by
  simp only[cT,Stp.elim]
  rw[vo r]
  simp
theorem LF (x:Recv):t8.f (x,())=x:=by simp only[PX,t8,List.nil_append]
theorem y6 (x:Recv):jd.f (x,())=x:=by simp only[PX,jd,lz]
theorem tT (x:Conn):lf.f (x,())=x:=by simp only[PX,lf,LF]
theorem lX (x:Conn):jN.f (x,())=x:=by simp only[PX,jN,y6]
theorem MG (x:Keys):t6.f (x,())=x:=by simp only[PX,t6,Mz]
theorem IZ (x:Keys):n5.f (x,())=x:=by simp only[PX,n5,Jt]
theorem Mo (x:Tabl):uo.f (x,())=x:=by
 simp only[PX,uo,ib,List.nil_append]
 rw[ai,bi x.conns _ rfl (F:=λ_ y (a:Tabl×Tabl)=> .next ((⟨[],[]⟩:Tabl),(⟨a.2.conns++[y],a.2.waiting⟩:Tabl))) (by
  intro j y a h
  simp only[PX,sX,Z,getD_some h,tT]),vo]
 simp only[Stp.elim,PX,List.nil_append]
theorem wP (x:Tabl):ke.f (x,())=x:=by
 simp only[PX,ke,ew,lD]
 rw[ai,bi x.conns _ rfl (F:=λ_ y (a:Tabl×Tabl)=> .next ((⟨[],[]⟩:Tabl),(⟨a.2.conns++[y],a.2.waiting⟩:Tabl))) (by
  intro j y a h
  simp only[PX,oH,Z,getD_some h,lX]),vo]
 simp only[Stp.elim,PX,List.nil_append]
theorem EK (x:Door):pr.f (x,())=x:=by simp only[PX,pr,MG,Mo,List.nil_append]
theorem sr (x:Door):lR.f (x,())=x:=by simp only[PX,lR,IZ,wP,mO]
theorem iA {W:Type}{f:Int→Unit→Stp Unit W}:∀(k:Nat) (i:Int),(∀j,f j ()= .next ())→a9 f 1 k i ()= .next ()
 |0,_,_=>rfl
 |k+1,i,h=>by simp only[a9,h,Stp.elim];exact iA k _ h
def yo (d:Door):Prop:=∀y∈d.table.conns,kg y.r.held
theorem xT {d:Door}(hd:aN d):yo d:=by
 intro y hy p hp
 have h1:ae y:=hd.2.2.2.2.2.2.1 y hy
 have h2:bK p:=h1.2.2.2 p hp
 simp only[bK]at h2
 omega
theorem tC {W:Type}{f:Int→Unit→Stp Unit W}:∀(k i:Nat),a9 f 1 k (i:Int) ()= .next ()↔∀j:Nat,i≤j→j<i+k→f (j:Int) ()= .next ()
 |0,i=>⟨λ_ j h1 h2=>by omega,λ_=>rfl⟩
 |k+1,i=>by
  constructor
  ·intro h j h1 h2
   simp only[a9]at h
   cases hf:f (i:Int) ()with
   |out w=>rw[hf]at h;cases h
   |next a=>
    rw[hf]at h
    simp only[Stp.elim]at h
    rcases Nat.eq_or_lt_of_le h1 with h3|h3
    ·rw[←h3];exact hf
    ·rw[show(i:Int)+1=((i+1:Nat):Int) by omega]at h
     exact(tC k (i+1)).1 h j h3 (by omega)
  ·intro h
   simp only[a9,h i (Nat.le_refl _) (by omega),Stp.elim]
   rw[show(i:Int)+1=((i+1:Nat):Int) by omega]
   exact(tC k (i+1)).2 λj h1 h2=>h j (by omega) (by omega)
def tB (h:Half):Bool:=cH.f (h.tuple,())&&(aa.f (h.iss,32,())&&(aa.f (h.irs,32,())&&(aa.f (h.window,16,())&&(bf.f (h.opts,())&&(decide (0≤h.age)&&decide (h.age≤6))))))
theorem CA (xs:List Half)(j:Nat)(y:Half)(hy:xs[j]? =some y):((dD xs (j:Int) ()).nice= .next ())↔(tB y=true∧(xs.take j).any (λh=>ml y.tuple h.tuple)=false):=by
 simp only[PX,dD,Z,getD_some hy,xC,eA,lF,dr,r6,List.drop_zero,oy,tB]
 cases cH.f (y.tuple,())<;>cases aa.f (y.iss,32,())<;>cases aa.f (y.irs,32,())<;>cases aa.f (y.window,16,())<;>cases bf.f (y.opts,())<;>cases(decide (0≤y.age)&&decide (y.age≤6))<;>cases(xs.take j).any (λh=>ml y.tuple h.tuple)<;>simp
theorem Fi (xs:List Half):gZ.f (xs,())=true↔(∀(j:Nat) (y:Half),xs[j]? =some y→tB y=true∧(xs.take j).any (λh=>ml y.tuple h.tuple)=false)∧xs.length≤64:=by
 rw[←Bq]
 have hT:a9 (λj a=>(dD xs j a).nice) 1 xs.length ((0:Nat):Int) ()= .next ()↔∀(j:Nat) (y:Half),xs[j]? =some y→tB y=true∧(xs.take j).any (λh=>ml y.tuple h.tuple)=false:=by
  rw[tC]
  constructor
  ·intro h j y hy
   exact(CA xs j y hy).1 (h j (Nat.zero_le _) (by have:=(List.getElem?_eq_some_iff.1 hy).1;omega))
  ·intro h j _ h2
   exact(CA xs j xs[j] (List.getElem?_eq_getElem (by omega))).2 (h j _ (List.getElem?_eq_getElem (by omega)))
 simp only[PX,nK,gb]
 rw[ai,show(0:Int)=((0:Nat):Int) from rfl,←hT]
 cases a9 (λj a=>(dD xs j a).nice) 1 xs.length ((0:Nat):Int) ()with
 |next a=>simp only[Stp.elim,PX,decide_eq_true_eq,true_and];omega
 |out w=>simp[Stp.elim,PX]
theorem FJ (x:Sndr):bv.f (x,())=true↔SO x:=by
 have h:=bv.c.h (x,()) trivial
 simpa using h
theorem It (x:Sndr):nX.f (x,())=dK.f (x,()):=by simp only[PX,nX,dK]
theorem Iy (x:Sndr):tc.f (x,())=gW.f (x,()):=by simp only[PX,tc,gW,It,Nw]
theorem KW (c:Conn):vV.f (c,())=cN.f (c,()):=by simp only[PX,vV,cN,Iy,Bb,rV,oE]
theorem N0 (c:Conn):wB.f (c,())=eH.f (c,()):=by
 simp only[PX,wB,eH,vn,nt]
 cases(c.opts.mss==0)with
 |true=>rfl
 |false=>
  simp only[cond_false]
  generalize(if 1460<c.opts.mss then(1460:Int)else c.opts.mss)=m
  split<;>split<;>omega
theorem Mn (x:Sndr)(y:Chun):kZ.f (x,y,())=cl.f (x,y,()):=by
 simp only[PX,kZ,cl,qR]
 obtain⟨u,dt,se,fi,fs,dn⟩:=x
 cases fi with
 |true=>simp only[Bool.not_true,cond_false]
 |false=>
  cases hy:y.fin with
  |false=>simp only[cond_false]
  |true=>
   have k1:∀n:Int,bv.f ((⟨u,dt,n,false,true,dn⟩:Sndr),())=false:=by
    intro n
    cases h:bv.f ((⟨u,dt,n,false,true,dn⟩:Sndr),())with
    |false=>rfl
    |true=>
     have:=(FJ _).1 h
     have h2:=this.2.2.2.2.2.1 rfl
     exact Bool.noConfusion h2.1
   simp only[k1,Bool.not_false,cond_true]
theorem L8 (x:Sndr):tZ.f (x,())=gl.f (x,()):=by
 simp only[PX,tZ,gl,qR]
 cases bv.f (x,())<;>rfl
theorem Oc (c:Conn):wJ.f (c,())=vP.f (c,()):=by simp only[PX,wJ,vP]
theorem O6 (c:Conn)(hs:kg c.r.held):z5.f (c,())=j4.f (c,()):=by
 simp only[PX,z5,j4,ww c hs,Oc]
theorem Mm (x:Sndr)(h:SO x):dK.f (x,())=if x.finSent then x.sent+1 else x.sent:=by
 simp only[PX,dK]
 have h1:=h.2.2.2.1
 have h2:=h.2.2.2.2.1
 have h3:=h.2.2.1
 cases x.finSent with
 |true=>simp only[cond_true,if_true];rw[aw (by omega) (by omega)]
 |false=>rfl
theorem Kz (l:ah)(S n:Int)(h0:0≤S)(h1:0≤n):(l.take (S+n).toNat).drop S.toNat=(l.drop S.toNat).take n.toNat:=by
 rw[List.drop_take];congr 1;omega
theorem HA (x:Sndr)(w m:Int)(hw:w≤9223372036854775807):oA.f (x,w,m,())=bh.f (x,w,m,()):=by
 simp only[PX,oA,bh,qR,It,Iy,vn,nt]
 cases h:bv.f (x,())with
 |false=>rfl
 |true=>
 have hs:=(FJ x).1 h
 have h1:=hs.2.2.2.1
 have h2:=hs.2.2.2.2.1
 have h3:=hs.2.2.1
 simp only[Bool.not_true,cond_false]
 have hF:x.sent≤dK.f (x,())∧dK.f (x,())≤x.sent+1:=by
  rw[Mm x hs];split<;>omega
 obtain⟨F,eF⟩:∃F,dK.f (x,())=F:=⟨_,rfl⟩
 rw[eF]at hF
 simp only[eF]
 generalize gW.f (x,())=q
 rw[Z,List.take_length,List.length_drop]
 rw[aw (m:=(x.data.length:Int)-x.sent) (by omega) (by omega)]
 rw[show((x.data.length-x.sent.toNat:Nat):Int)=(x.data.length:Int)-x.sent by omega]
 obtain⟨c2,e2⟩:∃z:Int,(if w<1000000 then w else 1000000)=z:=⟨_,rfl⟩
 simp only[e2]
 obtain⟨c3,e3⟩:∃z:Int,(if c2<0 then 0 else c2)=z:=⟨_,rfl⟩
 simp only[e3]
 have b3:0≤c3∧c3≤1000000:=by grind
 rw[aw (m:=c3-F) (by omega) (by omega)]
 obtain⟨c5,e5⟩:∃z:Int,(if c3-F<0 then 0 else c3-F)=z:=⟨_,rfl⟩
 simp only[e5]
 obtain⟨W,eW⟩:∃z:Int,(if w< -1 then-1 else w)=z:=⟨_,rfl⟩
 simp only[eW]
 have bW: -1≤W∧W≤9223372036854775807:=by grind
 rw[aw (m:=W-F) (by omega) (by omega)]
 obtain⟨D,eD⟩:∃z:Int,(x.data.length:Int)-x.sent=z:=⟨_,rfl⟩
 simp only[eD]
 obtain⟨c6,e6⟩:∃z:Int,(if m<c5 then m else c5)=z:=⟨_,rfl⟩
 simp only[e6]
 obtain⟨c7,e7⟩:∃z:Int,(if c6<D then c6 else D)=z:=⟨_,rfl⟩
 simp only[e7]
 obtain⟨n,e8⟩:∃z:Int,(if c7<0 then 0 else c7)=z:=⟨_,rfl⟩
 simp only[e8]
 obtain⟨d3,f3⟩:∃z:Int,(if m<D then m else D)=z:=⟨_,rfl⟩
 simp only[f3]
 obtain⟨d4,f4⟩:∃z:Int,(if W-F<d3 then W-F else d3)=z:=⟨_,rfl⟩
 simp only[f4]
 have en:(if 0<d4 then d4 else 0)=n:=by grind
 rw[en]
 have bn:0≤n∧n≤D:=by grind
 have bw:decide (n<W-F)=decide (n<c5):=by
  rw[decide_eq_decide];grind
 rw[bw,aw (m:=x.sent+n) (by omega) (by omega),Kz x.data x.sent n h1 bn.1,List.drop_zero]
 have el:(((x.data.drop x.sent.toNat).take n.toNat)==[])=(n==0):=by
  have hl:((x.data.drop x.sent.toNat).take n.toNat).length=n.toNat:=by rw[List.length_take,List.length_drop];omega
  generalize(x.data.drop x.sent.toNat).take n.toNat=z at*
  cases z with
  |nil=>simp only[List.length_nil]at hl;rw[show n=0 by omega];rfl
  |cons a r=>simp only[List.length_cons]at hl;rw[Bool.eq_iff_iff];simp;omega
 have ed:(x.sent+n==(x.data.length:Int))=(n==D):=by
  rw[Bool.eq_iff_iff];simp only[beq_iff_eq];omega
 rw[el,ed]
theorem yT {A B W W':Type}[Inhabited W][Inhabited W']{f:A→Stp A W}{g:B→Stp B W'}{R:A→B→Prop}{Q:W→W'→Prop}(hd:Q default default)
  (h:∀a b,R a b→(∃a' b',f a= .next a'∧g b= .next b'∧R a' b')∨(∃w w',f a= .out w∧g b= .out w'∧Q w w')):
  ∀(m:Nat) (a:A) (b:B),R a b→Q (iO f m a) (iO g m b)
 |0,_,_,_=>hd
 |m+1,a,b,hr=>by
  rcases h a b hr with⟨a',b',e1,e2,hr'⟩|⟨w,w',e1,e2,hq⟩
  ·simp only[iO,e1,e2,Stp.elim]
   exact yT hd h m a' b' hr'
  ·simp only[iO,e1,e2,Stp.elim]
   exact hq
def xi (c:Conn)(l:List Segm):Conn:={c with timer:=if l=[]then c.timer else if c.timer=0 then 3 else c.timer}
theorem CT (c:Conn):xi c []=c:=by simp[xi]
theorem Lq (c:Conn)(l:List Segm)(g:Segm)(x:Sndr):(bif ((xi c l).timer==0)then({xi c l with s:=x,timer:=3}:Conn)else{xi c l with s:=x})=xi {c with s:=x} (l++[g]):=by
 simp only[xi]
 have h1:¬(l++[g]=[]):=by simp
 rw[if_neg h1]
 by_cases hl:l=[]
 ·rw[if_pos hl]
  by_cases ht:c.timer=0
  ·rw[if_pos ht,show(c.timer==0)=true by simp[ht]];rfl
  ·rw[if_neg ht,show(c.timer==0)=false by simp[ht]];rfl
 ·rw[if_neg hl]
  by_cases ht:c.timer=0
  ·rw[if_pos ht];rfl
  ·rw[if_neg ht,show(c.timer==0)=false by simp[ht]];rfl
theorem PS (c:Conn)(w:Int)(hw:w≤9223372036854775807)(hs:kg c.r.held):GH.f (c,w,())=o9.f (c,w,()):=by
 simp only[PX,GH,o9,tT,lX,ww c hs,jK,jJ]
 cases(bif !cm.f (c,())then(true,())else bif (c.state==8)then(true,())else((c.state==7),())).1 with
 |true=>rfl
 |false=>
 simp only[cond_false]
 have key:=yT (f:=λa=>(oO w a).nice) (g:=λa=>(cp w a).nice) (R:=λa b=>a.1=xi b.2.1 b.2.2∧a.2.2=b.2.2) (Q:=λp q=>p.1=xi q.2.1 q.2.2∧p.2=q.2.2) ⟨(CT _).symm,rfl⟩ (by
  rintro⟨a1,a2,al⟩ ⟨b1,b2,bl⟩ ⟨h1,h2⟩
  simp only[]at h1 h2
  subst h1;subst h2
  have hm:eH.f (xi b2 al,())=eH.f (b2,()):=rfl
  have ha:cN.f (xi b2 al,())=cN.f (b2,()):=rfl
  have hx:(xi b2 al).s=b2.s:=rfl
  simp only[PX,oO,cp,N0,HA _ _ _ hw,KW,Mn,hm,ha,hx]
  obtain⟨z,hz⟩:∃z,bh.f (b2.s,w,eH.f (b2,()),())=z:=⟨_,rfl⟩
  simp only[hz]
  obtain⟨g,hg⟩:∃g,cN.f (b2,())=g:=⟨_,rfl⟩
  simp only[hg]
  obtain⟨x,hx2⟩:∃x,cl.f (b2.s,z.1,())=x:=⟨_,rfl⟩
  simp only[hx2]
  cases z.2 with
  |false=>exact .inr ⟨_,_,rfl,rfl,rfl,rfl⟩
  |true=>
   have hf:∀g':Segm,_:=λg'=>Lq b2 al g' x
   cases ht:((xi b2 al).timer==0)<;>rw[ht]at hf<;>simp only[cond_true,cond_false]at hf<;>cases(z.1.text==[])<;>cases z.1.fin<;>exact .inl ⟨_,_,rfl,rfl,hf _,rfl⟩) (Dz c.s+1) (c,⟨⟨0,0,0⟩,0,⟨0,[],0,false,false,false⟩,⟨0,[],[],0,false⟩,0,0,⟨0,0,false,false,0,0⟩,0,0⟩,[]) (⟨⟨0,0,0⟩,0,⟨0,[],0,false,false,false⟩,⟨0,[],[],0,false⟩,0,0,⟨0,0,false,false,0,0⟩,0,0⟩,c,[]) ⟨(CT c).symm,rfl⟩
 obtain⟨p,hp⟩:∃p,iO (λa=>(oO w a).nice) (Dz c.s+1) (c,⟨⟨0,0,0⟩,0,⟨0,[],0,false,false,false⟩,⟨0,[],[],0,false⟩,0,0,⟨0,0,false,false,0,0⟩,0,0⟩,[])=p:=⟨_,rfl⟩
 obtain⟨q,hq⟩:∃q,iO (λa=>(cp w a).nice) (Dz c.s+1) (⟨⟨0,0,0⟩,0,⟨0,[],0,false,false,false⟩,⟨0,[],[],0,false⟩,0,0,⟨0,0,false,false,0,0⟩,0,0⟩,c,[])=q:=⟨_,rfl⟩
 rw[hp,hq]at key
 simp only[hp,hq]
 obtain⟨p1,p2⟩:=p
 obtain⟨q1,q2,q3⟩:=q
 obtain⟨k1,k2⟩:=key
 simp only[]at k1 k2
 subst k1;subst k2
 cases p2 with
 |nil=>simp only[PX,CT,List.length_nil];rfl
 |cons g r=>
  simp only[PX,decide_eq_true (show 0<((g::r).length:Int) by simp only[List.length_cons];omega),cond_true,xi,if_neg (show¬(g::r=[]) by simp)]
  by_cases ht:q2.timer=0
  ·simp only[ht,if_true,beq_self_eq_true,cond_true]
  ·simp only[if_neg ht,show(q2.timer==0)=false by simp[ht],cond_false]
def Q3 (k:Int)(sf sd rd:Bool):Bool:=bif k==8 then true else(sf== !(k==1||k==4))&&((sd==(k==3||k==7))&&(rd==(k==4||decide (5≤k))))
theorem Nv (x:Conn):cm.f (x,())=(cH.f (x.tuple,())&&(bv.f (x.s,())&&(cV.f (x.r,())&&(bf.f (x.opts,())&&((decide (1≤x.state)&&decide (x.state≤8))&&((decide (0≤x.most)&&decide (x.most≤1073725440))&&((decide (0≤x.window)&&decide (x.window≤x.most))&&((decide (0≤x.timer)&&bif x.state==7 then decide (x.timer≤4)else decide (x.timer≤3))&&((decide (0≤x.tries)&&decide (x.tries≤3))&&Q3 x.state x.s.fin x.s.done x.r.done))))))))):=by
 simp only[PX,cm,aG]
 cases cH.f (x.tuple,())with
 |false=>rfl
 |true=>
 cases bv.f (x.s,())with
 |false=>rfl
 |true=>
 cases cV.f (x.r,())with
 |false=>rfl
 |true=>
 cases bf.f (x.opts,())with
 |false=>rfl
 |true=>
 simp only[Bool.not_true,cond_false,Bool.true_and]
 have ej:∀b:Bool,(bif b then(false,(4:Int),x,())else(false,3,x,()))=(false,(bif b then 4 else 3),x,()):=λb=>by cases b<;>rfl
 have et:∀b:Bool,decide (x.timer≤bif b then 4 else 3)=bif b then decide (x.timer≤4)else decide (x.timer≤3):=λb=>by cases b<;>rfl
 simp only[ej,et]
 generalize(decide (0≤x.window)&&decide (x.window≤x.most))=W
 generalize(decide (0≤x.most)&&decide (x.most≤1073725440))=N
 generalize(decide (0≤x.tries)&&decide (x.tries≤3))=T
 generalize decide (0≤x.timer)=T0
 generalize decide (x.timer≤4)=T4
 generalize decide (x.timer≤3)=T3
 generalize x.s.fin=sf
 generalize x.s.done=sd
 generalize x.r.done=rd
 generalize x.state=k
 have hk:k=1∨k=2∨k=3∨k=4∨k=5∨k=6∨k=7∨k=8∨(decide (1≤k)&&decide (k≤8))=false:=by
  simp only[Bool.and_eq_false_iff,decide_eq_false_iff_not];omega
 rcases hk with rfl|rfl|rfl|rfl|rfl|rfl|rfl|rfl|hk
 iterate 8 (revert W N T T0 T4 T3 sf sd rd;decide+kernel)
 simp only[hk];rfl
structure CO (x:Conn):Prop where
 tup:cH.f (x.tuple,())=true
 snd:SO x.s
 rcv:cV.f (x.r,())=true
 opt:bf.f (x.opts,())=true
 s1:1≤x.state
 s8:x.state≤8
 m0:0≤x.most
 m1:x.most≤1073725440
 w0:0≤x.window
 w1:x.window≤x.most
 t0:0≤x.timer
 t4:x.timer≤4
 t3:x.state≠7→x.timer≤3
 r0:0≤x.tries
 r3:x.tries≤3
 fl:Q3 x.state x.s.fin x.s.done x.r.done=true
theorem Bk (x:Conn):cm.f (x,())=true↔CO x:=by
 rw[Nv]
 simp only[Bool.and_eq_true,decide_eq_true_eq,FJ]
 have et:(bif x.state==7 then decide (x.timer≤4)else decide (x.timer≤3))=true↔x.timer≤4∧(x.state≠7→x.timer≤3):=by
  by_cases h:x.state=7
  ·simp[h]
  ·have h2:(x.state==7)=false:=by simpa using h
   simp only[h2,cond_false,decide_eq_true_eq]
   exact⟨λh3=>⟨by omega,λ_=>h3⟩,λh3=>h3.2 h⟩
 rw[et]
 constructor
 ·rintro⟨h1,h2,h3,h4,⟨h5,h6⟩,⟨h7,h8⟩,⟨h9,h10⟩,⟨h11,h12,h13⟩,⟨h14,h15⟩,h16⟩
  exact⟨h1,h2,h3,h4,h5,h6,h7,h8,h9,h10,h11,h12,h13,h14,h15,h16⟩
 ·rintro⟨h1,h2,h3,h4,h5,h6,h7,h8,h9,h10,h11,h12,h13,h14,h15,h16⟩
  exact⟨h1,h2,h3,h4,⟨h5,h6⟩,⟨h7,h8⟩,⟨h9,h10⟩,⟨h11,h12,h13⟩,⟨h14,h15⟩,h16⟩
structure Sent (c d:Conn):Prop where
 so:SO d.s
 s1:d.s.data=c.s.data
 s2:d.s.fin=c.s.fin
 s3:d.s.done=c.s.done
 s4:d.s.una=c.s.una
 tm:d.timer=c.timer∨d.timer=3
 re:d={c with s:=d.s,timer:=d.timer}
theorem Sent.refl (c:Conn)(h:SO c.s):Sent c c:=⟨h,rfl,rfl,rfl,rfl,.inl rfl,rfl⟩
theorem Sent.ok {c d:Conn}(h:Sent c d)(hc:CO c)(ht:d.timer≤3∨d.timer=c.timer):CO d:=by
 obtain⟨so,s1,s2,s3,s4,tm,re⟩:=h
 obtain⟨t,st,s,r,w,m,o,ti,tr⟩:=c
 obtain⟨t',st',s',r',w',m',o',ti',tr'⟩:=d
 simp only[Conn.mk.injEq]at re
 obtain⟨rfl,rfl,-,rfl,rfl,rfl,rfl,-,rfl⟩:=re
 simp only[]at*
 refine⟨hc.tup,so,hc.rcv,hc.opt,hc.s1,hc.s8,hc.m0,hc.m1,hc.w0,hc.w1, ?_, ?_, ?_,hc.r0,hc.r3, ?_⟩
 ·have:=hc.t0;simp only[]at*;omega
 ·have:=hc.t4;simp only[]at*;omega
 ·intro h7;have:=hc.t3 h7;simp only[]at*;omega
 ·have:=hc.fl;simp only[]at*;rw[s2,s3];exact this
theorem Bd {x:Sndr}(h:SO x):d8 x:=by
 have:=h.2.2.1
 unfold d8;grind
theorem Ff (x:Sndr)(w m:Int)(y:Chun)(hy:(bh.f (x,w,m,()))=(y,true))(hx:SO x):SO (cl.f (x,y,()))∧(cl.f (x,y,())).data=x.data∧(cl.f (x,y,())).fin=x.fin∧(cl.f (x,y,())).done=x.done∧(cl.f (x,y,())).una=x.una∧Dz (cl.f (x,y,()))<Dz x:=by
 have h1:=bh.c.h (x,w,m,()) (Bd hx)
 change we (bh.f (x,w,m,())).1∧((bh.f (x,w,m,())).2=true→_)at h1
 have e1:(bh.f (x,w,m,())).1=y:=by rw[hy]
 have e2:(bh.f (x,w,m,())).2=true:=by rw[hy]
 obtain⟨h2,h3⟩:=h1
 obtain⟨-,h4,h5,h6,h7⟩:=h3 e2
 simp only[e1]at h2 h4 h5 h6 h7
 clear e1 e2
 have h8:=(cl.c.h (x,y,()) ⟨Bd hx,h2⟩).2 hx h4 h5 h7
 change cl.f (x,y,())=_ at h8
 rw[h8]
 obtain⟨e1,e2,e3,e4,e5,e6,e7⟩:=hx
 refine⟨⟨e1,e2,e3, ?_, ?_, ?_, ?_⟩,rfl,rfl,rfl,rfl, ?_⟩
 ·show 0≤x.sent+(y.text.length:Int);omega
 ·show x.sent+(y.text.length:Int)≤(x.data.length:Int);omega
 ·intro hf;exact⟨(h7 hf).1,(h7 hf).2.2⟩
 ·intro hd
  refine⟨(e7 hd).1, ?_,(e7 hd).2.2⟩
  show y.fin=false
  cases hf:y.fin with
  |false=>rfl
  |true=>have:=(h7 hf).2.1;rw[this]at hd;cases hd
 ·show((x.data.length:Int)-(x.sent+(y.text.length:Int))).toNat+(if y.fin=true then 0 else 1)<((x.data.length:Int)-x.sent).toNat+(if x.finSent=true then 0 else 1)
  rw[h5]
  simp only[Bool.false_eq_true,if_false]
  have hl:y.text=[]∨0<y.text.length:=by cases y.text<;>simp
  rcases hl with hl|hl
  ·rw[h6 hl];simp only[if_true];omega
  ·split<;>omega
theorem tW (w:Int)(c:Conn)(a:Conn×Conn×List Segm)(h:Sent c a.2.1):(∃l,(cp w a).nice= .out (({a.1 with r.held:=[]}:Conn),a.2.1,l))∨(∃a',(cp w a).nice= .next a'∧Sent c a'.2.1∧Dz a'.2.1.s<Dz a.2.1.s):=by
 obtain⟨a1,a2,al⟩:=a
 simp only[]at h
 simp only[PX,cp]
 obtain⟨z,hz⟩:∃z,bh.f (a2.s,w,eH.f (a2,()),())=z:=⟨_,rfl⟩
 simp only[hz]
 obtain⟨y,b⟩:=z
 cases b with
 |false=>exact .inl ⟨_,rfl⟩
 |true=>
  obtain⟨k1,k2,k3,k4,k5,k6⟩:=Ff a2.s w _ y hz h.so
  obtain⟨x,hx⟩:∃x,cl.f (a2.s,y,())=x:=⟨_,rfl⟩
  rw[hx]at k1 k2 k3 k4 k5 k6
  simp only[hx]
  have hs:Sent c ({a2 with s:=x}:Conn):=by
   obtain⟨so,s1,s2,s3,s4,tm,re⟩:=h
   refine⟨k1,k2.trans s1,k3.trans s2,k4.trans s3,k5.trans s4,tm, ?_⟩
   rw[re]
  cases(y.text==[])<;>cases y.fin<;>exact .inr ⟨_,rfl,hs,k6⟩
theorem Ln (c:Conn)(w:Int)(hc:SO c.s):Sent c (o9.f (c,w,())).1:=by
 simp only[PX,o9,lX,jJ]
 cases(bif !cm.f (c,())then(true,())else bif (c.state==8)then(true,())else((c.state==7),())).1 with
 |true=>exact Sent.refl c hc
 |false=>
 simp only[cond_false]
 have key:=rN (f:=λa=>(cp w a).nice) (Inv:=λa=>Sent c a.2.1) (Q:=λp=>Sent c p.2.1) (meas:=λa=>Dz a.2.1.s) (λa hi a' he=>by
  rcases tW w c a hi with⟨l,e⟩|⟨a2,e,h1,h2⟩
  ·simp only[e]at he;cases he
  ·simp only[e,Stp.next.injEq]at he;subst he;exact⟨h1,h2⟩) (λa hi p he=>by
  rcases tW w c a hi with⟨l,e⟩|⟨a2,e,h1,h2⟩
  ·simp only[e,Stp.out.injEq]at he;subst he;exact hi
  ·simp only[e]at he;cases he) (Dz c.s+1) (⟨⟨0,0,0⟩,0,⟨0,[],0,false,false,false⟩,⟨0,[],[],0,false⟩,0,0,⟨0,0,false,false,0,0⟩,0,0⟩,c,[]) (Nat.lt_succ_self _) (Sent.refl c hc)
 obtain⟨q,hq⟩:∃q,iO (λa=>(cp w a).nice) (Dz c.s+1) (⟨⟨0,0,0⟩,0,⟨0,[],0,false,false,false⟩,⟨0,[],[],0,false⟩,0,0,⟨0,0,false,false,0,0⟩,0,0⟩,c,[])=q:=⟨_,rfl⟩
 rw[hq]at key
 simp only[hq]
 obtain⟨q1,q2,q3⟩:=q
 simp only[]at key⊢
 cases(bif decide (0<(q3.length:Int))then((q2.timer==0),())else(false,())).1 with
 |false=>exact key
 |true=>
  obtain⟨so,s1,s2,s3,s4,tm,re⟩:=key
  refine⟨so,s1,s2,s3,s4,.inr rfl, ?_⟩
  exact congrArg (λd:Conn=>({d with timer:=3}:Conn)) re
theorem Iu (c:Conn)(h:j4.f (c,())=true):cm.f (c,())=true∧c.state≠8:=by
 simp only[PX,j4]at h
 cases hc:cm.f (c,())with
 |false=>rw[hc]at h;cases h
 |true=>
  rw[hc]at h
  refine⟨rfl,λh8=> ?_⟩
  rw[h8]at h;cases h
def iL (c:Conn):Int:=if c.timer=0 then(if c.state=7 then 4 else 3)else c.timer
theorem xN {c:Conn}(h:CO c):1≤iL c∧iL c≤4:=by
 have:=h.t0;have:=h.t4
 unfold iL;split
 ·split<;>omega
 ·omega
def TC (c:Conn):Conn×List Segm:=
 if j4.f (c,())=true then
  if 0<iL c-1 then({c with timer:=iL c-1},[])
  else if c.state=7 then({c with state:=8,timer:=0,tries:=0},[])
  else if c.tries=3 then({c with state:=8,timer:=0,tries:=0},[{cN.f (c,())with flags:=bits .or .i64 (cN.f (c,())).flags 4}])
  else({(o9.f ({c with s:=gl.f (c.s,()),timer:=0,tries:=c.tries+1},(if c.window=0 then 1 else c.window),())).1 with timer:=3},(o9.f ({c with s:=gl.f (c.s,()),timer:=0,tries:=c.tries+1},(if c.window=0 then 1 else c.window),())).2)
 else if cm.f (c,())=true then({c with timer:=0,tries:=0},[])else(c,[])
theorem DB (c:Conn):qE.f (c,())=TC c:=by
 simp only[PX,qE,lX]
 unfold TC
 cases hw:j4.f (c,())with
 |false=>
  simp only[Bool.not_false,cond_true,Bool.false_eq_true,if_false]
  cases cm.f (c,())<;>rfl
 |true=>
  obtain⟨h1,h2⟩:=Iu c hw
  have hc:=(Bk c).1 h1
  have hr:=xN hc
  have r0:=hc.r0
  have r3:=hc.r3
  have w0:=hc.w0
  have w1:=hc.w1
  have m1:=hc.m1
  simp only[Bool.not_true,cond_false,if_true]
  by_cases e1:c.timer=0
  ·have t1:(c.timer==0)=true:=by simp[e1]
   by_cases e2:c.state=7
   ·have t2:(c.state==7)=true:=by simp[e2]
    have t3:iL c-1=3:=by unfold iL;rw[if_pos e1,if_pos e2];rfl
    rw[t3]
    simp only[t1,t2,cond_true]
    rfl
   ·have t2:(c.state==7)=false:=by simp[e2]
    have t3:iL c-1=2:=by unfold iL;rw[if_pos e1,if_neg e2];rfl
    rw[t3]
    simp only[t1,t2,cond_true,cond_false]
    rfl
  have t1:(c.timer==0)=false:=by simp[e1]
  have t3:iL c=c.timer:=by unfold iL;rw[if_neg e1]
  rw[t3]at hr⊢
  have e1:IntKind.wrap .i64 (c.timer-1)=c.timer-1:=aw (by omega) (by omega)
  have e2:IntKind.wrap .i64 (c.tries+1)=c.tries+1:=aw (by omega) (by omega)
  have e4:(if c.window<1 then 1 else c.window)=if c.window=0 then 1 else c.window:=by split<;>split<;>omega
  simp only[t1,cond_false]
  dsimp only[Tr.nice]
  simp only[PX,e1,e2]
  by_cases c1:0<c.timer-1
  ·simp only[if_pos c1,decide_eq_true c1,cond_true]
  have e3:c.timer-1=0:=by omega
  simp only[e3,Int.lt_irrefl,if_false,decide_false,cond_false,K9]
  by_cases c2:c.state=7
  ·simp only[if_pos c2,show(c.state==7)=true by simp[c2],cond_true]
  simp only[if_neg c2,show(c.state==7)=false by simp[c2],cond_false]
  by_cases c3:c.tries=3
  ·simp only[if_pos c3,show(c.tries==3)=true by simp[c3],cond_true]
  simp only[if_neg c3,show(c.tries==3)=false by simp[c3],cond_false]
  by_cases c4:c.window=0
  ·simp only[if_pos c4,show(c.window==0)=true by simp[c4],cond_true]
   rfl
  ·simp only[if_neg c4,show(c.window==0)=false by simp[c4],cond_false]
   rfl
theorem uJ (c:Conn)(hs:kg c.r.held):nD.f (c,())=TC c:=by
 simp only[PX,nD,tT,O6 c hs,ww c hs]
 unfold TC
 cases hw:j4.f (c,())with
 |false=>
  simp only[Bool.not_false,cond_true,Bool.false_eq_true,if_false]
  cases cm.f (c,())<;>rfl
 |true=>
  obtain⟨h1,h2⟩:=Iu c hw
  have hc:=(Bk c).1 h1
  have hr:=xN hc
  have r0:=hc.r0
  have r3:=hc.r3
  have w0:=hc.w0
  have w1:=hc.w1
  have m1:=hc.m1
  simp only[Bool.not_true,cond_false,if_true]
  by_cases e1:c.timer=0
  ·have t1:(c.timer==0)=true:=by simp[e1]
   by_cases e2:c.state=7
   ·have t2:(c.state==7)=true:=by simp[e2]
    have t3:iL c-1=3:=by unfold iL;rw[if_pos e1,if_pos e2];rfl
    rw[t3]
    simp only[t1,t2,cond_true]
    rfl
   ·have t2:(c.state==7)=false:=by simp[e2]
    have t3:iL c-1=2:=by unfold iL;rw[if_pos e1,if_neg e2];rfl
    rw[t3]
    simp only[t1,t2,cond_true,cond_false]
    rfl
  have t1:(c.timer==0)=false:=by simp[e1]
  have t3:iL c=c.timer:=by unfold iL;rw[if_neg e1]
  rw[t3]at hr⊢
  have e1:IntKind.wrap .i64 (c.timer-1)=c.timer-1:=aw (by omega) (by omega)
  have e2:IntKind.wrap .i64 (c.tries+1)=c.tries+1:=aw (by omega) (by omega)
  have e4:(if c.window<1 then 1 else c.window)=if c.window=0 then 1 else c.window:=by split<;>split<;>omega
  simp only[t1,cond_false]
  dsimp only[Tr.nice]
  simp only[PX,e1,e2,nt,L8,KW,e4]
  by_cases c1:0<c.timer-1
  ·simp only[if_pos c1,decide_eq_true c1,cond_true]
  have e3:c.timer-1=0:=by omega
  simp only[e3,Int.lt_irrefl,if_false,decide_false,cond_false,K9]
  by_cases c2:c.state=7
  ·simp only[if_pos c2,show(c.state==7)=true by simp[c2],cond_true]
  simp only[if_neg c2,show(c.state==7)=false by simp[c2],cond_false]
  by_cases c3:c.tries=3
  ·simp only[if_pos c3,show(c.tries==3)=true by simp[c3],cond_true]
  simp only[if_neg c3,show(c.tries==3)=false by simp[c3],cond_false]
  have e5:=PS ({c with s:=gl.f (c.s,()),timer:=0,tries:=c.tries+1}) (if c.window=0 then 1 else c.window) (by split<;>omega) hs
  simp only[e5]
theorem Cz {T A W:Type}(p:T→Bool)(g:T→A):∀(r:List T) (j:Nat) (a:List A),cT (W:=W) (λ_ x (a:List A)=>bif p x then .next (a++[g x])else .next a) j r a= .next (a++(r.filter p).map g)
 |[],_,a=>by simp[cT]
 |x::r,j,a=>by
  cases h:p x<;>simp only[cT,h,cond_true,cond_false,Stp.elim,Cz p g r,List.filter_cons,if_true,Bool.false_eq_true,if_false,List.map_cons,List.append_assoc,List.cons_append,List.nil_append]
def kV (xs:List Half):List Half:=(xs.filter (λh=>decide (h.age<6))).map (λh=>({h with age:=IntKind.wrap .i64 (h.age+1)}:Half))
theorem zT (xs:List Half):mS.f (xs,())=kV xs:=by
 simp only[PX,mS,eE]
 rw[ai,bi xs _ rfl (F:=λ_ x (a:List Half)=>bif decide (x.age<6)then .next (a++[({x with age:=IntKind.wrap .i64 (x.age+1)}:Half)])else .next a) (by
  intro j x a h
  simp only[PX,n8,Z,getD_some h])]
 rw[Cz (λx:Half=>decide (x.age<6)) (λx=>({x with age:=IntKind.wrap .i64 (x.age+1)}:Half))]
 rfl
theorem y7 (xs:List Half)(ha:∀y∈xs,y.age≤6)(hb:∀y∈xs,0≤y.age):mN.f (xs,())=kV xs:=by
 simp only[PX,mN,eC]
 rw[ai,bi xs _ rfl (F:=λ_ x (a:List Half)=>bif decide (x.age<6)then .next (a++[({x with age:=IntKind.wrap .i64 (x.age+1)}:Half)])else .next a) (by
  intro j x a h
  have h1:=ha x (mf h)
  have h2:=hb x (mf h)
  have h3:decide (IntKind.wrap .i64 (x.age+1)≤6)=decide (x.age<6):=by rw[aw (by omega) (by omega)];apply decide_eq_decide.2;omega
  simp only[PX,od,Z,getD_some h,h3])]
 rw[Cz (λx:Half=>decide (x.age<6)) (λx=>({x with age:=IntKind.wrap .i64 (x.age+1)}:Half))]
 rfl
theorem F6 (xs:List Tupl)(t:Tupl):iy.f (xs,t,())=xs.any (ml t):=by
 simp only[PX,iy,mj,oy]
def oJ (t:Tabl)(c:Conn):Bool:=bif c.state != 8 then true else t.waiting.any (ml c.tuple)
def j3 (t:Tabl)(x:Tupl):Bool:=decide (0≤bE.f (t,x,()))
def pa (t:Tabl):Tabl:=⟨t.conns.filter (oJ t),t.waiting.filter (j3 t)⟩
theorem ET {A B W:Type}(p:A→Bool)(mk:List A→B)(z:B)(get:B→List A)(hg:∀l,get (mk l)=l):∀(r:List A) (j:Nat) (l:List A),cT (W:=W) (λ_ x (a:B×B)=>bif p x then .next (z,mk (get a.2++[x]))else .next (z,mk (get a.2))) j r (z,mk l)= .next (z,mk (l++r.filter p))
 |[],_,l=>by simp[cT]
 |x::r,j,l=>by
  cases h:p x<;>simp only[cT,h,cond_true,cond_false,Stp.elim,hg,ET p mk z get hg r,List.filter_cons,if_true,Bool.false_eq_true,if_false,List.append_assoc,List.cons_append,List.nil_append]
theorem Jh (t:Tabl):Ah.f (t,())=pa t:=by
 simp only[PX,Ah,fM,fP]
 have h1:a9 (λj a=>(qs t j a).nice) 1 (Int.toNat ((t.conns.length:Int)-0)) 0 ((⟨[],[]⟩:Tabl),(⟨[],[]⟩:Tabl))= .next ((⟨[],[]⟩:Tabl),(⟨t.conns.filter (oJ t),[]⟩:Tabl)):=by
  rw[ai,bi t.conns _ rfl (F:=λ_ x (a:Tabl×Tabl)=>bif oJ t x then .next (⟨[],[]⟩,(⟨a.2.conns++[x],[]⟩:Tabl))else .next (⟨[],[]⟩,(⟨a.2.conns,[]⟩:Tabl))) (by
   intro j x a h
   simp only[PX,qs,Z,getD_some h,v8,tT,oJ]
   cases(x.state != 8)with
   |true=>rfl
   |false=>cases t.waiting.any (ml x.tuple)<;>rfl)]
  exact ET (oJ t) (λl=>(⟨l,[]⟩:Tabl)) ⟨[],[]⟩ Tabl.conns (λ_=>rfl) t.conns 0 []
 have h2:∀l:List Conn,a9 (λj a=>(qk t j a).nice) 1 (Int.toNat ((t.waiting.length:Int)-0)) 0 ((⟨[],[]⟩:Tabl),(⟨l,[]⟩:Tabl))= .next ((⟨[],[]⟩:Tabl),(⟨l,t.waiting.filter (j3 t)⟩:Tabl)):=by
  intro l
  rw[ai,bi t.waiting _ rfl (F:=λ_ x (a:Tabl×Tabl)=>bif j3 t x then .next (⟨[],[]⟩,(⟨a.2.conns,a.2.waiting++[x]⟩:Tabl))else .next (⟨[],[]⟩,a.2)) (by
   intro j x a h
   simp only[PX,qk,Z,getD_some h,p4,j3])]
  have:∀(r:List Tupl) (j:Nat) (l2:List Tupl),cT (W:=Empty) (λ_ x (a:Tabl×Tabl)=>bif j3 t x then .next (⟨[],[]⟩,(⟨a.2.conns,a.2.waiting++[x]⟩:Tabl))else .next (⟨[],[]⟩,a.2)) j r (⟨[],[]⟩,(⟨l,l2⟩:Tabl))= .next (⟨[],[]⟩,(⟨l,l2++r.filter (j3 t)⟩:Tabl)):=by
   intro r
   induction r with
   |nil=>intro j l2;simp[cT]
   |cons x r ih=>
    intro j l2
    cases h:j3 t x<;>simp only[cT,h,cond_true,cond_false,Stp.elim,ih,List.filter_cons,if_true,Bool.false_eq_true,if_false,List.append_assoc,List.cons_append,List.nil_append]
  exact this t.waiting 0 []
 simp only[h1,Stp.elim,PX,h2]
 rfl
theorem Rc (xs:List Conn)(t:Tabl)(hl:xs.length≤4294967296):(m9.f (xs,t,())).2.take (m9.f (xs,t,())).1=xs.filter (oJ t):=by
 have ep:∀c,ge t c=oJ t c:=by
  intro c
  simp only[ge,vb,PX,m8,nl,F6,oJ]
  by_cases h:c.state=8
  ·rw[show(c.state==8)=true by simp[h],show(c.state != 8)=false by simp[h]];simp
  ·rw[show(c.state==8)=false by simp[h],show(c.state != 8)=true by simp[h]];rfl
 have e:xs.filter (ge t)=xs.filter (oJ t):=List.filter_congr λc _=>ep c
 show List.take (xs.filter (ge t)).length (xs.filter (ge t)++_)=_
 rw[List.take_left',e]
 rfl
theorem Q9 (xs:List Tupl)(t:Tabl)(hl:xs.length≤4294967296):(bH.f (xs,t,())).2.take (bH.f (xs,t,())).1=xs.filter (j3 t):=by
 have ep:∀x,pF.f (x,t,())= !j3 t x:=by
  intro x
  simp only[PX,pF,j3]
  rw[←decide_not];apply decide_eq_decide.2;omega
 have en:∀l:List Tupl,l.filter (j3 t)=l.filter (λx=> !(!j3 t x)):=λl=>by simp only[Bool.not_not]
 have ei:cd.f (xs,t,())=iW (λx=> !j3 t x) xs:=by
  simp only[PX,cd,aH]
  rw[iI (λx=> !j3 t x) xs (λj x a h=>by
   simp only[PX,d6,Z,getD_some h,ep])]
  unfold iW
  cases xs.findIdx? (λx=> !j3 t x)<;>rfl
 simp only[PX,bH,am,ei]
 rw[en]
 cases hf:(iW (λx=> !j3 t x) xs== -1)with
 |true=>simp only[cond_true,List.take_length];exact(Eg _ _ hf).symm
 |false=>
  obtain⟨i,hi,hlt,ht⟩:=EC _ _ hf
  simp only[hi,cond_false]
  rw[aw (by omega) (by omega)]
  obtain⟨k',zs,e,z1,z2,z3⟩:=xh (λx=> !j3 t x) xs (f:=λj a=>(cx t j a).nice) (λj k ys x hx hk hj=>by
   simp only[PX,cx,Z,getD_some hx,ep]
   rw[aw (by omega) (by omega)]
   cases j3 t x<;>rfl) (xs.length-(i+1)) (i+1) i xs rfl (by omega) (by omega) ht rfl
  rw[show Int.toNat ((xs.length:Int)-((i:Int)+1))=xs.length-(i+1) by omega]
  have e2:((i:Int)+1)=((i+1:Nat):Int):=by omega
  rw[e2,e]
  simp only[Stp.elim,PX]
  rw[←z3,List.append_assoc,List.take_append_of_le_length (by simp;omega)]
  simp
  rw[List.take_take,Nat.min_self]
theorem Kv (t:Tabl)(h1:t.conns.length≤4294967296)(h2:t.waiting.length≤4294967296):Ae.f (t,())=pa t:=by
 simp only[PX,Ae,wP,Rc _ _ h1,Q9 _ _ h2,pa]
theorem KL (ip:Int)(xs:List Segm){f:Int→Door×List Mail→Stp (Door×List Mail) Empty}(hf:∀(j:Nat) x a,xs[j]? =some x→∃d,f (j:Int) a= .next (d,a.2++[(⟨ip,x⟩:Mail)])):
  ∀(n j:Nat) (d:Door) (l:List Mail),j+n=xs.length→∃d2,a9 f 1 n (j:Int) (d,l)= .next (d2,l++(xs.drop j).map (λg=>(⟨ip,g⟩:Mail)))
 |0,j,d,l,h=>⟨d,by rw[List.drop_of_length_le (by omega)];simp[a9]⟩
 |n+1,j,d,l,h=>by
  have hj:j<xs.length:=by omega
  obtain⟨d1,e1⟩:=hf j xs[j] (d,l) (List.getElem?_eq_getElem hj)
  obtain⟨d2,e2⟩:=KL ip xs hf n (j+1) d1 (l++[⟨ip,xs[j]⟩]) (by omega)
  refine⟨d2, ?_⟩
  simp only[a9,e1,Stp.elim]
  rw[show(j:Int)+1=((j+1:Nat):Int) by omega,e2,List.drop_eq_getElem_cons hj]
  simp only[List.map_cons,List.append_assoc,List.cons_append,List.nil_append]
def bT (xs:List Conn):List Conn:=xs.map (λc=>(TC c).1)
def A1 (xs:List Conn):List Mail:=xs.flatMap (λc=>(TC c).2.map (λg=>(⟨c.tuple.ip,g⟩:Mail)))
theorem xQ {E:Type}(out:Conn→List E)(xs:List Conn)(d:Door){f:Int→Door×Door×List E→Stp (Door×Door×List E) Empty}(hf:∀(j:Nat) x (a:Door×Door×List E),a.2.1.table.conns[j]? =some x→xs[j]? =some x→∃z,f (j:Int) a= .next (z,({a.2.1 with table.conns:=a.2.1.table.conns.set j (TC x).1}:Door),a.2.2++out x)):
  ∀(n j:Nat) (z:Door) (ys:List Conn) (l:List E),j+n=xs.length→ys.length=xs.length→ys.drop j=xs.drop j→ys.take j=bT (xs.take j)→∃z2,a9 f 1 n (j:Int) (z,({d with table.conns:=ys}:Door),l)= .next (z2,({d with table.conns:=bT xs}:Door),l++(xs.drop j).flatMap out)
 |0,j,z,ys,l,h,hl,hd,ht=>⟨z,by
  rw[List.take_of_length_le (by omega),List.take_of_length_le (by omega)]at ht
  rw[List.drop_of_length_le (by omega),ht];simp[a9]⟩
 |n+1,j,z,ys,l,h,hl,hd,ht=>by
  have hj:j<xs.length:=by omega
  have hy:ys[j]? =some xs[j]:=by
   have:(ys.drop j)[0]? =(xs.drop j)[0]? :=by rw[hd]
   simpa [List.getElem?_drop,hj]using this
  obtain⟨z1,e1⟩:=hf j xs[j] (z,({d with table.conns:=ys}:Door),l) hy (List.getElem?_eq_getElem hj)
  have hd2:ys.drop (j+1)=xs.drop (j+1):=by
   rw[←List.drop_drop,←List.drop_drop,hd]
  obtain⟨z2,e2⟩:=xQ out xs d hf n (j+1) z1 (ys.set j (TC xs[j]).1) (l++out xs[j]) (by omega) (by rw[List.length_set];exact hl) (by rw[List.drop_set_of_lt (by omega)];exact hd2) (by
   rw[List.take_succ_eq_append_getElem (by rw[List.length_set];omega),List.take_set_of_le (Nat.le_refl _),ht,List.take_succ_eq_append_getElem hj]
   simp only[bT,List.map_append,List.map_cons,List.map_nil,List.getElem_set_self])
  refine⟨z2, ?_⟩
  simp only[a9,e1,Stp.elim]
  rw[show(j:Int)+1=((j+1:Nat):Int) by omega]
  refine e2.trans ?_
  rw[List.drop_eq_getElem_cons hj]
  simp only[List.flatMap_cons,List.append_assoc]
theorem pc (d:Door)(hs:yo d):jr.f (d,())=bif dL.f (d,())then({d with clock:=gO.f (IntKind.wrap .i64 (d.clock+1),()),chal:=0,halves:=kV d.halves,table:=pa ⟨bT d.table.conns,d.table.waiting⟩},d.table.conns.flatMap (λc=>(TC c).2))else(d,[]):=by
 simp only[PX,jr,EK,Hc d hs,zT,bG]
 cases dL.f (d,())with
 |false=>rfl
 |true=>
  simp only[Bool.not_true,cond_false,cond_true]
  obtain⟨z2,e⟩:=xQ (λc=>(TC c).2) d.table.conns ({d with clock:=gO.f (IntKind.wrap .i64 (d.clock+1),()),chal:=0,halves:=kV d.halves}:Door) (f:=λj a=>(mc j a).nice) (λj x a h1 h2=>by
   simp only[PX,mc,Z,getD_some h1,uJ x (hs x (mf h2))]
   exact⟨_,rfl⟩) d.table.conns.length 0 (⟨0,0,⟨0,⟨false,0,0,[]⟩,⟨false,0,0,[]⟩,false⟩,⟨0,0,0,0⟩,[],⟨[],[]⟩,0⟩:Door) d.table.conns [] (by omega) rfl rfl rfl
  rw[ai]
  refine(congrArg (Stp.elim _ _) e).trans ?_
  simp only[Stp.elim,Jh,List.nil_append,List.drop_zero]
theorem uL (d:Door)(ha:∀y∈d.halves,y.age≤6)(hb:∀y∈d.halves,0≤y.age)(h1:d.table.conns.length≤4294967296)(h2:d.table.waiting.length≤4294967296)(hd:dL.f (d,())=true):jm.f (d,())=({d with clock:=fc.f (d.clock,1,()),chal:=0,halves:=kV d.halves,table:=pa ⟨bT d.table.conns,d.table.waiting⟩},A1 d.table.conns):=by
 simp only[PX,jm,sr,hd,y7 _ ha hb,dG,Bool.not_true,cond_false]
 obtain⟨z2,e⟩:=xQ (λc=>(TC c).2.map (λg=>(⟨c.tuple.ip,g⟩:Mail))) d.table.conns ({d with clock:=fc.f (d.clock,1,()),chal:=0,halves:=kV d.halves}:Door) (f:=λj a=>(mg d.table.conns (d.table.conns.length:Int) j a).nice) (λj x a h1 h2=>by
  simp only[PX,mg,Z,getD_some h2,DB,cF]
  obtain⟨d2,e2⟩:=KL x.tuple.ip (TC x).2 (f:=λk a=>(j7 x (TC x).2 k a).nice) (λj y a h=>by
   simp only[PX,j7,Z,getD_some h]
   exact⟨_,rfl⟩) (TC x).2.length 0 ({a.1 with keys.now.rows:=[],keys.before.rows:=[],halves:=[],table.conns:=[],table.waiting:=[]}:Door) a.2.2 (by omega)
  rw[ai]
  exact⟨_,(congrArg (Stp.elim _ _) e2).trans rfl⟩) d.table.conns.length 0 (⟨0,0,⟨0,⟨false,0,0,[]⟩,⟨false,0,0,[]⟩,false⟩,⟨0,0,0,0⟩,[],⟨[],[]⟩,0⟩:Door) d.table.conns [] (by omega) rfl rfl rfl
 rw[ai]
 refine(congrArg (Stp.elim _ _) e).trans ?_
 simp only[Stp.elim,List.nil_append,List.drop_zero]
 rw[Kv ⟨bT d.table.conns,d.table.waiting⟩ (by simp only[bT,List.length_map];exact h1) h2]
 rfl
theorem Db (d:Door)(ha:∀y∈d.halves,y.age≤6)(hb:∀y∈d.halves,0≤y.age)(h1:d.table.conns.length≤4294967296)(h2:d.table.waiting.length≤4294967296)(hd:dL.f (d,())=true):cz.f (d,())=({d with clock:=fc.f (d.clock,1,()),chal:=0,halves:=kV d.halves,table:=pa ⟨bT d.table.conns,d.table.waiting⟩},d.table.conns.flatMap (λc=>(TC c).2)):=by
 simp only[PX,cz,uL d ha hb h1 h2 hd,eg]
 have key:∀(xs:List Mail) (n j:Nat) (z:Door) (l:List Segm),j+n=xs.length→∃z2,a9 (λj a=>(mb xs j a).nice) 1 n (j:Int) (z,l)= .next (z2,l++(xs.drop j).map Mail.g):=by
  intro xs n
  induction n with
  |zero=>intro j z l h;exact⟨z,by rw[List.drop_of_length_le (by omega)];simp[a9]⟩
  |succ n ih=>
   intro j z l h
   have hj:j<xs.length:=by omega
   have hx:xs[j]? =some xs[j]:=List.getElem?_eq_getElem hj
   obtain⟨z2,e⟩:=ih (j+1) ({z with keys.now.rows:=[],keys.before.rows:=[],halves:=[],table.conns:=[],table.waiting:=[]}:Door) (l++[xs[j].g]) (by omega)
   refine⟨z2, ?_⟩
   simp only[a9,PX,mb,Z,getD_some hx,Stp.elim]
   rw[show(j:Int)+1=((j+1:Nat):Int) by omega]
   refine e.trans ?_
   rw[List.drop_eq_getElem_cons hj]
   simp only[List.map_cons,List.append_assoc,List.cons_append,List.nil_append]
 obtain⟨z2,e⟩:=key (A1 d.table.conns) (A1 d.table.conns).length 0 (⟨0,0,⟨0,⟨false,0,0,[]⟩,⟨false,0,0,[]⟩,false⟩,⟨0,0,0,0⟩,[],⟨[],[]⟩,0⟩:Door) [] (by omega)
 rw[ai]
 refine(congrArg (Stp.elim _ _) e).trans ?_
 simp only[Stp.elim,List.nil_append,List.drop_zero]
 congr 1
 unfold A1
 rw[List.map_flatMap]
 congr 1
 funext c
 rw[List.map_map]
 exact List.map_id _
theorem F3 (a b:Tupl):ml a b=true↔a=b:=by
 obtain⟨a1,a2,a3⟩:=a
 obtain⟨b1,b2,b3⟩:=b
 simp only[ml,Bool.and_true,Bool.and_eq_true,beq_iff_eq,Tupl.mk.injEq]
 constructor<;>rintro⟨rfl,rfl,rfl⟩<;>exact⟨rfl,rfl,rfl⟩
theorem F2 {T:Type}(f:T→Tupl)(xs:List T)(t:Tupl):xs.any (λh=>ml t (f h))=true↔t∈xs.map f:=by
 simp only[List.any_eq_true,List.mem_map,F3]
 constructor
 ·rintro⟨x,h1,h2⟩;exact⟨x,h1,h2.symm⟩
 ·rintro⟨x,h1,h2⟩;exact⟨x,h1,h2.symm⟩
theorem xZ {T:Type}(f:T→Tupl)(xs:List T):(∀(j:Nat) (y:T),xs[j]? =some y→(xs.take j).any (λh=>ml (f y) (f h))=false)↔(xs.map f).Nodup:=by
 unfold List.Nodup
 rw[List.pairwise_iff_getElem]
 constructor
 ·intro h i j hi hj hij he
  rw[List.length_map]at hi hj
  simp only[List.getElem_map]at he
  have:=h j xs[j] (List.getElem?_eq_getElem hj)
  rw[List.any_eq_false]at this
  refine this xs[i] ?_ ((F3 _ _).2 he.symm)
  rw[List.mem_take_iff_getElem]
  exact⟨i,by omega,rfl⟩
 ·intro h j y hy
  rw[List.any_eq_false]
  intro z hz he
  rw[List.mem_take_iff_getElem]at hz
  obtain⟨i,hi,rfl⟩:=hz
  obtain⟨hj,rfl⟩:=List.getElem?_eq_some_iff.1 hy
  have:=h i j (by rw[List.length_map];omega) (by rw[List.length_map];exact hj) (by omega)
  simp only[List.getElem_map]at this
  exact this ((F3 _ _).1 he).symm
structure LO (l:Limi):Prop where
 h1:1≤l.halves
 h2:l.halves≤64
 w1:1≤l.waiting
 w2:l.waiting≤16
 c1:1≤l.conns
 c2:l.conns≤16
 k0:0≤l.chal
 k1:l.chal≤1000
theorem P7 (l:Limi):dY.f (l,())=true↔LO l:=by
 simp only[PX,dY,aG]
 have e:(bif decide (1≤l.halves)&&decide (l.halves≤64)then bif decide (1≤l.waiting)&&decide (l.waiting≤16)then bif decide (1≤l.conns)&&decide (l.conns≤16)then decide (0≤l.chal)&&decide (l.chal≤1000)else false else false else false)=((decide (1≤l.halves)&&decide (l.halves≤64))&&((decide (1≤l.waiting)&&decide (l.waiting≤16))&&((decide (1≤l.conns)&&decide (l.conns≤16))&&(decide (0≤l.chal)&&decide (l.chal≤1000))))):=by
  cases(decide (1≤l.halves)&&decide (l.halves≤64))<;>cases(decide (1≤l.waiting)&&decide (l.waiting≤16))<;>cases(decide (1≤l.conns)&&decide (l.conns≤16))<;>simp
 rw[e]
 simp only[Bool.and_eq_true,decide_eq_true_eq]
 constructor
 ·rintro⟨⟨h1,h2⟩,⟨h3,h4⟩,⟨h5,h6⟩,h7,h8⟩;exact⟨h1,h2,h3,h4,h5,h6,h7,h8⟩
 ·rintro⟨h1,h2,h3,h4,h5,h6,h7,h8⟩;exact⟨⟨h1,h2⟩,⟨h3,h4⟩,⟨h5,h6⟩,h7,h8⟩
structure TO (t:Tabl)(l:Limi):Prop where
 lim:LO l
 nc:(t.conns.length:Int)≤l.conns
 nw:(t.waiting.length:Int)≤l.waiting
 co:∀c∈t.conns,CO c
 dc:(t.conns.map Conn.tuple).Nodup
 dw:t.waiting.Nodup
 wc:∀w∈t.waiting,w∈t.conns.map Conn.tuple
theorem pZ {T:Type}{P:T→Prop}{xs:List T}:(∀(j:Nat) (y:T),xs[j]? =some y→P y)↔∀y∈xs,P y:=by
 constructor
 ·intro h y hy
  obtain⟨j,hj,rfl⟩:=List.getElem_of_mem hy
  exact h j _ (List.getElem?_eq_getElem hj)
 ·intro h j y hy;exact h y (mf hy)
theorem B4 {T W:Type}{f:Int→Unit→Stp Unit W}(xs:List T){P:Nat→T→Prop}(h:∀(j:Nat) (y:T),xs[j]? =some y→(f (j:Int) ()= .next ()↔P j y)):a9 f 1 (Int.toNat ((xs.length:Int)-0)) 0 ()= .next ()↔∀(j:Nat) (y:T),xs[j]? =some y→P j y:=by
 rw[ai,show(0:Int)=((0:Nat):Int) from rfl,tC]
 constructor
 ·intro h1 j y hy
  exact(h j y hy).1 (h1 j (Nat.zero_le _) (by have:=(List.getElem?_eq_some_iff.1 hy).1;omega))
 ·intro h1 j _ h2
  exact(h j xs[j] (List.getElem?_eq_getElem (by omega))).2 (h1 j _ (List.getElem?_eq_getElem (by omega)))
theorem PL (t:Tabl)(l:Limi):iD.f (t,l,())=true↔TO t l:=by
 have f1:=B4 t.conns (f:=λj a=>(di t.conns t j a).nice) (P:=λj y=>CO y∧(t.conns.take j).any (λh=>ml y.tuple h.tuple)=false) (λj y hy=>by
  simp only[PX,di,Z,getD_some hy,kF]
  rw[z4 (λh:Conn=>ml y.tuple h.tuple) t.conns j y hy (sy _),←Bk]
  cases cm.f (y,())<;>cases(t.conns.take j).any (λh=>ml y.tuple h.tuple)<;>simp)
 have f2:=B4 t.waiting (f:=λj a=>(cZ t.waiting t j a).nice) (P:=λj y=>y∈t.conns.map Conn.tuple∧(t.waiting.take j).any (λh=>ml y h)=false) (λj y hy=>by
  simp only[PX,cZ,Z,getD_some hy,kF,mj,Oq]
  rw[z4 (ml y) t.waiting j y hy (sy _),←F2]
  cases t.conns.any (λh=>ml y h.tuple)<;>cases(t.waiting.take j).any (λh=>ml y h)<;>simp)
 have f3:=xZ Conn.tuple t.conns
 have f4:=xZ (λx=>x) t.waiting
 rw[List.map_id']at f4
 have f5:a9 (λj a=>(di t.conns t j a).nice) 1 (Int.toNat ((t.conns.length:Int)-0)) 0 ()= .next ()↔(∀c∈t.conns,CO c)∧(t.conns.map Conn.tuple).Nodup:=by
  rw[f1,←f3,←pZ]
  exact⟨λh=>⟨λj y hy=>(h j y hy).1,λj y hy=>(h j y hy).2⟩,λh j y hy=>⟨h.1 j y hy,h.2 j y hy⟩⟩
 have f6:a9 (λj a=>(cZ t.waiting t j a).nice) 1 (Int.toNat ((t.waiting.length:Int)-0)) 0 ()= .next ()↔(∀w∈t.waiting,w∈t.conns.map Conn.tuple)∧t.waiting.Nodup:=by
  rw[f2,←f4,←pZ]
  exact⟨λh=>⟨λj y hy=>(h j y hy).1,λj y hy=>(h j y hy).2⟩,λh j y hy=>⟨h.1 j y hy,h.2 j y hy⟩⟩
 have e:iD.f (t,l,())=true↔dY.f (l,())=true∧(t.conns.length:Int)≤l.conns∧(t.waiting.length:Int)≤l.waiting∧a9 (λj a=>(di t.conns t j a).nice) 1 (Int.toNat ((t.conns.length:Int)-0)) 0 ()= .next ()∧a9 (λj a=>(cZ t.waiting t j a).nice) 1 (Int.toNat ((t.waiting.length:Int)-0)) 0 ()= .next ():=by
  simp only[PX,iD,dV,d7]
  rw[show((t.conns.length:Int)≤l.conns)↔decide (l.conns<(t.conns.length:Int))=false by simp,show((t.waiting.length:Int)≤l.waiting)↔decide (l.waiting<(t.waiting.length:Int))=false by simp]
  cases dY.f (l,())<;>cases decide (l.conns<(t.conns.length:Int))<;>cases decide (l.waiting<(t.waiting.length:Int))<;>cases a9 (λj a=>(di t.conns t j a).nice) 1 (Int.toNat ((t.conns.length:Int)-0)) 0 ()<;>cases a9 (λj a=>(cZ t.waiting t j a).nice) 1 (Int.toNat ((t.waiting.length:Int)-0)) 0 ()<;>simp[Stp.elim]
 rw[e,P7,f5,f6]
 constructor
 ·rintro⟨h1,h2,h3,⟨h4,h5⟩,h6,h7⟩;exact⟨h1,h2,h3,h4,h5,h7,h6⟩
 ·rintro⟨h1,h2,h3,h4,h5,h7,h6⟩;exact⟨h1,h2,h3,⟨h4,h5⟩,h6,h7⟩
structure HO (xs:List Half):Prop where
 ok:∀h∈xs,tB h=true
 nd:(xs.map Half.tuple).Nodup
 len:xs.length≤64
theorem PG (xs:List Half):gZ.f (xs,())=true↔HO xs:=by
 rw[Fi]
 have f3:=xZ Half.tuple xs
 constructor
 ·rintro⟨h1,h2⟩
  exact⟨pZ.1 λj y hy=>(h1 j y hy).1,f3.1 λj y hy=>(h1 j y hy).2,h2⟩
 ·rintro⟨h1,h2,h3⟩
  exact⟨λj y hy=>⟨h1 y (mf hy),f3.2 h2 j y hy⟩,h3⟩
structure DO (d:Door):Prop where
 port:aa.f (d.port,16,())=true
 c0:0≤d.clock
 c1:d.clock≤4294967295
 keys:nP.f (d.keys,())=true
 tab:TO d.table d.limits
 hal:HO d.halves
 nh:(d.halves.length:Int)≤d.limits.halves
 k0:0≤d.chal
 k1:d.chal≤d.limits.chal
 ap:∀h∈d.halves,h.tuple∉d.table.conns.map Conn.tuple
theorem xX (d:Door):dL.f (d,())=true↔DO d:=by
 have e:dL.f (d,())=true↔aa.f (d.port,16,())=true∧aa.f (d.clock,32,())=true∧nP.f (d.keys,())=true∧iD.f (d.table,d.limits,())=true∧gZ.f (d.halves,())=true∧(d.halves.length:Int)≤d.limits.halves∧(decide (0≤d.chal)&&decide (d.chal≤d.limits.chal))=true∧(d.halves.any (λh=>decide (0≤bE.f (d.table,h.tuple,()))))=false:=by
  simp only[PX,dL,BL,aG]
  rw[show((d.halves.length:Int)≤d.limits.halves)↔decide (d.limits.halves<(d.halves.length:Int))=false by simp]
  generalize(decide (0≤d.chal)&&decide (d.chal≤d.limits.chal))=b1
  generalize decide (d.limits.halves<(d.halves.length:Int))=b2
  generalize(d.halves.any (λh=>decide (0≤bE.f (d.table,h.tuple,()))))=b3
  cases aa.f (d.port,16,())<;>cases aa.f (d.clock,32,())<;>cases nP.f (d.keys,())<;>cases iD.f (d.table,d.limits,())<;>cases gZ.f (d.halves,())<;>cases b1<;>cases b2<;>cases b3<;>simp
 rw[e,PL,PG,gP]
 simp only[Bool.and_eq_true,decide_eq_true_eq,kF,oy]
 have f:(d.halves.any λh=>d.table.conns.any λc=>ml h.tuple c.tuple)=false↔∀h∈d.halves,h.tuple∉d.table.conns.map Conn.tuple:=by
  rw[List.any_eq_false]
  constructor
  ·intro h x hx hm;exact h x hx ((F2 Conn.tuple _ _).2 hm)
  ·intro h x hx hm;exact h x hx ((F2 Conn.tuple _ _).1 hm)
 rw[f]
 constructor
 ·rintro⟨h1,⟨h2,h2'⟩,h3,h4,h5,h6,⟨h7,h8⟩,h9⟩;exact⟨h1,h2,h2',h3,h4,h5,h6,h7,h8,h9⟩
 ·rintro⟨h1,h2,h2',h3,h4,h5,h6,h7,h8,h9⟩;exact⟨h1,⟨h2,h2'⟩,h3,h4,h5,h6,⟨h7,h8⟩,h9⟩
def Ll (x:Recv):Int:=if x.done=true then 0 else 32-(x.data.length:Int)
theorem K6 (x:Recv)(h:x.data.length≤32):0≤Ll x∧Ll x≤32:=by unfold Ll;split<;>omega
structure RV (x:Recv):Prop where
 n0:0≤x.next
 n1:x.next≤4294967295
 dl:x.data.length≤32
 hl:x.held.length≤3
 f0: -1≤x.fin
 f1:x.fin≤Ll x
 fz:x.fin≠0
 wk:∃b,lO (if x.fin= -1 then Ll x else x.fin) 0 x.held=some b
 dn:x.done=true→x.held=[]∧x.fin= -1
theorem yZ (x:Recv)(h:x.data.length≤32):cb.f (x,())=Ll x:=by
 simp only[PX,cb]
 unfold Ll
 rw[aw (by omega) (by omega)]
 cases x.done with
 |true=>rfl
 |false=>simp only[cond_false,Bool.false_eq_true,if_false];split<;>omega
theorem NX (x:Recv)(hs:kg x.held):cV.f (x,())=true↔RV x:=by
 simp only[PX,cV,dA,gP]
 by_cases hn:0≤x.next∧x.next≤4294967295
 ·rw[decide_eq_true hn.1,decide_eq_true hn.2]
  by_cases hd:32<(x.data.length:Int)
  ·rw[decide_eq_true hd]
   exact⟨λh=>(by cases h),λh=>by have:=h.dl;omega⟩
  ·rw[decide_eq_false hd,yZ x (by omega)]
   have hw:=K6 x (by omega)
   simp only[Bool.and_self,Bool.not_true,cond_false]
   by_cases hl:3<(x.held.length:Int)
   ·rw[decide_eq_true hl]
    exact⟨λh=>(by cases h),λh=>by have:=h.hl;omega⟩
   ·rw[decide_eq_false hl,aG]
    simp only[cond_false]
    by_cases hf: -1≤x.fin∧x.fin≤Ll x
    ·rw[decide_eq_true hf.1,decide_eq_true hf.2]
     simp only[Bool.and_self,Bool.not_true,cond_false]
     by_cases h0:x.fin=0
     ·rw[show(x.fin==0)=true by simp[h0]]
      exact⟨λh=>(by cases h),λh=>absurd h0 h.fz⟩
     ·rw[show(x.fin==0)=false by simp[h0]]
      simp only[cond_false]
      have ed:(bif !x.done then true else bif ((x.held.length:Int)==0)then(x.fin== -1)else false)=true↔(x.done=true→x.held=[]∧x.fin= -1):=by
       cases x.done with
       |false=>simp
       |true=>
        cases hh:x.held with
        |nil=>simp
        |cons p r=>
         have:(((p::r).length:Int)==0)=false:=by
          rw[beq_eq_false_iff_ne];simp only[List.length_cons];omega
         rw[this];simp
      have k2:=JI x (if x.fin= -1 then Ll x else x.fin) (by split<;>omega) (by split<;>omega) hs
      have fin:∀L:Int,L=(if x.fin= -1 then Ll x else x.fin)→(Stp.elim (λ_=>bif !x.done then true else bif ((x.held.length:Int)==0)then(x.fin== -1)else false) (λ_=>false) (a9 (λj a=>(cy L x.held j a).nice) 1 (Int.toNat ((x.held.length:Int)-0)) 0 0)=true↔RV x):=by
       intro L hL
       rw[hL]
       cases hp:lO (if x.fin= -1 then Ll x else x.fin) 0 x.held with
       |some b=>
        rw[hp]at k2;simp only[]at k2
        rw[k2]
        simp only[Stp.elim]
        rw[ed]
        exact⟨λh=>⟨hn.1,hn.2,by omega,by omega,hf.1,hf.2,h0,⟨b,hp⟩,h⟩,λh=>h.dn⟩
       |none=>
        rw[hp]at k2;obtain⟨w,k2⟩:=k2
        rw[k2]
        simp only[Stp.elim]
        refine⟨λh=>(by cases h),λh=> ?_⟩
        obtain⟨b,hb⟩:=h.wk
        rw[hp]at hb;cases hb
      by_cases h1:x.fin= -1
      ·rw[show(x.fin != -1)=false by simp[h1]]
       exact fin (Ll x) (by rw[if_pos h1])
      ·rw[show(x.fin != -1)=true by simp[h1]]
       exact fin x.fin (by rw[if_neg h1])
    ·have:(decide (-1≤x.fin)&&decide (x.fin≤Ll x))=false:=by
      rw[Bool.and_eq_false_iff];simp only[decide_eq_false_iff_not];omega
     rw[this]
     exact⟨λh=>(by cases h),λh=>absurd ⟨h.f0,h.f1⟩ hf⟩
 ·have:(decide (0≤x.next)&&decide (x.next≤4294967295))=false:=by
   rw[Bool.and_eq_false_iff];simp only[decide_eq_false_iff_not];omega
  rw[this]
  exact⟨λh=>(by cases h),λh=>absurd ⟨h.n0,h.n1⟩ hn⟩
theorem CO.set {c:Conn}(h:CO c)(k t r:Int)(hk:k=c.state∨k=8)(t0:0≤t)(t4:t≤4)(t3:k≠7→t≤3)(r0:0≤r)(r3:r≤3):CO ({c with state:=k,timer:=t,tries:=r}:Conn):=by
 have h1:=h.s1
 have h8:=h.s8
 refine⟨h.tup,h.snd,h.rcv,h.opt, ?_, ?_,h.m0,h.m1,h.w0,h.w1,t0,t4,t3,r0,r3, ?_⟩
 ·show 1≤k;omega
 ·show k≤8;omega
 ·show Q3 k c.s.fin c.s.done c.r.done=true
  rcases hk with rfl|rfl
  ·exact h.fl
  ·rfl
theorem AP (x:Sndr)(h:SO x):gl.f (x,())={x with sent:=0,finSent:=false}:=by
 simp only[PX,gl,(FJ x).2 h,Bool.not_true,cond_false]
theorem Np {x:Sndr}(h:SO x):SO ({x with sent:=0,finSent:=false}:Sndr):=by
 obtain⟨h1,h2,h3,h4,h5,h6,h7⟩:=h
 exact⟨h1,h2,h3,Int.le_refl _,by show(0:Int)≤_;omega,λh=>(by cases h),λhd=>⟨(h7 hd).1,rfl,(h7 hd).2.2⟩⟩
theorem Pr (c:Conn)(h:CO c):CO (TC c).1∧(TC c).1.tuple=c.tuple∧(TC c).1.r=c.r:=by
 have hr:=xN h
 have h7:c.state≠7→iL c≤3:=by
  intro hn;have:=h.t3 hn
  unfold iL;rw[if_neg hn];split<;>omega
 have r0:=h.r0
 have r3:=h.r3
 unfold TC
 by_cases hw:j4.f (c,())=true
 ·rw[if_pos hw]
  by_cases c1:0<iL c-1
  ·rw[if_pos c1]
   exact⟨CO.set h c.state (iL c-1) c.tries (.inl rfl) (by omega) (by omega) (λhn=>by have:=h7 hn;omega) r0 r3,rfl,rfl⟩
  ·rw[if_neg c1]
   by_cases c2:c.state=7
   ·rw[if_pos c2]
    exact⟨CO.set h 8 0 0 (.inr rfl) (by omega) (by omega) (λ_=>by omega) (by omega) (by omega),rfl,rfl⟩
   ·rw[if_neg c2]
    by_cases c3:c.tries=3
    ·rw[if_pos c3]
     exact⟨CO.set h 8 0 0 (.inr rfl) (by omega) (by omega) (λ_=>by omega) (by omega) (by omega),rfl,rfl⟩
    ·rw[if_neg c3]
     have hc':CO ({c with s:=gl.f (c.s,()),timer:=0,tries:=c.tries+1}:Conn):=by
      rw[AP c.s h.snd]
      exact⟨h.tup,Np h.snd,h.rcv,h.opt,h.s1,h.s8,h.m0,h.m1,h.w0,h.w1,Int.le_refl _,by show(0:Int)≤4;omega,λ_=>by show(0:Int)≤3;omega,by show 0≤c.tries+1;omega,by show c.tries+1≤3;omega,h.fl⟩
     have hS:=Ln _ (if c.window=0 then 1 else c.window) hc'.snd
     have hp:=Sent.ok hS hc' (.inl (by
      rcases hS.tm with e|e
      ·rw[e];show(0:Int)≤3;omega
      ·rw[e];omega))
     refine⟨CO.set hp _ 3 _ (.inl rfl) (by omega) (by omega) (λ_=>by omega) hp.r0 hp.r3, ?_, ?_⟩
     ·have e:=congrArg Conn.tuple hS.re;exact e
     ·have e:=congrArg Conn.r hS.re;exact e
 ·rw[if_neg hw,if_pos ((Bk c).2 h)]
  exact⟨CO.set h c.state 0 0 (.inl rfl) (by omega) (by omega) (λ_=>by omega) (by omega) (by omega),rfl,rfl⟩
theorem O3 (xs:List Half)(h:HO xs):HO (kV xs):=by
 refine⟨?_, ?_, ?_⟩
 ·intro y hy
  unfold kV at hy
  rw[List.mem_map]at hy
  obtain⟨x,hx,rfl⟩:=hy
  rw[List.mem_filter]at hx
  have h1:=h.ok x hx.1
  have h2:x.age<6:=by simpa using hx.2
  unfold tB at h1⊢
  simp only[Bool.and_eq_true,decide_eq_true_eq]at h1⊢
  obtain⟨a1,a2,a3,a4,a5,a6,a7⟩:=h1
  rw[aw (by omega) (by omega)]
  exact⟨a1,a2,a3,a4,a5,by omega,by omega⟩
 ·have e:(kV xs).map Half.tuple=(xs.filter (λh=>decide (h.age<6))).map Half.tuple:=by
   unfold kV;rw[List.map_map];rfl
  rw[e]
  exact List.Nodup.sublist (List.Sublist.map _ (List.filter_sublist)) h.nd
 ·unfold kV
  rw[List.length_map]
  have:=List.length_filter_le (λh:Half=>decide (h.age<6)) xs
  have:=h.len
  omega
theorem yM (xs:List Conn)(h:∀c∈xs,CO c):(bT xs).map Conn.tuple=xs.map Conn.tuple:=by
 unfold bT
 rw[List.map_map]
 apply List.map_congr_left
 intro c hc
 exact(Pr c (h c hc)).2.1
theorem OV (t:Tabl)(l:Limi)(h:TO t l):TO (pa ⟨bT t.conns,t.waiting⟩) l:=by
 have hm:=yM t.conns h.co
 have hl:(bT t.conns).length=t.conns.length:=by unfold bT;rw[List.length_map]
 refine⟨h.lim, ?_, ?_, ?_, ?_, ?_, ?_⟩
 ·have:=List.length_filter_le (oJ ⟨bT t.conns,t.waiting⟩) (bT t.conns)
  have h2:=h.nc
  show((List.filter _ _).length:Int)≤_
  simp only[]at this⊢;omega
 ·have:=List.length_filter_le (j3 ⟨bT t.conns,t.waiting⟩) t.waiting
  have h2:=h.nw
  show((List.filter _ _).length:Int)≤_
  simp only[]at this⊢;omega
 ·intro c hc
  have hc1:c∈bT t.conns:=(List.mem_filter.1 hc).1
  unfold bT at hc1
  rw[List.mem_map]at hc1
  obtain⟨x,hx,rfl⟩:=hc1
  exact(Pr x (h.co x hx)).1
 ·refine List.Nodup.sublist (List.Sublist.map _ (List.filter_sublist)) ?_
  show((bT t.conns).map Conn.tuple).Nodup
  rw[hm];exact h.dc
 ·exact List.Nodup.sublist (List.filter_sublist) h.dw
 ·intro w hw
  have hw1:w∈t.waiting:=(List.mem_filter.1 hw).1
  have hw2:=h.wc w hw1
  rw[←hm,List.mem_map]at hw2
  obtain⟨c,hc,rfl⟩:=hw2
  rw[List.mem_map]
  refine⟨c,List.mem_filter.2 ⟨hc, ?_⟩,rfl⟩
  unfold oJ
  have:t.waiting.any (ml c.tuple)=true:=by
   rw[List.any_eq_true];exact⟨_,hw1,sy _⟩
  simp only[this]
  cases(c.state != 8)<;>rfl
theorem OO (d:Door)(h:DO d):DO ({d with clock:=fc.f (d.clock,1,()),chal:=0,halves:=kV d.halves,table:=pa ⟨bT d.table.conns,d.table.waiting⟩}:Door):=by
 have k0:=h.k0
 have k1:=h.k1
 have hm:=yM d.table.conns h.tab.co
 refine⟨h.port, ?_, ?_,h.keys,OV _ _ h.tab,O3 _ h.hal, ?_,Int.le_refl _, ?_, ?_⟩
 ·show 0≤fc.f (d.clock,1,());rw[lg];omega
 ·show fc.f (d.clock,1,())≤4294967295;rw[lg];omega
 ·show((kV d.halves).length:Int)≤d.limits.halves
  unfold kV
  rw[List.length_map]
  have:=List.length_filter_le (λh:Half=>decide (h.age<6)) d.halves
  have:=h.nh
  omega
 ·show 0≤d.limits.chal;omega
 ·intro y hy hm2
  have hy2:∃x∈d.halves,x.tuple=y.tuple:=by
   have hy1:y∈kV d.halves:=hy
   unfold kV at hy1
   rw[List.mem_map]at hy1
   obtain⟨x,hx,rfl⟩:=hy1
   exact⟨x,(List.mem_filter.1 hx).1,rfl⟩
  obtain⟨x,hx,e⟩:=hy2
  refine h.ap x hx ?_
  rw[e,←hm]
  exact(List.Sublist.map Conn.tuple (List.filter_sublist (p:=oJ ⟨bT d.table.conns,d.table.waiting⟩))).subset hm2
theorem C1 (d:Door)(hd:dL.f (d,())=false):cz.f (d,())=(d,[]):=by
 have e:jm.f (d,())=(d,[]):=by simp only[PX,jm,sr,hd,Bool.not_false,cond_true]
 simp only[PX,cz,e,eg]
 rfl
theorem qL {h:Half}(hh:tB h=true):0≤h.age∧h.age≤6:=by
 unfold tB at hh
 simp only[Bool.and_eq_true,decide_eq_true_eq]at hh
 exact hh.2.2.2.2.2
theorem JH (d:Door)(hd:aN d):jr.f (d,())=cz.f (d,()):=by
 have hs:=xT hd
 rw[pc d hs]
 cases hdo:dL.f (d,())with
 |false=>rw[C1 d hdo];rfl
 |true=>
  have hD:=(xX d).1 hdo
  have t:=hD.tab
  have a2:=t.lim.w2
  have a3:=t.lim.c2
  have a4:=t.nc
  have a5:=t.nw
  rw[Db d (λy hy=>(qL (hD.hal.ok y hy)).2) (λy hy=>(qL (hD.hal.ok y hy)).1) (by omega) (by omega) hdo]
  have c0:=hD.c0
  have c1:=hD.c1
  rw[xE,lg,aw (by omega) (by omega)]
  rfl
theorem pE (t:ah)(k:Nat)(hk:k<t.length):nZ t k=(t[k].toNat:Int):=by
 simp[nZ,List.getD,hk]
theorem Fy (b:UInt8):(b.toNat:Int)≤255:=by have:=b.toNat_lt;omega
theorem zL (o:Opti)(h:bf.f (o,())=true): -1≤o.scale∧o.scale≤14:=by
 simp only[PX,bf,aG]at h
 revert h
 cases hq:(decide (-1≤o.scale)&&decide (o.scale≤14))with
 |true=>
  intro _
  simpa [Bool.and_eq_true,decide_eq_true_eq]using hq
 |false=>
  cases aa.f (o.mss,16,())<;>cases o.stamp<;>cases(o.val != 0)<;>cases(o.echo != 0)<;>simp
theorem rU (g:Segm)(h:bk.f (g,())=true):g.body.length≤1420:=by
 simp only[PX,bk]at h
 revert h
 cases aa.f (g.from_,16,())<;>cases aa.f (g.to,16,())<;>cases aa.f (g.seq,32,())<;>cases aa.f (g.ack,32,())<;>cases aa.f (g.flags,6,())<;>cases aa.f (g.window,16,())<;>cases bf.f (g.opts,())<;>simp<;>omega
theorem md (g:Segm):bk.f (g,())=true↔((0≤g.from_∧g.from_≤65535)∧(0≤g.to∧g.to≤65535)∧(0≤g.seq∧g.seq≤4294967295)∧(0≤g.ack∧g.ack≤4294967295)∧(0≤g.flags∧g.flags≤63)∧(0≤g.window∧g.window≤65535)∧bf.f (g.opts,())=true∧g.body.length≤1420):=by
 simp only[PX,bk,oi,gP,KD]
 rw[show((g.body.length≤1420)↔decide (((g.body.length:Nat):Int)≤1420)=true) by simp;omega]
 simp only[←Bool.decide_and,Bool.cond_eq_ite,Bool.if_false_right,Bool.decide_eq_true,Bool.and_eq_true,decide_eq_true_eq]
 constructor
 ·rintro⟨a,b,w,s,k,f,o,bd⟩;exact⟨a,b,s,k,f,w,o,bd⟩
 ·rintro⟨a,b,s,k,f,w,o,bd⟩;exact⟨a,b,w,s,k,f,o,bd⟩
theorem Mc (t:Tupl)(h:cH.f (t,())=true):(0≤t.ip∧t.ip≤4294967295)∧(0≤t.port∧t.port≤65535)∧(0≤t.my∧t.my≤65535):=by
 simp only[PX,cH,oi,gP]at h
 by_cases h1:0≤t.ip∧t.ip≤4294967295
 ·by_cases h2:0≤t.port∧t.port≤65535
  ·by_cases h3:0≤t.my∧t.my≤65535
   ·exact⟨h1,h2,h3⟩
   ·rw[show(decide (0≤t.my)&&decide (t.my≤65535))=false by rw[Bool.and_eq_false_iff];simp only[decide_eq_false_iff_not];omega]at h
    revert h
    cases(decide (0≤t.ip)&&decide (t.ip≤4294967295))<;>cases(decide (0≤t.port)&&decide (t.port≤65535))<;>simp
  ·rw[show(decide (0≤t.port)&&decide (t.port≤65535))=false by rw[Bool.and_eq_false_iff];simp only[decide_eq_false_iff_not];omega]at h
   revert h
   cases(decide (0≤t.ip)&&decide (t.ip≤4294967295))<;>simp
 ·rw[show(decide (0≤t.ip)&&decide (t.ip≤4294967295))=false by rw[Bool.and_eq_false_iff];simp only[decide_eq_false_iff_not];omega]at h
  simp at h
theorem EH (s:Sndr):gW.f (s,())=(s.una+dK.f (s,()))%4294967296:=by simp only[PX,gW,lg]
theorem Gi:bf.f (oE.f (()),())=true:=by decide+kernel
theorem Nj (c:Conn)(hc:cH.f (c.tuple,())=true)(hd:c.r.data.length≤32)(hn:0≤c.r.next∧c.r.next≤4294967295)(sq fl:Int)(b:ah)(h0:0≤sq∧sq≤4294967295)(hf:0≤fl∧fl≤63)(hb:b.length≤1420):bk.f ({cN.f (c,())with seq:=sq,flags:=fl,body:=b},())=true:=by
 rw[md]
 have ht:=Mc c.tuple hc
 have hw:=K6 c.r hd
 simp only[PX,cN,yZ c.r hd]
 exact⟨ht.2.2,ht.2.1,h0,hn,hf,⟨hw.1,by omega⟩,Gi,hb⟩
theorem NT (c:Conn)(hc:CO c)(hs:kg c.r.held):bk.f (cN.f (c,()),())=true:=by
 have hr:=(NX c.r hs).1 hc.rcv
 have h:=Nj c hc.tup hr.dl ⟨hr.n0,hr.n1⟩ (gW.f (c.s,())) 16 [] (by rw[EH];omega) (by omega) (by simp)
 have e:({cN.f (c,())with seq:=gW.f (c.s,()),flags:=16,body:=[]}:Segm)=cN.f (c,()):=by simp only[PX,cN]
 rw[e]at h;exact h
theorem D1 (s:Sndr)(w m:Int)(h:(bh.f (s,w,m,())).2=true):(bh.f (s,w,m,())).1.seq=gW.f (s,()):=by
 revert h
 simp only[PX,bh]
 generalize(if 0<(if(IntKind.wrap .i64 ((if w<(-1)then(-1)else w)-dK.f (s,())))<(if m<(((s.data.take ((s.data.length:Int).toNat)).drop s.sent.toNat).length:Int)then m else(((s.data.take ((s.data.length:Int).toNat)).drop s.sent.toNat).length:Int))then(IntKind.wrap .i64 ((if w<(-1)then(-1)else w)-dK.f (s,())))else(if m<(((s.data.take ((s.data.length:Int).toNat)).drop s.sent.toNat).length:Int)then m else(((s.data.take ((s.data.length:Int).toNat)).drop s.sent.toNat).length:Int)))then(if(IntKind.wrap .i64 ((if w<(-1)then(-1)else w)-dK.f (s,())))<(if m<(((s.data.take ((s.data.length:Int).toNat)).drop s.sent.toNat).length:Int)then m else(((s.data.take ((s.data.length:Int).toNat)).drop s.sent.toNat).length:Int))then(IntKind.wrap .i64 ((if w<(-1)then(-1)else w)-dK.f (s,())))else(if m<(((s.data.take ((s.data.length:Int).toNat)).drop s.sent.toNat).length:Int)then m else(((s.data.take ((s.data.length:Int).toNat)).drop s.sent.toNat).length:Int)))else 0)=n
 generalize(IntKind.wrap .i64 ((if w<(-1)then(-1)else w)-dK.f (s,())))=v
 generalize(((s.data.take ((s.data.length:Int).toNat)).drop s.sent.toNat).take n.toNat).drop 0=tx
 generalize(((s.data.take ((s.data.length:Int).toNat)).drop s.sent.toNat).length:Int)=ln
 cases bv.f (s,())<;>cases s.fin<;>cases s.finSent<;>cases s.done<;>cases(n==ln)<;>cases(tx==[])<;>cases decide (n<v)<;>simp
theorem LJ (c:Conn)(w:Int)(hc:CO c)(hs:kg c.r.held):∀g∈(o9.f (c,w,())).2,bk.f (g,())=true:=by
 have hr:=(NX c.r hs).1 hc.rcv
 simp only[PX,o9,lX,jJ]
 cases(bif !cm.f (c,())then(true,())else bif (c.state==8)then(true,())else((c.state==7),())).1 with
 |true=>intro g hg;cases hg
 |false=>
 simp only[cond_false]
 have key:=rN (f:=λa=>(cp w a).nice) (Inv:=λa=>Sent c a.2.1∧(∀g∈a.2.2,bk.f (g,())=true)) (Q:=λp=>∀g∈p.2.2,bk.f (g,())=true) (meas:=λa=>Dz a.2.1.s) (λa hi a' he=>by
  rcases tW w c a hi.1 with⟨l,e⟩|⟨a2,e,h1,h2⟩
  ·simp only[e]at he;cases he
  ·simp only[e,Stp.next.injEq]at he;subst he
   refine⟨⟨h1, ?_⟩,h2⟩
   obtain⟨hS,hl⟩:=hi
   obtain⟨a1,b2,al⟩:=a
   simp only[]at hS hl
   have hre:=hS.re
   have htup:cH.f (b2.tuple,())=true:=by rw[hre];exact hc.tup
   have hrr:b2.r=c.r:=by rw[hre]
   have hch:=bh.c.h (b2.s,w,eH.f (b2,()),()) (Bd hS.so)
   have hsq:=D1 b2.s w (eH.f (b2,()))
   revert e
   simp only[PX,cp]
   simp only[PX]at hch
   generalize bh.f (b2.s,w,eH.f (b2,()),())=z at hch hsq⊢
   obtain⟨y,b⟩:=z
   cases b with
   |false=>intro e;cases e
   |true=>
    obtain⟨-,hch⟩:=hch
    obtain⟨-,hlen,-,-,-⟩:=hch rfl
    have hsq:=hsq rfl
    simp only[]at hlen hsq
    have hdl:=hS.so.2.2.1
    have hs0:=hS.so.2.2.2.1
    have ok:∀fl:Int,0≤fl∧fl≤63→bk.f (({cN.f (b2,())with seq:=y.seq,flags:=fl,body:=y.text}:Segm),())=true:=λfl hf=>Nj b2 htup (by rw[hrr];exact hr.dl) (by rw[hrr];exact⟨hr.n0,hr.n1⟩) y.seq fl y.text (by rw[hsq,EH];omega) hf (by omega)
    have fin:∀fl:Int,0≤fl∧fl≤63→∀g∈al++[({cN.f (b2,())with seq:=y.seq,flags:=fl,body:=y.text}:Segm)],bk.f (g,())=true:=by
     intro fl hf g hg
     rcases List.mem_append.1 hg with h3|h3
     ·exact hl g h3
     ·rw[List.mem_singleton.1 h3];exact ok fl hf
    have hfl:(cN.f (b2,())).flags=16:=by simp only[PX,cN]
    simp only[hfl]
    cases(y.text==[])<;>cases y.fin<;>(intro e;simp only[Stp.next.injEq,cond_true,cond_false,Bool.not_true,Bool.not_false]at e;subst e;refine fin _ (by decide+kernel))) (λa hi p he=>by
  rcases tW w c a hi.1 with⟨l,e⟩|⟨a2,e,h1,h2⟩
  ·obtain⟨a1,a2',al⟩:=a
   have hl:l=al:=by
    revert e
    simp only[PX,cp]
    cases(bh.f (a2'.s,w,eH.f (a2',()),())).2 with
    |false=>intro e;cases e;rfl
    |true=>cases((bh.f (a2'.s,w,eH.f (a2',()),())).1.text==[])<;>cases(bh.f (a2'.s,w,eH.f (a2',()),())).1.fin<;>(intro e;cases e)
   simp only[e,Stp.out.injEq]at he;subst he;subst hl;exact hi.2
  ·simp only[e]at he;cases he) (Dz c.s+1) (⟨⟨0,0,0⟩,0,⟨0,[],0,false,false,false⟩,⟨0,[],[],0,false⟩,0,0,⟨0,0,false,false,0,0⟩,0,0⟩,c,[]) (Nat.lt_succ_self _) ⟨Sent.refl c hc.snd,λg hg=>by cases hg⟩
 obtain⟨q,hq⟩:∃q,iO (λa=>(cp w a).nice) (Dz c.s+1) (⟨⟨0,0,0⟩,0,⟨0,[],0,false,false,false⟩,⟨0,[],[],0,false⟩,0,0,⟨0,0,false,false,0,0⟩,0,0⟩,c,[])=q:=⟨_,rfl⟩
 rw[hq]at key
 simp only[hq]
 obtain⟨q1,q2,q3⟩:=q
 simp only[]at key⊢
 cases(bif decide (0<(q3.length:Int))then((q2.timer==0),())else(false,())).1<;>exact key
theorem ic (n sz:Int)(h1:1≤sz)(h6:sz≤6)(h:aa.f (n,8*sz,())=true):((av.f (n,sz,())).length:Int)=sz:=by
 have hw:IntKind.wrap .i64 (8*sz)=8*sz:=aw (by omega) (by omega)
 simp only[PX,av,aG,fC,hw,h,decide_eq_true h1,decide_eq_true h6,Bool.and_self,Bool.not_true,cond_false]
 generalize Int.toNat (IntKind.wrap .i64 (sz-1)-0+1)=k
 generalize IntKind.wrap .i64 (sz-1)=i
 cases hf:a9 (λj a=>(gT j a).nice) (-1) k i (n,List.replicate sz.toNat 0)with
 |out e=>exact Empty.elim e
 |next a=>
  have:=BU (P:=λa:Int×List Int=>a.2.length=sz.toNat) (λi a a' ha h=>by
   simp only[PX,gT]at h
   cases h
   simpa using ha) _ _ _ _ (by simp) hf
  simp only[PX,Stp.elim,ny]
  omega
theorem Hb (n sz:Int)(h1:1≤sz)(h6:sz≤6)(h:aa.f (n,8*sz,())=false):av.f (n,sz,())=[]:=by
 have hw:IntKind.wrap .i64 (8*sz)=8*sz:=aw (by omega) (by omega)
 simp only[PX,av,aG,hw,h,decide_eq_true h1,decide_eq_true h6,Bool.and_self,Bool.not_true,Bool.not_false,cond_false,cond_true]
theorem sx (n sz:Int)(h1:1≤sz)(h6:sz≤6):(av.f (n,sz,())==[])= !aa.f (n,8*sz,()):=by
 rcases Bool.eq_false_or_eq_true (aa.f (n,8*sz,()))with h|h
 ·have:=ic n sz h1 h6 h
  rw[h]
  cases hp:av.f (n,sz,())with
  |nil=>rw[hp]at this;simp at this;omega
  |cons a r=>rfl
 ·rw[Hb n sz h1 h6 h,h];rfl
def ws:Bool→ah→Int
 |_,[]=>0
 |false,b::t=>256*(b.toNat:Int)+ws true t
 |true,b::t=>(b.toNat:Int)+ws false t
theorem PK (v:ah)(hv:v.length≤4294967296):∀(n j:Nat) (a:Int),j+n=v.length→0≤a→a≤65536*(j:Int)→a9 (λj a=>(fw v j a).nice) 1 n (j:Int) a= .next (a+ws (j%2==1) (v.drop j))
 |0,j,a,h,_,_=>by rw[List.drop_of_length_le (by omega)];simp[a9,ws]
 |n+1,j,a,h,h0,h1=>by
  have hj:j<v.length:=by omega
  have hb:=Fy v[j]
  rw[List.drop_eq_getElem_cons hj]
  have ht:(((j:Int).tmod 2)==0)= !(j%2==1):=by
   rw[Int.tmod_eq_emod_of_nonneg (by omega),Bool.eq_iff_iff]
   simp;omega
  have hnx:((j+1)%2==1)= !(j%2==1):=by
   rw[Bool.eq_iff_iff];simp;omega
  cases hp:(j%2==1)with
  |true=>
   have ih:=PK v hv n (j+1) (a+(v[j].toNat:Int)) (by omega) (by omega) (by omega)
   simp only[PX,fw]at ih
   simp only[a9,PX,fw,ht,hp,Z,pE _ _ hj,Bool.not_true,cond_false,Stp.elim,ws]
   rw[aw (m:=(v[j].toNat:Int)) (by omega) (by omega),aw (by omega) (by omega),show(j:Int)+1=((j+1:Nat):Int) by omega,ih,hnx,hp]
   simp only[Bool.not_true]
   congr 1;omega
  |false=>
   have ih:=PK v hv n (j+1) (a+256*(v[j].toNat:Int)) (by omega) (by omega) (by omega)
   simp only[PX,fw]at ih
   simp only[a9,PX,fw,ht,hp,Z,pE _ _ hj,Bool.not_false,cond_true,Stp.elim,ws]
   rw[aw (m:=(v[j].toNat:Int)) (by omega) (by omega),aw (m:=(v[j].toNat:Int)*256) (by omega) (by omega),aw (by omega) (by omega),show(j:Int)+1=((j+1:Nat):Int) by omega,show a+(v[j].toNat:Int)*256=a+256*(v[j].toNat:Int) by omega,ih,hnx,hp]
   simp only[Bool.not_false]
   congr 1;omega
theorem qM (v:ah)(hv:v.length≤4294967296):ne.f (v,())=ws false v:=by
 simp only[PX,ne,gL]
 have:=PK v hv v.length 0 0 (by omega) (by omega) (by omega)
 rw[ai,show(0:Int)=((0:Nat):Int) from rfl]
 rw[show(0:Int)=((0:Nat):Int) from rfl]at this
 rw[this]
 simp[Stp.elim]
theorem P5 (v:ah)(hv:v.length≤4294967296):∀(k j:Nat) (a:Int),k=(v.length-j+1)/2→0≤a→a≤65536*(j:Int)→a9 (λj a=>(fj v j a).nice) 2 k (j:Int) a= .next (a+ws false (v.drop j))
 |0,j,a,h,_,_=>by rw[List.drop_of_length_le (by omega)];simp[a9,ws]
 |k+1,j,a,h,h0,h1=>by
  have hj:j<v.length:=by omega
  have hb:=Fy v[j]
  rw[List.drop_eq_getElem_cons hj]
  by_cases h2:j+1<v.length
  ·have hb2:=Fy v[j+1]
   have ih:=P5 v hv k (j+2) (a+256*(v[j].toNat:Int)+(v[j+1].toNat:Int)) (by omega) (by omega) (by omega)
   rw[List.drop_eq_getElem_cons h2]
   simp only[PX,fj]at ih
   simp only[a9,PX,fj,Z,pE _ _ hj,Stp.elim,ws]
   rw[aw (m:=(j:Int)+1) (by omega) (by omega),decide_eq_true (show(j:Int)+1<(v.length:Int) by omega),cond_true,show((j:Int)+1).toNat=j+1 by omega,pE _ _ h2,aw (m:=(v[j].toNat:Int)) (by omega) (by omega),aw (m:=256*(v[j].toNat:Int)) (by omega) (by omega),aw (m:=a+256*(v[j].toNat:Int)) (by omega) (by omega),aw (m:=(v[j+1].toNat:Int)) (by omega) (by omega),aw (by omega) (by omega)]
   simp only[Stp.elim]
   rw[show(j:Int)+2=((j+2:Nat):Int) by omega,ih]
   congr 1
   have e:ws false (List.drop (j+1+1) v)=ws false (List.drop (j+2) v):=rfl
   omega
  ·have ih:=P5 v hv k (j+2) (a+256*(v[j].toNat:Int)) (by omega) (by omega) (by omega)
   rw[List.drop_of_length_le (show v.length≤j+1 by omega)]
   rw[List.drop_of_length_le (show v.length≤j+2 by omega)]at ih
   simp only[PX,fj]at ih
   simp only[a9,PX,fj,Z,pE _ _ hj,Stp.elim,ws]
   rw[aw (m:=(j:Int)+1) (by omega) (by omega),decide_eq_false (show¬(j:Int)+1<(v.length:Int) by omega),cond_false,aw (m:=(v[j].toNat:Int)) (by omega) (by omega),aw (m:=256*(v[j].toNat:Int)) (by omega) (by omega),aw (m:=a+256*(v[j].toNat:Int)) (by omega) (by omega)]
   simp only[Stp.elim]
   rw[show(j:Int)+2=((j+2:Nat):Int) by omega,ih]
   congr 1
   simp only[ws];omega
theorem FO (v:ah)(hv:v.length≤4294967296):um.f (v,())=ws false v:=by
 simp only[PX,um,cC]
 have:=P5 v hv ((v.length+1)/2) 0 0 (by omega) (by omega) (by omega)
 rw[show Int.toNat (((v.length:Int)-0+1)/2)=(v.length+1)/2 by omega,show(0:Int)=((0:Nat):Int) from rfl]
 rw[show(0:Int)=((0:Nat):Int) from rfl]at this
 rw[this]
 simp[Stp.elim]
theorem Nn (n:Int):wu.f (n,())=vO.f (n,()):=by
 have e:pf=pi:=by
  funext a
  unfold pf pi
  rw[show decide (65535<a)=decide (65536≤a) from decide_eq_decide.2 (by omega)]
 simp only[PX,wu,vO,lu,lv,e]
theorem Lf (v:ah)(hv:v.length≤4294967296):un.f (v,())=qr.f (v,()):=by
 simp only[PX,un,qr,FO v hv,qM v hv,Nn]
theorem FZ:∀(n:Nat) (a b:ah),a.length=2*n→ws false (a++b)=ws false a+ws false b
 |0,a,b,h=>by
  have e:a=[]:=List.eq_nil_of_length_eq_zero (by omega)
  subst e
  simp[ws]
 |n+1,[],b,h=>by simp at h
 |n+1,[x],b,h=>by simp at h;omega
 |n+1,x::y::a,b,h=>by
  have ih:=FZ n a b (by simp only[List.length_cons]at h;omega)
  simp only[List.cons_append,ws,ih];omega
theorem FY (a b n:Int):mK.f (a,b,n,())=ey.f (a,b,n,()):=by
 have h1:=sx a 4 (by omega) (by omega)
 have h2:=sx b 4 (by omega) (by omega)
 have h3:=sx n 2 (by omega) (by omega)
 rw[show(8:Int)*4=32 from rfl]at h1 h2
 rw[show(8:Int)*2=16 from rfl]at h3
 simp only[PX,mK,ey,pT,h1,h2,h3]
theorem QO:nu=ng:=rfl
theorem DM (o:Opti):lq.f (o,())=bN.f (o,()):=by
 simp only[PX,lq,bN,lF,pT,fT,f9,QO]
 rcases Bool.eq_false_or_eq_true (bf.f (o,()))with h|h
 case inr=>rw[h];rfl
 have hs:=zL o h
 have e:decide (0≤o.scale)=(o.scale != -1):=by
  rw[Bool.eq_iff_iff];simp;omega
 rw[h]
 cases h1:(o.mss != 0)<;>cases h2:(o.scale != -1)<;>cases h3:o.sack<;>cases h4:o.stamp<;>simp only[e,h2,h3,h4,Bool.not_true,cond_true,cond_false,List.nil_append,List.append_assoc]
theorem Py (o:Opti):(bN.f (o,())).length≤20:=(bN.c.h (o,()) trivial).2
theorem QR (a b n:Int):(ey.f (a,b,n,())).length≤20:=(ey.c.h (a,b,n,()) trivial).2
theorem CS (n sz:Int):((av.f (n,sz,())).length:Int)≤max sz 0:=(av.c.h (n,sz,()) trivial).2
theorem D5 (g:Segm)(a b:Int):lE.f (g,a,b,())=bO.f (g,a,b,()):=by
 simp only[PX,lE,bO,HF,DM,FY,pT]
 rcases Bool.eq_false_or_eq_true (bk.f (g,()))with h|h
 case inr=>rw[h,Bool.not_false,cond_true,cond_true]
 rw[h,Bool.not_true,cond_false,cond_false]
 have hb:=rU g h
 rw[Lf]
 have h1:=Py g.opts
 generalize IntKind.wrap .i64 ((IntKind.wrap .i64 (20+((bN.f (g.opts,())).length:Int)))+(g.body.length:Int))=n
 have h2:=QR a b n
 have h3:=CS g.from_ 2
 have h4:=CS g.to 2
 have h5:=CS g.seq 4
 have h6:=CS g.ack 4
 have h7:=CS (IntKind.wrap .i64 ((IntKind.wrap .i64 ((IntKind.wrap .i64 (20+((bN.f (g.opts,())).length:Int))).tdiv 4))*16)) 1
 have h8:=CS g.flags 1
 have h9:=CS g.window 2
 simp only[List.length_append,List.length_cons,List.length_nil]
 omega
theorem Mx (f:Fram):tV.f (f,())=tE.f (f,()):=by
 simp only[PX,tV,tE,eA,dr,aG]
theorem GR (f:Fram):oI.f (f,())=oX.f (f,()):=by
 simp only[PX,oI,oX,Mx,pT]
theorem Ji (p:Pack):pY.f (p,())=jv.f (p,()):=by
 simp only[PX,pY,jv,eA,dr,aG]
theorem C4 (p:Pack)(h:jv.f (p,())=true):aa.f (p.src,32,())=true∧aa.f (p.dst,32,())=true∧1≤p.ttl∧p.ttl≤255∧aa.f (p.proto,8,())=true∧aa.f (p.id,16,())=true∧p.body.length≤1480:=by
 simp only[PX,jv,aG]at h
 revert h
 cases aa.f (p.src,32,())<;>cases aa.f (p.dst,32,())<;>cases aa.f (p.proto,8,())<;>cases aa.f (p.id,16,())<;>simp<;>omega
theorem Gf (p:Pack):m6.f (p,())=mF.f (p,()):=by
 simp only[PX,m6,mF,Ji,pT]
 rcases Bool.eq_false_or_eq_true (jv.f (p,()))with h|h
 case inr=>rw[h,Bool.not_false,cond_true,cond_true]
 obtain⟨hs,hd,t1,t2,hp,hi,hb⟩:=C4 p h
 rw[h,Bool.not_true,cond_false,cond_false]
 have w:IntKind.wrap .i64 (20+(p.body.length:Int))=20+(p.body.length:Int):=aw (by omega) (by omega)
 rw[w]
 have n1:aa.f (20+(p.body.length:Int),8*2,())=true:=by
  rw[show(8:Int)*2=16 from rfl,oi]
  simp;omega
 have l1:=ic (20+(p.body.length:Int)) 2 (by omega) (by omega) n1
 have l2:=ic p.id 2 (by omega) (by omega) hi
 have l3:=ic p.ttl 1 (by omega) (by omega) (by rw[show(8:Int)*1=8 from rfl,Jz];simp;omega)
 have l4:=ic p.proto 1 (by omega) (by omega) hp
 have l5:=ic p.src 4 (by omega) (by omega) hs
 have l6:=ic p.dst 4 (by omega) (by omega) hd
 generalize av.f (20+(p.body.length:Int),2,())=a at*
 generalize av.f (p.id,2,())=b at*
 generalize av.f (p.ttl,1,())=c at*
 generalize av.f (p.proto,1,())=d at*
 generalize av.f (p.src,4,())=e at*
 generalize av.f (p.dst,4,())=f at*
 have key:un.f ((((([69,0]++a)++b)++[0,0])++c++d)++(e++f),())=qr.f ((((((([69,0]++a)++b)++[0,0])++c)++d)++[0,0])++(e++f),()):=by
  rw[Lf]
  ·have e1:ne.f ((((([69,0]++a)++b)++[0,0])++c++d)++(e++f),())=ne.f ((((((([69,0]++a)++b)++[0,0])++c)++d)++[0,0])++(e++f),()):=by
    rw[qM,qM,FZ 5 (((([69,0]++a)++b)++[0,0])++c++d),FZ 6 ((((([69,0]++a)++b)++[0,0])++c++d)++[0,0]),FZ 5 (((([69,0]++a)++b)++[0,0])++c++d)]
    ·simp[ws]
    all_goals simp only[List.length_append,List.length_cons,List.length_nil];omega
   simp only[PX,qr,e1]
  ·simp only[List.length_append,List.length_cons,List.length_nil];omega
 rw[key]
def Pj (v:List Entr)(ip:Int):Int×Bool:=match v.findIdx? (λe=>e.ip==ip)with
 |some i=>(match v[i]? with|some x=>(x.hw,true)|none=>(0,false))
 |none=>(0,false)
theorem uc (v:List Entr)(ip:Int):vv.f (v,ip,())=Pj v ip:=by
 simp only[PX,vv,ol]
 rw[ai,bi v _ rfl (F:=λj x _=>bif x.ip==ip then .out x.hw else .next ()) (λj x a h=>by
  simp only[PX,yO,Z,getD_some h]),ju (p:=λe:Entr=>e.ip==ip) (w:=λ_ x=>x.hw)]
 unfold Pj
 cases v.findIdx? (λe=>e.ip==ip)with
 |none=>rfl
 |some i=>cases h:v[i]? <;>simp only[h]<;>rfl
theorem Cr (v:List Entr)(ip:Int):xf.f (v,ip,())=iW (λe=>e.ip==ip) v:=by
 simp only[PX,xf,mG]
 rw[iI (λe:Entr=>e.ip==ip) v (λj x a h=>by simp only[PX,vW,Z,getD_some h])]
 unfold iW
 cases v.findIdx? (λe=>e.ip==ip)<;>rfl
theorem Qo (v:List Entr)(ip:Int):Gv.f (v,ip,())=vv.f (v,ip,()):=by
 simp only[PX,Gv,Cr,uc]
 unfold Pj iW
 cases hf:v.findIdx? (λe=>e.ip==ip)with
 |none=>rfl
 |some i=>
  obtain⟨h1,_,_⟩:=List.findIdx?_eq_some_iff_getElem.1 hf
  have h2:v[i]? =some v[i]:=List.getElem?_eq_getElem h1
  simp only[h2,Z,getD_some h2,decide_eq_false (show¬(i:Int)<0 by omega),cond_false]
theorem NU (v:List Entr)(ip:Int):(Pj v ip).2=v.any (λe=>e.ip==ip):=by
 have:=oy (λe:Entr=>e.ip==ip) v
 rw[←this]
 unfold Pj iW
 cases hf:v.findIdx? (λe=>e.ip==ip)with
 |none=>rfl
 |some i=>
  obtain⟨h1,_,_⟩:=List.findIdx?_eq_some_iff_getElem.1 hf
  have h2:v[i]? =some v[i]:=List.getElem?_eq_getElem h1
  simp only[h2,decide_eq_true (show(0:Int)≤(i:Int) by omega)]
theorem N1 (xs:List Entr):(∀(j:Nat) (y:Entr),xs[j]? =some y→(xs.take j).any (λh=>h.ip==y.ip)=false)↔(xs.map Entr.ip).Nodup:=by
 unfold List.Nodup
 rw[List.pairwise_iff_getElem]
 constructor
 ·intro h i j hi hj hij he
  rw[List.length_map]at hi hj
  simp only[List.getElem_map]at he
  have:=h j xs[j] (List.getElem?_eq_getElem hj)
  rw[List.any_eq_false]at this
  refine this xs[i] ?_ (by rw[he,beq_self_eq_true])
  rw[List.mem_take_iff_getElem]
  exact⟨i,by omega,rfl⟩
 ·intro h j y hy
  rw[List.any_eq_false]
  intro z hz he
  rw[List.mem_take_iff_getElem]at hz
  obtain⟨i,hi,rfl⟩:=hz
  obtain⟨hj,rfl⟩:=List.getElem?_eq_some_iff.1 hy
  have:=h i j (by rw[List.length_map];omega) (by rw[List.length_map];exact hj) (by omega)
  simp only[List.getElem_map]at this
  exact this (beq_iff_eq.1 he)
def yH (e:Entr):Bool:=aa.f (e.ip,32,())&&(aa.f (e.hw,48,())&&(decide (0≤e.age)&&decide (e.age≤9)))
structure EO (v:List Entr):Prop where
 ok:∀e∈v,yH e=true
 nd:(v.map Entr.ip).Nodup
 len:v.length≤4
theorem HI (v:List Entr):li.f (v,())=true↔EO v:=by
 have f1:=B4 v (f:=λj a=>(de v v j a).nice) (P:=λj y=>yH y=true∧(v.take j).any (λh=>h.ip==y.ip)=false) (λj y hy=>by
  simp only[PX,de,Z,getD_some hy,uc,NU,List.drop_zero,aG,yH]
  cases aa.f (y.ip,32,())<;>cases aa.f (y.hw,48,())<;>cases(decide (0≤y.age)&&decide (y.age≤9))<;>cases(v.take j).any (λh=>h.ip==y.ip)<;>simp)
 have f3:=N1 v
 have f5:a9 (λj a=>(de v v j a).nice) 1 (Int.toNat ((v.length:Int)-0)) 0 ()= .next ()↔(∀e∈v,yH e=true)∧(v.map Entr.ip).Nodup:=by
  rw[f1,←f3,←pZ]
  exact⟨λh=>⟨λj y hy=>(h j y hy).1,λj y hy=>(h j y hy).2⟩,λh j y hy=>⟨h.1 j y hy,h.2 j y hy⟩⟩
 have e:li.f (v,())=true↔v.length≤4∧a9 (λj a=>(de v v j a).nice) 1 (Int.toNat ((v.length:Int)-0)) 0 ()= .next ():=by
  simp only[PX,li,gV]
  rw[show v.length≤4↔decide (4<(v.length:Int))=false by simp;omega]
  cases decide (4<(v.length:Int))<;>cases a9 (λj a=>(de v v j a).nice) 1 (Int.toNat ((v.length:Int)-0)) 0 ()<;>simp[Stp.elim]
 rw[e,f5]
 constructor
 ·rintro⟨h1,h2,h3⟩;exact⟨h2,h3,h1⟩
 ·rintro⟨h2,h3,h1⟩;exact⟨h1,h2,h3⟩
theorem L7 (v:List Entr):tU.f (v,())=li.f (v,()):=by
 simp only[PX,tU,li,ko,gV]
 have h1:=uh v (f:=λj a=>(nQ v j a).nice) (g:=λj a=>(de v v j a).nice) (k:=Int.toNat ((v.length:Int)-0)) (ai _) (λj y hy=>by
  simp only[PX,nQ,de,Z,getD_some hy,eA,dr,aG,Cr,uc,NU,List.drop_zero,oy]
  cases aa.f (y.ip,32,())<;>cases aa.f (y.hw,48,())<;>cases(decide (0≤y.age)&&decide (y.age≤9))<;>cases(v.take j).any (λh=>h.ip==y.ip)<;>simp)
 rw[show decide ((v.length:Int)≤4)= !decide (4<(v.length:Int)) by rw[Bool.eq_iff_iff];simp]
 rcases h1 with⟨a,b,h5,h6⟩|⟨h5,h6⟩
 ·rw[h5,h6]
  cases decide (4<(v.length:Int))<;>rfl
 ·rw[h5,h6]
  cases decide (4<(v.length:Int))<;>rfl
theorem HH (l:Link):sU.f (l,())=gh.f (l,()):=by
 simp only[PX,sU,gh,eA,L7]
theorem nM (l:Link):gh.f (l,())=true↔((0≤l.mac∧l.mac≤281474976710655)∧l.mac≠281474976710655∧(0≤l.ip∧l.ip≤4294967295)∧EO l.cache):=by
 rw[←HI]
 simp only[PX,gh,IU,gP]
 rw[show(l.mac≠281474976710655)↔(l.mac != 281474976710655)=true by simp,show(0≤l.mac∧l.mac≤281474976710655)↔(decide (0≤l.mac)&&decide (l.mac≤281474976710655))=true by simp,show(0≤l.ip∧l.ip≤4294967295)↔(decide (0≤l.ip)&&decide (l.ip≤4294967295))=true by simp]
 cases(decide (0≤l.mac)&&decide (l.mac≤281474976710655))<;>cases(l.mac != 281474976710655)<;>cases(decide (0≤l.ip)&&decide (l.ip≤4294967295))<;>simp
theorem Ms (l:Link)(ip:Int)(b:ah):uq.f (l,ip,b,())=gi.f (l,ip,b,()):=by
 simp only[PX,uq,gi,Qo,HH,Gf,GR]
 cases gh.f (l,())<;>cases(vv.f (l.cache,ip,())).2<;>simp only[Bool.not_true,Bool.not_false,cond_true,cond_false]
theorem tR {T U W:Type}(xs:List T)(F:T→List U){f:Int→List U→Stp (List U) W}(h:∀(j:Nat) x a,xs[j]? =some x→f (j:Int) a= .next (a++F x)):a9 f 1 (Int.toNat ((xs.length:Int)-0)) 0 []= .next (xs.flatMap F):=by
 rw[ai,bi xs _ rfl (F:=λ_ x a=> .next (a++F x)) h]
 have key:∀(r:List T) (j:Nat) (a:List U),cT (W:=W) (λ_ x a=> .next (a++F x)) j r a= .next (a++r.flatMap F):=by
  intro r
  induction r with
  |nil=>intro j a;simp[cT]
  |cons x r ih=>
   intro j a
   have:=ih (j+1) (a++F x)
   rw[List.flatMap_cons,←List.append_assoc,←this]
   rfl
 rw[key];simp
theorem A7 {S T U W:Type}(xs:List T)(F:T→List U){f:Int→S×List U→Stp (S×List U) W}(h:∀(j:Nat) x a,xs[j]? =some x→∃s,f (j:Int) a= .next (s,a.2++F x))(s0:S):∃s,a9 f 1 (Int.toNat ((xs.length:Int)-0)) 0 (s0,[])= .next (s,xs.flatMap F):=by
 rw[ai]
 have key:∀(n j:Nat) (s:S) (l:List U),j+n=xs.length→∃s2,a9 f 1 n (j:Int) (s,l)= .next (s2,l++(xs.drop j).flatMap F):=by
  intro n
  induction n with
  |zero=>intro j s l e;exact⟨s,by rw[List.drop_of_length_le (by omega)];simp[a9]⟩
  |succ n ih=>
   intro j s l e
   have hj:j<xs.length:=by omega
   obtain⟨s1,e1⟩:=h j xs[j] (s,l) (List.getElem?_eq_getElem hj)
   obtain⟨s2,e2⟩:=ih (j+1) s1 (l++F xs[j]) (by omega)
   refine⟨s2, ?_⟩
   simp only[a9,e1,Stp.elim]
   rw[show(j:Int)+1=((j+1:Nat):Int) by omega,e2,List.drop_eq_getElem_cons hj]
   simp only[List.flatMap_cons,List.append_assoc]
 obtain⟨s,e⟩:=key xs.length 0 s0 [] (by omega)
 exact⟨s,by simpa using e⟩
def xc (l:Link)(ip:Int)(g:Segm):List ah:=bif bO.f (g,l.ip,ip,())==[]then[]else bif (gi.f (l,ip,bO.f (g,l.ip,ip,()),())).2 then[(gi.f (l,ip,bO.f (g,l.ip,ip,()),())).1]else[]
theorem E5 (s:Stac)(ip:Int)(xs:List Segm):ue.f (s,ip,xs,())=xs.flatMap (xc s.link ip):=by
 simp only[PX,ue,gS]
 rw[tR xs (xc s.link ip) (λj x a h=>by
  simp only[PX,r9,Z,getD_some h,xc]
  cases(bO.f (x,s.link.ip,ip,())==[])<;>cases(gi.f (s.link,ip,bO.f (x,s.link.ip,ip,()),())).2<;>simp)]
 rfl
theorem DA (a b n:Int)(ha:aa.f (a,32,())=true)(hb:aa.f (b,32,())=true)(hn:aa.f (n,16,())=true):(ey.f (a,b,n,())==[])=false:=by
 simp only[PX,ey,ha,hb,hn,Bool.not_true,cond_false]
 simp
theorem CP (g:Segm)(a b:Int)(hg:bk.f (g,())=true)(ha:aa.f (a,32,())=true)(hb:aa.f (b,32,())=true):(bO.f (g,a,b,())==[])=false:=by
 have h1:=Py g.opts
 have h2:=rU g hg
 have w1:IntKind.wrap .i64 (20+((bN.f (g.opts,())).length:Int))=20+((bN.f (g.opts,())).length:Int):=aw (by omega) (by omega)
 have w2:IntKind.wrap .i64 (20+((bN.f (g.opts,())).length:Int)+(g.body.length:Int))=20+((bN.f (g.opts,())).length:Int)+(g.body.length:Int):=aw (by omega) (by omega)
 have hp:=DA a b (20+((bN.f (g.opts,())).length:Int)+(g.body.length:Int)) ha hb (by rw[oi];simp;omega)
 simp only[PX,bO,hg,w1,w2,Bool.not_true,cond_false]
 rw[hp,cond_false]
 simp
theorem Pc (v:List Entr)(ip:Int)(h:(Pj v ip).2=true):∃e∈v,e.ip=ip:=by
 rw[NU,List.any_eq_true]at h
 obtain⟨e,h1,h2⟩:=h
 exact⟨e,h1,by simpa using h2⟩
theorem Dp (l:Link)(ip:Int)(b:ah)(h:(gi.f (l,ip,b,())).2=true):gh.f (l,())=true∧(Pj l.cache ip).2=true:=by
 simp only[PX,gi,uc]at h
 revert h
 cases gh.f (l,())<;>cases(Pj l.cache ip).2<;>simp
theorem Fj (s:Stac)(ip:Int)(xs:List Segm)(hx:∀g∈xs,bk.f (g,())=true):tP.f (s,ip,xs,())=xs.flatMap (xc s.link ip):=by
 simp only[PX,tP,gX]
 rw[tR xs (xc s.link ip) (λj x a h=>by
  simp only[PX,th,Z,getD_some h,xc,D5,Ms]
  cases hk:(gi.f (s.link,ip,bO.f (x,s.link.ip,ip,()),())).2 with
  |false=>cases(bO.f (x,s.link.ip,ip,())==[])<;>simp
  |true=>
   obtain⟨h1,h2⟩:=Dp _ _ _ hk
   obtain⟨_,_,h3,h4⟩:=(nM _).1 h1
   obtain⟨e,he,rfl⟩:=Pc _ _ h2
   have h5:=h4.ok e he
   unfold yH at h5
   rw[Bool.and_eq_true]at h5
   rw[CP x s.link.ip e.ip (hx x (mf h)) (by rw[gP];simp[h3]) h5.1]
   rfl)]
 rfl
def Cf (v:List Entr):List Entr:=v.flatMap λe=>bif decide (e.age<9)then[({e with age:=e.age+1}:Entr)]else[]
theorem xJ {e:Entr}(h:yH e=true):0≤e.age∧e.age≤9:=by
 unfold yH at h
 simp only[Bool.and_eq_true,decide_eq_true_eq]at h
 exact h.2.2
theorem LG (v:List Entr)(h:EO v):F9.f (v,())=Cf v:=by
 simp only[PX,F9,lI]
 rw[tR v (λe:Entr=>bif decide (e.age<9)then[({e with age:=e.age+1}:Entr)]else[]) (λj x a hx=>by
  have ha:=xJ (h.ok x (mf hx))
  simp only[PX,yS,Z,getD_some hx]
  rw[aw (m:=x.age+1) (by omega) (by omega),show decide (x.age+1≤9)=decide (x.age<9) from decide_eq_decide.2 (by omega)]
  cases decide (x.age<9)<;>simp)]
 rfl
theorem Lj (v:List Entr)(h:EO v):Gg.f (v,())=Cf v:=by
 simp only[PX,Gg,lN]
 rw[tR v (λe:Entr=>bif decide (e.age<9)then[({e with age:=e.age+1}:Entr)]else[]) (λj x a hx=>by
  have ha:=xJ (h.ok x (mf hx))
  simp only[PX,yD,Z,getD_some hx]
  rw[aw (m:=x.age+1) (by omega) (by omega)]
  cases decide (x.age<9)<;>simp)]
 rfl
theorem EF:∀v:List Entr,((Cf v).map Entr.ip).Sublist (v.map Entr.ip)
 |[]=> .slnil
 |x::r=>by
  have ih:=EF r
  unfold Cf at ih⊢
  rw[List.flatMap_cons]
  cases decide (x.age<9)with
  |true=>exact .cons₂ _ ih
  |false=>exact .cons _ ih
theorem On (v:List Entr)(h:EO v):EO (Cf v):=by
 have hs:=EF v
 refine⟨?_,List.Nodup.sublist hs h.nd, ?_⟩
 ·intro e he
  unfold Cf at he
  rw[List.mem_flatMap]at he
  obtain⟨x,hx,hy⟩:=he
  have h1:=h.ok x hx
  have h2:=xJ h1
  cases hd:decide (x.age<9)with
  |false=>rw[hd]at hy;cases hy
  |true=>
   rw[hd]at hy
   have h3:=of_decide_eq_true hd
   rw[List.mem_singleton.1 hy]
   unfold yH at h1⊢
   simp only[Bool.and_eq_true,decide_eq_true_eq]at h1⊢
   exact⟨h1.1,h1.2.1,by omega,by omega⟩
 ·have:=hs.length_le
  rw[List.length_map,List.length_map]at this
  have:=h.len
  omega
theorem OW (c:Conn)(h:CO c)(hs:kg c.r.held):∀g∈(TC c).2,bk.f (g,())=true:=by
 have r0:=h.r0
 have r3:=h.r3
 unfold TC
 by_cases hw:j4.f (c,())=true
 ·rw[if_pos hw]
  by_cases c1:0<iL c-1
  ·rw[if_pos c1];intro g hg;cases hg
  ·rw[if_neg c1]
   by_cases c2:c.state=7
   ·rw[if_pos c2];intro g hg;cases hg
   ·rw[if_neg c2]
    by_cases c3:c.tries=3
    ·rw[if_pos c3]
     intro g hg
     rw[List.mem_singleton.1 hg]
     have h1:=(md _).1 (NT c h hs)
     have hfl:(cN.f (c,())).flags=16:=by simp only[PX,cN]
     rw[md]
     simp only[hfl]
     obtain⟨a,b,s,k,f,w,o,bd⟩:=h1
     exact⟨a,b,s,k,by decide+kernel,w,o,bd⟩
    ·rw[if_neg c3]
     refine LJ _ _ ?_ hs
     rw[AP c.s h.snd]
     exact⟨h.tup,Np h.snd,h.rcv,h.opt,h.s1,h.s8,h.m0,h.m1,h.w0,h.w1,Int.le_refl _,by show(0:Int)≤4;omega,λ_=>by show(0:Int)≤3;omega,by show 0≤c.tries+1;omega,by show c.tries+1≤3;omega,h.fl⟩
 ·rw[if_neg hw,if_pos ((Bk c).2 h)]
  intro g hg;cases hg
theorem xu (s:Stac):mD.f (s,())=s:=by simp only[PX,mD,s9,lB,sr]
theorem EJ (s:Stac):t5.f (s,())=s:=by simp only[PX,t5,yh,EK,List.nil_append]
theorem Ev (s:Stac)(hs:yo s.door):tK.f (s,())=eh.f (s,()):=by simp only[PX,tK,eh,HH,Hc s.door hs]
theorem lQ (s:Stac):eh.f (s,())=true↔gh.f (s.link,())=true∧dL.f (s.door,())=true:=by
 simp only[PX,eh]
 cases gh.f (s.link,())<;>simp
def Im (s:Stac):Stac×List ah:=(⟨⟨s.link.mac,s.link.ip,Cf s.link.cache⟩,{s.door with clock:=fc.f (s.door.clock,1,()),chal:=0,halves:=kV s.door.halves,table:=pa ⟨bT s.door.table.conns,s.door.table.waiting⟩}⟩,s.door.table.conns.flatMap (λc=>(TC c).2.flatMap (xc s.link c.tuple.ip)))
theorem Bf (s:Stac)(h:eh.f (s,())=true):cc.f (s,())=Im s:=by
 obtain⟨hl,hd⟩:=(lQ s).1 h
 have hE:=((nM _).1 hl).2.2.2
 have hD:=(xX _).1 hd
 have t:=hD.tab
 have a2:=t.lim.w2
 have a3:=t.lim.c2
 have a4:=t.nc
 have a5:=t.nw
 have hT:=uL s.door (λy hy=>(qL (hD.hal.ok y hy)).2) (λy hy=>(qL (hD.hal.ok y hy)).1) (by omega) (by omega) hd
 simp only[PX,cc,xu,h,LG _ hE,hT,Bool.not_true,cond_false,fB]
 obtain⟨z,e⟩:=A7 (A1 s.door.table.conns) (λm=>xc s.link m.ip m.g) (f:=λj a=>(k7 s (A1 s.door.table.conns) j a).nice) (λj x a hx=>by
  simp only[PX,k7,Z,getD_some hx,E5,List.flatMap_cons,List.flatMap_nil,List.append_nil]
  exact⟨_,rfl⟩) (⟨⟨0,0,[]⟩,⟨0,0,⟨0,⟨false,0,0,[]⟩,⟨false,0,0,[]⟩,false⟩,⟨0,0,0,0⟩,[],⟨[],[]⟩,0⟩⟩:Stac)
 refine(congrArg (Stp.elim _ _) e).trans ?_
 simp only[Stp.elim,Im]
 congr 1
 unfold A1
 rw[List.flatMap_assoc]
 congr 1
 funext c
 rw[List.flatMap_map]
theorem B5 (s:Stac)(h:eh.f (s,())=true)(hs:yo s.door):gJ.f (s,())=Im s:=by
 obtain⟨hl,hd⟩:=(lQ s).1 h
 have hE:=((nM _).1 hl).2.2.2
 have hD:=(xX _).1 hd
 have t:=hD.tab
 have c0:=hD.c0
 have c1:=hD.c1
 have hT:=pc s.door hs
 rw[hd,cond_true,xE,aw (by omega) (by omega),←lg]at hT
 simp only[PX,gJ,EJ,Ev s hs,h,Lj _ hE,hT,Bool.not_true,cond_false,fA]
 obtain⟨z,e⟩:=A7 s.door.table.conns (λc=>(TC c).2.flatMap (xc s.link c.tuple.ip)) (f:=λj a=>(k9 s j a).nice) (λj x a hx=>by
  have hc:=t.co x (mf hx)
  simp only[PX,k9,Z,getD_some hx,uJ x (hs x (mf hx)),Fj s x.tuple.ip (TC x).2 (OW x hc (hs x (mf hx)))]
  exact⟨_,rfl⟩) (⟨⟨0,0,[]⟩,⟨0,0,⟨0,⟨false,0,0,[]⟩,⟨false,0,0,[]⟩,false⟩,⟨0,0,0,0⟩,[],⟨[],[]⟩,0⟩⟩:Stac)
 refine(congrArg (Stp.elim _ _) e).trans ?_
 simp only[Stp.elim,Im]
theorem FU (s:Stac)(h:eh.f (s,())=true):eh.f ((Im s).1,())=true:=by
 obtain⟨hl,hd⟩:=(lQ s).1 h
 obtain⟨h1,h2,h3,hE⟩:=(nM _).1 hl
 exact(lQ _).2 ⟨(nM _).2 ⟨h1,h2,h3,On _ hE⟩,(xX _).2 (OO _ ((xX _).1 hd))⟩
theorem Fc (x:Tupl):nf.f (x,x,())=true:=by simp only[PX,nf,bne_self_eq_false,cond_false]
theorem xG (x:Opti):jM.f (x,x,())=true:=by simp only[PX,jM,bne_self_eq_false,beq_self_eq_true,Bool.not_true,cond_false]
theorem N7 (x:Sndr):qI.f (x,x,())=true:=by simp only[PX,qI,bne_self_eq_false,beq_self_eq_true,Bool.not_true,cond_false]
theorem O4 (x:Entr):ud.f (x,x,())=true:=by simp only[PX,ud,bne_self_eq_false,cond_false]
theorem Nh (x:MacRow):qv.f (x,x,())=true:=by simp only[PX,qv,bne_self_eq_false,beq_self_eq_true,Bool.not_true,cond_false]
theorem Om (x:Piec):tJ.f (x,x,())=true:=by simp only[PX,tJ,bne_self_eq_false,beq_self_eq_true,Bool.not_true,cond_false]
theorem Qk (x:Half):xl.f (x,x,())=true:=by simp only[PX,xl,Fc,xG,bne_self_eq_false,Bool.not_true,cond_false]
theorem Oe (x:Limi):qG.f (x,x,())=true:=by simp only[PX,qG,bne_self_eq_false,cond_false]
theorem Nq (x:List Tupl):qm.f (x,x,())=true:=by
 simp only[PX,qm,jh,bne_self_eq_false,cond_false]
 rw[iA _ _ λj=>by simp only[PX,qX,Fc,Bool.not_true,cond_false]]
 rfl
theorem MW (x:List Entr):qD.f (x,x,())=true:=by
 simp only[PX,qD,ja,bne_self_eq_false,cond_false]
 rw[iA _ _ λj=>by simp only[PX,rk,O4,Bool.not_true,cond_false]]
 rfl
theorem LT (x:List MacRow):oW.f (x,x,())=true:=by
 simp only[PX,oW,iz,bne_self_eq_false,cond_false]
 rw[iA _ _ λj=>by simp only[PX,pC,Nh,Bool.not_true,cond_false]]
 rfl
theorem NW (x:List Piec):p8.f (x,x,())=true:=by
 simp only[PX,p8,i4,bne_self_eq_false,cond_false]
 rw[iA _ _ λj=>by simp only[PX,rC,Om,Bool.not_true,cond_false]]
 rfl
theorem OY (x:List Half):ua.f (x,x,())=true:=by
 simp only[PX,ua,kw,bne_self_eq_false,cond_false]
 rw[iA _ _ λj=>by simp only[PX,ta,Qk,Bool.not_true,cond_false]]
 rfl
theorem JG (x:Recv):mV.f (x,x,())=true:=by simp only[PX,mV,NW,bne_self_eq_false,beq_self_eq_true,Bool.not_true,cond_false]
theorem Qr (x:Conn):wz.f (x,x,())=true:=by simp only[PX,wz,Fc,N7,JG,xG,bne_self_eq_false,Bool.not_true,cond_false]
theorem Ph (x:List Conn):tG.f (x,x,())=true:=by
 simp only[PX,tG,kH,bne_self_eq_false,cond_false]
 rw[iA _ _ λj=>by simp only[PX,sI,Qr,Bool.not_true,cond_false]]
 rfl
theorem QL (x:Mac):wK.f (x,x,())=true:=by simp only[PX,wK,LT,bne_self_eq_false,beq_self_eq_true,Bool.not_true,cond_false]
theorem PZ (x:Keys):wq.f (x,x,())=true:=by simp only[PX,wq,QL,bne_self_eq_false,beq_self_eq_true,Bool.not_true,cond_false]
theorem Pb (x:Tabl):tL.f (x,x,())=true:=by simp only[PX,tL,Ph,Nq,Bool.not_true,cond_false]
theorem KH (x:Door):lP.f (x,x,())=true:=by simp only[PX,lP,PZ,Oe,OY,Pb,bne_self_eq_false,Bool.not_true,cond_false]
theorem Qe (x:Link):xb.f (x,x,())=true:=by simp only[PX,xb,MW,bne_self_eq_false,Bool.not_true,cond_false]
theorem Lg (x:Stac):kY.f (x,x,())=true:=by simp only[PX,kY,Qe,KH,Bool.not_true,cond_false]
theorem LN (x:Limi):qu.f (x,())=x:=by simp only[PX,qu]
theorem Kx (x:List MacRow):oM.f (x,())=x:=by
 simp only[PX,oM,fD,ai,Z]
 rw[bi x _ rfl (F:=λj y a=> .next (a.set j y)) (λj y a h=>by simp only[PX,pK,vj,Z,getD_some h])]
 have:=jC (W:=Empty) (λy:MacRow=>y) x 0 (List.replicate x.length (⟨[],0⟩:MacRow)) (by simp)
 rw[this]
 simp[Stp.elim]
theorem Qb (x:Mac):w7.f (x,())=x:=by simp only[PX,w7,Kx]
def iY:Int→List MacRow→List MacRow
 |_,[]=>[]
 |k,_::r=>⟨a8.f (k,()),k+1⟩::iY (k+2) r
theorem Ei:∀(k:Int) (xs:List MacRow),(iY k xs).length=xs.length
 |_,[]=>rfl
 |k,_::r=>by simp[iY,Ei (k+2) r]
theorem EM:∀(r A:List MacRow) (k:Int),0≤k→k+2*(r.length:Int)≤4611686018427387904→a9 (λj a=>(fU j a).nice) 1 r.length (A.length:Int) (k,A++r)= .next (k+2*(r.length:Int),A++iY k r)
 |[],A,k,_,_=>by simp[a9,iY]
 |x::r,A,k,h0,h1=>by
  simp only[List.length_cons]at h1
  have w1:IntKind.wrap .i64 (k+1)=k+1:=aw (by omega) (by omega)
  have w2:IntKind.wrap .i64 (k+1+1)=k+2:=by rw[aw (by omega) (by omega)];omega
  have ih:=EM r (A++[⟨a8.f (k,()),k+1⟩]) (k+2) (by omega) (by omega)
  simp only[PX,fU]at ih
  simp only[List.length_cons,a9,PX,fU,Z,Stp.elim,w1,w2]
  have e1:∀y z:MacRow,(A++y::r).set A.length z=A++z::r:=λy z=>by
   rw[List.set_append_right _ _ (Nat.le_refl _)];simp
  have e2:∀y:MacRow,(A++y::r).getD A.length (Ty.zero .macRow)=y:=λy=>getD_some (by simp)
  simp only[e1,e2]
  have e3:A++(⟨a8.f (k,()),k+1⟩:MacRow)::r=(A++[⟨a8.f (k,()),k+1⟩])++r:=by simp
  rw[e3,show(A.length:Int)+1=((A++[(⟨a8.f (k,()),k+1⟩:MacRow)]).length:Int) by simp,ih]
  simp only[iY,List.append_assoc,List.cons_append,List.nil_append]
  congr 2;omega
theorem Ew (xs:List MacRow)(k:Int)(h0:0≤k)(h1:k+2*(xs.length:Int)≤4611686018427387904):lk.f (xs,k,())=(k+2*(xs.length:Int),iY k xs):=by
 have:=EM xs [] k h0 h1
 rw[List.nil_append,List.nil_append]at this
 simp only[PX,lk,be,ai]
 refine(congrArg (Stp.elim _ _) this).trans ?_
 simp only[Stp.elim]
theorem Ee (v:List MacRow):∀(r:List MacRow) (j:Nat) (k:Int),0≤k→k+2*(r.length:Int)≤4611686018427387904→v.drop j=iY k r→a9 (λj a=>(fO v j a).nice) 1 r.length (j:Int) k= .next (k+2*(r.length:Int))
 |[],_,k,_,_,_=>by simp[a9]
 |x::r,j,k,h0,h1,h2=>by
  simp only[List.length_cons]at h1
  have w1:IntKind.wrap .i64 (k+1)=k+1:=aw (by omega) (by omega)
  have w2:IntKind.wrap .i64 (k+1+1)=k+2:=by rw[aw (by omega) (by omega)];omega
  have hg:v[j]? =some ⟨a8.f (k,()),k+1⟩:=by
   have:=congrArg (λl=>l[0]?) h2
   simpa [iY]using this
  have h3:v.drop (j+1)=iY (k+2) r:=by
   have:=congrArg (List.drop 1) h2
   simpa [iY,List.drop_drop]using this
  have ih:=Ee v r (j+1) (k+2) (by omega) (by omega) h3
  simp only[PX,fO]at ih
  simp only[List.length_cons,a9,PX,fO,Z,getD_some hg,w1,w2,beq_self_eq_true,bne_self_eq_false,Bool.not_true,cond_false,Stp.elim]
  rw[show(j:Int)+1=((j+1:Nat):Int) by omega,ih]
  congr 1;omega
theorem Eb (xs:List MacRow)(k:Int)(h0:0≤k)(h1:k+2*(xs.length:Int)≤4611686018427387904):lx.f (iY k xs,k,())=k+2*(xs.length:Int):=by
 have:=Ee (iY k xs) xs 0 k h0 h1 rfl
 simp only[PX,lx,f7,ai,Ei]
 refine(congrArg (Stp.elim _ _) this).trans ?_
 simp only[Stp.elim]
def Pu (t:Tabl):Tabl×Tupl×Bool:=match t.waiting with|[]=>(t,⟨0,0,0⟩,false)|w::r=>(⟨t.conns,r⟩,w,true)
theorem TO.take {t:Tabl}{l:Limi}(h:TO t l):TO (Pu t).1 l:=by
 obtain⟨cs,ws⟩:=t
 unfold Pu
 cases ws with
 |nil=>exact h
 |cons w r=>
  have h2:=h.nw
  have h3:=h.dw
  simp only[List.length_cons,List.nodup_cons]at h2 h3
  exact⟨h.lim,h.nc,by show(r.length:Int)≤_;omega,h.co,h.dc,h3.2,λx hx=>h.wc x (List.mem_cons_of_mem _ hx)⟩
theorem BH (x:Tupl):na.f (x,())=x:=by simp only[PX,na]
theorem Ar (x:Opti):lL.f (x,())=x:=by simp only[PX,lL]
theorem OU (x:Half):wD.f (x,())=x:=by simp only[PX,wD,BH,Ar]
theorem LK (x:List Entr):qd.f (x,())=x:=by
 simp only[PX,qd,gc,ai,Z]
 rw[bi x _ rfl (F:=λj y a=> .next (a.set j y)) (λj y a h=>by simp only[PX,rF,x7,Z,getD_some h])]
 rw[jC (W:=Empty) (λy:Entr=>y) x 0 _ (by simp)]
 simp[Stp.elim]
theorem Mg (x:List Tupl):qg.f (x,())=x:=by
 simp only[PX,qg,gg,ai,Z]
 rw[bi x _ rfl (F:=λj y a=> .next (a.set j y)) (λj y a h=>by simp only[PX,rD,BH,Z,getD_some h])]
 rw[jC (W:=Empty) (λy:Tupl=>y) x 0 _ (by simp)]
 simp[Stp.elim]
theorem Nz (x:List Half):ub.f (x,())=x:=by
 simp only[PX,ub,gK,ai,Z]
 rw[bi x _ rfl (F:=λj y a=> .next (a.set j y)) (λj y a h=>by simp only[PX,sj,OU,Z,getD_some h])]
 rw[jC (W:=Empty) (λy:Half=>y) x 0 _ (by simp)]
 simp[Stp.elim]
theorem Ls (x:List Piec):qO.f (x,())=x:=by
 simp only[PX,qO,gf,ai,Z]
 rw[bi x _ rfl (F:=λj y a=> .next (a.set j y)) (λj y a h=>by simp only[PX,ra,xD,Z,getD_some h])]
 rw[jC (W:=Empty) (λy:Piec=>y) x 0 _ (by simp)]
 simp[Stp.elim]
theorem Lz (x:Sndr):qH.f (x,())=x:=by simp only[PX,qH]
theorem IL (x:Recv):mL.f (x,())=x:=by simp only[PX,mL,Ls]
theorem Oz (x:Conn):wT.f (x,())=x:=by simp only[PX,wT,BH,Ar,Lz,IL]
theorem NB (x:List Conn):tH.f (x,())=x:=by
 simp only[PX,tH,gQ,ai,Z]
 rw[bi x _ rfl (F:=λj y a=> .next (a.set j y)) (λj y a h=>by simp only[PX,sD,Oz,Z,getD_some h])]
 rw[jC (W:=Empty) (λy:Conn=>y) x 0 _ (by simp)]
 simp[Stp.elim]
theorem OZ (x:Keys):vX.f (x,())=x:=by simp only[PX,vX,Qb]
theorem Ng (x:Tabl):t7.f (x,())=x:=by simp only[PX,t7,NB,Mg]
theorem K1 (x:Door):lT.f (x,())=x:=by simp only[PX,lT,OZ,LN,Nz,Ng]
theorem OD (x:Link):xr.f (x,())=x:=by simp only[PX,xr,LK]
theorem MN (x:Stac):le.f (x,())=x:=by simp only[PX,le,OD,K1]
def ba {α:Type}(n:α→Int):List α→Int
 |[]=>0
 |x::r=>n x+ba n r
def bI {α:Type}(n:α→Int)(M:Int→α→α):Int→List α→List α
 |_,[]=>[]
 |k,x::r=>M k x::bI n M (k+n x) r
theorem jG {α:Type}(n:α→Int)(M:Int→α→α):∀(k:Int) (xs:List α),(bI n M k xs).length=xs.length
 |_,[]=>rfl
 |k,x::r=>by simp[bI,jG n M (k+n x) r]
theorem bg {α:Type}{n:α→Int}(hn:∀x,0≤n x):∀(xs:List α),0≤ba n xs
 |[]=>Int.le_refl _
 |x::r=>by
  have:=bg hn r
  have:=hn x
  simp only[ba];omega
theorem oC {α:Type}{n:α→Int}{B:Int}:∀(xs:List α),(∀x∈xs,n x≤B)→ba n xs≤B*(xs.length:Int)
 |[],_=>by simp[ba]
 |x::r,h=>by
  have h1:=oC r λy hy=>h y (List.mem_cons_of_mem _ hy)
  have h2:=h x List.mem_cons_self
  have e:B*((x::r).length:Int)=B*(r.length:Int)+B:=by rw[List.length_cons];push_cast;rw[Int.mul_add,Int.mul_one]
  simp only[ba];omega
theorem hY {α:Type}{n:α→Int}{M:Int→α→α}{T:Int→Int×List α→Stp (Int×List α) Empty}(hn:∀x,0≤n x)(hT:∀(A r:List α) (x:α) (k:Int),0≤k→k+n x≤4611686018427387904→T (A.length:Int) (k,A++x::r)= .next (k+n x,A++M k x::r)):∀(r A:List α) (k:Int),0≤k→k+ba n r≤4611686018427387904→a9 T 1 r.length (A.length:Int) (k,A++r)= .next (k+ba n r,A++bI n M k r)
 |[],A,k,_,_=>by simp[a9,bI,ba]
 |x::r,A,k,h0,h1=>by
  simp only[ba]at h1
  have h2:=hn x
  have h3:=bg hn r
  have ih:=hY hn hT r (A++[M k x]) (k+n x) (by omega) (by omega)
  rw[List.length_cons]
  simp only[a9]
  rw[hT A r x k h0 (by omega)]
  simp only[Stp.elim]
  rw[show A++M k x::r=(A++[M k x])++r by simp,show(A.length:Int)+1=((A++[M k x]).length:Int) by simp,ih]
  simp only[bI,ba,List.append_assoc,List.cons_append,List.nil_append]
  congr 2;omega
theorem gN {α W:Type}{n:α→Int}{M:Int→α→α}{H:Int→Int→Stp Int W}(v:List α)(hn:∀x,0≤n x)(hH:∀(j:Nat) (x:α) (k:Int),0≤k→k+n x≤4611686018427387904→v[j]? =some (M k x)→H (j:Int) k= .next (k+n x)):∀(r:List α) (j:Nat) (k:Int),0≤k→k+ba n r≤4611686018427387904→v.drop j=bI n M k r→a9 H 1 r.length (j:Int) k= .next (k+ba n r)
 |[],_,k,_,_,_=>by simp[a9,ba]
 |x::r,j,k,h0,h1,h2=>by
  simp only[ba]at h1
  have h5:=hn x
  have h6:=bg hn r
  have hg:v[j]? =some (M k x):=by
   have:=congrArg (λl=>l[0]?) h2
   simpa [bI]using this
  have h3:v.drop (j+1)=bI n M (k+n x) r:=by
   have:=congrArg (List.drop 1) h2
   simpa [bI,List.drop_drop]using this
  have ih:=gN v hn hH r (j+1) (k+n x) (by omega) (by omega) h3
  rw[List.length_cons]
  simp only[a9]
  rw[hH j x k h0 (by omega) hg]
  simp only[Stp.elim]
  rw[show(j:Int)+1=((j+1:Nat):Int) by omega,ih]
  simp only[ba]
  congr 1;omega
theorem p9 {α:Type}(A r:List α)(y z:α):(A++y::r).set A.length z=A++z::r:=by
 rw[List.set_append_right _ _ (Nat.le_refl _)];simp
theorem qy {α:Type}(A r:List α)(y d:α):(A++y::r).getD A.length d=y:=getD_some (by simp)
theorem Ac {k L N:Int}(j j':Int)(h:j'=j+1)(hj:0≤j)(hN:j'≤N)(h0:0≤k)(hL:0≤L)(h1:k+(N+L)≤4611686018427387904):IntKind.wrap .i64 (k+j+L+1)=k+j'+L:=by rw[aw (by omega) (by omega)];omega
theorem C7 {k L N:Int}(j j':Int)(h:j'=j+1)(hj:0≤j)(hN:j'≤N)(h0:0≤k)(hL:0≤L)(h1:k+(N+L)≤4611686018427387904):IntKind.wrap .i64 (k+j+1)=k+j':=by rw[aw (by omega) (by omega)];omega
theorem kP {k N:Int}(j j':Int)(h:j'=j+1)(hj:0≤j)(hN:j'≤N)(h0:0≤k)(h1:k+N≤4611686018427387904):IntKind.wrap .i64 (k+j+1)=k+j':=by rw[aw (by omega) (by omega)];omega
theorem Rf {k L N:Int}(hN:1≤N)(h0:0≤k)(hL:0≤L)(h1:k+(N+L)≤4611686018427387904):IntKind.wrap .i64 (k+1)=k+1:=aw (by omega) (by omega)
theorem MI {k N:Int}(hN:1≤N)(h0:0≤k)(h1:k+N≤4611686018427387904):IntKind.wrap .i64 (k+1)=k+1:=aw (by omega) (by omega)
def eJ (_x:ah):Int:=1
def pb (k:Int)(_x:ah):ah:=a8.f (k,())
theorem pe (x:ah):0≤eJ x:=by unfold eJ;omega
theorem zU (A r:List ah)(x:ah)(k:Int)(h0:0≤k)(h1:k+eJ x≤4611686018427387904):(fX (A.length:Int) (k,A++x::r)).nice= .next (k+eJ x,A++pb k x::r):=by
 unfold eJ at h1⊢
 have e0:IntKind.wrap .i64 (k+1)=k+1:=MI (by decide) h0 h1
 simp only[PX,fX,Z,p9,qy,e0,pb]
theorem zZ (v:List ah)(j:Nat)(x:ah)(k:Int)(h0:0≤k)(h1:k+eJ x≤4611686018427387904)(hg:v[j]? =some (pb k x)):(fZ v (j:Int) k).nice= .next (k+eJ x):=by
 unfold eJ at h1⊢
 have e0:IntKind.wrap .i64 (k+1)=k+1:=MI (by decide) h0 h1
 simp only[PX,fZ,Z,getD_some hg,pb,e0,beq_self_eq_true,bne_self_eq_false,Bool.not_true,cond_false]
theorem G8 (xs:List ah)(k:Int)(h0:0≤k)(h1:k+ba eJ xs≤4611686018427387904):lC.f (xs,k,())=(k+ba eJ xs,bI eJ pb k xs):=by
 have:=hY (T:=λj a=>(fX j a).nice) (M:=pb) pe zU xs [] k h0 h1
 rw[List.nil_append,List.nil_append]at this
 simp only[PX,lC,bb,ai]
 refine(congrArg (Stp.elim _ _) this).trans ?_
 simp only[Stp.elim]
theorem GM (xs:List ah)(k:Int)(h0:0≤k)(h1:k+ba eJ xs≤4611686018427387904):iX.f (bI eJ pb k xs,k,())=k+ba eJ xs:=by
 have:=gN (W:=Int) (H:=λj a=>(fZ (bI eJ pb k xs) j a).nice) (M:=pb) (bI eJ pb k xs) pe (λj x k h0 h1 hg=>zZ _ j x k h0 h1 hg) xs 0 k h0 h1 rfl
 simp only[PX,iX,fN,ai,jG]
 refine(congrArg (Stp.elim _ _) this).trans ?_
 simp only[Stp.elim]
def du (_x:Piec):Int:=2
def sm (k:Int)(_x:Piec):Piec:=⟨k,a8.f (k+1,())⟩
theorem j5 (x:Piec):0≤du x:=by unfold du;omega
theorem Bl (A r:List Piec)(x:Piec)(k:Int)(h0:0≤k)(h1:k+du x≤4611686018427387904):(gp (A.length:Int) (k,A++x::r)).nice= .next (k+du x,A++sm k x::r):=by
 unfold du at h1⊢
 have e0:IntKind.wrap .i64 (k+1)=k+1:=MI (by decide) h0 h1
 have e1:IntKind.wrap .i64 (k+1+1)=k+2:=kP 1 2 (by decide) (by decide) (by decide) h0 h1
 simp only[PX,gp,Z,p9,qy,e0,e1,sm]
theorem Bi (v:List Piec)(j:Nat)(x:Piec)(k:Int)(h0:0≤k)(h1:k+du x≤4611686018427387904)(hg:v[j]? =some (sm k x)):(gH v (j:Int) k).nice= .next (k+du x):=by
 unfold du at h1⊢
 have e0:IntKind.wrap .i64 (k+1)=k+1:=MI (by decide) h0 h1
 have e1:IntKind.wrap .i64 (k+1+1)=k+2:=kP 1 2 (by decide) (by decide) (by decide) h0 h1
 simp only[PX,gH,Z,getD_some hg,sm,e0,e1,beq_self_eq_true,bne_self_eq_false,Bool.not_true,cond_false]
theorem Jo (xs:List Piec)(k:Int)(h0:0≤k)(h1:k+ba du xs≤4611686018427387904):m5.f (xs,k,())=(k+ba du xs,bI du sm k xs):=by
 have:=hY (T:=λj a=>(gp j a).nice) (M:=sm) j5 Bl xs [] k h0 h1
 rw[List.nil_append,List.nil_append]at this
 simp only[PX,m5,bj,ai]
 refine(congrArg (Stp.elim _ _) this).trans ?_
 simp only[Stp.elim]
theorem Ja (xs:List Piec)(k:Int)(h0:0≤k)(h1:k+ba du xs≤4611686018427387904):mY.f (bI du sm k xs,k,())=k+ba du xs:=by
 have:=gN (W:=Int) (H:=λj a=>(gH (bI du sm k xs) j a).nice) (M:=sm) (bI du sm k xs) j5 (λj x k h0 h1 hg=>Bi _ j x k h0 h1 hg) xs 0 k h0 h1 rfl
 simp only[PX,mY,gy,ai,jG]
 refine(congrArg (Stp.elim _ _) this).trans ?_
 simp only[Stp.elim]
def ev (_x:Half):Int:=13
def rx (k:Int)(_x:Half):Half:=⟨⟨k,k+1,k+2⟩,k+3,k+4,⟨k+5,k+6,((k+7).tmod 3==0),((k+8).tmod 3==0),k+9,k+10⟩,k+11,k+12⟩
theorem kL (x:Half):0≤ev x:=by unfold ev;omega
theorem DY (A r:List Half)(x:Half)(k:Int)(h0:0≤k)(h1:k+ev x≤4611686018427387904):(iG (A.length:Int) (k,A++x::r)).nice= .next (k+ev x,A++rx k x::r):=by
 unfold ev at h1⊢
 have e0:IntKind.wrap .i64 (k+1)=k+1:=MI (by decide) h0 h1
 have e1:IntKind.wrap .i64 (k+1+1)=k+2:=kP 1 2 (by decide) (by decide) (by decide) h0 h1
 have e2:IntKind.wrap .i64 (k+2+1)=k+3:=kP 2 3 (by decide) (by decide) (by decide) h0 h1
 have e3:IntKind.wrap .i64 (k+3+1)=k+4:=kP 3 4 (by decide) (by decide) (by decide) h0 h1
 have e4:IntKind.wrap .i64 (k+4+1)=k+5:=kP 4 5 (by decide) (by decide) (by decide) h0 h1
 have e5:IntKind.wrap .i64 (k+5+1)=k+6:=kP 5 6 (by decide) (by decide) (by decide) h0 h1
 have e6:IntKind.wrap .i64 (k+6+1)=k+7:=kP 6 7 (by decide) (by decide) (by decide) h0 h1
 have e7:IntKind.wrap .i64 (k+7+1)=k+8:=kP 7 8 (by decide) (by decide) (by decide) h0 h1
 have e8:IntKind.wrap .i64 (k+8+1)=k+9:=kP 8 9 (by decide) (by decide) (by decide) h0 h1
 have e9:IntKind.wrap .i64 (k+9+1)=k+10:=kP 9 10 (by decide) (by decide) (by decide) h0 h1
 have e10:IntKind.wrap .i64 (k+10+1)=k+11:=kP 10 11 (by decide) (by decide) (by decide) h0 h1
 have e11:IntKind.wrap .i64 (k+11+1)=k+12:=kP 11 12 (by decide) (by decide) (by decide) h0 h1
 have e12:IntKind.wrap .i64 (k+12+1)=k+13:=kP 12 13 (by decide) (by decide) (by decide) h0 h1
 simp only[PX,iG,Z,p9,qy,e0,e1,e2,e3,e4,e5,e6,e7,e8,e9,e10,e11,e12,rx]
theorem Dh (v:List Half)(j:Nat)(x:Half)(k:Int)(h0:0≤k)(h1:k+ev x≤4611686018427387904)(hg:v[j]? =some (rx k x)):(ij v (j:Int) k).nice= .next (k+ev x):=by
 unfold ev at h1⊢
 have e0:IntKind.wrap .i64 (k+1)=k+1:=MI (by decide) h0 h1
 have e1:IntKind.wrap .i64 (k+1+1)=k+2:=kP 1 2 (by decide) (by decide) (by decide) h0 h1
 have e2:IntKind.wrap .i64 (k+2+1)=k+3:=kP 2 3 (by decide) (by decide) (by decide) h0 h1
 have e3:IntKind.wrap .i64 (k+3+1)=k+4:=kP 3 4 (by decide) (by decide) (by decide) h0 h1
 have e4:IntKind.wrap .i64 (k+4+1)=k+5:=kP 4 5 (by decide) (by decide) (by decide) h0 h1
 have e5:IntKind.wrap .i64 (k+5+1)=k+6:=kP 5 6 (by decide) (by decide) (by decide) h0 h1
 have e6:IntKind.wrap .i64 (k+6+1)=k+7:=kP 6 7 (by decide) (by decide) (by decide) h0 h1
 have e7:IntKind.wrap .i64 (k+7+1)=k+8:=kP 7 8 (by decide) (by decide) (by decide) h0 h1
 have e8:IntKind.wrap .i64 (k+8+1)=k+9:=kP 8 9 (by decide) (by decide) (by decide) h0 h1
 have e9:IntKind.wrap .i64 (k+9+1)=k+10:=kP 9 10 (by decide) (by decide) (by decide) h0 h1
 have e10:IntKind.wrap .i64 (k+10+1)=k+11:=kP 10 11 (by decide) (by decide) (by decide) h0 h1
 have e11:IntKind.wrap .i64 (k+11+1)=k+12:=kP 11 12 (by decide) (by decide) (by decide) h0 h1
 have e12:IntKind.wrap .i64 (k+12+1)=k+13:=kP 12 13 (by decide) (by decide) (by decide) h0 h1
 simp only[PX,ij,Z,getD_some hg,rx,e0,e1,e2,e3,e4,e5,e6,e7,e8,e9,e10,e11,e12,beq_self_eq_true,bne_self_eq_false,Bool.not_true,cond_false]
theorem Mh (xs:List Half)(k:Int)(h0:0≤k)(h1:k+ba ev xs≤4611686018427387904):oa.f (xs,k,())=(k+ba ev xs,bI ev rx k xs):=by
 have:=hY (T:=λj a=>(iG j a).nice) (M:=rx) kL DY xs [] k h0 h1
 rw[List.nil_append,List.nil_append]at this
 simp only[PX,oa,bt,ai]
 refine(congrArg (Stp.elim _ _) this).trans ?_
 simp only[Stp.elim]
theorem Mj (xs:List Half)(k:Int)(h0:0≤k)(h1:k+ba ev xs≤4611686018427387904):oU.f (bI ev rx k xs,k,())=k+ba ev xs:=by
 have:=gN (W:=Int) (H:=λj a=>(ij (bI ev rx k xs) j a).nice) (M:=rx) (bI ev rx k xs) kL (λj x k h0 h1 hg=>Dh _ j x k h0 h1 hg) xs 0 k h0 h1 rfl
 simp only[PX,oU,ii,ai,jG]
 refine(congrArg (Stp.elim _ _) this).trans ?_
 simp only[Stp.elim]
def gE (_x:Tupl):Int:=3
def oz (k:Int)(_x:Tupl):Tupl:=⟨k,k+1,k+2⟩
theorem jW (x:Tupl):0≤gE x:=by unfold gE;omega
theorem AI (A r:List Tupl)(x:Tupl)(k:Int)(h0:0≤k)(h1:k+gE x≤4611686018427387904):(gC (A.length:Int) (k,A++x::r)).nice= .next (k+gE x,A++oz k x::r):=by
 unfold gE at h1⊢
 have e0:IntKind.wrap .i64 (k+1)=k+1:=MI (by decide) h0 h1
 have e1:IntKind.wrap .i64 (k+1+1)=k+2:=kP 1 2 (by decide) (by decide) (by decide) h0 h1
 have e2:IntKind.wrap .i64 (k+2+1)=k+3:=kP 2 3 (by decide) (by decide) (by decide) h0 h1
 simp only[PX,gC,Z,p9,qy,e0,e1,e2,oz]
theorem Ai (v:List Tupl)(j:Nat)(x:Tupl)(k:Int)(h0:0≤k)(h1:k+gE x≤4611686018427387904)(hg:v[j]? =some (oz k x)):(gr v (j:Int) k).nice= .next (k+gE x):=by
 unfold gE at h1⊢
 have e0:IntKind.wrap .i64 (k+1)=k+1:=MI (by decide) h0 h1
 have e1:IntKind.wrap .i64 (k+1+1)=k+2:=kP 1 2 (by decide) (by decide) (by decide) h0 h1
 have e2:IntKind.wrap .i64 (k+2+1)=k+3:=kP 2 3 (by decide) (by decide) (by decide) h0 h1
 simp only[PX,gr,Z,getD_some hg,oz,e0,e1,e2,beq_self_eq_true,bne_self_eq_false,Bool.not_true,cond_false]
theorem Ke (xs:List Tupl)(k:Int)(h0:0≤k)(h1:k+ba gE xs≤4611686018427387904):mJ.f (xs,k,())=(k+ba gE xs,bI gE oz k xs):=by
 have:=hY (T:=λj a=>(gC j a).nice) (M:=oz) jW AI xs [] k h0 h1
 rw[List.nil_append,List.nil_append]at this
 simp only[PX,mJ,bm,ai]
 refine(congrArg (Stp.elim _ _) this).trans ?_
 simp only[Stp.elim]
theorem KI (xs:List Tupl)(k:Int)(h0:0≤k)(h1:k+ba gE xs≤4611686018427387904):mU.f (bI gE oz k xs,k,())=k+ba gE xs:=by
 have:=gN (W:=Int) (H:=λj a=>(gr (bI gE oz k xs) j a).nice) (M:=oz) (bI gE oz k xs) jW (λj x k h0 h1 hg=>Ai _ j x k h0 h1 hg) xs 0 k h0 h1 rfl
 simp only[PX,mU,gA,ai,jG]
 refine(congrArg (Stp.elim _ _) this).trans ?_
 simp only[Stp.elim]
def dP (x:Conn):Int:=24+ba du x.r.held
def mp (k:Int)(x:Conn):Conn:=⟨⟨k,k+1,k+2⟩,k+3,⟨k+4,a8.f (k+5,()),k+6,((k+7).tmod 3==0),((k+8).tmod 3==0),((k+9).tmod 3==0)⟩,⟨k+10,a8.f (k+11,()),bI du sm (k+12) x.r.held,k+12+ba du x.r.held,((k+13+ba du x.r.held).tmod 3==0)⟩,k+14+ba du x.r.held,k+15+ba du x.r.held,⟨k+16+ba du x.r.held,k+17+ba du x.r.held,((k+18+ba du x.r.held).tmod 3==0),((k+19+ba du x.r.held).tmod 3==0),k+20+ba du x.r.held,k+21+ba du x.r.held⟩,k+22+ba du x.r.held,k+23+ba du x.r.held⟩
theorem kn (x:Conn):0≤dP x:=by have:=bg j5 x.r.held;unfold dP;omega
set_option maxHeartbeats 1000000 in theorem DT (A r:List Conn)(x:Conn)(k:Int)(h0:0≤k)(h1:k+dP x≤4611686018427387904):(io (A.length:Int) (k,A++x::r)).nice= .next (k+dP x,A++mp k x::r):=by
 unfold dP at h1⊢
 have hn:=bg j5 x.r.held
 have hm12:=Jo x.r.held (k+12) (by omega) (by omega)
 simp only[mp]
 generalize ba du x.r.held=L at*
 have e0:IntKind.wrap .i64 (k+1)=k+1:=Rf (by decide) h0 hn h1
 have e1:IntKind.wrap .i64 (k+1+1)=k+2:=C7 1 2 (by decide) (by decide) (by decide) h0 hn h1
 have e2:IntKind.wrap .i64 (k+2+1)=k+3:=C7 2 3 (by decide) (by decide) (by decide) h0 hn h1
 have e3:IntKind.wrap .i64 (k+3+1)=k+4:=C7 3 4 (by decide) (by decide) (by decide) h0 hn h1
 have e4:IntKind.wrap .i64 (k+4+1)=k+5:=C7 4 5 (by decide) (by decide) (by decide) h0 hn h1
 have e5:IntKind.wrap .i64 (k+5+1)=k+6:=C7 5 6 (by decide) (by decide) (by decide) h0 hn h1
 have e6:IntKind.wrap .i64 (k+6+1)=k+7:=C7 6 7 (by decide) (by decide) (by decide) h0 hn h1
 have e7:IntKind.wrap .i64 (k+7+1)=k+8:=C7 7 8 (by decide) (by decide) (by decide) h0 hn h1
 have e8:IntKind.wrap .i64 (k+8+1)=k+9:=C7 8 9 (by decide) (by decide) (by decide) h0 hn h1
 have e9:IntKind.wrap .i64 (k+9+1)=k+10:=C7 9 10 (by decide) (by decide) (by decide) h0 hn h1
 have e10:IntKind.wrap .i64 (k+10+1)=k+11:=C7 10 11 (by decide) (by decide) (by decide) h0 hn h1
 have e11:IntKind.wrap .i64 (k+11+1)=k+12:=C7 11 12 (by decide) (by decide) (by decide) h0 hn h1
 have e12:IntKind.wrap .i64 (k+12+L+1)=k+13+L:=Ac 12 13 (by decide) (by decide) (by decide) h0 hn h1
 have e13:IntKind.wrap .i64 (k+13+L+1)=k+14+L:=Ac 13 14 (by decide) (by decide) (by decide) h0 hn h1
 have e14:IntKind.wrap .i64 (k+14+L+1)=k+15+L:=Ac 14 15 (by decide) (by decide) (by decide) h0 hn h1
 have e15:IntKind.wrap .i64 (k+15+L+1)=k+16+L:=Ac 15 16 (by decide) (by decide) (by decide) h0 hn h1
 have e16:IntKind.wrap .i64 (k+16+L+1)=k+17+L:=Ac 16 17 (by decide) (by decide) (by decide) h0 hn h1
 have e17:IntKind.wrap .i64 (k+17+L+1)=k+18+L:=Ac 17 18 (by decide) (by decide) (by decide) h0 hn h1
 have e18:IntKind.wrap .i64 (k+18+L+1)=k+19+L:=Ac 18 19 (by decide) (by decide) (by decide) h0 hn h1
 have e19:IntKind.wrap .i64 (k+19+L+1)=k+20+L:=Ac 19 20 (by decide) (by decide) (by decide) h0 hn h1
 have e20:IntKind.wrap .i64 (k+20+L+1)=k+21+L:=Ac 20 21 (by decide) (by decide) (by decide) h0 hn h1
 have e21:IntKind.wrap .i64 (k+21+L+1)=k+22+L:=Ac 21 22 (by decide) (by decide) (by decide) h0 hn h1
 have e22:IntKind.wrap .i64 (k+22+L+1)=k+23+L:=Ac 22 23 (by decide) (by decide) (by decide) h0 hn h1
 have e23:IntKind.wrap .i64 (k+23+L+1)=k+24+L:=Ac 23 24 (by decide) (by decide) (by decide) h0 hn h1
 simp only[PX,io,Z,p9,qy,e0,e1,e2,e3,e4,e5,e6,e7,e8,e9,e10,e11,e12,e13,e14,e15,e16,e17,e18,e19,e20,e21,e22,e23,hm12,mp]
 congr 2;omega
set_option maxHeartbeats 1000000 in theorem D6 (v:List Conn)(j:Nat)(x:Conn)(k:Int)(h0:0≤k)(h1:k+dP x≤4611686018427387904)(hg:v[j]? =some (mp k x)):(ik v (j:Int) k).nice= .next (k+dP x):=by
 unfold dP at h1⊢
 have hn:=bg j5 x.r.held
 have hh12:=Ja x.r.held (k+12) (by omega) (by omega)
 simp only[mp]at hg
 generalize ba du x.r.held=L at*
 have e0:IntKind.wrap .i64 (k+1)=k+1:=Rf (by decide) h0 hn h1
 have e1:IntKind.wrap .i64 (k+1+1)=k+2:=C7 1 2 (by decide) (by decide) (by decide) h0 hn h1
 have e2:IntKind.wrap .i64 (k+2+1)=k+3:=C7 2 3 (by decide) (by decide) (by decide) h0 hn h1
 have e3:IntKind.wrap .i64 (k+3+1)=k+4:=C7 3 4 (by decide) (by decide) (by decide) h0 hn h1
 have e4:IntKind.wrap .i64 (k+4+1)=k+5:=C7 4 5 (by decide) (by decide) (by decide) h0 hn h1
 have e5:IntKind.wrap .i64 (k+5+1)=k+6:=C7 5 6 (by decide) (by decide) (by decide) h0 hn h1
 have e6:IntKind.wrap .i64 (k+6+1)=k+7:=C7 6 7 (by decide) (by decide) (by decide) h0 hn h1
 have e7:IntKind.wrap .i64 (k+7+1)=k+8:=C7 7 8 (by decide) (by decide) (by decide) h0 hn h1
 have e8:IntKind.wrap .i64 (k+8+1)=k+9:=C7 8 9 (by decide) (by decide) (by decide) h0 hn h1
 have e9:IntKind.wrap .i64 (k+9+1)=k+10:=C7 9 10 (by decide) (by decide) (by decide) h0 hn h1
 have e10:IntKind.wrap .i64 (k+10+1)=k+11:=C7 10 11 (by decide) (by decide) (by decide) h0 hn h1
 have e11:IntKind.wrap .i64 (k+11+1)=k+12:=C7 11 12 (by decide) (by decide) (by decide) h0 hn h1
 have e12:IntKind.wrap .i64 (k+12+L+1)=k+13+L:=Ac 12 13 (by decide) (by decide) (by decide) h0 hn h1
 have e13:IntKind.wrap .i64 (k+13+L+1)=k+14+L:=Ac 13 14 (by decide) (by decide) (by decide) h0 hn h1
 have e14:IntKind.wrap .i64 (k+14+L+1)=k+15+L:=Ac 14 15 (by decide) (by decide) (by decide) h0 hn h1
 have e15:IntKind.wrap .i64 (k+15+L+1)=k+16+L:=Ac 15 16 (by decide) (by decide) (by decide) h0 hn h1
 have e16:IntKind.wrap .i64 (k+16+L+1)=k+17+L:=Ac 16 17 (by decide) (by decide) (by decide) h0 hn h1
 have e17:IntKind.wrap .i64 (k+17+L+1)=k+18+L:=Ac 17 18 (by decide) (by decide) (by decide) h0 hn h1
 have e18:IntKind.wrap .i64 (k+18+L+1)=k+19+L:=Ac 18 19 (by decide) (by decide) (by decide) h0 hn h1
 have e19:IntKind.wrap .i64 (k+19+L+1)=k+20+L:=Ac 19 20 (by decide) (by decide) (by decide) h0 hn h1
 have e20:IntKind.wrap .i64 (k+20+L+1)=k+21+L:=Ac 20 21 (by decide) (by decide) (by decide) h0 hn h1
 have e21:IntKind.wrap .i64 (k+21+L+1)=k+22+L:=Ac 21 22 (by decide) (by decide) (by decide) h0 hn h1
 have e22:IntKind.wrap .i64 (k+22+L+1)=k+23+L:=Ac 22 23 (by decide) (by decide) (by decide) h0 hn h1
 have e23:IntKind.wrap .i64 (k+23+L+1)=k+24+L:=Ac 23 24 (by decide) (by decide) (by decide) h0 hn h1
 have hz12:decide (k+12+L<0)=false:=by simp;omega
 simp only[PX,ik,Z,getD_some hg,mp,e0,e1,e2,e3,e4,e5,e6,e7,e8,e9,e10,e11,e12,e13,e14,e15,e16,e17,e18,e19,e20,e21,e22,e23,hh12,hz12,beq_self_eq_true,bne_self_eq_false,Bool.not_true,cond_false]
 congr 1;omega
theorem Lm (xs:List Conn)(k:Int)(h0:0≤k)(h1:k+ba dP xs≤4611686018427387904):oT.f (xs,k,())=(k+ba dP xs,bI dP mp k xs):=by
 have:=hY (T:=λj a=>(io j a).nice) (M:=mp) kn DT xs [] k h0 h1
 rw[List.nil_append,List.nil_append]at this
 simp only[PX,oT,bz,ai]
 refine(congrArg (Stp.elim _ _) this).trans ?_
 simp only[Stp.elim]
theorem LL (xs:List Conn)(k:Int)(h0:0≤k)(h1:k+ba dP xs≤4611686018427387904):oY.f (bI dP mp k xs,k,())=k+ba dP xs:=by
 have:=gN (W:=Int) (H:=λj a=>(ik (bI dP mp k xs) j a).nice) (M:=mp) (bI dP mp k xs) kn (λj x k h0 h1 hg=>D6 _ j x k h0 h1 hg) xs 0 k h0 h1 rfl
 simp only[PX,oY,il,ai,jG]
 refine(congrArg (Stp.elim _ _) this).trans ?_
 simp only[Stp.elim]
def dI (_x:Entr):Int:=3
def rt (k:Int)(_x:Entr):Entr:=⟨k,k+1,k+2⟩
theorem kM (x:Entr):0≤dI x:=by unfold dI;omega
theorem AZ (A r:List Entr)(x:Entr)(k:Int)(h0:0≤k)(h1:k+dI x≤4611686018427387904):(gG (A.length:Int) (k,A++x::r)).nice= .next (k+dI x,A++rt k x::r):=by
 unfold dI at h1⊢
 have e0:IntKind.wrap .i64 (k+1)=k+1:=MI (by decide) h0 h1
 have e1:IntKind.wrap .i64 (k+1+1)=k+2:=kP 1 2 (by decide) (by decide) (by decide) h0 h1
 have e2:IntKind.wrap .i64 (k+2+1)=k+3:=kP 2 3 (by decide) (by decide) (by decide) h0 h1
 simp only[PX,gG,Z,p9,qy,e0,e1,e2,rt]
theorem BJ (v:List Entr)(j:Nat)(x:Entr)(k:Int)(h0:0≤k)(h1:k+dI x≤4611686018427387904)(hg:v[j]? =some (rt k x)):(gF v (j:Int) k).nice= .next (k+dI x):=by
 unfold dI at h1⊢
 have e0:IntKind.wrap .i64 (k+1)=k+1:=MI (by decide) h0 h1
 have e1:IntKind.wrap .i64 (k+1+1)=k+2:=kP 1 2 (by decide) (by decide) (by decide) h0 h1
 have e2:IntKind.wrap .i64 (k+2+1)=k+3:=kP 2 3 (by decide) (by decide) (by decide) h0 h1
 simp only[PX,gF,Z,getD_some hg,rt,e0,e1,e2,beq_self_eq_true,bne_self_eq_false,Bool.not_true,cond_false]
theorem JN (xs:List Entr)(k:Int)(h0:0≤k)(h1:k+ba dI xs≤4611686018427387904):mR.f (xs,k,())=(k+ba dI xs,bI dI rt k xs):=by
 have:=hY (T:=λj a=>(gG j a).nice) (M:=rt) kM AZ xs [] k h0 h1
 rw[List.nil_append,List.nil_append]at this
 simp only[PX,mR,bo,ai]
 refine(congrArg (Stp.elim _ _) this).trans ?_
 simp only[Stp.elim]
theorem Kn (xs:List Entr)(k:Int)(h0:0≤k)(h1:k+ba dI xs≤4611686018427387904):mC.f (bI dI rt k xs,k,())=k+ba dI xs:=by
 have:=gN (W:=Int) (H:=λj a=>(gF (bI dI rt k xs) j a).nice) (M:=rt) (bI dI rt k xs) kM (λj x k h0 h1 hg=>BJ _ j x k h0 h1 hg) xs 0 k h0 h1 rfl
 simp only[PX,mC,gt,ai,jG]
 refine(congrArg (Stp.elim _ _) this).trans ?_
 simp only[Stp.elim]
def iR (_x:Segm):Int:=13
def uO (k:Int)(_x:Segm):Segm:=⟨k,k+1,k+2,k+3,k+4,k+5,⟨k+6,k+7,((k+8).tmod 3==0),((k+9).tmod 3==0),k+10,k+11⟩,a8.f (k+12,())⟩
theorem qc (x:Segm):0≤iR x:=by unfold iR;omega
theorem yd (A r:List Segm)(x:Segm)(k:Int)(h0:0≤k)(h1:k+iR x≤4611686018427387904):(fa (A.length:Int) (k,A++x::r)).nice= .next (k+iR x,A++uO k x::r):=by
 unfold iR at h1⊢
 have e0:IntKind.wrap .i64 (k+1)=k+1:=MI (by decide) h0 h1
 have e1:IntKind.wrap .i64 (k+1+1)=k+2:=kP 1 2 (by decide) (by decide) (by decide) h0 h1
 have e2:IntKind.wrap .i64 (k+2+1)=k+3:=kP 2 3 (by decide) (by decide) (by decide) h0 h1
 have e3:IntKind.wrap .i64 (k+3+1)=k+4:=kP 3 4 (by decide) (by decide) (by decide) h0 h1
 have e4:IntKind.wrap .i64 (k+4+1)=k+5:=kP 4 5 (by decide) (by decide) (by decide) h0 h1
 have e5:IntKind.wrap .i64 (k+5+1)=k+6:=kP 5 6 (by decide) (by decide) (by decide) h0 h1
 have e6:IntKind.wrap .i64 (k+6+1)=k+7:=kP 6 7 (by decide) (by decide) (by decide) h0 h1
 have e7:IntKind.wrap .i64 (k+7+1)=k+8:=kP 7 8 (by decide) (by decide) (by decide) h0 h1
 have e8:IntKind.wrap .i64 (k+8+1)=k+9:=kP 8 9 (by decide) (by decide) (by decide) h0 h1
 have e9:IntKind.wrap .i64 (k+9+1)=k+10:=kP 9 10 (by decide) (by decide) (by decide) h0 h1
 have e10:IntKind.wrap .i64 (k+10+1)=k+11:=kP 10 11 (by decide) (by decide) (by decide) h0 h1
 have e11:IntKind.wrap .i64 (k+11+1)=k+12:=kP 11 12 (by decide) (by decide) (by decide) h0 h1
 have e12:IntKind.wrap .i64 (k+12+1)=k+13:=kP 12 13 (by decide) (by decide) (by decide) h0 h1
 simp only[PX,fa,Z,p9,qy,e0,e1,e2,e3,e4,e5,e6,e7,e8,e9,e10,e11,e12,uO]
theorem yk (v:List Segm)(j:Nat)(x:Segm)(k:Int)(h0:0≤k)(h1:k+iR x≤4611686018427387904)(hg:v[j]? =some (uO k x)):(fb v (j:Int) k).nice= .next (k+iR x):=by
 unfold iR at h1⊢
 have e0:IntKind.wrap .i64 (k+1)=k+1:=MI (by decide) h0 h1
 have e1:IntKind.wrap .i64 (k+1+1)=k+2:=kP 1 2 (by decide) (by decide) (by decide) h0 h1
 have e2:IntKind.wrap .i64 (k+2+1)=k+3:=kP 2 3 (by decide) (by decide) (by decide) h0 h1
 have e3:IntKind.wrap .i64 (k+3+1)=k+4:=kP 3 4 (by decide) (by decide) (by decide) h0 h1
 have e4:IntKind.wrap .i64 (k+4+1)=k+5:=kP 4 5 (by decide) (by decide) (by decide) h0 h1
 have e5:IntKind.wrap .i64 (k+5+1)=k+6:=kP 5 6 (by decide) (by decide) (by decide) h0 h1
 have e6:IntKind.wrap .i64 (k+6+1)=k+7:=kP 6 7 (by decide) (by decide) (by decide) h0 h1
 have e7:IntKind.wrap .i64 (k+7+1)=k+8:=kP 7 8 (by decide) (by decide) (by decide) h0 h1
 have e8:IntKind.wrap .i64 (k+8+1)=k+9:=kP 8 9 (by decide) (by decide) (by decide) h0 h1
 have e9:IntKind.wrap .i64 (k+9+1)=k+10:=kP 9 10 (by decide) (by decide) (by decide) h0 h1
 have e10:IntKind.wrap .i64 (k+10+1)=k+11:=kP 10 11 (by decide) (by decide) (by decide) h0 h1
 have e11:IntKind.wrap .i64 (k+11+1)=k+12:=kP 11 12 (by decide) (by decide) (by decide) h0 h1
 have e12:IntKind.wrap .i64 (k+12+1)=k+13:=kP 12 13 (by decide) (by decide) (by decide) h0 h1
 simp only[PX,fb,Z,getD_some hg,uO,e0,e1,e2,e3,e4,e5,e6,e7,e8,e9,e10,e11,e12,beq_self_eq_true,bne_self_eq_false,Bool.not_true,cond_false]
theorem Fn (xs:List Segm)(k:Int)(h0:0≤k)(h1:k+ba iR xs≤4611686018427387904):ku.f (xs,k,())=(k+ba iR xs,bI iR uO k xs):=by
 have:=hY (T:=λj a=>(fa j a).nice) (M:=uO) qc yd xs [] k h0 h1
 rw[List.nil_append,List.nil_append]at this
 simp only[PX,ku,aX,ai]
 refine(congrArg (Stp.elim _ _) this).trans ?_
 simp only[Stp.elim]
theorem GC (xs:List Segm)(k:Int)(h0:0≤k)(h1:k+ba iR xs≤4611686018427387904):hZ.f (bI iR uO k xs,k,())=k+ba iR xs:=by
 have:=gN (W:=Int) (H:=λj a=>(fb (bI iR uO k xs) j a).nice) (M:=uO) (bI iR uO k xs) qc (λj x k h0 h1 hg=>yk _ j x k h0 h1 hg) xs 0 k h0 h1 rfl
 simp only[PX,hZ,eS,ai,jG]
 refine(congrArg (Stp.elim _ _) this).trans ?_
 simp only[Stp.elim]
def fL (x:Keys):Int:=2*(x.now.rows.length:Int)+2*(x.before.rows.length:Int)
def sG (x:Tabl):Int:=ba dP x.conns+ba gE x.waiting
def ma (x:Door):Int:=fL x.keys+ba ev x.halves+sG x.table
def nF (x:Stac):Int:=ba dI x.link.cache+ma x.door
theorem qN (x:Tabl):0≤sG x:=by
 have:=bg kn x.conns
 have:=bg jW x.waiting
 unfold sG;omega
theorem kD (x:Door):0≤ma x:=by
 have:=bg kL x.halves
 have:=qN x.table
 unfold ma fL;omega
theorem xy (x:Stac):0≤nF x:=by
 have:=bg kM x.link.cache
 have:=kD x.door
 unfold nF;omega
theorem MB (x:Keys)(k:Int)(h0:0≤k)(h1:k+fL x≤4611686018427387904):p7.f (x,k,())=(k+fL x,iY k x.now.rows,iY (k+2*(x.now.rows.length:Int)) x.before.rows):=by
 unfold fL at h1⊢
 simp only[PX,p7,tM,Ew x.now.rows k h0 (by omega),Ew x.before.rows (k+2*(x.now.rows.length:Int)) (by omega) (by omega)]
 congr 1;omega
theorem LM (x:Keys)(k:Int)(h0:0≤k)(h1:k+fL x≤4611686018427387904)(y:Keys)(e1:y.now.rows=iY k x.now.rows)(e2:y.before.rows=iY (k+2*(x.now.rows.length:Int)) x.before.rows):pW.f (y,k,())=k+fL x:=by
 unfold fL at h1⊢
 simp only[PX,pW,tX,e1,e2,Eb x.now.rows k h0 (by omega)]
 rw[show decide (k+2*(x.now.rows.length:Int)<0)=false by simp;omega]
 simp only[cond_false,Eb x.before.rows (k+2*(x.now.rows.length:Int)) (by omega) (by omega)]
 rw[show decide (k+2*(x.now.rows.length:Int)<0)=false by simp;omega,show decide (k+2*(x.now.rows.length:Int)+2*(x.before.rows.length:Int)<0)=false by simp;omega]
 simp only[cond_false]
 rw[show decide (k+2*(x.now.rows.length:Int)+2*(x.before.rows.length:Int)<0)=false by simp;omega]
 simp only[cond_false]
 omega
theorem MD (x:Tabl)(k:Int)(h0:0≤k)(h1:k+sG x≤4611686018427387904):om.f (x,k,())=(k+sG x,bI dP mp k x.conns,bI gE oz (k+ba dP x.conns) x.waiting):=by
 have a:=bg kn x.conns
 have b:=bg jW x.waiting
 unfold sG at h1⊢
 simp only[PX,om,Lm x.conns k h0 (by omega),Ke x.waiting (k+ba dP x.conns) (by omega) (by omega)]
 congr 1;omega
theorem LH (x:Tabl)(k:Int)(h0:0≤k)(h1:k+sG x≤4611686018427387904)(y:Tabl)(e1:y.conns=bI dP mp k x.conns)(e2:y.waiting=bI gE oz (k+ba dP x.conns) x.waiting):o7.f (y,k,())=k+sG x:=by
 have a:=bg kn x.conns
 have b:=bg jW x.waiting
 unfold sG at h1⊢
 simp only[PX,o7,e1,e2,LL x.conns k h0 (by omega)]
 rw[show decide (k+ba dP x.conns<0)=false by simp;omega]
 simp only[cond_false,KI x.waiting (k+ba dP x.conns) (by omega) (by omega)]
 rw[show decide (k+ba dP x.conns+ba gE x.waiting<0)=false by simp;omega]
 simp only[cond_false]
 omega
theorem ut (x:Door)(k:Int)(h0:0≤k)(h1:k+ma x≤4611686018427387904):dE.f (x,k,())=(k+ma x,iY k x.keys.now.rows,iY (k+2*(x.keys.now.rows.length:Int)) x.keys.before.rows,bI ev rx (k+fL x.keys) x.halves,bI dP mp (k+fL x.keys+ba ev x.halves) x.table.conns,bI gE oz (k+fL x.keys+ba ev x.halves+ba dP x.table.conns) x.table.waiting):=by
 have a:=bg kL x.halves
 have b:=qN x.table
 have c:0≤fL x.keys:=by unfold fL;omega
 unfold ma at h1⊢
 simp only[PX,dE,MB x.keys k h0 (by omega),Mh x.halves (k+fL x.keys) (by omega) (by omega),MD x.table (k+fL x.keys+ba ev x.halves) (by omega) (by omega)]
 congr 1;omega
theorem E1 (x:Door)(k:Int)(h0:0≤k)(h1:k+ma x≤4611686018427387904)(y:Door)(e1:y.keys.now.rows=iY k x.keys.now.rows)(e2:y.keys.before.rows=iY (k+2*(x.keys.now.rows.length:Int)) x.keys.before.rows)(e3:y.halves=bI ev rx (k+fL x.keys) x.halves)(e4:y.table.conns=bI dP mp (k+fL x.keys+ba ev x.halves) x.table.conns)(e5:y.table.waiting=bI gE oz (k+fL x.keys+ba ev x.halves+ba dP x.table.conns) x.table.waiting):lc.f (y,k,())=k+ma x:=by
 have a:=bg kL x.halves
 have b:=qN x.table
 have c:0≤fL x.keys:=by unfold fL;omega
 unfold ma at h1⊢
 simp only[PX,lc,LM x.keys k h0 (by omega) y.keys e1 e2]
 rw[show decide (k+fL x.keys<0)=false by simp;omega]
 simp only[cond_false,e3,Mj x.halves (k+fL x.keys) (by omega) (by omega)]
 rw[show decide (k+fL x.keys+ba ev x.halves<0)=false by simp;omega]
 simp only[cond_false,LH x.table (k+fL x.keys+ba ev x.halves) (by omega) (by omega) y.table e4 e5]
 rw[show decide (k+fL x.keys+ba ev x.halves+sG x.table<0)=false by simp;omega]
 simp only[cond_false]
 omega
theorem EG (x:Stac)(k:Int)(h0:0≤k)(h1:k+nF x≤4611686018427387904):lW.f (x,k,())=(k+nF x,bI dI rt k x.link.cache,(dE.f (x.door,k+ba dI x.link.cache,())).2):=by
 have a:=bg kM x.link.cache
 have b:=kD x.door
 unfold nF at h1⊢
 simp only[PX,lW,vH,JN x.link.cache k h0 (by omega),ut x.door (k+ba dI x.link.cache) (by omega) (by omega)]
 congr 1;omega
theorem Nx (x:Conn)(h:ae x):dP x≤8589934616:=by
 have h2:x.r.held.length≤4294967296:=by unfold ae at h;omega
 have h3:=oC (n:=du) (B:=2) x.r.held λy _=>by unfold du;omega
 unfold dP;omega
theorem Be (d:Door)(h:aN d)(hc:d.table.conns.length≤268435456):ma d≤2400000000000000000:=by
 unfold aN at h
 obtain⟨h1,_,h2,_,h3,_,h4,h5⟩:=h
 have a:=oC (n:=ev) (B:=13) d.halves λy _=>by unfold ev;omega
 have b:=oC (n:=dP) (B:=8589934616) d.table.conns λy hy=>Nx y (h4 y hy)
 have c:=oC (n:=gE) (B:=3) d.table.waiting λy _=>by unfold gE;omega
 unfold ma fL sG
 omega
theorem LA (x:Segm):n9.f (x,x,())=true:=by simp only[PX,n9,xG,bne_self_eq_false,beq_self_eq_true,Bool.not_true,cond_false]
theorem Au (x:List Segm):iE.f (x,x,())=true:=by
 simp only[PX,iE,gz,bne_self_eq_false,cond_false]
 rw[iA _ _ λj=>by simp only[PX,ov,LA,Bool.not_true,cond_false]]
 rfl
theorem N4 {d:Door}(h:DO d):d.table.conns.length≤268435456:=by
 have h1:=h.tab.nc
 have h2:=h.tab.lim.c2
 omega
theorem Ny (xs:List Segm)(h:xs.length≤4294967296):0≤ba iR xs∧ba iR xs≤60000000000:=by
 have a:=oC (n:=iR) (B:=13) xs λy _=>by unfold iR;omega
 exact⟨bg qc xs,by omega⟩
theorem Et (x:List ah):jL.f (x,x,())=true:=by
 simp only[PX,jL,ig,bne_self_eq_false,cond_false]
 rw[iA _ _ λj=>by simp only[PX,pQ,beq_self_eq_true,Bool.not_true,cond_false]]
 rfl
theorem L4 (x:Stac)(k:Int)(h0:0≤k)(h1:k+nF x≤4611686018427387904)(y:Stac)(e0:y.link.cache=bI dI rt k x.link.cache)(e1:y.door.keys.now.rows=(dE.f (x.door,k+ba dI x.link.cache,())).2.1)(e2:y.door.keys.before.rows=(dE.f (x.door,k+ba dI x.link.cache,())).2.2.1)(e3:y.door.halves=(dE.f (x.door,k+ba dI x.link.cache,())).2.2.2.1)(e4:y.door.table.conns=(dE.f (x.door,k+ba dI x.link.cache,())).2.2.2.2.1)(e5:y.door.table.waiting=(dE.f (x.door,k+ba dI x.link.cache,())).2.2.2.2.2):lS.f (y,k,())=k+nF x:=by
 have a:=bg kM x.link.cache
 have b:=kD x.door
 unfold nF at h1⊢
 have m:=ut x.door (k+ba dI x.link.cache) (by omega) (by omega)
 rw[m]at e1 e2 e3 e4 e5
 simp only[PX,lS,vA,e0,Kn x.link.cache k h0 (by omega)]
 rw[show decide (k+ba dI x.link.cache<0)=false by simp;omega]
 simp only[cond_false]
 rw[show decide (k+ba dI x.link.cache<0)=false by simp;omega]
 simp only[cond_false,E1 x.door (k+ba dI x.link.cache) (by omega) (by omega) y.door e1 e2 e3 e4 e5]
 rw[show decide (k+ba dI x.link.cache+ma x.door<0)=false by simp;omega]
 simp only[cond_false]
 omega
theorem G9 (s:Stac)(h:bq s)(hc:s.door.table.conns.length≤268435456):nF s≤2500000000000000000:=by
 have a:=oC (n:=dI) (B:=3) s.link.cache λy _=>by unfold dI;omega
 have hl:s.link.cache.length≤4294967296:=by unfold bq at h;omega
 have hd:aN s.door:=by unfold bq at h;unfold aN;exact h.2
 have b:=Be s.door hd hc
 unfold nF
 omega
theorem My (xs:List ah)(h:xs.length≤4294967296):0≤ba eJ xs∧ba eJ xs≤4294967296:=by
 have a:=oC (n:=eJ) (B:=1) xs λy _=>by unfold eJ;omega
 exact⟨bg pe xs,by omega⟩
theorem Kg (d:Door)(hc:d.table.conns.length≤268435456):(pa ⟨bT d.table.conns,d.table.waiting⟩).conns.length≤268435456:=by
 have h:=List.length_filter_le (oJ ⟨bT d.table.conns,d.table.waiting⟩) (bT d.table.conns)
 have h2:(bT d.table.conns).length=d.table.conns.length:=by simp only[bT,List.length_map]
 show((bT d.table.conns).filter (oJ ⟨bT d.table.conns,d.table.waiting⟩)).length≤_
 omega
theorem BZ (d:Door)(hs:yo d)(hc:d.table.conns.length≤268435456):(jr.f (d,())).1.table.conns.length≤268435456:=by
 rw[pc d hs]
 cases dL.f (d,())with
 |false=>exact hc
 |true=>exact Kg d hc
theorem vT (x0:Door)(hf:bP [.st .door] (x0,())):kE.f (x0,())=true:=by
 simp only[bP,Pk.fact,gd,eo,Fl.fact,Ty.fl,Ty.toH]at hf
 obtain⟨⟨_,_,_,_,_,_,⟨n1,n2⟩,_,_,_,⟨m1,m2⟩,_,_,_,_,_,⟨hh,_⟩,⟨hl,he⟩,⟨hw,_⟩,_⟩,_⟩:=hf
 refine Eq.trans (b:=bif decide (cf.f (x0,1048576,())<0)then true else Tr.nice _) rfl ?_
 rcases Bool.eq_false_or_eq_true (decide (cf.f (x0,1048576,())<0))with hz|hz
 ·rw[hz,cond_true]
 have k1:0≤cf.f (x0,1048576,()):=by simpa using hz
 have hD:=(CQ x0 1048576 (by omega) (by omega) n1 n2 m1 m2 hh hl he hw k1)
 have hC:=(HS x0 1048576 (by omega) (by omega) n1 n2 m1 m2 hh hl he hw k1).2
 have hs:=xT hD.2
 have e1:=JH x0 hD.2
 have hg:=cz.c.h (x0,()) hD.2
 have hg1:aN (cz.f (x0,())).1:=hg.1
 have hg2:(cz.f (x0,())).2.length≤4294967296:=hg.2.1
 have hgc:(cz.f (x0,())).1.table.conns.length≤268435456:=by rw[←e1];exact BZ x0 hs (by omega)
 have b0:=Be x0 hD.2 (by omega)
 have b1:=Be _ hg1 hgc
 have c0:=kD x0
 have c1:=kD (cz.f (x0,())).1
 have c2:=Ny _ hg2
 rw[hz,cond_false]
 simp only[PX,K1,e1,KH,Au,bne_self_eq_false,Bool.not_true,cond_false]
 clear e1
 generalize cz.f (x0,())=g at*
 have m0:=ut x0 1 (by decide) (by omega)
 have m1:=ut g.1 1 (by decide) (by omega)
 have m2:=Fn g.2 (1+ma g.1) (by omega) (by omega)
 have z0:decide (1+ma x0<0)=false:=by simp;omega
 have z1:decide (1+ma g.1<0)=false:=by simp;omega
 have z2:decide (1+ma g.1+ba iR g.2<0)=false:=by simp;omega
 simp only[m0,m1,m2,z0,KH,Au,bne_self_eq_false,Bool.not_true,cond_false]
 rw[E1 g.1 1 (by decide) (by omega) _ rfl rfl rfl rfl rfl]
 simp only[z1,GC g.2 (1+ma g.1) (by omega) (by omega),z2,bne_self_eq_false,cond_false]
theorem Ig {s:Stac}(h:eh.f (s,())=true):s.door.table.conns.length≤268435456:=N4 ((xX _).1 ((lQ s).1 h).2)
theorem Az (s:Stac)(hs:yo s.door)(hc:s.door.table.conns.length≤268435456):gJ.f (s,())=cc.f (s,())∧(cc.f (s,())).1.door.table.conns.length≤268435456:=by
 rcases Bool.eq_false_or_eq_true (eh.f (s,()))with h|h
 ·rw[Bf s h,B5 s h hs]
  exact⟨rfl,Ig (FU s h)⟩
 ·have e1:cc.f (s,())=(s,[]):=by simp only[PX,cc,xu,h,Bool.not_false,cond_true]
  have e2:gJ.f (s,())=(s,[]):=by simp only[PX,gJ,EJ,Ev s hs,h,Bool.not_false,cond_true]
  rw[e1,e2]
  exact⟨rfl,hc⟩
theorem Gk {s:Stac}(h:bq s):aN s.door:=by unfold bq at h;unfold aN;exact h.2
theorem vp (x0:Stac)(hf:bP [.st .stac] (x0,())):jo.f (x0,())=true:=by
 simp only[bP,Pk.fact,gd,eo,Fl.fact,Ty.fl,Ty.toH]at hf
 obtain⟨⟨_,_,⟨hc,_⟩,_,_,_,_,_,_,⟨n1,n2⟩,_,_,_,⟨m1,m2⟩,_,_,_,_,_,⟨hh,_⟩,⟨hl,he⟩,⟨hw,_⟩,_⟩,_⟩:=hf
 refine Eq.trans (b:=bif decide (cK.f (x0,1048576,())<0)then true else Tr.nice _) rfl ?_
 rcases Bool.eq_false_or_eq_true (decide (cK.f (x0,1048576,())<0))with hz|hz
 ·rw[hz,cond_true]
 have k1:0≤cK.f (x0,1048576,()):=by simpa using hz
 have hS:=EW x0 1048576 (by omega) (by omega) hc n1 n2 m1 m2 hh hl he hw k1
 have hC:=(Lx x0 1048576 (by omega) (by omega) hc n1 n2 m1 m2 hh hl he hw k1).2
 have hs:=xT (Gk hS.2)
 obtain⟨e1,hgc⟩:=Az x0 hs (by omega)
 have hg:=cc.c.h (x0,()) hS.2
 have hg1:bq (cc.f (x0,())).1:=hg.1
 have hg2:(cc.f (x0,())).2.length≤4294967296:=hg.2.1
 have b0:=G9 x0 hS.2 (by omega)
 have b1:=G9 _ hg1 hgc
 have c0:=xy x0
 have c1:=xy (cc.f (x0,())).1
 have c2:=My _ hg2
 rw[hz,cond_false]
 simp only[PX,MN,e1,Lg,Et,bne_self_eq_false,Bool.not_true,cond_false]
 clear e1
 generalize cc.f (x0,())=g at*
 have m0:=EG x0 1 (by decide) (by omega)
 have m1:=EG g.1 1 (by decide) (by omega)
 have m2:=G8 g.2 (1+nF g.1) (by omega) (by omega)
 have z0:decide (1+nF x0<0)=false:=by simp;omega
 have z1:decide (1+nF g.1<0)=false:=by simp;omega
 have z2:decide (1+nF g.1+ba eJ g.2<0)=false:=by simp;omega
 simp only[m0,m1,m2,z0,Lg,Et,bne_self_eq_false,Bool.not_true,cond_false]
 rw[L4 g.1 1 (by decide) (by omega) _ rfl rfl rfl rfl rfl rfl]
 simp only[z1,GM g.2 (1+nF g.1) (by omega) (by omega),z2,bne_self_eq_false,cond_false]

end
end Go.Proofs.YtffjmkhjhchnmaaGreat
