/- Loops: what a loop comes to out of its rounds; functions with loops. -/
import Derived.Test.YtffjmkhjhchnmaaGreatFn
import Derived.Test.YtffjmkhjhchnmaaGreatTree
set_option linter.unusedVariables false
set_option linter.unusedSimpArgs false
namespace Go.Proofs.YtffjmkhjhchnmaaGreat
open Go Go.RowKit
structure LE where
 blk:Nat
 run:St→(γ:Type)→(Ex→St→Option γ)→Option γ
structure LC (sh:Sh)(A P W:Type) where
 i:Int
 a:A
 m:Int→A→sh.V
 c:Int→A→Bool
 T:Int→A→Tr (Stp A P)
 n:Int→Int
 st:Int
 k:Nat
 p:P→W
 e:Int→A→W
 o:(γ:Type)→(Ex→St→γ)→W→γ
@[reducible] def nB (sh:Sh) (A P:Type):Type 1:=LC sh A P (P⊕(Int×A))
@[reducible] def rL (sh:Sh) (A:Type):Type 1:=LC sh A Empty (Int×A)
def eR {A P:Type}(i:Int)(a:A):P⊕(Int×A):= .inr (i,a)
def oB {P X:Type}(e1:Ex)(s1:Sh)(f1:P→s1.V)(e2:Ex)(s2:Sh)(f2:X→s2.V):(γ:Type)→(Ex→St→γ)→P⊕X→γ:=λ_ k w=>Sum.elim (λp=>k e1 (s1.enc (f1 p))) (λx=>k e2 (s2.enc (f2 x))) w
def oN {X:Type}(e2:Ex)(s2:Sh)(f2:X→s2.V):(γ:Type)→(Ex→St→γ)→X→γ:=λ_ k x=>k e2 (s2.enc (f2 x))
def LC.ct {sh:Sh}{A P W:Type}(L:LC sh A P W):Ct (Int×A) W A P:=⟨Prod.mk,L.c,L.T,L.n,L.p,L.e⟩
def LC.B {sh:Sh}{A P W:Type}(L:LC sh A P W)(x:Int×A):Tr ((Int×A)⊕W):=L.ct.rd x.1 x.2
noncomputable def LC.lp {sh:Sh}{A P W:Type}(L:LC sh A P W):Lp W A P:=L.ct.lp L.B L.st L.k L.i L.a
structure LW (sh:Sh)(A P:Type) where
 a:A
 m:A→sh.V
 T:A→Tr (Stp A P)
 k:Nat
 o:(γ:Type)→(Ex→St→γ)→P→γ
def LW.cw {sh:Sh}{A P:Type}(L:LW sh A P):Cw A P A P:=⟨λa=>a,L.T,λp=>p⟩
noncomputable def LW.lp {sh:Sh}{A P:Type}[Inhabited P](L:LW sh A P):Lp P Empty P:=L.cw.lp L.cw.rd L.k L.a
@[reducible] def LC.U {sh:Sh} {A P W:Type} (L:LC sh A P W) (N:Int) (Inv:Int→A→Prop) (J:P→Prop):Prop:=L.lp.okI (λa=>Inv (max L.i N) a) J
@[reducible] def LC.D {sh:Sh} {A P W:Type} (L:LC sh A P W) (N:Int) (Inv:Int→A→Prop) (J:P→Prop):Prop:=L.lp.okI (λa=>Inv (min L.i (N-1)) a) J
@[reducible] def LC.S {sh:Sh} {A P W:Type} (L:LC sh A P W) (Inv:Int→A→Prop) (J:P→Prop):Prop:=L.lp.okI (Inv (L.i+L.st*L.k)) J
@[reducible] def LW.W {sh:Sh} {A P:Type} [Inhabited P] (L:LW sh A P) (J:P→Prop):Prop:=L.lp.okI (λ_=>True) J
theorem LC.okU {sh:Sh}{A P W:Type}{L:LC sh A P W}{N:Int}{Inv:Int→A→Prop}{J:P→Prop}{i:Int}{a:A}(hc:∀j a,L.c j a=decide (j<N))(hn:∀j,L.n j=up j)(hs:(L.i,L.a,L.st,L.k)=(i,a,1,Int.toNat (N-i)))(hi:0≤i)(hN:N≤4611686018427387904)(h0:Inv i a)
  (h1:∀(j:Int) (a:A),i≤j→j<N→Inv j a→(L.T j a).okQ (Stp.elim (Inv (j+1)) J)):L.U N Inv J:=by
 have:=L.ct.okU (B:=L.B) (λ_ _=>rfl) Inv J N hc hn hi hN h0 h1
 simp only[Prod.mk.injEq]at hs
 obtain⟨e1,e2,e3,e4⟩:=hs
 unfold LC.U LC.lp
 rw[e3,e4,e1,e2]
 exact this
theorem LC.okD {sh:Sh}{A P W:Type}{L:LC sh A P W}{N:Int}{Inv:Int→A→Prop}{J:P→Prop}{i:Int}{a:A}(hc:∀j a,L.c j a=decide (N≤j))(hn:∀j,L.n j=dn j)(hs:(L.i,L.a,L.st,L.k)=(i,a,-1,Int.toNat (i-N+1)))(hi:i≤9223372036854775807)(hN:0≤N)(h0:Inv i a)
  (h1:∀(j:Int) (a:A),N≤j→j≤i→Inv j a→(L.T j a).okQ (Stp.elim (Inv (j-1)) J)):L.D N Inv J:=by
 have:=L.ct.okD (B:=L.B) (λ_ _=>rfl) Inv J N hc hn hi hN h0 h1
 simp only[Prod.mk.injEq]at hs
 obtain⟨e1,e2,e3,e4⟩:=hs
 unfold LC.D LC.lp
 rw[e3,e4,e1,e2]
 exact this
theorem LC.okS {sh:Sh}{A P W:Type}{L:LC sh A P W}{Inv:Int→A→Prop}{J:P→Prop}(h0:Inv L.i L.a)
  (h1:∀(j:Nat) (a:A),j<L.k→Inv (L.i+L.st*j) a→(L.c (L.i+L.st*j) a=true∧L.n (L.i+L.st*j)=L.i+L.st*j+L.st)∧(L.T (L.i+L.st*j) a).okQ (Stp.elim (Inv (L.i+L.st*j+L.st)) J))
  (h2:∀(a:A),Inv (L.i+L.st*L.k) a→L.c (L.i+L.st*L.k) a=false):L.S Inv J:=
 L.ct.ok (B:=L.B) (λ_ _=>rfl) Inv J h0 h1 h2
theorem LW.okW {sh:Sh}{A P:Type}[Inhabited P]{L:LW sh A P}(Inv:A→Prop){J:P→Prop}(meas:A→Nat){a:A}(hk:(L.a,L.k)=(a,meas a))(h0:Inv a)
  (h:∀a,Inv a→(L.T a).okQ (Stp.elim (λa'=>Inv a'∧meas a'<meas a) J)):L.W J:=by
 have:=L.cw.ok (B:=L.cw.rd) (λ_=>rfl) Inv J meas h0 h
 simp only[Prod.mk.injEq]at hk
 unfold LW.W LW.lp
 rw[hk.1,hk.2]
 exact this
theorem iT {sh:Sh}{A P W:Type}{L:LC sh A P W}{N:Int}{Inv:Int→A→Prop}{J:P→Prop}{i:Int}{a:A}(hi:0≤i)(hN:N≤4611686018427387904)(h0:Inv i a)(hc:∀j a,L.c j a=decide (j<N):=by exact λ_ _=>rfl) (hn:∀j,L.n j=up j:=by exact λ_=>rfl) (hs:(L.i,L.a,L.st,L.k)=(i,a,1,Int.toNat (N-i)):=by exact rfl)
  (h1:∀(j:Int) (a:A),i≤j→j<N→Inv j a→(L.T j a).okQ (Stp.elim (Inv (j+1)) J):=by
  repeat' first
   |with_reducible exact True.intro
   |refine Tr.WE ?_ ?_
   |refine Tr.W2 ?_ ?_
   |(with_reducible intro _;first|exact Empty.elim ‹_› |repeat cases ‹_×_›)
   |refine Tr.C ?_ ?_
   |refine Tr.I ?_ ?_
   |refine Tr.V ?_
   |refine Tr.G2 ?_ ?_
   |refine Tr.G3 ?_ ?_
   |refine Tr.G4 ?_ ?_
   |refine Tr.Gb ?_ ?_
   |refine Tr.G1 ?_ ?_
   |refine Tr.G ?_ ?_
   |refine Tr.Rn ?_
   |refine Tr.Ro ?_
   |refine Tr.R ?_
   |refine Tr.Bs ?_ ?_
   |refine Tr.Ba ?_ ?_
   |refine Tr.B (Q':=λ_=>True) ?_ ?_
   |refine Tr.Sl ?_
   |refine Tr.Sr ?_
   |refine Tr.S ?_ ?_
   |refine Tr.N ?_ ?_
  all_goals first
   |exact True.intro
   |((try simp only[LC.lp,LC.ct,Ct.lp,LW.lp,LW.cw,Cw.lp,Tr.nice,jt]at*)<;>grind)
  ):L.U N Inv J:=LC.okU hc hn hs hi hN h0 h1
theorem Rj {sh:Sh}{A P W:Type}{L:LC sh A P W}{N:Int}{Inv:Int→A→Prop}{J:P→Prop}{i:Int}{a:A}(hi:i≤9223372036854775807)(hN:0≤N)(h0:Inv i a)(hc:∀j a,L.c j a=decide (N≤j):=by exact λ_ _=>rfl) (hn:∀j,L.n j=dn j:=by exact λ_=>rfl) (hs:(L.i,L.a,L.st,L.k)=(i,a,-1,Int.toNat (i-N+1)):=by exact rfl)
  (h1:∀(j:Int) (a:A),N≤j→j≤i→Inv j a→(L.T j a).okQ (Stp.elim (Inv (j-1)) J):=by
  repeat' first
   |with_reducible exact True.intro
   |refine Tr.WE ?_ ?_
   |refine Tr.W2 ?_ ?_
   |(with_reducible intro _;first|exact Empty.elim ‹_› |repeat cases ‹_×_›)
   |refine Tr.C ?_ ?_
   |refine Tr.I ?_ ?_
   |refine Tr.V ?_
   |refine Tr.G2 ?_ ?_
   |refine Tr.G3 ?_ ?_
   |refine Tr.G4 ?_ ?_
   |refine Tr.Gb ?_ ?_
   |refine Tr.G1 ?_ ?_
   |refine Tr.G ?_ ?_
   |refine Tr.Rn ?_
   |refine Tr.Ro ?_
   |refine Tr.R ?_
   |refine Tr.Bs ?_ ?_
   |refine Tr.Ba ?_ ?_
   |refine Tr.B (Q':=λ_=>True) ?_ ?_
   |refine Tr.Sl ?_
   |refine Tr.Sr ?_
   |refine Tr.S ?_ ?_
   |refine Tr.N ?_ ?_
  all_goals first
   |exact True.intro
   |((try simp only[LC.lp,LC.ct,Ct.lp,LW.lp,LW.cw,Cw.lp,Tr.nice,jt]at*)<;>grind)
  ):L.D N Inv J:=LC.okD hc hn hs hi hN h0 h1
theorem Rk {sh:Sh}{A P:Type}[Inhabited P]{L:LW sh A P}(Inv:A→Prop){J:P→Prop}(meas:A→Nat){a:A}(h0:Inv a)(hk:(L.a,L.k)=(a,meas a):=by exact rfl)
  (h:∀a,Inv a→(L.T a).okQ (Stp.elim (λa'=>Inv a'∧meas a'<meas a) J):=by
  repeat' first
   |with_reducible exact True.intro
   |refine Tr.WE ?_ ?_
   |refine Tr.W2 ?_ ?_
   |(with_reducible intro _;first|exact Empty.elim ‹_› |repeat cases ‹_×_›)
   |refine Tr.C ?_ ?_
   |refine Tr.I ?_ ?_
   |refine Tr.V ?_
   |refine Tr.G2 ?_ ?_
   |refine Tr.G3 ?_ ?_
   |refine Tr.G4 ?_ ?_
   |refine Tr.Gb ?_ ?_
   |refine Tr.G1 ?_ ?_
   |refine Tr.G ?_ ?_
   |refine Tr.Rn ?_
   |refine Tr.Ro ?_
   |refine Tr.R ?_
   |refine Tr.Bs ?_ ?_
   |refine Tr.Ba ?_ ?_
   |refine Tr.B (Q':=λ_=>True) ?_ ?_
   |refine Tr.Sl ?_
   |refine Tr.Sr ?_
   |refine Tr.S ?_ ?_
   |refine Tr.N ?_ ?_
  all_goals first
   |exact True.intro
   |((try simp only[LC.lp,LC.ct,Ct.lp,LW.lp,LW.cw,Cw.lp,Tr.nice,jt]at*)<;>grind)
  ):L.W J:=LW.okW Inv meas hk h0 h
noncomputable def Mf {X W:Type}(blk:Nat)(sh:Sh)(x:sh.V→X)(B:sh.V→X→Tr (X⊕W))(fuel:sh.V→Nat)(o:sh.V→(γ:Type)→(Ex→St→γ)→W→γ):LE where
 blk:=blk
 run s γ k:=rJ (sh.dec s) none λv=>rJ (tj (B v) (fuel v+1) (x v)) none λw=>o v (Option γ) k w
noncomputable def ji {A P W:Type}(blk:Nat)(sh:Sh)(D:sh.V→LC sh A P W):LE:=Mf blk sh (λv=>((D v).i,(D v).a)) (λv=>(D v).B) (λv=>(D v).k) (λv=>(D v).o)
noncomputable def Qz {A P:Type}(blk:Nat)(sh:Sh)(D:sh.V→LW sh A P):LE:=Mf blk sh (λv=>(D v).a) (λv=>(D v).cw.rd) (λv=>(D v).k) (λv=>(D v).o)
def la (K Ko:Keep):An:=⟨K,Ko,⟨[],[]⟩,[]⟩
def lb (a b:List Nat):An:=⟨⟨a,[],false,0⟩,⟨b,[],false,0⟩,⟨[],[]⟩,[]⟩
def cE:List LE→Dr
 |[],_,_,_,_=>none
 |e::r,blk,s,γ,k=>match Nat.beq e.blk blk with
  |true=>e.run s γ k
  |false=>cE r blk s γ k
def Kb {γ:Type}(A:An)(next:St→Option γ)(k:Ex→St→Option γ):Ex→St→Option γ
 | .normal,s'=>next (s'.norm A.keep)
 |e,s'=>k e (s'.norm A.kout)
section
variable {P:Program} {te:TE} {n:Nat} {w0:World} {mo:gj} {I0:Nat→Prop} {orc:HU} {lorc:Dr} {ann:List (Nat×An)}
theorem HD {γ:Type}{A:An}{round:St→(Ex→St→Option γ)→Option γ}{m:Nat}{s:St}{k:Ex→St→Option γ}:EP A.keep A.kout round (m+1) s k=round s (Kb A (λs'=>EP A.keep A.kout round m s' k) k):=by
 simp only[EP]
 congr 1
def II (r:Nat):List (Nat×An)→Bool
 |[]=>true
 |p::l=>Nat.beq p.2.keep.roots r&&Nat.beq p.2.kout.roots r&&II r l
theorem u6 {r:Nat}:∀{ann:List (Nat×An)},II r ann=true→∀b A,ac ann b=some A→A.keep.roots=r∧A.kout.roots=r
 |[],_,_,_,h=>by cases h
 |p::l,h,b,K,hl=>by
  simp only[II,Bool.and_eq_true]at h
  obtain⟨⟨h1,h2⟩,h3⟩:=h
  obtain⟨i,K'⟩:=p
  simp only[ac]at hl
  cases hbi:Nat.beq i b with
  |true=>rw[hbi]at hl;cases hl;exact⟨Nat.eq_of_beq_eq_true h1,Nat.eq_of_beq_eq_true h2⟩
  |false=>rw[hbi]at hl;exact u6 h3 b K hl
def wt (r:Nat)(A:An)(ann:List (Nat×An)):Bool:=Nat.ble r 10000&&Nat.beq A.keep.roots r&&Nat.beq A.kout.roots r&&II r ann
theorem Qu {r0:Nat}(hmo:mo.length=r0)(hte:fQ te P=true)(hmix:P.follows .mixedOrders=true)(ho:qV (kI P) orc){A:An}(hro:wt r0 A ann=true){blk:Nat}{body:Code}(hl:∀p∈gI body blk,CU P (ui w0 mo n I0) lorc p.1 p.2)
  {X W:Type}{sh:Sh}(x:sh.V→X)(m:sh.V→X→sh.V)(B:sh.V→X→Tr (X⊕W))(fuel:sh.V→Nat)(o:sh.V→(γ:Type)→(Ex→St→γ)→W→γ)(hm:∀v,m v (x v)=v)
  (hstep:∀(v:sh.V) (y:X) (γ:Type) (next:St→Option γ) (k:Ex→St→Option γ),eG te orc lorc n ann body blk (sh.enc (m v y)) γ (Kb A next k)=(B v y).run none λr=>Sum.elim (λy'=>next (sh.enc (m v y'))) (λw=>o v (Option γ) k w) r):
  CU P (ui w0 mo n I0) (cE [Mf blk sh x B fuel o]) blk body:=by
 simp only[wt,Bool.and_eq_true]at hro
 obtain⟨⟨⟨hr1,hr2⟩,hr3⟩,hr4⟩:=hro
 have hr1:=Nat.le_of_ble_eq_true hr1
 refine NI (r:=r0) (orc:=orc) (lorc:=lorc) (ann:=ann) (keep:=A.keep) (kout:=A.kout) (u6 hr4) (N2 hte w0 mo n I0) (λkeep s a w hk hs hb=>IJ hs hb keep (by rw[hk,hmo]) (by omega)) (λ_ _ _ _ h=>B2 h) hmix ho (Nat.eq_of_beq_eq_true hr2) (Nat.eq_of_beq_eq_true hr3) hl ?_
 intro s γ k z h
 have hbb:Nat.beq blk blk=true:=Nat.beq_refl blk
 simp only[cE,Mf,hbb]at h
 obtain⟨v,hv,h1⟩:=ee h
 obtain⟨w,hw,h2⟩:=ee h1
 clear h h1
 have hs:s=sh.enc (m v (x v)):=by rw[hm,Sh.dec_enc hv]
 rw[hs]
 refine⟨fuel v+1, ?_⟩
 suffices ∀q y,tj (B v) q y=some w→EP A.keep A.kout (λs k=>eG te orc lorc n ann body blk s γ k) q (sh.enc (m v y)) k=some z from this _ _ hw
 clear hw hs hv
 intro q
 induction q with
 |zero=>intro y hw;cases hw
 |succ q ih=>
  intro y hw
  rw[HD,hstep,Tr.run_opt]
  simp only[tj]at hw
  rw[Tr.run_opt]at hw
  obtain⟨r,hq,hw⟩:=ee hw
  rw[hq]
  cases r with
  |inl y'=>exact ih y' hw
  |inr w'=>cases hw;exact h2
theorem E9 {S:FSt→Act→World→Prop}{lorc lorc':Dr}{blk:Nat}{body:Code}(h:CU P S lorc blk body)(he:lorc' blk=lorc blk):CU P S lorc' blk body:=by
 intro s γ k z hz
 rw[he]at hz
 exact h s γ k z hz
end
def dh (fn:Func):Code:=match fn.body with|some c=>c|none=> .skip
def cu:Code→Nat→List Nat→Nat×Code
 |c,b,[]=>(b,c)
 |c,b,i::r=>match(gI c b)[i]? with
  |some p=>cu p.2 p.1 r
  |none=>(b,.skip)
theorem yR:∀(c:Code) (b:Nat) (r:List Nat) (i:Nat),cu c b (r++[i])=cu (cu c b r).2 (cu c b r).1 [i]
 |c,b,[],i=>rfl
 |c,b,j::r,i=>by
  simp only[List.cons_append,cu]
  split
  ·rename_i p _;exact yR p.2 p.1 r i
  ·simp[gI]
def wV:List Nat→Bool
 |[]=>true
 |x::r=> !vJ x r&&wV r
def LR (ls:List LE):List Nat:=ls.map (·.blk)
theorem EN:∀{ls:List LE} {j:Nat} {l:LE},wV (LR ls)=true→ls[j]? =some l→cE ls l.blk=cE [l] l.blk
 |[],_,_,_,h=>by simp at h
 |e::r,0,l,_,h=>by
  simp only[List.getElem?_cons_zero,Option.some.injEq]at h
  subst h
  funext s γ k
  simp only[cE,Nat.beq_refl]
 |e::r,j+1,l,hd,h=>by
  simp only[List.getElem?_cons_succ]at h
  simp only[LR,List.map_cons,wV,Bool.and_eq_true,Bool.not_eq_true']at hd
  have hne:Nat.beq e.blk l.blk=false:=by
   cases hb:Nat.beq e.blk l.blk with
   |false=>rfl
   |true=>
    have h1:=Nat.eq_of_beq_eq_true hb
    have:vJ e.blk (r.map (·.blk))=true:=fW.2 (by rw[h1];exact List.mem_map.2 ⟨l,List.mem_of_getElem? h,rfl⟩)
    rw[this]at hd
    cases hd.1
  have:=EN (ls:=r) hd.2 h
  rw[←this]
  funext s γ k
  simp only[cE,hne]
structure Fx where
 f:Nat
 fn:Func
 ann:List (Nat×An)
 r:Nat
section
variable {P:Program}
def LS (P:Program)(X:Fx)(path:List Nat)(l:LE):Prop:=∀(w0:World) (mo:gj) (I0:Nat→Prop),mo.length=X.r→CU P (ui w0 mo X.fn.ntmps I0) (cE [l]) (cu (dh X.fn) 0 path).1 (cu (dh X.fn) 0 path).2
def mq (P:Program)(X:Fx)(path:List Nat):List LE→Nat→Prop
 |[],_=>True
 |l::r,j=>LS P X (path++[j]) l∧mq P X path r (j+1)
theorem mq.at {X:Fx}{path:List Nat}:∀{ls:List LE} {i j:Nat} {l:LE},mq P X path ls i→ls[j]? =some l→LS P X (path++[i+j]) l
 |[],_,_,_,_,h=>by simp at h
 |e::r,i,0,l,hA,h=>by
  simp only[List.getElem?_cons_zero,Option.some.injEq]at h
  subst h
  exact hA.1
 |e::r,i,j+1,l,hA,h=>by
  simp only[List.getElem?_cons_succ]at h
  have:=mq.at hA.2 h
  rwa [show i+1+j=i+(j+1) from by omega]at this
def pG (c:Code)(blk:Nat)(ls:List LE):Bool:=Me ((gI c blk).map (·.1)) (LR ls)&&wV (LR ls)
theorem Ed {X:Fx}{path:List Nat}{ls:List LE}(hA:mq P X path ls 0)(hfit:pG (cu (dh X.fn) 0 path).2 (cu (dh X.fn) 0 path).1 ls=true){w0:World}{mo:gj}{I0:Nat→Prop}(hmo:mo.length=X.r):
  ∀p∈gI (cu (dh X.fn) 0 path).2 (cu (dh X.fn) 0 path).1,CU P (ui w0 mo X.fn.ntmps I0) (cE ls) p.1 p.2:=by
 intro p hp
 simp only[pG,Bool.and_eq_true]at hfit
 obtain⟨h1,h2⟩:=hfit
 have h1:=Ad h1
 obtain⟨j,hj⟩:=List.getElem?_of_mem hp
 have hb:(LR ls)[j]? =some p.1:=by rw[←h1,List.getElem?_map,hj];rfl
 simp only[LR,List.getElem?_map,Option.map_eq_some_iff]at hb
 obtain⟨l,hl,hlb⟩:=hb
 have h3:=(mq.at hA hl) w0 mo I0 hmo
 have h4:cu (dh X.fn) 0 (path++[0+j])=p:=by
  rw[yR,Nat.zero_add]
  simp only[cu,hj]
 rw[h4]at h3
 refine E9 h3 ?_
 rw[←hlb]
 exact EN h2 hl
structure Seat (P:Program) where
 te:TE
 ok:fQ te P=true
 mix:P.follows .mixedOrders=true
theorem PD (S:Seat P){X:Fx}{orc:HU}(ho:qV (kI P) orc)(path:List Nat){A:An}{blk:Nat}{Y W:Type}{sh:Sh}(x:sh.V→Y)(m:sh.V→Y→sh.V)(B:sh.V→Y→Tr (Y⊕W))(fuel:sh.V→Nat)(o:sh.V→(γ:Type)→(Ex→St→γ)→W→γ)(inner:List LE)(hm:∀v,m v (x v)=v)
  (hc:(wt X.r A X.ann&&Nat.beq (cu (dh X.fn) 0 path).1 blk&&pG (cu (dh X.fn) 0 path).2 (cu (dh X.fn) 0 path).1 inner)=true)(hin:mq P X path inner 0)
  (hstep:∀(v:sh.V) (y:Y) (γ:Type) (next:St→Option γ) (k:Ex→St→Option γ),eG S.te orc (cE inner) X.fn.ntmps X.ann (cu (dh X.fn) 0 path).2 blk (sh.enc (m v y)) γ (Kb A next k)=(B v y).run none λr=>Sum.elim (λy'=>next (sh.enc (m v y'))) (λw=>o v (Option γ) k w) r):LS P X path (Mf blk sh x B fuel o):=by
 intro w0 mo I0 hmo
 simp only[Bool.and_eq_true]at hc
 obtain⟨⟨h1,h2⟩,h3⟩:=hc
 have h4:=Ed hin h3 (w0:=w0) (I0:=I0) hmo
 have h5:=Nat.eq_of_beq_eq_true h2
 show CU P (ui w0 mo X.fn.ntmps I0) (cE [Mf blk sh x B fuel o]) (cu (dh X.fn) 0 path).1 (cu (dh X.fn) 0 path).2
 rw[h5]at h4⊢
 exact Qu hmo S.ok S.mix ho h1 h4 x m B fuel o hm hstep
def tS (X:Fx)(path:List Nat)(blk:Nat)(inner:List LE):Bool:=match ac X.ann blk with
 |some A=>wt X.r A X.ann&&Nat.beq (cu (dh X.fn) 0 path).1 blk&&pG (cu (dh X.fn) 0 path).2 (cu (dh X.fn) 0 path).1 inner
 |none=>false
def F8 (X:Fx)(blk:Nat):An:=(ac X.ann blk).getD (la ⟨[],[],false,0⟩ ⟨[],[],false,0⟩)
theorem Cn {X:Fx}{path:List Nat}{blk:Nat}{inner:List LE}(h:tS X path blk inner=true):(wt X.r (F8 X blk) X.ann&&Nat.beq (cu (dh X.fn) 0 path).1 blk&&pG (cu (dh X.fn) 0 path).2 (cu (dh X.fn) 0 path).1 inner)=true:=by
 unfold tS at h
 split at h
 ·rename_i A hA
  have:F8 X blk=A:=by unfold F8;rw[hA];rfl
  rw[this];exact h
 ·cases h
theorem dW (S:Seat P){X:Fx}{orc:HU}(ho:qV (kI P) orc)(path:List Nat){blk:Nat}{A P' W:Type}{sh:Sh}(D:sh.V→LC sh A P' W)(inner:List LE)(hin:mq P X path inner 0)
  (hc:tS X path blk inner=true:=by kernel_rfl) (hm:∀v,(D v).m (D v).i (D v).a=v:=by intro _;kernel_rfl) (h:∀(v:sh.V) (i:Int) (a:A) (γ:Type) (next:St→Option γ) (k:Ex→St→Option γ),eG S.te orc (cE inner) X.fn.ntmps X.ann (cu (dh X.fn) 0 path).2 blk (sh.enc ((D v).m i a)) γ (Kb (F8 X blk) next k)=((D v).ct.rd i a).run none λr=>Sum.elim (λy'=>next (sh.enc ((D v).m y'.1 y'.2))) (λw=>(D v).o (Option γ) k w) r:=by intros;kernel_rfl):LS P X path (ji blk sh D):=
 PD S ho path (A:=F8 X blk) _ (λv y=>(D v).m y.1 y.2) _ _ _ inner hm (Cn hc) hin λv y=>h v y.1 y.2
theorem PE (S:Seat P){X:Fx}{orc:HU}(ho:qV (kI P) orc)(path:List Nat){blk:Nat}{A P':Type}{sh:Sh}(D:sh.V→LW sh A P')(inner:List LE)(hin:mq P X path inner 0)(hc:tS X path blk inner=true:=by kernel_rfl) (hm:∀v,(D v).m (D v).a=v:=by intro _;kernel_rfl)
  (h:∀(v:sh.V) (a:A) (γ:Type) (next:St→Option γ) (k:Ex→St→Option γ),eG S.te orc (cE inner) X.fn.ntmps X.ann (cu (dh X.fn) 0 path).2 blk (sh.enc ((D v).m a)) γ (Kb (F8 X blk) next k)=((D v).cw.rd a).run none λr=>Sum.elim (λy'=>next (sh.enc ((D v).m y'))) (λw=>(D v).o (Option γ) k w) r:=by intros;kernel_rfl):LS P X path (Qz blk sh D):=
 PD S ho path (A:=F8 X blk) _ (λv y=>(D v).m y) _ _ _ inner hm (Cn hc) hin h
def mw (X:Fx)(outer:List LE):Bool:=Nat.ble X.r 10000&&II X.r X.ann&&pG (dh X.fn) 0 outer&& !(X.fn.name== "runtime.NumGoroutine")&&X.fn.body.isSome
theorem Ru (S:Seat P){X:Fx}{orc:HU}(ho:qV (kI P) orc)(hf:P.funcs[X.f]? =some X.fn){outer:List LE}(hc:mw X outer=true)(hin:mq P X [] outer 0){A:List PV}{O O':List MO}{R:cS}(hO:O.length=X.r)(hO':O'.length=O.length)
  (h:qn S.te orc (cE outer) X.ann X.fn A O=some (R++O'.map nj)):kI P X.f A O R O':=by
 simp only[mw,Bool.and_eq_true,Bool.not_eq_true']at hc
 obtain⟨⟨⟨⟨h1,h2⟩,h3⟩,h4⟩,_⟩:=hc
 refine HZ S.ok S.mix ho hf h4 (lorc:=cE outer) (ann:=X.ann) (by rw[hO];exact u6 h2) (by rw[hO];exact Nat.le_of_ble_eq_true h1) hO' (λc hc w0 mo I0 hmo=> ?_) h
 have:dh X.fn=c:=by unfold dh;rw[hc]
 rw[←this]
 exact Ed hin h3 (hmo.trans hO)
end
end Go.Proofs.YtffjmkhjhchnmaaGreat
