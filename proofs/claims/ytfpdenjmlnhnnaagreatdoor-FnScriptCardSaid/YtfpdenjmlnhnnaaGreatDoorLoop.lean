/- Loops: what a loop comes to out of its rounds; functions with loops. -/
import Derived.Test.YtfpdenjmlnhnnaaGreatDoorFn
import Derived.Test.YtfpdenjmlnhnnaaGreatDoorTree
set_option linter.unusedVariables false
set_option linter.unusedSimpArgs false
namespace Go.Proofs.YtfpdenjmlnhnnaaGreatDoor
open Go Go.RowKit
structure LE where
 blk:Nat
 run:St→(γ:Type)→(Ex→St→Option γ)→Option γ
structure LC (sh:Sh)(A P W:Type) where
 i:Int
 a:A
 m:Int→A→sh.V
 c:Int→A→Bool
 T:Int→A→Tr (Stp A P)
 n:Int→Int
 st:Int
 k:Nat
 p:P→W
 e:Int→A→W
 o:(γ:Type)→(Ex→St→γ)→W→γ
@[reducible] def v8 (sh:Sh) (A P:Type):Type 1:=LC sh A P (P⊕(Int×A))
@[reducible] def tV (sh:Sh) (A:Type):Type 1:=LC sh A Empty (Int×A)
def eR {A P:Type}(i:Int)(a:A):P⊕(Int×A):= .inr (i,a)
def oB {P X:Type}(e1:Ex)(s1:Sh)(f1:P→s1.V)(e2:Ex)(s2:Sh)(f2:X→s2.V):(γ:Type)→(Ex→St→γ)→P⊕X→γ:=λ_ k w=>Sum.elim (λp=>k e1 (s1.enc (f1 p))) (λx=>k e2 (s2.enc (f2 x))) w
def oN {X:Type}(e2:Ex)(s2:Sh)(f2:X→s2.V):(γ:Type)→(Ex→St→γ)→X→γ:=λ_ k x=>k e2 (s2.enc (f2 x))
def LC.ct {sh:Sh}{A P W:Type}(L:LC sh A P W):Ct (Int×A) W A P:=⟨Prod.mk,L.c,L.T,L.n,L.p,L.e⟩
def LC.B {sh:Sh}{A P W:Type}(L:LC sh A P W)(x:Int×A):Tr ((Int×A)⊕W):=L.ct.rd x.1 x.2
noncomputable def LC.lp {sh:Sh}{A P W:Type}(L:LC sh A P W):Lp W A P:=L.ct.lp L.B L.st L.k L.i L.a
structure LW (sh:Sh)(A P:Type) where
 a:A
 m:A→sh.V
 T:A→Tr (Stp A P)
 k:Nat
 o:(γ:Type)→(Ex→St→γ)→P→γ
def LW.cw {sh:Sh}{A P:Type}(L:LW sh A P):Cw A P A P:=⟨λa=>a,L.T,λp=>p⟩
noncomputable def LW.lp {sh:Sh}{A P:Type}[Inhabited P](L:LW sh A P):Lp P Empty P:=L.cw.lp L.cw.rd L.k L.a
@[reducible] def LC.U {sh:Sh} {A P W:Type} (L:LC sh A P W) (N:Int) (Inv:Int→A→Prop) (J:P→Prop):Prop:=L.lp.okI (λa=>Inv (max L.i N) a) J
@[reducible] def LC.D {sh:Sh} {A P W:Type} (L:LC sh A P W) (N:Int) (Inv:Int→A→Prop) (J:P→Prop):Prop:=L.lp.okI (λa=>Inv (min L.i (N-1)) a) J
@[reducible] def LC.S {sh:Sh} {A P W:Type} (L:LC sh A P W) (Inv:Int→A→Prop) (J:P→Prop):Prop:=L.lp.okI (Inv (L.i+L.st*L.k)) J
@[reducible] def LW.W {sh:Sh} {A P:Type} [Inhabited P] (L:LW sh A P) (J:P→Prop):Prop:=L.lp.okI (λ_=>True) J
theorem LC.okU {sh:Sh}{A P W:Type}{L:LC sh A P W}{N:Int}{Inv:Int→A→Prop}{J:P→Prop}{i:Int}{a:A}(hc:∀j a,L.c j a=decide (j<N))(hn:∀j,L.n j=up j)(hs:(L.i,L.a,L.st,L.k)=(i,a,1,Int.toNat (N-i)))(hi:0≤i)(hN:N≤4611686018427387904)(h0:Inv i a)
  (h1:∀(j:Int) (a:A),i≤j→j<N→Inv j a→(L.T j a).okQ (Stp.elim (Inv (j+1)) J)):L.U N Inv J:=by
 have:=L.ct.okU (B:=L.B) (λ_ _=>rfl) Inv J N hc hn hi hN h0 h1
 simp only[Prod.mk.injEq]at hs
 obtain⟨e1,e2,e3,e4⟩:=hs
 unfold LC.U LC.lp
 rw[e3,e4,e1,e2]
 exact this
theorem LC.okD {sh:Sh}{A P W:Type}{L:LC sh A P W}{N:Int}{Inv:Int→A→Prop}{J:P→Prop}{i:Int}{a:A}(hc:∀j a,L.c j a=decide (N≤j))(hn:∀j,L.n j=dn j)(hs:(L.i,L.a,L.st,L.k)=(i,a,-1,Int.toNat (i-N+1)))(hi:i≤9223372036854775807)(hN:0≤N)(h0:Inv i a)
  (h1:∀(j:Int) (a:A),N≤j→j≤i→Inv j a→(L.T j a).okQ (Stp.elim (Inv (j-1)) J)):L.D N Inv J:=by
 have:=L.ct.okD (B:=L.B) (λ_ _=>rfl) Inv J N hc hn hi hN h0 h1
 simp only[Prod.mk.injEq]at hs
 obtain⟨e1,e2,e3,e4⟩:=hs
 unfold LC.D LC.lp
 rw[e3,e4,e1,e2]
 exact this
theorem LC.okS {sh:Sh}{A P W:Type}{L:LC sh A P W}{Inv:Int→A→Prop}{J:P→Prop}(h0:Inv L.i L.a)
  (h1:∀(j:Nat) (a:A),j<L.k→Inv (L.i+L.st*j) a→(L.c (L.i+L.st*j) a=true∧L.n (L.i+L.st*j)=L.i+L.st*j+L.st)∧(L.T (L.i+L.st*j) a).okQ (Stp.elim (Inv (L.i+L.st*j+L.st)) J))
  (h2:∀(a:A),Inv (L.i+L.st*L.k) a→L.c (L.i+L.st*L.k) a=false):L.S Inv J:=
 L.ct.ok (B:=L.B) (λ_ _=>rfl) Inv J h0 h1 h2
theorem LW.okW {sh:Sh}{A P:Type}[Inhabited P]{L:LW sh A P}(Inv:A→Prop){J:P→Prop}(meas:A→Nat){a:A}(hk:(L.a,L.k)=(a,meas a))(h0:Inv a)
  (h:∀a,Inv a→(L.T a).okQ (Stp.elim (λa'=>Inv a'∧meas a'<meas a) J)):L.W J:=by
 have:=L.cw.ok (B:=L.cw.rd) (λ_=>rfl) Inv J meas h0 h
 simp only[Prod.mk.injEq]at hk
 unfold LW.W LW.lp
 rw[hk.1,hk.2]
 exact this
theorem pd {sh:Sh}{A P W:Type}{L:LC sh A P W}{N:Int}{Inv:Int→A→Prop}{J:P→Prop}{i:Int}{a:A}(hi:0≤i)(hN:N≤4611686018427387904)(h0:Inv i a)(hc:∀j a,L.c j a=decide (j<N):=by exact λ_ _=>rfl) (hn:∀j,L.n j=up j:=by exact λ_=>rfl) (hs:(L.i,L.a,L.st,L.k)=(i,a,1,Int.toNat (N-i)):=by exact rfl)
  (h1:∀(j:Int) (a:A),i≤j→j<N→Inv j a→(L.T j a).okQ (Stp.elim (Inv (j+1)) J):=by
  repeat' first
   |with_reducible exact True.intro
   |refine Tr.WE ?_ ?_
   |refine Tr.W2 ?_ ?_
   |(with_reducible intro _;first|exact Empty.elim ‹_› |repeat cases ‹_×_›)
   |refine Tr.C ?_ ?_
   |refine Tr.I ?_ ?_
   |refine Tr.V ?_
   |refine Tr.G2 ?_ ?_
   |refine Tr.G3 ?_ ?_
   |refine Tr.G4 ?_ ?_
   |refine Tr.Gb ?_ ?_
   |refine Tr.G1 ?_ ?_
   |refine Tr.G ?_ ?_
   |refine Tr.Rn ?_
   |refine Tr.Ro ?_
   |refine Tr.R ?_
   |refine Tr.Bs ?_ ?_
   |refine Tr.Ba ?_ ?_
   |refine Tr.B (Q':=λ_=>True) ?_ ?_
   |refine Tr.Sl ?_
   |refine Tr.Sr ?_
   |refine Tr.S ?_ ?_
   |refine Tr.N ?_ ?_
  all_goals first
   |exact True.intro
   |((try simp only[LC.lp,LC.ct,Ct.lp,LW.lp,LW.cw,Cw.lp,Tr.nice,d7]at*)<;>grind)
  ):L.U N Inv J:=LC.okU hc hn hs hi hN h0 h1
theorem Ep {sh:Sh}{A P W:Type}{L:LC sh A P W}{N:Int}{Inv:Int→A→Prop}{J:P→Prop}{i:Int}{a:A}(hi:i≤9223372036854775807)(hN:0≤N)(h0:Inv i a)(hc:∀j a,L.c j a=decide (N≤j):=by exact λ_ _=>rfl) (hn:∀j,L.n j=dn j:=by exact λ_=>rfl) (hs:(L.i,L.a,L.st,L.k)=(i,a,-1,Int.toNat (i-N+1)):=by exact rfl)
  (h1:∀(j:Int) (a:A),N≤j→j≤i→Inv j a→(L.T j a).okQ (Stp.elim (Inv (j-1)) J):=by
  repeat' first
   |with_reducible exact True.intro
   |refine Tr.WE ?_ ?_
   |refine Tr.W2 ?_ ?_
   |(with_reducible intro _;first|exact Empty.elim ‹_› |repeat cases ‹_×_›)
   |refine Tr.C ?_ ?_
   |refine Tr.I ?_ ?_
   |refine Tr.V ?_
   |refine Tr.G2 ?_ ?_
   |refine Tr.G3 ?_ ?_
   |refine Tr.G4 ?_ ?_
   |refine Tr.Gb ?_ ?_
   |refine Tr.G1 ?_ ?_
   |refine Tr.G ?_ ?_
   |refine Tr.Rn ?_
   |refine Tr.Ro ?_
   |refine Tr.R ?_
   |refine Tr.Bs ?_ ?_
   |refine Tr.Ba ?_ ?_
   |refine Tr.B (Q':=λ_=>True) ?_ ?_
   |refine Tr.Sl ?_
   |refine Tr.Sr ?_
   |refine Tr.S ?_ ?_
   |refine Tr.N ?_ ?_
  all_goals first
   |exact True.intro
   |((try simp only[LC.lp,LC.ct,Ct.lp,LW.lp,LW.cw,Cw.lp,Tr.nice,d7]at*)<;>grind)
  ):L.D N Inv J:=LC.okD hc hn hs hi hN h0 h1
theorem Ev {sh:Sh}{A P:Type}[Inhabited P]{L:LW sh A P}(Inv:A→Prop){J:P→Prop}(meas:A→Nat){a:A}(h0:Inv a)(hk:(L.a,L.k)=(a,meas a):=by exact rfl)
  (h:∀a,Inv a→(L.T a).okQ (Stp.elim (λa'=>Inv a'∧meas a'<meas a) J):=by
  repeat' first
   |with_reducible exact True.intro
   |refine Tr.WE ?_ ?_
   |refine Tr.W2 ?_ ?_
   |(with_reducible intro _;first|exact Empty.elim ‹_› |repeat cases ‹_×_›)
   |refine Tr.C ?_ ?_
   |refine Tr.I ?_ ?_
   |refine Tr.V ?_
   |refine Tr.G2 ?_ ?_
   |refine Tr.G3 ?_ ?_
   |refine Tr.G4 ?_ ?_
   |refine Tr.Gb ?_ ?_
   |refine Tr.G1 ?_ ?_
   |refine Tr.G ?_ ?_
   |refine Tr.Rn ?_
   |refine Tr.Ro ?_
   |refine Tr.R ?_
   |refine Tr.Bs ?_ ?_
   |refine Tr.Ba ?_ ?_
   |refine Tr.B (Q':=λ_=>True) ?_ ?_
   |refine Tr.Sl ?_
   |refine Tr.Sr ?_
   |refine Tr.S ?_ ?_
   |refine Tr.N ?_ ?_
  all_goals first
   |exact True.intro
   |((try simp only[LC.lp,LC.ct,Ct.lp,LW.lp,LW.cw,Cw.lp,Tr.nice,d7]at*)<;>grind)
  ):L.W J:=LW.okW Inv meas hk h0 h
noncomputable def AL {X W:Type}(blk:Nat)(sh:Sh)(x:sh.V→X)(B:sh.V→X→Tr (X⊕W))(fuel:sh.V→Nat)(o:sh.V→(γ:Type)→(Ex→St→γ)→W→γ):LE where
 blk:=blk
 run s γ k:=lH (sh.dec s) none λv=>lH (kR (B v) (fuel v+1) (x v)) none λw=>o v (Option γ) k w
noncomputable def sZ {A P W:Type}(blk:Nat)(sh:Sh)(D:sh.V→LC sh A P W):LE:=AL blk sh (λv=>((D v).i,(D v).a)) (λv=>(D v).B) (λv=>(D v).k) (λv=>(D v).o)
noncomputable def DX {A P:Type}(blk:Nat)(sh:Sh)(D:sh.V→LW sh A P):LE:=AL blk sh (λv=>(D v).a) (λv=>(D v).cw.rd) (λv=>(D v).k) (λv=>(D v).o)
def la (K Ko:Keep):An:=⟨K,Ko,⟨[],[]⟩,[]⟩
def lb (a b:List Nat):An:=⟨⟨a,[],false,0⟩,⟨b,[],false,0⟩,⟨[],[]⟩,[]⟩
def bq:List LE→s9
 |[],_,_,_,_=>none
 |e::r,blk,s,γ,k=>match Nat.beq e.blk blk with
  |true=>e.run s γ k
  |false=>bq r blk s γ k
def yu {γ:Type}(A:An)(next:St→Option γ)(k:Ex→St→Option γ):Ex→St→Option γ
 | .normal,s'=>next (s'.norm A.keep)
 |e,s'=>k e (s'.norm A.kout)
section
variable {P:Program} {te:TE} {n:Nat} {w0:World} {mo:fH} {I0:Nat→Prop} {orc:xn} {lorc:s9} {ann:List (Nat×An)}
theorem wI {γ:Type}{A:An}{round:St→(Ex→St→Option γ)→Option γ}{m:Nat}{s:St}{k:Ex→St→Option γ}:ua A.keep A.kout round (m+1) s k=round s (yu A (λs'=>ua A.keep A.kout round m s' k) k):=by
 simp only[ua]
 congr 1
def xG (r:Nat):List (Nat×An)→Bool
 |[]=>true
 |p::l=>Nat.beq p.2.keep.roots r&&Nat.beq p.2.kout.roots r&&xG r l
theorem mj {r:Nat}:∀{ann:List (Nat×An)},xG r ann=true→∀b A,ae ann b=some A→A.keep.roots=r∧A.kout.roots=r
 |[],_,_,_,h=>by cases h
 |p::l,h,b,K,hl=>by
  simp only[xG,Bool.and_eq_true]at h
  obtain⟨⟨h1,h2⟩,h3⟩:=h
  obtain⟨i,K'⟩:=p
  simp only[ae]at hl
  cases hbi:Nat.beq i b with
  |true=>rw[hbi]at hl;cases hl;exact⟨Nat.eq_of_beq_eq_true h1,Nat.eq_of_beq_eq_true h2⟩
  |false=>rw[hbi]at hl;exact mj h3 b K hl
def np (r:Nat)(A:An)(ann:List (Nat×An)):Bool:=Nat.ble r 10000&&Nat.beq A.keep.roots r&&Nat.beq A.kout.roots r&&xG r ann
theorem Dx {r0:Nat}(hmo:mo.length=r0)(hte:dk te P=true)(hmix:P.follows .mixedOrders=true)(ho:j1 (iC P) orc){A:An}(hro:np r0 A ann=true){blk:Nat}{body:Code}(hl:∀p∈di body blk,rK P (nW w0 mo n I0) lorc p.1 p.2)
  {X W:Type}{sh:Sh}(x:sh.V→X)(m:sh.V→X→sh.V)(B:sh.V→X→Tr (X⊕W))(fuel:sh.V→Nat)(o:sh.V→(γ:Type)→(Ex→St→γ)→W→γ)(hm:∀v,m v (x v)=v)
  (hstep:∀(v:sh.V) (y:X) (γ:Type) (next:St→Option γ) (k:Ex→St→Option γ),ce te orc lorc n ann body blk (sh.enc (m v y)) γ (yu A next k)=(B v y).run none λr=>Sum.elim (λy'=>next (sh.enc (m v y'))) (λw=>o v (Option γ) k w) r):
  rK P (nW w0 mo n I0) (bq [AL blk sh x B fuel o]) blk body:=by
 simp only[np,Bool.and_eq_true]at hro
 obtain⟨⟨⟨hr1,hr2⟩,hr3⟩,hr4⟩:=hro
 have hr1:=Nat.le_of_ble_eq_true hr1
 refine Bd (r:=r0) (orc:=orc) (lorc:=lorc) (ann:=ann) (keep:=A.keep) (kout:=A.kout) (mj hr4) (BG hte w0 mo n I0) (λkeep s a w hk hs hb=>wc hs hb keep (by rw[hk,hmo]) (by omega)) (λ_ _ _ _ h=>xt h) hmix ho (Nat.eq_of_beq_eq_true hr2) (Nat.eq_of_beq_eq_true hr3) hl ?_
 intro s γ k z h
 have hbb:Nat.beq blk blk=true:=Nat.beq_refl blk
 simp only[bq,AL,hbb]at h
 obtain⟨v,hv,h1⟩:=dg h
 obtain⟨w,hw,h2⟩:=dg h1
 clear h h1
 have hs:s=sh.enc (m v (x v)):=by rw[hm,Sh.dec_enc hv]
 rw[hs]
 refine⟨fuel v+1, ?_⟩
 suffices ∀q y,kR (B v) q y=some w→ua A.keep A.kout (λs k=>ce te orc lorc n ann body blk s γ k) q (sh.enc (m v y)) k=some z from this _ _ hw
 clear hw hs hv
 intro q
 induction q with
 |zero=>intro y hw;cases hw
 |succ q ih=>
  intro y hw
  rw[wI,hstep,Tr.run_opt]
  simp only[kR]at hw
  rw[Tr.run_opt]at hw
  obtain⟨r,hq,hw⟩:=dg hw
  rw[hq]
  cases r with
  |inl y'=>exact ih y' hw
  |inr w'=>cases hw;exact h2
theorem uY {S:FSt→Act→World→Prop}{lorc lorc':s9}{blk:Nat}{body:Code}(h:rK P S lorc blk body)(he:lorc' blk=lorc blk):rK P S lorc' blk body:=by
 intro s γ k z hz
 rw[he]at hz
 exact h s γ k z hz
end
def bE (fn:Func):Code:=match fn.body with|some c=>c|none=> .skip
def bm:Code→Nat→List Nat→Nat×Code
 |c,b,[]=>(b,c)
 |c,b,i::r=>match(di c b)[i]? with
  |some p=>bm p.2 p.1 r
  |none=>(b,.skip)
theorem pu:∀(c:Code) (b:Nat) (r:List Nat) (i:Nat),bm c b (r++[i])=bm (bm c b r).2 (bm c b r).1 [i]
 |c,b,[],i=>rfl
 |c,b,j::r,i=>by
  simp only[List.cons_append,bm]
  split
  ·rename_i p _;exact pu p.2 p.1 r i
  ·simp[di]
def mZ:List Nat→Bool
 |[]=>true
 |x::r=> !pr x r&&mZ r
def z9 (ls:List LE):List Nat:=ls.map (·.blk)
theorem uE:∀{ls:List LE} {j:Nat} {l:LE},mZ (z9 ls)=true→ls[j]? =some l→bq ls l.blk=bq [l] l.blk
 |[],_,_,_,h=>by simp at h
 |e::r,0,l,_,h=>by
  simp only[List.getElem?_cons_zero,Option.some.injEq]at h
  subst h
  funext s γ k
  simp only[bq,Nat.beq_refl]
 |e::r,j+1,l,hd,h=>by
  simp only[List.getElem?_cons_succ]at h
  simp only[z9,List.map_cons,mZ,Bool.and_eq_true,Bool.not_eq_true']at hd
  have hne:Nat.beq e.blk l.blk=false:=by
   cases hb:Nat.beq e.blk l.blk with
   |false=>rfl
   |true=>
    have h1:=Nat.eq_of_beq_eq_true hb
    have:pr e.blk (r.map (·.blk))=true:=d6.2 (by rw[h1];exact List.mem_map.2 ⟨l,List.mem_of_getElem? h,rfl⟩)
    rw[this]at hd
    cases hd.1
  have:=uE (ls:=r) hd.2 h
  rw[←this]
  funext s γ k
  simp only[bq,hne]
structure Fx where
 f:Nat
 fn:Func
 ann:List (Nat×An)
 r:Nat
section
variable {P:Program}
def LS (P:Program)(X:Fx)(path:List Nat)(l:LE):Prop:=∀(w0:World) (mo:fH) (I0:Nat→Prop),mo.length=X.r→rK P (nW w0 mo X.fn.ntmps I0) (bq [l]) (bm (bE X.fn) 0 path).1 (bm (bE X.fn) 0 path).2
def fy (P:Program)(X:Fx)(path:List Nat):List LE→Nat→Prop
 |[],_=>True
 |l::r,j=>LS P X (path++[j]) l∧fy P X path r (j+1)
theorem fy.at {X:Fx}{path:List Nat}:∀{ls:List LE} {i j:Nat} {l:LE},fy P X path ls i→ls[j]? =some l→LS P X (path++[i+j]) l
 |[],_,_,_,_,h=>by simp at h
 |e::r,i,0,l,hA,h=>by
  simp only[List.getElem?_cons_zero,Option.some.injEq]at h
  subst h
  exact hA.1
 |e::r,i,j+1,l,hA,h=>by
  simp only[List.getElem?_cons_succ]at h
  have:=fy.at hA.2 h
  rwa [show i+1+j=i+(j+1) from by omega]at this
def i5 (c:Code)(blk:Nat)(ls:List LE):Bool:=Aj ((di c blk).map (·.1)) (z9 ls)&&mZ (z9 ls)
theorem uz {X:Fx}{path:List Nat}{ls:List LE}(hA:fy P X path ls 0)(hfit:i5 (bm (bE X.fn) 0 path).2 (bm (bE X.fn) 0 path).1 ls=true){w0:World}{mo:fH}{I0:Nat→Prop}(hmo:mo.length=X.r):
  ∀p∈di (bm (bE X.fn) 0 path).2 (bm (bE X.fn) 0 path).1,rK P (nW w0 mo X.fn.ntmps I0) (bq ls) p.1 p.2:=by
 intro p hp
 simp only[i5,Bool.and_eq_true]at hfit
 obtain⟨h1,h2⟩:=hfit
 have h1:=qf h1
 obtain⟨j,hj⟩:=List.getElem?_of_mem hp
 have hb:(z9 ls)[j]? =some p.1:=by rw[←h1,List.getElem?_map,hj];rfl
 simp only[z9,List.getElem?_map,Option.map_eq_some_iff]at hb
 obtain⟨l,hl,hlb⟩:=hb
 have h3:=(fy.at hA hl) w0 mo I0 hmo
 have h4:bm (bE X.fn) 0 (path++[0+j])=p:=by
  rw[pu,Nat.zero_add]
  simp only[bm,hj]
 rw[h4]at h3
 refine uY h3 ?_
 rw[←hlb]
 exact uE h2 hl
structure Seat (P:Program) where
 te:TE
 ok:dk te P=true
 mix:P.follows .mixedOrders=true
theorem CV (S:Seat P){X:Fx}{orc:xn}(ho:j1 (iC P) orc)(path:List Nat){A:An}{blk:Nat}{Y W:Type}{sh:Sh}(x:sh.V→Y)(m:sh.V→Y→sh.V)(B:sh.V→Y→Tr (Y⊕W))(fuel:sh.V→Nat)(o:sh.V→(γ:Type)→(Ex→St→γ)→W→γ)(inner:List LE)(hm:∀v,m v (x v)=v)
  (hc:(np X.r A X.ann&&Nat.beq (bm (bE X.fn) 0 path).1 blk&&i5 (bm (bE X.fn) 0 path).2 (bm (bE X.fn) 0 path).1 inner)=true)(hin:fy P X path inner 0)
  (hstep:∀(v:sh.V) (y:Y) (γ:Type) (next:St→Option γ) (k:Ex→St→Option γ),ce S.te orc (bq inner) X.fn.ntmps X.ann (bm (bE X.fn) 0 path).2 blk (sh.enc (m v y)) γ (yu A next k)=(B v y).run none λr=>Sum.elim (λy'=>next (sh.enc (m v y'))) (λw=>o v (Option γ) k w) r):LS P X path (AL blk sh x B fuel o):=by
 intro w0 mo I0 hmo
 simp only[Bool.and_eq_true]at hc
 obtain⟨⟨h1,h2⟩,h3⟩:=hc
 have h4:=uz hin h3 (w0:=w0) (I0:=I0) hmo
 have h5:=Nat.eq_of_beq_eq_true h2
 show rK P (nW w0 mo X.fn.ntmps I0) (bq [AL blk sh x B fuel o]) (bm (bE X.fn) 0 path).1 (bm (bE X.fn) 0 path).2
 rw[h5]at h4⊢
 exact Dx hmo S.ok S.mix ho h1 h4 x m B fuel o hm hstep
def le (X:Fx)(path:List Nat)(blk:Nat)(inner:List LE):Bool:=match ae X.ann blk with
 |some A=>np X.r A X.ann&&Nat.beq (bm (bE X.fn) 0 path).1 blk&&i5 (bm (bE X.fn) 0 path).2 (bm (bE X.fn) 0 path).1 inner
 |none=>false
def v6 (X:Fx)(blk:Nat):An:=(ae X.ann blk).getD (la ⟨[],[],false,0⟩ ⟨[],[],false,0⟩)
theorem sz {X:Fx}{path:List Nat}{blk:Nat}{inner:List LE}(h:le X path blk inner=true):(np X.r (v6 X blk) X.ann&&Nat.beq (bm (bE X.fn) 0 path).1 blk&&i5 (bm (bE X.fn) 0 path).2 (bm (bE X.fn) 0 path).1 inner)=true:=by
 unfold le at h
 split at h
 ·rename_i A hA
  have:v6 X blk=A:=by unfold v6;rw[hA];rfl
  rw[this];exact h
 ·cases h
theorem lQ (S:Seat P){X:Fx}{orc:xn}(ho:j1 (iC P) orc)(path:List Nat){blk:Nat}{A P' W:Type}{sh:Sh}(D:sh.V→LC sh A P' W)(inner:List LE)(hin:fy P X path inner 0)
  (hc:le X path blk inner=true:=by kernel_rfl) (hm:∀v,(D v).m (D v).i (D v).a=v:=by intro _;kernel_rfl) (h:∀(v:sh.V) (i:Int) (a:A) (γ:Type) (next:St→Option γ) (k:Ex→St→Option γ),ce S.te orc (bq inner) X.fn.ntmps X.ann (bm (bE X.fn) 0 path).2 blk (sh.enc ((D v).m i a)) γ (yu (v6 X blk) next k)=((D v).ct.rd i a).run none λr=>Sum.elim (λy'=>next (sh.enc ((D v).m y'.1 y'.2))) (λw=>(D v).o (Option γ) k w) r:=by intros;kernel_rfl):LS P X path (sZ blk sh D):=
 CV S ho path (A:=v6 X blk) _ (λv y=>(D v).m y.1 y.2) _ _ _ inner hm (sz hc) hin λv y=>h v y.1 y.2
theorem CO (S:Seat P){X:Fx}{orc:xn}(ho:j1 (iC P) orc)(path:List Nat){blk:Nat}{A P':Type}{sh:Sh}(D:sh.V→LW sh A P')(inner:List LE)(hin:fy P X path inner 0)(hc:le X path blk inner=true:=by kernel_rfl) (hm:∀v,(D v).m (D v).a=v:=by intro _;kernel_rfl)
  (h:∀(v:sh.V) (a:A) (γ:Type) (next:St→Option γ) (k:Ex→St→Option γ),ce S.te orc (bq inner) X.fn.ntmps X.ann (bm (bE X.fn) 0 path).2 blk (sh.enc ((D v).m a)) γ (yu (v6 X blk) next k)=((D v).cw.rd a).run none λr=>Sum.elim (λy'=>next (sh.enc ((D v).m y'))) (λw=>(D v).o (Option γ) k w) r:=by intros;kernel_rfl):LS P X path (DX blk sh D):=
 CV S ho path (A:=v6 X blk) _ (λv y=>(D v).m y) _ _ _ inner hm (sz hc) hin h
def fW (X:Fx)(outer:List LE):Bool:=Nat.ble X.r 10000&&xG X.r X.ann&&i5 (bE X.fn) 0 outer&& !(X.fn.name== "runtime.NumGoroutine")&&X.fn.body.isSome
theorem EY (S:Seat P){X:Fx}{orc:xn}(ho:j1 (iC P) orc)(hf:P.funcs[X.f]? =some X.fn){outer:List LE}(hc:fW X outer=true)(hin:fy P X [] outer 0){A:List PV}{O O':List MO}{R:bS}(hO:O.length=X.r)(hO':O'.length=O.length)
  (h:jm S.te orc (bq outer) X.ann X.fn A O=some (R++O'.map j6)):iC P X.f A O R O':=by
 simp only[fW,Bool.and_eq_true,Bool.not_eq_true']at hc
 obtain⟨⟨⟨⟨h1,h2⟩,h3⟩,h4⟩,_⟩:=hc
 refine xT S.ok S.mix ho hf h4 (lorc:=bq outer) (ann:=X.ann) (by rw[hO];exact mj h2) (by rw[hO];exact Nat.le_of_ble_eq_true h1) hO' (λc hc w0 mo I0 hmo=> ?_) h
 have:bE X.fn=c:=by unfold bE;rw[hc]
 rw[←this]
 exact uz hin h3 (hmo.trans hO)
end
end Go.Proofs.YtfpdenjmlnhnnaaGreatDoor
