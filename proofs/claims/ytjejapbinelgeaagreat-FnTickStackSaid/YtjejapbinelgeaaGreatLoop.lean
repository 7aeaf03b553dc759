/- Loops: what a loop comes to out of its rounds; functions with loops. -/
import Derived.Test.YtjejapbinelgeaaGreatFn
import Derived.Test.YtjejapbinelgeaaGreatTree
set_option linter.unusedVariables false
set_option linter.unusedSimpArgs false
namespace Go.Proofs.YtjejapbinelgeaaGreat
open Go Go.RowKit
structure LE where
 blk:Nat
 run:St→(γ:Type)→(Ex→St→Option γ)→Option γ
structure LC (sh:Sh)(A P W:Type) where
 i:Int
 a:A
 m:Int→A→sh.V
 c:Int→A→Bool
 T:Int→A→Tr (Stp A P)
 n:Int→Int
 st:Int
 k:Nat
 p:P→W
 e:Int→A→W
 o:(γ:Type)→(Ex→St→γ)→W→γ
def LC.ct {sh:Sh}{A P W:Type}(L:LC sh A P W):Ct (Int×A) W A P:=⟨Prod.mk,L.c,L.T,L.n,L.p,L.e⟩
def LC.B {sh:Sh}{A P W:Type}(L:LC sh A P W)(x:Int×A):Tr ((Int×A)⊕W):=L.ct.rd x.1 x.2
noncomputable def LC.lp {sh:Sh}{A P W:Type}(L:LC sh A P W):Lp W A P:=L.ct.lp L.B L.st L.k L.i L.a
structure LW (sh:Sh)(A P:Type) where
 a:A
 m:A→sh.V
 T:A→Tr (Stp A P)
 k:Nat
 o:(γ:Type)→(Ex→St→γ)→P→γ
def LW.cw {sh:Sh}{A P:Type}(L:LW sh A P):Cw A P A P:=⟨fun a=>a,L.T,fun p=>p⟩
noncomputable def LW.lp {sh:Sh}{A P:Type}[Inhabited P](L:LW sh A P):Lp P Empty P:=L.cw.lp L.cw.rd L.k L.a
@[reducible] def LC.U {sh:Sh} {A P W:Type} (L:LC sh A P W) (N:Int) (Inv:Int→A→Prop) (J:P→Prop):Prop:=L.lp.okI (fun a=>Inv (max L.i N) a) J
@[reducible] def LC.D {sh:Sh} {A P W:Type} (L:LC sh A P W) (N:Int) (Inv:Int→A→Prop) (J:P→Prop):Prop:=L.lp.okI (fun a=>Inv (min L.i (N-1)) a) J
@[reducible] def LC.S {sh:Sh} {A P W:Type} (L:LC sh A P W) (Inv:Int→A→Prop) (J:P→Prop):Prop:=L.lp.okI (Inv (L.i+L.st*L.k)) J
@[reducible] def LW.W {sh:Sh} {A P:Type} [Inhabited P] (L:LW sh A P) (J:P→Prop):Prop:=L.lp.okI (fun _=>True) J
theorem LC.okU {sh:Sh}{A P W:Type}{L:LC sh A P W}{N:Int}{Inv:Int→A→Prop}{J:P→Prop}{i:Int}{a:A}(hc:∀j a,L.c j a=decide (j<N))(hn:∀j,L.n j=up j)(hs:(L.i,L.a,L.st,L.k)=(i,a,1,Int.toNat (N-i)))(hi:0≤i)(hN:N≤4611686018427387904)(h0:Inv i a)
  (h1:∀(j:Int) (a:A),i≤j→j<N→Inv j a→(L.T j a).okQ (Stp.elim (Inv (j+1)) J)):L.U N Inv J:=by
 have:=L.ct.okU (B:=L.B) (fun _ _=>rfl) Inv J N hc hn hi hN h0 h1
 simp only[Prod.mk.injEq]at hs
 obtain⟨e1,e2,e3,e4⟩:=hs
 unfold LC.U LC.lp
 rw[e3,e4,e1,e2]
 exact this
theorem LC.okD {sh:Sh}{A P W:Type}{L:LC sh A P W}{N:Int}{Inv:Int→A→Prop}{J:P→Prop}{i:Int}{a:A}(hc:∀j a,L.c j a=decide (N≤j))(hn:∀j,L.n j=dn j)(hs:(L.i,L.a,L.st,L.k)=(i,a,-1,Int.toNat (i-N+1)))(hi:i≤9223372036854775807)(hN:0≤N)(h0:Inv i a)
  (h1:∀(j:Int) (a:A),N≤j→j≤i→Inv j a→(L.T j a).okQ (Stp.elim (Inv (j-1)) J)):L.D N Inv J:=by
 have:=L.ct.okD (B:=L.B) (fun _ _=>rfl) Inv J N hc hn hi hN h0 h1
 simp only[Prod.mk.injEq]at hs
 obtain⟨e1,e2,e3,e4⟩:=hs
 unfold LC.D LC.lp
 rw[e3,e4,e1,e2]
 exact this
theorem LC.okS {sh:Sh}{A P W:Type}{L:LC sh A P W}{Inv:Int→A→Prop}{J:P→Prop}(h0:Inv L.i L.a)
  (h1:∀(j:Nat) (a:A),j<L.k→Inv (L.i+L.st*j) a→(L.c (L.i+L.st*j) a=true∧L.n (L.i+L.st*j)=L.i+L.st*j+L.st)∧(L.T (L.i+L.st*j) a).okQ (Stp.elim (Inv (L.i+L.st*j+L.st)) J))
  (h2:∀(a:A),Inv (L.i+L.st*L.k) a→L.c (L.i+L.st*L.k) a=false):L.S Inv J:=
 L.ct.ok (B:=L.B) (fun _ _=>rfl) Inv J h0 h1 h2
theorem LW.okW {sh:Sh}{A P:Type}[Inhabited P]{L:LW sh A P}(Inv:A→Prop){J:P→Prop}(meas:A→Nat){a:A}(hk:(L.a,L.k)=(a,meas a))(h0:Inv a)
  (h:∀a,Inv a→(L.T a).okQ (Stp.elim (fun a'=>Inv a'∧meas a'<meas a) J)):L.W J:=by
 have:=L.cw.ok (B:=L.cw.rd) (fun _=>rfl) Inv J meas h0 h
 simp only[Prod.mk.injEq]at hk
 unfold LW.W LW.lp
 rw[hk.1,hk.2]
 exact this
noncomputable def leOf {X W:Type}(blk:Nat)(sh:Sh)(x:sh.V→X)(B:sh.V→X→Tr (X⊕W))(fuel:sh.V→Nat)(o:sh.V→(γ:Type)→(Ex→St→γ)→W→γ):LE where
 blk:=blk
 run s γ k:=optK (sh.dec s) none fun v=>optK (loopF (B v) (fuel v+1) (x v)) none fun w=>o v (Option γ) k w
noncomputable def leC {A P W:Type}(blk:Nat)(sh:Sh)(D:sh.V→LC sh A P W):LE:=leOf blk sh (fun v=>((D v).i,(D v).a)) (fun v=>(D v).B) (fun v=>(D v).k) (fun v=>(D v).o)
noncomputable def leW {A P:Type}(blk:Nat)(sh:Sh)(D:sh.V→LW sh A P):LE:=leOf blk sh (fun v=>(D v).a) (fun v=>(D v).cw.rd) (fun v=>(D v).k) (fun v=>(D v).o)
def la (K Ko:Keep):An:=⟨K,Ko,⟨[],[]⟩,[]⟩
def lorcOf:List LE→LOrc
 |[],_,_,_,_=>none
 |e::r,blk,s,γ,k=>match Nat.beq e.blk blk with
  |true=>e.run s γ k
  |false=>lorcOf r blk s γ k
def endK {γ:Type}(A:An)(next:St→Option γ)(k:Ex→St→Option γ):Ex→St→Option γ
 | .normal,s'=>next (s'.norm A.keep)
 |e,s'=>k e (s'.norm A.kout)
section
variable {P:Program} {te:TE} {n:Nat} {w0:World} {mo:Mts} {I0:Nat→Prop} {orc:Orc} {lorc:LOrc} {ann:List (Nat×An)}
theorem loopK_round {γ:Type}{A:An}{round:St→(Ex→St→Option γ)→Option γ}{m:Nat}{s:St}{k:Ex→St→Option γ}:loopK A.keep A.kout round (m+1) s k=round s (endK A (fun s'=>loopK A.keep A.kout round m s' k) k):=by
 simp only[loopK]
 congr 1
def annOk (r:Nat):List (Nat×An)→Bool
 |[]=>true
 |p::l=>Nat.beq p.2.keep.roots r&&Nat.beq p.2.kout.roots r&&annOk r l
theorem annOk_look {r:Nat}:∀{ann:List (Nat×An)},annOk r ann=true→∀b A,look ann b=some A→A.keep.roots=r∧A.kout.roots=r
 |[],_,_,_,h=>by cases h
 |p::l,h,b,K,hl=>by
  simp only[annOk,Bool.and_eq_true]at h
  obtain⟨⟨h1,h2⟩,h3⟩:=h
  obtain⟨i,K'⟩:=p
  simp only[look]at hl
  cases hbi:Nat.beq i b with
  |true=>rw[hbi]at hl;cases hl;exact⟨Nat.eq_of_beq_eq_true h1,Nat.eq_of_beq_eq_true h2⟩
  |false=>rw[hbi]at hl;exact annOk_look h3 b K hl
def rootsOk (r:Nat)(A:An)(ann:List (Nat×An)):Bool:=Nat.ble r 10000&&Nat.beq A.keep.roots r&&Nat.beq A.kout.roots r&&annOk r ann
theorem le_sem {r0:Nat}(hmo:mo.length=r0)(hte:teOk te P=true)(hmix:P.follows .mixedOrders=true)(ho:OrcOk (ConM P) orc){A:An}(hro:rootsOk r0 A ann=true){blk:Nat}{body:Code}(hl:∀p∈loopsIn body blk,LSem P (Sim w0 mo n I0) lorc p.1 p.2)
  {X W:Type}{sh:Sh}(x:sh.V→X)(m:sh.V→X→sh.V)(B:sh.V→X→Tr (X⊕W))(fuel:sh.V→Nat)(o:sh.V→(γ:Type)→(Ex→St→γ)→W→γ)(hm:∀v,m v (x v)=v)
  (hstep:∀(v:sh.V) (y:X) (γ:Type) (next:St→Option γ) (k:Ex→St→Option γ),evalK te orc lorc n ann body blk (sh.enc (m v y)) γ (endK A next k)=(B v y).run none fun r=>Sum.elim (fun y'=>next (sh.enc (m v y'))) (fun w=>o v (Option γ) k w) r):
  LSem P (Sim w0 mo n I0) (lorcOf [leOf blk sh x B fuel o]) blk body:=by
 simp only[rootsOk,Bool.and_eq_true]at hro
 obtain⟨⟨⟨hr1,hr2⟩,hr3⟩,hr4⟩:=hro
 have hr1:=Nat.le_of_ble_eq_true hr1
 refine loop_sem (r:=r0) (orc:=orc) (lorc:=lorc) (ann:=ann) (keep:=A.keep) (kout:=A.kout) (annOk_look hr4) (sim_ok hte w0 mo n I0) (fun keep s a w hk hs hb=>norm_sim hs hb keep (by rw[hk,hmo]) (by omega)) (fun _ _ _ _ h=>sim_drop h) hmix ho (Nat.eq_of_beq_eq_true hr2) (Nat.eq_of_beq_eq_true hr3) hl ?_
 intro s γ k z h
 have hbb:Nat.beq blk blk=true:=Nat.beq_refl blk
 simp only[lorcOf,leOf,hbb]at h
 obtain⟨v,hv,h1⟩:=optK_some h
 obtain⟨w,hw,h2⟩:=optK_some h1
 clear h h1
 have hs:s=sh.enc (m v (x v)):=by rw[hm,Sh.dec_enc hv]
 rw[hs]
 refine⟨fuel v+1, ?_⟩
 suffices ∀q y,loopF (B v) q y=some w→loopK A.keep A.kout (fun s k=>evalK te orc lorc n ann body blk s γ k) q (sh.enc (m v y)) k=some z from this _ _ hw
 clear hw hs hv
 intro q
 induction q with
 |zero=>intro y hw;cases hw
 |succ q ih=>
  intro y hw
  rw[loopK_round,hstep,Tr.run_opt]
  simp only[loopF]at hw
  rw[Tr.run_opt]at hw
  obtain⟨r,hq,hw⟩:=optK_some hw
  rw[hq]
  cases r with
  |inl y'=>exact ih y' hw
  |inr w'=>cases hw;exact h2
theorem lsem_of_lorc {S:FSt→Act→World→Prop}{lorc lorc':LOrc}{blk:Nat}{body:Code}(h:LSem P S lorc blk body)(he:lorc' blk=lorc blk):LSem P S lorc' blk body:=by
 intro s γ k z hz
 rw[he]at hz
 exact h s γ k z hz
end
def bodyOf (fn:Func):Code:=match fn.body with|some c=>c|none=> .skip
def loopAt:Code→Nat→List Nat→Nat×Code
 |c,b,[]=>(b,c)
 |c,b,i::r=>match(loopsIn c b)[i]? with
  |some p=>loopAt p.2 p.1 r
  |none=>(b,.skip)
theorem loopAt_snoc:∀(c:Code) (b:Nat) (r:List Nat) (i:Nat),loopAt c b (r++[i])=loopAt (loopAt c b r).2 (loopAt c b r).1 [i]
 |c,b,[],i=>rfl
 |c,b,j::r,i=>by
  simp only[List.cons_append,loopAt]
  split
  ·rename_i p _;exact loopAt_snoc p.2 p.1 r i
  ·simp[loopsIn]
def distinct:List Nat→Bool
 |[]=>true
 |x::r=> !mem x r&&distinct r
def blks (ls:List LE):List Nat:=ls.map (·.blk)
theorem lorcOf_at:∀{ls:List LE} {j:Nat} {l:LE},distinct (blks ls)=true→ls[j]? =some l→lorcOf ls l.blk=lorcOf [l] l.blk
 |[],_,_,_,h=>by simp at h
 |e::r,0,l,_,h=>by
  simp only[List.getElem?_cons_zero,Option.some.injEq]at h
  subst h
  funext s γ k
  simp only[lorcOf,Nat.beq_refl]
 |e::r,j+1,l,hd,h=>by
  simp only[List.getElem?_cons_succ]at h
  simp only[blks,List.map_cons,distinct,Bool.and_eq_true,Bool.not_eq_true']at hd
  have hne:Nat.beq e.blk l.blk=false:=by
   cases hb:Nat.beq e.blk l.blk with
   |false=>rfl
   |true=>
    have h1:=Nat.eq_of_beq_eq_true hb
    have:mem e.blk (r.map (·.blk))=true:=mem_iff.2 (by rw[h1];exact List.mem_map.2 ⟨l,List.mem_of_getElem? h,rfl⟩)
    rw[this]at hd
    cases hd.1
  have:=lorcOf_at (ls:=r) hd.2 h
  rw[←this]
  funext s γ k
  simp only[lorcOf,hne]
structure Fx where
 f:Nat
 fn:Func
 ann:List (Nat×An)
 r:Nat
section
variable {P:Program}
def LS (P:Program)(X:Fx)(path:List Nat)(l:LE):Prop:=∀(w0:World) (mo:Mts) (I0:Nat→Prop),mo.length=X.r→LSem P (Sim w0 mo X.fn.ntmps I0) (lorcOf [l]) (loopAt (bodyOf X.fn) 0 path).1 (loopAt (bodyOf X.fn) 0 path).2
def AllLS (P:Program)(X:Fx)(path:List Nat):List LE→Nat→Prop
 |[],_=>True
 |l::r,j=>LS P X (path++[j]) l∧AllLS P X path r (j+1)
theorem AllLS.at {X:Fx}{path:List Nat}:∀{ls:List LE} {i j:Nat} {l:LE},AllLS P X path ls i→ls[j]? =some l→LS P X (path++[i+j]) l
 |[],_,_,_,_,h=>by simp at h
 |e::r,i,0,l,hA,h=>by
  simp only[List.getElem?_cons_zero,Option.some.injEq]at h
  subst h
  exact hA.1
 |e::r,i,j+1,l,hA,h=>by
  simp only[List.getElem?_cons_succ]at h
  have:=AllLS.at hA.2 h
  rwa [show i+1+j=i+(j+1) from by omega]at this
def loopsFit (c:Code)(blk:Nat)(ls:List LE):Bool:=beqL ((loopsIn c blk).map (·.1)) (blks ls)&&distinct (blks ls)
theorem allLS_sem {X:Fx}{path:List Nat}{ls:List LE}(hA:AllLS P X path ls 0)(hfit:loopsFit (loopAt (bodyOf X.fn) 0 path).2 (loopAt (bodyOf X.fn) 0 path).1 ls=true){w0:World}{mo:Mts}{I0:Nat→Prop}(hmo:mo.length=X.r):
  ∀p∈loopsIn (loopAt (bodyOf X.fn) 0 path).2 (loopAt (bodyOf X.fn) 0 path).1,LSem P (Sim w0 mo X.fn.ntmps I0) (lorcOf ls) p.1 p.2:=by
 intro p hp
 simp only[loopsFit,Bool.and_eq_true]at hfit
 obtain⟨h1,h2⟩:=hfit
 have h1:=beqL_eq h1
 obtain⟨j,hj⟩:=List.getElem?_of_mem hp
 have hb:(blks ls)[j]? =some p.1:=by rw[←h1,List.getElem?_map,hj];rfl
 simp only[blks,List.getElem?_map,Option.map_eq_some_iff]at hb
 obtain⟨l,hl,hlb⟩:=hb
 have h3:=(AllLS.at hA hl) w0 mo I0 hmo
 have h4:loopAt (bodyOf X.fn) 0 (path++[0+j])=p:=by
  rw[loopAt_snoc,Nat.zero_add]
  simp only[loopAt,hj]
 rw[h4]at h3
 refine lsem_of_lorc h3 ?_
 rw[←hlb]
 exact lorcOf_at h2 hl
structure Seat (P:Program) where
 te:TE
 ok:teOk te P=true
 mix:P.follows .mixedOrders=true
theorem loopX (S:Seat P){X:Fx}{orc:Orc}(ho:OrcOk (ConM P) orc)(path:List Nat){A:An}{blk:Nat}{Y W:Type}{sh:Sh}(x:sh.V→Y)(m:sh.V→Y→sh.V)(B:sh.V→Y→Tr (Y⊕W))(fuel:sh.V→Nat)(o:sh.V→(γ:Type)→(Ex→St→γ)→W→γ)(inner:List LE)(hm:∀v,m v (x v)=v)
  (hc:(rootsOk X.r A X.ann&&Nat.beq (loopAt (bodyOf X.fn) 0 path).1 blk&&loopsFit (loopAt (bodyOf X.fn) 0 path).2 (loopAt (bodyOf X.fn) 0 path).1 inner)=true)(hin:AllLS P X path inner 0)
  (hstep:∀(v:sh.V) (y:Y) (γ:Type) (next:St→Option γ) (k:Ex→St→Option γ),evalK S.te orc (lorcOf inner) X.fn.ntmps X.ann (loopAt (bodyOf X.fn) 0 path).2 blk (sh.enc (m v y)) γ (endK A next k)=(B v y).run none fun r=>Sum.elim (fun y'=>next (sh.enc (m v y'))) (fun w=>o v (Option γ) k w) r):LS P X path (leOf blk sh x B fuel o):=by
 intro w0 mo I0 hmo
 simp only[Bool.and_eq_true]at hc
 obtain⟨⟨h1,h2⟩,h3⟩:=hc
 have h4:=allLS_sem hin h3 (w0:=w0) (I0:=I0) hmo
 have h5:=Nat.eq_of_beq_eq_true h2
 show LSem P (Sim w0 mo X.fn.ntmps I0) (lorcOf [leOf blk sh x B fuel o]) (loopAt (bodyOf X.fn) 0 path).1 (loopAt (bodyOf X.fn) 0 path).2
 rw[h5]at h4⊢
 exact le_sem hmo S.ok S.mix ho h1 h4 x m B fuel o hm hstep
def loopFit (X:Fx)(path:List Nat)(blk:Nat)(inner:List LE):Bool:=match look X.ann blk with
 |some A=>rootsOk X.r A X.ann&&Nat.beq (loopAt (bodyOf X.fn) 0 path).1 blk&&loopsFit (loopAt (bodyOf X.fn) 0 path).2 (loopAt (bodyOf X.fn) 0 path).1 inner
 |none=>false
def anAt (X:Fx)(blk:Nat):An:=(look X.ann blk).getD (la ⟨[],[],false,0⟩ ⟨[],[],false,0⟩)
theorem loopFit_of {X:Fx}{path:List Nat}{blk:Nat}{inner:List LE}(h:loopFit X path blk inner=true):(rootsOk X.r (anAt X blk) X.ann&&Nat.beq (loopAt (bodyOf X.fn) 0 path).1 blk&&loopsFit (loopAt (bodyOf X.fn) 0 path).2 (loopAt (bodyOf X.fn) 0 path).1 inner)=true:=by
 unfold loopFit at h
 split at h
 ·rename_i A hA
  have:anAt X blk=A:=by unfold anAt;rw[hA];rfl
  rw[this];exact h
 ·cases h
theorem loopC (S:Seat P){X:Fx}{orc:Orc}(ho:OrcOk (ConM P) orc)(path:List Nat){blk:Nat}{A P' W:Type}{sh:Sh}(D:sh.V→LC sh A P' W)(inner:List LE)(hin:AllLS P X path inner 0)
  (hc:loopFit X path blk inner=true)(hm:∀v,(D v).m (D v).i (D v).a=v)(h:∀(v:sh.V) (i:Int) (a:A) (γ:Type) (next:St→Option γ) (k:Ex→St→Option γ),evalK S.te orc (lorcOf inner) X.fn.ntmps X.ann (loopAt (bodyOf X.fn) 0 path).2 blk (sh.enc ((D v).m i a)) γ (endK (anAt X blk) next k)=((D v).ct.rd i a).run none fun r=>Sum.elim (fun y'=>next (sh.enc ((D v).m y'.1 y'.2))) (fun w=>(D v).o (Option γ) k w) r):LS P X path (leC blk sh D):=
 loopX S ho path (A:=anAt X blk) _ (fun v y=>(D v).m y.1 y.2) _ _ _ inner hm (loopFit_of hc) hin fun v y=>h v y.1 y.2
theorem loopW (S:Seat P){X:Fx}{orc:Orc}(ho:OrcOk (ConM P) orc)(path:List Nat){blk:Nat}{A P':Type}{sh:Sh}(D:sh.V→LW sh A P')(inner:List LE)(hin:AllLS P X path inner 0)(hc:loopFit X path blk inner=true)(hm:∀v,(D v).m (D v).a=v)
  (h:∀(v:sh.V) (a:A) (γ:Type) (next:St→Option γ) (k:Ex→St→Option γ),evalK S.te orc (lorcOf inner) X.fn.ntmps X.ann (loopAt (bodyOf X.fn) 0 path).2 blk (sh.enc ((D v).m a)) γ (endK (anAt X blk) next k)=((D v).cw.rd a).run none fun r=>Sum.elim (fun y'=>next (sh.enc ((D v).m y'))) (fun w=>(D v).o (Option γ) k w) r):LS P X path (leW blk sh D):=
 loopX S ho path (A:=anAt X blk) _ (fun v y=>(D v).m y) _ _ _ inner hm (loopFit_of hc) hin h
def fnFit (X:Fx)(outer:List LE):Bool:=Nat.ble X.r 10000&&annOk X.r X.ann&&loopsFit (bodyOf X.fn) 0 outer&& !(X.fn.name== "runtime.NumGoroutine")&&X.fn.body.isSome
theorem fnS (S:Seat P){X:Fx}{orc:Orc}(ho:OrcOk (ConM P) orc)(hf:P.funcs[X.f]? =some X.fn){outer:List LE}(hc:fnFit X outer=true)(hin:AllLS P X [] outer 0){A:List PV}{O O':List MO}{R:Res}(hO:O.length=X.r)(hO':O'.length=O.length)
  (h:evalFnM S.te orc (lorcOf outer) X.ann X.fn A O=some (R++O'.map encO)):ConM P X.f A O R O':=by
 simp only[fnFit,Bool.and_eq_true,Bool.not_eq_true']at hc
 obtain⟨⟨⟨⟨h1,h2⟩,h3⟩,h4⟩,_⟩:=hc
 refine evalFn_conM S.ok S.mix ho hf h4 (lorc:=lorcOf outer) (ann:=X.ann) (by rw[hO];exact annOk_look h2) (by rw[hO];exact Nat.le_of_ble_eq_true h1) hO' (fun c hc w0 mo I0 hmo=> ?_) h
 have:bodyOf X.fn=c:=by unfold bodyOf;rw[hc]
 rw[←this]
 exact allLS_sem hin h3 (hmo.trans hO)
end
end Go.Proofs.YtjejapbinelgeaaGreat
