/- Regions: what was run in the order of the text runs in every order that the edges allow. Generic in the relation between states. -/
import Derived.Test.YtffjmkhjhchnmaaGreatCore
set_option linter.unusedVariables false
set_option linter.unusedSimpArgs false
namespace Go.Proofs.YtffjmkhjhchnmaaGreat
open Go
structure FSt where
 tmp:Nat→DV
 obj:Nat→Option Ob
def St.den (s:St):FSt:=⟨s.tmp,s.obj⟩
def FSt.wr (s:FSt)(dst:Option Nat)(d:DV)(ws:List (Nat×Ob)):FSt:=
 ⟨λt=>if dst=some t then d else s.tmp t,λid=>match ac ws id with|some o=>some o|none=>s.obj id⟩
theorem bZ {α:Type}(l r:List (Nat×α))(i:Nat):ac (l++r) i=match ac l i with|some a=>some a|none=>ac r i:=by
 induction l with
 |nil=>rfl
 |cons x l ih=>
  obtain⟨j,a⟩:=x
  simp only[List.cons_append,ac]
  cases Nat.beq j i<;>simp[ih]
theorem cY {α:Type}{l:List (Nat×α)}{i:Nat}{a:α}(h:ac l i=some a):i∈l.map (·.1):=by
 induction l with
 |nil=>simp[ac]at h
 |cons x l ih=>
  obtain⟨j,b⟩:=x
  simp only[ac]at h
  cases hj:Nat.beq j i with
  |true=>have:=Nat.eq_of_beq_eq_true hj;simp[this]
  |false=>rw[hj]at h;simp only[List.map_cons,List.mem_cons];exact .inr (ih h)
theorem dN {α:Type}{l:List (Nat×α)}{i:Nat}(h:i∉l.map (·.1)):ac l i=none:=by
 cases hl:ac l i with
 |none=>rfl
 |some a=>exact absurd (cY hl) h
theorem IC {α:Type}{l:List (Nat×α)}{i:Nat}(h:i∈l.map (·.1)):∃a,ac l i=some a:=by
 induction l with
 |nil=>simp at h
 |cons x l ih=>
  obtain⟨j,b⟩:=x
  simp only[ac]
  cases hj:Nat.beq j i with
  |true=>exact⟨b,rfl⟩
  |false=>
   simp only[List.map_cons,List.mem_cons]at h
   rcases h with h|h
   ·subst h;simp at hj
   ·exact ih h
theorem St.tmp_set (s:St)(t:Nat)(d:DV)(u:Nat):(s.set t d).tmp u=if t=u then d else s.tmp u:=by
 simp only[St.set,St.tmp,ac]
 cases h:Nat.beq t u with
 |true=>have:=Nat.eq_of_beq_eq_true h;simp[this]
 |false=>have:=Nat.ne_of_beq_eq_false h;simp[this]
theorem St.den_apply (s:St)(base:Nat)(dst:Option Nat)(e:Eff):
  (s.apply base dst e).den=s.den.wr dst e.val (e.upd++au base e.new):=by
 have ho:(s.apply base dst e).obj=(s.den.wr dst e.val (e.upd++au base e.new)).obj:=by
  funext id
  cases dst<;>simp only[St.apply,St.obj,St.set,FSt.wr,St.den,bZ]<;>cases ac e.upd id<;>first|rfl|(cases ac (au base e.new) id<;>rfl)
 have ht:(s.apply base dst e).tmp=(s.den.wr dst e.val (e.upd++au base e.new)).tmp:=by
  funext t
  cases dst with
  |none=>simp[St.apply,FSt.wr,St.den,St.tmp]
  |some d=>
   simp only[St.apply,FSt.wr,St.den,Option.some.injEq]
   rw[St.tmp_set]
   rfl
 simp only[St.den]at ho ht⊢
 rw[ho,ht]
theorem St.den_set (s:St)(t:Nat)(d:DV):(s.set t d).den=s.den.wr (some t) d []:=by
 have ho:(s.set t d).obj=(s.den.wr (some t) d []).obj:=by funext id;rfl
 have ht:(s.set t d).tmp=(s.den.wr (some t) d []).tmp:=by funext u;simp[St.tmp_set,FSt.wr,St.den]
 simp only[St.den]at ho ht⊢
 rw[ho,ht]
theorem FSt.wr_same (s:FSt)(t:Nat)(d:DV)(h:s.tmp t=d):s.wr (some t) d []=s:=by
 obtain⟨f,g⟩:=s
 have h1:(λu=>if some t=some u then d else f u)=f:=by
  funext u
  by_cases e:t=u
  ·subst e;rw[if_pos rfl];exact h.symm
  ·rw[if_neg (by simpa using e)]
 simp only[FSt.wr,ac]
 rw[h1]
inductive Rel {α:Type}(C:Nat→List PV→List MO→cS→List MO→Prop)(s:FSt):Rd α→List Nat→List Nat→α→Prop
 |ret (a:α):Rel C s (.ret a) [] [] a
 |tmp {t k tr ir a}:Rel C s (k (s.tmp t)) tr ir a→Rel C s (.tmp t k) (t::tr) ir a
 |get {id o k tr ir a}:s.obj id=some o→Rel C s (k o) tr ir a→Rel C s (.get id k) tr (id::ir) a
 |guard {b k tr ir a}:b=true→Rel C s k tr ir a→Rel C s (.guard b k) tr ir a
 |call {f A O R O' k tr ir a}:C f A O R O'→Rel C s (k R O') tr ir a→Rel C s (.call f A O k) tr ir a
theorem Rel.frame {α:Type}{C:Nat→List PV→List MO→cS→List MO→Prop}{s s':FSt}{r:Rd α}{tr ir:List Nat}{a:α}(h:Rel C s r tr ir a)
  (ht:∀t∈tr,s'.tmp t=s.tmp t)(hi:∀id∈ir,s'.obj id=s.obj id):Rel C s' r tr ir a:=by
 induction h with
 |ret a=>exact .ret a
 | @tmp t k tr ir a _ ih=>
  refine .tmp ?_
  rw[ht t (by simp)]
  exact ih (λu hu=>ht u (List.mem_cons_of_mem _ hu)) hi
 | @get id o k tr ir a ho _ ih=>
  refine .get (o:=o) ?_ (ih ht λu hu=>hi u (List.mem_cons_of_mem _ hu))
  rw[hi id (by simp)];exact ho
 |guard hb _ ih=>exact .guard hb (ih ht hi)
 |call hc _ ih=>exact .call hc (ih ht hi)
def qV (C:Nat→List PV→List MO→cS→List MO→Prop)(orc:HU):Prop:=∀f A O (γ:Type) k (z:γ),orc f A O γ k=some z→∃R O',C f A O R O'∧k R O'=some z
theorem KE {α γ:Type}{C:Nat→List PV→List MO→cS→List MO→Prop}{orc:HU}(ho:qV C orc){s:St}{r:Rd α}:
  ∀{tr ir:List Nat} {k:α→List Nat→List Nat→Option γ} {z:γ},r.runK orc s tr ir k=some z→
   ∃tr' ir' a,Rel C s.den r tr' ir' a∧k a (tr'.reverse++tr) (ir'.reverse++ir)=some z:=by
 induction r with
 |ret a=>intro tr ir k z h;exact⟨[],[],a,.ret a,by simpa [Rd.runK]using h⟩
 |fail=>intro tr ir k z h;simp[Rd.runK]at h
 |tmp t c ih=>
  intro tr ir k z h
  obtain⟨tr',ir',a,hr,hk⟩:=ih _ (by simpa only[Rd.runK]using h)
  exact⟨t::tr',ir',a,.tmp hr,by simpa using hk⟩
 |get id c ih=>
  intro tr ir k z h
  simp only[Rd.runK]at h
  cases hobj:s.obj id with
  |none=>rw[hobj]at h;cases h
  |some o=>
   rw[hobj]at h
   obtain⟨tr',ir',a,hr,hk⟩:=ih o h
   exact⟨tr',id::ir',a,.get hobj hr,by simpa using hk⟩
 |guard b c ih=>
  intro tr ir k z h
  simp only[Rd.runK]at h
  cases b with
  |false=>cases h
  |true=>
   obtain⟨tr',ir',a,hr,hk⟩:=ih h
   exact⟨tr',ir',a,.guard rfl hr,hk⟩
 |call f A O c ih=>
  intro tr ir k z h
  simp only[Rd.runK]at h
  obtain⟨R,O',hc,hk⟩:=ho _ _ _ _ _ _ h
  obtain⟨tr',ir',a,hr,hk⟩:=ih R O' hk
  exact⟨tr',ir',a,.call hc hr,hk⟩
theorem fW {x:Nat}{l:List Nat}:vJ x l=true↔x∈l:=by
 induction l with
 |nil=>simp[vJ]
 |cons y l ih=>
  simp only[vJ,Bool.or_eq_true,ih,List.mem_cons]
  constructor
  ·rintro(h|h)
   ·exact .inl (Nat.eq_of_beq_eq_true h).symm
   ·exact .inr h
  ·rintro(h|h)
   ·subst h;exact .inl (Nat.beq_refl _)
   ·exact .inr h
theorem n6 {l r:List Nat}(h:CC l r=false):∀x∈l,x∉r:=by
 induction l with
 |nil=>simp
 |cons y l ih=>
  simp only[CC,Bool.or_eq_false_iff]at h
  intro x hx
  rcases List.mem_cons.1 hx with rfl|hx
  ·intro hr;rw[fW.2 hr]at h;cases h.1
  ·exact ih h.2 x hx
structure Ent where
 l:LogE
 val:DV
 ws:List (Nat×Ob)
 fresh:List Nat
section
variable (te:TE) (C:Nat→List PV→List MO→cS→List MO→Prop) (ops:List Oper) (base:Nat)
inductive Guarded (s:FSt)(o:Oper)(tr:List Nat):Bool→Prop
 |none:o.guard=none→Guarded s o tr true
 |skipped {j want t}:o.guard=some (j,want)→IE ops j=some t→s.tmp t=one .skipped→t∈tr→Guarded s o tr false
 |some {j want t b g}:o.guard=some (j,want)→IE ops j=some t→s.tmp t=one (.bool b)→t∈tr→(b==want)=g→Guarded s o tr g
structure Exec (s:FSt)(e:Ent)(s':FSt):Prop where
 next:s'=s.wr e.l.dst e.val e.ws
 fresh:∀id∈e.fresh,s.obj id=none
 iw:e.ws.map (·.1)=e.l.iw
 oldr:∀id∈e.l.ir,s.obj id≠none
 why:∃o,ops[e.l.i]? =some o∧o.dst=e.l.dst∧∃tr ir g,(∀t∈tr,t∈e.l.tr)∧(∀id∈ir,id∈e.l.ir)∧Guarded ops s o e.l.tr g∧
  ((g=true∧∃oe,Rel C s (dJ te (base+64*e.l.i) o.op) tr ir oe∧e.val=oe.val∧e.ws=oe.upd++au (base+64*e.l.i) oe.new∧e.fresh=(au (base+64*e.l.i) oe.new).map (·.1)∧∀id∈oe.upd.map (·.1),id∈e.l.ir)∨
   (g=false∧e.val=yU∧e.ws=[]∧e.fresh=[]))
inductive Runs:FSt→List Ent→FSt→Prop
 |nil (s:FSt):Runs s [] s
 |cons {s s1 s2 e r}:Exec te C ops base s e s1→Runs s1 r s2→Runs s (e::r) s2
variable {te C ops base}
theorem Guarded.frame {s s':FSt}{o:Oper}{tr:List Nat}{g:Bool}(h:Guarded ops s o tr g)(ht:∀t∈tr,s'.tmp t=s.tmp t):Guarded ops s' o tr g:=by
 cases h with
 |none h=>exact .none h
 |skipped h1 h2 h3 h4=>exact .skipped h1 h2 (by rw[ht _ h4];exact h3) h4
 |some h1 h2 h3 h4 h5=>exact .some h1 h2 (by rw[ht _ h4];exact h3) h4 h5
theorem Guarded.mono {s:FSt}{o:Oper}{tr tr':List Nat}{g:Bool}(h:Guarded ops s o tr g)(ht:∀t∈tr,t∈tr'):Guarded ops s o tr' g:=by
 cases h with
 |none h=>exact .none h
 |skipped h1 h2 h3 h4=>exact .skipped h1 h2 h3 (ht _ h4)
 |some h1 h2 h3 h4 h5=>exact .some h1 h2 h3 (ht _ h4) h5
theorem zJ {a b:LogE}(h:jF a b=false):
  (∀x,a.dst=some x→x∉b.tr∧b.dst≠some x)∧(∀x,b.dst=some x→x∉a.tr)∧(∀x∈a.iw,x∉b.ir∧x∉b.iw)∧(∀x∈b.iw,x∉a.ir):=by
 simp only[jF,Bool.or_eq_false_iff]at h
 obtain⟨⟨⟨h1,h2⟩,h3⟩,h4⟩:=h
 refine⟨λx hx=> ?_,λx hx=> ?_,λx hx=> ?_,λx hx=>n6 h4 x hx⟩
 ·have:=n6 h1 x (by simp[hx])
  simp only[List.mem_append,not_or]at this
  exact⟨this.1,λhd=>this.2 (by simp[hd])⟩
 ·exact n6 h2 x (by simp[hx])
 ·have:=n6 h3 x hx
  simpa [List.mem_append,not_or]using this
theorem py {s:FSt}{dst:Option Nat}{d:DV}{ws:List (Nat×Ob)}{id:Nat}(h:id∉ws.map (·.1)):(s.wr dst d ws).obj id=s.obj id:=by
 simp only[FSt.wr,dN h]
theorem x4 {s:FSt}{dst:Option Nat}{d:DV}{ws:List (Nat×Ob)}{t:Nat}(h:dst≠some t):(s.wr dst d ws).tmp t=s.tmp t:=by
 simp only[FSt.wr,if_neg h]
theorem OQ {s:FSt}{x y:Option Nat}{d e:DV}{us vs:List (Nat×Ob)}(h:∀i,x=some i→y≠some i)(hw:∀id∈us.map (·.1),id∉vs.map (·.1)):
  (s.wr x d us).wr y e vs=(s.wr y e vs).wr x d us:=by
 simp only[FSt.wr,FSt.mk.injEq]
 constructor
 ·funext t
  by_cases hx:x=some t
  ·have:=h t hx;simp[hx,this]
  ·simp[hx]
 ·funext id
  cases hu:ac us id with
  |none=>simp
  |some o=>
   have:=dN (hw id (cY hu))
   simp[this]
theorem Exec.swap {s s1 s2:FSt}{b a:Ent}(hb:Exec te C ops base s b s1)(ha:Exec te C ops base s1 a s2)(hc:jF a.l b.l=false):
  ∃s1',Exec te C ops base s a s1'∧Exec te C ops base s1' b s2:=by
 obtain⟨c1,c2,c3,c4⟩:=zJ hc
 have hs1:=hb.next
 have hat:∀t∈a.l.tr,s.tmp t=s1.tmp t:=by
  intro t ht;rw[hs1];refine(x4 ?_).symm;intro hd;exact c2 t hd ht
 have hai:∀id∈a.l.ir,s.obj id=s1.obj id:=by
  intro id hid;rw[hs1];refine(py ?_).symm;rw[hb.iw];intro hd;exact c4 id hd hid
 have hafresh:∀id∈a.fresh,s.obj id=none:=by
  intro id hid
  have h1:=ha.fresh id hid
  rw[hs1]at h1
  simp only[FSt.wr]at h1
  cases hl:ac b.ws id with
  |some o=>rw[hl]at h1;cases h1
  |none=>rw[hl]at h1;exact h1
 have ea:Exec te C ops base s a (s.wr a.l.dst a.val a.ws):=by
  refine⟨rfl,hafresh,ha.iw,λid hid=>by rw[hai id hid];exact ha.oldr id hid, ?_⟩
  obtain⟨o,ho,hod,tr,ir,g,htr,hir,hg,hwhy⟩:=ha.why
  refine⟨o,ho,hod,tr,ir,g,htr,hir,hg.frame hat, ?_⟩
  rcases hwhy with⟨hg1,ef,hr,h⟩|h
  ·exact .inl ⟨hg1,ef,hr.frame (λt ht=>hat t (htr t ht)) (λt ht=>hai t (hir t ht)),h⟩
  ·exact .inr h
 refine⟨_,ea, ?_⟩
 have hbt:∀t∈b.l.tr,(s.wr a.l.dst a.val a.ws).tmp t=s.tmp t:=by
  intro t ht;refine x4 ?_;intro hd;exact(c1 t hd).1 ht
 have hbi:∀id∈b.l.ir,(s.wr a.l.dst a.val a.ws).obj id=s.obj id:=by
  intro id hid;refine py ?_;rw[ha.iw];intro hd;exact(c3 id hd).1 hid
 refine⟨?_, ?_,hb.iw,λid hid=>by rw[hbi id hid];exact hb.oldr id hid, ?_⟩
 ·rw[ha.next,hs1]
  refine OQ (λi hi hd=>(c1 i hd).2 hi) ?_
  rw[ha.iw,hb.iw];intro id hid hd;exact(c3 id hd).2 hid
 ·intro id hid
  by_cases hw:id∈b.ws.map (·.1)
  ·rw[py];exact hb.fresh id hid
   rw[ha.iw];intro hd;rw[hb.iw]at hw;exact(c3 id hd).2 hw
  ·
   rw[FSt.wr]
   simp only[]
   cases hl:ac a.ws id with
   |none=>exact hb.fresh id hid
   |some o=>
    exfalso
    obtain⟨o',ho,hod,tr,ir,g,htr,hir,hg,hwhy⟩:=hb.why
    rcases hwhy with⟨_,ef,_,_,hws,hfr,_⟩|⟨_,_,_,hfr⟩
    ·rw[hfr]at hid
     exact hw (by rw[hws];simp only[List.map_append,List.mem_append];exact .inr hid)
    ·rw[hfr]at hid;cases hid
 ·obtain⟨o,ho,hod,tr,ir,g,htr,hir,hg,hwhy⟩:=hb.why
  refine⟨o,ho,hod,tr,ir,g,htr,hir,hg.frame hbt, ?_⟩
  rcases hwhy with⟨hg1,ef,hr,h⟩|h
  ·exact .inl ⟨hg1,ef,hr.frame (λt ht=>hbt t (htr t ht)) (λt ht=>hbi t (hir t ht)),h⟩
  ·exact .inr h
theorem Runs.front {l1:List Ent}:∀{s sn:FSt} {a:Ent} {l2:List Ent},Runs te C ops base s (l1++a::l2) sn→(∀b∈l1,jF a.l b.l=false)→
  Runs te C ops base s (a::(l1++l2)) sn:=by
 induction l1 with
 |nil=>intro s sn a l2 h _;exact h
 |cons b l1 ih=>
  intro s sn a l2 h hc
  cases h with
  |cons hb hr=>
   cases ih hr (λx hx=>hc x (List.mem_cons_of_mem _ hx))with
   |cons ha hr'=>
    obtain⟨s1',h1,h2⟩:=hb.swap ha (hc b (by simp))
    exact .cons h1 (.cons h2 hr')
theorem B8 {listed:Array Bool}(hdown:∀(i:Nat),listed.getD i false=true→∀j∈after ops i,listed.getD j false=true):
  ∀(n i j:Nat),(∀m∈after ops i,listed.getD m false=true)→oq ops n i j=true→listed.getD j false=true:=by
 intro n
 induction n with
 |zero=>intro i j _ h;simp[oq]at h
 |succ n ih=>
  intro i j hi h
  simp only[oq,Bool.or_eq_true,List.any_eq_true,Bool.and_eq_true]at h
  rcases h with h|⟨m,hm,_,hr⟩
  ·exact hi j (fW.1 h)
  ·exact ih m j (hdown m (hi m hm)) hr
theorem Rel.reads {α:Type}{s:FSt}{r:Rd α}{tr ir:List Nat}{a:α}(h:Rel C s r tr ir a):∀id∈ir,s.obj id≠none:=by
 induction h with
 |ret a=>simp
 |tmp _ ih=>exact ih
 |get ho _ ih=>
  intro id hid
  rcases List.mem_cons.1 hid with rfl|hid
  ·rw[ho];simp
  ·exact ih id hid
 |guard _ _ ih=>exact ih
 |call _ _ ih=>exact ih
theorem Er (os:List Ob):∀(n id:Nat),id∈(au n os).map (·.1)→n≤id∧id<n+os.length:=by
 induction os with
 |nil=>intro n id h;simp[au]at h
 |cons o os ih=>
  intro n id h
  simp only[au,List.map_cons,List.mem_cons]at h
  rcases h with rfl|h
  ·simp
  ·have:=ih _ _ h;simp;omega
theorem MA {γ:Type}{orc:HU}(ho:qV C orc){n:Nat}{z:γ}{k:St→List LogE→Option γ}:
  ∀(rest:List Oper) (i:Nat) (s:St) (log:List LogE),rest=ops.drop i→(∀id,s.obj id≠none→id<base+64*i)→
   Cl te orc n ops base rest i s log k=some z→
   ∃es s',Runs te C ops base s.den es s'.den∧k s' (log++es.map (·.l))=some z∧es.map (·.l.i)=List.range' i rest.length∧(∀e∈es,∀d,e.l.dst=some d→d<n)∧
    (∀id,s'.obj id≠none→id<base+64*(i+rest.length))∧s'.nx=s.nx:=by
 intro rest
 induction rest with
 |nil=>
  intro i s log _ hb h
  exact⟨[],s,.nil _,by simpa [Cl]using h,rfl,by simp,by simpa using hb,rfl⟩
 |cons o rest ih=>
  intro i s log hd hb h
  have hoi:ops[i]? =some o:=by
   have:=congrArg (λl=>l[0]?) hd
   simpa using this.symm
  have hd':rest=ops.drop (i+1):=by
   have:=congrArg List.tail hd
   simpa using this
  have step:∀(s1:St) (e:Ent),s1.nx=s.nx→Exec te C ops base s.den e s1.den→e.l.i=i→(∀d,e.l.dst=some d→d<n)→(∀id,s1.obj id≠none→id<base+64*(i+1))→
    Cl te orc n ops base rest (i+1) s1 (log++[e.l]) k=some z→
    ∃es s',Runs te C ops base s.den es s'.den∧k s' (log++es.map (·.l))=some z∧es.map (·.l.i)=List.range' i (o::rest).length∧(∀e∈es,∀d,e.l.dst=some d→d<n)∧
     (∀id,s'.obj id≠none→id<base+64*(i+(o::rest).length))∧s'.nx=s.nx:=by
   intro s1 e hnx hex hei hdn hb1 hk
   obtain⟨es,s',hr,hk',hes,hdst,hb',hnx'⟩:=ih (i+1) s1 _ hd' hb1 hk
   refine⟨e::es,s',.cons hex hr,by simpa using hk',by simp[hei,hes,List.range'_succ], ?_, ?_,hnx'.trans hnx⟩
   ·intro x hx
    rcases List.mem_cons.1 hx with rfl|hx
    ·exact hdn
    ·exact hdst x hx
   ·intro id hid;have:=hb' id hid;simp only[List.length_cons];omega
  have go:∀(s0:St) (tr0:List Nat),s0.den=s.den→s0.nx=s.nx→Guarded ops s.den o tr0 true→
    ((dJ te (base+64*i) o.op).runK orc s0 tr0 [] λe tr ir=>
     bif (o.dst.toList.all λd=>Nat.blt d n)&&Nat.ble e.new.length 64&&(e.upd.all λu=>vJ u.1 ir)then
      Cl te orc n ops base rest (i+1) (s0.apply (base+64*i) o.dst e) (log++[⟨i,tr,ir,o.dst,e.upd.map (·.1)++(au (base+64*i) e.new).map (·.1)⟩]) k
     else none)=some z→
    ∃es s',Runs te C ops base s.den es s'.den∧k s' (log++es.map (·.l))=some z∧es.map (·.l.i)=List.range' i (o::rest).length∧(∀e∈es,∀d,e.l.dst=some d→d<n)∧
     (∀id,s'.obj id≠none→id<base+64*(i+(o::rest).length))∧s'.nx=s.nx:=by
   intro s0 tr0 hs0 hnx0 hg hk
   obtain⟨tr',ir',oe,hr,hk'⟩:=KE ho hk
   rw[hs0]at hr
   cases hc:(o.dst.toList.all λd=>Nat.blt d n)&&Nat.ble oe.new.length 64&&(oe.upd.all λu=>vJ u.1 (ir'.reverse++[]))with
   |false=>rw[hc]at hk';cases hk'
   |true=>
    rw[hc]at hk'
    simp only[Bool.and_eq_true,List.all_eq_true]at hc
    obtain⟨⟨hdst,hlen⟩,hupd⟩:=hc
    have hlen':oe.new.length≤64:=Nat.le_of_ble_eq_true hlen
    have hdn:∀d,o.dst=some d→d<n:=λd hd=>by
     have:=hdst d (by simp[hd]);exact Nat.lt_of_lt_of_le (Nat.lt_succ_self d) (Nat.le_of_ble_eq_true this)
    have hold:∀id∈oe.upd.map (·.1),id∈ir'.reverse++[]:=by
     intro id hid
     obtain⟨u,hu,rfl⟩:=List.mem_map.1 hid
     exact fW.1 (hupd u hu)
    refine step (s0.apply (base+64*i) o.dst oe) ⟨⟨i,tr'.reverse++tr0,ir'.reverse++[],o.dst,oe.upd.map (·.1)++(au (base+64*i) oe.new).map (·.1)⟩,oe.val,oe.upd++au (base+64*i) oe.new,(au (base+64*i) oe.new).map (·.1)⟩
     (by cases o.dst<;>exact hnx0) ?_ rfl hdn ?_ hk'
    ·refine⟨by rw[St.den_apply,hs0], ?_,by simp only[List.map_append], ?_, ?_⟩
     ·intro id hid
      have:=Er _ _ _ hid
      cases hob:s.obj id with
      |none=>exact hob
      |some x=>have:=hb id (by rw[hob];simp);omega
     ·intro id hid;simp only[List.append_nil,List.mem_reverse]at hid;exact hr.reads id hid
     ·exact⟨o,hoi,rfl,tr',ir',true,by intro t ht;simp[ht],by intro t ht;simp[ht],hg.mono (λt ht=>by simp[ht]),.inl ⟨rfl,oe,hr,rfl,rfl,rfl,hold⟩⟩
    ·intro id hid
     have hobj:(s0.apply (base+64*i) o.dst oe).obj id=(s.den.wr o.dst oe.val (oe.upd++au (base+64*i) oe.new)).obj id:=by
      have:=congrArg (λx:FSt=>x.obj id) (St.den_apply s0 (base+64*i) o.dst oe)
      rw[hs0]at this
      exact this
     rw[hobj]at hid
     by_cases hw:id∈(oe.upd++au (base+64*i) oe.new).map (·.1)
     ·rw[List.map_append,List.mem_append]at hw
      rcases hw with hw|hw
      ·have h1:=hr.reads id (by have:=hold id hw;simpa using this)
       have:=hb id h1;omega
      ·have:=Er _ _ _ hw;omega
     ·rw[py hw]at hid
      have:=hb id hid;omega
  have skip:∀(s0:St) (tr0:List Nat),s0.den=s.den→s0.nx=s.nx→Guarded ops s.den o tr0 false→
    (bif (o.dst.toList.all λd=>Nat.blt d n)then
     Cl te orc n ops base rest (i+1) (match o.dst with|some d=>s0.set d yU|none=>s0) (log++[⟨i,tr0,[],o.dst,[]⟩]) k
    else none)=some z→
    ∃es s',Runs te C ops base s.den es s'.den∧k s' (log++es.map (·.l))=some z∧es.map (·.l.i)=List.range' i (o::rest).length∧(∀e∈es,∀d,e.l.dst=some d→d<n)∧
     (∀id,s'.obj id≠none→id<base+64*(i+(o::rest).length))∧s'.nx=s.nx:=by
   intro s0 tr0 hs0 hnx0 hg hk
   cases hc:(o.dst.toList.all λd=>Nat.blt d n)with
   |false=>rw[hc]at hk;cases hk
   |true=>
    rw[hc]at hk
    simp only[List.all_eq_true]at hc
    have hdn:∀d,o.dst=some d→d<n:=λd hd=>by
     have:=hc d (by simp[hd]);exact Nat.lt_of_lt_of_le (Nat.lt_succ_self d) (Nat.le_of_ble_eq_true this)
    have hden:(match o.dst with|some d=>s0.set d yU|none=>s0).den=s.den.wr o.dst yU []:=by
     cases o.dst with
     |none=>rw[hs0];rfl
     |some d=>simp only[];rw[St.den_set,hs0]
    refine step _ ⟨⟨i,tr0,[],o.dst,[]⟩,yU,[],[]⟩ (by cases o.dst<;>exact hnx0) ?_ rfl hdn ?_ hk
    ·exact⟨hden,by simp,rfl,by simp,o,hoi,rfl,[],[],false,by simp,by simp,hg,.inr ⟨rfl,rfl,rfl,rfl⟩⟩
    ·intro id hid
     have hobj:(match o.dst with|some d=>s0.set d yU|none=>s0).obj id=s.obj id:=congrArg (λx:FSt=>x.obj id) hden
     rw[hobj]at hid
     have:=hb id hid;omega
  simp only[Cl]at h
  split at h
  ·rename_i hgn
   exact go s [] rfl rfl (.none hgn) h
  ·rename_i j want hgs
   split at h
   ·rename_i t hdst
    split at h
    ·rename_i b hb'
     have hsame:∀c:Bool,b=c→(s.set t (one (.bool c))).den=s.den:=by
      intro c hc
      rw[St.den_set]
      exact FSt.wr_same _ _ _ (by subst hc;exact hb')
     cases b with
     |true=>
      simp only[BT]at h
      cases want with
      |true=>exact go _ [t] (hsame true rfl) rfl (.some hgs hdst hb' (show t∈[t] from List.mem_singleton.2 rfl) rfl) h
      |false=>exact skip _ [t] (hsame true rfl) rfl (.some hgs hdst hb' (show t∈[t] from List.mem_singleton.2 rfl) rfl) h
     |false=>
      simp only[Ea]at h
      cases want with
      |true=>exact skip _ [t] (hsame false rfl) rfl (.some hgs hdst hb' (show t∈[t] from List.mem_singleton.2 rfl) rfl) h
      |false=>exact go _ [t] (hsame false rfl) rfl (.some hgs hdst hb' (show t∈[t] from List.mem_singleton.2 rfl) rfl) h
    ·rename_i hb'
     exact skip s [t] rfl rfl (.skipped hgs hdst hb' (show t∈[t] from List.mem_singleton.2 rfl)) h
    ·cases h
   ·cases h
end
end Go.Proofs.YtffjmkhjhchnmaaGreat
