/- Regions: the model's run of a region out of the executor's. Generic in the relation between states. -/
import Derived.Test.YtffjmkhjhchnmaaGreatReg
set_option linter.unusedVariables false
set_option linter.unusedSimpArgs false
namespace Go.Proofs.YtffjmkhjhchnmaaGreat
open Go
structure SimOk (P:Program)(C:Nat→List PV→List MO→cS→List MO→Prop)(te:TE)(n:Nat)(S:FSt→Act→World→Prop):Prop where
 op:∀(o:Oper) (base:Nat) (s:FSt) (a:Act) (w:World) (tr ir:List Nat) (oe:Eff) (K:Act→World→Prop) (Q:Exit→Act→World→Prop),
  Rel C s (dJ te base o.op) tr ir oe→(∀id∈(au base oe.new).map (·.1),s.obj id=none)→(∀id∈oe.upd.map (·.1),s.obj id≠none)→S s a w→
  (∀d,o.dst=some d→d<n)→(∀a' w',S (s.wr o.dst oe.val (oe.upd++au base oe.new)) a' w'→K a' w')→o.wp P a w K Q
 skip:∀(dst:Option Nat) (s:FSt) (a:Act) (w:World),S s a w→(∀d,dst=some d→d<n)→S (s.wr dst yU []) (a.put dst undef) w
 bool:∀(s:FSt) (a:Act) (w:World) (t:Nat) (b:Bool),S s a w→s.tmp t=one (.bool b)→a.tmps[t]? =some (.bool b)
 skp:∀(s:FSt) (a:Act) (w:World) (t:Nat),S s a w→s.tmp t=one .skipped→a.tmps.getD t undef=undef
 drew:∀(s:FSt) (a:Act) (w:World),S s a w→S s a {w with drawn:=w.drawn+1}
section
variable {P:Program} {C:Nat→List PV→List MO→cS→List MO→Prop} {te:TE} {n:Nat} {S:FSt→Act→World→Prop} {opsA:Array Oper} {base:Nat}
theorem Exec.wp (H:SimOk P C te n S){s s1:FSt}{e:Ent}(h:Exec te C opsA.toList base s e s1)(hd:∀d,e.l.dst=some d→d<n)
  {a:Act}{w:World}(hs:S s a w){K:Act→World→Prop}{Q:Exit→Act→World→Prop}(hK:∀a' w',S s1 a' w'→K a' w'):wpOp P opsA Q e.l.i K a w:=by
 obtain⟨o,ho,hod,tr,ir,g,htr,hir,hg,hwhy⟩:=h.why
 have ho':opsA[e.l.i]? =some o:=by simpa using ho
 have hgd:g=Region.wanted o (yielded opsA a.tmps):=by
  cases hg with
  |none hn=>simp[Region.wanted,hn]
  | @skipped j want t h1 h2 h3 h4=>
   simp only[Region.wanted,h1]
   have hy:yielded opsA a.tmps j=none:=by
    have h2':(opsA[j]?).bind (·.dst)=some t:=by simpa [IE]using h2
    have h5:=H.skp s a w t hs h3
    simp only[yielded,h2',Option.bind_some]
    cases hx:a.tmps[t]? with
    |none=>rfl
    |some v=>
     have:a.tmps.getD t undef=v:=by simp[Array.getD_eq_getD_getElem?,hx]
     rw[h5]at this
     subst this
     rfl
   rw[hy]
   cases want<;>rfl
  | @some j want t b _ h1 h2 h3 h4 h5=>
   simp only[Region.wanted,h1]
   have hy:yielded opsA a.tmps j=some b:=by
    have h2':(opsA[j]?).bind (·.dst)=some t:=by simpa [IE]using h2
    simp only[yielded,h2',Option.bind_some,H.bool s a w t b hs h3]
   rw[hy,←h5]
   cases b<;>cases want<;>rfl
 unfold wpOp
 rw[ho']
 simp only[]
 rcases hwhy with⟨rfl,oe,hr,hval,hws,hfr,hup⟩|⟨rfl,hval,hws,hfr⟩
 ·rw[if_pos hgd.symm]
  refine .inl (H.op o (base+64*e.l.i) s a w tr ir oe K Q hr ?_ ?_ hs (by rw[hod];exact hd) ?_)
  ·intro id hid;exact h.fresh id (by rw[hfr];exact hid)
  ·intro id hid;exact h.oldr id (hup id hid)
  ·intro a' w' hs'
   refine hK a' w' ?_
   rw[h.next,hval,hws,←hod];exact hs'
 ·rw[if_neg (by rw[←hgd];simp)]
  refine hK _ _ ?_
  rw[h.next,hval,hws,←hod]
  exact H.skip o.dst s a w hs (by rw[hod];exact hd)
theorem Runs.ops (H:SimOk P C te n S){es:List Ent}:∀{s sn:FSt},Runs te C opsA.toList base s es sn→(∀e∈es,∀d,e.l.dst=some d→d<n)→
  ∀{a:Act} {w:World},S s a w→∀{Q:Exit→Act→World→Prop},(∀a' w',S sn a' w'→Q .normal a' w')→wpOps P opsA Q (es.map (·.l.i)) a w:=by
 induction es with
 |nil=>
  intro s sn h _ a w hs Q hQ
  cases h
  exact hQ a w hs
 |cons e es ih=>
  intro s sn h hd a w hs Q hQ
  cases h with
  |cons he hr=>
   simp only[List.map_cons,wpOps_cons]
   exact he.wp H (hd e (by simp)) hs λa' w' hs'=>ih hr (λx hx=>hd x (List.mem_cons_of_mem _ hx)) hs' hQ
theorem yt {ops:List Oper}{log:List LogE}(h:lA ops log=true):
  log.Pairwise λb a=>jF a b=false∨oq ops ops.length a.i b.i=true:=by
 induction log with
 |nil=>exact .nil
 |cons b r ih=>
  simp only[lA,Bool.and_eq_true,List.all_eq_true]at h
  refine .cons (λa ha=> ?_) (ih h.2)
  simpa using h.1 a ha
theorem EU {ops:Array Oper}{i m:Nat}:m∈after ops.toList i↔∃o,ops[i]? =some o∧∃e∈o.after,Region.binds .any e=true∧e.on=m:=by
 unfold after
 cases h:ops.toList[i]? with
 |none=>
  have:ops[i]? =none:=by simpa using h
  simp[this]
 |some o=>
  have:ops[i]? =some o:=by simpa using h
  simp only[this,Option.some.injEq,exists_eq_left',List.mem_filterMap,Array.mem_toList_iff]
  constructor
  ·rintro⟨e,he,h⟩
   split at h
   ·rename_i hb;cases h;exact⟨e,he,hb,rfl⟩
   ·cases h
  ·rintro⟨e,he,hb,rfl⟩
   exact⟨e,he,by rw[if_pos hb]⟩
theorem vl {ops:Array Oper}{j:Nat}{listed:Array Bool}:j∈Region.ready .any ops listed↔
  listed.getD j true=false∧j<ops.size∧∀m∈after ops.toList j,listed.getD m false=true:=by
 rw[mem_ready]
 constructor
 ·rintro⟨h0,o,ho,h⟩
  refine⟨h0,(Array.getElem?_eq_some_iff.1 ho).1,λm hm=> ?_⟩
  obtain⟨o',ho',e,he,hb,rfl⟩:=EU.1 hm
  rw[ho]at ho';cases ho'
  exact h e he hb
 ·rintro⟨h0,hj,h⟩
  refine⟨h0,ops[j],by simp[hj],λe he hb=>h _ (EU.2 ⟨_,by simp[hj],e,he,hb,rfl⟩)⟩
theorem Eo {l:Array Bool}{i:Nat}(h:i<l.size)(d e:Bool):l.getD i d=l.getD i e:=by simp[Array.getD,h]
theorem Runs.any (H:SimOk P C te n S)(hback:j8 opsA.toList=true){sn:FSt}{Q:Exit→Act→World→Prop}(hQ:∀a' w',S sn a' w'→Q .normal a' w'):
  ∀(fuel:Nat) (listed:Array Bool) (rem:List Ent) (s:FSt) (a:Act) (w:World),rem.length=fuel→listed.size=opsA.size→
   Runs te C opsA.toList base s rem sn→(∀e∈rem,∀d,e.l.dst=some d→d<n)→
   (∀i,i<opsA.size→(listed.getD i true=false↔i∈rem.map (·.l.i)))→(∀e∈rem,e.l.i<opsA.size)→(rem.map (·.l.i)).Pairwise (·<·)→
   (∀(i:Nat),listed.getD i false=true→∀j∈after opsA.toList i,listed.getD j false=true)→
   (rem.map (·.l)).Pairwise (λb a=>jF a b=false∨oq opsA.toList opsA.toList.length a.i b.i=true)→
   S s a w→wpAny P .any opsA Q fuel listed a w:=by
 intro fuel
 induction fuel with
 |zero=>
  intro listed rem s a w hlen hsz hr _ hmem _ _ _ _ hs
  have:rem=[]:=List.eq_nil_of_length_eq_zero hlen
  subst this
  cases hr
  refine⟨?_,hQ a w hs⟩
  cases hrd:Region.ready .any opsA listed with
  |nil=>rfl
  |cons j r=>
   exfalso
   have hj:j∈Region.ready .any opsA listed:=by rw[hrd];simp
   obtain⟨h0,hlt,_⟩:=vl.1 hj
   have:=(hmem j hlt).1 h0
   simp at this
 |succ fuel ih=>
  intro listed rem s a w hlen hsz hr hd hmem hlt hsort hdown hpw hs
  refine⟨λhnil=> ?_,λi hi=> ?_⟩
  ·exfalso
   cases rem with
   |nil=>simp at hlen
   |cons e rem=>
    have hei:=hlt e (by simp)
    have:e.l.i∈Region.ready .any opsA listed:=by
     refine vl.2 ⟨(hmem _ hei).2 (by simp),hei,λm hm=> ?_⟩
     have hmlt:m<e.l.i:=by
      have:=hback
      simp only[j8,List.all_eq_true,List.mem_range]at this
      have:=this e.l.i (by simpa using hei) m hm
      exact Nat.lt_of_lt_of_le (Nat.lt_succ_self m) (Nat.le_of_ble_eq_true this)
     have hms:m<opsA.size:=Nat.lt_trans hmlt hei
     cases hl:listed.getD m true with
     |true=>rw[Eo (by omega) false true];exact hl
     |false=>
      exfalso
      have h1:=(hmem m hms).1 hl
      simp only[List.map_cons,List.mem_cons]at h1
      rcases h1 with h1|h1
      ·omega
      ·have:=(List.pairwise_cons.1 hsort).1 m h1;simp only[]at this;omega
    rw[hnil]at this
    cases this
  ·obtain⟨h0,hil,hdeps⟩:=vl.1 hi
   have hin:=(hmem i hil).1 h0
   obtain⟨e,he,hei⟩:=List.mem_map.1 hin
   obtain⟨l1,l2,rfl⟩:=List.append_of_mem he
   have hfront:=hr.front (λb hb=>by
    have hp:jF e.l b.l=false∨oq opsA.toList opsA.toList.length e.l.i b.l.i=true:=by
     rw[List.map_append,List.pairwise_append]at hpw
     exact hpw.2.2 b.l (List.mem_map_of_mem hb) e.l (by simp)
    rcases hp with hp|hp
    ·exact hp
    ·exfalso
     rw[hei]at hp
     have hbl:=B8 hdown _ i b.l.i hdeps hp
     have hbs:=hlt b (by simp[hb])
     have:listed.getD b.l.i true=false:=(hmem _ hbs).2 (List.mem_map_of_mem (by simp[hb]))
     rw[Eo (by omega) true false]at this
     rw[hbl]at this;cases this)
   cases hfront with
   |cons hx hrest=>
    subst hei
    refine hx.wp H (hd e he) hs λa' w' hs'=> ?_
    have hsub:(l1++l2).Sublist (l1++e::l2):=List.Sublist.append_left (List.sublist_cons_self _ _) _
    have hnd:e.l.i∉(l1++l2).map (·.l.i):=by
     intro hc
     simp only[List.map_append,List.map_cons,List.mem_append]at hsort hc
     rw[List.pairwise_append]at hsort
     obtain⟨_,h2,h3⟩:=hsort
     rcases hc with hc|hc
     ·have:=h3 _ hc e.l.i (by simp);omega
     ·have:=(List.pairwise_cons.1 h2).1 _ hc;omega
    refine ih (listed.setIfInBounds e.l.i true) (l1++l2) _ a' w' ?_ (by simpa using hsz) hrest ?_ ?_ ?_ ?_ ?_ ?_ hs'
    ·simp at hlen⊢;omega
    ·intro x hx';exact hd x (hsub.subset hx')
    ·intro j hj
     by_cases hje:e.l.i=j
     ·subst hje
      constructor
      ·intro hc;rw[Array.getD_eq_getD_getElem?]at hc;simp[hsz,hj]at hc
      ·intro hc;exact absurd hc hnd
     ·rw[getD_set_ne true hje,hmem j hj]
      simp only[List.map_append,List.map_cons,List.mem_append,List.mem_cons]
      constructor
      ·rintro(h|h|h)
       ·exact .inl h
       ·exact absurd h.symm hje
       ·exact .inr h
      ·rintro(h|h)
       ·exact .inl h
       ·exact .inr (.inr h)
    ·intro x hx';exact hlt x (hsub.subset hx')
    ·exact hsort.sublist (hsub.map _)
    ·intro j hj m hm
     by_cases hje:e.l.i=j
     ·subst hje
      exact getD_set_true (hdeps m hm)
     ·rw[getD_set_ne false hje]at hj
      exact getD_set_true (hdown j hj m hm)
    ·exact hpw.sublist (hsub.map _)
theorem Runs.same {te:TE}{C:Nat→List PV→List MO→cS→List MO→Prop}{ops:List Oper}{base:Nat}:∀{es:List Ent} {s s':FSt},Runs te C ops base s es s'→((∀e∈es.map (·.l),e.iw=[])→∀id,s'.obj id=s.obj id)∧∀t,(∀o∈ops,o.dst≠some t)→s'.tmp t=s.tmp t
 |[],_,_,.nil _=>⟨λ_ _=>rfl,λ_ _=>rfl⟩
 |e::es,s,s',.cons h hr=>by
  obtain⟨h1,h2⟩:=Runs.same hr
  have hn:=h.next
  refine⟨λhw id=> ?_,λt ht=> ?_⟩
  ·rw[h1 (λx hx=>hw x (List.mem_cons_of_mem _ hx)) id,hn,py]
   rw[h.iw,hw e.l (by simp)]
   simp
  ·rw[h2 t ht,hn,x4]
   obtain⟨o,ho,hod,_⟩:=h.why
   rw[←hod]
   exact ht o (List.mem_of_getElem? ho)
theorem Ez {γ:Type}(H:SimOk P C te n S)(hmix:P.follows .mixedOrders=true){orc:HU}(ho:qV C orc){id:Nat}{draw:Bool}{s:St}{z:γ}{k:St→List LogE→Option γ}
  (hb:∀id,s.obj id≠none→id<s.nx)
  (h:Cl te orc n opsA.toList s.nx opsA.toList 0 s [] (λs' log=>bif (!draw||(j8 opsA.toList&&lA opsA.toList log))then k {s' with nx:=s.nx+64*opsA.size} log else none)=some z)
  {a:Act} {w:World} (hs:S s.den a w) {Q:Exit→Act→World→Prop}
  (hQ:∀s' log,k s' log=some z→(∀id,s'.obj id≠none→id<s'.nx)→((∀e∈log,e.iw=[])→∀id,s'.den.obj id=s.den.obj id)→(∀t,(∀o∈opsA.toList,o.dst≠some t)→s'.den.tmp t=s.den.tmp t)→∀a' w',S s'.den a' w'→Q .normal a' w'):
  (Code.region id opsA draw).wp P Q a w:=by
 obtain⟨es,s',hr,hk,hidx,hdst,hbd,hnx⟩:=MA (ops:=opsA.toList) (base:=s.nx) ho opsA.toList 0 s [] rfl (by simpa using hb) h
 have hbd':∀id,({s' with nx:=s.nx+64*opsA.size}:St).obj id≠none→id<s.nx+64*opsA.size:=by
  intro id hid
  have:=hbd id hid
  simpa using this
 have hfin:∀k',k'=es.map (·.l)→(bif (!draw||(j8 opsA.toList&&lA opsA.toList k'))then k {s' with nx:=s.nx+64*opsA.size} k' else none)=some z→
   ∀a' w',S s'.den a' w'→Q .normal a' w':=by
  intro k' he' hk' a' w' hs'
  subst he'
  cases hc:(!draw||(j8 opsA.toList&&lA opsA.toList (es.map (·.l))))with
  |false=>rw[hc]at hk';cases hk'
  |true=>
   rw[hc]at hk'
   exact hQ _ _ hk' hbd' hr.same.1 hr.same.2 a' w' hs'
 simp only[List.nil_append]at hk
 have hl:es.map (·.l.i)=List.range opsA.size:=by rw[hidx,List.range_eq_range'];simp
 have hlen:es.length=opsA.size:=by
  have:=congrArg List.length hl
  simpa using this
 cases draw with
 |false=>
  refine wp_region ?_
  rw[←hl]
  exact hr.ops H hdst hs (hfin _ rfl hk)
 |true=>
  have hc:j8 opsA.toList=true∧lA opsA.toList (es.map (·.l))=true:=by
   cases hc:(!true||(j8 opsA.toList&&lA opsA.toList (es.map (·.l))))with
   |false=>rw[hc]at hk;cases hk
   |true=>simpa using hc
  refine wp_region_any hmix ?_
  refine Runs.any H hc.1 (hfin _ rfl hk) opsA.size _ es s.den a _ hlen (by simp) hr hdst ?_ ?_ ?_ ?_ (yt hc.2) (H.drew _ _ _ hs)
  ·intro i hi
   rw[hl]
   simp[Array.getD,hi]
  ·intro e he
   have:e.l.i∈es.map (·.l.i):=List.mem_map_of_mem he
   rw[hl]at this
   simpa using this
  ·rw[hl,List.range_eq_range'];exact List.pairwise_lt_range'
  ·intro i hi
   exfalso
   by_cases hlt:i<opsA.size<;>simp[Array.getD,hlt]at hi
end
end Go.Proofs.YtffjmkhjhchnmaaGreat
