/- What is laid into an array, and own arrays that are frozen with it. -/
import Derived.Test.YtfpdenjmlnhnnaaGreatOps4
set_option linter.unusedVariables false
set_option linter.unusedSimpArgs false
namespace Go.Proofs.YtfpdenjmlnhnnaaGreat
open Go Go.RowKit
theorem Ext.refl {c:Cx}(h:∀b,c.I0 b→c.I b):Ext c c:=
 ⟨rfl,rfl,h,λ_ hb=>hb,λ_ _=>rfl,λ_ cs ho=>⟨⟨cs,ho⟩,rfl⟩,λ_ t xs v f d ho=>⟨t,xs,v,f,d,ho,Nat.le_refl _,λ_=>⟨rfl,rfl,rfl⟩⟩⟩
theorem Ext.trans {a b c:Cx}(h:Ext a b)(k:Ext b c):Ext a c:=by
 refine⟨k.n.trans h.n,k.i0.trans h.i0,h.i00,λx hx=>k.i x (h.i x hx),λx hx=>(k.w x (h.i x hx)).trans (h.w x hx),λid cs ho=> ?_,λid t xs v f d ho=> ?_⟩
 ·obtain⟨⟨cs',ho'⟩,hm⟩:=h.box id cs ho
  obtain⟨h2,hm2⟩:=k.box id cs' ho'
  exact⟨h2,hm2.trans hm⟩
 ·obtain⟨t',xs',v',f',d',ho',hv,hs⟩:=h.arr id t xs v f d ho
  obtain⟨t2,xs2,v2,f2,d2,ho2,hv2,pU⟩:=k.arr id t' xs' v' f' d' ho'
  refine⟨t2,xs2,v2,f2,d2,ho2,Nat.le_trans hv hv2,λe=> ?_⟩
  have e1:v=v':=by omega
  have e2:v'=v2:=by omega
  obtain⟨rfl,h1,h2⟩:=hs e1
  obtain⟨rfl,h3,h4⟩:=pU e2
  exact⟨rfl,h3.trans h1,h4.trans h2⟩
def eS (s:FSt)(u:List (Nat×Ob)):Prop:=∀p∈u,∃(t:Ty) (xs:List t.T) (ver:Nat) (f d:Bool),p.2= .arr t xs ver true d∧s.obj p.1=some (.arr t xs ver f d)
def gJ (obj:Nat→Option Ob)(u:List (Nat×Ob)):Nat→Option Ob:=λid=>match ao u id with|some o=>some o|none=>obj id
def wn (d:Bool):Pv:=if d then .new else .any
section
variable {α:Type} {C:Nat→List PV→List MO→eT→List MO→Prop} {w0:World} {mo:o8} {n:Nat} {I0 I:Nat→Prop} {M:Nat→Option (Nat×Nat)} {s:FSt} {a:Act} {w:World} {te:TE} {P:Program} {base:Nat} {e:Eff} {o:Oper}
theorem yW (h:SimX w0 mo n I0 I M s a w):∀{u:List (Nat×Ob)},eS s u→
  ∃I',(∀p∈u,∀b c,M p.1=some (b,c)→I' b)∧Ext (aY w0 I0 I M s w) ⟨w0.heap.size,I0,I',M,gJ s.obj u,w⟩∧SimX w0 mo n I0 I' M ⟨s.tmp,gJ s.obj u⟩ a w
 |[],_=>⟨I,by simp,Ext.refl h.i00,h⟩
 |p::r,hu=>by
  obtain⟨I1,hb1,hext1,hs1⟩:=yW h (u:=r) λq hq=>hu q (List.mem_cons_of_mem _ hq)
  obtain⟨t,xs,ver,f,d,hp2,hob⟩:=hu p (by simp)
  have hob1:∃f',gJ s.obj r p.1=some (.arr t xs ver f' d):=by
   unfold gJ
   cases hl:ao r p.1 with
   |none=>exact⟨f,hob⟩
   |some o1=>
    have:∃q∈r,q.1=p.1∧q.2=o1:=by
     clear hb1 hext1 hs1 hu
     induction r with
     |nil=>simp[ao]at hl
     |cons q r ih=>
      obtain⟨j,b⟩:=q
      simp only[ao]at hl
      cases hj:Nat.beq j p.1 with
      |true=>rw[hj]at hl;cases hl;exact⟨_,List.mem_cons_self,Nat.eq_of_beq_eq_true hj,rfl⟩
      |false=>rw[hj]at hl;obtain⟨q,hq,h1⟩:=ih hl;exact⟨q,List.mem_cons_of_mem _ hq,h1⟩
    obtain⟨q,hq,hq1,hq2⟩:=this
    obtain⟨t',xs',ver',f',d',h1,h2⟩:=hu q (List.mem_cons_of_mem _ hq)
    rw[hq1,hob]at h2
    cases h2
    exact⟨true,by rw[←hq2,h1]⟩
  obtain⟨f',hob1⟩:=hob1
  obtain⟨I2,hI,hIb,hext2,pU⟩:=hs1.freeze hob1
  have hfun:aJ (gJ s.obj r) p.1 (.arr t xs ver true d)=gJ s.obj (p::r):=by
   funext i
   have:=cI (gJ s.obj r) p.1 i (.arr t xs ver true d)
   rw[this,pn]
   obtain⟨j,b⟩:=p
   simp only at hp2⊢
   subst hp2
   unfold gJ
   simp only[ao]
   by_cases ei:i=j
   ·subst ei;simp
   ·have hbq:Nat.beq j i=false:=by
     cases hbq:Nat.beq j i with
     |false=>rfl
     |true=>exact absurd (Nat.eq_of_beq_eq_true hbq).symm ei
    rw[if_neg ei,hbq]
  rw[hfun]at hext2 pU
  refine⟨I2,λq hq b c hM=> ?_,hext1.trans hext2,pU⟩
  rcases List.mem_cons.1 hq with rfl|hq
  ·exact hIb b c hM
  ·exact hI b (hb1 q hq b c hM)
def mQ (x:Cx)(u:List (Nat×Ob))(d:Bool)(c:Cell)(v:Value):Prop:=
 ∀x',Ext x x'→x'.w=x.w→(∀p∈u,∀b k,x.M p.1=some (b,k)→x'.I b)→RepC (x'.J (wn d)) x'.w c v
theorem mQ.mono {x:Cx}{u u':List (Nat×Ob)}{d d':Bool}{c:Cell}{v:Value}(h:mQ x u d c v)(hu:∀p∈u,p∈u')(hd:d'=true→d=true):mQ x u' d' c v:=by
 intro x' hext hw hb
 have:=h x' hext hw λp hp=>hb p (hu p hp)
 cases d' with
 |true=>rw[hd rfl]at this;exact this
 |false=>
  cases d with
  |false=>exact this
  |true=>exact this.mono (λ_ _=>rfl) λb hb'=>hb'.1
theorem Sj (h:SimX w0 mo n I0 I M s a w){f:Fl}{c:DC}{v:Value}(hc:be (aY w0 I0 I M s w) c v){k:Cell→Bool→List (Nat×Ob)→Rd α}{e:α}(hr:bF C s (WK f c k) e):
  ∃x d u,mQ (aY w0 I0 I M s w) u d x v∧eS s u∧bF C s (k x d u) e:=by
 cases c with
 |bool b=>simp only[be]at hc;rw[hc];exact⟨_,_,_,λ_ _ _ _=> .bool b,by simp[eS],hr⟩
 |int k' m=>rw[hc.1];exact⟨_,_,_,λ_ _ _ _=> .int _ _ hc.2,by simp[eS],hr⟩
 |str b=>obtain⟨b',rfl,rfl,hl⟩:=hc;exact⟨_,_,_,λ_ _ _ _=> .str b' hl,by simp[eS],hr⟩
 |sl p t xs=>
  refine⟨_,_,_,λx' hext _ _=> ?_,by simp[eS],hr⟩
  have:=RepC.ext hext hc
  cases p
  ·refine this.mono (λ_ _=>rfl) λb hb=> ?_
   have hb':x'.I0 b:=hb
   rw[hext.i0]at hb'
   exact hext.i b (h.i00 b hb')
  ·exact this
  ·exact this
 |nil=>
  simp only[be]at hc
  rw[hc]
  cases f with
  |sl t=>exact⟨_,_,_,λ_ _ _ _=> .nil t,by simp[eS],hr⟩
  |_=>exact hr.fail.elim
 |own id ver=>
  obtain⟨ob,hob,hr⟩:=hr.get
  cases ob with
  |box _=>exact hr.fail.elim
  |arr t xs ver' f' d=>
   obtain⟨hg,hr⟩:=hr.guard
   obtain⟨t1,xs1,v1,f1,d1,h1,h2,h3,h4⟩:=hc
   simp only[]at h1 h3
   rw[hob]at h1;cases h1
   have hval:=h3 (Nat.eq_of_beq_eq_true hg)
   refine⟨_,_,_,λx' hext hw hb=> ?_, ?_,hr⟩
   ·rcases h.objs id _ hob with⟨hM,hnil⟩|⟨b,cap,hM,hN,_,_,hcap,hmx,_,he⟩
    ·simp only[]at hM
     rw[hM]at hval
     obtain⟨_,hval⟩:=hval
     rw[hval,hnil]
     exact RepC.empty t _
    ·simp only[]at hM hN
     rw[hM]at hval
     simp only[dk]at hval
     rw[hval]
     have hIb:x'.I b:=hb _ (List.mem_singleton.2 rfl) b cap hM
     simp only[]at hw
     refine .sl t xs b 0 cap (λi j=>(w.cell? ⟨b,i*t.size+j,none⟩).getD undef) (λ_=> ?_) hmx hcap (λi x j c hx hc=> ?_) (λi x j c hx hc=> ?_)
     ·cases d
      ·exact hIb
      ·exact⟨hIb,by rw[hext.n];exact hN rfl⟩
     ·obtain⟨u,hu,_⟩:=he i x j c hx hc
      simp only[]at hu
      rw[Nat.zero_add,hw,hu];rfl
     ·obtain⟨u,hu,hru⟩:=he i x j c hx hc
      simp only[]at hu
      rw[hu]
      exact RepC.ext hext hru
   ·intro p hp
    rw[List.mem_singleton]at hp
    subst hp
    exact⟨t,xs,ver',f',d,rfl,hob⟩
 |ptr _ _=>exact hr.fail.elim
 |eptr _ _ _ _=>exact hr.fail.elim
 |vw _ _ _ _=>exact hr.fail.elim
 |ref _ _=>exact hr.fail.elim
 |fn _ _=>exact hr.fail.elim
 |slx _ _=>exact hr.fail.elim
 |undef=>exact hr.fail.elim
 |skipped=>exact hr.fail.elim
theorem eS.append {s:FSt}{u v:List (Nat×Ob)}(h:eS s u)(k:eS s v):eS s (u++v):=by
 intro p hp
 rcases List.mem_append.1 hp with hp|hp
 ·exact h p hp
 ·exact k p hp
theorem pX (h:SimX w0 mo n I0 I M s a w):∀{fs:List Fl} {cs:List DC} {us:List Value},aL (λc u=>be (aY w0 I0 I M s w) c u) cs us→∀{k:List Cell→Bool→List (Nat×Ob)→Rd α} {e:α},bF C s (xE fs cs k) e→
  ∃xs d u,aL (mQ (aY w0 I0 I M s w) u d) xs us∧eS s u∧bF C s (k xs d u) e
 |[],[],[],_,k,e,hr=>⟨[],true,[],trivial,by simp[eS],hr⟩
 |f::fs,c::cs,u::us,hall,k,e,hr=>by
  obtain⟨x,d,v,hx,hv,hr⟩:=Sj h hall.1 hr
  obtain⟨xs,d',v',hxs,hv',hr⟩:=pX h hall.2 hr
  exact⟨x::xs,d&&d',v++v',⟨hx.mono (λp hp=>List.mem_append_left _ hp) (by simp;exact λh _=>h),hxs.mono λ_ _ hh=>hh.mono (λp hp=>List.mem_append_right _ hp) (by simp)⟩,hv.append hv',hr⟩
 |[],_::_,_,_,_,_,hr=>hr.fail.elim
 |_::_,[],_,_,_,_,hr=>hr.fail.elim
 |_::_,_::_,[],hall,_,_,_=>hall.elim
 |[],[],_::_,hall,_,_,_=>hall.elim
theorem mQ.get {x x':Cx}{u:List (Nat×Ob)}{d:Bool}{xs:List Cell}{us:List Value}(h:aL (mQ x u d) xs us)(hext:Ext x x')(hw:x'.w=x.w)(hb:∀p∈u,∀b k,x.M p.1=some (b,k)→x'.I b):
  aL (RepC (x'.J (wn d)) x'.w) xs us:=h.mono λ_ _ hh=>hh x' hext hw hb
theorem BD {x:Cx}{ag:Bool}{cs:List DC}{v:Value}(h:kP x ag cs v):aL (λc u=>be x c u) cs (if ag then v.cells.toList else[v]):=by
 cases ag with
 |true=>obtain⟨us,rfl,hu⟩:=h;exact hu.mono λ_ _ hh=>hh.1
 |false=>obtain⟨c,rfl,hc⟩:=h;exact⟨hc,trivial⟩
theorem VB {v:Value}(h:v.oneCell'=true):v.cells= #[v]:=by cases v<;>first|rfl|simp[Value.oneCell']at h
theorem sa {x:Cx}{ag:Bool}{cs:List DC}{v:Value}(h:kP x ag cs v)(hok:cs.all DC.ok=true):aL (λc u=>be x c u∧u.oneCell'=true) cs v.cells.toList:=by
 cases ag with
 |true=>obtain⟨us,rfl,hu⟩:=h;exact hu
 |false=>
  obtain⟨c,rfl,hc⟩:=h
  have hne:c.ok=true:=by simpa using hok
  rw[VB (hc.one1 hne)]
  exact⟨⟨hc,hc.one1 hne⟩,trivial⟩
end
end Go.Proofs.YtfpdenjmlnhnnaaGreat
