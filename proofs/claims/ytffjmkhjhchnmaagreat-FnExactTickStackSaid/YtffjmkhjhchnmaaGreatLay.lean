/- What is laid into an array, and own arrays that are frozen with it. -/
import Derived.Test.YtffjmkhjhchnmaaGreatOps4
set_option linter.unusedVariables false
set_option linter.unusedSimpArgs false
namespace Go.Proofs.YtffjmkhjhchnmaaGreat
open Go Go.RowKit
theorem Ext.refl {c:Cx}(h:∀b,c.I0 b→c.I b):Ext c c:=
 ⟨rfl,rfl,h,λ_ hb=>hb,λ_ _=>rfl,λ_ cs ho=>⟨⟨cs,ho⟩,rfl⟩,λ_ t xs v f d ho=>⟨t,xs,v,f,d,ho,Nat.le_refl _,λ_=>⟨rfl,rfl,rfl⟩⟩,λ_ t xs v k ho=>⟨_,ho,.same rfl rfl⟩⟩
theorem jA.trans {t1 t2 t3:Ty}{xs:List t1.T}{ys:List t2.T}{zs:List t3.T}(h:jA xs ys)(k:jA ys zs):jA xs zs:=by
 intro i off e t ws h1 h2
 obtain⟨e',ws',h3,h4,h5⟩:=h i off e t ws h1 h2
 obtain⟨e2,ws2,h6,h7,h8⟩:=k i off e' t ws' h3 h4
 exact⟨e2,ws2,h6,h7,h8.trans h5⟩
theorem Ext.trans {a b c:Cx}(h:Ext a b)(k:Ext b c):Ext a c:=by
 refine⟨k.n.trans h.n,k.i0.trans h.i0,h.i00,λx hx=>k.i x (h.i x hx),λx hx=>(k.w x (h.i x hx)).trans (h.w x hx),λid cs ho=> ?_,λid t xs v f d ho=> ?_,λid t xs v k0 ho=> ?_⟩
 ·obtain⟨⟨cs',ho'⟩,hm⟩:=h.box id cs ho
  obtain⟨h2,hm2⟩:=k.box id cs' ho'
  exact⟨h2,hm2.trans hm⟩
 ·obtain⟨t',xs',v',f',d',ho',hv,hs⟩:=h.arr id t xs v f d ho
  obtain⟨t2,xs2,v2,f2,d2,ho2,hv2,hs2⟩:=k.arr id t' xs' v' f' d' ho'
  refine⟨t2,xs2,v2,f2,d2,ho2,Nat.le_trans hv hv2,λe=> ?_⟩
  have e1:v=v':=by omega
  have e2:v'=v2:=by omega
  obtain⟨rfl,h1,h2⟩:=hs e1
  obtain⟨rfl,h3,h4⟩:=hs2 e2
  exact⟨rfl,h3.trans h1,h4.trans h2⟩
 ·obtain⟨o,ho1,hd⟩:=h.dar id t xs v k0 ho
  cases o with
  |box _=>exact hd.elim
  |arr t' xs' v' f' d'=>
   obtain⟨t2,xs2,v2,f2,d2,ho2,hv2,_⟩:=k.arr id t' xs' v' f' d' ho1
   exact⟨_,ho2,Nat.lt_of_lt_of_le hd hv2⟩
  |dar t' xs' v' k1=>
   obtain⟨o2,ho2,hd2⟩:=k.dar id t' xs' v' k1 ho1
   refine⟨o2,ho2, ?_⟩
   obtain⟨g1,g2,g3,g4⟩:=hd
   cases o2 with
   |box _=>exact hd2.elim
   |arr t2 xs2 v2 f2 d2=>exact Nat.lt_of_le_of_lt g1 hd2
   |dar t2 xs2 v2 k2=>
    obtain⟨q1,q2,q3,q4⟩:=hd2
    refine⟨Nat.le_trans g1 q1,Nat.le_trans g2 q2,λe=> ?_,λe=> ?_⟩
    ·obtain⟨rfl,h1,h2⟩:=g3 (by omega)
     obtain⟨rfl,h3,h4⟩:=q3 (by omega)
     exact⟨rfl,h3.trans h1,h4.trans h2⟩
    ·obtain⟨e1,h1,h2⟩:=g4 (by omega)
     obtain⟨e2,h3,h4⟩:=q4 (by omega)
     exact⟨by omega,h3.trans h1,h2.trans h4⟩
def Qi {t:Ty}(xs:List t.T)(ver:Nat)(d:Bool)(o:Option Ob):Prop:=
 (∃f,o=some (.arr t xs ver f d))∨(d=false∧∃v iv,ver=v+1∧o=some (.dar t xs v iv))
theorem Qi.live {t:Ty}{xs:List t.T}{ver:Nat}{d:Bool}{o:Option Ob}(h:Qi xs ver d o):o≠none:=by
 rcases h with⟨_,rfl⟩|⟨_,_,_,_,rfl⟩<;>simp
def cW (s:FSt)(u:List (Nat×Ob)):Prop:=∀p∈u,∃(t:Ty) (xs:List t.T) (ver:Nat) (d:Bool),p.2= .arr t xs ver true d∧Qi xs ver d (s.obj p.1)
def bx (obj:Nat→Option Ob)(u:List (Nat×Ob)):Nat→Option Ob:=λid=>match ac u id with|some o=>some o|none=>obj id
def pX (d:Bool):Pv:=if d then .new else .any
section
variable {α:Type} {C:Nat→List PV→List MO→cS→List MO→Prop} {w0:World} {mo:gj} {n:Nat} {I0 I:Nat→Prop} {M:MF} {s:FSt} {a:Act} {w:World} {te:TE} {P:Program} {base:Nat} {e:Eff} {o:Oper}
def u9 (x x':Cx)(u:List (Nat×Ob)):Prop:=(∀p∈u,∀b k,x.M p.1=some (b,k)→x'.I b)∧∀p∈u,isDar (x.obj p.1)=true→∀i j b k,x.M.n p.1 i j=some (b,k)→x'.I b
theorem u9.sub {x x':Cx}{u u':List (Nat×Ob)}(h:u9 x x' u')(hu:∀p∈u,p∈u'):u9 x x' u:=⟨λp hp=>h.1 p (hu p hp),λp hp=>h.2 p (hu p hp)⟩
theorem GE {α:Type}:∀{l:List (Nat×α)} {i:Nat} {o:α},ac l i=some o→∃q∈l,q.1=i∧q.2=o
 |[],_,_,h=>by simp[ac]at h
 |(j,b)::r,i,o,h=>by
  simp only[ac]at h
  cases hj:Nat.beq j i with
  |true=>rw[hj]at h;cases h;exact⟨_,List.mem_cons_self,Nat.eq_of_beq_eq_true hj,rfl⟩
  |false=>rw[hj]at h;obtain⟨q,hq,h1⟩:=GE h;exact⟨q,List.mem_cons_of_mem _ hq,h1⟩
theorem EE (obj:Nat→Option Ob)(p:Nat×Ob)(r:List (Nat×Ob)):af (bx obj r) p.1 p.2=bx obj (p::r):=by
 funext i
 obtain⟨j,b⟩:=p
 simp only[af,bx,ac]
 by_cases e:i=j
 ·subst e;simp
 ·have hb:Nat.beq j i=false:=by
   cases hb:Nat.beq j i with
   |false=>rfl
   |true=>exact absurd (Nat.eq_of_beq_eq_true hb).symm e
  rw[if_neg e,hb]
theorem uk (h:SimX w0 mo n I0 I M s a w):∀{u:List (Nat×Ob)},cW s u→
  ∃I',u9 (ax w0 I0 I M s w) ⟨w0.heap.size,I0,I',M,bx s.obj u,w⟩ u∧Ext (ax w0 I0 I M s w) ⟨w0.heap.size,I0,I',M,bx s.obj u,w⟩∧SimX w0 mo n I0 I' M ⟨s.tmp,bx s.obj u⟩ a w
 |[],_=>⟨I,⟨by simp,by simp⟩,Ext.refl h.i00,h⟩
 |p::r,hu=>by
  obtain⟨I1,⟨hb1,hn1⟩,hext1,hs1⟩:=uk h (u:=r) λq hq=>hu q (List.mem_cons_of_mem _ hq)
  obtain⟨t,xs,ver,d,hp2,hob⟩:=hu p (by simp)
  have hcase:(∃f',bx s.obj r p.1=some (.arr t xs ver f' d)∧(isDar (s.obj p.1)=true→∃q∈r,q.1=p.1))∨(d=false∧∃v iv,ver=v+1∧bx s.obj r p.1=some (.dar t xs v iv)):=by
   unfold bx
   cases hl:ac r p.1 with
   |none=>
    rcases hob with⟨f,ho⟩|ho
    ·exact .inl ⟨f,ho,λhd=>by rw[ho]at hd;cases hd⟩
    ·exact .inr ho
   |some o1=>
    obtain⟨q,hq,hq1,hq2⟩:=GE hl
    obtain⟨t',xs',ver',d',h1,h2⟩:=hu q (List.mem_cons_of_mem _ hq)
    rw[hq1]at h2
    have:o1= .arr t xs ver true d:=by
     rw[←hq2,h1]
     rcases hob with⟨f,ho⟩|⟨rfl,v,iv,rfl,ho⟩<;>rcases h2 with⟨f',ho'⟩|⟨rfl,v',iv',rfl,ho'⟩<;>rw[ho]at ho'<;>cases ho'<;>rfl
    exact .inl ⟨true,by rw[this],λ_=>⟨q,hq,hq1⟩⟩
  have hfun:af (bx s.obj r) p.1 (.arr t xs ver true d)=bx s.obj (p::r):=by rw[←hp2];exact EE _ _ _
  rcases hcase with⟨f',hob1,hdq⟩|⟨rfl,v,iv,rfl,hob1⟩
  ·obtain⟨I2,hI,hIb,hext2,hs2⟩:=hs1.freeze hob1
   rw[hfun]at hext2 hs2
   refine⟨I2,⟨λq hq b c hM=> ?_,λq hq hd i j b c hM=> ?_⟩,hext1.trans hext2,hs2⟩
   ·rcases List.mem_cons.1 hq with rfl|hq
    ·exact hIb b c hM
    ·exact hI b (hb1 q hq b c hM)
   ·rcases List.mem_cons.1 hq with rfl|hq
    ·obtain⟨q',hq',he⟩:=hdq hd
     exact hI b (hn1 q' hq' (by rw[he];exact hd) i j b c (by rw[he];exact hM))
    ·exact hI b (hn1 q hq hd i j b c hM)
  ·obtain⟨I2,hI,hIb,hIn,hext2,hs2⟩:=hs1.freezeD hob1
   rw[hfun]at hext2 hs2
   refine⟨I2,⟨λq hq b c hM=> ?_,λq hq hd i j b c hM=> ?_⟩,hext1.trans hext2,hs2⟩
   ·rcases List.mem_cons.1 hq with rfl|hq
    ·exact hIb b c hM
    ·exact hI b (hb1 q hq b c hM)
   ·rcases List.mem_cons.1 hq with rfl|hq
    ·exact hIn i j b c hM
    ·exact hI b (hn1 q hq hd i j b c hM)
def kb (x:Cx)(u:List (Nat×Ob))(d:Bool)(c:Cell)(v:Value):Prop:=
 ∀x',Ext x x'→x'.w=x.w→u9 x x' u→RepC (x'.J (pX d)) x'.w c v
theorem kb.mono {x:Cx}{u u':List (Nat×Ob)}{d d':Bool}{c:Cell}{v:Value}(h:kb x u d c v)(hu:∀p∈u,p∈u')(hd:d'=true→d=true):kb x u' d' c v:=by
 intro x' hext hw hb
 have:=h x' hext hw (hb.sub hu)
 cases d' with
 |true=>rw[hd rfl]at this;exact this
 |false=>
  cases d with
  |false=>exact this
  |true=>exact this.mono (λ_ _=>rfl) λb hb'=>hb'.1
theorem H2 (h:SimX w0 mo n I0 I M s a w){f:Fl}{c:DC}{v:Value}(hc:aA (ax w0 I0 I M s w) c v){k:Cell→Bool→List (Nat×Ob)→Rd α}{e:α}(hr:aU C s (KR f c k) e):
  ∃x d u,kb (ax w0 I0 I M s w) u d x v∧cW s u∧aU C s (k x d u) e:=by
 cases c with
 |bool b=>simp only[aA]at hc;rw[hc];exact⟨_,_,_,λ_ _ _ _=> .bool b,by simp[cW],hr⟩
 |int k' m=>rw[hc.1];exact⟨_,_,_,λ_ _ _ _=> .int _ _ hc.2,by simp[cW],hr⟩
 |str b=>obtain⟨b',rfl,rfl,hl⟩:=hc;exact⟨_,_,_,λ_ _ _ _=> .str b' hl,by simp[cW],hr⟩
 |raw b=>obtain⟨rfl,hl⟩:=hc;exact⟨_,_,_,λ_ _ _ _=> .raw _ hl,by simp[cW],hr⟩
 |sl p t xs=>
  refine⟨_,_,_,λx' hext _ _=> ?_,by simp[cW],hr⟩
  have:=RepC.ext hext hc
  cases p
  ·refine this.mono (λ_ _=>rfl) λb hb=> ?_
   have hb':x'.I0 b:=hb
   rw[hext.i0]at hb'
   exact hext.i b (h.i00 b hb')
  ·exact this
  ·exact this
 |nil=>
  simp only[aA]at hc
  rw[hc]
  cases f with
  |sl t=>exact⟨_,_,_,λ_ _ _ _=> .nil t,by simp[cW],hr⟩
  |_=>exact hr.fail.elim
 |own id ver=>
  obtain⟨ob,hob,hr⟩:=hr.get
  cases ob with
  |box _=>exact hr.fail.elim
  |dar _ _ _ _=>exact hr.fail.elim
  |arr t xs ver' f' d=>
   obtain⟨hg,hr⟩:=hr.guard
   obtain⟨t1,xs1,v1,f1,d1,h1,h2,h3,h4⟩:=hc
   simp only[]at h1 h3
   rw[hob]at h1;cases h1
   have hval:=h3 (Nat.eq_of_beq_eq_true hg)
   refine⟨_,_,_,λx' hext hw hb=> ?_, ?_,hr⟩
   ·rcases h.objs id _ hob with⟨hM,hnil⟩|⟨b,cap,hM,hN,_,_,hcap,hmx,_,he⟩
    ·simp only[]at hM
     rw[hM]at hval
     obtain⟨_,hval⟩:=hval
     rw[hval,hnil]
     exact RepC.empty t _
    ·simp only[]at hM hN
     rw[hM]at hval
     simp only[aM]at hval
     rw[hval]
     have hIb:x'.I b:=hb.1 _ (List.mem_singleton.2 rfl) b cap hM
     simp only[]at hw
     refine .sl t xs b 0 cap (λi j=>(w.cell? ⟨b,i*t.size+j,none⟩).getD undef) (λ_=> ?_) hmx hcap (λi x j c hx hc=> ?_) (λi x j c hx hc=> ?_)
     ·cases d
      ·exact hIb
      ·exact⟨hIb,by rw[hext.n];exact hN rfl⟩
     ·obtain⟨u,hu,_⟩:=he i x j c hx hc
      simp only[]at hu
      rw[Nat.zero_add,hw,hu];rfl
     ·obtain⟨u,hu,hru⟩:=he i x j c hx hc
      simp only[]at hu
      rw[hu]
      exact RepC.ext hext hru
   ·intro p hp
    rw[List.mem_singleton]at hp
    subst hp
    exact⟨t,xs,ver',d,rfl,.inl ⟨f',hob⟩⟩
 |ptr _ _=>exact hr.fail.elim
 |eptr _ _ _ _=>exact hr.fail.elim
 |vw _ _ _ _=>exact hr.fail.elim
 |dptr _ _ _ _=>exact hr.fail.elim
 |iptr _ _ _ _ _ _=>exact hr.fail.elim
 |bsl _=>exact hr.fail.elim
 |down id ver=>
  obtain⟨ob,hob,hr⟩:=hr.get
  cases ob with
  |box _=>exact hr.fail.elim
  |arr _ _ _ _ _=>exact hr.fail.elim
  |dar t xs ver' iv=>
   obtain⟨hg,hr2⟩:=hr.guard
   obtain⟨_,o2,ho2,hd⟩:=hc
   simp only[]at ho2
   rw[hob]at ho2;cases ho2
   have hval:=hd.2 (Nat.eq_of_beq_eq_true hg)
   refine⟨_,_,_,λx' hext hw hb=> ?_, ?_,hr2⟩
   ·have:=KO h hob hval (J:=x'.I) (λb c hM=>hb.1 _ (List.mem_singleton.2 rfl) b c hM) (λi j b c hM=>hb.2 _ (List.mem_singleton.2 rfl) (by show isDar (s.obj id)=true;rw[hob];rfl) i j b c hM)
    rw[hw];exact this
   ·intro p hp
    rw[List.mem_singleton]at hp
    subst hp
    exact⟨t,xs,ver'+1,false,rfl,.inr ⟨rfl,ver',iv,rfl,hob⟩⟩
 |inn id iv i off=>
  obtain⟨ob,hob,hr⟩:=hr.get
  cases ob with
  |box _=>exact hr.fail.elim
  |arr _ _ _ _ _=>exact hr.fail.elim
  |dar t xs ver' iv'=>
   obtain⟨hg,hr2⟩:=hr.guard
   clear hr
   have hg:=Nat.eq_of_beq_eq_true hg
   subst hg
   obtain⟨t',ys,_,hcell,hown⟩:=F1 h hob hc
   simp only[hcell]at hr2
   refine⟨_,_,_,λx' hext hw hb=> ?_, ?_,hr2⟩
   ·have:=hown.rep (J:=x'.I) λb c hM=>hb.2 _ (List.mem_singleton.2 rfl) (by show isDar (s.obj id)=true;rw[hob];rfl) i off b c hM
    rw[hw];exact this
   ·intro p hp
    rw[List.mem_singleton]at hp
    subst hp
    exact⟨t,xs,ver'+1,false,rfl,.inr ⟨rfl,ver',iv,rfl,hob⟩⟩
 |ref _ _=>exact hr.fail.elim
 |fn _ _=>exact hr.fail.elim
 |slx _ _=>exact hr.fail.elim
 |undef=>exact hr.fail.elim
 |skipped=>exact hr.fail.elim
theorem cW.append {s:FSt}{u v:List (Nat×Ob)}(h:cW s u)(k:cW s v):cW s (u++v):=by
 intro p hp
 rcases List.mem_append.1 hp with hp|hp
 ·exact h p hp
 ·exact k p hp
theorem mP (h:SimX w0 mo n I0 I M s a w):∀{fs:List Fl} {cs:List DC} {us:List Value},ar (λc u=>aA (ax w0 I0 I M s w) c u) cs us→∀{k:List Cell→Bool→List (Nat×Ob)→Rd α} {e:α},aU C s (tk fs cs k) e→
  ∃xs d u,ar (kb (ax w0 I0 I M s w) u d) xs us∧cW s u∧aU C s (k xs d u) e
 |[],[],[],_,k,e,hr=>⟨[],true,[],trivial,by simp[cW],hr⟩
 |f::fs,c::cs,u::us,hall,k,e,hr=>by
  obtain⟨x,d,v,hx,hv,hr⟩:=H2 h hall.1 hr
  obtain⟨xs,d',v',hxs,hv',hr⟩:=mP h hall.2 hr
  exact⟨x::xs,d&&d',v++v',⟨hx.mono (λp hp=>List.mem_append_left _ hp) (by simp;exact λh _=>h),hxs.mono λ_ _ hh=>hh.mono (λp hp=>List.mem_append_right _ hp) (by simp)⟩,hv.append hv',hr⟩
 |[],_::_,_,_,_,_,hr=>hr.fail.elim
 |_::_,[],_,_,_,_,hr=>hr.fail.elim
 |_::_,_::_,[],hall,_,_,_=>hall.elim
 |[],[],_::_,hall,_,_,_=>hall.elim
theorem kb.get {x x':Cx}{u:List (Nat×Ob)}{d:Bool}{xs:List Cell}{us:List Value}(h:ar (kb x u d) xs us)(hext:Ext x x')(hw:x'.w=x.w)(hb:u9 x x' u):
  ar (RepC (x'.J (pX d)) x'.w) xs us:=h.mono λ_ _ hh=>hh x' hext hw hb
theorem vq {x:Cx}{ag:Bool}{cs:List DC}{v:Value}(h:iQ x ag cs v):ar (λc u=>aA x c u) cs (if ag then v.cells.toList else[v]):=by
 cases ag with
 |true=>obtain⟨us,rfl,hu⟩:=h;exact hu.mono λ_ _ hh=>hh.1
 |false=>obtain⟨c,rfl,hc⟩:=h;exact⟨hc,trivial⟩
theorem Jv {v:Value}(h:v.oneCell'=true):v.cells= #[v]:=by cases v<;>first|rfl|simp[Value.oneCell']at h
theorem lM {x:Cx}{ag:Bool}{cs:List DC}{v:Value}(h:iQ x ag cs v)(hok:cs.all DC.ok=true):ar (λc u=>aA x c u∧u.oneCell'=true) cs v.cells.toList:=by
 cases ag with
 |true=>obtain⟨us,rfl,hu⟩:=h;exact hu
 |false=>
  obtain⟨c,rfl,hc⟩:=h
  have hne:c.ok=true:=by simpa using hok
  rw[Jv (hc.one1 hne)]
  exact⟨⟨hc,hc.one1 hne⟩,trivial⟩
end
theorem D8:∀{fs:List Fl} {h:HL fs} {j:Nat} {t:Ty} {xs:List t.T},(cM fs h)[j]? =some (.sl t xs)→∃t',Fl.sl t'∈fs
 |[],_,j,_,_,h=>by simp[cM]at h
 |f::fs,hh,j,t,xs,h=>by
  cases j with
  |zero=>
   simp only[cM,List.getElem?_cons_zero,Option.some.injEq]at h
   cases f<;>simp only[Fl.cell]at h<;>first
    |exact⟨_,List.mem_cons_self⟩
    |(cases h;exact⟨_,List.mem_cons_self⟩)
    |cases h
  |succ j=>
   simp only[cM,List.getElem?_cons_succ]at h
   obtain⟨t',h'⟩:=D8 h
   exact⟨t',List.mem_cons_of_mem _ h'⟩
theorem lU {t:Ty}{e:t.T}{j:Nat}{t':Ty}{ys:List t'.T}(h:(t.cells e)[j]? =some (.sl t' ys)):jI t=true:=by
 obtain⟨t2,h2⟩:=D8 h
 unfold jI
 rw[List.any_eq_true]
 exact⟨_,h2,rfl⟩
theorem RepC.anyJ {J J':Nat→Prop}{w:World}{c:Cell}{v:Value}(h:RepC J w c v)(hc:∀t xs,c≠ .sl t xs):RepC J' w c v:=by
 cases h with
 |bool b=>exact .bool b
 |int k n h=>exact .int k n h
 |str b h=>exact .str b h
 |raw _ h=>exact .raw _ h
 |nil t=>exact absurd rfl (hc t [])
 |emp t=>exact absurd rfl (hc t [])
 |sl t xs=>exact absurd rfl (hc t xs)
section
variable {α:Type} {C:Nat→List PV→List MO→cS→List MO→Prop} {w0:World} {mo:gj} {n:Nat} {I0 I:Nat→Prop} {M:MF} {s:FSt} {a:Act} {w:World} {te:TE} {P:Program} {base:Nat} {e:Eff} {o:Oper}
theorem SimX.redo (h:SimX w0 mo n I0 I M s a w){id:Nat}{t:Ty}{xs:List t.T}{ver:Nat}{d:Bool}(ho:s.obj id=some (.arr t xs ver false d)){t':Ty}{xs':List t'.T}{ver':Nat}(hver:ver<ver'){d':Bool}
  {m:Option (Nat×Nat)}{w':World}(hw:∀b,b<w.heap.size→(∀c,M id≠some (b,c))→w'.heap[b]? =w.heap[b]?)(hsz:w.heap.size≤w'.heap.size)(hos:w'.os=w.os)(htape:w'.tape=w.tape)(hout:w'.output=w.output)
  (hm:∀b c,m=some (b,c)→w.heap.size≤b∨∃c',M id=some (b,c'))
  (hO:∀(_:Ext (ax w0 I0 I M s w) ⟨w0.heap.size,I0,I,bp M id m,af s.obj id (.arr t' xs' ver' false d'),w'⟩),xS ⟨w0.heap.size,I0,I,bp M id m,af s.obj id (.arr t' xs' ver' false d'),w'⟩ id (.arr t' xs' ver' false d')):
  Ext (ax w0 I0 I M s w) ⟨w0.heap.size,I0,I,bp M id m,af s.obj id (.arr t' xs' ver' false d'),w'⟩∧SimX w0 mo n I0 I (bp M id m) ⟨s.tmp,af s.obj id (.arr t' xs' ver' false d')⟩ a w':=by
 have hnI:∀b c,M id=some (b,c)→¬I b:=by
  intro b c hM hI
  rcases h.objs id _ ho with⟨h1,_⟩|⟨b',cap,h1,_,_,h2,_⟩
  ·simp only[]at h1;rw[hM]at h1;cases h1
  ·simp only[]at h1;rw[hM]at h1;cases h1
   have:=h2.1 hI;cases this
 have hI:∀b,I b→w'.heap[b]? =w.heap[b]? :=λb hb=>hw b (h.ilt b hb) λc hc=>hnI b c hc hb
 have hext:Ext (ax w0 I0 I M s w) ⟨w0.heap.size,I0,I,bp M id m,af s.obj id (.arr t' xs' ver' false d'),w'⟩:=by
  refine⟨rfl,rfl,h.i00,λ_ hb=>hb,hI,λi cs hi=> ?_,λi t1 xs1 v1 f1 d1 hi=> ?_,λi t1 xs1 v1 k1 hi=> ?_⟩
  ·have hne:i≠id:=by rintro rfl;simp only[]at hi;rw[ho]at hi;cases hi
   exact⟨⟨cs,by simp only[af,if_neg hne];exact hi⟩,by simp only[bp,if_neg hne]⟩
  ·by_cases ei:i=id
   ·subst ei
    simp only[]at hi
    rw[ho]at hi;cases hi
    exact⟨t',xs',ver',false,d',by simp only[af,if_pos],Nat.le_of_lt hver,λhe=>by omega⟩
   ·exact⟨t1,xs1,v1,f1,d1,by simp only[af,if_neg ei];exact hi,Nat.le_refl _,λ_=>⟨rfl,rfl,by simp only[bp,if_neg ei]⟩⟩
  ·have ei:i≠id:=by rintro rfl;simp only[]at hi;rw[ho]at hi;cases hi
   exact⟨_,by simp only[af,if_neg ei];exact hi,.same (by simp only[bp,if_neg ei]) rfl⟩
 have hobj:∀k,af s.obj id (.arr t' xs' ver' false d') k≠none→k≠id→s.obj k≠none:=by
  intro k hk hne
  simpa only[af,if_neg hne]using hk
 have hdar:∀i,isDar (af s.obj id (.arr t' xs' ver' false d') i)=true→isDar (s.obj i)=true:=by
  intro i hi
  by_cases e:i=id
  ·simp only[af,if_pos e]at hi;cases hi
  ·simpa only[af,if_neg e]using hi
 refine⟨hext,h.turn hext ⟨hos,htape,hout,hsz,λb hb hnx=>hw b (Nat.lt_of_lt_of_le hb h.below.size) λc hc=> ?_⟩ (λb hb=>Nat.lt_of_lt_of_le (h.ilt b hb) hsz) h.idiv (λi b c hi hM=>by
   by_cases e:i=id
   ·simp only[bp,if_pos e]at hM
    rcases hm b c hM with h1|⟨c',h1⟩
    ·exact .inl (Nat.le_trans h.below.size h1)
    ·rw[e];exact h.own id b c' (by rw[ho];simp) h1
   ·simp only[bp,if_neg e]at hM
    simp only[af,if_neg e]at hi
    exact h.own i b c hi hM) ?_ ?_ (h.vir.keep (λi hi=>⟨hdar i hi,rfl⟩) (λ_ hb=> .inl hb) (λi b c hi hM i' k j c' hi' hn=>by
   have hi':=hdar i' hi'
   by_cases e:i=id
   ·simp only[bp,if_pos e]at hM
    rcases hm b c hM with h1|⟨c2,h1⟩
    ·have:=(h.vir.lt i' k j b c' hi' hn).2.1;omega
    ·exact h.vir.dis i' id k j b c' c2 hi' (by rw[ho];simp) hn h1
   ·simp only[bp,if_neg e]at hM
    exact h.vir.dis i' i k j b c' c hi' (hobj i hi e) hn hM) hsz)⟩
 ·rcases(h.blk (by rw[ho];simp) hc).1 with h1|h1
  ·omega
  ·exact hnx h1
 ·intro i x hx
  by_cases ei:i=id
  ·subst ei
   simp only[af,if_pos]at hx
   cases hx
   exact hO hext
  ·simp only[af,if_neg ei]at hx
   refine(h.objs i x hx).ext hext (by simp only[bp,if_neg ei]) hsz (λb cap hb=>⟨hw b (h.blk (by rw[hx];simp) hb).2 λc hc=> ?_,λy=>y⟩) rfl λhd k j b c hb=>hw b (h.vir.lt i k j b c (by rw[hx];exact hd) hb).2.1 λc' hc=>h.vir.dis i id k j b c c' (by rw[hx];exact hd) (by rw[ho];simp) hb hc
   exact ei (h.inj i id b cap c (by rw[hx];simp) (by rw[ho];simp) hb hc)
 ·intro i j b c c' hi hj hb hb'
  by_cases ei:i=id<;>by_cases ej:j=id
  ·rw[ei,ej]
  ·exfalso
   simp only[bp,if_pos ei,if_neg ej]at hb hb'
   have hj':=hobj j hj ej
   rcases hm b c hb with h1|⟨c2,h1⟩
   ·have:=(h.blk hj' hb').2;omega
   ·exact ej (h.inj j id b c' c2 hj' (by rw[ho];simp) hb' h1)
  ·exfalso
   simp only[bp,if_pos ej,if_neg ei]at hb hb'
   have hi':=hobj i hi ei
   rcases hm b c' hb' with h1|⟨c2,h1⟩
   ·have:=(h.blk hi' hb).2;omega
   ·exact ei (h.inj i id b c c2 hi' (by rw[ho];simp) hb h1)
  ·simp only[bp,if_neg ei,if_neg ej]at hb hb'
   exact h.inj i j b c c' (hobj i hi ei) (hobj j hj ej) hb hb'
end
end Go.Proofs.YtffjmkhjhchnmaaGreat
