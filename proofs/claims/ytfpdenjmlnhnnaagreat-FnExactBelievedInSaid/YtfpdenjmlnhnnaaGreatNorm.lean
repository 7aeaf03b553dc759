/- The head of a loop: what is kept, numbered anew. -/
import Derived.Test.YtfpdenjmlnhnnaaGreatSimOk
import Derived.LoopN
set_option linter.unusedVariables false
set_option linter.unusedSimpArgs false
namespace Go.Proofs.YtfpdenjmlnhnnaaGreat
open Go Go.RowKit
theorem lf (st:List (Nat×Ob)):∀(m:Nat) (todo seen:List Nat),seen.Nodup→(eO st m todo seen).Nodup
 |0,_,_,h=>h
 |_+1,[],_,h=>h
 |m+1,x::todo,seen,h=>by
  simp only[eO]
  cases hm:Fj x seen with
  |true=>exact lf st m todo seen h
  |false=>
   simp only[]
   split
   ·refine lf st m _ _ ?_
    rw[List.nodup_append]
    refine⟨h,by simp,λa ha b hb=> ?_⟩
    rw[List.mem_singleton]at hb
    subst hb
    rintro rfl
    rw[li.2 ha]at hm;cases hm
   ·exact lf st m todo seen h
theorem pY:∀{l:List Nat} {x k m:Nat},pW l x k=some m→k≤m∧l[m-k]? =some x
 |[],_,_,_,h=>by simp[pW]at h
 |y::r,x,k,m,h=>by
  simp only[pW]at h
  cases hb:Nat.beq y x with
  |true=>
   rw[hb]at h
   cases h
   exact⟨Nat.le_refl _,by simp[Nat.eq_of_beq_eq_true hb]⟩
  |false=>
   rw[hb]at h
   obtain⟨h1,h2⟩:=pY h
   refine⟨by omega, ?_⟩
   rw[show m-k=(m-(k+1))+1 from by omega,List.getElem?_cons_succ]
   exact h2
theorem oy (st:List (Nat×Ob)):∀(m:Nat) (todo seen:List Nat) {i x:Nat},seen[i]? =some x→(eO st m todo seen)[i]? =some x
 |0,_,_,_,_,h=>h
 |_+1,[],_,_,_,h=>h
 |m+1,x::todo,seen,i,y,h=>by
  simp only[eO]
  cases hm:Fj x seen with
  |true=>exact oy st m todo seen h
  |false=>
   simp only[]
   split
   ·refine oy st m _ _ ?_
    rw[List.getElem?_append_left (List.getElem?_eq_some_iff.1 h).1]
    exact h
   ·exact oy st m todo seen h
theorem wK (st:List (Nat×Ob)):∀(j k m:Nat) (rest:List Nat),j≤m→(∀i,k≤i→i<k+j→ao st i≠none)→∀i,i<k+j→(eO st m (List.range' k j++rest) (List.range k))[i]? =some i
 |0,k,m,rest,_,_,i,hi=>oy st _ _ _ (by rw[List.getElem?_range (by omega)])
 |j+1,k,0,rest,hm,_,i,hi=>by omega
 |j+1,k,m+1,rest,hm,hl,i,hi=>by
  simp only[List.range'_succ,List.cons_append,eO]
  have h1:Fj k (List.range k)=false:=by
   cases h:Fj k (List.range k)with
   |false=>rfl
   |true=>have:=List.mem_range.1 (li.1 h);omega
  rw[h1]
  simp only[]
  cases ho:ao st k with
  |none=>exact absurd ho (hl k (Nat.le_refl _) (by omega))
  |some o=>
   simp only[List.append_assoc]
   have:=wK st j (k+1) m (rest++o.ids) (by omega) (λi h1 h2=>hl i (by omega) (by omega)) i (by omega)
   rw[List.range_succ]at this
   exact this
theorem Rj (r0:Nat)(st:List (Nat×Ob))(seen:List Nat):∀(l:List Nat) (k m:Nat),ao (mK r0 st seen l k) m=if k≤m then(l[m-k]?).bind λx=>(ao st x).map (Ob.ren r0 m st seen)else none
 |[],k,m=>by simp[mK,ao]
 |x::r,k,m=>by
  have ih:=Rj r0 st seen r (k+1) m
  by_cases hkm:k≤m
  ·by_cases e:m=k
   ·subst e
    simp only[mK]
    split
    ·rename_i o ho
     simp[ao,ho]
    ·rename_i ho
     rw[ih,if_neg (by omega)]
     simp[ho]
   ·have h1:(x::r)[m-k]? =r[m-(k+1)]? :=by
     rw[show m-k=(m-(k+1))+1 from by omega,List.getElem?_cons_succ]
    rw[if_pos hkm,h1]
    simp only[mK]
    split
    ·rename_i o ho
     have hb:Nat.beq k m=false:=by
      cases hb:Nat.beq k m with
      |false=>rfl
      |true=>exact absurd (Nat.eq_of_beq_eq_true hb).symm e
     simp only[ao,hb]
     rw[ih,if_pos (by omega)]
    ·rw[ih,if_pos (by omega)]
  ·rw[if_neg hkm]
   simp only[mK]
   split
   ·have hb:Nat.beq k m=false:=by
     cases hb:Nat.beq k m with
     |false=>rfl
     |true=>exact absurd (Nat.eq_of_beq_eq_true hb) (by omega)
    simp only[ao,hb]
    rw[ih,if_neg (by omega)]
   ·rw[ih,if_neg (by omega)]
section
variable {w0:World} {mo:o8} {n:Nat} {I0 I:Nat→Prop} {M:Nat→Option (Nat×Nat)} {s:St} {a:Act} {w:World}
def jp (r0:Nat)(s:St)(seen:List Nat):Nat→Option Ob:=λm=>(seen[m]?).bind λx=>(ao s.st x).map (Ob.ren r0 m s.st seen)
def wN (M:Nat→Option (Nat×Nat))(seen:List Nat):Nat→Option (Nat×Nat):=λm=>(seen[m]?).bind M
abbrev Pc (r0:Nat)(w0:World)(I0 I:Nat→Prop)(M:Nat→Option (Nat×Nat))(s:St)(seen:List Nat)(w:World):Cx:=⟨w0.heap.size,I0,I,wN M seen,jp r0 s seen,w⟩
theorem Vi {r0:Nat}{seen:List Nat}{c:DC}{v:Value}(h:be (aY w0 I0 I M s.den w) c v):be (Pc r0 w0 I0 I M s seen w) (c.ren r0 s.st seen) v:=by
 cases c with
 |own id ver=>
  obtain⟨t,xs,ver',frz,d,ho,hv,hval,h1⟩:=h
  have ho':ao s.st id=some (.arr t xs ver' frz d):=ho
  simp only[DC.ren]
  cases hi:pW seen id 0 with
  |none=>trivial
  |some m=>
   obtain⟨_,hm⟩:=pY hi
   rw[Nat.sub_zero]at hm
   simp only[acI,ho']
   cases hb:Nat.beq ver' ver with
   |false=>trivial
   |true=>
    have hve:=Nat.eq_of_beq_eq_true hb
    refine⟨t,xs,aca r0 m ver',frz,d, ?_,Nat.le_refl _,λ_=> ?_,h1⟩
    ·simp only[jp,hm,Option.bind_some,ho',Option.map_some,Ob.ren]
    ·have:=hval hve.symm
     simp only[wN,hm,Option.bind_some]
     exact this
 |ptr id off=>
  obtain⟨cs,b,ho,hM,hv⟩:=h
  have ho':ao s.st id=some (.box cs):=ho
  simp only[DC.ren]
  cases hi:pW seen id 0 with
  |none=>trivial
  |some m=>
   obtain⟨_,hm⟩:=pY hi
   rw[Nat.sub_zero]at hm
   refine⟨cs.map (DC.ren r0 s.st seen),b, ?_, ?_,hv⟩
   ·simp only[jp,hm,Option.bind_some,ho',Option.map_some,Ob.ren]
   ·simp only[wN,hm,Option.bind_some]
    exact hM
 |eptr _ _ _ _=>trivial
 |vw _ _ _ _=>trivial
 |bool b=>exact h
 |int k m=>exact h
 |str b=>exact h
 |sl p t xs=>cases p<;>exact h
 |nil=>exact h
 |ref p cs=>cases p<;>exact h
 |slx t xs=>exact h
 |fn f ids=>
  obtain⟨us,hv,hu⟩:=h
  simp only[DC.ren]
  cases hi:xz seen ids with
  |none=>trivial
  |some ms=>
   refine⟨us,hv, ?_⟩
   generalize us.toList=l at hu
   clear hv
   induction ids generalizing ms l with
   |nil=>
    simp only[xz,Option.some.injEq]at hi
    subst hi
    cases l with
    |nil=>trivial
    |cons _ _=>exact hu.elim
   |cons id ids ih=>
    simp only[xz]at hi
    split at hi
    ·rename_i m ms' hm hms
     cases hi
     cases l with
     |nil=>exact hu.elim
     |cons u l=>
      refine⟨?_,ih ms' hms l hu.2⟩
      obtain⟨cs,b,ho,hM,hv⟩:=hu.1
      have ho':ao s.st id=some (.box cs):=ho
      obtain⟨_,hm⟩:=pY hm
      rw[Nat.sub_zero]at hm
      refine⟨cs.map (DC.ren r0 s.st seen),b, ?_, ?_,hv⟩
      ·simp only[jp,hm,Option.bind_some,ho',Option.map_some,Ob.ren]
      ·simp only[wN,hm,Option.bind_some]
       exact hM
    ·cases hi
 |undef=>trivial
 |skipped=>exact h
theorem aaU {r0:Nat}{seen:List Nat}{ag:Bool}{cs:List DC}{v:Value}(h:kP (aY w0 I0 I M s.den w) ag cs v):kP (Pc r0 w0 I0 I M s seen w) ag (cs.map (DC.ren r0 s.st seen)) v:=by
 cases ag with
 |true=>
  obtain⟨us,rfl,hu⟩:=h
  refine⟨us,rfl, ?_⟩
  generalize us.toList=l at hu
  induction cs generalizing l with
  |nil=>cases l with
   |nil=>trivial
   |cons _ _=>exact hu.elim
  |cons c cs ih=>cases l with
   |nil=>exact hu.elim
   |cons u l=>exact⟨⟨Vi hu.1.1,hu.1.2⟩,ih _ hu.2⟩
 |false=>obtain⟨c,rfl,hc⟩:=h;exact⟨_,rfl,Vi hc⟩
theorem aed {r0:Nat}{seen:List Nat}{d:DV}{v:Value}(h:lw (aY w0 I0 I M s.den w) d v):lw (Pc r0 w0 I0 I M s seen w) (d.ren r0 s.st seen) v:=by
 cases d with
 |v ag cs=>exact aaU h
 |tup vs=>
  obtain⟨us,rfl,hu⟩:=h
  refine⟨us,rfl, ?_⟩
  generalize us.toList=l at hu
  induction vs generalizing l with
  |nil=>cases l with
   |nil=>trivial
   |cons _ _=>exact hu.elim
  |cons c cs ih=>cases l with
   |nil=>exact hu.elim
   |cons u l=>exact⟨aaU hu.1,ih _ hu.2⟩
theorem ad9 {r0:Nat}{seen:List Nat}{m id:Nat}(hm:seen[m]? =some id){o:Ob}(h:Em (aY w0 I0 I M s.den w) id o):Em (Pc r0 w0 I0 I M s seen w) m (o.ren r0 m s.st seen):=by
 have hM:wN M seen m=M id:=by simp only[wN,hm,Option.bind_some]
 cases o with
 |box cs=>
  obtain⟨b,h1,h2,h3,h4,h5,h6⟩:=h
  refine⟨b,by rw[←h1];exact hM,h2,h3,h4,λj c hj=> ?_,λj hj=>h6 j (by simpa using hj)⟩
  rw[List.getElem?_map]at hj
  cases hc:cs[j]? with
  |none=>rw[hc]at hj;cases hj
  |some c0=>
   rw[hc]at hj
   simp only[Option.map_some,Option.some.injEq]at hj
   subst hj
   obtain⟨u,hu,hr,h1⟩:=h5 j c0 hc
   exact⟨u,hu,Vi hr,h1⟩
 |arr t xs ver frz d=>
  rcases h with⟨h1,h2⟩|⟨b,cap,h1,h2,h3,h4,h5,h6,h7,h8⟩
  ·exact .inl ⟨by rw[←h1];exact hM,h2⟩
  ·refine .inr ⟨b,cap,by rw[←h1];exact hM,h2,h3,h4,h5,h6,h7,λi e j c he hc=> ?_⟩
   obtain⟨u,hu,hr⟩:=h8 i e j c he hc
   refine⟨u,hu, ?_⟩
   cases d<;>exact hr
theorem Mx (r0:Nat)(keep:List Nat):(s.norm0 r0 keep).den.obj=jp r0 s (eO s.st 10000 (List.range r0++(keep.map λt=>(t,s.tmp t)).flatMap λv=>v.2.ids) []):=by
 funext m
 show ao (mK r0 s.st _ _ 0) m=_
 rw[Rj,if_pos (Nat.zero_le _),Nat.sub_zero]
 rfl
theorem X9 (h:C0 w0 mo n I0 s.den a w)(keep:List Nat)(hlen:mo.length≤10000):C0 w0 mo n I0 (s.norm0 mo.length keep).den a w:=by
 obtain⟨I,M,h⟩:=h
 let vs:=keep.map λt=>(t,s.tmp t)
 let seen:=eO s.st 10000 (List.range mo.length++vs.flatMap λv=>v.2.ids) []
 have hnd:seen.Nodup:=lf _ _ _ _ (by simp)
 have hroot:∀k,k<mo.length→seen[k]? =some k:=by
  intro k hk
  have:=wK s.st mo.length 0 10000 (vs.flatMap λv=>v.2.ids) hlen (λi _ hi=>by
   obtain⟨o,ho,_⟩:=h.rts i mo[i] (by rw[List.getElem?_eq_getElem])
   have ho':ao s.st i=some o:=ho
   rw[ho'];simp) k (by omega)
  rw[←List.range_eq_range']at this
  exact this
 have huniq:∀i j x:Nat,seen[i]? =some x→seen[j]? =some x→i=j:=by
  intro i j x h1 h2
  obtain⟨hl1,he1⟩:=List.getElem?_eq_some_iff.1 h1
  obtain⟨hl2,he2⟩:=List.getElem?_eq_some_iff.1 h2
  exact(List.getElem_inj hnd).1 (he1.trans he2.symm)
 have hobj:(s.norm0 mo.length keep).den.obj=jp mo.length s seen:=Mx _ _
 have hsome:∀m,jp mo.length s seen m≠none→∃id o,seen[m]? =some id∧s.obj id=some o∧jp mo.length s seen m=some (o.ren mo.length m s.st seen):=by
  intro m hm
  cases hs:seen[m]? with
  |none=>simp[jp,hs]at hm
  |some id=>
   cases ho:ao s.st id with
   |none=>simp[jp,hs,ho]at hm
   |some o=>exact⟨id,o,rfl,ho,by simp[jp,hs,ho]⟩
 refine⟨I,wN M seen,⟨h.below,h.i00,h.i0lt,h.ilt,h.idiv,λm b c hm hb=> ?_,λk m hk=> ?_,h.size,h.defers,λt=> ?_,λm o ho=> ?_,λm m' b c c' hm hm' hb hb'=> ?_,h.gw,h.gx⟩⟩
 ·rw[hobj]at hm
  obtain⟨id,o,hs1,ho1,_⟩:=hsome m hm
  simp only[wN,hs1,Option.bind_some]at hb
  rcases h.own id b c (by show s.obj id≠none;rw[ho1];simp) hb with h1|h1
  ·exact .inl h1
  ·refine .inr ?_
   have hlt:id<mo.length:=by
    obtain⟨m0,c0,h2,_⟩:=h1
    exact(List.getElem?_eq_some_iff.1 h2).1
   rw[huniq m id id hs1 (hroot id hlt)]
   exact h1
 ·obtain⟨o,ho,hr⟩:=h.rts k m hk
  have hlt:k<mo.length:=(List.getElem?_eq_some_iff.1 hk).1
  have hsk:=hroot k hlt
  have ho':ao s.st k=some o:=ho
  refine⟨o.ren mo.length k s.st seen, ?_, ?_⟩
  ·rw[hobj]
   simp only[jp,hsk,Option.bind_some,ho',Option.map_some]
  ·have hM:wN M seen k=M k:=by simp only[wN,hsk,Option.bind_some]
   rw[hM]
   have hb:Nat.blt k mo.length=true:=by simp[Nat.blt,Nat.ble_eq];omega
   cases o with
   |box cs=>exact hr
   |arr t xs v f d=>
    simp only[Ob.ren,aal,aca,hb]
    exact hr
 ·rw[hobj]
  have hlk:(s.norm0 mo.length keep).den.tmp t=eA∨(s.norm0 mo.length keep).den.tmp t=(s.tmp t).ren mo.length s.st seen:=by
   show(ao (vs.map λv=>(v.1,v.2.ren mo.length s.st seen)) t).getD eA=eA∨(ao (vs.map λv=>(v.1,v.2.ren mo.length s.st seen)) t).getD eA=_
   have:∀l:List Nat,(ao ((l.map λt=>(t,s.tmp t)).map λv=>(v.1,v.2.ren mo.length s.st seen)) t).getD eA=eA∨(ao ((l.map λt=>(t,s.tmp t)).map λv=>(v.1,v.2.ren mo.length s.st seen)) t).getD eA=(s.tmp t).ren mo.length s.st seen:=by
    intro l
    induction l with
    |nil=>exact .inl rfl
    |cons x l ih=>
     simp only[List.map_cons,ao]
     cases hb:Nat.beq x t with
     |true=>rw[Nat.eq_of_beq_eq_true hb];exact .inr rfl
     |false=>exact ih
   exact this keep
  rcases hlk with hlk|hlk
  ·rw[hlk];exact⟨.undef,rfl,trivial⟩
  ·rw[hlk];exact aed (h.tmps t)
 ·rw[hobj]at ho⊢
  obtain⟨id,o',hm,ho',hn⟩:=hsome m (by rw[ho];simp)
  rw[ho]at hn
  cases hn
  exact ad9 hm (h.objs id o' ho')
 ·rw[hobj]at hm hm'
  obtain⟨id,o,hs1,ho1,_⟩:=hsome m hm
  obtain⟨id',o',pU,ho2,_⟩:=hsome m' hm'
  simp only[wN,hs1,Option.bind_some]at hb
  simp only[wN,pU,Option.bind_some]at hb'
  have:=h.inj id id' b c c' (by show s.obj id≠none;rw[ho1];simp) (by show s.obj id'≠none;rw[ho2];simp) hb hb'
  subst this
  exact huniq m m' id hs1 pU
theorem FM (r0:Nat)(keep:List Nat):∀id,(s.norm0 r0 keep).obj id≠none→id<(s.norm0 r0 keep).nx:=by
 intro m hm
 have h1:(s.norm0 r0 keep).obj m=jp r0 s _ m:=congrFun (Mx r0 keep) m
 show m<(eO s.st 10000 (List.range r0++(keep.map λt=>(t,s.tmp t)).flatMap λv=>v.2.ids) []).length
 rw[h1]at hm
 cases hs:(eO s.st 10000 (List.range r0++(keep.map λt=>(t,s.tmp t)).flatMap λv=>v.2.ids) [])[m]? with
 |none=>simp only[jp,hs]at hm;exact absurd rfl hm
 |some id=>exact(List.getElem?_eq_some_iff.1 hs).1
theorem I8 {β:Type}{b0:β}:∀(cs:List β) {k:Nat} (b:β),cs[k]? =some b0→(bU cs k b)[k]? =some b
 |[],_,_,h=>by simp at h
 |_::_,0,_,_=>rfl
 |_::ys,k+1,b,h=>by
  simp only[bU,List.getElem?_cons_succ]at*
  exact I8 ys b h
theorem Jq {β:Type}:∀(cs:List β) {k j:Nat} (b:β),k≠j→(bU cs j b)[k]? =cs[k]?
 |[],_,_,_,_=>rfl
 |_::_,0,0,_,h=>absurd rfl h
 |_::_,_+1,0,_,_=>rfl
 |_::_,0,_+1,_,_=>rfl
 |_::ys,k+1,j+1,b,h=>by
  simp only[bU,List.getElem?_cons_succ]
  exact Jq ys b (by omega)
theorem Bj {β γ:Type}{R:β→γ→Prop}{b c:β}(hR:∀u,R b u→R c u):∀{as:List β} {us:List γ} {j:Nat},aL R as us→as[j]? =some b→aL R (bU as j c) us
 |[],[],_,h,_=>h
 |a::as,u::us,0,h,he=>by
  simp only[List.getElem?_cons_zero,Option.some.injEq]at he
  subst he
  exact⟨hR u h.1,h.2⟩
 |a::as,u::us,j+1,h,he=>by
  simp only[List.getElem?_cons_succ]at he
  exact⟨h.1,Bj hR h.2 he⟩
 |[],_::_,_,h,_=>h.elim
 |_::_,[],_,h,_=>h.elim
theorem Xz {x:Cx}{ag:Bool}{cs:List DC}{v:Value}{j:Nat}{c':DC}(h:kP x ag cs v)(hj:aac cs[j]? =true)(hc:∀u,be x .nil u→be x c' u):kP x ag (bU cs j c') v:=by
 have hj':cs[j]? =some .nil:=by
  revert hj
  cases cs[j]? with
  |none=>intro h;cases h
  |some c=>cases c<;>intro h<;>first|rfl|cases h
 cases ag with
 |true=>obtain⟨us,rfl,hu⟩:=h;exact⟨us,rfl,Bj (R:=λc u=>be x c u∧u.oneCell'=true) (λu hu=>⟨hc u hu.1,hu.2⟩) hu hj'⟩
 |false=>
  obtain⟨c,rfl,hcc⟩:=h
  cases j with
  |zero=>simp only[List.getElem?_cons_zero,Option.some.injEq]at hj';subst hj';exact⟨c',rfl,hc v hcc⟩
  |succ j=>simp at hj'
def gd (s:St):Prop:=∀id,s.obj id≠none→id<s.nx
theorem UV (h:SimX w0 mo n I0 I M s.den a w){id ver:Nat}{v:Value}(hc:be (aY w0 I0 I M s.den w) (.own id ver) v){t:Ty}{xs:List t.T}{f d:Bool}(hob:s.obj id=some (.arr t xs ver f d))(hI:∀b k,M id=some (b,k)→I b):RepC I w (.sl t xs) v:=by
 have hob':s.den.obj id=some (.arr t xs ver f d):=hob
 obtain⟨t1,xs1,v1,f1,d1,h1,h2,h3,h4⟩:=hc
 simp only[]at h1 h3
 rw[hob']at h1;cases h1
 have hval:=h3 rfl
 rcases h.objs id _ hob' with⟨hM,hnil⟩|⟨b,cap,hM,hN,_,_,hcap,hmx,_,he⟩
 ·simp only[]at hM
  rw[hM]at hval
  obtain⟨_,hval⟩:=hval
  rw[hval,hnil]
  exact RepC.empty t _
 ·simp only[]at hM hN
  rw[hM]at hval
  simp only[dk]at hval
  rw[hval]
  refine .sl t xs b 0 cap (λi j=>(w.cell? ⟨b,i*t.size+j,none⟩).getD undef) (λ_=>hI b cap hM) hmx hcap (λi x j c hx hc=> ?_) (λi x j c hx hc=> ?_)
  ·obtain⟨u,hu,_⟩:=he i x j c hx hc
   simp only[]at hu
   rw[Nat.zero_add,hu];rfl
  ·obtain⟨u,hu,hru⟩:=he i x j c hx hc
   simp only[]at hu
   rw[hu]
   cases d with
   |true=>exact hru.mono (λ_ _=>rfl) λb hb=>hb.1
   |false=>exact hru
theorem Bc {x:Cx}{ag:Bool}{cs:List DC}{v:Value}{j:Nat}{c0 c':DC}(h:kP x ag cs v)(hj:cs[j]? =some c0)(hc:∀u,be x c0 u→be x c' u):kP x ag (bU cs j c') v:=by
 cases ag with
 |true=>
  obtain⟨us,rfl,hu⟩:=h
  exact⟨us,rfl,Bj (λu hu=>⟨hc u hu.1,hu.2⟩) hu hj⟩
 |false=>
  obtain⟨c,rfl,hcc⟩:=h
  cases j with
  |zero=>simp only[List.getElem?_cons_zero,Option.some.injEq]at hj;subst hj;exact⟨c',rfl,hc v hcc⟩
  |succ j=>simp at hj
theorem acH {w:World}{I0 I:Nat→Prop}{M:Nat→Option (Nat×Nat)}{obj:Nat→Option Ob}{N:Nat}(h0:∀b,I0 b→I b)(p:Pv)(b:Nat)(h:Cx.J ⟨N,I0,I,M,obj,w⟩ p b):I b:=by
 cases p with
 |arg=>exact h0 b h
 |new=>exact h.1
 |any=>exact h
theorem aau (h:C0 w0 mo n I0 s.den a w)(hb:gd s)(t j:Nat):C0 w0 mo n I0 (s.ownNil (.soft t j)).den a w∧gd (s.ownNil (.soft t j)):=by
 simp only[St.ownNil]
 split
 ·rename_i ag cs ht
  split
  ·rename_i id ver hcj
   split
   ·rename_i ty xs ver' f d ho
    split
    ·rename_i hv
     have hv:=Nat.eq_of_beq_eq_true hv
     subst hv
     obtain⟨I,M,h⟩:=h
     obtain⟨I',hI,hIb,hext,hs⟩:=h.freeze ho
     have hobj:∀(fr:List (Nat×DV)),(⟨fr,(id,.arr ty xs ver true d)::s.st,s.nx⟩:St).obj=aJ s.obj id (.arr ty xs ver true d):=by
      intro fr
      funext i
      rw[cI]
      show ao ((id,Ob.arr ty xs ver true d)::s.st) i=_
      rw[show(id,Ob.arr ty xs ver true d)::s.st=[(id,Ob.arr ty xs ver true d)]++s.st from rfl,eG]
      cases ao [(id,Ob.arr ty xs ver true d)] i<;>rfl
     have e0:(⟨s.den.tmp,aJ s.den.obj id (.arr ty xs ver true d)⟩:FSt)=(⟨s.fr,(id,.arr ty xs ver true d)::s.st,s.nx⟩:St).den:=by
      unfold St.den
      rw[FSt.mk.injEq]
      exact⟨rfl,(hobj s.fr).symm⟩
     rw[e0]at hs
     refine⟨⟨I',M,hs.below,hs.i00,hs.i0lt,hs.ilt,hs.idiv,λid2 b c h1 h2=>hs.own id2 b c (by
      show(⟨s.fr,(id,.arr ty xs ver true d)::s.st,s.nx⟩:St).obj id2≠none
      have h1:(⟨(t,.v ag (bU cs j (.sl .any ty xs)))::s.fr,(id,.arr ty xs ver true d)::s.st,s.nx⟩:St).obj id2≠none:=h1
      rw[hobj]at h1⊢
      exact h1) h2,λk m hk=>(by
      have:=hs.rts k m hk
      exact this),hs.size,hs.defers,λu=> ?_,hs.objs,hs.inj,hs.gw,hs.gx⟩, ?_⟩
     ·show lw ⟨w0.heap.size,I0,I',M,(⟨s.fr,(id,.arr ty xs ver true d)::s.st,s.nx⟩:St).obj,w⟩ ((ao ((t,DV.v ag (bU cs j (.sl .any ty xs)))::s.fr) u).getD eA) _
      have hold:=hs.tmps u
      simp only[ao]
      cases hb2:Nat.beq t u with
      |false=>exact hold
      |true=>
       have:=Nat.eq_of_beq_eq_true hb2
       subst this
       have hold':lw ⟨w0.heap.size,I0,I',M,(⟨s.fr,(id,.arr ty xs ver true d)::s.st,s.nx⟩:St).obj,w⟩ (s.tmp t) (a.tmps.getD t undef):=hold
       rw[ht]at hold'
       refine Bc hold' hcj λu hu=> ?_
       exact UV (s:=⟨s.fr,(id,.arr ty xs ver true d)::s.st,s.nx⟩) (f:=true) (d:=d) hs hu (by rw[hobj];exact if_pos rfl) hIb
     ·intro id2 hid
      rw[hobj]at hid
      by_cases e:id2=id
      ·subst e
       exact hb id2 (by rw[ho];simp)
      ·simp only[aJ,if_neg e]at hid
       exact hb id2 hid
    ·exact⟨h,hb⟩
   ·exact⟨h,hb⟩
  ·rename_i p ty xs hcj
   obtain⟨I,M,hs⟩:=h
   refine⟨⟨I,M,hs.below,hs.i00,hs.i0lt,hs.ilt,hs.idiv,hs.own,hs.rts,hs.size,hs.defers,λu=> ?_,hs.objs,hs.inj,hs.gw,hs.gx⟩,hb⟩
   show lw ⟨w0.heap.size,I0,I,M,s.obj,w⟩ ((ao ((t,DV.v ag (bU cs j (.sl .any ty xs)))::s.fr) u).getD eA) _
   have hold:=hs.tmps u
   simp only[ao]
   cases hb2:Nat.beq t u with
   |false=>exact hold
   |true=>
    have:=Nat.eq_of_beq_eq_true hb2
    subst this
    have hold':lw ⟨w0.heap.size,I0,I,M,s.obj,w⟩ (s.tmp t) (a.tmps.getD t undef):=hold
    rw[ht]at hold'
    exact Bc hold' hcj λu hu=>RepC.mono hu (λ_ _=>rfl) λb hb=>acH hs.i00 p b hb
  ·rename_i id ver lo hi hcj
   split
   ·rename_i ty xs ver' f d ho
    split
    ·rename_i hv
     have hv:=Nat.eq_of_beq_eq_true hv
     subst hv
     obtain⟨I,M,h⟩:=h
     obtain⟨I',hI,hIb,hext,hs⟩:=h.freeze ho
     have hobj:∀(fr:List (Nat×DV)),(⟨fr,(id,.arr ty xs ver true d)::s.st,s.nx⟩:St).obj=aJ s.obj id (.arr ty xs ver true d):=by
      intro fr
      funext i
      rw[cI]
      show ao ((id,Ob.arr ty xs ver true d)::s.st) i=_
      rw[show(id,Ob.arr ty xs ver true d)::s.st=[(id,Ob.arr ty xs ver true d)]++s.st from rfl,eG]
      cases ao [(id,Ob.arr ty xs ver true d)] i<;>rfl
     have e0:(⟨s.den.tmp,aJ s.den.obj id (.arr ty xs ver true d)⟩:FSt)=(⟨s.fr,(id,.arr ty xs ver true d)::s.st,s.nx⟩:St).den:=by
      unfold St.den
      rw[FSt.mk.injEq]
      exact⟨rfl,(hobj s.fr).symm⟩
     rw[e0]at hs
     refine⟨⟨I',M,hs.below,hs.i00,hs.i0lt,hs.ilt,hs.idiv,λid2 b c h1 h2=>hs.own id2 b c (by
      show(⟨s.fr,(id,.arr ty xs ver true d)::s.st,s.nx⟩:St).obj id2≠none
      have h1:(⟨(t,.v ag (bU cs j (.sl .any ty ((xs.take hi).drop lo))))::s.fr,(id,.arr ty xs ver true d)::s.st,s.nx⟩:St).obj id2≠none:=h1
      rw[hobj]at h1⊢
      exact h1) h2,λk m hk=>(by
      have:=hs.rts k m hk
      exact this),hs.size,hs.defers,λu=> ?_,hs.objs,hs.inj,hs.gw,hs.gx⟩, ?_⟩
     ·show lw ⟨w0.heap.size,I0,I',M,(⟨s.fr,(id,.arr ty xs ver true d)::s.st,s.nx⟩:St).obj,w⟩ ((ao ((t,DV.v ag (bU cs j (.sl .any ty ((xs.take hi).drop lo))))::s.fr) u).getD eA) _
      have hold:=hs.tmps u
      simp only[ao]
      cases hb2:Nat.beq t u with
      |false=>exact hold
      |true=>
       have:=Nat.eq_of_beq_eq_true hb2
       subst this
       have hold':lw ⟨w0.heap.size,I0,I',M,(⟨s.fr,(id,.arr ty xs ver true d)::s.st,s.nx⟩:St).obj,w⟩ (s.tmp t) (a.tmps.getD t undef):=hold
       rw[ht]at hold'
       refine Bc hold' hcj λu hu=> ?_
       have hob:(⟨s.fr,(id,.arr ty xs ver true d)::s.st,s.nx⟩:St).obj id=some (.arr ty xs ver true d):=by rw[hobj];exact if_pos rfl
       obtain⟨t1,xs1,v1,f1,d1,g1,g2,g3,g4⟩:=hu
       simp only[]at g1 g3
       rw[hob]at g1;cases g1
       obtain⟨⟨hlo,hhi⟩,p,cap,hown,rfl⟩:=g3 rfl
       have hsl:=UV (s:=⟨s.fr,(id,.arr ty xs ver true d)::s.st,s.nx⟩) (f:=true) (d:=d) (v:= .slice p xs.length cap) hs ⟨ty,xs,ver,true,d,hob,Nat.le_refl _,λ_=>hown,rfl⟩ hob hIb
       obtain⟨p',cap',e1,_,_,hrep⟩:=CJ hsl hlo hhi
       cases e1
       exact hrep
     ·intro id2 hid
      rw[hobj]at hid
      by_cases e:id2=id
      ·subst e
       exact hb id2 (by rw[ho];simp)
      ·simp only[aJ,if_neg e]at hid
       exact hb id2 hid
    ·exact⟨h,hb⟩
   ·exact⟨h,hb⟩
  ·exact⟨h,hb⟩
 ·exact⟨h,hb⟩
theorem Wk {I:Nat→Prop}{M:Nat→Option (Nat×Nat)}(hs:SimX w0 mo n I0 I M s.den a w)(hb:gd s){id j:Nat}{cs:List DC}(ho:s.obj id=some (.box cs)){c c':DC}(hcj:cs[j]? =some c)
  (hr0:∀u,be ⟨w0.heap.size,I0,I,M,aJ s.obj id (.box (bU cs j c')),w⟩ c u→be ⟨w0.heap.size,I0,I,M,aJ s.obj id (.box (bU cs j c')),w⟩ c' u):
  SimX w0 mo n I0 I M (⟨s.fr,(id,.box (bU cs j c'))::s.st,s.nx⟩:St).den a w∧gd ⟨s.fr,(id,.box (bU cs j c'))::s.st,s.nx⟩:=by
 have hobj:(⟨s.fr,(id,.box (bU cs j c'))::s.st,s.nx⟩:St).obj=aJ s.obj id (.box (bU cs j c')):=by
  funext i
  rw[cI]
  show ao ((id,Ob.box (bU cs j c'))::s.st) i=_
  rw[show(id,Ob.box (bU cs j c'))::s.st=[(id,Ob.box (bU cs j c'))]++s.st from rfl,eG]
  cases ao [(id,Ob.box (bU cs j c'))] i<;>rfl
 have e0:(⟨s.fr,(id,.box (bU cs j c'))::s.st,s.nx⟩:St).den=(⟨s.den.tmp,aJ s.den.obj id (.box (bU cs j c'))⟩:FSt):=by
  unfold St.den
  rw[FSt.mk.injEq]
  exact⟨rfl,hobj⟩
 have hsome:∀i,aJ s.obj id (.box (bU cs j c')) i≠none→s.obj i≠none:=by
  intro i hi
  by_cases e:i=id
  ·subst e;rw[ho];simp
  ·simp only[aJ,if_neg e]at hi;exact hi
 have hext:Ext ⟨w0.heap.size,I0,I,M,s.obj,w⟩ ⟨w0.heap.size,I0,I,M,aJ s.obj id (.box (bU cs j c')),w⟩:=by
  refine⟨rfl,rfl,hs.i00,λ_ h=>h,λ_ _=>rfl,λi cs' hi=>⟨?_,rfl⟩,λi t xs v f d hi=> ?_⟩
  ·by_cases e:i=id
   ·exact⟨_,if_pos e⟩
   ·exact⟨cs',by simp only[aJ,if_neg e];exact hi⟩
  ·by_cases e:i=id
   ·subst e
    have hi:s.obj i=_:=hi
    rw[ho]at hi;cases hi
   ·exact⟨t,xs,v,f,d,by simp only[aJ,if_neg e];exact hi,Nat.le_refl _,λ_=>⟨rfl,rfl,rfl⟩⟩
 rw[e0]
 refine⟨⟨hs.below,hs.i00,hs.i0lt,hs.ilt,hs.idiv,λi b c h1 h2=>hs.own i b c (hsome i h1) h2,λk m hk=> ?_,hs.size,hs.defers,λu=>(hs.tmps u).ext hext,λi o hi=> ?_,λi i' b c c' h1 h2=>hs.inj i i' b c c' (hsome i h1) (hsome i' h2),hs.gw,hs.gx⟩,λi hi=> ?_⟩
 ·obtain⟨o,h1,h2⟩:=hs.rts k m hk
  by_cases e:k=id
  ·subst e
   have h1:s.obj k=_:=h1
   rw[ho]at h1;cases h1
   exact⟨_,if_pos rfl,h2⟩
  ·exact⟨o,by simp only[aJ,if_neg e];exact h1,h2⟩
 ·by_cases e:i=id
  ·subst e
   simp only[aJ,if_pos]at hi
   cases hi
   obtain⟨b,hM,hN,hlt,hI,hc,hf⟩:=(hs.objs i _ ho).ext hext rfl (Nat.le_refl _) (λ_ _ _=>⟨rfl,λh=>h⟩)
   refine⟨b,hM,hN,hlt,hI,λq c hq=> ?_,λq hq=>hf q (by rw[u3]at hq;exact hq)⟩
   by_cases e:q=j
   ·subst e
    rw[I8 cs _ hcj]at hq
    cases hq
    obtain⟨u,hu,hr,h1⟩:=hc q _ hcj
    exact⟨u,hu,hr0 u hr,h1⟩
   ·rw[Jq cs _ e]at hq
    exact hc q c hq
  ·simp only[aJ,if_neg e]at hi
   exact(hs.objs i o hi).ext hext rfl (Nat.le_refl _) (λ_ _ _=>⟨rfl,λh=>h⟩)
 ·rw[hobj]at hi
  exact hb i (hsome i hi)
theorem Ms (h:C0 w0 mo n I0 s.den a w)(hb:gd s)(id j:Nat):C0 w0 mo n I0 (s.softO id j).den a w∧gd (s.softO id j):=by
 simp only[St.softO]
 split
 ·rename_i cs ho
  split
  ·rename_i p ty xs hcj
   obtain⟨I,M,hs⟩:=h
   obtain⟨h1,h2⟩:=Wk hs hb ho hcj (c':= .sl .any ty xs) λu hr=>RepC.mono hr (λ_ _=>rfl) λb hb=>acH hs.i00 p b hb
   exact⟨⟨I,M,h1⟩,h2⟩
  ·rename_i id2 ver hcj
   split
   ·rename_i ty xs ver' f d ho2
    split
    ·rename_i hv
     have hv:=Nat.eq_of_beq_eq_true hv
     subst hv
     obtain⟨I,M,h⟩:=h
     obtain⟨I',hI,hIb,hext,hs⟩:=h.freeze ho2
     have hne:id≠id2:=by rintro rfl;rw[ho]at ho2;cases ho2
     have hobj:∀(fr:List (Nat×DV)),(⟨fr,(id2,.arr ty xs ver true d)::s.st,s.nx⟩:St).obj=aJ s.obj id2 (.arr ty xs ver true d):=by
      intro fr
      funext i
      rw[cI]
      show ao ((id2,Ob.arr ty xs ver true d)::s.st) i=_
      rw[show(id2,Ob.arr ty xs ver true d)::s.st=[(id2,Ob.arr ty xs ver true d)]++s.st from rfl,eG]
      cases ao [(id2,Ob.arr ty xs ver true d)] i<;>rfl
     have e0:(⟨s.den.tmp,aJ s.den.obj id2 (.arr ty xs ver true d)⟩:FSt)=(⟨s.fr,(id2,.arr ty xs ver true d)::s.st,s.nx⟩:St).den:=by
      unfold St.den
      rw[FSt.mk.injEq]
      exact⟨rfl,(hobj s.fr).symm⟩
     rw[e0]at hs
     have hb1:gd (⟨s.fr,(id2,.arr ty xs ver true d)::s.st,s.nx⟩:St):=by
      intro i hid
      rw[hobj]at hid
      by_cases e:i=id2
      ·subst e;exact hb i (by rw[ho2];simp)
      ·simp only[aJ,if_neg e]at hid;exact hb i hid
     have ho1:(⟨s.fr,(id2,.arr ty xs ver true d)::s.st,s.nx⟩:St).obj id=some (.box cs):=by rw[hobj];simp only[aJ,if_neg hne];exact ho
     have hob2:(⟨s.fr,(id2,.arr ty xs ver true d)::s.st,s.nx⟩:St).obj id2=some (.arr ty xs ver true d):=by rw[hobj];exact if_pos rfl
     obtain⟨h1,h2⟩:=Wk hs hb1 ho1 hcj (c':= .sl .any ty xs) λu hr=>by
      obtain⟨t1,xs1,v1,f1,d1,g1,g2,g3,g4⟩:=hr
      simp only[aJ,if_neg (Ne.symm hne)]at g1
      exact UV (s:=⟨s.fr,(id2,.arr ty xs ver true d)::s.st,s.nx⟩) (f:=true) (d:=d) hs ⟨t1,xs1,v1,f1,d1,g1,g2,g3,g4⟩ hob2 hIb
     exact⟨⟨I',M,h1⟩,h2⟩
    ·exact⟨h,hb⟩
   ·exact⟨h,hb⟩
  ·exact⟨h,hb⟩
 ·exact⟨h,hb⟩
theorem Vt (h:C0 w0 mo n I0 s.den a w)(hb:gd s)(x:NL):C0 w0 mo n I0 (s.ownNil x).den a w∧gd (s.ownNil x):=by
 have hfresh:s.obj s.nx=none:=by
  cases ho:s.obj s.nx with
  |none=>rfl
  |some o=>have:=hb s.nx (by rw[ho];simp);omega
 cases x with
 |soft t j=>exact aau h hb t j
 |softo id j=>exact Ms h hb id j
 |softb t j=>
  simp only[St.ownNil]
  split
  ·exact Ms h hb _ j
  ·exact⟨h,hb⟩
 |tmp t j ty=>
  simp only[St.ownNil]
  split
  ·rename_i ag cs ht
   split
   ·rename_i hn
    obtain⟨I,M,h⟩:=h
    obtain⟨hext,hs⟩:=h.add hfresh (o:= .arr ty [] 0 false true) (m:=none) (λ_ _ _ _ _ _ hm=>by cases hm) (λ_ _ hm=>by cases hm) (λ_=> .inl ⟨by simp only[bR,if_pos],rfl⟩)
    have hobj:(⟨(t,.v ag (bU cs j (.own s.nx 0)))::s.fr,(s.nx,.arr ty [] 0 false true)::s.st,s.nx+1⟩:St).obj=aJ s.obj s.nx (.arr ty [] 0 false true):=by
     funext i
     rw[cI]
     show ao ((s.nx,Ob.arr ty [] 0 false true)::s.st) i=_
     have:=eG [(s.nx,Ob.arr ty [] 0 false true)] s.st i
     rw[show(s.nx,Ob.arr ty [] 0 false true)::s.st=[(s.nx,Ob.arr ty [] 0 false true)]++s.st from rfl,this]
     cases ao [(s.nx,Ob.arr ty [] 0 false true)] i<;>rfl
    refine⟨⟨I,bR M s.nx none, ?_⟩, ?_⟩
    ·refine⟨hs.below,hs.i00,hs.i0lt,hs.ilt,hs.idiv,λid b c h1 h2=>hs.own id b c (by
      show aJ s.obj s.nx (.arr ty [] 0 false true) id≠none
      rw[←hobj];exact h1) h2,λk m hk=>(by
      have:=hs.rts k m hk
      show∃o,(⟨(t,.v ag (bU cs j (.own s.nx 0)))::s.fr,(s.nx,.arr ty [] 0 false true)::s.st,s.nx+1⟩:St).obj k=some o∧_
      rw[hobj];exact this),hs.size,hs.defers,λu=> ?_, ?_, ?_,hs.gw,hs.gx⟩
     ·show lw ⟨w0.heap.size,I0,I,bR M s.nx none,(⟨(t,.v ag (bU cs j (.own s.nx 0)))::s.fr,(s.nx,.arr ty [] 0 false true)::s.st,s.nx+1⟩:St).obj,w⟩ ((ao ((t,DV.v ag (bU cs j (.own s.nx 0)))::s.fr) u).getD eA) _
      rw[hobj]
      have hold:=hs.tmps u
      simp only[ao]
      cases hb2:Nat.beq t u with
      |false=>exact hold
      |true=>
       have:=Nat.eq_of_beq_eq_true hb2
       subst this
       have hold':lw ⟨w0.heap.size,I0,I,bR M s.nx none,aJ s.obj s.nx (.arr ty [] 0 false true),w⟩ (s.tmp t) (a.tmps.getD t undef):=hold
       rw[ht]at hold'
       refine Xz hold' hn λu hu=> ?_
       simp only[be]at hu
       subst hu
       exact⟨ty,[],0,false,true,by simp only[aJ,if_pos],Nat.le_refl _,λ_=>by simp only[bR,if_pos];exact⟨none,rfl⟩,rfl⟩
     ·intro id o ho
      have ho':aJ s.obj s.nx (.arr ty [] 0 false true) id=some o:=by rw[←hobj];exact ho
      show Em ⟨w0.heap.size,I0,I,bR M s.nx none,(⟨(t,.v ag (bU cs j (.own s.nx 0)))::s.fr,(s.nx,.arr ty [] 0 false true)::s.st,s.nx+1⟩:St).obj,w⟩ id o
      rw[hobj]
      exact hs.objs id o ho'
     ·intro id id' b c c' h1 h2
      refine hs.inj id id' b c c' ?_ ?_
      ·show aJ s.obj s.nx (.arr ty [] 0 false true) id≠none
       rw[←hobj];exact h1
      ·show aJ s.obj s.nx (.arr ty [] 0 false true) id'≠none
       rw[←hobj];exact h2
    ·intro id hid
     rw[hobj]at hid
     show id<s.nx+1
     by_cases e:id=s.nx
     ·omega
     ·simp only[aJ,if_neg e]at hid
      have:=hb id hid;omega
   ·exact⟨h,hb⟩
  ·exact⟨h,hb⟩
 |box t j ty=>
  simp only[St.ownNil]
  split
  ·rename_i bid off ht
   split
   ·rename_i cs ho
    split
    ·rename_i hn
     obtain⟨I,M,h⟩:=h
     obtain⟨hext,hs⟩:=h.add hfresh (o:= .arr ty [] 0 false true) (m:=none) (λ_ _ _ _ _ _ hm=>by cases hm) (λ_ _ hm=>by cases hm) (λ_=> .inl ⟨by simp only[bR,if_pos],rfl⟩)
     have hne:bid≠s.nx:=by rintro rfl;rw[hfresh]at ho;cases ho
     let ob1:Nat→Option Ob:=aJ s.obj s.nx (.arr ty [] 0 false true)
     let ob2:Nat→Option Ob:=aJ ob1 bid (.box (bU cs j (.own s.nx 0)))
     have hb1:ob1 bid=some (.box cs):=by simp only[ob1,aJ,if_neg hne];exact ho
     have hobj:(⟨s.fr,(s.nx,.arr ty [] 0 false true)::(bid,.box (bU cs j (.own s.nx 0)))::s.st,s.nx+1⟩:St).obj=ob2:=by
      funext i
      show ao ((s.nx,Ob.arr ty [] 0 false true)::(bid,Ob.box (bU cs j (.own s.nx 0)))::s.st) i=_
      simp only[ob2,ob1,aJ,ao]
      by_cases e1:i=bid
      ·subst e1
       have:Nat.beq s.nx i=false:=by
        cases hb3:Nat.beq s.nx i with
        |false=>rfl
        |true=>exact absurd (Nat.eq_of_beq_eq_true hb3).symm hne
       have h2:Nat.beq i i=true:=Nat.beq_refl i
       simp[this]
      ·by_cases e2:i=s.nx
       ·subst e2
        have h2:Nat.beq s.nx s.nx=true:=Nat.beq_refl _
        simp[e1]
       ·have h2:Nat.beq s.nx i=false:=by
         cases hb3:Nat.beq s.nx i with
         |false=>rfl
         |true=>exact absurd (Nat.eq_of_beq_eq_true hb3).symm e2
        have h3:Nat.beq bid i=false:=by
         cases hb3:Nat.beq bid i with
         |false=>rfl
         |true=>exact absurd (Nat.eq_of_beq_eq_true hb3).symm e1
        simp[h2,h3,e1,e2]
        try rfl
     have hext2:Ext ⟨w0.heap.size,I0,I,bR M s.nx none,ob1,w⟩ ⟨w0.heap.size,I0,I,bR M s.nx none,ob2,w⟩:=by
      refine⟨rfl,rfl,h.i00,λ_ hb=>hb,λ_ _=>rfl,λi cs' hi=> ?_,λi t xs v f d hi=> ?_⟩
      ·by_cases e:i=bid
       ·exact⟨⟨bU cs j (.own s.nx 0),by simp only[ob2,aJ,if_pos e]⟩,rfl⟩
       ·exact⟨⟨cs',by simp only[ob2];unfold aJ;rw[if_neg e];exact hi⟩,rfl⟩
      ·have e:i≠bid:=by rintro rfl;simp only[]at hi;rw[hb1]at hi;cases hi
       exact⟨t,xs,v,f,d,by simp only[ob2];unfold aJ;rw[if_neg e];exact hi,Nat.le_refl _,λ_=>⟨rfl,rfl,rfl⟩⟩
     have hturn:=hs.turn (I':=I) (M':=bR M s.nx none) (obj':=ob2) (w':=w) hext2 (BelowX.refl _ _ _) hs.ilt hs.idiv (λi b c hi hM=>hs.own i b c (by
      intro hc
      apply hi
      have e:i≠bid:=by rintro rfl;have:ob1 i=none:=hc;rw[hb1]at this;cases this
      simp only[ob2];unfold aJ;rw[if_neg e];exact hc) hM) (by
      intro i o hi
      by_cases e:i=bid
      ·subst e
       simp only[ob2,aJ,if_pos]at hi
       cases hi
       have hbo:=(hs.objs i (.box cs) hb1).ext hext2 rfl (Nat.le_refl _) λb cap _=>⟨rfl,λy=>y⟩
       obtain⟨b,g1,g2,g3,g4,g5,g6⟩:=hbo
       refine⟨b,g1,g2,g3,g4,λk c hk=> ?_,λk hk=>g6 k (by rw[u3]at hk;exact hk)⟩
       have hj':cs[j]? =some .nil:=by
        revert hn
        cases cs[j]? with
        |none=>intro h;cases h
        |some c=>cases c<;>intro h<;>first|rfl|cases h
       by_cases ek:k=j
       ·subst ek
        have:(bU cs k (DC.own s.nx 0))[k]? =some (DC.own s.nx 0):=I8 _ _ hj'
        rw[this]at hk;cases hk
        obtain⟨u,hu,hr,h1⟩:=g5 k _ hj'
        refine⟨u,hu, ?_,h1⟩
        simp only[be]at hr
        subst hr
        exact⟨ty,[],0,false,true,by simp only[ob2,ob1,aJ,if_neg (Ne.symm hne),if_pos],Nat.le_refl _,λ_=>by simp only[bR,if_pos];exact⟨none,rfl⟩,rfl⟩
       ·have:(bU cs j (DC.own s.nx 0))[k]? =cs[k]? :=Jq _ _ ek
        rw[this]at hk
        exact g5 k c hk
      ·have hi':ob1 i=some o:=by simp only[ob2]at hi;unfold aJ at hi;rw[if_neg e]at hi;exact hi
       exact(hs.objs i o hi').ext hext2 rfl (Nat.le_refl _) λb cap _=>⟨rfl,λy=>y⟩) (by
      intro i i' b c c' h1 h2
      refine hs.inj i i' b c c' ?_ ?_
      ·intro hc
       apply h1
       have e:i≠bid:=by rintro rfl;have:ob1 i=none:=hc;rw[hb1]at this;cases this
       simp only[ob2];unfold aJ;rw[if_neg e];exact hc
      ·intro hc
       apply h2
       have e:i'≠bid:=by rintro rfl;have:ob1 i'=none:=hc;rw[hb1]at this;cases this
       simp only[ob2];unfold aJ;rw[if_neg e];exact hc)
     refine⟨⟨I,bR M s.nx none, ?_⟩, ?_⟩
     ·have e1:(⟨s.fr,(s.nx,.arr ty [] 0 false true)::(bid,.box (bU cs j (.own s.nx 0)))::s.st,s.nx+1⟩:St).den=⟨s.den.tmp,ob2⟩:=by
       unfold St.den
       rw[hobj]
       rfl
      rw[e1]
      exact hturn
     ·intro id hid
      rw[hobj]at hid
      show id<s.nx+1
      by_cases e:id=s.nx
      ·omega
      ·by_cases e2:id=bid
       ·have:=hb bid (by rw[ho];simp);omega
       ·simp only[ob2,ob1,aJ,if_neg e,if_neg e2]at hid
        have:=hb id hid;omega
    ·exact⟨h,hb⟩
   ·exact⟨h,hb⟩
  ·exact⟨h,hb⟩
theorem yR:∀(l:List NL) {s:St},C0 w0 mo n I0 s.den a w→gd s→C0 w0 mo n I0 (qe l s).den a w∧gd (qe l s)
 |[],_,h,hb=>⟨h,hb⟩
 |x::r,_,h,hb=>by
  obtain⟨h1,h2⟩:=Vt h hb x
  exact yR r h1 h2
theorem Cb (l:List (Nat×Ob))(i:Nat):ao (l.map λp=>(p.1,p.2.shallow)) i=(ao l i).map Ob.shallow:=by
 induction l with
 |nil=>rfl
 |cons p l ih=>
  obtain⟨j,o⟩:=p
  simp only[List.map_cons,ao]
  cases Nat.beq j i with
  |true=>rfl
  |false=>exact ih
theorem Qs (h:C0 w0 mo n I0 s.den a w):C0 w0 mo n I0 s.shallow.den a w:=by
 obtain⟨I,M,h⟩:=h
 have hobj:s.shallow.obj=λid=>(s.obj id).map Ob.shallow:=by
  funext i
  exact Cb s.st i
 have hext:Ext (aY w0 I0 I M s.den w) ⟨w0.heap.size,I0,I,M,λid=>(s.obj id).map Ob.shallow,w⟩:=by
  refine⟨rfl,rfl,h.i00,λ_ hb=>hb,λ_ _=>rfl,λi cs hi=> ?_,λi t xs v f d hi=> ?_⟩
  ·have hi':s.obj i=some (.box cs):=hi
   exact⟨⟨cs,by simp only[hi',Option.map_some,Ob.shallow]⟩,rfl⟩
  ·have hi':s.obj i=some (.arr t xs v f d):=hi
   exact⟨t,xs,v,f,false,by simp only[hi',Option.map_some,Ob.shallow],Nat.le_refl _,λ_=>⟨rfl,rfl,rfl⟩⟩
 have:=h.turn (I':=I) (M':=M) (obj':=λid=>(s.obj id).map Ob.shallow) (w':=w) hext (BelowX.refl _ _ _) h.ilt h.idiv (λi b c hi hM=>h.own i b c (by intro hc;apply hi;have:s.obj i=none:=hc;simp only[this,Option.map_none]) hM) (by
  intro i o hi
  cases ho:s.obj i with
  |none=>simp only[ho,Option.map_none]at hi;cases hi
  |some o0=>
   simp only[ho,Option.map_some,Option.some.injEq]at hi
   subst hi
   have hr:=(h.objs i o0 ho).ext hext rfl (Nat.le_refl _) λb cap _=>⟨rfl,λy=>y⟩
   cases o0 with
   |box cs=>exact hr
   |arr t xs v f d=>
    rcases hr with h1|⟨b,cap,g1,g2,g3,g4,g5,g6,g7,g8⟩
    ·exact .inl h1
    ·refine .inr ⟨b,cap,g1,(λhc=>by cases hc),g3,g4,g5,g6,g7,λi e j c he hc=> ?_⟩
     obtain⟨u,hu,hru⟩:=g8 i e j c he hc
     exact⟨u,hu,hru.weaken (by cases d<;>simp)⟩) (by
  intro i i' b c c' h1 h2
  refine h.inj i i' b c c' ?_ ?_
  ·intro hc;apply h1;have:s.obj i=none:=hc;simp only[this,Option.map_none]
  ·intro hc;apply h2;have:s.obj i'=none:=hc;simp only[this,Option.map_none])
 refine⟨I,M, ?_⟩
 have e1:s.shallow.den=⟨s.den.tmp,λid=>(s.obj id).map Ob.shallow⟩:=by
  unfold St.den
  rw[hobj]
  rfl
 rw[e1]
 exact this
theorem SJ (h:C0 w0 mo n I0 s.den a w)(hb:gd s)(K:Keep)(hr:K.roots=mo.length)(hlen:mo.length≤10000):C0 w0 mo n I0 (s.norm K).den a w:=by
 have h1:=X9 (yR K.nils h hb).1 K.ts hlen
 rw[←hr]at h1
 unfold St.norm
 cases K.shal with
 |true=>exact Qs h1
 |false=>exact h1
theorem qL (K:Keep):∀id,(s.norm K).obj id≠none→id<(s.norm K).nx:=by
 intro id hid
 unfold St.norm at hid⊢
 cases hk:K.shal with
 |true=>
  rw[hk]at hid
  refine FM (s:=qe K.nils s) K.roots K.ts id ?_
  intro hc
  apply hid
  show ao _ id=none
  simp only[St.shallow]
  rw[Cb]
  have:ao ((qe K.nils s).norm0 K.roots K.ts).st id=none:=hc
  rw[this];rfl
 |false=>rw[hk]at hid;exact FM K.roots K.ts id hid
end
end Go.Proofs.YtfpdenjmlnhnnaaGreat
