/- The head of a loop: what is kept, numbered anew. -/
import Derived.Test.YtffjmkhjhchnmaaGreatSimOk
import Derived.LoopN
set_option linter.unusedVariables false
set_option linter.unusedSimpArgs false
namespace Go.Proofs.YtffjmkhjhchnmaaGreat
open Go Go.RowKit
theorem je (st:List (Nat×Ob)):∀(m:Nat) (todo seen:List Nat),seen.Nodup→(dz st m todo seen).Nodup
 |0,_,_,h=>h
 |_+1,[],_,h=>h
 |m+1,x::todo,seen,h=>by
  simp only[dz]
  cases hm:vJ x seen with
  |true=>exact je st m todo seen h
  |false=>
   simp only[]
   split
   ·refine je st m _ _ ?_
    rw[List.nodup_append]
    refine⟨h,by simp,λa ha b hb=> ?_⟩
    rw[List.mem_singleton]at hb
    subst hb
    rintro rfl
    rw[fW.2 ha]at hm;cases hm
   ·exact je st m todo seen h
theorem kJ:∀{l:List Nat} {x k m:Nat},jY l x k=some m→k≤m∧l[m-k]? =some x
 |[],_,_,_,h=>by simp[jY]at h
 |y::r,x,k,m,h=>by
  simp only[jY]at h
  cases hb:Nat.beq y x with
  |true=>
   rw[hb]at h
   cases h
   exact⟨Nat.le_refl _,by simp[Nat.eq_of_beq_eq_true hb]⟩
  |false=>
   rw[hb]at h
   obtain⟨h1,h2⟩:=kJ h
   refine⟨by omega, ?_⟩
   rw[show m-k=(m-(k+1))+1 from by omega,List.getElem?_cons_succ]
   exact h2
theorem lj (st:List (Nat×Ob)):∀(m:Nat) (todo seen:List Nat) {i x:Nat},seen[i]? =some x→(dz st m todo seen)[i]? =some x
 |0,_,_,_,_,h=>h
 |_+1,[],_,_,_,h=>h
 |m+1,x::todo,seen,i,y,h=>by
  simp only[dz]
  cases hm:vJ x seen with
  |true=>exact lj st m todo seen h
  |false=>
   simp only[]
   split
   ·refine lj st m _ _ ?_
    rw[List.getElem?_append_left (List.getElem?_eq_some_iff.1 h).1]
    exact h
   ·exact lj st m todo seen h
theorem qU (st:List (Nat×Ob)):∀(j k m:Nat) (rest:List Nat),j≤m→(∀i,k≤i→i<k+j→ac st i≠none)→∀i,i<k+j→(dz st m (List.range' k j++rest) (List.range k))[i]? =some i
 |0,k,m,rest,_,_,i,hi=>lj st _ _ _ (by rw[List.getElem?_range (by omega)])
 |j+1,k,0,rest,hm,_,i,hi=>by omega
 |j+1,k,m+1,rest,hm,hl,i,hi=>by
  simp only[List.range'_succ,List.cons_append,dz]
  have h1:vJ k (List.range k)=false:=by
   cases h:vJ k (List.range k)with
   |false=>rfl
   |true=>have:=List.mem_range.1 (fW.1 h);omega
  rw[h1]
  simp only[]
  cases ho:ac st k with
  |none=>exact absurd ho (hl k (Nat.le_refl _) (by omega))
  |some o=>
   simp only[List.append_assoc]
   have:=qU st j (k+1) m (rest++o.ids) (by omega) (λi h1 h2=>hl i (by omega) (by omega)) i (by omega)
   rw[List.range_succ]at this
   exact this
theorem IQ (r0:Nat)(st:List (Nat×Ob))(seen:List Nat):∀(l:List Nat) (k m:Nat),ac (kK r0 st seen l k) m=if k≤m then(l[m-k]?).bind λx=>(ac st x).map (Ob.ren r0 m st seen)else none
 |[],k,m=>by simp[kK,ac]
 |x::r,k,m=>by
  have ih:=IQ r0 st seen r (k+1) m
  by_cases hkm:k≤m
  ·by_cases e:m=k
   ·subst e
    simp only[kK]
    split
    ·rename_i o ho
     simp[ac,ho]
    ·rename_i ho
     rw[ih,if_neg (by omega)]
     simp[ho]
   ·have h1:(x::r)[m-k]? =r[m-(k+1)]? :=by
     rw[show m-k=(m-(k+1))+1 from by omega,List.getElem?_cons_succ]
    rw[if_pos hkm,h1]
    simp only[kK]
    split
    ·rename_i o ho
     have hb:Nat.beq k m=false:=by
      cases hb:Nat.beq k m with
      |false=>rfl
      |true=>exact absurd (Nat.eq_of_beq_eq_true hb).symm e
     simp only[ac,hb]
     rw[ih,if_pos (by omega)]
    ·rw[ih,if_pos (by omega)]
  ·rw[if_neg hkm]
   simp only[kK]
   split
   ·have hb:Nat.beq k m=false:=by
     cases hb:Nat.beq k m with
     |false=>rfl
     |true=>exact absurd (Nat.eq_of_beq_eq_true hb) (by omega)
    simp only[ac,hb]
    rw[ih,if_neg (by omega)]
   ·rw[ih,if_neg (by omega)]
section
variable {w0:World} {mo:gj} {n:Nat} {I0 I:Nat→Prop} {M:MF} {s:St} {a:Act} {w:World}
def eZ (r0:Nat)(s:St)(seen:List Nat):Nat→Option Ob:=λm=>(seen[m]?).bind λx=>(ac s.st x).map (Ob.ren r0 m s.st seen)
def jE (M:MF)(seen:List Nat):MF:=⟨λm=>(seen[m]?).bind M.m,λm i j=>(seen[m]?).bind λx=>M.n x i j⟩
abbrev Fu (r0:Nat)(w0:World)(I0 I:Nat→Prop)(M:MF)(s:St)(seen:List Nat)(w:World):Cx:=⟨w0.heap.size,I0,I,jE M seen,eZ r0 s seen,w⟩
theorem Ki {r0:Nat}{seen:List Nat}{c:DC}{v:Value}(h:aA (ax w0 I0 I M s.den w) c v):aA (Fu r0 w0 I0 I M s seen w) (c.ren r0 s.st seen) v:=by
 cases c with
 |own id ver=>
  obtain⟨t,xs,ver',frz,d,ho,hv,hval,h1⟩:=h
  have ho':ac s.st id=some (.arr t xs ver' frz d):=ho
  simp only[DC.ren]
  cases hi:jY seen id 0 with
  |none=>trivial
  |some m=>
   obtain⟨_,hm⟩:=kJ hi
   rw[Nat.sub_zero]at hm
   simp only[Pn,ho']
   cases hb:Nat.beq ver' ver with
   |false=>trivial
   |true=>
    have hve:=Nat.eq_of_beq_eq_true hb
    refine⟨t,xs,Di r0 m ver',frz,d, ?_,Nat.le_refl _,λ_=> ?_,h1⟩
    ·simp only[eZ,hm,Option.bind_some,ho',Option.map_some,Ob.ren]
    ·have:=hval hve.symm
     simp only[jE,hm,Option.bind_some]
     exact this
 |ptr id off=>
  obtain⟨cs,b,ho,hM,hv⟩:=h
  have ho':ac s.st id=some (.box cs):=ho
  simp only[DC.ren]
  cases hi:jY seen id 0 with
  |none=>trivial
  |some m=>
   obtain⟨_,hm⟩:=kJ hi
   rw[Nat.sub_zero]at hm
   refine⟨cs.map (DC.ren r0 s.st seen),b, ?_, ?_,hv⟩
   ·simp only[eZ,hm,Option.bind_some,ho',Option.map_some,Ob.ren]
   ·simp only[jE,hm,Option.bind_some]
    exact hM
 |eptr _ _ _ _=>trivial
 |vw _ _ _ _=>trivial
 |dptr _ _ _ _=>trivial
 |inn _ _ _ _=>trivial
 |iptr _ _ _ _ _ _=>trivial
 |down id ver=>
  obtain⟨h1,o,ho,hd⟩:=h
  simp only[DC.ren]
  cases hi:jY seen id 0 with
  |none=>trivial
  |some m=>
   obtain⟨_,hm⟩:=kJ hi
   rw[Nat.sub_zero]at hm
   have ho':ac s.st id=some o:=ho
   cases o with
   |box _=>exact hd.elim
   |arr _ _ _ _ _=>simp only[Qs,ho'];trivial
   |dar t xs ver' iv=>
    simp only[Qs,ho']
    cases hb:Nat.beq ver' ver with
    |false=>trivial
    |true=>
     have hve:=Nat.eq_of_beq_eq_true hb
     refine⟨h1,.dar t xs (Di r0 m ver') (Di r0 m iv), ?_,Nat.le_refl _,λ_=> ?_⟩
     ·simp only[eZ,hm,Option.bind_some,ho',Option.map_some,Ob.ren]
     ·have:=hd.2 hve.symm
      simp only[jE,hm,Option.bind_some]
      exact this
 |bsl _=>trivial
 |bool b=>exact h
 |int k m=>exact h
 |str b=>exact h
 |raw b=>exact h
 |sl p t xs=>cases p<;>exact h
 |nil=>exact h
 |ref p cs=>cases p<;>exact h
 |slx t xs=>exact h
 |fn f ids=>
  obtain⟨us,hv,hu⟩:=h
  simp only[DC.ren]
  cases hi:rS seen ids with
  |none=>trivial
  |some ms=>
   refine⟨us,hv, ?_⟩
   generalize us.toList=l at hu
   clear hv
   induction ids generalizing ms l with
   |nil=>
    simp only[rS,Option.some.injEq]at hi
    subst hi
    cases l with
    |nil=>trivial
    |cons _ _=>exact hu.elim
   |cons id ids ih=>
    simp only[rS]at hi
    split at hi
    ·rename_i m ms' hm hms
     cases hi
     cases l with
     |nil=>exact hu.elim
     |cons u l=>
      refine⟨?_,ih ms' hms l hu.2⟩
      obtain⟨cs,b,ho,hM,hv⟩:=hu.1
      have ho':ac s.st id=some (.box cs):=ho
      obtain⟨_,hm⟩:=kJ hm
      rw[Nat.sub_zero]at hm
      refine⟨cs.map (DC.ren r0 s.st seen),b, ?_, ?_,hv⟩
      ·simp only[eZ,hm,Option.bind_some,ho',Option.map_some,Ob.ren]
      ·simp only[jE,hm,Option.bind_some]
       exact hM
    ·cases hi
 |undef=>trivial
 |skipped=>exact h
theorem Ns {r0:Nat}{seen:List Nat}{ag:Bool}{cs:List DC}{v:Value}(h:iQ (ax w0 I0 I M s.den w) ag cs v):iQ (Fu r0 w0 I0 I M s seen w) ag (cs.map (DC.ren r0 s.st seen)) v:=by
 cases ag with
 |true=>
  obtain⟨us,rfl,hu⟩:=h
  refine⟨us,rfl, ?_⟩
  generalize us.toList=l at hu
  induction cs generalizing l with
  |nil=>cases l with
   |nil=>trivial
   |cons _ _=>exact hu.elim
  |cons c cs ih=>cases l with
   |nil=>exact hu.elim
   |cons u l=>exact⟨⟨Ki hu.1.1,hu.1.2⟩,ih _ hu.2⟩
 |false=>obtain⟨c,rfl,hc⟩:=h;exact⟨_,rfl,Ki hc⟩
theorem QG {r0:Nat}{seen:List Nat}{d:DV}{v:Value}(h:hU (ax w0 I0 I M s.den w) d v):hU (Fu r0 w0 I0 I M s seen w) (d.ren r0 s.st seen) v:=by
 cases d with
 |v ag cs=>exact Ns h
 |tup vs=>
  obtain⟨us,rfl,hu⟩:=h
  refine⟨us,rfl, ?_⟩
  generalize us.toList=l at hu
  induction vs generalizing l with
  |nil=>cases l with
   |nil=>trivial
   |cons _ _=>exact hu.elim
  |cons c cs ih=>cases l with
   |nil=>exact hu.elim
   |cons u l=>exact⟨Ns hu.1,ih _ hu.2⟩
theorem QJ {r0:Nat}{seen:List Nat}{m id:Nat}(hm:seen[m]? =some id){o:Ob}(h:xS (ax w0 I0 I M s.den w) id o):xS (Fu r0 w0 I0 I M s seen w) m (o.ren r0 m s.st seen):=by
 have hM:jE M seen m=M id:=by simp only[jE,hm,Option.bind_some]
 have hN:(jE M seen).n m=M.n id:=by funext i j;simp only[jE,hm,Option.bind_some]
 cases o with
 |dar t xs ver iv=>
  rcases h with⟨h1,h2⟩|⟨b,cap,h1,h3,h4,h5,h6,h7,h8⟩
  ·exact .inl ⟨by rw[←h1];exact hM,h2⟩
  ·exact .inr ⟨b,cap,by rw[←h1];exact hM,h3,h4,h5,h6,h7,λi e j c he hc=>by
    obtain⟨u,hu,hr⟩:=h8 i e j c he hc
    exact⟨u,hu,by rw[hN];exact hr⟩⟩
 |box cs=>
  obtain⟨b,h1,h2,h3,h4,h5,h6⟩:=h
  refine⟨b,by rw[←h1];exact hM,h2,h3,h4,λj c hj=> ?_,λj hj=>h6 j (by simpa using hj)⟩
  rw[List.getElem?_map]at hj
  cases hc:cs[j]? with
  |none=>rw[hc]at hj;cases hj
  |some c0=>
   rw[hc]at hj
   simp only[Option.map_some,Option.some.injEq]at hj
   subst hj
   obtain⟨u,hu,hr,h1⟩:=h5 j c0 hc
   exact⟨u,hu,Ki hr,h1⟩
 |arr t xs ver frz d=>
  rcases h with⟨h1,h2⟩|⟨b,cap,h1,h2,h3,h4,h5,h6,h7,h8⟩
  ·exact .inl ⟨by rw[←h1];exact hM,h2⟩
  ·refine .inr ⟨b,cap,by rw[←h1];exact hM,h2,h3,h4,h5,h6,h7,λi e j c he hc=> ?_⟩
   obtain⟨u,hu,hr⟩:=h8 i e j c he hc
   refine⟨u,hu, ?_⟩
   cases d<;>exact hr
theorem Ej (r0:Nat)(keep:List Nat):(s.norm0 r0 keep).den.obj=eZ r0 s (dz s.st 10000 (List.range r0++(keep.map λt=>(t,s.tmp t)).flatMap λv=>v.2.ids) []):=by
 funext m
 show ac (kK r0 s.st _ _ 0) m=_
 rw[IQ,if_pos (Nat.zero_le _),Nat.sub_zero]
 rfl
theorem L9 (h:ui w0 mo n I0 s.den a w)(keep:List Nat)(hlen:mo.length≤10000):ui w0 mo n I0 (s.norm0 mo.length keep).den a w:=by
 obtain⟨I,M,h⟩:=h
 let vs:=keep.map λt=>(t,s.tmp t)
 let seen:=dz s.st 10000 (List.range mo.length++vs.flatMap λv=>v.2.ids) []
 have hnd:seen.Nodup:=je _ _ _ _ (by simp)
 have hroot:∀k,k<mo.length→seen[k]? =some k:=by
  intro k hk
  have:=qU s.st mo.length 0 10000 (vs.flatMap λv=>v.2.ids) hlen (λi _ hi=>by
   obtain⟨o,ho,_⟩:=h.rts i mo[i] (by rw[List.getElem?_eq_getElem])
   have ho':ac s.st i=some o:=ho
   rw[ho'];simp) k (by omega)
  rw[←List.range_eq_range']at this
  exact this
 have huniq:∀i j x:Nat,seen[i]? =some x→seen[j]? =some x→i=j:=by
  intro i j x h1 h2
  obtain⟨hl1,he1⟩:=List.getElem?_eq_some_iff.1 h1
  obtain⟨hl2,he2⟩:=List.getElem?_eq_some_iff.1 h2
  exact(List.getElem_inj hnd).1 (he1.trans he2.symm)
 have hobj:(s.norm0 mo.length keep).den.obj=eZ mo.length s seen:=Ej _ _
 have hsome:∀m,eZ mo.length s seen m≠none→∃id o,seen[m]? =some id∧s.obj id=some o∧eZ mo.length s seen m=some (o.ren mo.length m s.st seen):=by
  intro m hm
  cases hs:seen[m]? with
  |none=>simp[eZ,hs]at hm
  |some id=>
   cases ho:ac s.st id with
   |none=>simp[eZ,hs,ho]at hm
   |some o=>exact⟨id,o,rfl,ho,by simp[eZ,hs,ho]⟩
 refine⟨I,jE M seen,⟨h.below,h.i00,h.i0lt,h.ilt,h.idiv,λm b c hm hb=> ?_,λk m hk=> ?_,h.size,h.defers,λt=> ?_,λm o ho=> ?_,λm m' b c c' hm hm' hb hb'=> ?_,h.gw,h.gx, ?_⟩⟩
 ·rw[hobj]at hm
  obtain⟨id,o,hs1,ho1,_⟩:=hsome m hm
  simp only[jE,hs1,Option.bind_some]at hb
  rcases h.own id b c (by show s.obj id≠none;rw[ho1];simp) hb with h1|h1
  ·exact .inl h1
  ·refine .inr ?_
   have hlt:id<mo.length:=by
    obtain⟨m0,c0,h2,_⟩:=h1
    exact(List.getElem?_eq_some_iff.1 h2).1
   rw[huniq m id id hs1 (hroot id hlt)]
   exact h1
 ·obtain⟨o,ho,hr⟩:=h.rts k m hk
  have hlt:k<mo.length:=(List.getElem?_eq_some_iff.1 hk).1
  have hsk:=hroot k hlt
  have ho':ac s.st k=some o:=ho
  refine⟨o.ren mo.length k s.st seen, ?_, ?_⟩
  ·rw[hobj]
   simp only[eZ,hsk,Option.bind_some,ho',Option.map_some]
  ·have hM:jE M seen k=M k:=by simp only[jE,hsk,Option.bind_some]
   have hN:(jE M seen).n k=M.n k:=by funext i j;simp only[jE,hsk,Option.bind_some]
   rw[hM,hN]
   have hb:Nat.blt k mo.length=true:=by simp[Nat.blt,Nat.ble_eq];omega
   cases o with
   |box cs=>exact hr
   |arr t xs v f d=>
    simp only[Ob.ren,Ky,Di,hb]
    exact hr
   |dar t xs v iv=>
    simp only[Ob.ren,Ky,Di,hb]
    exact hr
 ·rw[hobj]
  have hlk:(s.norm0 mo.length keep).den.tmp t=cA∨(s.norm0 mo.length keep).den.tmp t=(s.tmp t).ren mo.length s.st seen:=by
   show(ac (vs.map λv=>(v.1,v.2.ren mo.length s.st seen)) t).getD cA=cA∨(ac (vs.map λv=>(v.1,v.2.ren mo.length s.st seen)) t).getD cA=_
   have:∀l:List Nat,(ac ((l.map λt=>(t,s.tmp t)).map λv=>(v.1,v.2.ren mo.length s.st seen)) t).getD cA=cA∨(ac ((l.map λt=>(t,s.tmp t)).map λv=>(v.1,v.2.ren mo.length s.st seen)) t).getD cA=(s.tmp t).ren mo.length s.st seen:=by
    intro l
    induction l with
    |nil=>exact .inl rfl
    |cons x l ih=>
     simp only[List.map_cons,ac]
     cases hb:Nat.beq x t with
     |true=>rw[Nat.eq_of_beq_eq_true hb];exact .inr rfl
     |false=>exact ih
   exact this keep
  rcases hlk with hlk|hlk
  ·rw[hlk];exact⟨.undef,rfl,trivial⟩
  ·rw[hlk];exact QG (h.tmps t)
 ·rw[hobj]at ho⊢
  obtain⟨id,o',hm,ho',hn⟩:=hsome m (by rw[ho];simp)
  rw[ho]at hn
  cases hn
  exact QJ hm (h.objs id o' ho')
 ·rw[hobj]at hm hm'
  obtain⟨id,o,hs1,ho1,_⟩:=hsome m hm
  obtain⟨id',o',hs2,ho2,_⟩:=hsome m' hm'
  simp only[jE,hs1,Option.bind_some]at hb
  simp only[jE,hs2,Option.bind_some]at hb'
  have:=h.inj id id' b c c' (by show s.obj id≠none;rw[ho1];simp) (by show s.obj id'≠none;rw[ho2];simp) hb hb'
  subst this
  exact huniq m m' id hs1 hs2
 ·rw[hobj]
  have hd:∀m,isDar (eZ mo.length s seen m)=true→∃id,seen[m]? =some id∧isDar (s.obj id)=true∧(jE M seen).n m=M.n id:=by
   intro m hm
   obtain⟨id,o,hs1,ho1,hn⟩:=hsome m (CV hm)
   rw[hn]at hm
   refine⟨id,hs1, ?_,by funext i j;simp only[jE,hs1,Option.bind_some]⟩
   rw[ho1]
   cases o with
   |dar _ _ _ _=>rfl
   |box _=>cases hm
   |arr _ _ _ _ _=>cases hm
  refine⟨λm i j b c hm hb=> ?_,λm m' i i' j j' b c c' hm hm' hb hb'=> ?_,λm m' i j b c c' hm hm' hb hb'=> ?_⟩
  ·obtain⟨id,hs1,h1,h2⟩:=hd m hm
   rw[h2]at hb
   obtain⟨h3,h4⟩:=h.vir.lt id i j b c h1 hb
   refine⟨?_,h4⟩
   rcases h3 with h3|h3
   ·exact .inl h3
   ·refine .inr ?_
    have hlt:id<mo.length:=by
     obtain⟨m0,i0,j0,c0,h5,_⟩:=h3
     exact(List.getElem?_eq_some_iff.1 h5).1
    rw[huniq m id id hs1 (hroot id hlt)]
    exact h3
  ·obtain⟨id,hs1,h1,h2⟩:=hd m hm
   obtain⟨id',hs2,h3,h4⟩:=hd m' hm'
   rw[h2]at hb
   rw[h4]at hb'
   obtain⟨e1,e2⟩:=h.vir.inj id id' i i' j j' b c c' h1 h3 hb hb'
   subst e1
   exact⟨huniq m m' id hs1 hs2,e2⟩
  ·obtain⟨id,hs1,h1,h2⟩:=hd m hm
   obtain⟨id',o',hs2,ho2,_⟩:=hsome m' hm'
   rw[h2]at hb
   simp only[jE,hs2,Option.bind_some]at hb'
   exact h.vir.dis id id' i j b c c' h1 (by show s.obj id'≠none;rw[ho2];simp) hb hb'
theorem yQ (r0:Nat)(keep:List Nat):∀id,(s.norm0 r0 keep).obj id≠none→id<(s.norm0 r0 keep).nx:=by
 intro m hm
 have h1:(s.norm0 r0 keep).obj m=eZ r0 s _ m:=congrFun (Ej r0 keep) m
 show m<(dz s.st 10000 (List.range r0++(keep.map λt=>(t,s.tmp t)).flatMap λv=>v.2.ids) []).length
 rw[h1]at hm
 cases hs:(dz s.st 10000 (List.range r0++(keep.map λt=>(t,s.tmp t)).flatMap λv=>v.2.ids) [])[m]? with
 |none=>simp only[eZ,hs]at hm;exact absurd rfl hm
 |some id=>exact(List.getElem?_eq_some_iff.1 hs).1
theorem Ia {β:Type}{b0:β}:∀(cs:List β) {k:Nat} (b:β),cs[k]? =some b0→(bA cs k b)[k]? =some b
 |[],_,_,h=>by simp at h
 |_::_,0,_,_=>rfl
 |_::ys,k+1,b,h=>by
  simp only[bA,List.getElem?_cons_succ]at*
  exact Ia ys b h
theorem H9 {β:Type}:∀(cs:List β) {k j:Nat} (b:β),k≠j→(bA cs j b)[k]? =cs[k]?
 |[],_,_,_,_=>rfl
 |_::_,0,0,_,h=>absurd rfl h
 |_::_,_+1,0,_,_=>rfl
 |_::_,0,_+1,_,_=>rfl
 |_::ys,k+1,j+1,b,h=>by
  simp only[bA,List.getElem?_cons_succ]
  exact H9 ys b (by omega)
theorem ve {β γ:Type}{R:β→γ→Prop}{b c:β}(hR:∀u,R b u→R c u):∀{as:List β} {us:List γ} {j:Nat},ar R as us→as[j]? =some b→ar R (bA as j c) us
 |[],[],_,h,_=>h
 |a::as,u::us,0,h,he=>by
  simp only[List.getElem?_cons_zero,Option.some.injEq]at he
  subst he
  exact⟨hR u h.1,h.2⟩
 |a::as,u::us,j+1,h,he=>by
  simp only[List.getElem?_cons_succ]at he
  exact⟨h.1,ve hR h.2 he⟩
 |[],_::_,_,h,_=>h.elim
 |_::_,[],_,h,_=>h.elim
theorem Md {x:Cx}{ag:Bool}{cs:List DC}{v:Value}{j:Nat}{c':DC}(h:iQ x ag cs v)(hj:yG cs[j]? =true)(hc:∀u,aA x .nil u→aA x c' u):iQ x ag (bA cs j c') v:=by
 have hj':cs[j]? =some .nil:=by
  revert hj
  cases cs[j]? with
  |none=>intro h;cases h
  |some c=>cases c<;>intro h<;>first|rfl|cases h
 cases ag with
 |true=>obtain⟨us,rfl,hu⟩:=h;exact⟨us,rfl,ve (R:=λc u=>aA x c u∧u.oneCell'=true) (λu hu=>⟨hc u hu.1,hu.2⟩) hu hj'⟩
 |false=>
  obtain⟨c,rfl,hcc⟩:=h
  cases j with
  |zero=>simp only[List.getElem?_cons_zero,Option.some.injEq]at hj';subst hj';exact⟨c',rfl,hc v hcc⟩
  |succ j=>simp at hj'
def ce (s:St):Prop:=∀id,s.obj id≠none→id<s.nx
theorem Kd (h:SimX w0 mo n I0 I M s.den a w){id ver:Nat}{v:Value}(hc:aA (ax w0 I0 I M s.den w) (.own id ver) v){t:Ty}{xs:List t.T}{f d:Bool}(hob:s.obj id=some (.arr t xs ver f d))(hI:∀b k,M id=some (b,k)→I b):RepC I w (.sl t xs) v:=by
 have hob':s.den.obj id=some (.arr t xs ver f d):=hob
 obtain⟨t1,xs1,v1,f1,d1,h1,h2,h3,h4⟩:=hc
 simp only[]at h1 h3
 rw[hob']at h1;cases h1
 have hval:=h3 rfl
 rcases h.objs id _ hob' with⟨hM,hnil⟩|⟨b,cap,hM,hN,_,_,hcap,hmx,_,he⟩
 ·simp only[]at hM
  rw[hM]at hval
  obtain⟨_,hval⟩:=hval
  rw[hval,hnil]
  exact RepC.empty t _
 ·simp only[]at hM hN
  rw[hM]at hval
  simp only[aM]at hval
  rw[hval]
  refine .sl t xs b 0 cap (λi j=>(w.cell? ⟨b,i*t.size+j,none⟩).getD undef) (λ_=>hI b cap hM) hmx hcap (λi x j c hx hc=> ?_) (λi x j c hx hc=> ?_)
  ·obtain⟨u,hu,_⟩:=he i x j c hx hc
   simp only[]at hu
   rw[Nat.zero_add,hu];rfl
  ·obtain⟨u,hu,hru⟩:=he i x j c hx hc
   simp only[]at hu
   rw[hu]
   cases d with
   |true=>exact hru.mono (λ_ _=>rfl) λb hb=>hb.1
   |false=>exact hru
theorem u7 {x:Cx}{ag:Bool}{cs:List DC}{v:Value}{j:Nat}{c0 c':DC}(h:iQ x ag cs v)(hj:cs[j]? =some c0)(hc:∀u,aA x c0 u→aA x c' u):iQ x ag (bA cs j c') v:=by
 cases ag with
 |true=>
  obtain⟨us,rfl,hu⟩:=h
  exact⟨us,rfl,ve (λu hu=>⟨hc u hu.1,hu.2⟩) hu hj⟩
 |false=>
  obtain⟨c,rfl,hcc⟩:=h
  cases j with
  |zero=>simp only[List.getElem?_cons_zero,Option.some.injEq]at hj;subst hj;exact⟨c',rfl,hc v hcc⟩
  |succ j=>simp at hj
theorem PF {w:World}{I0 I:Nat→Prop}{M:MF}{obj:Nat→Option Ob}{N:Nat}(h0:∀b,I0 b→I b)(p:Pv)(b:Nat)(h:Cx.J ⟨N,I0,I,M,obj,w⟩ p b):I b:=by
 cases p with
 |arg=>exact h0 b h
 |new=>exact h.1
 |any=>exact h
theorem M7 (h:ui w0 mo n I0 s.den a w)(hb:ce s)(t j:Nat):ui w0 mo n I0 (s.ownNil (.soft t j)).den a w∧ce (s.ownNil (.soft t j)):=by
 simp only[St.ownNil]
 split
 ·rename_i ag cs ht
  split
  ·rename_i id ver hcj
   split
   ·rename_i ty xs ver' f d ho
    split
    ·rename_i hv
     have hv:=Nat.eq_of_beq_eq_true hv
     subst hv
     obtain⟨I,M,h⟩:=h
     obtain⟨I',hI,hIb,hext,hs⟩:=h.freeze ho
     have hobj:∀(fr:List (Nat×DV)),(⟨fr,(id,.arr ty xs ver true d)::s.st,s.nx⟩:St).obj=af s.obj id (.arr ty xs ver true d):=by
      intro fr
      funext i
      rw[aR]
      show ac ((id,Ob.arr ty xs ver true d)::s.st) i=_
      rw[show(id,Ob.arr ty xs ver true d)::s.st=[(id,Ob.arr ty xs ver true d)]++s.st from rfl,bZ]
      cases ac [(id,Ob.arr ty xs ver true d)] i<;>rfl
     have e0:(⟨s.den.tmp,af s.den.obj id (.arr ty xs ver true d)⟩:FSt)=(⟨s.fr,(id,.arr ty xs ver true d)::s.st,s.nx⟩:St).den:=by
      unfold St.den
      rw[FSt.mk.injEq]
      exact⟨rfl,(hobj s.fr).symm⟩
     rw[e0]at hs
     refine⟨⟨I',M,hs.below,hs.i00,hs.i0lt,hs.ilt,hs.idiv,λid2 b c h1 h2=>hs.own id2 b c (by
      show(⟨s.fr,(id,.arr ty xs ver true d)::s.st,s.nx⟩:St).obj id2≠none
      have h1:(⟨(t,.v ag (bA cs j (.sl .any ty xs)))::s.fr,(id,.arr ty xs ver true d)::s.st,s.nx⟩:St).obj id2≠none:=h1
      rw[hobj]at h1⊢
      exact h1) h2,λk m hk=>(by
      have:=hs.rts k m hk
      exact this),hs.size,hs.defers,λu=> ?_,hs.objs,hs.inj,hs.gw,hs.gx,hs.vir⟩, ?_⟩
     ·show hU ⟨w0.heap.size,I0,I',M,(⟨s.fr,(id,.arr ty xs ver true d)::s.st,s.nx⟩:St).obj,w⟩ ((ac ((t,DV.v ag (bA cs j (.sl .any ty xs)))::s.fr) u).getD cA) _
      have hold:=hs.tmps u
      simp only[ac]
      cases hb2:Nat.beq t u with
      |false=>exact hold
      |true=>
       have:=Nat.eq_of_beq_eq_true hb2
       subst this
       have hold':hU ⟨w0.heap.size,I0,I',M,(⟨s.fr,(id,.arr ty xs ver true d)::s.st,s.nx⟩:St).obj,w⟩ (s.tmp t) (a.tmps.getD t undef):=hold
       rw[ht]at hold'
       refine u7 hold' hcj λu hu=> ?_
       exact Kd (s:=⟨s.fr,(id,.arr ty xs ver true d)::s.st,s.nx⟩) (f:=true) (d:=d) hs hu (by rw[hobj];exact if_pos rfl) hIb
     ·intro id2 hid
      rw[hobj]at hid
      by_cases e:id2=id
      ·subst e
       exact hb id2 (by rw[ho];simp)
      ·simp only[af,if_neg e]at hid
       exact hb id2 hid
    ·exact⟨h,hb⟩
   ·exact⟨h,hb⟩
  ·rename_i p ty xs hcj
   obtain⟨I,M,hs⟩:=h
   refine⟨⟨I,M,hs.below,hs.i00,hs.i0lt,hs.ilt,hs.idiv,hs.own,hs.rts,hs.size,hs.defers,λu=> ?_,hs.objs,hs.inj,hs.gw,hs.gx,hs.vir⟩,hb⟩
   show hU ⟨w0.heap.size,I0,I,M,s.obj,w⟩ ((ac ((t,DV.v ag (bA cs j (.sl .any ty xs)))::s.fr) u).getD cA) _
   have hold:=hs.tmps u
   simp only[ac]
   cases hb2:Nat.beq t u with
   |false=>exact hold
   |true=>
    have:=Nat.eq_of_beq_eq_true hb2
    subst this
    have hold':hU ⟨w0.heap.size,I0,I,M,s.obj,w⟩ (s.tmp t) (a.tmps.getD t undef):=hold
    rw[ht]at hold'
    exact u7 hold' hcj λu hu=>RepC.mono hu (λ_ _=>rfl) λb hb=>PF hs.i00 p b hb
  ·rename_i id ver lo hi hcj
   split
   ·rename_i ty xs ver' f d ho
    split
    ·rename_i hv
     have hv:=Nat.eq_of_beq_eq_true hv
     subst hv
     obtain⟨I,M,h⟩:=h
     obtain⟨I',hI,hIb,hext,hs⟩:=h.freeze ho
     have hobj:∀(fr:List (Nat×DV)),(⟨fr,(id,.arr ty xs ver true d)::s.st,s.nx⟩:St).obj=af s.obj id (.arr ty xs ver true d):=by
      intro fr
      funext i
      rw[aR]
      show ac ((id,Ob.arr ty xs ver true d)::s.st) i=_
      rw[show(id,Ob.arr ty xs ver true d)::s.st=[(id,Ob.arr ty xs ver true d)]++s.st from rfl,bZ]
      cases ac [(id,Ob.arr ty xs ver true d)] i<;>rfl
     have e0:(⟨s.den.tmp,af s.den.obj id (.arr ty xs ver true d)⟩:FSt)=(⟨s.fr,(id,.arr ty xs ver true d)::s.st,s.nx⟩:St).den:=by
      unfold St.den
      rw[FSt.mk.injEq]
      exact⟨rfl,(hobj s.fr).symm⟩
     rw[e0]at hs
     refine⟨⟨I',M,hs.below,hs.i00,hs.i0lt,hs.ilt,hs.idiv,λid2 b c h1 h2=>hs.own id2 b c (by
      show(⟨s.fr,(id,.arr ty xs ver true d)::s.st,s.nx⟩:St).obj id2≠none
      have h1:(⟨(t,.v ag (bA cs j (.sl .any ty ((xs.take hi).drop lo))))::s.fr,(id,.arr ty xs ver true d)::s.st,s.nx⟩:St).obj id2≠none:=h1
      rw[hobj]at h1⊢
      exact h1) h2,λk m hk=>(by
      have:=hs.rts k m hk
      exact this),hs.size,hs.defers,λu=> ?_,hs.objs,hs.inj,hs.gw,hs.gx,hs.vir⟩, ?_⟩
     ·show hU ⟨w0.heap.size,I0,I',M,(⟨s.fr,(id,.arr ty xs ver true d)::s.st,s.nx⟩:St).obj,w⟩ ((ac ((t,DV.v ag (bA cs j (.sl .any ty ((xs.take hi).drop lo))))::s.fr) u).getD cA) _
      have hold:=hs.tmps u
      simp only[ac]
      cases hb2:Nat.beq t u with
      |false=>exact hold
      |true=>
       have:=Nat.eq_of_beq_eq_true hb2
       subst this
       have hold':hU ⟨w0.heap.size,I0,I',M,(⟨s.fr,(id,.arr ty xs ver true d)::s.st,s.nx⟩:St).obj,w⟩ (s.tmp t) (a.tmps.getD t undef):=hold
       rw[ht]at hold'
       refine u7 hold' hcj λu hu=> ?_
       have hob:(⟨s.fr,(id,.arr ty xs ver true d)::s.st,s.nx⟩:St).obj id=some (.arr ty xs ver true d):=by rw[hobj];exact if_pos rfl
       obtain⟨t1,xs1,v1,f1,d1,g1,g2,g3,g4⟩:=hu
       simp only[]at g1 g3
       rw[hob]at g1;cases g1
       obtain⟨⟨hlo,hhi⟩,p,cap,hown,rfl⟩:=g3 rfl
       have hsl:=Kd (s:=⟨s.fr,(id,.arr ty xs ver true d)::s.st,s.nx⟩) (f:=true) (d:=d) (v:= .slice p xs.length cap) hs ⟨ty,xs,ver,true,d,hob,Nat.le_refl _,λ_=>hown,rfl⟩ hob hIb
       obtain⟨p',cap',e1,_,_,hrep⟩:=wj hsl hlo hhi
       cases e1
       exact hrep
     ·intro id2 hid
      rw[hobj]at hid
      by_cases e:id2=id
      ·subst e
       exact hb id2 (by rw[ho];simp)
      ·simp only[af,if_neg e]at hid
       exact hb id2 hid
    ·exact⟨h,hb⟩
   ·exact⟨h,hb⟩
  ·exact⟨h,hb⟩
 ·exact⟨h,hb⟩
theorem Fe {I:Nat→Prop}{M:MF}(hs:SimX w0 mo n I0 I M s.den a w)(hb:ce s){id j:Nat}{cs:List DC}(ho:s.obj id=some (.box cs)){c c':DC}(hcj:cs[j]? =some c)
  (hr0:∀u,aA ⟨w0.heap.size,I0,I,M,af s.obj id (.box (bA cs j c')),w⟩ c u→aA ⟨w0.heap.size,I0,I,M,af s.obj id (.box (bA cs j c')),w⟩ c' u):
  SimX w0 mo n I0 I M (⟨s.fr,(id,.box (bA cs j c'))::s.st,s.nx⟩:St).den a w∧ce ⟨s.fr,(id,.box (bA cs j c'))::s.st,s.nx⟩:=by
 have hobj:(⟨s.fr,(id,.box (bA cs j c'))::s.st,s.nx⟩:St).obj=af s.obj id (.box (bA cs j c')):=by
  funext i
  rw[aR]
  show ac ((id,Ob.box (bA cs j c'))::s.st) i=_
  rw[show(id,Ob.box (bA cs j c'))::s.st=[(id,Ob.box (bA cs j c'))]++s.st from rfl,bZ]
  cases ac [(id,Ob.box (bA cs j c'))] i<;>rfl
 have e0:(⟨s.fr,(id,.box (bA cs j c'))::s.st,s.nx⟩:St).den=(⟨s.den.tmp,af s.den.obj id (.box (bA cs j c'))⟩:FSt):=by
  unfold St.den
  rw[FSt.mk.injEq]
  exact⟨rfl,hobj⟩
 have hsome:∀i,af s.obj id (.box (bA cs j c')) i≠none→s.obj i≠none:=by
  intro i hi
  by_cases e:i=id
  ·subst e;rw[ho];simp
  ·simp only[af,if_neg e]at hi;exact hi
 have hext:Ext ⟨w0.heap.size,I0,I,M,s.obj,w⟩ ⟨w0.heap.size,I0,I,M,af s.obj id (.box (bA cs j c')),w⟩:=by
  refine⟨rfl,rfl,hs.i00,λ_ h=>h,λ_ _=>rfl,λi cs' hi=>⟨?_,rfl⟩,λi t xs v f d hi=> ?_,λi t xs v k hi=> ?_⟩
  ·by_cases e:i=id
   ·exact⟨_,if_pos e⟩
   ·exact⟨cs',by simp only[af,if_neg e];exact hi⟩
  ·by_cases e:i=id
   ·subst e
    have hi:s.obj i=_:=hi
    rw[ho]at hi;cases hi
   ·exact⟨t,xs,v,f,d,by simp only[af,if_neg e];exact hi,Nat.le_refl _,λ_=>⟨rfl,rfl,rfl⟩⟩
  ·have e:i≠id:=by
    rintro rfl
    have hi:s.obj i=_:=hi
    rw[ho]at hi;cases hi
   exact⟨_,by simp only[af,if_neg e];exact hi,.same rfl rfl⟩
 have hdar:∀i,isDar (af s.obj id (.box (bA cs j c')) i)=true→isDar (s.obj i)=true:=by
  intro i hi
  by_cases e:i=id
  ·simp only[af,if_pos e]at hi;cases hi
  ·simpa only[af,if_neg e]using hi
 rw[e0]
 refine⟨⟨hs.below,hs.i00,hs.i0lt,hs.ilt,hs.idiv,λi b c h1 h2=>hs.own i b c (hsome i h1) h2,λk m hk=> ?_,hs.size,hs.defers,λu=>(hs.tmps u).ext hext,λi o hi=> ?_,λi i' b c c' h1 h2=>hs.inj i i' b c c' (hsome i h1) (hsome i' h2),hs.gw,hs.gx,hs.vir.keep (λi hi=>⟨hdar i hi,rfl⟩) (λ_ h=> .inl h) (λi b c hi hM i' k l c' hi' hn=>hs.vir.dis i' i k l b c' c (hdar i' hi') (hsome i hi) hn hM) (Nat.le_refl _)⟩,λi hi=> ?_⟩
 ·obtain⟨o,h1,h2⟩:=hs.rts k m hk
  by_cases e:k=id
  ·subst e
   have h1:s.obj k=_:=h1
   rw[ho]at h1;cases h1
   exact⟨_,if_pos rfl,h2⟩
  ·exact⟨o,by simp only[af,if_neg e];exact h1,h2⟩
 ·by_cases e:i=id
  ·subst e
   simp only[af,if_pos]at hi
   cases hi
   obtain⟨b,hM,hN,hlt,hI,hc,hf⟩:=(hs.objs i _ ho).ext hext rfl (Nat.le_refl _) (λ_ _ _=>⟨rfl,λh=>h⟩) rfl λ_ _ _ _ _ _=>rfl
   refine⟨b,hM,hN,hlt,hI,λq c hq=> ?_,λq hq=>hf q (by rw[xv]at hq;exact hq)⟩
   by_cases e:q=j
   ·subst e
    rw[Ia cs _ hcj]at hq
    cases hq
    obtain⟨u,hu,hr,h1⟩:=hc q _ hcj
    exact⟨u,hu,hr0 u hr,h1⟩
   ·rw[H9 cs _ e]at hq
    exact hc q c hq
  ·simp only[af,if_neg e]at hi
   exact(hs.objs i o hi).ext hext rfl (Nat.le_refl _) (λ_ _ _=>⟨rfl,λh=>h⟩) rfl λ_ _ _ _ _ _=>rfl
 ·rw[hobj]at hi
  exact hb i (hsome i hi)
theorem Ey (h:ui w0 mo n I0 s.den a w)(hb:ce s)(id j:Nat):ui w0 mo n I0 (s.softO id j).den a w∧ce (s.softO id j):=by
 simp only[St.softO]
 split
 ·rename_i cs ho
  split
  ·rename_i p ty xs hcj
   obtain⟨I,M,hs⟩:=h
   obtain⟨h1,h2⟩:=Fe hs hb ho hcj (c':= .sl .any ty xs) λu hr=>RepC.mono hr (λ_ _=>rfl) λb hb=>PF hs.i00 p b hb
   exact⟨⟨I,M,h1⟩,h2⟩
  ·rename_i id2 ver hcj
   split
   ·rename_i ty xs ver' f d ho2
    split
    ·rename_i hv
     have hv:=Nat.eq_of_beq_eq_true hv
     subst hv
     obtain⟨I,M,h⟩:=h
     obtain⟨I',hI,hIb,hext,hs⟩:=h.freeze ho2
     have hne:id≠id2:=by rintro rfl;rw[ho]at ho2;cases ho2
     have hobj:∀(fr:List (Nat×DV)),(⟨fr,(id2,.arr ty xs ver true d)::s.st,s.nx⟩:St).obj=af s.obj id2 (.arr ty xs ver true d):=by
      intro fr
      funext i
      rw[aR]
      show ac ((id2,Ob.arr ty xs ver true d)::s.st) i=_
      rw[show(id2,Ob.arr ty xs ver true d)::s.st=[(id2,Ob.arr ty xs ver true d)]++s.st from rfl,bZ]
      cases ac [(id2,Ob.arr ty xs ver true d)] i<;>rfl
     have e0:(⟨s.den.tmp,af s.den.obj id2 (.arr ty xs ver true d)⟩:FSt)=(⟨s.fr,(id2,.arr ty xs ver true d)::s.st,s.nx⟩:St).den:=by
      unfold St.den
      rw[FSt.mk.injEq]
      exact⟨rfl,(hobj s.fr).symm⟩
     rw[e0]at hs
     have hb1:ce (⟨s.fr,(id2,.arr ty xs ver true d)::s.st,s.nx⟩:St):=by
      intro i hid
      rw[hobj]at hid
      by_cases e:i=id2
      ·subst e;exact hb i (by rw[ho2];simp)
      ·simp only[af,if_neg e]at hid;exact hb i hid
     have ho1:(⟨s.fr,(id2,.arr ty xs ver true d)::s.st,s.nx⟩:St).obj id=some (.box cs):=by rw[hobj];simp only[af,if_neg hne];exact ho
     have hob2:(⟨s.fr,(id2,.arr ty xs ver true d)::s.st,s.nx⟩:St).obj id2=some (.arr ty xs ver true d):=by rw[hobj];exact if_pos rfl
     obtain⟨h1,h2⟩:=Fe hs hb1 ho1 hcj (c':= .sl .any ty xs) λu hr=>by
      obtain⟨t1,xs1,v1,f1,d1,g1,g2,g3,g4⟩:=hr
      simp only[af,if_neg (Ne.symm hne)]at g1
      exact Kd (s:=⟨s.fr,(id2,.arr ty xs ver true d)::s.st,s.nx⟩) (f:=true) (d:=d) hs ⟨t1,xs1,v1,f1,d1,g1,g2,g3,g4⟩ hob2 hIb
     exact⟨⟨I',M,h1⟩,h2⟩
    ·exact⟨h,hb⟩
   ·exact⟨h,hb⟩
  ·exact⟨h,hb⟩
 ·exact⟨h,hb⟩
def PI (id:Nat)(o:Ob)(c:DC):Prop:=(∃ty,o= .arr ty [] 0 false true∧c= .own id 0)∨∃ty,o= .dar ty [] 0 0∧c= .down id 0
theorem Ib (h:ui w0 mo n I0 s.den a w)(hb:ce s){o:Ob}{c:DC}(hk:PI s.nx o c):
  ∃I M,SimX w0 mo n I0 I M (⟨s.fr,(s.nx,o)::s.st,s.nx+1⟩:St).den a w∧ce ⟨s.fr,(s.nx,o)::s.st,s.nx+1⟩∧∀obj',obj' s.nx=some o→∀x u,aA x .nil u→aA ⟨w0.heap.size,I0,I,M,obj',w⟩ c u:=by
 have hfresh:s.obj s.nx=none:=by
  cases ho:s.obj s.nx with
  |none=>rfl
  |some o=>have:=hb s.nx (by rw[ho];simp);omega
 have hobj:(⟨s.fr,(s.nx,o)::s.st,s.nx+1⟩:St).obj=af s.obj s.nx o:=by
  funext i
  rw[aR]
  show ac ((s.nx,o)::s.st) i=_
  rw[show(s.nx,o)::s.st=[(s.nx,o)]++s.st from rfl,bZ]
  cases ac [(s.nx,o)] i<;>rfl
 have e0:(⟨s.fr,(s.nx,o)::s.st,s.nx+1⟩:St).den=⟨s.den.tmp,af s.den.obj s.nx o⟩:=by
  unfold St.den
  rw[FSt.mk.injEq]
  exact⟨rfl,hobj⟩
 have hbd:ce (⟨s.fr,(s.nx,o)::s.st,s.nx+1⟩:St):=by
  intro id hid
  rw[hobj]at hid
  show id<s.nx+1
  by_cases e:id=s.nx
  ·omega
  ·simp only[af,if_neg e]at hid
   have:=hb id hid;omega
 rw[e0]
 obtain⟨I,M,h⟩:=h
 rcases hk with⟨ty,rfl,rfl⟩|⟨ty,rfl,rfl⟩
 ·obtain⟨hext,hs⟩:=h.add hfresh (o:= .arr ty [] 0 false true) (m:=none) (λ_ _ _ _ _ _ hm=>by cases hm) (λ_ _ hm=>by cases hm) (λ_ _ _ _ _ _ _ _ hm=>by cases hm) rfl (λ_=> .inl ⟨by simp only[bp,if_pos],rfl⟩)
  refine⟨I,_,hs,hbd,λobj' ho x u hu=> ?_⟩
  simp only[aA]at hu
  subst hu
  exact⟨ty,[],0,false,true,ho,Nat.le_refl _,λ_=>by simp only[bp,if_pos];exact⟨none,rfl⟩,rfl⟩
 ·obtain⟨hext,hs⟩:=h.dput (id:=s.nx) (t':=ty) (xs':=[]) (ver':=0) (iv':=0) (m:=none) (n':=λ_ _=>none) (w':=w) (by show Jr _ _ _ _ _ _ _ (s.obj s.nx);rw[hfresh];trivial) (λ_ _ _=>rfl) (Nat.le_refl _) rfl rfl rfl (λ_ _ hm=>by cases hm) (λ_ _ _ _ hm=>by cases hm) (λ_ _ _ _ _ _ _ hm=>by cases hm) (λ_ _ _ _ _ hm=>by cases hm)
   (λ_=> .inl ⟨by simp only[aE,if_pos],rfl⟩)
  refine⟨I,_,hs,hbd,λobj' ho x u hu=> ?_⟩
  simp only[aA]at hu
  subst hu
  exact⟨rfl,_,ho,Nat.le_refl _,λ_=>by simp only[aE,if_pos];exact⟨none,rfl⟩⟩
theorem Ql {cs:List DC}{j:Nat}(hn:yG cs[j]? =true):cs[j]? =some .nil:=by
 revert hn
 cases cs[j]? with
 |none=>intro h;cases h
 |some c=>cases c<;>intro h<;>first|rfl|cases h
theorem AK (h:ui w0 mo n I0 s.den a w)(hb:ce s){t j:Nat}{ag:Bool}{cs:List DC}(ht:s.tmp t= .v ag cs)(hn:yG cs[j]? =true){o:Ob}{c:DC}(hk:PI s.nx o c):
  ui w0 mo n I0 (⟨(t,.v ag (bA cs j c))::s.fr,(s.nx,o)::s.st,s.nx+1⟩:St).den a w∧ce ⟨(t,.v ag (bA cs j c))::s.fr,(s.nx,o)::s.st,s.nx+1⟩:=by
 obtain⟨I,M,hs,hbd,hc⟩:=Ib h hb hk
 have hat:(⟨s.fr,(s.nx,o)::s.st,s.nx+1⟩:St).obj s.nx=some o:=by
  show ac ((s.nx,o)::s.st) s.nx=_
  simp[ac]
 refine⟨⟨I,M,hs.below,hs.i00,hs.i0lt,hs.ilt,hs.idiv,hs.own,hs.rts,hs.size,hs.defers,λu=> ?_,hs.objs,hs.inj,hs.gw,hs.gx,hs.vir⟩,hbd⟩
 have hold:=hs.tmps u
 show hU ⟨w0.heap.size,I0,I,M,(⟨s.fr,(s.nx,o)::s.st,s.nx+1⟩:St).obj,w⟩ ((ac ((t,DV.v ag (bA cs j c))::s.fr) u).getD cA) _
 simp only[ac]
 cases hb2:Nat.beq t u with
 |false=>exact hold
 |true=>
  have:=Nat.eq_of_beq_eq_true hb2
  subst this
  have hold':hU ⟨w0.heap.size,I0,I,M,(⟨s.fr,(s.nx,o)::s.st,s.nx+1⟩:St).obj,w⟩ (s.tmp t) (a.tmps.getD t undef):=hold
  rw[ht]at hold'
  exact Md hold' hn λu hu=>hc _ hat _ u hu
theorem AL (h:ui w0 mo n I0 s.den a w)(hb:ce s){id j:Nat}{cs:List DC}(ho:s.obj id=some (.box cs))(hn:yG cs[j]? =true){o:Ob}{c:DC}(hk:PI s.nx o c):
  ui w0 mo n I0 (⟨s.fr,(s.nx,o)::(id,.box (bA cs j c))::s.st,s.nx+1⟩:St).den a w∧ce ⟨s.fr,(s.nx,o)::(id,.box (bA cs j c))::s.st,s.nx+1⟩:=by
 have hne:id≠s.nx:=by
  rintro rfl
  have:=hb s.nx (by rw[ho];simp)
  omega
 have hnb:Nat.beq s.nx id=false:=by
  cases hb3:Nat.beq s.nx id with
  |false=>rfl
  |true=>exact absurd (Nat.eq_of_beq_eq_true hb3).symm hne
 obtain⟨I,M,hs,hbd,hc⟩:=Ib h hb hk
 have ho1:(⟨s.fr,(s.nx,o)::s.st,s.nx+1⟩:St).obj id=some (.box cs):=by
  show ac ((s.nx,o)::s.st) id=_
  simp only[ac,hnb]
  exact ho
 have hat:(⟨s.fr,(s.nx,o)::s.st,s.nx+1⟩:St).obj s.nx=some o:=by
  show ac ((s.nx,o)::s.st) s.nx=_
  simp[ac]
 obtain⟨h1,h2⟩:=Fe hs hbd ho1 (Ql hn) (c':=c) λu hu=>hc _ (by simp only[af,if_neg (Ne.symm hne)];exact hat) _ u hu
 have hobj:(⟨s.fr,(s.nx,o)::(id,.box (bA cs j c))::s.st,s.nx+1⟩:St).obj=(⟨s.fr,(id,.box (bA cs j c))::(s.nx,o)::s.st,s.nx+1⟩:St).obj:=by
  funext i
  show ac ((s.nx,o)::(id,.box (bA cs j c))::s.st) i=ac ((id,.box (bA cs j c))::(s.nx,o)::s.st) i
  simp only[ac]
  cases hb3:Nat.beq s.nx i with
  |false=>rfl
  |true=>
   have e:=Nat.eq_of_beq_eq_true hb3
   have:Nat.beq id i=false:=by
    cases hb4:Nat.beq id i with
    |false=>rfl
    |true=>exact absurd ((Nat.eq_of_beq_eq_true hb4).trans e.symm) hne
   rw[this]
 refine⟨B2 ⟨I,M,h1⟩ (λi=>congrFun hobj i) (λ_=> .inl rfl),λi hi=> ?_⟩
 rw[hobj]at hi
 exact h2 i hi
theorem Jm (h:ui w0 mo n I0 s.den a w)(hb:ce s)(x:NL):ui w0 mo n I0 (s.ownNil x).den a w∧ce (s.ownNil x):=by
 cases x with
 |soft t j=>exact M7 h hb t j
 |softo id j=>exact Ey h hb id j
 |softb t j=>
  simp only[St.ownNil]
  split
  ·exact Ey h hb _ j
  ·exact⟨h,hb⟩
 |tmp t j ty=>
  simp only[St.ownNil]
  split
  ·rename_i ag cs ht
   split
   ·rename_i hn
    exact AK h hb ht hn (.inl ⟨ty,rfl,rfl⟩)
   ·exact⟨h,hb⟩
  ·exact⟨h,hb⟩
 |dtmp t j ty=>
  simp only[St.ownNil]
  split
  ·rename_i ag cs ht
   split
   ·rename_i hn
    exact AK h hb ht hn (.inr ⟨ty,rfl,rfl⟩)
   ·exact⟨h,hb⟩
  ·exact⟨h,hb⟩
 |box t j ty=>
  simp only[St.ownNil]
  split
  ·split
   ·rename_i cs ho
    split
    ·rename_i hn
     exact AL h hb ho hn (.inl ⟨ty,rfl,rfl⟩)
    ·exact⟨h,hb⟩
   ·exact⟨h,hb⟩
  ·exact⟨h,hb⟩
 |dbox t j ty=>
  simp only[St.ownNil]
  split
  ·split
   ·rename_i cs ho
    split
    ·rename_i hn
     exact AL h hb ho hn (.inr ⟨ty,rfl,rfl⟩)
    ·exact⟨h,hb⟩
   ·exact⟨h,hb⟩
  ·exact⟨h,hb⟩
theorem rX:∀(l:List NL) {s:St},ui w0 mo n I0 s.den a w→ce s→ui w0 mo n I0 (mM l s).den a w∧ce (mM l s)
 |[],_,h,hb=>⟨h,hb⟩
 |x::r,_,h,hb=>by
  obtain⟨h1,h2⟩:=Jm h hb x
  exact rX r h1 h2
theorem wR (l:List (Nat×Ob))(i:Nat):ac (l.map λp=>(p.1,p.2.shallow)) i=(ac l i).map Ob.shallow:=by
 induction l with
 |nil=>rfl
 |cons p l ih=>
  obtain⟨j,o⟩:=p
  simp only[List.map_cons,ac]
  cases Nat.beq j i with
  |true=>rfl
  |false=>exact ih
theorem Hr (h:ui w0 mo n I0 s.den a w):ui w0 mo n I0 s.shallow.den a w:=by
 obtain⟨I,M,h⟩:=h
 have hobj:s.shallow.obj=λid=>(s.obj id).map Ob.shallow:=by
  funext i
  exact wR s.st i
 have hext:Ext (ax w0 I0 I M s.den w) ⟨w0.heap.size,I0,I,M,λid=>(s.obj id).map Ob.shallow,w⟩:=by
  refine⟨rfl,rfl,h.i00,λ_ hb=>hb,λ_ _=>rfl,λi cs hi=> ?_,λi t xs v f d hi=> ?_,λi t xs v k hi=> ?_⟩
  ·have hi':s.obj i=some (.box cs):=hi
   exact⟨⟨cs,by simp only[hi',Option.map_some,Ob.shallow]⟩,rfl⟩
  ·have hi':s.obj i=some (.arr t xs v f d):=hi
   exact⟨t,xs,v,f,false,by simp only[hi',Option.map_some,Ob.shallow],Nat.le_refl _,λ_=>⟨rfl,rfl,rfl⟩⟩
  ·have hi':s.obj i=some (.dar t xs v k):=hi
   exact⟨.dar t xs v k,by simp only[hi',Option.map_some,Ob.shallow],.same rfl rfl⟩
 have hlive:∀i,(s.obj i).map Ob.shallow≠none→s.den.obj i≠none:=by
  intro i hi hc
  apply hi
  have:s.obj i=none:=hc
  simp only[this,Option.map_none]
 have hdar:∀i,isDar ((s.obj i).map Ob.shallow)=true→isDar (s.den.obj i)=true:=by
  intro i hi
  show isDar (s.obj i)=true
  cases ho:s.obj i with
  |none=>rw[ho]at hi;cases hi
  |some o=>
   rw[ho]at hi
   cases o with
   |dar _ _ _ _=>rfl
   |box _=>cases hi
   |arr _ _ _ _ _=>cases hi
 have:=h.turn (I':=I) (M':=M) (obj':=λid=>(s.obj id).map Ob.shallow) (w':=w) hext (BelowX.refl _ _ _) h.ilt h.idiv (λi b c hi hM=>h.own i b c (by intro hc;apply hi;have:s.obj i=none:=hc;simp only[this,Option.map_none]) hM) (by
  intro i o hi
  cases ho:s.obj i with
  |none=>simp only[ho,Option.map_none]at hi;cases hi
  |some o0=>
   simp only[ho,Option.map_some,Option.some.injEq]at hi
   subst hi
   have hr:=(h.objs i o0 ho).ext hext rfl (Nat.le_refl _) (λb cap _=>⟨rfl,λy=>y⟩) rfl λ_ _ _ _ _ _=>rfl
   cases o0 with
   |box cs=>exact hr
   |dar t xs v iv=>exact hr
   |arr t xs v f d=>
    rcases hr with h1|⟨b,cap,g1,g2,g3,g4,g5,g6,g7,g8⟩
    ·exact .inl h1
    ·refine .inr ⟨b,cap,g1,(λhc=>by cases hc),g3,g4,g5,g6,g7,λi e j c he hc=> ?_⟩
     obtain⟨u,hu,hru⟩:=g8 i e j c he hc
     exact⟨u,hu,hru.weaken (by cases d<;>simp)⟩) (by
  intro i i' b c c' h1 h2
  refine h.inj i i' b c c' ?_ ?_
  ·intro hc;apply h1;have:s.obj i=none:=hc;simp only[this,Option.map_none]
  ·intro hc;apply h2;have:s.obj i'=none:=hc;simp only[this,Option.map_none])
  (h.vir.keep (λi hi=>⟨hdar i hi,rfl⟩) (λ_ hb=> .inl hb) (λi b c hi hM i' k l c' hi' hn=>h.vir.dis i' i k l b c' c (hdar i' hi') (hlive i hi) hn hM) (Nat.le_refl _))
 refine⟨I,M, ?_⟩
 have e1:s.shallow.den=⟨s.den.tmp,λid=>(s.obj id).map Ob.shallow⟩:=by
  unfold St.den
  rw[hobj]
  rfl
 rw[e1]
 exact this
theorem IJ (h:ui w0 mo n I0 s.den a w)(hb:ce s)(K:Keep)(hr:K.roots=mo.length)(hlen:mo.length≤10000):ui w0 mo n I0 (s.norm K).den a w:=by
 have h1:=L9 (rX K.nils h hb).1 K.ts hlen
 rw[←hr]at h1
 unfold St.norm
 cases K.shal with
 |true=>exact Hr h1
 |false=>exact h1
theorem nE (K:Keep):∀id,(s.norm K).obj id≠none→id<(s.norm K).nx:=by
 intro id hid
 unfold St.norm at hid⊢
 cases hk:K.shal with
 |true=>
  rw[hk]at hid
  refine yQ (s:=mM K.nils s) K.roots K.ts id ?_
  intro hc
  apply hid
  show ac _ id=none
  simp only[St.shallow]
  rw[wR]
  have:ac ((mM K.nils s).norm0 K.roots K.ts).st id=none:=hc
  rw[this];rfl
 |false=>rw[hk]at hid;exact yQ K.roots K.ts id hid
end
end Go.Proofs.YtffjmkhjhchnmaaGreat
