/- Arrays whose elements hold arrays of their own. -/
import Derived.Test.YtffjmkhjhchnmaaGreatLay
set_option linter.unusedVariables false
set_option linter.unusedSimpArgs false
namespace Go.Proofs.YtffjmkhjhchnmaaGreat
open Go Go.RowKit
structure FreeB (w0:World)(I:Nat→Prop)(M:MF)(obj:Nat→Option Ob)(N:Nat)(b:Nat):Prop where
 lo:w0.heap.size≤b
 hi:b<N
 ni:¬I b
 m:∀i c,obj i≠none→M i≠some (b,c)
 n:∀i j k c,isDar (obj i)=true→M.n i j k≠some (b,c)
def aE (M:MF)(id:Nat)(m:Option (Nat×Nat))(n':Nat→Nat→Option (Nat×Nat)):MF:=⟨λi=>if i=id then m else M i,λi=>if i=id then n' else M.n i⟩
def Jr (M:MF)(id:Nat){t':Ty}(xs':List t'.T)(ver' iv':Nat)(m:Option (Nat×Nat))(n':Nat→Nat→Option (Nat×Nat)):Option Ob→Prop
 |none=>True
 |some (.dar t xs ver iv)=>ver≤ver'∧iv≤iv'∧(ver=ver'→t'=t∧xs'.length=xs.length∧m=M id)∧(iv=iv'→ver=ver'∧n'=M.n id∧jA xs xs')
 |_=>False
section
variable {α:Type} {C:Nat→List PV→List MO→cS→List MO→Prop} {w0:World} {mo:gj} {n:Nat} {I0 I:Nat→Prop} {M:MF} {s:FSt} {a:Act} {w:World} {te:TE} {P:Program} {base:Nat} {e:Eff} {o:Oper}
theorem SimX.dput (h:SimX w0 mo n I0 I M s a w){id:Nat}{t':Ty}{xs':List t'.T}{ver' iv':Nat}{m:Option (Nat×Nat)}{n':Nat→Nat→Option (Nat×Nat)}{w':World}(hold:Jr M id xs' ver' iv' m n' (s.obj id))
  (hw:∀b,b<w.heap.size→(∀c,s.obj id≠none→M id≠some (b,c))→w'.heap[b]? =w.heap[b]?)(hsz:w.heap.size≤w'.heap.size)(hos:w'.os=w.os)(htape:w'.tape=w.tape)(hout:w'.output=w.output)
  (hm:∀b c,m=some (b,c)→FreeB w0 I M s.obj w'.heap.size b∨(s.obj id≠none∧∃c',M id=some (b,c')))
  (hn:∀i j b c,n' i j=some (b,c)→FreeB w0 I M s.obj w'.heap.size b∨(s.obj id≠none∧∃i' j' c',M.n id i' j'=some (b,c')))
  (hnn:∀i j i' j' b c c',n' i j=some (b,c)→n' i' j'=some (b,c')→i=i'∧j=j')(hmn:∀i j b c c',n' i j=some (b,c)→m=some (b,c')→False)
  (hO:∀(_:Ext (ax w0 I0 I M s w) ⟨w0.heap.size,I0,I,aE M id m n',af s.obj id (.dar t' xs' ver' iv'),w'⟩),xS ⟨w0.heap.size,I0,I,aE M id m n',af s.obj id (.dar t' xs' ver' iv'),w'⟩ id (.dar t' xs' ver' iv')):
  Ext (ax w0 I0 I M s w) ⟨w0.heap.size,I0,I,aE M id m n',af s.obj id (.dar t' xs' ver' iv'),w'⟩∧SimX w0 mo n I0 I (aE M id m n') ⟨s.tmp,af s.obj id (.dar t' xs' ver' iv')⟩ a w':=by
 have hdar:∀o,s.obj id=some o→∃t xs ver iv,o= .dar t xs ver iv:=by
  intro o ho
  rw[ho]at hold
  cases o with
  |dar t xs ver iv=>exact⟨t,xs,ver,iv,rfl⟩
  |box _=>exact hold.elim
  |arr _ _ _ _ _=>exact hold.elim
 have hnI:∀b c,s.obj id≠none→M id=some (b,c)→¬I b:=by
  intro b c hne hM hI
  cases ho:s.obj id with
  |none=>exact hne ho
  |some o=>
   obtain⟨t,xs,ver,iv,rfl⟩:=hdar o ho
   rcases h.objs id _ ho with⟨h1,_⟩|⟨b',cap,h1,_,h2,_⟩
   ·simp only[]at h1;rw[hM]at h1;cases h1
   ·simp only[]at h1;rw[hM]at h1;cases h1;exact h2 hI
 have hI:∀b,I b→w'.heap[b]? =w.heap[b]? :=λb hb=>hw b (h.ilt b hb) λc hne hc=>hnI b c hne hc hb
 have hid:s.obj id≠none→isDar (s.obj id)=true:=by
  intro hne
  cases ho:s.obj id with
  |none=>exact absurd ho hne
  |some o=>obtain⟨t,xs,ver,iv,rfl⟩:=hdar o ho;rfl
 have hld:∀i,isDar (af s.obj id (.dar t' xs' ver' iv') i)=true→i≠id→isDar (s.obj i)=true:=by
  intro i hi hne
  simpa only[af,if_neg hne]using hi
 have hlive:∀i,af s.obj id (.dar t' xs' ver' iv') i≠none→i≠id→s.obj i≠none:=by
  intro i hi hne
  simpa only[af,if_neg hne]using hi
 have hext:Ext (ax w0 I0 I M s w) ⟨w0.heap.size,I0,I,aE M id m n',af s.obj id (.dar t' xs' ver' iv'),w'⟩:=by
  refine⟨rfl,rfl,h.i00,λ_ hb=>hb,hI,λi cs hi=> ?_,λi t xs v f d hi=> ?_,λi t xs v k hi=> ?_⟩
  ·have hne:i≠id:=by rintro rfl;obtain⟨_,_,_,_,e⟩:=hdar _ hi;cases e
   exact⟨⟨cs,by simp only[af,if_neg hne];exact hi⟩,by simp only[aE,if_neg hne]⟩
  ·have hne:i≠id:=by rintro rfl;obtain⟨_,_,_,_,e⟩:=hdar _ hi;cases e
   exact⟨t,xs,v,f,d,by simp only[af,if_neg hne];exact hi,Nat.le_refl _,λ_=>⟨rfl,rfl,by simp only[aE,if_neg hne]⟩⟩
  ·by_cases e:i=id
   ·subst e
    have hi:s.obj i=_:=hi
    rw[hi]at hold
    obtain⟨g1,g2,g3,g4⟩:=hold
    exact⟨.dar t' xs' ver' iv',by simp only[af,if_pos],g1,g2,λe=>by simp only[aE,if_pos];exact g3 e,λe=>by simp only[aE,if_pos];exact g4 e⟩
   ·exact⟨_,by simp only[af,if_neg e];exact hi,.same (by simp only[aE,if_neg e]) (by simp only[aE,if_neg e])⟩
 refine⟨hext,h.turn hext ⟨hos,htape,hout,hsz,λb hb hnx=>hw b (Nat.lt_of_lt_of_le hb h.below.size) λc hne hc=> ?_⟩ (λb hb=>Nat.lt_of_lt_of_le (h.ilt b hb) hsz) h.idiv (λi b c hi hM=> ?_) ?_ ?_ ⟨?_, ?_, ?_⟩⟩
 ·rcases(h.blk hne hc).1 with h1|h1
  ·omega
  ·exact hnx h1
 ·by_cases e:i=id
  ·simp only[aE,if_pos e]at hM
   rcases hm b c hM with h1|⟨h0,c',h1⟩
   ·exact .inl h1.lo
   ·rw[e];exact h.own id b c' h0 h1
  ·simp only[aE,if_neg e]at hM
   exact h.own i b c (hlive i hi e) hM
 ·intro i x hx
  by_cases e:i=id
  ·subst e
   simp only[af,if_pos]at hx
   cases hx
   exact hO hext
  ·simp only[af,if_neg e]at hx
   have hxn:s.obj i≠none:=by rw[hx];simp
   refine(h.objs i x hx).ext hext (by simp only[aE,if_neg e]) hsz (λb cap hb=>⟨hw b (h.blk hxn hb).2 λc hne hc=> ?_,λy=>y⟩) (by simp only[aE,if_neg e]) λhd k j b c hb=>hw b (h.vir.lt i k j b c (by rw[hx];exact hd) hb).2.1 λc' hne hc=>h.vir.dis i id k j b c c' (by rw[hx];exact hd) hne hb hc
   exact e (h.inj i id b cap c hxn hne hb hc)
 ·intro i j b c c' hi hj hb hb'
  by_cases ei:i=id<;>by_cases ej:j=id
  ·rw[ei,ej]
  ·exfalso
   simp only[aE,if_pos ei,if_neg ej]at hb hb'
   have hj':=hlive j hj ej
   rcases hm b c hb with h1|⟨h0,c2,h1⟩
   ·exact h1.m j c' hj' hb'
   ·exact ej (h.inj j id b c' c2 hj' h0 hb' h1)
  ·exfalso
   simp only[aE,if_pos ej,if_neg ei]at hb hb'
   have hi':=hlive i hi ei
   rcases hm b c' hb' with h1|⟨h0,c2,h1⟩
   ·exact h1.m i c hi' hb
   ·exact ei (h.inj i id b c c2 hi' h0 hb h1)
  ·simp only[aE,if_neg ei,if_neg ej]at hb hb'
   exact h.inj i j b c c' (hlive i hi ei) (hlive j hj ej) hb hb'
 ·intro i k j b c hi hb
  by_cases e:i=id
  ·simp only[aE,if_pos e]at hb
   rcases hn k j b c hb with h1|⟨h0,i',j',c',h1⟩
   ·exact⟨.inl h1.lo,h1.hi,h1.ni⟩
   ·obtain⟨h2,h3,h4⟩:=h.vir.lt id i' j' b c' (hid h0) h1
    exact⟨by rw[e];exact h2,Nat.lt_of_lt_of_le h3 hsz,h4⟩
  ·simp only[aE,if_neg e]at hb
   obtain⟨h2,h3,h4⟩:=h.vir.lt i k j b c (hld i hi e) hb
   exact⟨h2,Nat.lt_of_lt_of_le h3 hsz,h4⟩
 ·intro i i' k k' j j' b c c' hi hi' hb hb'
  by_cases ei:i=id<;>by_cases ej:i'=id
  ·simp only[aE,if_pos ei,if_pos ej]at hb hb'
   obtain⟨h1,h2⟩:=hnn k j k' j' b c c' hb hb'
   exact⟨by rw[ei,ej],h1,h2⟩
  ·exfalso
   simp only[aE,if_pos ei,if_neg ej]at hb hb'
   have hj':=hld i' hi' ej
   rcases hn k j b c hb with h1|⟨h0,i2,j2,c2,h1⟩
   ·exact h1.n i' k' j' c' hj' hb'
   ·exact ej (h.vir.inj i' id k' i2 j' j2 b c' c2 hj' (hid h0) hb' h1).1
  ·exfalso
   simp only[aE,if_pos ej,if_neg ei]at hb hb'
   have hi2:=hld i hi ei
   rcases hn k' j' b c' hb' with h1|⟨h0,i2,j2,c2,h1⟩
   ·exact h1.n i k j c hi2 hb
   ·exact ei (h.vir.inj i id k i2 j j2 b c c2 hi2 (hid h0) hb h1).1
  ·simp only[aE,if_neg ei,if_neg ej]at hb hb'
   exact h.vir.inj i i' k k' j j' b c c' (hld i hi ei) (hld i' hi' ej) hb hb'
 ·intro i i' k j b c c' hi hi' hb hb'
  by_cases ei:i=id<;>by_cases ej:i'=id
  ·simp only[aE,if_pos ei,if_pos ej]at hb hb'
   exact hmn k j b c c' hb hb'
  ·simp only[aE,if_pos ei,if_neg ej]at hb hb'
   have hj':=hlive i' hi' ej
   rcases hn k j b c hb with h1|⟨h0,i2,j2,c2,h1⟩
   ·exact h1.m i' c' hj' hb'
   ·exact h.vir.dis id i' i2 j2 b c2 c' (hid h0) hj' h1 hb'
  ·simp only[aE,if_pos ej,if_neg ei]at hb hb'
   have hi2:=hld i hi ei
   rcases hm b c' hb' with h1|⟨h0,c2,h1⟩
   ·exact h1.n i k j c hi2 hb
   ·exact h.vir.dis i id k j b c c2 hi2 h0 hb h1
  ·simp only[aE,if_neg ei,if_neg ej]at hb hb'
   exact h.vir.dis i i' k j b c c' (hld i hi ei) (hlive i' hi' ej) hb hb'
end
section
variable {α:Type} {C:Nat→List PV→List MO→cS→List MO→Prop} {w0:World} {mo:gj} {n:Nat} {I0 I:Nat→Prop} {M:MF} {s:FSt} {a:Act} {w:World} {te:TE} {P:Program} {base:Nat} {e:Eff} {o:Oper}
def pI (s:FSt)(u:List (Nat×Ob)):Prop:=(u.map (·.1)).Nodup∧∀p∈u,∃(t:Ty) (xs:List t.T) (ver:Nat),p.2= .arr t [] (ver+1) false true∧s.obj p.1=some (.arr t xs ver false true)
theorem Lc (h:SimX w0 mo n I0 I M s a w):∀{u:List (Nat×Ob)},pI s u→
  ∃M',Ext (ax w0 I0 I M s w) ⟨w0.heap.size,I0,I,M',bx s.obj u,w⟩∧SimX w0 mo n I0 I M' ⟨s.tmp,bx s.obj u⟩ a w∧(∀i,i∉u.map (·.1)→M' i=M i)∧(∀i,i∈u.map (·.1)→M' i=none)∧M'.n=M.n
 |[],_=>⟨M,Ext.refl h.i00,h,λ_ _=>rfl,by simp,rfl⟩
 |p::r,⟨hnd,hu⟩=>by
  rw[List.map_cons,List.nodup_cons]at hnd
  obtain⟨M1,hext1,hs1,g1,g2,g3⟩:=Lc h (u:=r) ⟨hnd.2,λq hq=>hu q (List.mem_cons_of_mem _ hq)⟩
  obtain⟨t,xs,ver,hp2,hob⟩:=hu p List.mem_cons_self
  have hob1:bx s.obj r p.1=some (.arr t xs ver false true):=by
   unfold bx;rw[dN hnd.1];exact hob
  obtain⟨hext2,hs2⟩:=hs1.redo (id:=p.1) hob1 (Nat.lt_succ_self ver) (t':=t) (xs':=[]) (d':=true) (m:=none) (w':=w) (λ_ _ _=>rfl) (Nat.le_refl _) rfl rfl rfl (by simp) (λ_=> .inl ⟨by simp only[bp,if_pos],rfl⟩)
  have e1:af (bx s.obj r) p.1 (.arr t [] (ver+1) false true)=bx s.obj (p::r):=by rw[←hp2];exact EE _ _ _
  rw[e1]at hext2 hs2
  refine⟨_,hext1.trans hext2,hs2,λi hi=> ?_,λi hi=> ?_,g3⟩
  ·simp only[List.map_cons,List.mem_cons,not_or]at hi
   simp only[bp,if_neg hi.1]
   exact g1 i hi.2
  ·simp only[bp]
   by_cases e:i=p.1
   ·rw[if_pos e]
   ·rw[if_neg e]
    simp only[List.map_cons,List.mem_cons]at hi
    exact g2 i (hi.resolve_left e)
theorem Mi (h:SimX w0 mo n I0 I M s a w){u:List (Nat×Ob)}(hu:pI s u){M':MF}(g1:∀i,i∉u.map (·.1)→M' i=M i)(g2:∀i,i∈u.map (·.1)→M' i=none)(g3:M'.n=M.n){p:Nat×Ob}(hp:p∈u){b c:Nat}(hb:M p.1=some (b,c)):
  FreeB w0 I M' (bx s.obj u) w.heap.size b:=by
 obtain⟨t,xs,ver,_,hob⟩:=hu.2 p hp
 have hpl:s.obj p.1≠none:=by rw[hob];simp
 have hpm:p.1∈u.map (·.1):=List.mem_map.2 ⟨p,hp,rfl⟩
 have hold:∀i,i∉u.map (·.1)→bx s.obj u i=s.obj i:=λi hi=>by unfold bx;rw[dN hi]
 rcases h.objs p.1 _ hob with⟨h1,_⟩|⟨b',cap,hM,hN,hlt,hI,_⟩
 ·simp only[]at h1;rw[hb]at h1;cases h1
 ·simp only[]at hM hN hlt hI
  rw[hb]at hM;cases hM
  refine⟨hN trivial,hlt,λhi=>(by have:=hI.1 hi;cases this),λi c' hi hM=> ?_,λi j k c' hi hM=> ?_⟩
  ·by_cases hm:i∈u.map (·.1)
   ·rw[g2 i hm]at hM;cases hM
   ·rw[g1 i hm]at hM
    rw[hold i hm]at hi
    have:=h.inj i p.1 b c' c hi hpl hM hb
    rw[this]at hm;exact hm hpm
  ·by_cases hm:i∈u.map (·.1)
   ·unfold bx at hi
    obtain⟨o,ho⟩:=IC hm
    obtain⟨q,hq,_,hq2⟩:=GE ho
    obtain⟨t',xs',v',h3,_⟩:=hu.2 q hq
    rw[ho,←hq2,h3]at hi;cases hi
   ·rw[hold i hm]at hi
    rw[g3]at hM
    exact h.vir.dis i p.1 j k b c' c hi hpl hM hb
theorem vD (h:SimX w0 mo n I0 I M s a w){N:Nat}(hN:w.heap.size<N):FreeB w0 I M s.obj N w.heap.size:=
 ⟨h.below.size,hN,λhi=>Nat.lt_irrefl _ (h.ilt _ hi),λi c hi hM=>Nat.lt_irrefl _ (h.blk hi hM).2,λi j k c hi hM=>Nat.lt_irrefl _ (h.vir.lt i j k _ c hi hM).2.1⟩
theorem FreeB.mono {N N' b:Nat}(h:FreeB w0 I M s.obj N b)(hN:N≤N'):FreeB w0 I M s.obj N' b:=⟨h.lo,Nat.lt_of_lt_of_le h.hi hN,h.ni,h.m,h.n⟩
def pO (ns:List (Option (Nat×Nat)))(j:Nat):Option (Nat×Nat):=(ns[j]?).getD none
theorem kt (h:SimX w0 mo n I0 I M s a w):∀{fs:List Fl} {cs:List DC} {us:List Value} {ids:List Nat} {k:List Cell→List (Nat×Ob)→Rd Eff} {e:Eff},ar (λc u=>aA (ax w0 I0 I M s w) c u) cs us→aU C s (iP fs cs ids k) e→
  ∃xs u ns,pI s u∧(∀p∈u,p.1∉ids)∧xs.length=us.length∧(∀(j:Nat) x v,xs[j]? =some x→us[j]? =some v→d9 (λ_=>pO ns) w 0 j x v)∧(∀j b c,pO ns j=some (b,c)→∃p∈u,M p.1=some (b,c))∧
   (∀j j' b c c',pO ns j=some (b,c)→pO ns j'=some (b,c')→j=j')∧aU C s (k xs u) e
 |[],[],[],ids,k,e,_,hr=>⟨[],[],[],⟨by simp,by simp⟩,by simp,rfl,by simp,by simp[pO],by simp[pO],hr⟩
 |f::fs,c::cs,v::us,ids,k,e,hall,hr=>by
  have hflat:∀x,RepC (λ_=>False) w x v→(∀t xs,x≠ .sl t xs)→aU C s (iP fs cs ids λxs u=>k (x::xs) u) e→∃xs u ns,pI s u∧(∀p∈u,p.1∉ids)∧xs.length=(v::us).length∧(∀(j:Nat) x v',xs[j]? =some x→(v::us)[j]? =some v'→d9 (λ_=>pO ns) w 0 j x v')∧
    (∀j b c,pO ns j=some (b,c)→∃p∈u,M p.1=some (b,c))∧(∀j j' b c c',pO ns j=some (b,c)→pO ns j'=some (b,c')→j=j')∧aU C s (k xs u) e:=by
   intro x hx hns hr
   obtain⟨xs,u,ns,g1,g2,g3,g4,g5,g6,g7⟩:=kt h hall.2 hr
   refine⟨x::xs,u,none::ns,g1,g2,by simp[g3],λj x' v' hj hv=> ?_,λj b c hj=> ?_,λj j' b c c' hj hj'=> ?_,g7⟩
   ·cases j with
    |zero=>
     simp only[List.getElem?_cons_zero,Option.some.injEq]at hj hv
     subst hj;subst hv
     cases x with
     |sl t xs=>exact absurd rfl (hns t xs)
     |bool b=>exact hx
     |int k m=>exact hx
     |str s=>exact hx
     |raw s=>exact hx
    |succ j=>
     simp only[List.getElem?_cons_succ]at hj hv
     have:=g4 j x' v' hj hv
     cases x'<;>exact this
   ·cases j with
    |zero=>simp[pO]at hj
    |succ j=>exact g5 j b c (by simpa [pO]using hj)
   ·cases j with
    |zero=>simp[pO]at hj
    |succ j=>cases j' with
     |zero=>simp[pO]at hj'
     |succ j'=>rw[g6 j j' b c c' (by simpa [pO]using hj) (by simpa [pO]using hj')]
  have hc:=hall.1
  simp only[iP]at hr
  cases c with
  |bool b=>simp only[aA]at hc;exact hflat _ (by rw[hc];exact .bool b) (by intro _ _ h;cases h) hr
  |int kk m=>exact hflat _ (by rw[hc.1];exact .int _ _ hc.2) (by intro _ _ h;cases h) hr
  |str b=>obtain⟨b',rfl,rfl,hl⟩:=hc;exact hflat _ (.str b' hl) (by intro _ _ h;cases h) hr
  |raw b=>exact hr.fail.elim
  |nil=>
   simp only[aA]at hc
   cases f with
   |sl t=>
    obtain⟨xs,u,ns,g1,g2,g3,g4,g5,g6,g7⟩:=kt h hall.2 hr
    refine⟨.sl t []::xs,u,none::ns,g1,g2,by simp[g3],λj x' v' hj hv=> ?_,λj b c hj=> ?_,λj j' b c c' hj hj'=> ?_,g7⟩
    ·cases j with
     |zero=>
      simp only[List.getElem?_cons_zero,Option.some.injEq]at hj hv
      subst hj;subst hv
      exact⟨⟨none,hc⟩,.inl ⟨rfl,rfl⟩⟩
     |succ j=>
      simp only[List.getElem?_cons_succ]at hj hv
      have:=g4 j x' v' hj hv
      cases x'<;>exact this
    ·cases j with
     |zero=>simp[pO]at hj
     |succ j=>exact g5 j b c (by simpa [pO]using hj)
    ·cases j with
     |zero=>simp[pO]at hj
     |succ j=>cases j' with
      |zero=>simp[pO]at hj'
      |succ j'=>rw[g6 j j' b c c' (by simpa [pO]using hj) (by simpa [pO]using hj')]
   |_=>exact hr.fail.elim
  |own id ver=>
   obtain⟨ob,hob,hr⟩:=hr.get
   cases ob with
   |box _=>exact hr.fail.elim
   |dar _ _ _ _=>exact hr.fail.elim
   |arr t xs0 ver' fz d=>
    obtain⟨hg,hr2⟩:=hr.guard
    clear hr
    simp only[Bool.and_eq_true,Bool.not_eq_true']at hg
    obtain⟨⟨⟨⟨hver,hfz⟩,hd⟩,hsl⟩,hmem⟩:=hg
    subst hfz;subst hd
    obtain⟨t1,xs1,v1,f1,d1,h1,h2,h3,h4⟩:=hc
    simp only[]at h1 h3
    rw[hob]at h1;cases h1
    have hval:=h3 (Nat.eq_of_beq_eq_true hver)
    obtain⟨xs,u,ns,g1,g2,g3,g4,g5,g6,g7⟩:=kt h hall.2 hr2
    have hnid:∀p∈u,p.1≠id:=λp hp e=>g2 p hp (by rw[e];exact List.mem_cons_self)
    refine⟨.sl t xs0::xs,(id,.arr t [] (ver'+1) false true)::u,M id::ns,⟨?_,λp hp=> ?_⟩,λp hp=> ?_,by simp[g3],λj x' v' hj hv=> ?_,λj b c hj=> ?_,λj j' b c c' hj hj'=> ?_,g7⟩
    ·rw[List.map_cons,List.nodup_cons]
     refine⟨λhc=> ?_,g1.1⟩
     obtain⟨p,hp,he⟩:=List.mem_map.1 hc
     exact hnid p hp he
    ·rcases List.mem_cons.1 hp with rfl|hp
     ·exact⟨t,xs0,ver',rfl,hob⟩
     ·exact g1.2 p hp
    ·rcases List.mem_cons.1 hp with rfl|hp
     ·intro hc;rw[fW.2 hc]at hmem;cases hmem
     ·exact λhc=>g2 p hp (List.mem_cons_of_mem _ hc)
    ·cases j with
     |zero=>
      simp only[List.getElem?_cons_zero,Option.some.injEq]at hj hv
      subst hj;subst hv
      refine⟨hval, ?_⟩
      rcases h.objs id _ hob with⟨hM,hnil⟩|⟨b,cap,hM,hN,hlt,hI,hcap,hmx,hcl,hel⟩
      ·exact .inl ⟨hM,hnil⟩
      ·refine .inr ⟨b,cap,hM,hcap,hmx,hcl,λi e j c he hc=> ?_⟩
       obtain⟨u',hu',hru⟩:=hel i e j c he hc
       refine⟨u',hu',hru.anyJ ?_⟩
       rintro t' ys rfl
       rw[lU hc]at hsl;cases hsl
     |succ j=>
      simp only[List.getElem?_cons_succ]at hj hv
      have:=g4 j x' v' hj hv
      cases x'<;>exact this
    ·cases j with
     |zero=>exact⟨_,List.mem_cons_self,by simpa [pO]using hj⟩
     |succ j=>
      obtain⟨p,hp,hb⟩:=g5 j b c (by simpa [pO]using hj)
      exact⟨p,List.mem_cons_of_mem _ hp,hb⟩
    ·have hx:∀j b c c',M id=some (b,c)→pO ns j=some (b,c')→False:=by
      intro j b c c' h1 h2
      obtain⟨p,hp,hb⟩:=g5 j b c' h2
      obtain⟨_,_,_,_,ho⟩:=g1.2 p hp
      exact hnid p hp (h.inj p.1 id b c' c (by rw[ho];simp) (by rw[hob];simp) hb h1)
     cases j with
     |zero=>cases j' with
      |zero=>rfl
      |succ j'=>exact(hx j' b c c' (by simpa [pO]using hj) (by simpa [pO]using hj')).elim
     |succ j=>cases j' with
      |zero=>exact(hx j b c' c (by simpa [pO]using hj') (by simpa [pO]using hj)).elim
      |succ j'=>rw[g6 j j' b c c' (by simpa [pO]using hj) (by simpa [pO]using hj')]
  |_=>exact hr.fail.elim
 |[],_::_,_,_,_,_,_,hr=>hr.fail.elim
 |_::_,[],_,_,_,_,_,hr=>hr.fail.elim
 |_::_,_::_,[],_,_,_,hall,_=>hall.elim
 |[],[],_::_,_,_,_,hall,_=>hall.elim
theorem K4 (h:SimX w0 mo n I0 I M s a w){u:List (Nat×Ob)}(hu:pI s u){ns:List (Option (Nat×Nat))}(g5:∀j b c,pO ns j=some (b,c)→∃p∈u,M p.1=some (b,c)):
  ∃M',Ext (ax w0 I0 I M s w) ⟨w0.heap.size,I0,I,M',bx s.obj u,w⟩∧SimX w0 mo n I0 I M' ⟨s.tmp,bx s.obj u⟩ a w∧(∀i,i∉u.map (·.1)→M' i=M i∧bx s.obj u i=s.obj i)∧M'.n=M.n∧∀j b c,pO ns j=some (b,c)→FreeB w0 I M' (bx s.obj u) w.heap.size b:=by
 obtain⟨M',h1,h2,h3,h4,h5⟩:=Lc h hu
 refine⟨M',h1,h2,λi hi=>⟨h3 i hi,by unfold bx;rw[dN hi]⟩,h5,λj b c hj=> ?_⟩
 obtain⟨p,hp,hb⟩:=g5 j b c hj
 exact Mi h hu h3 h4 h5 hp hb
theorem vh {u:List (Nat×Ob)}(hu:pI s u){id:Nat}(ho:∀t xs v f d,s.obj id≠some (.arr t xs v f d)):id∉u.map (·.1):=by
 intro hc
 obtain⟨p,hp,rfl⟩:=List.mem_map.1 hc
 obtain⟨t,xs,v,_,h1⟩:=hu.2 p hp
 exact ho _ _ _ _ _ h1
theorem qK:∀{ds:List DC} {cs:List Cell},nb ds=some cs→cs.length=ds.length∧∀{j:Nat} {x:Cell},cs[j]? =some x→(∀t ys,x≠ .sl t ys)∧∃d,ds[j]? =some d∧∀(X:Cx) (u:Value),aA X d u→RepC (λ_=>False) w x u
 |[],cs,h=>by simp[nb]at h;subst h;exact⟨rfl,by simp⟩
 |d::ds,cs,h=>by
  simp only[nb]at h
  split at h
  ·rename_i y zs hy hz
   cases h
   obtain⟨h1,h2⟩:=qK hz
   refine⟨by simp[h1],fun{j x} hj=> ?_⟩
   cases j with
   |succ j=>simpa using h2 (j:=j) (by simpa using hj)
   |zero=>
    simp only[List.getElem?_cons_zero,Option.some.injEq]at hj
    subst hj
    cases d<;>simp only[reduceCtorEq]at hy
    ·cases hy;exact⟨by simp,_,rfl,λX u hu=>by simp only[aA]at hu;rw[hu];exact .bool _⟩
    ·cases hy;exact⟨by simp,_,rfl,λX u hu=>by rw[hu.1];exact .int _ _ hu.2⟩
    ·cases hy;exact⟨by simp,_,rfl,λX u hu=>by obtain⟨b',rfl,rfl,hl⟩:=hu;exact .str b' hl⟩
  ·cases h
end
end Go.Proofs.YtffjmkhjhchnmaaGreat
