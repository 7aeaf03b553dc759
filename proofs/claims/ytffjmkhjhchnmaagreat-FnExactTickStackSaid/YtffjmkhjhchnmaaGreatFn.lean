/- Functions: results, and the contract out of a run of the executor. -/
import Derived.Test.YtffjmkhjhchnmaaGreatEval
set_option linter.unusedVariables false
set_option linter.unusedSimpArgs false
namespace Go.Proofs.YtffjmkhjhchnmaaGreat
open Go Go.RowKit
section
variable {w0:World} {mo:gj} {n:Nat} {I0 I:Nat→Prop} {M:MF} {s:St} {a:Act} {w:World} {te:TE} {P:Program}
theorem H5 (xs ys:List RC):cq (xs++ys)=cq xs+cq ys:=by
 induction xs with
 |nil=>simp[cq]
 |cons x xs ih=>cases x<;>simp only[List.cons_append,cq,ih]<;>omega
theorem b9.append {N:Nat}{J Jn:Nat→Prop}{mm:MF}:∀{k:Nat} {xs ys:List RC} {vs us:List Value},b9 N J Jn w mm k xs vs→b9 N J Jn w mm (k+cq xs) ys us→b9 N J Jn w mm k (xs++ys) (vs++us)
 |_,[],_,[],_,_,h=>by simpa [cq]using h
 |k,.c x::xs,ys,v::vs,us,h,h2=>⟨h.1,b9.append h.2 h2⟩
 |k,.own d t e::xs,ys,v::vs,us,h,h2=>⟨h.1,b9.append h.2 (by simp only[cq]at h2;rw[show k+1+cq xs=k+(cq xs+1) from by omega];exact h2)⟩
 |k,.box bs::xs,ys,v::vs,us,h,h2=>⟨h.1,b9.append h.2 (by simp only[cq]at h2;rw[show k+1+cq xs=k+(cq xs+1) from by omega];exact h2)⟩
 |k,.dar _ _::xs,ys,v::vs,us,h,h2=>⟨h.1,b9.append h.2 (by simp only[cq]at h2;rw[show k+1+cq xs=k+(cq xs+1) from by omega];exact h2)⟩
 |_,.dar _ _::_,_,[],_,h,_=>h.elim
 |_,[],_,_::_,_,h,_=>h.elim
 |_,.c _::_,_,[],_,h,_=>h.elim
 |_,.own _ _ _::_,_,[],_,h,_=>h.elim
 |_,.box _::_,_,[],_,h,_=>h.elim
abbrev Ld:=Option (Nat×Nat)×(Nat→Nat→Option (Nat×Nat))
structure MsOk (N:Nat)(M:MF)(s:St)(used used':List Nat)(ms:List Ld):Prop where
 fresh:∀(i b c:Nat) (m:Ld),ms[i]? =some m→m.1=some (b,c)→∃id,id∈used'∧id∉used∧s.obj id≠none∧M id=some (b,c)∧N≤b
 dist:∀(i j b c c':Nat) (m m':Ld),ms[i]? =some m→ms[j]? =some m'→m.1=some (b,c)→m'.1=some (b,c')→i=j
 vfresh:∀(i j k b c:Nat) (m:Ld),ms[i]? =some m→m.2 j k=some (b,c)→∃id,id∈used'∧id∉used∧isDar (s.obj id)=true∧M.n id j k=some (b,c)∧N≤b
 vdist:∀(i i' j j' k k' b c c':Nat) (m m':Ld),ms[i]? =some m→ms[i']? =some m'→m.2 j k=some (b,c)→m'.2 j' k'=some (b,c')→i=i'
 sub:∀x:Nat,x∈used→x∈used'
theorem MsOk.nil (used:List Nat):MsOk w0.heap.size M s used used []:=⟨by simp,by simp,by simp,by simp,λ_ h=>h⟩
theorem vu {m m':Ld}{i:Nat}(h:[m][i]? =some m'):i=0∧m'=m:=by
 cases i with
 |zero=>simp only[List.getElem?_cons_zero,Option.some.injEq]at h;exact⟨rfl,h.symm⟩
 |succ i=>simp at h
theorem MsOk.none (used:List Nat):MsOk w0.heap.size M s used used [(none,λ_ _=>none)]:=by
 refine⟨λi b c m hi hm=> ?_,λi j b c c' m m' hi _ hm _=> ?_,λi j k b c m hi hm=> ?_,λi i' j j' k k' b c c' m m' hi _ hm _=> ?_,λ_ h=>h⟩<;>(obtain⟨_,rfl⟩:=vu hi;cases hm)
theorem MsOk.one {N id:Nat}{used:List Nat}{m:Ld}(hnu:id∉used)(h1:∀b c,m.1=some (b,c)→s.obj id≠ .none∧M id=some (b,c)∧N≤b)(h2:∀j k b c,m.2 j k=some (b,c)→isDar (s.obj id)=true∧M.n id j k=some (b,c)∧N≤b):MsOk N M s used (id::used) [m]:=by
 refine⟨λi b c m hi hm=> ?_,λi j b c c' m m' hi hj _ _=>by rw[(vu hi).1,(vu hj).1],λi j k b c m hi hm=> ?_,λi i' j j' k k' b c c' m m' hi hj _ _=>by rw[(vu hi).1,(vu hj).1],λx hx=>List.mem_cons_of_mem _ hx⟩
 ·obtain⟨_,rfl⟩:=vu hi
  exact⟨id,List.mem_cons_self,hnu,h1 b c hm⟩
 ·obtain⟨_,rfl⟩:=vu hi
  exact⟨id,List.mem_cons_self,hnu,h2 j k b c hm⟩
theorem MsOk.append (h:SimX w0 mo n I0 I M s.den a w){u0 u1 u2:List Nat}{m1 m2:List Ld}(h1:MsOk w0.heap.size M s u0 u1 m1)(h2:MsOk w0.heap.size M s u1 u2 m2):MsOk w0.heap.size M s u0 u2 (m1++m2):=by
 have hcross:∀(i j b c c':Nat) (m m':Ld),m1[i]? =some m→m2[j]? =some m'→m.1=some (b,c)→m'.1=some (b,c')→False:=by
  intro i j b c c' m m' hi hj e1 e2
  obtain⟨id,hid,_,ho,hm,_⟩:=h1.fresh i b c m hi e1
  obtain⟨id',_,hid',ho',hm',_⟩:=h2.fresh j b c' m' hj e2
  have:=h.inj id id' b c c' ho ho' hm hm'
  subst this
  exact hid' hid
 have hcrossv:∀(i i' j j' k k' b c c':Nat) (m m':Ld),m1[i]? =some m→m2[i']? =some m'→m.2 j k=some (b,c)→m'.2 j' k'=some (b,c')→False:=by
  intro i i' j j' k k' b c c' m m' hi hj e1 e2
  obtain⟨id,hid,_,ho,hm,_⟩:=h1.vfresh i j k b c m hi e1
  obtain⟨id',_,hid',ho',hm',_⟩:=h2.vfresh i' j' k' b c' m' hj e2
  have:=(h.vir.inj id id' j j' k k' b c c' ho ho' hm hm').1
  subst this
  exact hid' hid
 refine⟨λi b c m hi hm=> ?_,λi j b c c' m m' hi hj e1 e2=> ?_,λi j k b c m hi hm=> ?_,λi i' j j' k k' b c c' m m' hi hj e1 e2=> ?_,λx hx=>h2.sub x (h1.sub x hx)⟩
 ·rw[List.getElem?_append]at hi
  split at hi
  ·obtain⟨id,h3,h4,h5,h6⟩:=h1.fresh _ b c m hi hm
   exact⟨id,h2.sub id h3,h4,h5,h6⟩
  ·obtain⟨id,h3,h4,h5,h6⟩:=h2.fresh _ b c m hi hm
   exact⟨id,h3,λhc=>h4 (h1.sub id hc),h5,h6⟩
 ·rw[List.getElem?_append]at hi hj
  split at hi<;>split at hj
  ·exact h1.dist i j b c c' m m' hi hj e1 e2
  ·exact(hcross _ _ b c c' m m' hi hj e1 e2).elim
  ·exact(hcross _ _ b c' c m' m hj hi e2 e1).elim
  ·have:=h2.dist _ _ b c c' m m' hi hj e1 e2
   omega
 ·rw[List.getElem?_append]at hi
  split at hi
  ·obtain⟨id,h3,h4,h5,h6⟩:=h1.vfresh _ j k b c m hi hm
   exact⟨id,h2.sub id h3,h4,h5,h6⟩
  ·obtain⟨id,h3,h4,h5,h6⟩:=h2.vfresh _ j k b c m hi hm
   exact⟨id,h3,λhc=>h4 (h1.sub id hc),h5,h6⟩
 ·rw[List.getElem?_append]at hi hj
  split at hi<;>split at hj
  ·exact h1.vdist _ _ j j' k k' b c c' m m' hi hj e1 e2
  ·exact(hcrossv _ _ j j' k k' b c c' m m' hi hj e1 e2).elim
  ·exact(hcrossv _ _ j' j k' k b c' c m' m hj hi e2 e1).elim
  ·have:=h2.vdist _ _ j j' k k' b c c' m m' hi hj e1 e2
   omega
abbrev Dv (w0:World)(I0 I:Nat→Prop):Prop:=∀b,I b→I0 b∨w0.heap.size≤b
abbrev jn (w0:World)(I:Nat→Prop):Nat→Prop:=λb=>I b∧w0.heap.size≤b
def nA (ms:List Ld)(mm:MF)(k:Nat):Prop:=∀(i:Nat) (m:Ld),ms[i]? =some m→mm (k+i)=m.1∧mm.n (k+i)=m.2
theorem nA.left {m1 m2:List Ld}{mm:MF}{k:Nat}(h:nA (m1++m2) mm k):nA m1 mm k:=by
 intro i m hi
 refine h i m ?_
 rw[List.getElem?_append_left (List.getElem?_eq_some_iff.1 hi).1]
 exact hi
theorem nA.right {m1 m2:List Ld}{mm:MF}{k:Nat}(h:nA (m1++m2) mm k):nA m2 mm (k+m1.length):=by
 intro i m hi
 have:=h (m1.length+i) m (by rw[List.getElem?_append_right (by omega)];simpa using hi)
 rw[show k+m1.length+i=k+(m1.length+i) by omega]
 exact this
theorem RepC.out (hd:Dv w0 I0 I){p:Pv}{c:Cell}{v:Value}(hc:RepC ((ax w0 I0 I M s.den w).J p) w c v):RepC (λb=>I0 b∨jn w0 I b) w c v:=by
 refine hc.mono (λ_ _=>rfl) λb hb=> ?_
 cases p with
 |arg=>exact .inl hb
 |new=>exact .inr hb
 |any=>
  rcases hd b hb with h1|h1
  ·exact .inl h1
  ·exact .inr ⟨hb,h1⟩
theorem uS:∀{cs:List DC} {xs:List Cell},ff cs=some xs→xs.length=cs.length
 |[],xs,h=>by simp[ff]at h;subst h;rfl
 |c::cs,xs,h=>by
  simp only[ff]at h
  split at h
  ·rename_i y zs hy hz
   cases h
   simp[uS hz]
  ·cases h
theorem H8 (h:SimX w0 mo n I0 I M s.den a w){f:Fl}{c:DC}{v:Value}(hc:aA (ax w0 I0 I M s.den w) c v){used:List Nat}{k:RC→List Nat→Option cS}{z:cS}(hr:xg s mo.length f c used k=some z):
  ∃x used' ms,k x used'=some z∧MsOk w0.heap.size M s used used' ms∧ms.length=cq [x]∧∀(_:Dv w0 I0 I) (mm:MF) (k:Nat),nA ms mm k→b9 w0.heap.size I0 (jn w0 I) w mm k [x] [v]:=by
 cases c with
 |bool b=>simp only[aA]at hc;rw[hc];exact⟨_,_,[],hr,.nil _,rfl,λhd _ _ _=>⟨.bool b,trivial⟩⟩
 |int kk m=>rw[hc.1];exact⟨_,_,[],hr,.nil _,rfl,λhd _ _ _=>⟨.int _ _ hc.2,trivial⟩⟩
 |str b=>obtain⟨b',rfl,rfl,hl⟩:=hc;exact⟨_,_,[],hr,.nil _,rfl,λhd _ _ _=>⟨.str b' hl,trivial⟩⟩
 |raw b=>cases hr
 |sl p t xs=>exact⟨_,_,[],hr,.nil _,rfl,λhd _ _ _=>⟨RepC.out hd (p:=p) hc,trivial⟩⟩
 |nil=>
  simp only[aA]at hc
  rw[hc]
  cases f with
  |sl t=>
   refine⟨_,_,[(none,λ_ _=>none)],hr,.none _,rfl,λhd mm k hp=>⟨?_,trivial⟩⟩
   have:=(hp 0 _ rfl).1
   rw[Nat.add_zero]at this
   rw[this]
   exact⟨⟨_,rfl⟩,.inl ⟨rfl,rfl⟩⟩
  |_=>cases hr
 |own id ver=>
  obtain⟨t,xs,ver',frz,d,ho,hv,hval,h1⟩:=hc
  have ho':s.obj id=some (.arr t xs ver' frz d):=ho
  simp only[xg,ho']at hr
  cases hb:Nat.beq ver ver' with
  |false=>rw[hb]at hr;cases hr
  |true=>
   rw[hb]at hr
   have hval:=hval (Nat.eq_of_beq_eq_true hb)
   simp only[]at hval
   have hro:=h.objs id _ ho
   cases hfu:(frz||vJ id used)with
   |false=>
    rw[hfu]at hr
    simp only[Bool.or_eq_false_iff]at hfu
    obtain⟨rfl,hnu⟩:=hfu
    have hnu':id∉used:=λhc=>by rw[fW.2 hc]at hnu;cases hnu
    simp only[]at hr
    split at hr
    case h_2=>cases hr
    rename_i hlt
    have hlt:¬id<mo.length:=λhc=>by rw[show Nat.blt id mo.length=true from by simp[Nat.blt];omega]at hlt;cases hlt
    have hN:∀b c,M id=some (b,c)→w0.heap.size≤b:=λb c hM=>by
     rcases h.own id b c (by show s.obj id≠none;rw[ho'];simp) hM with h1|⟨m,c',h1,_⟩
     ·exact h1
     ·exact absurd (List.getElem?_eq_some_iff.1 h1).1 hlt
    refine⟨_,_,[(M id,λ_ _=>none)],hr,.one hnu' (λb c hm=>⟨by rw[ho'];simp,hm,hN b c hm⟩) (λ_ _ _ _ hm=>by cases hm),rfl,λhd mm k hp=>⟨?_,trivial⟩⟩
    ·have:=(hp 0 _ rfl).1
     rw[Nat.add_zero]at this
     rw[this]
     refine⟨hval, ?_⟩
     rcases hro with h2|⟨b,cap,h2,h3,h4,h5,h6,h7,h8,h9⟩
     ·exact .inl h2
     ·refine .inr ⟨b,cap,h2,hN b cap h2,h4,λhj=> ?_,h6,h7,h8,λi e j c he hc=> ?_⟩
      ·have:=h5.1 hj.1;cases this
      ·obtain⟨u,hu,hru⟩:=h9 i e j c he hc
       refine⟨u,hu,hru.mono (λ_ _=>rfl) λb' hb'=> ?_⟩
       cases d with
       |true=>exact .inr hb'
       |false=>
        have hb2:I b':=hb'
        rcases hd b' hb2 with h10|h10
        ·exact .inl ⟨h10,rfl⟩
        ·exact .inr ⟨hb2,h10⟩
   |true=>
    rw[hfu]at hr
    cases frz with
    |false=>cases hr
    |true=>
     refine⟨_,_,[],hr,.nil _,rfl,λhd _ _ _=>⟨?_,trivial⟩⟩
     rcases hro with⟨hM,hnil⟩|⟨b,cap,hM,hN,_,hI,hcap,hmx,_,he⟩
     ·simp only[]at hM
      rw[hM]at hval
      obtain⟨_,hval⟩:=hval
      rw[hval,hnil]
      exact RepC.empty t _
     ·simp only[]at hM hN
      rw[hM]at hval
      simp only[aM]at hval
      rw[hval]
      refine RepC.out hd (p:= .any) (.sl t xs b 0 cap (λi j=>(w.cell? ⟨b,i*t.size+j,none⟩).getD undef) (λ_=>hI.2 rfl) hmx hcap (λi x j c hx hc=> ?_) (λi x j c hx hc=> ?_))
      ·obtain⟨u,hu,_⟩:=he i x j c hx hc
       simp only[]at hu
       rw[Nat.zero_add,hu];rfl
      ·obtain⟨u,hu,hru⟩:=he i x j c hx hc
       simp only[]at hu
       rw[hu]
       refine hru.mono (λ_ _=>rfl) λb' hb'=> ?_
       cases d with
       |true=>exact hb'.1
       |false=>exact hb'
 |ptr id off=>
  cases off with
  |succ _=>cases hr
  |zero=>
   obtain⟨cs,b,ho,hM,hv⟩:=hc
   have ho':s.obj id=some (.box cs):=ho
   simp only[xg,ho']at hr
   split at hr
   case h_2=>cases hr
   rename_i xs hmu hpu
   simp only[Bool.or_eq_false_iff]at hmu
   obtain⟨hnu,hlt⟩:=hmu
   have hnu':id∉used:=λhc=>by rw[fW.2 hc]at hnu;cases hnu
   have hlt:¬id<mo.length:=λhc=>by rw[show Nat.blt id mo.length=true from by simp[Nat.blt];omega]at hlt;cases hlt
   simp only[]at hM
   have hN:w0.heap.size≤b:=by
    rcases h.own id b 0 (by show s.obj id≠none;rw[ho'];simp) hM with h1|⟨m,c',h1,_⟩
    ·exact h1
    ·exact absurd (List.getElem?_eq_some_iff.1 h1).1 hlt
   obtain⟨b',g1,_,g3,g4,g5,g6⟩:=h.objs id _ ho
   simp only[]at g1 g3 g4 g5 g6
   rw[hM]at g1
   cases g1
   refine⟨_,_,[(M id,λ_ _=>none)],hr,.one hnu' (λb c hm=>⟨by rw[ho'];simp,hm,by rw[hM]at hm;cases hm;exact hN⟩) (λ_ _ _ _ hm=>by cases hm),rfl,λhd mm k hp=>⟨?_,trivial⟩⟩
   ·have:=(hp 0 _ rfl).1
    rw[Nat.add_zero]at this
    rw[this,hM]
    refine⟨b,rfl,hv,hN,g3,λhj=>g4 hj.1,λj c hj=> ?_,λj hj=>g6 j (by rw[←uS hpu];exact hj)⟩
    obtain⟨c',h1,h2⟩:=mE hpu hj
    obtain⟨u,hu,hru,_⟩:=g5 j c' h1
    exact⟨u,hu,RepC.out hd (p:= .any) (h2 (ax w0 I0 I M s.den w) u h.i00 hru)⟩
 |eptr _ _ _ _=>cases hr
 |vw _ _ _ _=>cases hr
 |dptr _ _ _ _=>cases hr
 |inn _ _ _ _=>cases hr
 |iptr _ _ _ _ _ _=>cases hr
 |down id ver=>
  obtain⟨h1,o,ho,hd⟩:=hc
  have ho':s.obj id=some o:=ho
  simp only[xg,ho']at hr
  cases o with
  |box _=>cases hr
  |arr _ _ _ _ _=>cases hr
  |dar t xs ver' iv=>
   simp only[]at hr
   split at hr
   case h_2=>cases hr
   rename_i hb hmu
   simp only[Bool.or_eq_false_iff]at hmu
   obtain⟨hnu,hlt⟩:=hmu
   have hnu':id∉used:=λhc=>by rw[fW.2 hc]at hnu;cases hnu
   have hlt:¬id<mo.length:=λhc=>by rw[show Nat.blt id mo.length=true from by simp[Nat.blt];omega]at hlt;cases hlt
   have hval:=hd.2 (Nat.eq_of_beq_eq_true hb)
   have hN:∀b c,M id=some (b,c)→w0.heap.size≤b:=λb c hM=>by
    rcases h.own id b c (by show s.obj id≠none;rw[ho'];simp) hM with h1|⟨m,c',h1,_⟩
    ·exact h1
    ·exact absurd (List.getElem?_eq_some_iff.1 h1).1 hlt
   have hdar:isDar (s.obj id)=true:=by rw[ho'];rfl
   have hV:∀i j b c,M.n id i j=some (b,c)→w0.heap.size≤b∧b<w.heap.size∧¬I b:=λi j b c hM=>by
    obtain⟨h1,h2,h3⟩:=h.vir.lt id i j b c hdar hM
    refine⟨?_,h2,h3⟩
    rcases h1 with h1|⟨m,_,_,_,h1,_⟩
    ·exact h1
    ·exact absurd (List.getElem?_eq_some_iff.1 h1).1 hlt
   refine⟨_,_,[(M id,M.n id)],hr,.one hnu' (λb c hm=>⟨by rw[ho'];simp,hm,hN b c hm⟩) (λj k b c hm=>⟨hdar,hm,(hV j k b c hm).1⟩),rfl,λhd mm k hp=>⟨?_,trivial⟩⟩
   obtain⟨e1,e2⟩:=hp 0 _ rfl
   rw[Nat.add_zero]at e1 e2
   rw[e1,e2]
   refine⟨hval, ?_,λi j b c hm=> ?_⟩
   ·rcases h.objs id _ ho with h2|⟨b,cap,h2,h4,h5,h6,h7,h8,h9⟩
    ·exact .inl h2
    ·exact .inr ⟨b,cap,h2,hN b cap h2,h4,λhj=>h5 hj.1,h6,h7,h8,h9⟩
   ·obtain⟨g1,g2,g3⟩:=hV i j b c hm
    exact⟨g1,g2,λhj=>g3 hj.1⟩
 |bsl _=>cases hr
 |ref _ _=>cases hr
 |fn _ _=>cases hr
 |slx _ _=>cases hr
 |undef=>cases hr
 |skipped=>cases hr
theorem wx (h:SimX w0 mo n I0 I M s.den a w):∀{fs:List Fl} {cs:List DC} {vs:List Value} {used:List Nat} {k:List RC→List Nat→Option cS} {z:cS},ar (λc u=>aA (ax w0 I0 I M s.den w) c u) cs vs→sA s mo.length fs cs used k=some z→
  ∃xs used' ms,k xs used'=some z∧MsOk w0.heap.size M s used used' ms∧ms.length=cq xs∧∀(_:Dv w0 I0 I) (mm:MF) (k:Nat),nA ms mm k→b9 w0.heap.size I0 (jn w0 I) w mm k xs vs
 |[],[],[],used,k,z,_,hr=>⟨[],used,[],hr,.nil _,rfl,λ_ _ _ _=>trivial⟩
 |f::fs,c::cs,v::vs,used,k,z,hall,hr=>by
  obtain⟨x,u1,m1,hr,hm1,hl1,hr1⟩:=H8 h hall.1 hr
  obtain⟨xs,u2,m2,hr,hm2,hl2,hr2⟩:=wx h hall.2 hr
  refine⟨x::xs,u2,m1++m2,hr,hm1.append h hm2, ?_,λhd mm k hp=> ?_⟩
  ·rw[List.length_append,hl1,hl2,←H5];rfl
  ·have h1:=hr1 hd mm k hp.left
   have h2:=hr2 hd mm _ hp.right
   rw[hl1]at h2
   exact b9.append (xs:=[x]) h1 h2
 |[],_::_,_,_,_,_,_,hr=>by cases hr
 |_::_,[],_,_,_,_,_,hr=>by cases hr
 |_::_,_::_,[],_,_,_,hall,_=>hall.elim
 |[],[],_::_,_,_,_,hall,_=>hall.elim
theorem b9.len {N:Nat}{J Jn:Nat→Prop}{mm:MF}:∀{k:Nat} {xs:List RC} {vs:List Value},b9 N J Jn w mm k xs vs→xs.length=vs.length
 |_,[],[],_=>rfl
 |k,.c x::xs,v::vs,h=>by simp[b9.len h.2]
 |k,.own d t e::xs,v::vs,h=>by simp[b9.len h.2]
 |k,.box bs::xs,v::vs,h=>by simp[b9.len h.2]
 |k,.dar _ _::xs,v::vs,h=>by simp[b9.len h.2]
 |_,.dar _ _::_,[],h=>h.elim
 |_,[],_::_,h=>h.elim
 |_,.c _::_,[],h=>h.elim
 |_,.own _ _ _::_,[],h=>h.elim
 |_,.box _::_,[],h=>h.elim
theorem b9.one1 {N:Nat}{J Jn:Nat→Prop}{mm:MF}{k:Nat}{x:RC}{v:Value}(h:b9 N J Jn w mm k [x] [v]):v.oneCell'=true:=by
 cases x with
 |c x=>exact h.1.one
 |own d t e=>
  have:=h.1.1
  cases hm:mm k with
  |none=>rw[hm]at this;obtain⟨_,rfl⟩:=this;rfl
  |some p=>obtain⟨b,c⟩:=p;rw[hm]at this;simp only[aM]at this;rw[this];rfl
 |box bs=>obtain⟨b,_,hv,_⟩:=h.1;rw[hv];rfl
 |dar t e=>
  have:=h.1.1
  cases hm:mm k with
  |none=>rw[hm]at this;obtain⟨_,rfl⟩:=this;rfl
  |some p=>obtain⟨b,c⟩:=p;rw[hm]at this;simp only[aM]at this;rw[this];rfl
 |shr _ _=>exact h.elim
theorem GT (h:SimX w0 mo n I0 I M s.den a w){fs:List Fl}{ag:Bool}{cs:List DC}{v:Value}(hv:iQ (ax w0 I0 I M s.den w) ag cs v){used:List Nat}{k:List RC→List Nat→Option cS}{z:cS}(hr:sA s mo.length fs cs used k=some z):
  ∃xs used' ms,k xs used'=some z∧MsOk w0.heap.size M s used used' ms∧ms.length=cq xs∧∀(_:Dv w0 I0 I) (mm:MF) (k:Nat),nA ms mm k→yW w0.heap.size I0 (jn w0 I) w mm k ag xs v:=by
 obtain⟨xs,u,ms,h1,h2,h3,h4⟩:=wx h (vq hv) hr
 refine⟨xs,u,ms,h1,h2,h3,λhd mm k hp=> ?_⟩
 have h5:=h4 hd mm k hp
 cases ag with
 |true=>obtain⟨us,rfl,_⟩:=hv;exact⟨us,rfl,h5⟩
 |false=>
  simp only[Bool.false_eq_true,if_false]at h5
  have hl:=h5.len
  match xs,h5,hl with
  |[x],h5,_=>exact⟨h5.one1,rfl,h5⟩
  |[],_,hl=>simp at hl
  |_::_::_,_,hl=>simp at hl
def M0:ResultVar→Array Value→Sem Value:=λr tmps=>match r with
 | .tmp t=>pure (tmps.getD t undef)
 | .cell a t=>do loadVar t (←asAddr (tmps.getD a undef))
theorem J8 (hte:fQ te P=true)(h:SimX w0 mo n I0 I M s.den a w){r:ResultVar}{t:Nat}{used:List Nat}{k:(Bool×List RC)→List Nat→Option cS}{z:cS}(hr:Jw te s mo.length r t used k=some z):
  ∃v x used' ms,(M0 r a.tmps).run P w= .ok v w∧k x used'=some z∧MsOk w0.heap.size M s used used' ms∧ms.length=cq x.2∧∀(_:Dv w0 I0 I) (mm:MF) (k:Nat),nA ms mm k→yW w0.heap.size I0 (jn w0 I) w mm k x.1 x.2 v:=by
 unfold Jw at hr
 split at hr
 ·rename_i ti hl
  split at hr
  ·rename_i x
   split at hr
   ·rename_i ag cs hx
    split at hr
    ·have hv:=h.tmps x
     have hx':s.den.tmp x= .v ag cs:=hx
     rw[hx']at hv
     obtain⟨xs,u,ms,h1,h2,h3,h4⟩:=GT h hv hr
     exact⟨_,_,u,ms,rfl,h1,h2,h3,h4⟩
    ·cases hr
   ·cases hr
  ·rename_i ad t'
   split at hr
   ·rename_i id off hb hx
    have htt:=Nat.eq_of_beq_eq_true hb
    subst htt
    split at hr
    ·rename_i cs ho
     split at hr
     ·rename_i hle
      rw[Bool.and_eq_true]at hle
      obtain⟨hle,hp1⟩:=hle
      have hp1:=Nat.le_of_ble_eq_true hp1
      have hv:=h.tmps ad
      have hx':s.den.tmp ad= .v false [.ptr id off]:=hx
      rw[hx']at hv
      obtain⟨c,hc,hv⟩:=hv
      cases hc
      have ho':s.den.obj id=some (.box cs):=ho
      have hre:aU (λ_ _ _ _ _=>True) s.den (Ga (.ptr id off) ti.fl.length (λcs=> .ret cs)) ((cs.drop off).take ti.fl.length):=⟨_,_,.get ho' (.guard hle (.ret _))⟩
      obtain⟨cs',b,off',hval,hlen,hcell,hret⟩:=yK h hv hre
      have:=hret.ret
      subst this
      obtain⟨v,hrun,hrep⟩:=H7 (P:=P) hte hl hp1 (x:=ax w0 I0 I M s.den w) (b:=b) (off:=off') hlen hcell
      obtain⟨xs,u,ms,h1,h2,h3,h4⟩:=GT h hrep hr
      refine⟨v,_,u,ms, ?_,h1,h2,h3,h4⟩
      simp only[M0,hval]
      simpa [asAddr]using hrun
     ·cases hr
    ·cases hr
   ·cases hr
 ·cases hr
theorem A4 (hte:fQ te P=true)(h:SimX w0 mo n I0 I M s.den a w):∀{rs:List ResultVar} {ts:List TypeId} {used:List Nat} {k:cS→Option cS} {z:cS},yl te s mo.length rs ts used k=some z→
  ∃vs R used' ms,ar (λr v=>(M0 r a.tmps).run P w= .ok v w) rs vs∧k R=some z∧MsOk w0.heap.size M s used used' ms∧ms.length=pz R∧∀(_:Dv w0 I0 I) (mm:MF) (k:Nat),nA ms mm k→rj w0.heap.size I0 (jn w0 I) w mm k R vs
 |[],[],used,k,z,hr=>⟨[],[],used,[],trivial,hr,.nil _,rfl,λ_ _ _ _=>trivial⟩
 |r::rs,t::ts,used,k,z,hr=>by
  obtain⟨v,x,u1,m1,hrun,hr,hm1,hl1,hr1⟩:=J8 hte h hr
  obtain⟨vs,R,u2,m2,hruns,hr,hm2,hl2,hr2⟩:=A4 hte h hr
  refine⟨v::vs,x::R,u2,m1++m2,⟨hrun,hruns⟩,hr,hm1.append h hm2,by simp[hl1,hl2,pz],λhd mm k hp=>⟨hr1 hd mm k hp.left, ?_⟩⟩
  have:=hr2 hd mm _ hp.right
  rw[hl1]at this
  exact this
 |[],_::_,_,_,_,hr=>by cases hr
 |_::_,[],_,_,_,hr=>by cases hr
theorem KC (h:SimX w0 mo n I0 I M s.den a w){x:Nat}{c:DC}(hx:s.tmp x= .v false [c]){id k:Nat}(hr:Jb s mo.length c=some (id,k)):∃m,mo[id]? =some m∧k≤m.2∧aM m.1 k (a.tmps.getD x undef):=by
 have hv:=h.tmps x
 have hx':s.den.tmp x= .v false [c]:=hx
 rw[hx']at hv
 obtain⟨c',hc,hv⟩:=hv
 cases hc
 unfold Jb at hr
 split at hr
 ·rename_i id' ver
  split at hr
  ·rename_i t xs ver' f d ho
   have ho':s.den.obj id'=some (.arr t xs ver' f d):=ho
   split at hr
   ·rename_i hg
    cases hr
    simp only[Bool.and_eq_true]at hg
    obtain⟨⟨g1,g2⟩,g3⟩:=hg
    have g1:=Nat.lt_of_succ_le (Nat.le_of_ble_eq_true g1)
    have g2:=Nat.eq_of_beq_eq_true g2
    have g3:=Nat.eq_of_beq_eq_true g3
    subst g2;subst g3
    have hm:mo[id]? =some (mo[id]'(by omega)):=List.getElem?_eq_getElem (by omega)
    obtain⟨o,ho2,hrt⟩:=h.rts id _ hm
    rw[ho']at ho2;cases ho2
    obtain⟨e1,e2⟩:=hrt rfl
    obtain⟨t1,xs1,v1,f1,d1,q1,_,q3,_⟩:=hv
    simp only[]at q1 q3
    rw[ho']at q1;cases q1
    refine⟨_,hm,by rw[e2];exact Nat.le_refl _, ?_⟩
    rw[←e1];exact q3 rfl
   ·cases hr
  ·cases hr
 ·rename_i id' ver lo hi
  split at hr
  ·rename_i t xs ver' f d ho
   have ho':s.den.obj id'=some (.arr t xs ver' f d):=ho
   split at hr
   ·rename_i hg
    cases hr
    simp only[Bool.and_eq_true]at hg
    obtain⟨⟨⟨g1,g2⟩,g3⟩,g4⟩:=hg
    have g1:=Nat.lt_of_succ_le (Nat.le_of_ble_eq_true g1)
    have g2:=Nat.eq_of_beq_eq_true g2
    have g3:=Nat.eq_of_beq_eq_true g3
    have g4:=Nat.eq_of_beq_eq_true g4
    subst g2;subst g3;subst g4
    have hm:mo[id]? =some (mo[id]'(by omega)):=List.getElem?_eq_getElem (by omega)
    obtain⟨o,ho2,hrt⟩:=h.rts id _ hm
    rw[ho']at ho2;cases ho2
    obtain⟨e1,e2⟩:=hrt rfl
    obtain⟨t1,xs1,v1,f1,d1,q1,_,q3,_⟩:=hv
    simp only[]at q1 q3
    rw[ho']at q1;cases q1
    obtain⟨⟨_,hhi⟩,p,cap,hov,hval⟩:=q3 rfl
    refine⟨_,hm,by rw[←e2];exact hhi, ?_⟩
    rw[←e1,hval]
    have e3:(if cap=0 then p else p.map λq=>q.add (0*t.size))=p:=by
     split
     ·rfl
     ·cases p with
      |none=>rfl
       |some q=>simp[Addr.add]
    rw[e3,Nat.sub_zero,Nat.sub_zero]
    cases hM:M id with
    |none=>
     rw[hM]at hov
     obtain⟨a1,hov⟩:=hov
     injection hov with k0 k1 k2
     exact⟨p,by rw[k2,show k=0 by omega]⟩
    |some q=>
     obtain⟨b,c⟩:=q
     rw[hM]at hov
     simp only[aM]at hov⊢
     injection hov with k0 k1 k2
     rw[k0,k2]
   ·cases hr
  ·cases hr
 ·cases hr
theorem uQ {β γ:Type}{f:β→Sem γ}:∀{l:List β} {us:List γ},ar (λb u=>(f b).run P w= .ok u w) l us→(l.mapM f).run P w= .ok us w
 |[],[],_=>by simp
 |b::l,u::us,h=>by
  have h2:=uQ h.2
  simp[List.mapM_cons,h.1,h2]
 |[],_::_,h=>h.elim
 |_::_,[],h=>h.elim
theorem rj.len {N:Nat}{J Jn:Nat→Prop}{mm:MF}:∀{k:Nat} {R:cS} {vs:List Value},rj N J Jn w mm k R vs→R.length=vs.length
 |_,[],[],_=>rfl
 |k,r::R,v::vs,h=>by simp[rj.len h.2]
 |_,[],_::_,h=>h.elim
 |_,_::_,[],h=>h.elim
end
theorem Ca:∀(os:List Ob) (k id:Nat),ac (au k os) id=if k≤id then os[id-k]? else none
 |[],k,id=>by simp[au,ac]
 |o::os,k,id=>by
  simp only[au,ac]
  cases hb:Nat.beq k id with
  |true=>
   have:=Nat.eq_of_beq_eq_true hb
   subst this
   simp
  |false=>
   have hne:=Nat.ne_of_beq_eq_false hb
   rw[Ca os (k+1) id]
   by_cases h:k≤id
   ·rw[if_pos h,if_pos (by omega),show id-k=(id-(k+1))+1 from by omega,List.getElem?_cons_succ]
   ·rw[if_neg h,if_neg (by omega)]
abbrev v9 (O:List MO):Nat→Option Ob:=λid=>(O[id]?).map MO.toOb
abbrev sY (mo:gj):MF:=⟨λid=>(mo[id]?).bind (·.1),λid i j=>(mo[id]?).bind λm=>m.inn i j⟩
abbrev OL (J:Nat→Prop)(w:World)(mo:gj)(O:List MO):Cx:=⟨w.heap.size,J,J,sY mo,v9 O,w⟩
section
variable {J:Nat→Prop} {w:World} {mo:gj} {O:List MO}
theorem Gy (hmo:ar (dk mo J w) mo O){c:MC}{u:Value}(h:jH mo J w c u)(hf:c.fits O=true):aA (OL J w mo O) c.toD u:=by
 have hone:=jH.one h
 cases c with
 |c x=>exact RepC.toD (x:=OL J w mo O) (p:= .arg) h
 |own k=>
  obtain⟨m,hm,hv⟩:=h
  obtain⟨o,ho,hr⟩:=hmo.at hm
  simp only[MC.fits,ho]at hf
  cases o with
  |box _=>cases hf
  |dar _ _=>cases hf
  |arr t xs=>
   refine⟨t,xs,0,false,false,by simp only[v9,ho,Option.map_some,MO.toOb],Nat.le_refl _,λ_=> ?_,hone⟩
   have:=hr.1
   simp only[sY,hm,Option.bind_some]
   rw[←this]
   exact hv
 |ptr k=>
  obtain⟨m,b,hm,hm1,hv⟩:=h
  obtain⟨o,ho,hr⟩:=hmo.at hm
  simp only[MC.fits,ho]at hf
  cases o with
  |arr _ _=>cases hf
  |dar _ _=>cases hf
  |box cs=>exact⟨cs.map MC.toD,b,by simp only[v9,ho,Option.map_some,MO.toOb],by simp only[sY,hm,Option.bind_some];exact hm1,hv⟩
 |down k=>
  obtain⟨m,hm,hv⟩:=h
  obtain⟨o,ho,hr⟩:=hmo.at hm
  simp only[MC.fits,ho]at hf
  cases o with
  |box _=>cases hf
  |arr _ _=>cases hf
  |dar t xs=>
   refine⟨hone,.dar t xs 0 0,by simp only[v9,ho,Option.map_some,MO.toOb],Nat.le_refl _,λ_=> ?_⟩
   have:=hr.1
   simp only[sY,hm,Option.bind_some]
   rw[←this]
   exact hv
theorem PR (hmo:ar (dk mo J w) mo O){a:PV}{v:Value}(ha:ia mo J w a v)(hf:a.fits O=true):hU (OL J w mo O) a.toV v:=by
 cases a with
 |nils=>exact⟨_,rfl,ha⟩
 |slx t xs=>exact⟨_,rfl,ha⟩
 |fn f ks=>
  obtain⟨us,rfl,hu⟩:=ha
  refine⟨_,rfl,us,rfl, ?_⟩
  simp only[PV.fits]at hf
  generalize us.toList=l at hu
  induction ks generalizing l with
  |nil=>cases l with
   |nil=>trivial
   |cons _ _=>exact hu.elim
  |cons k ks ih=>cases l with
   |nil=>exact hu.elim
   |cons u l=>
    simp only[List.all_cons,Bool.and_eq_true]at hf
    refine⟨?_,ih hf.2 _ hu.2⟩
    obtain⟨cs,b,h1,h2,h3⟩:=Gy hmo hu.1 hf.1
    exact⟨cs,b,h1,h2,h3⟩
 |val ag cs=>
  cases ag with
  |true=>
   obtain⟨us,rfl,hu⟩:=ha
   refine⟨us,rfl, ?_⟩
   generalize us.toList=l at hu
   induction cs generalizing l with
   |nil=>cases l with
    |nil=>trivial
    |cons _ _=>exact hu.elim
   |cons c cs ih=>cases l with
    |nil=>exact hu.elim
    |cons u l=>exact⟨⟨RepC.toD (x:=OL J w mo O) (p:= .arg) hu.1,hu.1.one⟩,ih hf _ hu.2⟩
  |false=>
   obtain⟨c,rfl,hc⟩:=ha
   exact⟨_,rfl,RepC.toD (x:=OL J w mo O) (p:= .arg) hc⟩
 |wr ag cs=>
  simp only[PV.fits]at hf
  cases ag with
  |true=>
   obtain⟨us,rfl,hu⟩:=ha
   refine⟨us,rfl, ?_⟩
   generalize us.toList=l at hu
   induction cs generalizing l with
   |nil=>cases l with
    |nil=>trivial
    |cons _ _=>exact hu.elim
   |cons c cs ih=>cases l with
    |nil=>exact hu.elim
    |cons u l=>
     simp only[List.all_cons,Bool.and_eq_true]at hf
     exact⟨⟨Gy hmo hu.1.1 hf.1,hu.1.2⟩,ih hf.2 _ hu.2⟩
  |false=>
   obtain⟨c,rfl,hc⟩:=ha
   simp only[List.all_cons,Bool.and_eq_true]at hf
   exact⟨_,rfl,Gy hmo hc hf.1⟩
theorem En (hmo:ar (dk mo J w) mo O):∀{A:List PV} {vs:List Value} {k t:Nat},A.all (PV.fits O)=true→ar (ia mo J w) A vs→hU (OL J w mo O) ((ac (qf k A) t).getD cA) ((if k≤t then vs[t-k]? else none).getD undef)
 |[],[],k,t,_,_=>⟨.undef,rfl,trivial⟩
 |a::A,v::vs,k,t,hf,h=>by
  simp only[List.all_cons,Bool.and_eq_true]at hf
  simp only[qf,ac]
  cases hb:Nat.beq k t with
  |true=>
   have:=Nat.eq_of_beq_eq_true hb
   subst this
   simp only[Option.getD_some,Nat.le_refl,if_pos,Nat.sub_self,List.getElem?_cons_zero]
   exact PR hmo h.1 hf.1
  |false=>
   have hne:=Nat.ne_of_beq_eq_false hb
   have ih:=En hmo (k:=k+1) (t:=t) hf.2 h.2
   by_cases hkt:k≤t
   ·rw[if_pos (by omega)]at ih
    rw[if_pos hkt,show t-k=(t-(k+1))+1 from by omega,List.getElem?_cons_succ]
    exact ih
   ·rw[if_neg (by omega)]at ih
    rw[if_neg hkt]
    exact ih
 |[],_::_,_,_,_,h=>h.elim
 |_::_,[],_,_,_,h=>h.elim
theorem Qp (hmo:ar (dk mo J w) mo O){m:Mt}{o:MO}(h:dk mo J w m o)(hfit:o.fits O=true)(hX:∀b c,m.1=some (b,c)→¬J b){id:Nat}(hm:mo[id]? =some m):xS (OL J w mo O) id o.toOb:=by
 have hM:(OL J w mo O).M id=m.1:=by simp only[sY,hm,Option.bind_some]
 have hN:(OL J w mo O).M.n id=m.inn:=by funext i j;simp only[sY,hm,Option.bind_some]
 cases o with
 |dar t xs=>
  obtain⟨_,h3,_⟩:=h
  rcases h3 with⟨h1,h2⟩|⟨b,cap,g1,g2,g3,g4,g5,g6⟩
  ·exact .inl ⟨by rw[hM,h1],h2⟩
  ·exact .inr ⟨b,cap,by rw[hM,g1],g2,hX b cap g1,g3,g4,g5,λi e j c he hc=>by rw[hN];exact g6 i e j c he hc⟩
 |box cs=>
  obtain⟨b,h1,h2,h3,h4⟩:=h
  refine⟨b,by rw[hM,h1],trivial,h2,hX b 0 h1,λj c hj=> ?_,λj hj=>h4 j (by simpa using hj)⟩
  rw[List.getElem?_map,Option.map_eq_some_iff]at hj
  obtain⟨x,hx,rfl⟩:=hj
  obtain⟨u,hu,hr⟩:=h3 j x hx
  simp only[MO.fits,List.all_eq_true]at hfit
  exact⟨u,hu,Gy hmo hr (hfit x (List.mem_of_getElem? hx)),hr.one⟩
 |arr t xs=>
  obtain⟨_,h3⟩:=h
  rcases h3 with⟨h1,h2⟩|⟨b,cap,g1,g2,g3,g4,g5,g6⟩
  ·exact .inl ⟨by rw[hM,h1],h2⟩
  ·refine .inr ⟨b,cap,by rw[hM,g1],(λh=>by cases h),g2,⟨λhj=>absurd hj (hX b cap g1),λh=>by cases h⟩,g3,g4,g5,λi e j c he hc=> ?_⟩
   obtain⟨u,hu,hr⟩:=g6 i e j c he hc
   exact⟨u,hu,hr⟩
end
section
variable {w0:World} {mo:gj} {n:Nat} {I0 I:Nat→Prop} {M:MF} {s:St} {a:Act} {w:World} {te:TE} {P:Program}
theorem xO (h:SimX w0 mo n I0 I M s.den a w):∀{ds:List MC} {cs:List DC} {xs:List MC},E0 s mo.length ds cs=some xs→
  ar Nb ds xs∧xs.length=cs.length∧∀(j:Nat) (x:MC),xs[j]? =some x→∃c,cs[j]? =some c∧(Dv w0 I0 I→∀u,aA (ax w0 I0 I M s.den w) c u→jH mo (λb=>I0 b∨jn w0 I b) w x u)
 |[],[],xs,hx=>by cases hx;exact⟨trivial,rfl,λj x hj=>by simp at hj⟩
 | .c d::ds,c::cs,xs,hx=>by
  simp only[E0]at hx
  split at hx
  ·rename_i y ys hy hys
   cases hx
   obtain⟨h1,h2,h3⟩:=xO h hys
   refine⟨⟨trivial,h1⟩,by simp[h2],λj x hj=> ?_⟩
   cases j with
   |succ j=>simpa using h3 j x (by simpa using hj)
   |zero=>
    simp only[List.getElem?_cons_zero,Option.some.injEq]at hj
    subst hj
    refine⟨c,rfl,λhd u hu=> ?_⟩
    obtain⟨c2,hc2,hcc2⟩:=mE (cs:=[c]) (xs:=[y]) hy (j:=0) rfl
    cases hc2
    exact RepC.out hd (p:= .any) (hcc2 (ax w0 I0 I M s.den w) u h.i00 hu)
  ·cases hx
 | .own k::ds,.own j0 ver::cs,xs,hx=>by
  simp only[E0]at hx
  split at hx
  ·rename_i t ys f d zs hg ho hys
   cases hx
   simp only[Bool.and_eq_true]at hg
   obtain⟨⟨e1,e2⟩,e3⟩:=hg
   have e1:=Nat.eq_of_beq_eq_true e1
   have e2:=Nat.eq_of_beq_eq_true e2
   have e3:k<mo.length:=by simpa [Nat.blt_eq]using e3
   subst e1
   subst e2
   obtain⟨h1,h2,h3⟩:=xO h hys
   refine⟨⟨rfl,h1⟩,by simp[h2],λj x hj=> ?_⟩
   cases j with
   |succ j=>simpa using h3 j x (by simpa using hj)
   |zero=>
    simp only[List.getElem?_cons_zero,Option.some.injEq]at hj
    subst hj
    refine⟨_,rfl,λhd u hu=> ?_⟩
    have hm:mo[k]? =some mo[k]:=List.getElem?_eq_getElem e3
    obtain⟨ob,hob,hrt⟩:=h.rts k _ hm
    have e:ob= .arr t ys 0 f d:=by have h1:s.obj k=some ob:=hob;rw[ho]at h1;exact(Option.some.inj h1).symm
    subst e
    obtain⟨r1,r2⟩:=hrt rfl
    obtain⟨t1,ys1,v1,f1,d1,q1,q2,q3,_⟩:=hu
    have q1':s.obj k=some (.arr t1 ys1 v1 f1 d1):=q1
    rw[ho]at q1'
    cases q1'
    have:=q3 rfl
    refine⟨_,hm, ?_⟩
    rw[←r1,←r2]
    exact this
  ·cases hx
 |[],_::_,_,hx=>by cases hx
 | .c _::_,[],_,hx=>by cases hx
 | .own _::_,[],_,hx=>by cases hx
 | .ptr _::_,[],_,hx=>by cases hx
 | .down _::_,[],_,hx=>by cases hx
 | .down _::_,_::_,_,hx=>by cases hx
 | .own _::_,.down _ _::_,_,hx=>by cases hx
 | .own _::_,.dptr _ _ _ _::_,_,hx=>by cases hx
 | .own _::_,.inn _ _ _ _::_,_,hx=>by cases hx
 | .own _::_,.iptr _ _ _ _ _ _::_,_,hx=>by cases hx
 | .own _::_,.bsl _::_,_,hx=>by cases hx
 | .ptr _::_,_::_,_,hx=>by cases hx
 | .own _::_,.bool _::_,_,hx=>by cases hx
 | .own _::_,.int _ _::_,_,hx=>by cases hx
 | .own _::_,.str _::_,_,hx=>by cases hx
 | .own _::_,.sl _ _ _::_,_,hx=>by cases hx
 | .own _::_,.nil::_,_,hx=>by cases hx
 | .own _::_,.ptr _ _::_,_,hx=>by cases hx
 | .own _::_,.eptr _ _ _ _::_,_,hx=>by cases hx
 | .own _::_,.vw _ _ _ _::_,_,hx=>by cases hx
 | .own _::_,.ref _ _::_,_,hx=>by cases hx
 | .own _::_,.fn _ _::_,_,hx=>by cases hx
 | .own _::_,.undef::_,_,hx=>by cases hx
 | .own _::_,.skipped::_,_,hx=>by cases hx
theorem Jq (h:SimX w0 mo n I0 I M s.den a w){id:Nat}{m:Mt}(hm:mo[id]? =some m){o:MO}(hfl:o.isDar=false→∀i j,m.inn i j=none){k:MO→Option cS}{z:cS}(hr:JK s mo.length id o k=some z):
  ∃x,k x=some z∧nW o x∧(∀b,((∃c,m.1=some (b,c))∨∃i j c,m.inn i j=some (b,c))→¬I b)∧(Dv w0 I0 I→dk mo (λb=>I0 b∨jn w0 I b) w m x):=by
 obtain⟨ob,ho,hrt⟩:=h.rts id m hm
 have hro:=h.objs id ob ho
 unfold JK at hr
 split at hr
 ·rename_i ds cs hob
  have e:ob= .box cs:=by have h1:s.obj id=some ob:=ho;rw[hob]at h1;exact(Option.some.inj h1).symm
  subst e
  split at hr
  ·rename_i xs hx
   obtain⟨b,g1,_,g3,g4,g5,g6⟩:=hro
   simp only[]at g1 g3 g4 g5 g6
   have hmb:m.1=some (b,0):=by rw[←g1];exact hrt.symm
   obtain⟨hsame,hlen,hat⟩:=xO h hx
   refine⟨_,hr,hsame,λb' hb'=> ?_,λhd=>⟨b,hmb,g3,λj c hj=> ?_,λj hj=>g6 j (by rw[←hlen];exact hj)⟩⟩
   ·rcases hb' with⟨c',hb'⟩|⟨i,j,c',hb'⟩
    ·rw[hmb]at hb';cases hb';exact g4
    ·rw[hfl rfl i j]at hb';cases hb'
   ·obtain⟨c',h1,h2⟩:=hat j c hj
    obtain⟨u,hu,hru,_⟩:=g5 j c' h1
    exact⟨u,hu,h2 hd u hru⟩
  ·cases hr
 ·rename_i t0 xs0 t xs ver frz d hob
  have e:ob= .arr t xs ver frz d:=by have h1:s.obj id=some ob:=ho;rw[hob]at h1;exact(Option.some.inj h1).symm
  subst e
  split at hr
  ·rename_i hg
   simp only[Bool.and_eq_true,Bool.not_eq_true',decide_eq_true_eq]at hg
   obtain⟨⟨hv,hfz⟩,ht⟩:=hg
   subst ht
   subst hfz
   obtain⟨h1,h2⟩:=hrt (Nat.eq_of_beq_eq_true hv)
   refine⟨_,hr,rfl,λb' hb'=> ?_,λhd=>⟨h2.symm, ?_⟩⟩
   ·rcases hb' with⟨c',hb'⟩|⟨i,j,c',hb'⟩
    case inr=>rw[hfl rfl i j]at hb';cases hb'
    rcases hro with⟨g1,_⟩|⟨b,cap,g1,_,_,g4,_⟩
    ·simp only[]at g1;rw[h1,hb']at g1;cases g1
    ·simp only[]at g1 g4
     rw[h1,hb']at g1;cases g1
     intro hI
     have:=g4.1 hI;cases this
   ·rcases hro with⟨g1,g2⟩|⟨b,cap,g1,g2,g3,g4,g5,g6,g7,g8⟩
    ·exact .inl ⟨by rw[←h1];exact g1,g2⟩
    ·refine .inr ⟨b,cap,by rw[←h1];exact g1,g3,g5,g6,g7,λi e j c he hc=> ?_⟩
     obtain⟨u,hu,hru⟩:=g8 i e j c he hc
     exact⟨u,hu,RepC.out hd hru⟩
  ·cases hr
 ·rename_i t0 xs0 t xs ver iv hob
  have e:ob= .dar t xs ver iv:=by have h1:s.obj id=some ob:=ho;rw[hob]at h1;exact(Option.some.inj h1).symm
  subst e
  split at hr
  ·rename_i hg
   simp only[Bool.and_eq_true,decide_eq_true_eq]at hg
   obtain⟨⟨hv,hiv⟩,ht⟩:=hg
   subst ht
   obtain⟨h1,h2⟩:=hrt.1 (Nat.eq_of_beq_eq_true hv)
   obtain⟨h3,h4⟩:=hrt.2 (Nat.eq_of_beq_eq_true hiv)
   have hdar:isDar (s.den.obj id)=true:=by rw[ho];rfl
   refine⟨_,hr,rfl,λb' hb'=> ?_,λhd=>⟨h2.symm, ?_,h4,λi j b c hm=> ?_⟩⟩
   ·rcases hb' with⟨c',hb'⟩|⟨i,j,c',hb'⟩
    ·rcases hro with⟨g1,_⟩|⟨b,cap,g1,_,g4,_⟩
     ·simp only[]at g1;rw[h1,hb']at g1;cases g1
     ·simp only[]at g1 g4
      rw[h1,hb']at g1;cases g1
      exact g4
    ·rw[←h3]at hb'
     exact(h.vir.lt id i j b' c' hdar hb').2.2
   ·rcases hro with⟨g1,g2⟩|⟨b,cap,g1,g3,g4,g5,g6,g7,g8⟩
    ·exact .inl ⟨by rw[←h1];exact g1,g2⟩
    ·exact .inr ⟨b,cap,by rw[←h1];exact g1,g3,g5,g6,g7,λi e j c he hc=>by rw[←h3];exact g8 i e j c he hc⟩
   ·rw[←h3]at hm
    exact(h.vir.lt id i j b c hdar hm).2.1
  ·cases hr
 ·cases hr
theorem sR (h:SimX w0 mo n I0 I M s.den a w):∀{O:List MO} {id:Nat} {k:List MO→Option cS} {z:cS},id+O.length=mo.length→(∀(k:Nat) (m:Mt) (o:MO),mo[id+k]? =some m→O[k]? =some o→o.isDar=false→∀i j,m.inn i j=none)→tF s mo.length O id k=some z→
  ∃xs,k xs=some z∧ar nW O xs∧(∀i m,id≤i→mo[i]? =some m→∀b,((∃c,m.1=some (b,c))∨∃i j c,m.inn i j=some (b,c))→¬I b)∧(Dv w0 I0 I→ar (dk mo (λb=>I0 b∨jn w0 I b) w) (mo.drop id) xs)
 |[],id,k,z,hl,_,hr=>by
  simp only[List.length_nil,Nat.add_zero]at hl
  refine⟨[],hr,trivial,λi m h1 h2=> ?_,λ_=> ?_⟩
  ·have:=(List.getElem?_eq_some_iff.1 h2).1;omega
  ·rw[List.drop_eq_nil_of_le (by omega)];trivial
 |o::O,id,k,z,hl,hfl,hr=>by
  simp only[List.length_cons]at hl
  have hlt:id<mo.length:=by omega
  have hm:mo[id]? =some mo[id]:=List.getElem?_eq_getElem hlt
  simp only[tF]at hr
  obtain⟨x,hr,h1,h2,h3⟩:=Jq h hm (hfl 0 _ o hm rfl) hr
  obtain⟨xs,hr,h4,h5,h6⟩:=sR h (by omega) (λk m o' hk ho=>hfl (k+1) m o' (by rw[show id+(k+1)=id+1+k by omega];exact hk) (by simpa using ho)) hr
  refine⟨x::xs,hr,⟨h1,h4⟩,λi m hi hmi=> ?_,λhd=> ?_⟩
  ·by_cases e:i=id
   ·subst e;rw[hm]at hmi;cases hmi;exact h2
   ·exact h5 i m (by omega) hmi
  ·rw[List.drop_eq_getElem_cons hlt]
   exact⟨h3 hd,h6 hd⟩
end
theorem MJ:∀{x y:MO},nj x=nj y→x=y
 | .box cs,.box ds,h=>by
  simp only[nj,Prod.mk.injEq,true_and]at h
  have h1:∀{c d:MC},LY c=LY d→c=d:=by
   intro c d h
   cases c<;>cases d<;>simp[LY]at h<;>first|rw[h]|(have:=(Int.ofNat.inj h);rw[this])
  have:∀{cs ds:List MC},cs.map LY=ds.map LY→cs=ds:=by
   intro cs
   induction cs with
   |nil=>intro ds h;cases ds<;>simp at h;rfl
   |cons c cs ih=>intro ds h;cases ds with
    |nil=>simp at h
    |cons d ds=>simp at h;rw[h1 h.1,ih h.2]
  rw[this h]
 | .arr t xs,.arr t' ys,h=>by
  simp only[nj,Prod.mk.injEq,true_and,List.cons.injEq,RC.c.injEq,and_true]at h
  cases h
  rfl
 | .dar t xs,.dar t' ys,h=>by
  simp only[nj,Prod.mk.injEq,true_and,List.cons.injEq,RC.dar.injEq,and_true]at h
  obtain⟨rfl,h⟩:=h
  rw[eq_of_heq h]
 | .box _,.arr _ _,h=>by simp[nj]at h
 | .box _,.dar _ _,h=>by simp[nj]at h
 | .arr _ _,.dar _ _,h=>by simp[nj]at h
 | .dar _ _,.box _,h=>by simp[nj]at h
 | .dar _ _,.arr _ _,h=>by simp[nj]at h
 | .arr _ _,.box _,h=>by simp[nj]at h
theorem qe:∀{xs ys:List MO},xs.map nj=ys.map nj→xs=ys
 |[],[],_=>rfl
 |x::xs,y::ys,h=>by simp only[List.map_cons,List.cons.injEq]at h;rw[MJ h.1,qe h.2]
 |[],_::_,h=>by simp at h
 |_::_,[],h=>by simp at h
theorem HZ {P:Program}{te:TE}(hte:fQ te P=true)(hmix:P.follows .mixedOrders=true){orc:HU}(ho:qV (kI P) orc){lorc:Dr}{ann:List (Nat×An)}{f:Nat}{fn:Func}(hf:P.funcs[f]? =some fn)
  (hn:(fn.name== "runtime.NumGoroutine")=false){A:List PV}{O:List MO}{R:cS}{O':List MO}(hann:∀b A,ac ann b=some A→A.keep.roots=O.length∧A.kout.roots=O.length)(hO:O.length≤10000)(hO':O'.length=O.length)
  (hloop:∀c,fn.body=some c→∀(w0:World) (mo:gj) (I0:Nat→Prop),mo.length=O.length→∀p∈gI c 0,CU P (ui w0 mo fn.ntmps I0) lorc p.1 p.2)(h:qn te orc lorc ann fn A O=some (R++O'.map nj)):kI P f A O R O':=by
 unfold qn at h
 split at h
 ·rename_i c hb
  split at h
  ·rename_i hle
   rw[Bool.and_eq_true,Bool.and_eq_true]at hle
   obtain⟨⟨hle,hfit⟩,hfitO⟩:=hle
   have hle:=Nat.le_of_ble_eq_true hle
   refine⟨t9 hf hb hn,λw J mo vs hJ hmo hinj hX hg hgx hA=> ?_⟩
   refine calls_of_wp hf hb ?_
   have hmlen:mo.length=O.length:=hmo.length
   have hsz:vs.size=A.length:=by have:=hA.length;simpa using this.symm
   have hobj:(⟨qf 0 A,au 0 (O.map MO.toOb),O.length⟩:St).den.obj=v9 O:=by
    funext id
    show ac (au 0 (O.map MO.toOb)) id=_
    rw[Ca,if_pos (Nat.zero_le _),Nat.sub_zero,List.getElem?_map]
   have hsome:∀id,v9 O id≠none→∃m o,mo[id]? =some m∧O[id]? =some o∧dk mo J w m o:=by
    intro id hid
    cases ho:O[id]? with
    |none=>simp only[v9,ho]at hid;exact absurd rfl hid
    |some o=>
     have hlt:=(List.getElem?_eq_some_iff.1 ho).1
     have hm:mo[id]? =some (mo[id]'(by omega)):=List.getElem?_eq_getElem (by omega)
     obtain⟨o',h1,h2⟩:=hmo.at hm
     rw[ho]at h1;cases h1
     exact⟨_,_,hm,rfl,h2⟩
   have hs0:ui w mo fn.ntmps J (⟨qf 0 A,au 0 (O.map MO.toOb),O.length⟩:St).den {tmps:=vs++Array.replicate (fn.ntmps-vs.size) undef,defers:=[]} w:=by
    refine⟨J,sY mo,⟨BelowX.refl _ _ _,λ_ hb=>hb,hJ,hJ,λ_ hb=> .inl hb,λid b c hid hM=> ?_,λk m hm=> ?_,by simp;omega,rfl,λt=> ?_,λid o ho=> ?_,λid id' b c c' h1 h2 h3 h4=> ?_,hg,hgx, ?_⟩⟩
    ·refine .inr ?_
     cases hm:mo[id]? with
     |none=>simp only[sY,hm]at hM;cases hM
     |some m=>simp only[sY,hm,Option.bind_some]at hM;exact⟨m,c,hm,hM⟩
    ·obtain⟨o,h1,h2⟩:=hmo.at hm
     rw[hobj]
     refine⟨o.toOb,by simp only[v9,h1,Option.map_some], ?_⟩
     have hM:sY mo k=m.1:=by simp only[sY,hm,Option.bind_some]
     cases o with
     |box cs=>exact hM
     |arr t xs=>exact λ_=>⟨hM,h2.1.symm⟩
     |dar t xs=>exact⟨λ_=>⟨hM,h2.1.symm⟩,λ_=>⟨by funext i j;simp only[sY,hm,Option.bind_some],h2.2.2.1⟩⟩
    ·rw[hobj]
     have:=En hmo (k:=0) (t:=t) hfit hA
     simp only[Nat.zero_le,if_true,Nat.sub_zero]at this
     have hval:(vs++Array.replicate (fn.ntmps-vs.size) undef).getD t undef=(vs.toList[t]?).getD undef:=by
      simp only[Array.getD_eq_getD_getElem?,Array.getElem?_append,Array.getElem?_toList]
      split
      ·rfl
      ·rename_i hge
       rw[Array.getElem?_replicate,Array.getElem?_eq_none (by omega)]
       split<;>rfl
     simp only[]
     rw[hval]
     exact this
    ·rw[hobj]at ho⊢
     obtain⟨m,o',h1,h2,h3⟩:=hsome id (by rw[ho];simp)
     have:o=o'.toOb:=by
      have ho':v9 O id=some o:=ho
      simp only[v9,h2,Option.map_some,Option.some.injEq]at ho'
      exact ho'.symm
     rw[this]
     exact Qp hmo h3 (by rw[List.all_eq_true]at hfitO;exact hfitO _ (List.mem_of_getElem? h2)) (λb c hb=>hX b ⟨m,List.mem_of_getElem? h1,.inl ⟨c,hb⟩⟩) h1
    ·rw[hobj]at h1 h2
     obtain⟨m,_,g1,_,_⟩:=hsome id h1
     obtain⟨m',_,g2,_,_⟩:=hsome id' h2
     simp only[sY,g1,Option.bind_some]at h3
     simp only[sY,g2,Option.bind_some]at h4
     exact hinj.inj id id' b c c' m m' g1 g2 h3 h4
    ·rw[hobj]
     have hd:∀id,isDar (v9 O id)=true→∃(m:Mt) (t:Ty) (xs:List t.T),mo[id]? =some m∧(sY mo).n id=m.inn∧dk mo J w m (.dar t xs):=by
      intro id hd
      obtain⟨m,o,g1,g2,g3⟩:=hsome id (CV hd)
      have:isDar (some o.toOb)=true:=by rw[show v9 O id=some o.toOb by simp only[v9,g2,Option.map_some]]at hd;exact hd
      cases o with
      |box _=>cases this
      |arr _ _=>cases this
      |dar t xs=>exact⟨m,t,xs,g1,by funext i j;simp only[sY,g1,Option.bind_some],g3⟩
     refine⟨λid i j b c h1 h2=> ?_,λid id' i i' j j' b c c' h1 h2 h3 h4=> ?_,λid id' i j b c c' h1 h2 h3 h4=> ?_⟩
     ·obtain⟨m,t,xs,g1,g2,g3⟩:=hd id h1
      rw[g2]at h2
      exact⟨.inr ⟨m,i,j,c,g1,h2⟩,g3.2.2.2 i j b c h2,hX b ⟨m,List.mem_of_getElem? g1,.inr ⟨i,j,c,h2⟩⟩⟩
     ·obtain⟨m,t,xs,g1,g2,g3⟩:=hd id h1
      obtain⟨m',t',xs',g4,g5,g6⟩:=hd id' h2
      rw[g2]at h3
      rw[g5]at h4
      exact hinj.vinj id id' i i' j j' b c c' m m' g1 g4 h3 h4
     ·obtain⟨m,t,xs,g1,g2,g3⟩:=hd id h1
      obtain⟨m',_,g4,_,_⟩:=hsome id' h2
      rw[g2]at h3
      simp only[sY,g4,Option.bind_some]at h4
      exact hinj.vdis id id' i j b c c' m m' g1 g4 h3 h4
   have hb0:ce (⟨qf 0 A,au 0 (O.map MO.toOb),O.length⟩:St):=by
    intro id hid
    have hid':v9 O id≠none:=by rw[←hobj];exact hid
    obtain⟨_,_,_,h2,_⟩:=hsome id hid'
    exact(List.getElem?_eq_some_iff.1 h2).1
   refine eq (r:=O.length) (S:=ui w mo fn.ntmps J) hann (N2 hte w mo fn.ntmps J) (λkeep s a w' hk hs hb=>IJ hs hb keep (by rw[hk,hmlen]) (by omega)) (λ_ _ _ _ h=>B2 h) hmix ho c (hloop c hb w mo J hmlen) h hb0 hs0 ?_
   intro e s1 hk hbd a' w' hS1
   obtain⟨hS,_⟩:=rX (F5 ann) hS1 hbd
   try dsimp only at hk
   generalize hs1:mM (F5 ann) s1=s' at hk hS
   have hfin:∀(hk:yl te s' O.length fn.results.toList fn.resultTypes.toList [] (λR=>tF s' O.length O 0 λO'=>some (R++O'.map nj))=some (R++O'.map nj)),a'.defers=[]∧∃v,(results fn a'.tmps).run P w'= .ok v w'∧
     ∃v' Jn mm,Ending.returned v= .returned v'∧BelowX w.heap.size mo.X w w'∧(∀b,Jn b→w.heap.size≤b∧b<w'.heap.size)∧
   MmOk mm w.heap.size∧(∀i b c,mm i=some (b,c)→w.heap.size≤b)∧((iu mo w.heap.size J Jn w' mm R v'∧ar (dk mo (λb=>J b∨Jn b) w') mo O')∨lw mo (λb=>J b∨Jn b) w w' R v' O')∧ar nW O O':=by
    intro hk
    obtain⟨I,M,hs⟩:=hS
    rw[←hmlen]at hk
    obtain⟨us,R',used',ms,hruns,hR,hms,hlen,hrep⟩:=A4 hte hs hk
    obtain⟨O2,hR,hsame,hout,hro⟩:=sR hs (by omega) (λk m o hk=>by rw[Nat.zero_add]at hk;exact hinj.flat k m o hk) hR
    have hR:=Option.some.inj hR
    have hl2:O2.length=O.length:=hsame.length.symm
    obtain⟨e1,e2⟩:=List.append_inj' hR (by simp;omega)
    have e2:=qe e2
    subst e1
    subst e2
    have hd:Dv w J I:=by
     intro b hb
     rcases hs.idiv b hb with h1|h1|h1
     ·exact .inl h1
     ·exact .inr h1
     ·exfalso
      obtain⟨m,hm,hc⟩:=h1
      obtain⟨i,hi⟩:=List.getElem?_of_mem hm
      exact hout i m (Nat.zero_le _) hi b hc hb
    have hro:=hro hd
    rw[List.drop_zero]at hro
    let mm:MF:=⟨λi=>(ms[i]?).bind (·.1),λi j k=>(ms[i]?).bind λm=>m.2 j k⟩
    have hmm:∀i b c,mm i=some (b,c)→∃m,ms[i]? =some m∧m.1=some (b,c):=by
     intro i b c hi
     cases hx:ms[i]? with
     |none=>simp[mm,hx]at hi
     |some m=>simp[mm,hx]at hi;exact⟨m,rfl,hi⟩
    have hmn:∀i j k b c,mm.n i j k=some (b,c)→∃m,ms[i]? =some m∧m.2 j k=some (b,c):=by
     intro i j k b c hi
     cases hx:ms[i]? with
     |none=>simp[mm,hx]at hi
     |some m=>simp[mm,hx]at hi;exact⟨m,rfl,hi⟩
    have hrep:=hrep hd mm 0 (by intro i m hi;rw[Nat.zero_add];exact⟨by simp[mm,hi],by funext j k;simp[mm,hi]⟩)
    have hmap:(fn.results.mapM (λr=>M0 r a'.tmps)).run P w'= .ok us.toArray w':=by
     rw[Array.mapM_eq_mapM_toList]
     simp only[Sem.run_map,uQ hruns,Result.andThen_ok]
    have hlR:=hrep.len
    have hres:(results fn a'.tmps).run P w'= .ok (if h:us.toArray.size=1 then us.toArray[0]else .tuple us.toArray) w':=by
     have e1:results fn a'.tmps=(do
      let vs ←fn.results.mapM (λr=>M0 r a'.tmps)
      pure (if h:vs.size=1 then vs[0]else .tuple vs)):=by
      unfold results
      congr 2
     rw[e1]
     simp only[Sem.run_bind,hmap,Result.andThen_ok,Sem.run_pure]
    refine⟨hs.defers,_,hres,_,jn w I,mm,rfl,hs.below,λb hb=>⟨hb.2,hs.ilt b hb.1⟩,⟨?_, ?_, ?_, ?_⟩, ?_,.inl ⟨?_,hro⟩,hsame⟩
    ·intro i j b c c' hi hj
     obtain⟨m,h1,h2⟩:=hmm i b c hi
     obtain⟨m',h3,h4⟩:=hmm j b c' hj
     exact hms.dist i j b c c' m m' h1 h3 h2 h4
    ·intro i i' j j' k k' b c c' hi hj
     obtain⟨m,h1,h2⟩:=hmn i j k b c hi
     obtain⟨m',h3,h4⟩:=hmn i' j' k' b c' hj
     obtain⟨id,_,_,h5,h6,_⟩:=hms.vfresh i j k b c m h1 h2
     obtain⟨id',_,_,h7,h8,_⟩:=hms.vfresh i' j' k' b c' m' h3 h4
     exact⟨hms.vdist i i' j j' k k' b c c' m m' h1 h3 h2 h4,(hs.vir.inj id id' j j' k k' b c c' h5 h7 h6 h8).2⟩
    ·intro i i' j k b c c' hi hj
     obtain⟨m,h1,h2⟩:=hmn i j k b c hi
     obtain⟨m',h3,h4⟩:=hmm i' b c' hj
     obtain⟨id,_,_,h5,h6,_⟩:=hms.vfresh i j k b c m h1 h2
     obtain⟨id',_,_,h7,h8,_⟩:=hms.fresh i' b c' m' h3 h4
     exact hs.vir.dis id id' j k b c c' h5 h7 h6 h8
    ·intro i j k b c hi
     obtain⟨m,h1,h2⟩:=hmn i j k b c hi
     obtain⟨_,_,_,_,_,h5⟩:=hms.vfresh i j k b c m h1 h2
     exact h5
    ·intro i b c hi
     obtain⟨m,h1,h2⟩:=hmm i b c hi
     obtain⟨_,_,_,_,_,h5⟩:=hms.fresh i b c m h1 h2
     exact h5
    ·refine iu.of ?_
     match R',us,hrep,hlR with
     |[r],[u],hrep,_=>
      have e1:(if h:[u].toArray.size=1 then[u].toArray[0]else .tuple [u].toArray)=u:=by simp
      rw[e1];exact hrep.1
     |[],[],hrep,_=>exact⟨_,rfl,hrep⟩
     |r1::r2::rs,u1::u2::us,hrep,_=>exact⟨(u1::u2::us).toArray,by simp,hrep⟩
     |[],_::_,_,hl=>simp at hl
     |[_],[],_,hl=>simp at hl
     |[_],_::_::_,_,hl=>simp at hl
     |_::_::_,[],_,hl=>simp at hl
     |_::_::_,[_],_,hl=>simp at hl
   have hfin2:∀(hk:KA te s' O.length fn.results.toList fn.resultTypes.toList (λR=>tF s' O.length O 0 λO'=>some (R++O'.map nj))=some (R++O'.map nj)),a'.defers=[]∧∃v,(results fn a'.tmps).run P w'= .ok v w'∧
     ∃v' Jn mm,Ending.returned v= .returned v'∧BelowX w.heap.size mo.X w w'∧(∀b,Jn b→w.heap.size≤b∧b<w'.heap.size)∧
   MmOk mm w.heap.size∧(∀i b c,mm i=some (b,c)→w.heap.size≤b)∧((iu mo w.heap.size J Jn w' mm R v'∧ar (dk mo (λb=>J b∨Jn b) w') mo O')∨lw mo (λb=>J b∨Jn b) w w' R v' O')∧ar nW O O':=by
    intro hk
    unfold KA at hk
    split at hk
    ·rename_i x hres
     split at hk
     ·rename_i c hx
      split at hk
      ·rename_i id k hsh
       obtain⟨I,M,hs⟩:=hS
       rw[←hmlen]at hk hsh
       have hval:=KC hs hx hsh
       obtain⟨O2,hR,hsame,hout,hro⟩:=sR hs (by omega) (λk m o hk=>by rw[Nat.zero_add]at hk;exact hinj.flat k m o hk) hk
       have hR:=Option.some.inj hR
       have hl2:O2.length=O.length:=hsame.length.symm
       obtain⟨e1,e2⟩:=List.append_inj' hR (by simp;omega)
       have e2:=qe e2
       subst e1
       subst e2
       have hd:Dv w J I:=by
        intro b hb
        rcases hs.idiv b hb with h1|h1|h1
        ·exact .inl h1
        ·exact .inr h1
        ·exfalso
         obtain⟨m,hm,hc⟩:=h1
         obtain⟨i,hi⟩:=List.getElem?_of_mem hm
         exact hout i m (Nat.zero_le _) hi b hc hb
       have hro:=hro hd
       rw[List.drop_zero]at hro
       have hresA:fn.results= #[.tmp x]:=by apply Array.ext';simpa using hres
       have hresR:(results fn a'.tmps).run P w'= .ok (a'.tmps.getD x undef) w':=by
        unfold results
        rw[hresA]
        simp
       exact⟨hs.defers,_,hresR,_,jn w I,⟨λ_=>none,λ_ _ _=>none⟩,rfl,hs.below,λb hb=>⟨hb.2,hs.ilt b hb.1⟩,⟨by simp,by simp,by simp,by simp⟩,by simp,.inl ⟨hval,hro⟩,hsame⟩
      ·exact hfin hk
     ·exact hfin hk
    ·exact hfin hk
   cases e with
   |exit id=>cases hk
   |normal=>exact hfin2 hk
   |ret=>exact hfin2 hk
  ·cases h
 ·cases h
end Go.Proofs.YtffjmkhjhchnmaaGreat
