/- Variables written. -/
import Derived.Test.YtffjmkhjhchnmaaGreatOps7
set_option linter.unusedVariables false
set_option linter.unusedSimpArgs false
namespace Go.Proofs.YtffjmkhjhchnmaaGreat
open Go Go.RowKit
theorem cX (b:Nat):∀(vs:List Value) (o:Nat) (w:World),(∀b',b'≠b→(w.setCells b o vs).heap[b']? =w.heap[b']?)∧(w.setCells b o vs).heap.size=w.heap.size∧
  (w.setCells b o vs).os=w.os∧(w.setCells b o vs).tape=w.tape∧(w.setCells b o vs).output=w.output
 |[],_,_=>⟨λ_ _=>rfl,rfl,rfl,rfl,rfl⟩
 |v::vs,o,w=>by
  obtain⟨h1,h2,h3,h4,h5⟩:=cX b vs (o+1) (w.setCell ⟨b,o,none⟩ v)
  refine⟨λb' hb'=> ?_, ?_, ?_, ?_, ?_⟩
  ·rw[World.setCells,h1 b' hb'];exact Below.heap_setCell w _ v b' hb'
  ·rw[World.setCells,h2];simp
  ·rw[World.setCells,h3];rfl
  ·rw[World.setCells,h4];rfl
  ·rw[World.setCells,h5];rfl
theorem dQ {w:World}{b off:Nat}{us:List Value}{m:Nat}(hin:∀j,j<m→(w.cell? ⟨b,j,none⟩).isSome=true)(hfit:off+us.length≤m)(j:Nat):
  (w.setCells b off us).cell? ⟨b,j,none⟩=if off≤j∧j<off+us.length then us[j-off]? else w.cell? ⟨b,j,none⟩:=by
 by_cases h:off≤j∧j<off+us.length
 ·rw[if_pos h]
  have:=World.cell?_setCells_in b us off w (λk hk=>hin (off+k) (by omega)) (j-off) (by omega)
  rw[show off+(j-off)=j from by omega]at this
  rw[this]
  simp[List.getElem?_eq_getElem (show j-off<us.length by omega)]
 ·rw[if_neg h]
  refine World.cell?_setCells_out b us off w _ λ_ _=> ?_
  simp only
  omega
section
variable {α:Type} {C:Nat→List PV→List MO→cS→List MO→Prop} {w0:World} {mo:gj} {n:Nat} {I0 I:Nat→Prop} {M:MF} {s:FSt} {a:Act} {w:World} {te:TE} {P:Program} {base:Nat} {e:Eff} {o:Oper}
theorem RepC.weaken {x:Cx}{p q:Pv}{w:World}{c:Cell}{v:Value}(h:RepC (x.J p) w c v)(hpq:p=q∨(p= .new∧q= .any)):RepC (x.J q) w c v:=by
 rcases hpq with rfl|⟨rfl,rfl⟩
 ·exact h
 ·exact h.mono (λ_ _=>rfl) λ_ hb=>hb.1
theorem ug (hte:fQ te P=true){t:Nat}{ti:TI}(hl:ac te t=some ti)(hp:1≤ti.fl.length){v:Value}(hlen:v.cells.size=ti.fl.length){b off m:Nat}(hin:∀j,j<m→(w.cell? ⟨b,j,none⟩).isSome=true∧w.frozen? ⟨b,j,none⟩=false)
  (hfit:off+v.cells.size≤m)(h1:∀u∈v.cells.toList,u.oneCell'=true):(storeVar t ⟨b,off,none⟩ v).run P w= .ok () (w.setCells b off v.cells.toList):=by
 obtain⟨i,z,hi,hs,hz,hz0,hsz,hagg,hz1,hone⟩:=sK hte hl hp
 have:=run_storeCells_cells (P:=P) b off v.cells.toList 0 w (λj hj=>(hin _ (by simp at hj;omega)).1) (λj hj=>(hin _ (by simp at hj;omega)).2) h1
 simp only[Nat.add_zero]at this
 simp[storeVar,hsz,hlen,this]
theorem SimX.dset (h:SimX w0 mo n I0 I M s a w){id:Nat}{t:Ty}{xs:List t.T}{ver iv iv':Nat}(hob:s.obj id=some (.dar t xs ver iv)){b cap i off:Nat}(hM:M id=some (b,cap))(hi:i<xs.length){us:List Value}{ls:List Cell}{e1:t.T}(hlen:ls.length=us.length)(hfit:off+us.length≤t.size)
  (hce:t.cells e1=splice (t.cells (xs.getD i t.zero)) off ls){n':Nat→Nat→Option (Nat×Nat)}(hiv:iv≤iv')(hsame:iv=iv'→n'=M.n id∧jA xs (xs.set i e1))(hold:∀i' j,¬(i'=i∧off≤j∧j<off+us.length)→n' i' j=M.n id i' j)
  (hnew:∀j b c,off≤j→j<off+us.length→n' i j=some (b,c)→FreeB w0 I M s.obj w.heap.size b∨M.n id i j=some (b,c))(hnn:∀j j' b c c',off≤j→j<off+us.length→off≤j'→j'<off+us.length→n' i j=some (b,c)→n' i j'=some (b,c')→j=j')
  (hrep:∀(j:Nat) c u,ls[j]? =some c→us[j]? =some u→d9 n' w i (off+j) c u):
  SimX w0 mo n I0 I (aE M id (some (b,cap)) n') ⟨s.tmp,af s.obj id (.dar t (xs.set i e1) ver iv')⟩ a (w.setCells b (i*t.size+off) us):=by
 have hidl:s.obj id≠none:=by rw[hob];simp
 have hidd:isDar (s.obj id)=true:=by rw[hob];rfl
 rcases h.objs id _ hob with⟨h1,_⟩|⟨b',cap',hM',hblt,hnI,hle,hmx,hcells,hel⟩
 ·simp only[]at h1;rw[hM]at h1;cases h1
 simp only[]at hM' hblt hnI hcells hel
 rw[hM]at hM';cases hM'
 have hcl0:(t.cells (xs.getD i t.zero)).length=t.size:=Ty.cells_length _ _
 have hfit0:off+ls.length≤(t.cells (xs.getD i t.zero)).length:=by omega
 have hrow:(i+1)*t.size≤cap*t.size:=Nat.mul_le_mul_right _ (by omega)
 rw[Nat.add_mul,Nat.one_mul]at hrow
 obtain⟨q1,q2,q3,q4,q5⟩:=cX b us (i*t.size+off) w
 have hcl:=dQ (w:=w) (b:=b) (off:=i*t.size+off) (us:=us) (m:=cap*t.size) (λj hj=>(hcells j hj).1) (by omega)
 have hB:∀i' j b c,n' i' j=some (b,c)→FreeB w0 I M s.obj w.heap.size b∨M.n id i' j=some (b,c):=by
  intro i' j b c hb
  by_cases hr:i'=i∧off≤j∧j<off+us.length
  ·obtain⟨rfl,h1,h2⟩:=hr
   exact hnew j b c h1 h2 hb
  ·rw[hold i' j hr]at hb
   exact .inr hb
 have hne:∀i' j b' c,n' i' j=some (b',c)→b'≠b:=by
  rintro i' j b' c hb rfl
  rcases hB i' j _ c hb with h1|h1
  ·exact h1.m id cap hidl hM
  ·exact h.vir.dis id id i' j _ c cap hidd hidl h1 hM
 have hold2:∀i' j b c,¬(i'=i∧off≤j∧j<off+us.length)→n' i' j=some (b,c)→M.n id i' j=some (b,c):=by
  intro i' j b c hr hb
  rw[hold i' j hr]at hb
  exact hb
 refine(h.dput (id:=id) (xs':=xs.set i e1) (ver':=ver) (iv':=iv') (m:=some (b,cap)) (n':=n') (w':=w.setCells b (i*t.size+off) us) (by rw[hob];exact⟨Nat.le_refl _,hiv,λ_=>⟨rfl,by simp,hM.symm⟩,λe=>⟨rfl,hsame e⟩⟩)
  (λb' _ hx=>q1 b' (by rintro rfl;exact hx cap hidl hM)) (by rw[q2];exact Nat.le_refl _) q3 q4 q5 (by intro b' c hm;cases hm;exact .inr ⟨hidl,cap,hM⟩) (λi' j b' c hb=>by
   rcases hB i' j b' c hb with h1|h1
   ·exact .inl (by rw[q2];exact h1)
   ·exact .inr ⟨hidl,i',j,c,h1⟩) (λi1 j1 i2 j2 b' c c' h1 h2=> ?_) (λi' j b' c c' h1 h2=>by cases h2;exact hne i' j _ c h1 rfl) λhext=> ?_).2
 ·by_cases r1:i1=i∧off≤j1∧j1<off+us.length<;>by_cases r2:i2=i∧off≤j2∧j2<off+us.length
  ·obtain⟨rfl,h3,h4⟩:=r1
   obtain⟨rfl,h5,h6⟩:=r2
   exact⟨rfl,hnn j1 j2 b' c c' h3 h4 h5 h6 h1 h2⟩
  ·have h2:=hold2 i2 j2 b' c' r2 h2
   rcases hB i1 j1 b' c h1 with h3|h3
   ·exact(h3.n id i2 j2 c' hidd h2).elim
   ·exact(h.vir.inj id id i1 i2 j1 j2 b' c c' hidd hidd h3 h2).2
  ·have h1:=hold2 i1 j1 b' c r1 h1
   rcases hB i2 j2 b' c' h2 with h3|h3
   ·exact(h3.n id i1 j1 c hidd h1).elim
   ·exact(h.vir.inj id id i1 i2 j1 j2 b' c c' hidd hidd h1 h3).2
  ·exact(h.vir.inj id id i1 i2 j1 j2 b' c c' hidd hidd (hold2 i1 j1 b' c r1 h1) (hold2 i2 j2 b' c' r2 h2)).2
 ·have hmono:∀i' j c u,d9 n' w i' j c u→d9 n' (w.setCells b (i*t.size+off) us) i' j c u:=λi' j c u hr=>hr.mono λb' k hb=>q1 b' (hne i' j b' k hb)
  refine .inr ⟨b,cap,by simp only[aE,if_pos],by simp only[];rw[q2];exact hblt,hnI,by simpa using hle,by simpa using hmx,λj hj=>⟨?_, ?_⟩,λi' x j c hxi hcj=> ?_⟩
  ·simp only[]
   rw[hcl j]
   split
   ·rename_i hjr
    have:j-(i*t.size+off)<us.length:=by omega
    simp[List.getElem?_eq_getElem this]
   ·exact(hcells j hj).1
  ·simp only[]
   rw[World.frozen?_setCells]
   exact(hcells j hj).2
  ·have hjs:j<t.size:=by
    have:=(List.getElem?_eq_some_iff.1 hcj).1
    rwa [Ty.cells_length]at this
   simp only[aE,if_pos]
   have hkeep:∀(y0:t.T) (c0:Cell),xs[i']? =some y0→(t.cells y0)[j]? =some c0→¬(i'=i∧off≤j∧j<off+us.length)→¬(i*t.size+off≤i'*t.size+j∧i'*t.size+j<i*t.size+off+us.length)→
     ∃u1,(w.setCells b (i*t.size+off) us).cell? ⟨b,i'*t.size+j,none⟩=some u1∧d9 n' (w.setCells b (i*t.size+off) us) i' j c0 u1:=by
    intro y0 c0 hy0 hc0 hr hno
    obtain⟨u1,hu1,hru1⟩:=hel i' y0 j c0 hy0 hc0
    refine⟨u1,by rw[hcl,if_neg hno];exact hu1,hmono _ _ _ _ ?_⟩
    have e1:=hold i' j hr
    cases c0 with
    |sl t1 ys=>show iZ w (n' i' j) t1 ys u1;rw[e1];exact hru1
    |bool _=>exact hru1
    |int _ _=>exact hru1
    |str _=>exact hru1
    |raw _=>exact hru1
   rw[List.getElem?_set]at hxi
   by_cases hii:i=i'
   ·subst hii
    rw[if_pos rfl,if_pos hi]at hxi
    cases hxi
    rw[hce]at hcj
    by_cases hin:off≤j∧j<off+ls.length
    ·rw[em hfit0 hin.1 hin.2]at hcj
     have hlt:j-off<us.length:=by omega
     have:=hrep (j-off) c us[j-off] hcj (List.getElem?_eq_getElem hlt)
     rw[show off+(j-off)=j by omega]at this
     refine⟨_, ?_,hmono _ _ _ _ this⟩
     rw[hcl,if_pos (by omega),show i*t.size+j-(i*t.size+off)=j-off by omega]
     exact List.getElem?_eq_getElem hlt
    ·rw[cD hfit0 (by omega)]at hcj
     exact hkeep _ c (by simp[List.getD,List.getElem?_eq_getElem hi]) hcj (by omega) (by omega)
   ·rw[if_neg hii]at hxi
    refine hkeep x c hxi hcj (λhc=>hii hc.1.symm) ?_
    rcases Nat.lt_or_ge i' i with hlt|hge
    ·have:(i'+1)*t.size≤i*t.size:=Nat.mul_le_mul_right _ hlt
     rw[Nat.add_mul,Nat.one_mul]at this
     omega
    ·have:(i+1)*t.size≤i'*t.size:=Nat.mul_le_mul_right _ (by omega)
     rw[Nat.add_mul,Nat.one_mul]at this
     omega
theorem SimX.inset (h:SimX w0 mo n I0 I M s a w){id:Nat}{t:Ty}{xs:List t.T}{ver iv:Nat}(hob:s.obj id=some (.dar t xs ver iv)){i off:Nat}(hi:i<xs.length){t2:Ty}{ys ys':List t2.T}(hcell:(t.cells (xs.getD i t.zero))[off]? =some (.sl t2 ys))(hlen:ys'.length=ys.length)
  {e1:t.T}(hce:t.cells e1=splice (t.cells (xs.getD i t.zero)) off [.sl t2 ys']){w':World}(hw:∀b,(∀c,M.n id i off≠some (b,c))→w'.heap[b]? =w.heap[b]?)(hsz:w'.heap.size=w.heap.size)(hos:w'.os=w.os)(htape:w'.tape=w.tape)(hout:w'.output=w.output)
  (hown:∀u,iZ w (M.n id i off) t2 ys u→iZ w' (M.n id i off) t2 ys' u):
  SimX w0 mo n I0 I M ⟨s.tmp,af s.obj id (.dar t (xs.set i e1) ver iv)⟩ a w':=by
 have hidl:s.obj id≠none:=by rw[hob];simp
 have hidd:isDar (s.obj id)=true:=by rw[hob];rfl
 have hx0:xs[i]? =some (xs.getD i t.zero):=by simp[List.getD,List.getElem?_eq_getElem hi]
 have hXI:∀b c,M.n id i off=some (b,c)→b<w.heap.size∧¬I b∧(w0.heap.size≤b∨mo.X b):=by
  intro b c hc
  obtain⟨h1,h2,h3⟩:=h.vir.lt id i off b c hidd hc
  exact⟨h2,h3,h1.imp_right gj.AtV.x⟩
 have hI:∀b,I b→w'.heap[b]? =w.heap[b]? :=λb hb=>hw b λc hc=>(hXI b c hc).2.1 hb
 have hfl:off<(t.cells (xs.getD i t.zero)).length:=(List.getElem?_eq_some_iff.1 hcell).1
 have hfit0:off+[Cell.sl t2 ys'].length≤(t.cells (xs.getD i t.zero)).length:=by show off+1≤_;omega
 have hil:jA xs (xs.set i e1):=by
  intro i' k e2 t1 zs hxi hck
  by_cases hii:i=i'
  ·subst hii
   rw[hx0]at hxi;cases hxi
   by_cases hko:k=off
   ·subst hko
    rw[hcell]at hck
    injection hck with hck
    injection hck with q1 q2
    subst q1
    have q2:=eq_of_heq q2
    subst q2
    refine⟨e1,ys',by rw[List.getElem?_set,if_pos rfl,if_pos hi], ?_,hlen⟩
    rw[hce,em hfit0 (Nat.le_refl _) (by simp),Nat.sub_self]
    rfl
   ·refine⟨e1,zs,by rw[List.getElem?_set,if_pos rfl,if_pos hi], ?_,rfl⟩
    rw[hce,cD hfit0 (by simp;omega)]
    exact hck
  ·exact⟨e2,zs,by rw[List.getElem?_set,if_neg hii];exact hxi,hck,rfl⟩
 have hlive:∀k,af s.obj id (.dar t (xs.set i e1) ver iv) k≠none→s.obj k≠none:=by
  intro k hk
  by_cases e:k=id
  ·rw[e];exact hidl
  ·simpa only[af,if_neg e]using hk
 have hdar:∀k,isDar (af s.obj id (.dar t (xs.set i e1) ver iv) k)=true→isDar (s.obj k)=true:=by
  intro k hk
  by_cases e:k=id
  ·rw[e];exact hidd
  ·simpa only[af,if_neg e]using hk
 have hext:Ext (ax w0 I0 I M s w) ⟨w0.heap.size,I0,I,M,af s.obj id (.dar t (xs.set i e1) ver iv),w'⟩:=by
  refine⟨rfl,rfl,h.i00,λ_ hb=>hb,hI,λk cs hk=> ?_,λk t3 xs3 v3 f3 d3 hk=> ?_,λk t3 xs3 v3 k3 hk=> ?_⟩
  ·have hne:k≠id:=by rintro rfl;simp only[]at hk;rw[hob]at hk;cases hk
   exact⟨⟨cs,by simp only[af,if_neg hne];exact hk⟩,rfl⟩
  ·have hne:k≠id:=by rintro rfl;simp only[]at hk;rw[hob]at hk;cases hk
   exact⟨t3,xs3,v3,f3,d3,by simp only[af,if_neg hne];exact hk,Nat.le_refl _,λ_=>⟨rfl,rfl,rfl⟩⟩
  ·by_cases e:k=id
   ·subst e
    simp only[]at hk
    rw[hob]at hk;cases hk
    exact⟨.dar t (xs.set i e1) ver iv,by simp only[af,if_pos],Nat.le_refl _,Nat.le_refl _,λ_=>⟨rfl,by simp,rfl⟩,λ_=>⟨rfl,rfl,hil⟩⟩
   ·exact⟨_,by simp only[af,if_neg e];exact hk,.same rfl rfl⟩
 refine h.turn hext ⟨hos,htape,hout,Nat.le_of_eq hsz.symm,λb hb hnx=>hw b λc hc=> ?_⟩ (λb hb=>by rw[hsz];exact h.ilt b hb) h.idiv (λk b c hk hM=>h.own k b c (hlive k hk) hM) (λk x hx=> ?_) (λk j b c c' hk hj hb hb'=>h.inj k j b c c' (hlive k hk) (hlive j hj) hb hb')
  (h.vir.keep (λk hk=>⟨hdar k hk,rfl⟩) (λb hb=> .inl hb) (λk b c hk hM k' l j c' hk' hn=>h.vir.dis k' k l j b c' c (hdar k' hk') (hlive k hk) hn hM) (Nat.le_of_eq hsz.symm))
 ·rcases(hXI b c hc).2.2 with h1|h1
  ·omega
  ·exact hnx h1
 ·by_cases e:k=id
  ·subst e
   simp only[af,if_pos]at hx
   cases hx
   rcases h.objs k _ hob with⟨_,hnil⟩|⟨b,cap,hM,hblt,hnI,hle,hmx,hcells,hel⟩
   ·rw[hnil]at hi;simp at hi
   ·simp only[]at hM hblt hnI hcells hel
    have hb:w'.heap[b]? =w.heap[b]? :=hw b (λc hc=>h.vir.dis k k i off b c cap hidd hidl hc hM)
    refine .inr ⟨b,cap,hM,by show b<w'.heap.size;rw[hsz];exact hblt,hnI,by simpa using hle,by simpa using hmx,λj hj=> ?_,λi' x j c hxi hcj=> ?_⟩
    ·simp only[]
     rw[World.cell?_of_block (w:=w) hb,World.frozen?_of_block (w:=w) hb]
     exact hcells j hj
    ·simp only[]
     rw[World.cell?_of_block (w:=w) hb]
     have hkeep:∀(y0:t.T) (c0:Cell),xs[i']? =some y0→(t.cells y0)[j]? =some c0→¬(i'=i∧j=off)→∃u1,w.cell? ⟨b,i'*t.size+j,none⟩=some u1∧d9 (M.n k) w' i' j c0 u1:=by
      intro y0 c0 hy0 hc0 hne
      obtain⟨u1,hu1,hru1⟩:=hel i' y0 j c0 hy0 hc0
      refine⟨u1,hu1,hru1.mono λb' c' hb'=>hw b' (λc hc=> ?_)⟩
      exact hne (h.vir.inj k k i' i j off b' c' c hidd hidd hb' hc).2
     rw[List.getElem?_set]at hxi
     by_cases hii:i=i'
     ·subst hii
      rw[if_pos rfl,if_pos hi]at hxi
      cases hxi
      by_cases hjo:j=off
      ·subst hjo
       rw[hce,em hfit0 (Nat.le_refl _) (by simp),Nat.sub_self]at hcj
       simp only[List.getElem?_cons_zero,Option.some.injEq]at hcj
       subst hcj
       obtain⟨u1,hu1,hru1⟩:=hel i _ j _ hx0 hcell
       exact⟨u1,hu1,hown u1 hru1⟩
      ·rw[hce,cD hfit0 (by simp;omega)]at hcj
       exact hkeep _ c hx0 hcj (λhc=>hjo hc.2)
     ·rw[if_neg hii]at hxi
      exact hkeep x c hxi hcj (λhc=>hii hc.1.symm)
  ·simp only[af,if_neg e]at hx
   have hkl:s.obj k≠none:=by rw[hx];simp
   exact(h.objs k x hx).ext hext rfl (Nat.le_of_eq hsz.symm) (λb cap hM=>⟨hw b (λc hc=>h.vir.dis id k i off b c cap hidd hkl hc hM),λh1=>h1⟩) rfl λhd k2 j b c hM=>hw b λc' hc=>e (h.vir.inj k id k2 i j off b c c' (by rw[hx];exact hd) hidd hM hc).1
theorem Mu (hte:fQ te P=true)(h:SimX w0 mo n I0 I M s a w){t:Nat}{x y:Operand}(ho:o.op= .store t x y)(hr:aU C s (dJ te base (.store t x y)) e):ga w0 mo n I0 s a base e ((execOp a.eval o).run P w):=by
 simp only[dJ]at hr
 split at hr
 ·rename_i ti hl
  obtain⟨p,hp,hr⟩:=bR h hr
  obtain⟨d,hd,hr⟩:=eV h hr
  cases d with
  |tup _=>exact hr.fail.elim
  |v ag ds=>
   obtain⟨hg,hr⟩:=hr.guard
   simp only[Bool.and_eq_true]at hg
   obtain⟨⟨hdl,hok⟩,hp1⟩:=hg
   have hp1:=Nat.le_of_ble_eq_true hp1
   have hdl:=Nat.eq_of_beq_eq_true hdl
   have hv:=lM hd hok
   have hvs:(a.eval y).cells.size=ds.length:=by simpa using hv.length.symm
   have h1c:∀u∈(a.eval y).cells.toList,u.oneCell'=true:=by
    intro u hu
    obtain⟨k,hk⟩:=List.getElem?_of_mem hu
    have hkl:k<ds.length:=by
     have:=(List.getElem?_eq_some_iff.1 hk).1
     simpa [hvs]using this
    obtain⟨u',hu',_,h1⟩:=hv.at (List.getElem?_eq_getElem hkl)
    rw[hk]at hu';cases hu'
    exact h1
   cases p with
   |ptr id off=>
    obtain⟨ob,hob,hr⟩:=hr.get
    cases ob with
    |arr _ _ _ _ _=>exact hr.fail.elim
    |dar _ _ _ _=>exact hr.fail.elim
    |box cs=>
     obtain⟨hg,hr⟩:=hr.guard
     cases hr.ret
     have hfit:=Nat.le_of_ble_eq_true hg
     obtain⟨cs1,b,hob1,hM,hx⟩:=hp
     simp only[]at hob1 hM
     obtain⟨b',hM',hN,hblt,hnI,hc,hf⟩:=h.objs id _ hob
     simp only[]at hM' hN hblt hnI hc hf
     rw[hM]at hM';cases hM'
     have hin:∀j,j<cs.length→(w.cell? ⟨b,j,none⟩).isSome=true∧w.frozen? ⟨b,j,none⟩=false:=by
      intro j hj
      obtain⟨u,hu,_⟩:=hc j cs[j] (by simp[hj])
      exact⟨by rw[hu];rfl,hf j hj⟩
     have hrun:=ug (P:=P) (w:=w) hte hl hp1 (v:=a.eval y) (by omega) (b:=b) (off:=off) (m:=cs.length) hin (by omega) h1c
     obtain⟨q1,q2,q3,q4,q5⟩:=cX b (a.eval y).cells.toList off w
     have hownb:=h.own _ b _ (by rw[hob];simp) hM
     obtain⟨hext,hs'⟩:=h.write hob (o':= .box (splice cs off ds)) trivial hM hnI (w':=w.setCells b off (a.eval y).cells.toList) (λb' hb' _=>q1 b' hb')
      ⟨q3,q4,q5,by rw[q2];exact Nat.le_refl _,λk hk hnx=>q1 k (by
        rintro rfl
        rcases hownb with h1|h1
        ·omega
        ·exact hnx h1.x)⟩ q2 (by
      intro hext
      refine⟨b,hM,hN,by simp only[];rw[q2];exact hblt,hnI,λj c hj=> ?_,λj hj=> ?_⟩
      ·have hcl:=dQ (w:=w) (b:=b) (off:=off) (us:=(a.eval y).cells.toList) (m:=cs.length) (λj hj=>(hin j hj).1) (by simp;omega) j
       simp only[]at hcl⊢
       rw[hcl]
       have hul:(a.eval y).cells.toList.length=ds.length:=by simpa using hvs
       by_cases hjin:off≤j∧j<off+ds.length
       ·rw[if_pos (by rw[hul];exact hjin)]
        rw[em hfit hjin.1 hjin.2]at hj
        obtain⟨u,hu,hru,h1⟩:=hv.at hj
        exact⟨u,hu,hru.ext hext,h1⟩
       ·rw[if_neg (by rw[hul];exact hjin)]
        rw[cD hfit (by omega)]at hj
        obtain⟨u,hu,hru,h1⟩:=hc j c hj
        exact⟨u,hu,hru.ext hext,h1⟩
      ·rw[World.frozen?_setCells]
       exact hf j (by rw[Da hfit]at hj;exact hj))
     refine⟨undef,_,I,M,_,.inr ⟨by simp[execOp,ho,Instr.storeAt,hx,Instr.sureAddr,hrun],rfl⟩,hs',⟨_,rfl,trivial⟩,λi=> ?_⟩
     simp only[List.append_nil,au];exact aR _ _ _ _
   |vw _ _ _ _=>exact hr.fail.elim
   |dptr id ver i off=>
    obtain⟨ob,hob,hr⟩:=hr.get
    cases ob with
    |box _=>exact hr.fail.elim
    |arr _ _ _ _ _=>exact hr.fail.elim
    |dar ty xs ver' iv=>
     obtain⟨hver,hr2⟩:=hr.guard
     clear hr
     have hver:=Nat.eq_of_beq_eq_true hver
     obtain⟨_,o2,ho2,hd2⟩:=hp
     simp only[]at ho2
     rw[hob]at ho2;cases ho2
     obtain⟨b,cap,hM,hi,hx⟩:=hd2.2 hver
     have hul:(a.eval y).cells.toList.length=ds.length:=by simpa using hvs
     have hrunS:∀(h:off+ds.length≤ty.size),(execOp a.eval o).run P w= .ok .skip (w.setCells b (i*ty.size+off) (a.eval y).cells.toList):=by
      intro hfit
      rcases h.objs id _ hob with⟨h1,_⟩|⟨b',cap',hM',_,_,hle,_,hcells,_⟩
      ·simp only[]at h1;rw[hM]at h1;cases h1
      simp only[]at hM' hcells
      rw[hM]at hM';cases hM'
      have hrow:(i+1)*ty.size≤cap*ty.size:=Nat.mul_le_mul_right _ (by omega)
      rw[Nat.add_mul,Nat.one_mul]at hrow
      have hrun:=ug (P:=P) (w:=w) hte hl hp1 (v:=a.eval y) (by omega) (b:=b) (off:=i*ty.size+off) (m:=cap*ty.size) hcells (by omega) h1c
      simp[execOp,ho,Instr.storeAt,hx,Instr.sureAddr,hrun]
     split at hr2
     ·rename_i cs hcs
      obtain⟨hfit,hr3⟩:=hr2.guard
      have hfit:=Nat.le_of_ble_eq_true hfit
      split at hr3
      ·rename_i e1 hget
       cases hr3.ret
       have hce:=Ty.get_cells hget
       obtain⟨hcl,hat⟩:=qK (w:=w) hcs
       have hx0:xs[i]? =some (xs.getD i ty.zero):=by simp[List.getD,List.getElem?_eq_getElem hi]
       have hil:jA xs (xs.set i e1):=by
        intro i' k e2 t1 ys hxi hck
        by_cases hii:i=i'
        ·subst hii
         rw[hx0]at hxi;cases hxi
         have hkl:k<(ty.cells e1).length:=by
          have:=(List.getElem?_eq_some_iff.1 hck).1
          rw[Ty.cells_length]at this⊢;exact this
         obtain⟨ys',hys⟩:=Bv hck (List.getElem?_eq_getElem hkl)
         have hk1:(ty.cells e1)[k]? =some (.sl t1 ys'):=by rw[List.getElem?_eq_getElem hkl,hys]
         refine⟨e1,ys',by rw[List.getElem?_set,if_pos rfl,if_pos hi],hk1, ?_⟩
         have hk2:=hk1
         rw[hce]at hk2
         have hfit0:off+cs.length≤(ty.cells (xs.getD i ty.zero)).length:=by rw[Ty.cells_length];omega
         by_cases hin:off≤k∧k<off+cs.length
         ·rw[em hfit0 hin.1 hin.2]at hk2
          exact absurd rfl ((hat hk2).1 t1 ys')
         ·rw[cD hfit0 (by omega),hck]at hk2
          cases hk2;rfl
        ·exact⟨e2,ys,by rw[List.getElem?_set,if_neg hii];exact hxi,hck,rfl⟩
       have hs':=h.dset hob hM hi (us:=(a.eval y).cells.toList) (ls:=cs) (e1:=e1) (by omega) (by omega) hce (n':=M.n id) (Nat.le_refl iv) (λ_=>⟨rfl,hil⟩) (λ_ _ _=>rfl) (λ_ _ _ _ _ hb=> .inr hb)
        (λj j' b c c' _ _ _ _ hb hb'=>(h.vir.inj id id i i j j' b c c' (by rw[hob];rfl) (by rw[hob];rfl) hb hb').2.2) (λj c u hj hu=>by
         obtain⟨hns,d,hd,hrc⟩:=hat hj
         obtain⟨u',hu',hru,_⟩:=hv.at hd
         rw[hu]at hu';cases hu'
         have:=hrc _ u hru
         cases c with
         |sl t1 ys=>exact absurd rfl (hns t1 ys)
         |bool _=>exact this
         |int _ _=>exact this
         |str _=>exact this
         |raw _=>exact this)
       refine⟨undef,_,I,_,_,.inr ⟨hrunS hfit,rfl⟩,hs',⟨_,rfl,trivial⟩,λi=> ?_⟩
       simp only[List.append_nil,au];exact aR _ _ _ _
      ·exact hr3.fail.elim
     ·obtain⟨hg,hr3⟩:=hr2.guard
      simp only[Bool.and_eq_true]at hg
      have h0:=Nat.eq_of_beq_eq_true hg.1
      have hdl2:=Nat.eq_of_beq_eq_true hg.2
      subst h0
      obtain⟨cs,u,ns,k1,k2,k3,k4,k5,k6,hr4⟩:=kt h (hv.mono λ_ _ hh=>hh.1) hr3
      split at hr4
      ·rename_i e1 hget
       cases hr4.ret
       have hce:=Ty.get_cells hget
       obtain⟨M1,hext1,hs1,g1,g2,g3⟩:=K4 h k1 k5
       have hnid:=vh k1 (id:=id) (by rw[hob];intro _ _ _ _ _ hc;cases hc)
       obtain⟨g4,g5⟩:=g1 id hnid
       have hob1:bx s.obj u id=some (.dar ty xs ver' iv):=by rw[g5];exact hob
       have hM1:M1 id=some (b,cap):=by rw[g4];exact hM
       have hcsl:cs.length=(a.eval y).cells.toList.length:=k3
       have hs':=hs1.dset hob1 hM1 hi (us:=(a.eval y).cells.toList) (ls:=cs) (e1:=e1) hcsl (by omega) (by
         have hl0:(ty.cells (xs.getD i ty.zero)).length=cs.length:=by rw[Ty.cells_length];omega
         rw[hce];show cs=List.take 0 _++cs++List.drop (0+cs.length) _;rw[List.take_zero,List.nil_append,Nat.zero_add,←hl0,List.drop_length,List.append_nil]) (n':=λi' j=>if i'=i∧0≤j∧j<0+(a.eval y).cells.toList.length then pO ns j else M1.n id i' j) (Nat.le_succ iv) (λhc=>absurd hc (by omega)) (λi' j hn=>if_neg hn) (λj b c h1 h2 hb=>by
         rw[if_pos ⟨rfl,h1,h2⟩]at hb
         exact .inl (g3 j b c hb))
        (λj j' b c c' q1 q2 q3 q4 hb hb'=>by
         rw[if_pos ⟨rfl,q1,q2⟩]at hb
         rw[if_pos ⟨rfl,q3,q4⟩]at hb'
         exact k6 j j' b c c' hb hb') (λj c v hj hu=>by
         have:=k4 j c v hj hu
         have hjl:=(List.getElem?_eq_some_iff.1 hu).1
         cases c with
         |sl t1 ys=>show iZ w (if _ then _ else _) t1 ys v;rw[Nat.zero_add,if_pos ⟨rfl,Nat.zero_le _,by omega⟩];exact this
         |bool _=>exact this
         |int _ _=>exact this
         |str _=>exact this
         |raw _=>exact this)
       refine⟨undef,_,I,_,_,.inr ⟨hrunS (by omega),rfl⟩,hs',⟨_,rfl,trivial⟩,λi=> ?_⟩
       simp only[List.append_nil,au]
       rw[aR,bZ]
       simp only[bx]
       cases hl1:ac u i with
       |none=>rfl
       |some o1=>
        have hne:i≠id:=by rintro rfl;exact hnid (cY hl1)
        rw[iV,if_neg hne]
      ·exact hr4.fail.elim
   |bsl _=>exact hr.fail.elim
   |down _ _=>exact hr.fail.elim
   |inn _ _ _ _=>exact hr.fail.elim
   |iptr id iv i off k o'=>
    obtain⟨ob,hob,hr⟩:=hr.get
    cases ob with
    |box _=>exact hr.fail.elim
    |arr _ _ _ _ _=>exact hr.fail.elim
    |dar ty xs ver' iv'=>
     obtain⟨hg,hr2⟩:=hr.guard
     clear hr
     have hg:=Nat.eq_of_beq_eq_true hg
     subst hg
     split at hr2
     case h_2=>exact hr2.fail.elim
     rename_i t2 ys hcell
     split at hr2
     case h_2=>exact hr2.fail.elim
     rename_i cs hcs
     obtain⟨hg2,hr3⟩:=hr2.guard
     clear hr2
     simp only[Bool.and_eq_true]at hg2
     have hfit:=Nat.le_of_ble_eq_true hg2.1
     have hklt:k<ys.length:=of_decide_eq_true hg2.2
     split at hr3
     case h_2=>exact hr3.fail.elim
     rename_i e2 hget2
     split at hr3
     case h_2=>exact hr3.fail.elim
     rename_i e1 hget
     cases hr3.ret
     have hce2:=Ty.get_cells hget2
     have hce:=Ty.get_cells hget
     obtain⟨_,o2,ho2,hd2⟩:=hp
     simp only[]at ho2
     rw[hob]at ho2;cases ho2
     obtain⟨e0,t1,ys1,b,cap,g1,g2,_,hM,hx⟩:=hd2.2 rfl
     have hi:i<xs.length:=(List.getElem?_eq_some_iff.1 g1).1
     have hx0:xs.getD i ty.zero=e0:=by simp[List.getD,g1]
     have hcell1:=hcell
     rw[hx0,g2]at hcell1
     injection hcell1 with hcell1
     injection hcell1 with q1 q2
     subst q1
     have q2:=eq_of_heq q2
     subst q2
     have hul:(a.eval y).cells.toList.length=ds.length:=by simpa using hvs
     obtain⟨hcl0,hat⟩:=qK (w:=w) hcs
     obtain⟨u0,_,hown⟩:∃u,True∧iZ w (M.n id i off) t1 ys1 u:=by
      rcases h.objs id _ hob with⟨_,hnil⟩|⟨b0,cap0,_,_,_,_,_,_,hel⟩
      ·rw[hnil]at g1;simp at g1
      ·obtain⟨u,_,hru⟩:=hel i e0 off _ g1 g2
       exact⟨u,trivial,hru⟩
     rcases hown.2 with⟨_,hnil⟩|⟨b',cap',hM',hle,hmx,hcells,hel⟩
     ·rw[hnil]at hklt;simp at hklt
     have hM:M.n id i off=some (b,cap):=hM
     rw[hM]at hM';cases hM'
     have hrow:(k+1)*t1.size≤cap*t1.size:=Nat.mul_le_mul_right _ (by omega)
     rw[Nat.add_mul,Nat.one_mul]at hrow
     have hrun:=ug (P:=P) (w:=w) hte hl hp1 (v:=a.eval y) (by omega) (b:=b) (off:=k*t1.size+o') (m:=cap*t1.size) hcells (by omega) h1c
     obtain⟨q1,q2,q3,q4,q5⟩:=cX b (a.eval y).cells.toList (k*t1.size+o') w
     have hcl:=dQ (w:=w) (b:=b) (off:=k*t1.size+o') (us:=(a.eval y).cells.toList) (m:=cap*t1.size) (λj hj=>(hcells j hj).1) (by omega)
     have hs':=h.inset hob hi hcell (ys':=ys1.set k e2) (by simp) hce (w':=w.setCells b (k*t1.size+o') (a.eval y).cells.toList) (λb' hb'=>q1 b' (by rintro rfl;exact hb' cap hM)) q2 q3 q4 q5 (λu hu=>by
      refine⟨by rw[List.length_set];exact hu.1,.inr ⟨b,cap,hM,by rw[List.length_set];exact hle,by rw[List.length_set];exact hmx,λj hj=>⟨?_,by rw[World.frozen?_setCells];exact(hcells j hj).2⟩,λm' e j c he hc=> ?_⟩⟩
      ·rw[hcl j]
       split
       ·rename_i hjr
        have:j-(k*t1.size+o')<(a.eval y).cells.toList.length:=by omega
        simp[List.getElem?_eq_getElem this]
       ·exact(hcells j hj).1
      ·have hjs:j<t1.size:=by
        have:=(List.getElem?_eq_some_iff.1 hc).1
        rwa [Ty.cells_length]at this
       have hkeep:∀(y0:t1.T),ys1[m']? =some y0→(t1.cells y0)[j]? =some c→¬(k*t1.size+o'≤m'*t1.size+j∧m'*t1.size+j<k*t1.size+o'+(a.eval y).cells.toList.length)→∃u,(w.setCells b (k*t1.size+o') (a.eval y).cells.toList).cell? ⟨b,m'*t1.size+j,none⟩=some u∧RepC (λ_=>False) (w.setCells b (k*t1.size+o') (a.eval y).cells.toList) c u:=by
        intro y0 hy0 hc0 hno
        obtain⟨u1,hu1,hru1⟩:=hel m' y0 j c hy0 hc0
        exact⟨u1,by rw[hcl,if_neg hno];exact hu1,hru1.mono (λ_ h=>h.elim) λ_ h=>h⟩
       rw[List.getElem?_set]at he
       by_cases hkm:k=m'
       ·subst hkm
        rw[if_pos rfl,if_pos hklt]at he
        cases he
        have hy0:ys1[k]? =some (ys1.getD k t1.zero):=by simp[List.getD,List.getElem?_eq_getElem hklt]
        have hfit0:o'+cs.length≤(t1.cells (ys1.getD k t1.zero)).length:=by rw[Ty.cells_length];omega
        rw[hce2]at hc
        by_cases hin:o'≤j∧j<o'+cs.length
        ·rw[em hfit0 hin.1 hin.2]at hc
         obtain⟨hns,d,hd,hrc⟩:=hat hc
         obtain⟨u',hu',hru,_⟩:=hv.at hd
         refine⟨u', ?_,(hrc _ u' hru).mono (λ_ h=>h.elim) λ_ h=>h⟩
         rw[hcl,if_pos (by omega),show k*t1.size+j-(k*t1.size+o')=j-o' by omega]
         exact hu'
        ·rw[cD hfit0 (by omega)]at hc
         exact hkeep _ hy0 hc (by omega)
       ·rw[if_neg hkm]at he
        refine hkeep e he hc ?_
        rcases Nat.lt_or_ge m' k with hlt|hge
        ·have:(m'+1)*t1.size≤k*t1.size:=Nat.mul_le_mul_right _ hlt
         rw[Nat.add_mul,Nat.one_mul]at this
         omega
        ·have:(k+1)*t1.size≤m'*t1.size:=Nat.mul_le_mul_right _ (by omega)
         rw[Nat.add_mul,Nat.one_mul]at this
         omega)
     refine⟨undef,_,I,_,_,.inr ⟨by simp[execOp,ho,Instr.storeAt,hx,Instr.sureAddr,hrun],rfl⟩,hs',⟨_,rfl,trivial⟩,λi=> ?_⟩
     simp only[List.append_nil,au];exact aR _ _ _ _
   |eptr id ver i off=>
    obtain⟨ob,hob,hr⟩:=hr.get
    cases ob with
    |box cs=>exact hr.fail.elim
    |dar _ _ _ _=>exact hr.fail.elim
    |arr ty xs ver' frz d=>
     obtain⟨hg,hr⟩:=hr.guard
     simp only[Bool.and_eq_true,Bool.not_eq_true']at hg
     obtain⟨⟨hver,hfrz⟩,hfit⟩:=hg
     have hver:=Nat.eq_of_beq_eq_true hver
     have hfit:=Nat.le_of_ble_eq_true hfit
     subst hfrz
     obtain⟨ls,d',u,hls,hfz,hr⟩:=mP h (hv.mono λ_ _ hh=>hh.1) hr
     split at hr
     ·rename_i e1 hget
      obtain⟨hg,hr2⟩:=hr.guard
      cases hr2.ret
      have hmem:¬id∈u.map (·.1):=by
       intro hc
       rw[fW.2 hc]at hg;cases hg
      have hlk:ac u id=none:=dN hmem
      obtain⟨I',hIb,hext1,hs1⟩:=uk h hfz
      have hlay:=kb.get hls hext1 rfl hIb
      have hob1:bx s.obj u id=some (.arr ty xs ver' false d):=by simp only[bx,hlk];exact hob
      obtain⟨t1,xs1,v1,f1,d1,ho1,hv1,hval,_⟩:=hp
      simp only[]at ho1 hval
      rw[hob]at ho1;cases ho1
      obtain⟨b,cap,hM,hi,hx⟩:=hval hver
      rcases hs1.objs id _ hob1 with⟨h1,_⟩|⟨b',cap',hM',hN,hblt,hfr,hle,hmx,hcells,hel⟩
      ·simp only[]at h1;rw[hM]at h1;cases h1
      simp only[]at hM' hN hblt hfr hle hmx hcells hel
      rw[hM]at hM';cases hM'
      have hnI:¬I' b:=λhc=>by have:=hfr.1 hc;cases this
      have hul:(a.eval y).cells.toList.length=ds.length:=by simpa using hvs
      have hlsl:ls.length=ds.length:=by rw[hls.length,hul]
      have hcl0:(ty.cells (xs.getD i ty.zero)).length=ty.size:=Ty.cells_length _ _
      have hfit0:off+ls.length≤(ty.cells (xs.getD i ty.zero)).length:=by omega
      have hce:=Ty.get_cells hget
      have hrow:(i+1)*ty.size≤cap*ty.size:=Nat.mul_le_mul_right _ (by omega)
      rw[Nat.add_mul,Nat.one_mul]at hrow
      have hrun:=ug (P:=P) (w:=w) hte hl hp1 (v:=a.eval y) (by omega) (b:=b) (off:=i*ty.size+off) (m:=cap*ty.size) hcells (by omega) h1c
      obtain⟨q1,q2,q3,q4,q5⟩:=cX b (a.eval y).cells.toList (i*ty.size+off) w
      have hownb:=h.own _ b _ (by rw[hob];simp) hM
      have hcl:=dQ (w:=w) (b:=b) (off:=i*ty.size+off) (us:=(a.eval y).cells.toList) (m:=cap*ty.size) (λj hj=>(hcells j hj).1) (by omega)
      obtain⟨hext,hs'⟩:=hs1.write hob1 (o':= .arr ty (xs.set i e1) ver' false (d&&d')) ⟨rfl,by simp,rfl,rfl⟩ hM hnI (w':=w.setCells b (i*ty.size+off) (a.eval y).cells.toList) (λb' hb' _=>q1 b' hb')
       ⟨q3,q4,q5,by rw[q2];exact Nat.le_refl _,λk hk hnx=>q1 k (by
        rintro rfl
        rcases hownb with h1|h1
        ·omega
        ·exact hnx h1.x)⟩ q2 (by
       intro hext
       refine .inr ⟨b,cap,hM,λhdd=>hN (by cases d<;>simp_all),by simp only[];rw[q2];exact hblt,hfr,by simpa using hle,by simpa using hmx,λj hj=>⟨?_, ?_⟩,λi' x j c hxi hcj=> ?_⟩
       ·simp only[]
        rw[hcl j]
        split
        ·rename_i hjr
         have:j-(i*ty.size+off)<(a.eval y).cells.toList.length:=by omega
         simp[List.getElem?_eq_getElem this]
        ·exact(hcells j hj).1
       ·simp only[]
        rw[World.frozen?_setCells]
        exact(hcells j hj).2
       ·have hjs:j<ty.size:=by
         have:=(List.getElem?_eq_some_iff.1 hcj).1
         rwa [Ty.cells_length]at this
        have hold:∀(y0:ty.T) (c0:Cell),xs[i']? =some y0→(ty.cells y0)[j]? =some c0→¬(i*ty.size+off≤i'*ty.size+j∧i'*ty.size+j<i*ty.size+off+(a.eval y).cells.toList.length)→
          ∃u1,(w.setCells b (i*ty.size+off) (a.eval y).cells.toList).cell? ⟨b,i'*ty.size+j,none⟩=some u1∧RepC ((Cx.mk w0.heap.size I0 I' M (af (bx s.obj u) id (.arr ty (xs.set i e1) ver' false (d&&d'))) (w.setCells b (i*ty.size+off) (a.eval y).cells.toList)).J (if(d&&d')then .new else .any)) (w.setCells b (i*ty.size+off) (a.eval y).cells.toList) c0 u1:=by
         intro y0 c0 hy0 hc0 hno
         obtain⟨u1,hu1,hru1⟩:=hel i' y0 j c0 hy0 hc0
         refine⟨u1,by rw[hcl,if_neg hno];exact hu1, ?_⟩
         exact(RepC.ext hext hru1).weaken (by cases d<;>simp)
        rw[List.getElem?_set]at hxi
        by_cases hii:i=i'
        ·subst hii
         rw[if_pos rfl,if_pos hi]at hxi
         cases hxi
         rw[hce]at hcj
         by_cases hin:off≤j∧j<off+ls.length
         ·rw[em hfit0 hin.1 hin.2]at hcj
          obtain⟨u1,hu1,hru1⟩:=hlay.at hcj
          refine⟨u1, ?_,(RepC.ext hext hru1).weaken (by cases d'<;>simp[pX])⟩
          simp only[]
          rw[hcl,if_pos (by omega),←hu1]
          congr 1;omega
         ·rw[cD hfit0 (by omega)]at hcj
          exact hold _ c (by simp[List.getD,List.getElem?_eq_getElem hi]) hcj (by omega)
        ·rw[if_neg hii]at hxi
         refine hold x c hxi hcj ?_
         rcases Nat.lt_or_ge i' i with hlt|hge
         ·have:(i'+1)*ty.size≤i*ty.size:=Nat.mul_le_mul_right _ hlt
          rw[Nat.add_mul,Nat.one_mul]at this
          omega
         ·have:(i+1)*ty.size≤i'*ty.size:=Nat.mul_le_mul_right _ (by omega)
          rw[Nat.add_mul,Nat.one_mul]at this
          omega)
      refine⟨undef,_,I',M,_,.inr ⟨by simp[execOp,ho,Instr.storeAt,hx,Instr.sureAddr,hrun],rfl⟩,hs',⟨_,rfl,trivial⟩,λj=> ?_⟩
      rw[aR]
      simp only[au,List.append_nil,bZ]
      by_cases hj:j=id
      ·subst hj;rw[hlk];simp[iV]
      ·rw[iV,if_neg hj];simp only[bx];cases ac u j<;>rfl
     ·exact hr.fail.elim
   |bool _=>exact hr.fail.elim
   |int _ _=>exact hr.fail.elim
   |str _=>exact hr.fail.elim
   |raw _=>exact hr.fail.elim
   |sl _ _ _=>exact hr.fail.elim
   |nil=>exact hr.fail.elim
   |own _ _=>exact hr.fail.elim
   |ref _ _=>exact hr.fail.elim
   |fn _ _=>exact hr.fail.elim
   |slx _ _=>exact hr.fail.elim
   |undef=>exact hr.fail.elim
   |skipped=>exact hr.fail.elim
 ·exact hr.fail.elim
end
end Go.Proofs.YtffjmkhjhchnmaaGreat
