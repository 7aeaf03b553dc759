/- append. -/
import Derived.Test.YtffjmkhjhchnmaaGreatOps8
set_option linter.unusedVariables false
set_option linter.unusedSimpArgs false
namespace Go.Proofs.YtffjmkhjhchnmaaGreat
open Go Go.RowKit
section
variable {α:Type} {C:Nat→List PV→List MO→cS→List MO→Prop} {w0:World} {mo:gj} {n:Nat} {I0 I:Nat→Prop} {M:MF} {s:FSt} {a:Act} {w:World} {te:TE} {P:Program} {base:Nat} {e:Eff} {o:Oper}
theorem SimX.rewr (h:SimX w0 mo n I0 I M s a w){id:Nat}{t:Ty}{xs xs':List t.T}{ver:Nat}{d:Bool}(hob:s.obj id=some (.arr t xs ver false d))(hlen:xs'.length=xs.length){b cap off:Nat}{us:List Value}(hM:M id=some (b,cap))(hfit:off+us.length≤cap*t.size)
  (hat:∀i e j c,xs'[i]? =some e→(t.cells e)[j]? =some c→∃u,(if off≤i*t.size+j∧i*t.size+j<off+us.length then us[i*t.size+j-off]? else w.cell? ⟨b,i*t.size+j,none⟩)=some u∧RepC ((ax w0 I0 I M s w).J (pX d)) w c u):
  Ext (ax w0 I0 I M s w) ⟨w0.heap.size,I0,I,M,af s.obj id (.arr t xs' ver false d),w.setCells b off us⟩∧SimX w0 mo n I0 I M ⟨s.tmp,af s.obj id (.arr t xs' ver false d)⟩ a (w.setCells b off us):=by
 rcases h.objs id _ hob with⟨h1,_⟩|⟨b',cap',hM',hN,hblt,hfr,hle,hmx,hcells,hel⟩
 ·simp only[]at h1;rw[hM]at h1;cases h1
 ·simp only[]at hM' hN hblt hfr hle hmx hcells hel
  rw[hM]at hM';cases hM'
  have hnI:¬I b:=λhc=>by have:=hfr.1 hc;cases this
  obtain⟨q1,q2,q3,q4,q5⟩:=cX b us off w
  have hownb:=h.own _ b _ (by rw[hob];simp) hM
  have hcl:=dQ (w:=w) (b:=b) (off:=off) (us:=us) (m:=cap*t.size) (λj hj=>(hcells j hj).1) hfit
  refine h.write hob (o':= .arr t xs' ver false d) ⟨rfl,hlen.symm,rfl,rfl⟩ hM hnI (w':=w.setCells b off us) (λb' hb' _=>q1 b' hb')
   ⟨q3,q4,q5,by rw[q2];exact Nat.le_refl _,λk hk hnx=>q1 k (by
    rintro rfl
    rcases hownb with h1|h1
    ·omega
    ·exact hnx h1.x)⟩ q2 λhext=> ?_
  refine .inr ⟨b,cap,hM,hN,by simp only[];rw[q2];exact hblt,hfr,by rw[hlen];exact hle,by rw[hlen];exact hmx,λj hj=>⟨?_, ?_⟩,λi' e0 j c he0 hcj=> ?_⟩
  ·simp only[]
   rw[hcl j]
   split
   ·rename_i hjr
    have:j-off<us.length:=by omega
    rw[List.getElem?_eq_getElem this];rfl
   ·exact(hcells j hj).1
  ·simp only[]
   rw[World.frozen?_setCells]
   exact(hcells j hj).2
  ·obtain⟨u,hu,hru⟩:=hat i' e0 j c he0 hcj
   refine⟨u, ?_,RepC.ext hext hru⟩
   simp only[]
   rw[hcl];exact hu
def mt (x:Cx)(d:Bool)(ty:Ty)(ys:List ty.T)(news:List Value):Prop:=
 ∀i y j c,ys[i]? =some y→(ty.cells y)[j]? =some c→∃u,news[i*ty.size+j]? =some u∧RepC (x.J (pX d)) x.w c u
theorem sN {b off k:Nat}(hc:∀j,j<k→∃u,w.cell? ⟨b,off+j,none⟩=some u∧u.oneCell'=true):
  ∃news:List Value,news.length=k∧(∀j u,news[j]? =some u→w.cell? ⟨b,off+j,none⟩=some u)∧(∀j,j<k→∃u,news[j]? =some u)∧∀u∈news,u.oneCell'=true:=by
 refine⟨(List.range k).map λj=>(w.cell? ⟨b,off+j,none⟩).getD undef,by simp,λj u hu=> ?_,λj hj=> ?_,λu hu=> ?_⟩
 ·rw[List.getElem?_map,Option.map_eq_some_iff]at hu
  obtain⟨i,hi,rfl⟩:=hu
  have hjk:j<k:=by have:=(List.getElem?_eq_some_iff.1 hi).1;simpa using this
  rw[List.getElem?_range hjk]at hi
  cases hi
  obtain⟨u,hu,_⟩:=hc j hjk
  rw[hu];rfl
 ·exact⟨_,by rw[List.getElem?_map,List.getElem?_range hj];rfl⟩
 ·rw[List.mem_map]at hu
  obtain⟨j,hj,rfl⟩:=hu
  obtain⟨u,hu,h1⟩:=hc j (by simpa using hj)
  rw[hu];exact h1
theorem wM {ty:Ty}{xs:List ty.T}{j:Nat}(hj:j<xs.length*ty.size):∃x c,xs[j/ty.size]? =some x∧(ty.cells x)[j%ty.size]? =some c∧j=j/ty.size*ty.size+j%ty.size:=by
 have hp:=ty.size_pos
 have h1:j/ty.size<xs.length:=(Nat.div_lt_iff_lt_mul hp).2 hj
 refine⟨xs[j/ty.size],(ty.cells xs[j/ty.size])[j%ty.size]'(by rw[Ty.cells_length];exact Nat.mod_lt _ hp),List.getElem?_eq_getElem h1,List.getElem?_eq_getElem _, ?_⟩
 have:=Nat.div_add_mod j ty.size
 rw[Nat.mul_comm]at this
 exact this.symm
theorem Kt {x:Cx}{d:Bool}{ty:Ty}{ys:List ty.T}{v:Value}{tx e':TypeId}(hk:P.underlying tx=some (.slice e'))(hv:RepC (λ_=>True) x.w (.sl ty ys) v)
  (hr:∀b off cap,v= .slice (some ⟨b,off,none⟩) ys.length cap→∀i y j c,ys[i]? =some y→(ty.cells y)[j]? =some c→∃u,x.w.cell? ⟨b,off+i*ty.size+j,none⟩=some u∧RepC (x.J (pX d)) x.w c u):
  ∃news,Src P ty.size tx v ys.length news x.w∧mt x d ty ys news:=by
 cases hv with
 |nil=>exact⟨[],Src.ofNil x.w hk 0,by simp[mt]⟩
 |emp _ a cap=>exact⟨[],Src.ofSlice x.w hk a 0 cap [] (by simp) (by simp) (by simp),by simp[mt]⟩
 |sl _ _ b off cap vs _ _ _ hcell hrep=>
  obtain⟨news,h1,h2,h3,h4⟩:=sN (w:=x.w) (b:=b) (off:=off) (k:=ys.length*ty.size) (by
   intro j hj
   obtain⟨y,c,hy,hc,he⟩:=wM hj
   have:=hcell _ _ _ _ hy hc
   rw[show off+j/ty.size*ty.size+j%ty.size=off+j from by omega]at this
   exact⟨_,this,(hrep _ _ _ _ hy hc).one⟩)
  refine⟨news,Src.ofSlice x.w hk ⟨b,off,none⟩ ys.length cap news h1 (λj u hu=>by rw[kx];exact h2 j u hu) h4,λi y j c hy hc=> ?_⟩
  obtain⟨u,hu,hru⟩:=hr b off cap rfl i y j c hy hc
  have hjl:j<ty.size:=by
   have:=(List.getElem?_eq_some_iff.1 hc).1
   rwa [Ty.cells_length]at this
  have hil:=(List.getElem?_eq_some_iff.1 hy).1
  have hlt:i*ty.size+j<ys.length*ty.size:=by
   have:(i+1)*ty.size≤ys.length*ty.size:=Nat.mul_le_mul_right _ hil
   rw[Nat.add_mul]at this;omega
  obtain⟨u',hu'⟩:=h3 _ hlt
  have h5:=h2 _ _ hu'
  rw[show off+(i*ty.size+j)=off+i*ty.size+j from by omega,hu]at h5
  cases h5
  exact⟨u,hu',hru⟩
theorem ED (hte:fQ te P=true)(h:SimX w0 mo n I0 I M s a w){t':Nat}{ty:Ty}{c:DC}{v:Value}(hc:aA (ax w0 I0 I M s w) c v){k:List ty.T→Bool→Rd Eff}(hr:aU C s (KM te t' ty c k) e):
  ∃ys d news,Src P ty.size t' v ys.length news w∧mt (ax w0 I0 I M s w) d ty ys news∧aU C s (k ys d) e:=by
 unfold KM at hr
 split at hr
 ·rename_i hl
  obtain⟨i,z,hi,hs,hz,hz0,hu⟩:=oh hte hl
  simp only at hu
  split at hr
  ·rename_i b
   split at hr
   ·rename_i ht
    subst ht
    obtain⟨b',rfl,rfl,hl'⟩:=hc
    refine⟨_,_,byteCells b', ?_, ?_,hr⟩
    ·have:=Src.ofString (P:=P) w hu b'
     rw[show(List.map (λc:UInt8=>(c.toNat:Int)) b'.data.toList).length=b'.size from by rw[List.length_map,Array.length_toList];rfl]
     exact this
    ·intro i y j c hy hc
     cases j with
     |succ j=>cases j<;>simp[Ty.cells,Ty.toH,Ty.fl,cM]at hc
     |zero=>
      simp only[Ty.cells,Ty.toH,Ty.fl,cM,List.getElem?_cons_zero,Option.some.injEq]at hc
      subst hc
      simp only[List.getElem?_map,Option.map_eq_some_iff]at hy
      obtain⟨q,hq,rfl⟩:=hy
      refine⟨.int .u8 q.toNat, ?_, ?_⟩
      ·show(byteCells b')[i*1+0]? =_
       simp only[Nat.mul_one,Nat.add_zero,byteCells,List.getElem?_map,hq,Option.map_some]
      ·refine .int _ _ ⟨by simp[IntKind.min,IntKind.signed], ?_⟩
       have:=q.toNat_lt
       simp[IntKind.max,IntKind.signed,IntKind.bits];omega
   ·exact hr.fail.elim
  ·exact hr.fail.elim
 ·rename_i ty' by_ hl
  obtain⟨el,i,ie,z,hu,hi',hs,hz,hie,hes,heb,hb0,hez,hez0,hu8,hi32,hd⟩:=iM hte hl
  split at hr
  ·rename_i p t1 ys
   obtain⟨hg,hr⟩:=hr.guard
   split at hr
   ·rename_i ht
    subst ht
    have hc':RepC ((ax w0 I0 I M s w).J p) w (.sl t1 ys) v:=hc
    obtain⟨news,h1,h2⟩:=Kt (x:=ax w0 I0 I M s w) (d:= !jI t1||p.isNew) hu (hc'.mono (λ_ _=>rfl) λ_ _=>trivial) (by
     rintro b off cap rfl i y j c hy hcj
     generalize hv:Value.slice (some ⟨b,off,none⟩) ys.length cap=v at hc'
     cases hc' with
     |nil=>simp at hy
     |emp=>simp at hy
     |sl _ _ b2 off2 cap2 vs hJ _ _ hcell hrep=>
      cases hv
      refine⟨_,hcell i y j c hy hcj, ?_⟩
      have:=hrep i y j c hy hcj
      cases hsl:jI t1 with
      |false=>
       refine this.anyJ ?_
       rintro t2 zs rfl
       rw[lU hcj]at hsl;cases hsl
      |true=>
       cases p with
       |new=>exact this
       |any=>exact this
       |arg=>exact this.mono (λ_ _=>rfl) λb hb=>h.i00 b hb)
    exact⟨_,_,news,h1,h2,hr⟩
   ·exact hr.fail.elim
  ·rename_i t1 ys
   obtain⟨hg,hr⟩:=hr.guard
   split at hr
   ·rename_i ht
    subst ht
    have hc':RepC ((ax w0 I0 I M s w).J .arg) w (.sl t1 ys) v:=hc.1
    obtain⟨news,h1,h2⟩:=Kt (x:=ax w0 I0 I M s w) (d:= !jI t1) hu (hc'.mono (λ_ _=>rfl) λ_ _=>trivial) (by
     rintro b off cap rfl i y j c hy hcj
     clear hc
     generalize hv:Value.slice (some ⟨b,off,none⟩) ys.length cap=v at hc'
     cases hc' with
     |nil=>simp at hy
     |emp=>simp at hy
     |sl _ _ b2 off2 cap2 vs hJ _ _ hcell hrep=>
      cases hv
      refine⟨_,hcell i y j c hy hcj, ?_⟩
      have:=hrep i y j c hy hcj
      cases hsl:jI t1 with
      |false=>
       refine this.anyJ ?_
       rintro t2 zs rfl
       rw[lU hcj]at hsl;cases hsl
      |true=>exact this.mono (λ_ _=>rfl) λb hb=>h.i00 b hb)
    exact⟨_,_,news,h1,h2,hr⟩
   ·exact hr.fail.elim
  ·obtain⟨hg,hr⟩:=hr.guard
   simp only[aA]at hc
   subst hc
   exact⟨_,_,[],Src.ofNil w hu 0,by simp[mt],hr⟩
  ·rename_i id ver
   obtain⟨ob,hob,hr⟩:=hr.get
   cases ob with
   |box _=>exact hr.fail.elim
   |dar _ _ _ _=>exact hr.fail.elim
   |arr t1 ys ver' f d=>
    obtain⟨hg,hr⟩:=hr.guard
    simp only[Bool.and_eq_true]at hg
    split at hr
    ·rename_i ht
     subst ht
     obtain⟨t2,xs2,v2,f2,d2,h3,h4,h5,h6⟩:=hc
     simp only[]at h3 h5
     rw[hob]at h3;cases h3
     have hval:=h5 (Nat.eq_of_beq_eq_true hg.2)
     obtain⟨news,h1,h2⟩:=Kt (x:=ax w0 I0 I M s w) (d:= !jI t1||d) hu (z7 h hob hval) (by
      rintro b off cap rfl i y j c hy hcj
      rcases h.objs id _ hob with⟨_,hnil⟩|⟨b',cap',hM,_,_,_,_,_,_,he⟩
      ·rw[hnil]at hy;simp at hy
      ·simp only[]at hM
       rw[hM]at hval
       simp only[aM,Value.slice.injEq,Option.some.injEq,Addr.mk.injEq]at hval
       obtain⟨⟨rfl,rfl,_⟩,_⟩:=hval
       obtain⟨u,hu2,hru⟩:=he i y j c hy hcj
       rw[Nat.zero_add]
       refine⟨u,hu2, ?_⟩
       cases hsl:jI t1 with
       |false=>
        refine hru.anyJ ?_
        rintro t2 zs rfl
        rw[lU hcj]at hsl;cases hsl
       |true=>cases d<;>exact hru)
     exact⟨_,_,news,h1,h2,hr⟩
    ·exact hr.fail.elim
  ·exact hr.fail.elim
 ·exact hr.fail.elim
theorem tz {t tx ty e:Nat}{i:TypeInfo}{x:Value}{news:List Value}(ht:P.underlying t=some (.slice e))(hi:P.info? e=some i)(hs:Src P i.size tx x 0 news w)(p:Option Addr):
  (Builtin.append_ #[t,tx] ty #[.slice p 0 0,x]).run P w= .ok (.slice p 0 0) w:=by
 have hn:news=[]:=List.eq_nil_of_length_eq_zero (by have:=hs.newsLen;simpa using this)
 subst hn
 have hst:∀b:Addr,(storeCells b [] 0).run P w= .ok () w:=λ_=>rfl
 rcases hs.kind with⟨e',hk⟩|hk<;>cases p<;>simp[Builtin.append_,run_underlying ht,run_underlying hk,sizeOf,typeInfo,hi,hs.len,hs.cells,storeCells]
theorem AR (n c by_:Nat)(hg:c<n)(h:(2*n+1024)*by_≤aD):Builtin.nextslicecap n c*by_≤281474976710656:=by
 have h1:Builtin.nextslicecap n c≤2*n+1024:=by
  unfold Builtin.nextslicecap
  split
  ·omega
  ·split
   ·omega
   ·have:∀r c,c<2*n+1024→Builtin.growBy n r c≤2*n+1024:=by
     intro r
     induction r with
     |zero=>intro c hc;simp only[Builtin.growBy];omega
     |succ r ih=>
      intro c hc
      simp only[Builtin.growBy]
      split
      ·omega
      ·exact ih _ (by omega)
    exact this 4 c (by omega)
 exact Nat.le_trans (Nat.mul_le_mul_right _ h1) (Nat.le_trans h (by decide))
theorem Oo {ty:Ty}{x:Cx}{d:Bool}{xs ys:List ty.T}{olds news:List Value}(hl:olds.length=xs.length*ty.size)(ho:mt x d ty xs olds)(hs:mt x d ty ys news):mt x d ty (xs++ys) (olds++news):=by
 intro i y j c hy hc
 have hjl:j<ty.size:=by
  have:=(List.getElem?_eq_some_iff.1 hc).1
  rwa [Ty.cells_length]at this
 rw[List.getElem?_append]at hy
 split at hy
 ·rename_i hlt
  obtain⟨u,hu,hr⟩:=ho i y j c hy hc
  exact⟨u,by rw[List.getElem?_append_left (List.getElem?_eq_some_iff.1 hu).1];exact hu,hr⟩
 ·rename_i hge
  obtain⟨u,hu,hr⟩:=hs _ y j c hy hc
  have h1:xs.length*ty.size≤i*ty.size:=Nat.mul_le_mul_right _ (by omega)
  refine⟨u, ?_,hr⟩
  rw[List.getElem?_append_right (by omega),←hu]
  congr 1
  rw[Nat.sub_mul];omega
theorem mt.weaken {ty:Ty}{x:Cx}{d d':Bool}{xs:List ty.T}{news:List Value}(h:mt x d ty xs news)(hd:d'=true→d=true):mt x d' ty xs news:=by
 intro i y j c hy hc
 obtain⟨u,hu,hr⟩:=h i y j c hy hc
 refine⟨u,hu,hr.weaken ?_⟩
 cases d<;>cases d'<;>simp_all [pX]
theorem QF (hte:fQ te P=true){t t' tt:TypeId}{ty:Ty}{by_:Nat}(hl:ac te t=some (.sl ty by_)){v y:Value}{len:Nat}{olds news:List Value}(hsrc:Src P ty.size t' y 1 news w)(hol:olds.length=len*ty.size)
  (hx:(∃p,v= .slice p 0 0∧len=0)∨∃b cap,v= .slice (some ⟨b,0,none⟩) len cap∧len≤cap∧b<w.heap.size∧(∀j,j<cap*ty.size→(w.cell? ⟨b,j,none⟩).isSome=true∧w.frozen? ⟨b,j,none⟩=false)∧∀j u,olds[j]? =some u→w.cell? ⟨b,j,none⟩=some u)
  (hbd:(2*(len+1)+1024)*by_≤aD):
  ∃w' b' cap',(Builtin.append_ #[t,t'] tt #[v,y]).run P w= .ok (.slice (some ⟨b',0,none⟩) (len+1) cap') w'∧(b'=w.heap.size∨∃cap,v= .slice (some ⟨b',0,none⟩) len cap∧len+1≤cap)∧len+1≤cap'∧len+1≤aD∧b'<w'.heap.size∧w.heap.size≤w'.heap.size∧w'.os=w.os∧w'.tape=w.tape∧w'.output=w.output∧
   (∀b,b<w.heap.size→b≠b'→w'.heap[b]? =w.heap[b]?)∧(∀j,j<cap'*ty.size→(w'.cell? ⟨b',j,none⟩).isSome=true∧w'.frozen? ⟨b',j,none⟩=false)∧(∀j u,olds[j]? =some u→w'.cell? ⟨b',j,none⟩=some u)∧∀j u,news[j]? =some u→w'.cell? ⟨b',len*ty.size+j,none⟩=some u:=by
 obtain⟨el,i,ie,z,hu,hi',hsz1,hz,hie,hes,heb,hb0,hez,hez0,hu8,hi32,hd⟩:=iM hte hl
 have hzs:z.cells.size=ty.size:=by
  have:=(ld (J:=λ_=>True) (w:=w) hez0).length
  rw[gk]at this
  simpa [Ty.size]using this.symm
 have hpos:=ty.size_pos
 have hmx:len+1≤aD:=by
  have:1*(len+1)≤(2*(len+1)+1024)*by_:=Nat.mul_comm 1 _▸Nat.mul_le_mul (by omega) hb0
  omega
 have hnl:news.length=1*ty.size:=hsrc.newsLen
 rw[←hes]at hsrc
 have hgrow:∀(p:Option Addr) (cap:Nat),v= .slice p len cap→(Builtin.firstCells ie.size len (.slice p len cap)).run P w.drew= .ok olds.toArray w.drew→cap<len+1→
   ∃w' b' cap',(Builtin.append_ #[t,t'] tt #[v,y]).run P w= .ok (.slice (some ⟨b',0,none⟩) (len+1) cap') w'∧(b'=w.heap.size∨∃cap,v= .slice (some ⟨b',0,none⟩) len cap∧len+1≤cap)∧len+1≤cap'∧len+1≤aD∧b'<w'.heap.size∧w.heap.size≤w'.heap.size∧w'.os=w.os∧w'.tape=w.tape∧w'.output=w.output∧
    (∀b,b<w.heap.size→b≠b'→w'.heap[b]? =w.heap[b]?)∧(∀j,j<cap'*ty.size→(w'.cell? ⟨b',j,none⟩).isSome=true∧w'.frozen? ⟨b',j,none⟩=false)∧(∀j u,olds[j]? =some u→w'.cell? ⟨b',j,none⟩=some u)∧∀j u,news[j]? =some u→w'.cell? ⟨b',len*ty.size+j,none⟩=some u:=by
  intro p cap hx hold hg
  have hgr:=run_append_grow_src (P:=P) w t t' tt el ie z hu hie hez p len cap olds hold y 1 news hsrc hg (by
   have:aD=140737488355328:=rfl
   omega) (by rw[heb];exact AR _ _ _ hg hbd)
  have hge:=grownCap_ge w (len+1) cap el
  rw[hx]
  have hcl:∀(vs:Array Value) (j:Nat),(w.drew.alloc (.cells vs el)).cell? ⟨w.heap.size,j,none⟩=vs[j]? :=λvs j=>tg w.drew vs el j (0,0)
  refine⟨_,_,_,hgr,.inl rfl,hge,hmx,by show w.heap.size<(w.drew.heap.push _).size;simp,by show w.heap.size≤(w.drew.heap.push _).size;simp,rfl,rfl,rfl,λb hb _=>df w.drew _ hb,λj hj=>⟨?_,tu w.drew _ el j⟩,λj u hj=> ?_,λj u hj=> ?_⟩
  ·refine(congrArg Option.isSome (hcl _ j)).trans ?_
   rw[Array.getElem?_eq_getElem (by
    rw[Array.size_append,size_zeroCells,hzs,List.size_toArray,List.length_append,hol,hnl,←Nat.add_mul,←Nat.add_mul]
    have:len+1+(grownCap w (len+1) cap el-(len+1))=grownCap w (len+1) cap el:=by omega
    rw[this];exact hj)]
   rfl
  ·refine(hcl _ j).trans ?_
   have hlt:=(List.getElem?_eq_some_iff.1 hj).1
   rw[Array.getElem?_append_left (by rw[List.size_toArray,List.length_append];omega),List.getElem?_toArray,List.getElem?_append_left hlt]
   exact hj
  ·refine(hcl _ _).trans ?_
   have hlt:=(List.getElem?_eq_some_iff.1 hj).1
   rw[Array.getElem?_append_left (by rw[List.size_toArray,List.length_append];omega),List.getElem?_toArray,List.getElem?_append_right (by omega),←hj]
   congr 1
   omega
 rcases hx with⟨p,hx,rfl⟩|⟨b,cap,hx,hle,hblt,hcells,hcold⟩
 ·have ho:olds=[]:=List.eq_nil_of_length_eq_zero (by omega)
  subst ho
  refine hgrow p 0 hx ?_ (by omega)
  cases p with
  |none=>exact run_firstCells_none w.drew _ _ _ _
  |some q=>exact run_firstCells_some w.drew _ _ q _ _ [] (by simp) (by simp)
 ·by_cases hroom:len+1≤cap
  ·have hfit:len*ty.size+1*ty.size≤cap*ty.size:=by rw[←Nat.add_mul];exact Nat.mul_le_mul_right _ hroom
   have hr1:=run_append_room_src (P:=P) w t t' tt el ie hu hie b 0 len cap y 1 news hsrc hroom (λj hj=>by rw[hes,Nat.zero_add];exact(hcells _ (by omega)).1) (λj hj=>by rw[hes,Nat.zero_add];exact(hcells _ (by omega)).2)
   rw[hes,Nat.zero_add]at hr1
   obtain⟨q1,q2,q3,q4,q5⟩:=cX b news (len*ty.size) w
   have hcl:=dQ (w:=w) (b:=b) (off:=len*ty.size) (us:=news) (m:=cap*ty.size) (λj hj=>(hcells j hj).1) (by omega)
   rw[hx]
   refine⟨_,_,_,hr1,.inr ⟨cap,rfl,hroom⟩,hroom,hmx,by rw[q2];exact hblt,by rw[q2];exact Nat.le_refl _,q3,q4,q5,λb' _ hne=>q1 b' hne,λj hj=>⟨?_, ?_⟩,λj u hj=> ?_,λj u hj=> ?_⟩
   ·rw[hcl j]
    split
    ·rename_i hjr
     have:j-len*ty.size<news.length:=by omega
     simp[List.getElem?_eq_getElem this]
    ·exact(hcells j hj).1
   ·rw[World.frozen?_setCells]
    exact(hcells j hj).2
   ·have hlt:=(List.getElem?_eq_some_iff.1 hj).1
    rw[hcl j,if_neg (by omega)]
    exact hcold j u hj
   ·have hlt:=(List.getElem?_eq_some_iff.1 hj).1
    rw[hcl,if_pos (by omega),←hj]
    congr 1
    omega
  ·refine hgrow (some ⟨b,0,none⟩) cap hx (run_firstCells_some w.drew _ _ ⟨b,0,none⟩ _ _ olds (by rw[hol,hes]) (λj v hv=>by rw[kx];simpa using hcold j v hv)) (by omega)
theorem SimX.dpush (h:SimX w0 mo n I0 I M s a w){id:Nat}{t:Ty}{xs:List t.T}{e1:t.T}{ver' iv':Nat}(hcase:(s.obj id=none∧xs=[])∨∃ver iv,s.obj id=some (.dar t xs ver iv)∧ver<ver'∧iv<iv'){ns:List (Option (Nat×Nat))}
  (hfree:∀j b c,pO ns j=some (b,c)→FreeB w0 I M s.obj w.heap.size b)(hninj:∀j j' b c c',pO ns j=some (b,c)→pO ns j'=some (b,c')→j=j'){w':World}{b' cap':Nat}(hb':b'=w.heap.size∨(s.obj id≠none∧∃cap,M id=some (b',cap)))
  (hle:xs.length+1≤cap')(hmx:xs.length+1≤aD)(hlt:b'<w'.heap.size)(hsz:w.heap.size≤w'.heap.size)(hos:w'.os=w.os)(htape:w'.tape=w.tape)(hout:w'.output=w.output)(hw:∀b,b<w.heap.size→b≠b'→w'.heap[b]? =w.heap[b]?)
  (hcells:∀j,j<cap'*t.size→(w'.cell? ⟨b',j,none⟩).isSome=true∧w'.frozen? ⟨b',j,none⟩=false)
  (hold:∀(i:Nat) e (j:Nat) c,xs[i]? =some e→(t.cells e)[j]? =some c→∃u,w'.cell? ⟨b',i*t.size+j,none⟩=some u∧d9 (M.n id) w i j c u)
  (hnew:∀(j:Nat) c,(t.cells e1)[j]? =some c→∃u,w'.cell? ⟨b',xs.length*t.size+j,none⟩=some u∧d9 (λ_=>pO ns) w 0 j c u):
  ∃M',SimX w0 mo n I0 I M' ⟨s.tmp,af s.obj id (.dar t (xs++[e1]) ver' iv')⟩ a w'∧M' id=some (b',cap'):=by
 let n':Nat→Nat→Option (Nat×Nat):=λi j=>if i=xs.length then pO ns j else if i<xs.length then M.n id i j else none
 have hlv:∀i j b c,i<xs.length→M.n id i j=some (b,c)→s.obj id≠none∧isDar (s.obj id)=true:=by
  intro i j b c hi _
  rcases hcase with⟨_,rfl⟩|⟨ver,iv,ho,_⟩
  ·simp at hi
  ·rw[ho];exact⟨by simp,rfl⟩
 have hB:∀i j b c,n' i j=some (b,c)→FreeB w0 I M s.obj w.heap.size b∧i=xs.length∧pO ns j=some (b,c)∨i<xs.length∧M.n id i j=some (b,c):=by
  intro i j b c hb
  by_cases h1:i=xs.length
  ·simp only[n',if_pos h1]at hb
   exact .inl ⟨hfree j b c hb,h1,hb⟩
  ·by_cases h2:i<xs.length
   ·simp only[n',if_neg h1,if_pos h2]at hb
    exact .inr ⟨h2,hb⟩
   ·simp only[n',if_neg h1,if_neg h2]at hb
    cases hb
 have hne:∀i j b c,n' i j=some (b,c)→b<w.heap.size∧b≠b':=by
  intro i j b c hb
  rcases hB i j b c hb with⟨h1,_,_⟩|⟨h1,h2⟩
  ·refine⟨h1.hi, ?_⟩
   rintro rfl
   rcases hb' with h3|⟨h3,cap,h4⟩
   ·exact Nat.lt_irrefl _ (h3▸h1.hi)
   ·exact h1.m id cap h3 h4
  ·obtain⟨h5,h6⟩:=hlv i j b c h1 h2
   refine⟨(h.vir.lt id i j b c h6 h2).2.1, ?_⟩
   rintro rfl
   rcases hb' with h3|⟨h3,cap,h4⟩
   ·exact Nat.lt_irrefl _ (h3▸(h.vir.lt id i j b c h6 h2).2.1)
   ·exact h.vir.dis id id i j b c cap h6 h3 h2 h4
 obtain⟨_,hs⟩:=h.dput (id:=id) (xs':=xs++[e1]) (ver':=ver') (iv':=iv') (m:=some (b',cap')) (n':=n') (w':=w') (by
   rcases hcase with⟨ho,_⟩|⟨ver,iv,ho,h1,h2⟩
   ·rw[ho];trivial
   ·rw[ho];exact⟨Nat.le_of_lt h1,Nat.le_of_lt h2,λe=>by omega,λe=>by omega⟩)
  (λb hb hx=>hw b hb (by
   rintro rfl
   rcases hb' with h3|⟨h3,cap,h4⟩
   ·omega
   ·exact hx cap h3 h4)) hsz hos htape hout (by
   intro b c hm
   cases hm
   rcases hb' with rfl|h3
   ·exact .inl (vD h hlt)
   ·exact .inr h3)
  (λi j b c hb=>by
   rcases hB i j b c hb with⟨h1,_,_⟩|⟨h1,h2⟩
   ·exact .inl (h1.mono hsz)
   ·exact .inr ⟨(hlv i j b c h1 h2).1,i,j,c,h2⟩)
  (λi j i2 j2 b c c' h1 h2=>by
   rcases hB i j b c h1 with⟨g1,rfl,g2⟩|⟨g1,g2⟩<;>rcases hB i2 j2 b c' h2 with⟨g3,rfl,g4⟩|⟨g3,g4⟩
   ·exact⟨rfl,hninj j j2 b c c' g2 g4⟩
   ·exact(g1.n id i2 j2 c' (hlv i2 j2 b c' g3 g4).2 g4).elim
   ·exact(g3.n id i j c (hlv i j b c g1 g2).2 g2).elim
   ·have hd:=(hlv i j b c g1 g2).2
    exact(h.vir.inj id id i i2 j j2 b c c' hd hd g2 g4).2)
  (λi j b c c' h1 h2=>by cases h2;exact(hne i j _ c h1).2 rfl) (λhext=>by
   refine .inr ⟨b',cap',by simp only[aE,if_pos],hlt, ?_,by rw[List.length_append];exact hle,by rw[List.length_append];exact hmx,hcells,λi e j c he hc=> ?_⟩
   ·intro hI
    rcases hb' with rfl|⟨h3,cap,h4⟩
    ·exact Nat.lt_irrefl _ (h.ilt _ hI)
    ·rcases hcase with⟨ho,_⟩|⟨ver,iv,ho,_⟩
     ·exact h3 ho
     ·rcases h.objs id _ ho with⟨g1,_⟩|⟨b2,cap2,g1,_,g2,_⟩
      ·simp only[]at g1;rw[h4]at g1;cases g1
      ·simp only[]at g1 g2;rw[h4]at g1;cases g1;exact g2 hI
   ·simp only[aE,if_pos]
    have hmono:∀{i j c u},d9 n' w i j c u→d9 n' w' i j c u:=fun{i j c u} hr=>hr.mono λb k hb=>hw b (hne i j b k hb).1 (hne i j b k hb).2
    have hcong:∀{m1:Nat→Nat→Option (Nat×Nat)} {i1 i2 j c u},m1 i1 j=n' i2 j→d9 m1 w i1 j c u→d9 n' w i2 j c u:=by
     intro m1 i1 i2 j c u he hr
     cases c with
     |sl t1 ys=>show iZ w (n' i2 j) t1 ys u;rw[←he];exact hr
     |bool _=>exact hr
     |int _ _=>exact hr
     |str _=>exact hr
     |raw _=>exact hr
    rw[List.getElem?_append]at he
    split at he
    ·rename_i hi
     obtain⟨u,hu,hr⟩:=hold i e j c he hc
     exact⟨u,hu,hmono (hcong (by simp only[n'];rw[if_neg (by omega),if_pos hi]) hr)⟩
    ·rename_i hi
     have hi0:i=xs.length:=by
      have:=(List.getElem?_eq_some_iff.1 he).1
      simp only[List.length_singleton]at this
      omega
     subst hi0
     rw[Nat.sub_self,List.getElem?_cons_zero]at he
     cases he
     obtain⟨u,hu,hr⟩:=hnew j c hc
     exact⟨u,hu,hmono (hcong (by simp only[n',if_pos]) hr)⟩)
 exact⟨_,hs,by simp only[aE,if_pos]⟩
theorem KF (hte:fQ te P=true)(h:SimX w0 mo n I0 I M s a w){args:Array Operand}{tys:Array TypeId}(ho:o.op= .call {callee:= .builtin .append,args,argTypes:=tys}) (hr:aU C s (dJ te base (.call {callee:= .builtin .append,args,argTypes:=tys})) e)
  (hid:∀id∈(au base e.new).map (·.1),s.obj id=none):ga w0 mo n I0 s a base e ((execOp a.eval o).run P w):=by
 simp only[dJ]at hr
 split at hr
 ·rename_i x y t t' hargs htys
  have ha:args= #[x,y]:=by apply Array.ext';simpa using hargs
  have ht:tys= #[t,t']:=by apply Array.ext';simpa using htys
  subst ha;subst ht
  split at hr
  ·rename_i ty by_ hl
   obtain⟨el,i,ie,z,hu,hi',hsz1,hz,hie,hes,heb,hb0,hez,hez0,hu8,hi32,hd⟩:=iM hte hl
   have hzs:z.cells.size=ty.size:=by
    have:=(ld (J:=λ_=>True) (w:=w) hez0).length
    rw[gk]at this
    simpa [Ty.size]using this.symm
   obtain⟨c,hc,hr⟩:=bR h hr
   obtain⟨c',hc',hr⟩:=bR h hr
   have hrun:∀v w',(Builtin.append_ #[t,t'] o.type #[a.eval x,a.eval y]).run P w= .ok v w'→(execOp a.eval o).run P w= .ok (.value v) w':=by
    intro v w' hh
    simp only[execOp,ho,resolve,invoke,builtin]
    simp[hh]
   have hpos:=ty.size_pos
   split at hr
   ·rename_i id2
    obtain⟨hg,hr⟩:=hr.guard
    simp only[Bool.and_eq_true]at hg
    obtain⟨e',hk'⟩:∃e',P.underlying t'=some (.slice e'):=by
     have hg1:=hg.1
     unfold O7 at hg1
     split at hg1
     ·rename_i ty2 by2 hl2
      obtain⟨e',_,_,_,h1,_⟩:=iM hte hl2
      exact⟨e',h1⟩
     ·cases hg1
    obtain⟨ob,hob2,hr⟩:=hr.get
    cases ob with
    |arr _ _ _ _ _=>exact hr.fail.elim
    |dar _ _ _ _=>exact hr.fail.elim
    |box ds=>
     obtain⟨cs2,b2,hob3,hM2,hyv⟩:=hc'
     simp only[]at hob3 hM2
     obtain⟨b3,hM3,_,hblt2,_,hbox,_⟩:=h.objs id2 _ hob2
     simp only[]at hM3 hbox
     rw[hM2]at hM3;cases hM3
     obtain⟨us,o1,o2,o3,o4⟩:=sN (w:=w) (b:=b2) (off:=0) (k:=ds.length) (by
      intro j hj
      obtain⟨u,hu,_,h1⟩:=hbox j ds[j] (List.getElem?_eq_getElem hj)
      exact⟨u,by rw[Nat.zero_add];exact hu,h1⟩)
     have hall:ar (λc u=>aA (ax w0 I0 I M s w) c u) ds us:=by
      refine ar.of ds.length rfl o1 λj c u hj hu=> ?_
      obtain⟨u',hu',hr',_⟩:=hbox j c hj
      have:=o2 j u hu
      rw[Nat.zero_add,hu']at this
      cases this
      exact hr'
     obtain⟨cs,u,ns,k1,k2,k3,k4,k5,k6,hr⟩:=kt h hall hr
     split at hr
     ·rename_i e1 hget
      have hce:=Ty.get_cells hget
      have hul:us.length=ty.size:=by rw[←k3,←hce,Ty.cells_length]
      have hsrc:Src P ty.size t' (a.eval y) 1 us w:=by
       rw[hyv]
       exact Src.ofSlice w hk' ⟨b2,0,none⟩ 1 1 us (by omega) (λj u hu=>by rw[kx];exact o2 j u hu) o4
      obtain⟨M1,hext1,hs1,g1,g2,g3⟩:=K4 h k1 k5
      have hnewc:∀(j:Nat) c,(ty.cells e1)[j]? =some c→∃v,us[j]? =some v∧d9 (λ_=>pO ns) w 0 j c v:=by
       intro j c hj
       rw[hce]at hj
       have hlt:=(List.getElem?_eq_some_iff.1 hj).1
       have hlt2:j<us.length:=by omega
       exact⟨us[j],List.getElem?_eq_getElem hlt2,k4 j c _ hj (List.getElem?_eq_getElem hlt2)⟩
      cases c with
      |nil=>
       obtain⟨hg2,hr2⟩:=hr.guard
       cases hr2.ret
       have hbd:=Nat.le_of_ble_eq_true hg2
       simp only[aA]at hc
       obtain⟨w',b',cap',q1,q2,q3,q4,q5,q6,q7,q8,q9,q10,q11,q12,q13⟩:=QF (tt:=o.type) (v:=a.eval x) (len:=0) (olds:=[]) hte hl hsrc (by simp) (.inl ⟨none,hc,rfl⟩) (by simpa using hbd)
       have hidb:=hid base (by simp[au])
       have hnid:=vh k1 (id:=base) (by rw[hidb];intro _ _ _ _ _ hc;cases hc)
       have hb2:b'=w.heap.size:=by
        rcases q2 with h1|⟨cap,h1,_⟩
        ·exact h1
        ·rw[hc]at h1;cases h1
       obtain⟨M',hs',hM'⟩:=hs1.dpush (id:=base) (xs:=[]) (e1:=e1) (ver':=0) (iv':=0) (.inl ⟨by show bx s.obj u base=none;rw[(g1 base hnid).2];exact hidb,rfl⟩) (ns:=ns) g3 k6 (w':=w') (b':=b') (cap':=cap') (.inl hb2) q3 q4 q5 q6 q7 q8 q9 q10 q11 (by simp) (λj c hj=>by
        obtain⟨v,hv,hrv⟩:=hnewc j c hj
        exact⟨v,q13 j v hv,hrv⟩)
       refine⟨_,w',I,M',_,.inl (hrun _ _ q1),hs',ay ⟨rfl,.dar ty [e1] 0 0,by simp only[af,if_pos,List.nil_append],Nat.le_refl _,λ_=> ?_⟩,λi=> ?_⟩
       ·simp only[];rw[hM'];rfl
       ·simp only[au,bZ,List.nil_append]
        rw[aR]
        simp only[bx]
        cases hl1:ac u i with
        |none=>cases ac [(base,Ob.dar ty [e1] 0 0)] i<;>rfl
        |some o1=>
         have hne:i≠base:=by rintro rfl;exact hnid (cY hl1)
         rw[iV,if_neg hne]
      |down id ver=>
       obtain⟨ob,hob,hr⟩:=hr.get
       cases ob with
       |box _=>exact hr.fail.elim
       |arr _ _ _ _ _=>exact hr.fail.elim
       |dar t0 xs ver' iv=>
        obtain⟨hver,hr⟩:=hr.guard
        have hver:=Nat.eq_of_beq_eq_true hver
        split at hr
        ·rename_i ht
         subst ht
         obtain⟨hg2,hr2⟩:=hr.guard
         cases hr2.ret
         have hbd:=Nat.le_of_ble_eq_true hg2
         obtain⟨_,ob2,ho2,hd2⟩:=hc
         simp only[]at ho2
         rw[hob]at ho2;cases ho2
         have hval:=hd2.2 hver
         have hnid:=vh k1 (id:=id) (by rw[hob];intro _ _ _ _ _ hc;cases hc)
         obtain⟨g4,g5⟩:=g1 id hnid
         have hob1:bx s.obj u id=some (.dar ty xs ver' iv):=by rw[g5];exact hob
         have hro:=hs1.objs id _ hob1
         have hval1:aM (M1 id) xs.length (a.eval x):=by rw[g4];exact hval
         obtain⟨olds,p1,p2,hxcase⟩:∃olds:List Value,olds.length=xs.length*ty.size∧(∀(i:Nat) e (j:Nat) c,xs[i]? =some e→(ty.cells e)[j]? =some c→∃v,olds[i*ty.size+j]? =some v∧d9 (M1.n id) w i j c v)∧
           ((∃p,a.eval x= .slice p 0 0∧xs.length=0)∨∃b cap,a.eval x= .slice (some ⟨b,0,none⟩) xs.length cap∧xs.length≤cap∧b<w.heap.size∧(∀j,j<cap*ty.size→(w.cell? ⟨b,j,none⟩).isSome=true∧w.frozen? ⟨b,j,none⟩=false)∧∀j u,olds[j]? =some u→w.cell? ⟨b,j,none⟩=some u):=by
          rcases hro with⟨hM,hnil⟩|⟨b,cap,hM,hblt,hnI,hle,hmx0,hcells,hel⟩
          ·simp only[]at hM
           rw[hM]at hval1
           obtain⟨p,hval1⟩:=hval1
           subst hnil
           exact⟨[],by simp,by simp,.inl ⟨p,hval1,rfl⟩⟩
          ·simp only[]at hM hblt hle hmx0 hcells hel
           rw[hM]at hval1
           simp only[aM]at hval1
           obtain⟨olds,r1,r2,r3,r4⟩:=sN (w:=w) (b:=b) (off:=0) (k:=xs.length*ty.size) (by
            intro j hj
            obtain⟨y1,c1,hy1,hc1,he1⟩:=wM hj
            obtain⟨u,hu1,hr1⟩:=hel _ _ _ _ hy1 hc1
            rw[←he1]at hu1
            exact⟨u,by rw[Nat.zero_add];exact hu1,hr1.one⟩)
           refine⟨olds,r1,λi e j c he hc=> ?_,.inr ⟨b,cap,hval1,hle,hblt,hcells,λj u hu=>by have:=r2 j u hu;rw[Nat.zero_add]at this;exact this⟩⟩
           ·obtain⟨u,hu1,hr1⟩:=hel i e j c he hc
            have hjl:j<ty.size:=by
             have:=(List.getElem?_eq_some_iff.1 hc).1
             rwa [Ty.cells_length]at this
            have h1:(i+1)*ty.size≤xs.length*ty.size:=Nat.mul_le_mul_right _ (List.getElem?_eq_some_iff.1 he).1
            rw[Nat.add_mul]at h1
            obtain⟨u',hu'⟩:=r3 (i*ty.size+j) (by omega)
            have h5:=r2 _ _ hu'
            rw[Nat.zero_add]at h5
            rw[h5]at hu1;cases hu1
            exact⟨_,hu',hr1⟩
         obtain⟨w',b',cap',q1,q2,q3,q4,q5,q6,q7,q8,q9,q10,q11,q12,q13⟩:=QF (tt:=o.type) (v:=a.eval x) hte hl hsrc p1 hxcase hbd
         have hbb:b'=w.heap.size∨(bx s.obj u id≠none∧∃cap,M1 id=some (b',cap)):=by
          rcases q2 with h1|⟨cap,h1,h2⟩
          ·exact .inl h1
          ·refine .inr ⟨by rw[hob1];simp, ?_⟩
           rcases hro with⟨hM,hnil⟩|⟨b,cap2,hM,_⟩
           ·exfalso
            simp only[]at hM
            rw[hM]at hval1
            obtain⟨p,hval1⟩:=hval1
            rw[hval1]at h1
            injection h1 with e1 e2 e3
            omega
           ·simp only[]at hM
            rw[hM]at hval1
            simp only[aM]at hval1
            rw[h1]at hval1
            injection hval1 with e1 e2 e3
            cases e1
            exact⟨_,hM⟩
         obtain⟨M',hs',hM'⟩:=hs1.dpush (id:=id) (xs:=xs) (e1:=e1) (ver':=ver'+1) (iv':=iv+1) (.inr ⟨ver',iv,hob1,Nat.lt_succ_self _,Nat.lt_succ_self _⟩) (ns:=ns) g3 k6 (w':=w') (b':=b') (cap':=cap') hbb q3 q4 q5 q6 q7 q8 q9 q10 q11 (λi e j c he hc=>by
          obtain⟨v,hv,hrv⟩:=p2 i e j c he hc
          exact⟨v,q12 _ v hv,hrv⟩) (λj c hj=>by
          obtain⟨v,hv,hrv⟩:=hnewc j c hj
          exact⟨v,q13 j v hv,hrv⟩)
         refine⟨_,w',I,M',_,.inl (hrun _ _ q1),hs',ay ⟨rfl,.dar ty (xs++[e1]) (ver'+1) (iv+1),by simp only[af,if_pos],Nat.le_refl _,λ_=> ?_⟩,λi=> ?_⟩
         ·simp only[];rw[hM',List.length_append];rfl
         ·simp only[au,bZ,List.append_nil]
          rw[aR]
          simp only[bx]
          cases hl1:ac u i with
          |none=>rfl
          |some o1=>
           have hne:i≠id:=by rintro rfl;exact hnid (cY hl1)
           rw[iV,if_neg hne]
        ·exact hr.fail.elim
      |_=>exact hr.fail.elim
     ·exact hr.fail.elim
   have hgrow:∀(p:Option Addr) (xs ys:List ty.T) (cap:Nat) (olds news:List Value) (d:Bool),a.eval x= .slice p xs.length cap→(Builtin.firstCells ie.size xs.length (.slice p xs.length cap)).run P w.drew= .ok olds.toArray w.drew→
     Src P ie.size t' (a.eval y) ys.length news w→olds.length=xs.length*ty.size→mt (ax w0 I0 I M s w) d ty xs olds→mt (ax w0 I0 I M s w) d ty ys news→cap<xs.length+ys.length→
     (2*(xs.length+ys.length)+1024)*by_≤aD→
     ∃cap' w' vs,(execOp a.eval o).run P w= .ok (.value (.slice (some ⟨w.heap.size,0,none⟩) (xs++ys).length cap')) w'∧w'.heap[w.heap.size]? =some (.cells vs el (0,0))∧(∀b,b<w.heap.size→w'.heap[b]? =w.heap[b]?)∧w'.os=w.os∧w'.tape=w.tape∧w'.output=w.output∧
      vs.size=cap'*ty.size∧(xs++ys).length≤cap'∧(xs++ys).length≤aD∧∀i e j c,(xs++ys)[i]? =some e→(ty.cells e)[j]? =some c→∃u,vs[i*ty.size+j]? =some u∧RepC ((ax w0 I0 I M s w).J (pX d)) w c u:=by
    intro p xs ys cap olds news d hx hold hsrc hol hok1 hok2 hg hbd
    have hmx:(xs++ys).length≤aD:=by
     rw[List.length_append]
     have:1*(xs.length+ys.length)≤(2*(xs.length+ys.length)+1024)*by_:=Nat.mul_comm 1 _▸Nat.mul_le_mul (by omega) hb0
     omega
    have hgr:=run_append_grow_src (P:=P) w t t' o.type el ie z hu hie hez p xs.length cap olds hold (a.eval y) ys.length news hsrc hg (by
     have:aD=140737488355328:=rfl
     rw[List.length_append]at hmx
     omega) (by rw[heb];exact AR _ _ _ hg hbd)
    have hge:=grownCap_ge w (xs.length+ys.length) cap el
    refine⟨_,_,_,hrun _ _ (by rw[hx,List.length_append];exact hgr),sP w.drew _,λb hb=>df w.drew _ hb,rfl,rfl,rfl, ?_,by rw[List.length_append];exact hge,hmx, ?_⟩
    ·rw[Array.size_append,size_zeroCells,hzs,List.size_toArray,List.length_append,hol,hsrc.newsLen,hes,←Nat.add_mul,←Nat.add_mul]
     congr 1
     omega
    ·intro i e j c he hc
     obtain⟨u,hu1,hr1⟩:=Oo hol hok1 hok2 i e j c he hc
     refine⟨u, ?_,hr1⟩
     have hlt:=(List.getElem?_eq_some_iff.1 hu1).1
     rw[Array.getElem?_append_left (by rw[List.size_toArray];exact hlt)]
     simpa using hu1
   cases c with
   |nil=>
    simp only[aA]at hc
    obtain⟨ys,d',news,hsrc,hok,hr⟩:=ED hte h hc' hr
    obtain⟨hg,hr2⟩:=hr.guard
    cases hr2.ret
    have hbd:=Nat.le_of_ble_eq_true hg
    rw[←hes]at hsrc
    cases ys with
    |nil=>
     have hz:=tz (ty:=o.type) hu hie hsrc none
     obtain⟨hext,hs'⟩:=h.new (hid base (by simp[au])) (o:= .arr ty [] 0 false d') (m:=none) (w':=w) (λ_ _=>rfl) (Nat.le_refl _) rfl rfl rfl (by simp) (λ_=> .inl ⟨by simp only[bp,if_pos],rfl⟩)
     refine⟨_,w,I,_,_,.inl (hrun _ _ (by rw[hc];exact hz)),hs',ay ⟨ty,[],0,false,d',by simp only[af,if_pos],Nat.le_refl _,λ_=> ?_,rfl⟩,λi=> ?_⟩
     ·simp only[bp,if_pos,aM]
      exact⟨none,rfl⟩
     ·simp only[List.nil_append,au];exact aR _ _ _ _
    |cons y0 yr=>
     obtain⟨cap',w',vs,h1,h2,h3,h4,h5,h6,h7,h8,h9,h10⟩:=hgrow none [] (y0::yr) 0 [] news d' hc (run_firstCells_none w.drew _ _ _ _) hsrc (by simp) (by simp[mt]) hok (by simp) (by simpa using hbd)
     rw[List.nil_append]at h1 h8 h9 h10
     exact sH h (hid base (by simp[au])) h2 h3 h4 h5 h6 h7 h8 h9 (.inl (Nat.le_refl _)) h10 h1
   |own id ver=>
    obtain⟨ob,hob,hr⟩:=hr.get
    cases ob with
    |box _=>exact hr.fail.elim
    |dar _ _ _ _=>exact hr.fail.elim
    |arr t0 xs ver' frz d=>
     obtain⟨hg,hr3⟩:=hr.guard
     clear hr
     simp only[Bool.and_eq_true,decide_eq_true_eq,Bool.not_eq_true']at hg
     obtain⟨⟨rfl,hver⟩,rfl⟩:=hg
     obtain⟨ys,d',news,hsrc,hok,hr⟩:=ED hte h hc' hr3
     obtain⟨hg,hr2⟩:=hr.guard
     cases hr2.ret
     have hbd:=Nat.le_of_ble_eq_true hg
     have hmx:(xs++ys).length≤aD:=by
      rw[List.length_append]
      have:1*(xs.length+ys.length)≤(2*(xs.length+ys.length)+1024)*by_:=Nat.mul_comm 1 _▸Nat.mul_le_mul (by omega) hb0
      omega
     obtain⟨t2,xs2,v2,f2,d2,h3,h4,h5,h6⟩:=hc
     simp only[]at h3 h5
     rw[hob]at h3;cases h3
     have hval:=h5 (Nat.eq_of_beq_eq_true hver)
     rw[←hes]at hsrc
     have hlift:∀{m:Option (Nat×Nat)} {w':World},Ext (ax w0 I0 I M s w) ⟨w0.heap.size,I0,I,bp M id m,af s.obj id (.arr t0 (xs++ys) (ver'+1) false (d&&d')),w'⟩→∀{c u},RepC ((ax w0 I0 I M s w).J (pX (d&&d'))) w c u→RepC ((Cx.mk w0.heap.size I0 I (bp M id m) (af s.obj id (.arr t0 (xs++ys) (ver'+1) false (d&&d'))) w').J (if(d&&d')then .new else .any)) w' c u:=by
      intro m w' hext c u hc
      exact RepC.ext hext hc
     have hfin:∀{m:Option (Nat×Nat)} {w':World} {v:Value},(execOp a.eval o).run P w= .ok (.value v) w'→aM m (xs++ys).length v→v.oneCell'=true→
       (Ext (ax w0 I0 I M s w) ⟨w0.heap.size,I0,I,bp M id m,af s.obj id (.arr t0 (xs++ys) (ver'+1) false (d&&d')),w'⟩∧SimX w0 mo n I0 I (bp M id m) ⟨s.tmp,af s.obj id (.arr t0 (xs++ys) (ver'+1) false (d&&d'))⟩ a w')→
       ga w0 mo n I0 s a base ⟨one (.own id (ver'+1)),[],[(id,.arr t0 (xs++ys) (ver'+1) false (d&&d'))]⟩ ((execOp a.eval o).run P w):=by
      intro m w' v hrn hov h1 hs'
      refine⟨v,w',I,_,_,.inl hrn,hs'.2,ay ⟨t0,xs++ys,ver'+1,false,d&&d',by simp only[af,if_pos],Nat.le_refl _,λ_=> ?_,h1⟩,λi=> ?_⟩
      ·simp only[bp,if_pos];exact hov
      ·simp only[List.append_nil,au];exact aR _ _ _ _
     have hnew:∀{p:Option Addr} {cap:Nat} {olds:List Value},a.eval x= .slice p xs.length cap→(Builtin.firstCells ie.size xs.length (.slice p xs.length cap)).run P w.drew= .ok olds.toArray w.drew→olds.length=xs.length*t0.size→mt (ax w0 I0 I M s w) d t0 xs olds→
       cap<xs.length+ys.length→ga w0 mo n I0 s a base ⟨one (.own id (ver'+1)),[],[(id,.arr t0 (xs++ys) (ver'+1) false (d&&d'))]⟩ ((execOp a.eval o).run P w):=by
      intro p cap olds hx hold hol hok1 hg
      obtain⟨cap',w',vs,q1,q2,q3,q4,q5,q6,q7,q8,q9,q10⟩:=hgrow p xs ys cap olds news (d&&d') hx hold hsrc hol (hok1.weaken (by simp;exact λh _=>h)) (hok.weaken (by simp)) hg hbd
      have hsz:w.heap.size<w'.heap.size:=(Array.getElem?_eq_some_iff.1 q2).1
      refine hfin (m:=some (w.heap.size,cap')) q1 rfl rfl (h.redo hob (Nat.lt_succ_self _) (λb hb _=>q3 b hb) (Nat.le_of_lt hsz) q4 q5 q6 (by intro b c hm;cases hm;exact .inl (Nat.le_refl _)) λhext=> ?_)
      refine .inr ⟨w.heap.size,cap',by simp only[bp,if_pos],λ_=>h.below.size,hsz,⟨λhI=> ?_,by simp⟩,q8,q9,λj hj=> ?_,λi e j c he hc=> ?_⟩
      ·have:=h.ilt _ hI;omega
      ·refine⟨?_, ?_⟩
       ·unfold World.cell?
        rw[q2]
        simp[q7,hj]
       ·unfold World.frozen?
        rw[q2]
        simp
      ·obtain⟨u,hu1,hr1⟩:=q10 i e j c he hc
       refine⟨u, ?_,hlift hext hr1⟩
       unfold World.cell?
       rw[q2]
       simpa using hu1
     rcases h.objs id _ hob with⟨hM,hnil⟩|⟨b,cap,hM,hN,hblt,hfr,hle,hmx0,hcells,hel⟩
     ·simp only[]at hM
      rw[hM]at hval
      obtain⟨p,hval⟩:=hval
      subst hnil
      cases ys with
      |nil=>
       have hz:=tz (ty:=o.type) hu hie hsrc p
       refine hfin (m:=none) (hrun _ _ (by rw[hval];exact hz)) ⟨p,rfl⟩ rfl (h.redo hob (Nat.lt_succ_self _) (λ_ _ _=>rfl) (Nat.le_refl _) rfl rfl rfl (by simp) λhext=> .inl ⟨by simp only[bp,if_pos],rfl⟩)
      |cons y0 yr=>
       refine hnew (p:=p) (cap:=0) (olds:=[]) hval ?_ (by simp) (by simp[mt]) (by simp)
       cases p with
       |none=>exact run_firstCells_none w.drew _ _ _ _
       |some q=>exact run_firstCells_some w.drew _ _ q _ _ [] (by simp) (by simp)
     ·simp only[]at hM hN hblt hfr hle hmx0 hcells hel
      rw[hM]at hval
      simp only[aM]at hval
      by_cases hroom:xs.length+ys.length≤cap
      ·have hnl:news.length=ys.length*t0.size:=by rw[hsrc.newsLen,hes]
       have hfit:xs.length*t0.size+ys.length*t0.size≤cap*t0.size:=by rw[←Nat.add_mul];exact Nat.mul_le_mul_right _ hroom
       have hr1:=run_append_room_src (P:=P) w t t' o.type el ie hu hie b 0 xs.length cap (a.eval y) ys.length news hsrc hroom (λj hj=>by rw[hes,Nat.zero_add];exact(hcells _ (by omega)).1) (λj hj=>by rw[hes,Nat.zero_add];exact(hcells _ (by omega)).2)
       rw[hes,Nat.zero_add]at hr1
       obtain⟨q1,q2,q3,q4,q5⟩:=cX b news (xs.length*t0.size) w
       have hcl:=dQ (w:=w) (b:=b) (off:=xs.length*t0.size) (us:=news) (m:=cap*t0.size) (λj hj=>(hcells j hj).1) (by omega)
       refine hfin (m:=some (b,cap)) (hrun _ _ (by rw[hval];exact hr1)) (by simp only[aM,List.length_append]) rfl (h.redo hob (Nat.lt_succ_self _) (λb' _ hne=>q1 b' λhbb=>hne cap (by rw[hbb];exact hM)) (by rw[q2];exact Nat.le_refl _) q3 q4 q5 (by intro b' c hm;cases hm;exact .inr ⟨_,hM⟩) λhext=> ?_)
       refine .inr ⟨b,cap,by simp only[bp,if_pos],λhdd=>hN (by cases d<;>simp_all),by simp only[];rw[q2];exact hblt,hfr,by rw[List.length_append];exact hroom,hmx,λj hj=>⟨?_, ?_⟩,λi e j c he hc=> ?_⟩
       ·simp only[]
        rw[hcl j]
        split
        ·rename_i hjr
         have:j-xs.length*t0.size<news.length:=by omega
         simp[List.getElem?_eq_getElem this]
        ·exact(hcells j hj).1
       ·simp only[]
        rw[World.frozen?_setCells]
        exact(hcells j hj).2
       ·have hjl:j<t0.size:=by
         have:=(List.getElem?_eq_some_iff.1 hc).1
         rwa [Ty.cells_length]at this
        rw[List.getElem?_append]at he
        split at he
        ·rename_i hlt
         obtain⟨u,hu1,hr1⟩:=hel i e j c he hc
         have h1:(i+1)*t0.size≤xs.length*t0.size:=Nat.mul_le_mul_right _ hlt
         rw[Nat.add_mul]at h1
         refine⟨u, ?_,hlift hext (hr1.weaken (by cases d<;>cases d'<;>simp[pX]))⟩
         simp only[]
         rw[hcl,if_neg (by omega)]
         exact hu1
        ·rename_i hge
         obtain⟨u,hu1,hr1⟩:=hok _ e j c he hc
         have h1:xs.length*t0.size≤i*t0.size:=Nat.mul_le_mul_right _ (by omega)
         have h2:=(List.getElem?_eq_some_iff.1 hu1).1
         rw[Nat.sub_mul]at h2 hu1
         refine⟨u, ?_,hlift hext (hr1.weaken (by cases d<;>cases d'<;>simp[pX]))⟩
         simp only[]
         rw[hcl,if_pos (by omega),←hu1]
         congr 1
         omega
      ·obtain⟨olds,o1,o2,o3,o4⟩:=sN (w:=w) (b:=b) (off:=0) (k:=xs.length*t0.size) (by
        intro j hj
        obtain⟨y1,c1,hy1,hc1,he1⟩:=wM hj
        obtain⟨u,hu1,hr1⟩:=hel _ _ _ _ hy1 hc1
        rw[←he1]at hu1
        exact⟨u,by rw[Nat.zero_add];exact hu1,hr1.one⟩)
       refine hnew (p:=some ⟨b,0,none⟩) (cap:=cap) (olds:=olds) hval (run_firstCells_some w.drew _ _ ⟨b,0,none⟩ _ _ olds (by rw[o1,hes]) (λj v hv=>by rw[kx];simpa using o2 j v hv)) o1 ?_ (by omega)
       intro i e j c he hc
       obtain⟨u,hu1,hr1⟩:=hel i e j c he hc
       have hjl:j<t0.size:=by
        have:=(List.getElem?_eq_some_iff.1 hc).1
        rwa [Ty.cells_length]at this
       have h1:(i+1)*t0.size≤xs.length*t0.size:=Nat.mul_le_mul_right _ (List.getElem?_eq_some_iff.1 he).1
       rw[Nat.add_mul]at h1
       obtain⟨u',hu'⟩:=o3 (i*t0.size+j) (by omega)
       have h5:=o2 _ _ hu'
       rw[Nat.zero_add]at h5
       rw[h5]at hu1;cases hu1
       exact⟨_,hu',by cases d<;>exact hr1⟩
   |vw id ver lo0 i0=>
    cases c' with
    |vw id2 ver2 j0 n2=>
     obtain⟨ob,hob,hr⟩:=hr.get
     cases ob with
     |box _=>exact hr.fail.elim
     |dar _ _ _ _=>exact hr.fail.elim
     |arr t0 xs ver' frz d=>
      obtain⟨hg,hr2⟩:=hr.guard
      cases hr2.ret
      simp only[Bool.and_eq_true,decide_eq_true_eq,Bool.not_eq_true']at hg
      obtain⟨⟨⟨⟨⟨⟨⟨⟨rfl,g1⟩,rfl⟩,g2⟩,g3⟩,g4⟩,g5⟩,g6⟩,g7⟩:=hg
      have g1:=Nat.eq_of_beq_eq_true g1
      have g2:=Nat.eq_of_beq_eq_true g2
      have g3:=Nat.eq_of_beq_eq_true g3
      have g4:=Nat.eq_of_beq_eq_true g4
      have g5:=Nat.le_of_ble_eq_true g5
      have g6:=Nat.eq_of_beq_eq_true g6
      have g2:=g2.symm
      have g3:=g3.symm
      subst g1;subst g2;subst g3;subst g4;subst g6
      obtain⟨e',hk'⟩:∃e',P.underlying t'=some (.slice e'):=by
       unfold O7 at g7
       split at g7
       ·rename_i hl2
        obtain⟨e2,_,_,_,hu2,_⟩:=iM hte hl2
        exact⟨e2,hu2⟩
       ·cases g7
      obtain⟨t1,xs1,v1,f1,d1,o1,_,o3,_⟩:=hc
      simp only[]at o1 o3
      rw[hob]at o1;cases o1
      obtain⟨⟨_,hi0⟩,p,cap,hov,hxv⟩:=o3 rfl
      obtain⟨t3,xs3,v3,f3,d3,p1,_,p3,_⟩:=hc'
      simp only[]at p1 p3
      rw[hob]at p1;cases p1
      obtain⟨⟨hj0,_⟩,p',cap',hov',hyv⟩:=p3 rfl
      have hxl:(xs.take i0++xs.drop j0++xs.drop (i0+(xs.length-j0))).length=xs.length:=by
       simp only[List.length_append,List.length_take,List.length_drop];omega
      have eadd:∀(q:Addr),q.add (0*t0.size)=q:=by intro q;simp[Addr.add]
      rcases h.objs id _ hob with⟨hM,hnil⟩|⟨b,cap2,hM,hN,hblt,hfr,hle,hmx0,hcells,hel⟩
      ·simp only[]at hM
       subst hnil
       rw[hM]at hov hov'
       obtain⟨a1,hov⟩:=hov
       obtain⟨a2,hov'⟩:=hov'
       injection hov with _ _ k1
       injection hov' with _ _ k2
       subst k1;subst k2
       simp only[List.length_nil,Nat.le_zero_eq]at hi0 hj0
       subst hi0;subst hj0
       have hxv':a.eval x= .slice p 0 0:=by rw[hxv];simp
       have hyv':∃q,a.eval y= .slice q 0 0:=⟨p',by rw[hyv];simp⟩
       obtain⟨q,hyv'⟩:=hyv'
       have hsrc:Src P ie.size t' (a.eval y) 0 [] w:=by
        rw[hyv']
        cases q with
        |none=>exact Src.ofNil w hk' 0
        |some q=>exact Src.ofSlice w hk' q 0 0 [] (by simp) (by simp) (by simp)
       have hz:=tz (ty:=o.type) hu hie hsrc p
       refine⟨_,w,I,M,s.obj,.inl (hrun _ _ (by rw[hxv'];exact hz)),h,ay ⟨t0,[],ver,false,d,hob,Nat.le_refl _,λ_=>⟨⟨Nat.le_refl _,by simp⟩,p,0,by show aM (M id) _ _;rw[hM];exact⟨p,rfl⟩,by simp⟩,rfl⟩,λk=> ?_⟩
       simp only[au,List.append_nil,List.take_nil,List.drop_nil]
       rw[iV]
       by_cases hk:k=id
       ·subst hk;rw[if_pos rfl];exact hob
       ·rw[if_neg hk]
      ·simp only[]at hM hN hblt hfr hle hmx0 hcells hel
       rw[hM]at hov hov'
       simp only[aM]at hov hov'
       injection hov with k0 _ k1
       injection hov' with k2 _ k3
       subst k0;subst k1;subst k2
       have k3:=k3.symm
       subst k3
       have hpos:=t0.size_pos
       have hxv':a.eval x= .slice (some ⟨b,0,none⟩) i0 cap:=by
        rw[hxv]
        split<;>simp[Addr.add]
       obtain⟨news,m1,m2,m3,m4⟩:=sN (w:=w) (b:=b) (off:=j0*t0.size) (k:=(xs.length-j0)*t0.size) (by
        intro k hk
        have hk':j0*t0.size+k<xs.length*t0.size:=by
         have:(xs.length-j0)*t0.size+j0*t0.size=xs.length*t0.size:=by rw[←Nat.add_mul];congr 1;omega
         omega
        obtain⟨y1,c1,hy1,hc1,he1⟩:=wM hk'
        obtain⟨u,hu1,hr1⟩:=hel _ _ _ _ hy1 hc1
        rw[←he1]at hu1
        exact⟨u,hu1,hr1.one⟩)
       have hsrc:Src P ie.size t' (a.eval y) (xs.length-j0) news w:=by
        rw[hyv,hes]
        by_cases hcj:cap=j0
        ·have h0:news=[]:=List.eq_nil_of_length_eq_zero (by rw[m1,show xs.length-j0=0 by omega,Nat.zero_mul])
         subst h0
         rw[if_pos hcj]
         exact Src.ofSlice w hk' _ _ _ [] (by rw[←m1]) (by simp) (by simp)
        ·rw[if_neg hcj]
         refine Src.ofSlice w hk' _ _ _ news (by rw[m1]) (λk u hku=> ?_) m4
         have:=m2 k u hku
         rw[←this]
         simp[Addr.add_lit]
       have hroom:i0+(xs.length-j0)≤cap:=by omega
       have hfit:i0*t0.size+(xs.length-j0)*t0.size≤cap*t0.size:=by rw[←Nat.add_mul];exact Nat.mul_le_mul_right _ hroom
       have hr1:=run_append_room_src (P:=P) w t t' o.type el ie hu hie b 0 i0 cap (a.eval y) (xs.length-j0) news hsrc hroom (λk hk=>by rw[hes,Nat.zero_add];exact(hcells _ (by omega)).1) (λk hk=>by rw[hes,Nat.zero_add];exact(hcells _ (by omega)).2)
       rw[hes,Nat.zero_add]at hr1
       obtain⟨hext,hs'⟩:=h.rewr hob hxl hM (off:=i0*t0.size) (us:=news) (by rw[m1];exact hfit) (by
        intro k e0 jj c0 he0 hc0
        have hjl:jj<t0.size:=by
         have:=(List.getElem?_eq_some_iff.1 hc0).1
         rwa [Ty.cells_length]at this
        have base:∀q,xs[q]? =some e0→∃u,w.cell? ⟨b,q*t0.size+jj,none⟩=some u∧RepC ((ax w0 I0 I M s w).J (pX d)) w c0 u:=λq hq=>hel q e0 jj c0 hq hc0
        rw[m1]
        have emul:(i0+(xs.length-j0))*t0.size=i0*t0.size+(xs.length-j0)*t0.size:=Nat.add_mul _ _ _
        rcases Nat.lt_or_ge k i0 with hk|hk
        ·have h1:(k+1)*t0.size≤i0*t0.size:=Nat.mul_le_mul_right _ hk
         rw[Nat.add_mul]at h1
         rw[List.append_assoc,List.getElem?_append_left (by rw[List.length_take];omega),List.getElem?_take,if_pos hk]at he0
         rw[if_neg (by omega)]
         exact base k he0
        ·have h1:i0*t0.size≤k*t0.size:=Nat.mul_le_mul_right _ hk
         rw[List.append_assoc,List.getElem?_append_right (by rw[List.length_take];omega),List.length_take,Nat.min_eq_left hi0]at he0
         rcases Nat.lt_or_ge k (i0+(xs.length-j0))with hk2|hk2
         ·have h2:(k+1)*t0.size≤(i0+(xs.length-j0))*t0.size:=Nat.mul_le_mul_right _ hk2
          rw[Nat.add_mul k]at h2
          rw[List.getElem?_append_left (by rw[List.length_drop];omega),List.getElem?_drop]at he0
          obtain⟨u,hu1,hr1⟩:=base _ he0
          refine⟨u, ?_,hr1⟩
          rw[if_pos (by omega)]
          obtain⟨u',hu'⟩:=m3 (k*t0.size+jj-i0*t0.size) (by omega)
          have h5:=m2 _ _ hu'
          rw[hu',←h5,←hu1]
          congr 2
          rw[Nat.add_mul,Nat.sub_mul]
          omega
         ·have h2:(i0+(xs.length-j0))*t0.size≤k*t0.size:=Nat.mul_le_mul_right _ hk2
          rw[List.getElem?_append_right (by rw[List.length_drop];omega),List.getElem?_drop,List.length_drop]at he0
          rw[if_neg (by omega)]
          refine base k ?_
          rw[←he0];congr 1;omega)
       refine⟨_,_,I,M,_,.inl (hrun _ _ (by rw[hxv'];exact hr1)),hs',ay ⟨t0,xs.take i0++xs.drop j0++xs.drop (i0+(xs.length-j0)),ver,false,d,by simp only[af,if_pos],Nat.le_refl _,λ_=>⟨⟨Nat.zero_le _,by rw[hxl];omega⟩,some ⟨b,0,none⟩,cap,by show aM (M id) _ _;rw[hM];rfl, ?_⟩,rfl⟩,λk=> ?_⟩
       ·split<;>simp[Addr.add]
       ·simp only[List.append_nil,au];exact aR _ _ _ _
    |_=>exact hr.fail.elim
   |_=>exact hr.fail.elim
  ·exact hr.fail.elim
 ·exact hr.fail.elim
theorem ar.atR {α β:Type}{R:α→β→Prop}:∀{as:List α} {bs:List β},ar R as bs→∀{j:Nat} {b:β},bs[j]? =some b→∃a,as[j]? =some a∧R a b
 |[],[],_,_,_,h=>by simp at h
 |a::as,b::bs,⟨h1,h2⟩,j,x,h=>by
  cases j with
  |zero=>simp at h;subst h;exact⟨a,rfl,h1⟩
  |succ j=>simp at h;obtain⟨y,hy,hr⟩:=ar.atR h2 h;exact⟨y,by simpa using hy,hr⟩
 |[],_::_,h,_,_,_=>h.elim
 |_::_,[],h,_,_,_=>h.elim
theorem zX (w:World)(t el ty:TypeId)(z:Value)(zs:List Value)(ht:P.underlying t=some (.slice el))(hv:∀w,(zeroValue el).run P w= .ok z w)(b off k c:Nat)(hk:0<k)(hz:(Builtin.zeroCells z.cells k).toList=zs)
  (hc:∀j,j<zs.length→(w.cell? ⟨b,off+j,none⟩).isSome=true)(hf:∀j,j<zs.length→w.frozen? ⟨b,off+j,none⟩=false)(h1:∀v∈zs,v.oneCell'=true):
  (Builtin.clear_ #[t] ty #[.slice (some ⟨b,off,none⟩) k c]).run P w= .ok (.tuple #[]) (w.setCells b off zs):=by
 have hst:=run_storeCells_cells (P:=P) b off zs 0 w (by simpa using hc) (by simpa using hf) h1
 simp only[Nat.add_zero]at hst
 obtain⟨m,rfl⟩:∃m,k=m+1:=⟨k-1,by omega⟩
 simp[Builtin.clear_,run_underlying ht,hv,hz,hst]
theorem Cv (w:World)(t el ty:TypeId)(ht:P.underlying t=some (.slice el))(p:Option Addr)(c:Nat):(Builtin.clear_ #[t] ty #[.slice p 0 c]).run P w= .ok (.tuple #[]) w:=by
 cases p<;>simp[Builtin.clear_,run_underlying ht]
theorem Mr (hte:fQ te P=true)(h:SimX w0 mo n I0 I M s a w){args:Array Operand}{tys:Array TypeId}(ho:o.op= .call {callee:= .builtin .clear,args,argTypes:=tys}) (hr:aU C s (dJ te base (.call {callee:= .builtin .clear,args,argTypes:=tys})) e):
  ga w0 mo n I0 s a base e ((execOp a.eval o).run P w):=by
 simp only[dJ]at hr
 split at hr
 ·rename_i x t hargs htys
  have ha:args= #[x]:=by apply Array.ext';simpa using hargs
  have ht:tys= #[t]:=by apply Array.ext';simpa using htys
  subst ha;subst ht
  split at hr
  ·rename_i ty by_ hl
   obtain⟨el,i,ie,z,hu,hi',hsz1,hz,hie,hes,heb,hb0,hez,hez0,hu8,hi32,hd⟩:=iM hte hl
   obtain⟨c,hc,hr⟩:=bR h hr
   have hrun:∀v w',(Builtin.clear_ #[t] o.type #[a.eval x]).run P w= .ok v w'→(execOp a.eval o).run P w= .ok (.value v) w':=by
    intro v w' hh
    simp only[execOp,ho,resolve,invoke,builtin]
    simp[hh]
   cases c with
   |vw id ver lo hi=>
    obtain⟨ob,hob,hr⟩:=hr.get
    cases ob with
    |box _=>exact hr.fail.elim
    |dar _ _ _ _=>exact hr.fail.elim
    |arr t0 xs ver' frz d=>
     obtain⟨hg,hr2⟩:=hr.guard
     cases hr2.ret
     simp only[Bool.and_eq_true,decide_eq_true_eq,Bool.not_eq_true']at hg
     obtain⟨⟨rfl,g1⟩,rfl⟩:=hg
     have g1:=Nat.eq_of_beq_eq_true g1
     subst g1
     obtain⟨t1,xs1,v1,f1,d1,o1,_,o3,_⟩:=hc
     simp only[]at o1 o3
     rw[hob]at o1;cases o1
     obtain⟨⟨hlh,hhi⟩,p,cap,hov,hxv⟩:=o3 rfl
     have hzv:∀w,(zeroValue el).run P w= .ok z w:=λw=>by simp[zeroValue,typeInfo,hie,hez]
     rcases Nat.eq_or_lt_of_le hlh with h0|h0
     ·
      subst h0
      have hxx:xs.take lo++List.replicate (lo-lo) t0.zero++xs.drop lo=xs:=by simp
      refine⟨.tuple #[],w,I,M,s.obj,.inl (hrun _ _ (by rw[hxv,Nat.sub_self];exact Cv w t el _ hu _ _)),h,⟨#[],rfl,trivial⟩,λk=> ?_⟩
      simp only[au,List.append_nil,hxx]
      rw[iV]
      by_cases hk:k=id
      ·subst hk;rw[if_pos rfl];exact hob
      ·rw[if_neg hk]
     ·rcases h.objs id _ hob with⟨hM,hnil⟩|⟨b,cap2,hM,hN,hblt,hfr,hle,hmx0,hcells,hel⟩
      ·subst hnil;simp at hhi;omega
      ·simp only[]at hM hN hblt hfr hle hmx0 hcells hel
       rw[hM]at hov
       simp only[aM]at hov
       injection hov with k0 _ k1
       subst k0;subst k1
       have hxv':a.eval x= .slice (some ⟨b,lo*t0.size,none⟩) (hi-lo) (cap-lo):=by
        rw[hxv,if_neg (by omega)]
        simp[Addr.add_lit]
       have hall:=xz (J:=(ax w0 I0 I M s w).J (pX d)) (w:=w) hez0 (hi-lo)
       have hzs:z.cells.size=t0.size:=by
        have:=(ld (J:=λ_=>True) (w:=w) hez0).length
        rw[gk]at this
        simpa [Ty.size]using this.symm
       generalize hzz:(Builtin.zeroCells z.cells (hi-lo)).toList=zs
       have hall:ar (RepC ((ax w0 I0 I M s w).J (pX d)) w) (flat t0 (List.replicate (hi-lo) t0.zero)) zs:=by
        rw[←hzz]
        simpa [Builtin.zeroCells,hzs]using hall
       have hzl:zs.length=(hi-lo)*t0.size:=by rw[←hzz];simp[Builtin.zeroCells,hzs]
       have hfit:lo*t0.size+(hi-lo)*t0.size≤cap*t0.size:=by rw[←Nat.add_mul];exact Nat.mul_le_mul_right _ (by omega)
       have hcl:=zX (P:=P) w t el o.type z zs hu hzv b (lo*t0.size) (hi-lo) (cap-lo) (by omega) hzz (λj hj=>(hcells _ (by omega)).1) (λj hj=>(hcells _ (by omega)).2) (λv hv=>by
        obtain⟨k,hk⟩:=List.getElem?_of_mem hv
        obtain⟨c1,_,hr1⟩:=ar.atR hall hk
        exact hr1.one)
       have hxl:(xs.take lo++List.replicate (hi-lo) t0.zero++xs.drop hi).length=xs.length:=by
        simp only[List.length_append,List.length_take,List.length_drop,List.length_replicate];omega
       obtain⟨hext,hs'⟩:=h.rewr hob hxl hM (off:=lo*t0.size) (us:=zs) (by rw[hzl];exact hfit) (by
        intro k e0 jj c0 he0 hc0
        have hjl:jj<t0.size:=by
         have:=(List.getElem?_eq_some_iff.1 hc0).1
         rwa [Ty.cells_length]at this
        rw[hzl]
        have emul:(lo+(hi-lo))*t0.size=lo*t0.size+(hi-lo)*t0.size:=Nat.add_mul _ _ _
        rcases Nat.lt_or_ge k lo with hk|hk
        ·have h1:(k+1)*t0.size≤lo*t0.size:=Nat.mul_le_mul_right _ hk
         rw[Nat.add_mul]at h1
         rw[List.append_assoc,List.getElem?_append_left (by rw[List.length_take];omega),List.getElem?_take,if_pos hk]at he0
         rw[if_neg (by omega)]
         exact hel k e0 jj c0 he0 hc0
        ·have h1:lo*t0.size≤k*t0.size:=Nat.mul_le_mul_right _ hk
         rw[List.append_assoc,List.getElem?_append_right (by rw[List.length_take];omega),List.length_take,Nat.min_eq_left (by omega)]at he0
         rcases Nat.lt_or_ge k hi with hk2|hk2
         ·have h2:(k+1)*t0.size≤(lo+(hi-lo))*t0.size:=Nat.mul_le_mul_right _ (by omega)
          rw[Nat.add_mul k]at h2
          rw[List.getElem?_append_left (by rw[List.length_replicate];omega)]at he0
          obtain⟨u,hu1,hr1⟩:=hall.at (uj t0 he0 hc0)
          refine⟨u, ?_,hr1⟩
          rw[if_pos (by omega),←hu1]
          congr 1
          rw[Nat.sub_mul];omega
         ·have h2:(lo+(hi-lo))*t0.size≤k*t0.size:=Nat.mul_le_mul_right _ (by omega)
          rw[List.getElem?_append_right (by rw[List.length_replicate];omega),List.getElem?_drop,List.length_replicate]at he0
          rw[if_neg (by omega)]
          refine hel k e0 jj c0 ?_ hc0
          rw[←he0];congr 1;omega)
       refine⟨.tuple #[],_,I,M,_,.inl (hrun _ _ (by rw[hxv'];exact hcl)),hs',⟨#[],rfl,trivial⟩,λk=> ?_⟩
       simp only[List.append_nil,au];exact aR _ _ _ _
   |_=>exact hr.fail.elim
  ·exact hr.fail.elim
 ·exact hr.fail.elim
theorem NN (hte:fQ te P=true)(h:SimX w0 mo n I0 I M s a w){args:Array Operand}{tys:Array TypeId}(ho:o.op= .call {callee:= .builtin .copy,args,argTypes:=tys}) (hr:aU C s (dJ te base (.call {callee:= .builtin .copy,args,argTypes:=tys})) e):
  ga w0 mo n I0 s a base e ((execOp a.eval o).run P w):=by
 simp only[dJ]at hr
 split at hr
 ·rename_i x y t t' hargs htys
  have ha:args= #[x,y]:=by apply Array.ext';simpa using hargs
  have ht:tys= #[t,t']:=by apply Array.ext';simpa using htys
  subst ha;subst ht
  split at hr
  ·rename_i by_ by' hl hl'
   obtain⟨el,i,ie,z,hu,hi',hsz1,hz,hie,hes,_⟩:=iM hte hl
   have hes1:(P.info? el).map (·.size)=some 1:=by rw[hie,Option.map_some,hes];rfl
   obtain⟨c,hc,hr⟩:=bR h hr
   obtain⟨c',hc',hr⟩:=bR h hr
   have hrun:∀v w',(Builtin.copy_ #[t,t'] o.type #[a.eval x,a.eval y]).run P w= .ok v w'→(execOp a.eval o).run P w= .ok (.value v) w':=by
    intro v w' hh
    simp only[execOp,ho,resolve,invoke,builtin]
    simp[hh]
   cases c with
   |own id ver=>
    obtain⟨ob,hob,hr⟩:=hr.get
    split at hr
    ·rename_i xs ver' frz d
     obtain⟨hg,hr⟩:=hr.guard
     simp only[Bool.and_eq_true,Bool.not_eq_true']at hg
     obtain⟨hver,hfrz⟩:=hg
     subst hfrz
     obtain⟨x',hx',hr⟩:=qj h hc' hr
     split at hr
     ·rename_i ys
      cases hr.ret
      obtain⟨t1,xs1,v1,f1,d1,ho1,hv1,hval,_⟩:=hc
      simp only[]at ho1 hval
      rw[hob]at ho1;cases ho1
      have hval:=hval (Nat.eq_of_beq_eq_true hver)
      have hro:=h.objs id _ hob
      have hlen:(ys.take xs.length).length=Nat.min ys.length xs.length:=by rw[List.length_take,Nat.min_comm]
      have hin:Ag .i64 (((ys.take xs.length).length:Nat):Int):=by
       have:xs.length≤aD:=by
        rcases hro with⟨_,h2⟩|⟨_,_,_,_,_,_,_,h7,_⟩
        ·rw[h2];simp
        ·exact h7
       unfold aD at this
       refine⟨by simp[IntKind.min,IntKind.signed,IntKind.bits], ?_⟩
       rw[IntKind.max_i64,List.length_take]
       omega
      by_cases h0:(ys.take xs.length).length=0
      ·
       have he:ys.take xs.length=[]:=List.eq_nil_of_length_eq_zero h0
       have hxs:∃p cap,a.eval x= .slice p xs.length cap:=by
        cases hm:M id with
        |none=>
         rw[hm]at hval
         obtain⟨q,hq⟩:=hval
         rcases hro with⟨_,h2⟩|⟨_,_,h2,_⟩
         ·rw[h2,hq];exact⟨q,0,rfl⟩
         ·simp only[]at h2;rw[hm]at h2;cases h2
        |some q=>obtain⟨b,cap⟩:=q;rw[hm]at hval;exact⟨_,cap,hval⟩
       obtain⟨p,cap,hxv⟩:=hxs
       have hys:∃p cap,a.eval y= .slice p ys.length cap:=by
        generalize a.eval y=v at hx'
        cases hx' with
        |nil=>exact⟨none,0,rfl⟩
        |emp _ a cap=>exact⟨some a,cap,rfl⟩
        |sl _ _ b off cap _ _ _ _ _ _=>exact⟨_,cap,rfl⟩
       obtain⟨p',cap',hyv⟩:=hys
       have:=run_copy_none (P:=P) w t t' o.type el p p' xs.length cap ys.length cap' hu hes1 (by rw[←hlen];exact h0)
       refine⟨_,w,I,M,_,.inl (hrun _ _ (by rw[hxv,hyv];exact this)),h,ay ⟨?_,hin⟩,λj=> ?_⟩
       ·rw[h0];rfl
       ·simp only[he,List.nil_append,List.length_nil,List.drop_zero,au,List.append_nil]
        rw[iV]
        by_cases hj:j=id
        ·subst hj;rw[if_pos rfl];exact hob
        ·rw[if_neg hj]
      ·have hys:∃b' off cap',a.eval y= .slice (some ⟨b',off,none⟩) ys.length cap'∧∀(j:Nat) (e0:Int),ys[j]? =some e0→w.cell? ⟨b',off+j,none⟩=some (Value.int .u8 e0)∧Ag .u8 e0:=by
        generalize a.eval y=v at hx'
        cases hx' with
        |nil=>exact absurd (by simp) h0
        |emp _ a cap=>exact absurd (by simp) h0
        |sl _ _ b off cap vs _ _ _ hcell hrep=>
         refine⟨b,off,cap,rfl,λj e0 he0=> ?_⟩
         have h1:=hcell j e0 0 (.int .u8 e0) he0 rfl
         have h2:=hrep j e0 0 (.int .u8 e0) he0 rfl
         generalize vs j 0=u at h1 h2
         cases h2 with
         |int _ _ hk=>
          refine⟨?_,hk⟩
          rw[←h1]
          show _=w.cell? ⟨b,off+j*1+0,none⟩
          rw[Nat.mul_one,Nat.add_zero]
       obtain⟨b',off,cap',hyv,hyc⟩:=hys
       rcases hro with⟨_,h2⟩|⟨b,cap,hM,hN,hblt,hfr,hle,hmx,hcells,hel⟩
       ·exact absurd (by rw[h2];simp) h0
       simp only[]at hM hN hblt hfr hle hmx hcells hel
       rw[hM]at hval
       have hxv:a.eval x= .slice (some ⟨b,0,none⟩) xs.length cap:=hval
       have hnI:¬I b:=λhc=>by have:=hfr.1 hc;cases this
       have hs1:Ty.u8.size=1:=rfl
       rw[hs1,Nat.mul_one]at hcells
       let us:List Value:=(ys.take xs.length).map (Value.int .u8)
       have husl:us.length=(ys.take xs.length).length:=by simp[us]
       have hule:us.length≤xs.length:=by rw[husl,List.length_take];omega
       have hus:∀(j:Nat) (u:Value),us[j]? =some u→∃e0:Int,(ys.take xs.length)[j]? =some e0∧u=Value.int .u8 e0:=by
        intro j u hj
        simp only[us,List.getElem?_map,Option.map_eq_some_iff]at hj
        obtain⟨e0,h1,h2⟩:=hj
        exact⟨e0,h1,h2.symm⟩
       have hrc:=run_copy_cells (P:=P) w t t' o.type el b 0 xs.length cap ⟨b',off,none⟩ ys.length cap' us hu hes1 (by rw[husl,hlen]) (λj v hj=>by
        obtain⟨e0,h1,rfl⟩:=hus j v hj
        have h1':ys[j]? =some e0:=by
         rw[List.getElem?_take]at h1
         split at h1
         ·exact h1
         ·cases h1
        rw[Addr.add_lit]
        exact(hyc j e0 h1').1) (λj hj=>by rw[Nat.zero_add];exact(hcells j (by omega)).1) (λj hj=>by rw[Nat.zero_add];exact(hcells j (by omega)).2) (λv hv=>by
        obtain⟨j,hj⟩:=List.getElem?_of_mem hv
        obtain⟨e0,_,rfl⟩:=hus j v hj
        rfl)
       obtain⟨q1,q2,q3,q4,q5⟩:=cX b us 0 w
       have hownb:=h.own _ b _ (by rw[hob];simp) hM
       have hcl:=dQ (w:=w) (b:=b) (off:=0) (us:=us) (m:=cap) (λj hj=>(hcells j hj).1) (by omega)
       obtain⟨hext,hs'⟩:=h.write hob (o':= .arr .u8 (ys.take xs.length++xs.drop (ys.take xs.length).length) ver' false d) ⟨rfl,by rw[List.length_append,List.length_drop];rw[husl]at hule;omega,rfl,rfl⟩ hM hnI (w':=w.setCells b 0 us) (λb' hb' _=>q1 b' hb')
        ⟨q3,q4,q5,by rw[q2];exact Nat.le_refl _,λk hk hnx=>q1 k (by
         rintro rfl
         rcases hownb with h1|h1
         ·omega
         ·exact hnx h1.x)⟩ q2 (by
        intro hext
        have hl2:(ys.take xs.length++xs.drop (ys.take xs.length).length).length=xs.length:=by rw[List.length_append,List.length_drop];rw[husl]at hule;omega
        refine .inr ⟨b,cap,hM,hN,by simp only[];rw[q2];exact hblt,hfr,by rw[hl2];exact hle,by rw[hl2];exact hmx,λj hj=>⟨?_, ?_⟩,λi' e0 j c he0 hcj=> ?_⟩
        ·rw[hs1,Nat.mul_one]at hj
         simp only[]
         rw[hcl j]
         split
         ·rename_i hjr
          have:j-0<us.length:=by omega
          rw[List.getElem?_eq_getElem this];rfl
         ·exact(hcells j hj).1
        ·rw[hs1,Nat.mul_one]at hj
         simp only[]
         rw[World.frozen?_setCells]
         exact(hcells j hj).2
        ·have hj0:j=0:=by
          have:=(List.getElem?_eq_some_iff.1 hcj).1
          rw[Ty.cells_length,hs1]at this
          omega
         subst hj0
         have hc0:c= .int .u8 e0:=by
          have e1:(Ty.u8.cells e0)[0]? =some (.int .u8 e0):=rfl
          rw[e1]at hcj;cases hcj;rfl
         subst hc0
         refine⟨.int .u8 e0, ?_, ?_⟩
         ·simp only[]
          rw[hs1,Nat.mul_one,Nat.add_zero,hcl i']
          by_cases hlt:i'<us.length
          ·rw[if_pos (by omega)]
           rw[List.getElem?_append_left (by rw[←husl];exact hlt)]at he0
           simp only[us,Nat.sub_zero,List.getElem?_map,he0,Option.map_some]
          ·rw[if_neg (by omega)]
           rw[List.getElem?_append_right (by rw[←husl];omega),List.getElem?_drop]at he0
           have he1:xs[i']? =some e0:=by rw[←he0];congr 1;rw[husl]at hlt;omega
           obtain⟨u,hu1,hu2⟩:=hel i' e0 0 (.int .u8 e0) he1 rfl
           rw[hs1,Nat.mul_one,Nat.add_zero]at hu1
           rw[hu1]
           cases hu2
           rfl
         ·have:Ag .u8 e0:=by
           by_cases hlt:i'<us.length
           ·rw[List.getElem?_append_left (by rw[←husl];exact hlt),List.getElem?_take]at he0
            split at he0
            ·exact(hyc _ _ he0).2
            ·cases he0
           ·rw[List.getElem?_append_right (by rw[←husl];omega),List.getElem?_drop]at he0
            obtain⟨u,_,hu2⟩:=hel _ e0 0 (.int .u8 e0) he0 rfl
            cases hu2 with|int _ _ hk=>exact hk
          exact .int _ _ this)
       refine⟨_,_,I,M,_,.inl (hrun _ _ (by rw[hxv,hyv];exact hrc)),hs',ay ⟨?_,hin⟩,λj=> ?_⟩
       ·rw[husl];rfl
       ·rw[aR]
        simp only[au,List.append_nil]
     ·exact hr.fail.elim
    ·exact hr.fail.elim
   |_=>exact hr.fail.elim
  ·exact hr.fail.elim
 ·exact hr.fail.elim
end
end Go.Proofs.YtffjmkhjhchnmaaGreat
