/- Variables written. -/
import Derived.Test.YtfpdenjmlnhnnaaGreatOps7
set_option linter.unusedVariables false
set_option linter.unusedSimpArgs false
namespace Go.Proofs.YtfpdenjmlnhnnaaGreat
open Go Go.RowKit
theorem i5 (b:Nat):∀(vs:List Value) (o:Nat) (w:World),(∀b',b'≠b→(w.setCells b o vs).heap[b']? =w.heap[b']?)∧(w.setCells b o vs).heap.size=w.heap.size∧
  (w.setCells b o vs).os=w.os∧(w.setCells b o vs).tape=w.tape∧(w.setCells b o vs).output=w.output
 |[],_,_=>⟨λ_ _=>rfl,rfl,rfl,rfl,rfl⟩
 |v::vs,o,w=>by
  obtain⟨h1,h2,h3,h4,h5⟩:=i5 b vs (o+1) (w.setCell ⟨b,o,none⟩ v)
  refine⟨λb' hb'=> ?_, ?_, ?_, ?_, ?_⟩
  ·rw[World.setCells,h1 b' hb'];exact Below.heap_setCell w _ v b' hb'
  ·rw[World.setCells,h2];simp
  ·rw[World.setCells,h3];rfl
  ·rw[World.setCells,h4];rfl
  ·rw[World.setCells,h5];rfl
theorem kQ {w:World}{b off:Nat}{us:List Value}{m:Nat}(hin:∀j,j<m→(w.cell? ⟨b,j,none⟩).isSome=true)(hfit:off+us.length≤m)(j:Nat):
  (w.setCells b off us).cell? ⟨b,j,none⟩=if off≤j∧j<off+us.length then us[j-off]? else w.cell? ⟨b,j,none⟩:=by
 by_cases h:off≤j∧j<off+us.length
 ·rw[if_pos h]
  have:=World.cell?_setCells_in b us off w (λk hk=>hin (off+k) (by omega)) (j-off) (by omega)
  rw[show off+(j-off)=j from by omega]at this
  rw[this]
  simp[List.getElem?_eq_getElem (show j-off<us.length by omega)]
 ·rw[if_neg h]
  refine World.cell?_setCells_out b us off w _ λ_ _=> ?_
  simp only
  omega
section
variable {α:Type} {C:Nat→List PV→List MO→eT→List MO→Prop} {w0:World} {mo:o8} {n:Nat} {I0 I:Nat→Prop} {M:Nat→Option (Nat×Nat)} {s:FSt} {a:Act} {w:World} {te:TE} {P:Program} {base:Nat} {e:Eff} {o:Oper}
theorem RepC.weaken {x:Cx}{p q:Pv}{w:World}{c:Cell}{v:Value}(h:RepC (x.J p) w c v)(hpq:p=q∨(p= .new∧q= .any)):RepC (x.J q) w c v:=by
 rcases hpq with rfl|⟨rfl,rfl⟩
 ·exact h
 ·exact h.mono (λ_ _=>rfl) λ_ hb=>hb.1
theorem L9 (hte:jy te P=true){t:Nat}{ti:TI}(hl:ao te t=some ti)(hp:1≤ti.fl.length){v:Value}(hlen:v.cells.size=ti.fl.length){b off m:Nat}(hin:∀j,j<m→(w.cell? ⟨b,j,none⟩).isSome=true∧w.frozen? ⟨b,j,none⟩=false)
  (hfit:off+v.cells.size≤m)(h1:∀u∈v.cells.toList,u.oneCell'=true):(storeVar t ⟨b,off,none⟩ v).run P w= .ok () (w.setCells b off v.cells.toList):=by
 obtain⟨i,z,hi,hs,hz,hz0,hsz,hagg,hz1,hone⟩:=x8 hte hl hp
 have:=run_storeCells_cells (P:=P) b off v.cells.toList 0 w (λj hj=>(hin _ (by simp at hj;omega)).1) (λj hj=>(hin _ (by simp at hj;omega)).2) h1
 simp only[Nat.add_zero]at this
 simp[storeVar,hsz,hlen,this]
theorem Yu (hte:jy te P=true)(h:SimX w0 mo n I0 I M s a w){t:Nat}{x y:Operand}(ho:o.op= .store t x y)(hr:bF C s (fj te base (.store t x y)) e):jz w0 mo n I0 s a base e ((execOp a.eval o).run P w):=by
 simp only[fj]at hr
 split at hr
 ·rename_i ti hl
  obtain⟨p,hp,hr⟩:=cB h hr
  obtain⟨d,hd,hr⟩:=iR h hr
  cases d with
  |tup _=>exact hr.fail.elim
  |v ag ds=>
   obtain⟨hg,hr⟩:=hr.guard
   simp only[Bool.and_eq_true]at hg
   obtain⟨⟨hdl,hok⟩,hp1⟩:=hg
   have hp1:=Nat.le_of_ble_eq_true hp1
   have hdl:=Nat.eq_of_beq_eq_true hdl
   have hv:=sa hd hok
   have hvs:(a.eval y).cells.size=ds.length:=by simpa using hv.length.symm
   have h1c:∀u∈(a.eval y).cells.toList,u.oneCell'=true:=by
    intro u hu
    obtain⟨k,hk⟩:=List.getElem?_of_mem hu
    have hkl:k<ds.length:=by
     have:=(List.getElem?_eq_some_iff.1 hk).1
     simpa [hvs]using this
    obtain⟨u',hu',_,h1⟩:=hv.at (List.getElem?_eq_getElem hkl)
    rw[hk]at hu';cases hu'
    exact h1
   cases p with
   |ptr id off=>
    obtain⟨ob,hob,hr⟩:=hr.get
    cases ob with
    |arr _ _ _ _ _=>exact hr.fail.elim
    |box cs=>
     obtain⟨hg,hr⟩:=hr.guard
     cases hr.ret
     have hfit:=Nat.le_of_ble_eq_true hg
     obtain⟨cs1,b,hob1,hM,hx⟩:=hp
     simp only[]at hob1 hM
     obtain⟨b',hM',hN,hblt,hnI,hc,hf⟩:=h.objs id _ hob
     simp only[]at hM' hN hblt hnI hc hf
     rw[hM]at hM';cases hM'
     have hin:∀j,j<cs.length→(w.cell? ⟨b,j,none⟩).isSome=true∧w.frozen? ⟨b,j,none⟩=false:=by
      intro j hj
      obtain⟨u,hu,_⟩:=hc j cs[j] (by simp[hj])
      exact⟨by rw[hu];rfl,hf j hj⟩
     have hrun:=L9 (P:=P) (w:=w) hte hl hp1 (v:=a.eval y) (by omega) (b:=b) (off:=off) (m:=cs.length) hin (by omega) h1c
     obtain⟨q1,q2,q3,q4,q5⟩:=i5 b (a.eval y).cells.toList off w
     have hownb:=h.own _ b _ (by rw[hob];simp) hM
     obtain⟨hext,hs'⟩:=h.write hob (o':= .box (splice cs off ds)) trivial hM hnI (w':=w.setCells b off (a.eval y).cells.toList) (λb' hb' _=>q1 b' hb')
      ⟨q3,q4,q5,by rw[q2];exact Nat.le_refl _,λk hk hnx=>q1 k (by
        rintro rfl
        rcases hownb with h1|h1
        ·omega
        ·exact hnx h1.x)⟩ q2 (by
      intro hext
      refine⟨b,hM,hN,by simp only[];rw[q2];exact hblt,hnI,λj c hj=> ?_,λj hj=> ?_⟩
      ·have hcl:=kQ (w:=w) (b:=b) (off:=off) (us:=(a.eval y).cells.toList) (m:=cs.length) (λj hj=>(hin j hj).1) (by simp;omega) j
       simp only[]at hcl⊢
       rw[hcl]
       have hul:(a.eval y).cells.toList.length=ds.length:=by simpa using hvs
       by_cases hjin:off≤j∧j<off+ds.length
       ·rw[if_pos (by rw[hul];exact hjin)]
        rw[uo hfit hjin.1 hjin.2]at hj
        obtain⟨u,hu,hru,h1⟩:=hv.at hj
        exact⟨u,hu,hru.ext hext,h1⟩
       ·rw[if_neg (by rw[hul];exact hjin)]
        rw[lC hfit (by omega)]at hj
        obtain⟨u,hu,hru,h1⟩:=hc j c hj
        exact⟨u,hu,hru.ext hext,h1⟩
      ·rw[World.frozen?_setCells]
       exact hf j (by rw[LJ hfit]at hj;exact hj))
     refine⟨undef,_,I,M,_,.inr ⟨by simp[execOp,ho,Instr.storeAt,hx,Instr.sureAddr,hrun],rfl⟩,hs',⟨_,rfl,trivial⟩,λi=> ?_⟩
     simp only[List.append_nil,aR];exact cI _ _ _ _
   |vw _ _ _ _=>exact hr.fail.elim
   |eptr id ver i off=>
    obtain⟨ob,hob,hr⟩:=hr.get
    cases ob with
    |box cs=>exact hr.fail.elim
    |arr ty xs ver' frz d=>
     obtain⟨hg,hr⟩:=hr.guard
     simp only[Bool.and_eq_true,Bool.not_eq_true']at hg
     obtain⟨⟨hver,hfrz⟩,hfit⟩:=hg
     have hver:=Nat.eq_of_beq_eq_true hver
     have hfit:=Nat.le_of_ble_eq_true hfit
     subst hfrz
     obtain⟨ls,d',u,hls,hfz,hr⟩:=pX h (hv.mono λ_ _ hh=>hh.1) hr
     split at hr
     ·rename_i e1 hget
      obtain⟨hg,hr2⟩:=hr.guard
      cases hr2.ret
      have hmem:¬id∈u.map (·.1):=by
       intro hc
       rw[li.2 hc]at hg;cases hg
      have hlk:ao u id=none:=ke hmem
      obtain⟨I',hIb,hext1,hs1⟩:=yW h hfz
      have hlay:=mQ.get hls hext1 rfl hIb
      have hob1:gJ s.obj u id=some (.arr ty xs ver' false d):=by simp only[gJ,hlk];exact hob
      obtain⟨t1,xs1,v1,f1,d1,ho1,hv1,hval,_⟩:=hp
      simp only[]at ho1 hval
      rw[hob]at ho1;cases ho1
      obtain⟨b,cap,hM,hi,hx⟩:=hval hver
      rcases hs1.objs id _ hob1 with⟨h1,_⟩|⟨b',cap',hM',hN,hblt,hfr,hle,hmx,hcells,hel⟩
      ·simp only[]at h1;rw[hM]at h1;cases h1
      simp only[]at hM' hN hblt hfr hle hmx hcells hel
      rw[hM]at hM';cases hM'
      have hnI:¬I' b:=λhc=>by have:=hfr.1 hc;cases this
      have hul:(a.eval y).cells.toList.length=ds.length:=by simpa using hvs
      have hlsl:ls.length=ds.length:=by rw[hls.length,hul]
      have hcl0:(ty.cells (xs.getD i ty.zero)).length=ty.size:=Ty.cells_length _ _
      have hfit0:off+ls.length≤(ty.cells (xs.getD i ty.zero)).length:=by omega
      have hce:=Ty.get_cells hget
      have hrow:(i+1)*ty.size≤cap*ty.size:=Nat.mul_le_mul_right _ (by omega)
      rw[Nat.add_mul,Nat.one_mul]at hrow
      have hrun:=L9 (P:=P) (w:=w) hte hl hp1 (v:=a.eval y) (by omega) (b:=b) (off:=i*ty.size+off) (m:=cap*ty.size) hcells (by omega) h1c
      obtain⟨q1,q2,q3,q4,q5⟩:=i5 b (a.eval y).cells.toList (i*ty.size+off) w
      have hownb:=h.own _ b _ (by rw[hob];simp) hM
      have hcl:=kQ (w:=w) (b:=b) (off:=i*ty.size+off) (us:=(a.eval y).cells.toList) (m:=cap*ty.size) (λj hj=>(hcells j hj).1) (by omega)
      obtain⟨hext,hs'⟩:=hs1.write hob1 (o':= .arr ty (xs.set i e1) ver' false (d&&d')) ⟨rfl,by simp,rfl,rfl⟩ hM hnI (w':=w.setCells b (i*ty.size+off) (a.eval y).cells.toList) (λb' hb' _=>q1 b' hb')
       ⟨q3,q4,q5,by rw[q2];exact Nat.le_refl _,λk hk hnx=>q1 k (by
        rintro rfl
        rcases hownb with h1|h1
        ·omega
        ·exact hnx h1.x)⟩ q2 (by
       intro hext
       refine .inr ⟨b,cap,hM,λhdd=>hN (by cases d<;>simp_all),by simp only[];rw[q2];exact hblt,hfr,by simpa using hle,by simpa using hmx,λj hj=>⟨?_, ?_⟩,λi' x j c hxi hcj=> ?_⟩
       ·simp only[]
        rw[hcl j]
        split
        ·rename_i hjr
         have:j-(i*ty.size+off)<(a.eval y).cells.toList.length:=by omega
         simp[List.getElem?_eq_getElem this]
        ·exact(hcells j hj).1
       ·simp only[]
        rw[World.frozen?_setCells]
        exact(hcells j hj).2
       ·have hjs:j<ty.size:=by
         have:=(List.getElem?_eq_some_iff.1 hcj).1
         rwa [Ty.cells_length]at this
        have hold:∀(y0:ty.T) (c0:Cell),xs[i']? =some y0→(ty.cells y0)[j]? =some c0→¬(i*ty.size+off≤i'*ty.size+j∧i'*ty.size+j<i*ty.size+off+(a.eval y).cells.toList.length)→
          ∃u1,(w.setCells b (i*ty.size+off) (a.eval y).cells.toList).cell? ⟨b,i'*ty.size+j,none⟩=some u1∧RepC ((Cx.mk w0.heap.size I0 I' M (aJ (gJ s.obj u) id (.arr ty (xs.set i e1) ver' false (d&&d'))) (w.setCells b (i*ty.size+off) (a.eval y).cells.toList)).J (if(d&&d')then .new else .any)) (w.setCells b (i*ty.size+off) (a.eval y).cells.toList) c0 u1:=by
         intro y0 c0 hy0 hc0 hno
         obtain⟨u1,hu1,hru1⟩:=hel i' y0 j c0 hy0 hc0
         refine⟨u1,by rw[hcl,if_neg hno];exact hu1, ?_⟩
         exact(RepC.ext hext hru1).weaken (by cases d<;>simp)
        rw[List.getElem?_set]at hxi
        by_cases hii:i=i'
        ·subst hii
         rw[if_pos rfl,if_pos hi]at hxi
         cases hxi
         rw[hce]at hcj
         by_cases hin:off≤j∧j<off+ls.length
         ·rw[uo hfit0 hin.1 hin.2]at hcj
          obtain⟨u1,hu1,hru1⟩:=hlay.at hcj
          refine⟨u1, ?_,(RepC.ext hext hru1).weaken (by cases d'<;>simp[wn])⟩
          simp only[]
          rw[hcl,if_pos (by omega),←hu1]
          congr 1;omega
         ·rw[lC hfit0 (by omega)]at hcj
          exact hold _ c (by simp[List.getD,List.getElem?_eq_getElem hi]) hcj (by omega)
        ·rw[if_neg hii]at hxi
         refine hold x c hxi hcj ?_
         rcases Nat.lt_or_ge i' i with hlt|hge
         ·have:(i'+1)*ty.size≤i*ty.size:=Nat.mul_le_mul_right _ hlt
          rw[Nat.add_mul,Nat.one_mul]at this
          omega
         ·have:(i+1)*ty.size≤i'*ty.size:=Nat.mul_le_mul_right _ (by omega)
          rw[Nat.add_mul,Nat.one_mul]at this
          omega)
      refine⟨undef,_,I',M,_,.inr ⟨by simp[execOp,ho,Instr.storeAt,hx,Instr.sureAddr,hrun],rfl⟩,hs',⟨_,rfl,trivial⟩,λj=> ?_⟩
      rw[cI]
      simp only[aR,List.append_nil,eG]
      by_cases hj:j=id
      ·subst hj;rw[hlk];simp[pn]
      ·rw[pn,if_neg hj];simp only[gJ];cases ao u j<;>rfl
     ·exact hr.fail.elim
   |bool _=>exact hr.fail.elim
   |int _ _=>exact hr.fail.elim
   |str _=>exact hr.fail.elim
   |sl _ _ _=>exact hr.fail.elim
   |nil=>exact hr.fail.elim
   |own _ _=>exact hr.fail.elim
   |ref _ _=>exact hr.fail.elim
   |fn _ _=>exact hr.fail.elim
   |slx _ _=>exact hr.fail.elim
   |undef=>exact hr.fail.elim
   |skipped=>exact hr.fail.elim
 ·exact hr.fail.elim
end
end Go.Proofs.YtfpdenjmlnhnnaaGreat
