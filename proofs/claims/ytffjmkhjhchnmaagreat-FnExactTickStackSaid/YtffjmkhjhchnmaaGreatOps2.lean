/- Operations that only read. -/
import Derived.Test.YtffjmkhjhchnmaaGreatOps
set_option linter.unusedVariables false
set_option linter.unusedSimpArgs false
namespace Go.Proofs.YtffjmkhjhchnmaaGreat
open Go Go.RowKit
section
variable {C:Nat→List PV→List MO→cS→List MO→Prop} {w0:World} {mo:gj} {n:Nat} {I0 I:Nat→Prop} {M:MF} {s:FSt} {a:Act} {w:World} {te:TE} {P:Program} {base:Nat} {e:Eff} {o:Oper}
theorem GZ (h:SimX w0 mo n I0 I M s a w){x:Operand}(ho:o.op= .move x∨o.op= .assign x)(hr:aU C s (Ix x oe) e):ga w0 mo n I0 s a base e ((execOp a.eval o).run P w):=by
 obtain⟨d,hd,hr⟩:=eV h hr
 cases hr.ret
 rcases ho with ho|ho<;>exact ga.quiet h (v:=a.eval x) (by simp[execOp,ho]) hd
theorem Oh (h:SimX w0 mo n I0 I M s a w){c x y:Operand}(ho:o.op= .pick c x y)(hr:aU C s (dJ te base (.pick c x y)) e):ga w0 mo n I0 s a base e ((execOp a.eval o).run P w):=by
 obtain⟨p,hp,hr⟩:=N9 h hr
 obtain⟨da,hda,hr⟩:=eV h hr
 obtain⟨db,hdb,hr⟩:=eV h hr
 have hrun:(execOp a.eval o).run P w= .ok (.value (if p=true then a.eval x else a.eval y)) w:=by simp[execOp,ho,hp,asBool]
 split at hr
 ·cases hr.ret
  refine ga.quiet h hrun (ay ?_)
  obtain⟨_,e1,h1⟩:=hda
  obtain⟨_,e2,h2⟩:=hdb
  cases e1;cases e2
  simp only[aA]at h1 h2
  rw[h1,h2]
  cases p<;>rfl
 ·obtain⟨hg,hr2⟩:=hr.guard
  cases hr2.ret
  exact ga.quiet h hrun (by simpa [hg]using hda)
 ·obtain⟨hg,hr⟩:=hr.guard
  cases hr.ret
  have:p=false:=by simpa using hg
  subst this
  exact ga.quiet h hrun (by simpa using hdb)
 ·exact hr.fail.elim
theorem ML (hte:fQ te P=true)(h:SimX w0 mo n I0 I M s a w){t:Nat}{x:Operand}(ho:o.op= .load t x)(hr:aU C s (dJ te base (.load t x)) e):ga w0 mo n I0 s a base e ((execOp a.eval o).run P w):=by
 simp only[dJ]at hr
 split at hr
 ·rename_i ti hl
  obtain⟨p,hp,hr⟩:=bR h hr
  obtain⟨cs,b,off,hv,hlen,hc,hr⟩:=yK h hp hr
  obtain⟨hg,hr⟩:=hr.guard
  cases hr.ret
  obtain⟨v,hrun,hrep⟩:=H7 hte hl (Nat.le_of_ble_eq_true hg) (x:=ax w0 I0 I M s w) hlen hc
  exact ga.quiet h (v:=v) (by simp[execOp,ho,Instr.loadAt,hv,Instr.sureAddr,hrun]) hrep
 ·exact hr.fail.elim
theorem pj {fs:List Field}{r:List (Nat×Nat)}(h:bQ fs r=true):∀{i:Nat} {off t:Nat},r[i]? =some (off,t)→∃f,fs[i]? =some f∧f.offset=off∧f.type=t:=by
 induction fs generalizing r with
 |nil=>intro i off t hi;cases r with
  |nil=>simp at hi
  |cons x r=>obtain⟨_,_⟩:=x;simp[bQ]at h
 |cons f fs ih=>
  intro i off t hi
  cases r with
  |nil=>simp at hi
  |cons x r=>
   obtain⟨o',t'⟩:=x
   simp only[bQ,Bool.and_eq_true]at h
   cases i with
   |zero=>
    simp at hi
    exact⟨f,rfl,by rw[←hi.1];exact Nat.eq_of_beq_eq_true h.1.1.1,by rw[←hi.2];exact Nat.eq_of_beq_eq_true h.1.1.2⟩
   |succ i=>
    simp at hi
    obtain⟨f',hf,h1⟩:=ih h.2 hi
    exact⟨f',by simpa using hf,h1⟩
theorem kx (b off k:Nat):(⟨b,off,none⟩:Addr).add k=⟨b,off+k,none⟩:=by
 unfold Addr.add;split
 ·rename_i h;subst h;rfl
 ·rfl
theorem DD (hte:fQ te P=true)(h:SimX w0 mo n I0 I M s a w){t f:Nat}{x:Operand}(ho:o.op= .fieldAddr t x f)(hr:aU C s (dJ te base (.fieldAddr t x f)) e):ga w0 mo n I0 s a base e ((execOp a.eval o).run P w):=by
 simp only[dJ]at hr
 split at hr
 ·rename_i ty fields hl
  obtain⟨fs,i,vs,hu,hi,hs,hz,hz0,hsame,hall,_,_⟩:=AM hte hl
  split at hr
  ·rename_i off ft hf
   obtain⟨fd,hfd,hoff,hft⟩:=pj hsame hf
   obtain⟨tf,htf,hlen,_⟩:=hall _ (List.mem_of_getElem? hf)
   obtain⟨_,_,_,_,_,_,hsz,_,_⟩:=sK hte htf hlen
   obtain⟨c,hc,hr⟩:=bR h hr
   have hfd':fs[f]? =some fd:=by simpa using hfd
   have hrun:∀b o',a.eval x= .pointer (some ⟨b,o',none⟩)→(execOp a.eval o).run P w= .ok (.value (.pointer (some ⟨b,o'+off,none⟩))) w:=by
    intro b o' hx
    have hne:¬tf.fl.length=0:=by omega
    simp[execOp,ho,Instr.fieldAt,run_underlying hu,hfd',hx,Instr.sureAddr,fieldPlace,hft,hsz,hne,hoff,kx]
   split at hr
   ·cases hr.ret
    obtain⟨cs,b,h1,h2,h3⟩:=hc
    exact ga.quiet h (hrun _ _ h3) (ay ⟨cs,b,h1,h2,rfl⟩)
   ·obtain⟨ob,hob,hr⟩:=hr.get
    obtain⟨t',xs,v',f',d',h1,h2,h3,h4⟩:=hc
    simp only[]at h1 h3
    rw[h1]at hob;cases hob
    obtain⟨hg,hr⟩:=hr.guard
    cases hr.ret
    obtain⟨b,cap,hM,hi',hval⟩:=h3 (Nat.eq_of_beq_eq_true hg)
    exact ga.quiet h (hrun _ _ hval) (ay ⟨t',xs,v',f',d',h1,h2,λ_=>⟨b,cap,hM,hi',by rw[Nat.add_assoc]⟩,rfl⟩)
   ·rename_i id ver i' o'
    obtain⟨ob,hob,hr⟩:=hr.get
    cases ob with
    |box _=>exact hr.fail.elim
    |arr _ _ _ _ _=>exact hr.fail.elim
    |dar t' xs ver' iv=>
     obtain⟨hg,hr⟩:=hr.guard
     cases hr.ret
     obtain⟨_,o2,ho2,hd⟩:=hc
     simp only[]at ho2
     rw[hob]at ho2;cases ho2
     obtain⟨b,cap,hM,hi',hval⟩:=hd.2 (Nat.eq_of_beq_eq_true hg)
     exact ga.quiet h (hrun _ _ hval) (ay ⟨rfl,_,hob,hd.1,λ_=>⟨b,cap,hM,hi',by rw[Nat.add_assoc]⟩⟩)
   ·obtain⟨ob,hob,hr⟩:=hr.get
    cases ob with
    |box _=>exact hr.fail.elim
    |arr _ _ _ _ _=>exact hr.fail.elim
    |dar t' xs ver' iv'=>
     obtain⟨hg,hr⟩:=hr.guard
     cases hr.ret
     obtain⟨_,o2,ho2,hd⟩:=hc
     simp only[]at ho2
     rw[hob]at ho2;cases ho2
     obtain⟨e0,t1,ys,b,cap,g1,g2,g3,g4,hval⟩:=hd.2 (Nat.eq_of_beq_eq_true hg)
     exact ga.quiet h (hrun _ _ hval) (ay ⟨rfl,_,hob,hd.1,λ_=>⟨e0,t1,ys,b,cap,g1,g2,g3,g4,by rw[Nat.add_assoc]⟩⟩)
   ·cases hr.ret
    obtain⟨b,o',h1,h2,h3⟩:=hc
    refine ga.quiet h (hrun _ _ h1) (ay ⟨b,o'+off,rfl,h2,λj c hj=> ?_⟩)
    rw[List.getElem?_drop]at hj
    obtain⟨u,hu',hru⟩:=h3 _ _ hj
    exact⟨u,by rw[←hu'];congr 2;omega,hru⟩
   ·exact hr.fail.elim
  ·exact hr.fail.elim
 ·exact hr.fail.elim
theorem Fm (h:SimX w0 mo n I0 I M s a w){x:Operand}(ho:o.op= .nilCheck x)(hr:aU C s (dJ te base (.nilCheck x)) e):ga w0 mo n I0 s a base e ((execOp a.eval o).run P w):=by
 obtain⟨c,hc,hr⟩:=bR h hr
 split at hr
 ·cases hr.ret
  have hx:=hc
  obtain⟨cs,b,h1,h2,h3⟩:=hc
  exact ga.quiet h (v:=a.eval x) (by simp[execOp,ho,h3]) (ay hx)
 ·cases hr.ret
  have hx:=hc
  obtain⟨b,o',h1,h2,h3⟩:=hc
  exact ga.quiet h (v:=a.eval x) (by simp[execOp,ho,h1]) (ay hx)
 ·cases hr.ret
  have hx:=hc
  obtain⟨us,h1,h2⟩:=hc
  exact ga.quiet h (v:=a.eval x) (by simp[execOp,ho,h1]) (ay hx)
 ·exact hr.fail.elim
theorem I7 (h:SimX w0 mo n I0 I M s a w){x:Operand}{i:Nat}(ho:o.op= .extract x i)(hr:aU C s (dJ te base (.extract x i)) e):ga w0 mo n I0 s a base e ((execOp a.eval o).run P w):=by
 obtain⟨d,hd,hr⟩:=eV h hr
 split at hr
 ·split at hr
  ·rename_i hi
   cases hr.ret
   obtain⟨us,hx,hall⟩:=hd
   obtain⟨u,hu,hru⟩:=hall.at hi
   refine ga.quiet h (v:=u) ?_ hru
   have hu':us[i]? =some u:=by simpa using hu
   simp[execOp,ho,hx,Instr.extract,hu']
  ·exact hr.fail.elim
 ·exact hr.fail.elim
theorem Nu {b:ByteArray}{i:Nat}(hi:i<b.data.toList.length):b[i]? =some (b.data.toList.getD i 0):=by
 have h1:i<b.size:=by simpa using hi
 rw[getElem?_pos b i h1]
 simp only[List.getD,Option.some.injEq]
 rw[List.getElem?_eq_getElem hi]
 rfl
theorem L0 (hte:fQ te P=true)(h:SimX w0 mo n I0 I M s a w){t:Nat}{x y:Operand}(ho:o.op= .index t x y)(hr:aU C s (dJ te base (.index t x y)) e):ga w0 mo n I0 s a base e ((execOp a.eval o).run P w):=by
 simp only[dJ]at hr
 split at hr
 ·rename_i hl
  obtain⟨i,z,hi,hs,hz,hz0,hu⟩:=oh hte hl
  simp only at hu
  obtain⟨c,hc,hr⟩:=bR h hr
  split at hr
  ·rename_i sb
   obtain⟨kk,m,hy,hk,hr⟩:=cg h hr
   obtain⟨hg,hr⟩:=hr.guard
   cases hr.ret
   simp only[Bool.and_eq_true,decide_eq_true_eq]at hg
   obtain⟨b,hx,hb,hbl⟩:=hc
   have hlt:m.toNat<b.data.toList.length:=by rw[hb];omega
   have hget:=Nu hlt
   rw[hb]at hget
   refine ga.quiet h (v:= .int .u8 ((sb.getD m.toNat 0).toNat:Int)) ?_ (ay ⟨rfl, ?_⟩)
   ·simp[execOp,ho,hx,hy,Instr.index,asIntOf,run_underlying hu,hg.1,hget]
   ·generalize sb.getD m.toNat 0=q
    have:=UInt8.toNat_lt q
    exact⟨by simp[IntKind.min,IntKind.signed],by simp[IntKind.max,IntKind.signed,IntKind.bits];omega⟩
  ·exact hr.fail.elim
 ·exact hr.fail.elim
theorem Dd (hte:fQ te P=true)(h:SimX w0 mo n I0 I M s a w){t:Nat}{x y:Operand}(ho:o.op= .indexAddr t x y)(hr:aU C s (dJ te base (.indexAddr t x y)) e):ga w0 mo n I0 s a base e ((execOp a.eval o).run P w):=by
 simp only[dJ]at hr
 split at hr
 ·rename_i ty by_ hl
  obtain⟨el,i,ie,z,hu,hi,hs,hz,hie,hes,heb,hb0,hez,hez0,hu8,hi32,hd⟩:=iM hte hl
  obtain⟨c,hc,hr⟩:=bR h hr
  obtain⟨kk,m,hy,hk,hr⟩:=cg h hr
  have hsz:(sizeOf el).run P w= .ok ty.size w:=by simp[sizeOf,typeInfo,hie,hes]
  have hrun:∀b off len cap,a.eval x= .slice (some ⟨b,off,none⟩) len cap→0≤m→m<(len:Int)→
    (execOp a.eval o).run P w= .ok (.value (.pointer (some ⟨b,off+m.toNat*ty.size,none⟩))) w:=by
   intro b off len cap hx h0 h1
   simp[execOp,ho,hx,hy,Instr.indexAt,asIntOf,run_underlying hu,h0,h1,hsz,kx]
  cases c with
  |sl p ty' xs=>
   obtain⟨hg,hr⟩:=hr.guard
   cases hr.ret
   simp only[Bool.and_eq_true,decide_eq_true_eq]at hg
   obtain⟨⟨rfl,h0⟩,h1⟩:=hg
   have hx:=hc
   simp only[aA]at hx
   generalize hv:a.eval x=v at hx
   cases hx with
   |nil=>simp at h1;omega
   |emp=>simp at h1;omega
   |sl t xs b off cap vs hJ hl2 hcap hcell hrep=>
    have hlt:m.toNat<xs.length:=by omega
    have hxe:xs[m.toNat]? =some (xs.getD m.toNat ty'.zero):=by simp[List.getD,List.getElem?_eq_getElem hlt]
    refine ga.quiet h (hrun b off _ cap hv h0 h1) (ay ⟨b,off+m.toNat*ty'.size,rfl,hJ (by rintro rfl;simp at hlt),λj c hcj=> ?_⟩)
    exact⟨_,hcell _ _ j c hxe hcj,hrep _ _ j c hxe hcj⟩
  |own id ver=>
   obtain⟨ob,hob,hr⟩:=hr.get
   cases ob with
   |arr t' xs ver' f d=>
    obtain⟨hg,hr⟩:=hr.guard
    cases hr.ret
    simp only[Bool.and_eq_true,decide_eq_true_eq]at hg
    obtain⟨⟨⟨rfl,hv⟩,h0⟩,h1⟩:=hg
    obtain⟨t1,xs1,v1,f1,d1,hob1,h2,h3,h4⟩:=hc
    simp only[]at hob1 h3
    have hob1':=hob1
    rw[hob]at hob1;cases hob1
    have hval:=h3 (Nat.eq_of_beq_eq_true hv)
    have hlt:m.toNat<xs.length:=by omega
    rcases h.objs id _ hob with⟨_,hnil⟩|⟨b,cap,hM,_,_,_,hcap,_,_,_⟩
    ·rw[hnil]at hlt;simp at hlt
    ·simp only[]at hM
     rw[hM]at hval
     simp only[aM]at hval
     have:=hrun b 0 _ cap hval h0 h1
     rw[Nat.zero_add]at this
     exact ga.quiet h this (ay ⟨_,xs,ver',f,d,hob,h2,λ_=>⟨b,cap,hM,hlt,by rw[Nat.add_zero]⟩,rfl⟩)
   |_=>exact hr.fail.elim
  |down id ver=>
   obtain⟨ob,hob,hr⟩:=hr.get
   cases ob with
   |dar t' xs ver' iv=>
    obtain⟨hg,hr⟩:=hr.guard
    cases hr.ret
    simp only[Bool.and_eq_true,decide_eq_true_eq]at hg
    obtain⟨⟨⟨rfl,hv⟩,h0⟩,h1⟩:=hg
    obtain⟨_,o2,ho2,hd⟩:=hc
    simp only[]at ho2
    rw[hob]at ho2;cases ho2
    have hval:=hd.2 (Nat.eq_of_beq_eq_true hv)
    have hlt:m.toNat<xs.length:=by omega
    rcases h.objs id _ hob with⟨_,hnil⟩|⟨b,cap,hM,_⟩
    ·rw[hnil]at hlt;simp at hlt
    ·simp only[]at hM
     rw[hM]at hval
     simp only[aM]at hval
     have:=hrun b 0 _ cap hval h0 h1
     rw[Nat.zero_add]at this
     exact ga.quiet h this (ay ⟨rfl,_,hob,hd.1,λ_=>⟨b,cap,hM,hlt,by rw[Nat.add_zero]⟩⟩)
   |_=>exact hr.fail.elim
  |inn id iv i off=>
   obtain⟨ob,hob,hr⟩:=hr.get
   cases ob with
   |dar t' xs ver' iv'=>
    simp only[]at hr
    split at hr
    case h_2=>exact hr.fail.elim
    rename_i ty' ys hcell
    obtain⟨hg,hr2⟩:=hr.guard
    clear hr
    cases hr2.ret
    simp only[Bool.and_eq_true,decide_eq_true_eq]at hg
    obtain⟨⟨⟨rfl,hv⟩,h0⟩,h1⟩:=hg
    have hv:=Nat.eq_of_beq_eq_true hv
    subst hv
    obtain⟨_,o2,ho2,hd⟩:=hc
    simp only[]at ho2
    rw[hob]at ho2;cases ho2
    obtain⟨e0,t1,ys1,g1,g2,hval⟩:=hd.2 rfl
    have hx0:xs.getD i t'.zero=e0:=by simp[List.getD,g1]
    have hcell1:=hcell
    rw[hx0,g2]at hcell1
    injection hcell1 with hcell1
    injection hcell1 with q1 q2
    subst q1
    have q2:=eq_of_heq q2
    subst q2
    have hlt:m.toNat<ys1.length:=by omega
    rcases h.objs id _ hob with⟨_,hnil⟩|⟨b0,cap0,_,_,_,_,_,_,hel⟩
    ·rw[hnil]at g1;simp at g1
    ·obtain⟨u,_,hru⟩:=hel i e0 off _ g1 g2
     have hru:iZ w (M.n id i off) t1 ys1 u:=hru
     rcases hru.2 with⟨_,hnil⟩|⟨b,cap,hM,_⟩
     ·rw[hnil]at hlt;simp at hlt
     ·simp only[]at hval
      rw[hM]at hval
      simp only[aM]at hval
      have:=hrun b 0 _ cap hval h0 h1
      rw[Nat.zero_add]at this
      exact ga.quiet h this (ay ⟨rfl,_,hob,Nat.le_refl _,λ_=>⟨e0,t1,ys1,b,cap,g1,g2,hlt,hM,by rw[Nat.add_zero]⟩⟩)
   |_=>exact hr.fail.elim
  |_=>exact hr.fail.elim
 ·exact hr.fail.elim
end
end Go.Proofs.YtffjmkhjhchnmaaGreat
