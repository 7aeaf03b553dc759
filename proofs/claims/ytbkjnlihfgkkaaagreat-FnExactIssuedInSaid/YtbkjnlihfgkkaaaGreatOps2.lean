/- Operations that only read. -/
import Derived.Test.YtbkjnlihfgkkaaaGreatOps
set_option linter.unusedVariables false
set_option linter.unusedSimpArgs false
namespace Go.Proofs.YtbkjnlihfgkkaaaGreat
open Go Go.RowKit
section
variable {C:Nat→List PV→List MO→bF→List MO→Prop} {w0:World} {mo:d6} {n:Nat} {I0 I:Nat→Prop} {M:MF} {s:FSt} {a:Act} {w:World} {te:TE} {P:Program} {base:Nat} {e:Eff} {o:Oper}
theorem vj (h:SimX w0 mo n I0 I M s a w){x:Operand}(ho:o.op= .move x∨o.op= .assign x)(hr:au C s (vZ x gQ) e):de w0 mo n I0 s a base e ((execOp a.eval o).run P w):=by
 obtain⟨d,hd,hr⟩:=co h hr
 cases hr.ret
 rcases ho with ho|ho<;>exact de.quiet h (v:=a.eval x) (by simp[execOp,ho]) hd
theorem Ap (h:SimX w0 mo n I0 I M s a w){c x y:Operand}(ho:o.op= .pick c x y)(hr:au C s (bK te base (.pick c x y)) e):de w0 mo n I0 s a base e ((execOp a.eval o).run P w):=by
 obtain⟨p,hp,hr⟩:=z9 h hr
 obtain⟨da,hda,hr⟩:=co h hr
 obtain⟨db,hdb,hr⟩:=co h hr
 have hrun:(execOp a.eval o).run P w= .ok (.value (if p=true then a.eval x else a.eval y)) w:=by simp[execOp,ho,hp,asBool]
 split at hr
 ·cases hr.ret
  refine de.quiet h hrun (am ?_)
  obtain⟨_,e1,h1⟩:=hda
  obtain⟨_,e2,h2⟩:=hdb
  cases e1;cases e2
  simp only[al]at h1 h2
  rw[h1,h2]
  cases p<;>rfl
 ·obtain⟨hg,hr2⟩:=hr.guard
  cases hr2.ret
  exact de.quiet h hrun (by simpa [hg]using hda)
 ·obtain⟨hg,hr⟩:=hr.guard
  cases hr.ret
  have:p=false:=by simpa using hg
  subst this
  exact de.quiet h hrun (by simpa using hdb)
 ·exact hr.fail.elim
theorem zW (hte:dd te P=true)(h:SimX w0 mo n I0 I M s a w){t:Nat}{x:Operand}(ho:o.op= .load t x)(hr:au C s (bK te base (.load t x)) e):de w0 mo n I0 s a base e ((execOp a.eval o).run P w):=by
 simp only[bK]at hr
 split at hr
 ·rename_i ti hl
  obtain⟨p,hp,hr⟩:=aV h hr
  obtain⟨cs,b,off,hv,hlen,hc,hr⟩:=oS h hp hr
  obtain⟨hg,hr⟩:=hr.guard
  cases hr.ret
  obtain⟨v,hrun,hrep⟩:=vk hte hl (Nat.le_of_ble_eq_true hg) (x:=ak w0 I0 I M s w) hlen hc
  exact de.quiet h (v:=v) (by simp[execOp,ho,Instr.loadAt,hv,Instr.sureAddr,hrun]) hrep
 ·exact hr.fail.elim
theorem iu {fs:List Field}{r:List (Nat×Nat)}(h:aU fs r=true):∀{i:Nat} {off t:Nat},r[i]? =some (off,t)→∃f,fs[i]? =some f∧f.offset=off∧f.type=t:=by
 induction fs generalizing r with
 |nil=>intro i off t hi;cases r with
  |nil=>simp at hi
  |cons x r=>obtain⟨_,_⟩:=x;simp[aU]at h
 |cons f fs ih=>
  intro i off t hi
  cases r with
  |nil=>simp at hi
  |cons x r=>
   obtain⟨o',t'⟩:=x
   simp only[aU,Bool.and_eq_true]at h
   cases i with
   |zero=>
    simp at hi
    exact⟨f,rfl,by rw[←hi.1];exact Nat.eq_of_beq_eq_true h.1.1.1,by rw[←hi.2];exact Nat.eq_of_beq_eq_true h.1.1.2⟩
   |succ i=>
    simp at hi
    obtain⟨f',hf,h1⟩:=ih h.2 hi
    exact⟨f',by simpa using hf,h1⟩
theorem eZ (b off k:Nat):(⟨b,off,none⟩:Addr).add k=⟨b,off+k,none⟩:=by
 unfold Addr.add;split
 ·rename_i h;subst h;rfl
 ·rfl
theorem sR (hte:dd te P=true)(h:SimX w0 mo n I0 I M s a w){t f:Nat}{x:Operand}(ho:o.op= .fieldAddr t x f)(hr:au C s (bK te base (.fieldAddr t x f)) e):de w0 mo n I0 s a base e ((execOp a.eval o).run P w):=by
 simp only[bK]at hr
 split at hr
 ·rename_i ty fields hl
  obtain⟨fs,i,vs,hu,hi,hs,hz,hz0,hsame,hall,_,_⟩:=qj hte hl
  split at hr
  ·rename_i off ft hf
   obtain⟨fd,hfd,hoff,hft⟩:=iu hsame hf
   obtain⟨tf,htf,hlen,_⟩:=hall _ (List.mem_of_getElem? hf)
   obtain⟨_,_,_,_,_,_,hsz,_,_⟩:=kf hte htf hlen
   obtain⟨c,hc,hr⟩:=aV h hr
   have hfd':fs[f]? =some fd:=by simpa using hfd
   have hrun:∀b o',a.eval x= .pointer (some ⟨b,o',none⟩)→(execOp a.eval o).run P w= .ok (.value (.pointer (some ⟨b,o'+off,none⟩))) w:=by
    intro b o' hx
    have hne:¬tf.fl.length=0:=by omega
    simp[execOp,ho,Instr.fieldAt,run_underlying hu,hfd',hx,Instr.sureAddr,fieldPlace,hft,hsz,hne,hoff,eZ]
   split at hr
   ·cases hr.ret
    obtain⟨cs,b,h1,h2,h3⟩:=hc
    exact de.quiet h (hrun _ _ h3) (am ⟨cs,b,h1,h2,rfl⟩)
   ·obtain⟨ob,hob,hr⟩:=hr.get
    obtain⟨t',xs,v',f',d',h1,h2,h3,h4⟩:=hc
    simp only[]at h1 h3
    rw[h1]at hob;cases hob
    obtain⟨hg,hr⟩:=hr.guard
    cases hr.ret
    obtain⟨b,cap,hM,hi',hval⟩:=h3 (Nat.eq_of_beq_eq_true hg)
    exact de.quiet h (hrun _ _ hval) (am ⟨t',xs,v',f',d',h1,h2,λ_=>⟨b,cap,hM,hi',by rw[Nat.add_assoc]⟩,rfl⟩)
   ·rename_i id ver i' o'
    obtain⟨ob,hob,hr⟩:=hr.get
    cases ob with
    |box _=>exact hr.fail.elim
    |arr _ _ _ _ _=>exact hr.fail.elim
    |dar t' xs ver' iv=>
     obtain⟨hg,hr⟩:=hr.guard
     cases hr.ret
     obtain⟨_,o2,ho2,hd⟩:=hc
     simp only[]at ho2
     rw[hob]at ho2;cases ho2
     obtain⟨b,cap,hM,hi',hval⟩:=hd.2 (Nat.eq_of_beq_eq_true hg)
     exact de.quiet h (hrun _ _ hval) (am ⟨rfl,_,hob,hd.1,λ_=>⟨b,cap,hM,hi',by rw[Nat.add_assoc]⟩⟩)
   ·cases hr.ret
    obtain⟨b,o',h1,h2,h3⟩:=hc
    refine de.quiet h (hrun _ _ h1) (am ⟨b,o'+off,rfl,h2,λj c hj=> ?_⟩)
    rw[List.getElem?_drop]at hj
    obtain⟨u,hu',hru⟩:=h3 _ _ hj
    exact⟨u,by rw[←hu'];congr 2;omega,hru⟩
   ·exact hr.fail.elim
  ·exact hr.fail.elim
 ·exact hr.fail.elim
theorem uf (h:SimX w0 mo n I0 I M s a w){x:Operand}(ho:o.op= .nilCheck x)(hr:au C s (bK te base (.nilCheck x)) e):de w0 mo n I0 s a base e ((execOp a.eval o).run P w):=by
 obtain⟨c,hc,hr⟩:=aV h hr
 split at hr
 ·cases hr.ret
  have hx:=hc
  obtain⟨cs,b,h1,h2,h3⟩:=hc
  exact de.quiet h (v:=a.eval x) (by simp[execOp,ho,h3]) (am hx)
 ·cases hr.ret
  have hx:=hc
  obtain⟨b,o',h1,h2,h3⟩:=hc
  exact de.quiet h (v:=a.eval x) (by simp[execOp,ho,h1]) (am hx)
 ·cases hr.ret
  have hx:=hc
  obtain⟨us,h1,h2⟩:=hc
  exact de.quiet h (v:=a.eval x) (by simp[execOp,ho,h1]) (am hx)
 ·exact hr.fail.elim
theorem wA (h:SimX w0 mo n I0 I M s a w){x:Operand}{i:Nat}(ho:o.op= .extract x i)(hr:au C s (bK te base (.extract x i)) e):de w0 mo n I0 s a base e ((execOp a.eval o).run P w):=by
 obtain⟨d,hd,hr⟩:=co h hr
 split at hr
 ·split at hr
  ·rename_i hi
   cases hr.ret
   obtain⟨us,hx,hall⟩:=hd
   obtain⟨u,hu,hru⟩:=hall.at hi
   refine de.quiet h (v:=u) ?_ hru
   have hu':us[i]? =some u:=by simpa using hu
   simp[execOp,ho,hx,Instr.extract,hu']
  ·exact hr.fail.elim
 ·exact hr.fail.elim
theorem AL {b:ByteArray}{i:Nat}(hi:i<b.data.toList.length):b[i]? =some (b.data.toList.getD i 0):=by
 have h1:i<b.size:=by simpa using hi
 rw[getElem?_pos b i h1]
 simp only[List.getD,Option.some.injEq]
 rw[List.getElem?_eq_getElem hi]
 rfl
theorem zv (hte:dd te P=true)(h:SimX w0 mo n I0 I M s a w){t:Nat}{x y:Operand}(ho:o.op= .index t x y)(hr:au C s (bK te base (.index t x y)) e):de w0 mo n I0 s a base e ((execOp a.eval o).run P w):=by
 simp only[bK]at hr
 split at hr
 ·rename_i hl
  obtain⟨i,z,hi,hs,hz,hz0,hu⟩:=gT hte hl
  simp only at hu
  obtain⟨c,hc,hr⟩:=aV h hr
  split at hr
  ·rename_i sb
   obtain⟨kk,m,hy,hk,hr⟩:=bc h hr
   obtain⟨hg,hr⟩:=hr.guard
   cases hr.ret
   simp only[Bool.and_eq_true,decide_eq_true_eq]at hg
   obtain⟨b,hx,hb,hbl⟩:=hc
   have hlt:m.toNat<b.data.toList.length:=by rw[hb];omega
   have hget:=AL hlt
   rw[hb]at hget
   refine de.quiet h (v:= .int .u8 ((sb.getD m.toNat 0).toNat:Int)) ?_ (am ⟨rfl, ?_⟩)
   ·simp[execOp,ho,hx,hy,Instr.index,asIntOf,run_underlying hu,hg.1,hget]
   ·generalize sb.getD m.toNat 0=q
    have:=UInt8.toNat_lt q
    exact⟨by simp[IntKind.min,IntKind.signed],by simp[IntKind.max,IntKind.signed,IntKind.bits];omega⟩
  ·exact hr.fail.elim
 ·exact hr.fail.elim
theorem sP (hte:dd te P=true)(h:SimX w0 mo n I0 I M s a w){t:Nat}{x y:Operand}(ho:o.op= .indexAddr t x y)(hr:au C s (bK te base (.indexAddr t x y)) e):de w0 mo n I0 s a base e ((execOp a.eval o).run P w):=by
 simp only[bK]at hr
 split at hr
 ·rename_i ty by_ hl
  obtain⟨el,i,ie,z,hu,hi,hs,hz,hie,hes,heb,hb0,hez,hez0,hu8,hi32,hd⟩:=d4 hte hl
  obtain⟨c,hc,hr⟩:=aV h hr
  obtain⟨kk,m,hy,hk,hr⟩:=bc h hr
  have hsz:(sizeOf el).run P w= .ok ty.size w:=by simp[sizeOf,typeInfo,hie,hes]
  have hrun:∀b off len cap,a.eval x= .slice (some ⟨b,off,none⟩) len cap→0≤m→m<(len:Int)→
    (execOp a.eval o).run P w= .ok (.value (.pointer (some ⟨b,off+m.toNat*ty.size,none⟩))) w:=by
   intro b off len cap hx h0 h1
   simp[execOp,ho,hx,hy,Instr.indexAt,asIntOf,run_underlying hu,h0,h1,hsz,eZ]
  cases c with
  |sl p ty' xs=>
   obtain⟨hg,hr⟩:=hr.guard
   cases hr.ret
   simp only[Bool.and_eq_true,decide_eq_true_eq]at hg
   obtain⟨⟨rfl,h0⟩,h1⟩:=hg
   have hx:=hc
   simp only[al]at hx
   generalize hv:a.eval x=v at hx
   cases hx with
   |nil=>simp at h1;omega
   |emp=>simp at h1;omega
   |sl t xs b off cap vs hJ hl2 hcap hcell hrep=>
    have hlt:m.toNat<xs.length:=by omega
    have hxe:xs[m.toNat]? =some (xs.getD m.toNat ty'.zero):=by simp[List.getD,List.getElem?_eq_getElem hlt]
    refine de.quiet h (hrun b off _ cap hv h0 h1) (am ⟨b,off+m.toNat*ty'.size,rfl,hJ (by rintro rfl;simp at hlt),λj c hcj=> ?_⟩)
    exact⟨_,hcell _ _ j c hxe hcj,hrep _ _ j c hxe hcj⟩
  |own id ver=>
   obtain⟨ob,hob,hr⟩:=hr.get
   cases ob with
   |arr t' xs ver' f d=>
    obtain⟨hg,hr⟩:=hr.guard
    cases hr.ret
    simp only[Bool.and_eq_true,decide_eq_true_eq]at hg
    obtain⟨⟨⟨rfl,hv⟩,h0⟩,h1⟩:=hg
    obtain⟨t1,xs1,v1,f1,d1,hob1,h2,h3,h4⟩:=hc
    simp only[]at hob1 h3
    have hob1':=hob1
    rw[hob]at hob1;cases hob1
    have hval:=h3 (Nat.eq_of_beq_eq_true hv)
    have hlt:m.toNat<xs.length:=by omega
    rcases h.objs id _ hob with⟨_,hnil⟩|⟨b,cap,hM,_,_,_,hcap,_,_,_⟩
    ·rw[hnil]at hlt;simp at hlt
    ·simp only[]at hM
     rw[hM]at hval
     simp only[ax]at hval
     have:=hrun b 0 _ cap hval h0 h1
     rw[Nat.zero_add]at this
     exact de.quiet h this (am ⟨_,xs,ver',f,d,hob,h2,λ_=>⟨b,cap,hM,hlt,by rw[Nat.add_zero]⟩,rfl⟩)
   |_=>exact hr.fail.elim
  |down id ver=>
   obtain⟨ob,hob,hr⟩:=hr.get
   cases ob with
   |dar t' xs ver' iv=>
    obtain⟨hg,hr⟩:=hr.guard
    cases hr.ret
    simp only[Bool.and_eq_true,decide_eq_true_eq]at hg
    obtain⟨⟨⟨rfl,hv⟩,h0⟩,h1⟩:=hg
    obtain⟨_,o2,ho2,hd⟩:=hc
    simp only[]at ho2
    rw[hob]at ho2;cases ho2
    have hval:=hd.2 (Nat.eq_of_beq_eq_true hv)
    have hlt:m.toNat<xs.length:=by omega
    rcases h.objs id _ hob with⟨_,hnil⟩|⟨b,cap,hM,_⟩
    ·rw[hnil]at hlt;simp at hlt
    ·simp only[]at hM
     rw[hM]at hval
     simp only[ax]at hval
     have:=hrun b 0 _ cap hval h0 h1
     rw[Nat.zero_add]at this
     exact de.quiet h this (am ⟨rfl,_,hob,hd.1,λ_=>⟨b,cap,hM,hlt,by rw[Nat.add_zero]⟩⟩)
   |_=>exact hr.fail.elim
  |_=>exact hr.fail.elim
 ·exact hr.fail.elim
end
end Go.Proofs.YtbkjnlihfgkkaaaGreat
