/- Operations that only read. -/
import Derived.Test.YtjejapbinelgeaaGreatOps
set_option linter.unusedVariables false
set_option linter.unusedSimpArgs false
namespace Go.Proofs.YtjejapbinelgeaaGreat
open Go Go.RowKit
section
variable {C:Nat→List PV→List MO→Res→List MO→Prop} {w0:World} {mo:Mts} {n:Nat} {I0 I:Nat→Prop} {M:Nat→Option (Nat×Nat)} {s:FSt} {a:Act} {w:World} {te:TE} {P:Program} {base:Nat} {e:Eff} {o:Oper}
theorem did_move (h:SimX w0 mo n I0 I M s a w){x:Operand}(ho:o.op= .move x∨o.op= .assign x)(hr:RelE C s (opd x eff) e):Did w0 mo n I0 s a base e ((execOp a.eval o).run P w):=by
 obtain⟨d,hd,hr⟩:=opd_inv h hr
 cases hr.ret
 rcases ho with ho|ho<;>exact Did.quiet h (v:=a.eval x) (by simp[execOp,ho]) hd
theorem did_pick (h:SimX w0 mo n I0 I M s a w){c x y:Operand}(ho:o.op= .pick c x y)(hr:RelE C s (opRd te base (.pick c x y)) e):Did w0 mo n I0 s a base e ((execOp a.eval o).run P w):=by
 obtain⟨p,hp,hr⟩:=opdB_inv h hr
 obtain⟨da,hda,hr⟩:=opd_inv h hr
 obtain⟨db,hdb,hr⟩:=opd_inv h hr
 have hrun:(execOp a.eval o).run P w= .ok (.value (if p=true then a.eval x else a.eval y)) w:=by simp[execOp,ho,hp,asBool]
 split at hr
 ·cases hr.ret
  refine Did.quiet h hrun (rep_one ?_)
  obtain⟨_,e1,h1⟩:=hda
  obtain⟨_,e2,h2⟩:=hdb
  cases e1;cases e2
  simp only[RepDC]at h1 h2
  rw[h1,h2]
  cases p<;>rfl
 ·obtain⟨hg,hr2⟩:=hr.guard
  cases hr2.ret
  exact Did.quiet h hrun (by simpa [hg]using hda)
 ·obtain⟨hg,hr⟩:=hr.guard
  cases hr.ret
  have:p=false:=by simpa using hg
  subst this
  exact Did.quiet h hrun (by simpa using hdb)
 ·exact hr.fail.elim
theorem did_load (hte:teOk te P=true)(h:SimX w0 mo n I0 I M s a w){t:Nat}{x:Operand}(ho:o.op= .load t x)(hr:RelE C s (opRd te base (.load t x)) e):Did w0 mo n I0 s a base e ((execOp a.eval o).run P w):=by
 simp only[opRd]at hr
 split at hr
 ·rename_i ti hl
  obtain⟨p,hp,hr⟩:=opdC_inv h hr
  obtain⟨cs,b,off,hv,hlen,hc,hr⟩:=cellsAt_inv h hp hr
  obtain⟨hg,hr⟩:=hr.guard
  cases hr.ret
  obtain⟨v,hrun,hrep⟩:=load_run hte hl (Nat.le_of_ble_eq_true hg) (x:=cxOf w0 I0 I M s w) hlen hc
  exact Did.quiet h (v:=v) (by simp[execOp,ho,Instr.loadAt,hv,Instr.sureAddr,hrun]) hrep
 ·exact hr.fail.elim
theorem sameFields_at {fs:List Field}{r:List (Nat×Nat)}(h:sameFields fs r=true):∀{i:Nat} {off t:Nat},r[i]? =some (off,t)→∃f,fs[i]? =some f∧f.offset=off∧f.type=t:=by
 induction fs generalizing r with
 |nil=>intro i off t hi;cases r with
  |nil=>simp at hi
  |cons x r=>obtain⟨_,_⟩:=x;simp[sameFields]at h
 |cons f fs ih=>
  intro i off t hi
  cases r with
  |nil=>simp at hi
  |cons x r=>
   obtain⟨o',t'⟩:=x
   simp only[sameFields,Bool.and_eq_true]at h
   cases i with
   |zero=>
    simp at hi
    exact⟨f,rfl,by rw[←hi.1];exact Nat.eq_of_beq_eq_true h.1.1.1,by rw[←hi.2];exact Nat.eq_of_beq_eq_true h.1.1.2⟩
   |succ i=>
    simp at hi
    obtain⟨f',hf,h1⟩:=ih h.2 hi
    exact⟨f',by simpa using hf,h1⟩
theorem addr_add (b off k:Nat):(⟨b,off,none⟩:Addr).add k=⟨b,off+k,none⟩:=by
 unfold Addr.add;split
 ·rename_i h;subst h;rfl
 ·rfl
theorem did_fieldAddr (hte:teOk te P=true)(h:SimX w0 mo n I0 I M s a w){t f:Nat}{x:Operand}(ho:o.op= .fieldAddr t x f)(hr:RelE C s (opRd te base (.fieldAddr t x f)) e):Did w0 mo n I0 s a base e ((execOp a.eval o).run P w):=by
 simp only[opRd]at hr
 split at hr
 ·rename_i ty fields hl
  obtain⟨fs,i,vs,hu,hi,hs,hz,hz0,hsame,hall,_,_⟩:=te_st hte hl
  split at hr
  ·rename_i off ft hf
   obtain⟨fd,hfd,hoff,hft⟩:=sameFields_at hsame hf
   obtain⟨tf,htf,hlen,_⟩:=hall _ (List.mem_of_getElem? hf)
   obtain⟨_,_,_,_,_,_,hsz,_,_⟩:=te_run hte htf hlen
   obtain⟨c,hc,hr⟩:=opdC_inv h hr
   have hfd':fs[f]? =some fd:=by simpa using hfd
   have hrun:∀b o',a.eval x= .pointer (some ⟨b,o',none⟩)→(execOp a.eval o).run P w= .ok (.value (.pointer (some ⟨b,o'+off,none⟩))) w:=by
    intro b o' hx
    have hne:¬tf.fl.length=0:=by omega
    simp[execOp,ho,Instr.fieldAt,run_underlying hu,hfd',hx,Instr.sureAddr,fieldPlace,hft,hsz,hne,hoff,addr_add]
   split at hr
   ·cases hr.ret
    obtain⟨cs,b,h1,h2,h3⟩:=hc
    exact Did.quiet h (hrun _ _ h3) (rep_one ⟨cs,b,h1,h2,rfl⟩)
   ·obtain⟨ob,hob,hr⟩:=hr.get
    obtain⟨t',xs,v',f',d',h1,h2,h3,h4⟩:=hc
    simp only[]at h1 h3
    rw[h1]at hob;cases hob
    obtain⟨hg,hr⟩:=hr.guard
    cases hr.ret
    obtain⟨b,cap,hM,hi',hval⟩:=h3 (Nat.eq_of_beq_eq_true hg)
    exact Did.quiet h (hrun _ _ hval) (rep_one ⟨t',xs,v',f',d',h1,h2,fun _=>⟨b,cap,hM,hi',by rw[Nat.add_assoc]⟩,rfl⟩)
   ·cases hr.ret
    obtain⟨b,o',h1,h2,h3⟩:=hc
    refine Did.quiet h (hrun _ _ h1) (rep_one ⟨b,o'+off,rfl,h2,fun j c hj=> ?_⟩)
    rw[List.getElem?_drop]at hj
    obtain⟨u,hu',hru⟩:=h3 _ _ hj
    exact⟨u,by rw[←hu'];congr 2;omega,hru⟩
   ·exact hr.fail.elim
  ·exact hr.fail.elim
 ·exact hr.fail.elim
theorem did_nilCheck (h:SimX w0 mo n I0 I M s a w){x:Operand}(ho:o.op= .nilCheck x)(hr:RelE C s (opRd te base (.nilCheck x)) e):Did w0 mo n I0 s a base e ((execOp a.eval o).run P w):=by
 obtain⟨c,hc,hr⟩:=opdC_inv h hr
 split at hr
 ·cases hr.ret
  have hx:=hc
  obtain⟨cs,b,h1,h2,h3⟩:=hc
  exact Did.quiet h (v:=a.eval x) (by simp[execOp,ho,h3]) (rep_one hx)
 ·cases hr.ret
  have hx:=hc
  obtain⟨b,o',h1,h2,h3⟩:=hc
  exact Did.quiet h (v:=a.eval x) (by simp[execOp,ho,h1]) (rep_one hx)
 ·cases hr.ret
  have hx:=hc
  obtain⟨us,h1,h2⟩:=hc
  exact Did.quiet h (v:=a.eval x) (by simp[execOp,ho,h1]) (rep_one hx)
 ·exact hr.fail.elim
theorem did_extract (h:SimX w0 mo n I0 I M s a w){x:Operand}{i:Nat}(ho:o.op= .extract x i)(hr:RelE C s (opRd te base (.extract x i)) e):Did w0 mo n I0 s a base e ((execOp a.eval o).run P w):=by
 obtain⟨d,hd,hr⟩:=opd_inv h hr
 split at hr
 ·split at hr
  ·rename_i hi
   cases hr.ret
   obtain⟨us,hx,hall⟩:=hd
   obtain⟨u,hu,hru⟩:=hall.at hi
   refine Did.quiet h (v:=u) ?_ hru
   have hu':us[i]? =some u:=by simpa using hu
   simp[execOp,ho,hx,Instr.extract,hu']
  ·exact hr.fail.elim
 ·exact hr.fail.elim
theorem str_getD {b:ByteArray}{i:Nat}(hi:i<b.data.toList.length):b[i]? =some (b.data.toList.getD i 0):=by
 have h1:i<b.size:=by simpa using hi
 rw[getElem?_pos b i h1]
 simp only[List.getD,Option.some.injEq]
 rw[List.getElem?_eq_getElem hi]
 rfl
theorem did_index (hte:teOk te P=true)(h:SimX w0 mo n I0 I M s a w){t:Nat}{x y:Operand}(ho:o.op= .index t x y)(hr:RelE C s (opRd te base (.index t x y)) e):Did w0 mo n I0 s a base e ((execOp a.eval o).run P w):=by
 simp only[opRd]at hr
 split at hr
 ·rename_i hl
  obtain⟨i,z,hi,hs,hz,hz0,hu⟩:=te_sc hte hl
  simp only at hu
  obtain⟨c,hc,hr⟩:=opdC_inv h hr
  split at hr
  ·rename_i sb
   obtain⟨kk,m,hy,hk,hr⟩:=opdI_inv h hr
   obtain⟨hg,hr⟩:=hr.guard
   cases hr.ret
   simp only[Bool.and_eq_true,decide_eq_true_eq]at hg
   obtain⟨b,hx,hb,hbl⟩:=hc
   have hlt:m.toNat<b.data.toList.length:=by rw[hb];omega
   have hget:=str_getD hlt
   rw[hb]at hget
   refine Did.quiet h (v:= .int .u8 ((sb.getD m.toNat 0).toNat:Int)) ?_ (rep_one ⟨rfl, ?_⟩)
   ·simp[execOp,ho,hx,hy,Instr.index,asIntOf,run_underlying hu,hg.1,hget]
   ·generalize sb.getD m.toNat 0=q
    have:=UInt8.toNat_lt q
    exact⟨by simp[IntKind.min,IntKind.signed],by simp[IntKind.max,IntKind.signed,IntKind.bits];omega⟩
  ·exact hr.fail.elim
 ·exact hr.fail.elim
theorem did_indexAddr (hte:teOk te P=true)(h:SimX w0 mo n I0 I M s a w){t:Nat}{x y:Operand}(ho:o.op= .indexAddr t x y)(hr:RelE C s (opRd te base (.indexAddr t x y)) e):Did w0 mo n I0 s a base e ((execOp a.eval o).run P w):=by
 simp only[opRd]at hr
 split at hr
 ·rename_i ty by_ hl
  obtain⟨el,i,ie,z,hu,hi,hs,hz,hie,hes,heb,hb0,hez,hez0,hu8,hi32,hd⟩:=te_sl hte hl
  obtain⟨c,hc,hr⟩:=opdC_inv h hr
  obtain⟨kk,m,hy,hk,hr⟩:=opdI_inv h hr
  have hsz:(sizeOf el).run P w= .ok ty.size w:=by simp[sizeOf,typeInfo,hie,hes]
  have hrun:∀b off len cap,a.eval x= .slice (some ⟨b,off,none⟩) len cap→0≤m→m<(len:Int)→
    (execOp a.eval o).run P w= .ok (.value (.pointer (some ⟨b,off+m.toNat*ty.size,none⟩))) w:=by
   intro b off len cap hx h0 h1
   simp[execOp,ho,hx,hy,Instr.indexAt,asIntOf,run_underlying hu,h0,h1,hsz,addr_add]
  cases c with
  |sl p ty' xs=>
   obtain⟨hg,hr⟩:=hr.guard
   cases hr.ret
   simp only[Bool.and_eq_true,decide_eq_true_eq]at hg
   obtain⟨⟨rfl,h0⟩,h1⟩:=hg
   have hx:=hc
   simp only[RepDC]at hx
   generalize hv:a.eval x=v at hx
   cases hx with
   |nil=>simp at h1;omega
   |emp=>simp at h1;omega
   |sl t xs b off cap vs hJ hl2 hcap hcell hrep=>
    have hlt:m.toNat<xs.length:=by omega
    have hxe:xs[m.toNat]? =some (xs.getD m.toNat ty'.zero):=by simp[List.getD,List.getElem?_eq_getElem hlt]
    refine Did.quiet h (hrun b off _ cap hv h0 h1) (rep_one ⟨b,off+m.toNat*ty'.size,rfl,hJ (by rintro rfl;simp at hlt),fun j c hcj=> ?_⟩)
    exact⟨_,hcell _ _ j c hxe hcj,hrep _ _ j c hxe hcj⟩
  |own id ver=>
   obtain⟨ob,hob,hr⟩:=hr.get
   cases ob with
   |arr t' xs ver' f d=>
    obtain⟨hg,hr⟩:=hr.guard
    cases hr.ret
    simp only[Bool.and_eq_true,decide_eq_true_eq]at hg
    obtain⟨⟨⟨rfl,hv⟩,h0⟩,h1⟩:=hg
    obtain⟨t1,xs1,v1,f1,d1,hob1,h2,h3,h4⟩:=hc
    simp only[]at hob1 h3
    have hob1':=hob1
    rw[hob]at hob1;cases hob1
    have hval:=h3 (Nat.eq_of_beq_eq_true hv)
    have hlt:m.toNat<xs.length:=by omega
    rcases h.objs id _ hob with⟨_,hnil⟩|⟨b,cap,hM,_,_,_,hcap,_,_,_⟩
    ·rw[hnil]at hlt;simp at hlt
    ·simp only[]at hM
     rw[hM]at hval
     simp only[ownVal]at hval
     have:=hrun b 0 _ cap hval h0 h1
     rw[Nat.zero_add]at this
     exact Did.quiet h this (rep_one ⟨_,xs,ver',f,d,hob,h2,fun _=>⟨b,cap,hM,hlt,by rw[Nat.add_zero]⟩,rfl⟩)
   |box _=>exact hr.fail.elim
  |_=>exact hr.fail.elim
 ·exact hr.fail.elim
end
end Go.Proofs.YtjejapbinelgeaaGreat
