/- Conversions, parts of strings and slices, lengths, function values. -/
import Derived.Test.YtffjmkhjhchnmaaGreatOps3
import Derived.Laws.BytesString
set_option linter.unusedVariables false
set_option linter.unusedSimpArgs false
namespace Go.Proofs.YtffjmkhjhchnmaaGreat
open Go Go.RowKit
section
variable {α:Type} {C:Nat→List PV→List MO→cS→List MO→Prop} {w0:World} {mo:gj} {n:Nat} {I0 I:Nat→Prop} {M:MF} {s:FSt} {a:Act} {w:World} {te:TE} {P:Program} {base:Nat} {e:Eff} {o:Oper}
theorem z7 (h:SimX w0 mo n I0 I M s a w){id:Nat}{t:Ty}{xs:List t.T}{ver:Nat}{f d:Bool}(ho:s.obj id=some (.arr t xs ver f d)){v:Value}(hv:aM (M id) xs.length v):RepC (λ_=>True) w (.sl t xs) v:=by
 rcases h.objs id _ ho with⟨h1,h2⟩|⟨b,cap,hM,_,_,_,hcap,hmx,_,he⟩
 ·simp only[]at h1
  rw[h1]at hv
  obtain⟨_,hv⟩:=hv
  rw[hv,h2]
  exact RepC.empty t _
 ·simp only[]at hM
  rw[hM]at hv
  simp only[aM]at hv
  rw[hv]
  refine .sl t xs b 0 cap (λi j=>(w.cell? ⟨b,i*t.size+j,none⟩).getD undef) (λ_=>trivial) hmx hcap (λi x j c hx hc=> ?_) (λi x j c hx hc=> ?_)
  ·obtain⟨u,hu,_⟩:=he i x j c hx hc
   simp only[]at hu
   rw[Nat.zero_add,hu];rfl
  ·obtain⟨u,hu,hr⟩:=he i x j c hx hc
   simp only[]at hu
   rw[hu]
   exact hr.mono (λ_ _=>rfl) (λ_ _=>trivial)
theorem KO (h:SimX w0 mo n I0 I M s a w){id:Nat}{t:Ty}{xs:List t.T}{ver iv:Nat}(ho:s.obj id=some (.dar t xs ver iv)){v:Value}(hv:aM (M id) xs.length v){J:Nat→Prop}(hJ:∀b c,M id=some (b,c)→J b)(hJn:∀i j b c,M.n id i j=some (b,c)→J b):RepC J w (.sl t xs) v:=by
 rcases h.objs id _ ho with⟨h1,h2⟩|⟨b,cap,hM,_,_,hcap,hmx,_,he⟩
 ·simp only[]at h1
  rw[h1]at hv
  obtain⟨_,hv⟩:=hv
  rw[hv,h2]
  exact RepC.empty t _
 ·simp only[]at hM
  rw[hM]at hv
  simp only[aM]at hv
  rw[hv]
  refine .sl t xs b 0 cap (λi j=>(w.cell? ⟨b,i*t.size+j,none⟩).getD undef) (λ_=>hJ b cap hM) hmx hcap (λi x j c hx hc=> ?_) (λi x j c hx hc=> ?_)
  ·obtain⟨u,hu,_⟩:=he i x j c hx hc
   simp only[]at hu
   rw[Nat.zero_add,hu];rfl
  ·obtain⟨u,hu,hr⟩:=he i x j c hx hc
   simp only[]at hu
   rw[hu]
   exact hr.rep λb c hb=>hJn i j b c hb
theorem F1 (h:SimX w0 mo n I0 I M s a w){id:Nat}{t:Ty}{xs:List t.T}{ver iv:Nat}(ho:s.obj id=some (.dar t xs ver iv)){i off:Nat}{v:Value}(hv:aA (ax w0 I0 I M s w) (.inn id iv i off) v):
  ∃(t':Ty) (ys:List t'.T),i<xs.length∧(t.cells (xs.getD i t.zero))[off]? =some (.sl t' ys)∧iZ w (M.n id i off) t' ys v:=by
 obtain⟨_,o,ho2,hd⟩:=hv
 simp only[]at ho2
 rw[ho]at ho2;cases ho2
 obtain⟨e,t',ys,hx,hc,hval⟩:=hd.2 rfl
 have hi:=(List.getElem?_eq_some_iff.1 hx).1
 have hg:xs.getD i t.zero=e:=by simp[List.getD,hx]
 refine⟨t',ys,hi,by rw[hg];exact hc,hval, ?_⟩
 rcases h.objs id _ ho with⟨_,h2⟩|⟨b,cap,hM,_,_,hcap,hmx,_,he⟩
 ·subst h2;simp at hi
 ·obtain⟨u,_,hr⟩:=he i e off _ hx hc
  exact hr.2
theorem xk {β:Type}{xs:List β}{l m i:Nat}{x:β}(hx:((xs.take m).drop l)[i]? =some x):xs[l+i]? =some x:=by
 rw[List.getElem?_drop]at hx
 rcases Nat.lt_or_ge (l+i) m with h|h
 ·rwa [List.getElem?_take_of_lt h]at hx
 ·rw[List.getElem?_take_eq_none (by omega)]at hx;cases hx
theorem wj {J:Nat→Prop}{t:Ty}{xs:List t.T}{v:Value}(hv:RepC J w (.sl t xs) v){l m:Nat}(h1:l≤m)(h2:m≤xs.length):
  ∃p cap,v= .slice p xs.length cap∧(p=none→cap=0)∧xs.length≤cap∧RepC J w (.sl t ((xs.take m).drop l)) (.slice (if cap=l then p else p.map (·.add (l*t.size))) (m-l) (cap-l)):=by
 cases hv with
 |nil=>
  refine⟨none,0,rfl,λ_=>rfl,by simp, ?_⟩
  simp at h2
  subst h2
  have:l=0:=by omega
  subst this
  simpa using RepC.nil t
 |emp _ a cap=>
  refine⟨some a,cap,rfl,by simp,by simp, ?_⟩
  simp at h2
  subst h2
  have:l=0:=by omega
  subst this
  have e1:(if cap=0 then some a else Option.map (λx=>Addr.add x (0*t.size)) (some a))=some a:=by
   split
   ·rfl
   ·simp[Addr.add]
  rw[e1]
  simpa using RepC.emp t a cap
 |sl _ _ b off cap vs hJ hl hc hcell hrep=>
  refine⟨some ⟨b,off,none⟩,cap,rfl,by simp,hc, ?_⟩
  have hlen:((xs.take m).drop l).length=m-l:=by simp;omega
  by_cases e:cap=l
  ·have hml:m=l:=by omega
   have hnil:(xs.take m).drop l=[]:=List.eq_nil_of_length_eq_zero (by omega)
   rw[if_pos e,hnil]
   have:=RepC.sl (J:=J) (w:=w) t [] b off (cap-l) vs (by simp) (by simp) (by simp) (by simp) (by simp)
   simpa [hml]using this
  ·rw[if_neg e]
   have hadd:(Option.map (λx=>Addr.add x (l*t.size)) (some (⟨b,off,none⟩:Addr)))=some ⟨b,off+l*t.size,none⟩:=by simp[kx]
   rw[hadd,←hlen]
   refine .sl t _ b (off+l*t.size) (cap-l) (λi j=>vs (l+i) j) (λhne=>hJ ?_) (by omega) (by omega) (λi x j c hx hcj=> ?_) (λi x j c hx hcj=> ?_)
   ·rintro rfl;simp at hne
   ·rw[←hcell (l+i) x j c (xk hx) hcj]
    congr 2
    rw[Nat.add_mul];omega
   ·exact hrep (l+i) x j c (xk hx) hcj
theorem qj (h:SimX w0 mo n I0 I M s a w){f:Fl}{c:DC}{v:Value}(hc:aA (ax w0 I0 I M s w) c v){k:Cell→Rd α}{e:α}(hr:aU C s (Cu f c k) e):∃x,RepC (λ_=>True) w x v∧aU C s (k x) e:=by
 cases c with
 |bool b=>simp only[aA]at hc;rw[hc];exact⟨_,.bool b,hr⟩
 |int k' m=>rw[hc.1];exact⟨_,.int _ _ hc.2,hr⟩
 |str b=>obtain⟨b',rfl,rfl,hl⟩:=hc;exact⟨_,.str b' hl,hr⟩
 |raw b=>obtain⟨rfl,hl⟩:=hc;exact⟨_,.raw _ hl,hr⟩
 |sl p t xs=>exact⟨_,RepC.mono hc (λ_ _=>rfl) (λ_ _=>trivial),hr⟩
 |nil=>
  simp only[aA]at hc
  rw[hc]
  cases f with
  |sl t=>exact⟨_,.nil t,hr⟩
  |_=>exact hr.fail.elim
 |own id ver=>
  obtain⟨ob,hob,hr⟩:=hr.get
  cases ob with
  |box _=>exact hr.fail.elim
  |dar _ _ _ _=>exact hr.fail.elim
  |arr t xs ver' f' d=>
   obtain⟨hg,hr⟩:=hr.guard
   obtain⟨t1,xs1,v1,f1,d1,h1,h2,h3,h4⟩:=hc
   simp only[]at h1 h3
   rw[hob]at h1;cases h1
   exact⟨_,z7 h hob (h3 (Nat.eq_of_beq_eq_true hg)),hr⟩
 |ptr _ _=>exact hr.fail.elim
 |eptr _ _ _ _=>exact hr.fail.elim
 |vw id ver lo hi=>
  obtain⟨ob,hob,hr⟩:=hr.get
  cases ob with
  |box _=>exact hr.fail.elim
  |dar _ _ _ _=>exact hr.fail.elim
  |arr t xs ver' f' d=>
   obtain⟨hg,hr⟩:=hr.guard
   obtain⟨t1,xs1,v1,f1,d1,h1,h2,h3,h4⟩:=hc
   simp only[]at h1 h3
   rw[hob]at h1;cases h1
   obtain⟨⟨hlo,hhi⟩,p,cap,hown,rfl⟩:=h3 (Nat.eq_of_beq_eq_true hg)
   obtain⟨p',cap',e1,_,_,hrep⟩:=wj (z7 h hob hown) hlo hhi
   cases e1
   exact⟨_,hrep,hr⟩
 |down id ver=>
  obtain⟨ob,hob,hr⟩:=hr.get
  cases ob with
  |box _=>exact hr.fail.elim
  |arr _ _ _ _ _=>exact hr.fail.elim
  |dar t xs ver' iv=>
   obtain⟨hg,hr⟩:=hr.guard
   obtain⟨_,o2,ho2,hd⟩:=hc
   simp only[]at ho2
   rw[hob]at ho2;cases ho2
   exact⟨_,KO h hob (hd.2 (Nat.eq_of_beq_eq_true hg)) (λ_ _ _=>trivial) (λ_ _ _ _ _=>trivial),hr⟩
 |inn id iv i off=>
  obtain⟨ob,hob,hr⟩:=hr.get
  cases ob with
  |box _=>exact hr.fail.elim
  |arr _ _ _ _ _=>exact hr.fail.elim
  |dar t xs ver' iv'=>
   obtain⟨hg,hr2⟩:=hr.guard
   clear hr
   have hg:=Nat.eq_of_beq_eq_true hg
   subst hg
   obtain⟨t',ys,_,hcell,hown⟩:=F1 h hob hc
   simp only[hcell]at hr2
   exact⟨_,hown.rep λ_ _ _=>trivial,hr2⟩
 |dptr _ _ _ _=>exact hr.fail.elim
 |iptr _ _ _ _ _ _=>exact hr.fail.elim
 |bsl _=>exact hr.fail.elim
 |ref _ _=>exact hr.fail.elim
 |fn _ _=>exact hr.fail.elim
 |slx _ _=>exact hr.fail.elim
 |undef=>exact hr.fail.elim
 |skipped=>exact hr.fail.elim
theorem OA (hte:fQ te P=true)(h:SimX w0 mo n I0 I M s a w){args:Array Operand}{tys:Array TypeId}(ho:o.op= .call {callee:= .builtin .len,args,argTypes:=tys}) (hr:aU C s (dJ te base (.call {callee:= .builtin .len,args,argTypes:=tys})) e):
  ga w0 mo n I0 s a base e ((execOp a.eval o).run P w):=by
 simp only[dJ]at hr
 split at hr
 ·rename_i x t hargs htys
  have ha:args= #[x]:=by apply Array.ext';simpa using hargs
  have ht:tys= #[t]:=by apply Array.ext';simpa using htys
  subst ha;subst ht
  split at hr
  ·rename_i hl
   obtain⟨i,z,hi,hs,hz,hz0,hu⟩:=oh hte hl
   simp only at hu
   obtain⟨c,hc,hr⟩:=bR h hr
   cases c with
   |str b=>
    cases hr.ret
    obtain⟨b',hx,rfl,hlen⟩:=hc
    refine ga.quiet h (v:= .int .i64 (b'.data.toList.length:Nat)) ?_ (ay ⟨rfl, ?_⟩)
    ·simp only[execOp,ho,resolve,invoke,builtin,Builtin.len_]
     simp[hx,run_underlying hu,goInt]
    ·unfold ak at hlen
     exact⟨by simp[IntKind.min,IntKind.signed,IntKind.bits],by rw[IntKind.max_i64];omega⟩
   |_=>exact hr.fail.elim
  ·rename_i ty by_ hl
   obtain⟨el,i,ie,z,hu,_⟩:=iM hte hl
   obtain⟨c,hc,hr⟩:=bR h hr
   obtain⟨x',hx',hr⟩:=qj h hc hr
   cases x' with
   |sl t' xs=>
    cases hr.ret
    have hx:∃p cap,a.eval x= .slice p xs.length cap∧xs.length≤aD:=by
     generalize a.eval x=v at hx'
     cases hx' with
     |nil=>exact⟨none,0,rfl,by simp⟩
     |emp t a cap=>exact⟨some a,cap,rfl,by simp⟩
     |sl _ _ b off cap _ _ hl2 _ _ _=>exact⟨_,cap,rfl,hl2⟩
    obtain⟨p,cap,hx,hlen⟩:=hx
    refine ga.quiet h (v:= .int .i64 (xs.length:Nat)) ?_ (ay ⟨rfl, ?_⟩)
    ·simp only[execOp,ho,resolve,invoke,builtin,Builtin.len_]
     simp[hx,run_underlying hu,goInt]
    ·unfold aD at hlen
     exact⟨by simp[IntKind.min,IntKind.signed,IntKind.bits],by rw[IntKind.max_i64];omega⟩
   |_=>exact hr.fail.elim
  ·exact hr.fail.elim
 ·exact hr.fail.elim
theorem yL {β:Type}(h:SimX w0 mo n I0 I M s a w):∀{xs:List Operand} {k:List Nat→Rd β} {e:β},aU C s (Fd xs k) e→
  ∃ids,ar (λid u=>∃cs b,s.obj id=some (.box cs)∧M id=some (b,0)∧u= .pointer (some ⟨b,0,none⟩)) ids (xs.map a.eval)∧aU C s (k ids) e
 |[],k,e,hr=>⟨[],trivial,hr⟩
 |x::xs,k,e,hr=>by
  obtain⟨c,hc,hr⟩:=bR h hr
  cases c with
  |ptr id off=>
   cases off with
   |succ _=>exact hr.fail.elim
   |zero=>
    obtain⟨ids,h1,hr⟩:=yL h hr
    exact⟨id::ids,⟨hc,h1⟩,hr⟩
  |_=>exact hr.fail.elim
theorem Gq (h:SimX w0 mo n I0 I M s a w){f:Nat}{first captured:Array Operand}(ho:o.op= .makeFunc (.func f) first captured)(hr:aU C s (dJ te base (.makeFunc (.func f) first captured)) e):ga w0 mo n I0 s a base e ((execOp a.eval o).run P w):=by
 simp only[dJ]at hr
 split at hr
 ·rename_i h1
  have e1:first= #[]:=by apply Array.ext';simpa using h1
  subst e1
  obtain⟨ids,hids,hr⟩:=yL h hr
  cases hr.ret
  exact ga.quiet h (v:= .func (.func f) #[] (captured.map a.eval)) (by simp[execOp,ho,Instr.makeFunc]) (ay ⟨captured.map a.eval,rfl,by simpa using hids⟩)
 ·exact hr.fail.elim
theorem Bw {isS:Bool}{len cap:Nat}{low high:Option Value}{l hh:Int}(h0:0≤l)(h1:l≤hh)(h2:hh≤(cap:Int))
  (hlow:low=none∧l=0∨∃k,low=some (.int k l))(hhigh:high=none∧hh=(len:Int)∨∃k,high=some (.int k hh)):
  (Instr.sliceBounds isS len cap low high none).run P w= .ok (l.toNat,hh.toNat,cap) w:=by
 have c1:∀(k:IntKind) (code:BoundsCode),(Instr.sliceBound (.int k hh) cap code).run P w= .ok hh.toNat w:=by
  intro k code
  simp only[Instr.sliceBound,asIntOf]
  have:0≤hh∧hh≤(cap:Int):=⟨by omega,h2⟩
  simp[this]
 have c2:∀(k:IntKind) (code:BoundsCode),(Instr.sliceBound (.int k l) hh.toNat code).run P w= .ok l.toNat w:=by
  intro k code
  have:0≤l∧l≤(hh.toNat:Int):=⟨h0,by omega⟩
  show Sem.run P (if 0≤l∧l≤((hh.toNat:Nat):Int)then pure l.toNat else boundsPanic k l hh.toNat code) w=_
  rw[if_pos this];rfl
 rcases hlow with⟨rfl,rfl⟩|⟨k,rfl⟩<;>rcases hhigh with⟨rfl,rfl⟩|⟨k',rfl⟩<;>simp[Instr.sliceBounds,c1,c2]<;>(try simp only[Int.toNat_natCast]at c2)<;>simp[c2]
theorem sJ (h:SimX w0 mo n I0 I M s a w){lo hi:Option Operand}{len:Int}{fin:Int→Int→Rd Eff}{e:Eff}(hr:aU C s (Mq lo hi len fin) e):
  ∃l hh,(lo.map a.eval=none∧l=0∨∃k,lo.map a.eval=some (.int k l))∧(hi.map a.eval=none∧hh=len∨∃k,hi.map a.eval=some (.int k hh))∧aU C s (fin l hh) e:=by
 cases lo with
 |none=>
  cases hi with
  |none=>exact⟨0,len,.inl ⟨rfl,rfl⟩,.inl ⟨rfl,rfl⟩,hr⟩
  |some x=>
   obtain⟨k,m,hx,_,hr⟩:=cg h hr
   exact⟨0,m,.inl ⟨rfl,rfl⟩,.inr ⟨k,by simp[hx]⟩,hr⟩
 |some y=>
  obtain⟨k',l,hy,_,hr⟩:=cg h hr
  cases hi with
  |none=>exact⟨l,len,.inr ⟨k',by simp[hy]⟩,.inl ⟨rfl,rfl⟩,hr⟩
  |some x=>
   obtain⟨k,m,hx,_,hr⟩:=cg h hr
   exact⟨l,m,.inr ⟨k',by simp[hy]⟩,.inr ⟨k,by simp[hx]⟩,hr⟩
theorem CE {b:ByteArray}(l m:Nat)(_h:l≤m):(b.extract l m).data.toList=(b.data.toList.take m).drop l:=by
 rw[ByteArray.data_extract,Array.toList_extract,List.extract_eq_take_drop]
 rw[List.drop_take]
theorem L1 (hte:fQ te P=true)(h:SimX w0 mo n I0 I M s a w){t:Nat}{x:Operand}{lo hi mx:Option Operand}(ho:o.op= .slice t x lo hi mx)(hr:aU C s (dJ te base (.slice t x lo hi mx)) e)(hid:∀id∈(au base e.new).map (·.1),s.obj id=none):
  ga w0 mo n I0 s a base e ((execOp a.eval o).run P w):=by
 simp only[dJ]at hr
 split at hr
 ·
  rename_i hl
  obtain⟨i,z,hi',hs,hz,hz0,hu⟩:=oh hte hl
  simp only at hu
  obtain⟨c,hc,hr⟩:=bR h hr
  cases c with
  |str sb=>
   obtain⟨l,hh,hlow,hhigh,hr⟩:=sJ h hr
   obtain⟨hg,hr⟩:=hr.guard
   cases hr.ret
   simp only[Bool.and_eq_true,decide_eq_true_eq]at hg
   obtain⟨⟨h0,h1⟩,h2⟩:=hg
   obtain⟨b,hx,rfl,hbl⟩:=hc
   have hsz:b.size=b.data.toList.length:=by show b.data.size=_;rw[Array.length_toList]
   have hb:=Bw (P:=P) (w:=w) (isS:=false) (len:=b.size) (cap:=b.size) h0 h1 (by rw[hsz];exact h2) hlow (by rw[hsz];exact hhigh)
   refine ga.quiet h (v:= .string (b.extract l.toNat hh.toNat)) ?_ (ay ⟨_,rfl,CE _ _ (by omega), ?_⟩)
   ·simp[execOp,ho,hx,Instr.sliceAt,Instr.slice,run_underlying hu,hb]
   ·simp;omega
  |_=>exact hr.fail.elim
 ·rename_i ty by_ hl
  obtain⟨el,i,ie,z,hu,hi',hs,hz,hie,hes,heb,hb0,hez,hez0,hu8,hi32,hd⟩:=iM hte hl
  have hsz:(sizeOf el).run P w= .ok ty.size w:=by simp[sizeOf,typeInfo,hie,hes]
  obtain⟨c,hc,hr⟩:=bR h hr
  have hrun:∀p len cap l hh,a.eval x= .slice p len cap→0≤l→l≤hh→hh≤(cap:Int)→(lo.map a.eval=none∧l=0∨∃k,lo.map a.eval=some (.int k l))→
    (hi.map a.eval=none∧hh=(len:Int)∨∃k,hi.map a.eval=some (.int k hh))→
    (execOp a.eval o).run P w= .ok (.value (.slice (if cap=l.toNat then p else p.map (·.add (l.toNat*ty.size))) (hh.toNat-l.toNat) (cap-l.toNat))) w:=by
   intro p len cap l hh hx h0 h1 h2 hlow hhigh
   have hb:=Bw (P:=P) (w:=w) (isS:=true) (len:=len) (cap:=cap) h0 h1 h2 hlow hhigh
   simp[execOp,ho,hx,Instr.sliceAt,Instr.slice,run_underlying hu,hb,hsz]
  cases c with
  |sl p t' xs=>
   obtain⟨l,hh,hlow,hhigh,hr⟩:=sJ h hr
   obtain⟨hg,hr⟩:=hr.guard
   cases hr.ret
   simp only[Bool.and_eq_true,decide_eq_true_eq]at hg
   obtain⟨⟨⟨rfl,h0⟩,h1⟩,h2⟩:=hg
   obtain⟨pp,cap,hx,hp0,hcap,hrep⟩:=wj (l:=l.toNat) (m:=hh.toNat) hc (by omega) (by omega)
   refine ga.quiet h (hrun pp xs.length cap l hh hx h0 h1 (by omega) hlow hhigh) (ay ?_)
   exact hrep
  |nil=>
   obtain⟨l,hh,hlow,hhigh,hr⟩:=sJ h hr
   obtain⟨hg,hr⟩:=hr.guard
   cases hr.ret
   simp only[Bool.and_eq_true,decide_eq_true_eq]at hg
   obtain⟨⟨h0,h1⟩,h2⟩:=hg
   simp only[aA]at hc
   have hh0:hh=0:=by omega
   have hl0:l=0:=by omega
   subst hh0;subst hl0
   refine ga.quiet h (hrun none 0 0 0 0 hc (by omega) (by omega) (by omega) hlow hhigh) (ay ?_)
   exact RepC.nil ty
  |own id ver=>
   obtain⟨ob,hob,hr⟩:=hr.get
   cases ob with
   |box _=>exact hr.fail.elim
   |dar _ _ _ _=>exact hr.fail.elim
   |arr t' xs ver' f d=>
    obtain⟨hg1,hr⟩:=hr.guard
    obtain⟨l,hh,hlow,hhigh,hr⟩:=sJ h hr
    obtain⟨hg,hr2⟩:=hr.guard
    clear hr
    simp only[Bool.and_eq_true,decide_eq_true_eq]at hg
    obtain⟨⟨⟨rfl,h0⟩,h1⟩,h2⟩:=hg
    obtain⟨t1,xs1,v1,f1,d1,h3,h4,h5,h6⟩:=hc
    simp only[]at h3 h5
    rw[hob]at h3;cases h3
    have hval:=h5 (Nat.eq_of_beq_eq_true hg1)
    cases hvw:((decide (t'= .u8)||(ac te (4000000+t)).isSome&& !QC lo)&& !f)with
    |true=>
    rw[hvw,cond_true]at hr2
    cases hr2.ret
    obtain⟨pp,cap,hx,_,hcap,_⟩:=wj (l:=l.toNat) (m:=hh.toNat) (z7 h hob hval) (by omega) (by omega)
    refine ga.quiet h (hrun pp xs.length cap l hh hx h0 h1 (by omega) hlow hhigh) (ay ⟨t',xs,ver',f,d,hob,Nat.le_of_eq (Nat.eq_of_beq_eq_true hg1),λ_=>⟨⟨by omega,by omega⟩,pp,cap,hx▸hval,rfl⟩,rfl⟩)
    |false=>
    rw[hvw,cond_false]at hr2
    cases hr2.ret
    obtain⟨I',hI,hIb,hext,hs'⟩:=h.freeze hob
    have hrep0:RepC I' w (.sl t' xs) (a.eval x):=by
     rcases hs'.objs id (.arr t' xs ver' true d) (by simp only[af,if_pos])with⟨hM,hnil⟩|⟨b,cap,hM,_,_,hIb',hcap,hmx,_,he⟩
     ·simp only[]at hM
      rw[hM]at hval
      obtain⟨_,hval⟩:=hval
      rw[hval,hnil]
      exact RepC.empty t' _
     ·simp only[]at hM
      rw[hM]at hval
      simp only[aM]at hval
      rw[hval]
      refine .sl t' xs b 0 cap (λi j=>(w.cell? ⟨b,i*t'.size+j,none⟩).getD undef) (λ_=>hIb b cap hM) hmx hcap (λi x j c hx hc=> ?_) (λi x j c hx hc=> ?_)
      ·obtain⟨u,hu,_⟩:=he i x j c hx hc
       simp only[]at hu
       rw[Nat.zero_add,hu];rfl
      ·obtain⟨u,hu,hru⟩:=he i x j c hx hc
       simp only[]at hu
       rw[hu]
       refine hru.mono (λ_ _=>rfl) λb' hb'=> ?_
       cases d
       ·exact hb'
       ·exact hb'.1
    obtain⟨pp,cap,hx,hp0,hcap,hrep⟩:=wj (l:=l.toNat) (m:=hh.toNat) hrep0 (by omega) (by omega)
    refine⟨_,w,I',M,_,.inl (hrun pp xs.length cap l hh hx h0 h1 (by omega) hlow hhigh),hs',ay ?_,λi=> ?_⟩
    ·exact hrep
    ·simp only[List.append_nil,au];exact aR _ _ _ _
  |vw id ver lo0 hi0=>
   obtain⟨ob,hob,hr⟩:=hr.get
   cases ob with
   |box _=>exact hr.fail.elim
   |dar _ _ _ _=>exact hr.fail.elim
   |arr t' xs ver' f d=>
    obtain⟨hg1,hr⟩:=hr.guard
    obtain⟨l,hh,hlow,hhigh,hr⟩:=sJ h hr
    obtain⟨hg,hr2⟩:=hr.guard
    clear hr
    cases hr2.ret
    simp only[Bool.and_eq_true,decide_eq_true_eq]at hg hg1
    obtain⟨⟨⟨rfl,h0⟩,h1⟩,h2⟩:=hg
    obtain⟨hver,hlo0⟩:=hg1
    have hlo0:=Nat.eq_of_beq_eq_true hlo0
    subst hlo0
    obtain⟨t1,xs1,v1,f1,d1,h3,h4,h5,h6⟩:=hc
    simp only[]at h3 h5
    rw[hob]at h3;cases h3
    obtain⟨⟨_,hhi⟩,p,cap,hov,hxv⟩:=h5 (Nat.eq_of_beq_eq_true hver)
    have hcap:xs.length≤cap:=by
     cases hm:M id with
     |none=>
      rw[hm]at hov
      obtain⟨_,hov⟩:=hov
      injection hov with _ e1 e2
      omega
     |some q=>
      obtain⟨b,c⟩:=q
      rw[hm]at hov
      simp only[aM]at hov
      injection hov with e0 _ e2
      rcases h.objs id _ hob with⟨g1,_⟩|⟨b',cap',g1,_,_,_,g5,_⟩
      ·simp only[]at g1;rw[hm]at g1;cases g1
      ·simp only[]at g1;rw[hm]at g1;cases g1;omega
    have hx:a.eval x= .slice p hi0 cap:=by
     rw[hxv]
     have e1:(if cap=0 then p else p.map λq=>q.add (0*t'.size))=p:=by
      split
      ·rfl
      ·cases p with
       |none=>rfl
       |some q=>simp[Addr.add]
     rw[e1,Nat.sub_zero,Nat.sub_zero]
    refine ga.quiet h (hrun p hi0 cap l hh hx h0 h1 (by omega) hlow hhigh) (ay ⟨t',xs,ver',f,d,hob,Nat.le_of_eq (Nat.eq_of_beq_eq_true hver),λ_=>⟨⟨by omega,by omega⟩,p,cap,hov,rfl⟩,rfl⟩)
  |_=>exact hr.fail.elim
 ·rename_i ty by_ m hl
  obtain⟨el,i,ie,z,hu,hi',hs,hz,hie,hes,heb,hb0,hez,hez0,hu8,hi32,hd⟩:=iM hte hl
  have hsz:(sizeOf el).run P w= .ok ty.size w:=by simp[sizeOf,typeInfo,hie,hes]
  split at hr
  ·rename_i z'
   obtain⟨c,hc,hr⟩:=bR h hr
   obtain⟨kz,hh,hzv,_,hr⟩:=cg h hr
   obtain⟨km,kk,hmv,_,hr⟩:=cg h hr
   obtain⟨hg,hr2⟩:=hr.guard
   clear hr
   simp only[Bool.and_eq_true,decide_eq_true_eq]at hg
   obtain⟨rfl,rfl⟩:=hg
   obtain⟨x',hx',hr⟩:=qj h hc hr2
   cases x' with
   |sl t1 xs=>
    cases hr.ret
    have hx:∃p len cap,a.eval x= .slice p len cap:=by
     generalize a.eval x=v at hx'
     cases hx' with
     |nil=>exact⟨none,0,0,rfl⟩
     |emp t a cap=>exact⟨some a,0,cap,rfl⟩
     |sl _ _ b off cap _ _ hl2 _ _ _=>exact⟨_,_,cap,rfl⟩
    obtain⟨p,len,cap,hx⟩:=hx
    have hrun:(execOp a.eval o).run P w= .ok (.value (.slice p 0 0)) w:=by
     simp[execOp,ho,hx,Instr.sliceAt,Instr.slice,Instr.sliceBounds,Instr.sliceBound,run_underlying hu,hzv,hmv,hsz,asIntOf]
    obtain⟨hext,hs'⟩:=h.new (hid base (by simp[au])) (o:= .arr ty [] 0 false true) (m:=none) (w':=w) (λ_ _=>rfl) (Nat.le_refl _) rfl rfl rfl (by simp) (λ_=> .inl ⟨by simp only[bp,if_pos],rfl⟩)
    refine⟨_,w,I,_,_,.inl hrun,hs',ay ⟨ty,[],0,false,true,by simp only[af,if_pos],Nat.le_refl _,λ_=> ?_,rfl⟩,λi=> ?_⟩
    ·simp only[bp,if_pos,aM]
     exact⟨p,rfl⟩
    ·simp only[List.nil_append,au];exact aR _ _ _ _
   |_=>exact hr.fail.elim
  ·rename_i y' z'
   obtain⟨c,hc,hr⟩:=bR h hr
   cases c with
   |own id ver=>
    obtain⟨ob,hob,hr⟩:=hr.get
    cases ob with
    |box _=>exact hr.fail.elim
    |dar _ _ _ _=>exact hr.fail.elim
    |arr t' xs ver' f d=>
     obtain⟨ky,l,hyv,_,hr⟩:=cg h hr
     obtain⟨kz,hh,hzv,_,hr⟩:=cg h hr
     obtain⟨km,kk,hmv,_,hr⟩:=cg h hr
     obtain⟨hg,hr2⟩:=hr.guard
     clear hr
     cases hr2.ret
     simp only[Bool.and_eq_true,decide_eq_true_eq]at hg
     obtain⟨⟨⟨⟨hver,h0⟩,h1⟩,h2⟩,h3⟩:=hg
     obtain⟨t1,xs1,v1,f1,d1,g3,g4,g5,g6⟩:=hc
     simp only[]at g3 g5
     rw[hob]at g3;cases g3
     have hval:=g5 (Nat.eq_of_beq_eq_true hver)
     obtain⟨p,cap,hx,hcap⟩:∃p cap,a.eval x= .slice p xs.length cap∧xs.length≤cap:=by
      rcases h.objs id _ hob with⟨q1,q2⟩|⟨b',cap',q1,_,_,_,q5,_⟩
      ·simp only[]at q1
       rw[q1]at hval
       obtain⟨q,hval⟩:=hval
       exact⟨q,0,by rw[hval,q2];rfl,by rw[q2];simp⟩
      ·simp only[]at q1
       rw[q1]at hval
       exact⟨_,cap',hval,q5⟩
     have c1:∀(k:IntKind) (v:Int) (c:Nat) (code:BoundsCode),0≤v→v≤(c:Int)→(Instr.sliceBound (.int k v) c code).run P w= .ok v.toNat w:=by
      intro k v c code g0 g1
      show Sem.run P (if 0≤v∧v≤(c:Int)then pure v.toNat else boundsPanic k v c code) w=_
      rw[if_pos ⟨g0,g1⟩];rfl
     have hb:(Instr.sliceBounds true xs.length cap (some (.int ky l)) (some (.int kz hh)) (some (.int km kk))).run P w= .ok (l.toNat,hh.toNat,kk.toNat) w:=by
      simp[Instr.sliceBounds,c1 km kk cap _ (by omega) (by omega),c1 kz hh kk.toNat _ (by omega) (by omega),c1 ky l hh.toNat _ (by omega) (by omega)]
     have hrun:(execOp a.eval o).run P w= .ok (.value (.slice (if kk.toNat=l.toNat then p else p.map (·.add (l.toNat*ty.size))) (hh.toNat-l.toNat) (kk.toNat-l.toNat))) w:=by
      simp[execOp,ho,hx,Instr.sliceAt,Instr.slice,run_underlying hu,hyv,hzv,hmv,hsz,hb]
     exact ga.quiet h hrun (ay trivial)
   |_=>exact hr.fail.elim
  ·exact hr.fail.elim
 ·exact hr.fail.elim
end
end Go.Proofs.YtffjmkhjhchnmaaGreat
