/- Rows made, structs and slices built, variables written. -/
import Derived.Test.YtffjmkhjhchnmaaGreatList
set_option linter.unusedVariables false
set_option linter.unusedSimpArgs false
namespace Go.Proofs.YtffjmkhjhchnmaaGreat
open Go Go.RowKit
section
variable {α:Type} {C:Nat→List PV→List MO→cS→List MO→Prop} {w0:World} {mo:gj} {n:Nat} {I0 I:Nat→Prop} {M:MF} {s:FSt} {a:Act} {w:World} {te:TE} {P:Program} {base:Nat} {e:Eff} {o:Oper}
theorem EQ {R:Cell→Value→Prop}{ty:Ty}{z:Value}(hz:bX ty.fl z.cells.toList=true)(hR:ar R (cM ty.fl (A0 ty.fl)) z.cells.toList)(m:Nat):
  ar R (flat ty (List.replicate m ty.zero)) ((Array.range (m*ty.size)).map (λi=>z.cells[i%z.cells.size]!)).toList:=by
 have hzs:z.cells.size=ty.size:=by
  have:=hR.length
  rw[gk]at this
  simpa [Ty.size]using this.symm
 have hpos:=ty.size_pos
 refine ar.of (m*ty.size) (by simp[lV]) (by simp) λk c v hc hv=> ?_
 have hk:k<m*ty.size:=by
  have:=(List.getElem?_eq_some_iff.1 hc).1
  simpa [lV]using this
 have hdec:k=k/ty.size*ty.size+k%ty.size:=by rw[Nat.mul_comm];exact(Nat.div_add_mod k ty.size).symm
 have hmod:k%ty.size<ty.size:=Nat.mod_lt _ hpos
 have hdiv:k/ty.size<m:=Nat.div_lt_of_lt_mul (by rw[Nat.mul_comm];exact hk)
 rw[hdec,E6 ty _ _ _ hmod,List.getElem?_replicate,if_pos hdiv,Option.bind_some,JU]at hc
 obtain⟨u,hu,hr⟩:=hR.at hc
 have hv':v=u:=by
  simp only[Array.toList_map,List.getElem?_map,Array.toList_range,List.getElem?_range hk,Option.map_some,Option.some.injEq]at hv
  have hu':z.cells[k%ty.size]? =some u:=by simpa using hu
  rw[←hv,hzs,getElem!_pos z.cells (k%ty.size) (by rw[hzs];exact hmod)]
  exact(Array.getElem?_eq_some_iff.1 hu').2
 rw[hv']
 exact hr
theorem xz {J:Nat→Prop}{ty:Ty}{z:Value}(hz:bX ty.fl z.cells.toList=true)(m:Nat):
  ar (RepC J w) (flat ty (List.replicate m ty.zero)) ((Array.range (m*ty.size)).map (λi=>z.cells[i%z.cells.size]!)).toList:=EQ hz (ld hz) m
theorem CY:∀{fs:List Fl} {vs:List Value},bX fs vs=true→ar (λc v=>∀i j,d9 (λ_ _=>none) w i j c v) (cM fs (A0 fs)) vs
 |[],[],_=>trivial
 |[],_::_,h=>by simp[bX]at h
 |_::_,[],h=>by simp[bX]at h
 |f::fs,v::vs,h=>by
  have hz:=(ld (J:=λ_=>False) (w:=w) h).1
  simp only[bX,Bool.and_eq_true]at h
  refine⟨λi j=> ?_,CY h.2⟩
  cases f with
  |sl t=>
   have h1:=h.1
   cases v<;>simp only[pg,Bool.false_eq_true]at h1
   rename_i a l c
   cases a with
   |some a=>simp at h1
   |none=>cases l with
    |succ l=>simp at h1
    |zero=>cases c with
     |succ c=>simp at h1
     |zero=>exact⟨⟨none,rfl⟩,.inl ⟨rfl,rfl⟩⟩
  |int k=>exact hz
  |bool=>exact hz
  |str=>exact hz
  |raw=>exact hz
theorem Na {m:Int}(h0:0≤m)(h1:m≤(aD:Int)):IntKind.i64.wrap m=m:=by
 unfold aD at h1
 unfold IntKind.wrap
 simp[IntKind.bits,IntKind.signed]
 omega
theorem D3 (hte:fQ te P=true)(h:SimX w0 mo n I0 I M s a w){t:Nat}{x y:Operand}(ho:o.op= .makeSlice t x y)(hr:aU C s (dJ te base (.makeSlice t x y)) e)(hid:∀id∈(au base e.new).map (·.1),s.obj id=none):
  ga w0 mo n I0 s a base e ((execOp a.eval o).run P w):=by
 simp only[dJ]at hr
 split at hr
 ·rename_i ty by_ hl
  obtain⟨el,i,ie,z,hu,hi,hs,hz,hie,hes,heb,hb0,hez,hez0,hu8,hi32,hd⟩:=iM hte hl
  obtain⟨kl,m,hx,hkx,hr⟩:=cg h hr
  obtain⟨kc,q,hy,hky,hr⟩:=cg h hr
  obtain⟨hg,hr2⟩:=hr.guard
  simp only[Bool.and_eq_true,decide_eq_true_eq,beq_iff_eq]at hg
  obtain⟨⟨⟨⟨⟨rfl,rfl⟩,h0⟩,rfl⟩,h3⟩,h4⟩:=hg
  have hw:=Na h0 h4
  obtain⟨k,rfl⟩:=Int.eq_ofNat_of_zero_le h0
  have hzs:z.cells.size=ty.size:=by
   have:=(ld (J:=λ_=>True) (w:=w) hez0).length
   rw[gk]at this
   simpa [Ty.size]using this.symm
  have hlarge:¬((by_:Int)*(k:Int)>2 ^ 48):=by
   unfold aD at h3
   rw[Int.mul_comm]
   omega
  let vs:Array Value:=(Array.range (k*ty.size)).map (λi=>z.cells[i%z.cells.size]!)
  have hrun:(execOp a.eval o).run P w= .ok (.value (.slice (some ⟨w.heap.size,0,none⟩) (List.replicate ((k:Int).toNat) ty.zero).length k)) (w.alloc (.cells vs el)):=by
   have hsel:(sizeOf el).run P w= .ok ty.size w:=by simp[sizeOf,typeInfo,hie,hes]
   have hlt:¬((k:Int)<0):=by omega
   simp only[execOp,ho,Instr.makeSlice,hx,hy]
   by_cases hk0:k*ty.size=0
   ·have:k=0:=by
     have:=ty.size_pos
     rcases Nat.mul_eq_zero.1 hk0 with h|h
     ·exact h
     ·omega
    subst this
    have hw0:IntKind.i64.wrap 0=0:=by decide
    have hr0:Array.range 0= #[]:=rfl
    simp[run_underlying hu,asInt,asIntOf,typeInfo,hie,hw0,sizeOf,newRow,vs,hr0]
   ·have hlg:¬(281474976710656<(by_:Int)*(k:Int)):=by simpa using hlarge
    have hf:((k:Int)<0)=False:=by simp
    simp[run_underlying hu,asInt,asIntOf,typeInfo,hie,heb,hw,sizeOf,newRow,zeroValue,hez,vs,hes,hlg,hk0,hf]
  cases hdo:KX te ty with
  |true=>
  rw[hdo]at hr2
  cases hr2.ret
  have hall:=EQ hez0 (CY (w:=w.alloc (.cells vs el)) hez0) k
  have hb:=hid base (by simp[au])
  have hlt:w.heap.size<(w.alloc (.cells vs el)).heap.size:=by simp
  obtain⟨hext,hs'⟩:=h.dput (id:=base) (t':=ty) (xs':=List.replicate (k:Int).toNat ty.zero) (ver':=0) (iv':=0) (m:=some (w.heap.size,k)) (n':=λ_ _=>none) (w':=w.alloc (.cells vs el)) (by rw[hb];trivial) (λb hb _=>df w _ hb) (Nat.le_of_lt hlt) rfl rfl rfl
   (by intro b c hm;cases hm;exact .inl (vD h hlt)) (by intro i j b c hm;cases hm) (by intro i j i' j' b c c' hm;cases hm) (by intro i j b c c' hm;cases hm) (by
   intro hext
   refine .inr ⟨w.heap.size,k,by simp only[aE,if_pos],hlt,λhI=>Nat.lt_irrefl _ (h.ilt _ hI),by simp,by simpa using(by omega:k≤aD),λj hj=>⟨?_,tu w vs el j⟩,λi x j c hxi hcj=> ?_⟩
   ·simp only[]
    rw[tg]
    simp[vs,hj]
   ·obtain⟨u,hu',hru⟩:=hall.at (uj ty hxi hcj)
    exact⟨u,by simp only[];rw[tg,←Array.getElem?_toList];exact hu',by simp only[aE,if_pos];exact hru i j⟩)
  refine⟨_,_,I,_,_,.inl hrun,hs',ay ⟨rfl,.dar ty (List.replicate (k:Int).toNat ty.zero) 0 0,by simp only[af,if_pos],Nat.le_refl _,λ_=> ?_⟩,λi=> ?_⟩
  ·simp only[aE,if_pos,aM]
  ·simp only[List.nil_append,au];exact aR _ _ _ _
  |false=>
  rw[hdo]at hr2
  cases hr2.ret
  have hall:=xz (J:=(ax w0 I0 I M s w).J (pX true)) (w:=w) hez0 k
  refine sH h (hid base (by simp[au])) (d:=true) (vs:=vs) (t:=el) (cap:=k) (fr:=(0,0)) (sP w _) (λb hb=>df w _ hb) rfl rfl rfl (by simp[vs]) (by simp) (by simpa using(by omega:k≤aD)) (.inl (Nat.le_refl _)) ?_ hrun
  intro i x j c hxi hcj
  have:=hall.at (uj ty hxi hcj)
  obtain⟨u,hu',hru⟩:=this
  exact⟨u,by rw[←Array.getElem?_toList];exact hu',hru⟩
 ·exact hr.fail.elim
theorem uN {β γ:Type}{f:β→Sem γ}{g:β→γ}:∀{l:List β},(∀b∈l,(f b).run P w= .ok (g b) w)→(l.mapM f).run P w= .ok (l.map g) w
 |[],_=>by simp
 |b::l,h=>by
  have h1:=h b (by simp)
  have h2:=uN (l:=l) λx hx=>h x (List.mem_cons_of_mem _ hx)
  simp[List.mapM_cons,h1,h2]
theorem FG {β γ:Type}{f:β→Sem γ}{g:β→γ}{l:Array β}(h:∀b∈l.toList,(f b).run P w= .ok (g b) w):(l.mapM f).run P w= .ok (l.map g) w:=by
 rw[Array.mapM_eq_mapM_toList]
 simp only[Sem.run_map,uN h,Result.andThen_ok]
 congr 1
 apply Array.ext'
 simp
theorem Ds (h:SimX w0 mo n I0 I M s a w){fields:List (Nat×Nat)}{place:Nat→Option (Nat×Nat)}(hplace:∀i off ft tf,fields[i]? =some (off,ft)→ac te ft=some tf→place i=some (off,tf.fl.length)):
  ∀{parts:List (Nat×Operand)} {cs:List DC} {cells:Array Value} {k:List DC→Rd Eff} {e:Eff},ar (λc u=>aA (ax w0 I0 I M s w) c u∧u.oneCell'=true) cs cells.toList→aU C s (x8 te fields parts cs k) e→
   ∃cs' cells',Instr.fill place cells (parts.map λp=>(p.1,a.eval p.2))=some cells'∧ar (λc u=>aA (ax w0 I0 I M s w) c u∧u.oneCell'=true) cs' cells'.toList∧aU C s (k cs') e:=by
 intro parts
 induction parts with
 |nil=>intro cs cells k e hall hr;exact⟨cs,cells,rfl,hall,hr⟩
 |cons p parts ih=>
  intro cs cells k e hall hr
  obtain⟨i,x⟩:=p
  obtain⟨d,hd,hr⟩:=eV h hr
  cases d with
  |tup _=>exact hr.fail.elim
  |v ag ds=>
   simp only at hr
   split at hr
   ·rename_i off ft hf
    split at hr
    ·rename_i tf htf
     obtain⟨hg,hr⟩:=hr.guard
     simp only[Bool.and_eq_true]at hg
     obtain⟨⟨h1,h2⟩,h3⟩:=hg
     have h1:=Nat.eq_of_beq_eq_true h1
     have h2:=Nat.le_of_ble_eq_true h2
     have hv:=lM hd h3
     have hsz:(a.eval x).cells.size=tf.fl.length:=by
      have:=hv.length
      rw[←h1];simpa using this.symm
     have hcs:cells.size=cs.length:=by simpa using hall.length.symm
     have hfit:off+(a.eval x).cells.size≤cells.size:=by omega
     have hst:=yq (a.eval x).cells cells off hfit
     obtain⟨cs',cells',hfill,hall',hr⟩:=ih (cells:=(a.eval x).cells.zipIdx.foldl (λcs (p:Value×Nat)=>cs.setIfInBounds (off+p.2) p.1) cells) (by rw[hst];exact hall.splice hv off) hr
     refine⟨cs',cells', ?_,hall',hr⟩
     simp only[List.map_cons,Instr.fill,hplace i off ft tf hf htf]
     have hno:¬((a.eval x).cells.size≠tf.fl.length||decide (off+(a.eval x).cells.size>cells.size))=true:=by
      simp[hsz];omega
     rw[if_neg hno]
     exact hfill
    ·exact hr.fail.elim
   ·exact hr.fail.elim
theorem LU (hte:fQ te P=true)(h:SimX w0 mo n I0 I M s a w){t:Nat}{parts:Array (Nat×Operand)}(ho:o.op= .build t parts)(hr:aU C s (dJ te base (.build t parts)) e):ga w0 mo n I0 s a base e ((execOp a.eval o).run P w):=by
 simp only[dJ]at hr
 split at hr
 ·rename_i ty fields hl
  obtain⟨fs,i,vs,hu,hi,hs,hz,hz0,hsame,hall,_,_⟩:=AM hte hl
  have hsizes:∀f∈fs.toList,(do pure (f.offset,←sizeOf f.type):Sem (Nat×Nat)).run P w= .ok (f.offset,P.cellsOf f.type) w:=by
   intro f hf
   obtain⟨k,hk⟩:=List.getElem?_of_mem hf
   have hlen:∀{l:List Field} {r:List (Nat×Nat)},bQ l r=true→l.length=r.length:=by
    intro l
    induction l with
    |nil=>intro r h;cases r with
     |nil=>rfl
     |cons x r=>obtain⟨_,_⟩:=x;simp[bQ]at h
    |cons y l ih=>intro r h;cases r with
     |nil=>simp[bQ]at h
     |cons x r=>obtain⟨_,_⟩:=x;simp only[bQ,Bool.and_eq_true]at h;simp[ih h.2]
   have hkl:k<fields.length:=by rw[←hlen hsame];exact(List.getElem?_eq_some_iff.1 hk).1
   obtain⟨f',hf',h1,h2⟩:=pj hsame (i:=k) (off:=fields[k].1) (t:=fields[k].2) (by simp[hkl])
   rw[hk]at hf';cases hf'
   obtain⟨tf,htf,hl1,_⟩:=hall fields[k] (List.getElem_mem hkl)
   obtain⟨it,_,hit,hits,_⟩:=sK hte htf hl1
   have:P.info? f.type=some it:=by rw[h2];exact hit
   simp[sizeOf,typeInfo,this,Program.cellsOf]
  have hplaces:=FG (P:=P) (w:=w) (f:=λf:Field=>(do pure (f.offset,←sizeOf f.type):Sem (Nat×Nat))) (g:=λf=>(f.offset,P.cellsOf f.type)) (l:=fs) hsizes
  obtain⟨cs',cells',hfill,hall',hr⟩:=Ds (place:=λi=>(fs.map λf=>(f.offset,P.cellsOf f.type))[i]?) h (by
   intro k off ft tf hk htf
   obtain⟨f,hf,h1,h2⟩:=pj hsame hk
   obtain⟨tf',htf',hl1,_⟩:=hall _ (List.mem_of_getElem? hk)
   rw[htf]at htf';cases htf'
   obtain⟨it,_,hit,hits,_⟩:=sK hte htf hl1
   have hf':fs[k]? =some f:=by simpa using hf
   simp[hf',h1,h2,Program.cellsOf,hit,hits]) (yv hz0) hr
  cases hr.ret
  refine ga.quiet h (v:= .agg cells') ?_ ⟨cells',rfl,hall'⟩
  have hparts:(parts.map λ(i,x)=>(i,a.eval x)).toList=parts.toList.map λp=>(p.1,a.eval p.2):=by simp
  simp only[execOp,ho,Instr.build]
  simp only[Sem.run_bind,zeroValue,typeInfo,run_program,Result.andThen_ok,hi,Sem.run_pure,hz,run_underlying hu,Value.cells,hplaces,hparts,hfill]
 ·exact hr.fail.elim
theorem CK (h:SimX w0 mo n I0 I M s a w){ty:Ty}:∀{parts:List (Nat×Operand)} {xs:List ty.T} {d:Bool} {u:List (Nat×Ob)} {cells:Array Value} {k:List ty.T→Bool→List (Nat×Ob)→Rd Eff} {e:Eff},
  ar (kb (ax w0 I0 I M s w) u d) (flat ty xs) cells.toList→cW s u→aU C s (vE ty parts xs d u k) e→
   ∃xs' d' u' cells',Instr.fill (λi=>some (i*ty.size,ty.size)) cells (parts.map λp=>(p.1,a.eval p.2))=some cells'∧ar (kb (ax w0 I0 I M s w) u' d') (flat ty xs') cells'.toList∧cW s u'∧xs'.length=xs.length∧aU C s (k xs' d' u') e:=by
 intro parts
 induction parts with
 |nil=>intro xs d u cells k e hall hu hr;exact⟨xs,d,u,cells,rfl,hall,hu,rfl,hr⟩
 |cons p parts ih=>
  intro xs d u cells k e hall hu hr
  obtain⟨i,x⟩:=p
  obtain⟨dv,hd,hr⟩:=eV h hr
  cases dv with
  |tup _=>exact hr.fail.elim
  |v ag ds=>
   simp only at hr
   obtain⟨hok,hr⟩:=hr.guard
   have hv:=lM hd hok
   obtain⟨cs,d',u',hcs,hu',hr⟩:=mP h (hv.mono λ_ _ hh=>hh.1) hr
   split at hr
   ·rename_i el hel
    obtain⟨hg,hr⟩:=hr.guard
    have hlt:i<xs.length:=Nat.le_of_ble_eq_true hg
    have hce:=Ty.get_cells hel
    have hsz:(a.eval x).cells.size=ty.size:=by
     have:=hcs.length
     rw[←hce,Ty.cells_length]at this
     simpa using this.symm
    have hcsz:cells.size=xs.length*ty.size:=by
     have:=hall.length
     rw[lV]at this
     simpa using this.symm
    have hfit:i*ty.size+(a.eval x).cells.size≤cells.size:=by
     rw[hsz,hcsz]
     have:(i+1)*ty.size≤xs.length*ty.size:=Nat.mul_le_mul_right _ hlt
     rw[Nat.add_mul]at this;omega
    have hst:=yq (a.eval x).cells cells (i*ty.size) hfit
    have hall2:ar (kb (ax w0 I0 I M s w) (u++u') (d&&d')) (flat ty (bA xs i el)) (splice cells.toList (i*ty.size) (a.eval x).cells.toList):=by
     rw[ND ty xs el i hlt,hce]
     exact(hall.mono λ_ _ hh=>hh.mono (λp hp=>List.mem_append_left _ hp) (by simp;exact λh _=>h)).splice (hcs.mono λ_ _ hh=>hh.mono (λp hp=>List.mem_append_right _ hp) (by simp)) _
    obtain⟨xs',d2,u2,cells',hfill,hall',hfz,hlen,hr⟩:=ih (cells:=(a.eval x).cells.zipIdx.foldl (λcs (p:Value×Nat)=>cs.setIfInBounds (i*ty.size+p.2) p.1) cells) (by rw[hst];exact hall2) (hu.append hu') hr
    refine⟨xs',d2,u2,cells', ?_,hall',hfz,by rw[hlen,xv],hr⟩
    simp only[List.map_cons,Instr.fill]
    have hno:¬((a.eval x).cells.size≠ty.size||decide (i*ty.size+(a.eval x).cells.size>cells.size))=true:=by
     simp[hsz];omega
    rw[if_neg hno]
    exact hfill
   ·exact hr.fail.elim
theorem CD (hte:fQ te P=true)(h:SimX w0 mo n I0 I M s a w){t len:Nat}{parts:Array (Nat×Operand)}(ho:o.op= .buildSlice t len parts)(hr:aU C s (dJ te base (.buildSlice t len parts)) e)
  (hid:∀id∈(au base e.new).map (·.1),s.obj id=none):ga w0 mo n I0 s a base e ((execOp a.eval o).run P w):=by
 simp only[dJ]at hr
 split at hr
 ·rename_i ty by_ hl
  obtain⟨el,i,ie,z,hu,hi,hs,hz,hie,hes,heb,hb0,hez,hez0,hu8,hi32,hd⟩:=iM hte hl
  split at hr
  ·rename_i x hdo hparts0
   obtain⟨dv,hd,hr⟩:=eV h hr
   cases dv with
   |tup _=>exact hr.fail.elim
   |v ag ds=>
    obtain⟨hg,hr2⟩:=hr.guard
    cases hr2.ret
    simp only[Bool.and_eq_true]at hg
    have hlen:=Nat.eq_of_beq_eq_true hg.1
    have hv:=lM hd hg.2
    have hsz:(a.eval x).cells.size=ty.size:=by
     have:=hv.length
     rw[hlen]at this
     simpa using this.symm
    let cells0:Array Value:=(Array.range (1*ty.size)).map (λi=>z.cells[i%z.cells.size]!)
    have hc0:cells0.size=ty.size:=by simp[cells0]
    obtain⟨cells',hfill,hcs⟩:∃cells',Instr.fill (λi=>some (i*ty.size,ty.size)) cells0 [(0,a.eval x)]=some cells'∧cells'=(a.eval x).cells:=by
     have hst:=yq (a.eval x).cells cells0 (0*ty.size) (by omega)
     refine⟨(a.eval x).cells.zipIdx.foldl (λcs (p:Value×Nat)=>cs.setIfInBounds (0*ty.size+p.2) p.1) cells0, ?_, ?_⟩
     ·simp only[Instr.fill]
      have hno:¬((a.eval x).cells.size≠ty.size||decide (0*ty.size+(a.eval x).cells.size>cells0.size))=true:=by
       simp[hsz];omega
      rw[if_neg hno]
     ·apply Array.ext'
      rw[hst]
      have hl:(a.eval x).cells.toList.length=cells0.toList.length:=by simp[hsz,hc0]
      simp[splice,←hl]
    subst hcs
    have hpos:=ty.size_pos
    have hrun:(execOp a.eval o).run P w= .ok (.value (.slice (some ⟨w.heap.size,0,none⟩) 1 1)) (w.alloc (.cells (a.eval x).cells el)):=by
     have hparts:(parts.map λ(i,x)=>(i,a.eval x)).toList=[(0,a.eval x)]:=by simp[hparts0]
     have hsm:ty.size≤16777216:=by cases ty<;>decide
     have hno:¬(1*ty.size>2 ^ 24):=by omega
     have hk0:¬1*ty.size=0:=by omega
     simp only[execOp,ho,Instr.buildSlice]
     simp only[Sem.run_bind,run_underlying hu,Result.andThen_ok,sizeOf,typeInfo,run_program,hie,hes,Sem.run_pure,if_neg hno,if_neg hk0,zeroValue,hez,Sem.run_ite]
     have:((Array.range (1*ty.size)).map (λi=>z.cells[i%z.cells.size]!))=cells0:=rfl
     rw[this,hparts,hfill]
     simp[newRow]
    rw[hrun]
    exact OI h (hid base (by simp[au])) hv
  ·rename_i hdo hparts0
   cases hr.ret
   have hrun:(execOp a.eval o).run P w= .ok (.value (.slice (some ⟨w.heap.size,0,none⟩) 0 0)) (w.alloc (.cells #[] el)):=by
    have hparts:(parts.map λ(i,x)=>(i,a.eval x)).toList=[]:=by simp[hparts0]
    have hr0:Array.range 0= #[]:=rfl
    simp only[execOp,ho,Instr.buildSlice]
    simp[run_underlying hu,sizeOf,typeInfo,hie,hes,hr0,hparts0,Instr.fill,newRow]
   have hb:=hid base (by simp[au])
   have hlt:w.heap.size<(w.alloc (.cells #[] el)).heap.size:=by simp
   obtain⟨hext,hs'⟩:=h.dput (id:=base) (t':=ty) (xs':=[]) (ver':=0) (iv':=0) (m:=some (w.heap.size,0)) (n':=λ_ _=>none) (w':=w.alloc (.cells #[] el)) (by rw[hb];trivial) (λb hb _=>df w _ hb) (Nat.le_of_lt hlt) rfl rfl rfl
    (by intro b c hm;cases hm;exact .inl (vD h hlt)) (by intro i j b c hm;cases hm) (by intro i j i' j' b c c' hm;cases hm) (by intro i j b c c' hm;cases hm) (by
    intro hext
    refine .inr ⟨w.heap.size,0,by simp only[aE,if_pos],hlt,λhI=>Nat.lt_irrefl _ (h.ilt _ hI),by simp,by simp,λj hj=>⟨?_,tu w #[] el j⟩,λi x j c hxi hcj=>by simp at hxi⟩
    simp at hj)
   refine⟨_,_,I,_,_,.inl hrun,hs',ay ⟨rfl,.dar ty [] 0 0,by simp only[af,if_pos],Nat.le_refl _,λ_=> ?_⟩,λi=> ?_⟩
   ·simp only[aE,if_pos,aM,List.length_nil]
   ·simp only[List.nil_append,au];exact aR _ _ _ _
  rename_i len _ _ _ _ _
  obtain⟨hg,hr⟩:=hr.guard
  have hsm:=Nat.le_of_ble_eq_true hg
  let cells0:Array Value:=(Array.range (len*ty.size)).map (λi=>z.cells[i%z.cells.size]!)
  have hzall:ar (kb (ax w0 I0 I M s w) [] true) (flat ty (List.replicate len ty.zero)) cells0.toList:=by
   have:=xz (J:=λ_=>True) (w:=w) hez0 len
   have h2:∀x':Cx,ar (RepC (x'.J (pX true)) w) (flat ty (List.replicate len ty.zero)) cells0.toList:=λx'=>xz hez0 len
   refine ar.of (len*ty.size) (by simp[lV]) (by simp[cells0]) λk c v hc hv=> ?_
   intro x' hext hw hb
   obtain⟨u,hu',hru⟩:=(h2 x').at hc
   rw[hv]at hu';cases hu'
   simp only[]at hw
   rw[hw]
   exact hru
  obtain⟨xs,d,u,cells',hfill,hall,hfz,hlen,hr⟩:=CK h hzall (by simp[cW]) hr
  cases hr.ret
  obtain⟨I',hb,hext,hs'⟩:=uk h hfz
  have hrep:=kb.get hall hext rfl hb
  have hlen':xs.length=len:=by rw[hlen];simp
  have hcsz:cells'.size=len*ty.size:=by
   have:=hall.length
   rw[lV,hlen']at this
   simpa using this.symm
  have hidb:bx s.obj u base=none:=by
   have h1:=hid base (by simp[au])
   unfold bx
   cases hlk:ac u base with
   |none=>exact h1
   |some ob=>
    exfalso
    have:∃q∈u,q.1=base:=by
     have:=cY hlk
     obtain⟨q,hq,h2⟩:=List.mem_map.1 this
     exact⟨q,hq,h2⟩
    obtain⟨q,hq,hqb⟩:=this
    obtain⟨t',xs',ver',d',_,h3⟩:=hfz q hq
    rw[hqb]at h3;exact h3.live h1
  have hrun:(execOp a.eval o).run P w= .ok (.value (.slice (some ⟨w.heap.size,0,none⟩) xs.length len)) (w.alloc (.cells cells' el)):=by
   have hparts:(parts.map λ(i,x)=>(i,a.eval x)).toList=parts.toList.map λp=>(p.1,a.eval p.2):=by simp
   have hno:¬(len*ty.size>2 ^ 24):=by omega
   rw[hlen']
   simp only[execOp,ho,Instr.buildSlice]
   by_cases hk0:len*ty.size=0
   ·have hr0:Array.range 0= #[]:=rfl
    have hc0:cells0= #[]:=by
     simp only[cells0];rw[hk0,hr0];simp
    rw[hc0]at hfill
    simp[run_underlying hu,sizeOf,typeInfo,hie,hes,hk0,hr0,hfill,newRow]
   ·simp only[Sem.run_bind,run_underlying hu,Result.andThen_ok,sizeOf,typeInfo,run_program,hie,hes,Sem.run_pure,if_neg hno,if_neg hk0,zeroValue,hez,Sem.run_ite]
    have:((Array.range (len*ty.size)).map (λi=>z.cells[i%z.cells.size]!))=cells0:=rfl
    rw[this,hparts,hfill]
    simp[newRow]
  obtain⟨M',hsim,hval⟩:=K0 hs' (base:=base) hidb (d:=d) (xs:=xs) (vs:=cells') (t:=el) (cap:=len) (fr:=(0,0)) (sP w _) (λb hb=>df w _ hb) rfl rfl rfl (by rw[hcsz]) (by omega) (by
   have:=ty.size_pos
   have h1:len*1≤len*ty.size:=Nat.mul_le_mul_left _ this
   unfold aD;omega) (.inl (Nat.le_refl _)) (λi x j c hx hc=>by
   obtain⟨v,hv,hrv⟩:=hrep.at (uj ty hx hc)
   exact⟨v,by rw[←Array.getElem?_toList];exact hv,hrv⟩)
  refine⟨_,_,I',M',_,.inl hrun,hsim,hval,λi=> ?_⟩
  rw[aR]
  simp only[au,bZ]
  cases hb1:ac [(base,Ob.arr ty xs 0 false d)] i with
  |none=>simp only[bx];cases ac u i<;>rfl
  |some ob=>
   rw[iV]at hb1
   split at hb1
   ·rename_i hib
    subst hib
    have:ac u i=none:=by
     unfold bx at hidb
     cases hlk:ac u i with
     |none=>rfl
     |some _=>rw[hlk]at hidb;cases hidb
    rw[this]
   ·cases hb1
 ·exact hr.fail.elim
end
end Go.Proofs.YtffjmkhjhchnmaaGreat
