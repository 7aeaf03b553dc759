/- Each operation that the executor runs is what the model runs: operations that only read, and those that make or write memory of the call's own. -/
import Derived.Test.YtffjmkhjhchnmaaGreatTe
set_option linter.unusedVariables false
set_option linter.unusedSimpArgs false
namespace Go.Proofs.YtffjmkhjhchnmaaGreat
open Go Go.RowKit
def aU {α:Type}(C:Nat→List PV→List MO→cS→List MO→Prop)(s:FSt)(r:Rd α)(e:α):Prop:=∃tr ir,Rel C s r tr ir e
section
variable {α:Type} {C:Nat→List PV→List MO→cS→List MO→Prop} {s:FSt} {e:α}
theorem aU.ret {a:α}(h:aU C s (.ret a) e):e=a:=by obtain⟨_,_,h⟩:=h;cases h;rfl
theorem aU.fail (h:aU C s (.fail:Rd α) e):False:=by obtain⟨_,_,h⟩:=h;cases h
theorem aU.tmp {t:Nat}{k:DV→Rd α}(h:aU C s (.tmp t k) e):aU C s (k (s.tmp t)) e:=by obtain⟨_,_,h⟩:=h;cases h with|tmp h=>exact⟨_,_,h⟩
theorem aU.get {id:Nat}{k:Ob→Rd α}(h:aU C s (.get id k) e):∃o,s.obj id=some o∧aU C s (k o) e:=by obtain⟨_,_,h⟩:=h;cases h with|get ho h=>exact⟨_,ho,_,_,h⟩
theorem aU.guard {b:Bool}{k:Rd α}(h:aU C s (.guard b k) e):b=true∧aU C s k e:=by obtain⟨_,_,h⟩:=h;cases h with|guard hb h=>exact⟨hb,_,_,h⟩
theorem aU.call {f:Nat}{A:List PV}{O:List MO}{k:cS→List MO→Rd α}(h:aU C s (.call f A O k) e):∃R O',C f A O R O'∧aU C s (k R O') e:=by obtain⟨_,_,h⟩:=h;cases h with|call hc h=>exact⟨_,_,hc,_,_,h⟩
end
section
variable {α:Type} {C:Nat→List PV→List MO→cS→List MO→Prop} {w0:World} {mo:gj} {n:Nat} {I0 I:Nat→Prop} {M:MF} {s:FSt} {a:Act} {w:World}
theorem ay {x:Cx}{c:DC}{v:Value}(h:aA x c v):hU x (one c) v:=⟨c,rfl,h⟩
theorem eV (h:SimX w0 mo n I0 I M s a w){x:Operand}{k:DV→Rd α}{e:α}(hr:aU C s (Ix x k) e):∃d,hU (ax w0 I0 I M s w) d (a.eval x)∧aU C s (k d) e:=by
 cases x with
 |tmp t=>exact⟨_,h.tmps t,hr.tmp⟩
 |global g=>exact hr.fail.elim
 |func f=>exact⟨one (.fn f []),ay ⟨#[],rfl,trivial⟩,hr⟩
 |const v=>
  cases v with
  |bool b=>exact⟨one (.bool b),ay (c:= .bool b) rfl,hr⟩
  |int kk m=>
   obtain⟨hg,hr⟩:=hr.guard
   simp only[Bool.and_eq_true,decide_eq_true_eq]at hg
   exact⟨one (.int kk m),ay ⟨rfl,hg⟩,hr⟩
  |string b=>
   obtain⟨hg,hr⟩:=hr.guard
   exact⟨one (.str b.data.toList),ay ⟨b,rfl,rfl,Nat.le_of_ble_eq_true hg⟩,hr⟩
  |slice p l c=>
   cases p with
   |some p=>exact hr.fail.elim
   |none=>
    cases l with
    |succ l=>exact hr.fail.elim
    |zero=>
     cases c with
     |succ c=>exact hr.fail.elim
     |zero=>exact⟨one .nil,ay (c:= .nil) rfl,hr⟩
  |pointer p=>
   cases p with
   |some _=>exact hr.fail.elim
   |none=>exact⟨cA,⟨.undef,rfl,trivial⟩,hr⟩
  |_=>exact hr.fail.elim
theorem bR (h:SimX w0 mo n I0 I M s a w){x:Operand}{k:DC→Rd α}{e:α}(hr:aU C s (mh x k) e):∃c,aA (ax w0 I0 I M s w) c (a.eval x)∧aU C s (k c) e:=by
 obtain⟨d,hd,hr⟩:=eV h hr
 split at hr
 ·obtain⟨c,hc,hv⟩:=hd
  cases hc
  exact⟨_,hv,hr⟩
 ·exact hr.fail.elim
theorem cg (h:SimX w0 mo n I0 I M s a w){x:Operand}{k:IntKind→Int→Rd α}{e:α}(hr:aU C s (n4 x k) e):∃kk m,a.eval x= .int kk m∧Ag kk m∧aU C s (k kk m) e:=by
 obtain⟨c,hc,hr⟩:=bR h hr
 split at hr
 ·exact⟨_,_,hc.1,hc.2,hr⟩
 ·exact hr.fail.elim
theorem N9 (h:SimX w0 mo n I0 I M s a w){x:Operand}{k:Bool→Rd α}{e:α}(hr:aU C s (QX x k) e):∃b,a.eval x= .bool b∧aU C s (k b) e:=by
 obtain⟨c,hc,hr⟩:=bR h hr
 split at hr
 ·exact⟨_,hc,hr⟩
 ·exact hr.fail.elim
theorem iV {β:Type}(id i:Nat)(o:β):ac [(id,o)] i=if i=id then some o else none:=by
 simp only[ac]
 by_cases e:i=id
 ·subst e;simp
 ·have:Nat.beq id i=false:=by
   cases hbq:Nat.beq id i with
   |false=>rfl
   |true=>exact absurd (Nat.eq_of_beq_eq_true hbq).symm e
  rw[this,if_neg e]
theorem aR (obj:Nat→Option Ob)(id i:Nat)(o:Ob):af obj id o i=(match ac [(id,o)] i with|some o=>some o|none=>obj i):=by
 rw[iV]
 unfold af
 split<;>rfl
def ga (w0:World)(mo:gj)(n:Nat)(I0:Nat→Prop)(s:FSt)(a:Act)(base:Nat)(e:Eff)(run:Result Next):Prop:=
 ∃v w' I' M' obj',(run= .ok (.value v) w'∨(run= .ok .skip w'∧v=undef))∧SimX w0 mo n I0 I' M' ⟨s.tmp,obj'⟩ a w'∧hU ⟨w0.heap.size,I0,I',M',obj',w'⟩ e.val v∧
  ∀id,obj' id=(match ac (e.upd++au base e.new) id with|some o=>some o|none=>s.obj id)
theorem ga.wp {P:Program}{base:Nat}{e:Eff}{o:Oper}(h:ga w0 mo n I0 s a base e ((execOp a.eval o).run P w))(hd:∀d,o.dst=some d→d<n){K:Act→World→Prop}{Q:Exit→Act→World→Prop}
  (hK:∀a' w',ui w0 mo n I0 (s.wr o.dst e.val (e.upd++au base e.new)) a' w'→K a' w'):o.wp P a w K Q:=by
 obtain⟨v,w',I',M',obj',hrun,hs,hv,hobj⟩:=h
 have hfin:K (a.put o.dst v) w':=by
  refine hK _ _ ⟨I',M', ?_⟩
  have:=hs.put (dst:=o.dst) hd hv
  have e1:(FSt.mk s.tmp obj').wr o.dst e.val []=s.wr o.dst e.val (e.upd++au base e.new):=by
   simp only[FSt.wr,FSt.mk.injEq,true_and]
   funext id
   simp only[ac]
   exact hobj id
  rw[e1]at this
  exact this
 unfold Oper.wp
 rcases hrun with hrun|⟨hrun,rfl⟩<;>rw[hrun]<;>exact hfin
theorem ga.quiet {base:Nat}{d:DV}{v:Value}{run:Result Next}(h:SimX w0 mo n I0 I M s a w)(hrun:run= .ok (.value v) w)(hv:hU (ax w0 I0 I M s w) d v):ga w0 mo n I0 s a base ⟨d,[],[]⟩ run:=
 ⟨v,w,I,M,s.obj,.inl hrun,h,hv,λ_=>rfl⟩
theorem aA.one1 {x:Cx}{c:DC}{v:Value}(h:aA x c v)(hc:c.ok=true):v.oneCell'=true:=by
 cases c with
 |bool b=>cases h;rfl
 |int k m=>rw[h.1];rfl
 |str b=>obtain⟨_,rfl,_⟩:=h;rfl
 |raw b=>obtain⟨rfl,_,_,_,rfl⟩:=h;rfl
 |sl p t xs=>exact RepC.one h
 |nil=>cases h;rfl
 |own id ver=>obtain⟨_,_,_,_,_,_,_,_,h⟩:=h;exact h
 |ptr id off=>obtain⟨_,_,_,_,rfl⟩:=h;rfl
 |eptr id ver i off=>obtain⟨_,_,_,_,_,_,_,_,h⟩:=h;exact h
 |vw id ver lo hi=>obtain⟨_,_,_,_,_,_,_,_,h⟩:=h;exact h
 |ref p cs=>obtain⟨_,_,rfl,_⟩:=h;rfl
 |fn f caps=>obtain⟨_,rfl,_⟩:=h;rfl
 |slx t xs=>exact RepC.one h.1
 |down id ver=>exact h.1
 |dptr id ver i off=>exact h.1
 |inn id iv i off=>exact h.1
 |iptr id iv i off m p=>exact h.1
 |bsl id=>obtain⟨_,_,_,_,rfl⟩:=h;rfl
 |undef=>cases hc
 |skipped=>cases hc
theorem RepC.toD {x:Cx}{p:Pv}{c:Cell}{v:Value}(h:RepC (x.J p) x.w c v):aA x (c.toD p) v:=by
 cases h with
 |bool b=>rfl
 |int k m h=>exact⟨rfl,h⟩
 |str b hl=>exact⟨b,rfl,rfl,hl⟩
 |raw b hl=>exact⟨rfl,hl⟩
 |nil t=>exact .nil t
 |emp t a cap=>exact .emp t a cap
 |sl t xs b off cap vs h1 h2 h3 h4 h5=>exact .sl t xs b off cap vs h1 h2 h3 h4 h5
theorem wm (id iv i:Nat):∀(cs:List Cell) (j0:Nat),(lK id iv i j0 cs).length=cs.length
 |[],_=>rfl
 |_::cs,j0=>by simp only[lK,List.length_cons,wm id iv i cs (j0+1)]
theorem yx (id iv i:Nat):∀{cs:List Cell} {j0 j:Nat} {d:DC},(lK id iv i j0 cs)[j]? =some d→∃c,cs[j]? =some c∧d=(match c with| .sl _ _=> .inn id iv i (j0+j)|c=>c.toD .any)
 |[],_,_,_,h=>by simp[lK]at h
 |c::cs,j0,j,d,h=>by
  cases j with
  |zero=>simp only[lK,List.getElem?_cons_zero,Option.some.injEq]at h;exact⟨c,rfl,h.symm⟩
  |succ j=>
   simp only[lK,List.getElem?_cons_succ]at h
   obtain⟨c',h1,h2⟩:=yx id iv i h
   exact⟨c',by simpa using h1,by rw[h2,Nat.add_assoc,Nat.add_comm 1 j]⟩
theorem d9.one {n:Nat→Nat→Option (Nat×Nat)}{w:World}{i j:Nat}{c:Cell}{u:Value}(h:d9 n w i j c u):u.oneCell'=true:=
 RepC.one (h.rep (J:=λ_=>True) λ_ _ _=>trivial)
theorem yK (h:SimX w0 mo n I0 I M s a w){p:DC}{v:Value}(hp:aA (ax w0 I0 I M s w) p v){m:Nat}{k:List DC→Rd α}{e:α}(hr:aU C s (Ga p m k) e):
  ∃cs b off,v= .pointer (some ⟨b,off,none⟩)∧cs.length=m∧(∀j c,cs[j]? =some c→∃u,w.cell? ⟨b,off+j,none⟩=some u∧aA (ax w0 I0 I M s w) c u∧u.oneCell'=true)∧aU C s (k cs) e:=by
 cases p with
 |ptr id off=>
  obtain⟨o,ho,hr⟩:=hr.get
  obtain⟨cs0,b,hb,hM,hv⟩:=hp
  simp only[]at hb hM
  rw[hb]at ho;cases ho
  obtain⟨hg,hr⟩:=hr.guard
  have hle:=Nat.le_of_ble_eq_true hg
  obtain⟨b',hM',_,_,_,hc,_⟩:=h.objs id _ hb
  simp only[]at hM'
  rw[hM]at hM';cases hM'
  refine⟨_,b,off,hv,by simp;omega,λj c hj=> ?_,hr⟩
  have hjm:j<m:=by
   rcases Nat.lt_or_ge j m with h|h
   ·exact h
   ·rw[List.getElem?_eq_none (by simp;omega)]at hj;cases hj
  rw[List.getElem?_take_of_lt hjm,List.getElem?_drop]at hj
  exact hc _ _ hj
 |eptr id ver i off=>
  obtain⟨o,ho,hr⟩:=hr.get
  obtain⟨t,xs,v1,f,d,hb,hv1,hval,_⟩:=hp
  simp only[]at hb hval
  rw[hb]at ho;cases ho
  obtain⟨hg,hr⟩:=hr.guard
  simp only[Bool.and_eq_true]at hg
  have hle:=Nat.le_of_ble_eq_true hg.2
  obtain⟨b,cap,hM,hi,hv⟩:=hval (Nat.eq_of_beq_eq_true hg.1)
  refine⟨_,b,i*t.size+off,hv,by simp[Ty.cells_length];omega,λj c hj=> ?_,hr⟩
  have hjm:j<m:=by
   rcases Nat.lt_or_ge j m with h|h
   ·exact h
   ·rw[List.getElem?_eq_none (by simp;omega)]at hj;cases hj
  rw[List.getElem?_take_of_lt hjm,List.getElem?_drop,List.getElem?_map]at hj
  rcases h.objs id _ hb with⟨h1,_⟩|⟨b',cap',hM',_,_,_,_,_,_,he⟩
  ·simp only[]at h1;rw[hM]at h1;cases h1
  ·simp only[]at hM'
   rw[hM]at hM';cases hM'
   have hx:xs[i]? =some (xs.getD i t.zero):=by simp[List.getD,List.getElem?_eq_getElem hi]
   cases hcj:(t.cells (xs.getD i t.zero))[off+j]? with
   |none=>rw[hcj]at hj;cases hj
   |some c0=>
    rw[hcj]at hj
    simp only[Option.map_some,Option.some.injEq]at hj
    subst hj
    obtain⟨u,hu,hru⟩:=he i _ _ _ hx hcj
    refine⟨u,by rw[←hu,Nat.add_assoc], ?_,hru.one⟩
    cases d
    ·exact RepC.toD (p:= .any) hru
    ·exact RepC.toD (p:= .new) hru
 |vw _ _ _ _=>exact hr.fail.elim
 |down _ _=>exact hr.fail.elim
 |inn _ _ _ _=>exact hr.fail.elim
 |iptr _ _ _ _ _ _=>exact hr.fail.elim
 |bsl _=>exact hr.fail.elim
 |dptr id ver i off=>
  obtain⟨ob,hob,hr⟩:=hr.get
  cases ob with
  |box _=>exact hr.fail.elim
  |arr _ _ _ _ _=>exact hr.fail.elim
  |dar t xs ver' iv=>
   obtain⟨hg,hr⟩:=hr.guard
   simp only[Bool.and_eq_true]at hg
   have hle:=Nat.le_of_ble_eq_true hg.2
   obtain⟨_,o,ho,hd⟩:=hp
   simp only[]at ho
   rw[hob]at ho;cases ho
   obtain⟨b,cap,hM,hi,hv⟩:=hd.2 (Nat.eq_of_beq_eq_true hg.1)
   refine⟨_,b,i*t.size+off,hv,by simp[wm,Ty.cells_length];omega,λj c hj=> ?_,hr⟩
   have hjm:j<m:=by
    rcases Nat.lt_or_ge j m with h|h
    ·exact h
    ·rw[List.getElem?_eq_none (by simp;omega)]at hj;cases hj
   rw[List.getElem?_take_of_lt hjm,List.getElem?_drop]at hj
   obtain⟨c0,hc0,hd⟩:=yx _ _ _ hj
   rcases h.objs id _ hob with⟨h1,_⟩|⟨b',cap',hM',_,_,_,_,_,he⟩
   ·simp only[]at h1;rw[hM]at h1;cases h1
   ·simp only[]at hM'
    rw[hM]at hM';cases hM'
    have hx:xs[i]? =some (xs.getD i t.zero):=by simp[List.getD,List.getElem?_eq_getElem hi]
    obtain⟨u,hu,hru⟩:=he i _ _ _ hx hc0
    refine⟨u,by rw[←hu,Nat.add_assoc], ?_,hru.one⟩
    simp only[Nat.zero_add]at hd
    rw[hd]
    cases c0 with
    |sl t' ys=>exact⟨hru.one,_,hob,Nat.le_refl _,λ_=>⟨_,t',ys,hx,hc0,hru.1⟩⟩
    |bool b=>exact RepC.toD (p:= .any) (RepC.mono hru (λ_ _=>rfl) λ_ h=>h.elim)
    |int k m=>exact RepC.toD (p:= .any) (RepC.mono hru (λ_ _=>rfl) λ_ h=>h.elim)
    |str s=>exact RepC.toD (p:= .any) (RepC.mono hru (λ_ _=>rfl) λ_ h=>h.elim)
    |raw s=>exact RepC.toD (p:= .any) (RepC.mono hru (λ_ _=>rfl) λ_ h=>h.elim)
 |ref p cs=>
  obtain⟨hg,hr⟩:=hr.guard
  have hle:=Nat.le_of_ble_eq_true hg
  obtain⟨b,off,hv,hJ,hc⟩:=hp
  refine⟨_,b,off,hv,by simp;omega,λj c hj=> ?_,hr⟩
  have hjm:j<m:=by
   rcases Nat.lt_or_ge j m with h|h
   ·exact h
   ·rw[List.getElem?_eq_none (by simp;omega)]at hj;cases hj
  rw[List.getElem?_take_of_lt hjm,List.getElem?_map]at hj
  cases hcj:cs[j]? with
  |none=>rw[hcj]at hj;cases hj
  |some c0=>
   rw[hcj]at hj
   simp only[Option.map_some,Option.some.injEq]at hj
   subst hj
   obtain⟨u,hu,hru⟩:=hc _ _ hcj
   exact⟨u,hu,hru.toD,hru.one⟩
 |bool _=>exact hr.fail.elim
 |int _ _=>exact hr.fail.elim
 |str _=>exact hr.fail.elim
 |raw _=>exact hr.fail.elim
 |sl _ _ _=>exact hr.fail.elim
 |nil=>exact hr.fail.elim
 |own _ _=>exact hr.fail.elim
 |fn _ _=>exact hr.fail.elim
 |slx _ _=>exact hr.fail.elim
 |undef=>exact hr.fail.elim
 |skipped=>exact hr.fail.elim
theorem H7 {te:TE}{P:Program}(hte:fQ te P=true){t:Nat}{ti:TI}(hl:ac te t=some ti)(hp:1≤ti.fl.length){x:Cx}{cs:List DC}{b off:Nat}(hlen:cs.length=ti.fl.length)
  (hc:∀j c,cs[j]? =some c→∃u,x.w.cell? ⟨b,off+j,none⟩=some u∧aA x c u∧u.oneCell'=true):
  ∃v,(loadVar t ⟨b,off,none⟩).run P x.w= .ok v x.w∧hU x (.v ti.agg cs) v:=by
 obtain⟨i,z,hi,hs,hz,hz0,hsz,hagg,hz1,hone⟩:=sK hte hl hp
 let us:List Value:=(List.range cs.length).map λj=>(x.w.cell? ⟨b,off+j,none⟩).getD undef
 have hus:∀j,j<cs.length→x.w.cell? ⟨b,off+j,none⟩=some (us.getD j undef):=by
  intro j hj
  obtain⟨u,hu,_⟩:=hc j cs[j] (by simp[hj])
  simp[us,List.getD,hj,hu]
 have hall:ar (λc u=>aA x c u∧u.oneCell'=true) cs us:=by
  refine ar.of cs.length rfl (by simp[us]) λj c u hj hu=> ?_
  obtain⟨u',hu',hr⟩:=hc j c hj
  have hjl:j<cs.length:=by
   rcases Nat.lt_or_ge j cs.length with h|h
   ·exact h
   ·rw[List.getElem?_eq_none h]at hj;cases hj
  have h1:=hus j hjl
  rw[hu']at h1
  simp only[List.getD,hu,Option.getD_some,Option.some.injEq]at h1
  rw[←h1];exact hr
 cases ha:ti.agg with
 |true=>
  refine⟨.agg us.toArray, ?_,us.toArray,rfl,by simpa using hall⟩
  have hld:=run_loadCells_list (P:=P) x.w ⟨b,off,none⟩ us (λj v hv=>by
   rw[Addr.add_lit]
   have hjl:j<cs.length:=by
    rcases Nat.lt_or_ge j us.length with h|h
    ·simpa [us]using h
    ·rw[List.getElem?_eq_none h]at hv;cases hv
   rw[hus j hjl]
   simp[List.getD,hv])
  have hul:us.length=ti.fl.length:=by simp[us,hlen]
  simp[loadVar,hagg,ha,hsz,←hul,hld]
 |false=>
  have h1:=hone ha
  obtain⟨c,rfl⟩:∃c,cs=[c]:=by
   cases cs with
   |nil=>simp at hlen;omega
   |cons c cs=>cases cs with
    |nil=>exact⟨c,rfl⟩
    |cons _ _=>simp at hlen;omega
  obtain⟨u,hu,hr,_⟩:=hc 0 c rfl
  refine⟨u, ?_,c,rfl,hr⟩
  simp only[Nat.add_zero]at hu
  simp[loadVar,hagg,ha,hu]
end
end Go.Proofs.YtffjmkhjhchnmaaGreat
