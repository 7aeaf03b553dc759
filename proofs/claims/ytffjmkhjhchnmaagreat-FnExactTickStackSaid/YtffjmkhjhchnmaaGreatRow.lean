/- Rows: what is handed in stands for plain data; a contract at all plain data gives the row. -/
import Derived.Test.YtffjmkhjhchnmaaGreatFn
import Derived.ProofKit
import Derived.OpenShut
set_option linter.unusedVariables false
set_option linter.unusedSimpArgs false
namespace Go.Proofs.YtffjmkhjhchnmaaGreat
open Go Go.RowKit
def I6 (te:TE):List (Nat×Nat)→Nat→List Fl→Bool
 |[],_,[]=>true
 |(off,ft)::r,k,fs=>Nat.beq off k&&(match ac te ft with
  |some tf=>decide (fs.take tf.fl.length=tf.fl)&&Nat.ble 1 tf.fl.length&&I6 te r (k+tf.fl.length) (fs.drop tf.fl.length)
  |none=>false)
 |_,_,_=>false
def HJ (te:TE)(P:Program)(t:Nat):TI→Bool
 | .sl ty _=>(match P.underlying t with|some (.slice e)=>(match ac te e with|some tie=>decide (tie.fl=ty.fl)|none=>false)|_=>false)
 | .st ty fields=>I6 te fields 0 ty.fl
 | .sc .raw=>false
 |_=>true
def Ju (te:TE)(P:Program):Bool:=te.all λx=>HJ te P x.1 x.2
def QD (f:Fl)(c:Cell):Prop:=∃x:f.T,c=f.cell x
theorem wi:∀{fs:List Fl} {xs:List Cell},ar QD fs xs→∃h:HL fs,cM fs h=xs
 |[],[],_=>⟨(),rfl⟩
 |f::fs,x::xs,h=>by
  obtain⟨y,rfl⟩:=h.1
  obtain⟨h',rfl⟩:=wi h.2
  exact⟨(y,h'),rfl⟩
 |[],_::_,h=>h.elim
 |_::_,[],h=>h.elim
theorem EA {t:Ty}{xs:List Cell}(h:ar QD t.fl xs):∃x:t.T,t.cells x=xs:=by
 obtain⟨h',rfl⟩:=wi h
 exact⟨t.ofH h',by simp[Ty.cells,Ty.toH_ofH]⟩
theorem ul {α β:Type}{f:α→Option β}:∀{l:List α} {r:List β},l.mapM f=some r→ar (λa b=>f a=some b) l r
 |[],r,h=>by simp at h;subst h;trivial
 |a::l,r,h=>by
  rw[List.mapM_cons]at h
  cases ha:f a with
  |none=>rw[ha]at h;cases h
  |some b=>
   rw[ha]at h
   cases hl:l.mapM f with
   |none=>rw[hl]at h;cases h
   |some bs=>
    rw[hl]at h
    cases h
    exact⟨ha,ul hl⟩
theorem Cy {α:Type}{Q:Nat→α→Prop}:∀(n:Nat),(∀i,i<n→∃e,Q i e)→∃es:List α,es.length=n∧∀(i:Nat) (e:α),es[i]? =some e→Q i e
 |0,_=>⟨[],rfl,by simp⟩
 |n+1,h=>by
  obtain⟨es,hl,hq⟩:=Cy n λi hi=>h i (by omega)
  obtain⟨e,he⟩:=h n (by omega)
  refine⟨es++[e],by simp[hl],λi x hx=> ?_⟩
  rw[List.getElem?_append]at hx
  split at hx
  ·exact hq i x hx
  ·rename_i hge
   cases hk:i-es.length with
   |zero=>
    rw[hk]at hx
    simp at hx
    subst hx
    have:i=n:=by omega
    subst this;exact he
   |succ k=>rw[hk]at hx;simp at hx
theorem u5 {H:Type}{P:Program}{e:TypeId}:∀{ds:List (DataW H)} {b:Nat},(DataW.weightsAll P e ds).all (·≤b)=true→∀d∈ds,(d.weights P e).all (·≤b)=true
 |[],_,_,d,hd=>by cases hd
 |x::ds,b,h,d,hd=>by
  simp only[DataW.weightsAll,List.all_append,Bool.and_eq_true]at h
  rcases List.mem_cons.1 hd with rfl|hd
  ·exact h.1
  ·exact u5 h.2 d hd
section
variable {H:Type} {enc:TypeId×Value→H} {P:Program} {te:TE} {W:World}
abbrev QA (W:World):Nat→Prop:=λb=>b<W.heap.size
theorem yj (hfl:Ju te P=true){t:Nat}{ti:TI}(hl:ac te t=some ti):HJ te P t ti=true:=by
 unfold Ju at hfl
 rw[List.all_eq_true]at hfl
 have key:∀(l:List (Nat×TI)),ac l t=some ti→(t,ti)∈l:=by
  intro l
  induction l with
  |nil=>intro hx;simp[ac]at hx
  |cons x l ih=>
   intro hx
   obtain⟨j,b⟩:=x
   simp only[ac]at hx
   cases hj:Nat.beq j t with
   |true=>
    rw[hj]at hx
    have:=Nat.eq_of_beq_eq_true hj
    cases hx;subst this;simp
   |false=>rw[hj]at hx;exact List.mem_cons_of_mem _ (ih hx)
 exact hfl (t,ti) (key te hl)
theorem NM {base:Nat}{a:Addr}{m:Nat}{cs:List Value}(h:W.cells? base a m=some cs):cs.length=m∧∀(j:Nat) (u:Value),cs[j]? =some u→W.cell? (a.add j)=some u:=by
 unfold World.cells? at h
 split at h
 ·have:=ul h
  refine⟨by have:=this.length;simpa using this.symm,λj u hu=> ?_⟩
  have hj:j<m:=by
   have h1:=(List.getElem?_eq_some_iff.1 hu).1
   have h2:=this.length
   simp at h2
   omega
  obtain⟨u',hu',hc⟩:=this.at (show(List.range m)[j]? =some j by simp[hj])
  rw[hu]at hu';cases hu'
  exact hc
 ·cases h
theorem MT (hte:fQ te P=true)(hfl:Ju te P=true){sp:Nat→Bool}{held:Bool}:∀(fuel t:Nat) (ti:TI) (cs:List Value) (d:DataW H) (ps:List MemPlace),ac te t=some ti→1≤ti.fl.length→
  DataW.trod enc P W 0 sp held fuel t cs=some (d,ps)→(d.weights P t).all (·≤reachBytes)=true→∃xs,ar QD ti.fl xs∧ar (RepC (QA W) W) xs cs:=by
 intro fuel
 induction fuel with
 |zero=>intro t ti cs d ps _ _ h;simp[DataW.trod]at h
 |succ fuel ih=>
  intro t ti cs d ps hl hp h hwt
  cases ti with
  |ptr=>simp[TI.fl]at hp
  |wr _=>simp[TI.fl]at hp
  |sc f=>
   obtain⟨_,_,_,_,_,_,hu⟩:=oh hte hl
   cases f with
   |sl _=>exact hu.elim
   |raw=>have hflx:=yj hfl hl;simp[HJ]at hflx
   |int k=>
    simp only[]at hu
    rcases cs with _|⟨v,_|⟨_,_⟩⟩
    ·simp[DataW.trod,hu]at h
    ·cases v with
     |int k' n=>
      simp only[DataW.trod,hu]at h
      split at h
      ·rename_i hw
       obtain⟨rfl,hw⟩:=hw
       simp only[Lit.wf,Bool.and_eq_true,decide_eq_true_eq]at hw
       exact⟨[.int k' n],⟨⟨n,rfl⟩,trivial⟩,⟨.int k' n hw,trivial⟩⟩
      ·cases h
     |_=>simp[DataW.trod,hu]at h
    ·simp[DataW.trod,hu]at h
   |bool=>
    simp only[]at hu
    rcases cs with _|⟨v,_|⟨_,_⟩⟩
    ·simp[DataW.trod,hu]at h
    ·cases v with
     |bool b=>exact⟨[.bool b],⟨⟨b,rfl⟩,trivial⟩,⟨.bool b,trivial⟩⟩
     |_=>simp[DataW.trod,hu]at h
    ·simp[DataW.trod,hu]at h
   |str=>
    simp only[]at hu
    rcases cs with _|⟨v,_|⟨_,_⟩⟩
    ·simp[DataW.trod,hu]at h
    ·cases v with
     |string b=>
      simp only[DataW.trod,hu]at h
      split at h
      ·cases h
       simp only[DataW.weights,List.all_cons,List.all_nil,Bool.and_true,decide_eq_true_eq]at hwt
       exact⟨[.str b.data.toList],⟨⟨_,rfl⟩,trivial⟩,⟨.str b (Nat.le_trans hwt (by decide)),trivial⟩⟩
      ·cases h
     |_=>simp[DataW.trod,hu]at h
    ·simp[DataW.trod,hu]at h
  |sl ty by_=>
   obtain⟨e,i,ie,z,hu,hi,hs,hz,hie,hes,heb,hb0,hez,hez0,hu8,hi32,_⟩:=iM hte hl
   have hflx:=yj hfl hl
   simp only[HJ,hu]at hflx
   split at hflx
   ·rename_i tie htie
    have hfe:tie.fl=ty.fl:=of_decide_eq_true hflx
    have hce:P.cellsOf e=ty.size:=by simp[Program.cellsOf,hie,hes]
    have hbe:P.bytesOf e=by_:=by simp[Program.bytesOf,hie,heb]
    have hpos:=ty.size_pos
    have hshape:cs=[.slice none 0 0]∨∃a len cap,cs=[.slice (some a) len cap]:=by
     rcases cs with _|⟨v,_|⟨_,_⟩⟩
     ·simp[DataW.trod,hu]at h
     ·cases v with
      |slice p l c=>
       cases p with
       |some a=>exact .inr ⟨a,l,c,rfl⟩
       |none=>
        cases l with
        |succ l=>simp[DataW.trod,hu]at h
        |zero=>
         cases c with
         |succ c=>simp[DataW.trod,hu]at h
         |zero=>exact .inl rfl
      |_=>simp[DataW.trod,hu]at h
     ·simp[DataW.trod,hu]at h
    rcases hshape with rfl|⟨a,len,cap,rfl⟩
    ·exact⟨[.sl ty []],⟨⟨[],rfl⟩,trivial⟩,⟨.nil ty,trivial⟩⟩
    ·simp only[DataW.trod,hu]at h
     split at h
     ·rename_i hc
      obtain⟨hb,hlc,hcm⟩:=hc
      cases hel:(List.range len).mapM λi=>(W.cells? 0 (a.add (i*P.cellsOf e)) (P.cellsOf e)).bind (DataW.trod enc P W 0 sp held fuel e)with
      |none=>rw[hel]at h;cases h
      |some elems=>
       rw[hel]at h
       simp only[Option.bind_some]at h
       have hall:=ul hel
       have helen:elems.length=len:=by have:=hall.length;simpa using this.symm
       obtain⟨rest,hrest,hd⟩:=Option.map_eq_some_iff.1 h
       cases hd
       simp only[DataW.weights,hu,List.all_cons,Bool.and_eq_true,decide_eq_true_eq,List.length_map,hbe]at hwt
       obtain⟨hw1,hw2⟩:=hwt
       rw[List.all_append,Bool.and_eq_true]at hw2
       have hlen:len≤aD:=by
        have h1:len*1≤(elems.length+rest.length)*by_:=Nat.mul_le_mul (by omega) hb0
        have h2:reachBytes≤aD:=by decide
        omega
       have hone:∀k,k<len→∃x:ty.T,∀(j:Nat) (c:Cell),(ty.cells x)[j]? =some c→∃u,W.cell? ((a.add (k*ty.size)).add j)=some u∧RepC (QA W) W c u:=by
        intro k hk
        obtain⟨y,hy,hf⟩:=hall.at (show(List.range len)[k]? =some k by simp[hk])
        rw[hce]at hf
        obtain⟨cs,hcs,htr⟩:=Option.bind_eq_some_iff.1 hf
        obtain⟨hcl,hcc⟩:=NM hcs
        obtain⟨d',ps'⟩:=y
        have hwd:=u5 hw2.1 d' (List.mem_map.2 ⟨(d',ps'),List.mem_of_getElem? hy,rfl⟩)
        obtain⟨xs,hx1,hx2⟩:=ih e tie cs d' ps' htie (by rw[hfe];exact hpos) htr hwd
        rw[hfe]at hx1
        obtain⟨x,rfl⟩:=EA hx1
        refine⟨x,λj c hc=> ?_⟩
        obtain⟨u,hu,hr⟩:=hx2.at hc
        exact⟨u,hcc j u hu,hr⟩
       obtain⟨es,hesl,hesq⟩:=Cy len hone
       refine⟨[.sl ty es],⟨⟨es,rfl⟩,trivial⟩,⟨?_,trivial⟩⟩
       by_cases h0:len=0
       ·subst h0
        have:es=[]:=List.eq_nil_of_length_eq_zero hesl
        subst this
        exact .emp ty a cap
       ·have hfst:∃u,W.cell? a=some u:=by
         have hl0:0<es.length:=by omega
         have hx0:es[0]? =some (es[0]'hl0):=List.getElem?_eq_getElem hl0
         have hl1:0<(ty.cells (es[0]'hl0)).length:=by rw[Ty.cells_length];exact hpos
         have hc0:(ty.cells (es[0]'hl0))[0]? =some ((ty.cells (es[0]'hl0))[0]'hl1):=List.getElem?_eq_getElem hl1
         obtain⟨u,hu,_⟩:=hesq 0 _ hx0 0 _ hc0
         refine⟨u, ?_⟩
         rw[←hu]
         simp[Addr.add]
        obtain⟨u0,hu0⟩:=hfst
        obtain⟨b,off,spot⟩:=a
        have hspot:spot=none:=by
         cases spot with
         |none=>rfl
         |some k=>
          unfold World.cell? at hu0
          split at hu0<;>simp at hu0
        subst hspot
        have hblk:b<W.heap.size:=by
         unfold World.cell? at hu0
         split at hu0
         ·rename_i heq
          exact(Array.getElem?_eq_some_iff.1 heq).1
         ·cases hu0
        have hadd:∀k j,((⟨b,off,none⟩:Addr).add (k*ty.size)).add j=⟨b,off+k*ty.size+j,none⟩:=by
         intro k j
         rw[kx,kx]
        rw[←hesl]
        refine .sl ty es b off cap (λi j=>(W.cell? ⟨b,off+i*ty.size+j,none⟩).getD undef) (λ_=>hblk) (by omega) (by omega) (λi x j c hx hc=> ?_) (λi x j c hx hc=> ?_)
        ·obtain⟨u,hu,_⟩:=hesq i x hx j c hc
         rw[hadd]at hu
         rw[hu];rfl
        ·obtain⟨u,hu,hr⟩:=hesq i x hx j c hc
         rw[hadd]at hu
         rw[hu];exact hr
     ·cases h
   ·cases hflx
  |st ty fields=>
   obtain⟨fs,i,vs,hu,hi,hs,hz,hz0,hsame,hall,_,_⟩:=AM hte hl
   have hti:=yj hfl hl
   simp only[HJ]at hti
   have hct:P.cellsOf t=ty.size:=by simp[Program.cellsOf,hi,hs]
   simp only[DataW.trod,hu]at h
   split at h
   ·rename_i hcl
    obtain⟨xs,hxs,hd⟩:=Option.map_eq_some_iff.1 h
    cases hd
    have hx2:=ul hxs
    simp only[DataW.weights,hu]at hwt
    have key:∀(fl:List Field) (r:List (Nat×Nat)) (k:Nat) (fls:List Fl) (ys:List (DataW H×List MemPlace)),bQ fl r=true→I6 te r k fls=true→
      ar (λ(f:Field) y=>DataW.trod enc P W 0 sp held fuel f.type ((cs.drop f.offset).take (P.cellsOf f.type))=some y) fl ys→(DataW.weightsEach P (fl.map (·.type)) (ys.map (·.1))).all (·≤reachBytes)=true→
      cs.length=k+fls.length→∃zs,ar QD fls zs∧ar (RepC (QA W) W) zs (cs.drop k):=by
     intro fl
     induction fl with
     |nil=>
      intro r k fls ys hsf htl _ _ hlen
      cases r with
      |cons x r=>obtain⟨_,_⟩:=x;simp[bQ]at hsf
      |nil=>cases fls with
       |cons _ _=>simp[I6]at htl
       |nil=>exact⟨[],trivial,by rw[List.drop_eq_nil_of_le (by simp at hlen;omega)];trivial⟩
     |cons f fl ihf=>
      intro r k fls ys hsf htl hys hwt hlen
      cases r with
      |nil=>simp[bQ]at hsf
      |cons x r=>
       obtain⟨off,ft⟩:=x
       simp only[bQ,Bool.and_eq_true]at hsf
       obtain⟨⟨⟨h1,h2⟩,_⟩,h3⟩:=hsf
       have h1:=Nat.eq_of_beq_eq_true h1
       have h2:=Nat.eq_of_beq_eq_true h2
       simp only[I6,Bool.and_eq_true]at htl
       obtain⟨h4,h5⟩:=htl
       have h4:=Nat.eq_of_beq_eq_true h4
       split at h5
       ·rename_i tf htf
        simp only[Bool.and_eq_true,decide_eq_true_eq]at h5
        obtain⟨⟨h6,h7⟩,h8⟩:=h5
        have h7:=Nat.le_of_ble_eq_true h7
        cases ys with
        |nil=>exact hys.elim
        |cons y ys=>
         obtain⟨d,ps⟩:=y
         simp only[List.map_cons,DataW.weightsEach,List.all_append,Bool.and_eq_true]at hwt
         obtain⟨it,_,hit,hits,_⟩:=sK hte htf h7
         have hcf:P.cellsOf f.type=tf.fl.length:=by rw[h2];simp[Program.cellsOf,hit,hits]
         have hy:DataW.trod enc P W 0 sp held fuel f.type ((cs.drop f.offset).take (P.cellsOf f.type))=some (d,ps):=hys.1
         rw[hcf,h1,h4]at hy
         have hfl':tf.fl.length≤fls.length:=by
          have:=congrArg List.length h6
          simp at this;omega
         obtain⟨z1,hz1,hz2⟩:=ih f.type tf _ d ps (by rw[h2];exact htf) h7 hy hwt.1
         obtain⟨z2,hz3,hz4⟩:=ihf r (k+tf.fl.length) (fls.drop tf.fl.length) ys h3 h8 hys.2 hwt.2 (by simp;omega)
         refine⟨z1++z2, ?_, ?_⟩
         ·have:fls=tf.fl++fls.drop tf.fl.length:=by
           have h9:=(List.take_append_drop tf.fl.length fls).symm
           rw[h6]at h9
           exact h9
          rw[this]
          exact hz1.append hz3
         ·have:cs.drop k=(cs.drop k).take tf.fl.length++cs.drop (k+tf.fl.length):=by
           have:=(List.take_append_drop tf.fl.length (cs.drop k)).symm
           rw[List.drop_drop]at this
           exact this
          rw[this]
          exact hz2.append hz4
       ·cases h5
    have:=key fs.toList fields 0 ty.fl xs hsame hti hx2 hwt (by rw[hcl,hct,Nat.zero_add];rfl)
    rw[List.drop_zero]at this
    exact this
   ·cases h
end
end Go.Proofs.YtffjmkhjhchnmaaGreat
