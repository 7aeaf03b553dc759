/- The table of types is the program's: one closed fact, and what it gives. -/
import Derived.Test.YtffjmkhjhchnmaaGreatSim
import Derived.Laws.StructEq
set_option linter.unusedVariables false
set_option linter.unusedSimpArgs false
namespace Go.Proofs.YtffjmkhjhchnmaaGreat
open Go Go.RowKit
def pg:Fl→Value→Bool
 | .int k,.int k' n=>decide (k=k')&&n==0
 | .bool,.bool b=> !b
 | .str,.string s=>Nat.beq s.data.toList.length 0
 | .raw,.slice none 0 0=>true
 | .sl _,.slice none 0 0=>true
 |_,_=>false
def bX:List Fl→List Value→Bool
 |[],[]=>true
 |f::fs,v::vs=>pg f v&&bX fs vs
 |_,_=>false
def bQ:List Field→List (Nat×Nat)→Bool
 |[],[]=>true
 |f::fs,(o,t)::r=>Nat.beq f.offset o&&Nat.beq f.type t&&decide (f.name≠ "_")&&bQ fs r
 |_,_=>false
def Nc (te:TE)(P:Program)(t:TypeId)(ti:TI):Bool:=
 match P.underlying t,P.info? t with
 |some d,some i=>
  match ti with
  | .sc f=>Nat.beq i.size 1&&(match i.zero with|some v=>pg f v|none=>false)&&(match f,d with
   | .int k,.int k'=>decide (k=k')
   | .bool,.bool=>true
   | .str,.string=>true
   | .raw,.slice _=>true
   |_,_=>false)
  | .sl ty by_=>Nat.beq i.size 1&&(match i.zero with|some (.slice none 0 0)=>true|_=>false)&&(match d with
   | .slice e=>(match P.info? e with
    |some ie=>Nat.beq ie.size ty.size&&Nat.beq ie.bytes by_&&Nat.blt 0 by_&&(match ie.zero with|some v=>bX ty.fl v.cells.toList|none=>false)
    |none=>false)&&(match ty,P.underlying e with
     | .u8,some (.int .u8)=>true
     | .u8,_=>false
     |_,some (.int .u8)=>false
     |_,some (.int .i32)=>false
     |_,some _=>true
     |_,none=>false)
   |_=>false)
  | .st ty fields=>(match d with
   | .struct fs=>bQ fs.toList fields&&(fields.all λf=>match ac te f.2 with|some tf=>Nat.ble 1 tf.fl.length&&Nat.ble (f.1+tf.fl.length) ty.size|none=>false)
   |_=>false)&&Nat.beq i.size ty.size&&(match i.zero with|some (.agg vs)=>bX ty.fl vs.toList|_=>false)&& !P.eqGuardType P.depth t&& !P.stoodInHeld t
  | .ptr=>true
  | .wr _=>true
 |_,_=>false
def fQ (te:TE)(P:Program):Bool:=te.all λx=>match x.2 with| .wr _=>true|_=>Nc te P x.1 x.2
theorem x6 {te:TE}{P:Program}(h:fQ te P=true){t:Nat}{ti:TI}(hl:ac te t=some ti)(hne:∀ps,ti≠ .wr ps):Nc te P t ti=true:=by
 unfold fQ at h
 rw[List.all_eq_true]at h
 generalize he:te=te0 at h
 have key:∀(l:List (Nat×TI)),ac l t=some ti→(t,ti)∈l:=by
  intro l
  induction l with
  |nil=>intro hx;simp[ac]at hx
  |cons x l ih=>
   intro hx
   obtain⟨j,b⟩:=x
   simp only[ac]at hx
   cases hj:Nat.beq j t with
   |true=>
    rw[hj]at hx
    have:=Nat.eq_of_beq_eq_true hj
    cases hx;subst this;simp
   |false=>rw[hj]at hx;exact List.mem_cons_of_mem _ (ih hx)
 have:=h (t,ti) (by rw[←he];exact key te hl)
 cases ti with
 |wr ps=>exact absurd rfl (hne ps)
 |sc f=>simpa [he]using this
 |sl t b=>simpa [he]using this
 |st t f=>simpa [he]using this
 |ptr=>simpa [he]using this
theorem yv {x:Cx}:∀{fs:List Fl} {vs:List Value},bX fs vs=true→ar (λc u=>aA x c u∧u.oneCell'=true) (fs.map Fl.zeroD) vs
 |[],[],_=>trivial
 |[],_::_,h=>by simp[bX]at h
 |_::_,[],h=>by simp[bX]at h
 |f::fs,v::vs,h=>by
  simp only[bX,Bool.and_eq_true]at h
  refine⟨?_,yv h.2⟩
  have h1:=h.1
  cases f<;>cases v<;>simp only[pg,Bool.and_eq_true,decide_eq_true_eq,beq_iff_eq,Bool.not_eq_true',Bool.false_eq_true]at h1
  ·obtain⟨rfl,rfl⟩:=h1
   refine⟨⟨rfl, ?_⟩,rfl⟩
   rename_i k
   cases k<;>exact⟨by decide,by decide⟩
  ·subst h1;exact⟨rfl,rfl⟩
  ·rename_i s
   have h0:s.data.toList=[]:=List.eq_nil_of_length_eq_zero (Nat.eq_of_beq_eq_true h1)
   exact⟨⟨s,rfl,h0,by simp⟩,rfl⟩
  ·rename_i a l c
   cases a with
   |some a=>simp at h1
   |none=>
    cases l with
    |succ l=>simp at h1
    |zero=>
     cases c with
     |succ c=>simp at h1
     |zero=>exact⟨rfl,rfl⟩
  ·rename_i a l c
   cases a with
   |some a=>simp at h1
   |none=>
    cases l with
    |succ l=>simp at h1
    |zero=>
     cases c with
     |succ c=>simp at h1
     |zero=>exact⟨⟨rfl,none,0,0,rfl⟩,rfl⟩
section
variable {te:TE} {P:Program} (hte:fQ te P=true) {t:Nat}
include hte
theorem oh {f:Fl}(hl:ac te t=some (.sc f)):∃i z,P.info? t=some i∧i.size=1∧i.zero=some z∧pg f z=true∧
  (match f with| .int k=>P.underlying t=some (.int k)| .bool=>P.underlying t=some .bool| .str=>P.underlying t=some .string| .sl _=>False| .raw=>∃e,P.underlying t=some (.slice e)):=by
 have h:=x6 hte hl (by simp)
 unfold Nc at h
 split at h
 ·rename_i d i hd hi
  simp only[Bool.and_eq_true]at h
  obtain⟨⟨h1,h2⟩,h3⟩:=h
  split at h2
  ·rename_i z hz
   refine⟨i,z,hi,Nat.eq_of_beq_eq_true h1,hz,h2, ?_⟩
   cases f<;>cases d<;>simp only[decide_eq_true_eq,Bool.false_eq_true]at h3⊢<;>first
    |exact hd
    |exact⟨_,hd⟩
    |(subst h3;exact hd)
  ·cases h2
 ·cases h
theorem iM {ty:Ty}{by_:Nat}(hl:ac te t=some (.sl ty by_)):∃e i ie z,P.underlying t=some (.slice e)∧P.info? t=some i∧i.size=1∧i.zero=some (.slice none 0 0)∧
  P.info? e=some ie∧ie.size=ty.size∧ie.bytes=by_∧0<by_∧ie.zero=some z∧bX ty.fl z.cells.toList=true∧(ty= .u8↔P.underlying e=some (.int .u8))∧P.underlying e≠some (.int .i32)∧∃d,P.underlying e=some d:=by
 have h:=x6 hte hl (by simp)
 unfold Nc at h
 split at h
 ·rename_i d i hd hi
  simp only[Bool.and_eq_true]at h
  obtain⟨⟨h1,h2⟩,h3⟩:=h
  split at h3
  ·rename_i e
   simp only[Bool.and_eq_true]at h3
   obtain⟨h4,h5⟩:=h3
   split at h4
   ·rename_i ie hie
    simp only[Bool.and_eq_true]at h4
    obtain⟨⟨⟨h6,h7⟩,h8⟩,h9⟩:=h4
    split at h9
    ·rename_i z hz
     split at h2
     ·rename_i hz2
      refine⟨e,i,ie,z,hd,hi,Nat.eq_of_beq_eq_true h1,hz2,hie,Nat.eq_of_beq_eq_true h6,Nat.eq_of_beq_eq_true h7, ?_,hz,h9, ?_⟩
      ·have:=Nat.le_of_ble_eq_true h8;exact this
      ·split at h5
       ·rename_i hu;exact⟨⟨λ_=>hu,λ_=>rfl⟩,by rw[hu];simp,_,hu⟩
       ·cases h5
       ·cases h5
       ·cases h5
       ·rename_i x d' h10 h11 h12 hu
        refine⟨⟨λe=> ?_,λe=> ?_⟩,λe=> ?_,_,hu⟩
        ·subst e;simp_all
        ·rw[hu]at e;cases e;simp_all
        ·rw[hu]at e;cases e;simp_all
       ·cases h5
     ·cases h2
    ·cases h9
   ·cases h4
  ·cases h3
 ·cases h
theorem AM {ty:Ty}{fields:List (Nat×Nat)}(hl:ac te t=some (.st ty fields)):∃fs i vs,P.underlying t=some (.struct fs)∧P.info? t=some i∧i.size=ty.size∧i.zero=some (.agg vs)∧
  bX ty.fl vs.toList=true∧bQ fs.toList fields=true∧(∀f∈fields,∃tf,ac te f.2=some tf∧1≤tf.fl.length∧f.1+tf.fl.length≤ty.size)∧P.eqGuardType P.depth t=false∧P.stoodInHeld t=false:=by
 have h:=x6 hte hl (by simp)
 unfold Nc at h
 split at h
 ·rename_i d i hd hi
  simp only[Bool.and_eq_true,Bool.not_eq_true']at h
  obtain⟨⟨⟨⟨h1,h2⟩,h3⟩,h4⟩,h5⟩:=h
  split at h1
  ·rename_i fs
   simp only[Bool.and_eq_true,List.all_eq_true]at h1
   split at h3
   ·rename_i vs hz
    refine⟨fs,i,vs,hd,hi,Nat.eq_of_beq_eq_true h2,hz,h3,h1.1,λf hf=> ?_,h4,h5⟩
    have:=h1.2 f hf
    split at this
    ·rename_i tf htf;rw[Bool.and_eq_true]at this;exact⟨tf,htf,Nat.le_of_ble_eq_true this.1,Nat.le_of_ble_eq_true this.2⟩
    ·cases this
   ·cases h3
  ·cases h1
 ·cases h
theorem sK {ti:TI}(hl:ac te t=some ti)(hp:1≤ti.fl.length):∃i z,P.info? t=some i∧i.size=ti.fl.length∧i.zero=some z∧
  ar (λ(f:Fl) v=>pg f v=true) ti.fl z.cells.toList∧(∀w,(sizeOf t).run P w= .ok ti.fl.length w)∧(∀w,(isAgg t).run P w= .ok ti.agg w)∧(ti.agg=true→∃us,z= .agg us)∧(ti.agg=false→ti.fl.length=1):=by
 have all2:∀(fs:List Fl) (vs:List Value),bX fs vs=true→ar (λ(f:Fl) v=>pg f v=true) fs vs:=by
  intro fs
  induction fs with
  |nil=>intro vs h;cases vs<;>simp[bX]at h;trivial
  |cons f fs ih=>intro vs h;cases vs<;>simp[bX]at h;exact⟨h.1,ih _ h.2⟩
 cases ti with
 |sc f=>
  obtain⟨i,z,hi,hs,hz,hz0,hu⟩:=oh hte hl
  have hzc:z.cells= #[z]:=by
   cases f<;>cases z<;>simp[pg]at hz0<;>rfl
  refine⟨i,z,hi,by simpa [TI.fl]using hs,hz,by rw[hzc];exact⟨hz0,trivial⟩,λw=>by simp[sizeOf,typeInfo,hi,hs,TI.fl],λw=> ?_,by simp[TI.agg],λ_=>rfl⟩
  cases f<;>first
   |exact hu.elim
   |(obtain⟨_,hu⟩:=hu;simp[isAgg,run_underlying hu,TI.agg];done)
   |(simp only at hu;simp[isAgg,run_underlying hu,TI.agg])
 |sl ty by_=>
  obtain⟨e,i,ie,z,hu,hi,hs,hz,hrest⟩:=iM hte hl
  refine⟨i,_,hi,by simpa [TI.fl]using hs,hz,⟨rfl,trivial⟩,λw=>by simp[sizeOf,typeInfo,hi,hs,TI.fl],λw=>by simp[isAgg,run_underlying hu,TI.agg],by simp[TI.agg],λ_=>rfl⟩
 |st ty fields=>
  obtain⟨fs,i,vs,hu,hi,hs,hz,hz0,hrest⟩:=AM hte hl
  refine⟨i,_,hi,by simpa [TI.fl,Ty.size]using hs,hz,all2 _ _ hz0,λw=>by simp[sizeOf,typeInfo,hi,hs,TI.fl,Ty.size],λw=>by simp[isAgg,run_underlying hu,TI.agg],λ_=>⟨vs,rfl⟩,by simp[TI.agg]⟩
 |ptr=>simp[TI.fl]at hp
 |wr _=>simp[TI.fl]at hp
end
end Go.Proofs.YtffjmkhjhchnmaaGreat
