/- The row out of the contract. -/
import Derived.Test.YtfpdenjmlnhnnaaDoorRow
set_option linter.unusedVariables false
set_option linter.unusedSimpArgs false
namespace Go.Proofs.YtfpdenjmlnhnnaaDoor
open Go Go.RowKit Go.ChangeShapes
inductive FactC:Cell→Prop
 |bool (b:Bool):FactC (.bool b)
 |int (k:IntKind) (n:Int) (h:mJ k n):FactC (.int k n)
 |str (s:aa) (h:s.length≤au):FactC (.str s)
 |sl (t:Ty) (xs:List t.T) (h:xs.length≤aO) (hc:∀x∈xs,∀c∈t.cells x,FactC c):FactC (.sl t xs)
theorem RepC.fact {J:Nat→Prop}{w:World}{c:Cell}{v:Value}(h:RepC J w c v):FactC c:=by
 induction h with
 |bool b=>exact .bool b
 |int k n h=>exact .int k n h
 |str b h=>exact .str _ h
 |nil t=>exact .sl t [] (by simp) (by simp)
 |emp t a cap=>exact .sl t [] (by simp) (by simp)
 |sl t xs b off cap vs hJ hl hc hcell _ ih=>
  refine .sl t xs hl λx hx c hc=> ?_
  obtain⟨i,hi⟩:=List.getElem?_of_mem hx
  obtain⟨j,hj⟩:=List.getElem?_of_mem hc
  exact ih i x j c hi hj
def vo (te:TE)(t:TypeId)(A:PV):Prop:=∃ti xs,ac te t=some ti∧A= .val ti.agg xs∧ai Ak ti.fl xs∧∀x∈xs,FactC x
section
variable {H:Type} {enc:TypeId×Value→H} {P:Program} {te:TE} {W:World}
theorem yA (hte:cH te P=true)(hfl:u7 te P=true){t:TypeId}{ti:TI}(hl:ac te t=some ti)(hp:1≤ti.fl.length){v:Value}{d:DataW H}{ps:List MemPlace}{base:Nat}(hok:Value.okWide P W .any base t v)
  (h:DataW.Trod enc P W 0 (λ_=>true) true t v d ps)(hw:(d.weights P t).all (·≤reachBytes)=true):∃A,vo te t A∧xV (z7 W) W A v:=by
 obtain⟨fuel,hf⟩:=h
 obtain⟨xs,h1,h2⟩:=xk hte hfl fuel t ti _ d ps hl hp hf hw
 have hfact:∀x∈xs,FactC x:=by
  intro x hx
  obtain⟨i,hi⟩:=List.getElem?_of_mem hx
  obtain⟨u,_,hr⟩:=h2.at hi
  exact hr.fact
 refine⟨.val ti.agg xs,⟨ti,xs,hl,rfl,h1,hfact⟩, ?_⟩
 cases ti with
 |ptr=>simp[TI.fl]at hp
 |wr _=>simp[TI.fl]at hp
 |st ty fields=>
  obtain⟨fs,i,vs,hu,_⟩:=ol hte hl
  simp only[Value.okWide,hu]at hok
  obtain⟨cs,rfl,_⟩:=hok
  exact⟨cs,rfl,h2⟩
 |sc f=>
  obtain⟨_,_,_,_,_,_,hu⟩:=gu hte hl
  have hone:v.cells= #[v]:=by
   cases f with
   |sl _=>exact hu.elim
   |int k=>simp only[]at hu;cases v<;>simp[Value.okWide,Cell.okWide,Cell.ok,hu]at hok<;>rfl
   |bool=>simp only[]at hu;cases v<;>simp[Value.okWide,Cell.okWide,Cell.ok,hu]at hok<;>rfl
   |str=>simp only[]at hu;cases v<;>simp[Value.okWide,Cell.okWide,Cell.ok,hu]at hok<;>rfl
  rw[hone]at h2
  match xs,h2 with
  |[c],h2=>exact⟨c,rfl,h2.1⟩
  |[],h2=>exact h2.elim
  |_::_::_,h2=>exact h2.2.elim
 |sl ty by_=>
  obtain⟨e,i,ie,z,hu,_⟩:=dl hte hl
  have hone:v.cells= #[v]:=by
   cases v<;>simp[Value.okWide,Cell.okWide,Cell.ok,hu]at hok<;>rfl
  rw[hone]at h2
  match xs,h2 with
  |[c],h2=>exact⟨c,rfl,h2.1⟩
  |[],h2=>exact h2.elim
  |_::_::_,h2=>exact h2.2.elim
def lR (te:TE):List TypeId→Bool
 |[]=>true
 |t::ts=>(match ac te t with|some ti=>Nat.ble 1 ti.fl.length|none=>false)&&lR te ts
theorem t4 (hte:cH te P=true)(hfl:u7 te P=true){base:Nat}:∀{ts:List TypeId} {vs:List Value} {ds:List (DataW H)} {ps:List MemPlace},lR te ts=true→
  (∀(j:Nat) (t:TypeId) (v:Value),ts[j]? =some t→vs[j]? =some v→Value.okWide P W .any base t v)→DataW.TrodAll enc P W 0 (λ_=>true) true ts vs ds ps→
  (DataW.weightsEach P ts ds).all (·≤reachBytes)=true→∃A,ai (vo te) ts A∧ai (xV (z7 W) W) A vs
 |[],[],[],ps,_,_,_,_=>⟨[],trivial,trivial⟩
 |t::ts,v::vs,d::ds,ps,hp,hok,h,hw=>by
  obtain⟨p,q,h1,h2,_⟩:=h
  simp only[DataW.weightsEach,List.all_append,Bool.and_eq_true]at hw
  simp only[lR,Bool.and_eq_true]at hp
  obtain⟨hp1,hp2⟩:=hp
  split at hp1
  ·rename_i ti hl
   obtain⟨A,hA1,hA2⟩:=yA hte hfl hl (Nat.le_of_ble_eq_true hp1) (hok 0 t v rfl rfl) h1 hw.1
   obtain⟨As,hB1,hB2⟩:=t4 hte hfl hp2 (λj t v h3 h4=>hok (j+1) t v (by simpa using h3) (by simpa using h4)) h2 hw.2
   exact⟨A::As,⟨hA1,hB1⟩,⟨hA2,hB2⟩⟩
  ·cases hp1
 |[],_::_,_,_,_,_,h,_=>by simp[DataW.TrodAll]at h
 |[],[],_::_,_,_,_,h,_=>by simp[DataW.TrodAll]at h
 |_::_,[],_,_,_,_,h,_=>by simp[DataW.TrodAll]at h
 |_::_,_::_,[],_,_,_,h,_=>by simp[DataW.TrodAll]at h
theorem kG (hlo:laidOutB P=true){W':World}(hb:Below W.heap.size W W'):∀{ts:List TypeId} {vs:List Value} {ds:List (DataW H)} {ps:List MemPlace},(∀t∈ts,P.readableRec t=true∧t<P.types.size)→
  DataW.TrodAll enc P W 0 (λ_=>true) true ts vs ds ps→(∀x∈ps,x.block<W.heap.size)→DataW.TrodAll enc P W' 0 (λb=>decide (b<W.heap.size)) true ts vs ds ps
 |[],[],[],ps,_,h,_=>h
 |t::ts,v::vs,d::ds,ps,hr,h,hlt=>by
  obtain⟨p,q,h1,h2,rfl⟩:=h
  exact⟨p,q,Below.trod hlo (hr t (by simp)).1 (hr t (by simp)).2 h1 hb (λx hx=>hlt x (List.mem_append_left _ hx)),
   kG hlo hb (λt ht=>hr t (List.mem_cons_of_mem _ ht)) h2 (λx hx=>hlt x (List.mem_append_right _ hx)),rfl⟩
 |[],_::_,_,_,_,h,_=>by simp[DataW.TrodAll]at h
 |[],[],_::_,_,_,h,_=>by simp[DataW.TrodAll]at h
 |_::_,[],_,_,_,h,_=>by simp[DataW.TrodAll]at h
 |_::_,_::_,[],_,_,h,_=>by simp[DataW.TrodAll]at h
theorem nf:∀{w:World} {b:Nat} {sp:Nat→Bool} {hd:Bool} {ts:List TypeId} {vs:List Value} {ds:List (DataW H)} {ps:List MemPlace},DataW.TrodAll enc P w b sp hd ts vs ds ps→ds.length=ts.length∧vs.length=ts.length
 |_,_,_,_,[],[],[],_,_=>⟨rfl,rfl⟩
 |_,_,_,_,t::ts,v::vs,d::ds,ps,h=>by
  obtain⟨p,q,h1,h2,_⟩:=h
  have:=nf h2
  simp[this.1,this.2]
 |_,_,_,_,[],_::_,_,_,h=>by simp[DataW.TrodAll]at h
 |_,_,_,_,[],[],_::_,_,h=>by simp[DataW.TrodAll]at h
 |_,_,_,_,_::_,[],_,_,h=>by simp[DataW.TrodAll]at h
 |_,_,_,_,_::_,_::_,[],_,h=>by simp[DataW.TrodAll]at h
end
end Go.Proofs.YtfpdenjmlnhnnaaDoor
