/- The row out of the contract. -/
import Derived.Test.YtffjmkhjhchnmaaGreatRow
set_option linter.unusedVariables false
set_option linter.unusedSimpArgs false
namespace Go.Proofs.YtffjmkhjhchnmaaGreat
open Go Go.RowKit Go.ChangeShapes
inductive FactC:Cell→Prop
 |bool (b:Bool):FactC (.bool b)
 |int (k:IntKind) (n:Int) (h:Ag k n):FactC (.int k n)
 |str (s:ah) (h:s.length≤ak):FactC (.str s)
 |raw (v:Value):FactC (.raw v)
 |sl (t:Ty) (xs:List t.T) (h:xs.length≤aD) (hc:∀x∈xs,∀c∈t.cells x,FactC c):FactC (.sl t xs)
theorem RepC.fact {J:Nat→Prop}{w:World}{c:Cell}{v:Value}(h:RepC J w c v):FactC c:=by
 induction h with
 |bool b=>exact .bool b
 |int k n h=>exact .int k n h
 |str b h=>exact .str _ h
 |raw v _=>exact .raw v
 |nil t=>exact .sl t [] (by simp) (by simp)
 |emp t a cap=>exact .sl t [] (by simp) (by simp)
 |sl t xs b off cap vs hJ hl hc hcell _ ih=>
  refine .sl t xs hl λx hx c hc=> ?_
  obtain⟨i,hi⟩:=List.getElem?_of_mem hx
  obtain⟨j,hj⟩:=List.getElem?_of_mem hc
  exact ih i x j c hi hj
def KK (te:TE)(t:TypeId)(A:PV):Prop:=∃ti xs,ac te t=some ti∧A= .val ti.agg xs∧ar QD ti.fl xs∧∀x∈xs,FactC x
section
variable {H:Type} {enc:TypeId×Value→H} {P:Program} {te:TE} {W:World}
theorem Pg (hte:fQ te P=true)(hfl:Ju te P=true){t:TypeId}{ti:TI}(hl:ac te t=some ti)(hp:1≤ti.fl.length){v:Value}{d:DataW H}{ps:List MemPlace}{base:Nat}(hok:Value.okWide P W .any base t v)
  (h:DataW.Trod enc P W 0 (λ_=>true) true t v d ps)(hw:(d.weights P t).all (·≤reachBytes)=true):∃A,KK te t A∧PB (QA W) W A v:=by
 obtain⟨fuel,hf⟩:=h
 obtain⟨xs,h1,h2⟩:=MT hte hfl fuel t ti _ d ps hl hp hf hw
 have hfact:∀x∈xs,FactC x:=by
  intro x hx
  obtain⟨i,hi⟩:=List.getElem?_of_mem hx
  obtain⟨u,_,hr⟩:=h2.at hi
  exact hr.fact
 refine⟨.val ti.agg xs,⟨ti,xs,hl,rfl,h1,hfact⟩, ?_⟩
 cases ti with
 |ptr=>simp[TI.fl]at hp
 |wr _=>simp[TI.fl]at hp
 |st ty fields=>
  obtain⟨fs,i,vs,hu,_⟩:=AM hte hl
  simp only[Value.okWide,hu]at hok
  obtain⟨cs,rfl,_⟩:=hok
  exact⟨cs,rfl,h2⟩
 |sc f=>
  obtain⟨_,_,_,_,_,_,hu⟩:=oh hte hl
  have hone:v.cells= #[v]:=by
   cases f with
   |sl _=>exact hu.elim
   |int k=>simp only[]at hu;cases v<;>simp[Value.okWide,Cell.okWide,Cell.ok,hu]at hok<;>rfl
   |bool=>simp only[]at hu;cases v<;>simp[Value.okWide,Cell.okWide,Cell.ok,hu]at hok<;>rfl
   |str=>simp only[]at hu;cases v<;>simp[Value.okWide,Cell.okWide,Cell.ok,hu]at hok<;>rfl
   |raw=>obtain⟨_,hu⟩:=hu;cases v<;>simp[Value.okWide,Cell.okWide,Cell.ok,hu]at hok<;>rfl
  rw[hone]at h2
  match xs,h2 with
  |[c],h2=>exact⟨c,rfl,h2.1⟩
  |[],h2=>exact h2.elim
  |_::_::_,h2=>exact h2.2.elim
 |sl ty by_=>
  obtain⟨e,i,ie,z,hu,_⟩:=iM hte hl
  have hone:v.cells= #[v]:=by
   cases v<;>simp[Value.okWide,Cell.okWide,Cell.ok,hu]at hok<;>rfl
  rw[hone]at h2
  match xs,h2 with
  |[c],h2=>exact⟨c,rfl,h2.1⟩
  |[],h2=>exact h2.elim
  |_::_::_,h2=>exact h2.2.elim
def wy (te:TE):List TypeId→Bool
 |[]=>true
 |t::ts=>(match ac te t with|some ti=>Nat.ble 1 ti.fl.length|none=>false)&&wy te ts
theorem Hp (hte:fQ te P=true)(hfl:Ju te P=true){base:Nat}:∀{ts:List TypeId} {vs:List Value} {ds:List (DataW H)} {ps:List MemPlace},wy te ts=true→
  (∀(j:Nat) (t:TypeId) (v:Value),ts[j]? =some t→vs[j]? =some v→Value.okWide P W .any base t v)→DataW.TrodAll enc P W 0 (λ_=>true) true ts vs ds ps→
  (DataW.weightsEach P ts ds).all (·≤reachBytes)=true→∃A,ar (KK te) ts A∧ar (PB (QA W) W) A vs
 |[],[],[],ps,_,_,_,_=>⟨[],trivial,trivial⟩
 |t::ts,v::vs,d::ds,ps,hp,hok,h,hw=>by
  obtain⟨p,q,h1,h2,_⟩:=h
  simp only[DataW.weightsEach,List.all_append,Bool.and_eq_true]at hw
  simp only[wy,Bool.and_eq_true]at hp
  obtain⟨hp1,hp2⟩:=hp
  split at hp1
  ·rename_i ti hl
   obtain⟨A,hA1,hA2⟩:=Pg hte hfl hl (Nat.le_of_ble_eq_true hp1) (hok 0 t v rfl rfl) h1 hw.1
   obtain⟨As,hB1,hB2⟩:=Hp hte hfl hp2 (λj t v h3 h4=>hok (j+1) t v (by simpa using h3) (by simpa using h4)) h2 hw.2
   exact⟨A::As,⟨hA1,hB1⟩,⟨hA2,hB2⟩⟩
  ·cases hp1
 |[],_::_,_,_,_,_,h,_=>by simp[DataW.TrodAll]at h
 |[],[],_::_,_,_,_,h,_=>by simp[DataW.TrodAll]at h
 |_::_,[],_,_,_,_,h,_=>by simp[DataW.TrodAll]at h
 |_::_,_::_,[],_,_,_,h,_=>by simp[DataW.TrodAll]at h
theorem uZ (hlo:laidOutB P=true){W':World}(hb:Below W.heap.size W W'):∀{ts:List TypeId} {vs:List Value} {ds:List (DataW H)} {ps:List MemPlace},(∀t∈ts,P.readableRec t=true∧t<P.types.size)→
  DataW.TrodAll enc P W 0 (λ_=>true) true ts vs ds ps→(∀x∈ps,x.block<W.heap.size)→DataW.TrodAll enc P W' 0 (λb=>decide (b<W.heap.size)) true ts vs ds ps
 |[],[],[],ps,_,h,_=>h
 |t::ts,v::vs,d::ds,ps,hr,h,hlt=>by
  obtain⟨p,q,h1,h2,rfl⟩:=h
  exact⟨p,q,Below.trod hlo (hr t (by simp)).1 (hr t (by simp)).2 h1 hb (λx hx=>hlt x (List.mem_append_left _ hx)),
   uZ hlo hb (λt ht=>hr t (List.mem_cons_of_mem _ ht)) h2 (λx hx=>hlt x (List.mem_append_right _ hx)),rfl⟩
 |[],_::_,_,_,_,h,_=>by simp[DataW.TrodAll]at h
 |[],[],_::_,_,_,h,_=>by simp[DataW.TrodAll]at h
 |_::_,[],_,_,_,h,_=>by simp[DataW.TrodAll]at h
 |_::_,_::_,[],_,_,h,_=>by simp[DataW.TrodAll]at h
theorem yB:∀{w:World} {b:Nat} {sp:Nat→Bool} {hd:Bool} {ts:List TypeId} {vs:List Value} {ds:List (DataW H)} {ps:List MemPlace},DataW.TrodAll enc P w b sp hd ts vs ds ps→ds.length=ts.length∧vs.length=ts.length
 |_,_,_,_,[],[],[],_,_=>⟨rfl,rfl⟩
 |_,_,_,_,t::ts,v::vs,d::ds,ps,h=>by
  obtain⟨p,q,h1,h2,_⟩:=h
  have:=yB h2
  simp[this.1,this.2]
 |_,_,_,_,[],_::_,_,_,h=>by simp[DataW.TrodAll]at h
 |_,_,_,_,[],[],_::_,_,h=>by simp[DataW.TrodAll]at h
 |_,_,_,_,_::_,[],_,_,h=>by simp[DataW.TrodAll]at h
 |_,_,_,_,_::_,_::_,[],_,h=>by simp[DataW.TrodAll]at h
end
theorem CB {C:Checked}{te:TE}(hte:fQ te C.prog=true)(hfl:Ju te C.prog=true)(hlo:laidOutB C.prog=true){os:Os}{f:FuncId}{fn:Func}{s:ChangeSpec}{conds:List PathCond}{fresh handsOn:Bool}{H:Type}{enc:TypeId×Value→H}
  (own:ownKnob C.prog.godebug=none)(started:os.Started)(noInit:C.prog.inits.idxOf? f=none)(hfn:C.prog.funcs[f]? =some fn)
  (witness:∃(w:World) (tape:Tape) (i:Input),w.os=os∧(w.forCall tape i).Shaped C.prog∧i.vars=[]∧Input.okWide C.prog (w.forCall tape i) .any w.heap.size f i∧
   s.pre6 enc C.prog fn conds false (w.forCall tape i).memory i.args∧Assume.holds {} C.prog (lone (Frame.enter C.prog f i.args .normal) [] (w.forCall tape i)))
  (hvars:s.vars=[])(hparams:wy te fn.params.toList=true)(hread:∀t∈fn.params.toList,C.prog.readableRec t=true∧t<C.prog.types.size){tb:TypeId}(hres:fn.resultTypes= #[tb])(hub:C.prog.underlying tb=some .bool)
  (hspec:∀ds:List (DataW H),ds.length=fn.params.toList.length→s.fn H ds={results:=[.lit (.bool true)],args:=ds})
  (hcon:∀A,ar (KK te) fn.params.toList A→zO C.prog f A [(false,[.c (.bool true)])]) (hG:KN=[]:=by rfl):
  ReturnsInHanded {} C os f .any (s.pre6 enc C.prog fn conds false) (s.post enc C.prog fn false fresh handsOn false):=by
 refine returnsInHanded_of_calls own started noInit witness ?_
 intro w tape i _ _ _ hok hpre hholds
 obtain⟨_,_,_,fn',hfn',_,_,_,_,hval⟩:=hok
 have e:fn'=fn:=Option.some.inj (hfn'.symm.trans hfn)
 subst e
 obtain⟨⟨ds,gs,before,hw,hc⟩,hz⟩:=hpre
 have hwt:=hz.weights hw
 have hw':=DataW.Whole.of_heap (w':=w.forCall tape i) (by rfl) hw
 clear hw
 have hlt:=hw'.lt
 have hw2:=hw'
 obtain⟨p,q,hA,hV,rfl,hfz,hnd⟩:=hw2
 rw[hvars]at hV
 obtain⟨rfl,rfl⟩:=trodVars_none hV
 simp only[List.append_nil]at hwt hw' hlt
 have hvt:(OpenSpec.ofChange s).bare.plain.varTypes C.prog=[]:=by
  show s.plain.varTypes C.prog=[]
  simp[DataSpec.varTypes,ChangeSpec.plain,hvars]
 rw[hvt,List.append_nil]at hwt
 obtain⟨A,hA1,hA2⟩:=Hp (base:=w.heap.size) hte hfl hparams (λj t v h1 h2=>hval j t v (by simpa using h1) (by simpa using h2)) hA hwt
 refine((hcon A hA1).2 (w.forCall tape i) (QA (w.forCall tape i)) [] i.args (λ_ h=>h) trivial ⟨by simp,by simp,by simp,by simp⟩ (λ_ h=>by obtain⟨_,h,_⟩:=h;simp at h) (GW.nil hG _) (λ_ h=>by obtain⟨_,h,_⟩:=h;simp at h) hA2).mono ?_
 rintro e W' ⟨v,Jn,mm,rfl,hBX,_,_,_,hRO,_⟩
 have hR:=(hRO.resolve_right λhd=>hd.shr rfl).1
 have hB:Below (w.forCall tape i).heap.size (w.forCall tape i) W':=⟨hBX.os,hBX.tape,hBX.output,hBX.size,λb hb=>hBX.block b hb (λhx=>by obtain⟨_,hx,_⟩:=hx;simp at hx)⟩
 have hv:v= .bool true:=by
  have h1:=hR.2.2.1
  cases h1;rfl
 subst hv
 refine ChangeSpec.post_blind ?_
 have hlen:=(yB hA).1
 refine⟨ds,[],p,[],p,[],hw', ?_, ?_, ?_,hB.frame _,λh=>by cases h⟩
 ·rw[List.append_nil,hspec ds hlen,hres]
  exact trodAll_mk1 (shut_bool hub true)
 ·rw[List.append_nil,hspec ds hlen]
  exact uZ hlo hB hread hA hlt
 ·rw[List.append_nil,hspec ds hlen,hvars]
  rfl
end Go.Proofs.YtffjmkhjhchnmaaGreat
