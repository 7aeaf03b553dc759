/- The row out of the contract. -/
import Derived.Test.YtfpdenjmlnhnnaaGreatDoorRow
set_option linter.unusedVariables false
set_option linter.unusedSimpArgs false
namespace Go.Proofs.YtfpdenjmlnhnnaaGreatDoor
open Go Go.RowKit Go.ChangeShapes
inductive FactC:Cell→Prop
 |bool (b:Bool):FactC (.bool b)
 |int (k:IntKind) (n:Int) (h:oD k n):FactC (.int k n)
 |str (s:aa) (h:s.length≤ah):FactC (.str s)
 |sl (t:Ty) (xs:List t.T) (h:xs.length≤bt) (hc:∀x∈xs,∀c∈t.cells x,FactC c):FactC (.sl t xs)
theorem RepC.fact {J:Nat→Prop}{w:World}{c:Cell}{v:Value}(h:RepC J w c v):FactC c:=by
 induction h with
 |bool b=>exact .bool b
 |int k n h=>exact .int k n h
 |str b h=>exact .str _ h
 |nil t=>exact .sl t [] (by simp) (by simp)
 |emp t a cap=>exact .sl t [] (by simp) (by simp)
 |sl t xs b off cap vs hJ hl hc hcell _ ih=>
  refine .sl t xs hl λx hx c hc=> ?_
  obtain⟨i,hi⟩:=List.getElem?_of_mem hx
  obtain⟨j,hj⟩:=List.getElem?_of_mem hc
  exact ih i x j c hi hj
def CI (te:TE)(t:TypeId)(A:PV):Prop:=∃ti xs,ae te t=some ti∧A= .val ti.agg xs∧ao EG ti.fl xs∧∀x∈xs,FactC x
section
variable {H:Type} {enc:TypeId×Value→H} {P:Program} {te:TE} {W:World}
end
end Go.Proofs.YtfpdenjmlnhnnaaGreatDoor
