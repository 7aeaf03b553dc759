/- Rows: what is handed in stands for plain data; a contract at all plain data gives the row. -/
import Derived.Test.YtfpdenjmlnhnnaaGreatDoorFn
import Derived.ProofKit
import Derived.OpenShut
set_option linter.unusedVariables false
set_option linter.unusedSimpArgs false
namespace Go.Proofs.YtfpdenjmlnhnnaaGreatDoor
open Go Go.RowKit
def CK (te:TE):List (Nat×Nat)→Nat→List Fl→Bool
 |[],_,[]=>true
 |(off,ft)::r,k,fs=>Nat.beq off k&&(match ae te ft with
  |some tf=>decide (fs.take tf.fl.length=tf.fl)&&Nat.ble 1 tf.fl.length&&CK te r (k+tf.fl.length) (fs.drop tf.fl.length)
  |none=>false)
 |_,_,_=>false
def DK (te:TE)(P:Program)(t:Nat):TI→Bool
 | .sl ty _=>(match P.underlying t with|some (.slice e)=>(match ae te e with|some tie=>decide (tie.fl=ty.fl)|none=>false)|_=>false)
 | .st ty fields=>CK te fields 0 ty.fl
 |_=>true
def DH (te:TE)(P:Program):Bool:=te.all λx=>DK te P x.1 x.2
def EG (f:Fl)(c:Cell):Prop:=∃x:f.T,c=f.cell x
section
variable {H:Type} {enc:TypeId×Value→H} {P:Program} {te:TE} {W:World}
end
end Go.Proofs.YtfpdenjmlnhnnaaGreatDoor
