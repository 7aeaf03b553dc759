/- An executor of the model's code on plain symbolic data (definitions alone). Nothing of the dump is named here. -/
import Derived.Test.YtfpdenjmlnhnnaaGreatDom
set_option linter.unusedVariables false
set_option linter.unusedSimpArgs false
namespace Go.Proofs.YtfpdenjmlnhnnaaGreat
open Go
def hh1:Nat:=0
def hh2:Nat:=hh1
def hh3:Nat:=hh2
def hh4:Nat:=hh3
def hh5:Nat:=hh4
def hh6:Nat:=hh5
def Ot {α:Type}(b:Bool)(t e:α):α:=let _h:=hh6;match b with|true=>t|false=>e
@[simp] theorem J7 {α:Type} (t e:α):Ot true t e=t:=rfl
@[simp] theorem Mj {α:Type} (t e:α):Ot false t e=e:=rfl
inductive Pv where
 |arg|new|any
 deriving DecidableEq
def Pv.isNew:Pv→Bool
 | .new=>true
 |_=>false
inductive DC where
 |bool (b:Bool)
 |int (k:IntKind)(n:Int)
 |str (s:ae)
 |sl (p:Pv)(t:Ty)(xs:List t.T)
 |nil
 |own (id ver:Nat)
 |ptr (id off:Nat)
 |eptr (id ver i off:Nat)
 |vw (id ver lo hi:Nat)
 |ref (p:Pv)(cs:List Cell)
 |fn (f:Nat)(ids:List Nat)
 |slx (t:Ty)(xs:List t.T)
 |undef
 |skipped
def DC.ok:DC→Bool
 | .undef=>false
 | .skipped=>false
 |_=>true
inductive DV where
 |v (agg:Bool)(cs:List DC)
 |tup (vs:List (Bool×List DC))
inductive Ob where
 |box (cs:List DC)
 |arr (t:Ty)(xs:List t.T)(ver:Nat)(frz deep:Bool)
inductive MC where
 |c (x:Cell)
 |own (k:Nat)
 |ptr (k:Nat)
inductive PV where
 |val (agg:Bool)(cs:List Cell)
 |fn (f:Nat)(ks:List Nat)
 |wr (agg:Bool)(cs:List MC)
 |nils
 |slx (t:Ty)(xs:List t.T)
inductive MO where
 |box (cs:List MC)
 |arr (t:Ty)(xs:List t.T)
inductive RC where
 |c (x:Cell)
 |own (deep:Bool)(t:Ty)(xs:List t.T)
 |box (cs:List Cell)
 |shr (k n:Nat)
abbrev eT:=List (Bool×List RC)
structure Eff where
 val:DV
 new:List Ob
 upd:List (Nat×Ob)
inductive Rd (α:Type) where
 |ret (a:α)
 |fail
 |tmp (t:Nat)(k:DV→Rd α)
 |get (id:Nat)(k:Ob→Rd α)
 |guard (b:Bool)(k:Rd α)
 |call (f:Nat)(A:List PV)(O:List MO)(k:eT→List MO→Rd α)
inductive TI where
 |sc (f:Fl)
 |sl (t:Ty)(bytes:Nat)
 |st (t:Ty)(fields:List (Nat×Nat))
 |ptr
 |wr (ps:List Bool)
abbrev TE:=List (Nat×TI)
def ao {α:Type}:List (Nat×α)→Nat→Option α
 |[],_=>none
 |(j,a)::r,i=>match Nat.beq j i with
  |true=>some a
  |false=>ao r i
def TI.fl:TI→List Fl
 | .sc f=>[f]| .sl t _=>[.sl t]| .st t _=>t.fl| .ptr=>[]| .wr _=>[]
def TI.rfl:TI→List Fl
 | .ptr=>[.bool]
 |t=>t.fl
def TI.agg:TI→Bool
 | .st _ _=>true
 |_=>false
def Fl.zeroD:Fl→DC
 | .int k=> .int k 0| .bool=> .bool false| .str=> .str []| .sl _=> .nil
def TI.zero:TI→List DC
 | .sc f=>[f.zeroD]| .sl _ _=>[.nil]| .st t _=>t.fl.map Fl.zeroD| .ptr=>[]| .wr _=>[]
def Cell.toD (p:Pv):Cell→DC
 | .bool b=> .bool b| .int k n=> .int k n| .str s=> .str s| .sl t xs=> .sl p t xs
def aU:Nat:=140737488355328
def ak:Nat:=4611686018427387904
def one (c:DC):DV:= .v false [c]
def eA:DV:= .v false [.undef]
def Fh:DV:= .v false [.skipped]
def sZ (d:DV):Rd Eff:= .ret ⟨d,[],[]⟩
def eh (c:DC):Rd Eff:=sZ (one c)
section
variable {α:Type}
def Tx (x:Operand)(k:DV→Rd α):Rd α:=
 match x with
 | .tmp t=> .tmp t k
 | .const (.bool b)=>k (one (.bool b))
 | .const (.int kk n)=> .guard (decide (kk.min≤n)&&decide (n≤kk.max)) (k (one (.int kk n)))
 | .const (.string s)=> .guard (Nat.ble s.data.toList.length ak) (k (one (.str s.data.toList)))
 | .const (.slice none 0 0)=>k (one .nil)
 | .const (.pointer none)=>k eA
 | .func f=>k (one (.fn f []))
 |_=> .fail
def pu (x:Operand)(k:DC→Rd α):Rd α:=Tx x fun
 | .v false [c]=>k c
 |_=> .fail
def tn (x:Operand)(k:IntKind→Int→Rd α):Rd α:=pu x fun
 | .int kk n=>k kk n
 |_=> .fail
def aea (x:Operand)(k:Bool→Rd α):Rd α:=pu x fun
 | .bool b=>k b
 |_=> .fail
def Il (f:Fl)(c:DC)(k:Cell→Rd α):Rd α:=
 match c with
 | .bool b=>k (.bool b)
 | .int kk n=>k (.int kk n)
 | .str s=>k (.str s)
 | .sl _ t xs=>k (.sl t xs)
 | .nil=>match f with| .sl t=>k (.sl t [])|_=> .fail
 | .own id ver=> .get id fun| .arr t xs ver' _ _=> .guard (Nat.beq ver ver') (k (.sl t xs))|_=> .fail
 | .vw id ver lo hi=> .get id fun| .arr t xs ver' _ _=> .guard (Nat.beq ver ver') (k (.sl t ((xs.take hi).drop lo)))|_=> .fail
 |_=> .fail
def WK (f:Fl)(c:DC)(k:Cell→Bool→List (Nat×Ob)→Rd α):Rd α:=
 match c with
 | .bool b=>k (.bool b) true []
 | .int kk n=>k (.int kk n) true []
 | .str s=>k (.str s) true []
 | .sl p t xs=>k (.sl t xs) (match p with| .new=>true|_=>false) []
 | .nil=>match f with| .sl t=>k (.sl t []) true []|_=> .fail
 | .own id ver=> .get id fun| .arr t xs ver' _ d=> .guard (Nat.beq ver ver') (k (.sl t xs) d [(id,.arr t xs ver' true d)])|_=> .fail
 |_=> .fail
def xE:List Fl→List DC→(List Cell→Bool→List (Nat×Ob)→Rd α)→Rd α
 |[],[],k=>k [] true []
 |f::fs,c::cs,k=>WK f c λx d u=>xE fs cs λxs d' u'=>k (x::xs) (d&&d') (u++u')
 |_,_,_=> .fail
end
def Oq {α:Type}(a:DC)(n:Nat)(k:List DC→Rd α):Rd α:=
 match a with
 | .ptr id off=> .get id fun
  | .box cs=> .guard (Nat.ble (off+n) cs.length) (k ((cs.drop off).take n))
  |_=> .fail
 | .eptr id ver i off=> .get id fun
  | .arr t xs ver' _ d=> .guard (Nat.beq ver ver'&&Nat.ble (off+n) t.size) (k (((t.cells (xs.getD i t.zero)).map (Cell.toD (if d then .new else .any))).drop off |>.take n))
  |_=> .fail
 | .ref p cs=> .guard (Nat.ble n cs.length) (k ((cs.map (Cell.toD p)).take n))
 |_=> .fail
def splice {β:Type}(cs:List β)(off:Nat)(ds:List β):List β:=cs.take off++ds++cs.drop (off+ds.length)
def bU {β:Type}:List β→Nat→β→List β
 |[],_,_=>[]
 |_::r,0,b=>b::r
 |a::r,n+1,b=>a::bU r n b
def Fj (x:Nat):List Nat→Bool
 |[]=>false
 |y::r=>Nat.beq y x||Fj x r
def Zm (te:TE)(rec:Nat→List DC→List DC→Option Bool):List (Nat×Nat)→List DC→List DC→Option Bool
 |[],_,_=>some true
 |(off,ft)::r,xs,ys=>
  match ao te ft with
  |some ti=>match rec ft ((xs.drop off).take ti.fl.length) ((ys.drop off).take ti.fl.length),Zm te rec r xs ys with
   |some a,some b=>some (a&&b)
   |_,_=>none
  |none=>none
def Kx (te:TE):Nat→Nat→List DC→List DC→Option Bool
 |0,_,_,_=>none
 |n+1,t,xs,ys=>
  match ao te t with
  |some (.sc (.int _))=>match xs,ys with
   |[.int k a],[.int k' b]=>if k=k' then some (a==b)else none
   |_,_=>none
  |some (.sc .bool)=>match xs,ys with
   |[.bool a],[.bool b]=>some (a==b)
   |_,_=>none
  |some (.sc .str)=>match xs,ys with
   |[.str a],[.str b]=>some (a==b)
   |_,_=>none
  |some (.st _ fields)=>Zm te (Kx te n) fields xs ys
  |_=>none
def Y8 (op:BinOp)(k:IntKind)(a b:Int):Rd Eff:=
 match op with
 | .add=>eh (.int k (k.wrap (a+b)))
 | .sub=>eh (.int k (k.wrap (a-b)))
 | .mul=>eh (.int k (k.wrap (a*b)))
 | .quo=> .guard (b != 0) (eh (.int k (k.wrap (a.tdiv b))))
 | .rem=> .guard (b != 0) (eh (.int k (a.tmod b)))
 | .and=>eh (.int k (bits .and k a b))
 | .or=>eh (.int k (bits .or k a b))
 | .xor=>eh (.int k (bits .xor k a b))
 | .andNot=>eh (.int k (bits .andNot k a b))
 | .eql=>eh (.bool (a==b))
 | .neq=>eh (.bool (a != b))
 | .lss=>eh (.bool (decide (a<b)))
 | .leq=>eh (.bool (decide (a≤b)))
 | .gtr=>eh (.bool (decide (b<a)))
 | .geq=>eh (.bool (decide (b≤a)))
 |_=> .fail
def aaB (op:BinOp)(s t:ae):Rd Eff:=
 match op with
 | .add=> .guard (Nat.ble (s.length+t.length) ak) (eh (.str (s++t)))
 | .eql=>eh (.bool (s==t))
 | .neq=>eh (.bool (!(s==t)))
 |_=> .fail
def Sz (op:BinOp)(k:IntKind)(a b:Int):Rd Eff:=
 match op with
 | .shl=> .guard (decide (0≤b)) (eh (.int k (k.wrap (a*2 ^ (min b.toNat k.bits)))))
 | .shr=> .guard (decide (0≤b)) (eh (.int k (a.fdiv (2 ^ (min b.toNat k.bits)))))
 |_=> .fail
def acE (te:TE)(op:BinOp)(t:Nat)(x y:DV):Rd Eff:=
 match x,y with
 | .v false [.int k a],.v false [.int k' b]=>
  match op with
  | .shl| .shr=>Sz op k a b
  |_=>if k=k' then Y8 op k a b else .fail
 | .v false [.str s],.v false [.str t]=>aaB op s t
 | .v false [.slx _ _],.v false [.nil]=>match ao te t,op with
  |some (.sl _ _),.eql=>eh (.bool false)
  |some (.sl _ _),.neq=>eh (.bool true)
  |_,_=> .fail
 | .v false [.nil],.v false [.nil]=>match ao te t,op with
  |some (.sl _ _),.eql=>eh (.bool true)
  |some (.sl _ _),.neq=>eh (.bool false)
  |_,_=> .fail
 | .v ag cs,.v ag' ds=>
  match ao te t with
  |some ti=>match op,(ag==ti.agg&&ag'==ti.agg&&Nat.beq cs.length ti.fl.length&&Nat.beq ds.length ti.fl.length),Kx te 5 t cs ds with
   | .eql,true,some b=>eh (.bool b)
   | .neq,true,some b=>eh (.bool (!b))
   |_,_,_=> .fail
  |none=> .fail
 |_,_=> .fail
def ad1 (op:UnOp)(x:DV):Rd Eff:=
 match op,x with
 | .not,.v false [.bool b]=>eh (.bool (!b))
 | .neg,.v false [.int k n]=>eh (.int k (k.wrap (0-n)))
 | .xor,.v false [.int k n]=>eh (.int k (bits .xor k (if k.signed then-1 else k.max) n))
 |_,_=> .fail
def oZ (t:Ty):Bool:=t.fl.any fun| .sl _=>true|_=>false
def RC.shares:RC→Bool
 | .c (.sl _ _)=>true
 | .box cs=>cs.any fun| .sl _ _=>true|_=>false
 | .own d t _=> !d&&oZ t
 |_=>false
def aQ:Nat→List RC→List DC×List Ob×Nat
 |n,[]=>([],[],n)
 |n,.c x::r=>match aQ n r with|(cs,os,m)=>(x.toD .any::cs,os,m)
 |n,.own d t xs::r=>match aQ (n+1) r with|(cs,os,m)=>(.own n 0::cs,.arr t xs 0 false d::os,m)
 |n,.box bs::r=>match aQ (n+1) r with|(cs,os,m)=>(.ptr n 0::cs,.box (bs.map (Cell.toD .any))::os,m)
 |n,.shr _ _::r=>match aQ n r with|(cs,os,m)=>(.undef::cs,os,m)
def eY:Nat→eT→List (Bool×List DC)×List Ob
 |_,[]=>([],[])
 |n,(ag,cs)::r=>match aQ n cs with
  |(ds,os,m)=>match eY m r with|(vs,os')=>((ag,ds)::vs,os++os')
def Jf:List (Bool×List DC)→DV
 |[(ag,cs)]=> .v ag cs
 |vs=> .tup vs
def aaT {α:Type}(ti:TI)(d:DV)(k:PV→List (Nat×Ob)→Rd α):Rd α:=
 match d with
 | .v false [.fn f []]=>k (.fn f []) []
 | .v ag cs=>xE ti.fl cs λxs _ u=>k (.val ag xs) u
 |_=> .fail
def ia:List DC→Option (List Cell)
 |[]=>some []
 |c::r=>match(match c with| .bool b=>some (.bool b)| .int k n=>some (.int k n)| .str s=>some (.str s)| .sl _ t xs=>some (.sl t xs)|_=>none:Option Cell),ia r with
  |some x,some xs=>some (x::xs)
  |_,_=>none
def VA {α:Type}(id ver:Nat)(W:List (Nat×MO×Ob))(k:MC→List (Nat×MO×Ob)→Rd α):Rd α:=
 .get id fun
  | .arr t xs ver' frz d=> .guard (Nat.beq ver ver'&& !frz&& !Fj id (W.map (·.1))) (k (.own W.length) (W++[(id,.arr t xs,.arr t xs ver' frz d)]))
  |_=> .fail
def AK {α:Type}:List DC→List (Nat×MO×Ob)→(List MC→List (Nat×MO×Ob)→Rd α)→Rd α
 |[],W,k=>k [] W
 |c::cs,W,k=>match c with
  | .bool b=>AK cs W λxs W=>k (.c (.bool b)::xs) W
  | .int kk n=>AK cs W λxs W=>k (.c (.int kk n)::xs) W
  | .str s=>AK cs W λxs W=>k (.c (.str s)::xs) W
  | .sl _ t ys=>AK cs W λxs W=>k (.c (.sl t ys)::xs) W
  | .own id ver=>VA id ver W λx W=>AK cs W λxs W=>k (x::xs) W
  |_=> .fail
def UO {α:Type}(id:Nat)(W:List (Nat×MO×Ob))(k:Nat→List (Nat×MO×Ob)→Rd α):Rd α:=
 .get id fun
  | .box cs=>AK cs W λxs W=> .guard (!Fj id (W.map (·.1))) (k W.length (W++[(id,.box xs,.box cs)]))
  |_=> .fail
def Kf {α:Type}:List Nat→List (Nat×MO×Ob)→(List Nat→List (Nat×MO×Ob)→Rd α)→Rd α
 |[],W,k=>k [] W
 |id::r,W,k=>UO id W λj W=>Kf r W λjs W=>k (j::js) W
def oM {α:Type}(f:Fl)(c:DC)(W:List (Nat×MO×Ob))(k:MC→List (Nat×MO×Ob)→Rd α):Rd α:=
 match c with
 | .bool b=>k (.c (.bool b)) W
 | .int kk n=>k (.c (.int kk n)) W
 | .str s=>k (.c (.str s)) W
 | .nil=>match f with| .sl t=>k (.c (.sl t [])) W|_=> .fail
 | .sl _ t ys=>k (.c (.sl t ys)) W
 | .own id ver=>VA id ver W k
 | .ptr id 0=>UO id W λj W=>k (.ptr j) W
 |_=> .fail
def DE {α:Type}:List Fl→List DC→List (Nat×MO×Ob)→(List MC→List (Nat×MO×Ob)→Rd α)→Rd α
 |[],[],W,k=>k [] W
 |f::fs,c::cs,W,k=>oM f c W λx W=>DE fs cs W λxs W=>k (x::xs) W
 |_,_,_,_=> .fail
def adn {α:Type}(ti:TI)(d:DV)(W:List (Nat×MO×Ob))(k:PV→List (Nat×MO×Ob)→Rd α):Rd α:=
 match d with
 | .v false [.ptr id off]=>oM .bool (.ptr id off) W λx W=>k (.wr false [x]) W
 | .v false [.fn f ids]=>Kf ids W λks W=>k (.fn f ks) W
 | .v ag cs=>DE ti.fl cs W λxs W=>k (.wr ag xs) W
 |_=> .fail
def xF {α:Type}(te:TE):List Bool→List Operand→List TypeId→List (Nat×MO×Ob)→(List PV→List (Nat×Ob)→List (Nat×MO×Ob)→Rd α)→Rd α
 |_,[],[],W,k=>k [] [] W
 |true::ms,x::xs,t::ts,W,k=>Tx x λd=>adn ((ao te t).getD .ptr) d W λa W=>xF te ms xs ts W λas us W=>k (a::as) us W
 |ms,x::xs,t::ts,W,k=>
  match ao te t with
  |some ti=>Tx x λd=>aaT ti d λa u=>xF te ms.tail xs ts W λas us W=>k (a::as) (u++us) W
  |none=> .fail
 |_,_,_,_,_=> .fail
def adp (te:TE)(f:Nat):List Bool:=match ao te (1000000+f)with|some (.wr ps)=>ps|_=>[]
def Cr:List DC→List MC→List DC
 |d::ds,c::cs=>(match c with| .c x=>x.toD .any|_=>d)::Cr ds cs
 |_,_=>[]
def Pe:Ob→MO→Ob
 | .box ds,.box cs=> .box (Cr ds cs)
 | .arr _ _ ver frz d,.arr t xs=> .arr t xs ver frz (d&& !oZ t)
 |o,_=>o
def dd:List (Nat×MO×Ob)→List MO→List (Nat×Ob)
 |(id,_,o)::W,m::O=>(id,Pe o m)::dd W O
 |_,_=>[]
def MO.shares:MO→Bool
 | .box cs=>cs.any fun| .c (.sl _ _)=>true|_=>false
 | .arr t _=>oZ t
def yh (base:Nat)(u:List (Nat×Ob))(W:List (Nat×MO×Ob))(R:eT)(O':List MO):Rd Eff:=
 match R with
 |[(false,[.shr k n])]=>match W[k]? with
  |some (id,_,_)=>match ao (dd W O') id with
   |some (.arr t xs ver false d)=> .ret ⟨one (.own id (ver+1)),[],(if O'.any MO.shares then u else[])++((id,.arr t (xs.take n) (ver+1) false d)::dd W O')⟩
   |_=> .fail
  |_=> .fail
 |R=>match eY base R with
  |(vs,os)=> .ret ⟨Jf vs,os,(if R.any (λr=>r.2.any RC.shares)||O'.any MO.shares then u else[])++dd W O'⟩
def IM (te:TE)(base:Nat)(f:Nat)(args:List Operand)(tys:List TypeId)(ids:List Nat):Rd Eff:=
 xF te (adp te f) args tys [] λA u W=>Kf ids W λks W=> .guard (u.all λp=> !Fj p.1 (W.map (·.1))) (.call f (A++ks.map λk=> .wr false [.ptr k]) (W.map (·.2.1)) λR O'=>
  yh base u W R O')
def Ee (te:TE)(fields:List (Nat×Nat)):List (Nat×Operand)→List DC→(List DC→Rd Eff)→Rd Eff
 |[],cs,k=>k cs
 |(i,x)::r,cs,k=>Tx x fun
  | .v _ ds=>match fields[i]? with
   |some (off,ft)=>match ao te ft with
    |some tf=> .guard (Nat.beq ds.length tf.fl.length&&Nat.ble (off+ds.length) cs.length&&ds.all DC.ok) (Ee te fields r (splice cs off ds) k)
    |none=> .fail
   |none=> .fail
  |_=> .fail
def A8 (t:Ty):List (Nat×Operand)→List t.T→Bool→List (Nat×Ob)→(List t.T→Bool→List (Nat×Ob)→Rd Eff)→Rd Eff
 |[],xs,d,u,k=>k xs d u
 |(i,x)::r,xs,d,u,k=>Tx x fun
  | .v _ ds=> .guard (ds.all DC.ok) (xE t.fl ds λcs d' u'=>match t.get cs with
   |some e=> .guard (Nat.blt i xs.length) (A8 t r (bU xs i e) (d&&d') (u++u') k)
   |none=> .fail)
  |_=> .fail
def ad8:Option Operand→Bool
 |some (.const _)=>true
 |_=>false
def Yx (lo hi:Option Operand)(len:Int)(fin:Int→Int→Rd Eff):Rd Eff:=
 match lo with
 |none=>match hi with
  |none=>fin 0 len
  |some x=>tn x λ_ m=>fin 0 m
 |some y=>tn y λ_ l=>match hi with
  |none=>fin l len
  |some x=>tn x λ_ m=>fin l m
def Wx (te:TE)(t':TypeId)(ty:Ty)(c:DC)(k:List ty.T→Bool→Rd Eff):Rd Eff:=
 match ao te t' with
 |some (.sc .str)=>match c with
  | .str b=>if h:Ty.u8=ty then k (h▸(b.map λc=>(c.toNat:Int):List Ty.u8.T)) true else .fail
  |_=> .fail
 |some (.sl ty' _)=>match c with
  | .sl p t1 ys=> .guard (decide (ty'=ty)) (if h:t1=ty then k (h▸ys) (!oZ ty||p.isNew)else .fail)
  | .slx t1 ys=> .guard (decide (ty'=ty)) (if h:t1=ty then k (h▸ys) (!oZ ty)else .fail)
  | .nil=> .guard (decide (ty'=ty)) (k [] true)
  | .own id ver=> .get id fun
   | .arr t1 ys ver' _ d=> .guard (decide (ty'=ty)&&Nat.beq ver ver') (if h:t1=ty then k (h▸ys) (!oZ ty||d)else .fail)
   |_=> .fail
  |_=> .fail
 |_=> .fail
def Oo {α:Type}:List Operand→(List Nat→Rd α)→Rd α
 |[],k=>k []
 |x::r,k=>pu x fun
  | .ptr id 0=>Oo r λids=>k (id::ids)
  |_=> .fail
def aeo (te:TE)(t:TypeId):Bool:=match ao te t with|some (.sl _ _)=>true|_=>false
def fj (te:TE)(base:Nat):Op→Rd Eff
 | .move x| .assign x=>Tx x sZ
 | .pick c a b=>aea c λp=>Tx a λda=>Tx b λdb=>
  match da,db with
  | .v false [.bool x],.v false [.bool y]=>eh (.bool (bif p then x else y))
  |_,.v false [.skipped]=> .guard p (sZ da)
  | .v false [.skipped],_=> .guard (!p) (sZ db)
  |_,_=> .fail
 | .alloc e=>match ao te e with
  |some ti=> .guard (Nat.ble 1 ti.zero.length) (.ret ⟨one (.ptr base 0),[.box ti.zero],[]⟩)
  |none=> .fail
 | .box e x=>match ao te e with
  |some _=>Tx x fun
   | .v _ cs=> .guard (cs.all DC.ok) (.ret ⟨one (.ptr base 0),[.box cs],[]⟩)
   |_=> .fail
  |none=> .fail
 | .build t parts=>match ao te t with
  |some (.st ty fields)=>Ee te fields parts.toList (ty.fl.map Fl.zeroD) λcs=>sZ (.v true cs)
  |_=> .fail
 | .buildSlice t len parts=>match ao te t with
  |some (.sl ty _)=> .guard (Nat.ble (len*ty.size) 16777216) (A8 ty parts.toList (List.replicate len ty.zero) true [] λxs d u=> .ret ⟨one (.own base 0),[.arr ty xs 0 false d],u⟩)
  |_=> .fail
 | .load t a=>match ao te t with
  |some ti=>pu a λp=>Oq p ti.fl.length λcs=> .guard (Nat.ble 1 ti.fl.length) (sZ (.v ti.agg cs))
  |none=> .fail
 | .store t a x=>match ao te t with
  |some ti=>pu a λp=>Tx x fun
   | .v _ ds=> .guard (Nat.beq ds.length ti.fl.length&&ds.all DC.ok&&Nat.ble 1 ti.fl.length) (match p with
    | .ptr id off=> .get id fun
     | .box cs=> .guard (Nat.ble (off+ds.length) cs.length) (.ret ⟨eA,[],[(id,.box (splice cs off ds))]⟩)
     |_=> .fail
    | .eptr id ver i off=> .get id fun
     | .arr ty xs ver' frz d=> .guard (Nat.beq ver ver'&& !frz&&Nat.ble (off+ds.length) ty.size) (xE ti.fl ds λcs d' u=>
       match ty.get (splice (ty.cells (xs.getD i ty.zero)) off cs)with
       |some e=> .guard (!Fj id (u.map (·.1))) (.ret ⟨eA,[],u++[(id,.arr ty (xs.set i e) ver' frz (d&&d'))]⟩)
       |none=> .fail)
     |_=> .fail
    |_=> .fail)
   |_=> .fail
  |none=> .fail
 | .binOp op t x y _=>Tx x λa=>Tx y λb=>acE te op t a b
 | .unOp op _ x=>Tx x λa=>ad1 op a
 | .convert s d x=>match ao te s,ao te d with
  |some (.sc (.int _)),some (.sc (.int k))=>tn x λ_ n=>eh (.int k (k.wrap n))
  |some (.sc .str),some (.sc .str)=>pu x fun| .str b=>eh (.str b)|_=> .fail
  |some (.sc .str),some (.sl .u8 _)=>pu x fun
   | .str b=> .guard (Nat.ble b.length aU) (.ret ⟨one (.own base 0),[.arr .u8 (b.map λc=>(c.toNat:Int)) 0 false true],[]⟩)
   |_=> .fail
  |some (.sl .u8 _),some (.sc .str)=>pu x λc=>Il (.sl .u8) c fun
   | .sl .u8 xs=>eh (.str (List.map (λn:Int=>UInt8.ofNat n.toNat) xs))
   |_=> .fail
  |_,_=> .fail
 | .makeSlice t l c=>match ao te t with
  |some (.sl ty by_)=>tn l λkl n=>tn c λkc m=>
    .guard (kl== .i64&&kc== .i64&&decide (0≤n)&&decide (n=m)&&decide (n*by_≤aU)&&decide (n≤aU)) (.ret ⟨one (.own base 0),[.arr ty (List.replicate n.toNat ty.zero) 0 false true],[]⟩)
  |_=> .fail
 | .slice t x lo hi mx=>match ao te t,mx with
  |some (.sc .str),none=>pu x fun
   | .str s=>Yx lo hi s.length λl h=> .guard (decide (0≤l)&&decide (l≤h)&&decide (h≤(s.length:Int))) (eh (.str ((s.take h.toNat).drop l.toNat)))
   |_=> .fail
  |some (.sl ty _),none=>pu x fun
   | .sl p t' xs=>Yx lo hi xs.length λl h=> .guard (decide (t'=ty)&&decide (0≤l)&&decide (l≤h)&&decide (h≤(xs.length:Int))) (eh (.sl p t' ((xs.take h.toNat).drop l.toNat)))
   | .own id ver=> .get id fun
    | .arr t' xs ver' frz d=> .guard (Nat.beq ver ver') (Yx lo hi xs.length λl h=> .guard (decide (t'=ty)&&decide (0≤l)&&decide (l≤h)&&decide (h≤(xs.length:Int)))
      (bif (decide (t'= .u8)||(ao te (4000000+t)).isSome&& !ad8 lo)&& !frz then eh (.vw id ver l.toNat h.toNat)else .ret ⟨one (.sl .any t' ((xs.take h.toNat).drop l.toNat)),[],[(id,.arr t' xs ver' true d)]⟩))
    |_=> .fail
   | .vw id ver lo0 hi0=> .get id fun
    | .arr t' xs ver' _ _=> .guard (Nat.beq ver ver'&&Nat.beq lo0 0) (Yx lo hi hi0 λl h=> .guard (decide (t'=ty)&&decide (0≤l)&&decide (l≤h)&&decide (h≤(xs.length:Int))) (eh (.vw id ver l.toNat h.toNat)))
    |_=> .fail
   | .nil=>Yx lo hi 0 λl h=> .guard (decide (0≤l)&&decide (l≤h)&&decide (h≤0)) (eh (.sl .new ty []))
   |_=> .fail
  |some (.sl ty _),some m=>match lo,hi with
   |none,some z=>pu x λc=>tn z λ_ h=>tn m λ_ k=> .guard (decide (h=0)&&decide (k=0)) (Il (.sl ty) c fun
    | .sl _ _=> .ret ⟨one (.own base 0),[.arr ty [] 0 false true],[]⟩
    |_=> .fail)
   |some y,some z=>pu x fun
    | .own id ver=> .get id fun
     | .arr _ xs ver' _ _=>tn y λ_ l=>tn z λ_ h=>tn m λ_ k=> .guard (Nat.beq ver ver'&&decide (0≤l)&&decide (l≤h)&&decide (h≤k)&&decide (k≤(xs.length:Int))) (eh .undef)
     |_=> .fail
    |_=> .fail
   |_,_=> .fail
  |_,_=> .fail
 | .fieldAddr s x f=>match ao te s with
  |some (.st _ fields)=>match fields[f]? with
   |some (off,_)=>pu x fun
    | .ptr id o=>eh (.ptr id (o+off))
    | .eptr id ver i o=> .get id fun
     | .arr _ _ ver' _ _=> .guard (Nat.beq ver ver') (eh (.eptr id ver i (o+off)))
     |_=> .fail
    | .ref p cs=>eh (.ref p (cs.drop off))
    |_=> .fail
   |none=> .fail
  |_=> .fail
 | .indexAddr t x ix=>match ao te t with
  |some (.sl ty0 _)=>pu x λc=>tn ix λ_ n=>
   match c with
   | .sl p ty xs=> .guard (decide (ty=ty0)&&decide (0≤n)&&decide (n<(xs.length:Int))) (eh (.ref p (ty.cells (xs.getD n.toNat ty.zero))))
   | .own id ver=> .get id fun
    | .arr ty xs ver' _ _=> .guard (decide (ty=ty0)&&Nat.beq ver ver'&&decide (0≤n)&&decide (n<(xs.length:Int))) (eh (.eptr id ver n.toNat 0))
    |_=> .fail
   |_=> .fail
  |_=> .fail
 | .index t x ix=>match ao te t with
  |some (.sc .str)=>pu x fun
   | .str s=>tn ix λ_ n=> .guard (decide (0≤n)&&decide (n<(s.length:Int))) (eh (.int .u8 ((s.getD n.toNat 0).toNat:Int)))
   |_=> .fail
  |_=> .fail
 | .extract x i=>Tx x fun
  | .tup vs=>match vs[i]? with
   |some (ag,cs)=>sZ (.v ag cs)
   |none=> .fail
  |_=> .fail
 | .nilCheck x=>pu x fun
  | .ptr id o=>eh (.ptr id o)
  | .ref p cs=>eh (.ref p cs)
  | .fn f caps=>eh (.fn f caps)
  |_=> .fail
 | .makeFunc (.func f) first captured=>match first.toList with
  |[]=>Oo captured.toList λids=>eh (.fn f ids)
  |_=> .fail
 | .call {callee:= .value (.func f),args,argTypes}=>IM te base f args.toList argTypes.toList []
 | .call {callee:= .value (.tmp t),args,argTypes}=>pu (.tmp t) fun
  | .fn f ids=>IM te base f args.toList argTypes.toList ids
  |_=> .fail
 | .call {callee:= .builtin .len,args,argTypes}=>match args.toList,argTypes.toList with
  |[x],[t]=>match ao te t with
   |some (.sc .str)=>pu x fun| .str s=>eh (.int .i64 s.length)|_=> .fail
   |some (.sl ty _)=>pu x λc=>Il (.sl ty) c fun| .sl _ xs=>eh (.int .i64 xs.length)|_=> .fail
   |_=> .fail
  |_,_=> .fail
 | .call {callee:= .builtin .append,args,argTypes}=>match args.toList,argTypes.toList with
  |[x,y],[t,t']=>match ao te t with
   |some (.sl ty by_)=>pu x λc=>pu y λc'=>match c with
    | .nil=>Wx te t' ty c' λys d'=> .guard (Nat.ble ((2*ys.length+1024)*by_) aU) (.ret ⟨one (.own base 0),[.arr ty ys 0 false d'],[]⟩)
    | .own id ver=> .get id fun
     | .arr t0 xs ver' frz d=> .guard (decide (t0=ty)&&Nat.beq ver ver'&& !frz) (Wx te t' t0 c' λys d'=> .guard (Nat.ble ((2*(xs.length+ys.length)+1024)*by_) aU) (.ret ⟨one (.own id (ver'+1)),[],[(id,.arr t0 (xs++ys) (ver'+1) false (d&&d'))]⟩))
     |_=> .fail
    | .vw id ver lo0 i=>match c' with
     | .vw id2 ver2 j n2=> .get id fun
      | .arr t0 xs ver' frz d=> .guard (decide (t0=ty)&&Nat.beq ver ver'&& !frz&&Nat.beq id2 id&&Nat.beq ver2 ver'&&Nat.beq lo0 0&&Nat.ble i j&&Nat.beq n2 xs.length&&aeo te t') (.ret ⟨one (.vw id ver' 0 (i+(xs.length-j))),[],[(id,.arr t0 (xs.take i++xs.drop j++xs.drop (i+(xs.length-j))) ver' frz d)]⟩)
      |_=> .fail
     |_=> .fail
    |_=> .fail
   |_=> .fail
  |_,_=> .fail
 | .call {callee:= .builtin .clear,args,argTypes}=>match args.toList,argTypes.toList with
  |[x],[t]=>match ao te t with
   |some (.sl ty _)=>pu x fun
    | .vw id ver lo hi=> .get id fun
     | .arr t0 xs ver' frz d=> .guard (decide (t0=ty)&&Nat.beq ver ver'&& !frz) (.ret ⟨.tup [],[],[(id,.arr t0 (xs.take lo++List.replicate (hi-lo) t0.zero++xs.drop hi) ver' frz d)]⟩)
     |_=> .fail
    |_=> .fail
   |_=> .fail
  |_,_=> .fail
 | .call {callee:= .builtin .copy,args,argTypes}=>match args.toList,argTypes.toList with
  |[x,y],[t,t']=>match ao te t,ao te t' with
   |some (.sl .u8 _),some (.sl .u8 _)=>pu x λc=>pu y λc'=>match c with
    | .own id ver=> .get id fun
     | .arr .u8 xs ver' frz d=> .guard (Nat.beq ver ver'&& !frz) (Il (.sl .u8) c' fun
      | .sl .u8 ys=> .ret ⟨one (.int .i64 ((ys.take xs.length).length:Nat)),[],[(id,.arr .u8 (ys.take xs.length++xs.drop (ys.take xs.length).length) ver' frz d)]⟩
      |_=> .fail)
     |_=> .fail
    |_=> .fail
   |_,_=> .fail
  |_,_=> .fail
 | .call {callee:= .builtin .min,args, .. }=>match args.toList with
  |[x,y]=>tn x λk a=>tn y λk' b=> .guard (decide (k=k')) (eh (.int k (if b<a then b else a)))
  |[x,y,z]=>tn x λk a=>tn y λk' b=>tn z λk'' c=> .guard (decide (k=k')&&decide (k=k'')) (eh (.int k (if c<(if b<a then b else a)then c else(if b<a then b else a))))
  |_=> .fail
 | .call {callee:= .builtin .max,args, .. }=>match args.toList with
  |[x,y]=>tn x λk a=>tn y λk' b=> .guard (decide (k=k')) (eh (.int k (if a<b then b else a)))
  |_=> .fail
 |_=> .fail
structure St where
 fr:List (Nat×DV)
 st:List (Nat×Ob)
 nx:Nat
def St.tmp (s:St)(t:Nat):DV:=(ao s.fr t).getD eA
def St.obj (s:St)(id:Nat):Option Ob:=ao s.st id
def St.set (s:St)(t:Nat)(d:DV):St:={s with fr:=(t,d)::s.fr}
def Q3:=Nat→List PV→List MO→(γ:Type)→(eT→List MO→Option γ)→Option γ
def Rd.runK {α γ:Type}(orc:Q3)(s:St):Rd α→List Nat→List Nat→(α→List Nat→List Nat→Option γ)→Option γ
 | .ret a,tr,ir,k=>k a tr ir
 | .fail,_,_,_=>none
 | .tmp t c,tr,ir,k=>(c (s.tmp t)).runK orc s (t::tr) ir k
 | .get id c,tr,ir,k=>match s.obj id with
  |some o=>(c o).runK orc s tr (id::ir) k
  |none=>none
 | .guard b c,tr,ir,k=>Ot b (c.runK orc s tr ir k) none
 | .call f A O c,tr,ir,k=>orc f A O γ λR O'=>(c R O').runK orc s tr ir k
def aR:Nat→List Ob→List (Nat×Ob)
 |_,[]=>[]
 |n,o::r=>(n,o)::aR (n+1) r
def St.apply (s:St)(base:Nat)(dst:Option Nat)(e:Eff):St:=
 let s:={s with st:=e.upd++aR base e.new++s.st}
 match dst with
 |some d=>s.set d e.val
 |none=>s
structure LogE where
 i:Nat
 tr:List Nat
 ir:List Nat
 dst:Option Nat
 iw:List Nat
def Jt:List Nat→List Nat→Bool
 |[],_=>false
 |x::r,l=>Fj x l||Jt r l
def lW (a b:LogE):Bool:=
 Jt a.dst.toList (b.tr++b.dst.toList)||Jt b.dst.toList a.tr||Jt a.iw (b.ir++b.iw)||Jt b.iw a.ir
def after (ops:List Oper)(i:Nat):List Nat:=
 match ops[i]? with
 |some o=>o.after.toList.filterMap λe=>if Region.binds .any e then some e.on else none
 |none=>[]
def sK (ops:List Oper):Nat→Nat→Nat→Bool
 |0,_,_=>false
 |n+1,i,j=>let l:=after ops i;Fj j l||l.any λm=>Nat.blt j m&&sK ops n m j
def oK (ops:List Oper):List LogE→Bool
 |[]=>true
 |b::r=>(r.all λa=> !lW a b||sK ops ops.length a.i b.i)&&oK ops r
def mX (ops:List Oper):Bool:=(List.range ops.length).all λi=>(after ops i).all λj=>Nat.blt j i
def Qt (ops:List Oper)(j:Nat):Option Nat:=(ops[j]?).bind (·.dst)
def J6 {γ:Type}(te:TE)(orc:Q3)(n:Nat)(ops:List Oper)(base:Nat):List Oper→Nat→St→List LogE→(St→List LogE→Option γ)→Option γ
 |[],_,s,log,k=>k s log
 |o::r,i,s,log,k=>
  let go:=λ(s:St) (tr0:List Nat)=>
   (fj te (base+64*i) o.op).runK orc s tr0 [] λe tr ir=>
    let ids:=(aR (base+64*i) e.new).map (·.1)
    Ot ((o.dst.toList.all λd=>Nat.blt d n)&&Nat.ble e.new.length 64&&(e.upd.all λu=>Fj u.1 ir))
     (J6 te orc n ops base r (i+1) (s.apply (base+64*i) o.dst e) (log++[⟨i,tr,ir,o.dst,e.upd.map (·.1)++ids⟩]) k) none
  let skip:=λ(s:St) (tr0:List Nat)=>
   Ot (o.dst.toList.all λd=>Nat.blt d n)
    (J6 te orc n ops base r (i+1) (match o.dst with|some d=>s.set d Fh|none=>s) (log++[⟨i,tr0,[],o.dst,[]⟩]) k) none
  match o.guard with
  |none=>go s []
  |some (j,want)=>
   match Qt ops j with
   |some t=>match s.tmp t with
    | .v false [.bool b]=>
     Ot b (match want with|true=>go (s.set t (one (.bool true))) [t]|false=>skip (s.set t (one (.bool true))) [t])
      (match want with|false=>go (s.set t (one (.bool false))) [t]|true=>skip (s.set t (one (.bool false))) [t])
    | .v false [.skipped]=>skip s [t]
    |_=>none
   |none=>none
inductive Ex where
 |normal|exit (id:Nat)|ret
structure Gc where
 map:List (Nat×Nat)
 out:List (Nat×Ob)
 nx:Nat
def DC.ids:DC→List Nat
 | .own id _=>[id]| .ptr id _=>[id]| .eptr id _ _ _=>[id]| .vw id _ _ _=>[id]| .fn _ ids=>ids
 |_=>[]
def Ob.ids:Ob→List Nat
 | .box cs=>cs.flatMap DC.ids
 | .arr .. =>[]
def DV.ids:DV→List Nat
 | .v _ cs=>cs.flatMap DC.ids
 | .tup vs=>vs.flatMap λv=>v.2.flatMap DC.ids
def eO (st:List (Nat×Ob)):Nat→List Nat→List Nat→List Nat
 |0,_,seen=>seen
 |_+1,[],seen=>seen
 |n+1,x::todo,seen=>
  match Fj x seen with
  |true=>eO st n todo seen
  |false=>match ao st x with
   |some o=>eO st n (todo++o.ids) (seen++[x])
   |none=>eO st n todo seen
def acI (st:List (Nat×Ob))(id:Nat):Option Nat:=
 match ao st id with
 |some (.arr _ _ v _ _)=>some v
 |_=>none
def pW:List Nat→Nat→Nat→Option Nat
 |[],_,_=>none
 |y::r,x,n=>match Nat.beq y x with|true=>some n|false=>pW r x (n+1)
def aca (r m v:Nat):Nat:=match Nat.blt m r with|true=>v|false=>0
def xz (l:List Nat):List Nat→Option (List Nat)
 |[]=>some []
 |x::r=>match pW l x 0,xz l r with
  |some m,some ms=>some (m::ms)
  |_,_=>none
def DC.ren (r:Nat)(st:List (Nat×Ob))(seen:List Nat):DC→DC
 | .own id ver=>match pW seen id 0,acI st id with
  |some m,some v=>(match Nat.beq v ver with|true=> .own m (aca r m v)|false=> .undef)
  |_,_=> .undef
 | .ptr id off=>match pW seen id 0 with|some m=> .ptr m off|none=> .undef
 | .eptr _ _ _ _=> .undef
 | .vw _ _ _ _=> .undef
 | .fn f ids=>match xz seen ids with|some ms=> .fn f ms|none=> .undef
 |c=>c
def Ob.ren (r m:Nat)(st:List (Nat×Ob))(seen:List Nat):Ob→Ob
 | .box cs=> .box (cs.map (DC.ren r st seen))
 | .arr t xs v frz d=> .arr t xs (aca r m v) frz d
def DV.ren (r:Nat)(st:List (Nat×Ob))(seen:List Nat):DV→DV
 | .v ag cs=> .v ag (cs.map (DC.ren r st seen))
 | .tup vs=> .tup (vs.map λv=>(v.1,v.2.map (DC.ren r st seen)))
def mK (r:Nat)(st:List (Nat×Ob))(seen:List Nat):List Nat→Nat→List (Nat×Ob)
 |[],_=>[]
 |x::l,n=>match ao st x with
  |some o=>(n,o.ren r n st seen)::mK r st seen l (n+1)
  |none=>mK r st seen l (n+1)
def St.norm0 (r:Nat)(keep:List Nat)(s:St):St:=
 let vs:=keep.map λt=>(t,s.tmp t)
 let seen:=eO s.st 10000 (List.range r++vs.flatMap λv=>v.2.ids) []
 ⟨vs.map λv=>(v.1,v.2.ren r s.st seen),mK r s.st seen seen 0,seen.length⟩
inductive NL where
 |tmp (t j:Nat)(ty:Ty)|box (t j:Nat)(ty:Ty)|soft (t j:Nat)|softo (id j:Nat)|softb (t j:Nat)
def aac:Option DC→Bool
 |some .nil=>true
 |_=>false
def St.softO (s:St)(id j:Nat):St:=
 match s.obj id with
 |some (.box cs)=>match cs[j]? with
  |some (.sl _ ty xs)=>⟨s.fr,(id,.box (bU cs j (.sl .any ty xs)))::s.st,s.nx⟩
  |some (.own id2 ver)=>match s.obj id2 with
   |some (.arr ty xs ver' _ d)=>match Nat.beq ver ver' with
    |true=>⟨s.fr,(id,.box (bU cs j (.sl .any ty xs)))::(id2,.arr ty xs ver' true d)::s.st,s.nx⟩
    |false=>s
   |_=>s
  |_=>s
 |_=>s
def St.ownNil (s:St):NL→St
 | .tmp t j ty=>match s.tmp t with
  | .v ag cs=>match aac cs[j]? with
   |true=>⟨(t,.v ag (bU cs j (.own s.nx 0)))::s.fr,(s.nx,.arr ty [] 0 false true)::s.st,s.nx+1⟩
   |false=>s
  |_=>s
 | .box t j ty=>match s.tmp t with
  | .v false [.ptr id _]=>match s.obj id with
   |some (.box cs)=>match aac cs[j]? with
    |true=>⟨s.fr,(s.nx,.arr ty [] 0 false true)::(id,.box (bU cs j (.own s.nx 0)))::s.st,s.nx+1⟩
    |false=>s
   |_=>s
  |_=>s
 | .soft t j=>match s.tmp t with
  | .v ag cs=>match cs[j]? with
   |some (.own id ver)=>match s.obj id with
    |some (.arr ty xs ver' _ d)=>match Nat.beq ver ver' with
     |true=>⟨(t,.v ag (bU cs j (.sl .any ty xs)))::s.fr,(id,.arr ty xs ver' true d)::s.st,s.nx⟩
     |false=>s
    |_=>s
   |some (.sl _ ty xs)=>⟨(t,.v ag (bU cs j (.sl .any ty xs)))::s.fr,s.st,s.nx⟩
   |some (.vw id ver lo hi)=>match s.obj id with
    |some (.arr ty xs ver' _ d)=>match Nat.beq ver ver' with
     |true=>⟨(t,.v ag (bU cs j (.sl .any ty ((xs.take hi).drop lo))))::s.fr,(id,.arr ty xs ver' true d)::s.st,s.nx⟩
     |false=>s
    |_=>s
   |_=>s
  |_=>s
 | .softo id j=>s.softO id j
 | .softb t j=>match s.tmp t with
  | .v false [.ptr id _]=>s.softO id j
  |_=>s
def Ob.shallow:Ob→Ob
 | .box cs=> .box cs
 | .arr t xs v f _=> .arr t xs v f false
def St.shallow (s:St):St:={s with st:=s.st.map λp=>(p.1,p.2.shallow)}
structure Keep where
 ts:List Nat
 nils:List NL
 shal:Bool
 roots:Nat
def qe:List NL→St→St
 |[],s=>s
 |x::r,s=>qe r (s.ownNil x)
def St.norm (K:Keep)(s:St):St:=
 let s1:=(qe K.nils s).norm0 K.roots K.ts
 match K.shal with|true=>s1.shallow|false=>s1
def Md {γ:Type}(keep kout:Keep)(round:St→(Ex→St→Option γ)→Option γ):Nat→St→(Ex→St→Option γ)→Option γ
 |0,_,_=>none
 |m+1,s,k=>round s fun
  | .normal,s'=>Md keep kout round m (s'.norm keep) k
  |e,s'=>k e (s'.norm kout)
def MC.toD:MC→DC
 | .c x=>x.toD .arg| .own k=> .own k 0| .ptr k=> .ptr k 0
def PV.toV:PV→DV
 | .val ag cs=> .v ag (cs.map (Cell.toD .arg))
 | .fn f ks=>one (.fn f ks)
 | .wr ag cs=> .v ag (cs.map MC.toD)
 | .nils=>one .nil
 | .slx t xs=>one (.slx t xs)
def MO.toOb:MO→Ob
 | .box cs=> .box (cs.map MC.toD)
 | .arr t xs=> .arr t xs 0 false false
def vJ:Nat→List PV→List (Nat×DV)
 |_,[]=>[]
 |n,a::r=>(n,a.toV)::vJ (n+1) r
def Ho (s:St)(rn:Nat)(f:Fl)(c:DC)(used:List Nat)(k:RC→List Nat→Option eT):Option eT:=
 match c with
 | .bool b=>k (.c (.bool b)) used
 | .int kk n=>k (.c (.int kk n)) used
 | .str x=>k (.c (.str x)) used
 | .sl _ t xs=>k (.c (.sl t xs)) used
 | .nil=>match f with| .sl t=>k (.own true t []) used|_=>none
 | .own id ver=>match s.obj id with
  |some (.arr t xs ver' frz d)=>match Nat.beq ver ver',frz||Fj id used with
   |true,false=>(match Nat.blt id rn with|false=>k (.own d t xs) (id::used)|true=>none)
   |true,true=>match frz with|true=>k (.c (.sl t xs)) used|false=>none
   |_,_=>none
  |_=>none
 | .ptr id 0=>match s.obj id with
  |some (.box cs)=>match Fj id used||Nat.blt id rn,ia cs with
   |false,some xs=>k (.box xs) (id::used)
   |_,_=>none
  |_=>none
 |_=>none
def yD (s:St)(rn:Nat):List Fl→List DC→List Nat→(List RC→List Nat→Option eT)→Option eT
 |[],[],used,k=>k [] used
 |f::fs,c::cs,used,k=>Ho s rn f c used λx used=>yD s rn fs cs used λxs used=>k (x::xs) used
 |_,_,_,_=>none
def Va (te:TE)(s:St)(rn:Nat)(r:ResultVar)(t:TypeId)(used:List Nat)(k:(Bool×List RC)→List Nat→Option eT):Option eT:=
 match ao te t with
 |some ti=>
  match r with
  | .tmp x=>match s.tmp x with
   | .v ag cs=>match ag==ti.agg with
    |true=>yD s rn ti.rfl cs used λxs used=>k (ag,xs) used
    |false=>none
   |_=>none
  | .cell a t'=>match Nat.beq t t',s.tmp a with
   |true,.v false [.ptr id off]=>match s.obj id with
    |some (.box cs)=>match Nat.ble (off+ti.fl.length) cs.length&&Nat.ble 1 ti.fl.length with
     |true=>yD s rn ti.fl ((cs.drop off).take ti.fl.length) used λxs used=>k (ti.agg,xs) used
     |false=>none
    |_=>none
   |_,_=>none
 |none=>none
def Ei (te:TE)(s:St)(rn:Nat):List ResultVar→List TypeId→List Nat→(eT→Option eT)→Option eT
 |[],[],_,k=>k []
 |r::rs,t::ts,used,k=>Va te s rn r t used λx used=>Ei te s rn rs ts used λxs=>k (x::xs)
 |_,_,_,_=>none
def Vx (s:St)(rn:Nat)(c:DC):Option (Nat×Nat):=
 match c with
 | .own id ver=>match s.obj id with
  |some (.arr _ xs ver' _ _)=>match Nat.blt id rn&&Nat.beq ver 0&&Nat.beq ver' 0 with
   |true=>some (id,xs.length)
   |false=>none
  |_=>none
 | .vw id ver lo hi=>match s.obj id with
  |some (.arr _ _ ver' _ _)=>match Nat.blt id rn&&Nat.beq ver 0&&Nat.beq ver' 0&&Nat.beq lo 0 with
   |true=>some (id,hi)
   |false=>none
  |_=>none
 |_=>none
def VV (te:TE)(s:St)(rn:Nat)(rs:List ResultVar)(ts:List TypeId)(k:eT→Option eT):Option eT:=
 match rs with
 |[.tmp x]=>match s.tmp x with
  | .v false [c]=>match Vx s rn c with
   |some (id,n)=>k [(false,[.shr id n])]
   |none=>Ei te s rn rs ts [] k
  |_=>Ei te s rn rs ts [] k
 |_=>Ei te s rn rs ts [] k
def Xq:MC→RC
 | .c x=> .c x
 | .own k=> .own true .i64 [(k:Int)]
 | .ptr k=> .own false .i64 [(k:Int)]
def xm:MO→Bool×List RC
 | .box cs=>(true,cs.map Xq)
 | .arr t xs=>(false,[.c (.sl t xs)])
def L1 (s:St)(rn:Nat):List MC→List DC→Option (List MC)
 |[],[]=>some []
 | .c _::ds,c::cs=>match ia [c],L1 s rn ds cs with
  |some [x],some xs=>some (.c x::xs)
  |_,_=>none
 | .own k::ds,.own j ver::cs=>match Nat.beq k j&&Nat.beq ver 0&&Nat.blt k rn,s.obj k,L1 s rn ds cs with
  |true,some (.arr _ _ 0 _ _),some xs=>some (.own k::xs)
  |_,_,_=>none
 |_,_=>none
def TP (s:St)(rn id:Nat)(o:MO)(k:MO→Option eT):Option eT:=
 match o,s.obj id with
 | .box ds,some (.box cs)=>match L1 s rn ds cs with
  |some xs=>k (.box xs)
  |none=>none
 | .arr t0 _,some (.arr t xs ver frz _)=>match Nat.beq ver 0&& !frz&&decide (t=t0)with
  |true=>k (.arr t xs)
  |false=>none
 |_,_=>none
def zK (s:St)(rn:Nat):List MO→Nat→(List MO→Option eT)→Option eT
 |[],_,k=>k []
 |o::O,id,k=>TP s rn id o λx=>zK s rn O (id+1) λxs=>k (x::xs)
def MC.fits (O:List MO):MC→Bool
 | .c _=>true
 | .own k=>match O[k]? with|some (.arr _ _)=>true|_=>false
 | .ptr k=>match O[k]? with|some (.box _)=>true|_=>false
def PV.fits (O:List MO):PV→Bool
 | .wr _ cs=>cs.all (MC.fits O)
 | .fn _ ks=>ks.all λk=>MC.fits O (.ptr k)
 |_=>true
def MO.fits (O:List MO):MO→Bool
 | .box cs=>cs.all (MC.fits O)
 |_=>true
end Go.Proofs.YtfpdenjmlnhnnaaGreat
