/- An executor of the model's code on plain symbolic data (definitions alone). Nothing of the dump is named here. -/
import Derived.Test.YtfpdenjmlnhnnaaGreatDoorDom
set_option linter.unusedVariables false
set_option linter.unusedSimpArgs false
namespace Go.Proofs.YtfpdenjmlnhnnaaGreatDoor
open Go
def E4:Nat:=0
def E0:Nat:=E4
def EZ:Nat:=E0
def EV:Nat:=EZ
def E3:Nat:=EV
def EQ:Nat:=E3
def uk {α:Type}(b:Bool)(t e:α):α:=let _h:=EQ;match b with|true=>t|false=>e
@[simp] theorem qp {α:Type} (t e:α):uk true t e=t:=rfl
@[simp] theorem ue {α:Type} (t e:α):uk false t e=e:=rfl
inductive Pv where
 |arg|new|any
 deriving DecidableEq
def Pv.isNew:Pv→Bool
 | .new=>true
 |_=>false
inductive DC where
 |bool (b:Bool)
 |int (k:IntKind)(n:Int)
 |str (s:aa)
 |sl (p:Pv)(t:Ty)(xs:List t.T)
 |nil
 |own (id ver:Nat)
 |ptr (id off:Nat)
 |eptr (id ver i off:Nat)
 |vw (id ver lo hi:Nat)
 |ref (p:Pv)(cs:List Cell)
 |fn (f:Nat)(ids:List Nat)
 |slx (t:Ty)(xs:List t.T)
 |undef
 |skipped
def DC.ok:DC→Bool
 | .undef=>false
 | .skipped=>false
 |_=>true
inductive DV where
 |v (agg:Bool)(cs:List DC)
 |tup (vs:List (Bool×List DC))
inductive Ob where
 |box (cs:List DC)
 |arr (t:Ty)(xs:List t.T)(ver:Nat)(frz deep:Bool)
inductive MC where
 |c (x:Cell)
 |own (k:Nat)
 |ptr (k:Nat)
inductive PV where
 |val (agg:Bool)(cs:List Cell)
 |fn (f:Nat)(ks:List Nat)
 |wr (agg:Bool)(cs:List MC)
 |nils
 |slx (t:Ty)(xs:List t.T)
inductive MO where
 |box (cs:List MC)
 |arr (t:Ty)(xs:List t.T)
inductive RC where
 |c (x:Cell)
 |own (deep:Bool)(t:Ty)(xs:List t.T)
 |box (cs:List Cell)
 |shr (k n:Nat)
abbrev bS:=List (Bool×List RC)
structure Eff where
 val:DV
 new:List Ob
 upd:List (Nat×Ob)
inductive Rd (α:Type) where
 |ret (a:α)
 |fail
 |tmp (t:Nat)(k:DV→Rd α)
 |get (id:Nat)(k:Ob→Rd α)
 |guard (b:Bool)(k:Rd α)
 |call (f:Nat)(A:List PV)(O:List MO)(k:bS→List MO→Rd α)
inductive TI where
 |sc (f:Fl)
 |sl (t:Ty)(bytes:Nat)
 |st (t:Ty)(fields:List (Nat×Nat))
 |ptr
 |wr (ps:List Bool)
abbrev TE:=List (Nat×TI)
def ae {α:Type}:List (Nat×α)→Nat→Option α
 |[],_=>none
 |(j,a)::r,i=>match Nat.beq j i with
  |true=>some a
  |false=>ae r i
def TI.fl:TI→List Fl
 | .sc f=>[f]| .sl t _=>[.sl t]| .st t _=>t.fl| .ptr=>[]| .wr _=>[]
def TI.rfl:TI→List Fl
 | .ptr=>[.bool]
 |t=>t.fl
def TI.agg:TI→Bool
 | .st _ _=>true
 |_=>false
def Fl.zeroD:Fl→DC
 | .int k=> .int k 0| .bool=> .bool false| .str=> .str []| .sl _=> .nil
def TI.zero:TI→List DC
 | .sc f=>[f.zeroD]| .sl _ _=>[.nil]| .st t _=>t.fl.map Fl.zeroD| .ptr=>[]| .wr _=>[]
def Cell.toD (p:Pv):Cell→DC
 | .bool b=> .bool b| .int k n=> .int k n| .str s=> .str s| .sl t xs=> .sl p t xs
def bn:Nat:=140737488355328
def ah:Nat:=4611686018427387904
def one (c:DC):DV:= .v false [c]
def bG:DV:= .v false [.undef]
def pG:DV:= .v false [.skipped]
def gW (d:DV):Rd Eff:= .ret ⟨d,[],[]⟩
def bA (c:DC):Rd Eff:=gW (one c)
section
variable {α:Type}
def xV (x:Operand)(k:DV→Rd α):Rd α:=
 match x with
 | .tmp t=> .tmp t k
 | .const (.bool b)=>k (one (.bool b))
 | .const (.int kk n)=> .guard (decide (kk.min≤n)&&decide (n≤kk.max)) (k (one (.int kk n)))
 | .const (.string s)=> .guard (Nat.ble s.data.toList.length ah) (k (one (.str s.data.toList)))
 | .const (.slice none 0 0)=>k (one .nil)
 | .const (.pointer none)=>k bG
 | .func f=>k (one (.fn f []))
 |_=> .fail
def fR (x:Operand)(k:DC→Rd α):Rd α:=xV x fun
 | .v false [c]=>k c
 |_=> .fail
def iA (x:Operand)(k:IntKind→Int→Rd α):Rd α:=fR x fun
 | .int kk n=>k kk n
 |_=> .fail
def D8 (x:Operand)(k:Bool→Rd α):Rd α:=fR x fun
 | .bool b=>k b
 |_=> .fail
def qm (f:Fl)(c:DC)(k:Cell→Rd α):Rd α:=
 match c with
 | .bool b=>k (.bool b)
 | .int kk n=>k (.int kk n)
 | .str s=>k (.str s)
 | .sl _ t xs=>k (.sl t xs)
 | .nil=>match f with| .sl t=>k (.sl t [])|_=> .fail
 | .own id ver=> .get id fun| .arr t xs ver' _ _=> .guard (Nat.beq ver ver') (k (.sl t xs))|_=> .fail
 | .vw id ver lo hi=> .get id fun| .arr t xs ver' _ _=> .guard (Nat.beq ver ver') (k (.sl t ((xs.take hi).drop lo)))|_=> .fail
 |_=> .fail
def zS (f:Fl)(c:DC)(k:Cell→Bool→List (Nat×Ob)→Rd α):Rd α:=
 match c with
 | .bool b=>k (.bool b) true []
 | .int kk n=>k (.int kk n) true []
 | .str s=>k (.str s) true []
 | .sl p t xs=>k (.sl t xs) (match p with| .new=>true|_=>false) []
 | .nil=>match f with| .sl t=>k (.sl t []) true []|_=> .fail
 | .own id ver=> .get id fun| .arr t xs ver' _ d=> .guard (Nat.beq ver ver') (k (.sl t xs) d [(id,.arr t xs ver' true d)])|_=> .fail
 |_=> .fail
def kT:List Fl→List DC→(List Cell→Bool→List (Nat×Ob)→Rd α)→Rd α
 |[],[],k=>k [] true []
 |f::fs,c::cs,k=>zS f c λx d u=>kT fs cs λxs d' u'=>k (x::xs) (d&&d') (u++u')
 |_,_,_=> .fail
end
def vN {α:Type}(a:DC)(n:Nat)(k:List DC→Rd α):Rd α:=
 match a with
 | .ptr id off=> .get id fun
  | .box cs=> .guard (Nat.ble (off+n) cs.length) (k ((cs.drop off).take n))
  |_=> .fail
 | .eptr id ver i off=> .get id fun
  | .arr t xs ver' _ d=> .guard (Nat.beq ver ver'&&Nat.ble (off+n) t.size) (k (((t.cells (xs.getD i t.zero)).map (Cell.toD (if d then .new else .any))).drop off |>.take n))
  |_=> .fail
 | .ref p cs=> .guard (Nat.ble n cs.length) (k ((cs.map (Cell.toD p)).take n))
 |_=> .fail
def splice {β:Type}(cs:List β)(off:Nat)(ds:List β):List β:=cs.take off++ds++cs.drop (off+ds.length)
def aO {β:Type}:List β→Nat→β→List β
 |[],_,_=>[]
 |_::r,0,b=>b::r
 |a::r,n+1,b=>a::aO r n b
def pr (x:Nat):List Nat→Bool
 |[]=>false
 |y::r=>Nat.beq y x||pr x r
def BJ (te:TE)(rec:Nat→List DC→List DC→Option Bool):List (Nat×Nat)→List DC→List DC→Option Bool
 |[],_,_=>some true
 |(off,ft)::r,xs,ys=>
  match ae te ft with
  |some ti=>match rec ft ((xs.drop off).take ti.fl.length) ((ys.drop off).take ti.fl.length),BJ te rec r xs ys with
   |some a,some b=>some (a&&b)
   |_,_=>none
  |none=>none
def rg (te:TE):Nat→Nat→List DC→List DC→Option Bool
 |0,_,_,_=>none
 |n+1,t,xs,ys=>
  match ae te t with
  |some (.sc (.int _))=>match xs,ys with
   |[.int k a],[.int k' b]=>if k=k' then some (a==b)else none
   |_,_=>none
  |some (.sc .bool)=>match xs,ys with
   |[.bool a],[.bool b]=>some (a==b)
   |_,_=>none
  |some (.sc .str)=>match xs,ys with
   |[.str a],[.str b]=>some (a==b)
   |_,_=>none
  |some (.st _ fields)=>BJ te (rg te n) fields xs ys
  |_=>none
def A3 (op:BinOp)(k:IntKind)(a b:Int):Rd Eff:=
 match op with
 | .add=>bA (.int k (k.wrap (a+b)))
 | .sub=>bA (.int k (k.wrap (a-b)))
 | .mul=>bA (.int k (k.wrap (a*b)))
 | .quo=> .guard (b != 0) (bA (.int k (k.wrap (a.tdiv b))))
 | .rem=> .guard (b != 0) (bA (.int k (a.tmod b)))
 | .and=>bA (.int k (bits .and k a b))
 | .or=>bA (.int k (bits .or k a b))
 | .xor=>bA (.int k (bits .xor k a b))
 | .andNot=>bA (.int k (bits .andNot k a b))
 | .eql=>bA (.bool (a==b))
 | .neq=>bA (.bool (a != b))
 | .lss=>bA (.bool (decide (a<b)))
 | .leq=>bA (.bool (decide (a≤b)))
 | .gtr=>bA (.bool (decide (b<a)))
 | .geq=>bA (.bool (decide (b≤a)))
 |_=> .fail
def BK (op:BinOp)(s t:aa):Rd Eff:=
 match op with
 | .add=> .guard (Nat.ble (s.length+t.length) ah) (bA (.str (s++t)))
 | .eql=>bA (.bool (s==t))
 | .neq=>bA (.bool (!(s==t)))
 |_=> .fail
def wA (op:BinOp)(k:IntKind)(a b:Int):Rd Eff:=
 match op with
 | .shl=> .guard (decide (0≤b)) (bA (.int k (k.wrap (a*2 ^ (min b.toNat k.bits)))))
 | .shr=> .guard (decide (0≤b)) (bA (.int k (a.fdiv (2 ^ (min b.toNat k.bits)))))
 |_=> .fail
def CP (te:TE)(op:BinOp)(t:Nat)(x y:DV):Rd Eff:=
 match x,y with
 | .v false [.int k a],.v false [.int k' b]=>
  match op with
  | .shl| .shr=>wA op k a b
  |_=>if k=k' then A3 op k a b else .fail
 | .v false [.str s],.v false [.str t]=>BK op s t
 | .v false [.slx _ _],.v false [.nil]=>match ae te t,op with
  |some (.sl _ _),.eql=>bA (.bool false)
  |some (.sl _ _),.neq=>bA (.bool true)
  |_,_=> .fail
 | .v false [.nil],.v false [.nil]=>match ae te t,op with
  |some (.sl _ _),.eql=>bA (.bool true)
  |some (.sl _ _),.neq=>bA (.bool false)
  |_,_=> .fail
 | .v ag cs,.v ag' ds=>
  match ae te t with
  |some ti=>match op,(ag==ti.agg&&ag'==ti.agg&&Nat.beq cs.length ti.fl.length&&Nat.beq ds.length ti.fl.length),rg te 5 t cs ds with
   | .eql,true,some b=>bA (.bool b)
   | .neq,true,some b=>bA (.bool (!b))
   |_,_,_=> .fail
  |none=> .fail
 |_,_=> .fail
def Eg (op:UnOp)(x:DV):Rd Eff:=
 match op,x with
 | .not,.v false [.bool b]=>bA (.bool (!b))
 | .neg,.v false [.int k n]=>bA (.int k (k.wrap (0-n)))
 | .xor,.v false [.int k n]=>bA (.int k (bits .xor k (if k.signed then-1 else k.max) n))
 |_,_=> .fail
def fE (t:Ty):Bool:=t.fl.any fun| .sl _=>true|_=>false
def RC.shares:RC→Bool
 | .c (.sl _ _)=>true
 | .box cs=>cs.any fun| .sl _ _=>true|_=>false
 | .own d t _=> !d&&fE t
 |_=>false
def aq:Nat→List RC→List DC×List Ob×Nat
 |n,[]=>([],[],n)
 |n,.c x::r=>match aq n r with|(cs,os,m)=>(x.toD .any::cs,os,m)
 |n,.own d t xs::r=>match aq (n+1) r with|(cs,os,m)=>(.own n 0::cs,.arr t xs 0 false d::os,m)
 |n,.box bs::r=>match aq (n+1) r with|(cs,os,m)=>(.ptr n 0::cs,.box (bs.map (Cell.toD .any))::os,m)
 |n,.shr _ _::r=>match aq n r with|(cs,os,m)=>(.undef::cs,os,m)
def bR:Nat→bS→List (Bool×List DC)×List Ob
 |_,[]=>([],[])
 |n,(ag,cs)::r=>match aq n cs with
  |(ds,os,m)=>match bR m r with|(vs,os')=>((ag,ds)::vs,os++os')
def r6:List (Bool×List DC)→DV
 |[(ag,cs)]=> .v ag cs
 |vs=> .tup vs
def Bp {α:Type}(ti:TI)(d:DV)(k:PV→List (Nat×Ob)→Rd α):Rd α:=
 match d with
 | .v false [.fn f []]=>k (.fn f []) []
 | .v ag cs=>kT ti.fl cs λxs _ u=>k (.val ag xs) u
 |_=> .fail
def cE:List DC→Option (List Cell)
 |[]=>some []
 |c::r=>match(match c with| .bool b=>some (.bool b)| .int k n=>some (.int k n)| .str s=>some (.str s)| .sl _ t xs=>some (.sl t xs)|_=>none:Option Cell),cE r with
  |some x,some xs=>some (x::xs)
  |_,_=>none
def yX {α:Type}(id ver:Nat)(W:List (Nat×MO×Ob))(k:MC→List (Nat×MO×Ob)→Rd α):Rd α:=
 .get id fun
  | .arr t xs ver' frz d=> .guard (Nat.beq ver ver'&& !frz&& !pr id (W.map (·.1))) (k (.own W.length) (W++[(id,.arr t xs,.arr t xs ver' frz d)]))
  |_=> .fail
def me {α:Type}:List DC→List (Nat×MO×Ob)→(List MC→List (Nat×MO×Ob)→Rd α)→Rd α
 |[],W,k=>k [] W
 |c::cs,W,k=>match c with
  | .bool b=>me cs W λxs W=>k (.c (.bool b)::xs) W
  | .int kk n=>me cs W λxs W=>k (.c (.int kk n)::xs) W
  | .str s=>me cs W λxs W=>k (.c (.str s)::xs) W
  | .sl _ t ys=>me cs W λxs W=>k (.c (.sl t ys)::xs) W
  | .own id ver=>yX id ver W λx W=>me cs W λxs W=>k (x::xs) W
  |_=> .fail
def yP {α:Type}(id:Nat)(W:List (Nat×MO×Ob))(k:Nat→List (Nat×MO×Ob)→Rd α):Rd α:=
 .get id fun
  | .box cs=>me cs W λxs W=> .guard (!pr id (W.map (·.1))) (k W.length (W++[(id,.box xs,.box cs)]))
  |_=> .fail
def sd {α:Type}:List Nat→List (Nat×MO×Ob)→(List Nat→List (Nat×MO×Ob)→Rd α)→Rd α
 |[],W,k=>k [] W
 |id::r,W,k=>yP id W λj W=>sd r W λjs W=>k (j::js) W
def fv {α:Type}(f:Fl)(c:DC)(W:List (Nat×MO×Ob))(k:MC→List (Nat×MO×Ob)→Rd α):Rd α:=
 match c with
 | .bool b=>k (.c (.bool b)) W
 | .int kk n=>k (.c (.int kk n)) W
 | .str s=>k (.c (.str s)) W
 | .nil=>match f with| .sl t=>k (.c (.sl t [])) W|_=> .fail
 | .sl _ t ys=>k (.c (.sl t ys)) W
 | .own id ver=>yX id ver W k
 | .ptr id 0=>yP id W λj W=>k (.ptr j) W
 |_=> .fail
def nw {α:Type}:List Fl→List DC→List (Nat×MO×Ob)→(List MC→List (Nat×MO×Ob)→Rd α)→Rd α
 |[],[],W,k=>k [] W
 |f::fs,c::cs,W,k=>fv f c W λx W=>nw fs cs W λxs W=>k (x::xs) W
 |_,_,_,_=> .fail
def Dl {α:Type}(ti:TI)(d:DV)(W:List (Nat×MO×Ob))(k:PV→List (Nat×MO×Ob)→Rd α):Rd α:=
 match d with
 | .v false [.ptr id off]=>fv .bool (.ptr id off) W λx W=>k (.wr false [x]) W
 | .v false [.fn f ids]=>sd ids W λks W=>k (.fn f ks) W
 | .v ag cs=>nw ti.fl cs W λxs W=>k (.wr ag xs) W
 |_=> .fail
def kr {α:Type}(te:TE):List Bool→List Operand→List TypeId→List (Nat×MO×Ob)→(List PV→List (Nat×Ob)→List (Nat×MO×Ob)→Rd α)→Rd α
 |_,[],[],W,k=>k [] [] W
 |true::ms,x::xs,t::ts,W,k=>xV x λd=>Dl ((ae te t).getD .ptr) d W λa W=>kr te ms xs ts W λas us W=>k (a::as) us W
 |ms,x::xs,t::ts,W,k=>
  match ae te t with
  |some ti=>xV x λd=>Bp ti d λa u=>kr te ms.tail xs ts W λas us W=>k (a::as) (u++us) W
  |none=> .fail
 |_,_,_,_,_=> .fail
def Dk (te:TE)(f:Nat):List Bool:=match ae te (1000000+f)with|some (.wr ps)=>ps|_=>[]
def nX:List DC→List MC→List DC
 |d::ds,c::cs=>(match c with| .c x=>x.toD .any|_=>d)::nX ds cs
 |_,_=>[]
def vJ:Ob→MO→Ob
 | .box ds,.box cs=> .box (nX ds cs)
 | .arr _ _ ver frz d,.arr t xs=> .arr t xs ver frz (d&& !fE t)
 |o,_=>o
def a9:List (Nat×MO×Ob)→List MO→List (Nat×Ob)
 |(id,_,o)::W,m::O=>(id,vJ o m)::a9 W O
 |_,_=>[]
def MO.shares:MO→Bool
 | .box cs=>cs.any fun| .c (.sl _ _)=>true|_=>false
 | .arr t _=>fE t
def kj (base:Nat)(u:List (Nat×Ob))(W:List (Nat×MO×Ob))(R:bS)(O':List MO):Rd Eff:=
 match R with
 |[(false,[.shr k n])]=>match W[k]? with
  |some (id,_,_)=>match ae (a9 W O') id with
   |some (.arr t xs ver false d)=> .ret ⟨one (.own id (ver+1)),[],(if O'.any MO.shares then u else[])++((id,.arr t (xs.take n) (ver+1) false d)::a9 W O')⟩
   |_=> .fail
  |_=> .fail
 |R=>match bR base R with
  |(vs,os)=> .ret ⟨r6 vs,os,(if R.any (λr=>r.2.any RC.shares)||O'.any MO.shares then u else[])++a9 W O'⟩
def sr (te:TE)(base:Nat)(f:Nat)(args:List Operand)(tys:List TypeId)(ids:List Nat):Rd Eff:=
 kr te (Dk te f) args tys [] λA u W=>sd ids W λks W=> .guard (u.all λp=> !pr p.1 (W.map (·.1))) (.call f (A++ks.map λk=> .wr false [.ptr k]) (W.map (·.2.1)) λR O'=>
  kj base u W R O')
def oH (te:TE)(fields:List (Nat×Nat)):List (Nat×Operand)→List DC→(List DC→Rd Eff)→Rd Eff
 |[],cs,k=>k cs
 |(i,x)::r,cs,k=>xV x fun
  | .v _ ds=>match fields[i]? with
   |some (off,ft)=>match ae te ft with
    |some tf=> .guard (Nat.beq ds.length tf.fl.length&&Nat.ble (off+ds.length) cs.length&&ds.all DC.ok) (oH te fields r (splice cs off ds) k)
    |none=> .fail
   |none=> .fail
  |_=> .fail
def mM (t:Ty):List (Nat×Operand)→List t.T→Bool→List (Nat×Ob)→(List t.T→Bool→List (Nat×Ob)→Rd Eff)→Rd Eff
 |[],xs,d,u,k=>k xs d u
 |(i,x)::r,xs,d,u,k=>xV x fun
  | .v _ ds=> .guard (ds.all DC.ok) (kT t.fl ds λcs d' u'=>match t.get cs with
   |some e=> .guard (Nat.blt i xs.length) (mM t r (aO xs i e) (d&&d') (u++u') k)
   |none=> .fail)
  |_=> .fail
def Ed:Option Operand→Bool
 |some (.const _)=>true
 |_=>false
def AA (lo hi:Option Operand)(len:Int)(fin:Int→Int→Rd Eff):Rd Eff:=
 match lo with
 |none=>match hi with
  |none=>fin 0 len
  |some x=>iA x λ_ m=>fin 0 m
 |some y=>iA y λ_ l=>match hi with
  |none=>fin l len
  |some x=>iA x λ_ m=>fin l m
def zm (te:TE)(t':TypeId)(ty:Ty)(c:DC)(k:List ty.T→Bool→Rd Eff):Rd Eff:=
 match ae te t' with
 |some (.sc .str)=>match c with
  | .str b=>if h:Ty.u8=ty then k (h▸(b.map λc=>(c.toNat:Int):List Ty.u8.T)) true else .fail
  |_=> .fail
 |some (.sl ty' _)=>match c with
  | .sl p t1 ys=> .guard (decide (ty'=ty)) (if h:t1=ty then k (h▸ys) (!fE ty||p.isNew)else .fail)
  | .slx t1 ys=> .guard (decide (ty'=ty)) (if h:t1=ty then k (h▸ys) (!fE ty)else .fail)
  | .nil=> .guard (decide (ty'=ty)) (k [] true)
  | .own id ver=> .get id fun
   | .arr t1 ys ver' _ d=> .guard (decide (ty'=ty)&&Nat.beq ver ver') (if h:t1=ty then k (h▸ys) (!fE ty||d)else .fail)
   |_=> .fail
  |_=> .fail
 |_=> .fail
def vF {α:Type}:List Operand→(List Nat→Rd α)→Rd α
 |[],k=>k []
 |x::r,k=>fR x fun
  | .ptr id 0=>vF r λids=>k (id::ids)
  |_=> .fail
def Ec (te:TE)(t:TypeId):Bool:=match ae te t with|some (.sl _ _)=>true|_=>false
def bT (te:TE)(base:Nat):Op→Rd Eff
 | .move x| .assign x=>xV x gW
 | .pick c a b=>D8 c λp=>xV a λda=>xV b λdb=>
  match da,db with
  | .v false [.bool x],.v false [.bool y]=>bA (.bool (bif p then x else y))
  |_,.v false [.skipped]=> .guard p (gW da)
  | .v false [.skipped],_=> .guard (!p) (gW db)
  |_,_=> .fail
 | .alloc e=>match ae te e with
  |some ti=> .guard (Nat.ble 1 ti.zero.length) (.ret ⟨one (.ptr base 0),[.box ti.zero],[]⟩)
  |none=> .fail
 | .box e x=>match ae te e with
  |some _=>xV x fun
   | .v _ cs=> .guard (cs.all DC.ok) (.ret ⟨one (.ptr base 0),[.box cs],[]⟩)
   |_=> .fail
  |none=> .fail
 | .build t parts=>match ae te t with
  |some (.st ty fields)=>oH te fields parts.toList (ty.fl.map Fl.zeroD) λcs=>gW (.v true cs)
  |_=> .fail
 | .buildSlice t len parts=>match ae te t with
  |some (.sl ty _)=> .guard (Nat.ble (len*ty.size) 16777216) (mM ty parts.toList (List.replicate len ty.zero) true [] λxs d u=> .ret ⟨one (.own base 0),[.arr ty xs 0 false d],u⟩)
  |_=> .fail
 | .load t a=>match ae te t with
  |some ti=>fR a λp=>vN p ti.fl.length λcs=> .guard (Nat.ble 1 ti.fl.length) (gW (.v ti.agg cs))
  |none=> .fail
 | .store t a x=>match ae te t with
  |some ti=>fR a λp=>xV x fun
   | .v _ ds=> .guard (Nat.beq ds.length ti.fl.length&&ds.all DC.ok&&Nat.ble 1 ti.fl.length) (match p with
    | .ptr id off=> .get id fun
     | .box cs=> .guard (Nat.ble (off+ds.length) cs.length) (.ret ⟨bG,[],[(id,.box (splice cs off ds))]⟩)
     |_=> .fail
    | .eptr id ver i off=> .get id fun
     | .arr ty xs ver' frz d=> .guard (Nat.beq ver ver'&& !frz&&Nat.ble (off+ds.length) ty.size) (kT ti.fl ds λcs d' u=>
       match ty.get (splice (ty.cells (xs.getD i ty.zero)) off cs)with
       |some e=> .guard (!pr id (u.map (·.1))) (.ret ⟨bG,[],u++[(id,.arr ty (xs.set i e) ver' frz (d&&d'))]⟩)
       |none=> .fail)
     |_=> .fail
    |_=> .fail)
   |_=> .fail
  |none=> .fail
 | .binOp op t x y _=>xV x λa=>xV y λb=>CP te op t a b
 | .unOp op _ x=>xV x λa=>Eg op a
 | .convert s d x=>match ae te s,ae te d with
  |some (.sc (.int _)),some (.sc (.int k))=>iA x λ_ n=>bA (.int k (k.wrap n))
  |some (.sc .str),some (.sc .str)=>fR x fun| .str b=>bA (.str b)|_=> .fail
  |some (.sc .str),some (.sl .u8 _)=>fR x fun
   | .str b=> .guard (Nat.ble b.length bn) (.ret ⟨one (.own base 0),[.arr .u8 (b.map λc=>(c.toNat:Int)) 0 false true],[]⟩)
   |_=> .fail
  |some (.sl .u8 _),some (.sc .str)=>fR x λc=>qm (.sl .u8) c fun
   | .sl .u8 xs=>bA (.str (List.map (λn:Int=>UInt8.ofNat n.toNat) xs))
   |_=> .fail
  |_,_=> .fail
 | .makeSlice t l c=>match ae te t with
  |some (.sl ty by_)=>iA l λkl n=>iA c λkc m=>
    .guard (kl== .i64&&kc== .i64&&decide (0≤n)&&decide (n=m)&&decide (n*by_≤bn)&&decide (n≤bn)) (.ret ⟨one (.own base 0),[.arr ty (List.replicate n.toNat ty.zero) 0 false true],[]⟩)
  |_=> .fail
 | .slice t x lo hi mx=>match ae te t,mx with
  |some (.sc .str),none=>fR x fun
   | .str s=>AA lo hi s.length λl h=> .guard (decide (0≤l)&&decide (l≤h)&&decide (h≤(s.length:Int))) (bA (.str ((s.take h.toNat).drop l.toNat)))
   |_=> .fail
  |some (.sl ty _),none=>fR x fun
   | .sl p t' xs=>AA lo hi xs.length λl h=> .guard (decide (t'=ty)&&decide (0≤l)&&decide (l≤h)&&decide (h≤(xs.length:Int))) (bA (.sl p t' ((xs.take h.toNat).drop l.toNat)))
   | .own id ver=> .get id fun
    | .arr t' xs ver' frz d=> .guard (Nat.beq ver ver') (AA lo hi xs.length λl h=> .guard (decide (t'=ty)&&decide (0≤l)&&decide (l≤h)&&decide (h≤(xs.length:Int)))
      (bif (decide (t'= .u8)||(ae te (4000000+t)).isSome&& !Ed lo)&& !frz then bA (.vw id ver l.toNat h.toNat)else .ret ⟨one (.sl .any t' ((xs.take h.toNat).drop l.toNat)),[],[(id,.arr t' xs ver' true d)]⟩))
    |_=> .fail
   | .vw id ver lo0 hi0=> .get id fun
    | .arr t' xs ver' _ _=> .guard (Nat.beq ver ver'&&Nat.beq lo0 0) (AA lo hi hi0 λl h=> .guard (decide (t'=ty)&&decide (0≤l)&&decide (l≤h)&&decide (h≤(xs.length:Int))) (bA (.vw id ver l.toNat h.toNat)))
    |_=> .fail
   | .nil=>AA lo hi 0 λl h=> .guard (decide (0≤l)&&decide (l≤h)&&decide (h≤0)) (bA (.sl .new ty []))
   |_=> .fail
  |some (.sl ty _),some m=>match lo,hi with
   |none,some z=>fR x λc=>iA z λ_ h=>iA m λ_ k=> .guard (decide (h=0)&&decide (k=0)) (qm (.sl ty) c fun
    | .sl _ _=> .ret ⟨one (.own base 0),[.arr ty [] 0 false true],[]⟩
    |_=> .fail)
   |some y,some z=>fR x fun
    | .own id ver=> .get id fun
     | .arr _ xs ver' _ _=>iA y λ_ l=>iA z λ_ h=>iA m λ_ k=> .guard (Nat.beq ver ver'&&decide (0≤l)&&decide (l≤h)&&decide (h≤k)&&decide (k≤(xs.length:Int))) (bA .undef)
     |_=> .fail
    |_=> .fail
   |_,_=> .fail
  |_,_=> .fail
 | .fieldAddr s x f=>match ae te s with
  |some (.st _ fields)=>match fields[f]? with
   |some (off,_)=>fR x fun
    | .ptr id o=>bA (.ptr id (o+off))
    | .eptr id ver i o=> .get id fun
     | .arr _ _ ver' _ _=> .guard (Nat.beq ver ver') (bA (.eptr id ver i (o+off)))
     |_=> .fail
    | .ref p cs=>bA (.ref p (cs.drop off))
    |_=> .fail
   |none=> .fail
  |_=> .fail
 | .indexAddr t x ix=>match ae te t with
  |some (.sl ty0 _)=>fR x λc=>iA ix λ_ n=>
   match c with
   | .sl p ty xs=> .guard (decide (ty=ty0)&&decide (0≤n)&&decide (n<(xs.length:Int))) (bA (.ref p (ty.cells (xs.getD n.toNat ty.zero))))
   | .own id ver=> .get id fun
    | .arr ty xs ver' _ _=> .guard (decide (ty=ty0)&&Nat.beq ver ver'&&decide (0≤n)&&decide (n<(xs.length:Int))) (bA (.eptr id ver n.toNat 0))
    |_=> .fail
   |_=> .fail
  |_=> .fail
 | .index t x ix=>match ae te t with
  |some (.sc .str)=>fR x fun
   | .str s=>iA ix λ_ n=> .guard (decide (0≤n)&&decide (n<(s.length:Int))) (bA (.int .u8 ((s.getD n.toNat 0).toNat:Int)))
   |_=> .fail
  |_=> .fail
 | .extract x i=>xV x fun
  | .tup vs=>match vs[i]? with
   |some (ag,cs)=>gW (.v ag cs)
   |none=> .fail
  |_=> .fail
 | .nilCheck x=>fR x fun
  | .ptr id o=>bA (.ptr id o)
  | .ref p cs=>bA (.ref p cs)
  | .fn f caps=>bA (.fn f caps)
  |_=> .fail
 | .makeFunc (.func f) first captured=>match first.toList with
  |[]=>vF captured.toList λids=>bA (.fn f ids)
  |_=> .fail
 | .call {callee:= .value (.func f),args,argTypes}=>sr te base f args.toList argTypes.toList []
 | .call {callee:= .value (.tmp t),args,argTypes}=>fR (.tmp t) fun
  | .fn f ids=>sr te base f args.toList argTypes.toList ids
  |_=> .fail
 | .call {callee:= .builtin .len,args,argTypes}=>match args.toList,argTypes.toList with
  |[x],[t]=>match ae te t with
   |some (.sc .str)=>fR x fun| .str s=>bA (.int .i64 s.length)|_=> .fail
   |some (.sl ty _)=>fR x λc=>qm (.sl ty) c fun| .sl _ xs=>bA (.int .i64 xs.length)|_=> .fail
   |_=> .fail
  |_,_=> .fail
 | .call {callee:= .builtin .append,args,argTypes}=>match args.toList,argTypes.toList with
  |[x,y],[t,t']=>match ae te t with
   |some (.sl ty by_)=>fR x λc=>fR y λc'=>match c with
    | .nil=>zm te t' ty c' λys d'=> .guard (Nat.ble ((2*ys.length+1024)*by_) bn) (.ret ⟨one (.own base 0),[.arr ty ys 0 false d'],[]⟩)
    | .own id ver=> .get id fun
     | .arr t0 xs ver' frz d=> .guard (decide (t0=ty)&&Nat.beq ver ver'&& !frz) (zm te t' t0 c' λys d'=> .guard (Nat.ble ((2*(xs.length+ys.length)+1024)*by_) bn) (.ret ⟨one (.own id (ver'+1)),[],[(id,.arr t0 (xs++ys) (ver'+1) false (d&&d'))]⟩))
     |_=> .fail
    | .vw id ver lo0 i=>match c' with
     | .vw id2 ver2 j n2=> .get id fun
      | .arr t0 xs ver' frz d=> .guard (decide (t0=ty)&&Nat.beq ver ver'&& !frz&&Nat.beq id2 id&&Nat.beq ver2 ver'&&Nat.beq lo0 0&&Nat.ble i j&&Nat.beq n2 xs.length&&Ec te t') (.ret ⟨one (.vw id ver' 0 (i+(xs.length-j))),[],[(id,.arr t0 (xs.take i++xs.drop j++xs.drop (i+(xs.length-j))) ver' frz d)]⟩)
      |_=> .fail
     |_=> .fail
    |_=> .fail
   |_=> .fail
  |_,_=> .fail
 | .call {callee:= .builtin .clear,args,argTypes}=>match args.toList,argTypes.toList with
  |[x],[t]=>match ae te t with
   |some (.sl ty _)=>fR x fun
    | .vw id ver lo hi=> .get id fun
     | .arr t0 xs ver' frz d=> .guard (decide (t0=ty)&&Nat.beq ver ver'&& !frz) (.ret ⟨.tup [],[],[(id,.arr t0 (xs.take lo++List.replicate (hi-lo) t0.zero++xs.drop hi) ver' frz d)]⟩)
     |_=> .fail
    |_=> .fail
   |_=> .fail
  |_,_=> .fail
 | .call {callee:= .builtin .copy,args,argTypes}=>match args.toList,argTypes.toList with
  |[x,y],[t,t']=>match ae te t,ae te t' with
   |some (.sl .u8 _),some (.sl .u8 _)=>fR x λc=>fR y λc'=>match c with
    | .own id ver=> .get id fun
     | .arr .u8 xs ver' frz d=> .guard (Nat.beq ver ver'&& !frz) (qm (.sl .u8) c' fun
      | .sl .u8 ys=> .ret ⟨one (.int .i64 ((ys.take xs.length).length:Nat)),[],[(id,.arr .u8 (ys.take xs.length++xs.drop (ys.take xs.length).length) ver' frz d)]⟩
      |_=> .fail)
     |_=> .fail
    |_=> .fail
   |_,_=> .fail
  |_,_=> .fail
 | .call {callee:= .builtin .min,args, .. }=>match args.toList with
  |[x,y]=>iA x λk a=>iA y λk' b=> .guard (decide (k=k')) (bA (.int k (if b<a then b else a)))
  |[x,y,z]=>iA x λk a=>iA y λk' b=>iA z λk'' c=> .guard (decide (k=k')&&decide (k=k'')) (bA (.int k (if c<(if b<a then b else a)then c else(if b<a then b else a))))
  |_=> .fail
 | .call {callee:= .builtin .max,args, .. }=>match args.toList with
  |[x,y]=>iA x λk a=>iA y λk' b=> .guard (decide (k=k')) (bA (.int k (if a<b then b else a)))
  |_=> .fail
 |_=> .fail
structure St where
 fr:List (Nat×DV)
 st:List (Nat×Ob)
 nx:Nat
def St.tmp (s:St)(t:Nat):DV:=(ae s.fr t).getD bG
def St.obj (s:St)(id:Nat):Option Ob:=ae s.st id
def St.set (s:St)(t:Nat)(d:DV):St:={s with fr:=(t,d)::s.fr}
def xn:=Nat→List PV→List MO→(γ:Type)→(bS→List MO→Option γ)→Option γ
def Rd.runK {α γ:Type}(orc:xn)(s:St):Rd α→List Nat→List Nat→(α→List Nat→List Nat→Option γ)→Option γ
 | .ret a,tr,ir,k=>k a tr ir
 | .fail,_,_,_=>none
 | .tmp t c,tr,ir,k=>(c (s.tmp t)).runK orc s (t::tr) ir k
 | .get id c,tr,ir,k=>match s.obj id with
  |some o=>(c o).runK orc s tr (id::ir) k
  |none=>none
 | .guard b c,tr,ir,k=>uk b (c.runK orc s tr ir k) none
 | .call f A O c,tr,ir,k=>orc f A O γ λR O'=>(c R O').runK orc s tr ir k
def ar:Nat→List Ob→List (Nat×Ob)
 |_,[]=>[]
 |n,o::r=>(n,o)::ar (n+1) r
def St.apply (s:St)(base:Nat)(dst:Option Nat)(e:Eff):St:=
 let s:={s with st:=e.upd++ar base e.new++s.st}
 match dst with
 |some d=>s.set d e.val
 |none=>s
structure LogE where
 i:Nat
 tr:List Nat
 ir:List Nat
 dst:Option Nat
 iw:List Nat
def sC:List Nat→List Nat→Bool
 |[],_=>false
 |x::r,l=>pr x l||sC r l
def er (a b:LogE):Bool:=
 sC a.dst.toList (b.tr++b.dst.toList)||sC b.dst.toList a.tr||sC a.iw (b.ir++b.iw)||sC b.iw a.ir
def after (ops:List Oper)(i:Nat):List Nat:=
 match ops[i]? with
 |some o=>o.after.toList.filterMap λe=>if Region.binds .any e then some e.on else none
 |none=>[]
def iu (ops:List Oper):Nat→Nat→Nat→Bool
 |0,_,_=>false
 |n+1,i,j=>let l:=after ops i;pr j l||l.any λm=>Nat.blt j m&&iu ops n m j
def fo (ops:List Oper):List LogE→Bool
 |[]=>true
 |b::r=>(r.all λa=> !er a b||iu ops ops.length a.i b.i)&&fo ops r
def eJ (ops:List Oper):Bool:=(List.range ops.length).all λi=>(after ops i).all λj=>Nat.blt j i
def w9 (ops:List Oper)(j:Nat):Option Nat:=(ops[j]?).bind (·.dst)
def rG {γ:Type}(te:TE)(orc:xn)(n:Nat)(ops:List Oper)(base:Nat):List Oper→Nat→St→List LogE→(St→List LogE→Option γ)→Option γ
 |[],_,s,log,k=>k s log
 |o::r,i,s,log,k=>
  let go:=λ(s:St) (tr0:List Nat)=>
   (bT te (base+64*i) o.op).runK orc s tr0 [] λe tr ir=>
    let ids:=(ar (base+64*i) e.new).map (·.1)
    uk ((o.dst.toList.all λd=>Nat.blt d n)&&Nat.ble e.new.length 64&&(e.upd.all λu=>pr u.1 ir))
     (rG te orc n ops base r (i+1) (s.apply (base+64*i) o.dst e) (log++[⟨i,tr,ir,o.dst,e.upd.map (·.1)++ids⟩]) k) none
  let skip:=λ(s:St) (tr0:List Nat)=>
   uk (o.dst.toList.all λd=>Nat.blt d n)
    (rG te orc n ops base r (i+1) (match o.dst with|some d=>s.set d pG|none=>s) (log++[⟨i,tr0,[],o.dst,[]⟩]) k) none
  match o.guard with
  |none=>go s []
  |some (j,want)=>
   match w9 ops j with
   |some t=>match s.tmp t with
    | .v false [.bool b]=>
     uk b (match want with|true=>go (s.set t (one (.bool true))) [t]|false=>skip (s.set t (one (.bool true))) [t])
      (match want with|false=>go (s.set t (one (.bool false))) [t]|true=>skip (s.set t (one (.bool false))) [t])
    | .v false [.skipped]=>skip s [t]
    |_=>none
   |none=>none
inductive Ex where
 |normal|exit (id:Nat)|ret
structure Gc where
 map:List (Nat×Nat)
 out:List (Nat×Ob)
 nx:Nat
def DC.ids:DC→List Nat
 | .own id _=>[id]| .ptr id _=>[id]| .eptr id _ _ _=>[id]| .vw id _ _ _=>[id]| .fn _ ids=>ids
 |_=>[]
def Ob.ids:Ob→List Nat
 | .box cs=>cs.flatMap DC.ids
 | .arr .. =>[]
def DV.ids:DV→List Nat
 | .v _ cs=>cs.flatMap DC.ids
 | .tup vs=>vs.flatMap λv=>v.2.flatMap DC.ids
def bN (st:List (Nat×Ob)):Nat→List Nat→List Nat→List Nat
 |0,_,seen=>seen
 |_+1,[],seen=>seen
 |n+1,x::todo,seen=>
  match pr x seen with
  |true=>bN st n todo seen
  |false=>match ae st x with
   |some o=>bN st n (todo++o.ids) (seen++[x])
   |none=>bN st n todo seen
def CS (st:List (Nat×Ob))(id:Nat):Option Nat:=
 match ae st id with
 |some (.arr _ _ v _ _)=>some v
 |_=>none
def f5:List Nat→Nat→Nat→Option Nat
 |[],_,_=>none
 |y::r,x,n=>match Nat.beq y x with|true=>some n|false=>f5 r x (n+1)
def Cj (r m v:Nat):Nat:=match Nat.blt m r with|true=>v|false=>0
def kW (l:List Nat):List Nat→Option (List Nat)
 |[]=>some []
 |x::r=>match f5 l x 0,kW l r with
  |some m,some ms=>some (m::ms)
  |_,_=>none
def DC.ren (r:Nat)(st:List (Nat×Ob))(seen:List Nat):DC→DC
 | .own id ver=>match f5 seen id 0,CS st id with
  |some m,some v=>(match Nat.beq v ver with|true=> .own m (Cj r m v)|false=> .undef)
  |_,_=> .undef
 | .ptr id off=>match f5 seen id 0 with|some m=> .ptr m off|none=> .undef
 | .eptr _ _ _ _=> .undef
 | .vw _ _ _ _=> .undef
 | .fn f ids=>match kW seen ids with|some ms=> .fn f ms|none=> .undef
 |c=>c
def Ob.ren (r m:Nat)(st:List (Nat×Ob))(seen:List Nat):Ob→Ob
 | .box cs=> .box (cs.map (DC.ren r st seen))
 | .arr t xs v frz d=> .arr t xs (Cj r m v) frz d
def DV.ren (r:Nat)(st:List (Nat×Ob))(seen:List Nat):DV→DV
 | .v ag cs=> .v ag (cs.map (DC.ren r st seen))
 | .tup vs=> .tup (vs.map λv=>(v.1,v.2.map (DC.ren r st seen)))
def eV (r:Nat)(st:List (Nat×Ob))(seen:List Nat):List Nat→Nat→List (Nat×Ob)
 |[],_=>[]
 |x::l,n=>match ae st x with
  |some o=>(n,o.ren r n st seen)::eV r st seen l (n+1)
  |none=>eV r st seen l (n+1)
def St.norm0 (r:Nat)(keep:List Nat)(s:St):St:=
 let vs:=keep.map λt=>(t,s.tmp t)
 let seen:=bN s.st 10000 (List.range r++vs.flatMap λv=>v.2.ids) []
 ⟨vs.map λv=>(v.1,v.2.ren r s.st seen),eV r s.st seen seen 0,seen.length⟩
inductive NL where
 |tmp (t j:Nat)(ty:Ty)|box (t j:Nat)(ty:Ty)|soft (t j:Nat)|softo (id j:Nat)|softb (t j:Nat)
def Bh:Option DC→Bool
 |some .nil=>true
 |_=>false
def St.softO (s:St)(id j:Nat):St:=
 match s.obj id with
 |some (.box cs)=>match cs[j]? with
  |some (.sl _ ty xs)=>⟨s.fr,(id,.box (aO cs j (.sl .any ty xs)))::s.st,s.nx⟩
  |some (.own id2 ver)=>match s.obj id2 with
   |some (.arr ty xs ver' _ d)=>match Nat.beq ver ver' with
    |true=>⟨s.fr,(id,.box (aO cs j (.sl .any ty xs)))::(id2,.arr ty xs ver' true d)::s.st,s.nx⟩
    |false=>s
   |_=>s
  |_=>s
 |_=>s
def St.ownNil (s:St):NL→St
 | .tmp t j ty=>match s.tmp t with
  | .v ag cs=>match Bh cs[j]? with
   |true=>⟨(t,.v ag (aO cs j (.own s.nx 0)))::s.fr,(s.nx,.arr ty [] 0 false true)::s.st,s.nx+1⟩
   |false=>s
  |_=>s
 | .box t j ty=>match s.tmp t with
  | .v false [.ptr id _]=>match s.obj id with
   |some (.box cs)=>match Bh cs[j]? with
    |true=>⟨s.fr,(s.nx,.arr ty [] 0 false true)::(id,.box (aO cs j (.own s.nx 0)))::s.st,s.nx+1⟩
    |false=>s
   |_=>s
  |_=>s
 | .soft t j=>match s.tmp t with
  | .v ag cs=>match cs[j]? with
   |some (.own id ver)=>match s.obj id with
    |some (.arr ty xs ver' _ d)=>match Nat.beq ver ver' with
     |true=>⟨(t,.v ag (aO cs j (.sl .any ty xs)))::s.fr,(id,.arr ty xs ver' true d)::s.st,s.nx⟩
     |false=>s
    |_=>s
   |some (.sl _ ty xs)=>⟨(t,.v ag (aO cs j (.sl .any ty xs)))::s.fr,s.st,s.nx⟩
   |some (.vw id ver lo hi)=>match s.obj id with
    |some (.arr ty xs ver' _ d)=>match Nat.beq ver ver' with
     |true=>⟨(t,.v ag (aO cs j (.sl .any ty ((xs.take hi).drop lo))))::s.fr,(id,.arr ty xs ver' true d)::s.st,s.nx⟩
     |false=>s
    |_=>s
   |_=>s
  |_=>s
 | .softo id j=>s.softO id j
 | .softb t j=>match s.tmp t with
  | .v false [.ptr id _]=>s.softO id j
  |_=>s
def Ob.shallow:Ob→Ob
 | .box cs=> .box cs
 | .arr t xs v f _=> .arr t xs v f false
def St.shallow (s:St):St:={s with st:=s.st.map λp=>(p.1,p.2.shallow)}
structure Keep where
 ts:List Nat
 nils:List NL
 shal:Bool
 roots:Nat
def fZ:List NL→St→St
 |[],s=>s
 |x::r,s=>fZ r (s.ownNil x)
def St.norm (K:Keep)(s:St):St:=
 let s1:=(fZ K.nils s).norm0 K.roots K.ts
 match K.shal with|true=>s1.shallow|false=>s1
def ua {γ:Type}(keep kout:Keep)(round:St→(Ex→St→Option γ)→Option γ):Nat→St→(Ex→St→Option γ)→Option γ
 |0,_,_=>none
 |m+1,s,k=>round s fun
  | .normal,s'=>ua keep kout round m (s'.norm keep) k
  |e,s'=>k e (s'.norm kout)
def MC.toD:MC→DC
 | .c x=>x.toD .arg| .own k=> .own k 0| .ptr k=> .ptr k 0
def PV.toV:PV→DV
 | .val ag cs=> .v ag (cs.map (Cell.toD .arg))
 | .fn f ks=>one (.fn f ks)
 | .wr ag cs=> .v ag (cs.map MC.toD)
 | .nils=>one .nil
 | .slx t xs=>one (.slx t xs)
def MO.toOb:MO→Ob
 | .box cs=> .box (cs.map MC.toD)
 | .arr t xs=> .arr t xs 0 false false
def jt:Nat→List PV→List (Nat×DV)
 |_,[]=>[]
 |n,a::r=>(n,a.toV)::jt (n+1) r
def qg (s:St)(rn:Nat)(f:Fl)(c:DC)(used:List Nat)(k:RC→List Nat→Option bS):Option bS:=
 match c with
 | .bool b=>k (.c (.bool b)) used
 | .int kk n=>k (.c (.int kk n)) used
 | .str x=>k (.c (.str x)) used
 | .sl _ t xs=>k (.c (.sl t xs)) used
 | .nil=>match f with| .sl t=>k (.own true t []) used|_=>none
 | .own id ver=>match s.obj id with
  |some (.arr t xs ver' frz d)=>match Nat.beq ver ver',frz||pr id used with
   |true,false=>(match Nat.blt id rn with|false=>k (.own d t xs) (id::used)|true=>none)
   |true,true=>match frz with|true=>k (.c (.sl t xs)) used|false=>none
   |_,_=>none
  |_=>none
 | .ptr id 0=>match s.obj id with
  |some (.box cs)=>match pr id used||Nat.blt id rn,cE cs with
   |false,some xs=>k (.box xs) (id::used)
   |_,_=>none
  |_=>none
 |_=>none
def j9 (s:St)(rn:Nat):List Fl→List DC→List Nat→(List RC→List Nat→Option bS)→Option bS
 |[],[],used,k=>k [] used
 |f::fs,c::cs,used,k=>qg s rn f c used λx used=>j9 s rn fs cs used λxs used=>k (x::xs) used
 |_,_,_,_=>none
def yz (te:TE)(s:St)(rn:Nat)(r:ResultVar)(t:TypeId)(used:List Nat)(k:(Bool×List RC)→List Nat→Option bS):Option bS:=
 match ae te t with
 |some ti=>
  match r with
  | .tmp x=>match s.tmp x with
   | .v ag cs=>match ag==ti.agg with
    |true=>j9 s rn ti.rfl cs used λxs used=>k (ag,xs) used
    |false=>none
   |_=>none
  | .cell a t'=>match Nat.beq t t',s.tmp a with
   |true,.v false [.ptr id off]=>match s.obj id with
    |some (.box cs)=>match Nat.ble (off+ti.fl.length) cs.length&&Nat.ble 1 ti.fl.length with
     |true=>j9 s rn ti.fl ((cs.drop off).take ti.fl.length) used λxs used=>k (ti.agg,xs) used
     |false=>none
    |_=>none
   |_,_=>none
 |none=>none
def oI (te:TE)(s:St)(rn:Nat):List ResultVar→List TypeId→List Nat→(bS→Option bS)→Option bS
 |[],[],_,k=>k []
 |r::rs,t::ts,used,k=>yz te s rn r t used λx used=>oI te s rn rs ts used λxs=>k (x::xs)
 |_,_,_,_=>none
def xZ (s:St)(rn:Nat)(c:DC):Option (Nat×Nat):=
 match c with
 | .own id ver=>match s.obj id with
  |some (.arr _ xs ver' _ _)=>match Nat.blt id rn&&Nat.beq ver 0&&Nat.beq ver' 0 with
   |true=>some (id,xs.length)
   |false=>none
  |_=>none
 | .vw id ver lo hi=>match s.obj id with
  |some (.arr _ _ ver' _ _)=>match Nat.blt id rn&&Nat.beq ver 0&&Nat.beq ver' 0&&Nat.beq lo 0 with
   |true=>some (id,hi)
   |false=>none
  |_=>none
 |_=>none
def y6 (te:TE)(s:St)(rn:Nat)(rs:List ResultVar)(ts:List TypeId)(k:bS→Option bS):Option bS:=
 match rs with
 |[.tmp x]=>match s.tmp x with
  | .v false [c]=>match xZ s rn c with
   |some (id,n)=>k [(false,[.shr id n])]
   |none=>oI te s rn rs ts [] k
  |_=>oI te s rn rs ts [] k
 |_=>oI te s rn rs ts [] k
def Ac:MC→RC
 | .c x=> .c x
 | .own k=> .own true .i64 [(k:Int)]
 | .ptr k=> .own false .i64 [(k:Int)]
def j6:MO→Bool×List RC
 | .box cs=>(true,cs.map Ac)
 | .arr t xs=>(false,[.c (.sl t xs)])
def uC (s:St)(rn:Nat):List MC→List DC→Option (List MC)
 |[],[]=>some []
 | .c _::ds,c::cs=>match cE [c],uC s rn ds cs with
  |some [x],some xs=>some (.c x::xs)
  |_,_=>none
 | .own k::ds,.own j ver::cs=>match Nat.beq k j&&Nat.beq ver 0&&Nat.blt k rn,s.obj k,uC s rn ds cs with
  |true,some (.arr _ _ 0 _ _),some xs=>some (.own k::xs)
  |_,_,_=>none
 |_,_=>none
def y5 (s:St)(rn id:Nat)(o:MO)(k:MO→Option bS):Option bS:=
 match o,s.obj id with
 | .box ds,some (.box cs)=>match uC s rn ds cs with
  |some xs=>k (.box xs)
  |none=>none
 | .arr t0 _,some (.arr t xs ver frz _)=>match Nat.beq ver 0&& !frz&&decide (t=t0)with
  |true=>k (.arr t xs)
  |false=>none
 |_,_=>none
def li (s:St)(rn:Nat):List MO→Nat→(List MO→Option bS)→Option bS
 |[],_,k=>k []
 |o::O,id,k=>y5 s rn id o λx=>li s rn O (id+1) λxs=>k (x::xs)
def MC.fits (O:List MO):MC→Bool
 | .c _=>true
 | .own k=>match O[k]? with|some (.arr _ _)=>true|_=>false
 | .ptr k=>match O[k]? with|some (.box _)=>true|_=>false
def PV.fits (O:List MO):PV→Bool
 | .wr _ cs=>cs.all (MC.fits O)
 | .fn _ ks=>ks.all λk=>MC.fits O (.ptr k)
 |_=>true
def MO.fits (O:List MO):MO→Bool
 | .box cs=>cs.all (MC.fits O)
 |_=>true
end Go.Proofs.YtfpdenjmlnhnnaaGreatDoor
