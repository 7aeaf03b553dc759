/- An executor of the model's code on plain symbolic data (definitions alone). Nothing of the dump is named here. -/
import Derived.Test.YtffjmkhjhchnmaaGreatDom
set_option linter.unusedVariables false
set_option linter.unusedSimpArgs false
namespace Go.Proofs.YtffjmkhjhchnmaaGreat
open Go
def RB:Nat:=0
def Rz:Nat:=RB
def RE:Nat:=Rz
def RF:Nat:=RE
def RH:Nat:=RF
def Rv:Nat:=RH
def C6 {α:Type}(b:Bool)(t e:α):α:=let _h:=Rv;match b with|true=>t|false=>e
@[simp] theorem BT {α:Type} (t e:α):C6 true t e=t:=rfl
@[simp] theorem Ea {α:Type} (t e:α):C6 false t e=e:=rfl
inductive Pv where
 |arg|new|any
 deriving DecidableEq
def Pv.isNew:Pv→Bool
 | .new=>true
 |_=>false
inductive DC where
 |bool (b:Bool)
 |int (k:IntKind)(n:Int)
 |raw (v:Value)
 |str (s:ah)
 |sl (p:Pv)(t:Ty)(xs:List t.T)
 |nil
 |own (id ver:Nat)
 |ptr (id off:Nat)
 |eptr (id ver i off:Nat)
 |vw (id ver lo hi:Nat)
 |down (id ver:Nat)
 |dptr (id ver i off:Nat)
 |inn (id iv i off:Nat)
 |iptr (id iv i off n o:Nat)
 |bsl (id:Nat)
 |ref (p:Pv)(cs:List Cell)
 |fn (f:Nat)(ids:List Nat)
 |slx (t:Ty)(xs:List t.T)
 |undef
 |skipped
def DC.ok:DC→Bool
 | .undef=>false
 | .skipped=>false
 |_=>true
inductive DV where
 |v (agg:Bool)(cs:List DC)
 |tup (vs:List (Bool×List DC))
inductive Ob where
 |box (cs:List DC)
 |arr (t:Ty)(xs:List t.T)(ver:Nat)(frz deep:Bool)
 |dar (t:Ty)(xs:List t.T)(ver iv:Nat)
inductive MC where
 |c (x:Cell)
 |own (k:Nat)
 |ptr (k:Nat)
 |down (k:Nat)
inductive PV where
 |val (agg:Bool)(cs:List Cell)
 |fn (f:Nat)(ks:List Nat)
 |wr (agg:Bool)(cs:List MC)
 |nils
 |slx (t:Ty)(xs:List t.T)
inductive MO where
 |box (cs:List MC)
 |arr (t:Ty)(xs:List t.T)
 |dar (t:Ty)(xs:List t.T)
inductive RC where
 |c (x:Cell)
 |dar (t:Ty)(xs:List t.T)
 |own (deep:Bool)(t:Ty)(xs:List t.T)
 |box (cs:List Cell)
 |shr (k n:Nat)
abbrev cS:=List (Bool×List RC)
structure Eff where
 val:DV
 new:List Ob
 upd:List (Nat×Ob)
inductive Rd (α:Type) where
 |ret (a:α)
 |fail
 |tmp (t:Nat)(k:DV→Rd α)
 |get (id:Nat)(k:Ob→Rd α)
 |guard (b:Bool)(k:Rd α)
 |call (f:Nat)(A:List PV)(O:List MO)(k:cS→List MO→Rd α)
inductive TI where
 |sc (f:Fl)
 |sl (t:Ty)(bytes:Nat)
 |st (t:Ty)(fields:List (Nat×Nat))
 |ptr
 |wr (ps:List Bool)
abbrev TE:=List (Nat×TI)
def ac {α:Type}:List (Nat×α)→Nat→Option α
 |[],_=>none
 |(j,a)::r,i=>match Nat.beq j i with
  |true=>some a
  |false=>ac r i
def TI.fl:TI→List Fl
 | .sc f=>[f]| .sl t _=>[.sl t]| .st t _=>t.fl| .ptr=>[]| .wr _=>[]
def TI.rfl:TI→List Fl
 | .ptr=>[.bool]
 |t=>t.fl
def TI.agg:TI→Bool
 | .st _ _=>true
 |_=>false
def Fl.zeroD:Fl→DC
 | .int k=> .int k 0| .bool=> .bool false| .str=> .str []| .sl _=> .nil| .raw=> .raw (.slice none 0 0)
def TI.zero:TI→List DC
 | .sc f=>[f.zeroD]| .sl _ _=>[.nil]| .st t _=>t.fl.map Fl.zeroD| .ptr=>[]| .wr _=>[]
def Cell.toD (p:Pv):Cell→DC
 | .bool b=> .bool b| .int k n=> .int k n| .str s=> .str s| .sl t xs=> .sl p t xs| .raw v=> .raw v
def aD:Nat:=140737488355328
def ak:Nat:=4611686018427387904
def one (c:DC):DV:= .v false [c]
def cA:DV:= .v false [.undef]
def yU:DV:= .v false [.skipped]
def oe (d:DV):Rd Eff:= .ret ⟨d,[],[]⟩
def cL (c:DC):Rd Eff:=oe (one c)
section
variable {α:Type}
def Ix (x:Operand)(k:DV→Rd α):Rd α:=
 match x with
 | .tmp t=> .tmp t k
 | .const (.bool b)=>k (one (.bool b))
 | .const (.int kk n)=> .guard (decide (kk.min≤n)&&decide (n≤kk.max)) (k (one (.int kk n)))
 | .const (.string s)=> .guard (Nat.ble s.data.toList.length ak) (k (one (.str s.data.toList)))
 | .const (.slice none 0 0)=>k (one .nil)
 | .const (.pointer none)=>k cA
 | .func f=>k (one (.fn f []))
 |_=> .fail
def mh (x:Operand)(k:DC→Rd α):Rd α:=Ix x fun
 | .v false [c]=>k c
 |_=> .fail
def n4 (x:Operand)(k:IntKind→Int→Rd α):Rd α:=mh x fun
 | .int kk n=>k kk n
 |_=> .fail
def QX (x:Operand)(k:Bool→Rd α):Rd α:=mh x fun
 | .bool b=>k b
 |_=> .fail
def Cu (f:Fl)(c:DC)(k:Cell→Rd α):Rd α:=
 match c with
 | .bool b=>k (.bool b)
 | .int kk n=>k (.int kk n)
 | .str s=>k (.str s)
 | .raw v=>k (.raw v)
 | .sl _ t xs=>k (.sl t xs)
 | .nil=>match f with| .sl t=>k (.sl t [])|_=> .fail
 | .own id ver=> .get id fun| .arr t xs ver' _ _=> .guard (Nat.beq ver ver') (k (.sl t xs))|_=> .fail
 | .vw id ver lo hi=> .get id fun| .arr t xs ver' _ _=> .guard (Nat.beq ver ver') (k (.sl t ((xs.take hi).drop lo)))|_=> .fail
 | .down id ver=> .get id fun| .dar t xs ver' _=> .guard (Nat.beq ver ver') (k (.sl t xs))|_=> .fail
 | .inn id iv i off=> .get id fun
  | .dar t xs _ iv'=> .guard (Nat.beq iv iv') (match(t.cells (xs.getD i t.zero))[off]? with|some (.sl t' ys)=>k (.sl t' ys)|_=> .fail)
  |_=> .fail
 |_=> .fail
def KR (f:Fl)(c:DC)(k:Cell→Bool→List (Nat×Ob)→Rd α):Rd α:=
 match c with
 | .bool b=>k (.bool b) true []
 | .int kk n=>k (.int kk n) true []
 | .str s=>k (.str s) true []
 | .raw v=>k (.raw v) true []
 | .sl p t xs=>k (.sl t xs) (match p with| .new=>true|_=>false) []
 | .nil=>match f with| .sl t=>k (.sl t []) true []|_=> .fail
 | .own id ver=> .get id fun| .arr t xs ver' _ d=> .guard (Nat.beq ver ver') (k (.sl t xs) d [(id,.arr t xs ver' true d)])|_=> .fail
 | .down id ver=> .get id fun| .dar t xs ver' _=> .guard (Nat.beq ver ver') (k (.sl t xs) false [(id,.arr t xs (ver'+1) true false)])|_=> .fail
 | .inn id iv i off=> .get id fun
  | .dar t xs ver' iv'=> .guard (Nat.beq iv iv') (match(t.cells (xs.getD i t.zero))[off]? with|some (.sl t' ys)=>k (.sl t' ys) false [(id,.arr t xs (ver'+1) true false)]|_=> .fail)
  |_=> .fail
 |_=> .fail
def tk:List Fl→List DC→(List Cell→Bool→List (Nat×Ob)→Rd α)→Rd α
 |[],[],k=>k [] true []
 |f::fs,c::cs,k=>KR f c λx d u=>tk fs cs λxs d' u'=>k (x::xs) (d&&d') (u++u')
 |_,_,_=> .fail
end
def lK (id iv i:Nat):Nat→List Cell→List DC
 |_,[]=>[]
 |j,c::r=>(match c with| .sl _ _=> .inn id iv i j|c=>c.toD .any)::lK id iv i (j+1) r
def Ga {α:Type}(a:DC)(n:Nat)(k:List DC→Rd α):Rd α:=
 match a with
 | .ptr id off=> .get id fun
  | .box cs=> .guard (Nat.ble (off+n) cs.length) (k ((cs.drop off).take n))
  |_=> .fail
 | .eptr id ver i off=> .get id fun
  | .arr t xs ver' _ d=> .guard (Nat.beq ver ver'&&Nat.ble (off+n) t.size) (k (((t.cells (xs.getD i t.zero)).map (Cell.toD (if d then .new else .any))).drop off |>.take n))
  |_=> .fail
 | .ref p cs=> .guard (Nat.ble n cs.length) (k ((cs.map (Cell.toD p)).take n))
 | .dptr id ver i off=> .get id fun
  | .dar t xs ver' iv=> .guard (Nat.beq ver ver'&&Nat.ble (off+n) t.size) (k ((lK id iv i 0 (t.cells (xs.getD i t.zero))).drop off |>.take n))
  |_=> .fail
 |_=> .fail
def splice {β:Type}(cs:List β)(off:Nat)(ds:List β):List β:=cs.take off++ds++cs.drop (off+ds.length)
def bA {β:Type}:List β→Nat→β→List β
 |[],_,_=>[]
 |_::r,0,b=>b::r
 |a::r,n+1,b=>a::bA r n b
def vJ (x:Nat):List Nat→Bool
 |[]=>false
 |y::r=>Nat.beq y x||vJ x r
def NP (te:TE)(rec:Nat→List DC→List DC→Option Bool):List (Nat×Nat)→List DC→List DC→Option Bool
 |[],_,_=>some true
 |(off,ft)::r,xs,ys=>
  match ac te ft with
  |some ti=>match rec ft ((xs.drop off).take ti.fl.length) ((ys.drop off).take ti.fl.length),NP te rec r xs ys with
   |some a,some b=>some (a&&b)
   |_,_=>none
  |none=>none
def Ck (te:TE):Nat→Nat→List DC→List DC→Option Bool
 |0,_,_,_=>none
 |n+1,t,xs,ys=>
  match ac te t with
  |some (.sc (.int _))=>match xs,ys with
   |[.int k a],[.int k' b]=>if k=k' then some (a==b)else none
   |_,_=>none
  |some (.sc .bool)=>match xs,ys with
   |[.bool a],[.bool b]=>some (a==b)
   |_,_=>none
  |some (.sc .str)=>match xs,ys with
   |[.str a],[.str b]=>some (a==b)
   |_,_=>none
  |some (.st _ fields)=>NP te (Ck te n) fields xs ys
  |_=>none
def Oa (op:BinOp)(k:IntKind)(a b:Int):Rd Eff:=
 match op with
 | .add=>cL (.int k (k.wrap (a+b)))
 | .sub=>cL (.int k (k.wrap (a-b)))
 | .mul=>cL (.int k (k.wrap (a*b)))
 | .quo=> .guard (b != 0) (cL (.int k (k.wrap (a.tdiv b))))
 | .rem=> .guard (b != 0) (cL (.int k (a.tmod b)))
 | .and=>cL (.int k (bits .and k a b))
 | .or=>cL (.int k (bits .or k a b))
 | .xor=>cL (.int k (bits .xor k a b))
 | .andNot=>cL (.int k (bits .andNot k a b))
 | .eql=>cL (.bool (a==b))
 | .neq=>cL (.bool (a != b))
 | .lss=>cL (.bool (decide (a<b)))
 | .leq=>cL (.bool (decide (a≤b)))
 | .gtr=>cL (.bool (decide (b<a)))
 | .geq=>cL (.bool (decide (b≤a)))
 |_=> .fail
def MK (op:BinOp)(s t:ah):Rd Eff:=
 match op with
 | .add=> .guard (Nat.ble (s.length+t.length) ak) (cL (.str (s++t)))
 | .eql=>cL (.bool (s==t))
 | .neq=>cL (.bool (!(s==t)))
 |_=> .fail
def Iv (op:BinOp)(k:IntKind)(a b:Int):Rd Eff:=
 match op with
 | .shl=> .guard (decide (0≤b)) (cL (.int k (k.wrap (a*2 ^ (min b.toNat k.bits)))))
 | .shr=> .guard (decide (0≤b)) (cL (.int k (a.fdiv (2 ^ (min b.toNat k.bits)))))
 |_=> .fail
def Px (te:TE)(op:BinOp)(t:Nat)(x y:DV):Rd Eff:=
 match x,y with
 | .v false [.int k a],.v false [.int k' b]=>
  match op with
  | .shl| .shr=>Iv op k a b
  |_=>if k=k' then Oa op k a b else .fail
 | .v false [.str s],.v false [.str t]=>MK op s t
 | .v false [.slx _ _],.v false [.nil]=>match ac te t,op with
  |some (.sl _ _),.eql=>cL (.bool false)
  |some (.sl _ _),.neq=>cL (.bool true)
  |_,_=> .fail
 | .v false [.nil],.v false [.nil]=>match ac te t,op with
  |some (.sl _ _),.eql=>cL (.bool true)
  |some (.sl _ _),.neq=>cL (.bool false)
  |_,_=> .fail
 | .v ag cs,.v ag' ds=>
  match ac te t with
  |some ti=>match op,(ag==ti.agg&&ag'==ti.agg&&Nat.beq cs.length ti.fl.length&&Nat.beq ds.length ti.fl.length),Ck te 5 t cs ds with
   | .eql,true,some b=>cL (.bool b)
   | .neq,true,some b=>cL (.bool (!b))
   |_,_,_=> .fail
  |none=> .fail
 |_,_=> .fail
def QP (op:UnOp)(x:DV):Rd Eff:=
 match op,x with
 | .not,.v false [.bool b]=>cL (.bool (!b))
 | .neg,.v false [.int k n]=>cL (.int k (k.wrap (0-n)))
 | .xor,.v false [.int k n]=>cL (.int k (bits .xor k (if k.signed then-1 else k.max) n))
 |_,_=> .fail
def jI (t:Ty):Bool:=t.fl.any fun| .sl _=>true|_=>false
def RC.shares:RC→Bool
 | .c (.sl _ _)=>true
 | .box cs=>cs.any fun| .sl _ _=>true|_=>false
 | .own d t _=> !d&&jI t
 |_=>false
def aq:Nat→List RC→List DC×List Ob×Nat
 |n,[]=>([],[],n)
 |n,.c x::r=>match aq n r with|(cs,os,m)=>(x.toD .any::cs,os,m)
 |n,.own d t xs::r=>match aq (n+1) r with|(cs,os,m)=>(.own n 0::cs,.arr t xs 0 false d::os,m)
 |n,.box bs::r=>match aq (n+1) r with|(cs,os,m)=>(.ptr n 0::cs,.box (bs.map (Cell.toD .any))::os,m)
 |n,.shr _ _::r=>match aq n r with|(cs,os,m)=>(.undef::cs,os,m)
 |n,.dar t xs::r=>match aq (n+1) r with|(cs,os,m)=>(.down n 0::cs,.dar t xs 0 0::os,m)
def dF:Nat→cS→List (Bool×List DC)×List Ob
 |_,[]=>([],[])
 |n,(ag,cs)::r=>match aq n cs with
  |(ds,os,m)=>match dF m r with|(vs,os')=>((ag,ds)::vs,os++os')
def Bm:List (Bool×List DC)→DV
 |[(ag,cs)]=> .v ag cs
 |vs=> .tup vs
def NG {α:Type}(ti:TI)(d:DV)(k:PV→List (Nat×Ob)→Rd α):Rd α:=
 match d with
 | .v false [.fn f []]=>k (.fn f []) []
 | .v ag cs=>tk ti.fl cs λxs _ u=>k (.val ag xs) u
 |_=> .fail
def ff:List DC→Option (List Cell)
 |[]=>some []
 |c::r=>match(match c with| .bool b=>some (.bool b)| .int k n=>some (.int k n)| .str s=>some (.str s)| .sl _ t xs=>some (.sl t xs)|_=>none:Option Cell),ff r with
  |some x,some xs=>some (x::xs)
  |_,_=>none
def Ku {α:Type}(id ver:Nat)(W:List (Nat×MO×Ob))(k:MC→List (Nat×MO×Ob)→Rd α):Rd α:=
 .get id fun
  | .arr t xs ver' frz d=> .guard (Nat.beq ver ver'&& !frz&& !vJ id (W.map (·.1))) (k (.own W.length) (W++[(id,.arr t xs,.arr t xs ver' frz d)]))
  |_=> .fail
def KQ {α:Type}(id ver:Nat)(W:List (Nat×MO×Ob))(k:MC→List (Nat×MO×Ob)→Rd α):Rd α:=
 .get id fun
  | .dar t xs ver' iv=> .guard (Nat.beq ver ver'&& !vJ id (W.map (·.1))) (k (.down W.length) (W++[(id,.dar t xs,.dar t xs ver' iv)]))
  |_=> .fail
def uY {α:Type}:List DC→List (Nat×MO×Ob)→(List MC→List (Nat×MO×Ob)→Rd α)→Rd α
 |[],W,k=>k [] W
 |c::cs,W,k=>match c with
  | .bool b=>uY cs W λxs W=>k (.c (.bool b)::xs) W
  | .int kk n=>uY cs W λxs W=>k (.c (.int kk n)::xs) W
  | .str s=>uY cs W λxs W=>k (.c (.str s)::xs) W
  | .sl _ t ys=>uY cs W λxs W=>k (.c (.sl t ys)::xs) W
  | .own id ver=>Ku id ver W λx W=>uY cs W λxs W=>k (x::xs) W
  |_=> .fail
def Kc {α:Type}(id:Nat)(W:List (Nat×MO×Ob))(k:Nat→List (Nat×MO×Ob)→Rd α):Rd α:=
 .get id fun
  | .box cs=>uY cs W λxs W=> .guard (!vJ id (W.map (·.1))) (k W.length (W++[(id,.box xs,.box cs)]))
  |_=> .fail
def BX {α:Type}:List Nat→List (Nat×MO×Ob)→(List Nat→List (Nat×MO×Ob)→Rd α)→Rd α
 |[],W,k=>k [] W
 |id::r,W,k=>Kc id W λj W=>BX r W λjs W=>k (j::js) W
def ki {α:Type}(f:Fl)(c:DC)(W:List (Nat×MO×Ob))(k:MC→List (Nat×MO×Ob)→Rd α):Rd α:=
 match c with
 | .bool b=>k (.c (.bool b)) W
 | .int kk n=>k (.c (.int kk n)) W
 | .str s=>k (.c (.str s)) W
 | .nil=>match f with| .sl t=>k (.c (.sl t [])) W|_=> .fail
 | .sl _ t ys=>k (.c (.sl t ys)) W
 | .own id ver=>Ku id ver W k
 | .down id ver=>KQ id ver W k
 | .ptr id 0=>Kc id W λj W=>k (.ptr j) W
 |_=> .fail
def wC {α:Type}:List Fl→List DC→List (Nat×MO×Ob)→(List MC→List (Nat×MO×Ob)→Rd α)→Rd α
 |[],[],W,k=>k [] W
 |f::fs,c::cs,W,k=>ki f c W λx W=>wC fs cs W λxs W=>k (x::xs) W
 |_,_,_,_=> .fail
def Qd {α:Type}(ti:TI)(d:DV)(W:List (Nat×MO×Ob))(k:PV→List (Nat×MO×Ob)→Rd α):Rd α:=
 match d with
 | .v false [.ptr id off]=>ki .bool (.ptr id off) W λx W=>k (.wr false [x]) W
 | .v false [.fn f ids]=>BX ids W λks W=>k (.fn f ks) W
 | .v ag cs=>wC ti.fl cs W λxs W=>k (.wr ag xs) W
 |_=> .fail
def sB {α:Type}(te:TE):List Bool→List Operand→List TypeId→List (Nat×MO×Ob)→(List PV→List (Nat×Ob)→List (Nat×MO×Ob)→Rd α)→Rd α
 |_,[],[],W,k=>k [] [] W
 |true::ms,x::xs,t::ts,W,k=>Ix x λd=>Qd ((ac te t).getD .ptr) d W λa W=>sB te ms xs ts W λas us W=>k (a::as) us W
 |ms,x::xs,t::ts,W,k=>
  match ac te t with
  |some ti=>Ix x λd=>NG ti d λa u=>sB te ms.tail xs ts W λas us W=>k (a::as) (u++us) W
  |none=> .fail
 |_,_,_,_,_=> .fail
def N5 (te:TE)(f:Nat):List Bool:=match ac te (1000000+f)with|some (.wr ps)=>ps|_=>[]
def vN:List DC→List MC→List DC
 |d::ds,c::cs=>(match c with| .c x=>x.toD .any|_=>d)::vN ds cs
 |_,_=>[]
def qA:Ob→MO→Ob
 | .box ds,.box cs=> .box (vN ds cs)
 | .arr _ _ ver frz d,.arr t xs=> .arr t xs ver frz (d&& !jI t)
 | .dar _ _ ver iv,.dar t xs=> .dar t xs ver iv
 |o,_=>o
def aJ:List (Nat×MO×Ob)→List MO→List (Nat×Ob)
 |(id,_,o)::W,m::O=>(id,qA o m)::aJ W O
 |_,_=>[]
def MO.shares:MO→Bool
 | .box cs=>cs.any fun| .c (.sl _ _)=>true|_=>false
 | .arr t _=>jI t
 | .dar _ _=>false
def sF (base:Nat)(u:List (Nat×Ob))(W:List (Nat×MO×Ob))(R:cS)(O':List MO):Rd Eff:=
 match R with
 |[(false,[.shr k n])]=>match W[k]? with
  |some (id,_,_)=>match ac (aJ W O') id with
   |some (.arr t xs ver false d)=> .ret ⟨one (.own id (ver+1)),[],(if O'.any MO.shares then u else[])++((id,.arr t (xs.take n) (ver+1) false d)::aJ W O')⟩
   |some (.dar t xs ver iv)=> .guard (Nat.beq k 0) (.ret ⟨one (.down id (ver+2)),[],(if O'.any MO.shares then u else[])++((id,.dar t (xs.take n) (ver+2) (iv+2))::aJ W O')⟩)
   |_=> .fail
  |_=> .fail
 |R=>match dF base R with
  |(vs,os)=> .ret ⟨Bm vs,os,(if R.any (λr=>r.2.any RC.shares)||O'.any MO.shares then u else[])++aJ W O'⟩
def FI (f id iv i off:Nat)(y:Operand):Rd Eff:=
 .get id fun
  | .dar t xs ver iv'=>match(t.cells (xs.getD i t.zero))[off]? with
   |some (.sl t' ys)=>n4 y λkk m=> .guard (Nat.beq iv iv') (.call f [.wr false [.own 0],.val false [.int kk m]] [.arr t' ys] λR O'=>match R,O' with
    |[(false,[.c (.int k n)])],[.arr t2 ys']=> .guard (decide (t2=t')&& !jI t2) (match t.get (splice (t.cells (xs.getD i t.zero)) off [.sl t2 ys'])with
     |some e=> .ret ⟨one (.int k n),[],[(id,.dar t (xs.set i e) ver iv')]⟩
     |none=> .fail)
    |_,_=> .fail)
   |_=> .fail
  |_=> .fail
def MV (d:DV):Option (Nat×Nat×Nat×Nat):=
 match d with
 | .v false [.inn id iv i off]=>some (id,iv,i,off)
 |_=>none
def Af (te:TE)(base:Nat)(f:Nat)(args:List Operand)(tys:List TypeId)(ids:List Nat):Rd Eff:=
 sB te (N5 te f) args tys [] λA u W=>BX ids W λks W=> .guard (u.all λp=> !vJ p.1 (W.map (·.1))) (.call f (A++ks.map λk=> .wr false [.ptr k]) (W.map (·.2.1)) λR O'=>
  sF base u W R O')
def CF (te:TE)(base:Nat)(f:Nat)(args:List Operand)(tys:List TypeId)(ids:List Nat):Rd Eff:=
 match N5 te f,args,ids with
 |[true],[.tmp t,y],[]=> .tmp t λd=>match MV d with
  |some (id,iv,i,off)=>FI f id iv i off y
  |none=>Af te base f args tys ids
 |_,_,_=>Af te base f args tys ids
def iP:List Fl→List DC→List Nat→(List Cell→List (Nat×Ob)→Rd Eff)→Rd Eff
 |[],[],_,k=>k [] []
 |f::fs,c::cs,ids,k=>match c with
  | .bool b=>iP fs cs ids λxs u=>k (.bool b::xs) u
  | .int kk n=>iP fs cs ids λxs u=>k (.int kk n::xs) u
  | .str s=>iP fs cs ids λxs u=>k (.str s::xs) u
  | .nil=>match f with| .sl t=>iP fs cs ids λxs u=>k (.sl t []::xs) u|_=> .fail
  | .own id ver=> .get id fun
   | .arr t xs ver' frz d=> .guard (Nat.beq ver ver'&& !frz&&d&& !jI t&& !vJ id ids) (iP fs cs (id::ids) λys u=>k (.sl t xs::ys) ((id,.arr t [] (ver'+1) false true)::u))
   |_=> .fail
  |_=> .fail
 |_,_,_,_=> .fail
def nb:List DC→Option (List Cell)
 |[]=>some []
 |c::r=>match(match c with| .bool b=>some (.bool b)| .int k n=>some (.int k n)| .str s=>some (.str s)|_=>none:Option Cell),nb r with
  |some x,some xs=>some (x::xs)
  |_,_=>none
def KX (te:TE)(t:Ty):Bool:=jI t&&(ac te 5000000).isSome
def x8 (te:TE)(fields:List (Nat×Nat)):List (Nat×Operand)→List DC→(List DC→Rd Eff)→Rd Eff
 |[],cs,k=>k cs
 |(i,x)::r,cs,k=>Ix x fun
  | .v _ ds=>match fields[i]? with
   |some (off,ft)=>match ac te ft with
    |some tf=> .guard (Nat.beq ds.length tf.fl.length&&Nat.ble (off+ds.length) cs.length&&ds.all DC.ok) (x8 te fields r (splice cs off ds) k)
    |none=> .fail
   |none=> .fail
  |_=> .fail
def vE (t:Ty):List (Nat×Operand)→List t.T→Bool→List (Nat×Ob)→(List t.T→Bool→List (Nat×Ob)→Rd Eff)→Rd Eff
 |[],xs,d,u,k=>k xs d u
 |(i,x)::r,xs,d,u,k=>Ix x fun
  | .v _ ds=> .guard (ds.all DC.ok) (tk t.fl ds λcs d' u'=>match t.get cs with
   |some e=> .guard (Nat.blt i xs.length) (vE t r (bA xs i e) (d&&d') (u++u') k)
   |none=> .fail)
  |_=> .fail
def QC:Option Operand→Bool
 |some (.const _)=>true
 |_=>false
def Mq (lo hi:Option Operand)(len:Int)(fin:Int→Int→Rd Eff):Rd Eff:=
 match lo with
 |none=>match hi with
  |none=>fin 0 len
  |some x=>n4 x λ_ m=>fin 0 m
 |some y=>n4 y λ_ l=>match hi with
  |none=>fin l len
  |some x=>n4 x λ_ m=>fin l m
def KM (te:TE)(t':TypeId)(ty:Ty)(c:DC)(k:List ty.T→Bool→Rd Eff):Rd Eff:=
 match ac te t' with
 |some (.sc .str)=>match c with
  | .str b=>if h:Ty.u8=ty then k (h▸(b.map λc=>(c.toNat:Int):List Ty.u8.T)) true else .fail
  |_=> .fail
 |some (.sl ty' _)=>match c with
  | .sl p t1 ys=> .guard (decide (ty'=ty)) (if h:t1=ty then k (h▸ys) (!jI ty||p.isNew)else .fail)
  | .slx t1 ys=> .guard (decide (ty'=ty)) (if h:t1=ty then k (h▸ys) (!jI ty)else .fail)
  | .nil=> .guard (decide (ty'=ty)) (k [] true)
  | .own id ver=> .get id fun
   | .arr t1 ys ver' _ d=> .guard (decide (ty'=ty)&&Nat.beq ver ver') (if h:t1=ty then k (h▸ys) (!jI ty||d)else .fail)
   |_=> .fail
  |_=> .fail
 |_=> .fail
def Fd {α:Type}:List Operand→(List Nat→Rd α)→Rd α
 |[],k=>k []
 |x::r,k=>mh x fun
  | .ptr id 0=>Fd r λids=>k (id::ids)
  |_=> .fail
def O7 (te:TE)(t:TypeId):Bool:=match ac te t with|some (.sl _ _)=>true|_=>false
def dJ (te:TE)(base:Nat):Op→Rd Eff
 | .move x| .assign x=>Ix x oe
 | .pick c a b=>QX c λp=>Ix a λda=>Ix b λdb=>
  match da,db with
  | .v false [.bool x],.v false [.bool y]=>cL (.bool (bif p then x else y))
  |_,.v false [.skipped]=> .guard p (oe da)
  | .v false [.skipped],_=> .guard (!p) (oe db)
  |_,_=> .fail
 | .alloc e=>match ac te e with
  |some ti=> .guard (Nat.ble 1 ti.zero.length) (.ret ⟨one (.ptr base 0),[.box ti.zero],[]⟩)
  |none=> .fail
 | .box e x=>match ac te e with
  |some _=>Ix x fun
   | .v _ cs=> .guard (cs.all DC.ok) (.ret ⟨one (.ptr base 0),[.box cs],[]⟩)
   |_=> .fail
  |none=> .fail
 | .build t parts=>match ac te t with
  |some (.st ty fields)=>x8 te fields parts.toList (ty.fl.map Fl.zeroD) λcs=>oe (.v true cs)
  |_=> .fail
 | .buildSlice t len parts=>match ac te t with
  |some (.sl ty _)=>match KX te ty,len,parts.toList with
   |true,1,[(0,x)]=>Ix x fun
    | .v _ ds=> .guard (Nat.beq ds.length ty.size&&ds.all DC.ok) (.ret ⟨one (.bsl base),[.box ds],[]⟩)
    |_=> .fail
   |true,0,[]=> .ret ⟨one (.down base 0),[.dar ty [] 0 0],[]⟩
   |_,len,_=> .guard (Nat.ble (len*ty.size) 16777216) (vE ty parts.toList (List.replicate len ty.zero) true [] λxs d u=> .ret ⟨one (.own base 0),[.arr ty xs 0 false d],u⟩)
  |_=> .fail
 | .load t a=>match ac te t with
  |some ti=>mh a λp=>Ga p ti.fl.length λcs=> .guard (Nat.ble 1 ti.fl.length) (oe (.v ti.agg cs))
  |none=> .fail
 | .store t a x=>match ac te t with
  |some ti=>mh a λp=>Ix x fun
   | .v _ ds=> .guard (Nat.beq ds.length ti.fl.length&&ds.all DC.ok&&Nat.ble 1 ti.fl.length) (match p with
    | .ptr id off=> .get id fun
     | .box cs=> .guard (Nat.ble (off+ds.length) cs.length) (.ret ⟨cA,[],[(id,.box (splice cs off ds))]⟩)
     |_=> .fail
    | .eptr id ver i off=> .get id fun
     | .arr ty xs ver' frz d=> .guard (Nat.beq ver ver'&& !frz&&Nat.ble (off+ds.length) ty.size) (tk ti.fl ds λcs d' u=>
       match ty.get (splice (ty.cells (xs.getD i ty.zero)) off cs)with
       |some e=> .guard (!vJ id (u.map (·.1))) (.ret ⟨cA,[],u++[(id,.arr ty (xs.set i e) ver' frz (d&&d'))]⟩)
       |none=> .fail)
     |_=> .fail
    | .dptr id ver i off=> .get id fun
     | .dar ty xs ver' iv=> .guard (Nat.beq ver ver') (match nb ds with
      |some cs=> .guard (Nat.ble (off+ds.length) ty.size) (match ty.get (splice (ty.cells (xs.getD i ty.zero)) off cs)with
       |some e=> .ret ⟨cA,[],[(id,.dar ty (xs.set i e) ver' iv)]⟩
       |none=> .fail)
      |none=> .guard (Nat.beq off 0&&Nat.beq ds.length ty.size) (iP ty.fl ds [] λcs u=>match ty.get cs with
       |some e=> .ret ⟨cA,[],u++[(id,.dar ty (xs.set i e) ver' (iv+1))]⟩
       |none=> .fail))
     |_=> .fail
    | .iptr id iv i off n o=> .get id fun
     | .dar ty xs ver' iv'=> .guard (Nat.beq iv iv') (match(ty.cells (xs.getD i ty.zero))[off]? with
      |some (.sl t2 ys)=>match nb ds with
       |some cs=> .guard (Nat.ble (o+ds.length) t2.size&&decide (n<ys.length)) (match t2.get (splice (t2.cells (ys.getD n t2.zero)) o cs)with
        |some e2=>match ty.get (splice (ty.cells (xs.getD i ty.zero)) off [.sl t2 (ys.set n e2)])with
         |some e=> .ret ⟨cA,[],[(id,.dar ty (xs.set i e) ver' iv')]⟩
         |none=> .fail
        |none=> .fail)
       |none=> .fail
      |_=> .fail)
     |_=> .fail
    |_=> .fail)
   |_=> .fail
  |none=> .fail
 | .binOp op t x y _=>Ix x λa=>Ix y λb=>Px te op t a b
 | .unOp op _ x=>Ix x λa=>QP op a
 | .convert s d x=>match ac te s,ac te d with
  |some (.sc (.int _)),some (.sc (.int k))=>n4 x λ_ n=>cL (.int k (k.wrap n))
  |some (.sc .str),some (.sc .str)=>mh x fun| .str b=>cL (.str b)|_=> .fail
  |some (.sc .str),some (.sl .u8 _)=>mh x fun
   | .str b=> .guard (Nat.ble b.length aD) (.ret ⟨one (.own base 0),[.arr .u8 (b.map λc=>(c.toNat:Int)) 0 false true],[]⟩)
   |_=> .fail
  |some (.sl .u8 _),some (.sc .str)=>mh x λc=>Cu (.sl .u8) c fun
   | .sl .u8 xs=>cL (.str (List.map (λn:Int=>UInt8.ofNat n.toNat) xs))
   |_=> .fail
  |_,_=> .fail
 | .makeSlice t l c=>match ac te t with
  |some (.sl ty by_)=>n4 l λkl n=>n4 c λkc m=>
    .guard (kl== .i64&&kc== .i64&&decide (0≤n)&&decide (n=m)&&decide (n*by_≤aD)&&decide (n≤aD)) (match KX te ty with
     |true=> .ret ⟨one (.down base 0),[.dar ty (List.replicate n.toNat ty.zero) 0 0],[]⟩
     |false=> .ret ⟨one (.own base 0),[.arr ty (List.replicate n.toNat ty.zero) 0 false true],[]⟩)
  |_=> .fail
 | .slice t x lo hi mx=>match ac te t,mx with
  |some (.sc .str),none=>mh x fun
   | .str s=>Mq lo hi s.length λl h=> .guard (decide (0≤l)&&decide (l≤h)&&decide (h≤(s.length:Int))) (cL (.str ((s.take h.toNat).drop l.toNat)))
   |_=> .fail
  |some (.sl ty _),none=>mh x fun
   | .sl p t' xs=>Mq lo hi xs.length λl h=> .guard (decide (t'=ty)&&decide (0≤l)&&decide (l≤h)&&decide (h≤(xs.length:Int))) (cL (.sl p t' ((xs.take h.toNat).drop l.toNat)))
   | .own id ver=> .get id fun
    | .arr t' xs ver' frz d=> .guard (Nat.beq ver ver') (Mq lo hi xs.length λl h=> .guard (decide (t'=ty)&&decide (0≤l)&&decide (l≤h)&&decide (h≤(xs.length:Int)))
      (bif (decide (t'= .u8)||(ac te (4000000+t)).isSome&& !QC lo)&& !frz then cL (.vw id ver l.toNat h.toNat)else .ret ⟨one (.sl .any t' ((xs.take h.toNat).drop l.toNat)),[],[(id,.arr t' xs ver' true d)]⟩))
    |_=> .fail
   | .vw id ver lo0 hi0=> .get id fun
    | .arr t' xs ver' _ _=> .guard (Nat.beq ver ver'&&Nat.beq lo0 0) (Mq lo hi hi0 λl h=> .guard (decide (t'=ty)&&decide (0≤l)&&decide (l≤h)&&decide (h≤(xs.length:Int))) (cL (.vw id ver l.toNat h.toNat)))
    |_=> .fail
   | .nil=>Mq lo hi 0 λl h=> .guard (decide (0≤l)&&decide (l≤h)&&decide (h≤0)) (cL (.sl .new ty []))
   |_=> .fail
  |some (.sl ty _),some m=>match lo,hi with
   |none,some z=>mh x λc=>n4 z λ_ h=>n4 m λ_ k=> .guard (decide (h=0)&&decide (k=0)) (Cu (.sl ty) c fun
    | .sl _ _=> .ret ⟨one (.own base 0),[.arr ty [] 0 false true],[]⟩
    |_=> .fail)
   |some y,some z=>mh x fun
    | .own id ver=> .get id fun
     | .arr _ xs ver' _ _=>n4 y λ_ l=>n4 z λ_ h=>n4 m λ_ k=> .guard (Nat.beq ver ver'&&decide (0≤l)&&decide (l≤h)&&decide (h≤k)&&decide (k≤(xs.length:Int))) (cL .undef)
     |_=> .fail
    |_=> .fail
   |_,_=> .fail
  |_,_=> .fail
 | .fieldAddr s x f=>match ac te s with
  |some (.st _ fields)=>match fields[f]? with
   |some (off,_)=>mh x fun
    | .ptr id o=>cL (.ptr id (o+off))
    | .eptr id ver i o=> .get id fun
     | .arr _ _ ver' _ _=> .guard (Nat.beq ver ver') (cL (.eptr id ver i (o+off)))
     |_=> .fail
    | .dptr id ver i o=> .get id fun
     | .dar _ _ ver' _=> .guard (Nat.beq ver ver') (cL (.dptr id ver i (o+off)))
     |_=> .fail
    | .iptr id iv i f n o=> .get id fun
     | .dar _ _ _ iv'=> .guard (Nat.beq iv iv') (cL (.iptr id iv i f n (o+off)))
     |_=> .fail
    | .ref p cs=>cL (.ref p (cs.drop off))
    |_=> .fail
   |none=> .fail
  |_=> .fail
 | .indexAddr t x ix=>match ac te t with
  |some (.sl ty0 _)=>mh x λc=>n4 ix λ_ n=>
   match c with
   | .sl p ty xs=> .guard (decide (ty=ty0)&&decide (0≤n)&&decide (n<(xs.length:Int))) (cL (.ref p (ty.cells (xs.getD n.toNat ty.zero))))
   | .own id ver=> .get id fun
    | .arr ty xs ver' _ _=> .guard (decide (ty=ty0)&&Nat.beq ver ver'&&decide (0≤n)&&decide (n<(xs.length:Int))) (cL (.eptr id ver n.toNat 0))
    |_=> .fail
   | .down id ver=> .get id fun
    | .dar ty xs ver' _=> .guard (decide (ty=ty0)&&Nat.beq ver ver'&&decide (0≤n)&&decide (n<(xs.length:Int))) (cL (.dptr id ver n.toNat 0))
    |_=> .fail
   | .inn id iv i off=> .get id fun
    | .dar t xs _ iv'=>match(t.cells (xs.getD i t.zero))[off]? with
     |some (.sl ty ys)=> .guard (decide (ty=ty0)&&Nat.beq iv iv'&&decide (0≤n)&&decide (n<(ys.length:Int))) (cL (.iptr id iv i off n.toNat 0))
     |_=> .fail
    |_=> .fail
   |_=> .fail
  |_=> .fail
 | .index t x ix=>match ac te t with
  |some (.sc .str)=>mh x fun
   | .str s=>n4 ix λ_ n=> .guard (decide (0≤n)&&decide (n<(s.length:Int))) (cL (.int .u8 ((s.getD n.toNat 0).toNat:Int)))
   |_=> .fail
  |_=> .fail
 | .extract x i=>Ix x fun
  | .tup vs=>match vs[i]? with
   |some (ag,cs)=>oe (.v ag cs)
   |none=> .fail
  |_=> .fail
 | .nilCheck x=>mh x fun
  | .ptr id o=>cL (.ptr id o)
  | .ref p cs=>cL (.ref p cs)
  | .fn f caps=>cL (.fn f caps)
  |_=> .fail
 | .makeFunc (.func f) first captured=>match first.toList with
  |[]=>Fd captured.toList λids=>cL (.fn f ids)
  |_=> .fail
 | .call {callee:= .value (.func f),args,argTypes}=>CF te base f args.toList argTypes.toList []
 | .call {callee:= .value (.tmp t),args,argTypes}=>mh (.tmp t) fun
  | .fn f ids=>CF te base f args.toList argTypes.toList ids
  |_=> .fail
 | .call {callee:= .builtin .len,args,argTypes}=>match args.toList,argTypes.toList with
  |[x],[t]=>match ac te t with
   |some (.sc .str)=>mh x fun| .str s=>cL (.int .i64 s.length)|_=> .fail
   |some (.sl ty _)=>mh x λc=>Cu (.sl ty) c fun| .sl _ xs=>cL (.int .i64 xs.length)|_=> .fail
   |_=> .fail
  |_,_=> .fail
 | .call {callee:= .builtin .append,args,argTypes}=>match args.toList,argTypes.toList with
  |[x,y],[t,t']=>match ac te t with
   |some (.sl ty by_)=>mh x λc=>mh y λc'=>match c' with
    | .bsl id2=> .guard (O7 te t'&&KX te ty) (.get id2 fun
     | .box ds=>iP ty.fl ds [] λcs u=>match ty.get cs with
      |some e=>match c with
       | .nil=> .guard (Nat.ble (1026*by_) aD) (.ret ⟨one (.down base 0),[.dar ty [e] 0 0],u⟩)
       | .down id ver=> .get id fun
        | .dar t0 xs ver' iv=> .guard (Nat.beq ver ver') (if h:ty=t0 then .guard (Nat.ble ((2*(xs.length+1)+1024)*by_) aD) (.ret ⟨one (.down id (ver'+1)),[],u++[(id,.dar t0 (xs++[h▸e]) (ver'+1) (iv+1))]⟩)else .fail)
        |_=> .fail
       |_=> .fail
      |none=> .fail
     |_=> .fail)
    |_=>match c with
    | .nil=>KM te t' ty c' λys d'=> .guard (Nat.ble ((2*ys.length+1024)*by_) aD) (.ret ⟨one (.own base 0),[.arr ty ys 0 false d'],[]⟩)
    | .own id ver=> .get id fun
     | .arr t0 xs ver' frz d=> .guard (decide (t0=ty)&&Nat.beq ver ver'&& !frz) (KM te t' t0 c' λys d'=> .guard (Nat.ble ((2*(xs.length+ys.length)+1024)*by_) aD) (.ret ⟨one (.own id (ver'+1)),[],[(id,.arr t0 (xs++ys) (ver'+1) false (d&&d'))]⟩))
     |_=> .fail
    | .vw id ver lo0 i=>match c' with
     | .vw id2 ver2 j n2=> .get id fun
      | .arr t0 xs ver' frz d=> .guard (decide (t0=ty)&&Nat.beq ver ver'&& !frz&&Nat.beq id2 id&&Nat.beq ver2 ver'&&Nat.beq lo0 0&&Nat.ble i j&&Nat.beq n2 xs.length&&O7 te t') (.ret ⟨one (.vw id ver' 0 (i+(xs.length-j))),[],[(id,.arr t0 (xs.take i++xs.drop j++xs.drop (i+(xs.length-j))) ver' frz d)]⟩)
      |_=> .fail
     |_=> .fail
    |_=> .fail
   |_=> .fail
  |_,_=> .fail
 | .call {callee:= .builtin .clear,args,argTypes}=>match args.toList,argTypes.toList with
  |[x],[t]=>match ac te t with
   |some (.sl ty _)=>mh x fun
    | .vw id ver lo hi=> .get id fun
     | .arr t0 xs ver' frz d=> .guard (decide (t0=ty)&&Nat.beq ver ver'&& !frz) (.ret ⟨.tup [],[],[(id,.arr t0 (xs.take lo++List.replicate (hi-lo) t0.zero++xs.drop hi) ver' frz d)]⟩)
     |_=> .fail
    |_=> .fail
   |_=> .fail
  |_,_=> .fail
 | .call {callee:= .builtin .copy,args,argTypes}=>match args.toList,argTypes.toList with
  |[x,y],[t,t']=>match ac te t,ac te t' with
   |some (.sl .u8 _),some (.sl .u8 _)=>mh x λc=>mh y λc'=>match c with
    | .own id ver=> .get id fun
     | .arr .u8 xs ver' frz d=> .guard (Nat.beq ver ver'&& !frz) (Cu (.sl .u8) c' fun
      | .sl .u8 ys=> .ret ⟨one (.int .i64 ((ys.take xs.length).length:Nat)),[],[(id,.arr .u8 (ys.take xs.length++xs.drop (ys.take xs.length).length) ver' frz d)]⟩
      |_=> .fail)
     |_=> .fail
    |_=> .fail
   |_,_=> .fail
  |_,_=> .fail
 | .call {callee:= .builtin .min,args, .. }=>match args.toList with
  |[x,y]=>n4 x λk a=>n4 y λk' b=> .guard (decide (k=k')) (cL (.int k (if b<a then b else a)))
  |[x,y,z]=>n4 x λk a=>n4 y λk' b=>n4 z λk'' c=> .guard (decide (k=k')&&decide (k=k'')) (cL (.int k (if c<(if b<a then b else a)then c else(if b<a then b else a))))
  |_=> .fail
 | .call {callee:= .builtin .max,args, .. }=>match args.toList with
  |[x,y]=>n4 x λk a=>n4 y λk' b=> .guard (decide (k=k')) (cL (.int k (if a<b then b else a)))
  |_=> .fail
 |_=> .fail
structure St where
 fr:List (Nat×DV)
 st:List (Nat×Ob)
 nx:Nat
def St.tmp (s:St)(t:Nat):DV:=(ac s.fr t).getD cA
def St.obj (s:St)(id:Nat):Option Ob:=ac s.st id
def St.set (s:St)(t:Nat)(d:DV):St:={s with fr:=(t,d)::s.fr}
def HU:=Nat→List PV→List MO→(γ:Type)→(cS→List MO→Option γ)→Option γ
def Rd.runK {α γ:Type}(orc:HU)(s:St):Rd α→List Nat→List Nat→(α→List Nat→List Nat→Option γ)→Option γ
 | .ret a,tr,ir,k=>k a tr ir
 | .fail,_,_,_=>none
 | .tmp t c,tr,ir,k=>(c (s.tmp t)).runK orc s (t::tr) ir k
 | .get id c,tr,ir,k=>match s.obj id with
  |some o=>(c o).runK orc s tr (id::ir) k
  |none=>none
 | .guard b c,tr,ir,k=>C6 b (c.runK orc s tr ir k) none
 | .call f A O c,tr,ir,k=>orc f A O γ λR O'=>(c R O').runK orc s tr ir k
def au:Nat→List Ob→List (Nat×Ob)
 |_,[]=>[]
 |n,o::r=>(n,o)::au (n+1) r
def St.apply (s:St)(base:Nat)(dst:Option Nat)(e:Eff):St:=
 let s:={s with st:=e.upd++au base e.new++s.st}
 match dst with
 |some d=>s.set d e.val
 |none=>s
structure LogE where
 i:Nat
 tr:List Nat
 ir:List Nat
 dst:Option Nat
 iw:List Nat
def CC:List Nat→List Nat→Bool
 |[],_=>false
 |x::r,l=>vJ x l||CC r l
def jF (a b:LogE):Bool:=
 CC a.dst.toList (b.tr++b.dst.toList)||CC b.dst.toList a.tr||CC a.iw (b.ir++b.iw)||CC b.iw a.ir
def after (ops:List Oper)(i:Nat):List Nat:=
 match ops[i]? with
 |some o=>o.after.toList.filterMap λe=>if Region.binds .any e then some e.on else none
 |none=>[]
def oq (ops:List Oper):Nat→Nat→Nat→Bool
 |0,_,_=>false
 |n+1,i,j=>let l:=after ops i;vJ j l||l.any λm=>Nat.blt j m&&oq ops n m j
def lA (ops:List Oper):List LogE→Bool
 |[]=>true
 |b::r=>(r.all λa=> !jF a b||oq ops ops.length a.i b.i)&&lA ops r
def j8 (ops:List Oper):Bool:=(List.range ops.length).all λi=>(after ops i).all λj=>Nat.blt j i
def IE (ops:List Oper)(j:Nat):Option Nat:=(ops[j]?).bind (·.dst)
def Cl {γ:Type}(te:TE)(orc:HU)(n:Nat)(ops:List Oper)(base:Nat):List Oper→Nat→St→List LogE→(St→List LogE→Option γ)→Option γ
 |[],_,s,log,k=>k s log
 |o::r,i,s,log,k=>
  let go:=λ(s:St) (tr0:List Nat)=>
   (dJ te (base+64*i) o.op).runK orc s tr0 [] λe tr ir=>
    let ids:=(au (base+64*i) e.new).map (·.1)
    C6 ((o.dst.toList.all λd=>Nat.blt d n)&&Nat.ble e.new.length 64&&(e.upd.all λu=>vJ u.1 ir))
     (Cl te orc n ops base r (i+1) (s.apply (base+64*i) o.dst e) (log++[⟨i,tr,ir,o.dst,e.upd.map (·.1)++ids⟩]) k) none
  let skip:=λ(s:St) (tr0:List Nat)=>
   C6 (o.dst.toList.all λd=>Nat.blt d n)
    (Cl te orc n ops base r (i+1) (match o.dst with|some d=>s.set d yU|none=>s) (log++[⟨i,tr0,[],o.dst,[]⟩]) k) none
  match o.guard with
  |none=>go s []
  |some (j,want)=>
   match IE ops j with
   |some t=>match s.tmp t with
    | .v false [.bool b]=>
     C6 b (match want with|true=>go (s.set t (one (.bool true))) [t]|false=>skip (s.set t (one (.bool true))) [t])
      (match want with|false=>go (s.set t (one (.bool false))) [t]|true=>skip (s.set t (one (.bool false))) [t])
    | .v false [.skipped]=>skip s [t]
    |_=>none
   |none=>none
inductive Ex where
 |normal|exit (id:Nat)|ret
structure Gc where
 map:List (Nat×Nat)
 out:List (Nat×Ob)
 nx:Nat
def DC.ids:DC→List Nat
 | .own id _=>[id]| .ptr id _=>[id]| .eptr id _ _ _=>[id]| .vw id _ _ _=>[id]| .fn _ ids=>ids| .down id _=>[id]
 |_=>[]
def Ob.ids:Ob→List Nat
 | .box cs=>cs.flatMap DC.ids
 |_=>[]
def DV.ids:DV→List Nat
 | .v _ cs=>cs.flatMap DC.ids
 | .tup vs=>vs.flatMap λv=>v.2.flatMap DC.ids
def dz (st:List (Nat×Ob)):Nat→List Nat→List Nat→List Nat
 |0,_,seen=>seen
 |_+1,[],seen=>seen
 |n+1,x::todo,seen=>
  match vJ x seen with
  |true=>dz st n todo seen
  |false=>match ac st x with
   |some o=>dz st n (todo++o.ids) (seen++[x])
   |none=>dz st n todo seen
def Pn (st:List (Nat×Ob))(id:Nat):Option Nat:=
 match ac st id with
 |some (.arr _ _ v _ _)=>some v
 |_=>none
def Qs (st:List (Nat×Ob))(id:Nat):Option Nat:=
 match ac st id with
 |some (.dar _ _ v _)=>some v
 |_=>none
def jY:List Nat→Nat→Nat→Option Nat
 |[],_,_=>none
 |y::r,x,n=>match Nat.beq y x with|true=>some n|false=>jY r x (n+1)
def Di (r m v:Nat):Nat:=match Nat.blt m r with|true=>v|false=>0
def rS (l:List Nat):List Nat→Option (List Nat)
 |[]=>some []
 |x::r=>match jY l x 0,rS l r with
  |some m,some ms=>some (m::ms)
  |_,_=>none
def DC.ren (r:Nat)(st:List (Nat×Ob))(seen:List Nat):DC→DC
 | .own id ver=>match jY seen id 0,Pn st id with
  |some m,some v=>(match Nat.beq v ver with|true=> .own m (Di r m v)|false=> .undef)
  |_,_=> .undef
 | .ptr id off=>match jY seen id 0 with|some m=> .ptr m off|none=> .undef
 | .eptr _ _ _ _=> .undef
 | .vw _ _ _ _=> .undef
 | .dptr _ _ _ _=> .undef
 | .inn _ _ _ _=> .undef
 | .iptr _ _ _ _ _ _=> .undef
 | .bsl _=> .undef
 | .down id ver=>match jY seen id 0,Qs st id with
  |some m,some v=>(match Nat.beq v ver with|true=> .down m (Di r m v)|false=> .undef)
  |_,_=> .undef
 | .fn f ids=>match rS seen ids with|some ms=> .fn f ms|none=> .undef
 |c=>c
def Ob.ren (r m:Nat)(st:List (Nat×Ob))(seen:List Nat):Ob→Ob
 | .box cs=> .box (cs.map (DC.ren r st seen))
 | .arr t xs v frz d=> .arr t xs (Di r m v) frz d
 | .dar t xs v iv=> .dar t xs (Di r m v) (Di r m iv)
def DV.ren (r:Nat)(st:List (Nat×Ob))(seen:List Nat):DV→DV
 | .v ag cs=> .v ag (cs.map (DC.ren r st seen))
 | .tup vs=> .tup (vs.map λv=>(v.1,v.2.map (DC.ren r st seen)))
def kK (r:Nat)(st:List (Nat×Ob))(seen:List Nat):List Nat→Nat→List (Nat×Ob)
 |[],_=>[]
 |x::l,n=>match ac st x with
  |some o=>(n,o.ren r n st seen)::kK r st seen l (n+1)
  |none=>kK r st seen l (n+1)
def St.norm0 (r:Nat)(keep:List Nat)(s:St):St:=
 let vs:=keep.map λt=>(t,s.tmp t)
 let seen:=dz s.st 10000 (List.range r++vs.flatMap λv=>v.2.ids) []
 ⟨vs.map λv=>(v.1,v.2.ren r s.st seen),kK r s.st seen seen 0,seen.length⟩
inductive NL where
 |tmp (t j:Nat)(ty:Ty)|box (t j:Nat)(ty:Ty)|dtmp (t j:Nat)(ty:Ty)|dbox (t j:Nat)(ty:Ty)|soft (t j:Nat)|softo (id j:Nat)|softb (t j:Nat)
def yG:Option DC→Bool
 |some .nil=>true
 |_=>false
def St.softO (s:St)(id j:Nat):St:=
 match s.obj id with
 |some (.box cs)=>match cs[j]? with
  |some (.sl _ ty xs)=>⟨s.fr,(id,.box (bA cs j (.sl .any ty xs)))::s.st,s.nx⟩
  |some (.own id2 ver)=>match s.obj id2 with
   |some (.arr ty xs ver' _ d)=>match Nat.beq ver ver' with
    |true=>⟨s.fr,(id,.box (bA cs j (.sl .any ty xs)))::(id2,.arr ty xs ver' true d)::s.st,s.nx⟩
    |false=>s
   |_=>s
  |_=>s
 |_=>s
def St.ownNil (s:St):NL→St
 | .tmp t j ty=>match s.tmp t with
  | .v ag cs=>match yG cs[j]? with
   |true=>⟨(t,.v ag (bA cs j (.own s.nx 0)))::s.fr,(s.nx,.arr ty [] 0 false true)::s.st,s.nx+1⟩
   |false=>s
  |_=>s
 | .box t j ty=>match s.tmp t with
  | .v false [.ptr id _]=>match s.obj id with
   |some (.box cs)=>match yG cs[j]? with
    |true=>⟨s.fr,(s.nx,.arr ty [] 0 false true)::(id,.box (bA cs j (.own s.nx 0)))::s.st,s.nx+1⟩
    |false=>s
   |_=>s
  |_=>s
 | .dtmp t j ty=>match s.tmp t with
  | .v ag cs=>match yG cs[j]? with
   |true=>⟨(t,.v ag (bA cs j (.down s.nx 0)))::s.fr,(s.nx,.dar ty [] 0 0)::s.st,s.nx+1⟩
   |false=>s
  |_=>s
 | .dbox t j ty=>match s.tmp t with
  | .v false [.ptr id _]=>match s.obj id with
   |some (.box cs)=>match yG cs[j]? with
    |true=>⟨s.fr,(s.nx,.dar ty [] 0 0)::(id,.box (bA cs j (.down s.nx 0)))::s.st,s.nx+1⟩
    |false=>s
   |_=>s
  |_=>s
 | .soft t j=>match s.tmp t with
  | .v ag cs=>match cs[j]? with
   |some (.own id ver)=>match s.obj id with
    |some (.arr ty xs ver' _ d)=>match Nat.beq ver ver' with
     |true=>⟨(t,.v ag (bA cs j (.sl .any ty xs)))::s.fr,(id,.arr ty xs ver' true d)::s.st,s.nx⟩
     |false=>s
    |_=>s
   |some (.sl _ ty xs)=>⟨(t,.v ag (bA cs j (.sl .any ty xs)))::s.fr,s.st,s.nx⟩
   |some (.vw id ver lo hi)=>match s.obj id with
    |some (.arr ty xs ver' _ d)=>match Nat.beq ver ver' with
     |true=>⟨(t,.v ag (bA cs j (.sl .any ty ((xs.take hi).drop lo))))::s.fr,(id,.arr ty xs ver' true d)::s.st,s.nx⟩
     |false=>s
    |_=>s
   |_=>s
  |_=>s
 | .softo id j=>s.softO id j
 | .softb t j=>match s.tmp t with
  | .v false [.ptr id _]=>s.softO id j
  |_=>s
def Ob.shallow:Ob→Ob
 | .box cs=> .box cs
 | .arr t xs v f _=> .arr t xs v f false
 |o=>o
def St.shallow (s:St):St:={s with st:=s.st.map λp=>(p.1,p.2.shallow)}
structure Keep where
 ts:List Nat
 nils:List NL
 shal:Bool
 roots:Nat
def mM:List NL→St→St
 |[],s=>s
 |x::r,s=>mM r (s.ownNil x)
def St.norm (K:Keep)(s:St):St:=
 let s1:=(mM K.nils s).norm0 K.roots K.ts
 match K.shal with|true=>s1.shallow|false=>s1
def EP {γ:Type}(keep kout:Keep)(round:St→(Ex→St→Option γ)→Option γ):Nat→St→(Ex→St→Option γ)→Option γ
 |0,_,_=>none
 |m+1,s,k=>round s fun
  | .normal,s'=>EP keep kout round m (s'.norm keep) k
  |e,s'=>k e (s'.norm kout)
def MC.toD:MC→DC
 | .c x=>x.toD .arg| .own k=> .own k 0| .ptr k=> .ptr k 0| .down k=> .down k 0
def PV.toV:PV→DV
 | .val ag cs=> .v ag (cs.map (Cell.toD .arg))
 | .fn f ks=>one (.fn f ks)
 | .wr ag cs=> .v ag (cs.map MC.toD)
 | .nils=>one .nil
 | .slx t xs=>one (.slx t xs)
def MO.toOb:MO→Ob
 | .box cs=> .box (cs.map MC.toD)
 | .arr t xs=> .arr t xs 0 false false
 | .dar t xs=> .dar t xs 0 0
def qf:Nat→List PV→List (Nat×DV)
 |_,[]=>[]
 |n,a::r=>(n,a.toV)::qf (n+1) r
def xg (s:St)(rn:Nat)(f:Fl)(c:DC)(used:List Nat)(k:RC→List Nat→Option cS):Option cS:=
 match c with
 | .bool b=>k (.c (.bool b)) used
 | .int kk n=>k (.c (.int kk n)) used
 | .str x=>k (.c (.str x)) used
 | .sl _ t xs=>k (.c (.sl t xs)) used
 | .nil=>match f with| .sl t=>k (.own true t []) used|_=>none
 | .own id ver=>match s.obj id with
  |some (.arr t xs ver' frz d)=>match Nat.beq ver ver',frz||vJ id used with
   |true,false=>(match Nat.blt id rn with|false=>k (.own d t xs) (id::used)|true=>none)
   |true,true=>match frz with|true=>k (.c (.sl t xs)) used|false=>none
   |_,_=>none
  |_=>none
 | .down id ver=>match s.obj id with
  |some (.dar t xs ver' _)=>match Nat.beq ver ver',vJ id used||Nat.blt id rn with
   |true,false=>k (.dar t xs) (id::used)
   |_,_=>none
  |_=>none
 | .ptr id 0=>match s.obj id with
  |some (.box cs)=>match vJ id used||Nat.blt id rn,ff cs with
   |false,some xs=>k (.box xs) (id::used)
   |_,_=>none
  |_=>none
 |_=>none
def sA (s:St)(rn:Nat):List Fl→List DC→List Nat→(List RC→List Nat→Option cS)→Option cS
 |[],[],used,k=>k [] used
 |f::fs,c::cs,used,k=>xg s rn f c used λx used=>sA s rn fs cs used λxs used=>k (x::xs) used
 |_,_,_,_=>none
def Jw (te:TE)(s:St)(rn:Nat)(r:ResultVar)(t:TypeId)(used:List Nat)(k:(Bool×List RC)→List Nat→Option cS):Option cS:=
 match ac te t with
 |some ti=>
  match r with
  | .tmp x=>match s.tmp x with
   | .v ag cs=>match ag==ti.agg with
    |true=>sA s rn ti.rfl cs used λxs used=>k (ag,xs) used
    |false=>none
   |_=>none
  | .cell a t'=>match Nat.beq t t',s.tmp a with
   |true,.v false [.ptr id off]=>match s.obj id with
    |some (.box cs)=>match Nat.ble (off+ti.fl.length) cs.length&&Nat.ble 1 ti.fl.length with
     |true=>sA s rn ti.fl ((cs.drop off).take ti.fl.length) used λxs used=>k (ti.agg,xs) used
     |false=>none
    |_=>none
   |_,_=>none
 |none=>none
def yl (te:TE)(s:St)(rn:Nat):List ResultVar→List TypeId→List Nat→(cS→Option cS)→Option cS
 |[],[],_,k=>k []
 |r::rs,t::ts,used,k=>Jw te s rn r t used λx used=>yl te s rn rs ts used λxs=>k (x::xs)
 |_,_,_,_=>none
def Jb (s:St)(rn:Nat)(c:DC):Option (Nat×Nat):=
 match c with
 | .own id ver=>match s.obj id with
  |some (.arr _ xs ver' _ _)=>match Nat.blt id rn&&Nat.beq ver 0&&Nat.beq ver' 0 with
   |true=>some (id,xs.length)
   |false=>none
  |_=>none
 | .vw id ver lo hi=>match s.obj id with
  |some (.arr _ _ ver' _ _)=>match Nat.blt id rn&&Nat.beq ver 0&&Nat.beq ver' 0&&Nat.beq lo 0 with
   |true=>some (id,hi)
   |false=>none
  |_=>none
 |_=>none
def KA (te:TE)(s:St)(rn:Nat)(rs:List ResultVar)(ts:List TypeId)(k:cS→Option cS):Option cS:=
 match rs with
 |[.tmp x]=>match s.tmp x with
  | .v false [c]=>match Jb s rn c with
   |some (id,n)=>k [(false,[.shr id n])]
   |none=>yl te s rn rs ts [] k
  |_=>yl te s rn rs ts [] k
 |_=>yl te s rn rs ts [] k
def LY:MC→RC
 | .c x=> .c x
 | .own k=> .own true .i64 [(k:Int)]
 | .ptr k=> .own false .i64 [(k:Int)]
 | .down k=> .own true .u64 [(k:Int)]
def nj:MO→Bool×List RC
 | .box cs=>(true,cs.map LY)
 | .arr t xs=>(false,[.c (.sl t xs)])
 | .dar t xs=>(false,[.dar t xs])
def E0 (s:St)(rn:Nat):List MC→List DC→Option (List MC)
 |[],[]=>some []
 | .c _::ds,c::cs=>match ff [c],E0 s rn ds cs with
  |some [x],some xs=>some (.c x::xs)
  |_,_=>none
 | .own k::ds,.own j ver::cs=>match Nat.beq k j&&Nat.beq ver 0&&Nat.blt k rn,s.obj k,E0 s rn ds cs with
  |true,some (.arr _ _ 0 _ _),some xs=>some (.own k::xs)
  |_,_,_=>none
 |_,_=>none
def JK (s:St)(rn id:Nat)(o:MO)(k:MO→Option cS):Option cS:=
 match o,s.obj id with
 | .box ds,some (.box cs)=>match E0 s rn ds cs with
  |some xs=>k (.box xs)
  |none=>none
 | .arr t0 _,some (.arr t xs ver frz _)=>match Nat.beq ver 0&& !frz&&decide (t=t0)with
  |true=>k (.arr t xs)
  |false=>none
 | .dar t0 _,some (.dar t xs ver iv)=>match Nat.beq ver 0&&Nat.beq iv 0&&decide (t=t0)with
  |true=>k (.dar t xs)
  |false=>none
 |_,_=>none
def tF (s:St)(rn:Nat):List MO→Nat→(List MO→Option cS)→Option cS
 |[],_,k=>k []
 |o::O,id,k=>JK s rn id o λx=>tF s rn O (id+1) λxs=>k (x::xs)
def MC.fits (O:List MO):MC→Bool
 | .c _=>true
 | .own k=>match O[k]? with|some (.arr _ _)=>true|_=>false
 | .ptr k=>match O[k]? with|some (.box _)=>true|_=>false
 | .down k=>match O[k]? with|some (.dar _ _)=>true|_=>false
def PV.fits (O:List MO):PV→Bool
 | .wr _ cs=>cs.all (MC.fits O)
 | .fn _ ks=>ks.all λk=>MC.fits O (.ptr k)
 |_=>true
def MO.fits (O:List MO):MO→Bool
 | .box cs=>cs.all (MC.fits O)
 |_=>true
end Go.Proofs.YtffjmkhjhchnmaaGreat
