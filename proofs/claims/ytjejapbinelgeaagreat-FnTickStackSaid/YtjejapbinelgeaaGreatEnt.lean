/- Contracts as an oracle; what is known of arguments. -/
import Derived.Test.YtjejapbinelgeaaGreatRow2
import Derived.Test.YtjejapbinelgeaaGreatLoop
set_option linter.unusedVariables false
set_option linter.unusedSimpArgs false
namespace Go.Proofs.YtjejapbinelgeaaGreat
open Go Go.RowKit
structure Ent1 (P:Program) where
 f:Nat
 g:List PV→List MO→(γ:Type)→(Res→List MO→Option γ)→Option γ
 ok:∀A O (γ:Type) k (z:γ),g A O γ k=some z→∃R O',ConM P f A O R O'∧k R O'=some z
def orcOf {P:Program}:List (Ent1 P)→Orc
 |[],_,_,_,_,_=>none
 |e::r,f,A,O,γ,k=>match Nat.beq e.f f with
  |true=>e.g A O γ k
  |false=>orcOf r f A O γ k
theorem orcOf_ok {P:Program}:∀(L:List (Ent1 P)),OrcOk (ConM P) (orcOf L)
 |[],_,_,_,_,_,_,h=>by cases h
 |e::r,f,A,O,γ,k,z,h=>by
  simp only[orcOf]at h
  cases hb:Nat.beq e.f f with
  |true=>
   rw[hb]at h
   obtain⟨R,O',h1,h2⟩:=e.ok A O γ k z h
   rw[Nat.eq_of_beq_eq_true hb]at h1
   exact⟨R,O',h1,h2⟩
  |false=>rw[hb]at h;exact orcOf_ok r f A O γ k z h
def FactMC:MC→Prop
 | .c x=>FactC x
 |_=>True
def FactPV:PV→Prop
 | .val _ cs=>∀c∈cs,FactC c
 | .fn _ _=>True
 | .wr _ cs=>∀c∈cs,FactMC c
 | .nils=>True
 | .slx t xs=>FactC (.sl t xs)
theorem RepMC.fact {mo:Mts}{J:Nat→Prop}{w:World}{c:MC}{v:Value}(h:RepMC mo J w c v):FactMC c:=by
 cases c with
 |c x=>exact RepC.fact h
 |own _=>trivial
 |ptr _=>trivial
theorem RepPVm.fact {mo:Mts}{J:Nat→Prop}{w:World}{A:PV}{v:Value}(h:RepPVm mo J w A v):FactPV A:=by
 cases A with
 |fn f caps=>trivial
 |nils=>trivial
 |slx t xs=>exact RepC.fact h.1
 |wr ag cs=>
  intro c hc
  obtain⟨i,hi⟩:=List.getElem?_of_mem hc
  cases ag with
  |true=>
   obtain⟨us,rfl,hu⟩:=h
   obtain⟨u,_,hr⟩:=hu.at hi
   exact hr.1.fact
  |false=>
   obtain⟨c',rfl,hr⟩:=h
   rw[List.mem_singleton]at hc
   subst hc
   exact hr.fact
 |val ag cs=>
  intro c hc
  obtain⟨i,hi⟩:=List.getElem?_of_mem hc
  cases ag with
  |true=>
   obtain⟨us,rfl,hu⟩:=h
   obtain⟨u,_,hr⟩:=hu.at hi
   exact hr.fact
  |false=>
   obtain⟨c',rfl,hr⟩:=h
   rw[List.mem_singleton]at hc
   subst hc
   exact hr.fact
theorem Con.of_facts {P:Program}{f:Nat}{A:List PV}{R:Res}(he:∀args w,(callFunc f args).run P w= .ok (.enter f args) w)(h:(∀a∈A,FactPV a)→Con P f A R):Con P f A R:=by
 refine⟨he,fun w J mo vs hJ h1 h2 h3 hg hgx hA=> ?_⟩
 refine(h fun a ha=> ?_).2 w J mo vs hJ h1 h2 h3 hg hgx hA
 obtain⟨i,hi⟩:=List.getElem?_of_mem ha
 obtain⟨v,_,hr⟩:=hA.at hi
 exact hr.fact
def FactMO:MO→Prop
 | .box cs=>∀c∈cs,FactMC c
 | .arr t xs=>FactC (.sl t xs)
theorem RepMO.fact {mo:Mts}{J:Nat→Prop}{w:World}{m:Option (Nat×Nat)×Nat}{o:MO}(h:RepMO mo J w m o):FactMO o:=by
 cases o with
 |box cs=>
  obtain⟨b,_,_,h3,_⟩:=h
  intro c hc
  obtain⟨i,hi⟩:=List.getElem?_of_mem hc
  obtain⟨u,_,hu⟩:=h3 i c hi
  exact hu.fact
 |arr t xs=>
  obtain⟨_,h3⟩:=h
  rcases h3 with⟨_,h3⟩|⟨b,cap,_,_,_,h4,_,h6⟩
  ·subst h3;exact .sl t [] (by simp) (by simp)
  ·refine .sl t xs h4 fun x hx c hc=> ?_
   obtain⟨i,hi⟩:=List.getElem?_of_mem hx
   obtain⟨j,hj⟩:=List.getElem?_of_mem hc
   obtain⟨u,_,hu⟩:=h6 i x j c hi hj
   exact hu.fact
theorem ConM.of_facts {P:Program}{f:Nat}{A:List PV}{O O':List MO}{R:Res}(he:∀args w,(callFunc f args).run P w= .ok (.enter f args) w)(h:(∀a∈A,FactPV a)→(∀o∈O,FactMO o)→ConM P f A O R O'):ConM P f A O R O':=by
 refine⟨he,fun w J mo vs hJ h1 h2 h3 hg hgx hA=> ?_⟩
 refine(h (fun a ha=> ?_) fun o ho=> ?_).2 w J mo vs hJ h1 h2 h3 hg hgx hA
 ·obtain⟨i,hi⟩:=List.getElem?_of_mem ha
  obtain⟨v,_,hr⟩:=hA.at hi
  exact hr.fact
 ·obtain⟨i,hi⟩:=List.getElem?_of_mem ho
  obtain⟨v,_,hr⟩:=All2.atR h1 hi
  exact hr.fact
theorem Con.byNil {P:Program}{f:Nat}{t:Ty}{xs:List t.T}{R:Res}(h1:xs=[]→Con P f [.nils] R)(h2:Con P f [.slx t xs] R):Con P f [.val false [.sl t xs]] R:=by
 refine⟨h2.1,fun w J mo vs hJ hmo hinj hX hg hgx hA=> ?_⟩
 obtain⟨v,hv⟩:∃v,vs.toList=[v]∧RepPVm mo J w (.val false [.sl t xs]) v:=by
  generalize vs.toList=l at hA
  match l,hA with
  |[v],hA=>exact⟨v,rfl,hA.1⟩
 obtain⟨hvs,c,hc,hr⟩:=hv
 cases hc
 by_cases hn:v= .slice none 0 0
 ·have hx:xs=[]:=by
   subst hn
   cases hr with
   |nil=>rfl
  exact(h1 hx).2 w J mo vs hJ hmo hinj hX hg hgx (by rw[hvs];exact⟨hn,trivial⟩)
 ·refine h2.2 w J mo vs hJ hmo hinj hX hg hgx ?_
  rw[hvs]
  refine⟨⟨hr, ?_⟩,trivial⟩
  clear hvs
  cases hr with
  |nil=>exact absurd rfl hn
  |emp _ a cap=>exact⟨a,0,cap,rfl⟩
  |sl _ _ b off cap _ _ _ _ _ _=>exact⟨_,_,_,rfl⟩
def Ty.mcs:(t:Ty)→t.T→List MC
 | .u8=>fun x=>[.c (.int .u8 x)]
 | .i64=>fun x=>[.c (.int .i64 x)]
 | .u64=>fun x=>[.c (.int .u64 x)]
 | .bool=>fun x=>[.c (.bool x)]
 | .str=>fun x=>[.c (.str x)]
 | .fram=>fun x=>[.c (.int .i64 x.dst),.c (.int .i64 x.src),.c (.int .i64 x.type),.c (.str x.body)]
 | .arpm=>fun x=>[.c (.int .i64 x.kind),.c (.int .i64 x.srcHw),.c (.int .i64 x.srcIp),.c (.int .i64 x.dstHw),.c (.int .i64 x.dstIp)]
 | .pack=>fun x=>[.c (.int .i64 x.src),.c (.int .i64 x.dst),.c (.int .i64 x.ttl),.c (.int .i64 x.proto),.c (.int .i64 x.id),.c (.str x.body)]
 | .opti=>fun x=>[.c (.int .i64 x.mss),.c (.int .i64 x.scale),.c (.bool x.sack),.c (.bool x.stamp),.c (.int .i64 x.val),.c (.int .i64 x.echo)]
 | .segm=>fun x=>[.c (.int .i64 x.from_),.c (.int .i64 x.to),.c (.int .i64 x.seq),.c (.int .i64 x.ack),.c (.int .i64 x.flags),.c (.int .i64 x.window),.c (.int .i64 x.opts.mss),.c (.int .i64 x.opts.scale),.c (.bool x.opts.sack),.c (.bool x.opts.stamp),.c (.int .i64 x.opts.val),.c (.int .i64 x.opts.echo),.c (.str x.body)]
 | .sipr=>fun x=>[.c (.int .u64 x.a),.c (.int .u64 x.b),.c (.int .u64 x.c),.c (.int .u64 x.d)]
 | .macRow=>fun x=>[.c (.str x.input),.c (.int .i64 x.value)]
 | .mac=>fun x=>[.c (.bool x.use),.c (.int .u64 x.k),.c (.int .u64 x.l),.c (.sl .macRow x.rows)]
 | .tupl=>fun x=>[.c (.int .i64 x.ip),.c (.int .i64 x.port),.c (.int .i64 x.my)]
 | .keys=>fun x=>[.c (.int .i64 x.epoch),.c (.bool x.now.use),.c (.int .u64 x.now.k),.c (.int .u64 x.now.l),.c (.sl .macRow x.now.rows),.c (.bool x.before.use),.c (.int .u64 x.before.k),.c (.int .u64 x.before.l),.c (.sl .macRow x.before.rows),.c (.bool x.two)]
 | .entr=>fun x=>[.c (.int .i64 x.ip),.c (.int .i64 x.hw),.c (.int .i64 x.age)]
 | .link=>fun x=>[.c (.int .i64 x.mac),.c (.int .i64 x.ip),.c (.sl .entr x.cache)]
 | .sndr=>fun x=>[.c (.int .i64 x.una),.c (.str x.data),.c (.int .i64 x.sent),.c (.bool x.fin),.c (.bool x.finSent),.c (.bool x.done)]
 | .chun=>fun x=>[.c (.int .i64 x.seq),.c (.str x.text),.c (.bool x.fin)]
 | .piec=>fun x=>[.c (.int .i64 x.off),.c (.str x.text)]
 | .recv=>fun x=>[.c (.int .i64 x.next),.c (.str x.data),.c (.sl .piec x.held),.c (.int .i64 x.fin),.c (.bool x.done)]
 | .conn=>fun x=>[.c (.int .i64 x.tuple.ip),.c (.int .i64 x.tuple.port),.c (.int .i64 x.tuple.my),.c (.int .i64 x.state),.c (.int .i64 x.s.una),.c (.str x.s.data),.c (.int .i64 x.s.sent),.c (.bool x.s.fin),.c (.bool x.s.finSent),.c (.bool x.s.done),.c (.int .i64 x.r.next),.c (.str x.r.data),.c (.sl .piec x.r.held),.c (.int .i64 x.r.fin),.c (.bool x.r.done),.c (.int .i64 x.window),.c (.int .i64 x.most),.c (.int .i64 x.opts.mss),.c (.int .i64 x.opts.scale),.c (.bool x.opts.sack),.c (.bool x.opts.stamp),.c (.int .i64 x.opts.val),.c (.int .i64 x.opts.echo),.c (.int .i64 x.timer),.c (.int .i64 x.tries)]
 | .half=>fun x=>[.c (.int .i64 x.tuple.ip),.c (.int .i64 x.tuple.port),.c (.int .i64 x.tuple.my),.c (.int .i64 x.iss),.c (.int .i64 x.irs),.c (.int .i64 x.opts.mss),.c (.int .i64 x.opts.scale),.c (.bool x.opts.sack),.c (.bool x.opts.stamp),.c (.int .i64 x.opts.val),.c (.int .i64 x.opts.echo),.c (.int .i64 x.age),.c (.int .i64 x.window)]
 | .limi=>fun x=>[.c (.int .i64 x.halves),.c (.int .i64 x.waiting),.c (.int .i64 x.conns),.c (.int .i64 x.chal)]
 | .tabl=>fun x=>[.c (.sl .conn x.conns),.c (.sl .tupl x.waiting)]
 | .door=>fun x=>[.c (.int .i64 x.port),.c (.int .i64 x.clock),.c (.int .i64 x.keys.epoch),.c (.bool x.keys.now.use),.c (.int .u64 x.keys.now.k),.c (.int .u64 x.keys.now.l),.c (.sl .macRow x.keys.now.rows),.c (.bool x.keys.before.use),.c (.int .u64 x.keys.before.k),.c (.int .u64 x.keys.before.l),.c (.sl .macRow x.keys.before.rows),.c (.bool x.keys.two),.c (.int .i64 x.limits.halves),.c (.int .i64 x.limits.waiting),.c (.int .i64 x.limits.conns),.c (.int .i64 x.limits.chal),.c (.sl .half x.halves),.c (.sl .conn x.table.conns),.c (.sl .tupl x.table.waiting),.c (.int .i64 x.chal)]
 | .stac=>fun x=>[.c (.int .i64 x.link.mac),.c (.int .i64 x.link.ip),.c (.sl .entr x.link.cache),.c (.int .i64 x.door.port),.c (.int .i64 x.door.clock),.c (.int .i64 x.door.keys.epoch),.c (.bool x.door.keys.now.use),.c (.int .u64 x.door.keys.now.k),.c (.int .u64 x.door.keys.now.l),.c (.sl .macRow x.door.keys.now.rows),.c (.bool x.door.keys.before.use),.c (.int .u64 x.door.keys.before.k),.c (.int .u64 x.door.keys.before.l),.c (.sl .macRow x.door.keys.before.rows),.c (.bool x.door.keys.two),.c (.int .i64 x.door.limits.halves),.c (.int .i64 x.door.limits.waiting),.c (.int .i64 x.door.limits.conns),.c (.int .i64 x.door.limits.chal),.c (.sl .half x.door.halves),.c (.sl .conn x.door.table.conns),.c (.sl .tupl x.door.table.waiting),.c (.int .i64 x.door.chal)]
 | .acti=>fun x=>[.c (.int .i64 x.kind),.c (.int .i64 x.tuple.ip),.c (.int .i64 x.tuple.port),.c (.int .i64 x.tuple.my),.c (.int .i64 x.n),.c (.str x.text),.c (.bool x.mac.use),.c (.int .u64 x.mac.k),.c (.int .u64 x.mac.l),.c (.sl .macRow x.mac.rows)]
 | .resu=>fun x=>[.c (.sl .str x.frames),.c (.int .i64 x.made),.c (.int .i64 x.tuple.ip),.c (.int .i64 x.tuple.port),.c (.int .i64 x.tuple.my),.c (.int .i64 x.n),.c (.str x.text),.c (.bool x.ok)]
 | .issu=>fun x=>[.c (.int .i64 x.tuple.ip),.c (.int .i64 x.tuple.port),.c (.int .i64 x.tuple.my),.c (.int .i64 x.seq),.c (.int .i64 x.cookie)]
 | .clie=>fun x=>[.c (.int .i64 x.tuple.ip),.c (.int .i64 x.tuple.port),.c (.int .i64 x.tuple.my),.c (.int .i64 x.isn),.c (.int .i64 x.opts.mss),.c (.int .i64 x.opts.scale),.c (.bool x.opts.sack),.c (.bool x.opts.stamp),.c (.int .i64 x.opts.val),.c (.int .i64 x.opts.echo),.c (.int .i64 x.window)]
 | .mail=>fun x=>[.c (.int .i64 x.ip),.c (.int .i64 x.g.from_),.c (.int .i64 x.g.to),.c (.int .i64 x.g.seq),.c (.int .i64 x.g.ack),.c (.int .i64 x.g.flags),.c (.int .i64 x.g.window),.c (.int .i64 x.g.opts.mss),.c (.int .i64 x.g.opts.scale),.c (.bool x.g.opts.sack),.c (.bool x.g.opts.stamp),.c (.int .i64 x.g.opts.val),.c (.int .i64 x.g.opts.echo),.c (.str x.g.body)]
 | .curs=>fun x=>[.c (.sl .u8 x.b),.c (.int .i64 x.i),.c (.int .i64 x.h)]
theorem Ty.mcs_cells:∀(t:Ty) (x:t.T),t.mcs x=(t.cells x).map .c:=by intro t x;cases t<;>rfl
def getCs:List MC→Option (List Cell)
 |[]=>some []
 | .c x::r=>match getCs r with
  |some l=>some (x::l)
  |none=>none
 |_::_=>none
theorem getCs_map:∀{cs:List MC} {l:List Cell},getCs cs=some l→l.map .c=cs
 |[],_,h=>by cases h;rfl
 | .c x::r,l,h=>by
  simp only[getCs]at h
  split at h
  ·rename_i l' hl
   cases h
   simp only[List.map_cons,getCs_map hl]
  ·cases h
 | .own _::_,_,h=>by cases h
 | .ptr _::_,_,h=>by cases h
inductive WP where
 |c (f:Fl)|own (k:Nat)|ptr (k:Nat)|st (t:Ty)
@[reducible] def HW:List WP→Type
 |[]=>Unit
 | .c f::r=>f.T×HW r
 | .own _::r=>HW r
 | .ptr _::r=>HW r
 | .st t::r=>t.T×HW r
def wrH:(ps:List WP)→HW ps→List MC
 |[],_=>[]
 | .c f::r,x=> .c (f.cell x.1)::wrH r x.2
 | .own k::r,x=> .own k::wrH r x
 | .ptr k::r,x=> .ptr k::wrH r x
 | .st t::r,x=>t.mcs x.1++wrH r x.2
def getW:(ps:List WP)→List MC→Option (HW ps)
 |[],[]=>some ()
 | .c f::r,.c x::cs=>match f.get x,getW r cs with
  |some y,some ys=>some (y,ys)
  |_,_=>none
 | .own k::r,.own k'::cs=>match Nat.beq k k' with|true=>getW r cs|false=>none
 | .ptr k::r,.ptr k'::cs=>match Nat.beq k k' with|true=>getW r cs|false=>none
 | .st t::r,cs=>match getCs (cs.take t.size),getW r (cs.drop t.size)with
  |some l,some ys=>match t.get l with
   |some y=>some (y,ys)
   |none=>none
  |_,_=>none
 |_,_=>none
theorem getW_wrH:∀{ps:List WP} {cs:List MC} {x:HW ps},getW ps cs=some x→wrH ps x=cs
 |[],[],_,_=>rfl
 | .c f::r,.c y::cs,x,h=>by
  simp only[getW]at h
  split at h
  ·rename_i a b ha hb
   cases h
   simp only[wrH,Fl.get_cell ha,getW_wrH hb]
  ·cases h
 | .own k::r,.own k'::cs,x,h=>by
  simp only[getW]at h
  split at h
  ·rename_i e
   rw[←Nat.eq_of_beq_eq_true e]
   simp only[wrH,getW_wrH h]
  ·cases h
 | .ptr k::r,.ptr k'::cs,x,h=>by
  simp only[getW]at h
  split at h
  ·rename_i e
   rw[←Nat.eq_of_beq_eq_true e]
   simp only[wrH,getW_wrH h]
  ·cases h
 | .st t::r,cs,x,h=>by
  simp only[getW]at h
  split at h
  ·rename_i l ys hl hys
   split at h
   ·rename_i y hy
    cases h
    simp only[wrH,Ty.mcs_cells,Ty.get_cells hy,getCs_map hl,getW_wrH hys,List.take_append_drop]
   ·cases h
  ·cases h
 |[],_::_,_,h=>by cases h
 | .c _::_,[],_,h=>by cases h
 | .own _::_,[],_,h=>by cases h
 | .ptr _::_,[],_,h=>by cases h
 | .c _::_,.own _::_,_,h=>by cases h
 | .c _::_,.ptr _::_,_,h=>by cases h
 | .own _::_,.c _::_,_,h=>by cases h
 | .own _::_,.ptr _::_,_,h=>by cases h
 | .ptr _::_,.c _::_,_,h=>by cases h
 | .ptr _::_,.own _::_,_,h=>by cases h
inductive Pk where
 |sc (f:Fl)|st (t:Ty)|fn (f:Nat)(ks:List Nat)|wr (agg:Bool)(ps:List WP)
@[reducible] def Pk.T:Pk→Type
 | .sc f=>f.T
 | .st t=>t.T
 | .fn _ _=>Unit
 | .wr _ ps=>HW ps
def Pk.pv:(k:Pk)→k.T→PV
 | .sc f,x=> .val false [f.cell x]
 | .st t,x=> .val true (t.cells x)
 | .fn f ks,_=> .fn f ks
 | .wr ag ps,x=> .wr ag (wrH ps x)
def Pk.get:(k:Pk)→PV→Option k.T
 | .sc f,.val false [c]=>f.get c
 | .st t,.val true cs=>t.get cs
 | .fn f ks,.fn f' ds=>match Nat.beq f f'&&beqL ks ds with|true=>some ()|false=>none
 | .wr true ps,.wr true cs=>getW ps cs
 | .wr false ps,.wr false cs=>getW ps cs
 |_,_=>none
theorem Pk.get_pv {k:Pk}{a:PV}{x:k.T}(h:k.get a=some x):a=k.pv x:=by
 unfold Pk.get at h
 split at h
 ·rename_i f c;simp only[Pk.pv,Fl.get_cell h]
 ·rename_i t cs;simp only[Pk.pv,Ty.get_cells h]
 ·split at h
  ·rename_i e
   simp only[Bool.and_eq_true]at e
   cases Nat.eq_of_beq_eq_true e.1
   cases beqL_eq e.2
   rfl
  ·cases h
 ·simp only[Pk.pv,getW_wrH h]
 ·simp only[Pk.pv,getW_wrH h]
 ·cases h
@[reducible] def HP:List Pk→Type
 |[]=>Unit
 |k::r=>k.T×HP r
def pvs:(ks:List Pk)→HP ks→List PV
 |[],_=>[]
 |k::r,x=>k.pv x.1::pvs r x.2
def gets:(ks:List Pk)→List PV→Option (HP ks)
 |[],[]=>some ()
 |k::r,a::s=>match k.get a,gets r s with
  |some x,some y=>some (x,y)
  |_,_=>none
 |_,_=>none
theorem gets_pvs:∀{ks:List Pk} {A:List PV} {x:HP ks},gets ks A=some x→A=pvs ks x
 |[],[],_,_=>rfl
 |k::r,a::s,x,h=>by
  simp only[gets]at h
  split at h
  ·rename_i y z hy hz
   cases h
   simp only[pvs,←Pk.get_pv hy,←gets_pvs hz]
  ·cases h
 |[],_::_,_,h=>by cases h
 |_::_,[],_,h=>by cases h
inductive Mk where
 |arr (t:Ty)|box (ps:List WP)
@[reducible] def Mk.T:Mk→Type
 | .arr t=>List t.T
 | .box ps=>HW ps
def Mk.mo:(k:Mk)→k.T→MO
 | .arr t,xs=> .arr t xs
 | .box ps,x=> .box (wrH ps x)
def Mk.get:(k:Mk)→MO→Option k.T
 | .arr t,.arr t' xs=>if h:t'=t then some (h▸xs)else none
 | .box ps,.box cs=>getW ps cs
 |_,_=>none
theorem Mk.get_mo {k:Mk}{o:MO}{x:k.T}(h:k.get o=some x):o=k.mo x:=by
 cases k with
 |arr t=>
  cases o with
  |box _=>cases h
  |arr t' xs=>
   simp only[Mk.get]at h
   split at h
   ·rename_i e
    subst e
    cases h
    rfl
   ·cases h
 |box fs=>
  cases o with
  |arr _ _=>cases h
  |box cs=>simp only[Mk.get]at h;simp only[Mk.mo,getW_wrH h]
@[reducible] def HM:List Mk→Type
 |[]=>Unit
 |k::r=>k.T×HM r
def mos:(ks:List Mk)→HM ks→List MO
 |[],_=>[]
 |k::r,x=>k.mo x.1::mos r x.2
def getm:(ks:List Mk)→List MO→Option (HM ks)
 |[],[]=>some ()
 |k::r,a::s=>match k.get a,getm r s with
  |some x,some y=>some (x,y)
  |_,_=>none
 |_,_=>none
theorem getm_mos:∀{ks:List Mk} {O:List MO} {x:HM ks},getm ks O=some x→O=mos ks x
 |[],[],_,_=>rfl
 |k::r,a::s,x,h=>by
  simp only[getm]at h
  split at h
  ·rename_i y z hy hz
   cases h
   simp only[mos,←Mk.get_mo hy,←getm_mos hz]
  ·cases h
 |[],_::_,_,h=>by cases h
 |_::_,[],_,h=>by cases h
inductive Ow where
 |c|o (deep:Bool)
def rcOf:Ow→Cell→RC
 | .o d,.sl t xs=> .own d t xs
 |_,x=> .c x
def rcs:List Ow→List Cell→List RC
 |[],cs=>cs.map .c
 |_::_,[]=>[]
 |o::r,x::cs=>rcOf o x::rcs r cs
def rv (k:Pk)(ow:List Ow)(x:k.T):Bool×List RC:=
 match k.pv x with
 | .val ag cs=>(ag,rcs ow cs)
 |_=>(false,[])
def sc:Ow→(t:Ty)→List t.T→RC
 | .o d,t,xs=> .own d t xs
 | .c,t,xs=> .c (.sl t xs)
def rb (t:Ty)(x:t.T):Bool×List RC:=(false,[.box (t.cells x)])
theorem FactC.len {t:Ty}{xs:List t.T}(h:FactC (.sl t xs)):xs.length≤140737488355328:=by cases h with|sl _ _ h _=>exact h
theorem FactC.slen {s:Bytes}(h:FactC (.str s)):s.length≤4611686018427387904:=by cases h with|str _ h=>exact h
theorem FactC.rng {k:IntKind}{n:Int}(h:FactC (.int k n)):inK k n:=by cases h with|int _ _ h=>exact h
theorem FactC.elem {t:Ty}{xs:List t.T}(h:FactC (.sl t xs)){x:t.T}(hx:x∈xs):∀c∈t.cells x,FactC c:=by cases h with|sl _ _ _ hc=>exact hc x hx
theorem factAt {A:List PV}(h:∀a∈A,FactPV a)(i j:Nat){ag:Bool}{cs:List Cell}{c:Cell}(h1:A[i]? =some (.val ag cs))(h2:cs[j]? =some c):FactC c:=
 h _ (List.mem_of_getElem? h1) c (List.mem_of_getElem? h2)
theorem moAt {O:List MO}(h:∀o∈O,FactMO o)(i:Nat){t:Ty}{xs:List t.T}(h1:O[i]? =some (.arr t xs)):FactC (.sl t xs):=h _ (List.mem_of_getElem? h1)
theorem mbAt {O:List MO}(h:∀o∈O,FactMO o)(i j:Nat){cs:List MC}{c:Cell}(h1:O[i]? =some (.box cs))(h2:cs[j]? =some (.c c)):FactC c:=h _ (List.mem_of_getElem? h1) _ (List.mem_of_getElem? h2)
theorem wrap64 {m:Int}(h0: -9223372036854775808≤m)(h1:m≤9223372036854775807):IntKind.i64.wrap m=m:=by
 unfold IntKind.wrap
 simp only[IntKind.signed,IntKind.bits]
 simp
 omega
theorem wrapU_nonneg (m:Int):0≤IntKind.u64.wrap m:=(inK_wrap .u64 m).1
def toInts (s:Bytes):List Int:=s.map fun c=>(c.toNat:Int)
def toBytes (xs:List Int):Bytes:=List.map (fun n:Int=>UInt8.ofNat n.toNat) xs
def byteAt (s:Bytes)(i:Nat):Int:=((s.getD i 0).toNat:Int)
def elF (t:Ty)(xs:List t.T):Prop:=∀y∈xs,∀c∈t.cells y,FactC c
theorem elF_str {xs:List Bytes}(h:elF .str xs):∀y∈xs,List.length y≤4611686018427387904:=fun y hy=>(h y hy (.str y) List.mem_cons_self).slen
def Fl.fact:(f:Fl)→f.T→Prop
 | .int .i64,n=> -9223372036854775808≤(n:Int)∧(n:Int)≤9223372036854775807
 | .int .u64,n=>0≤(n:Int)∧(n:Int)≤18446744073709551615
 | .int .u8,n=>0≤(n:Int)∧(n:Int)≤255
 | .int .i32,n=>inK .i32 n| .int .u32,n=>inK .u32 n| .int .i16,n=>inK .i16 n| .int .u16,n=>inK .u16 n| .int .i8,n=>inK .i8 n
 | .bool,_=>True
 | .str,s=>List.length s≤4611686018427387904
 | .sl t,xs=>List.length xs≤140737488355328∧elF t xs
theorem Fl.fact_of {f:Fl}{x:f.T}(h:FactC (f.cell x)):f.fact x:=by
 cases f with
 |int k=>
  have h:=h.rng
  cases k with
  |i64=>exact⟨h.1,h.2⟩
  |u64=>exact⟨h.1,h.2⟩
  |u8=>exact⟨h.1,h.2⟩
  |i32=>exact h
  |u32=>exact h
  |i16=>exact h
  |u16=>exact h
  |i8=>exact h
 |bool=>trivial
 |str=>exact h.slen
 |sl t=>exact⟨h.len,fun y hy=>h.elem hy⟩
def factH:(fs:List Fl)→HL fs→Prop
 |[],_=>True
 |f::fs,x=>f.fact x.1∧factH fs x.2
theorem factH_of:∀{fs:List Fl} {x:HL fs},(∀c∈cellsH fs x,FactC c)→factH fs x
 |[],_,_=>trivial
 |f::fs,x,h=>⟨Fl.fact_of (h _ List.mem_cons_self),factH_of fun c hc=>h c (List.mem_cons_of_mem _ hc)⟩
def factW:(ps:List WP)→HW ps→Prop
 |[],_=>True
 | .c f::r,x=>f.fact x.1∧factW r x.2
 | .own _::r,x=>factW r x
 | .ptr _::r,x=>factW r x
 | .st t::r,x=>factH t.fl (t.toH x.1)∧factW r x.2
theorem factW_of:∀{ps:List WP} {x:HW ps},(∀c∈wrH ps x,FactMC c)→factW ps x
 |[],_,_=>trivial
 | .c f::r,x,h=>⟨Fl.fact_of (h _ List.mem_cons_self),factW_of fun c hc=>h c (List.mem_cons_of_mem _ hc)⟩
 | .own _::r,x,h=>factW_of (ps:=r) fun c hc=>h c (List.mem_cons_of_mem _ hc)
 | .ptr _::r,x,h=>factW_of (ps:=r) fun c hc=>h c (List.mem_cons_of_mem _ hc)
 | .st t::r,x,h=>⟨factH_of fun c hc=>h (.c c) (by
   simp only[wrH,Ty.mcs_cells]
   exact List.mem_append_left _ (List.mem_map.2 ⟨c,hc,rfl⟩)),factW_of fun c hc=>h c (by
   simp only[wrH]
   exact List.mem_append_right _ hc)⟩
def Pk.fact:(k:Pk)→k.T→Prop
 | .sc f,x=>f.fact x
 | .st t,x=>factH t.fl (t.toH x)
 | .fn _ _,_=>True
 | .wr _ ps,x=>factW ps x
theorem Pk.fact_of {k:Pk}{x:k.T}(h:FactPV (k.pv x)):k.fact x:=by
 cases k with
 |sc f=>exact Fl.fact_of (h _ List.mem_cons_self)
 |st t=>exact factH_of h
 |fn _ _=>trivial
 |wr ag ps=>exact factW_of h
def FactP:(ks:List Pk)→HP ks→Prop
 |[],_=>True
 |k::r,x=>k.fact x.1∧FactP r x.2
theorem factP_of:∀{ks:List Pk} {x:HP ks},(∀a∈pvs ks x,FactPV a)→FactP ks x
 |[],_,_=>trivial
 |k::r,x,h=>⟨Pk.fact_of (h _ List.mem_cons_self),factP_of fun c hc=>h c (List.mem_cons_of_mem _ hc)⟩
def Mk.fact:(k:Mk)→k.T→Prop
 | .arr t,xs=>List.length xs≤140737488355328∧elF t xs
 | .box ps,x=>factW ps x
def FactM:(ms:List Mk)→HM ms→Prop
 |[],_=>True
 |k::r,x=>k.fact x.1∧FactM r x.2
theorem Mk.fact_of {k:Mk}{x:k.T}(h:FactMO (k.mo x)):k.fact x:=by
 cases k with
 |arr t=>exact⟨FactC.len h,fun y hy=>FactC.elem h hy⟩
 |box ps=>exact factW_of h
theorem factM_of:∀{ms:List Mk} {y:HM ms},(∀o∈mos ms y,FactMO o)→FactM ms y
 |[],_,_=>trivial
 |k::r,x,h=>⟨Mk.fact_of (h _ List.mem_cons_self),factM_of fun c hc=>h c (List.mem_cons_of_mem _ hc)⟩
theorem mos_length:∀(ms:List Mk) (y:HM ms),(mos ms y).length=ms.length
 |[],_=>rfl
 |_::r,y=>by simp[mos,mos_length r]
theorem fx_enters {P:Program}{X:Fx}(hf:P.funcs[X.f]? =some X.fn){outer:List LE}(hc:fnFit X outer=true):∀args w,(callFunc X.f args).run P w= .ok (.enter X.f args) w:=by
 simp only[fnFit,Bool.and_eq_true,Bool.not_eq_true']at hc
 obtain⟨⟨⟨⟨h1,h2⟩,h3⟩,h4⟩,h5⟩:=hc
 obtain⟨c,hb⟩:=Option.isSome_iff_exists.1 h5
 exact enters_of hf hb h4
theorem entM_con {P:Program}(S:Seat P)(X:Fx)(orc:List (Ent1 P))(outer:List LE)(ks:List Pk)(ms:List Mk){V:Type}(p:HP ks→HM ms→Prop)(T:HP ks→HM ms→Tr V)(R:V→Res)(O':HP ks→HM ms→V→HM ms)
  (hf:P.funcs[X.f]? =some X.fn)(hc:(Nat.beq X.r ms.length&&fnFit X outer)=true)(hin:AllLS P X [] outer 0)
  (hlk:∀x y,evalFnM S.te (orcOf orc) (lorcOf outer) X.ann X.fn (pvs ks x) (mos ms y)=(T x y).run none fun v=>some (R v++(mos ms (O' x y v)).map encO))
  (hok:∀x y,p x y→FactP ks x→FactM ms y→(T x y).ok)(x:HP ks)(y:HM ms)(hp:p x y):ConM P X.f (pvs ks x) (mos ms y) (R (T x y).nice) (mos ms (O' x y (T x y).nice)):=by
 rw[Bool.and_eq_true]at hc
 refine ConM.of_facts (fx_enters hf hc.2) fun h1 h2=> ?_
 refine fnS S (orcOf_ok orc) hf hc.2 hin (by rw[mos_length,Nat.eq_of_beq_eq_true hc.1]) (by rw[mos_length,mos_length]) ?_
 rw[hlk,Tr.run_okQ _ (hok x y hp (factP_of h1) (factM_of h2))]
theorem pr1 {α β:Type}{a a':α}{b b':β}(h:(a,b)=(a',b')):a=a':=by cases h;rfl
theorem pr2 {α β:Type}{a a':α}{b b':β}(h:(a,b)=(a',b')):b=b':=by cases h;rfl
structure FX (A R:Type)(p F:A→Prop) where
 T:A→Tr R
 h:∀a,p a→F a→(T a).ok
def FX.f {A R:Type}{p F:A→Prop}(X:FX A R p F)(a:A):R:=(X.T a).nice
@[reducible] def FX.c {A R:Type} {p F:A→Prop} (X:FX A R p F):Fnc A R p (fun _ _=>True):=⟨X.f,fun _ _=>trivial⟩
@[reducible] def FactA {A:Type} (ks:List Pk) (ms:List Mk) (cv:HP ks→HM ms→A) (a:A):Prop:=∃x y,a=cv x y∧FactP ks x∧FactM ms y
section
variable {P:Program} (S:Seat P)
noncomputable def entW (X:Fx)(orc:List (Ent1 P))(outer:List LE)(ks:List Pk)(ms:List Mk){A V:Type}(cv:HP ks→HM ms→A)(p:A→Prop)(f:A→V)(T:A→Tr V)(R:V→Res)(O':HP ks→HM ms→V→HM ms)
  (hf:P.funcs[X.f]? =some X.fn)(hc:(Nat.beq X.r ms.length&&fnFit X outer)=true)(hin:AllLS P X [] outer 0)
  (hlk:∀x y,evalFnM S.te (orcOf orc) (lorcOf outer) X.ann X.fn (pvs ks x) (mos ms y)=(T (cv x y)).run none fun v=>some (R v++(mos ms (O' x y v)).map encO))
  (hok:∀x y,p (cv x y)→FactP ks x→FactM ms y→(T (cv x y)).ok)(hv:∀a,f a=(T a).nice):Ent1 P where
 f:=X.f
 g A O _ k:=optK (gets ks A) none fun x=>optK (getm ms O) none fun y=>cnd (dc (p (cv x y))) (letK (f (cv x y)) fun v=>k (R v) (mos ms (O' x y v))) none
 ok A O γ k z hg:=by
  obtain⟨x,hx,hg⟩:=optK_some hg
  obtain⟨y,hy,hg⟩:=optK_some hg
  cases hp:dc (p (cv x y))with
  |true=>
   rw[hp,hv]at hg
   exact⟨R (T (cv x y)).nice,mos ms (O' x y (T (cv x y)).nice),by rw[gets_pvs hx,getm_mos hy];exact entM_con S X orc outer ks ms (fun x y=>p (cv x y)) (fun x y=>T (cv x y)) R O' hf hc hin hlk hok x y (of_dc hp),hg⟩
  |false=>rw[hp]at hg;cases hg
noncomputable def entM (X:Fx)(orc:List (Ent1 P))(outer:List LE)(ks:List Pk)(ms:List Mk){A V:Type}(cv:HP ks→HM ms→A){p:A→Prop}{q:A→V→Prop}(F:FT A V p q)(R:V→Res)(O':HP ks→HM ms→V→HM ms)
  (hf:P.funcs[X.f]? =some X.fn)(hc:(Nat.beq X.r ms.length&&fnFit X outer)=true)(hin:AllLS P X [] outer 0)
  (hlk:∀x y,evalFnM S.te (orcOf orc) (lorcOf outer) X.ann X.fn (pvs ks x) (mos ms y)=(F.T (cv x y)).run none fun v=>some (R v++(mos ms (O' x y v)).map encO)):Ent1 P:=
 entW S X orc outer ks ms cv p F.f F.T R O' hf hc hin hlk (fun x y hp _ _=>(F.h _ hp).to fun _ _=>trivial) fun _=>rfl
noncomputable def entMX (X:Fx)(orc:List (Ent1 P))(outer:List LE)(ks:List Pk)(ms:List Mk){A V:Type}(cv:HP ks→HM ms→A){p F0:A→Prop}(F:FX A V p F0)(R:V→Res)(O':HP ks→HM ms→V→HM ms)
  (hf:P.funcs[X.f]? =some X.fn)(hc:(Nat.beq X.r ms.length&&fnFit X outer)=true)(hin:AllLS P X [] outer 0)
  (hlk:∀x y,evalFnM S.te (orcOf orc) (lorcOf outer) X.ann X.fn (pvs ks x) (mos ms y)=(F.T (cv x y)).run none fun v=>some (R v++(mos ms (O' x y v)).map encO))(hF:F0=FactA ks ms cv:=by exact rfl):Ent1 P:=
 entW S X orc outer ks ms cv p F.f F.T R O' hf hc hin hlk (fun x y hp h1 h2=>F.h _ hp (by rw[hF];exact⟨x,y,rfl,h1,h2⟩)) fun _=>rfl
noncomputable def entR (X:Fx)(orc:List (Ent1 P))(outer:List LE){ks:List Pk}{V:Type}(c:Option (HP ks→Prop))(f:HP ks→V)(T:HP ks→Tr V)(R:V→Res)
  (hf:P.funcs[X.f]? =some X.fn)(hin:AllLS P X [] outer 0)(h:∀x,((Nat.beq X.r 0&&fnFit X outer),evalFn S.te (orcOf orc) (lorcOf outer) X.ann X.fn (pvs ks x))=(true,(T x).run none fun v=>some (R v)))
  (hok:∀x,(∀p,c=some p→p x)→FactP ks x→(T x).ok)(hv:∀x,f x=(T x).nice):Ent1 P where
 f:=X.f
 g A O _ k:=match O with|[]=>optK (gets ks A) none fun x=>(match c with|some p=>cnd (dc (p x)) (letK (f x) fun v=>k (R v) []) none|none=>letK (f x) fun v=>k (R v) [])|_::_=>none
 ok A O γ k z hg:=by
  cases O with
  |cons _ _=>cases hg
  |nil=>
  obtain⟨x,hx,hg⟩:=optK_some hg
  suffices hz:(∀p,c=some p→p x)∧k (R (f x)) []=some z by
   refine⟨R (T x).nice,[], ?_,by rw[←hv];exact hz.2⟩
   rw[gets_pvs hx]
   exact entM_con S X orc outer ks [] (fun x _=>∀p,c=some p→p x) (fun x _=>T x) R (fun _ _ _=>()) hf (pr1 (h x)) hin (fun x y=>by
    rw[show mos [] y=[] from rfl]
    exact(pr2 (h x)).trans (by simp[mos])) (fun x _ hp h1 _=>hok x hp h1) x () hz.1
  cases c with
  |none=>exact⟨fun p hp=>(by cases hp),hg⟩
  |some p=>
   simp only[]at hg
   cases hp:dc (p x)with
   |true=>rw[hp]at hg;exact⟨fun p' h'=>by cases h';exact of_dc hp,hg⟩
   |false=>rw[hp]at hg;cases hg
noncomputable def entT (X:Fx)(orc:List (Ent1 P))(outer:List LE){ks:List Pk}{V:Type}{p:HP ks→Prop}{q:HP ks→V→Prop}(F:FT (HP ks) V p q)(R:V→Res)
  (hf:P.funcs[X.f]? =some X.fn)(hin:AllLS P X [] outer 0)(h:∀x,((Nat.beq X.r 0&&fnFit X outer),evalFn S.te (orcOf orc) (lorcOf outer) X.ann X.fn (pvs ks x))=(true,(F.T x).run none fun v=>some (R v))):Ent1 P:=
 entR S X orc outer (some p) F.f F.T R hf hin h (fun x hp _=>(F.h x (hp _ rfl)).to fun _ _=>trivial) fun _=>rfl
noncomputable def entX (X:Fx)(orc:List (Ent1 P))(outer:List LE){ks:List Pk}{V:Type}{p F0:HP ks→Prop}(F:FX (HP ks) V p F0)(R:V→Res)
  (hf:P.funcs[X.f]? =some X.fn)(hin:AllLS P X [] outer 0)(h:∀x,((Nat.beq X.r 0&&fnFit X outer),evalFn S.te (orcOf orc) (lorcOf outer) X.ann X.fn (pvs ks x))=(true,(F.T x).run none fun v=>some (R v)))(hF:F0=FactP ks:=by exact rfl):Ent1 P:=
 entR S X orc outer (some p) F.f F.T R hf hin h (fun x hp h1=>F.h x (hp _ rfl) (by rw[hF];exact h1)) fun _=>rfl
noncomputable def ent0 {f:Nat}{fn:Func}(hf:P.funcs[f]? =some fn)(orc:List (Ent1 P)){ks:List Pk}{V:Type}{p:HP ks→Prop}{q:HP ks→V→Prop}(F:FT (HP ks) V p q)(R:V→Res)
  (h:∀x,((Nat.beq 0 0&&fnFit ⟨f,fn,[],0⟩ []),evalFn S.te (orcOf orc) (lorcOf []) [] fn (pvs ks x))=(true,(F.T x).run none fun v=>some (R v))):Ent1 P:=
 entT S ⟨f,fn,[],0⟩ orc [] F R hf trivial h
noncomputable def ent0X {f:Nat}{fn:Func}(hf:P.funcs[f]? =some fn)(orc:List (Ent1 P)){ks:List Pk}{V:Type}{p F0:HP ks→Prop}(F:FX (HP ks) V p F0)(R:V→Res)
  (h:∀x,((Nat.beq 0 0&&fnFit ⟨f,fn,[],0⟩ []),evalFn S.te (orcOf orc) (lorcOf []) [] fn (pvs ks x))=(true,(F.T x).run none fun v=>some (R v)))(hF:F0=FactP ks:=by exact rfl):Ent1 P:=
 entX S ⟨f,fn,[],0⟩ orc [] F R hf trivial h hF
noncomputable def ent1 {f:Nat}{fn:Func}(hf:P.funcs[f]? =some fn)(orc:List (Ent1 P)){ks:List Pk}{V:Type}(F:FF (HP ks) V)(R:V→Res)
  (h:∀x,((F.T x).free,(Nat.beq 0 0&&fnFit ⟨f,fn,[],0⟩ []),evalFn S.te (orcOf orc) (lorcOf []) [] fn (pvs ks x))=(true,true,(F.T x).run none fun v=>some (R v))):Ent1 P:=
 entR S ⟨f,fn,[],0⟩ orc [] none F.f F.T R hf trivial (fun x=>pr2 (h x)) (fun x _ _=>Tr.ok_of_free _ (pr1 (h x)) trivial) fun _=>rfl
noncomputable def ent1L (X:Fx)(orc:List (Ent1 P))(outer:List LE){ks:List Pk}{V:Type}(F:FF (HP ks) V)(R:V→Res)(hf:P.funcs[X.f]? =some X.fn)(hin:AllLS P X [] outer 0)
  (h:∀x,((F.T x).free,(Nat.beq X.r 0&&fnFit X outer),evalFn S.te (orcOf orc) (lorcOf outer) X.ann X.fn (pvs ks x))=(true,true,(F.T x).run none fun v=>some (R v))):Ent1 P:=
 entR S X orc outer none F.f F.T R hf hin (fun x=>pr2 (h x)) (fun x _ _=>Tr.ok_of_free _ (pr1 (h x)) trivial) fun _=>rfl
end
theorem Ent1.con {P:Program}{e:Ent1 P}{f:Nat}(hf:e.f=f){A:List PV}{R:Res}(h:e.g A [] Res (fun R O=>match O with|[]=>some R|_::_=>none)=some R):Con P f A R:=by
 subst hf
 obtain⟨R',O',h1,h2⟩:=e.ok _ _ _ _ _ h
 cases O' with
 |nil=>cases h2;exact h1
 |cons _ _=>cases h2
theorem arg_sc {te:TE}{t:TypeId}{f:Fl}(hl:look te t=some (.sc f)){A:PV}(h:ArgOk te t A):∃x:f.T,A=(Pk.sc f).pv x:=by
 obtain⟨ti,xs,hl',rfl,hx,_⟩:=h
 rw[hl]at hl';cases hl'
 match xs,hx with
 |[c],hx=>obtain⟨x,rfl⟩:=hx.1;exact⟨x,rfl⟩
 |[],hx=>exact hx.elim
 |_::_::_,hx=>exact hx.2.elim
theorem arg_sl {te:TE}{t:TypeId}{ty:Ty}{b:Nat}(hl:look te t=some (.sl ty b)){A:PV}(h:ArgOk te t A):∃x:List ty.T,A=(Pk.sc (.sl ty)).pv x:=by
 obtain⟨ti,xs,hl',rfl,hx,_⟩:=h
 rw[hl]at hl';cases hl'
 match xs,hx with
 |[c],hx=>obtain⟨x,rfl⟩:=hx.1;exact⟨x,rfl⟩
 |[],hx=>exact hx.elim
 |_::_::_,hx=>exact hx.2.elim
theorem arg_st {te:TE}{t:TypeId}{ty:Ty}{fs:List (Nat×Nat)}(hl:look te t=some (.st ty fs)){A:PV}(h:ArgOk te t A):∃x:ty.T,A=(Pk.st ty).pv x:=by
 obtain⟨ti,xs,hl',rfl,hx,_⟩:=h
 rw[hl]at hl';cases hl'
 obtain⟨x,rfl⟩:=ty_of_flc hx
 exact⟨x,rfl⟩
theorem fn0 {P:Program}(S:Seat P){f:Nat}{fn:Func}(hf:P.funcs[f]? =some fn)(hc:fnFit ⟨f,fn,[],0⟩ []=true){A:List PV}{R:Res}(h:evalFn S.te (orcOf (P:=P) []) (lorcOf []) [] fn A=some R):Con P f A R:=
 fnS S (X:=⟨f,fn,[],0⟩) (orcOf_ok []) hf hc (outer:=[]) trivial (O:=[]) (O':=[]) rfl rfl (by rw[List.map_nil,List.append_nil];exact h)
noncomputable def entP {P:Program}(f:Nat){ks:List Pk}{V:Type}{p:HP ks→Prop}{q:HP ks→V→Prop}(F:Fnc (HP ks) V p q)(R:V→Res)(h:∀x,p x→Con P f (pvs ks x) (R (F.f x))):Ent1 P where
 f:=f
 g A O _ k:=match O with|[]=>optK (gets ks A) none fun x=>cnd (dc (p x)) (letK (F.f x) fun v=>k (R v) []) none|_::_=>none
 ok A O γ k z hg:=by
  cases O with
  |cons _ _=>cases hg
  |nil=>
  obtain⟨x,hx,hg⟩:=optK_some hg
  cases hp:dc (p x)with
  |true=>
   rw[hp]at hg
   exact⟨R (F.f x),[],by rw[gets_pvs hx];exact h x (of_dc hp),hg⟩
  |false=>rw[hp]at hg;cases hg
end Go.Proofs.YtjejapbinelgeaaGreat
