/- Contracts as an oracle; what is known of arguments. -/
import Derived.Test.YtffjmkhjhchnmaaGreatRow2
import Derived.Test.YtffjmkhjhchnmaaGreatLoop
set_option linter.unusedVariables false
set_option linter.unusedSimpArgs false
namespace Go.Proofs.YtffjmkhjhchnmaaGreat
open Go Go.RowKit
structure Ent1 (P:Program) where
 f:Nat
 g:List PV→List MO→(γ:Type)→(cS→List MO→Option γ)→Option γ
 ok:∀A O (γ:Type) k (z:γ),g A O γ k=some z→∃R O',kI P f A O R O'∧k R O'=some z
def lY {P:Program}:List (Ent1 P)→HU
 |[],_,_,_,_,_=>none
 |e::r,f,A,O,γ,k=>match Nat.beq e.f f with
  |true=>e.g A O γ k
  |false=>lY r f A O γ k
theorem aL {P:Program}:∀(L:List (Ent1 P)),qV (kI P) (lY L)
 |[],_,_,_,_,_,_,h=>by cases h
 |e::r,f,A,O,γ,k,z,h=>by
  simp only[lY]at h
  cases hb:Nat.beq e.f f with
  |true=>
   rw[hb]at h
   obtain⟨R,O',h1,h2⟩:=e.ok A O γ k z h
   rw[Nat.eq_of_beq_eq_true hb]at h1
   exact⟨R,O',h1,h2⟩
  |false=>rw[hb]at h;exact aL r f A O γ k z h
def FN:MC→Prop
 | .c x=>FactC x
 |_=>True
def BS:PV→Prop
 | .val _ cs=>∀c∈cs,FactC c
 | .fn _ _=>True
 | .wr _ cs=>∀c∈cs,FN c
 | .nils=>True
 | .slx t xs=>FactC (.sl t xs)
theorem jH.fact {mo:gj}{J:Nat→Prop}{w:World}{c:MC}{v:Value}(h:jH mo J w c v):FN c:=by
 cases c with
 |c x=>exact RepC.fact h
 |own _=>trivial
 |ptr _=>trivial
 |down _=>trivial
theorem ia.fact {mo:gj}{J:Nat→Prop}{w:World}{A:PV}{v:Value}(h:ia mo J w A v):BS A:=by
 cases A with
 |fn f caps=>trivial
 |nils=>trivial
 |slx t xs=>exact RepC.fact h.1
 |wr ag cs=>
  intro c hc
  obtain⟨i,hi⟩:=List.getElem?_of_mem hc
  cases ag with
  |true=>
   obtain⟨us,rfl,hu⟩:=h
   obtain⟨u,_,hr⟩:=hu.at hi
   exact hr.1.fact
  |false=>
   obtain⟨c',rfl,hr⟩:=h
   rw[List.mem_singleton]at hc
   subst hc
   exact hr.fact
 |val ag cs=>
  intro c hc
  obtain⟨i,hi⟩:=List.getElem?_of_mem hc
  cases ag with
  |true=>
   obtain⟨us,rfl,hu⟩:=h
   obtain⟨u,_,hr⟩:=hu.at hi
   exact hr.fact
  |false=>
   obtain⟨c',rfl,hr⟩:=h
   rw[List.mem_singleton]at hc
   subst hc
   exact hr.fact
theorem zO.of_facts {P:Program}{f:Nat}{A:List PV}{R:cS}(he:∀args w,(callFunc f args).run P w= .ok (.enter f args) w)(h:(∀a∈A,BS a)→zO P f A R):zO P f A R:=by
 refine⟨he,λw J mo vs hJ h1 h2 h3 hg hgx hA=> ?_⟩
 refine(h λa ha=> ?_).2 w J mo vs hJ h1 h2 h3 hg hgx hA
 obtain⟨i,hi⟩:=List.getElem?_of_mem ha
 obtain⟨v,_,hr⟩:=hA.at hi
 exact hr.fact
def Gr:MO→Prop
 | .box cs=>∀c∈cs,FN c
 | .arr t xs=>FactC (.sl t xs)
 | .dar t xs=>FactC (.sl t xs)
theorem dk.fact {mo:gj}{J:Nat→Prop}{w:World}{m:Mt}{o:MO}(h:dk mo J w m o):Gr o:=by
 cases o with
 |box cs=>
  obtain⟨b,_,_,h3,_⟩:=h
  intro c hc
  obtain⟨i,hi⟩:=List.getElem?_of_mem hc
  obtain⟨u,_,hu⟩:=h3 i c hi
  exact hu.fact
 |arr t xs=>
  obtain⟨_,h3⟩:=h
  rcases h3 with⟨_,h3⟩|⟨b,cap,_,_,_,h4,_,h6⟩
  ·subst h3;exact .sl t [] (by simp) (by simp)
  ·refine .sl t xs h4 λx hx c hc=> ?_
   obtain⟨i,hi⟩:=List.getElem?_of_mem hx
   obtain⟨j,hj⟩:=List.getElem?_of_mem hc
   obtain⟨u,_,hu⟩:=h6 i x j c hi hj
   exact hu.fact
 |dar t xs=>
  obtain⟨_,h3,_⟩:=h
  rcases h3 with⟨_,h3⟩|⟨b,cap,_,_,_,h4,_,h6⟩
  ·subst h3;exact .sl t [] (by simp) (by simp)
  ·refine .sl t xs h4 λx hx c hc=> ?_
   obtain⟨i,hi⟩:=List.getElem?_of_mem hx
   obtain⟨j,hj⟩:=List.getElem?_of_mem hc
   obtain⟨u,_,hu⟩:=h6 i x j c hi hj
   exact RepC.fact (hu.rep (J:=λ_=>True) λ_ _ _=>trivial)
theorem kI.of_facts {P:Program}{f:Nat}{A:List PV}{O O':List MO}{R:cS}(he:∀args w,(callFunc f args).run P w= .ok (.enter f args) w)(h:(∀a∈A,BS a)→(∀o∈O,Gr o)→kI P f A O R O'):kI P f A O R O':=by
 refine⟨he,λw J mo vs hJ h1 h2 h3 hg hgx hA=> ?_⟩
 refine(h (λa ha=> ?_) λo ho=> ?_).2 w J mo vs hJ h1 h2 h3 hg hgx hA
 ·obtain⟨i,hi⟩:=List.getElem?_of_mem ha
  obtain⟨v,_,hr⟩:=hA.at hi
  exact hr.fact
 ·obtain⟨i,hi⟩:=List.getElem?_of_mem ho
  obtain⟨v,_,hr⟩:=ar.atR h1 hi
  exact hr.fact
theorem zO.byNil {P:Program}{f:Nat}{t:Ty}{xs:List t.T}{R:cS}(h1:xs=[]→zO P f [.nils] R)(h2:zO P f [.slx t xs] R):zO P f [.val false [.sl t xs]] R:=by
 refine⟨h2.1,λw J mo vs hJ hmo hinj hX hg hgx hA=> ?_⟩
 obtain⟨v,hv⟩:∃v,vs.toList=[v]∧ia mo J w (.val false [.sl t xs]) v:=by
  generalize vs.toList=l at hA
  match l,hA with
  |[v],hA=>exact⟨v,rfl,hA.1⟩
 obtain⟨hvs,c,hc,hr⟩:=hv
 cases hc
 by_cases hn:v= .slice none 0 0
 ·have hx:xs=[]:=by
   subst hn
   cases hr with
   |nil=>rfl
  exact(h1 hx).2 w J mo vs hJ hmo hinj hX hg hgx (by rw[hvs];exact⟨hn,trivial⟩)
 ·refine h2.2 w J mo vs hJ hmo hinj hX hg hgx ?_
  rw[hvs]
  refine⟨⟨hr, ?_⟩,trivial⟩
  clear hvs
  cases hr with
  |nil=>exact absurd rfl hn
  |emp _ a cap=>exact⟨a,0,cap,rfl⟩
  |sl _ _ b off cap _ _ _ _ _ _=>exact⟨_,_,_,rfl⟩
def Ty.mcs:(t:Ty)→t.T→List MC
 | .u8=>λx=>[.c (.int .u8 x)]
 | .i64=>λx=>[.c (.int .i64 x)]
 | .u64=>λx=>[.c (.int .u64 x)]
 | .bool=>λx=>[.c (.bool x)]
 | .str=>λx=>[.c (.str x)]
 | .fram=>λx=>[.c (.int .i64 x.dst),.c (.int .i64 x.src),.c (.int .i64 x.type),.c (.str x.body)]
 | .arpm=>λx=>[.c (.int .i64 x.kind),.c (.int .i64 x.srcHw),.c (.int .i64 x.srcIp),.c (.int .i64 x.dstHw),.c (.int .i64 x.dstIp)]
 | .pack=>λx=>[.c (.int .i64 x.src),.c (.int .i64 x.dst),.c (.int .i64 x.ttl),.c (.int .i64 x.proto),.c (.int .i64 x.id),.c (.str x.body)]
 | .opti=>λx=>[.c (.int .i64 x.mss),.c (.int .i64 x.scale),.c (.bool x.sack),.c (.bool x.stamp),.c (.int .i64 x.val),.c (.int .i64 x.echo)]
 | .segm=>λx=>[.c (.int .i64 x.from_),.c (.int .i64 x.to),.c (.int .i64 x.seq),.c (.int .i64 x.ack),.c (.int .i64 x.flags),.c (.int .i64 x.window),.c (.int .i64 x.opts.mss),.c (.int .i64 x.opts.scale),.c (.bool x.opts.sack),.c (.bool x.opts.stamp),.c (.int .i64 x.opts.val),.c (.int .i64 x.opts.echo),.c (.str x.body)]
 | .sipr=>λx=>[.c (.int .u64 x.a),.c (.int .u64 x.b),.c (.int .u64 x.c),.c (.int .u64 x.d)]
 | .macRow=>λx=>[.c (.str x.input),.c (.int .i64 x.value)]
 | .mac=>λx=>[.c (.bool x.use),.c (.int .u64 x.k),.c (.int .u64 x.l),.c (.sl .macRow x.rows)]
 | .tupl=>λx=>[.c (.int .i64 x.ip),.c (.int .i64 x.port),.c (.int .i64 x.my)]
 | .keys=>λx=>[.c (.int .i64 x.epoch),.c (.bool x.now.use),.c (.int .u64 x.now.k),.c (.int .u64 x.now.l),.c (.sl .macRow x.now.rows),.c (.bool x.before.use),.c (.int .u64 x.before.k),.c (.int .u64 x.before.l),.c (.sl .macRow x.before.rows),.c (.bool x.two)]
 | .entr=>λx=>[.c (.int .i64 x.ip),.c (.int .i64 x.hw),.c (.int .i64 x.age)]
 | .link=>λx=>[.c (.int .i64 x.mac),.c (.int .i64 x.ip),.c (.sl .entr x.cache)]
 | .sndr=>λx=>[.c (.int .i64 x.una),.c (.str x.data),.c (.int .i64 x.sent),.c (.bool x.fin),.c (.bool x.finSent),.c (.bool x.done)]
 | .chun=>λx=>[.c (.int .i64 x.seq),.c (.str x.text),.c (.bool x.fin)]
 | .piec=>λx=>[.c (.int .i64 x.off),.c (.str x.text)]
 | .recv=>λx=>[.c (.int .i64 x.next),.c (.str x.data),.c (.sl .piec x.held),.c (.int .i64 x.fin),.c (.bool x.done)]
 | .conn=>λx=>[.c (.int .i64 x.tuple.ip),.c (.int .i64 x.tuple.port),.c (.int .i64 x.tuple.my),.c (.int .i64 x.state),.c (.int .i64 x.s.una),.c (.str x.s.data),.c (.int .i64 x.s.sent),.c (.bool x.s.fin),.c (.bool x.s.finSent),.c (.bool x.s.done),.c (.int .i64 x.r.next),.c (.str x.r.data),.c (.sl .piec x.r.held),.c (.int .i64 x.r.fin),.c (.bool x.r.done),.c (.int .i64 x.window),.c (.int .i64 x.most),.c (.int .i64 x.opts.mss),.c (.int .i64 x.opts.scale),.c (.bool x.opts.sack),.c (.bool x.opts.stamp),.c (.int .i64 x.opts.val),.c (.int .i64 x.opts.echo),.c (.int .i64 x.timer),.c (.int .i64 x.tries)]
 | .half=>λx=>[.c (.int .i64 x.tuple.ip),.c (.int .i64 x.tuple.port),.c (.int .i64 x.tuple.my),.c (.int .i64 x.iss),.c (.int .i64 x.irs),.c (.int .i64 x.opts.mss),.c (.int .i64 x.opts.scale),.c (.bool x.opts.sack),.c (.bool x.opts.stamp),.c (.int .i64 x.opts.val),.c (.int .i64 x.opts.echo),.c (.int .i64 x.age),.c (.int .i64 x.window)]
 | .limi=>λx=>[.c (.int .i64 x.halves),.c (.int .i64 x.waiting),.c (.int .i64 x.conns),.c (.int .i64 x.chal)]
 | .tabl=>λx=>[.c (.sl .conn x.conns),.c (.sl .tupl x.waiting)]
 | .door=>λx=>[.c (.int .i64 x.port),.c (.int .i64 x.clock),.c (.int .i64 x.keys.epoch),.c (.bool x.keys.now.use),.c (.int .u64 x.keys.now.k),.c (.int .u64 x.keys.now.l),.c (.sl .macRow x.keys.now.rows),.c (.bool x.keys.before.use),.c (.int .u64 x.keys.before.k),.c (.int .u64 x.keys.before.l),.c (.sl .macRow x.keys.before.rows),.c (.bool x.keys.two),.c (.int .i64 x.limits.halves),.c (.int .i64 x.limits.waiting),.c (.int .i64 x.limits.conns),.c (.int .i64 x.limits.chal),.c (.sl .half x.halves),.c (.sl .conn x.table.conns),.c (.sl .tupl x.table.waiting),.c (.int .i64 x.chal)]
 | .stac=>λx=>[.c (.int .i64 x.link.mac),.c (.int .i64 x.link.ip),.c (.sl .entr x.link.cache),.c (.int .i64 x.door.port),.c (.int .i64 x.door.clock),.c (.int .i64 x.door.keys.epoch),.c (.bool x.door.keys.now.use),.c (.int .u64 x.door.keys.now.k),.c (.int .u64 x.door.keys.now.l),.c (.sl .macRow x.door.keys.now.rows),.c (.bool x.door.keys.before.use),.c (.int .u64 x.door.keys.before.k),.c (.int .u64 x.door.keys.before.l),.c (.sl .macRow x.door.keys.before.rows),.c (.bool x.door.keys.two),.c (.int .i64 x.door.limits.halves),.c (.int .i64 x.door.limits.waiting),.c (.int .i64 x.door.limits.conns),.c (.int .i64 x.door.limits.chal),.c (.sl .half x.door.halves),.c (.sl .conn x.door.table.conns),.c (.sl .tupl x.door.table.waiting),.c (.int .i64 x.door.chal)]
 | .acti=>λx=>[.c (.int .i64 x.kind),.c (.int .i64 x.tuple.ip),.c (.int .i64 x.tuple.port),.c (.int .i64 x.tuple.my),.c (.int .i64 x.n),.c (.str x.text),.c (.bool x.mac.use),.c (.int .u64 x.mac.k),.c (.int .u64 x.mac.l),.c (.sl .macRow x.mac.rows)]
 | .resu=>λx=>[.c (.sl .str x.frames),.c (.int .i64 x.made),.c (.int .i64 x.tuple.ip),.c (.int .i64 x.tuple.port),.c (.int .i64 x.tuple.my),.c (.int .i64 x.n),.c (.str x.text),.c (.bool x.ok)]
 | .issu=>λx=>[.c (.int .i64 x.tuple.ip),.c (.int .i64 x.tuple.port),.c (.int .i64 x.tuple.my),.c (.int .i64 x.seq),.c (.int .i64 x.cookie)]
 | .clie=>λx=>[.c (.int .i64 x.tuple.ip),.c (.int .i64 x.tuple.port),.c (.int .i64 x.tuple.my),.c (.int .i64 x.isn),.c (.int .i64 x.opts.mss),.c (.int .i64 x.opts.scale),.c (.bool x.opts.sack),.c (.bool x.opts.stamp),.c (.int .i64 x.opts.val),.c (.int .i64 x.opts.echo),.c (.int .i64 x.window)]
 | .mail=>λx=>[.c (.int .i64 x.ip),.c (.int .i64 x.g.from_),.c (.int .i64 x.g.to),.c (.int .i64 x.g.seq),.c (.int .i64 x.g.ack),.c (.int .i64 x.g.flags),.c (.int .i64 x.g.window),.c (.int .i64 x.g.opts.mss),.c (.int .i64 x.g.opts.scale),.c (.bool x.g.opts.sack),.c (.bool x.g.opts.stamp),.c (.int .i64 x.g.opts.val),.c (.int .i64 x.g.opts.echo),.c (.str x.g.body)]
 | .curs=>λx=>[.c (.sl .u8 x.b),.c (.int .i64 x.i),.c (.int .i64 x.h)]
 | .recvR=>λx=>[.c (.int .i64 x.next),.c (.str x.data),.c (.raw x.held),.c (.int .i64 x.fin),.c (.bool x.done)]
 | .connR=>λx=>[.c (.int .i64 x.tuple.ip),.c (.int .i64 x.tuple.port),.c (.int .i64 x.tuple.my),.c (.int .i64 x.state),.c (.int .i64 x.s.una),.c (.str x.s.data),.c (.int .i64 x.s.sent),.c (.bool x.s.fin),.c (.bool x.s.finSent),.c (.bool x.s.done),.c (.int .i64 x.r.next),.c (.str x.r.data),.c (.raw x.r.held),.c (.int .i64 x.r.fin),.c (.bool x.r.done),.c (.int .i64 x.window),.c (.int .i64 x.most),.c (.int .i64 x.opts.mss),.c (.int .i64 x.opts.scale),.c (.bool x.opts.sack),.c (.bool x.opts.stamp),.c (.int .i64 x.opts.val),.c (.int .i64 x.opts.echo),.c (.int .i64 x.timer),.c (.int .i64 x.tries)]
theorem Ty.mcs_cells:∀(t:Ty) (x:t.T),t.mcs x=(t.cells x).map .c:=by intro t x;cases t<;>rfl
def Li:List MC→Option (List Cell)
 |[]=>some []
 | .c x::r=>match Li r with
  |some l=>some (x::l)
  |none=>none
 |_::_=>none
theorem EZ:∀{cs:List MC} {l:List Cell},Li cs=some l→l.map .c=cs
 |[],_,h=>by cases h;rfl
 | .c x::r,l,h=>by
  simp only[Li]at h
  split at h
  ·rename_i l' hl
   cases h
   simp only[List.map_cons,EZ hl]
  ·cases h
 | .own _::_,_,h=>by cases h
 | .ptr _::_,_,h=>by cases h
 | .down _::_,_,h=>by cases h
inductive WP where
 |c (f:Fl)|own (k:Nat)|ptr (k:Nat)|st (t:Ty)|down (k:Nat)
@[reducible] def HW:List WP→Type
 |[]=>Unit
 | .c f::r=>f.T×HW r
 | .own _::r=>HW r
 | .ptr _::r=>HW r
 | .down _::r=>HW r
 | .st t::r=>t.T×HW r
def Ap:(ps:List WP)→HW ps→List MC
 |[],_=>[]
 | .c f::r,x=> .c (f.cell x.1)::Ap r x.2
 | .own k::r,x=> .own k::Ap r x
 | .ptr k::r,x=> .ptr k::Ap r x
 | .down k::r,x=> .down k::Ap r x
 | .st t::r,x=>t.mcs x.1++Ap r x.2
def xx:(ps:List WP)→List MC→Option (HW ps)
 |[],[]=>some ()
 | .c f::r,.c x::cs=>match f.get x,xx r cs with
  |some y,some ys=>some (y,ys)
  |_,_=>none
 | .own k::r,.own k'::cs=>match Nat.beq k k' with|true=>xx r cs|false=>none
 | .ptr k::r,.ptr k'::cs=>match Nat.beq k k' with|true=>xx r cs|false=>none
 | .down k::r,.down k'::cs=>match Nat.beq k k' with|true=>xx r cs|false=>none
 | .st t::r,cs=>match Li (cs.take t.size),xx r (cs.drop t.size)with
  |some l,some ys=>match t.get l with
   |some y=>some (y,ys)
   |none=>none
  |_,_=>none
 |_,_=>none
theorem lH:∀{ps:List WP} {cs:List MC} {x:HW ps},xx ps cs=some x→Ap ps x=cs
 |[],[],_,_=>rfl
 | .c f::r,.c y::cs,x,h=>by
  simp only[xx]at h
  split at h
  ·rename_i a b ha hb
   cases h
   simp only[Ap,Fl.get_cell ha,lH hb]
  ·cases h
 | .own k::r,.own k'::cs,x,h=>by
  simp only[xx]at h
  split at h
  ·rename_i e
   rw[←Nat.eq_of_beq_eq_true e]
   simp only[Ap,lH h]
  ·cases h
 | .ptr k::r,.ptr k'::cs,x,h=>by
  simp only[xx]at h
  split at h
  ·rename_i e
   rw[←Nat.eq_of_beq_eq_true e]
   simp only[Ap,lH h]
  ·cases h
 | .down k::r,.down k'::cs,x,h=>by
  simp only[xx]at h
  split at h
  ·rename_i e
   rw[←Nat.eq_of_beq_eq_true e]
   simp only[Ap,lH h]
  ·cases h
 | .st t::r,cs,x,h=>by
  simp only[xx]at h
  split at h
  ·rename_i l ys hl hys
   split at h
   ·rename_i y hy
    cases h
    simp only[Ap,Ty.mcs_cells,Ty.get_cells hy,EZ hl,lH hys,List.take_append_drop]
   ·cases h
  ·cases h
 |[],_::_,_,h=>by cases h
 | .c _::_,[],_,h=>by cases h
 | .own _::_,[],_,h=>by cases h
 | .ptr _::_,[],_,h=>by cases h
 | .c _::_,.own _::_,_,h=>by cases h
 | .c _::_,.ptr _::_,_,h=>by cases h
 | .own _::_,.c _::_,_,h=>by cases h
 | .own _::_,.ptr _::_,_,h=>by cases h
 | .ptr _::_,.c _::_,_,h=>by cases h
 | .ptr _::_,.own _::_,_,h=>by cases h
 | .down _::_,[],_,h=>by cases h
 | .down _::_,.c _::_,_,h=>by cases h
 | .down _::_,.own _::_,_,h=>by cases h
 | .down _::_,.ptr _::_,_,h=>by cases h
 | .c _::_,.down _::_,_,h=>by cases h
 | .own _::_,.down _::_,_,h=>by cases h
 | .ptr _::_,.down _::_,_,h=>by cases h
inductive Pk where
 |sc (f:Fl)|st (t:Ty)|fn (f:Nat)(ks:List Nat)|wr (agg:Bool)(ps:List WP)
@[reducible] def Pk.T:Pk→Type
 | .sc f=>f.T
 | .st t=>t.T
 | .fn _ _=>Unit
 | .wr _ ps=>HW ps
def Pk.pv:(k:Pk)→k.T→PV
 | .sc f,x=> .val false [f.cell x]
 | .st t,x=> .val true (t.cells x)
 | .fn f ks,_=> .fn f ks
 | .wr ag ps,x=> .wr ag (Ap ps x)
def Pk.get:(k:Pk)→PV→Option k.T
 | .sc f,.val false [c]=>f.get c
 | .st t,.val true cs=>t.get cs
 | .fn f ks,.fn f' ds=>match Nat.beq f f'&&Me ks ds with|true=>some ()|false=>none
 | .wr true ps,.wr true cs=>xx ps cs
 | .wr false ps,.wr false cs=>xx ps cs
 |_,_=>none
theorem Pk.get_pv {k:Pk}{a:PV}{x:k.T}(h:k.get a=some x):a=k.pv x:=by
 unfold Pk.get at h
 split at h
 ·rename_i f c;simp only[Pk.pv,Fl.get_cell h]
 ·rename_i t cs;simp only[Pk.pv,Ty.get_cells h]
 ·split at h
  ·rename_i e
   simp only[Bool.and_eq_true]at e
   cases Nat.eq_of_beq_eq_true e.1
   cases Ad e.2
   rfl
  ·cases h
 ·simp only[Pk.pv,lH h]
 ·simp only[Pk.pv,lH h]
 ·cases h
@[reducible] def HP:List Pk→Type
 |[]=>Unit
 |k::r=>k.T×HP r
def zV:(ks:List Pk)→HP ks→List PV
 |[],_=>[]
 |k::r,x=>k.pv x.1::zV r x.2
def Jx:(ks:List Pk)→List PV→Option (HP ks)
 |[],[]=>some ()
 |k::r,a::s=>match k.get a,Jx r s with
  |some x,some y=>some (x,y)
  |_,_=>none
 |_,_=>none
theorem rR:∀{ks:List Pk} {A:List PV} {x:HP ks},Jx ks A=some x→A=zV ks x
 |[],[],_,_=>rfl
 |k::r,a::s,x,h=>by
  simp only[Jx]at h
  split at h
  ·rename_i y z hy hz
   cases h
   simp only[zV,←Pk.get_pv hy,←rR hz]
  ·cases h
 |[],_::_,_,h=>by cases h
 |_::_,[],_,h=>by cases h
inductive Mk where
 |arr (t:Ty)|box (ps:List WP)|dar (t:Ty)
@[reducible] def Mk.T:Mk→Type
 | .arr t=>List t.T
 | .box ps=>HW ps
 | .dar t=>List t.T
def Mk.mo:(k:Mk)→k.T→MO
 | .arr t,xs=> .arr t xs
 | .box ps,x=> .box (Ap ps x)
 | .dar t,xs=> .dar t xs
def Mk.get:(k:Mk)→MO→Option k.T
 | .arr t,.arr t' xs=>if h:t'=t then some (h▸xs)else none
 | .box ps,.box cs=>xx ps cs
 | .dar t,.dar t' xs=>if h:t'=t then some (h▸xs)else none
 |_,_=>none
theorem Mk.get_mo {k:Mk}{o:MO}{x:k.T}(h:k.get o=some x):o=k.mo x:=by
 cases k with
 |arr t=>
  cases o with
  |arr t' xs=>
   simp only[Mk.get]at h
   split at h
   ·rename_i e
    subst e
    cases h
    rfl
   ·cases h
  |_=>cases h
 |dar t=>
  cases o with
  |dar t' xs=>
   simp only[Mk.get]at h
   split at h
   ·rename_i e
    subst e
    cases h
    rfl
   ·cases h
  |_=>cases h
 |box fs=>
  cases o with
  |box cs=>simp only[Mk.get]at h;simp only[Mk.mo,lH h]
  |_=>cases h
@[reducible] def HM:List Mk→Type
 |[]=>Unit
 |k::r=>k.T×HM r
def C5:(ks:List Mk)→HM ks→List MO
 |[],_=>[]
 |k::r,x=>k.mo x.1::C5 r x.2
def MR:(ks:List Mk)→List MO→Option (HM ks)
 |[],[]=>some ()
 |k::r,a::s=>match k.get a,MR r s with
  |some x,some y=>some (x,y)
  |_,_=>none
 |_,_=>none
theorem Cc:∀{ks:List Mk} {O:List MO} {x:HM ks},MR ks O=some x→O=C5 ks x
 |[],[],_,_=>rfl
 |k::r,a::s,x,h=>by
  simp only[MR]at h
  split at h
  ·rename_i y z hy hz
   cases h
   simp only[C5,←Mk.get_mo hy,←Cc hz]
  ·cases h
 |[],_::_,_,h=>by cases h
 |_::_,[],_,h=>by cases h
inductive Ow where
 |c|o (deep:Bool)|d
def Re:Ow→Cell→RC
 | .o d,.sl t xs=> .own d t xs
 | .d,.sl t xs=> .dar t xs
 |_,x=> .c x
def mu:List Ow→List Cell→List RC
 |[],cs=>cs.map .c
 |_::_,[]=>[]
 |o::r,x::cs=>Re o x::mu r cs
def rv (k:Pk)(ow:List Ow)(x:k.T):Bool×List RC:=
 match k.pv x with
 | .val ag cs=>(ag,mu ow cs)
 |_=>(false,[])
def sc:Ow→(t:Ty)→List t.T→RC
 | .o d,t,xs=> .own d t xs
 | .d,t,xs=> .dar t xs
 | .c,t,xs=> .c (.sl t xs)
theorem FactC.len {t:Ty}{xs:List t.T}(h:FactC (.sl t xs)):xs.length≤140737488355328:=by cases h with|sl _ _ h _=>exact h
theorem FactC.slen {s:ah}(h:FactC (.str s)):s.length≤4611686018427387904:=by cases h with|str _ h=>exact h
theorem FactC.rng {k:IntKind}{n:Int}(h:FactC (.int k n)):Ag k n:=by cases h with|int _ _ h=>exact h
theorem FactC.elem {t:Ty}{xs:List t.T}(h:FactC (.sl t xs)){x:t.T}(hx:x∈xs):∀c∈t.cells x,FactC c:=by cases h with|sl _ _ _ hc=>exact hc x hx
theorem aw {m:Int}(h0: -9223372036854775808≤m)(h1:m≤9223372036854775807):IntKind.i64.wrap m=m:=by
 unfold IntKind.wrap
 simp only[IntKind.signed,IntKind.bits]
 simp
 omega
def Nm (s:ah):List Int:=s.map λc=>(c.toNat:Int)
def tY (xs:List Int):ah:=List.map (λn:Int=>UInt8.ofNat n.toNat) xs
def nZ (s:ah)(i:Nat):Int:=((s.getD i 0).toNat:Int)
def yN (t:Ty)(xs:List t.T):Prop:=∀y∈xs,∀c∈t.cells y,FactC c
def Fl.fact:(f:Fl)→f.T→Prop
 | .int .i64,n=> -9223372036854775808≤(n:Int)∧(n:Int)≤9223372036854775807
 | .int .u64,n=>0≤(n:Int)∧(n:Int)≤18446744073709551615
 | .int .u8,n=>0≤(n:Int)∧(n:Int)≤255
 | .int .i32,n=>Ag .i32 n| .int .u32,n=>Ag .u32 n| .int .i16,n=>Ag .i16 n| .int .u16,n=>Ag .u16 n| .int .i8,n=>Ag .i8 n
 | .bool,_=>True
 | .str,s=>List.length s≤4611686018427387904
 | .raw,_=>True
 | .sl t,xs=>List.length xs≤140737488355328∧yN t xs
theorem Fl.fact_of {f:Fl}{x:f.T}(h:FactC (f.cell x)):f.fact x:=by
 cases f with
 |int k=>
  have h:=h.rng
  cases k with
  |i64=>exact⟨h.1,h.2⟩
  |u64=>exact⟨h.1,h.2⟩
  |u8=>exact⟨h.1,h.2⟩
  |i32=>exact h
  |u32=>exact h
  |i16=>exact h
  |u16=>exact h
  |i8=>exact h
 |bool=>trivial
 |str=>exact h.slen
 |raw=>trivial
 |sl t=>exact⟨h.len,λy hy=>h.elem hy⟩
def gd:(fs:List Fl)→HL fs→Prop
 |[],_=>True
 |f::fs,x=>f.fact x.1∧gd fs x.2
theorem BG:∀{fs:List Fl} {x:HL fs},(∀c∈cM fs x,FactC c)→gd fs x
 |[],_,_=>trivial
 |f::fs,x,h=>⟨Fl.fact_of (h _ List.mem_cons_self),BG λc hc=>h c (List.mem_cons_of_mem _ hc)⟩
def eo:(ps:List WP)→HW ps→Prop
 |[],_=>True
 | .c f::r,x=>f.fact x.1∧eo r x.2
 | .own _::r,x=>eo r x
 | .ptr _::r,x=>eo r x
 | .down _::r,x=>eo r x
 | .st t::r,x=>gd t.fl (t.toH x.1)∧eo r x.2
theorem nL:∀{ps:List WP} {x:HW ps},(∀c∈Ap ps x,FN c)→eo ps x
 |[],_,_=>trivial
 | .c f::r,x,h=>⟨Fl.fact_of (h _ List.mem_cons_self),nL λc hc=>h c (List.mem_cons_of_mem _ hc)⟩
 | .own _::r,x,h=>nL (ps:=r) λc hc=>h c (List.mem_cons_of_mem _ hc)
 | .ptr _::r,x,h=>nL (ps:=r) λc hc=>h c (List.mem_cons_of_mem _ hc)
 | .down _::r,x,h=>nL (ps:=r) λc hc=>h c (List.mem_cons_of_mem _ hc)
 | .st t::r,x,h=>⟨BG λc hc=>h (.c c) (by
   simp only[Ap,Ty.mcs_cells]
   exact List.mem_append_left _ (List.mem_map.2 ⟨c,hc,rfl⟩)),nL λc hc=>h c (by
   simp only[Ap]
   exact List.mem_append_right _ hc)⟩
def Pk.fact:(k:Pk)→k.T→Prop
 | .sc f,x=>f.fact x
 | .st t,x=>gd t.fl (t.toH x)
 | .fn _ _,_=>True
 | .wr _ ps,x=>eo ps x
theorem Pk.fact_of {k:Pk}{x:k.T}(h:BS (k.pv x)):k.fact x:=by
 cases k with
 |sc f=>exact Fl.fact_of (h _ List.mem_cons_self)
 |st t=>exact BG h
 |fn _ _=>trivial
 |wr ag ps=>exact nL h
def bP:(ks:List Pk)→HP ks→Prop
 |[],_=>True
 |k::r,x=>k.fact x.1∧bP r x.2
theorem wg:∀{ks:List Pk} {x:HP ks},(∀a∈zV ks x,BS a)→bP ks x
 |[],_,_=>trivial
 |k::r,x,h=>⟨Pk.fact_of (h _ List.mem_cons_self),wg λc hc=>h c (List.mem_cons_of_mem _ hc)⟩
def Mk.fact:(k:Mk)→k.T→Prop
 | .arr t,xs=>List.length xs≤140737488355328∧yN t xs
 | .box ps,x=>eo ps x
 | .dar t,xs=>List.length xs≤140737488355328∧yN t xs
def H6:(ms:List Mk)→HM ms→Prop
 |[],_=>True
 |k::r,x=>k.fact x.1∧H6 r x.2
theorem Mk.fact_of {k:Mk}{x:k.T}(h:Gr (k.mo x)):k.fact x:=by
 cases k with
 |arr t=>exact⟨FactC.len h,λy hy=>FactC.elem h hy⟩
 |box ps=>exact nL h
 |dar t=>exact⟨FactC.len h,λy hy=>FactC.elem h hy⟩
theorem Iz:∀{ms:List Mk} {y:HM ms},(∀o∈C5 ms y,Gr o)→H6 ms y
 |[],_,_=>trivial
 |k::r,x,h=>⟨Mk.fact_of (h _ List.mem_cons_self),Iz λc hc=>h c (List.mem_cons_of_mem _ hc)⟩
theorem qo:∀(ms:List Mk) (y:HM ms),(C5 ms y).length=ms.length
 |[],_=>rfl
 |_::r,y=>by simp[C5,qo r]
theorem Lu {P:Program}{X:Fx}(hf:P.funcs[X.f]? =some X.fn){outer:List LE}(hc:mw X outer=true):∀args w,(callFunc X.f args).run P w= .ok (.enter X.f args) w:=by
 simp only[mw,Bool.and_eq_true,Bool.not_eq_true']at hc
 obtain⟨⟨⟨⟨h1,h2⟩,h3⟩,h4⟩,h5⟩:=hc
 obtain⟨c,hb⟩:=Option.isSome_iff_exists.1 h5
 exact t9 hf hb h4
theorem ID {P:Program}(S:Seat P)(X:Fx)(orc:List (Ent1 P))(outer:List LE)(ks:List Pk)(ms:List Mk){V:Type}(p:HP ks→HM ms→Prop)(T:HP ks→HM ms→Tr V)(R:V→cS)(O':HP ks→HM ms→V→HM ms)
  (hf:P.funcs[X.f]? =some X.fn)(hc:(Nat.beq X.r ms.length&&mw X outer)=true)(hin:mq P X [] outer 0)
  (hlk:∀x y,qn S.te (lY orc) (cE outer) X.ann X.fn (zV ks x) (C5 ms y)=(T x y).run none λv=>some (R v++(C5 ms (O' x y v)).map nj))
  (hok:∀x y,p x y→bP ks x→H6 ms y→(T x y).ok)(x:HP ks)(y:HM ms)(hp:p x y):kI P X.f (zV ks x) (C5 ms y) (R (T x y).nice) (C5 ms (O' x y (T x y).nice)):=by
 rw[Bool.and_eq_true]at hc
 refine kI.of_facts (Lu hf hc.2) λh1 h2=> ?_
 refine Ru S (aL orc) hf hc.2 hin (by rw[qo,Nat.eq_of_beq_eq_true hc.1]) (by rw[qo,qo]) ?_
 rw[hlk,Tr.run_okQ _ (hok x y hp (wg h1) (Iz h2))]
theorem Rm {α β:Type}{a a':α}{b b':β}(h:(a,b)=(a',b')):a=a':=by cases h;rfl
theorem Rg {α β:Type}{a a':α}{b b':β}(h:(a,b)=(a',b')):b=b':=by cases h;rfl
structure FX (A R:Type)(p F:A→Prop) where
 T:A→Tr R
 h:∀a,p a→F a→(T a).ok
def FX.f {A R:Type}{p F:A→Prop}(X:FX A R p F)(a:A):R:=(X.T a).nice
@[reducible] def FX.c {A R:Type} {p F:A→Prop} (X:FX A R p F):Fnc A R p (λ_ _=>True):=⟨X.f,λ_ _=>trivial⟩
@[reducible] def Rh {A:Type} (ks:List Pk) (ms:List Mk) (cv:HP ks→HM ms→A) (a:A):Prop:=∃x y,a=cv x y∧bP ks x∧H6 ms y
section
variable {P:Program} (S:Seat P)
noncomputable def Q5 (X:Fx)(orc:List (Ent1 P))(outer:List LE)(ks:List Pk)(ms:List Mk){A V:Type}(cv:HP ks→HM ms→A)(p:A→Prop)(f:A→V)(T:A→Tr V)(R:V→cS)(O':HP ks→HM ms→V→HM ms)
  (hf:P.funcs[X.f]? =some X.fn)(hc:(Nat.beq X.r ms.length&&mw X outer)=true)(hin:mq P X [] outer 0)
  (hlk:∀x y,qn S.te (lY orc) (cE outer) X.ann X.fn (zV ks x) (C5 ms y)=(T (cv x y)).run none λv=>some (R v++(C5 ms (O' x y v)).map nj))
  (hok:∀x y,p (cv x y)→bP ks x→H6 ms y→(T (cv x y)).ok)(hv:∀a,f a=(T a).nice):Ent1 P where
 f:=X.f
 g A O _ k:=rJ (Jx ks A) none λx=>rJ (MR ms O) none λy=>C6 (dc (p (cv x y))) (jt (f (cv x y)) λv=>k (R v) (C5 ms (O' x y v))) none
 ok A O γ k z hg:=by
  obtain⟨x,hx,hg⟩:=ee hg
  obtain⟨y,hy,hg⟩:=ee hg
  cases hp:dc (p (cv x y))with
  |true=>
   rw[hp,hv]at hg
   exact⟨R (T (cv x y)).nice,C5 ms (O' x y (T (cv x y)).nice),by rw[rR hx,Cc hy];exact ID S X orc outer ks ms (λx y=>p (cv x y)) (λx y=>T (cv x y)) R O' hf hc hin hlk hok x y (K7 hp),hg⟩
  |false=>rw[hp]at hg;cases hg
noncomputable def jT (X:Fx)(orc:List (Ent1 P))(outer:List LE)(ks:List Pk)(ms:List Mk){A V:Type}(cv:HP ks→HM ms→A){p:A→Prop}{q:A→V→Prop}(F:FT A V p q)(R:V→cS)(O':HP ks→HM ms→V→HM ms)
  (hf:P.funcs[X.f]? =some X.fn)(hc:(Nat.beq X.r ms.length&&mw X outer)=true)(hin:mq P X [] outer 0)
  (hlk:∀x y,qn S.te (lY orc) (cE outer) X.ann X.fn (zV ks x) (C5 ms y)=(F.T (cv x y)).run none λv=>some (R v++(C5 ms (O' x y v)).map nj):=by intro _ _;kernel_rfl):Ent1 P:=
 Q5 S X orc outer ks ms cv p F.f F.T R O' hf hc hin hlk (λx y hp _ _=>(F.h _ hp).to λ_ _=>trivial) λ_=>rfl
noncomputable def Qv (X:Fx)(orc:List (Ent1 P))(outer:List LE){ks:List Pk}{V:Type}(c:Option (HP ks→Prop))(f:HP ks→V)(T:HP ks→Tr V)(R:V→cS)
  (hf:P.funcs[X.f]? =some X.fn)(hin:mq P X [] outer 0)(h:∀x,((Nat.beq X.r 0&&mw X outer),qF S.te (lY orc) (cE outer) X.ann X.fn (zV ks x))=(true,(T x).run none λv=>some (R v)))
  (hok:∀x,(∀p,c=some p→p x)→bP ks x→(T x).ok)(hv:∀x,f x=(T x).nice):Ent1 P where
 f:=X.f
 g A O _ k:=match O with|[]=>rJ (Jx ks A) none λx=>(match c with|some p=>C6 (dc (p x)) (jt (f x) λv=>k (R v) []) none|none=>jt (f x) λv=>k (R v) [])|_::_=>none
 ok A O γ k z hg:=by
  cases O with
  |cons _ _=>cases hg
  |nil=>
  obtain⟨x,hx,hg⟩:=ee hg
  suffices hz:(∀p,c=some p→p x)∧k (R (f x)) []=some z by
   refine⟨R (T x).nice,[], ?_,by rw[←hv];exact hz.2⟩
   rw[rR hx]
   exact ID S X orc outer ks [] (λx _=>∀p,c=some p→p x) (λx _=>T x) R (λ_ _ _=>()) hf (Rm (h x)) hin (λx y=>by
    rw[show C5 [] y=[] from rfl]
    exact(Rg (h x)).trans (by simp[C5])) (λx _ hp h1 _=>hok x hp h1) x () hz.1
  cases c with
  |none=>exact⟨λp hp=>(by cases hp),hg⟩
  |some p=>
   simp only[]at hg
   cases hp:dc (p x)with
   |true=>rw[hp]at hg;exact⟨λp' h'=>by cases h';exact K7 hp,hg⟩
   |false=>rw[hp]at hg;cases hg
noncomputable def lh (X:Fx)(orc:List (Ent1 P))(outer:List LE){ks:List Pk}{V:Type}{p:HP ks→Prop}{q:HP ks→V→Prop}(F:FT (HP ks) V p q)(R:V→cS)
  (hf:P.funcs[X.f]? =some X.fn)(hin:mq P X [] outer 0)(h:∀x,((Nat.beq X.r 0&&mw X outer),qF S.te (lY orc) (cE outer) X.ann X.fn (zV ks x))=(true,(F.T x).run none λv=>some (R v)):=by intro _;kernel_rfl):Ent1 P:=
 Qv S X orc outer (some p) F.f F.T R hf hin h (λx hp _=>(F.h x (hp _ rfl)).to λ_ _=>trivial) λ_=>rfl
noncomputable def Mw (X:Fx)(orc:List (Ent1 P))(outer:List LE){ks:List Pk}{V:Type}{p F0:HP ks→Prop}(F:FX (HP ks) V p F0)(R:V→cS)
  (hf:P.funcs[X.f]? =some X.fn)(hin:mq P X [] outer 0)(h:∀x,((Nat.beq X.r 0&&mw X outer),qF S.te (lY orc) (cE outer) X.ann X.fn (zV ks x))=(true,(F.T x).run none λv=>some (R v)):=by intro _;kernel_rfl) (hF:F0=bP ks:=by exact rfl):Ent1 P:=
 Qv S X orc outer (some p) F.f F.T R hf hin h (λx hp h1=>F.h x (hp _ rfl) (by rw[hF];exact h1)) λ_=>rfl
noncomputable def dm {f:Nat}{fn:Func}(hf:P.funcs[f]? =some fn)(an:List (Nat×An))(orc:List (Ent1 P))(b:Nat){sh:Sh}{A' P' W:Type}(D:sh.V→LC sh A' P' W){ks:List Pk}{V:Type}{p:HP ks→Prop}{q:HP ks→V→Prop}(F:FT (HP ks) V p q)(R:V→cS)
  (l1:tS ⟨f,fn,an,0⟩ [0] b []=true:=by kernel_rfl) (l2:∀v,(D v).m (D v).i (D v).a=v:=by intro _;kernel_rfl) (l3:∀(v:sh.V) (i:Int) (a:A') (γ:Type) (next:St→Option γ) (k:Ex→St→Option γ),eG S.te (lY orc) (cE []) fn.ntmps an (cu (dh fn) 0 [0]).2 b (sh.enc ((D v).m i a)) γ (Kb (F8 ⟨f,fn,an,0⟩ b) next k)=((D v).ct.rd i a).run none λr=>Sum.elim (λy'=>next (sh.enc ((D v).m y'.1 y'.2))) (λw=>(D v).o (Option γ) k w) r:=by intros;kernel_rfl)
  (h:∀x,((Nat.beq 0 0&&mw ⟨f,fn,an,0⟩ [ji b sh D]),qF S.te (lY orc) (cE [ji b sh D]) an fn (zV ks x))=(true,(F.T x).run none λv=>some (R v)):=by intro _;kernel_rfl):Ent1 P:=
 lh S ⟨f,fn,an,0⟩ orc [ji b sh D] F R hf ⟨dW S (aL orc) [0] D [] trivial l1 l2 l3,trivial⟩ h
noncomputable def L6 {f:Nat}{fn:Func}(hf:P.funcs[f]? =some fn)(an:List (Nat×An))(orc:List (Ent1 P))(b:Nat){sh:Sh}{A' P':Type}(D:sh.V→LW sh A' P'){ks:List Pk}{V:Type}{p:HP ks→Prop}{q:HP ks→V→Prop}(F:FT (HP ks) V p q)(R:V→cS)
  (l1:tS ⟨f,fn,an,0⟩ [0] b []=true:=by kernel_rfl) (l2:∀v,(D v).m (D v).a=v:=by intro _;kernel_rfl) (l3:∀(v:sh.V) (a:A') (γ:Type) (next:St→Option γ) (k:Ex→St→Option γ),eG S.te (lY orc) (cE []) fn.ntmps an (cu (dh fn) 0 [0]).2 b (sh.enc ((D v).m a)) γ (Kb (F8 ⟨f,fn,an,0⟩ b) next k)=((D v).cw.rd a).run none λr=>Sum.elim (λy'=>next (sh.enc ((D v).m y'))) (λw=>(D v).o (Option γ) k w) r:=by intros;kernel_rfl)
  (h:∀x,((Nat.beq 0 0&&mw ⟨f,fn,an,0⟩ [Qz b sh D]),qF S.te (lY orc) (cE [Qz b sh D]) an fn (zV ks x))=(true,(F.T x).run none λv=>some (R v)):=by intro _;kernel_rfl):Ent1 P:=
 lh S ⟨f,fn,an,0⟩ orc [Qz b sh D] F R hf ⟨PE S (aL orc) [0] D [] trivial l1 l2 l3,trivial⟩ h
noncomputable def bu {f:Nat}{fn:Func}(hf:P.funcs[f]? =some fn)(orc:List (Ent1 P)){ks:List Pk}{V:Type}{p:HP ks→Prop}{q:HP ks→V→Prop}(F:FT (HP ks) V p q)(R:V→cS)
  (h:∀x,((Nat.beq 0 0&&mw ⟨f,fn,[],0⟩ []),qF S.te (lY orc) (cE []) [] fn (zV ks x))=(true,(F.T x).run none λv=>some (R v)):=by intro _;kernel_rfl):Ent1 P:=
 lh S ⟨f,fn,[],0⟩ orc [] F R hf trivial h
noncomputable def oG {f:Nat}{fn:Func}(hf:P.funcs[f]? =some fn)(orc:List (Ent1 P)){ks:List Pk}{V:Type}{p F0:HP ks→Prop}(F:FX (HP ks) V p F0)(R:V→cS)
  (h:∀x,((Nat.beq 0 0&&mw ⟨f,fn,[],0⟩ []),qF S.te (lY orc) (cE []) [] fn (zV ks x))=(true,(F.T x).run none λv=>some (R v)):=by intro _;kernel_rfl) (hF:F0=bP ks:=by exact rfl):Ent1 P:=
 Mw S ⟨f,fn,[],0⟩ orc [] F R hf trivial h hF
noncomputable def kS {f:Nat}{fn:Func}(hf:P.funcs[f]? =some fn)(orc:List (Ent1 P)){ks:List Pk}{V:Type}(F:FF (HP ks) V)(R:V→cS)
  (h:∀x,((F.T x).free,(Nat.beq 0 0&&mw ⟨f,fn,[],0⟩ []),qF S.te (lY orc) (cE []) [] fn (zV ks x))=(true,true,(F.T x).run none λv=>some (R v)):=by intro _;kernel_rfl):Ent1 P:=
 Qv S ⟨f,fn,[],0⟩ orc [] none F.f F.T R hf trivial (λx=>Rg (h x)) (λx _ _=>Tr.ok_of_free _ (Rm (h x)) trivial) λ_=>rfl
end
def rB (v:Bool):cS:=[(false,[.c (.bool v)])]
def rI (v:Int):cS:=[(false,[.c (.int .i64 v)])]
theorem Ent1.con {P:Program}{e:Ent1 P}{f:Nat}(hf:e.f=f){A:List PV}{R:cS}(h:e.g A [] cS (λR O=>match O with|[]=>some R|_::_=>none)=some R):zO P f A R:=by
 subst hf
 obtain⟨R',O',h1,h2⟩:=e.ok _ _ _ _ _ h
 cases O' with
 |nil=>cases h2;exact h1
 |cons _ _=>cases h2
theorem NJ {te:TE}{t:TypeId}{ty:Ty}{fs:List (Nat×Nat)}(hl:ac te t=some (.st ty fs)){A:PV}(h:KK te t A):∃x:ty.T,A=(Pk.st ty).pv x:=by
 obtain⟨ti,xs,hl',rfl,hx,_⟩:=h
 rw[hl]at hl';cases hl'
 obtain⟨x,rfl⟩:=EA hx
 exact⟨x,rfl⟩
theorem Oi {P:Program}(S:Seat P){f:Nat}{fn:Func}(hf:P.funcs[f]? =some fn)(hc:mw ⟨f,fn,[],0⟩ []=true){A:List PV}{R:cS}(h:qF S.te (lY (P:=P) []) (cE []) [] fn A=some R):zO P f A R:=
 Ru S (X:=⟨f,fn,[],0⟩) (aL []) hf hc (outer:=[]) trivial (O:=[]) (O':=[]) rfl rfl (by rw[List.map_nil,List.append_nil];exact h)
noncomputable def MX {P:Program}(f:Nat){ks:List Pk}{V:Type}{p:HP ks→Prop}{q:HP ks→V→Prop}(F:Fnc (HP ks) V p q)(R:V→cS)(h:∀x,p x→zO P f (zV ks x) (R (F.f x))):Ent1 P where
 f:=f
 g A O _ k:=match O with|[]=>rJ (Jx ks A) none λx=>C6 (dc (p x)) (jt (F.f x) λv=>k (R v) []) none|_::_=>none
 ok A O γ k z hg:=by
  cases O with
  |cons _ _=>cases hg
  |nil=>
  obtain⟨x,hx,hg⟩:=ee hg
  cases hp:dc (p x)with
  |true=>
   rw[hp]at hg
   exact⟨R (F.f x),[],by rw[rR hx];exact h x (K7 hp),hg⟩
  |false=>rw[hp]at hg;cases hg
end Go.Proofs.YtffjmkhjhchnmaaGreat
