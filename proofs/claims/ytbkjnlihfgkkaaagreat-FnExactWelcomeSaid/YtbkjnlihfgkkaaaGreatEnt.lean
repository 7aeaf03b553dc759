/- Contracts as an oracle; what is known of arguments. -/
import Derived.Test.YtbkjnlihfgkkaaaGreatRow2
import Derived.Test.YtbkjnlihfgkkaaaGreatLoop
set_option linter.unusedVariables false
set_option linter.unusedSimpArgs false
namespace Go.Proofs.YtbkjnlihfgkkaaaGreat
open Go Go.RowKit
structure Ent1 (P:Program) where
 f:Nat
 g:List PV→List MO→(γ:Type)→(dY→List MO→Option γ)→Option γ
 ok:∀A O (γ:Type) k (z:γ),g A O γ k=some z→∃R O',pY P f A O R O'∧k R O'=some z
def mB {P:Program}:List (Ent1 P)→NE
 |[],_,_,_,_,_=>none
 |e::r,f,A,O,γ,k=>match Nat.beq e.f f with
  |true=>e.g A O γ k
  |false=>mB r f A O γ k
theorem aR {P:Program}:∀(L:List (Ent1 P)),ua (pY P) (mB L)
 |[],_,_,_,_,_,_,h=>by cases h
 |e::r,f,A,O,γ,k,z,h=>by
  simp only[mB]at h
  cases hb:Nat.beq e.f f with
  |true=>
   rw[hb]at h
   obtain⟨R,O',h1,h2⟩:=e.ok A O γ k z h
   rw[Nat.eq_of_beq_eq_true hb]at h1
   exact⟨R,O',h1,h2⟩
  |false=>rw[hb]at h;exact aR r f A O γ k z h
def JL:MC→Prop
 | .c x=>FactC x
 |_=>True
def EU:PV→Prop
 | .val _ cs=>∀c∈cs,FactC c
 | .fn _ _=>True
 | .wr _ cs=>∀c∈cs,JL c
 | .nils=>True
 | .slx t xs=>FactC (.sl t xs)
theorem og.fact {mo:jU}{J:Nat→Prop}{w:World}{c:MC}{v:Value}(h:og mo J w c v):JL c:=by
 cases c with
 |c x=>exact RepC.fact h
 |own _=>trivial
 |ptr _=>trivial
 |down _=>trivial
theorem n3.fact {mo:jU}{J:Nat→Prop}{w:World}{A:PV}{v:Value}(h:n3 mo J w A v):EU A:=by
 cases A with
 |fn f caps=>trivial
 |nils=>trivial
 |slx t xs=>exact RepC.fact h.1
 |wr ag cs=>
  intro c hc
  obtain⟨i,hi⟩:=List.getElem?_of_mem hc
  cases ag with
  |true=>
   obtain⟨us,rfl,hu⟩:=h
   obtain⟨u,_,hr⟩:=hu.at hi
   exact hr.1.fact
  |false=>
   obtain⟨c',rfl,hr⟩:=h
   rw[List.mem_singleton]at hc
   subst hc
   exact hr.fact
 |val ag cs=>
  intro c hc
  obtain⟨i,hi⟩:=List.getElem?_of_mem hc
  cases ag with
  |true=>
   obtain⟨us,rfl,hu⟩:=h
   obtain⟨u,_,hr⟩:=hu.at hi
   exact hr.fact
  |false=>
   obtain⟨c',rfl,hr⟩:=h
   rw[List.mem_singleton]at hc
   subst hc
   exact hr.fact
theorem Bn.of_facts {P:Program}{f:Nat}{A:List PV}{R:dY}(he:∀args w,(callFunc f args).run P w= .ok (.enter f args) w)(h:(∀a∈A,EU a)→Bn P f A R):Bn P f A R:=by
 refine⟨he,λw J mo vs hJ h1 h2 h3 hg hgx hA=> ?_⟩
 refine(h λa ha=> ?_).2 w J mo vs hJ h1 h2 h3 hg hgx hA
 obtain⟨i,hi⟩:=List.getElem?_of_mem ha
 obtain⟨v,_,hr⟩:=hA.at hi
 exact hr.fact
def J0:MO→Prop
 | .box cs=>∀c∈cs,JL c
 | .arr t xs=>FactC (.sl t xs)
 | .dar t xs=>FactC (.sl t xs)
theorem gI.fact {mo:jU}{J:Nat→Prop}{w:World}{m:Mt}{o:MO}(h:gI mo J w m o):J0 o:=by
 cases o with
 |box cs=>
  obtain⟨b,_,_,h3,_⟩:=h
  intro c hc
  obtain⟨i,hi⟩:=List.getElem?_of_mem hc
  obtain⟨u,_,hu⟩:=h3 i c hi
  exact hu.fact
 |arr t xs=>
  obtain⟨_,h3⟩:=h
  rcases h3 with⟨_,h3⟩|⟨b,cap,_,_,_,h4,_,h6⟩
  ·subst h3;exact .sl t [] (by simp) (by simp)
  ·refine .sl t xs h4 λx hx c hc=> ?_
   obtain⟨i,hi⟩:=List.getElem?_of_mem hx
   obtain⟨j,hj⟩:=List.getElem?_of_mem hc
   obtain⟨u,_,hu⟩:=h6 i x j c hi hj
   exact hu.fact
 |dar t xs=>
  obtain⟨_,h3,_⟩:=h
  rcases h3 with⟨_,h3⟩|⟨b,cap,_,_,_,h4,_,h6⟩
  ·subst h3;exact .sl t [] (by simp) (by simp)
  ·refine .sl t xs h4 λx hx c hc=> ?_
   obtain⟨i,hi⟩:=List.getElem?_of_mem hx
   obtain⟨j,hj⟩:=List.getElem?_of_mem hc
   obtain⟨u,_,hu⟩:=h6 i x j c hi hj
   exact RepC.fact (hu.rep (J:=λ_=>True) λ_ _ _=>trivial)
theorem pY.of_facts {P:Program}{f:Nat}{A:List PV}{O O':List MO}{R:dY}(he:∀args w,(callFunc f args).run P w= .ok (.enter f args) w)(h:(∀a∈A,EU a)→(∀o∈O,J0 o)→pY P f A O R O'):pY P f A O R O':=by
 refine⟨he,λw J mo vs hJ h1 h2 h3 hg hgx hA=> ?_⟩
 refine(h (λa ha=> ?_) λo ho=> ?_).2 w J mo vs hJ h1 h2 h3 hg hgx hA
 ·obtain⟨i,hi⟩:=List.getElem?_of_mem ha
  obtain⟨v,_,hr⟩:=hA.at hi
  exact hr.fact
 ·obtain⟨i,hi⟩:=List.getElem?_of_mem ho
  obtain⟨v,_,hr⟩:=aG.atR h1 hi
  exact hr.fact
theorem Bn.byNil {P:Program}{f:Nat}{t:Ty}{xs:List t.T}{R:dY}(h1:xs=[]→Bn P f [.nils] R)(h2:Bn P f [.slx t xs] R):Bn P f [.val false [.sl t xs]] R:=by
 refine⟨h2.1,λw J mo vs hJ hmo hinj hX hg hgx hA=> ?_⟩
 obtain⟨v,hv⟩:∃v,vs.toList=[v]∧n3 mo J w (.val false [.sl t xs]) v:=by
  generalize vs.toList=l at hA
  match l,hA with
  |[v],hA=>exact⟨v,rfl,hA.1⟩
 obtain⟨hvs,c,hc,hr⟩:=hv
 cases hc
 by_cases hn:v= .slice none 0 0
 ·have hx:xs=[]:=by
   subst hn
   cases hr with
   |nil=>rfl
  exact(h1 hx).2 w J mo vs hJ hmo hinj hX hg hgx (by rw[hvs];exact⟨hn,trivial⟩)
 ·refine h2.2 w J mo vs hJ hmo hinj hX hg hgx ?_
  rw[hvs]
  refine⟨⟨hr, ?_⟩,trivial⟩
  clear hvs
  cases hr with
  |nil=>exact absurd rfl hn
  |emp _ a cap=>exact⟨a,0,cap,rfl⟩
  |sl _ _ b off cap _ _ _ _ _ _=>exact⟨_,_,_,rfl⟩
def Ty.mcs:(t:Ty)→t.T→List MC
 | .u8=>λx=>[.c (.int .u8 x)]
 | .i64=>λx=>[.c (.int .i64 x)]
 | .u64=>λx=>[.c (.int .u64 x)]
 | .bool=>λx=>[.c (.bool x)]
 | .str=>λx=>[.c (.str x)]
 | .fram=>λx=>[.c (.int .i64 x.dst),.c (.int .i64 x.src),.c (.int .i64 x.type),.c (.str x.body)]
 | .arpm=>λx=>[.c (.int .i64 x.kind),.c (.int .i64 x.srcHw),.c (.int .i64 x.srcIp),.c (.int .i64 x.dstHw),.c (.int .i64 x.dstIp)]
 | .pack=>λx=>[.c (.int .i64 x.src),.c (.int .i64 x.dst),.c (.int .i64 x.ttl),.c (.int .i64 x.proto),.c (.int .i64 x.id),.c (.str x.body)]
 | .opti=>λx=>[.c (.int .i64 x.mss),.c (.int .i64 x.scale),.c (.bool x.sack),.c (.bool x.stamp),.c (.int .i64 x.val),.c (.int .i64 x.echo)]
 | .segm=>λx=>[.c (.int .i64 x.from_),.c (.int .i64 x.to),.c (.int .i64 x.seq),.c (.int .i64 x.ack),.c (.int .i64 x.flags),.c (.int .i64 x.window),.c (.int .i64 x.opts.mss),.c (.int .i64 x.opts.scale),.c (.bool x.opts.sack),.c (.bool x.opts.stamp),.c (.int .i64 x.opts.val),.c (.int .i64 x.opts.echo),.c (.str x.body)]
 | .sipr=>λx=>[.c (.int .u64 x.a),.c (.int .u64 x.b),.c (.int .u64 x.c),.c (.int .u64 x.d)]
 | .macRow=>λx=>[.c (.str x.input),.c (.int .i64 x.value)]
 | .mac=>λx=>[.c (.bool x.use),.c (.int .u64 x.k),.c (.int .u64 x.l),.c (.sl .macRow x.rows)]
 | .tupl=>λx=>[.c (.int .i64 x.ip),.c (.int .i64 x.port),.c (.int .i64 x.my)]
 | .keys=>λx=>[.c (.int .i64 x.epoch),.c (.bool x.now.use),.c (.int .u64 x.now.k),.c (.int .u64 x.now.l),.c (.sl .macRow x.now.rows),.c (.bool x.before.use),.c (.int .u64 x.before.k),.c (.int .u64 x.before.l),.c (.sl .macRow x.before.rows),.c (.bool x.two)]
 | .entr=>λx=>[.c (.int .i64 x.ip),.c (.int .i64 x.hw),.c (.int .i64 x.age)]
 | .link=>λx=>[.c (.int .i64 x.mac),.c (.int .i64 x.ip),.c (.sl .entr x.cache)]
 | .sndr=>λx=>[.c (.int .i64 x.una),.c (.str x.data),.c (.int .i64 x.sent),.c (.bool x.fin),.c (.bool x.finSent),.c (.bool x.done)]
 | .chun=>λx=>[.c (.int .i64 x.seq),.c (.str x.text),.c (.bool x.fin)]
 | .piec=>λx=>[.c (.int .i64 x.off),.c (.str x.text)]
 | .recv=>λx=>[.c (.int .i64 x.next),.c (.str x.data),.c (.sl .piec x.held),.c (.int .i64 x.fin),.c (.bool x.done)]
 | .conn=>λx=>[.c (.int .i64 x.tuple.ip),.c (.int .i64 x.tuple.port),.c (.int .i64 x.tuple.my),.c (.int .i64 x.state),.c (.int .i64 x.s.una),.c (.str x.s.data),.c (.int .i64 x.s.sent),.c (.bool x.s.fin),.c (.bool x.s.finSent),.c (.bool x.s.done),.c (.int .i64 x.r.next),.c (.str x.r.data),.c (.sl .piec x.r.held),.c (.int .i64 x.r.fin),.c (.bool x.r.done),.c (.int .i64 x.window),.c (.int .i64 x.most),.c (.int .i64 x.opts.mss),.c (.int .i64 x.opts.scale),.c (.bool x.opts.sack),.c (.bool x.opts.stamp),.c (.int .i64 x.opts.val),.c (.int .i64 x.opts.echo),.c (.int .i64 x.timer),.c (.int .i64 x.tries)]
 | .half=>λx=>[.c (.int .i64 x.tuple.ip),.c (.int .i64 x.tuple.port),.c (.int .i64 x.tuple.my),.c (.int .i64 x.iss),.c (.int .i64 x.irs),.c (.int .i64 x.opts.mss),.c (.int .i64 x.opts.scale),.c (.bool x.opts.sack),.c (.bool x.opts.stamp),.c (.int .i64 x.opts.val),.c (.int .i64 x.opts.echo),.c (.int .i64 x.age),.c (.int .i64 x.window)]
 | .limi=>λx=>[.c (.int .i64 x.halves),.c (.int .i64 x.waiting),.c (.int .i64 x.conns),.c (.int .i64 x.chal)]
 | .tabl=>λx=>[.c (.sl .conn x.conns),.c (.sl .tupl x.waiting)]
 | .door=>λx=>[.c (.int .i64 x.port),.c (.int .i64 x.clock),.c (.int .i64 x.keys.epoch),.c (.bool x.keys.now.use),.c (.int .u64 x.keys.now.k),.c (.int .u64 x.keys.now.l),.c (.sl .macRow x.keys.now.rows),.c (.bool x.keys.before.use),.c (.int .u64 x.keys.before.k),.c (.int .u64 x.keys.before.l),.c (.sl .macRow x.keys.before.rows),.c (.bool x.keys.two),.c (.int .i64 x.limits.halves),.c (.int .i64 x.limits.waiting),.c (.int .i64 x.limits.conns),.c (.int .i64 x.limits.chal),.c (.sl .half x.halves),.c (.sl .conn x.table.conns),.c (.sl .tupl x.table.waiting),.c (.int .i64 x.chal)]
 | .stac=>λx=>[.c (.int .i64 x.link.mac),.c (.int .i64 x.link.ip),.c (.sl .entr x.link.cache),.c (.int .i64 x.door.port),.c (.int .i64 x.door.clock),.c (.int .i64 x.door.keys.epoch),.c (.bool x.door.keys.now.use),.c (.int .u64 x.door.keys.now.k),.c (.int .u64 x.door.keys.now.l),.c (.sl .macRow x.door.keys.now.rows),.c (.bool x.door.keys.before.use),.c (.int .u64 x.door.keys.before.k),.c (.int .u64 x.door.keys.before.l),.c (.sl .macRow x.door.keys.before.rows),.c (.bool x.door.keys.two),.c (.int .i64 x.door.limits.halves),.c (.int .i64 x.door.limits.waiting),.c (.int .i64 x.door.limits.conns),.c (.int .i64 x.door.limits.chal),.c (.sl .half x.door.halves),.c (.sl .conn x.door.table.conns),.c (.sl .tupl x.door.table.waiting),.c (.int .i64 x.door.chal)]
 | .acti=>λx=>[.c (.int .i64 x.kind),.c (.int .i64 x.tuple.ip),.c (.int .i64 x.tuple.port),.c (.int .i64 x.tuple.my),.c (.int .i64 x.n),.c (.str x.text),.c (.bool x.mac.use),.c (.int .u64 x.mac.k),.c (.int .u64 x.mac.l),.c (.sl .macRow x.mac.rows)]
 | .resu=>λx=>[.c (.sl .str x.frames),.c (.int .i64 x.made),.c (.int .i64 x.tuple.ip),.c (.int .i64 x.tuple.port),.c (.int .i64 x.tuple.my),.c (.int .i64 x.n),.c (.str x.text),.c (.bool x.ok)]
 | .issu=>λx=>[.c (.int .i64 x.tuple.ip),.c (.int .i64 x.tuple.port),.c (.int .i64 x.tuple.my),.c (.int .i64 x.seq),.c (.int .i64 x.cookie)]
 | .clie=>λx=>[.c (.int .i64 x.tuple.ip),.c (.int .i64 x.tuple.port),.c (.int .i64 x.tuple.my),.c (.int .i64 x.isn),.c (.int .i64 x.opts.mss),.c (.int .i64 x.opts.scale),.c (.bool x.opts.sack),.c (.bool x.opts.stamp),.c (.int .i64 x.opts.val),.c (.int .i64 x.opts.echo),.c (.int .i64 x.window)]
 | .mail=>λx=>[.c (.int .i64 x.ip),.c (.int .i64 x.g.from_),.c (.int .i64 x.g.to),.c (.int .i64 x.g.seq),.c (.int .i64 x.g.ack),.c (.int .i64 x.g.flags),.c (.int .i64 x.g.window),.c (.int .i64 x.g.opts.mss),.c (.int .i64 x.g.opts.scale),.c (.bool x.g.opts.sack),.c (.bool x.g.opts.stamp),.c (.int .i64 x.g.opts.val),.c (.int .i64 x.g.opts.echo),.c (.str x.g.body)]
 | .curs=>λx=>[.c (.sl .u8 x.b),.c (.int .i64 x.i),.c (.int .i64 x.h)]
theorem Ty.mcs_cells:∀(t:Ty) (x:t.T),t.mcs x=(t.cells x).map .c:=by intro t x;cases t<;>rfl
def Qj:List MC→Option (List Cell)
 |[]=>some []
 | .c x::r=>match Qj r with
  |some l=>some (x::l)
  |none=>none
 |_::_=>none
theorem I3:∀{cs:List MC} {l:List Cell},Qj cs=some l→l.map .c=cs
 |[],_,h=>by cases h;rfl
 | .c x::r,l,h=>by
  simp only[Qj]at h
  split at h
  ·rename_i l' hl
   cases h
   simp only[List.map_cons,I3 hl]
  ·cases h
 | .own _::_,_,h=>by cases h
 | .ptr _::_,_,h=>by cases h
 | .down _::_,_,h=>by cases h
inductive WP where
 |c (f:Fl)|own (k:Nat)|ptr (k:Nat)|st (t:Ty)|down (k:Nat)
@[reducible] def HW:List WP→Type
 |[]=>Unit
 | .c f::r=>f.T×HW r
 | .own _::r=>HW r
 | .ptr _::r=>HW r
 | .down _::r=>HW r
 | .st t::r=>t.T×HW r
def N8:(ps:List WP)→HW ps→List MC
 |[],_=>[]
 | .c f::r,x=> .c (f.cell x.1)::N8 r x.2
 | .own k::r,x=> .own k::N8 r x
 | .ptr k::r,x=> .ptr k::N8 r x
 | .down k::r,x=> .down k::N8 r x
 | .st t::r,x=>t.mcs x.1++N8 r x.2
def ze:(ps:List WP)→List MC→Option (HW ps)
 |[],[]=>some ()
 | .c f::r,.c x::cs=>match f.get x,ze r cs with
  |some y,some ys=>some (y,ys)
  |_,_=>none
 | .own k::r,.own k'::cs=>match Nat.beq k k' with|true=>ze r cs|false=>none
 | .ptr k::r,.ptr k'::cs=>match Nat.beq k k' with|true=>ze r cs|false=>none
 | .down k::r,.down k'::cs=>match Nat.beq k k' with|true=>ze r cs|false=>none
 | .st t::r,cs=>match Qj (cs.take t.size),ze r (cs.drop t.size)with
  |some l,some ys=>match t.get l with
   |some y=>some (y,ys)
   |none=>none
  |_,_=>none
 |_,_=>none
theorem nN:∀{ps:List WP} {cs:List MC} {x:HW ps},ze ps cs=some x→N8 ps x=cs
 |[],[],_,_=>rfl
 | .c f::r,.c y::cs,x,h=>by
  simp only[ze]at h
  split at h
  ·rename_i a b ha hb
   cases h
   simp only[N8,Fl.get_cell ha,nN hb]
  ·cases h
 | .own k::r,.own k'::cs,x,h=>by
  simp only[ze]at h
  split at h
  ·rename_i e
   rw[←Nat.eq_of_beq_eq_true e]
   simp only[N8,nN h]
  ·cases h
 | .ptr k::r,.ptr k'::cs,x,h=>by
  simp only[ze]at h
  split at h
  ·rename_i e
   rw[←Nat.eq_of_beq_eq_true e]
   simp only[N8,nN h]
  ·cases h
 | .down k::r,.down k'::cs,x,h=>by
  simp only[ze]at h
  split at h
  ·rename_i e
   rw[←Nat.eq_of_beq_eq_true e]
   simp only[N8,nN h]
  ·cases h
 | .st t::r,cs,x,h=>by
  simp only[ze]at h
  split at h
  ·rename_i l ys hl hys
   split at h
   ·rename_i y hy
    cases h
    simp only[N8,Ty.mcs_cells,Ty.get_cells hy,I3 hl,nN hys,List.take_append_drop]
   ·cases h
  ·cases h
 |[],_::_,_,h=>by cases h
 | .c _::_,[],_,h=>by cases h
 | .own _::_,[],_,h=>by cases h
 | .ptr _::_,[],_,h=>by cases h
 | .c _::_,.own _::_,_,h=>by cases h
 | .c _::_,.ptr _::_,_,h=>by cases h
 | .own _::_,.c _::_,_,h=>by cases h
 | .own _::_,.ptr _::_,_,h=>by cases h
 | .ptr _::_,.c _::_,_,h=>by cases h
 | .ptr _::_,.own _::_,_,h=>by cases h
 | .down _::_,[],_,h=>by cases h
 | .down _::_,.c _::_,_,h=>by cases h
 | .down _::_,.own _::_,_,h=>by cases h
 | .down _::_,.ptr _::_,_,h=>by cases h
 | .c _::_,.down _::_,_,h=>by cases h
 | .own _::_,.down _::_,_,h=>by cases h
 | .ptr _::_,.down _::_,_,h=>by cases h
inductive Pk where
 |sc (f:Fl)|st (t:Ty)|fn (f:Nat)(ks:List Nat)|wr (agg:Bool)(ps:List WP)
@[reducible] def Pk.T:Pk→Type
 | .sc f=>f.T
 | .st t=>t.T
 | .fn _ _=>Unit
 | .wr _ ps=>HW ps
def Pk.pv:(k:Pk)→k.T→PV
 | .sc f,x=> .val false [f.cell x]
 | .st t,x=> .val true (t.cells x)
 | .fn f ks,_=> .fn f ks
 | .wr ag ps,x=> .wr ag (N8 ps x)
def Pk.get:(k:Pk)→PV→Option k.T
 | .sc f,.val false [c]=>f.get c
 | .st t,.val true cs=>t.get cs
 | .fn f ks,.fn f' ds=>match Nat.beq f f'&&QP ks ds with|true=>some ()|false=>none
 | .wr true ps,.wr true cs=>ze ps cs
 | .wr false ps,.wr false cs=>ze ps cs
 |_,_=>none
theorem Pk.get_pv {k:Pk}{a:PV}{x:k.T}(h:k.get a=some x):a=k.pv x:=by
 unfold Pk.get at h
 split at h
 ·rename_i f c;simp only[Pk.pv,Fl.get_cell h]
 ·rename_i t cs;simp only[Pk.pv,Ty.get_cells h]
 ·split at h
  ·rename_i e
   simp only[Bool.and_eq_true]at e
   cases Nat.eq_of_beq_eq_true e.1
   cases DH e.2
   rfl
  ·cases h
 ·simp only[Pk.pv,nN h]
 ·simp only[Pk.pv,nN h]
 ·cases h
@[reducible] def HP:List Pk→Type
 |[]=>Unit
 |k::r=>k.T×HP r
def CD:(ks:List Pk)→HP ks→List PV
 |[],_=>[]
 |k::r,x=>k.pv x.1::CD r x.2
def Sb:(ks:List Pk)→List PV→Option (HP ks)
 |[],[]=>some ()
 |k::r,a::s=>match k.get a,Sb r s with
  |some x,some y=>some (x,y)
  |_,_=>none
 |_,_=>none
theorem zy:∀{ks:List Pk} {A:List PV} {x:HP ks},Sb ks A=some x→A=CD ks x
 |[],[],_,_=>rfl
 |k::r,a::s,x,h=>by
  simp only[Sb]at h
  split at h
  ·rename_i y z hy hz
   cases h
   simp only[CD,←Pk.get_pv hy,←zy hz]
  ·cases h
 |[],_::_,_,h=>by cases h
 |_::_,[],_,h=>by cases h
inductive Mk where
 |arr (t:Ty)|box (ps:List WP)|dar (t:Ty)
@[reducible] def Mk.T:Mk→Type
 | .arr t=>List t.T
 | .box ps=>HW ps
 | .dar t=>List t.T
def Mk.mo:(k:Mk)→k.T→MO
 | .arr t,xs=> .arr t xs
 | .box ps,x=> .box (N8 ps x)
 | .dar t,xs=> .dar t xs
def Mk.get:(k:Mk)→MO→Option k.T
 | .arr t,.arr t' xs=>if h:t'=t then some (h▸xs)else none
 | .box ps,.box cs=>ze ps cs
 | .dar t,.dar t' xs=>if h:t'=t then some (h▸xs)else none
 |_,_=>none
theorem Mk.get_mo {k:Mk}{o:MO}{x:k.T}(h:k.get o=some x):o=k.mo x:=by
 cases k with
 |arr t=>
  cases o with
  |arr t' xs=>
   simp only[Mk.get]at h
   split at h
   ·rename_i e
    subst e
    cases h
    rfl
   ·cases h
  |_=>cases h
 |dar t=>
  cases o with
  |dar t' xs=>
   simp only[Mk.get]at h
   split at h
   ·rename_i e
    subst e
    cases h
    rfl
   ·cases h
  |_=>cases h
 |box fs=>
  cases o with
  |box cs=>simp only[Mk.get]at h;simp only[Mk.mo,nN h]
  |_=>cases h
@[reducible] def HM:List Mk→Type
 |[]=>Unit
 |k::r=>k.T×HM r
def K3:(ks:List Mk)→HM ks→List MO
 |[],_=>[]
 |k::r,x=>k.mo x.1::K3 r x.2
def U1:(ks:List Mk)→List MO→Option (HM ks)
 |[],[]=>some ()
 |k::r,a::s=>match k.get a,U1 r s with
  |some x,some y=>some (x,y)
  |_,_=>none
 |_,_=>none
theorem MW:∀{ks:List Mk} {O:List MO} {x:HM ks},U1 ks O=some x→O=K3 ks x
 |[],[],_,_=>rfl
 |k::r,a::s,x,h=>by
  simp only[U1]at h
  split at h
  ·rename_i y z hy hz
   cases h
   simp only[K3,←Mk.get_mo hy,←MW hz]
  ·cases h
 |[],_::_,_,h=>by cases h
 |_::_,[],_,h=>by cases h
inductive Ow where
 |c|o (deep:Bool)|d
def Xi:Ow→Cell→RC
 | .o d,.sl t xs=> .own d t xs
 | .d,.sl t xs=> .dar t xs
 |_,x=> .c x
def od:List Ow→List Cell→List RC
 |[],cs=>cs.map .c
 |_::_,[]=>[]
 |o::r,x::cs=>Xi o x::od r cs
def rv (k:Pk)(ow:List Ow)(x:k.T):Bool×List RC:=
 match k.pv x with
 | .val ag cs=>(ag,od ow cs)
 |_=>(false,[])
def sc:Ow→(t:Ty)→List t.T→RC
 | .o d,t,xs=> .own d t xs
 | .d,t,xs=> .dar t xs
 | .c,t,xs=> .c (.sl t xs)
theorem FactC.len {t:Ty}{xs:List t.T}(h:FactC (.sl t xs)):xs.length≤140737488355328:=by cases h with|sl _ _ h _=>exact h
theorem FactC.slen {s:aA}(h:FactC (.str s)):s.length≤4611686018427387904:=by cases h with|str _ h=>exact h
theorem FactC.rng {k:IntKind}{n:Int}(h:FactC (.int k n)):DF k n:=by cases h with|int _ _ h=>exact h
theorem FactC.elem {t:Ty}{xs:List t.T}(h:FactC (.sl t xs)){x:t.T}(hx:x∈xs):∀c∈t.cells x,FactC c:=by cases h with|sl _ _ _ hc=>exact hc x hx
theorem au {m:Int}(h0: -9223372036854775808≤m)(h1:m≤9223372036854775807):IntKind.i64.wrap m=m:=by
 unfold IntKind.wrap
 simp only[IntKind.signed,IntKind.bits]
 simp
 omega
def lV (s:aA):List Int:=s.map λc=>(c.toNat:Int)
def ay (xs:List Int):aA:=List.map (λn:Int=>UInt8.ofNat n.toNat) xs
def ce (s:aA)(i:Nat):Int:=((s.getD i 0).toNat:Int)
def HR (t:Ty)(xs:List t.T):Prop:=∀y∈xs,∀c∈t.cells y,FactC c
def Fl.fact:(f:Fl)→f.T→Prop
 | .int .i64,n=> -9223372036854775808≤(n:Int)∧(n:Int)≤9223372036854775807
 | .int .u64,n=>0≤(n:Int)∧(n:Int)≤18446744073709551615
 | .int .u8,n=>0≤(n:Int)∧(n:Int)≤255
 | .int .i32,n=>DF .i32 n| .int .u32,n=>DF .u32 n| .int .i16,n=>DF .i16 n| .int .u16,n=>DF .u16 n| .int .i8,n=>DF .i8 n
 | .bool,_=>True
 | .str,s=>List.length s≤4611686018427387904
 | .sl t,xs=>List.length xs≤140737488355328∧HR t xs
theorem Fl.fact_of {f:Fl}{x:f.T}(h:FactC (f.cell x)):f.fact x:=by
 cases f with
 |int k=>
  have h:=h.rng
  cases k with
  |i64=>exact⟨h.1,h.2⟩
  |u64=>exact⟨h.1,h.2⟩
  |u8=>exact⟨h.1,h.2⟩
  |i32=>exact h
  |u32=>exact h
  |i16=>exact h
  |u16=>exact h
  |i8=>exact h
 |bool=>trivial
 |str=>exact h.slen
 |sl t=>exact⟨h.len,λy hy=>h.elem hy⟩
def fX:(fs:List Fl)→HL fs→Prop
 |[],_=>True
 |f::fs,x=>f.fact x.1∧fX fs x.2
theorem Gy:∀{fs:List Fl} {x:HL fs},(∀c∈df fs x,FactC c)→fX fs x
 |[],_,_=>trivial
 |f::fs,x,h=>⟨Fl.fact_of (h _ List.mem_cons_self),Gy λc hc=>h c (List.mem_cons_of_mem _ hc)⟩
def eK:(ps:List WP)→HW ps→Prop
 |[],_=>True
 | .c f::r,x=>f.fact x.1∧eK r x.2
 | .own _::r,x=>eK r x
 | .ptr _::r,x=>eK r x
 | .down _::r,x=>eK r x
 | .st t::r,x=>fX t.fl (t.toH x.1)∧eK r x.2
theorem pi:∀{ps:List WP} {x:HW ps},(∀c∈N8 ps x,JL c)→eK ps x
 |[],_,_=>trivial
 | .c f::r,x,h=>⟨Fl.fact_of (h _ List.mem_cons_self),pi λc hc=>h c (List.mem_cons_of_mem _ hc)⟩
 | .own _::r,x,h=>pi (ps:=r) λc hc=>h c (List.mem_cons_of_mem _ hc)
 | .ptr _::r,x,h=>pi (ps:=r) λc hc=>h c (List.mem_cons_of_mem _ hc)
 | .down _::r,x,h=>pi (ps:=r) λc hc=>h c (List.mem_cons_of_mem _ hc)
 | .st t::r,x,h=>⟨Gy λc hc=>h (.c c) (by
   simp only[N8,Ty.mcs_cells]
   exact List.mem_append_left _ (List.mem_map.2 ⟨c,hc,rfl⟩)),pi λc hc=>h c (by
   simp only[N8]
   exact List.mem_append_right _ hc)⟩
def Pk.fact:(k:Pk)→k.T→Prop
 | .sc f,x=>f.fact x
 | .st t,x=>fX t.fl (t.toH x)
 | .fn _ _,_=>True
 | .wr _ ps,x=>eK ps x
theorem Pk.fact_of {k:Pk}{x:k.T}(h:EU (k.pv x)):k.fact x:=by
 cases k with
 |sc f=>exact Fl.fact_of (h _ List.mem_cons_self)
 |st t=>exact Gy h
 |fn _ _=>trivial
 |wr ag ps=>exact pi h
def bC:(ks:List Pk)→HP ks→Prop
 |[],_=>True
 |k::r,x=>k.fact x.1∧bC r x.2
theorem ry:∀{ks:List Pk} {x:HP ks},(∀a∈CD ks x,EU a)→bC ks x
 |[],_,_=>trivial
 |k::r,x,h=>⟨Pk.fact_of (h _ List.mem_cons_self),ry λc hc=>h c (List.mem_cons_of_mem _ hc)⟩
def Mk.fact:(k:Mk)→k.T→Prop
 | .arr t,xs=>List.length xs≤140737488355328∧HR t xs
 | .box ps,x=>eK ps x
 | .dar t,xs=>List.length xs≤140737488355328∧HR t xs
def LY:(ms:List Mk)→HM ms→Prop
 |[],_=>True
 |k::r,x=>k.fact x.1∧LY r x.2
theorem Mk.fact_of {k:Mk}{x:k.T}(h:J0 (k.mo x)):k.fact x:=by
 cases k with
 |arr t=>exact⟨FactC.len h,λy hy=>FactC.elem h hy⟩
 |box ps=>exact pi h
 |dar t=>exact⟨FactC.len h,λy hy=>FactC.elem h hy⟩
theorem Ld:∀{ms:List Mk} {y:HM ms},(∀o∈K3 ms y,J0 o)→LY ms y
 |[],_,_=>trivial
 |k::r,x,h=>⟨Mk.fact_of (h _ List.mem_cons_self),Ld λc hc=>h c (List.mem_cons_of_mem _ hc)⟩
theorem sJ:∀(ms:List Mk) (y:HM ms),(K3 ms y).length=ms.length
 |[],_=>rfl
 |_::r,y=>by simp[K3,sJ r]
theorem Rj {P:Program}{X:Fx}(hf:P.funcs[X.f]? =some X.fn){outer:List LE}(hc:nW X outer=true):∀args w,(callFunc X.f args).run P w= .ok (.enter X.f args) w:=by
 simp only[nW,Bool.and_eq_true,Bool.not_eq_true']at hc
 obtain⟨⟨⟨⟨h1,h2⟩,h3⟩,h4⟩,h5⟩:=hc
 obtain⟨c,hb⟩:=Option.isSome_iff_exists.1 h5
 exact oW hf hb h4
theorem MS {P:Program}(S:Seat P)(X:Fx)(orc:List (Ent1 P))(outer:List LE)(ks:List Pk)(ms:List Mk){V:Type}(p:HP ks→HM ms→Prop)(T:HP ks→HM ms→Tr V)(R:V→dY)(O':HP ks→HM ms→V→HM ms)
  (hf:P.funcs[X.f]? =some X.fn)(hc:(Nat.beq X.r ms.length&&nW X outer)=true)(hin:nT P X [] outer 0)
  (hlk:∀x y,sR S.te (mB orc) (dg outer) X.ann X.fn (CD ks x) (K3 ms y)=(T x y).run none λv=>some (R v++(K3 ms (O' x y v)).map pA))
  (hok:∀x y,p x y→bC ks x→LY ms y→(T x y).ok)(x:HP ks)(y:HM ms)(hp:p x y):pY P X.f (CD ks x) (K3 ms y) (R (T x y).nice) (K3 ms (O' x y (T x y).nice)):=by
 rw[Bool.and_eq_true]at hc
 refine pY.of_facts (Rj hf hc.2) λh1 h2=> ?_
 refine Xu S (aR orc) hf hc.2 hin (by rw[sJ,Nat.eq_of_beq_eq_true hc.1]) (by rw[sJ,sJ]) ?_
 rw[hlk,Tr.run_okQ _ (hok x y hp (ry h1) (Ld h2))]
theorem Xr {α β:Type}{a a':α}{b b':β}(h:(a,b)=(a',b')):a=a':=by cases h;rfl
theorem Xh {α β:Type}{a a':α}{b b':β}(h:(a,b)=(a',b')):b=b':=by cases h;rfl
structure FX (A R:Type)(p F:A→Prop) where
 T:A→Tr R
 h:∀a,p a→F a→(T a).ok
def FX.f {A R:Type}{p F:A→Prop}(X:FX A R p F)(a:A):R:=(X.T a).nice
@[reducible] def FX.c {A R:Type} {p F:A→Prop} (X:FX A R p F):Fnc A R p (λ_ _=>True):=⟨X.f,λ_ _=>trivial⟩
@[reducible] def XB {A:Type} (ks:List Pk) (ms:List Mk) (cv:HP ks→HM ms→A) (a:A):Prop:=∃x y,a=cv x y∧bC ks x∧LY ms y
section
variable {P:Program} (S:Seat P)
noncomputable def Xj (X:Fx)(orc:List (Ent1 P))(outer:List LE)(ks:List Pk)(ms:List Mk){A V:Type}(cv:HP ks→HM ms→A)(p:A→Prop)(f:A→V)(T:A→Tr V)(R:V→dY)(O':HP ks→HM ms→V→HM ms)
  (hf:P.funcs[X.f]? =some X.fn)(hc:(Nat.beq X.r ms.length&&nW X outer)=true)(hin:nT P X [] outer 0)
  (hlk:∀x y,sR S.te (mB orc) (dg outer) X.ann X.fn (CD ks x) (K3 ms y)=(T (cv x y)).run none λv=>some (R v++(K3 ms (O' x y v)).map pA))
  (hok:∀x y,p (cv x y)→bC ks x→LY ms y→(T (cv x y)).ok)(hv:∀a,f a=(T a).nice):Ent1 P where
 f:=X.f
 g A O _ k:=xf (Sb ks A) none λx=>xf (U1 ms O) none λy=>GO (dc (p (cv x y))) (iq (f (cv x y)) λv=>k (R v) (K3 ms (O' x y v))) none
 ok A O γ k z hg:=by
  obtain⟨x,hx,hg⟩:=iA hg
  obtain⟨y,hy,hg⟩:=iA hg
  cases hp:dc (p (cv x y))with
  |true=>
   rw[hp,hv]at hg
   exact⟨R (T (cv x y)).nice,K3 ms (O' x y (T (cv x y)).nice),by rw[zy hx,MW hy];exact MS S X orc outer ks ms (λx y=>p (cv x y)) (λx y=>T (cv x y)) R O' hf hc hin hlk hok x y (SM hp),hg⟩
  |false=>rw[hp]at hg;cases hg
noncomputable def n7 (X:Fx)(orc:List (Ent1 P))(outer:List LE)(ks:List Pk)(ms:List Mk){A V:Type}(cv:HP ks→HM ms→A){p:A→Prop}{q:A→V→Prop}(F:FT A V p q)(R:V→dY)(O':HP ks→HM ms→V→HM ms)
  (hf:P.funcs[X.f]? =some X.fn)(hc:(Nat.beq X.r ms.length&&nW X outer)=true)(hin:nT P X [] outer 0)
  (hlk:∀x y,sR S.te (mB orc) (dg outer) X.ann X.fn (CD ks x) (K3 ms y)=(F.T (cv x y)).run none λv=>some (R v++(K3 ms (O' x y v)).map pA):=by intro _ _;kernel_rfl):Ent1 P:=
 Xj S X orc outer ks ms cv p F.f F.T R O' hf hc hin hlk (λx y hp _ _=>(F.h _ hp).to λ_ _=>trivial) λ_=>rfl
noncomputable def Uw (X:Fx)(orc:List (Ent1 P))(outer:List LE){ks:List Pk}{V:Type}(c:Option (HP ks→Prop))(f:HP ks→V)(T:HP ks→Tr V)(R:V→dY)
  (hf:P.funcs[X.f]? =some X.fn)(hin:nT P X [] outer 0)(h:∀x,((Nat.beq X.r 0&&nW X outer),ri S.te (mB orc) (dg outer) X.ann X.fn (CD ks x))=(true,(T x).run none λv=>some (R v)))
  (hok:∀x,(∀p,c=some p→p x)→bC ks x→(T x).ok)(hv:∀x,f x=(T x).nice):Ent1 P where
 f:=X.f
 g A O _ k:=match O with|[]=>xf (Sb ks A) none λx=>(match c with|some p=>GO (dc (p x)) (iq (f x) λv=>k (R v) []) none|none=>iq (f x) λv=>k (R v) [])|_::_=>none
 ok A O γ k z hg:=by
  cases O with
  |cons _ _=>cases hg
  |nil=>
  obtain⟨x,hx,hg⟩:=iA hg
  suffices hz:(∀p,c=some p→p x)∧k (R (f x)) []=some z by
   refine⟨R (T x).nice,[], ?_,by rw[←hv];exact hz.2⟩
   rw[zy hx]
   exact MS S X orc outer ks [] (λx _=>∀p,c=some p→p x) (λx _=>T x) R (λ_ _ _=>()) hf (Xr (h x)) hin (λx y=>by
    rw[show K3 [] y=[] from rfl]
    exact(Xh (h x)).trans (by simp[K3])) (λx _ hp h1 _=>hok x hp h1) x () hz.1
  cases c with
  |none=>exact⟨λp hp=>(by cases hp),hg⟩
  |some p=>
   simp only[]at hg
   cases hp:dc (p x)with
   |true=>rw[hp]at hg;exact⟨λp' h'=>by cases h';exact SM hp,hg⟩
   |false=>rw[hp]at hg;cases hg
noncomputable def dI (X:Fx)(orc:List (Ent1 P))(outer:List LE){ks:List Pk}{V:Type}{p:HP ks→Prop}{q:HP ks→V→Prop}(F:FT (HP ks) V p q)(R:V→dY)
  (hf:P.funcs[X.f]? =some X.fn)(hin:nT P X [] outer 0)(h:∀x,((Nat.beq X.r 0&&nW X outer),ri S.te (mB orc) (dg outer) X.ann X.fn (CD ks x))=(true,(F.T x).run none λv=>some (R v)):=by intro _;kernel_rfl):Ent1 P:=
 Uw S X orc outer (some p) F.f F.T R hf hin h (λx hp _=>(F.h x (hp _ rfl)).to λ_ _=>trivial) λ_=>rfl
noncomputable def JW (X:Fx)(orc:List (Ent1 P))(outer:List LE){ks:List Pk}{V:Type}{p F0:HP ks→Prop}(F:FX (HP ks) V p F0)(R:V→dY)
  (hf:P.funcs[X.f]? =some X.fn)(hin:nT P X [] outer 0)(h:∀x,((Nat.beq X.r 0&&nW X outer),ri S.te (mB orc) (dg outer) X.ann X.fn (CD ks x))=(true,(F.T x).run none λv=>some (R v)):=by intro _;kernel_rfl) (hF:F0=bC ks:=by exact rfl):Ent1 P:=
 Uw S X orc outer (some p) F.f F.T R hf hin h (λx hp h1=>F.h x (hp _ rfl) (by rw[hF];exact h1)) λ_=>rfl
noncomputable def eC {f:Nat}{fn:Func}(hf:P.funcs[f]? =some fn)(an:List (Nat×An))(orc:List (Ent1 P))(b:Nat){sh:Sh}{A' P' W:Type}(D:sh.V→LC sh A' P' W){ks:List Pk}{V:Type}{p:HP ks→Prop}{q:HP ks→V→Prop}(F:FT (HP ks) V p q)(R:V→dY)
  (l1:ww ⟨f,fn,an,0⟩ [0] b []=true:=by kernel_rfl) (l2:∀v,(D v).m (D v).i (D v).a=v:=by intro _;kernel_rfl) (l3:∀(v:sh.V) (i:Int) (a:A') (γ:Type) (next:St→Option γ) (k:Ex→St→Option γ),fN S.te (mB orc) (dg []) fn.ntmps an (de (dW fn) 0 [0]).2 b (sh.enc ((D v).m i a)) γ (Pn (JV ⟨f,fn,an,0⟩ b) next k)=((D v).ct.rd i a).run none λr=>Sum.elim (λy'=>next (sh.enc ((D v).m y'.1 y'.2))) (λw=>(D v).o (Option γ) k w) r:=by intros;kernel_rfl)
  (h:∀x,((Nat.beq 0 0&&nW ⟨f,fn,an,0⟩ [kf b sh D]),ri S.te (mB orc) (dg [kf b sh D]) an fn (CD ks x))=(true,(F.T x).run none λv=>some (R v)):=by intro _;kernel_rfl):Ent1 P:=
 dI S ⟨f,fn,an,0⟩ orc [kf b sh D] F R hf ⟨fe S (aR orc) [0] D [] trivial l1 l2 l3,trivial⟩ h
noncomputable def UN {f:Nat}{fn:Func}(hf:P.funcs[f]? =some fn)(an:List (Nat×An))(orc:List (Ent1 P))(b:Nat){sh:Sh}{A' P':Type}(D:sh.V→LW sh A' P'){ks:List Pk}{V:Type}{p:HP ks→Prop}{q:HP ks→V→Prop}(F:FT (HP ks) V p q)(R:V→dY)
  (l1:ww ⟨f,fn,an,0⟩ [0] b []=true:=by kernel_rfl) (l2:∀v,(D v).m (D v).a=v:=by intro _;kernel_rfl) (l3:∀(v:sh.V) (a:A') (γ:Type) (next:St→Option γ) (k:Ex→St→Option γ),fN S.te (mB orc) (dg []) fn.ntmps an (de (dW fn) 0 [0]).2 b (sh.enc ((D v).m a)) γ (Pn (JV ⟨f,fn,an,0⟩ b) next k)=((D v).cw.rd a).run none λr=>Sum.elim (λy'=>next (sh.enc ((D v).m y'))) (λw=>(D v).o (Option γ) k w) r:=by intros;kernel_rfl)
  (h:∀x,((Nat.beq 0 0&&nW ⟨f,fn,an,0⟩ [Uf b sh D]),ri S.te (mB orc) (dg [Uf b sh D]) an fn (CD ks x))=(true,(F.T x).run none λv=>some (R v)):=by intro _;kernel_rfl):Ent1 P:=
 dI S ⟨f,fn,an,0⟩ orc [Uf b sh D] F R hf ⟨Qu S (aR orc) [0] D [] trivial l1 l2 l3,trivial⟩ h
noncomputable def bh {f:Nat}{fn:Func}(hf:P.funcs[f]? =some fn)(orc:List (Ent1 P)){ks:List Pk}{V:Type}{p:HP ks→Prop}{q:HP ks→V→Prop}(F:FT (HP ks) V p q)(R:V→dY)
  (h:∀x,((Nat.beq 0 0&&nW ⟨f,fn,[],0⟩ []),ri S.te (mB orc) (dg []) [] fn (CD ks x))=(true,(F.T x).run none λv=>some (R v)):=by intro _;kernel_rfl):Ent1 P:=
 dI S ⟨f,fn,[],0⟩ orc [] F R hf trivial h
noncomputable def uh {f:Nat}{fn:Func}(hf:P.funcs[f]? =some fn)(orc:List (Ent1 P)){ks:List Pk}{V:Type}{p F0:HP ks→Prop}(F:FX (HP ks) V p F0)(R:V→dY)
  (h:∀x,((Nat.beq 0 0&&nW ⟨f,fn,[],0⟩ []),ri S.te (mB orc) (dg []) [] fn (CD ks x))=(true,(F.T x).run none λv=>some (R v)):=by intro _;kernel_rfl) (hF:F0=bC ks:=by exact rfl):Ent1 P:=
 JW S ⟨f,fn,[],0⟩ orc [] F R hf trivial h hF
noncomputable def gz {f:Nat}{fn:Func}(hf:P.funcs[f]? =some fn)(orc:List (Ent1 P)){ks:List Pk}{V:Type}(F:FF (HP ks) V)(R:V→dY)
  (h:∀x,((F.T x).free,(Nat.beq 0 0&&nW ⟨f,fn,[],0⟩ []),ri S.te (mB orc) (dg []) [] fn (CD ks x))=(true,true,(F.T x).run none λv=>some (R v)):=by intro _;kernel_rfl):Ent1 P:=
 Uw S ⟨f,fn,[],0⟩ orc [] none F.f F.T R hf trivial (λx=>Xh (h x)) (λx _ _=>Tr.ok_of_free _ (Xr (h x)) trivial) λ_=>rfl
noncomputable def Qh (X:Fx)(orc:List (Ent1 P))(outer:List LE){ks:List Pk}{V:Type}(F:FF (HP ks) V)(R:V→dY)(hf:P.funcs[X.f]? =some X.fn)(hin:nT P X [] outer 0)
  (h:∀x,((F.T x).free,(Nat.beq X.r 0&&nW X outer),ri S.te (mB orc) (dg outer) X.ann X.fn (CD ks x))=(true,true,(F.T x).run none λv=>some (R v)):=by intro _;kernel_rfl):Ent1 P:=
 Uw S X orc outer none F.f F.T R hf hin (λx=>Xh (h x)) (λx _ _=>Tr.ok_of_free _ (Xr (h x)) trivial) λ_=>rfl
end
def rB (v:Bool):dY:=[(false,[.c (.bool v)])]
def rI (v:Int):dY:=[(false,[.c (.int .i64 v)])]
theorem Ent1.con {P:Program}{e:Ent1 P}{f:Nat}(hf:e.f=f){A:List PV}{R:dY}(h:e.g A [] dY (λR O=>match O with|[]=>some R|_::_=>none)=some R):Bn P f A R:=by
 subst hf
 obtain⟨R',O',h1,h2⟩:=e.ok _ _ _ _ _ h
 cases O' with
 |nil=>cases h2;exact h1
 |cons _ _=>cases h2
theorem Wp {te:TE}{t:TypeId}{f:Fl}(hl:af te t=some (.sc f)){A:PV}(h:Ir te t A):∃x:f.T,A=(Pk.sc f).pv x:=by
 obtain⟨ti,xs,hl',rfl,hx,_⟩:=h
 rw[hl]at hl';cases hl'
 match xs,hx with
 |[c],hx=>obtain⟨x,rfl⟩:=hx.1;exact⟨x,rfl⟩
 |[],hx=>exact hx.elim
 |_::_::_,hx=>exact hx.2.elim
theorem VY {te:TE}{t:TypeId}{ty:Ty}{b:Nat}(hl:af te t=some (.sl ty b)){A:PV}(h:Ir te t A):∃x:List ty.T,A=(Pk.sc (.sl ty)).pv x:=by
 obtain⟨ti,xs,hl',rfl,hx,_⟩:=h
 rw[hl]at hl';cases hl'
 match xs,hx with
 |[c],hx=>obtain⟨x,rfl⟩:=hx.1;exact⟨x,rfl⟩
 |[],hx=>exact hx.elim
 |_::_::_,hx=>exact hx.2.elim
theorem rf {te:TE}{t:TypeId}{ty:Ty}{fs:List (Nat×Nat)}(hl:af te t=some (.st ty fs)){A:PV}(h:Ir te t A):∃x:ty.T,A=(Pk.st ty).pv x:=by
 obtain⟨ti,xs,hl',rfl,hx,_⟩:=h
 rw[hl]at hl';cases hl'
 obtain⟨x,rfl⟩:=H0 hx
 exact⟨x,rfl⟩
theorem Vi {P:Program}(S:Seat P){f:Nat}{fn:Func}(hf:P.funcs[f]? =some fn)(hc:nW ⟨f,fn,[],0⟩ []=true){A:List PV}{R:dY}(h:ri S.te (mB (P:=P) []) (dg []) [] fn A=some R):Bn P f A R:=
 Xu S (X:=⟨f,fn,[],0⟩) (aR []) hf hc (outer:=[]) trivial (O:=[]) (O':=[]) rfl rfl (by rw[List.map_nil,List.append_nil];exact h)
noncomputable def UO {P:Program}(f:Nat){ks:List Pk}{V:Type}{p:HP ks→Prop}{q:HP ks→V→Prop}(F:Fnc (HP ks) V p q)(R:V→dY)(h:∀x,p x→Bn P f (CD ks x) (R (F.f x))):Ent1 P where
 f:=f
 g A O _ k:=match O with|[]=>xf (Sb ks A) none λx=>GO (dc (p x)) (iq (F.f x) λv=>k (R v) []) none|_::_=>none
 ok A O γ k z hg:=by
  cases O with
  |cons _ _=>cases hg
  |nil=>
  obtain⟨x,hx,hg⟩:=iA hg
  cases hp:dc (p x)with
  |true=>
   rw[hp]at hg
   exact⟨R (F.f x),[],by rw[zy hx];exact h x (SM hp),hg⟩
  |false=>rw[hp]at hg;cases hg
end Go.Proofs.YtbkjnlihfgkkaaaGreat
