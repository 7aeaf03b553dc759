/- Contracts as an oracle; what is known of arguments. -/
import Derived.Test.YtfpdenjmlnhnnaaGreatRow2
import Derived.Test.YtfpdenjmlnhnnaaGreatLoop
set_option linter.unusedVariables false
set_option linter.unusedSimpArgs false
namespace Go.Proofs.YtfpdenjmlnhnnaaGreat
open Go Go.RowKit
structure Ent1 (P:Program) where
 f:Nat
 g:List PV→List MO→(γ:Type)→(eT→List MO→Option γ)→Option γ
 ok:∀A O (γ:Type) k (z:γ),g A O γ k=some z→∃R O',tA P f A O R O'∧k R O'=some z
def nG {P:Program}:List (Ent1 P)→Q3
 |[],_,_,_,_,_=>none
 |e::r,f,A,O,γ,k=>match Nat.beq e.f f with
  |true=>e.g A O γ k
  |false=>nG r f A O γ k
theorem aV {P:Program}:∀(L:List (Ent1 P)),xa (tA P) (nG L)
 |[],_,_,_,_,_,_,h=>by cases h
 |e::r,f,A,O,γ,k,z,h=>by
  simp only[nG]at h
  cases hb:Nat.beq e.f f with
  |true=>
   rw[hb]at h
   obtain⟨R,O',h1,h2⟩:=e.ok A O γ k z h
   rw[Nat.eq_of_beq_eq_true hb]at h1
   exact⟨R,O',h1,h2⟩
  |false=>rw[hb]at h;exact aV r f A O γ k z h
def Oz:MC→Prop
 | .c x=>FactC x
 |_=>True
def HZ:PV→Prop
 | .val _ cs=>∀c∈cs,FactC c
 | .fn _ _=>True
 | .wr _ cs=>∀c∈cs,Oz c
 | .nils=>True
 | .slx t xs=>FactC (.sl t xs)
theorem pK.fact {mo:o8}{J:Nat→Prop}{w:World}{c:MC}{v:Value}(h:pK mo J w c v):Oz c:=by
 cases c with
 |c x=>exact RepC.fact h
 |own _=>trivial
 |ptr _=>trivial
theorem pF.fact {mo:o8}{J:Nat→Prop}{w:World}{A:PV}{v:Value}(h:pF mo J w A v):HZ A:=by
 cases A with
 |fn f caps=>trivial
 |nils=>trivial
 |slx t xs=>exact RepC.fact h.1
 |wr ag cs=>
  intro c hc
  obtain⟨i,hi⟩:=List.getElem?_of_mem hc
  cases ag with
  |true=>
   obtain⟨us,rfl,hu⟩:=h
   obtain⟨u,_,hr⟩:=hu.at hi
   exact hr.1.fact
  |false=>
   obtain⟨c',rfl,hr⟩:=h
   rw[List.mem_singleton]at hc
   subst hc
   exact hr.fact
 |val ag cs=>
  intro c hc
  obtain⟨i,hi⟩:=List.getElem?_of_mem hc
  cases ag with
  |true=>
   obtain⟨us,rfl,hu⟩:=h
   obtain⟨u,_,hr⟩:=hu.at hi
   exact hr.fact
  |false=>
   obtain⟨c',rfl,hr⟩:=h
   rw[List.mem_singleton]at hc
   subst hc
   exact hr.fact
theorem II.of_facts {P:Program}{f:Nat}{A:List PV}{R:eT}(he:∀args w,(callFunc f args).run P w= .ok (.enter f args) w)(h:(∀a∈A,HZ a)→II P f A R):II P f A R:=by
 refine⟨he,λw J mo vs hJ h1 h2 h3 hg hgx hA=> ?_⟩
 refine(h λa ha=> ?_).2 w J mo vs hJ h1 h2 h3 hg hgx hA
 obtain⟨i,hi⟩:=List.getElem?_of_mem ha
 obtain⟨v,_,hr⟩:=hA.at hi
 exact hr.fact
def Nr:MO→Prop
 | .box cs=>∀c∈cs,Oz c
 | .arr t xs=>FactC (.sl t xs)
theorem jF.fact {mo:o8}{J:Nat→Prop}{w:World}{m:Option (Nat×Nat)×Nat}{o:MO}(h:jF mo J w m o):Nr o:=by
 cases o with
 |box cs=>
  obtain⟨b,_,_,h3,_⟩:=h
  intro c hc
  obtain⟨i,hi⟩:=List.getElem?_of_mem hc
  obtain⟨u,_,hu⟩:=h3 i c hi
  exact hu.fact
 |arr t xs=>
  obtain⟨_,h3⟩:=h
  rcases h3 with⟨_,h3⟩|⟨b,cap,_,_,_,h4,_,h6⟩
  ·subst h3;exact .sl t [] (by simp) (by simp)
  ·refine .sl t xs h4 λx hx c hc=> ?_
   obtain⟨i,hi⟩:=List.getElem?_of_mem hx
   obtain⟨j,hj⟩:=List.getElem?_of_mem hc
   obtain⟨u,_,hu⟩:=h6 i x j c hi hj
   exact hu.fact
theorem tA.of_facts {P:Program}{f:Nat}{A:List PV}{O O':List MO}{R:eT}(he:∀args w,(callFunc f args).run P w= .ok (.enter f args) w)(h:(∀a∈A,HZ a)→(∀o∈O,Nr o)→tA P f A O R O'):tA P f A O R O':=by
 refine⟨he,λw J mo vs hJ h1 h2 h3 hg hgx hA=> ?_⟩
 refine(h (λa ha=> ?_) λo ho=> ?_).2 w J mo vs hJ h1 h2 h3 hg hgx hA
 ·obtain⟨i,hi⟩:=List.getElem?_of_mem ha
  obtain⟨v,_,hr⟩:=hA.at hi
  exact hr.fact
 ·obtain⟨i,hi⟩:=List.getElem?_of_mem ho
  obtain⟨v,_,hr⟩:=aL.atR h1 hi
  exact hr.fact
theorem II.byNil {P:Program}{f:Nat}{t:Ty}{xs:List t.T}{R:eT}(h1:xs=[]→II P f [.nils] R)(h2:II P f [.slx t xs] R):II P f [.val false [.sl t xs]] R:=by
 refine⟨h2.1,λw J mo vs hJ hmo hinj hX hg hgx hA=> ?_⟩
 obtain⟨v,hv⟩:∃v,vs.toList=[v]∧pF mo J w (.val false [.sl t xs]) v:=by
  generalize vs.toList=l at hA
  match l,hA with
  |[v],hA=>exact⟨v,rfl,hA.1⟩
 obtain⟨hvs,c,hc,hr⟩:=hv
 cases hc
 by_cases hn:v= .slice none 0 0
 ·have hx:xs=[]:=by
   subst hn
   cases hr with
   |nil=>rfl
  exact(h1 hx).2 w J mo vs hJ hmo hinj hX hg hgx (by rw[hvs];exact⟨hn,trivial⟩)
 ·refine h2.2 w J mo vs hJ hmo hinj hX hg hgx ?_
  rw[hvs]
  refine⟨⟨hr, ?_⟩,trivial⟩
  clear hvs
  cases hr with
  |nil=>exact absurd rfl hn
  |emp _ a cap=>exact⟨a,0,cap,rfl⟩
  |sl _ _ b off cap _ _ _ _ _ _=>exact⟨_,_,_,rfl⟩
def Ty.mcs:(t:Ty)→t.T→List MC
 | .u8=>λx=>[.c (.int .u8 x)]
 | .i64=>λx=>[.c (.int .i64 x)]
 | .u64=>λx=>[.c (.int .u64 x)]
 | .bool=>λx=>[.c (.bool x)]
 | .str=>λx=>[.c (.str x)]
 | .fram=>λx=>[.c (.int .i64 x.dst),.c (.int .i64 x.src),.c (.int .i64 x.type),.c (.str x.body)]
 | .arpm=>λx=>[.c (.int .i64 x.kind),.c (.int .i64 x.srcHw),.c (.int .i64 x.srcIp),.c (.int .i64 x.dstHw),.c (.int .i64 x.dstIp)]
 | .pack=>λx=>[.c (.int .i64 x.src),.c (.int .i64 x.dst),.c (.int .i64 x.ttl),.c (.int .i64 x.proto),.c (.int .i64 x.id),.c (.str x.body)]
 | .opti=>λx=>[.c (.int .i64 x.mss),.c (.int .i64 x.scale),.c (.bool x.sack),.c (.bool x.stamp),.c (.int .i64 x.val),.c (.int .i64 x.echo)]
 | .segm=>λx=>[.c (.int .i64 x.from_),.c (.int .i64 x.to),.c (.int .i64 x.seq),.c (.int .i64 x.ack),.c (.int .i64 x.flags),.c (.int .i64 x.window),.c (.int .i64 x.opts.mss),.c (.int .i64 x.opts.scale),.c (.bool x.opts.sack),.c (.bool x.opts.stamp),.c (.int .i64 x.opts.val),.c (.int .i64 x.opts.echo),.c (.str x.body)]
 | .sipr=>λx=>[.c (.int .u64 x.a),.c (.int .u64 x.b),.c (.int .u64 x.c),.c (.int .u64 x.d)]
 | .macRow=>λx=>[.c (.str x.input),.c (.int .i64 x.value)]
 | .mac=>λx=>[.c (.bool x.use),.c (.int .u64 x.k),.c (.int .u64 x.l),.c (.sl .macRow x.rows)]
 | .tupl=>λx=>[.c (.int .i64 x.ip),.c (.int .i64 x.port),.c (.int .i64 x.my)]
 | .keys=>λx=>[.c (.int .i64 x.epoch),.c (.bool x.now.use),.c (.int .u64 x.now.k),.c (.int .u64 x.now.l),.c (.sl .macRow x.now.rows),.c (.bool x.before.use),.c (.int .u64 x.before.k),.c (.int .u64 x.before.l),.c (.sl .macRow x.before.rows),.c (.bool x.two)]
 | .entr=>λx=>[.c (.int .i64 x.ip),.c (.int .i64 x.hw),.c (.int .i64 x.age)]
 | .link=>λx=>[.c (.int .i64 x.mac),.c (.int .i64 x.ip),.c (.sl .entr x.cache)]
 | .sndr=>λx=>[.c (.int .i64 x.una),.c (.str x.data),.c (.int .i64 x.sent),.c (.bool x.fin),.c (.bool x.finSent),.c (.bool x.done)]
 | .chun=>λx=>[.c (.int .i64 x.seq),.c (.str x.text),.c (.bool x.fin)]
 | .piec=>λx=>[.c (.int .i64 x.off),.c (.str x.text)]
 | .recv=>λx=>[.c (.int .i64 x.next),.c (.str x.data),.c (.sl .piec x.held),.c (.int .i64 x.fin),.c (.bool x.done)]
 | .conn=>λx=>[.c (.int .i64 x.tuple.ip),.c (.int .i64 x.tuple.port),.c (.int .i64 x.tuple.my),.c (.int .i64 x.state),.c (.int .i64 x.s.una),.c (.str x.s.data),.c (.int .i64 x.s.sent),.c (.bool x.s.fin),.c (.bool x.s.finSent),.c (.bool x.s.done),.c (.int .i64 x.r.next),.c (.str x.r.data),.c (.sl .piec x.r.held),.c (.int .i64 x.r.fin),.c (.bool x.r.done),.c (.int .i64 x.window),.c (.int .i64 x.most),.c (.int .i64 x.opts.mss),.c (.int .i64 x.opts.scale),.c (.bool x.opts.sack),.c (.bool x.opts.stamp),.c (.int .i64 x.opts.val),.c (.int .i64 x.opts.echo),.c (.int .i64 x.timer),.c (.int .i64 x.tries)]
 | .half=>λx=>[.c (.int .i64 x.tuple.ip),.c (.int .i64 x.tuple.port),.c (.int .i64 x.tuple.my),.c (.int .i64 x.iss),.c (.int .i64 x.irs),.c (.int .i64 x.opts.mss),.c (.int .i64 x.opts.scale),.c (.bool x.opts.sack),.c (.bool x.opts.stamp),.c (.int .i64 x.opts.val),.c (.int .i64 x.opts.echo),.c (.int .i64 x.age),.c (.int .i64 x.window)]
 | .limi=>λx=>[.c (.int .i64 x.halves),.c (.int .i64 x.waiting),.c (.int .i64 x.conns),.c (.int .i64 x.chal)]
 | .tabl=>λx=>[.c (.sl .conn x.conns),.c (.sl .tupl x.waiting)]
 | .door=>λx=>[.c (.int .i64 x.port),.c (.int .i64 x.clock),.c (.int .i64 x.keys.epoch),.c (.bool x.keys.now.use),.c (.int .u64 x.keys.now.k),.c (.int .u64 x.keys.now.l),.c (.sl .macRow x.keys.now.rows),.c (.bool x.keys.before.use),.c (.int .u64 x.keys.before.k),.c (.int .u64 x.keys.before.l),.c (.sl .macRow x.keys.before.rows),.c (.bool x.keys.two),.c (.int .i64 x.limits.halves),.c (.int .i64 x.limits.waiting),.c (.int .i64 x.limits.conns),.c (.int .i64 x.limits.chal),.c (.sl .half x.halves),.c (.sl .conn x.table.conns),.c (.sl .tupl x.table.waiting),.c (.int .i64 x.chal)]
 | .stac=>λx=>[.c (.int .i64 x.link.mac),.c (.int .i64 x.link.ip),.c (.sl .entr x.link.cache),.c (.int .i64 x.door.port),.c (.int .i64 x.door.clock),.c (.int .i64 x.door.keys.epoch),.c (.bool x.door.keys.now.use),.c (.int .u64 x.door.keys.now.k),.c (.int .u64 x.door.keys.now.l),.c (.sl .macRow x.door.keys.now.rows),.c (.bool x.door.keys.before.use),.c (.int .u64 x.door.keys.before.k),.c (.int .u64 x.door.keys.before.l),.c (.sl .macRow x.door.keys.before.rows),.c (.bool x.door.keys.two),.c (.int .i64 x.door.limits.halves),.c (.int .i64 x.door.limits.waiting),.c (.int .i64 x.door.limits.conns),.c (.int .i64 x.door.limits.chal),.c (.sl .half x.door.halves),.c (.sl .conn x.door.table.conns),.c (.sl .tupl x.door.table.waiting),.c (.int .i64 x.door.chal)]
 | .acti=>λx=>[.c (.int .i64 x.kind),.c (.int .i64 x.tuple.ip),.c (.int .i64 x.tuple.port),.c (.int .i64 x.tuple.my),.c (.int .i64 x.n),.c (.str x.text),.c (.bool x.mac.use),.c (.int .u64 x.mac.k),.c (.int .u64 x.mac.l),.c (.sl .macRow x.mac.rows)]
 | .resu=>λx=>[.c (.sl .str x.frames),.c (.int .i64 x.made),.c (.int .i64 x.tuple.ip),.c (.int .i64 x.tuple.port),.c (.int .i64 x.tuple.my),.c (.int .i64 x.n),.c (.str x.text),.c (.bool x.ok)]
 | .issu=>λx=>[.c (.int .i64 x.tuple.ip),.c (.int .i64 x.tuple.port),.c (.int .i64 x.tuple.my),.c (.int .i64 x.seq),.c (.int .i64 x.cookie)]
 | .clie=>λx=>[.c (.int .i64 x.tuple.ip),.c (.int .i64 x.tuple.port),.c (.int .i64 x.tuple.my),.c (.int .i64 x.isn),.c (.int .i64 x.opts.mss),.c (.int .i64 x.opts.scale),.c (.bool x.opts.sack),.c (.bool x.opts.stamp),.c (.int .i64 x.opts.val),.c (.int .i64 x.opts.echo),.c (.int .i64 x.window)]
 | .mail=>λx=>[.c (.int .i64 x.ip),.c (.int .i64 x.g.from_),.c (.int .i64 x.g.to),.c (.int .i64 x.g.seq),.c (.int .i64 x.g.ack),.c (.int .i64 x.g.flags),.c (.int .i64 x.g.window),.c (.int .i64 x.g.opts.mss),.c (.int .i64 x.g.opts.scale),.c (.bool x.g.opts.sack),.c (.bool x.g.opts.stamp),.c (.int .i64 x.g.opts.val),.c (.int .i64 x.g.opts.echo),.c (.str x.g.body)]
 | .curs=>λx=>[.c (.sl .u8 x.b),.c (.int .i64 x.i),.c (.int .i64 x.h)]
theorem Ty.mcs_cells:∀(t:Ty) (x:t.T),t.mcs x=(t.cells x).map .c:=by intro t x;cases t<;>rfl
def Wz:List MC→Option (List Cell)
 |[]=>some []
 | .c x::r=>match Wz r with
  |some l=>some (x::l)
  |none=>none
 |_::_=>none
theorem MR:∀{cs:List MC} {l:List Cell},Wz cs=some l→l.map .c=cs
 |[],_,h=>by cases h;rfl
 | .c x::r,l,h=>by
  simp only[Wz]at h
  split at h
  ·rename_i l' hl
   cases h
   simp only[List.map_cons,MR hl]
  ·cases h
 | .own _::_,_,h=>by cases h
 | .ptr _::_,_,h=>by cases h
inductive WP where
 |c (f:Fl)|own (k:Nat)|ptr (k:Nat)|st (t:Ty)
@[reducible] def HW:List WP→Type
 |[]=>Unit
 | .c f::r=>f.T×HW r
 | .own _::r=>HW r
 | .ptr _::r=>HW r
 | .st t::r=>t.T×HW r
def WG:(ps:List WP)→HW ps→List MC
 |[],_=>[]
 | .c f::r,x=> .c (f.cell x.1)::WG r x.2
 | .own k::r,x=> .own k::WG r x
 | .ptr k::r,x=> .ptr k::WG r x
 | .st t::r,x=>t.mcs x.1++WG r x.2
def GT:(ps:List WP)→List MC→Option (HW ps)
 |[],[]=>some ()
 | .c f::r,.c x::cs=>match f.get x,GT r cs with
  |some y,some ys=>some (y,ys)
  |_,_=>none
 | .own k::r,.own k'::cs=>match Nat.beq k k' with|true=>GT r cs|false=>none
 | .ptr k::r,.ptr k'::cs=>match Nat.beq k k' with|true=>GT r cs|false=>none
 | .st t::r,cs=>match Wz (cs.take t.size),GT r (cs.drop t.size)with
  |some l,some ys=>match t.get l with
   |some y=>some (y,ys)
   |none=>none
  |_,_=>none
 |_,_=>none
theorem rj:∀{ps:List WP} {cs:List MC} {x:HW ps},GT ps cs=some x→WG ps x=cs
 |[],[],_,_=>rfl
 | .c f::r,.c y::cs,x,h=>by
  simp only[GT]at h
  split at h
  ·rename_i a b ha hb
   cases h
   simp only[WG,Fl.get_cell ha,rj hb]
  ·cases h
 | .own k::r,.own k'::cs,x,h=>by
  simp only[GT]at h
  split at h
  ·rename_i e
   rw[←Nat.eq_of_beq_eq_true e]
   simp only[WG,rj h]
  ·cases h
 | .ptr k::r,.ptr k'::cs,x,h=>by
  simp only[GT]at h
  split at h
  ·rename_i e
   rw[←Nat.eq_of_beq_eq_true e]
   simp only[WG,rj h]
  ·cases h
 | .st t::r,cs,x,h=>by
  simp only[GT]at h
  split at h
  ·rename_i l ys hl hys
   split at h
   ·rename_i y hy
    cases h
    simp only[WG,Ty.mcs_cells,Ty.get_cells hy,MR hl,rj hys,List.take_append_drop]
   ·cases h
  ·cases h
 |[],_::_,_,h=>by cases h
 | .c _::_,[],_,h=>by cases h
 | .own _::_,[],_,h=>by cases h
 | .ptr _::_,[],_,h=>by cases h
 | .c _::_,.own _::_,_,h=>by cases h
 | .c _::_,.ptr _::_,_,h=>by cases h
 | .own _::_,.c _::_,_,h=>by cases h
 | .own _::_,.ptr _::_,_,h=>by cases h
 | .ptr _::_,.c _::_,_,h=>by cases h
 | .ptr _::_,.own _::_,_,h=>by cases h
inductive Pk where
 |sc (f:Fl)|st (t:Ty)|fn (f:Nat)(ks:List Nat)|wr (agg:Bool)(ps:List WP)
@[reducible] def Pk.T:Pk→Type
 | .sc f=>f.T
 | .st t=>t.T
 | .fn _ _=>Unit
 | .wr _ ps=>HW ps
def Pk.pv:(k:Pk)→k.T→PV
 | .sc f,x=> .val false [f.cell x]
 | .st t,x=> .val true (t.cells x)
 | .fn f ks,_=> .fn f ks
 | .wr ag ps,x=> .wr ag (WG ps x)
def Pk.get:(k:Pk)→PV→Option k.T
 | .sc f,.val false [c]=>f.get c
 | .st t,.val true cs=>t.get cs
 | .fn f ks,.fn f' ds=>match Nat.beq f f'&&Xg ks ds with|true=>some ()|false=>none
 | .wr true ps,.wr true cs=>GT ps cs
 | .wr false ps,.wr false cs=>GT ps cs
 |_,_=>none
theorem Pk.get_pv {k:Pk}{a:PV}{x:k.T}(h:k.get a=some x):a=k.pv x:=by
 unfold Pk.get at h
 split at h
 ·rename_i f c;simp only[Pk.pv,Fl.get_cell h]
 ·rename_i t cs;simp only[Pk.pv,Ty.get_cells h]
 ·split at h
  ·rename_i e
   simp only[Bool.and_eq_true]at e
   cases Nat.eq_of_beq_eq_true e.1
   cases Hh e.2
   rfl
  ·cases h
 ·simp only[Pk.pv,rj h]
 ·simp only[Pk.pv,rj h]
 ·cases h
@[reducible] def HP:List Pk→Type
 |[]=>Unit
 |k::r=>k.T×HP r
def Hr:(ks:List Pk)→HP ks→List PV
 |[],_=>[]
 |k::r,x=>k.pv x.1::Hr r x.2
def XT:(ks:List Pk)→List PV→Option (HP ks)
 |[],[]=>some ()
 |k::r,a::s=>match k.get a,XT r s with
  |some x,some y=>some (x,y)
  |_,_=>none
 |_,_=>none
theorem CQ:∀{ks:List Pk} {A:List PV} {x:HP ks},XT ks A=some x→A=Hr ks x
 |[],[],_,_=>rfl
 |k::r,a::s,x,h=>by
  simp only[XT]at h
  split at h
  ·rename_i y z hy hz
   cases h
   simp only[Hr,←Pk.get_pv hy,←CQ hz]
  ·cases h
 |[],_::_,_,h=>by cases h
 |_::_,[],_,h=>by cases h
inductive Mk where
 |arr (t:Ty)|box (ps:List WP)
@[reducible] def Mk.T:Mk→Type
 | .arr t=>List t.T
 | .box ps=>HW ps
def Mk.mo:(k:Mk)→k.T→MO
 | .arr t,xs=> .arr t xs
 | .box ps,x=> .box (WG ps x)
def Mk.get:(k:Mk)→MO→Option k.T
 | .arr t,.arr t' xs=>if h:t'=t then some (h▸xs)else none
 | .box ps,.box cs=>GT ps cs
 |_,_=>none
theorem Mk.get_mo {k:Mk}{o:MO}{x:k.T}(h:k.get o=some x):o=k.mo x:=by
 cases k with
 |arr t=>
  cases o with
  |box _=>cases h
  |arr t' xs=>
   simp only[Mk.get]at h
   split at h
   ·rename_i e
    subst e
    cases h
    rfl
   ·cases h
 |box fs=>
  cases o with
  |arr _ _=>cases h
  |box cs=>simp only[Mk.get]at h;simp only[Mk.mo,rj h]
@[reducible] def HM:List Mk→Type
 |[]=>Unit
 |k::r=>k.T×HM r
def PY:(ks:List Mk)→HM ks→List MO
 |[],_=>[]
 |k::r,x=>k.mo x.1::PY r x.2
def ab7:(ks:List Mk)→List MO→Option (HM ks)
 |[],[]=>some ()
 |k::r,a::s=>match k.get a,ab7 r s with
  |some x,some y=>some (x,y)
  |_,_=>none
 |_,_=>none
theorem Ra:∀{ks:List Mk} {O:List MO} {x:HM ks},ab7 ks O=some x→O=PY ks x
 |[],[],_,_=>rfl
 |k::r,a::s,x,h=>by
  simp only[ab7]at h
  split at h
  ·rename_i y z hy hz
   cases h
   simp only[PY,←Mk.get_mo hy,←Ra hz]
  ·cases h
 |[],_::_,_,h=>by cases h
 |_::_,[],_,h=>by cases h
inductive Ow where
 |c|o (deep:Bool)
def aeB:Ow→Cell→RC
 | .o d,.sl t xs=> .own d t xs
 |_,x=> .c x
def pN:List Ow→List Cell→List RC
 |[],cs=>cs.map .c
 |_::_,[]=>[]
 |o::r,x::cs=>aeB o x::pN r cs
def rv (k:Pk)(ow:List Ow)(x:k.T):Bool×List RC:=
 match k.pv x with
 | .val ag cs=>(ag,pN ow cs)
 |_=>(false,[])
def sc:Ow→(t:Ty)→List t.T→RC
 | .o d,t,xs=> .own d t xs
 | .c,t,xs=> .c (.sl t xs)
theorem FactC.len {t:Ty}{xs:List t.T}(h:FactC (.sl t xs)):xs.length≤140737488355328:=by cases h with|sl _ _ h _=>exact h
theorem FactC.slen {s:ae}(h:FactC (.str s)):s.length≤4611686018427387904:=by cases h with|str _ h=>exact h
theorem FactC.rng {k:IntKind}{n:Int}(h:FactC (.int k n)):Hi k n:=by cases h with|int _ _ h=>exact h
theorem FactC.elem {t:Ty}{xs:List t.T}(h:FactC (.sl t xs)){x:t.T}(hx:x∈xs):∀c∈t.cells x,FactC c:=by cases h with|sl _ _ _ hc=>exact hc x hx
theorem aj {m:Int}(h0: -9223372036854775808≤m)(h1:m≤9223372036854775807):IntKind.i64.wrap m=m:=by
 unfold IntKind.wrap
 simp only[IntKind.signed,IntKind.bits]
 simp
 omega
def iE (s:ae):List Int:=s.map λc=>(c.toNat:Int)
def aF (xs:List Int):ae:=List.map (λn:Int=>UInt8.ofNat n.toNat) xs
def ah (s:ae)(i:Nat):Int:=((s.getD i 0).toNat:Int)
def PH (t:Ty)(xs:List t.T):Prop:=∀y∈xs,∀c∈t.cells y,FactC c
def Fl.fact:(f:Fl)→f.T→Prop
 | .int .i64,n=> -9223372036854775808≤(n:Int)∧(n:Int)≤9223372036854775807
 | .int .u64,n=>0≤(n:Int)∧(n:Int)≤18446744073709551615
 | .int .u8,n=>0≤(n:Int)∧(n:Int)≤255
 | .int .i32,n=>Hi .i32 n| .int .u32,n=>Hi .u32 n| .int .i16,n=>Hi .i16 n| .int .u16,n=>Hi .u16 n| .int .i8,n=>Hi .i8 n
 | .bool,_=>True
 | .str,s=>List.length s≤4611686018427387904
 | .sl t,xs=>List.length xs≤140737488355328∧PH t xs
theorem Fl.fact_of {f:Fl}{x:f.T}(h:FactC (f.cell x)):f.fact x:=by
 cases f with
 |int k=>
  have h:=h.rng
  cases k with
  |i64=>exact⟨h.1,h.2⟩
  |u64=>exact⟨h.1,h.2⟩
  |u8=>exact⟨h.1,h.2⟩
  |i32=>exact h
  |u32=>exact h
  |i16=>exact h
  |u16=>exact h
  |i8=>exact h
 |bool=>trivial
 |str=>exact h.slen
 |sl t=>exact⟨h.len,λy hy=>h.elem hy⟩
def jt:(fs:List Fl)→HL fs→Prop
 |[],_=>True
 |f::fs,x=>f.fact x.1∧jt fs x.2
theorem JT:∀{fs:List Fl} {x:HL fs},(∀c∈fW fs x,FactC c)→jt fs x
 |[],_,_=>trivial
 |f::fs,x,h=>⟨Fl.fact_of (h _ List.mem_cons_self),JT λc hc=>h c (List.mem_cons_of_mem _ hc)⟩
def hY:(ps:List WP)→HW ps→Prop
 |[],_=>True
 | .c f::r,x=>f.fact x.1∧hY r x.2
 | .own _::r,x=>hY r x
 | .ptr _::r,x=>hY r x
 | .st t::r,x=>jt t.fl (t.toH x.1)∧hY r x.2
theorem ut:∀{ps:List WP} {x:HW ps},(∀c∈WG ps x,Oz c)→hY ps x
 |[],_,_=>trivial
 | .c f::r,x,h=>⟨Fl.fact_of (h _ List.mem_cons_self),ut λc hc=>h c (List.mem_cons_of_mem _ hc)⟩
 | .own _::r,x,h=>ut (ps:=r) λc hc=>h c (List.mem_cons_of_mem _ hc)
 | .ptr _::r,x,h=>ut (ps:=r) λc hc=>h c (List.mem_cons_of_mem _ hc)
 | .st t::r,x,h=>⟨JT λc hc=>h (.c c) (by
   simp only[WG,Ty.mcs_cells]
   exact List.mem_append_left _ (List.mem_map.2 ⟨c,hc,rfl⟩)),ut λc hc=>h c (by
   simp only[WG]
   exact List.mem_append_right _ hc)⟩
def Pk.fact:(k:Pk)→k.T→Prop
 | .sc f,x=>f.fact x
 | .st t,x=>jt t.fl (t.toH x)
 | .fn _ _,_=>True
 | .wr _ ps,x=>hY ps x
theorem Pk.fact_of {k:Pk}{x:k.T}(h:HZ (k.pv x)):k.fact x:=by
 cases k with
 |sc f=>exact Fl.fact_of (h _ List.mem_cons_self)
 |st t=>exact JT h
 |fn _ _=>trivial
 |wr ag ps=>exact ut h
def cJ:(ks:List Pk)→HP ks→Prop
 |[],_=>True
 |k::r,x=>k.fact x.1∧cJ r x.2
theorem JK:∀{ks:List Pk} {x:HP ks},(∀a∈Hr ks x,HZ a)→cJ ks x
 |[],_,_=>trivial
 |k::r,x,h=>⟨Pk.fact_of (h _ List.mem_cons_self),JK λc hc=>h c (List.mem_cons_of_mem _ hc)⟩
def Mk.fact:(k:Mk)→k.T→Prop
 | .arr t,xs=>List.length xs≤140737488355328∧PH t xs
 | .box ps,x=>hY ps x
def Sx:(ms:List Mk)→HM ms→Prop
 |[],_=>True
 |k::r,x=>k.fact x.1∧Sx r x.2
theorem Mk.fact_of {k:Mk}{x:k.T}(h:Nr (k.mo x)):k.fact x:=by
 cases k with
 |arr t=>exact⟨FactC.len h,λy hy=>FactC.elem h hy⟩
 |box ps=>exact ut h
theorem Ri:∀{ms:List Mk} {y:HM ms},(∀o∈PY ms y,Nr o)→Sx ms y
 |[],_,_=>trivial
 |k::r,x,h=>⟨Mk.fact_of (h _ List.mem_cons_self),Ri λc hc=>h c (List.mem_cons_of_mem _ hc)⟩
theorem vk:∀(ms:List Mk) (y:HM ms),(PY ms y).length=ms.length
 |[],_=>rfl
 |_::r,y=>by simp[PY,vk r]
theorem XX {P:Program}{X:Fx}(hf:P.funcs[X.f]? =some X.fn){outer:List LE}(hc:oX X outer=true):∀args w,(callFunc X.f args).run P w= .ok (.enter X.f args) w:=by
 simp only[oX,Bool.and_eq_true,Bool.not_eq_true']at hc
 obtain⟨⟨⟨⟨h1,h2⟩,h3⟩,h4⟩,h5⟩:=hc
 obtain⟨c,hb⟩:=Option.isSome_iff_exists.1 h5
 exact EP hf hb h4
theorem RE {P:Program}(S:Seat P)(X:Fx)(orc:List (Ent1 P))(outer:List LE)(ks:List Pk)(ms:List Mk){V:Type}(p:HP ks→HM ms→Prop)(T:HP ks→HM ms→Tr V)(R:V→eT)(O':HP ks→HM ms→V→HM ms)
  (hf:P.funcs[X.f]? =some X.fn)(hc:(Nat.beq X.r ms.length&&oX X outer)=true)(hin:pg P X [] outer 0)
  (hlk:∀x y,vL S.te (nG orc) (dF outer) X.ann X.fn (Hr ks x) (PY ms y)=(T x y).run none λv=>some (R v++(PY ms (O' x y v)).map xm))
  (hok:∀x y,p x y→cJ ks x→Sx ms y→(T x y).ok)(x:HP ks)(y:HM ms)(hp:p x y):tA P X.f (Hr ks x) (PY ms y) (R (T x y).nice) (PY ms (O' x y (T x y).nice)):=by
 rw[Bool.and_eq_true]at hc
 refine tA.of_facts (XX hf hc.2) λh1 h2=> ?_
 refine fnS S (aV orc) hf hc.2 hin (by rw[vk,Nat.eq_of_beq_eq_true hc.1]) (by rw[vk,vk]) ?_
 rw[hlk,Tr.run_okQ _ (hok x y hp (JK h1) (Ri h2))]
theorem pr1 {α β:Type}{a a':α}{b b':β}(h:(a,b)=(a',b')):a=a':=by cases h;rfl
theorem pr2 {α β:Type}{a a':α}{b b':β}(h:(a,b)=(a',b')):b=b':=by cases h;rfl
structure FX (A R:Type)(p F:A→Prop) where
 T:A→Tr R
 h:∀a,p a→F a→(T a).ok
def FX.f {A R:Type}{p F:A→Prop}(X:FX A R p F)(a:A):R:=(X.T a).nice
@[reducible] def FX.c {A R:Type} {p F:A→Prop} (X:FX A R p F):Fnc A R p (λ_ _=>True):=⟨X.f,λ_ _=>trivial⟩
@[reducible] def aeQ {A:Type} (ks:List Pk) (ms:List Mk) (cv:HP ks→HM ms→A) (a:A):Prop:=∃x y,a=cv x y∧cJ ks x∧Sx ms y
section
variable {P:Program} (S:Seat P)
noncomputable def aeD (X:Fx)(orc:List (Ent1 P))(outer:List LE)(ks:List Pk)(ms:List Mk){A V:Type}(cv:HP ks→HM ms→A)(p:A→Prop)(f:A→V)(T:A→Tr V)(R:V→eT)(O':HP ks→HM ms→V→HM ms)
  (hf:P.funcs[X.f]? =some X.fn)(hc:(Nat.beq X.r ms.length&&oX X outer)=true)(hin:pg P X [] outer 0)
  (hlk:∀x y,vL S.te (nG orc) (dF outer) X.ann X.fn (Hr ks x) (PY ms y)=(T (cv x y)).run none λv=>some (R v++(PY ms (O' x y v)).map xm))
  (hok:∀x y,p (cv x y)→cJ ks x→Sx ms y→(T (cv x y)).ok)(hv:∀a,f a=(T a).nice):Ent1 P where
 f:=X.f
 g A O _ k:=Aj (XT ks A) none λx=>Aj (ab7 ms O) none λy=>Ot (dc (p (cv x y))) (ko (f (cv x y)) λv=>k (R v) (PY ms (O' x y v))) none
 ok A O γ k z hg:=by
  obtain⟨x,hx,hg⟩:=i4 hg
  obtain⟨y,hy,hg⟩:=i4 hg
  cases hp:dc (p (cv x y))with
  |true=>
   rw[hp,hv]at hg
   exact⟨R (T (cv x y)).nice,PY ms (O' x y (T (cv x y)).nice),by rw[CQ hx,Ra hy];exact RE S X orc outer ks ms (λx y=>p (cv x y)) (λx y=>T (cv x y)) R O' hf hc hin hlk hok x y (Zt hp),hg⟩
  |false=>rw[hp]at hg;cases hg
noncomputable def uL (X:Fx)(orc:List (Ent1 P))(outer:List LE)(ks:List Pk)(ms:List Mk){A V:Type}(cv:HP ks→HM ms→A){p:A→Prop}{q:A→V→Prop}(F:FT A V p q)(R:V→eT)(O':HP ks→HM ms→V→HM ms)
  (hf:P.funcs[X.f]? =some X.fn)(hc:(Nat.beq X.r ms.length&&oX X outer)=true)(hin:pg P X [] outer 0)
  (hlk:∀x y,vL S.te (nG orc) (dF outer) X.ann X.fn (Hr ks x) (PY ms y)=(F.T (cv x y)).run none λv=>some (R v++(PY ms (O' x y v)).map xm):=by intro _ _;kernel_rfl):Ent1 P:=
 aeD S X orc outer ks ms cv p F.f F.T R O' hf hc hin hlk (λx y hp _ _=>(F.h _ hp).to λ_ _=>trivial) λ_=>rfl
noncomputable def abz (X:Fx)(orc:List (Ent1 P))(outer:List LE){ks:List Pk}{V:Type}(c:Option (HP ks→Prop))(f:HP ks→V)(T:HP ks→Tr V)(R:V→eT)
  (hf:P.funcs[X.f]? =some X.fn)(hin:pg P X [] outer 0)(h:∀x,((Nat.beq X.r 0&&oX X outer),tw S.te (nG orc) (dF outer) X.ann X.fn (Hr ks x))=(true,(T x).run none λv=>some (R v)))
  (hok:∀x,(∀p,c=some p→p x)→cJ ks x→(T x).ok)(hv:∀x,f x=(T x).nice):Ent1 P where
 f:=X.f
 g A O _ k:=match O with|[]=>Aj (XT ks A) none λx=>(match c with|some p=>Ot (dc (p x)) (ko (f x) λv=>k (R v) []) none|none=>ko (f x) λv=>k (R v) [])|_::_=>none
 ok A O γ k z hg:=by
  cases O with
  |cons _ _=>cases hg
  |nil=>
  obtain⟨x,hx,hg⟩:=i4 hg
  suffices hz:(∀p,c=some p→p x)∧k (R (f x)) []=some z by
   refine⟨R (T x).nice,[], ?_,by rw[←hv];exact hz.2⟩
   rw[CQ hx]
   exact RE S X orc outer ks [] (λx _=>∀p,c=some p→p x) (λx _=>T x) R (λ_ _ _=>()) hf (pr1 (h x)) hin (λx y=>by
    rw[show PY [] y=[] from rfl]
    exact(pr2 (h x)).trans (by simp[PY])) (λx _ hp h1 _=>hok x hp h1) x () hz.1
  cases c with
  |none=>exact⟨λp hp=>(by cases hp),hg⟩
  |some p=>
   simp only[]at hg
   cases hp:dc (p x)with
   |true=>rw[hp]at hg;exact⟨λp' h'=>by cases h';exact Zt hp,hg⟩
   |false=>rw[hp]at hg;cases hg
noncomputable def bK (X:Fx)(orc:List (Ent1 P))(outer:List LE){ks:List Pk}{V:Type}{p:HP ks→Prop}{q:HP ks→V→Prop}(F:FT (HP ks) V p q)(R:V→eT)
  (hf:P.funcs[X.f]? =some X.fn)(hin:pg P X [] outer 0)(h:∀x,((Nat.beq X.r 0&&oX X outer),tw S.te (nG orc) (dF outer) X.ann X.fn (Hr ks x))=(true,(F.T x).run none λv=>some (R v)):=by intro _;kernel_rfl):Ent1 P:=
 abz S X orc outer (some p) F.f F.T R hf hin h (λx hp _=>(F.h x (hp _ rfl)).to λ_ _=>trivial) λ_=>rfl
noncomputable def Y5 (X:Fx)(orc:List (Ent1 P))(outer:List LE){ks:List Pk}{V:Type}{p F0:HP ks→Prop}(F:FX (HP ks) V p F0)(R:V→eT)
  (hf:P.funcs[X.f]? =some X.fn)(hin:pg P X [] outer 0)(h:∀x,((Nat.beq X.r 0&&oX X outer),tw S.te (nG orc) (dF outer) X.ann X.fn (Hr ks x))=(true,(F.T x).run none λv=>some (R v)):=by intro _;kernel_rfl) (hF:F0=cJ ks:=by exact rfl):Ent1 P:=
 abz S X orc outer (some p) F.f F.T R hf hin h (λx hp h1=>F.h x (hp _ rfl) (by rw[hF];exact h1)) λ_=>rfl
noncomputable def dV {f:Nat}{fn:Func}(hf:P.funcs[f]? =some fn)(an:List (Nat×An))(orc:List (Ent1 P))(b:Nat){sh:Sh}{A' P' W:Type}(D:sh.V→LC sh A' P' W){ks:List Pk}{V:Type}{p:HP ks→Prop}{q:HP ks→V→Prop}(F:FT (HP ks) V p q)(R:V→eT)
  (l1:y7 ⟨f,fn,an,0⟩ [0] b []=true:=by kernel_rfl) (l2:∀v,(D v).m (D v).i (D v).a=v:=by intro _;kernel_rfl) (l3:∀(v:sh.V) (i:Int) (a:A') (γ:Type) (next:St→Option γ) (k:Ex→St→Option γ),gn S.te (nG orc) (dF []) fn.ntmps an (dE (eK fn) 0 [0]).2 b (sh.enc ((D v).m i a)) γ (VW (NW ⟨f,fn,an,0⟩ b) next k)=((D v).ct.rd i a).run none λr=>Sum.elim (λy'=>next (sh.enc ((D v).m y'.1 y'.2))) (λw=>(D v).o (Option γ) k w) r:=by intros;kernel_rfl)
  (h:∀x,((Nat.beq 0 0&&oX ⟨f,fn,an,0⟩ [j8 b sh D]),tw S.te (nG orc) (dF [j8 b sh D]) an fn (Hr ks x))=(true,(F.T x).run none λv=>some (R v)):=by intro _;kernel_rfl):Ent1 P:=
 bK S ⟨f,fn,an,0⟩ orc [j8 b sh D] F R hf ⟨eU S (aV orc) [0] D [] trivial l1 l2 l3,trivial⟩ h
noncomputable def N9 {f:Nat}{fn:Func}(hf:P.funcs[f]? =some fn)(an:List (Nat×An))(orc:List (Ent1 P))(b:Nat){sh:Sh}{A' P':Type}(D:sh.V→LW sh A' P'){ks:List Pk}{V:Type}{p:HP ks→Prop}{q:HP ks→V→Prop}(F:FT (HP ks) V p q)(R:V→eT)
  (l1:y7 ⟨f,fn,an,0⟩ [0] b []=true:=by kernel_rfl) (l2:∀v,(D v).m (D v).a=v:=by intro _;kernel_rfl) (l3:∀(v:sh.V) (a:A') (γ:Type) (next:St→Option γ) (k:Ex→St→Option γ),gn S.te (nG orc) (dF []) fn.ntmps an (dE (eK fn) 0 [0]).2 b (sh.enc ((D v).m a)) γ (VW (NW ⟨f,fn,an,0⟩ b) next k)=((D v).cw.rd a).run none λr=>Sum.elim (λy'=>next (sh.enc ((D v).m y'))) (λw=>(D v).o (Option γ) k w) r:=by intros;kernel_rfl)
  (h:∀x,((Nat.beq 0 0&&oX ⟨f,fn,an,0⟩ [leW b sh D]),tw S.te (nG orc) (dF [leW b sh D]) an fn (Hr ks x))=(true,(F.T x).run none λv=>some (R v)):=by intro _;kernel_rfl):Ent1 P:=
 bK S ⟨f,fn,an,0⟩ orc [leW b sh D] F R hf ⟨Wr S (aV orc) [0] D [] trivial l1 l2 l3,trivial⟩ h
noncomputable def aN {f:Nat}{fn:Func}(hf:P.funcs[f]? =some fn)(orc:List (Ent1 P)){ks:List Pk}{V:Type}{p:HP ks→Prop}{q:HP ks→V→Prop}(F:FT (HP ks) V p q)(R:V→eT)
  (h:∀x,((Nat.beq 0 0&&oX ⟨f,fn,[],0⟩ []),tw S.te (nG orc) (dF []) [] fn (Hr ks x))=(true,(F.T x).run none λv=>some (R v)):=by intro _;kernel_rfl):Ent1 P:=
 bK S ⟨f,fn,[],0⟩ orc [] F R hf trivial h
noncomputable def rF {f:Nat}{fn:Func}(hf:P.funcs[f]? =some fn)(orc:List (Ent1 P)){ks:List Pk}{V:Type}{p F0:HP ks→Prop}(F:FX (HP ks) V p F0)(R:V→eT)
  (h:∀x,((Nat.beq 0 0&&oX ⟨f,fn,[],0⟩ []),tw S.te (nG orc) (dF []) [] fn (Hr ks x))=(true,(F.T x).run none λv=>some (R v)):=by intro _;kernel_rfl) (hF:F0=cJ ks:=by exact rfl):Ent1 P:=
 Y5 S ⟨f,fn,[],0⟩ orc [] F R hf trivial h hF
noncomputable def fX {f:Nat}{fn:Func}(hf:P.funcs[f]? =some fn)(orc:List (Ent1 P)){ks:List Pk}{V:Type}(F:FF (HP ks) V)(R:V→eT)
  (h:∀x,((F.T x).free,(Nat.beq 0 0&&oX ⟨f,fn,[],0⟩ []),tw S.te (nG orc) (dF []) [] fn (Hr ks x))=(true,true,(F.T x).run none λv=>some (R v)):=by intro _;kernel_rfl):Ent1 P:=
 abz S ⟨f,fn,[],0⟩ orc [] none F.f F.T R hf trivial (λx=>pr2 (h x)) (λx _ _=>Tr.ok_of_free _ (pr1 (h x)) trivial) λ_=>rfl
noncomputable def Wt (X:Fx)(orc:List (Ent1 P))(outer:List LE){ks:List Pk}{V:Type}(F:FF (HP ks) V)(R:V→eT)(hf:P.funcs[X.f]? =some X.fn)(hin:pg P X [] outer 0)
  (h:∀x,((F.T x).free,(Nat.beq X.r 0&&oX X outer),tw S.te (nG orc) (dF outer) X.ann X.fn (Hr ks x))=(true,true,(F.T x).run none λv=>some (R v)):=by intro _;kernel_rfl):Ent1 P:=
 abz S X orc outer none F.f F.T R hf hin (λx=>pr2 (h x)) (λx _ _=>Tr.ok_of_free _ (pr1 (h x)) trivial) λ_=>rfl
end
def rB (v:Bool):eT:=[(false,[.c (.bool v)])]
def rI (v:Int):eT:=[(false,[.c (.int .i64 v)])]
theorem Ent1.con {P:Program}{e:Ent1 P}{f:Nat}(hf:e.f=f){A:List PV}{R:eT}(h:e.g A [] eT (λR O=>match O with|[]=>some R|_::_=>none)=some R):II P f A R:=by
 subst hf
 obtain⟨R',O',h1,h2⟩:=e.ok _ _ _ _ _ h
 cases O' with
 |nil=>cases h2;exact h1
 |cons _ _=>cases h2
theorem YY {te:TE}{t:TypeId}{ty:Ty}{fs:List (Nat×Nat)}(hl:ao te t=some (.st ty fs)){A:PV}(h:Wd te t A):∃x:ty.T,A=(Pk.st ty).pv x:=by
 obtain⟨ti,xs,hl',rfl,hx,_⟩:=h
 rw[hl]at hl';cases hl'
 obtain⟨x,rfl⟩:=MY hx
 exact⟨x,rfl⟩
theorem fn0 {P:Program}(S:Seat P){f:Nat}{fn:Func}(hf:P.funcs[f]? =some fn)(hc:oX ⟨f,fn,[],0⟩ []=true){A:List PV}{R:eT}(h:tw S.te (nG (P:=P) []) (dF []) [] fn A=some R):II P f A R:=
 fnS S (X:=⟨f,fn,[],0⟩) (aV []) hf hc (outer:=[]) trivial (O:=[]) (O':=[]) rfl rfl (by rw[List.map_nil,List.append_nil];exact h)
noncomputable def Zr {P:Program}(f:Nat){ks:List Pk}{V:Type}{p:HP ks→Prop}{q:HP ks→V→Prop}(F:Fnc (HP ks) V p q)(R:V→eT)(h:∀x,p x→II P f (Hr ks x) (R (F.f x))):Ent1 P where
 f:=f
 g A O _ k:=match O with|[]=>Aj (XT ks A) none λx=>Ot (dc (p x)) (ko (F.f x) λv=>k (R v) []) none|_::_=>none
 ok A O γ k z hg:=by
  cases O with
  |cons _ _=>cases hg
  |nil=>
  obtain⟨x,hx,hg⟩:=i4 hg
  cases hp:dc (p x)with
  |true=>
   rw[hp]at hg
   exact⟨R (F.f x),[],by rw[CQ hx];exact h x (Zt hp),hg⟩
  |false=>rw[hp]at hg;cases hg
end Go.Proofs.YtfpdenjmlnhnnaaGreat
