/- The data of the program as plain Lean data, and how they are laid out in cells. Nothing of the dump is named here. -/
import Derived.WalkKit
set_option linter.unusedVariables false
set_option linter.unusedSimpArgs false
namespace Go.Proofs.YtffjmkhjhchnmaaGreat
open Go
abbrev ah:=List UInt8
structure Fram where
 dst:Int
 src:Int
 type:Int
 body:ah
structure Arpm where
 kind:Int
 srcHw:Int
 srcIp:Int
 dstHw:Int
 dstIp:Int
structure Pack where
 src:Int
 dst:Int
 ttl:Int
 proto:Int
 id:Int
 body:ah
structure Opti where
 mss:Int
 scale:Int
 sack:Bool
 stamp:Bool
 val:Int
 echo:Int
 deriving DecidableEq
structure Segm where
 from_:Int
 to:Int
 seq:Int
 ack:Int
 flags:Int
 window:Int
 opts:Opti
 body:ah
 deriving DecidableEq
structure Sipr where
 a:Int
 b:Int
 c:Int
 d:Int
structure MacRow where
 input:ah
 value:Int
 deriving DecidableEq
structure Mac where
 use:Bool
 k:Int
 l:Int
 rows:List MacRow
 deriving DecidableEq
structure Tupl where
 ip:Int
 port:Int
 my:Int
 deriving DecidableEq
structure Keys where
 epoch:Int
 now:Mac
 before:Mac
 two:Bool
 deriving DecidableEq
structure Entr where
 ip:Int
 hw:Int
 age:Int
 deriving DecidableEq
structure Link where
 mac:Int
 ip:Int
 cache:List Entr
 deriving DecidableEq
structure Sndr where
 una:Int
 data:ah
 sent:Int
 fin:Bool
 finSent:Bool
 done:Bool
 deriving DecidableEq
structure Chun where
 seq:Int
 text:ah
 fin:Bool
structure Piec where
 off:Int
 text:ah
 deriving DecidableEq
structure Recv where
 next:Int
 data:ah
 held:List Piec
 fin:Int
 done:Bool
 deriving DecidableEq
structure Conn where
 tuple:Tupl
 state:Int
 s:Sndr
 r:Recv
 window:Int
 most:Int
 opts:Opti
 timer:Int
 tries:Int
 deriving DecidableEq
structure Half where
 tuple:Tupl
 iss:Int
 irs:Int
 opts:Opti
 age:Int
 window:Int
 deriving DecidableEq
structure Limi where
 halves:Int
 waiting:Int
 conns:Int
 chal:Int
 deriving DecidableEq
structure Tabl where
 conns:List Conn
 waiting:List Tupl
 deriving DecidableEq
structure Door where
 port:Int
 clock:Int
 keys:Keys
 limits:Limi
 halves:List Half
 table:Tabl
 chal:Int
 deriving DecidableEq
structure Stac where
 link:Link
 door:Door
 deriving DecidableEq
structure Acti where
 kind:Int
 tuple:Tupl
 n:Int
 text:ah
 mac:Mac
structure Resu where
 frames:List ah
 made:Int
 tuple:Tupl
 n:Int
 text:ah
 ok:Bool
structure Issu where
 tuple:Tupl
 seq:Int
 cookie:Int
 deriving DecidableEq
structure Clie where
 tuple:Tupl
 isn:Int
 opts:Opti
 window:Int
structure Mail where
 ip:Int
 g:Segm
structure Curs where
 b:List Int
 i:Int
 h:Int
structure RecvR where
 next:Int
 data:ah
 held:Value
 fin:Int
 done:Bool
structure ConnR where
 tuple:Tupl
 state:Int
 s:Sndr
 r:RecvR
 window:Int
 most:Int
 opts:Opti
 timer:Int
 tries:Int
inductive Ty where
 |u8|i64|u64|bool|str
 |fram|arpm|pack|opti|segm|sipr|macRow|mac|tupl|keys|entr|link|sndr|chun|piec|recv|conn|half|limi|tabl|door|stac|acti|resu|issu|clie|mail|curs|recvR|connR
 deriving DecidableEq
@[reducible] def Ty.T:Ty→Type
 | .u8=>Int| .i64=>Int| .u64=>Int| .bool=>Bool| .str=>ah
 | .fram=>Fram| .arpm=>Arpm| .pack=>Pack| .opti=>Opti| .segm=>Segm| .sipr=>Sipr| .macRow=>MacRow| .mac=>Mac| .tupl=>Tupl| .keys=>Keys| .entr=>Entr| .link=>Link
 | .sndr=>Sndr| .chun=>Chun| .piec=>Piec| .recv=>Recv| .conn=>Conn| .half=>Half| .limi=>Limi| .tabl=>Tabl| .door=>Door| .stac=>Stac| .acti=>Acti| .resu=>Resu| .issu=>Issu| .clie=>Clie| .mail=>Mail| .curs=>Curs| .recvR=>RecvR| .connR=>ConnR
inductive Fl where
 |int (k:IntKind)|bool|str|sl (t:Ty)|raw
 deriving DecidableEq
@[reducible] def Fl.T:Fl→Type
 | .int _=>Int| .bool=>Bool| .str=>ah| .sl t=>List t.T| .raw=>Value
@[reducible] def HL:List Fl→Type
 |[]=>Unit
 |f::fs=>f.T×HL fs
@[reducible] def fI:Fl:= .int .i64
@[reducible] def Rp:List Fl:=[fI,fI,.bool,.bool,fI,fI]
@[reducible] def Ry:List Fl:=[fI,fI,fI]
@[reducible] def RD:List Fl:=[.bool,.int .u64,.int .u64,.sl .macRow]
@[reducible] def Rt:List Fl:=[fI,.str,fI,.bool,.bool,.bool]
@[reducible] def Rr:List Fl:=[fI,.str,.sl .piec,fI,.bool]
def Ty.fl:Ty→List Fl
 | .u8=>[.int .u8]| .i64=>[fI]| .u64=>[.int .u64]| .bool=>[.bool]| .str=>[.str]
 | .fram=>[fI,fI,fI,.str]
 | .arpm=>[fI,fI,fI,fI,fI]
 | .pack=>[fI,fI,fI,fI,fI,.str]
 | .opti=>[fI,fI,.bool,.bool,fI,fI]
 | .segm=>[fI,fI,fI,fI,fI,fI,fI,fI,.bool,.bool,fI,fI,.str]
 | .sipr=>[.int .u64,.int .u64,.int .u64,.int .u64]
 | .macRow=>[.str,fI]
 | .mac=>[.bool,.int .u64,.int .u64,.sl .macRow]
 | .tupl=>[fI,fI,fI]
 | .keys=>[fI,.bool,.int .u64,.int .u64,.sl .macRow,.bool,.int .u64,.int .u64,.sl .macRow,.bool]
 | .entr=>[fI,fI,fI]
 | .link=>[fI,fI,.sl .entr]
 | .sndr=>[fI,.str,fI,.bool,.bool,.bool]
 | .chun=>[fI,.str,.bool]
 | .piec=>[fI,.str]
 | .recv=>[fI,.str,.sl .piec,fI,.bool]
 | .conn=>[fI,fI,fI,fI,fI,.str,fI,.bool,.bool,.bool,fI,.str,.sl .piec,fI,.bool,fI,fI,fI,fI,.bool,.bool,fI,fI,fI,fI]
 | .half=>[fI,fI,fI,fI,fI,fI,fI,.bool,.bool,fI,fI,fI,fI]
 | .limi=>[fI,fI,fI,fI]
 | .tabl=>[.sl .conn,.sl .tupl]
 | .door=>[fI,fI,fI,.bool,.int .u64,.int .u64,.sl .macRow,.bool,.int .u64,.int .u64,.sl .macRow,.bool,fI,fI,fI,fI,.sl .half,.sl .conn,.sl .tupl,fI]
 | .stac=>[fI,fI,.sl .entr,fI,fI,fI,.bool,.int .u64,.int .u64,.sl .macRow,.bool,.int .u64,.int .u64,.sl .macRow,.bool,fI,fI,fI,fI,.sl .half,.sl .conn,.sl .tupl,fI]
 | .acti=>[fI,fI,fI,fI,fI,.str,.bool,.int .u64,.int .u64,.sl .macRow]
 | .resu=>[.sl .str,fI,fI,fI,fI,fI,.str,.bool]
 | .issu=>[fI,fI,fI,fI,fI]
 | .clie=>[fI,fI,fI,fI,fI,fI,.bool,.bool,fI,fI,fI]
 | .mail=>[fI,fI,fI,fI,fI,fI,fI,fI,fI,.bool,.bool,fI,fI,.str]
 | .curs=>[.sl .u8,fI,fI]
 | .recvR=>[fI,.str,.raw,fI,.bool]
 | .connR=>[fI,fI,fI,fI,fI,.str,fI,.bool,.bool,.bool,fI,.str,.raw,fI,.bool,fI,fI,fI,fI,.bool,.bool,fI,fI,fI,fI]
def Ty.toH:(t:Ty)→t.T→HL t.fl
 | .u8=>λx=>(x,())| .i64=>λx=>(x,())| .u64=>λx=>(x,())| .bool=>λx=>(x,())| .str=>λx=>(x,())
 | .fram=>λx=>(x.dst,x.src,x.type,x.body,())
 | .arpm=>λx=>(x.kind,x.srcHw,x.srcIp,x.dstHw,x.dstIp,())
 | .pack=>λx=>(x.src,x.dst,x.ttl,x.proto,x.id,x.body,())
 | .opti=>λx=>(x.mss,x.scale,x.sack,x.stamp,x.val,x.echo,())
 | .segm=>λx=>(x.from_,x.to,x.seq,x.ack,x.flags,x.window,x.opts.mss,x.opts.scale,x.opts.sack,x.opts.stamp,x.opts.val,x.opts.echo,x.body,())
 | .sipr=>λx=>(x.a,x.b,x.c,x.d,())
 | .macRow=>λx=>(x.input,x.value,())
 | .mac=>λx=>(x.use,x.k,x.l,x.rows,())
 | .tupl=>λx=>(x.ip,x.port,x.my,())
 | .keys=>λx=>(x.epoch,x.now.use,x.now.k,x.now.l,x.now.rows,x.before.use,x.before.k,x.before.l,x.before.rows,x.two,())
 | .entr=>λx=>(x.ip,x.hw,x.age,())
 | .link=>λx=>(x.mac,x.ip,x.cache,())
 | .sndr=>λx=>(x.una,x.data,x.sent,x.fin,x.finSent,x.done,())
 | .chun=>λx=>(x.seq,x.text,x.fin,())
 | .piec=>λx=>(x.off,x.text,())
 | .recv=>λx=>(x.next,x.data,x.held,x.fin,x.done,())
 | .conn=>λx=>(x.tuple.ip,x.tuple.port,x.tuple.my,x.state,x.s.una,x.s.data,x.s.sent,x.s.fin,x.s.finSent,x.s.done,x.r.next,x.r.data,x.r.held,x.r.fin,x.r.done,x.window,x.most,x.opts.mss,x.opts.scale,x.opts.sack,x.opts.stamp,x.opts.val,x.opts.echo,x.timer,x.tries,())
 | .half=>λx=>(x.tuple.ip,x.tuple.port,x.tuple.my,x.iss,x.irs,x.opts.mss,x.opts.scale,x.opts.sack,x.opts.stamp,x.opts.val,x.opts.echo,x.age,x.window,())
 | .limi=>λx=>(x.halves,x.waiting,x.conns,x.chal,())
 | .tabl=>λx=>(x.conns,x.waiting,())
 | .door=>λx=>(x.port,x.clock,x.keys.epoch,x.keys.now.use,x.keys.now.k,x.keys.now.l,x.keys.now.rows,x.keys.before.use,x.keys.before.k,x.keys.before.l,x.keys.before.rows,x.keys.two,x.limits.halves,x.limits.waiting,x.limits.conns,x.limits.chal,x.halves,x.table.conns,x.table.waiting,x.chal,())
 | .stac=>λx=>(x.link.mac,x.link.ip,x.link.cache,x.door.port,x.door.clock,x.door.keys.epoch,x.door.keys.now.use,x.door.keys.now.k,x.door.keys.now.l,x.door.keys.now.rows,x.door.keys.before.use,x.door.keys.before.k,x.door.keys.before.l,x.door.keys.before.rows,x.door.keys.two,x.door.limits.halves,x.door.limits.waiting,x.door.limits.conns,x.door.limits.chal,x.door.halves,x.door.table.conns,x.door.table.waiting,x.door.chal,())
 | .acti=>λx=>(x.kind,x.tuple.ip,x.tuple.port,x.tuple.my,x.n,x.text,x.mac.use,x.mac.k,x.mac.l,x.mac.rows,())
 | .resu=>λx=>(x.frames,x.made,x.tuple.ip,x.tuple.port,x.tuple.my,x.n,x.text,x.ok,())
 | .issu=>λx=>(x.tuple.ip,x.tuple.port,x.tuple.my,x.seq,x.cookie,())
 | .clie=>λx=>(x.tuple.ip,x.tuple.port,x.tuple.my,x.isn,x.opts.mss,x.opts.scale,x.opts.sack,x.opts.stamp,x.opts.val,x.opts.echo,x.window,())
 | .mail=>λx=>(x.ip,x.g.from_,x.g.to,x.g.seq,x.g.ack,x.g.flags,x.g.window,x.g.opts.mss,x.g.opts.scale,x.g.opts.sack,x.g.opts.stamp,x.g.opts.val,x.g.opts.echo,x.g.body,())
 | .curs=>λx=>(x.b,x.i,x.h,())
 | .recvR=>λx=>(x.next,x.data,x.held,x.fin,x.done,())
 | .connR=>λx=>(x.tuple.ip,x.tuple.port,x.tuple.my,x.state,x.s.una,x.s.data,x.s.sent,x.s.fin,x.s.finSent,x.s.done,x.r.next,x.r.data,x.r.held,x.r.fin,x.r.done,x.window,x.most,x.opts.mss,x.opts.scale,x.opts.sack,x.opts.stamp,x.opts.val,x.opts.echo,x.timer,x.tries,())
def Ty.ofH:(t:Ty)→HL t.fl→t.T
 | .u8=>λh=>h.1| .i64=>λh=>h.1| .u64=>λh=>h.1| .bool=>λh=>h.1| .str=>λh=>h.1
 | .fram=>λh=>⟨h.1,h.2.1,h.2.2.1,h.2.2.2.1⟩
 | .arpm=>λh=>⟨h.1,h.2.1,h.2.2.1,h.2.2.2.1,h.2.2.2.2.1⟩
 | .pack=>λh=>⟨h.1,h.2.1,h.2.2.1,h.2.2.2.1,h.2.2.2.2.1,h.2.2.2.2.2.1⟩
 | .opti=>λh=>⟨h.1,h.2.1,h.2.2.1,h.2.2.2.1,h.2.2.2.2.1,h.2.2.2.2.2.1⟩
 | .segm=>λ(a,b,c,d,e,f,o1,o2,o3,o4,o5,o6,g,_)=>⟨a,b,c,d,e,f,⟨o1,o2,o3,o4,o5,o6⟩,g⟩
 | .sipr=>λ(a,b,c,d,_)=>⟨a,b,c,d⟩
 | .macRow=>λ(a,b,_)=>⟨a,b⟩
 | .mac=>λ(a,b,c,d,_)=>⟨a,b,c,d⟩
 | .tupl=>λ(a,b,c,_)=>⟨a,b,c⟩
 | .keys=>λ(e,a1,a2,a3,a4,b1,b2,b3,b4,t,_)=>⟨e,⟨a1,a2,a3,a4⟩,⟨b1,b2,b3,b4⟩,t⟩
 | .entr=>λ(a,b,c,_)=>⟨a,b,c⟩
 | .link=>λ(a,b,c,_)=>⟨a,b,c⟩
 | .sndr=>λ(a,b,c,d,e,f,_)=>⟨a,b,c,d,e,f⟩
 | .chun=>λ(a,b,c,_)=>⟨a,b,c⟩
 | .piec=>λ(a,b,_)=>⟨a,b⟩
 | .recv=>λ(a,b,c,d,e,_)=>⟨a,b,c,d,e⟩
 | .conn=>λ(t1,t2,t3,st,s1,s2,s3,s4,s5,s6,r1,r2,r3,r4,r5,w,m,o1,o2,o3,o4,o5,o6,ti,tr,_)=>⟨⟨t1,t2,t3⟩,st,⟨s1,s2,s3,s4,s5,s6⟩,⟨r1,r2,r3,r4,r5⟩,w,m,⟨o1,o2,o3,o4,o5,o6⟩,ti,tr⟩
 | .half=>λ(t1,t2,t3,a,b,o1,o2,o3,o4,o5,o6,g,w,_)=>⟨⟨t1,t2,t3⟩,a,b,⟨o1,o2,o3,o4,o5,o6⟩,g,w⟩
 | .limi=>λ(a,b,c,d,_)=>⟨a,b,c,d⟩
 | .tabl=>λ(a,b,_)=>⟨a,b⟩
 | .door=>λ(p,c,e,a1,a2,a3,a4,b1,b2,b3,b4,t,l1,l2,l3,l4,hs,cs,ws,ch,_)=>⟨p,c,⟨e,⟨a1,a2,a3,a4⟩,⟨b1,b2,b3,b4⟩,t⟩,⟨l1,l2,l3,l4⟩,hs,⟨cs,ws⟩,ch⟩
 | .stac=>λ(k1,k2,k3,p,c,e,a1,a2,a3,a4,b1,b2,b3,b4,t,l1,l2,l3,l4,hs,cs,ws,ch,_)=>⟨⟨k1,k2,k3⟩,⟨p,c,⟨e,⟨a1,a2,a3,a4⟩,⟨b1,b2,b3,b4⟩,t⟩,⟨l1,l2,l3,l4⟩,hs,⟨cs,ws⟩,ch⟩⟩
 | .acti=>λ(k,t1,t2,t3,n,x,m1,m2,m3,m4,_)=>⟨k,⟨t1,t2,t3⟩,n,x,⟨m1,m2,m3,m4⟩⟩
 | .resu=>λ(f,m,t1,t2,t3,n,x,o,_)=>⟨f,m,⟨t1,t2,t3⟩,n,x,o⟩
 | .issu=>λ(t1,t2,t3,s,c,_)=>⟨⟨t1,t2,t3⟩,s,c⟩
 | .clie=>λ(t1,t2,t3,n,o1,o2,o3,o4,o5,o6,w,_)=>⟨⟨t1,t2,t3⟩,n,⟨o1,o2,o3,o4,o5,o6⟩,w⟩
 | .mail=>λ(i,a,b,c,d,e,f,o1,o2,o3,o4,o5,o6,g,_)=>⟨i,a,b,c,d,e,f,⟨o1,o2,o3,o4,o5,o6⟩,g⟩
 | .curs=>λ(a,b,c,_)=>⟨a,b,c⟩
 | .recvR=>λ(a,b,c,d,e,_)=>⟨a,b,c,d,e⟩
 | .connR=>λ(t1,t2,t3,st,s1,s2,s3,s4,s5,s6,r1,r2,r3,r4,r5,w,m,o1,o2,o3,o4,o5,o6,ti,tr,_)=>⟨⟨t1,t2,t3⟩,st,⟨s1,s2,s3,s4,s5,s6⟩,⟨r1,r2,r3,r4,r5⟩,w,m,⟨o1,o2,o3,o4,o5,o6⟩,ti,tr⟩
theorem Ty.toH_ofH:∀(t:Ty) (h:HL t.fl),t.toH (t.ofH h)=h:=by intro t h;cases t<;>rfl
inductive Cell where
 |bool (b:Bool)
 |int (k:IntKind)(n:Int)
 |str (s:ah)
 |sl (t:Ty)(xs:List t.T)
 |raw (v:Value)
def Fl.cell:(f:Fl)→f.T→Cell
 | .int k,n=> .int k n
 | .bool,b=> .bool b
 | .str,s=> .str s
 | .sl t,xs=> .sl t xs
 | .raw,v=> .raw v
def Fl.get:(f:Fl)→Cell→Option f.T
 | .int k,.int k' n=>if k=k' then some n else none
 | .bool,.bool b=>some b
 | .str,.str s=>some s
 | .sl t,.sl t' xs=>if h:t'=t then some (h▸xs)else none
 | .raw,.raw v=>some v
 |_,_=>none
def cM:(fs:List Fl)→HL fs→List Cell
 |[],_=>[]
 |f::fs,(a,r)=>f.cell a::cM fs r
def Jp:(fs:List Fl)→List Cell→Option (HL fs)
 |[],[]=>some ()
 |f::fs,c::cs=>match f.get c,Jp fs cs with
  |some x,some h=>some (x,h)
  |_,_=>none
 |_,_=>none
def Ty.cells (t:Ty)(x:t.T):List Cell:=cM t.fl (t.toH x)
def Ty.get (t:Ty)(cs:List Cell):Option t.T:=(Jp t.fl cs).map t.ofH
def Ty.size (t:Ty):Nat:=t.fl.length
theorem Fl.get_cell {f:Fl}{c:Cell}{x:f.T}(h:f.get c=some x):f.cell x=c:=by
 cases f<;>cases c<;>simp only[Fl.get]at h<;>first
  |(cases h;done)
  |(cases h;rfl;done)
  |(split at h<;>cases h<;>rename_i e<;>subst e<;>rfl)
theorem Aq {fs:List Fl}:∀{cs:List Cell} {h:HL fs},Jp fs cs=some h→cM fs h=cs:=by
 induction fs with
 |nil=>intro cs h e;cases cs<;>simp[Jp]at e;rfl
 |cons f fs ih=>
  intro cs h e
  cases cs with
  |nil=>simp[Jp]at e
  |cons c cs=>
   simp only[Jp]at e
   split at e
   ·rename_i x h' hx hh
    cases e
    simp only[cM]
    rw[Fl.get_cell hx,ih hh]
   ·cases e
theorem Ty.get_cells {t:Ty}{cs:List Cell}{x:t.T}(h:t.get cs=some x):t.cells x=cs:=by
 simp only[Ty.get,Option.map_eq_some_iff]at h
 obtain⟨y,hy,rfl⟩:=h
 simp only[Ty.cells,Ty.toH_ofH]
 exact Aq hy
theorem gk (fs:List Fl):∀h:HL fs,(cM fs h).length=fs.length:=by
 induction fs with
 |nil=>intro h;rfl
 |cons f fs ih=>intro h;simp[cM,ih]
theorem Ty.cells_length (t:Ty)(x:t.T):(t.cells x).length=t.size:=gk _ _
def Fl.zero:(f:Fl)→f.T
 | .int _=>(0:Int)| .bool=>false| .str=>[]| .sl _=>[]| .raw=> .slice none 0 0
def A0:(fs:List Fl)→HL fs
 |[]=>()
 |f::fs=>(f.zero,A0 fs)
def Ty.zero (t:Ty):t.T:=t.ofH (A0 t.fl)
theorem Ty.size_pos (t:Ty):0<t.size:=by cases t<;>decide
end Go.Proofs.YtffjmkhjhchnmaaGreat
