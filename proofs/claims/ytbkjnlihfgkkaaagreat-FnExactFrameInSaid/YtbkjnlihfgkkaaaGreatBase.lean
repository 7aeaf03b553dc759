/- The table of types of this seat, and its closed facts. -/
import Derived.Test.YtbkjnlihfgkkaaaGreatPure
import Derived.Test.YtbkjnlihfgkkaaaGreatRows
import Derived.KernelRfl
set_option linter.unusedVariables false
set_option linter.unusedSimpArgs false
namespace Go.Proofs.YtbkjnlihfgkkaaaGreat
open Go Go.RowKit
def te:TE:=[
 (2,.sc (.int .i64)),
 (3,.sc (.int .i64)),
 (4,.sc .bool),
 (5,.sc (.int .u8)),
 (6,.sc (.int .u8)),
 (9,.sc .str),
 (10,.sc .str),
 (11,.sc .str),
 (12,.sc (.int .u64)),
 (21,.sc (.int .i32)),
 (22,.sc (.int .u64)),
 (23,.sl .macRow 24),
 (25,.st .mac [(0,4),(1,22),(2,22),(3,23)]),
 (27,.st .keys [(0,3),(1,25),(5,25),(9,4)]),
 (29,.st .limi [(0,3),(1,3),(2,3),(3,3)]),
 (30,.sl .half 96),
 (31,.sl .conn 208),
 (32,.sl .tupl 24),
 (34,.st .tabl [(0,31),(1,32)]),
 (36,.st .door [(0,3),(1,3),(2,27),(12,29),(16,30),(17,34),(19,3)]),
 (39,.sl .macRow 24),
 (41,.st .mac [(0,4),(1,22),(2,22),(3,39)]),
 (43,.st .keys [(0,3),(1,41),(5,41),(9,4)]),
 (44,.st .limi [(0,3),(1,3),(2,3),(3,3)]),
 (45,.sl .half 96),
 (46,.sl .conn 208),
 (47,.sl .tupl 24),
 (49,.st .tabl [(0,46),(1,47)]),
 (51,.st .door [(0,3),(1,3),(2,43),(12,44),(16,45),(17,49),(19,3)]),
 (60,.sl .entr 24),
 (62,.st .link [(0,3),(1,3),(2,60)]),
 (64,.st .stac [(0,62),(3,36)]),
 (65,.sl .str 16),
 (67,.st .tupl [(0,3),(1,3),(2,3)]),
 (69,.st .resu [(0,65),(1,3),(2,67),(5,3),(6,9),(7,4)]),
 (72,.sl .issu 40),
 (74,.sl .entr 24),
 (76,.st .link [(0,3),(1,3),(2,74)]),
 (78,.st .stac [(0,76),(3,51)]),
 (80,.st .tupl [(0,3),(1,3),(2,3)]),
 (82,.st .resu [(0,65),(1,3),(2,80),(5,3),(6,9),(7,4)]),
 (92,.st .opti [(0,3),(1,3),(2,4),(3,4),(4,3),(5,3)]),
 (94,.st .segm [(0,3),(1,3),(2,3),(3,3),(4,3),(5,3),(6,92),(12,9)]),
 (96,.sl .segm 104),
 (100,.st .opti [(0,3),(1,3),(2,4),(3,4),(4,3),(5,3)]),
 (102,.st .segm [(0,3),(1,3),(2,3),(3,3),(4,3),(5,3),(6,100),(12,9)]),
 (117,.st .clie [(0,67),(3,3),(4,92),(10,3)]),
 (118,.sl .mac 48),
 (121,.st .sndr [(0,3),(1,9),(2,3),(3,4),(4,4),(5,4)]),
 (122,.sl .piec 24),
 (124,.st .recv [(0,3),(1,9),(2,122),(3,3),(4,4)]),
 (126,.st .conn [(0,80),(3,3),(4,121),(10,124),(15,3),(16,3),(17,100),(23,3),(24,3)]),
 (130,.st .clie [(0,80),(3,3),(4,100),(10,3)]),
 (132,.sl .mac 48),
 (161,.st .pack [(0,3),(1,3),(2,3),(3,3),(4,3),(5,9)]),
 (167,.st .issu [(0,80),(3,3),(4,3)]),
 (178,.st .half [(0,80),(3,3),(4,3),(5,100),(11,3),(12,3)]),
 (223,.st .macRow [(0,9),(1,3)]),
 (231,.st .half [(0,67),(3,3),(4,3),(5,92),(11,3),(12,3)]),
 (234,.st .macRow [(0,9),(1,3)]),
 (245,.st .fram [(0,3),(1,3),(2,3),(3,9)]),
 (266,.sl .u8 1),
 (268,.sc (.int .u64)),
 (300,.st .arpm [(0,3),(1,3),(2,3),(3,3),(4,3)]),
 (311,.st .sndr [(0,3),(1,9),(2,3),(3,4),(4,4),(5,4)]),
 (312,.sl .piec 24),
 (314,.st .recv [(0,3),(1,9),(2,312),(3,3),(4,4)]),
 (316,.st .conn [(0,67),(3,3),(4,311),(10,314),(15,3),(16,3),(17,92),(23,3),(24,3)]),
 (323,.st .entr [(0,3),(1,3),(2,3)]),
 (325,.st .entr [(0,3),(1,3),(2,3)]),
 (334,.sl .i64 8),
 (343,.st .chun [(0,3),(1,9),(2,4)]),
 (360,.st .piec [(0,3),(1,9)]),
 (371,.sl .bool 1),
 (382,.st .sipr [(0,22),(1,22),(2,22),(3,22)]),
 (388,.sc (.int .u32)),
 (391,.st .piec [(0,3),(1,9)]),
 (403,.sc (.int .u8)),
 (404,.sc (.int .u8)),
 (406,.ptr),
 (407,.sc (.int .i32)),
 (408,.sc (.int .i32)),
 (1000018,.wr [true]),
 (1000019,.wr [true]),
 (1000030,.wr [true]),
 (1000031,.wr [true]),
 (1000032,.wr [true]),
 (1000040,.wr [true]),
 (1000049,.wr [true]),
 (1000059,.wr [true]),
 (1000060,.wr [true]),
 (1000080,.wr [true]),
 (1000081,.wr [true]),
 (1000082,.wr [true]),
 (1000083,.wr [true]),
 (1000100,.wr [true]),
 (1000161,.wr [true]),
 (1000185,.wr [true]),
 (1000186,.wr [true]),
 (1000198,.wr [true]),
 (1000207,.wr [false,true]),
 (1000212,.wr [false,true]),
 (1000214,.wr [false,true]),
 (1000242,.wr [true]),
 (1000274,.wr [true]),
 (1000281,.wr [false,true]),
 (1000336,.wr [true]),
 (1000350,.wr [false,true]),
 (1000414,.wr [true]),
 (1000415,.wr [true]),
 (1000416,.wr [true]),
 (1000417,.wr [true]),
 (1000418,.wr [true]),
 (4000045,.wr []),
 (4000074,.wr [])]
theorem Yc:iR te Tryz.prog=true:=by kernel_rfl
theorem aaP:TL te Tryz.prog=true:=by kernel_rfl
theorem aa9:laidOutB Tryz.prog=true:=by kernel_rfl
theorem ZE:ownKnob Tryz.prog.godebug=none:=by kernel_rfl
theorem Vd:Tryz.prog.follows .mixedOrders=true:=by kernel_rfl
def st:Seat Tryz.prog:=⟨te,Yc,Vd⟩
def teD:TE:=(5000000,.wr [])::te
theorem aaq:iR teD Tryz.prog=true:=by kernel_rfl
def ao:Seat Tryz.prog:=⟨teD,aaq,Vd⟩
def NE (x:Arpm):List RC:=[.c (.int .i64 x.kind),.c (.int .i64 x.srcHw),.c (.int .i64 x.srcIp),.c (.int .i64 x.dstHw),.c (.int .i64 x.dstIp)]
def YP (x:Chun):List RC:=[.c (.int .i64 x.seq),.c (.str x.text),.c (.bool x.fin)]
def nJ (o0:Ow)(x:Conn):List RC:=[.c (.int .i64 x.tuple.ip),.c (.int .i64 x.tuple.port),.c (.int .i64 x.tuple.my),.c (.int .i64 x.state),.c (.int .i64 x.s.una),.c (.str x.s.data),.c (.int .i64 x.s.sent),.c (.bool x.s.fin),.c (.bool x.s.finSent),.c (.bool x.s.done),.c (.int .i64 x.r.next),.c (.str x.r.data),sc o0 .piec x.r.held,.c (.int .i64 x.r.fin),.c (.bool x.r.done),.c (.int .i64 x.window),.c (.int .i64 x.most),.c (.int .i64 x.opts.mss),.c (.int .i64 x.opts.scale),.c (.bool x.opts.sack),.c (.bool x.opts.stamp),.c (.int .i64 x.opts.val),.c (.int .i64 x.opts.echo),.c (.int .i64 x.timer),.c (.int .i64 x.tries)]
def pn (o0 o1 o2 o3 o4:Ow)(x:Door):List RC:=[.c (.int .i64 x.port),.c (.int .i64 x.clock),.c (.int .i64 x.keys.epoch),.c (.bool x.keys.now.use),.c (.int .u64 x.keys.now.k),.c (.int .u64 x.keys.now.l),sc o0 .macRow x.keys.now.rows,.c (.bool x.keys.before.use),.c (.int .u64 x.keys.before.k),.c (.int .u64 x.keys.before.l),sc o1 .macRow x.keys.before.rows,.c (.bool x.keys.two),.c (.int .i64 x.limits.halves),.c (.int .i64 x.limits.waiting),.c (.int .i64 x.limits.conns),.c (.int .i64 x.limits.chal),sc o2 .half x.halves,sc o3 .conn x.table.conns,sc o4 .tupl x.table.waiting,.c (.int .i64 x.chal)]
def aaZ (x:Entr):List RC:=[.c (.int .i64 x.ip),.c (.int .i64 x.hw),.c (.int .i64 x.age)]
def Yh (x:Fram):List RC:=[.c (.int .i64 x.dst),.c (.int .i64 x.src),.c (.int .i64 x.type),.c (.str x.body)]
def abn (x:Half):List RC:=[.c (.int .i64 x.tuple.ip),.c (.int .i64 x.tuple.port),.c (.int .i64 x.tuple.my),.c (.int .i64 x.iss),.c (.int .i64 x.irs),.c (.int .i64 x.opts.mss),.c (.int .i64 x.opts.scale),.c (.bool x.opts.sack),.c (.bool x.opts.stamp),.c (.int .i64 x.opts.val),.c (.int .i64 x.opts.echo),.c (.int .i64 x.age),.c (.int .i64 x.window)]
def T9 (o0 o1:Ow)(x:Keys):List RC:=[.c (.int .i64 x.epoch),.c (.bool x.now.use),.c (.int .u64 x.now.k),.c (.int .u64 x.now.l),sc o0 .macRow x.now.rows,.c (.bool x.before.use),.c (.int .u64 x.before.k),.c (.int .u64 x.before.l),sc o1 .macRow x.before.rows,.c (.bool x.two)]
def abu (x:Limi):List RC:=[.c (.int .i64 x.halves),.c (.int .i64 x.waiting),.c (.int .i64 x.conns),.c (.int .i64 x.chal)]
def DQ (o0:Ow)(x:Link):List RC:=[.c (.int .i64 x.mac),.c (.int .i64 x.ip),sc o0 .entr x.cache]
def Qv (o0:Ow)(x:Mac):List RC:=[.c (.bool x.use),.c (.int .u64 x.k),.c (.int .u64 x.l),sc o0 .macRow x.rows]
def Y3 (x:MacRow):List RC:=[.c (.str x.input),.c (.int .i64 x.value)]
def pg (x:Opti):List RC:=[.c (.int .i64 x.mss),.c (.int .i64 x.scale),.c (.bool x.sack),.c (.bool x.stamp),.c (.int .i64 x.val),.c (.int .i64 x.echo)]
def Hb (x:Pack):List RC:=[.c (.int .i64 x.src),.c (.int .i64 x.dst),.c (.int .i64 x.ttl),.c (.int .i64 x.proto),.c (.int .i64 x.id),.c (.str x.body)]
def abl (x:Piec):List RC:=[.c (.int .i64 x.off),.c (.str x.text)]
def Ah (o0:Ow)(x:Recv):List RC:=[.c (.int .i64 x.next),.c (.str x.data),sc o0 .piec x.held,.c (.int .i64 x.fin),.c (.bool x.done)]
def xG (x:Segm):List RC:=[.c (.int .i64 x.from_),.c (.int .i64 x.to),.c (.int .i64 x.seq),.c (.int .i64 x.ack),.c (.int .i64 x.flags),.c (.int .i64 x.window),.c (.int .i64 x.opts.mss),.c (.int .i64 x.opts.scale),.c (.bool x.opts.sack),.c (.bool x.opts.stamp),.c (.int .i64 x.opts.val),.c (.int .i64 x.opts.echo),.c (.str x.body)]
def DR (x:Sipr):List RC:=[.c (.int .u64 x.a),.c (.int .u64 x.b),.c (.int .u64 x.c),.c (.int .u64 x.d)]
def Kg (x:Sndr):List RC:=[.c (.int .i64 x.una),.c (.str x.data),.c (.int .i64 x.sent),.c (.bool x.fin),.c (.bool x.finSent),.c (.bool x.done)]
def H6 (o0 o1 o2 o3 o4 o5:Ow)(x:Stac):List RC:=[.c (.int .i64 x.link.mac),.c (.int .i64 x.link.ip),sc o0 .entr x.link.cache,.c (.int .i64 x.door.port),.c (.int .i64 x.door.clock),.c (.int .i64 x.door.keys.epoch),.c (.bool x.door.keys.now.use),.c (.int .u64 x.door.keys.now.k),.c (.int .u64 x.door.keys.now.l),sc o1 .macRow x.door.keys.now.rows,.c (.bool x.door.keys.before.use),.c (.int .u64 x.door.keys.before.k),.c (.int .u64 x.door.keys.before.l),sc o2 .macRow x.door.keys.before.rows,.c (.bool x.door.keys.two),.c (.int .i64 x.door.limits.halves),.c (.int .i64 x.door.limits.waiting),.c (.int .i64 x.door.limits.conns),.c (.int .i64 x.door.limits.chal),sc o3 .half x.door.halves,sc o4 .conn x.door.table.conns,sc o5 .tupl x.door.table.waiting,.c (.int .i64 x.door.chal)]
def AE (o0 o1:Ow)(x:Tabl):List RC:=[sc o0 .conn x.conns,sc o1 .tupl x.waiting]
def ST (x:Tupl):List RC:=[.c (.int .i64 x.ip),.c (.int .i64 x.port),.c (.int .i64 x.my)]
@[grind] def Cj (x:Chun):Prop:=x.text.length<=4294967296
@[grind] def bD (x:Piec):Prop:=x.text.length<=4294967296
@[grind! .] theorem abq {xs:List Piec} (h:dP bD xs) (i:Nat):bD (xs.getD i (Ty.zero .piec)):=qo h (by unfold bD;(repeat' apply And.intro);all_goals first|exact λ_ h=>absurd h (List.not_mem_nil)|decide+kernel) i
@[grind=] theorem aaO (xs:List Piec) (i:Nat):xs.getD i (Ty.zero .piec)=WJ (xs.getD i (Ty.zero .piec)) (bD (xs.getD i (Ty.zero .piec))):=rfl
@[grind] def ah (x:Conn):Prop:=x.s.data.length<=4294967296/\x.r.data.length<=4294967296/\x.r.held.length<=4294967296/\dP bD x.r.held
@[grind! .] theorem aaR {xs:List Conn} (h:dP ah xs) (i:Nat):ah (xs.getD i (Ty.zero .conn)):=qo h (by unfold ah;(repeat' apply And.intro);all_goals first|exact λ_ h=>absurd h (List.not_mem_nil)|decide+kernel) i
@[grind=] theorem aax (xs:List Conn) (i:Nat):xs.getD i (Ty.zero .conn)=WJ (xs.getD i (Ty.zero .conn)) (ah (xs.getD i (Ty.zero .conn))):=rfl
@[grind] def aE (x:MacRow):Prop:=x.input.length<=4294967296
@[grind! .] theorem Z5 {xs:List MacRow} (h:dP aE xs) (i:Nat):aE (xs.getD i (Ty.zero .macRow)):=qo h (by unfold aE;(repeat' apply And.intro);all_goals first|exact λ_ h=>absurd h (List.not_mem_nil)|decide+kernel) i
@[grind=] theorem Zv (xs:List MacRow) (i:Nat):xs.getD i (Ty.zero .macRow)=WJ (xs.getD i (Ty.zero .macRow)) (aE (xs.getD i (Ty.zero .macRow))):=rfl
@[grind] def ay (x:Door):Prop:=x.keys.now.rows.length<=4294967296/\dP aE x.keys.now.rows/\x.keys.before.rows.length<=4294967296/\dP aE x.keys.before.rows/\x.halves.length<=4294967296/\x.table.conns.length<=4294967296/\dP ah x.table.conns/\x.table.waiting.length<=4294967296
@[grind] def CP (x:Fram):Prop:=x.body.length<=4294967296
@[grind] def dM (x:Keys):Prop:=x.now.rows.length<=4294967296/\dP aE x.now.rows/\x.before.rows.length<=4294967296/\dP aE x.before.rows
@[grind] def eA (x:Link):Prop:=x.cache.length<=4294967296
@[grind] def cN (x:Mac):Prop:=x.rows.length<=4294967296/\dP aE x.rows
@[grind! .] theorem abK {xs:List Mac} (h:dP cN xs) (i:Nat):cN (xs.getD i (Ty.zero .mac)):=qo h (by unfold cN;(repeat' apply And.intro);all_goals first|exact λ_ h=>absurd h (List.not_mem_nil)|decide+kernel) i
@[grind=] theorem abx (xs:List Mac) (i:Nat):xs.getD i (Ty.zero .mac)=WJ (xs.getD i (Ty.zero .mac)) (cN (xs.getD i (Ty.zero .mac))):=rfl
@[grind] def uO (x:Pack):Prop:=x.body.length<=4294967296
@[grind] def ax (x:Recv):Prop:=x.data.length<=4294967296/\x.held.length<=4294967296/\dP bD x.held
@[grind] def ach (x:Resu):Prop:=x.frames.length<=4294967296/\dP sS x.frames/\x.text.length<=4294967296
@[grind] def aw (x:Segm):Prop:=x.body.length<=4294967296
@[grind! .] theorem aa6 {xs:List Segm} (h:dP aw xs) (i:Nat):aw (xs.getD i (Ty.zero .segm)):=qo h (by unfold aw;(repeat' apply And.intro);all_goals first|exact λ_ h=>absurd h (List.not_mem_nil)|decide+kernel) i
@[grind=] theorem aaE (xs:List Segm) (i:Nat):xs.getD i (Ty.zero .segm)=WJ (xs.getD i (Ty.zero .segm)) (aw (xs.getD i (Ty.zero .segm))):=rfl
@[grind] def dW (x:Sndr):Prop:=x.data.length<=4294967296
@[grind] def cL (x:Stac):Prop:=x.link.cache.length<=4294967296/\x.door.keys.now.rows.length<=4294967296/\dP aE x.door.keys.now.rows/\x.door.keys.before.rows.length<=4294967296/\dP aE x.door.keys.before.rows/\x.door.halves.length<=4294967296/\x.door.table.conns.length<=4294967296/\dP ah x.door.table.conns/\x.door.table.waiting.length<=4294967296
@[grind] def ce (x:Tabl):Prop:=x.conns.length<=4294967296/\dP ah x.conns/\x.waiting.length<=4294967296
@[grind] def SO (s:Sndr):Prop:=0<=s.una/\s.una<=4294967295/\s.data.length<=48/\0<=s.sent/\s.sent<=s.data.length/\(s.finSent=true->s.fin=true/\s.sent=s.data.length)/\(s.done=true->s.fin=true/\s.finSent=false/\s.data=[])
@[grind] def GJ (s:Sndr):Nat:=((s.data.length:Int)-s.sent).toNat+if s.finSent=true then 0 else 1
@[grind] def po (y:Piec):Prop:=1<=y.off/\y.off+(y.text.length:Int)<=32
@[grind] def RO (r:Recv):Prop:=0<=r.next/\r.next<=4294967295/\r.data.length<=32/\r.held.length<=3/\dP po r.held
@[grind] def pl (n:Int) (y:Piec):Prop:=(y.text.length:Int)<=n
theorem ab6 {n:Int}{xs:List Piec}(h:dP (pl n) xs):dP (pl (n+1)) xs:=λy hy=>by have:=h y hy;simp only[pl]at*;omega
theorem abF {n:Int}{xs:List Piec}(h:dP (pl n) xs)(hn:0<=n)(i:Nat):((xs.getD i (Ty.zero .piec)).text.length:Int)<=n:=qo (p:=pl n) h (by have h0:(Ty.zero Ty.piec).text.length=0:=(by decide+kernel);simp only[pl];omega) i
theorem abX {n:Int}{xs:List Piec}(h:dP (pl n) xs)(hn:n<=4294967296):dP bD xs:=λy hy=>by have:=h y hy;simp only[pl,bD]at*;omega
theorem aaT {n:Int}{xs:List Piec}{y:Piec}{i:Nat}(h:dP (pl n) xs)(hy:pl n y):dP (pl n) (xs.set i y):=λz hz=>by
 rcases List.mem_or_eq_of_mem_set hz with h1|h1
 ·exact h z h1
 ·rw[h1];exact hy
theorem aat {n:Int}{xs:List Piec}{y:Piec}(h:dP (pl n) xs)(hy:pl n y):dP (pl n) (xs++[y]):=λz hz=>by
 rcases List.mem_append.1 hz with h1|h1
 ·exact h z h1
 ·rw[List.mem_singleton.1 h1];exact hy
theorem VG {α:Type}{p:α->Prop}{xs:List α}{n:Int}(h:dP p (xs.take n.toNat))(hn:(xs.length:Int)<=n):dP p xs:=by rwa [List.take_of_length_le (by omega)]at h
theorem P5 {α:Type}{p:α->Prop}{xs:List α}{n:Int}{d:α}(h:dP p (xs.take n.toNat))(h0:0<=n)(hn:n<xs.length)(hx:p (xs.getD n.toNat d)):dP p (xs.take (n+1).toNat):=by
 rw[show(n+1).toNat=n.toNat+1 by omega,List.take_succ_eq_append_getElem (by omega)]
 intro y hy
 rcases List.mem_append.1 hy with hy|hy
 ·exact h y hy
 ·rw[List.mem_singleton]at hy
  subst hy
  rwa [show xs.getD n.toNat d=xs[n.toNat] by simp[List.getD,show n.toNat<xs.length by omega]]at hx
theorem Zz {xs:List Piec}{n:Int}(h:dP po (xs.take n.toNat))(h0:0<=n)(hn:n<xs.length)(hx:po (xs.getD n.toNat (Ty.zero .piec))):dP po (xs.take (n+1).toNat):=P5 h h0 hn hx
theorem aa5 {xs:List Piec}{n:Int}(h:dP po (xs.take n.toNat))(hn:(xs.length:Int)<=n):dP po xs:=VG h hn
@[grind] def Wv (r:Recv):Int:=if r.done=true then 0 else 32-(r.data.length:Int)
@[grind] def pw (n:Int) (y:Piec):Prop:=1<=y.off/\y.off+(y.text.length:Int)<=n
theorem ZW {xs:List Piec}{n L:Int}(h:dP (pw L) (xs.take n.toNat))(h0:0<=n)(hn:n<xs.length)(hx:pw L (xs.getD n.toNat (Ty.zero .piec))):dP (pw L) (xs.take (n+1).toNat):=P5 h h0 hn hx
theorem aa1 {xs:List Piec}{n L:Int}(h:dP (pw L) (xs.take n.toNat))(hn:(xs.length:Int)<=n):dP (pw L) xs:=VG h hn
theorem abV {xs:List Piec}{L M:Int}(h:dP (pw L) xs)(hl:L<=M):dP (pw M) xs:=λy hy=>by have:=h y hy;unfold pw at*;omega
theorem abM {xs:List Piec}{L:Int}(h:dP (pw L) xs)(hl:L<=32):dP po xs:=λy hy=>by have:=h y hy;unfold pw at this;unfold po;omega
theorem abN {xs:List Piec}{L:Int}{i:Nat}(h:dP (pw L) xs)(hi:i<xs.length):pw L (xs.getD i (Ty.zero .piec)):=h _ (by rw[List.getD,List.getElem?_eq_getElem hi];exact List.getElem_mem hi)
theorem ab1 {xs:List Piec}{i:Nat}(h:dP po xs)(hi:i<xs.length):po (xs.getD i (Ty.zero .piec)):=h _ (by rw[List.getD,List.getElem?_eq_getElem hi];exact List.getElem_mem hi)
instance:Inhabited Arpm:=⟨Ty.zero .arpm⟩
instance:Inhabited Chun:=⟨Ty.zero .chun⟩
instance:Inhabited Clie:=⟨Ty.zero .clie⟩
instance:Inhabited Conn:=⟨Ty.zero .conn⟩
instance:Inhabited Door:=⟨Ty.zero .door⟩
instance:Inhabited Entr:=⟨Ty.zero .entr⟩
instance:Inhabited Fram:=⟨Ty.zero .fram⟩
instance:Inhabited Half:=⟨Ty.zero .half⟩
instance:Inhabited Issu:=⟨Ty.zero .issu⟩
instance:Inhabited Keys:=⟨Ty.zero .keys⟩
instance:Inhabited Limi:=⟨Ty.zero .limi⟩
instance:Inhabited Link:=⟨Ty.zero .link⟩
instance:Inhabited Mac:=⟨Ty.zero .mac⟩
instance:Inhabited MacRow:=⟨Ty.zero .macRow⟩
instance:Inhabited Opti:=⟨Ty.zero .opti⟩
instance:Inhabited Pack:=⟨Ty.zero .pack⟩
instance:Inhabited Piec:=⟨Ty.zero .piec⟩
instance:Inhabited Recv:=⟨Ty.zero .recv⟩
instance:Inhabited Resu:=⟨Ty.zero .resu⟩
instance:Inhabited Segm:=⟨Ty.zero .segm⟩
instance:Inhabited Sipr:=⟨Ty.zero .sipr⟩
instance:Inhabited Sndr:=⟨Ty.zero .sndr⟩
instance:Inhabited Stac:=⟨Ty.zero .stac⟩
instance:Inhabited Tabl:=⟨Ty.zero .tabl⟩
instance:Inhabited Tupl:=⟨Ty.zero .tupl⟩
end Go.Proofs.YtbkjnlihfgkkaaaGreat
