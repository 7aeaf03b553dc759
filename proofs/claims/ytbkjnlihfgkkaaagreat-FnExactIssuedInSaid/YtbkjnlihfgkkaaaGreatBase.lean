/- The table of types of this seat, and its closed facts. -/
import Derived.Test.YtbkjnlihfgkkaaaGreatPure
import Derived.Test.YtbkjnlihfgkkaaaGreatRows
import Derived.KernelRfl
set_option linter.unusedVariables false
set_option linter.unusedSimpArgs false
namespace Go.Proofs.YtbkjnlihfgkkaaaGreat
open Go Go.RowKit
def te:TE:=[
 (2,.sc (.int .i64)),
 (3,.sc (.int .i64)),
 (4,.sc .bool),
 (5,.sc (.int .u8)),
 (6,.sc (.int .u8)),
 (9,.sc .str),
 (10,.sc .str),
 (11,.sc .str),
 (12,.sc (.int .u64)),
 (21,.sc (.int .i32)),
 (22,.sc (.int .u64)),
 (23,.sl .macRow 24),
 (25,.st .mac [(0,4),(1,22),(2,22),(3,23)]),
 (27,.st .keys [(0,3),(1,25),(5,25),(9,4)]),
 (29,.st .limi [(0,3),(1,3),(2,3),(3,3)]),
 (30,.sl .half 96),
 (31,.sl .conn 208),
 (32,.sl .tupl 24),
 (34,.st .tabl [(0,31),(1,32)]),
 (36,.st .door [(0,3),(1,3),(2,27),(12,29),(16,30),(17,34),(19,3)]),
 (39,.sl .macRow 24),
 (41,.st .mac [(0,4),(1,22),(2,22),(3,39)]),
 (43,.st .keys [(0,3),(1,41),(5,41),(9,4)]),
 (44,.st .limi [(0,3),(1,3),(2,3),(3,3)]),
 (45,.sl .half 96),
 (46,.sl .conn 208),
 (47,.sl .tupl 24),
 (49,.st .tabl [(0,46),(1,47)]),
 (51,.st .door [(0,3),(1,3),(2,43),(12,44),(16,45),(17,49),(19,3)]),
 (60,.sl .entr 24),
 (62,.st .link [(0,3),(1,3),(2,60)]),
 (64,.st .stac [(0,62),(3,36)]),
 (65,.sl .str 16),
 (67,.st .tupl [(0,3),(1,3),(2,3)]),
 (69,.st .resu [(0,65),(1,3),(2,67),(5,3),(6,9),(7,4)]),
 (72,.sl .issu 40),
 (74,.sl .entr 24),
 (76,.st .link [(0,3),(1,3),(2,74)]),
 (78,.st .stac [(0,76),(3,51)]),
 (80,.st .tupl [(0,3),(1,3),(2,3)]),
 (82,.st .resu [(0,65),(1,3),(2,80),(5,3),(6,9),(7,4)]),
 (92,.st .opti [(0,3),(1,3),(2,4),(3,4),(4,3),(5,3)]),
 (94,.st .segm [(0,3),(1,3),(2,3),(3,3),(4,3),(5,3),(6,92),(12,9)]),
 (96,.sl .segm 104),
 (100,.st .opti [(0,3),(1,3),(2,4),(3,4),(4,3),(5,3)]),
 (102,.st .segm [(0,3),(1,3),(2,3),(3,3),(4,3),(5,3),(6,100),(12,9)]),
 (117,.st .clie [(0,67),(3,3),(4,92),(10,3)]),
 (118,.sl .mac 48),
 (121,.st .sndr [(0,3),(1,9),(2,3),(3,4),(4,4),(5,4)]),
 (122,.sl .piec 24),
 (124,.st .recv [(0,3),(1,9),(2,122),(3,3),(4,4)]),
 (126,.st .conn [(0,80),(3,3),(4,121),(10,124),(15,3),(16,3),(17,100),(23,3),(24,3)]),
 (130,.st .clie [(0,80),(3,3),(4,100),(10,3)]),
 (132,.sl .mac 48),
 (161,.st .pack [(0,3),(1,3),(2,3),(3,3),(4,3),(5,9)]),
 (167,.st .issu [(0,80),(3,3),(4,3)]),
 (178,.st .half [(0,80),(3,3),(4,3),(5,100),(11,3),(12,3)]),
 (223,.st .macRow [(0,9),(1,3)]),
 (231,.st .half [(0,67),(3,3),(4,3),(5,92),(11,3),(12,3)]),
 (234,.st .macRow [(0,9),(1,3)]),
 (245,.st .fram [(0,3),(1,3),(2,3),(3,9)]),
 (266,.sl .u8 1),
 (268,.sc (.int .u64)),
 (300,.st .arpm [(0,3),(1,3),(2,3),(3,3),(4,3)]),
 (311,.st .sndr [(0,3),(1,9),(2,3),(3,4),(4,4),(5,4)]),
 (312,.sl .piec 24),
 (314,.st .recv [(0,3),(1,9),(2,312),(3,3),(4,4)]),
 (316,.st .conn [(0,67),(3,3),(4,311),(10,314),(15,3),(16,3),(17,92),(23,3),(24,3)]),
 (323,.st .entr [(0,3),(1,3),(2,3)]),
 (325,.st .entr [(0,3),(1,3),(2,3)]),
 (334,.sl .i64 8),
 (343,.st .chun [(0,3),(1,9),(2,4)]),
 (360,.st .piec [(0,3),(1,9)]),
 (371,.sl .bool 1),
 (382,.st .sipr [(0,22),(1,22),(2,22),(3,22)]),
 (388,.sc (.int .u32)),
 (391,.st .piec [(0,3),(1,9)]),
 (403,.sc (.int .u8)),
 (404,.sc (.int .u8)),
 (406,.ptr),
 (407,.sc (.int .i32)),
 (408,.sc (.int .i32)),
 (1000018,.wr [true]),
 (1000019,.wr [true]),
 (1000030,.wr [true]),
 (1000031,.wr [true]),
 (1000032,.wr [true]),
 (1000040,.wr [true]),
 (1000049,.wr [true]),
 (1000059,.wr [true]),
 (1000060,.wr [true]),
 (1000080,.wr [true]),
 (1000081,.wr [true]),
 (1000082,.wr [true]),
 (1000083,.wr [true]),
 (1000100,.wr [true]),
 (1000161,.wr [true]),
 (1000185,.wr [true]),
 (1000186,.wr [true]),
 (1000198,.wr [true]),
 (1000207,.wr [false,true]),
 (1000212,.wr [false,true]),
 (1000214,.wr [false,true]),
 (1000242,.wr [true]),
 (1000274,.wr [true]),
 (1000281,.wr [false,true]),
 (1000336,.wr [true]),
 (1000350,.wr [false,true]),
 (1000414,.wr [true]),
 (1000415,.wr [true]),
 (1000416,.wr [true]),
 (1000417,.wr [true]),
 (1000418,.wr [true]),
 (4000045,.wr []),
 (4000074,.wr [])]
theorem A0:dd te Tryz.prog=true:=by kernel_rfl
theorem Cu:xC te Tryz.prog=true:=by kernel_rfl
theorem Cv:laidOutB Tryz.prog=true:=by kernel_rfl
theorem BP:ownKnob Tryz.prog.godebug=none:=by kernel_rfl
theorem x9:Tryz.prog.follows .mixedOrders=true:=by kernel_rfl
def st:Seat Tryz.prog:=⟨te,A0,x9⟩
def DX:TE:=(5000000,.wr [])::te
theorem Bo:dd DX Tryz.prog=true:=by kernel_rfl
def aY:Seat Tryz.prog:=⟨DX,Bo,x9⟩
def Cs (o0:Ow)(x:Conn):List RC:=[.c (.int .i64 x.tuple.ip),.c (.int .i64 x.tuple.port),.c (.int .i64 x.tuple.my),.c (.int .i64 x.state),.c (.int .i64 x.s.una),.c (.str x.s.data),.c (.int .i64 x.s.sent),.c (.bool x.s.fin),.c (.bool x.s.finSent),.c (.bool x.s.done),.c (.int .i64 x.r.next),.c (.str x.r.data),sc o0 .piec x.r.held,.c (.int .i64 x.r.fin),.c (.bool x.r.done),.c (.int .i64 x.window),.c (.int .i64 x.most),.c (.int .i64 x.opts.mss),.c (.int .i64 x.opts.scale),.c (.bool x.opts.sack),.c (.bool x.opts.stamp),.c (.int .i64 x.opts.val),.c (.int .i64 x.opts.echo),.c (.int .i64 x.timer),.c (.int .i64 x.tries)]
def CM (o0 o1 o2 o3 o4:Ow)(x:Door):List RC:=[.c (.int .i64 x.port),.c (.int .i64 x.clock),.c (.int .i64 x.keys.epoch),.c (.bool x.keys.now.use),.c (.int .u64 x.keys.now.k),.c (.int .u64 x.keys.now.l),sc o0 .macRow x.keys.now.rows,.c (.bool x.keys.before.use),.c (.int .u64 x.keys.before.k),.c (.int .u64 x.keys.before.l),sc o1 .macRow x.keys.before.rows,.c (.bool x.keys.two),.c (.int .i64 x.limits.halves),.c (.int .i64 x.limits.waiting),.c (.int .i64 x.limits.conns),.c (.int .i64 x.limits.chal),sc o2 .half x.halves,sc o3 .conn x.table.conns,sc o4 .tupl x.table.waiting,.c (.int .i64 x.chal)]
def C0 (x:Entr):List RC:=[.c (.int .i64 x.ip),.c (.int .i64 x.hw),.c (.int .i64 x.age)]
def A8 (x:Fram):List RC:=[.c (.int .i64 x.dst),.c (.int .i64 x.src),.c (.int .i64 x.type),.c (.str x.body)]
def CB (x:Half):List RC:=[.c (.int .i64 x.tuple.ip),.c (.int .i64 x.tuple.port),.c (.int .i64 x.tuple.my),.c (.int .i64 x.iss),.c (.int .i64 x.irs),.c (.int .i64 x.opts.mss),.c (.int .i64 x.opts.scale),.c (.bool x.opts.sack),.c (.bool x.opts.stamp),.c (.int .i64 x.opts.val),.c (.int .i64 x.opts.echo),.c (.int .i64 x.age),.c (.int .i64 x.window)]
def CQ (o0 o1:Ow)(x:Keys):List RC:=[.c (.int .i64 x.epoch),.c (.bool x.now.use),.c (.int .u64 x.now.k),.c (.int .u64 x.now.l),sc o0 .macRow x.now.rows,.c (.bool x.before.use),.c (.int .u64 x.before.k),.c (.int .u64 x.before.l),sc o1 .macRow x.before.rows,.c (.bool x.two)]
def Da (x:Limi):List RC:=[.c (.int .i64 x.halves),.c (.int .i64 x.waiting),.c (.int .i64 x.conns),.c (.int .i64 x.chal)]
def CP (o0:Ow)(x:Link):List RC:=[.c (.int .i64 x.mac),.c (.int .i64 x.ip),sc o0 .entr x.cache]
def Dp (o0:Ow)(x:Mac):List RC:=[.c (.bool x.use),.c (.int .u64 x.k),.c (.int .u64 x.l),sc o0 .macRow x.rows]
def zS (x:MacRow):List RC:=[.c (.str x.input),.c (.int .i64 x.value)]
def oi (x:Opti):List RC:=[.c (.int .i64 x.mss),.c (.int .i64 x.scale),.c (.bool x.sack),.c (.bool x.stamp),.c (.int .i64 x.val),.c (.int .i64 x.echo)]
def uK (x:Pack):List RC:=[.c (.int .i64 x.src),.c (.int .i64 x.dst),.c (.int .i64 x.ttl),.c (.int .i64 x.proto),.c (.int .i64 x.id),.c (.str x.body)]
def CS (x:Piec):List RC:=[.c (.int .i64 x.off),.c (.str x.text)]
def CJ (o0:Ow)(x:Recv):List RC:=[.c (.int .i64 x.next),.c (.str x.data),sc o0 .piec x.held,.c (.int .i64 x.fin),.c (.bool x.done)]
def C1 (o0:Ow)(x:Resu):List RC:=[sc o0 .str x.frames,.c (.int .i64 x.made),.c (.int .i64 x.tuple.ip),.c (.int .i64 x.tuple.port),.c (.int .i64 x.tuple.my),.c (.int .i64 x.n),.c (.str x.text),.c (.bool x.ok)]
def uD (x:Segm):List RC:=[.c (.int .i64 x.from_),.c (.int .i64 x.to),.c (.int .i64 x.seq),.c (.int .i64 x.ack),.c (.int .i64 x.flags),.c (.int .i64 x.window),.c (.int .i64 x.opts.mss),.c (.int .i64 x.opts.scale),.c (.bool x.opts.sack),.c (.bool x.opts.stamp),.c (.int .i64 x.opts.val),.c (.int .i64 x.opts.echo),.c (.str x.body)]
def CF (x:Sndr):List RC:=[.c (.int .i64 x.una),.c (.str x.data),.c (.int .i64 x.sent),.c (.bool x.fin),.c (.bool x.finSent),.c (.bool x.done)]
def CR (o0 o1 o2 o3 o4 o5:Ow)(x:Stac):List RC:=[.c (.int .i64 x.link.mac),.c (.int .i64 x.link.ip),sc o0 .entr x.link.cache,.c (.int .i64 x.door.port),.c (.int .i64 x.door.clock),.c (.int .i64 x.door.keys.epoch),.c (.bool x.door.keys.now.use),.c (.int .u64 x.door.keys.now.k),.c (.int .u64 x.door.keys.now.l),sc o1 .macRow x.door.keys.now.rows,.c (.bool x.door.keys.before.use),.c (.int .u64 x.door.keys.before.k),.c (.int .u64 x.door.keys.before.l),sc o2 .macRow x.door.keys.before.rows,.c (.bool x.door.keys.two),.c (.int .i64 x.door.limits.halves),.c (.int .i64 x.door.limits.waiting),.c (.int .i64 x.door.limits.conns),.c (.int .i64 x.door.limits.chal),sc o3 .half x.door.halves,sc o4 .conn x.door.table.conns,sc o5 .tupl x.door.table.waiting,.c (.int .i64 x.door.chal)]
def C2 (o0 o1:Ow)(x:Tabl):List RC:=[sc o0 .conn x.conns,sc o1 .tupl x.waiting]
def Ch (x:Tupl):List RC:=[.c (.int .i64 x.ip),.c (.int .i64 x.port),.c (.int .i64 x.my)]
@[grind] def DB (x:Chun):Prop:=x.text.length≤4294967296
@[grind] def be (x:Piec):Prop:=x.text.length≤4294967296
@[grind! .] theorem C9 {xs:List Piec} (h:eF be xs) (i:Nat):be (xs.getD i (Ty.zero .piec)):=iT h (by unfold be;(repeat' apply And.intro);all_goals first|exact λ_ h=>absurd h (List.not_mem_nil)|decide+kernel) i
@[grind=] theorem Cg (xs:List Piec) (i:Nat):xs.getD i (Ty.zero .piec)=yB (xs.getD i (Ty.zero .piec)) (be (xs.getD i (Ty.zero .piec))):=rfl
@[grind] def aG (x:Conn):Prop:=x.s.data.length≤4294967296∧x.r.data.length≤4294967296∧x.r.held.length≤4294967296∧eF be x.r.held
@[grind! .] theorem Co {xs:List Conn} (h:eF aG xs) (i:Nat):aG (xs.getD i (Ty.zero .conn)):=iT h (by unfold aG;(repeat' apply And.intro);all_goals first|exact λ_ h=>absurd h (List.not_mem_nil)|decide+kernel) i
@[grind=] theorem B6 (xs:List Conn) (i:Nat):xs.getD i (Ty.zero .conn)=yB (xs.getD i (Ty.zero .conn)) (aG (xs.getD i (Ty.zero .conn))):=rfl
@[grind] def ao (x:MacRow):Prop:=x.input.length≤4294967296
@[grind! .] theorem BV {xs:List MacRow} (h:eF ao xs) (i:Nat):ao (xs.getD i (Ty.zero .macRow)):=iT h (by unfold ao;(repeat' apply And.intro);all_goals first|exact λ_ h=>absurd h (List.not_mem_nil)|decide+kernel) i
@[grind=] theorem A9 (xs:List MacRow) (i:Nat):xs.getD i (Ty.zero .macRow)=yB (xs.getD i (Ty.zero .macRow)) (ao (xs.getD i (Ty.zero .macRow))):=rfl
@[grind] def em (x:Door):Prop:=x.keys.now.rows.length≤4294967296∧eF ao x.keys.now.rows∧x.keys.before.rows.length≤4294967296∧eF ao x.keys.before.rows∧x.halves.length≤4294967296∧x.table.conns.length≤4294967296∧eF aG x.table.conns∧x.table.waiting.length≤4294967296
@[grind] def pW (x:Fram):Prop:=x.body.length≤4294967296
@[grind] def hU (x:Keys):Prop:=x.now.rows.length≤4294967296∧eF ao x.now.rows∧x.before.rows.length≤4294967296∧eF ao x.before.rows
@[grind] def nH (x:Link):Prop:=x.cache.length≤4294967296
@[grind] def eG (x:Mac):Prop:=x.rows.length≤4294967296∧eF ao x.rows
@[grind! .] theorem Dc {xs:List Mac} (h:eF eG xs) (i:Nat):eG (xs.getD i (Ty.zero .mac)):=iT h (by unfold eG;(repeat' apply And.intro);all_goals first|exact λ_ h=>absurd h (List.not_mem_nil)|decide+kernel) i
@[grind=] theorem CZ (xs:List Mac) (i:Nat):xs.getD i (Ty.zero .mac)=yB (xs.getD i (Ty.zero .mac)) (eG (xs.getD i (Ty.zero .mac))):=rfl
@[grind] def pX (x:Pack):Prop:=x.body.length≤4294967296
@[grind] def pV (x:Recv):Prop:=x.data.length≤4294967296∧x.held.length≤4294967296∧eF be x.held
@[grind] def fc (x:Resu):Prop:=x.frames.length≤4294967296∧eF sS x.frames∧x.text.length≤4294967296
@[grind] def gU (x:Segm):Prop:=x.body.length≤4294967296
@[grind! .] theorem Ci {xs:List Segm} (h:eF gU xs) (i:Nat):gU (xs.getD i (Ty.zero .segm)):=iT h (by unfold gU;(repeat' apply And.intro);all_goals first|exact λ_ h=>absurd h (List.not_mem_nil)|decide+kernel) i
@[grind=] theorem Ca (xs:List Segm) (i:Nat):xs.getD i (Ty.zero .segm)=yB (xs.getD i (Ty.zero .segm)) (gU (xs.getD i (Ty.zero .segm))):=rfl
@[grind] def yd (x:Sndr):Prop:=x.data.length≤4294967296
@[grind] def ep (x:Stac):Prop:=x.link.cache.length≤4294967296∧x.door.keys.now.rows.length≤4294967296∧eF ao x.door.keys.now.rows∧x.door.keys.before.rows.length≤4294967296∧eF ao x.door.keys.before.rows∧x.door.halves.length≤4294967296∧x.door.table.conns.length≤4294967296∧eF aG x.door.table.conns∧x.door.table.waiting.length≤4294967296
@[grind] def gX (x:Tabl):Prop:=x.conns.length≤4294967296∧eF aG x.conns∧x.waiting.length≤4294967296
@[grind] def SO (s:Sndr):Prop:=0≤s.una∧s.una≤4294967295∧s.data.length≤48∧0≤s.sent∧s.sent≤s.data.length∧(s.finSent=true→s.fin=true∧s.sent=s.data.length)∧(s.done=true→s.fin=true∧s.finSent=false∧s.data=[])
@[grind] def Ej (s:Sndr):Nat:=((s.data.length:Int)-s.sent).toNat+if s.finSent=true then 0 else 1
@[grind] def po (y:Piec):Prop:=1≤y.off∧y.off+(y.text.length:Int)≤32
@[grind] def RO (r:Recv):Prop:=0≤r.next∧r.next≤4294967295∧r.data.length≤32∧r.held.length≤3∧eF po r.held
@[grind] def pl (n:Int) (y:Piec):Prop:=(y.text.length:Int)≤n
@[grind] def Ec (r:Recv):Int:=if r.done=true then 0 else 32-(r.data.length:Int)
@[grind] def pw (n:Int) (y:Piec):Prop:=1≤y.off∧y.off+(y.text.length:Int)≤n
instance:Inhabited Arpm:=⟨Ty.zero .arpm⟩
instance:Inhabited Chun:=⟨Ty.zero .chun⟩
instance:Inhabited Clie:=⟨Ty.zero .clie⟩
instance:Inhabited Conn:=⟨Ty.zero .conn⟩
instance:Inhabited Door:=⟨Ty.zero .door⟩
instance:Inhabited Entr:=⟨Ty.zero .entr⟩
instance:Inhabited Fram:=⟨Ty.zero .fram⟩
instance:Inhabited Half:=⟨Ty.zero .half⟩
instance:Inhabited Issu:=⟨Ty.zero .issu⟩
instance:Inhabited Keys:=⟨Ty.zero .keys⟩
instance:Inhabited Limi:=⟨Ty.zero .limi⟩
instance:Inhabited Link:=⟨Ty.zero .link⟩
instance:Inhabited Mac:=⟨Ty.zero .mac⟩
instance:Inhabited MacRow:=⟨Ty.zero .macRow⟩
instance:Inhabited Opti:=⟨Ty.zero .opti⟩
instance:Inhabited Pack:=⟨Ty.zero .pack⟩
instance:Inhabited Piec:=⟨Ty.zero .piec⟩
instance:Inhabited Recv:=⟨Ty.zero .recv⟩
instance:Inhabited Resu:=⟨Ty.zero .resu⟩
instance:Inhabited Segm:=⟨Ty.zero .segm⟩
instance:Inhabited Sipr:=⟨Ty.zero .sipr⟩
instance:Inhabited Sndr:=⟨Ty.zero .sndr⟩
instance:Inhabited Stac:=⟨Ty.zero .stac⟩
instance:Inhabited Tabl:=⟨Ty.zero .tabl⟩
instance:Inhabited Tupl:=⟨Ty.zero .tupl⟩
end Go.Proofs.YtbkjnlihfgkkaaaGreat
