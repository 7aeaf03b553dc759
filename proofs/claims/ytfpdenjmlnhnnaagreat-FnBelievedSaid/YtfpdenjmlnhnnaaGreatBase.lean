/- The table of types of this seat, and its closed facts. -/
import Derived.Test.YtfpdenjmlnhnnaaGreatPure
import Derived.Test.YtfpdenjmlnhnnaaGreatRows
import Derived.KernelRfl
set_option linter.unusedVariables false
set_option linter.unusedSimpArgs false
namespace Go.Proofs.YtfpdenjmlnhnnaaGreat
open Go Go.RowKit
def te:TE:=[
 (2,.sc (.int .i64)),
 (3,.sc (.int .i64)),
 (4,.sc .bool),
 (5,.sc (.int .u8)),
 (6,.sc (.int .u8)),
 (9,.sc .str),
 (10,.sc .str),
 (11,.sc .str),
 (12,.sc (.int .u64)),
 (21,.sc (.int .i32)),
 (22,.sl .u8 1),
 (24,.sl .entr 24),
 (26,.st .link [(0,3),(1,3),(2,24)]),
 (27,.sc (.int .u64)),
 (28,.sl .macRow 24),
 (30,.st .mac [(0,4),(1,27),(2,27),(3,28)]),
 (32,.st .keys [(0,3),(1,30),(5,30),(9,4)]),
 (34,.st .limi [(0,3),(1,3),(2,3),(3,3)]),
 (35,.sl .half 96),
 (36,.sl .conn 208),
 (37,.sl .tupl 24),
 (39,.st .tabl [(0,36),(1,37)]),
 (41,.st .door [(0,3),(1,3),(2,32),(12,34),(16,35),(17,39),(19,3)]),
 (43,.st .stac [(0,26),(3,41)]),
 (44,.sl .acti 104),
 (47,.sl .issu 40),
 (50,.st .tupl [(0,3),(1,3),(2,3)]),
 (52,.st .issu [(0,50),(3,3),(4,3)]),
 (56,.st .acti [(0,3),(1,50),(4,3),(5,9),(6,30)]),
 (60,.sl .str 16),
 (62,.st .resu [(0,60),(1,3),(2,50),(5,3),(6,9),(7,4)]),
 (66,.sl .resu 88),
 (80,.st .opti [(0,3),(1,3),(2,4),(3,4),(4,3),(5,3)]),
 (82,.st .clie [(0,50),(3,3),(4,80),(10,3)]),
 (84,.st .sndr [(0,3),(1,9),(2,3),(3,4),(4,4),(5,4)]),
 (85,.sl .piec 24),
 (87,.st .recv [(0,3),(1,9),(2,85),(3,3),(4,4)]),
 (89,.st .conn [(0,50),(3,3),(4,84),(10,87),(15,3),(16,3),(17,80),(23,3),(24,3)]),
 (93,.sl .entr 24),
 (95,.st .link [(0,3),(1,3),(2,93)]),
 (96,.sl .macRow 24),
 (98,.st .mac [(0,4),(1,27),(2,27),(3,96)]),
 (100,.st .keys [(0,3),(1,98),(5,98),(9,4)]),
 (101,.st .limi [(0,3),(1,3),(2,3),(3,3)]),
 (102,.sl .half 96),
 (103,.sl .conn 208),
 (104,.sl .tupl 24),
 (106,.st .tabl [(0,103),(1,104)]),
 (108,.st .door [(0,3),(1,3),(2,100),(12,101),(16,102),(17,106),(19,3)]),
 (110,.st .stac [(0,95),(3,108)]),
 (111,.st .tupl [(0,3),(1,3),(2,3)]),
 (113,.st .acti [(0,3),(1,111),(4,3),(5,9),(6,98)]),
 (140,.st .pack [(0,3),(1,3),(2,3),(3,3),(4,3),(5,9)]),
 (142,.st .segm [(0,3),(1,3),(2,3),(3,3),(4,3),(5,3),(6,80),(12,9)]),
 (152,.st .piec [(0,3),(1,9)]),
 (156,.sl .segm 104),
 (161,.ptr),
 (171,.sl .mac 48),
 (219,.st .fram [(0,3),(1,3),(2,3),(3,9)]),
 (225,.st .entr [(0,3),(1,3),(2,3)]),
 (233,.st .half [(0,50),(3,3),(4,3),(5,80),(11,3),(12,3)]),
 (236,.sl .mail 112),
 (240,.st .mail [(0,3),(1,142)]),
 (250,.st .curs [(0,22),(1,3),(2,3)]),
 (252,.sl .i64 8),
 (260,.st .macRow [(0,9),(1,3)]),
 (292,.sc (.int .u64)),
 (321,.st .arpm [(0,3),(1,3),(2,3),(3,3),(4,3)]),
 (350,.st .macRow [(0,9),(1,3)]),
 (352,.st .entr [(0,3),(1,3),(2,3)]),
 (354,.st .opti [(0,3),(1,3),(2,4),(3,4),(4,3),(5,3)]),
 (356,.st .half [(0,111),(3,3),(4,3),(5,354),(11,3),(12,3)]),
 (379,.st .sipr [(0,27),(1,27),(2,27),(3,27)]),
 (392,.st .chun [(0,3),(1,9),(2,4)]),
 (414,.st .sndr [(0,3),(1,9),(2,3),(3,4),(4,4),(5,4)]),
 (415,.sl .piec 24),
 (417,.st .recv [(0,3),(1,9),(2,415),(3,3),(4,4)]),
 (419,.st .conn [(0,111),(3,3),(4,414),(10,417),(15,3),(16,3),(17,354),(23,3),(24,3)]),
 (434,.sl .bool 1),
 (452,.sc (.int .u32)),
 (462,.st .piec [(0,3),(1,9)]),
 (473,.sc (.int .u8)),
 (474,.sc (.int .u8)),
 (476,.ptr),
 (477,.sc (.int .i32)),
 (478,.sc (.int .i32)),
 (1000079,.wr [true]),
 (1000080,.wr [true,false]),
 (1000110,.wr [true]),
 (1000111,.wr [true,false]),
 (1000112,.wr [true,false]),
 (1000113,.wr [true,false]),
 (1000114,.wr [true]),
 (1000159,.wr [false,true]),
 (1000169,.wr [true,true]),
 (1000171,.wr [true,true]),
 (1000173,.wr [true,true]),
 (1000182,.wr [true,false]),
 (1000183,.wr [true,false]),
 (1000184,.wr [true]),
 (1000185,.wr [true]),
 (1000186,.wr [true]),
 (1000190,.wr [false,true]),
 (1000224,.wr [true]),
 (1000225,.wr [true]),
 (1000227,.wr [true,false]),
 (1000228,.wr [true]),
 (1000229,.wr [true]),
 (1000230,.wr [true]),
 (1000273,.wr [false,true]),
 (1000274,.wr [false,true]),
 (1000287,.wr [true,true]),
 (1000297,.wr [true]),
 (1000298,.wr [true]),
 (1000299,.wr [true]),
 (1000300,.wr [true]),
 (1000302,.wr [false,true]),
 (1000310,.wr [true,false,false]),
 (1000333,.wr [true]),
 (1000334,.wr [true]),
 (1000335,.wr [true]),
 (1000336,.wr [true,false,false]),
 (1000338,.wr [true]),
 (1000339,.wr [true,false]),
 (1000340,.wr [true,false]),
 (1000342,.wr [true]),
 (1000343,.wr [true]),
 (1000344,.wr [true]),
 (1000345,.wr [true]),
 (1000346,.wr [true]),
 (1000347,.wr [true]),
 (1000382,.wr [false,true]),
 (1000384,.wr [true,false,false]),
 (1000395,.wr [true]),
 (1000415,.wr [true]),
 (1000416,.wr [true,false]),
 (1000417,.wr [true]),
 (1000418,.wr [true,false]),
 (1000419,.wr [true,false,false]),
 (1000420,.wr [true,false]),
 (1000421,.wr [true,false]),
 (1000422,.wr [true]),
 (1000423,.wr [true]),
 (1000424,.wr [true]),
 (1000425,.wr [true]),
 (1000426,.wr [true,false]),
 (1000427,.wr [true]),
 (1000457,.wr [true]),
 (1000458,.wr [true]),
 (1000459,.wr [true]),
 (1000460,.wr [true,false]),
 (1000461,.wr [true]),
 (1000462,.wr [true,false]),
 (1000463,.wr [true]),
 (1000464,.wr [true]),
 (1000465,.wr [true]),
 (1000483,.wr [true]),
 (1000485,.wr [true]),
 (1000486,.wr [true]),
 (1000506,.wr [true]),
 (1000507,.wr [true]),
 (1000508,.wr [true]),
 (1000509,.wr [true]),
 (1000510,.wr [true]),
 (4000024,.wr []),
 (4000035,.wr []),
 (4000036,.wr []),
 (4000037,.wr [])]
theorem aaW:j7 te Tryz.prog=true:=by kernel_rfl
theorem aes:Xq te Tryz.prog=true:=by kernel_rfl
theorem ae9:laidOutB Tryz.prog=true:=by kernel_rfl
theorem adu:ownKnob Tryz.prog.godebug=none:=by kernel_rfl
theorem adg:Tryz.prog.follows .mixedOrders=true:=by kernel_rfl
def st:Seat Tryz.prog:=⟨te,aaW,adg⟩
def abt (o0:Ow)(x:Acti):List RC:=[.c (.int .i64 x.kind),.c (.int .i64 x.tuple.ip),.c (.int .i64 x.tuple.port),.c (.int .i64 x.tuple.my),.c (.int .i64 x.n),.c (.str x.text),.c (.bool x.mac.use),.c (.int .u64 x.mac.k),.c (.int .u64 x.mac.l),sc o0 .macRow x.mac.rows]
def ML (x:Arpm):List RC:=[.c (.int .i64 x.kind),.c (.int .i64 x.srcHw),.c (.int .i64 x.srcIp),.c (.int .i64 x.dstHw),.c (.int .i64 x.dstIp)]
def abQ (x:Chun):List RC:=[.c (.int .i64 x.seq),.c (.str x.text),.c (.bool x.fin)]
def fh (o0:Ow)(x:Conn):List RC:=[.c (.int .i64 x.tuple.ip),.c (.int .i64 x.tuple.port),.c (.int .i64 x.tuple.my),.c (.int .i64 x.state),.c (.int .i64 x.s.una),.c (.str x.s.data),.c (.int .i64 x.s.sent),.c (.bool x.s.fin),.c (.bool x.s.finSent),.c (.bool x.s.done),.c (.int .i64 x.r.next),.c (.str x.r.data),sc o0 .piec x.r.held,.c (.int .i64 x.r.fin),.c (.bool x.r.done),.c (.int .i64 x.window),.c (.int .i64 x.most),.c (.int .i64 x.opts.mss),.c (.int .i64 x.opts.scale),.c (.bool x.opts.sack),.c (.bool x.opts.stamp),.c (.int .i64 x.opts.val),.c (.int .i64 x.opts.echo),.c (.int .i64 x.timer),.c (.int .i64 x.tries)]
def kC (o0 o1 o2 o3 o4:Ow)(x:Door):List RC:=[.c (.int .i64 x.port),.c (.int .i64 x.clock),.c (.int .i64 x.keys.epoch),.c (.bool x.keys.now.use),.c (.int .u64 x.keys.now.k),.c (.int .u64 x.keys.now.l),sc o0 .macRow x.keys.now.rows,.c (.bool x.keys.before.use),.c (.int .u64 x.keys.before.k),.c (.int .u64 x.keys.before.l),sc o1 .macRow x.keys.before.rows,.c (.bool x.keys.two),.c (.int .i64 x.limits.halves),.c (.int .i64 x.limits.waiting),.c (.int .i64 x.limits.conns),.c (.int .i64 x.limits.chal),sc o2 .half x.halves,sc o3 .conn x.table.conns,sc o4 .tupl x.table.waiting,.c (.int .i64 x.chal)]
def WA (x:Fram):List RC:=[.c (.int .i64 x.dst),.c (.int .i64 x.src),.c (.int .i64 x.type),.c (.str x.body)]
def aeL (x:Half):List RC:=[.c (.int .i64 x.tuple.ip),.c (.int .i64 x.tuple.port),.c (.int .i64 x.tuple.my),.c (.int .i64 x.iss),.c (.int .i64 x.irs),.c (.int .i64 x.opts.mss),.c (.int .i64 x.opts.scale),.c (.bool x.opts.sack),.c (.bool x.opts.stamp),.c (.int .i64 x.opts.val),.c (.int .i64 x.opts.echo),.c (.int .i64 x.age),.c (.int .i64 x.window)]
def Wn (x:Issu):List RC:=[.c (.int .i64 x.tuple.ip),.c (.int .i64 x.tuple.port),.c (.int .i64 x.tuple.my),.c (.int .i64 x.seq),.c (.int .i64 x.cookie)]
def BI (o0 o1:Ow)(x:Keys):List RC:=[.c (.int .i64 x.epoch),.c (.bool x.now.use),.c (.int .u64 x.now.k),.c (.int .u64 x.now.l),sc o0 .macRow x.now.rows,.c (.bool x.before.use),.c (.int .u64 x.before.k),.c (.int .u64 x.before.l),sc o1 .macRow x.before.rows,.c (.bool x.two)]
def acF (x:Limi):List RC:=[.c (.int .i64 x.halves),.c (.int .i64 x.waiting),.c (.int .i64 x.conns),.c (.int .i64 x.chal)]
def BJ (o0:Ow)(x:Link):List RC:=[.c (.int .i64 x.mac),.c (.int .i64 x.ip),sc o0 .entr x.cache]
def KS (o0:Ow)(x:Mac):List RC:=[.c (.bool x.use),.c (.int .u64 x.k),.c (.int .u64 x.l),sc o0 .macRow x.rows]
def oU (x:Opti):List RC:=[.c (.int .i64 x.mss),.c (.int .i64 x.scale),.c (.bool x.sack),.c (.bool x.stamp),.c (.int .i64 x.val),.c (.int .i64 x.echo)]
def yc (x:Pack):List RC:=[.c (.int .i64 x.src),.c (.int .i64 x.dst),.c (.int .i64 x.ttl),.c (.int .i64 x.proto),.c (.int .i64 x.id),.c (.str x.body)]
def uw (o0:Ow)(x:Recv):List RC:=[.c (.int .i64 x.next),.c (.str x.data),sc o0 .piec x.held,.c (.int .i64 x.fin),.c (.bool x.done)]
def Rj (o0:Ow)(x:Resu):List RC:=[sc o0 .str x.frames,.c (.int .i64 x.made),.c (.int .i64 x.tuple.ip),.c (.int .i64 x.tuple.port),.c (.int .i64 x.tuple.my),.c (.int .i64 x.n),.c (.str x.text),.c (.bool x.ok)]
def oK (x:Segm):List RC:=[.c (.int .i64 x.from_),.c (.int .i64 x.to),.c (.int .i64 x.seq),.c (.int .i64 x.ack),.c (.int .i64 x.flags),.c (.int .i64 x.window),.c (.int .i64 x.opts.mss),.c (.int .i64 x.opts.scale),.c (.bool x.opts.sack),.c (.bool x.opts.stamp),.c (.int .i64 x.opts.val),.c (.int .i64 x.opts.echo),.c (.str x.body)]
def Fu (x:Sipr):List RC:=[.c (.int .u64 x.a),.c (.int .u64 x.b),.c (.int .u64 x.c),.c (.int .u64 x.d)]
def uo (x:Sndr):List RC:=[.c (.int .i64 x.una),.c (.str x.data),.c (.int .i64 x.sent),.c (.bool x.fin),.c (.bool x.finSent),.c (.bool x.done)]
def nz (o0 o1 o2 o3 o4 o5:Ow)(x:Stac):List RC:=[.c (.int .i64 x.link.mac),.c (.int .i64 x.link.ip),sc o0 .entr x.link.cache,.c (.int .i64 x.door.port),.c (.int .i64 x.door.clock),.c (.int .i64 x.door.keys.epoch),.c (.bool x.door.keys.now.use),.c (.int .u64 x.door.keys.now.k),.c (.int .u64 x.door.keys.now.l),sc o1 .macRow x.door.keys.now.rows,.c (.bool x.door.keys.before.use),.c (.int .u64 x.door.keys.before.k),.c (.int .u64 x.door.keys.before.l),sc o2 .macRow x.door.keys.before.rows,.c (.bool x.door.keys.two),.c (.int .i64 x.door.limits.halves),.c (.int .i64 x.door.limits.waiting),.c (.int .i64 x.door.limits.conns),.c (.int .i64 x.door.limits.chal),sc o3 .half x.door.halves,sc o4 .conn x.door.table.conns,sc o5 .tupl x.door.table.waiting,.c (.int .i64 x.door.chal)]
def qh (o0 o1:Ow)(x:Tabl):List RC:=[sc o0 .conn x.conns,sc o1 .tupl x.waiting]
def FI (x:Tupl):List RC:=[.c (.int .i64 x.ip),.c (.int .i64 x.port),.c (.int .i64 x.my)]
@[grind] def bm (x:MacRow):Prop:=x.input.length≤4294967296
@[grind! .] theorem adk {xs:List MacRow} (h:dg bm xs) (i:Nat):bm (xs.getD i (Ty.zero .macRow)):=cX h (by unfold bm;(repeat' apply And.intro);all_goals first|exact λ_ h=>absurd h (List.not_mem_nil)|decide+kernel) i
@[grind=] theorem acP (xs:List MacRow) (i:Nat):xs.getD i (Ty.zero .macRow)=wt (xs.getD i (Ty.zero .macRow)) (bm (xs.getD i (Ty.zero .macRow))):=rfl
@[grind] def ba (x:Acti):Prop:=x.text.length≤4294967296∧x.mac.rows.length≤4294967296∧dg bm x.mac.rows
@[grind! .] theorem aet {xs:List Acti} (h:dg ba xs) (i:Nat):ba (xs.getD i (Ty.zero .acti)):=cX h (by unfold ba;(repeat' apply And.intro);all_goals first|exact λ_ h=>absurd h (List.not_mem_nil)|decide+kernel) i
@[grind=] theorem ael (xs:List Acti) (i:Nat):xs.getD i (Ty.zero .acti)=wt (xs.getD i (Ty.zero .acti)) (ba (xs.getD i (Ty.zero .acti))):=rfl
@[grind] def qK (x:Chun):Prop:=x.text.length≤4294967296
@[grind! .] theorem aeq {xs:List Chun} (h:dg qK xs) (i:Nat):qK (xs.getD i (Ty.zero .chun)):=cX h (by unfold qK;(repeat' apply And.intro);all_goals first|exact λ_ h=>absurd h (List.not_mem_nil)|decide+kernel) i
@[grind=] theorem aed (xs:List Chun) (i:Nat):xs.getD i (Ty.zero .chun)=wt (xs.getD i (Ty.zero .chun)) (qK (xs.getD i (Ty.zero .chun))):=rfl
@[grind] def jS (x:Piec):Prop:=x.text.length≤4294967296
@[grind! .] theorem ae5 {xs:List Piec} (h:dg jS xs) (i:Nat):jS (xs.getD i (Ty.zero .piec)):=cX h (by unfold jS;(repeat' apply And.intro);all_goals first|exact λ_ h=>absurd h (List.not_mem_nil)|decide+kernel) i
@[grind=] theorem aej (xs:List Piec) (i:Nat):xs.getD i (Ty.zero .piec)=wt (xs.getD i (Ty.zero .piec)) (jS (xs.getD i (Ty.zero .piec))):=rfl
@[grind] def ac (x:Conn):Prop:=x.s.data.length≤4294967296∧x.r.data.length≤4294967296∧x.r.held.length≤4294967296∧dg jS x.r.held
@[grind! .] theorem aeN {xs:List Conn} (h:dg ac xs) (i:Nat):ac (xs.getD i (Ty.zero .conn)):=cX h (by unfold ac;(repeat' apply And.intro);all_goals first|exact λ_ h=>absurd h (List.not_mem_nil)|decide+kernel) i
@[grind=] theorem aea (xs:List Conn) (i:Nat):xs.getD i (Ty.zero .conn)=wt (xs.getD i (Ty.zero .conn)) (ac (xs.getD i (Ty.zero .conn))):=rfl
@[grind] def ah (x:Curs):Prop:=0≤x.i∧x.b.length≤1048576
@[grind] def aC (x:Door):Prop:=x.keys.now.rows.length≤4294967296∧dg bm x.keys.now.rows∧x.keys.before.rows.length≤4294967296∧dg bm x.keys.before.rows∧x.halves.length≤4294967296∧x.table.conns.length≤4294967296∧dg ac x.table.conns∧x.table.waiting.length≤4294967296
@[grind! .] theorem aeA {xs:List Door} (h:dg aC xs) (i:Nat):aC (xs.getD i (Ty.zero .door)):=cX h (by unfold aC;(repeat' apply And.intro);all_goals first|exact λ_ h=>absurd h (List.not_mem_nil)|decide+kernel) i
@[grind=] theorem ad8 (xs:List Door) (i:Nat):xs.getD i (Ty.zero .door)=wt (xs.getD i (Ty.zero .door)) (aC (xs.getD i (Ty.zero .door))):=rfl
@[grind] def pt (x:Fram):Prop:=x.body.length≤4294967296
@[grind! .] theorem aez {xs:List Fram} (h:dg pt xs) (i:Nat):pt (xs.getD i (Ty.zero .fram)):=cX h (by unfold pt;(repeat' apply And.intro);all_goals first|exact λ_ h=>absurd h (List.not_mem_nil)|decide+kernel) i
@[grind=] theorem adU (xs:List Fram) (i:Nat):xs.getD i (Ty.zero .fram)=wt (xs.getD i (Ty.zero .fram)) (pt (xs.getD i (Ty.zero .fram))):=rfl
@[grind] def cU (x:Keys):Prop:=x.now.rows.length≤4294967296∧dg bm x.now.rows∧x.before.rows.length≤4294967296∧dg bm x.before.rows
@[grind! .] theorem ae3 {xs:List Keys} (h:dg cU xs) (i:Nat):cU (xs.getD i (Ty.zero .keys)):=cX h (by unfold cU;(repeat' apply And.intro);all_goals first|exact λ_ h=>absurd h (List.not_mem_nil)|decide+kernel) i
@[grind=] theorem adX (xs:List Keys) (i:Nat):xs.getD i (Ty.zero .keys)=wt (xs.getD i (Ty.zero .keys)) (cU (xs.getD i (Ty.zero .keys))):=rfl
@[grind] def fb (x:Link):Prop:=x.cache.length≤4294967296
@[grind! .] theorem aep {xs:List Link} (h:dg fb xs) (i:Nat):fb (xs.getD i (Ty.zero .link)):=cX h (by unfold fb;(repeat' apply And.intro);all_goals first|exact λ_ h=>absurd h (List.not_mem_nil)|decide+kernel) i
@[grind=] theorem adQ (xs:List Link) (i:Nat):xs.getD i (Ty.zero .link)=wt (xs.getD i (Ty.zero .link)) (fb (xs.getD i (Ty.zero .link))):=rfl
@[grind] def dV (x:Mac):Prop:=x.rows.length≤4294967296∧dg bm x.rows
@[grind! .] theorem afj {xs:List Mac} (h:dg dV xs) (i:Nat):dV (xs.getD i (Ty.zero .mac)):=cX h (by unfold dV;(repeat' apply And.intro);all_goals first|exact λ_ h=>absurd h (List.not_mem_nil)|decide+kernel) i
@[grind=] theorem ae7 (xs:List Mac) (i:Nat):xs.getD i (Ty.zero .mac)=wt (xs.getD i (Ty.zero .mac)) (dV (xs.getD i (Ty.zero .mac))):=rfl
@[grind] def pu (x:Mail):Prop:=x.g.body.length≤4294967296
@[grind! .] theorem aeF {xs:List Mail} (h:dg pu xs) (i:Nat):pu (xs.getD i (Ty.zero .mail)):=cX h (by unfold pu;(repeat' apply And.intro);all_goals first|exact λ_ h=>absurd h (List.not_mem_nil)|decide+kernel) i
@[grind=] theorem aei (xs:List Mail) (i:Nat):xs.getD i (Ty.zero .mail)=wt (xs.getD i (Ty.zero .mail)) (pu (xs.getD i (Ty.zero .mail))):=rfl
@[grind] def iZ (x:Pack):Prop:=x.body.length≤4294967296
@[grind! .] theorem afe {xs:List Pack} (h:dg iZ xs) (i:Nat):iZ (xs.getD i (Ty.zero .pack)):=cX h (by unfold iZ;(repeat' apply And.intro);all_goals first|exact λ_ h=>absurd h (List.not_mem_nil)|decide+kernel) i
@[grind=] theorem ad2 (xs:List Pack) (i:Nat):xs.getD i (Ty.zero .pack)=wt (xs.getD i (Ty.zero .pack)) (iZ (xs.getD i (Ty.zero .pack))):=rfl
@[grind] def ay (x:Recv):Prop:=x.data.length≤4294967296∧x.held.length≤4294967296∧dg jS x.held
@[grind! .] theorem aeS {xs:List Recv} (h:dg ay xs) (i:Nat):ay (xs.getD i (Ty.zero .recv)):=cX h (by unfold ay;(repeat' apply And.intro);all_goals first|exact λ_ h=>absurd h (List.not_mem_nil)|decide+kernel) i
@[grind=] theorem aeb (xs:List Recv) (i:Nat):xs.getD i (Ty.zero .recv)=wt (xs.getD i (Ty.zero .recv)) (ay (xs.getD i (Ty.zero .recv))):=rfl
@[grind] def gY (x:Resu):Prop:=x.frames.length≤4294967296∧dg sS x.frames∧x.text.length≤4294967296
@[grind! .] theorem aer {xs:List Resu} (h:dg gY xs) (i:Nat):gY (xs.getD i (Ty.zero .resu)):=cX h (by unfold gY;(repeat' apply And.intro);all_goals first|exact λ_ h=>absurd h (List.not_mem_nil)|decide+kernel) i
@[grind=] theorem aeh (xs:List Resu) (i:Nat):xs.getD i (Ty.zero .resu)=wt (xs.getD i (Ty.zero .resu)) (gY (xs.getD i (Ty.zero .resu))):=rfl
@[grind] def am (x:Segm):Prop:=x.body.length≤4294967296
@[grind! .] theorem aeJ {xs:List Segm} (h:dg am xs) (i:Nat):am (xs.getD i (Ty.zero .segm)):=cX h (by unfold am;(repeat' apply And.intro);all_goals first|exact λ_ h=>absurd h (List.not_mem_nil)|decide+kernel) i
@[grind=] theorem ad5 (xs:List Segm) (i:Nat):xs.getD i (Ty.zero .segm)=wt (xs.getD i (Ty.zero .segm)) (am (xs.getD i (Ty.zero .segm))):=rfl
@[grind] def bZ (x:Sndr):Prop:=x.data.length≤4294967296
@[grind! .] theorem ae4 {xs:List Sndr} (h:dg bZ xs) (i:Nat):bZ (xs.getD i (Ty.zero .sndr)):=cX h (by unfold bZ;(repeat' apply And.intro);all_goals first|exact λ_ h=>absurd h (List.not_mem_nil)|decide+kernel) i
@[grind=] theorem adS (xs:List Sndr) (i:Nat):xs.getD i (Ty.zero .sndr)=wt (xs.getD i (Ty.zero .sndr)) (bZ (xs.getD i (Ty.zero .sndr))):=rfl
@[grind] def az (x:Stac):Prop:=x.link.cache.length≤4294967296∧x.door.keys.now.rows.length≤4294967296∧dg bm x.door.keys.now.rows∧x.door.keys.before.rows.length≤4294967296∧dg bm x.door.keys.before.rows∧x.door.halves.length≤4294967296∧x.door.table.conns.length≤4294967296∧dg ac x.door.table.conns∧x.door.table.waiting.length≤4294967296
@[grind! .] theorem aeU {xs:List Stac} (h:dg az xs) (i:Nat):az (xs.getD i (Ty.zero .stac)):=cX h (by unfold az;(repeat' apply And.intro);all_goals first|exact λ_ h=>absurd h (List.not_mem_nil)|decide+kernel) i
@[grind=] theorem adT (xs:List Stac) (i:Nat):xs.getD i (Ty.zero .stac)=wt (xs.getD i (Ty.zero .stac)) (az (xs.getD i (Ty.zero .stac))):=rfl
@[grind] def aV (x:Tabl):Prop:=x.conns.length≤4294967296∧dg ac x.conns∧x.waiting.length≤4294967296
@[grind! .] theorem aeI {xs:List Tabl} (h:dg aV xs) (i:Nat):aV (xs.getD i (Ty.zero .tabl)):=cX h (by unfold aV;(repeat' apply And.intro);all_goals first|exact λ_ h=>absurd h (List.not_mem_nil)|decide+kernel) i
@[grind=] theorem ad6 (xs:List Tabl) (i:Nat):xs.getD i (Ty.zero .tabl)=wt (xs.getD i (Ty.zero .tabl)) (aV (xs.getD i (Ty.zero .tabl))):=rfl
@[grind] def SO (s:Sndr):Prop:=0≤s.una∧s.una≤4294967295∧s.data.length≤48∧0≤s.sent∧s.sent≤s.data.length∧(s.finSent=true→s.fin=true∧s.sent=s.data.length)∧(s.done=true→s.fin=true∧s.finSent=false∧s.data=[])
@[grind] def IO (s:Sndr):Nat:=((s.data.length:Int)-s.sent).toNat+if s.finSent=true then 0 else 1
@[grind] def po (y:Piec):Prop:=1≤y.off∧y.off+(y.text.length:Int)≤32
@[grind] def RO (r:Recv):Prop:=0≤r.next∧r.next≤4294967295∧r.data.length≤32∧r.held.length≤3∧dg po r.held
@[grind] def pl (n:Int) (y:Piec):Prop:=(y.text.length:Int)≤n
theorem afA {n:Int}{xs:List Piec}(h:dg (pl n) xs):dg (pl (n+1)) xs:=λy hy=>by have:=h y hy;simp only[pl]at*;omega
theorem ae0 {n:Int}{xs:List Piec}(h:dg (pl n) xs)(hn:0≤n)(i:Nat):((xs.getD i (Ty.zero .piec)).text.length:Int)≤n:=cX (p:=pl n) h (by have h0:(Ty.zero Ty.piec).text.length=0:=(by decide+kernel);simp only[pl];omega) i
theorem afJ {n:Int}{xs:List Piec}(h:dg (pl n) xs)(hn:n≤4294967296):dg jS xs:=λy hy=>by have:=h y hy;simp only[pl,jS]at*;omega
theorem ae2 {n:Int}{xs:List Piec}{y:Piec}{i:Nat}(h:dg (pl n) xs)(hy:pl n y):dg (pl n) (xs.set i y):=λz hz=>by
 rcases List.mem_or_eq_of_mem_set hz with h1|h1
 ·exact h z h1
 ·rw[h1];exact hy
theorem adh {n:Int}{xs:List Piec}{y:Piec}(h:dg (pl n) xs)(hy:pl n y):dg (pl n) (xs++[y]):=λz hz=>by
 rcases List.mem_append.1 hz with h1|h1
 ·exact h z h1
 ·rw[List.mem_singleton.1 h1];exact hy
theorem YU {α:Type}{p:α→Prop}{xs:List α}{n:Int}(h:dg p (xs.take n.toNat))(hn:(xs.length:Int)≤n):dg p xs:=by rwa [List.take_of_length_le (by omega)]at h
theorem VR {α:Type}{p:α→Prop}{xs:List α}{n:Int}{d:α}(h:dg p (xs.take n.toNat))(h0:0≤n)(hn:n<xs.length)(hx:p (xs.getD n.toNat d)):dg p (xs.take (n+1).toNat):=by
 rw[show(n+1).toNat=n.toNat+1 by omega,List.take_succ_eq_append_getElem (by omega)]
 intro y hy
 rcases List.mem_append.1 hy with hy|hy
 ·exact h y hy
 ·rw[List.mem_singleton]at hy
  subst hy
  rwa [show xs.getD n.toNat d=xs[n.toNat] by simp[List.getD,show n.toNat<xs.length by omega]]at hx
theorem adl {xs:List Piec}{n:Int}(h:dg po (xs.take n.toNat))(h0:0≤n)(hn:n<xs.length)(hx:po (xs.getD n.toNat (Ty.zero .piec))):dg po (xs.take (n+1).toNat):=VR h h0 hn hx
theorem aeB {xs:List Piec}{n:Int}(h:dg po (xs.take n.toNat))(hn:(xs.length:Int)≤n):dg po xs:=YU h hn
@[grind] def Zy (r:Recv):Int:=if r.done=true then 0 else 32-(r.data.length:Int)
@[grind] def pw (n:Int) (y:Piec):Prop:=1≤y.off∧y.off+(y.text.length:Int)≤n
theorem ade {xs:List Piec}{n L:Int}(h:dg (pw L) (xs.take n.toNat))(h0:0≤n)(hn:n<xs.length)(hx:pw L (xs.getD n.toNat (Ty.zero .piec))):dg (pw L) (xs.take (n+1).toNat):=VR h h0 hn hx
theorem aev {xs:List Piec}{n L:Int}(h:dg (pw L) (xs.take n.toNat))(hn:(xs.length:Int)≤n):dg (pw L) xs:=YU h hn
theorem afB {xs:List Piec}{L M:Int}(h:dg (pw L) xs)(hl:L≤M):dg (pw M) xs:=λy hy=>by have:=h y hy;unfold pw at*;omega
theorem afk {xs:List Piec}{L:Int}(h:dg (pw L) xs)(hl:L≤32):dg po xs:=λy hy=>by have:=h y hy;unfold pw at this;unfold po;omega
theorem afE {xs:List Piec}{L:Int}{i:Nat}(h:dg (pw L) xs)(hi:i<xs.length):pw L (xs.getD i (Ty.zero .piec)):=h _ (by rw[List.getD,List.getElem?_eq_getElem hi];exact List.getElem_mem hi)
theorem afq {xs:List Piec}{i:Nat}(h:dg po xs)(hi:i<xs.length):po (xs.getD i (Ty.zero .piec)):=h _ (by rw[List.getD,List.getElem?_eq_getElem hi];exact List.getElem_mem hi)
instance:Inhabited Acti:=⟨Ty.zero .acti⟩
instance:Inhabited Arpm:=⟨Ty.zero .arpm⟩
instance:Inhabited Chun:=⟨Ty.zero .chun⟩
instance:Inhabited Clie:=⟨Ty.zero .clie⟩
instance:Inhabited Conn:=⟨Ty.zero .conn⟩
instance:Inhabited Curs:=⟨Ty.zero .curs⟩
instance:Inhabited Door:=⟨Ty.zero .door⟩
instance:Inhabited Entr:=⟨Ty.zero .entr⟩
instance:Inhabited Fram:=⟨Ty.zero .fram⟩
instance:Inhabited Half:=⟨Ty.zero .half⟩
instance:Inhabited Issu:=⟨Ty.zero .issu⟩
instance:Inhabited Keys:=⟨Ty.zero .keys⟩
instance:Inhabited Limi:=⟨Ty.zero .limi⟩
instance:Inhabited Link:=⟨Ty.zero .link⟩
instance:Inhabited Mac:=⟨Ty.zero .mac⟩
instance:Inhabited MacRow:=⟨Ty.zero .macRow⟩
instance:Inhabited Mail:=⟨Ty.zero .mail⟩
instance:Inhabited Opti:=⟨Ty.zero .opti⟩
instance:Inhabited Pack:=⟨Ty.zero .pack⟩
instance:Inhabited Piec:=⟨Ty.zero .piec⟩
instance:Inhabited Recv:=⟨Ty.zero .recv⟩
instance:Inhabited Resu:=⟨Ty.zero .resu⟩
instance:Inhabited Segm:=⟨Ty.zero .segm⟩
instance:Inhabited Sipr:=⟨Ty.zero .sipr⟩
instance:Inhabited Sndr:=⟨Ty.zero .sndr⟩
instance:Inhabited Stac:=⟨Ty.zero .stac⟩
instance:Inhabited Tabl:=⟨Ty.zero .tabl⟩
instance:Inhabited Tupl:=⟨Ty.zero .tupl⟩
end Go.Proofs.YtfpdenjmlnhnnaaGreat
