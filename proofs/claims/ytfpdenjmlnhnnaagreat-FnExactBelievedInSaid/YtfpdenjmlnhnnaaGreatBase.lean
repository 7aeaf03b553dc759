/- The table of types of this seat, and its closed facts. -/
import Derived.Test.YtfpdenjmlnhnnaaGreatPure
import Derived.Test.YtfpdenjmlnhnnaaGreatRows
import Derived.KernelRfl
set_option linter.unusedVariables false
set_option linter.unusedSimpArgs false
namespace Go.Proofs.YtfpdenjmlnhnnaaGreat
open Go Go.RowKit
def te:TE:=[
 (2,.sc (.int .i64)),
 (3,.sc (.int .i64)),
 (4,.sc .bool),
 (5,.sc (.int .u8)),
 (6,.sc (.int .u8)),
 (9,.sc .str),
 (10,.sc .str),
 (11,.sc .str),
 (12,.sc (.int .u64)),
 (21,.sc (.int .i32)),
 (22,.sl .u8 1),
 (24,.sl .entr 24),
 (26,.st .link [(0,3),(1,3),(2,24)]),
 (27,.sc (.int .u64)),
 (28,.sl .macRow 24),
 (30,.st .mac [(0,4),(1,27),(2,27),(3,28)]),
 (32,.st .keys [(0,3),(1,30),(5,30),(9,4)]),
 (34,.st .limi [(0,3),(1,3),(2,3),(3,3)]),
 (35,.sl .half 96),
 (36,.sl .conn 208),
 (37,.sl .tupl 24),
 (39,.st .tabl [(0,36),(1,37)]),
 (41,.st .door [(0,3),(1,3),(2,32),(12,34),(16,35),(17,39),(19,3)]),
 (43,.st .stac [(0,26),(3,41)]),
 (44,.sl .acti 104),
 (47,.sl .issu 40),
 (50,.st .tupl [(0,3),(1,3),(2,3)]),
 (52,.st .issu [(0,50),(3,3),(4,3)]),
 (56,.st .acti [(0,3),(1,50),(4,3),(5,9),(6,30)]),
 (60,.sl .str 16),
 (62,.st .resu [(0,60),(1,3),(2,50),(5,3),(6,9),(7,4)]),
 (66,.sl .resu 88),
 (80,.st .opti [(0,3),(1,3),(2,4),(3,4),(4,3),(5,3)]),
 (82,.st .clie [(0,50),(3,3),(4,80),(10,3)]),
 (84,.st .sndr [(0,3),(1,9),(2,3),(3,4),(4,4),(5,4)]),
 (85,.sl .piec 24),
 (87,.st .recv [(0,3),(1,9),(2,85),(3,3),(4,4)]),
 (89,.st .conn [(0,50),(3,3),(4,84),(10,87),(15,3),(16,3),(17,80),(23,3),(24,3)]),
 (93,.sl .entr 24),
 (95,.st .link [(0,3),(1,3),(2,93)]),
 (96,.sl .macRow 24),
 (98,.st .mac [(0,4),(1,27),(2,27),(3,96)]),
 (100,.st .keys [(0,3),(1,98),(5,98),(9,4)]),
 (101,.st .limi [(0,3),(1,3),(2,3),(3,3)]),
 (102,.sl .half 96),
 (103,.sl .conn 208),
 (104,.sl .tupl 24),
 (106,.st .tabl [(0,103),(1,104)]),
 (108,.st .door [(0,3),(1,3),(2,100),(12,101),(16,102),(17,106),(19,3)]),
 (110,.st .stac [(0,95),(3,108)]),
 (111,.st .tupl [(0,3),(1,3),(2,3)]),
 (113,.st .acti [(0,3),(1,111),(4,3),(5,9),(6,98)]),
 (140,.st .pack [(0,3),(1,3),(2,3),(3,3),(4,3),(5,9)]),
 (142,.st .segm [(0,3),(1,3),(2,3),(3,3),(4,3),(5,3),(6,80),(12,9)]),
 (152,.st .piec [(0,3),(1,9)]),
 (156,.sl .segm 104),
 (161,.ptr),
 (171,.sl .mac 48),
 (219,.st .fram [(0,3),(1,3),(2,3),(3,9)]),
 (225,.st .entr [(0,3),(1,3),(2,3)]),
 (233,.st .half [(0,50),(3,3),(4,3),(5,80),(11,3),(12,3)]),
 (236,.sl .mail 112),
 (240,.st .mail [(0,3),(1,142)]),
 (250,.st .curs [(0,22),(1,3),(2,3)]),
 (252,.sl .i64 8),
 (260,.st .macRow [(0,9),(1,3)]),
 (292,.sc (.int .u64)),
 (321,.st .arpm [(0,3),(1,3),(2,3),(3,3),(4,3)]),
 (350,.st .macRow [(0,9),(1,3)]),
 (352,.st .entr [(0,3),(1,3),(2,3)]),
 (354,.st .opti [(0,3),(1,3),(2,4),(3,4),(4,3),(5,3)]),
 (356,.st .half [(0,111),(3,3),(4,3),(5,354),(11,3),(12,3)]),
 (379,.st .sipr [(0,27),(1,27),(2,27),(3,27)]),
 (392,.st .chun [(0,3),(1,9),(2,4)]),
 (414,.st .sndr [(0,3),(1,9),(2,3),(3,4),(4,4),(5,4)]),
 (415,.sl .piec 24),
 (417,.st .recv [(0,3),(1,9),(2,415),(3,3),(4,4)]),
 (419,.st .conn [(0,111),(3,3),(4,414),(10,417),(15,3),(16,3),(17,354),(23,3),(24,3)]),
 (434,.sl .bool 1),
 (452,.sc (.int .u32)),
 (462,.st .piec [(0,3),(1,9)]),
 (473,.sc (.int .u8)),
 (474,.sc (.int .u8)),
 (476,.ptr),
 (477,.sc (.int .i32)),
 (478,.sc (.int .i32)),
 (1000079,.wr [true]),
 (1000080,.wr [true,false]),
 (1000110,.wr [true]),
 (1000111,.wr [true,false]),
 (1000112,.wr [true,false]),
 (1000113,.wr [true,false]),
 (1000114,.wr [true]),
 (1000159,.wr [false,true]),
 (1000169,.wr [true,true]),
 (1000171,.wr [true,true]),
 (1000173,.wr [true,true]),
 (1000182,.wr [true,false]),
 (1000183,.wr [true,false]),
 (1000184,.wr [true]),
 (1000185,.wr [true]),
 (1000186,.wr [true]),
 (1000190,.wr [false,true]),
 (1000224,.wr [true]),
 (1000225,.wr [true]),
 (1000227,.wr [true,false]),
 (1000228,.wr [true]),
 (1000229,.wr [true]),
 (1000230,.wr [true]),
 (1000273,.wr [false,true]),
 (1000274,.wr [false,true]),
 (1000287,.wr [true,true]),
 (1000297,.wr [true]),
 (1000298,.wr [true]),
 (1000299,.wr [true]),
 (1000300,.wr [true]),
 (1000302,.wr [false,true]),
 (1000310,.wr [true,false,false]),
 (1000333,.wr [true]),
 (1000334,.wr [true]),
 (1000335,.wr [true]),
 (1000336,.wr [true,false,false]),
 (1000338,.wr [true]),
 (1000339,.wr [true,false]),
 (1000340,.wr [true,false]),
 (1000342,.wr [true]),
 (1000343,.wr [true]),
 (1000344,.wr [true]),
 (1000345,.wr [true]),
 (1000346,.wr [true]),
 (1000347,.wr [true]),
 (1000382,.wr [false,true]),
 (1000384,.wr [true,false,false]),
 (1000395,.wr [true]),
 (1000415,.wr [true]),
 (1000416,.wr [true,false]),
 (1000417,.wr [true]),
 (1000418,.wr [true,false]),
 (1000419,.wr [true,false,false]),
 (1000420,.wr [true,false]),
 (1000421,.wr [true,false]),
 (1000422,.wr [true]),
 (1000423,.wr [true]),
 (1000424,.wr [true]),
 (1000425,.wr [true]),
 (1000426,.wr [true,false]),
 (1000427,.wr [true]),
 (1000457,.wr [true]),
 (1000458,.wr [true]),
 (1000459,.wr [true]),
 (1000460,.wr [true,false]),
 (1000461,.wr [true]),
 (1000462,.wr [true,false]),
 (1000463,.wr [true]),
 (1000464,.wr [true]),
 (1000465,.wr [true]),
 (1000483,.wr [true]),
 (1000485,.wr [true]),
 (1000486,.wr [true]),
 (1000506,.wr [true]),
 (1000507,.wr [true]),
 (1000508,.wr [true]),
 (1000509,.wr [true]),
 (1000510,.wr [true]),
 (4000024,.wr []),
 (4000035,.wr []),
 (4000036,.wr []),
 (4000037,.wr [])]
theorem aaE:jy te Tryz.prog=true:=by kernel_rfl
theorem adk:Vs te Tryz.prog=true:=by kernel_rfl
theorem adJ:laidOutB Tryz.prog=true:=by kernel_rfl
theorem abn:ownKnob Tryz.prog.godebug=none:=by kernel_rfl
theorem ab2:Tryz.prog.follows .mixedOrders=true:=by kernel_rfl
def st:Seat Tryz.prog:=⟨te,aaE,ab2⟩
def adc (o0:Ow)(x:Acti):List RC:=[.c (.int .i64 x.kind),.c (.int .i64 x.tuple.ip),.c (.int .i64 x.tuple.port),.c (.int .i64 x.tuple.my),.c (.int .i64 x.n),.c (.str x.text),.c (.bool x.mac.use),.c (.int .u64 x.mac.k),.c (.int .u64 x.mac.l),sc o0 .macRow x.mac.rows]
def Pa (x:Arpm):List RC:=[.c (.int .i64 x.kind),.c (.int .i64 x.srcHw),.c (.int .i64 x.srcIp),.c (.int .i64 x.dstHw),.c (.int .i64 x.dstIp)]
def ZU (x:Chun):List RC:=[.c (.int .i64 x.seq),.c (.str x.text),.c (.bool x.fin)]
def fo (o0:Ow)(x:Conn):List RC:=[.c (.int .i64 x.tuple.ip),.c (.int .i64 x.tuple.port),.c (.int .i64 x.tuple.my),.c (.int .i64 x.state),.c (.int .i64 x.s.una),.c (.str x.s.data),.c (.int .i64 x.s.sent),.c (.bool x.s.fin),.c (.bool x.s.finSent),.c (.bool x.s.done),.c (.int .i64 x.r.next),.c (.str x.r.data),sc o0 .piec x.r.held,.c (.int .i64 x.r.fin),.c (.bool x.r.done),.c (.int .i64 x.window),.c (.int .i64 x.most),.c (.int .i64 x.opts.mss),.c (.int .i64 x.opts.scale),.c (.bool x.opts.sack),.c (.bool x.opts.stamp),.c (.int .i64 x.opts.val),.c (.int .i64 x.opts.echo),.c (.int .i64 x.timer),.c (.int .i64 x.tries)]
def kK (o0 o1 o2 o3 o4:Ow)(x:Door):List RC:=[.c (.int .i64 x.port),.c (.int .i64 x.clock),.c (.int .i64 x.keys.epoch),.c (.bool x.keys.now.use),.c (.int .u64 x.keys.now.k),.c (.int .u64 x.keys.now.l),sc o0 .macRow x.keys.now.rows,.c (.bool x.keys.before.use),.c (.int .u64 x.keys.before.k),.c (.int .u64 x.keys.before.l),sc o1 .macRow x.keys.before.rows,.c (.bool x.keys.two),.c (.int .i64 x.limits.halves),.c (.int .i64 x.limits.waiting),.c (.int .i64 x.limits.conns),.c (.int .i64 x.limits.chal),sc o2 .half x.halves,sc o3 .conn x.table.conns,sc o4 .tupl x.table.waiting,.c (.int .i64 x.chal)]
def adm (x:Entr):List RC:=[.c (.int .i64 x.ip),.c (.int .i64 x.hw),.c (.int .i64 x.age)]
def ZD (x:Fram):List RC:=[.c (.int .i64 x.dst),.c (.int .i64 x.src),.c (.int .i64 x.type),.c (.str x.body)]
def adC (x:Half):List RC:=[.c (.int .i64 x.tuple.ip),.c (.int .i64 x.tuple.port),.c (.int .i64 x.tuple.my),.c (.int .i64 x.iss),.c (.int .i64 x.irs),.c (.int .i64 x.opts.mss),.c (.int .i64 x.opts.scale),.c (.bool x.opts.sack),.c (.bool x.opts.stamp),.c (.int .i64 x.opts.val),.c (.int .i64 x.opts.echo),.c (.int .i64 x.age),.c (.int .i64 x.window)]
def TK (x:Issu):List RC:=[.c (.int .i64 x.tuple.ip),.c (.int .i64 x.tuple.port),.c (.int .i64 x.tuple.my),.c (.int .i64 x.seq),.c (.int .i64 x.cookie)]
def IP (o0 o1:Ow)(x:Keys):List RC:=[.c (.int .i64 x.epoch),.c (.bool x.now.use),.c (.int .u64 x.now.k),.c (.int .u64 x.now.l),sc o0 .macRow x.now.rows,.c (.bool x.before.use),.c (.int .u64 x.before.k),.c (.int .u64 x.before.l),sc o1 .macRow x.before.rows,.c (.bool x.two)]
def ac4 (x:Limi):List RC:=[.c (.int .i64 x.halves),.c (.int .i64 x.waiting),.c (.int .i64 x.conns),.c (.int .i64 x.chal)]
def EY (o0:Ow)(x:Link):List RC:=[.c (.int .i64 x.mac),.c (.int .i64 x.ip),sc o0 .entr x.cache]
def Rp (o0:Ow)(x:Mac):List RC:=[.c (.bool x.use),.c (.int .u64 x.k),.c (.int .u64 x.l),sc o0 .macRow x.rows]
def ZH (x:MacRow):List RC:=[.c (.str x.input),.c (.int .i64 x.value)]
def pD (x:Opti):List RC:=[.c (.int .i64 x.mss),.c (.int .i64 x.scale),.c (.bool x.sack),.c (.bool x.stamp),.c (.int .i64 x.val),.c (.int .i64 x.echo)]
def Bq (x:Pack):List RC:=[.c (.int .i64 x.src),.c (.int .i64 x.dst),.c (.int .i64 x.ttl),.c (.int .i64 x.proto),.c (.int .i64 x.id),.c (.str x.body)]
def adN (x:Piec):List RC:=[.c (.int .i64 x.off),.c (.str x.text)]
def vo (o0:Ow)(x:Recv):List RC:=[.c (.int .i64 x.next),.c (.str x.data),sc o0 .piec x.held,.c (.int .i64 x.fin),.c (.bool x.done)]
def N5 (o0:Ow)(x:Resu):List RC:=[sc o0 .str x.frames,.c (.int .i64 x.made),.c (.int .i64 x.tuple.ip),.c (.int .i64 x.tuple.port),.c (.int .i64 x.tuple.my),.c (.int .i64 x.n),.c (.str x.text),.c (.bool x.ok)]
def th (x:Segm):List RC:=[.c (.int .i64 x.from_),.c (.int .i64 x.to),.c (.int .i64 x.seq),.c (.int .i64 x.ack),.c (.int .i64 x.flags),.c (.int .i64 x.window),.c (.int .i64 x.opts.mss),.c (.int .i64 x.opts.scale),.c (.bool x.opts.sack),.c (.bool x.opts.stamp),.c (.int .i64 x.opts.val),.c (.int .i64 x.opts.echo),.c (.str x.body)]
def EI (x:Sipr):List RC:=[.c (.int .u64 x.a),.c (.int .u64 x.b),.c (.int .u64 x.c),.c (.int .u64 x.d)]
def wa (x:Sndr):List RC:=[.c (.int .i64 x.una),.c (.str x.data),.c (.int .i64 x.sent),.c (.bool x.fin),.c (.bool x.finSent),.c (.bool x.done)]
def qS (o0 o1 o2 o3 o4 o5:Ow)(x:Stac):List RC:=[.c (.int .i64 x.link.mac),.c (.int .i64 x.link.ip),sc o0 .entr x.link.cache,.c (.int .i64 x.door.port),.c (.int .i64 x.door.clock),.c (.int .i64 x.door.keys.epoch),.c (.bool x.door.keys.now.use),.c (.int .u64 x.door.keys.now.k),.c (.int .u64 x.door.keys.now.l),sc o1 .macRow x.door.keys.now.rows,.c (.bool x.door.keys.before.use),.c (.int .u64 x.door.keys.before.k),.c (.int .u64 x.door.keys.before.l),sc o2 .macRow x.door.keys.before.rows,.c (.bool x.door.keys.two),.c (.int .i64 x.door.limits.halves),.c (.int .i64 x.door.limits.waiting),.c (.int .i64 x.door.limits.conns),.c (.int .i64 x.door.limits.chal),sc o3 .half x.door.halves,sc o4 .conn x.door.table.conns,sc o5 .tupl x.door.table.waiting,.c (.int .i64 x.door.chal)]
def ri (o0 o1:Ow)(x:Tabl):List RC:=[sc o0 .conn x.conns,sc o1 .tupl x.waiting]
def KE (x:Tupl):List RC:=[.c (.int .i64 x.ip),.c (.int .i64 x.port),.c (.int .i64 x.my)]
@[grind] def aG (x:MacRow):Prop:=x.input.length≤4294967296
@[grind! .] theorem abm {xs:List MacRow} (h:cT aG xs) (i:Nat):aG (xs.getD i (Ty.zero .macRow)):=dm h (by unfold aG;(repeat' apply And.intro);all_goals first|exact λ_ h=>absurd h (List.not_mem_nil)|decide+kernel) i
@[grind=] theorem abb (xs:List MacRow) (i:Nat):xs.getD i (Ty.zero .macRow)=vG (xs.getD i (Ty.zero .macRow)) (aG (xs.getD i (Ty.zero .macRow))):=rfl
@[grind] def cU (x:Acti):Prop:=x.text.length≤4294967296∧x.mac.rows.length≤4294967296∧cT aG x.mac.rows
@[grind! .] theorem acY {xs:List Acti} (h:cT cU xs) (i:Nat):cU (xs.getD i (Ty.zero .acti)):=dm h (by unfold cU;(repeat' apply And.intro);all_goals first|exact λ_ h=>absurd h (List.not_mem_nil)|decide+kernel) i
@[grind=] theorem aco (xs:List Acti) (i:Nat):xs.getD i (Ty.zero .acti)=vG (xs.getD i (Ty.zero .acti)) (cU (xs.getD i (Ty.zero .acti))):=rfl
@[grind] def qn (x:Chun):Prop:=x.text.length≤4294967296
@[grind! .] theorem ada {xs:List Chun} (h:cT qn xs) (i:Nat):qn (xs.getD i (Ty.zero .chun)):=dm h (by unfold qn;(repeat' apply And.intro);all_goals first|exact λ_ h=>absurd h (List.not_mem_nil)|decide+kernel) i
@[grind=] theorem acC (xs:List Chun) (i:Nat):xs.getD i (Ty.zero .chun)=vG (xs.getD i (Ty.zero .chun)) (qn (xs.getD i (Ty.zero .chun))):=rfl
@[grind] def cM (x:Piec):Prop:=x.text.length≤4294967296
@[grind! .] theorem adD {xs:List Piec} (h:cT cM xs) (i:Nat):cM (xs.getD i (Ty.zero .piec)):=dm h (by unfold cM;(repeat' apply And.intro);all_goals first|exact λ_ h=>absurd h (List.not_mem_nil)|decide+kernel) i
@[grind=] theorem acK (xs:List Piec) (i:Nat):xs.getD i (Ty.zero .piec)=vG (xs.getD i (Ty.zero .piec)) (cM (xs.getD i (Ty.zero .piec))):=rfl
@[grind] def aa (x:Conn):Prop:=x.s.data.length≤4294967296∧x.r.data.length≤4294967296∧x.r.held.length≤4294967296∧cT cM x.r.held
@[grind! .] theorem adt {xs:List Conn} (h:cT aa xs) (i:Nat):aa (xs.getD i (Ty.zero .conn)):=dm h (by unfold aa;(repeat' apply And.intro);all_goals first|exact λ_ h=>absurd h (List.not_mem_nil)|decide+kernel) i
@[grind=] theorem acm (xs:List Conn) (i:Nat):xs.getD i (Ty.zero .conn)=vG (xs.getD i (Ty.zero .conn)) (aa (xs.getD i (Ty.zero .conn))):=rfl
@[grind] def aes (x:Curs):Prop:=0≤x.i∧x.b.length≤1048576
@[grind] def av (x:Door):Prop:=x.keys.now.rows.length≤4294967296∧cT aG x.keys.now.rows∧x.keys.before.rows.length≤4294967296∧cT aG x.keys.before.rows∧x.halves.length≤4294967296∧x.table.conns.length≤4294967296∧cT aa x.table.conns∧x.table.waiting.length≤4294967296
@[grind! .] theorem adv {xs:List Door} (h:cT av xs) (i:Nat):av (xs.getD i (Ty.zero .door)):=dm h (by unfold av;(repeat' apply And.intro);all_goals first|exact λ_ h=>absurd h (List.not_mem_nil)|decide+kernel) i
@[grind=] theorem acz (xs:List Door) (i:Nat):xs.getD i (Ty.zero .door)=vG (xs.getD i (Ty.zero .door)) (av (xs.getD i (Ty.zero .door))):=rfl
@[grind] def qa (x:Fram):Prop:=x.body.length≤4294967296
@[grind! .] theorem adh {xs:List Fram} (h:cT qa xs) (i:Nat):qa (xs.getD i (Ty.zero .fram)):=dm h (by unfold qa;(repeat' apply And.intro);all_goals first|exact λ_ h=>absurd h (List.not_mem_nil)|decide+kernel) i
@[grind=] theorem acP (xs:List Fram) (i:Nat):xs.getD i (Ty.zero .fram)=vG (xs.getD i (Ty.zero .fram)) (qa (xs.getD i (Ty.zero .fram))):=rfl
@[grind] def cK (x:Keys):Prop:=x.now.rows.length≤4294967296∧cT aG x.now.rows∧x.before.rows.length≤4294967296∧cT aG x.before.rows
@[grind! .] theorem adP {xs:List Keys} (h:cT cK xs) (i:Nat):cK (xs.getD i (Ty.zero .keys)):=dm h (by unfold cK;(repeat' apply And.intro);all_goals first|exact λ_ h=>absurd h (List.not_mem_nil)|decide+kernel) i
@[grind=] theorem acu (xs:List Keys) (i:Nat):xs.getD i (Ty.zero .keys)=vG (xs.getD i (Ty.zero .keys)) (cK (xs.getD i (Ty.zero .keys))):=rfl
@[grind] def dY (x:Link):Prop:=x.cache.length≤4294967296
@[grind! .] theorem adf {xs:List Link} (h:cT dY xs) (i:Nat):dY (xs.getD i (Ty.zero .link)):=dm h (by unfold dY;(repeat' apply And.intro);all_goals first|exact λ_ h=>absurd h (List.not_mem_nil)|decide+kernel) i
@[grind=] theorem acl (xs:List Link) (i:Nat):xs.getD i (Ty.zero .link)=vG (xs.getD i (Ty.zero .link)) (dY (xs.getD i (Ty.zero .link))):=rfl
@[grind] def cE (x:Mac):Prop:=x.rows.length≤4294967296∧cT aG x.rows
@[grind! .] theorem adW {xs:List Mac} (h:cT cE xs) (i:Nat):cE (xs.getD i (Ty.zero .mac)):=dm h (by unfold cE;(repeat' apply And.intro);all_goals first|exact λ_ h=>absurd h (List.not_mem_nil)|decide+kernel) i
@[grind=] theorem adE (xs:List Mac) (i:Nat):xs.getD i (Ty.zero .mac)=vG (xs.getD i (Ty.zero .mac)) (cE (xs.getD i (Ty.zero .mac))):=rfl
@[grind] def oL (x:Mail):Prop:=x.g.body.length≤4294967296
@[grind! .] theorem acU {xs:List Mail} (h:cT oL xs) (i:Nat):oL (xs.getD i (Ty.zero .mail)):=dm h (by unfold oL;(repeat' apply And.intro);all_goals first|exact λ_ h=>absurd h (List.not_mem_nil)|decide+kernel) i
@[grind=] theorem acx (xs:List Mail) (i:Nat):xs.getD i (Ty.zero .mail)=vG (xs.getD i (Ty.zero .mail)) (oL (xs.getD i (Ty.zero .mail))):=rfl
@[grind] def kt (x:Pack):Prop:=x.body.length≤4294967296
@[grind! .] theorem acX {xs:List Pack} (h:cT kt xs) (i:Nat):kt (xs.getD i (Ty.zero .pack)):=dm h (by unfold kt;(repeat' apply And.intro);all_goals first|exact λ_ h=>absurd h (List.not_mem_nil)|decide+kernel) i
@[grind=] theorem acs (xs:List Pack) (i:Nat):xs.getD i (Ty.zero .pack)=vG (xs.getD i (Ty.zero .pack)) (kt (xs.getD i (Ty.zero .pack))):=rfl
@[grind] def aw (x:Recv):Prop:=x.data.length≤4294967296∧x.held.length≤4294967296∧cT cM x.held
@[grind! .] theorem adj {xs:List Recv} (h:cT aw xs) (i:Nat):aw (xs.getD i (Ty.zero .recv)):=dm h (by unfold aw;(repeat' apply And.intro);all_goals first|exact λ_ h=>absurd h (List.not_mem_nil)|decide+kernel) i
@[grind=] theorem acA (xs:List Recv) (i:Nat):xs.getD i (Ty.zero .recv)=vG (xs.getD i (Ty.zero .recv)) (aw (xs.getD i (Ty.zero .recv))):=rfl
@[grind] def mR (x:Resu):Prop:=x.frames.length≤4294967296∧cT sS x.frames∧x.text.length≤4294967296
@[grind! .] theorem ac0 {xs:List Resu} (h:cT mR xs) (i:Nat):mR (xs.getD i (Ty.zero .resu)):=dm h (by unfold mR;(repeat' apply And.intro);all_goals first|exact λ_ h=>absurd h (List.not_mem_nil)|decide+kernel) i
@[grind=] theorem acJ (xs:List Resu) (i:Nat):xs.getD i (Ty.zero .resu)=vG (xs.getD i (Ty.zero .resu)) (mR (xs.getD i (Ty.zero .resu))):=rfl
@[grind] def am (x:Segm):Prop:=x.body.length≤4294967296
@[grind! .] theorem ac8 {xs:List Segm} (h:cT am xs) (i:Nat):am (xs.getD i (Ty.zero .segm)):=dm h (by unfold am;(repeat' apply And.intro);all_goals first|exact λ_ h=>absurd h (List.not_mem_nil)|decide+kernel) i
@[grind=] theorem acr (xs:List Segm) (i:Nat):xs.getD i (Ty.zero .segm)=vG (xs.getD i (Ty.zero .segm)) (am (xs.getD i (Ty.zero .segm))):=rfl
@[grind] def bP (x:Sndr):Prop:=x.data.length≤4294967296
@[grind! .] theorem adg {xs:List Sndr} (h:cT bP xs) (i:Nat):bP (xs.getD i (Ty.zero .sndr)):=dm h (by unfold bP;(repeat' apply And.intro);all_goals first|exact λ_ h=>absurd h (List.not_mem_nil)|decide+kernel) i
@[grind=] theorem acp (xs:List Sndr) (i:Nat):xs.getD i (Ty.zero .sndr)=vG (xs.getD i (Ty.zero .sndr)) (bP (xs.getD i (Ty.zero .sndr))):=rfl
@[grind] def aW (x:Stac):Prop:=x.link.cache.length≤4294967296∧x.door.keys.now.rows.length≤4294967296∧cT aG x.door.keys.now.rows∧x.door.keys.before.rows.length≤4294967296∧cT aG x.door.keys.before.rows∧x.door.halves.length≤4294967296∧x.door.table.conns.length≤4294967296∧cT aa x.door.table.conns∧x.door.table.waiting.length≤4294967296
@[grind! .] theorem ac3 {xs:List Stac} (h:cT aW xs) (i:Nat):aW (xs.getD i (Ty.zero .stac)):=dm h (by unfold aW;(repeat' apply And.intro);all_goals first|exact λ_ h=>absurd h (List.not_mem_nil)|decide+kernel) i
@[grind=] theorem acq (xs:List Stac) (i:Nat):xs.getD i (Ty.zero .stac)=vG (xs.getD i (Ty.zero .stac)) (aW (xs.getD i (Ty.zero .stac))):=rfl
@[grind] def aM (x:Tabl):Prop:=x.conns.length≤4294967296∧cT aa x.conns∧x.waiting.length≤4294967296
@[grind! .] theorem adG {xs:List Tabl} (h:cT aM xs) (i:Nat):aM (xs.getD i (Ty.zero .tabl)):=dm h (by unfold aM;(repeat' apply And.intro);all_goals first|exact λ_ h=>absurd h (List.not_mem_nil)|decide+kernel) i
@[grind=] theorem acM (xs:List Tabl) (i:Nat):xs.getD i (Ty.zero .tabl)=vG (xs.getD i (Ty.zero .tabl)) (aM (xs.getD i (Ty.zero .tabl))):=rfl
@[grind] def SO (s:Sndr):Prop:=0≤s.una∧s.una≤4294967295∧s.data.length≤48∧0≤s.sent∧s.sent≤s.data.length∧(s.finSent=true→s.fin=true∧s.sent=s.data.length)∧(s.done=true→s.fin=true∧s.finSent=false∧s.data=[])
@[grind] def Hz (s:Sndr):Nat:=((s.data.length:Int)-s.sent).toNat+if s.finSent=true then 0 else 1
@[grind] def po (y:Piec):Prop:=1≤y.off∧y.off+(y.text.length:Int)≤32
@[grind] def RO (r:Recv):Prop:=0≤r.next∧r.next≤4294967295∧r.data.length≤32∧r.held.length≤3∧cT po r.held
@[grind] def pl (n:Int) (y:Piec):Prop:=(y.text.length:Int)≤n
theorem aee {n:Int}{xs:List Piec}(h:cT (pl n) xs):cT (pl (n+1)) xs:=λy hy=>by have:=h y hy;simp only[pl]at*;omega
theorem adA {n:Int}{xs:List Piec}(h:cT (pl n) xs)(hn:0≤n)(i:Nat):((xs.getD i (Ty.zero .piec)).text.length:Int)≤n:=dm (p:=pl n) h (by have h0:(Ty.zero Ty.piec).text.length=0:=(by decide+kernel);simp only[pl];omega) i
theorem aeh {n:Int}{xs:List Piec}(h:cT (pl n) xs)(hn:n≤4294967296):cT cM xs:=λy hy=>by have:=h y hy;simp only[pl,cM]at*;omega
theorem adF {n:Int}{xs:List Piec}{y:Piec}{i:Nat}(h:cT (pl n) xs)(hy:pl n y):cT (pl n) (xs.set i y):=λz hz=>by
 rcases List.mem_or_eq_of_mem_set hz with h1|h1
 ·exact h z h1
 ·rw[h1];exact hy
theorem abH {n:Int}{xs:List Piec}{y:Piec}(h:cT (pl n) xs)(hy:pl n y):cT (pl n) (xs++[y]):=λz hz=>by
 rcases List.mem_append.1 hz with h1|h1
 ·exact h z h1
 ·rw[List.mem_singleton.1 h1];exact hy
theorem Wm {α:Type}{p:α→Prop}{xs:List α}{n:Int}(h:cT p (xs.take n.toNat))(hn:(xs.length:Int)≤n):cT p xs:=by rwa [List.take_of_length_le (by omega)]at h
theorem Rk {α:Type}{p:α→Prop}{xs:List α}{n:Int}{d:α}(h:cT p (xs.take n.toNat))(h0:0≤n)(hn:n<xs.length)(hx:p (xs.getD n.toNat d)):cT p (xs.take (n+1).toNat):=by
 rw[show(n+1).toNat=n.toNat+1 by omega,List.take_succ_eq_append_getElem (by omega)]
 intro y hy
 rcases List.mem_append.1 hy with hy|hy
 ·exact h y hy
 ·rw[List.mem_singleton]at hy
  subst hy
  rwa [show xs.getD n.toNat d=xs[n.toNat] by simp[List.getD,show n.toNat<xs.length by omega]]at hx
theorem abI {xs:List Piec}{n:Int}(h:cT po (xs.take n.toNat))(h0:0≤n)(hn:n<xs.length)(hx:po (xs.getD n.toNat (Ty.zero .piec))):cT po (xs.take (n+1).toNat):=Rk h h0 hn hx
theorem ac7 {xs:List Piec}{n:Int}(h:cT po (xs.take n.toNat))(hn:(xs.length:Int)≤n):cT po xs:=Wm h hn
@[grind] def YF (r:Recv):Int:=if r.done=true then 0 else 32-(r.data.length:Int)
@[grind] def pw (n:Int) (y:Piec):Prop:=1≤y.off∧y.off+(y.text.length:Int)≤n
theorem abf {xs:List Piec}{n L:Int}(h:cT (pw L) (xs.take n.toNat))(h0:0≤n)(hn:n<xs.length)(hx:pw L (xs.getD n.toNat (Ty.zero .piec))):cT (pw L) (xs.take (n+1).toNat):=Rk h h0 hn hx
theorem ac5 {xs:List Piec}{n L:Int}(h:cT (pw L) (xs.take n.toNat))(hn:(xs.length:Int)≤n):cT (pw L) xs:=Wm h hn
theorem ad2 {xs:List Piec}{L M:Int}(h:cT (pw L) xs)(hl:L≤M):cT (pw M) xs:=λy hy=>by have:=h y hy;unfold pw at*;omega
theorem ad0 {xs:List Piec}{L:Int}(h:cT (pw L) xs)(hl:L≤32):cT po xs:=λy hy=>by have:=h y hy;unfold pw at this;unfold po;omega
theorem adZ {xs:List Piec}{L:Int}{i:Nat}(h:cT (pw L) xs)(hi:i<xs.length):pw L (xs.getD i (Ty.zero .piec)):=h _ (by rw[List.getD,List.getElem?_eq_getElem hi];exact List.getElem_mem hi)
theorem aem {xs:List Piec}{i:Nat}(h:cT po xs)(hi:i<xs.length):po (xs.getD i (Ty.zero .piec)):=h _ (by rw[List.getD,List.getElem?_eq_getElem hi];exact List.getElem_mem hi)
instance:Inhabited Acti:=⟨Ty.zero .acti⟩
instance:Inhabited Arpm:=⟨Ty.zero .arpm⟩
instance:Inhabited Chun:=⟨Ty.zero .chun⟩
instance:Inhabited Clie:=⟨Ty.zero .clie⟩
instance:Inhabited Conn:=⟨Ty.zero .conn⟩
instance:Inhabited Curs:=⟨Ty.zero .curs⟩
instance:Inhabited Door:=⟨Ty.zero .door⟩
instance:Inhabited Entr:=⟨Ty.zero .entr⟩
instance:Inhabited Fram:=⟨Ty.zero .fram⟩
instance:Inhabited Half:=⟨Ty.zero .half⟩
instance:Inhabited Issu:=⟨Ty.zero .issu⟩
instance:Inhabited Keys:=⟨Ty.zero .keys⟩
instance:Inhabited Limi:=⟨Ty.zero .limi⟩
instance:Inhabited Link:=⟨Ty.zero .link⟩
instance:Inhabited Mac:=⟨Ty.zero .mac⟩
instance:Inhabited MacRow:=⟨Ty.zero .macRow⟩
instance:Inhabited Mail:=⟨Ty.zero .mail⟩
instance:Inhabited Opti:=⟨Ty.zero .opti⟩
instance:Inhabited Pack:=⟨Ty.zero .pack⟩
instance:Inhabited Piec:=⟨Ty.zero .piec⟩
instance:Inhabited Recv:=⟨Ty.zero .recv⟩
instance:Inhabited Resu:=⟨Ty.zero .resu⟩
instance:Inhabited Segm:=⟨Ty.zero .segm⟩
instance:Inhabited Sipr:=⟨Ty.zero .sipr⟩
instance:Inhabited Sndr:=⟨Ty.zero .sndr⟩
instance:Inhabited Stac:=⟨Ty.zero .stac⟩
instance:Inhabited Tabl:=⟨Ty.zero .tabl⟩
instance:Inhabited Tupl:=⟨Ty.zero .tupl⟩
end Go.Proofs.YtfpdenjmlnhnnaaGreat
