/- The table of types of this seat, and its closed facts. -/
import Derived.Test.YteiiknfadjnmgaaGreatPure
import Derived.Test.YteiiknfadjnmgaaGreatRows
import Derived.KernelRfl
set_option linter.unusedVariables false
set_option linter.unusedSimpArgs false
namespace Go.Proofs.YteiiknfadjnmgaaGreat
open Go Go.RowKit
def te:TE:=[
 (2,.sc (.int .i64)),
 (3,.sc (.int .i64)),
 (4,.sc .bool),
 (5,.sc (.int .u8)),
 (6,.sc (.int .u8)),
 (9,.sc .str),
 (10,.sc .str),
 (11,.sc .str),
 (12,.sc (.int .u64)),
 (21,.sc (.int .i32)),
 (22,.sl .u8 1),
 (24,.sl .entr 24),
 (26,.st .link [(0,3),(1,3),(2,24)]),
 (27,.sc (.int .u64)),
 (28,.sl .macRow 24),
 (30,.st .mac [(0,4),(1,27),(2,27),(3,28)]),
 (32,.st .keys [(0,3),(1,30),(5,30),(9,4)]),
 (34,.st .limi [(0,3),(1,3),(2,3),(3,3)]),
 (35,.sl .half 96),
 (36,.sl .conn 208),
 (37,.sl .tupl 24),
 (39,.st .tabl [(0,36),(1,37)]),
 (41,.st .door [(0,3),(1,3),(2,32),(12,34),(16,35),(17,39),(19,3)]),
 (43,.st .stac [(0,26),(3,41)]),
 (45,.st .tupl [(0,3),(1,3),(2,3)]),
 (47,.st .acti [(0,3),(1,45),(4,3),(5,9),(6,30)]),
 (50,.sl .str 16),
 (52,.st .resu [(0,50),(1,3),(2,45),(5,3),(6,9),(7,4)]),
 (62,.sl .acti 104),
 (65,.sl .resu 88),
 (68,.sl .issu 40),
 (71,.st .issu [(0,45),(3,3),(4,3)]),
 (84,.st .opti [(0,3),(1,3),(2,4),(3,4),(4,3),(5,3)]),
 (86,.st .clie [(0,45),(3,3),(4,84),(10,3)]),
 (88,.st .sndr [(0,3),(1,9),(2,3),(3,4),(4,4),(5,4)]),
 (89,.sl .piec 24),
 (91,.st .recv [(0,3),(1,9),(2,89),(3,3),(4,4)]),
 (93,.st .conn [(0,45),(3,3),(4,88),(10,91),(15,3),(16,3),(17,84),(23,3),(24,3)]),
 (97,.sl .entr 24),
 (99,.st .link [(0,3),(1,3),(2,97)]),
 (100,.sl .macRow 24),
 (102,.st .mac [(0,4),(1,27),(2,27),(3,100)]),
 (104,.st .keys [(0,3),(1,102),(5,102),(9,4)]),
 (105,.st .limi [(0,3),(1,3),(2,3),(3,3)]),
 (106,.sl .half 96),
 (107,.sl .conn 208),
 (108,.sl .tupl 24),
 (110,.st .tabl [(0,107),(1,108)]),
 (112,.st .door [(0,3),(1,3),(2,104),(12,105),(16,106),(17,110),(19,3)]),
 (114,.st .stac [(0,99),(3,112)]),
 (115,.st .tupl [(0,3),(1,3),(2,3)]),
 (117,.st .acti [(0,3),(1,115),(4,3),(5,9),(6,102)]),
 (127,.st .half [(0,45),(3,3),(4,3),(5,84),(11,3),(12,3)]),
 (128,.ptr),
 (142,.sl .segm 104),
 (157,.st .piec [(0,3),(1,9)]),
 (168,.st .pack [(0,3),(1,3),(2,3),(3,3),(4,3),(5,9)]),
 (170,.st .segm [(0,3),(1,3),(2,3),(3,3),(4,3),(5,3),(6,84),(12,9)]),
 (182,.sl .mac 48),
 (204,.st .curs [(0,22),(1,3),(2,3)]),
 (208,.sl .i64 8),
 (216,.sl .mail 112),
 (220,.st .mail [(0,3),(1,170)]),
 (240,.st .entr [(0,3),(1,3),(2,3)]),
 (245,.st .macRow [(0,9),(1,3)]),
 (261,.st .fram [(0,3),(1,3),(2,3),(3,9)]),
 (309,.st .arpm [(0,3),(1,3),(2,3),(3,3),(4,3)]),
 (341,.sc (.int .u64)),
 (364,.st .macRow [(0,9),(1,3)]),
 (366,.st .entr [(0,3),(1,3),(2,3)]),
 (368,.st .opti [(0,3),(1,3),(2,4),(3,4),(4,3),(5,3)]),
 (370,.st .half [(0,115),(3,3),(4,3),(5,368),(11,3),(12,3)]),
 (396,.st .chun [(0,3),(1,9),(2,4)]),
 (409,.st .sipr [(0,27),(1,27),(2,27),(3,27)]),
 (426,.st .sndr [(0,3),(1,9),(2,3),(3,4),(4,4),(5,4)]),
 (427,.sl .piec 24),
 (429,.st .recv [(0,3),(1,9),(2,427),(3,3),(4,4)]),
 (431,.st .conn [(0,115),(3,3),(4,426),(10,429),(15,3),(16,3),(17,368),(23,3),(24,3)]),
 (444,.sl .bool 1),
 (456,.sc (.int .u32)),
 (465,.st .piec [(0,3),(1,9)]),
 (476,.sc (.int .u8)),
 (477,.sc (.int .u8)),
 (479,.ptr),
 (480,.sc (.int .i32)),
 (481,.sc (.int .i32)),
 (1000051,.wr [true]),
 (1000052,.wr [true,false]),
 (1000098,.wr [true]),
 (1000099,.wr [true,false]),
 (1000129,.wr [true]),
 (1000130,.wr [true]),
 (1000131,.wr [true]),
 (1000132,.wr [true,false]),
 (1000133,.wr [true,false]),
 (1000134,.wr [true]),
 (1000135,.wr [true]),
 (1000143,.wr [true,true]),
 (1000145,.wr [true,true]),
 (1000147,.wr [true,true]),
 (1000177,.wr [false,true]),
 (1000188,.wr [false,true]),
 (1000190,.wr [true,false]),
 (1000191,.wr [true,false]),
 (1000199,.wr [true,false]),
 (1000200,.wr [true]),
 (1000201,.wr [true]),
 (1000205,.wr [false,true]),
 (1000239,.wr [true]),
 (1000240,.wr [true]),
 (1000242,.wr [true]),
 (1000243,.wr [true]),
 (1000244,.wr [true]),
 (1000245,.wr [true]),
 (1000246,.wr [true]),
 (1000247,.wr [true]),
 (1000248,.wr [true]),
 (1000250,.wr [true]),
 (1000251,.wr [true,false]),
 (1000252,.wr [true,false]),
 (1000254,.wr [true]),
 (1000270,.wr [true,true]),
 (1000310,.wr [false,true]),
 (1000314,.wr [false,true]),
 (1000318,.wr [true]),
 (1000319,.wr [true]),
 (1000321,.wr [false,true]),
 (1000329,.wr [true,false,false]),
 (1000352,.wr [true]),
 (1000353,.wr [true]),
 (1000354,.wr [true]),
 (1000355,.wr [true,false,false]),
 (1000356,.wr [true]),
 (1000357,.wr [true]),
 (1000358,.wr [true]),
 (1000359,.wr [true]),
 (1000360,.wr [true,false]),
 (1000361,.wr [true]),
 (1000362,.wr [true]),
 (1000363,.wr [true]),
 (1000365,.wr [true,false]),
 (1000366,.wr [true,false,false]),
 (1000368,.wr [true,false]),
 (1000369,.wr [true,false]),
 (1000371,.wr [true,false,false]),
 (1000433,.wr [true]),
 (1000434,.wr [true,false]),
 (1000435,.wr [true]),
 (1000437,.wr [true]),
 (1000438,.wr [true]),
 (1000439,.wr [true]),
 (1000440,.wr [true]),
 (1000441,.wr [true]),
 (1000444,.wr [true,false]),
 (1000446,.wr [true]),
 (1000448,.wr [true,false]),
 (1000473,.wr [true]),
 (1000475,.wr [true]),
 (1000476,.wr [true]),
 (1000513,.wr [true]),
 (1000514,.wr [true]),
 (1000515,.wr [true]),
 (1000516,.wr [true]),
 (1000517,.wr [true]),
 (4000024,.wr []),
 (4000035,.wr []),
 (4000036,.wr []),
 (4000037,.wr [])]
theorem TQ:iH te Tryz.prog=true:=by kernel_rfl
theorem XE:Pz te Tryz.prog=true:=by kernel_rfl
theorem XM:laidOutB Tryz.prog=true:=by kernel_rfl
theorem Vo:ownKnob Tryz.prog.godebug=none:=by kernel_rfl
theorem V0:Tryz.prog.follows .mixedOrders=true:=by kernel_rfl
def st:Seat Tryz.prog:=⟨te,TQ,V0⟩
def PC (o0:Ow)(x:Acti):List RC:=[.c (.int .i64 x.kind),.c (.int .i64 x.tuple.ip),.c (.int .i64 x.tuple.port),.c (.int .i64 x.tuple.my),.c (.int .i64 x.n),.c (.str x.text),.c (.bool x.mac.use),.c (.int .u64 x.mac.k),.c (.int .u64 x.mac.l),sc o0 .macRow x.mac.rows]
def ED (x:Arpm):List RC:=[.c (.int .i64 x.kind),.c (.int .i64 x.srcHw),.c (.int .i64 x.srcIp),.c (.int .i64 x.dstHw),.c (.int .i64 x.dstIp)]
def UA (x:Chun):List RC:=[.c (.int .i64 x.seq),.c (.str x.text),.c (.bool x.fin)]
def kg (o0:Ow)(x:Conn):List RC:=[.c (.int .i64 x.tuple.ip),.c (.int .i64 x.tuple.port),.c (.int .i64 x.tuple.my),.c (.int .i64 x.state),.c (.int .i64 x.s.una),.c (.str x.s.data),.c (.int .i64 x.s.sent),.c (.bool x.s.fin),.c (.bool x.s.finSent),.c (.bool x.s.done),.c (.int .i64 x.r.next),.c (.str x.r.data),sc o0 .piec x.r.held,.c (.int .i64 x.r.fin),.c (.bool x.r.done),.c (.int .i64 x.window),.c (.int .i64 x.most),.c (.int .i64 x.opts.mss),.c (.int .i64 x.opts.scale),.c (.bool x.opts.sack),.c (.bool x.opts.stamp),.c (.int .i64 x.opts.val),.c (.int .i64 x.opts.echo),.c (.int .i64 x.timer),.c (.int .i64 x.tries)]
def lZ (o0 o1 o2 o3 o4:Ow)(x:Door):List RC:=[.c (.int .i64 x.port),.c (.int .i64 x.clock),.c (.int .i64 x.keys.epoch),.c (.bool x.keys.now.use),.c (.int .u64 x.keys.now.k),.c (.int .u64 x.keys.now.l),sc o0 .macRow x.keys.now.rows,.c (.bool x.keys.before.use),.c (.int .u64 x.keys.before.k),.c (.int .u64 x.keys.before.l),sc o1 .macRow x.keys.before.rows,.c (.bool x.keys.two),.c (.int .i64 x.limits.halves),.c (.int .i64 x.limits.waiting),.c (.int .i64 x.limits.conns),.c (.int .i64 x.limits.chal),sc o2 .half x.halves,sc o3 .conn x.table.conns,sc o4 .tupl x.table.waiting,.c (.int .i64 x.chal)]
def QL (x:Fram):List RC:=[.c (.int .i64 x.dst),.c (.int .i64 x.src),.c (.int .i64 x.type),.c (.str x.body)]
def WZ (x:Half):List RC:=[.c (.int .i64 x.tuple.ip),.c (.int .i64 x.tuple.port),.c (.int .i64 x.tuple.my),.c (.int .i64 x.iss),.c (.int .i64 x.irs),.c (.int .i64 x.opts.mss),.c (.int .i64 x.opts.scale),.c (.bool x.opts.sack),.c (.bool x.opts.stamp),.c (.int .i64 x.opts.val),.c (.int .i64 x.opts.echo),.c (.int .i64 x.age),.c (.int .i64 x.window)]
def Ao (o0 o1:Ow)(x:Keys):List RC:=[.c (.int .i64 x.epoch),.c (.bool x.now.use),.c (.int .u64 x.now.k),.c (.int .u64 x.now.l),sc o0 .macRow x.now.rows,.c (.bool x.before.use),.c (.int .u64 x.before.k),.c (.int .u64 x.before.l),sc o1 .macRow x.before.rows,.c (.bool x.two)]
def Ud (x:Limi):List RC:=[.c (.int .i64 x.halves),.c (.int .i64 x.waiting),.c (.int .i64 x.conns),.c (.int .i64 x.chal)]
def xn (o0:Ow)(x:Link):List RC:=[.c (.int .i64 x.mac),.c (.int .i64 x.ip),sc o0 .entr x.cache]
def DT (o0:Ow)(x:Mac):List RC:=[.c (.bool x.use),.c (.int .u64 x.k),.c (.int .u64 x.l),sc o0 .macRow x.rows]
def ml (x:Opti):List RC:=[.c (.int .i64 x.mss),.c (.int .i64 x.scale),.c (.bool x.sack),.c (.bool x.stamp),.c (.int .i64 x.val),.c (.int .i64 x.echo)]
def uJ (x:Pack):List RC:=[.c (.int .i64 x.src),.c (.int .i64 x.dst),.c (.int .i64 x.ttl),.c (.int .i64 x.proto),.c (.int .i64 x.id),.c (.str x.body)]
def uy (o0:Ow)(x:Recv):List RC:=[.c (.int .i64 x.next),.c (.str x.data),sc o0 .piec x.held,.c (.int .i64 x.fin),.c (.bool x.done)]
def PT (o0:Ow)(x:Resu):List RC:=[sc o0 .str x.frames,.c (.int .i64 x.made),.c (.int .i64 x.tuple.ip),.c (.int .i64 x.tuple.port),.c (.int .i64 x.tuple.my),.c (.int .i64 x.n),.c (.str x.text),.c (.bool x.ok)]
def mq (x:Segm):List RC:=[.c (.int .i64 x.from_),.c (.int .i64 x.to),.c (.int .i64 x.seq),.c (.int .i64 x.ack),.c (.int .i64 x.flags),.c (.int .i64 x.window),.c (.int .i64 x.opts.mss),.c (.int .i64 x.opts.scale),.c (.bool x.opts.sack),.c (.bool x.opts.stamp),.c (.int .i64 x.opts.val),.c (.int .i64 x.opts.echo),.c (.str x.body)]
def Au (x:Sipr):List RC:=[.c (.int .u64 x.a),.c (.int .u64 x.b),.c (.int .u64 x.c),.c (.int .u64 x.d)]
def xg (x:Sndr):List RC:=[.c (.int .i64 x.una),.c (.str x.data),.c (.int .i64 x.sent),.c (.bool x.fin),.c (.bool x.finSent),.c (.bool x.done)]
def sI (o0 o1 o2 o3 o4 o5:Ow)(x:Stac):List RC:=[.c (.int .i64 x.link.mac),.c (.int .i64 x.link.ip),sc o0 .entr x.link.cache,.c (.int .i64 x.door.port),.c (.int .i64 x.door.clock),.c (.int .i64 x.door.keys.epoch),.c (.bool x.door.keys.now.use),.c (.int .u64 x.door.keys.now.k),.c (.int .u64 x.door.keys.now.l),sc o1 .macRow x.door.keys.now.rows,.c (.bool x.door.keys.before.use),.c (.int .u64 x.door.keys.before.k),.c (.int .u64 x.door.keys.before.l),sc o2 .macRow x.door.keys.before.rows,.c (.bool x.door.keys.two),.c (.int .i64 x.door.limits.halves),.c (.int .i64 x.door.limits.waiting),.c (.int .i64 x.door.limits.conns),.c (.int .i64 x.door.limits.chal),sc o3 .half x.door.halves,sc o4 .conn x.door.table.conns,sc o5 .tupl x.door.table.waiting,.c (.int .i64 x.door.chal)]
def qg (o0 o1:Ow)(x:Tabl):List RC:=[sc o0 .conn x.conns,sc o1 .tupl x.waiting]
def JT (x:Tupl):List RC:=[.c (.int .i64 x.ip),.c (.int .i64 x.port),.c (.int .i64 x.my)]
@[grind] def bA (x:MacRow):Prop:=x.input.length≤4294967296
@[grind! .] theorem V4 {xs:List MacRow} (h:cY bA xs) (i:Nat):bA (xs.getD i (Ty.zero .macRow)):=cr h (by unfold bA;(repeat' apply And.intro);all_goals first|exact λ_ h=>absurd h (List.not_mem_nil)|decide+kernel) i
@[grind=] theorem Vn (xs:List MacRow) (i:Nat):xs.getD i (Ty.zero .macRow)=rX (xs.getD i (Ty.zero .macRow)) (bA (xs.getD i (Ty.zero .macRow))):=rfl
@[grind] def f7 (x:Acti):Prop:=x.text.length≤4294967296∧x.mac.rows.length≤4294967296∧cY bA x.mac.rows
@[grind! .] theorem XQ {xs:List Acti} (h:cY f7 xs) (i:Nat):f7 (xs.getD i (Ty.zero .acti)):=cr h (by unfold f7;(repeat' apply And.intro);all_goals first|exact λ_ h=>absurd h (List.not_mem_nil)|decide+kernel) i
@[grind=] theorem Ws (xs:List Acti) (i:Nat):xs.getD i (Ty.zero .acti)=rX (xs.getD i (Ty.zero .acti)) (f7 (xs.getD i (Ty.zero .acti))):=rfl
@[grind] def nL (x:Chun):Prop:=x.text.length≤4294967296
@[grind! .] theorem Xt {xs:List Chun} (h:cY nL xs) (i:Nat):nL (xs.getD i (Ty.zero .chun)):=cr h (by unfold nL;(repeat' apply And.intro);all_goals first|exact λ_ h=>absurd h (List.not_mem_nil)|decide+kernel) i
@[grind=] theorem Wg (xs:List Chun) (i:Nat):xs.getD i (Ty.zero .chun)=rX (xs.getD i (Ty.zero .chun)) (nL (xs.getD i (Ty.zero .chun))):=rfl
@[grind] def j8 (x:Piec):Prop:=x.text.length≤4294967296
@[grind! .] theorem XH {xs:List Piec} (h:cY j8 xs) (i:Nat):j8 (xs.getD i (Ty.zero .piec)):=cr h (by unfold j8;(repeat' apply And.intro);all_goals first|exact λ_ h=>absurd h (List.not_mem_nil)|decide+kernel) i
@[grind=] theorem Wx (xs:List Piec) (i:Nat):xs.getD i (Ty.zero .piec)=rX (xs.getD i (Ty.zero .piec)) (j8 (xs.getD i (Ty.zero .piec))):=rfl
@[grind] def ak (x:Conn):Prop:=x.s.data.length≤4294967296∧x.r.data.length≤4294967296∧x.r.held.length≤4294967296∧cY j8 x.r.held
@[grind! .] theorem W0 {xs:List Conn} (h:cY ak xs) (i:Nat):ak (xs.getD i (Ty.zero .conn)):=cr h (by unfold ak;(repeat' apply And.intro);all_goals first|exact λ_ h=>absurd h (List.not_mem_nil)|decide+kernel) i
@[grind=] theorem Wl (xs:List Conn) (i:Nat):xs.getD i (Ty.zero .conn)=rX (xs.getD i (Ty.zero .conn)) (ak (xs.getD i (Ty.zero .conn))):=rfl
@[grind] def ae (x:Curs):Prop:=0≤x.i∧x.b.length≤1048576
@[grind] def aU (x:Door):Prop:=x.keys.now.rows.length≤4294967296∧cY bA x.keys.now.rows∧x.keys.before.rows.length≤4294967296∧cY bA x.keys.before.rows∧x.halves.length≤4294967296∧x.table.conns.length≤4294967296∧cY ak x.table.conns∧x.table.waiting.length≤4294967296
@[grind! .] theorem Xf {xs:List Door} (h:cY aU xs) (i:Nat):aU (xs.getD i (Ty.zero .door)):=cr h (by unfold aU;(repeat' apply And.intro);all_goals first|exact λ_ h=>absurd h (List.not_mem_nil)|decide+kernel) i
@[grind=] theorem Wh (xs:List Door) (i:Nat):xs.getD i (Ty.zero .door)=rX (xs.getD i (Ty.zero .door)) (aU (xs.getD i (Ty.zero .door))):=rfl
@[grind] def mt (x:Fram):Prop:=x.body.length≤4294967296
@[grind! .] theorem Xl {xs:List Fram} (h:cY mt xs) (i:Nat):mt (xs.getD i (Ty.zero .fram)):=cr h (by unfold mt;(repeat' apply And.intro);all_goals first|exact λ_ h=>absurd h (List.not_mem_nil)|decide+kernel) i
@[grind=] theorem WB (xs:List Fram) (i:Nat):xs.getD i (Ty.zero .fram)=rX (xs.getD i (Ty.zero .fram)) (mt (xs.getD i (Ty.zero .fram))):=rfl
@[grind] def cE (x:Keys):Prop:=x.now.rows.length≤4294967296∧cY bA x.now.rows∧x.before.rows.length≤4294967296∧cY bA x.before.rows
@[grind! .] theorem XA {xs:List Keys} (h:cY cE xs) (i:Nat):cE (xs.getD i (Ty.zero .keys)):=cr h (by unfold cE;(repeat' apply And.intro);all_goals first|exact λ_ h=>absurd h (List.not_mem_nil)|decide+kernel) i
@[grind=] theorem Wk (xs:List Keys) (i:Nat):xs.getD i (Ty.zero .keys)=rX (xs.getD i (Ty.zero .keys)) (cE (xs.getD i (Ty.zero .keys))):=rfl
@[grind] def d8 (x:Link):Prop:=x.cache.length≤4294967296
@[grind! .] theorem Xa {xs:List Link} (h:cY d8 xs) (i:Nat):d8 (xs.getD i (Ty.zero .link)):=cr h (by unfold d8;(repeat' apply And.intro);all_goals first|exact λ_ h=>absurd h (List.not_mem_nil)|decide+kernel) i
@[grind=] theorem WK (xs:List Link) (i:Nat):xs.getD i (Ty.zero .link)=rX (xs.getD i (Ty.zero .link)) (d8 (xs.getD i (Ty.zero .link))):=rfl
@[grind] def dF (x:Mac):Prop:=x.rows.length≤4294967296∧cY bA x.rows
@[grind! .] theorem XU {xs:List Mac} (h:cY dF xs) (i:Nat):dF (xs.getD i (Ty.zero .mac)):=cr h (by unfold dF;(repeat' apply And.intro);all_goals first|exact λ_ h=>absurd h (List.not_mem_nil)|decide+kernel) i
@[grind=] theorem Xx (xs:List Mac) (i:Nat):xs.getD i (Ty.zero .mac)=rX (xs.getD i (Ty.zero .mac)) (dF (xs.getD i (Ty.zero .mac))):=rfl
@[grind] def Dq (x:Mail):Prop:=x.g.body.length≤4294967296
@[grind! .] theorem W1 {xs:List Mail} (h:cY Dq xs) (i:Nat):Dq (xs.getD i (Ty.zero .mail)):=cr h (by unfold Dq;(repeat' apply And.intro);all_goals first|exact λ_ h=>absurd h (List.not_mem_nil)|decide+kernel) i
@[grind=] theorem Wu (xs:List Mail) (i:Nat):xs.getD i (Ty.zero .mail)=rX (xs.getD i (Ty.zero .mail)) (Dq (xs.getD i (Ty.zero .mail))):=rfl
@[grind] def gT (x:Pack):Prop:=x.body.length≤4294967296
@[grind! .] theorem Xh {xs:List Pack} (h:cY gT xs) (i:Nat):gT (xs.getD i (Ty.zero .pack)):=cr h (by unfold gT;(repeat' apply And.intro);all_goals first|exact λ_ h=>absurd h (List.not_mem_nil)|decide+kernel) i
@[grind=] theorem WN (xs:List Pack) (i:Nat):xs.getD i (Ty.zero .pack)=rX (xs.getD i (Ty.zero .pack)) (gT (xs.getD i (Ty.zero .pack))):=rfl
@[grind] def aZ (x:Recv):Prop:=x.data.length≤4294967296∧x.held.length≤4294967296∧cY j8 x.held
@[grind! .] theorem Xc {xs:List Recv} (h:cY aZ xs) (i:Nat):aZ (xs.getD i (Ty.zero .recv)):=cr h (by unfold aZ;(repeat' apply And.intro);all_goals first|exact λ_ h=>absurd h (List.not_mem_nil)|decide+kernel) i
@[grind=] theorem Wn (xs:List Recv) (i:Nat):xs.getD i (Ty.zero .recv)=rX (xs.getD i (Ty.zero .recv)) (aZ (xs.getD i (Ty.zero .recv))):=rfl
@[grind] def j7 (x:Resu):Prop:=x.frames.length≤4294967296∧cY sS x.frames∧x.text.length≤4294967296
@[grind! .] theorem WU {xs:List Resu} (h:cY j7 xs) (i:Nat):j7 (xs.getD i (Ty.zero .resu)):=cr h (by unfold j7;(repeat' apply And.intro);all_goals first|exact λ_ h=>absurd h (List.not_mem_nil)|decide+kernel) i
@[grind=] theorem WI (xs:List Resu) (i:Nat):xs.getD i (Ty.zero .resu)=rX (xs.getD i (Ty.zero .resu)) (j7 (xs.getD i (Ty.zero .resu))):=rfl
@[grind] def ar (x:Segm):Prop:=x.body.length≤4294967296
@[grind! .] theorem XJ {xs:List Segm} (h:cY ar xs) (i:Nat):ar (xs.getD i (Ty.zero .segm)):=cr h (by unfold ar;(repeat' apply And.intro);all_goals first|exact λ_ h=>absurd h (List.not_mem_nil)|decide+kernel) i
@[grind=] theorem Ww (xs:List Segm) (i:Nat):xs.getD i (Ty.zero .segm)=rX (xs.getD i (Ty.zero .segm)) (ar (xs.getD i (Ty.zero .segm))):=rfl
@[grind] def ci (x:Sndr):Prop:=x.data.length≤4294967296
@[grind! .] theorem Xu {xs:List Sndr} (h:cY ci xs) (i:Nat):ci (xs.getD i (Ty.zero .sndr)):=cr h (by unfold ci;(repeat' apply And.intro);all_goals first|exact λ_ h=>absurd h (List.not_mem_nil)|decide+kernel) i
@[grind=] theorem Wt (xs:List Sndr) (i:Nat):xs.getD i (Ty.zero .sndr)=rX (xs.getD i (Ty.zero .sndr)) (ci (xs.getD i (Ty.zero .sndr))):=rfl
@[grind] def bL (x:Stac):Prop:=x.link.cache.length≤4294967296∧x.door.keys.now.rows.length≤4294967296∧cY bA x.door.keys.now.rows∧x.door.keys.before.rows.length≤4294967296∧cY bA x.door.keys.before.rows∧x.door.halves.length≤4294967296∧x.door.table.conns.length≤4294967296∧cY ak x.door.table.conns∧x.door.table.waiting.length≤4294967296
@[grind! .] theorem XG {xs:List Stac} (h:cY bL xs) (i:Nat):bL (xs.getD i (Ty.zero .stac)):=cr h (by unfold bL;(repeat' apply And.intro);all_goals first|exact λ_ h=>absurd h (List.not_mem_nil)|decide+kernel) i
@[grind=] theorem Wr (xs:List Stac) (i:Nat):xs.getD i (Ty.zero .stac)=rX (xs.getD i (Ty.zero .stac)) (bL (xs.getD i (Ty.zero .stac))):=rfl
@[grind] def bg (x:Tabl):Prop:=x.conns.length≤4294967296∧cY ak x.conns∧x.waiting.length≤4294967296
@[grind! .] theorem W4 {xs:List Tabl} (h:cY bg xs) (i:Nat):bg (xs.getD i (Ty.zero .tabl)):=cr h (by unfold bg;(repeat' apply And.intro);all_goals first|exact λ_ h=>absurd h (List.not_mem_nil)|decide+kernel) i
@[grind=] theorem Wj (xs:List Tabl) (i:Nat):xs.getD i (Ty.zero .tabl)=rX (xs.getD i (Ty.zero .tabl)) (bg (xs.getD i (Ty.zero .tabl))):=rfl
@[grind] def SO (s:Sndr):Prop:=0≤s.una∧s.una≤4294967295∧s.data.length≤48∧0≤s.sent∧s.sent≤s.data.length∧(s.finSent=true→s.fin=true∧s.sent=s.data.length)∧(s.done=true→s.fin=true∧s.finSent=false∧s.data=[])
@[grind] def Be (s:Sndr):Nat:=((s.data.length:Int)-s.sent).toNat+if s.finSent=true then 0 else 1
@[grind] def po (y:Piec):Prop:=1≤y.off∧y.off+(y.text.length:Int)≤32
@[grind] def RO (r:Recv):Prop:=0≤r.next∧r.next≤4294967295∧r.data.length≤32∧r.held.length≤3∧cY po r.held
@[grind] def pl (n:Int) (y:Piec):Prop:=(y.text.length:Int)≤n
theorem Ym {n:Int}{xs:List Piec}(h:cY (pl n) xs):cY (pl (n+1)) xs:=λy hy=>by have:=h y hy;simp only[pl]at*;omega
theorem XK {n:Int}{xs:List Piec}(h:cY (pl n) xs)(hn:0≤n)(i:Nat):((xs.getD i (Ty.zero .piec)).text.length:Int)≤n:=cr (p:=pl n) h (by have h0:(Ty.zero Ty.piec).text.length=0:=(by decide+kernel);simp only[pl];omega) i
theorem XX {n:Int}{xs:List Piec}(h:cY (pl n) xs)(hn:n≤4294967296):cY j8 xs:=λy hy=>by have:=h y hy;simp only[pl,j8]at*;omega
theorem Xg {n:Int}{xs:List Piec}{y:Piec}{i:Nat}(h:cY (pl n) xs)(hy:pl n y):cY (pl n) (xs.set i y):=λz hz=>by
 rcases List.mem_or_eq_of_mem_set hz with h1|h1
 ·exact h z h1
 ·rw[h1];exact hy
theorem Vp {n:Int}{xs:List Piec}{y:Piec}(h:cY (pl n) xs)(hy:pl n y):cY (pl n) (xs++[y]):=λz hz=>by
 rcases List.mem_append.1 hz with h1|h1
 ·exact h z h1
 ·rw[List.mem_singleton.1 h1];exact hy
theorem Q8 {α:Type}{p:α→Prop}{xs:List α}{n:Int}(h:cY p (xs.take n.toNat))(hn:(xs.length:Int)≤n):cY p xs:=by rwa [List.take_of_length_le (by omega)]at h
theorem Ny {α:Type}{p:α→Prop}{xs:List α}{n:Int}{d:α}(h:cY p (xs.take n.toNat))(h0:0≤n)(hn:n<xs.length)(hx:p (xs.getD n.toNat d)):cY p (xs.take (n+1).toNat):=by
 rw[show(n+1).toNat=n.toNat+1 by omega,List.take_succ_eq_append_getElem (by omega)]
 intro y hy
 rcases List.mem_append.1 hy with hy|hy
 ·exact h y hy
 ·rw[List.mem_singleton]at hy
  subst hy
  rwa [show xs.getD n.toNat d=xs[n.toNat] by simp[List.getD,show n.toNat<xs.length by omega]]at hx
theorem Vz {xs:List Piec}{n:Int}(h:cY po (xs.take n.toNat))(h0:0≤n)(hn:n<xs.length)(hx:po (xs.getD n.toNat (Ty.zero .piec))):cY po (xs.take (n+1).toNat):=Ny h h0 hn hx
theorem Xr {xs:List Piec}{n:Int}(h:cY po (xs.take n.toNat))(hn:(xs.length:Int)≤n):cY po xs:=Q8 h hn
@[grind] def TZ (r:Recv):Int:=if r.done=true then 0 else 32-(r.data.length:Int)
@[grind] def pw (n:Int) (y:Piec):Prop:=1≤y.off∧y.off+(y.text.length:Int)≤n
theorem Wa {xs:List Piec}{n L:Int}(h:cY (pw L) (xs.take n.toNat))(h0:0≤n)(hn:n<xs.length)(hx:pw L (xs.getD n.toNat (Ty.zero .piec))):cY (pw L) (xs.take (n+1).toNat):=Ny h h0 hn hx
theorem WV {xs:List Piec}{n L:Int}(h:cY (pw L) (xs.take n.toNat))(hn:(xs.length:Int)≤n):cY (pw L) xs:=Q8 h hn
theorem Ya {xs:List Piec}{L M:Int}(h:cY (pw L) xs)(hl:L≤M):cY (pw M) xs:=λy hy=>by have:=h y hy;unfold pw at*;omega
theorem Yg {xs:List Piec}{L:Int}(h:cY (pw L) xs)(hl:L≤32):cY po xs:=λy hy=>by have:=h y hy;unfold pw at this;unfold po;omega
theorem XW {xs:List Piec}{i:Nat}(h:cY po xs)(hi:i<xs.length):po (xs.getD i (Ty.zero .piec)):=h _ (by rw[List.getD,List.getElem?_eq_getElem hi];exact List.getElem_mem hi)
instance:Inhabited Acti:=⟨Ty.zero .acti⟩
instance:Inhabited Arpm:=⟨Ty.zero .arpm⟩
instance:Inhabited Chun:=⟨Ty.zero .chun⟩
instance:Inhabited Clie:=⟨Ty.zero .clie⟩
instance:Inhabited Conn:=⟨Ty.zero .conn⟩
instance:Inhabited Curs:=⟨Ty.zero .curs⟩
instance:Inhabited Door:=⟨Ty.zero .door⟩
instance:Inhabited Entr:=⟨Ty.zero .entr⟩
instance:Inhabited Fram:=⟨Ty.zero .fram⟩
instance:Inhabited Half:=⟨Ty.zero .half⟩
instance:Inhabited Issu:=⟨Ty.zero .issu⟩
instance:Inhabited Keys:=⟨Ty.zero .keys⟩
instance:Inhabited Limi:=⟨Ty.zero .limi⟩
instance:Inhabited Link:=⟨Ty.zero .link⟩
instance:Inhabited Mac:=⟨Ty.zero .mac⟩
instance:Inhabited MacRow:=⟨Ty.zero .macRow⟩
instance:Inhabited Mail:=⟨Ty.zero .mail⟩
instance:Inhabited Opti:=⟨Ty.zero .opti⟩
instance:Inhabited Pack:=⟨Ty.zero .pack⟩
instance:Inhabited Piec:=⟨Ty.zero .piec⟩
instance:Inhabited Recv:=⟨Ty.zero .recv⟩
instance:Inhabited Resu:=⟨Ty.zero .resu⟩
instance:Inhabited Segm:=⟨Ty.zero .segm⟩
instance:Inhabited Sipr:=⟨Ty.zero .sipr⟩
instance:Inhabited Sndr:=⟨Ty.zero .sndr⟩
instance:Inhabited Stac:=⟨Ty.zero .stac⟩
instance:Inhabited Tabl:=⟨Ty.zero .tabl⟩
instance:Inhabited Tupl:=⟨Ty.zero .tupl⟩
end Go.Proofs.YteiiknfadjnmgaaGreat
