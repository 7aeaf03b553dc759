/- The table of types of this seat, and its closed facts. -/
import Derived.Test.YteiiknfadjnmgaaGreatPure
import Derived.Test.YteiiknfadjnmgaaGreatRows
import Derived.KernelRfl
set_option linter.unusedVariables false
set_option linter.unusedSimpArgs false
namespace Go.Proofs.YteiiknfadjnmgaaGreat
open Go Go.RowKit
def te:TE:=[
 (2,.sc (.int .i64)),
 (3,.sc (.int .i64)),
 (4,.sc .bool),
 (5,.sc (.int .u8)),
 (6,.sc (.int .u8)),
 (9,.sc .str),
 (10,.sc .str),
 (11,.sc .str),
 (12,.sc (.int .u64)),
 (21,.sc (.int .i32)),
 (22,.sl .u8 1),
 (24,.sl .entr 24),
 (26,.st .link [(0,3),(1,3),(2,24)]),
 (27,.sc (.int .u64)),
 (28,.sl .macRow 24),
 (30,.st .mac [(0,4),(1,27),(2,27),(3,28)]),
 (32,.st .keys [(0,3),(1,30),(5,30),(9,4)]),
 (34,.st .limi [(0,3),(1,3),(2,3),(3,3)]),
 (35,.sl .half 96),
 (36,.sl .conn 208),
 (37,.sl .tupl 24),
 (39,.st .tabl [(0,36),(1,37)]),
 (41,.st .door [(0,3),(1,3),(2,32),(12,34),(16,35),(17,39),(19,3)]),
 (43,.st .stac [(0,26),(3,41)]),
 (45,.st .tupl [(0,3),(1,3),(2,3)]),
 (47,.st .acti [(0,3),(1,45),(4,3),(5,9),(6,30)]),
 (50,.sl .str 16),
 (52,.st .resu [(0,50),(1,3),(2,45),(5,3),(6,9),(7,4)]),
 (62,.sl .acti 104),
 (65,.sl .resu 88),
 (68,.sl .issu 40),
 (71,.st .issu [(0,45),(3,3),(4,3)]),
 (84,.st .opti [(0,3),(1,3),(2,4),(3,4),(4,3),(5,3)]),
 (86,.st .clie [(0,45),(3,3),(4,84),(10,3)]),
 (88,.st .sndr [(0,3),(1,9),(2,3),(3,4),(4,4),(5,4)]),
 (89,.sl .piec 24),
 (91,.st .recv [(0,3),(1,9),(2,89),(3,3),(4,4)]),
 (93,.st .conn [(0,45),(3,3),(4,88),(10,91),(15,3),(16,3),(17,84),(23,3),(24,3)]),
 (97,.sl .entr 24),
 (99,.st .link [(0,3),(1,3),(2,97)]),
 (100,.sl .macRow 24),
 (102,.st .mac [(0,4),(1,27),(2,27),(3,100)]),
 (104,.st .keys [(0,3),(1,102),(5,102),(9,4)]),
 (105,.st .limi [(0,3),(1,3),(2,3),(3,3)]),
 (106,.sl .half 96),
 (107,.sl .conn 208),
 (108,.sl .tupl 24),
 (110,.st .tabl [(0,107),(1,108)]),
 (112,.st .door [(0,3),(1,3),(2,104),(12,105),(16,106),(17,110),(19,3)]),
 (114,.st .stac [(0,99),(3,112)]),
 (115,.st .tupl [(0,3),(1,3),(2,3)]),
 (117,.st .acti [(0,3),(1,115),(4,3),(5,9),(6,102)]),
 (127,.st .half [(0,45),(3,3),(4,3),(5,84),(11,3),(12,3)]),
 (128,.ptr),
 (142,.sl .segm 104),
 (157,.st .piec [(0,3),(1,9)]),
 (168,.st .pack [(0,3),(1,3),(2,3),(3,3),(4,3),(5,9)]),
 (170,.st .segm [(0,3),(1,3),(2,3),(3,3),(4,3),(5,3),(6,84),(12,9)]),
 (182,.sl .mac 48),
 (204,.st .curs [(0,22),(1,3),(2,3)]),
 (208,.sl .i64 8),
 (216,.sl .mail 112),
 (220,.st .mail [(0,3),(1,170)]),
 (240,.st .entr [(0,3),(1,3),(2,3)]),
 (245,.st .macRow [(0,9),(1,3)]),
 (261,.st .fram [(0,3),(1,3),(2,3),(3,9)]),
 (309,.st .arpm [(0,3),(1,3),(2,3),(3,3),(4,3)]),
 (341,.sc (.int .u64)),
 (364,.st .macRow [(0,9),(1,3)]),
 (366,.st .entr [(0,3),(1,3),(2,3)]),
 (368,.st .opti [(0,3),(1,3),(2,4),(3,4),(4,3),(5,3)]),
 (370,.st .half [(0,115),(3,3),(4,3),(5,368),(11,3),(12,3)]),
 (396,.st .chun [(0,3),(1,9),(2,4)]),
 (409,.st .sipr [(0,27),(1,27),(2,27),(3,27)]),
 (426,.st .sndr [(0,3),(1,9),(2,3),(3,4),(4,4),(5,4)]),
 (427,.sl .piec 24),
 (429,.st .recv [(0,3),(1,9),(2,427),(3,3),(4,4)]),
 (431,.st .conn [(0,115),(3,3),(4,426),(10,429),(15,3),(16,3),(17,368),(23,3),(24,3)]),
 (444,.sl .bool 1),
 (456,.sc (.int .u32)),
 (465,.st .piec [(0,3),(1,9)]),
 (476,.sc (.int .u8)),
 (477,.sc (.int .u8)),
 (479,.ptr),
 (480,.sc (.int .i32)),
 (481,.sc (.int .i32)),
 (1000051,.wr [true]),
 (1000052,.wr [true,false]),
 (1000098,.wr [true]),
 (1000099,.wr [true,false]),
 (1000129,.wr [true]),
 (1000130,.wr [true]),
 (1000131,.wr [true]),
 (1000132,.wr [true,false]),
 (1000133,.wr [true,false]),
 (1000134,.wr [true]),
 (1000135,.wr [true]),
 (1000143,.wr [true,true]),
 (1000145,.wr [true,true]),
 (1000147,.wr [true,true]),
 (1000177,.wr [false,true]),
 (1000188,.wr [false,true]),
 (1000190,.wr [true,false]),
 (1000191,.wr [true,false]),
 (1000199,.wr [true,false]),
 (1000200,.wr [true]),
 (1000201,.wr [true]),
 (1000205,.wr [false,true]),
 (1000239,.wr [true]),
 (1000240,.wr [true]),
 (1000242,.wr [true]),
 (1000243,.wr [true]),
 (1000244,.wr [true]),
 (1000245,.wr [true]),
 (1000246,.wr [true]),
 (1000247,.wr [true]),
 (1000248,.wr [true]),
 (1000250,.wr [true]),
 (1000251,.wr [true,false]),
 (1000252,.wr [true,false]),
 (1000254,.wr [true]),
 (1000270,.wr [true,true]),
 (1000310,.wr [false,true]),
 (1000314,.wr [false,true]),
 (1000318,.wr [true]),
 (1000319,.wr [true]),
 (1000321,.wr [false,true]),
 (1000329,.wr [true,false,false]),
 (1000352,.wr [true]),
 (1000353,.wr [true]),
 (1000354,.wr [true]),
 (1000355,.wr [true,false,false]),
 (1000356,.wr [true]),
 (1000357,.wr [true]),
 (1000358,.wr [true]),
 (1000359,.wr [true]),
 (1000360,.wr [true,false]),
 (1000361,.wr [true]),
 (1000362,.wr [true]),
 (1000363,.wr [true]),
 (1000365,.wr [true,false]),
 (1000366,.wr [true,false,false]),
 (1000368,.wr [true,false]),
 (1000369,.wr [true,false]),
 (1000371,.wr [true,false,false]),
 (1000433,.wr [true]),
 (1000434,.wr [true,false]),
 (1000435,.wr [true]),
 (1000437,.wr [true]),
 (1000438,.wr [true]),
 (1000439,.wr [true]),
 (1000440,.wr [true]),
 (1000441,.wr [true]),
 (1000444,.wr [true,false]),
 (1000446,.wr [true]),
 (1000448,.wr [true,false]),
 (1000473,.wr [true]),
 (1000475,.wr [true]),
 (1000476,.wr [true]),
 (1000513,.wr [true]),
 (1000514,.wr [true]),
 (1000515,.wr [true]),
 (1000516,.wr [true]),
 (1000517,.wr [true]),
 (4000024,.wr []),
 (4000035,.wr []),
 (4000036,.wr []),
 (4000037,.wr [])]
theorem RA:ka te Tryz.prog=true:=by kernel_rfl
theorem X6:XK te Tryz.prog=true:=by kernel_rfl
theorem Ym:laidOutB Tryz.prog=true:=by kernel_rfl
theorem Sk:ownKnob Tryz.prog.godebug=none:=by kernel_rfl
theorem aea:Tryz.prog.follows .mixedOrders=true:=by kernel_rfl
def st:Seat Tryz.prog:=⟨te,RA,aea⟩
def XM (o0:Ow)(x:Acti):List RC:=[.c (.int .i64 x.kind),.c (.int .i64 x.tuple.ip),.c (.int .i64 x.tuple.port),.c (.int .i64 x.tuple.my),.c (.int .i64 x.n),.c (.str x.text),.c (.bool x.mac.use),.c (.int .u64 x.mac.k),.c (.int .u64 x.mac.l),sc o0 .macRow x.mac.rows]
def LQ (x:Arpm):List RC:=[.c (.int .i64 x.kind),.c (.int .i64 x.srcHw),.c (.int .i64 x.srcIp),.c (.int .i64 x.dstHw),.c (.int .i64 x.dstIp)]
def adb (x:Chun):List RC:=[.c (.int .i64 x.seq),.c (.str x.text),.c (.bool x.fin)]
def fg (o0:Ow)(x:Conn):List RC:=[.c (.int .i64 x.tuple.ip),.c (.int .i64 x.tuple.port),.c (.int .i64 x.tuple.my),.c (.int .i64 x.state),.c (.int .i64 x.s.una),.c (.str x.s.data),.c (.int .i64 x.s.sent),.c (.bool x.s.fin),.c (.bool x.s.finSent),.c (.bool x.s.done),.c (.int .i64 x.r.next),.c (.str x.r.data),sc o0 .piec x.r.held,.c (.int .i64 x.r.fin),.c (.bool x.r.done),.c (.int .i64 x.window),.c (.int .i64 x.most),.c (.int .i64 x.opts.mss),.c (.int .i64 x.opts.scale),.c (.bool x.opts.sack),.c (.bool x.opts.stamp),.c (.int .i64 x.opts.val),.c (.int .i64 x.opts.echo),.c (.int .i64 x.timer),.c (.int .i64 x.tries)]
def kF (o0 o1 o2 o3 o4:Ow)(x:Door):List RC:=[.c (.int .i64 x.port),.c (.int .i64 x.clock),.c (.int .i64 x.keys.epoch),.c (.bool x.keys.now.use),.c (.int .u64 x.keys.now.k),.c (.int .u64 x.keys.now.l),sc o0 .macRow x.keys.now.rows,.c (.bool x.keys.before.use),.c (.int .u64 x.keys.before.k),.c (.int .u64 x.keys.before.l),sc o1 .macRow x.keys.before.rows,.c (.bool x.keys.two),.c (.int .i64 x.limits.halves),.c (.int .i64 x.limits.waiting),.c (.int .i64 x.limits.conns),.c (.int .i64 x.limits.chal),sc o2 .half x.halves,sc o3 .conn x.table.conns,sc o4 .tupl x.table.waiting,.c (.int .i64 x.chal)]
def YB (x:Fram):List RC:=[.c (.int .i64 x.dst),.c (.int .i64 x.src),.c (.int .i64 x.type),.c (.str x.body)]
def afw (x:Half):List RC:=[.c (.int .i64 x.tuple.ip),.c (.int .i64 x.tuple.port),.c (.int .i64 x.tuple.my),.c (.int .i64 x.iss),.c (.int .i64 x.irs),.c (.int .i64 x.opts.mss),.c (.int .i64 x.opts.scale),.c (.bool x.opts.sack),.c (.bool x.opts.stamp),.c (.int .i64 x.opts.val),.c (.int .i64 x.opts.echo),.c (.int .i64 x.age),.c (.int .i64 x.window)]
def B5 (o0 o1:Ow)(x:Keys):List RC:=[.c (.int .i64 x.epoch),.c (.bool x.now.use),.c (.int .u64 x.now.k),.c (.int .u64 x.now.l),sc o0 .macRow x.now.rows,.c (.bool x.before.use),.c (.int .u64 x.before.k),.c (.int .u64 x.before.l),sc o1 .macRow x.before.rows,.c (.bool x.two)]
def acw (x:Limi):List RC:=[.c (.int .i64 x.halves),.c (.int .i64 x.waiting),.c (.int .i64 x.conns),.c (.int .i64 x.chal)]
def B4 (o0:Ow)(x:Link):List RC:=[.c (.int .i64 x.mac),.c (.int .i64 x.ip),sc o0 .entr x.cache]
def Ms (o0:Ow)(x:Mac):List RC:=[.c (.bool x.use),.c (.int .u64 x.k),.c (.int .u64 x.l),sc o0 .macRow x.rows]
def oI (x:Opti):List RC:=[.c (.int .i64 x.mss),.c (.int .i64 x.scale),.c (.bool x.sack),.c (.bool x.stamp),.c (.int .i64 x.val),.c (.int .i64 x.echo)]
def Ge (x:Pack):List RC:=[.c (.int .i64 x.src),.c (.int .i64 x.dst),.c (.int .i64 x.ttl),.c (.int .i64 x.proto),.c (.int .i64 x.id),.c (.str x.body)]
def uy (o0:Ow)(x:Recv):List RC:=[.c (.int .i64 x.next),.c (.str x.data),sc o0 .piec x.held,.c (.int .i64 x.fin),.c (.bool x.done)]
def R2 (o0:Ow)(x:Resu):List RC:=[sc o0 .str x.frames,.c (.int .i64 x.made),.c (.int .i64 x.tuple.ip),.c (.int .i64 x.tuple.port),.c (.int .i64 x.tuple.my),.c (.int .i64 x.n),.c (.str x.text),.c (.bool x.ok)]
def si (x:Segm):List RC:=[.c (.int .i64 x.from_),.c (.int .i64 x.to),.c (.int .i64 x.seq),.c (.int .i64 x.ack),.c (.int .i64 x.flags),.c (.int .i64 x.window),.c (.int .i64 x.opts.mss),.c (.int .i64 x.opts.scale),.c (.bool x.opts.sack),.c (.bool x.opts.stamp),.c (.int .i64 x.opts.val),.c (.int .i64 x.opts.echo),.c (.str x.body)]
def Fb (x:Sipr):List RC:=[.c (.int .u64 x.a),.c (.int .u64 x.b),.c (.int .u64 x.c),.c (.int .u64 x.d)]
def uM (x:Sndr):List RC:=[.c (.int .i64 x.una),.c (.str x.data),.c (.int .i64 x.sent),.c (.bool x.fin),.c (.bool x.finSent),.c (.bool x.done)]
def kJ (o0 o1 o2 o3 o4 o5:Ow)(x:Stac):List RC:=[.c (.int .i64 x.link.mac),.c (.int .i64 x.link.ip),sc o0 .entr x.link.cache,.c (.int .i64 x.door.port),.c (.int .i64 x.door.clock),.c (.int .i64 x.door.keys.epoch),.c (.bool x.door.keys.now.use),.c (.int .u64 x.door.keys.now.k),.c (.int .u64 x.door.keys.now.l),sc o1 .macRow x.door.keys.now.rows,.c (.bool x.door.keys.before.use),.c (.int .u64 x.door.keys.before.k),.c (.int .u64 x.door.keys.before.l),sc o2 .macRow x.door.keys.before.rows,.c (.bool x.door.keys.two),.c (.int .i64 x.door.limits.halves),.c (.int .i64 x.door.limits.waiting),.c (.int .i64 x.door.limits.conns),.c (.int .i64 x.door.limits.chal),sc o3 .half x.door.halves,sc o4 .conn x.door.table.conns,sc o5 .tupl x.door.table.waiting,.c (.int .i64 x.door.chal)]
def qw (o0 o1:Ow)(x:Tabl):List RC:=[sc o0 .conn x.conns,sc o1 .tupl x.waiting]
def E5 (x:Tupl):List RC:=[.c (.int .i64 x.ip),.c (.int .i64 x.port),.c (.int .i64 x.my)]
@[grind] def bk (x:MacRow):Prop:=x.input.length≤4294967296
@[grind! .] theorem aec {xs:List MacRow} (h:cX bk xs) (i:Nat):bk (xs.getD i (Ty.zero .macRow)):=cW h (by unfold bk;(repeat' apply And.intro);all_goals first|exact λ_ h=>absurd h (List.not_mem_nil)|decide+kernel) i
@[grind=] theorem adq (xs:List MacRow) (i:Nat):xs.getD i (Ty.zero .macRow)=wM (xs.getD i (Ty.zero .macRow)) (bk (xs.getD i (Ty.zero .macRow))):=rfl
@[grind] def bq (x:Acti):Prop:=x.text.length≤4294967296∧x.mac.rows.length≤4294967296∧cX bk x.mac.rows
@[grind! .] theorem ae3 {xs:List Acti} (h:cX bq xs) (i:Nat):bq (xs.getD i (Ty.zero .acti)):=cW h (by unfold bq;(repeat' apply And.intro);all_goals first|exact λ_ h=>absurd h (List.not_mem_nil)|decide+kernel) i
@[grind=] theorem aev (xs:List Acti) (i:Nat):xs.getD i (Ty.zero .acti)=wM (xs.getD i (Ty.zero .acti)) (bq (xs.getD i (Ty.zero .acti))):=rfl
@[grind] def rc (x:Chun):Prop:=x.text.length≤4294967296
@[grind! .] theorem afB {xs:List Chun} (h:cX rc xs) (i:Nat):rc (xs.getD i (Ty.zero .chun)):=cW h (by unfold rc;(repeat' apply And.intro);all_goals first|exact λ_ h=>absurd h (List.not_mem_nil)|decide+kernel) i
@[grind=] theorem aes (xs:List Chun) (i:Nat):xs.getD i (Ty.zero .chun)=wM (xs.getD i (Ty.zero .chun)) (rc (xs.getD i (Ty.zero .chun))):=rfl
@[grind] def j8 (x:Piec):Prop:=x.text.length≤4294967296
@[grind! .] theorem ae4 {xs:List Piec} (h:cX j8 xs) (i:Nat):j8 (xs.getD i (Ty.zero .piec)):=cW h (by unfold j8;(repeat' apply And.intro);all_goals first|exact λ_ h=>absurd h (List.not_mem_nil)|decide+kernel) i
@[grind=] theorem aet (xs:List Piec) (i:Nat):xs.getD i (Ty.zero .piec)=wM (xs.getD i (Ty.zero .piec)) (j8 (xs.getD i (Ty.zero .piec))):=rfl
@[grind] def ac (x:Conn):Prop:=x.s.data.length≤4294967296∧x.r.data.length≤4294967296∧x.r.held.length≤4294967296∧cX j8 x.r.held
@[grind! .] theorem afc {xs:List Conn} (h:cX ac xs) (i:Nat):ac (xs.getD i (Ty.zero .conn)):=cW h (by unfold ac;(repeat' apply And.intro);all_goals first|exact λ_ h=>absurd h (List.not_mem_nil)|decide+kernel) i
@[grind=] theorem aeL (xs:List Conn) (i:Nat):xs.getD i (Ty.zero .conn)=wM (xs.getD i (Ty.zero .conn)) (ac (xs.getD i (Ty.zero .conn))):=rfl
@[grind] def af (x:Curs):Prop:=0≤x.i∧x.b.length≤1048576
@[grind] def aC (x:Door):Prop:=x.keys.now.rows.length≤4294967296∧cX bk x.keys.now.rows∧x.keys.before.rows.length≤4294967296∧cX bk x.keys.before.rows∧x.halves.length≤4294967296∧x.table.conns.length≤4294967296∧cX ac x.table.conns∧x.table.waiting.length≤4294967296
@[grind! .] theorem afo {xs:List Door} (h:cX aC xs) (i:Nat):aC (xs.getD i (Ty.zero .door)):=cW h (by unfold aC;(repeat' apply And.intro);all_goals first|exact λ_ h=>absurd h (List.not_mem_nil)|decide+kernel) i
@[grind=] theorem aex (xs:List Door) (i:Nat):xs.getD i (Ty.zero .door)=wM (xs.getD i (Ty.zero .door)) (aC (xs.getD i (Ty.zero .door))):=rfl
@[grind] def pS (x:Fram):Prop:=x.body.length≤4294967296
@[grind! .] theorem afF {xs:List Fram} (h:cX pS xs) (i:Nat):pS (xs.getD i (Ty.zero .fram)):=cW h (by unfold pS;(repeat' apply And.intro);all_goals first|exact λ_ h=>absurd h (List.not_mem_nil)|decide+kernel) i
@[grind=] theorem aeH (xs:List Fram) (i:Nat):xs.getD i (Ty.zero .fram)=wM (xs.getD i (Ty.zero .fram)) (pS (xs.getD i (Ty.zero .fram))):=rfl
@[grind] def cC (x:Keys):Prop:=x.now.rows.length≤4294967296∧cX bk x.now.rows∧x.before.rows.length≤4294967296∧cX bk x.before.rows
@[grind! .] theorem ae1 {xs:List Keys} (h:cX cC xs) (i:Nat):cC (xs.getD i (Ty.zero .keys)):=cW h (by unfold cC;(repeat' apply And.intro);all_goals first|exact λ_ h=>absurd h (List.not_mem_nil)|decide+kernel) i
@[grind=] theorem aeo (xs:List Keys) (i:Nat):xs.getD i (Ty.zero .keys)=wM (xs.getD i (Ty.zero .keys)) (cC (xs.getD i (Ty.zero .keys))):=rfl
@[grind] def ec (x:Link):Prop:=x.cache.length≤4294967296
@[grind! .] theorem afd {xs:List Link} (h:cX ec xs) (i:Nat):ec (xs.getD i (Ty.zero .link)):=cW h (by unfold ec;(repeat' apply And.intro);all_goals first|exact λ_ h=>absurd h (List.not_mem_nil)|decide+kernel) i
@[grind=] theorem aeE (xs:List Link) (i:Nat):xs.getD i (Ty.zero .link)=wM (xs.getD i (Ty.zero .link)) (ec (xs.getD i (Ty.zero .link))):=rfl
@[grind] def dT (x:Mac):Prop:=x.rows.length≤4294967296∧cX bk x.rows
@[grind! .] theorem afM {xs:List Mac} (h:cX dT xs) (i:Nat):dT (xs.getD i (Ty.zero .mac)):=cW h (by unfold dT;(repeat' apply And.intro);all_goals first|exact λ_ h=>absurd h (List.not_mem_nil)|decide+kernel) i
@[grind=] theorem afq (xs:List Mac) (i:Nat):xs.getD i (Ty.zero .mac)=wM (xs.getD i (Ty.zero .mac)) (dT (xs.getD i (Ty.zero .mac))):=rfl
@[grind] def pR (x:Mail):Prop:=x.g.body.length≤4294967296
@[grind! .] theorem afk {xs:List Mail} (h:cX pR xs) (i:Nat):pR (xs.getD i (Ty.zero .mail)):=cW h (by unfold pR;(repeat' apply And.intro);all_goals first|exact λ_ h=>absurd h (List.not_mem_nil)|decide+kernel) i
@[grind=] theorem aeV (xs:List Mail) (i:Nat):xs.getD i (Ty.zero .mail)=wM (xs.getD i (Ty.zero .mail)) (pR (xs.getD i (Ty.zero .mail))):=rfl
@[grind] def kS (x:Pack):Prop:=x.body.length≤4294967296
@[grind! .] theorem afC {xs:List Pack} (h:cX kS xs) (i:Nat):kS (xs.getD i (Ty.zero .pack)):=cW h (by unfold kS;(repeat' apply And.intro);all_goals first|exact λ_ h=>absurd h (List.not_mem_nil)|decide+kernel) i
@[grind=] theorem aeU (xs:List Pack) (i:Nat):xs.getD i (Ty.zero .pack)=wM (xs.getD i (Ty.zero .pack)) (kS (xs.getD i (Ty.zero .pack))):=rfl
@[grind] def ay (x:Recv):Prop:=x.data.length≤4294967296∧x.held.length≤4294967296∧cX j8 x.held
@[grind! .] theorem afa {xs:List Recv} (h:cX ay xs) (i:Nat):ay (xs.getD i (Ty.zero .recv)):=cW h (by unfold ay;(repeat' apply And.intro);all_goals first|exact λ_ h=>absurd h (List.not_mem_nil)|decide+kernel) i
@[grind=] theorem aeN (xs:List Recv) (i:Nat):xs.getD i (Ty.zero .recv)=wM (xs.getD i (Ty.zero .recv)) (ay (xs.getD i (Ty.zero .recv))):=rfl
@[grind] def eb (x:Resu):Prop:=x.frames.length≤4294967296∧cX sS x.frames∧x.text.length≤4294967296
@[grind! .] theorem ae9 {xs:List Resu} (h:cX eb xs) (i:Nat):eb (xs.getD i (Ty.zero .resu)):=cW h (by unfold eb;(repeat' apply And.intro);all_goals first|exact λ_ h=>absurd h (List.not_mem_nil)|decide+kernel) i
@[grind=] theorem aeT (xs:List Resu) (i:Nat):xs.getD i (Ty.zero .resu)=wM (xs.getD i (Ty.zero .resu)) (eb (xs.getD i (Ty.zero .resu))):=rfl
@[grind] def ao (x:Segm):Prop:=x.body.length≤4294967296
@[grind! .] theorem ae5 {xs:List Segm} (h:cX ao xs) (i:Nat):ao (xs.getD i (Ty.zero .segm)):=cW h (by unfold ao;(repeat' apply And.intro);all_goals first|exact λ_ h=>absurd h (List.not_mem_nil)|decide+kernel) i
@[grind=] theorem aeB (xs:List Segm) (i:Nat):xs.getD i (Ty.zero .segm)=wM (xs.getD i (Ty.zero .segm)) (ao (xs.getD i (Ty.zero .segm))):=rfl
@[grind] def bS (x:Sndr):Prop:=x.data.length≤4294967296
@[grind! .] theorem aeY {xs:List Sndr} (h:cX bS xs) (i:Nat):bS (xs.getD i (Ty.zero .sndr)):=cW h (by unfold bS;(repeat' apply And.intro);all_goals first|exact λ_ h=>absurd h (List.not_mem_nil)|decide+kernel) i
@[grind=] theorem aeP (xs:List Sndr) (i:Nat):xs.getD i (Ty.zero .sndr)=wM (xs.getD i (Ty.zero .sndr)) (bS (xs.getD i (Ty.zero .sndr))):=rfl
@[grind] def ax (x:Stac):Prop:=x.link.cache.length≤4294967296∧x.door.keys.now.rows.length≤4294967296∧cX bk x.door.keys.now.rows∧x.door.keys.before.rows.length≤4294967296∧cX bk x.door.keys.before.rows∧x.door.halves.length≤4294967296∧x.door.table.conns.length≤4294967296∧cX ac x.door.table.conns∧x.door.table.waiting.length≤4294967296
@[grind! .] theorem ae0 {xs:List Stac} (h:cX ax xs) (i:Nat):ax (xs.getD i (Ty.zero .stac)):=cW h (by unfold ax;(repeat' apply And.intro);all_goals first|exact λ_ h=>absurd h (List.not_mem_nil)|decide+kernel) i
@[grind=] theorem aeG (xs:List Stac) (i:Nat):xs.getD i (Ty.zero .stac)=wM (xs.getD i (Ty.zero .stac)) (ax (xs.getD i (Ty.zero .stac))):=rfl
@[grind] def aO (x:Tabl):Prop:=x.conns.length≤4294967296∧cX ac x.conns∧x.waiting.length≤4294967296
@[grind! .] theorem afl {xs:List Tabl} (h:cX aO xs) (i:Nat):aO (xs.getD i (Ty.zero .tabl)):=cW h (by unfold aO;(repeat' apply And.intro);all_goals first|exact λ_ h=>absurd h (List.not_mem_nil)|decide+kernel) i
@[grind=] theorem aer (xs:List Tabl) (i:Nat):xs.getD i (Ty.zero .tabl)=wM (xs.getD i (Ty.zero .tabl)) (aO (xs.getD i (Ty.zero .tabl))):=rfl
@[grind] def SO (s:Sndr):Prop:=0≤s.una∧s.una≤4294967295∧s.data.length≤48∧0≤s.sent∧s.sent≤s.data.length∧(s.finSent=true→s.fin=true∧s.sent=s.data.length)∧(s.done=true→s.fin=true∧s.finSent=false∧s.data=[])
@[grind] def Jo (s:Sndr):Nat:=((s.data.length:Int)-s.sent).toNat+if s.finSent=true then 0 else 1
@[grind] def po (y:Piec):Prop:=1≤y.off∧y.off+(y.text.length:Int)≤32
@[grind] def RO (r:Recv):Prop:=0≤r.next∧r.next≤4294967295∧r.data.length≤32∧r.held.length≤3∧cX po r.held
@[grind] def pl (n:Int) (y:Piec):Prop:=(y.text.length:Int)≤n
theorem afX {n:Int}{xs:List Piec}(h:cX (pl n) xs):cX (pl (n+1)) xs:=λy hy=>by have:=h y hy;simp only[pl]at*;omega
theorem ae8 {n:Int}{xs:List Piec}(h:cX (pl n) xs)(hn:0≤n)(i:Nat):((xs.getD i (Ty.zero .piec)).text.length:Int)≤n:=cW (p:=pl n) h (by have h0:(Ty.zero Ty.piec).text.length=0:=(by decide+kernel);simp only[pl];omega) i
theorem af0 {n:Int}{xs:List Piec}(h:cX (pl n) xs)(hn:n≤4294967296):cX j8 xs:=λy hy=>by have:=h y hy;simp only[pl,j8]at*;omega
theorem afG {n:Int}{xs:List Piec}{y:Piec}{i:Nat}(h:cX (pl n) xs)(hy:pl n y):cX (pl n) (xs.set i y):=λz hz=>by
 rcases List.mem_or_eq_of_mem_set hz with h1|h1
 ·exact h z h1
 ·rw[h1];exact hy
theorem adV {n:Int}{xs:List Piec}{y:Piec}(h:cX (pl n) xs)(hy:pl n y):cX (pl n) (xs++[y]):=λz hz=>by
 rcases List.mem_append.1 hz with h1|h1
 ·exact h z h1
 ·rw[List.mem_singleton.1 h1];exact hy
theorem Zf {α:Type}{p:α→Prop}{xs:List α}{n:Int}(h:cX p (xs.take n.toNat))(hn:(xs.length:Int)≤n):cX p xs:=by rwa [List.take_of_length_le (by omega)]at h
theorem Un {α:Type}{p:α→Prop}{xs:List α}{n:Int}{d:α}(h:cX p (xs.take n.toNat))(h0:0≤n)(hn:n<xs.length)(hx:p (xs.getD n.toNat d)):cX p (xs.take (n+1).toNat):=by
 rw[show(n+1).toNat=n.toNat+1 by omega,List.take_succ_eq_append_getElem (by omega)]
 intro y hy
 rcases List.mem_append.1 hy with hy|hy
 ·exact h y hy
 ·rw[List.mem_singleton]at hy
  subst hy
  rwa [show xs.getD n.toNat d=xs[n.toNat] by simp[List.getD,show n.toNat<xs.length by omega]]at hx
theorem ael {xs:List Piec}{n:Int}(h:cX po (xs.take n.toNat))(h0:0≤n)(hn:n<xs.length)(hx:po (xs.getD n.toNat (Ty.zero .piec))):cX po (xs.take (n+1).toNat):=Un h h0 hn hx
theorem afH {xs:List Piec}{n:Int}(h:cX po (xs.take n.toNat))(hn:(xs.length:Int)≤n):cX po xs:=Zf h hn
@[grind] def aav (r:Recv):Int:=if r.done=true then 0 else 32-(r.data.length:Int)
@[grind] def pw (n:Int) (y:Piec):Prop:=1≤y.off∧y.off+(y.text.length:Int)≤n
theorem ad2 {xs:List Piec}{n L:Int}(h:cX (pw L) (xs.take n.toNat))(h0:0≤n)(hn:n<xs.length)(hx:pw L (xs.getD n.toNat (Ty.zero .piec))):cX (pw L) (xs.take (n+1).toNat):=Un h h0 hn hx
theorem afs {xs:List Piec}{n L:Int}(h:cX (pw L) (xs.take n.toNat))(hn:(xs.length:Int)≤n):cX (pw L) xs:=Zf h hn
theorem afP {xs:List Piec}{L M:Int}(h:cX (pw L) xs)(hl:L≤M):cX (pw M) xs:=λy hy=>by have:=h y hy;unfold pw at*;omega
theorem afW {xs:List Piec}{L:Int}(h:cX (pw L) xs)(hl:L≤32):cX po xs:=λy hy=>by have:=h y hy;unfold pw at this;unfold po;omega
theorem afR {xs:List Piec}{L:Int}{i:Nat}(h:cX (pw L) xs)(hi:i<xs.length):pw L (xs.getD i (Ty.zero .piec)):=h _ (by rw[List.getD,List.getElem?_eq_getElem hi];exact List.getElem_mem hi)
theorem afV {xs:List Piec}{i:Nat}(h:cX po xs)(hi:i<xs.length):po (xs.getD i (Ty.zero .piec)):=h _ (by rw[List.getD,List.getElem?_eq_getElem hi];exact List.getElem_mem hi)
instance:Inhabited Acti:=⟨Ty.zero .acti⟩
instance:Inhabited Arpm:=⟨Ty.zero .arpm⟩
instance:Inhabited Chun:=⟨Ty.zero .chun⟩
instance:Inhabited Clie:=⟨Ty.zero .clie⟩
instance:Inhabited Conn:=⟨Ty.zero .conn⟩
instance:Inhabited Curs:=⟨Ty.zero .curs⟩
instance:Inhabited Door:=⟨Ty.zero .door⟩
instance:Inhabited Entr:=⟨Ty.zero .entr⟩
instance:Inhabited Fram:=⟨Ty.zero .fram⟩
instance:Inhabited Half:=⟨Ty.zero .half⟩
instance:Inhabited Issu:=⟨Ty.zero .issu⟩
instance:Inhabited Keys:=⟨Ty.zero .keys⟩
instance:Inhabited Limi:=⟨Ty.zero .limi⟩
instance:Inhabited Link:=⟨Ty.zero .link⟩
instance:Inhabited Mac:=⟨Ty.zero .mac⟩
instance:Inhabited MacRow:=⟨Ty.zero .macRow⟩
instance:Inhabited Mail:=⟨Ty.zero .mail⟩
instance:Inhabited Opti:=⟨Ty.zero .opti⟩
instance:Inhabited Pack:=⟨Ty.zero .pack⟩
instance:Inhabited Piec:=⟨Ty.zero .piec⟩
instance:Inhabited Recv:=⟨Ty.zero .recv⟩
instance:Inhabited Resu:=⟨Ty.zero .resu⟩
instance:Inhabited Segm:=⟨Ty.zero .segm⟩
instance:Inhabited Sipr:=⟨Ty.zero .sipr⟩
instance:Inhabited Sndr:=⟨Ty.zero .sndr⟩
instance:Inhabited Stac:=⟨Ty.zero .stac⟩
instance:Inhabited Tabl:=⟨Ty.zero .tabl⟩
instance:Inhabited Tupl:=⟨Ty.zero .tupl⟩
end Go.Proofs.YteiiknfadjnmgaaGreat
