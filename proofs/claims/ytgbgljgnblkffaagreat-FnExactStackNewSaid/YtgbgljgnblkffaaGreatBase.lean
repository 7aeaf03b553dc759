/- The table of types of this seat, and its closed facts. -/
import Derived.Test.YtgbgljgnblkffaaGreatPure
import Derived.Test.YtgbgljgnblkffaaGreatRows
import Derived.KernelRfl
set_option linter.unusedVariables false
set_option linter.unusedSimpArgs false
namespace Go.Proofs.YtgbgljgnblkffaaGreat
open Go Go.RowKit
def te:TE:=[
 (2,.sc (.int .i64)),
 (3,.sc (.int .i64)),
 (4,.sc .bool),
 (5,.sc (.int .u8)),
 (6,.sc (.int .u8)),
 (9,.sc .str),
 (10,.sc .str),
 (11,.sc .str),
 (12,.sc (.int .u64)),
 (21,.sc (.int .i32)),
 (22,.sl .u8 1),
 (24,.sl .entr 24),
 (26,.st .link [(0,3),(1,3),(2,24)]),
 (27,.sc (.int .u64)),
 (28,.sl .macRow 24),
 (30,.st .mac [(0,4),(1,27),(2,27),(3,28)]),
 (32,.st .keys [(0,3),(1,30),(5,30),(9,4)]),
 (34,.st .limi [(0,3),(1,3),(2,3),(3,3)]),
 (35,.sl .half 96),
 (36,.sl .conn 208),
 (37,.sl .tupl 24),
 (39,.st .tabl [(0,36),(1,37)]),
 (41,.st .door [(0,3),(1,3),(2,32),(12,34),(16,35),(17,39),(19,3)]),
 (43,.st .stac [(0,26),(3,41)]),
 (45,.st .tupl [(0,3),(1,3),(2,3)]),
 (47,.st .acti [(0,3),(1,45),(4,3),(5,9),(6,30)]),
 (50,.sl .str 16),
 (52,.st .resu [(0,50),(1,3),(2,45),(5,3),(6,9),(7,4)]),
 (55,.sl .issu 40),
 (59,.st .issu [(0,45),(3,3),(4,3)]),
 (64,.st .opti [(0,3),(1,3),(2,4),(3,4),(4,3),(5,3)]),
 (66,.st .half [(0,45),(3,3),(4,3),(5,64),(11,3),(12,3)]),
 (68,.st .clie [(0,45),(3,3),(4,64),(10,3)]),
 (69,.sl .mac 48),
 (73,.st .sndr [(0,3),(1,9),(2,3),(3,4),(4,4),(5,4)]),
 (74,.sl .piec 24),
 (76,.st .recv [(0,3),(1,9),(2,74),(3,3),(4,4)]),
 (78,.st .conn [(0,45),(3,3),(4,73),(10,76),(15,3),(16,3),(17,64),(23,3),(24,3)]),
 (95,.st .pack [(0,3),(1,3),(2,3),(3,3),(4,3),(5,9)]),
 (99,.st .segm [(0,3),(1,3),(2,3),(3,3),(4,3),(5,3),(6,64),(12,9)]),
 (103,.st .fram [(0,3),(1,3),(2,3),(3,9)]),
 (108,.st .limi [(0,3),(1,3),(2,3),(3,3)]),
 (109,.sl .macRow 24),
 (111,.st .mac [(0,4),(1,27),(2,27),(3,109)]),
 (121,.ptr),
 (146,.sl .i64 8),
 (151,.sl .segm 104),
 (194,.st .curs [(0,22),(1,3),(2,3)]),
 (220,.sc (.int .u64)),
 (237,.st .piec [(0,3),(1,9)]),
 (252,.st .arpm [(0,3),(1,3),(2,3),(3,3),(4,3)]),
 (261,.st .entr [(0,3),(1,3),(2,3)]),
 (270,.st .macRow [(0,9),(1,3)]),
 (271,.st .macRow [(0,9),(1,3)]),
 (338,.st .chun [(0,3),(1,9),(2,4)]),
 (344,.st .sipr [(0,27),(1,27),(2,27),(3,27)]),
 (367,.sl .bool 1),
 (373,.sc (.int .u32)),
 (388,.sc (.int .u8)),
 (389,.sc (.int .u8)),
 (391,.ptr),
 (392,.sc (.int .i32)),
 (393,.sc (.int .i32)),
 (1000045,.wr [true,false]),
 (1000046,.wr [true,false]),
 (1000049,.wr [true]),
 (1000050,.wr [true,false]),
 (1000069,.wr [true]),
 (1000070,.wr [true,false]),
 (1000072,.wr [true]),
 (1000073,.wr [true]),
 (1000105,.wr [false,true]),
 (1000107,.wr [true,false]),
 (1000135,.wr [true,false]),
 (1000136,.wr [true,false]),
 (1000137,.wr [true,false]),
 (1000140,.wr [true]),
 (1000141,.wr [true,false]),
 (1000142,.wr [true]),
 (1000143,.wr [true,false]),
 (1000144,.wr [true]),
 (1000145,.wr [true]),
 (1000165,.wr [true]),
 (1000166,.wr [true]),
 (1000167,.wr [true]),
 (1000168,.wr [true]),
 (1000169,.wr [true]),
 (1000170,.wr [true]),
 (1000171,.wr [true]),
 (1000172,.wr [true]),
 (1000188,.wr [false,true]),
 (1000207,.wr [false,true]),
 (1000208,.wr [true,false]),
 (1000209,.wr [true]),
 (1000210,.wr [true]),
 (1000212,.wr [true,false,false]),
 (1000213,.wr [true,false]),
 (1000215,.wr [true,false,false]),
 (1000217,.wr [true,false]),
 (1000255,.wr [true,false]),
 (1000256,.wr [true,false]),
 (1000257,.wr [true,false]),
 (1000258,.wr [true,false]),
 (1000263,.wr [true]),
 (1000264,.wr [true]),
 (1000265,.wr [true]),
 (1000266,.wr [true]),
 (1000267,.wr [true,false]),
 (1000269,.wr [true]),
 (1000282,.wr [true]),
 (1000283,.wr [true]),
 (1000284,.wr [true]),
 (1000285,.wr [true]),
 (1000286,.wr [true]),
 (1000287,.wr [true]),
 (1000288,.wr [true,false]),
 (1000289,.wr [true]),
 (1000290,.wr [true]),
 (1000291,.wr [true]),
 (1000300,.wr [true,false,false]),
 (1000320,.wr [false,true]),
 (1000325,.wr [true]),
 (1000326,.wr [true]),
 (1000327,.wr [true]),
 (1000330,.wr [true,false]),
 (1000331,.wr [true,false]),
 (1000333,.wr [true]),
 (1000335,.wr [true,false]),
 (1000337,.wr [true,false]),
 (1000340,.wr [true,false,false]),
 (1000352,.wr [false,false,true]),
 (1000360,.wr [true,false]),
 (1000364,.wr [true]),
 (1000374,.wr [true]),
 (1000376,.wr [true]),
 (1000377,.wr [true]),
 (1000404,.wr [false,true]),
 (1000405,.wr [true]),
 (1000409,.wr [true]),
 (1000417,.wr [true,false]),
 (1000421,.wr [true]),
 (1000422,.wr [true]),
 (1000465,.wr [true]),
 (1000466,.wr [true]),
 (1000467,.wr [true]),
 (1000468,.wr [true]),
 (1000469,.wr [true]),
 (4000024,.wr []),
 (4000035,.wr [])]
theorem SS:jD te Tryz.prog=true:=by kernel_rfl
theorem Xf:Th te Tryz.prog=true:=by kernel_rfl
theorem WV:laidOutB Tryz.prog=true:=by kernel_rfl
theorem T6:ownKnob Tryz.prog.godebug=none:=by kernel_rfl
theorem Yd:Tryz.prog.follows .mixedOrders=true:=by kernel_rfl
def st:Seat Tryz.prog:=⟨te,SS,Yd⟩
def VN (x:Chun):List RC:=[.c (.int .i64 x.seq),.c (.str x.text),.c (.bool x.fin)]
def Tu (x:Clie):List RC:=[.c (.int .i64 x.tuple.ip),.c (.int .i64 x.tuple.port),.c (.int .i64 x.tuple.my),.c (.int .i64 x.isn),.c (.int .i64 x.opts.mss),.c (.int .i64 x.opts.scale),.c (.bool x.opts.sack),.c (.bool x.opts.stamp),.c (.int .i64 x.opts.val),.c (.int .i64 x.opts.echo),.c (.int .i64 x.window)]
def gO (o0:Ow)(x:Conn):List RC:=[.c (.int .i64 x.tuple.ip),.c (.int .i64 x.tuple.port),.c (.int .i64 x.tuple.my),.c (.int .i64 x.state),.c (.int .i64 x.s.una),.c (.str x.s.data),.c (.int .i64 x.s.sent),.c (.bool x.s.fin),.c (.bool x.s.finSent),.c (.bool x.s.done),.c (.int .i64 x.r.next),.c (.str x.r.data),sc o0 .piec x.r.held,.c (.int .i64 x.r.fin),.c (.bool x.r.done),.c (.int .i64 x.window),.c (.int .i64 x.most),.c (.int .i64 x.opts.mss),.c (.int .i64 x.opts.scale),.c (.bool x.opts.sack),.c (.bool x.opts.stamp),.c (.int .i64 x.opts.val),.c (.int .i64 x.opts.echo),.c (.int .i64 x.timer),.c (.int .i64 x.tries)]
def ji (o0 o1 o2 o3 o4:Ow)(x:Door):List RC:=[.c (.int .i64 x.port),.c (.int .i64 x.clock),.c (.int .i64 x.keys.epoch),.c (.bool x.keys.now.use),.c (.int .u64 x.keys.now.k),.c (.int .u64 x.keys.now.l),sc o0 .macRow x.keys.now.rows,.c (.bool x.keys.before.use),.c (.int .u64 x.keys.before.k),.c (.int .u64 x.keys.before.l),sc o1 .macRow x.keys.before.rows,.c (.bool x.keys.two),.c (.int .i64 x.limits.halves),.c (.int .i64 x.limits.waiting),.c (.int .i64 x.limits.conns),.c (.int .i64 x.limits.chal),sc o2 .half x.halves,sc o3 .conn x.table.conns,sc o4 .tupl x.table.waiting,.c (.int .i64 x.chal)]
def Y1 (x:Half):List RC:=[.c (.int .i64 x.tuple.ip),.c (.int .i64 x.tuple.port),.c (.int .i64 x.tuple.my),.c (.int .i64 x.iss),.c (.int .i64 x.irs),.c (.int .i64 x.opts.mss),.c (.int .i64 x.opts.scale),.c (.bool x.opts.sack),.c (.bool x.opts.stamp),.c (.int .i64 x.opts.val),.c (.int .i64 x.opts.echo),.c (.int .i64 x.age),.c (.int .i64 x.window)]
def yE (o0 o1:Ow)(x:Keys):List RC:=[.c (.int .i64 x.epoch),.c (.bool x.now.use),.c (.int .u64 x.now.k),.c (.int .u64 x.now.l),sc o0 .macRow x.now.rows,.c (.bool x.before.use),.c (.int .u64 x.before.k),.c (.int .u64 x.before.l),sc o1 .macRow x.before.rows,.c (.bool x.two)]
def SR (x:Limi):List RC:=[.c (.int .i64 x.halves),.c (.int .i64 x.waiting),.c (.int .i64 x.conns),.c (.int .i64 x.chal)]
def DJ (o0:Ow)(x:Mac):List RC:=[.c (.bool x.use),.c (.int .u64 x.k),.c (.int .u64 x.l),sc o0 .macRow x.rows]
def Wb (x:MacRow):List RC:=[.c (.str x.input),.c (.int .i64 x.value)]
def pS (x:Opti):List RC:=[.c (.int .i64 x.mss),.c (.int .i64 x.scale),.c (.bool x.sack),.c (.bool x.stamp),.c (.int .i64 x.val),.c (.int .i64 x.echo)]
def sT (o0:Ow)(x:Recv):List RC:=[.c (.int .i64 x.next),.c (.str x.data),sc o0 .piec x.held,.c (.int .i64 x.fin),.c (.bool x.done)]
def nk (x:Segm):List RC:=[.c (.int .i64 x.from_),.c (.int .i64 x.to),.c (.int .i64 x.seq),.c (.int .i64 x.ack),.c (.int .i64 x.flags),.c (.int .i64 x.window),.c (.int .i64 x.opts.mss),.c (.int .i64 x.opts.scale),.c (.bool x.opts.sack),.c (.bool x.opts.stamp),.c (.int .i64 x.opts.val),.c (.int .i64 x.opts.echo),.c (.str x.body)]
def Cg (x:Sipr):List RC:=[.c (.int .u64 x.a),.c (.int .u64 x.b),.c (.int .u64 x.c),.c (.int .u64 x.d)]
def vg (x:Sndr):List RC:=[.c (.int .i64 x.una),.c (.str x.data),.c (.int .i64 x.sent),.c (.bool x.fin),.c (.bool x.finSent),.c (.bool x.done)]
def V0 (o0 o1 o2 o3 o4 o5:Ow)(x:Stac):List RC:=[.c (.int .i64 x.link.mac),.c (.int .i64 x.link.ip),sc o0 .entr x.link.cache,.c (.int .i64 x.door.port),.c (.int .i64 x.door.clock),.c (.int .i64 x.door.keys.epoch),.c (.bool x.door.keys.now.use),.c (.int .u64 x.door.keys.now.k),.c (.int .u64 x.door.keys.now.l),sc o1 .macRow x.door.keys.now.rows,.c (.bool x.door.keys.before.use),.c (.int .u64 x.door.keys.before.k),.c (.int .u64 x.door.keys.before.l),sc o2 .macRow x.door.keys.before.rows,.c (.bool x.door.keys.two),.c (.int .i64 x.door.limits.halves),.c (.int .i64 x.door.limits.waiting),.c (.int .i64 x.door.limits.conns),.c (.int .i64 x.door.limits.chal),sc o3 .half x.door.halves,sc o4 .conn x.door.table.conns,sc o5 .tupl x.door.table.waiting,.c (.int .i64 x.door.chal)]
def tJ (o0 o1:Ow)(x:Tabl):List RC:=[sc o0 .conn x.conns,sc o1 .tupl x.waiting]
def Gq (x:Tupl):List RC:=[.c (.int .i64 x.ip),.c (.int .i64 x.port),.c (.int .i64 x.my)]
@[grind] def ay (x:MacRow):Prop:=x.input.length≤4294967296
@[grind! .] theorem Yc {xs:List MacRow} (h:dP ay xs) (i:Nat):ay (xs.getD i (Ty.zero .macRow)):=cD h (by unfold ay;(repeat' apply And.intro);all_goals first|exact λ_ h=>absurd h (List.not_mem_nil)|decide+kernel) i
@[grind=] theorem Xs (xs:List MacRow) (i:Nat):xs.getD i (Ty.zero .macRow)=uF (xs.getD i (Ty.zero .macRow)) (ay (xs.getD i (Ty.zero .macRow))):=rfl
@[grind] def Fs (x:Acti):Prop:=x.text.length≤4294967296∧x.mac.rows.length≤4294967296∧dP ay x.mac.rows
@[grind! .] theorem ZL {xs:List Acti} (h:dP Fs xs) (i:Nat):Fs (xs.getD i (Ty.zero .acti)):=cD h (by unfold Fs;(repeat' apply And.intro);all_goals first|exact λ_ h=>absurd h (List.not_mem_nil)|decide+kernel) i
@[grind=] theorem YO (xs:List Acti) (i:Nat):xs.getD i (Ty.zero .acti)=uF (xs.getD i (Ty.zero .acti)) (Fs (xs.getD i (Ty.zero .acti))):=rfl
@[grind] def oX (x:Chun):Prop:=x.text.length≤4294967296
@[grind! .] theorem ZK {xs:List Chun} (h:dP oX xs) (i:Nat):oX (xs.getD i (Ty.zero .chun)):=cD h (by unfold oX;(repeat' apply And.intro);all_goals first|exact λ_ h=>absurd h (List.not_mem_nil)|decide+kernel) i
@[grind=] theorem YH (xs:List Chun) (i:Nat):xs.getD i (Ty.zero .chun)=uF (xs.getD i (Ty.zero .chun)) (oX (xs.getD i (Ty.zero .chun))):=rfl
@[grind] def ge (x:Piec):Prop:=x.text.length≤4294967296
@[grind! .] theorem Y9 {xs:List Piec} (h:dP ge xs) (i:Nat):ge (xs.getD i (Ty.zero .piec)):=cD h (by unfold ge;(repeat' apply And.intro);all_goals first|exact λ_ h=>absurd h (List.not_mem_nil)|decide+kernel) i
@[grind=] theorem Yx (xs:List Piec) (i:Nat):xs.getD i (Ty.zero .piec)=uF (xs.getD i (Ty.zero .piec)) (ge (xs.getD i (Ty.zero .piec))):=rfl
@[grind] def aa (x:Conn):Prop:=x.s.data.length≤4294967296∧x.r.data.length≤4294967296∧x.r.held.length≤4294967296∧dP ge x.r.held
@[grind! .] theorem Zb {xs:List Conn} (h:dP aa xs) (i:Nat):aa (xs.getD i (Ty.zero .conn)):=cD h (by unfold aa;(repeat' apply And.intro);all_goals first|exact λ_ h=>absurd h (List.not_mem_nil)|decide+kernel) i
@[grind=] theorem YF (xs:List Conn) (i:Nat):xs.getD i (Ty.zero .conn)=uF (xs.getD i (Ty.zero .conn)) (aa (xs.getD i (Ty.zero .conn))):=rfl
@[grind] def ae (x:Curs):Prop:=0≤x.i∧x.b.length≤1048576
@[grind] def am (x:Door):Prop:=x.keys.now.rows.length≤4294967296∧dP ay x.keys.now.rows∧x.keys.before.rows.length≤4294967296∧dP ay x.keys.before.rows∧x.halves.length≤4294967296∧x.table.conns.length≤4294967296∧dP aa x.table.conns∧x.table.waiting.length≤4294967296
@[grind! .] theorem ZB {xs:List Door} (h:dP am xs) (i:Nat):am (xs.getD i (Ty.zero .door)):=cD h (by unfold am;(repeat' apply And.intro);all_goals first|exact λ_ h=>absurd h (List.not_mem_nil)|decide+kernel) i
@[grind=] theorem YE (xs:List Door) (i:Nat):xs.getD i (Ty.zero .door)=uF (xs.getD i (Ty.zero .door)) (am (xs.getD i (Ty.zero .door))):=rfl
@[grind] def Ft (x:Fram):Prop:=x.body.length≤4294967296
@[grind! .] theorem Y6 {xs:List Fram} (h:dP Ft xs) (i:Nat):Ft (xs.getD i (Ty.zero .fram)):=cD h (by unfold Ft;(repeat' apply And.intro);all_goals first|exact λ_ h=>absurd h (List.not_mem_nil)|decide+kernel) i
@[grind=] theorem YC (xs:List Fram) (i:Nat):xs.getD i (Ty.zero .fram)=uF (xs.getD i (Ty.zero .fram)) (Ft (xs.getD i (Ty.zero .fram))):=rfl
@[grind] def bE (x:Keys):Prop:=x.now.rows.length≤4294967296∧dP ay x.now.rows∧x.before.rows.length≤4294967296∧dP ay x.before.rows
@[grind! .] theorem Y4 {xs:List Keys} (h:dP bE xs) (i:Nat):bE (xs.getD i (Ty.zero .keys)):=cD h (by unfold bE;(repeat' apply And.intro);all_goals first|exact λ_ h=>absurd h (List.not_mem_nil)|decide+kernel) i
@[grind=] theorem Yv (xs:List Keys) (i:Nat):xs.getD i (Ty.zero .keys)=uF (xs.getD i (Ty.zero .keys)) (bE (xs.getD i (Ty.zero .keys))):=rfl
@[grind] def nD (x:Link):Prop:=x.cache.length≤4294967296
@[grind! .] theorem YV {xs:List Link} (h:dP nD xs) (i:Nat):nD (xs.getD i (Ty.zero .link)):=cD h (by unfold nD;(repeat' apply And.intro);all_goals first|exact λ_ h=>absurd h (List.not_mem_nil)|decide+kernel) i
@[grind=] theorem Yz (xs:List Link) (i:Nat):xs.getD i (Ty.zero .link)=uF (xs.getD i (Ty.zero .link)) (nD (xs.getD i (Ty.zero .link))):=rfl
@[grind] def bv (x:Mac):Prop:=x.rows.length≤4294967296∧dP ay x.rows
@[grind! .] theorem ZP {xs:List Mac} (h:dP bv xs) (i:Nat):bv (xs.getD i (Ty.zero .mac)):=cD h (by unfold bv;(repeat' apply And.intro);all_goals first|exact λ_ h=>absurd h (List.not_mem_nil)|decide+kernel) i
@[grind=] theorem YX (xs:List Mac) (i:Nat):xs.getD i (Ty.zero .mac)=uF (xs.getD i (Ty.zero .mac)) (bv (xs.getD i (Ty.zero .mac))):=rfl
@[grind] def Fq (x:Pack):Prop:=x.body.length≤4294967296
@[grind! .] theorem Zn {xs:List Pack} (h:dP Fq xs) (i:Nat):Fq (xs.getD i (Ty.zero .pack)):=cD h (by unfold Fq;(repeat' apply And.intro);all_goals first|exact λ_ h=>absurd h (List.not_mem_nil)|decide+kernel) i
@[grind=] theorem YL (xs:List Pack) (i:Nat):xs.getD i (Ty.zero .pack)=uF (xs.getD i (Ty.zero .pack)) (Fq (xs.getD i (Ty.zero .pack))):=rfl
@[grind] def an (x:Recv):Prop:=x.data.length≤4294967296∧x.held.length≤4294967296∧dP ge x.held
@[grind! .] theorem Zf {xs:List Recv} (h:dP an xs) (i:Nat):an (xs.getD i (Ty.zero .recv)):=cD h (by unfold an;(repeat' apply And.intro);all_goals first|exact λ_ h=>absurd h (List.not_mem_nil)|decide+kernel) i
@[grind=] theorem YA (xs:List Recv) (i:Nat):xs.getD i (Ty.zero .recv)=uF (xs.getD i (Ty.zero .recv)) (an (xs.getD i (Ty.zero .recv))):=rfl
@[grind] def FJ (x:Resu):Prop:=x.frames.length≤4294967296∧dP sS x.frames∧x.text.length≤4294967296
@[grind! .] theorem ZJ {xs:List Resu} (h:dP FJ xs) (i:Nat):FJ (xs.getD i (Ty.zero .resu)):=cD h (by unfold FJ;(repeat' apply And.intro);all_goals first|exact λ_ h=>absurd h (List.not_mem_nil)|decide+kernel) i
@[grind=] theorem Yw (xs:List Resu) (i:Nat):xs.getD i (Ty.zero .resu)=uF (xs.getD i (Ty.zero .resu)) (FJ (xs.getD i (Ty.zero .resu))):=rfl
@[grind] def aj (x:Segm):Prop:=x.body.length≤4294967296
@[grind! .] theorem Zg {xs:List Segm} (h:dP aj xs) (i:Nat):aj (xs.getD i (Ty.zero .segm)):=cD h (by unfold aj;(repeat' apply And.intro);all_goals first|exact λ_ h=>absurd h (List.not_mem_nil)|decide+kernel) i
@[grind=] theorem YB (xs:List Segm) (i:Nat):xs.getD i (Ty.zero .segm)=uF (xs.getD i (Ty.zero .segm)) (aj (xs.getD i (Ty.zero .segm))):=rfl
@[grind] def bU (x:Sndr):Prop:=x.data.length≤4294967296
@[grind! .] theorem YY {xs:List Sndr} (h:dP bU xs) (i:Nat):bU (xs.getD i (Ty.zero .sndr)):=cD h (by unfold bU;(repeat' apply And.intro);all_goals first|exact λ_ h=>absurd h (List.not_mem_nil)|decide+kernel) i
@[grind=] theorem YQ (xs:List Sndr) (i:Nat):xs.getD i (Ty.zero .sndr)=uF (xs.getD i (Ty.zero .sndr)) (bU (xs.getD i (Ty.zero .sndr))):=rfl
@[grind] def kJ (x:Stac):Prop:=x.link.cache.length≤4294967296∧x.door.keys.now.rows.length≤4294967296∧dP ay x.door.keys.now.rows∧x.door.keys.before.rows.length≤4294967296∧dP ay x.door.keys.before.rows∧x.door.halves.length≤4294967296∧x.door.table.conns.length≤4294967296∧dP aa x.door.table.conns∧x.door.table.waiting.length≤4294967296
@[grind! .] theorem ZA {xs:List Stac} (h:dP kJ xs) (i:Nat):kJ (xs.getD i (Ty.zero .stac)):=cD h (by unfold kJ;(repeat' apply And.intro);all_goals first|exact λ_ h=>absurd h (List.not_mem_nil)|decide+kernel) i
@[grind=] theorem YI (xs:List Stac) (i:Nat):xs.getD i (Ty.zero .stac)=uF (xs.getD i (Ty.zero .stac)) (kJ (xs.getD i (Ty.zero .stac))):=rfl
@[grind] def bh (x:Tabl):Prop:=x.conns.length≤4294967296∧dP aa x.conns∧x.waiting.length≤4294967296
@[grind! .] theorem ZI {xs:List Tabl} (h:dP bh xs) (i:Nat):bh (xs.getD i (Ty.zero .tabl)):=cD h (by unfold bh;(repeat' apply And.intro);all_goals first|exact λ_ h=>absurd h (List.not_mem_nil)|decide+kernel) i
@[grind=] theorem Yn (xs:List Tabl) (i:Nat):xs.getD i (Ty.zero .tabl)=uF (xs.getD i (Ty.zero .tabl)) (bh (xs.getD i (Ty.zero .tabl))):=rfl
@[grind] def SO (s:Sndr):Prop:=0≤s.una∧s.una≤4294967295∧s.data.length≤48∧0≤s.sent∧s.sent≤s.data.length∧(s.finSent=true→s.fin=true∧s.sent=s.data.length)∧(s.done=true→s.fin=true∧s.finSent=false∧s.data=[])
@[grind] def Fz (s:Sndr):Nat:=((s.data.length:Int)-s.sent).toNat+if s.finSent=true then 0 else 1
@[grind] def po (y:Piec):Prop:=1≤y.off∧y.off+(y.text.length:Int)≤32
@[grind] def RO (r:Recv):Prop:=0≤r.next∧r.next≤4294967295∧r.data.length≤32∧r.held.length≤3∧dP po r.held
@[grind] def pl (n:Int) (y:Piec):Prop:=(y.text.length:Int)≤n
theorem ZT {n:Int}{xs:List Piec}(h:dP (pl n) xs):dP (pl (n+1)) xs:=λy hy=>by have:=h y hy;simp only[pl]at*;omega
theorem Zz {n:Int}{xs:List Piec}(h:dP (pl n) xs)(hn:0≤n)(i:Nat):((xs.getD i (Ty.zero .piec)).text.length:Int)≤n:=cD (p:=pl n) h (by have h0:(Ty.zero Ty.piec).text.length=0:=(by decide+kernel);simp only[pl];omega) i
theorem ZS {n:Int}{xs:List Piec}(h:dP (pl n) xs)(hn:n≤4294967296):dP ge xs:=λy hy=>by have:=h y hy;simp only[pl,ge]at*;omega
theorem YT {n:Int}{xs:List Piec}{y:Piec}{i:Nat}(h:dP (pl n) xs)(hy:pl n y):dP (pl n) (xs.set i y):=λz hz=>by
 rcases List.mem_or_eq_of_mem_set hz with h1|h1
 ·exact h z h1
 ·rw[h1];exact hy
theorem Yh {n:Int}{xs:List Piec}{y:Piec}(h:dP (pl n) xs)(hy:pl n y):dP (pl n) (xs++[y]):=λz hz=>by
 rcases List.mem_append.1 hz with h1|h1
 ·exact h z h1
 ·rw[List.mem_singleton.1 h1];exact hy
theorem Tz {α:Type}{p:α→Prop}{xs:List α}{n:Int}(h:dP p (xs.take n.toNat))(hn:(xs.length:Int)≤n):dP p xs:=by rwa [List.take_of_length_le (by omega)]at h
theorem Q8 {α:Type}{p:α→Prop}{xs:List α}{n:Int}{d:α}(h:dP p (xs.take n.toNat))(h0:0≤n)(hn:n<xs.length)(hx:p (xs.getD n.toNat d)):dP p (xs.take (n+1).toNat):=by
 rw[show(n+1).toNat=n.toNat+1 by omega,List.take_succ_eq_append_getElem (by omega)]
 intro y hy
 rcases List.mem_append.1 hy with hy|hy
 ·exact h y hy
 ·rw[List.mem_singleton]at hy
  subst hy
  rwa [show xs.getD n.toNat d=xs[n.toNat] by simp[List.getD,show n.toNat<xs.length by omega]]at hx
theorem Ym {xs:List Piec}{n:Int}(h:dP po (xs.take n.toNat))(h0:0≤n)(hn:n<xs.length)(hx:po (xs.getD n.toNat (Ty.zero .piec))):dP po (xs.take (n+1).toNat):=Q8 h h0 hn hx
theorem Zh {xs:List Piec}{n:Int}(h:dP po (xs.take n.toNat))(hn:(xs.length:Int)≤n):dP po xs:=Tz h hn
@[grind] def Vl (r:Recv):Int:=if r.done=true then 0 else 32-(r.data.length:Int)
@[grind] def pw (n:Int) (y:Piec):Prop:=1≤y.off∧y.off+(y.text.length:Int)≤n
theorem XZ {xs:List Piec}{n L:Int}(h:dP (pw L) (xs.take n.toNat))(h0:0≤n)(hn:n<xs.length)(hx:pw L (xs.getD n.toNat (Ty.zero .piec))):dP (pw L) (xs.take (n+1).toNat):=Q8 h h0 hn hx
theorem Y7 {xs:List Piec}{n L:Int}(h:dP (pw L) (xs.take n.toNat))(hn:(xs.length:Int)≤n):dP (pw L) xs:=Tz h hn
theorem ZZ {xs:List Piec}{L M:Int}(h:dP (pw L) xs)(hl:L≤M):dP (pw M) xs:=λy hy=>by have:=h y hy;unfold pw at*;omega
theorem Z6 {xs:List Piec}{L:Int}(h:dP (pw L) xs)(hl:L≤32):dP po xs:=λy hy=>by have:=h y hy;unfold pw at this;unfold po;omega
theorem aaa {xs:List Piec}{L:Int}{i:Nat}(h:dP (pw L) xs)(hi:i<xs.length):pw L (xs.getD i (Ty.zero .piec)):=h _ (by rw[List.getD,List.getElem?_eq_getElem hi];exact List.getElem_mem hi)
theorem Z3 {xs:List Piec}{i:Nat}(h:dP po xs)(hi:i<xs.length):po (xs.getD i (Ty.zero .piec)):=h _ (by rw[List.getD,List.getElem?_eq_getElem hi];exact List.getElem_mem hi)
instance:Inhabited Acti:=⟨Ty.zero .acti⟩
instance:Inhabited Arpm:=⟨Ty.zero .arpm⟩
instance:Inhabited Chun:=⟨Ty.zero .chun⟩
instance:Inhabited Clie:=⟨Ty.zero .clie⟩
instance:Inhabited Conn:=⟨Ty.zero .conn⟩
instance:Inhabited Curs:=⟨Ty.zero .curs⟩
instance:Inhabited Door:=⟨Ty.zero .door⟩
instance:Inhabited Entr:=⟨Ty.zero .entr⟩
instance:Inhabited Fram:=⟨Ty.zero .fram⟩
instance:Inhabited Half:=⟨Ty.zero .half⟩
instance:Inhabited Issu:=⟨Ty.zero .issu⟩
instance:Inhabited Keys:=⟨Ty.zero .keys⟩
instance:Inhabited Limi:=⟨Ty.zero .limi⟩
instance:Inhabited Link:=⟨Ty.zero .link⟩
instance:Inhabited Mac:=⟨Ty.zero .mac⟩
instance:Inhabited MacRow:=⟨Ty.zero .macRow⟩
instance:Inhabited Opti:=⟨Ty.zero .opti⟩
instance:Inhabited Pack:=⟨Ty.zero .pack⟩
instance:Inhabited Piec:=⟨Ty.zero .piec⟩
instance:Inhabited Recv:=⟨Ty.zero .recv⟩
instance:Inhabited Resu:=⟨Ty.zero .resu⟩
instance:Inhabited Segm:=⟨Ty.zero .segm⟩
instance:Inhabited Sipr:=⟨Ty.zero .sipr⟩
instance:Inhabited Sndr:=⟨Ty.zero .sndr⟩
instance:Inhabited Stac:=⟨Ty.zero .stac⟩
instance:Inhabited Tabl:=⟨Ty.zero .tabl⟩
instance:Inhabited Tupl:=⟨Ty.zero .tupl⟩
end Go.Proofs.YtgbgljgnblkffaaGreat
