/- The table of types of this seat, and its closed facts. -/
import Derived.Test.YtbkjnlihfgkkaaaGreatPure
import Derived.Test.YtbkjnlihfgkkaaaGreatRows
import Derived.KernelRfl
set_option linter.unusedVariables false
set_option linter.unusedSimpArgs false
namespace Go.Proofs.YtbkjnlihfgkkaaaGreat
open Go Go.RowKit
def te:TE:=[
 (2,.sc (.int .i64)),
 (3,.sc (.int .i64)),
 (4,.sc .bool),
 (5,.sc (.int .u8)),
 (6,.sc (.int .u8)),
 (9,.sc .str),
 (10,.sc .str),
 (11,.sc .str),
 (12,.sc (.int .u64)),
 (21,.sc (.int .i32)),
 (22,.sc (.int .u64)),
 (23,.sl .macRow 24),
 (25,.st .mac [(0,4),(1,22),(2,22),(3,23)]),
 (27,.st .keys [(0,3),(1,25),(5,25),(9,4)]),
 (29,.st .limi [(0,3),(1,3),(2,3),(3,3)]),
 (30,.sl .half 96),
 (31,.sl .conn 208),
 (32,.sl .tupl 24),
 (34,.st .tabl [(0,31),(1,32)]),
 (36,.st .door [(0,3),(1,3),(2,27),(12,29),(16,30),(17,34),(19,3)]),
 (39,.sl .macRow 24),
 (41,.st .mac [(0,4),(1,22),(2,22),(3,39)]),
 (43,.st .keys [(0,3),(1,41),(5,41),(9,4)]),
 (44,.st .limi [(0,3),(1,3),(2,3),(3,3)]),
 (45,.sl .half 96),
 (46,.sl .conn 208),
 (47,.sl .tupl 24),
 (49,.st .tabl [(0,46),(1,47)]),
 (51,.st .door [(0,3),(1,3),(2,43),(12,44),(16,45),(17,49),(19,3)]),
 (60,.sl .entr 24),
 (62,.st .link [(0,3),(1,3),(2,60)]),
 (64,.st .stac [(0,62),(3,36)]),
 (65,.sl .str 16),
 (67,.st .tupl [(0,3),(1,3),(2,3)]),
 (69,.st .resu [(0,65),(1,3),(2,67),(5,3),(6,9),(7,4)]),
 (72,.sl .issu 40),
 (74,.sl .entr 24),
 (76,.st .link [(0,3),(1,3),(2,74)]),
 (78,.st .stac [(0,76),(3,51)]),
 (80,.st .tupl [(0,3),(1,3),(2,3)]),
 (82,.st .resu [(0,65),(1,3),(2,80),(5,3),(6,9),(7,4)]),
 (92,.st .opti [(0,3),(1,3),(2,4),(3,4),(4,3),(5,3)]),
 (94,.st .segm [(0,3),(1,3),(2,3),(3,3),(4,3),(5,3),(6,92),(12,9)]),
 (96,.sl .segm 104),
 (100,.st .opti [(0,3),(1,3),(2,4),(3,4),(4,3),(5,3)]),
 (102,.st .segm [(0,3),(1,3),(2,3),(3,3),(4,3),(5,3),(6,100),(12,9)]),
 (117,.st .clie [(0,67),(3,3),(4,92),(10,3)]),
 (118,.sl .mac 48),
 (121,.st .sndr [(0,3),(1,9),(2,3),(3,4),(4,4),(5,4)]),
 (122,.sl .piec 24),
 (124,.st .recv [(0,3),(1,9),(2,122),(3,3),(4,4)]),
 (126,.st .conn [(0,80),(3,3),(4,121),(10,124),(15,3),(16,3),(17,100),(23,3),(24,3)]),
 (130,.st .clie [(0,80),(3,3),(4,100),(10,3)]),
 (132,.sl .mac 48),
 (161,.st .pack [(0,3),(1,3),(2,3),(3,3),(4,3),(5,9)]),
 (167,.st .issu [(0,80),(3,3),(4,3)]),
 (178,.st .half [(0,80),(3,3),(4,3),(5,100),(11,3),(12,3)]),
 (223,.st .macRow [(0,9),(1,3)]),
 (231,.st .half [(0,67),(3,3),(4,3),(5,92),(11,3),(12,3)]),
 (234,.st .macRow [(0,9),(1,3)]),
 (245,.st .fram [(0,3),(1,3),(2,3),(3,9)]),
 (266,.sl .u8 1),
 (268,.sc (.int .u64)),
 (300,.st .arpm [(0,3),(1,3),(2,3),(3,3),(4,3)]),
 (311,.st .sndr [(0,3),(1,9),(2,3),(3,4),(4,4),(5,4)]),
 (312,.sl .piec 24),
 (314,.st .recv [(0,3),(1,9),(2,312),(3,3),(4,4)]),
 (316,.st .conn [(0,67),(3,3),(4,311),(10,314),(15,3),(16,3),(17,92),(23,3),(24,3)]),
 (323,.st .entr [(0,3),(1,3),(2,3)]),
 (325,.st .entr [(0,3),(1,3),(2,3)]),
 (334,.sl .i64 8),
 (343,.st .chun [(0,3),(1,9),(2,4)]),
 (360,.st .piec [(0,3),(1,9)]),
 (371,.sl .bool 1),
 (382,.st .sipr [(0,22),(1,22),(2,22),(3,22)]),
 (388,.sc (.int .u32)),
 (391,.st .piec [(0,3),(1,9)]),
 (403,.sc (.int .u8)),
 (404,.sc (.int .u8)),
 (406,.ptr),
 (407,.sc (.int .i32)),
 (408,.sc (.int .i32)),
 (1000018,.wr [true]),
 (1000019,.wr [true]),
 (1000030,.wr [true]),
 (1000031,.wr [true]),
 (1000032,.wr [true]),
 (1000040,.wr [true]),
 (1000049,.wr [true]),
 (1000059,.wr [true]),
 (1000060,.wr [true]),
 (1000080,.wr [true]),
 (1000081,.wr [true]),
 (1000082,.wr [true]),
 (1000083,.wr [true]),
 (1000100,.wr [true]),
 (1000161,.wr [true]),
 (1000185,.wr [true]),
 (1000186,.wr [true]),
 (1000198,.wr [true]),
 (1000207,.wr [false,true]),
 (1000212,.wr [false,true]),
 (1000214,.wr [false,true]),
 (1000242,.wr [true]),
 (1000274,.wr [true]),
 (1000281,.wr [false,true]),
 (1000336,.wr [true]),
 (1000350,.wr [false,true]),
 (1000414,.wr [true]),
 (1000415,.wr [true]),
 (1000416,.wr [true]),
 (1000417,.wr [true]),
 (1000418,.wr [true]),
 (4000045,.wr []),
 (4000074,.wr [])]
theorem wV:cC te Tryz.prog=true:=by kernel_rfl
theorem yZ:uO te Tryz.prog=true:=by kernel_rfl
theorem y6:laidOutB Tryz.prog=true:=by kernel_rfl
theorem xH:ownKnob Tryz.prog.godebug=none:=by kernel_rfl
theorem uW:Tryz.prog.follows .mixedOrders=true:=by kernel_rfl
def st:Seat Tryz.prog:=⟨te,wV,uW⟩
def AC:TE:=(5000000,.wr [])::te
theorem yh:cC AC Tryz.prog=true:=by kernel_rfl
def bH:Seat Tryz.prog:=⟨AC,yh,uW⟩
def uq (o0:Ow)(x:Conn):List RC:=[.c (.int .i64 x.tuple.ip),.c (.int .i64 x.tuple.port),.c (.int .i64 x.tuple.my),.c (.int .i64 x.state),.c (.int .i64 x.s.una),.c (.str x.s.data),.c (.int .i64 x.s.sent),.c (.bool x.s.fin),.c (.bool x.s.finSent),.c (.bool x.s.done),.c (.int .i64 x.r.next),.c (.str x.r.data),sc o0 .piec x.r.held,.c (.int .i64 x.r.fin),.c (.bool x.r.done),.c (.int .i64 x.window),.c (.int .i64 x.most),.c (.int .i64 x.opts.mss),.c (.int .i64 x.opts.scale),.c (.bool x.opts.sack),.c (.bool x.opts.stamp),.c (.int .i64 x.opts.val),.c (.int .i64 x.opts.echo),.c (.int .i64 x.timer),.c (.int .i64 x.tries)]
def px (o0 o1 o2 o3 o4:Ow)(x:Door):List RC:=[.c (.int .i64 x.port),.c (.int .i64 x.clock),.c (.int .i64 x.keys.epoch),.c (.bool x.keys.now.use),.c (.int .u64 x.keys.now.k),.c (.int .u64 x.keys.now.l),sc o0 .macRow x.keys.now.rows,.c (.bool x.keys.before.use),.c (.int .u64 x.keys.before.k),.c (.int .u64 x.keys.before.l),sc o1 .macRow x.keys.before.rows,.c (.bool x.keys.two),.c (.int .i64 x.limits.halves),.c (.int .i64 x.limits.waiting),.c (.int .i64 x.limits.conns),.c (.int .i64 x.limits.chal),sc o2 .half x.halves,sc o3 .conn x.table.conns,sc o4 .tupl x.table.waiting,.c (.int .i64 x.chal)]
def zG (x:Half):List RC:=[.c (.int .i64 x.tuple.ip),.c (.int .i64 x.tuple.port),.c (.int .i64 x.tuple.my),.c (.int .i64 x.iss),.c (.int .i64 x.irs),.c (.int .i64 x.opts.mss),.c (.int .i64 x.opts.scale),.c (.bool x.opts.sack),.c (.bool x.opts.stamp),.c (.int .i64 x.opts.val),.c (.int .i64 x.opts.echo),.c (.int .i64 x.age),.c (.int .i64 x.window)]
def o9 (o0 o1:Ow)(x:Keys):List RC:=[.c (.int .i64 x.epoch),.c (.bool x.now.use),.c (.int .u64 x.now.k),.c (.int .u64 x.now.l),sc o0 .macRow x.now.rows,.c (.bool x.before.use),.c (.int .u64 x.before.k),.c (.int .u64 x.before.l),sc o1 .macRow x.before.rows,.c (.bool x.two)]
def yT (x:Limi):List RC:=[.c (.int .i64 x.halves),.c (.int .i64 x.waiting),.c (.int .i64 x.conns),.c (.int .i64 x.chal)]
def wB (o0:Ow)(x:Mac):List RC:=[.c (.bool x.use),.c (.int .u64 x.k),.c (.int .u64 x.l),sc o0 .macRow x.rows]
def xe (x:MacRow):List RC:=[.c (.str x.input),.c (.int .i64 x.value)]
def yW (x:Opti):List RC:=[.c (.int .i64 x.mss),.c (.int .i64 x.scale),.c (.bool x.sack),.c (.bool x.stamp),.c (.int .i64 x.val),.c (.int .i64 x.echo)]
def y7 (x:Piec):List RC:=[.c (.int .i64 x.off),.c (.str x.text)]
def tS (o0:Ow)(x:Recv):List RC:=[.c (.int .i64 x.next),.c (.str x.data),sc o0 .piec x.held,.c (.int .i64 x.fin),.c (.bool x.done)]
def zd (x:Sndr):List RC:=[.c (.int .i64 x.una),.c (.str x.data),.c (.int .i64 x.sent),.c (.bool x.fin),.c (.bool x.finSent),.c (.bool x.done)]
def uz (o0 o1:Ow)(x:Tabl):List RC:=[sc o0 .conn x.conns,sc o1 .tupl x.waiting]
def zD (x:Tupl):List RC:=[.c (.int .i64 x.ip),.c (.int .i64 x.port),.c (.int .i64 x.my)]
@[grind] def nL (x:Chun):Prop:=x.text.length≤4294967296
@[grind! .] theorem y4 {xs:List Chun} (h:cW nL xs) (i:Nat):nL (xs.getD i (Ty.zero .chun)):=bp h (by unfold nL;(repeat' apply And.intro);all_goals first|exact λ_ h=>absurd h (List.not_mem_nil)|decide+kernel) i
@[grind=] theorem yq (xs:List Chun) (i:Nat):xs.getD i (Ty.zero .chun)=jm (xs.getD i (Ty.zero .chun)) (nL (xs.getD i (Ty.zero .chun))):=rfl
@[grind] def aQ (x:Piec):Prop:=x.text.length≤4294967296
@[grind! .] theorem zw {xs:List Piec} (h:cW aQ xs) (i:Nat):aQ (xs.getD i (Ty.zero .piec)):=bp h (by unfold aQ;(repeat' apply And.intro);all_goals first|exact λ_ h=>absurd h (List.not_mem_nil)|decide+kernel) i
@[grind=] theorem yJ (xs:List Piec) (i:Nat):xs.getD i (Ty.zero .piec)=jm (xs.getD i (Ty.zero .piec)) (aQ (xs.getD i (Ty.zero .piec))):=rfl
@[grind] def am (x:Conn):Prop:=x.s.data.length≤4294967296∧x.r.data.length≤4294967296∧x.r.held.length≤4294967296∧cW aQ x.r.held
@[grind! .] theorem yU {xs:List Conn} (h:cW am xs) (i:Nat):am (xs.getD i (Ty.zero .conn)):=bp h (by unfold am;(repeat' apply And.intro);all_goals first|exact λ_ h=>absurd h (List.not_mem_nil)|decide+kernel) i
@[grind=] theorem yp (xs:List Conn) (i:Nat):xs.getD i (Ty.zero .conn)=jm (xs.getD i (Ty.zero .conn)) (am (xs.getD i (Ty.zero .conn))):=rfl
@[grind] def af (x:MacRow):Prop:=x.input.length≤4294967296
@[grind! .] theorem xI {xs:List MacRow} (h:cW af xs) (i:Nat):af (xs.getD i (Ty.zero .macRow)):=bp h (by unfold af;(repeat' apply And.intro);all_goals first|exact λ_ h=>absurd h (List.not_mem_nil)|decide+kernel) i
@[grind=] theorem xF (xs:List MacRow) (i:Nat):xs.getD i (Ty.zero .macRow)=jm (xs.getD i (Ty.zero .macRow)) (af (xs.getD i (Ty.zero .macRow))):=rfl
@[grind] def ba (x:Door):Prop:=x.keys.now.rows.length≤4294967296∧cW af x.keys.now.rows∧x.keys.before.rows.length≤4294967296∧cW af x.keys.before.rows∧x.halves.length≤4294967296∧x.table.conns.length≤4294967296∧cW am x.table.conns∧x.table.waiting.length≤4294967296
@[grind! .] theorem zq {xs:List Door} (h:cW ba xs) (i:Nat):ba (xs.getD i (Ty.zero .door)):=bp h (by unfold ba;(repeat' apply And.intro);all_goals first|exact λ_ h=>absurd h (List.not_mem_nil)|decide+kernel) i
@[grind=] theorem yz (xs:List Door) (i:Nat):xs.getD i (Ty.zero .door)=jm (xs.getD i (Ty.zero .door)) (ba (xs.getD i (Ty.zero .door))):=rfl
@[grind] def nN (x:Fram):Prop:=x.body.length≤4294967296
@[grind! .] theorem zh {xs:List Fram} (h:cW nN xs) (i:Nat):nN (xs.getD i (Ty.zero .fram)):=bp h (by unfold nN;(repeat' apply And.intro);all_goals first|exact λ_ h=>absurd h (List.not_mem_nil)|decide+kernel) i
@[grind=] theorem yC (xs:List Fram) (i:Nat):xs.getD i (Ty.zero .fram)=jm (xs.getD i (Ty.zero .fram)) (nN (xs.getD i (Ty.zero .fram))):=rfl
@[grind] def a6 (x:Keys):Prop:=x.now.rows.length≤4294967296∧cW af x.now.rows∧x.before.rows.length≤4294967296∧cW af x.before.rows
@[grind! .] theorem zH {xs:List Keys} (h:cW a6 xs) (i:Nat):a6 (xs.getD i (Ty.zero .keys)):=bp h (by unfold a6;(repeat' apply And.intro);all_goals first|exact λ_ h=>absurd h (List.not_mem_nil)|decide+kernel) i
@[grind=] theorem yj (xs:List Keys) (i:Nat):xs.getD i (Ty.zero .keys)=jm (xs.getD i (Ty.zero .keys)) (a6 (xs.getD i (Ty.zero .keys))):=rfl
@[grind] def nC (x:Link):Prop:=x.cache.length≤4294967296
@[grind! .] theorem yP {xs:List Link} (h:cW nC xs) (i:Nat):nC (xs.getD i (Ty.zero .link)):=bp h (by unfold nC;(repeat' apply And.intro);all_goals first|exact λ_ h=>absurd h (List.not_mem_nil)|decide+kernel) i
@[grind=] theorem yv (xs:List Link) (i:Nat):xs.getD i (Ty.zero .link)=jm (xs.getD i (Ty.zero .link)) (nC (xs.getD i (Ty.zero .link))):=rfl
@[grind] def aX (x:Mac):Prop:=x.rows.length≤4294967296∧cW af x.rows
@[grind! .] theorem zP {xs:List Mac} (h:cW aX xs) (i:Nat):aX (xs.getD i (Ty.zero .mac)):=bp h (by unfold aX;(repeat' apply And.intro);all_goals first|exact λ_ h=>absurd h (List.not_mem_nil)|decide+kernel) i
@[grind=] theorem yV (xs:List Mac) (i:Nat):xs.getD i (Ty.zero .mac)=jm (xs.getD i (Ty.zero .mac)) (aX (xs.getD i (Ty.zero .mac))):=rfl
@[grind] def nT (x:Pack):Prop:=x.body.length≤4294967296
@[grind! .] theorem zE {xs:List Pack} (h:cW nT xs) (i:Nat):nT (xs.getD i (Ty.zero .pack)):=bp h (by unfold nT;(repeat' apply And.intro);all_goals first|exact λ_ h=>absurd h (List.not_mem_nil)|decide+kernel) i
@[grind=] theorem yl (xs:List Pack) (i:Nat):xs.getD i (Ty.zero .pack)=jm (xs.getD i (Ty.zero .pack)) (nT (xs.getD i (Ty.zero .pack))):=rfl
@[grind] def dI (x:Recv):Prop:=x.data.length≤4294967296∧x.held.length≤4294967296∧cW aQ x.held
@[grind! .] theorem zC {xs:List Recv} (h:cW dI xs) (i:Nat):dI (xs.getD i (Ty.zero .recv)):=bp h (by unfold dI;(repeat' apply And.intro);all_goals first|exact λ_ h=>absurd h (List.not_mem_nil)|decide+kernel) i
@[grind=] theorem yi (xs:List Recv) (i:Nat):xs.getD i (Ty.zero .recv)=jm (xs.getD i (Ty.zero .recv)) (dI (xs.getD i (Ty.zero .recv))):=rfl
@[grind] def nH (x:Resu):Prop:=x.frames.length≤4294967296∧cW sS x.frames∧x.text.length≤4294967296
@[grind! .] theorem zj {xs:List Resu} (h:cW nH xs) (i:Nat):nH (xs.getD i (Ty.zero .resu)):=bp h (by unfold nH;(repeat' apply And.intro);all_goals first|exact λ_ h=>absurd h (List.not_mem_nil)|decide+kernel) i
@[grind=] theorem yx (xs:List Resu) (i:Nat):xs.getD i (Ty.zero .resu)=jm (xs.getD i (Ty.zero .resu)) (nH (xs.getD i (Ty.zero .resu))):=rfl
@[grind] def nI (x:Segm):Prop:=x.body.length≤4294967296
@[grind! .] theorem zy {xs:List Segm} (h:cW nI xs) (i:Nat):nI (xs.getD i (Ty.zero .segm)):=bp h (by unfold nI;(repeat' apply And.intro);all_goals first|exact λ_ h=>absurd h (List.not_mem_nil)|decide+kernel) i
@[grind=] theorem yy (xs:List Segm) (i:Nat):xs.getD i (Ty.zero .segm)=jm (xs.getD i (Ty.zero .segm)) (nI (xs.getD i (Ty.zero .segm))):=rfl
@[grind] def j9 (x:Sndr):Prop:=x.data.length≤4294967296
@[grind! .] theorem zt {xs:List Sndr} (h:cW j9 xs) (i:Nat):j9 (xs.getD i (Ty.zero .sndr)):=bp h (by unfold j9;(repeat' apply And.intro);all_goals first|exact λ_ h=>absurd h (List.not_mem_nil)|decide+kernel) i
@[grind=] theorem yk (xs:List Sndr) (i:Nat):xs.getD i (Ty.zero .sndr)=jm (xs.getD i (Ty.zero .sndr)) (j9 (xs.getD i (Ty.zero .sndr))):=rfl
@[grind] def nK (x:Stac):Prop:=x.link.cache.length≤4294967296∧x.door.keys.now.rows.length≤4294967296∧cW af x.door.keys.now.rows∧x.door.keys.before.rows.length≤4294967296∧cW af x.door.keys.before.rows∧x.door.halves.length≤4294967296∧x.door.table.conns.length≤4294967296∧cW am x.door.table.conns∧x.door.table.waiting.length≤4294967296
@[grind! .] theorem zM {xs:List Stac} (h:cW nK xs) (i:Nat):nK (xs.getD i (Ty.zero .stac)):=bp h (by unfold nK;(repeat' apply And.intro);all_goals first|exact λ_ h=>absurd h (List.not_mem_nil)|decide+kernel) i
@[grind=] theorem yB (xs:List Stac) (i:Nat):xs.getD i (Ty.zero .stac)=jm (xs.getD i (Ty.zero .stac)) (nK (xs.getD i (Ty.zero .stac))):=rfl
@[grind] def bf (x:Tabl):Prop:=x.conns.length≤4294967296∧cW am x.conns∧x.waiting.length≤4294967296
@[grind! .] theorem zn {xs:List Tabl} (h:cW bf xs) (i:Nat):bf (xs.getD i (Ty.zero .tabl)):=bp h (by unfold bf;(repeat' apply And.intro);all_goals first|exact λ_ h=>absurd h (List.not_mem_nil)|decide+kernel) i
@[grind=] theorem yu (xs:List Tabl) (i:Nat):xs.getD i (Ty.zero .tabl)=jm (xs.getD i (Ty.zero .tabl)) (bf (xs.getD i (Ty.zero .tabl))):=rfl
@[grind] def SO (s:Sndr):Prop:=0≤s.una∧s.una≤4294967295∧s.data.length≤48∧0≤s.sent∧s.sent≤s.data.length∧(s.finSent=true→s.fin=true∧s.sent=s.data.length)∧(s.done=true→s.fin=true∧s.finSent=false∧s.data=[])
@[grind] def AL (s:Sndr):Nat:=((s.data.length:Int)-s.sent).toNat+if s.finSent=true then 0 else 1
@[grind] def po (y:Piec):Prop:=1≤y.off∧y.off+(y.text.length:Int)≤32
@[grind] def RO (r:Recv):Prop:=0≤r.next∧r.next≤4294967295∧r.data.length≤32∧r.held.length≤3∧cW po r.held
@[grind] def pl (n:Int) (y:Piec):Prop:=(y.text.length:Int)≤n
@[grind] def AG (r:Recv):Int:=if r.done=true then 0 else 32-(r.data.length:Int)
@[grind] def pw (n:Int) (y:Piec):Prop:=1≤y.off∧y.off+(y.text.length:Int)≤n
instance:Inhabited Arpm:=⟨Ty.zero .arpm⟩
instance:Inhabited Chun:=⟨Ty.zero .chun⟩
instance:Inhabited Clie:=⟨Ty.zero .clie⟩
instance:Inhabited Conn:=⟨Ty.zero .conn⟩
instance:Inhabited Door:=⟨Ty.zero .door⟩
instance:Inhabited Entr:=⟨Ty.zero .entr⟩
instance:Inhabited Fram:=⟨Ty.zero .fram⟩
instance:Inhabited Half:=⟨Ty.zero .half⟩
instance:Inhabited Issu:=⟨Ty.zero .issu⟩
instance:Inhabited Keys:=⟨Ty.zero .keys⟩
instance:Inhabited Limi:=⟨Ty.zero .limi⟩
instance:Inhabited Link:=⟨Ty.zero .link⟩
instance:Inhabited Mac:=⟨Ty.zero .mac⟩
instance:Inhabited MacRow:=⟨Ty.zero .macRow⟩
instance:Inhabited Opti:=⟨Ty.zero .opti⟩
instance:Inhabited Pack:=⟨Ty.zero .pack⟩
instance:Inhabited Piec:=⟨Ty.zero .piec⟩
instance:Inhabited Recv:=⟨Ty.zero .recv⟩
instance:Inhabited Resu:=⟨Ty.zero .resu⟩
instance:Inhabited Segm:=⟨Ty.zero .segm⟩
instance:Inhabited Sipr:=⟨Ty.zero .sipr⟩
instance:Inhabited Sndr:=⟨Ty.zero .sndr⟩
instance:Inhabited Stac:=⟨Ty.zero .stac⟩
instance:Inhabited Tabl:=⟨Ty.zero .tabl⟩
instance:Inhabited Tupl:=⟨Ty.zero .tupl⟩
end Go.Proofs.YtbkjnlihfgkkaaaGreat
