/- The table of types of this seat, and its closed facts. -/
import Derived.Test.YtffjmkhjhchnmaaGreatDel
import Derived.Test.YtffjmkhjhchnmaaGreatRows
import Derived.KernelRfl
set_option linter.unusedVariables false
set_option linter.unusedSimpArgs false
namespace Go.Proofs.YtffjmkhjhchnmaaGreat
open Go Go.RowKit
def te:TE:=[
 (2,.sc (.int .i64)),
 (3,.sc (.int .i64)),
 (4,.sc .bool),
 (5,.sc (.int .u8)),
 (6,.sc (.int .u8)),
 (9,.sc .str),
 (10,.sc .str),
 (11,.sc .str),
 (12,.sc (.int .u64)),
 (21,.sc (.int .i32)),
 (22,.sc (.int .u64)),
 (23,.sl .macRow 24),
 (25,.st .mac [(0,4),(1,22),(2,22),(3,23)]),
 (27,.st .keys [(0,3),(1,25),(5,25),(9,4)]),
 (29,.st .limi [(0,3),(1,3),(2,3),(3,3)]),
 (30,.sl .half 96),
 (31,.sl .conn 208),
 (32,.sl .tupl 24),
 (34,.st .tabl [(0,31),(1,32)]),
 (36,.st .door [(0,3),(1,3),(2,27),(12,29),(16,30),(17,34),(19,3)]),
 (38,.sl .macRow 24),
 (40,.st .mac [(0,4),(1,22),(2,22),(3,38)]),
 (42,.st .keys [(0,3),(1,40),(5,40),(9,4)]),
 (43,.st .limi [(0,3),(1,3),(2,3),(3,3)]),
 (44,.sl .half 96),
 (45,.sl .conn 208),
 (46,.sl .tupl 24),
 (48,.st .tabl [(0,45),(1,46)]),
 (50,.st .door [(0,3),(1,3),(2,42),(12,43),(16,44),(17,48),(19,3)]),
 (51,.sl .segm 104),
 (60,.sl .entr 24),
 (62,.st .link [(0,3),(1,3),(2,60)]),
 (64,.st .stac [(0,62),(3,36)]),
 (66,.sl .entr 24),
 (68,.st .link [(0,3),(1,3),(2,66)]),
 (70,.st .stac [(0,68),(3,50)]),
 (71,.sl .str 16),
 (81,.st .tupl [(0,3),(1,3),(2,3)]),
 (83,.st .acti [(0,3),(1,81),(4,3),(5,9),(6,25)]),
 (85,.st .tupl [(0,3),(1,3),(2,3)]),
 (87,.st .resu [(0,71),(1,3),(2,85),(5,3),(6,9),(7,4)]),
 (91,.st .acti [(0,3),(1,85),(4,3),(5,9),(6,40)]),
 (98,.sl .acti 104),
 (100,.sl .resu 88),
 (103,.sl .acti 104),
 (110,.sl .issu 40),
 (114,.sl .u8 1),
 (119,.st .sndr [(0,3),(1,9),(2,3),(3,4),(4,4),(5,4)]),
 (120,.sl .piec 24),
 (122,.st .recv [(0,3),(1,9),(2,120),(3,3),(4,4)]),
 (124,.st .opti [(0,3),(1,3),(2,4),(3,4),(4,3),(5,3)]),
 (126,.st .conn [(0,85),(3,3),(4,119),(10,122),(15,3),(16,3),(17,124),(23,3),(24,3)]),
 (128,.st .piec [(0,3),(1,9)]),
 (130,.st .half [(0,85),(3,3),(4,3),(5,124),(11,3),(12,3)]),
 (132,.st .entr [(0,3),(1,3),(2,3)]),
 (147,.sl .mail 112),
 (151,.st .segm [(0,3),(1,3),(2,3),(3,3),(4,3),(5,3),(6,124),(12,9)]),
 (153,.st .mail [(0,3),(1,151)]),
 (191,.st .issu [(0,85),(3,3),(4,3)]),
 (198,.ptr),
 (217,.st .opti [(0,3),(1,3),(2,4),(3,4),(4,3),(5,3)]),
 (219,.st .half [(0,81),(3,3),(4,3),(5,217),(11,3),(12,3)]),
 (241,.st .pack [(0,3),(1,3),(2,3),(3,3),(4,3),(5,9)]),
 (261,.st .macRow [(0,9),(1,3)]),
 (267,.st .curs [(0,114),(1,3),(2,3)]),
 (272,.sl .i64 8),
 (276,.st .sndr [(0,3),(1,9),(2,3),(3,4),(4,4),(5,4)]),
 (277,.sl .piec 24),
 (279,.st .recv [(0,3),(1,9),(2,277),(3,3),(4,4)]),
 (281,.st .conn [(0,81),(3,3),(4,276),(10,279),(15,3),(16,3),(17,217),(23,3),(24,3)]),
 (283,.sc (.int .u64)),
 (295,.st .chun [(0,3),(1,9),(2,4)]),
 (312,.st .fram [(0,3),(1,3),(2,3),(3,9)]),
 (319,.st .entr [(0,3),(1,3),(2,3)]),
 (322,.st .macRow [(0,9),(1,3)]),
 (346,.st .arpm [(0,3),(1,3),(2,3),(3,3),(4,3)]),
 (442,.st .piec [(0,3),(1,9)]),
 (449,.sl .bool 1),
 (457,.sc (.int .u32)),
 (460,.st .sipr [(0,22),(1,22),(2,22),(3,22)]),
 (476,.sc (.int .u8)),
 (477,.sc (.int .u8)),
 (479,.ptr),
 (480,.sc (.int .i32)),
 (481,.sc (.int .i32)),
 (1000015,.wr [true]),
 (1000016,.wr [true]),
 (1000025,.wr [true]),
 (1000026,.wr [true]),
 (1000035,.wr [true]),
 (1000036,.wr [true]),
 (1000044,.wr [true]),
 (1000045,.wr [true]),
 (1000050,.wr [true]),
 (1000074,.wr [true]),
 (1000075,.wr [true]),
 (1000076,.wr [true]),
 (1000092,.wr [true]),
 (1000113,.wr [true]),
 (1000115,.wr [true]),
 (1000124,.wr [true]),
 (1000125,.wr [true]),
 (1000158,.wr [true]),
 (1000159,.wr [true]),
 (1000174,.wr [true]),
 (1000199,.wr [true,true]),
 (1000201,.wr [true,true]),
 (1000203,.wr [true,true]),
 (1000220,.wr [true]),
 (1000221,.wr [true]),
 (1000222,.wr [true]),
 (1000223,.wr [true]),
 (1000224,.wr [true]),
 (1000225,.wr [true]),
 (1000226,.wr [true]),
 (1000227,.wr [true]),
 (1000255,.wr [false,true]),
 (1000263,.wr [true]),
 (1000305,.wr [false,true]),
 (1000326,.wr [true,true]),
 (1000333,.wr [true]),
 (1000334,.wr [true]),
 (1000335,.wr [true]),
 (1000336,.wr [true]),
 (1000337,.wr [true]),
 (1000338,.wr [true]),
 (1000339,.wr [true]),
 (1000340,.wr [true]),
 (1000341,.wr [true]),
 (1000342,.wr [true]),
 (1000343,.wr [true]),
 (1000345,.wr [true]),
 (1000346,.wr [true]),
 (1000347,.wr [true]),
 (1000349,.wr [true]),
 (1000359,.wr [false,true]),
 (1000393,.wr [false,true]),
 (1000395,.wr [true]),
 (1000402,.wr [true]),
 (1000412,.wr [true]),
 (1000413,.wr [true]),
 (1000414,.wr [true]),
 (1000415,.wr [true]),
 (1000416,.wr [true]),
 (1000417,.wr [true]),
 (1000418,.wr [true]),
 (1000419,.wr [true]),
 (1000420,.wr [true]),
 (1000421,.wr [true]),
 (1000422,.wr [true]),
 (1000423,.wr [true]),
 (1000424,.wr [true]),
 (1000425,.wr [true]),
 (1000426,.wr [true]),
 (1000427,.wr [true]),
 (1000428,.wr [true]),
 (1000462,.wr [true]),
 (1000463,.wr [true]),
 (1000464,.wr [true]),
 (1000465,.wr [true]),
 (1000466,.wr [true]),
 (1000467,.wr [true]),
 (1000468,.wr [true]),
 (1000469,.wr [true]),
 (1000470,.wr [true]),
 (1000471,.wr [true]),
 (1000472,.wr [true]),
 (1000473,.wr [true]),
 (1000497,.wr [true]),
 (1000498,.wr [true]),
 (1000500,.wr [true]),
 (1000501,.wr [true]),
 (1000531,.wr [true]),
 (1000532,.wr [true]),
 (1000533,.wr [true]),
 (1000534,.wr [true]),
 (1000535,.wr [true]),
 (4000044,.wr []),
 (4000045,.wr []),
 (4000046,.wr []),
 (4000066,.wr [])]
theorem J4:fQ te Tryz.prog=true:=by kernel_rfl
theorem NV:Ju te Tryz.prog=true:=by kernel_rfl
theorem Nf:laidOutB Tryz.prog=true:=by kernel_rfl
theorem Le:ownKnob Tryz.prog.godebug=none:=by kernel_rfl
theorem GI:Tryz.prog.follows .mixedOrders=true:=by kernel_rfl
def st:Seat Tryz.prog:=⟨te,J4,GI⟩
def Rq:TE:=(5000000,.wr [])::te
theorem OC:fQ Rq Tryz.prog=true:=by kernel_rfl
def az:Seat Tryz.prog:=⟨Rq,OC,GI⟩
def Ri:TE:=(31,.sl .connR 208)::(45,.sl .connR 208)::(120,.sc .raw)::(122,.st .recvR [(0,3),(1,9),(2,120),(3,3),(4,4)])::(126,.st .connR [(0,85),(3,3),(4,119),(10,122),(15,3),(16,3),(17,124),(23,3),(24,3)])::(277,.sc .raw)::(279,.st .recvR [(0,3),(1,9),(2,277),(3,3),(4,4)])::(281,.st .connR [(0,81),(3,3),(4,276),(10,279),(15,3),(16,3),(17,217),(23,3),(24,3)])::te
theorem OJ:fQ Ri Tryz.prog=true:=by kernel_rfl
def He:Seat Tryz.prog:=⟨Ri,OJ,GI⟩
def NF (x:Chun):List RC:=[.c (.int .i64 x.seq),.c (.str x.text),.c (.bool x.fin)]
def vr (o0:Ow)(x:Conn):List RC:=[.c (.int .i64 x.tuple.ip),.c (.int .i64 x.tuple.port),.c (.int .i64 x.tuple.my),.c (.int .i64 x.state),.c (.int .i64 x.s.una),.c (.str x.s.data),.c (.int .i64 x.s.sent),.c (.bool x.s.fin),.c (.bool x.s.finSent),.c (.bool x.s.done),.c (.int .i64 x.r.next),.c (.str x.r.data),sc o0 .piec x.r.held,.c (.int .i64 x.r.fin),.c (.bool x.r.done),.c (.int .i64 x.window),.c (.int .i64 x.most),.c (.int .i64 x.opts.mss),.c (.int .i64 x.opts.scale),.c (.bool x.opts.sack),.c (.bool x.opts.stamp),.c (.int .i64 x.opts.val),.c (.int .i64 x.opts.echo),.c (.int .i64 x.timer),.c (.int .i64 x.tries)]
def xB (o0 o1 o2 o3 o4:Ow)(x:Door):List RC:=[.c (.int .i64 x.port),.c (.int .i64 x.clock),.c (.int .i64 x.keys.epoch),.c (.bool x.keys.now.use),.c (.int .u64 x.keys.now.k),.c (.int .u64 x.keys.now.l),sc o0 .macRow x.keys.now.rows,.c (.bool x.keys.before.use),.c (.int .u64 x.keys.before.k),.c (.int .u64 x.keys.before.l),sc o1 .macRow x.keys.before.rows,.c (.bool x.keys.two),.c (.int .i64 x.limits.halves),.c (.int .i64 x.limits.waiting),.c (.int .i64 x.limits.conns),.c (.int .i64 x.limits.chal),sc o2 .half x.halves,sc o3 .conn x.table.conns,sc o4 .tupl x.table.waiting,.c (.int .i64 x.chal)]
def P8 (x:Entr):List RC:=[.c (.int .i64 x.ip),.c (.int .i64 x.hw),.c (.int .i64 x.age)]
def Qg (x:Half):List RC:=[.c (.int .i64 x.tuple.ip),.c (.int .i64 x.tuple.port),.c (.int .i64 x.tuple.my),.c (.int .i64 x.iss),.c (.int .i64 x.irs),.c (.int .i64 x.opts.mss),.c (.int .i64 x.opts.scale),.c (.bool x.opts.sack),.c (.bool x.opts.stamp),.c (.int .i64 x.opts.val),.c (.int .i64 x.opts.echo),.c (.int .i64 x.age),.c (.int .i64 x.window)]
def Kh (o0 o1:Ow)(x:Keys):List RC:=[.c (.int .i64 x.epoch),.c (.bool x.now.use),.c (.int .u64 x.now.k),.c (.int .u64 x.now.l),sc o0 .macRow x.now.rows,.c (.bool x.before.use),.c (.int .u64 x.before.k),.c (.int .u64 x.before.l),sc o1 .macRow x.before.rows,.c (.bool x.two)]
def Qt (x:Limi):List RC:=[.c (.int .i64 x.halves),.c (.int .i64 x.waiting),.c (.int .i64 x.conns),.c (.int .i64 x.chal)]
def JE (o0:Ow)(x:Link):List RC:=[.c (.int .i64 x.mac),.c (.int .i64 x.ip),sc o0 .entr x.cache]
def MU (o0:Ow)(x:Mac):List RC:=[.c (.bool x.use),.c (.int .u64 x.k),.c (.int .u64 x.l),sc o0 .macRow x.rows]
def Nd (x:MacRow):List RC:=[.c (.str x.input),.c (.int .i64 x.value)]
def Ks (x:Opti):List RC:=[.c (.int .i64 x.mss),.c (.int .i64 x.scale),.c (.bool x.sack),.c (.bool x.stamp),.c (.int .i64 x.val),.c (.int .i64 x.echo)]
def PY (x:Piec):List RC:=[.c (.int .i64 x.off),.c (.str x.text)]
def JP (o0:Ow)(x:Recv):List RC:=[.c (.int .i64 x.next),.c (.str x.data),sc o0 .piec x.held,.c (.int .i64 x.fin),.c (.bool x.done)]
def M6 (x:Segm):List RC:=[.c (.int .i64 x.from_),.c (.int .i64 x.to),.c (.int .i64 x.seq),.c (.int .i64 x.ack),.c (.int .i64 x.flags),.c (.int .i64 x.window),.c (.int .i64 x.opts.mss),.c (.int .i64 x.opts.scale),.c (.bool x.opts.sack),.c (.bool x.opts.stamp),.c (.int .i64 x.opts.val),.c (.int .i64 x.opts.echo),.c (.str x.body)]
def BE (x:Sndr):List RC:=[.c (.int .i64 x.una),.c (.str x.data),.c (.int .i64 x.sent),.c (.bool x.fin),.c (.bool x.finSent),.c (.bool x.done)]
def AG (o0 o1 o2 o3 o4 o5:Ow)(x:Stac):List RC:=[.c (.int .i64 x.link.mac),.c (.int .i64 x.link.ip),sc o0 .entr x.link.cache,.c (.int .i64 x.door.port),.c (.int .i64 x.door.clock),.c (.int .i64 x.door.keys.epoch),.c (.bool x.door.keys.now.use),.c (.int .u64 x.door.keys.now.k),.c (.int .u64 x.door.keys.now.l),sc o1 .macRow x.door.keys.now.rows,.c (.bool x.door.keys.before.use),.c (.int .u64 x.door.keys.before.k),.c (.int .u64 x.door.keys.before.l),sc o2 .macRow x.door.keys.before.rows,.c (.bool x.door.keys.two),.c (.int .i64 x.door.limits.halves),.c (.int .i64 x.door.limits.waiting),.c (.int .i64 x.door.limits.conns),.c (.int .i64 x.door.limits.chal),sc o3 .half x.door.halves,sc o4 .conn x.door.table.conns,sc o5 .tupl x.door.table.waiting,.c (.int .i64 x.door.chal)]
def Bp (o0 o1:Ow)(x:Tabl):List RC:=[sc o0 .conn x.conns,sc o1 .tupl x.waiting]
def Qy (x:Tupl):List RC:=[.c (.int .i64 x.ip),.c (.int .i64 x.port),.c (.int .i64 x.my)]
@[grind] def aj (x:MacRow):Prop:=x.input.length≤4294967296
@[grind! .] theorem OG {xs:List MacRow} (h:cI aj xs) (i:Nat):aj (xs.getD i (Ty.zero .macRow)):=j9 h (by unfold aj;(repeat' apply And.intro);all_goals first|exact λ_ h=>absurd h (List.not_mem_nil)|decide+kernel) i
@[grind=] theorem Ok (xs:List MacRow) (i:Nat):xs.getD i (Ty.zero .macRow)=Gh (xs.getD i (Ty.zero .macRow)) (aj (xs.getD i (Ty.zero .macRow))):=rfl
@[grind] def z6 (x:Acti):Prop:=x.text.length≤4294967296∧x.mac.rows.length≤4294967296∧cI aj x.mac.rows
@[grind! .] theorem PQ {xs:List Acti} (h:cI z6 xs) (i:Nat):z6 (xs.getD i (Ty.zero .acti)):=j9 h (by unfold z6;(repeat' apply And.intro);all_goals first|exact λ_ h=>absurd h (List.not_mem_nil)|decide+kernel) i
@[grind=] theorem Ps (xs:List Acti) (i:Nat):xs.getD i (Ty.zero .acti)=Gh (xs.getD i (Ty.zero .acti)) (z6 (xs.getD i (Ty.zero .acti))):=rfl
@[grind] def we (x:Chun):Prop:=x.text.length≤4294967296
@[grind] def bK (x:Piec):Prop:=x.text.length≤4294967296
@[grind! .] theorem PP {xs:List Piec} (h:cI bK xs) (i:Nat):bK (xs.getD i (Ty.zero .piec)):=j9 h (by unfold bK;(repeat' apply And.intro);all_goals first|exact λ_ h=>absurd h (List.not_mem_nil)|decide+kernel) i
@[grind=] theorem PC (xs:List Piec) (i:Nat):xs.getD i (Ty.zero .piec)=Gh (xs.getD i (Ty.zero .piec)) (bK (xs.getD i (Ty.zero .piec))):=rfl
@[grind] def ae (x:Conn):Prop:=x.s.data.length≤4294967296∧x.r.data.length≤4294967296∧x.r.held.length≤4294967296∧cI bK x.r.held
@[grind! .] theorem Qa {xs:List Conn} (h:cI ae xs) (i:Nat):ae (xs.getD i (Ty.zero .conn)):=j9 h (by unfold ae;(repeat' apply And.intro);all_goals first|exact λ_ h=>absurd h (List.not_mem_nil)|decide+kernel) i
@[grind=] theorem Pp (xs:List Conn) (i:Nat):xs.getD i (Ty.zero .conn)=Gh (xs.getD i (Ty.zero .conn)) (ae (xs.getD i (Ty.zero .conn))):=rfl
@[grind] def dd (x:ConnR):Prop:=x.s.data.length≤4294967296∧x.r.data.length≤4294967296
@[grind! .] theorem Pq {xs:List ConnR} (h:cI dd xs) (i:Nat):dd (xs.getD i (Ty.zero .connR)):=j9 h (by unfold dd;(repeat' apply And.intro);all_goals first|exact λ_ h=>absurd h (List.not_mem_nil)|decide+kernel) i
@[grind=] theorem O0 (xs:List ConnR) (i:Nat):xs.getD i (Ty.zero .connR)=Gh (xs.getD i (Ty.zero .connR)) (dd (xs.getD i (Ty.zero .connR))):=rfl
@[grind] def Q0 (x:Curs):Prop:=0≤x.i∧x.b.length≤1048576
@[grind] def aN (x:Door):Prop:=x.keys.now.rows.length≤4294967296∧cI aj x.keys.now.rows∧x.keys.before.rows.length≤4294967296∧cI aj x.keys.before.rows∧x.halves.length≤4294967296∧x.table.conns.length≤4294967296∧cI ae x.table.conns∧x.table.waiting.length≤4294967296
@[grind] def KZ (x:Fram):Prop:=x.body.length≤4294967296
@[grind] def eY (x:Keys):Prop:=x.now.rows.length≤4294967296∧cI aj x.now.rows∧x.before.rows.length≤4294967296∧cI aj x.before.rows
@[grind] def gu (x:Link):Prop:=x.cache.length≤4294967296
@[grind] def dS (x:Mac):Prop:=x.rows.length≤4294967296∧cI aj x.rows
@[grind] def kp (x:Mail):Prop:=x.g.body.length≤4294967296
@[grind! .] theorem P9 {xs:List Mail} (h:cI kp xs) (i:Nat):kp (xs.getD i (Ty.zero .mail)):=j9 h (by unfold kp;(repeat' apply And.intro);all_goals first|exact λ_ h=>absurd h (List.not_mem_nil)|decide+kernel) i
@[grind=] theorem Po (xs:List Mail) (i:Nat):xs.getD i (Ty.zero .mail)=Gh (xs.getD i (Ty.zero .mail)) (kp (xs.getD i (Ty.zero .mail))):=rfl
@[grind] def KY (x:Pack):Prop:=x.body.length≤4294967296
@[grind] def gv (x:Recv):Prop:=x.data.length≤4294967296∧x.held.length≤4294967296∧cI bK x.held
@[grind] def QI (x:RecvR):Prop:=x.data.length≤4294967296
@[grind] def z9 (x:Resu):Prop:=x.frames.length≤4294967296∧cI sS x.frames∧x.text.length≤4294967296
@[grind! .] theorem Qc {xs:List Resu} (h:cI z9 xs) (i:Nat):z9 (xs.getD i (Ty.zero .resu)):=j9 h (by unfold z9;(repeat' apply And.intro);all_goals first|exact λ_ h=>absurd h (List.not_mem_nil)|decide+kernel) i
@[grind=] theorem Pl (xs:List Resu) (i:Nat):xs.getD i (Ty.zero .resu)=Gh (xs.getD i (Ty.zero .resu)) (z9 (xs.getD i (Ty.zero .resu))):=rfl
@[grind] def aW (x:Segm):Prop:=x.body.length≤4294967296
@[grind! .] theorem Qn {xs:List Segm} (h:cI aW xs) (i:Nat):aW (xs.getD i (Ty.zero .segm)):=j9 h (by unfold aW;(repeat' apply And.intro);all_goals first|exact λ_ h=>absurd h (List.not_mem_nil)|decide+kernel) i
@[grind=] theorem Pz (xs:List Segm) (i:Nat):xs.getD i (Ty.zero .segm)=Gh (xs.getD i (Ty.zero .segm)) (aW (xs.getD i (Ty.zero .segm))):=rfl
@[grind] def d8 (x:Sndr):Prop:=x.data.length≤4294967296
@[grind] def bq (x:Stac):Prop:=x.link.cache.length≤4294967296∧x.door.keys.now.rows.length≤4294967296∧cI aj x.door.keys.now.rows∧x.door.keys.before.rows.length≤4294967296∧cI aj x.door.keys.before.rows∧x.door.halves.length≤4294967296∧x.door.table.conns.length≤4294967296∧cI ae x.door.table.conns∧x.door.table.waiting.length≤4294967296
@[grind] def aF (x:Tabl):Prop:=x.conns.length≤4294967296∧cI ae x.conns∧x.waiting.length≤4294967296
@[grind] def SO (s:Sndr):Prop:=0≤s.una∧s.una≤4294967295∧s.data.length≤48∧0≤s.sent∧s.sent≤s.data.length∧(s.finSent=true→s.fin=true∧s.sent=s.data.length)∧(s.done=true→s.fin=true∧s.finSent=false∧s.data=[])
@[grind] def Dz (s:Sndr):Nat:=((s.data.length:Int)-s.sent).toNat+if s.finSent=true then 0 else 1
@[grind] def po (y:Piec):Prop:=1≤y.off∧y.off+(y.text.length:Int)≤32
@[grind] def RO (r:Recv):Prop:=0≤r.next∧r.next≤4294967295∧r.data.length≤32∧r.held.length≤3∧cI po r.held
@[grind] def pl (n:Int) (y:Piec):Prop:=(y.text.length:Int)≤n
theorem K5 {α:Type}{p:α→Prop}{xs:List α}{n:Int}(h:cI p (xs.take n.toNat))(hn:(xs.length:Int)≤n):cI p xs:=by rwa [List.take_of_length_le (by omega)]at h
theorem Ha {α:Type}{p:α→Prop}{xs:List α}{n:Int}{d:α}(h:cI p (xs.take n.toNat))(h0:0≤n)(hn:n<xs.length)(hx:p (xs.getD n.toNat d)):cI p (xs.take (n+1).toNat):=by
 rw[show(n+1).toNat=n.toNat+1 by omega,List.take_succ_eq_append_getElem (by omega)]
 intro y hy
 rcases List.mem_append.1 hy with hy|hy
 ·exact h y hy
 ·rw[List.mem_singleton]at hy
  subst hy
  rwa [show xs.getD n.toNat d=xs[n.toNat] by simp[List.getD,show n.toNat<xs.length by omega]]at hx
theorem ON {xs:List Piec}{n:Int}(h:cI po (xs.take n.toNat))(h0:0≤n)(hn:n<xs.length)(hx:po (xs.getD n.toNat (Ty.zero .piec))):cI po (xs.take (n+1).toNat):=Ha h h0 hn hx
theorem PW {xs:List Piec}{n:Int}(h:cI po (xs.take n.toNat))(hn:(xs.length:Int)≤n):cI po xs:=K5 h hn
@[grind] def N3 (r:Recv):Int:=if r.done=true then 0 else 32-(r.data.length:Int)
@[grind] def pw (n:Int) (y:Piec):Prop:=1≤y.off∧y.off+(y.text.length:Int)≤n
theorem Pd {xs:List Piec}{n L:Int}(h:cI (pw L) (xs.take n.toNat))(h0:0≤n)(hn:n<xs.length)(hx:pw L (xs.getD n.toNat (Ty.zero .piec))):cI (pw L) (xs.take (n+1).toNat):=Ha h h0 hn hx
theorem P0 {xs:List Piec}{n L:Int}(h:cI (pw L) (xs.take n.toNat))(hn:(xs.length:Int)≤n):cI (pw L) xs:=K5 h hn
theorem QN {xs:List Piec}{L M:Int}(h:cI (pw L) xs)(hl:L≤M):cI (pw M) xs:=λy hy=>by have:=h y hy;unfold pw at*;omega
theorem QQ {xs:List Piec}{L:Int}(h:cI (pw L) xs)(hl:L≤32):cI po xs:=λy hy=>by have:=h y hy;unfold pw at this;unfold po;omega
instance:Inhabited Acti:=⟨Ty.zero .acti⟩
instance:Inhabited Arpm:=⟨Ty.zero .arpm⟩
instance:Inhabited Chun:=⟨Ty.zero .chun⟩
instance:Inhabited Conn:=⟨Ty.zero .conn⟩
instance:Inhabited ConnR:=⟨Ty.zero .connR⟩
instance:Inhabited Curs:=⟨Ty.zero .curs⟩
instance:Inhabited Door:=⟨Ty.zero .door⟩
instance:Inhabited Entr:=⟨Ty.zero .entr⟩
instance:Inhabited Fram:=⟨Ty.zero .fram⟩
instance:Inhabited Half:=⟨Ty.zero .half⟩
instance:Inhabited Issu:=⟨Ty.zero .issu⟩
instance:Inhabited Keys:=⟨Ty.zero .keys⟩
instance:Inhabited Limi:=⟨Ty.zero .limi⟩
instance:Inhabited Link:=⟨Ty.zero .link⟩
instance:Inhabited Mac:=⟨Ty.zero .mac⟩
instance:Inhabited MacRow:=⟨Ty.zero .macRow⟩
instance:Inhabited Mail:=⟨Ty.zero .mail⟩
instance:Inhabited Opti:=⟨Ty.zero .opti⟩
instance:Inhabited Pack:=⟨Ty.zero .pack⟩
instance:Inhabited Piec:=⟨Ty.zero .piec⟩
instance:Inhabited Recv:=⟨Ty.zero .recv⟩
instance:Inhabited RecvR:=⟨Ty.zero .recvR⟩
instance:Inhabited Resu:=⟨Ty.zero .resu⟩
instance:Inhabited Segm:=⟨Ty.zero .segm⟩
instance:Inhabited Sipr:=⟨Ty.zero .sipr⟩
instance:Inhabited Sndr:=⟨Ty.zero .sndr⟩
instance:Inhabited Stac:=⟨Ty.zero .stac⟩
instance:Inhabited Tabl:=⟨Ty.zero .tabl⟩
instance:Inhabited Tupl:=⟨Ty.zero .tupl⟩
end Go.Proofs.YtffjmkhjhchnmaaGreat
