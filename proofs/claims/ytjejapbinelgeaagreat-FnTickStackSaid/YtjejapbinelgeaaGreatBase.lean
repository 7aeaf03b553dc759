/- The table of types of this seat, and its closed facts. -/
import Derived.Test.YtjejapbinelgeaaGreatPure
import Derived.Test.YtjejapbinelgeaaGreatRows
import Derived.KernelRfl
set_option linter.unusedVariables false
set_option linter.unusedSimpArgs false
namespace Go.Proofs.YtjejapbinelgeaaGreat
open Go Go.RowKit
def te:TE:=[
 (2,.sc (.int .i64)),
 (3,.sc (.int .i64)),
 (4,.sc .bool),
 (5,.sc (.int .u8)),
 (6,.sc (.int .u8)),
 (9,.sc .str),
 (10,.sc .str),
 (11,.sc .str),
 (12,.sc (.int .u64)),
 (21,.sc (.int .i32)),
 (22,.sl .u8 1),
 (24,.sc (.int .u64)),
 (25,.sl .macRow 24),
 (27,.st .mac [(0,4),(1,24),(2,24),(3,25)]),
 (29,.st .keys [(0,3),(1,27),(5,27),(9,4)]),
 (31,.st .limi [(0,3),(1,3),(2,3),(3,3)]),
 (32,.sl .half 96),
 (33,.sl .conn 208),
 (34,.sl .tupl 24),
 (36,.st .tabl [(0,33),(1,34)]),
 (38,.st .door [(0,3),(1,3),(2,29),(12,31),(16,32),(17,36),(19,3)]),
 (40,.st .tupl [(0,3),(1,3),(2,3)]),
 (42,.st .opti [(0,3),(1,3),(2,4),(3,4),(4,3),(5,3)]),
 (44,.st .segm [(0,3),(1,3),(2,3),(3,3),(4,3),(5,3),(6,42),(12,9)]),
 (47,.sl .segm 104),
 (55,.st .half [(0,40),(3,3),(4,3),(5,42),(11,3),(12,3)]),
 (66,.sl .entr 24),
 (68,.st .link [(0,3),(1,3),(2,66)]),
 (70,.st .stac [(0,68),(3,38)]),
 (72,.sl .str 16),
 (81,.st .sndr [(0,3),(1,9),(2,3),(3,4),(4,4),(5,4)]),
 (82,.sl .piec 24),
 (84,.st .recv [(0,3),(1,9),(2,82),(3,3),(4,4)]),
 (86,.st .conn [(0,40),(3,3),(4,81),(10,84),(15,3),(16,3),(17,42),(23,3),(24,3)]),
 (89,.ptr),
 (131,.st .piec [(0,3),(1,9)]),
 (136,.sl .mail 112),
 (140,.st .mail [(0,3),(1,44)]),
 (158,.st .curs [(0,22),(1,3),(2,3)]),
 (162,.sl .i64 8),
 (180,.sc (.int .u64)),
 (194,.st .entr [(0,3),(1,3),(2,3)]),
 (206,.st .macRow [(0,9),(1,3)]),
 (220,.st .chun [(0,3),(1,9),(2,4)]),
 (243,.st .pack [(0,3),(1,3),(2,3),(3,3),(4,3),(5,9)]),
 (246,.st .fram [(0,3),(1,3),(2,3),(3,9)]),
 (255,.sl .bool 1),
 (259,.st .sipr [(0,24),(1,24),(2,24),(3,24)]),
 (278,.sc (.int .u32)),
 (302,.sc (.int .u8)),
 (303,.sc (.int .u8)),
 (305,.ptr),
 (306,.sc (.int .i32)),
 (307,.sc (.int .i32)),
 (1000045,.wr [true,false]),
 (1000046,.wr [true,false,false]),
 (1000077,.wr [false,true]),
 (1000079,.wr [true,true]),
 (1000081,.wr [false,true]),
 (1000098,.wr [true]),
 (1000118,.wr [true]),
 (1000119,.wr [true]),
 (1000120,.wr [true,false]),
 (1000121,.wr [true]),
 (1000122,.wr [true]),
 (1000123,.wr [true]),
 (1000126,.wr [true,false]),
 (1000128,.wr [true,false]),
 (1000129,.wr [true,false]),
 (1000149,.wr [true,false,false]),
 (1000169,.wr [true,false]),
 (1000170,.wr [true]),
 (1000177,.wr [true]),
 (1000178,.wr [true]),
 (1000204,.wr [true]),
 (1000205,.wr [true]),
 (1000206,.wr [true]),
 (1000207,.wr [true]),
 (1000208,.wr [true]),
 (1000209,.wr [true]),
 (1000210,.wr [true]),
 (1000211,.wr [true]),
 (1000212,.wr [true]),
 (1000214,.wr [true]),
 (1000217,.wr [true]),
 (1000238,.wr [false,true]),
 (1000243,.wr [true,false]),
 (1000246,.wr [true]),
 (1000248,.wr [true]),
 (1000249,.wr [true]),
 (1000253,.wr [true,true]),
 (1000256,.wr [true,true]),
 (1000278,.wr [true]),
 (1000279,.wr [true]),
 (1000280,.wr [true]),
 (1000281,.wr [true]),
 (1000282,.wr [true]),
 (1000283,.wr [true]),
 (1000284,.wr [true]),
 (1000285,.wr [true,false]),
 (1000286,.wr [true]),
 (1000287,.wr [true]),
 (1000304,.wr [false,true]),
 (1000309,.wr [true,true]),
 (1000319,.wr [true]),
 (1000321,.wr [true]),
 (1000322,.wr [true]),
 (1000324,.wr [true]),
 (1000325,.wr [true]),
 (1000336,.wr [true,false]),
 (1000340,.wr [true]),
 (1000341,.wr [true]),
 (1000355,.wr [true]),
 (1000356,.wr [true]),
 (1000357,.wr [true]),
 (1000358,.wr [true]),
 (1000359,.wr [true]),
 (4000032,.wr []),
 (4000033,.wr []),
 (4000034,.wr [])]
theorem teFact:teOk te Tryz.prog=true:=by kernel_rfl
theorem flFact:flOk te Tryz.prog=true:=by kernel_rfl
theorem loFact:laidOutB Tryz.prog=true:=by kernel_rfl
theorem ownFact:ownKnob Tryz.prog.godebug=none:=by kernel_rfl
theorem mixFact:Tryz.prog.follows .mixedOrders=true:=by kernel_rfl
def st:Seat Tryz.prog:=⟨te,teFact,mixFact⟩
def q_chun (x:Chun):List RC:=[.c (.int .i64 x.seq),.c (.str x.text),.c (.bool x.fin)]
def q_conn (o0:Ow)(x:Conn):List RC:=[.c (.int .i64 x.tuple.ip),.c (.int .i64 x.tuple.port),.c (.int .i64 x.tuple.my),.c (.int .i64 x.state),.c (.int .i64 x.s.una),.c (.str x.s.data),.c (.int .i64 x.s.sent),.c (.bool x.s.fin),.c (.bool x.s.finSent),.c (.bool x.s.done),.c (.int .i64 x.r.next),.c (.str x.r.data),sc o0 .piec x.r.held,.c (.int .i64 x.r.fin),.c (.bool x.r.done),.c (.int .i64 x.window),.c (.int .i64 x.most),.c (.int .i64 x.opts.mss),.c (.int .i64 x.opts.scale),.c (.bool x.opts.sack),.c (.bool x.opts.stamp),.c (.int .i64 x.opts.val),.c (.int .i64 x.opts.echo),.c (.int .i64 x.timer),.c (.int .i64 x.tries)]
def q_curs (o0:Ow)(x:Curs):List RC:=[sc o0 .u8 x.b,.c (.int .i64 x.i),.c (.int .i64 x.h)]
def q_door (o0 o1 o2 o3 o4:Ow)(x:Door):List RC:=[.c (.int .i64 x.port),.c (.int .i64 x.clock),.c (.int .i64 x.keys.epoch),.c (.bool x.keys.now.use),.c (.int .u64 x.keys.now.k),.c (.int .u64 x.keys.now.l),sc o0 .macRow x.keys.now.rows,.c (.bool x.keys.before.use),.c (.int .u64 x.keys.before.k),.c (.int .u64 x.keys.before.l),sc o1 .macRow x.keys.before.rows,.c (.bool x.keys.two),.c (.int .i64 x.limits.halves),.c (.int .i64 x.limits.waiting),.c (.int .i64 x.limits.conns),.c (.int .i64 x.limits.chal),sc o2 .half x.halves,sc o3 .conn x.table.conns,sc o4 .tupl x.table.waiting,.c (.int .i64 x.chal)]
def q_entr (x:Entr):List RC:=[.c (.int .i64 x.ip),.c (.int .i64 x.hw),.c (.int .i64 x.age)]
def q_fram (x:Fram):List RC:=[.c (.int .i64 x.dst),.c (.int .i64 x.src),.c (.int .i64 x.type),.c (.str x.body)]
def q_half (x:Half):List RC:=[.c (.int .i64 x.tuple.ip),.c (.int .i64 x.tuple.port),.c (.int .i64 x.tuple.my),.c (.int .i64 x.iss),.c (.int .i64 x.irs),.c (.int .i64 x.opts.mss),.c (.int .i64 x.opts.scale),.c (.bool x.opts.sack),.c (.bool x.opts.stamp),.c (.int .i64 x.opts.val),.c (.int .i64 x.opts.echo),.c (.int .i64 x.age),.c (.int .i64 x.window)]
def q_keys (o0 o1:Ow)(x:Keys):List RC:=[.c (.int .i64 x.epoch),.c (.bool x.now.use),.c (.int .u64 x.now.k),.c (.int .u64 x.now.l),sc o0 .macRow x.now.rows,.c (.bool x.before.use),.c (.int .u64 x.before.k),.c (.int .u64 x.before.l),sc o1 .macRow x.before.rows,.c (.bool x.two)]
def q_limi (x:Limi):List RC:=[.c (.int .i64 x.halves),.c (.int .i64 x.waiting),.c (.int .i64 x.conns),.c (.int .i64 x.chal)]
def q_link (o0:Ow)(x:Link):List RC:=[.c (.int .i64 x.mac),.c (.int .i64 x.ip),sc o0 .entr x.cache]
def q_mac (o0:Ow)(x:Mac):List RC:=[.c (.bool x.use),.c (.int .u64 x.k),.c (.int .u64 x.l),sc o0 .macRow x.rows]
def q_macRow (x:MacRow):List RC:=[.c (.str x.input),.c (.int .i64 x.value)]
def q_mail (x:Mail):List RC:=[.c (.int .i64 x.ip),.c (.int .i64 x.g.from_),.c (.int .i64 x.g.to),.c (.int .i64 x.g.seq),.c (.int .i64 x.g.ack),.c (.int .i64 x.g.flags),.c (.int .i64 x.g.window),.c (.int .i64 x.g.opts.mss),.c (.int .i64 x.g.opts.scale),.c (.bool x.g.opts.sack),.c (.bool x.g.opts.stamp),.c (.int .i64 x.g.opts.val),.c (.int .i64 x.g.opts.echo),.c (.str x.g.body)]
def q_opti (x:Opti):List RC:=[.c (.int .i64 x.mss),.c (.int .i64 x.scale),.c (.bool x.sack),.c (.bool x.stamp),.c (.int .i64 x.val),.c (.int .i64 x.echo)]
def q_pack (x:Pack):List RC:=[.c (.int .i64 x.src),.c (.int .i64 x.dst),.c (.int .i64 x.ttl),.c (.int .i64 x.proto),.c (.int .i64 x.id),.c (.str x.body)]
def q_piec (x:Piec):List RC:=[.c (.int .i64 x.off),.c (.str x.text)]
def q_recv (o0:Ow)(x:Recv):List RC:=[.c (.int .i64 x.next),.c (.str x.data),sc o0 .piec x.held,.c (.int .i64 x.fin),.c (.bool x.done)]
def q_segm (x:Segm):List RC:=[.c (.int .i64 x.from_),.c (.int .i64 x.to),.c (.int .i64 x.seq),.c (.int .i64 x.ack),.c (.int .i64 x.flags),.c (.int .i64 x.window),.c (.int .i64 x.opts.mss),.c (.int .i64 x.opts.scale),.c (.bool x.opts.sack),.c (.bool x.opts.stamp),.c (.int .i64 x.opts.val),.c (.int .i64 x.opts.echo),.c (.str x.body)]
def q_sipr (x:Sipr):List RC:=[.c (.int .u64 x.a),.c (.int .u64 x.b),.c (.int .u64 x.c),.c (.int .u64 x.d)]
def q_sndr (x:Sndr):List RC:=[.c (.int .i64 x.una),.c (.str x.data),.c (.int .i64 x.sent),.c (.bool x.fin),.c (.bool x.finSent),.c (.bool x.done)]
def q_stac (o0 o1 o2 o3 o4 o5:Ow)(x:Stac):List RC:=[.c (.int .i64 x.link.mac),.c (.int .i64 x.link.ip),sc o0 .entr x.link.cache,.c (.int .i64 x.door.port),.c (.int .i64 x.door.clock),.c (.int .i64 x.door.keys.epoch),.c (.bool x.door.keys.now.use),.c (.int .u64 x.door.keys.now.k),.c (.int .u64 x.door.keys.now.l),sc o1 .macRow x.door.keys.now.rows,.c (.bool x.door.keys.before.use),.c (.int .u64 x.door.keys.before.k),.c (.int .u64 x.door.keys.before.l),sc o2 .macRow x.door.keys.before.rows,.c (.bool x.door.keys.two),.c (.int .i64 x.door.limits.halves),.c (.int .i64 x.door.limits.waiting),.c (.int .i64 x.door.limits.conns),.c (.int .i64 x.door.limits.chal),sc o3 .half x.door.halves,sc o4 .conn x.door.table.conns,sc o5 .tupl x.door.table.waiting,.c (.int .i64 x.door.chal)]
def q_tabl (o0 o1:Ow)(x:Tabl):List RC:=[sc o0 .conn x.conns,sc o1 .tupl x.waiting]
def q_tupl (x:Tupl):List RC:=[.c (.int .i64 x.ip),.c (.int .i64 x.port),.c (.int .i64 x.my)]
@[grind] def sm_chun (x:Chun):Prop:=x.text.length≤4294967296
@[grind! .] theorem sm_chun_at {xs:List Chun} (h:smE sm_chun xs) (i:Nat):sm_chun (xs.getD i (Ty.zero .chun)):=smE_getD h (by unfold sm_chun;(repeat' apply And.intro);all_goals first|exact fun _ h=>absurd h (List.not_mem_nil)|decide+kernel) i
@[grind=] theorem sm_chun_tag (xs:List Chun) (i:Nat):xs.getD i (Ty.zero .chun)=tagP (xs.getD i (Ty.zero .chun)) (sm_chun (xs.getD i (Ty.zero .chun))):=rfl
@[grind] def sm_piec (x:Piec):Prop:=x.text.length≤4294967296
@[grind! .] theorem sm_piec_at {xs:List Piec} (h:smE sm_piec xs) (i:Nat):sm_piec (xs.getD i (Ty.zero .piec)):=smE_getD h (by unfold sm_piec;(repeat' apply And.intro);all_goals first|exact fun _ h=>absurd h (List.not_mem_nil)|decide+kernel) i
@[grind=] theorem sm_piec_tag (xs:List Piec) (i:Nat):xs.getD i (Ty.zero .piec)=tagP (xs.getD i (Ty.zero .piec)) (sm_piec (xs.getD i (Ty.zero .piec))):=rfl
@[grind] def sm_conn (x:Conn):Prop:=x.s.data.length≤4294967296∧x.r.data.length≤4294967296∧x.r.held.length≤4294967296∧smE sm_piec x.r.held
@[grind! .] theorem sm_conn_at {xs:List Conn} (h:smE sm_conn xs) (i:Nat):sm_conn (xs.getD i (Ty.zero .conn)):=smE_getD h (by unfold sm_conn;(repeat' apply And.intro);all_goals first|exact fun _ h=>absurd h (List.not_mem_nil)|decide+kernel) i
@[grind=] theorem sm_conn_tag (xs:List Conn) (i:Nat):xs.getD i (Ty.zero .conn)=tagP (xs.getD i (Ty.zero .conn)) (sm_conn (xs.getD i (Ty.zero .conn))):=rfl
@[grind] def sm_curs (x:Curs):Prop:=0≤x.i∧x.b.length≤1048576
@[grind] def sm_macRow (x:MacRow):Prop:=x.input.length≤4294967296
@[grind! .] theorem sm_macRow_at {xs:List MacRow} (h:smE sm_macRow xs) (i:Nat):sm_macRow (xs.getD i (Ty.zero .macRow)):=smE_getD h (by unfold sm_macRow;(repeat' apply And.intro);all_goals first|exact fun _ h=>absurd h (List.not_mem_nil)|decide+kernel) i
@[grind=] theorem sm_macRow_tag (xs:List MacRow) (i:Nat):xs.getD i (Ty.zero .macRow)=tagP (xs.getD i (Ty.zero .macRow)) (sm_macRow (xs.getD i (Ty.zero .macRow))):=rfl
@[grind] def sm_door (x:Door):Prop:=x.keys.now.rows.length≤4294967296∧smE sm_macRow x.keys.now.rows∧x.keys.before.rows.length≤4294967296∧smE sm_macRow x.keys.before.rows∧x.halves.length≤4294967296∧x.table.conns.length≤4294967296∧smE sm_conn x.table.conns∧x.table.waiting.length≤4294967296
@[grind! .] theorem sm_door_at {xs:List Door} (h:smE sm_door xs) (i:Nat):sm_door (xs.getD i (Ty.zero .door)):=smE_getD h (by unfold sm_door;(repeat' apply And.intro);all_goals first|exact fun _ h=>absurd h (List.not_mem_nil)|decide+kernel) i
@[grind=] theorem sm_door_tag (xs:List Door) (i:Nat):xs.getD i (Ty.zero .door)=tagP (xs.getD i (Ty.zero .door)) (sm_door (xs.getD i (Ty.zero .door))):=rfl
@[grind] def sm_fram (x:Fram):Prop:=x.body.length≤4294967296
@[grind! .] theorem sm_fram_at {xs:List Fram} (h:smE sm_fram xs) (i:Nat):sm_fram (xs.getD i (Ty.zero .fram)):=smE_getD h (by unfold sm_fram;(repeat' apply And.intro);all_goals first|exact fun _ h=>absurd h (List.not_mem_nil)|decide+kernel) i
@[grind=] theorem sm_fram_tag (xs:List Fram) (i:Nat):xs.getD i (Ty.zero .fram)=tagP (xs.getD i (Ty.zero .fram)) (sm_fram (xs.getD i (Ty.zero .fram))):=rfl
@[grind] def sm_keys (x:Keys):Prop:=x.now.rows.length≤4294967296∧smE sm_macRow x.now.rows∧x.before.rows.length≤4294967296∧smE sm_macRow x.before.rows
@[grind! .] theorem sm_keys_at {xs:List Keys} (h:smE sm_keys xs) (i:Nat):sm_keys (xs.getD i (Ty.zero .keys)):=smE_getD h (by unfold sm_keys;(repeat' apply And.intro);all_goals first|exact fun _ h=>absurd h (List.not_mem_nil)|decide+kernel) i
@[grind=] theorem sm_keys_tag (xs:List Keys) (i:Nat):xs.getD i (Ty.zero .keys)=tagP (xs.getD i (Ty.zero .keys)) (sm_keys (xs.getD i (Ty.zero .keys))):=rfl
@[grind] def sm_link (x:Link):Prop:=x.cache.length≤4294967296
@[grind! .] theorem sm_link_at {xs:List Link} (h:smE sm_link xs) (i:Nat):sm_link (xs.getD i (Ty.zero .link)):=smE_getD h (by unfold sm_link;(repeat' apply And.intro);all_goals first|exact fun _ h=>absurd h (List.not_mem_nil)|decide+kernel) i
@[grind=] theorem sm_link_tag (xs:List Link) (i:Nat):xs.getD i (Ty.zero .link)=tagP (xs.getD i (Ty.zero .link)) (sm_link (xs.getD i (Ty.zero .link))):=rfl
@[grind] def sm_mac (x:Mac):Prop:=x.rows.length≤4294967296∧smE sm_macRow x.rows
@[grind! .] theorem sm_mac_at {xs:List Mac} (h:smE sm_mac xs) (i:Nat):sm_mac (xs.getD i (Ty.zero .mac)):=smE_getD h (by unfold sm_mac;(repeat' apply And.intro);all_goals first|exact fun _ h=>absurd h (List.not_mem_nil)|decide+kernel) i
@[grind=] theorem sm_mac_tag (xs:List Mac) (i:Nat):xs.getD i (Ty.zero .mac)=tagP (xs.getD i (Ty.zero .mac)) (sm_mac (xs.getD i (Ty.zero .mac))):=rfl
@[grind] def sm_mail (x:Mail):Prop:=x.g.body.length≤4294967296
@[grind! .] theorem sm_mail_at {xs:List Mail} (h:smE sm_mail xs) (i:Nat):sm_mail (xs.getD i (Ty.zero .mail)):=smE_getD h (by unfold sm_mail;(repeat' apply And.intro);all_goals first|exact fun _ h=>absurd h (List.not_mem_nil)|decide+kernel) i
@[grind=] theorem sm_mail_tag (xs:List Mail) (i:Nat):xs.getD i (Ty.zero .mail)=tagP (xs.getD i (Ty.zero .mail)) (sm_mail (xs.getD i (Ty.zero .mail))):=rfl
@[grind] def sm_pack (x:Pack):Prop:=x.body.length≤4294967296
@[grind! .] theorem sm_pack_at {xs:List Pack} (h:smE sm_pack xs) (i:Nat):sm_pack (xs.getD i (Ty.zero .pack)):=smE_getD h (by unfold sm_pack;(repeat' apply And.intro);all_goals first|exact fun _ h=>absurd h (List.not_mem_nil)|decide+kernel) i
@[grind=] theorem sm_pack_tag (xs:List Pack) (i:Nat):xs.getD i (Ty.zero .pack)=tagP (xs.getD i (Ty.zero .pack)) (sm_pack (xs.getD i (Ty.zero .pack))):=rfl
@[grind] def sm_recv (x:Recv):Prop:=x.data.length≤4294967296∧x.held.length≤4294967296∧smE sm_piec x.held
@[grind! .] theorem sm_recv_at {xs:List Recv} (h:smE sm_recv xs) (i:Nat):sm_recv (xs.getD i (Ty.zero .recv)):=smE_getD h (by unfold sm_recv;(repeat' apply And.intro);all_goals first|exact fun _ h=>absurd h (List.not_mem_nil)|decide+kernel) i
@[grind=] theorem sm_recv_tag (xs:List Recv) (i:Nat):xs.getD i (Ty.zero .recv)=tagP (xs.getD i (Ty.zero .recv)) (sm_recv (xs.getD i (Ty.zero .recv))):=rfl
@[grind] def sm_segm (x:Segm):Prop:=x.body.length≤4294967296
@[grind! .] theorem sm_segm_at {xs:List Segm} (h:smE sm_segm xs) (i:Nat):sm_segm (xs.getD i (Ty.zero .segm)):=smE_getD h (by unfold sm_segm;(repeat' apply And.intro);all_goals first|exact fun _ h=>absurd h (List.not_mem_nil)|decide+kernel) i
@[grind=] theorem sm_segm_tag (xs:List Segm) (i:Nat):xs.getD i (Ty.zero .segm)=tagP (xs.getD i (Ty.zero .segm)) (sm_segm (xs.getD i (Ty.zero .segm))):=rfl
@[grind] def sm_sndr (x:Sndr):Prop:=x.data.length≤4294967296
@[grind! .] theorem sm_sndr_at {xs:List Sndr} (h:smE sm_sndr xs) (i:Nat):sm_sndr (xs.getD i (Ty.zero .sndr)):=smE_getD h (by unfold sm_sndr;(repeat' apply And.intro);all_goals first|exact fun _ h=>absurd h (List.not_mem_nil)|decide+kernel) i
@[grind=] theorem sm_sndr_tag (xs:List Sndr) (i:Nat):xs.getD i (Ty.zero .sndr)=tagP (xs.getD i (Ty.zero .sndr)) (sm_sndr (xs.getD i (Ty.zero .sndr))):=rfl
@[grind] def sm_stac (x:Stac):Prop:=x.link.cache.length≤4294967296∧x.door.keys.now.rows.length≤4294967296∧smE sm_macRow x.door.keys.now.rows∧x.door.keys.before.rows.length≤4294967296∧smE sm_macRow x.door.keys.before.rows∧x.door.halves.length≤4294967296∧x.door.table.conns.length≤4294967296∧smE sm_conn x.door.table.conns∧x.door.table.waiting.length≤4294967296
@[grind! .] theorem sm_stac_at {xs:List Stac} (h:smE sm_stac xs) (i:Nat):sm_stac (xs.getD i (Ty.zero .stac)):=smE_getD h (by unfold sm_stac;(repeat' apply And.intro);all_goals first|exact fun _ h=>absurd h (List.not_mem_nil)|decide+kernel) i
@[grind=] theorem sm_stac_tag (xs:List Stac) (i:Nat):xs.getD i (Ty.zero .stac)=tagP (xs.getD i (Ty.zero .stac)) (sm_stac (xs.getD i (Ty.zero .stac))):=rfl
@[grind] def sm_tabl (x:Tabl):Prop:=x.conns.length≤4294967296∧smE sm_conn x.conns∧x.waiting.length≤4294967296
@[grind! .] theorem sm_tabl_at {xs:List Tabl} (h:smE sm_tabl xs) (i:Nat):sm_tabl (xs.getD i (Ty.zero .tabl)):=smE_getD h (by unfold sm_tabl;(repeat' apply And.intro);all_goals first|exact fun _ h=>absurd h (List.not_mem_nil)|decide+kernel) i
@[grind=] theorem sm_tabl_tag (xs:List Tabl) (i:Nat):xs.getD i (Ty.zero .tabl)=tagP (xs.getD i (Ty.zero .tabl)) (sm_tabl (xs.getD i (Ty.zero .tabl))):=rfl
@[grind] def SO (s:Sndr):Prop:=0≤s.una∧s.una≤4294967295∧s.data.length≤48∧0≤s.sent∧s.sent≤s.data.length∧(s.finSent=true→s.fin=true∧s.sent=s.data.length)∧(s.done=true→s.fin=true∧s.finSent=false∧s.data=[])
@[grind] def sgm (s:Sndr):Nat:=((s.data.length:Int)-s.sent).toNat+if s.finSent=true then 0 else 1
@[grind] def po (y:Piec):Prop:=1≤y.off∧y.off+(y.text.length:Int)≤32
@[grind] def RO (r:Recv):Prop:=0≤r.next∧r.next≤4294967295∧r.data.length≤32∧r.held.length≤3∧smE po r.held
@[grind] def pl (n:Int) (y:Piec):Prop:=(y.text.length:Int)≤n
theorem pl_up {n:Int}{xs:List Piec}(h:smE (pl n) xs):smE (pl (n+1)) xs:=fun y hy=>by have:=h y hy;simp only[pl]at*;omega
theorem pl_get {n:Int}{xs:List Piec}(h:smE (pl n) xs)(hn:0≤n)(i:Nat):((xs.getD i (Ty.zero .piec)).text.length:Int)≤n:=smE_getD (p:=pl n) h (by have h0:(Ty.zero Ty.piec).text.length=0:=(by decide+kernel);simp only[pl];omega) i
theorem pl_sm {n:Int}{xs:List Piec}(h:smE (pl n) xs)(hn:n≤4294967296):smE sm_piec xs:=fun y hy=>by have:=h y hy;simp only[pl,sm_piec]at*;omega
theorem pl_set {n:Int}{xs:List Piec}{y:Piec}{i:Nat}(h:smE (pl n) xs)(hy:pl n y):smE (pl n) (xs.set i y):=fun z hz=>by
 rcases List.mem_or_eq_of_mem_set hz with h1|h1
 ·exact h z h1
 ·rw[h1];exact hy
theorem pl_snoc {n:Int}{xs:List Piec}{y:Piec}(h:smE (pl n) xs)(hy:pl n y):smE (pl n) (xs++[y]):=fun z hz=>by
 rcases List.mem_append.1 hz with h1|h1
 ·exact h z h1
 ·rw[List.mem_singleton.1 h1];exact hy
theorem smE_all {α:Type}{p:α→Prop}{xs:List α}{n:Int}(h:smE p (xs.take n.toNat))(hn:(xs.length:Int)≤n):smE p xs:=by rwa [List.take_of_length_le (by omega)]at h
theorem smE_next {α:Type}{p:α→Prop}{xs:List α}{n:Int}{d:α}(h:smE p (xs.take n.toNat))(h0:0≤n)(hn:n<xs.length)(hx:p (xs.getD n.toNat d)):smE p (xs.take (n+1).toNat):=by
 rw[show(n+1).toNat=n.toNat+1 by omega,List.take_succ_eq_append_getElem (by omega)]
 intro y hy
 rcases List.mem_append.1 hy with hy|hy
 ·exact h y hy
 ·rw[List.mem_singleton]at hy
  subst hy
  rwa [show xs.getD n.toNat d=xs[n.toNat] by simp[List.getD,show n.toNat<xs.length by omega]]at hx
theorem po_next {xs:List Piec}{n:Int}(h:smE po (xs.take n.toNat))(h0:0≤n)(hn:n<xs.length)(hx:po (xs.getD n.toNat (Ty.zero .piec))):smE po (xs.take (n+1).toNat):=smE_next h h0 hn hx
theorem po_all {xs:List Piec}{n:Int}(h:smE po (xs.take n.toNat))(hn:(xs.length:Int)≤n):smE po xs:=smE_all h hn
@[grind] def winR (r:Recv):Int:=if r.done=true then 0 else 32-(r.data.length:Int)
@[grind] def pw (n:Int) (y:Piec):Prop:=1≤y.off∧y.off+(y.text.length:Int)≤n
theorem pw_next {xs:List Piec}{n L:Int}(h:smE (pw L) (xs.take n.toNat))(h0:0≤n)(hn:n<xs.length)(hx:pw L (xs.getD n.toNat (Ty.zero .piec))):smE (pw L) (xs.take (n+1).toNat):=smE_next h h0 hn hx
theorem pw_all {xs:List Piec}{n L:Int}(h:smE (pw L) (xs.take n.toNat))(hn:(xs.length:Int)≤n):smE (pw L) xs:=smE_all h hn
theorem pw_le {xs:List Piec}{L M:Int}(h:smE (pw L) xs)(hl:L≤M):smE (pw M) xs:=fun y hy=>by have:=h y hy;unfold pw at*;omega
theorem pw_po {xs:List Piec}{L:Int}(h:smE (pw L) xs)(hl:L≤32):smE po xs:=fun y hy=>by have:=h y hy;unfold pw at this;unfold po;omega
theorem pw_at {xs:List Piec}{L:Int}{i:Nat}(h:smE (pw L) xs)(hi:i<xs.length):pw L (xs.getD i (Ty.zero .piec)):=h _ (by rw[List.getD,List.getElem?_eq_getElem hi];exact List.getElem_mem hi)
theorem po_at {xs:List Piec}{i:Nat}(h:smE po xs)(hi:i<xs.length):po (xs.getD i (Ty.zero .piec)):=h _ (by rw[List.getD,List.getElem?_eq_getElem hi];exact List.getElem_mem hi)
instance:Inhabited Chun:=⟨Ty.zero .chun⟩
instance:Inhabited Conn:=⟨Ty.zero .conn⟩
instance:Inhabited Curs:=⟨Ty.zero .curs⟩
instance:Inhabited Door:=⟨Ty.zero .door⟩
instance:Inhabited Entr:=⟨Ty.zero .entr⟩
instance:Inhabited Fram:=⟨Ty.zero .fram⟩
instance:Inhabited Half:=⟨Ty.zero .half⟩
instance:Inhabited Keys:=⟨Ty.zero .keys⟩
instance:Inhabited Limi:=⟨Ty.zero .limi⟩
instance:Inhabited Link:=⟨Ty.zero .link⟩
instance:Inhabited Mac:=⟨Ty.zero .mac⟩
instance:Inhabited MacRow:=⟨Ty.zero .macRow⟩
instance:Inhabited Mail:=⟨Ty.zero .mail⟩
instance:Inhabited Opti:=⟨Ty.zero .opti⟩
instance:Inhabited Pack:=⟨Ty.zero .pack⟩
instance:Inhabited Piec:=⟨Ty.zero .piec⟩
instance:Inhabited Recv:=⟨Ty.zero .recv⟩
instance:Inhabited Segm:=⟨Ty.zero .segm⟩
instance:Inhabited Sipr:=⟨Ty.zero .sipr⟩
instance:Inhabited Sndr:=⟨Ty.zero .sndr⟩
instance:Inhabited Stac:=⟨Ty.zero .stac⟩
instance:Inhabited Tabl:=⟨Ty.zero .tabl⟩
instance:Inhabited Tupl:=⟨Ty.zero .tupl⟩
end Go.Proofs.YtjejapbinelgeaaGreat
