/- The table of types of this seat, and its closed facts. -/
import Derived.Test.YtfpdenjmlnhnnaaGreatDoorPure
import Derived.Test.YtfpdenjmlnhnnaaGreatDoorRows
import Derived.KernelRfl
import Derived.Test.YtfpdenjmlnhnnaaGreatDoorShelf
set_option linter.unusedVariables false
set_option linter.unusedSimpArgs false
namespace Go.Proofs.YtfpdenjmlnhnnaaGreatDoor
open Go Go.RowKit
def te:TE:=[
 (2,.sc (.int .i64)),
 (3,.sc (.int .i64)),
 (4,.sc .bool),
 (5,.sc (.int .u8)),
 (6,.sc (.int .u8)),
 (9,.sc .str),
 (10,.sc .str),
 (11,.sc .str),
 (12,.sc (.int .u64)),
 (21,.sc (.int .i32)),
 (22,.sl .u8 1),
 (25,.st .tupl [(0,3),(1,3),(2,3)]),
 (26,.sc (.int .u64)),
 (27,.sl .macRow 24),
 (29,.st .mac [(0,4),(1,26),(2,26),(3,27)]),
 (31,.st .acti [(0,3),(1,25),(4,3),(5,9),(6,29)]),
 (42,.sl .acti 104),
 (47,.ptr),
 (51,.sl .entr 24),
 (53,.st .link [(0,3),(1,3),(2,51)]),
 (55,.st .keys [(0,3),(1,29),(5,29),(9,4)]),
 (57,.st .limi [(0,3),(1,3),(2,3),(3,3)]),
 (58,.sl .half 96),
 (59,.sl .conn 208),
 (60,.sl .tupl 24),
 (62,.st .tabl [(0,59),(1,60)]),
 (64,.st .door [(0,3),(1,3),(2,55),(12,57),(16,58),(17,62),(19,3)]),
 (66,.st .stac [(0,53),(3,64)]),
 (72,.sl .str 16),
 (74,.sl .i64 8),
 (89,.st .curs [(0,22),(1,3),(2,3)]),
 (98,.sc (.int .u64)),
 (105,.st .sndr [(0,3),(1,9),(2,3),(3,4),(4,4),(5,4)]),
 (106,.sl .piec 24),
 (108,.st .recv [(0,3),(1,9),(2,106),(3,3),(4,4)]),
 (110,.st .opti [(0,3),(1,3),(2,4),(3,4),(4,3),(5,3)]),
 (112,.st .conn [(0,25),(3,3),(4,105),(10,108),(15,3),(16,3),(17,110),(23,3),(24,3)]),
 (117,.st .macRow [(0,9),(1,3)]),
 (134,.st .segm [(0,3),(1,3),(2,3),(3,3),(4,3),(5,3),(6,110),(12,9)]),
 (137,.st .half [(0,25),(3,3),(4,3),(5,110),(11,3),(12,3)]),
 (145,.st .pack [(0,3),(1,3),(2,3),(3,3),(4,3),(5,9)]),
 (149,.st .fram [(0,3),(1,3),(2,3),(3,9)]),
 (152,.ptr),
 (154,.st .arpm [(0,3),(1,3),(2,3),(3,3),(4,3)]),
 (188,.sc (.int .u32)),
 (199,.st .sipr [(0,26),(1,26),(2,26),(3,26)]),
 (211,.sc (.int .u8)),
 (212,.sc (.int .u8)),
 (214,.sc (.int .i32)),
 (215,.sc (.int .i32)),
 (219,.st .entr [(0,3),(1,3),(2,3)]),
 (221,.st .piec [(0,3),(1,9)]),
 (1000023,.wr [true,false]),
 (1000024,.wr [true,false]),
 (1000025,.wr [true]),
 (1000041,.wr [true,false,false]),
 (1000048,.wr [true]),
 (1000053,.wr [true]),
 (1000056,.wr [true,false]),
 (1000057,.wr [true,false]),
 (1000058,.wr [true,false]),
 (1000059,.wr [true]),
 (1000060,.wr [true]),
 (1000061,.wr [true]),
 (1000062,.wr [true,false]),
 (1000075,.wr [true,false]),
 (1000079,.wr [true]),
 (1000082,.wr [true]),
 (1000083,.wr [true,false]),
 (1000085,.wr [true]),
 (1000086,.wr [true]),
 (1000087,.wr [false,true]),
 (1000093,.wr [true]),
 (1000094,.wr [true,false]),
 (1000095,.wr [true,false]),
 (1000096,.wr [true]),
 (1000097,.wr [true]),
 (1000098,.wr [true]),
 (1000100,.wr [true,false,false]),
 (1000102,.wr [true,false]),
 (1000106,.wr [true,false]),
 (1000107,.wr [false,true]),
 (1000110,.wr [true]),
 (1000111,.wr [true,false]),
 (1000112,.wr [true]),
 (1000114,.wr [true]),
 (1000115,.wr [true]),
 (1000116,.wr [true]),
 (1000117,.wr [true]),
 (1000123,.wr [true,false]),
 (1000124,.wr [true,false]),
 (1000126,.wr [true]),
 (1000133,.wr [true,false]),
 (1000141,.wr [true]),
 (1000148,.wr [true]),
 (1000177,.wr [true]),
 (1000178,.wr [true]),
 (1000179,.wr [true]),
 (1000180,.wr [true]),
 (1000181,.wr [true]),
 (1000184,.wr [true])]
theorem xM:dP te Tryz.prog=true:=by kernel_rfl
theorem A6:DH te Tryz.prog=true:=by kernel_rfl
theorem BE:laidOutB Tryz.prog=true:=by kernel_rfl
theorem zq:ownKnob Tryz.prog.godebug=none:=by kernel_rfl
theorem BU:Tryz.prog.follows .mixedOrders=true:=by kernel_rfl
def st:Seat Tryz.prog:=⟨te,xM,BU⟩
def oC (o0:Ow)(x:Acti):List RC:=[.c (.int .i64 x.kind),.c (.int .i64 x.tuple.ip),.c (.int .i64 x.tuple.port),.c (.int .i64 x.tuple.my),.c (.int .i64 x.n),.c (.str x.text),.c (.bool x.mac.use),.c (.int .u64 x.mac.k),.c (.int .u64 x.mac.l),sc o0 .macRow x.mac.rows]
def C5 (x:Arpm):List RC:=[.c (.int .i64 x.kind),.c (.int .i64 x.srcHw),.c (.int .i64 x.srcIp),.c (.int .i64 x.dstHw),.c (.int .i64 x.dstIp)]
def Dt (x:Fram):List RC:=[.c (.int .i64 x.dst),.c (.int .i64 x.src),.c (.int .i64 x.type),.c (.str x.body)]
def AK (o0:Ow)(x:Mac):List RC:=[.c (.bool x.use),.c (.int .u64 x.k),.c (.int .u64 x.l),sc o0 .macRow x.rows]
def ym (x:Opti):List RC:=[.c (.int .i64 x.mss),.c (.int .i64 x.scale),.c (.bool x.sack),.c (.bool x.stamp),.c (.int .i64 x.val),.c (.int .i64 x.echo)]
def Dl (x:Pack):List RC:=[.c (.int .i64 x.src),.c (.int .i64 x.dst),.c (.int .i64 x.ttl),.c (.int .i64 x.proto),.c (.int .i64 x.id),.c (.str x.body)]
def ve (x:Segm):List RC:=[.c (.int .i64 x.from_),.c (.int .i64 x.to),.c (.int .i64 x.seq),.c (.int .i64 x.ack),.c (.int .i64 x.flags),.c (.int .i64 x.window),.c (.int .i64 x.opts.mss),.c (.int .i64 x.opts.scale),.c (.bool x.opts.sack),.c (.bool x.opts.stamp),.c (.int .i64 x.opts.val),.c (.int .i64 x.opts.echo),.c (.str x.body)]
def x8 (x:Sipr):List RC:=[.c (.int .u64 x.a),.c (.int .u64 x.b),.c (.int .u64 x.c),.c (.int .u64 x.d)]
def oo (x:Tupl):List RC:=[.c (.int .i64 x.ip),.c (.int .i64 x.port),.c (.int .i64 x.my)]
@[grind] def aQ (x:MacRow):Prop:=x.input.length≤4294967296
@[grind! .] theorem Cl {xs:List MacRow} (h:bc aQ xs) (i:Nat):aQ (xs.getD i (Ty.zero .macRow)):=a5 h (by unfold aQ;(repeat' apply And.intro);all_goals first|exact λ_ h=>absurd h (List.not_mem_nil)|decide+kernel) i
@[grind=] theorem BP (xs:List MacRow) (i:Nat):xs.getD i (Ty.zero .macRow)=lA (xs.getD i (Ty.zero .macRow)) (aQ (xs.getD i (Ty.zero .macRow))):=rfl
@[grind] def ai (x:Acti):Prop:=x.text.length≤4294967296∧x.mac.rows.length≤4294967296∧bc aQ x.mac.rows
@[grind! .] theorem C6 {xs:List Acti} (h:bc ai xs) (i:Nat):ai (xs.getD i (Ty.zero .acti)):=a5 h (by unfold ai;(repeat' apply And.intro);all_goals first|exact λ_ h=>absurd h (List.not_mem_nil)|decide+kernel) i
@[grind=] theorem CB (xs:List Acti) (i:Nat):xs.getD i (Ty.zero .acti)=lA (xs.getD i (Ty.zero .acti)) (ai (xs.getD i (Ty.zero .acti))):=rfl
@[grind] def lg (x:Piec):Prop:=x.text.length≤4294967296
@[grind! .] theorem Dc {xs:List Piec} (h:bc lg xs) (i:Nat):lg (xs.getD i (Ty.zero .piec)):=a5 h (by unfold lg;(repeat' apply And.intro);all_goals first|exact λ_ h=>absurd h (List.not_mem_nil)|decide+kernel) i
@[grind=] theorem Cr (xs:List Piec) (i:Nat):xs.getD i (Ty.zero .piec)=lA (xs.getD i (Ty.zero .piec)) (lg (xs.getD i (Ty.zero .piec))):=rfl
@[grind] def fw (x:Conn):Prop:=x.s.data.length≤4294967296∧x.r.data.length≤4294967296∧x.r.held.length≤4294967296∧bc lg x.r.held
@[grind! .] theorem Dj {xs:List Conn} (h:bc fw xs) (i:Nat):fw (xs.getD i (Ty.zero .conn)):=a5 h (by unfold fw;(repeat' apply And.intro);all_goals first|exact λ_ h=>absurd h (List.not_mem_nil)|decide+kernel) i
@[grind=] theorem CT (xs:List Conn) (i:Nat):xs.getD i (Ty.zero .conn)=lA (xs.getD i (Ty.zero .conn)) (fw (xs.getD i (Ty.zero .conn))):=rfl
@[grind] def ac (x:Curs):Prop:=0≤x.i∧x.b.length≤1048576
@[grind] def jQ (x:Door):Prop:=x.keys.now.rows.length≤4294967296∧bc aQ x.keys.now.rows∧x.keys.before.rows.length≤4294967296∧bc aQ x.keys.before.rows∧x.halves.length≤4294967296∧x.table.conns.length≤4294967296∧bc fw x.table.conns∧x.table.waiting.length≤4294967296
@[grind! .] theorem CX {xs:List Door} (h:bc jQ xs) (i:Nat):jQ (xs.getD i (Ty.zero .door)):=a5 h (by unfold jQ;(repeat' apply And.intro);all_goals first|exact λ_ h=>absurd h (List.not_mem_nil)|decide+kernel) i
@[grind=] theorem Cy (xs:List Door) (i:Nat):xs.getD i (Ty.zero .door)=lA (xs.getD i (Ty.zero .door)) (jQ (xs.getD i (Ty.zero .door))):=rfl
@[grind] def lf (x:Fram):Prop:=x.body.length≤4294967296
@[grind! .] theorem Dx {xs:List Fram} (h:bc lf xs) (i:Nat):lf (xs.getD i (Ty.zero .fram)):=a5 h (by unfold lf;(repeat' apply And.intro);all_goals first|exact λ_ h=>absurd h (List.not_mem_nil)|decide+kernel) i
@[grind=] theorem Cu (xs:List Fram) (i:Nat):xs.getD i (Ty.zero .fram)=lA (xs.getD i (Ty.zero .fram)) (lf (xs.getD i (Ty.zero .fram))):=rfl
@[grind] def p9 (x:Keys):Prop:=x.now.rows.length≤4294967296∧bc aQ x.now.rows∧x.before.rows.length≤4294967296∧bc aQ x.before.rows
@[grind! .] theorem C7 {xs:List Keys} (h:bc p9 xs) (i:Nat):p9 (xs.getD i (Ty.zero .keys)):=a5 h (by unfold p9;(repeat' apply And.intro);all_goals first|exact λ_ h=>absurd h (List.not_mem_nil)|decide+kernel) i
@[grind=] theorem CN (xs:List Keys) (i:Nat):xs.getD i (Ty.zero .keys)=lA (xs.getD i (Ty.zero .keys)) (p9 (xs.getD i (Ty.zero .keys))):=rfl
@[grind] def p7 (x:Link):Prop:=x.cache.length≤4294967296
@[grind! .] theorem C8 {xs:List Link} (h:bc p7 xs) (i:Nat):p7 (xs.getD i (Ty.zero .link)):=a5 h (by unfold p7;(repeat' apply And.intro);all_goals first|exact λ_ h=>absurd h (List.not_mem_nil)|decide+kernel) i
@[grind=] theorem CC (xs:List Link) (i:Nat):xs.getD i (Ty.zero .link)=lA (xs.getD i (Ty.zero .link)) (p7 (xs.getD i (Ty.zero .link))):=rfl
@[grind] def dE (x:Mac):Prop:=x.rows.length≤4294967296∧bc aQ x.rows
@[grind! .] theorem DE {xs:List Mac} (h:bc dE xs) (i:Nat):dE (xs.getD i (Ty.zero .mac)):=a5 h (by unfold dE;(repeat' apply And.intro);all_goals first|exact λ_ h=>absurd h (List.not_mem_nil)|decide+kernel) i
@[grind=] theorem CZ (xs:List Mac) (i:Nat):xs.getD i (Ty.zero .mac)=lA (xs.getD i (Ty.zero .mac)) (dE (xs.getD i (Ty.zero .mac))):=rfl
@[grind] def jC (x:Pack):Prop:=x.body.length≤4294967296
@[grind! .] theorem C1 {xs:List Pack} (h:bc jC xs) (i:Nat):jC (xs.getD i (Ty.zero .pack)):=a5 h (by unfold jC;(repeat' apply And.intro);all_goals first|exact λ_ h=>absurd h (List.not_mem_nil)|decide+kernel) i
@[grind=] theorem CD (xs:List Pack) (i:Nat):xs.getD i (Ty.zero .pack)=lA (xs.getD i (Ty.zero .pack)) (jC (xs.getD i (Ty.zero .pack))):=rfl
@[grind] def jF (x:Recv):Prop:=x.data.length≤4294967296∧x.held.length≤4294967296∧bc lg x.held
@[grind! .] theorem Dz {xs:List Recv} (h:bc jF xs) (i:Nat):jF (xs.getD i (Ty.zero .recv)):=a5 h (by unfold jF;(repeat' apply And.intro);all_goals first|exact λ_ h=>absurd h (List.not_mem_nil)|decide+kernel) i
@[grind=] theorem CA (xs:List Recv) (i:Nat):xs.getD i (Ty.zero .recv)=lA (xs.getD i (Ty.zero .recv)) (jF (xs.getD i (Ty.zero .recv))):=rfl
@[grind] def bu (x:Segm):Prop:=x.body.length≤4294967296
@[grind! .] theorem C4 {xs:List Segm} (h:bc bu xs) (i:Nat):bu (xs.getD i (Ty.zero .segm)):=a5 h (by unfold bu;(repeat' apply And.intro);all_goals first|exact λ_ h=>absurd h (List.not_mem_nil)|decide+kernel) i
@[grind=] theorem CO (xs:List Segm) (i:Nat):xs.getD i (Ty.zero .segm)=lA (xs.getD i (Ty.zero .segm)) (bu (xs.getD i (Ty.zero .segm))):=rfl
@[grind] def mZ (x:Sndr):Prop:=x.data.length≤4294967296
@[grind! .] theorem Di {xs:List Sndr} (h:bc mZ xs) (i:Nat):mZ (xs.getD i (Ty.zero .sndr)):=a5 h (by unfold mZ;(repeat' apply And.intro);all_goals first|exact λ_ h=>absurd h (List.not_mem_nil)|decide+kernel) i
@[grind=] theorem CJ (xs:List Sndr) (i:Nat):xs.getD i (Ty.zero .sndr)=lA (xs.getD i (Ty.zero .sndr)) (mZ (xs.getD i (Ty.zero .sndr))):=rfl
@[grind] def hY (x:Stac):Prop:=x.link.cache.length≤4294967296∧x.door.keys.now.rows.length≤4294967296∧bc aQ x.door.keys.now.rows∧x.door.keys.before.rows.length≤4294967296∧bc aQ x.door.keys.before.rows∧x.door.halves.length≤4294967296∧x.door.table.conns.length≤4294967296∧bc fw x.door.table.conns∧x.door.table.waiting.length≤4294967296
@[grind! .] theorem Dm {xs:List Stac} (h:bc hY xs) (i:Nat):hY (xs.getD i (Ty.zero .stac)):=a5 h (by unfold hY;(repeat' apply And.intro);all_goals first|exact λ_ h=>absurd h (List.not_mem_nil)|decide+kernel) i
@[grind=] theorem CR (xs:List Stac) (i:Nat):xs.getD i (Ty.zero .stac)=lA (xs.getD i (Ty.zero .stac)) (hY (xs.getD i (Ty.zero .stac))):=rfl
@[grind] def p5 (x:Tabl):Prop:=x.conns.length≤4294967296∧bc fw x.conns∧x.waiting.length≤4294967296
@[grind! .] theorem Dd {xs:List Tabl} (h:bc p5 xs) (i:Nat):p5 (xs.getD i (Ty.zero .tabl)):=a5 h (by unfold p5;(repeat' apply And.intro);all_goals first|exact λ_ h=>absurd h (List.not_mem_nil)|decide+kernel) i
@[grind=] theorem Cz (xs:List Tabl) (i:Nat):xs.getD i (Ty.zero .tabl)=lA (xs.getD i (Ty.zero .tabl)) (p5 (xs.getD i (Ty.zero .tabl))):=rfl
@[grind] def SO (s:Sndr):Prop:=0≤s.una∧s.una≤4294967295∧s.data.length≤48∧0≤s.sent∧s.sent≤s.data.length∧(s.finSent=true→s.fin=true∧s.sent=s.data.length)∧(s.done=true→s.fin=true∧s.finSent=false∧s.data=[])
@[grind] def EP (s:Sndr):Nat:=((s.data.length:Int)-s.sent).toNat+if s.finSent=true then 0 else 1
@[grind] def po (y:Piec):Prop:=1≤y.off∧y.off+(y.text.length:Int)≤32
@[grind] def RO (r:Recv):Prop:=0≤r.next∧r.next≤4294967295∧r.data.length≤32∧r.held.length≤3∧bc po r.held
@[grind] def pl (n:Int) (y:Piec):Prop:=(y.text.length:Int)≤n
@[grind] def EO (r:Recv):Int:=if r.done=true then 0 else 32-(r.data.length:Int)
@[grind] def pw (n:Int) (y:Piec):Prop:=1≤y.off∧y.off+(y.text.length:Int)≤n
instance:Inhabited Acti:=⟨Ty.zero .acti⟩
instance:Inhabited Arpm:=⟨Ty.zero .arpm⟩
instance:Inhabited Conn:=⟨Ty.zero .conn⟩
instance:Inhabited Curs:=⟨Ty.zero .curs⟩
instance:Inhabited Door:=⟨Ty.zero .door⟩
instance:Inhabited Entr:=⟨Ty.zero .entr⟩
instance:Inhabited Fram:=⟨Ty.zero .fram⟩
instance:Inhabited Half:=⟨Ty.zero .half⟩
instance:Inhabited Keys:=⟨Ty.zero .keys⟩
instance:Inhabited Limi:=⟨Ty.zero .limi⟩
instance:Inhabited Link:=⟨Ty.zero .link⟩
instance:Inhabited Mac:=⟨Ty.zero .mac⟩
instance:Inhabited MacRow:=⟨Ty.zero .macRow⟩
instance:Inhabited Opti:=⟨Ty.zero .opti⟩
instance:Inhabited Pack:=⟨Ty.zero .pack⟩
instance:Inhabited Piec:=⟨Ty.zero .piec⟩
instance:Inhabited Recv:=⟨Ty.zero .recv⟩
instance:Inhabited Segm:=⟨Ty.zero .segm⟩
instance:Inhabited Sipr:=⟨Ty.zero .sipr⟩
instance:Inhabited Sndr:=⟨Ty.zero .sndr⟩
instance:Inhabited Stac:=⟨Ty.zero .stac⟩
instance:Inhabited Tabl:=⟨Ty.zero .tabl⟩
instance:Inhabited Tupl:=⟨Ty.zero .tupl⟩
@[grind] def jS (y:aa):Prop:=y.length≤8192
@[grind! .] theorem Eb {xs:List aa} (h:bc jS xs) (i:Nat):jS (xs.getD i []):=a5 h (Nat.zero_le _) i
@[grind] def yZ (y:aa):Prop:=y.length≤20
@[grind! .] theorem D1 {xs:List aa} (h:bc yZ xs) (i:Nat):yZ (xs.getD i []):=a5 h (Nat.zero_le _) i
@[grind] def tK (y:aa):Prop:=y.length≤16777216
@[grind! .] theorem D6 {xs:List aa} (h:bc tK xs) (i:Nat):tK (xs.getD i []):=a5 h (Nat.zero_le _) i
@[grind=] theorem Ev:bc sS ([[],[],[]]:List aa)=True:=by simp[bc,sS]
@[grind=] theorem EB:bc sS ([[],[]]:List aa)=True:=by simp[bc,sS]
@[grind=] theorem Et:bc jS ([[],[],[]]:List aa)=True:=by simp[bc,jS]
@[grind=] theorem Eo:bc jS ([[],[]]:List aa)=True:=by simp[bc,jS]
@[grind=] theorem Ec:bc yZ ([[],[],[]]:List aa)=True:=by simp[bc,yZ]
@[grind=] theorem Ei:bc yZ ([[],[]]:List aa)=True:=by simp[bc,yZ]
@[grind=] theorem Ef:bc tK ([[],[],[]]:List aa)=True:=by simp[bc,tK]
@[grind=] theorem Ed:bc tK ([[],[]]:List aa)=True:=by simp[bc,tK]
@[grind] def jM (x:Mac):Prop:=0≤x.k∧x.k<18446744073709551616∧0≤x.l∧x.l<18446744073709551616
@[grind] def jK (x:Acti):Prop:=0≤x.mac.k∧x.mac.k<18446744073709551616∧0≤x.mac.l∧x.mac.l<18446744073709551616
end Go.Proofs.YtfpdenjmlnhnnaaGreatDoor
