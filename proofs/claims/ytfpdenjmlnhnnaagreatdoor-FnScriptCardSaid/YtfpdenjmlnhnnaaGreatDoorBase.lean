/- The table of types of this seat, and its closed facts. -/
import Derived.Test.YtfpdenjmlnhnnaaGreatDoorPure
import Derived.Test.YtfpdenjmlnhnnaaGreatDoorRows
import Derived.KernelRfl
import Derived.Test.YtfpdenjmlnhnnaaGreatDoorShelf
set_option linter.unusedVariables false
set_option linter.unusedSimpArgs false
namespace Go.Proofs.YtfpdenjmlnhnnaaGreatDoor
open Go Go.RowKit
def te:TE:=[
 (2,.sc (.int .i64)),
 (3,.sc (.int .i64)),
 (4,.sc .bool),
 (5,.sc (.int .u8)),
 (6,.sc (.int .u8)),
 (9,.sc .str),
 (10,.sc .str),
 (11,.sc .str),
 (12,.sc (.int .u64)),
 (21,.sc (.int .i32)),
 (22,.sl .u8 1),
 (25,.st .tupl [(0,3),(1,3),(2,3)]),
 (26,.sc (.int .u64)),
 (27,.sl .macRow 24),
 (29,.st .mac [(0,4),(1,26),(2,26),(3,27)]),
 (31,.st .acti [(0,3),(1,25),(4,3),(5,9),(6,29)]),
 (42,.sl .acti 104),
 (47,.ptr),
 (51,.sl .entr 24),
 (53,.st .link [(0,3),(1,3),(2,51)]),
 (55,.st .keys [(0,3),(1,29),(5,29),(9,4)]),
 (57,.st .limi [(0,3),(1,3),(2,3),(3,3)]),
 (58,.sl .half 96),
 (59,.sl .conn 208),
 (60,.sl .tupl 24),
 (62,.st .tabl [(0,59),(1,60)]),
 (64,.st .door [(0,3),(1,3),(2,55),(12,57),(16,58),(17,62),(19,3)]),
 (66,.st .stac [(0,53),(3,64)]),
 (72,.sl .str 16),
 (74,.sl .i64 8),
 (89,.st .curs [(0,22),(1,3),(2,3)]),
 (98,.sc (.int .u64)),
 (105,.st .sndr [(0,3),(1,9),(2,3),(3,4),(4,4),(5,4)]),
 (106,.sl .piec 24),
 (108,.st .recv [(0,3),(1,9),(2,106),(3,3),(4,4)]),
 (110,.st .opti [(0,3),(1,3),(2,4),(3,4),(4,3),(5,3)]),
 (112,.st .conn [(0,25),(3,3),(4,105),(10,108),(15,3),(16,3),(17,110),(23,3),(24,3)]),
 (117,.st .macRow [(0,9),(1,3)]),
 (134,.st .segm [(0,3),(1,3),(2,3),(3,3),(4,3),(5,3),(6,110),(12,9)]),
 (137,.st .half [(0,25),(3,3),(4,3),(5,110),(11,3),(12,3)]),
 (145,.st .pack [(0,3),(1,3),(2,3),(3,3),(4,3),(5,9)]),
 (149,.st .fram [(0,3),(1,3),(2,3),(3,9)]),
 (152,.ptr),
 (154,.st .arpm [(0,3),(1,3),(2,3),(3,3),(4,3)]),
 (188,.sc (.int .u32)),
 (199,.st .sipr [(0,26),(1,26),(2,26),(3,26)]),
 (211,.sc (.int .u8)),
 (212,.sc (.int .u8)),
 (214,.sc (.int .i32)),
 (215,.sc (.int .i32)),
 (219,.st .entr [(0,3),(1,3),(2,3)]),
 (221,.st .piec [(0,3),(1,9)]),
 (1000023,.wr [true,false]),
 (1000024,.wr [true,false]),
 (1000025,.wr [true]),
 (1000041,.wr [true,false,false]),
 (1000048,.wr [true]),
 (1000053,.wr [true]),
 (1000056,.wr [true,false]),
 (1000057,.wr [true,false]),
 (1000058,.wr [true,false]),
 (1000059,.wr [true]),
 (1000060,.wr [true]),
 (1000061,.wr [true]),
 (1000062,.wr [true,false]),
 (1000075,.wr [true,false]),
 (1000079,.wr [true]),
 (1000082,.wr [true]),
 (1000083,.wr [true,false]),
 (1000085,.wr [true]),
 (1000086,.wr [true]),
 (1000087,.wr [false,true]),
 (1000093,.wr [true]),
 (1000094,.wr [true,false]),
 (1000095,.wr [true,false]),
 (1000096,.wr [true]),
 (1000097,.wr [true]),
 (1000098,.wr [true]),
 (1000100,.wr [true,false,false]),
 (1000102,.wr [true,false]),
 (1000106,.wr [true,false]),
 (1000107,.wr [false,true]),
 (1000110,.wr [true]),
 (1000111,.wr [true,false]),
 (1000112,.wr [true]),
 (1000114,.wr [true]),
 (1000115,.wr [true]),
 (1000116,.wr [true]),
 (1000117,.wr [true]),
 (1000123,.wr [true,false]),
 (1000124,.wr [true,false]),
 (1000126,.wr [true]),
 (1000133,.wr [true,false]),
 (1000141,.wr [true]),
 (1000148,.wr [true]),
 (1000177,.wr [true]),
 (1000178,.wr [true]),
 (1000179,.wr [true]),
 (1000180,.wr [true]),
 (1000181,.wr [true]),
 (1000184,.wr [true])]
theorem yE:dk te Tryz.prog=true:=by kernel_rfl
theorem Bj:yb te Tryz.prog=true:=by kernel_rfl
theorem BS:laidOutB Tryz.prog=true:=by kernel_rfl
theorem zJ:ownKnob Tryz.prog.godebug=none:=by kernel_rfl
theorem CF:Tryz.prog.follows .mixedOrders=true:=by kernel_rfl
def st:Seat Tryz.prog:=⟨te,yE,CF⟩
def oo (o0:Ow)(x:Acti):List RC:=[.c (.int .i64 x.kind),.c (.int .i64 x.tuple.ip),.c (.int .i64 x.tuple.port),.c (.int .i64 x.tuple.my),.c (.int .i64 x.n),.c (.str x.text),.c (.bool x.mac.use),.c (.int .u64 x.mac.k),.c (.int .u64 x.mac.l),sc o0 .macRow x.mac.rows]
def DP (x:Arpm):List RC:=[.c (.int .i64 x.kind),.c (.int .i64 x.srcHw),.c (.int .i64 x.srcIp),.c (.int .i64 x.dstHw),.c (.int .i64 x.dstIp)]
def DT (x:Fram):List RC:=[.c (.int .i64 x.dst),.c (.int .i64 x.src),.c (.int .i64 x.type),.c (.str x.body)]
def AU (o0:Ow)(x:Mac):List RC:=[.c (.bool x.use),.c (.int .u64 x.k),.c (.int .u64 x.l),sc o0 .macRow x.rows]
def yJ (x:Opti):List RC:=[.c (.int .i64 x.mss),.c (.int .i64 x.scale),.c (.bool x.sack),.c (.bool x.stamp),.c (.int .i64 x.val),.c (.int .i64 x.echo)]
def Dm (x:Pack):List RC:=[.c (.int .i64 x.src),.c (.int .i64 x.dst),.c (.int .i64 x.ttl),.c (.int .i64 x.proto),.c (.int .i64 x.id),.c (.str x.body)]
def vK (x:Segm):List RC:=[.c (.int .i64 x.from_),.c (.int .i64 x.to),.c (.int .i64 x.seq),.c (.int .i64 x.ack),.c (.int .i64 x.flags),.c (.int .i64 x.window),.c (.int .i64 x.opts.mss),.c (.int .i64 x.opts.scale),.c (.bool x.opts.sack),.c (.bool x.opts.stamp),.c (.int .i64 x.opts.val),.c (.int .i64 x.opts.echo),.c (.str x.body)]
def ym (x:Sipr):List RC:=[.c (.int .u64 x.a),.c (.int .u64 x.b),.c (.int .u64 x.c),.c (.int .u64 x.d)]
def oM (x:Tupl):List RC:=[.c (.int .i64 x.ip),.c (.int .i64 x.port),.c (.int .i64 x.my)]
@[grind] def aQ (x:MacRow):Prop:=x.input.length≤4294967296
@[grind! .] theorem Cg {xs:List MacRow} (h:bf aQ xs) (i:Nat):aQ (xs.getD i (Ty.zero .macRow)):=a6 h (by unfold aQ;(repeat' apply And.intro);all_goals first|exact λ_ h=>absurd h (List.not_mem_nil)|decide+kernel) i
@[grind=] theorem Cb (xs:List MacRow) (i:Nat):xs.getD i (Ty.zero .macRow)=lD (xs.getD i (Ty.zero .macRow)) (aQ (xs.getD i (Ty.zero .macRow))):=rfl
@[grind] def ai (x:Acti):Prop:=x.text.length≤4294967296∧x.mac.rows.length≤4294967296∧bf aQ x.mac.rows
@[grind! .] theorem Df {xs:List Acti} (h:bf ai xs) (i:Nat):ai (xs.getD i (Ty.zero .acti)):=a6 h (by unfold ai;(repeat' apply And.intro);all_goals first|exact λ_ h=>absurd h (List.not_mem_nil)|decide+kernel) i
@[grind=] theorem C8 (xs:List Acti) (i:Nat):xs.getD i (Ty.zero .acti)=lD (xs.getD i (Ty.zero .acti)) (ai (xs.getD i (Ty.zero .acti))):=rfl
@[grind] def ly (x:Piec):Prop:=x.text.length≤4294967296
@[grind! .] theorem DE {xs:List Piec} (h:bf ly xs) (i:Nat):ly (xs.getD i (Ty.zero .piec)):=a6 h (by unfold ly;(repeat' apply And.intro);all_goals first|exact λ_ h=>absurd h (List.not_mem_nil)|decide+kernel) i
@[grind=] theorem C0 (xs:List Piec) (i:Nat):xs.getD i (Ty.zero .piec)=lD (xs.getD i (Ty.zero .piec)) (ly (xs.getD i (Ty.zero .piec))):=rfl
@[grind] def fk (x:Conn):Prop:=x.s.data.length≤4294967296∧x.r.data.length≤4294967296∧x.r.held.length≤4294967296∧bf ly x.r.held
@[grind! .] theorem Dh {xs:List Conn} (h:bf fk xs) (i:Nat):fk (xs.getD i (Ty.zero .conn)):=a6 h (by unfold fk;(repeat' apply And.intro);all_goals first|exact λ_ h=>absurd h (List.not_mem_nil)|decide+kernel) i
@[grind=] theorem CT (xs:List Conn) (i:Nat):xs.getD i (Ty.zero .conn)=lD (xs.getD i (Ty.zero .conn)) (fk (xs.getD i (Ty.zero .conn))):=rfl
@[grind] def ac (x:Curs):Prop:=0≤x.i∧x.b.length≤1048576
@[grind] def jI (x:Door):Prop:=x.keys.now.rows.length≤4294967296∧bf aQ x.keys.now.rows∧x.keys.before.rows.length≤4294967296∧bf aQ x.keys.before.rows∧x.halves.length≤4294967296∧x.table.conns.length≤4294967296∧bf fk x.table.conns∧x.table.waiting.length≤4294967296
@[grind! .] theorem DW {xs:List Door} (h:bf jI xs) (i:Nat):jI (xs.getD i (Ty.zero .door)):=a6 h (by unfold jI;(repeat' apply And.intro);all_goals first|exact λ_ h=>absurd h (List.not_mem_nil)|decide+kernel) i
@[grind=] theorem CU (xs:List Door) (i:Nat):xs.getD i (Ty.zero .door)=lD (xs.getD i (Ty.zero .door)) (jI (xs.getD i (Ty.zero .door))):=rfl
@[grind] def lq (x:Fram):Prop:=x.body.length≤4294967296
@[grind! .] theorem DH {xs:List Fram} (h:bf lq xs) (i:Nat):lq (xs.getD i (Ty.zero .fram)):=a6 h (by unfold lq;(repeat' apply And.intro);all_goals first|exact λ_ h=>absurd h (List.not_mem_nil)|decide+kernel) i
@[grind=] theorem Dd (xs:List Fram) (i:Nat):xs.getD i (Ty.zero .fram)=lD (xs.getD i (Ty.zero .fram)) (lq (xs.getD i (Ty.zero .fram))):=rfl
@[grind] def qh (x:Keys):Prop:=x.now.rows.length≤4294967296∧bf aQ x.now.rows∧x.before.rows.length≤4294967296∧bf aQ x.before.rows
@[grind! .] theorem Du {xs:List Keys} (h:bf qh xs) (i:Nat):qh (xs.getD i (Ty.zero .keys)):=a6 h (by unfold qh;(repeat' apply And.intro);all_goals first|exact λ_ h=>absurd h (List.not_mem_nil)|decide+kernel) i
@[grind=] theorem Dc (xs:List Keys) (i:Nat):xs.getD i (Ty.zero .keys)=lD (xs.getD i (Ty.zero .keys)) (qh (xs.getD i (Ty.zero .keys))):=rfl
@[grind] def qc (x:Link):Prop:=x.cache.length≤4294967296
@[grind! .] theorem DQ {xs:List Link} (h:bf qc xs) (i:Nat):qc (xs.getD i (Ty.zero .link)):=a6 h (by unfold qc;(repeat' apply And.intro);all_goals first|exact λ_ h=>absurd h (List.not_mem_nil)|decide+kernel) i
@[grind=] theorem C3 (xs:List Link) (i:Nat):xs.getD i (Ty.zero .link)=lD (xs.getD i (Ty.zero .link)) (qc (xs.getD i (Ty.zero .link))):=rfl
@[grind] def dF (x:Mac):Prop:=x.rows.length≤4294967296∧bf aQ x.rows
@[grind! .] theorem DZ {xs:List Mac} (h:bf dF xs) (i:Nat):dF (xs.getD i (Ty.zero .mac)):=a6 h (by unfold dF;(repeat' apply And.intro);all_goals first|exact λ_ h=>absurd h (List.not_mem_nil)|decide+kernel) i
@[grind=] theorem Dn (xs:List Mac) (i:Nat):xs.getD i (Ty.zero .mac)=lD (xs.getD i (Ty.zero .mac)) (dF (xs.getD i (Ty.zero .mac))):=rfl
@[grind] def jc (x:Pack):Prop:=x.body.length≤4294967296
@[grind! .] theorem Dw {xs:List Pack} (h:bf jc xs) (i:Nat):jc (xs.getD i (Ty.zero .pack)):=a6 h (by unfold jc;(repeat' apply And.intro);all_goals first|exact λ_ h=>absurd h (List.not_mem_nil)|decide+kernel) i
@[grind=] theorem CW (xs:List Pack) (i:Nat):xs.getD i (Ty.zero .pack)=lD (xs.getD i (Ty.zero .pack)) (jc (xs.getD i (Ty.zero .pack))):=rfl
@[grind] def jg (x:Recv):Prop:=x.data.length≤4294967296∧x.held.length≤4294967296∧bf ly x.held
@[grind! .] theorem Dq {xs:List Recv} (h:bf jg xs) (i:Nat):jg (xs.getD i (Ty.zero .recv)):=a6 h (by unfold jg;(repeat' apply And.intro);all_goals first|exact λ_ h=>absurd h (List.not_mem_nil)|decide+kernel) i
@[grind=] theorem CZ (xs:List Recv) (i:Nat):xs.getD i (Ty.zero .recv)=lD (xs.getD i (Ty.zero .recv)) (jg (xs.getD i (Ty.zero .recv))):=rfl
@[grind] def bu (x:Segm):Prop:=x.body.length≤4294967296
@[grind! .] theorem DI {xs:List Segm} (h:bf bu xs) (i:Nat):bu (xs.getD i (Ty.zero .segm)):=a6 h (by unfold bu;(repeat' apply And.intro);all_goals first|exact λ_ h=>absurd h (List.not_mem_nil)|decide+kernel) i
@[grind=] theorem C4 (xs:List Segm) (i:Nat):xs.getD i (Ty.zero .segm)=lD (xs.getD i (Ty.zero .segm)) (bu (xs.getD i (Ty.zero .segm))):=rfl
@[grind] def nn (x:Sndr):Prop:=x.data.length≤4294967296
@[grind! .] theorem Dz {xs:List Sndr} (h:bf nn xs) (i:Nat):nn (xs.getD i (Ty.zero .sndr)):=a6 h (by unfold nn;(repeat' apply And.intro);all_goals first|exact λ_ h=>absurd h (List.not_mem_nil)|decide+kernel) i
@[grind=] theorem C5 (xs:List Sndr) (i:Nat):xs.getD i (Ty.zero .sndr)=lD (xs.getD i (Ty.zero .sndr)) (nn (xs.getD i (Ty.zero .sndr))):=rfl
@[grind] def ib (x:Stac):Prop:=x.link.cache.length≤4294967296∧x.door.keys.now.rows.length≤4294967296∧bf aQ x.door.keys.now.rows∧x.door.keys.before.rows.length≤4294967296∧bf aQ x.door.keys.before.rows∧x.door.halves.length≤4294967296∧x.door.table.conns.length≤4294967296∧bf fk x.door.table.conns∧x.door.table.waiting.length≤4294967296
@[grind! .] theorem DD {xs:List Stac} (h:bf ib xs) (i:Nat):ib (xs.getD i (Ty.zero .stac)):=a6 h (by unfold ib;(repeat' apply And.intro);all_goals first|exact λ_ h=>absurd h (List.not_mem_nil)|decide+kernel) i
@[grind=] theorem Da (xs:List Stac) (i:Nat):xs.getD i (Ty.zero .stac)=lD (xs.getD i (Ty.zero .stac)) (ib (xs.getD i (Ty.zero .stac))):=rfl
@[grind] def qb (x:Tabl):Prop:=x.conns.length≤4294967296∧bf fk x.conns∧x.waiting.length≤4294967296
@[grind! .] theorem Ds {xs:List Tabl} (h:bf qb xs) (i:Nat):qb (xs.getD i (Ty.zero .tabl)):=a6 h (by unfold qb;(repeat' apply And.intro);all_goals first|exact λ_ h=>absurd h (List.not_mem_nil)|decide+kernel) i
@[grind=] theorem C7 (xs:List Tabl) (i:Nat):xs.getD i (Ty.zero .tabl)=lD (xs.getD i (Ty.zero .tabl)) (qb (xs.getD i (Ty.zero .tabl))):=rfl
@[grind] def SO (s:Sndr):Prop:=0≤s.una∧s.una≤4294967295∧s.data.length≤48∧0≤s.sent∧s.sent≤s.data.length∧(s.finSent=true→s.fin=true∧s.sent=s.data.length)∧(s.done=true→s.fin=true∧s.finSent=false∧s.data=[])
@[grind] def E5 (s:Sndr):Nat:=((s.data.length:Int)-s.sent).toNat+if s.finSent=true then 0 else 1
@[grind] def po (y:Piec):Prop:=1≤y.off∧y.off+(y.text.length:Int)≤32
@[grind] def RO (r:Recv):Prop:=0≤r.next∧r.next≤4294967295∧r.data.length≤32∧r.held.length≤3∧bf po r.held
@[grind] def pl (n:Int) (y:Piec):Prop:=(y.text.length:Int)≤n
@[grind] def E1 (r:Recv):Int:=if r.done=true then 0 else 32-(r.data.length:Int)
@[grind] def pw (n:Int) (y:Piec):Prop:=1≤y.off∧y.off+(y.text.length:Int)≤n
instance:Inhabited Acti:=⟨Ty.zero .acti⟩
instance:Inhabited Arpm:=⟨Ty.zero .arpm⟩
instance:Inhabited Conn:=⟨Ty.zero .conn⟩
instance:Inhabited Curs:=⟨Ty.zero .curs⟩
instance:Inhabited Door:=⟨Ty.zero .door⟩
instance:Inhabited Entr:=⟨Ty.zero .entr⟩
instance:Inhabited Fram:=⟨Ty.zero .fram⟩
instance:Inhabited Half:=⟨Ty.zero .half⟩
instance:Inhabited Keys:=⟨Ty.zero .keys⟩
instance:Inhabited Limi:=⟨Ty.zero .limi⟩
instance:Inhabited Link:=⟨Ty.zero .link⟩
instance:Inhabited Mac:=⟨Ty.zero .mac⟩
instance:Inhabited MacRow:=⟨Ty.zero .macRow⟩
instance:Inhabited Opti:=⟨Ty.zero .opti⟩
instance:Inhabited Pack:=⟨Ty.zero .pack⟩
instance:Inhabited Piec:=⟨Ty.zero .piec⟩
instance:Inhabited Recv:=⟨Ty.zero .recv⟩
instance:Inhabited Segm:=⟨Ty.zero .segm⟩
instance:Inhabited Sipr:=⟨Ty.zero .sipr⟩
instance:Inhabited Sndr:=⟨Ty.zero .sndr⟩
instance:Inhabited Stac:=⟨Ty.zero .stac⟩
instance:Inhabited Tabl:=⟨Ty.zero .tabl⟩
instance:Inhabited Tupl:=⟨Ty.zero .tupl⟩
@[grind] def jS (y:aa):Prop:=y.length≤8192
@[grind! .] theorem Eu {xs:List aa} (h:bf jS xs) (i:Nat):jS (xs.getD i []):=a6 h (Nat.zero_le _) i
@[grind] def zn (y:aa):Prop:=y.length≤20
@[grind! .] theorem El {xs:List aa} (h:bf zn xs) (i:Nat):zn (xs.getD i []):=a6 h (Nat.zero_le _) i
@[grind] def tD (y:aa):Prop:=y.length≤16777216
@[grind! .] theorem Em {xs:List aa} (h:bf tD xs) (i:Nat):tD (xs.getD i []):=a6 h (Nat.zero_le _) i
@[grind=] theorem EJ:bf sS ([[],[],[]]:List aa)=True:=by simp[bf,sS]
@[grind=] theorem ES:bf sS ([[],[]]:List aa)=True:=by simp[bf,sS]
@[grind=] theorem EU:bf jS ([[],[],[]]:List aa)=True:=by simp[bf,jS]
@[grind=] theorem EO:bf jS ([[],[]]:List aa)=True:=by simp[bf,jS]
@[grind=] theorem Es:bf zn ([[],[],[]]:List aa)=True:=by simp[bf,zn]
@[grind=] theorem Ew:bf zn ([[],[]]:List aa)=True:=by simp[bf,zn]
@[grind=] theorem Er:bf tD ([[],[],[]]:List aa)=True:=by simp[bf,tD]
@[grind=] theorem EE:bf tD ([[],[]]:List aa)=True:=by simp[bf,tD]
@[grind] def jM (x:Mac):Prop:=0≤x.k∧x.k<18446744073709551616∧0≤x.l∧x.l<18446744073709551616
@[grind] def jK (x:Acti):Prop:=0≤x.mac.k∧x.mac.k<18446744073709551616∧0≤x.mac.l∧x.mac.l<18446744073709551616
end Go.Proofs.YtfpdenjmlnhnnaaGreatDoor
