/- The table of types of this seat, and its closed facts. -/
import Derived.Test.YtfpdenjmlnhnnaaDoorPure
import Derived.Test.YtfpdenjmlnhnnaaDoorRows
import Derived.KernelRfl
import Derived.Test.YtfpdenjmlnhnnaaDoorShelf
set_option linter.unusedVariables false
set_option linter.unusedSimpArgs false
namespace Go.Proofs.YtfpdenjmlnhnnaaDoor
open Go Go.RowKit
def te:TE:=[
 (2,.sc (.int .i64)),
 (3,.sc (.int .i64)),
 (4,.sc .bool),
 (5,.sc (.int .u8)),
 (6,.sc (.int .u8)),
 (9,.sc .str),
 (10,.sc .str),
 (11,.sc .str),
 (12,.sc (.int .u64)),
 (21,.sc (.int .i32)),
 (22,.sl .acti 104),
 (28,.sl .str 16),
 (31,.st .tupl [(0,3),(1,3),(2,3)]),
 (32,.sc (.int .u64)),
 (33,.sl .macRow 24),
 (35,.st .mac [(0,4),(1,32),(2,32),(3,33)]),
 (37,.st .acti [(0,3),(1,31),(4,3),(5,9),(6,35)]),
 (52,.sl .i64 8),
 (57,.sl .u8 1),
 (59,.st .macRow [(0,9),(1,3)]),
 (67,.sc (.int .u64)),
 (95,.ptr),
 (99,.sc (.int .u32)),
 (115,.sc (.int .u8)),
 (116,.sc (.int .u8)),
 (118,.sc (.int .i32)),
 (119,.sc (.int .i32)),
 (1000007,.wr [true]),
 (1000015,.wr [true]),
 (1000069,.wr [false,true]),
 (1000075,.wr [false,true]),
 (1000078,.wr [true]),
 (1000079,.wr [true]),
 (1000080,.wr [true]),
 (1000085,.wr [true]),
 (1000086,.wr [true]),
 (1000104,.wr [true]),
 (1000105,.wr [true]),
 (1000106,.wr [true]),
 (1000107,.wr [true]),
 (1000108,.wr [true]),
 (1000111,.wr [true])]
theorem xu:cH te Tryd.prog=true:=by kernel_rfl
theorem zK:u7 te Tryd.prog=true:=by kernel_rfl
theorem zS:laidOutB Tryd.prog=true:=by kernel_rfl
theorem yZ:ownKnob Tryd.prog.godebug=none:=by kernel_rfl
theorem vM:Tryd.prog.follows .mixedOrders=true:=by kernel_rfl
def st:Seat Tryd.prog:=⟨te,xu,vM⟩
def Bf:TE:=(5000000,.wr [])::te
theorem yX:cH Bf Tryd.prog=true:=by kernel_rfl
def cJ:Seat Tryd.prog:=⟨Bf,yX,vM⟩
def yc (o0:Ow)(x:Acti):List RC:=[.c (.int .i64 x.kind),.c (.int .i64 x.tuple.ip),.c (.int .i64 x.tuple.port),.c (.int .i64 x.tuple.my),.c (.int .i64 x.n),.c (.str x.text),.c (.bool x.mac.use),.c (.int .u64 x.mac.k),.c (.int .u64 x.mac.l),sc o0 .macRow x.mac.rows]
def Af (o0:Ow)(x:Mac):List RC:=[.c (.bool x.use),.c (.int .u64 x.k),.c (.int .u64 x.l),sc o0 .macRow x.rows]
def yh (x:Tupl):List RC:=[.c (.int .i64 x.ip),.c (.int .i64 x.port),.c (.int .i64 x.my)]
@[grind] def aP (x:MacRow):Prop:=x.input.length≤4294967296
@[grind! .] theorem yS {xs:List MacRow} (h:bX aP xs) (i:Nat):aP (xs.getD i (Ty.zero .macRow)):=gf h (by unfold aP;(repeat' apply And.intro);all_goals first|exact λ_ h=>absurd h (List.not_mem_nil)|decide+kernel) i
@[grind=] theorem yq (xs:List MacRow) (i:Nat):xs.getD i (Ty.zero .macRow)=yY (xs.getD i (Ty.zero .macRow)) (aP (xs.getD i (Ty.zero .macRow))):=rfl
@[grind] def af (x:Acti):Prop:=x.text.length≤4294967296∧x.mac.rows.length≤4294967296∧bX aP x.mac.rows
@[grind! .] theorem zH {xs:List Acti} (h:bX af xs) (i:Nat):af (xs.getD i (Ty.zero .acti)):=gf h (by unfold af;(repeat' apply And.intro);all_goals first|exact λ_ h=>absurd h (List.not_mem_nil)|decide+kernel) i
@[grind=] theorem zr (xs:List Acti) (i:Nat):xs.getD i (Ty.zero .acti)=yY (xs.getD i (Ty.zero .acti)) (af (xs.getD i (Ty.zero .acti))):=rfl
@[grind] def dP (x:Mac):Prop:=x.rows.length≤4294967296∧bX aP x.rows
@[grind! .] theorem z9 {xs:List Mac} (h:bX dP xs) (i:Nat):dP (xs.getD i (Ty.zero .mac)):=gf h (by unfold dP;(repeat' apply And.intro);all_goals first|exact λ_ h=>absurd h (List.not_mem_nil)|decide+kernel) i
@[grind=] theorem zV (xs:List Mac) (i:Nat):xs.getD i (Ty.zero .mac)=yY (xs.getD i (Ty.zero .mac)) (dP (xs.getD i (Ty.zero .mac))):=rfl
instance:Inhabited Acti:=⟨Ty.zero .acti⟩
instance:Inhabited Mac:=⟨Ty.zero .mac⟩
instance:Inhabited MacRow:=⟨Ty.zero .macRow⟩
instance:Inhabited Tupl:=⟨Ty.zero .tupl⟩
@[grind] def jS (y:aa):Prop:=y.length≤8192
@[grind! .] theorem AM {xs:List aa} (h:bX jS xs) (i:Nat):jS (xs.getD i []):=gf h (Nat.zero_le _) i
@[grind] def vA (y:aa):Prop:=y.length≤20
@[grind! .] theorem AE {xs:List aa} (h:bX vA xs) (i:Nat):vA (xs.getD i []):=gf h (Nat.zero_le _) i
@[grind] def qh (y:aa):Prop:=y.length≤16777216
@[grind! .] theorem AC {xs:List aa} (h:bX qh xs) (i:Nat):qh (xs.getD i []):=gf h (Nat.zero_le _) i
@[grind=] theorem A8:bX sS ([[],[],[]]:List aa)=True:=by simp[bX,sS]
@[grind=] theorem Bc:bX sS ([[],[]]:List aa)=True:=by simp[bX,sS]
@[grind=] theorem A6:bX jS ([[],[],[]]:List aa)=True:=by simp[bX,jS]
@[grind=] theorem Bd:bX jS ([[],[]]:List aa)=True:=by simp[bX,jS]
@[grind=] theorem AR:bX vA ([[],[],[]]:List aa)=True:=by simp[bX,vA]
@[grind=] theorem AQ:bX vA ([[],[]]:List aa)=True:=by simp[bX,vA]
@[grind=] theorem AU:bX qh ([[],[],[]]:List aa)=True:=by simp[bX,qh]
@[grind=] theorem AI:bX qh ([[],[]]:List aa)=True:=by simp[bX,qh]
@[grind] def jM (x:Mac):Prop:=0≤x.k∧x.k<18446744073709551616∧0≤x.l∧x.l<18446744073709551616
@[grind] def jK (x:Acti):Prop:=0≤x.mac.k∧x.mac.k<18446744073709551616∧0≤x.mac.l∧x.mac.l<18446744073709551616
end Go.Proofs.YtfpdenjmlnhnnaaDoor
