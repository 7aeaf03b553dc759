/-
  Contracts of functions and plain laws (printed by a program): each theorem says what a function of the program returns; conditions are its hypotheses.
-/
import Derived.Test.YtfpdenjmlnhnnaaGreatDoorBase
set_option linter.all false
set_option maxRecDepth 4000
namespace Go.Proofs.YtfpdenjmlnhnnaaGreatDoor
open Go Go.RowKit
noncomputable section
@[reducible] def zp (t i:Nat):Nat×Bool×List Pt:=(t,false,[.ptr i 0])
@[reducible] def zi (t:Nat):Nat×Bool×List Pt:=(t,false,[.int .i64])
@[reducible] def zb (t:Nat):Nat×Bool×List Pt:=(t,false,[.bool])
@[reducible] def zu (t:Nat):Nat×Bool×List Pt:=(t,false,[.undef])
@[reducible] def zs (t:Nat):Nat×Bool×List Pt:=(t,false,[.str])
@[reducible] def zl (n:Nat)(t:Ty):Nat×Bool×List Pt:=(n,false,[.sl .arg t])
@[reducible] def zo (n k:Nat):Nat×Bool×List Pt:=(n,false,[.own k])
@[reducible] def zx (t:Ty):Osh:=.box [.st t []]
@[reducible] def zg (t:Ty):Osh:=.box [.st t [.sl .arg]]
@[reducible] def zk (t:Ty)(k:Nat):Osh:=.box [.st t [.own k]]
@[reducible] def zf :Osh:=.of false true
@[reducible] def za (t:Ty):Osh:=.arr t false true
theorem oA {P:Program}{f:Nat}{A:List PV}{c:Cell}(he:∀args w,(callFunc f args).run P w= .ok (.enter f args) w)
  (h:∀(w:World) (J:Nat→Prop) (vs:Array Value),(∀b,J b→b<w.heap.size)→GW w→am (BQ J w) A vs.toList→Calls P f vs w λe w'=>∃v,e= .returned v∧Below w.heap.size w w'∧RepC (λ_=>False) w' c v):x7 P f A [(false,[.c c])]:=by
 refine⟨he,λw J mo vs hJ hmo hinj hX hg hgx hA=> ?_⟩
 have hmo0:mo=[]:=(match mo,hmo with|[],_=>rfl|_::_,h=>h.elim)
 subst hmo0
 refine(h w J vs hJ hg hA).mono ?_
 rintro e w' ⟨v,rfl,hB,hr⟩
 refine⟨v,λ_=>False,λ_=>none,rfl,⟨hB.os,hB.tape,hB.output,hB.size,λb hb _=>hB.block b hb⟩, ?_, ?_, ?_, ?_,trivial,trivial⟩
 ·intro b h;exact h.elim
 ·intro i j b c c' h;cases h
 ·intro i b c h;cases h
 ·exact⟨hr.one,rfl,hr.mono (λ_ h=>h.elim) (λ_ h=>h.elim),trivial⟩
theorem Dt {R:PV→Value→Prop}{a:PV}{vs:Array Value}(h:am R [a] vs.toList):∃v,vs= #[v]∧R a v:=by
 obtain⟨l⟩:=vs
 match l,h with
 |[v],h=>exact⟨v,rfl,h.1⟩
theorem A5 {R:PV→Value→Prop}{a b:PV}{vs:Array Value}(h:am R [a,b] vs.toList):∃u v,vs= #[u,v]∧R a u∧R b v:=by
 obtain⟨l⟩:=vs
 match l,h with
 |[u,v],h=>exact⟨u,v,rfl,h.1,h.2.1⟩
theorem Ez {w:World}(h:GW w):Lib.TabIs Tryz.prog w "internal/strconv.uint64pow10" .u64 Lib.pow10Tab:=by
 obtain⟨t,z,h1⟩:=h (0,(List.range 20).map λi=>((10 ^ i:Nat):Int)) (by simp[xh])
 unfold Lib.TabIs World.var?
 rw[show Tryz.prog.globalNamed "internal/strconv.uint64pow10" =some 0 by kernel_rfl]
 simp only[Option.bind_some,h1]
 rfl
theorem wm {w:World}(k:Nat)(os:Array Obj):Below w.heap.size w (Go.Sort.grow (w.drewN k) os):=by
 have e:(w.drewN k).heap=w.heap:=by first|rfl|simp
 refine⟨by first|rfl|simp[Go.Sort.grow],by first|rfl|simp[Go.Sort.grow],by first|rfl|simp[Go.Sort.grow],by simp[Go.Sort.grow,e],λb hb=> ?_⟩
 simp only[Go.Sort.grow,e]
 rw[Array.getElem?_append_left hb]
def lr (x0:Int):aa:=Lib.itoa x0
theorem iG:∀(k u:Nat),u<10 ^ (k+1)→(Lib.decDigits u).length≤k+1
 |0,u,h=>by
  rw[Lib.decDigits]
  simp at h
  simp[h]
 |k+1,u,h=>by
  rw[Lib.decDigits]
  split
  ·simp
  ·have:u/10<10 ^ (k+1):=by
    rw[Nat.div_lt_iff_lt_mul (by omega)]
    rw[Nat.pow_succ]at h;exact h
   have:=iG k (u/10) this
   simp only[List.length_append,List.length_singleton]
   omega
theorem pj (x0:Int)(h:oy .i64 x0):(lr x0).length≤20:=by
 have h2:=C9 h
 unfold lr Lib.itoa
 split
 ·have:=iG 18 x0.natAbs (by omega)
  simp only[List.length_cons];omega
 ·have:=iG 18 x0.toNat (by omega)
  omega
theorem AF (x0:Int):x7 Tryz.prog 67 (pg [.sc (.int .i64)] (x0,())) [rv (.sc .str) [] (lr x0)]:=by
 refine oA (iW Tryz.func67 rfl (by kernel_rfl)) λw J vs hJ hg hA=> ?_
 obtain⟨v,rfl,c,hc,hr⟩:=Dt hA
 cases hc
 obtain⟨hk,rfl⟩:oy .i64 x0∧v= .int .i64 x0:=by cases hr with|int _ _ h=>exact⟨h,rfl⟩
 have hb:=C9 hk
 refine(Tryz.strconv_Itoa x0 hb.1 hb.2 w (Ez hg)).mono ?_
 rintro e w' ⟨rfl,k,os,rfl⟩
 refine⟨_,rfl,wm k os, ?_⟩
 have hl:=pj x0 hk
 exact .str ⟨(Lib.itoa x0).toArray⟩ (by show(Lib.itoa x0).length≤ah;unfold lr at hl;have:ah=4611686018427387904:=rfl;omega)
def nu (x0:aa)(x1:Int):Int:=Lib.indexByte x0 x1.toNat.toUInt8
theorem jT (c:UInt8):∀l:List UInt8,Lib.indexByte l c≤l.length
 |[]=>by simp[Lib.indexByte]
 |b::l=>by
  have:=jT c l
  simp only[Lib.indexByte,List.length_cons]
  split
  ·omega
  ·split<;>omega
theorem qQ (x0:aa)(x1:Int):x7 Tryz.prog 92 (pg [.sc .str,.sc (.int .u8)] (x0,x1,())) [rv (.sc (.int .i64)) [] (nu x0 x1)]:=by
 refine oA (iW Tryz.func92 rfl (by kernel_rfl)) λw J vs hJ hg hA=> ?_
 obtain⟨u,v,rfl,⟨c,hc,hr⟩,⟨d,hd,hs⟩⟩:=A5 hA
 cases hc;cases hd
 obtain⟨b,hbl,rfl,rfl⟩:∃b:ByteArray,b.data.toList.length≤ah∧x0=b.data.toList∧u= .string b:=by cases hr with|str b h=>exact⟨b,h,rfl,rfl⟩
 obtain rfl:v= .int .u8 x1:=by cases hs with|int _ _ h=>rfl
 refine(Tryz.strings_IndexByte b x1 w).mono ?_
 rintro e w' ⟨rfl,rfl⟩
 refine⟨_,rfl,Below.refl _ _, ?_⟩
 refine .int .i64 _ ?_
 have h1:=Lib.indexByte_ge b.data.toList x1.toNat.toUInt8
 have h2:=jT x1.toNat.toUInt8 b.data.toList
 have h3:ah=4611686018427387904:=rfl
 constructor
 ·show(-9223372036854775808:Int)≤Lib.indexByte b.data.toList x1.toNat.toUInt8;omega
 ·show Lib.indexByte b.data.toList x1.toNat.toUInt8≤(9223372036854775807:Int);omega
def dL (x0:List aa)(x1:aa):aa:=Lib.join x0 x1
theorem D6 (b:ByteArray):b=⟨b.data.toList.toArray⟩:=by cases b;simp
theorem AE (x0:List aa)(x1:aa)(hp:(dL x0 x1).length≤140737488355328):x7 Tryz.prog 81 (pg [.sc (.sl .str),.sc .str] (x0,x1,())) [rv (.sc .str) [] (dL x0 x1)]:=by
 refine oA (iW Tryz.func81 rfl (by kernel_rfl)) λw J vs hJ hg hA=> ?_
 obtain⟨u,v,rfl,⟨c,hc,hr⟩,⟨d,hd,hs⟩⟩:=A5 hA
 cases hc;cases hd
 obtain⟨b,hbl,rfl,rfl⟩:∃b:ByteArray,b.data.toList.length≤ah∧x1=b.data.toList∧v= .string b:=by cases hs with|str b h=>exact⟨b,h,rfl,rfl⟩
 have h3:ah=4611686018427387904:=rfl
 have fin:∀w',RepC (λ_=>False) w' (.str (dL x0 b.data.toList)) (.string ⟨(Lib.join x0 b.data.toList).toArray⟩):=λw'=>
  .str ⟨(Lib.join x0 b.data.toList).toArray⟩ (by show(Lib.join x0 b.data.toList).length≤ah;unfold dL at hp;omega)
 have none_:∀a cap,x0=[]→Calls Tryz.prog 81 #[.slice a 0 cap,.string b] w λe w'=>∃v,e= .returned v∧Below w.heap.size w w'∧RepC (λ_=>False) w' (.str (dL x0 b.data.toList)) v:=λa cap h=>by
  subst h
  refine(Tryz.strings_Join_none a cap b w).mono ?_
  rintro e w' ⟨rfl,rfl⟩
  exact⟨_,rfl,Below.refl _ _,fin _⟩
 cases hr with
 |nil=>exact none_ none 0 rfl
 |emp _ a cap=>exact none_ (some a) cap rfl
 |sl _ xs bk off cap us hJb hl hcap hcell hrep=>
  cases hx:x0 with
  |nil=>subst hx;exact none_ (some ⟨bk,off,none⟩) cap rfl
  |cons y ys=>
   have hlt:=hJ _ (hJb (by rw[hx];simp))
   have hm:(x0.map λx=>(⟨x.toArray⟩:ByteArray)).map (·.data.toList)=x0:=by
    rw[List.map_map]
    exact List.map_id' x0
   have:=Tryz.strings_Join bk off cap (x0.map λx=>(⟨x.toArray⟩:ByteArray)) b w (λj x hj=>by
    rw[List.getElem?_map]at hj
    obtain⟨z,hz,rfl⟩:=Option.map_eq_some_iff.1 hj
    have h4:=hcell j z 0 (.str z) hz rfl
    have h5:=hrep j z 0 (.str z) hz rfl
    have e:off+j*Ty.size .str+0=off+j:=by show off+j*1+0=off+j;omega
    rw[e]at h4
    rw[h4]
    generalize us j 0=q at h5
    cases h5 with
    |str bb _=>rw[←D6 bb]) hlt (by rw[List.length_map];exact hl) (by rw[List.length_map];exact hcap) (by rw[hm];exact hp)
   rw[hm,List.length_map]at this
   rw[←hx]
   refine this.mono ?_
   rintro e w' ⟨rfl,hB⟩
   exact⟨_,rfl,hB,fin _⟩
theorem CQ (x0:List aa)(x1:aa)(h0:x0.length≤65536)(h1:∀y∈x0,List.length y≤65536)(h2:x1.length≤65536):(dL x0 x1).length≤8589934592:=by
 unfold dL
 cases x0 with
 |nil=>simp[Lib.join_nil]
 |cons x r=>
  rw[Lib.join_cons]
  have key:∀r:List aa,(∀y∈r,List.length y≤65536)→(Lib.joinTail x1 r).length≤r.length*131072:=by
   intro r
   induction r with
   |nil=>intro _;simp[Lib.joinTail]
   |cons y r ih=>
    intro h
    have e:Lib.joinTail x1 (y::r)=(x1++y)++Lib.joinTail x1 r:=by simp[Lib.joinTail]
    rw[e]
    have:=ih λz hz=>h z (List.mem_cons_of_mem _ hz)
    have:=h y List.mem_cons_self
    simp only[List.length_append,List.length_cons]
    omega
  have a:=key r λz hz=>h1 z (List.mem_cons_of_mem _ hz)
  have b:=h1 x List.mem_cons_self
  simp only[List.length_append,List.length_cons]at h0⊢
  omega
noncomputable def vz:FT (Int×Unit) (aa) (λx=> -9223372036854775808≤x.1∧x.1≤9223372036854775807) (λ_ v=>v.length≤20):=⟨λx=> .ret (lr x.1),λx h=>Tr.R (pj x.1 ⟨h.1,h.2⟩)⟩
theorem B7 (x:Int×Unit)(_h: -9223372036854775808≤x.1∧x.1≤9223372036854775807):x7 Tryz.prog 67 (pg [.sc (.int .i64)] x) ((λv=>[(false,[.c (.str v)])]) (vz.f x)):=by obtain⟨x0,_⟩:=x;exact AF x0
noncomputable def B4:Ent1 Tryz.prog:=DF 67 (ks:=[.sc (.int .i64)]) vz.c (λv=>[(false,[.c (.str v)])]) B7
noncomputable def fA:FT (aa×Int×Unit) (Int) (λ_=>True) (λx v=> -1≤v∧v≤x.1.length):=⟨λx=> .ret (nu x.1 x.2.1),λx _=>Tr.R ⟨Lib.indexByte_ge x.1 x.2.1.toNat.toUInt8,jT x.2.1.toNat.toUInt8 x.1⟩⟩
theorem tU (x:aa×Int×Unit)(_h:True):x7 Tryz.prog 92 (pg [.sc .str,.sc (.int .u8)] x) ((λv=>[(false,[.c (.int .i64 v)])]) (fA.f x)):=by obtain⟨x0,x1,_⟩:=x;exact qQ x0 x1
noncomputable def tw:Ent1 Tryz.prog:=DF 92 (ks:=[.sc .str,.sc (.int .u8)]) fA.c (λv=>[(false,[.c (.int .i64 v)])]) tU
theorem ss (x0:List aa)(x1:aa)(h0:x0.length≤64)(h1:∀y∈x0,List.length y≤8192)(h2:x1.length≤8192):(dL x0 x1).length≤1048576:=by
 unfold dL
 cases x0 with
 |nil=>simp[Lib.join_nil]
 |cons x r=>
  rw[Lib.join_cons]
  have key:∀r:List aa,(∀y∈r,List.length y≤8192)→(Lib.joinTail x1 r).length≤r.length*16384:=by
   intro r
   induction r with
   |nil=>intro _;simp[Lib.joinTail]
   |cons y r ih=>
    intro h
    have e:Lib.joinTail x1 (y::r)=(x1++y)++Lib.joinTail x1 r:=by simp[Lib.joinTail]
    rw[e]
    have:=ih λz hz=>h z (List.mem_cons_of_mem _ hz)
    have:=h y List.mem_cons_self
    simp only[List.length_append,List.length_cons]
    omega
  have a:=key r λz hz=>h1 z (List.mem_cons_of_mem _ hz)
  have b:=h1 x List.mem_cons_self
  simp only[List.length_append,List.length_cons]at h0⊢
  omega
def xA:Nat→Int
 |0=>1
 |n+1=>10*xA n
theorem Bm (v:Int)(n:Nat)(h0:0≤v)(h:v<xA (12-n))(hn:v≠0)(hl:n≤12):n+1≤12∧0≤v.tdiv 10∧v.tdiv 10<xA (12-(n+1))∧(v.tdiv 10).toNat<v.toNat∧v.tdiv 10≤1000000000000:=by
 have hk:∀k:Nat,k≤12→xA k≤1000000000000:=by decide
 have hk2:=hk (12-n) (by omega)
 have h12:n≠12:=by
  rintro rfl
  have:xA (12-12)=1:=rfl
  omega
 have e:12-n=(12-(n+1))+1:=by omega
 have hv12:v≤1000000000000:=by omega
 rw[e]at h
 simp only[xA]at h
 rw[Int.tdiv_eq_ediv_of_nonneg h0]
 omega
theorem B8 (a b i:Int)(h0:0≤a)(h:a<xA i.toNat)(h1:0≤i)(h2:i<12)(h3:48≤b)(h4:b≤57):0≤IntKind.wrap .i64 (IntKind.wrap .i64 (10*a)+IntKind.wrap .i64 (IntKind.wrap .u8 (b-48)))∧IntKind.wrap .i64 (IntKind.wrap .i64 (10*a)+IntKind.wrap .i64 (IntKind.wrap .u8 (b-48)))<xA (i+1).toNat:=by
 have hk:∀k:Nat,k≤12→xA k≤1000000000000:=by decide
 have hk2:=hk i.toNat (by omega)
 have e:(i+1).toNat=i.toNat+1:=by omega
 rw[gn,ba (m:=10*a) (by omega) (by omega),ba (m:=(b-48)%256) (by omega) (by omega),ba (by omega) (by omega),e]
 simp only[xA]
 omega
theorem Co (k:Int)(h0:0≤k)(h1:k≤8):([0,2,1,3,1,3,3,2,2]:List Int).getD k.toNat 0=if k=0 then 0 else if k=1 then 2 else if k=2 then 1 else if k=3 then 3 else if k=4 then 1 else if k=5 then 3 else if k=6 then 3 else 2:=by
 have:k=0∨k=1∨k=2∨k=3∨k=4∨k=5∨k=6∨k=7∨k=8:=by omega
 rcases this with rfl|rfl|rfl|rfl|rfl|rfl|rfl|rfl|rfl<;>rfl
theorem DN (x:Int)(h0:0≤x)(h1:x≤4294967295):0≤x.fdiv 16777216∧x.fdiv 16777216≤255:=by
 rw[Int.fdiv_eq_ediv_of_nonneg _ (by omega)];omega
theorem D3 (s:aa)(i:Nat):0≤bits .and .u8 (au s i) 15∧bits .and .u8 (au s i) 15<16:=by
 unfold au
 have h:=(s.getD i 0).toNat_lt
 generalize(s.getD i 0).toNat=n at h
 have key:∀n:Nat,n<256→0≤bits .and .u8 (n:Int) 15∧bits .and .u8 (n:Int) 15<16:=by decide+kernel
 exact key n h
theorem xi (x0:List aa)(x1:aa)(h0:x0.length≤4)(h1:bf zn x0)(h2:x1.length≤1):(dL x0 x1).length≤112:=by
 unfold dL
 cases x0 with
 |nil=>simp[Lib.join_nil]
 |cons x r=>
  rw[Lib.join_cons]
  have key:∀r:List aa,(∀y∈r,List.length y≤20)→(Lib.joinTail x1 r).length≤r.length*21:=by
   intro r
   induction r with
   |nil=>intro _;simp[Lib.joinTail]
   |cons y r ih=>
    intro h
    have e:Lib.joinTail x1 (y::r)=(x1++y)++Lib.joinTail x1 r:=by simp[Lib.joinTail]
    rw[e]
    have:=ih λz hz=>h z (List.mem_cons_of_mem _ hz)
    have:=h y List.mem_cons_self
    simp only[List.length_append,List.length_cons]
    omega
  have a:=key r λz hz=>h1 z (List.mem_cons_of_mem _ hz)
  have b:List.length x≤20:=h1 x List.mem_cons_self
  simp only[List.length_append,List.length_cons]at h0⊢
  omega
noncomputable def uX:FT (List aa×aa×Unit) (aa) (λx=>x.1.length≤64∧bf jS x.1∧x.2.1.length≤8192) (λx v=>v.length≤1048576∧(x.1.length≤4→bf zn x.1→x.2.1.length≤1→v.length≤112)):=⟨λx=> .ret (dL x.1 x.2.1),λx h=>Tr.R ⟨ss x.1 x.2.1 h.1 h.2.1 h.2.2,xi x.1 x.2.1⟩⟩
theorem A4 (x:List aa×aa×Unit)(h:x.1.length≤64∧bf jS x.1∧x.2.1.length≤8192):x7 Tryz.prog 81 (pg [.sc (.sl .str),.sc .str] x) ((λv=>[(false,[.c (.str v)])]) (uX.f x)):=by
 obtain⟨x0,x1,_⟩:=x
 have:=ss x0 x1 h.1 h.2.1 h.2.2
 exact AE x0 x1 (by omega)
noncomputable def BA:Ent1 Tryz.prog:=DF 81 (ks:=[.sc (.sl .str),.sc .str]) uX.c (λv=>[(false,[.c (.str v)])]) A4
noncomputable def lS:FF (List Int×Unit) (Bool):=⟨λ(x0,_)=>
  .ret (decide (1048576<(x0.length:Int)))⟩
@[grind=] theorem D7 (x0:List Int):lS.f (x0,())=decide (1048576<(x0.length:Int)):=by
 simp only[lS,FF.f,Tr.nice]
noncomputable def zj:=tL st Tryz.func5 [] (ks:=[.sc (.sl .u8)]) lS rB
def n7:Sh:=⟨[zl 0 .u8,zi 3,zi 4],[]⟩
noncomputable def vv (v0:List Int)(v2:Int)(a:Int):Tr (Stp (Int) ((Int))):=
 .ite (decide (v2<4000)) (.grd (fN v0 v2)<|
  .val (IntKind.wrap .i64 ((IntKind.wrap .i64 (a*131))+(IntKind.wrap .i64 (v0.getD v2.toNat 0)))) λe1=>
  .ret (.next (bits .and .i64 (IntKind.wrap .i64 (e1+7)) 1073741823)))<|
 .ret (.out a)
noncomputable def jG:n7.V→v8 n7 Int (Int):=λ(v0,v1,v2,_)=>⟨v2,v1,λv2 a=>(v0,a,v2,()),λv2 _=>(decide (v2<(v0.length:Int))),vv v0,up,1,(Int.toNat ((v0.length:Int)-v2)),.inl,eR,oB (.exit 0) ⟨[zl 0 .u8,zu 2,zi 3],[]⟩ (λp=>(v0,p,())) (.exit 0) ⟨[zl 0 .u8,zu 2,zi 3],[]⟩ (λx=>(v0,x.2,()))⟩
theorem vO {v0:List Int}{v1 v2:Int}(h0:0≤v2)(h1:(v0.length:Int)≤4611686018427387904):(jG (v0,v1,v2,())).U (v0.length:Int) (λ_ _=>True) (λ_=>True):=
 pd (a:=v1) h0 h1 trivial
noncomputable def lw:FT (List Int×Unit) (Curs) (λx=>x.1.length≤1048576) (λx v=>ac v):= .mk (λ(x0,_)=>
  .lp (jG (x0,(IntKind.wrap .i64 (28655+(x0.length:Int))),0,())).lp λw2=> .sum w2 (λp2a0=>
  .ret (⟨x0,0,p2a0⟩:Curs))<|
  λ(_,a2_0)=>
  .ret (⟨x0,0,a2_0⟩:Curs)) (xb @vO)
noncomputable def iU:=ew st Tryz.func22 [(0,lb [0,3,4] [0,2,3])] [] 0 jG (ks:=[.sc (.sl .u8)]) lw (λv=>[rb .curs v])
noncomputable def dX:FT (Int×Unit) (aa) (λx=> -9223372036854775808≤x.1∧x.1≤9223372036854775807) (λx v=>sS v∧v.length≤20):= .mk λ(x0,_)=>
  .cal vz.c (x0,()) λc1=>
  .ret c1
noncomputable def mQ:=cr st Tryz.func29 [B4] (ks:=[.sc (.int .i64)]) dX (λv=>[(false,[.c (.str v)])])
def l5:Sh:=⟨[zi 0,zb 3,zs 4],[]⟩
noncomputable def fp (a:Int×aa):Tr (Stp (Int×aa) ((aa))):=
 .ite (a.1 != 0) (.ite (decide ((a.1.tmod 10)<0)) (.val (IntKind.wrap .u8 (IntKind.wrap .i64 (48+(IntKind.wrap .i64 (0-(a.1.tmod 10)))))) λe1=>
   .grd (Nat.ble ((aA [e1]).length+a.2.length) ah)<|
   .ret (.next ((IntKind.wrap .i64 (a.1.tdiv 10)),((aA [e1])++a.2))))<|
  .grd (Nat.ble ((aA [(IntKind.wrap .u8 (IntKind.wrap .i64 (48+(a.1.tmod 10))))]).length+a.2.length) ah)<|
  .val ((aA [(IntKind.wrap .u8 (IntKind.wrap .i64 (48+(a.1.tmod 10))))])++a.2) λe2=>
  .ret (.next ((IntKind.wrap .i64 (a.1.tdiv 10)),e2)))<|
 .ret (.out a.2)
noncomputable def cX:l5.V→LW l5 (Int×aa) ((aa)):=λ(v0,v1,v2,_)=>⟨(v0,v2),λa=>(a.1,v1,a.2,()),fp,Int.toNat v0,oN (.exit 0) ⟨[zu 2,zb 3,zs 4],[]⟩ (λp=>(v1,p,()))⟩
theorem tm {v0:Int}{v1:Bool}{v2:aa}(h0:0≤v0∧v2.length≤12∧v0<xA (12-v2.length)):(cX (v0,v1,v2,())).W (λp=>p.length≤12):=
 LW.okW (a:=(v0,v2)) (λa=>0≤a.1∧a.2.length≤12∧a.1<xA (12-a.2.length)) (λa=>Int.toNat a.1) rfl h0 λ(v0,v2) hv=>by
  refine Tr.I (λb0=>Tr.I (λb1=>Tr.V λe1 he1=>Tr.Gb ?_ λg2=>Tr.Rn ?_) λb1=>Tr.Gb ?_ λg2=>Tr.V λe2 he2=>Tr.Rn ?_) λb0=>Tr.Ro ?_
  all_goals ((first|(dsimp only at*;have hs:=Bm v0 v2.length hv.1 hv.2.2 (by simpa using b0) hv.2.1;have hw:IntKind.wrap .i64 (v0.tdiv 10)=v0.tdiv 10:=ba (by omega) (by omega);simp only[hw,Nat.ble_eq,ah,List.length_append,List.length_cons,List.length_nil,j8]at*;generalize v0.tdiv 10=q at*;grind)|grind))
noncomputable def fJ:FT (Int×Unit) (aa) (λx=>0≤x.1∧x.1≤999999999999) (λx v=>sS v∧v.length≤12):=⟨λ(x0,_)=>
  .ite (x0==0) (.ret [48])<|
  .lp (cX (x0,(decide (x0<0)),[],())).lp λp3a0=>
  .ite (decide (x0<0)) (.grd (Nat.ble (1+p3a0.length) ah)<|
   .ret ([45]++p3a0))<|
  .ret p3a0,
 λ(x0,_) hp=>by
  refine Tr.I (λb0=>Tr.R ?_) λb0=>Tr.L (tm ?_) (λa=>Empty.elim a) (λp3a0 hp3=>Tr.I (λb1=>Tr.Gb ?_ λg2=>Tr.R ?_) λb1=>Tr.R ?_)
  all_goals ((try simp only[cX,LW.lp,LW.cw,Cw.lp]at*)<;>(first|grind|(simp only[Nat.ble_eq,ah,List.length_append,List.length_cons,List.length_nil]at*;grind)|(have:xA (12-0)=1000000000000:=rfl;simp only[List.length_nil];grind)))⟩
noncomputable def ji:=CL st Tryz.func35 [(0,lb [0,3,4] [2,3,4])] [] 0 cX (ks:=[.sc (.int .i64)]) fJ (λv=>[(false,[.c (.str v)])])
def nM:Sh:=⟨[zs 0,(1,false,[.int .u8]),zo 5 0,zi 6,zi 7],[za .str]⟩
noncomputable def nl (v0:aa)(v1:Int)(v3:Int)(a:Int×List aa):Tr (Stp (Int×List aa) (Empty)):=
 .grd (fN v0 v3)<|
 .ite ((au v0 v3.toNat)==v1) (.grd (D0 v0 a.1 v3)<|
  .grd (vc a.2 1 16)<|
  .ret (.next ((IntKind.wrap .i64 (v3+1)),(a.2++[((v0.take v3.toNat).drop a.1.toNat)]))))<|
 .ret (.next (a.1,a.2))
noncomputable def eS:nM.V→tV nM (Int×List aa):=λ(v0,v1,v2,v3,v4,_)=>⟨v3,(v2,v4),λv3 a=>(v0,v1,a.1,v3,a.2,()),λv3 _=>(decide (v3<(v0.length:Int))),nl v0 v1,up,1,(Int.toNat ((v0.length:Int)-v3)),Empty.elim,Prod.mk,oN (.exit 0) ⟨[zs 0,zu 4,zo 5 0,zi 6],[za .str]⟩ (λx=>(v0,x.2.1,x.2.2,()))⟩
theorem vn {v0:aa}{v1 v2 v3:Int}{v4:List aa}(h0:0≤v3)(h1:(v0.length:Int)≤4611686018427387904)(h2:v0.length≤16777216)(h3:sS v0)(h4:0≤v2∧v2≤v3∧(v4.length:Int)≤v3∧bf sS v4∧bf tD v4):(eS (v0,v1,v2,v3,v4,())).U (v0.length:Int) (λv3 a=>0≤a.1∧a.1≤v3∧(a.2.length:Int)≤v3∧bf sS a.2∧bf tD a.2) (λ_=>True):=
 pd (a:=(v2,v4)) h0 h1 h4
noncomputable def jE:FT (aa×Int×Unit) (List aa) (λx=>x.1.length≤16777216) (λx v=>sL sS v∧v.length≤x.1.length+1∧1≤v.length∧bf tD v):=⟨λ(x0,x1,_)=>
  .lp (eS (x0,x1,0,0,[],())).lp λ(_,a1_0,a1_1)=>
  .grd (D0 x0 a1_0 (x0.length:Int))<|
  .grd (vc a1_1 1 16)<|
  .ret (a1_1++[((x0.take ((x0.length:Int).toNat)).drop a1_0.toNat)]),
 λ(x0,x1,_) hp=>by
  refine Tr.L (vn ?_ ?_ ?_ ?_ ?_) (λ(a1_0,a1_1) _=>Tr.G3 ?_ λ_=>Tr.Gb ?_ λ_=>Tr.R ?_) (λp=>Empty.elim p)
  all_goals ((try simp only[eS,LC.lp,LC.ct,Ct.lp]at*)<;>grind)⟩
noncomputable def ln:=ew st Tryz.func37 [(0,lb [0,1,5,6,7] [0,4,5,6])] [] 0 eS (ks:=[.sc .str,.sc (.int .u8)]) jE (λv=>[(false,[sc (.o true) .str v])])
def mf:Sh:=⟨[zs 0,zi 4,zi 5],[]⟩
noncomputable def lZ (v0:aa)(v2:Int)(a:Int):Tr (Stp (Int) ((Int))):=
 .bnd (β:=Bool×Unit) (.grd (fN v0 v2)<|
  .ite (decide ((au v0 v2.toNat)<48)) (.ret (true,()))<|
  .grd (fN v0 v2)<|
  .ret ((decide (57<(au v0 v2.toNat))),())) λ(u2a0,_)=>
 .ite u2a0 (.ret (.out a))<|
 .grd (fN v0 v2)<|
 .val (IntKind.wrap .i64 ((IntKind.wrap .i64 (10*a))+(IntKind.wrap .i64 (IntKind.wrap .u8 ((au v0 v2.toNat)-48))))) λe3=>
 .ret (.next e3)
noncomputable def fi:mf.V→v8 mf Int (Int):=λ(v0,v1,v2,_)=>⟨v2,v1,λv2 a=>(v0,a,v2,()),λv2 _=>(decide (v2<(v0.length:Int))),lZ v0,up,1,(Int.toNat ((v0.length:Int)-v2)),.inl,eR,oB .ret ⟨[zi 2,zb 3,zi 4],[]⟩ (λp=>(0,false,p,())) (.exit 0) ⟨[zu 2,zu 3,zi 4],[]⟩ (λx=>(x.2,()))⟩
theorem tq {v0:aa}{v1 v2:Int}(h0:0≤v2)(h1:(v0.length:Int)≤4611686018427387904):(fi (v0,v1,v2,())).U (v0.length:Int) (λ_ _=>True) (λ_=>True):=
 pd (a:=v1) h0 h1 trivial
noncomputable def cI:FT (aa×Unit) (Int×Bool) (λx=>sS x.1) (λ_ _=>True):= .mk (λ(x0,_)=>
  .bnd (β:=Bool×Unit) (.ite (decide ((x0.length:Int)<1)) (.ret (true,()))<|
   .ite (decide (12<(x0.length:Int))) (.ret (true,()))<|
   .ite (decide (1<(x0.length:Int))) (.grd (decide (0<(x0.length:Int)))<|
    .ret (((au x0 0)==48),()))<|
   .ret (false,())) λ(u1a0,_)=>
  .ite u1a0 (.ret (0,false))<|
  .lp (fi (x0,0,0,())).lp λw4=> .sum w4 (λ_=>
  .ret (0,false))<|
  λ(_,a4_0)=>
  .ret (a4_0,true)) (xb @tq)
noncomputable def mF:=ew st Tryz.func40 [(0,lb [0,4,5] [2,3,4]),(3000001,rA 0 23),(3000007,rA 0 39)] [] 0 fi (ks:=[.sc .str]) cI (λv=>[(false,[.c (.int .i64 v.1)]),(false,[.c (.bool v.2)])])
def m6:Sh:=⟨[zs 0,(1,false,[.int .u8]),zo 5 0,zi 6,zi 7],[za .str]⟩
noncomputable def f9 (v0:aa)(v1:Int)(v3:Int)(a:Int×List aa):Tr (Stp (Int×List aa) (Empty)):=
 .bnd (β:=Bool×Unit) (.ite (v3==(v0.length:Int)) (.ret (true,()))<|
  .grd (fN v0 v3)<|
  .ret (((au v0 v3.toNat)==v1),())) λ(u1a0,_)=>
 .ite u1a0 (.grd (D0 v0 a.1 v3)<|
  .grd (vc a.2 1 16)<|
  .ret (.next ((IntKind.wrap .i64 (v3+1)),(a.2++[((v0.take v3.toNat).drop a.1.toNat)]))))<|
 .ret (.next (a.1,a.2))
noncomputable def bW:m6.V→tV m6 (Int×List aa):=λ(v0,v1,v2,v3,v4,_)=>⟨v3,(v2,v4),λv3 a=>(v0,v1,a.1,v3,a.2,()),λv3 _=>(decide (v3≤(v0.length:Int))),f9 v0 v1,up,1,(Int.toNat ((v0.length:Int)-v3+1)),Empty.elim,Prod.mk,oN (.exit 0) ⟨[zu 4,zo 5 0],[za .str]⟩ (λx=>(x.2.2,()))⟩
theorem vQ {v0:aa}{v1 v2 v3:Int}{v4:List aa}(h0:0≤v3)(h1:(v0.length:Int)≤4611686018427387904)(h2:v0.length≤16777216)(h3:sS v0)(h4:0≤v2∧v2≤v3∧(v4.length:Int)≤v3∧bf sS v4∧bf tD v4):(bW (v0,v1,v2,v3,v4,())).S (λv3 a=>0≤a.1∧a.1≤v3∧(a.2.length:Int)≤v3∧bf sS a.2∧bf tD a.2) (λ_=>True):=by
 refine LC.okS h4 (λj a hj hv=>⟨⟨?_, ?_⟩, ?_⟩) (λa hv=> ?_)
 ·simp only[bW,decide_eq_true_eq]at*;omega
 ·simp only[bW]at*;exact Ek (by omega) (by omega)
 ·refine Tr.B (Q':=λ_=>True) (Tr.I (λ_=>Tr.R trivial) λ_=>Tr.G2 ?_ λ_=>Tr.R trivial) (λ(u1a0,_) _ _=>Tr.I (λ_=>Tr.G3 ?_ λ_=>Tr.Gb ?_ λ_=>Tr.Rn ?_) λ_=>Tr.Rn ?_)
  all_goals (try simp only[bW]at*)<;>((try simp only[Tr.nice,d7]at*)<;>grind)
 ·simp only[bW,decide_eq_false_iff_not]at*;omega
noncomputable def jF:FT (aa×Int×Unit) (List aa) (λx=>x.1.length≤16777216) (λx v=>sL sS v∧v.length≤x.1.length+1∧bf tD v):=⟨λ(x0,x1,_)=>
  .lp (bW (x0,x1,0,0,[],())).lp λ(_,_,a2_1)=>
  .ret a2_1,
 λ(x0,x1,_) hp=>by
  refine Tr.L (vQ ?_ ?_ ?_ ?_ ?_) (λ(a2_0,a2_1) _=>Tr.R ?_) (λp=>Empty.elim p)
  all_goals ((try simp only[bW,LC.lp,LC.ct,Ct.lp]at*)<;>grind)⟩
noncomputable def lk:=ew st Tryz.func42 [(0,lb [0,1,5,6,7] [4,5]),(3000006,rA 0 25)] [] 0 bW (ks:=[.sc .str,.sc (.int .u8)]) jF (λv=>[(false,[sc (.o true) .str v])])
noncomputable def i6:FT (Int×Int×Unit) (Mac) (λ_=>True) (λx v=>dF v∧v.k=x.1∧v.l=x.2.1):= .mk λ(x0,x1,_)=>
  .ret (⟨false,x0,x1,[]⟩:Mac)
noncomputable def jh:=cr st Tryz.func43 [] (ks:=[.sc (.int .u64),.sc (.int .u64)]) i6 (λv=>[(true,AU (.o true) v)])
def l7:Sh:=⟨[zs 0,zi 4,zi 5],[]⟩
noncomputable def dR (v0:aa)(v2:Int)(a:Int):Tr (Stp (Int) ((Int))):=
 .bnd (β:=Bool×Unit) (.grd (fN v0 v2)<|
  .ite (decide ((au v0 v2.toNat)<48)) (.ret (true,()))<|
  .grd (fN v0 v2)<|
  .ret ((decide (57<(au v0 v2.toNat))),())) λ(u2a0,_)=>
 .ite u2a0 (.ret (.out a))<|
 .grd (fN v0 v2)<|
 .val (IntKind.wrap .i64 ((IntKind.wrap .i64 (10*a))+(IntKind.wrap .i64 (IntKind.wrap .u8 ((au v0 v2.toNat)-48))))) λe3=>
 .ret (.next e3)
noncomputable def dQ:l7.V→v8 l7 Int (Int):=λ(v0,v1,v2,_)=>⟨v2,v1,λv2 a=>(v0,a,v2,()),λv2 _=>(decide (v2<(v0.length:Int))),dR v0,up,1,(Int.toNat ((v0.length:Int)-v2)),.inl,eR,oB .ret ⟨[zs 0,zi 2,zb 3,zi 4],[]⟩ (λp=>(v0,0,false,p,())) (.exit 0) ⟨[zs 0,zu 2,zu 3,zi 4],[]⟩ (λx=>(v0,x.2,()))⟩
theorem tv {v0:aa}{v1 v2:Int}(h0:0≤v2)(h1:(v0.length:Int)≤4611686018427387904)(h2:v0.length≤12)(h3:0≤v1∧v1<xA v2.toNat):(dQ (v0,v1,v2,())).U (v0.length:Int) (λv2 a=>0≤a∧a<xA v2.toNat) (λ_=>True):=
 LC.okU (i:=v2) (a:=v1) (λ_ _=>rfl) (λ_=>rfl) rfl h0 h1 h3 λv2 v1 hj hk hv=>by
  refine Tr.B (Q':=λ_=>True) (Tr.G2 ?_ λg0=>Tr.I (λb1=>Tr.R trivial) λb1=>Tr.G2 ?_ λg2=>Tr.R trivial) (λ(u2a0,_) hj2 qj2=>Tr.I (λb0=>Tr.Ro trivial) λb0=>Tr.G2 ?_ λg1=>Tr.V λe3 he3=>Tr.Rn ?_)
  all_goals ((try simp only[Tr.nice,d7]at*)<;>(first|grind|(have hs:=B8 v1 (au v0 v2.toNat) v2 (by grind) (by grind) (by grind) (by grind) (by grind) (by grind);grind)))
noncomputable def cU:FT (aa×Unit) (Int×Bool) (λx=>sS x.1) (λ_ _=>True):=⟨λ(x0,_)=>
  .bnd (β:=Bool×Unit) (.ite (decide ((x0.length:Int)<1)) (.ret (true,()))<|
   .ret ((decide (12<(x0.length:Int))),())) λ(u1a0,_)=>
  .ite u1a0 (.ret (0,false))<|
  .lp (dQ (x0,0,0,())).lp λw4=> .sum w4 (λ_=>
  .ret (0,false))<|
  λ(_,a4_0)=>
  .cal fJ.c (a4_0,()) λc5=>
  .ite (!(c5==x0)) (.ret (0,false))<|
  .ret (a4_0,true),
 λ(x0,_) hp=>by
  refine Tr.B (Q':=λ_=>True) (Tr.F (by kernel_rfl) trivial) (λ(u1a0,_) hj1 qj1=>Tr.I (λb0=>Tr.R trivial) λb0=>Tr.L (tv ?_ ?_ ?_ ?_) (λa4_0 i4=>Tr.Sr (Tr.C ?_ λc5 hc5 qc5=>Tr.F (by kernel_rfl) trivial)) (λp4a0 hp4=>Tr.Sl (Tr.R trivial)))
  all_goals ((try simp only[dQ,LC.lp,LC.ct,Ct.lp,Tr.nice,d7]at*)<;>(first|grind|((have hk:∀k:Nat,k≤12→xA k≤1000000000000:=by decide);have hp0:xA 0=1:=rfl;grind)))⟩
noncomputable def mq:=ew st Tryz.func46 [(0,lb [0,4,5] [0,2,3,4]),(3000001,rA 0 13),(3000007,rA 0 29)] [ji] 0 dQ (ks:=[.sc .str]) cU (λv=>[(false,[.c (.int .i64 v.1)]),(false,[.c (.bool v.2)])])
def kX:Sh:=⟨[zo 4 0,zi 5,zo 12 0,zi 13,zi 14],[za .str]⟩
noncomputable def gM (v3:List aa)(v2:Int)(a:Int):Tr (Stp (Int) ((Int))):=
 .grd (fN v3 v2)<|
 .cal cI.c ((v3.getD v2.toNat []),()) λc2=>
 .bnd (β:=Bool×Unit) (.ite (!c2.2) (.ret (true,()))<|
  .ite (decide (255<c2.1)) (.ret (true,()))<|
  .ret (((v3.length:Int) != 4),())) λ(u3a0,_)=>
 .ite u3a0 (.ret (.out a))<|
 .ret (.next (bits .or .i64 (IntKind.wrap .i64 (a*256)) c2.1))
noncomputable def eL:kX.V→v8 kX Int (Int):=λ(v0,v1,v2,v3,_)=>⟨v2,v0,λv2 a=>(a,v1,v2,v3,()),λv2 _=>(decide (v2<v1)),gM v3,up,1,(Int.toNat (v1-v2)),.inl,eR,oB .ret ⟨[zi 2,zb 3,zi 5],[]⟩ (λp=>(0,false,p,())) (.exit 0) ⟨[zu 2,zu 3,zi 5],[]⟩ (λx=>(x.2,()))⟩
theorem rY {v0 v1 v2:Int}{v3:List aa}(h0:0≤v2)(h1:v1≤4611686018427387904)(h2:sL sS v3)(h3:v1≤(v3.length:Int)):(eL (v0,v1,v2,v3,())).U v1 (λ_ _=>True) (λ_=>True):=
 pd (a:=v0) h0 h1 trivial
noncomputable def dM:FT (aa×Unit) (Int×Bool) (λx=>x.1.length≤16777216) (λ_ _=>True):= .mk (λ(x0,_)=>
  .cal jE.c (x0,46,()) λc1=>
  .lp (eL (0,(c1.length:Int),0,c1,())).lp λw4=> .sum w4 (λ_=>
  .ret (0,false))<|
  λ(_,a4_0)=>
  .ret (a4_0,true)) (xb @rY)
noncomputable def xK:=ew st Tryz.func49 [(0,lb [4,5,12,13,14] [2,3,5]),(3000007,rA 0 33)] [ln,mF] 0 eL (ks:=[.sc .str]) dM (λv=>[(false,[.c (.int .i64 v.1)]),(false,[.c (.bool v.2)])])
noncomputable def kK:FT (List aa×aa×Unit) (aa) (λx=>x.1.length≤64∧bf jS x.1∧x.2.1.length≤8192) (λx v=>sS v∧v.length≤1048576∧(x.1.length≤4→bf zn x.1→x.2.1.length≤1→v.length≤112)):=⟨λ(x0,x1,_)=>
  .cal uX.c (x0,x1,()) λc1=>
  .ret c1,
 λ(x0,x1,_) hp=>by
  refine Tr.C ?_ λ_ _ _=>Tr.R ?_
  all_goals (grind)⟩
noncomputable def sg:=cr st Tryz.func54 [BA] (ks:=[.sc (.sl .str),.sc .str]) kK (λv=>[(false,[.c (.str v)])])
def lP:Sh:=⟨[zl 0 .str,zs 1,zo 5 0,zi 6],[za .u8]⟩
noncomputable def iB (v0:List aa)(v1:aa)(v2:Int)(a:List Int):Tr (Stp (List Int) (Empty)):=
 .ite (decide (0<v2)) (.grd (Nat.ble ((2*(a.length+(a5 v1).length)+1024)*1) bn)<|
  .grd (fN v0 v2)<|
  .grd (Nat.ble ((2*((a++(a5 v1)).length+(a5 (v0.getD v2.toNat [])).length)+1024)*1) bn)<|
  .ret (.next ((a++(a5 v1))++(a5 (v0.getD v2.toNat [])))))<|
 .grd (fN v0 v2)<|
 .grd (Nat.ble ((2*(a.length+(a5 (v0.getD v2.toNat [])).length)+1024)*1) bn)<|
 .ret (.next (a++(a5 (v0.getD v2.toNat []))))
noncomputable def cY:lP.V→tV lP (List Int):=λ(v0,v1,v2,v3,_)=>⟨v2,v3,λv2 a=>(v0,v1,v2,a,()),λv2 _=>(decide (v2<(v0.length:Int))),iB v0 v1,up,1,(Int.toNat ((v0.length:Int)-v2)),Empty.elim,Prod.mk,oN (.exit 0) ⟨[zu 4,zo 5 0],[za .u8]⟩ (λx=>(x.2,()))⟩
theorem s8 {v0:List aa}{v1:aa}{v2:Int}{v3:List Int}(h0:0≤v2)(h1:(v0.length:Int)≤4611686018427387904)(h2:v0.length≤64)(h3:bf jS v0)(h4:v1.length≤8)(h5:(v3.length:Int)≤v2*8200∧(bf zn v0→v1.length≤1→(v3.length:Int)≤v2*28)):(cY (v0,v1,v2,v3,())).U (v0.length:Int) (λv2 a=>(a.length:Int)≤v2*8200∧(bf zn v0→v1.length≤1→(a.length:Int)≤v2*28)) (λ_=>True):=
 pd (a:=v3) h0 h1 h5
noncomputable def gt:FT (List aa×aa×Unit) (aa) (λx=>x.1.length≤64∧bf jS x.1∧x.2.1.length≤8) (λx v=>sS v∧v.length≤1048576∧(x.1.length≤4→bf zn x.1→x.2.1.length≤1→v.length≤112)):=⟨λ(x0,x1,_)=>
  .lp (cY (x0,x1,0,[],())).lp λ(_,a1_0)=>
  .ret (aA a1_0),
 λ(x0,x1,_) hp=>by
  refine Tr.L (s8 ?_ ?_ ?_ ?_ ?_ ?_) (λa1_0 _=>Tr.R ?_) (λp=>Empty.elim p)
  all_goals ((try simp only[cY,LC.lp,LC.ct,Ct.lp]at*)<;>grind)⟩
noncomputable def qq:=ew st Tryz.func55 [(0,lb [0,1,5,6] [4,5])] [] 0 cY (ks:=[.sc (.sl .str),.sc .str]) gt (λv=>[(false,[.c (.str v)])])
noncomputable def dT:FF (Int×Int×Int×Unit) (Bool):=⟨λ(x0,x1,x2,_)=>
  .ite (decide (x1≤x0)) (.ret (decide (x0≤x2)))<|
  .ret false⟩
@[grind=] theorem dE (x0 x1 x2:Int):dT.f (x0,x1,x2,())=(decide (x1≤x0)&&decide (x0≤x2)):=by
 simp only[dT,FF.f,Tr.nice]
 cases decide (x1≤x0)<;>rfl
noncomputable def jB:=tL st Tryz.func63 [] (ks:=[.sc (.int .i64),.sc (.int .i64),.sc (.int .i64)]) dT rB
def rR:Sh:=⟨[zs 0,zo 3 0,zi 7,zi 8],[za .u8]⟩
noncomputable def qR (v0:aa)(v2:Int)(a:List Int):Tr (Stp (List Int) (Empty)):=
 .grd (fN v0 v2)<|
 .grd ((decide (0≤((au v0 v2.toNat).fdiv 16)))&&(decide (((au v0 v2.toNat).fdiv 16)<16)))<|
 .val (au [48,49,50,51,52,53,54,55,56,57,97,98,99,100,101,102] (((au v0 v2.toNat).fdiv 16).toNat)) λe1=>
 .grd (fN v0 v2)<|
 .grd ((decide (0≤(bits .and .u8 (au v0 v2.toNat) 15)))&&(decide ((bits .and .u8 (au v0 v2.toNat) 15)<16)))<|
 .val (au [48,49,50,51,52,53,54,55,56,57,97,98,99,100,101,102] ((bits .and .u8 (au v0 v2.toNat) 15).toNat)) λe2=>
 .grd (vc a 2 1)<|
 .ret (.next (a++[e1,e2]))
noncomputable def gI:rR.V→tV rR (List Int):=λ(v0,v1,v2,v3,_)=>⟨v2,v3,λv2 a=>(v0,v1,v2,a,()),λv2 _=>(decide (v2<v1)),qR v0,up,1,(Int.toNat (v1-v2)),Empty.elim,Prod.mk,oN (.exit 0) ⟨[zu 2,zo 3 0],[za .u8]⟩ (λx=>(x.2,()))⟩
theorem x6 {v0:aa}{v1 v2:Int}{v3:List Int}(h0:0≤v2)(h1:v1≤4611686018427387904)(h2:v0.length≤65536)(h3:sS v0)(h4:v1≤4294967296)(h5:v1≤(v0.length:Int))(h6:(v3.length:Int)=2*v2):(gI (v0,v1,v2,v3,())).U v1 (λv2 a=>(a.length:Int)=2*v2) (λ_=>True):=
 LC.okU (i:=v2) (a:=v3) (λ_ _=>rfl) (λ_=>rfl) rfl h0 h1 h6 λv2 v3 hj hk hv=>by
  refine Tr.G2 ?_ λg0=>Tr.G2 ?_ λg1=>Tr.V λe1 he1=>Tr.G2 ?_ λg2=>Tr.G2 ?_ λg3=>Tr.V λe2 he2=>Tr.Gb ?_ λg4=>Tr.Rn ?_
  all_goals (((have hb:=qG v0 v2.toNat;first|exact D3 _ _|(rw[Int.fdiv_eq_ediv_of_nonneg _ (by omega)];omega)|grind)))
noncomputable def xg:FT (aa×Unit) (aa) (λx=>x.1.length≤65536) (λx v=>sS v∧v.length≤2*x.1.length):=⟨λ(x0,_)=>
  .lp (gI (x0,(x0.length:Int),0,[],())).lp λ(_,a3_0)=>
  .ret (aA a3_0),
 λ(x0,_) hp=>by
  refine Tr.L (x6 ?_ ?_ ?_ ?_ ?_ ?_ ?_) (λa3_0 _=>Tr.R ?_) (λp=>Empty.elim p)
  all_goals ((try simp only[gI,LC.lp,LC.ct,Ct.lp]at*)<;>grind)⟩
noncomputable def zQ:=ew st Tryz.func66 [(0,lb [0,3,7,8] [2,3])] [] 0 gI (ks:=[.sc .str]) xg (λv=>[(false,[.c (.str v)])])
noncomputable def bJ:FF (Int×Int×Int×Unit) (Bool):=⟨λ(x0,x1,x2,_)=>
  .ite (decide (x1≤x0)) (.ret (decide (x0≤x2)))<|
  .ret false⟩
@[grind=] theorem eq (x0 x1 x2:Int):bJ.f (x0,x1,x2,())=(decide (x1≤x0)&&decide (x0≤x2)):=by
 simp only[bJ,FF.f,Tr.nice]
 cases decide (x1≤x0)<;>rfl
noncomputable def cm:=tL st Tryz.func68 [] (ks:=[.sc (.int .i64),.sc (.int .i64),.sc (.int .i64)]) bJ rB
def ka:Sh:=⟨[zp 2 0,zp 3 1,zi 5],[zg .mac,zg .mac]⟩
noncomputable def gJ (v1 v2:Mac)(v0:Int)(a:Unit):Tr (Stp (Unit) ((Unit))):=
 .grd (fN v1.rows v0)<|
 .grd (fN v2.rows v0)<|
 .ite (!(((v1.rows.getD v0.toNat (Ty.zero .macRow)).input==(v2.rows.getD v0.toNat (Ty.zero .macRow)).input)&&(((v1.rows.getD v0.toNat (Ty.zero .macRow)).value==(v2.rows.getD v0.toNat (Ty.zero .macRow)).value)&&true))) (.ret (.out ()))<|
 .ret (.next ())
noncomputable def dz:ka.V→v8 ka Unit (Unit):=λ(v0,v1,v2,_)=>⟨v0,(),λv0 _=>(v0,v1,v2,()),λv0 _=>(decide (v0<(v1.rows.length:Int))),gJ v1 v2,up,1,(Int.toNat ((v1.rows.length:Int)-v0)),.inl,eR,oB .ret ⟨[zb 4],[]⟩ (λ_=>(false,())) (.exit 0) ⟨[zu 4],[]⟩ (λ_=>())⟩
theorem sH {v0:Int}{v1 v2:Mac}(h0:0≤v0)(h1:(v1.rows.length:Int)≤4611686018427387904)(h2:(v1.rows.length:Int)≤(v2.rows.length:Int)):(dz (v0,v1,v2,())).U (v1.rows.length:Int) (λ_ _=>True) (λ_=>True):=
 pd h0 h1 trivial
noncomputable def fe:FT (Mac×Mac×Unit) (Bool) (λx=>dF x.1∧dF x.2.1) (λ_ _=>True):= .mk (λ(x0,x1,_)=>
  .bnd (β:=Bool×Unit) (.ite (!(x0.use==x1.use)) (.ret (true,()))<|
   .ite (x0.k != x1.k) (.ret (true,()))<|
   .ite (x0.l != x1.l) (.ret (true,()))<|
   .ret (((x0.rows.length:Int) != (x1.rows.length:Int)),())) λ(u1a0,_)=>
  .ite u1a0 (.ret false)<|
  .lp (dz (0,x0,x1,())).lp λw2=> .sum w2 (λ_=>
  .ret false)<|
  λ_=>
  .ret true) (xb @sH)
noncomputable def wX:=ew st Tryz.func69 [(0,lb [2,3,5] [4]),(3000001,rA 0 33)] [] 0 dz (ks:=[.st .mac,.st .mac]) fe rB
noncomputable def oO:=[cm]
def eT:Sh:=⟨[zp 1 0,zi 3,zi 4],[zg .mac]⟩
def gi:Sh:=⟨[zp 1 0,zi 3],[zg .mac]⟩
noncomputable def oG:Fx:=⟨70,Tryz.f70,[(2,lb [1,3,4] [1,2,3]),(0,lb [1,3] [1,2])],0⟩
noncomputable def gC (vb0:Int)(vb2:Mac)(vb1:Int)(a:Unit):Tr (Stp (Unit) ((Unit))):=
 .grd (fN vb2.rows vb1)<|
 .grd (fN vb2.rows vb0)<|
 .ite ((vb2.rows.getD vb1.toNat (Ty.zero .macRow)).input==(vb2.rows.getD vb0.toNat (Ty.zero .macRow)).input) (.ret (.out ()))<|
 .ret (.next ())
noncomputable def ca:eT.V→v8 eT Unit (Unit):=λ(vb0,vb1,vb2,_)=>⟨vb1,(),λvb1 _=>(vb0,vb1,vb2,()),λvb1 _=>(decide (vb1<vb0)),gC vb0 vb2,up,1,(Int.toNat (vb0-vb1)),.inl,eR,oB .ret ⟨[zp 1 0,zb 2,zi 3],[zg .mac]⟩ (λ_=>(false,vb0,vb2,())) (.exit 2) ⟨[zp 1 0,zu 2,zi 3],[zg .mac]⟩ (λ_=>(vb0,vb2,()))⟩
theorem rC:LS Tryz.prog oG [0,0] (sZ 2 eT ca):=lQ st (cf oO) _ ca [] trivial
theorem qV {vb0 vb1:Int}{vb2:Mac}(h0:0≤vb1)(h1:vb0≤4611686018427387904)(h2:vb0≤(vb2.rows.length:Int))(h3:0≤vb0)(h4:vb0<(vb2.rows.length:Int)):(ca (vb0,vb1,vb2,())).U vb0 (λ_ _=>True) (λ_=>True):=
 pd h0 h1 trivial
noncomputable def jx (v1:Mac)(v0:Int)(a:Unit):Tr (Stp (Unit) ((Unit))):=
 .grd (fN v1.rows v0)<|
 .val (bJ.f ((v1.rows.getD v0.toNat (Ty.zero .macRow)).value,0,16777215,())) λc1=>
 .ite (!c1) (.ret (.out ()))<|
 .lp (ca (v0,0,v1,())).lp λw2=> .sum w2 (λ_=>
 .ret (.out ()))<|
 λ_=>
 .ret (.next ())
noncomputable def dI:gi.V→v8 gi Unit (Unit):=λ(v0,v1,_)=>⟨v0,(),λv0 _=>(v0,v1,()),λv0 _=>(decide (v0<(v1.rows.length:Int))),jx v1,up,1,(Int.toNat ((v1.rows.length:Int)-v0)),.inl,eR,oB .ret ⟨[zp 1 0,zb 2],[zg .mac]⟩ (λ_=>(false,v1,())) (.exit 0) ⟨[zp 1 0,zu 2],[zg .mac]⟩ (λ_=>(v1,()))⟩
theorem u6:LS Tryz.prog oG [0] (sZ 0 gi dI):=lQ st (cf oO) _ dI [(sZ 2 eT ca)] ⟨rC,trivial⟩
theorem vq {v0:Int}{v1:Mac}(h0:0≤v0)(h1:(v1.rows.length:Int)≤4611686018427387904)(h2:dF v1):(dI (v0,v1,())).U (v1.rows.length:Int) (λ_ _=>True) (λ_=>True):=
 LC.okU (i:=v0) (a:=()) (λ_ _=>rfl) (λ_=>rfl) rfl h0 h1 trivial λv0 _ hj hk hv=>by
  refine Tr.G2 ?_ λ_=>Tr.V λ_ _=>Tr.I (λ_=>Tr.Ro trivial) λ_=>Tr.L (qV ?_ ?_ ?_ ?_ ?_) (λ_ _=>Tr.Sr (Tr.Rn trivial)) (λ_ _=>Tr.Sl (Tr.Ro trivial))
  all_goals ((try simp only[ca,LC.lp,LC.ct,Ct.lp]at*)<;>grind)
noncomputable def n0:FT (Mac×Unit) (Bool) (λx=>dF x.1) (λx v=>(v=true→x.1.rows.length≤64)):= .mk (λ(x0,_)=>
  .ite (!x0.use) (.ret ((x0.rows.length:Int)==0))<|
  .lp (dI (0,x0,())).lp λw3=> .sum w3 (λ_=>
  .ret false)<|
  λ_=>
  .ite (x0.k==0) (.ite (x0.l==0) (.ret (decide ((x0.rows.length:Int)≤64)))<|
   .ret false)<|
  .ret false) (xb @vq)
noncomputable def Au:=ol st oG oO [(sZ 0 gi dI)] (ks:=[.st .mac]) n0 rB Tryz.func70 ⟨u6,trivial⟩
def m5:Sh:=⟨[zs 0,zo 4 0,zi 5],[za .u8]⟩
noncomputable def nC (v0:aa)(v1:Int)(a:List Int):Tr (Stp (List Int) ((List Int))):=
 .grd (fN v0 v1)<|
 .cal fA.c ([48,49,50,51,52,53,54,55,56,57,97,98,99,100,101,102],(au v0 v1.toNat),()) λc1=>
 .grd (fN v0 (IntKind.wrap .i64 (v1+1)))<|
 .cal fA.c ([48,49,50,51,52,53,54,55,56,57,97,98,99,100,101,102],(au v0 ((IntKind.wrap .i64 (v1+1)).toNat)),()) λc2=>
 .bnd (β:=Bool×Unit) (.ite (decide (c1<0)) (.ret (true,()))<|
  .ret ((decide (c2<0)),())) λ(u3a0,_)=>
 .ite u3a0 (.ret (.out a))<|
 .grd (vc a 1 1)<|
 .ret (.next (a++[(IntKind.wrap .u8 (bits .or .i64 (IntKind.wrap .i64 (c1*16)) c2))]))
noncomputable def bX:m5.V→v8 m5 (List Int) (List Int):=λ(v0,v1,v2,_)=>⟨v1,v2,λv1 a=>(v0,v1,a,()),λv1 _=>(decide (v1<(v0.length:Int))),nC v0,λv1=>IntKind.wrap .i64 (v1+2),2,(Int.toNat (((v0.length:Int)-v1+1)/2)),.inl,eR,oB .ret ⟨[zs 2,zb 3,zo 4 0],[za .u8]⟩ (λp=>([],false,p,())) (.exit 0) ⟨[zu 2,zu 3,zo 4 0],[za .u8]⟩ (λx=>(x.2,()))⟩
theorem vo {v0:aa}{v1:Int}{v2:List Int}(h0:0≤v1)(h1:(v0.length:Int)≤4611686018427387904)(h2:(v0.length:Int)%2=0)(h3:sS v0)(h4:(v2.length:Int)≤v1∧v1%2=0):(bX (v0,v1,v2,())).S (λv1 a=>(a.length:Int)≤v1∧v1%2=0) (λp=>sS p):=by
 refine LC.okS h4 (λj a hj hv=>⟨⟨?_, ?_⟩, ?_⟩) (λa hv=> ?_)
 ·simp only[bX,decide_eq_true_eq]at*;omega
 ·simp only[bX]at*;exact ba (by omega) (by omega)
 ·refine Tr.G2 ?_ λ_=>Tr.C trivial λ_ _ _=>Tr.G2 ?_ λ_=>Tr.C trivial λ_ _ _=>Tr.B (Q':=λ_=>True) (Tr.F (by kernel_rfl) trivial) (λ(u3a0,_) _ _=>Tr.I (λ_=>Tr.Ro ?_) λ_=>Tr.Gb ?_ λ_=>Tr.Rn ?_)
  all_goals (try simp only[bX]at*)<;>((try simp only[Tr.nice,d7]at*)<;>first|grind|(simp only[sS,List.length_cons,List.length_nil];grind))
 ·simp only[bX,decide_eq_false_iff_not]at*;omega
noncomputable def jy:FT (aa×Unit) (aa×Bool) (λx=>sS x.1) (λx v=>sS v.1∧v.1.length≤x.1.length):=⟨λ(x0,_)=>
  .ite (((x0.length:Int).tmod 2) != 0) (.ret ([],false))<|
  .lp (bX (x0,0,[],())).lp λw4=> .sum w4 (λ_=>
  .ret ([],false))<|
  λ(_,a4_0)=>
  .ret ((aA a4_0),true),
 λ(x0,_) hp=>by
  refine Tr.I (λ_=>Tr.R ?_) λ_=>Tr.L (vo ?_ ?_ ?_ ?_ ?_) (λa4_0 _=>Tr.Sr (Tr.R ?_)) (λp4a0 _=>Tr.Sl (Tr.R ?_))
  all_goals ((try simp only[bX,LC.lp,LC.ct,Ct.lp]at*)<;>grind)⟩
noncomputable def uc:=ew st Tryz.func74 [(0,lb [0,4,5] [2,3,4]),(3000008,rA 0 33)] [tw] 0 bX (ks:=[.sc .str]) jy (λv=>[(false,[.c (.str v.1)]),(false,[.c (.bool v.2)])])
def ku:Sh:=⟨[zs 0,zi 1,zi 2,zi 8,zi 9],[]⟩
noncomputable def aZ (v0:aa)(v1:Int)(v4:Int)(a:Int):Tr (Stp (Int) (Empty)):=
 .grd (fN v0 (IntKind.wrap .i64 (v1+v4)))<|
 .val (IntKind.wrap .i64 ((IntKind.wrap .i64 (256*a))+(IntKind.wrap .i64 (au v0 ((IntKind.wrap .i64 (v1+v4)).toNat))))) λe4=>
 .ret (.next e4)
noncomputable def dA:ku.V→tV ku Int:=λ(v0,v1,v2,v3,v4,_)=>⟨v4,v3,λv4 a=>(v0,v1,v2,a,v4,()),λv4 _=>(decide (v4<v2)),aZ v0 v1,up,1,(Int.toNat (v2-v4)),Empty.elim,Prod.mk,oN (.exit 0) ⟨[zu 6,zu 7,zi 8],[]⟩ (λx=>(x.2,()))⟩
theorem sA {v0:aa}{v1 v2 v3 v4:Int}(h0:0≤v4)(h1:v2≤4611686018427387904)(h2:0≤v1)(h3:v1+v2≤(v0.length:Int))(h4:sS v0):(dA (v0,v1,v2,v3,v4,())).U v2 (λ_ _=>True) (λ_=>True):=
 pd (a:=v3) h0 h1 trivial
noncomputable def fa:FT (aa×Int×Int×Unit) (Int×Bool) (λx=>sS x.1) (λ_ _=>True):= .mk (λ(x0,x1,x2,_)=>
  .bnd (β:=Bool×Unit) (.val (bJ.f (x2,1,6,())) λc1=>
   .ite (!c1) (.ret (true,()))<|
   .val (bJ.f (x1,0,(IntKind.wrap .i64 ((x0.length:Int)-x2)),())) λc2=>
   .ret ((!c2),())) λ(u3a0,_)=>
  .ite u3a0 (.ret (0,false))<|
  .lp (dA (x0,x1,x2,0,0,())).lp λ(_,a5_0)=>
  .ret (a5_0,true)) (xb @sA)
noncomputable def w6:=ew st Tryz.func76 [(0,lb [0,1,2,8,9] [6,7,8]),(3000001,rA 0 21)] [cm] 0 dA (ks:=[.sc .str,.sc (.int .i64),.sc (.int .i64)]) fa (λv=>[(false,[.c (.int .i64 v.1)]),(false,[.c (.bool v.2)])])
noncomputable def yB:List (Ent1 Tryz.prog):=[]
noncomputable def y8:Fx:=⟨78,Tryz.f78,[(3000001,rA 0 8),(3000003,rA 0 17)],0⟩
noncomputable def nF:FF (Int×Unit) (Int):=⟨λ(x0,_)=>
  .bnd (β:=Bool×Unit) (.ite (decide (48≤x0)) (.ret ((decide (x0≤57)),()))<|
   .ret (false,())) λ(u1a0,_)=>
  .ite u1a0 (.ret (IntKind.wrap .i64 ((IntKind.wrap .i64 x0)-48)))<|
  .bnd (β:=Bool×Unit) (.ite (decide (97≤x0)) (.ret ((decide (x0≤102)),()))<|
   .ret (false,())) λ(u2a0,_)=>
  .ite u2a0 (.val (IntKind.wrap .i64 ((IntKind.wrap .i64 ((IntKind.wrap .i64 x0)-97))+10)) λe3=>
   .ret e3)<|
  .ret (-1)⟩
noncomputable def xX:=Bn st y8 yB [] (ks:=[.sc (.int .u8)]) nF rI Tryz.func78 trivial
noncomputable def bj:FT (Int×Int×Unit) (Bool) (λ_=>True) (λx v=>(x.2.1=32→(v=true↔0≤x.1∧x.1≤4294967295))∧(x.2.1=16→(v=true↔0≤x.1∧x.1≤65535))∧(x.2.1=48→(v=true↔0≤x.1∧x.1≤281474976710655))∧(x.2.1=8→(v=true↔0≤x.1∧x.1≤255))∧(x.2.1=6→(v=true↔0≤x.1∧x.1≤63))):= .mk λ(x0,x1,_)=>
  .val (dT.f (x1,1,62,())) λc1=>
  .ite c1 (.grd (decide (0≤x1))<|
   .val (IntKind.wrap .i64 ((IntKind.wrap .i64 (1*2 ^ (min x1.toNat 64)))-1)) λe2=>
   .val (dT.f (x0,0,e2,())) λc3=>
   .ret c3)<|
  .ret false
@[grind=] theorem ko (x:Int):bj.f (x,32,())=(decide (0≤x)&&decide (x≤4294967295)):=by
 have h:=bj.c.h (x,32,()) trivial
 rw[Bool.eq_iff_iff]
 grind
@[grind=] theorem wQ (x:Int):bj.f (x,16,())=(decide (0≤x)&&decide (x≤65535)):=by
 have h:=bj.c.h (x,16,()) trivial
 rw[Bool.eq_iff_iff]
 grind
@[grind=] theorem C1 (x:Int):bj.f (x,48,())=(decide (0≤x)&&decide (x≤281474976710655)):=by
 have h:=bj.c.h (x,48,()) trivial
 rw[Bool.eq_iff_iff]
 grind
@[grind=] theorem zd (x:Int):bj.f (x,8,())=(decide (0≤x)&&decide (x≤255)):=by
 have h:=bj.c.h (x,8,()) trivial
 rw[Bool.eq_iff_iff]
 grind
@[grind=] theorem DS (x:Int):bj.f (x,6,())=(decide (0≤x)&&decide (x≤63)):=by
 have h:=bj.c.h (x,6,()) trivial
 rw[Bool.eq_iff_iff]
 grind
noncomputable def qD:=cr st Tryz.func80 [jB] (ks:=[.sc (.int .i64),.sc (.int .i64)]) bj rB
noncomputable def sN:FT (List MacRow×Unit) (Mac) (λx=>sL aQ x.1) (λx v=>dF v∧v.k=0∧v.l=0):= .mk λ(x0,_)=>
  .grd (Nat.ble ((2*(0+x0.length)+1024)*24) bn)<|
  .ret (⟨true,0,0,([]++x0)⟩:Mac)
noncomputable def vP:=cr st Tryz.func84 [] (ks:=[.sc (.sl .macRow)]) sN (λv=>[(true,AU (.o true) v)])
def fU:Sh:=⟨[zl 0 .macRow,zl 1 .macRow,zi 12,zi 13],[]⟩
noncomputable def fV (v0 v1:List MacRow)(v3:Int)(a:Unit):Tr (Stp (Unit) ((Unit))):=
 .grd (fN v0 v3)<|
 .grd (fN v1 v3)<|
 .ite (!(((v0.getD v3.toNat (Ty.zero .macRow)).input==(v1.getD v3.toNat (Ty.zero .macRow)).input)&&(((v0.getD v3.toNat (Ty.zero .macRow)).value==(v1.getD v3.toNat (Ty.zero .macRow)).value)&&true))) (.ret (.out ()))<|
 .ret (.next ())
noncomputable def cy:fU.V→v8 fU Unit (Unit):=λ(v0,v1,v2,v3,_)=>⟨v3,(),λv3 _=>(v0,v1,v2,v3,()),λv3 _=>(decide (v3<v2)),fV v0 v1,up,1,(Int.toNat (v2-v3)),.inl,eR,oB .ret ⟨[zb 4],[]⟩ (λ_=>(false,())) (.exit 0) ⟨[zu 4],[]⟩ (λ_=>())⟩
theorem lB {v0 v1:List MacRow}{v2 v3:Int}(h0:0≤v3)(h1:v2≤4611686018427387904)(h2:v2≤(v0.length:Int))(h3:v2≤(v1.length:Int)):(cy (v0,v1,v2,v3,())).U v2 (λ_ _=>True) (λ_=>True):=
 pd h0 h1 trivial
noncomputable def eI:FT (List MacRow×List MacRow×Unit) (Bool) (λx=>sL aQ x.1∧sL aQ x.2.1) (λ_ _=>True):= .mk (λ(x0,x1,_)=>
  .ite ((x0.length:Int) != (x1.length:Int)) (.ret false)<|
  .lp (cy (x0,x1,(x0.length:Int),0,())).lp λw1=> .sum w1 (λ_=>
  .ret false)<|
  λ_=>
  .ret true) (xb @lB)
noncomputable def oU:=ew st Tryz.func89 [(0,lb [0,1,12,13] [4])] [] 0 cy (ks:=[.sc (.sl .macRow),.sc (.sl .macRow)]) eI rB
noncomputable def nB:FF (Int×Unit) (Int):=⟨λ(x0,_)=>
  .ite (decide (x0<10)) (.ret (IntKind.wrap .u8 (x0+48)))<|
  .ret (IntKind.wrap .u8 ((IntKind.wrap .u8 (x0-10))+97))⟩
noncomputable def AO:=tL st Tryz.func91 [] (ks:=[.sc (.int .u8)]) nB (λv=>[(false,[.c (.int .u8 v)])])
noncomputable def oD:FF (Int×Segm×Unit) (Tupl):=⟨λ(x0,x1,_)=>
  .ret (⟨x0,x1.from_,x1.to⟩:Tupl)⟩
noncomputable def wG:=tL st Tryz.func101 [] (ks:=[.sc (.int .i64),.st .segm]) oD (λv=>[(true,oM v)])
noncomputable def ia:FF (Unit) (Opti):=⟨λ_=>
  .ret (⟨0,(-1),false,false,0,0⟩:Opti)⟩
noncomputable def iE:=tL st Tryz.func121 [] (ks:=[]) ia (λv=>[(true,yJ v)])
noncomputable def bH:FF (Int×Unit) (Int):=⟨λ(x0,_)=>
  .ite (decide ((x0.tmod 4294967296)<0)) (.ret (IntKind.wrap .i64 ((x0.tmod 4294967296)+4294967296)))<|
  .ret (x0.tmod 4294967296)⟩
@[grind=] theorem Db (x0:Int):bH.f (x0,())=(x0%4294967296):=by
 simp only[bH,FF.f,Tr.nice]
 rcases Int.lt_or_le x0 0 with h|h
 ·rw[(eC 4294967296).2 h,gA]
  cases hd:decide (-(-x0%4294967296)<0)with
  |true=>simp only[decide_eq_true_eq]at hd;simp only[cond_true];omega
  |false=>simp only[decide_eq_false_iff_not]at hd;simp only[cond_false];omega
 ·rw[(eC 4294967296).1 h,gA]
  cases hd:decide (x0%4294967296<0)with
  |true=>simp only[decide_eq_true_eq]at hd;omega
  |false=>rfl
noncomputable def gp:=tL st Tryz.func122 [] (ks:=[.sc (.int .i64)]) bH rI
noncomputable def sR:FT (Sndr×Unit) (Int) (λx=>nn x.1) (λx v=>(0≤x.1.sent∧x.1.sent≤1000→x.1.sent≤v∧v≤x.1.sent+1)):= .mk λ(x0,_)=>
  .ite x0.finSent (.ret (IntKind.wrap .i64 (x0.sent+1)))<|
  .ret x0.sent
noncomputable def vd:=cr st Tryz.func125 [] (ks:=[.st .sndr]) sR rI
noncomputable def rp:FT (Int×Unit) (aa) (λx=>0≤x.1∧x.1≤1048576) (λx v=>sS v):= .mk λ(x0,_)=>
  .grd ((((decide (0≤x0))&&(decide (x0=x0)))&&(decide (x0*1≤(bn:Int))))&&(decide (x0≤(bn:Int))))<|
  .ret (aA (List.replicate x0.toNat 0))
noncomputable def qT:=cr st Tryz.func143 [] (ks:=[.sc (.int .i64)]) rp (λv=>[(false,[.c (.str v)])])
noncomputable def qa:FF (Int×Int×Unit) (Int):=⟨λ(x0,x1,_)=>
  .ite (decide (x1<x0)) (.ret x0)<|
  .ret x1⟩
@[grind=] theorem DA (x0 x1:Int):qa.f (x0,x1,())=(if x1<x0 then x0 else x1):=by
 simp only[qa,FF.f,Tr.nice]
 by_cases h:x1<x0<;>simp[h]
noncomputable def AD:=tL st Tryz.func144 [] (ks:=[.sc (.int .i64),.sc (.int .i64)]) qa rI
noncomputable def wv:=[cm,gp]
def sG:An:=⟨⟨[],[],false,0⟩,⟨[0,1,6,7],[],false,0⟩,⟨[],[]⟩,[(.normal,⟨[zi 0,zi 1,zi 6,zi 7],[]⟩)]⟩
noncomputable def wW:Fx:=⟨147,Tryz.f147,[(1000008,sG)],0⟩
noncomputable def uD:FF (Int×Int×Bool×Unit) (Int):=⟨λ(x0,x1,x2,_)=>
  .bnd (β:=Int×Int×Int×Int×Unit) (.ite x2 (.ret (x0,x1,0,48,()))<|
   .ret (x0,x1,0,32,())) λ(u1a0,u1a1,_,u1a3,_)=>
  .val (bJ.f (u1a1,0,14,())) λc2=>
  .ite c2 (.val (bH.f (u1a0,())) λc3=>
   .val (IntKind.wrap .i64 ((IntKind.wrap .i64 (c3*64))+(IntKind.wrap .i64 (u1a3+u1a1)))) λe4=>
   .val (bH.f (e4,())) λc5=>
   .ret c5)<|
  .val (bH.f (u1a0,())) λc6=>
  .val (IntKind.wrap .i64 ((IntKind.wrap .i64 (c6*64))+(IntKind.wrap .i64 (u1a3+15)))) λe7=>
  .val (bH.f (e7,())) λc8=>
  .ret c8⟩
noncomputable def xJ:=Bn st wW wv [] (ks:=[.sc (.int .i64),.sc (.int .i64),.sc .bool]) uD rI Tryz.func147 trivial
def l8:Sh:=⟨[zi 0],[]⟩
noncomputable def td (a:Int):Tr (Stp (Int) ((Int))):=
 .ite (decide (65535<a)) (.val (IntKind.wrap .i64 ((IntKind.wrap .i64 (a.tdiv 65536))+(a.tmod 65536))) λe1=>
  .ret (.next e1))<|
 .ret (.out a)
noncomputable def iD:l8.V→LW l8 (Int) ((Int)):=λ(v0,_)=>⟨v0,λa=>(a,()),td,Int.toNat v0,oN (.exit 0) ⟨[zi 0,zu 2],[]⟩ (λp=>(p,()))⟩
theorem tk {v0:Int}(h0:0≤v0∧v0≤9223372036854775807):(iD (v0,())).W (λp=>0≤p∧p≤65535):=
 LW.okW (a:=v0) (λa=>0≤a∧a≤9223372036854775807) (λa=>Int.toNat a) rfl h0 λv0 hv=>by
  refine Tr.I (λb0=>Tr.V λe1 he1=>Tr.Rn ?_) λb0=>Tr.Ro ?_
  all_goals (((try subst_vars);simp only[decide_eq_true_eq,decide_eq_false_iff_not]at*;first|omega|(rw[z0 (by omega) (by omega)];omega)|grind))
noncomputable def we:FT (Int×Unit) (Int) (λx=>x.1≤9223372036854775807) (λx v=>0≤v∧v≤65535):= .mk (λ(x0,_)=>
  .ite (decide (x0<0)) (.ret 0)<|
  .lp (iD (x0,())).lp λp2a0=>
  .ret p2a0) (xb @tk)
noncomputable def yj:=CL st Tryz.func150 [(0,lb [0] [0,2])] [] 0 iD (ks:=[.sc (.int .i64)]) we rI
def kC:Sh:=⟨[zs 0,zi 3,zi 4],[]⟩
noncomputable def sf (v0:aa)(v2:Int)(a:Int):Tr (Stp (Int) (Empty)):=
 .grd (fN v0 v2)<|
 .val (IntKind.wrap .i64 (a+(IntKind.wrap .i64 (256*(IntKind.wrap .i64 (au v0 v2.toNat)))))) λe1=>
 .ite (decide ((IntKind.wrap .i64 (v2+1))<(v0.length:Int))) (.grd (fN v0 (IntKind.wrap .i64 (v2+1)))<|
  .val (IntKind.wrap .i64 (e1+(IntKind.wrap .i64 (au v0 ((IntKind.wrap .i64 (v2+1)).toNat))))) λe2=>
  .ret (.next e2))<|
 .ret (.next e1)
noncomputable def bI:kC.V→tV kC Int:=λ(v0,v1,v2,_)=>⟨v2,v1,λv2 a=>(v0,a,v2,()),λv2 _=>(decide (v2<(v0.length:Int))),sf v0,λv2=>IntKind.wrap .i64 (v2+2),2,(Int.toNat (((v0.length:Int)-v2+1)/2)),Empty.elim,Prod.mk,oN (.exit 0) ⟨[zu 2,zi 3],[]⟩ (λx=>(x.2,()))⟩
theorem sI {v0:aa}{v1 v2:Int}(h0:0≤v2)(h1:(v0.length:Int)≤4611686018427387904)(h2:sS v0)(h3:0≤v1∧v1≤65536*v2):(bI (v0,v1,v2,())).S (λv2 a=>0≤a∧a≤65536*v2) (λ_=>True):=by
 refine LC.okS h3 (λj a hj hv=>⟨⟨?_, ?_⟩, ?_⟩) (λa hv=> ?_)
 ·simp only[bI,decide_eq_true_eq]at*;omega
 ·simp only[bI]at*;exact ba (by omega) (by omega)
 ·refine Tr.G2 ?_ λ_=>Tr.V λ_ _=>Tr.I (λ_=>Tr.G2 ?_ λ_=>Tr.V λ_ _=>Tr.Rn ?_) λ_=>Tr.Rn ?_
  all_goals (try simp only[bI]at*)<;>(grind)
 ·simp only[bI,decide_eq_false_iff_not]at*;omega
noncomputable def t5:FT (aa×Unit) (Int) (λx=>sS x.1) (λx v=>0≤v∧v≤281474976710656):=⟨λ(x0,_)=>
  .lp (bI (x0,0,0,())).lp λ(_,a3_0)=>
  .ret a3_0,
 λ(x0,_) hp=>by
  refine Tr.L (sI ?_ ?_ ?_ ?_) (λa3_0 _=>Tr.R ?_) (λp=>Empty.elim p)
  all_goals ((try simp only[bI,LC.lp,LC.ct,Ct.lp]at*)<;>grind)⟩
noncomputable def xa:=ew st Tryz.func151 [(0,lb [0,3,4] [2,3])] [] 0 bI (ks:=[.sc .str]) t5 rI
noncomputable def zw:FT (Int×Unit) (Int) (λ_=>True) (λ_ _=>True):= .mk λ(x0,_)=>
  .val (bJ.f (x0,0,7,())) λc1=>
  .ite (!c1) (.ret 0)<|
  .grd ((decide (0≤x0))&&(decide (x0<8)))<|
  .ret ([64,256,536,1024,1300,1400,1440,1460].getD x0.toNat 0)
noncomputable def Ay:=cr st Tryz.func159 [cm] (ks:=[.sc (.int .i64)]) zw rI
noncomputable def rh:FF (Int×Int×Unit) (Sipr):=⟨λ(x0,x1,_)=>
  .ret (⟨(bits .xor .u64 x0 8317987319222330741),(bits .xor .u64 x1 7237128888997146477),(bits .xor .u64 x0 7816392313619706465),(bits .xor .u64 x1 8387220255154660723)⟩:Sipr)⟩
noncomputable def vx:=tL st Tryz.func163 [] (ks:=[.sc (.int .u64),.sc (.int .u64)]) rh (λv=>[(true,ym v)])
def lO:Sh:=⟨[zs 0,(3,false,[.int .u64]),zi 4],[]⟩
noncomputable def tp (v0:aa)(v2:Int)(a:Int):Tr (Stp (Int) (Empty)):=
 .grd (fN v0 v2)<|
 .val (bits .or .u64 (IntKind.wrap .u64 (a*256)) (IntKind.wrap .u64 (au v0 v2.toNat))) λe1=>
 .ret (.next e1)
noncomputable def iy:lO.V→tV lO Int:=λ(v0,v1,v2,_)=>⟨v2,v1,λv2 a=>(v0,a,v2,()),λv2 _=>(decide (0≤v2)),tp v0,dn,(-1),(Int.toNat (v2-0+1)),Empty.elim,Prod.mk,oN (.exit 0) ⟨[zu 2,(3,false,[.int .u64])],[]⟩ (λx=>(x.2,()))⟩
theorem ta {v0:aa}{v1 v2:Int}(h0:v2≤9223372036854775807)(h1:v2<(v0.length:Int)):(iy (v0,v1,v2,())).D 0 (λv2 a=>v2<(v0.length:Int)) (λ_=>True):=
 Ep (a:=v1) h0 (by decide) h1
noncomputable def sO:FT (aa×Unit) (Int) (λx=>sS x.1) (λ_ _=>True):= .mk (λ(x0,_)=>
  .lp (iy (x0,0,(IntKind.wrap .i64 ((x0.length:Int)-1)),())).lp λ(_,a2_0)=>
  .ret a2_0) (xb @ta)
noncomputable def yq:=ew st Tryz.func165 [(0,lb [0,3,4] [2,3])] [] 0 iy (ks:=[.sc .str]) sO (λv=>[(false,[.c (.int .u64 v)])])
noncomputable def fb:FT (Int×Int×Unit) (Int) (λx=>0≤x.2.1) (λ_ _=>True):= .mk λ(x0,x1,_)=>
  .grd (decide (0≤x1))<|
  .grd (decide (0≤(IntKind.wrap .u64 (64-x1))))<|
  .val (bits .or .u64 (IntKind.wrap .u64 (x0*2 ^ (min x1.toNat 64))) (x0.fdiv (2 ^ (min (IntKind.wrap .u64 (64-x1)).toNat 64)))) λe1=>
  .ret e1
noncomputable def xL:=cr st Tryz.func168 [] (ks:=[.sc (.int .u64),.sc (.int .u64)]) fb (λv=>[(false,[.c (.int .u64 v)])])
noncomputable def ak:FT (Int×Unit) (aa) (λ_=>True) (λx v=>sS v∧v.length≤6):=⟨λ(x0,_)=>
  .val (dT.f (x0,1,8,())) λc1=>
  .ite (!c1) (.ret [])<|
  .grd ((decide (0≤x0))&&(decide (x0<9)))<|
  .val ([[],[102,114,97,109,101],[116,105,99,107],[115,101,99,114,101,116],[97,99,99,101,112,116],[119,114,105,116,101],[114,101,97,100],[115,104,117,116],[97,98,111,114,116]].getD x0.toNat []) λe2=>
  .ret e2,
 λ(x0,_) hp=>by
  refine Tr.V λc1 hc1=>Tr.I (λb0=>Tr.R ?_) λb0=>Tr.G2 ?_ λg1=>Tr.V λe2 he2=>Tr.R ?_
  all_goals ((first|(subst_vars;exact⟨Nat.le_trans (iJ (p:=λy:aa=>List.length y≤6) (by decide) (by decide) _) (by decide),iJ (p:=λy:aa=>List.length y≤6) (by decide) (by decide) _⟩)|grind))⟩
noncomputable def pE:=cr st Tryz.func27 [jB] (ks:=[.sc (.int .i64)]) ak (λv=>[(false,[.c (.str v)])])
def lK:Sh:=⟨[(0,false,[.int .u64]),zo 3 0,zi 4],[za .u8]⟩
noncomputable def lY (v1:Int)(a:Int×List Int):Tr (Stp (Int×List Int) (Empty)):=
 .grd (fN a.2 v1)<|
 .ret (.next ((a.1.fdiv 256),(a.2.set v1.toNat (IntKind.wrap .u8 a.1))))
noncomputable def dW:lK.V→tV lK (Int×List Int):=λ(v0,v1,v2,_)=>⟨v1,(v0,v2),λv1 a=>(a.1,v1,a.2,()),λv1 _=>(decide (0≤v1)),lY,dn,(-1),(Int.toNat (v1-0+1)),Empty.elim,Prod.mk,oN (.exit 0) ⟨[zu 2,zo 3 0],[za .u8]⟩ (λx=>(x.2.2,()))⟩
theorem s7 {v0 v1:Int}{v2:List Int}(h0:v1≤9223372036854775807)(h1:sS v2)(h2:v2.length=v2.length∧v1<(v2.length:Int)):(dW (v0,v1,v2,())).D 0 (λv1 a=>a.2.length=v2.length∧v1<(a.2.length:Int)) (λ_=>True):=
 Ep (a:=(v0,v2)) h0 (by decide) h2
noncomputable def kF:FT (Int×Unit) (aa) (λ_=>True) (λx v=>sS v∧v.length≤16):=⟨λ(x0,_)=>
  .lp (dW (x0,7,(List.replicate 8 0),())).lp λ(_,_,a1_1)=>
  .cal xg.c ((aA a1_1),()) λc2=>
  .ret c2,
 λ(x0,_) hp=>by
  refine Tr.L (s7 ?_ ?_ ?_) (λ(a1_0,a1_1) _=>Tr.C ?_ λ_ _ _=>Tr.R ?_) (λp=>Empty.elim p)
  all_goals ((try simp only[dW,LC.lp,LC.ct,Ct.lp]at*)<;>grind)⟩
noncomputable def xY:=ew st Tryz.func28 [(0,lb [0,3,4] [2,3])] [zQ] 0 dW (ks:=[.sc (.int .u64)]) kF (λv=>[(false,[.c (.str v)])])
noncomputable def qe:FT (aa×Unit) (aa) (λx=>x.1.length≤65536) (λx v=>sS v∧v.length≤2*x.1.length+1):=⟨λ(x0,_)=>
  .ite (x0==[]) (.ret [45])<|
  .cal xg.c (x0,()) λc1=>
  .ret c1,
 λ(x0,_) hp=>by
  refine Tr.I (λ_=>Tr.R ?_) λ_=>Tr.C ?_ λ_ _ _=>Tr.R ?_
  all_goals (grind)⟩
noncomputable def Al:=cr st Tryz.func30 [zQ] (ks:=[.sc .str]) qe (λv=>[(false,[.c (.str v)])])
noncomputable def iX:FT (Int×Unit) (aa) (λ_=>True) (λx v=>sS v∧v.length≤6):=⟨λ(x0,_)=>
  .val (bJ.f (x0,1,8,())) λc1=>
  .ite (!c1) (.ret [])<|
  .grd ((decide (0≤x0))&&(decide (x0<9)))<|
  .val ([[],[102,114,97,109,101],[116,105,99,107],[115,101,99,114,101,116],[97,99,99,101,112,116],[119,114,105,116,101],[114,101,97,100],[115,104,117,116],[97,98,111,114,116]].getD x0.toNat []) λe2=>
  .ret e2,
 λ(x0,_) hp=>by
  refine Tr.V λc1 hc1=>Tr.I (λb0=>Tr.R ?_) λb0=>Tr.G2 ?_ λg1=>Tr.V λe2 he2=>Tr.R ?_
  all_goals ((first|(subst_vars;exact⟨Nat.le_trans (iJ (p:=λy:aa=>List.length y≤6) (by decide) (by decide) _) (by decide),iJ (p:=λy:aa=>List.length y≤6) (by decide) (by decide) _⟩)|grind))⟩
noncomputable def pC:=cr st Tryz.func32 [cm] (ks:=[.sc (.int .i64)]) iX (λv=>[(false,[.c (.str v)])])
noncomputable def cb:FT (aa×Unit) (aa×Bool) (λx=>sS x.1) (λx v=>sS v.1):= .mk λ(x0,_)=>
  .ite (x0==[45]) (.ret ([],true))<|
  .cal jy.c (x0,()) λc1=>
  .ite c1.2 (.ret (c1.1,(!(c1.1==[]))))<|
  .ret (c1.1,false)
noncomputable def u7:=cr st Tryz.func38 [uc] (ks:=[.sc .str]) cb (λv=>[(false,[.c (.str v.1)]),(false,[.c (.bool v.2)])])
def kA:Sh:=⟨[zs 4,(6,false,[.int .u64]),zi 20],[]⟩
noncomputable def gL (v0:aa)(v2:Int)(a:Int):Tr (Stp (Int) (Empty)):=
 .grd (fN v0 v2)<|
 .val (bits .or .u64 (IntKind.wrap .u64 (a*256)) (IntKind.wrap .u64 (au v0 v2.toNat))) λe3=>
 .ret (.next e3)
noncomputable def dG:kA.V→tV kA Int:=λ(v0,v1,v2,_)=>⟨v2,v1,λv2 a=>(v0,a,v2,()),λv2 _=>(decide (v2<8)),gL v0,up,1,(Int.toNat (8-v2)),Empty.elim,Prod.mk,oN (.exit 0) ⟨[zu 2,zu 3,(6,false,[.int .u64])],[]⟩ (λx=>(x.2,()))⟩
theorem rz {v0:aa}{v1 v2:Int}(h0:0≤v2)(h1:8≤(v0.length:Int)):(dG (v0,v1,v2,())).U 8 (λ_ _=>True) (λ_=>True):=
 pd (a:=v1) h0 (by decide) trivial
noncomputable def bL:FT (aa×Unit) (Int×Bool) (λx=>sS x.1) (λ_ _=>True):= .mk (λ(x0,_)=>
  .cal jy.c (x0,()) λc1=>
  .bnd (β:=Bool×Unit) (.ite (!c1.2) (.ret (true,()))<|
   .ret (((c1.1.length:Int) != 8),())) λ(u2a0,_)=>
  .ite u2a0 (.ret (0,false))<|
  .lp (dG (c1.1,0,0,())).lp λ(_,a4_0)=>
  .ret (a4_0,true)) (xb @rz)
noncomputable def wd:=ew st Tryz.func39 [(0,lb [4,6,20] [2,3,6]),(3000002,rA 0 19)] [uc] 0 dG (ks:=[.sc .str]) bL (λv=>[(false,[.c (.int .u64 v.1)]),(false,[.c (.bool v.2)])])
def nz:Sh:=⟨[zs 0,zo 4 0,zi 5],[za .u8]⟩
noncomputable def nV (v0:aa)(v1:Int)(a:List Int):Tr (Stp (List Int) ((List Int))):=
 .grd (fN v0 v1)<|
 .val (nF.f ((au v0 v1.toNat),())) λc1=>
 .grd (fN v0 (IntKind.wrap .i64 (v1+1)))<|
 .val (nF.f ((au v0 ((IntKind.wrap .i64 (v1+1)).toNat)),())) λc2=>
 .bnd (β:=Bool×Unit) (.ite (decide (c1<0)) (.ret (true,()))<|
  .ret ((decide (c2<0)),())) λ(u3a0,_)=>
 .ite u3a0 (.ret (.out a))<|
 .val (IntKind.wrap .u8 (IntKind.wrap .i64 ((IntKind.wrap .i64 (16*c1))+c2))) λe4=>
 .grd (vc a 1 1)<|
 .ret (.next (a++[e4]))
noncomputable def bV:nz.V→v8 nz (List Int) (List Int):=λ(v0,v1,v2,_)=>⟨v1,v2,λv1 a=>(v0,v1,a,()),λv1 _=>(decide (v1<(v0.length:Int))),nV v0,λv1=>IntKind.wrap .i64 (v1+2),2,(Int.toNat (((v0.length:Int)-v1+1)/2)),.inl,eR,oB .ret ⟨[zs 2,zb 3,zo 4 0],[za .u8]⟩ (λp=>([],false,p,())) (.exit 0) ⟨[zu 2,zu 3,zo 4 0],[za .u8]⟩ (λx=>(x.2,()))⟩
theorem va {v0:aa}{v1:Int}{v2:List Int}(h0:0≤v1)(h1:(v0.length:Int)≤4611686018427387904)(h2:(v0.length:Int)%2=0)(h3:sS v0)(h4:(v2.length:Int)≤v1∧v1%2=0):(bV (v0,v1,v2,())).S (λv1 a=>(a.length:Int)≤v1∧v1%2=0) (λp=>sS p):=by
 refine LC.okS h4 (λj a hj hv=>⟨⟨?_, ?_⟩, ?_⟩) (λa hv=> ?_)
 ·simp only[bV,decide_eq_true_eq]at*;omega
 ·simp only[bV]at*;exact ba (by omega) (by omega)
 ·refine Tr.G2 ?_ λ_=>Tr.V λ_ _=>Tr.G2 ?_ λ_=>Tr.V λ_ _=>Tr.B (Q':=λ_=>True) (Tr.F (by kernel_rfl) trivial) (λ(u3a0,_) _ _=>Tr.I (λ_=>Tr.Ro ?_) λ_=>Tr.V λ_ _=>Tr.Gb ?_ λ_=>Tr.Rn ?_)
  all_goals (try simp only[bV]at*)<;>((try simp only[Tr.nice,d7]at*)<;>grind)
 ·simp only[bV,decide_eq_false_iff_not]at*;omega
noncomputable def cM:FT (aa×Unit) (aa×Bool) (λx=>sS x.1) (λx v=>sS v.1∧v.1.length≤x.1.length):=⟨λ(x0,_)=>
  .ite (((x0.length:Int).tmod 2)==1) (.ret ([],false))<|
  .lp (bV (x0,0,[],())).lp λw5=> .sum w5 (λ_=>
  .ret ([],false))<|
  λ(_,a5_0)=>
  .ret ((aA a5_0),true),
 λ(x0,_) hp=>by
  refine Tr.I (λ_=>Tr.R ?_) λ_=>Tr.L (va ?_ ?_ ?_ ?_ ?_) (λa5_0 _=>Tr.Sr (Tr.R ?_)) (λp5a0 _=>Tr.Sl (Tr.R ?_))
  all_goals ((try simp only[bV,LC.lp,LC.ct,Ct.lp]at*)<;>grind)⟩
noncomputable def ub:=ew st Tryz.func47 [(0,lb [0,4,5] [2,3,4]),(3000009,rA 0 33)] [xX] 0 bV (ks:=[.sc .str]) cM (λv=>[(false,[.c (.str v.1)]),(false,[.c (.bool v.2)])])
noncomputable def aG:FT (Tupl×Unit) (Bool) (λ_=>True) (λx v=>(v=false∨(0≤x.1.ip∧x.1.ip≤4294967295∧0≤x.1.port∧x.1.port≤65535∧0≤x.1.my∧x.1.my≤65535))):= .mk λ(x0,_)=>
  .cal bj.c (x0.ip,32,()) λc1=>
  .ite c1 (.cal bj.c (x0.port,16,()) λc2=>
   .ite c2 (.cal bj.c (x0.my,16,()) λc3=>
    .ret c3)<|
   .ret false)<|
  .ret false
noncomputable def kJ:=cr st Tryz.func50 [qD] (ks:=[.st .tupl]) aG rB
noncomputable def fm:FT (Int×Unit) (aa) (λ_=>True) (λx v=>sS v∧v.length≤112):=⟨λ(x0,_)=>
  .cal bj.c (x0,32,()) λc1=>
  .ite (!c1) (.ret [])<|
  .cal dX.c ((x0.fdiv 16777216),()) λc2=>
  .cal dX.c ((bits .and .i64 (x0.fdiv 65536) 255),()) λc3=>
  .cal dX.c ((bits .and .i64 (x0.fdiv 256) 255),()) λc4=>
  .cal dX.c ((bits .and .i64 x0 255),()) λc5=>
  .cal kK.c ([c2,c3,c4,c5],[46],()) λc6=>
  .ret c6,
 λ(x0,_) hp=>by
  refine Tr.C trivial λc1 hc1 qc1=>Tr.I (λb0=>Tr.R ?_) λb0=>Tr.C ?_ λc2 hc2 qc2=>Tr.C ?_ λc3 hc3 qc3=>Tr.C ?_ λc4 hc4 qc4=>Tr.C ?_ λc5 hc5 qc5=>Tr.C ?_ λc6 hc6 qc6=>Tr.R ?_
  all_goals ((first|grind|grind [DN,Dj]))⟩
noncomputable def pK:=cr st Tryz.func51 [qD,mQ,sg] (ks:=[.sc (.int .i64)]) fm (λv=>[(false,[.c (.str v)])])
noncomputable def ax:FT (Int×Int×Unit) (Bool) (λ_=>True) (λx v=>(x.2.1=32→(v=true↔0≤x.1∧x.1≤4294967295))∧(x.2.1=16→(v=true↔0≤x.1∧x.1≤65535))∧(x.2.1=48→(v=true↔0≤x.1∧x.1≤281474976710655))∧(x.2.1=8→(v=true↔0≤x.1∧x.1≤255))∧(x.2.1=6→(v=true↔0≤x.1∧x.1≤63))):=⟨λ(x0,x1,_)=>
  .val (bJ.f (x1,1,62,())) λc1=>
  .ite c1 (.grd (decide (0≤(IntKind.wrap .u64 x1)))<|
   .val (IntKind.wrap .i64 ((IntKind.wrap .i64 (1*2 ^ (min (IntKind.wrap .u64 x1).toNat 64)))-1)) λe2=>
   .val (bJ.f (x0,0,e2,())) λc3=>
   .ret c3)<|
  .ret false,
 λ(x0,x1,_) hp=>by
  refine Tr.V λ_ _=>Tr.I (λ_=>Tr.G1 ?_ λ_=>Tr.V λ_ _=>Tr.V λ_ _=>Tr.R ?_) λ_=>Tr.R ?_
  all_goals (grind [xO])⟩
@[grind=] theorem CR (x:Int):ax.f (x,32,())=(decide (0≤x)&&decide (x≤4294967295)):=by
 have h:=ax.c.h (x,32,()) trivial
 rw[Bool.eq_iff_iff]
 grind
@[grind=] theorem De (x:Int):ax.f (x,16,())=(decide (0≤x)&&decide (x≤65535)):=by
 have h:=ax.c.h (x,16,()) trivial
 rw[Bool.eq_iff_iff]
 grind
@[grind=] theorem CY (x:Int):ax.f (x,48,())=(decide (0≤x)&&decide (x≤281474976710655)):=by
 have h:=ax.c.h (x,48,()) trivial
 rw[Bool.eq_iff_iff]
 grind
@[grind=] theorem Dg (x:Int):ax.f (x,8,())=(decide (0≤x)&&decide (x≤255)):=by
 have h:=ax.c.h (x,8,()) trivial
 rw[Bool.eq_iff_iff]
 grind
@[grind=] theorem DL (x:Int):ax.f (x,6,())=(decide (0≤x)&&decide (x≤63)):=by
 have h:=ax.c.h (x,6,()) trivial
 rw[Bool.eq_iff_iff]
 grind
noncomputable def dt:=cr st Tryz.func52 [cm] (ks:=[.sc (.int .i64),.sc (.int .i64)]) ax rB
noncomputable def bt:FT (Mac×Mac×Unit) (Bool) (λx=>dF x.1∧dF x.2.1) (λ_ _=>True):= .mk λ(x0,x1,_)=>
  .ite (x0.use==x1.use) (.ite (x0.k==x1.k) (.ite (x0.l==x1.l) (.cal eI.c (x0.rows,x1.rows,()) λc1=>
     .ret c1)<|
    .ret false)<|
   .ret false)<|
  .ret false
noncomputable def wJ:=cr st Tryz.func65 [oU] (ks:=[.st .mac,.st .mac]) bt rB
def rk:Sh:=⟨[zs 0,zo 3 0,zi 4],[za .u8]⟩
noncomputable def qU (v0:aa)(v1:Int)(a:List Int):Tr (Stp (List Int) (Empty)):=
 .grd (fN v0 v1)<|
 .val (nB.f ((IntKind.wrap .u8 ((au v0 v1.toNat).tdiv 16)),())) λc1=>
 .grd (fN v0 v1)<|
 .val (nB.f (((au v0 v1.toNat).tmod 16),())) λc2=>
 .grd (vc a 2 1)<|
 .ret (.next (a++[c1,c2]))
noncomputable def gR:rk.V→tV rk (List Int):=λ(v0,v1,v2,_)=>⟨v1,v2,λv1 a=>(v0,v1,a,()),λv1 _=>(decide (v1<(v0.length:Int))),qU v0,up,1,(Int.toNat ((v0.length:Int)-v1)),Empty.elim,Prod.mk,oN (.exit 0) ⟨[zu 2,zo 3 0],[za .u8]⟩ (λx=>(x.2,()))⟩
theorem yM {v0:aa}{v1:Int}{v2:List Int}(h0:0≤v1)(h1:(v0.length:Int)≤4611686018427387904)(h2:v0.length≤65536)(h3:sS v0)(h4:(v2.length:Int)=2*v1):(gR (v0,v1,v2,())).U (v0.length:Int) (λv1 a=>(a.length:Int)=2*v1) (λ_=>True):=
 pd (a:=v2) h0 h1 h4
noncomputable def wF:FT (aa×Unit) (aa) (λx=>x.1.length≤65536) (λx v=>sS v∧v.length≤2*x.1.length):=⟨λ(x0,_)=>
  .lp (gR (x0,0,[],())).lp λ(_,a3_0)=>
  .ret (aA a3_0),
 λ(x0,_) hp=>by
  refine Tr.L (yM ?_ ?_ ?_ ?_ ?_) (λa3_0 _=>Tr.R ?_) (λp=>Empty.elim p)
  all_goals ((try simp only[gR,LC.lp,LC.ct,Ct.lp]at*)<;>grind)⟩
noncomputable def zB:=ew st Tryz.func71 [(0,lb [0,3,4] [2,3])] [AO] 0 gR (ks:=[.sc .str]) wF (λv=>[(false,[.c (.str v)])])
def kI:Sh:=⟨[zi 0,zo 5 0,zi 6],[za .u8]⟩
noncomputable def kB (v1:Int)(a:Int×List Int):Tr (Stp (Int×List Int) (Empty)):=
 .grd (fN a.2 v1)<|
 .ret (.next ((IntKind.wrap .i64 (a.1.tdiv 256)),(a.2.set v1.toNat (IntKind.wrap .u8 (a.1.tmod 256)))))
noncomputable def cD:kI.V→tV kI (Int×List Int):=λ(v0,v1,v2,_)=>⟨v1,(v0,v2),λv1 a=>(a.1,v1,a.2,()),λv1 _=>(decide (0≤v1)),kB,dn,(-1),(Int.toNat (v1-0+1)),Empty.elim,Prod.mk,oN (.exit 0) ⟨[zu 4,zo 5 0],[za .u8]⟩ (λx=>(x.2.2,()))⟩
theorem rj {v0 v1:Int}{v2:List Int}(h0:v1≤9223372036854775807)(h1:sS v2)(h2:v2.length=v2.length∧v1<(v2.length:Int)):(cD (v0,v1,v2,())).D 0 (λv1 a=>a.2.length=v2.length∧v1<(a.2.length:Int)) (λ_=>True):=
 Ep (a:=(v0,v2)) h0 (by decide) h2
noncomputable def aj:FT (Int×Int×Unit) (aa) (λ_=>True) (λx v=>sS v∧(v.length:Int)≤max x.2.1 0):=⟨λ(x0,x1,_)=>
  .bnd (β:=Bool×Unit) (.val (bJ.f (x1,1,6,())) λc1=>
   .ite (!c1) (.ret (true,()))<|
   .cal ax.c (x0,(IntKind.wrap .i64 (8*x1)),()) λc2=>
   .ret ((!c2),())) λ(u3a0,_)=>
  .ite u3a0 (.ret [])<|
  .grd ((((decide (0≤x1))&&(decide (x1=x1)))&&(decide (x1*1≤(bn:Int))))&&(decide (x1≤(bn:Int))))<|
  .lp (cD (x0,(IntKind.wrap .i64 (x1-1)),(List.replicate x1.toNat 0),())).lp λ(_,_,a4_1)=>
  .ret (aA a4_1),
 λ(x0,x1,_) hp=>by
  refine Tr.B (Q':=λ_=>True) (Tr.V λ_ _=>Tr.I (λ_=>Tr.R trivial) λ_=>Tr.C trivial λ_ _ _=>Tr.R trivial) (λ(u3a0,_) _ _=>Tr.I (λ_=>Tr.R ?_) λ_=>Tr.G4 ?_ λ_=>Tr.L (rj ?_ ?_ ?_) (λ(a4_0,a4_1) _=>Tr.R ?_) (λp=>Empty.elim p))
  all_goals ((try simp only[cD,LC.lp,LC.ct,Ct.lp,Tr.nice,d7]at*)<;>grind)⟩
noncomputable def cg:=ew st Tryz.func72 [(0,lb [0,5,6] [4,5]),(3000001,rA 0 16)] [cm,dt] 0 cD (ks:=[.sc (.int .i64),.sc (.int .i64)]) aj (λv=>[(false,[.c (.str v)])])
def gU:Sh:=⟨[zs 3,zo 4 0,zi 5],[za .str]⟩
noncomputable def cL (v0:aa)(v1:Int)(a:List aa):Tr (Stp (List aa) (Empty)):=
 .grd (fN v0 v1)<|
 .cal fJ.c ((IntKind.wrap .i64 (au v0 v1.toNat)),()) λc2=>
 .grd (vc a 1 16)<|
 .ret (.next (a++[c2]))
noncomputable def bx:gU.V→tV gU (List aa):=λ(v0,v1,v2,_)=>⟨v1,v2,λv1 a=>(v0,v1,a,()),λv1 _=>(decide (v1<(v0.length:Int))),cL v0,up,1,(Int.toNat ((v0.length:Int)-v1)),Empty.elim,Prod.mk,oN (.exit 0) ⟨[zu 2,zo 4 0],[za .str]⟩ (λx=>(x.2,()))⟩
theorem mO {v0:aa}{v1:Int}{v2:List aa}(h0:0≤v1)(h1:(v0.length:Int)≤4611686018427387904)(h2:v0.length≤6)(h3:sS v0)(h4:(v2.length:Int)=v1∧bf zn v2∧bf jS v2):(bx (v0,v1,v2,())).U (v0.length:Int) (λv1 a=>(a.length:Int)=v1∧bf zn a∧bf jS a) (λ_=>True):=
 pd (a:=v2) h0 h1 h4
noncomputable def bc:FT (Int×Unit) (aa) (λ_=>True) (λx v=>sS v∧v.length≤112):=⟨λ(x0,_)=>
  .cal aj.c (x0,4,()) λc1=>
  .lp (bx (c1,0,[],())).lp λ(_,a3_0)=>
  .cal gt.c (a3_0,[46],()) λc4=>
  .ret c4,
 λ(x0,_) hp=>by
  refine Tr.C trivial λ_ _ _=>Tr.L (mO ?_ ?_ ?_ ?_ ?_) (λa3_0 _=>Tr.C ?_ λ_ _ _=>Tr.R ?_) (λp=>Empty.elim p)
  all_goals ((try simp only[bx,LC.lp,LC.ct,Ct.lp]at*)<;>grind)⟩
noncomputable def jZ:=ew st Tryz.func73 [(0,lb [3,4,5] [2,4])] [cg,ji,qq] 0 bx (ks:=[.sc (.int .i64)]) bc (λv=>[(false,[.c (.str v)])])
def kf:Sh:=⟨[zs 0,zo 4 0,zi 5,zi 6],[za .str]⟩
noncomputable def du (v3:List aa)(v2:Int)(a:Int):Tr (Stp (Int) ((Int))):=
 .ite (decide (v2<4)) (.grd (fN v3 v2)<|
  .cal cU.c ((v3.getD v2.toNat []),()) λc2=>
  .ret (.next (IntKind.wrap .i64 ((IntKind.wrap .i64 (256*a))+(c2.1.tmod 256)))))<|
 .ret (.out a)
noncomputable def dC:kf.V→v8 kf Int (Int):=λ(v0,v1,v2,v3,_)=>⟨v2,v1,λv2 a=>(v0,a,v2,v3,()),λv2 _=>(decide (v2<(v3.length:Int))),du v3,up,1,(Int.toNat ((v3.length:Int)-v2)),.inl,eR,oB (.exit 0) ⟨[zs 0,zu 2,zu 3,zi 5],[]⟩ (λp=>(v0,p,())) (.exit 0) ⟨[zs 0,zu 2,zu 3,zi 5],[]⟩ (λx=>(v0,x.2,()))⟩
theorem sF {v0:aa}{v1 v2:Int}{v3:List aa}(h0:0≤v2)(h1:(v3.length:Int)≤4611686018427387904)(h2:sL sS v3):(dC (v0,v1,v2,v3,())).U (v3.length:Int) (λ_ _=>True) (λ_=>True):=
 pd (a:=v1) h0 h1 trivial
noncomputable def iR:FT (aa×Unit) (Int×Bool) (λx=>x.1.length≤16777216) (λ_ _=>True):= .mk (λ(x0,_)=>
  .cal jF.c (x0,46,()) λc1=>
  .lp (dC (x0,0,0,c1,())).lp λw3=> .sum w3 (λp3a0=>
  .bnd (β:=Bool×Unit) (.ite (x0==[]) (.ret (true,()))<|
   .cal bc.c (p3a0,()) λc4=>
   .ret ((!(c4==x0)),())) λ(u5a0,_)=>
  .ite u5a0 (.ret (0,false))<|
  .ret (p3a0,true))<|
  λ(_,a3_0)=>
  .bnd (β:=Bool×Unit) (.ite (x0==[]) (.ret (true,()))<|
   .cal bc.c (a3_0,()) λc6=>
   .ret ((!(c6==x0)),())) λ(u7a0,_)=>
  .ite u7a0 (.ret (0,false))<|
  .ret (a3_0,true)) (xb @sF)
noncomputable def xH:=ew st Tryz.func77 [(0,lb [0,4,5,6] [0,2,3,5]),(3000008,rA 0 41)] [lk,mq,jZ] 0 dC (ks:=[.sc .str]) iR (λv=>[(false,[.c (.int .i64 v.1)]),(false,[.c (.bool v.2)])])
noncomputable def eU:FF (Int×Int×Unit) (Int):=⟨λ(x0,x1,_)=>
  .val (bH.f (x0,())) λc1=>
  .val (bH.f (x1,())) λc2=>
  .val (bH.f ((IntKind.wrap .i64 (c1+c2)),())) λc3=>
  .ret c3⟩
noncomputable def gO:=tL st Tryz.func119 [gp] (ks:=[.sc (.int .i64),.sc (.int .i64)]) eU rI
noncomputable def nk:=[cm,xJ]
def j5:An:=⟨⟨[],[],false,0⟩,⟨[1,2,4,5],[],false,0⟩,⟨[],[]⟩,[(.normal,⟨[zi 1,zp 2 0,zp 4 1,zp 5 2],[zx .opti,zx .opti,zx .opti]⟩)]⟩
noncomputable def mU:Fx:=⟨120,Tryz.f120,[(1000013,j5)],0⟩
noncomputable def jU:FF (Opti×Int×Unit) (Opti):=⟨λ(x0,x1,_)=>
  .ite (!x0.stamp) (.ret (⟨1460,(-1),false,false,0,0⟩:Opti))<|
  .val (bJ.f (x0.scale,0,14,())) λc1=>
  .bnd (β:=Int×Opti×Opti×Opti×Unit) (.ite c1 (.ret (x1,x0,(⟨0,0,false,false,0,0⟩:Opti),(⟨1460,0,false,false,0,0⟩:Opti),()))<|
   .ret (x1,x0,(⟨0,0,false,false,0,0⟩:Opti),(⟨1460,(-1),false,false,0,0⟩:Opti),())) λ(u2a0,u2a1,_,u2a3,_)=>
  .val (uD.f (u2a0,u2a1.scale,u2a1.sack,())) λc3=>
  .ret (⟨u2a3.mss,u2a3.scale,u2a1.sack,true,c3,u2a1.val⟩:Opti)⟩
noncomputable def nj:=Bn st mU nk [] (ks:=[.st .opti,.sc (.int .i64)]) jU (λv=>[(true,yJ v)]) Tryz.func120 trivial
noncomputable def rq:=[cg]
noncomputable def so:Fx:=⟨129,Tryz.f129,[(3000004,rA 0 25)],0⟩
noncomputable def nP:FT (Int×Int×Int×Unit) (aa) (λ_=>True) (λx v=>sS v∧v.length≤20):=⟨λ(x0,x1,x2,_)=>
  .cal aj.c (x0,4,()) λc1=>
  .cal aj.c (x1,4,()) λc2=>
  .cal aj.c (x2,2,()) λc3=>
  .bnd (β:=Bool×Unit) (.ite (c1==[]) (.ret (true,()))<|
   .ite (c2==[]) (.ret (true,()))<|
   .ret ((c3==[]),())) λ(u4a0,_)=>
  .ite u4a0 (.ret [])<|
  .grd (Nat.ble (c1.length+c2.length) ah)<|
  .grd (Nat.ble ((c1++c2).length+2) ah)<|
  .grd (Nat.ble (((c1++c2)++[0,6]).length+c3.length) ah)<|
  .ret (((c1++c2)++[0,6])++c3),
 λ(x0,x1,x2,_) hp=>by
  refine Tr.C trivial λc1 hc1 qc1=>Tr.C trivial λc2 hc2 qc2=>Tr.C trivial λc3 hc3 qc3=>Tr.B (Q':=λ_=>True) (Tr.F (by kernel_rfl) trivial) (λ(u4a0,_) hj4 qj4=>Tr.I (λb0=>Tr.R ?_) λb0=>Tr.Gb ?_ λg1=>Tr.Gb ?_ λg2=>Tr.Gb ?_ λg3=>Tr.R ?_)
  all_goals ((try simp only[Tr.nice,d7]at*)<;>(first|(simp only[List.length_append,List.length_cons,List.length_nil,ah,sS]at*;omega)|grind))⟩
noncomputable def qZ:=ol st so rq [] (ks:=[.sc (.int .i64),.sc (.int .i64),.sc (.int .i64)]) nP (λv=>[(false,[.c (.str v)])]) Tryz.func129 trivial
noncomputable def qj:FT (aa×Unit) (Int) (λx=>sS x.1) (λ_ _=>True):= .mk λ(x0,_)=>
  .cal t5.c (x0,()) λc1=>
  .cal we.c (c1,()) λc2=>
  .ret (IntKind.wrap .i64 (65535-c2))
noncomputable def oj:=cr st Tryz.func130 [xa,yj] (ks:=[.sc .str]) qj rI
noncomputable def ql:FT (Pack×Unit) (Bool) (λ_=>True) (λx v=>(v=true→x.1.body.length≤1480)):= .mk λ(x0,_)=>
  .cal ax.c (x0.src,32,()) λc1=>
  .ite c1 (.cal ax.c (x0.dst,32,()) λc2=>
   .ite c2 (.val (bJ.f (x0.ttl,1,255,())) λc3=>
    .ite c3 (.cal ax.c (x0.proto,8,()) λc4=>
     .ite c4 (.cal ax.c (x0.id,16,()) λc5=>
      .ite c5 (.ret (decide ((x0.body.length:Int)≤1480)))<|
      .ret false)<|
     .ret false)<|
    .ret false)<|
   .ret false)<|
  .ret false
noncomputable def u3:=cr st Tryz.func131 [dt,cm] (ks:=[.st .pack]) ql rB
noncomputable def uq:FT (Fram×Unit) (Bool) (λ_=>True) (λx v=>(v=true→x.1.body.length≤1586)):= .mk λ(x0,_)=>
  .cal ax.c (x0.dst,48,()) λc1=>
  .ite c1 (.cal ax.c (x0.src,48,()) λc2=>
   .ite c2 (.val (bJ.f (x0.type,1536,65535,())) λc3=>
    .ite c3 (.ret (decide ((x0.body.length:Int)≤1586)))<|
    .ret false)<|
   .ret false)<|
  .ret false
noncomputable def wt:=cr st Tryz.func132 [dt,cm] (ks:=[.st .fram]) uq rB
noncomputable def zP:FT (Arpm×Unit) (Bool) (λ_=>True) (λ_ _=>True):= .mk λ(x0,_)=>
  .val (bJ.f (x0.kind,1,2,())) λc1=>
  .ite c1 (.cal ax.c (x0.srcHw,48,()) λc2=>
   .ite c2 (.cal ax.c (x0.dstHw,48,()) λc3=>
    .ite c3 (.cal ax.c (x0.srcIp,32,()) λc4=>
     .ite c4 (.cal ax.c (x0.dstIp,32,()) λc5=>
      .ret c5)<|
     .ret false)<|
    .ret false)<|
   .ret false)<|
  .ret false
noncomputable def Aw:=cr st Tryz.func142 [cm,dt] (ks:=[.st .arpm]) zP rB
def jW:Sh:=⟨[zi 0,zi 3,zi 4],[]⟩
noncomputable def pV (v0:Int)(v2:Int)(a:Int):Tr (Stp (Int) (Empty)):=
 .cal zw.c (v2,()) λc1=>
 .ite (decide (c1≤v0)) (.ret (.next v2))<|
 .ret (.next a)
noncomputable def fS:jW.V→tV jW Int:=λ(v0,v1,v2,_)=>⟨v2,v1,λv2 a=>(v0,a,v2,()),λv2 _=>(decide (v2<8)),pV v0,up,1,(Int.toNat (8-v2)),Empty.elim,Prod.mk,oN (.exit 0) ⟨[zu 2,zi 3],[]⟩ (λx=>(x.2,()))⟩
theorem pO {v0 v1 v2:Int}(h0:0≤v2):(fS (v0,v1,v2,())).U 8 (λ_ _=>True) (λ_=>True):=
 pd (a:=v1) h0 (by decide) trivial
noncomputable def qF:FT (Int×Unit) (Int) (λ_=>True) (λ_ _=>True):= .mk (λ(x0,_)=>
  .lp (fS (x0,0,0,())).lp λ(_,a2_0)=>
  .ret a2_0) (xb @pO)
noncomputable def vj:=ew st Tryz.func146 [(0,lb [0,3,4] [2,3])] [Ay] 0 fS (ks:=[.sc (.int .i64)]) qF rI
noncomputable def tI:=[dt,cm]
noncomputable def tJ:Fx:=⟨149,Tryz.f149,[(3000001,rA 0 15)],0⟩
noncomputable def kp:FT (Opti×Unit) (Bool) (λ_=>True) (λ_ _=>True):= .mk λ(x0,_)=>
  .bnd (β:=Bool×Unit) (.ite (!x0.stamp) (.ite (x0.val != 0) (.ret (true,()))<|
    .ret ((x0.echo != 0),()))<|
   .ret (false,())) λ(u1a0,_)=>
  .ite u1a0 (.ret false)<|
  .cal ax.c (x0.mss,16,()) λc2=>
  .ite c2 (.val (bJ.f (x0.scale,(-1),14,())) λc3=>
   .ite c3 (.cal ax.c (x0.val,32,()) λc4=>
    .ite c4 (.cal ax.c (x0.echo,32,()) λc5=>
     .ret c5)<|
    .ret false)<|
   .ret false)<|
  .ret false
noncomputable def lJ:=ol st tJ tI [] (ks:=[.st .opti]) kp rB Tryz.func149 trivial
noncomputable def em:FT (Sipr×Unit) (Sipr) (λ_=>True) (λ_ _=>True):= .mk λ(x0,_)=>
  .cal fb.c (x0.b,13,()) λc1=>
  .cal fb.c ((IntKind.wrap .u64 (x0.a+x0.b)),32,()) λc2=>
  .cal fb.c (x0.d,16,()) λc3=>
  .val (IntKind.wrap .u64 (c2+(bits .xor .u64 c3 (IntKind.wrap .u64 (x0.c+x0.d))))) λe4=>
  .cal fb.c ((bits .xor .u64 c3 (IntKind.wrap .u64 (x0.c+x0.d))),21,()) λc5=>
  .val (IntKind.wrap .u64 ((IntKind.wrap .u64 (x0.c+x0.d))+(bits .xor .u64 c1 (IntKind.wrap .u64 (x0.a+x0.b))))) λe6=>
  .cal fb.c ((bits .xor .u64 c1 (IntKind.wrap .u64 (x0.a+x0.b))),17,()) λc7=>
  .cal fb.c (e6,32,()) λc8=>
  .ret (⟨e4,(bits .xor .u64 c7 e6),c8,(bits .xor .u64 c5 e4)⟩:Sipr)
noncomputable def nf:=cr st Tryz.func167 [xL] (ks:=[.st .sipr]) em (λv=>[(true,ym v)])
noncomputable def tn:=[ln,xK,mF,kJ]
noncomputable def tE:Fx:=⟨13,Tryz.f13,[(3000008,rA 0 57)],0⟩
noncomputable def aw:FT (aa×Unit) (Tupl×Bool) (λx=>x.1.length≤16777216) (λ_ _=>True):= .mk λ(x0,_)=>
  .cal jE.c (x0,58,()) λc1=>
  .ite ((c1.length:Int) != 3) (.ret ((⟨0,0,0⟩:Tupl),false))<|
  .grd (decide (0<(c1.length:Int)))<|
  .cal dM.c ((c1.getD 0 []),()) λc2=>
  .grd (decide (1<(c1.length:Int)))<|
  .cal cI.c ((c1.getD 1 []),()) λc3=>
  .grd (decide (2<(c1.length:Int)))<|
  .cal cI.c ((c1.getD 2 []),()) λc4=>
  .bnd (β:=Bool×Unit) (.ite (!c2.2) (.ret (true,()))<|
   .ite (!c3.2) (.ret (true,()))<|
   .ite (!c4.2) (.ret (true,()))<|
   .cal aG.c ((⟨c2.1,c3.1,c4.1⟩:Tupl),()) λc5=>
   .ret ((!c5),())) λ(u6a0,_)=>
  .ite u6a0 (.ret ((⟨0,0,0⟩:Tupl),false))<|
  .ret ((⟨c2.1,c3.1,c4.1⟩:Tupl),true)
noncomputable def lT:=ol st tE tn [] (ks:=[.sc .str]) aw (λv=>[(true,oM v.1),(false,[.c (.bool v.2)])]) Tryz.func13 trivial
noncomputable def aK:FT (Tupl×Unit) (aa) (λ_=>True) (λx v=>sS v∧v.length≤160):=⟨λ(x0,_)=>
  .cal aG.c (x0,()) λc1=>
  .ite (!c1) (.ret [])<|
  .cal fm.c (x0.ip,()) λc2=>
  .grd (Nat.ble (c2.length+1) ah)<|
  .cal dX.c (x0.port,()) λc3=>
  .grd (Nat.ble ((c2++[58]).length+c3.length) ah)<|
  .grd (Nat.ble (((c2++[58])++c3).length+1) ah)<|
  .cal dX.c (x0.my,()) λc4=>
  .grd (Nat.ble ((((c2++[58])++c3)++[58]).length+c4.length) ah)<|
  .ret ((((c2++[58])++c3)++[58])++c4),
 λ(x0,_) hp=>by
  refine Tr.C trivial λ_ _ _=>Tr.I (λ_=>Tr.R ?_) λ_=>Tr.C trivial λ_ _ _=>Tr.Gb ?_ λ_=>Tr.C ?_ λ_ _ _=>Tr.Gb ?_ λ_=>Tr.Gb ?_ λ_=>Tr.C ?_ λ_ _ _=>Tr.Gb ?_ λ_=>Tr.R ?_
  all_goals (grind)⟩
noncomputable def lR:=cr st Tryz.func14 [kJ,pK,mQ] (ks:=[.st .tupl]) aK (λv=>[(false,[.c (.str v)])])
noncomputable def bO:FT (Tupl×Unit) (Bool) (λ_=>True) (λx v=>(v=false∨(0≤x.1.ip∧x.1.ip≤4294967295∧0≤x.1.port∧x.1.port≤65535∧0≤x.1.my∧x.1.my≤65535))):= .mk λ(x0,_)=>
  .cal ax.c (x0.ip,32,()) λc1=>
  .ite c1 (.cal ax.c (x0.port,16,()) λc2=>
   .ite c2 (.cal ax.c (x0.my,16,()) λc3=>
    .ret c3)<|
   .ret false)<|
  .ret false
noncomputable def iv:=cr st Tryz.func15 [dt] (ks:=[.st .tupl]) bO rB
noncomputable def z3:=[cm,wX,Au,iv]
def vp:An:=⟨⟨[],[],false,0⟩,⟨[1,2,3],[],false,0⟩,⟨[],[]⟩,[(.normal,⟨[zp 1 0,zb 2,zp 3 1],[zg .acti,.box [.st .acti [.nil .macRow]]]⟩),(.normal,⟨[zp 1 0,zb 2,zp 3 1],[zg .acti,zg .acti]⟩)]⟩
noncomputable def zU:Fx:=⟨31,Tryz.f31,[(1000009,vp),(3000016,rA 0 73)],0⟩
noncomputable def nm:FT (Acti×Unit) (Bool) (λx=>ai x.1) (λx v=>(v=true→x.1.text.length≤1600∧0≤x.1.n∧x.1.n≤65535)):=⟨λ(x0,_)=>
  .bnd (β:=(Bool×Acti×Acti×Unit)⊕(Bool×Acti×Acti×Unit)) (.ite (x0.kind==1) (.ret (.inl (false,x0,(⟨x0.kind,⟨0,0,0⟩,0,x0.text,⟨false,0,0,[]⟩⟩:Acti),())))<|
   .ite (x0.kind==3) (.ret (.inr ((false,x0,({x0 with tuple.ip:=0,tuple.port:=0,tuple.my:=0,n:=0,text:=[]}:Acti),()))))<|
   .ite (x0.kind==5) (.ret (.inl (false,x0,({x0 with n:=0,mac.use:=false,mac.k:=0,mac.l:=0,mac.rows:=[]}:Acti),())))<|
   .ite (x0.kind==6) (.ret (.inl (false,x0,({x0 with text:=[],mac.use:=false,mac.k:=0,mac.l:=0,mac.rows:=[]}:Acti),())))<|
   .ite (x0.kind==7) (.ite (x0.kind==7) (.ret (.inl (false,x0,(⟨x0.kind,x0.tuple,0,[],⟨false,0,0,[]⟩⟩:Acti),())))<|
    .ret (.inl (false,x0,(⟨x0.kind,⟨0,0,0⟩,0,[],⟨false,0,0,[]⟩⟩:Acti),())))<|
   .ite (x0.kind==8) (.ret (.inl (false,x0,(⟨x0.kind,x0.tuple,0,[],⟨false,0,0,[]⟩⟩:Acti),())))<|
   .ret (.inl (false,x0,(⟨x0.kind,⟨0,0,0⟩,0,[],⟨false,0,0,[]⟩⟩:Acti),()))) λw1=> .sum w1 (λ(_,u1a1,u1a2,_)=>
  .bnd (β:=Bool×Unit) (.val (bJ.f (u1a1.kind,1,8,())) λc2=>
   .ite (!c2) (.ret (true,()))<|
   .ite (!((u1a1.tuple.ip==u1a2.tuple.ip)&&((u1a1.tuple.port==u1a2.tuple.port)&&((u1a1.tuple.my==u1a2.tuple.my)&&true)))) (.ret (true,()))<|
   .ite (u1a1.n != u1a2.n) (.ret (true,()))<|
   .ite (!(u1a1.text==u1a2.text)) (.ret (true,()))<|
   .cal fe.c (u1a1.mac,({u1a2.mac with rows:=[]}:Mac),()) λc3=>
   .ret ((!c3),())) λ(u4a0,_)=>
  .ite u4a0 (.ret false)<|
  .ite (decide ((u1a1.text.length:Int)≤1600)) (.cal n0.c (u1a1.mac,()) λc5=>
   .ite c5 (.cal bO.c (u1a1.tuple,()) λc6=>
    .ite c6 (.val (bJ.f (u1a1.n,0,65535,())) λc7=>
     .ret c7)<|
    .ret false)<|
   .ret false)<|
  .ret false)<|
  λ(_,u1b1,u1b2,_)=>
  .bnd (β:=Bool×Unit) (.val (bJ.f (u1b1.kind,1,8,())) λc8=>
   .ite (!c8) (.ret (true,()))<|
   .ite (!((u1b1.tuple.ip==u1b2.tuple.ip)&&((u1b1.tuple.port==u1b2.tuple.port)&&((u1b1.tuple.my==u1b2.tuple.my)&&true)))) (.ret (true,()))<|
   .ite (u1b1.n != u1b2.n) (.ret (true,()))<|
   .ite (!(u1b1.text==u1b2.text)) (.ret (true,()))<|
   .cal fe.c (u1b1.mac,u1b2.mac,()) λc9=>
   .ret ((!c9),())) λ(u10a0,_)=>
  .ite u10a0 (.ret false)<|
  .ite (decide ((u1b1.text.length:Int)≤1600)) (.cal n0.c (u1b1.mac,()) λc11=>
   .ite c11 (.cal bO.c (u1b1.tuple,()) λc12=>
    .ite c12 (.val (bJ.f (u1b1.n,0,65535,())) λc13=>
     .ret c13)<|
    .ret false)<|
   .ret false)<|
  .ret false,
 λ(x0,_) hp=>by
  refine Tr.B (Q':=(Sum.elim (λw=>ai w.2.1∧ai w.2.2.1∧w.2.1=x0) (λw=>ai w.2.1∧ai w.2.2.1∧w.2.1=x0))) (Tr.I (λb0=>Tr.R ?_) λb0=>Tr.I (λb1=>Tr.R ?_) λb1=>Tr.I (λb2=>Tr.R ?_) λb2=>Tr.I (λb3=>Tr.R ?_) λb3=>Tr.I (λb4=>Tr.I (λb5=>Tr.R ?_) λb5=>Tr.R ?_) λb4=>Tr.I (λb5=>Tr.R ?_) λb5=>Tr.R ?_) (λ_ _ q1=>Tr.E q1 (λ(u1a0,u1a1,u1a2,_) _=>Tr.B (Q':=λ_=>True) (Tr.V λc2 hc2=>Tr.I (λb0=>Tr.R trivial) λb0=>Tr.I (λb1=>Tr.R trivial) λb1=>Tr.I (λb2=>Tr.R trivial) λb2=>Tr.I (λb3=>Tr.R trivial) λb3=>Tr.C ?_ λc3 hc3 qc3=>Tr.R trivial) (λ(u4a0,_) hj4 qj4=>Tr.I (λb0=>Tr.R ?_) λb0=>Tr.I (λb1=>Tr.C ?_ λc5 hc5 qc5=>Tr.I (λb2=>Tr.C trivial λc6 hc6 qc6=>Tr.I (λb3=>Tr.V λc7 hc7=>Tr.R ?_) λb3=>Tr.R ?_) λb2=>Tr.R ?_) λb1=>Tr.R ?_)) (λ(u1b0,u1b1,u1b2,_) _=>Tr.B (Q':=λ_=>True) (Tr.V λc8 hc8=>Tr.I (λb0=>Tr.R trivial) λb0=>Tr.I (λb1=>Tr.R trivial) λb1=>Tr.I (λb2=>Tr.R trivial) λb2=>Tr.I (λb3=>Tr.R trivial) λb3=>Tr.C ?_ λc9 hc9 qc9=>Tr.R trivial) (λ(u10a0,_) hj10 qj10=>Tr.I (λb0=>Tr.R ?_) λb0=>Tr.I (λb1=>Tr.C ?_ λc11 hc11 qc11=>Tr.I (λb2=>Tr.C trivial λc12 hc12 qc12=>Tr.I (λb3=>Tr.V λc13 hc13=>Tr.R ?_) λb3=>Tr.R ?_) λb2=>Tr.R ?_) λb1=>Tr.R ?_)))
  all_goals ((try simp only[Tr.nice,d7]at*)<;>(first|grind|grind [eq]))⟩
noncomputable def Af:=ol st zU z3 [] (ks:=[.st .acti]) nm rB Tryz.func31 trivial
noncomputable def ke:FT (Int×Unit) (aa) (λ_=>True) (λx v=>sS v∧v.length≤64):= .mk λ(x0,_)=>
  .cal aj.c ((IntKind.wrap .i64 (IntKind.wrap .u64 (x0.tdiv 4294967296))),4,()) λc1=>
  .cal aj.c ((IntKind.wrap .i64 (x0.tmod 4294967296)),4,()) λc2=>
  .grd (Nat.ble (c1.length+c2.length) ah)<|
  .cal wF.c ((c1++c2),()) λc3=>
  .ret c3
noncomputable def yW:=cr st Tryz.func33 [cg,zB] (ks:=[.sc (.int .u64)]) ke (λv=>[(false,[.c (.str v)])])
noncomputable def bD:FT (Tupl×Unit) (aa) (λ_=>True) (λx v=>sS v∧v.length≤160):=⟨λ(x0,_)=>
  .cal bO.c (x0,()) λc1=>
  .ite (!c1) (.ret [])<|
  .cal bc.c (x0.ip,()) λc2=>
  .grd (Nat.ble (c2.length+1) ah)<|
  .cal fJ.c (x0.port,()) λc3=>
  .grd (Nat.ble ((c2++[58]).length+c3.length) ah)<|
  .grd (Nat.ble (((c2++[58])++c3).length+1) ah)<|
  .cal fJ.c (x0.my,()) λc4=>
  .grd (Nat.ble ((((c2++[58])++c3)++[58]).length+c4.length) ah)<|
  .ret ((((c2++[58])++c3)++[58])++c4),
 λ(x0,_) hp=>by
  refine Tr.C trivial λ_ _ _=>Tr.I (λ_=>Tr.R ?_) λ_=>Tr.C trivial λ_ _ _=>Tr.Gb ?_ λ_=>Tr.C ?_ λ_ _ _=>Tr.Gb ?_ λ_=>Tr.Gb ?_ λ_=>Tr.C ?_ λ_ _ _=>Tr.Gb ?_ λ_=>Tr.R ?_
  all_goals (grind)⟩
noncomputable def lU:=cr st Tryz.func34 [iv,jZ,ji] (ks:=[.st .tupl]) bD (λv=>[(false,[.c (.str v)])])
noncomputable def gN:FT (aa×Unit) (aa) (λx=>x.1.length≤65536) (λx v=>sS v∧v.length≤2*x.1.length+1):=⟨λ(x0,_)=>
  .ite (x0==[]) (.ret [45])<|
  .cal wF.c (x0,()) λc1=>
  .ret c1,
 λ(x0,_) hp=>by
  refine Tr.I (λ_=>Tr.R ?_) λ_=>Tr.C ?_ λ_ _ _=>Tr.R ?_
  all_goals (grind)⟩
noncomputable def vR:=cr st Tryz.func36 [zB] (ks:=[.sc .str]) gN (λv=>[(false,[.c (.str v)])])
noncomputable def cu:FT (aa×Unit) (Int) (λx=>sS x.1) (λ_ _=>True):= .mk λ(x0,_)=>
  .cal cM.c (x0,()) λc1=>
  .cal fa.c (c1.1,0,4,()) λc2=>
  .cal fa.c (c1.1,4,4,()) λc3=>
  .val (IntKind.wrap .u64 ((IntKind.wrap .u64 ((IntKind.wrap .u64 c2.1)*4294967296))+(IntKind.wrap .u64 c3.1))) λe4=>
  .ret e4
noncomputable def uV:=cr st Tryz.func44 [ub,w6] (ks:=[.sc .str]) cu (λv=>[(false,[.c (.int .u64 v)])])
noncomputable def dq:FT (aa×Unit) (Tupl×Bool) (λx=>x.1.length≤16777216) (λ_ _=>True):= .mk λ(x0,_)=>
  .cal jF.c (x0,58,()) λc1=>
  .ite ((c1.length:Int) != 3) (.ret ((⟨0,0,0⟩:Tupl),false))<|
  .grd (decide (0<(c1.length:Int)))<|
  .cal iR.c ((c1.getD 0 []),()) λc2=>
  .grd (decide (1<(c1.length:Int)))<|
  .cal cU.c ((c1.getD 1 []),()) λc3=>
  .grd (decide (2<(c1.length:Int)))<|
  .cal cU.c ((c1.getD 2 []),()) λc4=>
  .cal bD.c ((⟨c2.1,c3.1,c4.1⟩:Tupl),()) λc5=>
  .ite (!(c5==x0)) (.ret ((⟨0,0,0⟩:Tupl),false))<|
  .ret ((⟨c2.1,c3.1,c4.1⟩:Tupl),true)
noncomputable def tA:=cr st Tryz.func45 [lk,xH,mq,lU] (ks:=[.sc .str]) dq (λv=>[(true,oM v.1),(false,[.c (.bool v.2)])])
noncomputable def jr:FT (Pack×Unit) (aa) (λx=>jc x.1) (λx v=>sS v∧v.length≤1520):=⟨λ(x0,_)=>
  .cal ql.c (x0,()) λc1=>
  .ite (!c1) (.ret [])<|
  .cal aj.c ((IntKind.wrap .i64 (20+(x0.body.length:Int))),2,()) λc2=>
  .grd (Nat.ble (2+c2.length) ah)<|
  .cal aj.c (x0.id,2,()) λc3=>
  .grd (Nat.ble (([69,0]++c2).length+c3.length) ah)<|
  .grd (Nat.ble ((([69,0]++c2)++c3).length+2) ah)<|
  .cal aj.c (x0.ttl,1,()) λc4=>
  .grd (Nat.ble (((([69,0]++c2)++c3)++[0,0]).length+c4.length) ah)<|
  .cal aj.c (x0.proto,1,()) λc5=>
  .grd (Nat.ble ((((([69,0]++c2)++c3)++[0,0])++c4).length+c5.length) ah)<|
  .cal aj.c (x0.src,4,()) λc6=>
  .cal aj.c (x0.dst,4,()) λc7=>
  .grd (Nat.ble (c6.length+c7.length) ah)<|
  .grd (Nat.ble (((((([69,0]++c2)++c3)++[0,0])++c4)++c5).length+(c6++c7).length) ah)<|
  .cal qj.c ((((((([69,0]++c2)++c3)++[0,0])++c4)++c5)++(c6++c7)),()) λc8=>
  .cal aj.c (c8,2,()) λc9=>
  .grd (Nat.ble (((((([69,0]++c2)++c3)++[0,0])++c4)++c5).length+c9.length) ah)<|
  .grd (Nat.ble ((((((([69,0]++c2)++c3)++[0,0])++c4)++c5)++c9).length+(c6++c7).length) ah)<|
  .val ((((((([69,0]++c2)++c3)++[0,0])++c4)++c5)++c9)++(c6++c7)) λe10=>
  .grd (Nat.ble (e10.length+x0.body.length) ah)<|
  .ret (e10++x0.body),
 λ(x0,_) hp=>by
  refine Tr.C trivial λc1 hc1 qc1=>Tr.I (λb0=>Tr.R ?_) λb0=>Tr.C trivial λc2 hc2 qc2=>Tr.Gb ?_ λg1=>Tr.C trivial λc3 hc3 qc3=>Tr.Gb ?_ λg2=>Tr.Gb ?_ λg3=>Tr.C trivial λc4 hc4 qc4=>Tr.Gb ?_ λg4=>Tr.C trivial λc5 hc5 qc5=>Tr.Gb ?_ λg5=>Tr.C trivial λc6 hc6 qc6=>Tr.C trivial λc7 hc7 qc7=>Tr.Gb ?_ λg6=>Tr.Gb ?_ λg7=>Tr.C ?_ λc8 hc8 qc8=>Tr.C trivial λc9 hc9 qc9=>Tr.Gb ?_ λg8=>Tr.Gb ?_ λg9=>Tr.V λe10 he10=>Tr.Gb ?_ λg10=>Tr.R ?_
  all_goals ((first|(simp only[List.length_append,List.length_cons,List.length_nil,ah,sS]at*;omega)|grind))⟩
noncomputable def ld:=cr st Tryz.func104 [u3,cg,oj] (ks:=[.st .pack]) jr (λv=>[(false,[.c (.str v)])])
noncomputable def fC:FT (Fram×Unit) (aa) (λx=>lq x.1) (λx v=>sS v∧v.length≤1600):=⟨λ(x0,_)=>
  .cal uq.c (x0,()) λc1=>
  .ite (!c1) (.ret [])<|
  .cal aj.c (x0.dst,6,()) λc2=>
  .cal aj.c (x0.src,6,()) λc3=>
  .grd (Nat.ble (c2.length+c3.length) ah)<|
  .cal aj.c (x0.type,2,()) λc4=>
  .grd (Nat.ble ((c2++c3).length+c4.length) ah)<|
  .grd (Nat.ble (((c2++c3)++c4).length+x0.body.length) ah)<|
  .ret (((c2++c3)++c4)++x0.body),
 λ(x0,_) hp=>by
  refine Tr.C trivial λc1 hc1 qc1=>Tr.I (λb0=>Tr.R ?_) λb0=>Tr.C trivial λc2 hc2 qc2=>Tr.C trivial λc3 hc3 qc3=>Tr.Gb ?_ λg1=>Tr.C trivial λc4 hc4 qc4=>Tr.Gb ?_ λg2=>Tr.Gb ?_ λg3=>Tr.R ?_
  all_goals ((first|(simp only[List.length_append,List.length_cons,List.length_nil,ah,sS]at*;omega)|grind))⟩
noncomputable def lN:=cr st Tryz.func105 [wt,cg] (ks:=[.st .fram]) fC (λv=>[(false,[.c (.str v)])])
noncomputable def ul:FT (Arpm×Unit) (aa) (λ_=>True) (λx v=>sS v∧v.length≤40):=⟨λ(x0,_)=>
  .cal zP.c (x0,()) λc1=>
  .ite (!c1) (.ret [])<|
  .cal aj.c (x0.kind,2,()) λc2=>
  .grd (Nat.ble (6+c2.length) ah)<|
  .cal aj.c (x0.srcHw,6,()) λc3=>
  .grd (Nat.ble (([0,1,8,0,6,4]++c2).length+c3.length) ah)<|
  .cal aj.c (x0.srcIp,4,()) λc4=>
  .grd (Nat.ble ((([0,1,8,0,6,4]++c2)++c3).length+c4.length) ah)<|
  .cal aj.c (x0.dstHw,6,()) λc5=>
  .grd (Nat.ble (((([0,1,8,0,6,4]++c2)++c3)++c4).length+c5.length) ah)<|
  .cal aj.c (x0.dstIp,4,()) λc6=>
  .grd (Nat.ble ((((([0,1,8,0,6,4]++c2)++c3)++c4)++c5).length+c6.length) ah)<|
  .ret ((((([0,1,8,0,6,4]++c2)++c3)++c4)++c5)++c6),
 λ(x0,_) hp=>by
  refine Tr.C trivial λc1 hc1 qc1=>Tr.I (λb0=>Tr.R ?_) λb0=>Tr.C trivial λc2 hc2 qc2=>Tr.Gb ?_ λg1=>Tr.C trivial λc3 hc3 qc3=>Tr.Gb ?_ λg2=>Tr.C trivial λc4 hc4 qc4=>Tr.Gb ?_ λg3=>Tr.C trivial λc5 hc5 qc5=>Tr.Gb ?_ λg4=>Tr.C trivial λc6 hc6 qc6=>Tr.Gb ?_ λg5=>Tr.R ?_
  all_goals ((first|(simp only[List.length_append,List.length_cons,List.length_nil,ah,sS]at*;omega)|grind))⟩
noncomputable def wT:=cr st Tryz.func113 [Aw,cg] (ks:=[.st .arpm]) ul (λv=>[(false,[.c (.str v)])])
noncomputable def pc:FT (Segm×Unit) (Bool) (λ_=>True) (λx v=>(v=true→x.1.body.length≤1420)):= .mk λ(x0,_)=>
  .cal ax.c (x0.from_,16,()) λc1=>
  .ite c1 (.cal ax.c (x0.to,16,()) λc2=>
   .ite c2 (.cal ax.c (x0.window,16,()) λc3=>
    .ite c3 (.cal ax.c (x0.seq,32,()) λc4=>
     .ite c4 (.cal ax.c (x0.ack,32,()) λc5=>
      .ite c5 (.cal ax.c (x0.flags,6,()) λc6=>
       .ite c6 (.cal kp.c (x0.opts,()) λc7=>
        .ite c7 (.ret (decide ((x0.body.length:Int)≤1420)))<|
        .ret false)<|
       .ret false)<|
      .ret false)<|
     .ret false)<|
    .ret false)<|
   .ret false)<|
  .ret false
noncomputable def tH:=cr st Tryz.func127 [dt,lJ] (ks:=[.st .segm]) pc rB
def gE:Sh:=⟨[zs 3],[]⟩
def mK:An:=⟨⟨[],[],false,0⟩,⟨[1,2,3],[],false,0⟩,⟨[],[]⟩,[(.normal,⟨[zp 1 0,zs 2,zs 3],[zx .opti]⟩)]⟩
def lE:An:=⟨⟨[],[],false,0⟩,⟨[1,2,3],[],false,0⟩,⟨[],[]⟩,[(.normal,⟨[zp 1 0,zs 2,zs 3],[zx .opti]⟩)]⟩
def lA:An:=⟨⟨[],[],false,0⟩,⟨[1,2,3],[],false,0⟩,⟨[],[]⟩,[(.normal,⟨[zp 1 0,zs 2,zs 3],[zx .opti]⟩)]⟩
def lG:An:=⟨⟨[],[],false,0⟩,⟨[2,3],[],false,0⟩,⟨[],[]⟩,[(.normal,⟨[zs 2,zs 3],[]⟩)]⟩
noncomputable def mA (a:aa):Tr (Stp (aa) ((aa))):=
 .ite (((a.length:Int).tmod 4) != 0) (.grd (Nat.ble (a.length+1) ah)<|
  .ret (.next (a++[1])))<|
 .ret (.out a)
noncomputable def eh:gE.V→LW gE (aa) ((aa)):=λ(v0,_)=>⟨v0,λa=>(a,()),mA,(4-v0.length%4)%4,oN (.exit 0) ⟨[zu 2,zs 3],[]⟩ (λp=>(p,()))⟩
theorem mp {v0:aa}(h0:v0.length+(4-v0.length%4)%4≤20):(eh (v0,())).W (λp=>p.length≤20):=
 Ev (a:=v0) (λa=>a.length+(4-a.length%4)%4≤20) (λa=>(4-a.length%4)%4) h0
noncomputable def ma:FT (Opti×Unit) (aa) (λ_=>True) (λx v=>sS v∧v.length≤20):= .mk (λ(x0,_)=>
  .cal kp.c (x0,()) λc1=>
  .ite (!c1) (.ret [])<|
  .bnd (β:=aa×aa×Opti×Unit) (.as (λw=>sS w.1∧sS w.2.1∧w.2.1.length≤4) (.ite (x0.mss != 0) (.cal aj.c (x0.mss,2,()) λc2=>
    .grd (Nat.ble (2+c2.length) ah)<|
    .ret ([],([2,4]++c2),x0,()))<|
   .ret ([],[],x0,()))) λ(u3a0,u3a1,u3a2,_)=>
  .bnd (β:=aa×aa×Opti×Unit) (.as (λw=>sS w.1∧sS w.2.1∧w.2.1.length≤7) (.ite (decide (0≤u3a2.scale)) (.grd (Nat.ble (u3a1.length+2) ah)<|
    .cal aj.c (u3a2.scale,1,()) λc4=>
    .grd (Nat.ble ((u3a1++[3,3]).length+c4.length) ah)<|
    .ret (u3a0,((u3a1++[3,3])++c4),u3a2,()))<|
   .ret (u3a0,u3a1,u3a2,()))) λ(u5a0,u5a1,u5a2,_)=>
  .bnd (β:=aa×aa×Opti×Unit) (.as (λw=>sS w.1∧sS w.2.1∧w.2.1.length≤9) (.ite u5a2.sack (.grd (Nat.ble (u5a1.length+2) ah)<|
    .ret (u5a0,(u5a1++[4,2]),u5a2,()))<|
   .ret (u5a0,u5a1,u5a2,()))) λ(u6a0,u6a1,u6a2,_)=>
  .bnd (β:=aa×aa×Unit) (.as (λw=>sS w.1∧sS w.2.1∧w.2.1.length≤19) (.ite u6a2.stamp (.grd (Nat.ble (u6a1.length+2) ah)<|
    .cal aj.c (u6a2.val,4,()) λc7=>
    .grd (Nat.ble ((u6a1++[8,10]).length+c7.length) ah)<|
    .cal aj.c (u6a2.echo,4,()) λc8=>
    .grd (Nat.ble (((u6a1++[8,10])++c7).length+c8.length) ah)<|
    .ret (u6a0,(((u6a1++[8,10])++c7)++c8),()))<|
   .ret (u6a0,u6a1,()))) λ(_,u9a1,_)=>
  .lp (eh (u9a1,())).lp λp10a0=>
  .ret p10a0) (xb @mp)
noncomputable def pU:=CL st Tryz.func128 [(0,lb [3] [2,3]),(1000009,mK),(1000018,lE),(1000026,lA),(1000030,lG)] [lJ,cg] 0 eh (ks:=[.st .opti]) ma (λv=>[(false,[.c (.str v)])])
noncomputable def vD:=[iv,dt,cm,cg]
noncomputable def vW:Fx:=⟨157,Tryz.f157,[(3000001,rA 0 26)],0⟩
noncomputable def rV:FT (Tupl×Int×Int×Int×Unit) (aa) (λ_=>True) (λx v=>sS v∧v.length≤40):=⟨λ(x0,x1,x2,x3,_)=>
  .bnd (β:=Bool×Unit) (.cal bO.c (x0,()) λc1=>
   .ite (!c1) (.ret (true,()))<|
   .cal ax.c (x1,32,()) λc2=>
   .ite (!c2) (.ret (true,()))<|
   .cal ax.c (x2,32,()) λc3=>
   .ite (!c3) (.ret (true,()))<|
   .val (bJ.f (x3,0,7,())) λc4=>
   .ret ((!c4),())) λ(u5a0,_)=>
  .ite u5a0 (.ret [])<|
  .cal aj.c (x0.ip,4,()) λc6=>
  .cal aj.c (x0.port,2,()) λc7=>
  .grd (Nat.ble (c6.length+c7.length) ah)<|
  .cal aj.c (x0.my,2,()) λc8=>
  .grd (Nat.ble ((c6++c7).length+c8.length) ah)<|
  .cal aj.c (x1,4,()) λc9=>
  .grd (Nat.ble (((c6++c7)++c8).length+c9.length) ah)<|
  .cal aj.c (x2,4,()) λc10=>
  .grd (Nat.ble ((((c6++c7)++c8)++c9).length+c10.length) ah)<|
  .cal aj.c (x3,1,()) λc11=>
  .grd (Nat.ble (((((c6++c7)++c8)++c9)++c10).length+c11.length) ah)<|
  .ret (((((c6++c7)++c8)++c9)++c10)++c11),
 λ(x0,x1,x2,x3,_) hp=>by
  refine Tr.B (Q':=λ_=>True) (Tr.C trivial λc1 hc1 qc1=>Tr.I (λb0=>Tr.R trivial) λb0=>Tr.C trivial λc2 hc2 qc2=>Tr.I (λb1=>Tr.R trivial) λb1=>Tr.C trivial λc3 hc3 qc3=>Tr.F (by kernel_rfl) trivial) (λ(u5a0,_) hj5 qj5=>Tr.I (λb0=>Tr.R ?_) λb0=>Tr.C trivial λc6 hc6 qc6=>Tr.C trivial λc7 hc7 qc7=>Tr.Gb ?_ λg1=>Tr.C trivial λc8 hc8 qc8=>Tr.Gb ?_ λg2=>Tr.C trivial λc9 hc9 qc9=>Tr.Gb ?_ λg3=>Tr.C trivial λc10 hc10 qc10=>Tr.Gb ?_ λg4=>Tr.C trivial λc11 hc11 qc11=>Tr.Gb ?_ λg5=>Tr.R ?_)
  all_goals ((try simp only[Tr.nice,d7]at*)<;>(first|(simp only[List.length_append,List.length_cons,List.length_nil,ah,sS]at*;omega)|grind))⟩
noncomputable def vl:=ol st vW vD [] (ks:=[.st .tupl,.sc (.int .i64),.sc (.int .i64),.sc (.int .i64)]) rV (λv=>[(false,[.c (.str v)])]) Tryz.func157 trivial
noncomputable def oK:FT (Sipr×Int×Unit) (Sipr) (λ_=>True) (λ_ _=>True):= .mk λ(x0,x1,_)=>
  .cal em.c (({x0 with d:=(bits .xor .u64 x0.d x1)}:Sipr),()) λc1=>
  .cal em.c (c1,()) λc2=>
  .ret ({c2 with a:=(bits .xor .u64 c2.a x1)}:Sipr)
noncomputable def xc:=cr st Tryz.func164 [nf] (ks:=[.st .sipr,.sc (.int .u64)]) oK (λv=>[(true,ym v)])
noncomputable def wq:FT (Sipr×Unit) (Int) (λ_=>True) (λ_ _=>True):= .mk λ(x0,_)=>
  .cal em.c (({x0 with c:=(bits .xor .u64 x0.c 255)}:Sipr),()) λc1=>
  .cal em.c (c1,()) λc2=>
  .cal em.c (c2,()) λc3=>
  .cal em.c (c3,()) λc4=>
  .ret (bits .xor .u64 (bits .xor .u64 (bits .xor .u64 c4.a c4.b) c4.c) c4.d)
noncomputable def yc:=cr st Tryz.func166 [nf] (ks:=[.st .sipr]) wq (λv=>[(false,[.c (.int .u64 v)])])
noncomputable def wz:=[Af,pC,yW,lU,ji,vR]
def pM:An:=⟨⟨[],[],false,0⟩,⟨[1,2,3],[],false,0⟩,⟨[],[]⟩,[(.normal,⟨[zp 1 0,zs 2,zs 3],[zg .acti]⟩)]⟩
noncomputable def xB:Fx:=⟨8,Tryz.f8,[(1000033,pM),(3000001,rA 0 11)],0⟩
noncomputable def br:FT (Acti×Unit) (aa) (λx=>ai x.1) (λx v=>sS v∧v.length≤8192):= .mk λ(x0,_)=>
  .bnd (β:=Bool×Unit) (.as (λw=>(w.1=false→x0.text.length≤1600∧0≤x0.n∧x0.n≤65535)) (.cal nm.c (x0,()) λc1=>
   .ite (!c1) (.ret (true,()))<|
   .ret (x0.mac.use,()))) λ(u2a0,_)=>
  .ite u2a0 (.ret [])<|
  .cal iX.c (x0.kind,()) λc3=>
  .ite (x0.kind==3) (.grd (Nat.ble (c3.length+1) ah)<|
   .cal ke.c (x0.mac.k,()) λc4=>
   .grd (Nat.ble ((c3++[32]).length+c4.length) ah)<|
   .grd (Nat.ble (((c3++[32])++c4).length+1) ah)<|
   .cal ke.c (x0.mac.l,()) λc5=>
   .grd (Nat.ble ((((c3++[32])++c4)++[32]).length+c5.length) ah)<|
   .ret ((((c3++[32])++c4)++[32])++c5))<|
  .bnd (β:=aa×aa×Acti×Unit) (.as (λw=>sS w.1∧sS w.2.1∧ai w.2.2.1∧w.2.1.length≤200∧w.2.2.1=x0) (.ite (decide (5≤x0.kind)) (.grd (Nat.ble (c3.length+1) ah)<|
    .cal bD.c (x0.tuple,()) λc6=>
    .grd (Nat.ble ((c3++[32]).length+c6.length) ah)<|
    .ret ([],((c3++[32])++c6),x0,()))<|
   .ret ([],c3,x0,()))) λ(_,u7a1,u7a2,_)=>
  .ite (u7a2.kind==6) (.grd (Nat.ble (u7a1.length+1) ah)<|
   .cal fJ.c (u7a2.n,()) λc8=>
   .grd (Nat.ble ((u7a1++[32]).length+c8.length) ah)<|
   .ret ((u7a1++[32])++c8))<|
  .ite (u7a2.kind==1) (.ite (u7a2.kind==1) (.grd (Nat.ble (u7a1.length+1) ah)<|
    .cal gN.c (u7a2.text,()) λc9=>
    .grd (Nat.ble ((u7a1++[32]).length+c9.length) ah)<|
    .ret ((u7a1++[32])++c9))<|
   .ret u7a1)<|
  .ite (u7a2.kind==5) (.grd (Nat.ble (u7a1.length+1) ah)<|
   .cal gN.c (u7a2.text,()) λc10=>
   .grd (Nat.ble ((u7a1++[32]).length+c10.length) ah)<|
   .ret ((u7a1++[32])++c10))<|
  .ret u7a1
noncomputable def gZ:=ol st xB wz [] (ks:=[.st .acti]) br (λv=>[(false,[.c (.str v)])]) Tryz.func8 trivial
def kx:Sh:=⟨[zs 0,zp 2 0,zo 4 1,zp 5 2,zi 6],[.box [.st .acti [.nil .macRow]],za .str,.box [.st .acti [.nil .macRow]]]⟩
@[reducible] def jY:An:=⟨⟨[],[],false,0⟩,⟨[0,2,3,4,5],[],false,0⟩,⟨[],[]⟩,[(.normal,⟨[zs 0,zp 2 0,zu 3,zo 4 1,zp 5 2],[.box [.st .acti [.nil .macRow]],za .str,zk .acti 3,zf]⟩),(.normal,⟨[zs 0,zp 2 0,zu 3,zo 4 1,zp 5 2],[.box [.st .acti [.nil .macRow]],za .str,.box [.st .acti [.nil .macRow]]]⟩)]⟩
@[reducible] def fM:An:=⟨⟨[],[],false,0⟩,⟨[0,2,3,4,5],[],false,0⟩,⟨[],[]⟩,[(.normal,⟨[zs 0,zp 2 0,zu 3,zo 4 1,zp 5 2],[.box [.st .acti [.nil .macRow]],za .str,zk .acti 3,zf]⟩),(.normal,⟨[zs 0,zp 2 0,zu 3,zo 4 1,zp 5 2],[.box [.st .acti [.nil .macRow]],za .str,.box [.st .acti [.nil .macRow]]]⟩)]⟩
@[reducible] def cV:An:=⟨⟨[],[],false,0⟩,⟨[0,2,3,5],[],false,0⟩,⟨[],[]⟩,[(.normal,⟨[zs 0,zp 2 0,zu 3,zp 5 1],[.box [.st .acti [.nil .macRow]],zk .acti 2,zf]⟩),(.normal,⟨[zs 0,zp 2 0,zu 3,zp 5 1],[.box [.st .acti [.nil .macRow]],.box [.st .acti [.nil .macRow]]]⟩)]⟩
noncomputable def ki (v3:List aa)(v1:Int)(a:Acti×Acti):Tr (Stp (Acti×Acti) (Empty)):=
 .cal iX.c (v1,()) λc3=>
 .grd (decide (0<(v3.length:Int)))<|
 .ite (c3==(v3.getD 0 [])) (.ret (.next (({a.1 with mac.rows:=[]}:Acti),({a.2 with kind:=v1,mac.rows:=[]}:Acti))))<|
 .ret (.next (({a.1 with mac.rows:=[]}:Acti),({a.2 with mac.rows:=[]}:Acti)))
noncomputable def bo:kx.V→tV kx (Acti×Acti):=λ(v0,v1,v2,v3,v4,_)=>⟨v1,(v2,v4),λv1 a=>(v0,v1,a.1,v3,a.2,()),λv1 _=>(decide (v1≤8)),ki v3,up,1,(Int.toNat (8-v1+1)),Empty.elim,Prod.mk,oN (.exit 0) ⟨[zs 0,zp 2 0,zu 3,zo 4 1,zp 5 2],[.box [.st .acti [.nil .macRow]],za .str,.box [.st .acti [.nil .macRow]]]⟩ (λx=>(v0,({x.2.1 with mac.rows:=[]}:Acti),v3,({x.2.2 with mac.rows:=[]}:Acti),()))⟩
theorem qP {v0:aa}{v1:Int}{v2 v4:Acti}{v3:List aa}(h0:0≤v1)(h1:sL sS v3)(h2:0<(v3.length:Int))(h3:ai v2∧ai v4∧0≤v4.kind∧v4.kind≤8):(bo (v0,v1,v2,v3,v4,())).S (λv1 a=>ai a.1∧ai a.2∧0≤a.2.kind∧a.2.kind≤8) (λ_=>True):=by
 refine LC.okS h3 (λj a hj hv=>⟨⟨?_, ?_⟩, ?_⟩) (λa hv=> ?_)
 ·simp only[bo,decide_eq_true_eq]at*;omega
 ·simp only[bo]at*;exact Ek (by omega) (by omega)
 ·refine Tr.C trivial λ_ _ _=>Tr.G1 ?_ λ_=>Tr.I (λ_=>Tr.Rn ?_) λ_=>Tr.Rn ?_
  all_goals (try simp only[bo]at*)<;>(grind)
 ·simp only[bo,decide_eq_false_iff_not]at*;omega
set_option maxHeartbeats 4000000 in
noncomputable def en:FT (aa×Unit) (Acti×Bool) (λx=>x.1.length≤16777216) (λx v=>ai v.1):=⟨λ(x0,_)=>
  .bnd (β:=Bool×Unit) (.ite (x0==[]) (.ret (true,()))<|
   .ret ((decide (3260<(x0.length:Int))),())) λ(u1a0,_)=>
  .ite u1a0 (.ret ((⟨0,⟨0,0,0⟩,0,[],⟨false,0,0,[]⟩⟩:Acti),false))<|
  .cal jF.c (x0,32,()) λc2=>
  .grd (vc c2 3 16)<|
  .lp (bo (x0,1,(⟨0,⟨0,0,0⟩,0,[],⟨false,0,0,[]⟩⟩:Acti),(c2++[[],[],[]]),(⟨0,⟨0,0,0⟩,0,[],⟨false,0,0,[]⟩⟩:Acti),())).lp λ(_,a4_0,a4_1)=>
  .bnd (β:=WT jY.es) (.ite (({a4_1 with mac.rows:=[]}:Acti).kind==3) (.grd (decide (1<((c2++[[],[],[]]).length:Int)))<|
    .cal cu.c (((c2++[[],[],[]]).getD 1 []),()) λc5=>
    .grd (decide (2<((c2++[[],[],[]]).length:Int)))<|
    .cal cu.c (((c2++[[],[],[]]).getD 2 []),()) λc6=>
    .cal i6.c (c5,c6,()) λc7=>
    .ret (.inl (x0,({({a4_0 with mac.rows:=[]}:Acti)with mac.rows:=[]}:Acti),(c2++[[],[],[]]),({({a4_1 with mac.rows:=[]}:Acti)with mac.use:=c7.use,mac.k:=c7.k,mac.l:=c7.l,mac.rows:=c7.rows}:Acti),())))<|
   .ret (.inr ((x0,({({a4_0 with mac.rows:=[]}:Acti)with mac.rows:=[]}:Acti),(c2++[[],[],[]]),({({a4_1 with mac.rows:=[]}:Acti)with mac.rows:=[]}:Acti),())))) λw8=> .sum w8 (λ(u8a0,u8a1,u8a2,u8a3,_)=>
  .bnd (β:=WT fM.es) (.ite (decide (5≤u8a3.kind)) (.grd (decide (1<(u8a2.length:Int)))<|
    .cal dq.c ((u8a2.getD 1 []),()) λc9=>
    .ret (.inl (u8a0,({u8a1 with mac.rows:=[]}:Acti),u8a2,({u8a3 with tuple.ip:=c9.1.ip,tuple.port:=c9.1.port,tuple.my:=c9.1.my}:Acti),())))<|
   .ret (.inl (u8a0,({u8a1 with mac.rows:=[]}:Acti),u8a2,u8a3,()))) λw10=> .sum w10 (λ(u10a0,u10a1,u10a2,u10a3,_)=>
  .bnd (β:=WT cV.es) (.ite (u10a3.kind==6) (.grd (decide (2<(u10a2.length:Int)))<|
    .cal cU.c ((u10a2.getD 2 []),()) λc11=>
    .ret (.inl (u10a0,({u10a1 with mac.rows:=[]}:Acti),({u10a3 with n:=c11.1}:Acti),())))<|
   .ite (u10a3.kind==5) (.grd (decide (2<(u10a2.length:Int)))<|
    .cal cM.c ((u10a2.getD 2 []),()) λc12=>
    .ret (.inl (u10a0,({u10a1 with mac.rows:=[]}:Acti),({u10a3 with text:=c12.1}:Acti),())))<|
   .ite (u10a3.kind==1) (.grd (decide (1<(u10a2.length:Int)))<|
    .cal cM.c ((u10a2.getD 1 []),()) λc13=>
    .ret (.inl (u10a0,({u10a1 with mac.rows:=[]}:Acti),({u10a3 with text:=c13.1}:Acti),())))<|
   .ret (.inl (u10a0,({u10a1 with mac.rows:=[]}:Acti),u10a3,()))) λw14=> .sum w14 (λ(u14a0,_,u14a2,_)=>
  .cal br.c (u14a2,()) λc15=>
  .ite (!(c15==u14a0)) (.ret ((⟨0,⟨0,0,0⟩,0,[],⟨false,0,0,[]⟩⟩:Acti),false))<|
  .ret (u14a2,true))<|
  λ(u14b0,_,u14b2,_)=>
  .cal br.c (({u14b2 with mac.rows:=[]}:Acti),()) λc16=>
  .ite (!(c16==u14b0)) (.ret ((⟨0,⟨0,0,0⟩,0,[],⟨false,0,0,[]⟩⟩:Acti),false))<|
  .ret (({u14b2 with mac.rows:=[]}:Acti),true))<|
  λ(u10b0,u10b1,u10b2,u10b3,_)=>
  .bnd (β:=WT cV.es) (.ite (u10b3.kind==6) (.grd (decide (2<(u10b2.length:Int)))<|
    .cal cU.c ((u10b2.getD 2 []),()) λc17=>
    .ret (.inr ((u10b0,({u10b1 with mac.rows:=[]}:Acti),({u10b3 with n:=c17.1,mac.rows:=[]}:Acti),()))))<|
   .ite (u10b3.kind==5) (.grd (decide (2<(u10b2.length:Int)))<|
    .cal cM.c ((u10b2.getD 2 []),()) λc18=>
    .ret (.inr ((u10b0,({u10b1 with mac.rows:=[]}:Acti),({u10b3 with text:=c18.1,mac.rows:=[]}:Acti),()))))<|
   .ite (u10b3.kind==1) (.grd (decide (1<(u10b2.length:Int)))<|
    .cal cM.c ((u10b2.getD 1 []),()) λc19=>
    .ret (.inr ((u10b0,({u10b1 with mac.rows:=[]}:Acti),({u10b3 with text:=c19.1,mac.rows:=[]}:Acti),()))))<|
   .ret (.inr ((u10b0,({u10b1 with mac.rows:=[]}:Acti),({u10b3 with mac.rows:=[]}:Acti),())))) λw20=> .sum w20 (λ(u20a0,_,u20a2,_)=>
  .cal br.c (u20a2,()) λc21=>
  .ite (!(c21==u20a0)) (.ret ((⟨0,⟨0,0,0⟩,0,[],⟨false,0,0,[]⟩⟩:Acti),false))<|
  .ret (u20a2,true))<|
  λ(u20b0,_,u20b2,_)=>
  .cal br.c (({u20b2 with mac.rows:=[]}:Acti),()) λc22=>
  .ite (!(c22==u20b0)) (.ret ((⟨0,⟨0,0,0⟩,0,[],⟨false,0,0,[]⟩⟩:Acti),false))<|
  .ret (({u20b2 with mac.rows:=[]}:Acti),true))<|
  λ(u8b0,u8b1,u8b2,u8b3,_)=>
  .bnd (β:=WT fM.es) (.ite (decide (5≤u8b3.kind)) (.grd (decide (1<(u8b2.length:Int)))<|
    .cal dq.c ((u8b2.getD 1 []),()) λc23=>
    .ret (.inr ((u8b0,({u8b1 with mac.rows:=[]}:Acti),u8b2,({u8b3 with tuple.ip:=c23.1.ip,tuple.port:=c23.1.port,tuple.my:=c23.1.my,mac.rows:=[]}:Acti),()))))<|
   .ret (.inr ((u8b0,({u8b1 with mac.rows:=[]}:Acti),u8b2,({u8b3 with mac.rows:=[]}:Acti),())))) λw24=> .sum w24 (λ(u24a0,u24a1,u24a2,u24a3,_)=>
  .bnd (β:=WT cV.es) (.ite (u24a3.kind==6) (.grd (decide (2<(u24a2.length:Int)))<|
    .cal cU.c ((u24a2.getD 2 []),()) λc25=>
    .ret (.inl (u24a0,({u24a1 with mac.rows:=[]}:Acti),({u24a3 with n:=c25.1}:Acti),())))<|
   .ite (u24a3.kind==5) (.grd (decide (2<(u24a2.length:Int)))<|
    .cal cM.c ((u24a2.getD 2 []),()) λc26=>
    .ret (.inl (u24a0,({u24a1 with mac.rows:=[]}:Acti),({u24a3 with text:=c26.1}:Acti),())))<|
   .ite (u24a3.kind==1) (.grd (decide (1<(u24a2.length:Int)))<|
    .cal cM.c ((u24a2.getD 1 []),()) λc27=>
    .ret (.inl (u24a0,({u24a1 with mac.rows:=[]}:Acti),({u24a3 with text:=c27.1}:Acti),())))<|
   .ret (.inl (u24a0,({u24a1 with mac.rows:=[]}:Acti),u24a3,()))) λw28=> .sum w28 (λ(u28a0,_,u28a2,_)=>
  .cal br.c (u28a2,()) λc29=>
  .ite (!(c29==u28a0)) (.ret ((⟨0,⟨0,0,0⟩,0,[],⟨false,0,0,[]⟩⟩:Acti),false))<|
  .ret (u28a2,true))<|
  λ(u28b0,_,u28b2,_)=>
  .cal br.c (({u28b2 with mac.rows:=[]}:Acti),()) λc30=>
  .ite (!(c30==u28b0)) (.ret ((⟨0,⟨0,0,0⟩,0,[],⟨false,0,0,[]⟩⟩:Acti),false))<|
  .ret (({u28b2 with mac.rows:=[]}:Acti),true))<|
  λ(u24b0,u24b1,u24b2,u24b3,_)=>
  .bnd (β:=WT cV.es) (.ite (u24b3.kind==6) (.grd (decide (2<(u24b2.length:Int)))<|
    .cal cU.c ((u24b2.getD 2 []),()) λc31=>
    .ret (.inr ((u24b0,({u24b1 with mac.rows:=[]}:Acti),({u24b3 with n:=c31.1,mac.rows:=[]}:Acti),()))))<|
   .ite (u24b3.kind==5) (.grd (decide (2<(u24b2.length:Int)))<|
    .cal cM.c ((u24b2.getD 2 []),()) λc32=>
    .ret (.inr ((u24b0,({u24b1 with mac.rows:=[]}:Acti),({u24b3 with text:=c32.1,mac.rows:=[]}:Acti),()))))<|
   .ite (u24b3.kind==1) (.grd (decide (1<(u24b2.length:Int)))<|
    .cal cM.c ((u24b2.getD 1 []),()) λc33=>
    .ret (.inr ((u24b0,({u24b1 with mac.rows:=[]}:Acti),({u24b3 with text:=c33.1,mac.rows:=[]}:Acti),()))))<|
   .ret (.inr ((u24b0,({u24b1 with mac.rows:=[]}:Acti),({u24b3 with mac.rows:=[]}:Acti),())))) λw34=> .sum w34 (λ(u34a0,_,u34a2,_)=>
  .cal br.c (u34a2,()) λc35=>
  .ite (!(c35==u34a0)) (.ret ((⟨0,⟨0,0,0⟩,0,[],⟨false,0,0,[]⟩⟩:Acti),false))<|
  .ret (u34a2,true))<|
  λ(u34b0,_,u34b2,_)=>
  .cal br.c (({u34b2 with mac.rows:=[]}:Acti),()) λc36=>
  .ite (!(c36==u34b0)) (.ret ((⟨0,⟨0,0,0⟩,0,[],⟨false,0,0,[]⟩⟩:Acti),false))<|
  .ret (({u34b2 with mac.rows:=[]}:Acti),true),
 λ(x0,_) hp=>by
  refine Tr.B (Q':=λ_=>True) (Tr.F (by kernel_rfl) trivial) (λ(u1a0,_) hj1 qj1=>Tr.I (λb0=>Tr.R ?_) λb0=>Tr.C ?_ λc2 hc2 qc2=>Tr.Gb ?_ λg1=>Tr.L (qP ?_ ?_ ?_ ?_) (λ(a4_0,a4_1) i4=>Tr.B (Q':=(Sum.elim (λw=>sS w.1∧ai w.2.1∧sL sS w.2.2.1∧ai w.2.2.2.1∧bf tD w.2.2.1∧3≤w.2.2.1.length) (λw=>sS w.1∧ai w.2.1∧sL sS w.2.2.1∧ai w.2.2.2.1∧bf tD w.2.2.1∧3≤w.2.2.1.length))) (Tr.I (λb2=>Tr.G1 ?_ λg3=>Tr.C ?_ λc5 hc5 qc5=>Tr.G1 ?_ λg4=>Tr.C ?_ λc6 hc6 qc6=>Tr.C trivial λc7 hc7 qc7=>Tr.R ?_) λb2=>Tr.R ?_) (λ_ _ q8=>Tr.E q8 (λ(u8a0,u8a1,u8a2,u8a3,_) _=>Tr.B (Q':=(Sum.elim (λw=>sS w.1∧ai w.2.1∧sL sS w.2.2.1∧ai w.2.2.2.1∧bf tD w.2.2.1∧3≤w.2.2.1.length) (λw=>sS w.1∧ai w.2.1∧sL sS w.2.2.1∧ai w.2.2.2.1∧bf tD w.2.2.1∧3≤w.2.2.1.length))) (Tr.I (λb2=>Tr.G1 ?_ λg3=>Tr.C ?_ λc9 hc9 qc9=>Tr.R ?_) λb2=>Tr.R ?_) (λ_ _ q10=>Tr.E q10 (λ(u10a0,u10a1,u10a2,u10a3,_) _=>Tr.B (Q':=(Sum.elim (λw=>sS w.1∧ai w.2.1∧ai w.2.2.1) (λw=>sS w.1∧ai w.2.1∧ai w.2.2.1))) (Tr.I (λb2=>Tr.G1 ?_ λg3=>Tr.C ?_ λc11 hc11 qc11=>Tr.R ?_) λb2=>Tr.I (λb3=>Tr.G1 ?_ λg4=>Tr.C ?_ λc12 hc12 qc12=>Tr.R ?_) λb3=>Tr.I (λb4=>Tr.G1 ?_ λg5=>Tr.C ?_ λc13 hc13 qc13=>Tr.R ?_) λb4=>Tr.R ?_) (λ_ _ q14=>Tr.E q14 (λ(u14a0,u14a1,u14a2,_) _=>Tr.C ?_ λc15 hc15 qc15=>Tr.I (λb2=>Tr.R ?_) λb2=>Tr.R ?_) (λ(u14b0,u14b1,u14b2,_) _=>Tr.C ?_ λc16 hc16 qc16=>Tr.I (λb2=>Tr.R ?_) λb2=>Tr.R ?_))) (λ(u10b0,u10b1,u10b2,u10b3,_) _=>Tr.B (Q':=(Sum.elim (λw=>sS w.1∧ai w.2.1∧ai w.2.2.1) (λw=>sS w.1∧ai w.2.1∧ai w.2.2.1))) (Tr.I (λb2=>Tr.G1 ?_ λg3=>Tr.C ?_ λc17 hc17 qc17=>Tr.R ?_) λb2=>Tr.I (λb3=>Tr.G1 ?_ λg4=>Tr.C ?_ λc18 hc18 qc18=>Tr.R ?_) λb3=>Tr.I (λb4=>Tr.G1 ?_ λg5=>Tr.C ?_ λc19 hc19 qc19=>Tr.R ?_) λb4=>Tr.R ?_) (λ_ _ q20=>Tr.E q20 (λ(u20a0,u20a1,u20a2,_) _=>Tr.C ?_ λc21 hc21 qc21=>Tr.I (λb2=>Tr.R ?_) λb2=>Tr.R ?_) (λ(u20b0,u20b1,u20b2,_) _=>Tr.C ?_ λc22 hc22 qc22=>Tr.I (λb2=>Tr.R ?_) λb2=>Tr.R ?_))))) (λ(u8b0,u8b1,u8b2,u8b3,_) _=>Tr.B (Q':=(Sum.elim (λw=>sS w.1∧ai w.2.1∧sL sS w.2.2.1∧ai w.2.2.2.1∧bf tD w.2.2.1∧3≤w.2.2.1.length) (λw=>sS w.1∧ai w.2.1∧sL sS w.2.2.1∧ai w.2.2.2.1∧bf tD w.2.2.1∧3≤w.2.2.1.length))) (Tr.I (λb2=>Tr.G1 ?_ λg3=>Tr.C ?_ λc23 hc23 qc23=>Tr.R ?_) λb2=>Tr.R ?_) (λ_ _ q24=>Tr.E q24 (λ(u24a0,u24a1,u24a2,u24a3,_) _=>Tr.B (Q':=(Sum.elim (λw=>sS w.1∧ai w.2.1∧ai w.2.2.1) (λw=>sS w.1∧ai w.2.1∧ai w.2.2.1))) (Tr.I (λb2=>Tr.G1 ?_ λg3=>Tr.C ?_ λc25 hc25 qc25=>Tr.R ?_) λb2=>Tr.I (λb3=>Tr.G1 ?_ λg4=>Tr.C ?_ λc26 hc26 qc26=>Tr.R ?_) λb3=>Tr.I (λb4=>Tr.G1 ?_ λg5=>Tr.C ?_ λc27 hc27 qc27=>Tr.R ?_) λb4=>Tr.R ?_) (λ_ _ q28=>Tr.E q28 (λ(u28a0,u28a1,u28a2,_) _=>Tr.C ?_ λc29 hc29 qc29=>Tr.I (λb2=>Tr.R ?_) λb2=>Tr.R ?_) (λ(u28b0,u28b1,u28b2,_) _=>Tr.C ?_ λc30 hc30 qc30=>Tr.I (λb2=>Tr.R ?_) λb2=>Tr.R ?_))) (λ(u24b0,u24b1,u24b2,u24b3,_) _=>Tr.B (Q':=(Sum.elim (λw=>sS w.1∧ai w.2.1∧ai w.2.2.1) (λw=>sS w.1∧ai w.2.1∧ai w.2.2.1))) (Tr.I (λb2=>Tr.G1 ?_ λg3=>Tr.C ?_ λc31 hc31 qc31=>Tr.R ?_) λb2=>Tr.I (λb3=>Tr.G1 ?_ λg4=>Tr.C ?_ λc32 hc32 qc32=>Tr.R ?_) λb3=>Tr.I (λb4=>Tr.G1 ?_ λg5=>Tr.C ?_ λc33 hc33 qc33=>Tr.R ?_) λb4=>Tr.R ?_) (λ_ _ q34=>Tr.E q34 (λ(u34a0,u34a1,u34a2,_) _=>Tr.C ?_ λc35 hc35 qc35=>Tr.I (λb2=>Tr.R ?_) λb2=>Tr.R ?_) (λ(u34b0,u34b1,u34b2,_) _=>Tr.C ?_ λc36 hc36 qc36=>Tr.I (λb2=>Tr.R ?_) λb2=>Tr.R ?_))))))) (λp=>Empty.elim p))
  all_goals ((try simp only[bo,LC.lp,LC.ct,Ct.lp,Tr.nice,d7]at*)<;>grind)⟩
noncomputable def px:=ew st Tryz.func11 [(0,lb [0,2,4,5,6] [0,2,3,4,5]),(1000034,jY),(1000047,fM),(1000058,cV),(3000001,rA 0 13)] [lk,pC,uV,jh,tA,mq,ub,gZ] 0 bo (ks:=[.sc .str]) en (λv=>[(true,oo (.o true) v.1),(false,[.c (.bool v.2)])])
def hZ:Sh:=⟨[zl 0 .acti,zo 3 0,zi 4],[za .str]⟩
noncomputable def eN (v0:List Acti)(v1:Int)(a:List aa):Tr (Stp (List aa) ((List aa))):=
 .grd (fN v0 v1)<|
 .cal br.c ((v0.getD v1.toNat (Ty.zero .acti)),()) λc1=>
 .ite (c1==[]) (.ret (.out a))<|
 .grd (vc a 1 16)<|
 .ret (.next (a++[c1]))
noncomputable def co:hZ.V→v8 hZ (List aa) (List aa):=λ(v0,v1,v2,_)=>⟨v1,v2,λv1 a=>(v0,v1,a,()),λv1 _=>(decide (v1<(v0.length:Int))),eN v0,up,1,(Int.toNat ((v0.length:Int)-v1)),.inl,eR,oB .ret ⟨[zs 2,zo 3 0],[za .str]⟩ (λp=>([],p,())) (.exit 0) ⟨[zu 2,zo 3 0],[za .str]⟩ (λx=>(x.2,()))⟩
theorem ny {v0:List Acti}{v1:Int}{v2:List aa}(h0:0≤v1)(h1:(v0.length:Int)≤4611686018427387904)(h2:sL ai v0)(h3:(v2.length:Int)≤v1∧bf jS v2):(co (v0,v1,v2,())).U (v0.length:Int) (λv1 a=>(a.length:Int)≤v1∧bf jS a) (λp=>True):=
 pd (a:=v2) h0 h1 h3
noncomputable def eE:FT (List Acti×Unit) (aa) (λx=>sL ai x.1) (λx v=>sS v∧v.length≤1048576):=⟨λ(x0,_)=>
  .ite (decide (60<(x0.length:Int))) (.ret [])<|
  .lp (co (x0,0,[],())).lp λw2=> .sum w2 (λ_=>
  .ret [])<|
  λ(_,a2_0)=>
  .cal gt.c (a2_0,[10],()) λc3=>
  .ret c3,
 λ(x0,_) hp=>by
  refine Tr.I (λ_=>Tr.R ?_) λ_=>Tr.L (ny ?_ ?_ ?_ ?_) (λa2_0 _=>Tr.Sr (Tr.C ?_ λ_ _ _=>Tr.R ?_)) (λp2a0 _=>Tr.Sl (Tr.R ?_))
  all_goals ((try simp only[co,LC.lp,LC.ct,Ct.lp]at*)<;>grind)⟩
noncomputable def kw:=ew st Tryz.func18 [(0,lb [0,3,4] [2,3])] [gZ,qq] 0 co (ks:=[.sc (.sl .acti)]) eE (λv=>[(false,[.c (.str v)])])
def hT:Sh:=⟨[zo 4 0,zo 5 1,zi 6],[za .acti,za .str]⟩
noncomputable def hY (v2:List aa)(v0:Int)(a:List Acti):Tr (Stp (List Acti) ((Int×List Acti))):=
 .grd (fN v2 v0)<|
 .cal en.c ((v2.getD v0.toNat []),()) λc2=>
 .ite (!c2.2) (.ret (.out (v0,a)))<|
 .grd (vc a 1 104)<|
 .ret (.next (a++[c2.1]))
noncomputable def cq:hT.V→v8 hT (List Acti) (Int×List Acti):=λ(v0,v1,v2,_)=>⟨v0,v1,λv0 a=>(v0,a,v2,()),λv0 _=>(decide (v0<(v2.length:Int))),hY v2,up,1,(Int.toNat ((v2.length:Int)-v0)),.inl,eR,oB .ret ⟨[zo 2 0,zi 3,zo 4 1],[za .acti,za .acti]⟩ (λp=>(p.1,[],p.2,())) (.exit 0) ⟨[zu 2,zu 3,zo 4 0],[za .acti]⟩ (λx=>(x.2,()))⟩
theorem nE {v0:Int}{v1:List Acti}{v2:List aa}(h0:0≤v0)(h1:(v2.length:Int)≤4611686018427387904)(h2:bf tD v2)(h3:sL sS v2)(h4:(v1.length:Int)=v0∧bf ai v1):(cq (v0,v1,v2,())).U (v2.length:Int) (λv0 a=>(a.length:Int)=v0∧bf ai a) (λp=>sL ai p.2∧v0≤p.1∧p.1<(v2.length:Int)):=
 pd (a:=v1) h0 h1 h4
noncomputable def f6:FT (aa×Unit) (List Acti×Int) (λx=>x.1.length≤16777216) (λx v=>sL ai v.1):=⟨λ(x0,_)=>
  .ite (x0==[]) (.ret ([],(-1)))<|
  .cal jF.c (x0,10,()) λc1=>
  .ite (decide (60<(c1.length:Int))) (.ret ([],60))<|
  .lp (cq (0,[],c1,())).lp λw3=> .sum w3 (λ(p3a0,_)=>
  .ret ([],p3a0))<|
  λ(_,a3_0)=>
  .ret (a3_0,(-1)),
 λ(x0,_) hp=>by
  refine Tr.I (λ_=>Tr.R ?_) λ_=>Tr.C ?_ λ_ _ _=>Tr.I (λ_=>Tr.R ?_) λ_=>Tr.L (nE ?_ ?_ ?_ ?_ ?_) (λa3_0 _=>Tr.Sr (Tr.R ?_)) (λ(p3a0,p3a1) _=>Tr.Sl (Tr.R ?_))
  all_goals ((try simp only[cq,LC.lp,LC.ct,Ct.lp]at*)<;>grind)⟩
noncomputable def qY:=ew st Tryz.func21 [(0,lb [4,5,6] [2,3,4])] [lk,px] 0 cq (ks:=[.sc .str]) f6 (λv=>[(false,[sc (.o true) .acti v.1]),(false,[.c (.int .i64 v.2)])])
noncomputable def mc:FT (Segm×Int×Int×Unit) (aa) (λx=>bu x.1) (λx v=>sS v∧v.length≤1500):=⟨λ(x0,x1,x2,_)=>
  .cal pc.c (x0,()) λc1=>
  .ite (!c1) (.ret [])<|
  .cal ma.c (x0.opts,()) λc2=>
  .val (IntKind.wrap .i64 ((IntKind.wrap .i64 (20+(c2.length:Int)))+(x0.body.length:Int))) λe3=>
  .cal nP.c (x1,x2,e3,()) λc4=>
  .ite (c4==[]) (.ret [])<|
  .cal aj.c (x0.from_,2,()) λc5=>
  .cal aj.c (x0.to,2,()) λc6=>
  .grd (Nat.ble (c5.length+c6.length) ah)<|
  .cal aj.c (x0.seq,4,()) λc7=>
  .grd (Nat.ble ((c5++c6).length+c7.length) ah)<|
  .cal aj.c (x0.ack,4,()) λc8=>
  .grd (Nat.ble (((c5++c6)++c7).length+c8.length) ah)<|
  .val (IntKind.wrap .i64 ((IntKind.wrap .i64 (20+(c2.length:Int))).tdiv 4)) λe9=>
  .cal aj.c ((IntKind.wrap .i64 (e9*16)),1,()) λc10=>
  .grd (Nat.ble ((((c5++c6)++c7)++c8).length+c10.length) ah)<|
  .cal aj.c (x0.flags,1,()) λc11=>
  .grd (Nat.ble (((((c5++c6)++c7)++c8)++c10).length+c11.length) ah)<|
  .cal aj.c (x0.window,2,()) λc12=>
  .grd (Nat.ble ((((((c5++c6)++c7)++c8)++c10)++c11).length+c12.length) ah)<|
  .grd (Nat.ble (2+c2.length) ah)<|
  .grd (Nat.ble (([0,0]++c2).length+x0.body.length) ah)<|
  .grd (Nat.ble (c4.length+((((((c5++c6)++c7)++c8)++c10)++c11)++c12).length) ah)<|
  .grd (Nat.ble ((c4++((((((c5++c6)++c7)++c8)++c10)++c11)++c12)).length+2) ah)<|
  .val ((c4++((((((c5++c6)++c7)++c8)++c10)++c11)++c12))++[0,0]) λe13=>
  .grd (Nat.ble (e13.length+(([0,0]++c2)++x0.body).length) ah)<|
  .cal qj.c ((e13++(([0,0]++c2)++x0.body)),()) λc14=>
  .cal aj.c (c14,2,()) λc15=>
  .grd (Nat.ble (((((((c5++c6)++c7)++c8)++c10)++c11)++c12).length+c15.length) ah)<|
  .grd (Nat.ble ((((((((c5++c6)++c7)++c8)++c10)++c11)++c12)++c15).length+(([0,0]++c2)++x0.body).length) ah)<|
  .val ((((((((c5++c6)++c7)++c8)++c10)++c11)++c12)++c15)++(([0,0]++c2)++x0.body)) λe16=>
  .ret e16,
 λ(x0,x1,x2,_) hp=>by
  refine Tr.C trivial λc1 hc1 qc1=>Tr.I (λb0=>Tr.R ?_) λb0=>Tr.C trivial λc2 hc2 qc2=>Tr.V λe3 he3=>Tr.C trivial λc4 hc4 qc4=>Tr.I (λb1=>Tr.R ?_) λb1=>Tr.C trivial λc5 hc5 qc5=>Tr.C trivial λc6 hc6 qc6=>Tr.Gb ?_ λg2=>Tr.C trivial λc7 hc7 qc7=>Tr.Gb ?_ λg3=>Tr.C trivial λc8 hc8 qc8=>Tr.Gb ?_ λg4=>Tr.V λe9 he9=>Tr.C trivial λc10 hc10 qc10=>Tr.Gb ?_ λg5=>Tr.C trivial λc11 hc11 qc11=>Tr.Gb ?_ λg6=>Tr.C trivial λc12 hc12 qc12=>Tr.Gb ?_ λg7=>Tr.Gb ?_ λg8=>Tr.Gb ?_ λg9=>Tr.Gb ?_ λg10=>Tr.Gb ?_ λg11=>Tr.V λe13 he13=>Tr.Gb ?_ λg12=>Tr.C ?_ λc14 hc14 qc14=>Tr.C trivial λc15 hc15 qc15=>Tr.Gb ?_ λg13=>Tr.Gb ?_ λg14=>Tr.V λe16 he16=>Tr.R ?_
  all_goals ((first|(simp only[List.length_append,List.length_cons,List.length_nil,ah,sS]at*;omega)|grind))⟩
noncomputable def pN:=cr st Tryz.func103 [tH,pU,qZ,cg,oj] (ks:=[.st .segm,.sc (.int .i64),.sc (.int .i64)]) mc (λv=>[(false,[.c (.str v)])])
def kE:Sh:=⟨[zs 2,zp 7 0,zi 8,zi 9],[zx .sipr]⟩
noncomputable def sJ (v0:aa)(v1:Int)(a:Int×Sipr):Tr (Stp (Int×Sipr) ((Int×Sipr))):=
 .ite (decide ((IntKind.wrap .i64 (a.1+8))≤v1)) (.grd (D0 v0 a.1 (IntKind.wrap .i64 (a.1+8)))<|
  .cal sO.c (((v0.take ((IntKind.wrap .i64 (a.1+8)).toNat)).drop a.1.toNat),()) λc2=>
  .cal oK.c (a.2,c2,()) λc3=>
  .ret (.next ((IntKind.wrap .i64 (a.1+8)),c3)))<|
 .ret (.out (a.1,a.2))
noncomputable def gH:kE.V→LW kE (Int×Sipr) ((Int×Sipr)):=λ(v0,v1,v2,v3,_)=>⟨(v2,v3),λa=>(v0,v1,a.1,a.2,()),sJ v0 v1,Int.toNat (v1-v2),oN (.exit 0) ⟨[zs 2,zu 6,zp 7 0,zi 8,zi 9],[zx .sipr]⟩ (λp=>(v0,v1,p.1,p.2,()))⟩
theorem sW {v0:aa}{v1 v2:Int}{v3:Sipr}(h0:v1=(v0.length:Int))(h1:sS v0)(h2:0≤v2∧v2≤v1):(gH (v0,v1,v2,v3,())).W (λp=>0≤p.1∧p.1≤v0.length):=
 Ev (a:=(v2,v3)) (λa=>0≤a.1∧a.1≤v1) (λa=>Int.toNat (v1-a.1)) h2
noncomputable def t7:FT (Int×Int×aa×Unit) (Int) (λx=>sS x.2.2.1) (λ_ _=>True):= .mk (λ(x0,x1,x2,_)=>
  .val (rh.f (x0,x1,())) λc1=>
  .lp (gH (x2,(x2.length:Int),0,c1,())).lp λ(p4a0,p4a1)=>
  .grd (D0 x2 p4a0 (x2.length:Int))<|
  .cal sO.c (((x2.take ((x2.length:Int).toNat)).drop p4a0.toNat),()) λc5=>
  .val (IntKind.wrap .u64 ((IntKind.wrap .u64 ((x2.length:Int).tmod 256))*72057594037927936)) λe6=>
  .cal oK.c (p4a1,(bits .or .u64 c5 e6),()) λc7=>
  .cal wq.c (c7,()) λc8=>
  .ret c8) (xb @sW)
noncomputable def wO:=CL st Tryz.func162 [(0,lb [2,7,8,9] [2,6,7,8,9])] [vx,yq,xc,yc] 0 gH (ks:=[.sc (.int .u64),.sc (.int .u64),.sc .str]) t7 (λv=>[(false,[.c (.int .u64 v)])])
noncomputable def eO:FT (Curs×Unit) (Int×Curs) (λx=>ac x.1) (λx v=>ac v.2∧0≤v.1∧v.1≤255):= .mk λ(y0,_)=>
  .val (IntKind.wrap .i64 ((IntKind.wrap .i64 (y0.h*6364136223846793005))+1442695040888963407)) λe1=>
  .val (bits .and .i64 (bits .xor .i64 (e1.fdiv 8589934592) (e1.fdiv 35184372088832)) 255) λe2=>
  .ite (decide (y0.i<(y0.b.length:Int))) (.grd (fN y0.b y0.i)<|
   .val (IntKind.wrap .i64 (e2+(IntKind.wrap .i64 (y0.b.getD y0.i.toNat 0)))) λe3=>
   .ret ((bits .and .i64 e3 255),(⟨y0.b,(IntKind.wrap .i64 (y0.i+1)),e1⟩:Curs)))<|
  .ret (e2,({y0 with h:=e1}:Curs))
noncomputable def je:=cP st ⟨82,Tryz.f82,[],1⟩ [] [] [.wr false [.ptr 0]] [.box [.st .curs]] (λx y=>(y.1.1,())) eO (λv=>[(false,[.c (.int .i64 v.1)])]) (λx y v=>((v.2,()),())) Tryz.func82 (by kernel_rfl) trivial
def nN:Sh:=⟨[zs 1,zp 2 0,zi 5],[zg .mac]⟩
noncomputable def vX (v0:aa)(v2:Mac)(v1:Int)(a:Unit):Tr (Stp (Unit) ((Int))):=
 .grd (fN v2.rows v1)<|
 .ite ((v2.rows.getD v1.toNat (Ty.zero .macRow)).input==v0) (.grd (fN v2.rows v1)<|
  .ite (decide ((((v2.rows.getD v1.toNat (Ty.zero .macRow)).value).tmod 16777216)<0)) (.val (IntKind.wrap .i64 ((((v2.rows.getD v1.toNat (Ty.zero .macRow)).value).tmod 16777216)+16777216)) λe2=>
   .ret (.out e2))<|
  .ret (.out (((v2.rows.getD v1.toNat (Ty.zero .macRow)).value).tmod 16777216)))<|
 .ret (.next ())
noncomputable def jA:nN.V→v8 nN Unit (Int):=λ(v0,v1,v2,_)=>⟨v1,(),λv1 _=>(v0,v1,v2,()),λv1 _=>(decide (v1<(v2.rows.length:Int))),vX v0 v2,up,1,(Int.toNat ((v2.rows.length:Int)-v1)),.inl,eR,oB .ret ⟨[zi 4],[]⟩ (λp=>(p,())) (.exit 0) ⟨[zu 4],[]⟩ (λ_=>())⟩
theorem vk {v0:aa}{v1:Int}{v2:Mac}(h0:0≤v1)(h1:(v2.rows.length:Int)≤4611686018427387904):(jA (v0,v1,v2,())).U (v2.rows.length:Int) (λ_ _=>True) (λ_=>True):=
 pd h0 h1 trivial
noncomputable def zv:FT (Mac×aa×Unit) (Int) (λx=>dF x.1∧sS x.2.1) (λ_ _=>True):= .mk (λ(x0,x1,_)=>
  .ite (!x0.use) (.cal t7.c (x0.k,x0.l,x1,()) λc1=>
   .ret (IntKind.wrap .i64 (c1.tmod 16777216)))<|
  .lp (jA (x1,0,x0,())).lp λw3=> .sum w3 (λp3a0=>
  .ret p3a0)<|
  λ_=>
  .ret 0) (xb @vk)
noncomputable def AG:=ew st Tryz.func158 [(0,lb [1,2,5] [4])] [wO] 0 jA (ks:=[.st .mac,.sc .str]) zv rI
noncomputable def af:FT (Curs×Int×Unit) (Int×Curs) (λx=>ac x.1) (λx v=>ac v.2∧0≤v.1∧(0<x.2.1→v.1<x.2.1)):=⟨λ(y0,x1,_)=>
  .ite (decide (x1≤0)) (.ret (0,y0))<|
  .ite (decide (x1≤256)) (.cal eO.c (y0,()) λc1=>
   .grd (x1 != 0)<|
   .ret ((c1.1.tmod x1),c1.2))<|
  .cal eO.c (y0,()) λc2=>
  .cal eO.c (c2.2,()) λc3=>
  .cal eO.c (c3.2,()) λc4=>
  .cal eO.c (c4.2,()) λc5=>
  .val (IntKind.wrap .i64 ((IntKind.wrap .i64 (c2.1*16777216))+(IntKind.wrap .i64 (c3.1*65536)))) λe6=>
  .val (IntKind.wrap .i64 ((IntKind.wrap .i64 (e6+(IntKind.wrap .i64 (c4.1*256))))+c5.1)) λe7=>
  .grd (x1 != 0)<|
  .ret ((e7.tmod x1),c5.2),
 λ(y0,x1,_) hp=>by
  refine Tr.I (λb0=>Tr.R ?_) λb0=>Tr.I (λb1=>Tr.C ?_ λc1 hc1 qc1=>Tr.G ?_ λg2=>Tr.R ?_) λb1=>Tr.C ?_ λc2 hc2 qc2=>Tr.C ?_ λc3 hc3 qc3=>Tr.C ?_ λc4 hc4 qc4=>Tr.C ?_ λc5 hc5 qc5=>Tr.V λe6 he6=>Tr.V λe7 he7=>Tr.G ?_ λg2=>Tr.R ?_
  all_goals ((first|grind|(refine⟨by grind,zL ?_,λh=>zt h⟩;first|grind|(subst_vars;simp only[gA];omega))))⟩
noncomputable def aC:=cP st ⟨56,Tryz.f56,[],1⟩ [je] [] [.wr false [.ptr 0],.sc (.int .i64)] [.box [.st .curs]] (λx y=>(y.1.1,x.2.1,())) af (λv=>[(false,[.c (.int .i64 v.1)])]) (λx y v=>((v.2,()),())) Tryz.func56 (by kernel_rfl) trivial
noncomputable def aE:FT (Curs×List Int×Unit) (Int×Curs) (λx=>ac x.1∧sS x.2.1∧0<x.2.1.length) (λx v=>ac v.2∧(bf (λn:Int=>0≤n∧n≤1048576) x.2.1→0≤v.1∧v.1≤1048576)∧(bf (λn:Int=>0≤n∧n≤19) x.2.1→0≤v.1∧v.1≤19)):=⟨λ(y0,x1,_)=>
  .cal af.c (y0,(x1.length:Int),()) λc1=>
  .grd (fN x1 c1.1)<|
  .ret ((x1.getD c1.1.toNat 0),c1.2),
 λ(y0,x1,_) hp=>by
  refine Tr.C ?_ λc1 hc1 qc1=>Tr.G2 ?_ λg0=>Tr.R ?_
  all_goals ((first|grind|(refine⟨by grind,λhn=> ?_,λhn=> ?_⟩;exact a6 (p:=λn:Int=>0≤n∧n≤1048576) hn (by omega) _;exact a6 (p:=λn:Int=>0≤n∧n≤19) hn (by omega) _)))⟩
noncomputable def aH:=cP st ⟨58,Tryz.f58,[],1⟩ [aC] [] [.wr false [.ptr 0],.sc (.sl .i64)] [.box [.st .curs]] (λx y=>(y.1.1,x.2.1,())) aE (λv=>[(false,[.c (.int .i64 v.1)])]) (λx y v=>((v.2,()),())) Tryz.func58 (by kernel_rfl) trivial
noncomputable def ov:FT (Curs×Unit) (Int×Curs) (λx=>ac x.1) (λx v=>ac v.2):= .mk λ(y0,_)=>
  .cal aE.c (y0,[167772161,167772162,167772163,0,4294967295],()) λc1=>
  .ret (c1.1,c1.2)
noncomputable def rc:=cP st ⟨86,Tryz.f86,[],1⟩ [aH] [] [.wr false [.ptr 0]] [.box [.st .curs]] (λx y=>(y.1.1,())) ov (λv=>[(false,[.c (.int .i64 v.1)])]) (λx y v=>((v.2,()),())) Tryz.func86 (by kernel_rfl) trivial
noncomputable def ou:FT (MacRow×MacRow×Unit) (Bool) (λ_=>True) (λ_ _=>True):= .mk λ(x0,y1,_)=>
  .ret (x0.input==y1.input)
noncomputable def wC:=cP st ⟨88,Tryz.f88,[],1⟩ [] [] [.st .macRow,.wr false [.ptr 0]] [.box [.st .macRow]] (λx y=>(x.1,y.1.1,())) ou rB (λx y v=>((y.1.1,()),())) Tryz.func88 (by kernel_rfl) trivial
noncomputable def sD:FT (Mac×Tupl×Int×Int×Int×Unit) (Int) (λx=>dF x.1) (λ_ _=>True):= .mk λ(x0,x1,x2,x3,x4,_)=>
  .cal rV.c (x1,x2,x3,x4,()) λc1=>
  .ite (c1==[]) (.ret (-1))<|
  .val (IntKind.wrap .i64 ((IntKind.wrap .i64 ((x3.tmod 32)*134217728))+(IntKind.wrap .i64 (x4*16777216)))) λe2=>
  .cal zv.c (x0,c1,()) λc3=>
  .ret (IntKind.wrap .i64 (e2+c3))
noncomputable def vb:=cr st Tryz.func145 [vl,AG] (ks:=[.st .mac,.st .tupl,.sc (.int .i64),.sc (.int .i64),.sc (.int .i64)]) sD rI
noncomputable def cF:=[wC]
def aP:Sh:=⟨[zl 0 .macRow,(1,false,[.fn 88 [0]]),zi 7,zi 8],[zx .macRow]⟩
noncomputable def cJ:Fx:=⟨107,Tryz.f107,[(0,la ⟨[0,1,7,8],[],false,1⟩ ⟨[4],[],false,1⟩)],1⟩
noncomputable def cc (v0:List MacRow)(v3:MacRow)(v2:Int)(a:Unit):Tr (Stp (Unit) ((Int))):=
 .grd (fN v0 v2)<|
 .cal ou.c ((v0.getD v2.toNat (Ty.zero .macRow)),v3,()) λc1=>
 .ite c1 (.ret (.out v2))<|
 .ret (.next ())
noncomputable def aF:aP.V→v8 aP Unit (Int):=λ(v0,v1,v2,v3,_)=>⟨v2,(),λv2 _=>(v0,v1,v2,v3,()),λv2 _=>(decide (v2<v1)),cc v0 v3,up,1,(Int.toNat (v1-v2)),.inl,eR,oB .ret ⟨[zi 4],[zx .macRow]⟩ (λp=>(p,v3,())) (.exit 0) ⟨[zu 4],[zx .macRow]⟩ (λ_=>(v3,()))⟩
theorem eu:LS Tryz.prog cJ [0] (sZ 0 aP aF):=lQ st (cf cF) _ aF [] trivial
theorem ev {v0:List MacRow}{v1 v2:Int}{v3:MacRow}(h0:0≤v2)(h1:v1≤4611686018427387904)(h2:v1≤(v0.length:Int)):(aF (v0,v1,v2,v3,())).U v1 (λ_ _=>True) (λp=>v2≤p∧p<v1):=
 pd h0 h1 trivial
noncomputable def bQ:FT (List MacRow×MacRow×Unit) (Int) (λx=>wS x.1) (λx v=> -1≤v∧v<x.1.length):= .mk (λ(x0,y1_0,_)=>
  .lp (aF (x0,(x0.length:Int),0,y1_0,())).lp λw2=> .sum w2 (λp2a0=>
  .ret p2a0)<|
  λ_=>
  .ret (-1)) (xb @ev)
noncomputable def eZ:=cP st cJ cF [(sZ 0 aP aF)] [.sc (.sl .macRow),.fn 88 [0]] [.box [.st .macRow]] (λx y=>(x.1,y.1.1,())) bQ rI (λx y v=>((y.1.1,()),())) Tryz.func107 (by kernel_rfl) ⟨eu,trivial⟩
noncomputable def aM:FT (Curs×Int×Unit) (Bool×Curs) (λx=>ac x.1) (λx v=>ac v.2):= .mk λ(y0,x1,_)=>
  .cal af.c (y0,x1,()) λc1=>
  .ret ((c1.1==0),c1.2)
noncomputable def a7:=cP st ⟨23,Tryz.f23,[],1⟩ [aC] [] [.wr false [.ptr 0],.sc (.int .i64)] [.box [.st .curs]] (λx y=>(y.1.1,x.2.1,())) aM (λv=>[(false,[.c (.bool v.1)])]) (λx y v=>((v.2,()),())) Tryz.func23 (by kernel_rfl) trivial
noncomputable def jP:FT (Curs×Unit) (Tupl×Curs) (λx=>ac x.1) (λx v=>ac v.2):= .mk λ(y0,_)=>
  .cal ov.c (y0,()) λc1=>
  .cal aE.c (c1.2,[40000,40001,40002],()) λc2=>
  .ret ((⟨c1.1,c2.1,80⟩:Tupl),c2.2)
noncomputable def ja:=cP st ⟨60,Tryz.f60,[],1⟩ [rc,aH] [] [.wr false [.ptr 0]] [.box [.st .curs]] (λx y=>(y.1.1,())) jP (λv=>[(true,oM v.1)]) (λx y v=>((v.2,()),())) Tryz.func60 (by kernel_rfl) trivial
noncomputable def aY:FT (List MacRow×MacRow×Unit) (Bool) (λx=>sL aQ x.1∧aQ x.2.1) (λ_ _=>True):= .mk λ(x0,y1_0,_)=>
  .cal bQ.c (x0,y1_0,()) λc1=>
  .ret (decide (0≤c1))
noncomputable def et:=cP st ⟨87,Tryz.f87,[],1⟩ [eZ] [] [.sc (.sl .macRow),.fn 88 [0]] [.box [.st .macRow]] (λx y=>(x.1,y.1.1,())) aY rB (λx y v=>((y.1.1,()),())) Tryz.func87 (by kernel_rfl) trivial
def n9:Sh:=⟨[zp 1 0,zl 27 .macRow,zi 28,zi 29],[zg .mac]⟩
noncomputable def gk (v0:List MacRow)(v3:Mac)(v2:Int)(a:Unit):Tr (Stp (Unit) ((Unit))):=
 .grd (fN v0 v2)<|
 .val (dT.f ((v0.getD v2.toNat (Ty.zero .macRow)).value,0,16777215,())) λc2=>
 .ite (!c2) (.ret (.out ()))<|
 .grd ((decide (0≤v2))&&(decide (v2≤(v3.rows.length:Int))))<|
 .cal aY.c (((v3.rows.take v2.toNat).drop 0),(v0.getD v2.toNat (Ty.zero .macRow)),()) λc3=>
 .ite c3 (.ret (.out ()))<|
 .ret (.next ())
noncomputable def eA:n9.V→v8 n9 Unit (Unit):=λ(v0,v1,v2,v3,_)=>⟨v2,(),λv2 _=>(v0,v1,v2,v3,()),λv2 _=>(decide (v2<v1)),gk v0 v3,up,1,(Int.toNat (v1-v2)),.inl,eR,oB .ret ⟨[zb 2],[]⟩ (λ_=>(false,())) (.exit 0) ⟨[zu 2],[]⟩ (λ_=>())⟩
theorem u5 {v0:List MacRow}{v1 v2:Int}{v3:Mac}(h0:0≤v2)(h1:v1≤4611686018427387904)(h2:sL aQ v0)(h3:dF v3)(h4:v1≤(v0.length:Int))(h5:v1≤(v3.rows.length:Int)):(eA (v0,v1,v2,v3,())).U v1 (λ_ _=>True) (λ_=>True):=
 pd h0 h1 trivial
noncomputable def dJ:FT (Mac×Unit) (Bool) (λx=>dF x.1) (λx v=>(v=true→x.1.rows.length≤64)):= .mk (λ(x0,_)=>
  .ite (!x0.use) (.ret ((x0.rows.length:Int)==0))<|
  .bnd (β:=Bool×Unit) (.ite (x0.k != 0) (.ret (true,()))<|
   .ite (x0.l != 0) (.ret (true,()))<|
   .ret ((decide (64<(x0.rows.length:Int))),())) λ(u1a0,_)=>
  .ite u1a0 (.ret false)<|
  .lp (eA (x0.rows,(x0.rows.length:Int),0,x0,())).lp λw4=> .sum w4 (λ_=>
  .ret false)<|
  λ_=>
  .ret true) (xb @u5)
noncomputable def zZ:=ew st Tryz.func64 [(0,lb [1,27,28,29] [2]),(3000003,rA 0 25)] [jB,et] 0 eA (ks:=[.st .mac]) dJ rB
noncomputable def vC:=[vj,vb,AD]
def oh:An:=⟨⟨[],[],false,0⟩,⟨[3,4,5,6,7],[],false,0⟩,⟨[],[]⟩,[(.normal,⟨[zp 3 0,zp 4 1,zp 5 2,zi 6,zi 7],[.box [.st .door [.sl .arg,.sl .arg,.sl .arg,.sl .arg,.sl .arg]],zx .tupl,zx .segm]⟩)]⟩
noncomputable def vS:Fx:=⟨118,Tryz.f118,[(1000012,oh)],0⟩
noncomputable def qK:FT (Door×Tupl×Segm×Unit) (Int) (λx=>jI x.1∧bu x.2.2.1) (λ_ _=>True):= .mk λ(x0,x1,x2,_)=>
  .bnd (β:=Int×Int×Door×Tupl×Segm×Unit) (.as (λw=>jI w.2.2.1∧bu w.2.2.2.2.1) (.ite (x2.opts.mss==0) (.ret (0,536,x0,x1,x2,()))<|
   .ret (0,x2.opts.mss,x0,x1,x2,()))) λ(_,u1a1,u1a2,u1a3,u1a4,_)=>
  .cal qF.c (u1a1,()) λc2=>
  .cal sD.c (u1a2.keys.now,u1a3,u1a4.seq,u1a2.keys.epoch,c2,()) λc3=>
  .val (qa.f (0,c3,())) λc4=>
  .ret c4
noncomputable def vY:=ol st vS vC [] (ks:=[.st .door,.st .tupl,.st .segm]) qK rI Tryz.func118 trivial
noncomputable def AC:=[jB,zZ,wJ,kJ]
noncomputable def AQ:Fx:=⟨26,Tryz.f26,[(3000007,rA 0 24),(3000009,rA 0 38),(3000011,rA 0 49),(3000012,rA 0 49)],0⟩
noncomputable def d4:FT (Acti×Unit) (Bool) (λx=>ai x.1) (λx v=>(v=true→x.1.text.length≤1600∧0≤x.1.n∧x.1.n≤65535)):=⟨λ(x0,_)=>
  .val (dT.f (x0.kind,5,8,())) λc1=>
  .val (dT.f (x0.kind,1,8,())) λc2=>
  .ite (!c2) (.ite (!c2) (.ret false)<|
   .bnd (β:=Bool×Unit) (.ite (!(x0.text==[])) (.ite (x0.kind != 1) (.ret ((x0.kind != 5),()))<|
     .ret (false,()))<|
    .ret (false,())) λ(u3a0,_)=>
   .ite u3a0 (.ret false)<|
   .bnd (β:=Bool×Unit) (.ite (x0.kind != 3) (.cal bt.c (x0.mac,(⟨false,0,0,[]⟩:Mac),()) λc4=>
     .ret ((!c4),()))<|
    .ret (false,())) λ(u5a0,_)=>
   .ite u5a0 (.ret false)<|
   .bnd (β:=Bool×Unit) (.ite c1 (.cal aG.c (x0.tuple,()) λc6=>
     .ret ((!c6),()))<|
    .ret (false,())) λ(u7a0,_)=>
   .ite u7a0 (.ite u7a0 (.ret false)<|
    .ite (x0.n==0) (.ret true)<|
    .ret (x0.kind==6))<|
   .bnd (β:=Bool×Unit) (.ite (!c1) (.ret ((!((x0.tuple.ip==0)&&((x0.tuple.port==0)&&((x0.tuple.my==0)&&true)))),()))<|
    .ret (false,())) λ(u8a0,_)=>
   .ite u8a0 (.ret false)<|
   .ite (x0.n==0) (.ret true)<|
   .ret (x0.kind==6))<|
  .ite (decide (1600<(x0.text.length:Int))) (.ite (decide (1600<(x0.text.length:Int))) (.ret false)<|
   .bnd (β:=Bool×Unit) (.ite (!(x0.text==[])) (.ite (x0.kind != 1) (.ret ((x0.kind != 5),()))<|
     .ret (false,()))<|
    .ret (false,())) λ(u9a0,_)=>
   .ite u9a0 (.ret false)<|
   .bnd (β:=Bool×Unit) (.ite (x0.kind != 3) (.cal bt.c (x0.mac,(⟨false,0,0,[]⟩:Mac),()) λc10=>
     .ret ((!c10),()))<|
    .ret (false,())) λ(u11a0,_)=>
   .ite u11a0 (.ret false)<|
   .bnd (β:=Bool×Unit) (.ite c1 (.cal aG.c (x0.tuple,()) λc12=>
     .ret ((!c12),()))<|
    .ret (false,())) λ(u13a0,_)=>
   .ite u13a0 (.ite u13a0 (.ret false)<|
    .ite (x0.n==0) (.ret true)<|
    .ret (x0.kind==6))<|
   .bnd (β:=Bool×Unit) (.ite (!c1) (.ret ((!((x0.tuple.ip==0)&&((x0.tuple.port==0)&&((x0.tuple.my==0)&&true)))),()))<|
    .ret (false,())) λ(u14a0,_)=>
   .ite u14a0 (.ret false)<|
   .ite (x0.n==0) (.ret true)<|
   .ret (x0.kind==6))<|
  .cal dJ.c (x0.mac,()) λc15=>
  .ite (!c15) (.ite (!c15) (.ret false)<|
   .bnd (β:=Bool×Unit) (.ite (!(x0.text==[])) (.ite (x0.kind != 1) (.ret ((x0.kind != 5),()))<|
     .ret (false,()))<|
    .ret (false,())) λ(u16a0,_)=>
   .ite u16a0 (.ret false)<|
   .bnd (β:=Bool×Unit) (.ite (x0.kind != 3) (.cal bt.c (x0.mac,(⟨false,0,0,[]⟩:Mac),()) λc17=>
     .ret ((!c17),()))<|
    .ret (false,())) λ(u18a0,_)=>
   .ite u18a0 (.ret false)<|
   .bnd (β:=Bool×Unit) (.ite c1 (.cal aG.c (x0.tuple,()) λc19=>
     .ret ((!c19),()))<|
    .ret (false,())) λ(u20a0,_)=>
   .ite u20a0 (.ite u20a0 (.ret false)<|
    .ite (x0.n==0) (.ret true)<|
    .ret (x0.kind==6))<|
   .bnd (β:=Bool×Unit) (.ite (!c1) (.ret ((!((x0.tuple.ip==0)&&((x0.tuple.port==0)&&((x0.tuple.my==0)&&true)))),()))<|
    .ret (false,())) λ(u21a0,_)=>
   .ite u21a0 (.ret false)<|
   .ite (x0.n==0) (.ret true)<|
   .ret (x0.kind==6))<|
  .val (dT.f (x0.n,0,65535,())) λc22=>
  .ite (!c22) (.ret false)<|
  .bnd (β:=Bool×Unit) (.ite (!(x0.text==[])) (.ite (x0.kind != 1) (.ret ((x0.kind != 5),()))<|
    .ret (false,()))<|
   .ret (false,())) λ(u23a0,_)=>
  .ite u23a0 (.ret false)<|
  .bnd (β:=Bool×Unit) (.ite (x0.kind != 3) (.cal bt.c (x0.mac,(⟨false,0,0,[]⟩:Mac),()) λc24=>
    .ret ((!c24),()))<|
   .ret (false,())) λ(u25a0,_)=>
  .ite u25a0 (.ret false)<|
  .bnd (β:=Bool×Unit) (.ite c1 (.cal aG.c (x0.tuple,()) λc26=>
    .ret ((!c26),()))<|
   .ret (false,())) λ(u27a0,_)=>
  .ite u27a0 (.ite u27a0 (.ret false)<|
   .ite (x0.n==0) (.ret true)<|
   .ret (x0.kind==6))<|
  .bnd (β:=Bool×Unit) (.ite (!c1) (.ret ((!((x0.tuple.ip==0)&&((x0.tuple.port==0)&&((x0.tuple.my==0)&&true)))),()))<|
   .ret (false,())) λ(u28a0,_)=>
  .ite u28a0 (.ret false)<|
  .ite (x0.n==0) (.ret true)<|
  .ret (x0.kind==6),
 λ(x0,_) hp=>by
  refine Tr.V λc1 hc1=>Tr.V λc2 hc2=>Tr.I (λb0=>Tr.I (λb1=>Tr.R ?_) λb1=>Tr.B (Q':=λ_=>True) (Tr.F (by kernel_rfl) trivial) (λ(u3a0,_) hj3 qj3=>Tr.I (λb2=>Tr.R ?_) λb2=>Tr.B (Q':=λ_=>True) (Tr.I (λb3=>Tr.C ?_ λc4 hc4 qc4=>Tr.R trivial) λb3=>Tr.R trivial) (λ(u5a0,_) hj5 qj5=>Tr.I (λb3=>Tr.R ?_) λb3=>Tr.B (Q':=λ_=>True) (Tr.I (λb4=>Tr.C trivial λc6 hc6 qc6=>Tr.R trivial) λb4=>Tr.R trivial) (λ(u7a0,_) hj7 qj7=>Tr.I (λb4=>Tr.I (λb5=>Tr.R ?_) λb5=>Tr.I (λb6=>Tr.R ?_) λb6=>Tr.R ?_) λb4=>Tr.B (Q':=λ_=>True) (Tr.F (by kernel_rfl) trivial) (λ(u8a0,_) hj8 qj8=>Tr.I (λb5=>Tr.R ?_) λb5=>Tr.I (λb6=>Tr.R ?_) λb6=>Tr.R ?_))))) λb0=>Tr.I (λb1=>Tr.I (λb2=>Tr.R ?_) λb2=>Tr.B (Q':=λ_=>True) (Tr.F (by kernel_rfl) trivial) (λ(u9a0,_) hj9 qj9=>Tr.I (λb3=>Tr.R ?_) λb3=>Tr.B (Q':=λ_=>True) (Tr.I (λb4=>Tr.C ?_ λc10 hc10 qc10=>Tr.R trivial) λb4=>Tr.R trivial) (λ(u11a0,_) hj11 qj11=>Tr.I (λb4=>Tr.R ?_) λb4=>Tr.B (Q':=λ_=>True) (Tr.I (λb5=>Tr.C trivial λc12 hc12 qc12=>Tr.R trivial) λb5=>Tr.R trivial) (λ(u13a0,_) hj13 qj13=>Tr.I (λb5=>Tr.I (λb6=>Tr.R ?_) λb6=>Tr.I (λb7=>Tr.R ?_) λb7=>Tr.R ?_) λb5=>Tr.B (Q':=λ_=>True) (Tr.F (by kernel_rfl) trivial) (λ(u14a0,_) hj14 qj14=>Tr.I (λb6=>Tr.R ?_) λb6=>Tr.I (λb7=>Tr.R ?_) λb7=>Tr.R ?_))))) λb1=>Tr.C ?_ λc15 hc15 qc15=>Tr.I (λb2=>Tr.I (λb3=>Tr.R ?_) λb3=>Tr.B (Q':=λ_=>True) (Tr.F (by kernel_rfl) trivial) (λ(u16a0,_) hj16 qj16=>Tr.I (λb4=>Tr.R ?_) λb4=>Tr.B (Q':=λ_=>True) (Tr.I (λb5=>Tr.C ?_ λc17 hc17 qc17=>Tr.R trivial) λb5=>Tr.R trivial) (λ(u18a0,_) hj18 qj18=>Tr.I (λb5=>Tr.R ?_) λb5=>Tr.B (Q':=λ_=>True) (Tr.I (λb6=>Tr.C trivial λc19 hc19 qc19=>Tr.R trivial) λb6=>Tr.R trivial) (λ(u20a0,_) hj20 qj20=>Tr.I (λb6=>Tr.I (λb7=>Tr.R ?_) λb7=>Tr.I (λb8=>Tr.R ?_) λb8=>Tr.R ?_) λb6=>Tr.B (Q':=λ_=>True) (Tr.F (by kernel_rfl) trivial) (λ(u21a0,_) hj21 qj21=>Tr.I (λb7=>Tr.R ?_) λb7=>Tr.I (λb8=>Tr.R ?_) λb8=>Tr.R ?_))))) λb2=>Tr.V λc22 hc22=>Tr.I (λb3=>Tr.R ?_) λb3=>Tr.B (Q':=λ_=>True) (Tr.F (by kernel_rfl) trivial) (λ(u23a0,_) hj23 qj23=>Tr.I (λb4=>Tr.R ?_) λb4=>Tr.B (Q':=λ_=>True) (Tr.I (λb5=>Tr.C ?_ λc24 hc24 qc24=>Tr.R trivial) λb5=>Tr.R trivial) (λ(u25a0,_) hj25 qj25=>Tr.I (λb5=>Tr.R ?_) λb5=>Tr.B (Q':=λ_=>True) (Tr.I (λb6=>Tr.C trivial λc26 hc26 qc26=>Tr.R trivial) λb6=>Tr.R trivial) (λ(u27a0,_) hj27 qj27=>Tr.I (λb6=>Tr.I (λb7=>Tr.R ?_) λb7=>Tr.I (λb8=>Tr.R ?_) λb8=>Tr.R ?_) λb6=>Tr.B (Q':=λ_=>True) (Tr.F (by kernel_rfl) trivial) (λ(u28a0,_) hj28 qj28=>Tr.I (λb7=>Tr.R ?_) λb7=>Tr.I (λb8=>Tr.R ?_) λb8=>Tr.R ?_))))
  all_goals ((try simp only[Tr.nice,d7]at*)<;>(first|grind|(have wn:=dE x0.n 0 65535;grind)))⟩
noncomputable def zX:=ol st AQ AC [] (ks:=[.st .acti]) d4 rB Tryz.func26 trivial
noncomputable def nK:FT (Door×Tupl×Segm×Unit) (Segm) (λx=>jI x.1∧bu x.2.2.1) (λx v=>bu v):= .mk λ(x0,x1,x2,_)=>
  .cal qK.c (x0,x1,x2,()) λc1=>
  .val (eU.f (x2.seq,1,())) λc2=>
  .val (jU.f (x2.opts,x0.clock,())) λc3=>
  .ret (⟨x1.my,x1.port,c1,c2,18,32,c3,[]⟩:Segm)
noncomputable def yY:=cr st Tryz.func99 [vY,gO,nj] (ks:=[.st .door,.st .tupl,.st .segm]) nK (λv=>[(true,vK v)])
noncomputable def qA:=[aC,je]
def fw:Sh:=⟨[zp 0 0,(3,false,[.int .u64]),zi 4],[.box [.st .curs [.sl .any]]]⟩
noncomputable def rl:Fx:=⟨61,Tryz.f61,[(1,la ⟨[0,3,4],[],false,1⟩ ⟨[2,3],[],false,1⟩)],1⟩
noncomputable def tR (v1:Int)(a:Int×Curs):Tr (Stp (Int×Curs) (Empty)):=
 .cal eO.c (a.2,()) λc2=>
 .val (bits .or .u64 (IntKind.wrap .u64 (a.1*256)) (IntKind.wrap .u64 c2.1)) λe3=>
 .ret (.next (e3,c2.2))
noncomputable def cZ:fw.V→tV fw (Int×Curs):=λ(v0,v1,v2,_)=>⟨v1,(v0,v2),λv1 a=>(a.1,v1,a.2,()),λv1 _=>(decide (v1<8)),tR,up,1,(Int.toNat (8-v1)),Empty.elim,Prod.mk,oN (.exit 1) ⟨[zu 2,(3,false,[.int .u64])],[.box [.st .curs [.sl .any]]]⟩ (λx=>(x.2.1,x.2.2,()))⟩
theorem tC:LS Tryz.prog rl [0] (sZ 1 fw cZ):=lQ st (cf qA) _ cZ [] trivial
theorem tS {v0 v1:Int}{v2:Curs}(h0:0≤v1)(h1:ac v2∧0≤v0∧v0<18446744073709551616):(cZ (v0,v1,v2,())).U 8 (λv1 a=>ac a.2∧0≤a.1∧a.1<18446744073709551616) (λ_=>True):=
 LC.okU (i:=v1) (a:=(v0,v2)) (λ_ _=>rfl) (λ_=>rfl) rfl h0 (by decide) h1 λv1 (v0,v2) hj hk hv=>by
  refine Tr.C ?_ λc2 hc2 qc2=>Tr.V λe3 he3=>Tr.Rn ?_
  all_goals ((first|grind|(have hb1:=bits_lo_u64 .or (IntKind.wrap .u64 (v0*256)) (IntKind.wrap .u64 c2.1);have hb2:=bits_hi_u64 .or (IntKind.wrap .u64 (v0*256)) (IntKind.wrap .u64 c2.1);grind)))
noncomputable def eD:FT (Curs×Unit) (Int×Curs) (λx=>ac x.1) (λx v=>ac v.2∧0≤v.1∧v.1<18446744073709551616):=⟨λ(y0,_)=>
  .cal af.c (y0,3,()) λc1=>
  .ite (c1.1==0) (.ret (0,c1.2))<|
  .ite (c1.1==1) (.ret (506097522914230528,c1.2))<|
  .lp (cZ (0,0,c1.2,())).lp λ(_,a4_0,a4_1)=>
  .ret (a4_0,a4_1),
 λ(y0,_) hp=>by
  refine Tr.C ?_ λ_ _ _=>Tr.I (λ_=>Tr.R ?_) λ_=>Tr.I (λ_=>Tr.R ?_) λ_=>Tr.L (tS ?_ ?_) (λ(a4_0,a4_1) _=>Tr.R ?_) (λp=>Empty.elim p)
  all_goals ((try simp only[cZ,LC.lp,LC.ct,Ct.lp]at*)<;>grind)⟩
noncomputable def mz:=cP st rl qA [(sZ 1 fw cZ)] [.wr false [.ptr 0]] [.box [.st .curs]] (λx y=>(y.1.1,())) eD (λv=>[(false,[.c (.int .u64 v.1)])]) (λx y v=>((v.2,()),())) Tryz.func61 (by kernel_rfl) ⟨tC,trivial⟩
noncomputable def xF:=[zX,pE,xY,lR,mQ,Al]
def p5:An:=⟨⟨[],[],false,0⟩,⟨[1,2,3],[],false,0⟩,⟨[],[]⟩,[(.normal,⟨[zp 1 0,zs 2,zs 3],[zg .acti]⟩)]⟩
def pY:An:=⟨⟨[],[],false,0⟩,⟨[1,2,3],[],false,0⟩,⟨[],[]⟩,[(.normal,⟨[zp 1 0,zs 2,zs 3],[zg .acti]⟩)]⟩
def p9:An:=⟨⟨[],[],false,0⟩,⟨[1,2,3],[],false,0⟩,⟨[],[]⟩,[(.normal,⟨[zp 1 0,zs 2,zs 3],[zg .acti]⟩)]⟩
noncomputable def wk:Fx:=⟨7,Tryz.f7,[(1000017,p5),(1000033,pY),(1000042,p9),(3000001,rA 0 11),(3000010,rA 0 56)],0⟩
noncomputable def aW:FT (Acti×Unit) (aa) (λx=>ai x.1) (λx v=>sS v∧v.length≤8192):= .mk λ(x0,_)=>
  .bnd (β:=Bool×Unit) (.as (λw=>(w.1=false→x0.text.length≤1600∧0≤x0.n∧x0.n≤65535)) (.cal d4.c (x0,()) λc1=>
   .ite (!c1) (.ret (true,()))<|
   .ret (x0.mac.use,()))) λ(u2a0,_)=>
  .ite u2a0 (.ret [])<|
  .cal ak.c (x0.kind,()) λc3=>
  .bnd (β:=aa×aa×Acti×Unit) (.as (λw=>sS w.1∧sS w.2.1∧ai w.2.2.1∧w.2.1.length≤60∧w.2.2.1=x0) (.ite (x0.kind==3) (.cal kF.c (x0.mac.k,()) λc4=>
    .grd (Nat.ble (1+c4.length) ah)<|
    .grd (Nat.ble (([32]++c4).length+1) ah)<|
    .cal kF.c (x0.mac.l,()) λc5=>
    .grd (Nat.ble ((([32]++c4)++[32]).length+c5.length) ah)<|
    .grd (Nat.ble (c3.length+((([32]++c4)++[32])++c5).length) ah)<|
    .ret ([],(c3++((([32]++c4)++[32])++c5)),x0,()))<|
   .ret ([],c3,x0,()))) λ(u6a0,u6a1,u6a2,_)=>
  .bnd (β:=aa×aa×Acti×Unit) (.as (λw=>sS w.1∧sS w.2.1∧ai w.2.2.1∧w.2.1.length≤300∧w.2.2.1=x0) (.ite (decide (5≤u6a2.kind)) (.cal aK.c (u6a2.tuple,()) λc7=>
    .grd (Nat.ble (1+c7.length) ah)<|
    .grd (Nat.ble (u6a1.length+([32]++c7).length) ah)<|
    .ret (u6a0,(u6a1++([32]++c7)),u6a2,()))<|
   .ret (u6a0,u6a1,u6a2,()))) λ(u8a0,u8a1,u8a2,_)=>
  .bnd (β:=aa×aa×Acti×Unit) (.as (λw=>sS w.1∧sS w.2.1∧ai w.2.2.1∧w.2.1.length≤400∧w.2.2.1=x0) (.ite (u8a2.kind==6) (.cal dX.c (u8a2.n,()) λc9=>
    .grd (Nat.ble (1+c9.length) ah)<|
    .grd (Nat.ble (u8a1.length+([32]++c9).length) ah)<|
    .ret (u8a0,(u8a1++([32]++c9)),u8a2,()))<|
   .ret (u8a0,u8a1,u8a2,()))) λ(_,u10a1,u10a2,_)=>
  .bnd (β:=Bool×Unit) (.ite (u10a2.kind==1) (.ret (true,()))<|
   .ret ((u10a2.kind==5),())) λ(u11a0,_)=>
  .ite u11a0 (.cal qe.c (u10a2.text,()) λc12=>
   .grd (Nat.ble (1+c12.length) ah)<|
   .grd (Nat.ble (u10a1.length+([32]++c12).length) ah)<|
   .ret (u10a1++([32]++c12)))<|
  .ret u10a1
noncomputable def kH:=ol st wk xF [] (ks:=[.st .acti]) aW (λv=>[(false,[.c (.str v)])]) Tryz.func7 trivial
def kt:Sh:=⟨[zs 0,zp 2 0,zo 4 1,zp 5 2,zi 6],[.box [.st .acti [.nil .macRow]],za .str,.box [.st .acti [.nil .macRow]]]⟩
@[reducible] def pP:An:=⟨⟨[],[],false,0⟩,⟨[0,2,3,4,5,8,9,10],[],false,0⟩,⟨[],[]⟩,[(.normal,⟨[zs 0,zp 2 0,zu 3,zo 4 1,zp 5 2,zb 8,zb 9,zb 10],[.box [.st .acti [.nil .macRow]],za .str,.box [.st .acti [.nil .macRow]]]⟩)]⟩
@[reducible] def pQ:An:=⟨⟨[],[],false,0⟩,⟨[0,2,3,5,8,9,10],[],false,0⟩,⟨[],[]⟩,[(.normal,⟨[zs 0,zp 2 0,zu 3,zp 5 1,zb 8,zb 9,zb 10],[.box [.st .acti [.nil .macRow]],.box [.st .acti [.nil .macRow]]]⟩)]⟩
noncomputable def kG (v3:List aa)(v1:Int)(a:Acti×Acti):Tr (Stp (Acti×Acti) (Empty)):=
 .cal ak.c (v1,()) λc2=>
 .grd (decide (0<(v3.length:Int)))<|
 .ite (c2==(v3.getD 0 [])) (.ret (.next (({a.1 with mac.rows:=[]}:Acti),({a.2 with kind:=v1,mac.rows:=[]}:Acti))))<|
 .ret (.next (({a.1 with mac.rows:=[]}:Acti),({a.2 with mac.rows:=[]}:Acti)))
noncomputable def bp:kt.V→tV kt (Acti×Acti):=λ(v0,v1,v2,v3,v4,_)=>⟨v1,(v2,v4),λv1 a=>(v0,v1,a.1,v3,a.2,()),λv1 _=>(decide (v1≤8)),kG v3,up,1,(Int.toNat (8-v1+1)),Empty.elim,Prod.mk,oN (.exit 0) ⟨[zs 0,zp 2 0,zu 3,zo 4 1,zp 5 2],[.box [.st .acti [.nil .macRow]],za .str,.box [.st .acti [.nil .macRow]]]⟩ (λx=>(v0,({x.2.1 with mac.rows:=[]}:Acti),v3,({x.2.2 with mac.rows:=[]}:Acti),()))⟩
theorem sT {v0:aa}{v1:Int}{v2 v4:Acti}{v3:List aa}(h0:0≤v1)(h1:sL sS v3)(h2:0<(v3.length:Int))(h3:ai v2∧ai v4∧0≤v4.kind∧v4.kind≤8):(bp (v0,v1,v2,v3,v4,())).S (λv1 a=>ai a.1∧ai a.2∧0≤a.2.kind∧a.2.kind≤8) (λ_=>True):=by
 refine LC.okS h3 (λj a hj hv=>⟨⟨?_, ?_⟩, ?_⟩) (λa hv=> ?_)
 ·simp only[bp,decide_eq_true_eq]at*;omega
 ·simp only[bp]at*;exact Ek (by omega) (by omega)
 ·refine Tr.C trivial λ_ _ _=>Tr.G1 ?_ λ_=>Tr.I (λ_=>Tr.Rn ?_) λ_=>Tr.Rn ?_
  all_goals (try simp only[bp]at*)<;>(grind)
 ·simp only[bp,decide_eq_false_iff_not]at*;omega
noncomputable def aD:FT (aa×Unit) (Acti×Bool) (λx=>x.1.length≤16777216) (λx v=>ai v.1):=⟨λ(x0,_)=>
  .cal jE.c (x0,32,()) λc1=>
  .lp (bp (x0,1,(⟨0,⟨0,0,0⟩,0,[],⟨false,0,0,[]⟩⟩:Acti),c1,(⟨0,⟨0,0,0⟩,0,[],⟨false,0,0,[]⟩⟩:Acti),())).lp λ(_,a3_0,a3_1)=>
  .bnd (β:=Bool×Unit) (.ite (({a3_1 with mac.rows:=[]}:Acti).kind==0) (.ret (true,()))<|
   .grd ((decide (0≤({a3_1 with mac.rows:=[]}:Acti).kind))&&(decide (({a3_1 with mac.rows:=[]}:Acti).kind<9)))<|
   .val ([0,2,1,3,1,3,3,2,2].getD (({a3_1 with mac.rows:=[]}:Acti).kind).toNat 0) λe4=>
   .ret (((c1.length:Int) != e4),())) λ(u5a0,_)=>
  .ite u5a0 (.ret ((⟨0,⟨0,0,0⟩,0,[],⟨false,0,0,[]⟩⟩:Acti),false))<|
  .bnd (β:=aa×Bool×Bool×Bool×Acti×List aa×Acti×Unit) (.ite (({a3_1 with mac.rows:=[]}:Acti).kind==1) (.grd (decide (1<(c1.length:Int)))<|
    .cal cb.c ((c1.getD 1 []),()) λc6=>
    .ret (x0,c6.2,true,true,({({a3_0 with mac.rows:=[]}:Acti)with mac.rows:=[]}:Acti),c1,({({a3_1 with mac.rows:=[]}:Acti)with text:=c6.1,mac.rows:=[]}:Acti),()))<|
   .ite (({a3_1 with mac.rows:=[]}:Acti).kind==3) (.grd (decide (1<(c1.length:Int)))<|
    .cal bL.c ((c1.getD 1 []),()) λc7=>
    .grd (decide (2<(c1.length:Int)))<|
    .cal bL.c ((c1.getD 2 []),()) λc8=>
    .ret (x0,c7.2,c8.2,true,({({a3_0 with mac.rows:=[]}:Acti)with mac.rows:=[]}:Acti),c1,({({a3_1 with mac.rows:=[]}:Acti)with mac.k:=c7.1,mac.l:=c8.1,mac.rows:=[]}:Acti),()))<|
   .ite (({a3_1 with mac.rows:=[]}:Acti).kind==5) (.ite (({a3_1 with mac.rows:=[]}:Acti).kind==5) (.grd (decide (1<(c1.length:Int)))<|
     .cal aw.c ((c1.getD 1 []),()) λc9=>
     .ret (x0,c9.2,true,true,({({a3_0 with mac.rows:=[]}:Acti)with mac.rows:=[]}:Acti),c1,({({a3_1 with mac.rows:=[]}:Acti)with tuple.ip:=c9.1.ip,tuple.port:=c9.1.port,tuple.my:=c9.1.my,mac.rows:=[]}:Acti),()))<|
    .ret (x0,true,true,true,({({a3_0 with mac.rows:=[]}:Acti)with mac.rows:=[]}:Acti),c1,({({a3_1 with mac.rows:=[]}:Acti)with mac.rows:=[]}:Acti),()))<|
   .ite (({a3_1 with mac.rows:=[]}:Acti).kind==6) (.ite (({a3_1 with mac.rows:=[]}:Acti).kind==6) (.grd (decide (1<(c1.length:Int)))<|
     .cal aw.c ((c1.getD 1 []),()) λc10=>
     .ret (x0,c10.2,true,true,({({a3_0 with mac.rows:=[]}:Acti)with mac.rows:=[]}:Acti),c1,({({a3_1 with mac.rows:=[]}:Acti)with tuple.ip:=c10.1.ip,tuple.port:=c10.1.port,tuple.my:=c10.1.my,mac.rows:=[]}:Acti),()))<|
    .ret (x0,true,true,true,({({a3_0 with mac.rows:=[]}:Acti)with mac.rows:=[]}:Acti),c1,({({a3_1 with mac.rows:=[]}:Acti)with mac.rows:=[]}:Acti),()))<|
   .ite (({a3_1 with mac.rows:=[]}:Acti).kind==7) (.ite (({a3_1 with mac.rows:=[]}:Acti).kind==7) (.grd (decide (1<(c1.length:Int)))<|
     .cal aw.c ((c1.getD 1 []),()) λc11=>
     .ret (x0,c11.2,true,true,({({a3_0 with mac.rows:=[]}:Acti)with mac.rows:=[]}:Acti),c1,({({a3_1 with mac.rows:=[]}:Acti)with tuple.ip:=c11.1.ip,tuple.port:=c11.1.port,tuple.my:=c11.1.my,mac.rows:=[]}:Acti),()))<|
    .ret (x0,true,true,true,({({a3_0 with mac.rows:=[]}:Acti)with mac.rows:=[]}:Acti),c1,({({a3_1 with mac.rows:=[]}:Acti)with mac.rows:=[]}:Acti),()))<|
   .ite (({a3_1 with mac.rows:=[]}:Acti).kind==8) (.grd (decide (1<(c1.length:Int)))<|
    .cal aw.c ((c1.getD 1 []),()) λc12=>
    .ret (x0,c12.2,true,true,({({a3_0 with mac.rows:=[]}:Acti)with mac.rows:=[]}:Acti),c1,({({a3_1 with mac.rows:=[]}:Acti)with tuple.ip:=c12.1.ip,tuple.port:=c12.1.port,tuple.my:=c12.1.my,mac.rows:=[]}:Acti),()))<|
   .ret (x0,true,true,true,({({a3_0 with mac.rows:=[]}:Acti)with mac.rows:=[]}:Acti),c1,({({a3_1 with mac.rows:=[]}:Acti)with mac.rows:=[]}:Acti),())) λ(u13a0,u13a1,u13a2,u13a3,u13a4,u13a5,u13a6,_)=>
  .bnd (β:=aa×Bool×Bool×Bool×Acti×Acti×Unit) (.ite (u13a6.kind==5) (.grd (decide (2<(u13a5.length:Int)))<|
    .cal cb.c ((u13a5.getD 2 []),()) λc14=>
    .ret (u13a0,u13a1,u13a2,c14.2,({u13a4 with mac.rows:=[]}:Acti),({u13a6 with text:=c14.1,mac.rows:=[]}:Acti),()))<|
   .ite (u13a6.kind==6) (.grd (decide (2<(u13a5.length:Int)))<|
    .cal cI.c ((u13a5.getD 2 []),()) λc15=>
    .ret (u13a0,u13a1,u13a2,c15.2,({u13a4 with mac.rows:=[]}:Acti),({u13a6 with n:=c15.1,mac.rows:=[]}:Acti),()))<|
   .ret (u13a0,u13a1,u13a2,u13a3,({u13a4 with mac.rows:=[]}:Acti),({u13a6 with mac.rows:=[]}:Acti),())) λ(u16a0,u16a1,u16a2,u16a3,_,u16a5,_)=>
  .bnd (β:=Bool×Unit) (.ite (!u16a1) (.ret (true,()))<|
   .ite (!u16a2) (.ret (true,()))<|
   .ite (!u16a3) (.ret (true,()))<|
   .cal aW.c (({u16a5 with mac.rows:=[]}:Acti),()) λc17=>
   .ret ((!(c17==u16a0)),())) λ(u18a0,_)=>
  .ite u18a0 (.ret ((⟨0,⟨0,0,0⟩,0,[],⟨false,0,0,[]⟩⟩:Acti),false))<|
  .ret (({u16a5 with mac.rows:=[]}:Acti),true),
 λ(x0,_) hp=>by
  refine Tr.C ?_ λc1 hc1 qc1=>Tr.L (sT ?_ ?_ ?_ ?_) (λ(a3_0,a3_1) i3=>Tr.B (Q':=λ_=>True) (Tr.I (λb0=>Tr.R trivial) λb0=>Tr.G2 ?_ λg1=>Tr.F (by kernel_rfl) trivial) (λ(u5a0,_) hj5 qj5=>Tr.I (λb0=>Tr.R ?_) λb0=>Tr.B (Q':=λw=>sS w.1∧ai w.2.2.2.2.1∧sL sS w.2.2.2.2.2.1∧ai w.2.2.2.2.2.2.1∧bf tD w.2.2.2.2.2.1∧((w.2.2.2.2.2.2.1.kind=5∨w.2.2.2.2.2.2.1.kind=6)→w.2.2.2.2.2.1.length=3)) (Tr.I (λb1=>Tr.G1 ?_ λg2=>Tr.C ?_ λc6 hc6 qc6=>Tr.R ?_) λb1=>Tr.I (λb2=>Tr.G1 ?_ λg3=>Tr.C ?_ λc7 hc7 qc7=>Tr.G1 ?_ λg4=>Tr.C ?_ λc8 hc8 qc8=>Tr.R ?_) λb2=>Tr.I (λb3=>Tr.I (λb4=>Tr.G1 ?_ λg5=>Tr.C ?_ λc9 hc9 qc9=>Tr.R ?_) λb4=>Tr.R ?_) λb3=>Tr.I (λb4=>Tr.I (λb5=>Tr.G1 ?_ λg6=>Tr.C ?_ λc10 hc10 qc10=>Tr.R ?_) λb5=>Tr.R ?_) λb4=>Tr.I (λb5=>Tr.I (λb6=>Tr.G1 ?_ λg7=>Tr.C ?_ λc11 hc11 qc11=>Tr.R ?_) λb6=>Tr.R ?_) λb5=>Tr.I (λb6=>Tr.G1 ?_ λg7=>Tr.C ?_ λc12 hc12 qc12=>Tr.R ?_) λb6=>Tr.R ?_) (λ(u13a0,u13a1,u13a2,u13a3,u13a4,u13a5,u13a6,_) hj13 qj13=>Tr.B (Q':=λw=>sS w.1∧ai w.2.2.2.2.1∧ai w.2.2.2.2.2.1) (Tr.I (λb1=>Tr.G1 ?_ λg2=>Tr.C ?_ λc14 hc14 qc14=>Tr.R ?_) λb1=>Tr.I (λb2=>Tr.G1 ?_ λg3=>Tr.C ?_ λc15 hc15 qc15=>Tr.R ?_) λb2=>Tr.R ?_) (λ(u16a0,u16a1,u16a2,u16a3,u16a4,u16a5,_) hj16 qj16=>Tr.B (Q':=λ_=>True) (Tr.I (λb1=>Tr.R trivial) λb1=>Tr.I (λb2=>Tr.R trivial) λb2=>Tr.I (λb3=>Tr.R trivial) λb3=>Tr.C ?_ λc17 hc17 qc17=>Tr.R trivial) (λ(u18a0,_) hj18 qj18=>Tr.I (λb1=>Tr.R ?_) λb1=>Tr.R ?_))))) (λp=>Empty.elim p)
  all_goals ((try simp only[bp,LC.lp,LC.ct,Ct.lp,Tr.nice,d7]at*)<;>(first|grind|(have hz:=Co a3_1.kind;grind)))⟩
noncomputable def pn:=ew st Tryz.func9 [(0,lb [0,2,4,5,6] [0,2,3,4,5]),(1000043,pP),(1000088,pQ),(3000009,rA 0 39),(3000028,rA 0 123)] [ln,pE,u7,wd,lT,mF,kH] 0 bp (ks:=[.sc .str]) aD (λv=>[(true,oo (.o true) v.1),(false,[.c (.bool v.2)])])
def iq:Sh:=⟨[zo 3 0,zl 11 .acti,zi 12,zi 13],[za .str]⟩
noncomputable def ck (v0:List Acti)(v2:Int)(a:List aa):Tr (Stp (List aa) ((List aa))):=
 .grd (fN v0 v2)<|
 .cal aW.c ((v0.getD v2.toNat (Ty.zero .acti)),()) λc1=>
 .ite (c1==[]) (.ret (.out a))<|
 .grd (vc a 1 16)<|
 .ret (.next (a++[c1]))
noncomputable def bM:iq.V→v8 iq (List aa) (List aa):=λ(v0,v1,v2,v3,_)=>⟨v2,v3,λv2 a=>(v0,v1,v2,a,()),λv2 _=>(decide (v2<v1)),ck v0,up,1,(Int.toNat (v1-v2)),.inl,eR,oB .ret ⟨[zs 2,zo 3 0],[za .str]⟩ (λp=>([],p,())) (.exit 0) ⟨[zu 2,zo 3 0],[za .str]⟩ (λx=>(x.2,()))⟩
theorem nS {v0:List Acti}{v1 v2:Int}{v3:List aa}(h0:0≤v2)(h1:v1≤4611686018427387904)(h2:sL ai v0)(h3:v1≤(v0.length:Int))(h4:v1≤60)(h5:(v3.length:Int)≤v2∧bf jS v3):(bM (v0,v1,v2,v3,())).U v1 (λv2 a=>(a.length:Int)≤v2∧bf jS a) (λp=>True):=
 pd (a:=v3) h0 h1 h5
noncomputable def ao:FT (List Acti×Unit) (aa) (λx=>sL ai x.1) (λx v=>sS v∧v.length≤1048576):=⟨λ(x0,_)=>
  .ite (decide (60<(x0.length:Int))) (.ret [])<|
  .lp (bM (x0,(x0.length:Int),0,[],())).lp λw2=> .sum w2 (λ_=>
  .ret [])<|
  λ(_,a2_0)=>
  .cal kK.c (a2_0,[10],()) λc3=>
  .ret c3,
 λ(x0,_) hp=>by
  refine Tr.I (λ_=>Tr.R ?_) λ_=>Tr.L (nS ?_ ?_ ?_ ?_ ?_ ?_) (λa2_0 _=>Tr.Sr (Tr.C ?_ λ_ _ _=>Tr.R ?_)) (λp2a0 _=>Tr.Sl (Tr.R ?_))
  all_goals ((try simp only[bM,LC.lp,LC.ct,Ct.lp]at*)<;>grind)⟩
noncomputable def rm:=ew st Tryz.func17 [(0,lb [3,11,12,13] [2,3])] [kH,sg] 0 bM (ks:=[.sc (.sl .acti)]) ao (λv=>[(false,[.c (.str v)])])
def io:Sh:=⟨[zo 5 0,zo 18 1,zi 19,zi 20],[za .acti,za .str]⟩
noncomputable def hH (v3:List aa)(v1:Int)(a:List Acti):Tr (Stp (List Acti) ((Int×List Acti))):=
 .grd (fN v3 v1)<|
 .cal aD.c ((v3.getD v1.toNat []),()) λc2=>
 .ite (!c2.2) (.ret (.out (v1,a)))<|
 .grd (vc a 1 104)<|
 .ret (.next (a++[c2.1]))
noncomputable def cj:io.V→v8 io (List Acti) (Int×List Acti):=λ(v0,v1,v2,v3,_)=>⟨v1,v2,λv1 a=>(v0,v1,a,v3,()),λv1 _=>(decide (v1<v0)),hH v3,up,1,(Int.toNat (v0-v1)),.inl,eR,oB .ret ⟨[(2,false,[.nil]),zi 3,zo 5 0],[za .acti]⟩ (λp=>(p.1,p.2,())) (.exit 0) ⟨[zu 2,zu 3,zo 5 0],[za .acti]⟩ (λx=>(x.2,()))⟩
theorem nU {v0 v1:Int}{v2:List Acti}{v3:List aa}(h0:0≤v1)(h1:v0≤4611686018427387904)(h2:bf tD v3)(h3:sL sS v3)(h4:v0≤4294967296)(h5:v0≤(v3.length:Int))(h6:(v2.length:Int)=v1∧bf ai v2):(cj (v0,v1,v2,v3,())).U v0 (λv1 a=>(a.length:Int)=v1∧bf ai a) (λp=>sL ai p.2∧v1≤p.1∧p.1<v0):=
 pd (a:=v2) h0 h1 h6
noncomputable def bd:FT (aa×Unit) (List Acti×Int) (λx=>x.1.length≤16777216) (λx v=>sL ai v.1):=⟨λ(x0,_)=>
  .ite (x0==[]) (.ret ([],(-1)))<|
  .cal jE.c (x0,10,()) λc1=>
  .ite (decide (60<(c1.length:Int))) (.ret ([],60))<|
  .lp (cj ((c1.length:Int),0,[],c1,())).lp λw3=> .sum w3 (λ(p3a0,_)=>
  .ret ([],p3a0))<|
  λ(_,a3_0)=>
  .ret (a3_0,(-1)),
 λ(x0,_) hp=>by
  refine Tr.I (λ_=>Tr.R ?_) λ_=>Tr.C ?_ λ_ _ _=>Tr.I (λ_=>Tr.R ?_) λ_=>Tr.L (nU ?_ ?_ ?_ ?_ ?_ ?_ ?_) (λa3_0 _=>Tr.Sr (Tr.R ?_)) (λ(p3a0,p3a1) _=>Tr.Sl (Tr.R ?_))
  all_goals ((try simp only[cj,LC.lp,LC.ct,Ct.lp]at*)<;>grind)⟩
noncomputable def su:=ew st Tryz.func19 [(0,lb [5,18,19,20] [2,3,5])] [ln,pn] 0 cj (ks:=[.sc .str]) bd (λv=>[(false,[sc (.o true) .acti v.1]),(false,[.c (.int .i64 v.2)])])
noncomputable def lj:FT (Curs×Unit) (Int×Curs) (λx=>ac x.1) (λx v=>ac v.2):=⟨λ(y0,_)=>
  .cal af.c (y0,3,()) λc1=>
  .ite (c1.1==0) (.cal aE.c (c1.2,[0,1,(-1),9,10,999999999999,1000000000000,9223372036854775807,4294967295,4294967296,65535,65536,(-9223372036854775808)],()) λc2=>
   .ret (c2.1,c2.2))<|
  .ite (c1.1==1) (.cal af.c (c1.2,1000000,()) λc3=>
   .ret ((IntKind.wrap .i64 (c3.1-500000)),c3.2))<|
  .cal af.c (c1.2,20,()) λc4=>
  .ret (c4.1,c4.2),
 λ(y0,_) hp=>by
  refine Tr.C ?_ λ_ _ _=>Tr.I (λ_=>Tr.C ?_ λ_ _ _=>Tr.R ?_) λ_=>Tr.I (λ_=>Tr.C ?_ λ_ _ _=>Tr.R ?_) λ_=>Tr.C ?_ λ_ _ _=>Tr.R ?_
  all_goals (first|grind|(simp only[sS,List.length_cons,List.length_nil];grind))⟩
noncomputable def kg:=cP st ⟨93,Tryz.f93,[],1⟩ [aC,aH] [] [.wr false [.ptr 0]] [.box [.st .curs]] (λx y=>(y.1.1,())) lj (λv=>[(false,[.c (.int .i64 v.1)])]) (λx y v=>((v.2,()),())) Tryz.func93 (by kernel_rfl) trivial
noncomputable def pH:=[je]
def eB:Sh:=⟨[zp 0 0,zi 1,zo 5 1,zi 6],[.box [.st .curs [.sl .any]],za .u8]⟩
noncomputable def pk:Fx:=⟨62,Tryz.f62,[(0,la ⟨[0,1,5,6],[.softo 0 0],false,1⟩ ⟨[4,5],[],false,1⟩)],1⟩
noncomputable def sU (v1:Int)(a:Curs×List Int):Tr (Stp (Curs×List Int) (Empty)):=
 .cal eO.c (a.1,()) λc2=>
 .grd (vc a.2 1 1)<|
 .ret (.next (c2.2,(a.2++[(IntKind.wrap .u8 c2.1)])))
noncomputable def cz:eB.V→tV eB (Curs×List Int):=λ(v0,v1,v2,v3,_)=>⟨v1,(v2,v3),λv1 a=>(v0,v1,a.1,a.2,()),λv1 _=>(decide (v1<v0)),sU,up,1,(Int.toNat (v0-v1)),Empty.elim,Prod.mk,oN (.exit 0) ⟨[zu 4,zo 5 1],[.box [.st .curs [.sl .any]],za .u8]⟩ (λx=>(x.2.1,x.2.2,()))⟩
theorem sv:LS Tryz.prog pk [0] (sZ 0 eB cz):=lQ st (cf pH) _ cz [] trivial
theorem rZ {v0 v1:Int}{v2:Curs}{v3:List Int}(h0:0≤v1)(h1:v0≤4611686018427387904)(h2:v0≤4294967296)(h3:ac v2∧(v3.length:Int)=v1):(cz (v0,v1,v2,v3,())).U v0 (λv1 a=>ac a.1∧(a.2.length:Int)=v1) (λ_=>True):=
 pd (a:=(v2,v3)) h0 h1 h3
noncomputable def df:FT (Curs×Int×Unit) (List Int×Curs) (λx=>ac x.1∧x.2.1≤1048576) (λx v=>sS v.1∧ac v.2):=⟨λ(y0,x1,_)=>
  .lp (cz (x1,0,y0,[],())).lp λ(_,a3_0,a3_1)=>
  .ret (a3_1,a3_0),
 λ(y0,x1,_) hp=>by
  refine Tr.L (rZ ?_ ?_ ?_ ?_) (λ(a3_0,a3_1) _=>Tr.R ?_) (λp=>Empty.elim p)
  all_goals ((try simp only[cz,LC.lp,LC.ct,Ct.lp]at*)<;>grind)⟩
noncomputable def dw:=cP st pk pH [(sZ 0 eB cz)] [.wr false [.ptr 0],.sc (.int .i64)] [.box [.st .curs]] (λx y=>(y.1.1,x.2.1,())) df (λv=>[(false,[sc (.o true) .u8 v.1])]) (λx y v=>((v.2,()),())) Tryz.func62 (by kernel_rfl) ⟨sv,trivial⟩
noncomputable def dH:FT (Curs×Unit) (Int×Curs) (λx=>ac x.1) (λx v=>ac v.2):=⟨λ(y0,_)=>
  .cal af.c (y0,3,()) λc1=>
  .ite (c1.1==0) (.cal lj.c (c1.2,()) λc2=>
   .ret (c2.1,c2.2))<|
  .ite (c1.1==1) (.cal aE.c (c1.2,[0,1,255,256,65535,65536,16777215,4294967295,4294967296,281474976710655,281474976710656],()) λc3=>
   .ret (c3.1,c3.2))<|
  .cal af.c (c1.2,65536,()) λc4=>
  .ret (c4.1,c4.2),
 λ(y0,_) hp=>by
  refine Tr.C ?_ λ_ _ _=>Tr.I (λ_=>Tr.C ?_ λ_ _ _=>Tr.R ?_) λ_=>Tr.I (λ_=>Tr.C ?_ λ_ _ _=>Tr.R ?_) λ_=>Tr.C ?_ λ_ _ _=>Tr.R ?_
  all_goals (first|grind|(simp only[sS,List.length_cons,List.length_nil];grind))⟩
noncomputable def jl:=cP st ⟨79,Tryz.f79,[],1⟩ [aC,kg,aH] [] [.wr false [.ptr 0]] [.box [.st .curs]] (λx y=>(y.1.1,())) dH (λv=>[(false,[.c (.int .i64 v.1)])]) (λx y v=>((v.2,()),())) Tryz.func79 (by kernel_rfl) trivial
noncomputable def nh:FT (Curs×Unit) (Acti×Curs) (λx=>ac x.1) (λx v=>ai v.1∧ac v.2∧jK v.1):= .mk λ(y0,_)=>
  .cal jP.c (y0,()) λc1=>
  .cal af.c (c1.2,7,()) λc2=>
  .ite (c2.1==0) (.ret ((⟨2,⟨0,0,0⟩,0,[],⟨false,0,0,[]⟩⟩:Acti),c2.2))<|
  .ite (c2.1==1) (.cal eD.c (c2.2,()) λc3=>
   .cal eD.c (c3.2,()) λc4=>
   .cal i6.c (c3.1,c4.1,()) λc5=>
   .ret ((⟨3,⟨0,0,0⟩,0,[],c5⟩:Acti),c4.2))<|
  .ite (c2.1==2) (.ret ((⟨4,⟨0,0,0⟩,0,[],⟨false,0,0,[]⟩⟩:Acti),c2.2))<|
  .ite (c2.1==3) (.cal af.c (c2.2,4,()) λc6=>
   .cal df.c (c6.2,c6.1,()) λc7=>
   .ret ((⟨5,c1.1,0,(aA c7.1),⟨false,0,0,[]⟩⟩:Acti),c7.2))<|
  .ite (c2.1==4) (.cal af.c (c2.2,20,()) λc8=>
   .ret ((⟨6,c1.1,c8.1,[],⟨false,0,0,[]⟩⟩:Acti),c8.2))<|
  .ite (c2.1==5) (.cal af.c (c2.2,2,()) λc9=>
   .ret ((⟨(IntKind.wrap .i64 (7+c9.1)),c1.1,0,[],⟨false,0,0,[]⟩⟩:Acti),c9.2))<|
  .cal af.c (c2.2,6,()) λc10=>
  .cal df.c (c10.2,c10.1,()) λc11=>
  .ret ((⟨1,⟨0,0,0⟩,0,(aA c11.1),⟨false,0,0,[]⟩⟩:Acti),c11.2)
noncomputable def mJ:=cP st ⟨25,Tryz.f25,[],1⟩ [ja,aC,mz,jh,dw] [] [.wr false [.ptr 0]] [.box [.st .curs]] (λx y=>(y.1.1,())) nh (λv=>[(true,oo (.o true) v.1)]) (λx y v=>((v.2,()),())) Tryz.func25 (by kernel_rfl) trivial
noncomputable def oc:FT (Curs×Unit) (Tupl×Curs) (λx=>ac x.1) (λx v=>ac v.2):= .mk λ(y0,_)=>
  .cal jP.c (y0,()) λc1=>
  .cal af.c (c1.2,10,()) λc2=>
  .ite (c2.1==0) (.cal dH.c (c2.2,()) λc3=>
   .ret (({c1.1 with ip:=c3.1}:Tupl),c3.2))<|
  .ite (c2.1==1) (.cal dH.c (c2.2,()) λc4=>
   .ret (({c1.1 with port:=c4.1}:Tupl),c4.2))<|
  .ite (c2.1==2) (.cal dH.c (c2.2,()) λc5=>
   .ret (({c1.1 with my:=c5.1}:Tupl),c5.2))<|
  .ret (c1.1,c2.2)
noncomputable def o8:=cP st ⟨48,Tryz.f48,[],1⟩ [ja,aC,jl] [] [.wr false [.ptr 0]] [.box [.st .curs]] (λx y=>(y.1.1,())) oc (λv=>[(true,oM v.1)]) (λx y v=>((v.2,()),())) Tryz.func48 (by kernel_rfl) trivial
noncomputable def fQ:FT (List Int×Unit) (Tupl) (λx=>sS x.1∧x.1.length≤1048576) (λ_ _=>True):= .mk λ(x0,_)=>
  .cal lw.c (x0,()) λc1=>
  .cal oc.c (c1,()) λc2=>
  .ret c2.1
noncomputable def nJ:=cr st Tryz.func12 [iU,o8] (ks:=[.sc (.sl .u8)]) fQ (λv=>[(true,oM v)])
noncomputable def ru:FT (Curs×List aa×Unit) (aa×Curs) (λx=>ac x.1∧sL sS x.2.1∧0<x.2.1.length) (λx v=>sS v.1∧ac v.2∧(bf (λb:aa=>b.length≤64) x.2.1→v.1.length≤64)):=⟨λ(y0,x1,_)=>
  .cal af.c (y0,(x1.length:Int),()) λc1=>
  .grd (fN x1 c1.1)<|
  .ret ((x1.getD c1.1.toNat []),c1.2),
 λ(y0,x1,_) hp=>by
  refine Tr.C ?_ λc1 hc1 qc1=>Tr.G2 ?_ λg0=>Tr.R ?_
  all_goals ((first|grind|(refine⟨by grind,by grind,λhn=> ?_⟩;exact a6 (p:=λb:aa=>b.length≤64) hn (Nat.zero_le _) _)))⟩
noncomputable def rJ:=cP st ⟨75,Tryz.f75,[],1⟩ [aC] [] [.wr false [.ptr 0],.sc (.sl .str)] [.box [.st .curs]] (λx y=>(y.1.1,x.2.1,())) ru (λv=>[(false,[.c (.str v.1)])]) (λx y v=>((v.2,()),())) Tryz.func75 (by kernel_rfl) trivial
noncomputable def ff:FT (Curs×aa×List aa×Unit) (aa×Curs) (λx=>ac x.1∧sS x.2.1∧sL sS x.2.2.1∧x.2.1.length≤1048576∧0<x.2.2.1.length∧bf (λb:aa=>b.length≤64) x.2.2.1) (λx v=>sS v.1∧ac v.2∧v.1.length≤x.2.1.length+64):= .mk λ(y0,x1,x2,_)=>
  .cal af.c (y0,(IntKind.wrap .i64 ((x1.length:Int)+1)),()) λc1=>
  .cal af.c (c1.2,6,()) λc2=>
  .ite (c2.1==0) (.grd ((decide (0≤c1.1))&&(decide (c1.1≤(x1.length:Int))))<|
   .cal ru.c (c2.2,x2,()) λc3=>
   .grd (Nat.ble (((x1.take c1.1.toNat).drop 0).length+c3.1.length) ah)<|
   .grd (D0 x1 c1.1 (x1.length:Int))<|
   .grd (Nat.ble ((((x1.take c1.1.toNat).drop 0)++c3.1).length+((x1.take ((x1.length:Int).toNat)).drop c1.1.toNat).length) ah)<|
   .val ((((x1.take c1.1.toNat).drop 0)++c3.1)++((x1.take ((x1.length:Int).toNat)).drop c1.1.toNat)) λe4=>
   .ret (e4,c3.2))<|
  .ite (c2.1==1) (.grd ((decide (0≤c1.1))&&(decide (c1.1≤(x1.length:Int))))<|
   .ret (((x1.take c1.1.toNat).drop 0),c2.2))<|
  .ret (x1,c2.2)
noncomputable def gj:=cP st ⟨41,Tryz.f41,[],1⟩ [aC,rJ] [] [.wr false [.ptr 0],.sc .str,.sc (.sl .str)] [.box [.st .curs]] (λx y=>(y.1.1,x.2.1,x.2.2.1,())) ff (λv=>[(false,[.c (.str v.1)])]) (λx y v=>((v.2,()),())) Tryz.func41 (by kernel_rfl) trivial
noncomputable def dV:FT (List Int×Unit) (aa) (λx=>sS x.1∧x.1.length≤1048576) (λx v=>sS v∧v.length≤16777216):= .mk λ(x0,_)=>
  .cal lw.c (x0,()) λc1=>
  .cal nh.c (c1,()) λc2=>
  .cal br.c (c2.1,()) λc3=>
  .cal ff.c (c2.2,c3,[[32],[48],[97],[45],[120],[58]],()) λc4=>
  .ret c4.1
noncomputable def pT:=cr st Tryz.func10 [iU,mJ,gZ,gj] (ks:=[.sc (.sl .u8)]) dV (λv=>[(false,[.c (.str v)])])
noncomputable def m7:FT (Curs×Unit) (Int×Curs) (λx=>ac x.1) (λx v=>ac v.2):= .mk λ(y0,_)=>
  .cal aE.c (y0,[11,12,13,281474976710655,0,2199023255552],()) λc1=>
  .ret (c1.1,c1.2)
noncomputable def ur:=cP st ⟨141,Tryz.f141,[],1⟩ [aH] [] [.wr false [.ptr 0]] [.box [.st .curs]] (λx y=>(y.1.1,())) m7 (λv=>[(false,[.c (.int .i64 v.1)])]) (λx y v=>((v.2,()),())) Tryz.func141 (by kernel_rfl) trivial
noncomputable def zE:FT (Curs×Unit) (Arpm×Curs) (λx=>ac x.1) (λx v=>ac v.2):= .mk λ(y0,_)=>
  .cal af.c (y0,2,()) λc1=>
  .cal m7.c (c1.2,()) λc2=>
  .cal ov.c (c2.2,()) λc3=>
  .cal m7.c (c3.2,()) λc4=>
  .cal ov.c (c4.2,()) λc5=>
  .cal af.c (c5.2,14,()) λc6=>
  .ite (c6.1==0) (.cal af.c (c6.2,5,()) λc7=>
   .ret ((⟨(IntKind.wrap .i64 (c7.1-1)),c2.1,c3.1,c4.1,c5.1⟩:Arpm),c7.2))<|
  .ite (c6.1==1) (.cal dH.c (c6.2,()) λc8=>
   .ret ((⟨(IntKind.wrap .i64 (1+c1.1)),c8.1,c3.1,c4.1,c5.1⟩:Arpm),c8.2))<|
  .ite (c6.1==2) (.cal dH.c (c6.2,()) λc9=>
   .ret ((⟨(IntKind.wrap .i64 (1+c1.1)),c2.1,c9.1,c4.1,c5.1⟩:Arpm),c9.2))<|
  .ite (c6.1==3) (.cal dH.c (c6.2,()) λc10=>
   .ret ((⟨(IntKind.wrap .i64 (1+c1.1)),c2.1,c3.1,c4.1,c10.1⟩:Arpm),c10.2))<|
  .ret ((⟨(IntKind.wrap .i64 (1+c1.1)),c2.1,c3.1,c4.1,c5.1⟩:Arpm),c6.2)
noncomputable def Ae:=cP st ⟨112,Tryz.f112,[],1⟩ [aC,ur,rc,jl] [] [.wr false [.ptr 0]] [.box [.st .curs]] (λx y=>(y.1.1,())) zE (λv=>[(true,DP v.1)]) (λx y v=>((v.2,()),())) Tryz.func112 (by kernel_rfl) trivial
noncomputable def ut:FT (Curs×Unit) (Fram×Curs) (λx=>ac x.1) (λx v=>lq v.1∧ac v.2):= .mk λ(y0,_)=>
  .cal m7.c (y0,()) λc1=>
  .cal m7.c (c1.2,()) λc2=>
  .cal aE.c (c2.2,[2048,2054,1536,65535],()) λc3=>
  .cal af.c (c3.2,6,()) λc4=>
  .cal df.c (c4.2,c4.1,()) λc5=>
  .cal af.c (c5.2,12,()) λc6=>
  .ite (c6.1==0) (.cal dH.c (c6.2,()) λc7=>
   .ret ((⟨c7.1,c2.1,c3.1,(aA c5.1)⟩:Fram),c7.2))<|
  .ite (c6.1==1) (.cal dH.c (c6.2,()) λc8=>
   .ret ((⟨c1.1,c8.1,c3.1,(aA c5.1)⟩:Fram),c8.2))<|
  .ite (c6.1==2) (.cal aE.c (c6.2,[0,1535,65536,(-1)],()) λc9=>
   .ret ((⟨c1.1,c2.1,c9.1,(aA c5.1)⟩:Fram),c9.2))<|
  .ite (c6.1==3) (.cal af.c (c6.2,4,()) λc10=>
   .cal rp.c ((IntKind.wrap .i64 (1584+c10.1)),()) λc11=>
   .ret ((⟨c1.1,c2.1,c3.1,c11⟩:Fram),c10.2))<|
  .ret ((⟨c1.1,c2.1,c3.1,(aA c5.1)⟩:Fram),c6.2)
noncomputable def xe:=cP st ⟨114,Tryz.f114,[],1⟩ [ur,aH,aC,dw,jl,qT] [] [.wr false [.ptr 0]] [.box [.st .curs]] (λx y=>(y.1.1,())) ut (λv=>[(true,DT v.1)]) (λx y v=>((v.2,()),())) Tryz.func114 (by kernel_rfl) trivial
noncomputable def r8:FT (Curs×Unit) (Pack×Curs) (λx=>ac x.1) (λx v=>jc v.1∧ac v.2):= .mk λ(y0,_)=>
  .cal ov.c (y0,()) λc1=>
  .cal ov.c (c1.2,()) λc2=>
  .cal af.c (c2.2,64,()) λc3=>
  .cal aE.c (c3.2,[6,6,17,0],()) λc4=>
  .cal af.c (c4.2,65536,()) λc5=>
  .cal af.c (c5.2,8,()) λc6=>
  .cal df.c (c6.2,c6.1,()) λc7=>
  .cal af.c (c7.2,14,()) λc8=>
  .ite (c8.1==0) (.cal dH.c (c8.2,()) λc9=>
   .ret ((⟨c9.1,c2.1,(IntKind.wrap .i64 (1+c3.1)),c4.1,c5.1,(aA c7.1)⟩:Pack),c9.2))<|
  .ite (c8.1==1) (.cal aE.c (c8.2,[0,255,256],()) λc10=>
   .ret ((⟨c1.1,c2.1,c10.1,c4.1,c5.1,(aA c7.1)⟩:Pack),c10.2))<|
  .ite (c8.1==2) (.cal af.c (c8.2,3,()) λc11=>
   .cal rp.c ((IntKind.wrap .i64 (1479+c11.1)),()) λc12=>
   .ret ((⟨c1.1,c2.1,(IntKind.wrap .i64 (1+c3.1)),c4.1,c5.1,c12⟩:Pack),c11.2))<|
  .ite (c8.1==3) (.cal dH.c (c8.2,()) λc13=>
   .ret ((⟨c1.1,c2.1,(IntKind.wrap .i64 (1+c3.1)),c4.1,c13.1,(aA c7.1)⟩:Pack),c13.2))<|
  .ret ((⟨c1.1,c2.1,(IntKind.wrap .i64 (1+c3.1)),c4.1,c5.1,(aA c7.1)⟩:Pack),c8.2)
noncomputable def vu:=cP st ⟨115,Tryz.f115,[],1⟩ [rc,aC,aH,dw,jl,qT] [] [.wr false [.ptr 0]] [.box [.st .curs]] (λx y=>(y.1.1,())) r8 (λv=>[(true,Dm v.1)]) (λx y v=>((v.2,()),())) Tryz.func115 (by kernel_rfl) trivial
noncomputable def sP:FT (Curs×aa×Unit) (aa×Curs) (λx=>ac x.1∧sS x.2.1∧x.2.1.length≤65536) (λx v=>sS v.1∧ac v.2∧v.1.length≤131072):=⟨λ(y0,x1,_)=>
  .ite (decide ((x1.length:Int)<20)) (.cal ff.c (y0,x1,[[0],[69],[120]],()) λc1=>
   .ret (c1.1,c1.2))<|
  .cal aM.c (y0,3,()) λc2=>
  .ite c2.1 (.cal ff.c (c2.2,x1,[[0],[69],[120]],()) λc3=>
   .ret (c3.1,c3.2))<|
  .grd (Nat.ble x1.length bn)<|
  .cal aE.c (c2.2,[0,1,2,3,6,7,8,10,19],()) λc4=>
  .cal aE.c (c4.2,[0,64,32,69,70,1,255],()) λc5=>
  .grd (fN (a5 x1) c4.1)<|
  .cal aM.c (c5.2,4,()) λc6=>
  .ite c6.1 (.ret ((aA ((a5 x1).set c4.1.toNat (IntKind.wrap .u8 c5.1))),c6.2))<|
  .grd (decide (10<(((a5 x1).set c4.1.toNat (IntKind.wrap .u8 c5.1)).length:Int)))<|
  .grd (decide (11<((((a5 x1).set c4.1.toNat (IntKind.wrap .u8 c5.1)).set 10 0).length:Int)))<|
  .grd (decide (20≤(((((a5 x1).set c4.1.toNat (IntKind.wrap .u8 c5.1)).set 10 0).set 11 0).length:Int)))<|
  .val (aA ((((((a5 x1).set c4.1.toNat (IntKind.wrap .u8 c5.1)).set 10 0).set 11 0).take 20).drop 0)) λe7=>
  .cal qj.c (e7,()) λc8=>
  .grd (decide (10<(((((a5 x1).set c4.1.toNat (IntKind.wrap .u8 c5.1)).set 10 0).set 11 0).length:Int)))<|
  .val (((((a5 x1).set c4.1.toNat (IntKind.wrap .u8 c5.1)).set 10 0).set 11 0).set 10 (IntKind.wrap .u8 (IntKind.wrap .i64 (c8.tdiv 256)))) λl9=>
  .grd (decide (11<(l9.length:Int)))<|
  .ret ((aA (l9.set 11 (IntKind.wrap .u8 (c8.tmod 256)))),c6.2),
 λ(y0,x1,_) hp=>by
  refine Tr.I (λb0=>Tr.C ?_ λc1 hc1 qc1=>Tr.R ?_) λb0=>Tr.C ?_ λc2 hc2 qc2=>Tr.I (λb1=>Tr.C ?_ λc3 hc3 qc3=>Tr.R ?_) λb1=>Tr.Gb ?_ λg2=>Tr.C ?_ λc4 hc4 qc4=>Tr.C ?_ λc5 hc5 qc5=>Tr.G2 ?_ λg3=>Tr.C ?_ λc6 hc6 qc6=>Tr.I (λb4=>Tr.R ?_) λb4=>Tr.G1 ?_ λg5=>Tr.G1 ?_ λg6=>Tr.G1 ?_ λg7=>Tr.V λe7 he7=>Tr.C ?_ λc8 hc8 qc8=>Tr.G1 ?_ λg8=>Tr.V λl9 hl9=>Tr.G1 ?_ λg9=>Tr.R ?_
  all_goals ((first|grind|(simp only[sS,List.length_cons,List.length_nil];grind)|(have h1:=qc4.2.2 (by simp[bf]);first|grind|(simp only[sS,List.length_cons,List.length_nil];grind))))⟩
noncomputable def vH:=cP st ⟨133,Tryz.f133,[],1⟩ [a7,gj,aH,oj] [] [.wr false [.ptr 0],.sc .str] [.box [.st .curs]] (λx y=>(y.1.1,x.2.1,())) sP (λv=>[(false,[.c (.str v.1)])]) (λx y v=>((v.2,()),())) Tryz.func133 (by kernel_rfl) trivial
noncomputable def kn:FT (Curs×aa×Unit) (aa×Curs) (λx=>ac x.1∧sS x.2.1∧x.2.1.length≤65536) (λx v=>sS v.1∧ac v.2∧v.1.length≤131072):= .mk λ(y0,x1,_)=>
  .cal aM.c (y0,5,()) λc1=>
  .ite c1.1 (.cal sP.c (c1.2,x1,()) λc2=>
   .ret (c2.1,c2.2))<|
  .ret (x1,c1.2)
noncomputable def l6:=cP st ⟨106,Tryz.f106,[],1⟩ [a7,vH] [] [.wr false [.ptr 0],.sc .str] [.box [.st .curs]] (λx y=>(y.1.1,x.2.1,())) kn (λv=>[(false,[.c (.str v.1)])]) (λx y v=>((v.2,()),())) Tryz.func106 (by kernel_rfl) trivial
noncomputable def yT:=[aH,aC,Ae,a7,wT,lN,xe,dw,vu,ld,l6]
def sk:An:=⟨⟨[],[],false,1⟩,⟨[0,2,3,4,5],[],false,1⟩,⟨[],[]⟩,[(.normal,⟨[zp 0 0,zs 2,zi 3,zi 4,zp 5 1],[.box [.st .curs [.sl .any]],zx .arpm]⟩)]⟩
def qW:An:=⟨⟨[],[],false,1⟩,⟨[0,2,3,4,6],[],false,1⟩,⟨[],[]⟩,[(.normal,⟨[zp 0 0,zs 2,zi 3,zi 4,zp 6 1],[.box [.st .curs [.sl .any]],zx .pack]⟩)]⟩
noncomputable def yi:Fx:=⟨97,Tryz.f97,[(1000020,sk),(1000044,qW)],1⟩
noncomputable def xN:FT (Curs×Unit) (aa×Curs) (λx=>ac x.1) (λx v=>sS v.1∧ac v.2):= .mk λ(y0,_)=>
  .cal aE.c (y0,[11,11,11,281474976710655,12],()) λc1=>
  .cal aE.c (c1.2,[12,13],()) λc2=>
  .cal af.c (c2.2,4,()) λc3=>
  .ite (c3.1==0) (.cal zE.c (c3.2,()) λc4=>
   .cal aM.c (c4.2,2,()) λc5=>
   .bnd (β:=aa×Int×Int×Curs×Arpm×Unit) (.as (λw=>sS w.1∧ac w.2.2.2.1) (.ite c5.1 (.ret ([],c1.1,c2.1,c5.2,(⟨1,c2.1,167772162,0,167772161⟩:Arpm),()))<|
    .ret ([],c1.1,c2.1,c5.2,c4.1,()))) λ(_,u6a1,u6a2,u6a3,u6a4,_)=>
   .cal ul.c (u6a4,()) λc7=>
   .cal fC.c ((⟨u6a1,u6a2,2054,c7⟩:Fram),()) λc8=>
   .ret (c8,u6a3))<|
  .ite (c3.1==1) (.cal ut.c (c3.2,()) λc9=>
   .cal fC.c (c9.1,()) λc10=>
   .ret (c10,c9.2))<|
  .cal af.c (c3.2,2,()) λc11=>
  .cal af.c (c11.2,4,()) λc12=>
  .cal df.c (c12.2,c12.1,()) λc13=>
  .cal aM.c (c13.2,4,()) λc14=>
  .bnd (β:=aa×Int×Int×Curs×Pack×Unit) (.as (λw=>sS w.1∧ac w.2.2.2.1∧jc w.2.2.2.2.1) (.ite c14.1 (.cal r8.c (c14.2,()) λc15=>
    .ret ([],c1.1,c2.1,c15.2,c15.1,()))<|
   .ret ([],c1.1,c2.1,c14.2,(⟨(IntKind.wrap .i64 (167772162+c11.1)),167772161,9,6,0,(aA c13.1)⟩:Pack),()))) λ(_,u16a1,u16a2,u16a3,u16a4,_)=>
  .cal jr.c (u16a4,()) λc17=>
  .cal kn.c (u16a3,c17,()) λc18=>
  .cal fC.c ((⟨u16a1,u16a2,2048,c18.1⟩:Fram),()) λc19=>
  .ret (c19,c18.2)
noncomputable def yg:=cP st yi yT [] [.wr false [.ptr 0]] [.box [.st .curs]] (λx y=>(y.1.1,())) xN (λv=>[(false,[.c (.str v.1)])]) (λx y v=>((v.2,()),())) Tryz.func97 (by kernel_rfl) trivial
noncomputable def si:=[a7,aH,je]
def fj:Sh:=⟨[zp 0 0,zi 3,zi 4],[.box [.st .curs [.sl .any]]]⟩
noncomputable def qH:Fx:=⟨116,Tryz.f116,[(0,la ⟨[0,3,4],[],false,1⟩ ⟨[2,3],[],false,1⟩)],1⟩
noncomputable def tg (v1:Int)(a:Int×Curs):Tr (Stp (Int×Curs) (Empty)):=
 .cal eO.c (a.2,()) λc3=>
 .ret (.next ((IntKind.wrap .i64 ((IntKind.wrap .i64 (256*a.1))+c3.1)),c3.2))
noncomputable def de:fj.V→tV fj (Int×Curs):=λ(v0,v1,v2,_)=>⟨v1,(v0,v2),λv1 a=>(a.1,v1,a.2,()),λv1 _=>(decide (v1<4)),tg,up,1,(Int.toNat (4-v1)),Empty.elim,Prod.mk,oN (.exit 0) ⟨[zu 2,zi 3],[.box [.st .curs [.sl .any]]]⟩ (λx=>(x.2.1,x.2.2,()))⟩
theorem tN:LS Tryz.prog qH [0] (sZ 0 fj de):=lQ st (cf si) _ de [] trivial
theorem tQ {v0 v1:Int}{v2:Curs}(h0:0≤v1)(h1:ac v2):(de (v0,v1,v2,())).U 4 (λv1 a=>ac a.2) (λ_=>True):=
 pd (a:=(v0,v2)) h0 (by decide) h1
noncomputable def kb:FT (Curs×Unit) (Int×Curs) (λx=>ac x.1) (λx v=>ac v.2):=⟨λ(y0,_)=>
  .cal aM.c (y0,3,()) λc1=>
  .ite c1.1 (.cal aE.c (c1.2,[0,1,4294967295,2147483647,2147483648,4294967294],()) λc2=>
   .ret (c2.1,c2.2))<|
  .lp (de (0,0,c1.2,())).lp λ(_,a4_0,a4_1)=>
  .ret (a4_0,a4_1),
 λ(y0,_) hp=>by
  refine Tr.C ?_ λ_ _ _=>Tr.I (λ_=>Tr.C ?_ λ_ _ _=>Tr.R ?_) λ_=>Tr.L (tQ ?_ ?_) (λ(a4_0,a4_1) _=>Tr.R ?_) (λp=>Empty.elim p)
  all_goals ((try simp only[de,LC.lp,LC.ct,Ct.lp]at*)<;>grind)⟩
noncomputable def mC:=cP st qH si [(sZ 0 fj de)] [.wr false [.ptr 0]] [.box [.st .curs]] (λx y=>(y.1.1,())) kb (λv=>[(false,[.c (.int .i64 v.1)])]) (λx y v=>((v.2,()),())) Tryz.func116 (by kernel_rfl) ⟨tN,trivial⟩
noncomputable def tu:=[iE,a7,aH,aC,mC]
def oq:An:=⟨⟨[],[],false,1⟩,⟨[0,2,3],[],false,1⟩,⟨[],[]⟩,[(.normal,⟨[zp 0 0,zp 2 1,zp 3 2],[.box [.st .curs [.sl .any]],zx .opti,zx .opti]⟩)]⟩
def mW:An:=⟨⟨[],[],false,1⟩,⟨[0,2,3],[],false,1⟩,⟨[],[]⟩,[(.normal,⟨[zp 0 0,zp 2 1,zp 3 2],[.box [.st .curs [.sl .any]],zx .opti,zx .opti]⟩)]⟩
noncomputable def tl:Fx:=⟨117,Tryz.f117,[(1000007,oq),(1000013,mW)],1⟩
noncomputable def o9:FT (Curs×Unit) (Opti×Curs) (λx=>ac x.1) (λx v=>ac v.2):= .mk λ(y0,_)=>
  .val (ia.f (())) λc1=>
  .cal aM.c (y0,3,()) λc2=>
  .bnd (β:=Curs×Opti×Opti×Unit) (.as (λw=>ac w.1) (.ite (!c2.1) (.cal aE.c (c2.2,[536,1460,1300,64,65535,1],()) λc3=>
    .ret (c3.2,(⟨0,0,false,false,0,0⟩:Opti),({c1 with mss:=c3.1}:Opti),()))<|
   .ret (c2.2,(⟨0,0,false,false,0,0⟩:Opti),c1,()))) λ(u4a0,u4a1,u4a2,_)=>
  .cal aM.c (u4a0,2,()) λc5=>
  .bnd (β:=Curs×Opti×Opti×Unit) (.as (λw=>ac w.1) (.ite c5.1 (.cal af.c (c5.2,15,()) λc6=>
    .ret (c6.2,u4a1,({u4a2 with scale:=c6.1}:Opti),()))<|
   .ret (c5.2,u4a1,u4a2,()))) λ(u7a0,_,u7a2,_)=>
  .cal aM.c (u7a0,2,()) λc8=>
  .cal aM.c (c8.2,2,()) λc9=>
  .ite c9.1 (.cal kb.c (c9.2,()) λc10=>
   .cal kb.c (c10.2,()) λc11=>
   .ret ((⟨u7a2.mss,u7a2.scale,c8.1,true,c10.1,c11.1⟩:Opti),c11.2))<|
  .ret (({u7a2 with sack:=c8.1}:Opti),c9.2)
noncomputable def th:=cP st tl tu [] [.wr false [.ptr 0]] [.box [.st .curs]] (λx y=>(y.1.1,())) o9 (λv=>[(true,yJ v.1)]) (λx y v=>((v.2,()),())) Tryz.func117 (by kernel_rfl) trivial
noncomputable def wo:FT (Curs×Unit) (Segm×Curs) (λx=>ac x.1) (λx v=>bu v.1∧ac v.2):= .mk λ(y0,_)=>
  .cal aE.c (y0,[40000,40001,40002],()) λc1=>
  .cal kb.c (c1.2,()) λc2=>
  .cal aE.c (c2.2,[0,64,65535],()) λc3=>
  .cal o9.c (c3.2,()) λc4=>
  .ret ((⟨c1.1,80,c2.1,0,2,c3.1,c4.1,[]⟩:Segm),c4.2)
noncomputable def ya:=cP st ⟨98,Tryz.f98,[],1⟩ [aH,mC,th] [] [.wr false [.ptr 0]] [.box [.st .curs]] (λx y=>(y.1.1,())) wo (λv=>[(true,vK v.1)]) (λx y v=>((v.2,()),())) Tryz.func98 (by kernel_rfl) trivial
noncomputable def uJ:FT (Curs×Unit) (Int×Curs) (λx=>ac x.1) (λx v=>ac v.2):= .mk λ(y0,_)=>
  .cal aM.c (y0,12,()) λc1=>
  .ite c1.1 (.cal lj.c (c1.2,()) λc2=>
   .ret (c2.1,c2.2))<|
  .cal kb.c (c1.2,()) λc3=>
  .ret (c3.1,c3.2)
noncomputable def xv:=cP st ⟨148,Tryz.f148,[],1⟩ [a7,kg,mC] [] [.wr false [.ptr 0]] [.box [.st .curs]] (λx y=>(y.1.1,())) uJ (λv=>[(false,[.c (.int .i64 v.1)])]) (λx y v=>((v.2,()),())) Tryz.func148 (by kernel_rfl) trivial
noncomputable def gK:FT (Curs×Int×Unit) (Int×Curs) (λx=>ac x.1) (λx v=>ac v.2):= .mk λ(y0,x1,_)=>
  .cal af.c (y0,4,()) λc1=>
  .ite (c1.1==0) (.cal uJ.c (c1.2,()) λc2=>
   .ret (c2.1,c2.2))<|
  .ite (c1.1==1) (.cal aE.c (c1.2,[2147483647,2147483648,(-1),1,0],()) λc3=>
   .val (eU.f (x1,c3.1,())) λc4=>
   .ret (c4,c3.2))<|
  .cal af.c (c1.2,41,()) λc5=>
  .val (eU.f (x1,(IntKind.wrap .i64 (c5.1-20)),())) λc6=>
  .ret (c6,c5.2)
noncomputable def ra:=cP st ⟨123,Tryz.f123,[],1⟩ [aC,xv,aH,gO] [] [.wr false [.ptr 0],.sc (.int .i64)] [.box [.st .curs]] (λx y=>(y.1.1,x.2.1,())) gK (λv=>[(false,[.c (.int .i64 v.1)])]) (λx y v=>((v.2,()),())) Tryz.func123 (by kernel_rfl) trivial
noncomputable def yf:=[gO,aH,iE,aC,dw,a7,ra,gp]
def r9:An:=⟨⟨[],[],false,1⟩,⟨[0,6,7],[],false,1⟩,⟨[],[]⟩,[(.normal,⟨[zp 0 0,zp 6 1,zp 7 2],[.box [.st .curs [.sl .any]],zx .segm,zx .segm]⟩)]⟩
noncomputable def y7:Fx:=⟨100,Tryz.f100,[(1000035,r9)],1⟩
noncomputable def nH:FT (Curs×Segm×Segm×Unit) (Segm×Curs) (λx=>ac x.1∧bu x.2.1∧bu x.2.2.1) (λx v=>bu v.1∧ac v.2):= .mk λ(y0,x1,x2,_)=>
  .val (eU.f (x1.seq,1,())) λc1=>
  .val (eU.f (x2.seq,1,())) λc2=>
  .cal aE.c (y0,[0,9,65535],()) λc3=>
  .val (ia.f (())) λc4=>
  .cal af.c (c3.2,3,()) λc5=>
  .cal df.c (c5.2,c5.1,()) λc6=>
  .ite x2.opts.stamp (.cal aM.c (c6.2,6,()) λc7=>
   .bnd (β:=Curs×Segm×Segm×Unit) (.as (λw=>ac w.1∧bu w.2.1∧bu w.2.2.1) (.ite (!c7.1) (.val (eU.f (x1.opts.val,1,())) λc8=>
     .ret (c7.2,(⟨0,0,0,0,0,0,⟨0,0,false,false,0,0⟩,[]⟩:Segm),(⟨x1.from_,x1.to,c1,c2,16,c3.1,⟨c4.mss,c4.scale,c4.sack,true,c8,x2.opts.val⟩,(aA c6.1)⟩:Segm),()))<|
    .ret (c7.2,(⟨0,0,0,0,0,0,⟨0,0,false,false,0,0⟩,[]⟩:Segm),(⟨x1.from_,x1.to,c1,c2,16,c3.1,c4,(aA c6.1)⟩:Segm),()))) λ(u9a0,_,u9a2,_)=>
   .cal af.c (u9a0,12,()) λc10=>
   .ite (c10.1==0) (.cal gK.c (c10.2,u9a2.ack,()) λc11=>
    .val (bH.f (c11.1,())) λc12=>
    .ret (({u9a2 with ack:=c12}:Segm),c11.2))<|
   .ite (c10.1==1) (.cal gK.c (c10.2,u9a2.seq,()) λc13=>
    .val (bH.f (c13.1,())) λc14=>
    .ret (({u9a2 with seq:=c14}:Segm),c13.2))<|
   .ret (u9a2,c10.2))<|
  .cal af.c (c6.2,12,()) λc15=>
  .ite (c15.1==0) (.cal gK.c (c15.2,c2,()) λc16=>
   .val (bH.f (c16.1,())) λc17=>
   .ret ((⟨x1.from_,x1.to,c1,c17,16,c3.1,c4,(aA c6.1)⟩:Segm),c16.2))<|
  .ite (c15.1==1) (.cal gK.c (c15.2,c1,()) λc18=>
   .val (bH.f (c18.1,())) λc19=>
   .ret ((⟨x1.from_,x1.to,c19,c2,16,c3.1,c4,(aA c6.1)⟩:Segm),c18.2))<|
  .ret ((⟨x1.from_,x1.to,c1,c2,16,c3.1,c4,(aA c6.1)⟩:Segm),c15.2)
noncomputable def yQ:=cP st y7 yf [] [.wr false [.ptr 0],.st .segm,.st .segm] [.box [.st .curs]] (λx y=>(y.1.1,x.2.1,x.2.2.1,())) nH (λv=>[(true,vK v.1)]) (λx y v=>((v.2,()),())) Tryz.func100 (by kernel_rfl) trivial
noncomputable def mb:=[aC,gp,a7,dw,gO]
def dN:Sh:=⟨[zp 0 0,zp 3 1,zi 7,zi 8,zo 9 2,zi 10],[.box [.st .curs [.sl .any]],zg .recv,za .u8]⟩
def nR:An:=⟨⟨[],[],false,1⟩,⟨[0,3,4,5,6,7,9],[],false,1⟩,⟨[],[]⟩,[(.normal,⟨[zp 0 0,zp 3 1,zu 4,zu 5,zu 6,zi 7,zo 9 2],[.box [.st .curs [.sl .any]],zg .recv,za .u8]⟩)]⟩
noncomputable def lI:Fx:=⟨124,Tryz.f124,[(0,la ⟨[0,3,7,8,9,10],[],false,1⟩ ⟨[0,3,4,5,6,7,8,9],[],false,1⟩),(1000036,nR)],1⟩
noncomputable def oQ (v0:Int)(v4:Recv)(v2:Int)(a:List Int):Tr (Stp (List Int) (Empty)):=
 .val (bH.f ((IntKind.wrap .i64 ((IntKind.wrap .i64 (v4.next+v0))+v2)),())) λc3=>
 .grd (vc a 1 1)<|
 .ret (.next (a++[(IntKind.wrap .u8 (IntKind.wrap .i64 (97+(c3.tmod 26))))]))
noncomputable def b9:dN.V→tV dN (List Int):=λ(v0,v1,v2,v3,v4,v5,_)=>⟨v2,v5,λv2 a=>(v0,v1,v2,v3,v4,a,()),λv2 _=>(decide (v2<v1)),oQ v0 v4,up,1,(Int.toNat (v1-v2)),Empty.elim,Prod.mk,oN (.exit 0) ⟨[zp 0 0,zp 3 1,zu 4,zu 5,zu 6,zi 7,zi 8,zo 9 2],[.box [.st .curs [.sl .any]],zg .recv,za .u8]⟩ (λx=>(v0,v1,v3,v4,x.2,()))⟩
theorem oZ:LS Tryz.prog lI [0] (sZ 0 dN b9):=lQ st (cf mb) _ b9 [] trivial
theorem oL {v0 v1 v2:Int}{v3:Curs}{v4:Recv}{v5:List Int}(h0:0≤v2)(h1:v1≤4611686018427387904)(h2:jg v4)(h3:v1≤4294967296)(h4:(v5.length:Int)=v2):(b9 (v0,v1,v2,v3,v4,v5,())).U v1 (λv2 a=>(a.length:Int)=v2) (λ_=>True):=
 pd (a:=v5) h0 h1 h4
noncomputable def pz:FT (Curs×Recv×Unit) (Int×aa×Bool×Curs) (λx=>ac x.1∧jg x.2.1) (λx v=>sS v.2.1∧ac v.2.2.2):=⟨λ(y0,x1,_)=>
  .cal af.c (y0,40,()) λc1=>
  .cal af.c (c1.2,9,()) λc2=>
  .lp (b9 ((IntKind.wrap .i64 (c1.1-6)),c2.1,0,c2.2,x1,[],())).lp λ(_,a4_0)=>
  .cal aM.c (c2.2,6,()) λc5=>
  .bnd (β:=Int×Curs×Recv×List Int×Unit) (.ite c5.1 (.cal df.c (c5.2,c2.1,()) λc6=>
    .ret ((IntKind.wrap .i64 (c1.1-6)),c6.2,x1,c6.1,()))<|
   .ret ((IntKind.wrap .i64 (c1.1-6)),c5.2,x1,a4_0,())) λ(u7a0,u7a1,u7a2,u7a3,_)=>
  .val (eU.f (u7a2.next,u7a0,())) λc8=>
  .cal aM.c (u7a1,6,()) λc9=>
  .ret (c8,(aA u7a3),c9.1,c9.2),
 λ(y0,x1,_) hp=>by
  refine Tr.C ?_ λ_ _ _=>Tr.C ?_ λ_ _ _=>Tr.L (oL ?_ ?_ ?_ ?_ ?_) (λa4_0 _=>Tr.C ?_ λ_ _ _=>Tr.B (Q':=λw=>ac w.2.1∧jg w.2.2.1∧sS w.2.2.2.1) (Tr.I (λ_=>Tr.C ?_ λ_ _ _=>Tr.R ?_) λ_=>Tr.R ?_) (λ(u7a0,u7a1,u7a2,u7a3,_) _ _=>Tr.V λ_ _=>Tr.C ?_ λ_ _ _=>Tr.R ?_)) (λp=>Empty.elim p)
  all_goals ((try simp only[b9,LC.lp,LC.ct,Ct.lp,Tr.nice,d7]at*)<;>grind)⟩
noncomputable def tt:=cP st lI mb [(sZ 0 dN b9)] [.wr false [.ptr 0],.st .recv] [.box [.st .curs]] (λx y=>(y.1.1,x.2.1,())) pz (λv=>[(false,[.c (.int .i64 v.1)]),(false,[.c (.str v.2.1)]),(false,[.c (.bool v.2.2.1)])]) (λx y v=>((v.2.2.2,()),())) Tryz.func124 (by kernel_rfl) ⟨oZ,trivial⟩
noncomputable def uK:FT (Curs×Unit) (Int×Curs) (λx=>ac x.1) (λx v=>ac v.2):=⟨λ(y0,_)=>
  .cal af.c (y0,64,()) λc1=>
  .cal aE.c (c1.2,[2,16,16,18,24,17,4,20,0,c1.1],()) λc2=>
  .ret (c2.1,c2.2),
 λ(y0,_) hp=>by
  refine Tr.C ?_ λ_ _ _=>Tr.C ?_ λ_ _ _=>Tr.R ?_
  all_goals (first|grind|(simp only[sS,List.length_cons,List.length_nil];grind))⟩
noncomputable def wD:=cP st ⟨126,Tryz.f126,[],1⟩ [aC,aH] [] [.wr false [.ptr 0]] [.box [.st .curs]] (λx y=>(y.1.1,())) uK (λv=>[(false,[.c (.int .i64 v.1)])]) (λx y v=>((v.2,()),())) Tryz.func126 (by kernel_rfl) trivial
noncomputable def rH:=[tt,a7,vd,aC,gO,aH,iE,wD,ra,gp]
def mR:An:=⟨⟨[],[],false,1⟩,⟨[0,3,4,5,6,7],[],false,1⟩,⟨[],[]⟩,[(.normal,⟨[zp 0 0,zp 3 1,zp 4 2,zi 5,zs 6,zb 7],[.box [.st .curs [.sl .any]],zg .conn,zx .segm]⟩)]⟩
def mg:An:=⟨⟨[],[],false,1⟩,⟨[0,3,4,8],[],false,1⟩,⟨[],[]⟩,[(.normal,⟨[zp 0 0,zp 3 1,zp 4 2,zp 8 3],[.box [.st .curs [.sl .any]],zg .conn,zx .segm,zx .segm]⟩)]⟩
def ml:An:=⟨⟨[],[],false,1⟩,⟨[4,8],[],false,1⟩,⟨[],[]⟩,[(.normal,⟨[zp 4 1,zp 8 2],[.box [.st .curs [.sl .any]],zx .segm,zx .segm]⟩)]⟩
noncomputable def sY:Fx:=⟨102,Tryz.f102,[(1000018,mR),(1000045,mg),(1000052,ml)],1⟩
noncomputable def nt:FT (Curs×Conn×Unit) (Segm×Curs) (λx=>ac x.1∧fk x.2.1) (λx v=>bu v.1∧ac v.2):= .mk λ(y0,x1,_)=>
  .cal pz.c (y0,x1.r,()) λc1=>
  .cal aM.c (c1.2.2.2,2,()) λc2=>
  .bnd (β:=Int×aa×Bool×Curs×Conn×Segm×Unit) (.as (λw=>sS w.2.1∧ac w.2.2.2.1∧fk w.2.2.2.2.1∧bu w.2.2.2.2.2.1) (.ite c2.1 (.ret (x1.r.next,c1.2.1,c1.2.2.1,c2.2,x1,(⟨0,0,0,0,0,0,⟨0,0,false,false,0,0⟩,[]⟩:Segm),()))<|
   .ret (c1.1,c1.2.1,c1.2.2.1,c2.2,x1,(⟨0,0,0,0,0,0,⟨0,0,false,false,0,0⟩,[]⟩:Segm),()))) λ(u3a0,u3a1,u3a2,u3a3,u3a4,u3a5,_)=>
  .cal sR.c (u3a4.s,()) λc4=>
  .cal af.c (u3a3,(IntKind.wrap .i64 (c4+1)),()) λc5=>
  .val (eU.f (u3a4.s.una,c5.1,())) λc6=>
  .cal aE.c (c5.2,[0,1,8,64,65535],()) λc7=>
  .val (ia.f (())) λc8=>
  .bnd (β:=Curs×Conn×Segm×Segm×Unit) (.as (λw=>ac w.1∧fk w.2.1∧bu w.2.2.1∧bu w.2.2.2.1) (.ite u3a2 (.ret (c7.2,u3a4,u3a5,(⟨u3a4.tuple.port,u3a4.tuple.my,u3a0,c6,17,c7.1,c8,u3a1⟩:Segm),()))<|
   .ret (c7.2,u3a4,u3a5,(⟨u3a4.tuple.port,u3a4.tuple.my,u3a0,c6,16,c7.1,c8,u3a1⟩:Segm),()))) λ(u9a0,u9a1,u9a2,u9a3,_)=>
  .cal af.c (u9a0,10,()) λc10=>
  .bnd (β:=Curs×Segm×Segm×Unit) (.as (λw=>ac w.1∧bu w.2.1∧bu w.2.2.1) (.ite (c10.1==0) (.cal uK.c (c10.2,()) λc11=>
    .ret (c11.2,u9a2,({u9a3 with flags:=c11.1}:Segm),()))<|
   .ite (c10.1==1) (.cal gK.c (c10.2,u9a1.s.una,()) λc12=>
    .ret (c12.2,u9a2,({u9a3 with ack:=c12.1}:Segm),()))<|
   .ite (c10.1==2) (.cal gK.c (c10.2,u9a1.r.next,()) λc13=>
    .ret (c13.2,u9a2,({u9a3 with seq:=c13.1}:Segm),()))<|
   .ite (c10.1==3) (.ret (c10.2,u9a2,({u9a3 with body:=[]}:Segm),()))<|
   .ret (c10.2,u9a2,u9a3,()))) λ(u14a0,_,u14a2,_)=>
  .val (bH.f (u14a2.seq,())) λc15=>
  .val (bH.f (u14a2.ack,())) λc16=>
  .ret (({u14a2 with seq:=c15,ack:=c16}:Segm),u14a0)
noncomputable def qX:=cP st sY rH [] [.wr false [.ptr 0],.st .conn] [.box [.st .curs]] (λx y=>(y.1.1,x.2.1,())) nt (λv=>[(true,vK v.1)]) (λx y v=>((v.2,()),())) Tryz.func102 (by kernel_rfl) trivial
noncomputable def yN:=[a7,yg,aC,ya,yY,yQ,wG,qX,pN,gj,ld,l6,lN]
def rE:An:=⟨⟨[],[],false,1⟩,⟨[0,4,6,7],[],false,1⟩,⟨[],[]⟩,[(.normal,⟨[zp 0 0,zs 4,zi 6,zp 7 1],[.box [.st .curs [.sl .any]],zx .segm]⟩)]⟩
def p8:An:=⟨⟨[],[],false,1⟩,⟨[0,4,6,11],[],false,1⟩,⟨[],[]⟩,[(.normal,⟨[zp 0 0,zs 4,zi 6,zs 11],[.box [.st .curs [.sl .any]]]⟩)]⟩
noncomputable def yA:Fx:=⟨83,Tryz.f83,[(1000026,rE),(1000111,p8)],1⟩
noncomputable def rQ:FT (Curs×Stac×Unit) (aa×Curs) (λx=>ac x.1∧ib x.2.1) (λx v=>sS v.1∧ac v.2):= .mk λ(y0,x1,_)=>
  .cal aM.c (y0,5,()) λc1=>
  .ite c1.1 (.cal xN.c (c1.2,()) λc2=>
   .ret (c2.1,c2.2))<|
  .cal af.c (c1.2,2,()) λc3=>
  .cal wo.c (c3.2,()) λc4=>
  .cal af.c (c4.2,4,()) λc5=>
  .bnd (β:=aa×Int×Curs×Segm×Unit) (.as (λw=>sS w.1∧ac w.2.2.1∧bu w.2.2.2.1) (.ite (c5.1==0) (.ite (decide (0<(x1.door.halves.length:Int))) (.cal af.c (c5.2,(x1.door.halves.length:Int),()) λc6=>
     .grd (fN x1.door.halves c6.1)<|
     .cal nK.c (x1.door,(x1.door.halves.getD c6.1.toNat (Ty.zero .half)).tuple,({c4.1 with from_:=(x1.door.halves.getD c6.1.toNat (Ty.zero .half)).tuple.port,seq:=(x1.door.halves.getD c6.1.toNat (Ty.zero .half)).irs}:Segm),()) λc7=>
     .cal nH.c (c6.2,({c4.1 with from_:=(x1.door.halves.getD c6.1.toNat (Ty.zero .half)).tuple.port,seq:=(x1.door.halves.getD c6.1.toNat (Ty.zero .half)).irs}:Segm),({c7 with seq:=(x1.door.halves.getD c6.1.toNat (Ty.zero .half)).iss}:Segm),()) λc8=>
     .ret ([],(x1.door.halves.getD c6.1.toNat (Ty.zero .half)).tuple.ip,c8.2,c8.1,()))<|
    .val (oD.f ((IntKind.wrap .i64 (167772162+c3.1)),c4.1,())) λc9=>
    .cal nK.c (x1.door,c9,c4.1,()) λc10=>
    .cal nH.c (c5.2,c4.1,c10,()) λc11=>
    .ret ([],(IntKind.wrap .i64 (167772162+c3.1)),c11.2,c11.1,()))<|
   .ite (c5.1==1) (.ite (decide (0<(x1.door.table.conns.length:Int))) (.cal af.c (c5.2,(x1.door.table.conns.length:Int),()) λc12=>
     .grd (fN x1.door.table.conns c12.1)<|
     .cal nt.c (c12.2,(x1.door.table.conns.getD c12.1.toNat (Ty.zero .conn)),()) λc13=>
     .ret ([],(x1.door.table.conns.getD c12.1.toNat (Ty.zero .conn)).tuple.ip,c13.2,c13.1,()))<|
    .ret ([],(IntKind.wrap .i64 (167772162+c3.1)),c5.2,c4.1,()))<|
   .ite (c5.1==2) (.val (oD.f ((IntKind.wrap .i64 (167772162+c3.1)),c4.1,())) λc14=>
    .cal nK.c (x1.door,c14,c4.1,()) λc15=>
    .cal nH.c (c5.2,c4.1,c15,()) λc16=>
    .ret ([],(IntKind.wrap .i64 (167772162+c3.1)),c16.2,c16.1,()))<|
   .ret ([],(IntKind.wrap .i64 (167772162+c3.1)),c5.2,c4.1,()))) λ(u17a0,u17a1,u17a2,u17a3,_)=>
  .cal mc.c (u17a3,u17a1,167772161,()) λc18=>
  .cal aM.c (u17a2,10,()) λc19=>
  .bnd (β:=aa×Int×aa×Curs×Unit) (.as (λw=>sS w.1∧sS w.2.2.1∧ac w.2.2.2.1) (.ite c19.1 (.cal ff.c (c19.2,c18,[[0],[120]],()) λc20=>
    .ret (u17a0,u17a1,c20.1,c20.2,()))<|
   .ret (u17a0,u17a1,c18,c19.2,()))) λ(_,u21a1,u21a2,u21a3,_)=>
  .cal jr.c ((⟨u21a1,167772161,9,6,0,u21a2⟩:Pack),()) λc22=>
  .cal kn.c (u21a3,c22,()) λc23=>
  .cal fC.c ((⟨11,12,2048,c23.1⟩:Fram),()) λc24=>
  .ret (c24,c23.2)
noncomputable def y4:=cP st yA yN [] [.wr false [.ptr 0],.st .stac] [.box [.st .curs]] (λx y=>(y.1.1,x.2.1,())) rQ (λv=>[(false,[.c (.str v.1)])]) (λx y v=>((v.2,()),())) Tryz.func83 (by kernel_rfl) trivial
noncomputable def yD:=[ja,a7,aC,mz,jh,dw,y4]
def qt:An:=⟨⟨[],[],false,1⟩,⟨[0,3,4,5],[],false,1⟩,⟨[],[]⟩,[(.normal,⟨[zp 0 0,zp 3 1,zp 4 2,zp 5 3],[.box [.st .curs [.sl .any]],.box [.st .stac [.sl .arg,.sl .arg,.sl .arg,.sl .arg,.sl .arg,.sl .arg]],.box [.st .acti [.nil .macRow]],zx .tupl]⟩)]⟩
noncomputable def y9:Fx:=⟨57,Tryz.f57,[(1000018,qt)],1⟩
noncomputable def xu:FT (Curs×Stac×Unit) (Acti×Curs) (λx=>ac x.1∧ib x.2.1) (λx v=>ai v.1∧ac v.2∧jK v.1):= .mk λ(y0,x1,_)=>
  .cal jP.c (y0,()) λc1=>
  .ite (decide (0<(x1.door.table.conns.length:Int))) (.cal aM.c (c1.2,6,()) λc2=>
   .bnd (β:=Curs×Stac×Acti×Tupl×Unit) (.as (λw=>ac w.1∧ib w.2.1∧ai w.2.2.1) (.ite (!c2.1) (.cal af.c (c2.2,(x1.door.table.conns.length:Int),()) λc3=>
     .grd (fN x1.door.table.conns c3.1)<|
     .ret (c3.2,x1,(⟨0,⟨0,0,0⟩,0,[],⟨false,0,0,[]⟩⟩:Acti),(x1.door.table.conns.getD c3.1.toNat (Ty.zero .conn)).tuple,()))<|
    .ret (c2.2,x1,(⟨0,⟨0,0,0⟩,0,[],⟨false,0,0,[]⟩⟩:Acti),c1.1,()))) λ(u4a0,u4a1,_,u4a3,_)=>
   .cal af.c (u4a0,12,()) λc5=>
   .ite (c5.1==0) (.ret ((⟨2,⟨0,0,0⟩,0,[],⟨false,0,0,[]⟩⟩:Acti),c5.2))<|
   .ite (c5.1==1) (.cal aM.c (c5.2,2,()) λc6=>
    .ite c6.1 (.cal eD.c (c6.2,()) λc7=>
     .cal eD.c (c7.2,()) λc8=>
     .cal i6.c (c7.1,c8.1,()) λc9=>
     .ret ((⟨3,⟨0,0,0⟩,0,[],c9⟩:Acti),c8.2))<|
    .ret ((⟨4,⟨0,0,0⟩,0,[],⟨false,0,0,[]⟩⟩:Acti),c6.2))<|
   .ite (c5.1==2) (.ret ((⟨4,⟨0,0,0⟩,0,[],⟨false,0,0,[]⟩⟩:Acti),c5.2))<|
   .ite (c5.1==3) (.cal af.c (c5.2,20,()) λc10=>
    .cal df.c (c10.2,c10.1,()) λc11=>
    .ret ((⟨5,u4a3,0,(aA c11.1),⟨false,0,0,[]⟩⟩:Acti),c11.2))<|
   .ite (c5.1==4) (.cal af.c (c5.2,20,()) λc12=>
    .ret ((⟨6,u4a3,c12.1,[],⟨false,0,0,[]⟩⟩:Acti),c12.2))<|
   .ite (c5.1==5) (.cal aM.c (c5.2,2,()) λc13=>
    .ite c13.1 (.ret ((⟨8,u4a3,0,[],⟨false,0,0,[]⟩⟩:Acti),c13.2))<|
    .ret ((⟨7,u4a3,0,[],⟨false,0,0,[]⟩⟩:Acti),c13.2))<|
   .cal rQ.c (c5.2,u4a1,()) λc14=>
   .ret ((⟨1,⟨0,0,0⟩,0,c14.1,⟨false,0,0,[]⟩⟩:Acti),c14.2))<|
  .cal af.c (c1.2,12,()) λc15=>
  .ite (c15.1==0) (.ret ((⟨2,⟨0,0,0⟩,0,[],⟨false,0,0,[]⟩⟩:Acti),c15.2))<|
  .ite (c15.1==1) (.cal aM.c (c15.2,2,()) λc16=>
   .ite c16.1 (.cal eD.c (c16.2,()) λc17=>
    .cal eD.c (c17.2,()) λc18=>
    .cal i6.c (c17.1,c18.1,()) λc19=>
    .ret ((⟨3,⟨0,0,0⟩,0,[],c19⟩:Acti),c18.2))<|
   .ret ((⟨4,⟨0,0,0⟩,0,[],⟨false,0,0,[]⟩⟩:Acti),c16.2))<|
  .ite (c15.1==2) (.ret ((⟨4,⟨0,0,0⟩,0,[],⟨false,0,0,[]⟩⟩:Acti),c15.2))<|
  .ite (c15.1==3) (.cal af.c (c15.2,20,()) λc20=>
   .cal df.c (c20.2,c20.1,()) λc21=>
   .ret ((⟨5,c1.1,0,(aA c21.1),⟨false,0,0,[]⟩⟩:Acti),c21.2))<|
  .ite (c15.1==4) (.cal af.c (c15.2,20,()) λc22=>
   .ret ((⟨6,c1.1,c22.1,[],⟨false,0,0,[]⟩⟩:Acti),c22.2))<|
  .ite (c15.1==5) (.cal aM.c (c15.2,2,()) λc23=>
   .ite c23.1 (.ret ((⟨8,c1.1,0,[],⟨false,0,0,[]⟩⟩:Acti),c23.2))<|
   .ret ((⟨7,c1.1,0,[],⟨false,0,0,[]⟩⟩:Acti),c23.2))<|
  .cal rQ.c (c15.2,x1,()) λc24=>
  .ret ((⟨1,⟨0,0,0⟩,0,c24.1,⟨false,0,0,[]⟩⟩:Acti),c24.2)
noncomputable def yw:=cP st y9 yD [] [.wr false [.ptr 0],.st .stac] [.box [.st .curs]] (λx y=>(y.1.1,x.2.1,())) xu (λv=>[(true,oo (.o true) v.1)]) (λx y v=>((v.2,()),())) Tryz.func57 (by kernel_rfl) trivial
noncomputable def pq:=[aC,rJ,aH,a7,kg]
def eG:Sh:=⟨[zp 0 0,zo 3 1,zi 4,zi 5],[.box [.st .curs [.sl .any]],za .macRow]⟩
noncomputable def pm:Fx:=⟨85,Tryz.f85,[(0,la ⟨[0,3,4,5],[],false,1⟩ ⟨[0,2,3,4],[],false,1⟩)],1⟩
noncomputable def qS (v1:Int)(a:Curs×List MacRow):Tr (Stp (Curs×List MacRow) (Empty)):=
 .cal ru.c (a.1,[[],[97],[98],[99,100],[97]],()) λc2=>
 .cal af.c (c2.2,16777216,()) λc3=>
 .cal aE.c (c3.2,[0,1,5,16777215,c3.1],()) λc4=>
 .grd (vc a.2 1 24)<|
 .ret (.next (c4.2,(a.2++[(⟨c2.1,c4.1⟩:MacRow)])))
noncomputable def cG:eG.V→tV eG (Curs×List MacRow):=λ(v0,v1,v2,v3,_)=>⟨v1,(v2,v3),λv1 a=>(v0,v1,a.1,a.2,()),λv1 _=>(decide (v1<v0)),qS,up,1,(Int.toNat (v0-v1)),Empty.elim,Prod.mk,oN (.exit 0) ⟨[zp 0 0,zu 2,zo 3 1,zi 4],[.box [.st .curs [.sl .any]],za .macRow]⟩ (λx=>(v0,x.2.1,x.2.2,()))⟩
theorem sm:LS Tryz.prog pm [0] (sZ 0 eG cG):=lQ st (cf pq) _ cG [] trivial
theorem rf {v0 v1:Int}{v2:Curs}{v3:List MacRow}(h0:0≤v1)(h1:v0≤4611686018427387904)(h2:v0≤4294967296)(h3:ac v2∧(v3.length:Int)=v1∧bf aQ v3):(cG (v0,v1,v2,v3,())).U v0 (λv1 a=>ac a.1∧(a.2.length:Int)=v1∧bf aQ a.2) (λ_=>True):=
 pd (a:=(v2,v3)) h0 h1 h3
noncomputable def oz:FT (Curs×Unit) (List MacRow×Curs) (λx=>ac x.1) (λx v=>sL aQ v.1∧ac v.2):=⟨λ(y0,_)=>
  .cal af.c (y0,5,()) λc1=>
  .lp (cG (c1.1,0,c1.2,[],())).lp λ(_,a5_0,a5_1)=>
  .ite (decide (0<c1.1)) (.cal aM.c (a5_0,6,()) λc6=>
   .ite c6.1 (.cal lj.c (c6.2,()) λc7=>
    .grd (decide (0<(a5_1.length:Int)))<|
    .ret ((a5_1.set 0 (⟨(a5_1.getD 0 (Ty.zero .macRow)).input,c7.1⟩:MacRow)),c7.2))<|
   .ret (a5_1,c6.2))<|
  .ret (a5_1,a5_0),
 λ(y0,_) hp=>by
  refine Tr.C ?_ λ_ _ _=>Tr.L (rf ?_ ?_ ?_ ?_) (λ(a5_0,a5_1) _=>Tr.I (λ_=>Tr.C ?_ λ_ _ _=>Tr.I (λ_=>Tr.C ?_ λ_ _ _=>Tr.G1 ?_ λ_=>Tr.R ?_) λ_=>Tr.R ?_) λ_=>Tr.R ?_) (λp=>Empty.elim p)
  all_goals ((try simp only[cG,LC.lp,LC.ct,Ct.lp]at*)<;>grind)⟩
noncomputable def xS:=cP st pm pq [(sZ 0 eG cG)] [.wr false [.ptr 0]] [.box [.st .curs]] (λx y=>(y.1.1,())) oz (λv=>[(false,[sc (.o true) .macRow v.1])]) (λx y v=>((v.2,()),())) Tryz.func85 (by kernel_rfl) ⟨sm,trivial⟩
noncomputable def wU:FT (Curs×Unit) (Mac×Curs) (λx=>ac x.1) (λx v=>dF v.1∧ac v.2∧jM v.1):= .mk λ(y0,_)=>
  .cal aM.c (y0,2,()) λc1=>
  .ite c1.1 (.cal oz.c (c1.2,()) λc2=>
   .cal sN.c (c2.1,()) λc3=>
   .ret (c3,c2.2))<|
  .cal eD.c (c1.2,()) λc4=>
  .cal eD.c (c4.2,()) λc5=>
  .cal i6.c (c4.1,c5.1,()) λc6=>
  .cal af.c (c5.2,10,()) λc7=>
  .ite (c7.1==0) (.ret (({c6 with use:=true}:Mac),c7.2))<|
  .ite (c7.1==1) (.cal oz.c (c7.2,()) λc8=>
   .ret (({c6 with rows:=c8.1}:Mac),c8.2))<|
  .ret (c6,c7.2)
noncomputable def yv:=cP st ⟨59,Tryz.f59,[],1⟩ [a7,xS,vP,mz,jh,aC] [] [.wr false [.ptr 0]] [.box [.st .curs]] (λx y=>(y.1.1,())) wU (λv=>[(true,AU (.o true) v.1)]) (λx y v=>((v.2,()),())) Tryz.func59 (by kernel_rfl) trivial
noncomputable def oE:FT (Curs×Stac×Unit) (Acti×Curs) (λx=>ac x.1∧ib x.2.1) (λx v=>ai v.1∧ac v.2∧jK v.1):= .mk λ(y0,x1,_)=>
  .cal xu.c (y0,x1,()) λc1=>
  .cal af.c (c1.2,14,()) λc2=>
  .ite (c2.1==0) (.cal af.c (c2.2,11,()) λc3=>
   .ret (({c1.1 with kind:=(IntKind.wrap .i64 (c3.1-1))}:Acti),c3.2))<|
  .ite (c2.1==1) (.cal aE.c (c2.2,[(-1),0,65535,65536],()) λc4=>
   .ret (({c1.1 with n:=c4.1}:Acti),c4.2))<|
  .ite (c2.1==2) (.cal oc.c (c2.2,()) λc5=>
   .ret (({c1.1 with tuple.ip:=c5.1.ip,tuple.port:=c5.1.port,tuple.my:=c5.1.my}:Acti),c5.2))<|
  .ite (c2.1==3) (.cal wU.c (c2.2,()) λc6=>
   .ret (({c1.1 with mac.use:=c6.1.use,mac.k:=c6.1.k,mac.l:=c6.1.l,mac.rows:=c6.1.rows}:Acti),c6.2))<|
  .ret (c1.1,c2.2)
noncomputable def o7:=cP st ⟨24,Tryz.f24,[],1⟩ [yw,aC,aH,o8,yv] [] [.wr false [.ptr 0],.st .stac] [.box [.st .curs]] (λx y=>(y.1.1,x.2.1,())) oE (λv=>[(true,oo (.o true) v.1)]) (λx y v=>((v.2,()),())) Tryz.func24 (by kernel_rfl) trivial
noncomputable def kY:=[aC,mJ,a7,o7]
def ez:Sh:=⟨[zp 0 0,zo 3 1,zi 4,zi 5],[.box [.st .curs [.sl .any]],za .acti]⟩
def eH:Sh:=⟨[zo 3 1,zi 6],[.box [.st .curs [.sl .any]],za .acti]⟩
def p4:An:=⟨⟨[],[],false,1⟩,⟨[0,2,3],[],false,1⟩,⟨[],[]⟩,[(.normal,⟨[zp 0 0,zu 2,zo 3 1],[.box [.st .curs [.sl .any]],za .acti]⟩)]⟩
noncomputable def kh:Fx:=⟨53,Tryz.f53,[(0,la ⟨[0,3,4,5],[],false,1⟩ ⟨[0,2,3],[],false,1⟩),(2,la ⟨[3,6],[],false,1⟩ ⟨[2,3],[],false,1⟩),(1000021,p4)],1⟩
noncomputable def qO (v1:Int)(a:Curs×List Acti):Tr (Stp (Curs×List Acti) (Empty)):=
 .cal nh.c (a.1,()) λc2=>
 .grd (vc a.2 1 104)<|
 .ret (.next (c2.2,(a.2++[c2.1])))
noncomputable def cC:ez.V→tV ez (Curs×List Acti):=λ(v0,v1,v2,v3,_)=>⟨v1,(v2,v3),λv1 a=>(v0,v1,a.1,a.2,()),λv1 _=>(decide (v1<v0)),qO,up,1,(Int.toNat (v0-v1)),Empty.elim,Prod.mk,oN (.exit 0) ⟨[zp 0 0,zu 2,zo 3 1],[.box [.st .curs [.sl .any]],za .acti]⟩ (λx=>(x.2.1,x.2.2,()))⟩
theorem qk:LS Tryz.prog kh [0] (sZ 0 ez cC):=lQ st (cf kY) _ cC [] trivial
theorem qL {v0 v1:Int}{v2:Curs}{v3:List Acti}(h0:0≤v1)(h1:v0≤4611686018427387904)(h2:v0≤4294967296)(h3:ac v2∧(v3.length:Int)=v1∧bf ai v3∧bf jK v3):(cC (v0,v1,v2,v3,())).U v0 (λv1 a=>ac a.1∧(a.2.length:Int)=v1∧bf ai a.2∧bf jK a.2) (λ_=>True):=
 pd (a:=(v2,v3)) h0 h1 h3
noncomputable def qB (v0:Int)(a:List Acti):Tr (Stp (List Acti) ((List Acti))):=
 .ite (decide ((a.length:Int)<v0)) (.grd (vc a 1 104)<|
  .ret (.next (a++[(⟨2,⟨0,0,0⟩,0,[],⟨false,0,0,[]⟩⟩:Acti)])))<|
 .ret (.out a)
noncomputable def cH:eH.V→LW eH (List Acti) ((List Acti)):=λ(v0,v1,v2,_)=>⟨v2,λa=>(v0,v1,a,()),qB v0,Int.toNat (v0-(v2.length:Int)),oN (.exit 2) ⟨[zu 2,zo 3 1],[.box [.st .curs [.sl .any]],za .acti]⟩ (λp=>(v1,p,()))⟩
theorem qy:LS Tryz.prog kh [1] (DX 2 eH cH):=CO st (cf kY) _ cH [] trivial
theorem rt {v0:Int}{v1:Curs}{v2:List Acti}(h0:v0≤4294967296)(h1:sL ai v2∧bf jK v2):(cH (v0,v1,v2,())).W (λp=>sL ai p∧bf jK p):=
 Ev (a:=v2) (λa=>sL ai a∧bf jK a) (λa=>Int.toNat (v0-(a.length:Int))) h1
noncomputable def oi:FT (Curs×Unit) (List Acti×Curs) (λx=>ac x.1) (λx v=>sL ai v.1∧ac v.2∧bf jK v.1):=⟨λ(y0,_)=>
  .cal af.c (y0,6,()) λc1=>
  .lp (cC (c1.1,0,c1.2,[],())).lp λ(_,a3_0,a3_1)=>
  .cal aM.c (a3_0,10,()) λc4=>
  .bnd (β:=Curs×List Acti×Unit) (.ite c4.1 (.cal oE.c (c4.2,(⟨⟨0,0,[]⟩,⟨0,0,⟨0,⟨false,0,0,[]⟩,⟨false,0,0,[]⟩,false⟩,⟨0,0,0,0⟩,[],⟨[],[]⟩,0⟩⟩:Stac),()) λc5=>
    .grd (vc a3_1 1 104)<|
    .ret (c5.2,(a3_1++[c5.1]),()))<|
   .ret (c4.2,a3_1,())) λ(u6a0,u6a1,_)=>
  .cal aM.c (u6a0,30,()) λc7=>
  .ite c7.1 (.cal af.c (c7.2,3,()) λc8=>
   .lp (cH ((IntKind.wrap .i64 (59+c8.1)),c8.2,u6a1,())).lp λp9a0=>
   .ret (p9a0,c8.2))<|
  .ret (u6a1,c7.2),
 λ(y0,_) hp=>by
  refine Tr.C ?_ λc1 hc1 qc1=>Tr.L (qL ?_ ?_ ?_ ?_) (λ(a3_0,a3_1) i3=>Tr.C ?_ λc4 hc4 qc4=>Tr.B (Q':=λw=>ac w.1∧sL ai w.2.1∧bf jK w.2.1) (Tr.I (λb0=>Tr.C ?_ λc5 hc5 qc5=>Tr.Gb ?_ λg1=>Tr.R ?_) λb0=>Tr.R ?_) (λ(u6a0,u6a1,_) hj6 qj6=>Tr.C ?_ λc7 hc7 qc7=>Tr.I (λb0=>Tr.C ?_ λc8 hc8 qc8=>Tr.L (rt ?_ ?_) (λa=>Empty.elim a) (λp9a0 hp9=>Tr.R ?_)) λb0=>Tr.R ?_)) (λp=>Empty.elim p)
  all_goals ((try simp only[cC,cH,LC.lp,LC.ct,Ct.lp,LW.lp,LW.cw,Cw.lp,Tr.nice,d7]at*)<;>grind)⟩
noncomputable def pf:=cP st kh kY [(sZ 0 ez cC),(DX 2 eH cH)] [.wr false [.ptr 0]] [.box [.st .curs]] (λx y=>(y.1.1,())) oi (λv=>[(false,[sc (.o true) .acti v.1])]) (λx y v=>((v.2,()),())) Tryz.func53 (by kernel_rfl) ⟨qk,qy,trivial⟩
noncomputable def dZ:FT (List Int×Unit) (Acti) (λx=>sS x.1∧x.1.length≤1048576) (λx v=>ai v∧jK v):= .mk λ(x0,_)=>
  .cal lw.c (x0,()) λc1=>
  .cal aM.c (c1,3,()) λc2=>
  .ite c2.1 (.cal oE.c (c2.2,(⟨⟨0,0,[]⟩,⟨0,0,⟨0,⟨false,0,0,[]⟩,⟨false,0,0,[]⟩,false⟩,⟨0,0,0,0⟩,[],⟨[],[]⟩,0⟩⟩:Stac),()) λc3=>
   .ret c3.1)<|
  .cal nh.c (c2.2,()) λc4=>
  .ret c4.1
noncomputable def pZ:=cr st Tryz.func6 [iU,a7,o7,mJ] (ks:=[.sc (.sl .u8)]) dZ (λv=>[(true,oo (.o true) v)])
noncomputable def bz:FT (List Int×Unit) (List Acti) (λx=>sS x.1∧x.1.length≤1048576) (λx v=>sL ai v∧bf jK v):= .mk λ(x0,_)=>
  .cal lw.c (x0,()) λc1=>
  .cal oi.c (c1,()) λc2=>
  .ret c2.1
noncomputable def mL:=cr st Tryz.func16 [iU,pf] (ks:=[.sc (.sl .u8)]) bz (λv=>[(false,[sc (.o true) .acti v])])
noncomputable def cA:FT (List Int×Unit) (aa) (λx=>sS x.1∧x.1.length≤1048576) (λx v=>sS v∧v.length≤16777216):=⟨λ(x0,_)=>
  .cal lw.c (x0,()) λc1=>
  .cal oi.c (c1,()) λc2=>
  .cal eE.c (c2.1,()) λc3=>
  .cal aM.c (c2.2,30,()) λc4=>
  .ite c4.1 (.grd (Nat.ble (c3.length+10) ah)<|
   .ret (c3++[10,116,105,99,107,10,116,105,99,107]))<|
  .cal ff.c (c4.2,c3,[[32],[10],[116,105,99,107],[48],[120]],()) λc5=>
  .ret c5.1,
 λ(x0,_) hp=>by
  refine Tr.C ?_ λc1 hc1 qc1=>Tr.C ?_ λc2 hc2 qc2=>Tr.C ?_ λc3 hc3 qc3=>Tr.C ?_ λc4 hc4 qc4=>Tr.I (λb0=>Tr.Gb ?_ λg1=>Tr.R ?_) λb0=>Tr.C ?_ λc5 hc5 qc5=>Tr.R ?_
  all_goals ((first|grind|(simp only[sS,bf,List.length_append,List.length_cons,List.length_nil]at*;grind)))⟩
noncomputable def mh:=cr st Tryz.func20 [iU,pf,kw,a7,gj] (ks:=[.sc (.sl .u8)]) cA (λv=>[(false,[.c (.str v)])])
noncomputable def eo:FX (List Int×Unit) (Bool) (λ_=>True) (jV [.sc (.sl .u8)]):=⟨λ(x0,_)=>
  .val (lS.f (x0,())) λc1=>
  .ite c1 (.ret true)<|
  .cal dZ.c (x0,()) λc2=>
  .cal aW.c (c2,()) λc3=>
  .cal br.c (c2,()) λc4=>
  .ite (!(c3==c4)) (.ret false)<|
  .cal aD.c (c3,()) λc5=>
  .cal dV.c (x0,()) λc6=>
  .cal aD.c (c6,()) λc7=>
  .cal en.c (c6,()) λc8=>
  .cal fQ.c (x0,()) λc9=>
  .cal aK.c (c9,()) λc10=>
  .cal aw.c (c10,()) λc11=>
  .ite (c5.2==(!(c3==[]))) (.ite (!c5.2) (.ite (c7.2==c8.2) (.ite (!c7.2) (.cal bO.c (c9,()) λc12=>
      .ite (c11.2==c12) (.ite (!c11.2) (.ret true)<|
       .ret ((c11.1.ip==c9.ip)&&((c11.1.port==c9.port)&&((c11.1.my==c9.my)&&true))))<|
      .ret false)<|
     .cal aW.c (c7.1,()) λc13=>
     .ite (c13==c6) (.cal bO.c (c9,()) λc14=>
      .ite (c11.2==c14) (.ite (!c11.2) (.ret true)<|
       .ret ((c11.1.ip==c9.ip)&&((c11.1.port==c9.port)&&((c11.1.my==c9.my)&&true))))<|
      .ret false)<|
     .ret false)<|
    .ret false)<|
   .cal aW.c (c5.1,()) λc15=>
   .ite (c15==c3) (.ite (c5.1.kind==c2.kind) (.ite (c7.2==c8.2) (.ite (!c7.2) (.cal bO.c (c9,()) λc16=>
       .ite (c11.2==c16) (.ite (!c11.2) (.ret true)<|
        .ret ((c11.1.ip==c9.ip)&&((c11.1.port==c9.port)&&((c11.1.my==c9.my)&&true))))<|
       .ret false)<|
      .cal aW.c (c7.1,()) λc17=>
      .ite (c17==c6) (.cal bO.c (c9,()) λc18=>
       .ite (c11.2==c18) (.ite (!c11.2) (.ret true)<|
        .ret ((c11.1.ip==c9.ip)&&((c11.1.port==c9.port)&&((c11.1.my==c9.my)&&true))))<|
       .ret false)<|
      .ret false)<|
     .ret false)<|
    .ret false)<|
   .ret false)<|
  .ret false,
 λ(x0,_) hp hf=>by
  simp only[jV,Pk.fact,uB,ne,Fl.fact,Ty.fl,Ty.toH]at hf
  refine Tr.V λ_ _=>Tr.I (λ_=>Tr.R trivial) λ_=>Tr.C ?_ λ_ _ _=>Tr.C ?_ λ_ _ _=>Tr.C ?_ λ_ _ _=>Tr.I (λ_=>Tr.R trivial) λ_=>Tr.C ?_ λ_ _ _=>Tr.C ?_ λ_ _ _=>Tr.C ?_ λ_ _ _=>Tr.C ?_ λ_ _ _=>Tr.C ?_ λ_ _ _=>Tr.C trivial λ_ _ _=>Tr.C ?_ λ_ _ _=>Tr.I (λ_=>Tr.I (λ_=>Tr.I (λ_=>Tr.I (λ_=>Tr.C trivial λ_ _ _=>Tr.F (by kernel_rfl) trivial) λ_=>Tr.C ?_ λ_ _ _=>Tr.I (λ_=>Tr.C trivial λ_ _ _=>Tr.F (by kernel_rfl) trivial) λ_=>Tr.R trivial) λ_=>Tr.R trivial) λ_=>Tr.C ?_ λ_ _ _=>Tr.I (λ_=>Tr.I (λ_=>Tr.I (λ_=>Tr.I (λ_=>Tr.C trivial λ_ _ _=>Tr.F (by kernel_rfl) trivial) λ_=>Tr.C ?_ λ_ _ _=>Tr.I (λ_=>Tr.C trivial λ_ _ _=>Tr.F (by kernel_rfl) trivial) λ_=>Tr.R trivial) λ_=>Tr.R trivial) λ_=>Tr.R trivial) λ_=>Tr.R trivial) λ_=>Tr.R trivial
  all_goals (grind)⟩
noncomputable def tc:=D1 st Tryz.func3 [zj,pZ,kH,gZ,pn,pT,px,nJ,lR,lT,iv] (ks:=[.sc (.sl .u8)]) eo rB
noncomputable def uW:=[zj,mL,rm,kw,su,mh,qY]
noncomputable def u9:Fx:=⟨4,Tryz.f4,[(3000008,rA 0 45)],0⟩
noncomputable def gv:FX (List Int×Unit) (Bool) (λ_=>True) (jV [.sc (.sl .u8)]):=⟨λ(x0,_)=>
  .val (lS.f (x0,())) λc1=>
  .ite c1 (.ret true)<|
  .cal bz.c (x0,()) λc2=>
  .cal ao.c (c2,()) λc3=>
  .cal eE.c (c2,()) λc4=>
  .ite (!(c3==c4)) (.ret false)<|
  .cal bd.c (c3,()) λc5=>
  .bnd (β:=Bool×Unit) (.ite (!(c3==[])) (.ite (c5.2 != (-1)) (.ret (true,()))<|
    .ite ((c5.1.length:Int) != (c2.length:Int)) (.ret (true,()))<|
    .cal ao.c (c5.1,()) λc6=>
    .ret ((!(c6==c3)),()))<|
   .ret (false,())) λ(u7a0,_)=>
  .ite u7a0 (.ret false)<|
  .cal cA.c (x0,()) λc8=>
  .cal bd.c (c8,()) λc9=>
  .cal f6.c (c8,()) λc10=>
  .ite (c9.2 != c10.2) (.ret false)<|
  .ite (decide (0≤c9.2)) (.ite ((c9.1.length:Int)==0) (.ret true)<|
   .ite (decide (c9.2<0)) (.cal ao.c (c9.1,()) λc11=>
    .ret (c11==c8))<|
   .ret false)<|
  .ite (decide (c9.2<0)) (.cal ao.c (c9.1,()) λc12=>
   .ret (c12==c8))<|
  .ret false,
 λ(x0,_) hp hf=>by
  simp only[jV,Pk.fact,uB,ne,Fl.fact,Ty.fl,Ty.toH]at hf
  refine Tr.V λ_ _=>Tr.I (λ_=>Tr.R trivial) λ_=>Tr.C ?_ λ_ _ _=>Tr.C ?_ λ_ _ _=>Tr.C ?_ λ_ _ _=>Tr.I (λ_=>Tr.R trivial) λ_=>Tr.C ?_ λ_ _ _=>Tr.B (Q':=λ_=>True) (Tr.I (λ_=>Tr.I (λ_=>Tr.R trivial) λ_=>Tr.I (λ_=>Tr.R trivial) λ_=>Tr.C ?_ λ_ _ _=>Tr.R trivial) λ_=>Tr.R trivial) (λ(u7a0,_) _ _=>Tr.I (λ_=>Tr.R trivial) λ_=>Tr.C ?_ λ_ _ _=>Tr.C ?_ λ_ _ _=>Tr.C ?_ λ_ _ _=>Tr.I (λ_=>Tr.R trivial) λ_=>Tr.I (λ_=>Tr.I (λ_=>Tr.R trivial) λ_=>Tr.I (λ_=>Tr.C ?_ λ_ _ _=>Tr.R trivial) λ_=>Tr.R trivial) λ_=>Tr.I (λ_=>Tr.C ?_ λ_ _ _=>Tr.R trivial) λ_=>Tr.R trivial)
  all_goals ((try simp only[Tr.nice,d7]at*)<;>grind)⟩
noncomputable def ve:=Eh st u9 uW [] (ks:=[.sc (.sl .u8)]) gv rB Tryz.func4 trivial
theorem ri (n b:Int):ax.f (n,b,())=bj.f (n,b,()):=by
 simp only[PX,ax,bj,eq,dE]
 cases h:(decide (1≤b)&&decide (b≤62))with
 |false=>simp only[cond_false]
 |true=>
  have h1:1≤b∧b≤62:=by simpa using h
  rw[xO (by omega) (by omega)]
theorem lf (x:Tupl):bO.f (x,())=aG.f (x,()):=by
 simp only[PX,bO,aG,ri]
theorem uO (x y:Mac):fe.f (x,y,())=bt.f (x,y,()):=by
 simp only[PX,fe,bt,eI,dz,cy,gJ,fV]
 have e1:(x.k != y.k)= !(x.k==y.k):=rfl
 have e2:(x.l != y.l)= !(x.l==y.l):=rfl
 rw[e1,e2]
 cases(x.use==y.use)<;>cases(x.k==y.k)<;>cases(x.l==y.l)<;>cases((x.rows.length:Int) != (y.rows.length:Int))<;>rfl
theorem BN (x:Mac)(r:List MacRow)(j:Nat)(hj:j<r.length)(hr:x.rows=r):
  Stp.elim (γ:=Stp Unit Unit) (λ_=> .next ()) (λ_=> .out ()) (a8 (λi a=>(gC (j:Int) x i a).nice) 1 (Int.toNat ((j:Int)-0)) 0 ())=
  bif aY.f (((r.take j).drop 0),(r.getD j (Ty.zero .macRow)),())then .out ()else .next ():=by
 subst hr
 let p:MacRow→Bool:=λy=>y.input==(x.rows.getD j (Ty.zero .macRow)).input
 simp only[PX,aY,bQ,aF]
 rw[List.drop_zero]
 have hl:(x.rows.take j).length=j:=by rw[List.length_take];omega
 rw[bZ (x.rows.take j) _ (by rw[hl];simp) (F:=λq y a=>bif p y then .out ()else .next ()) (by
  intro q y a h
  have hq:q<j:=by
   have:=(List.getElem?_eq_some_iff.1 h).1;omega
  have h2:x.rows[q]? =some y:=by rw[List.getElem?_take]at h;simpa [hq]using h
  simp only[PX,gC,aL,getD_some h2,p])]
 rw[bZ (x.rows.take j) _ (by simp) (F:=λq y a=>bif p y then .out (q:Int)else .next ()) (by
  intro q y a h
  simp only[PX,cc,ou,aL,getD_some h,p])]
 rw[mi (w:=λ_ _=>()),mi (w:=λj _=>(j:Int))]
 cases h:(x.rows.take j).findIdx? p with
 |none=>simp[PX,Stp.elim]
 |some i=>
  have:=(List.findIdx?_eq_some_iff_getElem.1 h).1
  simp only[List.getElem?_eq_getElem this,Stp.elim]
  simp[PX]
theorem CJ (x:Mac):n0.f (x,())=dJ.f (x,()):=by
 simp only[PX,n0,dJ,dI,eA]
 have e:a8 (λj a=>(jx x j a).nice) 1 (Int.toNat ((x.rows.length:Int)-0)) 0 ()=a8 (λj a=>(gk x.rows x j a).nice) 1 (Int.toNat ((x.rows.length:Int)-0)) 0 ():=by
  rw[bP]
  refine wy x.rows.length 0 () (λj a hj=> ?_)
  have:=BN x x.rows j (by omega) rfl
  simp only[PX,jx,gk,ca,aL,eq,dE]at this⊢
  rw[this]
 rw[e]
 have e1:(x.k != 0)= !(x.k==0):=rfl
 have e2:(x.l != 0)= !(x.l==0):=rfl
 have e3:decide (64<(x.rows.length:Int))= !decide ((x.rows.length:Int)≤64):=by
  rcases Int.lt_or_le 64 (x.rows.length:Int)with h|h
  ·simp[h,show¬((x.rows.length:Int)≤64) by omega]
  ·simp[h,show¬(64<(x.rows.length:Int)) by omega]
 rw[e1,e2,e3]
 generalize a8 (λj a=>(gk x.rows x j a).nice) 1 (Int.toNat ((x.rows.length:Int)-0)) 0 ()=z
 cases x.use<;>cases z<;>cases(x.k==0)<;>cases(x.l==0)<;>cases decide ((x.rows.length:Int)≤64)<;>simp[PX,Stp.elim]
theorem fg (n:Int)(h0:0≤n)(h1:n<2 ^ 64):IntKind.u64.wrap n=n:=by rw[oC];omega
theorem uQ {W:Type}{f:Int→Unit→Stp Unit W}:∀(k:Nat) (i:Int),(∀j,f j ()= .next ())→a8 f 1 k i ()= .next ()
 |0,_,_=>rfl
 |k+1,i,h=>by simp only[a8,h,Stp.elim];exact uQ k _ h
theorem vZ (m:Mac):fe.f (m,m,())=true:=by
 simp only[PX,fe,dz]
 rw[uQ _ _ λj=>by simp only[PX,gJ,beq_self_eq_true,Bool.and_self,Bool.not_true,cond_false]]
 simp[PX,Stp.elim]
theorem tM (m:Mac):bt.f (m,m,())=true:=by rw[←uO];exact vZ m
theorem zR (x:List Int)(hb:lS.f (x,())=false):x.length≤1048576:=by
 simp only[PX,lS,decide_eq_false_iff_not]at hb
 omega
def ws:Bool→aa→Int
 |_,[]=>0
 |false,b::t=>256*(b.toNat:Int)+ws true t
 |true,b::t=>(b.toNat:Int)+ws false t
theorem cB (b:aa):aA (a5 b)=b:=by
 unfold aA a5
 rw[List.map_map]
 refine(List.map_congr_left (g:=id) λx _=> ?_).trans (List.map_id b)
 simp
theorem w8 {n:Int}(h:bj.f (n,8,())=true):0≤n∧n≤255:=by
 rw[zd]at h
 simp at h
 omega
theorem jk (x:Mac)(h:bt.f (x,⟨false,0,0,[]⟩,())=true):x=⟨false,0,0,[]⟩:=by
 simp only[PX,bt,eI]at h
 obtain⟨u,k,l,r⟩:=x
 cases r with
 |nil=>
  revert h
  cases hu:(u==false)<;>cases hk:(k==0)<;>cases hl:(l==0)<;>simp_all
 |cons a b=>
  have:(((a::b).length:Int) != (([]:List MacRow).length:Int))=true:=by simp;omega
  simp only[this,cond_true]at h
  revert h
  cases(u==false)<;>cases(k==0)<;>cases(l==0)<;>simp
theorem CI (x:Acti):nm.f (x,())=d4.f (x,()):=by
 obtain⟨kd,t,n,tx,mac⟩:=x
 have hs:bt.f (mac,⟨false,0,0,[]⟩,())=true→dJ.f (mac,())=true:=λh=>by rw[jk mac h];rfl
 have hz:((t.ip==0)&&((t.port==0)&&((t.my==0)&&true)))=true→aG.f (t,())=true:=λh=>by
  obtain⟨a,b,c⟩:=t
  simp only[Bool.and_eq_true,beq_iff_eq,Bool.and_true]at h
  obtain⟨rfl,rfl,rfl⟩:=h
  decide+kernel
 have hx:(tx==[])=true→decide ((tx.length:Int)≤1600)=true:=λh=>by
  have:tx=[]:=by simpa using h
  subst this;rfl
 have hn:(n==0)=true→(decide (0≤n)&&decide (n≤65535))=true:=λh=>by
  have:n=0:=by simpa using h
  subst this;rfl
 have hl:decide (1600<(tx.length:Int))= !decide ((tx.length:Int)≤1600):=by
  rcases Int.lt_or_le 1600 (tx.length:Int)with h|h
  ·simp[h,show¬((tx.length:Int)≤1600) by omega]
  ·simp[h,show¬(1600<(tx.length:Int)) by omega]
 have hb:(n != 0)= !(n==0):=rfl
 have hk:kd=1∨kd=2∨kd=3∨kd=4∨kd=5∨kd=6∨kd=7∨kd=8∨((decide (1≤kd)&&decide (kd≤8))=false∧(kd==1)=false∧(kd==3)=false∧(kd==5)=false∧(kd==6)=false∧(kd==7)=false∧(kd==8)=false):=by
  by_cases h:1≤kd∧kd≤8
  ·omega
  ·refine .inr (.inr (.inr (.inr (.inr (.inr (.inr (.inr ⟨?_, ?_, ?_, ?_, ?_, ?_, ?_⟩)))))))
   ·simp only[Bool.and_eq_false_iff,decide_eq_false_iff_not];omega
   all_goals (rw[beq_eq_false_iff_ne];omega)
 simp only[Bool.and_true]at hz
 rcases hk with rfl|rfl|rfl|rfl|rfl|rfl|rfl|rfl|hk
 case inr.inr.inr.inr.inr.inr.inr.inr=>
  obtain⟨e,e1,e3,e5,e6,e7,e8⟩:=hk
  simp only[PX,nm,d4,eq,dE,e,e1,e3,e5,e6,e7,e8,cond_true,cond_false,Bool.not_false]
 all_goals
  simp only[PX,nm,d4,eq,dE,lf,uO,CJ,tM,hl,hb,Int.reduceBEq,Int.reduceBNe,Int.reduceLE,decide_true,cond_true,cond_false,beq_self_eq_true,bne_self_eq_false,Bool.and_true,Bool.and_self,Bool.not_true,Bool.not_false]
  clear hl hb
  generalize bt.f (mac,⟨false,0,0,[]⟩,())=S at*
  generalize dJ.f (mac,())=M at*
  generalize aG.f (t,())=T at*
  generalize((t.ip==0)&&((t.port==0)&&(t.my==0)))=Z at*
  generalize(tx==[])=X at*
  generalize decide ((tx.length:Int)≤1600)=L at*
  generalize(decide (0≤n)&&decide (n≤65535))=NN at*
  generalize(n==0)=N0 at*
  revert S M T Z X L NN N0
  decide+kernel
def bB (n:Nat):aa:=if h:n<10 then[UInt8.ofNat (48+n)]else bB (n/10)++[UInt8.ofNat (48+n%10)]
decreasing_by omega
def dD (c:UInt8):Bool:=decide (48≤c.toNat)&&decide (c.toNat≤57)
def val:aa→Nat→Nat
 |[],a=>a
 |c::r,a=>val r (10*a+(c.toNat-48))
theorem eK {n:Nat}(h:n<10):bB n=[UInt8.ofNat (48+n)]:=by rw[bB,dif_pos h]
theorem ig {n:Nat}(h:¬n<10):bB n=bB (n/10)++[UInt8.ofNat (48+n%10)]:=by rw[bB,dif_neg h]
theorem xr {n:Nat}(h:n<10):(UInt8.ofNat (48+n)).toNat=48+n:=by
 simp only[UInt8.toNat_ofNat'];omega
theorem C2 {c:UInt8}(h:dD c=true):UInt8.ofNat (48+(c.toNat-48))=c:=by
 simp only[dD,Bool.and_eq_true,decide_eq_true_eq]at h
 rw[show 48+(c.toNat-48)=c.toNat by omega]
 exact UInt8.ofNat_toNat
theorem xz:∀(n:Nat),∀c∈bB n,dD c=true:=by
 intro n
 induction n using Nat.strongRecOn with
 |_ n ih=>
  intro c hc
  by_cases h:n<10
  ·rw[eK h,List.mem_singleton]at hc
   subst hc
   simp only[dD,xr h,Bool.and_eq_true,decide_eq_true_eq];omega
  ·rw[ig h]at hc
   rcases List.mem_append.1 hc with hc|hc
   ·exact ih (n/10) (by omega) c hc
   ·rw[List.mem_singleton]at hc
    subst hc
    simp only[dD,xr (show n%10<10 by omega),Bool.and_eq_true,decide_eq_true_eq];omega
theorem vB (n:Nat):bB n≠[]:=by
 by_cases h:n<10
 ·rw[eK h];simp
 ·rw[ig h];simp
theorem Ah:∀(n:Nat),∀c r,bB n=c::r→c.toNat=48→n=0:=by
 intro n
 induction n using Nat.strongRecOn with
 |_ n ih=>
  intro c r he hc
  by_cases h:n<10
  ·rw[eK h]at he
   cases he
   rw[xr h]at hc
   omega
  ·rw[ig h]at he
   cases hd:bB (n/10)with
   |nil=>exact absurd hd (vB _)
   |cons c' r'=>
    rw[hd]at he
    cases he
    have:=ih (n/10) (by omega) c r' hd hc
    omega
theorem vt:∀(s:aa) (c:UInt8) (a:Nat),val (s++[c]) a=10*val s a+(c.toNat-48)
 |[],_,_=>rfl
 |x::r,c,a=>by simp only[List.cons_append,val];exact vt r c _
theorem kQ:∀(n:Nat),val (bB n) 0=n:=by
 intro n
 induction n using Nat.strongRecOn with
 |_ n ih=>
  by_cases h:n<10
  ·rw[eK h];simp only[val,xr h];omega
  ·rw[ig h,vt,ih (n/10) (by omega),xr (by omega)];omega
def gF:aa→Bool
 |[]=>false
 |[_]=>true
 |c::_=> !(c.toNat==48)
theorem zz:∀(s:aa) (a:Nat),a≤val s a
 |[],_=>Nat.le_refl _
 |c::r,a=>by simp only[val];have:=zz r (10*a+(c.toNat-48));omega
theorem pb (n:Nat):gF (bB n)=true:=by
 cases hd:bB n with
 |nil=>exact absurd hd (vB n)
 |cons c r=>
  cases r with
  |nil=>rfl
  |cons d r=>
   simp only[gF,Bool.not_eq_true',beq_eq_false_iff_ne,ne_eq]
   intro hc
   have:=Ah n c _ hd hc
   subst this
   rw[eK (by omega)]at hd
   cases hd
theorem xR (s:aa)(hd:∀c∈s,dD c=true)(hn:gF s=true):bB (val s 0)=s:=by
 generalize hl:s.length=l
 induction l generalizing s with
 |zero=>cases s with|nil=>cases hn|cons _ _=>simp at hl
 |succ l ih=>
  rcases List.eq_nil_or_concat s with rfl|⟨t,c,rfl⟩
  ·cases hn
  ·rw[List.concat_eq_append]at*
   have hc:=hd c (by simp)
   have hc':=hc
   simp only[dD,Bool.and_eq_true,decide_eq_true_eq]at hc'
   rw[vt]
   cases ht:t with
   |nil=>
    simp only[val,List.nil_append]
    rw[eK (by omega),show 10*0+(c.toNat-48)=c.toNat-48 by omega,C2 hc]
   |cons d r=>
    rw[←ht]
    have hdd:=hd d (by rw[ht];simp)
    simp only[dD,Bool.and_eq_true,decide_eq_true_eq]at hdd
    have h0:¬d.toNat=48:=by
     rw[ht]at hn
     cases r<;>simpa [gF]using hn
    have hnt:gF t=true:=by
     rw[ht]
     cases r with
     |nil=>rfl
     |cons _ _=>simp[gF,h0]
    have e:=ih t (λx hx=>hd x (by simp[hx])) hnt (by simp at hl;exact hl)
    have hv:1≤val t 0:=by
     rw[ht]
     simp only[val]
     have:=zz r (10*0+(d.toNat-48))
     omega
    rw[ig (by omega),show(10*val t 0+(c.toNat-48))/10=val t 0 by omega,e,show(10*val t 0+(c.toNat-48))%10=c.toNat-48 by omega,C2 hc]
theorem tF:∀(n:Nat) (m:Nat) (acc:aa),n≤9223372036854775807→n<m→jp (λa=>(fp a).nice) m ((n:Int),acc)=if n=0 then acc else bB n++acc:=by
 intro n
 induction n using Nat.strongRecOn with
 |_ n ih=>
  intro m acc hb hm
  cases m with
  |zero=>omega
  |succ m=>
   have hf:(fp ((n:Int),acc)).nice=if n=0 then .out acc else .next (((n/10:Nat):Int),[UInt8.ofNat (48+n%10)]++acc):=by
    simp only[PX,fp]
    by_cases h0:n=0
    ·subst h0;rfl
    ·rw[if_neg h0,show((n:Int) != 0)=true by simp;omega]
     simp only[cond_true,PX]
     rw[(eC 10).1 (by omega),(iM 10).1 (by omega),show decide ((n:Int)%10<0)=false by simp;omega,cond_false,ba (m:=48+_) (by omega) (by omega),ba (by omega) (by omega),gn]
     congr 3
     simp only[aA,List.map_cons,List.map_nil]
     congr 2
     omega
   by_cases h0:n=0
   ·simp only[jp,hf,if_pos h0,Stp.elim]
   ·simp only[jp,hf,if_neg h0,Stp.elim]
    rw[ih (n/10) (by omega) m _ (by omega) (by omega)]
    by_cases h:n<10
    ·rw[if_pos (by omega),eK h,show n%10=n by omega]
    ·rw[if_neg (by omega),ig h,List.append_assoc]
theorem iQ (n:Nat)(hb:n≤9223372036854775807):fJ.f ((n:Int),())=bB n:=by
 simp only[PX,fJ,cX]
 by_cases h0:n=0
 ·subst h0;rw[eK (by omega)];rfl
 ·rw[show((n:Int)==0)=false by simp;omega]
  simp only[cond_false,PX]
  rw[show decide ((n:Int)<0)=false by simp]
  simp only[cond_false]
  try simp only[PX,cX]
  rw[tF n _ [] hb (by simp),if_neg h0,List.append_nil]
def iY (s:aa):Bool:=decide (1≤s.length)&&decide (s.length≤12)&&s.all dD&&gF s
theorem B1:∀(s:aa) (a k:Nat),(∀c∈s,dD c=true)→a<10 ^ k→val s a<10 ^ (k+s.length)
 |[],_,_,_,h=>h
 |c::r,a,k,hd,h=>by
  have hc:=hd c (by simp)
  simp only[dD,Bool.and_eq_true,decide_eq_true_eq]at hc
  simp only[val,List.length_cons]
  rw[show k+(r.length+1)=(k+1)+r.length by omega]
  refine B1 r _ (k+1) (λx hx=>hd x (by simp[hx])) ?_
  rw[Nat.pow_succ];omega
theorem uG {F:Nat→UInt8→Int→Stp Int Int}(hF:∀j (c:UInt8) a,F j c a=bif decide ((c.toNat:Int)<48)then .out a else bif decide (57<(c.toNat:Int))then .out a else .next (IntKind.wrap .i64 ((IntKind.wrap .i64 (10*a))+(IntKind.wrap .i64 (IntKind.wrap .u8 ((c.toNat:Int)-48)))))):
  ∀(s:aa) (j k a:Nat),a<10 ^ k→k+s.length≤12→(s.all dD=true→bv F j s (a:Int)= .next ((val s a:Nat):Int))∧(s.all dD=false→∃w,bv F j s (a:Int)= .out w)
 |[],_,_,_,_,_=>⟨λ_=>rfl,λh=>by cases h⟩
 |c::r,j,k,a,ha,hk=>by
  have hp:(10:Nat) ^ k≤1000000000000:=by
   have:∀k:Nat,k<13→(10:Nat) ^ k≤1000000000000:=by decide
   exact this k (by simp only[List.length_cons]at hk;omega)
  simp only[bv,hF,List.all_cons,dD]
  by_cases h1:c.toNat<48
  ·rw[show decide ((c.toNat:Int)<48)=true by simp;omega,show decide (48≤c.toNat)=false by simp;omega]
   exact⟨λh=>by simp at h,λ_=>⟨_,rfl⟩⟩
  ·rw[show decide ((c.toNat:Int)<48)=false by simp;omega,show decide (48≤c.toNat)=true by simp;omega]
   by_cases h2:57<c.toNat
   ·rw[show decide (57<(c.toNat:Int))=true by simp;omega,show decide (c.toNat≤57)=false by simp;omega]
    exact⟨λh=>by simp at h,λ_=>⟨_,rfl⟩⟩
   ·rw[show decide (57<(c.toNat:Int))=false by simp;omega,show decide (c.toNat≤57)=true by simp;omega]
    simp only[cond_false,Stp.elim,Bool.true_and,Bool.and_self]
    have e:IntKind.wrap .i64 ((IntKind.wrap .i64 (10*(a:Int)))+(IntKind.wrap .i64 (IntKind.wrap .u8 ((c.toNat:Int)-48))))=((10*a+(c.toNat-48):Nat):Int):=by
     rw[gn,ba (m:=10*(a:Int)) (by omega) (by omega),ba (m:=_%_) (by omega) (by omega),ba (by omega) (by omega)]
     omega
    rw[e]
    exact uG hF r (j+1) (k+1) (10*a+(c.toNat-48)) (by rw[Nat.pow_succ];omega) (by simp only[List.length_cons]at hk;omega)
theorem wb (s:aa)(h:s.length≤12):(s.all dD=true→a8 (λj' a'=>(dR s j' a').nice) 1 (Int.toNat ((s.length:Int)-0)) 0 0= .next ((val s 0:Nat):Int))∧(s.all dD=false→∃w,a8 (λj' a'=>(dR s j' a').nice) 1 (Int.toNat ((s.length:Int)-0)) 0 0= .out w):=by
 rw[bP,bZ s _ rfl (F:=λ_ (c:UInt8) a=>bif decide ((c.toNat:Int)<48)then .out a else bif decide (57<(c.toNat:Int))then .out a else .next (IntKind.wrap .i64 ((IntKind.wrap .i64 (10*a))+(IntKind.wrap .i64 (IntKind.wrap .u8 ((c.toNat:Int)-48)))))) (by
  intro j c a hj
  simp only[dR,PX,aL,au,getD_some hj];cases decide ((c.toNat:Int)<48)<;>rfl)]
 exact uG (λ_ _ _=>rfl) s 0 0 0 (by omega) (by omega)
theorem Am (s:aa)(h:1≤s.length):gF s= !(decide (1<(s.length:Int))&&(au s 0==48)):=by
 match s,h with
 |[c],_=>simp[gF]
 |c::d::r,_=>
  rw[show decide (1<(((c::d::r).length:Nat):Int))=true by simp;omega,Bool.true_and]
  simp only[gF,au,List.getD_cons_zero]
  congr 1
  rw[Bool.eq_iff_iff]
  simp only[beq_iff_eq]
  omega
theorem jL (s:aa):cU.f (s,())=bif iY s then(((val s 0:Nat):Int),true)else(0,false):=by
 unfold iY;simp only[PX,cU,dQ]
 by_cases h1:1≤s.length
 ·rw[show decide ((s.length:Int)<1)=false by simp;omega,decide_eq_true h1]
  by_cases h2:s.length≤12
  ·rw[show decide (12<(s.length:Int))=false by simp;omega,decide_eq_true h2]
   simp only[cond_false,Bool.true_and]
   obtain⟨g1,g2⟩:=wb s h2
   cases ha:s.all dD with
   |false=>obtain⟨w,hw⟩:=g2 ha;rw[hw];rfl
   |true=>
    rw[g1 ha]
    have hd:∀c∈s,dD c=true:=by simpa using ha
    have hv:=B1 s 0 0 hd (by omega)
    have hp:(10:Nat) ^ (0+s.length)≤1000000000000:=by
     have:∀k:Nat,k<13→(10:Nat) ^ k≤1000000000000:=by decide
     exact this _ (by omega)
    simp only[Stp.elim,PX,Bool.true_and]
    rw[iQ _ (by omega)]
    cases hn:gF s with
    |true=>rw[xR s hd hn];simp
    |false=>
     have:(bB (val s 0)==s)=false:=by
      rw[beq_eq_false_iff_ne]
      intro he
      have:=pb (val s 0)
      rw[he,hn]at this
      cases this
     rw[this];rfl
  ·rw[show decide (12<(s.length:Int))=true by simp;omega,decide_eq_false h2];rfl
 ·rw[show decide ((s.length:Int)<1)=true by simp;omega,decide_eq_false h1];rfl
theorem nY (s:aa):cU.f (s,())=cI.f (s,()):=by
 rw[jL]
 unfold iY;simp only[PX,cI,fi]
 by_cases h1:1≤s.length
 ·rw[show decide ((s.length:Int)<1)=false by simp;omega,decide_eq_true h1,Am s h1]
  by_cases h2:s.length≤12
  ·rw[show decide (12<(s.length:Int))=false by simp;omega,decide_eq_true h2]
   simp only[cond_false,Bool.true_and]
   obtain⟨g1,g2⟩:=wb s h2
   rw[show a8 (λj' a'=>(lZ s j' a').nice) 1 (Int.toNat ((s.length:Int)-0)) 0 0=a8 (λj' a'=>(dR s j' a').nice) 1 (Int.toNat ((s.length:Int)-0)) 0 0 from sK (λ_ _=>rfl) _ _ _]
   cases ha:s.all dD with
   |false=>obtain⟨w,hw⟩:=g2 ha;rw[hw];cases decide (1<(s.length:Int))<;>cases(au s 0==48)<;>rfl
   |true=>rw[g1 ha];cases decide (1<(s.length:Int))<;>cases(au s 0==48)<;>rfl
  ·rw[show decide (12<(s.length:Int))=true by simp;omega,decide_eq_false h2];rfl
 ·rw[show decide ((s.length:Int)<1)=true by simp;omega,decide_eq_false h1];rfl
theorem kN (a b:List Int):aA (a++b)=aA a++aA b:=by simp[aA]
theorem Ci (a b c d sep:aa):gt.f ([a,b,c,d],sep,())=a++sep++b++sep++c++sep++d:=by
 simp only[PX,gt,cY]
 simp only[List.length_cons,List.length_nil,show Int.toNat (((0+1+1+1+1:Nat):Int)-0)=4 from rfl,a8,iB,Stp.elim,
  show decide ((0:Int)<0)=false from rfl,show(0:Int)+1=1 from rfl,show(1:Int)+1=2 from rfl,show(2:Int)+1=3 from rfl,
  show decide ((0:Int)<1)=true from rfl,show decide ((0:Int)<2)=true from rfl,show decide ((0:Int)<3)=true from rfl,cond_true,cond_false,
  show Int.toNat 0=0 from rfl,show Int.toNat 1=1 from rfl,show Int.toNat 2=2 from rfl,show Int.toNat 3=3 from rfl,List.getD_cons_zero,List.getD_cons_succ,List.nil_append,kN,cB,PX]
theorem qx (n:Nat)(h:n≤4294967295):aj.f ((n:Int),4,())=[UInt8.ofNat (n/16777216),UInt8.ofNat (n/65536%256),UInt8.ofNat (n/256%256),UInt8.ofNat (n%256)]:=by
 have hw:ax.f ((n:Int),32,())=true:=by
  rw[ri,ko]
  simp only[Bool.and_eq_true,decide_eq_true_eq]
  omega
 simp only[PX,aj,cD]
 rw[eq]
 simp only[PX,show(decide ((1:Int)≤4)&&decide ((4:Int)≤6))=true from rfl,show IntKind.wrap .i64 (8*4)=32 from by decide+kernel,hw,Bool.not_true,cond_false,show IntKind.wrap .i64 (4-1)=3 from by decide+kernel,show Int.toNat (3-0+1)=4 from rfl,
  a8,kB,Stp.elim,show(3:Int)+ -1=2 from rfl,show(2:Int)+ -1=1 from rfl,show(1:Int)+ -1=0 from rfl,show Int.toNat 0=0 from rfl,show Int.toNat 1=1 from rfl,show Int.toNat 2=2 from rfl,show Int.toNat 3=3 from rfl,show Int.toNat 4=4 from rfl]
 have e1:IntKind.wrap .i64 ((n:Int).tdiv 256)=((n/256:Nat):Int):=by rw[(iM 256).1 (by omega),ba (by omega) (by omega)];omega
 have e2:IntKind.wrap .i64 (((n/256:Nat):Int).tdiv 256)=((n/65536:Nat):Int):=by rw[(iM 256).1 (by omega),ba (by omega) (by omega)];omega
 have e3:IntKind.wrap .i64 (((n/65536:Nat):Int).tdiv 256)=((n/16777216:Nat):Int):=by rw[(iM 256).1 (by omega),ba (by omega) (by omega)];omega
 rw[e1,e2,e3]
 have g:∀m:Nat,IntKind.wrap .u8 ((m:Int).tmod 256)=((m%256:Nat):Int):=λm=>by rw[(eC 256).1 (by omega),gn];omega
 rw[g,g,g,g]
 simp only[List.replicate,List.set,aA,List.map_cons,List.map_nil,Int.toNat_natCast]
 rw[show n/16777216%256=n/16777216 by omega]
def cp (n:Nat):aa:=bB (n/16777216)++46::(bB (n/65536%256)++46::(bB (n/256%256)++46::bB (n%256)))
theorem Cl (s:aa)(j:Nat)(a:List aa):(cL s (j:Int) a).nice= .next (a++[bB (s.getD j 0).toNat]):=by
 simp only[PX,cL]
 rw[aL]
 unfold au
 have:=(s.getD j 0).toNat_lt
 rw[ba (by omega) (by omega),iQ _ (by omega)]
theorem CB (s:aa):a8 (λj' a'=>(cL s j' a').nice) 1 (Int.toNat ((s.length:Int)-0)) 0 []= .next (s.map λx=>bB x.toNat):=by
 rw[bP,bZ s _ rfl (F:=λ_ (x:UInt8) a=> .next (a++[bB x.toNat])) (λj x a h=>by rw[Cl,getD_some h])]
 have:∀(r:aa) (j:Nat) (a:List aa),bv (W:=Empty) (λ_ (x:UInt8) a=> .next (a++[bB x.toNat])) j r a= .next (a++r.map λx=>bB x.toNat):=by
  intro r
  induction r with
  |nil=>intro j a;simp[bv]
  |cons x r ih=>intro j a;simp only[bv,Stp.elim,ih,List.map_cons,List.append_assoc,List.cons_append,List.nil_append]
 rw[this,List.nil_append]
theorem iO {m:Nat}(h:m<256):(UInt8.ofNat m).toNat=m:=by simp only[UInt8.toNat_ofNat'];omega
theorem gQ (n:Nat)(h:n≤4294967295):bc.f ((n:Int),())=cp n:=by
 simp only[PX,bc,bx]
 rw[qx n h]
 have h1:n/16777216<256:=by omega
 have h2:n/65536%256<256:=by omega
 have h3:n/256%256<256:=by omega
 have h4:n%256<256:=by omega
 unfold cp
 generalize n/16777216=a at*
 generalize n/65536%256=b at*
 generalize n/256%256=c at*
 generalize n%256=d at*
 rw[CB]
 simp only[List.map_cons,List.map_nil,Stp.elim,PX,Ci,iO h1,iO h2,iO h3,iO h4,List.append_assoc,List.cons_append,List.nil_append]
theorem re (n:Int)(h:¬(0≤n∧n≤4294967295)):bc.f (n,())=[]:=by
 have hw:aj.f (n,4,())=[]:=by
  simp only[PX,aj,cD]
  rw[eq,show IntKind.wrap .i64 (8*4)=32 from by decide+kernel,ri,ko]
  rw[show(decide (0≤n)&&decide (n≤4294967295))=false by simp only[Bool.and_eq_false_iff,decide_eq_false_iff_not];omega]
  rfl
 simp only[PX,bc,bx]
 simp only[PX,hw]
 rfl
def mn (n:Nat):UInt8:=if n<10 then UInt8.ofNat (48+n)else UInt8.ofNat (87+n)
def fP:aa→aa
 |[]=>[]
 |c::r=>mn (c.toNat/16)::mn (c.toNat%16)::fP r
theorem fx:∀s:aa,(fP s).length=2*s.length
 |[]=>rfl
 |c::r=>by simp only[fP,List.length_cons,fx r];omega
theorem oW {W:Type}:∀(r:aa) (j:Nat) (a:List Int),bv (W:=W) (λ_ (c:UInt8) a=> .next (a++[((mn (c.toNat/16)).toNat:Int),((mn (c.toNat%16)).toNat:Int)])) j r a= .next (a++a5 (fP r))
 |[],j,a=>by simp[bv,fP,a5]
 |c::r,j,a=>by simp only[bv,Stp.elim,oW r,fP,a5,List.map_cons,List.append_assoc,List.cons_append,List.nil_append]
theorem zM (s:aa):wF.f (s,())=fP s:=by
 have hb:∀n:Nat,n<256→nB.f ((IntKind.wrap .u8 ((n:Int).tdiv 16)),())=((mn (n/16)).toNat:Int)∧nB.f (((n:Int).tmod 16),())=((mn (n%16)).toNat:Int):=by decide+kernel
 simp only[PX,wF,gR]
 rw[bP,bZ s _ rfl (F:=λ_ (c:UInt8) a=> .next (a++[((mn (c.toNat/16)).toNat:Int),((mn (c.toNat%16)).toNat:Int)])) (by
  intro j c a hj
  have:=hb c.toNat c.toNat_lt
  simp only[qU,PX,aL,au,getD_some hj,this.1,this.2]),oW]
 simp only[Stp.elim,List.nil_append,cB]
theorem zA (s:aa):xg.f (s,())=fP s:=by
 have hb:∀n:Nat,n<256→au [48,49,50,51,52,53,54,55,56,57,97,98,99,100,101,102] (((n:Int).fdiv 16).toNat)=((mn (n/16)).toNat:Int)∧au [48,49,50,51,52,53,54,55,56,57,97,98,99,100,101,102] ((bits .and .u8 (n:Int) 15).toNat)=((mn (n%16)).toNat:Int):=by decide+kernel
 simp only[PX,xg,gI]
 rw[bP,bZ s _ rfl (F:=λ_ (c:UInt8) a=> .next (a++[((mn (c.toNat/16)).toNat:Int),((mn (c.toNat%16)).toNat:Int)])) (by
  intro j c a hj
  have:=hb c.toNat c.toNat_lt
  have e:au s j=(c.toNat:Int):=by simp only[au,getD_some hj]
  simp only[qR,PX,aL,e,this.1,this.2]),oW]
 simp only[Stp.elim,List.nil_append,cB]
def jo (n:Nat):Option Nat:=if 48≤n∧n≤57 then some (n-48)else if 97≤n∧n≤102 then some (n-87)else none
def ro:aa→Option aa
 |[]=>some []
 |[_]=>none
 |a::b::r=>match jo a.toNat,jo b.toNat with
  |some x,some y=>(ro r).map (UInt8.ofNat (16*x+y)::·)
  |_,_=>none
theorem lg:∀n:Nat,∀x,jo n=some x→x<16:=by
 intro n x h
 unfold jo at h
 split at h
 ·cases h;omega
 ·split at h
  ·cases h;omega
  ·cases h
theorem ud:∀s:aa,ro (fP s)=some s
 |[]=>rfl
 |c::r=>by
  have hb:∀n:Nat,n<16→jo (mn n).toNat=some n:=by decide+kernel
  have:=c.toNat_lt
  simp only[fP,ro,hb (c.toNat/16) (by omega),hb (c.toNat%16) (by omega),ud r,Option.map_some]
  rw[show 16*(c.toNat/16)+c.toNat%16=c.toNat by omega,UInt8.ofNat_toNat]
theorem uv {f:Int→List Int→Stp (List Int) (List Int)}{s:aa}(hf:∀(j:Nat) (a:List Int) (x y:UInt8),s[j]? =some x→s[j+1]? =some y→
   f (j:Int) a=match jo x.toNat,jo y.toNat with|some p,some q=> .next (a++[((16*p+q:Nat):Int)])|_,_=> .out a):
  ∀(m:Nat)(r:aa)(j:Nat)(a:List Int),s.drop j=r→r.length=2*m→
   (match ro r with|some t=>a8 f 2 m (j:Int) a= .next (a++a5 t)|none=>∃w,a8 f 2 m (j:Int) a= .out w)
 |0,r,j,a,h,hl=>by
  have:r=[]:=List.eq_nil_of_length_eq_zero (by omega)
  subst this
  simp[ro,a8,a5]
 |m+1,r,j,a,h,hl=>by
  match r,hl with
  |x::y::r,hl=>
   have hx:s[j]? =some x:=by
    have:(s.drop j)[0]? =some x:=by rw[h];rfl
    rwa [List.getElem?_drop,Nat.add_zero]at this
   have hy:s[j+1]? =some y:=by
    have:(s.drop j)[1]? =some y:=by rw[h];rfl
    rwa [List.getElem?_drop]at this
   have hd:s.drop (j+2)=r:=by
    have:=congrArg (List.drop 2) h
    simpa [List.drop_drop]using this
   simp only[ro,a8,hf j a x y hx hy]
   cases hp:jo x.toNat with
   |none=>exact⟨_,rfl⟩
   |some p=>
    cases hq:jo y.toNat with
    |none=>exact⟨_,rfl⟩
    |some q=>
     simp only[Stp.elim]
     have ih:=uv hf m r (j+2) (a++[((16*p+q:Nat):Int)]) hd (by simp at hl;omega)
     rw[show((j:Int)+2)=((j+2:Nat):Int) by omega]
     cases ht:ro r with
     |none=>rw[ht]at ih;exact ih
     |some t=>
      rw[ht]at ih
      simp only[Option.map_some]
      rw[ih]
      have h1:=lg _ _ hp
      have h2:=lg _ _ hq
      simp only[a5,List.map_cons,List.append_assoc,List.cons_append,List.nil_append,UInt8.toNat_ofNat']
      rw[Nat.mod_eq_of_lt (by omega)]
theorem sx:∀s:aa,s.length%2=1→ro s=none
 |[],h=>by cases h
 |[_],_=>rfl
 |a::b::r,h=>by
  simp only[ro]
  rw[sx r (by simp at h;omega)]
  cases jo a.toNat<;>cases jo b.toNat<;>rfl
def xx (s:aa):aa×Bool:=match ro s with|some t=>(t,true)|none=>([],false)
theorem BR {f:Int→List Int→Stp (List Int) (List Int)}{s:aa}(hf:∀(j:Nat) (a:List Int) (x y:UInt8),s[j]? =some x→s[j+1]? =some y→
   f (j:Int) a=match jo x.toNat,jo y.toNat with|some p,some q=> .next (a++[((16*p+q:Nat):Int)])|_,_=> .out a) (he:s.length%2=0):
  Stp.elim (λa4=>((aA a4),true)) (λ_=>([],false)) (a8 f 2 (Int.toNat (((s.length:Int)-0+1)/2)) 0 [])=xx s:=by
 have:=uv hf (s.length/2) s 0 [] rfl (by omega)
 rw[show Int.toNat (((s.length:Int)-0+1)/2)=s.length/2 by omega]
 unfold xx
 cases hu:ro s with
 |none=>
  rw[hu]at this
  obtain⟨w,hw⟩:=this
  rw[show((0:Nat):Int)=0 from rfl]at hw
  rw[hw];rfl
 |some t=>
  rw[hu]at this
  rw[show((0:Nat):Int)=0 from rfl]at this
  simp only[this,Stp.elim,List.nil_append,cB]
theorem zI {j n:Nat}{s:aa}{y:UInt8}(h:s[j+1]? =some y)(hs:s.length≤n):j+1<n:=by
 have:=(List.getElem?_eq_some_iff.1 h).1;omega
theorem oJ (s:aa)(hs:s.length≤4611686018427387904):cM.f (s,())=xx s:=by
 simp only[PX,cM,bV]
 rw[(eC 2).1 (by omega)]
 by_cases he:s.length%2=0
 ·rw[show((s.length:Int)%2==1)=false by simp;omega,cond_false]
  have hb:∀n:Nat,n<256→nF.f ((n:Int),())=match jo n with|some x=>(x:Int)|none=> -1:=by decide+kernel
  have hc:∀x:Nat,x<16→∀y:Nat,y<16→IntKind.wrap .u8 (IntKind.wrap .i64 ((IntKind.wrap .i64 (16*(x:Int)))+(y:Int)))=((16*x+y:Nat):Int):=by decide+kernel
  refine BR (λj a x y hx hy=> ?_) he
  have h2:=zI hy hs
  simp only[nV,PX,aL]
  rw[ba (by omega) (by omega),show((j:Int)+1)=((j+1:Nat):Int) by omega,aL]
  have ex:au s j=(x.toNat:Int):=by simp only[au,getD_some hx]
  have ey:au s (j+1)=(y.toNat:Int):=by simp only[au,getD_some hy]
  rw[ex,ey,hb _ x.toNat_lt,hb _ y.toNat_lt]
  cases hp:jo x.toNat with
  |none=>rfl
  |some p=>
   cases hq:jo y.toNat with
   |none=>simp only[show decide (((p:Nat):Int)<0)=false by simp,cond_false];rfl
   |some q=>
    simp only[show decide (((p:Nat):Int)<0)=false by simp,show decide (((q:Nat):Int)<0)=false by simp,cond_false,hc p (lg _ _ hp) q (lg _ _ hq)]
 ·rw[show((s.length:Int)%2==1)=true by simp;omega,cond_true]
  unfold xx
  rw[sx s (by omega)]
theorem t8 (s:aa)(hs:s.length≤4611686018427387904):jy.f (s,())=xx s:=by
 simp only[PX,jy,bX]
 rw[(eC 2).1 (by omega)]
 by_cases he:s.length%2=0
 ·rw[show((s.length:Int)%2 != 0)=false by simp;omega,cond_false]
  have hb:∀n:Nat,n<256→fA.f ([48,49,50,51,52,53,54,55,56,57,97,98,99,100,101,102],(n:Int),())=match jo n with|some x=>(x:Int)|none=> -1:=by decide+kernel
  have hc:∀x:Nat,x<16→∀y:Nat,y<16→IntKind.wrap .u8 (bits .or .i64 (IntKind.wrap .i64 ((x:Int)*16)) (y:Int))=((16*x+y:Nat):Int):=by decide+kernel
  refine BR (λj a x y hx hy=> ?_) he
  have h2:=zI hy hs
  simp only[nC,PX,aL]
  rw[ba (by omega) (by omega),show((j:Int)+1)=((j+1:Nat):Int) by omega,aL]
  have ex:au s j=(x.toNat:Int):=by simp only[au,getD_some hx]
  have ey:au s (j+1)=(y.toNat:Int):=by simp only[au,getD_some hy]
  rw[ex,ey]
  simp only[PX,hb _ x.toNat_lt,hb _ y.toNat_lt]
  cases hp:jo x.toNat with
  |none=>rfl
  |some p=>
   cases hq:jo y.toNat with
   |none=>simp only[show decide (((p:Nat):Int)<0)=false by simp,cond_false];rfl
   |some q=>
    simp only[show decide (((p:Nat):Int)<0)=false by simp,show decide (((q:Nat):Int)<0)=false by simp,cond_false,hc p (lg _ _ hp) q (lg _ _ hq)]
 ·rw[show((s.length:Int)%2 != 0)=true by simp;omega,cond_true]
  unfold xx
  rw[sx s (by omega)]
theorem lv (s:aa):xx (fP s)=(s,true):=by unfold xx;rw[ud]
def eY (b:UInt8):aa→aa→List aa
 |[],cur=>[cur]
 |c::r,cur=>bif c==b then cur::eY b r []else eY b r (cur++[c])
def dr (b:UInt8):List aa→aa
 |[]=>[]
 |[p]=>p
 |p::q::r=>p++b::dr b (q::r)
theorem vV (b:UInt8):∀(s cur:aa),eY b s cur≠[]
 |[],cur=>by simp[eY]
 |c::r,cur=>by
  simp only[eY]
  cases c==b with
  |true=>simp
  |false=>exact vV b r _
theorem gD (b:UInt8)(p:aa)(l:List aa)(h:l≠[]):dr b (p::l)=p++b::dr b l:=by
 cases l with
 |nil=>exact absurd rfl h
 |cons q r=>rfl
theorem iP (b:UInt8):∀(s cur:aa),dr b (eY b s cur)=cur++s
 |[],cur=>by simp[eY,dr]
 |c::r,cur=>by
  simp only[eY]
  cases hc:c==b with
  |true=>
   simp only[cond_true]
   rw[gD b cur _ (vV b r []),iP b r [],eq_of_beq hc,List.nil_append]
  |false=>simp only[cond_false];rw[iP b r _,List.append_assoc];rfl
theorem vM (b:UInt8):∀(s cur:aa),(∀c∈s,c≠b)→eY b s cur=[cur++s]
 |[],cur,_=>by simp[eY]
 |c::r,cur,h=>by
  have:(c==b)=false:=by simpa using h c (by simp)
  simp only[eY,this,cond_false]
  rw[vM b r _ λx hx=>h x (by simp[hx]),List.append_assoc];rfl
theorem mE (b:UInt8):∀(p cur r:aa),(∀c∈p,c≠b)→eY b (p++b::r) cur=(cur++p)::eY b r []
 |[],cur,r,_=>by simp[eY]
 |c::p,cur,r,h=>by
  have:(c==b)=false:=by simpa using h c (by simp)
  simp only[List.cons_append,eY,this,cond_false]
  rw[mE b p _ r λx hx=>h x (by simp[hx]),List.append_assoc];rfl
theorem rM (b:UInt8):∀(l:List aa),l≠[]→(∀p∈l,∀c∈p,c≠b)→eY b (dr b l) []=l
 |[],h,_=>absurd rfl h
 |[p],_,h=>by rw[dr,vM b p [] (h p (by simp)),List.nil_append]
 |p::q::r,_,h=>by
  rw[gD b p _ (by simp),mE b p [] _ (h p (by simp)),List.nil_append,rM b (q::r) (by simp) λx hx=>h x (by simp[hx])]
theorem il {b:UInt8}{s:aa}{F:Nat→UInt8→Int×List aa→Stp (Int×List aa) Empty}(hs:s.length≤4294967296)(hF:∀(j:Nat) c a,F j c a=bif ((c.toNat:Int)==(b.toNat:Int))then .next ((IntKind.wrap .i64 ((j:Int)+1)),(a.2++[((s.take j).drop a.1.toNat)]))else .next (a.1,a.2)):
  ∀(r:aa) (j:Nat) (from_:Nat) (out:List aa),s.drop j=r→j+r.length=s.length→from_≤j→∃(f':Nat) (out':List aa),bv F j r ((from_:Int),out)= .next ((f':Int),out')∧f'≤s.length∧out'++[s.drop f']=out++eY b r ((s.take j).drop from_)
 |[],j,from_,out,h,hl,hf=>by
  refine⟨from_,out,rfl,by simp at hl;omega, ?_⟩
  simp only[eY]
  rw[List.take_of_length_le (by simp at hl;omega)]
 |c::r,j,from_,out,h,hl,hf=>by
  have hj:j<s.length:=by simp at hl;omega
  have hd:s.drop (j+1)=r:=by
   have:=congrArg List.tail h
   simpa using this
  have hc:s.take (j+1)=s.take j++[c]:=by
   rw[List.take_succ_eq_append_getElem hj]
   congr 2
   have h2:(s.drop j)[0]? =some c:=by rw[h];rfl
   rw[List.getElem?_drop,Nat.add_zero,List.getElem?_eq_getElem hj]at h2
   exact Option.some.inj h2
  simp only[bv,hF,eY]
  have he:((c.toNat:Int)==(b.toNat:Int))=(c==b):=by
   rw[Bool.eq_iff_iff]
   simp only[beq_iff_eq]
   constructor
   ·intro h;exact UInt8.toNat_inj.1 (by omega)
   ·rintro rfl;rfl
  rw[he]
  cases c==b with
  |true=>
   simp only[cond_true,Stp.elim]
   rw[ba (by omega) (by omega),show((j:Int)+1)=((j+1:Nat):Int) by omega,aL]
   obtain⟨f',o',h1,h2,h3⟩:=il hs hF r (j+1) (j+1) (out++[(s.take j).drop from_]) hd (by simp at hl;omega) (Nat.le_refl _)
   refine⟨f',o',h1,h2, ?_⟩
   rw[h3,show(s.take (j+1)).drop (j+1)=[] from List.drop_of_length_le (by rw[List.length_take];omega),List.append_assoc]
   rfl
  |false=>
   simp only[cond_false,Stp.elim]
   obtain⟨f',o',h1,h2,h3⟩:=il hs hF r (j+1) from_ out hd (by simp at hl;omega) (by omega)
   refine⟨f',o',h1,h2, ?_⟩
   rw[h3,hc,List.drop_append_of_le_length (by rw[List.length_take];omega)]
theorem gm (s:aa)(b:UInt8)(hs:s.length≤4294967296):jE.f (s,(b.toNat:Int),())=eY b s []:=by
 simp only[PX,jE,eS]
 rw[bP,bZ s _ rfl (F:=λ(j:Nat) (c:UInt8) a=>bif ((c.toNat:Int)==(b.toNat:Int))then .next ((IntKind.wrap .i64 ((j:Int)+1)),(a.2++[((s.take j).drop a.1.toNat)]))else .next (a.1,a.2)) (by
  intro j c a hj
  simp only[nl,aL,au,getD_some hj,PX])]
 obtain⟨f',o',h1,h2,h3⟩:=il (b:=b) (s:=s) hs (λ_ _ _=>rfl) s 0 0 [] rfl (by simp) (Nat.le_refl _)
 rw[show((0:Nat):Int)=0 from rfl]at h1
 rw[h1]
 simp only[Stp.elim,aL,List.take_length,h3]
 simp
theorem uI {A W:Type}{f:Int→A→Stp A W}:∀(m n:Nat) (i:Int) (a:A),a8 f 1 (m+n) i a=Stp.elim (λa'=>a8 f 1 n (i+m) a') (λw=> .out w) (a8 f 1 m i a)
 |0,n,i,a=>by simp[a8,Stp.elim]
 |m+1,n,i,a=>by
  rw[show m+1+n=(m+n)+1 by omega]
  simp only[a8]
  cases hf:f i a with
  |out w=>rfl
  |next a'=>
   simp only[Stp.elim]
   rw[uI m n (i+1) a',show i+1+(m:Int)=i+((m+1:Nat):Int) by omega]
   cases a8 f 1 m (i+1) a'<;>rfl
theorem lz (s:aa)(b:UInt8)(hs:s.length≤4294967296):jF.f (s,(b.toNat:Int),())=eY b s []:=by
 simp only[PX,jF,bW]
 rw[show Int.toNat ((s.length:Int)-0+1)=s.length+1 by omega,uI]
 rw[bZ s _ rfl (F:=λ(j:Nat) (c:UInt8) a=>bif ((c.toNat:Int)==(b.toNat:Int))then .next ((IntKind.wrap .i64 ((j:Int)+1)),(a.2++[((s.take j).drop a.1.toNat)]))else .next (a.1,a.2)) (by
  intro j c a hj
  have hl:j<s.length:=(List.getElem?_eq_some_iff.1 hj).1
  simp only[f9,aL,au,getD_some hj,PX]
  rw[show((j:Int)==(s.length:Int))=false by simp;omega]
  rfl)]
 obtain⟨f',o',h1,h2,h3⟩:=il (b:=b) (s:=s) hs (λ_ _ _=>rfl) s 0 0 [] rfl (by simp) (Nat.le_refl _)
 rw[show((0:Nat):Int)=0 from rfl]at h1
 rw[h1]
 simp only[Stp.elim,a8,Int.zero_add]
 have e:(f9 s (b.toNat:Int) (s.length:Int) ((f':Int),o')).nice= .next ((IntKind.wrap .i64 ((s.length:Int)+1)),o'++[s.drop f']):=by
  simp only[PX,f9]
  rw[show((s.length:Int)==(s.length:Int))=true by simp,cond_true]
  simp only[aL,List.take_length,cond_true]
 rw[e]
 simp only[Stp.elim,h3]
 simp
theorem n8 (b:UInt8):∀(s cur:aa),∀p∈eY b s cur,p.length≤cur.length+s.length
 |[],cur,p,h=>by simp[eY]at h;subst h;simp
 |c::r,cur,p,h=>by
  simp only[eY]at h
  cases hc:c==b with
  |true=>
   rw[hc]at h
   rcases List.mem_cons.1 h with rfl|h
   ·simp
   ·have:=n8 b r [] p h;simp at this⊢;omega
  |false=>
   rw[hc]at h
   have:=n8 b r _ p h
   simp at this⊢;omega
def dP (w:aa):Bool:=iY w&&decide (val w 0≤255)
theorem uN (n:Int)(h0:0≤n)(h1:n<2 ^ 63):IntKind.i64.wrap n=n:=ba (by omega) (by omega)
theorem Ck (a b:Int)(ha:0≤a)(ha1:a<16777216)(hb:0≤b)(hb1:b<256):bits .or .i64 (IntKind.wrap .i64 (a*256)) b=a*256+b:=by
 rw[ba (by omega) (by omega)]
 exact bits_join .i64 63 (by decide) uN 8 _ _ (by omega) (by omega) (by omega) (by omega) (by omega) (by omega)
theorem yt (ws:List aa)(j:Nat)(w:aa)(hj:ws[j]? =some w)(a:Int):(gM ws (j:Int) a).nice=bif dP w&&decide (ws.length=4)then .next (bits .or .i64 (IntKind.wrap .i64 (a*256)) ((val w 0:Nat):Int))else .out a:=by
 unfold dP;simp only[PX,gM]
 simp only[PX,aL,getD_some hj,←nY,jL]
 cases hn:iY w with
 |false=>rfl
 |true=>
  simp only[cond_true,Bool.not_true,cond_false,Bool.true_and]
  by_cases h1:val w 0≤255
  ·rw[show decide (255<((val w 0:Nat):Int))=false by simp;omega,decide_eq_true h1]
   by_cases h2:ws.length=4
   ·rw[show((ws.length:Int) != 4)=false by simp;omega,decide_eq_true h2];rfl
   ·rw[show((ws.length:Int) != 4)=true by simp;omega,decide_eq_false h2];rfl
  ·rw[show decide (255<((val w 0:Nat):Int))=true by simp;omega,decide_eq_false h1];rfl
theorem qu {F:Nat→aa→Int→Stp Int Int}{p:aa→Bool}(hF:∀j w a,p w=false→F j w a= .out a)(hN:∀j w a,p w=true→∃a',F j w a= .next a'):∀(ws:List aa) (j:Nat) (a:Int),ws.all p=false→∃w,bv F j ws a= .out w
 |[],_,_,h=>by cases h
 |x::r,j,a,h=>by
  cases hx:p x with
  |false=>exact⟨a,by simp only[bv,hF j x a hx,Stp.elim]⟩
  |true=>
   obtain⟨a',ha⟩:=hN j x a hx
   obtain⟨w,hw⟩:=qu hF hN r (j+1) a' (by simpa [hx]using h)
   exact⟨w,by simp only[bv,ha,Stp.elim,hw]⟩
def gS (a b c d:Nat):Nat:=((a*256+b)*256+c)*256+d
theorem pJ (s:aa)(hs:s.length≤4294967296):(∃a b c d,eY 46 s []=[a,b,c,d]∧dP a=true∧dP b=true∧dP c=true∧dP d=true∧dM.f (s,())=(((gS (val a 0) (val b 0) (val c 0) (val d 0):Nat):Int),true))∨(¬((eY 46 s []).length=4∧(eY 46 s []).all dP=true)∧dM.f (s,())=(0,false)):=by
 have hp:=gm s 46 hs
 rw[show(((46:UInt8).toNat:Nat):Int)=46 from rfl]at hp
 simp only[PX,dM,eL]
 rw[hp]
 generalize hw:eY 46 s []=ws
 have hne:ws≠[]:=by rw[←hw];exact vV _ _ _
 rw[bP,bZ ws _ rfl (F:=λ_ w a=>bif dP w&&decide (ws.length=4)then .next (bits .or .i64 (IntKind.wrap .i64 (a*256)) ((val w 0:Nat):Int))else .out a) (λj w a h=>yt ws j w h a)]
 by_cases hg:ws.length=4∧ws.all dP=true
 ·refine .inl ?_
  match ws,hg with
  |[a,b,c,d],⟨_,hg⟩=>
   simp only[List.all_cons,List.all_nil,Bool.and_true,Bool.and_eq_true]at hg
   obtain⟨ga,gb,gc,gd⟩:=hg
   refine⟨a,b,c,d,rfl,ga,gb,gc,gd, ?_⟩
   have e:∀w,dP w=true→val w 0≤255:=λw h=>by simp only[dP,Bool.and_eq_true,decide_eq_true_eq]at h;exact h.2
   have ea:=e a ga
   have eb:=e b gb
   have ec:=e c gc
   have ed:=e d gd
   simp only[bv,ga,gb,gc,gd,List.length_cons,List.length_nil,decide_true,Bool.and_self,cond_true,Stp.elim]
   generalize val a 0=a at*
   generalize val b 0=b at*
   generalize val c 0=c at*
   generalize val d 0=d at*
   rw[Ck 0 a (by omega) (by omega) (by omega) (by omega),Ck _ b (by omega) (by omega) (by omega) (by omega),Ck _ c (by omega) (by omega) (by omega) (by omega),Ck _ d (by omega) (by omega) (by omega) (by omega)]
   unfold gS
   congr 1
   omega
 ·refine .inr ⟨hg, ?_⟩
  by_cases h4:ws.length=4
  ·obtain⟨w,hw⟩:=qu (F:=λ_ w a=>bif dP w&&decide (ws.length=4)then .next (bits .or .i64 (IntKind.wrap .i64 (a*256)) ((val w 0:Nat):Int))else .out a) (p:=dP) (λj w a h=>by simp[h]) (λj w a h=>⟨bits .or .i64 (IntKind.wrap .i64 (a*256)) ((val w 0:Nat):Int),by simp only[h,decide_eq_true h4,Bool.and_self,cond_true]⟩) ws 0 0 (by
    cases ha:ws.all dP with
    |false=>rfl
    |true=>exact absurd ⟨h4,ha⟩ hg)
   rw[hw];rfl
  ·obtain⟨w,hw⟩:=qu (F:=λ_ w a=>bif dP w&&decide (ws.length=4)then .next (bits .or .i64 (IntKind.wrap .i64 (a*256)) ((val w 0:Nat):Int))else .out a) (p:=λ_=>false) (λj w a h=>by simp[h4]) (λj w a h=>by cases h) ws 0 0 (by
    cases ws with
    |nil=>exact absurd rfl hne
    |cons _ _=>rfl)
   rw[hw];rfl
theorem cQ {w:aa}(h:iY w=true):bB (val w 0)=w:=by
 simp only[iY,Bool.and_eq_true,decide_eq_true_eq]at h
 exact xR w (by simpa using h.1.2) h.2
theorem iV:∀(k n:Nat),n<10 ^ (k+1)→(bB n).length≤k+1
 |0,n,h=>by rw[eK (by simpa using h)];simp
 |k+1,n,h=>by
  by_cases hn:n<10
  ·rw[eK hn];simp
  ·rw[ig hn,List.length_append,List.length_singleton]
   have:=iV k (n/10) (by rw[Nat.pow_succ]at h;omega)
   omega
theorem wN {n:Nat}(h:n<1000000000000):iY (bB n)=true:=by
 have h1:=iV 11 n (by simpa using h)
 have h2:1≤(bB n).length:=by
  cases hd:bB n with
  |nil=>exact absurd hd (vB n)
  |cons _ _=>simp
 simp only[iY,Bool.and_eq_true,decide_eq_true_eq]
 exact⟨⟨⟨h2,by omega⟩,by simpa using xz n⟩,pb n⟩
theorem jv {n:Nat}(h:n≤255):dP (bB n)=true:=by
 simp only[dP,Bool.and_eq_true,decide_eq_true_eq,kQ]
 exact⟨wN (by omega),h⟩
theorem fO {b:UInt8}(hb:dD b=false)(n:Nat):∀c∈bB n,c≠b:=by
 intro c hc he
 subst he
 rw[xz n c hc]at hb
 cases hb
theorem oY (n:Nat):eY 46 (cp n) []=[bB (n/16777216),bB (n/65536%256),bB (n/256%256),bB (n%256)]:=by
 have h:dD 46=false:=by decide
 unfold cp
 rw[mE 46 _ [] _ (fO h _),mE 46 _ [] _ (fO h _),mE 46 _ [] _ (fO h _),vM 46 _ [] (fO h _)]
 rfl
theorem sj (n:Nat)(h:n≤4294967295):(eY 46 (cp n) []).length=4∧(eY 46 (cp n) []).all dP=true:=by
 rw[oY]
 refine⟨rfl, ?_⟩
 simp only[List.all_cons,List.all_nil,Bool.and_true,Bool.and_eq_true]
 exact⟨jv (by omega),jv (by omega),jv (by omega),jv (by omega)⟩
theorem AX (n:Nat):cp n≠[]:=by
 unfold cp
 intro h
 simp at h
theorem Ad (s:aa)(hs:s.length≤4294967296):iR.f (s,())=dM.f (s,()):=by
 have hp:=lz s 46 hs
 rw[show(((46:UInt8).toNat:Nat):Int)=46 from rfl]at hp
 have hout:∀n:Int,(bif (s==([]:aa))then((0:Int),false)else(bif (!(bc.f (n,())==s))then(0,false)else(n,true)))=(0,false)∨(∃m:Nat,m≤4294967295∧n=m∧cp m=s):=λn=>by
  by_cases hn:0≤n∧n≤4294967295
  ·obtain⟨m,rfl⟩:=Int.eq_ofNat_of_zero_le hn.1
   by_cases he:cp m=s
   ·exact .inr ⟨m,by omega,rfl,he⟩
   ·refine .inl ?_
    rw[gQ m (by omega),show(cp m==s)=false by simpa using he]
    cases s==([]:aa)<;>rfl
  ·refine .inl ?_
   rw[re n hn]
   cases hs:s==([]:aa)with
   |true=>rfl
   |false=>
    have:(([]:aa)==s)=false:=by
     rw[beq_eq_false_iff_ne]at hs⊢
     exact λh=>hs h.symm
    rw[this];rfl
 rcases pJ s hs with⟨a,b,c,d,hc,ga,gb,gc,gd,hi⟩|⟨hb,hi⟩
 ·rw[hi]
  simp only[PX,iR,dC]
  rw[hp,hc]
  have e:∀w,dP w=true→val w 0≤255∧iY w=true:=λw h=>by simp only[dP,Bool.and_eq_true,decide_eq_true_eq]at h;exact⟨h.2,h.1⟩
  have na:=(e a ga).2
  have nb:=(e b gb).2
  have nc:=(e c gc).2
  have nd:=(e d gd).2
  have ea:=(e a ga).1
  have eb:=(e b gb).1
  have ec:=(e c gc).1
  have ed:=(e d gd).1
  have st:∀(j:Nat) (w:aa) (x:Nat),j<4→[a,b,c,d][j]? =some w→iY w=true→val w 0≤255→x<16777216→(du [a,b,c,d] (j:Int) (x:Int)).nice= .next (((x*256+val w 0:Nat)):Int):=λj w x hj hw hn hv hx=>by
   simp only[PX,du]
   rw[show decide ((j:Int)<4)=true by simp;omega,cond_true,aL,getD_some hw,jL,hn,cond_true]
   simp only[]
   rw[(eC 256).1 (by omega),ba (m:=256*_) (by omega) (by omega),ba (by omega) (by omega)]
   congr 1
   omega
  have lp:a8 (λj' a'=>(du [a,b,c,d] j' a').nice) 1 (Int.toNat ((([a,b,c,d]:List aa).length:Int)-0)) 0 0= .next ((gS (val a 0) (val b 0) (val c 0) (val d 0):Nat):Int):=by
   have s0:=st 0 a 0 (by omega) rfl na ea (by omega)
   have s1:=st 1 b (0*256+val a 0) (by omega) rfl nb eb (by omega)
   have s2:=st 2 c ((0*256+val a 0)*256+val b 0) (by omega) rfl nc ec (by omega)
   have s3:=st 3 d (((0*256+val a 0)*256+val b 0)*256+val c 0) (by omega) rfl nd ed (by omega)
   rw[bP]
   rw[show([a,b,c,d]:List aa).length=4 from rfl]
   simp only[a8]
   rw[show(0:Int)=((0:Nat):Int) from rfl,s0]
   simp only[Stp.elim]
   rw[show((0:Nat):Int)+1=((1:Nat):Int) from rfl,s1]
   simp only[Stp.elim]
   rw[show((1:Nat):Int)+1=((2:Nat):Int) from rfl,s2]
   simp only[Stp.elim]
   rw[show((2:Nat):Int)+1=((3:Nat):Int) from rfl,s3]
   simp only[Stp.elim]
   unfold gS
   rw[Nat.zero_mul,Nat.zero_add]
  rw[lp]
  have hj:=iP 46 s []
  rw[hc,List.nil_append]at hj
  have ht:cp (gS (val a 0) (val b 0) (val c 0) (val d 0))=s:=by
   rw[←hj]
   have n1:gS (val a 0) (val b 0) (val c 0) (val d 0)/16777216=val a 0:=by unfold gS;omega
   have n2:gS (val a 0) (val b 0) (val c 0) (val d 0)/65536%256=val b 0:=by unfold gS;omega
   have n3:gS (val a 0) (val b 0) (val c 0) (val d 0)/256%256=val c 0:=by unfold gS;omega
   have n4:gS (val a 0) (val b 0) (val c 0) (val d 0)%256=val d 0:=by unfold gS;omega
   unfold cp
   rw[n1,n2,n3,n4,cQ na,cQ nb,cQ nc,cQ nd]
   rfl
  simp only[Stp.elim,PX]
  rw[gQ _ (by unfold gS;omega),ht,show(s==([]:aa))=false by rw[beq_eq_false_iff_ne,←ht];exact AX _,beq_self_eq_true]
  rfl
 ·rw[hi]
  simp only[PX,iR,dC]
  rw[hp]
  have fin:∀n:Int,(bif (bif (s==([]:aa))then(true,())else(!(bc.f (n,())==s),())).fst then((0:Int),false)else(n,true))=(0,false):=λn=>by
   refine Eq.trans (b:=bif (s==([]:aa))then((0:Int),false)else bif (!(bc.f (n,())==s))then(0,false)else(n,true)) (by cases s==([]:aa)<;>rfl) ?_
   rcases hout n with h|⟨m,hm,rfl,he⟩
   ·exact h
   ·exfalso
    have:=sj m hm
    rw[he]at this
    exact hb this
  cases a8 (λj' a'=>(du (eY 46 s []) j' a').nice) 1 (Int.toNat (((eY 46 s []).length:Int)-0)) 0 0 with
  |next a=>exact fin a
  |out a=>exact fin a
theorem BE (n:Int):bj.f (n,16,())=(decide (0≤n)&&decide (n≤65535)):=by
 exact wQ n
theorem uM (n:Int):bj.f (n,32,())=(decide (0≤n)&&decide (n≤4294967295)):=by
 exact ko n
theorem eg (t:Tupl):aG.f (t,())=((decide (0≤t.ip)&&decide (t.ip≤4294967295))&&((decide (0≤t.port)&&decide (t.port≤65535))&&(decide (0≤t.my)&&decide (t.my≤65535)))):=by
 simp only[PX,aG]
 simp only[PX,BE,uM]
 cases(decide (0≤t.ip)&&decide (t.ip≤4294967295))<;>cases(decide (0≤t.port)&&decide (t.port≤65535))<;>rfl
def ij (a b c:Nat):aa:=cp a++58::(bB b++58::bB c)
theorem eW (a b c:Nat)(ha:a≤4294967295)(hb:b≤65535)(hc:c≤65535):bD.f (⟨a,b,c⟩,())=ij a b c:=by
 simp only[PX,bD]
 rw[lf,eg]
 simp only[PX,decide_eq_true (show(0:Int)≤a by omega),decide_eq_true (show(a:Int)≤4294967295 by omega),decide_eq_true (show(0:Int)≤b by omega),decide_eq_true (show(b:Int)≤65535 by omega),decide_eq_true (show(0:Int)≤c by omega),decide_eq_true (show(c:Int)≤65535 by omega),Bool.and_self,Bool.not_true,cond_false]
 rw[gQ a ha,iQ b (by omega),iQ c (by omega)]
 unfold ij
 simp only[List.append_assoc,List.cons_append,List.nil_append]
theorem eQ (t:Tupl)(h:aG.f (t,())=false):bD.f (t,())=[]:=by
 simp only[PX,bD]
 rw[lf]
 simp only[PX,h,Bool.not_false,cond_true]
theorem yR (n:Nat):∀c∈cp n,c≠58:=by
 have h:dD 58=false:=by decide
 unfold cp
 intro c hc
 simp only[List.mem_append,List.mem_cons]at hc
 rcases hc with hc|rfl|hc|rfl|hc|rfl|hc
 ·exact fO h _ c hc
 ·decide
 ·exact fO h _ c hc
 ·decide
 ·exact fO h _ c hc
 ·decide
 ·exact fO h _ c hc
theorem uR (a b c:Nat):eY 58 (ij a b c) []=[cp a,bB b,bB c]:=by
 have h:dD 58=false:=by decide
 unfold ij
 rw[mE 58 _ [] _ (yR a),mE 58 _ [] _ (fO h _),vM 58 _ [] (fO h _)]
 rfl
theorem jO (n:Nat)(h:n≤255):(bB n).length≤3:=iV 2 n (by omega)

end
end Go.Proofs.YtfpdenjmlnhnnaaGreatDoor
