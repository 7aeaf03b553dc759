/- Plain laws of the loops and of the numbers. Nothing of the dump is named here. -/
import Derived.Test.YtfpdenjmlnhnnaaDoorEnt
import Derived.Laws.BitsLemmas
set_option linter.unusedVariables false
set_option linter.unusedSimpArgs false
namespace Go.Proofs.YtfpdenjmlnhnnaaDoor
open Go
section
variable {T A W:Type}
def cm (F:Nat→T→A→Stp A W):Nat→List T→A→Stp A W
 |_,[],a=> .next a
 |j,x::r,a=>Stp.elim (λa'=>cm F (j+1) r a') (λw=> .out w) (F j x a)
theorem lV {f:Int→A→Stp A W}{F:Nat→T→A→Stp A W}{xs:List T}(hf:∀(j:Nat) x a,xs[j]? =some x→f j a=F j x a):∀(r:List T) (j:Nat) (a:A),(∀i,r[i]? =xs[j+i]?)→aJ f 1 r.length (j:Int) a=cm F j r a
 |[],_,_,_=>rfl
 |x::r,j,a,h=>by
  have hx:xs[j]? =some x:=by have:=h 0;simpa using this.symm
  simp only[List.length_cons,aJ,cm,hf j x a hx]
  cases F j x a with
  |out w=>rfl
  |next a'=>
   simp only[Stp.elim]
   have:=lV hf r (j+1) a' (λi=>by have:=h (i+1);simp only[List.getElem?_cons_succ]at this;rw[this];congr 1;omega)
   rw[←this]
   congr 1
theorem ck {f:Int→A→Stp A W}{F:Nat→T→A→Stp A W}(xs:List T)(a:A){k:Nat}(hk:k=xs.length)(hf:∀(j:Nat) x a,xs[j]? =some x→f j a=F j x a):aJ f 1 k 0 a=cm F 0 xs a:=by
 subst hk
 exact lV hf xs 0 a (λi=>by rw[Nat.zero_add])
theorem ut {f g:Int→A→Stp A W}{st:Int}(h:∀i a,f i a=g i a):∀k i a,aJ f st k i a=aJ g st k i a:=by
 have:f=g:=by funext i a;exact h i a
 intro k i a;rw[this]
theorem lv {p:T→Bool}{w:Nat→T→W}:∀(r:List T) (j:Nat),cm (A:=Unit) (λj x _=>bif p x then .out (w j x)else .next ()) j r ()=match r.findIdx? p with
  |some i=>(match r[i]? with|some x=> .out (w (j+i) x)|none=> .next ())
  |none=> .next ()
 |[],_=>rfl
 |x::r,j=>by
  simp only[cm,List.findIdx?_cons]
  cases hp:p x with
  |true=>simp[Stp.elim]
  |false=>
   simp only[cond_false,Stp.elim,lv r (j+1),Bool.false_eq_true,if_false]
   cases r.findIdx? p with
   |none=>rfl
   |some i=>
    simp only[Option.map_some,List.getElem?_cons_succ]
    cases r[i]? with
    |none=>rfl
    |some y=>simp only[];congr 2;omega
end
theorem f4 (xs:List Int):(a7 xs).length=xs.length:=by simp[a7]
theorem qg (s:aa):(cX s).length=s.length:=by simp[cX]
theorem oA (s:aa)(i:Nat):0≤aq s i∧aq s i≤255:=by
 unfold aq
 have:=(s.getD i 0).toNat_lt
 omega
theorem ph (x:Int){m:Int}:0≤bits .and .u64 x m:=(pT .and .u64 _ _ (.inl rfl)).1
theorem jG {T:Type}{p:T→Prop}{xs:List T}{d:T}(hd:p d)(h:∀y∈xs,p y)(k:Nat):p (xs.getD k d):=by
 rw[List.getD]
 cases hk:xs[k]? with
 |none=>exact hd
 |some y=>exact h y (List.mem_of_getElem? hk)
theorem bd (n:Nat):Int.toNat ((n:Int)-0)=n:=by simp
theorem getD_some {T:Type}{xs:List T}{j:Nat}{x d:T}(h:xs[j]? =some x):xs.getD j d=x:=by simp[List.getD,h]
theorem az (n:Nat):((n:Int)).toNat=n:=by simp
theorem lr (m:Int):IntKind.i64.wrap m=(m+9223372036854775808)%18446744073709551616-9223372036854775808:=by
 unfold IntKind.wrap
 simp only[IntKind.signed,IntKind.bits]
 simp
 omega
theorem mD (m:Int):IntKind.u64.wrap m=m%18446744073709551616:=by
 unfold IntKind.wrap
 simp[IntKind.signed,IntKind.bits]
theorem fH (m:Int):IntKind.u8.wrap m=m%256:=by
 unfold IntKind.wrap
 simp[IntKind.signed,IntKind.bits]
theorem u6 (n:Int):bits .and .i64 n 4294967295=n%4294967296:=by
 have h:(BitVec.ofInt 64 4294967295).toNat=2 ^ 32-1:=by decide
 have key:(BitVec.ofInt 64 n&&& BitVec.ofInt 64 4294967295).toNat=(n%((2 ^ 64:Nat):Int)).toNat%2 ^ 32:=by
  rw[BitVec.toNat_and,BitVec.toNat_ofInt,h,Nat.and_two_pow_sub_one_eq_mod]
 show IntKind.i64.wrap ((BitVec.ofInt 64 n&&& BitVec.ofInt 64 4294967295).toNat:Nat)=n%4294967296
 rw[key,lr]
 omega
theorem ra (n:Int):bits .and .i64 n 255=n%256:=by
 have h:(BitVec.ofInt 64 255).toNat=2 ^ 8-1:=by decide
 have key:(BitVec.ofInt 64 n&&& BitVec.ofInt 64 255).toNat=(n%((2 ^ 64:Nat):Int)).toNat%2 ^ 8:=by
  rw[BitVec.toNat_and,BitVec.toNat_ofInt,h,Nat.and_two_pow_sub_one_eq_mod]
 show IntKind.i64.wrap ((BitVec.ofInt 64 n&&& BitVec.ofInt 64 255).toNat:Nat)=n%256
 rw[key,lr]
 omega
theorem z6 (n:Int):0≤bits .and .i64 n 255∧bits .and .i64 n 255≤255:=by
 rw[ra];omega
theorem yH {a b:Int}(h:0≤a):0≤a.tmod b:=Int.tmod_nonneg b h
theorem y2 {a b:Int}(h:0<b):a.tmod b<b:=Int.tmod_lt_of_pos a h
theorem zv {m:Int}(h:mJ .i64 m): -9223372036854775808≤m∧m≤9223372036854775807:=by
 obtain⟨h1,h2⟩:=h
 exact⟨by simpa [IntKind.min,IntKind.signed,IntKind.bits]using h1,by rw[IntKind.max_i64]at h2;omega⟩
theorem ic {a:Int}(b:Int):(0≤a→a.tmod b=a%b)∧(a<0→a.tmod b= -((-a)%b)):=by
 refine⟨λh=>Int.tmod_eq_emod_of_nonneg h,λh=> ?_⟩
 rw[←Int.tmod_eq_emod_of_nonneg (by omega:0≤-a),Int.neg_tmod,Int.neg_neg]
theorem gU {a:Int}(b:Int):(0≤a→a.tdiv b=a/b)∧(a<0→a.tdiv b= -((-a)/b)):=by
 refine⟨λh=>Int.tdiv_eq_ediv_of_nonneg h,λh=> ?_⟩
 rw[←Int.tdiv_eq_ediv_of_nonneg (by omega:0≤-a),Int.neg_tdiv,Int.neg_neg]
theorem xC:aO=140737488355328:=rfl
theorem wD:au=4611686018427387904:=rfl
theorem zR (a b:Nat):(Nat.ble a b=true)=(a≤b):=by simp
theorem wi (m:Int):IntKind.u64.wrap m=IntKind.u64.wrap m%18446744073709551616:=by rw[mD];omega
theorem v7 (m:Int):IntKind.u8.wrap m=IntKind.u8.wrap m%256:=by rw[fH];omega
theorem un (s:aa)(i:Nat):aq s i=aq s i%256:=by have:=oA s i;omega
theorem xP (x:Int):bits .and .u64 x 63=((bits .and .u64 x 63).toNat:Int):=by have:=ph x (m:=63);omega
theorem zA {a b:Int}(h:0≤a)(hb:0<b):a.tmod b=min (max 0 (a.tmod b)) (b-1):=by
 have:=yH (b:=b) h
 have:=y2 (a:=a) hb
 omega
theorem sB {m:Int}(h:0≤m)(h2:m≤18446744073709551615):IntKind.u64.wrap m=m:=by rw[mD];omega
attribute [grind=] zA wi v7 un xP ra u6
attribute [grind=] xC wD zR f4 qg List.length_set av Sum.elim_inl Sum.elim_inr
@[grind] def sS {α:Type} (xs:List α):Prop:=xs.length≤4294967296
@[grind] def wS {α:Type} (xs:List α):Prop:=xs.length≤8589934592
def bX {α:Type}(p:α→Prop)(xs:List α):Prop:=∀y∈xs,p y
@[grind] def sL {α:Type} (p:α→Prop) (xs:List α):Prop:=xs.length≤4294967296∧bX p xs
section
variable {α:Type} {p:α→Prop}
@[grind=] theorem AD:bX p []=True:=by simp[bX]
@[grind=] theorem Ao (x:α) (xs:List α):bX p (x::xs)=(p x∧bX p xs):=by simp[bX]
@[grind=] theorem zz (xs ys:List α):bX p (xs++ys)=(bX p xs∧bX p ys):=by
 simp only[bX,List.mem_append,eq_iff_iff]
 exact⟨λh=>⟨λy hy=>h y (.inl hy),λy hy=>h y (.inr hy)⟩,λh y hy=>hy.elim (h.1 y) (h.2 y)⟩
theorem tl {xs ys:List α}(h:bX p xs)(hs:∀y∈ys,y∈xs):bX p ys:=λy hy=>h y (hs y hy)
@[grind ←] theorem Au {xs:List α} {n:Nat} (h:bX p xs):bX p (xs.take n):=tl h λ_ hy=>List.mem_of_mem_take hy
@[grind ←] theorem Aq {xs:List α} {n:Nat} (h:bX p xs):bX p (xs.drop n):=tl h λ_ hy=>List.mem_of_mem_drop hy
@[grind ←] theorem AF {xs:List α} {n:Nat} {x:α} (h:bX p xs) (hx:p x):bX p (xs.set n x):=λy hy=>(List.mem_or_eq_of_mem_set hy).elim (h y) λe=>e▸hx
@[grind ←] theorem yp {n:Nat} {x:α} (hx:p x):bX p (List.replicate n x):=λy hy=>(List.mem_replicate.1 hy).2▸hx
theorem gf {xs:List α}{d:α}(h:bX p xs)(hd:p d)(i:Nat):p (xs.getD i d):=jG hd h i
def yY {α:Type}(a:α)(q:Prop):α:=a
@[grind=] theorem AL (xs:List aa) (i:Nat):xs.getD i []=yY (xs.getD i []) (sS (xs.getD i [])):=rfl
@[grind! .] theorem AG {xs:List aa} (h:bX sS xs) (i:Nat):sS (xs.getD i []):=gf h (Nat.zero_le _) i
end
theorem PX:(∀{A R:Type} {p:A→Prop} {q:A→R→Prop} (T:A→Tr R) (h:∀a,p a→(T a).okQ (q a)) (a:A),FT.f (FT.mk T h) a=(T a).nice)∧
  (∀{A R:Type} (T:A→Tr R) (a:A),FF.f (FF.mk T) a=(T a).nice)∧
  (∀{A R:Type} {p:A→Prop} {q:A→R→Prop} (X:FT A R p q) (a:A),Fnc.f X.c a=X.f a)∧
  (∀{α:Type} (a:α),(Tr.ret a).nice=a)∧
  (∀{α:Type} (b:Bool) (t e:Tr α),(Tr.ite b t e).nice=bif b then t.nice else e.nice)∧
  (∀{α:Type} (b:Bool) (t:Tr α),(Tr.grd b t).nice=t.nice)∧
  (∀{α:Type} (b:Bool) (t:Tr α),(Tr.ngd b t).nice=t.nice)∧
  (∀{α β:Type} (e:β) (k:β→Tr α),(Tr.val e k).nice=(k e).nice)∧
  (∀{α A R:Type} {p:A→Prop} {q:A→R→Prop} (X:Fnc A R p q) (a:A) (k:R→Tr α),(Tr.cal X a k).nice=(k (X.f a)).nice)∧
  (∀{sh:Sh} {α A P W:Type} (d:LC sh A P W) (k:W→Tr α),(Tr.lp d.lp k).nice=Stp.elim (λa=>(k (d.e (d.i+d.st*(d.k:Int)) a)).nice) (λp=>(k (d.p p)).nice) (aJ (λj a=>(d.T j a).nice) d.st d.k d.i d.a))∧
  (∀{sh:Sh} {α A P:Type} [Inhabited P] (d:LW sh A P) (k:P→Tr α),(Tr.lp d.lp k).nice=(k (iG (λa=>(d.T a).nice) (d.k+1) d.a)).nice)∧
  (∀{α β:Type} (t:Tr β) (k:β→Tr α),(Tr.bnd t k).nice=(k t.nice).nice)∧
  (∀{α:Type} (t:Tr α) (Q:α→Prop),(Tr.as Q t).nice=t.nice)∧
  (∀{α β δ:Type} (x:β) (f:β→Tr α) (g:δ→Tr α),(Tr.sum (.inl x) f g).nice=(f x).nice)∧
  (∀{α β δ:Type} (x:δ) (f:β→Tr α) (g:δ→Tr α),(Tr.sum (.inr x) f g).nice=(g x).nice)∧
  (∀{α β A:Type} (i:Int) (a:A) (f:β→Tr α) (g:Int×A→Tr α),(Tr.sum (eR i a) f g).nice=(g (i,a)).nice):=
 ⟨λ_ _ _=>rfl,λ_ _=>rfl,λ_ _=>rfl,λ_=>rfl,λ_ _ _=>rfl,λ_ _=>rfl,λ_ _=>rfl,λ_ _=>rfl,λ_ _ _=>rfl,λ_ _=>rfl,λ_ _=>rfl,λ_ _=>rfl,λ_ _=>rfl,λ_ _ _=>rfl,λ_ _ _=>rfl,λ_ _ _ _=>rfl⟩
theorem ud {A W:Type}{f g:Int→A→Stp A W}:∀(k:Nat) (i:Nat) (a:A),(∀j a,j<i+k→f (j:Int) a=g (j:Int) a)→aJ f 1 k (i:Int) a=aJ g 1 k (i:Int) a
 |0,_,_,_=>rfl
 |k+1,i,a,h=>by
  simp only[aJ,h i a (by omega)]
  cases g (i:Int) a with
  |out w=>rfl
  |next a'=>simp only[Stp.elim];rw[show((i:Int)+1)=((i+1:Nat):Int) by omega];exact ud k (i+1) a' (λj a hj=>h j a (by omega))
end Go.Proofs.YtfpdenjmlnhnnaaDoor
