/- Plain laws of the loops and of the numbers. Nothing of the dump is named here. -/
import Derived.Test.YtjejapbinelgeaaGreatEnt
import Derived.Laws.BitsLemmas
set_option linter.unusedVariables false
set_option linter.unusedSimpArgs false
namespace Go.Proofs.YtjejapbinelgeaaGreat
open Go
section
variable {T A W:Type}
def listN (F:Nat→T→A→Stp A W):Nat→List T→A→Stp A W
 |_,[],a=> .next a
 |j,x::r,a=>Stp.elim (fun a'=>listN F (j+1) r a') (fun w=> .out w) (F j x a)
theorem forN_list_at {f:Int→A→Stp A W}{F:Nat→T→A→Stp A W}{xs:List T}(hf:∀(j:Nat) x a,xs[j]? =some x→f j a=F j x a):∀(r:List T) (j:Nat) (a:A),(∀i,r[i]? =xs[j+i]?)→forN f 1 r.length (j:Int) a=listN F j r a
 |[],_,_,_=>rfl
 |x::r,j,a,h=>by
  have hx:xs[j]? =some x:=by have:=h 0;simpa using this.symm
  simp only[List.length_cons,forN,listN,hf j x a hx]
  cases F j x a with
  |out w=>rfl
  |next a'=>
   simp only[Stp.elim]
   have:=forN_list_at hf r (j+1) a' (fun i=>by have:=h (i+1);simp only[List.getElem?_cons_succ]at this;rw[this];congr 1;omega)
   rw[←this]
   congr 1
theorem forN_list {f:Int→A→Stp A W}{F:Nat→T→A→Stp A W}(xs:List T)(a:A){k:Nat}(hk:k=xs.length)(hf:∀(j:Nat) x a,xs[j]? =some x→f j a=F j x a):forN f 1 k 0 a=listN F 0 xs a:=by
 subst hk
 exact forN_list_at hf xs 0 a (fun i=>by rw[Nat.zero_add])
theorem forN_congr {f g:Int→A→Stp A W}{st:Int}(h:∀i a,f i a=g i a):∀k i a,forN f st k i a=forN g st k i a:=by
 have:f=g:=by funext i a;exact h i a
 intro k i a;rw[this]
theorem listN_fill {T':Type}(g:T→T'):∀(r:List T) (j:Nat) (a:List T'),a.length=j+r.length→listN (W:=W) (fun j x (a:List T')=> .next (a.set j (g x))) j r a= .next (a.take j++r.map g)
 |[],j,a,h=>by simp only[listN,List.map_nil,List.append_nil];rw[List.take_of_length_le (by simpa using Nat.le_of_eq h)]
 |x::r,j,a,h=>by
  simp only[listN,Stp.elim]
  rw[listN_fill g r (j+1) _ (by simp only[List.length_set,List.length_cons]at h⊢;omega)]
  congr 1
  have hj:j<a.length:=by rw[h];simp
  rw[List.take_succ_eq_append_getElem (by simpa using hj)]
  simp[List.take_set_of_le]
theorem listN_find {p:T→Bool}{w:Nat→T→W}:∀(r:List T) (j:Nat),listN (A:=Unit) (fun j x _=>bif p x then .out (w j x)else .next ()) j r ()=match r.findIdx? p with
  |some i=>(match r[i]? with|some x=> .out (w (j+i) x)|none=> .next ())
  |none=> .next ()
 |[],_=>rfl
 |x::r,j=>by
  simp only[listN,List.findIdx?_cons]
  cases hp:p x with
  |true=>simp[Stp.elim]
  |false=>
   simp only[cond_false,Stp.elim,listN_find r (j+1),Bool.false_eq_true,if_false]
   cases r.findIdx? p with
   |none=>rfl
   |some i=>
    simp only[Option.map_some,List.getElem?_cons_succ]
    cases r[i]? with
    |none=>rfl
    |some y=>simp only[];congr 2;omega
theorem listN_all {p:T→Bool}{w:Nat→T→W}(r:List T)(j:Nat)(h:∀x∈r,p x=false):listN (A:=Unit) (fun j x _=>bif p x then .out (w j x)else .next ()) j r ()= .next ():=by
 rw[listN_find]
 rw[List.findIdx?_eq_none_iff.2 (by simpa using h)]
end
theorem toBytes_length (xs:List Int):(toBytes xs).length=xs.length:=by simp[toBytes]
theorem toInts_length (s:Bytes):(toInts s).length=s.length:=by simp[toInts]
theorem whileN_more {A W:Type}[Inhabited W]{f:A→Stp A W}{Inv:A→Prop}{meas:A→Nat}(h:∀a,Inv a→∀a',f a= .next a'→Inv a'∧meas a'<meas a):∀(m m':Nat) (a:A),meas a<m→meas a<m'→Inv a→whileN f m a=whileN f m' a
 |0,_,_,hm,_,_=>absurd hm (Nat.not_lt_zero _)
 |_+1,0,_,_,hm,_=>absurd hm (Nat.not_lt_zero _)
 |m+1,m'+1,a,h1,h2,hi=>by
  simp only[whileN]
  cases hf:f a with
  |out w=>rfl
  |next a'=>
   obtain⟨h3,h4⟩:=h a hi a' hf
   simp only[Stp.elim]
   exact whileN_more h m m' a' (by omega) (by omega) h3
theorem whileN_post {A W:Type}[Inhabited W]{f:A→Stp A W}{Inv:A→Prop}{Q:W→Prop}{meas:A→Nat}(h:∀a,Inv a→∀a',f a= .next a'→Inv a'∧meas a'<meas a)(hq:∀a,Inv a→∀w,f a= .out w→Q w):∀(m:Nat) (a:A),meas a<m→Inv a→Q (whileN f m a)
 |0,_,hm,_=>absurd hm (Nat.not_lt_zero _)
 |m+1,a,hm,hi=>by
  simp only[whileN]
  cases hf:f a with
  |out w=>exact hq a hi w hf
  |next a'=>
   obtain⟨h3,h4⟩:=h a hi a' hf
   exact whileN_post h hq m a' (by omega) h3
theorem byteAt_rng (s:Bytes)(i:Nat):0≤byteAt s i∧byteAt s i≤255:=by
 unfold byteAt
 have:=(s.getD i 0).toNat_lt
 omega
theorem inKU64 {n:Int}(h:inK .u64 n):0≤n∧n≤18446744073709551615:=⟨h.1,h.2⟩
theorem andMask_nonneg (x:Int){m:Int}:0≤bits .and .u64 x m:=(inK_bits .and .u64 _ _ (.inl rfl)).1
theorem getD_all {T:Type}{p:T→Prop}{xs:List T}{d:T}(hd:p d)(h:∀y∈xs,p y)(k:Nat):p (xs.getD k d):=by
 rw[List.getD]
 cases hk:xs[k]? with
 |none=>exact hd
 |some y=>exact h y (List.mem_of_getElem? hk)
theorem getD_len {xs:List Bytes}{n:Nat}(h:∀y∈xs,List.length y≤n)(k:Nat):(xs.getD k []).length≤n:=getD_all (p:=fun y=>List.length y≤n) (Nat.zero_le _) h k
theorem letK_eq {α γ:Type}(e:α)(k:α→γ):letK e k=k e:=(rfl)
theorem toNat_sub0 (n:Nat):Int.toNat ((n:Int)-0)=n:=by simp
theorem getD_some {T:Type}{xs:List T}{j:Nat}{x d:T}(h:xs[j]? =some x):xs.getD j d=x:=by simp[List.getD,h]
theorem toNat_cast (n:Nat):((n:Int)).toNat=n:=by simp
theorem wrap64_def (m:Int):IntKind.i64.wrap m=(m+9223372036854775808)%18446744073709551616-9223372036854775808:=by
 unfold IntKind.wrap
 simp only[IntKind.signed,IntKind.bits]
 simp
 omega
theorem wrapU_def (m:Int):IntKind.u64.wrap m=m%18446744073709551616:=by
 unfold IntKind.wrap
 simp[IntKind.signed,IntKind.bits]
theorem wrap8_def (m:Int):IntKind.u8.wrap m=m%256:=by
 unfold IntKind.wrap
 simp[IntKind.signed,IntKind.bits]
theorem i64_mask32 (n:Int):bits .and .i64 n 4294967295=n%4294967296:=by
 have h:(BitVec.ofInt 64 4294967295).toNat=2 ^ 32-1:=by decide
 have key:(BitVec.ofInt 64 n&&& BitVec.ofInt 64 4294967295).toNat=(n%((2 ^ 64:Nat):Int)).toNat%2 ^ 32:=by
  rw[BitVec.toNat_and,BitVec.toNat_ofInt,h,Nat.and_two_pow_sub_one_eq_mod]
 show IntKind.i64.wrap ((BitVec.ofInt 64 n&&& BitVec.ofInt 64 4294967295).toNat:Nat)=n%4294967296
 rw[key,wrap64_def]
 omega
theorem i64_mask8 (n:Int):bits .and .i64 n 255=n%256:=by
 have h:(BitVec.ofInt 64 255).toNat=2 ^ 8-1:=by decide
 have key:(BitVec.ofInt 64 n&&& BitVec.ofInt 64 255).toNat=(n%((2 ^ 64:Nat):Int)).toNat%2 ^ 8:=by
  rw[BitVec.toNat_and,BitVec.toNat_ofInt,h,Nat.and_two_pow_sub_one_eq_mod]
 show IntKind.i64.wrap ((BitVec.ofInt 64 n&&& BitVec.ofInt 64 255).toNat:Nat)=n%256
 rw[key,wrap64_def]
 omega
theorem and255 (n:Int):0≤bits .and .i64 n 255∧bits .and .i64 n 255≤255:=by
 rw[i64_mask8];omega
theorem tmod_nn {a b:Int}(h:0≤a):0≤a.tmod b:=Int.tmod_nonneg b h
theorem tmod_lt {a b:Int}(h:0<b):a.tmod b<b:=Int.tmod_lt_of_pos a h
theorem inK64 {m:Int}(h:inK .i64 m): -9223372036854775808≤m∧m≤9223372036854775807:=by
 obtain⟨h1,h2⟩:=h
 exact⟨by simpa [IntKind.min,IntKind.signed,IntKind.bits]using h1,by rw[IntKind.max_i64]at h2;omega⟩
theorem tmod_pos {a:Int}(b:Int):(0≤a→a.tmod b=a%b)∧(a<0→a.tmod b= -((-a)%b)):=by
 refine⟨fun h=>Int.tmod_eq_emod_of_nonneg h,fun h=> ?_⟩
 rw[←Int.tmod_eq_emod_of_nonneg (by omega:0≤-a),Int.neg_tmod,Int.neg_neg]
theorem tdiv_pos {a:Int}(b:Int):(0≤a→a.tdiv b=a/b)∧(a<0→a.tdiv b= -((-a)/b)):=by
 refine⟨fun h=>Int.tdiv_eq_ediv_of_nonneg h,fun h=> ?_⟩
 rw[←Int.tdiv_eq_ediv_of_nonneg (by omega:0≤-a),Int.neg_tdiv,Int.neg_neg]
theorem maxSl_eq:maxSl=140737488355328:=rfl
theorem maxStr_eq:maxStr=4611686018427387904:=rfl
theorem ble_le (a b:Nat):(Nat.ble a b=true)=(a≤b):=by simp
theorem wrapU_mod (m:Int):IntKind.u64.wrap m=IntKind.u64.wrap m%18446744073709551616:=by rw[wrapU_def];omega
theorem wrap8_mod (m:Int):IntKind.u8.wrap m=IntKind.u8.wrap m%256:=by rw[wrap8_def];omega
theorem byteAt_mod (s:Bytes)(i:Nat):byteAt s i=byteAt s i%256:=by have:=byteAt_rng s i;omega
theorem and63_nn (x:Int):bits .and .u64 x 63=((bits .and .u64 x 63).toNat:Int):=by have:=andMask_nonneg x (m:=63);omega
theorem tmod_b {a b:Int}(h:0≤a)(hb:0<b):a.tmod b=min (max 0 (a.tmod b)) (b-1):=by
 have:=tmod_nn (b:=b) h
 have:=tmod_lt (a:=a) hb
 omega
theorem emod_b {a b:Int}(hb:0<b):a%b=min (max 0 (a%b)) (b-1):=by
 have:=Int.emod_nonneg a (show b≠0 by omega)
 have:=Int.emod_lt_of_pos a hb
 omega
theorem wrapU_id {m:Int}(h:0≤m)(h2:m≤18446744073709551615):IntKind.u64.wrap m=m:=by rw[wrapU_def];omega
theorem fold_step {n:Int}(h:65536≤n)(h2:n≤9223372036854775807):IntKind.wrap .i64 (IntKind.wrap .i64 (n.tdiv 65536)+n.tmod 65536)=n/65536+n%65536:=by
 rw[(tmod_pos 65536).1 (by omega),(tdiv_pos 65536).1 (by omega),wrap64 (m:=n/65536) (by omega) (by omega),wrap64 (by omega) (by omega)]
attribute [grind=] tmod_b wrapU_mod wrap8_mod byteAt_mod and63_nn i64_mask8 i64_mask32
attribute [grind=] maxSl_eq maxStr_eq ble_le toBytes_length toInts_length List.length_set wrap64 Sum.elim_inl Sum.elim_inr
@[grind] def sS {α:Type} (xs:List α):Prop:=xs.length≤4294967296
@[grind] def wS {α:Type} (xs:List α):Prop:=xs.length≤8589934592
def smE {α:Type}(p:α→Prop)(xs:List α):Prop:=∀y∈xs,p y
@[grind] def sL {α:Type} (p:α→Prop) (xs:List α):Prop:=xs.length≤4294967296∧smE p xs
section
variable {α:Type} {p:α→Prop}
@[grind=] theorem smE_nil:smE p []=True:=by simp[smE]
@[grind=] theorem smE_cons (x:α) (xs:List α):smE p (x::xs)=(p x∧smE p xs):=by simp[smE]
@[grind=] theorem smE_append (xs ys:List α):smE p (xs++ys)=(smE p xs∧smE p ys):=by
 simp only[smE,List.mem_append,eq_iff_iff]
 exact⟨fun h=>⟨fun y hy=>h y (.inl hy),fun y hy=>h y (.inr hy)⟩,fun h y hy=>hy.elim (h.1 y) (h.2 y)⟩
theorem smE_mono {xs ys:List α}(h:smE p xs)(hs:∀y∈ys,y∈xs):smE p ys:=fun y hy=>h y (hs y hy)
@[grind ←] theorem smE_take {xs:List α} {n:Nat} (h:smE p xs):smE p (xs.take n):=smE_mono h fun _ hy=>List.mem_of_mem_take hy
@[grind ←] theorem smE_drop {xs:List α} {n:Nat} (h:smE p xs):smE p (xs.drop n):=smE_mono h fun _ hy=>List.mem_of_mem_drop hy
@[grind ←] theorem smE_set {xs:List α} {n:Nat} {x:α} (h:smE p xs) (hx:p x):smE p (xs.set n x):=fun y hy=>(List.mem_or_eq_of_mem_set hy).elim (h y) fun e=>e▸hx
@[grind ←] theorem smE_replicate {n:Nat} {x:α} (hx:p x):smE p (List.replicate n x):=fun y hy=>(List.mem_replicate.1 hy).2▸hx
theorem smE_getD {xs:List α}{d:α}(h:smE p xs)(hd:p d)(i:Nat):p (xs.getD i d):=getD_all hd h i
def tagP {α:Type}(a:α)(q:Prop):α:=a
@[grind=] theorem tagStr (xs:List Bytes) (i:Nat):xs.getD i []=tagP (xs.getD i []) (sS (xs.getD i [])):=rfl
@[grind! .] theorem smE_str {xs:List Bytes} (h:smE sS xs) (i:Nat):sS (xs.getD i []):=smE_getD h (Nat.zero_le _) i
end
theorem PX:(∀{A R:Type} {p:A→Prop} {q:A→R→Prop} (T:A→Tr R) (h:∀a,p a→(T a).okQ (q a)) (a:A),FT.f (FT.mk T h) a=(T a).nice)∧
  (∀{A R:Type} (T:A→Tr R) (a:A),FF.f (FF.mk T) a=(T a).nice)∧
  (∀{A R:Type} {p:A→Prop} {q:A→R→Prop} (X:FT A R p q) (a:A),Fnc.f X.c a=X.f a)∧
  (∀{α:Type} (a:α),(Tr.ret a).nice=a)∧
  (∀{α:Type} (b:Bool) (t e:Tr α),(Tr.ite b t e).nice=bif b then t.nice else e.nice)∧
  (∀{α:Type} (b:Bool) (t:Tr α),(Tr.grd b t).nice=t.nice)∧
  (∀{α:Type} (b:Bool) (t:Tr α),(Tr.ngd b t).nice=t.nice)∧
  (∀{α β:Type} (e:β) (k:β→Tr α),(Tr.val e k).nice=(k e).nice)∧
  (∀{α A R:Type} {p:A→Prop} {q:A→R→Prop} (X:Fnc A R p q) (a:A) (k:R→Tr α),(Tr.cal X a k).nice=(k (X.f a)).nice)∧
  (∀{sh:Sh} {α A P W:Type} (d:LC sh A P W) (k:W→Tr α),(Tr.lp d.lp k).nice=Stp.elim (fun a=>(k (d.e (d.i+d.st*(d.k:Int)) a)).nice) (fun p=>(k (d.p p)).nice) (forN (fun j a=>(d.T j a).nice) d.st d.k d.i d.a))∧
  (∀{sh:Sh} {α A P:Type} [Inhabited P] (d:LW sh A P) (k:P→Tr α),(Tr.lp d.lp k).nice=(k (whileN (fun a=>(d.T a).nice) (d.k+1) d.a)).nice)∧
  (∀{α β:Type} (t:Tr β) (k:β→Tr α),(Tr.bnd t k).nice=(k t.nice).nice)∧
  (∀{α β δ:Type} (x:β) (f:β→Tr α) (g:δ→Tr α),(Tr.sum (.inl x) f g).nice=(f x).nice)∧
  (∀{α β δ:Type} (x:δ) (f:β→Tr α) (g:δ→Tr α),(Tr.sum (.inr x) f g).nice=(g x).nice):=
 ⟨fun _ _ _=>rfl,fun _ _=>rfl,fun _ _=>rfl,fun _=>rfl,fun _ _ _=>rfl,fun _ _=>rfl,fun _ _=>rfl,fun _ _=>rfl,fun _ _ _=>rfl,fun _ _=>rfl,fun _ _=>rfl,fun _ _=>rfl,fun _ _ _=>rfl,fun _ _ _=>rfl⟩
theorem forN_congrI {A W:Type}{f g:Int→A→Stp A W}{st:Int}{P:A→Prop}(h:∀i a,P a→f i a=g i a)(hp:∀i a a',P a→f i a= .next a'→P a'):∀(k:Nat) (i:Int) (a:A),P a→forN f st k i a=forN g st k i a
 |0,_,_,_=>rfl
 |k+1,i,a,ha=>by
  simp only[forN,←h i a ha]
  cases hf:f i a with
  |out w=>rfl
  |next a'=>simp only[Stp.elim];exact forN_congrI h hp k _ _ (hp i a a' ha hf)
theorem forN_ext {A W:Type}{f g:Int→A→Stp A W}:∀(k:Nat) (i:Nat) (a:A),(∀j a,j<i+k→f (j:Int) a=g (j:Int) a)→forN f 1 k (i:Int) a=forN g 1 k (i:Int) a
 |0,_,_,_=>rfl
 |k+1,i,a,h=>by
  simp only[forN,h i a (by omega)]
  cases g (i:Int) a with
  |out w=>rfl
  |next a'=>simp only[Stp.elim];rw[show((i:Int)+1)=((i+1:Nat):Int) by omega];exact forN_ext k (i+1) a' (fun j a hj=>h j a (by omega))
end Go.Proofs.YtjejapbinelgeaaGreat
