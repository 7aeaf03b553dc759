/- Plain laws of the loops and of the numbers. Nothing of the dump is named here. -/
import Derived.Test.YtbkjnlihfgkkaaaGreatEnt
import Derived.Laws.BitsLemmas
set_option linter.unusedVariables false
set_option linter.unusedSimpArgs false
namespace Go.Proofs.YtbkjnlihfgkkaaaGreat
open Go
section
variable {T A W:Type}
def eJ (F:Nat→T→A→Stp A W):Nat→List T→A→Stp A W
 |_,[],a=> .next a
 |j,x::r,a=>Stp.elim (λa'=>eJ F (j+1) r a') (λw=> .out w) (F j x a)
theorem zY {f:Int→A→Stp A W}{F:Nat→T→A→Stp A W}{xs:List T}(hf:∀(j:Nat) x a,xs[j]? =some x→f j a=F j x a):∀(r:List T) (j:Nat) (a:A),(∀i,r[i]? =xs[j+i]?)→aU f 1 r.length (j:Int) a=eJ F j r a
 |[],_,_,_=>rfl
 |x::r,j,a,h=>by
  have hx:xs[j]? =some x:=by have:=h 0;simpa using this.symm
  simp only[List.length_cons,aU,eJ,hf j x a hx]
  cases F j x a with
  |out w=>rfl
  |next a'=>
   simp only[Stp.elim]
   have:=zY hf r (j+1) a' (λi=>by have:=h (i+1);simp only[List.getElem?_cons_succ]at this;rw[this];congr 1;omega)
   rw[←this]
   congr 1
theorem bE {f:Int→A→Stp A W}{F:Nat→T→A→Stp A W}(xs:List T)(a:A){k:Nat}(hk:k=xs.length)(hf:∀(j:Nat) x a,xs[j]? =some x→f j a=F j x a):aU f 1 k 0 a=eJ F 0 xs a:=by
 subst hk
 exact zY hf xs 0 a (λi=>by rw[Nat.zero_add])
theorem Pz {f g:Int→A→Stp A W}{st:Int}(h:∀i a,f i a=g i a):∀k i a,aU f st k i a=aU g st k i a:=by
 have:f=g:=by funext i a;exact h i a
 intro k i a;rw[this]
theorem kF {T':Type}(g:T→T'):∀(r:List T) (j:Nat) (a:List T'),a.length=j+r.length→eJ (W:=W) (λj x (a:List T')=> .next (a.set j (g x))) j r a= .next (a.take j++r.map g)
 |[],j,a,h=>by simp only[eJ,List.map_nil,List.append_nil];rw[List.take_of_length_le (by simpa using Nat.le_of_eq h)]
 |x::r,j,a,h=>by
  simp only[eJ,Stp.elim]
  rw[kF g r (j+1) _ (by simp only[List.length_set,List.length_cons]at h⊢;omega)]
  congr 1
  have hj:j<a.length:=by rw[h];simp
  rw[List.take_succ_eq_append_getElem (by simpa using hj)]
  simp[List.take_set_of_le]
theorem mL {p:T→Bool}{w:Nat→T→W}:∀(r:List T) (j:Nat),eJ (A:=Unit) (λj x _=>bif p x then .out (w j x)else .next ()) j r ()=match r.findIdx? p with
  |some i=>(match r[i]? with|some x=> .out (w (j+i) x)|none=> .next ())
  |none=> .next ()
 |[],_=>rfl
 |x::r,j=>by
  simp only[eJ,List.findIdx?_cons]
  cases hp:p x with
  |true=>simp[Stp.elim]
  |false=>
   simp only[cond_false,Stp.elim,mL r (j+1),Bool.false_eq_true,if_false]
   cases r.findIdx? p with
   |none=>rfl
   |some i=>
    simp only[Option.map_some,List.getElem?_cons_succ]
    cases r[i]? with
    |none=>rfl
    |some y=>simp only[];congr 2;omega
end
theorem a9 (xs:List Int):(ay xs).length=xs.length:=by simp[ay]
theorem np (s:aA):(lV s).length=s.length:=by simp[lV]
theorem qs {A W:Type}[Inhabited W]{f:A→Stp A W}{Inv:A→Prop}{Q:W→Prop}{meas:A→Nat}(h:∀a,Inv a→∀a',f a= .next a'→Inv a'∧meas a'<meas a)(hq:∀a,Inv a→∀w,f a= .out w→Q w):∀(m:Nat) (a:A),meas a<m→Inv a→Q (cz f m a)
 |0,_,hm,_=>absurd hm (Nat.not_lt_zero _)
 |m+1,a,hm,hi=>by
  simp only[cz]
  cases hf:f a with
  |out w=>exact hq a hi w hf
  |next a'=>
   obtain⟨h3,h4⟩:=h a hi a' hf
   exact qs h hq m a' (by omega) h3
theorem GG (s:aA)(i:Nat):0≤ce s i∧ce s i≤255:=by
 unfold ce
 have:=(s.getD i 0).toNat_lt
 omega
theorem E0 (x:Int){m:Int}:0≤bits .and .u64 x m:=(Ap .and .u64 _ _ (.inl rfl)).1
theorem Lm {T:Type}{p:T→Prop}{xs:List T}{d:T}(hd:p d)(h:∀y∈xs,p y)(k:Nat):p (xs.getD k d):=by
 rw[List.getD]
 cases hk:xs[k]? with
 |none=>exact hd
 |some y=>exact h y (List.mem_of_getElem? hk)
theorem z8 {α γ:Type}(e:α)(k:α→γ):iq e k=k e:=(rfl)
theorem ar (n:Nat):Int.toNat ((n:Int)-0)=n:=by simp
theorem getD_some {T:Type}{xs:List T}{j:Nat}{x d:T}(h:xs[j]? =some x):xs.getD j d=x:=by simp[List.getD,h]
theorem aa (n:Nat):((n:Int)).toNat=n:=by simp
theorem dh (m:Int):IntKind.i64.wrap m=(m+9223372036854775808)%18446744073709551616-9223372036854775808:=by
 unfold IntKind.wrap
 simp only[IntKind.signed,IntKind.bits]
 simp
 omega
theorem xc (m:Int):IntKind.u64.wrap m=m%18446744073709551616:=by
 unfold IntKind.wrap
 simp[IntKind.signed,IntKind.bits]
theorem rt (m:Int):IntKind.u8.wrap m=m%256:=by
 unfold IntKind.wrap
 simp[IntKind.signed,IntKind.bits]
theorem qe (n:Int):bits .and .i64 n 4294967295=n%4294967296:=by
 have h:(BitVec.ofInt 64 4294967295).toNat=2 ^ 32-1:=by decide
 have key:(BitVec.ofInt 64 n&&& BitVec.ofInt 64 4294967295).toNat=(n%((2 ^ 64:Nat):Int)).toNat%2 ^ 32:=by
  rw[BitVec.toNat_and,BitVec.toNat_ofInt,h,Nat.and_two_pow_sub_one_eq_mod]
 show IntKind.i64.wrap ((BitVec.ofInt 64 n&&& BitVec.ofInt 64 4294967295).toNat:Nat)=n%4294967296
 rw[key,dh]
 omega
theorem RZ (n:Int):bits .and .i64 n 255=n%256:=by
 have h:(BitVec.ofInt 64 255).toNat=2 ^ 8-1:=by decide
 have key:(BitVec.ofInt 64 n&&& BitVec.ofInt 64 255).toNat=(n%((2 ^ 64:Nat):Int)).toNat%2 ^ 8:=by
  rw[BitVec.toNat_and,BitVec.toNat_ofInt,h,Nat.and_two_pow_sub_one_eq_mod]
 show IntKind.i64.wrap ((BitVec.ofInt 64 n&&& BitVec.ofInt 64 255).toNat:Nat)=n%256
 rw[key,dh]
 omega
theorem Jj {a b:Int}(h:0≤a):0≤a.tmod b:=Int.tmod_nonneg b h
theorem DL {a b:Int}(h:0<b):a.tmod b<b:=Int.tmod_lt_of_pos a h
theorem il {a:Int}(b:Int):(0≤a→a.tmod b=a%b)∧(a<0→a.tmod b= -((-a)%b)):=by
 refine⟨λh=>Int.tmod_eq_emod_of_nonneg h,λh=> ?_⟩
 rw[←Int.tmod_eq_emod_of_nonneg (by omega:0≤-a),Int.neg_tmod,Int.neg_neg]
theorem Ac {a:Int}(b:Int):(0≤a→a.tdiv b=a/b)∧(a<0→a.tdiv b= -((-a)/b)):=by
 refine⟨λh=>Int.tdiv_eq_ediv_of_nonneg h,λh=> ?_⟩
 rw[←Int.tdiv_eq_ediv_of_nonneg (by omega:0≤-a),Int.neg_tdiv,Int.neg_neg]
theorem SH:aM=140737488355328:=rfl
theorem Q8:dF=4611686018427387904:=rfl
theorem Wj (a b:Nat):(Nat.ble a b=true)=(a≤b):=by simp
theorem RM (m:Int):IntKind.u64.wrap m=IntKind.u64.wrap m%18446744073709551616:=by rw[xc];omega
theorem Sy (m:Int):IntKind.u8.wrap m=IntKind.u8.wrap m%256:=by rw[rt];omega
theorem PI (s:aA)(i:Nat):ce s i=ce s i%256:=by have:=GG s i;omega
theorem TT (x:Int):bits .and .u64 x 63=((bits .and .u64 x 63).toNat:Int):=by have:=E0 x (m:=63);omega
theorem Wx {a b:Int}(h:0≤a)(hb:0<b):a.tmod b=min (max 0 (a.tmod b)) (b-1):=by
 have:=Jj (b:=b) h
 have:=DL (a:=a) hb
 omega
theorem LA {m:Int}(h:0≤m)(h2:m≤18446744073709551615):IntKind.u64.wrap m=m:=by rw[xc];omega
attribute [grind=] Wx RM Sy PI TT RZ qe
attribute [grind=] SH Q8 Wj a9 np List.length_set au Sum.elim_inl Sum.elim_inr
@[grind] def sS {α:Type} (xs:List α):Prop:=xs.length≤4294967296
@[grind] def wS {α:Type} (xs:List α):Prop:=xs.length≤8589934592
def cU {α:Type}(p:α→Prop)(xs:List α):Prop:=∀y∈xs,p y
@[grind] def sL {α:Type} (p:α→Prop) (xs:List α):Prop:=xs.length≤4294967296∧cU p xs
section
variable {α:Type} {p:α→Prop}
@[grind=] theorem Xc:cU p []=True:=by simp[cU]
@[grind=] theorem WN (x:α) (xs:List α):cU p (x::xs)=(p x∧cU p xs):=by simp[cU]
@[grind=] theorem Wc (xs ys:List α):cU p (xs++ys)=(cU p xs∧cU p ys):=by
 simp only[cU,List.mem_append,eq_iff_iff]
 exact⟨λh=>⟨λy hy=>h y (.inl hy),λy hy=>h y (.inr hy)⟩,λh y hy=>hy.elim (h.1 y) (h.2 y)⟩
theorem L0 {xs ys:List α}(h:cU p xs)(hs:∀y∈ys,y∈xs):cU p ys:=λy hy=>h y (hs y hy)
@[grind ←] theorem W6 {xs:List α} {n:Nat} (h:cU p xs):cU p (xs.take n):=L0 h λ_ hy=>List.mem_of_mem_take hy
@[grind ←] theorem W5 {xs:List α} {n:Nat} (h:cU p xs):cU p (xs.drop n):=L0 h λ_ hy=>List.mem_of_mem_drop hy
@[grind ←] theorem Xb {xs:List α} {n:Nat} {x:α} (h:cU p xs) (hx:p x):cU p (xs.set n x):=λy hy=>(List.mem_or_eq_of_mem_set hy).elim (h y) λe=>e▸hx
@[grind ←] theorem Ud {n:Nat} {x:α} (hx:p x):cU p (List.replicate n x):=λy hy=>(List.mem_replicate.1 hy).2▸hx
theorem dH {xs:List α}{d:α}(h:cU p xs)(hd:p d)(i:Nat):p (xs.getD i d):=Lm hd h i
def uM {α:Type}(a:α)(q:Prop):α:=a
@[grind=] theorem Xf (xs:List aA) (i:Nat):xs.getD i []=uM (xs.getD i []) (sS (xs.getD i [])):=rfl
@[grind! .] theorem Xe {xs:List aA} (h:cU sS xs) (i:Nat):sS (xs.getD i []):=dH h (Nat.zero_le _) i
end
theorem PX:(∀{A R:Type} {p:A→Prop} {q:A→R→Prop} (T:A→Tr R) (h:∀a,p a→(T a).okQ (q a)) (a:A),FT.f (FT.mk T h) a=(T a).nice)∧
  (∀{A R:Type} (T:A→Tr R) (a:A),FF.f (FF.mk T) a=(T a).nice)∧
  (∀{A R:Type} {p:A→Prop} {q:A→R→Prop} (X:FT A R p q) (a:A),Fnc.f X.c a=X.f a)∧
  (∀{α:Type} (a:α),(Tr.ret a).nice=a)∧
  (∀{α:Type} (b:Bool) (t e:Tr α),(Tr.ite b t e).nice=bif b then t.nice else e.nice)∧
  (∀{α:Type} (b:Bool) (t:Tr α),(Tr.grd b t).nice=t.nice)∧
  (∀{α:Type} (b:Bool) (t:Tr α),(Tr.ngd b t).nice=t.nice)∧
  (∀{α β:Type} (e:β) (k:β→Tr α),(Tr.val e k).nice=(k e).nice)∧
  (∀{α A R:Type} {p:A→Prop} {q:A→R→Prop} (X:Fnc A R p q) (a:A) (k:R→Tr α),(Tr.cal X a k).nice=(k (X.f a)).nice)∧
  (∀{sh:Sh} {α A P W:Type} (d:LC sh A P W) (k:W→Tr α),(Tr.lp d.lp k).nice=Stp.elim (λa=>(k (d.e (d.i+d.st*(d.k:Int)) a)).nice) (λp=>(k (d.p p)).nice) (aU (λj a=>(d.T j a).nice) d.st d.k d.i d.a))∧
  (∀{sh:Sh} {α A P:Type} [Inhabited P] (d:LW sh A P) (k:P→Tr α),(Tr.lp d.lp k).nice=(k (cz (λa=>(d.T a).nice) (d.k+1) d.a)).nice)∧
  (∀{α β:Type} (t:Tr β) (k:β→Tr α),(Tr.bnd t k).nice=(k t.nice).nice)∧
  (∀{α:Type} (t:Tr α) (Q:α→Prop),(Tr.as Q t).nice=t.nice)∧
  (∀{α β δ:Type} (x:β) (f:β→Tr α) (g:δ→Tr α),(Tr.sum (.inl x) f g).nice=(f x).nice)∧
  (∀{α β δ:Type} (x:δ) (f:β→Tr α) (g:δ→Tr α),(Tr.sum (.inr x) f g).nice=(g x).nice)∧
  (∀{α β A:Type} (i:Int) (a:A) (f:β→Tr α) (g:Int×A→Tr α),(Tr.sum (eR i a) f g).nice=(g (i,a)).nice):=
 ⟨λ_ _ _=>rfl,λ_ _=>rfl,λ_ _=>rfl,λ_=>rfl,λ_ _ _=>rfl,λ_ _=>rfl,λ_ _=>rfl,λ_ _=>rfl,λ_ _ _=>rfl,λ_ _=>rfl,λ_ _=>rfl,λ_ _=>rfl,λ_ _=>rfl,λ_ _ _=>rfl,λ_ _ _=>rfl,λ_ _ _ _=>rfl⟩
theorem Cd {A W:Type}{f g:Int→A→Stp A W}{st:Int}{P:A→Prop}(h:∀i a,P a→f i a=g i a)(hp:∀i a a',P a→f i a= .next a'→P a'):∀(k:Nat) (i:Int) (a:A),P a→aU f st k i a=aU g st k i a
 |0,_,_,_=>rfl
 |k+1,i,a,ha=>by
  simp only[aU,←h i a ha]
  cases hf:f i a with
  |out w=>rfl
  |next a'=>simp only[Stp.elim];exact Cd h hp k _ _ (hp i a a' ha hf)
theorem Ly {A W:Type}{f g:Int→A→Stp A W}:∀(k:Nat) (i:Nat) (a:A),(∀j a,j<i+k→f (j:Int) a=g (j:Int) a)→aU f 1 k (i:Int) a=aU g 1 k (i:Int) a
 |0,_,_,_=>rfl
 |k+1,i,a,h=>by
  simp only[aU,h i a (by omega)]
  cases g (i:Int) a with
  |out w=>rfl
  |next a'=>simp only[Stp.elim];rw[show((i:Int)+1)=((i+1:Nat):Int) by omega];exact Ly k (i+1) a' (λj a hj=>h j a (by omega))
end Go.Proofs.YtbkjnlihfgkkaaaGreat
