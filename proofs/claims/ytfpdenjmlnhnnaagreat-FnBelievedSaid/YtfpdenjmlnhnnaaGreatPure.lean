/- Plain laws of the loops and of the numbers. Nothing of the dump is named here. -/
import Derived.Test.YtfpdenjmlnhnnaaGreatEnt
import Derived.Laws.BitsLemmas
set_option linter.unusedVariables false
set_option linter.unusedSimpArgs false
namespace Go.Proofs.YtfpdenjmlnhnnaaGreat
open Go
section
variable {T A W:Type}
def fP (F:Nat→T→A→Stp A W):Nat→List T→A→Stp A W
 |_,[],a=> .next a
 |j,x::r,a=>Stp.elim (λa'=>fP F (j+1) r a') (λw=> .out w) (F j x a)
theorem C0 {f:Int→A→Stp A W}{F:Nat→T→A→Stp A W}{xs:List T}(hf:∀(j:Nat) x a,xs[j]? =some x→f j a=F j x a):∀(r:List T) (j:Nat) (a:A),(∀i,r[i]? =xs[j+i]?)→aP f 1 r.length (j:Int) a=fP F j r a
 |[],_,_,_=>rfl
 |x::r,j,a,h=>by
  have hx:xs[j]? =some x:=by have:=h 0;simpa using this.symm
  simp only[List.length_cons,aP,fP,hf j x a hx]
  cases F j x a with
  |out w=>rfl
  |next a'=>
   simp only[Stp.elim]
   have:=C0 hf r (j+1) a' (λi=>by have:=h (i+1);simp only[List.getElem?_cons_succ]at this;rw[this];congr 1;omega)
   rw[←this]
   congr 1
theorem cS {f:Int→A→Stp A W}{F:Nat→T→A→Stp A W}(xs:List T)(a:A){k:Nat}(hk:k=xs.length)(hf:∀(j:Nat) x a,xs[j]? =some x→f j a=F j x a):aP f 1 k 0 a=fP F 0 xs a:=by
 subst hk
 exact C0 hf xs 0 a (λi=>by rw[Nat.zero_add])
theorem Xw {f g:Int→A→Stp A W}{st:Int}(h:∀i a,f i a=g i a):∀k i a,aP f st k i a=aP g st k i a:=by
 have:f=g:=by funext i a;exact h i a
 intro k i a;rw[this]
theorem kK {p:T→Bool}{w:Nat→T→W}:∀(r:List T) (j:Nat),fP (A:=Unit) (λj x _=>bif p x then .out (w j x)else .next ()) j r ()=match r.findIdx? p with
  |some i=>(match r[i]? with|some x=> .out (w (j+i) x)|none=> .next ())
  |none=> .next ()
 |[],_=>rfl
 |x::r,j=>by
  simp only[fP,List.findIdx?_cons]
  cases hp:p x with
  |true=>simp[Stp.elim]
  |false=>
   simp only[cond_false,Stp.elim,kK r (j+1),Bool.false_eq_true,if_false]
   cases r.findIdx? p with
   |none=>rfl
   |some i=>
    simp only[Option.map_some,List.getElem?_cons_succ]
    cases r[i]? with
    |none=>rfl
    |some y=>simp only[];congr 2;omega
end
theorem bC (xs:List Int):(aw xs).length=xs.length:=by simp[aw]
theorem pD (s:aa):(eu s).length=s.length:=by simp[eu]
theorem tU {A W:Type}[Inhabited W]{f:A→Stp A W}{Inv:A→Prop}{Q:W→Prop}{meas:A→Nat}(h:∀a,Inv a→∀a',f a= .next a'→Inv a'∧meas a'<meas a)(hq:∀a,Inv a→∀w,f a= .out w→Q w):∀(m:Nat) (a:A),meas a<m→Inv a→Q (cl f m a)
 |0,_,hm,_=>absurd hm (Nat.not_lt_zero _)
 |m+1,a,hm,hi=>by
  simp only[cl]
  cases hf:f a with
  |out w=>exact hq a hi w hf
  |next a'=>
   obtain⟨h3,h4⟩:=h a hi a' hf
   exact tU h hq m a' (by omega) h3
theorem gK (s:aa)(i:Nat):0≤ai s i∧ai s i≤255:=by
 unfold ai
 have:=(s.getD i 0).toNat_lt
 omega
theorem Kb (x:Int){m:Int}:0≤bits .and .u64 x m:=(DF .and .u64 _ _ (.inl rfl)).1
theorem Uw {T:Type}{p:T→Prop}{xs:List T}{d:T}(hd:p d)(h:∀y∈xs,p y)(k:Nat):p (xs.getD k d):=by
 rw[List.getD]
 cases hk:xs[k]? with
 |none=>exact hd
 |some y=>exact h y (List.mem_of_getElem? hk)
theorem wu {α γ:Type}(e:α)(k:α→γ):j5 e k=k e:=(rfl)
theorem aN (n:Nat):Int.toNat ((n:Int)-0)=n:=by simp
theorem getD_some {T:Type}{xs:List T}{j:Nat}{x d:T}(h:xs[j]? =some x):xs.getD j d=x:=by simp[List.getD,h]
theorem af (n:Nat):((n:Int)).toNat=n:=by simp
theorem di (m:Int):IntKind.i64.wrap m=(m+9223372036854775808)%18446744073709551616-9223372036854775808:=by
 unfold IntKind.wrap
 simp only[IntKind.signed,IntKind.bits]
 simp
 omega
theorem zT (m:Int):IntKind.u64.wrap m=m%18446744073709551616:=by
 unfold IntKind.wrap
 simp[IntKind.signed,IntKind.bits]
theorem rz (m:Int):IntKind.u8.wrap m=m%256:=by
 unfold IntKind.wrap
 simp[IntKind.signed,IntKind.bits]
theorem tk (n:Int):bits .and .i64 n 4294967295=n%4294967296:=by
 have h:(BitVec.ofInt 64 4294967295).toNat=2 ^ 32-1:=by decide
 have key:(BitVec.ofInt 64 n&&& BitVec.ofInt 64 4294967295).toNat=(n%((2 ^ 64:Nat):Int)).toNat%2 ^ 32:=by
  rw[BitVec.toNat_and,BitVec.toNat_ofInt,h,Nat.and_two_pow_sub_one_eq_mod]
 show IntKind.i64.wrap ((BitVec.ofInt 64 n&&& BitVec.ofInt 64 4294967295).toNat:Nat)=n%4294967296
 rw[key,di]
 omega
theorem aaH (n:Int):bits .and .i64 n 255=n%256:=by
 have h:(BitVec.ofInt 64 255).toNat=2 ^ 8-1:=by decide
 have key:(BitVec.ofInt 64 n&&& BitVec.ofInt 64 255).toNat=(n%((2 ^ 64:Nat):Int)).toNat%2 ^ 8:=by
  rw[BitVec.toNat_and,BitVec.toNat_ofInt,h,Nat.and_two_pow_sub_one_eq_mod]
 show IntKind.i64.wrap ((BitVec.ofInt 64 n&&& BitVec.ofInt 64 255).toNat:Nat)=n%256
 rw[key,di]
 omega
theorem I5 {a b:Int}(h:0≤a):0≤a.tmod b:=Int.tmod_nonneg b h
theorem ED {a b:Int}(h:0<b):a.tmod b<b:=Int.tmod_lt_of_pos a h
theorem iC {a:Int}(b:Int):(0≤a→a.tmod b=a%b)∧(a<0→a.tmod b= -((-a)%b)):=by
 refine⟨λh=>Int.tmod_eq_emod_of_nonneg h,λh=> ?_⟩
 rw[←Int.tmod_eq_emod_of_nonneg (by omega:0≤-a),Int.neg_tmod,Int.neg_neg]
theorem Es {a:Int}(b:Int):(0≤a→a.tdiv b=a/b)∧(a<0→a.tdiv b= -((-a)/b)):=by
 refine⟨λh=>Int.tdiv_eq_ediv_of_nonneg h,λh=> ?_⟩
 rw[←Int.tdiv_eq_ediv_of_nonneg (by omega:0≤-a),Int.neg_tdiv,Int.neg_neg]
theorem ab8:bc=140737488355328:=rfl
theorem Zu:ao=4611686018427387904:=rfl
theorem aeK (a b:Nat):(Nat.ble a b=true)=(a≤b):=by simp
theorem Zb (m:Int):IntKind.u64.wrap m=IntKind.u64.wrap m%18446744073709551616:=by rw[zT];omega
theorem Zm (m:Int):IntKind.u8.wrap m=IntKind.u8.wrap m%256:=by rw[rz];omega
theorem Wh (s:aa)(i:Nat):ai s i=ai s i%256:=by have:=gK s i;omega
theorem acA (x:Int):bits .and .u64 x 63=((bits .and .u64 x 63).toNat:Int):=by have:=Kb x (m:=63);omega
theorem aeV {a b:Int}(h:0≤a)(hb:0<b):a.tmod b=min (max 0 (a.tmod b)) (b-1):=by
 have:=I5 (b:=b) h
 have:=ED (a:=a) hb
 omega
theorem Us {m:Int}(h:0≤m)(h2:m≤18446744073709551615):IntKind.u64.wrap m=m:=by rw[zT];omega
theorem Pa {n:Int}(h:65536≤n)(h2:n≤9223372036854775807):IntKind.wrap .i64 (IntKind.wrap .i64 (n.tdiv 65536)+n.tmod 65536)=n/65536+n%65536:=by
 rw[(iC 65536).1 (by omega),(Es 65536).1 (by omega),aq (m:=n/65536) (by omega) (by omega),aq (by omega) (by omega)]
attribute [grind=] aeV Zb Zm Wh acA aaH tk
attribute [grind=] ab8 Zu aeK bC pD List.length_set aq Sum.elim_inl Sum.elim_inr
@[grind] def sS {α:Type} (xs:List α):Prop:=xs.length≤4294967296
@[grind] def wS {α:Type} (xs:List α):Prop:=xs.length≤8589934592
def dg {α:Type}(p:α→Prop)(xs:List α):Prop:=∀y∈xs,p y
@[grind] def sL {α:Type} (p:α→Prop) (xs:List α):Prop:=xs.length≤4294967296∧dg p xs
section
variable {α:Type} {p:α→Prop}
@[grind=] theorem afO:dg p []=True:=by simp[dg]
@[grind=] theorem afv (x:α) (xs:List α):dg p (x::xs)=(p x∧dg p xs):=by simp[dg]
@[grind=] theorem aeY (xs ys:List α):dg p (xs++ys)=(dg p xs∧dg p ys):=by
 simp only[dg,List.mem_append,eq_iff_iff]
 exact⟨λh=>⟨λy hy=>h y (.inl hy),λy hy=>h y (.inr hy)⟩,λh y hy=>hy.elim (h.1 y) (h.2 y)⟩
theorem SV {xs ys:List α}(h:dg p xs)(hs:∀y∈ys,y∈xs):dg p ys:=λy hy=>h y (hs y hy)
@[grind ←] theorem afy {xs:List α} {n:Nat} (h:dg p xs):dg p (xs.take n):=SV h λ_ hy=>List.mem_of_mem_take hy
@[grind ←] theorem aft {xs:List α} {n:Nat} (h:dg p xs):dg p (xs.drop n):=SV h λ_ hy=>List.mem_of_mem_drop hy
@[grind ←] theorem afN {xs:List α} {n:Nat} {x:α} (h:dg p xs) (hx:p x):dg p (xs.set n x):=λy hy=>(List.mem_or_eq_of_mem_set hy).elim (h y) λe=>e▸hx
@[grind ←] theorem acQ {n:Nat} {x:α} (hx:p x):dg p (List.replicate n x):=λy hy=>(List.mem_replicate.1 hy).2▸hx
theorem cX {xs:List α}{d:α}(h:dg p xs)(hd:p d)(i:Nat):p (xs.getD i d):=Uw hd h i
def wt {α:Type}(a:α)(q:Prop):α:=a
@[grind=] theorem afZ (xs:List aa) (i:Nat):xs.getD i []=wt (xs.getD i []) (sS (xs.getD i [])):=rfl
@[grind! .] theorem afL {xs:List aa} (h:dg sS xs) (i:Nat):sS (xs.getD i []):=cX h (Nat.zero_le _) i
end
theorem PX:(∀{A R:Type} {p:A→Prop} {q:A→R→Prop} (T:A→Tr R) (h:∀a,p a→(T a).okQ (q a)) (a:A),FT.f (FT.mk T h) a=(T a).nice)∧
  (∀{A R:Type} (T:A→Tr R) (a:A),FF.f (FF.mk T) a=(T a).nice)∧
  (∀{A R:Type} {p:A→Prop} {q:A→R→Prop} (X:FT A R p q) (a:A),Fnc.f X.c a=X.f a)∧
  (∀{α:Type} (a:α),(Tr.ret a).nice=a)∧
  (∀{α:Type} (b:Bool) (t e:Tr α),(Tr.ite b t e).nice=bif b then t.nice else e.nice)∧
  (∀{α:Type} (b:Bool) (t:Tr α),(Tr.grd b t).nice=t.nice)∧
  (∀{α:Type} (b:Bool) (t:Tr α),(Tr.ngd b t).nice=t.nice)∧
  (∀{α β:Type} (e:β) (k:β→Tr α),(Tr.val e k).nice=(k e).nice)∧
  (∀{α A R:Type} {p:A→Prop} {q:A→R→Prop} (X:Fnc A R p q) (a:A) (k:R→Tr α),(Tr.cal X a k).nice=(k (X.f a)).nice)∧
  (∀{sh:Sh} {α A P W:Type} (d:LC sh A P W) (k:W→Tr α),(Tr.lp d.lp k).nice=Stp.elim (λa=>(k (d.e (d.i+d.st*(d.k:Int)) a)).nice) (λp=>(k (d.p p)).nice) (aP (λj a=>(d.T j a).nice) d.st d.k d.i d.a))∧
  (∀{sh:Sh} {α A P:Type} [Inhabited P] (d:LW sh A P) (k:P→Tr α),(Tr.lp d.lp k).nice=(k (cl (λa=>(d.T a).nice) (d.k+1) d.a)).nice)∧
  (∀{α β:Type} (t:Tr β) (k:β→Tr α),(Tr.bnd t k).nice=(k t.nice).nice)∧
  (∀{α:Type} (t:Tr α) (Q:α→Prop),(Tr.as Q t).nice=t.nice)∧
  (∀{α β δ:Type} (x:β) (f:β→Tr α) (g:δ→Tr α),(Tr.sum (.inl x) f g).nice=(f x).nice)∧
  (∀{α β δ:Type} (x:δ) (f:β→Tr α) (g:δ→Tr α),(Tr.sum (.inr x) f g).nice=(g x).nice)∧
  (∀{α β A:Type} (i:Int) (a:A) (f:β→Tr α) (g:Int×A→Tr α),(Tr.sum (eR i a) f g).nice=(g (i,a)).nice):=
 ⟨λ_ _ _=>rfl,λ_ _=>rfl,λ_ _=>rfl,λ_=>rfl,λ_ _ _=>rfl,λ_ _=>rfl,λ_ _=>rfl,λ_ _=>rfl,λ_ _ _=>rfl,λ_ _=>rfl,λ_ _=>rfl,λ_ _=>rfl,λ_ _=>rfl,λ_ _ _=>rfl,λ_ _ _=>rfl,λ_ _ _ _=>rfl⟩
theorem Hi {A W:Type}{f g:Int→A→Stp A W}{st:Int}{P:A→Prop}(h:∀i a,P a→f i a=g i a)(hp:∀i a a',P a→f i a= .next a'→P a'):∀(k:Nat) (i:Int) (a:A),P a→aP f st k i a=aP g st k i a
 |0,_,_,_=>rfl
 |k+1,i,a,ha=>by
  simp only[aP,←h i a ha]
  cases hf:f i a with
  |out w=>rfl
  |next a'=>simp only[Stp.elim];exact Hi h hp k _ _ (hp i a a' ha hf)
theorem UL {A W:Type}{f g:Int→A→Stp A W}:∀(k:Nat) (i:Nat) (a:A),(∀j a,j<i+k→f (j:Int) a=g (j:Int) a)→aP f 1 k (i:Int) a=aP g 1 k (i:Int) a
 |0,_,_,_=>rfl
 |k+1,i,a,h=>by
  simp only[aP,h i a (by omega)]
  cases g (i:Int) a with
  |out w=>rfl
  |next a'=>simp only[Stp.elim];rw[show((i:Int)+1)=((i+1:Nat):Int) by omega];exact UL k (i+1) a' (λj a hj=>h j a (by omega))
end Go.Proofs.YtfpdenjmlnhnnaaGreat
