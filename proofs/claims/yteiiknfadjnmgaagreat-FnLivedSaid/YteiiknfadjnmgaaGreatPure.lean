/- Plain laws of the loops and of the numbers. Nothing of the dump is named here. -/
import Derived.Test.YteiiknfadjnmgaaGreatEnt
import Derived.Laws.BitsLemmas
set_option linter.unusedVariables false
set_option linter.unusedSimpArgs false
namespace Go.Proofs.YteiiknfadjnmgaaGreat
open Go
section
variable {T A W:Type}
def dF (F:Nat→T→A→Stp A W):Nat→List T→A→Stp A W
 |_,[],a=> .next a
 |j,x::r,a=>Stp.elim (λa'=>dF F (j+1) r a') (λw=> .out w) (F j x a)
theorem C7 {f:Int→A→Stp A W}{F:Nat→T→A→Stp A W}{xs:List T}(hf:∀(j:Nat) x a,xs[j]? =some x→f j a=F j x a):∀(r:List T) (j:Nat) (a:A),(∀i,r[i]? =xs[j+i]?)→aP f 1 r.length (j:Int) a=dF F j r a
 |[],_,_,_=>rfl
 |x::r,j,a,h=>by
  have hx:xs[j]? =some x:=by have:=h 0;simpa using this.symm
  simp only[List.length_cons,aP,dF,hf j x a hx]
  cases F j x a with
  |out w=>rfl
  |next a'=>
   simp only[Stp.elim]
   have:=C7 hf r (j+1) a' (λi=>by have:=h (i+1);simp only[List.getElem?_cons_succ]at this;rw[this];congr 1;omega)
   rw[←this]
   congr 1
theorem ci {f:Int→A→Stp A W}{F:Nat→T→A→Stp A W}(xs:List T)(a:A){k:Nat}(hk:k=xs.length)(hf:∀(j:Nat) x a,xs[j]? =some x→f j a=F j x a):aP f 1 k 0 a=dF F 0 xs a:=by
 subst hk
 exact C7 hf xs 0 a (λi=>by rw[Nat.zero_add])
theorem Xv {f g:Int→A→Stp A W}{st:Int}(h:∀i a,f i a=g i a):∀k i a,aP f st k i a=aP g st k i a:=by
 have:f=g:=by funext i a;exact h i a
 intro k i a;rw[this]
theorem ke {p:T→Bool}{w:Nat→T→W}:∀(r:List T) (j:Nat),dF (A:=Unit) (λj x _=>bif p x then .out (w j x)else .next ()) j r ()=match r.findIdx? p with
  |some i=>(match r[i]? with|some x=> .out (w (j+i) x)|none=> .next ())
  |none=> .next ()
 |[],_=>rfl
 |x::r,j=>by
  simp only[dF,List.findIdx?_cons]
  cases hp:p x with
  |true=>simp[Stp.elim]
  |false=>
   simp only[cond_false,Stp.elim,ke r (j+1),Bool.false_eq_true,if_false]
   cases r.findIdx? p with
   |none=>rfl
   |some i=>
    simp only[Option.map_some,List.getElem?_cons_succ]
    cases r[i]? with
    |none=>rfl
    |some y=>simp only[];congr 2;omega
end
theorem bA (xs:List Int):(aw xs).length=xs.length:=by simp[aw]
theorem pA (s:aa):(er s).length=s.length:=by simp[er]
theorem tL {A W:Type}[Inhabited W]{f:A→Stp A W}{Inv:A→Prop}{Q:W→Prop}{meas:A→Nat}(h:∀a,Inv a→∀a',f a= .next a'→Inv a'∧meas a'<meas a)(hq:∀a,Inv a→∀w,f a= .out w→Q w):∀(m:Nat) (a:A),meas a<m→Inv a→Q (cm f m a)
 |0,_,hm,_=>absurd hm (Nat.not_lt_zero _)
 |m+1,a,hm,hi=>by
  simp only[cm]
  cases hf:f a with
  |out w=>exact hq a hi w hf
  |next a'=>
   obtain⟨h3,h4⟩:=h a hi a' hf
   exact tL h hq m a' (by omega) h3
theorem gG (s:aa)(i:Nat):0≤ai s i∧ai s i≤255:=by
 unfold ai
 have:=(s.getD i 0).toNat_lt
 omega
theorem Lv (x:Int){m:Int}:0≤bits .and .u64 x m:=(CR .and .u64 _ _ (.inl rfl)).1
theorem U2 {T:Type}{p:T→Prop}{xs:List T}{d:T}(hd:p d)(h:∀y∈xs,p y)(k:Nat):p (xs.getD k d):=by
 rw[List.getD]
 cases hk:xs[k]? with
 |none=>exact hd
 |some y=>exact h y (List.mem_of_getElem? hk)
theorem wJ {α γ:Type}(e:α)(k:α→γ):iz e k=k e:=(rfl)
theorem aL (n:Nat):Int.toNat ((n:Int)-0)=n:=by simp
theorem getD_some {T:Type}{xs:List T}{j:Nat}{x d:T}(h:xs[j]? =some x):xs.getD j d=x:=by simp[List.getD,h]
theorem ah (n:Nat):((n:Int)).toNat=n:=by simp
theorem df (m:Int):IntKind.i64.wrap m=(m+9223372036854775808)%18446744073709551616-9223372036854775808:=by
 unfold IntKind.wrap
 simp only[IntKind.signed,IntKind.bits]
 simp
 omega
theorem AH (m:Int):IntKind.u64.wrap m=m%18446744073709551616:=by
 unfold IntKind.wrap
 simp[IntKind.signed,IntKind.bits]
theorem rQ (m:Int):IntKind.u8.wrap m=m%256:=by
 unfold IntKind.wrap
 simp[IntKind.signed,IntKind.bits]
theorem sB (n:Int):bits .and .i64 n 4294967295=n%4294967296:=by
 have h:(BitVec.ofInt 64 4294967295).toNat=2 ^ 32-1:=by decide
 have key:(BitVec.ofInt 64 n&&& BitVec.ofInt 64 4294967295).toNat=(n%((2 ^ 64:Nat):Int)).toNat%2 ^ 32:=by
  rw[BitVec.toNat_and,BitVec.toNat_ofInt,h,Nat.and_two_pow_sub_one_eq_mod]
 show IntKind.i64.wrap ((BitVec.ofInt 64 n&&& BitVec.ofInt 64 4294967295).toNat:Nat)=n%4294967296
 rw[key,df]
 omega
theorem aau (n:Int):bits .and .i64 n 255=n%256:=by
 have h:(BitVec.ofInt 64 255).toNat=2 ^ 8-1:=by decide
 have key:(BitVec.ofInt 64 n&&& BitVec.ofInt 64 255).toNat=(n%((2 ^ 64:Nat):Int)).toNat%2 ^ 8:=by
  rw[BitVec.toNat_and,BitVec.toNat_ofInt,h,Nat.and_two_pow_sub_one_eq_mod]
 show IntKind.i64.wrap ((BitVec.ofInt 64 n&&& BitVec.ofInt 64 255).toNat:Nat)=n%256
 rw[key,df]
 omega
theorem Jf {a b:Int}(h:0≤a):0≤a.tmod b:=Int.tmod_nonneg b h
theorem DD {a b:Int}(h:0<b):a.tmod b<b:=Int.tmod_lt_of_pos a h
theorem iy {a:Int}(b:Int):(0≤a→a.tmod b=a%b)∧(a<0→a.tmod b= -((-a)%b)):=by
 refine⟨λh=>Int.tmod_eq_emod_of_nonneg h,λh=> ?_⟩
 rw[←Int.tmod_eq_emod_of_nonneg (by omega:0≤-a),Int.neg_tmod,Int.neg_neg]
theorem EB {a:Int}(b:Int):(0≤a→a.tdiv b=a/b)∧(a<0→a.tdiv b= -((-a)/b)):=by
 refine⟨λh=>Int.tdiv_eq_ediv_of_nonneg h,λh=> ?_⟩
 rw[←Int.tdiv_eq_ediv_of_nonneg (by omega:0≤-a),Int.neg_tdiv,Int.neg_neg]
theorem ab3:bo=140737488355328:=rfl
theorem abb:aq=4611686018427387904:=rfl
theorem afy (a b:Nat):(Nat.ble a b=true)=(a≤b):=by simp
theorem ZK (m:Int):IntKind.u64.wrap m=IntKind.u64.wrap m%18446744073709551616:=by rw[AH];omega
theorem ZS (m:Int):IntKind.u8.wrap m=IntKind.u8.wrap m%256:=by rw[rQ];omega
theorem X5 (s:aa)(i:Nat):ai s i=ai s i%256:=by have:=gG s i;omega
theorem ac3 (x:Int):bits .and .u64 x 63=((bits .and .u64 x 63).toNat:Int):=by have:=Lv x (m:=63);omega
theorem afz {a b:Int}(h:0≤a)(hb:0<b):a.tmod b=min (max 0 (a.tmod b)) (b-1):=by
 have:=Jf (b:=b) h
 have:=DD (a:=a) hb
 omega
theorem We {m:Int}(h:0≤m)(h2:m≤18446744073709551615):IntKind.u64.wrap m=m:=by rw[AH];omega
theorem P5 {n:Int}(h:65536≤n)(h2:n≤9223372036854775807):IntKind.wrap .i64 (IntKind.wrap .i64 (n.tdiv 65536)+n.tmod 65536)=n/65536+n%65536:=by
 rw[(iy 65536).1 (by omega),(EB 65536).1 (by omega),am (m:=n/65536) (by omega) (by omega),am (by omega) (by omega)]
attribute [grind=] afz ZK ZS X5 ac3 aau sB
attribute [grind=] ab3 abb afy bA pA List.length_set am Sum.elim_inl Sum.elim_inr
@[grind] def sS {α:Type} (xs:List α):Prop:=xs.length≤4294967296
@[grind] def wS {α:Type} (xs:List α):Prop:=xs.length≤8589934592
def cX {α:Type}(p:α→Prop)(xs:List α):Prop:=∀y∈xs,p y
@[grind] def sL {α:Type} (p:α→Prop) (xs:List α):Prop:=xs.length≤4294967296∧cX p xs
section
variable {α:Type} {p:α→Prop}
@[grind=] theorem agh:cX p []=True:=by simp[cX]
@[grind=] theorem af9 (x:α) (xs:List α):cX p (x::xs)=(p x∧cX p xs):=by simp[cX]
@[grind=] theorem afn (xs ys:List α):cX p (xs++ys)=(cX p xs∧cX p ys):=by
 simp only[cX,List.mem_append,eq_iff_iff]
 exact⟨λh=>⟨λy hy=>h y (.inl hy),λy hy=>h y (.inr hy)⟩,λh y hy=>hy.elim (h.1 y) (h.2 y)⟩
theorem VY {xs ys:List α}(h:cX p xs)(hs:∀y∈ys,y∈xs):cX p ys:=λy hy=>h y (hs y hy)
@[grind ←] theorem agc {xs:List α} {n:Nat} (h:cX p xs):cX p (xs.take n):=VY h λ_ hy=>List.mem_of_mem_take hy
@[grind ←] theorem agd {xs:List α} {n:Nat} (h:cX p xs):cX p (xs.drop n):=VY h λ_ hy=>List.mem_of_mem_drop hy
@[grind ←] theorem agi {xs:List α} {n:Nat} {x:α} (h:cX p xs) (hx:p x):cX p (xs.set n x):=λy hy=>(List.mem_or_eq_of_mem_set hy).elim (h y) λe=>e▸hx
@[grind ←] theorem ads {n:Nat} {x:α} (hx:p x):cX p (List.replicate n x):=λy hy=>(List.mem_replicate.1 hy).2▸hx
theorem cW {xs:List α}{d:α}(h:cX p xs)(hd:p d)(i:Nat):p (xs.getD i d):=U2 hd h i
def wM {α:Type}(a:α)(q:Prop):α:=a
@[grind=] theorem agr (xs:List aa) (i:Nat):xs.getD i []=wM (xs.getD i []) (sS (xs.getD i [])):=rfl
@[grind! .] theorem agj {xs:List aa} (h:cX sS xs) (i:Nat):sS (xs.getD i []):=cW h (Nat.zero_le _) i
end
theorem PX:(∀{A R:Type} {p:A→Prop} {q:A→R→Prop} (T:A→Tr R) (h:∀a,p a→(T a).okQ (q a)) (a:A),FT.f (FT.mk T h) a=(T a).nice)∧
  (∀{A R:Type} (T:A→Tr R) (a:A),FF.f (FF.mk T) a=(T a).nice)∧
  (∀{A R:Type} {p:A→Prop} {q:A→R→Prop} (X:FT A R p q) (a:A),Fnc.f X.c a=X.f a)∧
  (∀{α:Type} (a:α),(Tr.ret a).nice=a)∧
  (∀{α:Type} (b:Bool) (t e:Tr α),(Tr.ite b t e).nice=bif b then t.nice else e.nice)∧
  (∀{α:Type} (b:Bool) (t:Tr α),(Tr.grd b t).nice=t.nice)∧
  (∀{α:Type} (b:Bool) (t:Tr α),(Tr.ngd b t).nice=t.nice)∧
  (∀{α β:Type} (e:β) (k:β→Tr α),(Tr.val e k).nice=(k e).nice)∧
  (∀{α A R:Type} {p:A→Prop} {q:A→R→Prop} (X:Fnc A R p q) (a:A) (k:R→Tr α),(Tr.cal X a k).nice=(k (X.f a)).nice)∧
  (∀{sh:Sh} {α A P W:Type} (d:LC sh A P W) (k:W→Tr α),(Tr.lp d.lp k).nice=Stp.elim (λa=>(k (d.e (d.i+d.st*(d.k:Int)) a)).nice) (λp=>(k (d.p p)).nice) (aP (λj a=>(d.T j a).nice) d.st d.k d.i d.a))∧
  (∀{sh:Sh} {α A P:Type} [Inhabited P] (d:LW sh A P) (k:P→Tr α),(Tr.lp d.lp k).nice=(k (cm (λa=>(d.T a).nice) (d.k+1) d.a)).nice)∧
  (∀{α β:Type} (t:Tr β) (k:β→Tr α),(Tr.bnd t k).nice=(k t.nice).nice)∧
  (∀{α:Type} (t:Tr α) (Q:α→Prop),(Tr.as Q t).nice=t.nice)∧
  (∀{α β δ:Type} (x:β) (f:β→Tr α) (g:δ→Tr α),(Tr.sum (.inl x) f g).nice=(f x).nice)∧
  (∀{α β δ:Type} (x:δ) (f:β→Tr α) (g:δ→Tr α),(Tr.sum (.inr x) f g).nice=(g x).nice)∧
  (∀{α β A:Type} (i:Int) (a:A) (f:β→Tr α) (g:Int×A→Tr α),(Tr.sum (eR i a) f g).nice=(g (i,a)).nice):=
 ⟨λ_ _ _=>rfl,λ_ _=>rfl,λ_ _=>rfl,λ_=>rfl,λ_ _ _=>rfl,λ_ _=>rfl,λ_ _=>rfl,λ_ _=>rfl,λ_ _ _=>rfl,λ_ _=>rfl,λ_ _=>rfl,λ_ _=>rfl,λ_ _=>rfl,λ_ _ _=>rfl,λ_ _ _=>rfl,λ_ _ _ _=>rfl⟩
theorem Gv {A W:Type}{f g:Int→A→Stp A W}{st:Int}{P:A→Prop}(h:∀i a,P a→f i a=g i a)(hp:∀i a a',P a→f i a= .next a'→P a'):∀(k:Nat) (i:Int) (a:A),P a→aP f st k i a=aP g st k i a
 |0,_,_,_=>rfl
 |k+1,i,a,ha=>by
  simp only[aP,←h i a ha]
  cases hf:f i a with
  |out w=>rfl
  |next a'=>simp only[Stp.elim];exact Gv h hp k _ _ (hp i a a' ha hf)
theorem VW {A W:Type}{f g:Int→A→Stp A W}:∀(k:Nat) (i:Nat) (a:A),(∀j a,j<i+k→f (j:Int) a=g (j:Int) a)→aP f 1 k (i:Int) a=aP g 1 k (i:Int) a
 |0,_,_,_=>rfl
 |k+1,i,a,h=>by
  simp only[aP,h i a (by omega)]
  cases g (i:Int) a with
  |out w=>rfl
  |next a'=>simp only[Stp.elim];rw[show((i:Int)+1)=((i+1:Nat):Int) by omega];exact VW k (i+1) a' (λj a hj=>h j a (by omega))
end Go.Proofs.YteiiknfadjnmgaaGreat
