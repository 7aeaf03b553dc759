/- Plain laws of the loops and of the numbers. Nothing of the dump is named here. -/
import Derived.Test.YtffjmkhjhchnmaaGreatEnt
import Derived.Laws.BitsLemmas
set_option linter.unusedVariables false
set_option linter.unusedSimpArgs false
namespace Go.Proofs.YtffjmkhjhchnmaaGreat
open Go
section
variable {T A W:Type}
def cT (F:Nat→T→A→Stp A W):Nat→List T→A→Stp A W
 |_,[],a=> .next a
 |j,x::r,a=>Stp.elim (λa'=>cT F (j+1) r a') (λw=> .out w) (F j x a)
theorem wZ {f:Int→A→Stp A W}{F:Nat→T→A→Stp A W}{xs:List T}(hf:∀(j:Nat) x a,xs[j]? =some x→f j a=F j x a):∀(r:List T) (j:Nat) (a:A),(∀i,r[i]? =xs[j+i]?)→a9 f 1 r.length (j:Int) a=cT F j r a
 |[],_,_,_=>rfl
 |x::r,j,a,h=>by
  have hx:xs[j]? =some x:=by have:=h 0;simpa using this.symm
  simp only[List.length_cons,a9,cT,hf j x a hx]
  cases F j x a with
  |out w=>rfl
  |next a'=>
   simp only[Stp.elim]
   have:=wZ hf r (j+1) a' (λi=>by have:=h (i+1);simp only[List.getElem?_cons_succ]at this;rw[this];congr 1;omega)
   rw[←this]
   congr 1
theorem bi {f:Int→A→Stp A W}{F:Nat→T→A→Stp A W}(xs:List T)(a:A){k:Nat}(hk:k=xs.length)(hf:∀(j:Nat) x a,xs[j]? =some x→f j a=F j x a):a9 f 1 k 0 a=cT F 0 xs a:=by
 subst hk
 exact wZ hf xs 0 a (λi=>by rw[Nat.zero_add])
theorem jC {T':Type}(g:T→T'):∀(r:List T) (j:Nat) (a:List T'),a.length=j+r.length→cT (W:=W) (λj x (a:List T')=> .next (a.set j (g x))) j r a= .next (a.take j++r.map g)
 |[],j,a,h=>by simp only[cT,List.map_nil,List.append_nil];rw[List.take_of_length_le (by simpa using Nat.le_of_eq h)]
 |x::r,j,a,h=>by
  simp only[cT,Stp.elim]
  rw[jC g r (j+1) _ (by simp only[List.length_set,List.length_cons]at h⊢;omega)]
  congr 1
  have hj:j<a.length:=by rw[h];simp
  rw[List.take_succ_eq_append_getElem (by simpa using hj)]
  simp[List.take_set_of_le]
theorem ju {p:T→Bool}{w:Nat→T→W}:∀(r:List T) (j:Nat),cT (A:=Unit) (λj x _=>bif p x then .out (w j x)else .next ()) j r ()=match r.findIdx? p with
  |some i=>(match r[i]? with|some x=> .out (w (j+i) x)|none=> .next ())
  |none=> .next ()
 |[],_=>rfl
 |x::r,j=>by
  simp only[cT,List.findIdx?_cons]
  cases hp:p x with
  |true=>simp[Stp.elim]
  |false=>
   simp only[cond_false,Stp.elim,ju r (j+1),Bool.false_eq_true,if_false]
   cases r.findIdx? p with
   |none=>rfl
   |some i=>
    simp only[Option.map_some,List.getElem?_cons_succ]
    cases r[i]? with
    |none=>rfl
    |some y=>simp only[];congr 2;omega
end
theorem ny (xs:List Int):(tY xs).length=xs.length:=by simp[tY]
theorem DH (s:ah):(Nm s).length=s.length:=by simp[Nm]
theorem rN {A W:Type}[Inhabited W]{f:A→Stp A W}{Inv:A→Prop}{Q:W→Prop}{meas:A→Nat}(h:∀a,Inv a→∀a',f a= .next a'→Inv a'∧meas a'<meas a)(hq:∀a,Inv a→∀w,f a= .out w→Q w):∀(m:Nat) (a:A),meas a<m→Inv a→Q (iO f m a)
 |0,_,hm,_=>absurd hm (Nat.not_lt_zero _)
 |m+1,a,hm,hi=>by
  simp only[iO]
  cases hf:f a with
  |out w=>exact hq a hi w hf
  |next a'=>
   obtain⟨h3,h4⟩:=h a hi a' hf
   exact rN h hq m a' (by omega) h3
theorem J0 (s:ah)(i:Nat):0≤nZ s i∧nZ s i≤255:=by
 unfold nZ
 have:=(s.getD i 0).toNat_lt
 omega
theorem BF (x:Int){m:Int}:0≤bits .and .u64 x m:=(Ax .and .u64 _ _ (.inl rfl)).1
theorem NH {T:Type}{p:T→Prop}{xs:List T}{d:T}(hd:p d)(h:∀y∈xs,p y)(k:Nat):p (xs.getD k d):=by
 rw[List.getD]
 cases hk:xs[k]? with
 |none=>exact hd
 |some y=>exact h y (List.mem_of_getElem? hk)
theorem K9 {α γ:Type}(e:α)(k:α→γ):jt e k=k e:=(rfl)
theorem ai (n:Nat):Int.toNat ((n:Int)-0)=n:=by simp
theorem getD_some {T:Type}{xs:List T}{j:Nat}{x d:T}(h:xs[j]? =some x):xs.getD j d=x:=by simp[List.getD,h]
theorem Z (n:Nat):((n:Int)).toNat=n:=by simp
theorem eI (m:Int):IntKind.i64.wrap m=(m+9223372036854775808)%18446744073709551616-9223372036854775808:=by
 unfold IntKind.wrap
 simp only[IntKind.signed,IntKind.bits]
 simp
 omega
theorem EL (m:Int):IntKind.u64.wrap m=m%18446744073709551616:=by
 unfold IntKind.wrap
 simp[IntKind.signed,IntKind.bits]
theorem xU (m:Int):IntKind.u8.wrap m=m%256:=by
 unfold IntKind.wrap
 simp[IntKind.signed,IntKind.bits]
theorem Ci (n:Int):bits .and .i64 n 4294967295=n%4294967296:=by
 have h:(BitVec.ofInt 64 4294967295).toNat=2 ^ 32-1:=by decide
 have key:(BitVec.ofInt 64 n&&& BitVec.ofInt 64 4294967295).toNat=(n%((2 ^ 64:Nat):Int)).toNat%2 ^ 32:=by
  rw[BitVec.toNat_and,BitVec.toNat_ofInt,h,Nat.and_two_pow_sub_one_eq_mod]
 show IntKind.i64.wrap ((BitVec.ofInt 64 n&&& BitVec.ofInt 64 4294967295).toNat:Nat)=n%4294967296
 rw[key,eI]
 omega
theorem Lk (n:Int):bits .and .i64 n 255=n%256:=by
 have h:(BitVec.ofInt 64 255).toNat=2 ^ 8-1:=by decide
 have key:(BitVec.ofInt 64 n&&& BitVec.ofInt 64 255).toNat=(n%((2 ^ 64:Nat):Int)).toNat%2 ^ 8:=by
  rw[BitVec.toNat_and,BitVec.toNat_ofInt,h,Nat.and_two_pow_sub_one_eq_mod]
 show IntKind.i64.wrap ((BitVec.ofInt 64 n&&& BitVec.ofInt 64 255).toNat:Nat)=n%256
 rw[key,eI]
 omega
theorem Pe {a b:Int}(h:0≤a):0≤a.tmod b:=Int.tmod_nonneg b h
theorem OS {a b:Int}(h:0<b):a.tmod b<b:=Int.tmod_lt_of_pos a h
theorem pS {a:Int}(b:Int):(0≤a→a.tmod b=a%b)∧(a<0→a.tmod b= -((-a)%b)):=by
 refine⟨λh=>Int.tmod_eq_emod_of_nonneg h,λh=> ?_⟩
 rw[←Int.tmod_eq_emod_of_nonneg (by omega:0≤-a),Int.neg_tmod,Int.neg_neg]
theorem vL {a:Int}(b:Int):(0≤a→a.tdiv b=a/b)∧(a<0→a.tdiv b= -((-a)/b)):=by
 refine⟨λh=>Int.tdiv_eq_ediv_of_nonneg h,λh=> ?_⟩
 rw[←Int.tdiv_eq_ediv_of_nonneg (by omega:0≤-a),Int.neg_tdiv,Int.neg_neg]
theorem NY:aD=140737488355328:=rfl
theorem Lw:ak=4611686018427387904:=rfl
theorem Qx (a b:Nat):(Nat.ble a b=true)=(a≤b):=by simp
theorem Lo (m:Int):IntKind.u64.wrap m=IntKind.u64.wrap m%18446744073709551616:=by rw[EL];omega
theorem Lt (m:Int):IntKind.u8.wrap m=IntKind.u8.wrap m%256:=by rw[xU];omega
theorem J9 (s:ah)(i:Nat):nZ s i=nZ s i%256:=by have:=J0 s i;omega
theorem Od (x:Int):bits .and .u64 x 63=((bits .and .u64 x 63).toNat:Int):=by have:=BF x (m:=63);omega
theorem P6 {a b:Int}(h:0≤a)(hb:0<b):a.tmod b=min (max 0 (a.tmod b)) (b-1):=by
 have:=Pe (b:=b) h
 have:=OS (a:=a) hb
 omega
theorem G7 {m:Int}(h:0≤m)(h2:m≤18446744073709551615):IntKind.u64.wrap m=m:=by rw[EL];omega
theorem EY {n:Int}(h:65536≤n)(h2:n≤9223372036854775807):IntKind.wrap .i64 (IntKind.wrap .i64 (n.tdiv 65536)+n.tmod 65536)=n/65536+n%65536:=by
 rw[(pS 65536).1 (by omega),(vL 65536).1 (by omega),aw (m:=n/65536) (by omega) (by omega),aw (by omega) (by omega)]
attribute [grind=] P6 Lo Lt J9 Od Lk Ci
attribute [grind=] NY Lw Qx ny DH List.length_set aw Sum.elim_inl Sum.elim_inr
@[grind] def sS {α:Type} (xs:List α):Prop:=xs.length≤4294967296
@[grind] def wS {α:Type} (xs:List α):Prop:=xs.length≤8589934592
def cI {α:Type}(p:α→Prop)(xs:List α):Prop:=∀y∈xs,p y
@[grind] def sL {α:Type} (p:α→Prop) (xs:List α):Prop:=xs.length≤4294967296∧cI p xs
section
variable {α:Type} {p:α→Prop}
@[grind=] theorem QY:cI p []=True:=by simp[cI]
@[grind=] theorem QU (x:α) (xs:List α):cI p (x::xs)=(p x∧cI p xs):=by simp[cI]
@[grind=] theorem PJ (xs ys:List α):cI p (xs++ys)=(cI p xs∧cI p ys):=by
 simp only[cI,List.mem_append,eq_iff_iff]
 exact⟨λh=>⟨λy hy=>h y (.inl hy),λy hy=>h y (.inr hy)⟩,λh y hy=>hy.elim (h.1 y) (h.2 y)⟩
theorem Hl {xs ys:List α}(h:cI p xs)(hs:∀y∈ys,y∈xs):cI p ys:=λy hy=>h y (hs y hy)
@[grind ←] theorem QW {xs:List α} {n:Nat} (h:cI p xs):cI p (xs.take n):=Hl h λ_ hy=>List.mem_of_mem_take hy
@[grind ←] theorem QM {xs:List α} {n:Nat} (h:cI p xs):cI p (xs.drop n):=Hl h λ_ hy=>List.mem_of_mem_drop hy
@[grind ←] theorem QZ {xs:List α} {n:Nat} {x:α} (h:cI p xs) (hx:p x):cI p (xs.set n x):=λy hy=>(List.mem_or_eq_of_mem_set hy).elim (h y) λe=>e▸hx
@[grind ←] theorem Oj {n:Nat} {x:α} (hx:p x):cI p (List.replicate n x):=λy hy=>(List.mem_replicate.1 hy).2▸hx
theorem j9 {xs:List α}{d:α}(h:cI p xs)(hd:p d)(i:Nat):p (xs.getD i d):=NH hd h i
def Gh {α:Type}(a:α)(q:Prop):α:=a
@[grind=] theorem Q8 (xs:List ah) (i:Nat):xs.getD i []=Gh (xs.getD i []) (sS (xs.getD i [])):=rfl
@[grind! .] theorem Q2 {xs:List ah} (h:cI sS xs) (i:Nat):sS (xs.getD i []):=j9 h (Nat.zero_le _) i
end
theorem PX:(∀{A R:Type} {p:A→Prop} {q:A→R→Prop} (T:A→Tr R) (h:∀a,p a→(T a).okQ (q a)) (a:A),FT.f (FT.mk T h) a=(T a).nice)∧
  (∀{A R:Type} (T:A→Tr R) (a:A),FF.f (FF.mk T) a=(T a).nice)∧
  (∀{A R:Type} {p:A→Prop} {q:A→R→Prop} (X:FT A R p q) (a:A),Fnc.f X.c a=X.f a)∧
  (∀{α:Type} (a:α),(Tr.r a).nice=a)∧
  (∀{α:Type} (b:Bool) (t e:Tr α),(Tr.u b t e).nice=bif b then t.nice else e.nice)∧
  (∀{α:Type} (b:Bool) (t:Tr α),(Tr.grd b t).nice=t.nice)∧
  (∀{α:Type} (b:Bool) (t:Tr α),(Tr.ngd b t).nice=t.nice)∧
  (∀{α β:Type} (e:β) (k:β→Tr α),(Tr.d e k).nice=(k e).nice)∧
  (∀{α A R:Type} {p:A→Prop} {q:A→R→Prop} (X:Fnc A R p q) (a:A) (k:R→Tr α),(Tr.l X a k).nice=(k (X.f a)).nice)∧
  (∀{sh:Sh} {α A P W:Type} (d:LC sh A P W) (k:W→Tr α),(Tr.lp d.lp k).nice=Stp.elim (λa=>(k (d.e (d.i+d.st*(d.k:Int)) a)).nice) (λp=>(k (d.p p)).nice) (a9 (λj a=>(d.T j a).nice) d.st d.k d.i d.a))∧
  (∀{sh:Sh} {α A P:Type} [Inhabited P] (d:LW sh A P) (k:P→Tr α),(Tr.lp d.lp k).nice=(k (iO (λa=>(d.T a).nice) (d.k+1) d.a)).nice)∧
  (∀{α β:Type} (t:Tr β) (k:β→Tr α),(Tr.bnd t k).nice=(k t.nice).nice)∧
  (∀{α:Type} (t:Tr α) (Q:α→Prop),(Tr.as Q t).nice=t.nice)∧
  (∀{α β δ:Type} (x:β) (f:β→Tr α) (g:δ→Tr α),(Tr.sum (.inl x) f g).nice=(f x).nice)∧
  (∀{α β δ:Type} (x:δ) (f:β→Tr α) (g:δ→Tr α),(Tr.sum (.inr x) f g).nice=(g x).nice)∧
  (∀{α β A:Type} (i:Int) (a:A) (f:β→Tr α) (g:Int×A→Tr α),(Tr.sum (eR i a) f g).nice=(g (i,a)).nice):=
 ⟨λ_ _ _=>rfl,λ_ _=>rfl,λ_ _=>rfl,λ_=>rfl,λ_ _ _=>rfl,λ_ _=>rfl,λ_ _=>rfl,λ_ _=>rfl,λ_ _ _=>rfl,λ_ _=>rfl,λ_ _=>rfl,λ_ _=>rfl,λ_ _=>rfl,λ_ _ _=>rfl,λ_ _ _=>rfl,λ_ _ _ _=>rfl⟩
theorem yX {A W:Type}{f g:Int→A→Stp A W}{st:Int}{P:A→Prop}(h:∀i a,P a→f i a=g i a)(hp:∀i a a',P a→f i a= .next a'→P a'):∀(k:Nat) (i:Int) (a:A),P a→a9 f st k i a=a9 g st k i a
 |0,_,_,_=>rfl
 |k+1,i,a,ha=>by
  simp only[a9,←h i a ha]
  cases hf:f i a with
  |out w=>rfl
  |next a'=>simp only[Stp.elim];exact yX h hp k _ _ (hp i a a' ha hf)
theorem Ht {A W:Type}{f g:Int→A→Stp A W}:∀(k:Nat) (i:Nat) (a:A),(∀j a,j<i+k→f (j:Int) a=g (j:Int) a)→a9 f 1 k (i:Int) a=a9 g 1 k (i:Int) a
 |0,_,_,_=>rfl
 |k+1,i,a,h=>by
  simp only[a9,h i a (by omega)]
  cases g (i:Int) a with
  |out w=>rfl
  |next a'=>simp only[Stp.elim];rw[show((i:Int)+1)=((i+1:Nat):Int) by omega];exact Ht k (i+1) a' (λj a hj=>h j a (by omega))
end Go.Proofs.YtffjmkhjhchnmaaGreat
