/- Plain laws of the loops and of the numbers. Nothing of the dump is named here. -/
import Derived.Test.YtbkjnlihfgkkaaaGreatEnt
import Derived.Laws.BitsLemmas
set_option linter.unusedVariables false
set_option linter.unusedSimpArgs false
namespace Go.Proofs.YtbkjnlihfgkkaaaGreat
open Go
section
variable {T A W:Type}
def fi (F:Nat→T→A→Stp A W):Nat→List T→A→Stp A W
 |_,[],a=> .next a
 |j,x::r,a=>Stp.elim (λa'=>fi F (j+1) r a') (λw=> .out w) (F j x a)
theorem nC {f:Int→A→Stp A W}{F:Nat→T→A→Stp A W}{xs:List T}(hf:∀(j:Nat) x a,xs[j]? =some x→f j a=F j x a):∀(r:List T) (j:Nat) (a:A),(∀i,r[i]? =xs[j+i]?)→ce f 1 r.length (j:Int) a=fi F j r a
 |[],_,_,_=>rfl
 |x::r,j,a,h=>by
  have hx:xs[j]? =some x:=by have:=h 0;simpa using this.symm
  simp only[List.length_cons,ce,fi,hf j x a hx]
  cases F j x a with
  |out w=>rfl
  |next a'=>
   simp only[Stp.elim]
   have:=nC hf r (j+1) a' (λi=>by have:=h (i+1);simp only[List.getElem?_cons_succ]at this;rw[this];congr 1;omega)
   rw[←this]
   congr 1
theorem bQ {f:Int→A→Stp A W}{F:Nat→T→A→Stp A W}(xs:List T)(a:A){k:Nat}(hk:k=xs.length)(hf:∀(j:Nat) x a,xs[j]? =some x→f j a=F j x a):ce f 1 k 0 a=fi F 0 xs a:=by
 subst hk
 exact nC hf xs 0 a (λi=>by rw[Nat.zero_add])
theorem dB {T':Type}(g:T→T'):∀(r:List T) (j:Nat) (a:List T'),a.length=j+r.length→fi (W:=W) (λj x (a:List T')=> .next (a.set j (g x))) j r a= .next (a.take j++r.map g)
 |[],j,a,h=>by simp only[fi,List.map_nil,List.append_nil];rw[List.take_of_length_le (by simpa using Nat.le_of_eq h)]
 |x::r,j,a,h=>by
  simp only[fi,Stp.elim]
  rw[dB g r (j+1) _ (by simp only[List.length_set,List.length_cons]at h⊢;omega)]
  congr 1
  have hj:j<a.length:=by rw[h];simp
  rw[List.take_succ_eq_append_getElem (by simpa using hj)]
  simp[List.take_set_of_le]
end
theorem gp (xs:List Int):(il xs).length=xs.length:=by simp[il]
theorem sG (s:ac):(mA s).length=s.length:=by simp[mA]
theorem cS (s:ac)(i:Nat):0≤Z s i∧Z s i≤255:=by
 unfold Z
 have:=(s.getD i 0).toNat_lt
 omega
theorem qr (x:Int){m:Int}:0≤bits .and .u64 x m:=(qJ .and .u64 _ _ (.inl rfl)).1
theorem Av {T:Type}{p:T→Prop}{xs:List T}{d:T}(hd:p d)(h:∀y∈xs,p y)(k:Nat):p (xs.getD k d):=by
 rw[List.getD]
 cases hk:xs[k]? with
 |none=>exact hd
 |some y=>exact h y (List.mem_of_getElem? hk)
theorem av (n:Nat):Int.toNat ((n:Int)-0)=n:=by simp
theorem getD_some {T:Type}{xs:List T}{j:Nat}{x d:T}(h:xs[j]? =some x):xs.getD j d=x:=by simp[List.getD,h]
theorem aj (n:Nat):((n:Int)).toNat=n:=by simp
theorem bH (m:Int):IntKind.i64.wrap m=(m+9223372036854775808)%18446744073709551616-9223372036854775808:=by
 unfold IntKind.wrap
 simp only[IntKind.signed,IntKind.bits]
 simp
 omega
theorem tB (m:Int):IntKind.u64.wrap m=m%18446744073709551616:=by
 unfold IntKind.wrap
 simp[IntKind.signed,IntKind.bits]
theorem lw (m:Int):IntKind.u8.wrap m=m%256:=by
 unfold IntKind.wrap
 simp[IntKind.signed,IntKind.bits]
theorem rY (n:Int):bits .and .i64 n 4294967295=n%4294967296:=by
 have h:(BitVec.ofInt 64 4294967295).toNat=2 ^ 32-1:=by decide
 have key:(BitVec.ofInt 64 n&&& BitVec.ofInt 64 4294967295).toNat=(n%((2 ^ 64:Nat):Int)).toNat%2 ^ 32:=by
  rw[BitVec.toNat_and,BitVec.toNat_ofInt,h,Nat.and_two_pow_sub_one_eq_mod]
 show IntKind.i64.wrap ((BitVec.ofInt 64 n&&& BitVec.ofInt 64 4294967295).toNat:Nat)=n%4294967296
 rw[key,bH]
 omega
theorem zw (n:Int):bits .and .i64 n 255=n%256:=by
 have h:(BitVec.ofInt 64 255).toNat=2 ^ 8-1:=by decide
 have key:(BitVec.ofInt 64 n&&& BitVec.ofInt 64 255).toNat=(n%((2 ^ 64:Nat):Int)).toNat%2 ^ 8:=by
  rw[BitVec.toNat_and,BitVec.toNat_ofInt,h,Nat.and_two_pow_sub_one_eq_mod]
 show IntKind.i64.wrap ((BitVec.ofInt 64 n&&& BitVec.ofInt 64 255).toNat:Nat)=n%256
 rw[key,bH]
 omega
theorem Br {a b:Int}(h:0≤a):0≤a.tmod b:=Int.tmod_nonneg b h
theorem Bz {a b:Int}(h:0<b):a.tmod b<b:=Int.tmod_lt_of_pos a h
theorem iE {a:Int}(b:Int):(0≤a→a.tmod b=a%b)∧(a<0→a.tmod b= -((-a)%b)):=by
 refine⟨λh=>Int.tmod_eq_emod_of_nonneg h,λh=> ?_⟩
 rw[←Int.tmod_eq_emod_of_nonneg (by omega:0≤-a),Int.neg_tmod,Int.neg_neg]
theorem nW {a:Int}(b:Int):(0≤a→a.tdiv b=a/b)∧(a<0→a.tdiv b= -((-a)/b)):=by
 refine⟨λh=>Int.tdiv_eq_ediv_of_nonneg h,λh=> ?_⟩
 rw[←Int.tdiv_eq_ediv_of_nonneg (by omega:0≤-a),Int.neg_tdiv,Int.neg_neg]
theorem AJ:aA=140737488355328:=rfl
theorem y5:bp=4611686018427387904:=rfl
theorem CX (a b:Nat):(Nat.ble a b=true)=(a≤b):=by simp
theorem yA (m:Int):IntKind.u64.wrap m=IntKind.u64.wrap m%18446744073709551616:=by rw[tB];omega
theorem zC (m:Int):IntKind.u8.wrap m=IntKind.u8.wrap m%256:=by rw[lw];omega
theorem xq (s:ac)(i:Nat):Z s i=Z s i%256:=by have:=cS s i;omega
theorem Ar (x:Int):bits .and .u64 x 63=((bits .and .u64 x 63).toNat:Int):=by have:=qr x (m:=63);omega
theorem CC {a b:Int}(h:0≤a)(hb:0<b):a.tmod b=min (max 0 (a.tmod b)) (b-1):=by
 have:=Br (b:=b) h
 have:=Bz (a:=a) hb
 omega
theorem v6 {m:Int}(h:0≤m)(h2:m≤18446744073709551615):IntKind.u64.wrap m=m:=by rw[tB];omega
theorem tA {n:Int}(h:65536≤n)(h2:n≤9223372036854775807):IntKind.wrap .i64 (IntKind.wrap .i64 (n.tdiv 65536)+n.tmod 65536)=n/65536+n%65536:=by
 rw[(iE 65536).1 (by omega),(nW 65536).1 (by omega),ap (m:=n/65536) (by omega) (by omega),ap (by omega) (by omega)]
attribute [grind=] CC yA zC xq Ar zw rY
attribute [grind=] AJ y5 CX gp sG List.length_set ap Sum.elim_inl Sum.elim_inr
@[grind] def sS {α:Type} (xs:List α):Prop:=xs.length≤4294967296
@[grind] def wS {α:Type} (xs:List α):Prop:=xs.length≤8589934592
def eF {α:Type}(p:α→Prop)(xs:List α):Prop:=∀y∈xs,p y
@[grind] def sL {α:Type} (p:α→Prop) (xs:List α):Prop:=xs.length≤4294967296∧eF p xs
section
variable {α:Type} {p:α→Prop}
@[grind=] theorem DF:eF p []=True:=by simp[eF]
@[grind=] theorem Dw (x:α) (xs:List α):eF p (x::xs)=(p x∧eF p xs):=by simp[eF]
@[grind=] theorem C4 (xs ys:List α):eF p (xs++ys)=(eF p xs∧eF p ys):=by
 simp only[eF,List.mem_append,eq_iff_iff]
 exact⟨λh=>⟨λy hy=>h y (.inl hy),λy hy=>h y (.inr hy)⟩,λh y hy=>hy.elim (h.1 y) (h.2 y)⟩
theorem u9 {xs ys:List α}(h:eF p xs)(hs:∀y∈ys,y∈xs):eF p ys:=λy hy=>h y (hs y hy)
@[grind ←] theorem De {xs:List α} {n:Nat} (h:eF p xs):eF p (xs.take n):=u9 h λ_ hy=>List.mem_of_mem_take hy
@[grind ←] theorem Dt {xs:List α} {n:Nat} (h:eF p xs):eF p (xs.drop n):=u9 h λ_ hy=>List.mem_of_mem_drop hy
@[grind ←] theorem DG {xs:List α} {n:Nat} {x:α} (h:eF p xs) (hx:p x):eF p (xs.set n x):=λy hy=>(List.mem_or_eq_of_mem_set hy).elim (h y) λe=>e▸hx
@[grind ←] theorem Bb {n:Nat} {x:α} (hx:p x):eF p (List.replicate n x):=λy hy=>(List.mem_replicate.1 hy).2▸hx
theorem iT {xs:List α}{d:α}(h:eF p xs)(hd:p d)(i:Nat):p (xs.getD i d):=Av hd h i
def yB {α:Type}(a:α)(q:Prop):α:=a
@[grind=] theorem DQ (xs:List ac) (i:Nat):xs.getD i []=yB (xs.getD i []) (sS (xs.getD i [])):=rfl
@[grind! .] theorem DD {xs:List ac} (h:eF sS xs) (i:Nat):sS (xs.getD i []):=iT h (Nat.zero_le _) i
end
theorem PX:(∀{A R:Type} {p:A→Prop} {q:A→R→Prop} (T:A→Tr R) (h:∀a,p a→(T a).okQ (q a)) (a:A),FT.f (FT.mk T h) a=(T a).nice)∧
  (∀{A R:Type} (T:A→Tr R) (a:A),FF.f (FF.mk T) a=(T a).nice)∧
  (∀{A R:Type} {p:A→Prop} {q:A→R→Prop} (X:FT A R p q) (a:A),Fnc.f X.c a=X.f a)∧
  (∀{α:Type} (a:α),(Tr.ret a).nice=a)∧
  (∀{α:Type} (b:Bool) (t e:Tr α),(Tr.ite b t e).nice=bif b then t.nice else e.nice)∧
  (∀{α:Type} (b:Bool) (t:Tr α),(Tr.grd b t).nice=t.nice)∧
  (∀{α:Type} (b:Bool) (t:Tr α),(Tr.ngd b t).nice=t.nice)∧
  (∀{α β:Type} (e:β) (k:β→Tr α),(Tr.val e k).nice=(k e).nice)∧
  (∀{α A R:Type} {p:A→Prop} {q:A→R→Prop} (X:Fnc A R p q) (a:A) (k:R→Tr α),(Tr.cal X a k).nice=(k (X.f a)).nice)∧
  (∀{sh:Sh} {α A P W:Type} (d:LC sh A P W) (k:W→Tr α),(Tr.lp d.lp k).nice=Stp.elim (λa=>(k (d.e (d.i+d.st*(d.k:Int)) a)).nice) (λp=>(k (d.p p)).nice) (ce (λj a=>(d.T j a).nice) d.st d.k d.i d.a))∧
  (∀{sh:Sh} {α A P:Type} [Inhabited P] (d:LW sh A P) (k:P→Tr α),(Tr.lp d.lp k).nice=(k (fU (λa=>(d.T a).nice) (d.k+1) d.a)).nice)∧
  (∀{α β:Type} (t:Tr β) (k:β→Tr α),(Tr.bnd t k).nice=(k t.nice).nice)∧
  (∀{α:Type} (t:Tr α) (Q:α→Prop),(Tr.as Q t).nice=t.nice)∧
  (∀{α β δ:Type} (x:β) (f:β→Tr α) (g:δ→Tr α),(Tr.sum (.inl x) f g).nice=(f x).nice)∧
  (∀{α β δ:Type} (x:δ) (f:β→Tr α) (g:δ→Tr α),(Tr.sum (.inr x) f g).nice=(g x).nice)∧
  (∀{α β A:Type} (i:Int) (a:A) (f:β→Tr α) (g:Int×A→Tr α),(Tr.sum (eR i a) f g).nice=(g (i,a)).nice):=
 ⟨λ_ _ _=>rfl,λ_ _=>rfl,λ_ _=>rfl,λ_=>rfl,λ_ _ _=>rfl,λ_ _=>rfl,λ_ _=>rfl,λ_ _=>rfl,λ_ _ _=>rfl,λ_ _=>rfl,λ_ _=>rfl,λ_ _=>rfl,λ_ _=>rfl,λ_ _ _=>rfl,λ_ _ _=>rfl,λ_ _ _ _=>rfl⟩
theorem oM {A W:Type}{f g:Int→A→Stp A W}{st:Int}{P:A→Prop}(h:∀i a,P a→f i a=g i a)(hp:∀i a a',P a→f i a= .next a'→P a'):∀(k:Nat) (i:Int) (a:A),P a→ce f st k i a=ce g st k i a
 |0,_,_,_=>rfl
 |k+1,i,a,ha=>by
  simp only[ce,←h i a ha]
  cases hf:f i a with
  |out w=>rfl
  |next a'=>simp only[Stp.elim];exact oM h hp k _ _ (hp i a a' ha hf)
end Go.Proofs.YtbkjnlihfgkkaaaGreat
