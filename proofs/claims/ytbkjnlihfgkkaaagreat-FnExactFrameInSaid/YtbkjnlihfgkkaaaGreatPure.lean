/- Plain laws of the loops and of the numbers. Nothing of the dump is named here. -/
import Derived.Test.YtbkjnlihfgkkaaaGreatEnt
import Derived.Laws.BitsLemmas
set_option linter.unusedVariables false
set_option linter.unusedSimpArgs false
namespace Go.Proofs.YtbkjnlihfgkkaaaGreat
open Go
section
variable {T A W:Type}
def eT (F:Nat->T->A->Stp A W):Nat->List T->A->Stp A W
 |_,[],a=> .next a
 |j,x::r,a=>Stp.elim (λa'=>eT F (j+1) r a') (λw=> .out w) (F j x a)
theorem B3 {f:Int->A->Stp A W}{F:Nat->T->A->Stp A W}{xs:List T}(hf:∀(j:Nat) x a,xs[j]? =some x->f j a=F j x a):∀(r:List T) (j:Nat) (a:A),(∀i,r[i]? =xs[j+i]?)->aR f 1 r.length (j:Int) a=eT F j r a
 |[],_,_,_=>rfl
 |x::r,j,a,h=>by
  have hx:xs[j]? =some x:=by have:=h 0;simpa using this.symm
  simp only[List.length_cons,aR,eT,hf j x a hx]
  cases F j x a with
  |out w=>rfl
  |next a'=>
   simp only[Stp.elim]
   have:=B3 hf r (j+1) a' (λi=>by have:=h (i+1);simp only[List.getElem?_cons_succ]at this;rw[this];congr 1;omega)
   rw[<-this]
   congr 1
theorem bA {f:Int->A->Stp A W}{F:Nat->T->A->Stp A W}(xs:List T)(a:A){k:Nat}(hk:k=xs.length)(hf:∀(j:Nat) x a,xs[j]? =some x->f j a=F j x a):aR f 1 k 0 a=eT F 0 xs a:=by
 subst hk
 exact B3 hf xs 0 a (λi=>by rw[Nat.zero_add])
theorem Tq {f g:Int->A->Stp A W}{st:Int}(h:∀i a,f i a=g i a):∀k i a,aR f st k i a=aR g st k i a:=by
 have:f=g:=by funext i a;exact h i a
 intro k i a;rw[this]
theorem lr {T':Type}(g:T->T'):∀(r:List T) (j:Nat) (a:List T'),a.length=j+r.length->eT (W:=W) (λj x (a:List T')=> .next (a.set j (g x))) j r a= .next (a.take j++r.map g)
 |[],j,a,h=>by simp only[eT,List.map_nil,List.append_nil];rw[List.take_of_length_le (by simpa using Nat.le_of_eq h)]
 |x::r,j,a,h=>by
  simp only[eT,Stp.elim]
  rw[lr g r (j+1) _ (by simp only[List.length_set,List.length_cons]at h|-;omega)]
  congr 1
  have hj:j<a.length:=by rw[h];simp
  rw[List.take_succ_eq_append_getElem (by simpa using hj)]
  simp[List.take_set_of_le]
theorem jY {p:T->Bool}{w:Nat->T->W}:∀(r:List T) (j:Nat),eT (A:=Unit) (λj x _=>bif p x then .out (w j x)else .next ()) j r ()=match r.findIdx? p with
  |some i=>(match r[i]? with|some x=> .out (w (j+i) x)|none=> .next ())
  |none=> .next ()
 |[],_=>rfl
 |x::r,j=>by
  simp only[eT,List.findIdx?_cons]
  cases hp:p x with
  |true=>simp[Stp.elim]
  |false=>
   simp only[cond_false,Stp.elim,jY r (j+1),Bool.false_eq_true,if_false]
   cases r.findIdx? p with
   |none=>rfl
   |some i=>
    simp only[Option.map_some,List.getElem?_cons_succ]
    cases r[i]? with
    |none=>rfl
    |some y=>simp only[];congr 2;omega
end
theorem aX (xs:List Int):(az xs).length=xs.length:=by simp[az]
theorem oC (s:ac):(il s).length=s.length:=by simp[il]
theorem si {A W:Type}[Inhabited W]{f:A->Stp A W}{Inv:A->Prop}{Q:W->Prop}{meas:A->Nat}(h:∀a,Inv a->∀a',f a= .next a'->Inv a'/\meas a'<meas a)(hq:∀a,Inv a->∀w,f a= .out w->Q w):∀(m:Nat) (a:A),meas a<m->Inv a->Q (ca f m a)
 |0,_,hm,_=>absurd hm (Nat.not_lt_zero _)
 |m+1,a,hm,hi=>by
  simp only[ca]
  cases hf:f a with
  |out w=>exact hq a hi w hf
  |next a'=>
   obtain⟨h3,h4⟩:=h a hi a' hf
   exact si h hq m a' (by omega) h3
theorem fY (s:ac)(i:Nat):0<=af s i/\af s i<=255:=by
 unfold af
 have:=(s.getD i 0).toNat_lt
 omega
theorem Ka (x:Int){m:Int}:0<=bits .and .u64 x m:=(BA .and .u64 _ _ (.inl rfl)).1
theorem Sy {T:Type}{p:T->Prop}{xs:List T}{d:T}(hd:p d)(h:∀y∈xs,p y)(k:Nat):p (xs.getD k d):=by
 rw[List.getD]
 cases hk:xs[k]? with
 |none=>exact hd
 |some y=>exact h y (List.mem_of_getElem? hk)
theorem Bx {α γ:Type}(e:α)(k:α->γ):kt e k=k e:=(rfl)
theorem av (n:Nat):Int.toNat ((n:Int)-0)=n:=by simp
theorem getD_some {T:Type}{xs:List T}{j:Nat}{x d:T}(h:xs[j]? =some x):xs.getD j d=x:=by simp[List.getD,h]
theorem aa (n:Nat):((n:Int)).toNat=n:=by simp
theorem cO (m:Int):IntKind.i64.wrap m=(m+9223372036854775808)%18446744073709551616-9223372036854775808:=by
 unfold IntKind.wrap
 simp only[IntKind.signed,IntKind.bits]
 simp
 omega
theorem yG (m:Int):IntKind.u64.wrap m=m%18446744073709551616:=by
 unfold IntKind.wrap
 simp[IntKind.signed,IntKind.bits]
theorem qe (m:Int):IntKind.u8.wrap m=m%256:=by
 unfold IntKind.wrap
 simp[IntKind.signed,IntKind.bits]
theorem rp (n:Int):bits .and .i64 n 4294967295=n%4294967296:=by
 have h:(BitVec.ofInt 64 4294967295).toNat=2 ^ 32-1:=by decide
 have key:(BitVec.ofInt 64 n&&& BitVec.ofInt 64 4294967295).toNat=(n%((2 ^ 64:Nat):Int)).toNat%2 ^ 32:=by
  rw[BitVec.toNat_and,BitVec.toNat_ofInt,h,Nat.and_two_pow_sub_one_eq_mod]
 show IntKind.i64.wrap ((BitVec.ofInt 64 n&&& BitVec.ofInt 64 4294967295).toNat:Nat)=n%4294967296
 rw[key,cO]
 omega
theorem W8 (n:Int):bits .and .i64 n 255=n%256:=by
 have h:(BitVec.ofInt 64 255).toNat=2 ^ 8-1:=by decide
 have key:(BitVec.ofInt 64 n&&& BitVec.ofInt 64 255).toNat=(n%((2 ^ 64:Nat):Int)).toNat%2 ^ 8:=by
  rw[BitVec.toNat_and,BitVec.toNat_ofInt,h,Nat.and_two_pow_sub_one_eq_mod]
 show IntKind.i64.wrap ((BitVec.ofInt 64 n&&& BitVec.ofInt 64 255).toNat:Nat)=n%256
 rw[key,cO]
 omega
theorem OH {a b:Int}(h:0<=a):0<=a.tmod b:=Int.tmod_nonneg b h
theorem Gv {a b:Int}(h:0<b):a.tmod b<b:=Int.tmod_lt_of_pos a h
theorem gF {a:Int}(b:Int):(0<=a->a.tmod b=a%b)/\(a<0->a.tmod b= -((-a)%b)):=by
 refine⟨λh=>Int.tmod_eq_emod_of_nonneg h,λh=> ?_⟩
 rw[<-Int.tmod_eq_emod_of_nonneg (by omega:0<=-a),Int.neg_tmod,Int.neg_neg]
theorem xV {a:Int}(b:Int):(0<=a->a.tdiv b=a/b)/\(a<0->a.tdiv b= -((-a)/b)):=by
 refine⟨λh=>Int.tdiv_eq_ediv_of_nonneg h,λh=> ?_⟩
 rw[<-Int.tdiv_eq_ediv_of_nonneg (by omega:0<=-a),Int.neg_tdiv,Int.neg_neg]
theorem Zs:aM=140737488355328:=rfl
theorem WX:am=4611686018427387904:=rfl
theorem abe (a b:Nat):(Nat.ble a b=true)=(a<=b):=by simp
theorem Xr (m:Int):IntKind.u64.wrap m=IntKind.u64.wrap m%18446744073709551616:=by rw[yG];omega
theorem XH (m:Int):IntKind.u8.wrap m=IntKind.u8.wrap m%256:=by rw[qe];omega
theorem S7 (s:ac)(i:Nat):af s i=af s i%256:=by have:=fY s i;omega
theorem Y4 (x:Int):bits .and .u64 x 63=((bits .and .u64 x 63).toNat:Int):=by have:=Ka x (m:=63);omega
theorem abD {a b:Int}(h:0<=a)(hb:0<b):a.tmod b=min (max 0 (a.tmod b)) (b-1):=by
 have:=OH (b:=b) h
 have:=Gv (a:=a) hb
 omega
theorem Qd {m:Int}(h:0<=m)(h2:m<=18446744073709551615):IntKind.u64.wrap m=m:=by rw[yG];omega
theorem Mc {n:Int}(h:65536<=n)(h2:n<=9223372036854775807):IntKind.wrap .i64 (IntKind.wrap .i64 (n.tdiv 65536)+n.tmod 65536)=n/65536+n%65536:=by
 rw[(gF 65536).1 (by omega),(xV 65536).1 (by omega),aj (m:=n/65536) (by omega) (by omega),aj (by omega) (by omega)]
attribute [grind=] abD Xr XH S7 Y4 W8 rp
attribute [grind=] Zs WX abe aX oC List.length_set aj Sum.elim_inl Sum.elim_inr
@[grind] def sS {α:Type} (xs:List α):Prop:=xs.length<=4294967296
@[grind] def wS {α:Type} (xs:List α):Prop:=xs.length<=8589934592
def dP {α:Type}(p:α->Prop)(xs:List α):Prop:=∀y∈xs,p y
@[grind] def sL {α:Type} (p:α->Prop) (xs:List α):Prop:=xs.length<=4294967296/\dP p xs
section
variable {α:Type} {p:α->Prop}
@[grind=] theorem acl:dP p []=True:=by simp[dP]
@[grind=] theorem abQ (x:α) (xs:List α):dP p (x::xs)=(p x/\dP p xs):=by simp[dP]
@[grind=] theorem abm (xs ys:List α):dP p (xs++ys)=(dP p xs/\dP p ys):=by
 simp only[dP,List.mem_append,eq_iff_iff]
 exact⟨λh=>⟨λy hy=>h y (.inl hy),λy hy=>h y (.inr hy)⟩,λh y hy=>hy.elim (h.1 y) (h.2 y)⟩
theorem SD {xs ys:List α}(h:dP p xs)(hs:∀y∈ys,y∈xs):dP p ys:=λy hy=>h y (hs y hy)
@[grind <-] theorem abU {xs:List α} {n:Nat} (h:dP p xs):dP p (xs.take n):=SD h λ_ hy=>List.mem_of_mem_take hy
@[grind <-] theorem ab5 {xs:List α} {n:Nat} (h:dP p xs):dP p (xs.drop n):=SD h λ_ hy=>List.mem_of_mem_drop hy
@[grind <-] theorem acm {xs:List α} {n:Nat} {x:α} (h:dP p xs) (hx:p x):dP p (xs.set n x):=λy hy=>(List.mem_or_eq_of_mem_set hy).elim (h y) λe=>e▸hx
@[grind <-] theorem Zw {n:Nat} {x:α} (hx:p x):dP p (List.replicate n x):=λy hy=>(List.mem_replicate.1 hy).2▸hx
theorem qo {xs:List α}{d:α}(h:dP p xs)(hd:p d)(i:Nat):p (xs.getD i d):=Sy hd h i
def WJ {α:Type}(a:α)(q:Prop):α:=a
@[grind=] theorem acz (xs:List ac) (i:Nat):xs.getD i []=WJ (xs.getD i []) (sS (xs.getD i [])):=rfl
@[grind! .] theorem aci {xs:List ac} (h:dP sS xs) (i:Nat):sS (xs.getD i []):=qo h (Nat.zero_le _) i
end
theorem PX:(∀{A R:Type} {p:A->Prop} {q:A->R->Prop} (T:A->Tr R) (h:∀a,p a->(T a).okQ (q a)) (a:A),FT.f (FT.mk T h) a=(T a).nice)/\
  (∀{A R:Type} (T:A->Tr R) (a:A),FF.f (FF.mk T) a=(T a).nice)/\
  (∀{A R:Type} {p:A->Prop} {q:A->R->Prop} (X:FT A R p q) (a:A),Fnc.f X.c a=X.f a)/\
  (∀{α:Type} (a:α),(Tr.ret a).nice=a)/\
  (∀{α:Type} (b:Bool) (t e:Tr α),(Tr.ite b t e).nice=bif b then t.nice else e.nice)/\
  (∀{α:Type} (b:Bool) (t:Tr α),(Tr.grd b t).nice=t.nice)/\
  (∀{α:Type} (b:Bool) (t:Tr α),(Tr.ngd b t).nice=t.nice)/\
  (∀{α β:Type} (e:β) (k:β->Tr α),(Tr.val e k).nice=(k e).nice)/\
  (∀{α A R:Type} {p:A->Prop} {q:A->R->Prop} (X:Fnc A R p q) (a:A) (k:R->Tr α),(Tr.cal X a k).nice=(k (X.f a)).nice)/\
  (∀{sh:Sh} {α A P W:Type} (d:LC sh A P W) (k:W->Tr α),(Tr.lp d.lp k).nice=Stp.elim (λa=>(k (d.e (d.i+d.st*(d.k:Int)) a)).nice) (λp=>(k (d.p p)).nice) (aR (λj a=>(d.T j a).nice) d.st d.k d.i d.a))/\
  (∀{sh:Sh} {α A P:Type} [Inhabited P] (d:LW sh A P) (k:P->Tr α),(Tr.lp d.lp k).nice=(k (ca (λa=>(d.T a).nice) (d.k+1) d.a)).nice)/\
  (∀{α β:Type} (t:Tr β) (k:β->Tr α),(Tr.bnd t k).nice=(k t.nice).nice)/\
  (∀{α:Type} (t:Tr α) (Q:α->Prop),(Tr.as Q t).nice=t.nice)/\
  (∀{α β δ:Type} (x:β) (f:β->Tr α) (g:δ->Tr α),(Tr.sum (.inl x) f g).nice=(f x).nice)/\
  (∀{α β δ:Type} (x:δ) (f:β->Tr α) (g:δ->Tr α),(Tr.sum (.inr x) f g).nice=(g x).nice)/\
  (∀{α β A:Type} (i:Int) (a:A) (f:β->Tr α) (g:Int×A->Tr α),(Tr.sum (eR i a) f g).nice=(g (i,a)).nice):=
 ⟨λ_ _ _=>rfl,λ_ _=>rfl,λ_ _=>rfl,λ_=>rfl,λ_ _ _=>rfl,λ_ _=>rfl,λ_ _=>rfl,λ_ _=>rfl,λ_ _ _=>rfl,λ_ _=>rfl,λ_ _=>rfl,λ_ _=>rfl,λ_ _=>rfl,λ_ _ _=>rfl,λ_ _ _=>rfl,λ_ _ _ _=>rfl⟩
theorem Ey {A W:Type}{f g:Int->A->Stp A W}{st:Int}{P:A->Prop}(h:∀i a,P a->f i a=g i a)(hp:∀i a a',P a->f i a= .next a'->P a'):∀(k:Nat) (i:Int) (a:A),P a->aR f st k i a=aR g st k i a
 |0,_,_,_=>rfl
 |k+1,i,a,ha=>by
  simp only[aR,<-h i a ha]
  cases hf:f i a with
  |out w=>rfl
  |next a'=>simp only[Stp.elim];exact Ey h hp k _ _ (hp i a a' ha hf)
theorem Sg {A W:Type}{f g:Int->A->Stp A W}:∀(k:Nat) (i:Nat) (a:A),(∀j a,j<i+k->f (j:Int) a=g (j:Int) a)->aR f 1 k (i:Int) a=aR g 1 k (i:Int) a
 |0,_,_,_=>rfl
 |k+1,i,a,h=>by
  simp only[aR,h i a (by omega)]
  cases g (i:Int) a with
  |out w=>rfl
  |next a'=>simp only[Stp.elim];rw[show((i:Int)+1)=((i+1:Nat):Int) by omega];exact Sg k (i+1) a' (λj a hj=>h j a (by omega))
end Go.Proofs.YtbkjnlihfgkkaaaGreat
