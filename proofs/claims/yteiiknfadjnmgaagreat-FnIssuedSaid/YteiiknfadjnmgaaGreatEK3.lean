/-
  Contracts of functions and plain laws (printed by a program): each theorem says what a function of the program returns; conditions are its hypotheses.
-/
import Derived.Test.YteiiknfadjnmgaaGreatEK2
set_option linter.all false
set_option maxRecDepth 4000
namespace Go.Proofs.YteiiknfadjnmgaaGreat
open Go Go.RowKit
noncomputable section
theorem VJ (x:Recv)(seq w:Int)(sl:List Int)(j:Nat)(b:UInt8)(k:Nat)(s:Int)(h:(Kb x seq w sl j b)[k]? =some s):sl[k]? =some s∨(s=(b.toNat:Int)∧(k:Int)<w∧(x.fin<0∨(k:Int)<x.fin)):=by
 unfold Kb at h
 generalize ho:(seq+(j:Int)-x.next)%4294967296=o at h
 have h0:0≤o:=by omega
 split at h
 ·rename_i hc
  rw[List.getElem?_set]at h
  split at h
  ·rename_i hk
   split at h
   ·refine .inr ⟨(Option.some.inj h).symm,by omega, ?_⟩
    rcases hc.2.1 with h2|h2
    ·exact .inl h2
    ·exact .inr (by omega)
   ·cases h
  ·exact .inl h
 ·exact .inl h
theorem Rt (x:Recv)(seq w:Int):∀(t:ac) (sl:List Int) (j:Nat) (k:Nat) (s:Int),(F5 x seq w sl j t)[k]? =some s→sl[k]? =some s∨(0≤s∧s≤255∧(k:Int)<w∧(x.fin<0∨(k:Int)<x.fin))
 |[],_,_,_,_,h=> .inl h
 |b::t,sl,j,k,s,h=>by
  rcases Rt x seq w t _ (j+1) k s h with h1|h1
  ·rcases VJ x seq w sl j b k s h1 with h2|⟨h2,h3,h4⟩
   ·exact .inl h2
   ·exact .inr ⟨by omega,by have:=lj b;omega,h3,h4⟩
  ·exact .inr h1
theorem Rr:∀(t:ac) (sl:List Int) (o k:Nat) (s:Int),(Cr sl o t)[k]? =some s→sl[k]? =some s∨(0≤s∧s≤255∧o≤k∧k<o+t.length)
 |[],_,_,_,_,h=> .inl h
 |b::t,sl,o,k,s,h=>by
  simp only[Cr]at h
  rcases Rr t _ (o+1) k s h with h1|⟨h1,h2,h3,h4⟩
  ·rw[List.getElem?_set]at h1
   split at h1
   ·rename_i hk
    split at h1
    ·have e:=(Option.some.inj h1).symm
     exact .inr ⟨by omega,by have:=lj b;omega,by omega,by simp only[List.length_cons];omega⟩
    ·cases h1
   ·exact .inl h1
  ·exact .inr ⟨h1,h2,by omega,by simp only[List.length_cons];omega⟩
theorem Nq (L:Int):∀(held:List Piec) (a b:Int) (sl:List Int),0≤a→eM L a held=some b→a≤L→∀(k:Nat) (s:Int),(held.foldl (λsl p=>Cr sl p.off.toNat p.text) sl)[k]? =some s→sl[k]? =some s∨(0≤s∧s≤255∧(k:Int)<L)
 |[],_,_,_,_,_,_,_,_,h=> .inl h
 |p::r,a,b,sl,h0,hw,ha,k,s,h=>by
  simp only[eM]at hw
  cases hc:((p.text==[])||decide (p.off≤a)||decide (L<p.off+(p.text.length:Int)))with
  |true=>rw[hc]at hw;cases hw
  |false=>
   rw[hc]at hw
   simp only[Bool.or_eq_false_iff,decide_eq_false_iff_not]at hc
   simp only[List.foldl_cons]at h
   rcases Nq L r _ b _ (by omega) hw (by omega) k s h with h1|h1
   ·rcases Rr p.text sl p.off.toNat k s h1 with h2|⟨h2,h3,h4,h5⟩
    ·exact .inl h2
    ·exact .inr ⟨h2,h3,by omega⟩
   ·exact .inr h1
theorem uD:∀(held:List Piec) (sl:List Int),(held.foldl (λsl p=>Cr sl p.off.toNat p.text) sl).length=sl.length
 |[],_=>rfl
 |p::r,sl=>by simp only[List.foldl_cons,uD r,Oc]
theorem Lq (x:Recv)(hx:RV x)(seq:Int)(t:ac):(F5 x seq (nN x) (vr x.held) 0 t).length=33∧∀(k:Nat) (s:Int),(F5 x seq (nN x) (vr x.held) 0 t)[k]? =some s→-1≤s∧s≤255∧(0≤s→(k:Int)<(if x.fin= -1 then nN x else x.fin)):=by
 have hw:=sE x hx.dl
 have hf0:=hx.f0
 have hf1:=hx.f1
 have hfz:=hx.fz
 refine⟨by rw[OC];unfold vr;rw[uD];rfl,λk s h=> ?_⟩
 rcases Rt x seq (nN x) t _ 0 k s h with h1|⟨h1,h2,h3,h4⟩
 ·obtain⟨b,hb⟩:=hx.wk
  unfold vr at h1
  rcases Nq _ x.held 0 b _ (Int.le_refl _) hb (by split<;>omega) k s h1 with h2|⟨h2,h3,h4⟩
  ·have:s= -1:=by
    have hm:=List.mem_of_getElem? h2
    exact List.eq_of_mem_replicate hm
   omega
  ·exact⟨by omega,h3,λ_=>h4⟩
 ·refine⟨by omega,h2,λ_=> ?_⟩
  split
  ·exact h3
  ·rcases h4 with h5|h5<;>omega
theorem Ls (sl:List Int)(hr:∀s∈sl,s≤255)(hl:sl.length=33)(n:Nat):∀(m j:Nat) (a:List Piec),n≤j→j+m=33→a.length≤33→(∀p,a.getLast? =some p→0≤p.off∧p9 p≤(j:Int)-(n:Int))→a.length+m≤33→aX (λj a=>(cc sl (n:Int) j a).nice) 1 m (j:Int) a= .next (HT a ((j:Int)-(n:Int)) (sl.drop j))
 |0,j,a,h1,h2,_,_,_=>by rw[List.drop_of_length_le (by omega)];simp only[aX,HT]
 |m+1,j,a,h1,h2,h3,h4,h5=>by
  have hj:j<sl.length:=by omega
  have hs:=List.getElem?_eq_getElem hj
  have hs8:=hr _ (sQ hs)
  rw[List.drop_eq_getElem_cons hj]
  generalize sl[j]=s at hs hs8⊢
  have ej:(j:Int)+1=((j+1:Nat):Int):=by omega
  have en:(j:Int)-(n:Int)+1=((j+1:Nat):Int)-(n:Int):=by omega
  by_cases h0:s<0
  ·have ih:=Ls sl hr hl n m (j+1) a (by omega) (by omega) h3 (λp hp=>by have:=h4 p hp;omega) (by omega)
   simp only[PX,cc]at ih
   simp only[aX,PX,cc,ai,getD_some hs,decide_eq_true h0,cond_true,Stp.elim,HT,if_pos h0]
   rw[ej,en]
   exact ih
  ·have hw8:IntKind.wrap .u8 s=s:=WC (by omega) hs8
   rcases List.eq_nil_or_concat a with rfl|⟨b,p,rfl⟩
   ·have ih:=Ls sl hr hl n m (j+1) [⟨(j:Int)-(n:Int),aA [s]⟩] (by omega) (by omega) (by simp) (λp hp=>by
     simp only[List.getLast?_singleton,Option.some.injEq]at hp
     subst hp
     simp only[p9,bi,List.length_singleton];omega) (by simp;omega)
    simp only[PX,cc]at ih
    have e0:decide (0<(([]:List Piec).length:Int))=false:=by simp
    simp only[aX,PX,cc,ai,getD_some hs,decide_eq_false h0,cond_false,Stp.elim,HT,if_neg h0,e0,List.getLast?_nil,hw8,List.nil_append]
    rw[ej,en,au (m:=(j:Int)-(n:Int)) (by omega) (by omega)]
    exact ih
   ·simp only[List.concat_eq_append]at*
    have hp:=h4 p (by simp)
    have hbl:(b++[p]).length=b.length+1:=by simp
    have e0:decide (0<((b++[p]).length:Int))=true:=by rw[decide_eq_true_iff,hbl];omega
    have e1:(IntKind.wrap .i64 (((b++[p]).length:Int)-1)).toNat=b.length:=by rw[hbl,au (by omega) (by omega)];omega
    have e2:(b++[p]).getD b.length (Ty.zero .piec)=p:=by simp[List.getD]
    have e3:∀q,(b++[p]).set b.length q=b++[q]:=λq=>by simp
    have hoff:=hp.1
    have hend:=hp.2
    unfold p9 at hend
    by_cases he:p9 p=(j:Int)-(n:Int)
    ·have ih:=Ls sl hr hl n m (j+1) (b++[⟨p.off,p.text++aA [s]⟩]) (by omega) (by omega) (by simp at h3⊢;omega) (λq hq=>by
      simp only[List.getLast?_append,List.getLast?_singleton,Option.some_or,Option.some.injEq]at hq
      subst hq
      unfold p9 at he
      simp only[p9,List.length_append,bi,List.length_singleton];omega) (by simp at h5⊢;omega)
     simp only[PX,cc]at ih
     have e4:(IntKind.wrap .i64 (p.off+(p.text.length:Int))==IntKind.wrap .i64 ((j:Int)-(n:Int)))=true:=by
      unfold p9 at he
      rw[he];exact beq_self_eq_true _
     simp only[aX,PX,cc,ai,getD_some hs,decide_eq_false h0,cond_false,Stp.elim,HT,if_neg h0,e0,e1,e2,e3,e4,cond_true,hw8,List.getLast?_append,List.getLast?_singleton,Option.some_or,if_pos he,List.dropLast_concat]
     rw[ej,en]
     exact ih
    ·have ih:=Ls sl hr hl n m (j+1) (b++[p]++[⟨(j:Int)-(n:Int),aA [s]⟩]) (by omega) (by omega) (by simp at h3 h5⊢;omega) (λq hq=>by
      simp only[List.getLast?_append,List.getLast?_singleton,Option.some_or,Option.some.injEq]at hq
      subst hq
      simp only[p9,bi,List.length_singleton];omega) (by simp at h5⊢;omega)
     simp only[PX,cc]at ih
     have e4:(IntKind.wrap .i64 (p.off+(p.text.length:Int))==IntKind.wrap .i64 ((j:Int)-(n:Int)))=false:=by
      unfold p9 at he
      rw[au (by omega) (by omega),au (by omega) (by omega),beq_eq_false_iff_ne];exact he
     simp only[aX,PX,cc,ai,getD_some hs,decide_eq_false h0,cond_false,Stp.elim,HT,if_neg h0,e0,e1,e2,e4,cond_true,hw8,List.getLast?_append,List.getLast?_singleton,Option.some_or,if_neg he]
     rw[ej,en,au (m:=(j:Int)-(n:Int)) (by omega) (by omega)]
     exact ih
theorem Bi (sl:List Int)(hr:∀s∈sl,s≤255)(hl:sl.length=33)(n:Nat)(hn:n≤33):mW.f (sl,(n:Int),())=dP 33 0 (sl.drop n):=by
 simp only[PX,mW,gu]
 rw[show Int.toNat ((sl.length:Int)-(n:Int))=33-n by omega]
 rw[Ls sl hr hl n (33-n) n [] (Nat.le_refl _) (by omega) (by simp) (λp hp=>by simp at hp) (by simp)]
 simp only[Stp.elim]
 rw[Int.sub_self,E5 33 [] 0 (sl.drop n) (by rw[List.length_drop];omega) (λp hp=>by simp at hp)]
 rfl
def VM (x:Recv)(sl:List Int)(e:Int)(fin:Bool):Int:=if fin=true∧x.fin<0∧e≤nN x∧(sl.drop e.toNat).all (λs=>decide (s<0))=true then e else x.fin
def PK (x:Recv)(seq:Int)(t:ac):List Int:=F5 x seq (nN x) (vr x.held) 0 t
def pX (x:Recv)(seq:Int)(t:ac)(fin:Bool):Recv:=
 if cf.f (x,())=true∧x.done=false then TS x (PK x seq t) (VM x (PK x seq t) ((seq+(t.length:Int)-x.next)%4294967296) fin)else x
theorem Bl (L:Int):∀(r:List Piec) (a b:Int),0≤a→L≤32→eM L a r=some b→cY po r
 |[],_,_,_,_,_=>λ_ h=>by cases h
 |p::r,a,b,h0,hL,h=>by
  simp only[eM]at h
  cases hc:((p.text==[])||decide (p.off≤a)||decide (L<p.off+(p.text.length:Int)))with
  |true=>rw[hc]at h;cases h
  |false=>
   rw[hc]at h
   simp only[Bool.or_eq_false_iff,decide_eq_false_iff_not]at hc
   have ih:=Bl L r _ b (by omega) hL h
   intro y hy
   rcases List.mem_cons.1 hy with rfl|hy
   ·unfold po;omega
   ·exact ih y hy
theorem NM (x:Recv)(hx:RV x):cY po x.held:=by
 obtain⟨b,hb⟩:=hx.wk
 have h1:=sE x hx.dl
 have h2:=hx.f1
 exact Bl _ x.held 0 b (Int.le_refl _) (by split<;>omega) hb
theorem KM (x:Recv)(seq:Int)(t:ac)(fin:Bool)(hs:cz x.held)(ht:t.length≤4294967296):od.f (x,seq,t,fin,())=pX x seq t fin:=by
 simp only[PX,od,rh,zW x hs]
 unfold pX
 cases hok:cf.f (x,())with
 |false=>rfl
 |true=>
 cases hdn:x.done with
 |true=>rfl
 |false=>
 have hx:=(tW x hs).1 hok
 have hpo:cY po x.held:=NM x hx
 obtain⟨r2,e1⟩:=Yd x seq (nN x) t ⟨hx.n0,hx.n1⟩ ht (⟨0,[],[],0,false⟩:Recv) (vr x.held)
 have hsl:=Lq x hx seq t
 have hw:=sE x hx.dl
 have hn0:=hx.n0
 have hn1:=hx.n1
 have hf0:=hx.f0
 have hf1:=hx.f1
 have hL:PK x seq t=F5 x seq (nN x) (vr x.held) 0 t:=rfl
 rw[←hL]at e1 hsl
 have ee:IntKind.wrap .i64 ((seq+(t.length:Int))%4294967296-x.next)%4294967296=(seq+(t.length:Int)-x.next)%4294967296:=by
  rw[au (by omega) (by omega),Re]
 simp only[Bool.not_true,cond_false,pe,mU x hx.dl,Pq x hpo,fm,e1,Stp.elim,PX,gY,cC,lQ,true_and,if_true,ee]
 obtain⟨e,he⟩:∃e,(seq+(t.length:Int)-x.next)%4294967296=e:=⟨_,rfl⟩
 have he0:0≤e:=by omega
 obtain⟨sl,hsl2⟩:∃sl,PK x seq t=sl:=⟨_,rfl⟩
 simp only[he,hsl2]at hsl⊢
 clear e1 ee hL he hsl2
 obtain⟨hl,hat⟩:=hsl
 have hr:∀s∈sl,s≤255:=λs hs=>by
  obtain⟨k,hk,rfl⟩:=List.getElem_of_mem hs
  exact(hat k _ (List.getElem?_eq_getElem hk)).2.1
 have hld:ba sl<sl.length:=by
  rcases Nat.lt_or_ge (ba sl) sl.length with h|h
  ·exact h
  ·obtain⟨s,h1,h2⟩:=Lc sl 32 (by omega)
   have:=(hat 32 s h1).2.2 h2
   split at this<;>omega
 have hc:(bif fin then bif decide (x.fin<0)then bif decide (e≤nN x)then(qQ.f (sl,e,()),())else(false,())else(false,())else(false,())).1=decide (fin=true∧x.fin<0∧e≤nN x∧(sl.drop e.toNat).all (λs=>decide (s<0))=true):=by
  cases fin with
  |false=>simp
  |true=>
   by_cases c1:x.fin<0
   ·by_cases c2:e≤nN x
    ·have h1:=Sf sl e.toNat (by omega)
     rw[show((e.toNat:Nat):Int)=e by omega]at h1
     simp only[cond_true,decide_eq_true c1,decide_eq_true c2,h1]
     simp only[c1,c2,true_and,Bool.decide_eq_true]
    ·simp[c1,c2]
   ·simp[c1]
 have tail:∀(r u:Recv),(dV (0,x,r,u,sl,[],())).lp.s= .out ((ba sl:Int),({r with held:=[]}:Recv),sl.take (ba sl)):=by
  intro r u
  have:=U8 sl hr hld (ba sl) 0 r (by omega)
  rw[←bq sl.length]at this
  exact this
 have tp:∀(r u:Recv) (w:Int×Recv×List Int),(dV (0,x,r,u,sl,[],())).lp.o w= .inl w:=λ_ _ _=>rfl
 have hld2:(ba sl:Int)≤33:=by omega
 by_cases hcc:fin=true∧x.fin<0∧e≤nN x∧(sl.drop e.toNat).all (λs=>decide (s<0))=true
 ·have hfn:VM x sl e fin=e:=if_pos hcc
  have hew:=hcc.2.2.1
  rw[hfn]
  simp only[hc,decide_eq_true hcc,cond_true]
  dsimp only[Tr.nice]
  simp only[PX,tail,tp,Stp.elim,Sum.elim_inl,Lf,Bi sl hr hl (ba sl) (by omega)]
  unfold TS
  have hd:decide (0≤e)=true:=decide_eq_true (by omega)
  simp only[hd,cond_true]
  rw[au (m:=e-(ba sl:Int)) (by omega) (by omega)]
  change (bif ((e-(ba sl:Int))==0)then(bif decide ((3:Int)<((dP 33 0 (sl.drop (ba sl))).length:Int))then dj.f (x,())else(⟨((x.next+(ba sl:Int))%4294967296+1)%4294967296,x.data++aA (sl.take (ba sl)),dP 33 0 (sl.drop (ba sl)),-1,true⟩:Recv))else(bif decide ((3:Int)<((dP 33 0 (sl.drop (ba sl))).length:Int))then dj.f (x,())else(⟨(x.next+(ba sl:Int))%4294967296,x.data++aA (sl.take (ba sl)),dP 33 0 (sl.drop (ba sl)),(e-(ba sl:Int)),false⟩:Recv)))=_
  rw[rh]
  by_cases h3:3<(dP 33 0 (sl.drop (ba sl))).length
  ·rw[if_pos h3,decide_eq_true (show(3:Int)<((dP 33 0 (sl.drop (ba sl))).length:Int) by omega)]
   cases(e-(ba sl:Int)==0)<;>rfl
  ·rw[if_neg h3,decide_eq_false (show¬(3:Int)<((dP 33 0 (sl.drop (ba sl))).length:Int) by omega)]
   by_cases h4:e-(ba sl:Int)=0
   ·rw[if_pos h4,show(e-(ba sl:Int)==0)=true by simp[h4]]
    simp only[cond_true,cond_false]
    rw[show((x.next+(ba sl:Int))%4294967296+1)%4294967296=(x.next+(ba sl:Int)+1)%4294967296 by omega]
   ·rw[if_neg h4,show(e-(ba sl:Int)==0)=false by simp[h4]]
    simp only[cond_false,if_neg (show¬e= -1 by omega),hdn]
 ·have hfn:VM x sl e fin=x.fin:=if_neg hcc
  rw[hfn]
  simp only[hc,decide_eq_false hcc,cond_false]
  dsimp only[Tr.nice]
  simp only[PX,tail,tp,Stp.elim,Sum.elim_inl,Lf,Bi sl hr hl (ba sl) (by omega)]
  unfold TS
  by_cases hF:0≤x.fin
  ·have hd:decide (0≤x.fin)=true:=decide_eq_true (by omega)
   simp only[hd,cond_true]
   rw[au (m:=x.fin-(ba sl:Int)) (by omega) (by omega)]
   change (bif ((x.fin-(ba sl:Int))==0)then(bif decide ((3:Int)<((dP 33 0 (sl.drop (ba sl))).length:Int))then dj.f (x,())else(⟨((x.next+(ba sl:Int))%4294967296+1)%4294967296,x.data++aA (sl.take (ba sl)),dP 33 0 (sl.drop (ba sl)),-1,true⟩:Recv))else(bif decide ((3:Int)<((dP 33 0 (sl.drop (ba sl))).length:Int))then dj.f (x,())else(⟨(x.next+(ba sl:Int))%4294967296,x.data++aA (sl.take (ba sl)),dP 33 0 (sl.drop (ba sl)),(x.fin-(ba sl:Int)),x.done⟩:Recv)))=_
   rw[rh]
   by_cases h3:3<(dP 33 0 (sl.drop (ba sl))).length
   ·rw[if_pos h3,decide_eq_true (show(3:Int)<((dP 33 0 (sl.drop (ba sl))).length:Int) by omega)]
    cases(x.fin-(ba sl:Int)==0)<;>rfl
   ·rw[if_neg h3,decide_eq_false (show¬(3:Int)<((dP 33 0 (sl.drop (ba sl))).length:Int) by omega)]
    by_cases h4:x.fin-(ba sl:Int)=0
    ·rw[if_pos h4,show(x.fin-(ba sl:Int)==0)=true by simp[h4]]
     simp only[cond_true,cond_false]
     rw[show((x.next+(ba sl:Int))%4294967296+1)%4294967296=(x.next+(ba sl:Int)+1)%4294967296 by omega]
    ·rw[if_neg h4,show(x.fin-(ba sl:Int)==0)=false by simp[h4]]
     simp only[cond_false,if_neg (show¬x.fin= -1 by omega),hdn]
  ·have hF1:x.fin= -1:=by omega
   have hd:decide (0≤x.fin)=false:=decide_eq_false hF
   simp only[hd,cond_false]
   change (bif (x.fin==0)then(bif decide ((3:Int)<((dP 33 0 (sl.drop (ba sl))).length:Int))then dj.f (x,())else(⟨((x.next+(ba sl:Int))%4294967296+1)%4294967296,x.data++aA (sl.take (ba sl)),dP 33 0 (sl.drop (ba sl)),-1,true⟩:Recv))else(bif decide ((3:Int)<((dP 33 0 (sl.drop (ba sl))).length:Int))then dj.f (x,())else(⟨(x.next+(ba sl:Int))%4294967296,x.data++aA (sl.take (ba sl)),dP 33 0 (sl.drop (ba sl)),x.fin,x.done⟩:Recv)))=_
   rw[rh]
   rw[show(x.fin==0)=false by simp[hF1]]
   by_cases h3:3<(dP 33 0 (sl.drop (ba sl))).length
   ·rw[if_pos h3,decide_eq_true (show(3:Int)<((dP 33 0 (sl.drop (ba sl))).length:Int) by omega)]
    rfl
   ·rw[if_neg h3,decide_eq_false (show¬(3:Int)<((dP 33 0 (sl.drop (ba sl))).length:Int) by omega)]
    rw[if_neg (show¬x.fin-(ba sl:Int)=0 by omega),if_pos hF1,hF1,hdn]
    rfl
theorem FN (x:Recv)(seq:Int)(t:ac)(fin:Bool)(hx:RV x):RV (pX x seq t fin):=by
 unfold pX
 by_cases hc:cf.f (x,())=true∧x.done=false
 ·rw[if_pos hc]
  obtain⟨hl,hat⟩:=Lq x hx seq t
  have hw:=sE x hx.dl
  have hf0:=hx.f0
  have hf1:=hx.f1
  change (PK x seq t).length=33 at hl
  change ∀(k:Nat) (s:Int),(PK x seq t)[k]? =some s→_ at hat
  generalize PK x seq t=sl at hl hat
  have he0:0≤(seq+(t.length:Int)-x.next)%4294967296:=by omega
  generalize(seq+(t.length:Int)-x.next)%4294967296=e at he0
  unfold VM
  split
  ·rename_i h
   obtain⟨h1,h2,h3,h4⟩:=h
   refine RE x sl e hx hc.2 hl (by omega) h3 (λk s hk hs=> ?_)
   rw[if_neg (show¬e= -1 by omega)]
   apply Int.not_le.1
   intro hke
   rw[List.all_eq_true]at h4
   have hm:s∈sl.drop e.toNat:=by
    refine List.mem_of_getElem? (i:=k-e.toNat) ?_
    rw[List.getElem?_drop,show e.toNat+(k-e.toNat)=k by omega];exact hk
   have:=h4 s hm
   simp only[decide_eq_true_eq]at this
   omega
  ·exact RE x sl x.fin hx hc.2 hl (by omega) hf1 (λk s hk hs=>(hat k s hk).2.2 hs)
 ·rw[if_neg hc];exact hx
def xY (a b:Int):Int:=if 2147483647<(a-b)%4294967296 then(a-b)%4294967296-4294967296 else(a-b)%4294967296
theorem sr (a b:Int):oa.f (a,b,())=xY a b:=by
 simp only[PX,oa,lQ,Lf]
 rw[au (m:=a%4294967296-b%4294967296) (by omega) (by omega),show(a%4294967296-b%4294967296)%4294967296=(a-b)%4294967296 by omega]
 unfold xY
 by_cases h:2147483647<(a-b)%4294967296
 ·rw[decide_eq_true h,if_pos h,au (by omega) (by omega)];rfl
 ·rw[decide_eq_false h,if_neg h];rfl
def Ol (s:Sndr):Int:=if s.finSent=true then s.sent+1 else s.sent
theorem GE (s:Sndr)(h:SO s):dU.f (s,())=Ol s:=by
 rw[Iw s h];rfl
def eu (s:Sndr)(n:Int):Sndr:=⟨(s.una+n)%4294967296,s.data.drop (if s.sent<n then s.sent else n).toNat,s.sent-(if s.sent<n then s.sent else n),s.fin,if s.sent<n then false else s.finSent,if s.sent<n then true else s.done⟩
def Cc (s:Sndr)(ack:Int):Bool:=bQ.f (s,())&&(decide (0≤xY ack s.una)&&decide (xY ack s.una≤Ol s))
theorem Qg (s:Sndr)(ack:Int):yv.f (s,ack,())=if Cc s ack=true then(eu s (xY ack s.una),true)else(s,false):=by
 simp only[PX,yv,sr,rZ,vt,bE,gY,cC]
 unfold Cc
 cases hk:bQ.f (s,())with
 |false=>rfl
 |true=>
  have hs:=(KE s).1 hk
  rw[GE s hs]
  have h1:=hs.2.2.2.1
  have h2:=hs.2.2.2.2.1
  have h3:=hs.2.2.1
  generalize xY ack s.una=n
  simp only[Bool.not_true,cond_false,Bool.true_and]
  by_cases hn:0≤n∧n≤Ol s
  ·rw[decide_eq_true hn.1,decide_eq_true hn.2]
   simp only[Bool.and_self,Bool.not_true,cond_false,if_true]
   unfold eu
   by_cases hc:s.sent<n
   ·simp only[decide_eq_true hc,if_pos hc,cond_true]
    simp only[PX,ai,List.take_length]
    rw[au (by omega) (by omega)]
   ·simp only[decide_eq_false hc,if_neg hc,cond_false]
    simp only[PX,ai,List.take_length]
    rw[au (by omega) (by omega)]
  ·have e:(decide (0≤n)&&decide (n≤Ol s))=false:=by
    rw[Bool.and_eq_false_iff];simp only[decide_eq_false_iff_not];omega
   rw[e];rfl
theorem N9 (s:Sndr)(hs:SO s)(n:Int)(h0:0≤n)(h1:n≤Ol s):SO (eu s n)∧(eu s n).fin=s.fin∧(s.done=true→(eu s n).done=true):=by
 obtain⟨e1,e2,e3,e4,e5,e6,e7⟩:=hs
 unfold Ol at h1
 by_cases hc:s.sent<n
 ·have ea:eu s n=⟨(s.una+n)%4294967296,s.data.drop s.sent.toNat,s.sent-s.sent,s.fin,false,true⟩:=by unfold eu;simp only[if_pos hc]
  rw[ea]
  have hf:s.finSent=true:=by
   cases hfs:s.finSent with
   |true=>rfl
   |false=>rw[hfs]at h1;simp only[Bool.false_eq_true,if_false]at h1;omega
  have hl:=(e6 hf).2
  refine⟨⟨by show 0≤(s.una+n)%4294967296;omega,by show(s.una+n)%4294967296≤4294967295;omega, ?_, ?_, ?_,λh=>(by cases h),λ_=>⟨(e6 hf).1,rfl, ?_⟩⟩,rfl,λ_=>rfl⟩
  ·show(s.data.drop s.sent.toNat).length≤48
   rw[List.length_drop];omega
  ·show 0≤s.sent-s.sent;omega
  ·show s.sent-s.sent≤((s.data.drop s.sent.toNat).length:Int)
   omega
  ·show s.data.drop s.sent.toNat=[]
   exact List.drop_of_length_le (by omega)
 ·have ea:eu s n=⟨(s.una+n)%4294967296,s.data.drop n.toNat,s.sent-n,s.fin,s.finSent,s.done⟩:=by unfold eu;simp only[if_neg hc]
  rw[ea]
  refine⟨⟨by show 0≤(s.una+n)%4294967296;omega,by show(s.una+n)%4294967296≤4294967295;omega, ?_, ?_, ?_, ?_, ?_⟩,rfl,λh=>h⟩
  ·show(s.data.drop n.toNat).length≤48
   rw[List.length_drop];omega
  ·show 0≤s.sent-n;omega
  ·show s.sent-n≤((s.data.drop n.toNat).length:Int)
   rw[List.length_drop];omega
  ·intro h
   refine⟨(e6 h).1, ?_⟩
   have:=(e6 h).2
   show s.sent-n=((s.data.drop n.toNat).length:Int)
   rw[List.length_drop];omega
  ·intro h
   refine⟨(e7 h).1,(e7 h).2.1, ?_⟩
   show s.data.drop n.toNat=[]
   rw[(e7 h).2.2];simp
def qq (k:Int)(sd rd:Bool):Int:=if k=1 then(if rd=true then 4 else 1)else if k=2 then(if sd=true then(if rd=true then 7 else 3)else if rd=true then 5 else 2)else if k=3 then(if rd=true then 7 else 3)else if k=5 then(if sd=true then 7 else 5)else if k=6 then(if sd=true then 8 else 6)else k
theorem Vi (x:Conn):su.f (x,())=qq x.state x.s.done x.r.done:=by
 simp only[PX,su]
 unfold qq
 by_cases h1:x.state=1
 ·rw[if_pos h1,h1];cases x.r.done<;>first|rfl|exact h1
 by_cases h2:x.state=2
 ·rw[if_neg h1,if_pos h2,h2];cases x.s.done<;>cases x.r.done<;>first|rfl|exact h2
 by_cases h3:x.state=3
 ·rw[if_neg h1,if_neg h2,if_pos h3,h3];cases x.r.done<;>first|rfl|exact h3
 by_cases h5:x.state=5
 ·rw[if_neg h1,if_neg h2,if_neg h3,if_pos h5,h5];cases x.s.done<;>first|rfl|exact h5
 by_cases h6:x.state=6
 ·rw[if_neg h1,if_neg h2,if_neg h3,if_neg h5,if_pos h6,h6];cases x.s.done<;>first|rfl|exact h6
 rw[if_neg h1,if_neg h2,if_neg h3,if_neg h5,if_neg h6]
 rw[show(x.state==1)=false by simp[h1],show(x.state==2)=false by simp[h2],show(x.state==3)=false by simp[h3],show(x.state==5)=false by simp[h5],show(x.state==6)=false by simp[h6]]
 rfl
def KW (x:Conn):Bool:=cJ.f ({x with state:=qq x.state x.s.done x.r.done,timer:=0,tries:=0},())&&((decide (0≤x.timer)&&decide (x.timer≤4))&&(decide (0≤x.tries)&&decide (x.tries≤3)))
def ga (x:Conn):Conn:=
 if KW x=true then
  if qq x.state x.s.done x.r.done=x.state then x
  else if qq x.state x.s.done x.r.done=7 then{x with state:=7,timer:=4,tries:=0}
  else if qq x.state x.s.done x.r.done=8 then{x with state:=8,timer:=0,tries:=0}
  else{x with state:=qq x.state x.s.done x.r.done}
 else x
theorem BU (x:Conn)(hs:cz x.r.held):oC.f (x,())=ga x:=by
 simp only[PX,oC,eQ,Vi,bE]
 rw[z6 ({x with state:=qq x.state x.s.done x.r.done,timer:=0,tries:=0}:Conn) hs]
 unfold ga KW
 generalize(decide (0≤x.timer)&&decide (x.timer≤4))=b1
 generalize(decide (0≤x.tries)&&decide (x.tries≤3))=b2
 generalize qq x.state x.s.done x.r.done=k
 cases cJ.f (({x with state:=k,timer:=0,tries:=0}:Conn),())with
 |false=>rfl
 |true=>
 cases b1 with
 |false=>rfl
 |true=>
 cases b2 with
 |false=>rfl
 |true=>
 simp only[Bool.not_true,cond_false,Bool.and_self,if_true]
 by_cases h1:k=x.state
 ·subst h1
  simp only[if_true,beq_self_eq_true,cond_true]
 ·rw[if_neg h1,show(k==x.state)=false by simp[h1]]
  simp only[cond_false]
  by_cases h7:k=7
  ·subst h7;rfl
  ·rw[if_neg h7,show(k==7)=false by simp[h7]]
   simp only[cond_false]
   by_cases h8:k=8
   ·subst h8;rfl
   ·rw[if_neg h8,show(k==8)=false by simp[h8]];rfl
structure TR (x:Conn):Prop where
 tup:aL.f (x.tuple,())=true
 snd:SO x.s
 rcv:cf.f (x.r,())=true
 opt:ay.f (x.opts,())=true
 s1:1≤x.state
 s7:x.state≤7
 m0:0≤x.most
 m1:x.most≤1073725440
 w0:0≤x.window
 w1:x.window≤x.most
 t0:0≤x.timer
 t4:x.timer≤4
 t3:x.state≠7→x.timer≤3
 r0:0≤x.tries
 r3:x.tries≤3
 fl:Wm (qq x.state x.s.done x.r.done) x.s.fin x.s.done x.r.done=true
theorem VI (k:Int)(sd rd:Bool)(h1:1≤k)(h7:k≤7):1≤qq k sd rd∧qq k sd rd≤8:=by
 unfold qq;repeat' split
 all_goals omega
theorem TR.turned {x:Conn}(h:TR x):CO (ga x):=by
 have hk:=VI x.state x.s.done x.r.done h.s1 h.s7
 have hfl:=h.fl
 have hs1:=h.s1
 have hs7:=h.s7
 have hr0:=h.r0
 have hr3:=h.r3
 have ht0:=h.t0
 have ht4:=h.t4
 have hco:CO ({x with state:=qq x.state x.s.done x.r.done,timer:=0,tries:=0}:Conn):=⟨h.tup,h.snd,h.rcv,h.opt,hk.1,hk.2,h.m0,h.m1,h.w0,h.w1,Int.le_refl _,by show(0:Int)≤4;omega,λ_=>by show(0:Int)≤3;omega,Int.le_refl _,by show(0:Int)≤3;omega,hfl⟩
 have hok:KW x=true:=by
  unfold KW
  rw[(JF _).2 hco,decide_eq_true ht0,decide_eq_true ht4,decide_eq_true hr0,decide_eq_true hr3];rfl
 unfold ga
 rw[if_pos hok]
 by_cases h1:qq x.state x.s.done x.r.done=x.state
 ·rw[if_pos h1]
  rw[h1]at hfl
  exact⟨h.tup,h.snd,h.rcv,h.opt,hs1,by omega,h.m0,h.m1,h.w0,h.w1,ht0,ht4,h.t3,hr0,hr3,hfl⟩
 ·rw[if_neg h1]
  have hn7:x.state≠7:=by
   intro h7;apply h1;rw[h7];rfl
  have ht3:=h.t3 hn7
  by_cases h7:qq x.state x.s.done x.r.done=7
  ·rw[if_pos h7]
   rw[h7]at hfl
   exact⟨h.tup,h.snd,h.rcv,h.opt,by show(1:Int)≤7;omega,by show(7:Int)≤8;omega,h.m0,h.m1,h.w0,h.w1,by show(0:Int)≤4;omega,Int.le_refl _,λhh=>absurd rfl hh,Int.le_refl _,by show(0:Int)≤3;omega,hfl⟩
  ·rw[if_neg h7]
   by_cases h8:qq x.state x.s.done x.r.done=8
   ·rw[if_pos h8]
    rw[h8]at hfl
    exact⟨h.tup,h.snd,h.rcv,h.opt,by show(1:Int)≤8;omega,Int.le_refl _,h.m0,h.m1,h.w0,h.w1,Int.le_refl _,by show(0:Int)≤4;omega,λ_=>by show(0:Int)≤3;omega,Int.le_refl _,by show(0:Int)≤3;omega,hfl⟩
   ·rw[if_neg h8]
    exact⟨h.tup,h.snd,h.rcv,h.opt,hk.1,hk.2,h.m0,h.m1,h.w0,h.w1,ht0,ht4,λ_=>ht3,hr0,hr3,hfl⟩
theorem yi (x:Conn):(ga x).tuple=x.tuple:=by
 unfold ga;repeat' split
 all_goals rfl
def iP (w sc:Int):Int:=w*2 ^ (if sc<0 then 0 else sc).toNat
theorem Eu (w sc:Int)(h0:0≤w)(h1:w≤65535)(h2:sc≤14):0≤iP w sc∧iP w sc≤1073725440:=by
 unfold iP
 have hk:(if sc<0 then 0 else sc).toNat≤14:=by split<;>omega
 generalize(if sc<0 then 0 else sc).toNat=k at hk
 have:k=0∨k=1∨k=2∨k=3∨k=4∨k=5∨k=6∨k=7∨k=8∨k=9∨k=10∨k=11∨k=12∨k=13∨k=14:=by omega
 rcases this with rfl|rfl|rfl|rfl|rfl|rfl|rfl|rfl|rfl|rfl|rfl|rfl|rfl|rfl|rfl<;>simp only[Int.reducePow,Int.pow_zero]<;>omega
theorem hZ (o:Opti)(h:ay.f (o,())=true): -1≤o.scale∧o.scale≤14:=by
 simp only[PX,ay,ax]at h
 revert h
 cases hq:(decide (-1≤o.scale)&&decide (o.scale≤14))with
 |true=>
  intro _
  simpa [Bool.and_eq_true,decide_eq_true_eq]using hq
 |false=>
  cases aa.f (o.mss,16,())<;>cases o.stamp<;>cases(o.val != 0)<;>cases(o.echo != 0)<;>simp
def uz (c:Conn)(g:Segm):Conn:=
 if Cc c.s g.ack=true then
  if((eu c.s (xY g.ack c.s.una)).una≠c.s.una∨Ol (eu c.s (xY g.ack c.s.una))=0)∧c.state≠7 then
   ⟨c.tuple,c.state,eu c.s (xY g.ack c.s.una),c.r,iP g.window c.opts.scale,if c.most<iP g.window c.opts.scale then iP g.window c.opts.scale else c.most,c.opts,if 0<Ol (eu c.s (xY g.ack c.s.una))then 3 else 0,0⟩
  else⟨c.tuple,c.state,eu c.s (xY g.ack c.s.una),c.r,iP g.window c.opts.scale,if c.most<iP g.window c.opts.scale then iP g.window c.opts.scale else c.most,c.opts,c.timer,c.tries⟩
 else c
def gn (c:Conn)(g:Segm):Conn:=
 if 1≤c.state∧c.state≤3 then ga {uz c g with r:=pX c.r g.seq g.body (fV.f (g,1,()))}else ga (uz c g)
theorem UI (k:Int)(h1:1≤k)(h7:k≤7)(sf sd rd sd' rd':Bool)(h:Wm k sf sd rd=true)(hsd:sd=true→sd'=true)(hsf:sd'=true→sf=true)(hrd:rd'=rd∨(rd=false∧k≤3)):Wm (qq k sd' rd') sf sd' rd'=true:=by
 have hk:k=1∨k=2∨k=3∨k=4∨k=5∨k=6∨k=7:=by omega
 rcases hk with rfl|rfl|rfl|rfl|rfl|rfl|rfl<;>revert h hsd hsf hrd<;>revert sf sd rd sd' rd'<;>decide+kernel
theorem RV.small {x:Recv}(h:RV x):cz x.held:=by
 intro y hy
 have:=NM x h y hy
 unfold po at this;omega
theorem Ii (g:Segm)(n:Int):fV.f (g,n,())=br.f (g,n,()):=by simp only[PX,fV,br]
theorem sv (g:Segm):gQ.f (g,())=bv.f (g,()):=by simp only[PX,gQ,bv,Ii]
def wn (x o n:Int):Bool:=decide (0<n)&&decide ((x-o)%4294967296<n)
theorem mu (x o n:Int):mj.f (x,o,n,())=wn x o n:=by
 simp only[PX,mj,lQ]
 unfold wn
 rw[au (by omega) (by omega),show(x%4294967296-o%4294967296)%4294967296=(x-o)%4294967296 by omega]
 cases decide (0<n)<;>rfl
def YB (x n o w:Int):Bool:=decide (0<n)&&(decide (0<w)&&(decide ((x-o)%4294967296<w)||decide ((o-x)%4294967296<n)))
theorem Iz (x o w:Int):∀(k j:Nat),j+k≤65536→(aX (λj a=>(hY x o w j a).nice) 1 k (j:Int) ()= .next ()∧∀i:Nat,j≤i→i<j+k→wn (x+(i:Int)) o w=false)∨(aX (λj a=>(hY x o w j a).nice) 1 k (j:Int) ()= .out (.inl ())∧∃i:Nat,j≤i∧i<j+k∧wn (x+(i:Int)) o w=true)
 |0,j,_=> .inl ⟨rfl,λi h1 h2=>by omega⟩
 |k+1,j,h=>by
  have ih:=Iz x o w k (j+1) (by omega)
  have e:wn ((x+(j:Int))%4294967296) o w=wn (x+(j:Int)) o w:=by
   unfold wn
   rw[show((x+(j:Int))%4294967296-o)%4294967296=(x+(j:Int)-o)%4294967296 by omega]
  simp only[aX,PX,hY,gY,cC,mu,decide_eq_true (show(j:Int)<65536 by omega),cond_true,e]
  simp only[PX,hY,gY,cC,mu]at ih
  cases hj:wn (x+(j:Int)) o w with
  |true=>exact .inr ⟨rfl,j,Nat.le_refl _,by omega,hj⟩
  |false=>
   simp only[cond_false,Stp.elim]
   rw[show(j:Int)+1=((j+1:Nat):Int) by omega]
   rcases ih with⟨h1,h2⟩|⟨h1,i,h2,h3,h4⟩
   ·refine .inl ⟨h1,λi h3 h4=> ?_⟩
    rcases Nat.eq_or_lt_of_le h3 with h5|h5
    ·rw[←h5];exact hj
    ·exact h2 i h5 (by omega)
   ·exact .inr ⟨h1,i,by omega,by omega,h4⟩
theorem HA (x n o w:Int)(hn:n≤65536)(hw:w≤2147483648):rM.f (x,n,o,w,())=YB x n o w:=by
 simp only[PX,rM,j3]
 have key:=Iz x o w (Int.toNat (n-0)) 0 (by omega)
 rw[show((0:Nat):Int)=0 from rfl]at key
 unfold YB
 rcases key with⟨h1,h2⟩|⟨h1,i,h2,h3,h4⟩
 ·rw[h1]
  simp only[Stp.elim,Sum.elim_inr,Sum.elim_inl]
  by_cases c1:0<n
  ·by_cases c2:0<w
   ·have a0:=h2 0 (Nat.le_refl _) (by omega)
    unfold wn at a0
    rw[decide_eq_true c2,show x+((0:Nat):Int)=x by omega,Bool.true_and,decide_eq_false_iff_not]at a0
    have a1:¬(o-x)%4294967296<n:=by
     intro h
     have:=h2 ((o-x)%4294967296).toNat (by omega) (by omega)
     unfold wn at this
     rw[decide_eq_true c2,Bool.true_and,decide_eq_false_iff_not]at this
     omega
    rw[decide_eq_true c1,decide_eq_true c2,decide_eq_false a0,decide_eq_false a1];rfl
   ·rw[decide_eq_false c2];cases decide (0<n)<;>rfl
  ·rw[decide_eq_false c1];rfl
 ·rw[h1]
  simp only[Stp.elim,Sum.elim_inr,Sum.elim_inl]
  unfold wn at h4
  simp only[Bool.and_eq_true,decide_eq_true_eq]at h4
  have c1:0<n:=by omega
  rw[decide_eq_true c1,decide_eq_true h4.1]
  by_cases c3:(x-o)%4294967296<w
  ·rw[decide_eq_true c3];rfl
  ·rw[decide_eq_true (show(o-x)%4294967296<n by omega),Bool.or_true];rfl
def Tw (c:Conn)(g:Segm):Bool:=bif bv.f (g,())==0 then xY g.seq c.r.next==0||wn g.seq c.r.next (nN c.r)else YB g.seq (bv.f (g,())) c.r.next (nN c.r)
theorem uE (g:Segm)(hb:g.body.length≤60000):0≤bv.f (g,())∧bv.f (g,())≤(g.body.length:Int)+2:=by
 simp only[PX,bv]
 rw[au (m:=(g.body.length:Int)+1) (by omega) (by omega),au (m:=(g.body.length:Int)+1+1) (by omega) (by omega)]
 cases br.f (g,2,())<;>cases br.f (g,1,())<;>simp only[cond_true,cond_false]<;>omega
theorem C8 (c:Conn)(g:Segm)(hd:c.r.data.length≤32)(hb:g.body.length≤60000):nE.f (c,g,())=Tw c g:=by
 have h1:=uE g hb
 have hw:=sE c.r hd
 simp only[PX,nE,sv,pe,mU c.r hd,sr,mu,HA _ _ _ _ (show bv.f (g,())≤65536 by omega) (show nN c.r≤2147483648 by omega)]
 unfold Tw
 cases(bv.f (g,())==0)with
 |false=>rfl
 |true=>cases(xY g.seq c.r.next==0)<;>rfl
def RT (c:Conn)(a:Int):Bool:=decide (xY a c.s.una≤Ol c.s)&&(decide (0≤xY a c.s.una)||decide (-c.most≤xY a c.s.una))
theorem JN (c:Conn)(a:Int)(hs:SO c.s)(h0:0≤c.most)(h1:c.most≤1073725440):vG.f (c,a,())=RT c a:=by
 simp only[PX,vG,sr,vt,GE c.s hs]
 unfold RT
 rw[au (by omega) (by omega),decide_eq_false (show¬2147483648≤c.most by omega)]
 generalize xY a c.s.una=d
 cases decide (d≤Ol c.s)with
 |false=>rfl
 |true=>
  by_cases h2:0≤d
  ·rw[decide_eq_true h2];rfl
  ·rw[decide_eq_false h2]
   by_cases h3:0<c.most
   ·rw[decide_eq_true h3,show(0-c.most)= -c.most by omega];rfl
   ·rw[decide_eq_false h3,decide_eq_false (show¬-c.most≤d by omega)];rfl
def Ht (c:Conn)(g:Segm):Int:=
 bif cJ.f (c,())&&(!(c.state==8)&&aj.f (g,()))then
  bif br.f (g,4,())then(bif g.seq==c.r.next then 2 else bif wn g.seq c.r.next (nN c.r)then 3 else 1)
  else bif br.f (g,2,())then 3
  else bif !Tw c g then 4
  else bif !br.f (g,16,())then 1
  else bif !RT c g.ack then 3 else 5
 else 1
theorem fg (g:Segm)(h:aj.f (g,())=true):g.body.length≤1420:=by
 simp only[PX,aj]at h
 revert h
 cases aa.f (g.from_,16,())<;>cases aa.f (g.to,16,())<;>cases aa.f (g.seq,32,())<;>cases aa.f (g.ack,32,())<;>cases aa.f (g.flags,6,())<;>cases aa.f (g.window,16,())<;>cases ay.f (g.opts,())<;>simp<;>omega
theorem zU (c:Conn)(g:Segm)(hs:cz c.r.held):rk.f (c,g,())=Ht c g:=by
 simp only[PX,rk,z6 c hs,mQ,Ii]
 unfold Ht
 rcases Bool.eq_false_or_eq_true (cJ.f (c,()))with h1|h1
 case inr=>rw[h1];rfl
 rcases Bool.eq_false_or_eq_true (c.state==8)with h2|h2
 ·rw[h1,h2];rfl
 rcases Bool.eq_false_or_eq_true (aj.f (g,()))with h3|h3
 case inr=>rw[h1,h2,h3];rfl
 have hc:=(JF c).1 h1
 have hr:=(tW c.r hs).1 hc.rcv
 have hb:=fg g h3
 simp only[h1,h2,h3,pe,mU c.r hr.dl,mu,C8 c g hr.dl (by omega),JN c g.ack hc.snd hc.m0 hc.m1,Bool.not_true,Bool.not_false,cond_true,cond_false,Bool.and_self]
 cases br.f (g,4,())with
 |false=>rfl
 |true=>cases(g.seq==c.r.next)<;>cases wn g.seq c.r.next (nN c.r)<;>rfl
theorem TT (w sc:Int)(h0:0≤w)(h1:w≤65535)(h2:sc≤14):IntKind.wrap .i64 (w*2 ^ (min (if sc<0 then 0 else sc).toNat 64))=iP w sc∧iP w sc≤1073725440:=by
 have hr:=Eu w sc h0 h1 h2
 have hk:(if sc<0 then 0 else sc).toNat≤14:=by split<;>omega
 rw[Nat.min_eq_left (by omega)]
 unfold iP at hr⊢
 exact⟨au (by omega) (by omega),hr.2⟩
theorem D1 (n:Int)(h0:0≤n)(h1:n≤100):IntKind.wrap .u64 n=n:=by rw[vH];omega
structure V5 (c:Conn)(g:Segm):Prop where
 co:CO c
 s8:c.state≠8
 sg:aj.f (g,())=true
 n4:br.f (g,4,())=false
 n2:br.f (g,2,())=false
 fit:RT c g.ack=true
theorem Yt (c:Conn)(g:Segm)(h:Ht c g=5):V5 c g:=by
 unfold Ht at h
 cases h1:cJ.f (c,())with
 |false=>rw[h1]at h;simp at h
 |true=>
 cases h2:(c.state==8)with
 |true=>rw[h1,h2]at h;simp at h
 |false=>
 cases h3:aj.f (g,())with
 |false=>rw[h1,h2,h3]at h;simp at h
 |true=>
 rw[h1,h2,h3]at h
 simp only[Bool.not_false,Bool.and_self,cond_true]at h
 cases h4:br.f (g,4,())with
 |true=>
  rw[h4]at h
  simp only[cond_true]at h
  exfalso;revert h
  cases(g.seq==c.r.next)<;>cases wn g.seq c.r.next (nN c.r)<;>simp
 |false=>
 rw[h4]at h
 simp only[cond_false]at h
 cases h5:br.f (g,2,())with
 |true=>rw[h5]at h;simp at h
 |false=>
 rw[h5]at h
 simp only[cond_false]at h
 refine⟨(JF c).1 h1,by simpa using h2,h3,h4,h5, ?_⟩
 revert h
 cases Tw c g<;>cases br.f (g,16,())<;>cases RT c g.ack<;>simp
theorem bB (g:Segm):aj.f (g,())=true↔((0≤g.from_∧g.from_≤65535)∧(0≤g.to∧g.to≤65535)∧(0≤g.seq∧g.seq≤4294967295)∧(0≤g.ack∧g.ack≤4294967295)∧(0≤g.flags∧g.flags≤63)∧(0≤g.window∧g.window≤65535)∧ay.f (g.opts,())=true∧g.body.length≤1420):=by
 simp only[PX,aj,bz,bb,El]
 rw[show((g.body.length≤1420)↔decide (((g.body.length:Nat):Int)≤1420)=true) by simp;omega]
 simp only[←Bool.decide_and,Bool.cond_eq_ite,Bool.if_false_right,Bool.decide_eq_true,Bool.and_eq_true,decide_eq_true_eq]
 constructor
 ·rintro⟨a,b,w,s,k,f,o,bd⟩;exact⟨a,b,s,k,f,w,o,bd⟩
 ·rintro⟨a,b,s,k,f,w,o,bd⟩;exact⟨a,b,w,s,k,f,o,bd⟩
theorem UE (a b:Int):iC.f (a,b,())=if a<b then a else b:=md a b
theorem GG (a b:Int):eE.f (a,b,())=if b<a then a else b:=oH a b
theorem Nz (w sc:Int)(h0:0≤w)(h1:w≤65535)(h2:sc≤14):iC.f (1073725440,IntKind.wrap .i64 (w*2 ^ (min (IntKind.wrap .u64 (eE.f (0,sc,()))).toNat 64)),())=iP w sc:=by
 obtain⟨e1,e2⟩:=TT w sc h0 h1 h2
 rw[GG,show(if sc<0 then(0:Int)else sc)=(if sc<0 then 0 else sc) from rfl,D1 _ (by split<;>omega) (by split<;>omega),e1,UE,if_neg (by omega)]
theorem Pg (a b f k:Int):(bif a != b then(k != 7,())else bif f==0 then(k != 7,())else(false,())).1=decide ((a≠b∨f=0)∧k≠7):=by
 cases h1:(a != b)<;>cases h2:(f==0)<;>cases h3:(k != 7)<;>simp_all
theorem I9 (x:Recv)(seq:Int)(t:ac)(fin:Bool)(hx:RV x):cz (pX x seq t fin).held:=(FN x seq t fin hx).small
theorem QB (c:Conn)(g:Segm)(hs:cz c.r.held):z4.f (c,g,())=if Ht c g=5 then gn c g else c:=by
 simp only[PX,z4,eQ,zU c g hs]
 by_cases hv:Ht c g=5
 ·rw[if_pos hv,show(Ht c g != 5)=false by simp[hv]]
  have h:=Yt c g hv
  have hr:=(tW c.r hs).1 h.co.rcv
  have hb:=fg g h.sg
  have hw:=((bB g).1 h.sg).2.2.2.2.2.1
  have hsc:=(hZ c.opts h.co.opt).2
  have hS:=Nz g.window c.opts.scale hw.1 hw.2 hsc
  have tl:∀u:Conn,u.r=c.r→(bif bN.f (c.state,1,3,())then oC.f (({u with r:=od.f (c.r,g.seq,g.body,fV.f (g,1,()),())}:Conn),())else oC.f (u,()))=if 1≤c.state∧c.state≤3 then ga {u with r:=pX c.r g.seq g.body (fV.f (g,1,()))}else ga u:=by
   intro u hu
   rw[KM c.r _ _ _ hs (by omega),BU u (by rw[hu];exact hs),BU _ (I9 c.r _ _ _ hr),bE]
   by_cases h3:1≤c.state∧c.state≤3
   ·rw[if_pos h3,decide_eq_true h3.1,decide_eq_true h3.2];rfl
   ·rw[if_neg h3,show(decide (1≤c.state)&&decide (c.state≤3))=false by rw[Bool.and_eq_false_iff];simp only[decide_eq_false_iff_not];omega];rfl
  simp only[Qg,cond_false]
  unfold gn uz
  by_cases ha:Cc c.s g.ack=true
  ·have hso:=N9 c.s h.co.snd (xY g.ack c.s.una) (by
    unfold Cc at ha;simp only[Bool.and_eq_true,decide_eq_true_eq]at ha;exact ha.2.1) (by
    unfold Cc at ha;simp only[Bool.and_eq_true,decide_eq_true_eq]at ha;exact ha.2.2)
   have hM:eE.f (c.most,iP g.window c.opts.scale,())=if c.most<iP g.window c.opts.scale then iP g.window c.opts.scale else c.most:=by
    rw[GG];split<;>split<;>omega
   simp only[if_pos ha,cond_true,vt,GE _ hso.1,hS,hM]
   have hcnd:(bif (eu c.s (xY g.ack c.s.una)).una != c.s.una then(c.state != 7,())else bif Ol (eu c.s (xY g.ack c.s.una))==0 then(c.state != 7,())else(false,())).1=decide (((eu c.s (xY g.ack c.s.una)).una≠c.s.una∨Ol (eu c.s (xY g.ack c.s.una))=0)∧c.state≠7):=Pg _ _ _ _
   rw[hcnd]
   have tl2:=λ(t r:Int)=>tl ({c with s:=eu c.s (xY g.ack c.s.una),window:=iP g.window c.opts.scale,most:=(if c.most<iP g.window c.opts.scale then iP g.window c.opts.scale else c.most),timer:=t,tries:=r}:Conn) rfl
   by_cases hq:((eu c.s (xY g.ack c.s.una)).una≠c.s.una∨Ol (eu c.s (xY g.ack c.s.una))=0)∧c.state≠7
   ·simp only[decide_eq_true hq,if_pos hq,cond_true]
    by_cases h0:0<Ol (eu c.s (xY g.ack c.s.una))
    ·simp only[decide_eq_true h0,if_pos h0,cond_true]
     dsimp only[Tr.nice]
     exact tl2 3 0
    ·simp only[decide_eq_false h0,if_neg h0,cond_false]
     dsimp only[Tr.nice]
     exact tl2 0 0
   ·simp only[decide_eq_false hq,if_neg hq,cond_false]
    dsimp only[Tr.nice]
    exact tl2 c.timer c.tries
  ·simp only[if_neg ha,cond_false]
   dsimp only[Tr.nice]
   exact tl c rfl
 ·rw[if_neg hv,show(Ht c g != 5)=true by simp[hv]];rfl
structure H1 (c u:Conn):Prop where
 tup:u.tuple=c.tuple
 st:u.state=c.state
 op:u.opts=c.opts
 rr:u.r=c.r
 so:SO u.s
 fin:u.s.fin=c.s.fin
 dn:c.s.done=true→u.s.done=true
 m0:0≤u.most
 m1:u.most≤1073725440
 w0:0≤u.window
 w1:u.window≤u.most
 t0:0≤u.timer
 t4:u.timer≤4
 t3:c.state≠7→u.timer≤3
 r0:0≤u.tries
 r3:u.tries≤3
theorem UQ (c:Conn)(g:Segm)(h:V5 c g):H1 c (uz c g):=by
 have hc:=h.co
 have hw:=((bB g).1 h.sg).2.2.2.2.2.1
 have hsc:=(hZ c.opts hc.opt).2
 have hr:=Eu g.window c.opts.scale hw.1 hw.2 hsc
 have a1:=hc.m0
 have a2:=hc.m1
 have a3:=hc.w0
 have a4:=hc.w1
 have a5:=hc.t0
 have a6:=hc.t4
 have a7:=hc.r0
 have a8:=hc.r3
 unfold uz
 split
 ·rename_i ha
  have hso:=N9 c.s hc.snd (xY g.ack c.s.una) (by
    unfold Cc at ha;simp only[Bool.and_eq_true,decide_eq_true_eq]at ha;exact ha.2.1) (by
    unfold Cc at ha;simp only[Bool.and_eq_true,decide_eq_true_eq]at ha;exact ha.2.2)
  split
  ·refine⟨rfl,rfl,rfl,rfl,hso.1,hso.2.1,hso.2.2, ?_, ?_,hr.1, ?_, ?_, ?_,λ_=> ?_,Int.le_refl _,by show(0:Int)≤3;omega⟩
   ·show 0≤(if c.most<iP g.window c.opts.scale then iP g.window c.opts.scale else c.most);split<;>omega
   ·show(if c.most<iP g.window c.opts.scale then iP g.window c.opts.scale else c.most)≤1073725440;split<;>omega
   ·show iP g.window c.opts.scale≤(if c.most<iP g.window c.opts.scale then iP g.window c.opts.scale else c.most);split<;>omega
   ·show 0≤(if 0<Ol (eu c.s (xY g.ack c.s.una))then(3:Int)else 0);split<;>omega
   ·show(if 0<Ol (eu c.s (xY g.ack c.s.una))then(3:Int)else 0)≤4;split<;>omega
   ·show(if 0<Ol (eu c.s (xY g.ack c.s.una))then(3:Int)else 0)≤3;split<;>omega
  ·refine⟨rfl,rfl,rfl,rfl,hso.1,hso.2.1,hso.2.2, ?_, ?_,hr.1, ?_,a5,a6,hc.t3,a7,a8⟩
   ·show 0≤(if c.most<iP g.window c.opts.scale then iP g.window c.opts.scale else c.most);split<;>omega
   ·show(if c.most<iP g.window c.opts.scale then iP g.window c.opts.scale else c.most)≤1073725440;split<;>omega
   ·show iP g.window c.opts.scale≤(if c.most<iP g.window c.opts.scale then iP g.window c.opts.scale else c.most);split<;>omega
 ·exact⟨rfl,rfl,rfl,rfl,hc.snd,rfl,λh=>h,a1,a2,a3,a4,a5,a6,hc.t3,a7,a8⟩
theorem L0 {s:Sndr}(h:SO s)(hd:s.done=true):s.fin=true:=(h.2.2.2.2.2.2 hd).1
theorem Rq {c u:Conn}(hc:CO c)(h8:c.state≠8)(h:H1 c u)(rv:Recv)(hrv:RV rv)(hd:rv.done=c.r.done∨(c.r.done=false∧c.state≤3)):TR ({u with r:=rv}:Conn):=by
 have s1:=hc.s1
 have s8:=hc.s8
 refine⟨by show aL.f (u.tuple,())=true;rw[h.tup];exact hc.tup,h.so,(tW rv hrv.small).2 hrv,by show ay.f (u.opts,())=true;rw[h.op];exact hc.opt,by show 1≤u.state;rw[h.st];exact s1,by show u.state≤7;rw[h.st];omega,h.m0,h.m1,h.w0,h.w1,h.t0,h.t4,λhn=>h.t3 (by rw[←h.st];exact hn),h.r0,h.r3, ?_⟩
 show Wm (qq u.state u.s.done rv.done) u.s.fin u.s.done rv.done=true
 rw[h.st,h.fin]
 exact UI c.state s1 (by omega) c.s.fin c.s.done c.r.done u.s.done rv.done hc.fl h.dn (λhh=>by rw[←h.fin];exact L0 h.so hh) hd
theorem Xp (k:Int)(sf sd rd:Bool)(h:Wm k sf sd rd=true)(h1:1≤k)(h3:k≤3):rd=false:=by
 have hk:k=1∨k=2∨k=3:=by omega
 rcases hk with rfl|rfl|rfl<;>revert h<;>revert sf sd rd<;>decide+kernel
theorem NN (x:Conn):(ga x).s=x.s:=by
 unfold ga;repeat' split
 all_goals rfl
theorem OE (x:Conn):(ga x).r=x.r:=by
 unfold ga;repeat' split
 all_goals rfl
theorem MT (x:Conn)(h:(ga x).state=8)(h8:x.state≠8):x.state=6∧x.s.done=true:=by
 have hl:qq x.state x.s.done x.r.done=8:=by
  unfold ga at h
  split at h
  ·split at h
   ·exact absurd h h8
   ·split at h
    ·simp at h
    ·split at h
     ·assumption
     ·exact h
  ·exact absurd h h8
 unfold qq at hl
 repeat' split at hl
 all_goals first|omega|(rename_i h6 hd;exact⟨by assumption,by assumption⟩)
theorem Ly (c:Conn)(g:Segm)(hs:cz c.r.held)(hv:Ht c g=5):CO (gn c g)∧(gn c g).tuple=c.tuple∧((gn c g).state=8→c.state=6∧(gn c g).s.done=true)∧cz (gn c g).r.held:=by
 have h:=Yt c g hv
 have hH:=UQ c g h
 have hr:=(tW c.r hs).1 h.co.rcv
 unfold gn
 by_cases h3:1≤c.state∧c.state≤3
 ·rw[if_pos h3]
  have hT:=Rq h.co h.s8 hH (pX c.r g.seq g.body (fV.f (g,1,()))) (FN _ _ _ _ hr) (.inr ⟨Xp _ _ _ _ h.co.fl h3.1 h3.2,h3.2⟩)
  refine⟨hT.turned,by rw[yi];exact hH.tup,λh8=> ?_, ?_⟩
  ·have:=MT _ h8 (by show(uz c g).state≠8;rw[hH.st];exact h.s8)
   rw[NN]
   exact⟨by rw[←hH.st];exact this.1,this.2⟩
  ·rw[OE];exact I9 _ _ _ _ hr
 ·rw[if_neg h3]
  have hT:=Rq h.co h.s8 hH c.r hr (.inl rfl)
  have e:({uz c g with r:=c.r}:Conn)=uz c g:=by rw[←hH.rr]
  rw[e]at hT
  refine⟨hT.turned,by rw[yi];exact hH.tup,λh8=> ?_, ?_⟩
  ·have:=MT _ h8 (by rw[hH.st];exact h.s8)
   rw[NN]
   exact⟨by rw[←hH.st];exact this.1,this.2⟩
  ·rw[OE,hH.rr];exact hs
theorem Xi (c:Conn)(g:Segm):Ht c g=1∨Ht c g=2∨Ht c g=3∨Ht c g=4∨Ht c g=5:=by
 unfold Ht
 cases(cJ.f (c,())&&(!(c.state==8)&&aj.f (g,())))with
 |false=>exact .inl rfl
 |true=>
  cases br.f (g,4,())<;>cases(g.seq==c.r.next)<;>cases wn g.seq c.r.next (nN c.r)<;>cases br.f (g,2,())<;>cases Tw c g<;>cases br.f (g,16,())<;>cases RT c g.ack<;>simp
def fJ (c:Conn)(g:Segm):Conn×List Segm×Int:=
 if Ht c g=2 then({c with state:=8,timer:=0,tries:=0},[],2)
 else if Ht c g=3 then(c,[cL.f (c,())],3)
 else if Ht c g=4 then(if c.state=7∧br.f (g,1,())=true then{c with timer:=4}else c,[cL.f (c,())],4)
 else if Ht c g=5 then
  (if(gn c g).state=8 then(gn c g,[],5)
  else((gt.f (gn c g,(gn c g).window,())).1,if(gt.f (gn c g,(gn c g).window,())).2=[]∧bv.f (g,())≠0 then[cL.f ((gt.f (gn c g,(gn c g).window,())).1,())]else(gt.f (gn c g,(gn c g).window,())).2,5))
 else(c,[],1)
theorem Uh (c:Conn)(w:Int)(hc:SO c.s)(h:(gt.f (c,w,())).2=[]):(gt.f (c,w,())).1=c:=by
 revert h
 simp only[PX,gt,eL,gA]
 cases(bif !cJ.f (c,())then(true,())else bif (c.state==8)then(true,())else((c.state==7),())).1 with
 |true=>exact λ_=>rfl
 |false=>
 simp only[cond_false]
 have key:=pV (f:=λa=>(bx w a).nice) (Inv:=λa=>Sent c a.2.1∧(a.2.2=[]→a.2.1=c)) (Q:=λp=>p.2.2=[]→p.2.1=c) (meas:=λa=>Be a.2.1.s) (λa hi a' he=>by
  rcases n3 w c a hi.1 with⟨l,e⟩|⟨a2,e,h1,h2⟩
  ·simp only[e]at he;cases he
  ·simp only[e,Stp.next.injEq]at he;subst he
   refine⟨⟨h1,λh3=> ?_⟩,h2⟩
   exfalso
   obtain⟨a1,a2',al⟩:=a
   revert e
   simp only[PX,bx]
   cases(aR.f (a2'.s,w,cB.f (a2',()),())).2 with
   |false=>intro e;cases e
   |true=>
    cases((aR.f (a2'.s,w,cB.f (a2',()),())).1.text==[])<;>cases(aR.f (a2'.s,w,cB.f (a2',()),())).1.fin<;>(intro e;simp only[Stp.next.injEq,cond_true,cond_false,Bool.not_true,Bool.not_false]at e;subst e;simp at h3)) (λa hi p he=>by
  rcases n3 w c a hi.1 with⟨l,e⟩|⟨a2,e,h1,h2⟩
  ·obtain⟨a1,a2',al⟩:=a
   have hl:l=al:=by
    revert e
    simp only[PX,bx]
    cases(aR.f (a2'.s,w,cB.f (a2',()),())).2 with
    |false=>intro e;cases e;rfl
    |true=>cases((aR.f (a2'.s,w,cB.f (a2',()),())).1.text==[])<;>cases(aR.f (a2'.s,w,cB.f (a2',()),())).1.fin<;>(intro e;cases e)
   simp only[e,Stp.out.injEq]at he;subst he;subst hl;exact hi.2
  ·simp only[e]at he;cases he) (Be c.s+1) (⟨⟨0,0,0⟩,0,⟨0,[],0,false,false,false⟩,⟨0,[],[],0,false⟩,0,0,⟨0,0,false,false,0,0⟩,0,0⟩,c,[]) (Nat.lt_succ_self _) ⟨Sent.refl c hc,λ_=>rfl⟩
 obtain⟨q,hq⟩:∃q,bG (λa=>(bx w a).nice) (Be c.s+1) (⟨⟨0,0,0⟩,0,⟨0,[],0,false,false,false⟩,⟨0,[],[],0,false⟩,0,0,⟨0,0,false,false,0,0⟩,0,0⟩,c,[])=q:=⟨_,rfl⟩
 rw[hq]at key
 simp only[hq]
 obtain⟨q1,q2,q3⟩:=q
 simp only[]at key⊢
 intro h3
 have h4:q3=[]:=by
  revert h3
  cases(bif decide (0<(q3.length:Int))then((q2.timer==0),())else(false,())).1<;>exact λh=>h
 subst h4
 rw[key rfl]
 rfl
theorem yT (c:Conn)(g:Segm)(hs:cz c.r.held):nX.f (c,g,())=fJ c g:=by
 simp only[PX,nX,eQ,zU c g hs,QB c g hs,yo,sv,Ii]
 have hv:=Xi c g
 have h5:=Ly c g hs
 have hb:Ht c g=5→g.body.length≤1420:=λh=>fg g (Yt c g h).sg
 unfold fJ
 generalize Ht c g=v at hv h5 hb⊢
 rcases hv with rfl|rfl|rfl|rfl|rfl
 ·rfl
 ·rfl
 ·show(c,[eH.f (c,())],(3:Int))=_
  rw[yo];rfl
 ·have e:(bif (4:Int)==4 then bif c.state==7 then(br.f (g,1,()),())else(false,())else(false,())).1=decide (c.state=7∧br.f (g,1,())=true):=by
   by_cases h7:c.state=7
   ·simp[h7]
   ·rw[show(c.state==7)=false by simp[h7],decide_eq_false (λh=>h7 h.1)];rfl
  rw[e]
  by_cases hq:c.state=7∧br.f (g,1,())=true
  ·rw[decide_eq_true hq];simp only[if_pos hq]
   show(({c with timer:=4}:Conn),[eH.f (c,())],(4:Int))=_
   rw[yo];rfl
  ·rw[decide_eq_false hq];simp only[if_neg hq]
   show(c,[eH.f (c,())],(4:Int))=_
   rw[yo];rfl
 ·simp only[if_true]
  rw[if_neg (show¬(5:Int)=2 by omega),if_neg (show¬(5:Int)=3 by omega),if_neg (show¬(5:Int)=4 by omega)]
  obtain⟨hx,-,-,hxs⟩:=h5 rfl
  have hl:=uE g (by have:=hb rfl;omega)
  generalize gn c g=x at hx hxs⊢
  have hP:=Xq x x.window (by have:=hx.w1;have:=hx.m1;omega) hxs
  have hN:=Uh x x.window hx.snd
  change (bif x.state==8 then(x,[],(5:Int))else bif (bif decide (0<bv.f (g,()))then(((jA.f (x,x.window,())).2.length:Int)==0,())else(false,())).1 then((jA.f (x,x.window,())).1,(jA.f (x,x.window,())).2++[cL.f (x,())],5)else((jA.f (x,x.window,())).1,(jA.f (x,x.window,())).2,5))=_
  rw[hP]
  by_cases h8:x.state=8
  ·rw[if_pos h8,show(x.state==8)=true by simp[h8]];rfl
  ·rw[if_neg h8,show(x.state==8)=false by simp[h8]]
   generalize gt.f (x,x.window,())=p at hN⊢
   obtain⟨p1,p2⟩:=p
   cases p2 with
   |nil=>
    have hN:=hN rfl
    simp only[]at hN
    subst hN
    by_cases h0:bv.f (g,())=0
    ·simp[h0]
    ·rw[decide_eq_true (show 0<bv.f (g,()) by omega)]
     simp[h0]
   |cons a r=>
    have h0:(((a::r).length:Int)==0)=false:=by rw[beq_eq_false_iff_ne];simp only[List.length_cons];omega
    cases decide (0<bv.f (g,()))<;>simp only[h0,cond_true,cond_false,if_neg (show¬((a::r:List Segm)=[]∧bv.f (g,())≠0) by simp)]
theorem ID (n:Int):bits .and .i64 n 15=n%16:=by
 have h:(BitVec.ofInt 64 15).toNat=2 ^ 4-1:=by decide
 have key:(BitVec.ofInt 64 n&&& BitVec.ofInt 64 15).toNat=(n%((2 ^ 64:Nat):Int)).toNat%2 ^ 4:=by
  rw[BitVec.toNat_and,BitVec.toNat_ofInt,h,Nat.and_two_pow_sub_one_eq_mod]
 show IntKind.i64.wrap ((BitVec.ofInt 64 n&&& BitVec.ofInt 64 15).toNat:Nat)=n%16
 rw[key,dh]
 omega
theorem SU (v:Int):vF.f (v,())=kA.f (v,()):=by
 simp only[PX,vF,kA,cK,ID]
 rcases Bool.eq_false_or_eq_true (aa.f (v,32,()))with h|h
 ·rw[h]
  rw[bb]at h
  simp only[Bool.and_eq_true,decide_eq_true_eq]at h
  rw[Int.tmod_eq_emod_of_nonneg h.1]
 ·rw[h];rfl
theorem Aa (i:Int)(o:Opti):jt.f (i,o,())=cV.f (i,o,()):=by
 simp only[PX,jt,cV,SU,Rv,bI,bM]
theorem H6 (t:Tupl)(h:aL.f (t,())=true):(0≤t.ip∧t.ip≤4294967295)∧(0≤t.port∧t.port≤65535)∧(0≤t.my∧t.my≤65535):=by
 simp only[PX,aL,bz,bb]at h
 by_cases h1:0≤t.ip∧t.ip≤4294967295
 ·by_cases h2:0≤t.port∧t.port≤65535
  ·by_cases h3:0≤t.my∧t.my≤65535
   ·exact⟨h1,h2,h3⟩
   ·rw[show(decide (0≤t.my)&&decide (t.my≤65535))=false by rw[Bool.and_eq_false_iff];simp only[decide_eq_false_iff_not];omega]at h
    revert h
    cases(decide (0≤t.ip)&&decide (t.ip≤4294967295))<;>cases(decide (0≤t.port)&&decide (t.port≤65535))<;>simp
  ·rw[show(decide (0≤t.port)&&decide (t.port≤65535))=false by rw[Bool.and_eq_false_iff];simp only[decide_eq_false_iff_not];omega]at h
   revert h
   cases(decide (0≤t.ip)&&decide (t.ip≤4294967295))<;>simp
 ·rw[show(decide (0≤t.ip)&&decide (t.ip≤4294967295))=false by rw[Bool.and_eq_false_iff];simp only[decide_eq_false_iff_not];omega]at h
  simp at h
theorem Jf (s:Sndr):i6.f (s,())=(s.una+dU.f (s,()))%4294967296:=by simp only[PX,i6,cC]
theorem r7:ay.f (bM.f (()),())=true:=by decide+kernel
theorem Um (c:Conn)(hc:aL.f (c.tuple,())=true)(hd:c.r.data.length≤32)(hn:0≤c.r.next∧c.r.next≤4294967295)(sq fl:Int)(b:ac)(h0:0≤sq∧sq≤4294967295)(hf:0≤fl∧fl≤63)(hb:b.length≤1420):aj.f ({cL.f (c,())with seq:=sq,flags:=fl,body:=b},())=true:=by
 rw[bB]
 have ht:=H6 c.tuple hc
 have hw:=sE c.r hd
 simp only[PX,cL,mU c.r hd]
 exact⟨ht.2.2,ht.2.1,h0,hn,hf,⟨hw.1,by omega⟩,r7,hb⟩
theorem NH (c:Conn)(hc:CO c)(hs:cz c.r.held):aj.f (cL.f (c,()),())=true:=by
 have hr:=(tW c.r hs).1 hc.rcv
 have h:=Um c hc.tup hr.dl ⟨hr.n0,hr.n1⟩ (i6.f (c.s,())) 16 [] (by rw[Jf];omega) (by omega) (by simp)
 have e:({cL.f (c,())with seq:=i6.f (c.s,()),flags:=16,body:=[]}:Segm)=cL.f (c,()):=by simp only[PX,cL]
 rw[e]at h;exact h
theorem G7 (s:Sndr)(w m:Int)(h:(aR.f (s,w,m,())).2=true):(aR.f (s,w,m,())).1.seq=i6.f (s,()):=by
 revert h
 simp only[PX,aR]
 generalize(if 0<(if(IntKind.wrap .i64 ((if w<(-1)then(-1)else w)-dU.f (s,())))<(if m<(((s.data.take ((s.data.length:Int).toNat)).drop s.sent.toNat).length:Int)then m else(((s.data.take ((s.data.length:Int).toNat)).drop s.sent.toNat).length:Int))then(IntKind.wrap .i64 ((if w<(-1)then(-1)else w)-dU.f (s,())))else(if m<(((s.data.take ((s.data.length:Int).toNat)).drop s.sent.toNat).length:Int)then m else(((s.data.take ((s.data.length:Int).toNat)).drop s.sent.toNat).length:Int)))then(if(IntKind.wrap .i64 ((if w<(-1)then(-1)else w)-dU.f (s,())))<(if m<(((s.data.take ((s.data.length:Int).toNat)).drop s.sent.toNat).length:Int)then m else(((s.data.take ((s.data.length:Int).toNat)).drop s.sent.toNat).length:Int))then(IntKind.wrap .i64 ((if w<(-1)then(-1)else w)-dU.f (s,())))else(if m<(((s.data.take ((s.data.length:Int).toNat)).drop s.sent.toNat).length:Int)then m else(((s.data.take ((s.data.length:Int).toNat)).drop s.sent.toNat).length:Int)))else 0)=n
 generalize(IntKind.wrap .i64 ((if w<(-1)then(-1)else w)-dU.f (s,())))=v
 generalize(((s.data.take ((s.data.length:Int).toNat)).drop s.sent.toNat).take n.toNat).drop 0=tx
 generalize(((s.data.take ((s.data.length:Int).toNat)).drop s.sent.toNat).length:Int)=ln
 cases bQ.f (s,())<;>cases s.fin<;>cases s.finSent<;>cases s.done<;>cases(n==ln)<;>cases(tx==[])<;>cases decide (n<v)<;>simp
theorem S1 (c:Conn)(w:Int)(hc:CO c)(hs:cz c.r.held):∀g∈(gt.f (c,w,())).2,aj.f (g,())=true:=by
 have hr:=(tW c.r hs).1 hc.rcv
 simp only[PX,gt,eL,gA]
 cases(bif !cJ.f (c,())then(true,())else bif (c.state==8)then(true,())else((c.state==7),())).1 with
 |true=>intro g hg;cases hg
 |false=>
 simp only[cond_false]
 have key:=pV (f:=λa=>(bx w a).nice) (Inv:=λa=>Sent c a.2.1∧(∀g∈a.2.2,aj.f (g,())=true)) (Q:=λp=>∀g∈p.2.2,aj.f (g,())=true) (meas:=λa=>Be a.2.1.s) (λa hi a' he=>by
  rcases n3 w c a hi.1 with⟨l,e⟩|⟨a2,e,h1,h2⟩
  ·simp only[e]at he;cases he
  ·simp only[e,Stp.next.injEq]at he;subst he
   refine⟨⟨h1, ?_⟩,h2⟩
   obtain⟨hS,hl⟩:=hi
   obtain⟨a1,b2,al⟩:=a
   simp only[]at hS hl
   have hre:=hS.re
   have htup:aL.f (b2.tuple,())=true:=by rw[hre];exact hc.tup
   have hrr:b2.r=c.r:=by rw[hre]
   have hch:=aR.c.h (b2.s,w,cB.f (b2,()),()) (Gz hS.so)
   have hsq:=G7 b2.s w (cB.f (b2,()))
   revert e
   simp only[PX,bx]
   simp only[PX]at hch
   generalize aR.f (b2.s,w,cB.f (b2,()),())=z at hch hsq⊢
   obtain⟨y,b⟩:=z
   cases b with
   |false=>intro e;cases e
   |true=>
    obtain⟨-,hch⟩:=hch
    obtain⟨-,hlen,-,-,-⟩:=hch rfl
    have hsq:=hsq rfl
    simp only[]at hlen hsq
    have hdl:=hS.so.2.2.1
    have hs0:=hS.so.2.2.2.1
    have ok:∀fl:Int,0≤fl∧fl≤63→aj.f (({cL.f (b2,())with seq:=y.seq,flags:=fl,body:=y.text}:Segm),())=true:=λfl hf=>Um b2 htup (by rw[hrr];exact hr.dl) (by rw[hrr];exact⟨hr.n0,hr.n1⟩) y.seq fl y.text (by rw[hsq,Jf];omega) hf (by omega)
    have fin:∀fl:Int,0≤fl∧fl≤63→∀g∈al++[({cL.f (b2,())with seq:=y.seq,flags:=fl,body:=y.text}:Segm)],aj.f (g,())=true:=by
     intro fl hf g hg
     rcases List.mem_append.1 hg with h3|h3
     ·exact hl g h3
     ·rw[List.mem_singleton.1 h3];exact ok fl hf
    have hfl:(cL.f (b2,())).flags=16:=by simp only[PX,cL]
    simp only[hfl]
    cases(y.text==[])<;>cases y.fin<;>(intro e;simp only[Stp.next.injEq,cond_true,cond_false,Bool.not_true,Bool.not_false]at e;subst e;refine fin _ (by decide+kernel))) (λa hi p he=>by
  rcases n3 w c a hi.1 with⟨l,e⟩|⟨a2,e,h1,h2⟩
  ·obtain⟨a1,a2',al⟩:=a
   have hl:l=al:=by
    revert e
    simp only[PX,bx]
    cases(aR.f (a2'.s,w,cB.f (a2',()),())).2 with
    |false=>intro e;cases e;rfl
    |true=>cases((aR.f (a2'.s,w,cB.f (a2',()),())).1.text==[])<;>cases(aR.f (a2'.s,w,cB.f (a2',()),())).1.fin<;>(intro e;cases e)
   simp only[e,Stp.out.injEq]at he;subst he;subst hl;exact hi.2
  ·simp only[e]at he;cases he) (Be c.s+1) (⟨⟨0,0,0⟩,0,⟨0,[],0,false,false,false⟩,⟨0,[],[],0,false⟩,0,0,⟨0,0,false,false,0,0⟩,0,0⟩,c,[]) (Nat.lt_succ_self _) ⟨Sent.refl c hc.snd,λg hg=>by cases hg⟩
 obtain⟨q,hq⟩:∃q,bG (λa=>(bx w a).nice) (Be c.s+1) (⟨⟨0,0,0⟩,0,⟨0,[],0,false,false,false⟩,⟨0,[],[],0,false⟩,0,0,⟨0,0,false,false,0,0⟩,0,0⟩,c,[])=q:=⟨_,rfl⟩
 rw[hq]at key
 simp only[hq]
 obtain⟨q1,q2,q3⟩:=q
 simp only[]at key⊢
 cases(bif decide (0<(q3.length:Int))then((q2.timer==0),())else(false,())).1<;>exact key
theorem Js (c:Conn)(g:Segm)(hc:CO c)(hs:cz c.r.held):CO (fJ c g).1∧(fJ c g).1.tuple=c.tuple∧(∀y∈(fJ c g).2.1,aj.f (y,())=true)∧cz (fJ c g).1.r.held:=by
 have one:∀y∈[cL.f (c,())],aj.f (y,())=true:=λy hy=>by rw[List.mem_singleton.1 hy];exact NH c hc hs
 have nil:∀y∈([]:List Segm),aj.f (y,())=true:=λy hy=>by cases hy
 unfold fJ
 split
 ·exact⟨CO.set hc 8 0 0 (.inr rfl) (by omega) (by omega) (λ_=>by omega) (by omega) (by omega),rfl,nil,hs⟩
 ·split
  ·exact⟨hc,rfl,one,hs⟩
  ·split
   ·split
    ·rename_i h7
     exact⟨CO.set hc c.state 4 c.tries (.inl rfl) (by omega) (by omega) (λh=>absurd h7.1 h) hc.r0 hc.r3,rfl,one,hs⟩
    ·exact⟨hc,rfl,one,hs⟩
   ·split
    ·rename_i hv
     obtain⟨hx,hxt,-,hxs⟩:=Ly c g hs hv
     generalize gn c g=x at hx hxt hxs⊢
     split
     ·exact⟨hx,hxt,nil,hxs⟩
     ·have hS:=R6 x x.window hx.snd
      have hp:=Sent.ok hS hx (hS.tm.elim .inr λe=> .inl (by omega))
      have ht:(gt.f (x,x.window,())).1.tuple=x.tuple:=by rw[hS.re]
      have hr:(gt.f (x,x.window,())).1.r=x.r:=by rw[hS.re]
      refine⟨hp,ht.trans hxt, ?_,by show cz (gt.f (x,x.window,())).1.r.held;rw[hr];exact hxs⟩
      simp only[]
      split
      ·intro y hy
       rw[List.mem_singleton.1 hy];exact NH _ hp (by rw[hr];exact hxs)
      ·exact S1 x x.window hx hxs
    ·exact⟨hc,rfl,nil,hs⟩
theorem S5 (t:Tabl)(c:Conn):rj.f (t,c,())=n6.f (t,c,()):=by
 simp only[PX,rj,n6,Ah,kU,ki,eQ,eL]
theorem RU (t:Tabl)(c:Conn)(l:Limi)(hs:∀y∈t.conns,cz y.r.held)(hc:cz c.r.held):qD.f (t,c,l,())=rp.f (t,c,l,()):=by
 simp only[PX,qD,rp,Ah,kU,eQ,eL]
 rw[IW _ _ (λy hy=>by
  rcases List.mem_append.1 hy with h|h
  ·exact hs y h
  ·rw[List.mem_singleton.1 h];exact hc)]
theorem VZ (xs:List Conn)(t:Tupl)(h:decide (0≤gK (λh=>kC t h.tuple) xs)=true):∃i:Nat,gK (λh:Conn=>kC t h.tuple) xs=(i:Int)∧∃hi:i<xs.length,xs[i].tuple=t:=by
 unfold gK at h⊢
 cases hf:xs.findIdx? (λh=>kC t h.tuple)with
 |none=>rw[hf]at h;simp at h
 |some i=>
  obtain⟨h1,h2,-⟩:=List.findIdx?_eq_some_iff_getElem.1 hf
  exact⟨i,rfl,h1,((yn _ _).1 h2).symm⟩
theorem zv (xs:List Half)(t:Tupl)(h:decide (0≤gK (λh=>kC t h.tuple) xs)=true):∃i:Nat,gK (λh:Half=>kC t h.tuple) xs=(i:Int)∧∃hi:i<xs.length,xs[i].tuple=t:=by
 unfold gK at h⊢
 cases hf:xs.findIdx? (λh=>kC t h.tuple)with
 |none=>rw[hf]at h;simp at h
 |some i=>
  obtain⟨h1,h2,-⟩:=List.findIdx?_eq_some_iff_getElem.1 hf
  exact⟨i,rfl,h1,((yn _ _).1 h2).symm⟩
theorem TO.set {t:Tabl}{l:Limi}(h:TO t l)(i:Nat)(c:Conn)(hc:CO c)(hi:i<t.conns.length)(ht:c.tuple=t.conns[i].tuple):TO (⟨t.conns.set i c,t.waiting⟩:Tabl) l:=by
 have hm:(t.conns.set i c).map Conn.tuple=t.conns.map Conn.tuple:=by
  rw[List.map_set,ht]
  apply List.ext_getElem?
  intro j
  rw[List.getElem?_set]
  split
  ·rename_i hj
   subst hj
   simp[hi]
  ·rfl
 refine⟨h.lim,by show((t.conns.set i c).length:Int)≤l.conns;rw[List.length_set];exact h.nc,h.nw, ?_, ?_,h.dw, ?_⟩
 ·intro y hy
  rcases List.mem_or_eq_of_mem_set hy with h1|h1
  ·exact h.co y h1
  ·rw[h1];exact hc
 ·show((t.conns.set i c).map Conn.tuple).Nodup
  rw[hm];exact h.dc
 ·intro w hw
  show w∈(t.conns.set i c).map Conn.tuple
  rw[hm];exact h.wc w hw
theorem VK (xs:List Conn)(i:Nat)(c:Conn)(hi:i<xs.length)(ht:c.tuple=xs[i].tuple):(xs.set i c).map Conn.tuple=xs.map Conn.tuple:=by
 rw[List.map_set,ht]
 apply List.ext_getElem?
 intro j
 rw[List.getElem?_set]
 split
 ·rename_i hj
  subst hj
  simp[hi]
 ·rfl
theorem Ql (xs:List Conn)(hd:(xs.map Conn.tuple).Nodup)(i:Nat)(hi:i<xs.length):gK (λh:Conn=>kC xs[i].tuple h.tuple) xs=(i:Int):=by
 have h:=(vT Conn.tuple xs).2 hd i xs[i] (List.getElem?_eq_getElem hi)
 have h2:=yK (λh:Conn=>kC xs[i].tuple h.tuple) xs i xs[i] (List.getElem?_eq_getElem hi) (tZ _)
 rw[h]at h2
 simpa using h2
theorem Ki (t:Tabl)(c:Conn)(hd:(t.conns.map Conn.tuple).Nodup)(i:Nat)(hi:i<t.conns.length)(ht:c.tuple=t.conns[i].tuple):n6.f (t,c,())=⟨t.conns.set i c,t.waiting⟩:=by
 simp only[PX,n6,kU,eL,eX]
 rw[ht,Ql t.conns hd i hi,decide_eq_true (show(0:Int)≤(i:Int) by omega),ai]
 rfl
theorem Li (t:Tabl)(c:Conn)(l:Limi):rp.f (t,c,l,())=if dk.f ((⟨t.conns++[c],t.waiting++[c.tuple]⟩:Tabl),l,())=true then(⟨t.conns++[c],t.waiting++[c.tuple]⟩,true)else(t,false):=by
 simp only[PX,rp,kU,eL]
 cases dk.f ((⟨t.conns++[c],t.waiting++[c.tuple]⟩:Tabl),l,())<;>rfl
def vf (xs:List Half)(t:Tupl):List Half:=bif decide (0≤gK (λh:Half=>kC t h.tuple) xs)then xs.take (gK (λh:Half=>kC t h.tuple) xs).toNat++xs.drop ((gK (λh:Half=>kC t h.tuple) xs).toNat+1)else xs
theorem wI (xs:List Half)(t:Tupl)(hl:xs.length≤4294967296):oO.f (xs,t,())=vf xs t:=by
 simp only[PX,oO,oZ,iI]
 unfold vf
 cases h:decide (0≤gK (λh:Half=>kC t h.tuple) xs)with
 |false=>
  rw[show decide (gK (λh:Half=>kC t h.tuple) xs<0)=true by simp at h⊢;exact h]
  simp
 |true=>
  obtain⟨i,e,hi,-⟩:=zv xs t h
  rw[e,decide_eq_false (show¬(i:Int)<0 by omega),au (by omega) (by omega),ai,show((i:Int)+1).toNat=i+1 by omega]
  simp
theorem Iy (xs:List Half)(t:Tupl):(vf xs t).Sublist xs:=by
 unfold vf
 cases h:decide (0≤gK (λh:Half=>kC t h.tuple) xs)with
 |false=>exact List.Sublist.refl _
 |true=>
  obtain⟨i,e,hi,-⟩:=zv xs t h
  rw[e,ai,cond_true]
  have h1:(xs.take i++xs.drop (i+1)).Sublist (xs.take i++xs.drop i):=List.Sublist.append (List.Sublist.refl _) (by
   rw[←List.drop_drop];exact List.drop_sublist _ _)
  rw[List.take_append_drop]at h1
  exact h1
theorem HO.sub {xs ys:List Half}(h:HO xs)(hs:ys.Sublist xs):HO ys:=⟨λy hy=>h.ok y (hs.subset hy),List.Nodup.sublist (hs.map _) h.nd,Nat.le_trans hs.length_le h.len⟩
theorem PL (xs:List Half)(t:Tupl)(hd:(xs.map Half.tuple).Nodup):t∉(vf xs t).map Half.tuple:=by
 unfold vf
 cases h:decide (0≤gK (λh:Half=>kC t h.tuple) xs)with
 |false=>
  rw[nF]at h
  rw[cond_false,←yl,h];simp
 |true=>
  obtain⟨i,e,hi,ht⟩:=zv xs t h
  rw[e,ai,cond_true,List.map_append,List.mem_append]
  have h1:xs.map Half.tuple=(xs.take i).map Half.tuple++t::(xs.drop (i+1)).map Half.tuple:=by
   conv=>lhs;rw[←List.take_append_drop i xs,List.drop_eq_getElem_cons hi]
   rw[List.map_append,List.map_cons,ht]
  rw[h1]at hd
  obtain⟨-,h3,h4⟩:=List.nodup_append.1 hd
  rintro(h5|h5)
  ·exact h4 t h5 t (List.mem_cons_self ..) rfl
  ·exact(List.nodup_cons.1 h3).1 h5
theorem RK (g:Segm):hU.f (g,())=bif br.f (g,4,())then[]else[(gM.f (g,())).1]:=by
 simp only[PX,hU,gM]
 cases br.f (g,4,())with
 |true=>rfl
 |false=>cases br.f (g,16,())<;>rfl
theorem QC (g:Segm):ss.f (g,())=gM.f (g,()):=by
 simp only[PX,ss,gM,Ii,sv,gY,bI,bM]
theorem FD (d:Door)(g:Segm):kv.f (d,g,())=(d,hU.f (g,()),0):=by
 simp only[PX,kv,QC,mi,hU]
 cases(gM.f (g,())).2<;>rfl
theorem vz (g:Segm)(hg:aj.f (g,())=true):∀y∈hU.f (g,()),aj.f (y,())=true:=by
 have h:=(bB g).1 hg
 rw[RK]
 cases h4:br.f (g,4,())with
 |true=>intro y hy;cases hy
 |false=>
  intro y hy
  rw[cond_false,List.mem_singleton]at hy
  subst hy
  simp only[PX,gM,h4,cC,cond_false]
  cases br.f (g,16,())with
  |true=>
   rw[bB]
   exact⟨h.2.1,h.1,h.2.2.2.1,by show(0:Int)≤0∧(0:Int)≤4294967295;omega,by show(0:Int)≤4∧(4:Int)≤63;omega,by show(0:Int)≤0∧(0:Int)≤65535;omega,r7,by simp⟩
  |false=>
   rw[bB]
   refine⟨h.2.1,h.1,by show(0:Int)≤0∧(0:Int)≤4294967295;omega, ?_,by show(0:Int)≤20∧(20:Int)≤63;omega,by show(0:Int)≤0∧(0:Int)≤65535;omega,r7,by simp⟩
   show 0≤(g.seq+bv.f (g,()))%4294967296∧(g.seq+bv.f (g,()))%4294967296≤4294967295
   omega
theorem Hi (n:Int):jE.f (n,())=mI.f (n,()):=by
 simp only[PX,jE,mI,lQ,cC,Int.add_zero]
def G5 (t:Tupl)(iss irs:Int)(o:Opti)(w:Int):Conn:=⟨t,1,⟨(iss+1)%4294967296,[],0,false,false,false⟩,⟨(irs+1)%4294967296,[],[],-1,false⟩,iP w o.scale,iP w o.scale,o,0,0⟩
theorem yP (t:Tupl)(iss irs:Int)(o:Opti)(w:Int)(ho:ay.f (o,())=true)(h0:0≤w)(h1:w≤65535):oe.f (t,iss,irs,o,w,())=G5 t iss irs o w:=by
 have hs:=(hZ o ho).2
 have hw:aa.f (w,16,())=true:=by rw[bz,decide_eq_true h0,decide_eq_true h1];rfl
 have e:=(TT w o.scale h0 h1 hs).1
 have hl:IntKind.wrap .u64 (eE.f (0,o.scale,()))=if o.scale<0 then 0 else o.scale:=by
  rw[GG,D1 _ (by split<;>omega) (by split<;>omega)]
 simp only[PX,oe,gC,cK,ho,hw,Bool.not_true,cond_false,Hi,mI,gY,cC,Int.add_zero]
 rw[hl,e,show((irs+1)%4294967296%4294967296)=(irs+1)%4294967296 by omega]
 rfl
theorem JW (t:Tupl)(iss irs:Int)(o:Opti)(w:Int)(ht:aL.f (t,())=true)(ho:ay.f (o,())=true)(h0:0≤w)(h1:w≤65535):CO (G5 t iss irs o w)∧cz (G5 t iss irs o w).r.held:=by
 have hs:=(hZ o ho).2
 have hr:=Eu w o.scale h0 h1 hs
 have hsm:cz (G5 t iss irs o w).r.held:=λy hy=>by cases hy
 refine⟨⟨ht, ?_, ?_,ho,by show(1:Int)≤1;omega,by show(1:Int)≤8;omega,hr.1,hr.2,hr.1,Int.le_refl _,Int.le_refl _,by show(0:Int)≤4;omega,λ_=>by show(0:Int)≤3;omega,Int.le_refl _,by show(0:Int)≤3;omega,rfl⟩,hsm⟩
 ·refine⟨by show 0≤(iss+1)%4294967296;omega,by show(iss+1)%4294967296≤4294967295;omega,by show(0:Nat)≤48;omega,Int.le_refl _,by show(0:Int)≤((0:Nat):Int);omega,λh=>(by cases h),λh=>(by cases h)⟩
 ·rw[tW _ hsm]
  exact⟨by show 0≤(irs+1)%4294967296;omega,by show(irs+1)%4294967296≤4294967295;omega,by show(0:Nat)≤32;omega,by show(0:Nat)≤3;omega,Int.le_refl _,by show(-1:Int)≤nN _;unfold nN;simp[G5],by show(-1:Int)≠0;omega,⟨0,by simp[G5,eM]⟩,λh=>(by cases h)⟩
theorem D9 (i:Int)(o:Opti)(ho:ay.f (o,())=true):ay.f (cV.f (i,o,()),())=true:=by
 have hm:0≤fq.f (i,())∧fq.f (i,())≤65535:=by
  simp only[PX,fq,ax]
  by_cases h:0≤i∧i≤7
  ·rw[decide_eq_true h.1,decide_eq_true h.2]
   have:i=0∨i=1∨i=2∨i=3∨i=4∨i=5∨i=6∨i=7:=by omega
   rcases this with rfl|rfl|rfl|rfl|rfl|rfl|rfl|rfl<;>decide+kernel
  ·rw[show(decide (0≤i)&&decide (i≤7))=false by rw[Bool.and_eq_false_iff];simp only[decide_eq_false_iff_not];omega]
   simp
 have hsc: -1≤(kA.f (o.echo,())).1∧(kA.f (o.echo,())).1≤14:=by
  simp only[PX,kA,ID]
  cases(bif !aa.f (o.echo,32,())then(true,())else((bits .and .i64 o.echo 32)==0,())).1 with
  |true=>simp only[cond_true];omega
  |false=>
   by_cases h:o.echo%16=15
   ·rw[show(o.echo%16==15)=true by simp[h]];simp only[cond_true,cond_false];omega
   ·rw[show(o.echo%16==15)=false by simp[h]];simp only[cond_false];omega
 simp only[PX,cV,bM]
 cases hs:o.stamp with
 |false=>
  simp only[cond_false]
  simp only[PX,ay,ax,bz,bb,decide_eq_true hm.1,decide_eq_true hm.2]
  rfl
 |true=>
  have hv:0≤o.val∧o.val≤4294967295:=by
   simp only[PX,ay,hs,ax,bz,bb,Bool.not_true,cond_false]at ho
   by_cases h:0≤o.val∧o.val≤4294967295
   ·exact h
   ·rw[show(decide (0≤o.val)&&decide (o.val≤4294967295))=false by rw[Bool.and_eq_false_iff];simp only[decide_eq_false_iff_not];omega]at ho
    revert ho
    cases(decide (0≤o.mss)&&decide (o.mss≤65535))<;>cases(decide (-1≤o.scale)&&decide (o.scale≤14))<;>simp
  simp only[cond_true]
  cases(kA.f (o.echo,())).2.2 with
  |false=>
   simp only[cond_false]
   simp only[PX,ay,ax,bz,bb,decide_eq_true hm.1,decide_eq_true hm.2]
   rfl
  |true=>
   simp only[cond_true]
   simp only[PX,ay,ax,bz,bb,decide_eq_true hm.1,decide_eq_true hm.2,decide_eq_true hsc.1,decide_eq_true hsc.2,decide_eq_true hv.1,decide_eq_true hv.2]
   rfl
def Hj (d:Door)(c:Conn)(g:Segm)(made:Int):Door×List Segm×Int:=
 if dk.f ((⟨d.table.conns++[c],d.table.waiting++[c.tuple]⟩:Tabl),d.limits,())=true then
  ({d with halves:=vf d.halves c.tuple,table:=⟨d.table.conns++[(fJ c g).1],d.table.waiting++[c.tuple]⟩},(fJ c g).2.1,made)
 else(d,[],0)
theorem SA (t:Tabl)(l:Limi)(c:Conn)(g:Segm)(hs:cz c.r.held)(hT:dk.f ((⟨t.conns++[c],t.waiting++[c.tuple]⟩:Tabl),l,())=true):n6.f ((⟨t.conns++[c],t.waiting++[c.tuple]⟩:Tabl),(fJ c g).1,())=⟨t.conns++[(fJ c g).1],t.waiting++[c.tuple]⟩:=by
 have h:=(O9 _ _).1 hT
 have hc:=h.co c (by simp)
 have hr:=Js c g hc hs
 rw[Ki _ _ h.dc t.conns.length (by simp) (by simp[hr.2.1])]
 simp
theorem NQ (d:Door)(c:Conn)(g:Segm)(m:Int)(hd:kW d)(hc:cz c.r.held)(hl:d.halves.length≤4294967296):ve.f (d,c,g,m,())=Hj d c g m:=by
 simp only[PX,ve,mi,RU d.table c d.limits hd hc,Li,yT c g hc,S5,wI _ _ hl]
 unfold Hj
 by_cases hT:dk.f ((⟨d.table.conns++[c],d.table.waiting++[c.tuple]⟩:Tabl),d.limits,())=true
 ·rw[if_pos hT,if_pos hT,SA d.table d.limits c g hc hT];rfl
 ·rw[if_neg hT,if_neg hT];rfl
def MU (d:Door)(t:Tupl)(g:Segm):Door×List Segm×Int:=
 if dz.f (d,())=true∧aL.f (t,())=true∧aj.f (g,())=true∧¬0≤aO.f (d.table,t,())then
  if 0≤aP.f (d.halves,t,())then
   if g.ack≠((d.halves.getD (aP.f (d.halves,t,())).toNat (Ty.zero .half)).iss+1)%4294967296 then(d,hU.f (g,()),0)
   else if g.seq≠((d.halves.getD (aP.f (d.halves,t,())).toNat (Ty.zero .half)).irs+1)%4294967296 then(d,[],0)
   else Hj d (G5 t (d.halves.getD (aP.f (d.halves,t,())).toNat (Ty.zero .half)).iss (d.halves.getD (aP.f (d.halves,t,())).toNat (Ty.zero .half)).irs (d.halves.getD (aP.f (d.halves,t,())).toNat (Ty.zero .half)).opts g.window) g 1
  else if(cb.f (d.keys,t,(g.seq+ -1)%4294967296,(g.ack+ -1)%4294967296,())).2.2=true then
   Hj d (G5 t ((g.ack+ -1)%4294967296) ((g.seq+ -1)%4294967296) (cV.f ((cb.f (d.keys,t,(g.seq+ -1)%4294967296,(g.ack+ -1)%4294967296,())).2.1,g.opts,())) g.window) g 2
  else(d,hU.f (g,()),0)
 else(d,[],0)
theorem Ja (xs:List Half)(t:Tupl)(h:HO xs)(hf:0≤aP.f (xs,t,())):ay.f ((xs.getD (aP.f (xs,t,())).toNat (Ty.zero .half)).opts,())=true:=by
 rw[iI]at hf⊢
 obtain⟨i,e,hi,-⟩:=zv xs t (decide_eq_true hf)
 rw[e,ai,getD_some (List.getElem?_eq_getElem hi)]
 have:=h.ok _ (List.getElem_mem hi)
 unfold xi at this
 simp only[Bool.and_eq_true]at this
 exact this.2.2.2.2.1
theorem Yz {A B C:Type}(x:A×B×C):(x.1,x.2.1,x.2.2)=x:=rfl
theorem Ph (d:Door)(t:Tupl)(g:Segm)(hs:kW d)(hl:d.halves.length≤4294967296):yD.f (d,t,g,())=MU d t g:=by
 simp only[PX,yD,mi,GB d t g hs,ki,oZ,gY,cC,FD,wC,Aa]
 unfold MU
 cases h1:dz.f (d,())with
 |false=>simp
 |true=>
 cases h2:aL.f (t,())with
 |false=>simp
 |true=>
 cases h3:aj.f (g,())with
 |false=>simp
 |true=>
 have hD:=(A1 d).1 h1
 have hg:=(bB g).1 h3
 have hw:=hg.2.2.2.2.2.1
 by_cases h4:0≤aO.f (d.table,t,())
 ·rw[if_neg (λh=>h.2.2.2 h4),decide_eq_true h4];rfl
 rw[if_pos ⟨rfl,rfl,rfl,h4⟩,decide_eq_false h4]
 simp only[Bool.and_self,Bool.not_true,cond_false]
 by_cases h5:0≤aP.f (d.halves,t,())
 ·rw[if_pos h5,decide_eq_true h5]
  have ho:=Ja d.halves t hD.hal h5
  obtain⟨h,hh⟩:∃h,d.halves.getD (aP.f (d.halves,t,())).toNat (Ty.zero .half)=h:=⟨_,rfl⟩
  rw[hh]at ho
  rw[cond_true,hh]
  by_cases h6:g.ack=(h.iss+1)%4294967296
  ·rw[if_neg (λhh=>hh h6),show(g.ack != (h.iss+1)%4294967296)=false by simp[h6]]
   by_cases h7:g.seq=(h.irs+1)%4294967296
   ·rw[if_neg (λhh=>hh h7),show(g.seq != (h.irs+1)%4294967296)=false by simp[h7]]
    rw[yP t h.iss h.irs h.opts g.window ho hw.1 hw.2,NQ d _ g 1 hs (JW t h.iss h.irs h.opts g.window h2 ho hw.1 hw.2).2 hl]
    generalize Hj d (G5 t h.iss h.irs h.opts g.window) g 1=z
    exact Yz z
   ·rw[if_pos h7,show(g.seq != (h.irs+1)%4294967296)=true by simp[h7]];rfl
  ·rw[if_pos h6,show(g.ack != (h.iss+1)%4294967296)=true by simp[h6]];rfl
 ·rw[if_neg h5,decide_eq_false h5]
  have ho:=D9 (cb.f (d.keys,t,(g.seq+ -1)%4294967296,(g.ack+ -1)%4294967296,())).2.1 g.opts hg.2.2.2.2.2.2.1
  generalize cb.f (d.keys,t,(g.seq+ -1)%4294967296,(g.ack+ -1)%4294967296,())=k at ho⊢
  rw[cond_false]
  cases h6:k.2.2 with
  |false=>simp
  |true=>
   simp only[Bool.not_true,cond_false,if_true]
   have e1:=yP t ((g.ack+ -1)%4294967296) ((g.seq+ -1)%4294967296) (cV.f (k.2.1,g.opts,())) g.window ho hw.1 hw.2
   have e2:=NQ d (G5 t ((g.ack+ -1)%4294967296) ((g.seq+ -1)%4294967296) (cV.f (k.2.1,g.opts,())) g.window) g 2 hs (JW t _ _ _ g.window h2 ho hw.1 hw.2).2 hl
   simp only[e1,e2]
def pi (src:Int)(g:Segm):Tupl:=⟨src,g.from_,g.to⟩
def BH (d:Door)(k:Nat)(g:Segm):Door×List Segm×Int:=
 if(fJ (d.table.conns.getD k (Ty.zero .conn)) g).2.2=3 then
  if d.chal=d.limits.chal then({d with table.conns:=d.table.conns.set k (fJ (d.table.conns.getD k (Ty.zero .conn)) g).1},[],0)
  else({d with table.conns:=d.table.conns.set k (fJ (d.table.conns.getD k (Ty.zero .conn)) g).1,chal:=d.chal+1},(fJ (d.table.conns.getD k (Ty.zero .conn)) g).2.1,0)
 else({d with table.conns:=d.table.conns.set k (fJ (d.table.conns.getD k (Ty.zero .conn)) g).1},(fJ (d.table.conns.getD k (Ty.zero .conn)) g).2.1,0)
def VW (d:Door)(t:Tupl)(g:Segm):Door:=
 if 0≤aP.f (d.halves,t,())∧g.seq=((d.halves.getD (aP.f (d.halves,t,())).toNat (Ty.zero .half)).irs+1)%4294967296 then{d with halves:=vf d.halves t}else d
def Hh (d:Door)(src:Int)(g:Segm):Door×List Segm×Int:=
 if dz.f (d,())=true∧aa.f (src,32,())=true∧aj.f (g,())=true then
  if g.to≠d.port then(d,hU.f (g,()),0)
  else if 0≤aO.f (d.table,pi src g,())then BH d (aO.f (d.table,pi src g,())).toNat g
  else bif br.f (g,4,())then(VW d (pi src g) g,[],0)
  else bif br.f (g,2,())&&(!br.f (g,16,())&& !br.f (g,1,()))then((kT.f (d,pi src g,g,())).1,(kT.f (d,pi src g,g,())).2,0)
  else bif br.f (g,16,())&& !br.f (g,2,())then MU d (pi src g) g
  else bif br.f (g,16,())then(d,hU.f (g,()),0)else(d,[],0)
 else(d,[],0)
theorem Mi (d:Door)(t:Tupl)(h:0≤aO.f (d.table,t,())):∃k:Nat,aO.f (d.table,t,())=(k:Int)∧∃hk:k<d.table.conns.length,d.table.conns[k].tuple=t:=by
 rw[eX]at h⊢
 exact VZ _ _ (decide_eq_true h)
theorem VC (d:Door)(k:Nat)(g:Segm)(hs:kW d)(hD:DO d)(hk:k<d.table.conns.length):vQ.f (d,(k:Int),g,())=BH d k g:=by
 have hsk:cz (d.table.conns.getD k (Ty.zero .conn)).r.held:=by
  rw[getD_some (List.getElem?_eq_getElem hk)];exact hs _ (List.getElem_mem hk)
 have k0:=hD.k0
 have k1:=hD.k1
 have k2:=hD.tab.lim.k1
 simp only[PX,vQ,mi,ai,yT _ g hsk]
 unfold BH
 rw[au (by omega) (by omega)]
 by_cases h3:(fJ (d.table.conns.getD k (Ty.zero .conn)) g).2.2=3
 ·rw[if_pos h3,show((fJ (d.table.conns.getD k (Ty.zero .conn)) g).2.2==3)=true by rw[h3];rfl,cond_true]
  by_cases h4:d.chal=d.limits.chal
  ·rw[if_pos h4,show(d.chal==d.limits.chal)=true by simp[h4]];rfl
  ·rw[if_neg h4,show(d.chal==d.limits.chal)=false by simp[h4]];rfl
 ·rw[if_neg h3,show((fJ (d.table.conns.getD k (Ty.zero .conn)) g).2.2==3)=false from beq_eq_false_iff_ne.2 h3];rfl
theorem S2 (s:Int)(g:Segm):me.f (s,g,())=pi s g:=by simp only[PX,me,pi]
theorem YZ (a b c:Bool):(bif !a then(true,())else bif !b then(true,())else(!c,())).1= !decide (a=true∧b=true∧c=true):=by cases a<;>cases b<;>cases c<;>rfl
theorem Yc (a b c:Bool):(bif a then bif !b then(!c,())else(false,())else(false,())).1=(a&&(!b&& !c)):=by cases a<;>cases b<;>cases c<;>rfl
theorem pL (a b:Bool):(bif a then(!b,())else(false,())).1=(a&& !b):=by cases a<;>cases b<;>rfl
theorem U2 (p:Prop)[Decidable p](a b:Int):(bif decide p then(a==b,())else(false,())).1=decide (p∧a=b):=by
 by_cases h:p<;>by_cases h2:a=b<;>simp[h,h2]
theorem Pe (d:Door)(src:Int)(g:Segm)(hs:kW d)(hl:d.halves.length≤4294967296):Dm.f (d,src,g,())=Hh d src g:=by
 simp only[PX,Dm,mi,FU d hs,cK,mQ,S2,ki,oZ,gY,cC,FD,Ii,V1 d _ g hs,Ph d _ g hs hl,wI _ _ hl,YZ,Yc,pL]
 unfold Hh
 by_cases hq:dz.f (d,())=true∧aa.f (src,32,())=true∧aj.f (g,())=true
 case neg=>rw[decide_eq_false hq,if_neg hq];rfl
 rw[decide_eq_true hq,if_pos hq,Bool.not_true,cond_false]
 have hD:=(A1 d).1 hq.1
 by_cases hp:g.to=d.port
 case neg=>rw[if_pos hp,show(g.to != d.port)=true by simp[hp]];rfl
 rw[if_neg (λh=>h hp),show(g.to != d.port)=false by simp[hp],cond_false]
 by_cases hc:0≤aO.f (d.table,pi src g,())
 ·rw[if_pos hc,decide_eq_true hc,cond_true]
  obtain⟨k,e,hk,-⟩:=Mi d _ hc
  rw[e,ai,VC d k g hs hD hk]
 rw[if_neg hc,decide_eq_false hc,cond_false]
 cases br.f (g,4,())with
 |true=>
  rw[cond_true,cond_true,U2]
  unfold VW
  by_cases hr:0≤aP.f (d.halves,pi src g,())∧g.seq=((d.halves.getD (aP.f (d.halves,pi src g,())).toNat (Ty.zero .half)).irs+1)%4294967296
  ·rw[decide_eq_true hr,if_pos hr];rfl
  ·rw[decide_eq_false hr,if_neg hr];rfl
 |false=>
  rw[cond_false,cond_false]
theorem Nv (t:Tabl)(x:Tupl):¬0≤aO.f (t,x,())↔x∉t.conns.map Conn.tuple:=by
 rw[eX,←yl,←nF]
 simp
theorem US (d:Door)(c:Conn)(g:Segm)(m:Int)(hD:DO d)(hs:cz c.r.held)(hn:c.tuple∉d.table.conns.map Conn.tuple):DO (Hj d c g m).1∧∀y∈(Hj d c g m).2.1,aj.f (y,())=true:=by
 unfold Hj
 by_cases hT:dk.f ((⟨d.table.conns++[c],d.table.waiting++[c.tuple]⟩:Tabl),d.limits,())=true
 case neg=>rw[if_neg hT];exact⟨hD,λy hy=>by cases hy⟩
 rw[if_pos hT]
 have h:=(O9 _ _).1 hT
 have hc:=h.co c (by simp)
 have hr:=Js c g hc hs
 have hset:=TO.set h d.table.conns.length (fJ c g).1 hr.1 (by simp) (by simp[hr.2.1])
 have e:(d.table.conns++[c]).set d.table.conns.length (fJ c g).1=d.table.conns++[(fJ c g).1]:=by simp
 rw[e]at hset
 have hsub:=Iy d.halves c.tuple
 refine⟨⟨hD.port,hD.c0,hD.c1,hD.keys,hset,HO.sub hD.hal hsub, ?_,hD.k0,hD.k1, ?_⟩,hr.2.2.1⟩
 ·show((vf d.halves c.tuple).length:Int)≤d.limits.halves
  have:=hsub.length_le
  have:=hD.nh
  omega
 ·intro y hy hm
  have hy2:y∈vf d.halves c.tuple:=hy
  have hm2:y.tuple∈(d.table.conns++[(fJ c g).1]).map Conn.tuple:=hm
  rw[List.map_append,List.mem_append]at hm2
  rcases hm2 with h1|h1
  ·exact hD.ap y (hsub.subset hy2) h1
  ·simp only[List.map_cons,List.map_nil,List.mem_singleton,hr.2.1]at h1
   have hy3:=List.mem_map_of_mem (f:=Half.tuple) hy2
   rw[h1]at hy3
   exact PL d.halves c.tuple hD.hal.nd hy3
theorem WW (d:Door)(t:Tupl)(g:Segm)(hD:DO d):DO (MU d t g).1∧∀y∈(MU d t g).2.1,aj.f (y,())=true:=by
 have nil:∀y∈([]:List Segm),aj.f (y,())=true:=λy hy=>by cases hy
 unfold MU
 split
 ·rename_i hq
  obtain⟨h1,h2,h3,h4⟩:=hq
  have hg:=(bB g).1 h3
  have hw:=hg.2.2.2.2.2.1
  have hn:=(Nv d.table t).1 h4
  split
  ·rename_i h5
   have ho:=Ja d.halves t hD.hal h5
   split
   ·exact⟨hD,vz g h3⟩
   ·split
    ·exact⟨hD,nil⟩
    ·exact US d _ g 1 hD (JW t _ _ _ g.window h2 ho hw.1 hw.2).2 hn
  ·split
   ·have ho:=D9 (cb.f (d.keys,t,(g.seq+ -1)%4294967296,(g.ack+ -1)%4294967296,())).2.1 g.opts hg.2.2.2.2.2.2.1
    exact US d _ g 2 hD (JW t _ _ _ g.window h2 ho hw.1 hw.2).2 hn
   ·exact⟨hD,vz g h3⟩
 ·exact⟨hD,nil⟩
theorem Qi (xs:List Half)(h:Half)(n:Int):l0.f (xs,h,n,())=if(xs.length:Int)<n∧ev.f (xs++[h],())=true then(xs++[h],true)else(xs,false):=by
 simp only[PX,l0,fA,List.nil_append]
 by_cases h1:n≤(xs.length:Int)
 ·rw[decide_eq_true h1,if_neg (by omega)];rfl
 ·rw[decide_eq_false h1]
  cases h2:ev.f (xs++[h],())with
  |true=>rw[if_pos ⟨by omega,rfl⟩];rfl
  |false=>rw[if_neg (by simp)];rfl
theorem SL (d:Door)(t:Tupl)(g:Segm)(hk:eS.f (d.keys,())=true)(ht:aL.f (t,())=true)(hg:aj.f (g,())=true)(sq:Int)(h0:0≤sq∧sq≤4294967295):aj.f (({cA.f (d,t,g,())with seq:=sq}:Segm),())=true:=by
 have hp:=(bB g).1 hg
 have h1:=H6 t ht
 have ho:=A9 g.opts d.clock (by rw[gC];exact hp.2.2.2.2.2.2.1)
 rw[gC]at ho
 rw[bB]
 simp only[PX,cA,cC]
 exact⟨h1.2.2,h1.2.1,h0,by omega,by omega,by omega,ho,by simp⟩
theorem Tt (d:Door)(t:Tupl)(g:Segm)(hD:DO d)(ht:aL.f (t,())=true)(hg:aj.f (g,())=true):DO (kT.f (d,t,g,())).1∧(∀y∈(kT.f (d,t,g,())).2,aj.f (y,())=true)∧(kT.f (d,t,g,())).1.table=d.table∧(kT.f (d,t,g,())).1={d with halves:=(kT.f (d,t,g,())).1.halves}:=by
 have nil:∀y∈([]:List Segm),aj.f (y,())=true:=λy hy=>by cases hy
 have hp:=(bB g).1 hg
 have hsq:=O5 d t g
 have ha:=SL d t g hD.keys ht hg
 have hown:∀y∈[cA.f (d,t,g,())],aj.f (y,())=true:=λy hy=>by
  rw[List.mem_singleton.1 hy]
  exact ha (cA.f (d,t,g,())).seq ⟨hsq.1,hsq.2 ht hD.keys hp.2.2.1⟩
 rw[z8,(A1 d).2 hD,ht,hg]
 simp only[Bool.and_self,cond_true]
 by_cases h5:0≤aP.f (d.halves,t,())
 ·rw[decide_eq_true h5,cond_true]
  have hiss:0≤(d.halves.getD (aP.f (d.halves,t,())).toNat (Ty.zero .half)).iss∧(d.halves.getD (aP.f (d.halves,t,())).toNat (Ty.zero .half)).iss≤4294967295:=by
   rw[iI]at h5⊢
   obtain⟨i,e,hi,-⟩:=zv d.halves t (decide_eq_true h5)
   rw[e,ai,getD_some (List.getElem?_eq_getElem hi)]
   have:=hD.hal.ok _ (List.getElem_mem hi)
   unfold xi at this
   simp only[Bool.and_eq_true,bb,decide_eq_true_eq]at this
   exact this.2.1
  generalize d.halves.getD (aP.f (d.halves,t,())).toNat (Ty.zero .half)=h at hiss⊢
  cases(h.irs != g.seq)with
  |true=>exact⟨hD,nil,rfl,rfl⟩
  |false=>exact⟨hD,λy hy=>by
    simp only[cond_false,List.mem_singleton]at hy
    rw[hy];exact ha h.iss hiss,rfl,rfl⟩
 ·rw[decide_eq_false h5,cond_false]
  by_cases h4:0≤aO.f (d.table,t,())
  ·rw[decide_eq_false (show¬aO.f (d.table,t,())<0 by omega),cond_false]
   exact⟨hD,hown,rfl,rfl⟩
  ·rw[decide_eq_true (show aO.f (d.table,t,())<0 by omega),cond_true,Qi]
   refine⟨?_,hown,rfl,rfl⟩
   by_cases h6:(d.halves.length:Int)<d.limits.halves∧ev.f (d.halves++[(⟨t,(cA.f (d,t,g,())).seq,g.seq,iy.f (g.opts,()),0,g.window⟩:Half)],())=true
   ·rw[if_pos h6]
    refine⟨hD.port,hD.c0,hD.c1,hD.keys,hD.tab,(U6 _).1 h6.2, ?_,hD.k0,hD.k1, ?_⟩
    ·show(((d.halves++[_]).length:Nat):Int)≤d.limits.halves
     rw[List.length_append,List.length_singleton];omega
    ·intro y hy
     rcases List.mem_append.1 hy with h7|h7
     ·exact hD.ap y h7
     ·rw[List.mem_singleton.1 h7]
      exact(Nv d.table t).1 h4
   ·rw[if_neg h6];exact hD
theorem Vr (d:Door)(k:Nat)(g:Segm)(hs:kW d)(hD:DO d)(hk:k<d.table.conns.length):DO (BH d k g).1∧∀y∈(BH d k g).2.1,aj.f (y,())=true:=by
 have nil:∀y∈([]:List Segm),aj.f (y,())=true:=λy hy=>by cases hy
 have hsk:cz (d.table.conns.getD k (Ty.zero .conn)).r.held:=by
  rw[getD_some (List.getElem?_eq_getElem hk)];exact hs _ (List.getElem_mem hk)
 have hck:CO (d.table.conns.getD k (Ty.zero .conn)):=by
  rw[getD_some (List.getElem?_eq_getElem hk)];exact hD.tab.co _ (List.getElem_mem hk)
 have hr:=Js _ g hck hsk
 have ht:(fJ (d.table.conns.getD k (Ty.zero .conn)) g).1.tuple=d.table.conns[k].tuple:=by
  rw[hr.2.1,getD_some (List.getElem?_eq_getElem hk)]
 have k0:=hD.k0
 have k1:=hD.k1
 have hset:=TO.set hD.tab k _ hr.1 hk ht
 have hmap:=VK d.table.conns k _ hk ht
 have base:∀ch:Int,0≤ch→ch≤d.limits.chal→DO ({d with table.conns:=d.table.conns.set k (fJ (d.table.conns.getD k (Ty.zero .conn)) g).1,chal:=ch}:Door):=λch h0 h1=>by
  refine⟨hD.port,hD.c0,hD.c1,hD.keys,hset,hD.hal,hD.nh,h0,h1,λy hy hm=>hD.ap y hy ?_⟩
  have hm2:y.tuple∈(d.table.conns.set k (fJ (d.table.conns.getD k (Ty.zero .conn)) g).1).map Conn.tuple:=hm
  rw[hmap]at hm2;exact hm2
 unfold BH
 split
 ·split
  ·exact⟨base d.chal k0 k1,nil⟩
  ·exact⟨base (d.chal+1) (by omega) (by omega),hr.2.2.1⟩
 ·exact⟨base d.chal k0 k1,hr.2.2.1⟩
theorem Rs (src:Int)(g:Segm)(h1:aa.f (src,32,())=true)(hg:aj.f (g,())=true):aL.f (pi src g,())=true:=by
 have hp:=(bB g).1 hg
 simp only[PX,aL,pi,h1,bz,decide_eq_true hp.1.1,decide_eq_true hp.1.2,decide_eq_true hp.2.1.1,decide_eq_true hp.2.1.2]
 rfl
theorem XD (d:Door)(t:Tupl)(g:Segm)(hD:DO d):DO (VW d t g):=by
 unfold VW
 split
 ·have hsub:=Iy d.halves t
  refine⟨hD.port,hD.c0,hD.c1,hD.keys,hD.tab,HO.sub hD.hal hsub, ?_,hD.k0,hD.k1,λy hy=>hD.ap y (hsub.subset hy)⟩
  show((vf d.halves t).length:Int)≤d.limits.halves
  have:=hsub.length_le
  have:=hD.nh
  omega
 ·exact hD
theorem Ve (d:Door)(src:Int)(g:Segm)(hs:kW d)(hD:DO d):DO (Hh d src g).1∧∀y∈(Hh d src g).2.1,aj.f (y,())=true:=by
 have nil:∀y∈([]:List Segm),aj.f (y,())=true:=λy hy=>by cases hy
 unfold Hh
 split
 ·rename_i hq
  obtain⟨h1,h2,h3⟩:=hq
  have ht:=Rs src g h2 h3
  split
  ·exact⟨hD,vz g h3⟩
  ·split
   ·rename_i hc
    obtain⟨k,e,hk,-⟩:=Mi d _ hc
    rw[e,ai]
    exact Vr d k g hs hD hk
   ·cases br.f (g,4,())with
    |true=>exact⟨XD d _ g hD,nil⟩
    |false=>
     rw[cond_false]
     cases(br.f (g,2,())&&(!br.f (g,16,())&& !br.f (g,1,())))with
     |true=>exact⟨(Tt d _ g hD ht h3).1,(Tt d _ g hD ht h3).2.1⟩
     |false=>
      rw[cond_false]
      cases(br.f (g,16,())&& !br.f (g,2,()))with
      |true=>exact WW d _ g hD
      |false=>
       rw[cond_false]
       cases br.f (g,16,())with
       |true=>exact⟨hD,vz g h3⟩
       |false=>exact⟨hD,nil⟩
 ·exact⟨hD,nil⟩
theorem VR (x:List Int)(hb:F4.f (x,())=false):x.length≤1048576:=by
 simp only[PX,F4,decide_eq_false_iff_not]at hb
 omega
theorem Ti {W:Type}{f:Int→Unit→Stp Unit W}(n:Nat)(h:∀j:Nat,j<n→f (j:Int) ()= .next ()):aX f 1 n 0 ()= .next ():=by
 have:=(qx (f:=f) n 0).2 (λj _ h2=>h j (by omega))
 exact this
theorem iM (n sz:Int)(h1:1≤sz)(h6:sz≤6)(h:aa.f (n,8*sz,())=true):((av.f (n,sz,())).length:Int)=sz:=by
 have hw:IntKind.wrap .i64 (8*sz)=8*sz:=au (by omega) (by omega)
 simp only[PX,av,ax,dW,hw,h,decide_eq_true h1,decide_eq_true h6,Bool.and_self,Bool.not_true,cond_false]
 generalize Int.toNat (IntKind.wrap .i64 (sz-1)-0+1)=k
 generalize IntKind.wrap .i64 (sz-1)=i
 cases hf:aX (λj a=>(dd j a).nice) (-1) k i (n,List.replicate sz.toNat 0)with
 |out e=>exact Empty.elim e
 |next a=>
  have:=xC (P:=λa:Int×List Int=>a.2.length=sz.toNat) (λi a a' ha h=>by
   simp only[PX,dd]at h
   cases h
   simpa using ha) _ _ _ _ (by simp) hf
  simp only[PX,Stp.elim,bi]
  omega
theorem Bf (n sz:Int)(h1:1≤sz)(h6:sz≤6)(h:aa.f (n,8*sz,())=false):av.f (n,sz,())=[]:=by
 have hw:IntKind.wrap .i64 (8*sz)=8*sz:=au (by omega) (by omega)
 simp only[PX,av,ax,hw,h,decide_eq_true h1,decide_eq_true h6,Bool.and_self,Bool.not_true,Bool.not_false,cond_false,cond_true]
theorem tX (n sz:Int)(h1:1≤sz)(h6:sz≤6):(av.f (n,sz,())==[])= !aa.f (n,8*sz,()):=by
 rcases Bool.eq_false_or_eq_true (aa.f (n,8*sz,()))with h|h
 ·have:=iM n sz h1 h6 h
  rw[h]
  cases hp:av.f (n,sz,())with
  |nil=>rw[hp]at this;simp at this;omega
  |cons a r=>rfl
 ·rw[Bf n sz h1 h6 h,h];rfl
def ws:Bool→ac→Int
 |_,[]=>0
 |false,b::t=>256*(b.toNat:Int)+ws true t
 |true,b::t=>(b.toNat:Int)+ws false t
theorem A5:∀(p:Bool) (t:ac),0≤ws p t∧ws p t≤65536*(t.length:Int)
 |_,[]=>by simp[ws]
 |false,b::t=>by
  have h:=A5 true t
  have hb:=lj b
  simp only[ws,List.length_cons];omega
 |true,b::t=>by
  have h:=A5 false t
  have hb:=lj b
  simp only[ws,List.length_cons];omega
theorem Xe (v:ac)(hv:v.length≤4294967296):∀(n j:Nat) (a:Int),j+n=v.length→0≤a→a≤65536*(j:Int)→aX (λj a=>(gd v j a).nice) 1 n (j:Int) a= .next (a+ws (j%2==1) (v.drop j))
 |0,j,a,h,_,_=>by rw[List.drop_of_length_le (by omega)];simp[aX,ws]
 |n+1,j,a,h,h0,h1=>by
  have hj:j<v.length:=by omega
  have hb:=lj v[j]
  rw[List.drop_eq_getElem_cons hj]
  have ht:(((j:Int).tmod 2)==0)= !(j%2==1):=by
   rw[Int.tmod_eq_emod_of_nonneg (by omega),Bool.eq_iff_iff]
   simp;omega
  have hnx:((j+1)%2==1)= !(j%2==1):=by
   rw[Bool.eq_iff_iff];simp;omega
  cases hp:(j%2==1)with
  |true=>
   have ih:=Xe v hv n (j+1) (a+(v[j].toNat:Int)) (by omega) (by omega) (by omega)
   simp only[PX,gd]at ih
   simp only[aX,PX,gd,ht,hp,ai,iq _ _ hj,Bool.not_true,cond_false,Stp.elim,ws]
   rw[au (m:=(v[j].toNat:Int)) (by omega) (by omega),au (by omega) (by omega),show(j:Int)+1=((j+1:Nat):Int) by omega,ih,hnx,hp]
   simp only[Bool.not_true]
   congr 1;omega
  |false=>
   have ih:=Xe v hv n (j+1) (a+256*(v[j].toNat:Int)) (by omega) (by omega) (by omega)
   simp only[PX,gd]at ih
   simp only[aX,PX,gd,ht,hp,ai,iq _ _ hj,Bool.not_false,cond_true,Stp.elim,ws]
   rw[au (m:=(v[j].toNat:Int)) (by omega) (by omega),au (m:=(v[j].toNat:Int)*256) (by omega) (by omega),au (by omega) (by omega),show(j:Int)+1=((j+1:Nat):Int) by omega,show a+(v[j].toNat:Int)*256=a+256*(v[j].toNat:Int) by omega,ih,hnx,hp]
   simp only[Bool.not_false]
   congr 1;omega
theorem nP (v:ac)(hv:v.length≤4294967296):og.f (v,())=ws false v:=by
 simp only[PX,og,iR]
 have:=Xe v hv v.length 0 0 (by omega) (by omega) (by omega)
 rw[bq,show(0:Int)=((0:Nat):Int) from rfl]
 rw[show(0:Int)=((0:Nat):Int) from rfl]at this
 rw[this]
 simp[Stp.elim]
theorem Xm (v:ac)(hv:v.length≤4294967296):∀(k j:Nat) (a:Int),k=(v.length-j+1)/2→0≤a→a≤65536*(j:Int)→aX (λj a=>(gi v j a).nice) 2 k (j:Int) a= .next (a+ws false (v.drop j))
 |0,j,a,h,_,_=>by rw[List.drop_of_length_le (by omega)];simp[aX,ws]
 |k+1,j,a,h,h0,h1=>by
  have hj:j<v.length:=by omega
  have hb:=lj v[j]
  rw[List.drop_eq_getElem_cons hj]
  by_cases h2:j+1<v.length
  ·have hb2:=lj v[j+1]
   have ih:=Xm v hv k (j+2) (a+256*(v[j].toNat:Int)+(v[j+1].toNat:Int)) (by omega) (by omega) (by omega)
   rw[List.drop_eq_getElem_cons h2]
   simp only[PX,gi]at ih
   simp only[aX,PX,gi,ai,iq _ _ hj,Stp.elim,ws]
   rw[au (m:=(j:Int)+1) (by omega) (by omega),decide_eq_true (show(j:Int)+1<(v.length:Int) by omega),cond_true,show((j:Int)+1).toNat=j+1 by omega,iq _ _ h2,au (m:=(v[j].toNat:Int)) (by omega) (by omega),au (m:=256*(v[j].toNat:Int)) (by omega) (by omega),au (m:=a+256*(v[j].toNat:Int)) (by omega) (by omega),au (m:=(v[j+1].toNat:Int)) (by omega) (by omega),au (by omega) (by omega)]
   simp only[Stp.elim]
   rw[show(j:Int)+2=((j+2:Nat):Int) by omega,ih]
   congr 1
   have e:ws false (List.drop (j+1+1) v)=ws false (List.drop (j+2) v):=rfl
   omega
  ·have ih:=Xm v hv k (j+2) (a+256*(v[j].toNat:Int)) (by omega) (by omega) (by omega)
   rw[List.drop_of_length_le (show v.length≤j+1 by omega)]
   rw[List.drop_of_length_le (show v.length≤j+2 by omega)]at ih
   simp only[PX,gi]at ih
   simp only[aX,PX,gi,ai,iq _ _ hj,Stp.elim,ws]
   rw[au (m:=(j:Int)+1) (by omega) (by omega),decide_eq_false (show¬(j:Int)+1<(v.length:Int) by omega),cond_false,au (m:=(v[j].toNat:Int)) (by omega) (by omega),au (m:=256*(v[j].toNat:Int)) (by omega) (by omega),au (m:=a+256*(v[j].toNat:Int)) (by omega) (by omega)]
   simp only[Stp.elim]
   rw[show(j:Int)+2=((j+2:Nat):Int) by omega,ih]
   congr 1
   simp only[ws];omega
theorem Kj (v:ac)(hv:v.length≤4294967296):vv.f (v,())=ws false v:=by
 simp only[PX,vv,di]
 have:=Xm v hv ((v.length+1)/2) 0 0 (by omega) (by omega) (by omega)
 rw[show Int.toNat (((v.length:Int)-0+1)/2)=(v.length+1)/2 by omega,show(0:Int)=((0:Nat):Int) from rfl]
 rw[show(0:Int)=((0:Nat):Int) from rfl]at this
 rw[this]
 simp[Stp.elim]
theorem T1 (n:Int):zT.f (n,())=ri.f (n,()):=by
 have e:ql=jO:=by
  funext a
  unfold ql jO
  rw[show decide (65535<a)=decide (65536≤a) from decide_eq_decide.2 (by omega)]
 simp only[PX,zT,ri,mF,jP,e]
theorem Lj (v:ac)(hv:v.length≤4294967296):qe.f (v,())=gb.f (v,()):=by
 simp only[PX,qe,gb,Kj v hv,nP v hv,T1]
theorem vb:∀(n:Nat) (a b:ac),a.length=2*n→ws false (a++b)=ws false a+ws false b
 |0,a,b,h=>by
  have e:a=[]:=List.eq_nil_of_length_eq_zero (by omega)
  subst e
  simp[ws]
 |n+1,[],b,h=>by simp at h
 |n+1,[x],b,h=>by simp at h;omega
 |n+1,x::y::a,b,h=>by
  have ih:=vb n a b (by simp only[List.length_cons]at h;omega)
  simp only[List.cons_append,ws,ih];omega
theorem yw (a b n:Int):lx.f (a,b,n,())=bu.f (a,b,n,()):=by
 have h1:=tX a 4 (by omega) (by omega)
 have h2:=tX b 4 (by omega) (by omega)
 have h3:=tX n 2 (by omega) (by omega)
 rw[show(8:Int)*4=32 from rfl]at h1 h2
 rw[show(8:Int)*2=16 from rfl]at h3
 simp only[PX,lx,bu,mp,h1,h2,h3]
theorem X2:pq=dD:=rfl
theorem Hp (o:Opti):mz.f (o,())=aI.f (o,()):=by
 simp only[PX,mz,aI,gC,mp,gW,fk,X2]
 rcases Bool.eq_false_or_eq_true (ay.f (o,()))with h|h
 case inr=>rw[h];rfl
 have hs:=hZ o h
 have e:decide (0≤o.scale)=(o.scale != -1):=by
  rw[Bool.eq_iff_iff];simp;omega
 rw[h]
 cases h1:(o.mss != 0)<;>cases h2:(o.scale != -1)<;>cases h3:o.sack<;>cases h4:o.stamp<;>simp only[e,h2,h3,h4,Bool.not_true,cond_true,cond_false,List.nil_append,List.append_assoc]
theorem RF (o:Opti):(aI.f (o,())).length≤20:=(aI.c.h (o,()) trivial).2
theorem Uf (a b n:Int):(bu.f (a,b,n,())).length≤20:=(bu.c.h (a,b,n,()) trivial).2
theorem EL (n sz:Int):((av.f (n,sz,())).length:Int)≤max sz 0:=(av.c.h (n,sz,()) trivial).2
theorem wY (g:Segm)(a b:Int):jD.f (g,a,b,())=aC.f (g,a,b,()):=by
 simp only[PX,jD,aC,mQ,Hp,yw,mp]
 rcases Bool.eq_false_or_eq_true (aj.f (g,()))with h|h
 case inr=>rw[h,Bool.not_false,cond_true,cond_true]
 rw[h,Bool.not_true,cond_false,cond_false]
 have hb:=fg g h
 rw[Lj]
 have h1:=RF g.opts
 generalize IntKind.wrap .i64 ((IntKind.wrap .i64 (20+((aI.f (g.opts,())).length:Int)))+(g.body.length:Int))=n
 have h2:=Uf a b n
 have h3:=EL g.from_ 2
 have h4:=EL g.to 2
 have h5:=EL g.seq 4
 have h6:=EL g.ack 4
 have h7:=EL (IntKind.wrap .i64 ((IntKind.wrap .i64 ((IntKind.wrap .i64 (20+((aI.f (g.opts,())).length:Int))).tdiv 4))*16)) 1
 have h8:=EL g.flags 1
 have h9:=EL g.window 2
 simp only[List.length_append,List.length_cons,List.length_nil]
 omega
theorem RQ (f:Fram):vR.f (f,())=dH.f (f,()):=by
 simp only[PX,vR,dH,cK,bE,ax]
theorem uN (f:Fram):eK.f (f,())=cm.f (f,()):=by
 simp only[PX,eK,cm,RQ,mp]
theorem O7 (p:Pack):ry.f (p,())=fT.f (p,()):=by
 simp only[PX,ry,fT,cK,bE,ax]
theorem le (p:Pack)(h:fT.f (p,())=true):aa.f (p.src,32,())=true∧aa.f (p.dst,32,())=true∧1≤p.ttl∧p.ttl≤255∧aa.f (p.proto,8,())=true∧aa.f (p.id,16,())=true∧p.body.length≤1480:=by
 simp only[PX,fT,ax]at h
 revert h
 cases aa.f (p.src,32,())<;>cases aa.f (p.dst,32,())<;>cases aa.f (p.proto,8,())<;>cases aa.f (p.id,16,())<;>simp<;>omega
theorem Jt (p:Pack):jo.f (p,())=eI.f (p,()):=by
 simp only[PX,jo,eI,O7,mp]
 rcases Bool.eq_false_or_eq_true (fT.f (p,()))with h|h
 case inr=>rw[h,Bool.not_false,cond_true,cond_true]
 obtain⟨hs,hd,t1,t2,hp,hi,hb⟩:=le p h
 rw[h,Bool.not_true,cond_false,cond_false]
 have w:IntKind.wrap .i64 (20+(p.body.length:Int))=20+(p.body.length:Int):=au (by omega) (by omega)
 rw[w]
 have n1:aa.f (20+(p.body.length:Int),8*2,())=true:=by
  rw[show(8:Int)*2=16 from rfl,bz]
  simp;omega
 have l1:=iM (20+(p.body.length:Int)) 2 (by omega) (by omega) n1
 have l2:=iM p.id 2 (by omega) (by omega) hi
 have l3:=iM p.ttl 1 (by omega) (by omega) (by rw[show(8:Int)*1=8 from rfl,kd];simp;omega)
 have l4:=iM p.proto 1 (by omega) (by omega) hp
 have l5:=iM p.src 4 (by omega) (by omega) hs
 have l6:=iM p.dst 4 (by omega) (by omega) hd
 generalize av.f (20+(p.body.length:Int),2,())=a at*
 generalize av.f (p.id,2,())=b at*
 generalize av.f (p.ttl,1,())=c at*
 generalize av.f (p.proto,1,())=d at*
 generalize av.f (p.src,4,())=e at*
 generalize av.f (p.dst,4,())=f at*
 have key:qe.f ((((([69,0]++a)++b)++[0,0])++c++d)++(e++f),())=gb.f ((((((([69,0]++a)++b)++[0,0])++c)++d)++[0,0])++(e++f),()):=by
  rw[Lj]
  ·have e1:og.f ((((([69,0]++a)++b)++[0,0])++c++d)++(e++f),())=og.f ((((((([69,0]++a)++b)++[0,0])++c)++d)++[0,0])++(e++f),()):=by
    rw[nP,nP,vb 5 (((([69,0]++a)++b)++[0,0])++c++d),vb 6 ((((([69,0]++a)++b)++[0,0])++c++d)++[0,0]),vb 5 (((([69,0]++a)++b)++[0,0])++c++d)]
    ·simp[ws]
    all_goals simp only[List.length_append,List.length_cons,List.length_nil];omega
   simp only[PX,gb,e1]
  ·simp only[List.length_append,List.length_cons,List.length_nil];omega
 rw[key]
def Tp (v:List Entr)(ip:Int):Int×Bool:=match v.findIdx? (λe=>e.ip==ip)with
 |some i=>(match v[i]? with|some x=>(x.hw,true)|none=>(0,false))
 |none=>(0,false)
theorem rm (v:List Entr)(ip:Int):xc.f (v,ip,())=Tp v ip:=by
 simp only[PX,xc,pS]
 rw[bq,eb v _ rfl (F:=λj x _=>bif x.ip==ip then .out x.hw else .next ()) (λj x a h=>by
  simp only[PX,BJ,ai,getD_some h]),iY (p:=λe:Entr=>e.ip==ip) (w:=λ_ x=>x.hw)]
 unfold Tp
 cases v.findIdx? (λe=>e.ip==ip)with
 |none=>rfl
 |some i=>cases h:v[i]? <;>simp only[h]<;>rfl
theorem xX (v:List Entr)(ip:Int):vN.f (v,ip,())=gK (λe=>e.ip==ip) v:=by
 simp only[PX,vN,ny]
 rw[mg (λe:Entr=>e.ip==ip) v (λj x a h=>by simp only[PX,yd,ai,getD_some h])]
 unfold gK
 cases v.findIdx? (λe=>e.ip==ip)<;>rfl
theorem Xb (v:List Entr)(ip:Int):Kk.f (v,ip,())=xc.f (v,ip,()):=by
 simp only[PX,Kk,xX,rm]
 unfold Tp gK
 cases hf:v.findIdx? (λe=>e.ip==ip)with
 |none=>rfl
 |some i=>
  obtain⟨h1,_,_⟩:=List.findIdx?_eq_some_iff_getElem.1 hf
  have h2:v[i]? =some v[i]:=List.getElem?_eq_getElem h1
  simp only[h2,ai,getD_some h2,decide_eq_false (show¬(i:Int)<0 by omega),cond_false]
theorem TG (v:List Entr)(ip:Int):(Tp v ip).2=v.any (λe=>e.ip==ip):=by
 have:=nF (λe:Entr=>e.ip==ip) v
 rw[←this]
 unfold Tp gK
 cases hf:v.findIdx? (λe=>e.ip==ip)with
 |none=>rfl
 |some i=>
  obtain⟨h1,_,_⟩:=List.findIdx?_eq_some_iff_getElem.1 hf
  have h2:v[i]? =some v[i]:=List.getElem?_eq_getElem h1
  simp only[h2,decide_eq_true (show(0:Int)≤(i:Int) by omega)]
theorem UP (xs:List Entr):(∀(j:Nat) (y:Entr),xs[j]? =some y→(xs.take j).any (λh=>h.ip==y.ip)=false)↔(xs.map Entr.ip).Nodup:=by
 unfold List.Nodup
 rw[List.pairwise_iff_getElem]
 constructor
 ·intro h i j hi hj hij he
  rw[List.length_map]at hi hj
  simp only[List.getElem_map]at he
  have:=h j xs[j] (List.getElem?_eq_getElem hj)
  rw[List.any_eq_false]at this
  refine this xs[i] ?_ (by rw[he,beq_self_eq_true])
  rw[List.mem_take_iff_getElem]
  exact⟨i,by omega,rfl⟩
 ·intro h j y hy
  rw[List.any_eq_false]
  intro z hz he
  rw[List.mem_take_iff_getElem]at hz
  obtain⟨i,hi,rfl⟩:=hz
  obtain⟨hj,rfl⟩:=List.getElem?_eq_some_iff.1 hy
  have:=h i j (by rw[List.length_map];omega) (by rw[List.length_map];exact hj) (by omega)
  simp only[List.getElem_map]at this
  exact this (beq_iff_eq.1 he)
def NC (e:Entr):Bool:=aa.f (e.ip,32,())&&(aa.f (e.hw,48,())&&(decide (0≤e.age)&&decide (e.age≤9)))
structure EO (v:List Entr):Prop where
 ok:∀e∈v,NC e=true
 nd:(v.map Entr.ip).Nodup
 len:v.length≤4
theorem uf (v:List Entr):gk.f (v,())=true↔EO v:=by
 have f1:=Et v (f:=λj a=>(dN v v j a).nice) (P:=λj y=>NC y=true∧(v.take j).any (λh=>h.ip==y.ip)=false) (λj y hy=>by
  simp only[PX,dN,ai,getD_some hy,rm,TG,List.drop_zero,ax,NC]
  cases aa.f (y.ip,32,())<;>cases aa.f (y.hw,48,())<;>cases(decide (0≤y.age)&&decide (y.age≤9))<;>cases(v.take j).any (λh=>h.ip==y.ip)<;>simp)
 have f3:=UP v
 have f5:aX (λj a=>(dN v v j a).nice) 1 (Int.toNat ((v.length:Int)-0)) 0 ()= .next ()↔(∀e∈v,NC e=true)∧(v.map Entr.ip).Nodup:=by
  rw[f1,←f3,←sO]
  exact⟨λh=>⟨λj y hy=>(h j y hy).1,λj y hy=>(h j y hy).2⟩,λh j y hy=>⟨h.1 j y hy,h.2 j y hy⟩⟩
 have e:gk.f (v,())=true↔v.length≤4∧aX (λj a=>(dN v v j a).nice) 1 (Int.toNat ((v.length:Int)-0)) 0 ()= .next ():=by
  simp only[PX,gk,i5]
  rw[show v.length≤4↔decide (4<(v.length:Int))=false by simp;omega]
  cases decide (4<(v.length:Int))<;>cases aX (λj a=>(dN v v j a).nice) 1 (Int.toNat ((v.length:Int)-0)) 0 ()<;>simp[Stp.elim]
 rw[e,f5]
 constructor
 ·rintro⟨h1,h2,h3⟩;exact⟨h2,h3,h1⟩
 ·rintro⟨h2,h3,h1⟩;exact⟨h1,h2,h3⟩
theorem It (v:List Entr):qE.f (v,())=gk.f (v,()):=by
 simp only[PX,qE,gk,lh,i5]
 have h1:=vY v (f:=λj a=>(oy v j a).nice) (g:=λj a=>(dN v v j a).nice) (k:=Int.toNat ((v.length:Int)-0)) (bq _) (λj y hy=>by
  simp only[PX,oy,dN,ai,getD_some hy,cK,bE,ax,xX,rm,TG,List.drop_zero,nF]
  cases aa.f (y.ip,32,())<;>cases aa.f (y.hw,48,())<;>cases(decide (0≤y.age)&&decide (y.age≤9))<;>cases(v.take j).any (λh=>h.ip==y.ip)<;>simp)
 rw[show decide ((v.length:Int)≤4)= !decide (4<(v.length:Int)) by rw[Bool.eq_iff_iff];simp]
 rcases h1 with⟨a,b,h5,h6⟩|⟨h5,h6⟩
 ·rw[h5,h6]
  cases decide (4<(v.length:Int))<;>rfl
 ·rw[h5,h6]
  cases decide (4<(v.length:Int))<;>rfl
theorem EB (l:Link):qM.f (l,())=d7.f (l,()):=by
 simp only[PX,qM,d7,cK,It]
theorem Ee (l:Link):d7.f (l,())=true↔((0≤l.mac∧l.mac≤281474976710655)∧l.mac≠281474976710655∧(0≤l.ip∧l.ip≤4294967295)∧EO l.cache):=by
 rw[←uf]
 simp only[PX,d7,BP,bb]
 rw[show(l.mac≠281474976710655)↔(l.mac != 281474976710655)=true by simp,show(0≤l.mac∧l.mac≤281474976710655)↔(decide (0≤l.mac)&&decide (l.mac≤281474976710655))=true by simp,show(0≤l.ip∧l.ip≤4294967295)↔(decide (0≤l.ip)&&decide (l.ip≤4294967295))=true by simp]
 cases(decide (0≤l.mac)&&decide (l.mac≤281474976710655))<;>cases(l.mac != 281474976710655)<;>cases(decide (0≤l.ip)&&decide (l.ip≤4294967295))<;>simp
theorem IT (l:Link)(ip:Int)(b:ac):vA.f (l,ip,b,())=bU.f (l,ip,b,()):=by
 simp only[PX,vA,bU,Xb,EB,Jt,uN]
 cases d7.f (l,())<;>cases(xc.f (l.cache,ip,())).2<;>simp only[Bool.not_true,Bool.not_false,cond_true,cond_false]
theorem vC {T U W:Type}(xs:List T)(F:T→List U){f:Int→List U→Stp (List U) W}(h:∀(j:Nat) x a,xs[j]? =some x→f (j:Int) a= .next (a++F x)):aX f 1 (Int.toNat ((xs.length:Int)-0)) 0 []= .next (xs.flatMap F):=by
 rw[bq,eb xs _ rfl (F:=λ_ x a=> .next (a++F x)) h]
 have key:∀(r:List T) (j:Nat) (a:List U),kB (W:=W) (λ_ x a=> .next (a++F x)) j r a= .next (a++r.flatMap F):=by
  intro r
  induction r with
  |nil=>intro j a;simp[kB]
  |cons x r ih=>
   intro j a
   have:=ih (j+1) (a++F x)
   rw[List.flatMap_cons,←List.append_assoc,←this]
   rfl
 rw[key];simp
theorem P0 {S T U W:Type}(xs:List T)(F:T→List U){f:Int→S×List U→Stp (S×List U) W}(h:∀(j:Nat) x a,xs[j]? =some x→∃s,f (j:Int) a= .next (s,a.2++F x))(s0:S):∃s,aX f 1 (Int.toNat ((xs.length:Int)-0)) 0 (s0,[])= .next (s,xs.flatMap F):=by
 rw[bq]
 have key:∀(n j:Nat) (s:S) (l:List U),j+n=xs.length→∃s2,aX f 1 n (j:Int) (s,l)= .next (s2,l++(xs.drop j).flatMap F):=by
  intro n
  induction n with
  |zero=>intro j s l e;exact⟨s,by rw[List.drop_of_length_le (by omega)];simp[aX]⟩
  |succ n ih=>
   intro j s l e
   have hj:j<xs.length:=by omega
   obtain⟨s1,e1⟩:=h j xs[j] (s,l) (List.getElem?_eq_getElem hj)
   obtain⟨s2,e2⟩:=ih (j+1) s1 (l++F xs[j]) (by omega)
   refine⟨s2, ?_⟩
   simp only[aX,e1,Stp.elim]
   rw[show(j:Int)+1=((j+1:Nat):Int) by omega,e2,List.drop_eq_getElem_cons hj]
   simp only[List.flatMap_cons,List.append_assoc]
 obtain⟨s,e⟩:=key xs.length 0 s0 [] (by omega)
 exact⟨s,by simpa using e⟩
def NY (l:Link)(ip:Int)(g:Segm):List ac:=bif aC.f (g,l.ip,ip,())==[]then[]else bif (bU.f (l,ip,aC.f (g,l.ip,ip,()),())).2 then[(bU.f (l,ip,aC.f (g,l.ip,ip,()),())).1]else[]
theorem qn (a b n:Int)(ha:aa.f (a,32,())=true)(hb:aa.f (b,32,())=true)(hn:aa.f (n,16,())=true):(bu.f (a,b,n,())==[])=false:=by
 simp only[PX,bu,ha,hb,hn,Bool.not_true,cond_false]
 simp
theorem Eb (g:Segm)(a b:Int)(hg:aj.f (g,())=true)(ha:aa.f (a,32,())=true)(hb:aa.f (b,32,())=true):(aC.f (g,a,b,())==[])=false:=by
 have h1:=RF g.opts
 have h2:=fg g hg
 have w1:IntKind.wrap .i64 (20+((aI.f (g.opts,())).length:Int))=20+((aI.f (g.opts,())).length:Int):=au (by omega) (by omega)
 have w2:IntKind.wrap .i64 (20+((aI.f (g.opts,())).length:Int)+(g.body.length:Int))=20+((aI.f (g.opts,())).length:Int)+(g.body.length:Int):=au (by omega) (by omega)
 have hp:=qn a b (20+((aI.f (g.opts,())).length:Int)+(g.body.length:Int)) ha hb (by rw[bz];simp;omega)
 simp only[PX,aC,hg,w1,w2,Bool.not_true,cond_false]
 rw[hp,cond_false]
 simp
theorem Wb (v:List Entr)(ip:Int)(h:(Tp v ip).2=true):∃e∈v,e.ip=ip:=by
 rw[TG,List.any_eq_true]at h
 obtain⟨e,h1,h2⟩:=h
 exact⟨e,h1,by simpa using h2⟩
theorem wL (l:Link)(ip:Int)(b:ac)(h:(bU.f (l,ip,b,())).2=true):d7.f (l,())=true∧(Tp l.cache ip).2=true:=by
 simp only[PX,bU,rm]at h
 revert h
 cases d7.f (l,())<;>cases(Tp l.cache ip).2<;>simp
theorem Ks (s:Stac)(ip:Int)(xs:List Segm)(hx:∀g∈xs,aj.f (g,())=true):gc.f (s,ip,xs,())=xs.flatMap (NY s.link ip):=by
 simp only[PX,gc,gf]
 rw[vC xs (NY s.link ip) (λj x a h=>by
  simp only[PX,pb,ai,getD_some h,NY,wY,IT]
  cases hk:(bU.f (s.link,ip,aC.f (x,s.link.ip,ip,()),())).2 with
  |false=>cases(aC.f (x,s.link.ip,ip,())==[])<;>simp
  |true=>
   obtain⟨h1,h2⟩:=wL _ _ _ hk
   obtain⟨_,_,h3,h4⟩:=(Ee _).1 h1
   obtain⟨e,he,rfl⟩:=Wb _ _ h2
   have h5:=h4.ok e he
   unfold NC at h5
   rw[Bool.and_eq_true]at h5
   rw[Eb x s.link.ip e.ip (hx x (sQ h)) (by rw[bb];simp[h3]) h5.1]
   rfl)]
 rfl
theorem vK (s:Stac):n5.f (s,())=s:=by simp only[PX,n5,oc,mi,List.nil_append]
theorem AR (s:Stac)(hs:kW s.door):jq.f (s,())=gz.f (s,()):=by simp only[PX,jq,gz,EB,FU s.door hs]
theorem B3 (s:Stac):gz.f (s,())=true↔d7.f (s.link,())=true∧dz.f (s.door,())=true:=by
 simp only[PX,gz]
 cases d7.f (s.link,())<;>simp
def tR (b:ac):Int:=b.foldl (λn x=>n*256+(x.toNat:Int)) 0
def am:Nat→Int→ac
 |0,_=>[]
 |k+1,n=>am k (n/256)++[UInt8.ofNat (n%256).toNat]
theorem qU (b:ac)(x:UInt8):tR (b++[x])=tR b*256+(x.toNat:Int):=by simp[tR]
theorem aF:∀(k:Nat) (n:Int),(am k n).length=k
 |0,_=>rfl
 |k+1,n=>by simp[am,aF k]
theorem JL {P:ac→Prop}(h0:P [])(h1:∀b x,P b→P (b++[x]))(b:ac):P b:=by
 have key:∀(n:Nat) (b:ac),b.length=n→P b:=by
  intro n
  induction n with
  |zero=>intro b hb;rw[List.eq_nil_of_length_eq_zero hb];exact h0
  |succ n ih=>
   intro b hb
   have hne:b≠[]:=by rintro rfl;simp at hb
   rw[←List.dropLast_concat_getLast hne]
   exact h1 _ _ (ih _ (by rw[List.length_dropLast];omega))
 exact key _ b rfl
theorem V2 (b:ac):0≤tR b:=by
 induction b using JL with
 |h0=>simp[tR]
 |h1 b x ih=>
  rw[qU];omega
theorem Vx (b:ac):tR b<256 ^ b.length:=by
 induction b using JL with
 |h0=>simp[tR]
 |h1 b x ih=>
  rw[qU,List.length_append,List.length_singleton,Int.pow_succ]
  have:=lj x
  omega
theorem V7 (x:UInt8):UInt8.ofNat x.toNat=x:=by simp
theorem Sx (b:ac):am b.length (tR b)=b:=by
 induction b using JL with
 |h0=>rfl
 |h1 b x ih=>
  rw[qU,List.length_append,List.length_singleton]
  have hx:=lj x
  have e1:(tR b*256+(x.toNat:Int))/256=tR b:=by omega
  have e2:((tR b*256+(x.toNat:Int))%256).toNat=x.toNat:=by omega
  simp only[am,e1,e2,ih,V7]
theorem dm:∀(k:Nat) (n:Int),0≤n→n<256 ^ k→tR (am k n)=n
 |0,n,h0,h1=>by
  have:n=0:=by simp at h1;omega
  subst this;rfl
 |k+1,n,h0,h1=>by
  rw[Int.pow_succ]at h1
  simp only[am,qU]
  rw[dm k (n/256) (by omega) (by omega)]
  have:((UInt8.ofNat (n%256).toNat).toNat:Int)=n%256:=by
   rw[UInt8.toNat_ofNat'];omega
  rw[this];omega
theorem GX (k:Nat)(x:Int)(t:List Int):(List.replicate (k+1) (0:Int)++t).set k x=List.replicate k 0++(x::t):=by
 rw[List.replicate_succ',List.append_assoc,List.set_append_right _ _ (by simp)]
 simp
def nt:Int→Int:=λn=>if n=0 then 0 else(n-1)%65535+1
theorem PG (n:Int)(h:65536≤n):nt (n/65536+n%65536)=nt n:=by
 unfold nt
 rw[if_neg (by omega),if_neg (by omega)]
 omega
theorem MX (n:Int)(h0:0≤n)(h:n<65536):nt n=n:=by
 unfold nt
 split
 ·omega
 ·omega
theorem vP (n:Int)(h:0≤n):nt (n+(65535-nt n))=65535∧0≤nt n∧nt n≤65535:=by
 unfold nt
 split
 ·subst_vars;simp
 ·rw[if_neg (by omega)];omega
theorem zc (n:Int):((UInt8.ofNat (n%256).toNat).toNat:Int)=n%256:=by
 rw[UInt8.toNat_ofNat'];omega
theorem GL (b:ac):aA (dB b)=b:=by
 unfold aA dB
 rw[List.map_map]
 refine(List.map_congr_left (g:=id) λx _=> ?_).trans (List.map_id b)
 simp
theorem ML {f:Int→Int×List Int→Stp (Int×List Int) Empty}(hf:∀i a,f i a= .next (a.1/256,a.2.set i.toNat (a.1%256))):∀(m:Nat) (n:Int) (t:List Int),∃n',aX f (-1) m ((m:Int)-1) (n,List.replicate m 0++t)= .next (n',dB (am m n)++t)
 |0,n,t=>⟨n,by simp[aX,am,dB]⟩
 |m+1,n,t=>by
  obtain⟨n',ih⟩:=ML hf m (n/256) (n%256::t)
  refine⟨n', ?_⟩
  have e1:((m+1:Nat):Int)-1=(m:Int):=by omega
  simp only[aX,hf,Stp.elim,e1,ai,GX]
  rw[show(m:Int)+ -1=(m:Int)-1 by omega,ih]
  simp only[am,dB,List.map_append,List.map_cons,List.map_nil,zc,List.append_assoc,List.cons_append,List.nil_append]
theorem aG (n sz:Int)(h1:1≤sz)(h6:sz≤6)(h:aa.f (n,8*sz,())=true):av.f (n,sz,())=am sz.toNat n:=by
 have hw:IntKind.wrap .i64 (8*sz)=8*sz:=au (by omega) (by omega)
 obtain⟨n',e⟩:=ML (f:=λj a=>(dd j a).nice) (λi a=>by
  simp only[PX,dd,n8]
  rw[Int.fdiv_eq_ediv_of_nonneg _ (by omega)]) sz.toNat n []
 rw[List.append_nil,List.append_nil]at e
 have e1:IntKind.wrap .i64 (sz-1)=(sz.toNat:Int)-1:=by rw[au (by omega) (by omega)];omega
 have e2:Int.toNat (((sz.toNat:Int)-1)-0+1)=sz.toNat:=by omega
 simp only[PX,av,ax,dW,hw,h,decide_eq_true h1,decide_eq_true h6,Bool.and_self,Bool.not_true,cond_false,e1,e2]
 refine(congrArg (Stp.elim _ _) e).trans ?_
 simp only[Stp.elim,GL]
def gw (s:ac)(p n:Nat):Int:=tR ((s.drop p).take n)
theorem U5 {s:ac}{p n:Nat}(h:p+n≤s.length):((s.drop p).take n).length=n:=by
 rw[List.length_take,List.length_drop];omega
theorem T9 {s:ac}{p n:Nat}(h:p+n≤s.length):0≤gw s p n∧gw s p n<256 ^ n:=by
 refine⟨V2 _, ?_⟩
 have:=Vx ((s.drop p).take n)
 rwa [U5 h]at this
theorem qc {s:ac}{p n:Nat}(h:p+n≤s.length):am n (gw s p n)=(s.drop p).take n:=by
 have:=Sx ((s.drop p).take n)
 rwa [U5 h]at this
theorem E8 (s:ac)(p:Nat){f:Int→Int→Stp Int Empty}(hf:∀(j:Nat) (a:Int),p+j<s.length→0≤a→a<1099511627776→f (j:Int) a= .next (a*256+af s (p+j))):∀(m j:Nat),j+m≤6→p+j+m≤s.length→aX f 1 m (j:Int) (tR ((s.drop p).take j))= .next (tR ((s.drop p).take (j+m)))
 |0,j,_,_=>rfl
 |m+1,j,h1,h2=>by
  have hr:=T9 (s:=s) (p:=p) (n:=j) (by omega)
  unfold gw at hr
  have hj:(256:Int) ^ j≤1099511627776:=by
   rcases(show j=0∨j=1∨j=2∨j=3∨j=4∨j=5 by omega)with rfl|rfl|rfl|rfl|rfl|rfl<;>decide
  have hp:p+j<s.length:=by omega
  have e:(s.drop p).take (j+1)=(s.drop p).take j++[s[p+j]]:=by
   rw[List.take_succ_eq_append_getElem (by rw[List.length_drop];omega),List.getElem_drop]
  simp only[aX]
  rw[hf j _ (by omega) hr.1 (by omega)]
  simp only[Stp.elim]
  rw[iq s (p+j) hp,←qU,←e,show(j:Int)+1=((j+1:Nat):Int) by omega,E8 s p hf m (j+1) (by omega) (by omega),show j+1+m=j+(m+1) by omega]
theorem X3 (a b:Int)(h0:0≤a)(h1:a<1099511627776)(h2:0≤b)(h3:b≤255):bits .or .i64 (a*256) b=a*256+b:=by
 obtain⟨x,rfl⟩:=Int.eq_ofNat_of_zero_le h0
 obtain⟨y,rfl⟩:=Int.eq_ofNat_of_zero_le h2
 have key:(BitVec.ofInt 64 ((x:Int)*256)|||BitVec.ofInt 64 (y:Int)).toNat=x*256+y:=by
  rw[BitVec.toNat_or,BitVec.toNat_ofInt,BitVec.toNat_ofInt,show((x:Int)*256%((2 ^ 64:Nat):Int)).toNat=x*256 by omega,show((y:Int)%((2 ^ 64:Nat):Int)).toNat=y by omega,show x*256=x<<<8 by rw[Nat.shiftLeft_eq],Nat.shiftLeft_add_eq_or_of_lt (by omega)]
 show IntKind.i64.wrap ((BitVec.ofInt 64 ((x:Int)*256)|||BitVec.ofInt 64 (y:Int)).toNat:Nat)=_
 rw[key,dh]
 omega
theorem Jq (s:ac)(p n:Nat)(h1:1≤n)(h6:n≤6)(hp:p+n≤s.length)(hs:s.length≤4294967296):vy.f (s,(p:Int),(n:Int),())=(gw s p n,true):=by
 have e:=E8 s p (f:=λj a=>(o9 s (p:Int) j a).nice) (λj a h ha hb=>by
  have:=fS s (p+j)
  simp only[PX,o9]
  rw[au (m:=(p:Int)+(j:Int)) (by omega) (by omega),show((p:Int)+(j:Int)).toNat=p+j by omega,au (m:=af s (p+j)) (by omega) (by omega),au (m:=a*256) (by omega) (by omega),X3 a _ ha hb (by omega) (by omega)]) n 0 (by omega) (by omega)
 rw[Nat.zero_add]at e
 have c1:(decide ((1:Int)≤(n:Int))&&decide ((n:Int)≤6))=true:=by simp;omega
 have c2:decide ((p:Int)<0)=false:=by simp
 have c3:decide (IntKind.wrap .i64 ((s.length:Int)-(n:Int))<(p:Int))=false:=by rw[au (by omega) (by omega)];simp;omega
 simp only[PX,vy,ax,kV,c1,c2,c3,Bool.not_true,cond_false,bq]
 refine(congrArg (Stp.elim _ _) e).trans ?_
 simp only[Stp.elim,gw]
theorem bo (s:ac)(p n:Nat)(h1:1≤n)(h6:n≤6)(hp:p+n≤s.length)(hs:s.length≤4294967296):bD.f (s,(p:Int),(n:Int),())=(gw s p n,true):=by
 have e:=E8 s p (f:=λj a=>(oM s (p:Int) j a).nice) (λj a h ha hb=>by
  have:=fS s (p+j)
  simp only[PX,oM]
  rw[au (m:=(p:Int)+(j:Int)) (by omega) (by omega),show((p:Int)+(j:Int)).toNat=p+j by omega,au (m:=af s (p+j)) (by omega) (by omega),au (m:=256*a) (by omega) (by omega),au (by omega) (by omega),Int.mul_comm]) n 0 (by omega) (by omega)
 rw[Nat.zero_add]at e
 have c1:(decide ((1:Int)≤(n:Int))&&decide ((n:Int)≤6))=true:=by simp;omega
 have c3:(decide ((0:Int)≤(p:Int))&&decide ((p:Int)≤(IntKind.wrap .i64 ((s.length:Int)-(n:Int)))))=true:=by rw[au (by omega) (by omega)];simp;omega
 simp only[PX,bD,bE,lw,c1,c3,Bool.not_true,cond_false,bq]
 refine(congrArg (Stp.elim _ _) e).trans ?_
 simp only[Stp.elim,gw]
theorem bF (s:ac)(p n:Nat)(h1:1≤n)(h6:n≤6)(hp:p+n≤s.length)(hs:s.length≤4294967296):dG.f (s,(p:Int),(n:Int),())=gw s p n:=by
 simp only[PX,dG,Jq s p n h1 h6 hp hs]
theorem WH {f:Int→Stp Int Int}(hf:∀a,0≤a→a≤9223372036854775807→f a=bif decide (65536≤a)then .next (a/65536+a%65536)else .out a):∀(m:Nat) (a:Int),0≤a→a≤9223372036854775807→a<m→bG f m a=nt a
 |0,a,h0,h1,hm=>by omega
 |m+1,a,h0,h1,hm=>by
  simp only[bG,hf a h0 h1]
  by_cases h:65536≤a
  ·rw[decide_eq_true h,cond_true]
   simp only[Stp.elim]
   rw[WH hf m _ (by omega) (by omega) (by omega),PG a h]
  ·rw[decide_eq_false h,cond_false]
   simp only[Stp.elim]
   rw[MX a h0 (by omega)]
theorem NF (n:Int)(h0:0≤n)(h1:n≤9223372036854775807):ri.f (n,())=nt n:=by
 have e:=WH (f:=λa=>(jO a).nice) (λa ha hb=>by
  simp only[PX,jO]
  by_cases h:65536≤a
  ·rw[decide_eq_true h,cond_true,cond_true,A2 h hb]
  ·rw[decide_eq_false h,cond_false,cond_false]) (n.toNat+1) n h0 h1 (by omega)
 simp only[PX,ri,jP,decide_eq_false (show¬n<0 by omega),cond_false]
 exact e
theorem sw (v:ac)(hv:v.length≤4294967296):gb.f (v,())=65535-nt (ws false v):=by
 have h:=A5 false v
 have h2:=(vP _ h.1).2
 simp only[PX,gb,nP v hv]
 rw[NF _ h.1 (by omega),au (by omega) (by omega)]
theorem HQ (v:ac)(hv:v.length≤4294967296):em.f (v,())=(nt (ws false v)==65535):=by
 simp only[PX,em,sw v hv]
 rw[Bool.eq_iff_iff];simp;omega
theorem GC (v:ac)(hv:v.length≤4294967296):py.f (v,())=em.f (v,()):=by
 simp only[PX,py,em,Lj v hv]
theorem XO (a:Int)(h0:0≤a)(h1:a≤255):(bits .and .u8 a 191 != 0)= !(a==0||a==64):=by
 obtain⟨x,rfl⟩:=Int.eq_ofNat_of_zero_le h0
 have key:∀y:Fin 256,(bits .and .u8 ((y.val:Nat):Int) 191 != 0)= !(((y.val:Nat):Int)==0||((y.val:Nat):Int)==64):=by decide+kernel
 exact key ⟨x,by omega⟩
theorem Yr (n:Int)(h0:0≤n)(h1:n≤65535):(bits .andNot .i64 n 16384 != 0)= !(n==0||n==16384):=by
 obtain⟨x,rfl⟩:=Int.eq_ofNat_of_zero_le h0
 by_cases c:x=0∨x=16384
 ·rcases c with rfl|rfl<;>decide+kernel
 ·have hx:((x:Int)==0||(x:Int)==16384)=false:=by simp;omega
  rw[hx,Bool.not_false,bne_iff_ne]
  intro he
  have h2:IntKind.i64.wrap (((BitVec.ofInt 64 (x:Int))&&& ~~~(BitVec.ofInt 64 16384)).toNat:Nat)=0:=he
  have e0:BitVec.ofInt 64 (x:Int)=BitVec.ofNat 64 x:=by
   apply BitVec.eq_of_toNat_eq;rw[BitVec.toNat_ofInt,BitVec.toNat_ofNat];omega
  rw[e0]at h2
  have h3:(BitVec.ofNat 64 x)&&& ~~~(BitVec.ofInt 64 16384)=0#64:=by
   apply BitVec.eq_of_toNat_eq
   have:=((BitVec.ofNat 64 x)&&& ~~~(BitVec.ofInt 64 16384)).isLt
   rw[dh]at h2
   simp only[BitVec.toNat_ofNat]
   omega
  have h4:(BitVec.ofNat 64 x)=(BitVec.ofNat 64 x)&&& 16384#64:=by
   ext i hi
   have:=congrArg (λb=>b.getLsbD i) h3
   simp only[BitVec.getLsbD_and,BitVec.getLsbD_not,hi,decide_true,Bool.true_and,BitVec.getLsbD_zero]at this
   rw[BitVec.getElem_and]
   have e:(BitVec.ofInt 64 16384).getLsbD i=(16384#64).getLsbD i:=rfl
   rw[e]at this
   rw[←BitVec.getLsbD_eq_getElem,←BitVec.getLsbD_eq_getElem]
   revert this
   cases(BitVec.ofNat 64 x).getLsbD i<;>cases(16384#64).getLsbD i<;>simp
  have h5:=congrArg BitVec.toNat h4
  rw[BitVec.toNat_and,BitVec.toNat_ofNat,BitVec.toNat_ofNat,Nat.mod_eq_of_lt (by omega),show 16384%2 ^ 64=2 ^ 14 from rfl]at h5
  have h6:x≤2 ^ 14:=by rw[h5];exact Nat.and_le_right
  have h7:x<2 ^ 14:=by omega
  have h8:x&&& 2 ^ 14=0:=by
   apply Nat.eq_of_testBit_eq
   intro i
   rw[Nat.testBit_and,Nat.testBit_two_pow,Nat.zero_testBit]
   by_cases hi:14=i
   ·subst hi;rw[Nat.testBit_lt_two_pow h7];rfl
   ·simp[hi]
  omega
theorem YY (a b:UInt8):tR [a,b]=(a.toNat:Int)*256+b.toNat:=by simp[tR]
theorem YX (s:ac)(p:Nat)(h:p+2≤s.length):gw s p 2=af s p*256+af s (p+1):=by
 rw[iq s p (by omega),iq s (p+1) (by omega),gw,List.drop_eq_getElem_cons (by omega),List.drop_eq_getElem_cons (i:=p+1) (by omega)]
 simp only[List.take_succ_cons,List.take_zero,YY]
def bS (s:ac):Fram×Bool:=if s.length<14 then(⟨0,0,0,[]⟩,false)else bif dH.f (⟨gw s 0 6,gw s 6 6,gw s 12 2,s.drop 14⟩,())then(⟨gw s 0 6,gw s 6 6,gw s 12 2,s.drop 14⟩,true)else(⟨0,0,0,[]⟩,false)
theorem LH {α:Type}(s:List α):s.take ((s.length:Int).toNat)=s:=by rw[ai,List.take_length]
theorem oL (s:ac)(hs:s.length≤4294967296):iZ.f (s,())=bS s:=by
 unfold bS
 by_cases h:s.length<14
 ·rw[if_pos h]
  simp only[PX,iZ,decide_eq_true (show(s.length:Int)<14 by omega),cond_true]
 ·rw[if_neg h]
  have w1:=bF s 0 6 (by omega) (by omega) (by omega) hs
  have w2:=bF s 6 6 (by omega) (by omega) (by omega) hs
  have w3:=bF s 12 2 (by omega) (by omega) (by omega) hs
  simp only[Int.ofNat_zero,Int.cast_ofNat_Int]at w1 w2 w3
  simp only[PX,iZ,decide_eq_false (show¬(s.length:Int)<14 by omega),cond_false,w1,w2,w3,LH]
  cases dH.f (⟨gw s 0 6,gw s 6 6,gw s 12 2,s.drop 14⟩,())<;>rfl
theorem Bt (f:Fram):dH.f (f,())=true↔aa.f (f.dst,48,())=true∧aa.f (f.src,48,())=true∧1536≤f.type∧f.type≤65535∧f.body.length≤1586:=by
 simp only[PX,dH,ax]
 cases aa.f (f.dst,48,())<;>cases aa.f (f.src,48,())<;>simp<;>omega
theorem vi (f:Fram)(h:dH.f (f,())=true):cm.f (f,())=am 6 f.dst++am 6 f.src++am 2 f.type++f.body:=by
 obtain⟨h1,h2,h3,h4,h5⟩:=(Bt f).1 h
 have p1:=aG f.dst 6 (by omega) (by omega) h1
 have p2:=aG f.src 6 (by omega) (by omega) h2
 have p3:=aG f.type 2 (by omega) (by omega) (by rw[show(8:Int)*2=16 from rfl,bz];simp;omega)
 simp only[PX,cm,h,p1,p2,p3,Bool.not_true,cond_false]
 rfl
theorem Ys (s:ac)(h:14≤s.length):(s.drop 0).take 6++(s.drop 6).take 6++(s.drop 12).take 2++s.drop 14=s:=by
 rw[List.drop_zero,List.append_assoc,List.append_assoc,show s.drop 14=(s.drop 12).drop 2 by rw[List.drop_drop],List.take_append_drop,show s.drop 12=(s.drop 6).drop 6 by rw[List.drop_drop],List.take_append_drop,List.take_append_drop]
theorem vc (s:ac)(hs:s.length≤4294967296):kI.f (s,())=bS s:=by
 unfold bS
 by_cases h:s.length<14
 ·rw[if_pos h]
  simp only[PX,kI,decide_eq_true (show(s.length:Int)<14 by omega),cond_true]
 ·rw[if_neg h]
  have w1:=bo s 0 6 (by omega) (by omega) (by omega) hs
  have w2:=bo s 6 6 (by omega) (by omega) (by omega) hs
  have w3:=bo s 12 2 (by omega) (by omega) (by omega) hs
  simp only[Int.ofNat_zero,Int.cast_ofNat_Int]at w1 w2 w3
  simp only[PX,kI,decide_eq_false (show¬(s.length:Int)<14 by omega),cond_false,w1,w2,w3,LH,uN]
  rcases Bool.eq_false_or_eq_true (dH.f (⟨gw s 0 6,gw s 6 6,gw s 12 2,s.drop 14⟩,()))with ho|ho
  ·rw[vi _ ho,ho]
   simp only[]
   rw[qc (by omega),qc (by omega),qc (by omega),Ys s (by omega),beq_self_eq_true,Bool.not_true,cond_false,cond_true]
  ·have e:cm.f (⟨gw s 0 6,gw s 6 6,gw s 12 2,s.drop 14⟩,())=[]:=by simp only[PX,cm,ho,Bool.not_false,cond_true]
   have e2:(([]:ac)==s)=false:=by
    cases s with
    |nil=>simp at h
    |cons a r=>rfl
   rw[e,ho,e2,Bool.not_false,cond_true,cond_false]
def zP:Pack:=⟨0,0,0,0,0,[]⟩
def cG (s:ac):Pack×Int:=
 bif decide (s.length<20)then(zP,1)else bif af s 0 != 69 then(zP,2)else bif !em.f (s.take 20,())then(zP,3)else
 bif (decide (gw s 2 2<20)||(decide ((s.length:Int)<gw s 2 2)||decide (1500<gw s 2 2)))then(zP,4)else bif !(gw s 6 2==0||gw s 6 2==16384)then(zP,5)else bif af s 8==0 then(zP,6)else
 (⟨gw s 12 4,gw s 16 4,af s 8,af s 9,gw s 4 2,(s.take (gw s 2 2).toNat).drop 20⟩,0)
theorem B0 (s:ac)(k:Nat):IntKind.wrap .i64 (af s k)=af s k:=by
 have:=fS s k
 exact au (by omega) (by omega)
theorem nf (s:ac)(hs:s.length≤4294967296):dI.f (s,())=cG s:=by
 unfold cG
 by_cases h:s.length<20
 ·rw[decide_eq_true h,cond_true]
  simp only[PX,dI,decide_eq_true (show(s.length:Int)<20 by omega),cond_true,zP]
 ·rw[decide_eq_false h,cond_false]
  have w1:=bF s 2 2 (by omega) (by omega) (by omega) hs
  have w2:=bF s 6 2 (by omega) (by omega) (by omega) hs
  have w3:=bF s 12 4 (by omega) (by omega) (by omega) hs
  have w4:=bF s 16 4 (by omega) (by omega) (by omega) hs
  have w5:=bF s 4 2 (by omega) (by omega) (by omega) hs
  simp only[Int.cast_ofNat_Int]at w1 w2 w3 w4 w5
  have r6:=T9 (s:=s) (p:=6) (n:=2) (by omega)
  have a6:=Yr (gw s 6 2) r6.1 (by have:=r6.2;omega)
  simp only[PX,dI,decide_eq_false (show¬(s.length:Int)<20 by omega),cond_false,w1,w2,w3,w4,w5,B0,a6,List.drop_zero,zP]
  cases decide (gw s 2 2<20)<;>cases decide ((s.length:Int)<gw s 2 2)<;>simp only[cond_true,cond_false,Bool.true_or,Bool.false_or]
theorem tw (s:ac)(hs:s.length≤4294967296):jc.f (s,())=cG s:=by
 unfold cG
 by_cases h:s.length<20
 ·rw[decide_eq_true h,cond_true]
  simp only[PX,jc,decide_eq_true (show(s.length:Int)<20 by omega),cond_true,zP]
 ·rw[decide_eq_false h,cond_false]
  have w1:=bo s 2 2 (by omega) (by omega) (by omega) hs
  have w3:=bo s 12 4 (by omega) (by omega) (by omega) hs
  have w4:=bo s 16 4 (by omega) (by omega) (by omega) hs
  have w5:=bo s 4 2 (by omega) (by omega) (by omega) hs
  simp only[Int.cast_ofNat_Int]at w1 w3 w4 w5
  have b6:=fS s 6
  have b7:=fS s 7
  have e6:=YX s 6 (by omega)
  have a6:=XO (af s 6) b6.1 b6.2
  have e1:(!(decide (20≤gw s 2 2)&&decide (gw s 2 2≤if(s.length:Int)<1500 then(s.length:Int)else 1500)))=(decide (gw s 2 2<20)||(decide ((s.length:Int)<gw s 2 2)||decide (1500<gw s 2 2))):=by
   rw[Bool.eq_iff_iff];simp;split<;>omega
  have e2:(bif !(af s 6==0||af s 6==64)then true else af s 7 != 0)= !(gw s 6 2==0||gw s 6 2==16384):=by
   rw[e6,Bool.eq_iff_iff]
   cases h6:(af s 6==0||af s 6==64)<;>simp at h6⊢<;>omega
  have hq:=GC (s.take 20) (by rw[List.length_take];omega)
  simp only[PX,jc,decide_eq_false (show¬(s.length:Int)<20 by omega),cond_false,w1,w3,w4,w5,B0,a6,md,bE,e1,hq,List.drop_zero,zP]
  rw[←e2]
  cases(!(af s 6==0||af s 6==64))<;>rfl
def zA:Arpm:=⟨0,0,0,0,0⟩
def Wf (s:ac):Arpm:=⟨gw s 6 2,gw s 8 6,gw s 14 4,gw s 18 6,gw s 24 4⟩
def Io (s:ac):Arpm×Bool:=
 bif decide (s.length<28)then(zA,false)else bif !(s.take 6==[0,1,8,0,6,4])then(zA,false)else bif !j2.f (Wf s,())then(zA,false)else(Wf s,true)
theorem zJ (s:ac)(hs:s.length≤4294967296):kH.f (s,())=Io s:=by
 unfold Io
 by_cases h:s.length<28
 ·rw[decide_eq_true h,cond_true]
  simp only[PX,kH,decide_eq_true (show(s.length:Int)<28 by omega),cond_true,zA]
 ·rw[decide_eq_false h,cond_false]
  have w1:=bF s 6 2 (by omega) (by omega) (by omega) hs
  have w2:=bF s 8 6 (by omega) (by omega) (by omega) hs
  have w3:=bF s 14 4 (by omega) (by omega) (by omega) hs
  have w4:=bF s 18 6 (by omega) (by omega) (by omega) hs
  have w5:=bF s 24 4 (by omega) (by omega) (by omega) hs
  simp only[Int.cast_ofNat_Int]at w1 w2 w3 w4 w5
  simp only[PX,kH,decide_eq_false (show¬(s.length:Int)<28 by omega),cond_false,w1,w2,w3,w4,w5,List.drop_zero,zA,Wf]
theorem Ru (a:Arpm):z0.f (a,())=j2.f (a,()):=by
 simp only[PX,z0,j2,cK,bE,ax]
theorem IC (a:Arpm):n9.f (a,())=dE.f (a,()):=by
 simp only[PX,n9,dE,Ru,mp]
theorem O4 (a:Arpm)(m ip:Int):rR.f (a,m,ip,())=kj.f (a,m,ip,()):=by
 simp only[PX,rR,kj,Ru]
theorem SI (a:Arpm):j2.f (a,())=true↔(1≤a.kind∧a.kind≤2)∧aa.f (a.srcHw,48,())=true∧aa.f (a.dstHw,48,())=true∧aa.f (a.srcIp,32,())=true∧aa.f (a.dstIp,32,())=true:=by
 simp only[PX,j2,ax]
 cases aa.f (a.srcHw,48,())<;>cases aa.f (a.dstHw,48,())<;>cases aa.f (a.srcIp,32,())<;>cases aa.f (a.dstIp,32,())<;>simp
theorem yR (a:Arpm)(h:j2.f (a,())=true):dE.f (a,())=[0,1,8,0,6,4]++am 2 a.kind++am 6 a.srcHw++am 4 a.srcIp++am 6 a.dstHw++am 4 a.dstIp:=by
 obtain⟨h1,h2,h3,h4,h5⟩:=(SI a).1 h
 have p1:=aG a.kind 2 (by omega) (by omega) (by rw[show(8:Int)*2=16 from rfl,bz];simp;omega)
 have p2:=aG a.srcHw 6 (by omega) (by omega) h2
 have p3:=aG a.srcIp 4 (by omega) (by omega) h4
 have p4:=aG a.dstHw 6 (by omega) (by omega) h3
 have p5:=aG a.dstIp 4 (by omega) (by omega) h5
 simp only[PX,dE,h,p1,p2,p3,p4,p5,Bool.not_true,cond_false]
 rfl
theorem X5 (s:ac):s.take 6++(s.drop 6).take 2++(s.drop 8).take 6++(s.drop 14).take 4++(s.drop 18).take 6++(s.drop 24).take 4=s.take 28:=by
 rw[show 28=24+4 from rfl,List.take_add,show 24=18+6 from rfl,List.take_add,show 18=14+4 from rfl,List.take_add,show 14=8+6 from rfl,List.take_add,show 8=6+2 from rfl,List.take_add]
theorem KB (s:ac)(hs:s.length≤4294967296):qP.f (s,())=Io s:=by
 unfold Io
 by_cases h:s.length<28
 ·rw[decide_eq_true h,cond_true]
  simp only[PX,qP,decide_eq_true (show(s.length:Int)<28 by omega),cond_true,zA]
 ·rw[decide_eq_false h,cond_false]
  have w1:=bo s 6 2 (by omega) (by omega) (by omega) hs
  have w2:=bo s 8 6 (by omega) (by omega) (by omega) hs
  have w3:=bo s 14 4 (by omega) (by omega) (by omega) hs
  have w4:=bo s 18 6 (by omega) (by omega) (by omega) hs
  have w5:=bo s 24 4 (by omega) (by omega) (by omega) hs
  simp only[Int.cast_ofNat_Int]at w1 w2 w3 w4 w5
  have hg:(⟨gw s 6 2,gw s 8 6,gw s 14 4,gw s 18 6,gw s 24 4⟩:Arpm)=Wf s:=rfl
  simp only[PX,qP,decide_eq_false (show¬(s.length:Int)<28 by omega),cond_false,w1,w2,w3,w4,w5,List.drop_zero,zA,hg,IC]
  rcases Bool.eq_false_or_eq_true (j2.f (Wf s,()))with ho|ho
  ·have e:(dE.f (Wf s,())==s.take 28)=(s.take 6==[0,1,8,0,6,4]):=by
    rw[yR _ ho,←X5 s]
    simp only[Wf]
    rw[qc (by omega),qc (by omega),qc (by omega),qc (by omega),qc (by omega),Bool.eq_iff_iff,beq_iff_eq,beq_iff_eq]
    constructor
    ·intro he
     simp only[List.append_assoc]at he
     exact(List.append_inj he (by simp;omega)).1.symm
    ·intro he;rw[he]
   rw[e,ho]
   cases(s.take 6==[0,1,8,0,6,4])<;>rfl
  ·have e:dE.f (Wf s,())=[]:=by simp only[PX,dE,ho,Bool.not_false,cond_true]
   have e2:(([]:ac)==s.take 28)=false:=by
    cases s with
    |nil=>simp at h
    |cons a r=>rfl
   rw[e,ho,e2,Bool.not_false,cond_true]
   cases(s.take 6==[0,1,8,0,6,4])<;>rfl
theorem xo {A W V:Type}[Inhabited W][Inhabited V]{f:A→Stp A W}{g:A→Stp A V}{h:W→V}{Inv:A→Prop}{meas:A→Nat}(hs:∀a,Inv a→(∃a',f a= .next a'∧g a= .next a'∧Inv a'∧meas a'<meas a)∨(∃w,f a= .out w∧g a= .out (h w))):∀(m:Nat) (a:A),meas a<m→Inv a→h (bG f m a)=bG g m a
 |0,_,hm,_=>absurd hm (Nat.not_lt_zero _)
 |m+1,a,hm,hi=>by
  simp only[bG]
  rcases hs a hi with⟨a',e1,e2,e3,e4⟩|⟨w,e1,e2⟩
  ·rw[e1,e2]
   exact xo hs m a' (by omega) e3
  ·rw[e1,e2];rfl
def pB:Opti:=⟨0,-1,false,false,0,0⟩
def Gl (v:ac)(p:Nat)(o:Opti):Opti:=
 bif af v p==2&&af v (p+1)==4 then{o with mss:=gw v (p+2) 2}else bif af v p==3&&af v (p+1)==3 then{o with scale:=if 14<af v (p+2)then 14 else af v (p+2)}else
 bif af v p==4&&af v (p+1)==2 then{o with sack:=true}else bif af v p==8&&af v (p+1)==10 then{o with stamp:=true,val:=gw v (p+2) 4,echo:=gw v (p+6) 4}else o
def cF (v:ac)(a:Int×Opti):Stp (Int×Opti) (Opti×Bool):=
 bif !decide (a.1<(v.length:Int))then .out (a.2,true)else bif af v a.1.toNat==0 then .out (a.2,true)else bif af v a.1.toNat==1 then .next (a.1+1,a.2)else
 bif decide ((v.length:Int)≤a.1+1)||(decide (af v (a.1.toNat+1)<2)||decide ((v.length:Int)-a.1<af v (a.1.toNat+1)))then .out (pB,false)else .next (a.1+af v (a.1.toNat+1),Gl v a.1.toNat a.2)
def qp (v:ac)(a:Int×Opti):Opti×Bool:=bG (cF v) (Int.toNat ((v.length:Int)-a.1)+1) a
theorem pY (v:ac)(a:Int×Opti)(h:0≤a.1)(a':Int×Opti)(e:cF v a= .next a'):0≤a'.1∧Int.toNat ((v.length:Int)-a'.1)<Int.toNat ((v.length:Int)-a.1):=by
 unfold cF at e
 by_cases h1:a.1<(v.length:Int)
 case neg=>rw[decide_eq_false h1]at e;cases e
 rw[decide_eq_true h1,Bool.not_true,cond_false]at e
 cases h2:(af v a.1.toNat==0)with
 |true=>rw[h2]at e;cases e
 |false=>
  rw[h2,cond_false]at e
  cases h3:(af v a.1.toNat==1)with
  |true=>rw[h3,cond_true]at e;cases e;simp only[];omega
  |false=>
   rw[h3,cond_false]at e
   cases h4:(decide ((v.length:Int)≤a.1+1)||(decide (af v (a.1.toNat+1)<2)||decide ((v.length:Int)-a.1<af v (a.1.toNat+1))))with
   |true=>rw[h4]at e;cases e
   |false=>
    rw[h4,cond_false]at e
    cases e
    simp at h4
    simp only[];omega
theorem A7 (v:ac)(a:Int×Opti)(h:0≤a.1):qp v a=Stp.elim (qp v) (λw=>w) (cF v a):=by
 unfold qp
 simp only[bG]
 cases e:cF v a with
 |out w=>rfl
 |next a'=>
  have hi:=pY v a h a' e
  simp only[Stp.elim]
  exact B6 (Inv:=λa:Int×Opti=>0≤a.1) (meas:=λa=>Int.toNat ((v.length:Int)-a.1)) (λa ha a' e=>pY v a ha a' e) _ _ a' hi.2 (Nat.lt_succ_self _) hi.1
theorem qO (v:ac)(hv:v.length≤4294967296):io.f (v,())=qp v (0,pB):=by
 have key:=xo (f:=λa=>(cp v a).nice) (g:=cF v) (h:=Sum.elim (λo=>(o,true)) (λp=>(p.1,false))) (Inv:=λa:Int×Opti=>0≤a.1) (meas:=λa=>Int.toNat ((v.length:Int)-a.1)) (λa ha=>by
  have ha:0≤a.1:=ha
  by_cases h1:a.1<(v.length:Int)
  case neg=>refine .inr ⟨.inl a.2, ?_, ?_⟩<;>simp only[PX,cp,cF,decide_eq_false h1,cond_false,Bool.not_false,cond_true,Sum.elim_inl]
  have w1:IntKind.wrap .i64 (a.1+1)=a.1+1:=au (by omega) (by omega)
  have w2:IntKind.wrap .i64 (a.1+2)=a.1+2:=au (by omega) (by omega)
  have w6:IntKind.wrap .i64 (a.1+6)=a.1+6:=au (by omega) (by omega)
  have wl:IntKind.wrap .i64 ((v.length:Int)-a.1)=(v.length:Int)-a.1:=au (by omega) (by omega)
  have t1:(a.1+1).toNat=a.1.toNat+1:=by omega
  have t2:(a.1+2).toNat=a.1.toNat+2:=by omega
  have b1:=fS v (a.1.toNat+1)
  have wb:IntKind.wrap .i64 (a.1+af v (a.1.toNat+1))=a.1+af v (a.1.toNat+1):=au (by omega) (by omega)
  have hst:=pY v a ha
  have eN:bM.f ()=pB:=by simp only[PX,bM,pB]
  cases h2:(af v a.1.toNat==0)with
  |true=>refine .inr ⟨.inl a.2, ?_, ?_⟩<;>simp only[PX,cp,cF,decide_eq_true h1,h2,cond_false,Bool.not_true,cond_true,Sum.elim_inl]
  |false=>
   cases h3:(af v a.1.toNat==1)with
   |true=>
    have e:cF v a= .next (a.1+1,a.2):=by simp only[cF,decide_eq_true h1,h2,h3,cond_false,Bool.not_true,cond_true]
    refine .inl ⟨_, ?_,e,hst _ e⟩
    simp only[PX,cp,decide_eq_true h1,h2,h3,cond_false,cond_true,w1]
   |false=>
    cases h4:(decide ((v.length:Int)≤a.1+1)||(decide (af v (a.1.toNat+1)<2)||decide ((v.length:Int)-a.1<af v (a.1.toNat+1))))with
    |true=>
     have e:cF v a= .out (pB,false):=by simp only[cF,decide_eq_true h1,h2,h3,h4,cond_false,Bool.not_true,cond_true]
     refine .inr ⟨.inr (pB,a.2), ?_,e⟩
     revert h4
     simp only[PX,cp,decide_eq_true h1,h2,h3,cond_false,cond_true,w1,wl,t1,B0,eN]
     cases decide ((v.length:Int)≤a.1+1)<;>cases decide (af v (a.1.toNat+1)<2)<;>cases decide ((v.length:Int)-a.1<af v (a.1.toNat+1))<;>intro h4<;>first|rfl|cases h4
    |false=>
     have e:cF v a= .next (a.1+af v (a.1.toNat+1),Gl v a.1.toNat a.2):=by simp only[cF,decide_eq_true h1,h2,h3,h4,cond_false,Bool.not_true,cond_true]
     refine .inl ⟨_, ?_,e,hst _ e⟩
     simp only[Bool.or_eq_false_iff,decide_eq_false_iff_not]at h4
     obtain⟨h5,h6,h7⟩:=h4
     simp only[PX,cp,decide_eq_true h1,h2,h3,cond_false,cond_true,w1,w2,w6,wl,t1,t2,B0,decide_eq_false h5,decide_eq_false h6,decide_eq_false h7,wb,Gl]
     have g2:(af v a.1.toNat==2&&af v (a.1.toNat+1)==4)=true→dG.f (v,a.1+2,2,())=gw v (a.1.toNat+2) 2:=λhh=>by
      simp at hh
      have:=bF v (a.1.toNat+2) 2 (by omega) (by omega) (by omega) hv
      rw[show((a.1.toNat+2:Nat):Int)=a.1+2 by omega]at this
      exact this
     have g8:(af v a.1.toNat==8&&af v (a.1.toNat+1)==10)=true→dG.f (v,a.1+2,4,())=gw v (a.1.toNat+2) 4∧dG.f (v,a.1+6,4,())=gw v (a.1.toNat+6) 4:=λhh=>by
      simp at hh
      have k1:=bF v (a.1.toNat+2) 4 (by omega) (by omega) (by omega) hv
      have k2:=bF v (a.1.toNat+6) 4 (by omega) (by omega) (by omega) hv
      rw[show((a.1.toNat+2:Nat):Int)=a.1+2 by omega]at k1
      rw[show((a.1.toNat+6:Nat):Int)=a.1+6 by omega]at k2
      exact⟨k1,k2⟩
     revert g2 g8
     cases(af v a.1.toNat==2)<;>cases(af v (a.1.toNat+1)==4)<;>cases(af v a.1.toNat==3)<;>cases(af v (a.1.toNat+1)==3)<;>cases(af v a.1.toNat==4)<;>cases(af v (a.1.toNat+1)==2)<;>cases(af v a.1.toNat==8)<;>cases(af v (a.1.toNat+1)==10)<;>intro g2 g8<;>simp only[Bool.and_true,Bool.and_false,Bool.false_and,Bool.true_and,cond_true,cond_false]<;>first|rfl|(rw[g2 rfl])|(rw[(g8 rfl).1,(g8 rfl).2])) (Int.toNat ((v.length:Int)-0)+1) (0,pB) (by simp) (by simp)
 have eN:bM.f ()=pB:=by simp only[PX,bM,pB]
 simp only[PX,io,gI,eN]
 rw[qp,←key]
 cases bG (λa=>(cp v a).nice) (Int.toNat ((v.length:Int)-0)+1) (0,pB)<;>rfl
theorem LF (v:ac)(e p k:Nat)(h:p+k<e):af ((v.take e).drop p) k=af v (p+k):=by
 simp[af,List.getD,List.getElem?_drop,List.getElem?_take,h]
theorem Uw (v:ac)(e p k n:Nat)(h:p+k+n≤e):gw ((v.take e).drop p) k n=gw v (p+k) n:=by
 unfold gw
 rw[List.drop_drop,List.drop_take,List.take_take,Nat.min_eq_left (by omega)]
theorem QR (v:ac)(p e:Nat)(o:Opti)(hv:v.length≤4294967296)(he:e≤v.length)(h2:p+2≤e)(hn:af v (p+1)=(e:Int)-p):Dt.f (o,(v.take e).drop p,())=Gl v p o:=by
 have hl:((v.take e).drop p).length=e-p:=by rw[List.length_drop,List.length_take];omega
 have c0:=LF v e p 0 (by omega)
 rw[Nat.add_zero]at c0
 have w4:(((v.take e).drop p).length:Int)=af v (p+1):=by rw[hl,hn];omega
 have hx:((v.take e).drop p).length≤4294967296:=by omega
 have g2:(af v p==2&&af v (p+1)==4)=true→bD.f ((v.take e).drop p,2,2,())=(gw v (p+2) 2,true):=λhh=>by
  simp at hh
  have:=bo ((v.take e).drop p) 2 2 (by omega) (by omega) (by omega) hx
  rw[Uw _ _ _ _ _ (by omega)]at this
  exact this
 have g3:(af v p==3&&af v (p+1)==3)=true→af ((v.take e).drop p) 2=af v (p+2):=λhh=>by
  simp at hh
  exact LF v e p 2 (by omega)
 have g8:(af v p==8&&af v (p+1)==10)=true→bD.f ((v.take e).drop p,2,4,())=(gw v (p+2) 4,true)∧bD.f ((v.take e).drop p,6,4,())=(gw v (p+6) 4,true):=λhh=>by
  simp at hh
  have k1:=bo ((v.take e).drop p) 2 4 (by omega) (by omega) (by omega) hx
  have k2:=bo ((v.take e).drop p) 6 4 (by omega) (by omega) (by omega) hx
  rw[Uw _ _ _ _ _ (by omega)]at k1 k2
  exact⟨k1,k2⟩
 simp only[PX,Dt,Gl,c0,w4,B0,md]
 revert g2 g3 g8
 cases(af v p==2)<;>cases(af v (p+1)==4)<;>cases(af v p==3)<;>cases(af v (p+1)==3)<;>cases(af v p==4)<;>cases(af v (p+1)==2)<;>cases(af v p==8)<;>cases(af v (p+1)==10)<;>intro g2 g3 g8<;>simp only[Bool.and_true,Bool.and_false,Bool.false_and,Bool.true_and,cond_true,cond_false]<;>first|rfl|(rw[g2 rfl])|(rw[g3 rfl])|(rw[(g8 rfl).1,(g8 rfl).2])
theorem AX (v:ac)(hv:v.length≤4294967296):jN.f (v,())=qp v (0,pB):=by
 have key:=xo (f:=λa=>(cq v a).nice) (g:=cF v) (h:=Sum.elim (λp=>(p.1,false)) (λo=>(o,true))) (Inv:=λa:Int×Opti=>0≤a.1) (meas:=λa=>Int.toNat ((v.length:Int)-a.1)) (λa ha=>by
  have ha:0≤a.1:=ha
  by_cases h1:a.1<(v.length:Int)
  case neg=>refine .inr ⟨.inr a.2, ?_, ?_⟩<;>simp only[PX,cq,cF,decide_eq_false h1,cond_false,Bool.not_false,cond_true,Sum.elim_inr]
  have w1:IntKind.wrap .i64 (a.1+1)=a.1+1:=au (by omega) (by omega)
  have wl:IntKind.wrap .i64 ((v.length:Int)-a.1)=(v.length:Int)-a.1:=au (by omega) (by omega)
  have t1:(a.1+1).toNat=a.1.toNat+1:=by omega
  have b1:=fS v (a.1.toNat+1)
  have wb:IntKind.wrap .i64 (a.1+af v (a.1.toNat+1))=a.1+af v (a.1.toNat+1):=au (by omega) (by omega)
  have hst:=pY v a ha
  have eN:bI.f ()=pB:=by simp only[PX,bI,pB]
  cases h2:(af v a.1.toNat==0)with
  |true=>refine .inr ⟨.inr a.2, ?_, ?_⟩<;>simp only[PX,cq,cF,decide_eq_true h1,bne,h2,cond_false,Bool.not_true,cond_true,Sum.elim_inr]
  |false=>
   cases h3:(af v a.1.toNat==1)with
   |true=>
    have e:cF v a= .next (a.1+1,a.2):=by simp only[cF,decide_eq_true h1,h2,h3,cond_false,Bool.not_true,cond_true]
    refine .inl ⟨_, ?_,e,hst _ e⟩
    simp only[PX,cq,decide_eq_true h1,bne,h2,h3,Bool.not_false,cond_false,cond_true,w1]
   |false=>
    cases h4:(decide ((v.length:Int)≤a.1+1)||(decide (af v (a.1.toNat+1)<2)||decide ((v.length:Int)-a.1<af v (a.1.toNat+1))))with
    |true=>
     have e:cF v a= .out (pB,false):=by simp only[cF,decide_eq_true h1,h2,h3,h4,cond_false,Bool.not_true,cond_true]
     refine .inr ⟨.inl (pB,a.2), ?_,e⟩
     revert h4
     simp only[PX,cq,decide_eq_true h1,bne,h2,h3,Bool.not_false,cond_false,cond_true,w1,wl,t1,B0,eN]
     cases decide ((v.length:Int)≤a.1+1)<;>cases decide (af v (a.1.toNat+1)<2)<;>cases decide ((v.length:Int)-a.1<af v (a.1.toNat+1))<;>intro h4<;>first|rfl|cases h4
    |false=>
     have e:cF v a= .next (a.1+af v (a.1.toNat+1),Gl v a.1.toNat a.2):=by simp only[cF,decide_eq_true h1,h2,h3,h4,cond_false,Bool.not_true,cond_true]
     refine .inl ⟨_, ?_,e,hst _ e⟩
     simp only[Bool.or_eq_false_iff,decide_eq_false_iff_not]at h4
     obtain⟨h5,h6,h7⟩:=h4
     have hl:=QR v a.1.toNat (a.1+af v (a.1.toNat+1)).toNat a.2 hv (by omega) (by omega) (by omega)
     simp only[PX,cq,decide_eq_true h1,bne,h2,h3,Bool.not_false,cond_false,cond_true,w1,wl,t1,B0,decide_eq_false h5,decide_eq_false h6,decide_eq_false h7,wb,hl]) (Int.toNat ((v.length:Int)-0)+1) (0,pB) (by simp) (by simp)
 have eN:bI.f ()=pB:=by simp only[PX,bI,pB]
 simp only[PX,jN,gJ,eN]
 rw[qp,←key]
 cases bG (λa=>(cq v a).nice) (Int.toNat ((v.length:Int)-0)+1) (0,pB)<;>rfl
def P9 (v:List Entr):Int:=match aX (λj a=>(dQ v j a).nice) 1 3 1 0 with| .next a=>a| .out e=>Empty.elim e
theorem Qh (v:List Entr):aX (λj a=>(dQ v j a).nice) 1 3 1 0= .next (P9 v):=by
 unfold P9
 cases aX (λj a=>(dQ v j a).nice) 1 3 1 0 with
 |next a=>rfl
 |out e=>exact Empty.elim e
theorem WD (v:List Entr)(j a:Int):(dQ v j a).nice= .next (bif decide ((v.getD a.toNat (Ty.zero .entr)).age<(v.getD j.toNat (Ty.zero .entr)).age)then j else a):=by
 simp only[PX,dQ]
 cases decide ((v.getD a.toNat (Ty.zero .entr)).age<(v.getD j.toNat (Ty.zero .entr)).age)<;>rfl
theorem Q6 (v:List Entr):0≤P9 v∧P9 v<4:=by
 have e:=Qh v
 simp only[aX,WD,Stp.elim]at e
 have key:∀(b:Bool) (x y:Int),(0≤x∧x<4)→(0≤y∧y<4)→0≤(bif b then x else y)∧(bif b then x else y)<4:=by
  intro b x y hx hy
  cases b<;>assumption
 rw[←Stp.next.inj e]
 refine key _ _ _ (by omega) (key _ _ _ (by omega) (key _ _ _ (by omega) (by omega)))
theorem Vy (v:List Entr):aX (λj a=>(dQ v j a).nice) 1 4 0 0= .next (P9 v):=by
 rw[←Qh v]
 show Stp.elim _ _ ((dQ v 0 0).nice)=_
 rw[WD,decide_eq_false (Int.lt_irrefl _),cond_false]
 rfl
def QX (v:List Entr)(ip hw:Int):List Entr:=bif decide (0≤gK (λe:Entr=>e.ip==ip) v)then v.set (gK (λe:Entr=>e.ip==ip) v).toNat ⟨ip,hw,0⟩else(bif ((v.length:Int)==4)then v.take (P9 v).toNat++v.drop ((P9 v).toNat+1)else v)++[⟨ip,hw,0⟩]
def Aj (v:List Entr)(ip hw:Int):List Entr:=bif (gk.f (v,())&&(aa.f (ip,32,())&&aa.f (hw,48,())))then QX v ip hw else v
theorem zD (v:List Entr)(ip hw:Int):qK.f (v,ip,hw,())=Aj v ip hw:=by
 unfold Aj
 simp only[PX,qK,im,fh,eT]
 rcases Bool.eq_false_or_eq_true (gk.f (v,()))with h1|h1
 case inr=>rw[h1];rfl
 have hE:=(uf v).1 h1
 have hlen:=hE.len
 rw[h1]
 cases h2:aa.f (ip,32,())with
 |false=>rfl
 |true=>
  cases h3:aa.f (hw,48,())with
  |false=>rfl
  |true=>
   simp only[Bool.not_true,cond_false,Bool.and_self,cond_true,bq]
   rw[eb v _ rfl (F:=λj x _=>bif x.ip==ip then .out (v.set j (⟨ip,hw,0⟩:Entr))else .next ()) (λj x a h=>by
    have hj:j<v.length:=(List.getElem?_eq_some_iff.1 h).1
    have hx:=getD_some (d:=Ty.zero .entr) h
    simp only[PX,vg,ai,hx]
    cases hb:(x.ip==ip)with
    |false=>rfl
    |true=>
     rw[cond_true,cond_true,List.set_set]
     have e:(v.set j ({x with hw:=hw}:Entr)).getD j (Ty.zero .entr)=({x with hw:=hw}:Entr):=getD_some (by simp[hj])
     rw[e,←beq_iff_eq.1 hb]),iY (p:=λe:Entr=>e.ip==ip) (w:=λj _=>v.set j (⟨ip,hw,0⟩:Entr))]
   unfold QX gK
   cases hf:v.findIdx? (λe=>e.ip==ip)with
   |some i=>
    obtain⟨h4,_,_⟩:=List.findIdx?_eq_some_iff_getElem.1 hf
    have hx:v[i]? =some v[i]:=List.getElem?_eq_getElem h4
    simp only[hx,Stp.elim,Nat.zero_add,decide_eq_true (show(0:Int)≤(i:Int) by omega),cond_true,ai]
   |none=>
    simp only[Stp.elim,decide_eq_false (show¬(0:Int)≤-1 by omega),cond_false]
    cases h4:((v.length:Int)==4)with
    |false=>rfl
    |true=>
     have h5:v.length=4:=by have:=beq_iff_eq.1 h4;omega
     have ho:=Q6 v
     obtain⟨o,hoe⟩:=Int.eq_ofNat_of_zero_le ho.1
     have e4:=Vy v
     rw[h5]
     simp only[cond_true]
     refine(congrArg (Stp.elim _ _) e4).trans ?_
     simp only[Stp.elim,PX,oq,hoe,ai]
     rw[au (by omega) (by omega),show((o:Int)==(o:Int)+1)=false by simp;omega,show((o:Int)+1).toNat=o+1 by omega]
     simp only[cond_false]
     have hL:(v.take o++v.drop (o+1)).length=o+(v.length-(o+1)):=by
      rw[List.length_append,List.length_take,List.length_drop];omega
     generalize v.take o++v.drop (o+1)=L at hL⊢
     rw[List.drop_zero,List.take_left' hL,List.take_left' (rfl:L.length=L.length),List.append_assoc,List.take_left' hL]
theorem KS (v:List Entr)(ip hw:Int):lV.f (v,ip,hw,())=Aj v ip hw:=by
 unfold Aj
 simp only[PX,lV,It,cK,List.nil_append,i1,xX]
 rcases Bool.eq_false_or_eq_true (gk.f (v,()))with h1|h1
 case inr=>rw[h1];rfl
 have hE:=(uf v).1 h1
 have hlen:=hE.len
 rw[h1]
 cases h2:aa.f (ip,32,())with
 |false=>rfl
 |true=>
  cases h3:aa.f (hw,48,())with
  |false=>rfl
  |true=>
   simp only[Bool.not_true,cond_false,Bool.and_self,cond_true]
   unfold QX
   cases hf:decide (0≤gK (λe:Entr=>e.ip==ip) v)with
   |true=>rfl
   |false=>
    simp only[cond_false]
    cases h4:((v.length:Int)==4)with
    |false=>rfl
    |true=>
     have h5:v.length=4:=by have:=beq_iff_eq.1 h4;omega
     have ho:=Q6 v
     obtain⟨o,hoe⟩:=Int.eq_ofNat_of_zero_le ho.1
     have e4:=Qh v
     simp only[cond_true]
     rw[h5,show Int.toNat (((4:Nat):Int)-1)=3 from rfl]
     refine(congrArg (Stp.elim _ _) e4).trans ?_
     simp only[Stp.elim,hoe,ai]
     rw[au (by omega) (by omega),show((o:Int)+1).toNat=o+1 by omega,List.drop_zero]
     first|rw[List.take_of_length_le (show v.length≤4 by omega)]|rw[List.take_length]
theorem UF (a:Int)(h0:0≤a)(h1:a≤255):bits .and .i64 a 63=a.tmod 64:=by
 obtain⟨x,rfl⟩:=Int.eq_ofNat_of_zero_le h0
 have key:∀y:Fin 256,bits .and .i64 ((y.val:Nat):Int) 63=((y.val:Nat):Int).tmod 64:=by decide+kernel
 exact key ⟨x,by omega⟩
theorem Hf (v:ac)(hv:v.length≤4294967296):jN.f (v,())=io.f (v,()):=by
 rw[AX v hv,qO v hv]
theorem wA (s:ac)(a b:Int)(hs:s.length≤4294967276):iu.f (s,a,b,())=aH.f (s,a,b,()):=by
 by_cases h:s.length<20
 ·simp only[PX,iu,aH,decide_eq_true (show(s.length:Int)<20 by omega),cond_true]
 ·have pL:s.length≤4294967296:=by omega
  have w1:=bF s 0 2 (by omega) (by omega) (by omega) pL
  have w2:=bF s 2 2 (by omega) (by omega) (by omega) pL
  have w3:=bF s 4 4 (by omega) (by omega) (by omega) pL
  have w4:=bF s 8 4 (by omega) (by omega) (by omega) pL
  have w5:=bF s 14 2 (by omega) (by omega) (by omega) pL
  have v1:=bo s 0 2 (by omega) (by omega) (by omega) pL
  have v2:=bo s 2 2 (by omega) (by omega) (by omega) pL
  have v3:=bo s 4 4 (by omega) (by omega) (by omega) pL
  have v4:=bo s 8 4 (by omega) (by omega) (by omega) pL
  have v5:=bo s 14 2 (by omega) (by omega) (by omega) pL
  simp only[Int.ofNat_zero,Int.cast_ofNat_Int]at w1 w2 w3 w4 w5 v1 v2 v3 v4 v5
  have b13:=fS s 13
  have e13:=UF (af s 13) b13.1 b13.2
  have hph:=Uf a b (s.length:Int)
  have hq:=GC (bu.f (a,b,(s.length:Int),())++s) (by rw[List.length_append];omega)
  simp only[PX,iu,aH,decide_eq_false (show¬(s.length:Int)<20 by omega),cond_false,w1,w2,w3,w4,w5,v1,v2,v3,v4,v5,B0,e13,yw,bE,hq,mQ]
  generalize IntKind.wrap .i64 ((IntKind.wrap .i64 ((af s 12).tdiv 16))*4)=n
  rw[Hf _ (by rw[List.length_drop,List.length_take];omega)]
  rw[show(!(decide (20≤n)&&decide (n≤(s.length:Int))))=(decide (n<20)||decide ((s.length:Int)<n)) by rw[Bool.eq_iff_iff];simp<;>omega]
  cases decide (n<20)<;>cases decide ((s.length:Int)<n)<;>rfl
theorem uw (l:Link):pN.f (l,())=l:=by simp only[PX,pN,im]
theorem S8 (l:Link):oc.f (l,())=l:=by simp only[PX,oc,List.nil_append]
theorem V9 (f:Fram)(m:Int):Dp.f (f,m,())=nQ.f (f,m,()):=by simp only[PX,Dp,nQ]
theorem qA (s:ac):(bS s).1.body.length≤s.length:=by
 unfold bS
 split
 ·simp
 ·cases dH.f (⟨gw s 0 6,gw s 6 6,gw s 12 2,s.drop 14⟩,())<;>simp
theorem TL (l:Link)(raw:ac)(hs:raw.length≤4294967296):y3.f (l,raw,())=bk.f (l,raw,()):=by
 have hb:=qA raw
 simp only[PX,y3,bk,FL,uw,S8,V9,vc raw hs,oL raw hs,EB,KS,zD,O4,IC,uN]
 generalize bS raw=F at hb
 rw[KB F.1.body (by omega),zJ F.1.body (by omega),tw F.1.body (by omega),nf F.1.body (by omega)]
 generalize Io F.1.body=A
 generalize cG F.1.body=P
 cases(bif !d7.f (l,())then(true,())else bif !F.2 then(true,())else(!nQ.f (F.1,l.mac,()),())).1 with
 |true=>rfl
 |false=>
  simp only[cond_false]
  cases(F.1.type==2054)with
  |true=>
   simp only[cond_true]
   cases(bif !A.2 then(true,())else(A.1.dstIp != l.ip,())).1 with
   |true=>rfl
   |false=>cases(kj.f (A.1,l.mac,l.ip,())).2<;>rfl
  |false=>
   simp only[cond_false,bne]
   cases(F.1.type==2048)<;>rfl
structure Pkt (l:Link)(raw:ac)(k:Link)(p:Pack):Prop where
 hF:(bS raw).2=true
 hM:nQ.f ((bS raw).1,l.mac,())=true
 hP:cG (bS raw).1.body=(p,0)
 hD:p.dst=l.ip
 hT:p.proto=6
 hS:p.src≠l.ip
 hK:k={l with cache:=Aj l.cache p.src (bS raw).1.src}
theorem QH (l:Link)(raw:ac)(hs:raw.length≤4294967296):∃(k:Link) (n:Int) (p:Pack) (t:ac),bk.f (l,raw,())=(k,n,p,t)∧((k=l∧n=0∧p=zP)∨(∃ip hw,k={l with cache:=Aj l.cache ip hw}∧(n=0∨n=1)∧p=zP)∨(n=2∧Pkt l raw k p)):=by
 obtain⟨r,hr⟩:∃r,bk.f (l,raw,())=r:=⟨_,rfl⟩
 refine⟨r.1,r.2.1,r.2.2.1,r.2.2.2,hr, ?_⟩
 have hb:=qA raw
 simp only[PX,bk,uw,oL raw hs,zD]at hr
 rw[zJ _ (by omega),nf _ (by omega)]at hr
 generalize Io (bS raw).1.body=A at hr
 rcases Bool.eq_false_or_eq_true (bif !d7.f (l,())then(true,())else bif !(bS raw).2 then(true,())else(!nQ.f ((bS raw).1,l.mac,()),())).1 with hc|hc
 ·rw[hc,cond_true]at hr;subst hr;exact .inl ⟨rfl,rfl,rfl⟩
 rw[hc,cond_false]at hr
 rcases Bool.eq_false_or_eq_true (((bS raw).1).type==2054)with h1|h1
 ·rw[h1,cond_true]at hr
  rcases Bool.eq_false_or_eq_true (bif !A.2 then(true,())else(A.1.dstIp != l.ip,())).1 with h2|h2
  ·rw[h2,cond_true]at hr;subst hr;exact .inl ⟨rfl,rfl,rfl⟩
  rw[h2,cond_false]at hr
  rcases Bool.eq_false_or_eq_true (kj.f (A.1,l.mac,l.ip,())).2 with h3|h3
  ·rw[h3,cond_true]at hr;subst hr;exact .inr (.inl ⟨_,_,rfl,.inr rfl,rfl⟩)
  ·rw[h3,cond_false]at hr;subst hr;exact .inr (.inl ⟨_,_,rfl,.inl rfl,rfl⟩)
 rw[h1,cond_false]at hr
 rcases Bool.eq_false_or_eq_true (((bS raw).1).type==2048)with h2|h2
 case inr=>rw[h2,cond_false]at hr;subst hr;exact .inl ⟨rfl,rfl,rfl⟩
 rw[h2,cond_true]at hr
 rcases Bool.eq_false_or_eq_true (bif (cG (bS raw).1.body).2 != 0 then(true,())else bif (cG (bS raw).1.body).1.dst != l.ip then(true,())else bif (cG (bS raw).1.body).1.proto != 6 then(true,())else((cG (bS raw).1.body).1.src==l.ip,())).1 with hP|hP
 ·rw[hP,cond_true]at hr;subst hr;exact .inl ⟨rfl,rfl,rfl⟩
 rw[hP,cond_false]at hr
 subst hr
 refine .inr (.inr ⟨rfl, ?_⟩)
 revert hP hc
 cases d7.f (l,())<;>cases h1:(bS raw).2<;>cases h2:nQ.f ((bS raw).1,l.mac,())<;>intro hc<;>try (cases hc)
 cases h3:((cG (bS raw).1.body).2 != 0)<;>cases h4:((cG (bS raw).1.body).1.dst != l.ip)<;>cases h5:((cG (bS raw).1.body).1.proto != 6)<;>cases h6:((cG (bS raw).1.body).1.src==l.ip)<;>intro hP<;>try (cases hP)
 simp at h3 h4 h5 h6
 exact⟨h1,h2,by rw[←h3],h4,h5,h6,rfl⟩
theorem IV (s:ac):(cG s).1.body.length≤s.length-20:=by
 unfold cG
 by_cases h:s.length<20
 ·rw[decide_eq_true h];exact Nat.zero_le _
 ·rw[decide_eq_false h]
  cases(af s 0 != 69)
  case true=>exact Nat.zero_le _
  cases(!em.f (s.take 20,()))
  case true=>exact Nat.zero_le _
  cases(decide (gw s 2 2<20)||(decide ((s.length:Int)<gw s 2 2)||decide (1500<gw s 2 2)))
  case true=>exact Nat.zero_le _
  cases(!(gw s 6 2==0||gw s 6 2==16384))
  case true=>exact Nat.zero_le _
  cases(af s 8==0)
  case true=>exact Nat.zero_le _
  simp only[cond_false,List.length_drop,List.length_take]
  omega
def DI (s:Stac)(raw:ac):Stac×List ac×Int:=
 bif !gz.f (s,())then(s,[],0)else
 bif (bk.f (s.link,raw,())).2.1==1 then(⟨(bk.f (s.link,raw,())).1,s.door⟩,[(bk.f (s.link,raw,())).2.2.2],0)else
 bif (bk.f (s.link,raw,())).2.1 != 2 then(⟨(bk.f (s.link,raw,())).1,s.door⟩,[],0)else
 bif !(aH.f ((bk.f (s.link,raw,())).2.2.1.body,(bk.f (s.link,raw,())).2.2.1.src,(bk.f (s.link,raw,())).2.2.1.dst,())).2 then(⟨(bk.f (s.link,raw,())).1,s.door⟩,[],0)else
 (⟨(bk.f (s.link,raw,())).1,(Hh s.door (bk.f (s.link,raw,())).2.2.1.src (aH.f ((bk.f (s.link,raw,())).2.2.1.body,(bk.f (s.link,raw,())).2.2.1.src,(bk.f (s.link,raw,())).2.2.1.dst,())).1).1⟩,
  (Hh s.door (bk.f (s.link,raw,())).2.2.1.src (aH.f ((bk.f (s.link,raw,())).2.2.1.body,(bk.f (s.link,raw,())).2.2.1.src,(bk.f (s.link,raw,())).2.2.1.dst,())).1).2.1.flatMap (NY (bk.f (s.link,raw,())).1 (bk.f (s.link,raw,())).2.2.1.src),
  (Hh s.door (bk.f (s.link,raw,())).2.2.1.src (aH.f ((bk.f (s.link,raw,())).2.2.1.body,(bk.f (s.link,raw,())).2.2.1.src,(bk.f (s.link,raw,())).2.2.1.dst,())).1).2.2)
theorem K5 (s:Stac)(raw:ac)(hr:raw.length≤4294967296)(hs:kW s.door)(hl:s.door.halves.length≤4294967296):ro.f (s,raw,())=DI s raw:=by
 rcases Bool.eq_false_or_eq_true (gz.f (s,()))with h|h
 case inr=>simp only[PX,ro,vK,AR s hs,h,Bool.not_false,cond_true,DI]
 have hD:=(A1 _).1 ((B3 s).1 h).2
 obtain⟨k,n,p,t,e,hc⟩:=QH s.link raw hr
 have hp:p.body.length≤4294967276:=by
  rcases hc with⟨_,_,rfl⟩|⟨_,_,_,_,rfl⟩|⟨_,hk⟩
  ·exact Nat.zero_le _
  ·exact Nat.zero_le _
  ·have h1:=IV (bS raw).1.body
   have h2:=qA raw
   rw[hk.hP]at h1
   simp only[]at h1
   omega
 have hg:=wA p.body p.src p.dst hp
 have hso:=Ve s.door p.src (aH.f (p.body,p.src,p.dst,())).1 hs hD
 have hse:=Pe s.door p.src (aH.f (p.body,p.src,p.dst,())).1 hs hl
 simp only[PX,ro,vK,AR s hs,h,Bool.not_true,cond_false,DI,TL s.link raw hr,e,hg,hse]
 rw[Ks _ _ _ hso.2]
 cases(n==1)with
 |true=>rfl
 |false=>
  simp only[cond_false]
  cases(n != 2)with
  |true=>rfl
  |false=>rfl
theorem np (a b c:ac)(p n:Nat)(hp:a.length=p)(hb:b.length=n):gw (a++(b++c)) p n=tR b:=by
 unfold gw
 rw[List.drop_left' hp,List.take_left' hb]
theorem pM (a c:ac)(b:UInt8)(p:Nat)(hp:a.length=p):af (a++(b::c)) p=(b.toNat:Int):=by
 subst hp
 rw[iq _ _ (by simp)]
 simp
theorem LZ (n:Int)(h0:0≤n)(h1:n≤255):am 1 n=[UInt8.ofNat n.toNat]∧((UInt8.ofNat n.toNat).toNat:Int)=n:=by
 have e:n%256=n:=by omega
 refine⟨by simp only[am,e,List.nil_append], ?_⟩
 have:=zc n
 rwa [e]at this
theorem Vh (n:Int)(h0:0≤n)(h1:n≤65535):ws false (am 2 n)=n:=by
 have a:=zc n
 have b:=zc (n/256)
 simp only[am,List.nil_append,List.cons_append,ws]
 omega
theorem Yo {n:Int}(h:aa.f (n,48,())=true):0≤n∧n<256 ^ 6:=by
 rw[BP]at h
 simp at h
 omega
theorem WJ {n:Int}(h:aa.f (n,32,())=true):0≤n∧n<256 ^ 4:=by
 rw[bb]at h
 simp at h
 omega
theorem WA {n:Int}(h:aa.f (n,16,())=true):0≤n∧n<256 ^ 2:=by
 rw[bz]at h
 simp at h
 omega
theorem w8 {n:Int}(h:aa.f (n,8,())=true):0≤n∧n≤255:=by
 rw[kd]at h
 simp at h
 omega
theorem Ed (f:Fram)(h:dH.f (f,())=true):bS (cm.f (f,()))=(f,true):=by
 obtain⟨h1,h2,h3,h4,h5⟩:=(Bt f).1 h
 rw[vi f h]
 have g0:gw (am 6 f.dst++am 6 f.src++am 2 f.type++f.body) 0 6=f.dst:=by
  rw[show am 6 f.dst++am 6 f.src++am 2 f.type++f.body=[]++(am 6 f.dst++(am 6 f.src++(am 2 f.type++f.body))) by simp,np _ _ _ 0 6 rfl (aF 6 _),dm 6 _ (Yo h1).1 (Yo h1).2]
 have g1:gw (am 6 f.dst++am 6 f.src++am 2 f.type++f.body) 6 6=f.src:=by
  rw[show am 6 f.dst++am 6 f.src++am 2 f.type++f.body=am 6 f.dst++(am 6 f.src++(am 2 f.type++f.body)) by simp,np _ _ _ 6 6 (aF 6 _) (aF 6 _),dm 6 _ (Yo h2).1 (Yo h2).2]
 have g2:gw (am 6 f.dst++am 6 f.src++am 2 f.type++f.body) 12 2=f.type:=by
  rw[show am 6 f.dst++am 6 f.src++am 2 f.type++f.body=(am 6 f.dst++am 6 f.src)++(am 2 f.type++f.body) by simp,np _ _ _ 12 2 (by simp[aF]) (aF 2 _),dm 2 _ (by omega) (by omega)]
 have g3:(am 6 f.dst++am 6 f.src++am 2 f.type++f.body).drop 14=f.body:=List.drop_left' (by simp[aF])
 unfold bS
 rw[if_neg (by simp[aF];omega),g0,g1,g2,g3]
 rw[show(⟨f.dst,f.src,f.type,f.body⟩:Fram)=f from rfl,h,cond_true]
theorem C7 (p:Pack)(h:fT.f (p,())=true):eI.f (p,())=(([69,0]++am 2 (20+(p.body.length:Int))++am 2 p.id++[0,0]++am 1 p.ttl++am 1 p.proto)++am 2 (gb.f ((([69,0]++am 2 (20+(p.body.length:Int))++am 2 p.id++[0,0]++am 1 p.ttl++am 1 p.proto)++[0,0])++(am 4 p.src++am 4 p.dst),()))++(am 4 p.src++am 4 p.dst))++p.body:=by
 obtain⟨hs,hd,t1,t2,hp,hi,hb⟩:=le p h
 have w:IntKind.wrap .i64 (20+(p.body.length:Int))=20+(p.body.length:Int):=au (by omega) (by omega)
 have l1:=aG (20+(p.body.length:Int)) 2 (by omega) (by omega) (by rw[show(8:Int)*2=16 from rfl,bz];simp;omega)
 have l2:=aG p.id 2 (by omega) (by omega) hi
 have l3:=aG p.ttl 1 (by omega) (by omega) (by rw[show(8:Int)*1=8 from rfl,kd];simp;omega)
 have l4:=aG p.proto 1 (by omega) (by omega) hp
 have l5:=aG p.src 4 (by omega) (by omega) hs
 have l6:=aG p.dst 4 (by omega) (by omega) hd
 simp only[PX,eI,h,w,l1,l2,l3,l4,l5,l6,Bool.not_true,cond_false]
 rw[show Int.toNat 2=2 from rfl,show Int.toNat 1=1 from rfl,show Int.toNat 4=4 from rfl]
 have hl:((([69,0]++am 2 (20+(p.body.length:Int))++am 2 p.id++[0,0]++am 1 p.ttl++am 1 p.proto)++[0,0])++(am 4 p.src++am 4 p.dst)).length≤4294967296:=by simp[aF]
 generalize hW:((([69,0]++am 2 (20+(p.body.length:Int))++am 2 p.id++[0,0]++am 1 p.ttl++am 1 p.proto)++[0,0])++(am 4 p.src++am 4 p.dst))=W at hl⊢
 have hc:=sw W hl
 have hf:=vP _ (A5 false W).1
 rw[aG _ 2 (by omega) (by omega) (by rw[show(8:Int)*2=16 from rfl,bz,hc];simp;omega)]
 rfl
theorem Rh (a b:ac)(n:Nat)(h:a.length=2*n)(hl:(a++(am 2 (gb.f (a++([0,0]++b),()))++b)).length≤4294967296):em.f (a++(am 2 (gb.f (a++([0,0]++b),()))++b),())=true:=by
 have hl2:(a++([0,0]++b)).length≤4294967296:=by simp[aF]at hl⊢;omega
 rw[HQ _ hl,vb n _ _ h,vb 1 _ _ (aF 2 _),sw _ hl2]
 have hf:=vP _ (A5 false (a++([0,0]++b))).1
 rw[Vh _ (by omega) (by omega)]
 have e:ws false (a++([0,0]++b))=ws false a+ws false b:=by
  rw[vb n _ _ h,vb 1 _ _ rfl];simp[ws]
 rw[e]at hf⊢
 rw[show ws false a+(65535-nt (ws false a+ws false b)+ws false b)=(ws false a+ws false b)+(65535-nt (ws false a+ws false b)) by omega,hf.1]
 rfl
set_option maxHeartbeats 1000000 in theorem QO (p:Pack)(h:fT.f (p,())=true):cG (eI.f (p,()))=(p,0):=by
 obtain⟨hs,hd,t1,t2,hp,hi,hb⟩:=le p h
 rw[C7 p h]
 have hT:=LZ p.ttl (by omega) t2
 have hP:=LZ p.proto (w8 hp).1 (w8 hp).2
 generalize hc:am 2 (gb.f ((([69,0]++am 2 (20+(p.body.length:Int))++am 2 p.id++[0,0]++am 1 p.ttl++am 1 p.proto)++[0,0])++(am 4 p.src++am 4 p.dst),()))=c
 have hcl:c.length=2:=by rw[←hc];exact aF 2 _
 generalize hx:([69,0]++am 2 (20+(p.body.length:Int))++am 2 p.id++[0,0]++am 1 p.ttl++am 1 p.proto)++c++(am 4 p.src++am 4 p.dst)++p.body=T
 have hlen:T.length=20+p.body.length:=by rw[←hx];simp[aF,hcl];omega
 have q0:af T 0=69:=by rw[←hx];rfl
 have q2:gw T 2 2=20+(p.body.length:Int):=by
  rw[←hx,show([69,0]++am 2 (20+(p.body.length:Int))++am 2 p.id++[0,0]++am 1 p.ttl++am 1 p.proto)++c++(am 4 p.src++am 4 p.dst)++p.body=[69,0]++(am 2 (20+(p.body.length:Int))++(am 2 p.id++[0,0]++am 1 p.ttl++am 1 p.proto++c++(am 4 p.src++am 4 p.dst)++p.body)) by simp,np _ _ _ 2 2 rfl (aF 2 _),dm 2 _ (by omega) (by omega)]
 have q4:gw T 4 2=p.id:=by
  rw[←hx,show([69,0]++am 2 (20+(p.body.length:Int))++am 2 p.id++[0,0]++am 1 p.ttl++am 1 p.proto)++c++(am 4 p.src++am 4 p.dst)++p.body=([69,0]++am 2 (20+(p.body.length:Int)))++(am 2 p.id++([0,0]++am 1 p.ttl++am 1 p.proto++c++(am 4 p.src++am 4 p.dst)++p.body)) by simp,np _ _ _ 4 2 (by simp[aF]) (aF 2 _),dm 2 _ (WA hi).1 (WA hi).2]
 have q6:gw T 6 2=0:=by
  rw[←hx,show([69,0]++am 2 (20+(p.body.length:Int))++am 2 p.id++[0,0]++am 1 p.ttl++am 1 p.proto)++c++(am 4 p.src++am 4 p.dst)++p.body=([69,0]++am 2 (20+(p.body.length:Int))++am 2 p.id)++([0,0]++(am 1 p.ttl++am 1 p.proto++c++(am 4 p.src++am 4 p.dst)++p.body)) by simp,np _ _ _ 6 2 (by simp[aF]) rfl]
  rfl
 have q8:af T 8=p.ttl:=by
  rw[←hx,hT.1,show([69,0]++am 2 (20+(p.body.length:Int))++am 2 p.id++[0,0]++[UInt8.ofNat p.ttl.toNat]++am 1 p.proto)++c++(am 4 p.src++am 4 p.dst)++p.body=([69,0]++am 2 (20+(p.body.length:Int))++am 2 p.id++[0,0])++(UInt8.ofNat p.ttl.toNat::(am 1 p.proto++c++(am 4 p.src++am 4 p.dst)++p.body)) by simp,pM _ _ _ 8 (by simp[aF]),hT.2]
 have q9:af T 9=p.proto:=by
  rw[←hx,hP.1,show([69,0]++am 2 (20+(p.body.length:Int))++am 2 p.id++[0,0]++am 1 p.ttl++[UInt8.ofNat p.proto.toNat])++c++(am 4 p.src++am 4 p.dst)++p.body=([69,0]++am 2 (20+(p.body.length:Int))++am 2 p.id++[0,0]++am 1 p.ttl)++(UInt8.ofNat p.proto.toNat::(c++(am 4 p.src++am 4 p.dst)++p.body)) by simp,pM _ _ _ 9 (by simp[aF]),hP.2]
 have q12:gw T 12 4=p.src:=by
  rw[←hx,show([69,0]++am 2 (20+(p.body.length:Int))++am 2 p.id++[0,0]++am 1 p.ttl++am 1 p.proto)++c++(am 4 p.src++am 4 p.dst)++p.body=([69,0]++am 2 (20+(p.body.length:Int))++am 2 p.id++[0,0]++am 1 p.ttl++am 1 p.proto++c)++(am 4 p.src++(am 4 p.dst++p.body)) by simp,np _ _ _ 12 4 (by simp[aF,hcl]) (aF 4 _),dm 4 _ (WJ hs).1 (WJ hs).2]
 have q16:gw T 16 4=p.dst:=by
  rw[←hx,show([69,0]++am 2 (20+(p.body.length:Int))++am 2 p.id++[0,0]++am 1 p.ttl++am 1 p.proto)++c++(am 4 p.src++am 4 p.dst)++p.body=([69,0]++am 2 (20+(p.body.length:Int))++am 2 p.id++[0,0]++am 1 p.ttl++am 1 p.proto++c++am 4 p.src)++(am 4 p.dst++p.body) by simp,np _ _ _ 16 4 (by simp[aF,hcl]) (aF 4 _),dm 4 _ (WJ hd).1 (WJ hd).2]
 have q20:T.take 20=([69,0]++am 2 (20+(p.body.length:Int))++am 2 p.id++[0,0]++am 1 p.ttl++am 1 p.proto)++c++(am 4 p.src++am 4 p.dst):=by
  rw[←hx,List.take_left' (by simp[aF,hcl])]
 have qb:(T.take (20+(p.body.length:Int)).toNat).drop 20=p.body:=by
  rw[List.take_of_length_le (by omega),←hx,List.drop_left' (by simp[aF,hcl])]
 have qs:em.f (T.take 20,())=true:=by
  rw[q20,←hc]
  have:=Rh ([69,0]++am 2 (20+(p.body.length:Int))++am 2 p.id++[0,0]++am 1 p.ttl++am 1 p.proto) (am 4 p.src++am 4 p.dst) 5 (by simp[aF]) (by simp[aF])
  simp only[List.append_assoc]at this⊢
  exact this
 simp only[cG,hlen,q0,q2,q4,q6,q8,q9,q12,q16,qb,qs]
 rw[decide_eq_false (by omega),decide_eq_false (by omega),decide_eq_false (by omega),decide_eq_false (by omega),show(p.ttl==0)=false by simp;omega]
 rfl
theorem X1:∀(m:Nat) (a:ac),(4-a.length%4)%4<m→bG (λa=>(dD a).nice) m a=a++List.replicate ((4-a.length%4)%4) 1
 |0,_,h=>absurd h (Nat.not_lt_zero _)
 |m+1,a,h=>by
  simp only[bG]
  by_cases c:a.length%4=0
  ·have e:(((a.length:Int).tmod 4) != 0)=false:=by
    rw[Int.tmod_eq_emod_of_nonneg (by omega)];simp;omega
   simp only[PX,dD,e,cond_false,Stp.elim]
   rw[show(4-a.length%4)%4=0 by omega];simp
  ·have e:(((a.length:Int).tmod 4) != 0)=true:=by
    rw[Int.tmod_eq_emod_of_nonneg (by omega)];simp;omega
   have ih:=X1 m (a++[1]) (by simp;omega)
   simp only[PX,dD]at ih
   simp only[PX,dD,e,cond_true,Stp.elim]
   rw[ih,List.append_assoc]
   congr 1
   rw[show(4-a.length%4)%4=(4-(a++[1]).length%4)%4+1 by simp;omega,List.replicate_succ]
   rfl
def OM (o:Opti):ac:=bif o.mss != 0 then[2,4]++am 2 o.mss else[]
def OO (o:Opti):ac:=bif o.scale != -1 then[3,3]++am 1 o.scale else[]
def ON (o:Opti):ac:=bif o.sack then[4,2]else[]
def OS (o:Opti):ac:=bif o.stamp then[8,10]++(am 4 o.val++am 4 o.echo)else[]
def OW (o:Opti):ac:=OM o++(OO o++(ON o++OS o))
theorem j1 (o:Opti)(h:ay.f (o,())=true):(0≤o.mss∧o.mss≤65535)∧(-1≤o.scale∧o.scale≤14)∧(0≤o.val∧o.val≤4294967295)∧(0≤o.echo∧o.echo≤4294967295)∧(o.stamp=false→o.val=0∧o.echo=0):=by
 simp only[PX,ay,ax,bz,bb]at h
 revert h
 cases o.stamp<;>cases hv:(o.val != 0)<;>cases he:(o.echo != 0)<;>simp at hv he⊢<;>omega
theorem qH (o:Opti)(h:ay.f (o,())=true):aI.f (o,())=OW o++List.replicate ((4-(OW o).length%4)%4) 1:=by
 obtain⟨h1,h2,h3,h4,h5⟩:=j1 o h
 have p1:=aG o.mss 2 (by omega) (by omega) (by rw[show(8:Int)*2=16 from rfl,bz];simp;omega)
 have p2:av.f (o.scale,1,())=bif o.scale != -1 then am 1 o.scale else[]:=by
  cases hh:(o.scale != -1)with
  |true=>exact aG o.scale 1 (by omega) (by omega) (by rw[show(8:Int)*1=8 from rfl,kd];simp at hh⊢;omega)
  |false=>exact Bf o.scale 1 (by omega) (by omega) (by rw[show(8:Int)*1=8 from rfl,kd];simp at hh⊢;omega)
 have p3:=aG o.val 4 (by omega) (by omega) (by rw[show(8:Int)*4=32 from rfl,bb];simp;omega)
 have p4:=aG o.echo 4 (by omega) (by omega) (by rw[show(8:Int)*4=32 from rfl,bb];simp;omega)
 simp only[PX,aI,h,p1,p2,p3,p4,Bool.not_true,cond_false,fk,OW,OM,OO,ON,OS]
 cases h1:(o.mss != 0)<;>cases h2:(o.scale != -1)<;>cases h3:o.sack<;>cases h4:o.stamp<;>simp only[h2,h3,h4,p2,p3,p4,cond_true,cond_false,List.nil_append,List.append_nil]<;>refine(X1 _ _ (Nat.lt_succ_self _)).trans ?_ <;>first|rfl|(simp only[List.append_assoc];rfl)
theorem T7 (v:ac)(p:Nat)(o:Opti)(h:v.length≤p):qp v ((p:Int),o)=(o,true):=by
 rw[A7 v _ (by simp)]
 simp only[cF,decide_eq_false (show¬(p:Int)<(v.length:Int) by omega),Bool.not_false,cond_true,Stp.elim]
theorem TK (v:ac)(p:Nat)(o:Opti)(h:p<v.length)(h1:af v p=1):qp v ((p:Int),o)=qp v (((p+1:Nat):Int),o):=by
 rw[A7 v _ (by simp)]
 simp only[cF,ai,h1,decide_eq_true (show(p:Int)<(v.length:Int) by omega),Bool.not_true,cond_false,show((1:Int)==0)=false from rfl,beq_self_eq_true,cond_true,Stp.elim]
 rfl
theorem Tx (k:Nat):∀(a:ac) (o:Opti),qp (a++List.replicate k 1) ((a.length:Int),o)=(o,true):=by
 induction k with
 |zero=>intro a o;exact T7 _ _ _ (by simp)
 |succ k ih=>
  intro a o
  have e:a++List.replicate (k+1) 1=(a++[1])++List.replicate k 1:=by rw[List.replicate_succ];simp
  have hb:af (a++List.replicate (k+1) 1) a.length=1:=by
   rw[List.replicate_succ,pM _ _ _ _ rfl];rfl
  rw[TK _ _ _ (by simp) hb,e]
  have:=ih (a++[1]) o
  rwa [List.length_append]at this
theorem yI (v:ac)(p n:Nat)(o:Opti)(hk:2≤af v p)(hn:af v (p+1)=(n:Int))(h2:2≤n)(hl:p+n≤v.length):qp v ((p:Int),o)=qp v (((p+n:Nat):Int),Gl v p o):=by
 rw[A7 v _ (by simp)]
 simp only[cF,ai,hn,decide_eq_true (show(p:Int)<(v.length:Int) by omega),Bool.not_true,cond_false,show(af v p==0)=false by simp;omega,show(af v p==1)=false by simp;omega,decide_eq_false (show¬(v.length:Int)≤(p:Int)+1 by omega),decide_eq_false (show¬(n:Int)<2 by omega),decide_eq_false (show¬(v.length:Int)-(p:Int)<(n:Int) by omega),Bool.or_self,Stp.elim]
 rfl
theorem Jr (a c:ac)(x y:UInt8)(p:Nat)(hp:a.length=p):af (a++(x::y::c)) p=(x.toNat:Int)∧af (a++(x::y::c)) (p+1)=(y.toNat:Int):=by
 refine⟨pM _ _ _ _ hp, ?_⟩
 rw[show a++(x::y::c)=(a++[x])++(y::c) by simp,pM _ _ _ (p+1) (by simp[hp])]
theorem XF (a r:ac)(o q:Opti)(h:ay.f (o,())=true)(hq:q.mss=0):qp (a++(OM o++r)) ((a.length:Int),q)=qp (a++(OM o++r)) (((a++OM o).length:Int),{q with mss:=o.mss}):=by
 obtain⟨h1,h2,h3,h4,h5⟩:=j1 o h
 unfold OM
 cases hc:(o.mss != 0)with
 |false=>
  simp at hc
  rw[hc,←hq];simp
 |true=>
  rw[cond_true]
  have hv:a++(([2,4]++am 2 o.mss)++r)=a++((2:UInt8)::4::(am 2 o.mss++r)):=by simp
  obtain⟨b0,b1⟩:=Jr a (am 2 o.mss++r) 2 4 a.length rfl
  have hg:gw (a++((2:UInt8)::4::(am 2 o.mss++r))) (a.length+2) 2=o.mss:=by
   rw[show a++((2:UInt8)::4::(am 2 o.mss++r))=(a++[2,4])++(am 2 o.mss++r) by simp,np _ _ _ _ 2 (by simp) (aF 2 _),dm 2 _ h1.1 (by omega)]
  rw[hv,yI _ a.length 4 q (by rw[b0];decide) (by rw[b1];rfl) (by omega) (by simp[aF]),List.length_append,List.length_append,aF]
  congr 2
  simp only[Gl,b0,b1,hg]
  rfl
theorem W7 (a r:ac)(o q:Opti)(h:ay.f (o,())=true)(hq:q.scale= -1):qp (a++(OO o++r)) ((a.length:Int),q)=qp (a++(OO o++r)) (((a++OO o).length:Int),{q with scale:=o.scale}):=by
 obtain⟨h1,h2,h3,h4,h5⟩:=j1 o h
 unfold OO
 cases hc:(o.scale != -1)with
 |false=>
  simp at hc
  rw[hc,←hq];simp
 |true=>
  rw[cond_true]
  simp at hc
  obtain⟨e1,e2⟩:=LZ o.scale (by omega) (by omega)
  have hv:a++(([3,3]++am 1 o.scale)++r)=a++((3:UInt8)::3::(am 1 o.scale++r)):=by simp
  obtain⟨b0,b1⟩:=Jr a (am 1 o.scale++r) 3 3 a.length rfl
  have hg:af (a++((3:UInt8)::3::(am 1 o.scale++r))) (a.length+2)=o.scale:=by
   rw[e1,show a++((3:UInt8)::3::([UInt8.ofNat o.scale.toNat]++r))=(a++[3,3])++(UInt8.ofNat o.scale.toNat::r) by simp,pM _ _ _ _ (by simp),e2]
  rw[hv,yI _ a.length 3 q (by rw[b0];decide) (by rw[b1];rfl) (by omega) (by simp[aF]),List.length_append,List.length_append,aF]
  congr 2
  simp only[Gl,b0,b1,hg]
  rw[if_neg (by omega)]
  rfl
theorem Xo (a r:ac)(o q:Opti)(hq:q.sack=false):qp (a++(ON o++r)) ((a.length:Int),q)=qp (a++(ON o++r)) (((a++ON o).length:Int),{q with sack:=o.sack}):=by
 unfold ON
 cases hc:o.sack with
 |false=>
  obtain⟨q1,q2,q3,q4,q5,q6⟩:=q
  simp only[]at hq
  subst hq
  simp
 |true=>
  rw[cond_true]
  have hv:a++([4,2]++r)=a++((4:UInt8)::2::r):=by simp
  obtain⟨b0,b1⟩:=Jr a r 4 2 a.length rfl
  rw[hv,yI _ a.length 2 q (by rw[b0];decide) (by rw[b1];rfl) (by omega) (by simp),List.length_append]
  congr 2
  simp only[Gl,b0,b1]
  rfl
theorem XL (a r:ac)(o q:Opti)(h:ay.f (o,())=true)(hq:q.stamp=false∧q.val=0∧q.echo=0):qp (a++(OS o++r)) ((a.length:Int),q)=qp (a++(OS o++r)) (((a++OS o).length:Int),{q with stamp:=o.stamp,val:=o.val,echo:=o.echo}):=by
 obtain⟨h1,h2,h3,h4,h5⟩:=j1 o h
 unfold OS
 cases hc:o.stamp with
 |false=>
  obtain⟨e1,e2⟩:=h5 hc
  rw[e1,e2]
  obtain⟨q1,q2,q3,q4,q5,q6⟩:=q
  obtain⟨k1,k2,k3⟩:=hq
  simp only[]at k1 k2 k3
  subst k1 k2 k3
  simp
 |true=>
  rw[cond_true]
  have hv:a++(([8,10]++(am 4 o.val++am 4 o.echo))++r)=a++((8:UInt8)::10::(am 4 o.val++(am 4 o.echo++r))):=by simp
  obtain⟨b0,b1⟩:=Jr a (am 4 o.val++(am 4 o.echo++r)) 8 10 a.length rfl
  have hg:gw (a++((8:UInt8)::10::(am 4 o.val++(am 4 o.echo++r)))) (a.length+2) 4=o.val:=by
   rw[show a++((8:UInt8)::10::(am 4 o.val++(am 4 o.echo++r)))=(a++[8,10])++(am 4 o.val++(am 4 o.echo++r)) by simp,np _ _ _ _ 4 (by simp) (aF 4 _),dm 4 _ h3.1 (by omega)]
  have hg2:gw (a++((8:UInt8)::10::(am 4 o.val++(am 4 o.echo++r)))) (a.length+6) 4=o.echo:=by
   rw[show a++((8:UInt8)::10::(am 4 o.val++(am 4 o.echo++r)))=(a++[8,10]++am 4 o.val)++(am 4 o.echo++r) by simp,np _ _ _ _ 4 (by simp[aF]) (aF 4 _),dm 4 _ h4.1 (by omega)]
  rw[hv,yI _ a.length 10 q (by rw[b0];decide) (by rw[b1];rfl) (by omega) (by simp[aF];omega),List.length_append,List.length_append,List.length_append,aF,aF]
  congr 2
  simp only[Gl,b0,b1,hg,hg2]
  rfl
theorem Ax (o:Opti)(h:ay.f (o,())=true):io.f (aI.f (o,()),())=(o,true):=by
 have hl:=RF o
 rw[qO _ (by omega),qH o h]
 generalize(4-(OW o).length%4)%4=k
 unfold OW
 have e0:(OM o++(OO o++(ON o++OS o)))++List.replicate k 1=[]++(OM o++(OO o++(ON o++(OS o++List.replicate k 1)))):=by simp
 have e1:[]++(OM o++(OO o++(ON o++(OS o++List.replicate k 1))))=OM o++(OO o++(ON o++(OS o++List.replicate k 1))):=by simp
 have e2:OM o++(OO o++(ON o++(OS o++List.replicate k 1)))=(OM o++OO o)++(ON o++(OS o++List.replicate k 1)):=by simp
 have e3:(OM o++OO o)++(ON o++(OS o++List.replicate k 1))=(OM o++OO o++ON o)++(OS o++List.replicate k 1):=by simp
 have e4:(OM o++OO o++ON o)++(OS o++List.replicate k 1)=(OM o++OO o++ON o++OS o)++List.replicate k 1:=by simp
 rw[e0,show((0:Int),pB)=((([]:ac).length:Int),pB) from rfl,XF [] _ o pB h rfl,e1,List.nil_append,W7 _ _ o _ h rfl,e2,Xo _ _ o _ rfl,e3,XL _ _ o _ h ⟨rfl,rfl,rfl⟩,e4,Tx]
theorem X0 (a b n:Int)(ha:aa.f (a,32,())=true)(hb:aa.f (b,32,())=true)(hn:aa.f (n,16,())=true):bu.f (a,b,n,())=am 4 a++am 4 b++[0,6]++am 2 n:=by
 have l1:=aG a 4 (by omega) (by omega) ha
 have l2:=aG b 4 (by omega) (by omega) hb
 have l3:=aG n 2 (by omega) (by omega) hn
 simp only[PX,bu,ha,hb,hn,l1,l2,l3,Bool.not_true,cond_false]
 rfl
theorem VU (n:Int):aa.f (n,6,())=(decide (0≤n)&&decide (n≤63)):=El n
theorem uG (g:Segm)(h:aj.f (g,())=true):aa.f (g.from_,16,())=true∧aa.f (g.to,16,())=true∧aa.f (g.window,16,())=true∧aa.f (g.seq,32,())=true∧aa.f (g.ack,32,())=true∧(0≤g.flags∧g.flags≤63)∧ay.f (g.opts,())=true∧g.body.length≤1420:=by
 have hb:=fg g h
 have h1:=(bB g).1 h
 revert h
 simp only[PX,aj,VU]
 cases aa.f (g.from_,16,())<;>cases aa.f (g.to,16,())<;>cases aa.f (g.window,16,())<;>cases aa.f (g.seq,32,())<;>cases aa.f (g.ack,32,())<;>cases ay.f (g.opts,())<;>simp<;>omega
def lE (g:Segm)(n:Int):ac:=am 2 g.from_++am 2 g.to++am 4 g.seq++am 4 g.ack++am 1 n++am 1 g.flags++am 2 g.window
theorem pu (g:Segm)(n:Int):(lE g n).length=16:=by simp[lE,aF]
theorem Yu (o:Opti)(h:ay.f (o,())=true):∃k:Nat,(aI.f (o,())).length=4*k∧k≤5:=by
 have hl:=RF o
 rw[qH o h]at hl⊢
 refine⟨((OW o).length+(4-(OW o).length%4)%4)/4, ?_, ?_⟩
 ·rw[List.length_append,List.length_replicate];omega
 ·rw[List.length_append,List.length_replicate]at hl;omega
theorem A0 (g:Segm)(a b:Int)(h:aj.f (g,())=true)(ha:aa.f (a,32,())=true)(hb:aa.f (b,32,())=true)(k:Nat)(hk:(aI.f (g.opts,())).length=4*k)(hk5:k≤5):
  aC.f (g,a,b,())=lE g (((5+k)*16:Nat):Int)++am 2 (gb.f ((bu.f (a,b,((20+4*k+g.body.length:Nat):Int),())++lE g (((5+k)*16:Nat):Int))++([0,0]++([0,0]++aI.f (g.opts,())++g.body)),()))++([0,0]++aI.f (g.opts,())++g.body):=by
 obtain⟨h1,h2,h3,h4,h5,h6,h7,h8⟩:=uG g h
 have w1:IntKind.wrap .i64 (20+((aI.f (g.opts,())).length:Int))=20+4*(k:Int):=by rw[hk,au (by omega) (by omega)];omega
 have w2:IntKind.wrap .i64 (20+4*(k:Int)+(g.body.length:Int))=((20+4*k+g.body.length:Nat):Int):=by rw[au (by omega) (by omega)];omega
 have w3:IntKind.wrap .i64 ((20+4*(k:Int)).tdiv 4)=5+(k:Int):=by rw[(pt 4).1 (by omega),au (by omega) (by omega)];omega
 have w4:IntKind.wrap .i64 ((5+(k:Int))*16)=(((5+k)*16:Nat):Int):=by rw[au (by omega) (by omega)];omega
 have l1:=aG g.from_ 2 (by omega) (by omega) h1
 have l2:=aG g.to 2 (by omega) (by omega) h2
 have l3:=aG g.seq 4 (by omega) (by omega) h4
 have l4:=aG g.ack 4 (by omega) (by omega) h5
 have l5:=aG (((5+k)*16:Nat):Int) 1 (by omega) (by omega) (by rw[show(8:Int)*1=8 from rfl,kd];simp;omega)
 have l6:=aG g.flags 1 (by omega) (by omega) (by rw[show(8:Int)*1=8 from rfl,kd];simp;omega)
 have l7:=aG g.window 2 (by omega) (by omega) h3
 have hn:aa.f (((20+4*k+g.body.length:Nat):Int),16,())=true:=by rw[bz];simp;omega
 have hp:=qn a b ((20+4*k+g.body.length:Nat):Int) ha hb hn
 have hpl:=Uf a b ((20+4*k+g.body.length:Nat):Int)
 simp only[PX,aC,h,w1,w2,w3,w4,l1,l2,l3,l4,l5,l6,l7,hp,Bool.not_true,cond_false]
 rw[show Int.toNat 2=2 from rfl,show Int.toNat 1=1 from rfl,show Int.toNat 4=4 from rfl]
 have hl:((bu.f (a,b,((20+4*k+g.body.length:Nat):Int),())++lE g (((5+k)*16:Nat):Int))++([0,0]++([0,0]++aI.f (g.opts,())++g.body))).length≤4294967296:=by
  simp only[List.length_append,pu,hk,List.length_cons,List.length_nil];omega
 have e:((bu.f (a,b,((20+4*k+g.body.length:Nat):Int),())++(am 2 g.from_++am 2 g.to++am 4 g.seq++am 4 g.ack++am 1 (((5+k)*16:Nat):Int)++am 1 g.flags++am 2 g.window))++[0,0])++(([0,0]++aI.f (g.opts,()))++g.body)=(bu.f (a,b,((20+4*k+g.body.length:Nat):Int),())++lE g (((5+k)*16:Nat):Int))++([0,0]++([0,0]++aI.f (g.opts,())++g.body)):=by simp only[lE,List.append_assoc]
 rw[e]
 generalize(bu.f (a,b,((20+4*k+g.body.length:Nat):Int),())++lE g (((5+k)*16:Nat):Int))++([0,0]++([0,0]++aI.f (g.opts,())++g.body))=W at hl⊢
 have hc:=sw W hl
 have hf:=vP _ (A5 false W).1
 rw[aG _ 2 (by omega) (by omega) (by rw[show(8:Int)*2=16 from rfl,bz,hc];simp;omega)]
 rfl
set_option maxHeartbeats 1000000 in theorem Ac (g:Segm)(a b:Int)(h:aj.f (g,())=true)(ha:aa.f (a,32,())=true)(hb:aa.f (b,32,())=true):aH.f (aC.f (g,a,b,()),a,b,())=(g,true):=by
 obtain⟨k,hk,hk5⟩:=Yu g.opts ((uG g h).2.2.2.2.2.2.1)
 rw[A0 g a b h ha hb k hk hk5]
 obtain⟨h1,h2,h3,h4,h5,h6,h7,h8⟩:=uG g h
 have hn:aa.f (((20+4*k+g.body.length:Nat):Int),16,())=true:=by rw[bz];simp;omega
 have hp:=qn a b ((20+4*k+g.body.length:Nat):Int) ha hb hn
 have hro:=Ax g.opts h7
 have hP:=X0 a b _ ha hb hn
 generalize aI.f (g.opts,())=O at hk hro⊢
 generalize hH:bu.f (a,b,((20+4*k+g.body.length:Nat):Int),())=H at hp hP⊢
 have hHl:H.length=12:=by rw[hP];simp[aF]
 have hs:=Rh (H++lE g (((5+k)*16:Nat):Int)) ([0,0]++O++g.body) 14 (by rw[List.length_append,hHl,pu]) (by simp only[List.length_append,pu,hk,hHl,aF,List.length_cons,List.length_nil];omega)
 generalize hc:am 2 (gb.f ((H++lE g (((5+k)*16:Nat):Int))++([0,0]++([0,0]++O++g.body)),()))=c at hs⊢
 have hcl:c.length=2:=by rw[←hc];exact aF 2 _
 have hN:=LZ (((5+k)*16:Nat):Int) (by omega) (by omega)
 have hF:=LZ g.flags h6.1 (by omega)
 have hx0:∀T,T=lE g (((5+k)*16:Nat):Int)++c++([0,0]++O++g.body)→aH.f (T,a,b,())=(g,true):=by
  intro T hx
  have hlen:T.length=20+4*k+g.body.length:=by rw[hx];simp only[List.length_append,pu,hk,hcl,List.length_cons,List.length_nil];omega
  have hT:T=am 2 g.from_++(am 2 g.to++(am 4 g.seq++(am 4 g.ack++(am 1 (((5+k)*16:Nat):Int)++(am 1 g.flags++(am 2 g.window++(c++([0,0]++(O++g.body))))))))):=by rw[hx];simp only[lE,List.append_assoc]
  have q0:gw T 0 2=g.from_:=by
   rw[hT,←List.nil_append (am 2 g.from_++_),np _ _ _ 0 2 rfl (aF 2 _),dm 2 _ (WA h1).1 (WA h1).2]
  have q2:gw T 2 2=g.to:=by
   rw[hT,np _ _ _ 2 2 (aF 2 _) (aF 2 _),dm 2 _ (WA h2).1 (WA h2).2]
  have q4:gw T 4 4=g.seq:=by
   rw[hT,←List.append_assoc,np _ _ _ 4 4 (by simp[aF]) (aF 4 _),dm 4 _ (WJ h4).1 (WJ h4).2]
  have q8:gw T 8 4=g.ack:=by
   rw[hT,←List.append_assoc,←List.append_assoc,np _ _ _ 8 4 (by simp[aF]) (aF 4 _),dm 4 _ (WJ h5).1 (WJ h5).2]
  have q12:af T 12=(((5+k)*16:Nat):Int):=by
   rw[hT,hN.1,←List.append_assoc,←List.append_assoc,←List.append_assoc,List.cons_append,List.nil_append,pM _ _ _ 12 (by simp[aF]),hN.2]
  have q13:af T 13=g.flags:=by
   rw[hT,hF.1,←List.append_assoc,←List.append_assoc,←List.append_assoc,←List.append_assoc,List.cons_append,List.nil_append,pM _ _ _ 13 (by simp[aF]),hF.2]
  have q14:gw T 14 2=g.window:=by
   rw[hT,←List.append_assoc,←List.append_assoc,←List.append_assoc,←List.append_assoc,←List.append_assoc,np _ _ _ 14 2 (by simp[aF]) (aF 2 _),dm 2 _ (WA h3).1 (WA h3).2]
  have hfr:T=(lE g (((5+k)*16:Nat):Int)++c++[0,0])++(O++g.body):=by rw[hx];simp only[List.append_assoc]
  have hfl:(lE g (((5+k)*16:Nat):Int)++c++[0,0]).length=20:=by simp only[List.length_append,pu,hcl,List.length_cons,List.length_nil]
  have qo:(T.take (20+4*k)).drop 20=O:=by
   rw[hfr,←List.append_assoc,List.take_left' (by rw[List.length_append,hfl,hk]),List.drop_left' hfl]
  have qb:T.drop (20+4*k)=g.body:=by
   rw[hfr,←List.append_assoc,List.drop_left' (by rw[List.length_append,hfl,hk])]
  have pL:em.f (H++T,())=true:=by
   rw[hx]
   simp only[List.append_assoc]at hs⊢
   exact hs
  have hl2:T.length≤4294967296:=by omega
  have v1:=bF T 0 2 (by omega) (by omega) (by omega) hl2
  have v2:=bF T 2 2 (by omega) (by omega) (by omega) hl2
  have v3:=bF T 4 4 (by omega) (by omega) (by omega) hl2
  have v4:=bF T 8 4 (by omega) (by omega) (by omega) hl2
  have v5:=bF T 14 2 (by omega) (by omega) (by omega) hl2
  simp only[Int.ofNat_zero,Int.cast_ofNat_Int]at v1 v2 v3 v4 v5
  have w1:IntKind.wrap .i64 ((IntKind.wrap .i64 (((((5+k)*16:Nat):Int)).tdiv 16))*4)=((20+4*k:Nat):Int):=by
   rw[(pt 16).1 (by omega),au (m:=(((5+k)*16:Nat):Int)/16) (by omega) (by omega),au (by omega) (by omega)];omega
  have w13:bits .and .i64 g.flags 63=g.flags:=by
   rw[UF _ h6.1 (by omega),(eY 64).1 h6.1];omega
  have wN:IntKind.wrap .i64 (((5+k)*16:Nat):Int)=(((5+k)*16:Nat):Int):=au (by omega) (by omega)
  have wF:IntKind.wrap .i64 g.flags=g.flags:=au (by omega) (by omega)
  have hH2:bu.f (a,b,(T.length:Int),())=H:=by rw[hlen,hH]
  simp only[PX,aH,decide_eq_false (show¬(T.length:Int)<20 by omega),cond_false,v1,v2,v3,v4,v5,q0,q2,q4,q8,q12,q13,q14,wN,wF,w1,w13,hH2,hp,pL,ai,qo,qb,hro,List.take_length]
  rw[decide_eq_false (show¬((20+4*k:Nat):Int)<20 by omega),decide_eq_false (show¬(T.length:Int)<((20+4*k:Nat):Int) by omega)]
  have hg:(⟨g.from_,g.to,g.seq,g.ack,g.flags,g.window,g.opts,g.body⟩:Segm)=g:=rfl
  simp only[cond_false,Bool.not_true,hg,h]
 exact hx0 _ (by simp only[List.append_assoc])
theorem QJ (m:Mac)(t:Tupl)(seq e i:Int)(ht:aL.f (t,())=true)(hs:0≤seq∧seq≤4294967295)(he:0≤e∧e≤4294967295)(hi:0≤i∧i≤7):
  cZ.f (m,t,seq,e,i,())/134217728=e%32∧0≤cZ.f (m,t,seq,e,i,())∧cZ.f (m,t,seq,e,i,())≤4294967295∧cZ.f (m,t,seq,e,i,())/16777216%8=i:=by
 rw[Br m t seq e i ht hs he hi]
 have h:=A3 m (er.f (t,seq,e,i,()))
 omega
def nS (g:Segm):Prop:=br.f (g,18,())=false
theorem H4 (g:Segm)(h:(bits .and .i64 g.flags 18==18)=false):nS g:=by
 unfold nS;simp only[PX,br];exact h
theorem xT {A W:Type}[Inhabited W]{f:A→Stp A W}{Inv:A→Prop}{Q:W→Prop}(h1:∀a,Inv a→∀a',f a= .next a'→Inv a')(h2:∀a,Inv a→∀w,f a= .out w→Q w)(h3:Q default):∀(m:Nat) (a:A),Inv a→Q (bG f m a)
 |0,_,_=>h3
 |m+1,a,h=>by
  simp only[bG]
  cases hf:f a with
  |out w=>exact h2 a h w hf
  |next a'=>simp only[Stp.elim];exact xT h1 h2 h3 m a' (h1 a h a' hf)
theorem Up {xs:List Segm}{g:Segm}(h:∀y∈xs,nS y)(hg:nS g):∀y∈xs++[g],nS y:=by
 intro y hy
 rcases List.mem_append.1 hy with hy|hy
 ·exact h y hy
 ·rw[List.mem_singleton.1 hy];exact hg
theorem L4 (c:Conn):(cL.f (c,())).flags=16:=by simp only[PX,cL]
theorem Fq (c:Conn):(eH.f (c,())).flags=16:=by simp only[PX,eH]
theorem Sv (c:Conn)(w:Int):∀g∈(gt.f (c,w,())).2,nS g:=by
 simp only[PX,gt,eL,gA]
 cases(bif !cJ.f (c,())then(true,())else bif (c.state==8)then(true,())else((c.state==7),())).1 with
 |true=>intro g hg;cases hg
 |false=>
  simp only[cond_false]
  have key:=xT (f:=λa=>(bx w a).nice) (Inv:=λa=>∀g∈a.2.2,nS g) (Q:=λp=>∀g∈p.2.2,nS g) (λa hi a' he=>by
   revert he
   simp only[PX,bx,L4]
   generalize aR.f (a.2.1.s,w,cB.f (a.2.1,()),())=z
   cases z.2 with
   |false=>intro he;cases he
   |true=>cases(z.1.text==[])<;>cases z.1.fin<;>intro he<;>cases he<;>exact Up hi (H4 _ (by simp only[];decide+kernel))) (λa hi p he=>by
   revert he
   simp only[PX,bx]
   generalize aR.f (a.2.1.s,w,cB.f (a.2.1,()),())=z
   cases z.2 with
   |false=>intro he;cases he;exact hi
   |true=>cases(z.1.text==[])<;>cases z.1.fin<;>intro he<;>cases he) (λg hg=>by cases hg)
  have k2:=key (Be c.s+1) ((⟨⟨0,0,0⟩,0,⟨0,[],0,false,false,false⟩,⟨0,[],[],0,false⟩,0,0,⟨0,0,false,false,0,0⟩,0,0⟩:Conn),c,([]:List Segm)) (λg hg=>by cases hg)
  generalize bG (λa=>(bx w a).nice) (Be c.s+1) ((⟨⟨0,0,0⟩,0,⟨0,[],0,false,false,false⟩,⟨0,[],[],0,false⟩,0,0,⟨0,0,false,false,0,0⟩,0,0⟩:Conn),c,([]:List Segm))=z at k2
  cases(bif decide (0<(z.2.2.length:Int))then((z.2.1.timer==0),())else(false,())).1<;>exact k2
theorem oh (c:Conn)(w:Int):∀g∈(jA.f (c,w,())).2,nS g:=by
 simp only[PX,jA,eQ,iK]
 cases(bif !fj.f (c,())then(true,())else bif (c.state==8)then(true,())else((c.state==7),())).1 with
 |true=>intro g hg;cases hg
 |false=>
  simp only[cond_false]
  have key:=xT (f:=λa=>(iQ w a).nice) (Inv:=λa=>∀g∈a.2.2,nS g) (Q:=λp=>∀g∈p.2,nS g) (λa hi a' he=>by
   revert he
   simp only[PX,iQ,Fq]
   generalize iU.f (a.1.s,w,qy.f (a.1,()),())=z
   cases z.2 with
   |false=>intro he;cases he
   |true=>cases(z.1.text==[])<;>cases z.1.fin<;>cases(a.1.timer==0)<;>intro he<;>cases he<;>exact Up hi (H4 _ (by simp only[];decide+kernel))) (λa hi p he=>by
   revert he
   simp only[PX,iQ]
   generalize iU.f (a.1.s,w,qy.f (a.1,()),())=z
   cases z.2 with
   |false=>intro he;cases he;exact hi
   |true=>cases(z.1.text==[])<;>cases z.1.fin<;>cases(a.1.timer==0)<;>intro he<;>cases he) (λg hg=>by cases hg)
  exact key _ _ (λg hg=>by cases hg)
theorem vx (g:Segm):∀y∈hU.f (g,()),nS y:=by
 simp only[PX,hU,gM]
 cases br.f (g,4,())with
 |true=>intro y hy;cases hy
 |false=>
  cases br.f (g,16,())<;>(intro y hy;rw[List.mem_singleton.1 hy];exact H4 _ (by simp only[cond_true,cond_false];decide+kernel))
theorem fe:∀y∈([]:List Segm),nS y:=λy hy=>by cases hy
theorem uC {g:Segm}(h:nS g):∀y∈[g],nS y:=λy hy=>by rw[List.mem_singleton.1 hy];exact h
theorem Po (c:Conn):nS (cL.f (c,())):=H4 _ (by rw[L4];decide+kernel)
theorem KN (c:Conn)(g:Segm):∀y∈(fJ c g).2.1,nS y:=by
 unfold fJ
 split
 ·exact fe
 split
 ·exact uC (Po c)
 split
 ·exact uC (Po c)
 split
 ·split
  ·exact fe
  ·simp only[]
   split
   ·exact uC (Po _)
   ·exact Sv _ _
 ·exact fe
theorem Uu (d:Door)(c:Conn)(g:Segm)(m:Int):∀y∈(Hj d c g m).2.1,nS y:=by
 unfold Hj
 split
 ·exact KN _ _
 ·exact fe
theorem W5 (d:Door)(t:Tupl)(g:Segm):∀y∈(MU d t g).2.1,nS y:=by
 unfold MU
 split
 ·split
  ·split
   ·exact vx g
   split
   ·exact fe
   ·exact Uu _ _ _ _
  ·split
   ·exact Uu _ _ _ _
   ·exact vx g
 ·exact fe
theorem Vq (d:Door)(k:Nat)(g:Segm):∀y∈(BH d k g).2.1,nS y:=by
 unfold BH
 split
 ·split
  ·exact fe
  ·exact KN _ _
 ·exact KN _ _
def MJ (d:Door)(x:Issu):Prop:=(cb.f (d.keys,x.tuple,x.seq,x.cookie,())).2.2=true∨(0≤aP.f (d.halves,x.tuple,())∧(d.halves.getD (aP.f (d.halves,x.tuple,())).toNat (Ty.zero .half)).iss=x.cookie)
theorem Oa (d:Door)(t:Tupl)(g:Segm)(hk:eS.f (d.keys,())=true)(ht:aL.f (t,())=true)(hs:0≤g.seq∧g.seq≤4294967295):(cb.f (d.keys,t,g.seq,fL.f (d,t,g,()),())).2.2=true:=by
 have hx:=yW (nY.f (g.opts,()))
 obtain⟨-,h2,h3,h4⟩:=QJ d.keys.now t g.seq d.keys.epoch _ ht hs (nT _ hk) hx
 have e:fL.f (d,t,g,())=cZ.f (d.keys.now,t,g.seq,d.keys.epoch,fM.f (nY.f (g.opts,()),()),()):=by
  simp only[PX,fL]
  split<;>omega
 rw[e,CZ d.keys t g.seq _ _ hk ⟨h2,h3⟩ h4 rfl]
theorem VN (d:Door)(src:Int)(g:Segm):∀y∈(Hh d src g).2.1,br.f (y,18,())=true→MJ d ⟨⟨src,y.to,y.from_⟩,(y.ack+ -1)%4294967296,y.seq⟩:=by
 have no:∀l:List Segm,(∀y∈l,nS y)→∀y∈l,br.f (y,18,())=true→MJ d ⟨⟨src,y.to,y.from_⟩,(y.ack+ -1)%4294967296,y.seq⟩:=λl h y hy hh=>by
  have:=h y hy
  unfold nS at this
  rw[this]at hh;cases hh
 unfold Hh
 split
 case isFalse=>exact no _ fe
 case isTrue hok=>
 obtain⟨hd,hw,hg⟩:=hok
 split
 ·exact no _ (vx g)
 split
 ·exact no _ (Vq _ _ _)
 cases br.f (g,4,())with
 |true=>exact no _ fe
 |false=>
 cases(br.f (g,2,())&&(!br.f (g,16,())&& !br.f (g,1,())))with
 |false=>
  cases(br.f (g,16,())&& !br.f (g,2,()))with
  |true=>exact no _ (W5 _ _ _)
  |false=>
   cases br.f (g,16,())with
   |true=>exact no _ (vx g)
   |false=>exact no _ fe
 |true=>
  simp only[cond_true,cond_false]
  have ht:=Rs src g hw hg
  have hD:=(A1 d).1 hd
  have hsq:=((bB g).1 hg).2.2.1
  have hA:cA.f (d,pi src g,g,())=⟨g.to,g.from_,fL.f (d,pi src g,g,()),(g.seq+1)%4294967296,18,(cA.f (d,pi src g,g,())).window,(cA.f (d,pi src g,g,())).opts,[]⟩:=by
   simp only[PX,cA,cC,pi]
  have e1:((g.seq+1)%4294967296+ -1)%4294967296=g.seq:=by omega
  have one:∀y∈[cA.f (d,pi src g,g,())],br.f (y,18,())=true→MJ d ⟨⟨src,y.to,y.from_⟩,(y.ack+ -1)%4294967296,y.seq⟩:=by
   intro y hy _
   rw[List.mem_singleton.1 hy,hA]
   simp only[e1]
   exact .inl (Oa d (pi src g) g hD.keys ht hsq)
  rw[z8,hd,ht,hg]
  simp only[Bool.and_self,cond_true]
  cases hf:decide (0≤aP.f (d.halves,pi src g,()))with
  |true=>
   simp only[cond_true]
   cases((d.halves.getD (aP.f (d.halves,pi src g,())).toNat (Ty.zero .half)).irs != g.seq)with
   |true=>exact no _ fe
   |false=>
    simp only[cond_false]
    intro y hy _
    rw[List.mem_singleton.1 hy,hA]
    simp only[e1]
    exact .inr ⟨of_decide_eq_true hf,rfl⟩
  |false=>
   simp only[cond_false]
   cases decide (aO.f (d.table,pi src g,())<0)<;>exact one
def oT (raw:ac):List Issu:=bif (bS raw).2&&((cG (bS raw).1.body).2==0&&((aH.f ((cG (bS raw).1.body).1.body,(cG (bS raw).1.body).1.src,(cG (bS raw).1.body).1.dst,())).2&&br.f ((aH.f ((cG (bS raw).1.body).1.body,(cG (bS raw).1.body).1.src,(cG (bS raw).1.body).1.dst,())).1,18,())))then
 [⟨⟨(cG (bS raw).1.body).1.dst,(aH.f ((cG (bS raw).1.body).1.body,(cG (bS raw).1.body).1.src,(cG (bS raw).1.body).1.dst,())).1.to,(aH.f ((cG (bS raw).1.body).1.body,(cG (bS raw).1.body).1.src,(cG (bS raw).1.body).1.dst,())).1.from_⟩,((aH.f ((cG (bS raw).1.body).1.body,(cG (bS raw).1.body).1.src,(cG (bS raw).1.body).1.dst,())).1.ack+ -1)%4294967296,(aH.f ((cG (bS raw).1.body).1.body,(cG (bS raw).1.body).1.src,(cG (bS raw).1.body).1.dst,())).1.seq⟩]else[]
theorem MK (raw:ac)(hs:raw.length≤4294967296)(a:List Issu):(bif (bif (jH.f (raw,())).2.2 then(br.f ((jH.f (raw,())).2.1,18,()),())else(false,())).1 then(Stp.next (a++[(⟨⟨(jH.f (raw,())).1.dst,(jH.f (raw,())).2.1.to,(jH.f (raw,())).2.1.from_⟩,((jH.f (raw,())).2.1.ack+ -1)%4294967296,(jH.f (raw,())).2.1.seq⟩:Issu)]):Stp (List Issu) Empty)else .next a)= .next (a++oT raw):=by
 have hb:=qA raw
 unfold oT
 simp only[PX,jH,oL raw hs]
 generalize bS raw=F at hb
 rw[nf F.1.body (by omega)]
 generalize cG F.1.body=P
 cases F.2 with
 |false=>simp
 |true=>
  simp only[Bool.not_true,cond_false,Bool.true_and]
  cases hp:(P.2==0)with
  |false=>simp only[bne,hp];simp
  |true=>
   simp only[bne,hp,Bool.not_true,cond_false,Bool.true_and]
   cases(aH.f (P.1.body,P.1.src,P.1.dst,())).2 with
   |false=>simp
   |true=>cases br.f ((aH.f (P.1.body,P.1.src,P.1.dst,())).1,18,())<;>simp
theorem OG (raw:ac)(hs:raw.length≤4294967296)(a:List Issu):(bif (bif (ic.f (raw,())).2.2 then(br.f ((ic.f (raw,())).2.1,18,()),())else(false,())).1 then(Stp.next (a++[(⟨⟨(ic.f (raw,())).1.dst,(ic.f (raw,())).2.1.to,(ic.f (raw,())).2.1.from_⟩,((ic.f (raw,())).2.1.ack+ -1)%4294967296,(ic.f (raw,())).2.1.seq⟩:Issu)]):Stp (List Issu) Empty)else .next a)= .next (a++oT raw):=by
 have hb:=qA raw
 have hb2:=IV (bS raw).1.body
 unfold oT
 simp only[PX,ic,vc raw hs]
 generalize bS raw=F at hb hb2
 rw[tw F.1.body (by omega)]
 generalize cG F.1.body=P at hb2
 have hl:P.1.body.length≤4294967276:=by omega
 rw[wA _ _ _ hl]
 cases F.2 with
 |false=>simp
 |true=>
  simp only[cond_true,Bool.true_and]
  cases hp:(P.2==0)with
  |false=>simp
  |true=>
   simp only[cond_true,Bool.true_and]
   cases(aH.f (P.1.body,P.1.src,P.1.dst,())).2 with
   |false=>simp
   |true=>cases br.f ((aH.f (P.1.body,P.1.src,P.1.dst,())).1,18,())<;>simp
theorem G9 (s:Stac)(r:Resu)(h:∀y∈r.frames,y.length≤4294967296):si.f (s,r,())=r.frames.flatMap oT:=by
 simp only[PX,si,ib]
 rw[vC r.frames oT (λj x a hx=>by
  simp only[PX,tt,ai,getD_some hx,cC]
  exact MK x (h x (sQ hx)) a)]
 rfl
theorem HF (s:Stac)(r:Resu)(h:∀y∈r.frames,y.length≤4294967296):rY.f (s,r,())=r.frames.flatMap oT:=by
 simp only[PX,rY,gZ]
 rw[vC r.frames oT (λj x a hx=>by
  simp only[PX,tn,ai,getD_some hx,gY,cC,Ii]
  exact OG x (h x (sQ hx)) a)]
 rfl
theorem mc {A:Type}(b:Bool)(x y:A×List Segm)(hx:∀g∈x.2,nS g)(hy:∀g∈y.2,nS g):∀g∈(bif b then x else y).2,nS g:=by
 cases b
 ·exact hy
 ·exact hx
theorem JA {A B:Type}(b:Bool)(x y:A×B×List Segm)(hx:∀g∈x.2.2,nS g)(hy:∀g∈y.2.2,nS g):∀g∈(bif b then x else y).2.2,nS g:=by
 cases b
 ·exact hy
 ·exact hx
theorem zm (c:Conn):nS ({eH.f (c,())with flags:=bits .or .i64 (eH.f (c,())).flags 4}:Segm):=H4 _ (by simp only[Fq];decide+kernel)
theorem UH (c:Conn):nS (eH.f (c,())):=H4 _ (by rw[Fq];decide+kernel)
theorem Sd (c:Conn):∀g∈(kx.f (c,())).2,nS g:=by
 simp only[PX,kx,eQ]
 refine mc _ _ _ ?_ ?_
 ·cases fj.f (c,())<;>exact fe
 ·cases(c.timer==0)with
  |true=>
   cases(c.state==7)with
   |true=>exact mc _ _ _ fe (mc _ _ _ fe (mc _ _ _ (uC (zm _)) (oh _ _)))
   |false=>exact mc _ _ _ fe (mc _ _ _ fe (mc _ _ _ (uC (zm _)) (oh _ _)))
  |false=>exact mc _ _ _ fe (mc _ _ _ fe (mc _ _ _ (uC (zm _)) (oh _ _)))
theorem QK (c:Conn)(t:ac):∀g∈(zt.f (c,t,())).2.2,nS g:=by
 simp only[PX,zt,eQ]
 exact JA _ _ _ fe (oh _ _)
theorem Si (c:Conn)(n:Int):∀g∈(oo.f (c,n,())).2.2,nS g:=by
 simp only[PX,oo,eQ]
 exact JA _ _ _ fe (JA _ _ _ (uC (UH _)) fe)
theorem Sc (c:Conn):∀g∈(ET.f (c,())).2,nS g:=by
 simp only[PX,ET,eQ]
 exact mc _ _ _ fe (mc _ _ _ (oh _ _) (oh _ _))
theorem QT (c:Conn):∀g∈(Dx.f (c,())).2,nS g:=by
 simp only[PX,Dx,eQ]
 exact mc _ _ _ fe (uC (zm _))
theorem SS (k:Link)(ip:Int)(T:ac)(hT:T.length≤4294967296)(h:(bU.f (k,ip,T,())).2=true):aa.f (k.ip,32,())=true∧aa.f (ip,32,())=true∧∃body,bS (bU.f (k,ip,T,())).1=(⟨(Tp k.cache ip).1,k.mac,2048,body⟩,true)∧cG body=(⟨k.ip,ip,64,6,0,T⟩,0):=by
 obtain⟨hl,-⟩:=wL _ _ _ h
 obtain⟨_,_,hip,_⟩:=(Ee k).1 hl
 have hkip:aa.f (k.ip,32,())=true:=by rw[bb];simp;omega
 revert h
 simp only[PX,bU,rm,hl]
 generalize hB:eI.f (⟨k.ip,ip,64,6,0,T⟩,())=B
 cases hk:(Tp k.cache ip).2 with
 |false=>intro h;cases h
 |true=>
  cases hb:(B==[])with
  |true=>intro h;cases h
  |false=>
   simp only[Bool.not_true,cond_false]
   intro hf
   rcases Bool.eq_false_or_eq_true (fT.f (⟨k.ip,ip,64,6,0,T⟩,()))with hp|hp
   case inr=>
    have:B=[]:=by rw[←hB];simp only[PX,eI,hp,Bool.not_false,cond_true]
    rw[this]at hb;cases hb
   rcases Bool.eq_false_or_eq_true (dH.f (⟨(Tp k.cache ip).1,k.mac,2048,B⟩,()))with hq|hq
   case inr=>
    have:cm.f (⟨(Tp k.cache ip).1,k.mac,2048,B⟩,())=[]:=by simp only[PX,cm,hq,Bool.not_false,cond_true]
    rw[this]at hf;cases hf
   have r2:=QO _ hp
   rw[hB]at r2
   exact⟨hkip,(le _ hp).2.1,B,Ed _ hq,r2⟩
theorem Mo (k:Link)(ip:Int)(g:Segm)(h:(bU.f (k,ip,aC.f (g,k.ip,ip,()),())).2=true):oT (bU.f (k,ip,aC.f (g,k.ip,ip,()),())).1=bif aj.f (g,())&&br.f (g,18,())then[⟨⟨ip,g.to,g.from_⟩,(g.ack+ -1)%4294967296,g.seq⟩]else[]:=by
 have hTl:(aC.f (g,k.ip,ip,())).length≤4294967296:=by
  rcases Bool.eq_false_or_eq_true (aj.f (g,()))with hx|hx
  ·have:=(aC.c.h (g,k.ip,ip,()) (show ar g from(by unfold ar;have:=fg g hx;omega))).2
   simp only[PX]at this
   omega
  ·have:aC.f (g,k.ip,ip,())=[]:=by simp only[PX,aC,hx,Bool.not_false,cond_true]
   rw[this];simp
 obtain⟨w1,w2,body,r1,r2⟩:=SS k ip _ hTl h
 unfold oT
 rw[r1]
 simp only[r2]
 rcases Bool.eq_false_or_eq_true (aj.f (g,()))with hx|hx
 ·rw[Ac g k.ip ip hx w1 w2,hx]
  rfl
 ·have e:aC.f (g,k.ip,ip,())=[]:=by simp only[PX,aC,hx,Bool.not_false,cond_true]
  have e2:(aH.f ([],k.ip,ip,())).2=false:=by simp only[PX,aH];rfl
  rw[e,e2,hx]
  rfl
theorem Me (s:Stac)(ip:Int)(xs:List Segm)(e:ac)(he:e∈gc.f (s,ip,xs,())):∃g∈xs,(bU.f (s.link,ip,aC.f (g,s.link.ip,ip,()),())).2=true∧e=(bU.f (s.link,ip,aC.f (g,s.link.ip,ip,()),())).1:=by
 have key:gc.f (s,ip,xs,())=xs.flatMap (λg=>bif (bU.f (s.link,ip,aC.f (g,s.link.ip,ip,()),())).2 then[(bU.f (s.link,ip,aC.f (g,s.link.ip,ip,()),())).1]else[]):=by
  simp only[PX,gc,gf]
  rw[vC xs (λg=>bif (bU.f (s.link,ip,aC.f (g,s.link.ip,ip,()),())).2 then[(bU.f (s.link,ip,aC.f (g,s.link.ip,ip,()),())).1]else[]) (λj x a h=>by
   simp only[PX,pb,ai,getD_some h,wY,IT]
   cases(bU.f (s.link,ip,aC.f (x,s.link.ip,ip,()),())).2<;>simp)]
  rfl
 rw[key]at he
 obtain⟨g,hg,h2⟩:=List.mem_flatMap.1 he
 cases hb:(bU.f (s.link,ip,aC.f (g,s.link.ip,ip,()),())).2 with
 |false=>rw[hb]at h2;cases h2
 |true=>rw[hb]at h2;exact⟨g,hg,hb,List.mem_singleton.1 h2⟩
theorem IH (s:Stac)(ip:Int)(xs:List Segm)(h:∀g∈xs,nS g)(e:ac)(he:e∈gc.f (s,ip,xs,())):oT e=[]:=by
 obtain⟨g,hg,h2,rfl⟩:=Me s ip xs e he
 have:=h g hg
 unfold nS at this
 rw[Mo s.link ip g h2,this,Bool.and_false]
 rfl
theorem Sa (s:Stac)(e:ac)(he:e∈(pT.f (s,())).2):oT e=[]:=by
 revert he
 simp only[PX,pT,vK,gg]
 cases jq.f (s,())with
 |false=>intro he;cases he
 |true=>
  simp only[Bool.not_true,cond_false]
  obtain⟨z,e1⟩:=P0 s.door.table.conns (λc=>gc.f (s,c.tuple.ip,(kx.f (c,())).2,())) (f:=λj a=>(lP s j a).nice) (λj x a hx=>by
   simp only[PX,lP,ai,getD_some hx]
   exact⟨_,rfl⟩) (⟨⟨0,0,[]⟩,⟨0,0,⟨0,⟨false,0,0,[]⟩,⟨false,0,0,[]⟩,false⟩,⟨0,0,0,0⟩,[],⟨[],[]⟩,0⟩⟩:Stac)
  simp only[e1,Stp.elim]
  intro he
  obtain⟨c,_,h2⟩:=List.mem_flatMap.1 he
  exact IH _ _ _ (Sd c) e h2
theorem vM (s:Stac)(c:Conn)(xs:List Segm)(r:Resu)(h:∀g∈xs,nS g)(e:ac)(he:e∈(lU.f (s,c,xs,r,())).2.frames):oT e=[]:=by
 simp only[PX,lU]at he
 exact IH _ _ _ h e he
theorem SQ (s:Stac)(a:Acti)(e:ac)(he:e∈(vu.f (s,a,())).2.frames):oT e=[]:=by
 revert he
 simp only[PX,vu]
 cases(bif decide (cO.f (s.door.table,a.tuple,())<0)then(true,())else(kw.f (s.door.table.waiting,a.tuple,()),())).1 with
 |true=>intro he;cases he
 |false=>
  cases(a.kind==5)with
  |true=>exact vM _ _ _ _ (QK _ _) e
  |false=>
   cases(a.kind==6)with
   |true=>exact vM _ _ _ _ (Si _ _) e
   |false=>
    cases(a.kind==7)with
    |true=>exact vM _ _ _ _ (Sc _) e
    |false=>exact vM _ _ _ _ (QT _) e
theorem UW (dst src ty:Int)(a:Arpm):oT (cm.f (⟨dst,src,ty,dE.f (a,())⟩,()))=[]:=by
 unfold oT
 rcases Bool.eq_false_or_eq_true (dH.f (⟨dst,src,ty,dE.f (a,())⟩,()))with h|h
 case inr=>
  have e:cm.f (⟨dst,src,ty,dE.f (a,())⟩,())=[]:=by simp only[PX,cm,h,Bool.not_false,cond_true]
  rw[e];rfl
 rw[Ed _ h]
 have hp:((cG (dE.f (a,()))).2==0)=false:=by
  rcases Bool.eq_false_or_eq_true (j2.f (a,()))with h2|h2
  case inr=>
   have e:dE.f (a,())=[]:=by simp only[PX,dE,h2,Bool.not_false,cond_true]
   rw[e];rfl
  rw[yR a h2]
  generalize hT:[0,1,8,0,6,4]++am 2 a.kind++am 6 a.srcHw++am 4 a.srcIp++am 6 a.dstHw++am 4 a.dstIp=T
  have hl:T.length=28:=by rw[←hT];simp[aF]
  have h0:af T 0=0:=by rw[←hT];rfl
  unfold cG
  rw[decide_eq_false (show¬T.length<20 by omega),h0]
  rfl
 simp only[hp,Bool.false_and,Bool.and_false,cond_false]
theorem TV (l:Link)(raw:ac)(h:(bk.f (l,raw,())).2.1=1):oT (bk.f (l,raw,())).2.2.2=[]:=by
 revert h
 obtain⟨r,hr⟩:∃r,bk.f (l,raw,())=r:=⟨_,rfl⟩
 rw[hr]
 simp only[PX,bk,uw]at hr
 generalize iZ.f (raw,())=F at hr
 rcases Bool.eq_false_or_eq_true (bif !d7.f (l,())then(true,())else bif !F.2 then(true,())else(!nQ.f (F.1,l.mac,()),())).1 with hc|hc
 ·rw[hc,cond_true]at hr;subst hr;intro h;cases h
 rw[hc,cond_false]at hr
 rcases Bool.eq_false_or_eq_true (F.1.type==2054)with h1|h1
 ·rw[h1,cond_true]at hr
  rcases Bool.eq_false_or_eq_true (bif !(kH.f (F.1.body,())).2 then(true,())else((kH.f (F.1.body,())).1.dstIp != l.ip,())).1 with h2|h2
  ·rw[h2,cond_true]at hr;subst hr;intro h;cases h
  rw[h2,cond_false]at hr
  rcases Bool.eq_false_or_eq_true (kj.f ((kH.f (F.1.body,())).1,l.mac,l.ip,())).2 with h3|h3
  ·rw[h3,cond_true]at hr;subst hr;intro _;exact UW _ _ _ _
  ·rw[h3,cond_false]at hr;subst hr;intro h;cases h
 rw[h1,cond_false]at hr
 rcases Bool.eq_false_or_eq_true (F.1.type==2048)with h2|h2
 case inr=>rw[h2,cond_false]at hr;subst hr;intro h;cases h
 rw[h2,cond_true]at hr
 rcases Bool.eq_false_or_eq_true (bif (dI.f (F.1.body,())).2 != 0 then(true,())else bif (dI.f (F.1.body,())).1.dst != l.ip then(true,())else bif (dI.f (F.1.body,())).1.proto != 6 then(true,())else((dI.f (F.1.body,())).1.src==l.ip,())).1 with hP|hP
 ·rw[hP,cond_true]at hr;subst hr;intro h;cases h
 ·rw[hP,cond_false]at hr;subst hr;intro h;cases h
theorem Th (s:Stac)(raw:ac)(h:gz.f (s,())=true)(hs:kW s.door)(e:ac)(he:e∈(DI s raw).2.1):∀x∈oT e,MJ s.door x:=by
 have hD:=(A1 _).1 ((B3 s).1 h).2
 have ha:=TV s.link raw
 revert he
 simp only[DI,h,Bool.not_true,cond_false]
 generalize bk.f (s.link,raw,())=r at ha
 cases h1:(r.2.1==1)with
 |true=>
  intro he x hx
  simp only[cond_true,List.mem_singleton]at he
  rw[he,ha (by simpa using h1)]at hx
  cases hx
 |false=>
  cases(r.2.1 != 2)with
  |true=>intro he;cases he
  |false=>
   cases(aH.f (r.2.2.1.body,r.2.2.1.src,r.2.2.1.dst,())).2 with
   |false=>intro he;cases he
   |true=>
    simp only[Bool.not_true,cond_false]
    intro he x hx
    obtain⟨g,hg,h2⟩:=List.mem_flatMap.1 he
    have hk:=VN s.door r.2.2.1.src _ g hg
    have hgo:=(Ve s.door r.2.2.1.src _ hs hD).2 g hg
    unfold NY at h2
    cases hb:(aC.f (g,r.1.ip,r.2.2.1.src,())==[])with
    |true=>rw[hb]at h2;cases h2
    |false=>
     rw[hb,cond_false]at h2
     cases hb2:(bU.f (r.1,r.2.2.1.src,aC.f (g,r.1.ip,r.2.2.1.src,()),())).2 with
     |false=>rw[hb2]at h2;cases h2
     |true=>
      rw[hb2,cond_true,List.mem_singleton]at h2
      rw[h2,Mo r.1 r.2.2.1.src g hb2,hgo,Bool.true_and]at hx
      cases hh:br.f (g,18,())with
      |false=>rw[hh]at hx;cases hx
      |true=>
       rw[hh,cond_true,List.mem_singleton]at hx
       rw[hx]
       exact hk hh
theorem Ub (s:Stac)(a:Acti)(h:gz.f (s,())=true)(hs:kW s.door)(hl:s.door.halves.length≤4294967296)(hr:a.text.length≤4294967296)(e:ac)(he:e∈(qf.f (s,a,())).2.frames):∀x∈oT e,MJ s.door x:=by
 have no:oT e=[]→∀x∈oT e,MJ s.door x:=λhh x hx=>by rw[hh]at hx;cases hx
 revert he
 simp only[PX,qf,vK,K5 s a.text hr hs hl]
 cases(bif !jq.f (s,())then(true,())else(!K3.f (a,()),())).1 with
 |true=>intro he;cases he
 |false=>
  cases(a.kind==1)with
  |true=>exact Th s a.text h hs e
  |false=>
   cases(a.kind==2)with
   |true=>exact λhe=>no (Sa s e he)
   |false=>
    cases(a.kind==3)with
    |true=>intro he;cases he
    |false=>
     cases(a.kind==4)with
     |true=>intro he;cases he
     |false=>exact λhe=>no (SQ s a e he)
set_option maxHeartbeats 1000000 in theorem PU (x:List Int):pr.f (x,())=true:=by
 rcases Bool.eq_false_or_eq_true (F4.f (x,()))with hb|hb
 ·simp only[FX.f,PX,pr,hb,cond_true]
 have hx:=VR x hb
 have hd:=rK.c.h (x,()) ⟨by simp only[sS];omega,hx⟩
 simp only[PX]at hd
 obtain⟨⟨s,a⟩,hz⟩:∃z,rK.f (x,())=z:=⟨_,rfl⟩
 rw[hz]at hd
 have hss:bL s:=hd.1
 have haa:f7 a:=hd.2
 have hs:kW s.door:=RN hss.2
 have hl:s.door.halves.length≤4294967296:=by
  have:=hss.2
  grind
 have hr:a.text.length≤4294967296:=haa.1
 have hst:=qf.c.h (s,a,()) ⟨hss,haa⟩
 simp only[PX]at hst
 have hfr:∀y∈(qf.f (s,a,())).2.frames,y.length≤4294967296:=by
  have:=hst.2
  unfold j7 at this
  exact this.2.1
 have h1:=G9 s (qf.f (s,a,())).2 hfr
 have h2:=HF s (qf.f (s,a,())).2 hfr
 have hq:=AR s hs
 have hiss:gz.f (s,())=true→∀y∈(qf.f (s,a,())).2.frames.flatMap oT,MJ s.door y:=by
  intro h y hy
  obtain⟨e,he,h3⟩:=List.mem_flatMap.1 hy
  exact Ub s a h hs hl hr e he y h3
 generalize hL:(qf.f (s,a,())).2.frames.flatMap oT=L at h1 h2 hiss
 simp only[FX.f,PX,pr,hb,cond_false,hz,h1,h2,bne_self_eq_false,ew,bq]
 rcases Bool.eq_false_or_eq_true (gz.f (s,()))with h|h
 ·rw[Ti L.length (λj hj=>by
   have hy:=List.getElem?_eq_getElem hj
   have hk:=hiss h L[j] (List.getElem_mem hj)
   simp only[PX,ni,hq,h,ai,getD_some hy,wC,oZ,cond_true]
   cases hc:(cb.f (s.door.keys,L[j].tuple,L[j].seq,L[j].cookie,())).2.2 with
   |true=>rfl
   |false=>
    unfold MJ at hk
    rw[hc]at hk
    obtain⟨k1,k2⟩:=hk.resolve_left (by simp)
    rw[decide_eq_false (show¬aP.f (s.door.halves,L[j].tuple,())<0 by omega),k2,bne_self_eq_false]
    rfl)]
  rfl
 ·cases hm:L.length with
  |zero=>rfl
  |succ m=>
   simp only[aX,PX,ni,hq,h,cond_false,Stp.elim]
def WO (t:Tabl):Tabl×Tupl×Bool:=match t.waiting with|[]=>(t,⟨0,0,0⟩,false)|w::r=>(⟨t.conns,r⟩,w,true)
theorem TO.take {t:Tabl}{l:Limi}(h:TO t l):TO (WO t).1 l:=by
 obtain⟨cs,ws⟩:=t
 unfold WO
 cases ws with
 |nil=>exact h
 |cons w r=>
  have h2:=h.nw
  have h3:=h.dw
  simp only[List.length_cons,List.nodup_cons]at h2 h3
  exact⟨h.lim,h.nc,by show(r.length:Int)≤_;omega,h.co,h.dc,h3.2,λx hx=>h.wc x (List.mem_cons_of_mem _ hx)⟩

end
end Go.Proofs.YteiiknfadjnmgaaGreat
