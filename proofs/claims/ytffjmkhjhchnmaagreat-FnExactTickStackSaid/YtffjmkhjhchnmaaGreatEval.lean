/- Code: what the executor says of it holds of the model's run. -/
import Derived.Test.YtffjmkhjhchnmaaGreatNorm
import Derived.Test.YtffjmkhjhchnmaaGreatShp
set_option linter.unusedVariables false
set_option linter.unusedSimpArgs false
namespace Go.Proofs.YtffjmkhjhchnmaaGreat
open Go Go.RowKit
def Ex.out:Ex→Exit
 | .normal=> .normal
 | .exit id=> .exit id
 | .ret=> .ret
abbrev qa (s:St):Prop:=ce s
section
variable {P:Program} {C:Nat→List PV→List MO→cS→List MO→Prop} {te:TE} {n:Nat} {S:FSt→Act→World→Prop} {orc:HU} {lorc:Dr} {ann:List (Nat×An)} {r:Nat}
def CU (P:Program)(S:FSt→Act→World→Prop)(lorc:Dr)(blk:Nat)(body:Code):Prop:=
 ∀(s:St) (γ:Type) (k:Ex→St→Option γ) (z:γ),lorc blk s γ k=some z→qa s→∀(a:Act) (w:World),S s.den a w→
  ∀Q:Exit→Act→World→Prop,(∀e s',k e s'=some z→qa s'→∀a' w',S s'.den a' w'→Q e.out a' w')→(Code.loop body).wp P Q a w
theorem AA:∀{log:List LogE},quiet log=true→∀e∈log,e.iw=[]
 |[],_,_,h=>by cases h
 |e::r,h,x,hx=>by
  simp only[quiet,Bool.and_eq_true]at h
  rcases List.mem_cons.1 hx with rfl|hx
  ·cases hi:x.iw with
   |nil=>rfl
   |cons _ _=>rw[hi]at h;cases h.1
  ·exact AA h.2 x hx
theorem Ce {α:Type}:∀{l m:List (Nat×α)} {t:Nat},ac (l++m) t=(ac l t).or (ac m t)
 |[],_,_=>by simp[ac]
 |(i,a)::l,m,t=>by
  simp only[List.cons_append,ac]
  cases Nat.beq i t with
  |true=>simp
  |false=>exact Ce
theorem wA {s:St}:∀{f:List (Nat×Bool×List Pt)} {t:Nat},ac (oc s f) t=none∨ac (oc s f) t=some (s.tmp t)
 |[],_=> .inl rfl
 |p::r,t=>by
  simp only[oc,ac]
  cases hb:Nat.beq p.1 t with
  |true=>rw[Nat.eq_of_beq_eq_true hb];exact .inr rfl
  |false=>exact wA
theorem su:∀{ops:List Oper} {t:Nat},(ac (qw ops) t=none∧∀o∈ops,o.dst≠some t)∨ac (qw ops) t=some cA
 |[],_=> .inl ⟨rfl,λ_ h=>by cases h⟩
 |o::r,t=>by
  simp only[qw]
  cases ho:o.dst with
  |none=>
   rcases su (ops:=r) (t:=t)with⟨h1,h2⟩|h
   ·refine .inl ⟨h1,λx hx=> ?_⟩
    rcases List.mem_cons.1 hx with rfl|hx
    ·rw[ho];exact nofun
    ·exact h2 x hx
   ·exact .inr h
  |some u=>
   simp only[ac]
   cases hb:Nat.beq u t with
   |true=>exact .inr rfl
   |false=>
    rcases su (ops:=r) (t:=t)with⟨h1,h2⟩|h
    ·refine .inl ⟨h1,λx hx=> ?_⟩
     rcases List.mem_cons.1 hx with rfl|hx
     ·rw[ho]
      intro he
      cases he
      rw[Nat.beq_refl]at hb
      cases hb
     ·exact h2 x hx
    ·exact .inr h
theorem H4 {s s':St}{f:List (Nat×Bool×List Pt)}{ops:List Oper}{t:Nat}(h:(∀o∈ops,o.dst≠some t)→s'.tmp t=s.tmp t):
  ((ac (oc s' f++(qw ops++s.fr)) t).getD cA)=s'.tmp t∨((ac (oc s' f++(qw ops++s.fr)) t).getD cA)=cA:=by
 rw[Ce,Ce]
 rcases wA (s:=s') (f:=f) (t:=t)with h1|h1
 ·rw[h1]
  rcases su (ops:=ops) (t:=t)with⟨h2,h3⟩|h2
  ·rw[h2,h h3];exact .inl rfl
  ·rw[h2];exact .inr rfl
 ·rw[h1];exact .inl rfl
theorem eq (hann:∀b A,ac ann b=some A→A.keep.roots=r∧A.kout.roots=r)(H:SimOk P C te n S)(hnorm:∀(keep:Keep) (s:St) (a:Act) (w:World),keep.roots=r→S s.den a w→qa s→S (s.norm keep).den a w)(hdrop:∀(s m:FSt) (a:Act) (w:World),S s a w→(∀id,m.obj id=s.obj id)→(∀t,m.tmp t=s.tmp t∨m.tmp t=cA)→S m a w)(hmix:P.follows .mixedOrders=true)(ho:qV C orc):
  ∀(c:Code) {blk:Nat} {s:St} {γ:Type} {k:Ex→St→Option γ} {z:γ},(∀p∈gI c blk,CU P S lorc p.1 p.2)→eG te orc lorc n ann c blk s γ k=some z→qa s→∀{a:Act} {w:World},S s.den a w→
   ∀{Q:Exit→Act→World→Prop},(∀e s',k e s'=some z→qa s'→∀a' w',S s'.den a' w'→Q e.out a' w')→c.wp P Q a w
 | .skip,blk,s,γ,k,z,hl,h,hb,a,w,hs,Q,hQ=>wp_skip (hQ .normal s h hb a w hs)
 | .region id ops draw,blk,s,γ,k,z,hl,h,hb,a,w,hs,Q,hQ=>by
  simp only[eG]at h
  split at h
  ·exact Ez H hmix ho (k:=λs' _=>k .normal s') hb h hs λs' log hk hb' _ _ a' w' hs'=>hQ .normal s' hk hb' a' w' hs'
  ·rename_i A _
   obtain⟨v,hv1,hv2⟩:=ee h
   refine Ez H hmix ho (k:=Qj A) hb hv1 hs λs' log hk hb' hob htm a' w' hs'=> ?_
   unfold Qj at hk
   cases hq:quiet log with
   |false=>rw[hq]at hk;cases hk
   |true=>
    rw[hq]at hk
    obtain⟨y,C,h1,_,_,h4⟩:=CJ hk
    unfold QK at hv2
    rw[h4]at hv2
    refine hQ .normal _ hv2 (λid hid=>Nat.lt_of_lt_of_le (hb id hid) (Nat.le_add_right _ _)) a' w' (hdrop _ _ a' w' hs' (λid=> ?_) λt=> ?_)
    ·exact(hob (AA hq) id).symm
    ·show((ac (oc s' A.sh.f++(qw ops.toList++s.fr)) t).getD cA)=_∨_
     exact H4 (λht=>htm t ht)
 | .seq x y,blk,s,γ,k,z,hl,h,hb,a,w,hs,Q,hQ=>by
  simp only[eG]at h
  refine wp_seq (eq hann H hnorm hdrop hmix ho x (λp hp=>hl p (List.mem_append_left _ hp)) h hb hs ?_)
  intro e s' hk hb' a' w' hs'
  cases e with
  |normal=>exact eq hann H hnorm hdrop hmix ho y (λp hp=>hl p (List.mem_append_right _ hp)) hk hb' hs' hQ
  |exit id=>exact hQ _ s' hk hb' a' w' hs'
  |ret=>exact hQ _ s' hk hb' a' w' hs'
 | .cond c x y,blk,s,γ,k,z,hl,h,hb,a,w,hs,Q,hQ=>by
  simp only[eG]at h
  split at h
  ·rename_i t
   split at h
   ·rename_i p hp
    have hv:a.eval (.tmp t)= .bool p:=by
     have:=H.bool s.den a w t p hs hp
     simp[Act.eval,Array.getD_eq_getD_getElem?,this]
    have hx:=λ(γ:Type) (k:Ex→St→Option γ) (z:γ) h (Q:Exit→Act→World→Prop) hQ=>eq hann H hnorm hdrop hmix ho x (λp hp=>hl p (List.mem_append_left _ hp)) (γ:=γ) (k:=k) (z:=z) h hb hs (Q:=Q) hQ
    have hy:=λ(γ:Type) (k:Ex→St→Option γ) (z:γ) h (Q:Exit→Act→World→Prop) hQ=>eq hann H hnorm hdrop hmix ho y (λp hp=>hl p (List.mem_append_right _ hp)) (γ:=γ) (k:=k) (z:=z) h hb hs (Q:=Q) hQ
    split at h
    ·cases p with
     |true=>exact wp_cond_true hv (hx γ k z h Q hQ)
     |false=>exact wp_cond_false hv (hy γ k z h Q hQ)
    ·rename_i A hA
     obtain⟨v,hv1,hv2⟩:=ee h
     have hQ':∀e s',M5 A e s'=some v→qa s'→∀a' w',S s'.den a' w'→Q e.out a' w':=by
      intro e s' he hb' a' w' hs'
      rw[HB he]at hv2
      exact hQ e _ hv2 (nE A.kout) a' w' (hnorm A.kout s' a' w' (hann _ _ hA).2 hs' hb')
     cases p with
     |true=>exact wp_cond_true hv (hx _ _ v hv1 Q hQ')
     |false=>exact wp_cond_false hv (hy _ _ v hv1 Q hQ')
   ·cases h
  ·rename_i p
   have hv:a.eval (.const (.bool p))= .bool p:=rfl
   cases p with
   |true=>exact wp_cond_true hv (eq hann H hnorm hdrop hmix ho x (λp hp=>hl p (List.mem_append_left _ hp)) h hb hs hQ)
   |false=>exact wp_cond_false hv (eq hann H hnorm hdrop hmix ho y (λp hp=>hl p (List.mem_append_right _ hp)) h hb hs hQ)
  ·cases h
 | .block id body,blk,s,γ,k,z,hl,h,hb,a,w,hs,Q,hQ=>by
  simp only[eG]at h
  refine wp_block (eq hann H hnorm hdrop hmix ho body (blk:=id) hl h hb hs ?_)
  intro e s' hk hb' a' w' hs'
  cases e with
  |normal=>exact hQ _ s' hk hb' a' w' hs'
  |ret=>exact hQ _ s' hk hb' a' w' hs'
  |exit j=>
   simp only[Ex.out,Exit.inBlock]
   simp only[]at hk
   cases hbq:Nat.beq j id with
   |true=>
    rw[hbq]at hk
    rw[if_pos (Nat.eq_of_beq_eq_true hbq)]
    exact hQ .normal s' hk hb' a' w' hs'
   |false=>
    rw[hbq]at hk
    rw[if_neg (Nat.ne_of_beq_eq_false hbq)]
    exact hQ (.exit j) s' hk hb' a' w' hs'
 | .loop body,blk,s,γ,k,z,hl,h,hb,a,w,hs,Q,hQ=>by
  simp only[eG]at h
  split at h
  ·rename_i A hA
   exact hl (blk,body) (by simp[gI]) _ γ k z h (nE A.keep) a w (hnorm A.keep s a w (hann _ _ hA).1 hs hb) Q hQ
  ·cases h
 | .exit id,blk,s,γ,k,z,hl,h,hb,a,w,hs,Q,hQ=>wp_exit (hQ (.exit id) s h hb a w hs)
 | .ret,blk,s,γ,k,z,hl,h,hb,a,w,hs,Q,hQ=>wp_ret (hQ .ret s h hb a w hs)
 | .rangeFunc _ _ _ _,blk,s,γ,k,z,hl,h,hb,a,w,hs,Q,hQ=>by simp[eG]at h
 | .scope _,blk,s,γ,k,z,hl,h,hb,a,w,hs,Q,hQ=>by simp[eG]at h
 | .label _,blk,s,γ,k,z,hl,h,hb,a,w,hs,Q,hQ=>by simp[eG]at h
 | .goto _,blk,s,γ,k,z,hl,h,hb,a,w,hs,Q,hQ=>by simp[eG]at h
 | .refuse _,blk,s,γ,k,z,hl,h,hb,a,w,hs,Q,hQ=>by simp[eG]at h
theorem NI (hann:∀b A,ac ann b=some A→A.keep.roots=r∧A.kout.roots=r)(H:SimOk P C te n S)(hnorm:∀(keep:Keep) (s:St) (a:Act) (w:World),keep.roots=r→S s.den a w→qa s→S (s.norm keep).den a w)(hdrop:∀(s m:FSt) (a:Act) (w:World),S s a w→(∀id,m.obj id=s.obj id)→(∀t,m.tmp t=s.tmp t∨m.tmp t=cA)→S m a w)(hmix:P.follows .mixedOrders=true)(ho:qV C orc){lorc':Dr}{keep kout:Keep}(hk1:keep.roots=r)(hk2:kout.roots=r){blk:Nat}{body:Code}
  (hl:∀p∈gI body blk,CU P S lorc p.1 p.2)
  (h:∀(s:St) (γ:Type) (k:Ex→St→Option γ) (z:γ),lorc' blk s γ k=some z→∃m,EP keep kout (λs k=>eG te orc lorc n ann body blk s γ k) m s k=some z):CU P S lorc' blk body:=by
 intro s γ k z hz hb a w hs Q hQ
 obtain⟨m,hm⟩:=h s γ k z hz
 refine wp_loop_rounds m ?_
 clear hz h
 induction m generalizing s a w with
 |zero=>cases hm
 |succ m ih=>
  rw[rounds_succ]
  refine eq hann H hnorm hdrop hmix ho body hl hm hb hs ?_
  intro e s' hk hb' a' w' hs'
  cases e with
  |normal=>exact ih _ (nE keep) a' w' (hnorm keep s' a' w' hk1 hs' hb') hk
  |exit id=>exact hQ _ _ hk (nE kout) a' w' (hnorm kout s' a' w' hk2 hs' hb')
  |ret=>exact hQ _ _ hk (nE kout) a' w' (hnorm kout s' a' w' hk2 hs' hb')
end
end Go.Proofs.YtffjmkhjhchnmaaGreat
