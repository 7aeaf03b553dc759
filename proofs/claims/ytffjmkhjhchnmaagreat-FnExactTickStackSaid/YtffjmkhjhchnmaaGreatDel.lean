/- slices.DeleteFunc on an array whose elements have arrays of their own: what is shown of it at elements whose inner slice is a mere value gives what it does there. -/
import Derived.Test.YtffjmkhjhchnmaaGreatPure
set_option linter.unusedVariables false
set_option linter.unusedSimpArgs false
namespace Go.Proofs.YtffjmkhjhchnmaaGreat
open Go Go.RowKit
def nl (c:Conn)(v:Value):ConnR:=⟨c.tuple,c.state,c.s,⟨c.r.next,c.r.data,v,c.r.fin,c.r.done⟩,c.window,c.most,c.opts,c.timer,c.tries⟩
theorem La (c:Conn)(v:Value):∀j,j≠12→(Ty.cells .connR (nl c v))[j]? =(Ty.cells .conn c)[j]?
 |0,_=>rfl|1,_=>rfl|2,_=>rfl|3,_=>rfl|4,_=>rfl|5,_=>rfl|6,_=>rfl|7,_=>rfl|8,_=>rfl|9,_=>rfl|10,_=>rfl|11,_=>rfl
 |12,h=>absurd rfl h
 |13,_=>rfl|14,_=>rfl|15,_=>rfl|16,_=>rfl|17,_=>rfl|18,_=>rfl|19,_=>rfl|20,_=>rfl|21,_=>rfl|22,_=>rfl|23,_=>rfl|24,_=>rfl
 |_+25,_=>rfl
theorem K2 (c:Conn)(v:Value):(Ty.cells .connR (nl c v))[12]? =some (.raw v):=rfl
theorem K8 (c:Conn):(Ty.cells .conn c)[12]? =some (.sl .piec c.r.held):=rfl
theorem Eh (c:Conn){x:Cell}:∀{j:Nat},j≠12→(Ty.cells .conn c)[j]? =some x→∀t ys,x≠ .sl t ys:=by
 intro j hj hx t ys he
 subst he
 obtain⟨f,y,h1,h2⟩:=qS hx
 cases f<;>simp only[Fl.cell]at h2<;>cases h2
 have h3:∀j,j≠12→(Ty.fl .conn)[j]? ≠some (.sl t)
  |0,_=>by simp[Ty.fl]|1,_=>by simp[Ty.fl]|2,_=>by simp[Ty.fl]|3,_=>by simp[Ty.fl]|4,_=>by simp[Ty.fl]|5,_=>by simp[Ty.fl]|6,_=>by simp[Ty.fl]|7,_=>by simp[Ty.fl]|8,_=>by simp[Ty.fl]|9,_=>by simp[Ty.fl]|10,_=>by simp[Ty.fl]|11,_=>by simp[Ty.fl]
  |12,h=>absurd rfl h
  |13,_=>by simp[Ty.fl]|14,_=>by simp[Ty.fl]|15,_=>by simp[Ty.fl]|16,_=>by simp[Ty.fl]|17,_=>by simp[Ty.fl]|18,_=>by simp[Ty.fl]|19,_=>by simp[Ty.fl]|20,_=>by simp[Ty.fl]|21,_=>by simp[Ty.fl]|22,_=>by simp[Ty.fl]|23,_=>by simp[Ty.fl]|24,_=>by simp[Ty.fl]
  |n+25,_=>by simp[Ty.fl]
 exact h3 j hj h1
theorem d9.flat {n:Nat→Nat→Option (Nat×Nat)}{w:World}{i j:Nat}{c:Cell}{u:Value}(hf:∀t ys,c≠ .sl t ys)(h:RepC (λ_=>False) w c u):d9 n w i j c u:=by
 cases c with
 |sl t ys=>exact absurd rfl (hf t ys)
 |_=>exact h
theorem iZ.slice {w:World}{m:Option (Nat×Nat)}{t:Ty}{ys:List t.T}{u:Value}(h:iZ w m t ys u):∃a n c,u= .slice a n c:=by
 obtain⟨h1,_⟩:=h
 unfold aM at h1
 split at h1
 ·obtain⟨a,rfl⟩:=h1;exact⟨_,_,_,rfl⟩
 ·exact⟨_,_,_,h1⟩
theorem ia.mts {mo mo':gj}{J:Nat→Prop}{w:World}(hm:∀(k:Nat) m,mo[k]? =some m→∃m':Mt,mo'[k]? =some m'∧m'.1=m.1∧m'.2=m.2){f:Nat}{ks:List Nat}{v:Value}(h:ia mo J w (.fn f ks) v):ia mo' J w (.fn f ks) v:=by
 obtain⟨us,rfl,hu⟩:=h
 exact⟨us,rfl,hu.mono λ_ _ hh=>jH.mts hm hh⟩
theorem kI.del {P:Program}{f g:Nat}{ks:List Nat}{Os Os':List MO}{xs:List Conn}{K:List (Conn×Nat)}(hK:K.Sublist xs.zipIdx)(q:Nat)
  (h:∀rv:Nat→Value,(∀i,∃a n c,rv i= .slice a n c)→kI P f [.wr false [.own 0],.fn g ks] (.arr .connR (xs.zipIdx.map λp=>nl p.1 (rv p.2))::Os) [(false,[.shr 0 K.length])] (.arr .connR ((K.map λp=>nl p.1 (rv p.2))++List.replicate q (Ty.zero .connR))::Os')):
  kI P f [.wr false [.down 0],.fn g ks] (.dar .conn xs::Os) [(false,[.shr 0 K.length])] (.dar .conn (K.map (·.1)++List.replicate q (Ty.zero .conn))::Os'):=by
 refine⟨(h (λ_=> .slice none 0 0) λ_=>⟨_,_,_,rfl⟩).1,λw J mo vs hJ hmo hok hX hg hgx hA=> ?_⟩
 cases mo with
 |nil=>exact hmo.elim
 |cons m0 ms=>
 obtain⟨hm0,hms⟩:=hmo
 obtain⟨hlen,hcase,hln,hlt⟩:=hm0
 have hex:∀i,∃v,(∃a n c,v= .slice a n c)∧∀c,xs[i]? =some c→∀b cap,m0.1=some (b,cap)→w.cell? ⟨b,i*Ty.size .conn+12,none⟩=some v∧iZ w (m0.inn i 12) .piec c.r.held v:=by
  intro i
  rcases hcase with⟨_,hnil⟩|⟨b,cap,g1,g2,g3,g4,g5,g6⟩
  ·exact⟨_,⟨none,0,0,rfl⟩,λc hc=>by rw[hnil]at hc;simp at hc⟩
  ·cases hx:xs[i]? with
   |none=>exact⟨_,⟨none,0,0,rfl⟩,λc hc=>by cases hc⟩
   |some c=>
    obtain⟨u,hu,hru⟩:=g6 i c 12 _ hx (K8 c)
    have hru:iZ w (m0.inn i 12) .piec c.r.held u:=hru
    refine⟨u,hru.slice,λc' hc' b' cap' hb'=> ?_⟩
    cases hc'
    rw[g1]at hb';cases hb'
    exact⟨hu,hru⟩
 obtain⟨rv,hrv⟩:=Classical.axiomOfChoice hex
 have hzi:∀(i:Nat) e,(xs.zipIdx.map λp=>nl p.1 (rv p.2))[i]? =some e→∃c,xs[i]? =some c∧e=nl c (rv i):=by
  intro i e he
  rw[List.getElem?_map,List.getElem?_zipIdx]at he
  cases hx:xs[i]? with
  |none=>rw[hx]at he;simp at he
  |some c=>rw[hx]at he;simp at he;exact⟨c,rfl,he.symm⟩
 have hKx:∀(i:Nat) p,K[i]? =some p→xs[p.2]? =some p.1:=by
  intro i p hp
  have h1:=hK.subset (List.mem_of_getElem? hp)
  obtain⟨c,k⟩:=p
  exact List.mk_mem_zipIdx_iff_getElem?.1 h1
 have hKn:(K.map (·.2)).Nodup:=by
  have h1:(K.map (·.2)).Sublist (xs.zipIdx.map (·.2)):=hK.map _
  rw[List.zipIdx_map_snd]at h1
  exact h1.nodup (List.nodup_range' ..)
 have hKi:∀(i j:Nat) p p',K[i]? =some p→K[j]? =some p'→p.2=p'.2→i=j:=by
  intro i j p p' hp hp' he
  obtain⟨hl1,he1⟩:=List.getElem?_eq_some_iff.1 hp
  obtain⟨hl2,he2⟩:=List.getElem?_eq_some_iff.1 hp'
  have e1:(K.map (·.2))[i]'(by simpa using hl1)=(K.map (·.2))[j]'(by simpa using hl2):=by simp[he1,he2,he]
  exact(List.getElem_inj hKn).1 e1
 let m1:Mt:=⟨m0.1,m0.2,λ_ _=>none,λ_ _=>0⟩
 have hto:∀(k:Nat) m,(m0::ms)[k]? =some m→∃m':Mt,(m1::ms)[k]? =some m'∧m'.1=m.1∧m'.2=m.2:=by
  intro k m hk
  cases k with
  |zero=>simp only[List.getElem?_cons_zero,Option.some.injEq]at hk;subst hk;exact⟨m1,rfl,rfl,rfl⟩
  |succ k=>exact⟨m,hk,rfl,rfl⟩
 have hfrom:∀(k:Nat) m,(m1::ms)[k]? =some m→∃m':Mt,(m0::ms)[k]? =some m'∧m'.1=m.1∧m'.2=m.2∧∀i j b c,m.inn i j=some (b,c)→m'.inn i j=some (b,c):=by
  intro k m hk
  cases k with
  |zero=>simp only[List.getElem?_cons_zero,Option.some.injEq]at hk;subst hk;exact⟨m0,rfl,rfl,rfl,λ_ _ _ _ h=>by cases h⟩
  |succ k=>exact⟨m,hk,rfl,rfl,λ_ _ _ _ h=>h⟩
 have hXX:∀b,gj.X (m1::ms) b→gj.X (m0::ms) b:=by
  rintro b ⟨m,hm,hc⟩
  obtain⟨k,hk⟩:=List.getElem?_of_mem hm
  obtain⟨m',h1,h2,_,h3⟩:=hfrom k m hk
  refine⟨m',List.mem_of_getElem? h1, ?_⟩
  rcases hc with⟨c,hc⟩|⟨i,j,c,hc⟩
  ·exact .inl ⟨c,by rw[h2];exact hc⟩
  ·exact .inr ⟨i,j,c,h3 i j b c hc⟩
 have hnX:∀i j b c,m0.inn i j=some (b,c)→¬gj.X (m1::ms) b:=by
  rintro i j b c hb ⟨m,hm,hc⟩
  obtain⟨k,hk⟩:=List.getElem?_of_mem hm
  cases k with
  |zero=>
   simp only[List.getElem?_cons_zero,Option.some.injEq]at hk
   subst hk
   rcases hc with⟨c',hc⟩|⟨i',j',c',hc⟩
   ·exact hok.vdis 0 0 i j b c c' m0 m0 rfl rfl hb hc
   ·cases hc
  |succ k=>
   rcases hc with⟨c',hc⟩|⟨i',j',c',hc⟩
   ·exact hok.vdis 0 (k+1) i j b c c' m0 m rfl hk hb hc
   ·have:=(hok.vinj 0 (k+1) i i' j j' b c c' m0 m rfl hk hb hc).1
    omega
 have hok1:MtsOk (m1::ms) (.arr .connR (xs.zipIdx.map λp=>nl p.1 (rv p.2))::Os):=by
  refine⟨λk m o hk ho hd i j=> ?_,λi j b c c' m m' hi hj h1 h2=> ?_,λi i' j j' k k' b c c' m m' hi hj h1 h2=> ?_,λi i' j k b c c' m m' hi hj h1 h2=> ?_⟩
  ·cases k with
   |zero=>simp only[List.getElem?_cons_zero,Option.some.injEq]at hk;subst hk;rfl
   |succ k=>exact hok.flat (k+1) m o hk ho hd i j
  ·obtain⟨n1,a1,a2,_,_⟩:=hfrom i m hi
   obtain⟨n2,b1,b2,_,_⟩:=hfrom j m' hj
   exact hok.inj i j b c c' n1 n2 a1 b1 (by rw[a2];exact h1) (by rw[b2];exact h2)
  ·obtain⟨n1,a1,_,_,a2⟩:=hfrom i m hi
   obtain⟨n2,b1,_,_,b2⟩:=hfrom i' m' hj
   exact hok.vinj i i' j j' k k' b c c' n1 n2 a1 b1 (a2 _ _ _ _ h1) (b2 _ _ _ _ h2)
  ·obtain⟨n1,a1,_,_,a2⟩:=hfrom i m hi
   obtain⟨n2,b1,b2,_,_⟩:=hfrom i' m' hj
   exact hok.vdis i i' j k b c c' n1 n2 a1 b1 (a2 _ _ _ _ h1) (by rw[b2];exact h2)
 have hmo1:ar (dk (m1::ms) J w) (m1::ms) (.arr .connR (xs.zipIdx.map λp=>nl p.1 (rv p.2))::Os):=by
  refine⟨⟨by simpa using hlen, ?_⟩,hms.mono λ_ _ hh=>hh.mts hto⟩
  rcases hcase with⟨g1,g2⟩|⟨b,cap,g1,g2,g3,g4,g5,g6⟩
  ·exact .inl ⟨g1,by rw[g2];rfl⟩
  ·refine .inr ⟨b,cap,g1,g2,by simpa using g3,by simpa using g4,g5,λi e j c he hc=> ?_⟩
   obtain⟨x,hx,rfl⟩:=hzi i e he
   by_cases hj:j=12
   ·subst hj
    rw[K2]at hc
    cases hc
    obtain⟨q1,q2⟩:=(hrv i).2 x hx b cap g1
    exact⟨_,q1,.raw _ (hrv i).1⟩
   ·rw[La x _ j hj]at hc
    obtain⟨u,hu,hru⟩:=g6 i x j c hx hc
    refine⟨u,hu, ?_⟩
    have hf:=Eh x hj hc
    cases c with
    |sl t ys=>exact absurd rfl (hf t ys)
    |_=>exact RepC.noJ hru hf
 have hA1:ar (ia (m1::ms) J w) [.wr false [.own 0],.fn g ks] vs.toList:=by
  revert hA
  generalize vs.toList=l
  intro hA
  match l,hA with
  |[v1,v2],⟨⟨c,hc,hv⟩,h2,_⟩=>
   cases hc
   obtain⟨m,hm,hv⟩:=hv
   simp only[List.getElem?_cons_zero,Option.some.injEq]at hm
   subst hm
   exact⟨⟨_,rfl,m1,rfl,hv⟩,ia.mts hto h2,trivial⟩
 refine((h rv λi=>(hrv i).1).2 w J (m1::ms) vs hJ hmo1 hok1 (λb hb=>hX b (hXX b hb)) hg (λb hb=>hgx b (hXX b hb)) hA1).mono ?_
 rintro e w' ⟨v,Jn,mm,rfl,hB,hJn,k1,k2,hRO,hsame⟩
 obtain⟨⟨m,hm,hn,hv⟩,hO⟩:=hRO.resolve_right λhd=>hd
 simp only[List.getElem?_cons_zero,Option.some.injEq]at hm
 subst hm
 have hin:∀i j b c,m0.inn i j=some (b,c)→w'.heap[b]? =w.heap[b]? :=λi j b c hb=>hB.block b (hlt i j b c hb) (hnX i j b c hb)
 let inn2:Nat→Nat→Option (Nat×Nat):=λi j=>if j=12 then(K[i]?).bind λp=>m0.inn p.2 12 else none
 have hinn:∀i j b c,inn2 i j=some (b,c)→j=12∧∃p,K[i]? =some p∧m0.inn p.2 12=some (b,c):=by
  intro i j b c hb
  simp only[inn2]at hb
  split at hb
  ·rename_i hj
   cases hk:K[i]? with
   |none=>rw[hk]at hb;cases hb
   |some p=>rw[hk]at hb;exact⟨hj,p,rfl,hb⟩
  ·cases hb
 refine⟨v,Jn,mm,rfl,⟨hB.os,hB.tape,hB.output,hB.size,λb hb hx=>hB.block b hb λhx'=>hx (hXX b hx')⟩,hJn,k1,k2,.inr ⟨⟨m0.1,m0.2,inn2,Ou (t:= .conn) (K.map (·.1)++List.replicate q (Ty.zero .conn))⟩,rfl,rfl, ?_,λi j b c hb=> ?_,λi j i' j' b c c' hb hb'=> ?_,hin, ?_,hn,hv⟩,rfl,hsame.2⟩
 ·obtain⟨o1,o2⟩:=hO.1
  have o1:m0.2=((K.map λp=>nl p.1 (rv p.2))++List.replicate q (Ty.zero .connR)).length:=o1
  refine⟨by rw[show(_:Nat)=m0.2 from rfl,o1];simp, ?_,z8 _,λi j b c hb=> ?_⟩
  ·rcases o2 with⟨g1,g2⟩|⟨b,cap,g1,g2,g3,g4,g5,g6⟩
   ·refine .inl ⟨g1, ?_⟩
    rw[List.append_eq_nil_iff]at g2⊢
    obtain⟨h1,h2⟩:=g2
    rw[List.map_eq_nil_iff]at h1
    rw[List.replicate_eq_nil_iff]at h2⊢
    exact⟨by rw[h1];rfl,h2⟩
   ·refine .inr ⟨b,cap,g1,g2,by simpa using g3,by simpa using g4,g5,λi e j c he hc=> ?_⟩
    obtain⟨r,hr1,hr2⟩:∃r,((K.map λp=>nl p.1 (rv p.2))++List.replicate q (Ty.zero .connR))[i]? =some (nl e r)∧iZ w' (inn2 i 12) .piec e.r.held r:=by
     rw[List.getElem?_append]at he
     split at he
     ·rename_i hl
      simp only[List.length_map]at hl
      rw[List.getElem?_map,List.getElem?_eq_getElem hl]at he
      have hp:=List.getElem?_eq_getElem hl
      generalize K[i]=p at he hp
      simp only[Option.map_some,Option.some.injEq]at he
      subst he
      refine⟨rv p.2, ?_, ?_⟩
      ·rw[List.getElem?_append_left (by simpa using hl),List.getElem?_map,hp];rfl
      ·have hx:=hKx i p hp
       have hne:∃b cap,m0.1=some (b,cap):=⟨b,cap,g1⟩
       have h1:=((hrv p.2).2 p.1 hx b cap g1).2
       have h2:inn2 i 12=m0.inn p.2 12:=by simp only[inn2,if_pos,hp,Option.bind_some]
       rw[h2]
       exact h1.mono λb' c' hb'=>hin p.2 12 b' c' hb'
     ·rename_i hl
      simp only[List.length_map,Nat.not_lt]at hl
      rw[List.getElem?_replicate]at he
      split at he
      ·rename_i hl2
       simp only[List.length_map]at hl2
       cases he
       refine⟨.slice none 0 0, ?_, ?_⟩
       ·rw[List.getElem?_append_right (by simpa using hl),List.getElem?_replicate,if_pos (by simpa using hl2)];rfl
       ·have h2:inn2 i 12=none:=by simp only[inn2,if_pos,List.getElem?_eq_none hl,Option.bind_none]
        rw[h2]
        exact⟨⟨none,rfl⟩,.inl ⟨rfl,rfl⟩⟩
      ·cases he
    by_cases hj:j=12
    ·subst hj
     rw[K8]at hc
     cases hc
     obtain⟨u,hu,hru⟩:=g6 i _ 12 _ hr1 (K2 e r)
     cases hru
     exact⟨r,hu,hr2⟩
    ·have hf:=Eh e hj hc
     obtain⟨u,hu,hru⟩:=g6 i _ j c hr1 (by rw[La e r j hj];exact hc)
     exact⟨u,hu,d9.flat hf (RepC.noJ hru hf)⟩
  ·obtain⟨_,p,_,hb⟩:=hinn i j b c hb
   exact Nat.lt_of_lt_of_le (hlt p.2 12 b c hb) hB.size
 ·obtain⟨_,p,_,hb⟩:=hinn i j b c hb
  exact⟨p.2,12,c,hb⟩
 ·obtain⟨e1,p,hp,hb⟩:=hinn i j b c hb
  obtain⟨e2,p',hp',hb'⟩:=hinn i' j' b c' hb'
  exact⟨hKi i i' p p' hp hp' (hok.vinj 0 0 p.2 p'.2 12 12 b c c' m0 m0 rfl rfl hb hb').2.1,by rw[e1,e2]⟩
 ·exact hO.2.mono λ_ _ hh=>hh.mts λk m hk=>by
   obtain⟨m',h1,h2,h3,_⟩:=hfrom k m hk
   exact⟨m',h1,h2,h3⟩
noncomputable def QB {P:Program}(f:Nat)(ks:List Pk)(ms:List Mk){A V:Type}(cv:HP ks→HM ms→A){p:A→Prop}{q:A→V→Prop}(F:Fnc A V p q)(R:V→cS)(O':HP ks→HM ms→V→HM ms)
  (h:∀x y,p (cv x y)→kI P f (zV ks x) (C5 ms y) (R (F.f (cv x y))) (C5 ms (O' x y (F.f (cv x y))))):Ent1 P where
 f:=f
 g A O _ k:=rJ (Jx ks A) none λx=>rJ (MR ms O) none λy=>C6 (dc (p (cv x y))) (jt (F.f (cv x y)) λv=>k (R v) (C5 ms (O' x y v))) none
 ok A O γ k z hg:=by
  obtain⟨x,hx,hg⟩:=ee hg
  obtain⟨y,hy,hg⟩:=ee hg
  cases hp:dc (p (cv x y))with
  |true=>
   rw[hp]at hg
   exact⟨R (F.f (cv x y)),C5 ms (O' x y (F.f (cv x y))),by rw[rR hx,Cc hy];exact h x y (K7 hp),hg⟩
  |false=>rw[hp]at hg;cases hg
theorem Aw {T:Type}(xs:List T)(p:T→Bool):xs.filter p=(xs.zipIdx.filter λq=>p q.1).map Prod.fst:=by
 have h:xs=xs.zipIdx.map Prod.fst:=by rw[List.zipIdx_map_fst]
 conv=>lhs;rw[h]
 rw[List.filter_map]
 rfl
def iW {T:Type}(p:T→Bool)(xs:List T):Int:=match xs.findIdx? p with|none=> -1|some i=>(i:Int)
theorem iI {T:Type}(p:T→Bool)(xs:List T){f:Int→Unit→Stp Unit Int}(h:∀(j:Nat) x a,xs[j]? =some x→f j a=bif p x then .out (j:Int)else .next ()):
  a9 f 1 (Int.toNat ((xs.length:Int)-0)) 0 ()=match xs.findIdx? p with|none=> .next ()|some i=> .out (i:Int):=by
 rw[ai,bi xs _ rfl h,ju (w:=λj _=>(j:Int))]
 cases hf:xs.findIdx? p with
 |none=>rfl
 |some i=>
  obtain⟨h1,_,_⟩:=List.findIdx?_eq_some_iff_getElem.1 hf
  simp only[List.getElem?_eq_getElem h1,Nat.zero_add]
theorem Eg {T:Type}(p:T→Bool)(xs:List T)(h:(iW p xs== -1)=true):xs.filter (λx=> !p x)=xs:=by
 unfold iW at h
 cases hf:xs.findIdx? p with
 |some i=>rw[hf]at h;simp at h
 |none=>
  rw[List.findIdx?_eq_none_iff]at hf
  rw[List.filter_eq_self];intro x hx;simp[hf x hx]
theorem EC {T:Type}(p:T→Bool)(xs:List T)(h:(iW p xs== -1)=false):∃i:Nat,iW p xs=(i:Int)∧∃hi:i<xs.length,xs.take i=(xs.take (i+1)).filter (λx=> !p x):=by
 unfold iW at h⊢
 cases hf:xs.findIdx? p with
 |none=>rw[hf]at h;simp at h
 |some i=>
  obtain⟨h1,h2,h3⟩:=List.findIdx?_eq_some_iff_getElem.1 hf
  refine⟨i,rfl,h1, ?_⟩
  rw[List.take_succ_eq_append_getElem h1,List.filter_append]
  have e1:(xs.take i).filter (λx=> !p x)=xs.take i:=by
   rw[List.filter_eq_self]
   intro x hx
   obtain⟨j,hj,rfl⟩:=List.getElem_of_mem hx
   have hj2:j<i:=by rw[List.length_take]at hj;omega
   have:=h3 j hj2
   simp only[List.getElem_take]
   simp[this]
  have e2:[xs[i]].filter (λx=> !p x)=[]:=by simp[h2]
  rw[e1,e2,List.append_nil]
theorem xh {T:Type}(p:T→Bool)(xs:List T){f:Int→Int×List T→Stp (Int×List T) Empty}(hf:∀(j k:Nat) (ys:List T) x,ys[j]? =some x→k≤j→j<xs.length→f (j:Int) ((k:Int),ys)=bif p x then .next ((k:Int),ys)else .next (((k+1:Nat):Int),ys.set k x)):
  ∀(n j k:Nat) (ys:List T),ys.length=xs.length→k≤j→j+n=xs.length→ys.take k=(xs.take j).filter (λx=> !p x)→ys.drop j=xs.drop j→∃(k':Nat) (zs:List T),a9 f 1 n (j:Int) ((k:Int),ys)= .next ((k':Int),zs)∧zs.length=xs.length∧k'≤xs.length∧zs.take k'=xs.filter (λx=> !p x)
 |0,j,k,ys,hl,hk,hn,ht,hd=>⟨k,ys,rfl,hl,by omega,by rw[ht,List.take_of_length_le (by omega)]⟩
 |n+1,j,k,ys,hl,hk,hn,ht,hd=>by
  have hj:j<xs.length:=by omega
  have hy:ys[j]? =some xs[j]:=by
   have:(ys.drop j)[0]? =(xs.drop j)[0]? :=by rw[hd]
   simpa [List.getElem?_drop,hj]using this
  have e:(xs.take (j+1)).filter (λx=> !p x)=(xs.take j).filter (λx=> !p x)++(if p xs[j]=true then[]else[xs[j]]):=by
   rw[List.take_succ_eq_append_getElem hj,List.filter_append]
   congr 1
   cases hp:p xs[j]<;>simp[hp]
  have hd2:ys.drop (j+1)=xs.drop (j+1):=by
   rw[←List.drop_drop,←List.drop_drop,hd]
  simp only[a9,hf j k ys xs[j] hy hk hj]
  have c1:((j:Int)+1)=((j+1:Nat):Int):=by omega
  cases hp:p xs[j]with
  |true=>
   simp only[cond_true,Stp.elim]
   rw[c1]
   exact xh p xs hf n (j+1) k ys hl (by omega) (by omega) (by rw[e,hp,ht];simp) hd2
  |false=>
   simp only[cond_false,Stp.elim]
   rw[c1]
   refine xh p xs hf n (j+1) (k+1) (ys.set k xs[j]) (by rw[List.length_set];exact hl) (by omega) (by omega) ?_ ?_
   ·rw[e,hp,List.take_succ_eq_append_getElem (by rw[List.length_set];omega),List.take_set_of_le (Nat.le_refl _),ht]
    simp
   ·rw[List.drop_set_of_lt (by omega)];exact hd2
theorem O5 {T:Type}(p:T→Bool)(xs zs:List T)(k:Nat)(z:T)(h1:zs.length=xs.length)(h2:k≤xs.length)(h3:zs.take k=xs.filter (λx=> !p x)):
  k=(xs.filter (λx=> !p x)).length∧(zs.take k++List.replicate (zs.length-k) z)++zs.drop zs.length=xs.filter (λx=> !p x)++List.replicate (xs.length-(xs.filter (λx=> !p x)).length) z:=by
 have hk:k=(xs.filter (λx=> !p x)).length:=by rw[←h3,List.length_take];omega
 refine⟨hk, ?_⟩
 rw[h3,List.drop_length,List.append_nil,h1,←hk]
end Go.Proofs.YtffjmkhjhchnmaaGreat
