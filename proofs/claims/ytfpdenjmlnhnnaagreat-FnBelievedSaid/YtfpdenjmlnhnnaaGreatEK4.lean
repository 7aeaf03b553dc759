/-
  Contracts of functions and plain laws (printed by a program): each theorem says what a function of the program returns; conditions are its hypotheses.
-/
import Derived.Test.YtfpdenjmlnhnnaaGreatEK3
set_option linter.all false
set_option maxRecDepth 4000
namespace Go.Proofs.YtfpdenjmlnhnnaaGreat
open Go Go.RowKit
noncomputable section
def Dc (d:Door)(k:Nat)(g:Segm):Door×List Segm×Int:=
 if(dZ (d.table.conns.getD k (Ty.zero .conn)) g).2.2=3 then
  if d.chal=d.limits.chal then({d with table.conns:=d.table.conns.set k (dZ (d.table.conns.getD k (Ty.zero .conn)) g).1},[],0)
  else({d with table.conns:=d.table.conns.set k (dZ (d.table.conns.getD k (Ty.zero .conn)) g).1,chal:=d.chal+1},(dZ (d.table.conns.getD k (Ty.zero .conn)) g).2.1,0)
 else({d with table.conns:=d.table.conns.set k (dZ (d.table.conns.getD k (Ty.zero .conn)) g).1},(dZ (d.table.conns.getD k (Ty.zero .conn)) g).2.1,0)
def abM (d:Door)(t:Tupl)(g:Segm):Door:=
 if 0≤aE.f (d.halves,t,())∧g.seq=((d.halves.getD (aE.f (d.halves,t,())).toNat (Ty.zero .half)).irs+1)%4294967296 then{d with halves:=vj d.halves t}else d
def IE (d:Door)(src:Int)(g:Segm):Door×List Segm×Int:=
 if bP.f (d,())=true∧ae.f (src,32,())=true∧ak.f (g,())=true then
  if g.to≠d.port then(d,f9.f (g,()),0)
  else if 0≤av.f (d.table,uj src g,())then Dc d (av.f (d.table,uj src g,())).toNat g
  else bif bp.f (g,4,())then(abM d (uj src g) g,[],0)
  else bif bp.f (g,2,())&&(!bp.f (g,16,())&& !bp.f (g,1,()))then((lG.f (d,uj src g,g,())).1,(lG.f (d,uj src g,g,())).2,0)
  else bif bp.f (g,16,())&& !bp.f (g,2,())then AP d (uj src g) g
  else bif bp.f (g,16,())then(d,f9.f (g,()),0)else(d,[],0)
 else(d,[],0)
theorem D2 (d:Door)(t:Tupl)(h:0≤av.f (d.table,t,())):∃k:Nat,av.f (d.table,t,())=(k:Int)∧∃hk:k<d.table.conns.length,d.table.conns[k].tuple=t:=by
 rw[eM]at h⊢
 exact adx _ _ (decide_eq_true h)
theorem adv (d:Door)(k:Nat)(g:Segm)(hs:gf d)(hD:DO d)(hk:k<d.table.conns.length):z7.f (d,(k:Int),g,())=Dc d k g:=by
 have hsk:be (d.table.conns.getD k (Ty.zero .conn)).r.held:=by
  rw[getD_some (List.getElem?_eq_getElem hk)];exact hs _ (List.getElem_mem hk)
 have k0:=hD.k0
 have k1:=hD.k1
 have k2:=hD.tab.lim.k1
 simp only[PX,z7,kO,af,C1 _ g hsk]
 unfold Dc
 rw[aq (by omega) (by omega)]
 by_cases h3:(dZ (d.table.conns.getD k (Ty.zero .conn)) g).2.2=3
 ·rw[if_pos h3,show((dZ (d.table.conns.getD k (Ty.zero .conn)) g).2.2==3)=true by rw[h3];rfl,cond_true]
  by_cases h4:d.chal=d.limits.chal
  ·rw[if_pos h4,show(d.chal==d.limits.chal)=true by simp[h4]];rfl
  ·rw[if_neg h4,show(d.chal==d.limits.chal)=false by simp[h4]];rfl
 ·rw[if_neg h3,show((dZ (d.table.conns.getD k (Ty.zero .conn)) g).2.2==3)=false from beq_eq_false_iff_ne.2 h3];rfl
theorem O8 (s:Int)(g:Segm):mH.f (s,g,())=uj s g:=by simp only[PX,mH,uj]
theorem Dl (s:Int)(g:Segm):uD.f (s,g,())=uj s g:=by simp only[PX,uD,uj]
theorem ok3 (a b c:Bool):(bif !a then(true,())else bif !b then(true,())else(!c,())).1= !decide (a=true∧b=true∧c=true):=by cases a<;>cases b<;>cases c<;>rfl
theorem hs3 (a b c:Bool):(bif a then bif !b then(!c,())else(false,())else(false,())).1=(a&&(!b&& !c)):=by cases a<;>cases b<;>cases c<;>rfl
theorem q0 (a b:Bool):(bif a then(!b,())else(false,())).1=(a&& !b):=by cases a<;>cases b<;>rfl
theorem SP (p:Prop)[Decidable p](a b:Int):(bif decide p then(a==b,())else(false,())).1=decide (p∧a=b):=by
 by_cases h:p<;>by_cases h2:a=b<;>simp[h,h2]
theorem XS (d:Door)(src:Int)(g:Segm)(hs:gf d)(hl:d.halves.length≤4294967296):I3.f (d,src,g,())=IE d src g:=by
 simp only[PX,I3,kO,D1 d hs,dr,qe,O8,jt,wz,iH,bt,MY,LZ,adM d _ g hs,Xn d _ g hs hl,AW _ _ hl,ok3,hs3,q0]
 unfold IE
 by_cases hq:bP.f (d,())=true∧ae.f (src,32,())=true∧ak.f (g,())=true
 case neg=>rw[decide_eq_false hq,if_neg hq];rfl
 rw[decide_eq_true hq,if_pos hq,Bool.not_true,cond_false]
 have hD:=(ji d).1 hq.1
 by_cases hp:g.to=d.port
 case neg=>rw[if_pos hp,show(g.to != d.port)=true by simp[hp]];rfl
 rw[if_neg (λh=>h hp),show(g.to != d.port)=false by simp[hp],cond_false]
 by_cases hc:0≤av.f (d.table,uj src g,())
 ·rw[if_pos hc,decide_eq_true hc,cond_true]
  obtain⟨k,e,hk,-⟩:=D2 d _ hc
  rw[e,af,adv d k g hs hD hk]
 rw[if_neg hc,decide_eq_false hc,cond_false]
 cases bp.f (g,4,())with
 |true=>
  rw[cond_true,cond_true,SP]
  unfold abM
  by_cases hr:0≤aE.f (d.halves,uj src g,())∧g.seq=((d.halves.getD (aE.f (d.halves,uj src g,())).toNat (Ty.zero .half)).irs+1)%4294967296
  ·rw[decide_eq_true hr,if_pos hr];rfl
  ·rw[decide_eq_false hr,if_neg hr];rfl
 |false=>
  rw[cond_false,cond_false]
theorem WO (d:Door)(src:Int)(g:Segm)(hs:gf d)(hl:d.halves.length≤4294967296):IT.f (d,src,g,())=IE d src g:=by
 simp only[PX,IT,kj,Dl,bt,X9 d _ g hl,A1 _ _ hl,ok3,hs3,q0]
 unfold IE
 by_cases hq:bP.f (d,())=true∧ae.f (src,32,())=true∧ak.f (g,())=true
 case neg=>rw[decide_eq_false hq,if_neg hq];rfl
 rw[decide_eq_true hq,if_pos hq,Bool.not_true,cond_false]
 have hD:=(ji d).1 hq.1
 by_cases hp:g.to=d.port
 case neg=>rw[if_pos hp,show(g.to != d.port)=true by simp[hp]];rfl
 rw[if_neg (λh=>h hp),show(g.to != d.port)=false by simp[hp],cond_false]
 by_cases hc:0≤av.f (d.table,uj src g,())
 ·rw[if_pos hc,decide_eq_true hc,cond_true]
  obtain⟨k,e,hk,ht⟩:=D2 d _ hc
  rw[e,af]
  have hsk:be (d.table.conns.getD k (Ty.zero .conn)).r.held:=by
   rw[getD_some (List.getElem?_eq_getElem hk)];exact hs _ (List.getElem_mem hk)
  have hck:CO (d.table.conns.getD k (Ty.zero .conn)):=by
   rw[getD_some (List.getElem?_eq_getElem hk)];exact hD.tab.co _ (List.getElem_mem hk)
  have hrk:=D3 _ g hck hsk
  have hset:de.f (d.table,(dZ (d.table.conns.getD k (Ty.zero .conn)) g).1,())=⟨d.table.conns.set k (dZ (d.table.conns.getD k (Ty.zero .conn)) g).1,d.table.waiting⟩:=qS d.table _ hD.tab.dc k hk (by rw[hrk.2.1,getD_some (List.getElem?_eq_getElem hk)])
  have k0:=hD.k0
  have k1:=hD.k1
  have k2:=hD.tab.lim.k1
  rw[CX _ g hsk]
  unfold Dc
  by_cases h3:(dZ (d.table.conns.getD k (Ty.zero .conn)) g).2.2=3
  ·rw[if_pos h3,show((dZ (d.table.conns.getD k (Ty.zero .conn)) g).2.2==3)=true by rw[h3];rfl,cond_true]
   by_cases h4:d.chal=d.limits.chal
   ·rw[if_pos h4,show(d.chal==d.limits.chal)=true by simp[h4]]
    show(({d with table:=de.f (d.table,(dZ (d.table.conns.getD k (Ty.zero .conn)) g).1,())}:Door),([]:List Segm),(0:Int))=_
    rw[hset]
   ·rw[if_neg h4,show(d.chal==d.limits.chal)=false by simp[h4]]
    show(({d with table:=de.f (d.table,(dZ (d.table.conns.getD k (Ty.zero .conn)) g).1,()),chal:=IntKind.wrap .i64 (d.chal+1)}:Door),(dZ (d.table.conns.getD k (Ty.zero .conn)) g).2.1,(0:Int))=_
    rw[hset,aq (by omega) (by omega)]
  ·rw[if_neg h3,show((dZ (d.table.conns.getD k (Ty.zero .conn)) g).2.2==3)=false from beq_eq_false_iff_ne.2 h3]
   show(({d with table:=de.f (d.table,(dZ (d.table.conns.getD k (Ty.zero .conn)) g).1,())}:Door),(dZ (d.table.conns.getD k (Ty.zero .conn)) g).2.1,(0:Int))=_
   rw[hset]
 rw[if_neg hc,decide_eq_false hc,cond_false]
 cases bp.f (g,4,())with
 |true=>
  rw[cond_true,cond_true,SP]
  unfold abM
  by_cases hr:0≤aE.f (d.halves,uj src g,())∧g.seq=((d.halves.getD (aE.f (d.halves,uj src g,())).toNat (Ty.zero .half)).irs+1)%4294967296
  ·rw[decide_eq_true hr,if_pos hr];rfl
  ·rw[decide_eq_false hr,if_neg hr];rfl
 |false=>
  rw[cond_false,cond_false]
theorem Kg (t:Tabl)(x:Tupl):¬0≤av.f (t,x,())↔x∉t.conns.map Conn.tuple:=by
 rw[eM,←vz,←jU]
 simp
theorem aa2 (xs:List Half)(x:Tupl):¬0≤aE.f (xs,x,())↔x∉xs.map Half.tuple:=by
 rw[eO,←vz,←jU]
 simp
theorem abr (d:Door)(c:Conn)(g:Segm)(m:Int)(hD:DO d)(hs:be c.r.held)(hn:c.tuple∉d.table.conns.map Conn.tuple):DO (yz d c g m).1∧∀y∈(yz d c g m).2.1,ak.f (y,())=true:=by
 unfold yz
 by_cases hT:cQ.f ((⟨d.table.conns++[c],d.table.waiting++[c.tuple]⟩:Tabl),d.limits,())=true
 case neg=>rw[if_neg hT];exact⟨hD,λy hy=>by cases hy⟩
 rw[if_pos hT]
 have h:=(Rp _ _).1 hT
 have hc:=h.co c (by simp)
 have hr:=D3 c g hc hs
 have hset:=TO.set h d.table.conns.length (dZ c g).1 hr.1 (by simp) (by simp[hr.2.1])
 have e:(d.table.conns++[c]).set d.table.conns.length (dZ c g).1=d.table.conns++[(dZ c g).1]:=by simp
 rw[e]at hset
 have hsub:=Pi d.halves c.tuple
 refine⟨⟨hD.port,hD.c0,hD.c1,hD.keys,hset,HO.sub hD.hal hsub, ?_,hD.k0,hD.k1, ?_⟩,hr.2.2.1⟩
 ·show((vj d.halves c.tuple).length:Int)≤d.limits.halves
  have:=hsub.length_le
  have:=hD.nh
  omega
 ·intro y hy hm
  have hy2:y∈vj d.halves c.tuple:=hy
  have hm2:y.tuple∈(d.table.conns++[(dZ c g).1]).map Conn.tuple:=hm
  rw[List.map_append,List.mem_append]at hm2
  rcases hm2 with h1|h1
  ·exact hD.ap y (hsub.subset hy2) h1
  ·simp only[List.map_cons,List.map_nil,List.mem_singleton,hr.2.1]at h1
   have hy3:=List.mem_map_of_mem (f:=Half.tuple) hy2
   rw[h1]at hy3
   exact LR d.halves c.tuple hD.hal.nd hy3
theorem Y7 (g:Segm):(f9.f (g,())).length≤1:=by
 rw[Pn];cases bp.f (g,4,())<;>simp
theorem ab6 (d:Door)(t:Tupl)(g:Segm)(hD:DO d):DO (AP d t g).1∧∀y∈(AP d t g).2.1,ak.f (y,())=true:=by
 have nil:∀y∈([]:List Segm),ak.f (y,())=true:=λy hy=>by cases hy
 unfold AP
 split
 ·rename_i hq
  obtain⟨h1,h2,h3,h4⟩:=hq
  have hg:=(bq g).1 h3
  have hw:=hg.2.2.2.2.2.1
  have hn:=(Kg d.table t).1 h4
  split
  ·rename_i h5
   have ho:=Aj d.halves t hD.hal h5
   split
   ·exact⟨hD,Aw g h3⟩
   ·split
    ·exact⟨hD,nil⟩
    ·exact abr d _ g 1 hD (yF t _ _ _ g.window h2 ho hw.1 hw.2).2 hn
  ·split
   ·have ho:=vF (bG.f (d.keys,t,(g.seq+ -1)%4294967296,(g.ack+ -1)%4294967296,())).2.1 g.opts hg.2.2.2.2.2.2.1
    exact abr d _ g 2 hD (yF t _ _ _ g.window h2 ho hw.1 hw.2).2 hn
   ·exact⟨hD,Aw g h3⟩
 ·exact⟨hD,nil⟩
theorem XR (xs:List Half)(h:Half)(n:Int):oJ.f (xs,h,n,())=if(xs.length:Int)<n∧fk.f (xs++[h],())=true then(xs++[h],true)else(xs,false):=by
 simp only[PX,oJ,eB,List.nil_append]
 by_cases h1:n≤(xs.length:Int)
 ·rw[decide_eq_true h1,if_neg (by omega)];rfl
 ·rw[decide_eq_false h1]
  cases h2:fk.f (xs++[h],())with
  |true=>rw[if_pos ⟨by omega,rfl⟩];rfl
  |false=>rw[if_neg (by simp)];rfl
theorem ZI (d:Door)(t:Tupl)(g:Segm)(hk:eh.f (d.keys,())=true)(ht:aG.f (t,())=true)(hg:ak.f (g,())=true)(sq:Int)(h0:0≤sq∧sq≤4294967295):ak.f (({eG.f (d,t,g,())with seq:=sq}:Segm),())=true:=by
 have hp:=(bq g).1 hg
 have h1:=OG t ht
 have ho:=Fp g.opts d.clock (by rw[iO];exact hp.2.2.2.2.2.2.1)
 rw[iO]at ho
 rw[bq]
 simp only[PX,eG,bt]
 exact⟨h1.2.2,h1.2.1,h0,by omega,by omega,by omega,ho,by simp⟩
theorem abd (d:Door)(t:Tupl)(g:Segm)(hD:DO d)(ht:aG.f (t,())=true)(hg:ak.f (g,())=true):DO (lG.f (d,t,g,())).1∧(∀y∈(lG.f (d,t,g,())).2,ak.f (y,())=true)∧(lG.f (d,t,g,())).1.table=d.table∧(lG.f (d,t,g,())).1={d with halves:=(lG.f (d,t,g,())).1.halves}:=by
 have nil:∀y∈([]:List Segm),ak.f (y,())=true:=λy hy=>by cases hy
 have hp:=(bq g).1 hg
 have hsq:=Wy d t g
 have ha:=ZI d t g hD.keys ht hg
 have hown:∀y∈[eG.f (d,t,g,())],ak.f (y,())=true:=λy hy=>by
  rw[List.mem_singleton.1 hy]
  exact ha (eG.f (d,t,g,())).seq ⟨hsq.1,hsq.2 ht hD.keys hp.2.2.1⟩
 rw[Oq,(ji d).2 hD,ht,hg]
 simp only[Bool.and_self,cond_true]
 by_cases h5:0≤aE.f (d.halves,t,())
 ·rw[decide_eq_true h5,cond_true]
  have hiss:0≤(d.halves.getD (aE.f (d.halves,t,())).toNat (Ty.zero .half)).iss∧(d.halves.getD (aE.f (d.halves,t,())).toNat (Ty.zero .half)).iss≤4294967295:=by
   rw[eO]at h5⊢
   obtain⟨i,e,hi,-⟩:=wX d.halves t (decide_eq_true h5)
   rw[e,af,getD_some (List.getElem?_eq_getElem hi)]
   have:=hD.hal.ok _ (List.getElem_mem hi)
   unfold sE at this
   simp only[Bool.and_eq_true,cb,decide_eq_true_eq]at this
   exact this.2.1
  generalize d.halves.getD (aE.f (d.halves,t,())).toNat (Ty.zero .half)=h at hiss⊢
  cases(h.irs != g.seq)with
  |true=>exact⟨hD,nil,rfl,rfl⟩
  |false=>exact⟨hD,λy hy=>by
    simp only[cond_false,List.mem_singleton]at hy
    rw[hy];exact ha h.iss hiss,rfl,rfl⟩
 ·rw[decide_eq_false h5,cond_false]
  by_cases h4:0≤av.f (d.table,t,())
  ·rw[decide_eq_false (show¬av.f (d.table,t,())<0 by omega),cond_false]
   exact⟨hD,hown,rfl,rfl⟩
  ·rw[decide_eq_true (show av.f (d.table,t,())<0 by omega),cond_true,XR]
   refine⟨?_,hown,rfl,rfl⟩
   by_cases h6:(d.halves.length:Int)<d.limits.halves∧fk.f (d.halves++[(⟨t,(eG.f (d,t,g,())).seq,g.seq,jO.f (g.opts,()),0,g.window⟩:Half)],())=true
   ·rw[if_pos h6]
    refine⟨hD.port,hD.c0,hD.c1,hD.keys,hD.tab,(abN _).1 h6.2, ?_,hD.k0,hD.k1, ?_⟩
    ·show(((d.halves++[_]).length:Nat):Int)≤d.limits.halves
     rw[List.length_append,List.length_singleton];omega
    ·intro y hy
     rcases List.mem_append.1 hy with h7|h7
     ·exact hD.ap y h7
     ·rw[List.mem_singleton.1 h7]
      exact(Kg d.table t).1 h4
   ·rw[if_neg h6];exact hD
theorem acZ (d:Door)(k:Nat)(g:Segm)(hs:gf d)(hD:DO d)(hk:k<d.table.conns.length):DO (Dc d k g).1∧∀y∈(Dc d k g).2.1,ak.f (y,())=true:=by
 have nil:∀y∈([]:List Segm),ak.f (y,())=true:=λy hy=>by cases hy
 have hsk:be (d.table.conns.getD k (Ty.zero .conn)).r.held:=by
  rw[getD_some (List.getElem?_eq_getElem hk)];exact hs _ (List.getElem_mem hk)
 have hck:CO (d.table.conns.getD k (Ty.zero .conn)):=by
  rw[getD_some (List.getElem?_eq_getElem hk)];exact hD.tab.co _ (List.getElem_mem hk)
 have hr:=D3 _ g hck hsk
 have ht:(dZ (d.table.conns.getD k (Ty.zero .conn)) g).1.tuple=d.table.conns[k].tuple:=by
  rw[hr.2.1,getD_some (List.getElem?_eq_getElem hk)]
 have k0:=hD.k0
 have k1:=hD.k1
 have hset:=TO.set hD.tab k _ hr.1 hk ht
 have hmap:=YN d.table.conns k _ hk ht
 have base:∀ch:Int,0≤ch→ch≤d.limits.chal→DO ({d with table.conns:=d.table.conns.set k (dZ (d.table.conns.getD k (Ty.zero .conn)) g).1,chal:=ch}:Door):=λch h0 h1=>by
  refine⟨hD.port,hD.c0,hD.c1,hD.keys,hset,hD.hal,hD.nh,h0,h1,λy hy hm=>hD.ap y hy ?_⟩
  have hm2:y.tuple∈(d.table.conns.set k (dZ (d.table.conns.getD k (Ty.zero .conn)) g).1).map Conn.tuple:=hm
  rw[hmap]at hm2;exact hm2
 unfold Dc
 split
 ·split
  ·exact⟨base d.chal k0 k1,nil⟩
  ·exact⟨base (d.chal+1) (by omega) (by omega),hr.2.2.1⟩
 ·exact⟨base d.chal k0 k1,hr.2.2.1⟩
theorem adm (src:Int)(g:Segm)(h1:ae.f (src,32,())=true)(hg:ak.f (g,())=true):aG.f (uj src g,())=true:=by
 have hp:=(bq g).1 hg
 simp only[PX,aG,uj,h1,dj,decide_eq_true hp.1.1,decide_eq_true hp.1.2,decide_eq_true hp.2.1.1,decide_eq_true hp.2.1.2]
 rfl
theorem aeH (d:Door)(t:Tupl)(g:Segm)(hD:DO d):DO (abM d t g):=by
 unfold abM
 split
 ·have hsub:=Pi d.halves t
  refine⟨hD.port,hD.c0,hD.c1,hD.keys,hD.tab,HO.sub hD.hal hsub, ?_,hD.k0,hD.k1,λy hy=>hD.ap y (hsub.subset hy)⟩
  show((vj d.halves t).length:Int)≤d.limits.halves
  have:=hsub.length_le
  have:=hD.nh
  omega
 ·exact hD
theorem acD (d:Door)(src:Int)(g:Segm)(hs:gf d)(hD:DO d):DO (IE d src g).1∧∀y∈(IE d src g).2.1,ak.f (y,())=true:=by
 have nil:∀y∈([]:List Segm),ak.f (y,())=true:=λy hy=>by cases hy
 unfold IE
 split
 ·rename_i hq
  obtain⟨h1,h2,h3⟩:=hq
  have ht:=adm src g h2 h3
  split
  ·exact⟨hD,Aw g h3⟩
  ·split
   ·rename_i hc
    obtain⟨k,e,hk,-⟩:=D2 d _ hc
    rw[e,af]
    exact acZ d k g hs hD hk
   ·cases bp.f (g,4,())with
    |true=>exact⟨aeH d _ g hD,nil⟩
    |false=>
     rw[cond_false]
     cases(bp.f (g,2,())&&(!bp.f (g,16,())&& !bp.f (g,1,())))with
     |true=>exact⟨(abd d _ g hD ht h3).1,(abd d _ g hD ht h3).2.1⟩
     |false=>
      rw[cond_false]
      cases(bp.f (g,16,())&& !bp.f (g,2,()))with
      |true=>exact ab6 d _ g hD
      |false=>
       rw[cond_false]
       cases bp.f (g,16,())with
       |true=>exact⟨hD,Aw g h3⟩
       |false=>exact⟨hD,nil⟩
 ·exact⟨hD,nil⟩
theorem Jv (xs:List Conn)(c:Conn)(t:Tupl)(hn:t∉xs.map Conn.tuple)(ht:c.tuple=t):dK (λh:Conn=>j6 t h.tuple) (xs++[c])=(xs.length:Int):=by
 apply Y1
 ·rw[←vz]at hn;simpa using hn
 ·show j6 t c.tuple=true
  rw[ht];exact p6 t
structure Let (d:Door)(t:Tupl)(x:Door):Prop where
 con:av.f (x.table,t,())=(d.table.conns.length:Int)
 hal:¬0≤aE.f (x.halves,t,())
theorem acC (d:Door)(c:Conn)(g:Segm)(m:Int)(hD:DO d)(hs:be c.r.held)(hn:c.tuple∉d.table.conns.map Conn.tuple)(hT:cQ.f ((⟨d.table.conns++[c],d.table.waiting++[c.tuple]⟩:Tabl),d.limits,())=true):Let d c.tuple (yz d c g m).1∧(yz d c g m).2.2=m:=by
 unfold yz
 rw[if_pos hT]
 have h:=(Rp _ _).1 hT
 have hc:=h.co c (by simp)
 have hr:=D3 c g hc hs
 refine⟨⟨?_, ?_⟩,rfl⟩
 ·rw[eM]
  exact Jv d.table.conns _ c.tuple hn hr.2.1
 ·rw[aa2]
  exact LR d.halves c.tuple hD.hal.nd
def ach (d:Door)(t:Tupl):Half:=d.halves.getD (aE.f (d.halves,t,())).toNat (Ty.zero .half)
theorem abC (xs:List Half)(t:Tupl)(h:HO xs)(hf:0≤aE.f (xs,t,())):(0≤(xs.getD (aE.f (xs,t,())).toNat (Ty.zero .half)).iss∧(xs.getD (aE.f (xs,t,())).toNat (Ty.zero .half)).iss≤4294967295)∧(0≤(xs.getD (aE.f (xs,t,())).toNat (Ty.zero .half)).irs∧(xs.getD (aE.f (xs,t,())).toNat (Ty.zero .half)).irs≤4294967295):=by
 rw[eO]at hf⊢
 obtain⟨i,e,hi,-⟩:=wX xs t (decide_eq_true hf)
 rw[e,af,getD_some (List.getElem?_eq_getElem hi)]
 have:=h.ok _ (List.getElem_mem hi)
 unfold sE at this
 simp only[Bool.and_eq_true,cb,decide_eq_true_eq]at this
 exact⟨this.2.1,this.2.2.1⟩
theorem Zd (d:Door)(t:Tupl)(g:Segm):((AP d t g).2.2=0∧(AP d t g).1=d∧(AP d t g).2.1.length≤1)∨(DO (AP d t g).1∧Let d t (AP d t g).1∧(((AP d t g).2.2=1∧0≤aE.f (d.halves,t,())∧(ach d t).iss=(g.ack+ -1)%4294967296∧(ach d t).irs=(g.seq+ -1)%4294967296)∨((AP d t g).2.2=2∧¬0≤aE.f (d.halves,t,())∧(bG.f (d.keys,t,(g.seq+ -1)%4294967296,(g.ack+ -1)%4294967296,())).2.2=true))):=by
 have hA:=λhD=>(ab6 d t g hD).1
 unfold AP at hA⊢
 by_cases hq:bP.f (d,())=true∧aG.f (t,())=true∧ak.f (g,())=true∧¬0≤av.f (d.table,t,())
 case neg=>rw[if_neg hq];exact .inl ⟨rfl,rfl,by simp⟩
 simp only[if_pos hq]at hA⊢
 obtain⟨h1,h2,h3,h4⟩:=hq
 have hD:=(ji d).1 h1
 have hg:=(bq g).1 h3
 have hw:=hg.2.2.2.2.2.1
 have hn:=(Kg d.table t).1 h4
 have hrl:=Y7 g
 have hA:=hA hD
 by_cases h5:0≤aE.f (d.halves,t,())
 ·simp only[if_pos h5]at hA⊢
  have ho:=Aj d.halves t hD.hal h5
  have hr:=abC d.halves t hD.hal h5
  unfold ach
  generalize d.halves.getD (aE.f (d.halves,t,())).toNat (Ty.zero .half)=h at ho hA hr⊢
  by_cases h6:g.ack=(h.iss+1)%4294967296
  ·by_cases h7:g.seq=(h.irs+1)%4294967296
   ·simp only[if_neg (λhh:g.ack≠(h.iss+1)%4294967296=>hh h6),if_neg (λhh:g.seq≠(h.irs+1)%4294967296=>hh h7)]at hA⊢
    have hs:=(yF t h.iss h.irs h.opts g.window h2 ho hw.1 hw.2).2
    by_cases hT:cQ.f ((⟨d.table.conns++[yW t h.iss h.irs h.opts g.window],d.table.waiting++[t]⟩:Tabl),d.limits,())=true
    ·have hL:=acC d (yW t h.iss h.irs h.opts g.window) g 1 hD hs hn hT
     exact .inr ⟨hA,hL.1,.inl ⟨hL.2,h5,by omega,by omega⟩⟩
    ·have e:yz d (yW t h.iss h.irs h.opts g.window) g 1=(d,[],0):=by unfold yz;exact if_neg hT
     rw[e];exact .inl ⟨rfl,rfl,by simp⟩
   ·simp only[if_neg (λhh:g.ack≠(h.iss+1)%4294967296=>hh h6),if_pos (show g.seq≠(h.irs+1)%4294967296 from h7)]
    exact .inl ⟨trivial,trivial,by simp⟩
  ·simp only[if_pos (show g.ack≠(h.iss+1)%4294967296 from h6)]
   exact .inl ⟨trivial,trivial,hrl⟩
 ·simp only[if_neg h5]at hA⊢
  have ho:=vF (bG.f (d.keys,t,(g.seq+ -1)%4294967296,(g.ack+ -1)%4294967296,())).2.1 g.opts hg.2.2.2.2.2.2.1
  generalize bG.f (d.keys,t,(g.seq+ -1)%4294967296,(g.ack+ -1)%4294967296,())=k at ho hA⊢
  by_cases h6:k.2.2=true
  ·simp only[if_pos h6]at hA⊢
   have hs:=(yF t ((g.ack+ -1)%4294967296) ((g.seq+ -1)%4294967296) (bL.f (k.2.1,g.opts,())) g.window h2 ho hw.1 hw.2).2
   by_cases hT:cQ.f ((⟨d.table.conns++[yW t ((g.ack+ -1)%4294967296) ((g.seq+ -1)%4294967296) (bL.f (k.2.1,g.opts,())) g.window],d.table.waiting++[t]⟩:Tabl),d.limits,())=true
   ·have hL:=acC d (yW t ((g.ack+ -1)%4294967296) ((g.seq+ -1)%4294967296) (bL.f (k.2.1,g.opts,())) g.window) g 2 hD hs hn hT
    exact .inr ⟨hA,hL.1,.inr ⟨hL.2,h5,h6⟩⟩
   ·have e:yz d (yW t ((g.ack+ -1)%4294967296) ((g.seq+ -1)%4294967296) (bL.f (k.2.1,g.opts,())) g.window) g 2=(d,[],0):=by unfold yz;exact if_neg hT
    rw[e];exact .inl ⟨rfl,rfl,by simp⟩
  ·simp only[if_neg h6]
   exact .inl ⟨trivial,trivial,hrl⟩
theorem adr (x:List Int)(hb:LH.f (x,())=false):x.length≤1048576:=by
 simp only[PX,LH,decide_eq_false_iff_not]at hb
 omega
theorem ZN {W:Type}{f:Int→Unit→Stp Unit W}(n:Nat)(h:∀j:Nat,j<n→f (j:Int) ()= .next ()):aP f 1 n 0 ()= .next ():=by
 have:=(u3 (f:=f) n 0).2 (λj _ h2=>h j (by omega))
 exact this
theorem kv (n sz:Int)(h1:1≤sz)(h6:sz≤6)(h:ae.f (n,8*sz,())=true):((aA.f (n,sz,())).length:Int)=sz:=by
 have hw:IntKind.wrap .i64 (8*sz)=8*sz:=aq (by omega) (by omega)
 simp only[PX,aA,au,eL,hw,h,decide_eq_true h1,decide_eq_true h6,Bool.and_self,Bool.not_true,cond_false]
 generalize Int.toNat (IntKind.wrap .i64 (sz-1)-0+1)=k
 generalize IntKind.wrap .i64 (sz-1)=i
 cases hf:aP (λj a=>(dP j a).nice) (-1) k i (n,List.replicate sz.toNat 0)with
 |out e=>exact Empty.elim e
 |next a=>
  have:=B7 (P:=λa:Int×List Int=>a.2.length=sz.toNat) (λi a a' ha h=>by
   simp only[PX,dP]at h
   cases h
   simpa using ha) _ _ _ _ (by simp) hf
  simp only[PX,Stp.elim,bC]
  omega
theorem VJ (n sz:Int)(h1:1≤sz)(h6:sz≤6)(h:ae.f (n,8*sz,())=false):aA.f (n,sz,())=[]:=by
 have hw:IntKind.wrap .i64 (8*sz)=8*sz:=aq (by omega) (by omega)
 simp only[PX,aA,au,hw,h,decide_eq_true h1,decide_eq_true h6,Bool.and_self,Bool.not_true,Bool.not_false,cond_false,cond_true]
theorem zK (n sz:Int)(h1:1≤sz)(h6:sz≤6):(aA.f (n,sz,())==[])= !ae.f (n,8*sz,()):=by
 rcases Bool.eq_false_or_eq_true (ae.f (n,8*sz,()))with h|h
 ·have:=kv n sz h1 h6 h
  rw[h]
  cases hp:aA.f (n,sz,())with
  |nil=>rw[hp]at this;simp at this;omega
  |cons a r=>rfl
 ·rw[VJ n sz h1 h6 h,h];rfl
def ws:Bool→aa→Int
 |_,[]=>0
 |false,b::t=>256*(b.toNat:Int)+ws true t
 |true,b::t=>(b.toNat:Int)+ws false t
theorem aeT (v:aa)(hv:v.length≤4294967296):∀(n j:Nat) (a:Int),j+n=v.length→0≤a→a≤65536*(j:Int)→aP (λj a=>(iA v j a).nice) 1 n (j:Int) a= .next (a+ws (j%2==1) (v.drop j))
 |0,j,a,h,_,_=>by rw[List.drop_of_length_le (by omega)];simp[aP,ws]
 |n+1,j,a,h,h0,h1=>by
  have hj:j<v.length:=by omega
  have hb:=qX v[j]
  rw[List.drop_eq_getElem_cons hj]
  have ht:(((j:Int).tmod 2)==0)= !(j%2==1):=by
   rw[Int.tmod_eq_emod_of_nonneg (by omega),Bool.eq_iff_iff]
   simp;omega
  have hnx:((j+1)%2==1)= !(j%2==1):=by
   rw[Bool.eq_iff_iff];simp;omega
  cases hp:(j%2==1)with
  |true=>
   have ih:=aeT v hv n (j+1) (a+(v[j].toNat:Int)) (by omega) (by omega) (by omega)
   simp only[PX,iA]at ih
   simp only[aP,PX,iA,ht,hp,af,jH _ _ hj,Bool.not_true,cond_false,Stp.elim,ws]
   rw[aq (m:=(v[j].toNat:Int)) (by omega) (by omega),aq (by omega) (by omega),show(j:Int)+1=((j+1:Nat):Int) by omega,ih,hnx,hp]
   simp only[Bool.not_true]
   congr 1;omega
  |false=>
   have ih:=aeT v hv n (j+1) (a+256*(v[j].toNat:Int)) (by omega) (by omega) (by omega)
   simp only[PX,iA]at ih
   simp only[aP,PX,iA,ht,hp,af,jH _ _ hj,Bool.not_false,cond_true,Stp.elim,ws]
   rw[aq (m:=(v[j].toNat:Int)) (by omega) (by omega),aq (m:=(v[j].toNat:Int)*256) (by omega) (by omega),aq (by omega) (by omega),show(j:Int)+1=((j+1:Nat):Int) by omega,show a+(v[j].toNat:Int)*256=a+256*(v[j].toNat:Int) by omega,ih,hnx,hp]
   simp only[Bool.not_false]
   congr 1;omega
theorem wK (v:aa)(hv:v.length≤4294967296):ru.f (v,())=ws false v:=by
 simp only[PX,ru,kH]
 have:=aeT v hv v.length 0 0 (by omega) (by omega) (by omega)
 rw[aN,show(0:Int)=((0:Nat):Int) from rfl]
 rw[show(0:Int)=((0:Nat):Int) from rfl]at this
 rw[this]
 simp[Stp.elim]
theorem aeZ (v:aa)(hv:v.length≤4294967296):∀(k j:Nat) (a:Int),k=(v.length-j+1)/2→0≤a→a≤65536*(j:Int)→aP (λj a=>(im v j a).nice) 2 k (j:Int) a= .next (a+ws false (v.drop j))
 |0,j,a,h,_,_=>by rw[List.drop_of_length_le (by omega)];simp[aP,ws]
 |k+1,j,a,h,h0,h1=>by
  have hj:j<v.length:=by omega
  have hb:=qX v[j]
  rw[List.drop_eq_getElem_cons hj]
  by_cases h2:j+1<v.length
  ·have hb2:=qX v[j+1]
   have ih:=aeZ v hv k (j+2) (a+256*(v[j].toNat:Int)+(v[j+1].toNat:Int)) (by omega) (by omega) (by omega)
   rw[List.drop_eq_getElem_cons h2]
   simp only[PX,im]at ih
   simp only[aP,PX,im,af,jH _ _ hj,Stp.elim,ws]
   rw[aq (m:=(j:Int)+1) (by omega) (by omega),decide_eq_true (show(j:Int)+1<(v.length:Int) by omega),cond_true,show((j:Int)+1).toNat=j+1 by omega,jH _ _ h2,aq (m:=(v[j].toNat:Int)) (by omega) (by omega),aq (m:=256*(v[j].toNat:Int)) (by omega) (by omega),aq (m:=a+256*(v[j].toNat:Int)) (by omega) (by omega),aq (m:=(v[j+1].toNat:Int)) (by omega) (by omega),aq (by omega) (by omega)]
   simp only[Stp.elim]
   rw[show(j:Int)+2=((j+2:Nat):Int) by omega,ih]
   congr 1
   have e:ws false (List.drop (j+1+1) v)=ws false (List.drop (j+2) v):=rfl
   omega
  ·have ih:=aeZ v hv k (j+2) (a+256*(v[j].toNat:Int)) (by omega) (by omega) (by omega)
   rw[List.drop_of_length_le (show v.length≤j+1 by omega)]
   rw[List.drop_of_length_le (show v.length≤j+2 by omega)]at ih
   simp only[PX,im]at ih
   simp only[aP,PX,im,af,jH _ _ hj,Stp.elim,ws]
   rw[aq (m:=(j:Int)+1) (by omega) (by omega),decide_eq_false (show¬(j:Int)+1<(v.length:Int) by omega),cond_false,aq (m:=(v[j].toNat:Int)) (by omega) (by omega),aq (m:=256*(v[j].toNat:Int)) (by omega) (by omega),aq (m:=a+256*(v[j].toNat:Int)) (by omega) (by omega)]
   simp only[Stp.elim]
   rw[show(j:Int)+2=((j+2:Nat):Int) by omega,ih]
   congr 1
   simp only[ws];omega
theorem QF (v:aa)(hv:v.length≤4294967296):z8.f (v,())=ws false v:=by
 simp only[PX,z8,dQ]
 have:=aeZ v hv ((v.length+1)/2) 0 0 (by omega) (by omega) (by omega)
 rw[show Int.toNat (((v.length:Int)-0+1)/2)=(v.length+1)/2 by omega,show(0:Int)=((0:Nat):Int) from rfl]
 rw[show(0:Int)=((0:Nat):Int) from rfl]at this
 rw[this]
 simp[Stp.elim]
theorem abb (n:Int):Ey.f (n,())=EG.f (n,()):=by
 have e:ui=ul:=by
  funext a
  unfold ui ul
  rw[show decide (65535<a)=decide (65536≤a) from decide_eq_decide.2 (by omega)]
 simp only[PX,Ey,EG,pr,py,e]
theorem Q0 (v:aa)(hv:v.length≤4294967296):tX.f (v,())=tW.f (v,()):=by
 simp only[PX,tX,tW,QF v hv,wK v hv,abb]
theorem Qc:∀(n:Nat) (a b:aa),a.length=2*n→ws false (a++b)=ws false a+ws false b
 |0,a,b,h=>by
  have e:a=[]:=List.eq_nil_of_length_eq_zero (by omega)
  subst e
  simp[ws]
 |n+1,[],b,h=>by simp at h
 |n+1,[x],b,h=>by simp at h;omega
 |n+1,x::y::a,b,h=>by
  have ih:=Qc n a b (by simp only[List.length_cons]at h;omega)
  simp only[List.cons_append,ws,ih];omega
theorem Dt (a b n:Int):nJ.f (a,b,n,())=ew.f (a,b,n,()):=by
 have h1:=zK a 4 (by omega) (by omega)
 have h2:=zK b 4 (by omega) (by omega)
 have h3:=zK n 2 (by omega) (by omega)
 rw[show(8:Int)*4=32 from rfl]at h1 h2
 rw[show(8:Int)*2=16 from rfl]at h3
 simp only[PX,nJ,ew,oE,h1,h2,h3]
theorem afG:tg=rN:=rfl
theorem M6 (o:Opti):pL.f (o,())=cF.f (o,()):=by
 simp only[PX,pL,cF,iO,oE,jk,iY,afG]
 rcases Bool.eq_false_or_eq_true (aM.f (o,()))with h|h
 case inr=>rw[h];rfl
 have hs:=fv o h
 have e:decide (0≤o.scale)=(o.scale != -1):=by
  rw[Bool.eq_iff_iff];simp;omega
 rw[h]
 cases h1:(o.mss != 0)<;>cases h2:(o.scale != -1)<;>cases h3:o.sack<;>cases h4:o.stamp<;>simp only[e,h2,h3,h4,Bool.not_true,cond_true,cond_false,List.nil_append,List.append_assoc]
theorem adZ (o:Opti):(cF.f (o,())).length≤20:=(cF.c.h (o,()) trivial).2
theorem ad0 (a b n:Int):(ew.f (a,b,n,())).length≤20:=(ew.c.h (a,b,n,()) trivial).2
theorem Lb (n sz:Int):((aA.f (n,sz,())).length:Int)≤max sz 0:=(aA.c.h (n,sz,()) trivial).2
theorem Og (g:Segm)(a b:Int):lm.f (g,a,b,())=cE.f (g,a,b,()):=by
 simp only[PX,lm,cE,qe,M6,Dt,oE]
 rcases Bool.eq_false_or_eq_true (ak.f (g,()))with h|h
 case inr=>rw[h,Bool.not_false,cond_true,cond_true]
 rw[h,Bool.not_true,cond_false,cond_false]
 have hb:=iI g h
 rw[Q0]
 have h1:=adZ g.opts
 generalize IntKind.wrap .i64 ((IntKind.wrap .i64 (20+((cF.f (g.opts,())).length:Int)))+(g.body.length:Int))=n
 have h2:=ad0 a b n
 have h3:=Lb g.from_ 2
 have h4:=Lb g.to 2
 have h5:=Lb g.seq 4
 have h6:=Lb g.ack 4
 have h7:=Lb (IntKind.wrap .i64 ((IntKind.wrap .i64 ((IntKind.wrap .i64 (20+((cF.f (g.opts,())).length:Int))).tdiv 4))*16)) 1
 have h8:=Lb g.flags 1
 have h9:=Lb g.window 2
 simp only[List.length_append,List.length_cons,List.length_nil]
 omega
theorem Y6 (f:Fram):zW.f (f,())=gk.f (f,()):=by
 simp only[PX,zW,gk,dr,bH,au]
theorem yY (f:Fram):fE.f (f,())=gm.f (f,()):=by
 simp only[PX,fE,gm,Y6,oE]
theorem X8 (p:Pack):wm.f (p,())=md.f (p,()):=by
 simp only[PX,wm,md,dr,bH,au]
theorem Mh (p:Pack)(h:md.f (p,())=true):ae.f (p.src,32,())=true∧ae.f (p.dst,32,())=true∧1≤p.ttl∧p.ttl≤255∧ae.f (p.proto,8,())=true∧ae.f (p.id,16,())=true∧p.body.length≤1480:=by
 simp only[PX,md,au]at h
 revert h
 cases ae.f (p.src,32,())<;>cases ae.f (p.dst,32,())<;>cases ae.f (p.proto,8,())<;>cases ae.f (p.id,16,())<;>simp<;>omega
theorem QW (p:Pack):kX.f (p,())=rf.f (p,()):=by
 simp only[PX,kX,rf,X8,oE]
 rcases Bool.eq_false_or_eq_true (md.f (p,()))with h|h
 case inr=>rw[h,Bool.not_false,cond_true,cond_true]
 obtain⟨hs,hd,t1,t2,hp,hi,hb⟩:=Mh p h
 rw[h,Bool.not_true,cond_false,cond_false]
 have w:IntKind.wrap .i64 (20+(p.body.length:Int))=20+(p.body.length:Int):=aq (by omega) (by omega)
 rw[w]
 have n1:ae.f (20+(p.body.length:Int),8*2,())=true:=by
  rw[show(8:Int)*2=16 from rfl,dj]
  simp;omega
 have l1:=kv (20+(p.body.length:Int)) 2 (by omega) (by omega) n1
 have l2:=kv p.id 2 (by omega) (by omega) hi
 have l3:=kv p.ttl 1 (by omega) (by omega) (by rw[show(8:Int)*1=8 from rfl,Xp];simp;omega)
 have l4:=kv p.proto 1 (by omega) (by omega) hp
 have l5:=kv p.src 4 (by omega) (by omega) hs
 have l6:=kv p.dst 4 (by omega) (by omega) hd
 generalize aA.f (20+(p.body.length:Int),2,())=a at*
 generalize aA.f (p.id,2,())=b at*
 generalize aA.f (p.ttl,1,())=c at*
 generalize aA.f (p.proto,1,())=d at*
 generalize aA.f (p.src,4,())=e at*
 generalize aA.f (p.dst,4,())=f at*
 have key:tX.f ((((([69,0]++a)++b)++[0,0])++c++d)++(e++f),())=tW.f ((((((([69,0]++a)++b)++[0,0])++c)++d)++[0,0])++(e++f),()):=by
  rw[Q0]
  ·have e1:ru.f ((((([69,0]++a)++b)++[0,0])++c++d)++(e++f),())=ru.f ((((((([69,0]++a)++b)++[0,0])++c)++d)++[0,0])++(e++f),()):=by
    rw[wK,wK,Qc 5 (((([69,0]++a)++b)++[0,0])++c++d),Qc 6 ((((([69,0]++a)++b)++[0,0])++c++d)++[0,0]),Qc 5 (((([69,0]++a)++b)++[0,0])++c++d)]
    ·simp[ws]
    all_goals simp only[List.length_append,List.length_cons,List.length_nil];omega
   simp only[PX,tW,e1]
  ·simp only[List.length_append,List.length_cons,List.length_nil];omega
 rw[key]
def hwN (v:List Entr)(ip:Int):Int×Bool:=match v.findIdx? (λe=>e.ip==ip)with
 |some i=>(match v[i]? with|some x=>(x.hw,true)|none=>(0,false))
 |none=>(0,false)
theorem Al (v:List Entr)(ip:Int):B0.f (v,ip,())=hwN v ip:=by
 simp only[PX,B0,tD]
 rw[aN,cS v _ rfl (F:=λj x _=>bif x.ip==ip then .out x.hw else .next ()) (λj x a h=>by
  simp only[PX,Hj,af,getD_some h]),kK (p:=λe:Entr=>e.ip==ip) (w:=λ_ x=>x.hw)]
 unfold hwN
 cases v.findIdx? (λe=>e.ip==ip)with
 |none=>rfl
 |some i=>cases h:v[i]? <;>simp only[h]<;>rfl
theorem Cu (v:List Entr)(ip:Int):zX.f (v,ip,())=dK (λe=>e.ip==ip) v:=by
 simp only[PX,zX,rc]
 rw[iB (λe:Entr=>e.ip==ip) v (λj x a h=>by simp only[PX,C7,af,getD_some h])]
 unfold dK
 cases v.findIdx? (λe=>e.ip==ip)<;>rfl
theorem aeW (v:List Entr)(ip:Int):Rk.f (v,ip,())=B0.f (v,ip,()):=by
 simp only[PX,Rk,Cu,Al]
 unfold hwN dK
 cases hf:v.findIdx? (λe=>e.ip==ip)with
 |none=>rfl
 |some i=>
  obtain⟨h1,_,_⟩:=List.findIdx?_eq_some_iff_getElem.1 hf
  have h2:v[i]? =some v[i]:=List.getElem?_eq_getElem h1
  simp only[h2,af,getD_some h2,decide_eq_false (show¬(i:Int)<0 by omega),cond_false]
theorem abq (v:List Entr)(ip:Int):(hwN v ip).2=v.any (λe=>e.ip==ip):=by
 have:=jU (λe:Entr=>e.ip==ip) v
 rw[←this]
 unfold hwN dK
 cases hf:v.findIdx? (λe=>e.ip==ip)with
 |none=>rfl
 |some i=>
  obtain⟨h1,_,_⟩:=List.findIdx?_eq_some_iff_getElem.1 hf
  have h2:v[i]? =some v[i]:=List.getElem?_eq_getElem h1
  simp only[h2,decide_eq_true (show(0:Int)≤(i:Int) by omega)]
theorem aby (xs:List Entr):(∀(j:Nat) (y:Entr),xs[j]? =some y→(xs.take j).any (λh=>h.ip==y.ip)=false)↔(xs.map Entr.ip).Nodup:=by
 unfold List.Nodup
 rw[List.pairwise_iff_getElem]
 constructor
 ·intro h i j hi hj hij he
  rw[List.length_map]at hi hj
  simp only[List.getElem_map]at he
  have:=h j xs[j] (List.getElem?_eq_getElem hj)
  rw[List.any_eq_false]at this
  refine this xs[i] ?_ (by rw[he,beq_self_eq_true])
  rw[List.mem_take_iff_getElem]
  exact⟨i,by omega,rfl⟩
 ·intro h j y hy
  rw[List.any_eq_false]
  intro z hz he
  rw[List.mem_take_iff_getElem]at hz
  obtain⟨i,hi,rfl⟩:=hz
  obtain⟨hj,rfl⟩:=List.getElem?_eq_some_iff.1 hy
  have:=h i j (by rw[List.length_map];omega) (by rw[List.length_map];exact hj) (by omega)
  simp only[List.getElem_map]at this
  exact this (beq_iff_eq.1 he)
def BB (e:Entr):Bool:=ae.f (e.ip,32,())&&(ae.f (e.hw,48,())&&(decide (0≤e.age)&&decide (e.age≤9)))
structure EO (v:List Entr):Prop where
 ok:∀e∈v,BB e=true
 nd:(v.map Entr.ip).Nodup
 len:v.length≤4
theorem zM (v:List Entr):gl.f (v,())=true↔EO v:=by
 have f1:=Jp v (f:=λj a=>(eV v v j a).nice) (P:=λj y=>BB y=true∧(v.take j).any (λh=>h.ip==y.ip)=false) (λj y hy=>by
  simp only[PX,eV,af,getD_some hy,Al,abq,List.drop_zero,au,BB]
  cases ae.f (y.ip,32,())<;>cases ae.f (y.hw,48,())<;>cases(decide (0≤y.age)&&decide (y.age≤9))<;>cases(v.take j).any (λh=>h.ip==y.ip)<;>simp)
 have f3:=aby v
 have f5:aP (λj a=>(eV v v j a).nice) 1 (Int.toNat ((v.length:Int)-0)) 0 ()= .next ()↔(∀e∈v,BB e=true)∧(v.map Entr.ip).Nodup:=by
  rw[f1,←f3,←wQ]
  exact⟨λh=>⟨λj y hy=>(h j y hy).1,λj y hy=>(h j y hy).2⟩,λh j y hy=>⟨h.1 j y hy,h.2 j y hy⟩⟩
 have e:gl.f (v,())=true↔v.length≤4∧aP (λj a=>(eV v v j a).nice) 1 (Int.toNat ((v.length:Int)-0)) 0 ()= .next ():=by
  simp only[PX,gl,kx]
  rw[show v.length≤4↔decide (4<(v.length:Int))=false by simp;omega]
  cases decide (4<(v.length:Int))<;>cases aP (λj a=>(eV v v j a).nice) 1 (Int.toNat ((v.length:Int)-0)) 0 ()<;>simp[Stp.elim]
 rw[e,f5]
 constructor
 ·rintro⟨h1,h2,h3⟩;exact⟨h2,h3,h1⟩
 ·rintro⟨h2,h3,h1⟩;exact⟨h1,h2,h3⟩
theorem O1 (v:List Entr):uK.f (v,())=gl.f (v,()):=by
 simp only[PX,uK,gl,nW,kx]
 have h1:=AC v (f:=λj a=>(tj v j a).nice) (g:=λj a=>(eV v v j a).nice) (k:=Int.toNat ((v.length:Int)-0)) (aN _) (λj y hy=>by
  simp only[PX,tj,eV,af,getD_some hy,dr,bH,au,Cu,Al,abq,List.drop_zero,jU]
  cases ae.f (y.ip,32,())<;>cases ae.f (y.hw,48,())<;>cases(decide (0≤y.age)&&decide (y.age≤9))<;>cases(v.take j).any (λh=>h.ip==y.ip)<;>simp)
 rw[show decide ((v.length:Int)≤4)= !decide (4<(v.length:Int)) by rw[Bool.eq_iff_iff];simp]
 rcases h1 with⟨a,b,h5,h6⟩|⟨h5,h6⟩
 ·rw[h5,h6]
  cases decide (4<(v.length:Int))<;>rfl
 ·rw[h5,h6]
  cases decide (4<(v.length:Int))<;>rfl
theorem KM (l:Link):uP.f (l,())=dX.f (l,()):=by
 simp only[PX,uP,dX,dr,O1]
theorem mi (l:Link):dX.f (l,())=true↔((0≤l.mac∧l.mac≤281474976710655)∧l.mac≠281474976710655∧(0≤l.ip∧l.ip≤4294967295)∧EO l.cache):=by
 rw[←zM]
 simp only[PX,dX,UK,cb]
 rw[show(l.mac≠281474976710655)↔(l.mac != 281474976710655)=true by simp,show(0≤l.mac∧l.mac≤281474976710655)↔(decide (0≤l.mac)&&decide (l.mac≤281474976710655))=true by simp,show(0≤l.ip∧l.ip≤4294967295)↔(decide (0≤l.ip)&&decide (l.ip≤4294967295))=true by simp]
 cases(decide (0≤l.mac)&&decide (l.mac≤281474976710655))<;>cases(l.mac != 281474976710655)<;>cases(decide (0≤l.ip)&&decide (l.ip≤4294967295))<;>simp
theorem aao (l:Link)(ip:Int)(b:aa):Ay.f (l,ip,b,())=jE.f (l,ip,b,()):=by
 simp only[PX,Ay,jE,aeW,KM,QW,yY]
 cases dX.f (l,())<;>cases(B0.f (l.cache,ip,())).2<;>simp only[Bool.not_true,Bool.not_false,cond_true,cond_false]
theorem rx {T U W:Type}(xs:List T)(F:T→List U){f:Int→List U→Stp (List U) W}(h:∀(j:Nat) x a,xs[j]? =some x→f (j:Int) a= .next (a++F x)):aP f 1 (Int.toNat ((xs.length:Int)-0)) 0 []= .next (xs.flatMap F):=by
 rw[aN,cS xs _ rfl (F:=λ_ x a=> .next (a++F x)) h]
 have key:∀(r:List T) (j:Nat) (a:List U),fP (W:=W) (λ_ x a=> .next (a++F x)) j r a= .next (a++r.flatMap F):=by
  intro r
  induction r with
  |nil=>intro j a;simp[fP]
  |cons x r ih=>
   intro j a
   have:=ih (j+1) (a++F x)
   rw[List.flatMap_cons,←List.append_assoc,←this]
   rfl
 rw[key];simp
theorem MR {S T U W:Type}(xs:List T)(F:T→List U){f:Int→S×List U→Stp (S×List U) W}(h:∀(j:Nat) x a,xs[j]? =some x→∃s,f (j:Int) a= .next (s,a.2++F x))(s0:S):∃s,aP f 1 (Int.toNat ((xs.length:Int)-0)) 0 (s0,[])= .next (s,xs.flatMap F):=by
 rw[aN]
 have key:∀(n j:Nat) (s:S) (l:List U),j+n=xs.length→∃s2,aP f 1 n (j:Int) (s,l)= .next (s2,l++(xs.drop j).flatMap F):=by
  intro n
  induction n with
  |zero=>intro j s l e;exact⟨s,by rw[List.drop_of_length_le (by omega)];simp[aP]⟩
  |succ n ih=>
   intro j s l e
   have hj:j<xs.length:=by omega
   obtain⟨s1,e1⟩:=h j xs[j] (s,l) (List.getElem?_eq_getElem hj)
   obtain⟨s2,e2⟩:=ih (j+1) s1 (l++F xs[j]) (by omega)
   refine⟨s2, ?_⟩
   simp only[aP,e1,Stp.elim]
   rw[show(j:Int)+1=((j+1:Nat):Int) by omega,e2,List.drop_eq_getElem_cons hj]
   simp only[List.flatMap_cons,List.append_assoc]
 obtain⟨s,e⟩:=key xs.length 0 s0 [] (by omega)
 exact⟨s,by simpa using e⟩
def xv (l:Link)(ip:Int)(g:Segm):List aa:=bif cE.f (g,l.ip,ip,())==[]then[]else bif (jE.f (l,ip,cE.f (g,l.ip,ip,()),())).2 then[(jE.f (l,ip,cE.f (g,l.ip,ip,()),())).1]else[]
theorem vS (s:Stac)(ip:Int)(xs:List Segm):rE.f (s,ip,xs,())=xs.flatMap (xv s.link ip):=by
 simp only[PX,rE,j9]
 rw[rx xs (xv s.link ip) (λj x a h=>by
  simp only[PX,y5,af,getD_some h,xv]
  cases(cE.f (x,s.link.ip,ip,())==[])<;>cases(jE.f (s.link,ip,cE.f (x,s.link.ip,ip,()),())).2<;>simp)]
 rfl
theorem Oj (a b n:Int)(ha:ae.f (a,32,())=true)(hb:ae.f (b,32,())=true)(hn:ae.f (n,16,())=true):(ew.f (a,b,n,())==[])=false:=by
 simp only[PX,ew,ha,hb,hn,Bool.not_true,cond_false]
 simp
theorem Kt (g:Segm)(a b:Int)(hg:ak.f (g,())=true)(ha:ae.f (a,32,())=true)(hb:ae.f (b,32,())=true):(cE.f (g,a,b,())==[])=false:=by
 have h1:=adZ g.opts
 have h2:=iI g hg
 have w1:IntKind.wrap .i64 (20+((cF.f (g.opts,())).length:Int))=20+((cF.f (g.opts,())).length:Int):=aq (by omega) (by omega)
 have w2:IntKind.wrap .i64 (20+((cF.f (g.opts,())).length:Int)+(g.body.length:Int))=20+((cF.f (g.opts,())).length:Int)+(g.body.length:Int):=aq (by omega) (by omega)
 have hp:=Oj a b (20+((cF.f (g.opts,())).length:Int)+(g.body.length:Int)) ha hb (by rw[dj];simp;omega)
 simp only[PX,cE,hg,w1,w2,Bool.not_true,cond_false]
 rw[hp,cond_false]
 simp
theorem ac7 (v:List Entr)(ip:Int)(h:(hwN v ip).2=true):∃e∈v,e.ip=ip:=by
 rw[abq,List.any_eq_true]at h
 obtain⟨e,h1,h2⟩:=h
 exact⟨e,h1,by simpa using h2⟩
theorem NT (l:Link)(ip:Int)(b:aa)(h:(jE.f (l,ip,b,())).2=true):dX.f (l,())=true∧(hwN l.cache ip).2=true:=by
 simp only[PX,jE,Al]at h
 revert h
 cases dX.f (l,())<;>cases(hwN l.cache ip).2<;>simp
theorem wY (s:Stac)(ip:Int)(xs:List Segm)(hx:∀g∈xs,ak.f (g,())=true):rm.f (s,ip,xs,())=xs.flatMap (xv s.link ip):=by
 simp only[PX,rm,ki]
 rw[rx xs (xv s.link ip) (λj x a h=>by
  simp only[PX,x8,af,getD_some h,xv,Og,aao]
  cases hk:(jE.f (s.link,ip,cE.f (x,s.link.ip,ip,()),())).2 with
  |false=>cases(cE.f (x,s.link.ip,ip,())==[])<;>simp
  |true=>
   obtain⟨h1,h2⟩:=NT _ _ _ hk
   obtain⟨_,_,h3,h4⟩:=(mi _).1 h1
   obtain⟨e,he,rfl⟩:=ac7 _ _ h2
   have h5:=h4.ok e he
   unfold BB at h5
   rw[Bool.and_eq_true]at h5
   rw[Kt x s.link.ip e.ip (hx x (ke h)) (by rw[cb];simp[h3]) h5.1]
   rfl)]
 rfl
def Jr (v:List Entr):List Entr:=v.flatMap λe=>bif decide (e.age<9)then[({e with age:=e.age+1}:Entr)]else[]
theorem FP {e:Entr}(h:BB e=true):0≤e.age∧e.age≤9:=by
 unfold BB at h
 simp only[Bool.and_eq_true,decide_eq_true_eq]at h
 exact h.2.2
theorem aaB (v:List Entr)(h:EO v):Ql.f (v,())=Jr v:=by
 simp only[PX,Ql,qb]
 rw[rx v (λe:Entr=>bif decide (e.age<9)then[({e with age:=e.age+1}:Entr)]else[]) (λj x a hx=>by
  have ha:=FP (h.ok x (ke hx))
  simp only[PX,Hl,af,getD_some hx]
  rw[aq (m:=x.age+1) (by omega) (by omega),show decide (x.age+1≤9)=decide (x.age<9) from decide_eq_decide.2 (by omega)]
  cases decide (x.age<9)<;>simp)]
 rfl
theorem Zv (v:List Entr)(h:EO v):KW.f (v,())=Jr v:=by
 simp only[PX,KW,pT]
 rw[rx v (λe:Entr=>bif decide (e.age<9)then[({e with age:=e.age+1}:Entr)]else[]) (λj x a hx=>by
  have ha:=FP (h.ok x (ke hx))
  simp only[PX,Ho,af,getD_some hx]
  rw[aq (m:=x.age+1) (by omega) (by omega)]
  cases decide (x.age<9)<;>simp)]
 rfl
theorem PD:∀v:List Entr,((Jr v).map Entr.ip).Sublist (v.map Entr.ip)
 |[]=> .slnil
 |x::r=>by
  have ih:=PD r
  unfold Jr at ih⊢
  rw[List.flatMap_cons]
  cases decide (x.age<9)with
  |true=>exact .cons₂ _ ih
  |false=>exact .cons _ ih
theorem acU (v:List Entr)(h:EO v):EO (Jr v):=by
 have hs:=PD v
 refine⟨?_,List.Nodup.sublist hs h.nd, ?_⟩
 ·intro e he
  unfold Jr at he
  rw[List.mem_flatMap]at he
  obtain⟨x,hx,hy⟩:=he
  have h1:=h.ok x hx
  have h2:=FP h1
  cases hd:decide (x.age<9)with
  |false=>rw[hd]at hy;cases hy
  |true=>
   rw[hd]at hy
   have h3:=of_decide_eq_true hd
   rw[List.mem_singleton.1 hy]
   unfold BB at h1⊢
   simp only[Bool.and_eq_true,decide_eq_true_eq]at h1⊢
   exact⟨h1.1,h1.2.1,by omega,by omega⟩
 ·have:=hs.length_le
  rw[List.length_map,List.length_map]at this
  have:=h.len
  omega
theorem adF (c:Conn)(h:CO c)(hs:be c.r.held):∀g∈(TC c).2,ak.f (g,())=true:=by
 have r0:=h.r0
 have r3:=h.r3
 unfold TC
 by_cases hw:nl.f (c,())=true
 ·rw[if_pos hw]
  by_cases c1:0<lh c-1
  ·rw[if_pos c1];intro g hg;cases hg
  ·rw[if_neg c1]
   by_cases c2:c.state=7
   ·rw[if_pos c2];intro g hg;cases hg
   ·rw[if_neg c2]
    by_cases c3:c.tries=3
    ·rw[if_pos c3]
     intro g hg
     rw[List.mem_singleton.1 hg]
     have h1:=(bq _).1 (Dn c h hs)
     have hfl:(bD.f (c,())).flags=16:=by simp only[PX,bD]
     rw[bq]
     simp only[hfl]
     obtain⟨a,b,s,k,f,w,o,bd⟩:=h1
     exact⟨a,b,s,k,by decide+kernel,w,o,bd⟩
    ·rw[if_neg c3]
     refine FA _ _ ?_ hs
     rw[Md c.s h.snd]
     exact⟨h.tup,aba h.snd,h.rcv,h.opt,h.s1,h.s8,h.m0,h.m1,h.w0,h.w1,Int.le_refl _,by show(0:Int)≤4;omega,λ_=>by show(0:Int)≤3;omega,by show 0≤c.tries+1;omega,by show c.tries+1≤3;omega,h.fl⟩
 ·rw[if_neg hw,if_pos ((qi c).2 h)]
  intro g hg;cases hg
theorem qV (s:Stac):jo.f (s,())=s:=by simp only[PX,jo,mD,gL,kj]
theorem Ae (s:Stac):rk.f (s,())=s:=by simp only[PX,rk,rl,kO,List.nil_append]
theorem vi (s:Stac)(hs:gf s.door):o7.f (s,())=bU.f (s,()):=by simp only[PX,o7,bU,KM,D1 s.door hs]
theorem cH (s:Stac):bU.f (s,())=true↔dX.f (s.link,())=true∧bP.f (s.door,())=true:=by
 simp only[PX,bU]
 cases dX.f (s.link,())<;>simp
def Mw (s:Stac):Stac×List aa:=(⟨⟨s.link.mac,s.link.ip,Jr s.link.cache⟩,{s.door with clock:=bK.f (s.door.clock,1,()),chal:=0,halves:=pS s.door.halves,table:=mh ⟨ex s.door.table.conns,s.door.table.waiting⟩}⟩,s.door.table.conns.flatMap (λc=>(TC c).2.flatMap (xv s.link c.tuple.ip)))
theorem JS (s:Stac)(h:bU.f (s,())=true):tZ.f (s,())=Mw s:=by
 obtain⟨hl,hd⟩:=(cH s).1 h
 have hE:=((mi _).1 hl).2.2.2
 have hD:=(ji _).1 hd
 have t:=hD.tab
 have a2:=t.lim.w2
 have a3:=t.lim.c2
 have a4:=t.nc
 have a5:=t.nw
 have hT:=Ns s.door (λy hy=>(Kz (hD.hal.ok y hy)).2) (λy hy=>(Kz (hD.hal.ok y hy)).1) (by omega) (by omega) hd
 simp only[PX,tZ,qV,h,aaB _ hE,hT,Bool.not_true,cond_false,ik]
 obtain⟨z,e⟩:=MR (Yr s.door.table.conns) (λm=>xv s.link m.ip m.g) (f:=λj a=>(oI s (Yr s.door.table.conns) j a).nice) (λj x a hx=>by
  simp only[PX,oI,af,getD_some hx,vS,List.flatMap_cons,List.flatMap_nil,List.append_nil]
  exact⟨_,rfl⟩) (⟨⟨0,0,[]⟩,⟨0,0,⟨0,⟨false,0,0,[]⟩,⟨false,0,0,[]⟩,false⟩,⟨0,0,0,0⟩,[],⟨[],[]⟩,0⟩⟩:Stac)
 refine(congrArg (Stp.elim _ _) e).trans ?_
 simp only[Stp.elim,Mw]
 congr 1
 unfold Yr
 rw[List.flatMap_assoc]
 congr 1
 funext c
 rw[List.flatMap_map]
theorem Km (s:Stac)(h:bU.f (s,())=true)(hs:gf s.door):tA.f (s,())=Mw s:=by
 obtain⟨hl,hd⟩:=(cH s).1 h
 have hE:=((mi _).1 hl).2.2.2
 have hD:=(ji _).1 hd
 have t:=hD.tab
 have c0:=hD.c0
 have c1:=hD.c1
 have hT:=Nj s.door hs
 rw[hd,cond_true,mG,aq (by omega) (by omega),←bt]at hT
 simp only[PX,tA,Ae,vi s hs,h,Zv _ hE,hT,Bool.not_true,cond_false,iL]
 obtain⟨z,e⟩:=MR s.door.table.conns (λc=>(TC c).2.flatMap (xv s.link c.tuple.ip)) (f:=λj a=>(ou s j a).nice) (λj x a hx=>by
  have hc:=t.co x (ke hx)
  simp only[PX,ou,af,getD_some hx,Bk x (hs x (ke hx)),wY s x.tuple.ip (TC x).2 (adF x hc (hs x (ke hx)))]
  exact⟨_,rfl⟩) (⟨⟨0,0,[]⟩,⟨0,0,⟨0,⟨false,0,0,[]⟩,⟨false,0,0,[]⟩,false⟩,⟨0,0,0,0⟩,[],⟨[],[]⟩,0⟩⟩:Stac)
 refine(congrArg (Stp.elim _ _) e).trans ?_
 simp only[Stp.elim,Mw]
theorem Qv (s:Stac)(h:bU.f (s,())=true):bU.f ((Mw s).1,())=true:=by
 obtain⟨hl,hd⟩:=(cH s).1 h
 obtain⟨h1,h2,h3,hE⟩:=(mi _).1 hl
 exact(cH _).2 ⟨(mi _).2 ⟨h1,h2,h3,acU _ hE⟩,(ji _).2 (acY _ ((ji _).1 hd))⟩
def AH (b:aa):Int:=b.foldl (λn x=>n*256+(x.toNat:Int)) 0
def AQ:Nat→Int→aa
 |0,_=>[]
 |k+1,n=>AQ k (n/256)++[UInt8.ofNat (n%256).toNat]
theorem z4 (b:aa)(x:UInt8):AH (b++[x])=AH b*256+(x.toNat:Int):=by simp[AH]
theorem Q8 {P:aa→Prop}(h0:P [])(h1:∀b x,P b→P (b++[x]))(b:aa):P b:=by
 have key:∀(n:Nat) (b:aa),b.length=n→P b:=by
  intro n
  induction n with
  |zero=>intro b hb;rw[List.eq_nil_of_length_eq_zero hb];exact h0
  |succ n ih=>
   intro b hb
   have hne:b≠[]:=by rintro rfl;simp at hb
   rw[←List.dropLast_concat_getLast hne]
   exact h1 _ _ (ih _ (by rw[List.length_dropLast];omega))
 exact key _ b rfl
theorem acW (b:aa):0≤AH b:=by
 induction b using Q8 with
 |h0=>simp[AH]
 |h1 b x ih=>
  rw[z4];omega
theorem adG (b:aa):AH b<256 ^ b.length:=by
 induction b using Q8 with
 |h0=>simp[AH]
 |h1 b x ih=>
  rw[z4,List.length_append,List.length_singleton,Int.pow_succ]
  have:=qX x
  omega
theorem ac5 (x:UInt8):UInt8.ofNat x.toNat=x:=by simp
theorem Z3 (b:aa):AQ b.length (AH b)=b:=by
 induction b using Q8 with
 |h0=>rfl
 |h1 b x ih=>
  rw[z4,List.length_append,List.length_singleton]
  have hx:=qX x
  have e1:(AH b*256+(x.toNat:Int))/256=AH b:=by omega
  have e2:((AH b*256+(x.toNat:Int))%256).toNat=x.toNat:=by omega
  simp only[AQ,e1,e2,ih,ac5]
theorem NF (k:Nat)(x:Int)(t:List Int):(List.replicate (k+1) (0:Int)++t).set k x=List.replicate k 0++(x::t):=by
 rw[List.replicate_succ',List.append_assoc,List.set_append_right _ _ (by simp)]
 simp
theorem aa4 (n:Int):((UInt8.ofNat (n%256).toNat).toNat:Int)=n%256:=by
 rw[UInt8.toNat_ofNat'];omega
theorem JV (b:aa):aw (eu b)=b:=by
 unfold aw eu
 rw[List.map_map]
 refine(List.map_congr_left (g:=id) λx _=> ?_).trans (List.map_id b)
 simp
theorem VQ {f:Int→Int×List Int→Stp (Int×List Int) Empty}(hf:∀i a,f i a= .next (a.1/256,a.2.set i.toNat (a.1%256))):∀(m:Nat) (n:Int) (t:List Int),∃n',aP f (-1) m ((m:Int)-1) (n,List.replicate m 0++t)= .next (n',eu (AQ m n)++t)
 |0,n,t=>⟨n,by simp[aP,AQ,eu]⟩
 |m+1,n,t=>by
  obtain⟨n',ih⟩:=VQ hf m (n/256) (n%256::t)
  refine⟨n', ?_⟩
  have e1:((m+1:Nat):Int)-1=(m:Int):=by omega
  simp only[aP,hf,Stp.elim,e1,af,NF]
  rw[show(m:Int)+ -1=(m:Int)-1 by omega,ih]
  simp only[AQ,eu,List.map_append,List.map_cons,List.map_nil,aa4,List.append_assoc,List.cons_append,List.nil_append]
theorem gu (n sz:Int)(h1:1≤sz)(h6:sz≤6)(h:ae.f (n,8*sz,())=true):aA.f (n,sz,())=AQ sz.toNat n:=by
 have hw:IntKind.wrap .i64 (8*sz)=8*sz:=aq (by omega) (by omega)
 obtain⟨n',e⟩:=VQ (f:=λj a=>(dP j a).nice) (λi a=>by
  simp only[PX,dP,rz]
  rw[Int.fdiv_eq_ediv_of_nonneg _ (by omega)]) sz.toNat n []
 rw[List.append_nil,List.append_nil]at e
 have e1:IntKind.wrap .i64 (sz-1)=(sz.toNat:Int)-1:=by rw[aq (by omega) (by omega)];omega
 have e2:Int.toNat (((sz.toNat:Int)-1)-0+1)=sz.toNat:=by omega
 simp only[PX,aA,au,eL,hw,h,decide_eq_true h1,decide_eq_true h6,Bool.and_self,Bool.not_true,cond_false,e1,e2]
 refine(congrArg (Stp.elim _ _) e).trans ?_
 simp only[Stp.elim,JV]
def gw (s:aa)(p n:Nat):Int:=AH ((s.drop p).take n)
theorem abO {s:aa}{p n:Nat}(h:p+n≤s.length):((s.drop p).take n).length=n:=by
 rw[List.length_take,List.length_drop];omega
theorem acM {s:aa}{p n:Nat}(h:p+n≤s.length):0≤gw s p n∧gw s p n<256 ^ n:=by
 refine⟨acW _, ?_⟩
 have:=adG ((s.drop p).take n)
 rwa [abO h]at this
theorem tJ {s:aa}{p n:Nat}(h:p+n≤s.length):AQ n (gw s p n)=(s.drop p).take n:=by
 have:=Z3 ((s.drop p).take n)
 rwa [abO h]at this
theorem K1 (s:aa)(p:Nat){f:Int→Int→Stp Int Empty}(hf:∀(j:Nat) (a:Int),p+j<s.length→0≤a→a<1099511627776→f (j:Int) a= .next (a*256+ai s (p+j))):∀(m j:Nat),j+m≤6→p+j+m≤s.length→aP f 1 m (j:Int) (AH ((s.drop p).take j))= .next (AH ((s.drop p).take (j+m)))
 |0,j,_,_=>rfl
 |m+1,j,h1,h2=>by
  have hr:=acM (s:=s) (p:=p) (n:=j) (by omega)
  unfold gw at hr
  have hj:(256:Int) ^ j≤1099511627776:=by
   rcases(show j=0∨j=1∨j=2∨j=3∨j=4∨j=5 by omega)with rfl|rfl|rfl|rfl|rfl|rfl<;>decide
  have hp:p+j<s.length:=by omega
  have e:(s.drop p).take (j+1)=(s.drop p).take j++[s[p+j]]:=by
   rw[List.take_succ_eq_append_getElem (by rw[List.length_drop];omega),List.getElem_drop]
  simp only[aP]
  rw[hf j _ (by omega) hr.1 (by omega)]
  simp only[Stp.elim]
  rw[jH s (p+j) hp,←z4,←e,show(j:Int)+1=((j+1:Nat):Int) by omega,K1 s p hf m (j+1) (by omega) (by omega),show j+1+m=j+(m+1) by omega]
theorem afs (a b:Int)(h0:0≤a)(h1:a<1099511627776)(h2:0≤b)(h3:b≤255):bits .or .i64 (a*256) b=a*256+b:=by
 obtain⟨x,rfl⟩:=Int.eq_ofNat_of_zero_le h0
 obtain⟨y,rfl⟩:=Int.eq_ofNat_of_zero_le h2
 have key:(BitVec.ofInt 64 ((x:Int)*256)|||BitVec.ofInt 64 (y:Int)).toNat=x*256+y:=by
  rw[BitVec.toNat_or,BitVec.toNat_ofInt,BitVec.toNat_ofInt,show((x:Int)*256%((2 ^ 64:Nat):Int)).toNat=x*256 by omega,show((y:Int)%((2 ^ 64:Nat):Int)).toNat=y by omega,show x*256=x<<<8 by rw[Nat.shiftLeft_eq],Nat.shiftLeft_add_eq_or_of_lt (by omega)]
 show IntKind.i64.wrap ((BitVec.ofInt 64 ((x:Int)*256)|||BitVec.ofInt 64 (y:Int)).toNat:Nat)=_
 rw[key,di]
 omega
theorem Rc (s:aa)(p n:Nat)(h1:1≤n)(h6:n≤6)(hp:p+n≤s.length)(hs:s.length≤4294967296):Az.f (s,(p:Int),(n:Int),())=(gw s p n,true):=by
 have e:=K1 s p (f:=λj a=>(rX s (p:Int) j a).nice) (λj a h ha hb=>by
  have:=gK s (p+j)
  simp only[PX,rX]
  rw[aq (m:=(p:Int)+(j:Int)) (by omega) (by omega),show((p:Int)+(j:Int)).toNat=p+j by omega,aq (m:=ai s (p+j)) (by omega) (by omega),aq (m:=a*256) (by omega) (by omega),afs a _ ha hb (by omega) (by omega)]) n 0 (by omega) (by omega)
 rw[Nat.zero_add]at e
 have c1:(decide ((1:Int)≤(n:Int))&&decide ((n:Int)≤6))=true:=by simp;omega
 have c2:decide ((p:Int)<0)=false:=by simp
 have c3:decide (IntKind.wrap .i64 ((s.length:Int)-(n:Int))<(p:Int))=false:=by rw[aq (by omega) (by omega)];simp;omega
 simp only[PX,Az,au,nk,c1,c2,c3,Bool.not_true,cond_false,aN]
 refine(congrArg (Stp.elim _ _) e).trans ?_
 simp only[Stp.elim,gw]
theorem bF (s:aa)(p n:Nat)(h1:1≤n)(h6:n≤6)(hp:p+n≤s.length)(hs:s.length≤4294967296):bR.f (s,(p:Int),(n:Int),())=(gw s p n,true):=by
 have e:=K1 s p (f:=λj a=>(rJ s (p:Int) j a).nice) (λj a h ha hb=>by
  have:=gK s (p+j)
  simp only[PX,rJ]
  rw[aq (m:=(p:Int)+(j:Int)) (by omega) (by omega),show((p:Int)+(j:Int)).toNat=p+j by omega,aq (m:=ai s (p+j)) (by omega) (by omega),aq (m:=256*a) (by omega) (by omega),aq (by omega) (by omega),Int.mul_comm]) n 0 (by omega) (by omega)
 rw[Nat.zero_add]at e
 have c1:(decide ((1:Int)≤(n:Int))&&decide ((n:Int)≤6))=true:=by simp;omega
 have c3:(decide ((0:Int)≤(p:Int))&&decide ((p:Int)≤(IntKind.wrap .i64 ((s.length:Int)-(n:Int)))))=true:=by rw[aq (by omega) (by omega)];simp;omega
 simp only[PX,bR,bH,n9,c1,c3,Bool.not_true,cond_false,aN]
 refine(congrArg (Stp.elim _ _) e).trans ?_
 simp only[Stp.elim,gw]
theorem cC (s:aa)(p n:Nat)(h1:1≤n)(h6:n≤6)(hp:p+n≤s.length)(hs:s.length≤4294967296):em.f (s,(p:Int),(n:Int),())=gw s p n:=by
 simp only[PX,em,Rc s p n h1 h6 hp hs]
theorem LY (v:aa)(hv:v.length≤4294967296):rR.f (v,())=ml.f (v,()):=by
 simp only[PX,rR,ml,Q0 v hv]
theorem ae8 (a:Int)(h0:0≤a)(h1:a≤255):(bits .and .u8 a 191 != 0)= !(a==0||a==64):=by
 obtain⟨x,rfl⟩:=Int.eq_ofNat_of_zero_le h0
 have key:∀y:Fin 256,(bits .and .u8 ((y.val:Nat):Int) 191 != 0)= !(((y.val:Nat):Int)==0||((y.val:Nat):Int)==64):=by decide+kernel
 exact key ⟨x,by omega⟩
theorem afP (n:Int)(h0:0≤n)(h1:n≤65535):(bits .andNot .i64 n 16384 != 0)= !(n==0||n==16384):=by
 obtain⟨x,rfl⟩:=Int.eq_ofNat_of_zero_le h0
 by_cases c:x=0∨x=16384
 ·rcases c with rfl|rfl<;>decide+kernel
 ·have hx:((x:Int)==0||(x:Int)==16384)=false:=by simp;omega
  rw[hx,Bool.not_false,bne_iff_ne]
  intro he
  have h2:IntKind.i64.wrap (((BitVec.ofInt 64 (x:Int))&&& ~~~(BitVec.ofInt 64 16384)).toNat:Nat)=0:=he
  have e0:BitVec.ofInt 64 (x:Int)=BitVec.ofNat 64 x:=by
   apply BitVec.eq_of_toNat_eq;rw[BitVec.toNat_ofInt,BitVec.toNat_ofNat];omega
  rw[e0]at h2
  have h3:(BitVec.ofNat 64 x)&&& ~~~(BitVec.ofInt 64 16384)=0#64:=by
   apply BitVec.eq_of_toNat_eq
   have:=((BitVec.ofNat 64 x)&&& ~~~(BitVec.ofInt 64 16384)).isLt
   rw[di]at h2
   simp only[BitVec.toNat_ofNat]
   omega
  have h4:(BitVec.ofNat 64 x)=(BitVec.ofNat 64 x)&&& 16384#64:=by
   ext i hi
   have:=congrArg (λb=>b.getLsbD i) h3
   simp only[BitVec.getLsbD_and,BitVec.getLsbD_not,hi,decide_true,Bool.true_and,BitVec.getLsbD_zero]at this
   rw[BitVec.getElem_and]
   have e:(BitVec.ofInt 64 16384).getLsbD i=(16384#64).getLsbD i:=rfl
   rw[e]at this
   rw[←BitVec.getLsbD_eq_getElem,←BitVec.getLsbD_eq_getElem]
   revert this
   cases(BitVec.ofNat 64 x).getLsbD i<;>cases(16384#64).getLsbD i<;>simp
  have h5:=congrArg BitVec.toNat h4
  rw[BitVec.toNat_and,BitVec.toNat_ofNat,BitVec.toNat_ofNat,Nat.mod_eq_of_lt (by omega),show 16384%2 ^ 64=2 ^ 14 from rfl]at h5
  have h6:x≤2 ^ 14:=by rw[h5];exact Nat.and_le_right
  have h7:x<2 ^ 14:=by omega
  have h8:x&&& 2 ^ 14=0:=by
   apply Nat.eq_of_testBit_eq
   intro i
   rw[Nat.testBit_and,Nat.testBit_two_pow,Nat.zero_testBit]
   by_cases hi:14=i
   ·subst hi;rw[Nat.testBit_lt_two_pow h7];rfl
   ·simp[hi]
  omega
theorem bv2 (a b:UInt8):AH [a,b]=(a.toNat:Int)*256+b.toNat:=by simp[AH]
theorem gw2 (s:aa)(p:Nat)(h:p+2≤s.length):gw s p 2=ai s p*256+ai s (p+1):=by
 rw[jH s p (by omega),jH s (p+1) (by omega),gw,List.drop_eq_getElem_cons (by omega),List.drop_eq_getElem_cons (i:=p+1) (by omega)]
 simp only[List.take_succ_cons,List.take_zero,bv2]
def bN (s:aa):Fram×Bool:=if s.length<14 then(⟨0,0,0,[]⟩,false)else bif gk.f (⟨gw s 0 6,gw s 6 6,gw s 12 2,s.drop 14⟩,())then(⟨gw s 0 6,gw s 6 6,gw s 12 2,s.drop 14⟩,true)else(⟨0,0,0,[]⟩,false)
theorem Uf {α:Type}(s:List α):s.take ((s.length:Int).toNat)=s:=by rw[af,List.take_length]
theorem nA (s:aa)(hs:s.length≤4294967296):mB.f (s,())=bN s:=by
 unfold bN
 by_cases h:s.length<14
 ·rw[if_pos h]
  simp only[PX,mB,decide_eq_true (show(s.length:Int)<14 by omega),cond_true]
 ·rw[if_neg h]
  have w1:=cC s 0 6 (by omega) (by omega) (by omega) hs
  have w2:=cC s 6 6 (by omega) (by omega) (by omega) hs
  have w3:=cC s 12 2 (by omega) (by omega) (by omega) hs
  simp only[Int.ofNat_zero,Int.cast_ofNat_Int]at w1 w2 w3
  simp only[PX,mB,decide_eq_false (show¬(s.length:Int)<14 by omega),cond_false,w1,w2,w3,Uf]
  cases gk.f (⟨gw s 0 6,gw s 6 6,gw s 12 2,s.drop 14⟩,())<;>rfl
theorem Vo (f:Fram):gk.f (f,())=true↔ae.f (f.dst,48,())=true∧ae.f (f.src,48,())=true∧1536≤f.type∧f.type≤65535∧f.body.length≤1586:=by
 simp only[PX,gk,au]
 cases ae.f (f.dst,48,())<;>cases ae.f (f.src,48,())<;>simp<;>omega
theorem KT (f:Fram)(h:gk.f (f,())=true):gm.f (f,())=AQ 6 f.dst++AQ 6 f.src++AQ 2 f.type++f.body:=by
 obtain⟨h1,h2,h3,h4,h5⟩:=(Vo f).1 h
 have p1:=gu f.dst 6 (by omega) (by omega) h1
 have p2:=gu f.src 6 (by omega) (by omega) h2
 have p3:=gu f.type 2 (by omega) (by omega) (by rw[show(8:Int)*2=16 from rfl,dj];simp;omega)
 simp only[PX,gm,h,p1,p2,p3,Bool.not_true,cond_false]
 rfl
theorem afU (s:aa)(h:14≤s.length):(s.drop 0).take 6++(s.drop 6).take 6++(s.drop 12).take 2++s.drop 14=s:=by
 rw[List.drop_zero,List.append_assoc,List.append_assoc,show s.drop 14=(s.drop 12).drop 2 by rw[List.drop_drop],List.take_append_drop,show s.drop 12=(s.drop 6).drop 6 by rw[List.drop_drop],List.take_append_drop,List.take_append_drop]
theorem rT (s:aa)(hs:s.length≤4294967296):mL.f (s,())=bN s:=by
 unfold bN
 by_cases h:s.length<14
 ·rw[if_pos h]
  simp only[PX,mL,decide_eq_true (show(s.length:Int)<14 by omega),cond_true]
 ·rw[if_neg h]
  have w1:=bF s 0 6 (by omega) (by omega) (by omega) hs
  have w2:=bF s 6 6 (by omega) (by omega) (by omega) hs
  have w3:=bF s 12 2 (by omega) (by omega) (by omega) hs
  simp only[Int.ofNat_zero,Int.cast_ofNat_Int]at w1 w2 w3
  simp only[PX,mL,decide_eq_false (show¬(s.length:Int)<14 by omega),cond_false,w1,w2,w3,Uf,yY]
  rcases Bool.eq_false_or_eq_true (gk.f (⟨gw s 0 6,gw s 6 6,gw s 12 2,s.drop 14⟩,()))with ho|ho
  ·rw[KT _ ho,ho]
   simp only[]
   rw[tJ (by omega),tJ (by omega),tJ (by omega),afU s (by omega),beq_self_eq_true,Bool.not_true,cond_false,cond_true]
  ·have e:gm.f (⟨gw s 0 6,gw s 6 6,gw s 12 2,s.drop 14⟩,())=[]:=by simp only[PX,gm,ho,Bool.not_false,cond_true]
   have e2:(([]:aa)==s)=false:=by
    cases s with
    |nil=>simp at h
    |cons a r=>rfl
   rw[e,ho,e2,Bool.not_false,cond_true,cond_false]
def zP:Pack:=⟨0,0,0,0,0,[]⟩
def dm (s:aa):Pack×Int:=
 bif decide (s.length<20)then(zP,1)else bif ai s 0 != 69 then(zP,2)else bif !ml.f (s.take 20,())then(zP,3)else
 bif (decide (gw s 2 2<20)||(decide ((s.length:Int)<gw s 2 2)||decide (1500<gw s 2 2)))then(zP,4)else bif !(gw s 6 2==0||gw s 6 2==16384)then(zP,5)else bif ai s 8==0 then(zP,6)else
 (⟨gw s 12 4,gw s 16 4,ai s 8,ai s 9,gw s 4 2,(s.take (gw s 2 2).toNat).drop 20⟩,0)
theorem G5 (s:aa)(k:Nat):IntKind.wrap .i64 (ai s k)=ai s k:=by
 have:=gK s k
 exact aq (by omega) (by omega)
theorem lO (s:aa)(hs:s.length≤4294967296):lf.f (s,())=dm s:=by
 unfold dm
 by_cases h:s.length<20
 ·rw[decide_eq_true h,cond_true]
  simp only[PX,lf,decide_eq_true (show(s.length:Int)<20 by omega),cond_true,zP]
 ·rw[decide_eq_false h,cond_false]
  have w1:=cC s 2 2 (by omega) (by omega) (by omega) hs
  have w2:=cC s 6 2 (by omega) (by omega) (by omega) hs
  have w3:=cC s 12 4 (by omega) (by omega) (by omega) hs
  have w4:=cC s 16 4 (by omega) (by omega) (by omega) hs
  have w5:=cC s 4 2 (by omega) (by omega) (by omega) hs
  simp only[Int.cast_ofNat_Int]at w1 w2 w3 w4 w5
  have r6:=acM (s:=s) (p:=6) (n:=2) (by omega)
  have a6:=afP (gw s 6 2) r6.1 (by have:=r6.2;omega)
  simp only[PX,lf,decide_eq_false (show¬(s.length:Int)<20 by omega),cond_false,w1,w2,w3,w4,w5,G5,a6,List.drop_zero,zP]
  cases decide (gw s 2 2<20)<;>cases decide ((s.length:Int)<gw s 2 2)<;>simp only[cond_true,cond_false,Bool.true_or,Bool.false_or]
theorem ql (s:aa)(hs:s.length≤4294967296):kY.f (s,())=dm s:=by
 unfold dm
 by_cases h:s.length<20
 ·rw[decide_eq_true h,cond_true]
  simp only[PX,kY,decide_eq_true (show(s.length:Int)<20 by omega),cond_true,zP]
 ·rw[decide_eq_false h,cond_false]
  have w1:=bF s 2 2 (by omega) (by omega) (by omega) hs
  have w3:=bF s 12 4 (by omega) (by omega) (by omega) hs
  have w4:=bF s 16 4 (by omega) (by omega) (by omega) hs
  have w5:=bF s 4 2 (by omega) (by omega) (by omega) hs
  simp only[Int.cast_ofNat_Int]at w1 w3 w4 w5
  have b6:=gK s 6
  have b7:=gK s 7
  have e6:=gw2 s 6 (by omega)
  have a6:=ae8 (ai s 6) b6.1 b6.2
  have e1:(!(decide (20≤gw s 2 2)&&decide (gw s 2 2≤if(s.length:Int)<1500 then(s.length:Int)else 1500)))=(decide (gw s 2 2<20)||(decide ((s.length:Int)<gw s 2 2)||decide (1500<gw s 2 2))):=by
   rw[Bool.eq_iff_iff];simp;split<;>omega
  have e2:(bif !(ai s 6==0||ai s 6==64)then true else ai s 7 != 0)= !(gw s 6 2==0||gw s 6 2==16384):=by
   rw[e6,Bool.eq_iff_iff]
   cases h6:(ai s 6==0||ai s 6==64)<;>simp at h6⊢<;>omega
  have hq:=LY (s.take 20) (by rw[List.length_take];omega)
  simp only[PX,kY,decide_eq_false (show¬(s.length:Int)<20 by omega),cond_false,w1,w3,w4,w5,G5,a6,kA,bH,e1,hq,List.drop_zero,zP]
  rw[←e2]
  cases(!(ai s 6==0||ai s 6==64))<;>rfl
def zA:Arpm:=⟨0,0,0,0,0⟩
def gwA (s:aa):Arpm:=⟨gw s 6 2,gw s 8 6,gw s 14 4,gw s 18 6,gw s 24 4⟩
def PE (s:aa):Arpm×Bool:=
 bif decide (s.length<28)then(zA,false)else bif !(s.take 6==[0,1,8,0,6,4])then(zA,false)else bif !nm.f (gwA s,())then(zA,false)else(gwA s,true)
theorem CN (s:aa)(hs:s.length≤4294967296):vo.f (s,())=PE s:=by
 unfold PE
 by_cases h:s.length<28
 ·rw[decide_eq_true h,cond_true]
  simp only[PX,vo,decide_eq_true (show(s.length:Int)<28 by omega),cond_true,zA]
 ·rw[decide_eq_false h,cond_false]
  have w1:=cC s 6 2 (by omega) (by omega) (by omega) hs
  have w2:=cC s 8 6 (by omega) (by omega) (by omega) hs
  have w3:=cC s 14 4 (by omega) (by omega) (by omega) hs
  have w4:=cC s 18 6 (by omega) (by omega) (by omega) hs
  have w5:=cC s 24 4 (by omega) (by omega) (by omega) hs
  simp only[Int.cast_ofNat_Int]at w1 w2 w3 w4 w5
  simp only[PX,vo,decide_eq_false (show¬(s.length:Int)<28 by omega),cond_false,w1,w2,w3,w4,w5,List.drop_zero,zA,gwA]
theorem YF (a:Arpm):Db.f (a,())=nm.f (a,()):=by
 simp only[PX,Db,nm,dr,bH,au]
theorem OL (a:Arpm):rq.f (a,())=kP.f (a,()):=by
 simp only[PX,rq,kP,YF,oE]
theorem Ws (a:Arpm)(m ip:Int):vx.f (a,m,ip,())=oD.f (a,m,ip,()):=by
 simp only[PX,vx,oD,YF]
theorem ZQ (a:Arpm):nm.f (a,())=true↔(1≤a.kind∧a.kind≤2)∧ae.f (a.srcHw,48,())=true∧ae.f (a.dstHw,48,())=true∧ae.f (a.srcIp,32,())=true∧ae.f (a.dstIp,32,())=true:=by
 simp only[PX,nm,au]
 cases ae.f (a.srcHw,48,())<;>cases ae.f (a.dstHw,48,())<;>cases ae.f (a.srcIp,32,())<;>cases ae.f (a.dstIp,32,())<;>simp
theorem Ra (a:Arpm)(h:nm.f (a,())=true):kP.f (a,())=[0,1,8,0,6,4]++AQ 2 a.kind++AQ 6 a.srcHw++AQ 4 a.srcIp++AQ 6 a.dstHw++AQ 4 a.dstIp:=by
 obtain⟨h1,h2,h3,h4,h5⟩:=(ZQ a).1 h
 have p1:=gu a.kind 2 (by omega) (by omega) (by rw[show(8:Int)*2=16 from rfl,dj];simp;omega)
 have p2:=gu a.srcHw 6 (by omega) (by omega) h2
 have p3:=gu a.srcIp 4 (by omega) (by omega) h4
 have p4:=gu a.dstHw 6 (by omega) (by omega) h3
 have p5:=gu a.dstIp 4 (by omega) (by omega) h5
 simp only[PX,kP,h,p1,p2,p3,p4,p5,Bool.not_true,cond_false]
 rfl
theorem afK (s:aa):s.take 6++(s.drop 6).take 2++(s.drop 8).take 6++(s.drop 14).take 4++(s.drop 18).take 6++(s.drop 24).take 4=s.take 28:=by
 rw[show 28=24+4 from rfl,List.take_add,show 24=18+6 from rfl,List.take_add,show 18=14+4 from rfl,List.take_add,show 14=8+6 from rfl,List.take_add,show 8=6+2 from rfl,List.take_add]
theorem Q6 (s:aa)(hs:s.length≤4294967296):vg.f (s,())=PE s:=by
 unfold PE
 by_cases h:s.length<28
 ·rw[decide_eq_true h,cond_true]
  simp only[PX,vg,decide_eq_true (show(s.length:Int)<28 by omega),cond_true,zA]
 ·rw[decide_eq_false h,cond_false]
  have w1:=bF s 6 2 (by omega) (by omega) (by omega) hs
  have w2:=bF s 8 6 (by omega) (by omega) (by omega) hs
  have w3:=bF s 14 4 (by omega) (by omega) (by omega) hs
  have w4:=bF s 18 6 (by omega) (by omega) (by omega) hs
  have w5:=bF s 24 4 (by omega) (by omega) (by omega) hs
  simp only[Int.cast_ofNat_Int]at w1 w2 w3 w4 w5
  have hg:(⟨gw s 6 2,gw s 8 6,gw s 14 4,gw s 18 6,gw s 24 4⟩:Arpm)=gwA s:=rfl
  simp only[PX,vg,decide_eq_false (show¬(s.length:Int)<28 by omega),cond_false,w1,w2,w3,w4,w5,List.drop_zero,zA,hg,OL]
  rcases Bool.eq_false_or_eq_true (nm.f (gwA s,()))with ho|ho
  ·have e:(kP.f (gwA s,())==s.take 28)=(s.take 6==[0,1,8,0,6,4]):=by
    rw[Ra _ ho,←afK s]
    simp only[gwA]
    rw[tJ (by omega),tJ (by omega),tJ (by omega),tJ (by omega),tJ (by omega),Bool.eq_iff_iff,beq_iff_eq,beq_iff_eq]
    constructor
    ·intro he
     simp only[List.append_assoc]at he
     exact(List.append_inj he (by simp;omega)).1.symm
    ·intro he;rw[he]
   rw[e,ho]
   cases(s.take 6==[0,1,8,0,6,4])<;>rfl
  ·have e:kP.f (gwA s,())=[]:=by simp only[PX,kP,ho,Bool.not_false,cond_true]
   have e2:(([]:aa)==s.take 28)=false:=by
    cases s with
    |nil=>simp at h
    |cons a r=>rfl
   rw[e,ho,e2,Bool.not_false,cond_true]
   cases(s.take 6==[0,1,8,0,6,4])<;>rfl
theorem BO {A W V:Type}[Inhabited W][Inhabited V]{f:A→Stp A W}{g:A→Stp A V}{h:W→V}{Inv:A→Prop}{meas:A→Nat}(hs:∀a,Inv a→(∃a',f a= .next a'∧g a= .next a'∧Inv a'∧meas a'<meas a)∨(∃w,f a= .out w∧g a= .out (h w))):∀(m:Nat) (a:A),meas a<m→Inv a→h (cl f m a)=cl g m a
 |0,_,hm,_=>absurd hm (Nat.not_lt_zero _)
 |m+1,a,hm,hi=>by
  simp only[cl]
  rcases hs a hi with⟨a',e1,e2,e3,e4⟩|⟨w,e1,e2⟩
  ·rw[e1,e2]
   exact BO hs m a' (by omega) e3
  ·rw[e1,e2];rfl
def wW:Opti:=⟨0,-1,false,false,0,0⟩
def Z4 (v:aa)(p:Nat)(o:Opti):Opti:=
 bif ai v p==2&&ai v (p+1)==4 then{o with mss:=gw v (p+2) 2}else bif ai v p==3&&ai v (p+1)==3 then{o with scale:=if 14<ai v (p+2)then 14 else ai v (p+2)}else
 bif ai v p==4&&ai v (p+1)==2 then{o with sack:=true}else bif ai v p==8&&ai v (p+1)==10 then{o with stamp:=true,val:=gw v (p+2) 4,echo:=gw v (p+6) 4}else o
def ey (v:aa)(a:Int×Opti):Stp (Int×Opti) (Opti×Bool):=
 bif !decide (a.1<(v.length:Int))then .out (a.2,true)else bif ai v a.1.toNat==0 then .out (a.2,true)else bif ai v a.1.toNat==1 then .next (a.1+1,a.2)else
 bif decide ((v.length:Int)≤a.1+1)||(decide (ai v (a.1.toNat+1)<2)||decide ((v.length:Int)-a.1<ai v (a.1.toNat+1)))then .out (wW,false)else .next (a.1+ai v (a.1.toNat+1),Z4 v a.1.toNat a.2)
def ac1 (v:aa)(a:Int×Opti):Opti×Bool:=cl (ey v) (Int.toNat ((v.length:Int)-a.1)+1) a
theorem Gp (v:aa)(a:Int×Opti)(h:0≤a.1)(a':Int×Opti)(e:ey v a= .next a'):0≤a'.1∧Int.toNat ((v.length:Int)-a'.1)<Int.toNat ((v.length:Int)-a.1):=by
 unfold ey at e
 by_cases h1:a.1<(v.length:Int)
 case neg=>rw[decide_eq_false h1]at e;cases e
 rw[decide_eq_true h1,Bool.not_true,cond_false]at e
 cases h2:(ai v a.1.toNat==0)with
 |true=>rw[h2]at e;cases e
 |false=>
  rw[h2,cond_false]at e
  cases h3:(ai v a.1.toNat==1)with
  |true=>rw[h3,cond_true]at e;cases e;simp only[];omega
  |false=>
   rw[h3,cond_false]at e
   cases h4:(decide ((v.length:Int)≤a.1+1)||(decide (ai v (a.1.toNat+1)<2)||decide ((v.length:Int)-a.1<ai v (a.1.toNat+1))))with
   |true=>rw[h4]at e;cases e
   |false=>
    rw[h4,cond_false]at e
    cases e
    simp at h4
    simp only[];omega
theorem Fe (v:aa)(hv:v.length≤4294967296):lx.f (v,())=ac1 v (0,wW):=by
 have key:=BO (f:=λa=>(cY v a).nice) (g:=ey v) (h:=Sum.elim (λo=>(o,true)) (λp=>(p.1,false))) (Inv:=λa:Int×Opti=>0≤a.1) (meas:=λa=>Int.toNat ((v.length:Int)-a.1)) (λa ha=>by
  have ha:0≤a.1:=ha
  by_cases h1:a.1<(v.length:Int)
  case neg=>refine .inr ⟨.inl a.2, ?_, ?_⟩<;>simp only[PX,cY,ey,decide_eq_false h1,cond_false,Bool.not_false,cond_true,Sum.elim_inl]
  have w1:IntKind.wrap .i64 (a.1+1)=a.1+1:=aq (by omega) (by omega)
  have w2:IntKind.wrap .i64 (a.1+2)=a.1+2:=aq (by omega) (by omega)
  have w6:IntKind.wrap .i64 (a.1+6)=a.1+6:=aq (by omega) (by omega)
  have wl:IntKind.wrap .i64 ((v.length:Int)-a.1)=(v.length:Int)-a.1:=aq (by omega) (by omega)
  have t1:(a.1+1).toNat=a.1.toNat+1:=by omega
  have t2:(a.1+2).toNat=a.1.toNat+2:=by omega
  have b1:=gK v (a.1.toNat+1)
  have wb:IntKind.wrap .i64 (a.1+ai v (a.1.toNat+1))=a.1+ai v (a.1.toNat+1):=aq (by omega) (by omega)
  have hst:=Gp v a ha
  have eN:bV.f ()=wW:=by simp only[PX,bV,wW]
  cases h2:(ai v a.1.toNat==0)with
  |true=>refine .inr ⟨.inl a.2, ?_, ?_⟩<;>simp only[PX,cY,ey,decide_eq_true h1,h2,cond_false,Bool.not_true,cond_true,Sum.elim_inl]
  |false=>
   cases h3:(ai v a.1.toNat==1)with
   |true=>
    have e:ey v a= .next (a.1+1,a.2):=by simp only[ey,decide_eq_true h1,h2,h3,cond_false,Bool.not_true,cond_true]
    refine .inl ⟨_, ?_,e,hst _ e⟩
    simp only[PX,cY,decide_eq_true h1,h2,h3,cond_false,cond_true,w1]
   |false=>
    cases h4:(decide ((v.length:Int)≤a.1+1)||(decide (ai v (a.1.toNat+1)<2)||decide ((v.length:Int)-a.1<ai v (a.1.toNat+1))))with
    |true=>
     have e:ey v a= .out (wW,false):=by simp only[ey,decide_eq_true h1,h2,h3,h4,cond_false,Bool.not_true,cond_true]
     refine .inr ⟨.inr (wW,a.2), ?_,e⟩
     revert h4
     simp only[PX,cY,decide_eq_true h1,h2,h3,cond_false,cond_true,w1,wl,t1,G5,eN]
     cases decide ((v.length:Int)≤a.1+1)<;>cases decide (ai v (a.1.toNat+1)<2)<;>cases decide ((v.length:Int)-a.1<ai v (a.1.toNat+1))<;>intro h4<;>first|rfl|cases h4
    |false=>
     have e:ey v a= .next (a.1+ai v (a.1.toNat+1),Z4 v a.1.toNat a.2):=by simp only[ey,decide_eq_true h1,h2,h3,h4,cond_false,Bool.not_true,cond_true]
     refine .inl ⟨_, ?_,e,hst _ e⟩
     simp only[Bool.or_eq_false_iff,decide_eq_false_iff_not]at h4
     obtain⟨h5,h6,h7⟩:=h4
     simp only[PX,cY,decide_eq_true h1,h2,h3,cond_false,cond_true,w1,w2,w6,wl,t1,t2,G5,decide_eq_false h5,decide_eq_false h6,decide_eq_false h7,wb,Z4]
     have g2:(ai v a.1.toNat==2&&ai v (a.1.toNat+1)==4)=true→em.f (v,a.1+2,2,())=gw v (a.1.toNat+2) 2:=λhh=>by
      simp at hh
      have:=cC v (a.1.toNat+2) 2 (by omega) (by omega) (by omega) hv
      rw[show((a.1.toNat+2:Nat):Int)=a.1+2 by omega]at this
      exact this
     have g8:(ai v a.1.toNat==8&&ai v (a.1.toNat+1)==10)=true→em.f (v,a.1+2,4,())=gw v (a.1.toNat+2) 4∧em.f (v,a.1+6,4,())=gw v (a.1.toNat+6) 4:=λhh=>by
      simp at hh
      have k1:=cC v (a.1.toNat+2) 4 (by omega) (by omega) (by omega) hv
      have k2:=cC v (a.1.toNat+6) 4 (by omega) (by omega) (by omega) hv
      rw[show((a.1.toNat+2:Nat):Int)=a.1+2 by omega]at k1
      rw[show((a.1.toNat+6:Nat):Int)=a.1+6 by omega]at k2
      exact⟨k1,k2⟩
     revert g2 g8
     cases(ai v a.1.toNat==2)<;>cases(ai v (a.1.toNat+1)==4)<;>cases(ai v a.1.toNat==3)<;>cases(ai v (a.1.toNat+1)==3)<;>cases(ai v a.1.toNat==4)<;>cases(ai v (a.1.toNat+1)==2)<;>cases(ai v a.1.toNat==8)<;>cases(ai v (a.1.toNat+1)==10)<;>intro g2 g8<;>simp only[Bool.and_true,Bool.and_false,Bool.false_and,Bool.true_and,cond_true,cond_false]<;>first|rfl|(rw[g2 rfl])|(rw[(g8 rfl).1,(g8 rfl).2])) (Int.toNat ((v.length:Int)-0)+1) (0,wW) (by simp) (by simp)
 have eN:bV.f ()=wW:=by simp only[PX,bV,wW]
 simp only[PX,lx,je,eN]
 rw[ac1,←key]
 cases cl (λa=>(cY v a).nice) (Int.toNat ((v.length:Int)-0)+1) (0,wW)<;>rfl
theorem S7 (v:aa)(e p k:Nat)(h:p+k<e):ai ((v.take e).drop p) k=ai v (p+k):=by
 simp[ai,List.getD,List.getElem?_drop,List.getElem?_take,h]
theorem abH (v:aa)(e p k n:Nat)(h:p+k+n≤e):gw ((v.take e).drop p) k n=gw v (p+k) n:=by
 unfold gw
 rw[List.drop_drop,List.drop_take,List.take_take,Nat.min_eq_left (by omega)]
theorem Wz (v:aa)(p e:Nat)(o:Opti)(hv:v.length≤4294967296)(he:e≤v.length)(h2:p+2≤e)(hn:ai v (p+1)=(e:Int)-p):IX.f (o,(v.take e).drop p,())=Z4 v p o:=by
 have hl:((v.take e).drop p).length=e-p:=by rw[List.length_drop,List.length_take];omega
 have c0:=S7 v e p 0 (by omega)
 rw[Nat.add_zero]at c0
 have w4:(((v.take e).drop p).length:Int)=ai v (p+1):=by rw[hl,hn];omega
 have hx:((v.take e).drop p).length≤4294967296:=by omega
 have g2:(ai v p==2&&ai v (p+1)==4)=true→bR.f ((v.take e).drop p,2,2,())=(gw v (p+2) 2,true):=λhh=>by
  simp at hh
  have:=bF ((v.take e).drop p) 2 2 (by omega) (by omega) (by omega) hx
  rw[abH _ _ _ _ _ (by omega)]at this
  exact this
 have g3:(ai v p==3&&ai v (p+1)==3)=true→ai ((v.take e).drop p) 2=ai v (p+2):=λhh=>by
  simp at hh
  exact S7 v e p 2 (by omega)
 have g8:(ai v p==8&&ai v (p+1)==10)=true→bR.f ((v.take e).drop p,2,4,())=(gw v (p+2) 4,true)∧bR.f ((v.take e).drop p,6,4,())=(gw v (p+6) 4,true):=λhh=>by
  simp at hh
  have k1:=bF ((v.take e).drop p) 2 4 (by omega) (by omega) (by omega) hx
  have k2:=bF ((v.take e).drop p) 6 4 (by omega) (by omega) (by omega) hx
  rw[abH _ _ _ _ _ (by omega)]at k1 k2
  exact⟨k1,k2⟩
 simp only[PX,IX,Z4,c0,w4,G5,kA]
 revert g2 g3 g8
 cases(ai v p==2)<;>cases(ai v (p+1)==4)<;>cases(ai v p==3)<;>cases(ai v (p+1)==3)<;>cases(ai v p==4)<;>cases(ai v (p+1)==2)<;>cases(ai v p==8)<;>cases(ai v (p+1)==10)<;>intro g2 g3 g8<;>simp only[Bool.and_true,Bool.and_false,Bool.false_and,Bool.true_and,cond_true,cond_false]<;>first|rfl|(rw[g2 rfl])|(rw[g3 rfl])|(rw[(g8 rfl).1,(g8 rfl).2])
theorem FV (v:aa)(hv:v.length≤4294967296):lj.f (v,())=ac1 v (0,wW):=by
 have key:=BO (f:=λa=>(cV v a).nice) (g:=ey v) (h:=Sum.elim (λp=>(p.1,false)) (λo=>(o,true))) (Inv:=λa:Int×Opti=>0≤a.1) (meas:=λa=>Int.toNat ((v.length:Int)-a.1)) (λa ha=>by
  have ha:0≤a.1:=ha
  by_cases h1:a.1<(v.length:Int)
  case neg=>refine .inr ⟨.inr a.2, ?_, ?_⟩<;>simp only[PX,cV,ey,decide_eq_false h1,cond_false,Bool.not_false,cond_true,Sum.elim_inr]
  have w1:IntKind.wrap .i64 (a.1+1)=a.1+1:=aq (by omega) (by omega)
  have wl:IntKind.wrap .i64 ((v.length:Int)-a.1)=(v.length:Int)-a.1:=aq (by omega) (by omega)
  have t1:(a.1+1).toNat=a.1.toNat+1:=by omega
  have b1:=gK v (a.1.toNat+1)
  have wb:IntKind.wrap .i64 (a.1+ai v (a.1.toNat+1))=a.1+ai v (a.1.toNat+1):=aq (by omega) (by omega)
  have hst:=Gp v a ha
  have eN:bX.f ()=wW:=by simp only[PX,bX,wW]
  cases h2:(ai v a.1.toNat==0)with
  |true=>refine .inr ⟨.inr a.2, ?_, ?_⟩<;>simp only[PX,cV,ey,decide_eq_true h1,bne,h2,cond_false,Bool.not_true,cond_true,Sum.elim_inr]
  |false=>
   cases h3:(ai v a.1.toNat==1)with
   |true=>
    have e:ey v a= .next (a.1+1,a.2):=by simp only[ey,decide_eq_true h1,h2,h3,cond_false,Bool.not_true,cond_true]
    refine .inl ⟨_, ?_,e,hst _ e⟩
    simp only[PX,cV,decide_eq_true h1,bne,h2,h3,Bool.not_false,cond_false,cond_true,w1]
   |false=>
    cases h4:(decide ((v.length:Int)≤a.1+1)||(decide (ai v (a.1.toNat+1)<2)||decide ((v.length:Int)-a.1<ai v (a.1.toNat+1))))with
    |true=>
     have e:ey v a= .out (wW,false):=by simp only[ey,decide_eq_true h1,h2,h3,h4,cond_false,Bool.not_true,cond_true]
     refine .inr ⟨.inl (wW,a.2), ?_,e⟩
     revert h4
     simp only[PX,cV,decide_eq_true h1,bne,h2,h3,Bool.not_false,cond_false,cond_true,w1,wl,t1,G5,eN]
     cases decide ((v.length:Int)≤a.1+1)<;>cases decide (ai v (a.1.toNat+1)<2)<;>cases decide ((v.length:Int)-a.1<ai v (a.1.toNat+1))<;>intro h4<;>first|rfl|cases h4
    |false=>
     have e:ey v a= .next (a.1+ai v (a.1.toNat+1),Z4 v a.1.toNat a.2):=by simp only[ey,decide_eq_true h1,h2,h3,h4,cond_false,Bool.not_true,cond_true]
     refine .inl ⟨_, ?_,e,hst _ e⟩
     simp only[Bool.or_eq_false_iff,decide_eq_false_iff_not]at h4
     obtain⟨h5,h6,h7⟩:=h4
     have hl:=Wz v a.1.toNat (a.1+ai v (a.1.toNat+1)).toNat a.2 hv (by omega) (by omega) (by omega)
     simp only[PX,cV,decide_eq_true h1,bne,h2,h3,Bool.not_false,cond_false,cond_true,w1,wl,t1,G5,decide_eq_false h5,decide_eq_false h6,decide_eq_false h7,wb,hl]) (Int.toNat ((v.length:Int)-0)+1) (0,wW) (by simp) (by simp)
 have eN:bX.f ()=wW:=by simp only[PX,bX,wW]
 simp only[PX,lj,jh,eN]
 rw[ac1,←key]
 cases cl (λa=>(cV v a).nice) (Int.toNat ((v.length:Int)-0)+1) (0,wW)<;>rfl
def zw (v:List Entr):Int:=match aP (λj a=>(eC v j a).nice) 1 3 1 0 with| .next a=>a| .out e=>Empty.elim e
theorem WM (v:List Entr):aP (λj a=>(eC v j a).nice) 1 3 1 0= .next (zw v):=by
 unfold zw
 cases aP (λj a=>(eC v j a).nice) 1 3 1 0 with
 |next a=>rfl
 |out e=>exact Empty.elim e
theorem aem (v:List Entr)(j a:Int):(eC v j a).nice= .next (bif decide ((v.getD a.toNat (Ty.zero .entr)).age<(v.getD j.toNat (Ty.zero .entr)).age)then j else a):=by
 simp only[PX,eC]
 cases decide ((v.getD a.toNat (Ty.zero .entr)).age<(v.getD j.toNat (Ty.zero .entr)).age)<;>rfl
theorem QR (v:List Entr):0≤zw v∧zw v<4:=by
 have e:=WM v
 simp only[aP,aem,Stp.elim]at e
 have key:∀(b:Bool) (x y:Int),(0≤x∧x<4)→(0≤y∧y<4)→0≤(bif b then x else y)∧(bif b then x else y)<4:=by
  intro b x y hx hy
  cases b<;>assumption
 rw[←Stp.next.inj e]
 refine key _ _ _ (by omega) (key _ _ _ (by omega) (key _ _ _ (by omega) (by omega)))
theorem acX (v:List Entr):aP (λj a=>(eC v j a).nice) 1 4 0 0= .next (zw v):=by
 rw[←WM v]
 show Stp.elim _ _ ((eC v 0 0).nice)=_
 rw[aem,decide_eq_false (Int.lt_irrefl _),cond_false]
 rfl
def L3 (v:List Entr)(ip hw:Int):List Entr:=bif decide (0≤dK (λe:Entr=>e.ip==ip) v)then v.set (dK (λe:Entr=>e.ip==ip) v).toNat ⟨ip,hw,0⟩else(bif ((v.length:Int)==4)then v.take (zw v).toNat++v.drop ((zw v).toNat+1)else v)++[⟨ip,hw,0⟩]
def vV (v:List Entr)(ip hw:Int):List Entr:=bif (gl.f (v,())&&(ae.f (ip,32,())&&ae.f (hw,48,())))then L3 v ip hw else v
theorem CS (v:List Entr)(ip hw:Int):u5.f (v,ip,hw,())=vV v ip hw:=by
 unfold vV
 simp only[PX,u5,gL,f7,ga]
 rcases Bool.eq_false_or_eq_true (gl.f (v,()))with h1|h1
 case inr=>rw[h1];rfl
 have hE:=(zM v).1 h1
 have hlen:=hE.len
 rw[h1]
 cases h2:ae.f (ip,32,())with
 |false=>rfl
 |true=>
  cases h3:ae.f (hw,48,())with
  |false=>rfl
  |true=>
   simp only[Bool.not_true,cond_false,Bool.and_self,cond_true,aN]
   rw[cS v _ rfl (F:=λj x _=>bif x.ip==ip then .out (v.set j (⟨ip,hw,0⟩:Entr))else .next ()) (λj x a h=>by
    have hj:j<v.length:=(List.getElem?_eq_some_iff.1 h).1
    have hx:=getD_some (d:=Ty.zero .entr) h
    simp only[PX,zH,af,hx]
    cases hb:(x.ip==ip)with
    |false=>rfl
    |true=>
     rw[cond_true,cond_true,List.set_set]
     have e:(v.set j ({x with hw:=hw}:Entr)).getD j (Ty.zero .entr)=({x with hw:=hw}:Entr):=getD_some (by simp[hj])
     rw[e,←beq_iff_eq.1 hb]),kK (p:=λe:Entr=>e.ip==ip) (w:=λj _=>v.set j (⟨ip,hw,0⟩:Entr))]
   unfold L3 dK
   cases hf:v.findIdx? (λe=>e.ip==ip)with
   |some i=>
    obtain⟨h4,_,_⟩:=List.findIdx?_eq_some_iff_getElem.1 hf
    have hx:v[i]? =some v[i]:=List.getElem?_eq_getElem h4
    simp only[hx,Stp.elim,Nat.zero_add,decide_eq_true (show(0:Int)≤(i:Int) by omega),cond_true,af]
   |none=>
    simp only[Stp.elim,decide_eq_false (show¬(0:Int)≤-1 by omega),cond_false]
    cases h4:((v.length:Int)==4)with
    |false=>rfl
    |true=>
     have h5:v.length=4:=by have:=beq_iff_eq.1 h4;omega
     have ho:=QR v
     obtain⟨o,hoe⟩:=Int.eq_ofNat_of_zero_le ho.1
     have e4:=acX v
     rw[h5]
     simp only[cond_true]
     refine(congrArg (Stp.elim _ _) e4).trans ?_
     simp only[Stp.elim,PX,ta,hoe,af]
     rw[aq (by omega) (by omega),show((o:Int)==(o:Int)+1)=false by simp;omega,show((o:Int)+1).toNat=o+1 by omega]
     simp only[cond_false]
     have hL:(v.take o++v.drop (o+1)).length=o+(v.length-(o+1)):=by
      rw[List.length_append,List.length_take,List.length_drop];omega
     generalize v.take o++v.drop (o+1)=L at hL⊢
     rw[List.drop_zero,List.take_left' hL,List.take_left' (rfl:L.length=L.length),List.append_assoc,List.take_left' hL]
theorem R9 (v:List Entr)(ip hw:Int):oY.f (v,ip,hw,())=vV v ip hw:=by
 unfold vV
 simp only[PX,oY,O1,dr,List.nil_append,kr,Cu]
 rcases Bool.eq_false_or_eq_true (gl.f (v,()))with h1|h1
 case inr=>rw[h1];rfl
 have hE:=(zM v).1 h1
 have hlen:=hE.len
 rw[h1]
 cases h2:ae.f (ip,32,())with
 |false=>rfl
 |true=>
  cases h3:ae.f (hw,48,())with
  |false=>rfl
  |true=>
   simp only[Bool.not_true,cond_false,Bool.and_self,cond_true]
   unfold L3
   cases hf:decide (0≤dK (λe:Entr=>e.ip==ip) v)with
   |true=>rfl
   |false=>
    simp only[cond_false]
    cases h4:((v.length:Int)==4)with
    |false=>rfl
    |true=>
     have h5:v.length=4:=by have:=beq_iff_eq.1 h4;omega
     have ho:=QR v
     obtain⟨o,hoe⟩:=Int.eq_ofNat_of_zero_le ho.1
     have e4:=WM v
     simp only[cond_true]
     rw[h5,show Int.toNat (((4:Nat):Int)-1)=3 from rfl]
     refine(congrArg (Stp.elim _ _) e4).trans ?_
     simp only[Stp.elim,hoe,af]
     rw[aq (by omega) (by omega),show((o:Int)+1).toNat=o+1 by omega,List.drop_zero]
     first|rw[List.take_of_length_le (show v.length≤4 by omega)]|rw[List.take_length]
theorem abf (v:List Entr)(ip hw:Int)(h:EO v)(hi:ae.f (ip,32,())=true)(hh:ae.f (hw,48,())=true):EO (L3 v ip hw):=by
 have hn:BB ⟨ip,hw,0⟩=true:=by unfold BB;rw[hi,hh];rfl
 unfold L3
 cases hf:decide (0≤dK (λe:Entr=>e.ip==ip) v)with
 |true=>
  rw[cond_true]
  unfold dK at hf⊢
  cases hc:v.findIdx? (λe=>e.ip==ip)with
  |none=>rw[hc]at hf;simp at hf
  |some i=>
   obtain⟨h4,h5,_⟩:=List.findIdx?_eq_some_iff_getElem.1 hc
   simp only[af]
   refine⟨λe he=>(List.mem_or_eq_of_mem_set he).elim (h.ok e) λx=>x▸hn, ?_,by rw[List.length_set];exact h.len⟩
   have e:(v.set i (⟨ip,hw,0⟩:Entr)).map Entr.ip=v.map Entr.ip:=by
    rw[List.map_set]
    have:(v.map Entr.ip)[i]'(by simpa using h4)=ip:=by simpa using h5
    conv=>lhs;rw[show(Entr.ip ⟨ip,hw,0⟩)=(v.map Entr.ip)[i]'(by simpa using h4) from this.symm]
    exact List.set_getElem_self _
   rw[e];exact h.nd
 |false=>
  rw[cond_false]
  have hnot:ip∉v.map Entr.ip:=by
   intro hm
   rw[List.mem_map]at hm
   obtain⟨x,hx,he⟩:=hm
   have:=jU (λe:Entr=>e.ip==ip) v
   rw[hf]at this
   have h2:=(List.any_eq_false.1 this.symm) x hx
   rw[he]at h2;simp at h2
  have hsub:(bif ((v.length:Int)==4)then v.take (zw v).toNat++v.drop ((zw v).toNat+1)else v).Sublist v∧(bif ((v.length:Int)==4)then v.take (zw v).toNat++v.drop ((zw v).toNat+1)else v).length≤3:=by
   have hl:=h.len
   have ho:=QR v
   cases h4:((v.length:Int)==4)with
   |false=>
    simp at h4
    exact⟨List.Sublist.refl _,by simp only[cond_false];omega⟩
   |true=>
    simp at h4
    refine⟨?_, ?_⟩
    ·rw[cond_true]
     have:=List.Sublist.append (List.Sublist.refl (v.take (zw v).toNat)) (List.Sublist.trans (show(v.drop ((zw v).toNat+1)).Sublist ((v.drop (zw v).toNat).drop 1) by rw[List.drop_drop];exact List.Sublist.refl _) (List.drop_sublist 1 (v.drop (zw v).toNat)))
     rwa [List.take_append_drop]at this
    ·rw[cond_true,List.length_append,List.length_take,List.length_drop];omega
  generalize(bif ((v.length:Int)==4)then v.take (zw v).toNat++v.drop ((zw v).toNat+1)else v)=w at hsub
  refine⟨λe he=> ?_, ?_,by rw[List.length_append,List.length_singleton];omega⟩
  ·rcases List.mem_append.1 he with he|he
   ·exact h.ok e (hsub.1.subset he)
   ·rw[List.mem_singleton.1 he];exact hn
  ·rw[List.map_append]
   have h1:=List.Nodup.sublist (hsub.1.map Entr.ip) h.nd
   rw[List.nodup_append]
   refine⟨h1,by simp,λa ha b hb=> ?_⟩
   simp at hb
   subst hb
   intro e
   subst e
   exact hnot ((hsub.1.map Entr.ip).subset ha)
theorem aeO (a:Int)(h0:0≤a)(h1:a≤255):bits .and .i64 a 63=a.tmod 64:=by
 obtain⟨x,rfl⟩:=Int.eq_ofNat_of_zero_le h0
 have key:∀y:Fin 256,bits .and .i64 ((y.val:Nat):Int) 63=((y.val:Nat):Int).tmod 64:=by decide+kernel
 exact key ⟨x,by omega⟩
theorem NS (v:aa)(hv:v.length≤4294967296):lj.f (v,())=lx.f (v,()):=by
 rw[FV v hv,Fe v hv]
theorem uh (s:aa)(a b:Int)(hs:s.length≤4294967276):jG.f (s,a,b,())=aQ.f (s,a,b,()):=by
 by_cases h:s.length<20
 ·simp only[PX,jG,aQ,decide_eq_true (show(s.length:Int)<20 by omega),cond_true]
 ·have q0:s.length≤4294967296:=by omega
  have w1:=cC s 0 2 (by omega) (by omega) (by omega) q0
  have w2:=cC s 2 2 (by omega) (by omega) (by omega) q0
  have w3:=cC s 4 4 (by omega) (by omega) (by omega) q0
  have w4:=cC s 8 4 (by omega) (by omega) (by omega) q0
  have w5:=cC s 14 2 (by omega) (by omega) (by omega) q0
  have v1:=bF s 0 2 (by omega) (by omega) (by omega) q0
  have v2:=bF s 2 2 (by omega) (by omega) (by omega) q0
  have v3:=bF s 4 4 (by omega) (by omega) (by omega) q0
  have v4:=bF s 8 4 (by omega) (by omega) (by omega) q0
  have v5:=bF s 14 2 (by omega) (by omega) (by omega) q0
  simp only[Int.ofNat_zero,Int.cast_ofNat_Int]at w1 w2 w3 w4 w5 v1 v2 v3 v4 v5
  have b13:=gK s 13
  have e13:=aeO (ai s 13) b13.1 b13.2
  have hph:=ad0 a b (s.length:Int)
  have hq:=LY (ew.f (a,b,(s.length:Int),())++s) (by rw[List.length_append];omega)
  simp only[PX,jG,aQ,decide_eq_false (show¬(s.length:Int)<20 by omega),cond_false,w1,w2,w3,w4,w5,v1,v2,v3,v4,v5,G5,e13,Dt,bH,hq,qe]
  generalize IntKind.wrap .i64 ((IntKind.wrap .i64 ((ai s 12).tdiv 16))*4)=n
  rw[NS _ (by rw[List.length_drop,List.length_take];omega)]
  rw[show(!(decide (20≤n)&&decide (n≤(s.length:Int))))=(decide (n<20)||decide ((s.length:Int)<n)) by rw[Bool.eq_iff_iff];simp<;>omega]
  cases decide (n<20)<;>cases decide ((s.length:Int)<n)<;>rfl
theorem Gw (l:Link):mD.f (l,())=l:=by simp only[PX,mD,gL]
theorem Zr (l:Link):rl.f (l,())=l:=by simp only[PX,rl,List.nil_append]
theorem adp (f:Fram)(m:Int):IK.f (f,m,())=tK.f (f,m,()):=by simp only[PX,IK,tK]
theorem pb (s:aa):(bN s).1.body.length≤s.length:=by
 unfold bN
 split
 ·simp
 ·cases gk.f (⟨gw s 0 6,gw s 6 6,gw s 12 2,s.drop 14⟩,())<;>simp
theorem abK (l:Link)(raw:aa)(hs:raw.length≤4294967296):DL.f (l,raw,())=bO.f (l,raw,()):=by
 have hb:=pb raw
 simp only[PX,DL,bO,I7,Gw,Zr,adp,rT raw hs,nA raw hs,KM,R9,CS,Ws,OL,yY]
 generalize bN raw=F at hb
 rw[Q6 F.1.body (by omega),CN F.1.body (by omega),ql F.1.body (by omega),lO F.1.body (by omega)]
 generalize PE F.1.body=A
 generalize dm F.1.body=P
 cases(bif !dX.f (l,())then(true,())else bif !F.2 then(true,())else(!tK.f (F.1,l.mac,()),())).1 with
 |true=>rfl
 |false=>
  simp only[cond_false]
  cases(F.1.type==2054)with
  |true=>
   simp only[cond_true]
   cases(bif !A.2 then(true,())else(A.1.dstIp != l.ip,())).1 with
   |true=>rfl
   |false=>cases(oD.f (A.1,l.mac,l.ip,())).2<;>rfl
  |false=>
   simp only[cond_false,bne]
   cases(F.1.type==2048)<;>rfl
structure Pkt (l:Link)(raw:aa)(k:Link)(p:Pack):Prop where
 hF:(bN raw).2=true
 hM:tK.f ((bN raw).1,l.mac,())=true
 hP:dm (bN raw).1.body=(p,0)
 hD:p.dst=l.ip
 hT:p.proto=6
 hS:p.src≠l.ip
 hK:k={l with cache:=vV l.cache p.src (bN raw).1.src}
theorem Ce (l:Link)(raw:aa)(hs:raw.length≤4294967296):∃(k:Link) (n:Int) (p:Pack) (t:aa),bO.f (l,raw,())=(k,n,p,t)∧((k=l∧n=0∧p=zP)∨(∃ip hw,k={l with cache:=vV l.cache ip hw}∧(n=0∨n=1)∧p=zP)∨(n=2∧Pkt l raw k p)):=by
 obtain⟨r,hr⟩:∃r,bO.f (l,raw,())=r:=⟨_,rfl⟩
 refine⟨r.1,r.2.1,r.2.2.1,r.2.2.2,hr, ?_⟩
 have hb:=pb raw
 simp only[PX,bO,Gw,nA raw hs,CS]at hr
 rw[CN _ (by omega),lO _ (by omega)]at hr
 generalize PE (bN raw).1.body=A at hr
 rcases Bool.eq_false_or_eq_true (bif !dX.f (l,())then(true,())else bif !(bN raw).2 then(true,())else(!tK.f ((bN raw).1,l.mac,()),())).1 with hc|hc
 ·rw[hc,cond_true]at hr;subst hr;exact .inl ⟨rfl,rfl,rfl⟩
 rw[hc,cond_false]at hr
 rcases Bool.eq_false_or_eq_true (((bN raw).1).type==2054)with h1|h1
 ·rw[h1,cond_true]at hr
  rcases Bool.eq_false_or_eq_true (bif !A.2 then(true,())else(A.1.dstIp != l.ip,())).1 with h2|h2
  ·rw[h2,cond_true]at hr;subst hr;exact .inl ⟨rfl,rfl,rfl⟩
  rw[h2,cond_false]at hr
  rcases Bool.eq_false_or_eq_true (oD.f (A.1,l.mac,l.ip,())).2 with h3|h3
  ·rw[h3,cond_true]at hr;subst hr;exact .inr (.inl ⟨_,_,rfl,.inr rfl,rfl⟩)
  ·rw[h3,cond_false]at hr;subst hr;exact .inr (.inl ⟨_,_,rfl,.inl rfl,rfl⟩)
 rw[h1,cond_false]at hr
 rcases Bool.eq_false_or_eq_true (((bN raw).1).type==2048)with h2|h2
 case inr=>rw[h2,cond_false]at hr;subst hr;exact .inl ⟨rfl,rfl,rfl⟩
 rw[h2,cond_true]at hr
 rcases Bool.eq_false_or_eq_true (bif (dm (bN raw).1.body).2 != 0 then(true,())else bif (dm (bN raw).1.body).1.dst != l.ip then(true,())else bif (dm (bN raw).1.body).1.proto != 6 then(true,())else((dm (bN raw).1.body).1.src==l.ip,())).1 with hP|hP
 ·rw[hP,cond_true]at hr;subst hr;exact .inl ⟨rfl,rfl,rfl⟩
 rw[hP,cond_false]at hr
 subst hr
 refine .inr (.inr ⟨rfl, ?_⟩)
 revert hP hc
 cases dX.f (l,())<;>cases h1:(bN raw).2<;>cases h2:tK.f ((bN raw).1,l.mac,())<;>intro hc<;>try (cases hc)
 cases h3:((dm (bN raw).1.body).2 != 0)<;>cases h4:((dm (bN raw).1.body).1.dst != l.ip)<;>cases h5:((dm (bN raw).1.body).1.proto != 6)<;>cases h6:((dm (bN raw).1.body).1.src==l.ip)<;>intro hP<;>try (cases hP)
 simp at h3 h4 h5 h6
 exact⟨h1,h2,by rw[←h3],h4,h5,h6,rfl⟩
theorem DS (l:Link)(ip hw:Int)(h:dX.f (l,())=true):dX.f (({l with cache:=vV l.cache ip hw}:Link),())=true:=by
 obtain⟨h1,h2,h3,h4⟩:=(mi l).1 h
 refine(mi _).2 ⟨h1,h2,h3, ?_⟩
 show EO (vV l.cache ip hw)
 unfold vV
 cases hc:(gl.f (l.cache,())&&(ae.f (ip,32,())&&ae.f (hw,48,())))with
 |false=>exact h4
 |true=>
  simp only[Bool.and_eq_true]at hc
  exact abf _ _ _ h4 hc.2.1 hc.2.2
theorem Fw (s:aa):(dm s).1.body.length≤s.length-20:=by
 unfold dm
 by_cases h:s.length<20
 ·rw[decide_eq_true h];exact Nat.zero_le _
 ·rw[decide_eq_false h]
  cases(ai s 0 != 69)
  case true=>exact Nat.zero_le _
  cases(!ml.f (s.take 20,()))
  case true=>exact Nat.zero_le _
  cases(decide (gw s 2 2<20)||(decide ((s.length:Int)<gw s 2 2)||decide (1500<gw s 2 2)))
  case true=>exact Nat.zero_le _
  cases(!(gw s 6 2==0||gw s 6 2==16384))
  case true=>exact Nat.zero_le _
  cases(ai s 8==0)
  case true=>exact Nat.zero_le _
  simp only[cond_false,List.length_drop,List.length_take]
  omega
def qr (s:Stac)(raw:aa):Stac×List aa×Int:=
 bif !bU.f (s,())then(s,[],0)else
 bif (bO.f (s.link,raw,())).2.1==1 then(⟨(bO.f (s.link,raw,())).1,s.door⟩,[(bO.f (s.link,raw,())).2.2.2],0)else
 bif (bO.f (s.link,raw,())).2.1 != 2 then(⟨(bO.f (s.link,raw,())).1,s.door⟩,[],0)else
 bif !(aQ.f ((bO.f (s.link,raw,())).2.2.1.body,(bO.f (s.link,raw,())).2.2.1.src,(bO.f (s.link,raw,())).2.2.1.dst,())).2 then(⟨(bO.f (s.link,raw,())).1,s.door⟩,[],0)else
 (⟨(bO.f (s.link,raw,())).1,(IE s.door (bO.f (s.link,raw,())).2.2.1.src (aQ.f ((bO.f (s.link,raw,())).2.2.1.body,(bO.f (s.link,raw,())).2.2.1.src,(bO.f (s.link,raw,())).2.2.1.dst,())).1).1⟩,
  (IE s.door (bO.f (s.link,raw,())).2.2.1.src (aQ.f ((bO.f (s.link,raw,())).2.2.1.body,(bO.f (s.link,raw,())).2.2.1.src,(bO.f (s.link,raw,())).2.2.1.dst,())).1).2.1.flatMap (xv (bO.f (s.link,raw,())).1 (bO.f (s.link,raw,())).2.2.1.src),
  (IE s.door (bO.f (s.link,raw,())).2.2.1.src (aQ.f ((bO.f (s.link,raw,())).2.2.1.body,(bO.f (s.link,raw,())).2.2.1.src,(bO.f (s.link,raw,())).2.2.1.dst,())).1).2.2)
theorem Si (s:Stac)(raw:aa)(hs:gf s.door)(hl:s.door.halves.length≤4294967296):z6.f (s,raw,())=qr s raw:=by
 simp only[PX,z6,qV,vS,qr]
 rw[WO _ _ _ hs hl]
theorem Qq (s:Stac)(raw:aa)(hr:raw.length≤4294967296)(hs:gf s.door)(hl:s.door.halves.length≤4294967296):vr.f (s,raw,())=qr s raw:=by
 rcases Bool.eq_false_or_eq_true (bU.f (s,()))with h|h
 case inr=>simp only[PX,vr,Ae,vi s hs,h,Bool.not_false,cond_true,qr]
 have hD:=(ji _).1 ((cH s).1 h).2
 obtain⟨k,n,p,t,e,hc⟩:=Ce s.link raw hr
 have hp:p.body.length≤4294967276:=by
  rcases hc with⟨_,_,rfl⟩|⟨_,_,_,_,rfl⟩|⟨_,hk⟩
  ·exact Nat.zero_le _
  ·exact Nat.zero_le _
  ·have h1:=Fw (bN raw).1.body
   have h2:=pb raw
   rw[hk.hP]at h1
   simp only[]at h1
   omega
 have hg:=uh p.body p.src p.dst hp
 have hso:=acD s.door p.src (aQ.f (p.body,p.src,p.dst,())).1 hs hD
 have hse:=XS s.door p.src (aQ.f (p.body,p.src,p.dst,())).1 hs hl
 simp only[PX,vr,Ae,vi s hs,h,Bool.not_true,cond_false,qr,abK s.link raw hr,e,hg,hse]
 rw[wY _ _ _ hso.2]
 cases(n==1)with
 |true=>rfl
 |false=>
  simp only[cond_false]
  cases(n != 2)with
  |true=>rfl
  |false=>rfl
theorem Od (s:Stac)(raw:aa)(hr:raw.length≤4294967296)(hs:gf s.door)(h:bU.f (s,())=true):bU.f ((qr s raw).1,())=true:=by
 obtain⟨h1,h2⟩:=(cH s).1 h
 have hD:=(ji _).1 h2
 obtain⟨k,n,p,t,e,hc⟩:=Ce s.link raw hr
 have hk:dX.f (k,())=true:=by
  rcases hc with⟨rfl,_⟩|⟨_,_,rfl,_⟩|⟨_,hk⟩
  ·exact h1
  ·exact DS _ _ _ h1
  ·rw[hk.hK];exact DS _ _ _ h1
 have hso:=acD s.door p.src (aQ.f (p.body,p.src,p.dst,())).1 hs hD
 simp only[qr,h,Bool.not_true,cond_false,e]
 cases(n==1)with
 |true=>exact(cH _).2 ⟨hk,h2⟩
 |false=>
  cases(n != 2)with
  |true=>exact(cH _).2 ⟨hk,h2⟩
  |false=>
   cases(aQ.f (p.body,p.src,p.dst,())).2 with
   |false=>exact(cH _).2 ⟨hk,h2⟩
   |true=>exact(cH _).2 ⟨hk,(ji _).2 hso.1⟩
def RN (raw:aa):List Issu:=bif (bN raw).2&&((dm (bN raw).1.body).2==0&&((aQ.f ((dm (bN raw).1.body).1.body,(dm (bN raw).1.body).1.src,(dm (bN raw).1.body).1.dst,())).2&&bp.f ((aQ.f ((dm (bN raw).1.body).1.body,(dm (bN raw).1.body).1.src,(dm (bN raw).1.body).1.dst,())).1,18,())))then
 [⟨⟨(dm (bN raw).1.body).1.dst,(aQ.f ((dm (bN raw).1.body).1.body,(dm (bN raw).1.body).1.src,(dm (bN raw).1.body).1.dst,())).1.to,(aQ.f ((dm (bN raw).1.body).1.body,(dm (bN raw).1.body).1.src,(dm (bN raw).1.body).1.dst,())).1.from_⟩,((aQ.f ((dm (bN raw).1.body).1.body,(dm (bN raw).1.body).1.src,(dm (bN raw).1.body).1.dst,())).1.ack+ -1)%4294967296,(aQ.f ((dm (bN raw).1.body).1.body,(dm (bN raw).1.body).1.src,(dm (bN raw).1.body).1.dst,())).1.seq⟩]else[]
theorem Sm (raw:aa)(hs:raw.length≤4294967296)(a:List Issu):(bif (bif (ib.f (raw,())).2.2 then(bp.f ((ib.f (raw,())).2.1,18,()),())else(false,())).1 then(Stp.next (a++[(⟨⟨(ib.f (raw,())).1.dst,(ib.f (raw,())).2.1.to,(ib.f (raw,())).2.1.from_⟩,((ib.f (raw,())).2.1.ack+ -1)%4294967296,(ib.f (raw,())).2.1.seq⟩:Issu)]):Stp (List Issu) Empty)else .next a)= .next (a++RN raw):=by
 have hb:=pb raw
 unfold RN
 simp only[PX,ib,nA raw hs]
 generalize bN raw=F at hb
 rw[lO F.1.body (by omega)]
 generalize dm F.1.body=P
 cases F.2 with
 |false=>simp
 |true=>
  simp only[Bool.not_true,cond_false,Bool.true_and]
  cases hp:(P.2==0)with
  |false=>simp only[bne,hp];simp
  |true=>
   simp only[bne,hp,Bool.not_true,cond_false,Bool.true_and]
   cases(aQ.f (P.1.body,P.1.src,P.1.dst,())).2 with
   |false=>simp
   |true=>cases bp.f ((aQ.f (P.1.body,P.1.src,P.1.dst,())).1,18,())<;>simp
theorem U8 (raw:aa)(hs:raw.length≤4294967296)(a:List Issu):(bif (bif (fH.f (raw,())).2.2 then(bp.f ((fH.f (raw,())).2.1,18,()),())else(false,())).1 then(Stp.next (a++[(⟨⟨(fH.f (raw,())).1.dst,(fH.f (raw,())).2.1.to,(fH.f (raw,())).2.1.from_⟩,((fH.f (raw,())).2.1.ack+ -1)%4294967296,(fH.f (raw,())).2.1.seq⟩:Issu)]):Stp (List Issu) Empty)else .next a)= .next (a++RN raw):=by
 have hb:=pb raw
 have hb2:=Fw (bN raw).1.body
 unfold RN
 simp only[PX,fH,rT raw hs]
 generalize bN raw=F at hb hb2
 rw[ql F.1.body (by omega)]
 generalize dm F.1.body=P at hb2
 have hl:P.1.body.length≤4294967276:=by omega
 rw[uh _ _ _ hl]
 cases F.2 with
 |false=>simp
 |true=>
  simp only[cond_true,Bool.true_and]
  cases hp:(P.2==0)with
  |false=>simp
  |true=>
   simp only[cond_true,Bool.true_and]
   cases(aQ.f (P.1.body,P.1.src,P.1.dst,())).2 with
   |false=>simp
   |true=>cases bp.f ((aQ.f (P.1.body,P.1.src,P.1.dst,())).1,18,())<;>simp
theorem BC (s:Stac)(r:Resu)(h:∀y∈r.frames,y.length≤4294967296):mn.f (s,r,())=r.frames.flatMap RN:=by
 simp only[PX,mn,jz]
 rw[rx r.frames RN (λj x a hx=>by
  simp only[PX,xB,af,getD_some hx,bt]
  exact Sm x (h x (ke hx)) a)]
 rfl
theorem NA (s:Stac)(r:Resu)(h:∀y∈r.frames,y.length≤4294967296):sP.f (s,r,())=r.frames.flatMap RN:=by
 simp only[PX,sP,jx]
 rw[rx r.frames RN (λj x a hx=>by
  simp only[PX,xF,af,getD_some hx,iH,bt,LZ]
  exact U8 x (h x (ke hx)) a)]
 rfl
theorem Vp (t:Tabl)(l:Limi)(h:TO t l):TO (mh t) l:=by
 refine⟨h.lim, ?_, ?_, ?_, ?_, ?_, ?_⟩
 ·have:=List.length_filter_le (lg t) t.conns
  have h2:=h.nc
  show((List.filter _ _).length:Int)≤_
  omega
 ·have:=List.length_filter_le (mI t) t.waiting
  have h2:=h.nw
  show((List.filter _ _).length:Int)≤_
  omega
 ·intro c hc;exact h.co c (List.mem_filter.1 hc).1
 ·exact List.Nodup.sublist (List.Sublist.map _ (List.filter_sublist)) h.dc
 ·exact List.Nodup.sublist (List.filter_sublist) h.dw
 ·intro w hw
  have hw1:w∈t.waiting:=(List.mem_filter.1 hw).1
  have hw2:=h.wc w hw1
  rw[List.mem_map]at hw2
  obtain⟨c,hc,rfl⟩:=hw2
  rw[List.mem_map]
  refine⟨c,List.mem_filter.2 ⟨hc, ?_⟩,rfl⟩
  unfold lg
  have:t.waiting.any (j6 c.tuple)=true:=by
   rw[List.any_eq_true];exact⟨_,hw1,p6 _⟩
  simp only[this]
  cases(c.state != 8)<;>rfl
theorem OK (t:Tabl):∀x∈(mh t).conns.map Conn.tuple,x∈t.conns.map Conn.tuple:=
 λx hx=>(List.Sublist.map Conn.tuple (List.filter_sublist (p:=lg t))).subset hx
theorem DO.tabl {d:Door}(h:DO d)(t:Tabl)(ht:TO t d.limits)(hm:∀x∈t.conns.map Conn.tuple,x∈d.table.conns.map Conn.tuple):DO ({d with table:=t}:Door):=
 ⟨h.port,h.c0,h.c1,h.keys,ht,h.hal,h.nh,h.k0,h.k1,λy hy hm2=>h.ap y hy (hm _ hm2)⟩
theorem CO.sndr {c:Conn}(h:CO c)(s:Sndr)(hs:SO s)(k:Int)(h1:1≤k)(h8:k≤8)(h7:c.state≠7)(hk:Yq k s.fin s.done c.r.done=true):CO ({c with s:=s,state:=k}:Conn):=
 ⟨h.tup,hs,h.rcv,h.opt,h1,h8,h.m0,h.m1,h.w0,h.w1,h.t0,h.t4,λ_=>h.t3 h7,h.r0,h.r3,hk⟩
theorem abD {k:Int}{sf sd rd:Bool}(h:Yq k sf sd rd=true)(hk:k=1∨k=4):sf=false∧sd=false:=by
 rcases hk with rfl|rfl<;>revert h<;>cases sf<;>cases sd<;>cases rd<;>decide
theorem ab3 (rd:Bool)(k:Int)(sf sd:Bool)(h:Yq k sf sd rd=true)(hk:k=1∨k=4):Yq (if k=1 then 2 else 6) true sd rd=true:=by
 rcases hk with rfl|rfl<;>revert h<;>cases sf<;>cases sd<;>cases rd<;>decide
structure Called (c x:Conn)(l:List Segm):Prop where
 co:CO x
 tu:x.tuple=c.tuple
 sm:be x.r.held
 sg:∀g∈l,ak.f (g,())=true
theorem Called.none {c:Conn}(h:CO c)(hs:be c.r.held):Called c c []:=⟨h,rfl,hs,λg hg=>by cases hg⟩
theorem Called.pump {c u:Conn}(hu:CO u)(ht:u.tuple=c.tuple)(hs:be u.r.held)(w:Int):Called c (cN.f (u,w,())).1 (cN.f (u,w,())).2:=by
 have h:=E1 u w hu.snd
 have hr:=h.re
 refine⟨h.ok hu ?_, ?_, ?_,FA u w hu hs⟩
 ·rcases h.tm with e|e
  ·exact .inr e
  ·exact .inl (by omega)
 ·rw[hr];exact ht
 ·rw[hr];exact hs
def Sg (s:Sndr)(t:aa):Nat:=min t.length (48-s.data.length)
def DH (s:Sndr)(t:aa):Sndr×Int:=if bj.f (s,())=true∧s.fin=false then({s with data:=s.data++t.take (Sg s t)},(Sg s t:Int))else(s,0)
theorem abE (s:Sndr)(t:aa)(h:s.data.length≤48):(if(t.length:Int)<IntKind.wrap .i64 (48-(s.data.length:Int))then(t.length:Int)else IntKind.wrap .i64 (48-(s.data.length:Int)))=(Sg s t:Int):=by
 rw[aq (by omega) (by omega)];unfold Sg;split<;>omega
theorem TL (s:Sndr)(t:aa):yR.f (s,t,())=DH s t:=by
 simp only[PX,yR,kA,oL]
 unfold DH
 rcases Bool.eq_false_or_eq_true (bj.f (s,()))with h|h
 ·have hs:=(yZ s).1 h
  rcases Bool.eq_false_or_eq_true s.fin with hf|hf
  ·simp[h,hf]
  ·have e:=abE s t hs.2.2.1
   simp only[h,hf,Bool.not_true,cond_false,and_self,if_true,List.drop_zero,e,Int.toNat_natCast]
 ·simp[h]
theorem adt (s:Sndr)(t:aa)(h:SO s):SO (DH s t).1∧(DH s t).1.fin=s.fin∧(DH s t).1.done=s.done:=by
 unfold DH
 split
 ·rename_i hc
  obtain⟨h1,h2,h3,h4,h5,h6,h7⟩:=h
  refine⟨⟨h1,h2, ?_,h4, ?_, ?_, ?_⟩,rfl,rfl⟩
  ·show(s.data++t.take (Sg s t)).length≤48
   rw[List.length_append,List.length_take];unfold Sg;omega
  ·show s.sent≤((s.data++t.take (Sg s t)).length:Int)
   rw[List.length_append];omega
  ·intro hf;have:=(h6 hf).1;rw[hc.2]at this;cases this
  ·intro hd;have:=(h7 hd).1;rw[hc.2]at this;cases this
 ·exact⟨h,rfl,rfl⟩
theorem Uu (c:Conn)(x:Sndr):({c with s.una:=x.una,s.data:=x.data,s.sent:=x.sent,s.fin:=x.fin,s.finSent:=x.finSent,s.done:=x.done}:Conn)={c with s:=x}:=rfl
theorem Tx (c:Conn)(x:Recv):({c with r.next:=x.next,r.data:=x.data,r.held:=x.held,r.fin:=x.fin,r.done:=x.done}:Conn)={c with r:=x}:=rfl
def uk (c:Conn)(t:aa):Conn×Int×List Segm:=
 if aO.f (c,())=true∧(c.state=1∨c.state=4)then((cN.f ({c with s:=(DH c.s t).1},c.window,())).1,(DH c.s t).2,(cN.f ({c with s:=(DH c.s t).1},c.window,())).2)else(c,0,[])
theorem acS {a b:Int}(h:¬a=b):(a==b)=false:=by simpa using h
theorem Yi {a b:Int}(h:¬a=b):(a != b)=true:=by simpa using h
theorem R3 (b:Bool)(k:Int):(bif !b then(true,())else bif k != 1 then(k != 4,())else(false,())).1= !decide (b=true∧(k=1∨k=4)):=by
 cases b
 ·simp
 ·by_cases h:k=1
  ·subst h;rfl
  ·by_cases h4:k=4
   ·subst h4;rfl
   ·rw[Yi h,Yi h4,decide_eq_false (by rintro⟨_,hh|hh⟩<;>contradiction)]
    rfl
theorem Wa (c:Conn)(t:aa)(hs:be c.r.held):CW.f (c,t,())=uk c t:=by
 simp only[PX,CW,fG,TL,ll c hs,R3]
 unfold uk
 by_cases h:aO.f (c,())=true∧(c.state=1∨c.state=4)
 ·have hc:=(qi c).1 h.1
  have hw:c.window≤9223372036854775807:=by have:=hc.w1;have:=hc.m1;omega
  rw[decide_eq_true h,if_pos h,Bool.not_true,cond_false,Uu,MW ({c with s:=(DH c.s t).1}:Conn) c.window hw hs]
 ·rw[decide_eq_false h,if_neg h,Bool.not_false,cond_true]
theorem VA (c:Conn)(t:aa)(h:CO c)(hs:be c.r.held):Called c (uk c t).1 (uk c t).2.2:=by
 unfold uk
 split
 ·rename_i hc
  have hq:=adt c.s t h.snd
  refine Called.pump (c:=c) (u:=({c with s:=(DH c.s t).1}:Conn)) ?_ rfl hs c.window
  have:=CO.sndr h (DH c.s t).1 hq.1 c.state h.s1 h.s8 (by rcases hc.2 with e|e<;>omega) (by rw[hq.2.1,hq.2.2];exact h.fl)
  exact this
 ·exact Called.none h hs
def Im (x:Recv)(n:Int):Nat:=(max 0 (min n (x.data.length:Int))).toNat
def ur (x:Recv)(n:Int):Recv×aa:=if br.f (x,())=true then({x with data:=x.data.drop (Im x n)},x.data.take (Im x n))else(x,[])
theorem ab9 (x:Recv)(n:Int):(if(if n<(x.data.length:Int)then n else(x.data.length:Int))<0 then 0 else(if n<(x.data.length:Int)then n else(x.data.length:Int))).toNat=Im x n:=by
 unfold Im;congr 1;split<;>split<;>omega
theorem RP (x:Recv)(n:Int)(hs:be x.held):uE.f (x,n,())=ur x n:=by
 simp only[PX,uE,rj,xb x hs,kA,mt]
 unfold ur
 have e:=ab9 x n
 rcases Bool.eq_false_or_eq_true (br.f (x,()))with h|h
 ·simp[h,←e]
 ·simp[h]
theorem YG (x:Recv)(n:Int)(h:RV x)(hs:be x.held):RV (ur x n).1∧(ur x n).1.done=x.done∧(ur x n).1.held=x.held:=by
 unfold ur
 split
 ·refine⟨⟨h.n0,h.n1, ?_,h.hl,h.f0, ?_,h.fz, ?_,h.dn⟩,rfl,rfl⟩
  ·show(x.data.drop (Im x n)).length≤32
   rw[List.length_drop];have:=h.dl;omega
  ·have h1:=h.f1
   have:mN x≤mN ({x with data:=x.data.drop (Im x n)}:Recv):=by unfold mN;simp only[List.length_drop];split<;>omega
   exact Int.le_trans h1 this
  ·have hw:mN x≤mN ({x with data:=x.data.drop (Im x n)}:Recv):=by unfold mN;simp only[List.length_drop];split<;>omega
   obtain⟨b,hb⟩:=h.wk
   show∃b,ev (if x.fin= -1 then mN ({x with data:=x.data.drop (Im x n)}:Recv)else x.fin) 0 x.held=some b
   by_cases hf:x.fin= -1
   ·rw[if_pos hf]at hb⊢
    have h0:=(oi x h.dl).1
    have hsub:=FZ (mN x) (mN ({x with data:=x.data.drop (Im x n)}:Recv)) hw x.held 0 h0
    rw[hb]at hsub
    cases hm:ev (mN ({x with data:=x.data.drop (Im x n)}:Recv)) 0 x.held with
    |some b2=>exact⟨b2,rfl⟩
    |none=>rw[hm]at hsub;cases hsub
   ·rw[if_neg hf]at hb⊢;exact⟨b,hb⟩
 ·exact⟨h,rfl,rfl⟩
theorem CO.rcvd {c:Conn}(h:CO c)(r:Recv)(hr:br.f (r,())=true)(hd:r.done=c.r.done):CO ({c with r:=r}:Conn):=
 ⟨h.tup,h.snd,hr,h.opt,h.s1,h.s8,h.m0,h.m1,h.w0,h.w1,h.t0,h.t4,h.t3,h.r0,h.r3,by have:=h.fl;show Yq c.state c.s.fin c.s.done r.done=true;rw[hd];exact this⟩
def xR (c:Conn)(n:Int):Conn×aa×List Segm:=
 if aO.f (c,())=true then(({c with r:=(ur c.r n).1}:Conn),(ur c.r n).2,if bB.f (c.r,())=0∧bB.f ((ur c.r n).1,())≠0∧c.state≠8∧c.state≠7 then[bD.f (({c with r:=(ur c.r n).1}:Conn),())]else[])else(c,[],[])
theorem PT (x:Mac)(h:fF.f (x,⟨false,0,0,[]⟩,())=true):x=⟨false,0,0,[]⟩:=by
 simp only[PX,fF,nC]at h
 obtain⟨u,k,l,r⟩:=x
 cases r with
 |nil=>
  revert h
  cases hu:(u==false)<;>cases hk:(k==0)<;>cases hl:(l==0)<;>simp_all
 |cons a b=>
  have:(((a::b).length:Int) != (([]:List MacRow).length:Int))=true:=by simp;omega
  simp only[this,cond_true]at h
  revert h
  cases(u==false)<;>cases(k==0)<;>cases(l==0)<;>simp
theorem ac0 (x:Acti):Ea.f (x,())=tz.f (x,()):=by
 obtain⟨kd,t,n,tx,mac⟩:=x
 have hs:fF.f (mac,⟨false,0,0,[]⟩,())=true→jR.f (mac,())=true:=λh=>by rw[PT mac h];rfl
 have hz:((t.ip==0)&&((t.port==0)&&((t.my==0)&&true)))=true→aG.f (t,())=true:=λh=>by
  obtain⟨a,b,c⟩:=t
  simp only[Bool.and_eq_true,beq_iff_eq,Bool.and_true]at h
  obtain⟨rfl,rfl,rfl⟩:=h
  decide+kernel
 have hx:(tx==[])=true→decide ((tx.length:Int)≤1600)=true:=λh=>by
  have:tx=[]:=by simpa using h
  subst this;rfl
 have hn:(n==0)=true→(decide (0≤n)&&decide (n≤65535))=true:=λh=>by
  have:n=0:=by simpa using h
  subst this;rfl
 have hl:decide (1600<(tx.length:Int))= !decide ((tx.length:Int)≤1600):=by
  rcases Int.lt_or_le 1600 (tx.length:Int)with h|h
  ·simp[h,show¬((tx.length:Int)≤1600) by omega]
  ·simp[h,show¬(1600<(tx.length:Int)) by omega]
 have hb:(n != 0)= !(n==0):=rfl
 have hk:kd=1∨kd=2∨kd=3∨kd=4∨kd=5∨kd=6∨kd=7∨kd=8∨((decide (1≤kd)&&decide (kd≤8))=false∧(kd==1)=false∧(kd==3)=false∧(kd==5)=false∧(kd==6)=false∧(kd==7)=false∧(kd==8)=false):=by
  by_cases h:1≤kd∧kd≤8
  ·omega
  ·refine .inr (.inr (.inr (.inr (.inr (.inr (.inr (.inr ⟨?_, ?_, ?_, ?_, ?_, ?_, ?_⟩)))))))
   ·simp only[Bool.and_eq_false_iff,decide_eq_false_iff_not];omega
   all_goals (rw[beq_eq_false_iff_ne];omega)
 simp only[Bool.and_true]at hz
 rcases hk with rfl|rfl|rfl|rfl|rfl|rfl|rfl|rfl|hk
 case inr.inr.inr.inr.inr.inr.inr.inr=>
  obtain⟨e,e1,e3,e5,e6,e7,e8⟩:=hk
  simp only[PX,Ea,tz,bH,au,e,e1,e3,e5,e6,e7,e8,cond_true,cond_false,Bool.not_false]
 all_goals
  simp only[PX,Ea,tz,bH,au,rC,Fh,QC,NW,hl,hb,Int.reduceBEq,Int.reduceBNe,Int.reduceLE,decide_true,cond_true,cond_false,beq_self_eq_true,bne_self_eq_false,Bool.and_true,Bool.and_self,Bool.not_true,Bool.not_false]
  clear hl hb
  generalize fF.f (mac,⟨false,0,0,[]⟩,())=S at*
  generalize jR.f (mac,())=M at*
  generalize aG.f (t,())=T at*
  generalize((t.ip==0)&&((t.port==0)&&(t.my==0)))=Z at*
  generalize(tx==[])=X at*
  generalize decide ((tx.length:Int)≤1600)=L at*
  generalize(decide (0≤n)&&decide (n≤65535))=NN at*
  generalize(n==0)=N0 at*
  revert S M T Z X L NN N0
  decide+kernel
theorem YH (k:Int):(bif k != 8 then(k != 7,())else(false,())).1=decide (k≠8∧k≠7):=by
 by_cases h8:k=8
 ·subst h8;rfl
 ·by_cases h7:k=7
  ·subst h7;rfl
  ·rw[Yi h8,Yi h7,decide_eq_true (⟨h8,h7⟩:k≠8∧k≠7)];rfl
theorem adC (w w' k:Int)(h:0≤w'):(bif w==0 then bif decide (0<w')then bif k != 8 then(k != 7,())else(false,())else(false,())else(false,())).1=decide (w=0∧w'≠0∧k≠8∧k≠7):=by
 by_cases h1:w=0
 ·by_cases h2:w'=0
  ·subst h1 h2;rfl
  ·rw[show(w==0)=true by rw[h1];rfl,decide_eq_true (show 0<w' by omega),cond_true,cond_true,YH]
   simp[h1,h2]
 ·rw[acS h1,cond_false,decide_eq_false (λhh=>h1 hh.1)]
theorem aey (x:Recv)(n:Int)(h:RV x)(hs:be x.held):0≤bB.f ((ur x n).1,()):=by
 have h2:=(YG x n h hs).1.dl
 rw[gD _ h2];exact(oi _ h2).1
theorem Ta (c:Conn)(n:Int)(h:aO.f (c,())=true)(b:Bool)(hb:b=decide (bB.f (c.r,())=0∧bB.f ((ur c.r n).1,())≠0∧c.state≠8∧c.state≠7)):(bif b then(({c with r:=(ur c.r n).1}:Conn),(ur c.r n).2,[bD.f (({c with r:=(ur c.r n).1}:Conn),())])else(({c with r:=(ur c.r n).1}:Conn),(ur c.r n).2,[]))=xR c n:=by
 unfold xR
 rw[if_pos h,hb]
 split
 ·rename_i hc;rw[decide_eq_true hc];rfl
 ·rename_i hc;rw[decide_eq_false hc];rfl
theorem aal (c:Conn)(n:Int)(hs:be c.r.held):rL.f (c,n,())=xR c n:=by
 simp only[PX,rL,fG,RP _ _ hs,ll c hs,ph,tB]
 rcases Bool.eq_false_or_eq_true (aO.f (c,()))with h|h
 ·have hc:=(qi c).1 h
  have hr:=(mf c.r hs).1 hc.rcv
  rw[h,Bool.not_true,cond_false,adC _ _ _ (aey c.r n hr hs),Tx]
  exact Ta c n h _ rfl
 ·unfold xR;rw[h,Bool.not_false,cond_true,if_neg (by simp)]
theorem YD (c:Conn)(n:Int)(h:CO c)(hs:be c.r.held):Called c (xR c n).1 (xR c n).2.2:=by
 unfold xR
 split
 ·have hr:=(mf c.r hs).1 h.rcv
  have ht:=YG c.r n hr hs
  have hh:be (ur c.r n).1.held:=by rw[ht.2.2];exact hs
  have hc:=CO.rcvd h (ur c.r n).1 ((mf _ hh).2 ht.1) ht.2.1
  refine⟨hc,rfl,hh, ?_⟩
  intro g hg
  show ak.f (g,())=true
  revert hg
  show g∈(if _ then[_]else[])→_
  split
  ·intro hg;rw[List.mem_singleton.1 hg];exact Dn _ hc hh
  ·intro hg;cases hg
 ·exact Called.none h hs
def Ef (c:Conn):Conn×List Segm:=
 if aO.f (c,())=true∧(c.state=1∨c.state=4)then cN.f (({c with state:=if c.state=1 then 2 else 6,s.fin:=true}:Conn),c.window,())else(c,[])
theorem ZA (c:Conn)(hs:be c.r.held):Ki.f (c,())=Ef c:=by
 simp only[PX,Ki,fG,ll c hs,R3]
 unfold Ef
 by_cases h:aO.f (c,())=true∧(c.state=1∨c.state=4)
 ·have hc:=(qi c).1 h.1
  have hw:c.window≤9223372036854775807:=by have:=hc.w1;have:=hc.m1;omega
  rw[decide_eq_true h,if_pos h,Bool.not_true,cond_false]
  rcases h.2 with e|e
  ·have e4:(c.state==4)=false:=by rw[e];rfl
   rw[e4,cond_false,if_pos e,MW ({c with state:=2,s.fin:=true}:Conn) c.window hw hs]
  ·have e4:(c.state==4)=true:=by rw[e];rfl
   rw[e4,cond_true,if_neg (by omega),MW ({c with state:=6,s.fin:=true}:Conn) c.window hw hs]
 ·rw[decide_eq_false h,if_neg h,Bool.not_false,cond_true]
theorem Yy (c:Conn)(h:CO c)(hs:be c.r.held):Called c (Ef c).1 (Ef c).2:=by
 unfold Ef
 split
 ·rename_i hc
  refine Called.pump (c:=c) (u:=({c with state:=if c.state=1 then 2 else 6,s.fin:=true}:Conn)) ?_ rfl hs c.window
  have hl:=abD h.fl hc.2
  have hso:SO ({c.s with fin:=true}:Sndr):=by
   obtain⟨h1,h2,h3,h4,h5,h6,h7⟩:=h.snd
   refine⟨h1,h2,h3,h4,h5,λhf=>⟨rfl,(h6 hf).2⟩,λhd=> ?_⟩
   rw[show({c.s with fin:=true}:Sndr).done=c.s.done from rfl,hl.2]at hd;cases hd
  have hk:=ab3 c.r.done c.state c.s.fin c.s.done h.fl hc.2
  exact CO.sndr h _ hso (if c.state=1 then 2 else 6) (by split<;>omega) (by split<;>omega) (by rcases hc.2 with e|e<;>omega) hk
 ·exact Called.none h hs
def vA (c:Conn):Conn×List Segm:=
 if aO.f (c,())=true∧c.state≠8 then(({c with state:=8,timer:=0,tries:=0}:Conn),[({bD.f (c,())with flags:=bits .or .i64 (bD.f (c,())).flags 4}:Segm)])else(c,[])
theorem WN (c:Conn)(hs:be c.r.held):IV.f (c,())=vA c:=by
 simp only[PX,IV,fG,ll c hs,tB]
 unfold vA
 rcases Bool.eq_false_or_eq_true (aO.f (c,()))with h|h
 ·by_cases h8:c.state=8
  ·simp[h,h8]
  ·have:(c.state==8)=false:=by simpa using h8
   rw[h,this,if_pos ⟨rfl,h8⟩];rfl
 ·rw[h,if_neg (by simp)];rfl
theorem Uv (c:Conn)(h:CO c)(hs:be c.r.held):Called c (vA c).1 (vA c).2:=by
 unfold vA
 split
 ·have hr:=(mf c.r hs).1 h.rcv
  refine⟨CO.set h 8 0 0 (.inr rfl) (by omega) (by omega) (λ_=>by omega) (by omega) (by omega),rfl,hs,λg hg=> ?_⟩
  rw[List.mem_singleton.1 hg]
  have h2:=Yg c h.tup hr.dl ⟨hr.n0,hr.n1⟩ (gZ.f (c.s,())) 20 [] (by rw[Fc];omega) (by omega) (by simp)
  have e:({bD.f (c,())with seq:=gZ.f (c.s,()),flags:=20,body:=[]}:Segm)={bD.f (c,())with flags:=bits .or .i64 (bD.f (c,())).flags 4}:=by
   simp only[PX,bD]
   rw[show bits .or .i64 16 4=20 by decide+kernel]
  rw[←e];exact h2
 ·exact Called.none h hs
def tE (c:Conn)(a:Acti):Conn×Int×aa×List Segm:=
 if a.kind=5 then((uk c a.text).1,(uk c a.text).2.1,[],(uk c a.text).2.2)else if a.kind=6 then((xR c a.n).1,0,(xR c a.n).2.1,(xR c a.n).2.2)else if a.kind=7 then((Ef c).1,0,[],(Ef c).2)else((vA c).1,0,[],(vA c).2)
theorem YK (c:Conn)(a:Acti)(h:CO c)(hs:be c.r.held):Called c (tE c a).1 (tE c a).2.2.2:=by
 unfold tE
 split
 ·exact VA c _ h hs
 ·split
  ·exact YD c _ h hs
  ·split
   ·exact Yy c h hs
   ·exact Uv c h hs
def xQ (t:Tabl):Tabl×Tupl×Bool:=match t.waiting with|[]=>(t,⟨0,0,0⟩,false)|w::r=>(⟨t.conns,r⟩,w,true)
theorem Y8 (t:Tabl):lC.f (t,())=xQ t:=by
 obtain⟨cs,ws⟩:=t
 simp only[PX,lC,Ag]
 cases ws with
 |nil=>rfl
 |cons w r=>
  rw[acS (show¬((w::r).length:Int)=0 by rw[List.length_cons];omega),cond_false]
  simp[xQ]
def zR (b:Bool):Resu:=⟨[],0,⟨0,0,0⟩,0,[],b⟩
theorem Ar (s:Stac)(c:Conn)(xs:List Segm)(r:Resu)(hx:∀g∈xs,ak.f (g,())=true):pe.f (s,c,xs,r,())=(({s with door.table:=mh (de.f (s.door.table,c,()))}:Stac),({r with frames:=xs.flatMap (xv s.link c.tuple.ip),ok:=true}:Resu)):=by
 simp only[PX,pe,OU,Cm,wY _ _ _ hx]
def Pw (s:Stac)(a:Acti):Stac×Resu:=
 if 0≤av.f (s.door.table,a.tuple,())∧s.door.table.waiting.any (j6 a.tuple)=false then
  (({s with door.table:=mh (de.f (s.door.table,(tE (s.door.table.conns.getD (av.f (s.door.table,a.tuple,())).toNat (Ty.zero .conn)) a).1,()))}:Stac),
   (⟨(tE (s.door.table.conns.getD (av.f (s.door.table,a.tuple,())).toNat (Ty.zero .conn)) a).2.2.2.flatMap (xv s.link a.tuple.ip),0,⟨0,0,0⟩,(tE (s.door.table.conns.getD (av.f (s.door.table,a.tuple,())).toNat (Ty.zero .conn)) a).2.1,(tE (s.door.table.conns.getD (av.f (s.door.table,a.tuple,())).toNat (Ty.zero .conn)) a).2.2.1,true⟩:Resu))
 else(s,zR false)
theorem QS (d:Door)(hD:DO d)(hs:gf d)(t:Tupl)(h:0≤av.f (d.table,t,())):∃k:Nat,av.f (d.table,t,())=(k:Int)∧∃hk:k<d.table.conns.length,d.table.conns[k].tuple=t∧CO d.table.conns[k]∧be d.table.conns[k].r.held:=by
 obtain⟨k,e,hk,ht⟩:=D2 d t h
 exact⟨k,e,hk,ht,hD.tab.co _ (List.getElem_mem hk),hs _ (List.getElem_mem hk)⟩
theorem Y4 (s:Stac)(a:Acti)(hD:DO s.door)(hs:gf s.door):z0.f (s,a,())=Pw s a:=by
 simp only[PX,z0,jt,wB]
 unfold Pw
 by_cases h:0≤av.f (s.door.table,a.tuple,())
 ·obtain⟨k,ek,hk,ht,hc,hp⟩:=QS s.door hD hs a.tuple h
  rw[show decide (av.f (s.door.table,a.tuple,())<0)=false by rw[decide_eq_false_iff_not];omega]
  rcases Bool.eq_false_or_eq_true (s.door.table.waiting.any (j6 a.tuple))with hw|hw
  ·rw[hw,cond_false,cond_true,if_neg (by simp)];rfl
  ·rw[hw,cond_false,cond_false,if_pos ⟨h,rfl⟩,ek,Int.toNat_natCast,getD_some (List.getElem?_eq_getElem hk)]
   generalize s.door.table.conns[k]=c at*
   rw[Wa c _ hp,aal c _ hp,ZA c hp,WN c hp]
   have w1:=VA c a.text hc hp
   have w2:=YD c a.n hc hp
   have w3:=Yy c hc hp
   have w4:=Uv c hc hp
   rw[Ar s _ _ _ w1.sg,Ar s _ _ _ w2.sg,Ar s _ _ _ w3.sg,Ar s _ _ _ w4.sg,w1.tu,w2.tu,w3.tu,w4.tu,ht]
   unfold tE
   by_cases h5:a.kind=5
   ·rw[if_pos h5,show(a.kind==5)=true by simpa using h5];rfl
   ·rw[if_neg h5,show(a.kind==5)=false by simpa using h5,cond_false]
    by_cases h6:a.kind=6
    ·rw[if_pos h6,show(a.kind==6)=true by simpa using h6];rfl
    ·rw[if_neg h6,show(a.kind==6)=false by simpa using h6,cond_false]
     by_cases h7:a.kind=7
     ·rw[if_pos h7,show(a.kind==7)=true by simpa using h7];rfl
     ·rw[if_neg h7,show(a.kind==7)=false by simpa using h7];rfl
 ·rw[show decide (av.f (s.door.table,a.tuple,())<0)=true by rw[decide_eq_true_eq];omega,if_neg (λhh=>h hh.1)];rfl
def mJ (s:Stac)(a:Acti):Stac×Resu:=
 if bU.f (s,())=true∧tz.f (a,())=true then
  if a.kind=1 then((qr s a.text).1,(⟨(qr s a.text).2.1,(qr s a.text).2.2,⟨0,0,0⟩,0,[],true⟩:Resu))
  else if a.kind=2 then((Mw s).1,(⟨(Mw s).2,0,⟨0,0,0⟩,0,[],true⟩:Resu))
  else if a.kind=3 then((⟨s.link,kp.f (s.door,a.mac,())⟩:Stac),zR true)
  else if a.kind=4 then(({s with door.table:=mh (xQ s.door.table).1}:Stac),(⟨[],0,(xQ s.door.table).2.1,0,[],(xQ s.door.table).2.2⟩:Resu))
  else Pw s a
 else(s,zR false)
theorem LJ {A:Type}(k:Int)(x1 x2 x3 x4 x5:A):(bif k==1 then x1 else bif k==2 then x2 else bif k==3 then x3 else bif k==4 then x4 else x5)=if k=1 then x1 else if k=2 then x2 else if k=3 then x3 else if k=4 then x4 else x5:=by
 by_cases h1:k=1
 ·subst h1;rfl
 ·rw[if_neg h1,show(k==1)=false by simpa using h1,cond_false]
  by_cases h2:k=2
  ·subst h2;rfl
  ·rw[if_neg h2,show(k==2)=false by simpa using h2,cond_false]
   by_cases h3:k=3
   ·subst h3;rfl
   ·rw[if_neg h3,show(k==3)=false by simpa using h3,cond_false]
    by_cases h4:k=4
    ·subst h4;rfl
    ·rw[if_neg h4,show(k==4)=false by simpa using h4,cond_false]
theorem YV (a b:Bool):(bif !a then(true,())else(!b,())).1= !decide (a=true∧b=true):=by cases a<;>cases b<;>rfl
theorem Y2 (s:Stac)(a:Acti)(hs:gf s.door)(hl:s.door.halves.length≤4294967296)(hr:a.text.length≤4294967296):uq.f (s,a,())=mJ s a:=by
 simp only[PX,uq,Ae,Qq s a.text hr hs hl,vi s hs,ac0,SM,Y8,Cm,YV,LJ]
 unfold mJ
 by_cases h:bU.f (s,())=true∧tz.f (a,())=true
 ·have hD:=(ji s.door).1 ((cH s).1 h.1).2
  rw[decide_eq_true h,if_pos h,Bool.not_true,cond_false,Km s h.1 hs,Y4 s a hD hs]
  rfl
 ·rw[decide_eq_false h,if_neg h,Bool.not_false,cond_true];rfl
theorem TO.take {t:Tabl}{l:Limi}(h:TO t l):TO (xQ t).1 l:=by
 obtain⟨cs,ws⟩:=t
 unfold xQ
 cases ws with
 |nil=>exact h
 |cons w r=>
  have h2:=h.nw
  have h3:=h.dw
  simp only[List.length_cons,List.nodup_cons]at h2 h3
  exact⟨h.lim,h.nc,by show(r.length:Int)≤_;omega,h.co,h.dc,h3.2,λx hx=>h.wc x (List.mem_cons_of_mem _ hx)⟩
theorem Ww (t:Tabl):(xQ t).1.conns=t.conns:=by
 obtain⟨cs,ws⟩:=t
 cases ws<;>rfl
theorem Se (d:Door)(m:Mac):kp.f (d,m,())={d with keys:=oW.f (d.keys,m,())}:=by
 simp only[PX,kp,kj]
theorem adi (s:Stac)(a:Acti)(hs:gf s.door)(hr:a.text.length≤4294967296)(h:bU.f (s,())=true):bU.f ((mJ s a).1,())=true:=by
 unfold mJ
 split
 ·have hk:=(cH s).1 h
  have hD:=(ji s.door).1 hk.2
  split
  ·exact Od s a.text hr hs h
  ·split
   ·exact Qv s h
   ·split
    ·rw[cH]
     refine⟨hk.1,(ji _).2 ?_⟩
     rw[Se]
     exact⟨hD.port,hD.c0,hD.c1,XQ _ _ hD.keys,hD.tab,hD.hal,hD.nh,hD.k0,hD.k1,hD.ap⟩
    ·split
     ·rw[cH]
      refine⟨hk.1,(ji _).2 (hD.tabl _ (Vp _ _ hD.tab.take) λx hx=> ?_)⟩
      have:=OK _ x hx
      rw[Ww]at this;exact this
     ·unfold Pw
      split
      ·rename_i hc
       obtain⟨k,ek,hk2,ht,hco,hp⟩:=QS s.door hD hs a.tuple hc.1
       rw[ek,Int.toNat_natCast,getD_some (List.getElem?_eq_getElem hk2),cH]
       have ho:=YK s.door.table.conns[k] a hco hp
       refine⟨hk.1,(ji _).2 ?_⟩
       have e:=qS s.door.table (tE s.door.table.conns[k] a).1 hD.tab.dc k hk2 ho.tu
       refine hD.tabl _ (Vp _ _ ?_) λx hx=> ?_
       ·rw[e];exact TO.set hD.tab k _ ho.co hk2 ho.tu
       ·have:=OK _ x hx
        rw[e]at this
        have h2:x∈(s.door.table.conns.set k (tE s.door.table.conns[k] a).1).map Conn.tuple:=this
        rw[YN _ _ _ hk2 ho.tu]at h2;exact h2
      ·exact h
 ·exact h
theorem adn (s:Sndr)(t:aa)(h:s.data.length≤48):(if IntKind.wrap .i64 (48-(s.data.length:Int))<(t.length:Int)then IntKind.wrap .i64 (48-(s.data.length:Int))else(t.length:Int))=(Sg s t:Int):=by
 rw[aq (by omega) (by omega)];unfold Sg;split<;>omega
theorem ac9 (a b:Bool):(bif !a then(true,())else(b,())).1= !decide (a=true∧b=false):=by cases a<;>cases b<;>rfl
theorem US (s:Sndr)(t:aa):EI.f (s,t,())=DH s t:=by
 simp only[PX,EI,ac9]
 unfold DH
 by_cases h:bj.f (s,())=true∧s.fin=false
 ·have hs:=(yZ s).1 h.1
  have e:=adn s t hs.2.2.1
  rw[decide_eq_true h,if_pos h,Bool.not_true,cond_false]
  simp only[e,List.drop_zero,Int.toNat_natCast]
 ·rw[decide_eq_false h,if_neg h,Bool.not_false,cond_true]
theorem Yc (c:Conn)(t:aa):IM.f (c,t,())=uk c t:=by
 simp only[PX,IM,cj,US,R3]
 unfold uk
 by_cases h:aO.f (c,())=true∧(c.state=1∨c.state=4)
 ·rw[decide_eq_true h,if_pos h,Bool.not_true,cond_false,Uu]
 ·rw[decide_eq_false h,if_neg h,Bool.not_false,cond_true]
theorem R4 (x:Recv)(n:Int):Ac.f (x,n,())=ur x n:=by
 simp only[PX,Ac,qk]
 unfold ur
 rcases Bool.eq_false_or_eq_true (br.f (x,()))with h|h
 ·have e:(if 0<(if(x.data.length:Int)<n then(x.data.length:Int)else n)then(if(x.data.length:Int)<n then(x.data.length:Int)else n)else 0).toNat=Im x n:=by
   unfold Im;congr 1;split<;>split<;>omega
  simp[h,←e]
 ·simp[h]
theorem acJ (w w' k:Int):(bif w==0 then bif w' != 0 then bif k != 8 then(k != 7,())else(false,())else(false,())else(false,())).1=decide (w=0∧w'≠0∧k≠8∧k≠7):=by
 by_cases h1:w=0
 ·by_cases h2:w'=0
  ·subst h1 h2;rfl
  ·rw[show(w==0)=true by rw[h1];rfl,Yi h2,cond_true,cond_true,YH]
   simp[h1,h2]
 ·rw[acS h1,cond_false,decide_eq_false (λhh=>h1 hh.1)]
theorem ZW (c:Conn)(n:Int):vu.f (c,n,())=xR c n:=by
 simp only[PX,vu,cj,R4]
 rcases Bool.eq_false_or_eq_true (aO.f (c,()))with h|h
 ·rw[h,Bool.not_true,cond_false,acJ,Tx]
  exact Ta c n h _ rfl
 ·unfold xR;rw[h,Bool.not_false,cond_true,if_neg (by simp)]
theorem aaT (c:Conn):Ru.f (c,())=Ef c:=by
 simp only[PX,Ru,cj]
 unfold Ef
 rcases Bool.eq_false_or_eq_true (aO.f (c,()))with h|h
 ·rw[h,Bool.not_true,cond_false]
  by_cases h1:c.state=1
  ·have e:(c.state==1)=true:=by rw[h1];rfl
   rw[e,cond_true,if_pos ⟨rfl,.inl h1⟩,if_pos h1]
   rfl
  ·have e:(c.state==1)=false:=by simpa using h1
   rw[e,cond_false]
   by_cases h4:c.state=4
   ·have e4:(c.state==4)=true:=by rw[h4];rfl
    rw[e4,cond_true,if_pos ⟨rfl,.inr h4⟩,if_neg h1]
    rfl
   ·have e4:(c.state==4)=false:=by simpa using h4
    rw[e4,cond_false,if_neg (by rintro⟨_,h|h⟩;exact h1 h;exact h4 h)]
    rfl
 ·rw[h,Bool.not_false,cond_true,if_neg (by simp)]
theorem WH (c:Conn):IW.f (c,())=vA c:=by
 simp only[PX,IW,cj]
 unfold vA
 rcases Bool.eq_false_or_eq_true (aO.f (c,()))with h|h
 ·by_cases h8:c.state=8
  ·simp[h,h8]
  ·have:(c.state==8)=false:=by simpa using h8
   rw[h,this,if_pos ⟨rfl,h8⟩];rfl
 ·rw[h,if_neg (by simp)];rfl
theorem Wc {A:Type}(k:Int)(x1 x2 x3 x4:A):(bif k==5 then x1 else bif k==6 then x2 else bif k==7 then x3 else x4)=if k=5 then x1 else if k=6 then x2 else if k=7 then x3 else x4:=by
 by_cases h1:k=5
 ·subst h1;rfl
 ·rw[if_neg h1,show(k==5)=false by simpa using h1,cond_false]
  by_cases h2:k=6
  ·subst h2;rfl
  ·rw[if_neg h2,show(k==6)=false by simpa using h2,cond_false]
   by_cases h3:k=7
   ·subst h3;rfl
   ·rw[if_neg h3,show(k==7)=false by simpa using h3,cond_false]
theorem N9 (c:Conn)(a:Acti):wA.f (c,a,())=tE c a:=by
 simp only[PX,wA,Yc,ZW,aaT,WH,Wc]
 rfl
theorem ZG (t:Tabl):pq.f (t,())=xQ t:=by
 obtain⟨cs,ws⟩:=t
 simp only[PX,pq,jd]
 cases ws with
 |nil=>rfl
 |cons w r=>
  rw[acS (show¬((w::r).length:Int)=0 by rw[List.length_cons];omega),cond_false]
  simp[xQ]
theorem aau (s:Stac)(a:Acti)(hs:gf s.door)(hl:s.door.halves.length≤4294967296)(hr:a.text.length≤4294967296):Cv.f (s,a,())=mJ s a:=by
 simp only[PX,Cv,qV,Si s a.text hs hl,ZG,YV,LJ,N9,vS,C4]
 unfold mJ
 by_cases h:bU.f (s,())=true∧tz.f (a,())=true
 case neg=>rw[decide_eq_false h,if_neg h,Bool.not_false,cond_true];rfl
 have hD:=(ji s.door).1 ((cH s).1 h.1).2
 have t:=hD.tab
 have a2:=t.lim.w2
 have a3:=t.lim.c2
 have a4:=t.nc
 have a5:=t.nw
 have hta:=hD.tab.take
 have e1:tQ.f ((xQ s.door.table).1,())=mh (xQ s.door.table).1:=Cd _ (by have:=hta.nc;omega) (by have:=hta.nw;omega)
 rw[decide_eq_true h,if_pos h,Bool.not_true,cond_false,JS s h.1,e1]
 congr 1
 congr 1
 congr 1
 congr 1
 unfold Pw
 by_cases hf:0≤av.f (s.door.table,a.tuple,())
 case neg=>rw[show decide (av.f (s.door.table,a.tuple,())<0)=true by rw[decide_eq_true_eq];omega,if_neg (λhh=>hf hh.1)];rfl
 obtain⟨k,ek,hk,ht,hc,hp⟩:=QS s.door hD hs a.tuple hf
 rw[show decide (av.f (s.door.table,a.tuple,())<0)=false by rw[decide_eq_false_iff_not];omega]
 rcases Bool.eq_false_or_eq_true (s.door.table.waiting.any (j6 a.tuple))with hw|hw
 ·rw[hw,cond_false,cond_true,if_neg (by simp)];rfl
 rw[hw,cond_false,cond_false,if_pos ⟨hf,rfl⟩,ek,Int.toNat_natCast,getD_some (List.getElem?_eq_getElem hk)]
 have ho:=YK s.door.table.conns[k] a hc hp
 have e:=qS s.door.table (tE s.door.table.conns[k] a).1 hD.tab.dc k hk ho.tu
 have e2:tQ.f (de.f (s.door.table,(tE s.door.table.conns[k] a).1,()),())=mh (de.f (s.door.table,(tE s.door.table.conns[k] a).1,())):=Cd _ (by rw[e,List.length_set];omega) (by rw[e];show s.door.table.waiting.length≤_;omega)
 rw[e2]
theorem M8 {s:Stac}(h:az s):gf s.door∧s.door.halves.length≤4294967296:=by
 refine⟨aaD h.2, ?_⟩
 have:=h.2
 grind
theorem nD {a:Acti}(h:ba a):a.text.length≤4294967296:=h.1
theorem zU (s:Stac)(a:Acti)(hs:az s)(ha:ba a):Cv.f (s,a,())=mJ s a∧uq.f (s,a,())=mJ s a∧az (mJ s a).1∧gY (mJ s a).2∧o7.f (s,())=bU.f (s,())∧(bU.f (s,())=true→bU.f ((mJ s a).1,())=true):=by
 obtain⟨h1,h2⟩:=M8 hs
 have h3:=nD ha
 have e:=aau s a h1 h2 h3
 have h:=Cv.c.h (s,a,()) ⟨hs,ha⟩
 simp only[PX]at h
 rw[e]at h
 exact⟨e,Y2 s a h1 h2 h3,h.1,h.2,vi s h1,adi s a h1 h3⟩
theorem Uy {A W:Type}{f:Int→A→Stp A W}(m:Nat):∀(k:Nat) (i:Nat) (a:A),aP f 1 (k+m) (i:Int) a=Stp.elim (λa'=>aP f 1 m ((i+k:Nat):Int) a') .out (aP f 1 k (i:Int) a)
 |0,i,a=>by rw[Nat.zero_add];rfl
 |k+1,i,a=>by
  rw[show k+1+m=(k+m)+1 by omega]
  simp only[aP]
  cases f (i:Int) a with
  |out w=>rfl
  |next a'=>
   simp only[Stp.elim]
   have:=Uy (W:=W) (f:=f) m k (i+1) a'
   rw[show((i+1:Nat):Int)=(i:Int)+1 by omega]at this
   rw[this,show i+1+k=i+(k+1) by omega]
   cases aP f 1 k ((i:Int)+1) a'<;>rfl
theorem RJ (xs:List Acti):tL.f (xs,())=xs.take 60:=by
 simp only[PX,tL,List.drop_zero]
 split
 ·rfl
 ·rw[List.take_of_length_le (by omega),List.take_of_length_le (by omega)]
theorem AO {P:Prop}(h:(0:Int)=2):P:=absurd h (by decide)
theorem aaq (d:Door)(k:Nat)(g:Segm):(Dc d k g).2.2=0:=by
 unfold Dc;(repeat' split)<;>rfl
theorem aaf (d:Door)(src:Int)(g:Segm)(h:(IE d src g).2.2=2):(bG.f (d.keys,uj src g,(g.seq+ -1)%4294967296,(g.ack+ -1)%4294967296,())).2.2=true:=by
 revert h
 unfold IE
 split
 case isFalse=>intro h;exact AO h
 split
 ·intro h;exact AO h
 split
 ·intro h;rw[aaq]at h;exact AO h
 cases bp.f (g,4,())with
 |true=>intro h;exact AO h
 |false=>
  simp only[cond_false]
  cases(bp.f (g,2,())&&(!bp.f (g,16,())&& !bp.f (g,1,())))with
  |true=>intro h;exact AO h
  |false=>
   simp only[cond_false]
   cases(bp.f (g,16,())&& !bp.f (g,2,()))with
   |true=>
    intro h
    rcases Zd d (uj src g) g with⟨h0,_⟩|⟨_,_,⟨h1,_⟩|⟨_,_,h2⟩⟩
    ·simp only[cond_true]at h;rw[h0]at h;exact AO h
    ·simp only[cond_true]at h;rw[h1]at h;exact absurd h (by decide)
    ·exact h2
   |false=>
    simp only[cond_false]
    cases bp.f (g,16,())<;>(intro h;exact AO h)
def opP (raw:aa):Pack:=(dm (bN raw).1.body).1
def opG (raw:aa):Segm×Bool:=aQ.f ((opP raw).body,(opP raw).src,(opP raw).dst,())
def Ub (raw:aa):Issu:=⟨uj (opP raw).src (opG raw).1,((opG raw).1.seq+ -1)%4294967296,((opG raw).1.ack+ -1)%4294967296⟩
theorem UJ (s:Stac)(raw:aa)(hr:raw.length≤4294967296)(h:(qr s raw).2.2=2):(bN raw).2=true∧(dm (bN raw).1.body).2=0∧(opG raw).2=true∧(bG.f (s.door.keys,(Ub raw).tuple,(Ub raw).seq,(Ub raw).cookie,())).2.2=true:=by
 obtain⟨k,n,p,t,e,hc⟩:=Ce s.link raw hr
 revert h
 simp only[qr,e]
 cases bU.f (s,())with
 |false=>intro h;exact AO h
 |true=>
  simp only[Bool.not_true,cond_false]
  cases h1:(n==1)with
  |true=>intro h;exact AO h
  |false=>
   cases h2:(n != 2)with
   |true=>intro h;exact AO h
   |false=>
    have hn:n=2:=by simpa using h2
    simp only[cond_false]
    cases h3:(aQ.f (p.body,p.src,p.dst,())).2 with
    |false=>intro h;exact AO h
    |true=>
     simp only[Bool.not_true,cond_false]
     intro h
     have hk:Pkt s.link raw k p:=by
      rcases hc with⟨_,h0,_⟩|⟨_,_,_,h0,_⟩|⟨_,h0⟩
      ·omega
      ·omega
      ·exact h0
     have hp:opP raw=p:=by unfold opP;rw[hk.hP]
     have hg:opG raw=aQ.f (p.body,p.src,p.dst,()):=by unfold opG;rw[hp]
     refine⟨hk.hF,by rw[hk.hP],by rw[hg];exact h3, ?_⟩
     unfold Ub
     rw[hg,hp]
     exact aaf _ _ _ h
theorem Ch (s:Stac)(a:Acti)(hr:a.text.length≤4294967296)(h:(mJ s a).2.made=2):(bN a.text).2=true∧(dm (bN a.text).1.body).2=0∧(opG a.text).2=true∧(bG.f (s.door.keys,(Ub a.text).tuple,(Ub a.text).seq,(Ub a.text).cookie,())).2.2=true:=by
 revert h
 unfold mJ
 split
 case isFalse=>intro h;exact AO h
 split
 ·exact UJ s a.text hr
 split
 ·intro h;exact AO h
 split
 ·intro h;exact AO h
 split
 ·intro h;exact AO h
 unfold Pw
 split<;>(intro h;exact AO h)
def mX (s:Stac)(a:Acti):Issu×Bool:=if(mJ s a).2.made=2 then(Ub a.text,true)else(⟨⟨0,0,0⟩,0,0⟩,false)
theorem Xj (raw:aa)(hs:raw.length≤4294967296)(h1:(bN raw).2=true)(h2:(dm (bN raw).1.body).2=0):ib.f (raw,())=(opP raw,(opG raw).1,(opG raw).2):=by
 have hb:=pb raw
 simp only[PX,ib,nA raw hs]
 rw[lO (bN raw).1.body (by omega),h1,h2]
 rfl
theorem Xo (raw:aa)(hs:raw.length≤4294967296)(h1:(bN raw).2=true)(h2:(dm (bN raw).1.body).2=0):fH.f (raw,())=(opP raw,(opG raw).1,(opG raw).2):=by
 have hb:=pb raw
 have hb2:=Fw (bN raw).1.body
 simp only[PX,fH,rT raw hs]
 rw[ql (bN raw).1.body (by omega),uh _ _ _ (by omega),h1,h2]
 rfl
theorem Bl (s:Stac)(a:Acti)(hr:a.text.length≤4294967296):sO.f (a,(mJ s a).2,())=mX s a:=by
 simp only[PX,sO]
 unfold mX
 by_cases h:(mJ s a).2.made=2
 ·obtain⟨h1,h2,h3,_⟩:=Ch s a hr h
  rw[h,if_pos rfl,Xj a.text hr h1 h2,h3]
  simp only[Dl,bt,bne_self_eq_false,cond_false,Bool.not_true]
  rfl
 ·rw[if_neg h,Yi h,cond_true]
theorem NZ (s:Stac)(a:Acti)(hs:az s)(ha:ba a):qB.f (s,a,())=mX s a:=by
 have hr:=nD ha
 obtain⟨_,h2,_⟩:=zU s a hs ha
 simp only[PX,qB,h2]
 unfold mX
 by_cases h:(mJ s a).2.made=2
 ·obtain⟨h1,h2,h3,_⟩:=Ch s a hr h
  rw[h,if_pos rfl,Xo a.text hr h1 h2]
  simp only[O8,iH,bt,bne_self_eq_false,cond_false]
  rfl
 ·rw[if_neg h,Yi h,cond_true]
theorem NY (s:Stac)(a:Acti)(hs:az s)(ha:ba a):qR.f (s,a,())=mX s a:=by
 obtain⟨h1,_⟩:=zU s a hs ha
 simp only[PX,qR,h1,Bl s a (nD ha)]
def Oi (x y:Issu):Bool:=((x.tuple.ip==y.tuple.ip)&&((x.tuple.port==y.tuple.port)&&((x.tuple.my==y.tuple.my)&&true)))&&((x.seq==y.seq)&&((x.cookie==y.cookie)&&true))
theorem ab5 (x:Issu):Oi x x=true:=by simp[Oi]
theorem Ys (x y:Issu):Oi x y=true↔x=y:=by
 obtain⟨⟨a,b,c⟩,d,e⟩:=x
 obtain⟨⟨a',b',c'⟩,d',e'⟩:=y
 simp[Oi,and_assoc]
theorem abW (x y:Issu):Oi x y=Oi y x:=by
 rw[Bool.eq_iff_iff,Ys,Ys]
 exact eq_comm
theorem BE (xs:List Issu)(y:Issu):oy.f (xs,y,())=xs.any (λx=>Oi x y):=by
 simp only[PX,oy,lQ]
 rw[cS xs () (aN _) (F:=λ_ x _=>bif Oi x y then .out ()else .next ()) (λj x a hx=>by
  simp only[PX,xO,af,getD_some hx]
  rfl),O6]
 cases xs.any (λx=>Oi x y)<;>rfl
theorem K6 (xs:List Issu)(y:Issu):pB.f (xs,y,())=dK (λx=>Oi y x) xs:=by
 simp only[PX,pB,iW]
 exact Z5 (λx=>Oi y x) xs (λj x a hx=>by
  simp only[PX,sQ,af,getD_some hx]
  rfl)
theorem A0 (xs:List Issu)(y:Issu):rU.f (xs,y,())=xs.any (λx=>Oi x y):=by
 simp only[PX,rU,oS,K6,jU]
 congr 1
 funext x
 exact abW y x
def ij (z:Stac×List Issu×List Issu)(a:Acti):Stac×List Issu×List Issu:=
 ((mJ z.1 a).1,z.2.1++(mJ z.1 a).2.frames.flatMap RN,bif (mX z.1 a).2&& !z.2.1.any (λx=>Oi x (mX z.1 a).1)then z.2.2++[(mX z.1 a).1]else z.2.2)
theorem E6 {A W Z:Type}(g:A→Z)(S:Z→Acti→Z)(P:Z→Prop)(xs:List Acti)(hS:∀z x,x∈xs→P z→P (S z x)){f:Int→A→Stp A W}(n:Nat)
  (hf:∀(j:Nat) x a,j<n→xs[j]? =some x→P (g a)→∃a',f (j:Int) a= .next a'∧g a'=S (g a) x):
  ∀(r:List Acti) (j:Nat) (a:A),(∀i,i<r.length→r[i]? =xs[j+i]?)→j+r.length≤n→P (g a)→∃a',aP f 1 r.length (j:Int) a= .next a'∧g a'=r.foldl S (g a)
 |[],j,a,_,_,_=>⟨a,rfl,rfl⟩
 |y::r,j,a,h,hn,hp=>by
  have h0:xs[j]? =some y:=by have:=h 0 (by simp);simpa using this.symm
  simp only[List.length_cons]at hn
  obtain⟨a1,e1,e2⟩:=hf j y a (by omega) h0 hp
  obtain⟨a2,e3,e4⟩:=E6 g S P xs hS n hf r (j+1) a1 (λi hi=>by
   have:=h (i+1) (by simp;omega)
   rw[List.getElem?_cons_succ]at this
   rw[this];congr 1;omega) (by omega) (by rw[e2];exact hS _ _ (List.mem_of_getElem? h0) hp)
  refine⟨a2, ?_, ?_⟩
  ·simp only[List.length_cons,aP,e1,Stp.elim]
   rw[show(j:Int)+1=((j+1:Nat):Int) by omega]
   exact e3
  ·rw[e4,e2];rfl
theorem U2 {A W:Type}{f:Int→A→Stp A W}(n:Nat)(a a':A)(w:W)(e:aP f 1 (min 60 n) 0 a= .next a')(h:f 60 a'= .out w):aP f 1 n 0 a=if n≤60 then .next a' else .out w:=by
 rcases Nat.lt_or_ge 60 n with hgt|hle
 ·rw[if_neg (by omega)]
  rw[Nat.min_eq_left (by omega)]at e
  have h2:=Uy (f:=f) (n-61+1) 60 0 a
  rw[show 60+(n-61+1)=n by omega,show((0:Nat):Int)=0 from rfl,e]at h2
  rw[h2]
  simp only[Stp.elim,aP]
  rw[show(((0+60:Nat)):Int)=60 from rfl,h]
 ·rw[if_pos hle]
  rw[Nat.min_eq_right hle]at e
  exact e
theorem acg (xs:List Acti)(ha:∀a∈xs,ba a)(z:Stac×List Issu×List Issu)(x:Acti)(hx:x∈xs)(h:az z.1):az (ij z x).1:=(zU z.1 x h (ha x hx)).2.2.1
theorem zt {r:Resu}(h:gY r):∀y∈r.frames,y.length≤4294967296:=by
 unfold gY at h
 exact h.2.1
theorem Sw (s:Stac)(xs:List Acti)(hs:az s)(ha:∀a∈xs,ba a):ES.f (s,xs,())=((xs.take 60).foldl ij (s,[],[])).2.2:=by
 simp only[PX,ES,qV,RJ,lB,aN]
 have ha2:∀a∈xs.take 60,ba a:=λa h=>ha a (List.mem_of_mem_take h)
 obtain⟨a',e1,e2⟩:=E6 (W:=Empty) (λa:Stac×List Issu×List Issu=>a) ij (λz=>az z.1) (xs.take 60) (acg _ ha2) (f:=λj a=>(ux (xs.take 60) j a).nice) (xs.take 60).length (λj x a hj hxj hsa=>by
  obtain⟨h1,_,_,h4,_⟩:=zU a.1 x hsa (ha2 x (List.mem_of_getElem? hxj))
  simp only[PX,ux,af,getD_some hxj,h1,Bl a.1 x (nD (ha2 x (List.mem_of_getElem? hxj))),A0,BC a.1 _ (zt h4)]
  cases hB:(mX a.1 x).2 with
  |false=>exact⟨_,rfl,by unfold ij;rw[hB];rfl⟩
  |true=>
   cases hT:a.2.1.any (λy=>Oi y (mX a.1 x).1)with
   |true=>exact⟨_,rfl,by unfold ij;rw[hB,hT];rfl⟩
   |false=>exact⟨_,rfl,by unfold ij;rw[hB,hT];rfl⟩) (xs.take 60) 0 (s,[],[]) (λi _=>by rw[Nat.zero_add]) (by omega) hs
 refine(congrArg (Stp.elim _ _) e1).trans ?_
 simp only[Stp.elim,e2]
theorem U3 (s:Stac)(xs:List Acti)(hs:az s)(ha:∀a∈xs,ba a):Dm.f (s,xs,())=((xs.take 60).foldl ij (s,[],[])).2.2:=by
 simp only[PX,Dm,lk,aN]
 obtain⟨a',e1,e2⟩:=E6 (W:=List Issu) (λa:Stac×List Issu×List Issu=>(a.1,a.2.2,a.2.1)) ij (λz=>az z.1) xs (acg _ ha) (f:=λj a=>(jC xs j a).nice) 60 (λj x a hj hxj hsa=>by
  have hx:=ha x (List.mem_of_getElem? hxj)
  obtain⟨_,h1,_,h4,_⟩:=zU a.1 x hsa hx
  simp only[PX,jC,af,getD_some hxj,h1,NZ a.1 x hsa hx,BE,NA a.1 _ (zt h4),decide_eq_true (show(j:Int)<60 by omega),cond_true]
  cases hB:(mX a.1 x).2 with
  |false=>exact⟨_,rfl,by unfold ij;simp only[hB];rfl⟩
  |true=>
   cases hT:a.2.2.any (λy=>Oi y (mX a.1 x).1)with
   |true=>exact⟨_,rfl,by unfold ij;simp only[hB,hT];rfl⟩
   |false=>exact⟨_,rfl,by unfold ij;simp only[hB,hT];rfl⟩) (xs.take 60) 0 (s,[],[]) (λi hi=>by
   rw[Nat.zero_add,List.getElem?_take_of_lt (by rw[List.length_take]at hi;omega)]) (by rw[List.length_take];omega) hs
 rw[List.length_take,show((0:Nat):Int)=0 from rfl]at e1
 have h60:(jC xs 60 a').nice= .out a'.2.1:=by
  simp only[PX,jC,show decide ((60:Int)<60)=false from rfl,cond_false]
 have e3:=U2 (f:=λj a=>(jC xs j a).nice) xs.length (s,[],[]) a' _ e1 h60
 have e4:a'.2.1=((xs.take 60).foldl ij (s,[],[])).2.2:=congrArg (λz:Stac×List Issu×List Issu=>z.2.2) e2
 refine(congrArg (Stp.elim _ _) e3).trans ?_
 split<;>(simp only[Stp.elim,PX];exact e4)
theorem TB:∀(xs:List Acti) (z:Stac×List Issu×List Issu) (y:Issu),y∈z.2.2→y∈(xs.foldl ij z).2.2
 |[],_,_,h=>h
 |a::r,z,y,h=>TB r (ij z a) y (by
  unfold ij
  cases((mX z.1 a).2&& !z.2.1.any (λx=>Oi x (mX z.1 a).1))with
  |false=>exact h
  |true=>exact List.mem_append_left _ h)
theorem JR {Z:Type}(S:Z→Acti→Z)(xs:List Acti)(z:Z)(j:Nat)(x:Acti)(h:xs[j]? =some x):(xs.take (j+1)).foldl S z=S ((xs.take j).foldl S z) x:=by
 rw[List.take_succ,h,List.foldl_append];rfl
theorem aeo (xs:List Acti)(ha:∀a∈xs,ba a)(z:Stac×List Issu×List Issu)(h:az z.1):az (xs.foldl ij z).1:=by
 induction xs generalizing z with
 |nil=>exact h
 |cons a r ih=>exact ih (λb hb=>ha b (by simp[hb])) _ (acg (a::r) ha z a (by simp) h)
theorem afb (xs:List Acti)(z:Stac×List Issu×List Issu)(j:Nat)(x:Acti)(h:xs[j]? =some x)(h1:(mX ((xs.take j).foldl ij z).1 x).2=true)(h2:((xs.take j).foldl ij z).2.1.any (λy=>Oi y (mX ((xs.take j).foldl ij z).1 x).1)=false):(xs.foldl ij z).2.2.any (λy=>Oi y (mX ((xs.take j).foldl ij z).1 x).1)=true:=by
 have e:xs.foldl ij z=(xs.drop (j+1)).foldl ij ((xs.take (j+1)).foldl ij z):=by
  rw[←List.foldl_append,List.take_append_drop]
 have hm:(mX ((xs.take j).foldl ij z).1 x).1∈((xs.take (j+1)).foldl ij z).2.2:=by
  rw[JR ij xs z j x h]
  generalize(xs.take j).foldl ij z=z' at h1 h2⊢
  show(mX z'.1 x).1∈(bif (mX z'.1 x).2&& !z'.2.1.any (λy=>Oi y (mX z'.1 x).1)then z'.2.2++[(mX z'.1 x).1]else z'.2.2)
  rw[h1,h2]
  simp
 have:=TB (xs.drop (j+1)) _ _ hm
 rw[←e]at this
 rw[List.any_eq_true]
 exact⟨_,this,ab5 _⟩
theorem P8 (x:List Int)(hx:x.length≤1048576):az (k8.f (x,())).1∧∀a∈(k8.f (x,())).2,ba a:=by
 have hd:=k8.c.h (x,()) ⟨by simp only[sS];omega,hx⟩
 simp only[PX]at hd
 exact⟨hd.1,λa ha=>hd.2.2 a ha⟩
theorem aeD (s:Stac)(a:Acti)(hr:a.text.length≤4294967296)(h:(mX s a).2=true):(bG.f (s.door.keys,(mX s a).1.tuple,(mX s a).1.seq,(mX s a).1.cookie,())).2.2=true:=by
 revert h
 unfold mX
 by_cases hm:(mJ s a).2.made=2
 ·rw[if_pos hm];intro _;exact(Ch s a hr hm).2.2.2
 ·rw[if_neg hm];intro h;cases h
set_option maxHeartbeats 2000000 in theorem Ry (x:List Int):nu.f (x,())=true:=by
 rcases Bool.eq_false_or_eq_true (LH.f (x,()))with hb|hb
 ·simp only[FX.f,PX,nu,hb,cond_true]
 have hx:=adr x hb
 obtain⟨hs,ha⟩:=P8 x hx
 obtain⟨⟨s,xs⟩,hz⟩:∃z,k8.f (x,())=z:=⟨_,rfl⟩
 rw[hz]at hs ha
 have h1:=Sw s xs hs ha
 have h2:=U3 s xs hs ha
 have ha2:∀a∈xs.take 60,ba a:=λa h=>ha a (List.mem_of_mem_take h)
 have hin:=afb (xs.take 60) (s,[],[])
 obtain⟨bad,hbad⟩:∃b,((xs.take 60).foldl ij (s,[],[])).2.2=b:=⟨_,rfl⟩
 rw[hbad]at h1 h2 hin
 have hone:∀(j:Nat) (x:Acti),j<60→xs[j]? =some x→(d7 xs bad (j:Int) ((((xs.take 60).take j).foldl ij (s,[],[])).1,(((xs.take 60).take j).foldl ij (s,[],[])).2.1)).nice= .next ((((xs.take 60).take (j+1)).foldl ij (s,[],[])).1,(((xs.take 60).take (j+1)).foldl ij (s,[],[])).2.1):=by
  intro j x hj hxj
  have hxj2:(xs.take 60)[j]? =some x:=by rw[List.getElem?_take_of_lt hj];exact hxj
  have hax:=ha x (List.mem_of_getElem? hxj)
  have hin:=hin j x hxj2
  rw[JR ij (xs.take 60) (s,[],[]) j x hxj2]
  have hst:=aeo ((xs.take 60).take j) (λa h=>ha2 a (List.mem_of_mem_take h)) (s,[],[]) hs
  generalize((xs.take 60).take j).foldl ij (s,[],[])=z at hin hst⊢
  obtain⟨_,h5,_,h4,_⟩:=zU z.1 x hst hax
  have hck:=aeD z.1 x (nD hax)
  simp only[PX,d7,af,getD_some hxj,h5,NY z.1 x hst hax,A0,BE,BC z.1 _ (zt h4),A4,decide_eq_true (show(j:Int)<60 by omega),cond_true]
  cases hb:(mX z.1 x).2 with
  |false=>rfl
  |true=>
   rw[hck hb]
   cases hT:z.2.1.any (λy=>Oi y (mX z.1 x).1)with
   |true=>cases bad.any (λy=>Oi y (mX z.1 x).1)<;>rfl
   |false=>rw[hin hb hT];rfl
 have hrun:∀(k j:Nat),j+k≤60→j+k≤xs.length→aP (λj a=>(d7 xs bad j a).nice) 1 k (j:Int) ((((xs.take 60).take j).foldl ij (s,[],[])).1,(((xs.take 60).take j).foldl ij (s,[],[])).2.1)= .next ((((xs.take 60).take (j+k)).foldl ij (s,[],[])).1,(((xs.take 60).take (j+k)).foldl ij (s,[],[])).2.1):=by
  intro k
  induction k with
  |zero=>intro j _ _;rfl
  |succ k ih=>
   intro j h3 h4
   simp only[aP,hone j xs[j] (by omega) (List.getElem?_eq_getElem (by omega)),Stp.elim]
   rw[show(j:Int)+1=((j+1:Nat):Int) by omega,ih (j+1) (by omega) (by omega),show j+1+k=j+(k+1) by omega]
 have hr0:=hrun (min 60 xs.length) 0 (by omega) (by omega)
 rw[show((0:Nat):Int)=0 from rfl,List.take_zero]at hr0
 obtain⟨b',hb'⟩:∃b',((((xs.take 60).take (0+min 60 xs.length)).foldl ij (s,[],[])).1,(((xs.take 60).take (0+min 60 xs.length)).foldl ij (s,[],[])).2.1)=b':=⟨_,rfl⟩
 rw[hb']at hr0
 have h60:(d7 xs bad 60 b').nice= .out (.inr ()):=by
  simp only[PX,d7,show decide ((60:Int)<60)=false from rfl,cond_false]
 have e3:=U2 (f:=λj a=>(d7 xs bad j a).nice) xs.length (s,[]) b' _ hr0 h60
 have e0:aP (λj a=>(nG bad bad j a).nice) 1 bad.length 0 ()= .next ():=ZN _ λj hj=>by
  simp only[PX,nG,beq_self_eq_true,Bool.and_self,Bool.not_true,cond_false]
 simp only[FX.f,PX,nu,hb,cond_false,hz,h1,h2,bne_self_eq_false,dR,dN,aN]
 rw[e0]
 simp only[Stp.elim]
 refine(congrArg (Stp.elim _ _) e3).trans ?_
 split<;>(simp only[Stp.elim,PX])

end
end Go.Proofs.YtfpdenjmlnhnnaaGreat
