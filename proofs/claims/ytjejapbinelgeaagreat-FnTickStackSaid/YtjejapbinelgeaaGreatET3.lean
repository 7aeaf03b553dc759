/-
  Contracts of functions and plain laws (printed by a program): each theorem says what a function of the program returns; conditions are its hypotheses.
-/
import Derived.Test.YtjejapbinelgeaaGreatET2
set_option linter.all false
set_option maxRecDepth 4000
namespace Go.Proofs.YtjejapbinelgeaaGreat
open Go Go.RowKit
noncomputable section
theorem i_TickConn_eq (c:Conn):i_TickConn.f (c,())=TC c:=by
 simp only[PX,i_TickConn,q_cloneConn]
 unfold TC
 cases hw:i_Waits.f (c,())with
 |false=>
  simp only[Bool.not_false,cond_true,Bool.false_eq_true,if_false]
  cases i_ConnOk.f (c,())<;>rfl
 |true=>
  obtain⟨h1,h2⟩:=Waits_ok c hw
  have hc:=(CO_iff c).1 h1
  have hr:=tick0_rng hc
  have r0:=hc.r0
  have r3:=hc.r3
  have w0:=hc.w0
  have w1:=hc.w1
  have m1:=hc.m1
  simp only[Bool.not_true,cond_false,if_true]
  by_cases e1:c.timer=0
  ·have t1:(c.timer==0)=true:=by simp[e1]
   by_cases e2:c.state=7
   ·have t2:(c.state==7)=true:=by simp[e2]
    have t3:tick0 c-1=3:=by unfold tick0;rw[if_pos e1,if_pos e2];rfl
    rw[t3]
    simp only[t1,t2,cond_true]
    rfl
   ·have t2:(c.state==7)=false:=by simp[e2]
    have t3:tick0 c-1=2:=by unfold tick0;rw[if_pos e1,if_neg e2];rfl
    rw[t3]
    simp only[t1,t2,cond_true,cond_false]
    rfl
  have t1:(c.timer==0)=false:=by simp[e1]
  have t3:tick0 c=c.timer:=by unfold tick0;rw[if_neg e1]
  rw[t3]at hr⊢
  have e1:IntKind.wrap .i64 (c.timer-1)=c.timer-1:=wrap64 (by omega) (by omega)
  have e2:IntKind.wrap .i64 (c.tries+1)=c.tries+1:=wrap64 (by omega) (by omega)
  have e4:(if c.window<1 then 1 else c.window)=if c.window=0 then 1 else c.window:=by split<;>split<;>omega
  simp only[t1,cond_false]
  dsimp only[Tr.nice]
  simp only[PX,e1,e2]
  by_cases c1:0<c.timer-1
  ·simp only[if_pos c1,decide_eq_true c1,cond_true]
  have e3:c.timer-1=0:=by omega
  simp only[e3,Int.lt_irrefl,if_false,decide_false,cond_false,letK_eq]
  by_cases c2:c.state=7
  ·simp only[if_pos c2,show(c.state==7)=true by simp[c2],cond_true]
  simp only[if_neg c2,show(c.state==7)=false by simp[c2],cond_false]
  by_cases c3:c.tries=3
  ·simp only[if_pos c3,show(c.tries==3)=true by simp[c3],cond_true]
  simp only[if_neg c3,show(c.tries==3)=false by simp[c3],cond_false]
  by_cases c4:c.window=0
  ·simp only[if_pos c4,show(c.window==0)=true by simp[c4],cond_true]
   rfl
  ·simp only[if_neg c4,show(c.window==0)=false by simp[c4],cond_false]
   rfl
theorem s_TickConn_eq (c:Conn)(hs:SmallP c.r.held):s_TickConn.f (c,())=TC c:=by
 simp only[PX,s_TickConn,q_l19Copy,q_Waits c hs,q_ConnOk c hs]
 unfold TC
 cases hw:i_Waits.f (c,())with
 |false=>
  simp only[Bool.not_false,cond_true,Bool.false_eq_true,if_false]
  cases i_ConnOk.f (c,())<;>rfl
 |true=>
  obtain⟨h1,h2⟩:=Waits_ok c hw
  have hc:=(CO_iff c).1 h1
  have hr:=tick0_rng hc
  have r0:=hc.r0
  have r3:=hc.r3
  have w0:=hc.w0
  have w1:=hc.w1
  have m1:=hc.m1
  simp only[Bool.not_true,cond_false,if_true]
  by_cases e1:c.timer=0
  ·have t1:(c.timer==0)=true:=by simp[e1]
   by_cases e2:c.state=7
   ·have t2:(c.state==7)=true:=by simp[e2]
    have t3:tick0 c-1=3:=by unfold tick0;rw[if_pos e1,if_pos e2];rfl
    rw[t3]
    simp only[t1,t2,cond_true]
    rfl
   ·have t2:(c.state==7)=false:=by simp[e2]
    have t3:tick0 c-1=2:=by unfold tick0;rw[if_pos e1,if_neg e2];rfl
    rw[t3]
    simp only[t1,t2,cond_true,cond_false]
    rfl
  have t1:(c.timer==0)=false:=by simp[e1]
  have t3:tick0 c=c.timer:=by unfold tick0;rw[if_neg e1]
  rw[t3]at hr⊢
  have e1:IntKind.wrap .i64 (c.timer-1)=c.timer-1:=wrap64 (by omega) (by omega)
  have e2:IntKind.wrap .i64 (c.tries+1)=c.tries+1:=wrap64 (by omega) (by omega)
  have e4:(if c.window<1 then 1 else c.window)=if c.window=0 then 1 else c.window:=by split<;>split<;>omega
  simp only[t1,cond_false]
  dsimp only[Tr.nice]
  simp only[PX,e1,e2,s_l1Max_eq,q_Rewound,q_AckOf,e4]
  by_cases c1:0<c.timer-1
  ·simp only[if_pos c1,decide_eq_true c1,cond_true]
  have e3:c.timer-1=0:=by omega
  simp only[e3,Int.lt_irrefl,if_false,decide_false,cond_false,letK_eq]
  by_cases c2:c.state=7
  ·simp only[if_pos c2,show(c.state==7)=true by simp[c2],cond_true]
  simp only[if_neg c2,show(c.state==7)=false by simp[c2],cond_false]
  by_cases c3:c.tries=3
  ·simp only[if_pos c3,show(c.tries==3)=true by simp[c3],cond_true]
  simp only[if_neg c3,show(c.tries==3)=false by simp[c3],cond_false]
  have e5:=q_Pump ({c with s:=i_Rewound.f (c.s,()),timer:=0,tries:=c.tries+1}) (if c.window=0 then 1 else c.window) (by split<;>omega) hs
  simp only[e5]
theorem listN_fm {T A W:Type}(p:T→Bool)(g:T→A):∀(r:List T) (j:Nat) (a:List A),listN (W:=W) (fun _ x (a:List A)=>bif p x then .next (a++[g x])else .next a) j r a= .next (a++(r.filter p).map g)
 |[],_,a=>by simp[listN]
 |x::r,j,a=>by
  cases h:p x<;>simp only[listN,h,cond_true,cond_false,Stp.elim,listN_fm p g r,List.filter_cons,if_true,Bool.false_eq_true,if_false,List.map_cons,List.append_assoc,List.cons_append,List.nil_append]
def agedN (xs:List Half):List Half:=(xs.filter (fun h=>decide (h.age<6))).map (fun h=>({h with age:=IntKind.wrap .i64 (h.age+1)}:Half))
theorem s_AgedHalves_eq (xs:List Half):s_AgedHalves.f (xs,())=agedN xs:=by
 simp only[PX,s_AgedHalves,s_AgedHalves_L0_d]
 rw[toNat_sub0,forN_list xs _ rfl (F:=fun _ x (a:List Half)=>bif decide (x.age<6)then .next (a++[({x with age:=IntKind.wrap .i64 (x.age+1)}:Half)])else .next a) (by
  intro j x a h
  simp only[PX,s_AgedHalves_L0_T,toNat_cast,getD_some h])]
 rw[listN_fm (fun x:Half=>decide (x.age<6)) (fun x=>({x with age:=IntKind.wrap .i64 (x.age+1)}:Half))]
 rfl
theorem i_AgedHalves_eq (xs:List Half)(ha:∀y∈xs,y.age≤6)(hb:∀y∈xs,0≤y.age):i_AgedHalves.f (xs,())=agedN xs:=by
 simp only[PX,i_AgedHalves,i_AgedHalves_L0_d]
 rw[toNat_sub0,forN_list xs _ rfl (F:=fun _ x (a:List Half)=>bif decide (x.age<6)then .next (a++[({x with age:=IntKind.wrap .i64 (x.age+1)}:Half)])else .next a) (by
  intro j x a h
  have h1:=ha x (mem_at h)
  have h2:=hb x (mem_at h)
  have h3:decide (IntKind.wrap .i64 (x.age+1)≤6)=decide (x.age<6):=by rw[wrap64 (by omega) (by omega)];apply decide_eq_decide.2;omega
  simp only[PX,i_AgedHalves_L0_T,toNat_cast,getD_some h,h3])]
 rw[listN_fm (fun x:Half=>decide (x.age<6)) (fun x=>({x with age:=IntKind.wrap .i64 (x.age+1)}:Half))]
 rfl
theorem del_loop {T:Type}(p:T→Bool)(xs:List T){f:Int→Int×List T→Stp (Int×List T) Empty}(hf:∀(j k:Nat) (ys:List T) x,ys[j]? =some x→k≤j→j<xs.length→f (j:Int) ((k:Int),ys)=bif p x then .next ((k:Int),ys)else .next (((k+1:Nat):Int),ys.set k x)):
  ∀(n j k:Nat) (ys:List T),ys.length=xs.length→k≤j→j+n=xs.length→ys.take k=(xs.take j).filter (fun x=> !p x)→ys.drop j=xs.drop j→∃(k':Nat) (zs:List T),forN f 1 n (j:Int) ((k:Int),ys)= .next ((k':Int),zs)∧zs.length=xs.length∧k'≤xs.length∧zs.take k'=xs.filter (fun x=> !p x)
 |0,j,k,ys,hl,hk,hn,ht,hd=>⟨k,ys,rfl,hl,by omega,by rw[ht,List.take_of_length_le (by omega)]⟩
 |n+1,j,k,ys,hl,hk,hn,ht,hd=>by
  have hj:j<xs.length:=by omega
  have hy:ys[j]? =some xs[j]:=by
   have:(ys.drop j)[0]? =(xs.drop j)[0]? :=by rw[hd]
   simpa [List.getElem?_drop,hj]using this
  have e:(xs.take (j+1)).filter (fun x=> !p x)=(xs.take j).filter (fun x=> !p x)++(if p xs[j]=true then[]else[xs[j]]):=by
   rw[List.take_succ_eq_append_getElem hj,List.filter_append]
   congr 1
   cases hp:p xs[j]<;>simp[hp]
  have hd2:ys.drop (j+1)=xs.drop (j+1):=by
   rw[←List.drop_drop,←List.drop_drop,hd]
  simp only[forN,hf j k ys xs[j] hy hk hj]
  have c1:((j:Int)+1)=((j+1:Nat):Int):=by omega
  cases hp:p xs[j]with
  |true=>
   simp only[cond_true,Stp.elim]
   rw[c1]
   exact del_loop p xs hf n (j+1) k ys hl (by omega) (by omega) (by rw[e,hp,ht];simp) hd2
  |false=>
   simp only[cond_false,Stp.elim]
   rw[c1]
   refine del_loop p xs hf n (j+1) (k+1) (ys.set k xs[j]) (by rw[List.length_set];exact hl) (by omega) (by omega) ?_ ?_
   ·rw[e,hp,List.take_succ_eq_append_getElem (by rw[List.length_set];omega),List.take_set_of_le (Nat.le_refl _),ht]
    simp
   ·rw[List.drop_set_of_lt (by omega)];exact hd2
theorem Contains_any (xs:List Tupl)(t:Tupl):g_Contains_Tuple.f (xs,t,())=xs.any (eqT t):=by
 simp only[PX,g_Contains_Tuple,Index_Tuple_eq2,fidx_nn]
def keepC (t:Tabl)(c:Conn):Bool:=bif c.state != 8 then true else t.waiting.any (eqT c.tuple)
def keepW (t:Tabl)(x:Tupl):Bool:=decide (0≤i_FindConn.f (t,x,()))
def sweptN (t:Tabl):Tabl:=⟨t.conns.filter (keepC t),t.waiting.filter (keepW t)⟩
theorem listN_fm2 {A B W:Type}(p:A→Bool)(mk:List A→B)(z:B)(get:B→List A)(hg:∀l,get (mk l)=l):∀(r:List A) (j:Nat) (l:List A),listN (W:=W) (fun _ x (a:B×B)=>bif p x then .next (z,mk (get a.2++[x]))else .next (z,mk (get a.2))) j r (z,mk l)= .next (z,mk (l++r.filter p))
 |[],_,l=>by simp[listN]
 |x::r,j,l=>by
  cases h:p x<;>simp only[listN,h,cond_true,cond_false,Stp.elim,hg,listN_fm2 p mk z get hg r,List.filter_cons,if_true,Bool.false_eq_true,if_false,List.append_assoc,List.cons_append,List.nil_append]
theorem s_Swept_eq (t:Tabl):s_Swept.f (t,())=sweptN t:=by
 simp only[PX,s_Swept,s_Swept_L0_d,s_Swept_L1_d]
 have h1:forN (fun j a=>(s_Swept_L0_T t j a).nice) 1 (Int.toNat ((t.conns.length:Int)-0)) 0 ((⟨[],[]⟩:Tabl),(⟨[],[]⟩:Tabl))= .next ((⟨[],[]⟩:Tabl),(⟨t.conns.filter (keepC t),[]⟩:Tabl)):=by
  rw[toNat_sub0,forN_list t.conns _ rfl (F:=fun _ x (a:Tabl×Tabl)=>bif keepC t x then .next (⟨[],[]⟩,(⟨a.2.conns++[x],[]⟩:Tabl))else .next (⟨[],[]⟩,(⟨a.2.conns,[]⟩:Tabl))) (by
   intro j x a h
   simp only[PX,s_Swept_L0_T,toNat_cast,getD_some h,l25Waits_any,q_l19Copy,keepC]
   cases(x.state != 8)with
   |true=>rfl
   |false=>cases t.waiting.any (eqT x.tuple)<;>rfl)]
  exact listN_fm2 (keepC t) (fun l=>(⟨l,[]⟩:Tabl)) ⟨[],[]⟩ Tabl.conns (fun _=>rfl) t.conns 0 []
 have h2:∀l:List Conn,forN (fun j a=>(s_Swept_L1_T t j a).nice) 1 (Int.toNat ((t.waiting.length:Int)-0)) 0 ((⟨[],[]⟩:Tabl),(⟨l,[]⟩:Tabl))= .next ((⟨[],[]⟩:Tabl),(⟨l,t.waiting.filter (keepW t)⟩:Tabl)):=by
  intro l
  rw[toNat_sub0,forN_list t.waiting _ rfl (F:=fun _ x (a:Tabl×Tabl)=>bif keepW t x then .next (⟨[],[]⟩,(⟨a.2.conns,a.2.waiting++[x]⟩:Tabl))else .next (⟨[],[]⟩,a.2)) (by
   intro j x a h
   simp only[PX,s_Swept_L1_T,toNat_cast,getD_some h,q_FindConn,keepW])]
  have:∀(r:List Tupl) (j:Nat) (l2:List Tupl),listN (W:=Empty) (fun _ x (a:Tabl×Tabl)=>bif keepW t x then .next (⟨[],[]⟩,(⟨a.2.conns,a.2.waiting++[x]⟩:Tabl))else .next (⟨[],[]⟩,a.2)) j r (⟨[],[]⟩,(⟨l,l2⟩:Tabl))= .next (⟨[],[]⟩,(⟨l,l2++r.filter (keepW t)⟩:Tabl)):=by
   intro r
   induction r with
   |nil=>intro j l2;simp[listN]
   |cons x r ih=>
    intro j l2
    cases h:keepW t x<;>simp only[listN,h,cond_true,cond_false,Stp.elim,ih,List.filter_cons,if_true,Bool.false_eq_true,if_false,List.append_assoc,List.cons_append,List.nil_append]
  exact this t.waiting 0 []
 simp only[h1,Stp.elim,PX,h2]
 rfl
theorem fidx_none {T:Type}(p:T→Bool)(xs:List T)(h:(fidx p xs== -1)=true):xs.filter (fun x=> !p x)=xs:=by
 unfold fidx at h
 cases hf:xs.findIdx? p with
 |some i=>rw[hf]at h;simp at h
 |none=>
  rw[List.findIdx?_eq_none_iff]at hf
  rw[List.filter_eq_self];intro x hx;simp[hf x hx]
theorem fidx_some {T:Type}(p:T→Bool)(xs:List T)(h:(fidx p xs== -1)=false):∃i:Nat,fidx p xs=(i:Int)∧∃hi:i<xs.length,xs.take i=(xs.take (i+1)).filter (fun x=> !p x):=by
 unfold fidx at h⊢
 cases hf:xs.findIdx? p with
 |none=>rw[hf]at h;simp at h
 |some i=>
  obtain⟨h1,h2,h3⟩:=List.findIdx?_eq_some_iff_getElem.1 hf
  refine⟨i,rfl,h1, ?_⟩
  rw[List.take_succ_eq_append_getElem h1,List.filter_append]
  have e1:(xs.take i).filter (fun x=> !p x)=xs.take i:=by
   rw[List.filter_eq_self]
   intro x hx
   obtain⟨j,hj,rfl⟩:=List.getElem_of_mem hx
   have hj2:j<i:=by rw[List.length_take]at hj;omega
   have:=h3 j hj2
   simp only[List.getElem_take]
   simp[this]
  have e2:[xs[i]].filter (fun x=> !p x)=[]:=by simp[h2]
  rw[e1,e2,List.append_nil]
theorem DelC (xs:List Conn)(t:Tabl)(hl:xs.length≤4294967296):(g_DeleteFunc_Conn_i_Swept_1.f (xs,t,())).2.take (g_DeleteFunc_Conn_i_Swept_1.f (xs,t,())).1=xs.filter (keepC t):=by
 have ep:∀x,i_Swept_1.f (x,t,())= !keepC t x:=by
  intro x
  simp only[PX,i_Swept_1,Contains_any,keepC]
  by_cases h:x.state=8
  ·rw[show(x.state==8)=true by simp[h],show(x.state != 8)=false by simp[h]];rfl
  ·rw[show(x.state==8)=false by simp[h],show(x.state != 8)=true by simp[h]];rfl
 have en:∀l:List Conn,l.filter (keepC t)=l.filter (fun x=> !(!keepC t x)):=fun l=>by simp only[Bool.not_not]
 have ei:g_IndexFunc_Conn_i_Swept_1_o.f (xs,t,())=fidx (fun x=> !keepC t x) xs:=by
  simp only[PX,g_IndexFunc_Conn_i_Swept_1_o,g_IndexFunc_Conn_i_Swept_1_o_L0_d]
  rw[forN_fidx (fun x=> !keepC t x) xs (fun j x a h=>by
   simp only[PX,g_IndexFunc_Conn_i_Swept_1_o_L0_T,toNat_cast,getD_some h,ep])]
  unfold fidx
  cases xs.findIdx? (fun x=> !keepC t x)<;>rfl
 simp only[PX,g_DeleteFunc_Conn_i_Swept_1,g_DeleteFunc_Conn_i_Swept_1_L0_d,ei]
 rw[en]
 cases hf:(fidx (fun x=> !keepC t x) xs== -1)with
 |true=>simp only[cond_true,List.take_length];exact(fidx_none _ _ hf).symm
 |false=>
  obtain⟨i,hi,hlt,ht⟩:=fidx_some _ _ hf
  simp only[hi,cond_false]
  rw[wrap64 (by omega) (by omega)]
  obtain⟨k',zs,e,z1,z2,z3⟩:=del_loop (fun x=> !keepC t x) xs (f:=fun j a=>(g_DeleteFunc_Conn_i_Swept_1_L0_T t j a).nice) (fun j k ys x hx hk hj=>by
   simp only[PX,g_DeleteFunc_Conn_i_Swept_1_L0_T,toNat_cast,getD_some hx,ep]
   rw[wrap64 (by omega) (by omega)]
   cases keepC t x<;>rfl) (xs.length-(i+1)) (i+1) i xs rfl (by omega) (by omega) ht rfl
  rw[show Int.toNat ((xs.length:Int)-((i:Int)+1))=xs.length-(i+1) by omega]
  have e2:((i:Int)+1)=((i+1:Nat):Int):=by omega
  rw[e2,e]
  simp only[Stp.elim,PX]
  rw[←z3,List.append_assoc,List.take_append_of_le_length (by simp;omega)]
  simp
  rw[List.take_take,Nat.min_self]
theorem DelT (xs:List Tupl)(t:Tabl)(hl:xs.length≤4294967296):(g_DeleteFunc_Tuple_i_Swept_2.f (xs,t,())).2.take (g_DeleteFunc_Tuple_i_Swept_2.f (xs,t,())).1=xs.filter (keepW t):=by
 have ep:∀x,i_Swept_2.f (x,t,())= !keepW t x:=by
  intro x
  simp only[PX,i_Swept_2,keepW]
  rw[←decide_not];apply decide_eq_decide.2;omega
 have en:∀l:List Tupl,l.filter (keepW t)=l.filter (fun x=> !(!keepW t x)):=fun l=>by simp only[Bool.not_not]
 have ei:g_IndexFunc_Tuple_i_Swept_2_o.f (xs,t,())=fidx (fun x=> !keepW t x) xs:=by
  simp only[PX,g_IndexFunc_Tuple_i_Swept_2_o,g_IndexFunc_Tuple_i_Swept_2_o_L0_d]
  rw[forN_fidx (fun x=> !keepW t x) xs (fun j x a h=>by
   simp only[PX,g_IndexFunc_Tuple_i_Swept_2_o_L0_T,toNat_cast,getD_some h,ep])]
  unfold fidx
  cases xs.findIdx? (fun x=> !keepW t x)<;>rfl
 simp only[PX,g_DeleteFunc_Tuple_i_Swept_2,g_DeleteFunc_Tuple_i_Swept_2_L0_d,ei]
 rw[en]
 cases hf:(fidx (fun x=> !keepW t x) xs== -1)with
 |true=>simp only[cond_true,List.take_length];exact(fidx_none _ _ hf).symm
 |false=>
  obtain⟨i,hi,hlt,ht⟩:=fidx_some _ _ hf
  simp only[hi,cond_false]
  rw[wrap64 (by omega) (by omega)]
  obtain⟨k',zs,e,z1,z2,z3⟩:=del_loop (fun x=> !keepW t x) xs (f:=fun j a=>(g_DeleteFunc_Tuple_i_Swept_2_L0_T t j a).nice) (fun j k ys x hx hk hj=>by
   simp only[PX,g_DeleteFunc_Tuple_i_Swept_2_L0_T,toNat_cast,getD_some hx,ep]
   rw[wrap64 (by omega) (by omega)]
   cases keepW t x<;>rfl) (xs.length-(i+1)) (i+1) i xs rfl (by omega) (by omega) ht rfl
  rw[show Int.toNat ((xs.length:Int)-((i:Int)+1))=xs.length-(i+1) by omega]
  have e2:((i:Int)+1)=((i+1:Nat):Int):=by omega
  rw[e2,e]
  simp only[Stp.elim,PX]
  rw[←z3,List.append_assoc,List.take_append_of_le_length (by simp;omega)]
  simp
  rw[List.take_take,Nat.min_self]
theorem i_Swept_eq (t:Tabl)(h1:t.conns.length≤4294967296)(h2:t.waiting.length≤4294967296):i_Swept.f (t,())=sweptN t:=by
 simp only[PX,i_Swept,q_cloneTable,DelC _ _ h1,DelT _ _ h2,sweptN]
theorem tick_in (ip:Int)(xs:List Segm){f:Int→Door×List Mail→Stp (Door×List Mail) Empty}(hf:∀(j:Nat) x a,xs[j]? =some x→∃d,f (j:Int) a= .next (d,a.2++[(⟨ip,x⟩:Mail)])):
  ∀(n j:Nat) (d:Door) (l:List Mail),j+n=xs.length→∃d2,forN f 1 n (j:Int) (d,l)= .next (d2,l++(xs.drop j).map (fun g=>(⟨ip,g⟩:Mail)))
 |0,j,d,l,h=>⟨d,by rw[List.drop_of_length_le (by omega)];simp[forN]⟩
 |n+1,j,d,l,h=>by
  have hj:j<xs.length:=by omega
  obtain⟨d1,e1⟩:=hf j xs[j] (d,l) (List.getElem?_eq_getElem hj)
  obtain⟨d2,e2⟩:=tick_in ip xs hf n (j+1) d1 (l++[⟨ip,xs[j]⟩]) (by omega)
  refine⟨d2, ?_⟩
  simp only[forN,e1,Stp.elim]
  rw[show(j:Int)+1=((j+1:Nat):Int) by omega,e2,List.drop_eq_getElem_cons hj]
  simp only[List.map_cons,List.append_assoc,List.cons_append,List.nil_append]
def tickedC (xs:List Conn):List Conn:=xs.map (fun c=>(TC c).1)
def mails (xs:List Conn):List Mail:=xs.flatMap (fun c=>(TC c).2.map (fun g=>(⟨c.tuple.ip,g⟩:Mail)))
theorem tick_loop {E:Type}(out:Conn→List E)(xs:List Conn)(d:Door){f:Int→Door×Door×List E→Stp (Door×Door×List E) Empty}(hf:∀(j:Nat) x (a:Door×Door×List E),a.2.1.table.conns[j]? =some x→xs[j]? =some x→∃z,f (j:Int) a= .next (z,({a.2.1 with table.conns:=a.2.1.table.conns.set j (TC x).1}:Door),a.2.2++out x)):
  ∀(n j:Nat) (z:Door) (ys:List Conn) (l:List E),j+n=xs.length→ys.length=xs.length→ys.drop j=xs.drop j→ys.take j=tickedC (xs.take j)→∃z2,forN f 1 n (j:Int) (z,({d with table.conns:=ys}:Door),l)= .next (z2,({d with table.conns:=tickedC xs}:Door),l++(xs.drop j).flatMap out)
 |0,j,z,ys,l,h,hl,hd,ht=>⟨z,by
  rw[List.take_of_length_le (by omega),List.take_of_length_le (by omega)]at ht
  rw[List.drop_of_length_le (by omega),ht];simp[forN]⟩
 |n+1,j,z,ys,l,h,hl,hd,ht=>by
  have hj:j<xs.length:=by omega
  have hy:ys[j]? =some xs[j]:=by
   have:(ys.drop j)[0]? =(xs.drop j)[0]? :=by rw[hd]
   simpa [List.getElem?_drop,hj]using this
  obtain⟨z1,e1⟩:=hf j xs[j] (z,({d with table.conns:=ys}:Door),l) hy (List.getElem?_eq_getElem hj)
  have hd2:ys.drop (j+1)=xs.drop (j+1):=by
   rw[←List.drop_drop,←List.drop_drop,hd]
  obtain⟨z2,e2⟩:=tick_loop out xs d hf n (j+1) z1 (ys.set j (TC xs[j]).1) (l++out xs[j]) (by omega) (by rw[List.length_set];exact hl) (by rw[List.drop_set_of_lt (by omega)];exact hd2) (by
   rw[List.take_succ_eq_append_getElem (by rw[List.length_set];omega),List.take_set_of_le (Nat.le_refl _),ht,List.take_succ_eq_append_getElem hj]
   simp only[tickedC,List.map_append,List.map_cons,List.map_nil,List.getElem_set_self])
  refine⟨z2, ?_⟩
  simp only[forN,e1,Stp.elim]
  rw[show(j:Int)+1=((j+1:Nat):Int) by omega]
  refine e2.trans ?_
  rw[List.drop_eq_getElem_cons hj]
  simp only[List.flatMap_cons,List.append_assoc]
theorem s_TickDoor_eq (d:Door)(hs:smallD d):s_TickDoor.f (d,())=bif i_DoorOk.f (d,())then({d with clock:=s_l4Rest.f (IntKind.wrap .i64 (d.clock+1),()),chal:=0,halves:=agedN d.halves,table:=sweptN ⟨tickedC d.table.conns,d.table.waiting⟩},d.table.conns.flatMap (fun c=>(TC c).2))else(d,[]):=by
 simp only[PX,s_TickDoor,q_l26Copy,q_DoorOk d hs,s_AgedHalves_eq,s_TickDoor_L0_d]
 cases i_DoorOk.f (d,())with
 |false=>rfl
 |true=>
  simp only[Bool.not_true,cond_false,cond_true]
  obtain⟨z2,e⟩:=tick_loop (fun c=>(TC c).2) d.table.conns ({d with clock:=s_l4Rest.f (IntKind.wrap .i64 (d.clock+1),()),chal:=0,halves:=agedN d.halves}:Door) (f:=fun j a=>(s_TickDoor_L0_T j a).nice) (fun j x a h1 h2=>by
   simp only[PX,s_TickDoor_L0_T,toNat_cast,getD_some h1,s_TickConn_eq x (hs x (mem_at h2))]
   exact⟨_,rfl⟩) d.table.conns.length 0 (⟨0,0,⟨0,⟨false,0,0,[]⟩,⟨false,0,0,[]⟩,false⟩,⟨0,0,0,0⟩,[],⟨[],[]⟩,0⟩:Door) d.table.conns [] (by omega) rfl rfl rfl
  rw[toNat_sub0]
  refine(congrArg (Stp.elim _ _) e).trans ?_
  simp only[Stp.elim,s_Swept_eq,List.nil_append,List.drop_zero]
theorem i_tickDoor_eq (d:Door)(ha:∀y∈d.halves,y.age≤6)(hb:∀y∈d.halves,0≤y.age)(h1:d.table.conns.length≤4294967296)(h2:d.table.waiting.length≤4294967296)(hd:i_DoorOk.f (d,())=true):i_tickDoor.f (d,())=({d with clock:=i_SeqAdd.f (d.clock,1,()),chal:=0,halves:=agedN d.halves,table:=sweptN ⟨tickedC d.table.conns,d.table.waiting⟩},mails d.table.conns):=by
 simp only[PX,i_tickDoor,q_cloneDoor,hd,i_AgedHalves_eq _ ha hb,i_tickDoor_L0_d,Bool.not_true,cond_false]
 obtain⟨z2,e⟩:=tick_loop (fun c=>(TC c).2.map (fun g=>(⟨c.tuple.ip,g⟩:Mail))) d.table.conns ({d with clock:=i_SeqAdd.f (d.clock,1,()),chal:=0,halves:=agedN d.halves}:Door) (f:=fun j a=>(i_tickDoor_L0_T d.table.conns (d.table.conns.length:Int) j a).nice) (fun j x a h1 h2=>by
  simp only[PX,i_tickDoor_L0_T,toNat_cast,getD_some h2,i_TickConn_eq,i_tickDoor_L0_0_d]
  obtain⟨d2,e2⟩:=tick_in x.tuple.ip (TC x).2 (f:=fun k a=>(i_tickDoor_L0_0_T x (TC x).2 k a).nice) (fun j y a h=>by
   simp only[PX,i_tickDoor_L0_0_T,toNat_cast,getD_some h]
   exact⟨_,rfl⟩) (TC x).2.length 0 ({a.1 with keys.now.rows:=[],keys.before.rows:=[],halves:=[],table.conns:=[],table.waiting:=[]}:Door) a.2.2 (by omega)
  rw[toNat_sub0]
  exact⟨_,(congrArg (Stp.elim _ _) e2).trans rfl⟩) d.table.conns.length 0 (⟨0,0,⟨0,⟨false,0,0,[]⟩,⟨false,0,0,[]⟩,false⟩,⟨0,0,0,0⟩,[],⟨[],[]⟩,0⟩:Door) d.table.conns [] (by omega) rfl rfl rfl
 rw[toNat_sub0]
 refine(congrArg (Stp.elim _ _) e).trans ?_
 simp only[Stp.elim,List.nil_append,List.drop_zero]
 rw[i_Swept_eq ⟨tickedC d.table.conns,d.table.waiting⟩ (by simp only[tickedC,List.length_map];exact h1) h2]
 rfl
theorem eqT_iff (a b:Tupl):eqT a b=true↔a=b:=by
 obtain⟨a1,a2,a3⟩:=a
 obtain⟨b1,b2,b3⟩:=b
 simp only[eqT,Bool.and_true,Bool.and_eq_true,beq_iff_eq,Tupl.mk.injEq]
 constructor<;>rintro⟨rfl,rfl,rfl⟩<;>exact⟨rfl,rfl,rfl⟩
theorem any_eqT {T:Type}(f:T→Tupl)(xs:List T)(t:Tupl):xs.any (fun h=>eqT t (f h))=true↔t∈xs.map f:=by
 simp only[List.any_eq_true,List.mem_map,eqT_iff]
 constructor
 ·rintro⟨x,h1,h2⟩;exact⟨x,h1,h2.symm⟩
 ·rintro⟨x,h1,h2⟩;exact⟨x,h1,h2.symm⟩
theorem nodup_any {T:Type}(f:T→Tupl)(xs:List T):(∀(j:Nat) (y:T),xs[j]? =some y→(xs.take j).any (fun h=>eqT (f y) (f h))=false)↔(xs.map f).Nodup:=by
 unfold List.Nodup
 rw[List.pairwise_iff_getElem]
 constructor
 ·intro h i j hi hj hij he
  rw[List.length_map]at hi hj
  simp only[List.getElem_map]at he
  have:=h j xs[j] (List.getElem?_eq_getElem hj)
  rw[List.any_eq_false]at this
  refine this xs[i] ?_ ((eqT_iff _ _).2 he.symm)
  rw[List.mem_take_iff_getElem]
  exact⟨i,by omega,rfl⟩
 ·intro h j y hy
  rw[List.any_eq_false]
  intro z hz he
  rw[List.mem_take_iff_getElem]at hz
  obtain⟨i,hi,rfl⟩:=hz
  obtain⟨hj,rfl⟩:=List.getElem?_eq_some_iff.1 hy
  have:=h i j (by rw[List.length_map];omega) (by rw[List.length_map];exact hj) (by omega)
  simp only[List.getElem_map]at this
  exact this ((eqT_iff _ _).1 he).symm
structure LO (l:Limi):Prop where
 h1:1≤l.halves
 h2:l.halves≤64
 w1:1≤l.waiting
 w2:l.waiting≤16
 c1:1≤l.conns
 c2:l.conns≤16
 k0:0≤l.chal
 k1:l.chal≤1000
theorem LO_iff (l:Limi):i_LimitsOk.f (l,())=true↔LO l:=by
 simp only[PX,i_LimitsOk,i_within_eq]
 have e:(bif decide (1≤l.halves)&&decide (l.halves≤64)then bif decide (1≤l.waiting)&&decide (l.waiting≤16)then bif decide (1≤l.conns)&&decide (l.conns≤16)then decide (0≤l.chal)&&decide (l.chal≤1000)else false else false else false)=((decide (1≤l.halves)&&decide (l.halves≤64))&&((decide (1≤l.waiting)&&decide (l.waiting≤16))&&((decide (1≤l.conns)&&decide (l.conns≤16))&&(decide (0≤l.chal)&&decide (l.chal≤1000))))):=by
  cases(decide (1≤l.halves)&&decide (l.halves≤64))<;>cases(decide (1≤l.waiting)&&decide (l.waiting≤16))<;>cases(decide (1≤l.conns)&&decide (l.conns≤16))<;>simp
 rw[e]
 simp only[Bool.and_eq_true,decide_eq_true_eq]
 constructor
 ·rintro⟨⟨h1,h2⟩,⟨h3,h4⟩,⟨h5,h6⟩,h7,h8⟩;exact⟨h1,h2,h3,h4,h5,h6,h7,h8⟩
 ·rintro⟨h1,h2,h3,h4,h5,h6,h7,h8⟩;exact⟨⟨h1,h2⟩,⟨h3,h4⟩,⟨h5,h6⟩,h7,h8⟩
structure TO (t:Tabl)(l:Limi):Prop where
 lim:LO l
 nc:(t.conns.length:Int)≤l.conns
 nw:(t.waiting.length:Int)≤l.waiting
 co:∀c∈t.conns,CO c
 dc:(t.conns.map Conn.tuple).Nodup
 dw:t.waiting.Nodup
 wc:∀w∈t.waiting,w∈t.conns.map Conn.tuple
theorem mem_of_all {T:Type}{P:T→Prop}{xs:List T}:(∀(j:Nat) (y:T),xs[j]? =some y→P y)↔∀y∈xs,P y:=by
 constructor
 ·intro h y hy
  obtain⟨j,hj,rfl⟩:=List.getElem_of_mem hy
  exact h j _ (List.getElem?_eq_getElem hj)
 ·intro h j y hy;exact h y (mem_at hy)
theorem forN_all {T W:Type}{f:Int→Unit→Stp Unit W}(xs:List T){P:Nat→T→Prop}(h:∀(j:Nat) (y:T),xs[j]? =some y→(f (j:Int) ()= .next ()↔P j y)):forN f 1 (Int.toNat ((xs.length:Int)-0)) 0 ()= .next ()↔∀(j:Nat) (y:T),xs[j]? =some y→P j y:=by
 rw[toNat_sub0,show(0:Int)=((0:Nat):Int) from rfl,forN_allN]
 constructor
 ·intro h1 j y hy
  exact(h j y hy).1 (h1 j (Nat.zero_le _) (by have:=(List.getElem?_eq_some_iff.1 hy).1;omega))
 ·intro h1 j _ h2
  exact(h j xs[j] (List.getElem?_eq_getElem (by omega))).2 (h1 j _ (List.getElem?_eq_getElem (by omega)))
theorem TO_iff (t:Tabl)(l:Limi):i_TableOk.f (t,l,())=true↔TO t l:=by
 have f1:=forN_all t.conns (f:=fun j a=>(i_TableOk_L0_T t.conns t j a).nice) (P:=fun j y=>CO y∧(t.conns.take j).any (fun h=>eqT y.tuple h.tuple)=false) (fun j y hy=>by
  simp only[PX,i_TableOk_L0_T,toNat_cast,getD_some hy,i_FindConn_eq2]
  rw[fidx_at (fun h:Conn=>eqT y.tuple h.tuple) t.conns j y hy (eqT_refl _),←CO_iff]
  cases i_ConnOk.f (y,())<;>cases(t.conns.take j).any (fun h=>eqT y.tuple h.tuple)<;>simp)
 have f2:=forN_all t.waiting (f:=fun j a=>(i_TableOk_L1_T t.waiting t j a).nice) (P:=fun j y=>y∈t.conns.map Conn.tuple∧(t.waiting.take j).any (fun h=>eqT y h)=false) (fun j y hy=>by
  simp only[PX,i_TableOk_L1_T,toNat_cast,getD_some hy,i_FindConn_eq2,Index_Tuple_eq2,fidx_lt]
  rw[fidx_at (eqT y) t.waiting j y hy (eqT_refl _),←any_eqT]
  cases t.conns.any (fun h=>eqT y h.tuple)<;>cases(t.waiting.take j).any (fun h=>eqT y h)<;>simp)
 have f3:=nodup_any Conn.tuple t.conns
 have f4:=nodup_any (fun x=>x) t.waiting
 rw[List.map_id']at f4
 have f5:forN (fun j a=>(i_TableOk_L0_T t.conns t j a).nice) 1 (Int.toNat ((t.conns.length:Int)-0)) 0 ()= .next ()↔(∀c∈t.conns,CO c)∧(t.conns.map Conn.tuple).Nodup:=by
  rw[f1,←f3,←mem_of_all]
  exact⟨fun h=>⟨fun j y hy=>(h j y hy).1,fun j y hy=>(h j y hy).2⟩,fun h j y hy=>⟨h.1 j y hy,h.2 j y hy⟩⟩
 have f6:forN (fun j a=>(i_TableOk_L1_T t.waiting t j a).nice) 1 (Int.toNat ((t.waiting.length:Int)-0)) 0 ()= .next ()↔(∀w∈t.waiting,w∈t.conns.map Conn.tuple)∧t.waiting.Nodup:=by
  rw[f2,←f4,←mem_of_all]
  exact⟨fun h=>⟨fun j y hy=>(h j y hy).1,fun j y hy=>(h j y hy).2⟩,fun h j y hy=>⟨h.1 j y hy,h.2 j y hy⟩⟩
 have e:i_TableOk.f (t,l,())=true↔i_LimitsOk.f (l,())=true∧(t.conns.length:Int)≤l.conns∧(t.waiting.length:Int)≤l.waiting∧forN (fun j a=>(i_TableOk_L0_T t.conns t j a).nice) 1 (Int.toNat ((t.conns.length:Int)-0)) 0 ()= .next ()∧forN (fun j a=>(i_TableOk_L1_T t.waiting t j a).nice) 1 (Int.toNat ((t.waiting.length:Int)-0)) 0 ()= .next ():=by
  simp only[PX,i_TableOk,i_TableOk_L0_d,i_TableOk_L1_d]
  rw[show((t.conns.length:Int)≤l.conns)↔decide (l.conns<(t.conns.length:Int))=false by simp,show((t.waiting.length:Int)≤l.waiting)↔decide (l.waiting<(t.waiting.length:Int))=false by simp]
  cases i_LimitsOk.f (l,())<;>cases decide (l.conns<(t.conns.length:Int))<;>cases decide (l.waiting<(t.waiting.length:Int))<;>cases forN (fun j a=>(i_TableOk_L0_T t.conns t j a).nice) 1 (Int.toNat ((t.conns.length:Int)-0)) 0 ()<;>cases forN (fun j a=>(i_TableOk_L1_T t.waiting t j a).nice) 1 (Int.toNat ((t.waiting.length:Int)-0)) 0 ()<;>simp[Stp.elim]
 rw[e,LO_iff,f5,f6]
 constructor
 ·rintro⟨h1,h2,h3,⟨h4,h5⟩,h6,h7⟩;exact⟨h1,h2,h3,h4,h5,h7,h6⟩
 ·rintro⟨h1,h2,h3,h4,h5,h7,h6⟩;exact⟨h1,h2,h3,⟨h4,h5⟩,h6,h7⟩
structure HO (xs:List Half):Prop where
 ok:∀h∈xs,halfOk h=true
 nd:(xs.map Half.tuple).Nodup
 len:xs.length≤64
theorem HO_iff (xs:List Half):i_HalvesOk.f (xs,())=true↔HO xs:=by
 rw[HalvesOk_iff]
 have f3:=nodup_any Half.tuple xs
 constructor
 ·rintro⟨h1,h2⟩
  exact⟨mem_of_all.1 fun j y hy=>(h1 j y hy).1,f3.1 fun j y hy=>(h1 j y hy).2,h2⟩
 ·rintro⟨h1,h2,h3⟩
  exact⟨fun j y hy=>⟨h1 y (mem_at hy),f3.2 h2 j y hy⟩,h3⟩
structure DO (d:Door):Prop where
 port:i_WordOk.f (d.port,16,())=true
 c0:0≤d.clock
 c1:d.clock≤4294967295
 keys:i_KeysOk.f (d.keys,())=true
 tab:TO d.table d.limits
 hal:HO d.halves
 nh:(d.halves.length:Int)≤d.limits.halves
 k0:0≤d.chal
 k1:d.chal≤d.limits.chal
 ap:∀h∈d.halves,h.tuple∉d.table.conns.map Conn.tuple
theorem DO_iff (d:Door):i_DoorOk.f (d,())=true↔DO d:=by
 have e:i_DoorOk.f (d,())=true↔i_WordOk.f (d.port,16,())=true∧i_WordOk.f (d.clock,32,())=true∧i_KeysOk.f (d.keys,())=true∧i_TableOk.f (d.table,d.limits,())=true∧i_HalvesOk.f (d.halves,())=true∧(d.halves.length:Int)≤d.limits.halves∧(decide (0≤d.chal)&&decide (d.chal≤d.limits.chal))=true∧(d.halves.any (fun h=>decide (0≤i_FindConn.f (d.table,h.tuple,()))))=false:=by
  simp only[PX,i_DoorOk,DoorOk_any,i_within_eq]
  rw[show((d.halves.length:Int)≤d.limits.halves)↔decide (d.limits.halves<(d.halves.length:Int))=false by simp]
  generalize(decide (0≤d.chal)&&decide (d.chal≤d.limits.chal))=b1
  generalize decide (d.limits.halves<(d.halves.length:Int))=b2
  generalize(d.halves.any (fun h=>decide (0≤i_FindConn.f (d.table,h.tuple,()))))=b3
  cases i_WordOk.f (d.port,16,())<;>cases i_WordOk.f (d.clock,32,())<;>cases i_KeysOk.f (d.keys,())<;>cases i_TableOk.f (d.table,d.limits,())<;>cases i_HalvesOk.f (d.halves,())<;>cases b1<;>cases b2<;>cases b3<;>simp
 rw[e,TO_iff,HO_iff,i_WordOk_32]
 simp only[Bool.and_eq_true,decide_eq_true_eq,i_FindConn_eq2,fidx_nn]
 have f:(d.halves.any fun h=>d.table.conns.any fun c=>eqT h.tuple c.tuple)=false↔∀h∈d.halves,h.tuple∉d.table.conns.map Conn.tuple:=by
  rw[List.any_eq_false]
  constructor
  ·intro h x hx hm;exact h x hx ((any_eqT Conn.tuple _ _).2 hm)
  ·intro h x hx hm;exact h x hx ((any_eqT Conn.tuple _ _).1 hm)
 rw[f]
 constructor
 ·rintro⟨h1,⟨h2,h2'⟩,h3,h4,h5,h6,⟨h7,h8⟩,h9⟩;exact⟨h1,h2,h2',h3,h4,h5,h6,h7,h8,h9⟩
 ·rintro⟨h1,h2,h2',h3,h4,h5,h6,h7,h8,h9⟩;exact⟨h1,⟨h2,h2'⟩,h3,h4,h5,h6,⟨h7,h8⟩,h9⟩
def win (x:Recv):Int:=if x.done=true then 0 else 32-(x.data.length:Int)
theorem win_rng (x:Recv)(h:x.data.length≤32):0≤win x∧win x≤32:=by unfold win;split<;>omega
structure RV (x:Recv):Prop where
 n0:0≤x.next
 n1:x.next≤4294967295
 dl:x.data.length≤32
 hl:x.held.length≤3
 f0: -1≤x.fin
 f1:x.fin≤win x
 fz:x.fin≠0
 wk:∃b,walkP (if x.fin= -1 then win x else x.fin) 0 x.held=some b
 dn:x.done=true→x.held=[]∧x.fin= -1
theorem WindowOf_eq (x:Recv)(h:x.data.length≤32):i_WindowOf.f (x,())=win x:=by
 simp only[PX,i_WindowOf]
 unfold win
 rw[wrap64 (by omega) (by omega)]
 cases x.done with
 |true=>rfl
 |false=>simp only[cond_false,Bool.false_eq_true,if_false];split<;>omega
theorem RV_iff (x:Recv)(hs:SmallP x.held):i_ReceiverOk.f (x,())=true↔RV x:=by
 simp only[PX,i_ReceiverOk,i_ReceiverOk_L0_d,i_WordOk_32]
 by_cases hn:0≤x.next∧x.next≤4294967295
 ·rw[decide_eq_true hn.1,decide_eq_true hn.2]
  by_cases hd:32<(x.data.length:Int)
  ·rw[decide_eq_true hd]
   exact⟨fun h=>(by cases h),fun h=>by have:=h.dl;omega⟩
  ·rw[decide_eq_false hd,WindowOf_eq x (by omega)]
   have hw:=win_rng x (by omega)
   simp only[Bool.and_self,Bool.not_true,cond_false]
   by_cases hl:3<(x.held.length:Int)
   ·rw[decide_eq_true hl]
    exact⟨fun h=>(by cases h),fun h=>by have:=h.hl;omega⟩
   ·rw[decide_eq_false hl,i_within_eq]
    simp only[cond_false]
    by_cases hf: -1≤x.fin∧x.fin≤win x
    ·rw[decide_eq_true hf.1,decide_eq_true hf.2]
     simp only[Bool.and_self,Bool.not_true,cond_false]
     by_cases h0:x.fin=0
     ·rw[show(x.fin==0)=true by simp[h0]]
      exact⟨fun h=>(by cases h),fun h=>absurd h0 h.fz⟩
     ·rw[show(x.fin==0)=false by simp[h0]]
      simp only[cond_false]
      have ed:(bif !x.done then true else bif ((x.held.length:Int)==0)then(x.fin== -1)else false)=true↔(x.done=true→x.held=[]∧x.fin= -1):=by
       cases x.done with
       |false=>simp
       |true=>
        cases hh:x.held with
        |nil=>simp
        |cons p r=>
         have:(((p::r).length:Int)==0)=false:=by
          rw[beq_eq_false_iff_ne];simp only[List.length_cons];omega
         rw[this];simp
      have k2:=i_walk x (if x.fin= -1 then win x else x.fin) (by split<;>omega) (by split<;>omega) hs
      have fin:∀L:Int,L=(if x.fin= -1 then win x else x.fin)→(Stp.elim (fun _=>bif !x.done then true else bif ((x.held.length:Int)==0)then(x.fin== -1)else false) (fun _=>false) (forN (fun j a=>(i_ReceiverOk_L0_T L x.held j a).nice) 1 (Int.toNat ((x.held.length:Int)-0)) 0 0)=true↔RV x):=by
       intro L hL
       rw[hL]
       cases hp:walkP (if x.fin= -1 then win x else x.fin) 0 x.held with
       |some b=>
        rw[hp]at k2;simp only[]at k2
        rw[k2]
        simp only[Stp.elim]
        rw[ed]
        exact⟨fun h=>⟨hn.1,hn.2,by omega,by omega,hf.1,hf.2,h0,⟨b,hp⟩,h⟩,fun h=>h.dn⟩
       |none=>
        rw[hp]at k2;obtain⟨w,k2⟩:=k2
        rw[k2]
        simp only[Stp.elim]
        refine⟨fun h=>(by cases h),fun h=> ?_⟩
        obtain⟨b,hb⟩:=h.wk
        rw[hp]at hb;cases hb
      by_cases h1:x.fin= -1
      ·rw[show(x.fin != -1)=false by simp[h1]]
       exact fin (win x) (by rw[if_pos h1])
      ·rw[show(x.fin != -1)=true by simp[h1]]
       exact fin x.fin (by rw[if_neg h1])
    ·have:(decide (-1≤x.fin)&&decide (x.fin≤win x))=false:=by
      rw[Bool.and_eq_false_iff];simp only[decide_eq_false_iff_not];omega
     rw[this]
     exact⟨fun h=>(by cases h),fun h=>absurd ⟨h.f0,h.f1⟩ hf⟩
 ·have:(decide (0≤x.next)&&decide (x.next≤4294967295))=false:=by
   rw[Bool.and_eq_false_iff];simp only[decide_eq_false_iff_not];omega
  rw[this]
  exact⟨fun h=>(by cases h),fun h=>absurd ⟨h.n0,h.n1⟩ hn⟩
theorem CO.set {c:Conn}(h:CO c)(k t r:Int)(hk:k=c.state∨k=8)(t0:0≤t)(t4:t≤4)(t3:k≠7→t≤3)(r0:0≤r)(r3:r≤3):CO ({c with state:=k,timer:=t,tries:=r}:Conn):=by
 have h1:=h.s1
 have h8:=h.s8
 refine⟨h.tup,h.snd,h.rcv,h.opt, ?_, ?_,h.m0,h.m1,h.w0,h.w1,t0,t4,t3,r0,r3, ?_⟩
 ·show 1≤k;omega
 ·show k≤8;omega
 ·show kst k c.s.fin c.s.done c.r.done=true
  rcases hk with rfl|rfl
  ·exact h.fl
  ·rfl
theorem Rewound_eq (x:Sndr)(h:SO x):i_Rewound.f (x,())={x with sent:=0,finSent:=false}:=by
 simp only[PX,i_Rewound,(SO_iff x).2 h,Bool.not_true,cond_false]
theorem SO_rew {x:Sndr}(h:SO x):SO ({x with sent:=0,finSent:=false}:Sndr):=by
 obtain⟨h1,h2,h3,h4,h5,h6,h7⟩:=h
 exact⟨h1,h2,h3,Int.le_refl _,by show(0:Int)≤_;omega,fun h=>(by cases h),fun hd=>⟨(h7 hd).1,rfl,(h7 hd).2.2⟩⟩
theorem TC_ok (c:Conn)(h:CO c):CO (TC c).1∧(TC c).1.tuple=c.tuple∧(TC c).1.r=c.r:=by
 have hr:=tick0_rng h
 have h7:c.state≠7→tick0 c≤3:=by
  intro hn;have:=h.t3 hn
  unfold tick0;rw[if_neg hn];split<;>omega
 have r0:=h.r0
 have r3:=h.r3
 unfold TC
 by_cases hw:i_Waits.f (c,())=true
 ·rw[if_pos hw]
  by_cases c1:0<tick0 c-1
  ·rw[if_pos c1]
   exact⟨CO.set h c.state (tick0 c-1) c.tries (.inl rfl) (by omega) (by omega) (fun hn=>by have:=h7 hn;omega) r0 r3,rfl,rfl⟩
  ·rw[if_neg c1]
   by_cases c2:c.state=7
   ·rw[if_pos c2]
    exact⟨CO.set h 8 0 0 (.inr rfl) (by omega) (by omega) (fun _=>by omega) (by omega) (by omega),rfl,rfl⟩
   ·rw[if_neg c2]
    by_cases c3:c.tries=3
    ·rw[if_pos c3]
     exact⟨CO.set h 8 0 0 (.inr rfl) (by omega) (by omega) (fun _=>by omega) (by omega) (by omega),rfl,rfl⟩
    ·rw[if_neg c3]
     have hc':CO ({c with s:=i_Rewound.f (c.s,()),timer:=0,tries:=c.tries+1}:Conn):=by
      rw[Rewound_eq c.s h.snd]
      exact⟨h.tup,SO_rew h.snd,h.rcv,h.opt,h.s1,h.s8,h.m0,h.m1,h.w0,h.w1,Int.le_refl _,by show(0:Int)≤4;omega,fun _=>by show(0:Int)≤3;omega,by show 0≤c.tries+1;omega,by show c.tries+1≤3;omega,h.fl⟩
     have hS:=Pump_sent _ (if c.window=0 then 1 else c.window) hc'.snd
     have hp:=Sent.ok hS hc' (.inl (by
      rcases hS.tm with e|e
      ·rw[e];show(0:Int)≤3;omega
      ·rw[e];omega))
     refine⟨CO.set hp _ 3 _ (.inl rfl) (by omega) (by omega) (fun _=>by omega) hp.r0 hp.r3, ?_, ?_⟩
     ·have e:=congrArg Conn.tuple hS.re;exact e
     ·have e:=congrArg Conn.r hS.re;exact e
 ·rw[if_neg hw,if_pos ((CO_iff c).2 h)]
  exact⟨CO.set h c.state 0 0 (.inl rfl) (by omega) (by omega) (fun _=>by omega) (by omega) (by omega),rfl,rfl⟩
theorem HO_aged (xs:List Half)(h:HO xs):HO (agedN xs):=by
 refine⟨?_, ?_, ?_⟩
 ·intro y hy
  unfold agedN at hy
  rw[List.mem_map]at hy
  obtain⟨x,hx,rfl⟩:=hy
  rw[List.mem_filter]at hx
  have h1:=h.ok x hx.1
  have h2:x.age<6:=by simpa using hx.2
  unfold halfOk at h1⊢
  simp only[Bool.and_eq_true,decide_eq_true_eq]at h1⊢
  obtain⟨a1,a2,a3,a4,a5,a6,a7⟩:=h1
  rw[wrap64 (by omega) (by omega)]
  exact⟨a1,a2,a3,a4,a5,by omega,by omega⟩
 ·have e:(agedN xs).map Half.tuple=(xs.filter (fun h=>decide (h.age<6))).map Half.tuple:=by
   unfold agedN;rw[List.map_map];rfl
  rw[e]
  exact List.Nodup.sublist (List.Sublist.map _ (List.filter_sublist)) h.nd
 ·unfold agedN
  rw[List.length_map]
  have:=List.length_filter_le (fun h:Half=>decide (h.age<6)) xs
  have:=h.len
  omega
theorem tickedC_map (xs:List Conn)(h:∀c∈xs,CO c):(tickedC xs).map Conn.tuple=xs.map Conn.tuple:=by
 unfold tickedC
 rw[List.map_map]
 apply List.map_congr_left
 intro c hc
 exact(TC_ok c (h c hc)).2.1
theorem TO_tick (t:Tabl)(l:Limi)(h:TO t l):TO (sweptN ⟨tickedC t.conns,t.waiting⟩) l:=by
 have hm:=tickedC_map t.conns h.co
 have hl:(tickedC t.conns).length=t.conns.length:=by unfold tickedC;rw[List.length_map]
 refine⟨h.lim, ?_, ?_, ?_, ?_, ?_, ?_⟩
 ·have:=List.length_filter_le (keepC ⟨tickedC t.conns,t.waiting⟩) (tickedC t.conns)
  have h2:=h.nc
  show((List.filter _ _).length:Int)≤_
  simp only[]at this⊢;omega
 ·have:=List.length_filter_le (keepW ⟨tickedC t.conns,t.waiting⟩) t.waiting
  have h2:=h.nw
  show((List.filter _ _).length:Int)≤_
  simp only[]at this⊢;omega
 ·intro c hc
  have hc1:c∈tickedC t.conns:=(List.mem_filter.1 hc).1
  unfold tickedC at hc1
  rw[List.mem_map]at hc1
  obtain⟨x,hx,rfl⟩:=hc1
  exact(TC_ok x (h.co x hx)).1
 ·refine List.Nodup.sublist (List.Sublist.map _ (List.filter_sublist)) ?_
  show((tickedC t.conns).map Conn.tuple).Nodup
  rw[hm];exact h.dc
 ·exact List.Nodup.sublist (List.filter_sublist) h.dw
 ·intro w hw
  have hw1:w∈t.waiting:=(List.mem_filter.1 hw).1
  have hw2:=h.wc w hw1
  rw[←hm,List.mem_map]at hw2
  obtain⟨c,hc,rfl⟩:=hw2
  rw[List.mem_map]
  refine⟨c,List.mem_filter.2 ⟨hc, ?_⟩,rfl⟩
  unfold keepC
  have:t.waiting.any (eqT c.tuple)=true:=by
   rw[List.any_eq_true];exact⟨_,hw1,eqT_refl _⟩
  simp only[this]
  cases(c.state != 8)<;>rfl
theorem DO_tick (d:Door)(h:DO d):DO ({d with clock:=i_SeqAdd.f (d.clock,1,()),chal:=0,halves:=agedN d.halves,table:=sweptN ⟨tickedC d.table.conns,d.table.waiting⟩}:Door):=by
 have k0:=h.k0
 have k1:=h.k1
 have hm:=tickedC_map d.table.conns h.tab.co
 refine⟨h.port, ?_, ?_,h.keys,TO_tick _ _ h.tab,HO_aged _ h.hal, ?_,Int.le_refl _, ?_, ?_⟩
 ·show 0≤i_SeqAdd.f (d.clock,1,());rw[iSeqAdd_eq];omega
 ·show i_SeqAdd.f (d.clock,1,())≤4294967295;rw[iSeqAdd_eq];omega
 ·show((agedN d.halves).length:Int)≤d.limits.halves
  unfold agedN
  rw[List.length_map]
  have:=List.length_filter_le (fun h:Half=>decide (h.age<6)) d.halves
  have:=h.nh
  omega
 ·show 0≤d.limits.chal;omega
 ·intro y hy hm2
  have hy2:∃x∈d.halves,x.tuple=y.tuple:=by
   have hy1:y∈agedN d.halves:=hy
   unfold agedN at hy1
   rw[List.mem_map]at hy1
   obtain⟨x,hx,rfl⟩:=hy1
   exact⟨x,(List.mem_filter.1 hx).1,rfl⟩
  obtain⟨x,hx,e⟩:=hy2
  refine h.ap x hx ?_
  rw[e,←hm]
  exact(List.Sublist.map Conn.tuple (List.filter_sublist (p:=keepC ⟨tickedC d.table.conns,d.table.waiting⟩))).subset hm2
theorem halfOk_age {h:Half}(hh:halfOk h=true):0≤h.age∧h.age≤6:=by
 unfold halfOk at hh
 simp only[Bool.and_eq_true,decide_eq_true_eq]at hh
 exact hh.2.2.2.2.2
theorem byteAt_at (t:Bytes)(k:Nat)(hk:k<t.length):byteAt t k=(t[k].toNat:Int):=by
 simp[byteAt,List.getD,hk]
theorem byte_lt (b:UInt8):(b.toNat:Int)≤255:=by have:=b.toNat_lt;omega
theorem OptionsOk_scale (o:Opti)(h:i_OptionsOk.f (o,())=true): -1≤o.scale∧o.scale≤14:=by
 simp only[PX,i_OptionsOk,i_within_eq]at h
 revert h
 cases hq:(decide (-1≤o.scale)&&decide (o.scale≤14))with
 |true=>
  intro _
  simpa [Bool.and_eq_true,decide_eq_true_eq]using hq
 |false=>
  cases i_WordOk.f (o.mss,16,())<;>cases o.stamp<;>cases(o.val != 0)<;>cases(o.echo != 0)<;>simp
theorem SegmentOk_body (g:Segm)(h:i_SegmentOk.f (g,())=true):g.body.length≤1420:=by
 simp only[PX,i_SegmentOk]at h
 revert h
 cases i_WordOk.f (g.from_,16,())<;>cases i_WordOk.f (g.to,16,())<;>cases i_WordOk.f (g.seq,32,())<;>cases i_WordOk.f (g.ack,32,())<;>cases i_WordOk.f (g.flags,6,())<;>cases i_WordOk.f (g.window,16,())<;>cases i_OptionsOk.f (g.opts,())<;>simp<;>omega
theorem SegmentOk_parts (g:Segm):i_SegmentOk.f (g,())=true↔((0≤g.from_∧g.from_≤65535)∧(0≤g.to∧g.to≤65535)∧(0≤g.seq∧g.seq≤4294967295)∧(0≤g.ack∧g.ack≤4294967295)∧(0≤g.flags∧g.flags≤63)∧(0≤g.window∧g.window≤65535)∧i_OptionsOk.f (g.opts,())=true∧g.body.length≤1420):=by
 simp only[PX,i_SegmentOk,i_WordOk_16,i_WordOk_32,i_WordOk_6]
 rw[show((g.body.length≤1420)↔decide (((g.body.length:Nat):Int)≤1420)=true) by simp;omega]
 simp only[←Bool.decide_and,Bool.cond_eq_ite,Bool.if_false_right,Bool.decide_eq_true,Bool.and_eq_true,decide_eq_true_eq]
 constructor
 ·rintro⟨a,b,w,s,k,f,o,bd⟩;exact⟨a,b,s,k,f,w,o,bd⟩
 ·rintro⟨a,b,s,k,f,w,o,bd⟩;exact⟨a,b,w,s,k,f,o,bd⟩
theorem tup_parts (t:Tupl)(h:i_TupleOk.f (t,())=true):(0≤t.ip∧t.ip≤4294967295)∧(0≤t.port∧t.port≤65535)∧(0≤t.my∧t.my≤65535):=by
 simp only[PX,i_TupleOk,i_WordOk_16,i_WordOk_32]at h
 by_cases h1:0≤t.ip∧t.ip≤4294967295
 ·by_cases h2:0≤t.port∧t.port≤65535
  ·by_cases h3:0≤t.my∧t.my≤65535
   ·exact⟨h1,h2,h3⟩
   ·rw[show(decide (0≤t.my)&&decide (t.my≤65535))=false by rw[Bool.and_eq_false_iff];simp only[decide_eq_false_iff_not];omega]at h
    revert h
    cases(decide (0≤t.ip)&&decide (t.ip≤4294967295))<;>cases(decide (0≤t.port)&&decide (t.port≤65535))<;>simp
  ·rw[show(decide (0≤t.port)&&decide (t.port≤65535))=false by rw[Bool.and_eq_false_iff];simp only[decide_eq_false_iff_not];omega]at h
   revert h
   cases(decide (0≤t.ip)&&decide (t.ip≤4294967295))<;>simp
 ·rw[show(decide (0≤t.ip)&&decide (t.ip≤4294967295))=false by rw[Bool.and_eq_false_iff];simp only[decide_eq_false_iff_not];omega]at h
  simp at h
theorem NextOf_eq (s:Sndr):i_NextOf.f (s,())=(s.una+i_flying.f (s,()))%4294967296:=by simp only[PX,i_NextOf,iSeqAdd_eq]
theorem NoOptions_ok:i_OptionsOk.f (i_NoOptions.f (()),())=true:=by decide+kernel
theorem Ack_ok (c:Conn)(hc:i_TupleOk.f (c.tuple,())=true)(hd:c.r.data.length≤32)(hn:0≤c.r.next∧c.r.next≤4294967295)(sq fl:Int)(b:Bytes)(h0:0≤sq∧sq≤4294967295)(hf:0≤fl∧fl≤63)(hb:b.length≤1420):i_SegmentOk.f ({i_AckOf.f (c,())with seq:=sq,flags:=fl,body:=b},())=true:=by
 rw[SegmentOk_parts]
 have ht:=tup_parts c.tuple hc
 have hw:=win_rng c.r hd
 simp only[PX,i_AckOf,WindowOf_eq c.r hd]
 exact⟨ht.2.2,ht.2.1,h0,hn,hf,⟨hw.1,by omega⟩,NoOptions_ok,hb⟩
theorem AckOf_ok (c:Conn)(hc:CO c)(hs:SmallP c.r.held):i_SegmentOk.f (i_AckOf.f (c,()),())=true:=by
 have hr:=(RV_iff c.r hs).1 hc.rcv
 have h:=Ack_ok c hc.tup hr.dl ⟨hr.n0,hr.n1⟩ (i_NextOf.f (c.s,())) 16 [] (by rw[NextOf_eq];omega) (by omega) (by simp)
 have e:({i_AckOf.f (c,())with seq:=i_NextOf.f (c.s,()),flags:=16,body:=[]}:Segm)=i_AckOf.f (c,()):=by simp only[PX,i_AckOf]
 rw[e]at h;exact h
theorem NextChunk_seq (s:Sndr)(w m:Int)(h:(i_NextChunk.f (s,w,m,())).2=true):(i_NextChunk.f (s,w,m,())).1.seq=i_NextOf.f (s,()):=by
 revert h
 simp only[PX,i_NextChunk]
 generalize(if 0<(if(IntKind.wrap .i64 ((if w<(-1)then(-1)else w)-i_flying.f (s,())))<(if m<(((s.data.take ((s.data.length:Int).toNat)).drop s.sent.toNat).length:Int)then m else(((s.data.take ((s.data.length:Int).toNat)).drop s.sent.toNat).length:Int))then(IntKind.wrap .i64 ((if w<(-1)then(-1)else w)-i_flying.f (s,())))else(if m<(((s.data.take ((s.data.length:Int).toNat)).drop s.sent.toNat).length:Int)then m else(((s.data.take ((s.data.length:Int).toNat)).drop s.sent.toNat).length:Int)))then(if(IntKind.wrap .i64 ((if w<(-1)then(-1)else w)-i_flying.f (s,())))<(if m<(((s.data.take ((s.data.length:Int).toNat)).drop s.sent.toNat).length:Int)then m else(((s.data.take ((s.data.length:Int).toNat)).drop s.sent.toNat).length:Int))then(IntKind.wrap .i64 ((if w<(-1)then(-1)else w)-i_flying.f (s,())))else(if m<(((s.data.take ((s.data.length:Int).toNat)).drop s.sent.toNat).length:Int)then m else(((s.data.take ((s.data.length:Int).toNat)).drop s.sent.toNat).length:Int)))else 0)=n
 generalize(IntKind.wrap .i64 ((if w<(-1)then(-1)else w)-i_flying.f (s,())))=v
 generalize(((s.data.take ((s.data.length:Int).toNat)).drop s.sent.toNat).take n.toNat).drop 0=tx
 generalize(((s.data.take ((s.data.length:Int).toNat)).drop s.sent.toNat).length:Int)=ln
 cases i_SenderOk.f (s,())<;>cases s.fin<;>cases s.finSent<;>cases s.done<;>cases(n==ln)<;>cases(tx==[])<;>cases decide (n<v)<;>simp
theorem Pump_segs (c:Conn)(w:Int)(hc:CO c)(hs:SmallP c.r.held):∀g∈(i_Pump.f (c,w,())).2,i_SegmentOk.f (g,())=true:=by
 have hr:=(RV_iff c.r hs).1 hc.rcv
 simp only[PX,i_Pump,q_cloneConn,i_Pump_L0_d]
 cases(bif !i_ConnOk.f (c,())then(true,())else bif (c.state==8)then(true,())else((c.state==7),())).1 with
 |true=>intro g hg;cases hg
 |false=>
 simp only[cond_false]
 have key:=whileN_post (f:=fun a=>(i_Pump_L0_T w a).nice) (Inv:=fun a=>Sent c a.2.1∧(∀g∈a.2.2,i_SegmentOk.f (g,())=true)) (Q:=fun p=>∀g∈p.2.2,i_SegmentOk.f (g,())=true) (meas:=fun a=>sgm a.2.1.s) (fun a hi a' he=>by
  rcases Pump_step w c a hi.1 with⟨l,e⟩|⟨a2,e,h1,h2⟩
  ·simp only[e]at he;cases he
  ·simp only[e,Stp.next.injEq]at he;subst he
   refine⟨⟨h1, ?_⟩,h2⟩
   obtain⟨hS,hl⟩:=hi
   obtain⟨a1,b2,al⟩:=a
   simp only[]at hS hl
   have hre:=hS.re
   have htup:i_TupleOk.f (b2.tuple,())=true:=by rw[hre];exact hc.tup
   have hrr:b2.r=c.r:=by rw[hre]
   have hch:=i_NextChunk.c.h (b2.s,w,i_MssFor.f (b2,()),()) (sm_of_SO hS.so)
   have hsq:=NextChunk_seq b2.s w (i_MssFor.f (b2,()))
   revert e
   simp only[PX,i_Pump_L0_T]
   simp only[PX]at hch
   generalize i_NextChunk.f (b2.s,w,i_MssFor.f (b2,()),())=z at hch hsq⊢
   obtain⟨y,b⟩:=z
   cases b with
   |false=>intro e;cases e
   |true=>
    obtain⟨-,hch⟩:=hch
    obtain⟨-,hlen,-,-,-⟩:=hch rfl
    have hsq:=hsq rfl
    simp only[]at hlen hsq
    have hdl:=hS.so.2.2.1
    have hs0:=hS.so.2.2.2.1
    have ok:∀fl:Int,0≤fl∧fl≤63→i_SegmentOk.f (({i_AckOf.f (b2,())with seq:=y.seq,flags:=fl,body:=y.text}:Segm),())=true:=fun fl hf=>Ack_ok b2 htup (by rw[hrr];exact hr.dl) (by rw[hrr];exact⟨hr.n0,hr.n1⟩) y.seq fl y.text (by rw[hsq,NextOf_eq];omega) hf (by omega)
    have fin:∀fl:Int,0≤fl∧fl≤63→∀g∈al++[({i_AckOf.f (b2,())with seq:=y.seq,flags:=fl,body:=y.text}:Segm)],i_SegmentOk.f (g,())=true:=by
     intro fl hf g hg
     rcases List.mem_append.1 hg with h3|h3
     ·exact hl g h3
     ·rw[List.mem_singleton.1 h3];exact ok fl hf
    have hfl:(i_AckOf.f (b2,())).flags=16:=by simp only[PX,i_AckOf]
    simp only[hfl]
    cases(y.text==[])<;>cases y.fin<;>(intro e;simp only[Stp.next.injEq,cond_true,cond_false,Bool.not_true,Bool.not_false]at e;subst e;refine fin _ (by decide+kernel))) (fun a hi p he=>by
  rcases Pump_step w c a hi.1 with⟨l,e⟩|⟨a2,e,h1,h2⟩
  ·obtain⟨a1,a2',al⟩:=a
   have hl:l=al:=by
    revert e
    simp only[PX,i_Pump_L0_T]
    cases(i_NextChunk.f (a2'.s,w,i_MssFor.f (a2',()),())).2 with
    |false=>intro e;cases e;rfl
    |true=>cases((i_NextChunk.f (a2'.s,w,i_MssFor.f (a2',()),())).1.text==[])<;>cases(i_NextChunk.f (a2'.s,w,i_MssFor.f (a2',()),())).1.fin<;>(intro e;cases e)
   simp only[e,Stp.out.injEq]at he;subst he;subst hl;exact hi.2
  ·simp only[e]at he;cases he) (sgm c.s+1) (⟨⟨0,0,0⟩,0,⟨0,[],0,false,false,false⟩,⟨0,[],[],0,false⟩,0,0,⟨0,0,false,false,0,0⟩,0,0⟩,c,[]) (Nat.lt_succ_self _) ⟨Sent.refl c hc.snd,fun g hg=>by cases hg⟩
 obtain⟨q,hq⟩:∃q,whileN (fun a=>(i_Pump_L0_T w a).nice) (sgm c.s+1) (⟨⟨0,0,0⟩,0,⟨0,[],0,false,false,false⟩,⟨0,[],[],0,false⟩,0,0,⟨0,0,false,false,0,0⟩,0,0⟩,c,[])=q:=⟨_,rfl⟩
 rw[hq]at key
 simp only[hq]
 obtain⟨q1,q2,q3⟩:=q
 simp only[]at key⊢
 cases(bif decide (0<(q3.length:Int))then((q2.timer==0),())else(false,())).1<;>exact key
theorem PutWord_len (n sz:Int)(h1:1≤sz)(h6:sz≤6)(h:i_WordOk.f (n,8*sz,())=true):((i_PutWord.f (n,sz,())).length:Int)=sz:=by
 have hw:IntKind.wrap .i64 (8*sz)=8*sz:=wrap64 (by omega) (by omega)
 simp only[PX,i_PutWord,i_within_eq,i_PutWord_L0_d,hw,h,decide_eq_true h1,decide_eq_true h6,Bool.and_self,Bool.not_true,cond_false]
 generalize Int.toNat (IntKind.wrap .i64 (sz-1)-0+1)=k
 generalize IntKind.wrap .i64 (sz-1)=i
 cases hf:forN (fun j a=>(i_PutWord_L0_T j a).nice) (-1) k i (n,List.replicate sz.toNat 0)with
 |out e=>exact Empty.elim e
 |next a=>
  have:=forN_nextP (P:=fun a:Int×List Int=>a.2.length=sz.toNat) (fun i a a' ha h=>by
   simp only[PX,i_PutWord_L0_T]at h
   cases h
   simpa using ha) _ _ _ _ (by simp) hf
  simp only[PX,Stp.elim,toBytes_length]
  omega
theorem PutWord_bad (n sz:Int)(h1:1≤sz)(h6:sz≤6)(h:i_WordOk.f (n,8*sz,())=false):i_PutWord.f (n,sz,())=[]:=by
 have hw:IntKind.wrap .i64 (8*sz)=8*sz:=wrap64 (by omega) (by omega)
 simp only[PX,i_PutWord,i_within_eq,hw,h,decide_eq_true h1,decide_eq_true h6,Bool.and_self,Bool.not_true,Bool.not_false,cond_false,cond_true]
theorem PutWord_nil (n sz:Int)(h1:1≤sz)(h6:sz≤6):(i_PutWord.f (n,sz,())==[])= !i_WordOk.f (n,8*sz,()):=by
 rcases Bool.eq_false_or_eq_true (i_WordOk.f (n,8*sz,()))with h|h
 ·have:=PutWord_len n sz h1 h6 h
  rw[h]
  cases hp:i_PutWord.f (n,sz,())with
  |nil=>rw[hp]at this;simp at this;omega
  |cons a r=>rfl
 ·rw[PutWord_bad n sz h1 h6 h,h];rfl
def ws:Bool→Bytes→Int
 |_,[]=>0
 |false,b::t=>256*(b.toNat:Int)+ws true t
 |true,b::t=>(b.toNat:Int)+ws false t
theorem i_ws (v:Bytes)(hv:v.length≤4294967296):∀(n j:Nat) (a:Int),j+n=v.length→0≤a→a≤65536*(j:Int)→forN (fun j a=>(i_WordSum_L0_T v j a).nice) 1 n (j:Int) a= .next (a+ws (j%2==1) (v.drop j))
 |0,j,a,h,_,_=>by rw[List.drop_of_length_le (by omega)];simp[forN,ws]
 |n+1,j,a,h,h0,h1=>by
  have hj:j<v.length:=by omega
  have hb:=byte_lt v[j]
  rw[List.drop_eq_getElem_cons hj]
  have ht:(((j:Int).tmod 2)==0)= !(j%2==1):=by
   rw[Int.tmod_eq_emod_of_nonneg (by omega),Bool.eq_iff_iff]
   simp;omega
  have hnx:((j+1)%2==1)= !(j%2==1):=by
   rw[Bool.eq_iff_iff];simp;omega
  cases hp:(j%2==1)with
  |true=>
   have ih:=i_ws v hv n (j+1) (a+(v[j].toNat:Int)) (by omega) (by omega) (by omega)
   simp only[PX,i_WordSum_L0_T]at ih
   simp only[forN,PX,i_WordSum_L0_T,ht,hp,toNat_cast,byteAt_at _ _ hj,Bool.not_true,cond_false,Stp.elim,ws]
   rw[wrap64 (m:=(v[j].toNat:Int)) (by omega) (by omega),wrap64 (by omega) (by omega),show(j:Int)+1=((j+1:Nat):Int) by omega,ih,hnx,hp]
   simp only[Bool.not_true]
   congr 1;omega
  |false=>
   have ih:=i_ws v hv n (j+1) (a+256*(v[j].toNat:Int)) (by omega) (by omega) (by omega)
   simp only[PX,i_WordSum_L0_T]at ih
   simp only[forN,PX,i_WordSum_L0_T,ht,hp,toNat_cast,byteAt_at _ _ hj,Bool.not_false,cond_true,Stp.elim,ws]
   rw[wrap64 (m:=(v[j].toNat:Int)) (by omega) (by omega),wrap64 (m:=(v[j].toNat:Int)*256) (by omega) (by omega),wrap64 (by omega) (by omega),show(j:Int)+1=((j+1:Nat):Int) by omega,show a+(v[j].toNat:Int)*256=a+256*(v[j].toNat:Int) by omega,ih,hnx,hp]
   simp only[Bool.not_false]
   congr 1;omega
theorem i_WordSum_eq (v:Bytes)(hv:v.length≤4294967296):i_WordSum.f (v,())=ws false v:=by
 simp only[PX,i_WordSum,i_WordSum_L0_d]
 have:=i_ws v hv v.length 0 0 (by omega) (by omega) (by omega)
 rw[toNat_sub0,show(0:Int)=((0:Nat):Int) from rfl]
 rw[show(0:Int)=((0:Nat):Int) from rfl]at this
 rw[this]
 simp[Stp.elim]
theorem s_ws (v:Bytes)(hv:v.length≤4294967296):∀(k j:Nat) (a:Int),k=(v.length-j+1)/2→0≤a→a≤65536*(j:Int)→forN (fun j a=>(s_WordSum_L0_T v j a).nice) 2 k (j:Int) a= .next (a+ws false (v.drop j))
 |0,j,a,h,_,_=>by rw[List.drop_of_length_le (by omega)];simp[forN,ws]
 |k+1,j,a,h,h0,h1=>by
  have hj:j<v.length:=by omega
  have hb:=byte_lt v[j]
  rw[List.drop_eq_getElem_cons hj]
  by_cases h2:j+1<v.length
  ·have hb2:=byte_lt v[j+1]
   have ih:=s_ws v hv k (j+2) (a+256*(v[j].toNat:Int)+(v[j+1].toNat:Int)) (by omega) (by omega) (by omega)
   rw[List.drop_eq_getElem_cons h2]
   simp only[PX,s_WordSum_L0_T]at ih
   simp only[forN,PX,s_WordSum_L0_T,toNat_cast,byteAt_at _ _ hj,Stp.elim,ws]
   rw[wrap64 (m:=(j:Int)+1) (by omega) (by omega),decide_eq_true (show(j:Int)+1<(v.length:Int) by omega),cond_true,show((j:Int)+1).toNat=j+1 by omega,byteAt_at _ _ h2,wrap64 (m:=(v[j].toNat:Int)) (by omega) (by omega),wrap64 (m:=256*(v[j].toNat:Int)) (by omega) (by omega),wrap64 (m:=a+256*(v[j].toNat:Int)) (by omega) (by omega),wrap64 (m:=(v[j+1].toNat:Int)) (by omega) (by omega),wrap64 (by omega) (by omega)]
   simp only[Stp.elim]
   rw[show(j:Int)+2=((j+2:Nat):Int) by omega,ih]
   congr 1
   have e:ws false (List.drop (j+1+1) v)=ws false (List.drop (j+2) v):=rfl
   omega
  ·have ih:=s_ws v hv k (j+2) (a+256*(v[j].toNat:Int)) (by omega) (by omega) (by omega)
   rw[List.drop_of_length_le (show v.length≤j+1 by omega)]
   rw[List.drop_of_length_le (show v.length≤j+2 by omega)]at ih
   simp only[PX,s_WordSum_L0_T]at ih
   simp only[forN,PX,s_WordSum_L0_T,toNat_cast,byteAt_at _ _ hj,Stp.elim,ws]
   rw[wrap64 (m:=(j:Int)+1) (by omega) (by omega),decide_eq_false (show¬(j:Int)+1<(v.length:Int) by omega),cond_false,wrap64 (m:=(v[j].toNat:Int)) (by omega) (by omega),wrap64 (m:=256*(v[j].toNat:Int)) (by omega) (by omega),wrap64 (m:=a+256*(v[j].toNat:Int)) (by omega) (by omega)]
   simp only[Stp.elim]
   rw[show(j:Int)+2=((j+2:Nat):Int) by omega,ih]
   congr 1
   simp only[ws];omega
theorem s_WordSum_eq (v:Bytes)(hv:v.length≤4294967296):s_WordSum.f (v,())=ws false v:=by
 simp only[PX,s_WordSum,s_WordSum_L0_d]
 have:=s_ws v hv ((v.length+1)/2) 0 0 (by omega) (by omega) (by omega)
 rw[show Int.toNat (((v.length:Int)-0+1)/2)=(v.length+1)/2 by omega,show(0:Int)=((0:Nat):Int) from rfl]
 rw[show(0:Int)=((0:Nat):Int) from rfl]at this
 rw[this]
 simp[Stp.elim]
theorem q_Folded (n:Int):s_Folded.f (n,())=i_Folded.f (n,()):=by
 have e:s_Folded_L0_T=i_Folded_L0_T:=by
  funext a
  unfold s_Folded_L0_T i_Folded_L0_T
  rw[show decide (65535<a)=decide (65536≤a) from decide_eq_decide.2 (by omega)]
 simp only[PX,s_Folded,i_Folded,s_Folded_L0_d,i_Folded_L0_d,e]
theorem q_SumOf (v:Bytes)(hv:v.length≤4294967296):s_SumOf.f (v,())=i_SumOf.f (v,()):=by
 simp only[PX,s_SumOf,i_SumOf,s_WordSum_eq v hv,i_WordSum_eq v hv,q_Folded]
theorem ws_app:∀(n:Nat) (a b:Bytes),a.length=2*n→ws false (a++b)=ws false a+ws false b
 |0,a,b,h=>by
  have e:a=[]:=List.eq_nil_of_length_eq_zero (by omega)
  subst e
  simp[ws]
 |n+1,[],b,h=>by simp at h
 |n+1,[x],b,h=>by simp at h;omega
 |n+1,x::y::a,b,h=>by
  have ih:=ws_app n a b (by simp only[List.length_cons]at h;omega)
  simp only[List.cons_append,ws,ih];omega
theorem q_PseudoHead (a b n:Int):s_PseudoHead.f (a,b,n,())=i_PseudoHead.f (a,b,n,()):=by
 have h1:=PutWord_nil a 4 (by omega) (by omega)
 have h2:=PutWord_nil b 4 (by omega) (by omega)
 have h3:=PutWord_nil n 2 (by omega) (by omega)
 rw[show(8:Int)*4=32 from rfl]at h1 h2
 rw[show(8:Int)*2=16 from rfl]at h3
 simp only[PX,s_PseudoHead,i_PseudoHead,q_PutWord,h1,h2,h3]
theorem OT_eq:s_OptionsText_L0_T=i_OptionsText_L0_T:=rfl
theorem q_OptionsText (o:Opti):s_OptionsText.f (o,())=i_OptionsText.f (o,()):=by
 simp only[PX,s_OptionsText,i_OptionsText,q_OptionsOk,q_PutWord,s_OptionsText_L0_d,i_OptionsText_L0_d,OT_eq]
 rcases Bool.eq_false_or_eq_true (i_OptionsOk.f (o,()))with h|h
 case inr=>rw[h];rfl
 have hs:=OptionsOk_scale o h
 have e:decide (0≤o.scale)=(o.scale != -1):=by
  rw[Bool.eq_iff_iff];simp;omega
 rw[h]
 cases h1:(o.mss != 0)<;>cases h2:(o.scale != -1)<;>cases h3:o.sack<;>cases h4:o.stamp<;>simp only[e,h2,h3,h4,Bool.not_true,cond_true,cond_false,List.nil_append,List.append_assoc]
theorem OT_le (o:Opti):(i_OptionsText.f (o,())).length≤20:=(i_OptionsText.c.h (o,()) trivial).2
theorem PH_le (a b n:Int):(i_PseudoHead.f (a,b,n,())).length≤20:=(i_PseudoHead.c.h (a,b,n,()) trivial).2
theorem PW_le (n sz:Int):((i_PutWord.f (n,sz,())).length:Int)≤max sz 0:=(i_PutWord.c.h (n,sz,()) trivial).2
theorem q_SegmentText (g:Segm)(a b:Int):s_SegmentText.f (g,a,b,())=i_SegmentText.f (g,a,b,()):=by
 simp only[PX,s_SegmentText,i_SegmentText,q_SegmentOk,q_OptionsText,q_PseudoHead,q_PutWord]
 rcases Bool.eq_false_or_eq_true (i_SegmentOk.f (g,()))with h|h
 case inr=>rw[h,Bool.not_false,cond_true,cond_true]
 rw[h,Bool.not_true,cond_false,cond_false]
 have hb:=SegmentOk_body g h
 rw[q_SumOf]
 have h1:=OT_le g.opts
 generalize IntKind.wrap .i64 ((IntKind.wrap .i64 (20+((i_OptionsText.f (g.opts,())).length:Int)))+(g.body.length:Int))=n
 have h2:=PH_le a b n
 have h3:=PW_le g.from_ 2
 have h4:=PW_le g.to 2
 have h5:=PW_le g.seq 4
 have h6:=PW_le g.ack 4
 have h7:=PW_le (IntKind.wrap .i64 ((IntKind.wrap .i64 ((IntKind.wrap .i64 (20+((i_OptionsText.f (g.opts,())).length:Int))).tdiv 4))*16)) 1
 have h8:=PW_le g.flags 1
 have h9:=PW_le g.window 2
 simp only[List.length_append,List.length_cons,List.length_nil]
 omega
theorem q_FrameOk (f:Fram):s_FrameOk.f (f,())=i_FrameOk.f (f,()):=by
 simp only[PX,s_FrameOk,i_FrameOk,q_WordOk,s_l1In_eq,i_within_eq]
theorem q_FrameText (f:Fram):s_FrameText.f (f,())=i_FrameText.f (f,()):=by
 simp only[PX,s_FrameText,i_FrameText,q_FrameOk,q_PutWord]
theorem q_PacketOk (p:Pack):s_PacketOk.f (p,())=i_PacketOk.f (p,()):=by
 simp only[PX,s_PacketOk,i_PacketOk,q_WordOk,s_l1In_eq,i_within_eq]
theorem PacketOk_parts (p:Pack)(h:i_PacketOk.f (p,())=true):i_WordOk.f (p.src,32,())=true∧i_WordOk.f (p.dst,32,())=true∧1≤p.ttl∧p.ttl≤255∧i_WordOk.f (p.proto,8,())=true∧i_WordOk.f (p.id,16,())=true∧p.body.length≤1480:=by
 simp only[PX,i_PacketOk,i_within_eq]at h
 revert h
 cases i_WordOk.f (p.src,32,())<;>cases i_WordOk.f (p.dst,32,())<;>cases i_WordOk.f (p.proto,8,())<;>cases i_WordOk.f (p.id,16,())<;>simp<;>omega
theorem q_PacketText (p:Pack):s_PacketText.f (p,())=i_PacketText.f (p,()):=by
 simp only[PX,s_PacketText,i_PacketText,q_PacketOk,q_PutWord]
 rcases Bool.eq_false_or_eq_true (i_PacketOk.f (p,()))with h|h
 case inr=>rw[h,Bool.not_false,cond_true,cond_true]
 obtain⟨hs,hd,t1,t2,hp,hi,hb⟩:=PacketOk_parts p h
 rw[h,Bool.not_true,cond_false,cond_false]
 have w:IntKind.wrap .i64 (20+(p.body.length:Int))=20+(p.body.length:Int):=wrap64 (by omega) (by omega)
 rw[w]
 have n1:i_WordOk.f (20+(p.body.length:Int),8*2,())=true:=by
  rw[show(8:Int)*2=16 from rfl,i_WordOk_16]
  simp;omega
 have l1:=PutWord_len (20+(p.body.length:Int)) 2 (by omega) (by omega) n1
 have l2:=PutWord_len p.id 2 (by omega) (by omega) hi
 have l3:=PutWord_len p.ttl 1 (by omega) (by omega) (by rw[show(8:Int)*1=8 from rfl,i_WordOk_8];simp;omega)
 have l4:=PutWord_len p.proto 1 (by omega) (by omega) hp
 have l5:=PutWord_len p.src 4 (by omega) (by omega) hs
 have l6:=PutWord_len p.dst 4 (by omega) (by omega) hd
 generalize i_PutWord.f (20+(p.body.length:Int),2,())=a at*
 generalize i_PutWord.f (p.id,2,())=b at*
 generalize i_PutWord.f (p.ttl,1,())=c at*
 generalize i_PutWord.f (p.proto,1,())=d at*
 generalize i_PutWord.f (p.src,4,())=e at*
 generalize i_PutWord.f (p.dst,4,())=f at*
 have key:s_SumOf.f ((((([69,0]++a)++b)++[0,0])++c++d)++(e++f),())=i_SumOf.f ((((((([69,0]++a)++b)++[0,0])++c)++d)++[0,0])++(e++f),()):=by
  rw[q_SumOf]
  ·have e1:i_WordSum.f ((((([69,0]++a)++b)++[0,0])++c++d)++(e++f),())=i_WordSum.f ((((((([69,0]++a)++b)++[0,0])++c)++d)++[0,0])++(e++f),()):=by
    rw[i_WordSum_eq,i_WordSum_eq,ws_app 5 (((([69,0]++a)++b)++[0,0])++c++d),ws_app 6 ((((([69,0]++a)++b)++[0,0])++c++d)++[0,0]),ws_app 5 (((([69,0]++a)++b)++[0,0])++c++d)]
    ·simp[ws]
    all_goals simp only[List.length_append,List.length_cons,List.length_nil];omega
   simp only[PX,i_SumOf,e1]
  ·simp only[List.length_append,List.length_cons,List.length_nil];omega
 rw[key]
def hwN (v:List Entr)(ip:Int):Int×Bool:=match v.findIdx? (fun e=>e.ip==ip)with
 |some i=>(match v[i]? with|some x=>(x.hw,true)|none=>(0,false))
 |none=>(0,false)
theorem i_HwOf_eq (v:List Entr)(ip:Int):i_HwOf.f (v,ip,())=hwN v ip:=by
 simp only[PX,i_HwOf,i_HwOf_L0_d]
 rw[toNat_sub0,forN_list v _ rfl (F:=fun j x _=>bif x.ip==ip then .out x.hw else .next ()) (fun j x a h=>by
  simp only[PX,i_HwOf_L0_T,toNat_cast,getD_some h]),listN_find (p:=fun e:Entr=>e.ip==ip) (w:=fun _ x=>x.hw)]
 unfold hwN
 cases v.findIdx? (fun e=>e.ip==ip)with
 |none=>rfl
 |some i=>cases h:v[i]? <;>simp only[h]<;>rfl
theorem s_l15At_eq (v:List Entr)(ip:Int):s_l15At.f (v,ip,())=fidx (fun e=>e.ip==ip) v:=by
 simp only[PX,s_l15At,s_l15At_L0_d]
 rw[forN_fidx (fun e:Entr=>e.ip==ip) v (fun j x a h=>by simp only[PX,s_l15At_L0_T,toNat_cast,getD_some h])]
 unfold fidx
 cases v.findIdx? (fun e=>e.ip==ip)<;>rfl
theorem q_HwOf (v:List Entr)(ip:Int):s_HwOf.f (v,ip,())=i_HwOf.f (v,ip,()):=by
 simp only[PX,s_HwOf,s_l15At_eq,i_HwOf_eq]
 unfold hwN fidx
 cases hf:v.findIdx? (fun e=>e.ip==ip)with
 |none=>rfl
 |some i=>
  obtain⟨h1,_,_⟩:=List.findIdx?_eq_some_iff_getElem.1 hf
  have h2:v[i]? =some v[i]:=List.getElem?_eq_getElem h1
  simp only[h2,toNat_cast,getD_some h2,decide_eq_false (show¬(i:Int)<0 by omega),cond_false]
theorem hwN_2 (v:List Entr)(ip:Int):(hwN v ip).2=v.any (fun e=>e.ip==ip):=by
 have:=fidx_nn (fun e:Entr=>e.ip==ip) v
 rw[←this]
 unfold hwN fidx
 cases hf:v.findIdx? (fun e=>e.ip==ip)with
 |none=>rfl
 |some i=>
  obtain⟨h1,_,_⟩:=List.findIdx?_eq_some_iff_getElem.1 hf
  have h2:v[i]? =some v[i]:=List.getElem?_eq_getElem h1
  simp only[h2,decide_eq_true (show(0:Int)≤(i:Int) by omega)]
theorem nodup_ip (xs:List Entr):(∀(j:Nat) (y:Entr),xs[j]? =some y→(xs.take j).any (fun h=>h.ip==y.ip)=false)↔(xs.map Entr.ip).Nodup:=by
 unfold List.Nodup
 rw[List.pairwise_iff_getElem]
 constructor
 ·intro h i j hi hj hij he
  rw[List.length_map]at hi hj
  simp only[List.getElem_map]at he
  have:=h j xs[j] (List.getElem?_eq_getElem hj)
  rw[List.any_eq_false]at this
  refine this xs[i] ?_ (by rw[he,beq_self_eq_true])
  rw[List.mem_take_iff_getElem]
  exact⟨i,by omega,rfl⟩
 ·intro h j y hy
  rw[List.any_eq_false]
  intro z hz he
  rw[List.mem_take_iff_getElem]at hz
  obtain⟨i,hi,rfl⟩:=hz
  obtain⟨hj,rfl⟩:=List.getElem?_eq_some_iff.1 hy
  have:=h i j (by rw[List.length_map];omega) (by rw[List.length_map];exact hj) (by omega)
  simp only[List.getElem_map]at this
  exact this (beq_iff_eq.1 he)
def entOk (e:Entr):Bool:=i_WordOk.f (e.ip,32,())&&(i_WordOk.f (e.hw,48,())&&(decide (0≤e.age)&&decide (e.age≤9)))
structure EO (v:List Entr):Prop where
 ok:∀e∈v,entOk e=true
 nd:(v.map Entr.ip).Nodup
 len:v.length≤4
theorem CacheOk_iff (v:List Entr):i_CacheOk.f (v,())=true↔EO v:=by
 have f1:=forN_all v (f:=fun j a=>(i_CacheOk_L0_T v v j a).nice) (P:=fun j y=>entOk y=true∧(v.take j).any (fun h=>h.ip==y.ip)=false) (fun j y hy=>by
  simp only[PX,i_CacheOk_L0_T,toNat_cast,getD_some hy,i_HwOf_eq,hwN_2,List.drop_zero,i_within_eq,entOk]
  cases i_WordOk.f (y.ip,32,())<;>cases i_WordOk.f (y.hw,48,())<;>cases(decide (0≤y.age)&&decide (y.age≤9))<;>cases(v.take j).any (fun h=>h.ip==y.ip)<;>simp)
 have f3:=nodup_ip v
 have f5:forN (fun j a=>(i_CacheOk_L0_T v v j a).nice) 1 (Int.toNat ((v.length:Int)-0)) 0 ()= .next ()↔(∀e∈v,entOk e=true)∧(v.map Entr.ip).Nodup:=by
  rw[f1,←f3,←mem_of_all]
  exact⟨fun h=>⟨fun j y hy=>(h j y hy).1,fun j y hy=>(h j y hy).2⟩,fun h j y hy=>⟨h.1 j y hy,h.2 j y hy⟩⟩
 have e:i_CacheOk.f (v,())=true↔v.length≤4∧forN (fun j a=>(i_CacheOk_L0_T v v j a).nice) 1 (Int.toNat ((v.length:Int)-0)) 0 ()= .next ():=by
  simp only[PX,i_CacheOk,i_CacheOk_L0_d]
  rw[show v.length≤4↔decide (4<(v.length:Int))=false by simp;omega]
  cases decide (4<(v.length:Int))<;>cases forN (fun j a=>(i_CacheOk_L0_T v v j a).nice) 1 (Int.toNat ((v.length:Int)-0)) 0 ()<;>simp[Stp.elim]
 rw[e,f5]
 constructor
 ·rintro⟨h1,h2,h3⟩;exact⟨h2,h3,h1⟩
 ·rintro⟨h2,h3,h1⟩;exact⟨h1,h2,h3⟩
theorem q_CacheOk (v:List Entr):s_CacheOk.f (v,())=i_CacheOk.f (v,()):=by
 simp only[PX,s_CacheOk,i_CacheOk,s_CacheOk_L0_d,i_CacheOk_L0_d]
 have h1:=forN_same v (f:=fun j a=>(s_CacheOk_L0_T v j a).nice) (g:=fun j a=>(i_CacheOk_L0_T v v j a).nice) (k:=Int.toNat ((v.length:Int)-0)) (toNat_sub0 _) (fun j y hy=>by
  simp only[PX,s_CacheOk_L0_T,i_CacheOk_L0_T,toNat_cast,getD_some hy,q_WordOk,s_l1In_eq,i_within_eq,s_l15At_eq,i_HwOf_eq,hwN_2,List.drop_zero,fidx_nn]
  cases i_WordOk.f (y.ip,32,())<;>cases i_WordOk.f (y.hw,48,())<;>cases(decide (0≤y.age)&&decide (y.age≤9))<;>cases(v.take j).any (fun h=>h.ip==y.ip)<;>simp)
 rw[show decide ((v.length:Int)≤4)= !decide (4<(v.length:Int)) by rw[Bool.eq_iff_iff];simp]
 rcases h1 with⟨a,b,h5,h6⟩|⟨h5,h6⟩
 ·rw[h5,h6]
  cases decide (4<(v.length:Int))<;>rfl
 ·rw[h5,h6]
  cases decide (4<(v.length:Int))<;>rfl
theorem q_LinkOk (l:Link):s_LinkOk.f (l,())=i_LinkOk.f (l,()):=by
 simp only[PX,s_LinkOk,i_LinkOk,q_WordOk,q_CacheOk]
theorem LinkOk_iff (l:Link):i_LinkOk.f (l,())=true↔((0≤l.mac∧l.mac≤281474976710655)∧l.mac≠281474976710655∧(0≤l.ip∧l.ip≤4294967295)∧EO l.cache):=by
 rw[←CacheOk_iff]
 simp only[PX,i_LinkOk,i_WordOk_48,i_WordOk_32]
 rw[show(l.mac≠281474976710655)↔(l.mac != 281474976710655)=true by simp,show(0≤l.mac∧l.mac≤281474976710655)↔(decide (0≤l.mac)&&decide (l.mac≤281474976710655))=true by simp,show(0≤l.ip∧l.ip≤4294967295)↔(decide (0≤l.ip)&&decide (l.ip≤4294967295))=true by simp]
 cases(decide (0≤l.mac)&&decide (l.mac≤281474976710655))<;>cases(l.mac != 281474976710655)<;>cases(decide (0≤l.ip)&&decide (l.ip≤4294967295))<;>simp
theorem q_LinkOut (l:Link)(ip:Int)(b:Bytes):s_LinkOut.f (l,ip,b,())=i_LinkOut.f (l,ip,b,()):=by
 simp only[PX,s_LinkOut,i_LinkOut,q_HwOf,q_LinkOk,q_PacketText,q_FrameText]
 cases i_LinkOk.f (l,())<;>cases(i_HwOf.f (l.cache,ip,())).2<;>simp only[Bool.not_true,Bool.not_false,cond_true,cond_false]
theorem forN_flat {T U W:Type}(xs:List T)(F:T→List U){f:Int→List U→Stp (List U) W}(h:∀(j:Nat) x a,xs[j]? =some x→f (j:Int) a= .next (a++F x)):forN f 1 (Int.toNat ((xs.length:Int)-0)) 0 []= .next (xs.flatMap F):=by
 rw[toNat_sub0,forN_list xs _ rfl (F:=fun _ x a=> .next (a++F x)) h]
 have key:∀(r:List T) (j:Nat) (a:List U),listN (W:=W) (fun _ x a=> .next (a++F x)) j r a= .next (a++r.flatMap F):=by
  intro r
  induction r with
  |nil=>intro j a;simp[listN]
  |cons x r ih=>
   intro j a
   have:=ih (j+1) (a++F x)
   rw[List.flatMap_cons,←List.append_assoc,←this]
   rfl
 rw[key];simp
theorem forN_flat2 {S T U W:Type}(xs:List T)(F:T→List U){f:Int→S×List U→Stp (S×List U) W}(h:∀(j:Nat) x a,xs[j]? =some x→∃s,f (j:Int) a= .next (s,a.2++F x))(s0:S):∃s,forN f 1 (Int.toNat ((xs.length:Int)-0)) 0 (s0,[])= .next (s,xs.flatMap F):=by
 rw[toNat_sub0]
 have key:∀(n j:Nat) (s:S) (l:List U),j+n=xs.length→∃s2,forN f 1 n (j:Int) (s,l)= .next (s2,l++(xs.drop j).flatMap F):=by
  intro n
  induction n with
  |zero=>intro j s l e;exact⟨s,by rw[List.drop_of_length_le (by omega)];simp[forN]⟩
  |succ n ih=>
   intro j s l e
   have hj:j<xs.length:=by omega
   obtain⟨s1,e1⟩:=h j xs[j] (s,l) (List.getElem?_eq_getElem hj)
   obtain⟨s2,e2⟩:=ih (j+1) s1 (l++F xs[j]) (by omega)
   refine⟨s2, ?_⟩
   simp only[forN,e1,Stp.elim]
   rw[show(j:Int)+1=((j+1:Nat):Int) by omega,e2,List.drop_eq_getElem_cons hj]
   simp only[List.flatMap_cons,List.append_assoc]
 obtain⟨s,e⟩:=key xs.length 0 s0 [] (by omega)
 exact⟨s,by simpa using e⟩
def sendN (l:Link)(ip:Int)(g:Segm):List Bytes:=bif i_SegmentText.f (g,l.ip,ip,())==[]then[]else bif (i_LinkOut.f (l,ip,i_SegmentText.f (g,l.ip,ip,()),())).2 then[(i_LinkOut.f (l,ip,i_SegmentText.f (g,l.ip,ip,()),())).1]else[]
theorem i_SendAll_eq (s:Stac)(ip:Int)(xs:List Segm):i_SendAll.f (s,ip,xs,())=xs.flatMap (sendN s.link ip):=by
 simp only[PX,i_SendAll,i_SendAll_L0_d]
 rw[forN_flat xs (sendN s.link ip) (fun j x a h=>by
  simp only[PX,i_SendAll_L0_T,toNat_cast,getD_some h,sendN]
  cases(i_SegmentText.f (x,s.link.ip,ip,())==[])<;>cases(i_LinkOut.f (s.link,ip,i_SegmentText.f (x,s.link.ip,ip,()),())).2<;>simp)]
 rfl
theorem PseudoHead_ne (a b n:Int)(ha:i_WordOk.f (a,32,())=true)(hb:i_WordOk.f (b,32,())=true)(hn:i_WordOk.f (n,16,())=true):(i_PseudoHead.f (a,b,n,())==[])=false:=by
 simp only[PX,i_PseudoHead,ha,hb,hn,Bool.not_true,cond_false]
 simp
theorem SegmentText_ne (g:Segm)(a b:Int)(hg:i_SegmentOk.f (g,())=true)(ha:i_WordOk.f (a,32,())=true)(hb:i_WordOk.f (b,32,())=true):(i_SegmentText.f (g,a,b,())==[])=false:=by
 have h1:=OT_le g.opts
 have h2:=SegmentOk_body g hg
 have w1:IntKind.wrap .i64 (20+((i_OptionsText.f (g.opts,())).length:Int))=20+((i_OptionsText.f (g.opts,())).length:Int):=wrap64 (by omega) (by omega)
 have w2:IntKind.wrap .i64 (20+((i_OptionsText.f (g.opts,())).length:Int)+(g.body.length:Int))=20+((i_OptionsText.f (g.opts,())).length:Int)+(g.body.length:Int):=wrap64 (by omega) (by omega)
 have hp:=PseudoHead_ne a b (20+((i_OptionsText.f (g.opts,())).length:Int)+(g.body.length:Int)) ha hb (by rw[i_WordOk_16];simp;omega)
 simp only[PX,i_SegmentText,hg,w1,w2,Bool.not_true,cond_false]
 rw[hp,cond_false]
 simp
theorem hwN_mem (v:List Entr)(ip:Int)(h:(hwN v ip).2=true):∃e∈v,e.ip=ip:=by
 rw[hwN_2,List.any_eq_true]at h
 obtain⟨e,h1,h2⟩:=h
 exact⟨e,h1,by simpa using h2⟩
theorem LinkOut_known (l:Link)(ip:Int)(b:Bytes)(h:(i_LinkOut.f (l,ip,b,())).2=true):i_LinkOk.f (l,())=true∧(hwN l.cache ip).2=true:=by
 simp only[PX,i_LinkOut,i_HwOf_eq]at h
 revert h
 cases i_LinkOk.f (l,())<;>cases(hwN l.cache ip).2<;>simp
theorem s_SendAll_eq (s:Stac)(ip:Int)(xs:List Segm)(hx:∀g∈xs,i_SegmentOk.f (g,())=true):s_SendAll.f (s,ip,xs,())=xs.flatMap (sendN s.link ip):=by
 simp only[PX,s_SendAll,s_SendAll_L0_d]
 rw[forN_flat xs (sendN s.link ip) (fun j x a h=>by
  simp only[PX,s_SendAll_L0_T,toNat_cast,getD_some h,sendN,q_SegmentText,q_LinkOut]
  cases hk:(i_LinkOut.f (s.link,ip,i_SegmentText.f (x,s.link.ip,ip,()),())).2 with
  |false=>cases(i_SegmentText.f (x,s.link.ip,ip,())==[])<;>simp
  |true=>
   obtain⟨h1,h2⟩:=LinkOut_known _ _ _ hk
   obtain⟨_,_,h3,h4⟩:=(LinkOk_iff _).1 h1
   obtain⟨e,he,rfl⟩:=hwN_mem _ _ h2
   have h5:=h4.ok e he
   unfold entOk at h5
   rw[Bool.and_eq_true]at h5
   rw[SegmentText_ne x s.link.ip e.ip (hx x (mem_at h)) (by rw[i_WordOk_32];simp[h3]) h5.1]
   rfl)]
 rfl
def agedE (v:List Entr):List Entr:=v.flatMap fun e=>bif decide (e.age<9)then[({e with age:=e.age+1}:Entr)]else[]
theorem entOk_age {e:Entr}(h:entOk e=true):0≤e.age∧e.age≤9:=by
 unfold entOk at h
 simp only[Bool.and_eq_true,decide_eq_true_eq]at h
 exact h.2.2
theorem i_Aged_eq (v:List Entr)(h:EO v):i_Aged.f (v,())=agedE v:=by
 simp only[PX,i_Aged,i_Aged_L0_d]
 rw[forN_flat v (fun e:Entr=>bif decide (e.age<9)then[({e with age:=e.age+1}:Entr)]else[]) (fun j x a hx=>by
  have ha:=entOk_age (h.ok x (mem_at hx))
  simp only[PX,i_Aged_L0_T,toNat_cast,getD_some hx]
  rw[wrap64 (m:=x.age+1) (by omega) (by omega),show decide (x.age+1≤9)=decide (x.age<9) from decide_eq_decide.2 (by omega)]
  cases decide (x.age<9)<;>simp)]
 rfl
theorem s_Aged_eq (v:List Entr)(h:EO v):s_Aged.f (v,())=agedE v:=by
 simp only[PX,s_Aged,s_Aged_L0_d]
 rw[forN_flat v (fun e:Entr=>bif decide (e.age<9)then[({e with age:=e.age+1}:Entr)]else[]) (fun j x a hx=>by
  have ha:=entOk_age (h.ok x (mem_at hx))
  simp only[PX,s_Aged_L0_T,toNat_cast,getD_some hx]
  rw[wrap64 (m:=x.age+1) (by omega) (by omega)]
  cases decide (x.age<9)<;>simp)]
 rfl
theorem agedE_sub:∀v:List Entr,((agedE v).map Entr.ip).Sublist (v.map Entr.ip)
 |[]=> .slnil
 |x::r=>by
  have ih:=agedE_sub r
  unfold agedE at ih⊢
  rw[List.flatMap_cons]
  cases decide (x.age<9)with
  |true=>exact .cons₂ _ ih
  |false=>exact .cons _ ih
theorem EO_aged (v:List Entr)(h:EO v):EO (agedE v):=by
 have hs:=agedE_sub v
 refine⟨?_,List.Nodup.sublist hs h.nd, ?_⟩
 ·intro e he
  unfold agedE at he
  rw[List.mem_flatMap]at he
  obtain⟨x,hx,hy⟩:=he
  have h1:=h.ok x hx
  have h2:=entOk_age h1
  cases hd:decide (x.age<9)with
  |false=>rw[hd]at hy;cases hy
  |true=>
   rw[hd]at hy
   have h3:=of_decide_eq_true hd
   rw[List.mem_singleton.1 hy]
   unfold entOk at h1⊢
   simp only[Bool.and_eq_true,decide_eq_true_eq]at h1⊢
   exact⟨h1.1,h1.2.1,by omega,by omega⟩
 ·have:=hs.length_le
  rw[List.length_map,List.length_map]at this
  have:=h.len
  omega
theorem TC_segs (c:Conn)(h:CO c)(hs:SmallP c.r.held):∀g∈(TC c).2,i_SegmentOk.f (g,())=true:=by
 have r0:=h.r0
 have r3:=h.r3
 unfold TC
 by_cases hw:i_Waits.f (c,())=true
 ·rw[if_pos hw]
  by_cases c1:0<tick0 c-1
  ·rw[if_pos c1];intro g hg;cases hg
  ·rw[if_neg c1]
   by_cases c2:c.state=7
   ·rw[if_pos c2];intro g hg;cases hg
   ·rw[if_neg c2]
    by_cases c3:c.tries=3
    ·rw[if_pos c3]
     intro g hg
     rw[List.mem_singleton.1 hg]
     have h1:=(SegmentOk_parts _).1 (AckOf_ok c h hs)
     have hfl:(i_AckOf.f (c,())).flags=16:=by simp only[PX,i_AckOf]
     rw[SegmentOk_parts]
     simp only[hfl]
     obtain⟨a,b,s,k,f,w,o,bd⟩:=h1
     exact⟨a,b,s,k,by decide+kernel,w,o,bd⟩
    ·rw[if_neg c3]
     refine Pump_segs _ _ ?_ hs
     rw[Rewound_eq c.s h.snd]
     exact⟨h.tup,SO_rew h.snd,h.rcv,h.opt,h.s1,h.s8,h.m0,h.m1,h.w0,h.w1,Int.le_refl _,by show(0:Int)≤4;omega,fun _=>by show(0:Int)≤3;omega,by show 0≤c.tries+1;omega,by show c.tries+1≤3;omega,h.fl⟩
 ·rw[if_neg hw,if_pos ((CO_iff c).2 h)]
  intro g hg;cases hg
theorem q_cloneStack (s:Stac):i_cloneStack.f (s,())=s:=by simp only[PX,i_cloneStack,i_cloneLink,g_Clone_Entry,q_cloneDoor]
theorem q_l28Copy (s:Stac):s_l28Copy.f (s,())=s:=by simp only[PX,s_l28Copy,s_l16Copy,q_l26Copy,List.nil_append]
theorem q_StackOk (s:Stac)(hs:smallD s.door):s_StackOk.f (s,())=i_StackOk.f (s,()):=by simp only[PX,s_StackOk,i_StackOk,q_LinkOk,q_DoorOk s.door hs]
theorem StackOk_iff (s:Stac):i_StackOk.f (s,())=true↔i_LinkOk.f (s.link,())=true∧i_DoorOk.f (s.door,())=true:=by
 simp only[PX,i_StackOk]
 cases i_LinkOk.f (s.link,())<;>simp
theorem SameLink_self (l:Link):s_SameLink.f (l,l,())=true:=by
 simp only[PX,s_SameLink,s_SameLink_L0_d,bne_self_eq_false,cond_false]
 rw[forN_skip _ _ fun j=>by simp only[PX,s_SameLink_L0_T,beq_self_eq_true,Bool.and_self,Bool.not_true,cond_false]]
 rfl
theorem SameStack_self (s:Stac):s_SameStack.f (s,s,())=true:=by
 simp only[PX,s_SameStack,SameLink_self,SameDoor_self,cond_true]
theorem sameTexts_self (m:List Bytes):w_sameTexts.f (m,m,())=true:=by
 simp only[PX,w_sameTexts,w_sameTexts_L0_d]
 rw[forN_skip _ _ fun j=>by simp only[PX,w_sameTexts_L0_T,beq_self_eq_true,Bool.not_true,cond_false]]
 simp[PX,Stp.elim]
def tickS (s:Stac):Stac×List Bytes:=(⟨⟨s.link.mac,s.link.ip,agedE s.link.cache⟩,{s.door with clock:=i_SeqAdd.f (s.door.clock,1,()),chal:=0,halves:=agedN s.door.halves,table:=sweptN ⟨tickedC s.door.table.conns,s.door.table.waiting⟩}⟩,s.door.table.conns.flatMap (fun c=>(TC c).2.flatMap (sendN s.link c.tuple.ip)))
theorem i_TickStack_eq (s:Stac)(h:i_StackOk.f (s,())=true):i_TickStack.f (s,())=tickS s:=by
 obtain⟨hl,hd⟩:=(StackOk_iff s).1 h
 have hE:=((LinkOk_iff _).1 hl).2.2.2
 have hD:=(DO_iff _).1 hd
 have t:=hD.tab
 have a2:=t.lim.w2
 have a3:=t.lim.c2
 have a4:=t.nc
 have a5:=t.nw
 have hT:=i_tickDoor_eq s.door (fun y hy=>(halfOk_age (hD.hal.ok y hy)).2) (fun y hy=>(halfOk_age (hD.hal.ok y hy)).1) (by omega) (by omega) hd
 simp only[PX,i_TickStack,q_cloneStack,h,i_Aged_eq _ hE,hT,Bool.not_true,cond_false,i_TickStack_L0_d]
 obtain⟨z,e⟩:=forN_flat2 (mails s.door.table.conns) (fun m=>sendN s.link m.ip m.g) (f:=fun j a=>(i_TickStack_L0_T s (mails s.door.table.conns) j a).nice) (fun j x a hx=>by
  simp only[PX,i_TickStack_L0_T,toNat_cast,getD_some hx,i_SendAll_eq,List.flatMap_cons,List.flatMap_nil,List.append_nil]
  exact⟨_,rfl⟩) (⟨⟨0,0,[]⟩,⟨0,0,⟨0,⟨false,0,0,[]⟩,⟨false,0,0,[]⟩,false⟩,⟨0,0,0,0⟩,[],⟨[],[]⟩,0⟩⟩:Stac)
 refine(congrArg (Stp.elim _ _) e).trans ?_
 simp only[Stp.elim,tickS]
 congr 1
 unfold mails
 rw[List.flatMap_assoc]
 congr 1
 funext c
 rw[List.flatMap_map]
theorem s_TickStack_eq (s:Stac)(h:i_StackOk.f (s,())=true)(hs:smallD s.door):s_TickStack.f (s,())=tickS s:=by
 obtain⟨hl,hd⟩:=(StackOk_iff s).1 h
 have hE:=((LinkOk_iff _).1 hl).2.2.2
 have hD:=(DO_iff _).1 hd
 have t:=hD.tab
 have c0:=hD.c0
 have c1:=hD.c1
 have hT:=s_TickDoor_eq s.door hs
 rw[hd,cond_true,l4Rest_eq,wrap64 (by omega) (by omega),←iSeqAdd_eq]at hT
 simp only[PX,s_TickStack,q_l28Copy,q_StackOk s hs,h,s_Aged_eq _ hE,hT,Bool.not_true,cond_false,s_TickStack_L0_d]
 obtain⟨z,e⟩:=forN_flat2 s.door.table.conns (fun c=>(TC c).2.flatMap (sendN s.link c.tuple.ip)) (f:=fun j a=>(s_TickStack_L0_T s j a).nice) (fun j x a hx=>by
  have hc:=t.co x (mem_at hx)
  simp only[PX,s_TickStack_L0_T,toNat_cast,getD_some hx,s_TickConn_eq x (hs x (mem_at hx)),s_SendAll_eq s x.tuple.ip (TC x).2 (TC_segs x hc (hs x (mem_at hx)))]
  exact⟨_,rfl⟩) (⟨⟨0,0,[]⟩,⟨0,0,⟨0,⟨false,0,0,[]⟩,⟨false,0,0,[]⟩,false⟩,⟨0,0,0,0⟩,[],⟨[],[]⟩,0⟩⟩:Stac)
 refine(congrArg (Stp.elim _ _) e).trans ?_
 simp only[Stp.elim,tickS]
theorem StackOk_tick (s:Stac)(h:i_StackOk.f (s,())=true):i_StackOk.f ((tickS s).1,())=true:=by
 obtain⟨hl,hd⟩:=(StackOk_iff s).1 h
 obtain⟨h1,h2,h3,hE⟩:=(LinkOk_iff _).1 hl
 exact(StackOk_iff _).2 ⟨(LinkOk_iff _).2 ⟨h1,h2,h3,EO_aged _ hE⟩,(DO_iff _).2 (DO_tick _ ((DO_iff _).1 hd))⟩
set_option maxHeartbeats 2000000 in theorem t_FnTickStack (x:List Int):w_FnTickStack.f (x,())=true:=by
 rcases Bool.eq_false_or_eq_true (w_big.f (x,()))with hb|hb
 ·simp only[FX.f,PX,w_FnTickStack,hb,cond_true]
 have hx:x.length≤1048576:=by
  simp only[PX,w_big,decide_eq_false_iff_not]at hb
  omega
 have hd:=s_DrawTickStack.c.h (x,()) ⟨by simp only[sS];omega,hx⟩
 simp only[PX]at hd
 obtain⟨s,hz⟩:∃z,s_DrawTickStack.f (x,())=z:=⟨_,rfl⟩
 rw[hz]at hd
 have hs:smallD s.door:=smallD_of hd.2
 have hq:=q_StackOk s hs
 rcases Bool.eq_false_or_eq_true (i_StackOk.f (s,()))with h|h
 ·have h1:=i_TickStack_eq s h
  have h2:=s_TickStack_eq s h hs
  have h3:=StackOk_tick s h
  generalize tickS s=y at h1 h2 h3
  simp only[FX.f,PX,w_FnTickStack,hb,cond_false,hz,h1,h2,h3,SameStack_self,sameTexts_self,hq,h,Bool.not_true,cond_true]
 ·have h1:i_TickStack.f (s,())=(s,[]):=by simp only[PX,i_TickStack,q_cloneStack,h,Bool.not_false,cond_true]
  have h2:s_TickStack.f (s,())=(s,[]):=by simp only[PX,s_TickStack,q_l28Copy,hq,h,Bool.not_false,cond_true]
  simp only[FX.f,PX,w_FnTickStack,hb,cond_false,hz,h1,h2,SameStack_self,sameTexts_self,hq,h,Bool.not_true,Bool.not_false,cond_true]

end
end Go.Proofs.YtjejapbinelgeaaGreat
