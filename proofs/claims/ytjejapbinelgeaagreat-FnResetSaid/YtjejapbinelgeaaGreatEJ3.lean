/-
  Contracts of functions and plain laws (printed by a program): each theorem says what a function of the program returns; conditions are its hypotheses.
-/
import Derived.Test.YtjejapbinelgeaaGreatEJ2
set_option linter.all false
set_option maxRecDepth 4000
namespace Go.Proofs.YtjejapbinelgeaaGreat
open Go Go.RowKit
noncomputable section
theorem cc_loop (f:Int→Unit→Stp Unit (Int⊕Unit))(g:Int→Unit→Stp Unit Int)(E:Int)(h0:0≤E)(h1:E≤4294967295)
  (hfg:∀e,E-1≤e→f e ()=Stp.elim (fun _=> .next ()) (fun w=> .out (.inl w)) (g e ()))(hend:∀e,e<E-1→f e ()= .out (.inr ()))(i:Int):
  Stp.elim (fun _=>((0:Int),(0:Int),false)) (Sum.elim (fun p=>(p,i,true)) (fun _=>(0,0,false))) (forN f (-1) (Int.toNat (E-0+1)) E ())=
  Stp.elim (fun _=>(0,0,false)) (fun p=>(p,i,true)) (forN g (-1) (Int.toNat (E-(if 0<(IntKind.wrap .i64 (E-1))then(IntKind.wrap .i64 (E-1))else 0)+1)) E ()):=by
 rw[wrap64 (by omega) (by omega)]
 rcases(show E=0∨E=1∨2≤E by omega)with rfl|rfl|h
 ·rw[if_neg (by omega),show Int.toNat (0-0+1)=1 from rfl]
  simp only[forN,hfg 0 (by omega)]
  cases g 0 ()<;>rfl
 ·rw[if_neg (by omega),show Int.toNat (1-0+1)=2 from rfl]
  simp only[forN,hfg 1 (by omega),show(1:Int)+ -1=0 from rfl,hfg 0 (by omega)]
  cases g 1 ()with
  |out w=>rfl
  |next a=>simp only[Stp.elim];cases g 0 ()<;>rfl
 ·rw[if_pos (by omega),show Int.toNat (E-(E-1)+1)=2 by omega]
  obtain⟨m,hm⟩:∃m:Nat,Int.toNat (E-0+1)=m+3:=⟨Int.toNat (E-2),by omega⟩
  rw[hm]
  simp only[forN,hfg E (by omega),hfg (E+ -1) (by omega),hend (E+ -1+ -1) (by omega)]
  cases g E ()with
  |out w=>rfl
  |next a=>simp only[Stp.elim];cases g (E+ -1) ()<;>rfl
theorem CookieParts_neg (x:Int):decide ((i_CookieParts.f (x,())).2.1<0)= !i_WordOk.f (x,32,()):=by
 simp only[PX,i_CookieParts,i_WordOk_32]
 cases hd:(decide (0≤x)&&decide (x≤4294967295))with
 |false=>rfl
 |true=>
  simp only[Bool.and_eq_true,decide_eq_true_eq]at hd
  simp only[Bool.not_true,cond_false]
  rw[(tdiv_pos 16777216).1 hd.1,wrap64 (by omega) (by omega),(tmod_pos 8).1 (by omega)]
  simp only[decide_eq_false_iff_not]
  omega
theorem KeysOk_epoch (k:Keys)(h:i_KeysOk.f (k,())=true):0≤k.epoch∧k.epoch≤4294967295:=by
 simp only[PX,i_KeysOk,i_within_eq]at h
 revert h
 cases k.two<;>simp only[PX,cond_true,cond_false]<;>grind
theorem q_CheckCookie (k:Keys)(t:Tupl)(a b:Int):s_CheckCookie.f (k,t,a,b,())=i_CheckCookie.f (k,t,a,b,()):=by
 simp only[PX,s_CheckCookie,i_CheckCookie,s_CheckCookie_L0_d,i_CheckCookie_L0_d,q_KeysOk,q_CookieParts,CookieParts_neg]
 cases hk:i_KeysOk.f (k,())with
 |false=>rfl
 |true=>
  simp only[Bool.not_true,cond_false]
  cases i_WordOk.f (b,32,())with
  |false=>rfl
  |true=>
   simp only[Bool.not_true,cond_false]
   have he:=KeysOk_epoch k hk
   refine cc_loop _ _ k.epoch he.1 he.2 (fun e h=> ?_) (fun e h=> ?_) _
   ·simp only[PX,s_CheckCookie_L0_T,i_CheckCookie_L0_T]
    rw[wrap64 (by omega) (by omega)]
    simp only[q_SecretOf,q_CookieOf,decide_eq_true h,cond_true]
    cases(i_SecretOf.f (k,e,())).2 with
    |false=>rfl
    |true=>
     simp only[cond_true]
     cases(i_CookieOf.f ((i_SecretOf.f (k,e,())).1,t,a,e,(i_CookieParts.f (b,())).2.1,())==b)<;>rfl
   ·simp only[PX,s_CheckCookie_L0_T]
    rw[wrap64 (by omega) (by omega)]
    simp only[decide_eq_false (show¬(k.epoch-1≤e) by omega),cond_false]
theorem q_SegmentOk (x:Segm):s_SegmentOk.f (x,())=i_SegmentOk.f (x,()):=by simp only[PX,s_SegmentOk,i_SegmentOk,q_WordOk,q_OptionsOk]
theorem l1Max0 (x:Int):s_l1Max.f (0,x,())=(if 0<x then x else 0):=by
 rw[s_l1Max_eq];grind
theorem q_FirstSeq (d:Door)(t:Tupl)(g:Segm):s_FirstSeq.f (d,t,g,())=i_FirstSeq.f (d,t,g,()):=by
 simp only[PX,s_FirstSeq,i_FirstSeq,i_peerMss]
 cases(g.opts.mss==0)<;>simp only[PX,cond_true,cond_false]<;>simp only[q_MssIndex,q_CookieOf,l1Max0]
theorem q_StampOf (a b:Int)(c:Bool):s_StampOf.f (a,b,c,())=i_StampOf.f (a,b,c,()):=by
 simp only[PX,s_StampOf,i_StampOf,i_within_eq,i64_mask32]
 cases c<;>simp only[PX,cond_true,cond_false]<;>simp only[s_l1In_eq,l4Rest_eq]<;>cases(decide (0≤b)&&decide (b≤14))<;>simp only[cond_true,cond_false,Bool.not_true,Bool.not_false,wrap64_def]<;>omega
theorem q_AnswerOptions (o:Opti)(c:Int):s_AnswerOptions.f (o,c,())=i_AnswerOptions.f (o,c,()):=by
 simp only[PX,s_AnswerOptions,i_AnswerOptions,s_l1In_eq,i_within_eq]
 cases(decide (0≤o.scale)&&decide (o.scale≤14))<;>simp only[PX,cond_true,cond_false]<;>simp only[q_StampOf]
theorem q_SynAck (d:Door)(t:Tupl)(g:Segm):s_SynAck.f (d,t,g,())=i_SynAck.f (d,t,g,()):=by
 simp only[PX,s_SynAck,i_SynAck,q_FirstSeq,q_SeqAdd,q_AnswerOptions]
theorem forN_outJ {A W:Type}{f:Int→A→Stp A W}{st:Int}:∀(k:Nat) (i:Int) (a:A) (w:W),forN f st k i a= .out w→∃(n:Nat) (b:A),n<k∧f (i+st*(n:Int)) b= .out w
 |0,_,_,_,h=>by cases h
 |k+1,i,a,w,h=>by
  simp only[forN]at h
  cases hf:f i a with
  |out w'=>rw[hf]at h;simp only[Stp.elim]at h;cases h;exact⟨0,a,by omega,by simpa using hf⟩
  |next a'=>
   rw[hf]at h
   obtain⟨n,b,h1,h2⟩:=forN_outJ k (i+st) a' w h
   exact⟨n+1,b,by omega,by rw[show i+st*((n+1:Nat):Int)=i+st+st*(n:Int) by rw[Int.natCast_add,Int.mul_add];omega];exact h2⟩
theorem forN_nextP {A W:Type}{f:Int→A→Stp A W}{st:Int}{P:A→Prop}(hp:∀i a a',P a→f i a= .next a'→P a'):∀(k:Nat) (i:Int) (a a':A),P a→forN f st k i a= .next a'→P a'
 |0,_,_,_,ha,h=>by cases h;exact ha
 |k+1,i,a,a',ha,h=>by
  simp only[forN]at h
  cases hf:f i a with
  |out w'=>rw[hf]at h;cases h
  |next a1=>rw[hf]at h;exact forN_nextP hp k _ a1 a' (hp i a a1 ha hf) h
theorem SipEnd_nn (x:Sipr):0≤i_SipEnd.f (x,()):=by
 simp only[PX,i_SipEnd,i_SipEnd_L0_d]
 cases forN (fun j a=>(i_SipEnd_L0_T j a).nice) 1 (Int.toNat (4-0)) 0 ({x with c:=(bits .xor .u64 x.c 255)}:Sipr)with
 |next a=>exact(inK_bits .xor .u64 _ _ (.inr (.inr (.inl rfl)))).1
 |out e=>exact Empty.elim e
theorem SipHash_nn (k l:Int)(x:Bytes):0≤i_SipHash.f (k,l,x,()):=by
 simp only[PX,i_SipHash]
 exact SipEnd_nn _
theorem tm24 (s:Int)(h:0≤s):0≤IntKind.wrap .i64 (s.tmod 16777216)∧IntKind.wrap .i64 (s.tmod 16777216)≤16777215:=by
 have h1:=tmod_nn (b:=16777216) h
 have h2:=tmod_lt (a:=s) (show(0:Int)<16777216 by omega)
 rw[wrap64 (by omega) (by omega)];omega
theorem tm24b (r:Int):0≤(IntKind.wrap .i64 (r.tmod 16777216+16777216)).tmod 16777216∧(IntKind.wrap .i64 (r.tmod 16777216+16777216)).tmod 16777216≤16777215:=by
 have h1: -16777216<r.tmod 16777216:=Int.lt_tmod_of_pos _ (by omega)
 have h2:=tmod_lt (a:=r) (show(0:Int)<16777216 by omega)
 rw[wrap64 (by omega) (by omega)]
 have h3:=tmod_nn (a:=r.tmod 16777216+16777216) (b:=16777216) (by omega)
 have h4:=tmod_lt (a:=r.tmod 16777216+16777216) (show(0:Int)<16777216 by omega)
 omega
theorem MacOf_out (m:Mac)(x:Bytes)(k:Nat)(i:Int)(w:Int)(hf:forN (fun j a=>(i_MacOf_L0_T x m.rows j a).nice) 1 k i ()= .out w):0≤w∧w≤16777215:=by
 obtain⟨n,b,_,h⟩:=forN_outJ _ _ _ _ hf
 simp only[PX,i_MacOf_L0_T]at h
 revert h
 generalize(m.rows.getD (i+1*(n:Int)).toNat (Ty.zero .macRow))=r
 cases(r.input==x)with
 |false=>simp only[cond_false];intro h;cases h
 |true=>simp only[cond_true];intro h;injection h with h;rw[←h];exact tm24b r.value
theorem MacOf_eq (m:Mac)(x:Bytes):i_MacOf.f (m,x,())=bif !m.use then IntKind.wrap .i64 ((i_SipHash.f (m.k,m.l,x,())).tmod 16777216)else Stp.elim (fun _=>0) (fun p=>p) (forN (fun j a=>(i_MacOf_L0_T x m.rows j a).nice) 1 (Int.toNat ((m.rows.length:Int)-0)) 0 ()):=by
 simp only[PX,i_MacOf,i_MacOf_L0_d]
theorem bd_of (u:Bool)(s:Int)(z:Stp Unit Int)(hs:0≤s)(hk:∀w,z= .out w→0≤w∧w≤16777215):
  0≤(bif !u then IntKind.wrap .i64 (s.tmod 16777216)else Stp.elim (fun _=>0) (fun p=>p) z)∧(bif !u then IntKind.wrap .i64 (s.tmod 16777216)else Stp.elim (fun _=>0) (fun p=>p) z)≤16777215:=by
 cases u with
 |false=>simp only[Bool.not_false,cond_true];exact tm24 s hs
 |true=>
  simp only[Bool.not_true,cond_false]
  cases z with
  |next a=>simp only[Stp.elim];omega
  |out w=>exact hk w rfl
theorem MacOf_rng (m:Mac)(x:Bytes):0≤i_MacOf.f (m,x,())∧i_MacOf.f (m,x,())≤16777215:=by
 rw[MacOf_eq]
 exact bd_of m.use _ _ (SipHash_nn m.k m.l x) (MacOf_out m x (Int.toNat ((m.rows.length:Int)-0)) 0)
theorem PutWord_ne (n:Int)(h:i_WordOk.f (n,32,())=true):(i_PutWord.f (n,4,())).length=4:=by
 simp only[PX,i_PutWord,i_within_eq,i_PutWord_L0_d,show IntKind.wrap .i64 (8*4)=32 from rfl,h,show(decide ((1:Int)≤4)&&decide ((4:Int)≤6))=true from rfl,Bool.not_true,cond_false,show IntKind.wrap .i64 (4-1)=3 from rfl,show Int.toNat (3-0+1)=4 from rfl,show Int.toNat 4=4 from rfl]
 cases hf:forN (fun j a=>(i_PutWord_L0_T j a).nice) (-1) 4 3 (n,List.replicate 4 0)with
 |out e=>exact Empty.elim e
 |next a=>
  have:=forN_nextP (P:=fun a:Int×List Int=>a.2.length=4) (fun i a a' ha h=>by
   simp only[PX,i_PutWord_L0_T]at h
   cases h
   simpa using ha) _ _ _ _ (by simp) hf
  simp only[PX,Stp.elim,toBytes_length]
  exact this
theorem TupleOk_of (t:Tupl)(h:i_TupleOk.f (t,())=true):(0≤t.ip∧t.ip≤4294967295)∧(0≤t.port∧t.port≤65535)∧(0≤t.my∧t.my≤65535):=by
 simp only[PX,i_TupleOk,i_WordOk_32,i_WordOk_16]at h
 revert h
 cases h1:(decide (0≤t.ip)&&decide (t.ip≤4294967295))<;>cases h2:(decide (0≤t.port)&&decide (t.port≤65535))<;>simp only[cond_true,cond_false,Bool.and_eq_true,decide_eq_true_eq]at* <;>simp_all
theorem MacInput_ne (t:Tupl)(seq e i:Int)(ht:i_TupleOk.f (t,())=true)(hs:0≤seq∧seq≤4294967295)(he:0≤e∧e≤4294967295)(hi:0≤i∧i≤7):(i_MacInput.f (t,seq,e,i,())==[])=false:=by
 have h1:=PutWord_ne t.ip (by rw[i_WordOk_32];have:=(TupleOk_of t ht).1;simp[this])
 simp only[PX,i_MacInput,ht,i_WordOk_32,i_within_eq,decide_eq_true hs.1,decide_eq_true hs.2,decide_eq_true he.1,decide_eq_true he.2,decide_eq_true hi.1,decide_eq_true hi.2,Bool.and_self,Bool.not_true,cond_false]
 generalize i_PutWord.f (t.ip,4,())=a at*
 match a,h1 with
 |x::r,_=>simp
theorem CookieOf_eq (m:Mac)(t:Tupl)(seq e i:Int)(ht:i_TupleOk.f (t,())=true)(hs:0≤seq∧seq≤4294967295)(he:0≤e∧e≤4294967295)(hi:0≤i∧i≤7):
  i_CookieOf.f (m,t,seq,e,i,())=(e%32)*134217728+i*16777216+i_MacOf.f (m,i_MacInput.f (t,seq,e,i,()),()):=by
 simp only[PX,i_CookieOf,MacInput_ne t seq e i ht hs he hi,cond_false]
 have h:=MacOf_rng m (i_MacInput.f (t,seq,e,i,()))
 rw[(tmod_pos 32).1 he.1,wrap64 (m:=e%32*134217728) (by omega) (by omega),wrap64 (m:=i*16777216) (by omega) (by omega),wrap64 (m:=e%32*134217728+i*16777216) (by omega) (by omega),wrap64 (by omega) (by omega)]
theorem MssIndex_rng (x:Int):0≤i_MssIndex.f (x,())∧i_MssIndex.f (x,())≤7:=by
 simp only[PX,i_MssIndex,i_MssIndex_L0_d]
 cases hf:forN (fun j a=>(i_MssIndex_L0_T x j a).nice) (-1) (Int.toNat (7-0)) 7 ()with
 |next a=>simp[PX,Stp.elim]
 |out w=>
  obtain⟨n,b,hn,h⟩:=forN_outJ _ _ _ _ hf
  simp only[PX,i_MssIndex_L0_T]at h
  simp only[PX,Stp.elim]
  rw[show Int.toNat (7-0)=7 from rfl]at hn
  revert h
  cases decide (i_MssOf.f (7+ -1*(n:Int),())≤x)with
  |false=>simp only[cond_false];intro h;cases h
  |true=>simp only[cond_true];intro h;cases h;omega
theorem AnswerOptions_Ok (o:Opti)(c:Int)(ho:s_OptionsOk.f (o,())=true):s_OptionsOk.f (i_AnswerOptions.f (o,c,()),())=true:=by
 have hv:∀a b:Int,∀s:Bool,0≤i_StampOf.f (a,b,s,())∧i_StampOf.f (a,b,s,())≤4294967295:=by
  intro a b s
  simp only[PX,i_StampOf,i64_mask32]
  cases s<;>simp only[cond_true,cond_false]<;>cases i_within.f (b,0,14,())<;>simp only[Bool.not_true,Bool.not_false,cond_true,cond_false]<;>omega
 simp only[PX,s_OptionsOk,s_l1In_eq,s_WordOk_16,s_WordOk_32]at ho⊢
 simp only[PX,i_AnswerOptions,i_within_eq]
 have h1:=hv c o.scale o.sack
 cases hst:o.stamp with
 |false=>simp[PX]
 |true=>
  simp only[hst,Bool.not_true,cond_false]at ho⊢
  revert ho
  cases(decide (0≤o.mss)&&decide (o.mss≤65535))<;>cases(decide (-1≤o.scale)&&decide (o.scale≤14))<;>cases hval:(decide (0≤o.val)&&decide (o.val≤4294967295))<;>simp only[cond_true,cond_false]<;>intro ho
  all_goals first|(exfalso;exact Bool.noConfusion ho)|skip
  cases(decide (0≤o.scale)&&decide (o.scale≤14))<;>simp only[PX,cond_true,cond_false]<;>simp only[decide_eq_true h1.1,decide_eq_true h1.2,ho,hval,Bool.and_self,cond_true]<;>rfl
def fidx {T:Type}(p:T→Bool)(xs:List T):Int:=match xs.findIdx? p with|none=> -1|some i=>(i:Int)
theorem forN_fidx {T:Type}(p:T→Bool)(xs:List T){f:Int→Unit→Stp Unit Int}(h:∀(j:Nat) x a,xs[j]? =some x→f j a=bif p x then .out (j:Int)else .next ()):
  forN f 1 (Int.toNat ((xs.length:Int)-0)) 0 ()=match xs.findIdx? p with|none=> .next ()|some i=> .out (i:Int):=by
 rw[toNat_sub0,forN_list xs _ rfl h,listN_find (w:=fun j _=>(j:Int))]
 cases hf:xs.findIdx? p with
 |none=>rfl
 |some i=>
  obtain⟨h1,_,_⟩:=List.findIdx?_eq_some_iff_getElem.1 hf
  simp only[List.getElem?_eq_getElem h1,Nat.zero_add]
theorem fidx_nn {T:Type}(p:T→Bool)(xs:List T):decide (0≤fidx p xs)=xs.any p:=by
 unfold fidx
 cases h:xs.findIdx? p with
 |none=>
  rw[List.findIdx?_eq_none_iff]at h
  symm
  show xs.any p=false
  rw[List.any_eq_false]
  intro x hx;simp[h x hx]
 |some i=>
  obtain⟨h1,h2,_⟩:=List.findIdx?_eq_some_iff_getElem.1 h
  have:xs.any p=true:=by rw[List.any_eq_true];exact⟨xs[i],List.getElem_mem h1,h2⟩
  rw[this];simp
theorem fidx_lt {T:Type}(p:T→Bool)(xs:List T):decide (fidx p xs<0)= !xs.any p:=by
 rw[←fidx_nn]
 by_cases h:0≤fidx p xs
 ·rw[decide_eq_true h,decide_eq_false (by omega)];rfl
 ·rw[decide_eq_false h,decide_eq_true (by omega)];rfl
theorem fidx_at {T:Type}(p:T→Bool)(xs:List T)(j:Nat)(x:T)(hx:xs[j]? =some x)(hp:p x=true):(fidx p xs != (j:Int))=(xs.take j).any p:=by
 obtain⟨hj,rfl⟩:=List.getElem?_eq_some_iff.1 hx
 unfold fidx
 cases h:xs.findIdx? p with
 |none=>
  rw[List.findIdx?_eq_none_iff]at h
  have:=h _ (List.getElem_mem hj)
  rw[hp]at this;cases this
 |some i=>
  obtain⟨h1,h2,h3⟩:=List.findIdx?_eq_some_iff_getElem.1 h
  simp only[]
  rw[Bool.eq_iff_iff]
  simp only[bne_iff_ne,ne_eq,List.any_eq_true]
  constructor
  ·intro hne
   have hij:i<j:=by
    rcases Nat.lt_or_ge i j with h4|h4
    ·exact h4
    ·have h5:j<i:=by omega
     have:=h3 j h5
     simp[hp]at this
   refine⟨xs[i], ?_,h2⟩
   rw[List.mem_take_iff_getElem]
   exact⟨i,by omega,rfl⟩
  ·rintro⟨y,hy,hpy⟩ he
   rw[List.mem_take_iff_getElem]at hy
   obtain⟨k,hk,rfl⟩:=hy
   have:k<i:=by omega
   have:=h3 k this
   simp[hpy]at this
def eqT (t y:Tupl):Bool:=(y.ip==t.ip)&&((y.port==t.port)&&((y.my==t.my)&&true))
theorem eqT_refl (t:Tupl):eqT t t=true:=by simp[eqT]
theorem s_FindHalf_eq2 (xs:List Half)(t:Tupl):s_FindHalf.f (xs,t,())=fidx (fun h=>eqT t h.tuple) xs:=by
 simp only[PX,s_FindHalf,s_FindHalf_L0_d]
 rw[forN_fidx (fun h:Half=>eqT t h.tuple) xs (fun j x a h=>by
  simp only[PX,s_FindHalf_L0_T,toNat_cast,getD_some h,eqT])]
 unfold fidx
 cases xs.findIdx? (fun h=>eqT t h.tuple)<;>rfl
theorem i_FindHalf_eq2 (xs:List Half)(t:Tupl):i_FindHalf.f (xs,t,())=fidx (fun h=>eqT t h.tuple) xs:=by
 simp only[PX,i_FindHalf,g_IndexFunc_Half_i_FindHalf_1,g_IndexFunc_Half_i_FindHalf_1_L0_d]
 rw[forN_fidx (fun h:Half=>eqT t h.tuple) xs (fun j x a h=>by
  simp only[PX,g_IndexFunc_Half_i_FindHalf_1_L0_T,i_FindHalf_1,toNat_cast,getD_some h,eqT])]
 unfold fidx
 cases xs.findIdx? (fun h=>eqT t h.tuple)<;>rfl
theorem q_FindHalf (xs:List Half)(t:Tupl):s_FindHalf.f (xs,t,())=i_FindHalf.f (xs,t,()):=by rw[s_FindHalf_eq2,i_FindHalf_eq2]
theorem s_FindConn_eq2 (x:Tabl)(t:Tupl):s_FindConn.f (x,t,())=fidx (fun h=>eqT t h.tuple) x.conns:=by
 simp only[PX,s_FindConn,s_FindConn_L0_d]
 rw[forN_fidx (fun h:Conn=>eqT t h.tuple) x.conns (fun j x a h=>by
  simp only[PX,s_FindConn_L0_T,toNat_cast,getD_some h,eqT])]
 unfold fidx
 cases x.conns.findIdx? (fun h=>eqT t h.tuple)<;>rfl
theorem i_FindConn_eq2 (x:Tabl)(t:Tupl):i_FindConn.f (x,t,())=fidx (fun h=>eqT t h.tuple) x.conns:=by
 simp only[PX,i_FindConn,g_IndexFunc_Conn_i_FindConn_1,g_IndexFunc_Conn_i_FindConn_1_L0_d]
 rw[forN_fidx (fun h:Conn=>eqT t h.tuple) x.conns (fun j x a h=>by
  simp only[PX,g_IndexFunc_Conn_i_FindConn_1_L0_T,i_FindConn_1,toNat_cast,getD_some h,eqT])]
 unfold fidx
 cases x.conns.findIdx? (fun h=>eqT t h.tuple)<;>rfl
theorem q_FindConn (x:Tabl)(t:Tupl):s_FindConn.f (x,t,())=i_FindConn.f (x,t,()):=by rw[s_FindConn_eq2,i_FindConn_eq2]
theorem q_WindowOf (x:Recv):s_WindowOf.f (x,())=i_WindowOf.f (x,()):=by
 simp only[PX,s_WindowOf,i_WindowOf,l1Max0]
theorem WindowOf_le (x:Recv)(h:(x.data.length:Int)≤32):i_WindowOf.f (x,())≤32:=by
 simp only[PX,i_WindowOf]
 cases x.done with
 |true=>simp only[cond_true];omega
 |false=>
  simp only[cond_false]
  rw[wrap64 (by omega) (by omega)]
  split<;>omega
theorem q_SenderOk (x:Sndr):s_SenderOk.f (x,())=i_SenderOk.f (x,()):=by
 simp only[PX,s_SenderOk,i_SenderOk,q_WordOk,s_l1In_eq,i_within_eq]
def walkP (L:Int):Int→List Piec→Option Int
 |a,[]=>some a
 |a,p::r=>bif (p.text==[])||decide (p.off≤a)||decide (L<p.off+(p.text.length:Int))then none else walkP L (p.off+(p.text.length:Int)) r
theorem walkP_le (L:Int):∀(r:List Piec) (a b:Int),walkP L a r=some b→a≤b∧(a≤L→b≤L)
 |[],a,b,h=>by cases h;exact⟨Int.le_refl _,fun h=>h⟩
 |p::r,a,b,h=>by
  simp only[walkP]at h
  cases hc:((p.text==[])||decide (p.off≤a)||decide (L<p.off+(p.text.length:Int)))with
  |true=>rw[hc]at h;cases h
  |false=>
   rw[hc]at h
   simp only[Bool.or_eq_false_iff,decide_eq_false_iff_not]at hc
   have:=walkP_le L r _ b h
   omega
theorem walkP_sub (L M:Int)(hLM:L≤M):∀(r:List Piec) (a:Int),a≤L→walkP L a r=(match walkP M a r with|some b=>bif decide (b≤L)then some b else none|none=>none)
 |[],a,h=>by simp only[walkP,decide_eq_true h,cond_true]
 |p::r,a,h=>by
  simp only[walkP]
  cases h1:((p.text==[])||decide (p.off≤a))with
  |true=>simp only[Bool.true_or,cond_true]
  |false=>
   simp only[Bool.false_or]
   by_cases h2:L<p.off+(p.text.length:Int)
   ·rw[decide_eq_true h2]
    simp only[cond_true]
    by_cases h3:M<p.off+(p.text.length:Int)
    ·rw[decide_eq_true h3];rfl
    ·rw[decide_eq_false h3]
     simp only[cond_false]
     cases hw:walkP M (p.off+(p.text.length:Int)) r with
     |none=>rfl
     |some b=>
      have:=(walkP_le M r _ b hw).1
      simp only[]
      rw[decide_eq_false (by omega)]
      rfl
   ·rw[decide_eq_false h2,decide_eq_false (show¬M<p.off+(p.text.length:Int) by omega)]
    simp only[cond_false]
    exact walkP_sub L M hLM r _ (by omega)
def SmallP (xs:List Piec):Prop:=∀y∈xs,y.text.length≤4611686018427387904
theorem SmallP.getD {xs:List Piec}(h:SmallP xs)(i:Nat):(xs.getD i (Ty.zero .piec)).text.length≤4611686018427387904:=getD_all (p:=fun y:Piec=>y.text.length≤4611686018427387904) (by decide+kernel) h i
theorem text_pos {s:Bytes}(h:(s==[])=false):0<s.length:=by
 cases s with
 |nil=>cases h
 |cons=>simp
theorem listN_walk {W:Type}{F:Nat→Piec→Int→Stp Int W}{L:Int}{w:W}:∀(r:List Piec) (j:Nat) (a:Int),0≤a→a≤32→L≤32→(∀p∈r,∀j a,0≤a→a≤32→(∃w,(p.text==[]||decide (p.off≤a)||decide (L<p.off+(p.text.length:Int)))=true∧F j p a= .out w)∨((p.text==[]||decide (p.off≤a)||decide (L<p.off+(p.text.length:Int)))=false∧F j p a= .next (p.off+(p.text.length:Int))))→
  (match walkP L a r with|some b=>listN F j r a= .next b|none=>∃w,listN F j r a= .out w)
 |[],j,a,_,_,_,_=>rfl
 |p::r,j,a,h0,h1,hL,hF=>by
  rcases hF p List.mem_cons_self j a h0 h1 with⟨w,hc,hf⟩|⟨hc,hf⟩
  ·simp only[walkP,hc,cond_true,listN,hf,Stp.elim]
   exact⟨w,rfl⟩
  ·simp only[walkP,hc,cond_false,listN,hf,Stp.elim]
   simp only[Bool.or_eq_false_iff,decide_eq_false_iff_not]at hc
   exact listN_walk (w:=w) r (j+1) _ (by omega) (by omega) hL fun q hq=>hF q (List.mem_cons_of_mem _ hq)
theorem s_walk (x:Recv)(L:Int)(hL:L≤32)(hs:SmallP x.held):match walkP L 0 x.held with|some b=>forN (fun j a=>(s_ReceiverOk_L0_T L x j a).nice) 1 (Int.toNat ((x.held.length:Int)-0)) 0 0= .next b|none=>∃w,forN (fun j a=>(s_ReceiverOk_L0_T L x j a).nice) 1 (Int.toNat ((x.held.length:Int)-0)) 0 0= .out w:=by
 rw[toNat_sub0,forN_list x.held _ rfl (F:=fun j p a=>(s_ReceiverOk_L0_T L {x with held:=[p]} 0 a).nice) (by
  intro j p a h
  simp only[PX,s_ReceiverOk_L0_T,toNat_cast,getD_some h]
  rfl)]
 refine listN_walk (w:=(0:Int)) _ _ _ (by omega) (by omega) hL fun p hp j a h0 h1=> ?_
 have hl:=hs p hp
 simp only[PX,s_ReceiverOk_L0_T,show Int.toNat 0=0 from rfl,List.getD_cons_zero]
 cases h2:(p.text==[])with
 |true=>exact .inl ⟨_,rfl,rfl⟩
 |false=>
  have hp:=text_pos h2
  cases h3:decide (p.off≤a)with
  |true=>exact .inl ⟨_,rfl,rfl⟩
  |false=>
   simp only[decide_eq_false_iff_not]at h3
   simp only[cond_false,Bool.false_or]
   by_cases h4:L<p.off
   ·refine .inl ⟨a,decide_eq_true (by omega), ?_⟩
    rw[decide_eq_true h4];rfl
   ·rw[decide_eq_false h4,wrap64 (by omega) (by omega)]
    simp only[cond_false]
    by_cases h5:L<p.off+(p.text.length:Int)
    ·rw[decide_eq_true h5];exact .inl ⟨_,rfl,rfl⟩
    ·rw[decide_eq_false h5];exact .inr ⟨rfl,rfl⟩
theorem i_walk (x:Recv)(L:Int)(hL0: -9223372036854775808≤L-4611686018427387904)(hL:L≤32)(hs:SmallP x.held):match walkP L 0 x.held with|some b=>forN (fun j a=>(i_ReceiverOk_L0_T L x.held j a).nice) 1 (Int.toNat ((x.held.length:Int)-0)) 0 0= .next b|none=>∃w,forN (fun j a=>(i_ReceiverOk_L0_T L x.held j a).nice) 1 (Int.toNat ((x.held.length:Int)-0)) 0 0= .out w:=by
 rw[toNat_sub0,forN_list x.held _ rfl (F:=fun j p a=>(i_ReceiverOk_L0_T L [p] 0 a).nice) (by
  intro j p a h
  simp only[PX,i_ReceiverOk_L0_T,toNat_cast,getD_some h]
  rfl)]
 refine listN_walk (w:=()) _ _ _ (by omega) (by omega) hL fun p hp j a h0 h1=> ?_
 have hl:=hs p hp
 simp only[PX,i_ReceiverOk_L0_T,show Int.toNat 0=0 from rfl,List.getD_cons_zero]
 cases h2:(p.text==[])with
 |true=>exact .inl ⟨_,rfl,rfl⟩
 |false=>
  have hp:=text_pos h2
  cases h3:decide (p.off≤a)with
  |true=>exact .inl ⟨_,rfl,rfl⟩
  |false=>
   simp only[decide_eq_false_iff_not]at h3
   simp only[cond_false,Bool.false_or]
   rw[wrap64 (m:=L-(p.text.length:Int)) (by omega) (by omega)]
   by_cases h5:L<p.off+(p.text.length:Int)
   ·rw[decide_eq_true h5,decide_eq_true (by omega)];exact .inl ⟨_,rfl,rfl⟩
   ·rw[decide_eq_false h5,decide_eq_false (by omega),wrap64 (by omega) (by omega)];exact .inr ⟨rfl,rfl⟩
theorem q_ReceiverOk (x:Recv)(hs:SmallP x.held):s_ReceiverOk.f (x,())=i_ReceiverOk.f (x,()):=by
 simp only[PX,s_ReceiverOk,i_ReceiverOk,s_ReceiverOk_L0_d,i_ReceiverOk_L0_d,q_WordOk,s_l1In_eq,q_WindowOf]
 cases i_WordOk.f (x.next,32,())with
 |false=>rfl
 |true=>
  by_cases hd:32<(x.data.length:Int)
  ·rw[decide_eq_true hd];rfl
  ·rw[decide_eq_false hd]
   have hw:=WindowOf_le x (by omega)
   simp only[Bool.not_true,cond_false]
   cases decide (3<(x.held.length:Int))with
   |true=>rfl
   |false=>
    simp only[cond_false]
    rw[i_within_eq]
    by_cases hf: -1≤x.fin∧x.fin≤i_WindowOf.f (x,())
    ·rw[decide_eq_true hf.1,decide_eq_true hf.2]
     simp only[Bool.and_self,Bool.not_true,cond_false]
     cases h0:(x.fin==0)with
     |true=>rfl
     |false=>
      simp only[cond_false]
      have h0:x.fin≠0:=by simpa using h0
      have k1:=s_walk x (i_WindowOf.f (x,())) hw hs
      by_cases h1:x.fin= -1
      ·have k2:=i_walk x (i_WindowOf.f (x,())) (by omega) hw hs
       rw[show(x.fin != -1)=false by simp[h1],show decide (x.fin<0)=true from decide_eq_true (by omega)]
       simp only[cond_true,cond_false]
       cases hp:walkP (i_WindowOf.f (x,())) 0 x.held with
       |some b=>rw[hp]at k1 k2;simp only[]at k1 k2;rw[k1,k2];rfl
       |none=>rw[hp]at k1 k2;obtain⟨w1,k1⟩:=k1;obtain⟨w2,k2⟩:=k2;rw[k1,k2];rfl
      ·have k2:=i_walk x x.fin (by omega) (by omega) hs
       rw[show(x.fin != -1)=true by simp[h1],show decide (x.fin<0)=false from decide_eq_false (by omega)]
       simp only[cond_true,cond_false]
       rw[walkP_sub x.fin (i_WindowOf.f (x,())) (by omega) x.held 0 (by omega)]at k2
       cases hp:walkP (i_WindowOf.f (x,())) 0 x.held with
       |none=>rw[hp]at k1 k2;obtain⟨w1,k1⟩:=k1;obtain⟨w2,k2⟩:=k2;rw[k1,k2];rfl
       |some b=>
        rw[hp]at k1 k2
        simp only[]at k1 k2
        rw[k1]
        by_cases hb:b≤x.fin
        ·rw[decide_eq_true hb]at k2
         simp only[cond_true]at k2
         rw[k2];simp only[Stp.elim,decide_eq_true hb,cond_true]
        ·rw[decide_eq_false hb]at k2
         obtain⟨w2,k2⟩:=k2
         rw[k2];simp only[Stp.elim,decide_eq_false hb,cond_false]
    ·have:(decide (-1≤x.fin)&&decide (x.fin≤i_WindowOf.f (x,())))=false:=by
      rw[Bool.and_eq_false_iff];simp only[decide_eq_false_iff_not];omega
     rw[this];rfl
theorem q_ConnOk (x:Conn)(hs:SmallP x.r.held):s_ConnOk.f (x,())=i_ConnOk.f (x,()):=by
 simp only[PX,s_ConnOk,i_ConnOk,s_l19Fin,q_TupleOk,q_SenderOk,q_ReceiverOk x.r hs,q_OptionsOk,s_l1In_eq,i_within_eq]
 cases i_TupleOk.f (x.tuple,())with
 |false=>rfl
 |true=>
 cases i_SenderOk.f (x.s,())with
 |false=>rfl
 |true=>
 cases i_ReceiverOk.f (x.r,())with
 |false=>rfl
 |true=>
 cases i_OptionsOk.f (x.opts,())with
 |false=>rfl
 |true=>
 simp only[Bool.not_true,cond_false]
 have hm:(bif !(decide (0≤x.window)&&decide (x.window≤x.most))then true else decide (1073725440<x.most))=(bif !(decide (0≤x.most)&&decide (x.most≤1073725440))then true else !(decide (0≤x.window)&&decide (x.window≤x.most))):=by
  rw[Bool.eq_iff_iff]
  by_cases h1:0≤x.window<;>by_cases h2:x.window≤x.most<;>by_cases h3:1073725440<x.most<;>by_cases h4:0≤x.most<;>by_cases h5:x.most≤1073725440<;>simp[h1,h2,h3,h4,h5]<;>omega
 have ej:∀b:Bool,(bif b then(false,(4:Int),x,())else(false,3,x,()))=(false,(bif b then 4 else 3),x,()):=fun b=>by cases b<;>rfl
 have et:∀b:Bool,decide (x.timer≤bif b then 4 else 3)=bif b then decide (x.timer≤4)else decide (x.timer≤3):=fun b=>by cases b<;>rfl
 simp only[ej,et]
 revert hm
 generalize(decide (0≤x.window)&&decide (x.window≤x.most))=W
 generalize decide (1073725440<x.most)=M
 generalize(decide (0≤x.most)&&decide (x.most≤1073725440))=N
 generalize(decide (0≤x.tries)&&decide (x.tries≤3))=T
 generalize decide (0≤x.timer)=T0
 generalize decide (x.timer≤4)=T4
 generalize decide (x.timer≤3)=T3
 generalize x.s.fin=sf
 generalize x.s.done=sd
 generalize x.r.done=rd
 generalize x.state=k
 have hk:k=1∨k=2∨k=3∨k=4∨k=5∨k=6∨k=7∨k=8∨(decide (1≤k)&&decide (k≤8))=false:=by
  simp only[Bool.and_eq_false_iff,decide_eq_false_iff_not];omega
 rcases hk with rfl|rfl|rfl|rfl|rfl|rfl|rfl|rfl|hk
 iterate 8 (revert W M N T T0 T4 T3 sf sd rd;decide+kernel)
 intro _;simp only[hk];rfl
theorem q_LimitsOk (x:Limi):s_LimitsOk.f (x,())=i_LimitsOk.f (x,()):=by
 simp only[PX,s_LimitsOk,i_LimitsOk,s_l1In_eq,i_within_eq]
theorem forN_same {T V W:Type}(xs:List T){f:Int→Unit→Stp Unit V}{g:Int→Unit→Stp Unit W}{k:Nat}(hk:k=xs.length)(h:∀(j:Nat) x,xs[j]? =some x→(∃v w,f j ()= .out v∧g j ()= .out w)∨(f j ()= .next ()∧g j ()= .next ())):
  (∃v w,forN f 1 k 0 ()= .out v∧forN g 1 k 0 ()= .out w)∨(forN f 1 k 0 ()= .next ()∧forN g 1 k 0 ()= .next ()):=by
 subst hk
 have:∀(n i:Nat),i+n=xs.length→(∃v w,forN f 1 n (i:Int) ()= .out v∧forN g 1 n (i:Int) ()= .out w)∨(forN f 1 n (i:Int) ()= .next ()∧forN g 1 n (i:Int) ()= .next ()):=by
  intro n
  induction n with
  |zero=>intro i _;exact .inr ⟨rfl,rfl⟩
  |succ n ih=>
   intro i hi
   rcases h i xs[i] (List.getElem?_eq_getElem (by omega))with⟨v,w,h1,h2⟩|⟨h1,h2⟩
   ·exact .inl ⟨v,w,by simp only[forN,h1,Stp.elim],by simp only[forN,h2,Stp.elim]⟩
   ·simp only[forN,h1,h2,Stp.elim]
    have:=ih (i+1) (by omega)
    rwa [show((i+1:Nat):Int)=(i:Int)+1 by omega]at this
 exact this xs.length 0 (by omega)
theorem l25Waits_any (xs:List Tupl)(t:Tupl):s_l25Waits.f (xs,t,())=xs.any (eqT t):=by
 simp only[PX,s_l25Waits,s_l25Waits_L0_d]
 rw[toNat_sub0,forN_list xs _ rfl (F:=fun j y a=>bif eqT t y then .out ()else .next ()) (by
  intro j y a h
  simp only[PX,s_l25Waits_L0_T,toNat_cast,getD_some h,eqT])]
 rw[listN_find (p:=eqT t) (w:=fun _ _=>())]
 cases h:xs.findIdx? (eqT t)with
 |none=>
  rw[List.findIdx?_eq_none_iff]at h
  simp only[Stp.elim]
  symm
  rw[List.any_eq_false]
  intro x hx;simp[h x hx]
 |some i=>
  obtain⟨h1,h2,_⟩:=List.findIdx?_eq_some_iff_getElem.1 h
  simp only[List.getElem?_eq_getElem h1,Stp.elim]
  symm
  rw[List.any_eq_true];exact⟨xs[i],List.getElem_mem h1,h2⟩
theorem Index_Tuple_eq2 (xs:List Tupl)(t:Tupl):g_Index_Tuple.f (xs,t,())=fidx (eqT t) xs:=by
 have e:∀a b:Int,(a==b)=(b==a):=fun a b=>by rw[Bool.eq_iff_iff];simp only[beq_iff_eq];exact eq_comm
 simp only[PX,g_Index_Tuple,g_Index_Tuple_L0_d]
 rw[forN_fidx (eqT t) xs (fun j x a h=>by
  simp only[PX,g_Index_Tuple_L0_T,toNat_cast,getD_some h,eqT,e t.ip,e t.port,e t.my])]
 unfold fidx
 cases xs.findIdx? (eqT t)<;>rfl
theorem mem_at {T:Type}{xs:List T}{j:Nat}{x:T}(h:xs[j]? =some x):x∈xs:=List.mem_of_getElem? h
theorem q_TableOk (x:Tabl)(l:Limi)(hs:∀y∈x.conns,SmallP y.r.held):s_TableOk.f (x,l,())=i_TableOk.f (x,l,()):=by
 simp only[PX,s_TableOk,i_TableOk,s_TableOk_L0_d,i_TableOk_L0_d,s_TableOk_L1_d,i_TableOk_L1_d,q_LimitsOk]
 have h1:=forN_same x.conns (f:=fun j a=>(s_TableOk_L0_T x j a).nice) (g:=fun j a=>(i_TableOk_L0_T x.conns x j a).nice) (k:=Int.toNat ((x.conns.length:Int)-0)) (toNat_sub0 _) (fun j y hy=>by
  simp only[PX,s_TableOk_L0_T,i_TableOk_L0_T,toNat_cast,getD_some hy,q_ConnOk y (hs y (mem_at hy)),q_FindConn]
  cases i_ConnOk.f (y,())with
  |false=>exact .inl ⟨_,_,rfl,rfl⟩
  |true=>cases(i_FindConn.f (x,y.tuple,()) != (j:Int))with
   |true=>exact .inl ⟨_,_,rfl,rfl⟩
   |false=>exact .inr ⟨rfl,rfl⟩)
 have h2:=forN_same x.waiting (f:=fun j a=>(s_TableOk_L1_T x j a).nice) (g:=fun j a=>(i_TableOk_L1_T x.waiting x j a).nice) (k:=Int.toNat ((x.waiting.length:Int)-0)) (toNat_sub0 _) (fun j y hy=>by
  simp only[PX,s_TableOk_L1_T,i_TableOk_L1_T,toNat_cast,getD_some hy,l25Waits_any,Index_Tuple_eq2,q_FindConn,List.drop_zero]
  rw[fidx_at (eqT y) x.waiting j y hy (eqT_refl y)]
  cases(x.waiting.take j).any (eqT y)<;>cases decide (i_FindConn.f (x,y,())<0)<;>first|exact .inl ⟨_,_,rfl,rfl⟩|exact .inr ⟨rfl,rfl⟩)
 rcases h1 with⟨v,w,h3,h4⟩|⟨h3,h4⟩
 ·rw[h3,h4]
  cases(i_LimitsOk.f (l,()))<;>cases decide (l.conns<(x.conns.length:Int))<;>cases decide (l.waiting<(x.waiting.length:Int))<;>rfl
 ·rw[h3,h4]
  rcases h2 with⟨v,w,h5,h6⟩|⟨h5,h6⟩
  ·rw[h5,h6]
   all_goals (cases(i_LimitsOk.f (l,()))<;>cases decide (l.conns<(x.conns.length:Int))<;>cases decide (l.waiting<(x.waiting.length:Int))<;>rfl)
  ·rw[h5,h6]
   all_goals (cases(i_LimitsOk.f (l,()))<;>cases decide (l.conns<(x.conns.length:Int))<;>cases decide (l.waiting<(x.waiting.length:Int))<;>rfl)
theorem q_HalvesOk (xs:List Half):s_HalvesOk.f (xs,())=i_HalvesOk.f (xs,()):=by
 simp only[PX,s_HalvesOk,i_HalvesOk,s_HalvesOk_L0_d,i_HalvesOk_L0_d]
 have h1:=forN_same xs (f:=fun j a=>(s_HalvesOk_L0_T xs j a).nice) (g:=fun j a=>(i_HalvesOk_L0_T xs xs j a).nice) (k:=Int.toNat ((xs.length:Int)-0)) (toNat_sub0 _) (fun j y hy=>by
  simp only[PX,s_HalvesOk_L0_T,i_HalvesOk_L0_T,toNat_cast,getD_some hy,q_TupleOk,q_WordOk,q_OptionsOk,s_l1In_eq,i_within_eq,s_FindHalf_eq2,i_FindHalf_eq2,List.drop_zero,fidx_nn]
  rw[fidx_at (fun h:Half=>eqT y.tuple h.tuple) xs j y hy (eqT_refl _)]
  cases i_TupleOk.f (y.tuple,())with
  |false=>exact .inl ⟨_,_,rfl,rfl⟩
  |true=>
  cases i_WordOk.f (y.iss,32,())with
  |false=>exact .inl ⟨_,_,rfl,rfl⟩
  |true=>
  cases i_WordOk.f (y.irs,32,())with
  |false=>exact .inl ⟨_,_,rfl,rfl⟩
  |true=>
  cases i_WordOk.f (y.window,16,())with
  |false=>exact .inl ⟨_,_,rfl,rfl⟩
  |true=>
  cases i_OptionsOk.f (y.opts,())with
  |false=>exact .inl ⟨_,_,rfl,rfl⟩
  |true=>
  cases(decide (0≤y.age)&&decide (y.age≤6))with
  |false=>exact .inl ⟨_,_,rfl,rfl⟩
  |true=>
  cases(xs.take j).any (fun h=>eqT y.tuple h.tuple)with
  |true=>exact .inl ⟨_,_,rfl,rfl⟩
  |false=>exact .inr ⟨rfl,rfl⟩)
 rcases h1 with⟨v,w,h3,h4⟩|⟨h3,h4⟩<;>rw[h3,h4]<;>by_cases h:64<(xs.length:Int)
 ·rw[decide_eq_true h];rfl
 ·rw[decide_eq_false h];rfl
 ·rw[decide_eq_true h];simp only[Stp.elim,cond_true];exact decide_eq_false (by omega)
 ·rw[decide_eq_false h];simp only[Stp.elim,cond_false];exact decide_eq_true (by omega)
theorem DoorOk_any (d:Door)(xs:List Half):g_ContainsFunc_Half_i_DoorOk_1.f (xs,d,())=xs.any (fun h=>decide (0≤i_FindConn.f (d.table,h.tuple,()))):=by
 simp only[PX,g_ContainsFunc_Half_i_DoorOk_1,g_IndexFunc_Half_i_DoorOk_1,g_IndexFunc_Half_i_DoorOk_1_L0_d]
 rw[forN_fidx (fun h:Half=>decide (0≤i_FindConn.f (d.table,h.tuple,()))) xs (fun j y a h=>by
  simp only[PX,g_IndexFunc_Half_i_DoorOk_1_L0_T,i_DoorOk_1,toNat_cast,getD_some h])]
 rw[←fidx_nn]
 unfold fidx
 cases xs.findIdx? (fun h=>decide (0≤i_FindConn.f (d.table,h.tuple,())))<;>rfl
theorem listN_any {T:Type}(p:T→Bool)(xs:List T)(j:Nat):listN (W:=Unit) (fun _ y (_:Unit)=>bif p y then .out ()else .next ()) j xs ()=bif xs.any p then .out ()else .next ():=by
 rw[listN_find (w:=fun _ _=>())]
 cases h:xs.findIdx? p with
 |none=>
  rw[List.findIdx?_eq_none_iff]at h
  have:xs.any p=false:=by
   rw[List.any_eq_false]
   intro y hy;simp[h y hy]
  rw[this];rfl
 |some i=>
  obtain⟨h1,h2,_⟩:=List.findIdx?_eq_some_iff_getElem.1 h
  have:xs.any p=true:=by rw[List.any_eq_true];exact⟨xs[i],List.getElem_mem h1,h2⟩
  rw[this];simp only[List.getElem?_eq_getElem h1];rfl
theorem q_DoorOk (x:Door)(hs:∀y∈x.table.conns,SmallP y.r.held):s_DoorOk.f (x,())=i_DoorOk.f (x,()):=by
 simp only[PX,s_DoorOk,i_DoorOk,s_DoorOk_L0_d,q_WordOk,q_KeysOk,q_TableOk x.table x.limits hs,q_HalvesOk,s_l1In_eq,i_within_eq,DoorOk_any]
 rw[toNat_sub0,forN_list x.halves _ rfl (F:=fun j y a=>bif decide (0≤i_FindConn.f (x.table,y.tuple,()))then .out ()else .next ()) (by
  intro j y a h
  simp only[PX,s_DoorOk_L0_T,toNat_cast,getD_some h,q_FindConn])]
 rw[listN_any (fun y:Half=>decide (0≤i_FindConn.f (x.table,y.tuple,())))]
 cases x.halves.any (fun y=>decide (0≤i_FindConn.f (x.table,y.tuple,())))<;>rfl
theorem listN_copy:∀(r:List Conn) (j:Nat) (c:List Conn) (w:List Tupl),listN (W:=Empty) (fun _ x (a:Tabl×Tabl)=> .next ((⟨[],[]⟩:Tabl),(⟨a.2.conns++[x],a.2.waiting⟩:Tabl))) j r (⟨[],[]⟩,⟨c,w⟩)= .next (⟨[],[]⟩,⟨c++r,w⟩)
 |[],_,c,w=>by simp only[listN,List.append_nil]
 |x::r,j,c,w=>by
  simp only[listN,Stp.elim]
  rw[listN_copy r]
  simp
theorem q_l18Copy (x:Recv):s_l18Copy.f (x,())=x:=by simp only[PX,s_l18Copy,List.nil_append]
theorem q_cloneReceiver (x:Recv):i_cloneReceiver.f (x,())=x:=by simp only[PX,i_cloneReceiver,g_Clone_Piece]
theorem q_l19Copy (x:Conn):s_l19Copy.f (x,())=x:=by simp only[PX,s_l19Copy,q_l18Copy]
theorem q_cloneConn (x:Conn):i_cloneConn.f (x,())=x:=by simp only[PX,i_cloneConn,q_cloneReceiver]
theorem q_l13Copy (x:Keys):s_l13Copy.f (x,())=x:=by simp only[PX,s_l13Copy,q_l11Copy]
theorem q_cloneKeys (x:Keys):i_cloneKeys.f (x,())=x:=by simp only[PX,i_cloneKeys,q_cloneMac]
theorem q_l25Copy (x:Tabl):s_l25Copy.f (x,())=x:=by
 simp only[PX,s_l25Copy,s_l25Copy_L0_d,List.nil_append]
 rw[toNat_sub0,forN_list x.conns _ rfl (F:=fun _ y (a:Tabl×Tabl)=> .next ((⟨[],[]⟩:Tabl),(⟨a.2.conns++[y],a.2.waiting⟩:Tabl))) (by
  intro j y a h
  simp only[PX,s_l25Copy_L0_T,toNat_cast,getD_some h,q_l19Copy]),listN_copy]
 simp only[Stp.elim,PX,List.nil_append]
theorem q_cloneTable (x:Tabl):i_cloneTable.f (x,())=x:=by
 simp only[PX,i_cloneTable,i_cloneTable_L0_d,g_Clone_Tuple]
 rw[toNat_sub0,forN_list x.conns _ rfl (F:=fun _ y (a:Tabl×Tabl)=> .next ((⟨[],[]⟩:Tabl),(⟨a.2.conns++[y],a.2.waiting⟩:Tabl))) (by
  intro j y a h
  simp only[PX,i_cloneTable_L0_T,toNat_cast,getD_some h,q_cloneConn]),listN_copy]
 simp only[Stp.elim,PX,List.nil_append]
theorem q_l26Copy (x:Door):s_l26Copy.f (x,())=x:=by simp only[PX,s_l26Copy,q_l13Copy,q_l25Copy,List.nil_append]
theorem q_cloneDoor (x:Door):i_cloneDoor.f (x,())=x:=by simp only[PX,i_cloneDoor,q_cloneKeys,q_cloneTable,g_Clone_Half]
theorem forN_skip {W:Type}{f:Int→Unit→Stp Unit W}:∀(k:Nat) (i:Int),(∀j,f j ()= .next ())→forN f 1 k i ()= .next ()
 |0,_,_=>rfl
 |k+1,i,h=>by simp only[forN,h,Stp.elim];exact forN_skip k _ h
theorem SameMac_self (m:Mac):s_SameMac.f (m,m,())=true:=by
 simp only[PX,s_SameMac,s_SameMac_L0_d]
 rw[forN_skip _ _ fun j=>by simp only[PX,s_SameMac_L0_T,beq_self_eq_true,Bool.and_self,Bool.not_true,cond_false]]
 simp[PX,Stp.elim]
theorem SameReceiver_self (m:Recv):s_SameReceiver.f (m,m,())=true:=by
 simp only[PX,s_SameReceiver,s_SameReceiver_L0_d]
 rw[forN_skip _ _ fun j=>by simp only[PX,s_SameReceiver_L0_T,beq_self_eq_true,Bool.and_self,Bool.not_true,cond_false]]
 simp[PX,Stp.elim]
theorem SameConn_self (m:Conn):s_SameConn.f (m,m,())=true:=by
 simp only[PX,s_SameConn,SameReceiver_self,beq_self_eq_true,Bool.and_self,cond_true]
theorem SameHalves_self (m:List Half):s_SameHalves.f (m,m,())=true:=by
 simp only[PX,s_SameHalves,s_SameHalves_L0_d]
 rw[forN_skip _ _ fun j=>by simp only[PX,s_SameHalves_L0_T,beq_self_eq_true,Bool.and_self,Bool.not_true,cond_false]]
 simp[PX,Stp.elim]
theorem SameTable_self (m:Tabl):s_SameTable.f (m,m,())=true:=by
 simp only[PX,s_SameTable,s_SameTable_L0_d,s_SameTable_L1_d]
 rw[forN_skip (f:=fun j a=>(s_SameTable_L0_T m m j a).nice) _ _ fun j=>by simp only[PX,s_SameTable_L0_T,SameConn_self,Bool.not_true,cond_false]]
 simp only[Stp.elim,PX]
 rw[forN_skip (f:=fun j a=>(s_SameTable_L1_T m m j a).nice) _ _ fun j=>by simp only[PX,s_SameTable_L1_T,beq_self_eq_true,Bool.and_self,Bool.not_true,cond_false]]
 simp[PX,Stp.elim]
theorem SameKeys_self (m:Keys):s_SameKeys.f (m,m,())=true:=by
 simp only[PX,s_SameKeys,SameMac_self,beq_self_eq_true,cond_true]
theorem SameDoor_self (m:Door):s_SameDoor.f (m,m,())=true:=by
 simp only[PX,s_SameDoor,SameKeys_self,SameHalves_self,SameTable_self,beq_self_eq_true,Bool.and_self,cond_true]
theorem sameSegments_self (m:List Segm):w_sameSegments.f (m,m,())=true:=by
 simp only[PX,w_sameSegments,w_sameSegments_L0_d]
 rw[forN_skip _ _ fun j=>by simp only[PX,w_sameSegments_L0_T,beq_self_eq_true,Bool.and_self,Bool.not_true,cond_false]]
 simp[PX,Stp.elim]
theorem q_KeptOptions (o:Opti):s_KeptOptions.f (o,())=i_KeptOptions.f (o,()):=by
 simp only[PX,s_KeptOptions,i_KeptOptions,s_NoOptions,i_NoOptions]
theorem q_PutHalf (xs:List Half)(h:Half)(n:Int):s_PutHalf.f (xs,h,n,())=i_PutHalf.f (xs,h,n,()):=by
 simp only[PX,s_PutHalf,i_PutHalf,g_Clone_Half,q_HalvesOk,List.nil_append]
def smallD (d:Door):Prop:=∀y∈d.table.conns,SmallP y.r.held
theorem smallD_of {d:Door}(hd:sm_door d):smallD d:=by
 intro y hy p hp
 have h1:sm_conn y:=hd.2.2.2.2.2.2.1 y hy
 have h2:sm_piec p:=h1.2.2.2 p hp
 simp only[sm_piec]at h2
 omega
theorem q_l26Right (d:Door)(t:Tupl)(g:Segm)(hs:smallD d):s_l26Right.f (d,t,g,())=(i_DoorOk.f (d,())&&(i_TupleOk.f (t,())&&i_SegmentOk.f (g,()))):=by
 simp only[PX,s_l26Right,q_DoorOk d hs,q_TupleOk,q_SegmentOk]
 cases i_DoorOk.f (d,())<;>cases i_TupleOk.f (t,())<;>rfl
theorem iSynIn_eq (d:Door)(t:Tupl)(g:Segm):i_SynIn.f (d,t,g,())=
  bif (i_DoorOk.f (d,())&&(i_TupleOk.f (t,())&&i_SegmentOk.f (g,())))then
   bif decide (0≤i_FindHalf.f (d.halves,t,()))then
    bif ((d.halves.getD (i_FindHalf.f (d.halves,t,())).toNat (Ty.zero .half)).irs != g.seq)then(d,[])else(d,[({i_SynAck.f (d,t,g,())with seq:=(d.halves.getD (i_FindHalf.f (d.halves,t,())).toNat (Ty.zero .half)).iss}:Segm)])
   else bif decide (i_FindConn.f (d.table,t,())<0)then
    ({d with halves:=(i_PutHalf.f (d.halves,(⟨t,(i_SynAck.f (d,t,g,())).seq,g.seq,i_KeptOptions.f (g.opts,()),0,g.window⟩:Half),d.limits.halves,())).1},[i_SynAck.f (d,t,g,())])
   else(d,[i_SynAck.f (d,t,g,())])
  else(d,[]):=by
 simp only[PX,i_SynIn,q_cloneDoor]
 cases i_DoorOk.f (d,())<;>cases i_TupleOk.f (t,())<;>cases i_SegmentOk.f (g,())<;>rfl
theorem q_SynIn (d:Door)(t:Tupl)(g:Segm)(hs:smallD d):s_SynIn.f (d,t,g,())=i_SynIn.f (d,t,g,()):=by
 rw[iSynIn_eq]
 simp only[PX,s_SynIn,q_l26Copy,q_l26Right d t g hs,q_SynAck,q_FindHalf,q_FindConn,q_KeptOptions,q_PutHalf]
 cases(i_DoorOk.f (d,())&&(i_TupleOk.f (t,())&&i_SegmentOk.f (g,())))<;>rfl
theorem forN_allN {W:Type}{f:Int→Unit→Stp Unit W}:∀(k i:Nat),forN f 1 k (i:Int) ()= .next ()↔∀j:Nat,i≤j→j<i+k→f (j:Int) ()= .next ()
 |0,i=>⟨fun _ j h1 h2=>by omega,fun _=>rfl⟩
 |k+1,i=>by
  constructor
  ·intro h j h1 h2
   simp only[forN]at h
   cases hf:f (i:Int) ()with
   |out w=>rw[hf]at h;cases h
   |next a=>
    rw[hf]at h
    simp only[Stp.elim]at h
    rcases Nat.eq_or_lt_of_le h1 with h3|h3
    ·rw[←h3];exact hf
    ·rw[show(i:Int)+1=((i+1:Nat):Int) by omega]at h
     exact(forN_allN k (i+1)).1 h j h3 (by omega)
  ·intro h
   simp only[forN,h i (Nat.le_refl _) (by omega),Stp.elim]
   rw[show(i:Int)+1=((i+1:Nat):Int) by omega]
   exact(forN_allN k (i+1)).2 fun j h1 h2=>h j (by omega) (by omega)
def halfOk (h:Half):Bool:=i_TupleOk.f (h.tuple,())&&(i_WordOk.f (h.iss,32,())&&(i_WordOk.f (h.irs,32,())&&(i_WordOk.f (h.window,16,())&&(i_OptionsOk.f (h.opts,())&&(decide (0≤h.age)&&decide (h.age≤6))))))
theorem HalvesOk_T (xs:List Half)(j:Nat)(y:Half)(hy:xs[j]? =some y):((s_HalvesOk_L0_T xs (j:Int) ()).nice= .next ())↔(halfOk y=true∧(xs.take j).any (fun h=>eqT y.tuple h.tuple)=false):=by
 simp only[PX,s_HalvesOk_L0_T,toNat_cast,getD_some hy,q_TupleOk,q_WordOk,q_OptionsOk,s_l1In_eq,s_FindHalf_eq2,List.drop_zero,fidx_nn,halfOk]
 cases i_TupleOk.f (y.tuple,())<;>cases i_WordOk.f (y.iss,32,())<;>cases i_WordOk.f (y.irs,32,())<;>cases i_WordOk.f (y.window,16,())<;>cases i_OptionsOk.f (y.opts,())<;>cases(decide (0≤y.age)&&decide (y.age≤6))<;>cases(xs.take j).any (fun h=>eqT y.tuple h.tuple)<;>simp
theorem HalvesOk_iff (xs:List Half):i_HalvesOk.f (xs,())=true↔(∀(j:Nat) (y:Half),xs[j]? =some y→halfOk y=true∧(xs.take j).any (fun h=>eqT y.tuple h.tuple)=false)∧xs.length≤64:=by
 rw[←q_HalvesOk]
 have hT:forN (fun j a=>(s_HalvesOk_L0_T xs j a).nice) 1 xs.length ((0:Nat):Int) ()= .next ()↔∀(j:Nat) (y:Half),xs[j]? =some y→halfOk y=true∧(xs.take j).any (fun h=>eqT y.tuple h.tuple)=false:=by
  rw[forN_allN]
  constructor
  ·intro h j y hy
   exact(HalvesOk_T xs j y hy).1 (h j (Nat.zero_le _) (by have:=(List.getElem?_eq_some_iff.1 hy).1;omega))
  ·intro h j _ h2
   exact(HalvesOk_T xs j xs[j] (List.getElem?_eq_getElem (by omega))).2 (h j _ (List.getElem?_eq_getElem (by omega)))
 simp only[PX,s_HalvesOk,s_HalvesOk_L0_d]
 rw[toNat_sub0,show(0:Int)=((0:Nat):Int) from rfl,←hT]
 cases forN (fun j a=>(s_HalvesOk_L0_T xs j a).nice) 1 xs.length ((0:Nat):Int) ()with
 |next a=>simp only[Stp.elim,PX,decide_eq_true_eq,true_and];omega
 |out w=>simp[Stp.elim,PX]
theorem fidx_snoc {T:Type}(p:T→Bool)(xs:List T)(x:T)(h:xs.any p=false)(hx:p x=true):fidx p (xs++[x])=(xs.length:Int):=by
 have hn:∀y∈xs,p y=false:=by simpa using List.any_eq_false.1 h
 unfold fidx
 have e:(xs++[x]).findIdx? p=some xs.length:=by
  rw[List.findIdx?_eq_some_iff_getElem]
  refine⟨by simp,by simpa using hx,fun j hj=> ?_⟩
  rw[List.getElem_append_left hj]
  simp[hn _ (List.getElem_mem hj)]
 rw[e]
theorem SynAck_seq (d:Door)(t:Tupl)(g:Segm):0≤(i_SynAck.f (d,t,g,())).seq∧(i_TupleOk.f (t,())=true→i_KeysOk.f (d.keys,())=true→0≤g.seq∧g.seq≤4294967295→(i_SynAck.f (d,t,g,())).seq≤4294967295):=by
 have hseq:(i_SynAck.f (d,t,g,())).seq=i_FirstSeq.f (d,t,g,()):=by simp only[PX,i_SynAck]
 rw[hseq]
 simp only[PX,i_FirstSeq]
 generalize i_peerMss.f (g.opts,())=mss
 refine⟨by split<;>omega,fun ht hk hs=> ?_⟩
 have hi:=MssIndex_rng mss
 have he:=KeysOk_epoch d.keys hk
 have hc:=CookieOf_eq d.keys.now t g.seq d.keys.epoch (i_MssIndex.f (mss,())) ht hs he hi
 have hr:=MacOf_rng d.keys.now (i_MacInput.f (t,g.seq,d.keys.epoch,i_MssIndex.f (mss,()),()))
 rw[hc];split<;>omega
theorem SO_iff (x:Sndr):i_SenderOk.f (x,())=true↔SO x:=by
 have h:=i_SenderOk.c.h (x,()) trivial
 simpa using h
theorem q_flying (x:Sndr):s_l17Flown.f (x,())=i_flying.f (x,()):=by simp only[PX,s_l17Flown,i_flying]
theorem q_NextOf (x:Sndr):s_NextOf.f (x,())=i_NextOf.f (x,()):=by simp only[PX,s_NextOf,i_NextOf,q_flying,q_SeqAdd]
theorem q_AckOf (c:Conn):s_AckOf.f (c,())=i_AckOf.f (c,()):=by simp only[PX,s_AckOf,i_AckOf,q_NextOf,q_WindowOf,s_NoOptions,i_NoOptions]
theorem q_MssFor (c:Conn):s_MssFor.f (c,())=i_MssFor.f (c,()):=by
 simp only[PX,s_MssFor,i_MssFor,s_l1Min_eq,s_l1Max_eq]
 cases(c.opts.mss==0)with
 |true=>rfl
 |false=>
  simp only[cond_false]
  generalize(if 1460<c.opts.mss then(1460:Int)else c.opts.mss)=m
  split<;>split<;>omega
theorem q_SentOff (x:Sndr)(y:Chun):s_SentOff.f (x,y,())=i_SentOff.f (x,y,()):=by
 simp only[PX,s_SentOff,i_SentOff,q_SenderOk]
 obtain⟨u,dt,se,fi,fs,dn⟩:=x
 cases fi with
 |true=>simp only[Bool.not_true,cond_false]
 |false=>
  cases hy:y.fin with
  |false=>simp only[cond_false]
  |true=>
   have k1:∀n:Int,i_SenderOk.f ((⟨u,dt,n,false,true,dn⟩:Sndr),())=false:=by
    intro n
    cases h:i_SenderOk.f ((⟨u,dt,n,false,true,dn⟩:Sndr),())with
    |false=>rfl
    |true=>
     have:=(SO_iff _).1 h
     have h2:=this.2.2.2.2.2.1 rfl
     exact Bool.noConfusion h2.1
   simp only[k1,Bool.not_false,cond_true]
theorem flying_eq (x:Sndr)(h:SO x):i_flying.f (x,())=if x.finSent then x.sent+1 else x.sent:=by
 simp only[PX,i_flying]
 have h1:=h.2.2.2.1
 have h2:=h.2.2.2.2.1
 have h3:=h.2.2.1
 cases x.finSent with
 |true=>simp only[cond_true,if_true];rw[wrap64 (by omega) (by omega)]
 |false=>rfl
theorem chunk_text (l:Bytes)(S n:Int)(h0:0≤S)(h1:0≤n):(l.take (S+n).toNat).drop S.toNat=(l.drop S.toNat).take n.toNat:=by
 rw[List.drop_take];congr 1;omega
theorem q_NextChunk (x:Sndr)(w m:Int)(hw:w≤9223372036854775807):s_NextChunk.f (x,w,m,())=i_NextChunk.f (x,w,m,()):=by
 simp only[PX,s_NextChunk,i_NextChunk,q_SenderOk,q_flying,q_NextOf,s_l1Min_eq,s_l1Max_eq]
 cases h:i_SenderOk.f (x,())with
 |false=>rfl
 |true=>
 have hs:=(SO_iff x).1 h
 have h1:=hs.2.2.2.1
 have h2:=hs.2.2.2.2.1
 have h3:=hs.2.2.1
 simp only[Bool.not_true,cond_false]
 have hF:x.sent≤i_flying.f (x,())∧i_flying.f (x,())≤x.sent+1:=by
  rw[flying_eq x hs];split<;>omega
 obtain⟨F,eF⟩:∃F,i_flying.f (x,())=F:=⟨_,rfl⟩
 rw[eF]at hF
 simp only[eF]
 generalize i_NextOf.f (x,())=q
 rw[toNat_cast,List.take_length,List.length_drop]
 rw[wrap64 (m:=(x.data.length:Int)-x.sent) (by omega) (by omega)]
 rw[show((x.data.length-x.sent.toNat:Nat):Int)=(x.data.length:Int)-x.sent by omega]
 obtain⟨c2,e2⟩:∃z:Int,(if w<1000000 then w else 1000000)=z:=⟨_,rfl⟩
 simp only[e2]
 obtain⟨c3,e3⟩:∃z:Int,(if c2<0 then 0 else c2)=z:=⟨_,rfl⟩
 simp only[e3]
 have b3:0≤c3∧c3≤1000000:=by grind
 rw[wrap64 (m:=c3-F) (by omega) (by omega)]
 obtain⟨c5,e5⟩:∃z:Int,(if c3-F<0 then 0 else c3-F)=z:=⟨_,rfl⟩
 simp only[e5]
 obtain⟨W,eW⟩:∃z:Int,(if w< -1 then-1 else w)=z:=⟨_,rfl⟩
 simp only[eW]
 have bW: -1≤W∧W≤9223372036854775807:=by grind
 rw[wrap64 (m:=W-F) (by omega) (by omega)]
 obtain⟨D,eD⟩:∃z:Int,(x.data.length:Int)-x.sent=z:=⟨_,rfl⟩
 simp only[eD]
 obtain⟨c6,e6⟩:∃z:Int,(if m<c5 then m else c5)=z:=⟨_,rfl⟩
 simp only[e6]
 obtain⟨c7,e7⟩:∃z:Int,(if c6<D then c6 else D)=z:=⟨_,rfl⟩
 simp only[e7]
 obtain⟨n,e8⟩:∃z:Int,(if c7<0 then 0 else c7)=z:=⟨_,rfl⟩
 simp only[e8]
 obtain⟨d3,f3⟩:∃z:Int,(if m<D then m else D)=z:=⟨_,rfl⟩
 simp only[f3]
 obtain⟨d4,f4⟩:∃z:Int,(if W-F<d3 then W-F else d3)=z:=⟨_,rfl⟩
 simp only[f4]
 have en:(if 0<d4 then d4 else 0)=n:=by grind
 rw[en]
 have bn:0≤n∧n≤D:=by grind
 have bw:decide (n<W-F)=decide (n<c5):=by
  rw[decide_eq_decide];grind
 rw[bw,wrap64 (m:=x.sent+n) (by omega) (by omega),chunk_text x.data x.sent n h1 bn.1,List.drop_zero]
 have el:(((x.data.drop x.sent.toNat).take n.toNat)==[])=(n==0):=by
  have hl:((x.data.drop x.sent.toNat).take n.toNat).length=n.toNat:=by rw[List.length_take,List.length_drop];omega
  generalize(x.data.drop x.sent.toNat).take n.toNat=z at*
  cases z with
  |nil=>simp only[List.length_nil]at hl;rw[show n=0 by omega];rfl
  |cons a r=>simp only[List.length_cons]at hl;rw[Bool.eq_iff_iff];simp;omega
 have ed:(x.sent+n==(x.data.length:Int))=(n==D):=by
  rw[Bool.eq_iff_iff];simp only[beq_iff_eq];omega
 rw[el,ed]
theorem whileN_simF {A B W W':Type}[Inhabited W][Inhabited W']{f:A→Stp A W}{g:B→Stp B W'}{R:A→B→Prop}{Q:W→W'→Prop}(hd:Q default default)
  (h:∀a b,R a b→(∃a' b',f a= .next a'∧g b= .next b'∧R a' b')∨(∃w w',f a= .out w∧g b= .out w'∧Q w w')):
  ∀(m:Nat) (a:A) (b:B),R a b→Q (whileN f m a) (whileN g m b)
 |0,_,_,_=>hd
 |m+1,a,b,hr=>by
  rcases h a b hr with⟨a',b',e1,e2,hr'⟩|⟨w,w',e1,e2,hq⟩
  ·simp only[whileN,e1,e2,Stp.elim]
   exact whileN_simF hd h m a' b' hr'
  ·simp only[whileN,e1,e2,Stp.elim]
   exact hq
def fixT (c:Conn)(l:List Segm):Conn:={c with timer:=if l=[]then c.timer else if c.timer=0 then 3 else c.timer}
theorem fixT_nil (c:Conn):fixT c []=c:=by simp[fixT]
theorem fixT_sent (c:Conn)(l:List Segm)(g:Segm)(x:Sndr):(bif ((fixT c l).timer==0)then({fixT c l with s:=x,timer:=3}:Conn)else{fixT c l with s:=x})=fixT {c with s:=x} (l++[g]):=by
 simp only[fixT]
 have h1:¬(l++[g]=[]):=by simp
 rw[if_neg h1]
 by_cases hl:l=[]
 ·rw[if_pos hl]
  by_cases ht:c.timer=0
  ·rw[if_pos ht,show(c.timer==0)=true by simp[ht]];rfl
  ·rw[if_neg ht,show(c.timer==0)=false by simp[ht]];rfl
 ·rw[if_neg hl]
  by_cases ht:c.timer=0
  ·rw[if_pos ht];rfl
  ·rw[if_neg ht,show(c.timer==0)=false by simp[ht]];rfl
theorem q_Pump (c:Conn)(w:Int)(hw:w≤9223372036854775807)(hs:SmallP c.r.held):s_Pump.f (c,w,())=i_Pump.f (c,w,()):=by
 simp only[PX,s_Pump,i_Pump,q_l19Copy,q_cloneConn,q_ConnOk c hs,s_Pump_L0_d,i_Pump_L0_d]
 cases(bif !i_ConnOk.f (c,())then(true,())else bif (c.state==8)then(true,())else((c.state==7),())).1 with
 |true=>rfl
 |false=>
 simp only[cond_false]
 have key:=whileN_simF (f:=fun a=>(s_Pump_L0_T w a).nice) (g:=fun a=>(i_Pump_L0_T w a).nice) (R:=fun a b=>a.1=fixT b.2.1 b.2.2∧a.2.2=b.2.2) (Q:=fun p q=>p.1=fixT q.2.1 q.2.2∧p.2=q.2.2) ⟨(fixT_nil _).symm,rfl⟩ (by
  rintro⟨a1,a2,al⟩ ⟨b1,b2,bl⟩ ⟨h1,h2⟩
  simp only[]at h1 h2
  subst h1;subst h2
  have hm:i_MssFor.f (fixT b2 al,())=i_MssFor.f (b2,()):=rfl
  have ha:i_AckOf.f (fixT b2 al,())=i_AckOf.f (b2,()):=rfl
  have hx:(fixT b2 al).s=b2.s:=rfl
  simp only[PX,s_Pump_L0_T,i_Pump_L0_T,q_MssFor,q_NextChunk _ _ _ hw,q_AckOf,q_SentOff,hm,ha,hx]
  obtain⟨z,hz⟩:∃z,i_NextChunk.f (b2.s,w,i_MssFor.f (b2,()),())=z:=⟨_,rfl⟩
  simp only[hz]
  obtain⟨g,hg⟩:∃g,i_AckOf.f (b2,())=g:=⟨_,rfl⟩
  simp only[hg]
  obtain⟨x,hx2⟩:∃x,i_SentOff.f (b2.s,z.1,())=x:=⟨_,rfl⟩
  simp only[hx2]
  cases z.2 with
  |false=>exact .inr ⟨_,_,rfl,rfl,rfl,rfl⟩
  |true=>
   have hf:∀g':Segm,_:=fun g'=>fixT_sent b2 al g' x
   cases ht:((fixT b2 al).timer==0)<;>rw[ht]at hf<;>simp only[cond_true,cond_false]at hf<;>cases(z.1.text==[])<;>cases z.1.fin<;>exact .inl ⟨_,_,rfl,rfl,hf _,rfl⟩) (sgm c.s+1) (c,⟨⟨0,0,0⟩,0,⟨0,[],0,false,false,false⟩,⟨0,[],[],0,false⟩,0,0,⟨0,0,false,false,0,0⟩,0,0⟩,[]) (⟨⟨0,0,0⟩,0,⟨0,[],0,false,false,false⟩,⟨0,[],[],0,false⟩,0,0,⟨0,0,false,false,0,0⟩,0,0⟩,c,[]) ⟨(fixT_nil c).symm,rfl⟩
 obtain⟨p,hp⟩:∃p,whileN (fun a=>(s_Pump_L0_T w a).nice) (sgm c.s+1) (c,⟨⟨0,0,0⟩,0,⟨0,[],0,false,false,false⟩,⟨0,[],[],0,false⟩,0,0,⟨0,0,false,false,0,0⟩,0,0⟩,[])=p:=⟨_,rfl⟩
 obtain⟨q,hq⟩:∃q,whileN (fun a=>(i_Pump_L0_T w a).nice) (sgm c.s+1) (⟨⟨0,0,0⟩,0,⟨0,[],0,false,false,false⟩,⟨0,[],[],0,false⟩,0,0,⟨0,0,false,false,0,0⟩,0,0⟩,c,[])=q:=⟨_,rfl⟩
 rw[hp,hq]at key
 simp only[hp,hq]
 obtain⟨p1,p2⟩:=p
 obtain⟨q1,q2,q3⟩:=q
 obtain⟨k1,k2⟩:=key
 simp only[]at k1 k2
 subst k1;subst k2
 cases p2 with
 |nil=>simp only[PX,fixT_nil,List.length_nil];rfl
 |cons g r=>
  simp only[PX,decide_eq_true (show 0<((g::r).length:Int) by simp only[List.length_cons];omega),cond_true,fixT,if_neg (show¬(g::r=[]) by simp)]
  by_cases ht:q2.timer=0
  ·simp only[ht,if_true,beq_self_eq_true,cond_true]
  ·simp only[if_neg ht,show(q2.timer==0)=false by simp[ht],cond_false]
def kst (k:Int)(sf sd rd:Bool):Bool:=bif k==8 then true else(sf== !(k==1||k==4))&&((sd==(k==3||k==7))&&(rd==(k==4||decide (5≤k))))
theorem ConnOk_b (x:Conn):i_ConnOk.f (x,())=(i_TupleOk.f (x.tuple,())&&(i_SenderOk.f (x.s,())&&(i_ReceiverOk.f (x.r,())&&(i_OptionsOk.f (x.opts,())&&((decide (1≤x.state)&&decide (x.state≤8))&&((decide (0≤x.most)&&decide (x.most≤1073725440))&&((decide (0≤x.window)&&decide (x.window≤x.most))&&((decide (0≤x.timer)&&bif x.state==7 then decide (x.timer≤4)else decide (x.timer≤3))&&((decide (0≤x.tries)&&decide (x.tries≤3))&&kst x.state x.s.fin x.s.done x.r.done))))))))):=by
 simp only[PX,i_ConnOk,i_within_eq]
 cases i_TupleOk.f (x.tuple,())with
 |false=>rfl
 |true=>
 cases i_SenderOk.f (x.s,())with
 |false=>rfl
 |true=>
 cases i_ReceiverOk.f (x.r,())with
 |false=>rfl
 |true=>
 cases i_OptionsOk.f (x.opts,())with
 |false=>rfl
 |true=>
 simp only[Bool.not_true,cond_false,Bool.true_and]
 have ej:∀b:Bool,(bif b then(false,(4:Int),x,())else(false,3,x,()))=(false,(bif b then 4 else 3),x,()):=fun b=>by cases b<;>rfl
 have et:∀b:Bool,decide (x.timer≤bif b then 4 else 3)=bif b then decide (x.timer≤4)else decide (x.timer≤3):=fun b=>by cases b<;>rfl
 simp only[ej,et]
 generalize(decide (0≤x.window)&&decide (x.window≤x.most))=W
 generalize(decide (0≤x.most)&&decide (x.most≤1073725440))=N
 generalize(decide (0≤x.tries)&&decide (x.tries≤3))=T
 generalize decide (0≤x.timer)=T0
 generalize decide (x.timer≤4)=T4
 generalize decide (x.timer≤3)=T3
 generalize x.s.fin=sf
 generalize x.s.done=sd
 generalize x.r.done=rd
 generalize x.state=k
 have hk:k=1∨k=2∨k=3∨k=4∨k=5∨k=6∨k=7∨k=8∨(decide (1≤k)&&decide (k≤8))=false:=by
  simp only[Bool.and_eq_false_iff,decide_eq_false_iff_not];omega
 rcases hk with rfl|rfl|rfl|rfl|rfl|rfl|rfl|rfl|hk
 iterate 8 (revert W N T T0 T4 T3 sf sd rd;decide+kernel)
 simp only[hk];rfl
structure CO (x:Conn):Prop where
 tup:i_TupleOk.f (x.tuple,())=true
 snd:SO x.s
 rcv:i_ReceiverOk.f (x.r,())=true
 opt:i_OptionsOk.f (x.opts,())=true
 s1:1≤x.state
 s8:x.state≤8
 m0:0≤x.most
 m1:x.most≤1073725440
 w0:0≤x.window
 w1:x.window≤x.most
 t0:0≤x.timer
 t4:x.timer≤4
 t3:x.state≠7→x.timer≤3
 r0:0≤x.tries
 r3:x.tries≤3
 fl:kst x.state x.s.fin x.s.done x.r.done=true
theorem CO_iff (x:Conn):i_ConnOk.f (x,())=true↔CO x:=by
 rw[ConnOk_b]
 simp only[Bool.and_eq_true,decide_eq_true_eq,SO_iff]
 have et:(bif x.state==7 then decide (x.timer≤4)else decide (x.timer≤3))=true↔x.timer≤4∧(x.state≠7→x.timer≤3):=by
  by_cases h:x.state=7
  ·simp[h]
  ·have h2:(x.state==7)=false:=by simpa using h
   simp only[h2,cond_false,decide_eq_true_eq]
   exact⟨fun h3=>⟨by omega,fun _=>h3⟩,fun h3=>h3.2 h⟩
 rw[et]
 constructor
 ·rintro⟨h1,h2,h3,h4,⟨h5,h6⟩,⟨h7,h8⟩,⟨h9,h10⟩,⟨h11,h12,h13⟩,⟨h14,h15⟩,h16⟩
  exact⟨h1,h2,h3,h4,h5,h6,h7,h8,h9,h10,h11,h12,h13,h14,h15,h16⟩
 ·rintro⟨h1,h2,h3,h4,h5,h6,h7,h8,h9,h10,h11,h12,h13,h14,h15,h16⟩
  exact⟨h1,h2,h3,h4,⟨h5,h6⟩,⟨h7,h8⟩,⟨h9,h10⟩,⟨h11,h12,h13⟩,⟨h14,h15⟩,h16⟩
structure Sent (c d:Conn):Prop where
 so:SO d.s
 s1:d.s.data=c.s.data
 s2:d.s.fin=c.s.fin
 s3:d.s.done=c.s.done
 s4:d.s.una=c.s.una
 tm:d.timer=c.timer∨d.timer=3
 re:d={c with s:=d.s,timer:=d.timer}
theorem Sent.refl (c:Conn)(h:SO c.s):Sent c c:=⟨h,rfl,rfl,rfl,rfl,.inl rfl,rfl⟩
theorem Sent.ok {c d:Conn}(h:Sent c d)(hc:CO c)(ht:d.timer≤3∨d.timer=c.timer):CO d:=by
 obtain⟨so,s1,s2,s3,s4,tm,re⟩:=h
 obtain⟨t,st,s,r,w,m,o,ti,tr⟩:=c
 obtain⟨t',st',s',r',w',m',o',ti',tr'⟩:=d
 simp only[Conn.mk.injEq]at re
 obtain⟨rfl,rfl,-,rfl,rfl,rfl,rfl,-,rfl⟩:=re
 simp only[]at*
 refine⟨hc.tup,so,hc.rcv,hc.opt,hc.s1,hc.s8,hc.m0,hc.m1,hc.w0,hc.w1, ?_, ?_, ?_,hc.r0,hc.r3, ?_⟩
 ·have:=hc.t0;simp only[]at*;omega
 ·have:=hc.t4;simp only[]at*;omega
 ·intro h7;have:=hc.t3 h7;simp only[]at*;omega
 ·have:=hc.fl;simp only[]at*;rw[s2,s3];exact this
theorem sm_of_SO {x:Sndr}(h:SO x):sm_sndr x:=by
 have:=h.2.2.1
 unfold sm_sndr;grind
theorem sentOff_step (x:Sndr)(w m:Int)(y:Chun)(hy:(i_NextChunk.f (x,w,m,()))=(y,true))(hx:SO x):SO (i_SentOff.f (x,y,()))∧(i_SentOff.f (x,y,())).data=x.data∧(i_SentOff.f (x,y,())).fin=x.fin∧(i_SentOff.f (x,y,())).done=x.done∧(i_SentOff.f (x,y,())).una=x.una∧sgm (i_SentOff.f (x,y,()))<sgm x:=by
 have h1:=i_NextChunk.c.h (x,w,m,()) (sm_of_SO hx)
 change sm_chun (i_NextChunk.f (x,w,m,())).1∧((i_NextChunk.f (x,w,m,())).2=true→_)at h1
 have e1:(i_NextChunk.f (x,w,m,())).1=y:=by rw[hy]
 have e2:(i_NextChunk.f (x,w,m,())).2=true:=by rw[hy]
 obtain⟨h2,h3⟩:=h1
 obtain⟨-,h4,h5,h6,h7⟩:=h3 e2
 simp only[e1]at h2 h4 h5 h6 h7
 clear e1 e2
 have h8:=(i_SentOff.c.h (x,y,()) ⟨sm_of_SO hx,h2⟩).2 hx h4 h5 h7
 change i_SentOff.f (x,y,())=_ at h8
 rw[h8]
 obtain⟨e1,e2,e3,e4,e5,e6,e7⟩:=hx
 refine⟨⟨e1,e2,e3, ?_, ?_, ?_, ?_⟩,rfl,rfl,rfl,rfl, ?_⟩
 ·show 0≤x.sent+(y.text.length:Int);omega
 ·show x.sent+(y.text.length:Int)≤(x.data.length:Int);omega
 ·intro hf;exact⟨(h7 hf).1,(h7 hf).2.2⟩
 ·intro hd
  refine⟨(e7 hd).1, ?_,(e7 hd).2.2⟩
  show y.fin=false
  cases hf:y.fin with
  |false=>rfl
  |true=>have:=(h7 hf).2.1;rw[this]at hd;cases hd
 ·show((x.data.length:Int)-(x.sent+(y.text.length:Int))).toNat+(if y.fin=true then 0 else 1)<((x.data.length:Int)-x.sent).toNat+(if x.finSent=true then 0 else 1)
  rw[h5]
  simp only[Bool.false_eq_true,if_false]
  have hl:y.text=[]∨0<y.text.length:=by cases y.text<;>simp
  rcases hl with hl|hl
  ·rw[h6 hl];simp only[if_true];omega
  ·split<;>omega
theorem Pump_step (w:Int)(c:Conn)(a:Conn×Conn×List Segm)(h:Sent c a.2.1):(∃l,(i_Pump_L0_T w a).nice= .out (({a.1 with r.held:=[]}:Conn),a.2.1,l))∨(∃a',(i_Pump_L0_T w a).nice= .next a'∧Sent c a'.2.1∧sgm a'.2.1.s<sgm a.2.1.s):=by
 obtain⟨a1,a2,al⟩:=a
 simp only[]at h
 simp only[PX,i_Pump_L0_T]
 obtain⟨z,hz⟩:∃z,i_NextChunk.f (a2.s,w,i_MssFor.f (a2,()),())=z:=⟨_,rfl⟩
 simp only[hz]
 obtain⟨y,b⟩:=z
 cases b with
 |false=>exact .inl ⟨_,rfl⟩
 |true=>
  obtain⟨k1,k2,k3,k4,k5,k6⟩:=sentOff_step a2.s w _ y hz h.so
  obtain⟨x,hx⟩:∃x,i_SentOff.f (a2.s,y,())=x:=⟨_,rfl⟩
  rw[hx]at k1 k2 k3 k4 k5 k6
  simp only[hx]
  have hs:Sent c ({a2 with s:=x}:Conn):=by
   obtain⟨so,s1,s2,s3,s4,tm,re⟩:=h
   refine⟨k1,k2.trans s1,k3.trans s2,k4.trans s3,k5.trans s4,tm, ?_⟩
   rw[re]
  cases(y.text==[])<;>cases y.fin<;>exact .inr ⟨_,rfl,hs,k6⟩
theorem Pump_sent (c:Conn)(w:Int)(hc:SO c.s):Sent c (i_Pump.f (c,w,())).1:=by
 simp only[PX,i_Pump,q_cloneConn,i_Pump_L0_d]
 cases(bif !i_ConnOk.f (c,())then(true,())else bif (c.state==8)then(true,())else((c.state==7),())).1 with
 |true=>exact Sent.refl c hc
 |false=>
 simp only[cond_false]
 have key:=whileN_post (f:=fun a=>(i_Pump_L0_T w a).nice) (Inv:=fun a=>Sent c a.2.1) (Q:=fun p=>Sent c p.2.1) (meas:=fun a=>sgm a.2.1.s) (fun a hi a' he=>by
  rcases Pump_step w c a hi with⟨l,e⟩|⟨a2,e,h1,h2⟩
  ·simp only[e]at he;cases he
  ·simp only[e,Stp.next.injEq]at he;subst he;exact⟨h1,h2⟩) (fun a hi p he=>by
  rcases Pump_step w c a hi with⟨l,e⟩|⟨a2,e,h1,h2⟩
  ·simp only[e,Stp.out.injEq]at he;subst he;exact hi
  ·simp only[e]at he;cases he) (sgm c.s+1) (⟨⟨0,0,0⟩,0,⟨0,[],0,false,false,false⟩,⟨0,[],[],0,false⟩,0,0,⟨0,0,false,false,0,0⟩,0,0⟩,c,[]) (Nat.lt_succ_self _) (Sent.refl c hc)
 obtain⟨q,hq⟩:∃q,whileN (fun a=>(i_Pump_L0_T w a).nice) (sgm c.s+1) (⟨⟨0,0,0⟩,0,⟨0,[],0,false,false,false⟩,⟨0,[],[],0,false⟩,0,0,⟨0,0,false,false,0,0⟩,0,0⟩,c,[])=q:=⟨_,rfl⟩
 rw[hq]at key
 simp only[hq]
 obtain⟨q1,q2,q3⟩:=q
 simp only[]at key⊢
 cases(bif decide (0<(q3.length:Int))then((q2.timer==0),())else(false,())).1 with
 |false=>exact key
 |true=>
  obtain⟨so,s1,s2,s3,s4,tm,re⟩:=key
  refine⟨so,s1,s2,s3,s4,.inr rfl, ?_⟩
  exact congrArg (fun d:Conn=>({d with timer:=3}:Conn)) re
theorem eqT_iff (a b:Tupl):eqT a b=true↔a=b:=by
 obtain⟨a1,a2,a3⟩:=a
 obtain⟨b1,b2,b3⟩:=b
 simp only[eqT,Bool.and_true,Bool.and_eq_true,beq_iff_eq,Tupl.mk.injEq]
 constructor<;>rintro⟨rfl,rfl,rfl⟩<;>exact⟨rfl,rfl,rfl⟩
theorem any_eqT {T:Type}(f:T→Tupl)(xs:List T)(t:Tupl):xs.any (fun h=>eqT t (f h))=true↔t∈xs.map f:=by
 simp only[List.any_eq_true,List.mem_map,eqT_iff]
 constructor
 ·rintro⟨x,h1,h2⟩;exact⟨x,h1,h2.symm⟩
 ·rintro⟨x,h1,h2⟩;exact⟨x,h1,h2.symm⟩
theorem nodup_any {T:Type}(f:T→Tupl)(xs:List T):(∀(j:Nat) (y:T),xs[j]? =some y→(xs.take j).any (fun h=>eqT (f y) (f h))=false)↔(xs.map f).Nodup:=by
 unfold List.Nodup
 rw[List.pairwise_iff_getElem]
 constructor
 ·intro h i j hi hj hij he
  rw[List.length_map]at hi hj
  simp only[List.getElem_map]at he
  have:=h j xs[j] (List.getElem?_eq_getElem hj)
  rw[List.any_eq_false]at this
  refine this xs[i] ?_ ((eqT_iff _ _).2 he.symm)
  rw[List.mem_take_iff_getElem]
  exact⟨i,by omega,rfl⟩
 ·intro h j y hy
  rw[List.any_eq_false]
  intro z hz he
  rw[List.mem_take_iff_getElem]at hz
  obtain⟨i,hi,rfl⟩:=hz
  obtain⟨hj,rfl⟩:=List.getElem?_eq_some_iff.1 hy
  have:=h i j (by rw[List.length_map];omega) (by rw[List.length_map];exact hj) (by omega)
  simp only[List.getElem_map]at this
  exact this ((eqT_iff _ _).1 he).symm
structure LO (l:Limi):Prop where
 h1:1≤l.halves
 h2:l.halves≤64
 w1:1≤l.waiting
 w2:l.waiting≤16
 c1:1≤l.conns
 c2:l.conns≤16
 k0:0≤l.chal
 k1:l.chal≤1000
theorem LO_iff (l:Limi):i_LimitsOk.f (l,())=true↔LO l:=by
 simp only[PX,i_LimitsOk,i_within_eq]
 have e:(bif decide (1≤l.halves)&&decide (l.halves≤64)then bif decide (1≤l.waiting)&&decide (l.waiting≤16)then bif decide (1≤l.conns)&&decide (l.conns≤16)then decide (0≤l.chal)&&decide (l.chal≤1000)else false else false else false)=((decide (1≤l.halves)&&decide (l.halves≤64))&&((decide (1≤l.waiting)&&decide (l.waiting≤16))&&((decide (1≤l.conns)&&decide (l.conns≤16))&&(decide (0≤l.chal)&&decide (l.chal≤1000))))):=by
  cases(decide (1≤l.halves)&&decide (l.halves≤64))<;>cases(decide (1≤l.waiting)&&decide (l.waiting≤16))<;>cases(decide (1≤l.conns)&&decide (l.conns≤16))<;>simp
 rw[e]
 simp only[Bool.and_eq_true,decide_eq_true_eq]
 constructor
 ·rintro⟨⟨h1,h2⟩,⟨h3,h4⟩,⟨h5,h6⟩,h7,h8⟩;exact⟨h1,h2,h3,h4,h5,h6,h7,h8⟩
 ·rintro⟨h1,h2,h3,h4,h5,h6,h7,h8⟩;exact⟨⟨h1,h2⟩,⟨h3,h4⟩,⟨h5,h6⟩,h7,h8⟩
structure TO (t:Tabl)(l:Limi):Prop where
 lim:LO l
 nc:(t.conns.length:Int)≤l.conns
 nw:(t.waiting.length:Int)≤l.waiting
 co:∀c∈t.conns,CO c
 dc:(t.conns.map Conn.tuple).Nodup
 dw:t.waiting.Nodup
 wc:∀w∈t.waiting,w∈t.conns.map Conn.tuple
theorem mem_of_all {T:Type}{P:T→Prop}{xs:List T}:(∀(j:Nat) (y:T),xs[j]? =some y→P y)↔∀y∈xs,P y:=by
 constructor
 ·intro h y hy
  obtain⟨j,hj,rfl⟩:=List.getElem_of_mem hy
  exact h j _ (List.getElem?_eq_getElem hj)
 ·intro h j y hy;exact h y (mem_at hy)
theorem forN_all {T W:Type}{f:Int→Unit→Stp Unit W}(xs:List T){P:Nat→T→Prop}(h:∀(j:Nat) (y:T),xs[j]? =some y→(f (j:Int) ()= .next ()↔P j y)):forN f 1 (Int.toNat ((xs.length:Int)-0)) 0 ()= .next ()↔∀(j:Nat) (y:T),xs[j]? =some y→P j y:=by
 rw[toNat_sub0,show(0:Int)=((0:Nat):Int) from rfl,forN_allN]
 constructor
 ·intro h1 j y hy
  exact(h j y hy).1 (h1 j (Nat.zero_le _) (by have:=(List.getElem?_eq_some_iff.1 hy).1;omega))
 ·intro h1 j _ h2
  exact(h j xs[j] (List.getElem?_eq_getElem (by omega))).2 (h1 j _ (List.getElem?_eq_getElem (by omega)))
theorem TO_iff (t:Tabl)(l:Limi):i_TableOk.f (t,l,())=true↔TO t l:=by
 have f1:=forN_all t.conns (f:=fun j a=>(i_TableOk_L0_T t.conns t j a).nice) (P:=fun j y=>CO y∧(t.conns.take j).any (fun h=>eqT y.tuple h.tuple)=false) (fun j y hy=>by
  simp only[PX,i_TableOk_L0_T,toNat_cast,getD_some hy,i_FindConn_eq2]
  rw[fidx_at (fun h:Conn=>eqT y.tuple h.tuple) t.conns j y hy (eqT_refl _),←CO_iff]
  cases i_ConnOk.f (y,())<;>cases(t.conns.take j).any (fun h=>eqT y.tuple h.tuple)<;>simp)
 have f2:=forN_all t.waiting (f:=fun j a=>(i_TableOk_L1_T t.waiting t j a).nice) (P:=fun j y=>y∈t.conns.map Conn.tuple∧(t.waiting.take j).any (fun h=>eqT y h)=false) (fun j y hy=>by
  simp only[PX,i_TableOk_L1_T,toNat_cast,getD_some hy,i_FindConn_eq2,Index_Tuple_eq2,fidx_lt]
  rw[fidx_at (eqT y) t.waiting j y hy (eqT_refl _),←any_eqT]
  cases t.conns.any (fun h=>eqT y h.tuple)<;>cases(t.waiting.take j).any (fun h=>eqT y h)<;>simp)
 have f3:=nodup_any Conn.tuple t.conns
 have f4:=nodup_any (fun x=>x) t.waiting
 rw[List.map_id']at f4
 have f5:forN (fun j a=>(i_TableOk_L0_T t.conns t j a).nice) 1 (Int.toNat ((t.conns.length:Int)-0)) 0 ()= .next ()↔(∀c∈t.conns,CO c)∧(t.conns.map Conn.tuple).Nodup:=by
  rw[f1,←f3,←mem_of_all]
  exact⟨fun h=>⟨fun j y hy=>(h j y hy).1,fun j y hy=>(h j y hy).2⟩,fun h j y hy=>⟨h.1 j y hy,h.2 j y hy⟩⟩
 have f6:forN (fun j a=>(i_TableOk_L1_T t.waiting t j a).nice) 1 (Int.toNat ((t.waiting.length:Int)-0)) 0 ()= .next ()↔(∀w∈t.waiting,w∈t.conns.map Conn.tuple)∧t.waiting.Nodup:=by
  rw[f2,←f4,←mem_of_all]
  exact⟨fun h=>⟨fun j y hy=>(h j y hy).1,fun j y hy=>(h j y hy).2⟩,fun h j y hy=>⟨h.1 j y hy,h.2 j y hy⟩⟩
 have e:i_TableOk.f (t,l,())=true↔i_LimitsOk.f (l,())=true∧(t.conns.length:Int)≤l.conns∧(t.waiting.length:Int)≤l.waiting∧forN (fun j a=>(i_TableOk_L0_T t.conns t j a).nice) 1 (Int.toNat ((t.conns.length:Int)-0)) 0 ()= .next ()∧forN (fun j a=>(i_TableOk_L1_T t.waiting t j a).nice) 1 (Int.toNat ((t.waiting.length:Int)-0)) 0 ()= .next ():=by
  simp only[PX,i_TableOk,i_TableOk_L0_d,i_TableOk_L1_d]
  rw[show((t.conns.length:Int)≤l.conns)↔decide (l.conns<(t.conns.length:Int))=false by simp,show((t.waiting.length:Int)≤l.waiting)↔decide (l.waiting<(t.waiting.length:Int))=false by simp]
  cases i_LimitsOk.f (l,())<;>cases decide (l.conns<(t.conns.length:Int))<;>cases decide (l.waiting<(t.waiting.length:Int))<;>cases forN (fun j a=>(i_TableOk_L0_T t.conns t j a).nice) 1 (Int.toNat ((t.conns.length:Int)-0)) 0 ()<;>cases forN (fun j a=>(i_TableOk_L1_T t.waiting t j a).nice) 1 (Int.toNat ((t.waiting.length:Int)-0)) 0 ()<;>simp[Stp.elim]
 rw[e,LO_iff,f5,f6]
 constructor
 ·rintro⟨h1,h2,h3,⟨h4,h5⟩,h6,h7⟩;exact⟨h1,h2,h3,h4,h5,h7,h6⟩
 ·rintro⟨h1,h2,h3,h4,h5,h7,h6⟩;exact⟨h1,h2,h3,⟨h4,h5⟩,h6,h7⟩
structure HO (xs:List Half):Prop where
 ok:∀h∈xs,halfOk h=true
 nd:(xs.map Half.tuple).Nodup
 len:xs.length≤64
theorem HO_iff (xs:List Half):i_HalvesOk.f (xs,())=true↔HO xs:=by
 rw[HalvesOk_iff]
 have f3:=nodup_any Half.tuple xs
 constructor
 ·rintro⟨h1,h2⟩
  exact⟨mem_of_all.1 fun j y hy=>(h1 j y hy).1,f3.1 fun j y hy=>(h1 j y hy).2,h2⟩
 ·rintro⟨h1,h2,h3⟩
  exact⟨fun j y hy=>⟨h1 y (mem_at hy),f3.2 h2 j y hy⟩,h3⟩
structure DO (d:Door):Prop where
 port:i_WordOk.f (d.port,16,())=true
 c0:0≤d.clock
 c1:d.clock≤4294967295
 keys:i_KeysOk.f (d.keys,())=true
 tab:TO d.table d.limits
 hal:HO d.halves
 nh:(d.halves.length:Int)≤d.limits.halves
 k0:0≤d.chal
 k1:d.chal≤d.limits.chal
 ap:∀h∈d.halves,h.tuple∉d.table.conns.map Conn.tuple
theorem DO_iff (d:Door):i_DoorOk.f (d,())=true↔DO d:=by
 have e:i_DoorOk.f (d,())=true↔i_WordOk.f (d.port,16,())=true∧i_WordOk.f (d.clock,32,())=true∧i_KeysOk.f (d.keys,())=true∧i_TableOk.f (d.table,d.limits,())=true∧i_HalvesOk.f (d.halves,())=true∧(d.halves.length:Int)≤d.limits.halves∧(decide (0≤d.chal)&&decide (d.chal≤d.limits.chal))=true∧(d.halves.any (fun h=>decide (0≤i_FindConn.f (d.table,h.tuple,()))))=false:=by
  simp only[PX,i_DoorOk,DoorOk_any,i_within_eq]
  rw[show((d.halves.length:Int)≤d.limits.halves)↔decide (d.limits.halves<(d.halves.length:Int))=false by simp]
  generalize(decide (0≤d.chal)&&decide (d.chal≤d.limits.chal))=b1
  generalize decide (d.limits.halves<(d.halves.length:Int))=b2
  generalize(d.halves.any (fun h=>decide (0≤i_FindConn.f (d.table,h.tuple,()))))=b3
  cases i_WordOk.f (d.port,16,())<;>cases i_WordOk.f (d.clock,32,())<;>cases i_KeysOk.f (d.keys,())<;>cases i_TableOk.f (d.table,d.limits,())<;>cases i_HalvesOk.f (d.halves,())<;>cases b1<;>cases b2<;>cases b3<;>simp
 rw[e,TO_iff,HO_iff,i_WordOk_32]
 simp only[Bool.and_eq_true,decide_eq_true_eq,i_FindConn_eq2,fidx_nn]
 have f:(d.halves.any fun h=>d.table.conns.any fun c=>eqT h.tuple c.tuple)=false↔∀h∈d.halves,h.tuple∉d.table.conns.map Conn.tuple:=by
  rw[List.any_eq_false]
  constructor
  ·intro h x hx hm;exact h x hx ((any_eqT Conn.tuple _ _).2 hm)
  ·intro h x hx hm;exact h x hx ((any_eqT Conn.tuple _ _).1 hm)
 rw[f]
 constructor
 ·rintro⟨h1,⟨h2,h2'⟩,h3,h4,h5,h6,⟨h7,h8⟩,h9⟩;exact⟨h1,h2,h2',h3,h4,h5,h6,h7,h8,h9⟩
 ·rintro⟨h1,h2,h2',h3,h4,h5,h6,h7,h8,h9⟩;exact⟨h1,⟨h2,h2'⟩,h3,h4,h5,h6,⟨h7,h8⟩,h9⟩
def sumLen (r:List Piec):Nat:=(r.map (fun p=>p.text.length)).sum
theorem walkP_sum (L:Int):∀(r:List Piec) (a b:Int),walkP L a r=some b→a+(sumLen r:Int)≤b
 |[],a,b,h=>by cases h;simp[sumLen]
 |p::r,a,b,h=>by
  simp only[walkP]at h
  cases hc:((p.text==[])||decide (p.off≤a)||decide (L<p.off+(p.text.length:Int)))with
  |true=>rw[hc]at h;cases h
  |false=>
   rw[hc]at h
   simp only[Bool.or_eq_false_iff,decide_eq_false_iff_not]at hc
   have:=walkP_sum L r _ b h
   simp only[sumLen,List.map_cons,List.sum_cons]at this⊢
   omega
def win (x:Recv):Int:=if x.done=true then 0 else 32-(x.data.length:Int)
theorem win_rng (x:Recv)(h:x.data.length≤32):0≤win x∧win x≤32:=by unfold win;split<;>omega
structure RV (x:Recv):Prop where
 n0:0≤x.next
 n1:x.next≤4294967295
 dl:x.data.length≤32
 hl:x.held.length≤3
 f0: -1≤x.fin
 f1:x.fin≤win x
 fz:x.fin≠0
 wk:∃b,walkP (if x.fin= -1 then win x else x.fin) 0 x.held=some b
 dn:x.done=true→x.held=[]∧x.fin= -1
theorem WindowOf_eq (x:Recv)(h:x.data.length≤32):i_WindowOf.f (x,())=win x:=by
 simp only[PX,i_WindowOf]
 unfold win
 rw[wrap64 (by omega) (by omega)]
 cases x.done with
 |true=>rfl
 |false=>simp only[cond_false,Bool.false_eq_true,if_false];split<;>omega
theorem RV_iff (x:Recv)(hs:SmallP x.held):i_ReceiverOk.f (x,())=true↔RV x:=by
 simp only[PX,i_ReceiverOk,i_ReceiverOk_L0_d,i_WordOk_32]
 by_cases hn:0≤x.next∧x.next≤4294967295
 ·rw[decide_eq_true hn.1,decide_eq_true hn.2]
  by_cases hd:32<(x.data.length:Int)
  ·rw[decide_eq_true hd]
   exact⟨fun h=>(by cases h),fun h=>by have:=h.dl;omega⟩
  ·rw[decide_eq_false hd,WindowOf_eq x (by omega)]
   have hw:=win_rng x (by omega)
   simp only[Bool.and_self,Bool.not_true,cond_false]
   by_cases hl:3<(x.held.length:Int)
   ·rw[decide_eq_true hl]
    exact⟨fun h=>(by cases h),fun h=>by have:=h.hl;omega⟩
   ·rw[decide_eq_false hl,i_within_eq]
    simp only[cond_false]
    by_cases hf: -1≤x.fin∧x.fin≤win x
    ·rw[decide_eq_true hf.1,decide_eq_true hf.2]
     simp only[Bool.and_self,Bool.not_true,cond_false]
     by_cases h0:x.fin=0
     ·rw[show(x.fin==0)=true by simp[h0]]
      exact⟨fun h=>(by cases h),fun h=>absurd h0 h.fz⟩
     ·rw[show(x.fin==0)=false by simp[h0]]
      simp only[cond_false]
      have ed:(bif !x.done then true else bif ((x.held.length:Int)==0)then(x.fin== -1)else false)=true↔(x.done=true→x.held=[]∧x.fin= -1):=by
       cases x.done with
       |false=>simp
       |true=>
        cases hh:x.held with
        |nil=>simp
        |cons p r=>
         have:(((p::r).length:Int)==0)=false:=by
          rw[beq_eq_false_iff_ne];simp only[List.length_cons];omega
         rw[this];simp
      have k2:=i_walk x (if x.fin= -1 then win x else x.fin) (by split<;>omega) (by split<;>omega) hs
      have fin:∀L:Int,L=(if x.fin= -1 then win x else x.fin)→(Stp.elim (fun _=>bif !x.done then true else bif ((x.held.length:Int)==0)then(x.fin== -1)else false) (fun _=>false) (forN (fun j a=>(i_ReceiverOk_L0_T L x.held j a).nice) 1 (Int.toNat ((x.held.length:Int)-0)) 0 0)=true↔RV x):=by
       intro L hL
       rw[hL]
       cases hp:walkP (if x.fin= -1 then win x else x.fin) 0 x.held with
       |some b=>
        rw[hp]at k2;simp only[]at k2
        rw[k2]
        simp only[Stp.elim]
        rw[ed]
        exact⟨fun h=>⟨hn.1,hn.2,by omega,by omega,hf.1,hf.2,h0,⟨b,hp⟩,h⟩,fun h=>h.dn⟩
       |none=>
        rw[hp]at k2;obtain⟨w,k2⟩:=k2
        rw[k2]
        simp only[Stp.elim]
        refine⟨fun h=>(by cases h),fun h=> ?_⟩
        obtain⟨b,hb⟩:=h.wk
        rw[hp]at hb;cases hb
      by_cases h1:x.fin= -1
      ·rw[show(x.fin != -1)=false by simp[h1]]
       exact fin (win x) (by rw[if_pos h1])
      ·rw[show(x.fin != -1)=true by simp[h1]]
       exact fin x.fin (by rw[if_neg h1])
    ·have:(decide (-1≤x.fin)&&decide (x.fin≤win x))=false:=by
      rw[Bool.and_eq_false_iff];simp only[decide_eq_false_iff_not];omega
     rw[this]
     exact⟨fun h=>(by cases h),fun h=>absurd ⟨h.f0,h.f1⟩ hf⟩
 ·have:(decide (0≤x.next)&&decide (x.next≤4294967295))=false:=by
   rw[Bool.and_eq_false_iff];simp only[decide_eq_false_iff_not];omega
  rw[this]
  exact⟨fun h=>(by cases h),fun h=>absurd ⟨h.n0,h.n1⟩ hn⟩
theorem RV.sum {x:Recv}(h:RV x):(sumLen x.held:Int)≤32:=by
 obtain⟨b,hb⟩:=h.wk
 have h1:=walkP_sum _ _ _ _ hb
 have h2:=(walkP_le _ _ _ _ hb).2
 have h3:=h.f1
 have h4:=h.f0
 have h5:=h.fz
 have h6:=win_rng x h.dl
 split at h2<;>omega
theorem listN_sum {T W:Type}(g:T→Int)(K M:Int)(xs:List T){F:Nat→T→Int→Stp Int W}(hg:∀x∈xs,0≤g x∧g x≤K)(hF:∀j x a,x∈xs→0≤a→a+K≤M→F j x a= .next (a+g x)):
  ∀(r:List T) (j:Nat) (a:Int),(∀x∈r,x∈xs)→0≤a→a+K*(r.length:Int)≤M→listN F j r a= .next (a+(r.map g).sum)∧0≤(r.map g).sum∧(r.map g).sum≤K*(r.length:Int)
 |[],j,a,_,_,_=>by simp[listN]
 |x::r,j,a,hr,ha,hm=>by
  have hx:=hr x (List.mem_cons_self ..)
  have h1:=hg x hx
  have e:K*((x::r).length:Int)=K*(r.length:Int)+K:=by
   rw[List.length_cons,Int.natCast_add,Int.mul_add,show((1:Nat):Int)=1 from rfl,Int.mul_one]
  have hK:0≤K*(r.length:Int):=Int.mul_nonneg (by omega) (by omega)
  have h2:=listN_sum g K M xs hg hF r (j+1) (a+g x) (fun y hy=>hr y (List.mem_cons_of_mem _ hy)) (by omega) (by omega)
  simp only[listN,hF j x a hx ha (by omega),Stp.elim,h2.1,List.map_cons,List.sum_cons]
  refine⟨?_, ?_, ?_⟩
  ·congr 1;omega
  ·omega
  ·omega
def connSize (c:Conn):Int:=128+(c.s.data.length:Int)+(c.r.data.length:Int)+(sumLen c.r.held:Int)
theorem sumLen_cons (p:Piec)(r:List Piec):(sumLen (p::r):Int)=(p.text.length:Int)+(sumLen r:Int):=by simp[sumLen]
theorem Ret_in (W:Type):∀(r:List Piec) (j:Nat) (a:Int),0≤a→a+(sumLen r:Int)≤1000000→listN (W:=W) (fun _ p (a:Int)=> .next (IntKind.wrap .i64 (a+(p.text.length:Int)))) j r a= .next (a+(sumLen r:Int))
 |[],j,a,_,_=>by simp[listN,sumLen]
 |p::r,j,a,h0,h1=>by
  rw[sumLen_cons]at h1⊢
  simp only[listN,Stp.elim]
  rw[wrap64 (by omega) (by omega),Ret_in W r (j+1) _ (by omega) (by omega)]
  congr 1;omega
theorem Retained_eq (d:Door)(h1:d.halves.length≤64)(h2:d.table.waiting.length≤16)(h3:d.table.conns.length≤16)(h4:∀c∈d.table.conns,connSize c≤240):∃s:Int,i_Retained.f (d,())=64*(d.halves.length:Int)+8*(d.table.waiting.length:Int)+s∧s≤240*(d.table.conns.length:Int):=by
 simp only[PX,i_Retained,i_Retained_L0_d]
 rw[toNat_sub0,forN_list d.table.conns _ rfl (F:=fun _ c (a:Int)=>(i_Retained_L0_T [c] 1 0 a).nice) (by
  intro j x a h
  simp only[PX,i_Retained_L0_T,toNat_cast,getD_some h,i_Retained_L0_0_d]
  rfl)]
 rw[wrap64 (m:=64*(d.halves.length:Int)) (by omega) (by omega),wrap64 (m:=8*(d.table.waiting.length:Int)) (by omega) (by omega),wrap64 (by omega) (by omega)]
 obtain⟨e,e1,e2⟩:=listN_sum (W:=Empty) connSize 240 100000 d.table.conns (F:=fun _ c (a:Int)=>(i_Retained_L0_T [c] 1 0 a).nice) (fun c hc=>⟨by unfold connSize;omega,h4 c hc⟩) (fun j c a hc ha hm=>by
  have hs:=h4 c hc
  unfold connSize at hs
  simp only[PX,i_Retained_L0_T,i_Retained_L0_0_d,show Int.toNat 0=0 from rfl,List.getD_cons_zero]
  rw[toNat_sub0,forN_list c.r.held _ rfl (F:=fun _ p (a:Int)=> .next (IntKind.wrap .i64 (a+(p.text.length:Int)))) (by
   intro j x a h
   simp only[PX,i_Retained_L0_0_T,toNat_cast,getD_some h])]
  rw[wrap64 (m:=128+(c.s.data.length:Int)) (by omega) (by omega),wrap64 (m:=128+(c.s.data.length:Int)+(c.r.data.length:Int)) (by omega) (by omega),wrap64 (by omega) (by omega),Ret_in Empty c.r.held 0 _ (by omega) (by omega)]
  simp only[Stp.elim,PX]
  unfold connSize
  congr 1;omega) d.table.conns 0 (64*(d.halves.length:Int)+8*(d.table.waiting.length:Int)) (fun _ h=>h) (by omega) (by omega)
 rw[e]
 exact⟨_,rfl,e2⟩
theorem RetainedMost_eq (l:Limi)(h:LO l):i_RetainedMost.f (l,())=64*l.halves+240*l.conns+8*l.waiting:=by
 obtain⟨h1,h2,h3,h4,h5,h6,h7,h8⟩:=h
 simp only[PX,i_RetainedMost,(LO_iff l).2 ⟨h1,h2,h3,h4,h5,h6,h7,h8⟩,Bool.not_true,cond_false]
 rw[wrap64 (m:=64*l.halves) (by omega) (by omega),wrap64 (m:=240*l.conns) (by omega) (by omega),wrap64 (m:=8*l.waiting) (by omega) (by omega),wrap64 (m:=64*l.halves+240*l.conns) (by omega) (by omega),wrap64 (by omega) (by omega)]
theorem Retained_le (d:Door)(hd:DO d)(hs:smallD d):i_Retained.f (d,())≤i_RetainedMost.f (d.limits,()):=by
 have t:=hd.tab
 have a1:=t.lim.h2
 have a2:=t.lim.w2
 have a3:=t.lim.c2
 have a4:=t.nc
 have a5:=t.nw
 have a6:=hd.nh
 obtain⟨s,e,hs2⟩:=Retained_eq d (by omega) (by omega) (by omega) (fun c hc=>by
  have h1:=t.co c hc
  have h2:=(RV_iff c.r (hs c hc)).1 h1.rcv
  have h3:=RV.sum h2
  have h4:=h2.dl
  have h5:=h1.snd.2.2.1
  unfold connSize;omega)
 rw[e,RetainedMost_eq _ t.lim]
 omega
theorem CO.set {c:Conn}(h:CO c)(k t r:Int)(hk:k=c.state∨k=8)(t0:0≤t)(t4:t≤4)(t3:k≠7→t≤3)(r0:0≤r)(r3:r≤3):CO ({c with state:=k,timer:=t,tries:=r}:Conn):=by
 have h1:=h.s1
 have h8:=h.s8
 refine⟨h.tup,h.snd,h.rcv,h.opt, ?_, ?_,h.m0,h.m1,h.w0,h.w1,t0,t4,t3,r0,r3, ?_⟩
 ·show 1≤k;omega
 ·show k≤8;omega
 ·show kst k c.s.fin c.s.done c.r.done=true
  rcases hk with rfl|rfl
  ·exact h.fl
  ·rfl
def endOf (p:Piec):Int:=p.off+(p.text.length:Int)
def pcs:List Piec→Int→List Int→List Piec
 |out,_,[]=>out
 |out,i,s::r=>if s<0 then pcs out (i+1) r else
  match out.getLast? with
  |none=>pcs (out++[⟨i,toBytes [s]⟩]) (i+1) r
  |some p=>if endOf p=i then pcs (out.dropLast++[⟨p.off,p.text++toBytes [s]⟩]) (i+1) r else pcs (out++[⟨i,toBytes [s]⟩]) (i+1) r
def runs:Nat→Int→List Int→List Piec
 |_,_,[]=>[]
 |0,_,_::_=>[]
 |k+1,i,s::r=>if s<0 then runs k (i+1) r else
  ⟨i,toBytes (s::r.takeWhile (fun x=>decide (0≤x)))⟩::runs k (i+1+((r.takeWhile (fun x=>decide (0≤x))).length:Int)) (r.dropWhile (fun x=>decide (0≤x)))
theorem toBytes_app (a b:List Int):toBytes (a++b)=toBytes a++toBytes b:=by simp[toBytes]
theorem pcs_run (out:List Piec)(o:Int)(x:Bytes):∀(t r:List Int) (x:Bytes),(∀s∈t,0≤s)→pcs (out++[⟨o,x⟩]) (o+(x.length:Int)) (t++r)=pcs (out++[⟨o,x++toBytes t⟩]) (o+(x.length:Int)+(t.length:Int)) r
 |[],r,x,_=>by simp[toBytes]
 |s::t,r,x,h=>by
  have hs:¬s<0:=by have:=h s (List.mem_cons_self ..);omega
  have ih:=pcs_run out o x t r (x++toBytes [s]) (fun y hy=>h y (List.mem_cons_of_mem _ hy))
  simp only[List.cons_append,pcs,if_neg hs,List.getLast?_append,List.getLast?_singleton,Option.some_or,endOf,if_true,List.dropLast_concat]
  have e:o+(x.length:Int)+1=o+((x++toBytes [s]).length:Int):=by rw[List.length_append,toBytes_length];simp;omega
  rw[e,ih]
  rw[List.append_assoc,←toBytes_app]
  congr 1
  rw[List.length_append,toBytes_length];simp;omega
theorem pcs_runs:∀(k:Nat) (out:List Piec) (i:Int) (r:List Int),r.length≤k→(∀p,out.getLast? =some p→endOf p<i)→pcs out i r=out++runs k i r
 |_,out,i,[],_,_=>by simp[pcs,runs]
 |0,_,_,_::_,h,_=>by simp at h
 |k+1,out,i,s::r,h,hl=>by
  simp only[List.length_cons]at h
  by_cases hs:s<0
  ·simp only[pcs,runs,if_pos hs]
   exact pcs_runs k out (i+1) r (by omega) (fun p hp=>by have:=hl p hp;omega)
  ·have e0:pcs out i (s::r)=pcs (out++[⟨i,toBytes [s]⟩]) (i+1) r:=by
    simp only[pcs,if_neg hs]
    cases hg:out.getLast? with
    |none=>rfl
    |some p=>simp only[if_neg (show¬endOf p=i by have:=hl p hg;omega)]
   simp only[runs,if_neg hs]
   rw[e0]
   have hr:r=r.takeWhile (fun x=>decide (0≤x))++r.dropWhile (fun x=>decide (0≤x)):=(List.takeWhile_append_dropWhile).symm
   have hrun:=pcs_run out i (toBytes [s]) (r.takeWhile (fun x=>decide (0≤x))) (r.dropWhile (fun x=>decide (0≤x))) (toBytes [s]) (fun y hy=>by
    have:=List.all_eq_true.1 (List.all_takeWhile (p:=fun x:Int=>decide (0≤x)) (l:=r)) y hy;simpa using this)
   rw[←hr,show((toBytes [s]).length:Int)=1 by simp[toBytes_length]]at hrun
   rw[hrun,←toBytes_app,List.singleton_append]
   generalize hT:r.takeWhile (fun x=>decide (0≤x))=T at*
   generalize hD:r.dropWhile (fun x=>decide (0≤x))=D at*
   have hDl:D.length≤k:=by
    have:=congrArg List.length hr
    rw[List.length_append]at this;omega
   cases D with
   |nil=>simp[pcs,runs]
   |cons d D=>
    have hd:d<0:=by
     have:=List.head?_dropWhile_not (fun x=>decide (0≤x)) r
     rw[hD]at this
     simp at this;omega
    cases k with
    |zero=>simp at hDl
    |succ k=>
     simp only[pcs,runs,if_pos hd]
     simp only[List.length_cons]at hDl
     rw[pcs_runs k _ _ D (by omega) (fun p hp=>by
      simp only[List.getLast?_append,List.getLast?_singleton,Option.some_or,Option.some.injEq]at hp
      subst hp
      simp only[endOf,toBytes_length,List.length_cons]
      omega)]
     simp
theorem takeWhile_get {p:Int→Bool}:∀(r:List Int) (j:Nat),j<(r.takeWhile p).length→∃s,r[j]? =some s∧p s=true
 |[],j,h=>by simp at h
 |s::r,j,h=>by
  cases hp:p s with
  |false=>simp[List.takeWhile_cons,hp]at h
  |true=>
   cases j with
   |zero=>exact⟨s,rfl,hp⟩
   |succ j=>
    simp only[List.takeWhile_cons,hp,if_true,List.length_cons]at h
    obtain⟨t,h1,h2⟩:=takeWhile_get (p:=p) r j (by omega)
    exact⟨t,by simpa using h1,h2⟩
theorem walk_runs (L:Int):∀(k:Nat) (i:Int) (r:List Int) (a:Int),r.length≤k→a<i→(∀(p:Nat) (s:Int),r[p]? =some s→0≤s→i+(p:Int)+1≤L)→∃b,walkP L a (runs k i r)=some b
 |0,_,[],a,_,_,_=>⟨a,by simp[runs,walkP]⟩
 |_+1,_,[],a,_,_,_=>⟨a,by simp[runs,walkP]⟩
 |0,_,_::_,_,h,_,_=>by simp at h
 |k+1,i,s::r,a,h,ha,hL=>by
  simp only[List.length_cons]at h
  by_cases hs:s<0
  ·simp only[runs,if_pos hs]
   exact walk_runs L k (i+1) r a (by omega) (by omega) (fun p t hp ht=>by
    have:=hL (p+1) t (by simpa using hp) ht;omega)
  ·simp only[runs,if_neg hs,walkP]
   generalize hT:r.takeWhile (fun x=>decide (0≤x))=T at*
   have hn:(toBytes (s::T)==[])=false:=by rw[beq_eq_false_iff_ne];simp[toBytes]
   have hend:i+((toBytes (s::T)).length:Int)≤L:=by
    rw[toBytes_length,List.length_cons]
    rcases Nat.eq_zero_or_pos T.length with h0|h0
    ·have:=hL 0 s rfl (by omega);omega
    ·obtain⟨t,h1,h2⟩:=takeWhile_get (p:=fun x:Int=>decide (0≤x)) r (T.length-1) (by rw[hT];omega)
     have:=hL (T.length-1+1) t (by simpa using h1) (by simpa using h2)
     omega
   rw[hn,decide_eq_false (show¬i≤a by omega),decide_eq_false (show¬L<i+((toBytes (s::T)).length:Int) by omega)]
   simp only[Bool.or_false,cond_false]
   have hr:r=T++r.dropWhile (fun x=>decide (0≤x)):=by rw[←hT];exact(List.takeWhile_append_dropWhile).symm
   generalize hD:r.dropWhile (fun x=>decide (0≤x))=D at*
   have hDl:D.length≤k:=by
    have:=congrArg List.length hr
    rw[List.length_append]at this;omega
   cases D with
   |nil=>exact⟨_,by simp[runs,walkP];rfl⟩
   |cons d D=>
    have hd:d<0:=by
     have:=List.head?_dropWhile_not (fun x=>decide (0≤x)) r
     rw[hD]at this
     simp at this;omega
    cases k with
    |zero=>simp at hDl
    |succ k=>
     simp only[runs,if_pos hd]
     simp only[List.length_cons]at hDl
     rw[toBytes_length,List.length_cons]
     exact walk_runs L k _ D _ (by omega) (by omega) (fun p t hp ht=>by
      have:=hL (1+T.length+(p+1)) t (by
       rw[hr,show 1+T.length+(p+1)=(T.length+(p+1))+1 by omega,List.getElem?_cons_succ,List.getElem?_append_right (by omega),show T.length+(p+1)-T.length=p+1 by omega]
       simpa using hp) ht
      omega)
theorem runs_neg:∀(k:Nat) (i:Int) (r:List Int),(∀s∈r,s<0)→runs k i r=[]
 |0,_,[],_=>by simp[runs]
 |0,_,_::_,_=>by simp[runs]
 |_+1,_,[],_=>by simp[runs]
 |k+1,i,s::r,h=>by
  simp only[runs,if_pos (h s (List.mem_cons_self ..))]
  exact runs_neg k (i+1) r (fun t ht=>h t (List.mem_cons_of_mem _ ht))
def lead (sl:List Int):Nat:=(sl.takeWhile (fun x=>decide (0≤x))).length
theorem lead_nn (sl:List Int)(j:Nat)(h:j<lead sl):∃s,sl[j]? =some s∧0≤s:=by
 obtain⟨s,h1,h2⟩:=takeWhile_get (p:=fun x:Int=>decide (0≤x)) sl j h
 exact⟨s,h1,by simpa using h2⟩
theorem lead_stop (sl:List Int)(s:Int)(h:sl[lead sl]? =some s):s<0:=by
 unfold lead at h
 have e:sl=sl.takeWhile (fun x=>decide (0≤x))++sl.dropWhile (fun x=>decide (0≤x)):=(List.takeWhile_append_dropWhile).symm
 have h2:(sl.dropWhile (fun x=>decide (0≤x)))[0]? =some s:=by
  have h3:=h
  rw[e,List.getElem?_append_right (by rw[←e];exact Nat.le_refl _)]at h3
  rw[←e,Nat.sub_self]at h3
  exact h3
 have:=List.head?_dropWhile_not (fun x:Int=>decide (0≤x)) sl
 rw[List.head?_eq_getElem?,h2]at this
 simp at this;omega
def arrN (x:Recv)(sl:List Int)(F:Int):Recv:=
 if 3<(runs 33 0 (sl.drop (lead sl))).length then x
 else if F-(lead sl:Int)=0 then⟨(x.next+(lead sl:Int)+1)%4294967296,x.data++toBytes (sl.take (lead sl)),runs 33 0 (sl.drop (lead sl)),-1,true⟩
 else⟨(x.next+(lead sl:Int))%4294967296,x.data++toBytes (sl.take (lead sl)),runs 33 0 (sl.drop (lead sl)),if F= -1 then-1 else F-(lead sl:Int),x.done⟩
theorem arrN_ok (x:Recv)(sl:List Int)(F:Int)(hx:RV x)(hd:x.done=false)(hl:sl.length=33)(h0: -1≤F)(hF:F≤win x)(hz:∀(k:Nat) (s:Int),sl[k]? =some s→0≤s→(k:Int)<(if F= -1 then win x else F)):RV (arrN x sl F):=by
 have hw:win x=32-(x.data.length:Int):=by unfold win;rw[hd];rfl
 have hdl:=hx.dl
 have hn:(lead sl:Int)≤(if F= -1 then win x else F):=by
  rcases Nat.eq_zero_or_pos (lead sl)with h|h
  ·rw[h];split<;>omega
  ·obtain⟨s,h1,h2⟩:=lead_nn sl (lead sl-1) (by omega)
   have:=hz _ s h1 h2
   omega
 have hn2:(lead sl:Int)≤win x:=by split at hn<;>omega
 have htk:(sl.take (lead sl)).length=lead sl:=by rw[List.length_take];omega
 have hdd:∀(p:Nat) (s:Int),(sl.drop (lead sl))[p]? =some s→0≤s→(p:Int)+1≤(if F= -1 then win x else F)-(lead sl:Int)∧0<p:=by
  intro p s hp hs
  rw[List.getElem?_drop]at hp
  have h1:=hz _ s hp hs
  refine⟨by omega, ?_⟩
  rcases Nat.eq_zero_or_pos p with h|h
  ·subst h
   have:=lead_stop sl s (by simpa using hp)
   omega
  ·exact h
 have hwk:∃b,walkP ((if F= -1 then win x else F)-(lead sl:Int)) 0 (runs 33 0 (sl.drop (lead sl)))=some b:=by
  cases hD:sl.drop (lead sl)with
  |nil=>exact⟨0,by simp[runs,walkP]⟩
  |cons d D=>
   have hd0:d<0:=by
    apply Int.not_le.1
    intro h
    have:=(hdd 0 d (by rw[hD];rfl) h).2
    omega
   have hDl:D.length≤32:=by
    have:=congrArg List.length hD
    rw[List.length_drop,List.length_cons]at this;omega
   show∃b,walkP _ 0 (runs (32+1) 0 (d::D))=some b
   simp only[runs,if_pos hd0]
   exact walk_runs _ 32 (0+1) D 0 hDl (by omega) (fun p s hp hs=>by
    have:=(hdd (p+1) s (by rw[hD];simpa using hp) hs).1
    omega)
 unfold arrN
 by_cases h3:3<(runs 33 0 (sl.drop (lead sl))).length
 ·rw[if_pos h3];exact hx
 ·rw[if_neg h3]
  by_cases h4:F-(lead sl:Int)=0
  ·rw[if_pos h4]
   have hne:∀s∈sl.drop (lead sl),s<0:=by
    intro s hs
    obtain⟨p,hp,rfl⟩:=List.getElem_of_mem hs
    apply Int.not_le.1
    intro h
    have:=(hdd p _ (List.getElem?_eq_getElem hp) h).1
    have hm1:F≠-1:=by omega
    rw[if_neg hm1]at this
    omega
   rw[runs_neg _ _ _ hne]
   refine⟨by show 0≤(x.next+(lead sl:Int)+1)%4294967296;omega,by show(x.next+(lead sl:Int)+1)%4294967296≤4294967295;omega, ?_,Nat.zero_le _,Int.le_refl _, ?_,by show(-1:Int)≠0;omega,⟨0,by simp[walkP]⟩,fun _=>⟨rfl,rfl⟩⟩
   ·show(x.data++toBytes (sl.take (lead sl))).length≤32
    rw[List.length_append,toBytes_length,htk];omega
   ·show(-1:Int)≤win _
    unfold win;rw[if_pos rfl];omega
  ·rw[if_neg h4]
   have hlen:(x.data++toBytes (sl.take (lead sl))).length=x.data.length+lead sl:=by rw[List.length_append,toBytes_length,htk]
   have hwin:∀(nx:Int) (hh:List Piec) (f:Int),win ⟨nx,x.data++toBytes (sl.take (lead sl)),hh,f,x.done⟩=win x-(lead sl:Int):=by
    intro nx hh f
    unfold win
    simp only[hd,Bool.false_eq_true,if_false,hlen]
    omega
   refine⟨by show 0≤(x.next+(lead sl:Int))%4294967296;omega,by show(x.next+(lead sl:Int))%4294967296≤4294967295;omega,by show(x.data++toBytes (sl.take (lead sl))).length≤32;omega,by show(runs 33 0 (sl.drop (lead sl))).length≤3;omega, ?_, ?_, ?_, ?_,fun h=>by rw[show({next:=(x.next+(lead sl:Int))%4294967296,data:=x.data++toBytes (sl.take (lead sl)),held:=runs 33 0 (sl.drop (lead sl)),fin:=if F= -1 then-1 else F-(lead sl:Int),done:=x.done}:Recv).done=x.done from rfl,hd]at h;cases h⟩
   ·show-1≤(if F= -1 then-1 else F-(lead sl:Int))
    split
    ·omega
    ·rename_i hm;rw[if_neg hm]at hn;omega
   ·show(if F= -1 then-1 else F-(lead sl:Int))≤win _
    rw[hwin]
    split<;>omega
   ·show(if F= -1 then-1 else F-(lead sl:Int))≠0
    split<;>omega
   ·show∃b,walkP (if(if F= -1 then-1 else F-(lead sl:Int))= -1 then win _ else(if F= -1 then-1 else F-(lead sl:Int))) 0 (runs 33 0 (sl.drop (lead sl)))=some b
    rw[hwin]
    by_cases hm:F= -1
    ·simp only[if_pos hm]at hwk⊢
     exact hwk
    ·rw[if_neg hm]at hn
     simp only[if_neg hm]at hwk⊢
     rw[if_neg (show¬F-(lead sl:Int)= -1 by omega)]
     exact hwk
def putT:List Int→Nat→Bytes→List Int
 |sl,_,[]=>sl
 |sl,o,b::t=>putT (sl.set o (b.toNat:Int)) (o+1) t
theorem putT_len:∀(t:Bytes) (sl:List Int) (o:Nat),(putT sl o t).length=sl.length
 |[],_,_=>rfl
 |_::t,sl,o=>by simp only[putT,putT_len t,List.length_set]
def slotsN (held:List Piec):List Int:=held.foldl (fun sl p=>putT sl p.off.toNat p.text) (List.replicate 33 (-1))
theorem byteAt_at (t:Bytes)(k:Nat)(hk:k<t.length):byteAt t k=(t[k].toNat:Int):=by
 simp[byteAt,List.getD,hk]
theorem byte_lt (b:UInt8):(b.toNat:Int)≤255:=by have:=b.toNat_lt;omega
theorem slot_in (p:Piec)(h1:1≤p.off)(h2:p.off+(p.text.length:Int)≤32){f:Int×List Int→Stp (Int×List Int) (List Int)}(hf:∀(k:Nat) sl,f ((k:Int),sl)=bif decide ((k:Int)<(p.text.length:Int))then .next (IntKind.wrap .i64 ((k:Int)+1),sl.set (IntKind.wrap .i64 (p.off+(k:Int))).toNat (IntKind.wrap .i64 (byteAt p.text k)))else .out sl):∀(n k:Nat) (sl:List Int),k+n=p.text.length→whileN f (n+1) ((k:Int),sl)=putT sl (p.off.toNat+k) (p.text.drop k)
 |0,k,sl,h=>by
  simp only[whileN,hf,decide_eq_false (show¬(k:Int)<(p.text.length:Int) by omega),cond_false,Stp.elim]
  rw[List.drop_of_length_le (by omega)]
  rfl
 |n+1,k,sl,h=>by
  have hk:k<p.text.length:=by omega
  rw[whileN]
  simp only[hf,decide_eq_true (show(k:Int)<(p.text.length:Int) by omega),cond_true,Stp.elim]
  rw[wrap64 (m:=p.off+(k:Int)) (by omega) (by omega),wrap64 (m:=(k:Int)+1) (by omega) (by omega),byteAt_at _ _ hk,wrap64 (by omega) (by have:=byte_lt p.text[k];omega)]
  rw[show(k:Int)+1=((k+1:Nat):Int) by omega,show(p.off+(k:Int)).toNat=p.off.toNat+k by omega]
  rw[slot_in p h1 h2 hf n (k+1) _ (by omega),List.drop_eq_getElem_cons hk]
  rfl
theorem s_slots_eq (x:Recv)(h:smE po x.held):s_l18Slots.f (x,())=slotsN x.held:=by
 have e0:forN (fun j a=>(s_l18Slots_L0_T j a).nice) 1 (Int.toNat (((List.replicate 33 (0:Int)).length:Int)-0)) 0 (List.replicate 33 (0:Int))= .next (List.replicate 33 (-1)):=by rfl
 simp only[PX,s_l18Slots,s_l18Slots_L0_d,s_l18Slots_L1_d]
 rw[e0]
 simp only[Stp.elim]
 rw[toNat_sub0,forN_list x.held _ rfl (F:=fun _ p (a:List Int)=> .next (putT a p.off.toNat p.text)) (by
  intro j p a hp
  have hpo:=h p (mem_at hp)
  unfold po at hpo
  have:=slot_in p hpo.1 hpo.2 (f:=fun a=>(s_l18Slots_L1_0_T (j:Int) x a).nice) (fun k sl=>by
   simp only[s_l18Slots_L1_0_T,PX,toNat_cast,getD_some hp]) p.text.length 0 a (by omega)
  simp only[PX,s_l18Slots_L1_T,s_l18Slots_L1_0_d,toNat_cast,getD_some hp]
  rw[show Int.toNat ((p.text.length:Int)-0)=p.text.length by omega]
  exact congrArg Stp.next this)]
 have:∀(r:List Piec) (j:Nat) (a:List Int),listN (W:=Empty) (fun _ p (a:List Int)=> .next (putT a p.off.toNat p.text)) j r a= .next (r.foldl (fun sl p=>putT sl p.off.toNat p.text) a):=by
  intro r
  induction r with
  |nil=>intro j a;rfl
  |cons p r ih=>intro j a;simp only[listN,Stp.elim,ih,List.foldl_cons]
 rw[this]
 simp only[Stp.elim]
 rfl
theorem wrap8 {m:Int}(h0:0≤m)(h1:m≤255):IntKind.wrap .u8 m=m:=by
 rw[wrap8_def];omega
def lay1 (x:Recv)(seq w:Int)(sl:List Int)(j:Nat)(b:UInt8):List Int:=
 if(seq+(j:Int)-x.next)%4294967296<w∧(x.fin<0∨(seq+(j:Int)-x.next)%4294967296<x.fin)∧sl.getD ((seq+(j:Int)-x.next)%4294967296).toNat 0<0 then sl.set ((seq+(j:Int)-x.next)%4294967296).toNat (b.toNat:Int)else sl
def layN (x:Recv)(seq w:Int):List Int→Nat→Bytes→List Int
 |sl,_,[]=>sl
 |sl,j,b::t=>layN x seq w (lay1 x seq w sl j b) (j+1) t
theorem lay1_len (x:Recv)(seq w:Int)(sl:List Int)(j:Nat)(b:UInt8):(lay1 x seq w sl j b).length=sl.length:=by
 unfold lay1;split<;>simp
theorem layN_len (x:Recv)(seq w:Int):∀(t:Bytes) (sl:List Int) (j:Nat),(layN x seq w sl j t).length=sl.length
 |[],_,_=>rfl
 |b::t,sl,j=>by simp only[layN,layN_len x seq w t,lay1_len]
theorem seq_off (a n:Int):((a%4294967296)-n)%4294967296=(a-n)%4294967296:=by omega
theorem listN_lay {A W:Type}(z:A→A)(g:List Int→Nat→UInt8→List Int):∀(t:Bytes) (j:Nat) (r:A) (sl:List Int),∃r2,listN (W:=W) (fun j b (a:A×List Int)=> .next (z a.1,g a.2 j b)) j t (r,sl)= .next (r2,(t.foldl (fun(p:List Int×Nat) b=>(g p.1 p.2 b,p.2+1)) (sl,j)).1)
 |[],j,r,sl=>⟨r,rfl⟩
 |b::t,j,r,sl=>by
  obtain⟨r2,e⟩:=listN_lay z g t (j+1) (z r) (g sl j b)
  refine⟨r2, ?_⟩
  simp only[listN,Stp.elim,List.foldl_cons]
  exact e
theorem layN_fold (x:Recv)(seq w:Int):∀(t:Bytes) (sl:List Int) (j:Nat),(t.foldl (fun(p:List Int×Nat) b=>(lay1 x seq w p.1 p.2 b,p.2+1)) (sl,j)).1=layN x seq w sl j t
 |[],_,_=>rfl
 |b::t,sl,j=>by simp only[List.foldl_cons,layN,layN_fold x seq w t]
theorem s_lay (x:Recv)(seq w:Int)(t:Bytes)(hn:0≤x.next∧x.next≤4294967295)(ht:t.length≤4294967296)(r:Recv)(sl:List Int):∃r2,forN (fun j a=>(s_Arrived_L0_T seq t w x j a).nice) 1 (Int.toNat ((t.length:Int)-0)) 0 (r,sl)= .next (r2,layN x seq w sl 0 t):=by
 obtain⟨r2,e⟩:=listN_lay (W:=Empty) (fun r:Recv=>({r with held:=[]}:Recv)) (lay1 x seq w) t 0 r sl
 refine⟨r2, ?_⟩
 rw[toNat_sub0,forN_list t _ rfl (F:=fun j b (a:Recv×List Int)=> .next (({a.1 with held:=[]}:Recv),lay1 x seq w a.2 j b)) (by
  intro j b a hb
  have hbt:byteAt t j=(b.toNat:Int):=by simp[byteAt,List.getD,hb]
  have hb8:=byte_lt b
  have e1:(IntKind.wrap .i64 ((seq+(j:Int))%4294967296-x.next))%4294967296=(seq+(j:Int)-x.next)%4294967296:=by
   rw[wrap64 (by omega) (by omega),seq_off]
  simp only[PX,s_Arrived_L0_T,q_SeqAdd,iSeqAdd_eq,l4Rest_eq,toNat_cast,hbt,e1]
  rw[wrap64 (by omega) (by omega)]
  unfold lay1
  generalize(seq+(j:Int)-x.next)%4294967296=o
  by_cases c1:o<w
  ·by_cases c2:x.fin<0
   ·by_cases c3:a.2.getD o.toNat 0<0
    ·simp only[decide_eq_true c1,decide_eq_true c2,decide_eq_true c3,cond_true,if_pos (show o<w∧(x.fin<0∨o<x.fin)∧a.2.getD o.toNat 0<0 from⟨c1,.inl c2,c3⟩)]
    ·simp only[decide_eq_true c1,decide_eq_true c2,decide_eq_false c3,cond_true,cond_false,if_neg (show¬(o<w∧(x.fin<0∨o<x.fin)∧a.2.getD o.toNat 0<0) from fun h=>c3 h.2.2)]
   ·by_cases c4:o<x.fin
    ·by_cases c3:a.2.getD o.toNat 0<0
     ·simp only[decide_eq_true c1,decide_eq_false c2,decide_eq_true c4,decide_eq_true c3,cond_true,cond_false,if_pos (show o<w∧(x.fin<0∨o<x.fin)∧a.2.getD o.toNat 0<0 from⟨c1,.inr c4,c3⟩)]
     ·simp only[decide_eq_true c1,decide_eq_false c2,decide_eq_true c4,decide_eq_false c3,cond_true,cond_false,if_neg (show¬(o<w∧(x.fin<0∨o<x.fin)∧a.2.getD o.toNat 0<0) from fun h=>c3 h.2.2)]
    ·simp only[decide_eq_true c1,decide_eq_false c2,decide_eq_false c4,cond_true,cond_false,if_neg (show¬(o<w∧(x.fin<0∨o<x.fin)∧a.2.getD o.toNat 0<0) from fun h=>h.2.1.elim c2 c4)]
  ·simp only[decide_eq_false c1,cond_false,if_neg (show¬(o<w∧(x.fin<0∨o<x.fin)∧a.2.getD o.toNat 0<0) from fun h=>c1 h.1)])]
 rw[e,layN_fold]
theorem s_Free_eq (sl:List Int)(e:Nat)(he:e≤sl.length):s_l18Free.f (sl,(e:Int),())=(sl.drop e).all (fun s=>decide (s<0)):=by
 have key:∀(n j:Nat),j+n=sl.length→forN (fun j a=>(s_l18Free_L0_T sl j a).nice) 1 n (j:Int) ()=bif (sl.drop j).all (fun s=>decide (s<0))then .next ()else .out ():=by
  intro n
  induction n with
  |zero=>intro j h;rw[List.drop_of_length_le (by omega)];rfl
  |succ n ih=>
   intro j h
   have hj:j<sl.length:=by omega
   have ih:=ih (j+1) (by omega)
   rw[List.drop_eq_getElem_cons hj,List.all_cons]
   simp only[s_l18Free_L0_T,PX]at ih
   simp only[forN,s_l18Free_L0_T,PX,toNat_cast,getD_some (List.getElem?_eq_getElem hj)]
   by_cases h0:0≤sl[j]
   ·rw[decide_eq_true h0,decide_eq_false (show¬sl[j]<0 by omega)];rfl
   ·rw[decide_eq_false h0,decide_eq_true (show sl[j]<0 by omega)]
    simp only[cond_false,Stp.elim,Bool.true_and]
    rw[show(j:Int)+1=((j+1:Nat):Int) by omega]
    exact ih
 simp only[PX,s_l18Free,s_l18Free_L0_d]
 rw[show Int.toNat ((sl.length:Int)-(e:Int))=sl.length-e by omega,key _ _ (by omega)]
 cases(sl.drop e).all (fun s=>decide (s<0))<;>rfl
theorem s_lead (sl:List Int)(hr:∀s∈sl,s≤255)(hl:lead sl<sl.length):∀(n j:Nat) (r:Recv),j+n=lead sl→forN (fun j a=>(s_Arrived_L1_T sl j a).nice) 1 (sl.length-j) (j:Int) (r,sl.take j)= .out ((lead sl:Int),({r with held:=[]}:Recv),sl.take (lead sl))
 |0,j,r,h=>by
  have hj:j=lead sl:=by omega
  subst hj
  have hg:=List.getElem?_eq_getElem hl
  have h0:=lead_stop sl _ hg
  rw[show sl.length-lead sl=(sl.length-lead sl-1)+1 by omega]
  simp only[forN,s_Arrived_L1_T,PX,toNat_cast,getD_some hg,decide_eq_false (show¬0≤sl[lead sl] by omega),cond_false,Stp.elim]
 |n+1,j,r,h=>by
  obtain⟨s,hs1,hs2⟩:=lead_nn sl j (by omega)
  have hj:j<sl.length:=by omega
  have ih:=s_lead sl hr hl n (j+1) ({r with held:=[]}:Recv) (by omega)
  have hs3:=hr s (mem_at hs1)
  rw[show sl.length-j=(sl.length-(j+1))+1 by omega]
  rw[List.take_succ_eq_append_getElem hj]at ih
  have he:sl[j]=s:=by rw[List.getElem?_eq_getElem hj]at hs1;exact Option.some.inj hs1
  rw[he]at ih
  simp only[s_Arrived_L1_T,PX]at ih
  simp only[forN,s_Arrived_L1_T,PX,toNat_cast,getD_some hs1,decide_eq_true hs2,cond_true,Stp.elim]
  rw[wrap8 hs2 hs3,show(j:Int)+1=((j+1:Nat):Int) by omega]
  exact ih
theorem lay1_at (x:Recv)(seq w:Int)(sl:List Int)(j:Nat)(b:UInt8)(k:Nat)(s:Int)(h:(lay1 x seq w sl j b)[k]? =some s):sl[k]? =some s∨(s=(b.toNat:Int)∧(k:Int)<w∧(x.fin<0∨(k:Int)<x.fin)):=by
 unfold lay1 at h
 generalize ho:(seq+(j:Int)-x.next)%4294967296=o at h
 have h0:0≤o:=by omega
 split at h
 ·rename_i hc
  rw[List.getElem?_set]at h
  split at h
  ·rename_i hk
   split at h
   ·refine .inr ⟨(Option.some.inj h).symm,by omega, ?_⟩
    rcases hc.2.1 with h2|h2
    ·exact .inl h2
    ·exact .inr (by omega)
   ·cases h
  ·exact .inl h
 ·exact .inl h
theorem layN_at (x:Recv)(seq w:Int):∀(t:Bytes) (sl:List Int) (j:Nat) (k:Nat) (s:Int),(layN x seq w sl j t)[k]? =some s→sl[k]? =some s∨(0≤s∧s≤255∧(k:Int)<w∧(x.fin<0∨(k:Int)<x.fin))
 |[],_,_,_,_,h=> .inl h
 |b::t,sl,j,k,s,h=>by
  rcases layN_at x seq w t _ (j+1) k s h with h1|h1
  ·rcases lay1_at x seq w sl j b k s h1 with h2|⟨h2,h3,h4⟩
   ·exact .inl h2
   ·exact .inr ⟨by omega,by have:=byte_lt b;omega,h3,h4⟩
  ·exact .inr h1
theorem putT_at:∀(t:Bytes) (sl:List Int) (o k:Nat) (s:Int),(putT sl o t)[k]? =some s→sl[k]? =some s∨(0≤s∧s≤255∧o≤k∧k<o+t.length)
 |[],_,_,_,_,h=> .inl h
 |b::t,sl,o,k,s,h=>by
  simp only[putT]at h
  rcases putT_at t _ (o+1) k s h with h1|⟨h1,h2,h3,h4⟩
  ·rw[List.getElem?_set]at h1
   split at h1
   ·rename_i hk
    split at h1
    ·have e:=(Option.some.inj h1).symm
     exact .inr ⟨by omega,by have:=byte_lt b;omega,by omega,by simp only[List.length_cons];omega⟩
    ·cases h1
   ·exact .inl h1
  ·exact .inr ⟨h1,h2,by omega,by simp only[List.length_cons];omega⟩
theorem slots_at (L:Int):∀(held:List Piec) (a b:Int) (sl:List Int),0≤a→walkP L a held=some b→a≤L→∀(k:Nat) (s:Int),(held.foldl (fun sl p=>putT sl p.off.toNat p.text) sl)[k]? =some s→sl[k]? =some s∨(0≤s∧s≤255∧(k:Int)<L)
 |[],_,_,_,_,_,_,_,_,h=> .inl h
 |p::r,a,b,sl,h0,hw,ha,k,s,h=>by
  simp only[walkP]at hw
  cases hc:((p.text==[])||decide (p.off≤a)||decide (L<p.off+(p.text.length:Int)))with
  |true=>rw[hc]at hw;cases hw
  |false=>
   rw[hc]at hw
   simp only[Bool.or_eq_false_iff,decide_eq_false_iff_not]at hc
   simp only[List.foldl_cons]at h
   rcases slots_at L r _ b _ (by omega) hw (by omega) k s h with h1|h1
   ·rcases putT_at p.text sl p.off.toNat k s h1 with h2|⟨h2,h3,h4,h5⟩
    ·exact .inl h2
    ·exact .inr ⟨h2,h3,by omega⟩
   ·exact .inr h1
theorem foldl_putT_len:∀(held:List Piec) (sl:List Int),(held.foldl (fun sl p=>putT sl p.off.toNat p.text) sl).length=sl.length
 |[],_=>rfl
 |p::r,sl=>by simp only[List.foldl_cons,foldl_putT_len r,putT_len]
theorem slots_ok (x:Recv)(hx:RV x)(seq:Int)(t:Bytes):(layN x seq (win x) (slotsN x.held) 0 t).length=33∧∀(k:Nat) (s:Int),(layN x seq (win x) (slotsN x.held) 0 t)[k]? =some s→-1≤s∧s≤255∧(0≤s→(k:Int)<(if x.fin= -1 then win x else x.fin)):=by
 have hw:=win_rng x hx.dl
 have hf0:=hx.f0
 have hf1:=hx.f1
 have hfz:=hx.fz
 refine⟨by rw[layN_len];unfold slotsN;rw[foldl_putT_len];rfl,fun k s h=> ?_⟩
 rcases layN_at x seq (win x) t _ 0 k s h with h1|⟨h1,h2,h3,h4⟩
 ·obtain⟨b,hb⟩:=hx.wk
  unfold slotsN at h1
  rcases slots_at _ x.held 0 b _ (Int.le_refl _) hb (by split<;>omega) k s h1 with h2|⟨h2,h3,h4⟩
  ·have:s= -1:=by
    have hm:=List.mem_of_getElem? h2
    exact List.eq_of_mem_replicate hm
   omega
  ·exact⟨by omega,h3,fun _=>h4⟩
 ·refine⟨by omega,h2,fun _=> ?_⟩
  split
  ·exact h3
  ·rcases h4 with h5|h5<;>omega
theorem s_pcs (sl:List Int)(hr:∀s∈sl,s≤255)(hl:sl.length=33)(n:Nat):∀(m j:Nat) (a:List Piec),n≤j→j+m=33→a.length≤33→(∀p,a.getLast? =some p→0≤p.off∧endOf p≤(j:Int)-(n:Int))→a.length+m≤33→forN (fun j a=>(s_l18Pieces_L0_T sl (n:Int) j a).nice) 1 m (j:Int) a= .next (pcs a ((j:Int)-(n:Int)) (sl.drop j))
 |0,j,a,h1,h2,_,_,_=>by rw[List.drop_of_length_le (by omega)];simp only[forN,pcs]
 |m+1,j,a,h1,h2,h3,h4,h5=>by
  have hj:j<sl.length:=by omega
  have hs:=List.getElem?_eq_getElem hj
  have hs8:=hr _ (mem_at hs)
  rw[List.drop_eq_getElem_cons hj]
  generalize sl[j]=s at hs hs8⊢
  have ej:(j:Int)+1=((j+1:Nat):Int):=by omega
  have en:(j:Int)-(n:Int)+1=((j+1:Nat):Int)-(n:Int):=by omega
  by_cases h0:s<0
  ·have ih:=s_pcs sl hr hl n m (j+1) a (by omega) (by omega) h3 (fun p hp=>by have:=h4 p hp;omega) (by omega)
   simp only[PX,s_l18Pieces_L0_T]at ih
   simp only[forN,PX,s_l18Pieces_L0_T,toNat_cast,getD_some hs,decide_eq_true h0,cond_true,Stp.elim,pcs,if_pos h0]
   rw[ej,en]
   exact ih
  ·have hw8:IntKind.wrap .u8 s=s:=wrap8 (by omega) hs8
   rcases List.eq_nil_or_concat a with rfl|⟨b,p,rfl⟩
   ·have ih:=s_pcs sl hr hl n m (j+1) [⟨(j:Int)-(n:Int),toBytes [s]⟩] (by omega) (by omega) (by simp) (fun p hp=>by
     simp only[List.getLast?_singleton,Option.some.injEq]at hp
     subst hp
     simp only[endOf,toBytes_length,List.length_singleton];omega) (by simp;omega)
    simp only[PX,s_l18Pieces_L0_T]at ih
    have e0:decide (0<(([]:List Piec).length:Int))=false:=by simp
    simp only[forN,PX,s_l18Pieces_L0_T,toNat_cast,getD_some hs,decide_eq_false h0,cond_false,Stp.elim,pcs,if_neg h0,e0,List.getLast?_nil,hw8,List.nil_append]
    rw[ej,en,wrap64 (m:=(j:Int)-(n:Int)) (by omega) (by omega)]
    exact ih
   ·simp only[List.concat_eq_append]at*
    have hp:=h4 p (by simp)
    have hbl:(b++[p]).length=b.length+1:=by simp
    have e0:decide (0<((b++[p]).length:Int))=true:=by rw[decide_eq_true_iff,hbl];omega
    have e1:(IntKind.wrap .i64 (((b++[p]).length:Int)-1)).toNat=b.length:=by rw[hbl,wrap64 (by omega) (by omega)];omega
    have e2:(b++[p]).getD b.length (Ty.zero .piec)=p:=by simp[List.getD]
    have e3:∀q,(b++[p]).set b.length q=b++[q]:=fun q=>by simp
    have hoff:=hp.1
    have hend:=hp.2
    unfold endOf at hend
    by_cases he:endOf p=(j:Int)-(n:Int)
    ·have ih:=s_pcs sl hr hl n m (j+1) (b++[⟨p.off,p.text++toBytes [s]⟩]) (by omega) (by omega) (by simp at h3⊢;omega) (fun q hq=>by
      simp only[List.getLast?_append,List.getLast?_singleton,Option.some_or,Option.some.injEq]at hq
      subst hq
      unfold endOf at he
      simp only[endOf,List.length_append,toBytes_length,List.length_singleton];omega) (by simp at h5⊢;omega)
     simp only[PX,s_l18Pieces_L0_T]at ih
     have e4:(IntKind.wrap .i64 (p.off+(p.text.length:Int))==IntKind.wrap .i64 ((j:Int)-(n:Int)))=true:=by
      unfold endOf at he
      rw[he];exact beq_self_eq_true _
     simp only[forN,PX,s_l18Pieces_L0_T,toNat_cast,getD_some hs,decide_eq_false h0,cond_false,Stp.elim,pcs,if_neg h0,e0,e1,e2,e3,e4,cond_true,hw8,List.getLast?_append,List.getLast?_singleton,Option.some_or,if_pos he,List.dropLast_concat]
     rw[ej,en]
     exact ih
    ·have ih:=s_pcs sl hr hl n m (j+1) (b++[p]++[⟨(j:Int)-(n:Int),toBytes [s]⟩]) (by omega) (by omega) (by simp at h3 h5⊢;omega) (fun q hq=>by
      simp only[List.getLast?_append,List.getLast?_singleton,Option.some_or,Option.some.injEq]at hq
      subst hq
      simp only[endOf,toBytes_length,List.length_singleton];omega) (by simp at h5⊢;omega)
     simp only[PX,s_l18Pieces_L0_T]at ih
     have e4:(IntKind.wrap .i64 (p.off+(p.text.length:Int))==IntKind.wrap .i64 ((j:Int)-(n:Int)))=false:=by
      unfold endOf at he
      rw[wrap64 (by omega) (by omega),wrap64 (by omega) (by omega),beq_eq_false_iff_ne];exact he
     simp only[forN,PX,s_l18Pieces_L0_T,toNat_cast,getD_some hs,decide_eq_false h0,cond_false,Stp.elim,pcs,if_neg h0,e0,e1,e2,e4,cond_true,hw8,List.getLast?_append,List.getLast?_singleton,Option.some_or,if_neg he]
     rw[ej,en,wrap64 (m:=(j:Int)-(n:Int)) (by omega) (by omega)]
     exact ih
theorem s_Pieces_eq (sl:List Int)(hr:∀s∈sl,s≤255)(hl:sl.length=33)(n:Nat)(hn:n≤33):s_l18Pieces.f (sl,(n:Int),())=runs 33 0 (sl.drop n):=by
 simp only[PX,s_l18Pieces,s_l18Pieces_L0_d]
 rw[show Int.toNat ((sl.length:Int)-(n:Int))=33-n by omega]
 rw[s_pcs sl hr hl n (33-n) n [] (Nat.le_refl _) (by omega) (by simp) (fun p hp=>by simp at hp) (by simp)]
 simp only[Stp.elim]
 rw[Int.sub_self,pcs_runs 33 [] 0 (sl.drop n) (by rw[List.length_drop];omega) (fun p hp=>by simp at hp)]
 rfl
def finN (x:Recv)(sl:List Int)(e:Int)(fin:Bool):Int:=if fin=true∧x.fin<0∧e≤win x∧(sl.drop e.toNat).all (fun s=>decide (s<0))=true then e else x.fin
def layT (x:Recv)(seq:Int)(t:Bytes):List Int:=layN x seq (win x) (slotsN x.held) 0 t
def arrived (x:Recv)(seq:Int)(t:Bytes)(fin:Bool):Recv:=
 if i_ReceiverOk.f (x,())=true∧x.done=false then arrN x (layT x seq t) (finN x (layT x seq t) ((seq+(t.length:Int)-x.next)%4294967296) fin)else x
theorem walkP_po_of (L:Int):∀(r:List Piec) (a b:Int),0≤a→L≤32→walkP L a r=some b→smE po r
 |[],_,_,_,_,_=>fun _ h=>by cases h
 |p::r,a,b,h0,hL,h=>by
  simp only[walkP]at h
  cases hc:((p.text==[])||decide (p.off≤a)||decide (L<p.off+(p.text.length:Int)))with
  |true=>rw[hc]at h;cases h
  |false=>
   rw[hc]at h
   simp only[Bool.or_eq_false_iff,decide_eq_false_iff_not]at hc
   have ih:=walkP_po_of L r _ b (by omega) hL h
   intro y hy
   rcases List.mem_cons.1 hy with rfl|hy
   ·unfold po;omega
   ·exact ih y hy
theorem walkP_po (x:Recv)(hx:RV x):smE po x.held:=by
 obtain⟨b,hb⟩:=hx.wk
 have h1:=win_rng x hx.dl
 have h2:=hx.f1
 exact walkP_po_of _ x.held 0 b (Int.le_refl _) (by split<;>omega) hb
theorem s_Arrived_eq (x:Recv)(seq:Int)(t:Bytes)(fin:Bool)(hs:SmallP x.held)(ht:t.length≤4294967296):s_Arrived.f (x,seq,t,fin,())=arrived x seq t fin:=by
 simp only[PX,s_Arrived,q_l18Copy,q_ReceiverOk x hs]
 unfold arrived
 cases hok:i_ReceiverOk.f (x,())with
 |false=>rfl
 |true=>
 cases hdn:x.done with
 |true=>rfl
 |false=>
 have hx:=(RV_iff x hs).1 hok
 have hpo:smE po x.held:=walkP_po x hx
 obtain⟨r2,e1⟩:=s_lay x seq (win x) t ⟨hx.n0,hx.n1⟩ ht (⟨0,[],[],0,false⟩:Recv) (slotsN x.held)
 have hsl:=slots_ok x hx seq t
 have hw:=win_rng x hx.dl
 have hn0:=hx.n0
 have hn1:=hx.n1
 have hf0:=hx.f0
 have hf1:=hx.f1
 have hL:layT x seq t=layN x seq (win x) (slotsN x.held) 0 t:=rfl
 rw[←hL]at e1 hsl
 have ee:IntKind.wrap .i64 ((seq+(t.length:Int))%4294967296-x.next)%4294967296=(seq+(t.length:Int)-x.next)%4294967296:=by
  rw[wrap64 (by omega) (by omega),seq_off]
 simp only[Bool.not_true,cond_false,q_WindowOf,WindowOf_eq x hx.dl,s_slots_eq x hpo,s_Arrived_L0_d,e1,Stp.elim,PX,q_SeqAdd,iSeqAdd_eq,l4Rest_eq,true_and,if_true,ee]
 obtain⟨e,he⟩:∃e,(seq+(t.length:Int)-x.next)%4294967296=e:=⟨_,rfl⟩
 have he0:0≤e:=by omega
 obtain⟨sl,hsl2⟩:∃sl,layT x seq t=sl:=⟨_,rfl⟩
 simp only[he,hsl2]at hsl⊢
 clear e1 ee hL he hsl2
 obtain⟨hl,hat⟩:=hsl
 have hr:∀s∈sl,s≤255:=fun s hs=>by
  obtain⟨k,hk,rfl⟩:=List.getElem_of_mem hs
  exact(hat k _ (List.getElem?_eq_getElem hk)).2.1
 have hld:lead sl<sl.length:=by
  rcases Nat.lt_or_ge (lead sl) sl.length with h|h
  ·exact h
  ·obtain⟨s,h1,h2⟩:=lead_nn sl 32 (by omega)
   have:=(hat 32 s h1).2.2 h2
   split at this<;>omega
 have hc:(bif fin then bif decide (x.fin<0)then bif decide (e≤win x)then(s_l18Free.f (sl,e,()),())else(false,())else(false,())else(false,())).1=decide (fin=true∧x.fin<0∧e≤win x∧(sl.drop e.toNat).all (fun s=>decide (s<0))=true):=by
  cases fin with
  |false=>simp
  |true=>
   by_cases c1:x.fin<0
   ·by_cases c2:e≤win x
    ·have h1:=s_Free_eq sl e.toNat (by omega)
     rw[show((e.toNat:Nat):Int)=e by omega]at h1
     simp only[cond_true,decide_eq_true c1,decide_eq_true c2,h1]
     simp only[c1,c2,true_and,Bool.decide_eq_true]
    ·simp[c1,c2]
   ·simp[c1]
 have tail:∀(r u:Recv),(s_Arrived_L1_d (0,x,r,u,sl,[],())).lp.s= .out ((lead sl:Int),({r with held:=[]}:Recv),sl.take (lead sl)):=by
  intro r u
  have:=s_lead sl hr hld (lead sl) 0 r (by omega)
  rw[←toNat_sub0 sl.length]at this
  exact this
 have tp:∀(r u:Recv) (w:Int×Recv×List Int),(s_Arrived_L1_d (0,x,r,u,sl,[],())).lp.o w= .inl w:=fun _ _ _=>rfl
 have hld2:(lead sl:Int)≤33:=by omega
 by_cases hcc:fin=true∧x.fin<0∧e≤win x∧(sl.drop e.toNat).all (fun s=>decide (s<0))=true
 ·have hfn:finN x sl e fin=e:=if_pos hcc
  have hew:=hcc.2.2.1
  rw[hfn]
  simp only[hc,decide_eq_true hcc,cond_true]
  dsimp only[Tr.nice]
  simp only[PX,tail,tp,Stp.elim,Sum.elim_inl,letK_eq,s_Pieces_eq sl hr hl (lead sl) (by omega)]
  unfold arrN
  have hd:decide (0≤e)=true:=decide_eq_true (by omega)
  simp only[hd,cond_true]
  rw[wrap64 (m:=e-(lead sl:Int)) (by omega) (by omega)]
  change (bif ((e-(lead sl:Int))==0)then(bif decide ((3:Int)<((runs 33 0 (sl.drop (lead sl))).length:Int))then s_l18Copy.f (x,())else(⟨((x.next+(lead sl:Int))%4294967296+1)%4294967296,x.data++toBytes (sl.take (lead sl)),runs 33 0 (sl.drop (lead sl)),-1,true⟩:Recv))else(bif decide ((3:Int)<((runs 33 0 (sl.drop (lead sl))).length:Int))then s_l18Copy.f (x,())else(⟨(x.next+(lead sl:Int))%4294967296,x.data++toBytes (sl.take (lead sl)),runs 33 0 (sl.drop (lead sl)),(e-(lead sl:Int)),false⟩:Recv)))=_
  rw[q_l18Copy]
  by_cases h3:3<(runs 33 0 (sl.drop (lead sl))).length
  ·rw[if_pos h3,decide_eq_true (show(3:Int)<((runs 33 0 (sl.drop (lead sl))).length:Int) by omega)]
   cases(e-(lead sl:Int)==0)<;>rfl
  ·rw[if_neg h3,decide_eq_false (show¬(3:Int)<((runs 33 0 (sl.drop (lead sl))).length:Int) by omega)]
   by_cases h4:e-(lead sl:Int)=0
   ·rw[if_pos h4,show(e-(lead sl:Int)==0)=true by simp[h4]]
    simp only[cond_true,cond_false]
    rw[show((x.next+(lead sl:Int))%4294967296+1)%4294967296=(x.next+(lead sl:Int)+1)%4294967296 by omega]
   ·rw[if_neg h4,show(e-(lead sl:Int)==0)=false by simp[h4]]
    simp only[cond_false,if_neg (show¬e= -1 by omega),hdn]
 ·have hfn:finN x sl e fin=x.fin:=if_neg hcc
  rw[hfn]
  simp only[hc,decide_eq_false hcc,cond_false]
  dsimp only[Tr.nice]
  simp only[PX,tail,tp,Stp.elim,Sum.elim_inl,letK_eq,s_Pieces_eq sl hr hl (lead sl) (by omega)]
  unfold arrN
  by_cases hF:0≤x.fin
  ·have hd:decide (0≤x.fin)=true:=decide_eq_true (by omega)
   simp only[hd,cond_true]
   rw[wrap64 (m:=x.fin-(lead sl:Int)) (by omega) (by omega)]
   change (bif ((x.fin-(lead sl:Int))==0)then(bif decide ((3:Int)<((runs 33 0 (sl.drop (lead sl))).length:Int))then s_l18Copy.f (x,())else(⟨((x.next+(lead sl:Int))%4294967296+1)%4294967296,x.data++toBytes (sl.take (lead sl)),runs 33 0 (sl.drop (lead sl)),-1,true⟩:Recv))else(bif decide ((3:Int)<((runs 33 0 (sl.drop (lead sl))).length:Int))then s_l18Copy.f (x,())else(⟨(x.next+(lead sl:Int))%4294967296,x.data++toBytes (sl.take (lead sl)),runs 33 0 (sl.drop (lead sl)),(x.fin-(lead sl:Int)),x.done⟩:Recv)))=_
   rw[q_l18Copy]
   by_cases h3:3<(runs 33 0 (sl.drop (lead sl))).length
   ·rw[if_pos h3,decide_eq_true (show(3:Int)<((runs 33 0 (sl.drop (lead sl))).length:Int) by omega)]
    cases(x.fin-(lead sl:Int)==0)<;>rfl
   ·rw[if_neg h3,decide_eq_false (show¬(3:Int)<((runs 33 0 (sl.drop (lead sl))).length:Int) by omega)]
    by_cases h4:x.fin-(lead sl:Int)=0
    ·rw[if_pos h4,show(x.fin-(lead sl:Int)==0)=true by simp[h4]]
     simp only[cond_true,cond_false]
     rw[show((x.next+(lead sl:Int))%4294967296+1)%4294967296=(x.next+(lead sl:Int)+1)%4294967296 by omega]
    ·rw[if_neg h4,show(x.fin-(lead sl:Int)==0)=false by simp[h4]]
     simp only[cond_false,if_neg (show¬x.fin= -1 by omega),hdn]
  ·have hF1:x.fin= -1:=by omega
   have hd:decide (0≤x.fin)=false:=decide_eq_false hF
   simp only[hd,cond_false]
   change (bif (x.fin==0)then(bif decide ((3:Int)<((runs 33 0 (sl.drop (lead sl))).length:Int))then s_l18Copy.f (x,())else(⟨((x.next+(lead sl:Int))%4294967296+1)%4294967296,x.data++toBytes (sl.take (lead sl)),runs 33 0 (sl.drop (lead sl)),-1,true⟩:Recv))else(bif decide ((3:Int)<((runs 33 0 (sl.drop (lead sl))).length:Int))then s_l18Copy.f (x,())else(⟨(x.next+(lead sl:Int))%4294967296,x.data++toBytes (sl.take (lead sl)),runs 33 0 (sl.drop (lead sl)),x.fin,x.done⟩:Recv)))=_
   rw[q_l18Copy]
   rw[show(x.fin==0)=false by simp[hF1]]
   by_cases h3:3<(runs 33 0 (sl.drop (lead sl))).length
   ·rw[if_pos h3,decide_eq_true (show(3:Int)<((runs 33 0 (sl.drop (lead sl))).length:Int) by omega)]
    rfl
   ·rw[if_neg h3,decide_eq_false (show¬(3:Int)<((runs 33 0 (sl.drop (lead sl))).length:Int) by omega)]
    rw[if_neg (show¬x.fin-(lead sl:Int)=0 by omega),if_pos hF1,hF1,hdn]
    rfl
theorem arrived_ok (x:Recv)(seq:Int)(t:Bytes)(fin:Bool)(hx:RV x):RV (arrived x seq t fin):=by
 unfold arrived
 by_cases hc:i_ReceiverOk.f (x,())=true∧x.done=false
 ·rw[if_pos hc]
  obtain⟨hl,hat⟩:=slots_ok x hx seq t
  have hw:=win_rng x hx.dl
  have hf0:=hx.f0
  have hf1:=hx.f1
  change (layT x seq t).length=33 at hl
  change ∀(k:Nat) (s:Int),(layT x seq t)[k]? =some s→_ at hat
  generalize layT x seq t=sl at hl hat
  have he0:0≤(seq+(t.length:Int)-x.next)%4294967296:=by omega
  generalize(seq+(t.length:Int)-x.next)%4294967296=e at he0
  unfold finN
  split
  ·rename_i h
   obtain⟨h1,h2,h3,h4⟩:=h
   refine arrN_ok x sl e hx hc.2 hl (by omega) h3 (fun k s hk hs=> ?_)
   rw[if_neg (show¬e= -1 by omega)]
   apply Int.not_le.1
   intro hke
   rw[List.all_eq_true]at h4
   have hm:s∈sl.drop e.toNat:=by
    refine List.mem_of_getElem? (i:=k-e.toNat) ?_
    rw[List.getElem?_drop,show e.toNat+(k-e.toNat)=k by omega];exact hk
   have:=h4 s hm
   simp only[decide_eq_true_eq]at this
   omega
  ·exact arrN_ok x sl x.fin hx hc.2 hl (by omega) hf1 (fun k s hk hs=>(hat k s hk).2.2 hs)
 ·rw[if_neg hc];exact hx
def sdN (a b:Int):Int:=if 2147483647<(a-b)%4294967296 then(a-b)%4294967296-4294967296 else(a-b)%4294967296
theorem s_SeqDiff_eq (a b:Int):s_SeqDiff.f (a,b,())=sdN a b:=by
 simp only[PX,s_SeqDiff,l4Rest_eq,letK_eq]
 rw[wrap64 (m:=a%4294967296-b%4294967296) (by omega) (by omega),show(a%4294967296-b%4294967296)%4294967296=(a-b)%4294967296 by omega]
 unfold sdN
 by_cases h:2147483647<(a-b)%4294967296
 ·rw[decide_eq_true h,if_pos h,wrap64 (by omega) (by omega)];rfl
 ·rw[decide_eq_false h,if_neg h];rfl
def flN (s:Sndr):Int:=if s.finSent=true then s.sent+1 else s.sent
theorem flying_N (s:Sndr)(h:SO s):i_flying.f (s,())=flN s:=by
 rw[flying_eq s h];rfl
def ackedN (s:Sndr)(n:Int):Sndr:=⟨(s.una+n)%4294967296,s.data.drop (if s.sent<n then s.sent else n).toNat,s.sent-(if s.sent<n then s.sent else n),s.fin,if s.sent<n then false else s.finSent,if s.sent<n then true else s.done⟩
def ackOk (s:Sndr)(ack:Int):Bool:=i_SenderOk.f (s,())&&(decide (0≤sdN ack s.una)&&decide (sdN ack s.una≤flN s))
theorem s_Acked_eq (s:Sndr)(ack:Int):s_Acked.f (s,ack,())=if ackOk s ack=true then(ackedN s (sdN ack s.una),true)else(s,false):=by
 simp only[PX,s_Acked,s_SeqDiff_eq,q_SenderOk,q_flying,s_l1In_eq,q_SeqAdd,iSeqAdd_eq]
 unfold ackOk
 cases hk:i_SenderOk.f (s,())with
 |false=>rfl
 |true=>
  have hs:=(SO_iff s).1 hk
  rw[flying_N s hs]
  have h1:=hs.2.2.2.1
  have h2:=hs.2.2.2.2.1
  have h3:=hs.2.2.1
  generalize sdN ack s.una=n
  simp only[Bool.not_true,cond_false,Bool.true_and]
  by_cases hn:0≤n∧n≤flN s
  ·rw[decide_eq_true hn.1,decide_eq_true hn.2]
   simp only[Bool.and_self,Bool.not_true,cond_false,if_true]
   unfold ackedN
   by_cases hc:s.sent<n
   ·simp only[decide_eq_true hc,if_pos hc,cond_true]
    simp only[PX,toNat_cast,List.take_length]
    rw[wrap64 (by omega) (by omega)]
   ·simp only[decide_eq_false hc,if_neg hc,cond_false]
    simp only[PX,toNat_cast,List.take_length]
    rw[wrap64 (by omega) (by omega)]
  ·have e:(decide (0≤n)&&decide (n≤flN s))=false:=by
    rw[Bool.and_eq_false_iff];simp only[decide_eq_false_iff_not];omega
   rw[e];rfl
theorem SO_acked (s:Sndr)(hs:SO s)(n:Int)(h0:0≤n)(h1:n≤flN s):SO (ackedN s n)∧(ackedN s n).fin=s.fin∧(s.done=true→(ackedN s n).done=true):=by
 obtain⟨e1,e2,e3,e4,e5,e6,e7⟩:=hs
 unfold flN at h1
 by_cases hc:s.sent<n
 ·have ea:ackedN s n=⟨(s.una+n)%4294967296,s.data.drop s.sent.toNat,s.sent-s.sent,s.fin,false,true⟩:=by unfold ackedN;simp only[if_pos hc]
  rw[ea]
  have hf:s.finSent=true:=by
   cases hfs:s.finSent with
   |true=>rfl
   |false=>rw[hfs]at h1;simp only[Bool.false_eq_true,if_false]at h1;omega
  have hl:=(e6 hf).2
  refine⟨⟨by show 0≤(s.una+n)%4294967296;omega,by show(s.una+n)%4294967296≤4294967295;omega, ?_, ?_, ?_,fun h=>(by cases h),fun _=>⟨(e6 hf).1,rfl, ?_⟩⟩,rfl,fun _=>rfl⟩
  ·show(s.data.drop s.sent.toNat).length≤48
   rw[List.length_drop];omega
  ·show 0≤s.sent-s.sent;omega
  ·show s.sent-s.sent≤((s.data.drop s.sent.toNat).length:Int)
   omega
  ·show s.data.drop s.sent.toNat=[]
   exact List.drop_of_length_le (by omega)
 ·have ea:ackedN s n=⟨(s.una+n)%4294967296,s.data.drop n.toNat,s.sent-n,s.fin,s.finSent,s.done⟩:=by unfold ackedN;simp only[if_neg hc]
  rw[ea]
  refine⟨⟨by show 0≤(s.una+n)%4294967296;omega,by show(s.una+n)%4294967296≤4294967295;omega, ?_, ?_, ?_, ?_, ?_⟩,rfl,fun h=>h⟩
  ·show(s.data.drop n.toNat).length≤48
   rw[List.length_drop];omega
  ·show 0≤s.sent-n;omega
  ·show s.sent-n≤((s.data.drop n.toNat).length:Int)
   rw[List.length_drop];omega
  ·intro h
   refine⟨(e6 h).1, ?_⟩
   have:=(e6 h).2
   show s.sent-n=((s.data.drop n.toNat).length:Int)
   rw[List.length_drop];omega
  ·intro h
   refine⟨(e7 h).1,(e7 h).2.1, ?_⟩
   show s.data.drop n.toNat=[]
   rw[(e7 h).2.2];simp
def l21N (k:Int)(sd rd:Bool):Int:=if k=1 then(if rd=true then 4 else 1)else if k=2 then(if sd=true then(if rd=true then 7 else 3)else if rd=true then 5 else 2)else if k=3 then(if rd=true then 7 else 3)else if k=5 then(if sd=true then 7 else 5)else if k=6 then(if sd=true then 8 else 6)else k
theorem s_l21_eq (x:Conn):s_l21State.f (x,())=l21N x.state x.s.done x.r.done:=by
 simp only[PX,s_l21State]
 unfold l21N
 by_cases h1:x.state=1
 ·rw[if_pos h1,h1];cases x.r.done<;>first|rfl|exact h1
 by_cases h2:x.state=2
 ·rw[if_neg h1,if_pos h2,h2];cases x.s.done<;>cases x.r.done<;>first|rfl|exact h2
 by_cases h3:x.state=3
 ·rw[if_neg h1,if_neg h2,if_pos h3,h3];cases x.r.done<;>first|rfl|exact h3
 by_cases h5:x.state=5
 ·rw[if_neg h1,if_neg h2,if_neg h3,if_pos h5,h5];cases x.s.done<;>first|rfl|exact h5
 by_cases h6:x.state=6
 ·rw[if_neg h1,if_neg h2,if_neg h3,if_neg h5,if_pos h6,h6];cases x.s.done<;>first|rfl|exact h6
 rw[if_neg h1,if_neg h2,if_neg h3,if_neg h5,if_neg h6]
 rw[show(x.state==1)=false by simp[h1],show(x.state==2)=false by simp[h2],show(x.state==3)=false by simp[h3],show(x.state==5)=false by simp[h5],show(x.state==6)=false by simp[h6]]
 rfl
def turnOk (x:Conn):Bool:=i_ConnOk.f ({x with state:=l21N x.state x.s.done x.r.done,timer:=0,tries:=0},())&&((decide (0≤x.timer)&&decide (x.timer≤4))&&(decide (0≤x.tries)&&decide (x.tries≤3)))
def turnedN (x:Conn):Conn:=
 if turnOk x=true then
  if l21N x.state x.s.done x.r.done=x.state then x
  else if l21N x.state x.s.done x.r.done=7 then{x with state:=7,timer:=4,tries:=0}
  else if l21N x.state x.s.done x.r.done=8 then{x with state:=8,timer:=0,tries:=0}
  else{x with state:=l21N x.state x.s.done x.r.done}
 else x
theorem s_Turned_eq (x:Conn)(hs:SmallP x.r.held):s_Turned.f (x,())=turnedN x:=by
 simp only[PX,s_Turned,q_l19Copy,s_l21_eq,s_l1In_eq]
 rw[q_ConnOk ({x with state:=l21N x.state x.s.done x.r.done,timer:=0,tries:=0}:Conn) hs]
 unfold turnedN turnOk
 generalize(decide (0≤x.timer)&&decide (x.timer≤4))=b1
 generalize(decide (0≤x.tries)&&decide (x.tries≤3))=b2
 generalize l21N x.state x.s.done x.r.done=k
 cases i_ConnOk.f (({x with state:=k,timer:=0,tries:=0}:Conn),())with
 |false=>rfl
 |true=>
 cases b1 with
 |false=>rfl
 |true=>
 cases b2 with
 |false=>rfl
 |true=>
 simp only[Bool.not_true,cond_false,Bool.and_self,if_true]
 by_cases h1:k=x.state
 ·subst h1
  simp only[if_true,beq_self_eq_true,cond_true]
 ·rw[if_neg h1,show(k==x.state)=false by simp[h1]]
  simp only[cond_false]
  by_cases h7:k=7
  ·subst h7;rfl
  ·rw[if_neg h7,show(k==7)=false by simp[h7]]
   simp only[cond_false]
   by_cases h8:k=8
   ·subst h8;rfl
   ·rw[if_neg h8,show(k==8)=false by simp[h8]];rfl
structure TR (x:Conn):Prop where
 tup:i_TupleOk.f (x.tuple,())=true
 snd:SO x.s
 rcv:i_ReceiverOk.f (x.r,())=true
 opt:i_OptionsOk.f (x.opts,())=true
 s1:1≤x.state
 s7:x.state≤7
 m0:0≤x.most
 m1:x.most≤1073725440
 w0:0≤x.window
 w1:x.window≤x.most
 t0:0≤x.timer
 t4:x.timer≤4
 t3:x.state≠7→x.timer≤3
 r0:0≤x.tries
 r3:x.tries≤3
 fl:kst (l21N x.state x.s.done x.r.done) x.s.fin x.s.done x.r.done=true
theorem l21_rng (k:Int)(sd rd:Bool)(h1:1≤k)(h7:k≤7):1≤l21N k sd rd∧l21N k sd rd≤8:=by
 unfold l21N;repeat' split
 all_goals omega
theorem TR.turned {x:Conn}(h:TR x):CO (turnedN x):=by
 have hk:=l21_rng x.state x.s.done x.r.done h.s1 h.s7
 have hfl:=h.fl
 have hs1:=h.s1
 have hs7:=h.s7
 have hr0:=h.r0
 have hr3:=h.r3
 have ht0:=h.t0
 have ht4:=h.t4
 have hco:CO ({x with state:=l21N x.state x.s.done x.r.done,timer:=0,tries:=0}:Conn):=⟨h.tup,h.snd,h.rcv,h.opt,hk.1,hk.2,h.m0,h.m1,h.w0,h.w1,Int.le_refl _,by show(0:Int)≤4;omega,fun _=>by show(0:Int)≤3;omega,Int.le_refl _,by show(0:Int)≤3;omega,hfl⟩
 have hok:turnOk x=true:=by
  unfold turnOk
  rw[(CO_iff _).2 hco,decide_eq_true ht0,decide_eq_true ht4,decide_eq_true hr0,decide_eq_true hr3];rfl
 unfold turnedN
 rw[if_pos hok]
 by_cases h1:l21N x.state x.s.done x.r.done=x.state
 ·rw[if_pos h1]
  rw[h1]at hfl
  exact⟨h.tup,h.snd,h.rcv,h.opt,hs1,by omega,h.m0,h.m1,h.w0,h.w1,ht0,ht4,h.t3,hr0,hr3,hfl⟩
 ·rw[if_neg h1]
  have hn7:x.state≠7:=by
   intro h7;apply h1;rw[h7];rfl
  have ht3:=h.t3 hn7
  by_cases h7:l21N x.state x.s.done x.r.done=7
  ·rw[if_pos h7]
   rw[h7]at hfl
   exact⟨h.tup,h.snd,h.rcv,h.opt,by show(1:Int)≤7;omega,by show(7:Int)≤8;omega,h.m0,h.m1,h.w0,h.w1,by show(0:Int)≤4;omega,Int.le_refl _,fun hh=>absurd rfl hh,Int.le_refl _,by show(0:Int)≤3;omega,hfl⟩
  ·rw[if_neg h7]
   by_cases h8:l21N x.state x.s.done x.r.done=8
   ·rw[if_pos h8]
    rw[h8]at hfl
    exact⟨h.tup,h.snd,h.rcv,h.opt,by show(1:Int)≤8;omega,Int.le_refl _,h.m0,h.m1,h.w0,h.w1,Int.le_refl _,by show(0:Int)≤4;omega,fun _=>by show(0:Int)≤3;omega,Int.le_refl _,by show(0:Int)≤3;omega,hfl⟩
   ·rw[if_neg h8]
    exact⟨h.tup,h.snd,h.rcv,h.opt,hk.1,hk.2,h.m0,h.m1,h.w0,h.w1,ht0,ht4,fun _=>ht3,hr0,hr3,hfl⟩
theorem turned_tuple (x:Conn):(turnedN x).tuple=x.tuple:=by
 unfold turnedN;repeat' split
 all_goals rfl
def sclN (w sc:Int):Int:=w*2 ^ (if sc<0 then 0 else sc).toNat
theorem sclN_rng (w sc:Int)(h0:0≤w)(h1:w≤65535)(h2:sc≤14):0≤sclN w sc∧sclN w sc≤1073725440:=by
 unfold sclN
 have hk:(if sc<0 then 0 else sc).toNat≤14:=by split<;>omega
 generalize(if sc<0 then 0 else sc).toNat=k at hk
 have:k=0∨k=1∨k=2∨k=3∨k=4∨k=5∨k=6∨k=7∨k=8∨k=9∨k=10∨k=11∨k=12∨k=13∨k=14:=by omega
 rcases this with rfl|rfl|rfl|rfl|rfl|rfl|rfl|rfl|rfl|rfl|rfl|rfl|rfl|rfl|rfl<;>simp only[Int.reducePow,Int.pow_zero]<;>omega
theorem OptionsOk_scale (o:Opti)(h:i_OptionsOk.f (o,())=true): -1≤o.scale∧o.scale≤14:=by
 simp only[PX,i_OptionsOk,i_within_eq]at h
 revert h
 cases hq:(decide (-1≤o.scale)&&decide (o.scale≤14))with
 |true=>
  intro _
  simpa [Bool.and_eq_true,decide_eq_true_eq]using hq
 |false=>
  cases i_WordOk.f (o.mss,16,())<;>cases o.stamp<;>cases(o.val != 0)<;>cases(o.echo != 0)<;>simp
def heard1 (c:Conn)(g:Segm):Conn:=
 if ackOk c.s g.ack=true then
  if((ackedN c.s (sdN g.ack c.s.una)).una≠c.s.una∨flN (ackedN c.s (sdN g.ack c.s.una))=0)∧c.state≠7 then
   ⟨c.tuple,c.state,ackedN c.s (sdN g.ack c.s.una),c.r,sclN g.window c.opts.scale,if c.most<sclN g.window c.opts.scale then sclN g.window c.opts.scale else c.most,c.opts,if 0<flN (ackedN c.s (sdN g.ack c.s.una))then 3 else 0,0⟩
  else⟨c.tuple,c.state,ackedN c.s (sdN g.ack c.s.una),c.r,sclN g.window c.opts.scale,if c.most<sclN g.window c.opts.scale then sclN g.window c.opts.scale else c.most,c.opts,c.timer,c.tries⟩
 else c
def heardN (c:Conn)(g:Segm):Conn:=
 if 1≤c.state∧c.state≤3 then turnedN {heard1 c g with r:=arrived c.r g.seq g.body (s_Has.f (g,1,()))}else turnedN (heard1 c g)
theorem kst_turn (k:Int)(h1:1≤k)(h7:k≤7)(sf sd rd sd' rd':Bool)(h:kst k sf sd rd=true)(hsd:sd=true→sd'=true)(hsf:sd'=true→sf=true)(hrd:rd'=rd∨(rd=false∧k≤3)):kst (l21N k sd' rd') sf sd' rd'=true:=by
 have hk:k=1∨k=2∨k=3∨k=4∨k=5∨k=6∨k=7:=by omega
 rcases hk with rfl|rfl|rfl|rfl|rfl|rfl|rfl<;>revert h hsd hsf hrd<;>revert sf sd rd sd' rd'<;>decide+kernel
theorem RV.small {x:Recv}(h:RV x):SmallP x.held:=by
 intro y hy
 have:=walkP_po x h y hy
 unfold po at this;omega
theorem wrapU32_def (m:Int):IntKind.u32.wrap m=m%4294967296:=by
 unfold IntKind.wrap
 simp[IntKind.signed,IntKind.bits]
theorem wrapI32_def (m:Int):IntKind.i32.wrap m=(m+2147483648)%4294967296-2147483648:=by
 unfold IntKind.wrap
 simp only[IntKind.signed,IntKind.bits]
 simp
 omega
theorem i_SeqDiff_eq (a b:Int):i_SeqDiff.f (a,b,())=sdN a b:=by
 simp only[PX,i_SeqDiff,wrapU32_def,wrapI32_def,wrap64_def]
 unfold sdN
 split<;>omega
theorem q_Has (g:Segm)(n:Int):s_Has.f (g,n,())=i_Has.f (g,n,()):=by simp only[PX,s_Has,i_Has]
theorem q_SegmentLen (g:Segm):s_SegmentLen.f (g,())=i_SegmentLen.f (g,()):=by simp only[PX,s_SegmentLen,i_SegmentLen,q_Has]
theorem i_ahead_eq (a b:Int):i_ahead.f (a,b,())=(a-b)%4294967296:=i_ahead_eqm a b
def inwN (x o n:Int):Bool:=decide (0<n)&&decide ((x-o)%4294967296<n)
theorem s_InWindow_eq (x o n:Int):s_InWindow.f (x,o,n,())=inwN x o n:=by
 simp only[PX,s_InWindow,l4Rest_eq]
 unfold inwN
 rw[wrap64 (by omega) (by omega),show(x%4294967296-o%4294967296)%4294967296=(x-o)%4294967296 by omega]
 cases decide (0<n)<;>rfl
theorem i_InWindow_eq (x o n:Int):i_InWindow.f (x,o,n,())=inwN x o n:=by
 simp only[PX,i_InWindow,i_ahead_eq]
 unfold inwN
 by_cases h:4294967295<n
 ·rw[decide_eq_true h,decide_eq_true (show 0<n by omega),decide_eq_true (show(x-o)%4294967296<n by omega)];rfl
 ·rw[decide_eq_false h]
  by_cases h1:0<n
  ·rw[decide_eq_true h1,decide_eq_true (show 1≤n by omega)];rfl
  ·rw[decide_eq_false h1,decide_eq_false (show¬1≤n by omega)];rfl
def ovN (x n o w:Int):Bool:=decide (0<n)&&(decide (0<w)&&(decide ((x-o)%4294967296<w)||decide ((o-x)%4294967296<n)))
theorem i_Overlaps_eq (x n o w:Int)(hn:n≤65536):i_Overlaps.f (x,n,o,w,())=ovN x n o w:=by
 simp only[PX,i_Overlaps,i_ahead_eq,i_InWindow_eq]
 rw[if_neg (show¬65536<n by omega)]
 unfold ovN inwN
 by_cases h1:0<n
 ·rw[decide_eq_true h1,decide_eq_false (show¬n<1 by omega)]
  by_cases h2:0<w
  ·rw[decide_eq_true h2,decide_eq_false (show¬w<1 by omega)]
   cases decide ((x-o)%4294967296<w)<;>rfl
  ·rw[decide_eq_false h2,decide_eq_true (show w<1 by omega)];rfl
 ·rw[decide_eq_false h1,decide_eq_true (show n<1 by omega)];rfl
theorem s_ov_loop (x o w:Int):∀(k j:Nat),j+k≤65536→(forN (fun j a=>(s_Overlaps_L0_T x o w j a).nice) 1 k (j:Int) ()= .next ()∧∀i:Nat,j≤i→i<j+k→inwN (x+(i:Int)) o w=false)∨(forN (fun j a=>(s_Overlaps_L0_T x o w j a).nice) 1 k (j:Int) ()= .out (.inl ())∧∃i:Nat,j≤i∧i<j+k∧inwN (x+(i:Int)) o w=true)
 |0,j,_=> .inl ⟨rfl,fun i h1 h2=>by omega⟩
 |k+1,j,h=>by
  have ih:=s_ov_loop x o w k (j+1) (by omega)
  have e:inwN ((x+(j:Int))%4294967296) o w=inwN (x+(j:Int)) o w:=by
   unfold inwN
   rw[show((x+(j:Int))%4294967296-o)%4294967296=(x+(j:Int)-o)%4294967296 by omega]
  simp only[forN,PX,s_Overlaps_L0_T,q_SeqAdd,iSeqAdd_eq,s_InWindow_eq,decide_eq_true (show(j:Int)<65536 by omega),cond_true,e]
  simp only[PX,s_Overlaps_L0_T,q_SeqAdd,iSeqAdd_eq,s_InWindow_eq]at ih
  cases hj:inwN (x+(j:Int)) o w with
  |true=>exact .inr ⟨rfl,j,Nat.le_refl _,by omega,hj⟩
  |false=>
   simp only[cond_false,Stp.elim]
   rw[show(j:Int)+1=((j+1:Nat):Int) by omega]
   rcases ih with⟨h1,h2⟩|⟨h1,i,h2,h3,h4⟩
   ·refine .inl ⟨h1,fun i h3 h4=> ?_⟩
    rcases Nat.eq_or_lt_of_le h3 with h5|h5
    ·rw[←h5];exact hj
    ·exact h2 i h5 (by omega)
   ·exact .inr ⟨h1,i,by omega,by omega,h4⟩
theorem s_Overlaps_eq (x n o w:Int)(hn:n≤65536)(hw:w≤2147483648):s_Overlaps.f (x,n,o,w,())=ovN x n o w:=by
 simp only[PX,s_Overlaps,s_Overlaps_L0_d]
 have key:=s_ov_loop x o w (Int.toNat (n-0)) 0 (by omega)
 rw[show((0:Nat):Int)=0 from rfl]at key
 unfold ovN
 rcases key with⟨h1,h2⟩|⟨h1,i,h2,h3,h4⟩
 ·rw[h1]
  simp only[Stp.elim,Sum.elim_inr,Sum.elim_inl]
  by_cases c1:0<n
  ·by_cases c2:0<w
   ·have a0:=h2 0 (Nat.le_refl _) (by omega)
    unfold inwN at a0
    rw[decide_eq_true c2,show x+((0:Nat):Int)=x by omega,Bool.true_and,decide_eq_false_iff_not]at a0
    have a1:¬(o-x)%4294967296<n:=by
     intro h
     have:=h2 ((o-x)%4294967296).toNat (by omega) (by omega)
     unfold inwN at this
     rw[decide_eq_true c2,Bool.true_and,decide_eq_false_iff_not]at this
     omega
    rw[decide_eq_true c1,decide_eq_true c2,decide_eq_false a0,decide_eq_false a1];rfl
   ·rw[decide_eq_false c2];cases decide (0<n)<;>rfl
  ·rw[decide_eq_false c1];rfl
 ·rw[h1]
  simp only[Stp.elim,Sum.elim_inr,Sum.elim_inl]
  unfold inwN at h4
  simp only[Bool.and_eq_true,decide_eq_true_eq]at h4
  have c1:0<n:=by omega
  rw[decide_eq_true c1,decide_eq_true h4.1]
  by_cases c3:(x-o)%4294967296<w
  ·rw[decide_eq_true c3];rfl
  ·rw[decide_eq_true (show(o-x)%4294967296<n by omega),Bool.or_true];rfl
def accN (c:Conn)(g:Segm):Bool:=bif i_SegmentLen.f (g,())==0 then sdN g.seq c.r.next==0||inwN g.seq c.r.next (win c.r)else ovN g.seq (i_SegmentLen.f (g,())) c.r.next (win c.r)
theorem SegmentLen_rng (g:Segm)(hb:g.body.length≤60000):0≤i_SegmentLen.f (g,())∧i_SegmentLen.f (g,())≤(g.body.length:Int)+2:=by
 simp only[PX,i_SegmentLen]
 rw[wrap64 (m:=(g.body.length:Int)+1) (by omega) (by omega),wrap64 (m:=(g.body.length:Int)+1+1) (by omega) (by omega)]
 cases i_Has.f (g,2,())<;>cases i_Has.f (g,1,())<;>simp only[cond_true,cond_false]<;>omega
theorem s_Acceptable_eq (c:Conn)(g:Segm)(hd:c.r.data.length≤32)(hb:g.body.length≤60000):s_Acceptable.f (c,g,())=accN c g:=by
 have h1:=SegmentLen_rng g hb
 have hw:=win_rng c.r hd
 simp only[PX,s_Acceptable,q_SegmentLen,q_WindowOf,WindowOf_eq c.r hd,s_SeqDiff_eq,s_InWindow_eq,s_Overlaps_eq _ _ _ _ (show i_SegmentLen.f (g,())≤65536 by omega) (show win c.r≤2147483648 by omega)]
 unfold accN
 cases(i_SegmentLen.f (g,())==0)with
 |false=>rfl
 |true=>cases(sdN g.seq c.r.next==0)<;>rfl
theorem i_Acceptable_eq (c:Conn)(g:Segm)(hd:c.r.data.length≤32)(hb:g.body.length≤60000):i_Acceptable.f (c,g,())=accN c g:=by
 have h1:=SegmentLen_rng g hb
 have hw:=win_rng c.r hd
 simp only[PX,i_Acceptable,WindowOf_eq c.r hd,i_SeqDiff_eq,i_InWindow_eq,i_Overlaps_eq _ _ _ _ (show i_SegmentLen.f (g,())≤65536 by omega)]
 unfold accN
 cases(i_SegmentLen.f (g,())==0)with
 |false=>rfl
 |true=>cases(sdN g.seq c.r.next==0)<;>rfl
def fitN (c:Conn)(a:Int):Bool:=decide (sdN a c.s.una≤flN c.s)&&(decide (0≤sdN a c.s.una)||decide (-c.most≤sdN a c.s.una))
theorem s_AckFits_eq (c:Conn)(a:Int)(hs:SO c.s)(h0:0≤c.most)(h1:c.most≤1073725440):s_AckFits.f (c,a,())=fitN c a:=by
 simp only[PX,s_AckFits,s_SeqDiff_eq,q_flying,flying_N c.s hs]
 unfold fitN
 rw[wrap64 (by omega) (by omega),decide_eq_false (show¬2147483648≤c.most by omega)]
 generalize sdN a c.s.una=d
 cases decide (d≤flN c.s)with
 |false=>rfl
 |true=>
  by_cases h2:0≤d
  ·rw[decide_eq_true h2];rfl
  ·rw[decide_eq_false h2]
   by_cases h3:0<c.most
   ·rw[decide_eq_true h3,show(0-c.most)= -c.most by omega];rfl
   ·rw[decide_eq_false h3,decide_eq_false (show¬-c.most≤d by omega)];rfl
theorem i_AckFits_eq (c:Conn)(a:Int)(hs:SO c.s)(h0:0≤c.most)(h1:c.most≤1073725440):i_AckFits.f (c,a,())=fitN c a:=by
 simp only[PX,i_AckFits,i_SeqDiff_eq,flying_N c.s hs,i_within_eq]
 unfold fitN
 rw[if_neg (show¬2147483648<c.most by omega),show(if 0<c.most then c.most else 0)=c.most by split<;>omega,wrap64 (by omega) (by omega),show(0-c.most)= -c.most by omega]
 generalize sdN a c.s.una=d
 by_cases h2:0≤d
 ·rw[decide_eq_true h2,decide_eq_true (show-c.most≤d by omega)];simp
 ·rw[decide_eq_false h2,Bool.and_comm];simp
def vdN (c:Conn)(g:Segm):Int:=
 bif i_ConnOk.f (c,())&&(!(c.state==8)&&i_SegmentOk.f (g,()))then
  bif i_Has.f (g,4,())then(bif g.seq==c.r.next then 2 else bif inwN g.seq c.r.next (win c.r)then 3 else 1)
  else bif i_Has.f (g,2,())then 3
  else bif !accN c g then 4
  else bif !i_Has.f (g,16,())then 1
  else bif !fitN c g.ack then 3 else 5
 else 1
theorem SegmentOk_body (g:Segm)(h:i_SegmentOk.f (g,())=true):g.body.length≤1420:=by
 simp only[PX,i_SegmentOk]at h
 revert h
 cases i_WordOk.f (g.from_,16,())<;>cases i_WordOk.f (g.to,16,())<;>cases i_WordOk.f (g.seq,32,())<;>cases i_WordOk.f (g.ack,32,())<;>cases i_WordOk.f (g.flags,6,())<;>cases i_WordOk.f (g.window,16,())<;>cases i_OptionsOk.f (g.opts,())<;>simp<;>omega
theorem s_Verdict_eq (c:Conn)(g:Segm)(hs:SmallP c.r.held):s_Verdict.f (c,g,())=vdN c g:=by
 simp only[PX,s_Verdict,q_ConnOk c hs,q_SegmentOk,q_Has]
 unfold vdN
 rcases Bool.eq_false_or_eq_true (i_ConnOk.f (c,()))with h1|h1
 case inr=>rw[h1];rfl
 rcases Bool.eq_false_or_eq_true (c.state==8)with h2|h2
 ·rw[h1,h2];rfl
 rcases Bool.eq_false_or_eq_true (i_SegmentOk.f (g,()))with h3|h3
 case inr=>rw[h1,h2,h3];rfl
 have hc:=(CO_iff c).1 h1
 have hr:=(RV_iff c.r hs).1 hc.rcv
 have hb:=SegmentOk_body g h3
 simp only[h1,h2,h3,q_WindowOf,WindowOf_eq c.r hr.dl,s_InWindow_eq,s_Acceptable_eq c g hr.dl (by omega),s_AckFits_eq c g.ack hc.snd hc.m0 hc.m1,Bool.not_true,Bool.not_false,cond_true,cond_false,Bool.and_self]
 cases i_Has.f (g,4,())with
 |false=>rfl
 |true=>cases(g.seq==c.r.next)<;>cases inwN g.seq c.r.next (win c.r)<;>rfl
theorem i_Verdict_eq (c:Conn)(g:Segm)(hs:SmallP c.r.held):i_Verdict.f (c,g,())=vdN c g:=by
 simp only[PX,i_Verdict]
 unfold vdN
 rcases Bool.eq_false_or_eq_true (i_ConnOk.f (c,()))with h1|h1
 case inr=>rw[h1];rfl
 rcases Bool.eq_false_or_eq_true (c.state==8)with h2|h2
 ·rw[h1,h2];rfl
 rcases Bool.eq_false_or_eq_true (i_SegmentOk.f (g,()))with h3|h3
 case inr=>rw[h1,h2,h3];rfl
 have hc:=(CO_iff c).1 h1
 have hr:=(RV_iff c.r hs).1 hc.rcv
 have hb:=SegmentOk_body g h3
 simp only[h1,h2,h3,WindowOf_eq c.r hr.dl,i_InWindow_eq,i_Acceptable_eq c g hr.dl (by omega),i_AckFits_eq c g.ack hc.snd hc.m0 hc.m1,Bool.not_true,Bool.not_false,cond_true,cond_false,Bool.and_self]
def havN (w:Nat)(sl:List Int):List Bool:=(sl.take w).map (fun s=>decide (0≤s))
def datN (w:Nat)(sl:List Int):List Int:=(sl.take w).map (fun s=>if s<0 then 0 else s)
def st1 (sl:List Int)(o b:Int):List Int:=if sl.getD o.toNat 0<0 then sl.set o.toNat b else sl
theorem havN_set (w:Nat)(sl:List Int)(o:Nat)(b:Int)(hb:0≤b):havN w (sl.set o b)=(havN w sl).set o true:=by
 unfold havN
 rw[List.take_set,List.map_set,decide_eq_true hb]
theorem datN_set (w:Nat)(sl:List Int)(o:Nat)(b:Int)(hb:0≤b):datN w (sl.set o b)=(datN w sl).set o b:=by
 unfold datN
 rw[List.take_set,List.map_set,if_neg (show¬b<0 by omega)]
theorem havN_getD (w:Nat)(sl:List Int)(o:Nat)(ho:o<w)(hl:w≤sl.length):(havN w sl).getD o false=decide (0≤sl.getD o 0):=by
 unfold havN
 simp[List.getD,List.getElem?_take,ho,show o<sl.length by omega]
theorem i_store_eq (w:Nat)(sl:List Int)(o b:Int)(h0:0≤o)(h1:o<(w:Int))(hl:w≤sl.length)(hb:0≤b):i_Arrived_1_o.f (o,b,havN w sl,datN w sl,())=(havN w (st1 sl o b),datN w (st1 sl o b)):=by
 simp only[PX,i_Arrived_1_o]
 rw[havN_getD w sl o.toNat (by omega) hl]
 unfold st1
 by_cases h:sl.getD o.toNat 0<0
 ·rw[decide_eq_false (by omega),if_pos h,havN_set _ _ _ _ hb,datN_set _ _ _ _ hb];rfl
 ·rw[decide_eq_true (by omega),if_neg h];rfl
theorem i_put (p:Piec)(w:Nat)(h1:1≤p.off)(h2:p.off+(p.text.length:Int)≤(w:Int))(hw:w≤33):∀(n k:Nat) (sl:List Int) (r:Recv),w≤sl.length→k+n=p.text.length→(∀(j:Nat) (s:Int),p.off.toNat+k≤j→sl[j]? =some s→s<0)→∃r2,forN (fun j a=>(i_Arrived_L0_0_T p j a).nice) 1 n (k:Int) (r,datN w sl,havN w sl)= .next (r2,datN w (putT sl (p.off.toNat+k) (p.text.drop k)),havN w (putT sl (p.off.toNat+k) (p.text.drop k)))
 |0,k,sl,r,hl,h,hf=>⟨r,by rw[List.drop_of_length_le (by omega)];rfl⟩
 |n+1,k,sl,r,hl,h,hf=>by
  have hk:k<p.text.length:=by omega
  have ho:p.off.toNat+k<sl.length:=by omega
  have hfree:=hf (p.off.toNat+k) sl[p.off.toNat+k] (Nat.le_refl _) (List.getElem?_eq_getElem ho)
  have hst:st1 sl (p.off+(k:Int)) (p.text[k].toNat:Int)=sl.set (p.off.toNat+k) (p.text[k].toNat:Int):=by
   unfold st1
   rw[show(p.off+(k:Int)).toNat=p.off.toNat+k by omega,getD_some (List.getElem?_eq_getElem ho),if_pos hfree]
  obtain⟨r2,e⟩:=i_put p w h1 h2 hw n (k+1) (sl.set (p.off.toNat+k) (p.text[k].toNat:Int)) ({r with held:=[]}:Recv) (by rw[List.length_set];exact hl) (by omega) (fun j s hj hs=>by
   rw[List.getElem?_set_ne (by omega)]at hs
   exact hf j s (by omega) hs)
  refine⟨r2, ?_⟩
  rw[List.drop_eq_getElem_cons hk]
  simp only[putT]
  simp only[forN,PX,i_Arrived_L0_0_T,toNat_cast,byteAt_at _ _ hk]
  rw[wrap64 (by omega) (by omega),i_store_eq w sl _ _ (by omega) (by omega) hl (by omega),hst]
  simp only[Stp.elim]
  rw[show(k:Int)+1=((k+1:Nat):Int) by omega]
  exact e
theorem putT_free:∀(t:Bytes) (sl:List Int) (o:Nat) (a:Int),((o:Int)+(t.length:Int)≤a)→(∀(j:Nat) (s:Int),a≤(j:Int)→sl[j]? =some s→s<0)→∀(j:Nat) (s:Int),a≤(j:Int)→(putT sl o t)[j]? =some s→s<0
 |[],_,_,_,_,h,j,s,hj,hs=>h j s hj hs
 |b::t,sl,o,a,ha,h,j,s,hj,hs=>by
  simp only[putT]at hs
  simp only[List.length_cons]at ha
  refine putT_free t (sl.set o (b.toNat:Int)) (o+1) a (by omega) (fun j s hj hs=> ?_) j s hj hs
  rw[List.getElem?_set_ne (by omega)]at hs
  exact h j s hj hs
theorem i_slots (v0:Int)(v1:Bytes)(v2:Bool)(v3:Int)(v4:List Piec)(v5:Int)(v7 v9:Recv)(w:Nat)(hw:w≤33):∀(held:List Piec) (j:Nat) (a b:Int) (L:Int) (sl:List Int) (r:Recv),walkP L a held=some b→0≤a→L≤(w:Int)→w≤sl.length→(∀(j:Nat) (s:Int),a≤(j:Int)→sl[j]? =some s→s<0)→(∀p∈held,p.text.length≤33)→∃r2,listN (W:=Empty) (fun _ p (x:Recv×List Int×List Bool)=>(i_Arrived_L0_T v0 v1 v2 v3 [p] v5 v7 v9 0 x).nice) j held (r,datN w sl,havN w sl)= .next (r2,datN w (held.foldl (fun sl p=>putT sl p.off.toNat p.text) sl),havN w (held.foldl (fun sl p=>putT sl p.off.toNat p.text) sl))
 |[],_,a,b,L,sl,r,_,_,_,_,_,_=>⟨r,rfl⟩
 |p::held,j,a,b,L,sl,r,hp,ha,hL,hl,hf,ht=>by
  simp only[walkP]at hp
  cases hc:((p.text==[])||decide (p.off≤a)||decide (L<p.off+(p.text.length:Int)))with
  |true=>rw[hc]at hp;cases hp
  |false=>
   rw[hc]at hp
   simp only[Bool.or_eq_false_iff,decide_eq_false_iff_not]at hc
   have hpl:=ht p (List.mem_cons_self ..)
   obtain⟨r1,e1⟩:=i_put p w (by omega) (by omega) hw p.text.length 0 sl ({r with held:=[]}:Recv) hl (by omega) (fun j s hj hs=>hf j s (by omega) hs)
   rw[List.drop_zero,Nat.add_zero]at e1
   obtain⟨r2,e2⟩:=i_slots v0 v1 v2 v3 v4 v5 v7 v9 w hw held (j+1) _ b L (putT sl p.off.toNat p.text) ({r1 with held:=[]}:Recv) hp (by omega) hL (by rw[putT_len];exact hl) (putT_free p.text sl p.off.toNat _ (by omega) (fun j s hj hs=>hf j s (by omega) hs)) (fun q hq=>ht q (List.mem_cons_of_mem _ hq))
   refine⟨r2, ?_⟩
   rw[listN]
   rw[show(i_Arrived_L0_T v0 v1 v2 v3 [p] v5 v7 v9 0 (r,datN w sl,havN w sl)).nice= .next (({r1 with held:=[]}:Recv),datN w (putT sl p.off.toNat p.text),havN w (putT sl p.off.toNat p.text)) by
    simp only[PX,i_Arrived_L0_T,i_Arrived_L0_0_d,show Int.toNat 0=0 from rfl,List.getD_cons_zero]
    rw[toNat_sub0]
    refine(congrArg (Stp.elim _ _) e1).trans ?_
    rfl]
   simp only[Stp.elim]
   exact e2
theorem i_lay (v0:Int)(v1:Bytes)(x:Recv)(w:Nat)(hw:w≤33)(hf: -1≤x.fin):∀(t:Bytes) (j:Nat) (sl:List Int) (r:Recv),w≤sl.length→(∀i,t[i]? =v1[j+i]?)→∃r2,forN (fun j a=>(i_Arrived_L1_T v0 v1 (w:Int) x j a).nice) 1 t.length (j:Int) (r,datN w sl,havN w sl)= .next (r2,datN w (layN x v0 (w:Int) sl j t),havN w (layN x v0 (w:Int) sl j t))
 |[],j,sl,r,hl,ht=>⟨r,rfl⟩
 |b::t,j,sl,r,hl,ht=>by
  have hb:v1[j]? =some b:=by have:=ht 0;simpa using this.symm
  have hbt:byteAt v1 j=(b.toNat:Int):=by simp[byteAt,List.getD,hb]
  have hll:(lay1 x v0 (w:Int) sl j b).length=sl.length:=by unfold lay1;split<;>simp
  obtain⟨r2,e⟩:=i_lay v0 v1 x w hw hf t (j+1) (lay1 x v0 (w:Int) sl j b) ({r with held:=[]}:Recv) (by rw[hll];exact hl) (fun i=>by have:=ht (i+1);simp only[List.getElem?_cons_succ]at this;rw[this];congr 1;omega)
  refine⟨r2, ?_⟩
  have eo:((v0+(j:Int))%4294967296-x.next)%4294967296=(v0+(j:Int)-x.next)%4294967296:=by omega
  have hst:(bif (bif decide ((v0+(j:Int)-x.next)%4294967296<(w:Int))then bif x.fin== -1 then(true,())else(decide ((v0+(j:Int)-x.next)%4294967296<x.fin),())else(false,())).1 then(.next (({r with held:=[]}:Recv),(i_Arrived_1_o.f ((v0+(j:Int)-x.next)%4294967296,(b.toNat:Int),havN w sl,datN w sl,())).2,(i_Arrived_1_o.f ((v0+(j:Int)-x.next)%4294967296,(b.toNat:Int),havN w sl,datN w sl,())).1):Stp (Recv×List Int×List Bool) Empty)else .next (({r with held:=[]}:Recv),datN w sl,havN w sl))= .next (({r with held:=[]}:Recv),datN w (lay1 x v0 (w:Int) sl j b),havN w (lay1 x v0 (w:Int) sl j b)):=by
   have h0:0≤(v0+(j:Int)-x.next)%4294967296:=by omega
   unfold lay1
   generalize(v0+(j:Int)-x.next)%4294967296=o at h0
   by_cases c1:o<(w:Int)
   ·rw[i_store_eq w sl o _ h0 c1 hl (by omega)]
    unfold st1
    rw[decide_eq_true c1]
    by_cases c2:x.fin= -1
    ·rw[show(x.fin== -1)=true by simp[c2]]
     by_cases c3:sl.getD o.toNat 0<0
     ·rw[if_pos c3,if_pos ⟨c1,.inl (by omega),c3⟩];rfl
     ·rw[if_neg c3,if_neg (fun h=>c3 h.2.2)];rfl
    ·rw[show(x.fin== -1)=false by simp[c2]]
     by_cases c4:o<x.fin
     ·rw[decide_eq_true c4]
      by_cases c3:sl.getD o.toNat 0<0
      ·rw[if_pos c3,if_pos ⟨c1,.inr c4,c3⟩];rfl
      ·rw[if_neg c3,if_neg (fun h=>c3 h.2.2)];rfl
     ·rw[decide_eq_false c4,if_neg (show¬(o<(w:Int)∧(x.fin<0∨o<x.fin)∧sl.getD o.toNat 0<0) from fun h=>h.2.1.elim (fun h=>by omega) c4)];rfl
   ·rw[decide_eq_false c1,if_neg (show¬(o<(w:Int)∧(x.fin<0∨o<x.fin)∧sl.getD o.toNat 0<0) from fun h=>c1 h.1)];rfl
  simp only[List.length_cons,forN,PX,i_Arrived_L1_T,iSeqAdd_eq,i_ahead_eq,eo,toNat_cast,hbt,layN]
  rw[hst]
  simp only[Stp.elim]
  rw[show(j:Int)+1=((j+1:Nat):Int) by omega]
  simp only[PX,i_Arrived_L1_T,iSeqAdd_eq,i_ahead_eq]at e
  exact e
theorem run_loop {f:Int→Recv→Stp Recv (Int×Recv)}{g:Recv→Recv}(w:Nat)(sl:List Int)(hl:w≤sl.length)(hf:∀(j:Nat) r,f (j:Int) r=bif (havN w sl).getD j false then .next (g r)else .out ((j:Int),g r))(i:Nat)(hi:i+lead (sl.drop i)≤w):∀(n j:Nat) (r:Recv),j+n=w→i≤j→j≤i+lead (sl.drop i)→∃r2,(i+lead (sl.drop i)<w∧forN f 1 n (j:Int) r= .out (((i+lead (sl.drop i):Nat):Int),r2))∨(i+lead (sl.drop i)=w∧forN f 1 n (j:Int) r= .next r2)
 |0,j,r,h,_,h2=>⟨r,.inr ⟨by omega,rfl⟩⟩
 |n+1,j,r,h,h1,h2=>by
  have hj:j<w:=by omega
  rcases Nat.eq_or_lt_of_le h2 with h3|h3
  ·refine⟨g r,.inl ⟨by omega, ?_⟩⟩
   have hjl:j<sl.length:=by omega
   have hneg:=lead_stop (sl.drop i) sl[j] (by rw[List.getElem?_drop,show i+lead (sl.drop i)=j by omega];exact List.getElem?_eq_getElem hjl)
   simp only[forN,hf]
   rw[havN_getD w sl j hj hl,getD_some (List.getElem?_eq_getElem hjl),decide_eq_false (by omega),←h3]
   rfl
  ·obtain⟨s,hs1,hs2⟩:=lead_nn (sl.drop i) (j-i) (by omega)
   rw[List.getElem?_drop,show i+(j-i)=j by omega]at hs1
   obtain⟨r2,h4⟩:=run_loop (g:=g) w sl hl hf i hi n (j+1) (g r) (by omega) (by omega) (by omega)
   refine⟨r2, ?_⟩
   have e:forN f 1 (n+1) (j:Int) r=forN f 1 n ((j+1:Nat):Int) (g r):=by
    simp only[forN,hf]
    rw[havN_getD w sl j hj hl,getD_some hs1,decide_eq_true hs2]
    simp only[cond_true,Stp.elim]
    rw[show(j:Int)+1=((j+1:Nat):Int) by omega]
   rw[e];exact h4
theorem runs_fuel:∀(k k':Nat) (i:Int) (r:List Int),r.length≤k→r.length≤k'→runs k i r=runs k' i r
 |0,k',_,r,h,_=>by
  have:r=[]:=List.eq_nil_of_length_eq_zero (by omega)
  subst this;cases k'<;>simp[runs]
 |k+1,0,_,r,_,h=>by
  have:r=[]:=List.eq_nil_of_length_eq_zero (by omega)
  subst this;simp[runs]
 |k+1,k'+1,i,[],_,_=>by simp[runs]
 |k+1,k'+1,i,s::r,h1,h2=>by
  simp only[List.length_cons]at h1 h2
  simp only[runs]
  have hd:(r.dropWhile (fun x=>decide (0≤x))).length≤r.length:=(List.dropWhile_sublist _).length_le
  rw[runs_fuel k k' (i+1) r (by omega) (by omega),runs_fuel k k' _ (r.dropWhile (fun x=>decide (0≤x))) (by omega) (by omega)]
theorem datN_seg (w:Nat)(sl:List Int)(i n:Nat)(h:i+n≤w)(hn:∀(j:Nat) (s:Int),i≤j→j<i+n→sl[j]? =some s→0≤s):((datN w sl).take (i+n)).drop i=(sl.drop i).take n:=by
 apply List.ext_getElem?
 intro k
 unfold datN
 rw[List.getElem?_drop,List.getElem?_take,List.getElem?_take,List.getElem?_drop,List.getElem?_map,List.getElem?_take]
 by_cases hk:k<n
 ·rw[if_pos (by omega),if_pos hk,if_pos (by omega)]
  cases hs:sl[i+k]? with
  |none=>rfl
  |some s=>
   have:=hn (i+k) s (by omega) (by omega) hs
   simp only[Option.map_some,if_neg (show¬s<0 by omega)]
 ·rw[if_neg (by omega),if_neg hk]
theorem take_while_len {p:Int→Bool}(r:List Int):r.take (r.takeWhile p).length=r.takeWhile p:=by
 have h:=List.takeWhile_append_dropWhile (p:=p) (l:=r)
 conv=>lhs;arg 2;rw[←h]
 rw[List.take_left'];rfl
theorem drop_while_len {p:Int→Bool}(r:List Int):r.drop (r.takeWhile p).length=r.dropWhile p:=by
 have h:=List.takeWhile_append_dropWhile (p:=p) (l:=r)
 conv=>lhs;arg 2;rw[←h]
 rw[List.drop_left'];rfl
theorem i_runs (v4:Recv)(w:Nat)(sl:List Int)(hw:w≤32)(hl:sl.length=33)(hneg:∀(j:Nat) (s:Int),w≤j→sl[j]? =some s→s<0)(n:Nat):∀(m i:Nat) (r o:Recv),i≤w→w-i<m→n≤i→∃r2,whileN (fun a=>(i_Arrived_L3_T (w:Int) (n:Int) v4 (havN w sl) (datN w sl) a).nice) m ((i:Int),r,o)=(r2,{o with held:=o.held++runs 33 ((i:Int)-(n:Int)) (sl.drop i)})
 |0,i,r,o,_,h,_=>by omega
 |m+1,i,r,o,hi,hm,hn=>by
  rcases Nat.eq_or_lt_of_le hi with h|h
  ·subst h
   refine⟨{r with held:=[]}, ?_⟩
   rw[runs_neg 33 _ (sl.drop i) (fun s hs=>by
    obtain⟨p,hp,rfl⟩:=List.getElem_of_mem hs
    rw[List.getElem_drop]
    exact hneg (i+p) _ (by omega) (List.getElem?_eq_getElem (by rw[List.length_drop]at hp;omega))),List.append_nil]
   simp only[whileN,PX,i_Arrived_L3_T,decide_eq_false (show¬((i:Int)<(i:Int)) by omega),cond_false,Stp.elim]
  ·have hil:i<sl.length:=by omega
   have hd:sl.drop i=sl[i]::sl.drop (i+1):=List.drop_eq_getElem_cons hil
   have hdl:(sl.drop (i+1)).length≤32:=by rw[List.length_drop];omega
   by_cases hs:sl[i]<0
   ·obtain⟨r2,e⟩:=i_runs v4 w sl hw hl hneg n m (i+1) ({r with held:=[]}:Recv) o (by omega) (by omega) (by omega)
    refine⟨r2, ?_⟩
    rw[hd,show runs 33 ((i:Int)-(n:Int)) (sl[i]::sl.drop (i+1))=runs 33 (((i+1:Nat):Int)-(n:Int)) (sl.drop (i+1)) by
     rw[←runs_fuel 32 33 _ (sl.drop (i+1)) hdl (by omega)]
     simp only[runs,if_pos hs]
     congr 1;omega]
    rw[←e]
    rw[whileN]
    rw[show(i_Arrived_L3_T (w:Int) (n:Int) v4 (havN w sl) (datN w sl) ((i:Int),r,o)).nice= .next (((i+1:Nat):Int),({r with held:=[]}:Recv),o) by
     simp only[PX,i_Arrived_L3_T,decide_eq_true (show((i:Int)<(w:Int)) by omega),cond_true,toNat_cast]
     rw[havN_getD w sl i h (by omega),getD_some (List.getElem?_eq_getElem hil),decide_eq_false (by omega),wrap64 (by omega) (by omega)]
     rfl]
    rfl
   ·have hlead:i+lead (sl.drop i)≤w:=by
     apply Nat.le_of_not_lt
     intro hc
     obtain⟨s,h1,h2⟩:=lead_nn (sl.drop i) (w-i) (by omega)
     rw[List.getElem?_drop,show i+(w-i)=w by omega]at h1
     have:=hneg w s (Nat.le_refl _) h1
     omega
    have hle:lead (sl.drop i)=1+((sl.drop (i+1)).takeWhile (fun x=>decide (0≤x))).length:=by
     unfold lead
     rw[hd,List.takeWhile_cons,decide_eq_true (show 0≤sl[i] by omega)]
     simp only[if_true,List.length_cons];omega
    obtain⟨r1,e1⟩:=run_loop (g:=fun r:Recv=>({r with held:=[]}:Recv)) (f:=fun j a=>(i_Arrived_L3_0_T (havN w sl) j a).nice) w sl (by omega) (fun j r=>by
     simp only[PX,i_Arrived_L3_0_T,toNat_cast]) i hlead (w-i) i ({r with held:=[]}:Recv) (by omega) (Nat.le_refl _) (by omega)
    have hseg:((datN w sl).take (i+lead (sl.drop i))).drop i=sl[i]::(sl.drop (i+1)).takeWhile (fun x=>decide (0≤x)):=by
     rw[datN_seg w sl i (lead (sl.drop i)) hlead (fun j s h1 h2 h3=>by
      obtain⟨s2,h4,h5⟩:=lead_nn (sl.drop i) (j-i) (by omega)
      rw[List.getElem?_drop,show i+(j-i)=j by omega,h3]at h4
      cases h4;exact h5)]
     have:lead (sl.drop i)=((sl.drop i).takeWhile (fun x=>decide (0≤x))).length:=rfl
     rw[this,take_while_len,hd,List.takeWhile_cons,decide_eq_true (show 0≤sl[i] by omega)]
     rfl
    have hdd:sl.drop (i+lead (sl.drop i))=(sl.drop (i+1)).dropWhile (fun x=>decide (0≤x)):=by
     rw[hle,←Nat.add_assoc,←List.drop_drop,drop_while_len]
    have hr:runs 33 ((i:Int)-(n:Int)) (sl.drop i)=⟨(i:Int)-(n:Int),toBytes (sl[i]::(sl.drop (i+1)).takeWhile (fun x=>decide (0≤x)))⟩::runs 33 (((i+lead (sl.drop i):Nat):Int)-(n:Int)) (sl.drop (i+lead (sl.drop i))):=by
     conv=>lhs;rw[hd]
     rw[hdd]
     have hdw:((sl.drop (i+1)).dropWhile (fun x=>decide (0≤x))).length≤32:=Nat.le_trans (List.dropWhile_sublist _).length_le hdl
     rw[←runs_fuel 32 33 _ _ hdw (by omega)]
     simp only[runs,if_neg hs]
     congr 2;omega
    rw[hr]
    have hstep:∃r3:Recv,(i_Arrived_L3_T (w:Int) (n:Int) v4 (havN w sl) (datN w sl) ((i:Int),r,o)).nice= .next (((i+lead (sl.drop i):Nat):Int),r3,({o with held:=o.held++[⟨(i:Int)-(n:Int),toBytes (sl[i]::(sl.drop (i+1)).takeWhile (fun x=>decide (0≤x)))⟩]}:Recv)):=by
     simp only[PX,i_Arrived_L3_T,decide_eq_true (show((i:Int)<(w:Int)) by omega),cond_true,toNat_cast,i_Arrived_L3_0_d]
     rw[havN_getD w sl i h (by omega),getD_some (List.getElem?_eq_getElem hil),decide_eq_true (show 0≤sl[i] by omega),wrap64 (m:=(i:Int)-(n:Int)) (by omega) (by omega)]
     simp only[Bool.not_true,cond_false]
     rw[show Int.toNat ((w:Int)-(i:Int))=w-i by omega]
     rcases e1 with⟨h1,h2⟩|⟨h1,h2⟩
     ·rw[h2]
      simp only[Stp.elim,Sum.elim_inl,toNat_cast,hseg]
      exact⟨_,rfl⟩
     ·rw[h2]
      rw[h1]at hseg
      simp only[Stp.elim,Sum.elim_inr,h1]
      rw[show(i:Int)+1*((w-i:Nat):Int)=(w:Int) by omega,toNat_cast,hseg]
      exact⟨_,rfl⟩
    obtain⟨r3,hst⟩:=hstep
    obtain⟨r2,e⟩:=i_runs v4 w sl hw hl hneg n m (i+lead (sl.drop i)) r3 ({o with held:=o.held++[⟨(i:Int)-(n:Int),toBytes (sl[i]::(sl.drop (i+1)).takeWhile (fun x=>decide (0≤x)))⟩]}:Recv) hlead (by omega) (by omega)
    refine⟨r2, ?_⟩
    rw[whileN,hst]
    simp only[Stp.elim]
    rw[e]
    simp only[List.append_assoc,List.singleton_append]
def arrTail (x:Recv)(w:Nat)(sl:List Int)(z o:Recv):Tr Recv:=
 .lp (i_Arrived_L3_d ((w:Int),(lead sl:Int),(lead sl:Int),({z with held:=[]}:Recv),x,havN w sl,({o with held:=[]}:Recv),datN w sl,())).lp fun p=>
  .ite (decide (3<(p.2.held.length:Int))) (.ret x)<| .ite (p.2.fin==0) (.val ((p.2.next+1)%4294967296) fun c=> .ret (⟨c,p.2.data,p.2.held,-1,true⟩:Recv))<| .ret p.2
theorem arrTail_nice (x:Recv)(w:Nat)(sl:List Int)(z o:Recv)(hw:w≤32)(hl:sl.length=33)(hneg:∀(j:Nat) (s:Int),w≤j→sl[j]? =some s→s<0)(hld:lead sl≤w):(arrTail x w sl z o).nice=if 3<(runs 33 0 (sl.drop (lead sl))).length then x else if o.fin=0 then(⟨(o.next+1)%4294967296,o.data,runs 33 0 (sl.drop (lead sl)),-1,true⟩:Recv)else⟨o.next,o.data,runs 33 0 (sl.drop (lead sl)),o.fin,o.done⟩:=by
 obtain⟨r5,e5⟩:=i_runs x w sl hw hl hneg (lead sl) (w-lead sl+1) (lead sl) ({z with held:=[]}:Recv) ({o with held:=[]}:Recv) hld (by omega) (Nat.le_refl _)
 rw[Int.sub_self]at e5
 simp only[arrTail,PX,i_Arrived_L3_d]
 rw[show Int.toNat ((w:Int)-(lead sl:Int))=w-lead sl by omega,e5]
 simp only[List.nil_append]
 by_cases h3:3<(runs 33 0 (sl.drop (lead sl))).length
 ·rw[if_pos h3,decide_eq_true (show(3:Int)<((runs 33 0 (sl.drop (lead sl))).length:Int) by omega)];rfl
 ·rw[if_neg h3,decide_eq_false (show¬(3:Int)<((runs 33 0 (sl.drop (lead sl))).length:Int) by omega)]
  by_cases h0:o.fin=0
  ·rw[if_pos h0,show(o.fin==0)=true by simp[h0]];rfl
  ·rw[if_neg h0,show(o.fin==0)=false by simp[h0]];rfl
theorem arrTail_fin (x:Recv)(w:Nat)(sl:List Int)(z:Recv)(F f:Int)(hw:w≤32)(hl:sl.length=33)(hneg:∀(j:Nat) (s:Int),w≤j→sl[j]? =some s→s<0)(hld:lead sl≤w)(hF: -1≤F)(hdn:x.done=false)(hn:0≤x.next)(hf:(F= -1∧f=F)∨(F≠-1∧f=F-(lead sl:Int))):(arrTail x w sl z (⟨(x.next+(lead sl:Int))%4294967296,x.data++toBytes (sl.take (lead sl)),x.held,f,false⟩:Recv)).nice=arrN x sl F:=by
 rw[arrTail_nice x w sl z _ hw hl hneg hld]
 unfold arrN
 by_cases h3:3<(runs 33 0 (sl.drop (lead sl))).length
 ·rw[if_pos h3,if_pos h3]
 ·rw[if_neg h3,if_neg h3]
  simp only[]
  rcases hf with⟨h1,h2⟩|⟨h1,h2⟩
  ·rw[if_neg (show¬f=0 by omega),if_neg (show¬F-(lead sl:Int)=0 by omega),if_pos h1,h2,h1,hdn]
  ·by_cases h4:F-(lead sl:Int)=0
   ·rw[if_pos (show f=0 by omega),if_pos h4,show((x.next+(lead sl:Int))%4294967296+1)%4294967296=(x.next+(lead sl:Int)+1)%4294967296 by omega]
   ·rw[if_neg (show¬f=0 by omega),if_neg h4,if_neg h1,h2,hdn]
theorem elim_same {α β:Type}{K:α→β}{r:β}{s:α⊕α}(P:α→Prop)(hs:Sum.elim P P s)(h:∀z,P z→K z=r):Sum.elim K K s=r:=by
 cases s with
 |inl a=>exact h a hs
 |inr a=>exact h a hs
theorem winW (x:Recv)(hx:RV x):∃w:Nat,win x=(w:Int)∧w≤32:=by
 have:=win_rng x hx.dl
 exact⟨(win x).toNat,by omega,by omega⟩
theorem Index_bool_eq (xs:List Bool)(t:Bool):g_Index_bool.f (xs,t,())=fidx (fun b=>t==b) xs:=by
 simp only[PX,g_Index_bool,g_Index_bool_L0_d]
 rw[forN_fidx (fun b=>t==b) xs (fun j x a h=>by
  simp only[PX,g_Index_bool_L0_T,toNat_cast,getD_some h])]
 unfold fidx
 cases xs.findIdx? (fun b=>t==b)<;>rfl
theorem Contains_bool_eq (xs:List Bool)(t:Bool):g_Contains_bool.f (xs,t,())=xs.any (fun b=>t==b):=by
 simp only[PX,g_Contains_bool,Index_bool_eq,fidx_nn]
theorem i_Arrived_eq (x:Recv)(seq:Int)(t:Bytes)(fin:Bool)(hs:SmallP x.held):i_Arrived.f (x,seq,t,fin,())=arrived x seq t fin:=by
 simp only[PX,i_Arrived,q_cloneReceiver]
 unfold arrived
 cases hok:i_ReceiverOk.f (x,())with
 |false=>rfl
 |true=>
 cases hdn:x.done with
 |true=>rfl
 |false=>
 have hx:=(RV_iff x hs).1 hok
 have hpo:smE po x.held:=walkP_po x hx
 obtain⟨w,hwe,hw⟩:=winW x hx
 have hsl:=slots_ok x hx seq t
 have hn0:=hx.n0
 have hn1:=hx.n1
 have hf0:=hx.f0
 have hf1:=hx.f1
 obtain⟨bb,hwk⟩:=hx.wk
 simp only[Bool.not_true,cond_false,WindowOf_eq x hx.dl,hwe,i_Arrived_L0_d,i_Arrived_L1_d,toNat_cast]
 have z1:List.replicate w (0:Int)=datN w (List.replicate 33 (-1)):=by
  unfold datN;rw[List.take_replicate,Nat.min_eq_left (by omega),List.map_replicate];rfl
 have z2:List.replicate w false=havN w (List.replicate 33 (-1)):=by
  unfold havN;rw[List.take_replicate,Nat.min_eq_left (by omega),List.map_replicate];rfl
 rw[z1,z2]
 obtain⟨r1,e1⟩:=i_slots seq t fin (w:Int) x.held (x.held.length:Int) x x w (by omega) x.held 0 0 bb _ (List.replicate 33 (-1)) (⟨0,[],[],0,false⟩:Recv) hwk (Int.le_refl _) (by split<;>omega) (by rw[List.length_replicate];omega) (fun j s _ h=>by
  have:=List.eq_of_mem_replicate (List.mem_of_getElem? h);omega) (fun p hp=>by have:=hpo p hp;unfold po at this;omega)
 rw[forN_list x.held _ (toNat_sub0 _) (F:=fun _ p (a:Recv×List Int×List Bool)=>(i_Arrived_L0_T seq t fin (w:Int) [p] (x.held.length:Int) x x 0 a).nice) (by
  intro j p a hp
  simp only[PX,i_Arrived_L0_T,i_Arrived_L0_0_d,toNat_cast,getD_some hp,show Int.toNat 0=0 from rfl,List.getD_cons_zero])]
 rw[e1]
 simp only[Stp.elim]
 have hsn:x.held.foldl (fun sl p=>putT sl p.off.toNat p.text) (List.replicate 33 (-1))=slotsN x.held:=rfl
 rw[hsn]
 obtain⟨r2,e2⟩:=i_lay seq t x w (by omega) hf0 t 0 (slotsN x.held) ({r1 with held:=[]}:Recv) (by unfold slotsN;rw[foldl_putT_len,List.length_replicate];omega) (fun i=>by rw[Nat.zero_add])
 rw[show((0:Nat):Int)=0 from rfl]at e2
 rw[toNat_sub0,e2]
 simp only[Stp.elim,iSeqAdd_eq,i_ahead_eq]
 have hL:layN x seq (w:Int) (slotsN x.held) 0 t=layT x seq t:=by unfold layT;rw[hwe]
 rw[hL]
 have hL2:layN x seq (win x) (slotsN x.held) 0 t=layT x seq t:=rfl
 rw[hL2]at hsl
 have ee:((seq+(t.length:Int))%4294967296-x.next)%4294967296=(seq+(t.length:Int)-x.next)%4294967296:=by omega
 rw[ee]
 have he0:0≤(seq+(t.length:Int)-x.next)%4294967296:=by omega
 generalize(seq+(t.length:Int)-x.next)%4294967296=e at he0
 generalize layT x seq t=sl at hsl
 clear e1 e2 hL hL2 hsn z1 z2 ee
 obtain⟨hl,hat⟩:=hsl
 have hneg:∀(j:Nat) (s:Int),w≤j→sl[j]? =some s→s<0:=fun j s hj h=>by
  apply Int.not_le.1
  intro h0
  have:=(hat j s h).2.2 h0
  rw[hwe]at this hf1
  split at this<;>omega
 have hany:(havN w sl).drop e.toNat=((sl.drop e.toNat).take (w-e.toNat)).map (fun s=>decide (0≤s)):=by
  unfold havN
  rw[←List.map_drop,List.drop_take]
 have hcont:e≤(w:Int)→g_Contains_bool.f (((havN w sl).take (havN w sl).length).drop e.toNat,true,())= !(sl.drop e.toNat).all (fun s=>decide (s<0)):=by
  intro hew
  rw[List.take_length,Contains_bool_eq,hany]
  rw[Bool.eq_iff_iff]
  simp only[List.any_eq_true,List.mem_map,Bool.not_eq_true',List.all_eq_false]
  constructor
  ·rintro⟨b,⟨s,hs1,rfl⟩,hb⟩
   refine⟨s,List.mem_of_mem_take hs1, ?_⟩
   simp at hb⊢;omega
  ·rintro⟨s,hs1,hs2⟩
   refine⟨true,⟨s, ?_, ?_⟩,rfl⟩
   ·obtain⟨k,hk,rfl⟩:=List.getElem_of_mem hs1
    rw[List.getElem_drop]at hs2⊢
    have hk2:e.toNat+k<w:=by
     apply Nat.lt_of_not_le
     intro hc
     have:=hneg (e.toNat+k) _ hc (List.getElem?_eq_getElem (by rw[List.length_drop]at hk;omega))
     simp at hs2;omega
    rw[List.mem_take_iff_getElem]
    refine⟨k,by rw[List.length_drop];omega, ?_⟩
    rw[List.getElem_drop]
   ·simp at hs2⊢;omega
 have hF0: -1≤finN x sl e fin:=by unfold finN;split<;>omega
 have hF1:finN x sl e fin≤(w:Int):=by unfold finN;rw[hwe]at hf1⊢;split<;>omega
 have hcond:(bif (bif fin then bif x.fin== -1 then bif decide (e≤(w:Int))then(!g_Contains_bool.f (((havN w sl).take (havN w sl).length).drop e.toNat,true,()),())else(false,())else(false,())else(false,())).1 then((w:Int),x,({r2 with held:=[]}:Recv),x,havN w sl,(⟨x.next,x.data,x.held,e,false⟩:Recv),datN w sl,())else((w:Int),x,({r2 with held:=[]}:Recv),x,havN w sl,x,datN w sl,()))=((w:Int),x,({r2 with held:=[]}:Recv),x,havN w sl,(⟨x.next,x.data,x.held,finN x sl e fin,x.done⟩:Recv),datN w sl,()):=by
  unfold finN
  cases fin with
  |false=>simp
  |true=>
   by_cases c1:x.fin= -1
   ·rw[show(x.fin== -1)=true by simp[c1]]
    by_cases c2:e≤(w:Int)
    ·rw[decide_eq_true c2,hcont c2,hwe]
     cases hall:(sl.drop e.toNat).all (fun s=>decide (s<0))with
     |true=>simp only[cond_true,Bool.not_true,Bool.not_false,true_and,if_pos (show x.fin<0∧e≤(w:Int)∧True from⟨by omega,c2,trivial⟩),hdn]
     |false=>simp
    ·rw[decide_eq_false c2,hwe,if_neg (fun h=>c2 h.2.2.1)];rfl
   ·rw[show(x.fin== -1)=false by simp[c1],if_neg (fun h=>by have:=h.2.1;omega)];rfl
 have hld0:lead sl≤w:=by
  apply Nat.le_of_not_lt
  intro hc
  obtain⟨s,h1,h2⟩:=lead_nn sl w hc
  have:=hneg w s (Nat.le_refl _) h1
  omega
 obtain⟨r3,e3⟩:=run_loop (g:=fun r:Recv=>({r with held:=[]}:Recv)) (f:=fun j a=>(i_Arrived_L2_T (havN w sl) j a).nice) w sl (by omega) (fun j r=>by
  simp only[PX,i_Arrived_L2_T,toNat_cast]) 0 (by rw[List.drop_zero,Nat.zero_add];exact hld0) w 0 ({r2 with held:=[]}:Recv) (by omega) (Nat.le_refl _) (Nat.zero_le _)
 rw[List.drop_zero,Nat.zero_add,show((0:Nat):Int)=0 from rfl]at e3
 have hdat:toBytes (((datN w sl).take (lead sl)).drop 0)=toBytes (sl.take (lead sl)):=by
  have:=datN_seg w sl 0 (lead sl) (by omega) (fun j s _ h2 h3=>by
   obtain⟨s2,h4,h5⟩:=lead_nn sl j (by omega)
   rw[h3]at h4;cases h4;exact h5)
  rw[Nat.zero_add]at this
  rw[this,List.drop_zero]
 generalize hF:finN x sl e fin=F at hF0 hF1 hcond⊢
 generalize(bif fin then bif x.fin== -1 then bif decide (e≤(w:Int))then(!g_Contains_bool.f (((havN w sl).take (havN w sl).length).drop e.toNat,true,()),())else(false,())else(false,())else(false,())).1=b at hcond⊢
 rw[if_pos (⟨trivial,trivial⟩:True∧True)]
 have hE:∀(z:Recv),(arrTail x w sl z (⟨(x.next+(lead sl:Int))%4294967296,x.data++toBytes (sl.take (lead sl)),x.held,if F= -1 then F else F-(lead sl:Int),false⟩:Recv)).nice=arrN x sl F:=fun z=>arrTail_fin x w sl z F _ hw hl hneg hld0 hF0 hdn hn0 (by
  by_cases hh:F= -1
  ·exact .inl ⟨hh,if_pos hh⟩
  ·exact .inr ⟨hh,if_neg hh⟩)
 have hwr:IntKind.wrap .i64 (F-(lead sl:Int))=F-(lead sl:Int):=wrap64 (by omega) (by omega)
 cases b with
 |true=>
  simp only[cond_true]at hcond⊢
  have hfin:e=F:=(by simpa using congrArg (fun p=>p.2.2.2.2.2.1.fin) hcond)
  clear hcond
  dsimp only[Tr.nice]
  simp only[PX,i_Arrived_L2_d,hfin]
  rw[show Int.toNat ((w:Int)-0)=w by omega]
  rcases e3 with⟨h1,h2⟩|⟨h1,h2⟩<;>refine(congrArg (Stp.elim _ _) h2).trans ?_ <;>simp only[Stp.elim]<;>refine elim_same (fun z:Int×Recv=>z.1=(lead sl:Int)) (by first|rfl|(show(0:Int)+1*((w:Nat):Int)=_;omega)) ?_ <;>rintro⟨z1,z2⟩ hz<;>simp only[]at hz<;>subst hz<;>simp only[letK_eq,toNat_cast,hdat,hwr]<;>by_cases hF2:F= -1
  all_goals (have hE2:=hE z2)
  all_goals (first|rw[if_pos hF2]at hE2|rw[if_neg hF2]at hE2)
  ·rw[show(F != -1)=false by simp[hF2]];exact hE2
  ·rw[show(F != -1)=true by simp[hF2]];exact hE2
  ·rw[show(F != -1)=false by simp[hF2]];exact hE2
  ·rw[show(F != -1)=true by simp[hF2]];exact hE2
 |false=>
  simp only[cond_false]at hcond⊢
  have hfin:x.fin=F:=(by simpa using congrArg (fun p=>p.2.2.2.2.2.1.fin) hcond)
  clear hcond
  dsimp only[Tr.nice]
  simp only[PX,i_Arrived_L2_d,hfin,hdn]
  rw[show Int.toNat ((w:Int)-0)=w by omega]
  rcases e3 with⟨h1,h2⟩|⟨h1,h2⟩<;>refine(congrArg (Stp.elim _ _) h2).trans ?_ <;>simp only[Stp.elim]<;>refine elim_same (fun z:Int×Recv=>z.1=(lead sl:Int)) (by first|rfl|(show(0:Int)+1*((w:Nat):Int)=_;omega)) ?_ <;>rintro⟨z1,z2⟩ hz<;>simp only[]at hz<;>subst hz<;>simp only[letK_eq,toNat_cast,hdat,hwr]<;>by_cases hF2:F= -1
  all_goals (have hE2:=hE z2)
  all_goals (first|rw[if_pos hF2]at hE2|rw[if_neg hF2]at hE2)
  ·rw[show(F != -1)=false by simp[hF2]];exact hE2
  ·rw[show(F != -1)=true by simp[hF2]];exact hE2
  ·rw[show(F != -1)=false by simp[hF2]];exact hE2
  ·rw[show(F != -1)=true by simp[hF2]];exact hE2
theorem i_Acked_eq (s:Sndr)(ack:Int):i_Acked.f (s,ack,())=if ackOk s ack=true then(ackedN s (sdN ack s.una),true)else(s,false):=by
 simp only[PX,i_Acked,i_SeqDiff_eq,i_within_eq,iSeqAdd_eq]
 unfold ackOk
 cases hk:i_SenderOk.f (s,())with
 |false=>rfl
 |true=>
  have hs:=(SO_iff s).1 hk
  simp only[flying_N s hs]
  obtain⟨e1,e2,e3,e4,e5,e6,e7⟩:=hs
  generalize sdN ack s.una=n
  simp only[Bool.not_true,cond_false,Bool.true_and]
  by_cases hn:0≤n∧n≤flN s
  ·rw[decide_eq_true hn.1,decide_eq_true hn.2]
   simp only[Bool.and_self,Bool.not_true,cond_false,if_true]
   have hfl:=hn.2
   unfold flN at hfl
   unfold ackedN
   by_cases hc:s.sent<n
   ·have hf:s.finSent=true:=by
     cases hfs:s.finSent with
     |true=>rfl
     |false=>rw[hfs]at hfl;simp only[Bool.false_eq_true,if_false]at hfl;omega
    have hl:=(e6 hf).2
    rw[hf]at hfl;simp only[if_true]at hfl
    have e:(if(s.data.length:Int)<n then(s.data.length:Int)else n)=s.sent:=by rw[if_pos (by omega)];omega
    simp only[if_pos hc,e]
    rw[wrap64 (m:=s.sent+1) (by omega) (by omega),show(n==s.sent+1)=true by simp;omega,wrap64 (by omega) (by omega)]
    simp only[PX,toNat_cast,List.take_length,cond_true]
   ·have e:(if(s.data.length:Int)<n then(s.data.length:Int)else n)=n:=by rw[if_neg (by omega)]
    simp only[if_neg hc,e]
    rw[wrap64 (m:=s.sent+1) (by omega) (by omega),show(n==s.sent+1)=false by simp;omega,wrap64 (by omega) (by omega)]
    simp only[PX,toNat_cast,List.take_length,cond_false]
  ·have e:(decide (0≤n)&&decide (n≤flN s))=false:=by
    rw[Bool.and_eq_false_iff];simp only[decide_eq_false_iff_not];omega
   rw[e];rfl
theorem scl_eq (w sc:Int)(h0:0≤w)(h1:w≤65535)(h2:sc≤14):IntKind.wrap .i64 (w*2 ^ (min (if sc<0 then 0 else sc).toNat 64))=sclN w sc∧sclN w sc≤1073725440:=by
 have hr:=sclN_rng w sc h0 h1 h2
 have hk:(if sc<0 then 0 else sc).toNat≤14:=by split<;>omega
 rw[Nat.min_eq_left (by omega)]
 unfold sclN at hr⊢
 exact⟨wrap64 (by omega) (by omega),hr.2⟩
theorem i_scaled_eq (w:Int)(o:Opti)(h0:0≤w)(h1:w≤65535)(h2:o.scale≤14):i_scaled.f (w,o,())=sclN w o.scale:=by
 obtain⟨e1,e2⟩:=scl_eq w o.scale h0 h1 h2
 simp only[PX,i_scaled,e1]
 rw[if_neg (by omega)]
theorem wrapU64_id (n:Int)(h0:0≤n)(h1:n≤100):IntKind.wrap .u64 n=n:=by rw[wrapU_def];omega
theorem ConnOk_tries (x:Conn):i_ConnOk.f (x,())=(i_ConnOk.f ({x with tries:=0},())&&(decide (0≤x.tries)&&decide (x.tries≤3))):=by
 rw[ConnOk_b,ConnOk_b]
 simp only[]
 generalize i_TupleOk.f (x.tuple,())=b1
 generalize i_SenderOk.f (x.s,())=b2
 generalize i_ReceiverOk.f (x.r,())=b3
 generalize i_OptionsOk.f (x.opts,())=b4
 generalize(decide (1≤x.state)&&decide (x.state≤8))=b5
 generalize(decide (0≤x.most)&&decide (x.most≤1073725440))=b6
 generalize(decide (0≤x.window)&&decide (x.window≤x.most))=b7
 generalize(decide (0≤x.timer)&&bif x.state==7 then decide (x.timer≤4)else decide (x.timer≤3))=b8
 generalize(decide (0≤x.tries)&&decide (x.tries≤3))=b9
 generalize kst x.state x.s.fin x.s.done x.r.done=b10
 have z:(decide ((0:Int)≤0)&&decide ((0:Int)≤3))=true:=rfl
 rw[z]
 cases b1<;>cases b2<;>cases b3<;>cases b4<;>cases b5<;>cases b6<;>cases b7<;>cases b8<;>simp[Bool.and_comm]
def turned1 (x:Conn)(k:Int):Conn:=bif (bif !i_ConnOk.f ({x with state:=k,timer:=0},())then(true,())else(!(decide (0≤x.timer)&&decide (x.timer≤4)),())).1 then x else bif k==7 then{x with state:=k,timer:=4,tries:=0}else bif k==8 then{x with state:=k,timer:=0,tries:=0}else{x with state:=k}
theorem turned1_eq (x:Conn)(hk:l21N x.state x.s.done x.r.done≠x.state):turned1 x (l21N x.state x.s.done x.r.done)=turnedN x:=by
 unfold turned1 turnedN turnOk
 rw[ConnOk_tries]
 simp only[]
 generalize l21N x.state x.s.done x.r.done=k at hk
 rw[if_neg hk]
 generalize(decide (0≤x.timer)&&decide (x.timer≤4))=b1
 generalize(decide (0≤x.tries)&&decide (x.tries≤3))=b2
 cases i_ConnOk.f (({x with state:=k,timer:=0,tries:=0}:Conn),())with
 |false=>rfl
 |true=>
 cases b1 with
 |false=>cases b2<;>rfl
 |true=>
 cases b2 with
 |false=>rfl
 |true=>
 simp only[Bool.not_true,cond_false,Bool.and_self,if_true]
 by_cases h7:k=7
 ·subst h7;rfl
 ·rw[if_neg h7,show(k==7)=false by simp[h7]]
  simp only[cond_false]
  by_cases h8:k=8
  ·subst h8;rfl
  ·rw[if_neg h8,show(k==8)=false by simp[h8]];rfl
theorem turnedN_same (x:Conn)(hk:l21N x.state x.s.done x.r.done=x.state):turnedN x=x:=by
 unfold turnedN
 split
 ·rfl
 ·rfl
theorem i_Turned_eq (x:Conn):i_Turned.f (x,())=turnedN x:=by
 simp only[PX,i_Turned,q_cloneConn,i_within_eq]
 have t1:=turned1_eq x
 have t2:=turnedN_same x
 have hst:x.state=1∨x.state=2∨x.state=3∨x.state=5∨x.state=6∨(x.state≠1∧x.state≠2∧x.state≠3∧x.state≠5∧x.state≠6):=by omega
 rcases hst with h|h|h|h|h|⟨h1,h2,h3,h5,h6⟩
 case inr.inr.inr.inr.inr=>
  have e:l21N x.state x.s.done x.r.done=x.state:=by
   unfold l21N;rw[if_neg h1,if_neg h2,if_neg h3,if_neg h5,if_neg h6]
  rw[t2 e,show(x.state==1)=false by simp[h1],show(x.state==2)=false by simp[h2],show(x.state==3)=false by simp[h3],show(x.state==5)=false by simp[h5],show(x.state==6)=false by simp[h6]]
  rfl
 all_goals (rw[h]at t1 t2⊢;cases hs:x.s.done<;>cases hr:x.r.done<;>rw[hs,hr]at t1 t2<;>first|exact(t2 rfl).symm|exact t1 (by decide))
structure V5 (c:Conn)(g:Segm):Prop where
 co:CO c
 s8:c.state≠8
 sg:i_SegmentOk.f (g,())=true
 n4:i_Has.f (g,4,())=false
 n2:i_Has.f (g,2,())=false
 fit:fitN c g.ack=true
theorem vd5 (c:Conn)(g:Segm)(h:vdN c g=5):V5 c g:=by
 unfold vdN at h
 cases h1:i_ConnOk.f (c,())with
 |false=>rw[h1]at h;simp at h
 |true=>
 cases h2:(c.state==8)with
 |true=>rw[h1,h2]at h;simp at h
 |false=>
 cases h3:i_SegmentOk.f (g,())with
 |false=>rw[h1,h2,h3]at h;simp at h
 |true=>
 rw[h1,h2,h3]at h
 simp only[Bool.not_false,Bool.and_self,cond_true]at h
 cases h4:i_Has.f (g,4,())with
 |true=>
  rw[h4]at h
  simp only[cond_true]at h
  exfalso;revert h
  cases(g.seq==c.r.next)<;>cases inwN g.seq c.r.next (win c.r)<;>simp
 |false=>
 rw[h4]at h
 simp only[cond_false]at h
 cases h5:i_Has.f (g,2,())with
 |true=>rw[h5]at h;simp at h
 |false=>
 rw[h5]at h
 simp only[cond_false]at h
 refine⟨(CO_iff c).1 h1,by simpa using h2,h3,h4,h5, ?_⟩
 revert h
 cases accN c g<;>cases i_Has.f (g,16,())<;>cases fitN c g.ack<;>simp
theorem SegmentOk_parts (g:Segm):i_SegmentOk.f (g,())=true↔((0≤g.from_∧g.from_≤65535)∧(0≤g.to∧g.to≤65535)∧(0≤g.seq∧g.seq≤4294967295)∧(0≤g.ack∧g.ack≤4294967295)∧(0≤g.flags∧g.flags≤63)∧(0≤g.window∧g.window≤65535)∧i_OptionsOk.f (g.opts,())=true∧g.body.length≤1420):=by
 simp only[PX,i_SegmentOk,i_WordOk_16,i_WordOk_32,i_WordOk_6]
 rw[show((g.body.length≤1420)↔decide (((g.body.length:Nat):Int)≤1420)=true) by simp;omega]
 simp only[←Bool.decide_and,Bool.cond_eq_ite,Bool.if_false_right,Bool.decide_eq_true,Bool.and_eq_true,decide_eq_true_eq]
 constructor
 ·rintro⟨a,b,w,s,k,f,o,bd⟩;exact⟨a,b,s,k,f,w,o,bd⟩
 ·rintro⟨a,b,s,k,f,w,o,bd⟩;exact⟨a,b,w,s,k,f,o,bd⟩
theorem l1Min_eq (a b:Int):s_l1Min.f (a,b,())=if a<b then a else b:=s_l1Min_eq a b
theorem l1Max_eq (a b:Int):s_l1Max.f (a,b,())=if b<a then a else b:=s_l1Max_eq a b
theorem s_scaled_eq (w sc:Int)(h0:0≤w)(h1:w≤65535)(h2:sc≤14):s_l1Min.f (1073725440,IntKind.wrap .i64 (w*2 ^ (min (IntKind.wrap .u64 (s_l1Max.f (0,sc,()))).toNat 64)),())=sclN w sc:=by
 obtain⟨e1,e2⟩:=scl_eq w sc h0 h1 h2
 rw[l1Max_eq,show(if sc<0 then(0:Int)else sc)=(if sc<0 then 0 else sc) from rfl,wrapU64_id _ (by split<;>omega) (by split<;>omega),e1,l1Min_eq,if_neg (by omega)]
theorem heard_cond (a b f k:Int):(bif a != b then(k != 7,())else bif f==0 then(k != 7,())else(false,())).1=decide ((a≠b∨f=0)∧k≠7):=by
 cases h1:(a != b)<;>cases h2:(f==0)<;>cases h3:(k != 7)<;>simp_all
theorem arr_small (x:Recv)(seq:Int)(t:Bytes)(fin:Bool)(hx:RV x):SmallP (arrived x seq t fin).held:=(arrived_ok x seq t fin hx).small
theorem s_Heard_eq (c:Conn)(g:Segm)(hs:SmallP c.r.held):s_Heard.f (c,g,())=if vdN c g=5 then heardN c g else c:=by
 simp only[PX,s_Heard,q_l19Copy,s_Verdict_eq c g hs]
 by_cases hv:vdN c g=5
 ·rw[if_pos hv,show(vdN c g != 5)=false by simp[hv]]
  have h:=vd5 c g hv
  have hr:=(RV_iff c.r hs).1 h.co.rcv
  have hb:=SegmentOk_body g h.sg
  have hw:=((SegmentOk_parts g).1 h.sg).2.2.2.2.2.1
  have hsc:=(OptionsOk_scale c.opts h.co.opt).2
  have hS:=s_scaled_eq g.window c.opts.scale hw.1 hw.2 hsc
  have tl:∀u:Conn,u.r=c.r→(bif s_l1In.f (c.state,1,3,())then s_Turned.f (({u with r:=s_Arrived.f (c.r,g.seq,g.body,s_Has.f (g,1,()),())}:Conn),())else s_Turned.f (u,()))=if 1≤c.state∧c.state≤3 then turnedN {u with r:=arrived c.r g.seq g.body (s_Has.f (g,1,()))}else turnedN u:=by
   intro u hu
   rw[s_Arrived_eq c.r _ _ _ hs (by omega),s_Turned_eq u (by rw[hu];exact hs),s_Turned_eq _ (arr_small c.r _ _ _ hr),s_l1In_eq]
   by_cases h3:1≤c.state∧c.state≤3
   ·rw[if_pos h3,decide_eq_true h3.1,decide_eq_true h3.2];rfl
   ·rw[if_neg h3,show(decide (1≤c.state)&&decide (c.state≤3))=false by rw[Bool.and_eq_false_iff];simp only[decide_eq_false_iff_not];omega];rfl
  simp only[s_Acked_eq,cond_false]
  unfold heardN heard1
  by_cases ha:ackOk c.s g.ack=true
  ·have hso:=SO_acked c.s h.co.snd (sdN g.ack c.s.una) (by
    unfold ackOk at ha;simp only[Bool.and_eq_true,decide_eq_true_eq]at ha;exact ha.2.1) (by
    unfold ackOk at ha;simp only[Bool.and_eq_true,decide_eq_true_eq]at ha;exact ha.2.2)
   have hM:s_l1Max.f (c.most,sclN g.window c.opts.scale,())=if c.most<sclN g.window c.opts.scale then sclN g.window c.opts.scale else c.most:=by
    rw[l1Max_eq];split<;>split<;>omega
   simp only[if_pos ha,cond_true,q_flying,flying_N _ hso.1,hS,hM]
   have hcnd:(bif (ackedN c.s (sdN g.ack c.s.una)).una != c.s.una then(c.state != 7,())else bif flN (ackedN c.s (sdN g.ack c.s.una))==0 then(c.state != 7,())else(false,())).1=decide (((ackedN c.s (sdN g.ack c.s.una)).una≠c.s.una∨flN (ackedN c.s (sdN g.ack c.s.una))=0)∧c.state≠7):=heard_cond _ _ _ _
   rw[hcnd]
   have tl2:=fun(t r:Int)=>tl ({c with s:=ackedN c.s (sdN g.ack c.s.una),window:=sclN g.window c.opts.scale,most:=(if c.most<sclN g.window c.opts.scale then sclN g.window c.opts.scale else c.most),timer:=t,tries:=r}:Conn) rfl
   by_cases hq:((ackedN c.s (sdN g.ack c.s.una)).una≠c.s.una∨flN (ackedN c.s (sdN g.ack c.s.una))=0)∧c.state≠7
   ·simp only[decide_eq_true hq,if_pos hq,cond_true]
    by_cases h0:0<flN (ackedN c.s (sdN g.ack c.s.una))
    ·simp only[decide_eq_true h0,if_pos h0,cond_true]
     dsimp only[Tr.nice]
     exact tl2 3 0
    ·simp only[decide_eq_false h0,if_neg h0,cond_false]
     dsimp only[Tr.nice]
     exact tl2 0 0
   ·simp only[decide_eq_false hq,if_neg hq,cond_false]
    dsimp only[Tr.nice]
    exact tl2 c.timer c.tries
  ·simp only[if_neg ha,cond_false]
   dsimp only[Tr.nice]
   exact tl c rfl
 ·rw[if_neg hv,show(vdN c g != 5)=true by simp[hv]];rfl
theorem i_Heard_eq (c:Conn)(g:Segm)(hs:SmallP c.r.held):i_Heard.f (c,g,())=if vdN c g=5 then heardN c g else c:=by
 simp only[PX,i_Heard,q_cloneConn,i_Verdict_eq c g hs]
 by_cases hv:vdN c g=5
 ·rw[if_pos hv,show(vdN c g != 5)=false by simp[hv]]
  have h:=vd5 c g hv
  have hr:=(RV_iff c.r hs).1 h.co.rcv
  have hw:=((SegmentOk_parts g).1 h.sg).2.2.2.2.2.1
  have hsc:=(OptionsOk_scale c.opts h.co.opt).2
  have tl:∀u:Conn,u.r=c.r→(bif (bif c.state==1 then(true,())else bif c.state==2 then(true,())else(c.state==3,())).1 then i_Turned.f (({u with r:=i_Arrived.f (c.r,g.seq,g.body,i_Has.f (g,1,()),())}:Conn),())else i_Turned.f (u,()))=if 1≤c.state∧c.state≤3 then turnedN {u with r:=arrived c.r g.seq g.body (s_Has.f (g,1,()))}else turnedN u:=by
   intro u hu
   rw[i_Arrived_eq c.r _ _ _ hs,i_Turned_eq u,i_Turned_eq,q_Has]
   have hk:(bif c.state==1 then(true,())else bif c.state==2 then(true,())else(c.state==3,())).1=decide (1≤c.state∧c.state≤3):=by
    by_cases k1:c.state=1
    ·simp[k1]
    ·by_cases k2:c.state=2
     ·simp[k2]
     ·by_cases k3:c.state=3
      ·simp[k3]
      ·rw[show(c.state==1)=false by simp[k1],show(c.state==2)=false by simp[k2],show(c.state==3)=false by simp[k3],decide_eq_false (by omega)];rfl
   rw[hk]
   by_cases h3:1≤c.state∧c.state≤3
   ·rw[if_pos h3,decide_eq_true h3];rfl
   ·rw[if_neg h3,decide_eq_false h3];rfl
  simp only[i_Acked_eq,cond_false]
  unfold heardN heard1
  by_cases ha:ackOk c.s g.ack=true
  ·have hso:=SO_acked c.s h.co.snd (sdN g.ack c.s.una) (by
    unfold ackOk at ha;simp only[Bool.and_eq_true,decide_eq_true_eq]at ha;exact ha.2.1) (by
    unfold ackOk at ha;simp only[Bool.and_eq_true,decide_eq_true_eq]at ha;exact ha.2.2)
   simp only[if_pos ha,cond_true,flying_N _ hso.1,i_scaled_eq _ _ hw.1 hw.2 hsc]
   have hcnd:(bif (ackedN c.s (sdN g.ack c.s.una)).una != c.s.una then(c.state != 7,())else bif flN (ackedN c.s (sdN g.ack c.s.una))==0 then(c.state != 7,())else(false,())).1=decide (((ackedN c.s (sdN g.ack c.s.una)).una≠c.s.una∨flN (ackedN c.s (sdN g.ack c.s.una))=0)∧c.state≠7):=heard_cond _ _ _ _
   rw[hcnd]
   have tl2:=fun(t r:Int)=>tl ({c with s:=ackedN c.s (sdN g.ack c.s.una),window:=sclN g.window c.opts.scale,most:=(if c.most<sclN g.window c.opts.scale then sclN g.window c.opts.scale else c.most),timer:=t,tries:=r}:Conn) rfl
   by_cases hq:((ackedN c.s (sdN g.ack c.s.una)).una≠c.s.una∨flN (ackedN c.s (sdN g.ack c.s.una))=0)∧c.state≠7
   ·simp only[decide_eq_true hq,if_pos hq,cond_true]
    by_cases h0:0<flN (ackedN c.s (sdN g.ack c.s.una))
    ·simp only[decide_eq_true h0,if_pos h0,cond_true]
     dsimp only[Tr.nice]
     exact tl2 3 0
    ·simp only[decide_eq_false h0,if_neg h0,cond_false]
     dsimp only[Tr.nice]
     exact tl2 0 0
   ·simp only[decide_eq_false hq,if_neg hq,cond_false]
    dsimp only[Tr.nice]
    exact tl2 c.timer c.tries
  ·simp only[if_neg ha,cond_false]
   dsimp only[Tr.nice]
   exact tl c rfl
 ·rw[if_neg hv,show(vdN c g != 5)=true by simp[hv]];rfl
structure H1 (c u:Conn):Prop where
 tup:u.tuple=c.tuple
 st:u.state=c.state
 op:u.opts=c.opts
 rr:u.r=c.r
 so:SO u.s
 fin:u.s.fin=c.s.fin
 dn:c.s.done=true→u.s.done=true
 m0:0≤u.most
 m1:u.most≤1073725440
 w0:0≤u.window
 w1:u.window≤u.most
 t0:0≤u.timer
 t4:u.timer≤4
 t3:c.state≠7→u.timer≤3
 r0:0≤u.tries
 r3:u.tries≤3
theorem heard1_H (c:Conn)(g:Segm)(h:V5 c g):H1 c (heard1 c g):=by
 have hc:=h.co
 have hw:=((SegmentOk_parts g).1 h.sg).2.2.2.2.2.1
 have hsc:=(OptionsOk_scale c.opts hc.opt).2
 have hr:=sclN_rng g.window c.opts.scale hw.1 hw.2 hsc
 have a1:=hc.m0
 have a2:=hc.m1
 have a3:=hc.w0
 have a4:=hc.w1
 have a5:=hc.t0
 have a6:=hc.t4
 have a7:=hc.r0
 have a8:=hc.r3
 unfold heard1
 split
 ·rename_i ha
  have hso:=SO_acked c.s hc.snd (sdN g.ack c.s.una) (by
    unfold ackOk at ha;simp only[Bool.and_eq_true,decide_eq_true_eq]at ha;exact ha.2.1) (by
    unfold ackOk at ha;simp only[Bool.and_eq_true,decide_eq_true_eq]at ha;exact ha.2.2)
  split
  ·refine⟨rfl,rfl,rfl,rfl,hso.1,hso.2.1,hso.2.2, ?_, ?_,hr.1, ?_, ?_, ?_,fun _=> ?_,Int.le_refl _,by show(0:Int)≤3;omega⟩
   ·show 0≤(if c.most<sclN g.window c.opts.scale then sclN g.window c.opts.scale else c.most);split<;>omega
   ·show(if c.most<sclN g.window c.opts.scale then sclN g.window c.opts.scale else c.most)≤1073725440;split<;>omega
   ·show sclN g.window c.opts.scale≤(if c.most<sclN g.window c.opts.scale then sclN g.window c.opts.scale else c.most);split<;>omega
   ·show 0≤(if 0<flN (ackedN c.s (sdN g.ack c.s.una))then(3:Int)else 0);split<;>omega
   ·show(if 0<flN (ackedN c.s (sdN g.ack c.s.una))then(3:Int)else 0)≤4;split<;>omega
   ·show(if 0<flN (ackedN c.s (sdN g.ack c.s.una))then(3:Int)else 0)≤3;split<;>omega
  ·refine⟨rfl,rfl,rfl,rfl,hso.1,hso.2.1,hso.2.2, ?_, ?_,hr.1, ?_,a5,a6,hc.t3,a7,a8⟩
   ·show 0≤(if c.most<sclN g.window c.opts.scale then sclN g.window c.opts.scale else c.most);split<;>omega
   ·show(if c.most<sclN g.window c.opts.scale then sclN g.window c.opts.scale else c.most)≤1073725440;split<;>omega
   ·show sclN g.window c.opts.scale≤(if c.most<sclN g.window c.opts.scale then sclN g.window c.opts.scale else c.most);split<;>omega
 ·exact⟨rfl,rfl,rfl,rfl,hc.snd,rfl,fun h=>h,a1,a2,a3,a4,a5,a6,hc.t3,a7,a8⟩
theorem SO_done_fin {s:Sndr}(h:SO s)(hd:s.done=true):s.fin=true:=(h.2.2.2.2.2.2 hd).1
theorem H1_turn {c u:Conn}(hc:CO c)(h8:c.state≠8)(h:H1 c u)(rv:Recv)(hrv:RV rv)(hd:rv.done=c.r.done∨(c.r.done=false∧c.state≤3)):TR ({u with r:=rv}:Conn):=by
 have s1:=hc.s1
 have s8:=hc.s8
 refine⟨by show i_TupleOk.f (u.tuple,())=true;rw[h.tup];exact hc.tup,h.so,(RV_iff rv hrv.small).2 hrv,by show i_OptionsOk.f (u.opts,())=true;rw[h.op];exact hc.opt,by show 1≤u.state;rw[h.st];exact s1,by show u.state≤7;rw[h.st];omega,h.m0,h.m1,h.w0,h.w1,h.t0,h.t4,fun hn=>h.t3 (by rw[←h.st];exact hn),h.r0,h.r3, ?_⟩
 show kst (l21N u.state u.s.done rv.done) u.s.fin u.s.done rv.done=true
 rw[h.st,h.fin]
 exact kst_turn c.state s1 (by omega) c.s.fin c.s.done c.r.done u.s.done rv.done hc.fl h.dn (fun hh=>by rw[←h.fin];exact SO_done_fin h.so hh) hd
theorem kst_rd (k:Int)(sf sd rd:Bool)(h:kst k sf sd rd=true)(h1:1≤k)(h3:k≤3):rd=false:=by
 have hk:k=1∨k=2∨k=3:=by omega
 rcases hk with rfl|rfl|rfl<;>revert h<;>revert sf sd rd<;>decide+kernel
theorem turned_s (x:Conn):(turnedN x).s=x.s:=by
 unfold turnedN;repeat' split
 all_goals rfl
theorem turned_r (x:Conn):(turnedN x).r=x.r:=by
 unfold turnedN;repeat' split
 all_goals rfl
theorem turned_8 (x:Conn)(h:(turnedN x).state=8)(h8:x.state≠8):x.state=6∧x.s.done=true:=by
 have hl:l21N x.state x.s.done x.r.done=8:=by
  unfold turnedN at h
  split at h
  ·split at h
   ·exact absurd h h8
   ·split at h
    ·simp at h
    ·split at h
     ·assumption
     ·exact h
  ·exact absurd h h8
 unfold l21N at hl
 repeat' split at hl
 all_goals first|omega|(rename_i h6 hd;exact⟨by assumption,by assumption⟩)
theorem heard_ok (c:Conn)(g:Segm)(hs:SmallP c.r.held)(hv:vdN c g=5):CO (heardN c g)∧(heardN c g).tuple=c.tuple∧((heardN c g).state=8→c.state=6∧(heardN c g).s.done=true)∧SmallP (heardN c g).r.held:=by
 have h:=vd5 c g hv
 have hH:=heard1_H c g h
 have hr:=(RV_iff c.r hs).1 h.co.rcv
 unfold heardN
 by_cases h3:1≤c.state∧c.state≤3
 ·rw[if_pos h3]
  have hT:=H1_turn h.co h.s8 hH (arrived c.r g.seq g.body (s_Has.f (g,1,()))) (arrived_ok _ _ _ _ hr) (.inr ⟨kst_rd _ _ _ _ h.co.fl h3.1 h3.2,h3.2⟩)
  refine⟨hT.turned,by rw[turned_tuple];exact hH.tup,fun h8=> ?_, ?_⟩
  ·have:=turned_8 _ h8 (by show(heard1 c g).state≠8;rw[hH.st];exact h.s8)
   rw[turned_s]
   exact⟨by rw[←hH.st];exact this.1,this.2⟩
  ·rw[turned_r];exact arr_small _ _ _ _ hr
 ·rw[if_neg h3]
  have hT:=H1_turn h.co h.s8 hH c.r hr (.inl rfl)
  have e:({heard1 c g with r:=c.r}:Conn)=heard1 c g:=by rw[←hH.rr]
  rw[e]at hT
  refine⟨hT.turned,by rw[turned_tuple];exact hH.tup,fun h8=> ?_, ?_⟩
  ·have:=turned_8 _ h8 (by rw[hH.st];exact h.s8)
   rw[turned_s]
   exact⟨by rw[←hH.st];exact this.1,this.2⟩
  ·rw[turned_r,hH.rr];exact hs
theorem vd_rng (c:Conn)(g:Segm):vdN c g=1∨vdN c g=2∨vdN c g=3∨vdN c g=4∨vdN c g=5:=by
 unfold vdN
 cases(i_ConnOk.f (c,())&&(!(c.state==8)&&i_SegmentOk.f (g,())))with
 |false=>exact .inl rfl
 |true=>
  cases i_Has.f (g,4,())<;>cases(g.seq==c.r.next)<;>cases inwN g.seq c.r.next (win c.r)<;>cases i_Has.f (g,2,())<;>cases accN c g<;>cases i_Has.f (g,16,())<;>cases fitN c g.ack<;>simp
def recvN (c:Conn)(g:Segm):Conn×List Segm×Int:=
 if vdN c g=2 then({c with state:=8,timer:=0,tries:=0},[],2)
 else if vdN c g=3 then(c,[i_AckOf.f (c,())],3)
 else if vdN c g=4 then(if c.state=7∧i_Has.f (g,1,())=true then{c with timer:=4}else c,[i_AckOf.f (c,())],4)
 else if vdN c g=5 then
  (if(heardN c g).state=8 then(heardN c g,[],5)
  else((i_Pump.f (heardN c g,(heardN c g).window,())).1,if(i_Pump.f (heardN c g,(heardN c g).window,())).2=[]∧i_SegmentLen.f (g,())≠0 then[i_AckOf.f ((i_Pump.f (heardN c g,(heardN c g).window,())).1,())]else(i_Pump.f (heardN c g,(heardN c g).window,())).2,5))
 else(c,[],1)
theorem i_Receive_eq (c:Conn)(g:Segm)(hs:SmallP c.r.held):i_Receive.f (c,g,())=recvN c g:=by
 simp only[PX,i_Receive,q_cloneConn,i_Verdict_eq c g hs,i_Heard_eq c g hs]
 have hv:=vd_rng c g
 unfold recvN
 generalize vdN c g=v at hv⊢
 rcases hv with rfl|rfl|rfl|rfl|rfl
 ·rfl
 ·rfl
 ·rfl
 ·have e:(bif (4:Int)==4 then bif c.state==7 then(i_Has.f (g,1,()),())else(false,())else(false,())).1=decide (c.state=7∧i_Has.f (g,1,())=true):=by
   by_cases h7:c.state=7
   ·simp[h7]
   ·rw[show(c.state==7)=false by simp[h7],decide_eq_false (fun h=>h7 h.1)];rfl
  rw[e]
  by_cases hq:c.state=7∧i_Has.f (g,1,())=true
  ·rw[decide_eq_true hq];simp only[if_pos hq];rfl
  ·rw[decide_eq_false hq];simp only[if_neg hq];rfl
 ·simp only[if_true]
  rw[if_neg (show¬(5:Int)=2 by omega),if_neg (show¬(5:Int)=3 by omega),if_neg (show¬(5:Int)=4 by omega)]
  generalize heardN c g=x
  change (bif x.state==8 then(x,[],(5:Int))else bif (bif ((i_Pump.f (x,x.window,())).2.length:Int)==0 then(i_SegmentLen.f (g,()) != 0,())else(false,())).1 then((i_Pump.f (x,x.window,())).1,[i_AckOf.f ((i_Pump.f (x,x.window,())).1,())],5)else((i_Pump.f (x,x.window,())).1,(i_Pump.f (x,x.window,())).2,5))=_
  by_cases h8:x.state=8
  ·rw[if_pos h8,show(x.state==8)=true by simp[h8]];rfl
  ·rw[if_neg h8,show(x.state==8)=false by simp[h8]]
   generalize i_Pump.f (x,x.window,())=p
   obtain⟨p1,p2⟩:=p
   cases p2 with
   |nil=>
    by_cases h0:i_SegmentLen.f (g,())=0
    ·simp[h0]
    ·have h0':(i_SegmentLen.f (g,()) != 0)=true:=by simp[h0]
     simp[h0,h0']
   |cons a r=>
    have h0:(((a::r).length:Int)==0)=false:=by rw[beq_eq_false_iff_ne];simp only[List.length_cons];omega
    simp only[h0,cond_false,if_neg (show¬((a::r:List Segm)=[]∧i_SegmentLen.f (g,())≠0) by simp)]
theorem Pump_nil (c:Conn)(w:Int)(hc:SO c.s)(h:(i_Pump.f (c,w,())).2=[]):(i_Pump.f (c,w,())).1=c:=by
 revert h
 simp only[PX,i_Pump,q_cloneConn,i_Pump_L0_d]
 cases(bif !i_ConnOk.f (c,())then(true,())else bif (c.state==8)then(true,())else((c.state==7),())).1 with
 |true=>exact fun _=>rfl
 |false=>
 simp only[cond_false]
 have key:=whileN_post (f:=fun a=>(i_Pump_L0_T w a).nice) (Inv:=fun a=>Sent c a.2.1∧(a.2.2=[]→a.2.1=c)) (Q:=fun p=>p.2.2=[]→p.2.1=c) (meas:=fun a=>sgm a.2.1.s) (fun a hi a' he=>by
  rcases Pump_step w c a hi.1 with⟨l,e⟩|⟨a2,e,h1,h2⟩
  ·simp only[e]at he;cases he
  ·simp only[e,Stp.next.injEq]at he;subst he
   refine⟨⟨h1,fun h3=> ?_⟩,h2⟩
   exfalso
   obtain⟨a1,a2',al⟩:=a
   revert e
   simp only[PX,i_Pump_L0_T]
   cases(i_NextChunk.f (a2'.s,w,i_MssFor.f (a2',()),())).2 with
   |false=>intro e;cases e
   |true=>
    cases((i_NextChunk.f (a2'.s,w,i_MssFor.f (a2',()),())).1.text==[])<;>cases(i_NextChunk.f (a2'.s,w,i_MssFor.f (a2',()),())).1.fin<;>(intro e;simp only[Stp.next.injEq,cond_true,cond_false,Bool.not_true,Bool.not_false]at e;subst e;simp at h3)) (fun a hi p he=>by
  rcases Pump_step w c a hi.1 with⟨l,e⟩|⟨a2,e,h1,h2⟩
  ·obtain⟨a1,a2',al⟩:=a
   have hl:l=al:=by
    revert e
    simp only[PX,i_Pump_L0_T]
    cases(i_NextChunk.f (a2'.s,w,i_MssFor.f (a2',()),())).2 with
    |false=>intro e;cases e;rfl
    |true=>cases((i_NextChunk.f (a2'.s,w,i_MssFor.f (a2',()),())).1.text==[])<;>cases(i_NextChunk.f (a2'.s,w,i_MssFor.f (a2',()),())).1.fin<;>(intro e;cases e)
   simp only[e,Stp.out.injEq]at he;subst he;subst hl;exact hi.2
  ·simp only[e]at he;cases he) (sgm c.s+1) (⟨⟨0,0,0⟩,0,⟨0,[],0,false,false,false⟩,⟨0,[],[],0,false⟩,0,0,⟨0,0,false,false,0,0⟩,0,0⟩,c,[]) (Nat.lt_succ_self _) ⟨Sent.refl c hc,fun _=>rfl⟩
 obtain⟨q,hq⟩:∃q,whileN (fun a=>(i_Pump_L0_T w a).nice) (sgm c.s+1) (⟨⟨0,0,0⟩,0,⟨0,[],0,false,false,false⟩,⟨0,[],[],0,false⟩,0,0,⟨0,0,false,false,0,0⟩,0,0⟩,c,[])=q:=⟨_,rfl⟩
 rw[hq]at key
 simp only[hq]
 obtain⟨q1,q2,q3⟩:=q
 simp only[]at key⊢
 intro h3
 have h4:q3=[]:=by
  revert h3
  cases(bif decide (0<(q3.length:Int))then((q2.timer==0),())else(false,())).1<;>exact fun h=>h
 subst h4
 rw[key rfl]
 rfl
theorem s_Receive_eq (c:Conn)(g:Segm)(hs:SmallP c.r.held):s_Receive.f (c,g,())=recvN c g:=by
 simp only[PX,s_Receive,q_l19Copy,s_Verdict_eq c g hs,s_Heard_eq c g hs,q_AckOf,q_SegmentLen,q_Has]
 have hv:=vd_rng c g
 have h5:=heard_ok c g hs
 have hb:vdN c g=5→g.body.length≤1420:=fun h=>SegmentOk_body g (vd5 c g h).sg
 unfold recvN
 generalize vdN c g=v at hv h5 hb⊢
 rcases hv with rfl|rfl|rfl|rfl|rfl
 ·rfl
 ·rfl
 ·show(c,[s_AckOf.f (c,())],(3:Int))=_
  rw[q_AckOf];rfl
 ·have e:(bif (4:Int)==4 then bif c.state==7 then(i_Has.f (g,1,()),())else(false,())else(false,())).1=decide (c.state=7∧i_Has.f (g,1,())=true):=by
   by_cases h7:c.state=7
   ·simp[h7]
   ·rw[show(c.state==7)=false by simp[h7],decide_eq_false (fun h=>h7 h.1)];rfl
  rw[e]
  by_cases hq:c.state=7∧i_Has.f (g,1,())=true
  ·rw[decide_eq_true hq];simp only[if_pos hq]
   show(({c with timer:=4}:Conn),[s_AckOf.f (c,())],(4:Int))=_
   rw[q_AckOf];rfl
  ·rw[decide_eq_false hq];simp only[if_neg hq]
   show(c,[s_AckOf.f (c,())],(4:Int))=_
   rw[q_AckOf];rfl
 ·simp only[if_true]
  rw[if_neg (show¬(5:Int)=2 by omega),if_neg (show¬(5:Int)=3 by omega),if_neg (show¬(5:Int)=4 by omega)]
  obtain⟨hx,-,-,hxs⟩:=h5 rfl
  have hl:=SegmentLen_rng g (by have:=hb rfl;omega)
  generalize heardN c g=x at hx hxs⊢
  have hP:=q_Pump x x.window (by have:=hx.w1;have:=hx.m1;omega) hxs
  have hN:=Pump_nil x x.window hx.snd
  change (bif x.state==8 then(x,[],(5:Int))else bif (bif decide (0<i_SegmentLen.f (g,()))then(((s_Pump.f (x,x.window,())).2.length:Int)==0,())else(false,())).1 then((s_Pump.f (x,x.window,())).1,(s_Pump.f (x,x.window,())).2++[i_AckOf.f (x,())],5)else((s_Pump.f (x,x.window,())).1,(s_Pump.f (x,x.window,())).2,5))=_
  rw[hP]
  by_cases h8:x.state=8
  ·rw[if_pos h8,show(x.state==8)=true by simp[h8]];rfl
  ·rw[if_neg h8,show(x.state==8)=false by simp[h8]]
   generalize i_Pump.f (x,x.window,())=p at hN⊢
   obtain⟨p1,p2⟩:=p
   cases p2 with
   |nil=>
    have hN:=hN rfl
    simp only[]at hN
    subst hN
    by_cases h0:i_SegmentLen.f (g,())=0
    ·simp[h0]
    ·rw[decide_eq_true (show 0<i_SegmentLen.f (g,()) by omega)]
     simp[h0]
   |cons a r=>
    have h0:(((a::r).length:Int)==0)=false:=by rw[beq_eq_false_iff_ne];simp only[List.length_cons];omega
    cases decide (0<i_SegmentLen.f (g,()))<;>simp only[h0,cond_true,cond_false,if_neg (show¬((a::r:List Segm)=[]∧i_SegmentLen.f (g,())≠0) by simp)]
theorem i64_mask4 (n:Int):bits .and .i64 n 15=n%16:=by
 have h:(BitVec.ofInt 64 15).toNat=2 ^ 4-1:=by decide
 have key:(BitVec.ofInt 64 n&&& BitVec.ofInt 64 15).toNat=(n%((2 ^ 64:Nat):Int)).toNat%2 ^ 4:=by
  rw[BitVec.toNat_and,BitVec.toNat_ofInt,h,Nat.and_two_pow_sub_one_eq_mod]
 show IntKind.i64.wrap ((BitVec.ofInt 64 n&&& BitVec.ofInt 64 15).toNat:Nat)=n%16
 rw[key,wrap64_def]
 omega
theorem q_StampIn (v:Int):s_StampIn.f (v,())=i_StampIn.f (v,()):=by
 simp only[PX,s_StampIn,i_StampIn,q_WordOk,i64_mask4]
 rcases Bool.eq_false_or_eq_true (i_WordOk.f (v,32,()))with h|h
 ·rw[h]
  rw[i_WordOk_32]at h
  simp only[Bool.and_eq_true,decide_eq_true_eq]at h
  rw[Int.tmod_eq_emod_of_nonneg h.1]
 ·rw[h];rfl
theorem q_LearnedOptions (i:Int)(o:Opti):s_LearnedOptions.f (i,o,())=i_LearnedOptions.f (i,o,()):=by
 simp only[PX,s_LearnedOptions,i_LearnedOptions,q_StampIn,q_MssOf,s_NoOptions,i_NoOptions]
theorem tup_parts (t:Tupl)(h:i_TupleOk.f (t,())=true):(0≤t.ip∧t.ip≤4294967295)∧(0≤t.port∧t.port≤65535)∧(0≤t.my∧t.my≤65535):=by
 simp only[PX,i_TupleOk,i_WordOk_16,i_WordOk_32]at h
 by_cases h1:0≤t.ip∧t.ip≤4294967295
 ·by_cases h2:0≤t.port∧t.port≤65535
  ·by_cases h3:0≤t.my∧t.my≤65535
   ·exact⟨h1,h2,h3⟩
   ·rw[show(decide (0≤t.my)&&decide (t.my≤65535))=false by rw[Bool.and_eq_false_iff];simp only[decide_eq_false_iff_not];omega]at h
    revert h
    cases(decide (0≤t.ip)&&decide (t.ip≤4294967295))<;>cases(decide (0≤t.port)&&decide (t.port≤65535))<;>simp
  ·rw[show(decide (0≤t.port)&&decide (t.port≤65535))=false by rw[Bool.and_eq_false_iff];simp only[decide_eq_false_iff_not];omega]at h
   revert h
   cases(decide (0≤t.ip)&&decide (t.ip≤4294967295))<;>simp
 ·rw[show(decide (0≤t.ip)&&decide (t.ip≤4294967295))=false by rw[Bool.and_eq_false_iff];simp only[decide_eq_false_iff_not];omega]at h
  simp at h
theorem NextOf_eq (s:Sndr):i_NextOf.f (s,())=(s.una+i_flying.f (s,()))%4294967296:=by simp only[PX,i_NextOf,iSeqAdd_eq]
theorem NoOptions_ok:i_OptionsOk.f (i_NoOptions.f (()),())=true:=by decide+kernel
theorem Ack_ok (c:Conn)(hc:i_TupleOk.f (c.tuple,())=true)(hd:c.r.data.length≤32)(hn:0≤c.r.next∧c.r.next≤4294967295)(sq fl:Int)(b:Bytes)(h0:0≤sq∧sq≤4294967295)(hf:0≤fl∧fl≤63)(hb:b.length≤1420):i_SegmentOk.f ({i_AckOf.f (c,())with seq:=sq,flags:=fl,body:=b},())=true:=by
 rw[SegmentOk_parts]
 have ht:=tup_parts c.tuple hc
 have hw:=win_rng c.r hd
 simp only[PX,i_AckOf,WindowOf_eq c.r hd]
 exact⟨ht.2.2,ht.2.1,h0,hn,hf,⟨hw.1,by omega⟩,NoOptions_ok,hb⟩
theorem AckOf_ok (c:Conn)(hc:CO c)(hs:SmallP c.r.held):i_SegmentOk.f (i_AckOf.f (c,()),())=true:=by
 have hr:=(RV_iff c.r hs).1 hc.rcv
 have h:=Ack_ok c hc.tup hr.dl ⟨hr.n0,hr.n1⟩ (i_NextOf.f (c.s,())) 16 [] (by rw[NextOf_eq];omega) (by omega) (by simp)
 have e:({i_AckOf.f (c,())with seq:=i_NextOf.f (c.s,()),flags:=16,body:=[]}:Segm)=i_AckOf.f (c,()):=by simp only[PX,i_AckOf]
 rw[e]at h;exact h
theorem NextChunk_seq (s:Sndr)(w m:Int)(h:(i_NextChunk.f (s,w,m,())).2=true):(i_NextChunk.f (s,w,m,())).1.seq=i_NextOf.f (s,()):=by
 revert h
 simp only[PX,i_NextChunk]
 generalize(if 0<(if(IntKind.wrap .i64 ((if w<(-1)then(-1)else w)-i_flying.f (s,())))<(if m<(((s.data.take ((s.data.length:Int).toNat)).drop s.sent.toNat).length:Int)then m else(((s.data.take ((s.data.length:Int).toNat)).drop s.sent.toNat).length:Int))then(IntKind.wrap .i64 ((if w<(-1)then(-1)else w)-i_flying.f (s,())))else(if m<(((s.data.take ((s.data.length:Int).toNat)).drop s.sent.toNat).length:Int)then m else(((s.data.take ((s.data.length:Int).toNat)).drop s.sent.toNat).length:Int)))then(if(IntKind.wrap .i64 ((if w<(-1)then(-1)else w)-i_flying.f (s,())))<(if m<(((s.data.take ((s.data.length:Int).toNat)).drop s.sent.toNat).length:Int)then m else(((s.data.take ((s.data.length:Int).toNat)).drop s.sent.toNat).length:Int))then(IntKind.wrap .i64 ((if w<(-1)then(-1)else w)-i_flying.f (s,())))else(if m<(((s.data.take ((s.data.length:Int).toNat)).drop s.sent.toNat).length:Int)then m else(((s.data.take ((s.data.length:Int).toNat)).drop s.sent.toNat).length:Int)))else 0)=n
 generalize(IntKind.wrap .i64 ((if w<(-1)then(-1)else w)-i_flying.f (s,())))=v
 generalize(((s.data.take ((s.data.length:Int).toNat)).drop s.sent.toNat).take n.toNat).drop 0=tx
 generalize(((s.data.take ((s.data.length:Int).toNat)).drop s.sent.toNat).length:Int)=ln
 cases i_SenderOk.f (s,())<;>cases s.fin<;>cases s.finSent<;>cases s.done<;>cases(n==ln)<;>cases(tx==[])<;>cases decide (n<v)<;>simp
theorem Pump_segs (c:Conn)(w:Int)(hc:CO c)(hs:SmallP c.r.held):∀g∈(i_Pump.f (c,w,())).2,i_SegmentOk.f (g,())=true:=by
 have hr:=(RV_iff c.r hs).1 hc.rcv
 simp only[PX,i_Pump,q_cloneConn,i_Pump_L0_d]
 cases(bif !i_ConnOk.f (c,())then(true,())else bif (c.state==8)then(true,())else((c.state==7),())).1 with
 |true=>intro g hg;cases hg
 |false=>
 simp only[cond_false]
 have key:=whileN_post (f:=fun a=>(i_Pump_L0_T w a).nice) (Inv:=fun a=>Sent c a.2.1∧(∀g∈a.2.2,i_SegmentOk.f (g,())=true)) (Q:=fun p=>∀g∈p.2.2,i_SegmentOk.f (g,())=true) (meas:=fun a=>sgm a.2.1.s) (fun a hi a' he=>by
  rcases Pump_step w c a hi.1 with⟨l,e⟩|⟨a2,e,h1,h2⟩
  ·simp only[e]at he;cases he
  ·simp only[e,Stp.next.injEq]at he;subst he
   refine⟨⟨h1, ?_⟩,h2⟩
   obtain⟨hS,hl⟩:=hi
   obtain⟨a1,b2,al⟩:=a
   simp only[]at hS hl
   have hre:=hS.re
   have htup:i_TupleOk.f (b2.tuple,())=true:=by rw[hre];exact hc.tup
   have hrr:b2.r=c.r:=by rw[hre]
   have hch:=i_NextChunk.c.h (b2.s,w,i_MssFor.f (b2,()),()) (sm_of_SO hS.so)
   have hsq:=NextChunk_seq b2.s w (i_MssFor.f (b2,()))
   revert e
   simp only[PX,i_Pump_L0_T]
   simp only[PX]at hch
   generalize i_NextChunk.f (b2.s,w,i_MssFor.f (b2,()),())=z at hch hsq⊢
   obtain⟨y,b⟩:=z
   cases b with
   |false=>intro e;cases e
   |true=>
    obtain⟨-,hch⟩:=hch
    obtain⟨-,hlen,-,-,-⟩:=hch rfl
    have hsq:=hsq rfl
    simp only[]at hlen hsq
    have hdl:=hS.so.2.2.1
    have hs0:=hS.so.2.2.2.1
    have ok:∀fl:Int,0≤fl∧fl≤63→i_SegmentOk.f (({i_AckOf.f (b2,())with seq:=y.seq,flags:=fl,body:=y.text}:Segm),())=true:=fun fl hf=>Ack_ok b2 htup (by rw[hrr];exact hr.dl) (by rw[hrr];exact⟨hr.n0,hr.n1⟩) y.seq fl y.text (by rw[hsq,NextOf_eq];omega) hf (by omega)
    have fin:∀fl:Int,0≤fl∧fl≤63→∀g∈al++[({i_AckOf.f (b2,())with seq:=y.seq,flags:=fl,body:=y.text}:Segm)],i_SegmentOk.f (g,())=true:=by
     intro fl hf g hg
     rcases List.mem_append.1 hg with h3|h3
     ·exact hl g h3
     ·rw[List.mem_singleton.1 h3];exact ok fl hf
    have hfl:(i_AckOf.f (b2,())).flags=16:=by simp only[PX,i_AckOf]
    simp only[hfl]
    cases(y.text==[])<;>cases y.fin<;>(intro e;simp only[Stp.next.injEq,cond_true,cond_false,Bool.not_true,Bool.not_false]at e;subst e;refine fin _ (by decide+kernel))) (fun a hi p he=>by
  rcases Pump_step w c a hi.1 with⟨l,e⟩|⟨a2,e,h1,h2⟩
  ·obtain⟨a1,a2',al⟩:=a
   have hl:l=al:=by
    revert e
    simp only[PX,i_Pump_L0_T]
    cases(i_NextChunk.f (a2'.s,w,i_MssFor.f (a2',()),())).2 with
    |false=>intro e;cases e;rfl
    |true=>cases((i_NextChunk.f (a2'.s,w,i_MssFor.f (a2',()),())).1.text==[])<;>cases(i_NextChunk.f (a2'.s,w,i_MssFor.f (a2',()),())).1.fin<;>(intro e;cases e)
   simp only[e,Stp.out.injEq]at he;subst he;subst hl;exact hi.2
  ·simp only[e]at he;cases he) (sgm c.s+1) (⟨⟨0,0,0⟩,0,⟨0,[],0,false,false,false⟩,⟨0,[],[],0,false⟩,0,0,⟨0,0,false,false,0,0⟩,0,0⟩,c,[]) (Nat.lt_succ_self _) ⟨Sent.refl c hc.snd,fun g hg=>by cases hg⟩
 obtain⟨q,hq⟩:∃q,whileN (fun a=>(i_Pump_L0_T w a).nice) (sgm c.s+1) (⟨⟨0,0,0⟩,0,⟨0,[],0,false,false,false⟩,⟨0,[],[],0,false⟩,0,0,⟨0,0,false,false,0,0⟩,0,0⟩,c,[])=q:=⟨_,rfl⟩
 rw[hq]at key
 simp only[hq]
 obtain⟨q1,q2,q3⟩:=q
 simp only[]at key⊢
 cases(bif decide (0<(q3.length:Int))then((q2.timer==0),())else(false,())).1<;>exact key
theorem recv_ok (c:Conn)(g:Segm)(hc:CO c)(hs:SmallP c.r.held):CO (recvN c g).1∧(recvN c g).1.tuple=c.tuple∧(∀y∈(recvN c g).2.1,i_SegmentOk.f (y,())=true)∧SmallP (recvN c g).1.r.held:=by
 have one:∀y∈[i_AckOf.f (c,())],i_SegmentOk.f (y,())=true:=fun y hy=>by rw[List.mem_singleton.1 hy];exact AckOf_ok c hc hs
 have nil:∀y∈([]:List Segm),i_SegmentOk.f (y,())=true:=fun y hy=>by cases hy
 unfold recvN
 split
 ·exact⟨CO.set hc 8 0 0 (.inr rfl) (by omega) (by omega) (fun _=>by omega) (by omega) (by omega),rfl,nil,hs⟩
 ·split
  ·exact⟨hc,rfl,one,hs⟩
  ·split
   ·split
    ·rename_i h7
     exact⟨CO.set hc c.state 4 c.tries (.inl rfl) (by omega) (by omega) (fun h=>absurd h7.1 h) hc.r0 hc.r3,rfl,one,hs⟩
    ·exact⟨hc,rfl,one,hs⟩
   ·split
    ·rename_i hv
     obtain⟨hx,hxt,-,hxs⟩:=heard_ok c g hs hv
     generalize heardN c g=x at hx hxt hxs⊢
     split
     ·exact⟨hx,hxt,nil,hxs⟩
     ·have hS:=Pump_sent x x.window hx.snd
      have hp:=Sent.ok hS hx (hS.tm.elim .inr fun e=> .inl (by omega))
      have ht:(i_Pump.f (x,x.window,())).1.tuple=x.tuple:=by rw[hS.re]
      have hr:(i_Pump.f (x,x.window,())).1.r=x.r:=by rw[hS.re]
      refine⟨hp,ht.trans hxt, ?_,by show SmallP (i_Pump.f (x,x.window,())).1.r.held;rw[hr];exact hxs⟩
      simp only[]
      split
      ·intro y hy
       rw[List.mem_singleton.1 hy];exact AckOf_ok _ hp (by rw[hr];exact hxs)
      ·exact Pump_segs x x.window hx hxs
    ·exact⟨hc,rfl,nil,hs⟩
theorem q_SetConn (t:Tabl)(c:Conn):s_SetConn.f (t,c,())=i_SetConn.f (t,c,()):=by
 simp only[PX,s_SetConn,i_SetConn,q_l25Copy,q_cloneTable,q_FindConn,q_l19Copy,q_cloneConn]
theorem q_PutConn (t:Tabl)(c:Conn)(l:Limi)(hs:∀y∈t.conns,SmallP y.r.held)(hc:SmallP c.r.held):s_PutConn.f (t,c,l,())=i_PutConn.f (t,c,l,()):=by
 simp only[PX,s_PutConn,i_PutConn,q_l25Copy,q_cloneTable,q_l19Copy,q_cloneConn]
 rw[q_TableOk _ _ (fun y hy=>by
  rcases List.mem_append.1 hy with h|h
  ·exact hs y h
  ·rw[List.mem_singleton.1 h];exact hc)]
theorem conn_at (xs:List Conn)(t:Tupl)(h:decide (0≤fidx (fun h=>eqT t h.tuple) xs)=true):∃i:Nat,fidx (fun h:Conn=>eqT t h.tuple) xs=(i:Int)∧∃hi:i<xs.length,xs[i].tuple=t:=by
 unfold fidx at h⊢
 cases hf:xs.findIdx? (fun h=>eqT t h.tuple)with
 |none=>rw[hf]at h;simp at h
 |some i=>
  obtain⟨h1,h2,-⟩:=List.findIdx?_eq_some_iff_getElem.1 hf
  exact⟨i,rfl,h1,((eqT_iff _ _).1 h2).symm⟩
theorem half_at (xs:List Half)(t:Tupl)(h:decide (0≤fidx (fun h=>eqT t h.tuple) xs)=true):∃i:Nat,fidx (fun h:Half=>eqT t h.tuple) xs=(i:Int)∧∃hi:i<xs.length,xs[i].tuple=t:=by
 unfold fidx at h⊢
 cases hf:xs.findIdx? (fun h=>eqT t h.tuple)with
 |none=>rw[hf]at h;simp at h
 |some i=>
  obtain⟨h1,h2,-⟩:=List.findIdx?_eq_some_iff_getElem.1 hf
  exact⟨i,rfl,h1,((eqT_iff _ _).1 h2).symm⟩
theorem TO.set {t:Tabl}{l:Limi}(h:TO t l)(i:Nat)(c:Conn)(hc:CO c)(hi:i<t.conns.length)(ht:c.tuple=t.conns[i].tuple):TO (⟨t.conns.set i c,t.waiting⟩:Tabl) l:=by
 have hm:(t.conns.set i c).map Conn.tuple=t.conns.map Conn.tuple:=by
  rw[List.map_set,ht]
  apply List.ext_getElem?
  intro j
  rw[List.getElem?_set]
  split
  ·rename_i hj
   subst hj
   simp[hi]
  ·rfl
 refine⟨h.lim,by show((t.conns.set i c).length:Int)≤l.conns;rw[List.length_set];exact h.nc,h.nw, ?_, ?_,h.dw, ?_⟩
 ·intro y hy
  rcases List.mem_or_eq_of_mem_set hy with h1|h1
  ·exact h.co y h1
  ·rw[h1];exact hc
 ·show((t.conns.set i c).map Conn.tuple).Nodup
  rw[hm];exact h.dc
 ·intro w hw
  show w∈(t.conns.set i c).map Conn.tuple
  rw[hm];exact h.wc w hw
theorem set_map (xs:List Conn)(i:Nat)(c:Conn)(hi:i<xs.length)(ht:c.tuple=xs[i].tuple):(xs.set i c).map Conn.tuple=xs.map Conn.tuple:=by
 rw[List.map_set,ht]
 apply List.ext_getElem?
 intro j
 rw[List.getElem?_set]
 split
 ·rename_i hj
  subst hj
  simp[hi]
 ·rfl
theorem fidx_nodup (xs:List Conn)(hd:(xs.map Conn.tuple).Nodup)(i:Nat)(hi:i<xs.length):fidx (fun h:Conn=>eqT xs[i].tuple h.tuple) xs=(i:Int):=by
 have h:=(nodup_any Conn.tuple xs).2 hd i xs[i] (List.getElem?_eq_getElem hi)
 have h2:=fidx_at (fun h:Conn=>eqT xs[i].tuple h.tuple) xs i xs[i] (List.getElem?_eq_getElem hi) (eqT_refl _)
 rw[h]at h2
 simpa using h2
theorem i_SetConn_eq (t:Tabl)(c:Conn)(hd:(t.conns.map Conn.tuple).Nodup)(i:Nat)(hi:i<t.conns.length)(ht:c.tuple=t.conns[i].tuple):i_SetConn.f (t,c,())=⟨t.conns.set i c,t.waiting⟩:=by
 simp only[PX,i_SetConn,q_cloneTable,q_cloneConn,i_FindConn_eq2]
 rw[ht,fidx_nodup t.conns hd i hi,decide_eq_true (show(0:Int)≤(i:Int) by omega),toNat_cast]
 rfl
theorem i_PutConn_eq (t:Tabl)(c:Conn)(l:Limi):i_PutConn.f (t,c,l,())=if i_TableOk.f ((⟨t.conns++[c],t.waiting++[c.tuple]⟩:Tabl),l,())=true then(⟨t.conns++[c],t.waiting++[c.tuple]⟩,true)else(t,false):=by
 simp only[PX,i_PutConn,q_cloneTable,q_cloneConn]
 cases i_TableOk.f ((⟨t.conns++[c],t.waiting++[c.tuple]⟩:Tabl),l,())<;>rfl
def dropN (xs:List Half)(t:Tupl):List Half:=bif decide (0≤fidx (fun h:Half=>eqT t h.tuple) xs)then xs.take (fidx (fun h:Half=>eqT t h.tuple) xs).toNat++xs.drop ((fidx (fun h:Half=>eqT t h.tuple) xs).toNat+1)else xs
theorem s_DropHalf_eq (xs:List Half)(t:Tupl)(hl:xs.length≤4294967296):s_DropHalf.f (xs,t,())=dropN xs t:=by
 simp only[PX,s_DropHalf,q_FindHalf,i_FindHalf_eq2]
 unfold dropN
 cases h:decide (0≤fidx (fun h:Half=>eqT t h.tuple) xs)with
 |false=>
  rw[show decide (fidx (fun h:Half=>eqT t h.tuple) xs<0)=true by simp at h⊢;exact h]
  simp
 |true=>
  obtain⟨i,e,hi,-⟩:=half_at xs t h
  rw[e,decide_eq_false (show¬(i:Int)<0 by omega),wrap64 (by omega) (by omega),toNat_cast,show((i:Int)+1).toNat=i+1 by omega]
  simp
theorem i_DropHalf_eq (xs:List Half)(t:Tupl)(hl:xs.length≤4294967296):i_DropHalf.f (xs,t,())=dropN xs t:=by
 simp only[PX,i_DropHalf,g_Clone_Half,g_Delete_Half,i_FindHalf_eq2]
 unfold dropN
 cases h:decide (0≤fidx (fun h:Half=>eqT t h.tuple) xs)with
 |false=>simp
 |true=>
  obtain⟨i,e,hi,-⟩:=half_at xs t h
  rw[e,wrap64 (by omega) (by omega),show((i:Int)==(i:Int)+1)=false by simp;omega,toNat_cast,show((i:Int)+1).toNat=i+1 by omega]
  simp only[cond_false,cond_true]
  have hL:(xs.take i++xs.drop (i+1)).length=i+(xs.length-(i+1)):=by
   rw[List.length_append,List.length_take,List.length_drop];omega
  generalize xs.take i++xs.drop (i+1)=L at hL⊢
  rw[List.drop_zero,List.take_left' hL,toNat_cast,hL,List.take_left' hL,List.append_assoc,List.take_left' hL]
theorem dropN_sub (xs:List Half)(t:Tupl):(dropN xs t).Sublist xs:=by
 unfold dropN
 cases h:decide (0≤fidx (fun h:Half=>eqT t h.tuple) xs)with
 |false=>exact List.Sublist.refl _
 |true=>
  obtain⟨i,e,hi,-⟩:=half_at xs t h
  rw[e,toNat_cast,cond_true]
  have h1:(xs.take i++xs.drop (i+1)).Sublist (xs.take i++xs.drop i):=List.Sublist.append (List.Sublist.refl _) (by
   rw[←List.drop_drop];exact List.drop_sublist _ _)
  rw[List.take_append_drop]at h1
  exact h1
theorem HO.sub {xs ys:List Half}(h:HO xs)(hs:ys.Sublist xs):HO ys:=⟨fun y hy=>h.ok y (hs.subset hy),List.Nodup.sublist (hs.map _) h.nd,Nat.le_trans hs.length_le h.len⟩
theorem dropN_gone (xs:List Half)(t:Tupl)(hd:(xs.map Half.tuple).Nodup):t∉(dropN xs t).map Half.tuple:=by
 unfold dropN
 cases h:decide (0≤fidx (fun h:Half=>eqT t h.tuple) xs)with
 |false=>
  rw[fidx_nn]at h
  rw[cond_false,←any_eqT,h];simp
 |true=>
  obtain⟨i,e,hi,ht⟩:=half_at xs t h
  rw[e,toNat_cast,cond_true,List.map_append,List.mem_append]
  have h1:xs.map Half.tuple=(xs.take i).map Half.tuple++t::(xs.drop (i+1)).map Half.tuple:=by
   conv=>lhs;rw[←List.take_append_drop i xs,List.drop_eq_getElem_cons hi]
   rw[List.map_append,List.map_cons,ht]
  rw[h1]at hd
  obtain⟨-,h3,h4⟩:=List.nodup_append.1 hd
  rintro(h5|h5)
  ·exact h4 t h5 t (List.mem_cons_self ..) rfl
  ·exact(List.nodup_cons.1 h3).1 h5
theorem resets_eq (g:Segm):i_resets.f (g,())=bif i_Has.f (g,4,())then[]else[(i_ResetFor.f (g,())).1]:=by
 simp only[PX,i_resets,i_ResetFor]
 cases i_Has.f (g,4,())with
 |true=>rfl
 |false=>cases i_Has.f (g,16,())<;>rfl
theorem q_ResetFor (g:Segm):s_ResetFor.f (g,())=i_ResetFor.f (g,()):=by
 simp only[PX,s_ResetFor,i_ResetFor,q_Has,q_SegmentLen,q_SeqAdd,s_NoOptions,i_NoOptions]
theorem s_Reset_eq (d:Door)(g:Segm):s_l26Reset.f (d,g,())=(d,i_resets.f (g,()),0):=by
 simp only[PX,s_l26Reset,q_ResetFor,q_l26Copy,i_resets]
 cases(i_ResetFor.f (g,())).2<;>rfl
theorem resets_ok (g:Segm)(hg:i_SegmentOk.f (g,())=true):∀y∈i_resets.f (g,()),i_SegmentOk.f (y,())=true:=by
 have h:=(SegmentOk_parts g).1 hg
 rw[resets_eq]
 cases h4:i_Has.f (g,4,())with
 |true=>intro y hy;cases hy
 |false=>
  intro y hy
  rw[cond_false,List.mem_singleton]at hy
  subst hy
  simp only[PX,i_ResetFor,h4,iSeqAdd_eq,cond_false]
  cases i_Has.f (g,16,())with
  |true=>
   rw[SegmentOk_parts]
   exact⟨h.2.1,h.1,h.2.2.2.1,by show(0:Int)≤0∧(0:Int)≤4294967295;omega,by show(0:Int)≤4∧(4:Int)≤63;omega,by show(0:Int)≤0∧(0:Int)≤65535;omega,NoOptions_ok,by simp⟩
  |false=>
   rw[SegmentOk_parts]
   refine⟨h.2.1,h.1,by show(0:Int)≤0∧(0:Int)≤4294967295;omega, ?_,by show(0:Int)≤20∧(20:Int)≤63;omega,by show(0:Int)≤0∧(0:Int)≤65535;omega,NoOptions_ok,by simp⟩
   show 0≤(g.seq+i_SegmentLen.f (g,()))%4294967296∧(g.seq+i_SegmentLen.f (g,()))%4294967296≤4294967295
   omega
theorem q_ReceiverNew (n:Int):s_ReceiverNew.f (n,())=i_ReceiverNew.f (n,()):=by
 simp only[PX,s_ReceiverNew,i_ReceiverNew,l4Rest_eq,iSeqAdd_eq,Int.add_zero]
def newN (t:Tupl)(iss irs:Int)(o:Opti)(w:Int):Conn:=⟨t,1,⟨(iss+1)%4294967296,[],0,false,false,false⟩,⟨(irs+1)%4294967296,[],[],-1,false⟩,sclN w o.scale,sclN w o.scale,o,0,0⟩
theorem i_ConnNew_eq (t:Tupl)(iss irs:Int)(o:Opti)(w:Int)(ho:i_OptionsOk.f (o,())=true)(h0:0≤w)(h1:w≤65535):i_ConnNew.f (t,iss,irs,o,w,())=newN t iss irs o w:=by
 have hs:=(OptionsOk_scale o ho).2
 have hw:i_WordOk.f (w,16,())=true:=by rw[i_WordOk_16,decide_eq_true h0,decide_eq_true h1];rfl
 simp only[PX,i_ConnNew,ho,hw,Bool.not_true,cond_false,i_ReceiverNew,iSeqAdd_eq,Int.add_zero]
 rw[i_scaled_eq w o h0 h1 hs,show((irs+1)%4294967296%4294967296)=(irs+1)%4294967296 by omega]
 rfl
theorem s_ConnNew_eq (t:Tupl)(iss irs:Int)(o:Opti)(w:Int)(ho:i_OptionsOk.f (o,())=true)(h0:0≤w)(h1:w≤65535):s_ConnNew.f (t,iss,irs,o,w,())=newN t iss irs o w:=by
 have hs:=(OptionsOk_scale o ho).2
 have hw:i_WordOk.f (w,16,())=true:=by rw[i_WordOk_16,decide_eq_true h0,decide_eq_true h1];rfl
 have e:=(scl_eq w o.scale h0 h1 hs).1
 have hl:IntKind.wrap .u64 (s_l1Max.f (0,o.scale,()))=if o.scale<0 then 0 else o.scale:=by
  rw[l1Max_eq,wrapU64_id _ (by split<;>omega) (by split<;>omega)]
 simp only[PX,s_ConnNew,q_OptionsOk,q_WordOk,ho,hw,Bool.not_true,cond_false,q_ReceiverNew,i_ReceiverNew,q_SeqAdd,iSeqAdd_eq,Int.add_zero]
 rw[hl,e,show((irs+1)%4294967296%4294967296)=(irs+1)%4294967296 by omega]
 rfl
theorem new_ok (t:Tupl)(iss irs:Int)(o:Opti)(w:Int)(ht:i_TupleOk.f (t,())=true)(ho:i_OptionsOk.f (o,())=true)(h0:0≤w)(h1:w≤65535):CO (newN t iss irs o w)∧SmallP (newN t iss irs o w).r.held:=by
 have hs:=(OptionsOk_scale o ho).2
 have hr:=sclN_rng w o.scale h0 h1 hs
 have hsm:SmallP (newN t iss irs o w).r.held:=fun y hy=>by cases hy
 refine⟨⟨ht, ?_, ?_,ho,by show(1:Int)≤1;omega,by show(1:Int)≤8;omega,hr.1,hr.2,hr.1,Int.le_refl _,Int.le_refl _,by show(0:Int)≤4;omega,fun _=>by show(0:Int)≤3;omega,Int.le_refl _,by show(0:Int)≤3;omega,rfl⟩,hsm⟩
 ·refine⟨by show 0≤(iss+1)%4294967296;omega,by show(iss+1)%4294967296≤4294967295;omega,by show(0:Nat)≤48;omega,Int.le_refl _,by show(0:Int)≤((0:Nat):Int);omega,fun h=>(by cases h),fun h=>(by cases h)⟩
 ·rw[RV_iff _ hsm]
  exact⟨by show 0≤(irs+1)%4294967296;omega,by show(irs+1)%4294967296≤4294967295;omega,by show(0:Nat)≤32;omega,by show(0:Nat)≤3;omega,Int.le_refl _,by show(-1:Int)≤win _;unfold win;simp[newN],by show(-1:Int)≠0;omega,⟨0,by simp[newN,walkP]⟩,fun h=>(by cases h)⟩
theorem Learned_ok (i:Int)(o:Opti)(ho:i_OptionsOk.f (o,())=true):i_OptionsOk.f (i_LearnedOptions.f (i,o,()),())=true:=by
 have hm:0≤i_MssOf.f (i,())∧i_MssOf.f (i,())≤65535:=by
  simp only[PX,i_MssOf,i_within_eq]
  by_cases h:0≤i∧i≤7
  ·rw[decide_eq_true h.1,decide_eq_true h.2]
   have:i=0∨i=1∨i=2∨i=3∨i=4∨i=5∨i=6∨i=7:=by omega
   rcases this with rfl|rfl|rfl|rfl|rfl|rfl|rfl|rfl<;>decide+kernel
  ·rw[show(decide (0≤i)&&decide (i≤7))=false by rw[Bool.and_eq_false_iff];simp only[decide_eq_false_iff_not];omega]
   simp
 have hsc: -1≤(i_StampIn.f (o.echo,())).1∧(i_StampIn.f (o.echo,())).1≤14:=by
  simp only[PX,i_StampIn,i64_mask4]
  cases(bif !i_WordOk.f (o.echo,32,())then(true,())else((bits .and .i64 o.echo 32)==0,())).1 with
  |true=>simp only[cond_true];omega
  |false=>
   by_cases h:o.echo%16=15
   ·rw[show(o.echo%16==15)=true by simp[h]];simp only[cond_true,cond_false];omega
   ·rw[show(o.echo%16==15)=false by simp[h]];simp only[cond_false];omega
 simp only[PX,i_LearnedOptions,i_NoOptions]
 cases hs:o.stamp with
 |false=>
  simp only[cond_false]
  simp only[PX,i_OptionsOk,i_within_eq,i_WordOk_16,i_WordOk_32,decide_eq_true hm.1,decide_eq_true hm.2]
  rfl
 |true=>
  have hv:0≤o.val∧o.val≤4294967295:=by
   simp only[PX,i_OptionsOk,hs,i_within_eq,i_WordOk_16,i_WordOk_32,Bool.not_true,cond_false]at ho
   by_cases h:0≤o.val∧o.val≤4294967295
   ·exact h
   ·rw[show(decide (0≤o.val)&&decide (o.val≤4294967295))=false by rw[Bool.and_eq_false_iff];simp only[decide_eq_false_iff_not];omega]at ho
    revert ho
    cases(decide (0≤o.mss)&&decide (o.mss≤65535))<;>cases(decide (-1≤o.scale)&&decide (o.scale≤14))<;>simp
  simp only[cond_true]
  cases(i_StampIn.f (o.echo,())).2.2 with
  |false=>
   simp only[cond_false]
   simp only[PX,i_OptionsOk,i_within_eq,i_WordOk_16,i_WordOk_32,decide_eq_true hm.1,decide_eq_true hm.2]
   rfl
  |true=>
   simp only[cond_true]
   simp only[PX,i_OptionsOk,i_within_eq,i_WordOk_16,i_WordOk_32,decide_eq_true hm.1,decide_eq_true hm.2,decide_eq_true hsc.1,decide_eq_true hsc.2,decide_eq_true hv.1,decide_eq_true hv.2]
   rfl
def letN (d:Door)(c:Conn)(g:Segm)(made:Int):Door×List Segm×Int:=
 if i_TableOk.f ((⟨d.table.conns++[c],d.table.waiting++[c.tuple]⟩:Tabl),d.limits,())=true then
  ({d with halves:=dropN d.halves c.tuple,table:=⟨d.table.conns++[(recvN c g).1],d.table.waiting++[c.tuple]⟩},(recvN c g).2.1,made)
 else(d,[],0)
theorem let_table (t:Tabl)(l:Limi)(c:Conn)(g:Segm)(hs:SmallP c.r.held)(hT:i_TableOk.f ((⟨t.conns++[c],t.waiting++[c.tuple]⟩:Tabl),l,())=true):i_SetConn.f ((⟨t.conns++[c],t.waiting++[c.tuple]⟩:Tabl),(recvN c g).1,())=⟨t.conns++[(recvN c g).1],t.waiting++[c.tuple]⟩:=by
 have h:=(TO_iff _ _).1 hT
 have hc:=h.co c (by simp)
 have hr:=recv_ok c g hc hs
 rw[i_SetConn_eq _ _ h.dc t.conns.length (by simp) (by simp[hr.2.1])]
 simp
theorem s_Let_eq (d:Door)(c:Conn)(g:Segm)(m:Int)(hd:smallD d)(hc:SmallP c.r.held)(hl:d.halves.length≤4294967296):s_l26Let.f (d,c,g,m,())=letN d c g m:=by
 simp only[PX,s_l26Let,q_l26Copy,q_PutConn d.table c d.limits hd hc,i_PutConn_eq,s_Receive_eq c g hc,q_SetConn,s_DropHalf_eq _ _ hl]
 unfold letN
 by_cases hT:i_TableOk.f ((⟨d.table.conns++[c],d.table.waiting++[c.tuple]⟩:Tabl),d.limits,())=true
 ·rw[if_pos hT,if_pos hT,let_table d.table d.limits c g hc hT];rfl
 ·rw[if_neg hT,if_neg hT];rfl
def ackN (d:Door)(t:Tupl)(g:Segm):Door×List Segm×Int:=
 if i_DoorOk.f (d,())=true∧i_TupleOk.f (t,())=true∧i_SegmentOk.f (g,())=true∧¬0≤i_FindConn.f (d.table,t,())then
  if 0≤i_FindHalf.f (d.halves,t,())then
   if g.ack≠((d.halves.getD (i_FindHalf.f (d.halves,t,())).toNat (Ty.zero .half)).iss+1)%4294967296 then(d,i_resets.f (g,()),0)
   else if g.seq≠((d.halves.getD (i_FindHalf.f (d.halves,t,())).toNat (Ty.zero .half)).irs+1)%4294967296 then(d,[],0)
   else letN d (newN t (d.halves.getD (i_FindHalf.f (d.halves,t,())).toNat (Ty.zero .half)).iss (d.halves.getD (i_FindHalf.f (d.halves,t,())).toNat (Ty.zero .half)).irs (d.halves.getD (i_FindHalf.f (d.halves,t,())).toNat (Ty.zero .half)).opts g.window) g 1
  else if(i_CheckCookie.f (d.keys,t,(g.seq+ -1)%4294967296,(g.ack+ -1)%4294967296,())).2.2=true then
   letN d (newN t ((g.ack+ -1)%4294967296) ((g.seq+ -1)%4294967296) (i_LearnedOptions.f ((i_CheckCookie.f (d.keys,t,(g.seq+ -1)%4294967296,(g.ack+ -1)%4294967296,())).2.1,g.opts,())) g.window) g 2
  else(d,i_resets.f (g,()),0)
 else(d,[],0)
theorem half_opts (xs:List Half)(t:Tupl)(h:HO xs)(hf:0≤i_FindHalf.f (xs,t,())):i_OptionsOk.f ((xs.getD (i_FindHalf.f (xs,t,())).toNat (Ty.zero .half)).opts,())=true:=by
 rw[i_FindHalf_eq2]at hf⊢
 obtain⟨i,e,hi,-⟩:=half_at xs t (decide_eq_true hf)
 rw[e,toNat_cast,getD_some (List.getElem?_eq_getElem hi)]
 have:=h.ok _ (List.getElem_mem hi)
 unfold halfOk at this
 simp only[Bool.and_eq_true]at this
 exact this.2.2.2.2.1
theorem eta3 {A B C:Type}(x:A×B×C):(x.1,x.2.1,x.2.2)=x:=rfl
theorem s_AckIn_eq (d:Door)(t:Tupl)(g:Segm)(hs:smallD d)(hl:d.halves.length≤4294967296):s_AckIn.f (d,t,g,())=ackN d t g:=by
 simp only[PX,s_AckIn,q_l26Copy,q_l26Right d t g hs,q_FindConn,q_FindHalf,q_SeqAdd,iSeqAdd_eq,s_Reset_eq,q_CheckCookie,q_LearnedOptions]
 unfold ackN
 cases h1:i_DoorOk.f (d,())with
 |false=>simp
 |true=>
 cases h2:i_TupleOk.f (t,())with
 |false=>simp
 |true=>
 cases h3:i_SegmentOk.f (g,())with
 |false=>simp
 |true=>
 have hD:=(DO_iff d).1 h1
 have hg:=(SegmentOk_parts g).1 h3
 have hw:=hg.2.2.2.2.2.1
 by_cases h4:0≤i_FindConn.f (d.table,t,())
 ·rw[if_neg (fun h=>h.2.2.2 h4),decide_eq_true h4];rfl
 rw[if_pos ⟨rfl,rfl,rfl,h4⟩,decide_eq_false h4]
 simp only[Bool.and_self,Bool.not_true,cond_false]
 by_cases h5:0≤i_FindHalf.f (d.halves,t,())
 ·rw[if_pos h5,decide_eq_true h5]
  have ho:=half_opts d.halves t hD.hal h5
  obtain⟨h,hh⟩:∃h,d.halves.getD (i_FindHalf.f (d.halves,t,())).toNat (Ty.zero .half)=h:=⟨_,rfl⟩
  rw[hh]at ho
  rw[cond_true,hh]
  by_cases h6:g.ack=(h.iss+1)%4294967296
  ·rw[if_neg (fun hh=>hh h6),show(g.ack != (h.iss+1)%4294967296)=false by simp[h6]]
   by_cases h7:g.seq=(h.irs+1)%4294967296
   ·rw[if_neg (fun hh=>hh h7),show(g.seq != (h.irs+1)%4294967296)=false by simp[h7]]
    rw[s_ConnNew_eq t h.iss h.irs h.opts g.window ho hw.1 hw.2,s_Let_eq d _ g 1 hs (new_ok t h.iss h.irs h.opts g.window h2 ho hw.1 hw.2).2 hl]
    generalize letN d (newN t h.iss h.irs h.opts g.window) g 1=z
    exact eta3 z
   ·rw[if_pos h7,show(g.seq != (h.irs+1)%4294967296)=true by simp[h7]];rfl
  ·rw[if_pos h6,show(g.ack != (h.iss+1)%4294967296)=true by simp[h6]];rfl
 ·rw[if_neg h5,decide_eq_false h5]
  have ho:=Learned_ok (i_CheckCookie.f (d.keys,t,(g.seq+ -1)%4294967296,(g.ack+ -1)%4294967296,())).2.1 g.opts hg.2.2.2.2.2.2.1
  generalize i_CheckCookie.f (d.keys,t,(g.seq+ -1)%4294967296,(g.ack+ -1)%4294967296,())=k at ho⊢
  rw[cond_false]
  cases h6:k.2.2 with
  |false=>simp
  |true=>
   simp only[Bool.not_true,cond_false,if_true]
   have e1:=s_ConnNew_eq t ((g.ack+ -1)%4294967296) ((g.seq+ -1)%4294967296) (i_LearnedOptions.f (k.2.1,g.opts,())) g.window ho hw.1 hw.2
   have e2:=s_Let_eq d (newN t ((g.ack+ -1)%4294967296) ((g.seq+ -1)%4294967296) (i_LearnedOptions.f (k.2.1,g.opts,())) g.window) g 2 hs (new_ok t _ _ _ g.window h2 ho hw.1 hw.2).2 hl
   simp only[e1,e2]
theorem i_AckIn_eq (d:Door)(t:Tupl)(g:Segm)(hl:d.halves.length≤4294967296):i_AckIn.f (d,t,g,())=ackN d t g:=by
 simp only[PX,i_AckIn,q_cloneDoor,iSeqAdd_eq]
 unfold ackN
 have e:(bif !i_DoorOk.f (d,())then(true,())else bif !i_TupleOk.f (t,())then(true,())else bif !i_SegmentOk.f (g,())then(true,())else(decide (0≤i_FindConn.f (d.table,t,())),())).1= !decide (i_DoorOk.f (d,())=true∧i_TupleOk.f (t,())=true∧i_SegmentOk.f (g,())=true∧¬0≤i_FindConn.f (d.table,t,())):=by
  by_cases h4:0≤i_FindConn.f (d.table,t,())
  ·rw[decide_eq_true h4];cases i_DoorOk.f (d,())<;>cases i_TupleOk.f (t,())<;>cases i_SegmentOk.f (g,())<;>simp[h4]
  ·rw[decide_eq_false h4];cases i_DoorOk.f (d,())<;>cases i_TupleOk.f (t,())<;>cases i_SegmentOk.f (g,())<;>simp[h4]
 rw[e]
 by_cases hq:i_DoorOk.f (d,())=true∧i_TupleOk.f (t,())=true∧i_SegmentOk.f (g,())=true∧¬0≤i_FindConn.f (d.table,t,())
 case neg=>rw[decide_eq_false hq,if_neg hq];rfl
 rw[decide_eq_true hq,if_pos hq]
 obtain⟨h1,h2,h3,h4⟩:=hq
 have hD:=(DO_iff d).1 h1
 have hg:=(SegmentOk_parts g).1 h3
 have hw:=hg.2.2.2.2.2.1
 have L:∀(c:Conn) (m:Int),SmallP c.r.held→(c.tuple=t)→(bif !(i_PutConn.f (d.table,c,d.limits,())).2 then(d,([]:List Segm),(0:Int))else(({d with halves:=i_DropHalf.f (d.halves,t,()),table:=i_SetConn.f ((i_PutConn.f (d.table,c,d.limits,())).1,(i_Receive.f (c,g,())).1,())}:Door),(i_Receive.f (c,g,())).2.1,m))=letN d c g m:=by
  intro c m hc ht
  rw[i_PutConn_eq,i_Receive_eq c g hc,i_DropHalf_eq _ _ hl]
  unfold letN
  by_cases hT:i_TableOk.f ((⟨d.table.conns++[c],d.table.waiting++[c.tuple]⟩:Tabl),d.limits,())=true
  ·rw[if_pos hT,if_pos hT]
   simp only[Bool.not_true,cond_false]
   rw[let_table d.table d.limits c g hc hT,ht]
  ·rw[if_neg hT,if_neg hT];rfl
 simp only[Bool.not_true,cond_false]
 by_cases h5:0≤i_FindHalf.f (d.halves,t,())
 ·rw[if_pos h5]
  simp only[decide_eq_true h5,cond_true]
  have ho:=half_opts d.halves t hD.hal h5
  generalize d.halves.getD (i_FindHalf.f (d.halves,t,())).toNat (Ty.zero .half)=h at ho⊢
  by_cases h6:g.ack=(h.iss+1)%4294967296
  ·rw[if_neg (fun hh=>hh h6)]
   simp only[show(g.ack != (h.iss+1)%4294967296)=false by simp[h6],cond_false]
   by_cases h7:g.seq=(h.irs+1)%4294967296
   ·rw[if_neg (fun hh=>hh h7)]
    simp only[show(g.seq != (h.irs+1)%4294967296)=false by simp[h7],cond_false]
    rw[←L _ 1 (new_ok t h.iss h.irs h.opts g.window h2 ho hw.1 hw.2).2 rfl,←i_ConnNew_eq t h.iss h.irs h.opts g.window ho hw.1 hw.2]
    rfl
   ·rw[if_pos h7]
    simp only[show(g.seq != (h.irs+1)%4294967296)=true by simp[h7],cond_true]
    rfl
  ·rw[if_pos h6]
   simp only[show(g.ack != (h.iss+1)%4294967296)=true by simp[h6],cond_true]
   rfl
 ·rw[if_neg h5]
  simp only[decide_eq_false h5,cond_false]
  have ho:=Learned_ok (i_CheckCookie.f (d.keys,t,(g.seq+ -1)%4294967296,(g.ack+ -1)%4294967296,())).2.1 g.opts hg.2.2.2.2.2.2.1
  generalize i_CheckCookie.f (d.keys,t,(g.seq+ -1)%4294967296,(g.ack+ -1)%4294967296,())=k at ho⊢
  cases h6:k.2.2 with
  |false=>
   simp only[Bool.not_false,cond_true,Bool.false_eq_true,if_false]
   rfl
  |true=>
   simp only[Bool.not_true,cond_false,if_true]
   rw[←L _ 2 (new_ok t _ _ _ g.window h2 ho hw.1 hw.2).2 rfl,←i_ConnNew_eq t _ _ _ g.window ho hw.1 hw.2]
   rfl
def segT (src:Int)(g:Segm):Tupl:=⟨src,g.from_,g.to⟩
def connN (d:Door)(k:Nat)(g:Segm):Door×List Segm×Int:=
 if(recvN (d.table.conns.getD k (Ty.zero .conn)) g).2.2=3 then
  if d.chal=d.limits.chal then({d with table.conns:=d.table.conns.set k (recvN (d.table.conns.getD k (Ty.zero .conn)) g).1},[],0)
  else({d with table.conns:=d.table.conns.set k (recvN (d.table.conns.getD k (Ty.zero .conn)) g).1,chal:=d.chal+1},(recvN (d.table.conns.getD k (Ty.zero .conn)) g).2.1,0)
 else({d with table.conns:=d.table.conns.set k (recvN (d.table.conns.getD k (Ty.zero .conn)) g).1},(recvN (d.table.conns.getD k (Ty.zero .conn)) g).2.1,0)
def rstN (d:Door)(t:Tupl)(g:Segm):Door:=
 if 0≤i_FindHalf.f (d.halves,t,())∧g.seq=((d.halves.getD (i_FindHalf.f (d.halves,t,())).toNat (Ty.zero .half)).irs+1)%4294967296 then{d with halves:=dropN d.halves t}else d
def segN (d:Door)(src:Int)(g:Segm):Door×List Segm×Int:=
 if i_DoorOk.f (d,())=true∧i_WordOk.f (src,32,())=true∧i_SegmentOk.f (g,())=true then
  if g.to≠d.port then(d,i_resets.f (g,()),0)
  else if 0≤i_FindConn.f (d.table,segT src g,())then connN d (i_FindConn.f (d.table,segT src g,())).toNat g
  else bif i_Has.f (g,4,())then(rstN d (segT src g) g,[],0)
  else bif i_Has.f (g,2,())&&(!i_Has.f (g,16,())&& !i_Has.f (g,1,()))then((i_SynIn.f (d,segT src g,g,())).1,(i_SynIn.f (d,segT src g,g,())).2,0)
  else bif i_Has.f (g,16,())&& !i_Has.f (g,2,())then ackN d (segT src g) g
  else bif i_Has.f (g,16,())then(d,i_resets.f (g,()),0)else(d,[],0)
 else(d,[],0)
theorem conn_idx (d:Door)(t:Tupl)(h:0≤i_FindConn.f (d.table,t,())):∃k:Nat,i_FindConn.f (d.table,t,())=(k:Int)∧∃hk:k<d.table.conns.length,d.table.conns[k].tuple=t:=by
 rw[i_FindConn_eq2]at h⊢
 exact conn_at _ _ (decide_eq_true h)
theorem s_27_eq (d:Door)(k:Nat)(g:Segm)(hs:smallD d)(hD:DO d)(hk:k<d.table.conns.length):s_l27Conn.f (d,(k:Int),g,())=connN d k g:=by
 have hsk:SmallP (d.table.conns.getD k (Ty.zero .conn)).r.held:=by
  rw[getD_some (List.getElem?_eq_getElem hk)];exact hs _ (List.getElem_mem hk)
 have k0:=hD.k0
 have k1:=hD.k1
 have k2:=hD.tab.lim.k1
 simp only[PX,s_l27Conn,q_l26Copy,toNat_cast,s_Receive_eq _ g hsk]
 unfold connN
 rw[wrap64 (by omega) (by omega)]
 by_cases h3:(recvN (d.table.conns.getD k (Ty.zero .conn)) g).2.2=3
 ·rw[if_pos h3,show((recvN (d.table.conns.getD k (Ty.zero .conn)) g).2.2==3)=true by rw[h3];rfl,cond_true]
  by_cases h4:d.chal=d.limits.chal
  ·rw[if_pos h4,show(d.chal==d.limits.chal)=true by simp[h4]];rfl
  ·rw[if_neg h4,show(d.chal==d.limits.chal)=false by simp[h4]];rfl
 ·rw[if_neg h3,show((recvN (d.table.conns.getD k (Ty.zero .conn)) g).2.2==3)=false from beq_eq_false_iff_ne.2 h3];rfl
theorem q_TupleOf (s:Int)(g:Segm):s_TupleOf.f (s,g,())=segT s g:=by simp only[PX,s_TupleOf,segT]
theorem i_TupleOf_eq (s:Int)(g:Segm):i_TupleOf.f (s,g,())=segT s g:=by simp only[PX,i_TupleOf,segT]
theorem ok3 (a b c:Bool):(bif !a then(true,())else bif !b then(true,())else(!c,())).1= !decide (a=true∧b=true∧c=true):=by cases a<;>cases b<;>cases c<;>rfl
theorem hs3 (a b c:Bool):(bif a then bif !b then(!c,())else(false,())else(false,())).1=(a&&(!b&& !c)):=by cases a<;>cases b<;>cases c<;>rfl
theorem hs2 (a b:Bool):(bif a then(!b,())else(false,())).1=(a&& !b):=by cases a<;>cases b<;>rfl
theorem rst_cond (p:Prop)[Decidable p](a b:Int):(bif decide p then(a==b,())else(false,())).1=decide (p∧a=b):=by
 by_cases h:p<;>by_cases h2:a=b<;>simp[h,h2]
theorem s_SegIn_eq (d:Door)(src:Int)(g:Segm)(hs:smallD d)(hl:d.halves.length≤4294967296):s_SegIn.f (d,src,g,())=segN d src g:=by
 simp only[PX,s_SegIn,q_l26Copy,q_DoorOk d hs,q_WordOk,q_SegmentOk,q_TupleOf,q_FindConn,q_FindHalf,q_SeqAdd,iSeqAdd_eq,s_Reset_eq,q_Has,q_SynIn d _ g hs,s_AckIn_eq d _ g hs hl,s_DropHalf_eq _ _ hl,ok3,hs3,hs2]
 unfold segN
 by_cases hq:i_DoorOk.f (d,())=true∧i_WordOk.f (src,32,())=true∧i_SegmentOk.f (g,())=true
 case neg=>rw[decide_eq_false hq,if_neg hq];rfl
 rw[decide_eq_true hq,if_pos hq,Bool.not_true,cond_false]
 have hD:=(DO_iff d).1 hq.1
 by_cases hp:g.to=d.port
 case neg=>rw[if_pos hp,show(g.to != d.port)=true by simp[hp]];rfl
 rw[if_neg (fun h=>h hp),show(g.to != d.port)=false by simp[hp],cond_false]
 by_cases hc:0≤i_FindConn.f (d.table,segT src g,())
 ·rw[if_pos hc,decide_eq_true hc,cond_true]
  obtain⟨k,e,hk,-⟩:=conn_idx d _ hc
  rw[e,toNat_cast,s_27_eq d k g hs hD hk]
 rw[if_neg hc,decide_eq_false hc,cond_false]
 cases i_Has.f (g,4,())with
 |true=>
  rw[cond_true,cond_true,rst_cond]
  unfold rstN
  by_cases hr:0≤i_FindHalf.f (d.halves,segT src g,())∧g.seq=((d.halves.getD (i_FindHalf.f (d.halves,segT src g,())).toNat (Ty.zero .half)).irs+1)%4294967296
  ·rw[decide_eq_true hr,if_pos hr];rfl
  ·rw[decide_eq_false hr,if_neg hr];rfl
 |false=>
  rw[cond_false,cond_false]
theorem i_SegIn_eq (d:Door)(src:Int)(g:Segm)(hs:smallD d)(hl:d.halves.length≤4294967296):i_SegIn.f (d,src,g,())=segN d src g:=by
 simp only[PX,i_SegIn,q_cloneDoor,i_TupleOf_eq,iSeqAdd_eq,i_AckIn_eq d _ g hl,i_DropHalf_eq _ _ hl,ok3,hs3,hs2]
 unfold segN
 by_cases hq:i_DoorOk.f (d,())=true∧i_WordOk.f (src,32,())=true∧i_SegmentOk.f (g,())=true
 case neg=>rw[decide_eq_false hq,if_neg hq];rfl
 rw[decide_eq_true hq,if_pos hq,Bool.not_true,cond_false]
 have hD:=(DO_iff d).1 hq.1
 by_cases hp:g.to=d.port
 case neg=>rw[if_pos hp,show(g.to != d.port)=true by simp[hp]];rfl
 rw[if_neg (fun h=>h hp),show(g.to != d.port)=false by simp[hp],cond_false]
 by_cases hc:0≤i_FindConn.f (d.table,segT src g,())
 ·rw[if_pos hc,decide_eq_true hc,cond_true]
  obtain⟨k,e,hk,ht⟩:=conn_idx d _ hc
  rw[e,toNat_cast]
  have hsk:SmallP (d.table.conns.getD k (Ty.zero .conn)).r.held:=by
   rw[getD_some (List.getElem?_eq_getElem hk)];exact hs _ (List.getElem_mem hk)
  have hck:CO (d.table.conns.getD k (Ty.zero .conn)):=by
   rw[getD_some (List.getElem?_eq_getElem hk)];exact hD.tab.co _ (List.getElem_mem hk)
  have hrk:=recv_ok _ g hck hsk
  have hset:i_SetConn.f (d.table,(recvN (d.table.conns.getD k (Ty.zero .conn)) g).1,())=⟨d.table.conns.set k (recvN (d.table.conns.getD k (Ty.zero .conn)) g).1,d.table.waiting⟩:=i_SetConn_eq d.table _ hD.tab.dc k hk (by rw[hrk.2.1,getD_some (List.getElem?_eq_getElem hk)])
  have k0:=hD.k0
  have k1:=hD.k1
  have k2:=hD.tab.lim.k1
  rw[i_Receive_eq _ g hsk]
  unfold connN
  by_cases h3:(recvN (d.table.conns.getD k (Ty.zero .conn)) g).2.2=3
  ·rw[if_pos h3,show((recvN (d.table.conns.getD k (Ty.zero .conn)) g).2.2==3)=true by rw[h3];rfl,cond_true]
   by_cases h4:d.chal=d.limits.chal
   ·rw[if_pos h4,show(d.chal==d.limits.chal)=true by simp[h4]]
    show(({d with table:=i_SetConn.f (d.table,(recvN (d.table.conns.getD k (Ty.zero .conn)) g).1,())}:Door),([]:List Segm),(0:Int))=_
    rw[hset]
   ·rw[if_neg h4,show(d.chal==d.limits.chal)=false by simp[h4]]
    show(({d with table:=i_SetConn.f (d.table,(recvN (d.table.conns.getD k (Ty.zero .conn)) g).1,()),chal:=IntKind.wrap .i64 (d.chal+1)}:Door),(recvN (d.table.conns.getD k (Ty.zero .conn)) g).2.1,(0:Int))=_
    rw[hset,wrap64 (by omega) (by omega)]
  ·rw[if_neg h3,show((recvN (d.table.conns.getD k (Ty.zero .conn)) g).2.2==3)=false from beq_eq_false_iff_ne.2 h3]
   show(({d with table:=i_SetConn.f (d.table,(recvN (d.table.conns.getD k (Ty.zero .conn)) g).1,())}:Door),(recvN (d.table.conns.getD k (Ty.zero .conn)) g).2.1,(0:Int))=_
   rw[hset]
 rw[if_neg hc,decide_eq_false hc,cond_false]
 cases i_Has.f (g,4,())with
 |true=>
  rw[cond_true,cond_true,rst_cond]
  unfold rstN
  by_cases hr:0≤i_FindHalf.f (d.halves,segT src g,())∧g.seq=((d.halves.getD (i_FindHalf.f (d.halves,segT src g,())).toNat (Ty.zero .half)).irs+1)%4294967296
  ·rw[decide_eq_true hr,if_pos hr];rfl
  ·rw[decide_eq_false hr,if_neg hr];rfl
 |false=>
  rw[cond_false,cond_false]
theorem not_conn (t:Tabl)(x:Tupl):¬0≤i_FindConn.f (t,x,())↔x∉t.conns.map Conn.tuple:=by
 rw[i_FindConn_eq2,←any_eqT,←fidx_nn]
 simp
theorem not_half (xs:List Half)(x:Tupl):¬0≤i_FindHalf.f (xs,x,())↔x∉xs.map Half.tuple:=by
 rw[i_FindHalf_eq2,←any_eqT,←fidx_nn]
 simp
theorem let_DO (d:Door)(c:Conn)(g:Segm)(m:Int)(hD:DO d)(hs:SmallP c.r.held)(hn:c.tuple∉d.table.conns.map Conn.tuple):DO (letN d c g m).1∧∀y∈(letN d c g m).2.1,i_SegmentOk.f (y,())=true:=by
 unfold letN
 by_cases hT:i_TableOk.f ((⟨d.table.conns++[c],d.table.waiting++[c.tuple]⟩:Tabl),d.limits,())=true
 case neg=>rw[if_neg hT];exact⟨hD,fun y hy=>by cases hy⟩
 rw[if_pos hT]
 have h:=(TO_iff _ _).1 hT
 have hc:=h.co c (by simp)
 have hr:=recv_ok c g hc hs
 have hset:=TO.set h d.table.conns.length (recvN c g).1 hr.1 (by simp) (by simp[hr.2.1])
 have e:(d.table.conns++[c]).set d.table.conns.length (recvN c g).1=d.table.conns++[(recvN c g).1]:=by simp
 rw[e]at hset
 have hsub:=dropN_sub d.halves c.tuple
 refine⟨⟨hD.port,hD.c0,hD.c1,hD.keys,hset,HO.sub hD.hal hsub, ?_,hD.k0,hD.k1, ?_⟩,hr.2.2.1⟩
 ·show((dropN d.halves c.tuple).length:Int)≤d.limits.halves
  have:=hsub.length_le
  have:=hD.nh
  omega
 ·intro y hy hm
  have hy2:y∈dropN d.halves c.tuple:=hy
  have hm2:y.tuple∈(d.table.conns++[(recvN c g).1]).map Conn.tuple:=hm
  rw[List.map_append,List.mem_append]at hm2
  rcases hm2 with h1|h1
  ·exact hD.ap y (hsub.subset hy2) h1
  ·simp only[List.map_cons,List.map_nil,List.mem_singleton,hr.2.1]at h1
   have hy3:=List.mem_map_of_mem (f:=Half.tuple) hy2
   rw[h1]at hy3
   exact dropN_gone d.halves c.tuple hD.hal.nd hy3
theorem resets_le (g:Segm):(i_resets.f (g,())).length≤1:=by
 rw[resets_eq];cases i_Has.f (g,4,())<;>simp
theorem ack_ok (d:Door)(t:Tupl)(g:Segm)(hD:DO d):DO (ackN d t g).1∧∀y∈(ackN d t g).2.1,i_SegmentOk.f (y,())=true:=by
 have nil:∀y∈([]:List Segm),i_SegmentOk.f (y,())=true:=fun y hy=>by cases hy
 unfold ackN
 split
 ·rename_i hq
  obtain⟨h1,h2,h3,h4⟩:=hq
  have hg:=(SegmentOk_parts g).1 h3
  have hw:=hg.2.2.2.2.2.1
  have hn:=(not_conn d.table t).1 h4
  split
  ·rename_i h5
   have ho:=half_opts d.halves t hD.hal h5
   split
   ·exact⟨hD,resets_ok g h3⟩
   ·split
    ·exact⟨hD,nil⟩
    ·exact let_DO d _ g 1 hD (new_ok t _ _ _ g.window h2 ho hw.1 hw.2).2 hn
  ·split
   ·have ho:=Learned_ok (i_CheckCookie.f (d.keys,t,(g.seq+ -1)%4294967296,(g.ack+ -1)%4294967296,())).2.1 g.opts hg.2.2.2.2.2.2.1
    exact let_DO d _ g 2 hD (new_ok t _ _ _ g.window h2 ho hw.1 hw.2).2 hn
   ·exact⟨hD,resets_ok g h3⟩
 ·exact⟨hD,nil⟩
theorem PutHalf_eq (xs:List Half)(h:Half)(n:Int):i_PutHalf.f (xs,h,n,())=if(xs.length:Int)<n∧i_HalvesOk.f (xs++[h],())=true then(xs++[h],true)else(xs,false):=by
 simp only[PX,i_PutHalf,g_Clone_Half,List.nil_append]
 by_cases h1:n≤(xs.length:Int)
 ·rw[decide_eq_true h1,if_neg (by omega)];rfl
 ·rw[decide_eq_false h1]
  cases h2:i_HalvesOk.f (xs++[h],())with
  |true=>rw[if_pos ⟨by omega,rfl⟩];rfl
  |false=>rw[if_neg (by simp)];rfl
theorem SynAck_ok (d:Door)(t:Tupl)(g:Segm)(hk:i_KeysOk.f (d.keys,())=true)(ht:i_TupleOk.f (t,())=true)(hg:i_SegmentOk.f (g,())=true)(sq:Int)(h0:0≤sq∧sq≤4294967295):i_SegmentOk.f (({i_SynAck.f (d,t,g,())with seq:=sq}:Segm),())=true:=by
 have hp:=(SegmentOk_parts g).1 hg
 have h1:=tup_parts t ht
 have ho:=AnswerOptions_Ok g.opts d.clock (by rw[q_OptionsOk];exact hp.2.2.2.2.2.2.1)
 rw[q_OptionsOk]at ho
 rw[SegmentOk_parts]
 simp only[PX,i_SynAck,iSeqAdd_eq]
 exact⟨h1.2.2,h1.2.1,h0,by omega,by omega,by omega,ho,by simp⟩
theorem syn_ok (d:Door)(t:Tupl)(g:Segm)(hD:DO d)(ht:i_TupleOk.f (t,())=true)(hg:i_SegmentOk.f (g,())=true):DO (i_SynIn.f (d,t,g,())).1∧(∀y∈(i_SynIn.f (d,t,g,())).2,i_SegmentOk.f (y,())=true)∧(i_SynIn.f (d,t,g,())).1.table=d.table∧(i_SynIn.f (d,t,g,())).1={d with halves:=(i_SynIn.f (d,t,g,())).1.halves}:=by
 have nil:∀y∈([]:List Segm),i_SegmentOk.f (y,())=true:=fun y hy=>by cases hy
 have hp:=(SegmentOk_parts g).1 hg
 have hsq:=SynAck_seq d t g
 have ha:=SynAck_ok d t g hD.keys ht hg
 have hown:∀y∈[i_SynAck.f (d,t,g,())],i_SegmentOk.f (y,())=true:=fun y hy=>by
  rw[List.mem_singleton.1 hy]
  exact ha (i_SynAck.f (d,t,g,())).seq ⟨hsq.1,hsq.2 ht hD.keys hp.2.2.1⟩
 rw[iSynIn_eq,(DO_iff d).2 hD,ht,hg]
 simp only[Bool.and_self,cond_true]
 by_cases h5:0≤i_FindHalf.f (d.halves,t,())
 ·rw[decide_eq_true h5,cond_true]
  have hiss:0≤(d.halves.getD (i_FindHalf.f (d.halves,t,())).toNat (Ty.zero .half)).iss∧(d.halves.getD (i_FindHalf.f (d.halves,t,())).toNat (Ty.zero .half)).iss≤4294967295:=by
   rw[i_FindHalf_eq2]at h5⊢
   obtain⟨i,e,hi,-⟩:=half_at d.halves t (decide_eq_true h5)
   rw[e,toNat_cast,getD_some (List.getElem?_eq_getElem hi)]
   have:=hD.hal.ok _ (List.getElem_mem hi)
   unfold halfOk at this
   simp only[Bool.and_eq_true,i_WordOk_32,decide_eq_true_eq]at this
   exact this.2.1
  generalize d.halves.getD (i_FindHalf.f (d.halves,t,())).toNat (Ty.zero .half)=h at hiss⊢
  cases(h.irs != g.seq)with
  |true=>exact⟨hD,nil,rfl,rfl⟩
  |false=>exact⟨hD,fun y hy=>by
    simp only[cond_false,List.mem_singleton]at hy
    rw[hy];exact ha h.iss hiss,rfl,rfl⟩
 ·rw[decide_eq_false h5,cond_false]
  by_cases h4:0≤i_FindConn.f (d.table,t,())
  ·rw[decide_eq_false (show¬i_FindConn.f (d.table,t,())<0 by omega),cond_false]
   exact⟨hD,hown,rfl,rfl⟩
  ·rw[decide_eq_true (show i_FindConn.f (d.table,t,())<0 by omega),cond_true,PutHalf_eq]
   refine⟨?_,hown,rfl,rfl⟩
   by_cases h6:(d.halves.length:Int)<d.limits.halves∧i_HalvesOk.f (d.halves++[(⟨t,(i_SynAck.f (d,t,g,())).seq,g.seq,i_KeptOptions.f (g.opts,()),0,g.window⟩:Half)],())=true
   ·rw[if_pos h6]
    refine⟨hD.port,hD.c0,hD.c1,hD.keys,hD.tab,(HO_iff _).1 h6.2, ?_,hD.k0,hD.k1, ?_⟩
    ·show(((d.halves++[_]).length:Nat):Int)≤d.limits.halves
     rw[List.length_append,List.length_singleton];omega
    ·intro y hy
     rcases List.mem_append.1 hy with h7|h7
     ·exact hD.ap y h7
     ·rw[List.mem_singleton.1 h7]
      exact(not_conn d.table t).1 h4
   ·rw[if_neg h6];exact hD
theorem conn_DO (d:Door)(k:Nat)(g:Segm)(hs:smallD d)(hD:DO d)(hk:k<d.table.conns.length):DO (connN d k g).1∧∀y∈(connN d k g).2.1,i_SegmentOk.f (y,())=true:=by
 have nil:∀y∈([]:List Segm),i_SegmentOk.f (y,())=true:=fun y hy=>by cases hy
 have hsk:SmallP (d.table.conns.getD k (Ty.zero .conn)).r.held:=by
  rw[getD_some (List.getElem?_eq_getElem hk)];exact hs _ (List.getElem_mem hk)
 have hck:CO (d.table.conns.getD k (Ty.zero .conn)):=by
  rw[getD_some (List.getElem?_eq_getElem hk)];exact hD.tab.co _ (List.getElem_mem hk)
 have hr:=recv_ok _ g hck hsk
 have ht:(recvN (d.table.conns.getD k (Ty.zero .conn)) g).1.tuple=d.table.conns[k].tuple:=by
  rw[hr.2.1,getD_some (List.getElem?_eq_getElem hk)]
 have k0:=hD.k0
 have k1:=hD.k1
 have hset:=TO.set hD.tab k _ hr.1 hk ht
 have hmap:=set_map d.table.conns k _ hk ht
 have base:∀ch:Int,0≤ch→ch≤d.limits.chal→DO ({d with table.conns:=d.table.conns.set k (recvN (d.table.conns.getD k (Ty.zero .conn)) g).1,chal:=ch}:Door):=fun ch h0 h1=>by
  refine⟨hD.port,hD.c0,hD.c1,hD.keys,hset,hD.hal,hD.nh,h0,h1,fun y hy hm=>hD.ap y hy ?_⟩
  have hm2:y.tuple∈(d.table.conns.set k (recvN (d.table.conns.getD k (Ty.zero .conn)) g).1).map Conn.tuple:=hm
  rw[hmap]at hm2;exact hm2
 unfold connN
 split
 ·split
  ·exact⟨base d.chal k0 k1,nil⟩
  ·exact⟨base (d.chal+1) (by omega) (by omega),hr.2.2.1⟩
 ·exact⟨base d.chal k0 k1,hr.2.2.1⟩
theorem segT_ok (src:Int)(g:Segm)(h1:i_WordOk.f (src,32,())=true)(hg:i_SegmentOk.f (g,())=true):i_TupleOk.f (segT src g,())=true:=by
 have hp:=(SegmentOk_parts g).1 hg
 simp only[PX,i_TupleOk,segT,h1,i_WordOk_16,decide_eq_true hp.1.1,decide_eq_true hp.1.2,decide_eq_true hp.2.1.1,decide_eq_true hp.2.1.2]
 rfl
theorem rst_DO (d:Door)(t:Tupl)(g:Segm)(hD:DO d):DO (rstN d t g):=by
 unfold rstN
 split
 ·have hsub:=dropN_sub d.halves t
  refine⟨hD.port,hD.c0,hD.c1,hD.keys,hD.tab,HO.sub hD.hal hsub, ?_,hD.k0,hD.k1,fun y hy=>hD.ap y (hsub.subset hy)⟩
  show((dropN d.halves t).length:Int)≤d.limits.halves
  have:=hsub.length_le
  have:=hD.nh
  omega
 ·exact hD
theorem seg_ok (d:Door)(src:Int)(g:Segm)(hs:smallD d)(hD:DO d):DO (segN d src g).1∧∀y∈(segN d src g).2.1,i_SegmentOk.f (y,())=true:=by
 have nil:∀y∈([]:List Segm),i_SegmentOk.f (y,())=true:=fun y hy=>by cases hy
 unfold segN
 split
 ·rename_i hq
  obtain⟨h1,h2,h3⟩:=hq
  have ht:=segT_ok src g h2 h3
  split
  ·exact⟨hD,resets_ok g h3⟩
  ·split
   ·rename_i hc
    obtain⟨k,e,hk,-⟩:=conn_idx d _ hc
    rw[e,toNat_cast]
    exact conn_DO d k g hs hD hk
   ·cases i_Has.f (g,4,())with
    |true=>exact⟨rst_DO d _ g hD,nil⟩
    |false=>
     rw[cond_false]
     cases(i_Has.f (g,2,())&&(!i_Has.f (g,16,())&& !i_Has.f (g,1,())))with
     |true=>exact⟨(syn_ok d _ g hD ht h3).1,(syn_ok d _ g hD ht h3).2.1⟩
     |false=>
      rw[cond_false]
      cases(i_Has.f (g,16,())&& !i_Has.f (g,2,()))with
      |true=>exact ack_ok d _ g hD
      |false=>
       rw[cond_false]
       cases i_Has.f (g,16,())with
       |true=>exact⟨hD,resets_ok g h3⟩
       |false=>exact⟨hD,nil⟩
 ·exact⟨hD,nil⟩
theorem fidx_conn_last (xs:List Conn)(c:Conn)(t:Tupl)(hn:t∉xs.map Conn.tuple)(ht:c.tuple=t):fidx (fun h:Conn=>eqT t h.tuple) (xs++[c])=(xs.length:Int):=by
 apply fidx_snoc
 ·rw[←any_eqT]at hn;simpa using hn
 ·show eqT t c.tuple=true
  rw[ht];exact eqT_refl t
structure Let (d:Door)(t:Tupl)(x:Door):Prop where
 con:i_FindConn.f (x.table,t,())=(d.table.conns.length:Int)
 hal:¬0≤i_FindHalf.f (x.halves,t,())
theorem let_in (d:Door)(c:Conn)(g:Segm)(m:Int)(hD:DO d)(hs:SmallP c.r.held)(hn:c.tuple∉d.table.conns.map Conn.tuple)(hT:i_TableOk.f ((⟨d.table.conns++[c],d.table.waiting++[c.tuple]⟩:Tabl),d.limits,())=true):Let d c.tuple (letN d c g m).1∧(letN d c g m).2.2=m:=by
 unfold letN
 rw[if_pos hT]
 have h:=(TO_iff _ _).1 hT
 have hc:=h.co c (by simp)
 have hr:=recv_ok c g hc hs
 refine⟨⟨?_, ?_⟩,rfl⟩
 ·rw[i_FindConn_eq2]
  exact fidx_conn_last d.table.conns _ c.tuple hn hr.2.1
 ·rw[not_half]
  exact dropN_gone d.halves c.tuple hD.hal.nd
def half0 (d:Door)(t:Tupl):Half:=d.halves.getD (i_FindHalf.f (d.halves,t,())).toNat (Ty.zero .half)
theorem half_rng (xs:List Half)(t:Tupl)(h:HO xs)(hf:0≤i_FindHalf.f (xs,t,())):(0≤(xs.getD (i_FindHalf.f (xs,t,())).toNat (Ty.zero .half)).iss∧(xs.getD (i_FindHalf.f (xs,t,())).toNat (Ty.zero .half)).iss≤4294967295)∧(0≤(xs.getD (i_FindHalf.f (xs,t,())).toNat (Ty.zero .half)).irs∧(xs.getD (i_FindHalf.f (xs,t,())).toNat (Ty.zero .half)).irs≤4294967295):=by
 rw[i_FindHalf_eq2]at hf⊢
 obtain⟨i,e,hi,-⟩:=half_at xs t (decide_eq_true hf)
 rw[e,toNat_cast,getD_some (List.getElem?_eq_getElem hi)]
 have:=h.ok _ (List.getElem_mem hi)
 unfold halfOk at this
 simp only[Bool.and_eq_true,i_WordOk_32,decide_eq_true_eq]at this
 exact⟨this.2.1,this.2.2.1⟩
theorem ack_cases (d:Door)(t:Tupl)(g:Segm):((ackN d t g).2.2=0∧(ackN d t g).1=d∧(ackN d t g).2.1.length≤1)∨(DO (ackN d t g).1∧Let d t (ackN d t g).1∧(((ackN d t g).2.2=1∧0≤i_FindHalf.f (d.halves,t,())∧(half0 d t).iss=(g.ack+ -1)%4294967296∧(half0 d t).irs=(g.seq+ -1)%4294967296)∨((ackN d t g).2.2=2∧¬0≤i_FindHalf.f (d.halves,t,())∧(i_CheckCookie.f (d.keys,t,(g.seq+ -1)%4294967296,(g.ack+ -1)%4294967296,())).2.2=true))):=by
 have hA:=fun hD=>(ack_ok d t g hD).1
 unfold ackN at hA⊢
 by_cases hq:i_DoorOk.f (d,())=true∧i_TupleOk.f (t,())=true∧i_SegmentOk.f (g,())=true∧¬0≤i_FindConn.f (d.table,t,())
 case neg=>rw[if_neg hq];exact .inl ⟨rfl,rfl,by simp⟩
 simp only[if_pos hq]at hA⊢
 obtain⟨h1,h2,h3,h4⟩:=hq
 have hD:=(DO_iff d).1 h1
 have hg:=(SegmentOk_parts g).1 h3
 have hw:=hg.2.2.2.2.2.1
 have hn:=(not_conn d.table t).1 h4
 have hrl:=resets_le g
 have hA:=hA hD
 by_cases h5:0≤i_FindHalf.f (d.halves,t,())
 ·simp only[if_pos h5]at hA⊢
  have ho:=half_opts d.halves t hD.hal h5
  have hr:=half_rng d.halves t hD.hal h5
  unfold half0
  generalize d.halves.getD (i_FindHalf.f (d.halves,t,())).toNat (Ty.zero .half)=h at ho hA hr⊢
  by_cases h6:g.ack=(h.iss+1)%4294967296
  ·by_cases h7:g.seq=(h.irs+1)%4294967296
   ·simp only[if_neg (fun hh:g.ack≠(h.iss+1)%4294967296=>hh h6),if_neg (fun hh:g.seq≠(h.irs+1)%4294967296=>hh h7)]at hA⊢
    have hs:=(new_ok t h.iss h.irs h.opts g.window h2 ho hw.1 hw.2).2
    by_cases hT:i_TableOk.f ((⟨d.table.conns++[newN t h.iss h.irs h.opts g.window],d.table.waiting++[t]⟩:Tabl),d.limits,())=true
    ·have hL:=let_in d (newN t h.iss h.irs h.opts g.window) g 1 hD hs hn hT
     exact .inr ⟨hA,hL.1,.inl ⟨hL.2,h5,by omega,by omega⟩⟩
    ·have e:letN d (newN t h.iss h.irs h.opts g.window) g 1=(d,[],0):=by unfold letN;exact if_neg hT
     rw[e];exact .inl ⟨rfl,rfl,by simp⟩
   ·simp only[if_neg (fun hh:g.ack≠(h.iss+1)%4294967296=>hh h6),if_pos (show g.seq≠(h.irs+1)%4294967296 from h7)]
    exact .inl ⟨trivial,trivial,by simp⟩
  ·simp only[if_pos (show g.ack≠(h.iss+1)%4294967296 from h6)]
   exact .inl ⟨trivial,trivial,hrl⟩
 ·simp only[if_neg h5]at hA⊢
  have ho:=Learned_ok (i_CheckCookie.f (d.keys,t,(g.seq+ -1)%4294967296,(g.ack+ -1)%4294967296,())).2.1 g.opts hg.2.2.2.2.2.2.1
  generalize i_CheckCookie.f (d.keys,t,(g.seq+ -1)%4294967296,(g.ack+ -1)%4294967296,())=k at ho hA⊢
  by_cases h6:k.2.2=true
  ·simp only[if_pos h6]at hA⊢
   have hs:=(new_ok t ((g.ack+ -1)%4294967296) ((g.seq+ -1)%4294967296) (i_LearnedOptions.f (k.2.1,g.opts,())) g.window h2 ho hw.1 hw.2).2
   by_cases hT:i_TableOk.f ((⟨d.table.conns++[newN t ((g.ack+ -1)%4294967296) ((g.seq+ -1)%4294967296) (i_LearnedOptions.f (k.2.1,g.opts,())) g.window],d.table.waiting++[t]⟩:Tabl),d.limits,())=true
   ·have hL:=let_in d (newN t ((g.ack+ -1)%4294967296) ((g.seq+ -1)%4294967296) (i_LearnedOptions.f (k.2.1,g.opts,())) g.window) g 2 hD hs hn hT
    exact .inr ⟨hA,hL.1,.inr ⟨hL.2,h5,h6⟩⟩
   ·have e:letN d (newN t ((g.ack+ -1)%4294967296) ((g.seq+ -1)%4294967296) (i_LearnedOptions.f (k.2.1,g.opts,())) g.window) g 2=(d,[],0):=by unfold letN;exact if_neg hT
    rw[e];exact .inl ⟨rfl,rfl,by simp⟩
  ·simp only[if_neg h6]
   exact .inl ⟨trivial,trivial,hrl⟩
theorem t_FnAckIn (x:List Int):w_FnAckIn.f (x,())=true:=by
 by_cases hb:w_big.f (x,())=true
 ·simp only[FX.f,PX,w_FnAckIn,hb,cond_true]
 rw[Bool.not_eq_true]at hb
 have hx:x.length≤1048576:=by
  simp only[PX,w_big,decide_eq_false_iff_not]at hb
  omega
 have hd:=s_DrawAckIn.c.h (x,()) ⟨by simp only[sS];omega,hx⟩
 simp only[PX]at hd
 obtain⟨z,hz⟩:∃z,s_DrawAckIn.f (x,())=z:=⟨_,rfl⟩
 obtain⟨d,t,g⟩:=z
 simp only[hz]at hd
 have hsm:=smallD_of hd.1
 have hl:d.halves.length≤4294967296:=hd.1.2.2.2.2.1
 have hS:=s_AckIn_eq d t g hsm hl
 have hI:=i_AckIn_eq d t g hl
 have hC:=ack_cases d t g
 generalize ackN d t g=r at hS hI hC
 obtain⟨y,l,m⟩:=r
 simp only[]at hC
 have e1:s_SeqAdd.f (g.ack,-1,())=(g.ack+ -1)%4294967296:=by rw[q_SeqAdd,iSeqAdd_eq]
 have e2:s_SeqAdd.f (g.seq,-1,())=(g.seq+ -1)%4294967296:=by rw[q_SeqAdd,iSeqAdd_eq]
 rcases hC with⟨rfl,rfl,hlen⟩|⟨hD,hL,⟨rfl,h5,h6,h7⟩|⟨rfl,h5,h6⟩⟩
 ·simp only[FX.f,PX,w_FnAckIn,hb,cond_false,hz,hS,hI,SameDoor_self,sameSegments_self,bne_self_eq_false,beq_self_eq_true,Bool.not_true,cond_true,decide_eq_true (show((l.length:Int)≤1) by omega)]
 ·unfold half0 at h6 h7
  simp only[FX.f,PX,w_FnAckIn,hb,cond_false,hz,hS,hI,SameDoor_self,sameSegments_self,bne_self_eq_false,beq_self_eq_true,Bool.not_true,cond_true,q_FindHalf,e1,e2,h6,h7,decide_eq_false (show¬i_FindHalf.f (d.halves,t,())<0 by omega),show((1:Int)==0)=false from rfl]
  dsimp only[Tr.nice]
  show(bif i_DoorOk.f (y,())then bif i_FindConn.f (y.table,t,())==(d.table.conns.length:Int)then decide (i_FindHalf.f (y.halves,t,())<0)else false else false)=true
  rw[(DO_iff y).2 hD,hL.con,beq_self_eq_true,cond_true,cond_true,decide_eq_true (Int.not_le.1 hL.hal)]
 ·simp only[FX.f,PX,w_FnAckIn,hb,cond_false,hz,hS,hI,SameDoor_self,sameSegments_self,bne_self_eq_false,beq_self_eq_true,Bool.not_true,cond_true,q_FindHalf,e1,e2,q_CheckCookie,h6,decide_eq_false h5,show((2:Int)==0)=false from rfl,show((2:Int)==1)=false from rfl]
  dsimp only[Tr.nice]
  show(bif i_DoorOk.f (y,())then bif i_FindConn.f (y.table,t,())==(d.table.conns.length:Int)then decide (i_FindHalf.f (y.halves,t,())<0)else false else false)=true
  rw[(DO_iff y).2 hD,hL.con,beq_self_eq_true,cond_true,cond_true,decide_eq_true (Int.not_le.1 hL.hal)]
theorem vd2 (c:Conn)(g:Segm)(h:vdN c g=2):i_Has.f (g,4,())=true∧g.seq=c.r.next:=by
 unfold vdN at h
 cases h1:(i_ConnOk.f (c,())&&(!(c.state==8)&&i_SegmentOk.f (g,())))with
 |false=>rw[h1]at h;simp at h
 |true=>
  rw[h1,cond_true]at h
  cases h4:i_Has.f (g,4,())with
  |true=>
   refine⟨rfl, ?_⟩
   rw[h4,cond_true]at h
   cases h5:(g.seq==c.r.next)with
   |true=>simpa using h5
   |false=>rw[h5]at h;exfalso;revert h;cases inwN g.seq c.r.next (win c.r)<;>simp
  |false=>
   rw[h4]at h
   exfalso;revert h
   cases i_Has.f (g,2,())<;>cases accN c g<;>cases i_Has.f (g,16,())<;>cases fitN c g.ack<;>simp
theorem recv_closed (c:Conn)(g:Segm)(hc:CO c)(hs:SmallP c.r.held)(h8:c.state≠8)(h:(recvN c g).1.state=8):(i_Has.f (g,4,())=true∧g.seq=c.r.next)∨(c.state=6∧(recvN c g).1.s.done=true):=by
 unfold recvN at h⊢
 by_cases v2:vdN c g=2
 ·exact .inl (vd2 c g v2)
 rw[if_neg v2]at h⊢
 by_cases v3:vdN c g=3
 ·rw[if_pos v3]at h;exact absurd h h8
 rw[if_neg v3]at h⊢
 by_cases v4:vdN c g=4
 ·rw[if_pos v4]at h
  exfalso
  revert h
  simp only[]
  split<;>exact h8
 rw[if_neg v4]at h⊢
 by_cases v5:vdN c g=5
 ·rw[if_pos v5]at h⊢
  obtain⟨hx,-,h6,-⟩:=heard_ok c g hs v5
  generalize heardN c g=x at hx h6 h⊢
  by_cases hx8:x.state=8
  ·rw[if_pos hx8];exact .inr (h6 hx8)
  ·rw[if_neg hx8]at h
   have hS:=Pump_sent x x.window hx.snd
   have e:(i_Pump.f (x,x.window,())).1.state=x.state:=by rw[hS.re]
   exact absurd (e.symm.trans h) hx8
 ·rw[if_neg v5]at h;exact absurd h h8
structure Kept (d:Door)(src:Int)(g:Segm)(x:Door):Prop where
 len:d.table.conns.length≤x.table.conns.length
 at_:∀(j:Nat) (hj:j<d.table.conns.length),x.table.conns[j]? =some d.table.conns[j]∨(d.table.conns[j].tuple=segT src g∧x.table.conns[j]? =some (recvN d.table.conns[j] g).1)
 keys:x.keys=d.keys
 clock:x.clock=d.clock
 port:x.port=d.port
 lim:x.limits=d.limits
theorem Kept.same (d:Door)(src:Int)(g:Segm)(x:Door)(ht:x.table=d.table)(h1:x.keys=d.keys)(h2:x.clock=d.clock)(h3:x.port=d.port)(h4:x.limits=d.limits):Kept d src g x:=
 ⟨by rw[ht];exact Nat.le_refl _,fun j hj=> .inl (by rw[ht];exact List.getElem?_eq_getElem hj),h1,h2,h3,h4⟩
theorem seg_kept (d:Door)(src:Int)(g:Segm):Kept d src g (segN d src g).1:=by
 have self:=Kept.same d src g d rfl rfl rfl rfl rfl
 unfold segN
 by_cases hq:i_DoorOk.f (d,())=true∧i_WordOk.f (src,32,())=true∧i_SegmentOk.f (g,())=true
 case neg=>rw[if_neg hq];exact self
 rw[if_pos hq]
 obtain⟨h1,h2,h3⟩:=hq
 have hD:=(DO_iff d).1 h1
 have ht:=segT_ok src g h2 h3
 split
 ·exact self
 ·split
  ·rename_i hc
   obtain⟨k,e,hk,htk⟩:=conn_idx d _ hc
   rw[e,toNat_cast]
   have hget:d.table.conns.getD k (Ty.zero .conn)=d.table.conns[k]:=getD_some (List.getElem?_eq_getElem hk)
   have base:∀x:Door,x.table=⟨d.table.conns.set k (recvN d.table.conns[k] g).1,d.table.waiting⟩→x.keys=d.keys→x.clock=d.clock→x.port=d.port→x.limits=d.limits→Kept d src g x:=by
    intro x hx k1 k2 k3 k4
    refine⟨by rw[hx];simp,fun j hj=> ?_,k1,k2,k3,k4⟩
    rw[hx]
    simp only[List.getElem?_set]
    by_cases hjk:k=j
    ·subst hjk
     rw[if_pos rfl,if_pos hk]
     exact .inr ⟨htk,rfl⟩
    ·rw[if_neg hjk];exact .inl (List.getElem?_eq_getElem hj)
   unfold connN
   rw[hget]
   split
   ·split
    ·exact base _ rfl rfl rfl rfl rfl
    ·exact base _ rfl rfl rfl rfl rfl
   ·exact base _ rfl rfl rfl rfl rfl
  ·cases i_Has.f (g,4,())with
   |true=>
    rw[cond_true]
    unfold rstN
    split
    ·exact Kept.same _ _ _ _ rfl rfl rfl rfl rfl
    ·exact self
   |false=>
    rw[cond_false]
    cases(i_Has.f (g,2,())&&(!i_Has.f (g,16,())&& !i_Has.f (g,1,())))with
    |true=>
     have hy:=(syn_ok d _ g hD ht h3).2.2.2
     rw[cond_true]
     generalize i_SynIn.f (d,segT src g,g,())=r at hy⊢
     simp only[]
     rw[hy]
     exact Kept.same _ _ _ _ rfl rfl rfl rfl rfl
    |false=>
     rw[cond_false]
     cases(i_Has.f (g,16,())&& !i_Has.f (g,2,()))with
     |true=>
      rw[cond_true]
      have hlet:∀(c:Conn) (m:Int),Kept d src g (letN d c g m).1:=by
       intro c m
       unfold letN
       split
       ·refine⟨by simp,fun j hj=> .inl ?_,rfl,rfl,rfl,rfl⟩
        show(d.table.conns++[_])[j]? =_
        rw[List.getElem?_append_left hj];exact List.getElem?_eq_getElem hj
       ·exact self
      unfold ackN
      split
      ·split
       ·split
        ·exact self
        ·split
         ·exact self
         ·exact hlet _ _
       ·split
        ·exact hlet _ _
        ·exact self
      ·exact self
     |false=>
      rw[cond_false]
      cases i_Has.f (g,16,())<;>exact self
theorem seg_bad (d:Door)(src:Int)(g:Segm)(h:i_DoorOk.f (d,())=false):segN d src g=(d,[],0):=by
 unfold segN
 rw[if_neg (by rw[h];simp)]
theorem big_len (x:List Int)(hb:w_big.f (x,())=false):x.length≤1048576:=by
 simp only[PX,w_big,decide_eq_false_iff_not]at hb
 omega
theorem forN_none {W:Type}{f:Int→Unit→Stp Unit W}(n:Nat)(h:∀j:Nat,j<n→f (j:Int) ()= .next ()):forN f 1 n 0 ()= .next ():=by
 have:=(forN_allN (f:=f) n 0).2 (fun j _ h2=>h j (by omega))
 exact this
theorem q_Retained (d:Door)(hD:DO d)(hs:smallD d):s_Retained.f (d,())=i_Retained.f (d,()):=by
 simp only[PX,s_Retained,i_Retained,s_Retained_L0_d,i_Retained_L0_d]
 have h:∀(n j:Nat) (a:Int),j+n=d.table.conns.length→0≤a→a≤10000+240*(j:Int)→forN (fun j a=>(s_Retained_L0_T d j a).nice) 1 n (j:Int) a=forN (fun j a=>(i_Retained_L0_T d.table.conns (d.table.conns.length:Int) j a).nice) 1 n (j:Int) a:=by
  intro n
  induction n with
  |zero=>intro j a _ _ _;rfl
  |succ n ih=>
   intro j a h h0 h1
   have hj:j<d.table.conns.length:=by omega
   have hc:=hD.tab.co _ (List.getElem_mem hj)
   have hr:=(RV_iff _ (hs _ (List.getElem_mem hj))).1 hc.rcv
   have h3:=RV.sum hr
   have h4:=hr.dl
   have h5:=hc.snd.2.2.1
   have hn:=hD.tab.nc
   have hn2:=hD.tab.lim.c2
   have e1:(s_Retained_L0_T d (j:Int) a).nice= .next (a+connSize d.table.conns[j]):=by
    simp only[PX,s_Retained_L0_T,s_Retained_L0_0_d,toNat_cast,getD_some (List.getElem?_eq_getElem hj)]
    rw[toNat_sub0,forN_list d.table.conns[j].r.held _ rfl (F:=fun _ p (a:Int)=> .next (IntKind.wrap .i64 (a+(p.text.length:Int)))) (by
     intro j x a h
     simp only[PX,s_Retained_L0_0_T,toNat_cast,getD_some h])]
    rw[wrap64 (m:=a+128) (by omega) (by omega),wrap64 (m:=a+128+(d.table.conns[j].s.data.length:Int)) (by omega) (by omega),wrap64 (by omega) (by omega),Ret_in Empty d.table.conns[j].r.held 0 _ (by omega) (by omega)]
    simp only[Stp.elim,PX]
    unfold connSize
    congr 1;omega
   have e2:(i_Retained_L0_T d.table.conns (d.table.conns.length:Int) (j:Int) a).nice= .next (a+connSize d.table.conns[j]):=by
    simp only[PX,i_Retained_L0_T,i_Retained_L0_0_d,toNat_cast,getD_some (List.getElem?_eq_getElem hj)]
    rw[toNat_sub0,forN_list d.table.conns[j].r.held _ rfl (F:=fun _ p (a:Int)=> .next (IntKind.wrap .i64 (a+(p.text.length:Int)))) (by
     intro j x a h
     simp only[PX,i_Retained_L0_0_T,toNat_cast,getD_some h])]
    rw[wrap64 (m:=128+(d.table.conns[j].s.data.length:Int)) (by omega) (by omega),wrap64 (m:=128+(d.table.conns[j].s.data.length:Int)+(d.table.conns[j].r.data.length:Int)) (by omega) (by omega),wrap64 (by omega) (by omega),Ret_in Empty d.table.conns[j].r.held 0 _ (by omega) (by omega)]
    simp only[Stp.elim,PX]
    unfold connSize
    congr 1;omega
   simp only[forN,e1,e2,Stp.elim]
   rw[show(j:Int)+1=((j+1:Nat):Int) by omega]
   refine ih (j+1) _ (by omega) ?_ ?_
   ·unfold connSize;omega
   ·unfold connSize;omega
 have a1:=hD.tab.lim.h2
 have a2:=hD.tab.lim.w2
 have a5:=hD.tab.nw
 have a6:=hD.nh
 rw[wrap64 (m:=64*(d.halves.length:Int)) (by omega) (by omega),wrap64 (m:=8*(d.table.waiting.length:Int)) (by omega) (by omega),wrap64 (by omega) (by omega),toNat_sub0]
 rw[show(0:Int)=((0:Nat):Int) from rfl,h d.table.conns.length 0 _ (by omega) (by omega) (by omega)]
theorem q_RetainedMost (l:Limi):s_RetainedMost.f (l,())=i_RetainedMost.f (l,()):=by
 simp only[PX,s_RetainedMost,i_RetainedMost,q_LimitsOk]
theorem t_FnSegIn (x:List Int):w_FnSegIn.f (x,())=true:=by
 by_cases hb:w_big.f (x,())=true
 ·simp only[FX.f,PX,w_FnSegIn,hb,cond_true]
 rw[Bool.not_eq_true]at hb
 have hx:=big_len x hb
 have hd:=s_DrawSegIn.c.h (x,()) ⟨by simp only[sS];omega,hx⟩
 simp only[PX]at hd
 obtain⟨z,hz⟩:∃z,s_DrawSegIn.f (x,())=z:=⟨_,rfl⟩
 obtain⟨d,src,g⟩:=z
 simp only[hz]at hd
 have hsm:=smallD_of hd.1
 have hl:d.halves.length≤4294967296:=hd.1.2.2.2.2.1
 have hS:=s_SegIn_eq d src g hsm hl
 have hI:=i_SegIn_eq d src g hsm hl
 have hsm2:=(i_SegIn.c.h (d,src,g,()) hd).1
 simp only[PX,hI]at hsm2
 have hdo:=q_DoorOk d hsm
 rcases Bool.eq_false_or_eq_true (i_DoorOk.f (d,()))with h|h
 ·have hD:=(DO_iff d).1 h
  obtain⟨hX,hok⟩:=seg_ok d src g hsm hD
  have hK:=seg_kept d src g
  have hlim:=hK.lim
  generalize segN d src g=r at hS hI hX hok hsm2 hlim
  obtain⟨y,l,m⟩:=r
  simp only[]at hX hok hsm2 hlim
  have hsy:=smallD_of hsm2
  have hr:=Retained_le y hX hsy
  rw[hlim]at hr
  have hloop:forN (fun j a=>(w_FnSegIn_L0_T l j a).nice) 1 (Int.toNat ((l.length:Int)-0)) 0 ()= .next ():=by
   rw[toNat_sub0]
   refine forN_none l.length (fun j hj=> ?_)
   have:=hok _ (List.getElem_mem hj)
   simp only[PX,w_FnSegIn_L0_T,toNat_cast,getD_some (List.getElem?_eq_getElem hj),q_SegmentOk,this,Bool.not_true,cond_false]
  simp only[FX.f,PX,w_FnSegIn,hb,cond_false,hz,hS,hI,SameDoor_self,sameSegments_self,bne_self_eq_false,Bool.not_true,hdo,h,w_FnSegIn_L0_d,hloop,Stp.elim,Sum.elim_inr,(DO_iff y).2 hX,cond_true,decide_eq_true hr,q_Retained y hX hsy,q_RetainedMost,beq_self_eq_true]
 ·have hbad:=seg_bad d src g h
  rw[hbad]at hS hI
  simp only[FX.f,PX,w_FnSegIn,hb,cond_false,hz,hS,hI,SameDoor_self,sameSegments_self,bne_self_eq_false,Bool.not_true,Bool.not_false,hdo,h,cond_true,List.length_nil]
  rfl
theorem t_FnApart (x:List Int):w_FnApart.f (x,())=true:=by
 by_cases hb:w_big.f (x,())=true
 ·simp only[FX.f,PX,w_FnApart,hb,cond_true]
 rw[Bool.not_eq_true]at hb
 have hx:=big_len x hb
 have hd:=s_DrawSegIn.c.h (x,()) ⟨by simp only[sS];omega,hx⟩
 simp only[PX]at hd
 obtain⟨z,hz⟩:∃z,s_DrawSegIn.f (x,())=z:=⟨_,rfl⟩
 obtain⟨d,src,g⟩:=z
 simp only[hz]at hd
 have hsm:=smallD_of hd.1
 have hl:d.halves.length≤4294967296:=hd.1.2.2.2.2.1
 have hS:=s_SegIn_eq d src g hsm hl
 have hI:=i_SegIn_eq d src g hsm hl
 have hK:=seg_kept d src g
 generalize segN d src g=r at hS hI hK
 obtain⟨y,l,m⟩:=r
 simp only[]at hK
 obtain⟨hlen,hat,hk1,hk2,hk3,hk4⟩:=hK
 have hkeys:s_SameKeys.f (y.keys,d.keys,())=true:=by rw[hk1];exact SameKeys_self _
 have hstep:∀j:Nat,j<d.table.conns.length→s_DoorOk.f (d,())=true→(w_FnApart_L0_T src d g y (j:Int) ()).nice= .next ():=by
  intro j hj hdo
  have hg:=getD_some (d:=Ty.zero .conn) (List.getElem?_eq_getElem hj)
  simp only[PX,w_FnApart_L0_T,hdo,cond_true,toNat_cast,hg,q_TupleOf]
  rcases hat j hj with h1|⟨h1,-⟩
  ·have hg2:=getD_some (d:=Ty.zero .conn) h1
   simp only[hg2,SameConn_self,Bool.not_true,cond_false]
   cases(!(d.table.conns[j].tuple.ip==(segT src g).ip&&(d.table.conns[j].tuple.port==(segT src g).port&&(d.table.conns[j].tuple.my==(segT src g).my&&true))))<;>rfl
  ·simp only[h1,beq_self_eq_true,Bool.and_self,Bool.not_true,cond_false]
 have hend:∀b:Bool,s_DoorOk.f (d,())=b→forN (fun j a=>(w_FnApart_L0_T src d g y j a).nice) 1 (Int.toNat ((d.table.conns.length:Int)-0)) 0 ()= .next ()∨forN (fun j a=>(w_FnApart_L0_T src d g y j a).nice) 1 (Int.toNat ((d.table.conns.length:Int)-0)) 0 ()= .out (.inr ()):=by
  intro b hbb
  rw[toNat_sub0]
  cases b with
  |true=>exact .inl (forN_none _ fun j hj=>hstep j hj hbb)
  |false=>
   rcases Nat.eq_zero_or_pos d.table.conns.length with h0|h0
   ·rw[h0];exact .inl rfl
   ·obtain⟨n,hn⟩:∃n,d.table.conns.length=n+1:=⟨d.table.conns.length-1,by omega⟩
    rw[hn]
    refine .inr ?_
    simp only[forN,PX,w_FnApart_L0_T,hbb,cond_false,Stp.elim]
 rcases hend _ rfl with h|h
 ·simp only[FX.f,PX,w_FnApart,hb,cond_false,hz,hS,hI,SameDoor_self,Bool.not_true,w_FnApart_L0_d,h,Stp.elim,Sum.elim_inr,hkeys,cond_true,hk2,hk3,hk4,beq_self_eq_true,Bool.and_self]
 ·simp only[FX.f,PX,w_FnApart,hb,cond_false,hz,hS,hI,SameDoor_self,Bool.not_true,w_FnApart_L0_d,h,Stp.elim,Sum.elim_inr,Sum.elim_inl,hkeys,cond_true,hk2,hk3,hk4,beq_self_eq_true,Bool.and_self]
theorem t_FnReset (x:List Int):w_FnReset.f (x,())=true:=by
 by_cases hb:w_big.f (x,())=true
 ·simp only[FX.f,PX,w_FnReset,hb,cond_true]
 rw[Bool.not_eq_true]at hb
 have hx:=big_len x hb
 have hd:=s_DrawSegIn.c.h (x,()) ⟨by simp only[sS];omega,hx⟩
 simp only[PX]at hd
 obtain⟨z,hz⟩:∃z,s_DrawSegIn.f (x,())=z:=⟨_,rfl⟩
 obtain⟨d,src,g⟩:=z
 simp only[hz]at hd
 have hsm:=smallD_of hd.1
 have hl:d.halves.length≤4294967296:=hd.1.2.2.2.2.1
 have hS:=s_SegIn_eq d src g hsm hl
 have hI:=i_SegIn_eq d src g hsm hl
 have hdo:=q_DoorOk d hsm
 rcases Bool.eq_false_or_eq_true (i_DoorOk.f (d,()))with h|h
 case inr=>
  simp only[FX.f,PX,w_FnReset,hb,cond_false,hz,hS,hI,SameDoor_self,Bool.not_true,Bool.not_false,hdo,h,cond_true]
 have hD:=(DO_iff d).1 h
 have hK:=seg_kept d src g
 generalize segN d src g=r at hS hI hK
 obtain⟨y,l,m⟩:=r
 simp only[]at hK
 obtain⟨hlen,hat,hk1,hk2,hk3,hk4⟩:=hK
 have hloop:forN (fun j a=>(w_FnReset_L0_T src d g y j a).nice) 1 (Int.toNat ((d.table.conns.length:Int)-0)) 0 ()= .next ():=by
  rw[toNat_sub0]
  refine forN_none _ (fun j hj=> ?_)
  have hg:=getD_some (d:=Ty.zero .conn) (List.getElem?_eq_getElem hj)
  simp only[PX,w_FnReset_L0_T,toNat_cast,hg,q_TupleOf]
  by_cases h8:d.table.conns[j].state=8
  ·rw[show(d.table.conns[j].state==8)=true by rw[h8];rfl];rfl
  rw[show(d.table.conns[j].state==8)=false from beq_eq_false_iff_ne.2 h8]
  rcases hat j hj with h1|⟨h1,h2⟩
  ·rw[getD_some (d:=Ty.zero .conn) h1,show(d.table.conns[j].state != 8)=true from bne_iff_ne.2 h8];rfl
  ·rw[getD_some (d:=Ty.zero .conn) h2]
   by_cases hn:(recvN d.table.conns[j] g).1.state=8
   case neg=>rw[show((recvN d.table.conns[j] g).1.state != 8)=true from bne_iff_ne.2 hn];rfl
   rw[hn,h1]
   have hcl:=recv_closed d.table.conns[j] g (hD.tab.co _ (List.getElem_mem hj)) (hsm _ (List.getElem_mem hj)) h8 hn
   simp only[bne_self_eq_false,cond_false,beq_self_eq_true,Bool.and_self,Bool.not_true]
   rcases hcl with⟨h4,hq⟩|⟨h6,hq⟩
   ·have h4':(bits .and .i64 g.flags 4 != 0)=true:=by
     simp only[PX,i_Has]at h4
     rw[beq_iff_eq.1 h4];rfl
    rw[h4',hq,beq_self_eq_true];rfl
   ·rw[h6,hq]
    cases(bits .and .i64 g.flags 4 != 0)with
    |true=>cases(g.seq==d.table.conns[j].r.next)<;>rfl
    |false=>rfl
 simp only[FX.f,PX,w_FnReset,hb,cond_false,hz,hS,hI,SameDoor_self,Bool.not_true,hdo,h,w_FnReset_L0_d,hloop,Stp.elim,Sum.elim_inr]
def chalB (d:Door)(src:Int)(g:Segm):Bool:=bif decide (0≤i_FindConn.f (d.table,segT src g,()))then bif i_SegmentOk.f (g,())then bif g.to==d.port then vdN (d.table.conns.getD (i_FindConn.f (d.table,segT src g,())).toNat (Ty.zero .conn)) g==3 else false else false else false
theorem recv_vd (c:Conn)(g:Segm):(recvN c g).2.2=vdN c g:=by
 have hv:=vd_rng c g
 unfold recvN
 rcases hv with h|h|h|h|h<;>rw[h]<;>simp
 split<;>rfl
theorem recv_3 (c:Conn)(g:Segm)(h:vdN c g=3):(recvN c g).2.1=[i_AckOf.f (c,())]:=by
 unfold recvN
 rw[h];simp
theorem chal_step (d:Door)(src:Int)(g:Segm):(segN d src g).1.chal=d.chal+(bif chalB d src g then((segN d src g).2.1.length:Int)else 0):=by
 unfold segN
 by_cases hq:i_DoorOk.f (d,())=true∧i_WordOk.f (src,32,())=true∧i_SegmentOk.f (g,())=true
 case neg=>rw[if_neg hq];cases chalB d src g<;>simp
 rw[if_pos hq]
 obtain⟨h1,h2,h3⟩:=hq
 have hD:=(DO_iff d).1 h1
 have ht:=segT_ok src g h2 h3
 by_cases hp:g.to=d.port
 case neg=>
  rw[if_pos hp]
  have:chalB d src g=false:=by
   unfold chalB
   rw[show(g.to==d.port)=false from beq_eq_false_iff_ne.2 hp]
   cases decide (0≤i_FindConn.f (d.table,segT src g,()))<;>cases i_SegmentOk.f (g,())<;>rfl
  rw[this];simp
 rw[if_neg (fun h=>h hp)]
 by_cases hc:0≤i_FindConn.f (d.table,segT src g,())
 ·rw[if_pos hc]
  have hB:chalB d src g=(vdN (d.table.conns.getD (i_FindConn.f (d.table,segT src g,())).toNat (Ty.zero .conn)) g==3):=by
   unfold chalB
   rw[decide_eq_true hc,h3,show(g.to==d.port)=true by rw[hp];simp];rfl
  rw[hB]
  unfold connN
  rw[recv_vd]
  by_cases h3:vdN (d.table.conns.getD (i_FindConn.f (d.table,segT src g,())).toNat (Ty.zero .conn)) g=3
  ·rw[if_pos h3,h3,recv_3 _ g h3]
   split<;>simp
  ·rw[if_neg h3,beq_eq_false_iff_ne.2 h3];simp
 ·rw[if_neg hc]
  have hB:chalB d src g=false:=by
   unfold chalB
   rw[decide_eq_false hc];rfl
  rw[hB,cond_false,Int.add_zero]
  cases i_Has.f (g,4,())with
  |true=>
   rw[cond_true]
   unfold rstN
   split<;>rfl
  |false=>
   rw[cond_false]
   cases(i_Has.f (g,2,())&&(!i_Has.f (g,16,())&& !i_Has.f (g,1,())))with
   |true=>
    have hy:=(syn_ok d _ g hD ht h3).2.2.2
    rw[cond_true]
    generalize i_SynIn.f (d,segT src g,g,())=r at hy⊢
    simp only[]
    rw[hy]
   |false=>
    rw[cond_false]
    cases(i_Has.f (g,16,())&& !i_Has.f (g,2,()))with
    |true=>
     rw[cond_true]
     have hlet:∀(c:Conn) (m:Int),(letN d c g m).1.chal=d.chal:=by
      intro c m
      unfold letN
      split<;>rfl
     unfold ackN
     split
     ·split
      ·split
       ·rfl
       ·split
        ·rfl
        ·exact hlet _ _
      ·split
       ·exact hlet _ _
       ·rfl
     ·rfl
    |false=>
     rw[cond_false]
     cases i_Has.f (g,16,())<;>rfl
theorem chal_loop (src:Int)(g:Segm)(hg:sm_segm g):∀(k j:Nat) (d:Door),sm_door d→DO d→∃d',forN (fun j a=>(w_FnChallenges_L0_T src g j a).nice) 1 k (j:Int) (d.chal,d)= .next (d'.chal,d')∧DO d'
 |0,j,d,_,hD=>⟨d,rfl,hD⟩
 |k+1,j,d,hd,hD=>by
  have hsm:=smallD_of hd
  have hl:d.halves.length≤4294967296:=hd.2.2.2.2.1
  have hI:=i_SegIn_eq d src g hsm hl
  have hsm2:=(i_SegIn.c.h (d,src,g,()) ⟨hd,hg⟩).1
  simp only[PX,hI]at hsm2
  have hX:=(seg_ok d src g hsm hD).1
  obtain⟨d',e,hD'⟩:=chal_loop src g hg k (j+1) (segN d src g).1 hsm2 hX
  refine⟨d', ?_,hD'⟩
  have hst:=chal_step d src g
  have k0:=hD.k0
  have k1:=hX.k1
  have k2:=hX.tab.lim.k1
  have k3:=hX.k0
  have hver:∀k:Int,0≤k→k<(d.table.conns.length:Int)→s_Verdict.f (d.table.conns.getD k.toNat (Ty.zero .conn),g,())=vdN (d.table.conns.getD k.toNat (Ty.zero .conn)) g:=by
   intro k h0 h1
   refine s_Verdict_eq _ g ?_
   have hk:k.toNat<d.table.conns.length:=by omega
   rw[getD_some (List.getElem?_eq_getElem hk)]
   exact hsm _ (List.getElem_mem hk)
  have hcb:(bif decide (0≤i_FindConn.f (d.table,segT src g,()))then bif i_SegmentOk.f (g,())then bif g.to==d.port then(s_Verdict.f (d.table.conns.getD (i_FindConn.f (d.table,segT src g,())).toNat (Ty.zero .conn),g,())==3,())else(false,())else(false,())else(false,())).1=chalB d src g:=by
   unfold chalB
   by_cases hc:0≤i_FindConn.f (d.table,segT src g,())
   ·obtain⟨k,e,hk,-⟩:=conn_idx d _ hc
    rw[decide_eq_true hc,hver _ hc (by rw[e];omega)]
    cases i_SegmentOk.f (g,())<;>cases(g.to==d.port)<;>rfl
   ·rw[decide_eq_false hc];rfl
  have hT:(w_FnChallenges_L0_T src g (j:Int) (d.chal,d)).nice= .next ((segN d src g).1.chal,(segN d src g).1):=by
   simp only[PX,w_FnChallenges_L0_T,hI,q_TupleOf,q_FindConn,q_SegmentOk,hcb]
   cases hc:chalB d src g with
   |true=>
    rw[hc,cond_true]at hst
    rw[cond_true,wrap64 (by omega) (by omega),←hst]
   |false=>
    rw[hc,cond_false]at hst
    rw[cond_false,hst,Int.add_zero]
  simp only[forN,hT,Stp.elim]
  rw[show(j:Int)+1=((j+1:Nat):Int) by omega]
  exact e
theorem t_FnChallenges (x:List Int):w_FnChallenges.f (x,())=true:=by
 by_cases hb:w_big.f (x,())=true
 ·simp only[FX.f,PX,w_FnChallenges,hb,cond_true]
 rw[Bool.not_eq_true]at hb
 have hx:=big_len x hb
 have hd:=s_DrawSegIn.c.h (x,()) ⟨by simp only[sS];omega,hx⟩
 simp only[PX]at hd
 obtain⟨z,hz⟩:∃z,s_DrawSegIn.f (x,())=z:=⟨_,rfl⟩
 obtain⟨d,src,g⟩:=z
 simp only[hz]at hd
 have hsm:=smallD_of hd.1
 have hdo:=q_DoorOk d hsm
 rcases Bool.eq_false_or_eq_true (i_DoorOk.f (d,()))with h|h
 case inr=>
  simp only[FX.f,PX,w_FnChallenges,hb,cond_false,hz,Bool.not_false,hdo,h,cond_true]
 have hD:=(DO_iff d).1 h
 obtain⟨d',e,hD'⟩:=chal_loop src g hd.2 6 0 d hd.1 hD
 rw[show((0:Nat):Int)=0 from rfl]at e
 have hk:=hD'.k1
 simp only[FX.f,PX,w_FnChallenges,hb,cond_false,hz,hdo,h,Bool.not_true,w_FnChallenges_L0_d,show Int.toNat (6-0)=6 from rfl,e,Stp.elim,decide_eq_true hk,cond_true,(DO_iff d').2 hD']

end
end Go.Proofs.YtjejapbinelgeaaGreat
