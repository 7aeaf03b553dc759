/-
  Contracts of functions and plain laws (printed by a program): each theorem says what a function of the program returns; conditions are its hypotheses.
-/
import Derived.Test.YtjejapbinelgeaaGreatEJ1
set_option linter.all false
set_option maxRecDepth 4000
namespace Go.Proofs.YtjejapbinelgeaaGreat
open Go Go.RowKit
noncomputable section
noncomputable def i_Arrived_o:List (Ent1 Tryz.prog):=[i_cloneReceiver_e,i_ReceiverOk_e,i_WindowOf_e,i_SeqAdd_e,i_ahead_e,g_Contains_bool_e,i_Arrived_1_o_e]
def i_Arrived_L0_0_h:Sh:=⟨[(1,false,[.int .i64]),(2,false,[.str]),(3,false,[.bool]),(4,false,[.ptr 0 0]),(8,false,[.ptr 1 0]),(9,false,[.ptr 2 0]),(10,false,[.int .i64]),(11,false,[.ptr 3 0]),(12,false,[.ptr 4 0]),(13,false,[.fn 294 [4,3]]),(15,false,[.ptr 5 0]),(42,false,[.sl .arg .piec]),(43,false,[.int .i64]),(44,false,[.int .i64]),(50,false,[.int .i64]),(51,false,[.int .i64])],[.box [.st .recv [.sl .arg]],.box [.st .recv [.nil .piec]],.box [.st .recv [.own 6]],.box [.own 7],.box [.own 8],.box [.st .piec []],.of false true,.arr .u8 false true,.arr .bool false true]⟩
def i_Arrived_L0_h:Sh:=⟨[(1,false,[.int .i64]),(2,false,[.str]),(3,false,[.bool]),(4,false,[.ptr 0 0]),(8,false,[.ptr 1 0]),(9,false,[.ptr 2 0]),(10,false,[.int .i64]),(11,false,[.ptr 3 0]),(12,false,[.ptr 4 0]),(13,false,[.fn 294 [4,3]]),(42,false,[.sl .arg .piec]),(43,false,[.int .i64]),(44,false,[.int .i64])],[.box [.st .recv [.sl .arg]],.box [.st .recv [.nil .piec]],.box [.st .recv [.own 5]],.box [.own 6],.box [.own 7],.of false true,.arr .u8 false true,.arr .bool false true]⟩
def i_Arrived_L1_h:Sh:=⟨[(1,false,[.int .i64]),(2,false,[.str]),(3,false,[.bool]),(4,false,[.ptr 0 0]),(8,false,[.ptr 1 0]),(9,false,[.ptr 2 0]),(10,false,[.int .i64]),(11,false,[.ptr 3 0]),(12,false,[.ptr 4 0]),(13,false,[.fn 294 [4,3]]),(67,false,[.int .i64]),(68,false,[.int .i64])],[.box [.st .recv [.sl .arg]],.box [.st .recv [.nil .piec]],.box [.st .recv [.own 5]],.box [.own 6],.box [.own 7],.of false true,.arr .u8 false true,.arr .bool false true]⟩
def i_Arrived_L2_h:Sh:=⟨[(4,false,[.ptr 0 0]),(8,false,[.ptr 1 0]),(9,false,[.ptr 2 0]),(10,false,[.int .i64]),(11,false,[.ptr 3 0]),(12,false,[.ptr 4 0]),(19,false,[.ptr 5 0]),(21,false,[.int .i64])],[.box [.st .recv [.sl .arg]],.box [.st .recv [.nil .piec]],.box [.st .recv [.own 6]],.box [.own 7],.box [.sl .any .bool],.box [.st .recv [.sl .arg]],.of false true,.arr .u8 false true]⟩
def i_Arrived_L3_0_h:Sh:=⟨[(8,false,[.ptr 0 0]),(9,false,[.ptr 1 0]),(10,false,[.int .i64]),(11,false,[.ptr 2 0]),(12,false,[.ptr 3 0]),(19,false,[.ptr 4 0]),(21,false,[.int .i64]),(22,false,[.int .i64]),(23,false,[.int .i64])],[.box [.st .recv [.nil .piec]],.box [.st .recv [.own 5]],.box [.own 6],.box [.sl .any .bool],.box [.st .recv [.own 7]],.of false true,.arr .u8 false true,.of false true]⟩
def i_Arrived_L3_h:Sh:=⟨[(8,false,[.ptr 0 0]),(9,false,[.ptr 1 0]),(10,false,[.int .i64]),(11,false,[.ptr 2 0]),(12,false,[.ptr 3 0]),(19,false,[.ptr 4 0]),(21,false,[.int .i64]),(22,false,[.int .i64])],[.box [.st .recv [.nil .piec]],.box [.st .recv [.own 5]],.box [.own 6],.box [.sl .any .bool],.box [.st .recv [.own 7]],.of false true,.arr .u8 false true,.of false true]⟩
def i_Arrived_J123_a:An:=⟨⟨[],[],false,0⟩,⟨[4,8,9,10,11,12,19],[],false,0⟩,⟨[],[]⟩,[(.normal,⟨[(4,false,[.ptr 0 0]),(8,false,[.ptr 1 0]),(9,false,[.ptr 2 0]),(10,false,[.int .i64]),(11,false,[.ptr 3 0]),(12,false,[.ptr 4 0]),(19,false,[.ptr 5 0])],[.box [.st .recv [.sl .arg]],.box [.st .recv [.nil .piec]],.box [.st .recv [.own 6]],.box [.own 7],.box [.sl .any .bool],.box [.st .recv [.sl .arg]],.of false true,.arr .u8 false true]⟩)]⟩
def i_Arrived_J152_a:An:=⟨⟨[],[],false,0⟩,⟨[8,9,10,11,12,19,21],[],false,0⟩,⟨[],[]⟩,[(.normal,⟨[(8,false,[.ptr 0 0]),(9,false,[.ptr 1 0]),(10,false,[.int .i64]),(11,false,[.ptr 2 0]),(12,false,[.ptr 3 0]),(19,false,[.ptr 4 0]),(21,false,[.int .i64])],[.box [.st .recv [.nil .piec]],.box [.st .recv [.own 5]],.box [.own 6],.box [.sl .any .bool],.box [.st .recv [.sl .arg]],.of false true,.arr .u8 false true]⟩)]⟩
noncomputable def i_Arrived_x:Fx:=⟨230,Tryz.f230,[(2,la ⟨[1,2,3,4,8,9,10,11,12,13,15,42,43,44,50,51],[],false,0⟩ ⟨[1,2,3,4,8,9,10,11,12,13,42,43,44],[],false,0⟩),(0,la ⟨[1,2,3,4,8,9,10,11,12,13,42,43,44],[],false,0⟩ ⟨[1,2,3,4,8,9,10,11,12,13],[],false,0⟩),(4,la ⟨[1,2,3,4,8,9,10,11,12,13,67,68],[],false,0⟩ ⟨[1,2,3,4,8,9,10,11,12],[.softb 12 0],false,0⟩),(6,la ⟨[4,8,9,10,11,12,19,21],[],false,0⟩ ⟨[4,8,9,10,11,12,19,21],[],false,0⟩),(10,la ⟨[8,9,10,11,12,19,21,22,23],[],false,0⟩ ⟨[8,9,10,11,12,19,21,22,23],[],false,0⟩),(8,la ⟨[8,9,10,11,12,19,21,22],[.box 19 2 .piec],false,0⟩ ⟨[8,9,19],[],false,0⟩),(1000123,i_Arrived_J123_a),(1000152,i_Arrived_J152_a),(3000002,rA 0 32),(3000021,rA 0 90),(3000026,rA 0 123)],0⟩
noncomputable def i_Arrived_L0_0_T (vb12:Piec)(vb8:Int)(a:Recv×List Int×List Bool):Tr (Stp (Recv×List Int×List Bool) (Empty)):=
 .grd ((decide (0≤vb8))&&(decide (vb8<(vb12.text.length:Int))))<|
 .cal i_Arrived_1_o.c ((IntKind.wrap .i64 (vb12.off+vb8)),(byteAt vb12.text vb8.toNat),a.2.2,a.2.1,()) fun c5=>
 .ret (.next (({a.1 with held:=[]}:Recv),c5.2,c5.1))
noncomputable def i_Arrived_L0_0_d:i_Arrived_L0_0_h.V→LC i_Arrived_L0_0_h (Recv×List Int×List Bool) (Empty) (Int×(Recv×List Int×List Bool)):=fun(vb0,vb1,vb2,vb3,vb4,vb5,vb6,vb7,vb8,vb9,vb10,vb11,vb12,vb13,vb14,_)=>⟨vb8,(vb10,vb13,vb14),fun vb8 a=>(vb0,vb1,vb2,vb3,vb4,vb5,vb6,vb7,vb8,vb9,a.1,vb11,vb12,a.2.1,a.2.2,()),fun vb8 _=>(decide (vb8<vb7)),i_Arrived_L0_0_T vb12,up,1,(Int.toNat (vb7-vb8)),(fun p=>Empty.elim p),fun i a=>(i,a),fun _ k x=>k (.exit 2) (Sh.enc ⟨[(1,false,[.int .i64]),(2,false,[.str]),(3,false,[.bool]),(4,false,[.ptr 0 0]),(8,false,[.ptr 1 0]),(9,false,[.ptr 2 0]),(10,false,[.int .i64]),(11,false,[.ptr 3 0]),(12,false,[.ptr 4 0]),(13,false,[.fn 294 [4,3]]),(42,false,[.sl .arg .piec]),(43,false,[.int .i64]),(44,false,[.int .i64])],[.box [.st .recv [.sl .arg]],.box [.st .recv [.nil .piec]],.box [.st .recv [.own 5]],.box [.own 6],.box [.own 7],.of false true,.arr .u8 false true,.arr .bool false true]⟩ (vb0,vb1,vb2,vb3,vb4,vb5,vb6,vb9,({x.2.1 with held:=[]}:Recv),vb11,x.2.2.1,x.2.2.2,()))⟩
theorem i_Arrived_L0_0_s:LS Tryz.prog i_Arrived_x [0,0] (leC 2 i_Arrived_L0_0_h i_Arrived_L0_0_d):=loopC st (orcOf_ok i_Arrived_o) _ i_Arrived_L0_0_d [] trivial (by kernel_rfl) (fun _=>by kernel_rfl) fun _ _ _ _ _ _=>by kernel_rfl
theorem i_Arrived_L0_0_k {vb0 vb3 vb5 vb6 vb7 vb8:Int}{vb1:Bytes}{vb2:Bool}{vb4:List Piec}{vb9 vb10 vb11:Recv}{vb12:Piec}{vb13:List Int}{vb14:List Bool}(h0:0≤vb8)(h1:vb7≤4611686018427387904)(h2:1≤vb12.off∧vb12.off+(vb12.text.length:Int)≤vb3)(h3:vb3≤32)(h4:sm_piec vb12)(h5:vb7≤(vb12.text.length:Int))(h6:sm_recv vb10∧sS vb13∧sS vb14∧vb13.length=vb14.length∧(vb14.length:Int)=vb3):(i_Arrived_L0_0_d (vb0,vb1,vb2,vb3,vb4,vb5,vb6,vb7,vb8,vb9,vb10,vb11,vb12,vb13,vb14,())).U vb7 (fun vb8 a=>sm_recv a.1∧sS a.2.1∧sS a.2.2∧a.2.1.length=a.2.2.length∧(a.2.2.length:Int)=vb3) (fun _=>True):=
 LC.okU (i:=vb8) (a:=(vb10,vb13,vb14)) (fun _ _=>rfl) (fun _=>rfl) rfl h0 h1 h6 fun vb8 (vb10,vb13,vb14) hj hk hv=>by
  refine Tr.G2 ?_ fun _=>Tr.C ?_ fun _ _ _=>Tr.Rn ?_
  all_goals (grind)
noncomputable def i_Arrived_L0_T (v0:Int)(v1:Bytes)(v2:Bool)(v3:Int)(v4:List Piec)(v5:Int)(v7 v9:Recv)(v6:Int)(a:Recv×List Int×List Bool):Tr (Stp (Recv×List Int×List Bool) (Empty)):=
 .grd ((decide (0≤v6))&&(decide (v6<(v4.length:Int))))<|
 .lp (i_Arrived_L0_0_d (v0,v1,v2,v3,v4,v5,v6,(((v4.getD v6.toNat (Ty.zero .piec)).text).length:Int),0,v7,({a.1 with held:=[]}:Recv),v9,(v4.getD v6.toNat (Ty.zero .piec)),a.2.1,a.2.2,())).lp fun(_,a6_0,a6_1,a6_2)=>
 .ret (.next (({({a6_0 with held:=[]}:Recv)with held:=[]}:Recv),a6_1,a6_2))
noncomputable def i_Arrived_L0_d:i_Arrived_L0_h.V→LC i_Arrived_L0_h (Recv×List Int×List Bool) (Empty) (Int×(Recv×List Int×List Bool)):=fun(v0,v1,v2,v3,v4,v5,v6,v7,v8,v9,v10,v11,_)=>⟨v6,(v8,v10,v11),fun v6 a=>(v0,v1,v2,v3,v4,v5,v6,v7,a.1,v9,a.2.1,a.2.2,()),fun v6 _=>(decide (v6<v5)),i_Arrived_L0_T v0 v1 v2 v3 v4 v5 v7 v9,up,1,(Int.toNat (v5-v6)),(fun p=>Empty.elim p),fun i a=>(i,a),fun _ k x=>k (.exit 0) (Sh.enc ⟨[(1,false,[.int .i64]),(2,false,[.str]),(3,false,[.bool]),(4,false,[.ptr 0 0]),(8,false,[.ptr 1 0]),(9,false,[.ptr 2 0]),(10,false,[.int .i64]),(11,false,[.ptr 3 0]),(12,false,[.ptr 4 0]),(13,false,[.fn 294 [4,3]])],[.box [.st .recv [.sl .arg]],.box [.st .recv [.nil .piec]],.box [.st .recv [.own 5]],.box [.own 6],.box [.own 7],.of false true,.arr .u8 false true,.arr .bool false true]⟩ (v0,v1,v2,v3,v7,({x.2.1 with held:=[]}:Recv),v9,x.2.2.1,x.2.2.2,()))⟩
theorem i_Arrived_L0_s:LS Tryz.prog i_Arrived_x [0] (leC 0 i_Arrived_L0_h i_Arrived_L0_d):=loopC st (orcOf_ok i_Arrived_o) _ i_Arrived_L0_d [(leC 2 i_Arrived_L0_0_h i_Arrived_L0_0_d)] ⟨i_Arrived_L0_0_s,trivial⟩ (by kernel_rfl) (fun _=>by kernel_rfl) fun _ _ _ _ _ _=>by kernel_rfl
theorem i_Arrived_L0_k {v0 v3 v5 v6:Int}{v1:Bytes}{v2:Bool}{v4:List Piec}{v7 v8 v9:Recv}{v10:List Int}{v11:List Bool}(h0:0≤v6)(h1:v5≤4611686018427387904)(h2:smE (pw v3) v4)(h3:v3≤32)(h4:sS v1)(h5:sL sm_piec v4)(h6:sm_recv v7)(h7:sm_recv v9)(h8:v5≤(v4.length:Int))(h9:sm_recv v8∧sS v10∧sS v11∧v10.length=v11.length∧(v11.length:Int)=v3):(i_Arrived_L0_d (v0,v1,v2,v3,v4,v5,v6,v7,v8,v9,v10,v11,())).U v5 (fun v6 a=>sm_recv a.1∧sS a.2.1∧sS a.2.2∧a.2.1.length=a.2.2.length∧(a.2.2.length:Int)=v3) (fun _=>True):=
 LC.okU (i:=v6) (a:=(v8,v10,v11)) (fun _ _=>rfl) (fun _=>rfl) rfl h0 h1 h9 fun v6 (v8,v10,v11) hj hk hv=>by
  refine Tr.G2 ?_ fun g0=>Tr.L (i_Arrived_L0_0_k ?_ ?_ ?_ ?_ ?_ ?_ ?_) (fun(a6_0,a6_1,a6_2) i6=>Tr.Rn ?_) (fun p=>Empty.elim p)
  all_goals ((try simp only[i_Arrived_L0_0_d,LC.lp,LC.ct,Ct.lp]at*)<;>(have hp:=pw_at (i:=v6.toNat) h2 (by omega);simp only[pw]at hp;grind))
noncomputable def i_Arrived_L1_T (v0:Int)(v1:Bytes)(v3:Int)(v6:Recv)(v5:Int)(a:Recv×List Int×List Bool):Tr (Stp (Recv×List Int×List Bool) (Empty)):=
 .val (i_SeqAdd.f (v0,v5,())) fun c8=>
 .val (i_ahead.f (c8,v6.next,())) fun c9=>
 .bnd (β:=Bool×Unit) (.ite (decide (c9<v3)) (.ite (v6.fin==(-1)) (.ret (true,()))<|
   .ret ((decide (c9<v6.fin)),()))<|
  .ret (false,())) fun(u10a0,_)=>
 .ite u10a0 (.grd ((decide (0≤v5))&&(decide (v5<(v1.length:Int))))<|
  .cal i_Arrived_1_o.c (c9,(byteAt v1 v5.toNat),a.2.2,a.2.1,()) fun c11=>
  .ret (.next (({a.1 with held:=[]}:Recv),c11.2,c11.1)))<|
 .ret (.next (({a.1 with held:=[]}:Recv),a.2.1,a.2.2))
noncomputable def i_Arrived_L1_d:i_Arrived_L1_h.V→LC i_Arrived_L1_h (Recv×List Int×List Bool) (Empty) (Int×(Recv×List Int×List Bool)):=fun(v0,v1,v2,v3,v4,v5,v6,v7,v8,v9,v10,_)=>⟨v5,(v7,v9,v10),fun v5 a=>(v0,v1,v2,v3,v4,v5,v6,a.1,v8,a.2.1,a.2.2,()),fun v5 _=>(decide (v5<v4)),i_Arrived_L1_T v0 v1 v3 v6,up,1,(Int.toNat (v4-v5)),(fun p=>Empty.elim p),fun i a=>(i,a),fun _ k x=>k (.exit 4) (Sh.enc ⟨[(1,false,[.int .i64]),(2,false,[.str]),(3,false,[.bool]),(4,false,[.ptr 0 0]),(8,false,[.ptr 1 0]),(9,false,[.ptr 2 0]),(10,false,[.int .i64]),(11,false,[.ptr 3 0]),(12,false,[.ptr 4 0])],[.box [.st .recv [.sl .arg]],.box [.st .recv [.nil .piec]],.box [.st .recv [.own 5]],.box [.own 6],.box [.sl .any .bool],.of false true,.arr .u8 false true]⟩ (v0,v1,v2,v3,v6,({x.2.1 with held:=[]}:Recv),v8,x.2.2.2,x.2.2.1,()))⟩
theorem i_Arrived_L1_s:LS Tryz.prog i_Arrived_x [1] (leC 4 i_Arrived_L1_h i_Arrived_L1_d):=loopC st (orcOf_ok i_Arrived_o) _ i_Arrived_L1_d [] trivial (by kernel_rfl) (fun _=>by kernel_rfl) fun _ _ _ _ _ _=>by kernel_rfl
theorem i_Arrived_L1_k {v0 v3 v4 v5:Int}{v1:Bytes}{v2:Bool}{v6 v7 v8:Recv}{v9:List Int}{v10:List Bool}(h0:0≤v5)(h1:v4≤4611686018427387904)(h2:v3≤32)(h3:sS v1)(h4:sm_recv v6)(h5:v4≤(v1.length:Int))(h6:sm_recv v7∧sS v9∧sS v10∧v9.length=v10.length∧(v10.length:Int)=v3):(i_Arrived_L1_d (v0,v1,v2,v3,v4,v5,v6,v7,v8,v9,v10,())).U v4 (fun v5 a=>sm_recv a.1∧sS a.2.1∧sS a.2.2∧a.2.1.length=a.2.2.length∧(a.2.2.length:Int)=v3) (fun _=>True):=
 LC.okU (i:=v5) (a:=(v7,v9,v10)) (fun _ _=>rfl) (fun _=>rfl) rfl h0 h1 h6 fun v5 (v7,v9,v10) hj hk hv=>by
  refine Tr.V fun _ _=>Tr.V fun _ _=>Tr.B (Q':=fun _=>True) (Tr.F (by kernel_rfl) trivial) (fun(u10a0,_) _ _=>Tr.I (fun _=>Tr.G2 ?_ fun _=>Tr.C ?_ fun _ _ _=>Tr.Rn ?_) fun _=>Tr.Rn ?_)
  all_goals ((try simp only[Tr.nice,letK]at*)<;>grind)
noncomputable def i_Arrived_L2_T (v5:List Bool)(v1:Int)(a:Recv):Tr (Stp (Recv) ((Int×Recv))):=
 .grd ((decide (0≤v1))&&(decide (v1<(v5.length:Int))))<|
 .ite (v5.getD v1.toNat false) (.ret (.next ({a with held:=[]}:Recv)))<|
 .ret (.out (v1,({a with held:=[]}:Recv)))
noncomputable def i_Arrived_L2_d:i_Arrived_L2_h.V→LC i_Arrived_L2_h (Recv) ((Int×Recv)) (((Int×Recv))⊕(Int×Recv)):=fun(v0,v1,v2,v3,v4,v5,v6,v7,_)=>⟨v1,v3,fun v1 a=>(v0,v1,v2,a,v4,v5,v6,v7,()),fun v1 _=>(decide (v1<v0)),i_Arrived_L2_T v5,up,1,(Int.toNat (v0-v1)),.inl,fun i a=> .inr (i,a),fun _ k w=>Sum.elim (fun p=>k (.exit 6) (Sh.enc ⟨[(4,false,[.ptr 0 0]),(8,false,[.ptr 1 0]),(9,false,[.ptr 2 0]),(10,false,[.int .i64]),(11,false,[.ptr 3 0]),(12,false,[.ptr 4 0]),(19,false,[.ptr 5 0]),(21,false,[.int .i64])],[.box [.st .recv [.sl .arg]],.box [.st .recv [.nil .piec]],.box [.st .recv [.own 6]],.box [.own 7],.box [.sl .any .bool],.box [.st .recv [.sl .arg]],.of false true,.arr .u8 false true]⟩ (v0,p.1,v2,p.2,v4,v5,v6,v7,()))) (fun x=>k (.exit 6) (Sh.enc ⟨[(4,false,[.ptr 0 0]),(8,false,[.ptr 1 0]),(9,false,[.ptr 2 0]),(10,false,[.int .i64]),(11,false,[.ptr 3 0]),(12,false,[.ptr 4 0]),(19,false,[.ptr 5 0]),(21,false,[.int .i64])],[.box [.st .recv [.sl .arg]],.box [.st .recv [.nil .piec]],.box [.st .recv [.own 6]],.box [.own 7],.box [.sl .any .bool],.box [.st .recv [.sl .arg]],.of false true,.arr .u8 false true]⟩ (v0,x.1,v2,({x.2 with held:=[]}:Recv),v4,v5,v6,v7,()))) w⟩
theorem i_Arrived_L2_s:LS Tryz.prog i_Arrived_x [2] (leC 6 i_Arrived_L2_h i_Arrived_L2_d):=loopC st (orcOf_ok i_Arrived_o) _ i_Arrived_L2_d [] trivial (by kernel_rfl) (fun _=>by kernel_rfl) fun _ _ _ _ _ _=>by kernel_rfl
theorem i_Arrived_L2_k {v0 v1:Int}{v2 v3 v4 v6:Recv}{v5:List Bool}{v7:List Int}(h0:0≤v1)(h1:v0≤4611686018427387904)(h2:sS v5)(h3:v0≤(v5.length:Int))(h4:sm_recv v3):(i_Arrived_L2_d (v0,v1,v2,v3,v4,v5,v6,v7,())).U v0 (fun v1 a=>sm_recv a) (fun p=>sm_recv p.2∧v1≤p.1∧p.1<v0):=
 LC.okU (i:=v1) (a:=v3) (fun _ _=>rfl) (fun _=>rfl) rfl h0 h1 h4 fun v1 v3 hj hk hv=>by
  refine Tr.G2 ?_ fun _=>Tr.I (fun _=>Tr.Rn ?_) fun _=>Tr.Ro ?_
  all_goals (grind)
noncomputable def i_Arrived_L3_0_T (vb6:List Bool)(vb2:Int)(a:Recv):Tr (Stp (Recv) ((Int×Recv))):=
 .grd ((decide (0≤vb2))&&(decide (vb2<(vb6.length:Int))))<|
 .ite (vb6.getD vb2.toNat false) (.ret (.next ({a with held:=[]}:Recv)))<|
 .ret (.out (vb2,({a with held:=[]}:Recv)))
noncomputable def i_Arrived_L3_0_d:i_Arrived_L3_0_h.V→LC i_Arrived_L3_0_h (Recv) ((Int×Recv)) (((Int×Recv))⊕(Int×Recv)):=fun(vb0,vb1,vb2,vb3,vb4,vb5,vb6,vb7,vb8,_)=>⟨vb2,vb4,fun vb2 a=>(vb0,vb1,vb2,vb3,a,vb5,vb6,vb7,vb8,()),fun vb2 _=>(decide (vb2<vb0)),i_Arrived_L3_0_T vb6,up,1,(Int.toNat (vb0-vb2)),.inl,fun i a=> .inr (i,a),fun _ k w=>Sum.elim (fun p=>k (.exit 10) (Sh.enc ⟨[(8,false,[.ptr 0 0]),(9,false,[.ptr 1 0]),(10,false,[.int .i64]),(11,false,[.ptr 2 0]),(12,false,[.ptr 3 0]),(19,false,[.ptr 4 0]),(21,false,[.int .i64]),(22,false,[.int .i64]),(23,false,[.int .i64])],[.box [.st .recv [.nil .piec]],.box [.st .recv [.own 5]],.box [.own 6],.box [.sl .any .bool],.box [.st .recv [.own 7]],.of false true,.arr .u8 false true,.of false true]⟩ (vb0,vb1,p.1,vb3,p.2,vb5,vb6,vb7,vb8,()))) (fun x=>k (.exit 10) (Sh.enc ⟨[(8,false,[.ptr 0 0]),(9,false,[.ptr 1 0]),(10,false,[.int .i64]),(11,false,[.ptr 2 0]),(12,false,[.ptr 3 0]),(19,false,[.ptr 4 0]),(21,false,[.int .i64]),(22,false,[.int .i64]),(23,false,[.int .i64])],[.box [.st .recv [.nil .piec]],.box [.st .recv [.own 5]],.box [.own 6],.box [.sl .any .bool],.box [.st .recv [.own 7]],.of false true,.arr .u8 false true,.of false true]⟩ (vb0,vb1,x.1,vb3,({x.2 with held:=[]}:Recv),vb5,vb6,vb7,vb8,()))) w⟩
theorem i_Arrived_L3_0_s:LS Tryz.prog i_Arrived_x [3,0] (leC 10 i_Arrived_L3_0_h i_Arrived_L3_0_d):=loopC st (orcOf_ok i_Arrived_o) _ i_Arrived_L3_0_d [] trivial (by kernel_rfl) (fun _=>by kernel_rfl) fun _ _ _ _ _ _=>by kernel_rfl
theorem i_Arrived_L3_0_k {vb0 vb1 vb2 vb3:Int}{vb4 vb5 vb7:Recv}{vb6:List Bool}{vb8:List Int}(h0:0≤vb2)(h1:vb0≤4611686018427387904)(h2:vb3=vb2)(h3:vb6.getD vb3.toNat false=true)(h4:sS vb6)(h5:vb0≤(vb6.length:Int))(h6:sm_recv vb4):(i_Arrived_L3_0_d (vb0,vb1,vb2,vb3,vb4,vb5,vb6,vb7,vb8,())).U vb0 (fun vb2 a=>sm_recv a) (fun p=>sm_recv p.2∧vb2≤p.1∧p.1<vb0∧vb3<p.1):=
 LC.okU (i:=vb2) (a:=vb4) (fun _ _=>rfl) (fun _=>rfl) rfl h0 h1 h6 fun vb2 vb4 hj hk hv=>by
  refine Tr.G2 ?_ fun _=>Tr.I (fun _=>Tr.Rn ?_) fun _=>Tr.Ro ?_
  all_goals (grind)
noncomputable def i_Arrived_L3_T (v0 v1:Int)(v4:Recv)(v5:List Bool)(v7:List Int)(a:Int×Recv×Recv):Tr (Stp (Int×Recv×Recv) ((Recv×Recv))):=
 .ite (decide (a.1<v0)) (.grd ((decide (0≤a.1))&&(decide (a.1<(v5.length:Int))))<|
  .ite (!(v5.getD a.1.toNat false)) (.ret (.next ((IntKind.wrap .i64 (a.1+1)),({a.2.1 with held:=[]}:Recv),a.2.2)))<|
  .lp (i_Arrived_L3_0_d (v0,v1,a.1,a.1,({a.2.1 with held:=[]}:Recv),v4,v5,a.2.2,v7,())).lp fun w22=> .sum w22 (fun(p22a0,p22a1)=>
  .grd (((decide (0≤a.1))&&(decide (a.1≤p22a0)))&&(decide (p22a0≤(v7.length:Int))))<|
  .grd (Nat.ble ((2*(a.2.2.held.length+1)+1024)*24) maxSl)<|
  .val (a.2.2.held++[(⟨(IntKind.wrap .i64 (a.1-v1)),(toBytes ((v7.take p22a0.toNat).drop a.1.toNat))⟩:Piec)]) fun l23=>
  .ret (.next (p22a0,({p22a1 with held:=[]}:Recv),({a.2.2 with held:=l23}:Recv))))<|
  fun(n22,a22_0)=>
  .grd (((decide (0≤a.1))&&(decide (a.1≤n22)))&&(decide (n22≤(v7.length:Int))))<|
  .grd (Nat.ble ((2*(a.2.2.held.length+1)+1024)*24) maxSl)<|
  .val (a.2.2.held++[(⟨(IntKind.wrap .i64 (a.1-v1)),(toBytes ((v7.take n22.toNat).drop a.1.toNat))⟩:Piec)]) fun l24=>
  .ret (.next (n22,({({a22_0 with held:=[]}:Recv)with held:=[]}:Recv),({a.2.2 with held:=l24}:Recv))))<|
 .ret (.out (({a.2.1 with held:=[]}:Recv),a.2.2))
noncomputable def i_Arrived_L3_d:i_Arrived_L3_h.V→LW i_Arrived_L3_h (Int×Recv×Recv) ((Recv×Recv)):=fun(v0,v1,v2,v3,v4,v5,v6,v7,_)=>⟨(v2,v3,v6),fun a=>(v0,v1,a.1,a.2.1,v4,v5,a.2.2,v7,()),i_Arrived_L3_T v0 v1 v4 v5 v7,Int.toNat (v0-v2),fun _ k p=>k (.exit 8) (Sh.enc ⟨[(8,false,[.ptr 0 0]),(9,false,[.ptr 1 0]),(19,false,[.ptr 2 0])],[.box [.st .recv [.nil .piec]],.box [.st .recv [.own 3]],.box [.st .recv [.own 4]],.of false true,.of false true]⟩ (p.1,v4,p.2,()))⟩
theorem i_Arrived_L3_s:LS Tryz.prog i_Arrived_x [3] (leW 8 i_Arrived_L3_h i_Arrived_L3_d):=loopW st (orcOf_ok i_Arrived_o) _ i_Arrived_L3_d [(leC 10 i_Arrived_L3_0_h i_Arrived_L3_0_d)] ⟨i_Arrived_L3_0_s,trivial⟩ (by kernel_rfl) (fun _=>by kernel_rfl) fun _ _ _ _ _=>by kernel_rfl
theorem i_Arrived_L3_k {v0 v1 v2:Int}{v3 v4 v6:Recv}{v5:List Bool}{v7:List Int}(h0:v0≤32)(h1:(v5.length:Int)=v0)(h2:v7.length=v5.length)(h3:0≤v1)(h4:sm_recv v4)(h5:sS v5)(h6:sS v7)(h7:sm_recv v3∧sm_recv v6∧v1≤v2∧v2≤v0∧(v6.held.length:Int)≤v2):(i_Arrived_L3_d (v0,v1,v2,v3,v4,v5,v6,v7,())).W (fun p=>sm_recv p.1∧sm_recv p.2):=
 LW.okW (a:=(v2,v3,v6)) (fun a=>sm_recv a.2.1∧sm_recv a.2.2∧v1≤a.1∧a.1≤v0∧(a.2.2.held.length:Int)≤a.1) (fun a=>Int.toNat (v0-a.1)) rfl h7 fun(v2,v3,v6) hv=>by
  refine Tr.I (fun _=>Tr.G2 ?_ fun _=>Tr.I (fun _=>Tr.Rn ?_) fun _=>Tr.L (i_Arrived_L3_0_k ?_ ?_ ?_ ?_ ?_ ?_ ?_) (fun a22_0 _=>Tr.Sr (Tr.G3 ?_ fun _=>Tr.Gb ?_ fun _=>Tr.V fun _ _=>Tr.Rn ?_)) (fun(p22a0,p22a1) _=>Tr.Sl (Tr.G3 ?_ fun _=>Tr.Gb ?_ fun _=>Tr.V fun _ _=>Tr.Rn ?_))) fun _=>Tr.Ro ?_
  all_goals ((try simp only[i_Arrived_L3_0_d,LC.lp,LC.ct,Ct.lp]at*)<;>grind)
noncomputable def i_Arrived:FT (Recv×Int×Bytes×Bool×Unit) (Recv) (fun x=>sm_recv x.1∧sS x.2.2.1) (fun x v=>sm_recv v):=⟨fun(x0,x1,x2,x3,_)=>
  .cal i_cloneReceiver.c (x0,()) fun c1=>
  .bnd (β:=Bool×Unit) (.cal i_ReceiverOk.c (x0,()) fun c2=>
   .ite (!c2) (.ret (true,()))<|
   .ret (x0.done,())) fun(u3a0,_)=>
  .ite u3a0 (.ret c1)<|
  .cal i_WindowOf.c (x0,()) fun c4=>
  .grd ((((decide (0≤c4))&&(decide (c4=c4)))&&(decide (c4*1≤(maxSl:Int))))&&(decide (c4≤(maxSl:Int))))<|
  .grd ((((decide (0≤c4))&&(decide (c4=c4)))&&(decide (c4*1≤(maxSl:Int))))&&(decide (c4≤(maxSl:Int))))<|
  .lp (i_Arrived_L0_d (x1,x2,x3,c4,x0.held,(x0.held.length:Int),0,x0,(⟨0,[],[],0,false⟩:Recv),c1,(List.replicate c4.toNat 0),(List.replicate c4.toNat false),())).lp fun(_,a7_0,a7_1,a7_2)=>
  .lp (i_Arrived_L1_d (x1,x2,x3,c4,(x2.length:Int),0,x0,({({a7_0 with held:=[]}:Recv)with held:=[]}:Recv),c1,a7_1,a7_2,())).lp fun(_,a12_0,a12_1,a12_2)=>
  .val (i_SeqAdd.f (x1,(x2.length:Int),())) fun c13=>
  .val (i_ahead.f (c13,x0.next,())) fun c14=>
  .bnd (β:=Bool×Unit) (.ite x3 (.ite (x0.fin==(-1)) (.ite (decide (c14≤c4)) (.grd (((decide (0≤c14))&&(decide (c14≤(a12_2.length:Int))))&&(decide ((a12_2.length:Int)≤(a12_2.length:Int))))<|
      .cal g_Contains_bool.c (((a12_2.take ((a12_2.length:Int).toNat)).drop c14.toNat),true,()) fun c15=>
      .ret ((!c15),()))<|
     .ret (false,()))<|
    .ret (false,()))<|
   .ret (false,())) fun(u16a0,_)=>
  .bnd (β:=WT i_Arrived_J123_a.es) (.ite u16a0 (.ret (c4,x0,({({a12_0 with held:=[]}:Recv)with held:=[]}:Recv),c1,a12_2,({x0 with fin:=c14}:Recv),a12_1,()))<|
   .ret (c4,x0,({({a12_0 with held:=[]}:Recv)with held:=[]}:Recv),c1,a12_2,x0,a12_1,())) fun(u17a0,u17a1,u17a2,u17a3,u17a4,u17a5,u17a6,_)=>
  .lp (i_Arrived_L2_d (u17a0,0,u17a1,({u17a2 with held:=[]}:Recv),u17a3,u17a4,u17a5,u17a6,())).lp fun w18=> .sum w18 (fun(p18a0,p18a1)=>
  .grd ((decide (0≤p18a0))&&(decide (p18a0≤(u17a6.length:Int))))<|
  .grd (Nat.ble (u17a5.data.length+(toBytes ((u17a6.take p18a0.toNat).drop 0)).length) maxStr)<|
  .val (i_SeqAdd.f (u17a1.next,p18a0,())) fun c19=>
  .bnd (β:=WT i_Arrived_J152_a.es) (.ite (u17a5.fin != (-1)) (.ret (u17a0,p18a0,({p18a1 with held:=[]}:Recv),u17a3,u17a4,(⟨c19,(u17a5.data++(toBytes ((u17a6.take p18a0.toNat).drop 0))),u17a5.held,(IntKind.wrap .i64 (u17a5.fin-p18a0)),u17a5.done⟩:Recv),u17a6,()))<|
   .ret (u17a0,p18a0,({p18a1 with held:=[]}:Recv),u17a3,u17a4,({u17a5 with next:=c19,data:=(u17a5.data++(toBytes ((u17a6.take p18a0.toNat).drop 0)))}:Recv),u17a6,())) fun(u20a0,u20a1,u20a2,u20a3,u20a4,u20a5,u20a6,_)=>
  .lp (i_Arrived_L3_d (u20a0,u20a1,u20a1,({u20a2 with held:=[]}:Recv),u20a3,u20a4,({u20a5 with held:=[]}:Recv),u20a6,())).lp fun(_,p25a1)=>
  .ite (decide (3<(p25a1.held.length:Int))) (.ret u20a3)<|
  .ite (p25a1.fin==0) (.val (i_SeqAdd.f (p25a1.next,1,())) fun c26=>
   .ret (⟨c26,p25a1.data,p25a1.held,(-1),true⟩:Recv))<|
  .ret p25a1)<|
  fun(n18,a18_0)=>
  .grd ((decide (0≤n18))&&(decide (n18≤(u17a6.length:Int))))<|
  .grd (Nat.ble (u17a5.data.length+(toBytes ((u17a6.take n18.toNat).drop 0)).length) maxStr)<|
  .val (i_SeqAdd.f (u17a1.next,n18,())) fun c27=>
  .bnd (β:=WT i_Arrived_J152_a.es) (.ite (u17a5.fin != (-1)) (.ret (u17a0,n18,({({a18_0 with held:=[]}:Recv)with held:=[]}:Recv),u17a3,u17a4,(⟨c27,(u17a5.data++(toBytes ((u17a6.take n18.toNat).drop 0))),u17a5.held,(IntKind.wrap .i64 (u17a5.fin-n18)),u17a5.done⟩:Recv),u17a6,()))<|
   .ret (u17a0,n18,({({a18_0 with held:=[]}:Recv)with held:=[]}:Recv),u17a3,u17a4,({u17a5 with next:=c27,data:=(u17a5.data++(toBytes ((u17a6.take n18.toNat).drop 0)))}:Recv),u17a6,())) fun(u28a0,u28a1,u28a2,u28a3,u28a4,u28a5,u28a6,_)=>
  .lp (i_Arrived_L3_d (u28a0,u28a1,u28a1,({u28a2 with held:=[]}:Recv),u28a3,u28a4,({u28a5 with held:=[]}:Recv),u28a6,())).lp fun(_,p29a1)=>
  .ite (decide (3<(p29a1.held.length:Int))) (.ret u28a3)<|
  .ite (p29a1.fin==0) (.val (i_SeqAdd.f (p29a1.next,1,())) fun c30=>
   .ret (⟨c30,p29a1.data,p29a1.held,(-1),true⟩:Recv))<|
  .ret p29a1,
 fun(x0,x1,x2,x3,_) hp=>by
  refine Tr.C ?_ fun c1 hc1 qc1=>Tr.B (Q':=fun w=>(w.1=false→RO x0∧smE (pw (winR x0)) x0.held)) (Tr.C ?_ fun c2 hc2 qc2=>Tr.I (fun b0=>Tr.R ?_) fun b0=>Tr.R ?_) (fun(u3a0,_) hj3 qj3=>Tr.I (fun b0=>Tr.R ?_) fun b0=>Tr.C ?_ fun c4 hc4 qc4=>Tr.G4 ?_ fun g1=>Tr.G4 ?_ fun g2=>Tr.L (i_Arrived_L0_k ?_ ?_ ?_ ?_ ?_ ?_ ?_ ?_ ?_ ?_) (fun(a7_0,a7_1,a7_2) i7=>Tr.L (i_Arrived_L1_k ?_ ?_ ?_ ?_ ?_ ?_ ?_) (fun(a12_0,a12_1,a12_2) i12=>Tr.V fun c13 hc13=>Tr.V fun c14 hc14=>Tr.B (Q':=fun _=>True) (Tr.I (fun b3=>Tr.I (fun b4=>Tr.I (fun b5=>Tr.G3 ?_ fun g6=>Tr.C ?_ fun c15 hc15 qc15=>Tr.R trivial) fun b5=>Tr.R trivial) fun b4=>Tr.R trivial) fun b3=>Tr.R trivial) (fun(u16a0,_) hj16 qj16=>Tr.B (Q':=fun w=>sm_recv w.2.1∧sm_recv w.2.2.1∧sm_recv w.2.2.2.1∧sS w.2.2.2.2.1∧sm_recv w.2.2.2.2.2.1∧sS w.2.2.2.2.2.2.1∧w.1≤32∧0≤w.1∧(w.2.2.2.2.1.length:Int)=w.1∧w.2.2.2.2.2.2.1.length=w.2.2.2.2.1.length∧w.2.2.2.2.2.1.data.length≤32) (Tr.I (fun b3=>Tr.R ?_) fun b3=>Tr.R ?_) (fun(u17a0,u17a1,u17a2,u17a3,u17a4,u17a5,u17a6,_) hj17 qj17=>Tr.L (i_Arrived_L2_k ?_ ?_ ?_ ?_ ?_) (fun a18_0 i18=>Tr.Sr (Tr.G2 ?_ fun g3=>Tr.Gb ?_ fun g4=>Tr.V fun c27 hc27=>Tr.B (Q':=fun w=>sm_recv w.2.2.1∧sm_recv w.2.2.2.1∧sS w.2.2.2.2.1∧sm_recv w.2.2.2.2.2.1∧sS w.2.2.2.2.2.2.1∧w.1≤32∧0≤w.2.1∧w.2.1≤w.1∧(w.2.2.2.2.1.length:Int)=w.1∧w.2.2.2.2.2.2.1.length=w.2.2.2.2.1.length∧w.2.2.2.2.2.1.data.length≤64) (Tr.I (fun b5=>Tr.R ?_) fun b5=>Tr.R ?_) (fun(u28a0,u28a1,u28a2,u28a3,u28a4,u28a5,u28a6,_) hj28 qj28=>Tr.L (i_Arrived_L3_k ?_ ?_ ?_ ?_ ?_ ?_ ?_ ?_) (fun a=>Empty.elim a) (fun(p29a0,p29a1) hp29=>Tr.I (fun b5=>Tr.R ?_) fun b5=>Tr.I (fun b6=>Tr.V fun c30 hc30=>Tr.R ?_) fun b6=>Tr.R ?_)))) (fun(p18a0,p18a1) hp18=>Tr.Sl (Tr.G2 ?_ fun g3=>Tr.Gb ?_ fun g4=>Tr.V fun c19 hc19=>Tr.B (Q':=fun w=>sm_recv w.2.2.1∧sm_recv w.2.2.2.1∧sS w.2.2.2.2.1∧sm_recv w.2.2.2.2.2.1∧sS w.2.2.2.2.2.2.1∧w.1≤32∧0≤w.2.1∧w.2.1≤w.1∧(w.2.2.2.2.1.length:Int)=w.1∧w.2.2.2.2.2.2.1.length=w.2.2.2.2.1.length∧w.2.2.2.2.2.1.data.length≤64) (Tr.I (fun b5=>Tr.R ?_) fun b5=>Tr.R ?_) (fun(u20a0,u20a1,u20a2,u20a3,u20a4,u20a5,u20a6,_) hj20 qj20=>Tr.L (i_Arrived_L3_k ?_ ?_ ?_ ?_ ?_ ?_ ?_ ?_) (fun a=>Empty.elim a) (fun(p25a0,p25a1) hp25=>Tr.I (fun b5=>Tr.R ?_) fun b5=>Tr.I (fun b6=>Tr.V fun c26 hc26=>Tr.R ?_) fun b6=>Tr.R ?_))))))) (fun p=>Empty.elim p)) (fun p=>Empty.elim p))
  all_goals ((try simp only[i_Arrived_L0_d,i_Arrived_L1_d,i_Arrived_L2_d,i_Arrived_L3_d,LC.lp,LC.ct,Ct.lp,LW.lp,LW.cw,Cw.lp,Tr.nice,letK]at*)<;>grind)⟩
noncomputable def i_Arrived_e:=entT st i_Arrived_x i_Arrived_o [(leC 0 i_Arrived_L0_h i_Arrived_L0_d),(leC 4 i_Arrived_L1_h i_Arrived_L1_d),(leC 6 i_Arrived_L2_h i_Arrived_L2_d),(leW 8 i_Arrived_L3_h i_Arrived_L3_d)] (ks:=[.st .recv,.sc (.int .i64),.sc .str,.sc .bool]) i_Arrived (fun v=>[(true,q_recv (.o true) v)]) Tryz.func230 ⟨i_Arrived_L0_s,i_Arrived_L1_s,i_Arrived_L2_s,i_Arrived_L3_s,trivial⟩ fun _=>by kernel_rfl
noncomputable def s_Heard_o:List (Ent1 Tryz.prog):=[s_l19Copy_e,s_Verdict_e,s_Acked_e,s_l1Max_e,s_l1Min_e,s_l17Flown_e,s_l1In_e,s_Has_e,s_Arrived_e,s_Turned_e]
def s_Heard_J24_a:An:=⟨⟨[],[],false,0⟩,⟨[2,3,4,5],[],false,0⟩,⟨[],[]⟩,[(.normal,⟨[(2,false,[.ptr 0 0]),(3,false,[.ptr 1 0]),(4,false,[.ptr 2 0]),(5,false,[.ptr 3 0])],[.box [.st .conn [.sl .arg]],.box [.st .segm []],.box [.st .conn [.nil .piec]],.box [.st .conn [.own 4]],.of false true]⟩)]⟩
noncomputable def s_Heard_x:Fx:=⟨235,Tryz.f235,[(1000024,s_Heard_J24_a),(3000010,rA 0 59)],0⟩
noncomputable def s_Heard:FT (Conn×Segm×Unit) (Conn) (fun x=>sm_conn x.1∧sm_segm x.2.1) (fun x v=>sm_conn v):=⟨fun(x0,x1,_)=>
  .cal s_l19Copy.c (x0,()) fun c1=>
  .cal s_Verdict.c (x0,x1,()) fun c2=>
  .ite (c2 != 5) (.ret c1)<|
  .cal s_Acked.c (x0.s,x1.ack,()) fun c3=>
  .bnd (β:=WT s_Heard_J24_a.es) (.ite c3.2 (.val (s_l1Max.f (0,x0.opts.scale,())) fun c4=>
    .grd (decide (0≤(IntKind.wrap .u64 c4)))<|
    .val (IntKind.wrap .i64 (x1.window*2 ^ (min (IntKind.wrap .u64 c4).toNat 64))) fun e5=>
    .val (s_l1Min.f (1073725440,e5,())) fun c6=>
    .val (s_l1Max.f (c1.most,c6,())) fun c7=>
    .cal s_l17Flown.c (c3.1,()) fun c8=>
    .bnd (β:=Bool×Unit) (.ite (c3.1.una != x0.s.una) (.ret ((x0.state != 7),()))<|
     .ite (c8==0) (.ret ((x0.state != 7),()))<|
     .ret (false,())) fun(u9a0,_)=>
    .ite u9a0 (.ite (decide (0<c8)) (.ret (x0,x1,(⟨⟨0,0,0⟩,0,⟨0,[],0,false,false,false⟩,⟨0,[],[],0,false⟩,0,0,⟨0,0,false,false,0,0⟩,0,0⟩:Conn),(⟨c1.tuple,c1.state,c3.1,c1.r,c6,c7,c1.opts,3,0⟩:Conn),()))<|
     .ret (x0,x1,(⟨⟨0,0,0⟩,0,⟨0,[],0,false,false,false⟩,⟨0,[],[],0,false⟩,0,0,⟨0,0,false,false,0,0⟩,0,0⟩:Conn),(⟨c1.tuple,c1.state,c3.1,c1.r,c6,c7,c1.opts,0,0⟩:Conn),()))<|
    .ret (x0,x1,(⟨⟨0,0,0⟩,0,⟨0,[],0,false,false,false⟩,⟨0,[],[],0,false⟩,0,0,⟨0,0,false,false,0,0⟩,0,0⟩:Conn),(⟨c1.tuple,c1.state,c3.1,c1.r,c6,c7,c1.opts,c1.timer,c1.tries⟩:Conn),()))<|
   .ret (x0,x1,(⟨⟨0,0,0⟩,0,⟨0,[],0,false,false,false⟩,⟨0,[],[],0,false⟩,0,0,⟨0,0,false,false,0,0⟩,0,0⟩:Conn),c1,())) fun(u10a0,u10a1,_,u10a3,_)=>
  .val (s_l1In.f (u10a0.state,1,3,())) fun c11=>
  .ite c11 (.val (s_Has.f (u10a1,1,())) fun c12=>
   .cal s_Arrived.c (u10a0.r,u10a1.seq,u10a1.body,c12,()) fun c13=>
   .cal s_Turned.c (({u10a3 with r.next:=c13.next,r.data:=c13.data,r.held:=c13.held,r.fin:=c13.fin,r.done:=c13.done}:Conn),()) fun c14=>
   .ret c14)<|
  .cal s_Turned.c (u10a3,()) fun c15=>
  .ret c15,
 fun(x0,x1,_) hp=>by
  refine Tr.C ?_ fun _ _ _=>Tr.C ?_ fun _ _ _=>Tr.I (fun _=>Tr.R ?_) fun _=>Tr.C ?_ fun _ _ _=>Tr.B (Q':=fun w=>sm_conn w.1∧sm_segm w.2.1∧sm_conn w.2.2.1∧sm_conn w.2.2.2.1) (Tr.I (fun _=>Tr.V fun _ _=>Tr.G1 ?_ fun _=>Tr.V fun _ _=>Tr.V fun _ _=>Tr.V fun _ _=>Tr.C ?_ fun _ _ _=>Tr.B (Q':=fun _=>True) (Tr.F (by kernel_rfl) trivial) (fun(u9a0,_) _ _=>Tr.I (fun _=>Tr.I (fun _=>Tr.R ?_) fun _=>Tr.R ?_) fun _=>Tr.R ?_)) fun _=>Tr.R ?_) (fun(u10a0,u10a1,u10a2,u10a3,_) _ _=>Tr.V fun _ _=>Tr.I (fun _=>Tr.V fun _ _=>Tr.C ?_ fun _ _ _=>Tr.C ?_ fun _ _ _=>Tr.R ?_) fun _=>Tr.C ?_ fun _ _ _=>Tr.R ?_)
  all_goals ((try simp only[Tr.nice,letK]at*)<;>grind)⟩
noncomputable def s_Heard_e:=entT st s_Heard_x s_Heard_o [] (ks:=[.st .conn,.st .segm]) s_Heard (fun v=>[(true,q_conn (.o true) v)]) Tryz.func235 trivial fun _=>by kernel_rfl
noncomputable def s_SipHash_o:List (Ent1 Tryz.prog):=[s_SipStart_e,s_l10Low_e,s_SipWord_e,s_SipEnd_e]
def s_SipHash_L0_h:Sh:=⟨[(2,false,[.str]),(7,false,[.ptr 0 0]),(8,false,[.int .i64]),(9,false,[.int .i64])],[.box [.st .sipr []]]⟩
noncomputable def s_SipHash_x:Fx:=⟨237,Tryz.f237,[(0,la ⟨[2,7,8,9],[],false,0⟩ ⟨[2,6,7,8,9],[],false,0⟩)],0⟩
noncomputable def s_SipHash_L0_T (v0:Bytes)(v1:Int)(a:Int×Sipr):Tr (Stp (Int×Sipr) ((Int×Sipr))):=
 .ite (decide ((IntKind.wrap .i64 (a.1+8))≤v1)) (.grd (((decide (0≤a.1))&&(decide (a.1≤(IntKind.wrap .i64 (a.1+8)))))&&(decide ((IntKind.wrap .i64 (a.1+8))≤(v0.length:Int))))<|
  .cal s_l10Low.c (((v0.take ((IntKind.wrap .i64 (a.1+8)).toNat)).drop a.1.toNat),()) fun c2=>
  .cal s_SipWord.c (a.2,c2,()) fun c3=>
  .ret (.next ((IntKind.wrap .i64 (a.1+8)),c3)))<|
 .ret (.out (a.1,a.2))
noncomputable def s_SipHash_L0_d:s_SipHash_L0_h.V→LW s_SipHash_L0_h (Int×Sipr) ((Int×Sipr)):=fun(v0,v1,v2,v3,_)=>⟨(v2,v3),fun a=>(v0,v1,a.1,a.2,()),s_SipHash_L0_T v0 v1,Int.toNat (v1-v2),fun _ k p=>k (.exit 0) (Sh.enc ⟨[(2,false,[.str]),(6,false,[.undef]),(7,false,[.ptr 0 0]),(8,false,[.int .i64]),(9,false,[.int .i64])],[.box [.st .sipr []]]⟩ (v0,v1,p.1,p.2,()))⟩
theorem s_SipHash_L0_s:LS Tryz.prog s_SipHash_x [0] (leW 0 s_SipHash_L0_h s_SipHash_L0_d):=loopW st (orcOf_ok s_SipHash_o) _ s_SipHash_L0_d [] trivial (by kernel_rfl) (fun _=>by kernel_rfl) fun _ _ _ _ _=>by kernel_rfl
theorem s_SipHash_L0_k {v0:Bytes}{v1 v2:Int}{v3:Sipr}(h0:v1=(v0.length:Int))(h1:sS v0)(h2:0≤v2∧v2≤v1):(s_SipHash_L0_d (v0,v1,v2,v3,())).W (fun p=>0≤p.1∧p.1≤v0.length):=
 LW.okW (a:=(v2,v3)) (fun a=>0≤a.1∧a.1≤v1) (fun a=>Int.toNat (v1-a.1)) rfl h2 fun(v2,v3) hv=>by
  refine Tr.I (fun _=>Tr.G3 ?_ fun _=>Tr.C ?_ fun _ _ _=>Tr.C trivial fun _ _ _=>Tr.Rn ?_) fun _=>Tr.Ro ?_
  all_goals (grind)
noncomputable def s_SipHash:FT (Int×Int×Bytes×Unit) (Int) (fun x=>sS x.2.2.1) (fun _ _=>True):=⟨fun(x0,x1,x2,_)=>
  .val (s_SipStart.f (x0,x1,())) fun c1=>
  .lp (s_SipHash_L0_d (x2,(x2.length:Int),0,c1,())).lp fun(p4a0,p4a1)=>
  .grd (((decide (0≤p4a0))&&(decide (p4a0≤(x2.length:Int))))&&(decide ((x2.length:Int)≤(x2.length:Int))))<|
  .cal s_l10Low.c (((x2.take ((x2.length:Int).toNat)).drop p4a0.toNat),()) fun c5=>
  .val (IntKind.wrap .u64 ((IntKind.wrap .u64 ((x2.length:Int).tmod 256))*72057594037927936)) fun e6=>
  .cal s_SipWord.c (p4a1,(bits .or .u64 c5 e6),()) fun c7=>
  .cal s_SipEnd.c (c7,()) fun c8=>
  .ret c8,
 fun(x0,x1,x2,_) hp=>by
  refine Tr.V fun _ _=>Tr.L (s_SipHash_L0_k ?_ ?_ ?_) (fun a=>Empty.elim a) (fun(p4a0,p4a1) _=>Tr.G3 ?_ fun _=>Tr.C ?_ fun _ _ _=>Tr.V fun _ _=>Tr.C trivial fun _ _ _=>Tr.C trivial fun _ _ _=>Tr.R trivial)
  all_goals ((try simp only[s_SipHash_L0_d,LW.lp,LW.cw,Cw.lp]at*)<;>grind)⟩
noncomputable def s_SipHash_e:=entT st s_SipHash_x s_SipHash_o [(leW 0 s_SipHash_L0_h s_SipHash_L0_d)] (ks:=[.sc (.int .u64),.sc (.int .u64),.sc .str]) s_SipHash (fun v=>[(false,[.c (.int .u64 v)])]) Tryz.func237 ⟨s_SipHash_L0_s,trivial⟩ fun _=>by kernel_rfl
noncomputable def i_SipHash_o:List (Ent1 Tryz.prog):=[i_SipStart_e,i_little_e,i_SipWord_e,i_SipEnd_e]
def i_SipHash_L0_h:Sh:=⟨[(2,false,[.str]),(7,false,[.ptr 0 0]),(8,false,[.sl .any .u8])],[.box [.st .sipr []]]⟩
noncomputable def i_SipHash_x:Fx:=⟨289,Tryz.f289,[(0,la ⟨[2,7,8],[.soft 8 0],false,0⟩ ⟨[2,6,7,8],[],false,0⟩)],0⟩
noncomputable def i_SipHash_L0_T (a:List Int×Sipr):Tr (Stp (List Int×Sipr) ((List Int×Sipr))):=
 .ite (decide (8≤(a.1.length:Int))) (.cal i_little.c (a.1,()) fun c4=>
  .cal i_SipWord.c (a.2,c4,()) fun c5=>
  .grd ((decide (8≤(a.1.length:Int)))&&(decide ((a.1.length:Int)≤(a.1.length:Int))))<|
  .ret (.next (((a.1.take ((a.1.length:Int).toNat)).drop 8),c5)))<|
 .ret (.out (a.1,a.2))
noncomputable def i_SipHash_L0_d:i_SipHash_L0_h.V→LW i_SipHash_L0_h (List Int×Sipr) ((List Int×Sipr)):=fun(v0,v1,v2,_)=>⟨(v1,v2),fun a=>(v0,a.1,a.2,()),i_SipHash_L0_T,v1.length,fun _ k p=>k (.exit 0) (Sh.enc ⟨[(2,false,[.str]),(6,false,[.undef]),(7,false,[.ptr 0 0]),(8,false,[.sl .any .u8])],[.box [.st .sipr []]]⟩ (v0,p.1,p.2,()))⟩
theorem i_SipHash_L0_s:LS Tryz.prog i_SipHash_x [0] (leW 0 i_SipHash_L0_h i_SipHash_L0_d):=loopW st (orcOf_ok i_SipHash_o) _ i_SipHash_L0_d [] trivial (by kernel_rfl) (fun _=>by kernel_rfl) fun _ _ _ _ _=>by kernel_rfl
theorem i_SipHash_L0_k {v0:Bytes}{v1:List Int}{v2:Sipr}(h0:sS v1):(i_SipHash_L0_d (v0,v1,v2,())).W (fun p=>sS p.1):=
 LW.okW (a:=(v1,v2)) (fun a=>sS a.1) (fun a=>a.1.length) rfl h0 fun(v1,v2) hv=>by
  refine Tr.I (fun _=>Tr.C ?_ fun _ _ _=>Tr.C trivial fun _ _ _=>Tr.G2 ?_ fun _=>Tr.Rn ?_) fun _=>Tr.Ro ?_
  all_goals (grind)
noncomputable def i_SipHash:FT (Int×Int×Bytes×Unit) (Int) (fun x=>sS x.2.2.1) (fun _ _=>True):=⟨fun(x0,x1,x2,_)=>
  .val (i_SipStart.f (x0,x1,())) fun c1=>
  .grd (Nat.ble x2.length maxSl)<|
  .lp (i_SipHash_L0_d (x2,(toInts x2),c1,())).lp fun(p6a0,p6a1)=>
  .val ((p6a0.take (List.replicate 8 0).length)++(List.replicate 8 0).drop (p6a0.take (List.replicate 8 0).length).length) fun l7=>
  .grd (decide (7<(l7.length:Int)))<|
  .cal i_little.c ((l7.set 7 (IntKind.wrap .u8 (x2.length:Int))),()) fun c8=>
  .cal i_SipWord.c (p6a1,c8,()) fun c9=>
  .cal i_SipEnd.c (c9,()) fun c10=>
  .ret c10,
 fun(x0,x1,x2,_) hp=>by
  refine Tr.V fun _ _=>Tr.Gb ?_ fun _=>Tr.L (i_SipHash_L0_k ?_) (fun a=>Empty.elim a) (fun(p6a0,p6a1) _=>Tr.V fun _ _=>Tr.G1 ?_ fun _=>Tr.C ?_ fun _ _ _=>Tr.C trivial fun _ _ _=>Tr.C trivial fun _ _ _=>Tr.R trivial)
  all_goals ((try simp only[i_SipHash_L0_d,LW.lp,LW.cw,Cw.lp]at*)<;>grind)⟩
noncomputable def i_SipHash_e:=entT st i_SipHash_x i_SipHash_o [(leW 0 i_SipHash_L0_h i_SipHash_L0_d)] (ks:=[.sc (.int .u64),.sc (.int .u64),.sc .str]) i_SipHash (fun v=>[(false,[.c (.int .u64 v)])]) Tryz.func289 ⟨i_SipHash_L0_s,trivial⟩ fun _=>by kernel_rfl
noncomputable def g_IndexFunc_Conn_i_FindConn_1_o:List (Ent1 Tryz.prog):=[i_FindConn_1_e]
def g_IndexFunc_Conn_i_FindConn_1_L0_h:Sh:=⟨[(0,false,[.sl .arg .conn]),(1,false,[.fn 80 [0]]),(7,false,[.int .i64]),(8,false,[.int .i64])],[.box [.st .tupl []]]⟩
noncomputable def g_IndexFunc_Conn_i_FindConn_1_x:Fx:=⟨79,Tryz.f79,[(0,la ⟨[0,1,7,8],[],false,1⟩ ⟨[4],[],false,1⟩)],1⟩
noncomputable def g_IndexFunc_Conn_i_FindConn_1_L0_T (v0:List Conn)(v3:Tupl)(v2:Int)(a:Unit):Tr (Stp (Unit) ((Int))):=
 .grd ((decide (0≤v2))&&(decide (v2<(v0.length:Int))))<|
 .cal i_FindConn_1.c ((v0.getD v2.toNat (Ty.zero .conn)),v3,()) fun c1=>
 .ite c1 (.ret (.out v2))<|
 .ret (.next ())
noncomputable def g_IndexFunc_Conn_i_FindConn_1_L0_d:g_IndexFunc_Conn_i_FindConn_1_L0_h.V→LC g_IndexFunc_Conn_i_FindConn_1_L0_h (Unit) ((Int)) (((Int))⊕(Int×Unit)):=fun(v0,v1,v2,v3,_)=>⟨v2,(),fun v2 _=>(v0,v1,v2,v3,()),fun v2 _=>(decide (v2<v1)),g_IndexFunc_Conn_i_FindConn_1_L0_T v0 v3,up,1,(Int.toNat (v1-v2)),.inl,fun i a=> .inr (i,a),fun _ k w=>Sum.elim (fun p=>k .ret (Sh.enc ⟨[(4,false,[.int .i64])],[.box [.st .tupl []]]⟩ (p,v3,()))) (fun _=>k (.exit 0) (Sh.enc ⟨[(4,false,[.undef])],[.box [.st .tupl []]]⟩ (v3,()))) w⟩
theorem g_IndexFunc_Conn_i_FindConn_1_L0_s:LS Tryz.prog g_IndexFunc_Conn_i_FindConn_1_x [0] (leC 0 g_IndexFunc_Conn_i_FindConn_1_L0_h g_IndexFunc_Conn_i_FindConn_1_L0_d):=loopC st (orcOf_ok g_IndexFunc_Conn_i_FindConn_1_o) _ g_IndexFunc_Conn_i_FindConn_1_L0_d [] trivial (by kernel_rfl) (fun _=>by kernel_rfl) fun _ _ _ _ _ _=>by kernel_rfl
theorem g_IndexFunc_Conn_i_FindConn_1_L0_k {v0:List Conn}{v1 v2:Int}{v3:Tupl}(h0:0≤v2)(h1:v1≤4611686018427387904)(h2:v1≤(v0.length:Int)):(g_IndexFunc_Conn_i_FindConn_1_L0_d (v0,v1,v2,v3,())).U v1 (fun _ _=>True) (fun p=>v2≤p∧p<v1):=
 LC.okU (i:=v2) (a:=()) (fun _ _=>rfl) (fun _=>rfl) rfl h0 h1 trivial fun v2 _ hj hk hv=>by
  refine Tr.G2 ?_ fun _=>Tr.C trivial fun _ _ _=>Tr.I (fun _=>Tr.Ro ?_) fun _=>Tr.Rn trivial
  all_goals (grind)
noncomputable def g_IndexFunc_Conn_i_FindConn_1:FT (List Conn×Tupl×Unit) (Int) (fun x=>wS x.1) (fun x v=> -1≤v∧v<x.1.length):=⟨fun(x0,y1_0,_)=>
  .lp (g_IndexFunc_Conn_i_FindConn_1_L0_d (x0,(x0.length:Int),0,y1_0,())).lp fun w2=> .sum w2 (fun p2a0=>
  .ret p2a0)<|
  fun _=>
  .ret (-1),
 fun(x0,y1_0,_) hp=>by
  refine Tr.L (g_IndexFunc_Conn_i_FindConn_1_L0_k ?_ ?_ ?_) (fun _ _=>Tr.Sr (Tr.R ?_)) (fun p2a0 _=>Tr.Sl (Tr.R ?_))
  all_goals ((try simp only[g_IndexFunc_Conn_i_FindConn_1_L0_d,LC.lp,LC.ct,Ct.lp]at*)<;>grind)⟩
noncomputable def g_IndexFunc_Conn_i_FindConn_1_e:=entM st g_IndexFunc_Conn_i_FindConn_1_x g_IndexFunc_Conn_i_FindConn_1_o [(leC 0 g_IndexFunc_Conn_i_FindConn_1_L0_h g_IndexFunc_Conn_i_FindConn_1_L0_d)] [.wr false [.c (.sl .conn)],.fn 80 [0]] [.box [.st .tupl]] (fun x y=>(x.1.1,y.1.1,())) g_IndexFunc_Conn_i_FindConn_1 (fun v=>[(false,[.c (.int .i64 v)])]) (fun x y v=>((y.1.1,()),())) Tryz.func79 (by kernel_rfl) ⟨g_IndexFunc_Conn_i_FindConn_1_L0_s,trivial⟩ fun _ _=>by kernel_rfl
noncomputable def g_IndexFunc_Half_i_FindHalf_1_o:List (Ent1 Tryz.prog):=[i_FindHalf_1_e]
def g_IndexFunc_Half_i_FindHalf_1_L0_h:Sh:=⟨[(0,false,[.sl .arg .half]),(1,false,[.fn 82 [0]]),(7,false,[.int .i64]),(8,false,[.int .i64])],[.box [.st .tupl []]]⟩
noncomputable def g_IndexFunc_Half_i_FindHalf_1_x:Fx:=⟨81,Tryz.f81,[(0,la ⟨[0,1,7,8],[],false,1⟩ ⟨[4],[],false,1⟩)],1⟩
noncomputable def g_IndexFunc_Half_i_FindHalf_1_L0_T (v0:List Half)(v3:Tupl)(v2:Int)(a:Unit):Tr (Stp (Unit) ((Int))):=
 .grd ((decide (0≤v2))&&(decide (v2<(v0.length:Int))))<|
 .cal i_FindHalf_1.c ((v0.getD v2.toNat (Ty.zero .half)),v3,()) fun c1=>
 .ite c1 (.ret (.out v2))<|
 .ret (.next ())
noncomputable def g_IndexFunc_Half_i_FindHalf_1_L0_d:g_IndexFunc_Half_i_FindHalf_1_L0_h.V→LC g_IndexFunc_Half_i_FindHalf_1_L0_h (Unit) ((Int)) (((Int))⊕(Int×Unit)):=fun(v0,v1,v2,v3,_)=>⟨v2,(),fun v2 _=>(v0,v1,v2,v3,()),fun v2 _=>(decide (v2<v1)),g_IndexFunc_Half_i_FindHalf_1_L0_T v0 v3,up,1,(Int.toNat (v1-v2)),.inl,fun i a=> .inr (i,a),fun _ k w=>Sum.elim (fun p=>k .ret (Sh.enc ⟨[(4,false,[.int .i64])],[.box [.st .tupl []]]⟩ (p,v3,()))) (fun _=>k (.exit 0) (Sh.enc ⟨[(4,false,[.undef])],[.box [.st .tupl []]]⟩ (v3,()))) w⟩
theorem g_IndexFunc_Half_i_FindHalf_1_L0_s:LS Tryz.prog g_IndexFunc_Half_i_FindHalf_1_x [0] (leC 0 g_IndexFunc_Half_i_FindHalf_1_L0_h g_IndexFunc_Half_i_FindHalf_1_L0_d):=loopC st (orcOf_ok g_IndexFunc_Half_i_FindHalf_1_o) _ g_IndexFunc_Half_i_FindHalf_1_L0_d [] trivial (by kernel_rfl) (fun _=>by kernel_rfl) fun _ _ _ _ _ _=>by kernel_rfl
theorem g_IndexFunc_Half_i_FindHalf_1_L0_k {v0:List Half}{v1 v2:Int}{v3:Tupl}(h0:0≤v2)(h1:v1≤4611686018427387904)(h2:v1≤(v0.length:Int)):(g_IndexFunc_Half_i_FindHalf_1_L0_d (v0,v1,v2,v3,())).U v1 (fun _ _=>True) (fun p=>v2≤p∧p<v1):=
 LC.okU (i:=v2) (a:=()) (fun _ _=>rfl) (fun _=>rfl) rfl h0 h1 trivial fun v2 _ hj hk hv=>by
  refine Tr.G2 ?_ fun _=>Tr.C trivial fun _ _ _=>Tr.I (fun _=>Tr.Ro ?_) fun _=>Tr.Rn trivial
  all_goals (grind)
noncomputable def g_IndexFunc_Half_i_FindHalf_1:FT (List Half×Tupl×Unit) (Int) (fun x=>wS x.1) (fun x v=> -1≤v∧v<x.1.length):=⟨fun(x0,y1_0,_)=>
  .lp (g_IndexFunc_Half_i_FindHalf_1_L0_d (x0,(x0.length:Int),0,y1_0,())).lp fun w2=> .sum w2 (fun p2a0=>
  .ret p2a0)<|
  fun _=>
  .ret (-1),
 fun(x0,y1_0,_) hp=>by
  refine Tr.L (g_IndexFunc_Half_i_FindHalf_1_L0_k ?_ ?_ ?_) (fun _ _=>Tr.Sr (Tr.R ?_)) (fun p2a0 _=>Tr.Sl (Tr.R ?_))
  all_goals ((try simp only[g_IndexFunc_Half_i_FindHalf_1_L0_d,LC.lp,LC.ct,Ct.lp]at*)<;>grind)⟩
noncomputable def g_IndexFunc_Half_i_FindHalf_1_e:=entM st g_IndexFunc_Half_i_FindHalf_1_x g_IndexFunc_Half_i_FindHalf_1_o [(leC 0 g_IndexFunc_Half_i_FindHalf_1_L0_h g_IndexFunc_Half_i_FindHalf_1_L0_d)] [.sc (.sl .half),.fn 82 [0]] [.box [.st .tupl]] (fun x y=>(x.1,y.1.1,())) g_IndexFunc_Half_i_FindHalf_1 (fun v=>[(false,[.c (.int .i64 v)])]) (fun x y v=>((y.1.1,()),())) Tryz.func81 (by kernel_rfl) ⟨g_IndexFunc_Half_i_FindHalf_1_L0_s,trivial⟩ fun _ _=>by kernel_rfl
noncomputable def i_FindConn:FT (Tabl×Tupl×Unit) (Int) (fun x=>wS x.1.conns) (fun x v=> -1≤v∧v<x.1.conns.length):=⟨fun(x0,x1,_)=>
  .cal g_IndexFunc_Conn_i_FindConn_1.c (x0.conns,x1,()) fun c1=>
  .ret c1,
 fun(x0,x1,_) hp=>by
  refine Tr.C ?_ fun _ _ _=>Tr.R ?_
  all_goals (grind)⟩
noncomputable def i_FindConn_e:=ent0 st Tryz.func19 [g_IndexFunc_Conn_i_FindConn_1_e] (ks:=[.st .tabl,.st .tupl]) i_FindConn (fun v=>[(false,[.c (.int .i64 v)])]) fun _=>by kernel_rfl
noncomputable def i_FindHalf:FT (List Half×Tupl×Unit) (Int) (fun x=>wS x.1) (fun x v=> -1≤v∧v<x.1.length):=⟨fun(x0,x1,_)=>
  .cal g_IndexFunc_Half_i_FindHalf_1.c (x0,x1,()) fun c1=>
  .ret c1,
 fun(x0,x1,_) hp=>by
  refine Tr.C ?_ fun _ _ _=>Tr.R ?_
  all_goals (grind)⟩
noncomputable def i_FindHalf_e:=ent0 st Tryz.func20 [g_IndexFunc_Half_i_FindHalf_1_e] (ks:=[.sc (.sl .half),.st .tupl]) i_FindHalf (fun v=>[(false,[.c (.int .i64 v)])]) fun _=>by kernel_rfl
noncomputable def s_DoorOk_o:List (Ent1 Tryz.prog):=[s_WordOk_e,s_KeysOk_e,s_TableOk_e,s_HalvesOk_e,s_l1In_e,s_FindConn_e]
def s_DoorOk_L0_h:Sh:=⟨[(1,false,[.ptr 0 0]),(3,false,[.int .i64])],[.box [.st .door [.sl .arg,.sl .arg,.sl .arg,.sl .arg,.sl .arg]]]⟩
noncomputable def s_DoorOk_x:Fx:=⟨24,Tryz.f24,[(0,la ⟨[1,3],[],false,0⟩ ⟨[2],[],false,0⟩),(3000001,rA 0 51)],0⟩
noncomputable def s_DoorOk_L0_T (v1:Door)(v0:Int)(a:Unit):Tr (Stp (Unit) ((Unit))):=
 .grd ((decide (0≤v0))&&(decide (v0<(v1.halves.length:Int))))<|
 .cal s_FindConn.c (v1.table,(v1.halves.getD v0.toNat (Ty.zero .half)).tuple,()) fun c8=>
 .ite (decide (0≤c8)) (.ret (.out ()))<|
 .ret (.next ())
noncomputable def s_DoorOk_L0_d:s_DoorOk_L0_h.V→LC s_DoorOk_L0_h (Unit) ((Unit)) (((Unit))⊕(Int×Unit)):=fun(v0,v1,_)=>⟨v0,(),fun v0 _=>(v0,v1,()),fun v0 _=>(decide (v0<(v1.halves.length:Int))),s_DoorOk_L0_T v1,up,1,(Int.toNat ((v1.halves.length:Int)-v0)),.inl,fun i a=> .inr (i,a),fun _ k w=>Sum.elim (fun _=>k .ret (Sh.enc ⟨[(2,false,[.bool])],[]⟩ (false,()))) (fun _=>k (.exit 0) (Sh.enc ⟨[(2,false,[.undef])],[]⟩ ())) w⟩
theorem s_DoorOk_L0_s:LS Tryz.prog s_DoorOk_x [0] (leC 0 s_DoorOk_L0_h s_DoorOk_L0_d):=loopC st (orcOf_ok s_DoorOk_o) _ s_DoorOk_L0_d [] trivial (by kernel_rfl) (fun _=>by kernel_rfl) fun _ _ _ _ _ _=>by kernel_rfl
theorem s_DoorOk_L0_k {v0:Int}{v1:Door}(h0:0≤v0)(h1:(v1.halves.length:Int)≤4611686018427387904)(h2:sm_door v1):(s_DoorOk_L0_d (v0,v1,())).U (v1.halves.length:Int) (fun _ _=>True) (fun _=>True):=
 LC.okU (i:=v0) (a:=()) (fun _ _=>rfl) (fun _=>rfl) rfl h0 h1 trivial fun v0 _ hj hk hv=>by
  refine Tr.G2 ?_ fun _=>Tr.C ?_ fun _ _ _=>Tr.Z (by kernel_rfl)
  all_goals (grind)
noncomputable def s_DoorOk:FT (Door×Unit) (Bool) (fun x=>sm_door x.1) (fun x v=>(v=true→x.1.table.conns.length≤16)):=⟨fun(x0,_)=>
  .bnd (β:=Bool×Unit) (.cal s_WordOk.c (x0.port,16,()) fun c1=>
   .ite (!c1) (.ret (true,()))<|
   .cal s_WordOk.c (x0.clock,32,()) fun c2=>
   .ite (!c2) (.ret (true,()))<|
   .cal s_KeysOk.c (x0.keys,()) fun c3=>
   .ite (!c3) (.ret (true,()))<|
   .cal s_TableOk.c (x0.table,x0.limits,()) fun c4=>
   .ite (!c4) (.ret (true,()))<|
   .cal s_HalvesOk.c (x0.halves,()) fun c5=>
   .ite (!c5) (.ret (true,()))<|
   .ite (decide (x0.limits.halves<(x0.halves.length:Int))) (.ret (true,()))<|
   .val (s_l1In.f (x0.chal,0,x0.limits.chal,())) fun c6=>
   .ret ((!c6),())) fun(u7a0,_)=>
  .ite u7a0 (.ret false)<|
  .lp (s_DoorOk_L0_d (0,x0,())).lp fun w9=> .sum w9 (fun _=>
  .ret false)<|
  fun _=>
  .ret true,
 fun(x0,_) hp=>by
  refine Tr.B (Q':=fun w=>(w.1=false→0≤x0.keys.epoch∧x0.keys.epoch≤4294967295∧x0.table.conns.length≤16∧x0.table.waiting.length≤16∧x0.halves.length≤64)) (Tr.C trivial fun _ _ _=>Tr.I (fun _=>Tr.R ?_) fun _=>Tr.C trivial fun _ _ _=>Tr.I (fun _=>Tr.R ?_) fun _=>Tr.C ?_ fun _ _ _=>Tr.I (fun _=>Tr.R ?_) fun _=>Tr.C ?_ fun _ _ _=>Tr.I (fun _=>Tr.R ?_) fun _=>Tr.C ?_ fun _ _ _=>Tr.I (fun _=>Tr.R ?_) fun _=>Tr.I (fun _=>Tr.R ?_) fun _=>Tr.V fun _ _=>Tr.R ?_) (fun(u7a0,_) _ _=>Tr.I (fun _=>Tr.R ?_) fun _=>Tr.L (s_DoorOk_L0_k ?_ ?_ ?_) (fun _ _=>Tr.Sr (Tr.R ?_)) (fun _ _=>Tr.Sl (Tr.R ?_)))
  all_goals ((try simp only[s_DoorOk_L0_d,LC.lp,LC.ct,Ct.lp,Tr.nice,letK]at*)<;>grind)⟩
noncomputable def s_DoorOk_e:=entT st s_DoorOk_x s_DoorOk_o [(leC 0 s_DoorOk_L0_h s_DoorOk_L0_d)] (ks:=[.st .door]) s_DoorOk (fun v=>[(false,[.c (.bool v)])]) Tryz.func24 ⟨s_DoorOk_L0_s,trivial⟩ fun _=>by kernel_rfl
noncomputable def i_cloneDoor:FT (Door×Unit) (Door) (fun x=>sm_door x.1) (fun x v=>sm_door v∧v.table.conns.length=x.1.table.conns.length∧v.table.waiting.length=x.1.table.waiting.length∧v.halves=x.1.halves):=⟨fun(x0,_)=>
  .cal i_cloneKeys.c (x0.keys,()) fun c1=>
  .cal g_Clone_Half.c (x0.halves,()) fun c2=>
  .cal i_cloneTable.c (x0.table,()) fun c3=>
  .ret (⟨x0.port,x0.clock,c1,x0.limits,c2,c3,x0.chal⟩:Door),
 fun(x0,_) hp=>by
  refine Tr.C ?_ fun _ _ _=>Tr.C ?_ fun _ _ _=>Tr.C ?_ fun _ _ _=>Tr.R ?_
  all_goals (grind)⟩
noncomputable def i_cloneDoor_e:=ent0 st Tryz.func47 [i_cloneKeys_e,g_Clone_Half_e,i_cloneTable_e] (ks:=[.st .door]) i_cloneDoor (fun v=>[(true,q_door (.o true) (.o true) (.o true) (.o true) (.o true) v)]) fun _=>by kernel_rfl
noncomputable def i_SetConn:FT (Tabl×Conn×Unit) (Tabl) (fun x=>sm_tabl x.1∧sm_conn x.2.1) (fun x v=>sm_tabl v∧v.conns.length=x.1.conns.length):=⟨fun(x0,x1,_)=>
  .cal i_cloneTable.c (x0,()) fun c1=>
  .cal i_FindConn.c (x0,x1.tuple,()) fun c2=>
  .ite (decide (0≤c2)) (.cal i_cloneConn.c (x1,()) fun c3=>
   .grd ((decide (0≤c2))&&(decide (c2<(c1.conns.length:Int))))<|
   .ret (⟨(c1.conns.set c2.toNat c3),c1.waiting⟩:Tabl))<|
  .ret c1,
 fun(x0,x1,_) hp=>by
  refine Tr.C ?_ fun _ _ _=>Tr.C ?_ fun _ _ _=>Tr.I (fun _=>Tr.C ?_ fun _ _ _=>Tr.G2 ?_ fun _=>Tr.R ?_) fun _=>Tr.R ?_
  all_goals (grind)⟩
noncomputable def i_SetConn_e:=ent0 st Tryz.func57 [i_cloneTable_e,i_FindConn_e,i_cloneConn_e] (ks:=[.st .tabl,.st .conn]) i_SetConn (fun v=>[(true,q_tabl (.o true) (.o true) v)]) fun _=>by kernel_rfl
noncomputable def i_DropHalf:FT (List Half×Tupl×Unit) (List Half) (fun x=>sS x.1) (fun x v=>sS v):=⟨fun(x0,x1,_)=>
  .cal g_Clone_Half.c (x0,()) fun c1=>
  .cal i_FindHalf.c (x0,x1,()) fun c2=>
  .ite (decide (0≤c2)) (.cal g_Delete_Half.c (c1,c2,(IntKind.wrap .i64 (c2+1)),()) fun c3=>
   .ret (c3.2.take c3.1))<|
  .ret c1,
 fun(x0,x1,_) hp=>by
  refine Tr.C ?_ fun _ _ _=>Tr.C ?_ fun _ _ _=>Tr.I (fun _=>Tr.C ?_ fun _ _ _=>Tr.R ?_) fun _=>Tr.R ?_
  all_goals (grind)⟩
noncomputable def i_DropHalf_e:=ent0 st Tryz.func58 [g_Clone_Half_e,i_FindHalf_e,g_Delete_Half_e] (ks:=[.sc (.sl .half),.st .tupl]) i_DropHalf (fun v=>[(false,[sc (.o true) .half v])]) fun _=>by kernel_rfl
noncomputable def s_l26Right:FT (Door×Tupl×Segm×Unit) (Bool) (fun x=>sm_door x.1∧sm_segm x.2.2.1) (fun _ _=>True):=⟨fun(x0,x1,x2,_)=>
  .cal s_DoorOk.c (x0,()) fun c1=>
  .ite c1 (.cal s_TupleOk.c (x1,()) fun c2=>
   .ite c2 (.cal s_SegmentOk.c (x2,()) fun c3=>
    .ret c3)<|
   .ret false)<|
  .ret false,
 fun(x0,x1,x2,_) hp=>by
  refine Tr.C ?_ fun _ _ _=>Tr.I (fun _=>Tr.C trivial fun _ _ _=>Tr.I (fun _=>Tr.C trivial fun _ _ _=>Tr.R trivial) fun _=>Tr.R trivial) fun _=>Tr.R trivial
  all_goals (grind)⟩
noncomputable def s_l26Right_e:=ent0 st Tryz.func59 [s_DoorOk_e,s_TupleOk_e,s_SegmentOk_e] (ks:=[.st .door,.st .tupl,.st .segm]) s_l26Right (fun v=>[(false,[.c (.bool v)])]) fun _=>by kernel_rfl
noncomputable def i_TableOk_o:List (Ent1 Tryz.prog):=[i_LimitsOk_e,i_ConnOk_e,i_FindConn_e,g_Index_Tuple_e]
def i_TableOk_L0_h:Sh:=⟨[(2,false,[.ptr 0 0]),(29,false,[.sl .arg .conn]),(30,false,[.int .i64]),(31,false,[.int .i64])],[.box [.st .tabl [.sl .arg,.sl .arg]]]⟩
def i_TableOk_L1_h:Sh:=⟨[(2,false,[.ptr 0 0]),(49,false,[.sl .arg .tupl]),(50,false,[.int .i64]),(51,false,[.int .i64])],[.box [.st .tabl [.sl .arg,.sl .arg]]]⟩
noncomputable def i_TableOk_x:Fx:=⟨74,Tryz.f74,[(0,la ⟨[2,29,30,31],[],false,0⟩ ⟨[2,4],[],false,0⟩),(2,la ⟨[2,49,50,51],[],false,0⟩ ⟨[4],[],false,0⟩),(3000001,rA 0 27)],0⟩
noncomputable def i_TableOk_L0_T (v0:List Conn)(v3:Tabl)(v2:Int)(a:Unit):Tr (Stp (Unit) ((Unit))):=
 .grd ((decide (0≤v2))&&(decide (v2<(v0.length:Int))))<|
 .cal i_ConnOk.c ((v0.getD v2.toNat (Ty.zero .conn)),()) fun c3=>
 .ite (!c3) (.ret (.out ()))<|
 .cal i_FindConn.c (v3,(v0.getD v2.toNat (Ty.zero .conn)).tuple,()) fun c4=>
 .ite (c4 != v2) (.ret (.out ()))<|
 .ret (.next ())
noncomputable def i_TableOk_L0_d:i_TableOk_L0_h.V→LC i_TableOk_L0_h (Unit) ((Unit)) (((Unit))⊕(Int×Unit)):=fun(v0,v1,v2,v3,_)=>⟨v2,(),fun v2 _=>(v0,v1,v2,v3,()),fun v2 _=>(decide (v2<v1)),i_TableOk_L0_T v0 v3,up,1,(Int.toNat (v1-v2)),.inl,fun i a=> .inr (i,a),fun _ k w=>Sum.elim (fun _=>k .ret (Sh.enc ⟨[(2,false,[.ptr 0 0]),(4,false,[.bool])],[.box [.st .tabl [.sl .arg,.sl .arg]]]⟩ (false,v3,()))) (fun _=>k (.exit 0) (Sh.enc ⟨[(2,false,[.ptr 0 0]),(4,false,[.undef])],[.box [.st .tabl [.sl .arg,.sl .arg]]]⟩ (v3,()))) w⟩
theorem i_TableOk_L0_s:LS Tryz.prog i_TableOk_x [0] (leC 0 i_TableOk_L0_h i_TableOk_L0_d):=loopC st (orcOf_ok i_TableOk_o) _ i_TableOk_L0_d [] trivial (by kernel_rfl) (fun _=>by kernel_rfl) fun _ _ _ _ _ _=>by kernel_rfl
theorem i_TableOk_L0_k {v0:List Conn}{v1 v2:Int}{v3:Tabl}(h0:0≤v2)(h1:v1≤4611686018427387904)(h2:sL sm_conn v0)(h3:sm_tabl v3)(h4:v1≤(v0.length:Int)):(i_TableOk_L0_d (v0,v1,v2,v3,())).U v1 (fun _ _=>True) (fun _=>True):=
 LC.okU (i:=v2) (a:=()) (fun _ _=>rfl) (fun _=>rfl) rfl h0 h1 trivial fun v2 _ hj hk hv=>by
  refine Tr.G2 ?_ fun _=>Tr.C ?_ fun _ _ _=>Tr.I (fun _=>Tr.Ro trivial) fun _=>Tr.C ?_ fun _ _ _=>Tr.Z (by kernel_rfl)
  all_goals (grind)
noncomputable def i_TableOk_L1_T (v0:List Tupl)(v3:Tabl)(v2:Int)(a:Unit):Tr (Stp (Unit) ((Unit))):=
 .grd ((decide (0≤v2))&&(decide (v2<(v0.length:Int))))<|
 .cal i_FindConn.c (v3,(v0.getD v2.toNat (Ty.zero .tupl)),()) fun c6=>
 .ite (decide (c6<0)) (.ret (.out ()))<|
 .cal g_Index_Tuple.c (v3.waiting,(v0.getD v2.toNat (Ty.zero .tupl)),()) fun c7=>
 .ite (c7 != v2) (.ret (.out ()))<|
 .ret (.next ())
noncomputable def i_TableOk_L1_d:i_TableOk_L1_h.V→LC i_TableOk_L1_h (Unit) ((Unit)) (((Unit))⊕(Int×Unit)):=fun(v0,v1,v2,v3,_)=>⟨v2,(),fun v2 _=>(v0,v1,v2,v3,()),fun v2 _=>(decide (v2<v1)),i_TableOk_L1_T v0 v3,up,1,(Int.toNat (v1-v2)),.inl,fun i a=> .inr (i,a),fun _ k w=>Sum.elim (fun _=>k .ret (Sh.enc ⟨[(4,false,[.bool])],[]⟩ (false,()))) (fun _=>k (.exit 2) (Sh.enc ⟨[(4,false,[.undef])],[]⟩ ())) w⟩
theorem i_TableOk_L1_s:LS Tryz.prog i_TableOk_x [1] (leC 2 i_TableOk_L1_h i_TableOk_L1_d):=loopC st (orcOf_ok i_TableOk_o) _ i_TableOk_L1_d [] trivial (by kernel_rfl) (fun _=>by kernel_rfl) fun _ _ _ _ _ _=>by kernel_rfl
theorem i_TableOk_L1_k {v0:List Tupl}{v1 v2:Int}{v3:Tabl}(h0:0≤v2)(h1:v1≤4611686018427387904)(h2:sS v0)(h3:sm_tabl v3)(h4:v1≤(v0.length:Int)):(i_TableOk_L1_d (v0,v1,v2,v3,())).U v1 (fun _ _=>True) (fun _=>True):=
 LC.okU (i:=v2) (a:=()) (fun _ _=>rfl) (fun _=>rfl) rfl h0 h1 trivial fun v2 _ hj hk hv=>by
  refine Tr.G2 ?_ fun _=>Tr.C ?_ fun _ _ _=>Tr.I (fun _=>Tr.Ro trivial) fun _=>Tr.C ?_ fun _ _ _=>Tr.Z (by kernel_rfl)
  all_goals (grind)
noncomputable def i_TableOk:FT (Tabl×Limi×Unit) (Bool) (fun x=>wS x.1.conns∧smE sm_conn x.1.conns∧wS x.1.waiting) (fun x v=>(v=true→x.1.conns.length≤16∧x.1.waiting.length≤16)):=⟨fun(x0,x1,_)=>
  .bnd (β:=Bool×Unit) (.cal i_LimitsOk.c (x1,()) fun c1=>
   .ite (!c1) (.ret (true,()))<|
   .ite (decide (x1.conns<(x0.conns.length:Int))) (.ret (true,()))<|
   .ret ((decide (x1.waiting<(x0.waiting.length:Int))),())) fun(u2a0,_)=>
  .ite u2a0 (.ret false)<|
  .lp (i_TableOk_L0_d (x0.conns,(x0.conns.length:Int),0,x0,())).lp fun w5=> .sum w5 (fun _=>
  .ret false)<|
  fun _=>
  .lp (i_TableOk_L1_d (x0.waiting,(x0.waiting.length:Int),0,x0,())).lp fun w8=> .sum w8 (fun _=>
  .ret false)<|
  fun _=>
  .ret true,
 fun(x0,x1,_) hp=>by
  refine Tr.B (Q':=fun w=>(w.1=false→x1.halves≤64∧x1.waiting≤16∧x1.conns≤16)) (Tr.C trivial fun _ _ _=>Tr.I (fun _=>Tr.R ?_) fun _=>Tr.I (fun _=>Tr.R ?_) fun _=>Tr.R ?_) (fun(u2a0,_) _ _=>Tr.I (fun _=>Tr.R ?_) fun _=>Tr.L (i_TableOk_L0_k ?_ ?_ ?_ ?_ ?_) (fun _ _=>Tr.Sr (Tr.L (i_TableOk_L1_k ?_ ?_ ?_ ?_ ?_) (fun _ _=>Tr.Sr (Tr.R ?_)) (fun _ _=>Tr.Sl (Tr.R ?_)))) (fun _ _=>Tr.Sl (Tr.R ?_)))
  all_goals ((try simp only[i_TableOk_L0_d,i_TableOk_L1_d,LC.lp,LC.ct,Ct.lp,Tr.nice,letK]at*)<;>grind)⟩
noncomputable def i_TableOk_e:=entT st i_TableOk_x i_TableOk_o [(leC 0 i_TableOk_L0_h i_TableOk_L0_d),(leC 2 i_TableOk_L1_h i_TableOk_L1_d)] (ks:=[.st .tabl,.st .limi]) i_TableOk (fun v=>[(false,[.c (.bool v)])]) Tryz.func74 ⟨i_TableOk_L0_s,i_TableOk_L1_s,trivial⟩ fun _=>by kernel_rfl
noncomputable def i_HalvesOk_o:List (Ent1 Tryz.prog):=[i_TupleOk_e,i_WordOk_e,i_OptionsOk_e,i_within_e,i_FindHalf_e]
def i_HalvesOk_L0_h:Sh:=⟨[(0,false,[.sl .arg .half]),(8,false,[.sl .arg .half]),(9,false,[.int .i64]),(10,false,[.int .i64])],[]⟩
noncomputable def i_HalvesOk_x:Fx:=⟨75,Tryz.f75,[(0,la ⟨[0,8,9,10],[],false,0⟩ ⟨[2],[],false,0⟩)],0⟩
noncomputable def i_HalvesOk_L0_T (v0 v1:List Half)(v3:Int)(a:Unit):Tr (Stp (Unit) ((Unit))):=
 .grd ((decide (0≤v3))&&(decide (v3<(v1.length:Int))))<|
 .cal i_TupleOk.c ((v1.getD v3.toNat (Ty.zero .half)).tuple,()) fun c1=>
 .ite (!c1) (.ret (.out ()))<|
 .cal i_WordOk.c ((v1.getD v3.toNat (Ty.zero .half)).iss,32,()) fun c2=>
 .ite (!c2) (.ret (.out ()))<|
 .cal i_WordOk.c ((v1.getD v3.toNat (Ty.zero .half)).irs,32,()) fun c3=>
 .ite (!c3) (.ret (.out ()))<|
 .cal i_WordOk.c ((v1.getD v3.toNat (Ty.zero .half)).window,16,()) fun c4=>
 .ite (!c4) (.ret (.out ()))<|
 .cal i_OptionsOk.c ((v1.getD v3.toNat (Ty.zero .half)).opts,()) fun c5=>
 .ite (!c5) (.ret (.out ()))<|
 .val (i_within.f ((v1.getD v3.toNat (Ty.zero .half)).age,0,6,())) fun c6=>
 .ite (!c6) (.ret (.out ()))<|
 .cal i_FindHalf.c (v0,(v1.getD v3.toNat (Ty.zero .half)).tuple,()) fun c7=>
 .ite (c7 != v3) (.ret (.out ()))<|
 .ret (.next ())
noncomputable def i_HalvesOk_L0_d:i_HalvesOk_L0_h.V→LC i_HalvesOk_L0_h (Unit) ((Unit)) (((Unit))⊕(Int×Unit)):=fun(v0,v1,v2,v3,_)=>⟨v3,(),fun v3 _=>(v0,v1,v2,v3,()),fun v3 _=>(decide (v3<v2)),i_HalvesOk_L0_T v0 v1,up,1,(Int.toNat (v2-v3)),.inl,fun i a=> .inr (i,a),fun _ k w=>Sum.elim (fun _=>k .ret (Sh.enc ⟨[(2,false,[.bool])],[]⟩ (false,()))) (fun _=>k (.exit 0) (Sh.enc ⟨[(2,false,[.undef])],[]⟩ ())) w⟩
theorem i_HalvesOk_L0_s:LS Tryz.prog i_HalvesOk_x [0] (leC 0 i_HalvesOk_L0_h i_HalvesOk_L0_d):=loopC st (orcOf_ok i_HalvesOk_o) _ i_HalvesOk_L0_d [] trivial (by kernel_rfl) (fun _=>by kernel_rfl) fun _ _ _ _ _ _=>by kernel_rfl
theorem i_HalvesOk_L0_k {v0 v1:List Half}{v2 v3:Int}(h0:0≤v3)(h1:v2≤4611686018427387904)(h2:wS v0)(h3:v2≤(v1.length:Int)):(i_HalvesOk_L0_d (v0,v1,v2,v3,())).U v2 (fun _ _=>True) (fun _=>True):=
 LC.okU (i:=v3) (a:=()) (fun _ _=>rfl) (fun _=>rfl) rfl h0 h1 trivial fun v3 _ hj hk hv=>by
  refine Tr.G2 ?_ fun _=>Tr.C trivial fun _ _ _=>Tr.I (fun _=>Tr.Ro trivial) fun _=>Tr.C trivial fun _ _ _=>Tr.I (fun _=>Tr.Ro trivial) fun _=>Tr.C trivial fun _ _ _=>Tr.I (fun _=>Tr.Ro trivial) fun _=>Tr.C trivial fun _ _ _=>Tr.I (fun _=>Tr.Ro trivial) fun _=>Tr.C trivial fun _ _ _=>Tr.I (fun _=>Tr.Ro trivial) fun _=>Tr.V fun _ _=>Tr.I (fun _=>Tr.Ro trivial) fun _=>Tr.C ?_ fun _ _ _=>Tr.Z (by kernel_rfl)
  all_goals (grind)
noncomputable def i_HalvesOk:FT (List Half×Unit) (Bool) (fun x=>wS x.1) (fun x v=>(v=true→x.1.length≤64)):=⟨fun(x0,_)=>
  .ite (decide (64<(x0.length:Int))) (.ret false)<|
  .lp (i_HalvesOk_L0_d (x0,x0,(x0.length:Int),0,())).lp fun w8=> .sum w8 (fun _=>
  .ret false)<|
  fun _=>
  .ret true,
 fun(x0,_) hp=>by
  refine Tr.I (fun _=>Tr.R ?_) fun _=>Tr.L (i_HalvesOk_L0_k ?_ ?_ ?_ ?_) (fun _ _=>Tr.Sr (Tr.R ?_)) (fun _ _=>Tr.Sl (Tr.R ?_))
  all_goals ((try simp only[i_HalvesOk_L0_d,LC.lp,LC.ct,Ct.lp]at*)<;>grind)⟩
noncomputable def i_HalvesOk_e:=entT st i_HalvesOk_x i_HalvesOk_o [(leC 0 i_HalvesOk_L0_h i_HalvesOk_L0_d)] (ks:=[.sc (.sl .half)]) i_HalvesOk (fun v=>[(false,[.c (.bool v)])]) Tryz.func75 ⟨i_HalvesOk_L0_s,trivial⟩ fun _=>by kernel_rfl
noncomputable def i_Heard_o:List (Ent1 Tryz.prog):=[i_Verdict_e,i_cloneConn_e,i_Acked_e,i_scaled_e,i_flying_e,i_Has_e,i_Arrived_e,i_Turned_e]
def i_Heard_J24_a:An:=⟨⟨[],[],false,0⟩,⟨[2,3,4,5],[],false,0⟩,⟨[],[]⟩,[(.normal,⟨[(2,false,[.ptr 0 0]),(3,false,[.ptr 1 0]),(4,false,[.ptr 2 0]),(5,false,[.ptr 3 0])],[.box [.st .conn [.sl .arg]],.box [.st .segm []],.box [.st .conn [.nil .piec]],.box [.st .conn [.own 4]],.of false true]⟩)]⟩
noncomputable def i_Heard_x:Fx:=⟨146,Tryz.f146,[(1000024,i_Heard_J24_a),(3000009,rA 0 54),(3000014,rA 0 73)],0⟩
noncomputable def i_Heard:FT (Conn×Segm×Unit) (Conn) (fun x=>sm_conn x.1∧sm_segm x.2.1) (fun x v=>sm_conn v):=⟨fun(x0,x1,_)=>
  .cal i_Verdict.c (x0,x1,()) fun c1=>
  .ite (c1 != 5) (.cal i_cloneConn.c (x0,()) fun c2=>
   .ret c2)<|
  .cal i_cloneConn.c (x0,()) fun c3=>
  .cal i_Acked.c (x0.s,x1.ack,()) fun c4=>
  .bnd (β:=WT i_Heard_J24_a.es) (.ite c4.2 (.cal i_scaled.c (x1.window,x0.opts,()) fun c5=>
    .bnd (β:=Bool×Unit) (.ite (c4.1.una != x0.s.una) (.ret ((x0.state != 7),()))<|
     .cal i_flying.c (c4.1,()) fun c6=>
     .ite (c6==0) (.ret ((x0.state != 7),()))<|
     .ret (false,())) fun(u7a0,_)=>
    .ite u7a0 (.cal i_flying.c (c4.1,()) fun c8=>
     .ite (decide (0<c8)) (.ret (x0,x1,(⟨⟨0,0,0⟩,0,⟨0,[],0,false,false,false⟩,⟨0,[],[],0,false⟩,0,0,⟨0,0,false,false,0,0⟩,0,0⟩:Conn),(⟨c3.tuple,c3.state,c4.1,c3.r,c5,(if c3.most<c5 then c5 else c3.most),c3.opts,3,0⟩:Conn),()))<|
     .ret (x0,x1,(⟨⟨0,0,0⟩,0,⟨0,[],0,false,false,false⟩,⟨0,[],[],0,false⟩,0,0,⟨0,0,false,false,0,0⟩,0,0⟩:Conn),(⟨c3.tuple,c3.state,c4.1,c3.r,c5,(if c3.most<c5 then c5 else c3.most),c3.opts,0,0⟩:Conn),()))<|
    .ret (x0,x1,(⟨⟨0,0,0⟩,0,⟨0,[],0,false,false,false⟩,⟨0,[],[],0,false⟩,0,0,⟨0,0,false,false,0,0⟩,0,0⟩:Conn),(⟨c3.tuple,c3.state,c4.1,c3.r,c5,(if c3.most<c5 then c5 else c3.most),c3.opts,c3.timer,c3.tries⟩:Conn),()))<|
   .ret (x0,x1,(⟨⟨0,0,0⟩,0,⟨0,[],0,false,false,false⟩,⟨0,[],[],0,false⟩,0,0,⟨0,0,false,false,0,0⟩,0,0⟩:Conn),c3,())) fun(u9a0,u9a1,_,u9a3,_)=>
  .bnd (β:=Bool×Unit) (.ite (u9a0.state==1) (.ret (true,()))<|
   .ite (u9a0.state==2) (.ret (true,()))<|
   .ret ((u9a0.state==3),())) fun(u10a0,_)=>
  .ite u10a0 (.val (i_Has.f (u9a1,1,())) fun c11=>
   .cal i_Arrived.c (u9a0.r,u9a1.seq,u9a1.body,c11,()) fun c12=>
   .cal i_Turned.c (({u9a3 with r.next:=c12.next,r.data:=c12.data,r.held:=c12.held,r.fin:=c12.fin,r.done:=c12.done}:Conn),()) fun c13=>
   .ret c13)<|
  .cal i_Turned.c (u9a3,()) fun c14=>
  .ret c14,
 fun(x0,x1,_) hp=>by
  refine Tr.C ?_ fun _ _ _=>Tr.I (fun _=>Tr.C ?_ fun _ _ _=>Tr.R ?_) fun _=>Tr.C ?_ fun _ _ _=>Tr.C ?_ fun _ _ _=>Tr.B (Q':=fun w=>sm_conn w.1∧sm_segm w.2.1∧sm_conn w.2.2.1∧sm_conn w.2.2.2.1) (Tr.I (fun _=>Tr.C trivial fun _ _ _=>Tr.B (Q':=fun _=>True) (Tr.I (fun _=>Tr.R trivial) fun _=>Tr.C ?_ fun _ _ _=>Tr.F (by kernel_rfl) trivial) (fun(u7a0,_) _ _=>Tr.I (fun _=>Tr.C ?_ fun _ _ _=>Tr.I (fun _=>Tr.R ?_) fun _=>Tr.R ?_) fun _=>Tr.R ?_)) fun _=>Tr.R ?_) (fun(u9a0,u9a1,u9a2,u9a3,_) _ _=>Tr.B (Q':=fun _=>True) (Tr.F (by kernel_rfl) trivial) (fun(u10a0,_) _ _=>Tr.I (fun _=>Tr.V fun _ _=>Tr.C ?_ fun _ _ _=>Tr.C ?_ fun _ _ _=>Tr.R ?_) fun _=>Tr.C ?_ fun _ _ _=>Tr.R ?_))
  all_goals ((try simp only[Tr.nice,letK]at*)<;>grind)⟩
noncomputable def i_Heard_e:=entT st i_Heard_x i_Heard_o [] (ks:=[.st .conn,.st .segm]) i_Heard (fun v=>[(true,q_conn (.o true) v)]) Tryz.func146 trivial fun _=>by kernel_rfl
noncomputable def s_Receive_o:List (Ent1 Tryz.prog):=[s_l19Copy_e,s_Verdict_e,s_Has_e,s_AckOf_e,s_Heard_e,s_Pump_e,s_SegmentLen_e]
def s_Receive_J46_a:An:=⟨⟨[],[],false,0⟩,⟨[2,3,4,5,6,7,8,9],[],false,0⟩,⟨[],[]⟩,[(.normal,⟨[(2,false,[.ptr 0 0]),(3,false,[.ptr 1 0]),(4,false,[.ptr 2 0]),(5,false,[.nil]),(6,false,[.int .i64]),(7,false,[.ptr 3 0]),(8,false,[.own 4]),(9,false,[.int .i64])],[.box [.st .conn [.sl .arg]],.box [.st .segm []],.box [.st .conn [.nil .piec]],.box [.st .conn [.own 5]],.arr .segm false true,.of false true]⟩)]⟩
noncomputable def s_Receive_x:Fx:=⟨155,Tryz.f155,[(1000046,s_Receive_J46_a),(3000014,rA 0 46),(3000022,rA 0 78)],0⟩
noncomputable def s_Receive:FT (Conn×Segm×Unit) (Conn×List Segm×Int) (fun x=>sm_conn x.1∧sm_segm x.2.1) (fun x v=>sm_conn v.1∧sL sm_segm v.2.1):=⟨fun(x0,x1,_)=>
  .cal s_l19Copy.c (x0,()) fun c1=>
  .cal s_Verdict.c (x0,x1,()) fun c2=>
  .ite (c2==1) (.ret (c1,[],c2))<|
  .ite (c2==2) (.ret (({c1 with state:=8,timer:=0,tries:=0}:Conn),[],c2))<|
  .ite (c2==3) (.ite (c2==3) (.bnd (β:=Bool×Unit) (.ite (c2==4) (.ite (x0.state==7) (.val (s_Has.f (x1,1,())) fun c3=>
       .ret (c3,()))<|
      .ret (false,()))<|
     .ret (false,())) fun(u4a0,_)=>
    .bnd (β:=WT s_Receive_J46_a.es) (.ite u4a0 (.ret (0,c2,x0,x1,(⟨⟨0,0,0⟩,0,⟨0,[],0,false,false,false⟩,⟨0,[],[],0,false⟩,0,0,⟨0,0,false,false,0,0⟩,0,0⟩:Conn),({c1 with timer:=4}:Conn),[],()))<|
     .ret (0,c2,x0,x1,(⟨⟨0,0,0⟩,0,⟨0,[],0,false,false,false⟩,⟨0,[],[],0,false⟩,0,0,⟨0,0,false,false,0,0⟩,0,0⟩:Conn),c1,[],())) fun(_,u5a1,u5a2,_,_,u5a5,_,_)=>
    .cal s_AckOf.c (u5a2,()) fun c6=>
    .ret (u5a5,[c6],u5a1))<|
   .cal s_Heard.c (x0,x1,()) fun c7=>
   .ite (c7.state==8) (.ret (c7,[],c2))<|
   .cal s_AckOf.c (c7,()) fun c8=>
   .cal s_Pump.c (c7,c7.window,()) fun c9=>
   .bnd (β:=Bool×Unit) (.cal s_SegmentLen.c (x1,()) fun c10=>
    .ite (decide (0<c10)) (.ret (((c9.2.length:Int)==0),()))<|
    .ret (false,())) fun(u11a0,_)=>
   .ite u11a0 (.grd (Nat.ble ((2*(c9.2.length+1)+1024)*104) maxSl)<|
    .ret (c9.1,(c9.2++[c8]),c2))<|
   .ret (c9.1,c9.2,c2))<|
  .ite (c2==4) (.bnd (β:=Bool×Unit) (.ite (c2==4) (.ite (x0.state==7) (.val (s_Has.f (x1,1,())) fun c12=>
      .ret (c12,()))<|
     .ret (false,()))<|
    .ret (false,())) fun(u13a0,_)=>
   .bnd (β:=WT s_Receive_J46_a.es) (.ite u13a0 (.ret (0,c2,x0,x1,(⟨⟨0,0,0⟩,0,⟨0,[],0,false,false,false⟩,⟨0,[],[],0,false⟩,0,0,⟨0,0,false,false,0,0⟩,0,0⟩:Conn),({c1 with timer:=4}:Conn),[],()))<|
    .ret (0,c2,x0,x1,(⟨⟨0,0,0⟩,0,⟨0,[],0,false,false,false⟩,⟨0,[],[],0,false⟩,0,0,⟨0,0,false,false,0,0⟩,0,0⟩:Conn),c1,[],())) fun(_,u14a1,u14a2,_,_,u14a5,_,_)=>
   .cal s_AckOf.c (u14a2,()) fun c15=>
   .ret (u14a5,[c15],u14a1))<|
  .cal s_Heard.c (x0,x1,()) fun c16=>
  .ite (c16.state==8) (.ret (c16,[],c2))<|
  .cal s_AckOf.c (c16,()) fun c17=>
  .cal s_Pump.c (c16,c16.window,()) fun c18=>
  .bnd (β:=Bool×Unit) (.cal s_SegmentLen.c (x1,()) fun c19=>
   .ite (decide (0<c19)) (.ret (((c18.2.length:Int)==0),()))<|
   .ret (false,())) fun(u20a0,_)=>
  .ite u20a0 (.grd (Nat.ble ((2*(c18.2.length+1)+1024)*104) maxSl)<|
   .ret (c18.1,(c18.2++[c17]),c2))<|
  .ret (c18.1,c18.2,c2),
 fun(x0,x1,_) hp=>by
  refine Tr.C ?_ fun _ _ _=>Tr.C ?_ fun _ _ _=>Tr.I (fun _=>Tr.R ?_) fun _=>Tr.I (fun _=>Tr.R ?_) fun _=>Tr.I (fun _=>Tr.I (fun _=>Tr.B (Q':=fun _=>True) (Tr.F (by kernel_rfl) trivial) (fun(u4a0,_) _ _=>Tr.B (Q':=fun w=>sm_conn w.2.2.1∧sm_segm w.2.2.2.1∧sm_conn w.2.2.2.2.1∧sm_conn w.2.2.2.2.2.1∧sL sm_segm w.2.2.2.2.2.2.1) (Tr.I (fun _=>Tr.R ?_) fun _=>Tr.R ?_) (fun(u5a0,u5a1,u5a2,u5a3,u5a4,u5a5,u5a6,_) _ _=>Tr.C ?_ fun _ _ _=>Tr.R ?_))) fun _=>Tr.C ?_ fun _ _ _=>Tr.I (fun _=>Tr.R ?_) fun _=>Tr.C ?_ fun _ _ _=>Tr.C ?_ fun _ _ _=>Tr.B (Q':=fun _=>True) (Tr.C ?_ fun _ _ _=>Tr.F (by kernel_rfl) trivial) (fun(u11a0,_) _ _=>Tr.I (fun _=>Tr.Gb ?_ fun _=>Tr.R ?_) fun _=>Tr.R ?_)) fun _=>Tr.I (fun _=>Tr.B (Q':=fun _=>True) (Tr.F (by kernel_rfl) trivial) (fun(u13a0,_) _ _=>Tr.B (Q':=fun w=>sm_conn w.2.2.1∧sm_segm w.2.2.2.1∧sm_conn w.2.2.2.2.1∧sm_conn w.2.2.2.2.2.1∧sL sm_segm w.2.2.2.2.2.2.1) (Tr.I (fun _=>Tr.R ?_) fun _=>Tr.R ?_) (fun(u14a0,u14a1,u14a2,u14a3,u14a4,u14a5,u14a6,_) _ _=>Tr.C ?_ fun _ _ _=>Tr.R ?_))) fun _=>Tr.C ?_ fun _ _ _=>Tr.I (fun _=>Tr.R ?_) fun _=>Tr.C ?_ fun _ _ _=>Tr.C ?_ fun _ _ _=>Tr.B (Q':=fun _=>True) (Tr.C ?_ fun _ _ _=>Tr.F (by kernel_rfl) trivial) (fun(u20a0,_) _ _=>Tr.I (fun _=>Tr.Gb ?_ fun _=>Tr.R ?_) fun _=>Tr.R ?_)
  all_goals ((try simp only[Tr.nice,letK]at*)<;>grind)⟩
noncomputable def s_Receive_e:=entT st s_Receive_x s_Receive_o [] (ks:=[.st .conn,.st .segm]) s_Receive (fun v=>[(true,q_conn (.o true) v.1),(false,[sc (.o true) .segm v.2.1]),(false,[.c (.int .i64 v.2.2)])]) Tryz.func155 trivial fun _=>by kernel_rfl
noncomputable def s_MacOf_o:List (Ent1 Tryz.prog):=[s_SipHash_e]
def s_MacOf_L0_h:Sh:=⟨[(1,false,[.str]),(2,false,[.ptr 0 0]),(5,false,[.int .i64])],[.box [.st .mac [.sl .arg]]]⟩
noncomputable def s_MacOf_x:Fx:=⟨164,Tryz.f164,[(0,la ⟨[1,2,5],[],false,0⟩ ⟨[4],[],false,0⟩)],0⟩
noncomputable def s_MacOf_L0_T (v0:Bytes)(v2:Mac)(v1:Int)(a:Unit):Tr (Stp (Unit) ((Int))):=
 .grd ((decide (0≤v1))&&(decide (v1<(v2.rows.length:Int))))<|
 .ite ((v2.rows.getD v1.toNat (Ty.zero .macRow)).input==v0) (.grd ((decide (0≤v1))&&(decide (v1<(v2.rows.length:Int))))<|
  .ite (decide ((((v2.rows.getD v1.toNat (Ty.zero .macRow)).value).tmod 16777216)<0)) (.val (IntKind.wrap .i64 ((((v2.rows.getD v1.toNat (Ty.zero .macRow)).value).tmod 16777216)+16777216)) fun e2=>
   .ret (.out e2))<|
  .ret (.out (((v2.rows.getD v1.toNat (Ty.zero .macRow)).value).tmod 16777216)))<|
 .ret (.next ())
noncomputable def s_MacOf_L0_d:s_MacOf_L0_h.V→LC s_MacOf_L0_h (Unit) ((Int)) (((Int))⊕(Int×Unit)):=fun(v0,v1,v2,_)=>⟨v1,(),fun v1 _=>(v0,v1,v2,()),fun v1 _=>(decide (v1<(v2.rows.length:Int))),s_MacOf_L0_T v0 v2,up,1,(Int.toNat ((v2.rows.length:Int)-v1)),.inl,fun i a=> .inr (i,a),fun _ k w=>Sum.elim (fun p=>k .ret (Sh.enc ⟨[(4,false,[.int .i64])],[]⟩ (p,()))) (fun _=>k (.exit 0) (Sh.enc ⟨[(4,false,[.undef])],[]⟩ ())) w⟩
theorem s_MacOf_L0_s:LS Tryz.prog s_MacOf_x [0] (leC 0 s_MacOf_L0_h s_MacOf_L0_d):=loopC st (orcOf_ok s_MacOf_o) _ s_MacOf_L0_d [] trivial (by kernel_rfl) (fun _=>by kernel_rfl) fun _ _ _ _ _ _=>by kernel_rfl
theorem s_MacOf_L0_k {v0:Bytes}{v1:Int}{v2:Mac}(h0:0≤v1)(h1:(v2.rows.length:Int)≤4611686018427387904):(s_MacOf_L0_d (v0,v1,v2,())).U (v2.rows.length:Int) (fun _ _=>True) (fun _=>True):=
 LC.okU (i:=v1) (a:=()) (fun _ _=>rfl) (fun _=>rfl) rfl h0 h1 trivial fun v1 _ hj hk hv=>by
  refine Tr.G2 ?_ fun _=>Tr.I (fun _=>Tr.G2 ?_ fun _=>Tr.Z (by kernel_rfl)) fun _=>Tr.Rn trivial
  all_goals (grind)
noncomputable def s_MacOf:FT (Mac×Bytes×Unit) (Int) (fun x=>sm_mac x.1∧sS x.2.1) (fun _ _=>True):=⟨fun(x0,x1,_)=>
  .ite (!x0.use) (.cal s_SipHash.c (x0.k,x0.l,x1,()) fun c1=>
   .ret (IntKind.wrap .i64 (c1.tmod 16777216)))<|
  .lp (s_MacOf_L0_d (x1,0,x0,())).lp fun w3=> .sum w3 (fun p3a0=>
  .ret p3a0)<|
  fun _=>
  .ret 0,
 fun(x0,x1,_) hp=>by
  refine Tr.I (fun _=>Tr.C ?_ fun _ _ _=>Tr.R trivial) fun _=>Tr.L (s_MacOf_L0_k ?_ ?_) (fun _ _=>Tr.Sr (Tr.R trivial)) (fun p3a0 _=>Tr.Sl (Tr.R trivial))
  all_goals ((try simp only[s_MacOf_L0_d,LC.lp,LC.ct,Ct.lp]at*)<;>grind)⟩
noncomputable def s_MacOf_e:=entT st s_MacOf_x s_MacOf_o [(leC 0 s_MacOf_L0_h s_MacOf_L0_d)] (ks:=[.st .mac,.sc .str]) s_MacOf (fun v=>[(false,[.c (.int .i64 v)])]) Tryz.func164 ⟨s_MacOf_L0_s,trivial⟩ fun _=>by kernel_rfl
noncomputable def i_PutHalf_o:List (Ent1 Tryz.prog):=[g_Clone_Half_e,i_HalvesOk_e]
noncomputable def i_PutHalf_x:Fx:=⟨172,Tryz.f172,[(3000002,rA 0 22)],0⟩
noncomputable def i_PutHalf:FT (List Half×Half×Int×Unit) (List Half×Bool) (fun x=>sS x.1) (fun x v=>sS v.1):=⟨fun(x0,x1,x2,_)=>
  .cal g_Clone_Half.c (x0,()) fun c1=>
  .grd (Nat.ble ((2*(c1.length+1)+1024)*96) maxSl)<|
  .bnd (β:=Bool×Unit) (.ite (decide (x2≤(x0.length:Int))) (.ret (true,()))<|
   .cal i_HalvesOk.c ((c1++[x1]),()) fun c2=>
   .ret ((!c2),())) fun(u3a0,_)=>
  .ite u3a0 (.cal g_Clone_Half.c (x0,()) fun c4=>
   .ret (c4,false))<|
  .ret ((c1++[x1]),true),
 fun(x0,x1,x2,_) hp=>by
  refine Tr.C ?_ fun c1 _ _=>Tr.Gb ?_ fun _=>Tr.B (Q':=fun w=>(w.1=false→(c1++[x1]).length≤64)) (Tr.I (fun _=>Tr.R ?_) fun _=>Tr.C ?_ fun _ _ _=>Tr.R ?_) (fun(u3a0,_) _ _=>Tr.I (fun _=>Tr.C ?_ fun _ _ _=>Tr.R ?_) fun _=>Tr.R ?_)
  all_goals ((try simp only[Tr.nice,letK]at*)<;>grind)⟩
noncomputable def i_PutHalf_e:=entT st i_PutHalf_x i_PutHalf_o [] (ks:=[.sc (.sl .half),.st .half,.sc (.int .i64)]) i_PutHalf (fun v=>[(false,[sc (.o true) .half v.1]),(false,[.c (.bool v.2)])]) Tryz.func172 trivial fun _=>by kernel_rfl
noncomputable def i_MacOf_o:List (Ent1 Tryz.prog):=[i_SipHash_e]
def i_MacOf_L0_h:Sh:=⟨[(1,false,[.str]),(19,false,[.sl .arg .macRow]),(20,false,[.int .i64]),(21,false,[.int .i64])],[]⟩
noncomputable def i_MacOf_x:Fx:=⟨221,Tryz.f221,[(0,la ⟨[1,19,20,21],[],false,0⟩ ⟨[4],[],false,0⟩)],0⟩
noncomputable def i_MacOf_L0_T (v0:Bytes)(v1:List MacRow)(v3:Int)(a:Unit):Tr (Stp (Unit) ((Int))):=
 .grd ((decide (0≤v3))&&(decide (v3<(v1.length:Int))))<|
 .ite ((v1.getD v3.toNat (Ty.zero .macRow)).input==v0) (.val (IntKind.wrap .i64 ((((v1.getD v3.toNat (Ty.zero .macRow)).value).tmod 16777216)+16777216)) fun e2=>
  .ret (.out (e2.tmod 16777216)))<|
 .ret (.next ())
noncomputable def i_MacOf_L0_d:i_MacOf_L0_h.V→LC i_MacOf_L0_h (Unit) ((Int)) (((Int))⊕(Int×Unit)):=fun(v0,v1,v2,v3,_)=>⟨v3,(),fun v3 _=>(v0,v1,v2,v3,()),fun v3 _=>(decide (v3<v2)),i_MacOf_L0_T v0 v1,up,1,(Int.toNat (v2-v3)),.inl,fun i a=> .inr (i,a),fun _ k w=>Sum.elim (fun p=>k .ret (Sh.enc ⟨[(4,false,[.int .i64])],[]⟩ (p,()))) (fun _=>k (.exit 0) (Sh.enc ⟨[(4,false,[.undef])],[]⟩ ())) w⟩
theorem i_MacOf_L0_s:LS Tryz.prog i_MacOf_x [0] (leC 0 i_MacOf_L0_h i_MacOf_L0_d):=loopC st (orcOf_ok i_MacOf_o) _ i_MacOf_L0_d [] trivial (by kernel_rfl) (fun _=>by kernel_rfl) fun _ _ _ _ _ _=>by kernel_rfl
theorem i_MacOf_L0_k {v0:Bytes}{v1:List MacRow}{v2 v3:Int}(h0:0≤v3)(h1:v2≤4611686018427387904)(h2:v2≤(v1.length:Int)):(i_MacOf_L0_d (v0,v1,v2,v3,())).U v2 (fun _ _=>True) (fun _=>True):=
 LC.okU (i:=v3) (a:=()) (fun _ _=>rfl) (fun _=>rfl) rfl h0 h1 trivial fun v3 _ hj hk hv=>by
  refine Tr.G2 ?_ fun _=>Tr.Z (by kernel_rfl)
  all_goals (grind)
noncomputable def i_MacOf:FT (Mac×Bytes×Unit) (Int) (fun x=>sm_mac x.1∧sS x.2.1) (fun _ _=>True):=⟨fun(x0,x1,_)=>
  .ite (!x0.use) (.cal i_SipHash.c (x0.k,x0.l,x1,()) fun c1=>
   .ret (IntKind.wrap .i64 (c1.tmod 16777216)))<|
  .lp (i_MacOf_L0_d (x1,x0.rows,(x0.rows.length:Int),0,())).lp fun w3=> .sum w3 (fun p3a0=>
  .ret p3a0)<|
  fun _=>
  .ret 0,
 fun(x0,x1,_) hp=>by
  refine Tr.I (fun _=>Tr.C ?_ fun _ _ _=>Tr.R trivial) fun _=>Tr.L (i_MacOf_L0_k ?_ ?_ ?_) (fun _ _=>Tr.Sr (Tr.R trivial)) (fun p3a0 _=>Tr.Sl (Tr.R trivial))
  all_goals ((try simp only[i_MacOf_L0_d,LC.lp,LC.ct,Ct.lp]at*)<;>grind)⟩
noncomputable def i_MacOf_e:=entT st i_MacOf_x i_MacOf_o [(leC 0 i_MacOf_L0_h i_MacOf_L0_d)] (ks:=[.st .mac,.sc .str]) i_MacOf (fun v=>[(false,[.c (.int .i64 v)])]) Tryz.func221 ⟨i_MacOf_L0_s,trivial⟩ fun _=>by kernel_rfl
noncomputable def s_l1Byte:FT (Curs×Unit) (Int×Curs) (fun x=>sm_curs x.1) (fun x v=>sm_curs v.2∧0≤v.1∧v.1≤255):=⟨fun(y0,_)=>
  .val (IntKind.wrap .i64 ((IntKind.wrap .i64 (y0.h*6364136223846793005))+1442695040888963407)) fun e1=>
  .val (bits .and .i64 (bits .xor .i64 (e1.fdiv 8589934592) (e1.fdiv 35184372088832)) 255) fun e2=>
  .ite (decide (y0.i<(y0.b.length:Int))) (.grd ((decide (0≤y0.i))&&(decide (y0.i<(y0.b.length:Int))))<|
   .val (IntKind.wrap .i64 (e2+(IntKind.wrap .i64 (y0.b.getD y0.i.toNat 0)))) fun e3=>
   .ret ((bits .and .i64 e3 255),(⟨y0.b,(IntKind.wrap .i64 (y0.i+1)),e1⟩:Curs)))<|
  .ret (e2,({y0 with h:=e1}:Curs)),
 fun(y0,_) hp=>by
  refine Tr.V fun _ _=>Tr.V fun _ _=>Tr.I (fun _=>Tr.G2 ?_ fun _=>Tr.V fun _ _=>Tr.R ?_) fun _=>Tr.R ?_
  all_goals (grind)⟩
noncomputable def s_l1Byte_e:=entM st ⟨210,Tryz.f210,[],1⟩ [] [] [.wr false [.ptr 0]] [.box [.st .curs]] (fun x y=>(y.1.1,())) s_l1Byte (fun v=>[(false,[.c (.int .i64 v.1)])]) (fun x y v=>((v.2,()),())) Tryz.func210 (by kernel_rfl) trivial fun _ _=>by kernel_rfl
noncomputable def i_MacOk_1:FT (MacRow×MacRow×Unit) (Bool) (fun _=>True) (fun _ _=>True):=⟨fun(x0,y1,_)=>
  .ret (x0.input==y1.input),
 fun(x0,y1,_) hp=>by
  refine Tr.R trivial⟩
noncomputable def i_MacOk_1_e:=entM st ⟨239,Tryz.f239,[],1⟩ [] [] [.st .macRow,.wr false [.ptr 0]] [.box [.st .macRow]] (fun x y=>(x.1,y.1.1,())) i_MacOk_1 (fun v=>[(false,[.c (.bool v)])]) (fun x y v=>((y.1.1,()),())) Tryz.func239 (by kernel_rfl) trivial fun _ _=>by kernel_rfl
noncomputable def g_IndexFunc_MacRow_i_MacOk_1_o:List (Ent1 Tryz.prog):=[i_MacOk_1_e]
def g_IndexFunc_MacRow_i_MacOk_1_L0_h:Sh:=⟨[(0,false,[.sl .arg .macRow]),(1,false,[.fn 239 [0]]),(7,false,[.int .i64]),(8,false,[.int .i64])],[.box [.st .macRow []]]⟩
noncomputable def g_IndexFunc_MacRow_i_MacOk_1_x:Fx:=⟨304,Tryz.f304,[(0,la ⟨[0,1,7,8],[],false,1⟩ ⟨[4],[],false,1⟩)],1⟩
noncomputable def g_IndexFunc_MacRow_i_MacOk_1_L0_T (v0:List MacRow)(v3:MacRow)(v2:Int)(a:Unit):Tr (Stp (Unit) ((Int))):=
 .grd ((decide (0≤v2))&&(decide (v2<(v0.length:Int))))<|
 .cal i_MacOk_1.c ((v0.getD v2.toNat (Ty.zero .macRow)),v3,()) fun c1=>
 .ite c1 (.ret (.out v2))<|
 .ret (.next ())
noncomputable def g_IndexFunc_MacRow_i_MacOk_1_L0_d:g_IndexFunc_MacRow_i_MacOk_1_L0_h.V→LC g_IndexFunc_MacRow_i_MacOk_1_L0_h (Unit) ((Int)) (((Int))⊕(Int×Unit)):=fun(v0,v1,v2,v3,_)=>⟨v2,(),fun v2 _=>(v0,v1,v2,v3,()),fun v2 _=>(decide (v2<v1)),g_IndexFunc_MacRow_i_MacOk_1_L0_T v0 v3,up,1,(Int.toNat (v1-v2)),.inl,fun i a=> .inr (i,a),fun _ k w=>Sum.elim (fun p=>k .ret (Sh.enc ⟨[(4,false,[.int .i64])],[.box [.st .macRow []]]⟩ (p,v3,()))) (fun _=>k (.exit 0) (Sh.enc ⟨[(4,false,[.undef])],[.box [.st .macRow []]]⟩ (v3,()))) w⟩
theorem g_IndexFunc_MacRow_i_MacOk_1_L0_s:LS Tryz.prog g_IndexFunc_MacRow_i_MacOk_1_x [0] (leC 0 g_IndexFunc_MacRow_i_MacOk_1_L0_h g_IndexFunc_MacRow_i_MacOk_1_L0_d):=loopC st (orcOf_ok g_IndexFunc_MacRow_i_MacOk_1_o) _ g_IndexFunc_MacRow_i_MacOk_1_L0_d [] trivial (by kernel_rfl) (fun _=>by kernel_rfl) fun _ _ _ _ _ _=>by kernel_rfl
theorem g_IndexFunc_MacRow_i_MacOk_1_L0_k {v0:List MacRow}{v1 v2:Int}{v3:MacRow}(h0:0≤v2)(h1:v1≤4611686018427387904)(h2:v1≤(v0.length:Int)):(g_IndexFunc_MacRow_i_MacOk_1_L0_d (v0,v1,v2,v3,())).U v1 (fun _ _=>True) (fun p=>v2≤p∧p<v1):=
 LC.okU (i:=v2) (a:=()) (fun _ _=>rfl) (fun _=>rfl) rfl h0 h1 trivial fun v2 _ hj hk hv=>by
  refine Tr.G2 ?_ fun _=>Tr.C trivial fun _ _ _=>Tr.I (fun _=>Tr.Ro ?_) fun _=>Tr.Rn trivial
  all_goals (grind)
noncomputable def g_IndexFunc_MacRow_i_MacOk_1:FT (List MacRow×MacRow×Unit) (Int) (fun x=>wS x.1) (fun x v=> -1≤v∧v<x.1.length):=⟨fun(x0,y1_0,_)=>
  .lp (g_IndexFunc_MacRow_i_MacOk_1_L0_d (x0,(x0.length:Int),0,y1_0,())).lp fun w2=> .sum w2 (fun p2a0=>
  .ret p2a0)<|
  fun _=>
  .ret (-1),
 fun(x0,y1_0,_) hp=>by
  refine Tr.L (g_IndexFunc_MacRow_i_MacOk_1_L0_k ?_ ?_ ?_) (fun _ _=>Tr.Sr (Tr.R ?_)) (fun p2a0 _=>Tr.Sl (Tr.R ?_))
  all_goals ((try simp only[g_IndexFunc_MacRow_i_MacOk_1_L0_d,LC.lp,LC.ct,Ct.lp]at*)<;>grind)⟩
noncomputable def g_IndexFunc_MacRow_i_MacOk_1_e:=entM st g_IndexFunc_MacRow_i_MacOk_1_x g_IndexFunc_MacRow_i_MacOk_1_o [(leC 0 g_IndexFunc_MacRow_i_MacOk_1_L0_h g_IndexFunc_MacRow_i_MacOk_1_L0_d)] [.sc (.sl .macRow),.fn 239 [0]] [.box [.st .macRow]] (fun x y=>(x.1,y.1.1,())) g_IndexFunc_MacRow_i_MacOk_1 (fun v=>[(false,[.c (.int .i64 v)])]) (fun x y v=>((y.1.1,()),())) Tryz.func304 (by kernel_rfl) ⟨g_IndexFunc_MacRow_i_MacOk_1_L0_s,trivial⟩ fun _ _=>by kernel_rfl
noncomputable def i_PutConn:FT (Tabl×Conn×Limi×Unit) (Tabl×Bool) (fun x=>sm_tabl x.1∧sm_conn x.2.1) (fun x v=>sm_tabl v.1∧v.1.conns.length≤max x.1.conns.length 16∧v.1.waiting.length≤max x.1.waiting.length 16∧x.1.conns.length≤v.1.conns.length):=⟨fun(x0,x1,x2,_)=>
  .cal i_cloneTable.c (x0,()) fun c1=>
  .cal i_cloneConn.c (x1,()) fun c2=>
  .grd (Nat.ble ((2*(c1.conns.length+1)+1024)*208) maxSl)<|
  .grd (Nat.ble ((2*(c1.waiting.length+1)+1024)*24) maxSl)<|
  .cal i_TableOk.c ((⟨(c1.conns++[c2]),(c1.waiting++[x1.tuple])⟩:Tabl),x2,()) fun c3=>
  .ite (!c3) (.cal i_cloneTable.c (x0,()) fun c4=>
   .ret (c4,false))<|
  .ret ((⟨(c1.conns++[c2]),(c1.waiting++[x1.tuple])⟩:Tabl),true),
 fun(x0,x1,x2,_) hp=>by
  refine Tr.C ?_ fun _ _ _=>Tr.C ?_ fun _ _ _=>Tr.Gb ?_ fun _=>Tr.Gb ?_ fun _=>Tr.C ?_ fun _ _ _=>Tr.I (fun _=>Tr.C ?_ fun _ _ _=>Tr.R ?_) fun _=>Tr.R ?_
  all_goals (grind)⟩
noncomputable def i_PutConn_e:=ent0 st Tryz.func55 [i_cloneTable_e,i_cloneConn_e,i_TableOk_e] (ks:=[.st .tabl,.st .conn,.st .limi]) i_PutConn (fun v=>[(true,q_tabl (.o true) (.o true) v.1),(false,[.c (.bool v.2)])]) fun _=>by kernel_rfl
noncomputable def i_Receive_o:List (Ent1 Tryz.prog):=[i_Verdict_e,i_cloneConn_e,i_Has_e,i_AckOf_e,i_Heard_e,i_Pump_e,i_SegmentLen_e]
def i_Receive_J37_a:An:=⟨⟨[],[],false,0⟩,⟨[2,4,5,6,7,8],[],false,0⟩,⟨[],[]⟩,[(.normal,⟨[(2,false,[.ptr 0 0]),(4,false,[.ptr 1 0]),(5,false,[.nil]),(6,false,[.int .i64]),(7,false,[.int .i64]),(8,false,[.ptr 2 0])],[.box [.st .conn [.sl .arg]],.box [.st .conn [.nil .piec]],.box [.st .conn [.own 3]],.of false true]⟩)]⟩
noncomputable def i_Receive_x:Fx:=⟨56,Tryz.f56,[(1000037,i_Receive_J37_a),(3000009,rA 0 37),(3000017,rA 0 68)],0⟩
noncomputable def i_Receive:FT (Conn×Segm×Unit) (Conn×List Segm×Int) (fun x=>sm_conn x.1∧sm_segm x.2.1) (fun x v=>sm_conn v.1∧sL sm_segm v.2.1):=⟨fun(x0,x1,_)=>
  .cal i_Verdict.c (x0,x1,()) fun c1=>
  .cal i_cloneConn.c (x0,()) fun c2=>
  .ite (c1==2) (.ret (({c2 with state:=8,timer:=0,tries:=0}:Conn),[],c1))<|
  .ite (c1==3) (.ite (c1==3) (.bnd (β:=Bool×Unit) (.ite (c1==4) (.ite (x0.state==7) (.val (i_Has.f (x1,1,())) fun c3=>
       .ret (c3,()))<|
      .ret (false,()))<|
     .ret (false,())) fun(u4a0,_)=>
    .bnd (β:=WT i_Receive_J37_a.es) (.ite u4a0 (.ret (0,c1,x0,(⟨⟨0,0,0⟩,0,⟨0,[],0,false,false,false⟩,⟨0,[],[],0,false⟩,0,0,⟨0,0,false,false,0,0⟩,0,0⟩:Conn),({c2 with timer:=4}:Conn),()))<|
     .ret (0,c1,x0,(⟨⟨0,0,0⟩,0,⟨0,[],0,false,false,false⟩,⟨0,[],[],0,false⟩,0,0,⟨0,0,false,false,0,0⟩,0,0⟩:Conn),c2,())) fun(_,u5a1,u5a2,_,u5a4,_)=>
    .cal i_AckOf.c (u5a2,()) fun c6=>
    .ret (u5a4,[c6],u5a1))<|
   .ite (c1==5) (.cal i_Heard.c (x0,x1,()) fun c7=>
    .ite (c7.state==8) (.ret (c7,[],c1))<|
    .cal i_Pump.c (c7,c7.window,()) fun c8=>
    .bnd (β:=Bool×Unit) (.ite ((c8.2.length:Int)==0) (.cal i_SegmentLen.c (x1,()) fun c9=>
      .ret ((c9 != 0),()))<|
     .ret (false,())) fun(u10a0,_)=>
    .ite u10a0 (.cal i_AckOf.c (c8.1,()) fun c11=>
     .ret (c8.1,[c11],c1))<|
    .ret (c8.1,c8.2,c1))<|
   .ret (c2,[],c1))<|
  .ite (c1==4) (.bnd (β:=Bool×Unit) (.ite (c1==4) (.ite (x0.state==7) (.val (i_Has.f (x1,1,())) fun c12=>
      .ret (c12,()))<|
     .ret (false,()))<|
    .ret (false,())) fun(u13a0,_)=>
   .bnd (β:=WT i_Receive_J37_a.es) (.ite u13a0 (.ret (0,c1,x0,(⟨⟨0,0,0⟩,0,⟨0,[],0,false,false,false⟩,⟨0,[],[],0,false⟩,0,0,⟨0,0,false,false,0,0⟩,0,0⟩:Conn),({c2 with timer:=4}:Conn),()))<|
    .ret (0,c1,x0,(⟨⟨0,0,0⟩,0,⟨0,[],0,false,false,false⟩,⟨0,[],[],0,false⟩,0,0,⟨0,0,false,false,0,0⟩,0,0⟩:Conn),c2,())) fun(_,u14a1,u14a2,_,u14a4,_)=>
   .cal i_AckOf.c (u14a2,()) fun c15=>
   .ret (u14a4,[c15],u14a1))<|
  .ite (c1==5) (.cal i_Heard.c (x0,x1,()) fun c16=>
   .ite (c16.state==8) (.ret (c16,[],c1))<|
   .cal i_Pump.c (c16,c16.window,()) fun c17=>
   .bnd (β:=Bool×Unit) (.ite ((c17.2.length:Int)==0) (.cal i_SegmentLen.c (x1,()) fun c18=>
     .ret ((c18 != 0),()))<|
    .ret (false,())) fun(u19a0,_)=>
   .ite u19a0 (.cal i_AckOf.c (c17.1,()) fun c20=>
    .ret (c17.1,[c20],c1))<|
   .ret (c17.1,c17.2,c1))<|
  .ret (c2,[],c1),
 fun(x0,x1,_) hp=>by
  refine Tr.C ?_ fun _ _ _=>Tr.C ?_ fun _ _ _=>Tr.I (fun _=>Tr.R ?_) fun _=>Tr.I (fun _=>Tr.I (fun _=>Tr.B (Q':=fun _=>True) (Tr.F (by kernel_rfl) trivial) (fun(u4a0,_) _ _=>Tr.B (Q':=fun w=>sm_conn w.2.2.1∧sm_conn w.2.2.2.1∧sm_conn w.2.2.2.2.1) (Tr.I (fun _=>Tr.R ?_) fun _=>Tr.R ?_) (fun(u5a0,u5a1,u5a2,u5a3,u5a4,_) _ _=>Tr.C ?_ fun _ _ _=>Tr.R ?_))) fun _=>Tr.I (fun _=>Tr.C ?_ fun _ _ _=>Tr.I (fun _=>Tr.R ?_) fun _=>Tr.C ?_ fun _ _ _=>Tr.B (Q':=fun _=>True) (Tr.I (fun _=>Tr.C ?_ fun _ _ _=>Tr.R trivial) fun _=>Tr.R trivial) (fun(u10a0,_) _ _=>Tr.I (fun _=>Tr.C ?_ fun _ _ _=>Tr.R ?_) fun _=>Tr.R ?_)) fun _=>Tr.R ?_) fun _=>Tr.I (fun _=>Tr.B (Q':=fun _=>True) (Tr.F (by kernel_rfl) trivial) (fun(u13a0,_) _ _=>Tr.B (Q':=fun w=>sm_conn w.2.2.1∧sm_conn w.2.2.2.1∧sm_conn w.2.2.2.2.1) (Tr.I (fun _=>Tr.R ?_) fun _=>Tr.R ?_) (fun(u14a0,u14a1,u14a2,u14a3,u14a4,_) _ _=>Tr.C ?_ fun _ _ _=>Tr.R ?_))) fun _=>Tr.I (fun _=>Tr.C ?_ fun _ _ _=>Tr.I (fun _=>Tr.R ?_) fun _=>Tr.C ?_ fun _ _ _=>Tr.B (Q':=fun _=>True) (Tr.I (fun _=>Tr.C ?_ fun _ _ _=>Tr.R trivial) fun _=>Tr.R trivial) (fun(u19a0,_) _ _=>Tr.I (fun _=>Tr.C ?_ fun _ _ _=>Tr.R ?_) fun _=>Tr.R ?_)) fun _=>Tr.R ?_
  all_goals ((try simp only[Tr.nice,letK]at*)<;>grind)⟩
noncomputable def i_Receive_e:=entT st i_Receive_x i_Receive_o [] (ks:=[.st .conn,.st .segm]) i_Receive (fun v=>[(true,q_conn (.o true) v.1),(false,[sc (.o true) .segm v.2.1]),(false,[.c (.int .i64 v.2.2)])]) Tryz.func56 trivial fun _=>by kernel_rfl
noncomputable def s_l26Let:FT (Door×Conn×Segm×Int×Unit) (Door×List Segm×Int) (fun x=>sm_door x.1∧sm_conn x.2.1∧sm_segm x.2.2.1) (fun x v=>sm_door v.1∧sL sm_segm v.2.1):=⟨fun(x0,x1,x2,x3,_)=>
  .cal s_l26Copy.c (x0,()) fun c1=>
  .cal s_PutConn.c (x0.table,x1,x0.limits,()) fun c2=>
  .ite (!c2.2) (.ret (c1,[],0))<|
  .cal s_Receive.c (x1,x2,()) fun c3=>
  .cal s_SetConn.c (c2.1,c3.1,()) fun c4=>
  .cal s_DropHalf.c (c1.halves,x1.tuple,()) fun c5=>
  .ret (({c1 with halves:=c5,table.conns:=c4.conns,table.waiting:=c4.waiting}:Door),c3.2.1,x3),
 fun(x0,x1,x2,x3,_) hp=>by
  refine Tr.C ?_ fun _ _ _=>Tr.C ?_ fun _ _ _=>Tr.I (fun _=>Tr.R ?_) fun _=>Tr.C ?_ fun _ _ _=>Tr.C ?_ fun _ _ _=>Tr.C ?_ fun _ _ _=>Tr.R ?_
  all_goals (grind)⟩
noncomputable def s_l26Let_e:=ent0 st Tryz.func62 [s_l26Copy_e,s_PutConn_e,s_Receive_e,s_SetConn_e,s_DropHalf_e] (ks:=[.st .door,.st .conn,.st .segm,.sc (.int .i64)]) s_l26Let (fun v=>[(true,q_door (.o true) (.o true) (.o true) (.o true) (.o true) v.1),(false,[sc (.o true) .segm v.2.1]),(false,[.c (.int .i64 v.2.2)])]) fun _=>by kernel_rfl
noncomputable def s_CookieOf:FT (Mac×Tupl×Int×Int×Int×Unit) (Int) (fun x=>sm_mac x.1) (fun _ _=>True):=⟨fun(x0,x1,x2,x3,x4,_)=>
  .cal s_MacInput.c (x1,x2,x3,x4,()) fun c1=>
  .ite (c1==[]) (.ret (-1))<|
  .val (IntKind.wrap .i64 ((IntKind.wrap .i64 ((x3.tmod 32)*134217728))+(IntKind.wrap .i64 (x4*16777216)))) fun e2=>
  .cal s_MacOf.c (x0,c1,()) fun c3=>
  .ret (IntKind.wrap .i64 (e2+c3)),
 fun(x0,x1,x2,x3,x4,_) hp=>by
  refine Tr.C trivial fun _ _ _=>Tr.I (fun _=>Tr.R trivial) fun _=>Tr.V fun _ _=>Tr.C ?_ fun _ _ _=>Tr.R trivial
  all_goals (grind)⟩
noncomputable def s_CookieOf_e:=ent0 st Tryz.func71 [s_MacInput_e,s_MacOf_e] (ks:=[.st .mac,.st .tupl,.sc (.int .i64),.sc (.int .i64),.sc (.int .i64)]) s_CookieOf (fun v=>[(false,[.c (.int .i64 v)])]) fun _=>by kernel_rfl
noncomputable def s_l27Conn:FT (Door×Int×Segm×Unit) (Door×List Segm×Int) (fun x=>sm_door x.1∧sm_segm x.2.2.1∧0≤x.2.1∧x.2.1<x.1.table.conns.length) (fun x v=>sm_door v.1∧sL sm_segm v.2.1):=⟨fun(x0,x1,x2,_)=>
  .cal s_l26Copy.c (x0,()) fun c1=>
  .grd ((decide (0≤x1))&&(decide (x1<(x0.table.conns.length:Int))))<|
  .cal s_Receive.c ((x0.table.conns.getD x1.toNat (Ty.zero .conn)),x2,()) fun c2=>
  .grd ((decide (0≤x1))&&(decide (x1<(c1.table.conns.length:Int))))<|
  .ite (c2.2.2==3) (.ite (x0.chal==x0.limits.chal) (.ret (({c1 with table.conns:=(c1.table.conns.set x1.toNat c2.1)}:Door),[],0))<|
   .ret (({c1 with table.conns:=(c1.table.conns.set x1.toNat c2.1),chal:=(IntKind.wrap .i64 (x0.chal+1))}:Door),c2.2.1,0))<|
  .ret (({c1 with table.conns:=(c1.table.conns.set x1.toNat c2.1)}:Door),c2.2.1,0),
 fun(x0,x1,x2,_) hp=>by
  refine Tr.C ?_ fun _ _ _=>Tr.G2 ?_ fun _=>Tr.C ?_ fun _ _ _=>Tr.G2 ?_ fun _=>Tr.I (fun _=>Tr.I (fun _=>Tr.R ?_) fun _=>Tr.R ?_) fun _=>Tr.R ?_
  all_goals (grind)⟩
noncomputable def s_l27Conn_e:=ent0 st Tryz.func88 [s_l26Copy_e,s_Receive_e] (ks:=[.st .door,.sc (.int .i64),.st .segm]) s_l27Conn (fun v=>[(true,q_door (.o true) (.o true) (.o true) (.o true) (.o true) v.1),(false,[sc (.o true) .segm v.2.1]),(false,[.c (.int .i64 v.2.2)])]) fun _=>by kernel_rfl
noncomputable def s_FirstSeq_o:List (Ent1 Tryz.prog):=[s_MssIndex_e,s_CookieOf_e,s_l1Max_e]
def s_FirstSeq_J12_a:An:=⟨⟨[],[],false,0⟩,⟨[3,4,5,6,7],[],false,0⟩,⟨[],[]⟩,[(.normal,⟨[(3,false,[.ptr 0 0]),(4,false,[.ptr 1 0]),(5,false,[.ptr 2 0]),(6,false,[.int .i64]),(7,false,[.int .i64])],[.box [.st .door [.sl .arg,.sl .arg,.sl .arg,.sl .arg,.sl .arg]],.box [.st .tupl []],.box [.st .segm []]]⟩)]⟩
noncomputable def s_FirstSeq_x:Fx:=⟨124,Tryz.f124,[(1000012,s_FirstSeq_J12_a)],0⟩
noncomputable def s_FirstSeq:FT (Door×Tupl×Segm×Unit) (Int) (fun x=>sm_door x.1∧sm_segm x.2.2.1) (fun _ _=>True):=⟨fun(x0,x1,x2,_)=>
  .bnd (β:=Int×Int×Door×Tupl×Segm×Unit) (.ite (x2.opts.mss==0) (.ret (0,536,x0,x1,x2,()))<|
   .ret (0,x2.opts.mss,x0,x1,x2,())) fun(_,u1a1,u1a2,u1a3,u1a4,_)=>
  .cal s_MssIndex.c (u1a1,()) fun c2=>
  .cal s_CookieOf.c (u1a2.keys.now,u1a3,u1a4.seq,u1a2.keys.epoch,c2,()) fun c3=>
  .val (s_l1Max.f (0,c3,())) fun c4=>
  .ret c4,
 fun(x0,x1,x2,_) hp=>by
  refine Tr.B (Q':=fun w=>sm_door w.2.2.1∧sm_segm w.2.2.2.2.1) (Tr.I (fun _=>Tr.R ?_) fun _=>Tr.R ?_) (fun(u1a0,u1a1,u1a2,u1a3,u1a4,_) _ _=>Tr.C trivial fun _ _ _=>Tr.C ?_ fun _ _ _=>Tr.F (by kernel_rfl) trivial)
  all_goals ((try simp only[Tr.nice,letK]at*)<;>grind)⟩
noncomputable def s_FirstSeq_e:=entT st s_FirstSeq_x s_FirstSeq_o [] (ks:=[.st .door,.st .tupl,.st .segm]) s_FirstSeq (fun v=>[(false,[.c (.int .i64 v)])]) Tryz.func124 trivial fun _=>by kernel_rfl
noncomputable def i_CookieOf:FT (Mac×Tupl×Int×Int×Int×Unit) (Int) (fun x=>sm_mac x.1) (fun _ _=>True):=⟨fun(x0,x1,x2,x3,x4,_)=>
  .cal i_MacInput.c (x1,x2,x3,x4,()) fun c1=>
  .ite (c1==[]) (.ret (-1))<|
  .val (IntKind.wrap .i64 ((IntKind.wrap .i64 ((x3.tmod 32)*134217728))+(IntKind.wrap .i64 (x4*16777216)))) fun e2=>
  .cal i_MacOf.c (x0,c1,()) fun c3=>
  .ret (IntKind.wrap .i64 (e2+c3)),
 fun(x0,x1,x2,x3,x4,_) hp=>by
  refine Tr.C trivial fun _ _ _=>Tr.I (fun _=>Tr.R trivial) fun _=>Tr.V fun _ _=>Tr.C ?_ fun _ _ _=>Tr.R trivial
  all_goals (grind)⟩
noncomputable def i_CookieOf_e:=ent0 st Tryz.func140 [i_MacInput_e,i_MacOf_e] (ks:=[.st .mac,.st .tupl,.sc (.int .i64),.sc (.int .i64),.sc (.int .i64)]) i_CookieOf (fun v=>[(false,[.c (.int .i64 v)])]) fun _=>by kernel_rfl
noncomputable def i_FirstSeq:FT (Door×Tupl×Segm×Unit) (Int) (fun x=>sm_door x.1∧sm_segm x.2.2.1) (fun _ _=>True):=⟨fun(x0,x1,x2,_)=>
  .val (i_peerMss.f (x2.opts,())) fun c1=>
  .cal i_MssIndex.c (c1,()) fun c2=>
  .cal i_CookieOf.c (x0.keys.now,x1,x2.seq,x0.keys.epoch,c2,()) fun c3=>
  .ret (if 0<c3 then c3 else 0),
 fun(x0,x1,x2,_) hp=>by
  refine Tr.V fun _ _=>Tr.C trivial fun _ _ _=>Tr.C ?_ fun _ _ _=>Tr.R trivial
  all_goals (grind)⟩
noncomputable def i_FirstSeq_e:=ent0 st Tryz.func244 [i_peerMss_e,i_MssIndex_e,i_CookieOf_e] (ks:=[.st .door,.st .tupl,.st .segm]) i_FirstSeq (fun v=>[(false,[.c (.int .i64 v)])]) fun _=>by kernel_rfl
noncomputable def s_l1Below:FT (Curs×Int×Unit) (Int×Curs) (fun x=>sm_curs x.1) (fun x v=>sm_curs v.2∧0≤v.1∧(0<x.2.1→v.1<x.2.1)):=⟨fun(y0,x1,_)=>
  .ite (decide (x1≤0)) (.ret (0,y0))<|
  .ite (decide (x1≤256)) (.cal s_l1Byte.c (y0,()) fun c1=>
   .grd (x1 != 0)<|
   .ret ((c1.1.tmod x1),c1.2))<|
  .cal s_l1Byte.c (y0,()) fun c2=>
  .cal s_l1Byte.c (c2.2,()) fun c3=>
  .cal s_l1Byte.c (c3.2,()) fun c4=>
  .cal s_l1Byte.c (c4.2,()) fun c5=>
  .val (IntKind.wrap .i64 ((IntKind.wrap .i64 (c2.1*16777216))+(IntKind.wrap .i64 (c3.1*65536)))) fun e6=>
  .val (IntKind.wrap .i64 ((IntKind.wrap .i64 (e6+(IntKind.wrap .i64 (c4.1*256))))+c5.1)) fun e7=>
  .grd (x1 != 0)<|
  .ret ((e7.tmod x1),c5.2),
 fun(y0,x1,_) hp=>by
  refine Tr.I (fun b0=>Tr.R ?_) fun b0=>Tr.I (fun b1=>Tr.C ?_ fun c1 hc1 qc1=>Tr.G ?_ fun g2=>Tr.R ?_) fun b1=>Tr.C ?_ fun c2 hc2 qc2=>Tr.C ?_ fun c3 hc3 qc3=>Tr.C ?_ fun c4 hc4 qc4=>Tr.C ?_ fun c5 hc5 qc5=>Tr.V fun e6 he6=>Tr.V fun e7 he7=>Tr.G ?_ fun g2=>Tr.R ?_
  all_goals ((first|grind|(refine⟨by grind,tmod_nn ?_,fun h=>tmod_lt h⟩;first|grind|(subst_vars;simp only[wrap64_def];omega))))⟩
noncomputable def s_l1Below_e:=entM st ⟨120,Tryz.f120,[],1⟩ [s_l1Byte_e] [] [.wr false [.ptr 0],.sc (.int .i64)] [.box [.st .curs]] (fun x y=>(y.1.1,x.2.1,())) s_l1Below (fun v=>[(false,[.c (.int .i64 v.1)])]) (fun x y v=>((v.2,()),())) Tryz.func120 (by kernel_rfl) trivial fun _ _=>by kernel_rfl
noncomputable def g_ContainsFunc_MacRow_i_MacOk_1:FT (List MacRow×MacRow×Unit) (Bool) (fun x=>sL sm_macRow x.1∧sm_macRow x.2.1) (fun _ _=>True):=⟨fun(x0,y1_0,_)=>
  .cal g_IndexFunc_MacRow_i_MacOk_1.c (x0,y1_0,()) fun c1=>
  .ret (decide (0≤c1)),
 fun(x0,y1_0,_) hp=>by
  refine Tr.C ?_ fun _ _ _=>Tr.R trivial
  all_goals (grind)⟩
noncomputable def g_ContainsFunc_MacRow_i_MacOk_1_e:=entM st ⟨238,Tryz.f238,[],1⟩ [g_IndexFunc_MacRow_i_MacOk_1_e] [] [.sc (.sl .macRow),.fn 239 [0]] [.box [.st .macRow]] (fun x y=>(x.1,y.1.1,())) g_ContainsFunc_MacRow_i_MacOk_1 (fun v=>[(false,[.c (.bool v)])]) (fun x y v=>((y.1.1,()),())) Tryz.func238 (by kernel_rfl) trivial fun _ _=>by kernel_rfl
noncomputable def s_CheckCookie_o:List (Ent1 Tryz.prog):=[s_CookieParts_e,s_KeysOk_e,s_SecretOf_e,s_CookieOf_e]
def s_CheckCookie_L0_h:Sh:=⟨[(2,false,[.int .i64]),(3,false,[.int .i64]),(4,false,[.ptr 0 0]),(5,false,[.ptr 1 0]),(12,false,[.int .i64]),(14,false,[.int .i64])],[.box [.st .keys [.sl .arg,.sl .arg]],.box [.st .tupl []]]⟩
noncomputable def s_CheckCookie_x:Fx:=⟨17,Tryz.f17,[(0,la ⟨[2,3,4,5,12,14],[],false,0⟩ ⟨[8,9,10],[],false,0⟩),(3000002,rA 0 29),(3000008,rA 0 59)],0⟩
noncomputable def s_CheckCookie_L0_T (v0 v1 v2:Int)(v4:Keys)(v5:Tupl)(v3:Int)(a:Unit):Tr (Stp (Unit) ((Int)⊕(Unit))):=
 .ite (decide ((IntKind.wrap .i64 (v4.epoch-1))≤v3)) (.cal s_SecretOf.c (v4,v3,()) fun c4=>
  .bnd (β:=Bool×Unit) (.ite c4.2 (.cal s_CookieOf.c (c4.1,v5,v0,v3,v2,()) fun c5=>
    .ret ((c5==v1),()))<|
   .ret (false,())) fun(u6a0,_)=>
  .ite u6a0 (.ret (.out (.inl v3)))<|
  .ret (.next ()))<|
 .ret (.out (.inr (())))
noncomputable def s_CheckCookie_L0_d:s_CheckCookie_L0_h.V→LC s_CheckCookie_L0_h (Unit) ((Int)⊕(Unit)) (((Int)⊕(Unit))⊕(Int×Unit)):=fun(v0,v1,v2,v3,v4,v5,_)=>⟨v3,(),fun v3 _=>(v0,v1,v2,v3,v4,v5,()),fun v3 _=>(decide (0≤v3)),s_CheckCookie_L0_T v0 v1 v2 v4 v5,dn,(-1),(Int.toNat (v3-0+1)),.inl,fun i a=> .inr (i,a),fun _ k w=>Sum.elim (fun q=>Sum.elim (fun p=>k .ret (Sh.enc ⟨[(8,false,[.int .i64]),(9,false,[.int .i64]),(10,false,[.bool])],[]⟩ (p,v2,true,()))) (fun _=>k (.exit 0) (Sh.enc ⟨[(8,false,[.undef]),(9,false,[.undef]),(10,false,[.undef])],[]⟩ ())) q) (fun _=>k (.exit 0) (Sh.enc ⟨[(8,false,[.undef]),(9,false,[.undef]),(10,false,[.undef])],[]⟩ ())) w⟩
theorem s_CheckCookie_L0_s:LS Tryz.prog s_CheckCookie_x [0] (leC 0 s_CheckCookie_L0_h s_CheckCookie_L0_d):=loopC st (orcOf_ok s_CheckCookie_o) _ s_CheckCookie_L0_d [] trivial (by kernel_rfl) (fun _=>by kernel_rfl) fun _ _ _ _ _ _=>by kernel_rfl
theorem s_CheckCookie_L0_k {v0 v1 v2 v3:Int}{v4:Keys}{v5:Tupl}(h0:v3≤9223372036854775807)(h1:sm_keys v4):(s_CheckCookie_L0_d (v0,v1,v2,v3,v4,v5,())).D 0 (fun _ _=>True) (fun _=>True):=
 LC.okD (i:=v3) (a:=()) (fun _ _=>rfl) (fun _=>rfl) rfl h0 (by decide) trivial fun v3 _ hj hk hv=>by
  refine Tr.I (fun _=>Tr.C ?_ fun _ _ _=>Tr.B (Q':=fun _=>True) (Tr.I (fun _=>Tr.C ?_ fun _ _ _=>Tr.R trivial) fun _=>Tr.R trivial) (fun(u6a0,_) _ _=>Tr.Z (by kernel_rfl))) fun _=>Tr.Ro trivial
  all_goals ((try simp only[Tr.nice,letK]at*)<;>grind)
noncomputable def s_CheckCookie:FT (Keys×Tupl×Int×Int×Unit) (Int×Int×Bool) (fun x=>sm_keys x.1) (fun _ _=>True):=⟨fun(x0,x1,x2,x3,_)=>
  .cal s_CookieParts.c (x3,()) fun c1=>
  .bnd (β:=Bool×Unit) (.cal s_KeysOk.c (x0,()) fun c2=>
   .ite (!c2) (.ret (true,()))<|
   .ret ((decide (c1.2.1<0)),())) fun(u3a0,_)=>
  .ite u3a0 (.ret (0,0,false))<|
  .lp (s_CheckCookie_L0_d (x2,x3,c1.2.1,x0.epoch,x0,x1,())).lp fun w7=> .sum w7 (fun q7=> .sum q7 (fun p7a0=>
  .ret (p7a0,c1.2.1,true))<|
  fun _=>
  .ret (0,0,false))<|
  fun _=>
  .ret (0,0,false),
 fun(x0,x1,x2,x3,_) hp=>by
  refine Tr.C trivial fun _ _ _=>Tr.B (Q':=fun w=>(w.1=false→0≤x0.epoch∧x0.epoch≤4294967295)) (Tr.C ?_ fun _ _ _=>Tr.I (fun _=>Tr.R ?_) fun _=>Tr.R ?_) (fun(u3a0,_) _ _=>Tr.I (fun _=>Tr.R trivial) fun _=>Tr.L (s_CheckCookie_L0_k ?_ ?_) (fun _ _=>Tr.Sr (Tr.R trivial)) (Tr.W2 (fun p7a0 _=>Tr.Sl (Tr.Sl (Tr.R trivial))) (fun _ _=>Tr.Sl (Tr.Sr (Tr.R trivial)))))
  all_goals ((try simp only[s_CheckCookie_L0_d,LC.lp,LC.ct,Ct.lp,Tr.nice,letK]at*)<;>grind)⟩
noncomputable def s_CheckCookie_e:=entT st s_CheckCookie_x s_CheckCookie_o [(leC 0 s_CheckCookie_L0_h s_CheckCookie_L0_d)] (ks:=[.st .keys,.st .tupl,.sc (.int .i64),.sc (.int .i64)]) s_CheckCookie (fun v=>[(false,[.c (.int .i64 v.1)]),(false,[.c (.int .i64 v.2.1)]),(false,[.c (.bool v.2.2)])]) Tryz.func17 ⟨s_CheckCookie_L0_s,trivial⟩ fun _=>by kernel_rfl
noncomputable def s_SynAck:FT (Door×Tupl×Segm×Unit) (Segm) (fun x=>sm_door x.1∧sm_segm x.2.2.1) (fun x v=>sm_segm v):=⟨fun(x0,x1,x2,_)=>
  .cal s_FirstSeq.c (x0,x1,x2,()) fun c1=>
  .val (s_SeqAdd.f (x2.seq,1,())) fun c2=>
  .val (s_AnswerOptions.f (x2.opts,x0.clock,())) fun c3=>
  .ret (⟨x1.my,x1.port,c1,c2,18,32,c3,[]⟩:Segm),
 fun(x0,x1,x2,_) hp=>by
  refine Tr.C ?_ fun _ _ _=>Tr.V fun _ _=>Tr.V fun _ _=>Tr.R ?_
  all_goals (grind)⟩
noncomputable def s_SynAck_e:=ent0 st Tryz.func44 [s_FirstSeq_e,s_SeqAdd_e,s_AnswerOptions_e] (ks:=[.st .door,.st .tupl,.st .segm]) s_SynAck (fun v=>[(true,q_segm v)]) fun _=>by kernel_rfl
noncomputable def s_SynIn:FT (Door×Tupl×Segm×Unit) (Door×List Segm) (fun x=>sm_door x.1∧sm_segm x.2.2.1) (fun x v=>sm_door v.1∧sL sm_segm v.2):=⟨fun(x0,x1,x2,_)=>
  .cal s_l26Copy.c (x0,()) fun c1=>
  .cal s_l26Right.c (x0,x1,x2,()) fun c2=>
  .ite (!c2) (.ret (c1,[]))<|
  .cal s_SynAck.c (x0,x1,x2,()) fun c3=>
  .cal s_FindHalf.c (x0.halves,x1,()) fun c4=>
  .ite (decide (0≤c4)) (.grd ((decide (0≤c4))&&(decide (c4<(x0.halves.length:Int))))<|
   .ite ((x0.halves.getD c4.toNat (Ty.zero .half)).irs != x2.seq) (.ret (c1,[]))<|
   .grd ((decide (0≤c4))&&(decide (c4<(x0.halves.length:Int))))<|
   .ret (c1,[({c3 with seq:=(x0.halves.getD c4.toNat (Ty.zero .half)).iss}:Segm)]))<|
  .cal s_FindConn.c (x0.table,x1,()) fun c5=>
  .ite (decide (c5<0)) (.val (s_KeptOptions.f (x2.opts,())) fun c6=>
   .cal s_PutHalf.c (c1.halves,(⟨x1,c3.seq,x2.seq,c6,0,x2.window⟩:Half),x0.limits.halves,()) fun c7=>
   .ret (({c1 with halves:=c7.1}:Door),[c3]))<|
  .ret (c1,[c3]),
 fun(x0,x1,x2,_) hp=>by
  refine Tr.C ?_ fun _ _ _=>Tr.C ?_ fun _ _ _=>Tr.I (fun _=>Tr.R ?_) fun _=>Tr.C ?_ fun _ _ _=>Tr.C ?_ fun _ _ _=>Tr.I (fun _=>Tr.G2 ?_ fun _=>Tr.I (fun _=>Tr.R ?_) fun _=>Tr.G2 ?_ fun _=>Tr.R ?_) fun _=>Tr.C ?_ fun _ _ _=>Tr.I (fun _=>Tr.V fun _ _=>Tr.C ?_ fun _ _ _=>Tr.R ?_) fun _=>Tr.R ?_
  all_goals (grind)⟩
noncomputable def s_SynIn_e:=ent0 st Tryz.func91 [s_l26Copy_e,s_l26Right_e,s_SynAck_e,s_FindHalf_e,s_FindConn_e,s_KeptOptions_e,s_PutHalf_e] (ks:=[.st .door,.st .tupl,.st .segm]) s_SynIn (fun v=>[(true,q_door (.o true) (.o true) (.o true) (.o true) (.o true) v.1),(false,[sc (.o true) .segm v.2])]) fun _=>by kernel_rfl
noncomputable def i_MacOk_o:List (Ent1 Tryz.prog):=[i_within_e,g_ContainsFunc_MacRow_i_MacOk_1_e]
def i_MacOk_L0_h:Sh:=⟨[(1,false,[.ptr 0 0]),(27,false,[.sl .arg .macRow]),(28,false,[.int .i64]),(29,false,[.int .i64])],[.box [.st .mac [.sl .arg]]]⟩
noncomputable def i_MacOk_x:Fx:=⟨165,Tryz.f165,[(0,la ⟨[1,27,28,29],[],false,0⟩ ⟨[2],[],false,0⟩),(3000003,rA 0 25)],0⟩
noncomputable def i_MacOk_L0_T (v0:List MacRow)(v3:Mac)(v2:Int)(a:Unit):Tr (Stp (Unit) ((Unit))):=
 .grd ((decide (0≤v2))&&(decide (v2<(v0.length:Int))))<|
 .val (i_within.f ((v0.getD v2.toNat (Ty.zero .macRow)).value,0,16777215,())) fun c2=>
 .ite (!c2) (.ret (.out ()))<|
 .grd ((decide (0≤v2))&&(decide (v2≤(v3.rows.length:Int))))<|
 .cal g_ContainsFunc_MacRow_i_MacOk_1.c (((v3.rows.take v2.toNat).drop 0),(v0.getD v2.toNat (Ty.zero .macRow)),()) fun c3=>
 .ite c3 (.ret (.out ()))<|
 .ret (.next ())
noncomputable def i_MacOk_L0_d:i_MacOk_L0_h.V→LC i_MacOk_L0_h (Unit) ((Unit)) (((Unit))⊕(Int×Unit)):=fun(v0,v1,v2,v3,_)=>⟨v2,(),fun v2 _=>(v0,v1,v2,v3,()),fun v2 _=>(decide (v2<v1)),i_MacOk_L0_T v0 v3,up,1,(Int.toNat (v1-v2)),.inl,fun i a=> .inr (i,a),fun _ k w=>Sum.elim (fun _=>k .ret (Sh.enc ⟨[(2,false,[.bool])],[]⟩ (false,()))) (fun _=>k (.exit 0) (Sh.enc ⟨[(2,false,[.undef])],[]⟩ ())) w⟩
theorem i_MacOk_L0_s:LS Tryz.prog i_MacOk_x [0] (leC 0 i_MacOk_L0_h i_MacOk_L0_d):=loopC st (orcOf_ok i_MacOk_o) _ i_MacOk_L0_d [] trivial (by kernel_rfl) (fun _=>by kernel_rfl) fun _ _ _ _ _ _=>by kernel_rfl
theorem i_MacOk_L0_k {v0:List MacRow}{v1 v2:Int}{v3:Mac}(h0:0≤v2)(h1:v1≤4611686018427387904)(h2:sL sm_macRow v0)(h3:sm_mac v3)(h4:v1≤(v0.length:Int))(h5:v1≤(v3.rows.length:Int)):(i_MacOk_L0_d (v0,v1,v2,v3,())).U v1 (fun _ _=>True) (fun _=>True):=
 LC.okU (i:=v2) (a:=()) (fun _ _=>rfl) (fun _=>rfl) rfl h0 h1 trivial fun v2 _ hj hk hv=>by
  refine Tr.G2 ?_ fun _=>Tr.V fun _ _=>Tr.I (fun _=>Tr.Ro trivial) fun _=>Tr.G2 ?_ fun _=>Tr.C ?_ fun _ _ _=>Tr.Z (by kernel_rfl)
  all_goals (grind)
noncomputable def i_MacOk:FT (Mac×Unit) (Bool) (fun x=>sm_mac x.1) (fun x v=>(v=true→x.1.rows.length≤64)):=⟨fun(x0,_)=>
  .ite (!x0.use) (.ret ((x0.rows.length:Int)==0))<|
  .bnd (β:=Bool×Unit) (.ite (x0.k != 0) (.ret (true,()))<|
   .ite (x0.l != 0) (.ret (true,()))<|
   .ret ((decide (64<(x0.rows.length:Int))),())) fun(u1a0,_)=>
  .ite u1a0 (.ret false)<|
  .lp (i_MacOk_L0_d (x0.rows,(x0.rows.length:Int),0,x0,())).lp fun w4=> .sum w4 (fun _=>
  .ret false)<|
  fun _=>
  .ret true,
 fun(x0,_) hp=>by
  refine Tr.I (fun _=>Tr.R ?_) fun _=>Tr.B (Q':=fun _=>True) (Tr.F (by kernel_rfl) trivial) (fun(u1a0,_) _ _=>Tr.I (fun _=>Tr.R ?_) fun _=>Tr.L (i_MacOk_L0_k ?_ ?_ ?_ ?_ ?_ ?_) (fun _ _=>Tr.Sr (Tr.R ?_)) (fun _ _=>Tr.Sl (Tr.R ?_)))
  all_goals ((try simp only[i_MacOk_L0_d,LC.lp,LC.ct,Ct.lp,Tr.nice,letK]at*)<;>grind)⟩
noncomputable def i_MacOk_e:=entT st i_MacOk_x i_MacOk_o [(leC 0 i_MacOk_L0_h i_MacOk_L0_d)] (ks:=[.st .mac]) i_MacOk (fun v=>[(false,[.c (.bool v)])]) Tryz.func165 ⟨i_MacOk_L0_s,trivial⟩ fun _=>by kernel_rfl
noncomputable def i_SynAck:FT (Door×Tupl×Segm×Unit) (Segm) (fun x=>sm_door x.1∧sm_segm x.2.2.1) (fun x v=>sm_segm v):=⟨fun(x0,x1,x2,_)=>
  .cal i_FirstSeq.c (x0,x1,x2,()) fun c1=>
  .val (i_SeqAdd.f (x2.seq,1,())) fun c2=>
  .val (i_AnswerOptions.f (x2.opts,x0.clock,())) fun c3=>
  .ret (⟨x1.my,x1.port,c1,c2,18,32,c3,[]⟩:Segm),
 fun(x0,x1,x2,_) hp=>by
  refine Tr.C ?_ fun _ _ _=>Tr.V fun _ _=>Tr.V fun _ _=>Tr.R ?_
  all_goals (grind)⟩
noncomputable def i_SynAck_e:=ent0 st Tryz.func171 [i_FirstSeq_e,i_SeqAdd_e,i_AnswerOptions_e] (ks:=[.st .door,.st .tupl,.st .segm]) i_SynAck (fun v=>[(true,q_segm v)]) fun _=>by kernel_rfl
noncomputable def s_l1Once:FT (Curs×Int×Unit) (Bool×Curs) (fun x=>sm_curs x.1) (fun x v=>sm_curs v.2):=⟨fun(y0,x1,_)=>
  .cal s_l1Below.c (y0,x1,()) fun c1=>
  .ret ((c1.1==0),c1.2),
 fun(y0,x1,_) hp=>by
  refine Tr.C ?_ fun _ _ _=>Tr.R ?_
  all_goals (grind)⟩
noncomputable def s_l1Once_e:=entM st ⟨45,Tryz.f45,[],1⟩ [s_l1Below_e] [] [.wr false [.ptr 0],.sc (.int .i64)] [.box [.st .curs]] (fun x y=>(y.1.1,x.2.1,())) s_l1Once (fun v=>[(false,[.c (.bool v.1)])]) (fun x y v=>((v.2,()),())) Tryz.func45 (by kernel_rfl) trivial fun _ _=>by kernel_rfl
noncomputable def s_AckIn_o:List (Ent1 Tryz.prog):=[s_l26Right_e,s_FindConn_e,s_l26Copy_e,s_FindHalf_e,s_SeqAdd_e,s_l26Reset_e,s_ConnNew_e,s_l26Let_e,s_CheckCookie_e,s_LearnedOptions_e]
noncomputable def s_AckIn_x:Fx:=⟨12,Tryz.f12,[(3000001,rA 0 27)],0⟩
noncomputable def s_AckIn:FT (Door×Tupl×Segm×Unit) (Door×List Segm×Int) (fun x=>sm_door x.1∧sm_segm x.2.2.1) (fun x v=>sm_door v.1∧sL sm_segm v.2.1):=⟨fun(x0,x1,x2,_)=>
  .bnd (β:=Bool×Unit) (.cal s_l26Right.c (x0,x1,x2,()) fun c1=>
   .ite (!c1) (.ret (true,()))<|
   .cal s_FindConn.c (x0.table,x1,()) fun c2=>
   .ret ((decide (0≤c2)),())) fun(u3a0,_)=>
  .ite u3a0 (.cal s_l26Copy.c (x0,()) fun c4=>
   .ret (c4,[],0))<|
  .cal s_FindHalf.c (x0.halves,x1,()) fun c5=>
  .ite (decide (0≤c5)) (.grd ((decide (0≤c5))&&(decide (c5<(x0.halves.length:Int))))<|
   .val (s_SeqAdd.f ((x0.halves.getD c5.toNat (Ty.zero .half)).iss,1,())) fun c6=>
   .ite (x2.ack != c6) (.cal s_l26Reset.c (x0,x2,()) fun c7=>
    .ret (c7.1,c7.2.1,c7.2.2))<|
   .val (s_SeqAdd.f ((x0.halves.getD c5.toNat (Ty.zero .half)).irs,1,())) fun c8=>
   .ite (x2.seq != c8) (.cal s_l26Copy.c (x0,()) fun c9=>
    .ret (c9,[],0))<|
   .cal s_ConnNew.c (x1,(x0.halves.getD c5.toNat (Ty.zero .half)).iss,(x0.halves.getD c5.toNat (Ty.zero .half)).irs,(x0.halves.getD c5.toNat (Ty.zero .half)).opts,x2.window,()) fun c10=>
   .cal s_l26Let.c (x0,c10,x2,1,()) fun c11=>
   .ret (c11.1,c11.2.1,c11.2.2))<|
  .val (s_SeqAdd.f (x2.seq,(-1),())) fun c12=>
  .val (s_SeqAdd.f (x2.ack,(-1),())) fun c13=>
  .cal s_CheckCookie.c (x0.keys,x1,c12,c13,()) fun c14=>
  .ite (!c14.2.2) (.cal s_l26Reset.c (x0,x2,()) fun c15=>
   .ret (c15.1,c15.2.1,c15.2.2))<|
  .cal s_LearnedOptions.c (c14.2.1,x2.opts,()) fun c16=>
  .cal s_ConnNew.c (x1,c13,c12,c16,x2.window,()) fun c17=>
  .cal s_l26Let.c (x0,c17,x2,2,()) fun c18=>
  .ret (c18.1,c18.2.1,c18.2.2),
 fun(x0,x1,x2,_) hp=>by
  refine Tr.B (Q':=fun _=>True) (Tr.C ?_ fun _ _ _=>Tr.I (fun _=>Tr.R trivial) fun _=>Tr.C ?_ fun _ _ _=>Tr.R trivial) (fun(u3a0,_) _ _=>Tr.I (fun _=>Tr.C ?_ fun _ _ _=>Tr.R ?_) fun _=>Tr.C ?_ fun _ _ _=>Tr.I (fun _=>Tr.G2 ?_ fun _=>Tr.V fun _ _=>Tr.I (fun _=>Tr.C ?_ fun _ _ _=>Tr.R ?_) fun _=>Tr.V fun _ _=>Tr.I (fun _=>Tr.C ?_ fun _ _ _=>Tr.R ?_) fun _=>Tr.C trivial fun _ _ _=>Tr.C ?_ fun _ _ _=>Tr.R ?_) fun _=>Tr.V fun _ _=>Tr.V fun _ _=>Tr.C ?_ fun _ _ _=>Tr.I (fun _=>Tr.C ?_ fun _ _ _=>Tr.R ?_) fun _=>Tr.C trivial fun _ _ _=>Tr.C trivial fun _ _ _=>Tr.C ?_ fun _ _ _=>Tr.R ?_)
  all_goals ((try simp only[Tr.nice,letK]at*)<;>grind)⟩
noncomputable def s_AckIn_e:=entT st s_AckIn_x s_AckIn_o [] (ks:=[.st .door,.st .tupl,.st .segm]) s_AckIn (fun v=>[(true,q_door (.o true) (.o true) (.o true) (.o true) (.o true) v.1),(false,[sc (.o true) .segm v.2.1]),(false,[.c (.int .i64 v.2.2)])]) Tryz.func12 trivial fun _=>by kernel_rfl
noncomputable def s_SegIn_o:List (Ent1 Tryz.prog):=[s_DoorOk_e,s_WordOk_e,s_SegmentOk_e,s_l26Copy_e,s_TupleOf_e,s_FindConn_e,s_l26Reset_e,s_l27Conn_e,s_Has_e,s_FindHalf_e,s_SeqAdd_e,s_DropHalf_e,s_SynIn_e,s_AckIn_e]
def s_SegIn_J84_a:An:=⟨⟨[],[],false,0⟩,⟨[3,6,7,8,9,12],[],false,0⟩,⟨[],[]⟩,[(.normal,⟨[(3,false,[.ptr 0 0]),(6,false,[.ptr 1 0]),(7,false,[.nil]),(8,false,[.int .i64]),(9,false,[.own 2]),(12,false,[.ptr 3 0])],[.box [.st .door [.sl .arg,.sl .arg,.sl .arg,.sl .arg,.sl .arg]],.box [.st .door [.nil .macRow,.nil .macRow,.nil .half,.nil .conn,.nil .tupl]],.arr .segm false true,.box [.st .door [.own 4,.own 5,.own 6,.own 7,.own 8]],.of false true,.of false true,.of false true,.of false true,.of false true]⟩)]⟩
noncomputable def s_SegIn_x:Fx:=⟨23,Tryz.f23,[(1000084,s_SegIn_J84_a),(3000002,rA 0 29),(3000013,rA 0 84),(3000016,rA 0 92),(3000019,rA 0 114)],0⟩
noncomputable def s_SegIn:FT (Door×Int×Segm×Unit) (Door×List Segm×Int) (fun x=>sm_door x.1∧sm_segm x.2.2.1) (fun x v=>sm_door v.1∧sL sm_segm v.2.1):=⟨fun(x0,x1,x2,_)=>
  .bnd (β:=Bool×Unit) (.cal s_DoorOk.c (x0,()) fun c1=>
   .ite (!c1) (.ret (true,()))<|
   .cal s_WordOk.c (x1,32,()) fun c2=>
   .ite (!c2) (.ret (true,()))<|
   .cal s_SegmentOk.c (x2,()) fun c3=>
   .ret ((!c3),())) fun(u4a0,_)=>
  .ite u4a0 (.cal s_l26Copy.c (x0,()) fun c5=>
   .ret (c5,[],0))<|
  .val (s_TupleOf.f (x1,x2,())) fun c6=>
  .cal s_FindConn.c (x0.table,c6,()) fun c7=>
  .ite (x2.to != x0.port) (.cal s_l26Reset.c (x0,x2,()) fun c8=>
   .ret (c8.1,c8.2.1,c8.2.2))<|
  .ite (decide (0≤c7)) (.cal s_l27Conn.c (x0,c7,x2,()) fun c9=>
   .ret (c9.1,c9.2.1,c9.2.2))<|
  .val (s_Has.f (x2,4,())) fun c10=>
  .ite c10 (.cal s_l26Copy.c (x0,()) fun c11=>
   .cal s_FindHalf.c (x0.halves,c6,()) fun c12=>
   .bnd (β:=Bool×Unit) (.ite (decide (0≤c12)) (.grd ((decide (0≤c12))&&(decide (c12<(x0.halves.length:Int))))<|
     .val (s_SeqAdd.f ((x0.halves.getD c12.toNat (Ty.zero .half)).irs,1,())) fun c13=>
     .ret ((x2.seq==c13),()))<|
    .ret (false,())) fun(u14a0,_)=>
   .bnd (β:=WT s_SegIn_J84_a.es) (.ite u14a0 (.cal s_DropHalf.c (x0.halves,c6,()) fun c15=>
     .ret (0,x0,(⟨0,0,⟨0,⟨false,0,0,[]⟩,⟨false,0,0,[]⟩,false⟩,⟨0,0,0,0⟩,[],⟨[],[]⟩,0⟩:Door),[],({c11 with halves:=c15}:Door),()))<|
    .ret (0,x0,(⟨0,0,⟨0,⟨false,0,0,[]⟩,⟨false,0,0,[]⟩,false⟩,⟨0,0,0,0⟩,[],⟨[],[]⟩,0⟩:Door),[],c11,())) fun(_,_,_,u16a3,u16a4,_)=>
   .ret (u16a4,u16a3,0))<|
  .bnd (β:=Bool×Unit) (.val (s_Has.f (x2,2,())) fun c17=>
   .ite c17 (.val (s_Has.f (x2,16,())) fun c18=>
    .ite (!c18) (.val (s_Has.f (x2,1,())) fun c19=>
     .ret ((!c19),()))<|
    .ret (false,()))<|
   .ret (false,())) fun(u20a0,_)=>
  .ite u20a0 (.cal s_SynIn.c (x0,c6,x2,()) fun c21=>
   .ret (c21.1,c21.2,0))<|
  .bnd (β:=Bool×Unit) (.val (s_Has.f (x2,16,())) fun c22=>
   .ite c22 (.val (s_Has.f (x2,2,())) fun c23=>
    .ret ((!c23),()))<|
   .ret (false,())) fun(u24a0,_)=>
  .ite u24a0 (.cal s_AckIn.c (x0,c6,x2,()) fun c25=>
   .ret (c25.1,c25.2.1,c25.2.2))<|
  .val (s_Has.f (x2,16,())) fun c26=>
  .ite c26 (.cal s_l26Reset.c (x0,x2,()) fun c27=>
   .ret (c27.1,c27.2.1,c27.2.2))<|
  .cal s_l26Copy.c (x0,()) fun c28=>
  .ret (c28,[],0),
 fun(x0,x1,x2,_) hp=>by
  refine Tr.B (Q':=fun w=>(w.1=false→x0.table.conns.length≤16∧x2.body.length≤1420)) (Tr.C ?_ fun _ _ _=>Tr.I (fun _=>Tr.R ?_) fun _=>Tr.C trivial fun _ _ _=>Tr.I (fun _=>Tr.R ?_) fun _=>Tr.C trivial fun _ _ _=>Tr.R ?_) (fun(u4a0,_) _ _=>Tr.I (fun _=>Tr.C ?_ fun _ _ _=>Tr.R ?_) fun _=>Tr.V fun _ _=>Tr.C ?_ fun _ _ _=>Tr.I (fun _=>Tr.C ?_ fun _ _ _=>Tr.R ?_) fun _=>Tr.I (fun _=>Tr.C ?_ fun _ _ _=>Tr.R ?_) fun _=>Tr.V fun _ _=>Tr.I (fun _=>Tr.C ?_ fun _ _ _=>Tr.C ?_ fun _ _ _=>Tr.B (Q':=fun _=>True) (Tr.I (fun _=>Tr.G2 ?_ fun _=>Tr.F (by kernel_rfl) trivial) fun _=>Tr.R trivial) (fun(u14a0,_) _ _=>Tr.B (Q':=fun w=>sm_door w.2.1∧sm_door w.2.2.1∧sL sm_segm w.2.2.2.1∧sm_door w.2.2.2.2.1) (Tr.I (fun _=>Tr.C ?_ fun _ _ _=>Tr.R ?_) fun _=>Tr.R ?_) (fun(u16a0,u16a1,u16a2,u16a3,u16a4,_) _ _=>Tr.R ?_))) fun _=>Tr.B (Q':=fun _=>True) (Tr.F (by kernel_rfl) trivial) (fun(u20a0,_) _ _=>Tr.I (fun _=>Tr.C ?_ fun _ _ _=>Tr.R ?_) fun _=>Tr.B (Q':=fun _=>True) (Tr.F (by kernel_rfl) trivial) (fun(u24a0,_) _ _=>Tr.I (fun _=>Tr.C ?_ fun _ _ _=>Tr.R ?_) fun _=>Tr.V fun _ _=>Tr.I (fun _=>Tr.C ?_ fun _ _ _=>Tr.R ?_) fun _=>Tr.C ?_ fun _ _ _=>Tr.R ?_)))
  all_goals ((try simp only[Tr.nice,letK]at*)<;>grind)⟩
noncomputable def s_SegIn_e:=entT st s_SegIn_x s_SegIn_o [] (ks:=[.st .door,.sc (.int .i64),.st .segm]) s_SegIn (fun v=>[(true,q_door (.o true) (.o true) (.o true) (.o true) (.o true) v.1),(false,[sc (.o true) .segm v.2.1]),(false,[.c (.int .i64 v.2.2)])]) Tryz.func23 trivial fun _=>by kernel_rfl
noncomputable def i_KeysOk_o:List (Ent1 Tryz.prog):=[i_within_e,i_MacOk_e,i_SameMac_e]
def i_KeysOk_J5_a:An:=⟨⟨[],[],false,0⟩,⟨[1,2,3],[],false,0⟩,⟨[],[]⟩,[(.normal,⟨[(1,false,[.ptr 0 0]),(2,false,[.bool]),(3,false,[.int .i64])],[.box [.st .keys [.sl .arg,.sl .arg]]]⟩)]⟩
noncomputable def i_KeysOk_x:Fx:=⟨73,Tryz.f73,[(1000005,i_KeysOk_J5_a)],0⟩
noncomputable def i_KeysOk:FT (Keys×Unit) (Bool) (fun x=>sm_keys x.1) (fun x v=>(v=true→0≤x.1.epoch∧x.1.epoch≤4294967295)):=⟨fun(x0,_)=>
  .bnd (β:=Bool×Int×Keys×Unit) (.ite x0.two (.ret (false,1,x0,()))<|
   .ret (false,0,x0,())) fun(_,u1a1,u1a2,_)=>
  .val (i_within.f (u1a2.epoch,u1a1,4294967295,())) fun c2=>
  .ite c2 (.cal i_MacOk.c (u1a2.now,()) fun c3=>
   .ite c3 (.cal i_MacOk.c (u1a2.before,()) fun c4=>
    .ite c4 (.ite u1a2.two (.ret true)<|
     .cal i_SameMac.c (u1a2.before,(⟨false,0,0,[]⟩:Mac),()) fun c5=>
     .ret c5)<|
    .ret false)<|
   .ret false)<|
  .ret false,
 fun(x0,_) hp=>by
  refine Tr.B (Q':=fun w=>sm_keys w.2.2.1∧0≤w.2.1∧w.2.2.1=x0) (Tr.I (fun b0=>Tr.R ?_) fun b0=>Tr.R ?_) (fun(u1a0,u1a1,u1a2,_) hj1 qj1=>Tr.V fun c2 hc2=>Tr.I (fun b0=>Tr.C ?_ fun c3 hc3 qc3=>Tr.I (fun b1=>Tr.C ?_ fun c4 hc4 qc4=>Tr.I (fun b2=>Tr.I (fun b3=>Tr.R ?_) fun b3=>Tr.C ?_ fun c5 hc5 qc5=>Tr.R ?_) fun b2=>Tr.R ?_) fun b1=>Tr.R ?_) fun b0=>Tr.R ?_)
  all_goals ((try simp only[Tr.nice,letK]at*)<;>grind)⟩
noncomputable def i_KeysOk_e:=entT st i_KeysOk_x i_KeysOk_o [] (ks:=[.st .keys]) i_KeysOk (fun v=>[(false,[.c (.bool v)])]) Tryz.func73 trivial fun _=>by kernel_rfl
noncomputable def s_l10Key_o:List (Ent1 Tryz.prog):=[s_l1Below_e,s_l1Byte_e]
def s_l10Key_L0_h:Sh:=⟨[(0,false,[.ptr 0 0]),(3,false,[.int .u64]),(4,false,[.int .i64])],[.box [.st .curs [.sl .any]]]⟩
noncomputable def s_l10Key_x:Fx:=⟨319,Tryz.f319,[(1,la ⟨[0,3,4],[],false,1⟩ ⟨[2,3],[],false,1⟩)],1⟩
noncomputable def s_l10Key_L0_T (v1:Int)(a:Int×Curs):Tr (Stp (Int×Curs) (Empty)):=
 .cal s_l1Byte.c (a.2,()) fun c2=>
 .val (bits .or .u64 (IntKind.wrap .u64 (a.1*256)) (IntKind.wrap .u64 c2.1)) fun e3=>
 .ret (.next (e3,c2.2))
noncomputable def s_l10Key_L0_d:s_l10Key_L0_h.V→LC s_l10Key_L0_h (Int×Curs) (Empty) (Int×(Int×Curs)):=fun(v0,v1,v2,_)=>⟨v1,(v0,v2),fun v1 a=>(a.1,v1,a.2,()),fun v1 _=>(decide (v1<8)),s_l10Key_L0_T,up,1,(Int.toNat (8-v1)),(fun p=>Empty.elim p),fun i a=>(i,a),fun _ k x=>k (.exit 1) (Sh.enc ⟨[(2,false,[.undef]),(3,false,[.int .u64])],[.box [.st .curs [.sl .any]]]⟩ (x.2.1,x.2.2,()))⟩
theorem s_l10Key_L0_s:LS Tryz.prog s_l10Key_x [0] (leC 1 s_l10Key_L0_h s_l10Key_L0_d):=loopC st (orcOf_ok s_l10Key_o) _ s_l10Key_L0_d [] trivial (by kernel_rfl) (fun _=>by kernel_rfl) fun _ _ _ _ _ _=>by kernel_rfl
theorem s_l10Key_L0_k {v0 v1:Int}{v2:Curs}(h0:0≤v1)(h1:sm_curs v2):(s_l10Key_L0_d (v0,v1,v2,())).U 8 (fun v1 a=>sm_curs a.2) (fun _=>True):=
 LC.okU (i:=v1) (a:=(v0,v2)) (fun _ _=>rfl) (fun _=>rfl) rfl h0 (by decide) h1 fun v1 (v0,v2) hj hk hv=>by
  refine Tr.C ?_ fun _ _ _=>Tr.V fun _ _=>Tr.Rn ?_
  all_goals (grind)
noncomputable def s_l10Key:FT (Curs×Unit) (Int×Curs) (fun x=>sm_curs x.1) (fun x v=>sm_curs v.2):=⟨fun(y0,_)=>
  .cal s_l1Below.c (y0,3,()) fun c1=>
  .ite (c1.1==0) (.ret (0,c1.2))<|
  .ite (c1.1==1) (.ret (506097522914230528,c1.2))<|
  .lp (s_l10Key_L0_d (0,0,c1.2,())).lp fun(_,a4_0,a4_1)=>
  .ret (a4_0,a4_1),
 fun(y0,_) hp=>by
  refine Tr.C ?_ fun _ _ _=>Tr.I (fun _=>Tr.R ?_) fun _=>Tr.I (fun _=>Tr.R ?_) fun _=>Tr.L (s_l10Key_L0_k ?_ ?_) (fun(a4_0,a4_1) _=>Tr.R ?_) (fun p=>Empty.elim p)
  all_goals ((try simp only[s_l10Key_L0_d,LC.lp,LC.ct,Ct.lp]at*)<;>grind)⟩
noncomputable def s_l10Key_e:=entM st s_l10Key_x s_l10Key_o [(leC 1 s_l10Key_L0_h s_l10Key_L0_d)] [.wr false [.ptr 0]] [.box [.st .curs]] (fun x y=>(y.1.1,())) s_l10Key (fun v=>[(false,[.c (.int .u64 v.1)])]) (fun x y v=>((v.2,()),())) Tryz.func319 (by kernel_rfl) ⟨s_l10Key_L0_s,trivial⟩ fun _ _=>by kernel_rfl
noncomputable def i_CheckCookie_o:List (Ent1 Tryz.prog):=[i_KeysOk_e,i_WordOk_e,i_CookieParts_e,i_SecretOf_e,i_CookieOf_e]
def i_CheckCookie_L0_h:Sh:=⟨[(2,false,[.int .i64]),(3,false,[.int .i64]),(4,false,[.ptr 0 0]),(5,false,[.ptr 1 0]),(12,false,[.int .i64]),(14,false,[.int .i64])],[.box [.st .keys [.sl .arg,.sl .arg]],.box [.st .tupl []]]⟩
noncomputable def i_CheckCookie_x:Fx:=⟨53,Tryz.f53,[(0,la ⟨[2,3,4,5,12,14],[],false,0⟩ ⟨[8,9,10],[],false,0⟩),(3000001,rA 0 24),(3000008,rA 0 57)],0⟩
noncomputable def i_CheckCookie_L0_T (v0 v1 v2:Int)(v4:Keys)(v5:Tupl)(v3:Int)(a:Unit):Tr (Stp (Unit) ((Int))):=
 .cal i_SecretOf.c (v4,v3,()) fun c5=>
 .bnd (β:=Bool×Unit) (.ite c5.2 (.cal i_CookieOf.c (c5.1,v5,v0,v3,v2,()) fun c6=>
   .ret ((c6==v1),()))<|
  .ret (false,())) fun(u7a0,_)=>
 .ite u7a0 (.ret (.out v3))<|
 .ret (.next ())
noncomputable def i_CheckCookie_L0_d:i_CheckCookie_L0_h.V→LC i_CheckCookie_L0_h (Unit) ((Int)) (((Int))⊕(Int×Unit)):=fun(v0,v1,v2,v3,v4,v5,_)=>⟨v3,(),fun v3 _=>(v0,v1,v2,v3,v4,v5,()),fun v3 _=>(decide ((if 0<(IntKind.wrap .i64 (v4.epoch-1))then(IntKind.wrap .i64 (v4.epoch-1))else 0)≤v3)),i_CheckCookie_L0_T v0 v1 v2 v4 v5,dn,(-1),(Int.toNat (v3-(if 0<(IntKind.wrap .i64 (v4.epoch-1))then(IntKind.wrap .i64 (v4.epoch-1))else 0)+1)),.inl,fun i a=> .inr (i,a),fun _ k w=>Sum.elim (fun p=>k .ret (Sh.enc ⟨[(8,false,[.int .i64]),(9,false,[.int .i64]),(10,false,[.bool])],[]⟩ (p,v2,true,()))) (fun _=>k (.exit 0) (Sh.enc ⟨[(8,false,[.undef]),(9,false,[.undef]),(10,false,[.undef])],[]⟩ ())) w⟩
theorem i_CheckCookie_L0_s:LS Tryz.prog i_CheckCookie_x [0] (leC 0 i_CheckCookie_L0_h i_CheckCookie_L0_d):=loopC st (orcOf_ok i_CheckCookie_o) _ i_CheckCookie_L0_d [] trivial (by kernel_rfl) (fun _=>by kernel_rfl) fun _ _ _ _ _ _=>by kernel_rfl
theorem i_CheckCookie_L0_k {v0 v1 v2 v3:Int}{v4:Keys}{v5:Tupl}(h0:v3≤9223372036854775807)(h1:0≤(if 0<(IntKind.wrap .i64 (v4.epoch-1))then(IntKind.wrap .i64 (v4.epoch-1))else 0))(h2:sm_keys v4):(i_CheckCookie_L0_d (v0,v1,v2,v3,v4,v5,())).D (if 0<(IntKind.wrap .i64 (v4.epoch-1))then(IntKind.wrap .i64 (v4.epoch-1))else 0) (fun _ _=>True) (fun _=>True):=
 LC.okD (i:=v3) (a:=()) (fun _ _=>rfl) (fun _=>rfl) rfl h0 h1 trivial fun v3 _ hj hk hv=>by
  refine Tr.C ?_ fun _ _ _=>Tr.B (Q':=fun _=>True) (Tr.I (fun _=>Tr.C ?_ fun _ _ _=>Tr.R trivial) fun _=>Tr.R trivial) (fun(u7a0,_) _ _=>Tr.Z (by kernel_rfl))
  all_goals ((try simp only[Tr.nice,letK]at*)<;>grind)
noncomputable def i_CheckCookie:FT (Keys×Tupl×Int×Int×Unit) (Int×Int×Bool) (fun x=>sm_keys x.1) (fun _ _=>True):=⟨fun(x0,x1,x2,x3,_)=>
  .bnd (β:=Bool×Unit) (.cal i_KeysOk.c (x0,()) fun c1=>
   .ite (!c1) (.ret (true,()))<|
   .cal i_WordOk.c (x3,32,()) fun c2=>
   .ret ((!c2),())) fun(u3a0,_)=>
  .ite u3a0 (.ret (0,0,false))<|
  .cal i_CookieParts.c (x3,()) fun c4=>
  .lp (i_CheckCookie_L0_d (x2,x3,c4.2.1,x0.epoch,x0,x1,())).lp fun w8=> .sum w8 (fun p8a0=>
  .ret (p8a0,c4.2.1,true))<|
  fun _=>
  .ret (0,0,false),
 fun(x0,x1,x2,x3,_) hp=>by
  refine Tr.B (Q':=fun w=>(w.1=false→0≤x0.epoch∧x0.epoch≤4294967295)) (Tr.C ?_ fun _ _ _=>Tr.I (fun _=>Tr.R ?_) fun _=>Tr.C trivial fun _ _ _=>Tr.R ?_) (fun(u3a0,_) _ _=>Tr.I (fun _=>Tr.R trivial) fun _=>Tr.C trivial fun _ _ _=>Tr.L (i_CheckCookie_L0_k ?_ ?_ ?_) (fun _ _=>Tr.Sr (Tr.R trivial)) (fun p8a0 _=>Tr.Sl (Tr.R trivial)))
  all_goals ((try simp only[i_CheckCookie_L0_d,LC.lp,LC.ct,Ct.lp,Tr.nice,letK]at*)<;>grind)⟩
noncomputable def i_CheckCookie_e:=entT st i_CheckCookie_x i_CheckCookie_o [(leC 0 i_CheckCookie_L0_h i_CheckCookie_L0_d)] (ks:=[.st .keys,.st .tupl,.sc (.int .i64),.sc (.int .i64)]) i_CheckCookie (fun v=>[(false,[.c (.int .i64 v.1)]),(false,[.c (.int .i64 v.2.1)]),(false,[.c (.bool v.2.2)])]) Tryz.func53 ⟨i_CheckCookie_L0_s,trivial⟩ fun _=>by kernel_rfl
noncomputable def s_l26Keys:FT (Curs×Unit) (Keys×Curs) (fun x=>sm_curs x.1) (fun x v=>sm_keys v.1∧sm_curs v.2):=⟨fun(y0,_)=>
  .cal s_l1Below.c (y0,40,()) fun c1=>
  .cal s_l10Key.c (c1.2,()) fun c2=>
  .cal s_l10Key.c (c2.2,()) fun c3=>
  .cal s_KeyMac.c (c2.1,c3.1,()) fun c4=>
  .ite (decide (0<c1.1)) (.cal s_l1Once.c (c3.2,2,()) fun c5=>
   .ite c5.1 (.cal s_l10Key.c (c5.2,()) fun c6=>
    .cal s_KeyMac.c (c6.1,5,()) fun c7=>
    .ret ((⟨c1.1,c4,c7,true⟩:Keys),c6.2))<|
   .ret ((⟨c1.1,c4,⟨false,0,0,[]⟩,false⟩:Keys),c5.2))<|
  .ret ((⟨c1.1,c4,⟨false,0,0,[]⟩,false⟩:Keys),c3.2),
 fun(y0,_) hp=>by
  refine Tr.C ?_ fun _ _ _=>Tr.C ?_ fun _ _ _=>Tr.C ?_ fun _ _ _=>Tr.C trivial fun _ _ _=>Tr.I (fun _=>Tr.C ?_ fun _ _ _=>Tr.I (fun _=>Tr.C ?_ fun _ _ _=>Tr.C trivial fun _ _ _=>Tr.R ?_) fun _=>Tr.R ?_) fun _=>Tr.R ?_
  all_goals (grind)⟩
noncomputable def s_l26Keys_e:=entM st ⟨278,Tryz.f278,[],1⟩ [s_l1Below_e,s_l10Key_e,s_KeyMac_e,s_l1Once_e] [] [.wr false [.ptr 0]] [.box [.st .curs]] (fun x y=>(y.1.1,())) s_l26Keys (fun v=>[(true,q_keys (.o true) (.o true) v.1)]) (fun x y v=>((v.2,()),())) Tryz.func278 (by kernel_rfl) trivial fun _ _=>by kernel_rfl
noncomputable def s_l25Limits:FT (Curs×Unit) (Limi×Curs) (fun x=>sm_curs x.1) (fun x v=>sm_curs v.2):=⟨fun(y0,_)=>
  .cal s_l1Below.c (y0,3,()) fun c1=>
  .cal s_l1Below.c (c1.2,3,()) fun c2=>
  .cal s_l1Below.c (c2.2,4,()) fun c3=>
  .cal s_l1Below.c (c3.2,4,()) fun c4=>
  .ret ((⟨(IntKind.wrap .i64 (1+c1.1)),(IntKind.wrap .i64 (1+c2.1)),(IntKind.wrap .i64 (1+c3.1)),c4.1⟩:Limi),c4.2),
 fun(y0,_) hp=>by
  refine Tr.C ?_ fun _ _ _=>Tr.C ?_ fun _ _ _=>Tr.C ?_ fun _ _ _=>Tr.C ?_ fun _ _ _=>Tr.R ?_
  all_goals (grind)⟩
noncomputable def s_l25Limits_e:=entM st ⟨279,Tryz.f279,[],1⟩ [s_l1Below_e] [] [.wr false [.ptr 0]] [.box [.st .curs]] (fun x y=>(y.1.1,())) s_l25Limits (fun v=>[(true,q_limi v.1)]) (fun x y v=>((v.2,()),())) Tryz.func279 (by kernel_rfl) trivial fun _ _=>by kernel_rfl
noncomputable def i_DoorOk_1:FT (Half×Door×Unit) (Bool) (fun x=>sm_door x.2.1) (fun _ _=>True):=⟨fun(x0,y1,_)=>
  .cal i_FindConn.c (y1.table,x0.tuple,()) fun c1=>
  .ret (decide (0≤c1)),
 fun(x0,y1,_) hp=>by
  refine Tr.C ?_ fun _ _ _=>Tr.R trivial
  all_goals (grind)⟩
noncomputable def i_DoorOk_1_e:=entM st ⟨78,Tryz.f78,[],1⟩ [i_FindConn_e] [] [.st .half,.wr false [.ptr 0]] [.box [.st .door]] (fun x y=>(x.1,y.1.1,())) i_DoorOk_1 (fun v=>[(false,[.c (.bool v)])]) (fun x y v=>((y.1.1,()),())) Tryz.func78 (by kernel_rfl) trivial fun _ _=>by kernel_rfl
noncomputable def g_IndexFunc_Half_i_DoorOk_1_o:List (Ent1 Tryz.prog):=[i_DoorOk_1_e]
def g_IndexFunc_Half_i_DoorOk_1_L0_h:Sh:=⟨[(0,false,[.sl .arg .half]),(1,false,[.fn 78 [0]]),(7,false,[.int .i64]),(8,false,[.int .i64])],[.box [.st .door [.sl .any,.sl .any,.sl .any,.sl .any,.sl .any]]]⟩
noncomputable def g_IndexFunc_Half_i_DoorOk_1_x:Fx:=⟨81,Tryz.f81,[(0,la ⟨[0,1,7,8],[.softo 0 6,.softo 0 10,.softo 0 16,.softo 0 17,.softo 0 18],false,1⟩ ⟨[4],[],false,1⟩)],1⟩
noncomputable def g_IndexFunc_Half_i_DoorOk_1_L0_T (v0:List Half)(v3:Door)(v2:Int)(a:Unit):Tr (Stp (Unit) ((Int))):=
 .grd ((decide (0≤v2))&&(decide (v2<(v0.length:Int))))<|
 .cal i_DoorOk_1.c ((v0.getD v2.toNat (Ty.zero .half)),v3,()) fun c2=>
 .ite c2 (.ret (.out v2))<|
 .ret (.next ())
noncomputable def g_IndexFunc_Half_i_DoorOk_1_L0_d:g_IndexFunc_Half_i_DoorOk_1_L0_h.V→LC g_IndexFunc_Half_i_DoorOk_1_L0_h (Unit) ((Int)) (((Int))⊕(Int×Unit)):=fun(v0,v1,v2,v3,_)=>⟨v2,(),fun v2 _=>(v0,v1,v2,v3,()),fun v2 _=>(decide (v2<v1)),g_IndexFunc_Half_i_DoorOk_1_L0_T v0 v3,up,1,(Int.toNat (v1-v2)),.inl,fun i a=> .inr (i,a),fun _ k w=>Sum.elim (fun p=>k .ret (Sh.enc ⟨[(4,false,[.int .i64])],[.box [.st .door [.sl .any,.sl .any,.sl .any,.sl .any,.sl .any]]]⟩ (p,v3,()))) (fun _=>k (.exit 0) (Sh.enc ⟨[(4,false,[.undef])],[.box [.st .door [.sl .any,.sl .any,.sl .any,.sl .any,.sl .any]]]⟩ (v3,()))) w⟩
theorem g_IndexFunc_Half_i_DoorOk_1_L0_s:LS Tryz.prog g_IndexFunc_Half_i_DoorOk_1_x [0] (leC 0 g_IndexFunc_Half_i_DoorOk_1_L0_h g_IndexFunc_Half_i_DoorOk_1_L0_d):=loopC st (orcOf_ok g_IndexFunc_Half_i_DoorOk_1_o) _ g_IndexFunc_Half_i_DoorOk_1_L0_d [] trivial (by kernel_rfl) (fun _=>by kernel_rfl) fun _ _ _ _ _ _=>by kernel_rfl
theorem g_IndexFunc_Half_i_DoorOk_1_L0_k {v0:List Half}{v1 v2:Int}{v3:Door}(h0:0≤v2)(h1:v1≤4611686018427387904)(h2:sS v0)(h3:sm_door v3)(h4:v1≤(v0.length:Int)):(g_IndexFunc_Half_i_DoorOk_1_L0_d (v0,v1,v2,v3,())).U v1 (fun _ _=>True) (fun p=>v2≤p∧p<v1):=
 LC.okU (i:=v2) (a:=()) (fun _ _=>rfl) (fun _=>rfl) rfl h0 h1 trivial fun v2 _ hj hk hv=>by
  refine Tr.G2 ?_ fun _=>Tr.C ?_ fun _ _ _=>Tr.I (fun _=>Tr.Ro ?_) fun _=>Tr.Rn trivial
  all_goals (grind)
noncomputable def g_IndexFunc_Half_i_DoorOk_1:FT (List Half×Door×Unit) (Int) (fun x=>sS x.1∧sm_door x.2.1) (fun x v=> -1≤v∧v<x.1.length):=⟨fun(x0,y1_0,_)=>
  .lp (g_IndexFunc_Half_i_DoorOk_1_L0_d (x0,(x0.length:Int),0,y1_0,())).lp fun w3=> .sum w3 (fun p3a0=>
  .ret p3a0)<|
  fun _=>
  .ret (-1),
 fun(x0,y1_0,_) hp=>by
  refine Tr.L (g_IndexFunc_Half_i_DoorOk_1_L0_k ?_ ?_ ?_ ?_ ?_) (fun _ _=>Tr.Sr (Tr.R ?_)) (fun p3a0 _=>Tr.Sl (Tr.R ?_))
  all_goals ((try simp only[g_IndexFunc_Half_i_DoorOk_1_L0_d,LC.lp,LC.ct,Ct.lp]at*)<;>grind)⟩
noncomputable def g_IndexFunc_Half_i_DoorOk_1_e:=entM st g_IndexFunc_Half_i_DoorOk_1_x g_IndexFunc_Half_i_DoorOk_1_o [(leC 0 g_IndexFunc_Half_i_DoorOk_1_L0_h g_IndexFunc_Half_i_DoorOk_1_L0_d)] [.sc (.sl .half),.fn 78 [0]] [.box [.st .door]] (fun x y=>(x.1,y.1.1,())) g_IndexFunc_Half_i_DoorOk_1 (fun v=>[(false,[.c (.int .i64 v)])]) (fun x y v=>((y.1.1,()),())) Tryz.func81 (by kernel_rfl) ⟨g_IndexFunc_Half_i_DoorOk_1_L0_s,trivial⟩ fun _ _=>by kernel_rfl
noncomputable def g_ContainsFunc_Half_i_DoorOk_1:FT (List Half×Door×Unit) (Bool) (fun x=>sS x.1∧sm_door x.2.1) (fun _ _=>True):=⟨fun(x0,y1_0,_)=>
  .cal g_IndexFunc_Half_i_DoorOk_1.c (x0,y1_0,()) fun c1=>
  .ret (decide (0≤c1)),
 fun(x0,y1_0,_) hp=>by
  refine Tr.C ?_ fun _ _ _=>Tr.R trivial
  all_goals (grind)⟩
noncomputable def g_ContainsFunc_Half_i_DoorOk_1_e:=entM st ⟨77,Tryz.f77,[],1⟩ [g_IndexFunc_Half_i_DoorOk_1_e] [] [.sc (.sl .half),.fn 78 [0]] [.box [.st .door]] (fun x y=>(x.1,y.1.1,())) g_ContainsFunc_Half_i_DoorOk_1 (fun v=>[(false,[.c (.bool v)])]) (fun x y v=>((y.1.1,()),())) Tryz.func77 (by kernel_rfl) trivial fun _ _=>by kernel_rfl
noncomputable def i_DoorOk_o:List (Ent1 Tryz.prog):=[i_WordOk_e,i_KeysOk_e,i_TableOk_e,i_HalvesOk_e,i_within_e,g_ContainsFunc_Half_i_DoorOk_1_e]
noncomputable def i_DoorOk_x:Fx:=⟨18,Tryz.f18,[(3000001,rA 0 50)],0⟩
noncomputable def i_DoorOk:FT (Door×Unit) (Bool) (fun x=>sm_door x.1) (fun x v=>(v=true→x.1.table.conns.length≤16)):=⟨fun(x0,_)=>
  .bnd (β:=Bool×Unit) (.cal i_WordOk.c (x0.port,16,()) fun c1=>
   .ite (!c1) (.ret (true,()))<|
   .cal i_WordOk.c (x0.clock,32,()) fun c2=>
   .ite (!c2) (.ret (true,()))<|
   .cal i_KeysOk.c (x0.keys,()) fun c3=>
   .ite (!c3) (.ret (true,()))<|
   .cal i_TableOk.c (x0.table,x0.limits,()) fun c4=>
   .ite (!c4) (.ret (true,()))<|
   .cal i_HalvesOk.c (x0.halves,()) fun c5=>
   .ite (!c5) (.ret (true,()))<|
   .ite (decide (x0.limits.halves<(x0.halves.length:Int))) (.ret (true,()))<|
   .val (i_within.f (x0.chal,0,x0.limits.chal,())) fun c6=>
   .ret ((!c6),())) fun(u7a0,_)=>
  .ite u7a0 (.ret false)<|
  .cal g_ContainsFunc_Half_i_DoorOk_1.c (x0.halves,x0,()) fun c8=>
  .ret (!c8),
 fun(x0,_) hp=>by
  refine Tr.B (Q':=fun w=>(w.1=false→0≤x0.keys.epoch∧x0.keys.epoch≤4294967295∧x0.table.conns.length≤16∧x0.table.waiting.length≤16∧x0.halves.length≤64)) (Tr.C trivial fun _ _ _=>Tr.I (fun _=>Tr.R ?_) fun _=>Tr.C trivial fun _ _ _=>Tr.I (fun _=>Tr.R ?_) fun _=>Tr.C ?_ fun _ _ _=>Tr.I (fun _=>Tr.R ?_) fun _=>Tr.C ?_ fun _ _ _=>Tr.I (fun _=>Tr.R ?_) fun _=>Tr.C ?_ fun _ _ _=>Tr.I (fun _=>Tr.R ?_) fun _=>Tr.I (fun _=>Tr.R ?_) fun _=>Tr.V fun _ _=>Tr.R ?_) (fun(u7a0,_) _ _=>Tr.I (fun _=>Tr.R ?_) fun _=>Tr.C ?_ fun _ _ _=>Tr.R ?_)
  all_goals ((try simp only[Tr.nice,letK]at*)<;>grind)⟩
noncomputable def i_DoorOk_e:=entT st i_DoorOk_x i_DoorOk_o [] (ks:=[.st .door]) i_DoorOk (fun v=>[(false,[.c (.bool v)])]) Tryz.func18 trivial fun _=>by kernel_rfl
noncomputable def i_SynIn_o:List (Ent1 Tryz.prog):=[i_cloneDoor_e,i_DoorOk_e,i_TupleOk_e,i_SegmentOk_e,i_SynAck_e,i_FindHalf_e,i_FindConn_e,i_KeptOptions_e,i_PutHalf_e]
noncomputable def i_SynIn_x:Fx:=⟨86,Tryz.f86,[(3000002,rA 0 25)],0⟩
noncomputable def i_SynIn:FT (Door×Tupl×Segm×Unit) (Door×List Segm) (fun x=>sm_door x.1∧sm_segm x.2.2.1) (fun x v=>sm_door v.1∧sL sm_segm v.2∧v.1.table.conns.length=x.1.table.conns.length):=⟨fun(x0,x1,x2,_)=>
  .cal i_cloneDoor.c (x0,()) fun c1=>
  .bnd (β:=Bool×Unit) (.cal i_DoorOk.c (x0,()) fun c2=>
   .ite (!c2) (.ret (true,()))<|
   .cal i_TupleOk.c (x1,()) fun c3=>
   .ite (!c3) (.ret (true,()))<|
   .cal i_SegmentOk.c (x2,()) fun c4=>
   .ret ((!c4),())) fun(u5a0,_)=>
  .ite u5a0 (.ret (c1,[]))<|
  .cal i_SynAck.c (x0,x1,x2,()) fun c6=>
  .cal i_FindHalf.c (x0.halves,x1,()) fun c7=>
  .ite (decide (0≤c7)) (.grd ((decide (0≤c7))&&(decide (c7<(x0.halves.length:Int))))<|
   .ite ((x0.halves.getD c7.toNat (Ty.zero .half)).irs != x2.seq) (.ret (c1,[]))<|
   .grd ((decide (0≤c7))&&(decide (c7<(x0.halves.length:Int))))<|
   .ret (c1,[({c6 with seq:=(x0.halves.getD c7.toNat (Ty.zero .half)).iss}:Segm)]))<|
  .cal i_FindConn.c (x0.table,x1,()) fun c8=>
  .ite (decide (c8<0)) (.val (i_KeptOptions.f (x2.opts,())) fun c9=>
   .cal i_PutHalf.c (x0.halves,(⟨x1,c6.seq,x2.seq,c9,0,x2.window⟩:Half),x0.limits.halves,()) fun c10=>
   .ret (({c1 with halves:=c10.1}:Door),[c6]))<|
  .ret (c1,[c6]),
 fun(x0,x1,x2,_) hp=>by
  refine Tr.C ?_ fun _ _ _=>Tr.B (Q':=fun w=>(w.1=false→x0.table.conns.length≤16∧x2.body.length≤1420)) (Tr.C ?_ fun _ _ _=>Tr.I (fun _=>Tr.R ?_) fun _=>Tr.C trivial fun _ _ _=>Tr.I (fun _=>Tr.R ?_) fun _=>Tr.C trivial fun _ _ _=>Tr.R ?_) (fun(u5a0,_) _ _=>Tr.I (fun _=>Tr.R ?_) fun _=>Tr.C ?_ fun _ _ _=>Tr.C ?_ fun _ _ _=>Tr.I (fun _=>Tr.G2 ?_ fun _=>Tr.I (fun _=>Tr.R ?_) fun _=>Tr.G2 ?_ fun _=>Tr.R ?_) fun _=>Tr.C ?_ fun _ _ _=>Tr.I (fun _=>Tr.V fun _ _=>Tr.C ?_ fun _ _ _=>Tr.R ?_) fun _=>Tr.R ?_)
  all_goals ((try simp only[Tr.nice,letK]at*)<;>grind)⟩
noncomputable def i_SynIn_e:=entT st i_SynIn_x i_SynIn_o [] (ks:=[.st .door,.st .tupl,.st .segm]) i_SynIn (fun v=>[(true,q_door (.o true) (.o true) (.o true) (.o true) (.o true) v.1),(false,[sc (.o true) .segm v.2])]) Tryz.func86 trivial fun _=>by kernel_rfl
noncomputable def s_l1PickInt:FT (Curs×List Int×Unit) (Int×Curs) (fun x=>sm_curs x.1∧sS x.2.1∧0<x.2.1.length) (fun x v=>sm_curs v.2):=⟨fun(y0,x1,_)=>
  .cal s_l1Below.c (y0,(x1.length:Int),()) fun c1=>
  .grd ((decide (0≤c1.1))&&(decide (c1.1<(x1.length:Int))))<|
  .ret ((x1.getD c1.1.toNat 0),c1.2),
 fun(y0,x1,_) hp=>by
  refine Tr.C ?_ fun _ _ _=>Tr.G2 ?_ fun _=>Tr.R ?_
  all_goals (grind)⟩
noncomputable def s_l1PickInt_e:=entM st ⟨126,Tryz.f126,[],1⟩ [s_l1Below_e] [] [.wr false [.ptr 0],.sc (.sl .i64)] [.box [.st .curs]] (fun x y=>(y.1.1,x.2.1,())) s_l1PickInt (fun v=>[(false,[.c (.int .i64 v.1)])]) (fun x y v=>((v.2,()),())) Tryz.func126 (by kernel_rfl) trivial fun _ _=>by kernel_rfl
noncomputable def i_AckIn_o:List (Ent1 Tryz.prog):=[i_cloneDoor_e,i_DoorOk_e,i_TupleOk_e,i_SegmentOk_e,i_FindConn_e,i_FindHalf_e,i_SeqAdd_e,i_resets_e,i_ConnNew_e,i_CheckCookie_e,i_LearnedOptions_e,i_PutConn_e,i_Receive_e,i_SetConn_e,i_DropHalf_e]
def i_AckIn_J51_a:An:=⟨⟨[],[],false,0⟩,⟨[3,4,5,6,7,8,9,10,11],[],false,0⟩,⟨[],[]⟩,[(.ret,⟨[(3,false,[.ptr 0 0]),(4,false,[.ptr 1 0]),(5,false,[.ptr 2 0]),(6,false,[.ptr 3 0]),(7,false,[.own 4]),(8,false,[.int .i64]),(9,false,[.ptr 5 0]),(10,false,[.ptr 6 0]),(11,false,[.int .i64])],[.box [.st .door [.sl .arg,.sl .arg,.sl .arg,.sl .arg,.sl .arg]],.box [.st .tupl []],.box [.st .segm []],.box [.st .door [.own 7,.own 8,.own 9,.own 10,.own 11]],.arr .segm false true,.box [.st .door [.own 7,.own 8,.own 9,.own 10,.own 11]],.box [.st .conn [.nil .piec]],.of false true,.of false true,.of false true,.of false true,.of false true]⟩),(.ret,⟨[(3,false,[.ptr 0 0]),(4,false,[.ptr 1 0]),(5,false,[.ptr 2 0]),(6,false,[.ptr 3 0]),(7,false,[.nil]),(8,false,[.int .i64]),(9,false,[.ptr 4 0]),(10,false,[.ptr 5 0]),(11,false,[.int .i64])],[.box [.st .door [.sl .arg,.sl .arg,.sl .arg,.sl .arg,.sl .arg]],.box [.st .tupl []],.box [.st .segm []],.box [.st .door [.own 6,.own 7,.own 8,.own 9,.own 10]],.box [.st .door [.own 6,.own 7,.own 8,.own 9,.own 10]],.box [.st .conn [.nil .piec]],.of false true,.of false true,.of false true,.of false true,.of false true]⟩),(.normal,⟨[(3,false,[.ptr 0 0]),(4,false,[.ptr 1 0]),(5,false,[.ptr 2 0]),(6,false,[.ptr 3 0]),(7,false,[.nil]),(8,false,[.int .i64]),(9,false,[.ptr 4 0]),(10,false,[.ptr 5 0]),(11,false,[.int .i64])],[.box [.st .door [.sl .arg,.sl .arg,.sl .arg,.sl .arg,.sl .arg]],.box [.st .tupl []],.box [.st .segm []],.box [.st .door [.nil .macRow,.nil .macRow,.nil .half,.nil .conn,.nil .tupl]],.box [.st .door [.own 6,.own 7,.own 8,.own 9,.own 10]],.box [.st .conn [.own 11]],.of false true,.of false true,.of false true,.of false true,.of false true,.of false true]⟩)]⟩
noncomputable def i_AckIn_x:Fx:=⟨11,Tryz.f11,[(1000051,i_AckIn_J51_a),(3000002,rA 0 44)],0⟩
noncomputable def i_AckIn:FT (Door×Tupl×Segm×Unit) (Door×List Segm×Int) (fun x=>sm_door x.1∧sm_segm x.2.2.1) (fun x v=>sm_door v.1∧sL sm_segm v.2.1∧x.1.table.conns.length≤v.1.table.conns.length):=⟨fun(x0,x1,x2,_)=>
  .cal i_cloneDoor.c (x0,()) fun c1=>
  .bnd (β:=Bool×Unit) (.cal i_DoorOk.c (x0,()) fun c2=>
   .ite (!c2) (.ret (true,()))<|
   .cal i_TupleOk.c (x1,()) fun c3=>
   .ite (!c3) (.ret (true,()))<|
   .cal i_SegmentOk.c (x2,()) fun c4=>
   .ite (!c4) (.ret (true,()))<|
   .cal i_FindConn.c (x0.table,x1,()) fun c5=>
   .ret ((decide (0≤c5)),())) fun(u6a0,_)=>
  .ite u6a0 (.ret (c1,[],0))<|
  .cal i_FindHalf.c (x0.halves,x1,()) fun c7=>
  .bnd (β:=WT i_AckIn_J51_a.es) (.ite (decide (0≤c7)) (.grd ((decide (0≤c7))&&(decide (c7<(x0.halves.length:Int))))<|
    .val (i_SeqAdd.f ((x0.halves.getD c7.toNat (Ty.zero .half)).iss,1,())) fun c8=>
    .ite (x2.ack != c8) (.cal i_resets.c (x2,()) fun c9=>
     .ret (.inl (0,1,x0,x1,x2,c1,c9,c1,(⟨⟨0,0,0⟩,0,⟨0,[],0,false,false,false⟩,⟨0,[],[],0,false⟩,0,0,⟨0,0,false,false,0,0⟩,0,0⟩:Conn),())))<|
    .val (i_SeqAdd.f ((x0.halves.getD c7.toNat (Ty.zero .half)).irs,1,())) fun c10=>
    .ite (x2.seq != c10) (.ret (.inr (.inl (0,1,x0,x1,x2,c1,c1,(⟨⟨0,0,0⟩,0,⟨0,[],0,false,false,false⟩,⟨0,[],[],0,false⟩,0,0,⟨0,0,false,false,0,0⟩,0,0⟩:Conn),()))))<|
    .cal i_ConnNew.c (x1,(x0.halves.getD c7.toNat (Ty.zero .half)).iss,(x0.halves.getD c7.toNat (Ty.zero .half)).irs,(x0.halves.getD c7.toNat (Ty.zero .half)).opts,x2.window,()) fun c11=>
    .ret (.inr (.inr ((0,1,x0,x1,x2,(⟨0,0,⟨0,⟨false,0,0,[]⟩,⟨false,0,0,[]⟩,false⟩,⟨0,0,0,0⟩,[],⟨[],[]⟩,0⟩:Door),c1,c11,())))))<|
   .val (i_SeqAdd.f (x2.seq,(-1),())) fun c12=>
   .val (i_SeqAdd.f (x2.ack,(-1),())) fun c13=>
   .cal i_CheckCookie.c (x0.keys,x1,c12,c13,()) fun c14=>
   .ite (!c14.2.2) (.cal i_resets.c (x2,()) fun c15=>
    .ret (.inl (0,1,x0,x1,x2,c1,c15,c1,(⟨⟨0,0,0⟩,0,⟨0,[],0,false,false,false⟩,⟨0,[],[],0,false⟩,0,0,⟨0,0,false,false,0,0⟩,0,0⟩:Conn),())))<|
   .cal i_LearnedOptions.c (c14.2.1,x2.opts,()) fun c16=>
   .cal i_ConnNew.c (x1,c13,c12,c16,x2.window,()) fun c17=>
   .ret (.inr (.inr ((0,2,x0,x1,x2,(⟨0,0,⟨0,⟨false,0,0,[]⟩,⟨false,0,0,[]⟩,false⟩,⟨0,0,0,0⟩,[],⟨[],[]⟩,0⟩:Door),c1,c17,()))))) fun w18=> .sum w18 (fun(u18a0,_,_,_,_,u18a5,u18a6,_,_,_)=>
  .ret (u18a5,u18a6,u18a0))<|
  fun w18=> .sum w18 (fun(u18b0,_,_,_,_,u18b5,_,_,_)=>
  .ret (u18b5,[],u18b0))<|
  fun(_,u18c1,u18c2,u18c3,u18c4,_,u18c6,u18c7,_)=>
  .cal i_PutConn.c (u18c2.table,u18c7,u18c2.limits,()) fun c19=>
  .ite (!c19.2) (.ret (u18c6,[],0))<|
  .cal i_Receive.c (u18c7,u18c4,()) fun c20=>
  .cal i_SetConn.c (c19.1,c20.1,()) fun c21=>
  .cal i_DropHalf.c (u18c2.halves,u18c3,()) fun c22=>
  .ret (({u18c6 with halves:=c22,table.conns:=c21.conns,table.waiting:=c21.waiting}:Door),c20.2.1,u18c1),
 fun(x0,x1,x2,_) hp=>by
  refine Tr.C ?_ fun c1 hc1 qc1=>Tr.B (Q':=fun w=>(w.1=false→x0.table.conns.length≤16∧x2.body.length≤1420)) (Tr.C ?_ fun c2 hc2 qc2=>Tr.I (fun b0=>Tr.R ?_) fun b0=>Tr.C trivial fun c3 hc3 qc3=>Tr.I (fun b1=>Tr.R ?_) fun b1=>Tr.C trivial fun c4 hc4 qc4=>Tr.I (fun b2=>Tr.R ?_) fun b2=>Tr.C ?_ fun c5 hc5 qc5=>Tr.R ?_) (fun(u6a0,_) hj6 qj6=>Tr.I (fun b0=>Tr.R ?_) fun b0=>Tr.C ?_ fun c7 hc7 qc7=>Tr.B (Q':=(Sum.elim (fun w=>sm_door w.2.2.1∧sm_segm w.2.2.2.2.1∧sm_door w.2.2.2.2.2.1∧sL sm_segm w.2.2.2.2.2.2.1∧sm_door w.2.2.2.2.2.2.2.1∧sm_conn w.2.2.2.2.2.2.2.2.1∧x0.table.conns.length≤w.2.2.2.2.2.1.table.conns.length) (Sum.elim (fun w=>sm_door w.2.2.1∧sm_segm w.2.2.2.2.1∧sm_door w.2.2.2.2.2.1∧sm_door w.2.2.2.2.2.2.1∧sm_conn w.2.2.2.2.2.2.2.1∧x0.table.conns.length≤w.2.2.2.2.2.1.table.conns.length) (fun w=>sm_door w.2.2.1∧sm_segm w.2.2.2.2.1∧sm_door w.2.2.2.2.2.1∧sm_door w.2.2.2.2.2.2.1∧sm_conn w.2.2.2.2.2.2.2.1∧w.2.2.1=x0∧x0.table.conns.length≤w.2.2.2.2.2.2.1.table.conns.length)))) (Tr.I (fun b1=>Tr.G2 ?_ fun g2=>Tr.V fun c8 hc8=>Tr.I (fun b3=>Tr.C ?_ fun c9 hc9 qc9=>Tr.R ?_) fun b3=>Tr.V fun c10 hc10=>Tr.I (fun b4=>Tr.R ?_) fun b4=>Tr.C trivial fun c11 hc11 qc11=>Tr.R ?_) fun b1=>Tr.V fun c12 hc12=>Tr.V fun c13 hc13=>Tr.C ?_ fun c14 hc14 qc14=>Tr.I (fun b2=>Tr.C ?_ fun c15 hc15 qc15=>Tr.R ?_) fun b2=>Tr.C trivial fun c16 hc16 qc16=>Tr.C trivial fun c17 hc17 qc17=>Tr.R ?_) (fun _ _ q18=>Tr.E q18 (fun(u18a0,u18a1,u18a2,u18a3,u18a4,u18a5,u18a6,u18a7,u18a8,_) _=>Tr.R ?_) (fun _ q18=>Tr.E q18 (fun(u18b0,u18b1,u18b2,u18b3,u18b4,u18b5,u18b6,u18b7,_) _=>Tr.R ?_) (fun(u18c0,u18c1,u18c2,u18c3,u18c4,u18c5,u18c6,u18c7,_) _=>Tr.C ?_ fun c19 hc19 qc19=>Tr.I (fun b1=>Tr.R ?_) fun b1=>Tr.C ?_ fun c20 hc20 qc20=>Tr.C ?_ fun c21 hc21 qc21=>Tr.C ?_ fun c22 hc22 qc22=>Tr.R ?_))))
  all_goals ((try simp only[Tr.nice,letK]at*)<;>grind)⟩
noncomputable def i_AckIn_e:=entT st i_AckIn_x i_AckIn_o [] (ks:=[.st .door,.st .tupl,.st .segm]) i_AckIn (fun v=>[(true,q_door (.o true) (.o true) (.o true) (.o true) (.o true) v.1),(false,[sc (.o true) .segm v.2.1]),(false,[.c (.int .i64 v.2.2)])]) Tryz.func11 trivial fun _=>by kernel_rfl
noncomputable def i_SegIn_o:List (Ent1 Tryz.prog):=[i_cloneDoor_e,i_DoorOk_e,i_WordOk_e,i_SegmentOk_e,i_TupleOf_e,i_resets_e,i_FindConn_e,i_Receive_e,i_SetConn_e,i_Has_e,i_FindHalf_e,i_SeqAdd_e,i_DropHalf_e,i_SynIn_e,i_AckIn_e]
def i_SegIn_J64_a:An:=⟨⟨[],[],false,0⟩,⟨[3,6,7,8,9,12,13],[],false,0⟩,⟨[],[]⟩,[(.normal,⟨[(3,false,[.ptr 0 0]),(6,false,[.ptr 1 0]),(7,false,[.nil]),(8,false,[.int .i64]),(9,false,[.ptr 2 0]),(12,false,[.ptr 3 0]),(13,false,[.nil])],[.box [.st .door [.sl .arg,.sl .arg,.sl .arg,.sl .arg,.sl .arg]],.box [.st .door [.nil .macRow,.nil .macRow,.nil .half,.nil .conn,.nil .tupl]],.box [.st .door [.own 4,.own 5,.own 6,.own 7,.own 8]],.box [.st .conn [.own 9]],.of false true,.of false true,.of false true,.of false true,.of false true,.of false true]⟩),(.normal,⟨[(3,false,[.ptr 0 0]),(6,false,[.ptr 1 0]),(7,false,[.nil]),(8,false,[.int .i64]),(9,false,[.ptr 2 0]),(12,false,[.ptr 3 0]),(13,false,[.own 4])],[.box [.st .door [.sl .arg,.sl .arg,.sl .arg,.sl .arg,.sl .arg]],.box [.st .door [.nil .macRow,.nil .macRow,.nil .half,.nil .conn,.nil .tupl]],.box [.st .door [.own 5,.own 6,.own 7,.own 8,.own 9]],.box [.st .conn [.own 10]],.arr .segm false true,.of false true,.of false true,.of false true,.of false true,.of false true,.of false true]⟩)]⟩
noncomputable def i_SegIn_x:Fx:=⟨22,Tryz.f22,[(1000064,i_SegIn_J64_a),(3000002,rA 0 32),(3000018,rA 0 102),(3000021,rA 0 109),(3000024,rA 0 131)],0⟩
noncomputable def i_SegIn:FT (Door×Int×Segm×Unit) (Door×List Segm×Int) (fun x=>sm_door x.1∧sm_segm x.2.2.1) (fun x v=>sm_door v.1∧sL sm_segm v.2.1∧x.1.table.conns.length≤v.1.table.conns.length):=⟨fun(x0,x1,x2,_)=>
  .cal i_cloneDoor.c (x0,()) fun c1=>
  .bnd (β:=Bool×Unit) (.cal i_DoorOk.c (x0,()) fun c2=>
   .ite (!c2) (.ret (true,()))<|
   .cal i_WordOk.c (x1,32,()) fun c3=>
   .ite (!c3) (.ret (true,()))<|
   .cal i_SegmentOk.c (x2,()) fun c4=>
   .ret ((!c4),())) fun(u5a0,_)=>
  .ite u5a0 (.ret (c1,[],0))<|
  .val (i_TupleOf.f (x1,x2,())) fun c6=>
  .ite (x2.to != x0.port) (.cal i_resets.c (x2,()) fun c7=>
   .ret (c1,c7,0))<|
  .cal i_FindConn.c (x0.table,c6,()) fun c8=>
  .ite (decide (0≤c8)) (.grd ((decide (0≤c8))&&(decide (c8<(x0.table.conns.length:Int))))<|
   .cal i_Receive.c ((x0.table.conns.getD c8.toNat (Ty.zero .conn)),x2,()) fun c9=>
   .bnd (β:=WT i_SegIn_J64_a.es) (.ite (c9.2.2==3) (.ite (x0.chal==x0.limits.chal) (.ret (.inl (0,x0,(⟨0,0,⟨0,⟨false,0,0,[]⟩,⟨false,0,0,[]⟩,false⟩,⟨0,0,0,0⟩,[],⟨[],[]⟩,0⟩:Door),c1,c9.1,())))<|
     .ret (.inr ((0,x0,(⟨0,0,⟨0,⟨false,0,0,[]⟩,⟨false,0,0,[]⟩,false⟩,⟨0,0,0,0⟩,[],⟨[],[]⟩,0⟩:Door),({c1 with chal:=(IntKind.wrap .i64 (c1.chal+1))}:Door),c9.1,c9.2.1,()))))<|
    .ret (.inr ((0,x0,(⟨0,0,⟨0,⟨false,0,0,[]⟩,⟨false,0,0,[]⟩,false⟩,⟨0,0,0,0⟩,[],⟨[],[]⟩,0⟩:Door),c1,c9.1,c9.2.1,())))) fun w10=> .sum w10 (fun(_,u10a1,_,u10a3,u10a4,_)=>
   .cal i_SetConn.c (u10a1.table,u10a4,()) fun c11=>
   .ret (({u10a3 with table.conns:=c11.conns,table.waiting:=c11.waiting}:Door),[],0))<|
   fun(_,u10b1,_,u10b3,u10b4,u10b5,_)=>
   .cal i_SetConn.c (u10b1.table,u10b4,()) fun c12=>
   .ret (({u10b3 with table.conns:=c12.conns,table.waiting:=c12.waiting}:Door),u10b5,0))<|
  .val (i_Has.f (x2,4,())) fun c13=>
  .ite c13 (.cal i_FindHalf.c (x0.halves,c6,()) fun c14=>
   .bnd (β:=Bool×Unit) (.ite (decide (0≤c14)) (.grd ((decide (0≤c14))&&(decide (c14<(x0.halves.length:Int))))<|
     .val (i_SeqAdd.f ((x0.halves.getD c14.toNat (Ty.zero .half)).irs,1,())) fun c15=>
     .ret ((x2.seq==c15),()))<|
    .ret (false,())) fun(u16a0,_)=>
   .ite u16a0 (.cal i_DropHalf.c (x0.halves,c6,()) fun c17=>
    .ret (({c1 with halves:=c17}:Door),[],0))<|
   .ret (c1,[],0))<|
  .bnd (β:=Bool×Unit) (.val (i_Has.f (x2,2,())) fun c18=>
   .ite c18 (.val (i_Has.f (x2,16,())) fun c19=>
    .ite (!c19) (.val (i_Has.f (x2,1,())) fun c20=>
     .ret ((!c20),()))<|
    .ret (false,()))<|
   .ret (false,())) fun(u21a0,_)=>
  .ite u21a0 (.cal i_SynIn.c (x0,c6,x2,()) fun c22=>
   .ret (c22.1,c22.2,0))<|
  .bnd (β:=Bool×Unit) (.val (i_Has.f (x2,16,())) fun c23=>
   .ite c23 (.val (i_Has.f (x2,2,())) fun c24=>
    .ret ((!c24),()))<|
   .ret (false,())) fun(u25a0,_)=>
  .ite u25a0 (.cal i_AckIn.c (x0,c6,x2,()) fun c26=>
   .ret (c26.1,c26.2.1,c26.2.2))<|
  .val (i_Has.f (x2,16,())) fun c27=>
  .ite c27 (.cal i_resets.c (x2,()) fun c28=>
   .ret (c1,c28,0))<|
  .ret (c1,[],0),
 fun(x0,x1,x2,_) hp=>by
  refine Tr.C ?_ fun c1 hc1 qc1=>Tr.B (Q':=fun w=>(w.1=false→x0.table.conns.length≤16∧x2.body.length≤1420)) (Tr.C ?_ fun c2 hc2 qc2=>Tr.I (fun b0=>Tr.R ?_) fun b0=>Tr.C trivial fun c3 hc3 qc3=>Tr.I (fun b1=>Tr.R ?_) fun b1=>Tr.C trivial fun c4 hc4 qc4=>Tr.R ?_) (fun(u5a0,_) hj5 qj5=>Tr.I (fun b0=>Tr.R ?_) fun b0=>Tr.V fun c6 hc6=>Tr.I (fun b1=>Tr.C ?_ fun c7 hc7 qc7=>Tr.R ?_) fun b1=>Tr.C ?_ fun c8 hc8 qc8=>Tr.I (fun b2=>Tr.G2 ?_ fun g3=>Tr.C ?_ fun c9 hc9 qc9=>Tr.B (Q':=(Sum.elim (fun w=>sm_door w.2.1∧sm_door w.2.2.1∧sm_door w.2.2.2.1∧sm_conn w.2.2.2.2.1∧w.2.1=x0) (fun w=>sm_door w.2.1∧sm_door w.2.2.1∧sm_door w.2.2.2.1∧sm_conn w.2.2.2.2.1∧sL sm_segm w.2.2.2.2.2.1∧w.2.1=x0))) (Tr.I (fun b4=>Tr.I (fun b5=>Tr.R ?_) fun b5=>Tr.R ?_) fun b4=>Tr.R ?_) (fun _ _ q10=>Tr.E q10 (fun(u10a0,u10a1,u10a2,u10a3,u10a4,_) _=>Tr.C ?_ fun c11 hc11 qc11=>Tr.R ?_) (fun(u10b0,u10b1,u10b2,u10b3,u10b4,u10b5,_) _=>Tr.C ?_ fun c12 hc12 qc12=>Tr.R ?_))) fun b2=>Tr.V fun c13 hc13=>Tr.I (fun b3=>Tr.C ?_ fun c14 hc14 qc14=>Tr.B (Q':=fun _=>True) (Tr.I (fun b4=>Tr.G2 ?_ fun g5=>Tr.F (by kernel_rfl) trivial) fun b4=>Tr.R trivial) (fun(u16a0,_) hj16 qj16=>Tr.I (fun b4=>Tr.C ?_ fun c17 hc17 qc17=>Tr.R ?_) fun b4=>Tr.R ?_)) fun b3=>Tr.B (Q':=fun _=>True) (Tr.F (by kernel_rfl) trivial) (fun(u21a0,_) hj21 qj21=>Tr.I (fun b4=>Tr.C ?_ fun c22 hc22 qc22=>Tr.R ?_) fun b4=>Tr.B (Q':=fun _=>True) (Tr.F (by kernel_rfl) trivial) (fun(u25a0,_) hj25 qj25=>Tr.I (fun b5=>Tr.C ?_ fun c26 hc26 qc26=>Tr.R ?_) fun b5=>Tr.V fun c27 hc27=>Tr.I (fun b6=>Tr.C ?_ fun c28 hc28 qc28=>Tr.R ?_) fun b6=>Tr.R ?_)))
  all_goals ((try simp only[Tr.nice,letK]at*)<;>grind)⟩
noncomputable def i_SegIn_e:=entT st i_SegIn_x i_SegIn_o [] (ks:=[.st .door,.sc (.int .i64),.st .segm]) i_SegIn (fun v=>[(true,q_door (.o true) (.o true) (.o true) (.o true) (.o true) v.1),(false,[sc (.o true) .segm v.2.1]),(false,[.c (.int .i64 v.2.2)])]) Tryz.func22 trivial fun _=>by kernel_rfl
noncomputable def s_l2Deep_o:List (Ent1 Tryz.prog):=[s_l1Once_e,s_l1PickInt_e,s_l1Byte_e]
def s_l2Deep_L0_h:Sh:=⟨[(0,false,[.ptr 0 0]),(3,false,[.int .i64]),(4,false,[.int .i64])],[.box [.st .curs [.sl .any]]]⟩
noncomputable def s_l2Deep_x:Fx:=⟨121,Tryz.f121,[(0,la ⟨[0,3,4],[],false,1⟩ ⟨[2,3],[],false,1⟩)],1⟩
noncomputable def s_l2Deep_L0_T (v1:Int)(a:Int×Curs):Tr (Stp (Int×Curs) (Empty)):=
 .cal s_l1Byte.c (a.2,()) fun c3=>
 .ret (.next ((IntKind.wrap .i64 ((IntKind.wrap .i64 (256*a.1))+c3.1)),c3.2))
noncomputable def s_l2Deep_L0_d:s_l2Deep_L0_h.V→LC s_l2Deep_L0_h (Int×Curs) (Empty) (Int×(Int×Curs)):=fun(v0,v1,v2,_)=>⟨v1,(v0,v2),fun v1 a=>(a.1,v1,a.2,()),fun v1 _=>(decide (v1<4)),s_l2Deep_L0_T,up,1,(Int.toNat (4-v1)),(fun p=>Empty.elim p),fun i a=>(i,a),fun _ k x=>k (.exit 0) (Sh.enc ⟨[(2,false,[.undef]),(3,false,[.int .i64])],[.box [.st .curs [.sl .any]]]⟩ (x.2.1,x.2.2,()))⟩
theorem s_l2Deep_L0_s:LS Tryz.prog s_l2Deep_x [0] (leC 0 s_l2Deep_L0_h s_l2Deep_L0_d):=loopC st (orcOf_ok s_l2Deep_o) _ s_l2Deep_L0_d [] trivial (by kernel_rfl) (fun _=>by kernel_rfl) fun _ _ _ _ _ _=>by kernel_rfl
theorem s_l2Deep_L0_k {v0 v1:Int}{v2:Curs}(h0:0≤v1)(h1:sm_curs v2):(s_l2Deep_L0_d (v0,v1,v2,())).U 4 (fun v1 a=>sm_curs a.2) (fun _=>True):=
 LC.okU (i:=v1) (a:=(v0,v2)) (fun _ _=>rfl) (fun _=>rfl) rfl h0 (by decide) h1 fun v1 (v0,v2) hj hk hv=>by
  refine Tr.C ?_ fun _ _ _=>Tr.Rn ?_
  all_goals (grind)
noncomputable def s_l2Deep:FT (Curs×Unit) (Int×Curs) (fun x=>sm_curs x.1) (fun x v=>sm_curs v.2):=⟨fun(y0,_)=>
  .cal s_l1Once.c (y0,3,()) fun c1=>
  .ite c1.1 (.cal s_l1PickInt.c (c1.2,[0,1,4294967295,2147483647,2147483648,4294967294],()) fun c2=>
   .ret (c2.1,c2.2))<|
  .lp (s_l2Deep_L0_d (0,0,c1.2,())).lp fun(_,a4_0,a4_1)=>
  .ret (a4_0,a4_1),
 fun(y0,_) hp=>by
  refine Tr.C ?_ fun _ _ _=>Tr.I (fun _=>Tr.C ?_ fun _ _ _=>Tr.R ?_) fun _=>Tr.L (s_l2Deep_L0_k ?_ ?_) (fun(a4_0,a4_1) _=>Tr.R ?_) (fun p=>Empty.elim p)
  all_goals ((try simp only[s_l2Deep_L0_d,LC.lp,LC.ct,Ct.lp]at*)<;>grind)⟩
noncomputable def s_l2Deep_e:=entM st s_l2Deep_x s_l2Deep_o [(leC 0 s_l2Deep_L0_h s_l2Deep_L0_d)] [.wr false [.ptr 0]] [.box [.st .curs]] (fun x y=>(y.1.1,())) s_l2Deep (fun v=>[(false,[.c (.int .i64 v.1)])]) (fun x y v=>((v.2,()),())) Tryz.func121 (by kernel_rfl) ⟨s_l2Deep_L0_s,trivial⟩ fun _ _=>by kernel_rfl
noncomputable def s_l8Options_o:List (Ent1 Tryz.prog):=[s_NoOptions_e,s_l1Once_e,s_l1PickInt_e,s_l1Below_e,s_l2Deep_e]
def s_l8Options_J7_a:An:=⟨⟨[],[],false,1⟩,⟨[0,2,3],[],false,1⟩,⟨[],[]⟩,[(.normal,⟨[(0,false,[.ptr 0 0]),(2,false,[.ptr 1 0]),(3,false,[.ptr 2 0])],[.box [.st .curs [.sl .any]],.box [.st .opti []],.box [.st .opti []]]⟩)]⟩
def s_l8Options_J13_a:An:=⟨⟨[],[],false,1⟩,⟨[0,2,3],[],false,1⟩,⟨[],[]⟩,[(.normal,⟨[(0,false,[.ptr 0 0]),(2,false,[.ptr 1 0]),(3,false,[.ptr 2 0])],[.box [.st .curs [.sl .any]],.box [.st .opti []],.box [.st .opti []]]⟩)]⟩
noncomputable def s_l8Options_x:Fx:=⟨209,Tryz.f209,[(1000007,s_l8Options_J7_a),(1000013,s_l8Options_J13_a)],1⟩
noncomputable def s_l8Options:FT (Curs×Unit) (Opti×Curs) (fun x=>sm_curs x.1) (fun x v=>sm_curs v.2):=⟨fun(y0,_)=>
  .val (s_NoOptions.f (())) fun c1=>
  .cal s_l1Once.c (y0,3,()) fun c2=>
  .bnd (β:=Curs×Opti×Opti×Unit) (.ite (!c2.1) (.cal s_l1PickInt.c (c2.2,[536,1460,1300,64,65535,1],()) fun c3=>
    .ret (c3.2,(⟨0,0,false,false,0,0⟩:Opti),({c1 with mss:=c3.1}:Opti),()))<|
   .ret (c2.2,(⟨0,0,false,false,0,0⟩:Opti),c1,())) fun(u4a0,u4a1,u4a2,_)=>
  .cal s_l1Once.c (u4a0,2,()) fun c5=>
  .bnd (β:=Curs×Opti×Opti×Unit) (.ite c5.1 (.cal s_l1Below.c (c5.2,15,()) fun c6=>
    .ret (c6.2,u4a1,({u4a2 with scale:=c6.1}:Opti),()))<|
   .ret (c5.2,u4a1,u4a2,())) fun(u7a0,_,u7a2,_)=>
  .cal s_l1Once.c (u7a0,2,()) fun c8=>
  .cal s_l1Once.c (c8.2,2,()) fun c9=>
  .ite c9.1 (.cal s_l2Deep.c (c9.2,()) fun c10=>
   .cal s_l2Deep.c (c10.2,()) fun c11=>
   .ret ((⟨u7a2.mss,u7a2.scale,c8.1,true,c10.1,c11.1⟩:Opti),c11.2))<|
  .ret (({u7a2 with sack:=c8.1}:Opti),c9.2),
 fun(y0,_) hp=>by
  refine Tr.V fun _ _=>Tr.C ?_ fun _ _ _=>Tr.B (Q':=fun w=>sm_curs w.1) (Tr.I (fun _=>Tr.C ?_ fun _ _ _=>Tr.R ?_) fun _=>Tr.R ?_) (fun(u4a0,u4a1,u4a2,_) _ _=>Tr.C ?_ fun _ _ _=>Tr.B (Q':=fun w=>sm_curs w.1) (Tr.I (fun _=>Tr.C ?_ fun _ _ _=>Tr.R ?_) fun _=>Tr.R ?_) (fun(u7a0,u7a1,u7a2,_) _ _=>Tr.C ?_ fun _ _ _=>Tr.C ?_ fun _ _ _=>Tr.I (fun _=>Tr.C ?_ fun _ _ _=>Tr.C ?_ fun _ _ _=>Tr.R ?_) fun _=>Tr.R ?_))
  all_goals ((try simp only[Tr.nice,letK]at*)<;>grind)⟩
noncomputable def s_l8Options_e:=entM st s_l8Options_x s_l8Options_o [] [.wr false [.ptr 0]] [.box [.st .curs]] (fun x y=>(y.1.1,())) s_l8Options (fun v=>[(true,q_opti v.1)]) (fun x y v=>((v.2,()),())) Tryz.func209 (by kernel_rfl) trivial fun _ _=>by kernel_rfl
noncomputable def s_l26Syn:FT (Curs×Unit) (Segm×Curs) (fun x=>sm_curs x.1) (fun x v=>sm_segm v.1∧sm_curs v.2):=⟨fun(y0,_)=>
  .cal s_l1PickInt.c (y0,[40000,40001,40002],()) fun c1=>
  .cal s_l2Deep.c (c1.2,()) fun c2=>
  .cal s_l1PickInt.c (c2.2,[0,64,65535],()) fun c3=>
  .cal s_l8Options.c (c3.2,()) fun c4=>
  .ret ((⟨c1.1,80,c2.1,0,2,c3.1,c4.1,[]⟩:Segm),c4.2),
 fun(y0,_) hp=>by
  refine Tr.C ?_ fun _ _ _=>Tr.C ?_ fun _ _ _=>Tr.C ?_ fun _ _ _=>Tr.C ?_ fun _ _ _=>Tr.R ?_
  all_goals (grind)⟩
noncomputable def s_l26Syn_e:=entM st ⟨119,Tryz.f119,[],1⟩ [s_l1PickInt_e,s_l2Deep_e,s_l8Options_e] [] [.wr false [.ptr 0]] [.box [.st .curs]] (fun x y=>(y.1.1,())) s_l26Syn (fun v=>[(true,q_segm v.1)]) (fun x y v=>((v.2,()),())) Tryz.func119 (by kernel_rfl) trivial fun _ _=>by kernel_rfl
noncomputable def s_l1Bytes_o:List (Ent1 Tryz.prog):=[s_l1Byte_e]
def s_l1Bytes_L0_h:Sh:=⟨[(0,false,[.ptr 0 0]),(1,false,[.int .i64]),(5,false,[.own 1]),(6,false,[.int .i64])],[.box [.st .curs [.sl .any]],.arr .u8 false true]⟩
noncomputable def s_l1Bytes_x:Fx:=⟨128,Tryz.f128,[(0,la ⟨[0,1,5,6],[.softo 0 0],false,1⟩ ⟨[4,5],[],false,1⟩)],1⟩
noncomputable def s_l1Bytes_L0_T (v1:Int)(a:Curs×List Int):Tr (Stp (Curs×List Int) (Empty)):=
 .cal s_l1Byte.c (a.1,()) fun c2=>
 .grd (Nat.ble ((2*(a.2.length+1)+1024)*1) maxSl)<|
 .ret (.next (c2.2,(a.2++[(IntKind.wrap .u8 c2.1)])))
noncomputable def s_l1Bytes_L0_d:s_l1Bytes_L0_h.V→LC s_l1Bytes_L0_h (Curs×List Int) (Empty) (Int×(Curs×List Int)):=fun(v0,v1,v2,v3,_)=>⟨v1,(v2,v3),fun v1 a=>(v0,v1,a.1,a.2,()),fun v1 _=>(decide (v1<v0)),s_l1Bytes_L0_T,up,1,(Int.toNat (v0-v1)),(fun p=>Empty.elim p),fun i a=>(i,a),fun _ k x=>k (.exit 0) (Sh.enc ⟨[(4,false,[.undef]),(5,false,[.own 1])],[.box [.st .curs [.sl .any]],.arr .u8 false true]⟩ (x.2.1,x.2.2,()))⟩
theorem s_l1Bytes_L0_s:LS Tryz.prog s_l1Bytes_x [0] (leC 0 s_l1Bytes_L0_h s_l1Bytes_L0_d):=loopC st (orcOf_ok s_l1Bytes_o) _ s_l1Bytes_L0_d [] trivial (by kernel_rfl) (fun _=>by kernel_rfl) fun _ _ _ _ _ _=>by kernel_rfl
theorem s_l1Bytes_L0_k {v0 v1:Int}{v2:Curs}{v3:List Int}(h0:0≤v1)(h1:v0≤4611686018427387904)(h2:v0≤4294967296)(h3:sm_curs v2∧(v3.length:Int)=v1):(s_l1Bytes_L0_d (v0,v1,v2,v3,())).U v0 (fun v1 a=>sm_curs a.1∧(a.2.length:Int)=v1) (fun _=>True):=
 LC.okU (i:=v1) (a:=(v2,v3)) (fun _ _=>rfl) (fun _=>rfl) rfl h0 h1 h3 fun v1 (v2,v3) hj hk hv=>by
  refine Tr.C ?_ fun _ _ _=>Tr.Gb ?_ fun _=>Tr.Rn ?_
  all_goals (grind)
noncomputable def s_l1Bytes:FT (Curs×Int×Unit) (List Int×Curs) (fun x=>sm_curs x.1∧x.2.1≤1048576) (fun x v=>sS v.1∧sm_curs v.2):=⟨fun(y0,x1,_)=>
  .lp (s_l1Bytes_L0_d (x1,0,y0,[],())).lp fun(_,a3_0,a3_1)=>
  .ret (a3_1,a3_0),
 fun(y0,x1,_) hp=>by
  refine Tr.L (s_l1Bytes_L0_k ?_ ?_ ?_ ?_) (fun(a3_0,a3_1) _=>Tr.R ?_) (fun p=>Empty.elim p)
  all_goals ((try simp only[s_l1Bytes_L0_d,LC.lp,LC.ct,Ct.lp]at*)<;>grind)⟩
noncomputable def s_l1Bytes_e:=entM st s_l1Bytes_x s_l1Bytes_o [(leC 0 s_l1Bytes_L0_h s_l1Bytes_L0_d)] [.wr false [.ptr 0],.sc (.int .i64)] [.box [.st .curs]] (fun x y=>(y.1.1,x.2.1,())) s_l1Bytes (fun v=>[(false,[sc (.o true) .u8 v.1])]) (fun x y v=>((v.2,()),())) Tryz.func128 (by kernel_rfl) ⟨s_l1Bytes_L0_s,trivial⟩ fun _ _=>by kernel_rfl
noncomputable def s_l1Whole:FT (Curs×Unit) (Int×Curs) (fun x=>sm_curs x.1) (fun x v=>sm_curs v.2):=⟨fun(y0,_)=>
  .cal s_l1Below.c (y0,3,()) fun c1=>
  .ite (c1.1==0) (.cal s_l1PickInt.c (c1.2,[0,1,(-1),9,10,999999999999,1000000000000,9223372036854775807,4294967295,4294967296,65535,65536,(-9223372036854775808)],()) fun c2=>
   .ret (c2.1,c2.2))<|
  .ite (c1.1==1) (.cal s_l1Below.c (c1.2,1000000,()) fun c3=>
   .ret ((IntKind.wrap .i64 (c3.1-500000)),c3.2))<|
  .cal s_l1Below.c (c1.2,20,()) fun c4=>
  .ret (c4.1,c4.2),
 fun(y0,_) hp=>by
  refine Tr.C ?_ fun _ _ _=>Tr.I (fun _=>Tr.C ?_ fun _ _ _=>Tr.R ?_) fun _=>Tr.I (fun _=>Tr.C ?_ fun _ _ _=>Tr.R ?_) fun _=>Tr.C ?_ fun _ _ _=>Tr.R ?_
  all_goals (first|grind|(simp only[sS,List.length_cons,List.length_nil];grind))⟩
noncomputable def s_l1Whole_e:=entM st ⟨280,Tryz.f280,[],1⟩ [s_l1Below_e,s_l1PickInt_e] [] [.wr false [.ptr 0]] [.box [.st .curs]] (fun x y=>(y.1.1,())) s_l1Whole (fun v=>[(false,[.c (.int .i64 v.1)])]) (fun x y v=>((v.2,()),())) Tryz.func280 (by kernel_rfl) trivial fun _ _=>by kernel_rfl
noncomputable def s_l4Place:FT (Curs×Unit) (Int×Curs) (fun x=>sm_curs x.1) (fun x v=>sm_curs v.2):=⟨fun(y0,_)=>
  .cal s_l1Once.c (y0,12,()) fun c1=>
  .ite c1.1 (.cal s_l1Whole.c (c1.2,()) fun c2=>
   .ret (c2.1,c2.2))<|
  .cal s_l2Deep.c (c1.2,()) fun c3=>
  .ret (c3.1,c3.2),
 fun(y0,_) hp=>by
  refine Tr.C ?_ fun _ _ _=>Tr.I (fun _=>Tr.C ?_ fun _ _ _=>Tr.R ?_) fun _=>Tr.C ?_ fun _ _ _=>Tr.R ?_
  all_goals (grind)⟩
noncomputable def s_l4Place_e:=entM st ⟨217,Tryz.f217,[],1⟩ [s_l1Once_e,s_l1Whole_e,s_l2Deep_e] [] [.wr false [.ptr 0]] [.box [.st .curs]] (fun x y=>(y.1.1,())) s_l4Place (fun v=>[(false,[.c (.int .i64 v.1)])]) (fun x y v=>((v.2,()),())) Tryz.func217 (by kernel_rfl) trivial fun _ _=>by kernel_rfl
noncomputable def s_l4Near:FT (Curs×Int×Unit) (Int×Curs) (fun x=>sm_curs x.1) (fun x v=>sm_curs v.2):=⟨fun(y0,x1,_)=>
  .cal s_l1Below.c (y0,4,()) fun c1=>
  .ite (c1.1==0) (.cal s_l4Place.c (c1.2,()) fun c2=>
   .ret (c2.1,c2.2))<|
  .ite (c1.1==1) (.cal s_l1PickInt.c (c1.2,[2147483647,2147483648,(-1),1,0],()) fun c3=>
   .val (s_SeqAdd.f (x1,c3.1,())) fun c4=>
   .ret (c4,c3.2))<|
  .cal s_l1Below.c (c1.2,41,()) fun c5=>
  .val (s_SeqAdd.f (x1,(IntKind.wrap .i64 (c5.1-20)),())) fun c6=>
  .ret (c6,c5.2),
 fun(y0,x1,_) hp=>by
  refine Tr.C ?_ fun _ _ _=>Tr.I (fun _=>Tr.C ?_ fun _ _ _=>Tr.R ?_) fun _=>Tr.I (fun _=>Tr.C ?_ fun _ _ _=>Tr.V fun _ _=>Tr.R ?_) fun _=>Tr.C ?_ fun _ _ _=>Tr.V fun _ _=>Tr.R ?_
  all_goals (grind)⟩
noncomputable def s_l4Near_e:=entM st ⟨129,Tryz.f129,[],1⟩ [s_l1Below_e,s_l4Place_e,s_l1PickInt_e,s_SeqAdd_e] [] [.wr false [.ptr 0],.sc (.int .i64)] [.box [.st .curs]] (fun x y=>(y.1.1,x.2.1,())) s_l4Near (fun v=>[(false,[.c (.int .i64 v.1)])]) (fun x y v=>((v.2,()),())) Tryz.func129 (by kernel_rfl) trivial fun _ _=>by kernel_rfl
noncomputable def s_l26Ack_o:List (Ent1 Tryz.prog):=[s_SeqAdd_e,s_l1PickInt_e,s_NoOptions_e,s_l1Below_e,s_l1Bytes_e,s_l1Once_e,s_l4Near_e,s_l4Rest_e]
def s_l26Ack_J35_a:An:=⟨⟨[],[],false,1⟩,⟨[0,6,7],[],false,1⟩,⟨[],[]⟩,[(.normal,⟨[(0,false,[.ptr 0 0]),(6,false,[.ptr 1 0]),(7,false,[.ptr 2 0])],[.box [.st .curs [.sl .any]],.box [.st .segm []],.box [.st .segm []]]⟩)]⟩
noncomputable def s_l26Ack_x:Fx:=⟨46,Tryz.f46,[(1000035,s_l26Ack_J35_a)],1⟩
noncomputable def s_l26Ack:FT (Curs×Segm×Segm×Unit) (Segm×Curs) (fun x=>sm_curs x.1∧sm_segm x.2.1∧sm_segm x.2.2.1) (fun x v=>sm_segm v.1∧sm_curs v.2):=⟨fun(y0,x1,x2,_)=>
  .val (s_SeqAdd.f (x1.seq,1,())) fun c1=>
  .val (s_SeqAdd.f (x2.seq,1,())) fun c2=>
  .cal s_l1PickInt.c (y0,[0,9,65535],()) fun c3=>
  .val (s_NoOptions.f (())) fun c4=>
  .cal s_l1Below.c (c3.2,3,()) fun c5=>
  .cal s_l1Bytes.c (c5.2,c5.1,()) fun c6=>
  .ite x2.opts.stamp (.cal s_l1Once.c (c6.2,6,()) fun c7=>
   .bnd (β:=Curs×Segm×Segm×Unit) (.ite (!c7.1) (.val (s_SeqAdd.f (x1.opts.val,1,())) fun c8=>
     .ret (c7.2,(⟨0,0,0,0,0,0,⟨0,0,false,false,0,0⟩,[]⟩:Segm),(⟨x1.from_,x1.to,c1,c2,16,c3.1,⟨c4.mss,c4.scale,c4.sack,true,c8,x2.opts.val⟩,(toBytes c6.1)⟩:Segm),()))<|
    .ret (c7.2,(⟨0,0,0,0,0,0,⟨0,0,false,false,0,0⟩,[]⟩:Segm),(⟨x1.from_,x1.to,c1,c2,16,c3.1,c4,(toBytes c6.1)⟩:Segm),())) fun(u9a0,_,u9a2,_)=>
   .cal s_l1Below.c (u9a0,12,()) fun c10=>
   .ite (c10.1==0) (.cal s_l4Near.c (c10.2,u9a2.ack,()) fun c11=>
    .val (s_l4Rest.f (c11.1,())) fun c12=>
    .ret (({u9a2 with ack:=c12}:Segm),c11.2))<|
   .ite (c10.1==1) (.cal s_l4Near.c (c10.2,u9a2.seq,()) fun c13=>
    .val (s_l4Rest.f (c13.1,())) fun c14=>
    .ret (({u9a2 with seq:=c14}:Segm),c13.2))<|
   .ret (u9a2,c10.2))<|
  .cal s_l1Below.c (c6.2,12,()) fun c15=>
  .ite (c15.1==0) (.cal s_l4Near.c (c15.2,c2,()) fun c16=>
   .val (s_l4Rest.f (c16.1,())) fun c17=>
   .ret ((⟨x1.from_,x1.to,c1,c17,16,c3.1,c4,(toBytes c6.1)⟩:Segm),c16.2))<|
  .ite (c15.1==1) (.cal s_l4Near.c (c15.2,c1,()) fun c18=>
   .val (s_l4Rest.f (c18.1,())) fun c19=>
   .ret ((⟨x1.from_,x1.to,c19,c2,16,c3.1,c4,(toBytes c6.1)⟩:Segm),c18.2))<|
  .ret ((⟨x1.from_,x1.to,c1,c2,16,c3.1,c4,(toBytes c6.1)⟩:Segm),c15.2),
 fun(y0,x1,x2,_) hp=>by
  refine Tr.V fun _ _=>Tr.V fun _ _=>Tr.C ?_ fun _ _ _=>Tr.V fun _ _=>Tr.C ?_ fun _ _ _=>Tr.C ?_ fun _ _ _=>Tr.I (fun _=>Tr.C ?_ fun _ _ _=>Tr.B (Q':=fun w=>sm_curs w.1∧sm_segm w.2.1∧sm_segm w.2.2.1) (Tr.I (fun _=>Tr.V fun _ _=>Tr.R ?_) fun _=>Tr.R ?_) (fun(u9a0,u9a1,u9a2,_) _ _=>Tr.C ?_ fun _ _ _=>Tr.I (fun _=>Tr.C ?_ fun _ _ _=>Tr.V fun _ _=>Tr.R ?_) fun _=>Tr.I (fun _=>Tr.C ?_ fun _ _ _=>Tr.V fun _ _=>Tr.R ?_) fun _=>Tr.R ?_)) fun _=>Tr.C ?_ fun _ _ _=>Tr.I (fun _=>Tr.C ?_ fun _ _ _=>Tr.V fun _ _=>Tr.R ?_) fun _=>Tr.I (fun _=>Tr.C ?_ fun _ _ _=>Tr.V fun _ _=>Tr.R ?_) fun _=>Tr.R ?_
  all_goals ((try simp only[Tr.nice,letK]at*)<;>grind)⟩
noncomputable def s_l26Ack_e:=entM st s_l26Ack_x s_l26Ack_o [] [.wr false [.ptr 0],.st .segm,.st .segm] [.box [.st .curs]] (fun x y=>(y.1.1,x.2.1,x.2.2.1,())) s_l26Ack (fun v=>[(true,q_segm v.1)]) (fun x y v=>((v.2,()),())) Tryz.func46 (by kernel_rfl) trivial fun _ _=>by kernel_rfl
noncomputable def s_l26Door_o:List (Ent1 Tryz.prog):=[s_l1Below_e,s_l26Keys_e,s_l25Limits_e,s_l26Syn_e,s_TupleOf_e,s_FindConn_e,s_SynIn_e,s_l1Once_e,s_l26Ack_e,s_AckIn_e]
def s_l26Door_L0_h:Sh:=⟨[(0,false,[.ptr 0 0]),(2,false,[.ptr 1 0]),(3,false,[.ptr 2 0]),(4,false,[.int .i64]),(5,false,[.int .i64])],[.box [.st .curs [.sl .any]],.box [.st .door [.nil .macRow,.nil .macRow,.nil .half,.nil .conn,.nil .tupl]],.box [.st .door [.own 3,.own 4,.own 5,.own 6,.own 7]],.of false true,.of false true,.of false true,.of false true,.of false true]⟩
noncomputable def s_l26Door_x:Fx:=⟨204,Tryz.f204,[(0,la ⟨[0,2,3,4,5],[.box 3 16 .half,.box 3 17 .conn,.box 3 18 .tupl],false,1⟩ ⟨[2,3],[],false,1⟩)],1⟩
noncomputable def s_l26Door_L0_T (v1:Int)(a:Curs×Door×Door):Tr (Stp (Curs×Door×Door) (Empty)):=
 .cal s_l26Syn.c (a.1,()) fun c13=>
 .cal s_l1Below.c (c13.2,2,()) fun c14=>
 .val (s_TupleOf.f ((IntKind.wrap .i64 (167772162+c14.1)),c13.1,())) fun c15=>
 .cal s_FindConn.c (a.2.2.table,c15,()) fun c16=>
 .ite (decide (0≤c16)) (.ret (.next (c14.2,({a.2.1 with keys.now.rows:=[],keys.before.rows:=[],halves:=[],table.conns:=[],table.waiting:=[]}:Door),a.2.2)))<|
 .cal s_SynIn.c (a.2.2,c15,c13.1,()) fun c17=>
 .ite (decide (0<(c17.2.length:Int))) (.cal s_l1Once.c (c14.2,2,()) fun c18=>
  .ite c18.1 (.grd (decide (0<(c17.2.length:Int)))<|
   .cal s_l26Ack.c (c18.2,c13.1,(c17.2.getD 0 (Ty.zero .segm)),()) fun c19=>
   .cal s_AckIn.c (c17.1,c15,c19.1,()) fun c20=>
   .ret (.next (c19.2,({a.2.1 with keys.now.rows:=[],keys.before.rows:=[],halves:=[],table.conns:=[],table.waiting:=[]}:Door),c20.1)))<|
  .ret (.next (c18.2,({a.2.1 with keys.now.rows:=[],keys.before.rows:=[],halves:=[],table.conns:=[],table.waiting:=[]}:Door),c17.1)))<|
 .ret (.next (c14.2,({a.2.1 with keys.now.rows:=[],keys.before.rows:=[],halves:=[],table.conns:=[],table.waiting:=[]}:Door),c17.1))
noncomputable def s_l26Door_L0_d:s_l26Door_L0_h.V→LC s_l26Door_L0_h (Curs×Door×Door) (Empty) (Int×(Curs×Door×Door)):=fun(v0,v1,v2,v3,v4,_)=>⟨v1,(v2,v3,v4),fun v1 a=>(v0,v1,a.1,a.2.1,a.2.2,()),fun v1 _=>(decide (v1<v0)),s_l26Door_L0_T,up,1,(Int.toNat (v0-v1)),(fun p=>Empty.elim p),fun i a=>(i,a),fun _ k x=>k (.exit 0) (Sh.enc ⟨[(2,false,[.ptr 1 0]),(3,false,[.ptr 2 0])],[.box [.st .curs [.sl .any]],.box [.st .door [.nil .macRow,.nil .macRow,.nil .half,.nil .conn,.nil .tupl]],.box [.st .door [.own 3,.own 4,.own 5,.own 6,.own 7]],.of false true,.of false true,.of false true,.of false true,.of false true]⟩ (x.2.1,({x.2.2.1 with keys.now.rows:=[],keys.before.rows:=[],halves:=[],table.conns:=[],table.waiting:=[]}:Door),x.2.2.2,()))⟩
theorem s_l26Door_L0_s:LS Tryz.prog s_l26Door_x [0] (leC 0 s_l26Door_L0_h s_l26Door_L0_d):=loopC st (orcOf_ok s_l26Door_o) _ s_l26Door_L0_d [] trivial (by kernel_rfl) (fun _=>by kernel_rfl) fun _ _ _ _ _ _=>by kernel_rfl
theorem s_l26Door_L0_k {v0 v1:Int}{v2:Curs}{v3 v4:Door}(h0:0≤v1)(h1:v0≤4611686018427387904)(h2:sm_curs v2∧sm_door v3∧sm_door v4):(s_l26Door_L0_d (v0,v1,v2,v3,v4,())).U v0 (fun v1 a=>sm_curs a.1∧sm_door a.2.1∧sm_door a.2.2) (fun _=>True):=
 LC.okU (i:=v1) (a:=(v2,v3,v4)) (fun _ _=>rfl) (fun _=>rfl) rfl h0 h1 h2 fun v1 (v2,v3,v4) hj hk hv=>by
  refine Tr.C ?_ fun _ _ _=>Tr.C ?_ fun _ _ _=>Tr.V fun _ _=>Tr.C ?_ fun _ _ _=>Tr.I (fun _=>Tr.Rn ?_) fun _=>Tr.C ?_ fun _ _ _=>Tr.I (fun _=>Tr.C ?_ fun _ _ _=>Tr.I (fun _=>Tr.G1 ?_ fun _=>Tr.C ?_ fun _ _ _=>Tr.C ?_ fun _ _ _=>Tr.Rn ?_) fun _=>Tr.Rn ?_) fun _=>Tr.Rn ?_
  all_goals (grind)
noncomputable def s_l26Door:FT (Curs×Unit) (Door×Curs) (fun x=>sm_curs x.1) (fun x v=>sm_door v.1∧sm_curs v.2):=⟨fun(y0,_)=>
  .cal s_l1Below.c (y0,99,()) fun c1=>
  .cal s_l26Keys.c (c1.2,()) fun c2=>
  .cal s_l25Limits.c (c2.2,()) fun c3=>
  .cal s_l1Below.c (c3.2,6,()) fun c4=>
  .lp (s_l26Door_L0_d (c4.1,0,c4.2,(⟨0,0,⟨0,⟨false,0,0,[]⟩,⟨false,0,0,[]⟩,false⟩,⟨0,0,0,0⟩,[],⟨[],[]⟩,0⟩:Door),(⟨80,c1.1,c2.1,c3.1,[],⟨[],[]⟩,0⟩:Door),())).lp fun(_,a21_0,_,a21_2)=>
  .ret (a21_2,a21_0),
 fun(y0,_) hp=>by
  refine Tr.C ?_ fun _ _ _=>Tr.C ?_ fun _ _ _=>Tr.C ?_ fun _ _ _=>Tr.C ?_ fun _ _ _=>Tr.L (s_l26Door_L0_k ?_ ?_ ?_) (fun(a21_0,a21_1,a21_2) _=>Tr.R ?_) (fun p=>Empty.elim p)
  all_goals ((try simp only[s_l26Door_L0_d,LC.lp,LC.ct,Ct.lp]at*)<;>grind)⟩
noncomputable def s_l26Door_e:=entM st s_l26Door_x s_l26Door_o [(leC 0 s_l26Door_L0_h s_l26Door_L0_d)] [.wr false [.ptr 0]] [.box [.st .curs]] (fun x y=>(y.1.1,())) s_l26Door (fun v=>[(true,q_door (.o true) (.o true) (.o true) (.o true) (.o true) v.1)]) (fun x y v=>((v.2,()),())) Tryz.func204 (by kernel_rfl) ⟨s_l26Door_L0_s,trivial⟩ fun _ _=>by kernel_rfl
noncomputable def s_l2Word:FT (Curs×Unit) (Int×Curs) (fun x=>sm_curs x.1) (fun x v=>sm_curs v.2):=⟨fun(y0,_)=>
  .cal s_l1Below.c (y0,3,()) fun c1=>
  .ite (c1.1==0) (.cal s_l1Whole.c (c1.2,()) fun c2=>
   .ret (c2.1,c2.2))<|
  .ite (c1.1==1) (.cal s_l1PickInt.c (c1.2,[0,1,255,256,65535,65536,16777215,4294967295,4294967296,281474976710655,281474976710656],()) fun c3=>
   .ret (c3.1,c3.2))<|
  .cal s_l1Below.c (c1.2,65536,()) fun c4=>
  .ret (c4.1,c4.2),
 fun(y0,_) hp=>by
  refine Tr.C ?_ fun _ _ _=>Tr.I (fun _=>Tr.C ?_ fun _ _ _=>Tr.R ?_) fun _=>Tr.I (fun _=>Tr.C ?_ fun _ _ _=>Tr.R ?_) fun _=>Tr.C ?_ fun _ _ _=>Tr.R ?_
  all_goals (first|grind|(simp only[sS,List.length_cons,List.length_nil];grind))⟩
noncomputable def s_l2Word_e:=entM st ⟨205,Tryz.f205,[],1⟩ [s_l1Below_e,s_l1Whole_e,s_l1PickInt_e] [] [.wr false [.ptr 0]] [.box [.st .curs]] (fun x y=>(y.1.1,())) s_l2Word (fun v=>[(false,[.c (.int .i64 v.1)])]) (fun x y v=>((v.2,()),())) Tryz.func205 (by kernel_rfl) trivial fun _ _=>by kernel_rfl
noncomputable def s_l13Keys_o:List (Ent1 Tryz.prog):=[s_l1PickInt_e,s_l10Key_e,s_KeyMac_e,s_l1Once_e,s_TableMac_e]
def s_l13Keys_J19_a:An:=⟨⟨[],[],false,1⟩,⟨[0,2,3],[],false,1⟩,⟨[],[]⟩,[(.normal,⟨[(0,false,[.ptr 0 0]),(2,false,[.ptr 1 0]),(3,false,[.ptr 2 0])],[.box [.st .curs [.sl .any]],.box [.st .keys [.nil .macRow,.nil .macRow]],.box [.st .keys [.own 3,.own 4]],.of false true,.of false true]⟩),(.normal,⟨[(0,false,[.ptr 0 0]),(2,false,[.ptr 1 0]),(3,false,[.ptr 2 0])],[.box [.st .curs [.sl .any]],.box [.st .keys [.nil .macRow,.nil .macRow]],.box [.st .keys [.own 3,.nil .macRow]],.of false true]⟩)]⟩
noncomputable def s_l13Keys_x:Fx:=⟨281,Tryz.f281,[(1000019,s_l13Keys_J19_a)],1⟩
noncomputable def s_l13Keys:FT (Curs×Unit) (Keys×Curs) (fun x=>sm_curs x.1) (fun x v=>sm_keys v.1∧sm_curs v.2):=⟨fun(y0,_)=>
  .cal s_l1PickInt.c (y0,[0,1,2,30,31,32,33,4294967295],()) fun c1=>
  .cal s_l10Key.c (c1.2,()) fun c2=>
  .cal s_l10Key.c (c2.2,()) fun c3=>
  .cal s_KeyMac.c (c2.1,c3.1,()) fun c4=>
  .ite (decide (0<c1.1)) (.cal s_l1Once.c (c3.2,2,()) fun c5=>
   .bnd (β:=WT s_l13Keys_J19_a.es) (.ite c5.1 (.cal s_l10Key.c (c5.2,()) fun c6=>
     .cal s_l10Key.c (c6.2,()) fun c7=>
     .cal s_KeyMac.c (c6.1,c7.1,()) fun c8=>
     .ret (.inl (c7.2,(⟨0,⟨false,0,0,[]⟩,⟨false,0,0,[]⟩,false⟩:Keys),(⟨c1.1,c4,c8,true⟩:Keys),())))<|
    .ret (.inr ((c5.2,(⟨0,⟨false,0,0,[]⟩,⟨false,0,0,[]⟩,false⟩:Keys),(⟨c1.1,c4,⟨false,0,0,[]⟩,false⟩:Keys),())))) fun w9=> .sum w9 (fun(u9a0,_,u9a2,_)=>
   .cal s_l1Once.c (u9a0,3,()) fun c10=>
   .ite c10.1 (.cal s_TableMac.c ([],()) fun c11=>
    .ret (({u9a2 with now.use:=c11.use,now.k:=c11.k,now.l:=c11.l,now.rows:=c11.rows}:Keys),c10.2))<|
   .ret (u9a2,c10.2))<|
   fun(u9b0,_,u9b2,_)=>
   .cal s_l1Once.c (u9b0,3,()) fun c12=>
   .ite c12.1 (.cal s_TableMac.c ([],()) fun c13=>
    .ret (({u9b2 with now.use:=c13.use,now.k:=c13.k,now.l:=c13.l,now.rows:=c13.rows,before.rows:=[]}:Keys),c12.2))<|
   .ret (({u9b2 with before.rows:=[]}:Keys),c12.2))<|
  .cal s_l1Once.c (c3.2,3,()) fun c14=>
  .ite c14.1 (.cal s_TableMac.c ([],()) fun c15=>
   .ret ((⟨c1.1,c15,⟨false,0,0,[]⟩,false⟩:Keys),c14.2))<|
  .ret ((⟨c1.1,c4,⟨false,0,0,[]⟩,false⟩:Keys),c14.2),
 fun(y0,_) hp=>by
  refine Tr.C ?_ fun _ _ _=>Tr.C ?_ fun _ _ _=>Tr.C ?_ fun _ _ _=>Tr.C trivial fun _ _ _=>Tr.I (fun _=>Tr.C ?_ fun _ _ _=>Tr.B (Q':=(Sum.elim (fun w=>sm_curs w.1∧sm_keys w.2.1∧sm_keys w.2.2.1) (fun w=>sm_curs w.1∧sm_keys w.2.1∧sm_keys w.2.2.1))) (Tr.I (fun _=>Tr.C ?_ fun _ _ _=>Tr.C ?_ fun _ _ _=>Tr.C trivial fun _ _ _=>Tr.R ?_) fun _=>Tr.R ?_) (fun _ _ q9=>Tr.E q9 (fun(u9a0,u9a1,u9a2,_) _=>Tr.C ?_ fun _ _ _=>Tr.I (fun _=>Tr.C ?_ fun _ _ _=>Tr.R ?_) fun _=>Tr.R ?_) (fun(u9b0,u9b1,u9b2,_) _=>Tr.C ?_ fun _ _ _=>Tr.I (fun _=>Tr.C ?_ fun _ _ _=>Tr.R ?_) fun _=>Tr.R ?_))) fun _=>Tr.C ?_ fun _ _ _=>Tr.I (fun _=>Tr.C ?_ fun _ _ _=>Tr.R ?_) fun _=>Tr.R ?_
  all_goals ((try simp only[Tr.nice,letK]at*)<;>first|grind|(simp only[sS,List.length_cons,List.length_nil];grind))⟩
noncomputable def s_l13Keys_e:=entM st s_l13Keys_x s_l13Keys_o [] [.wr false [.ptr 0]] [.box [.st .curs]] (fun x y=>(y.1.1,())) s_l13Keys (fun v=>[(true,q_keys (.o true) (.o true) v.1)]) (fun x y v=>((v.2,()),())) Tryz.func281 (by kernel_rfl) trivial fun _ _=>by kernel_rfl
noncomputable def s_l1Pick:FT (Curs×List Bytes×Unit) (Bytes×Curs) (fun x=>sm_curs x.1∧sL sS x.2.1∧0<x.2.1.length) (fun x v=>sS v.1∧sm_curs v.2):=⟨fun(y0,x1,_)=>
  .cal s_l1Below.c (y0,(x1.length:Int),()) fun c1=>
  .grd ((decide (0≤c1.1))&&(decide (c1.1<(x1.length:Int))))<|
  .ret ((x1.getD c1.1.toNat []),c1.2),
 fun(y0,x1,_) hp=>by
  refine Tr.C ?_ fun _ _ _=>Tr.G2 ?_ fun _=>Tr.R ?_
  all_goals (grind)⟩
noncomputable def s_l1Pick_e:=entM st ⟨336,Tryz.f336,[],1⟩ [s_l1Below_e] [] [.wr false [.ptr 0],.sc (.sl .str)] [.box [.st .curs]] (fun x y=>(y.1.1,x.2.1,())) s_l1Pick (fun v=>[(false,[.c (.str v.1)])]) (fun x y v=>((v.2,()),())) Tryz.func336 (by kernel_rfl) trivial fun _ _=>by kernel_rfl
noncomputable def s_l11Rows_o:List (Ent1 Tryz.prog):=[s_l1Below_e,s_l1Pick_e,s_l1PickInt_e,s_l1Once_e,s_l1Whole_e]
def s_l11Rows_L0_h:Sh:=⟨[(0,false,[.ptr 0 0]),(3,false,[.own 1]),(4,false,[.int .i64]),(5,false,[.int .i64])],[.box [.st .curs [.sl .any]],.arr .macRow false true]⟩
noncomputable def s_l11Rows_x:Fx:=⟨321,Tryz.f321,[(0,la ⟨[0,3,4,5],[],false,1⟩ ⟨[0,2,3,4],[],false,1⟩)],1⟩
noncomputable def s_l11Rows_L0_T (v1:Int)(a:Curs×List MacRow):Tr (Stp (Curs×List MacRow) (Empty)):=
 .cal s_l1Pick.c (a.1,[[],[97],[98],[99,100],[97]],()) fun c2=>
 .cal s_l1Below.c (c2.2,16777216,()) fun c3=>
 .cal s_l1PickInt.c (c3.2,[0,1,5,16777215,c3.1],()) fun c4=>
 .grd (Nat.ble ((2*(a.2.length+1)+1024)*24) maxSl)<|
 .ret (.next (c4.2,(a.2++[(⟨c2.1,c4.1⟩:MacRow)])))
noncomputable def s_l11Rows_L0_d:s_l11Rows_L0_h.V→LC s_l11Rows_L0_h (Curs×List MacRow) (Empty) (Int×(Curs×List MacRow)):=fun(v0,v1,v2,v3,_)=>⟨v1,(v2,v3),fun v1 a=>(v0,v1,a.1,a.2,()),fun v1 _=>(decide (v1<v0)),s_l11Rows_L0_T,up,1,(Int.toNat (v0-v1)),(fun p=>Empty.elim p),fun i a=>(i,a),fun _ k x=>k (.exit 0) (Sh.enc ⟨[(0,false,[.ptr 0 0]),(2,false,[.undef]),(3,false,[.own 1]),(4,false,[.int .i64])],[.box [.st .curs [.sl .any]],.arr .macRow false true]⟩ (v0,x.2.1,x.2.2,()))⟩
theorem s_l11Rows_L0_s:LS Tryz.prog s_l11Rows_x [0] (leC 0 s_l11Rows_L0_h s_l11Rows_L0_d):=loopC st (orcOf_ok s_l11Rows_o) _ s_l11Rows_L0_d [] trivial (by kernel_rfl) (fun _=>by kernel_rfl) fun _ _ _ _ _ _=>by kernel_rfl
theorem s_l11Rows_L0_k {v0 v1:Int}{v2:Curs}{v3:List MacRow}(h0:0≤v1)(h1:v0≤4611686018427387904)(h2:v0≤4294967296)(h3:sm_curs v2∧(v3.length:Int)=v1∧smE sm_macRow v3):(s_l11Rows_L0_d (v0,v1,v2,v3,())).U v0 (fun v1 a=>sm_curs a.1∧(a.2.length:Int)=v1∧smE sm_macRow a.2) (fun _=>True):=
 LC.okU (i:=v1) (a:=(v2,v3)) (fun _ _=>rfl) (fun _=>rfl) rfl h0 h1 h3 fun v1 (v2,v3) hj hk hv=>by
  refine Tr.C ?_ fun _ _ _=>Tr.C ?_ fun _ _ _=>Tr.C ?_ fun _ _ _=>Tr.Gb ?_ fun _=>Tr.Rn ?_
  all_goals (grind)
noncomputable def s_l11Rows:FT (Curs×Unit) (List MacRow×Curs) (fun x=>sm_curs x.1) (fun x v=>sL sm_macRow v.1∧sm_curs v.2):=⟨fun(y0,_)=>
  .cal s_l1Below.c (y0,5,()) fun c1=>
  .lp (s_l11Rows_L0_d (c1.1,0,c1.2,[],())).lp fun(_,a5_0,a5_1)=>
  .ite (decide (0<c1.1)) (.cal s_l1Once.c (a5_0,6,()) fun c6=>
   .ite c6.1 (.cal s_l1Whole.c (c6.2,()) fun c7=>
    .grd (decide (0<(a5_1.length:Int)))<|
    .ret ((a5_1.set 0 (⟨(a5_1.getD 0 (Ty.zero .macRow)).input,c7.1⟩:MacRow)),c7.2))<|
   .ret (a5_1,c6.2))<|
  .ret (a5_1,a5_0),
 fun(y0,_) hp=>by
  refine Tr.C ?_ fun _ _ _=>Tr.L (s_l11Rows_L0_k ?_ ?_ ?_ ?_) (fun(a5_0,a5_1) _=>Tr.I (fun _=>Tr.C ?_ fun _ _ _=>Tr.I (fun _=>Tr.C ?_ fun _ _ _=>Tr.G1 ?_ fun _=>Tr.R ?_) fun _=>Tr.R ?_) fun _=>Tr.R ?_) (fun p=>Empty.elim p)
  all_goals ((try simp only[s_l11Rows_L0_d,LC.lp,LC.ct,Ct.lp]at*)<;>grind)⟩
noncomputable def s_l11Rows_e:=entM st s_l11Rows_x s_l11Rows_o [(leC 0 s_l11Rows_L0_h s_l11Rows_L0_d)] [.wr false [.ptr 0]] [.box [.st .curs]] (fun x y=>(y.1.1,())) s_l11Rows (fun v=>[(false,[sc (.o true) .macRow v.1])]) (fun x y v=>((v.2,()),())) Tryz.func321 (by kernel_rfl) ⟨s_l11Rows_L0_s,trivial⟩ fun _ _=>by kernel_rfl
noncomputable def s_l11Mac:FT (Curs×Unit) (Mac×Curs) (fun x=>sm_curs x.1) (fun x v=>sm_mac v.1∧sm_curs v.2):=⟨fun(y0,_)=>
  .cal s_l1Once.c (y0,2,()) fun c1=>
  .ite c1.1 (.cal s_l11Rows.c (c1.2,()) fun c2=>
   .cal s_TableMac.c (c2.1,()) fun c3=>
   .ret (c3,c2.2))<|
  .cal s_l10Key.c (c1.2,()) fun c4=>
  .cal s_l10Key.c (c4.2,()) fun c5=>
  .cal s_KeyMac.c (c4.1,c5.1,()) fun c6=>
  .cal s_l1Below.c (c5.2,10,()) fun c7=>
  .ite (c7.1==0) (.ret (({c6 with use:=true}:Mac),c7.2))<|
  .ite (c7.1==1) (.cal s_l11Rows.c (c7.2,()) fun c8=>
   .ret (({c6 with rows:=c8.1}:Mac),c8.2))<|
  .ret (c6,c7.2),
 fun(y0,_) hp=>by
  refine Tr.C ?_ fun _ _ _=>Tr.I (fun _=>Tr.C ?_ fun _ _ _=>Tr.C ?_ fun _ _ _=>Tr.R ?_) fun _=>Tr.C ?_ fun _ _ _=>Tr.C ?_ fun _ _ _=>Tr.C trivial fun _ _ _=>Tr.C ?_ fun _ _ _=>Tr.I (fun _=>Tr.R ?_) fun _=>Tr.I (fun _=>Tr.C ?_ fun _ _ _=>Tr.R ?_) fun _=>Tr.R ?_
  all_goals (grind)⟩
noncomputable def s_l11Mac_e:=entM st ⟨282,Tryz.f282,[],1⟩ [s_l1Once_e,s_l11Rows_e,s_TableMac_e,s_l10Key_e,s_KeyMac_e,s_l1Below_e] [] [.wr false [.ptr 0]] [.box [.st .curs]] (fun x y=>(y.1.1,())) s_l11Mac (fun v=>[(true,q_mac (.o true) v.1)]) (fun x y v=>((v.2,()),())) Tryz.func282 (by kernel_rfl) trivial fun _ _=>by kernel_rfl
noncomputable def s_l13Bent:FT (Curs×Unit) (Keys×Curs) (fun x=>sm_curs x.1) (fun x v=>sm_keys v.1∧sm_curs v.2):=⟨fun(y0,_)=>
  .cal s_l13Keys.c (y0,()) fun c1=>
  .cal s_l1Below.c (c1.2,10,()) fun c2=>
  .ite (c2.1==0) (.cal s_l1PickInt.c (c2.2,[(-1),0,4294967296],()) fun c3=>
   .ret (({c1.1 with epoch:=c3.1}:Keys),c3.2))<|
  .ite (c2.1==1) (.ret (({c1.1 with two:=(!c1.1.two)}:Keys),c2.2))<|
  .ite (c2.1==2) (.cal s_l11Mac.c (c2.2,()) fun c4=>
   .ret (({c1.1 with now.use:=c4.1.use,now.k:=c4.1.k,now.l:=c4.1.l,now.rows:=c4.1.rows}:Keys),c4.2))<|
  .ite (c2.1==3) (.cal s_l11Mac.c (c2.2,()) fun c5=>
   .ret (({c1.1 with before.use:=c5.1.use,before.k:=c5.1.k,before.l:=c5.1.l,before.rows:=c5.1.rows}:Keys),c5.2))<|
  .ret (c1.1,c2.2),
 fun(y0,_) hp=>by
  refine Tr.C ?_ fun _ _ _=>Tr.C ?_ fun _ _ _=>Tr.I (fun _=>Tr.C ?_ fun _ _ _=>Tr.R ?_) fun _=>Tr.I (fun _=>Tr.R ?_) fun _=>Tr.I (fun _=>Tr.C ?_ fun _ _ _=>Tr.R ?_) fun _=>Tr.I (fun _=>Tr.C ?_ fun _ _ _=>Tr.R ?_) fun _=>Tr.R ?_
  all_goals (grind)⟩
noncomputable def s_l13Bent_e:=entM st ⟨206,Tryz.f206,[],1⟩ [s_l13Keys_e,s_l1Below_e,s_l1PickInt_e,s_l11Mac_e] [] [.wr false [.ptr 0]] [.box [.st .curs]] (fun x y=>(y.1.1,())) s_l13Bent (fun v=>[(true,q_keys (.o true) (.o true) v.1)]) (fun x y v=>((v.2,()),())) Tryz.func206 (by kernel_rfl) trivial fun _ _=>by kernel_rfl
noncomputable def s_l6Ip:FT (Curs×Unit) (Int×Curs) (fun x=>sm_curs x.1) (fun x v=>sm_curs v.2):=⟨fun(y0,_)=>
  .cal s_l1PickInt.c (y0,[167772161,167772162,167772163,0,4294967295],()) fun c1=>
  .ret (c1.1,c1.2),
 fun(y0,_) hp=>by
  refine Tr.C ?_ fun _ _ _=>Tr.R ?_
  all_goals (grind)⟩
noncomputable def s_l6Ip_e:=entM st ⟨287,Tryz.f287,[],1⟩ [s_l1PickInt_e] [] [.wr false [.ptr 0]] [.box [.st .curs]] (fun x y=>(y.1.1,())) s_l6Ip (fun v=>[(false,[.c (.int .i64 v.1)])]) (fun x y v=>((v.2,()),())) Tryz.func287 (by kernel_rfl) trivial fun _ _=>by kernel_rfl
noncomputable def s_l12Tuple:FT (Curs×Unit) (Tupl×Curs) (fun x=>sm_curs x.1) (fun x v=>sm_curs v.2):=⟨fun(y0,_)=>
  .cal s_l6Ip.c (y0,()) fun c1=>
  .cal s_l1PickInt.c (c1.2,[40000,40001,40002],()) fun c2=>
  .ret ((⟨c1.1,c2.1,80⟩:Tupl),c2.2),
 fun(y0,_) hp=>by
  refine Tr.C ?_ fun _ _ _=>Tr.C ?_ fun _ _ _=>Tr.R ?_
  all_goals (grind)⟩
noncomputable def s_l12Tuple_e:=entM st ⟨214,Tryz.f214,[],1⟩ [s_l6Ip_e,s_l1PickInt_e] [] [.wr false [.ptr 0]] [.box [.st .curs]] (fun x y=>(y.1.1,())) s_l12Tuple (fun v=>[(true,q_tupl v.1)]) (fun x y v=>((v.2,()),())) Tryz.func214 (by kernel_rfl) trivial fun _ _=>by kernel_rfl
noncomputable def s_l24Half:FT (Curs×Unit) (Half×Curs) (fun x=>sm_curs x.1) (fun x v=>sm_curs v.2):=⟨fun(y0,_)=>
  .cal s_l12Tuple.c (y0,()) fun c1=>
  .cal s_l2Deep.c (c1.2,()) fun c2=>
  .cal s_l2Deep.c (c2.2,()) fun c3=>
  .cal s_l8Options.c (c3.2,()) fun c4=>
  .cal s_l1Below.c (c4.2,7,()) fun c5=>
  .cal s_l1PickInt.c (c5.2,[0,64,65535],()) fun c6=>
  .ret ((⟨c1.1,c2.1,c3.1,c4.1,c5.1,c6.1⟩:Half),c6.2),
 fun(y0,_) hp=>by
  refine Tr.C ?_ fun _ _ _=>Tr.C ?_ fun _ _ _=>Tr.C ?_ fun _ _ _=>Tr.C ?_ fun _ _ _=>Tr.C ?_ fun _ _ _=>Tr.C ?_ fun _ _ _=>Tr.R ?_
  all_goals (grind)⟩
noncomputable def s_l24Half_e:=entM st ⟨284,Tryz.f284,[],1⟩ [s_l12Tuple_e,s_l2Deep_e,s_l8Options_e,s_l1Below_e,s_l1PickInt_e] [] [.wr false [.ptr 0]] [.box [.st .curs]] (fun x y=>(y.1.1,())) s_l24Half (fun v=>[(true,q_half v.1)]) (fun x y v=>((v.2,()),())) Tryz.func284 (by kernel_rfl) trivial fun _ _=>by kernel_rfl
noncomputable def s_l24List_o:List (Ent1 Tryz.prog):=[s_l1Below_e,s_l24Half_e,s_PutHalf_e]
def s_l24List_L0_h:Sh:=⟨[(0,false,[.ptr 0 0]),(3,false,[.own 1]),(4,false,[.int .i64]),(5,false,[.int .i64])],[.box [.st .curs [.sl .any]],.arr .half false true]⟩
noncomputable def s_l24List_x:Fx:=⟨283,Tryz.f283,[(0,la ⟨[0,3,4,5],[],false,1⟩ ⟨[2,3],[],false,1⟩)],1⟩
noncomputable def s_l24List_L0_T (v1:Int)(a:Curs×List Half):Tr (Stp (Curs×List Half) (Empty)):=
 .cal s_l24Half.c (a.1,()) fun c2=>
 .cal s_PutHalf.c (a.2,c2.1,64,()) fun c3=>
 .ret (.next (c2.2,c3.1))
noncomputable def s_l24List_L0_d:s_l24List_L0_h.V→LC s_l24List_L0_h (Curs×List Half) (Empty) (Int×(Curs×List Half)):=fun(v0,v1,v2,v3,_)=>⟨v1,(v2,v3),fun v1 a=>(v0,v1,a.1,a.2,()),fun v1 _=>(decide (v1<v0)),s_l24List_L0_T,up,1,(Int.toNat (v0-v1)),(fun p=>Empty.elim p),fun i a=>(i,a),fun _ k x=>k (.exit 0) (Sh.enc ⟨[(2,false,[.undef]),(3,false,[.own 1])],[.box [.st .curs [.sl .any]],.arr .half false true]⟩ (x.2.1,x.2.2,()))⟩
theorem s_l24List_L0_s:LS Tryz.prog s_l24List_x [0] (leC 0 s_l24List_L0_h s_l24List_L0_d):=loopC st (orcOf_ok s_l24List_o) _ s_l24List_L0_d [] trivial (by kernel_rfl) (fun _=>by kernel_rfl) fun _ _ _ _ _ _=>by kernel_rfl
theorem s_l24List_L0_k {v0 v1:Int}{v2:Curs}{v3:List Half}(h0:0≤v1)(h1:v0≤4611686018427387904)(h2:sm_curs v2∧sS v3∧(v3.length:Int)≤v1):(s_l24List_L0_d (v0,v1,v2,v3,())).U v0 (fun v1 a=>sm_curs a.1∧sS a.2∧(a.2.length:Int)≤v1) (fun _=>True):=
 LC.okU (i:=v1) (a:=(v2,v3)) (fun _ _=>rfl) (fun _=>rfl) rfl h0 h1 h2 fun v1 (v2,v3) hj hk hv=>by
  refine Tr.C ?_ fun _ _ _=>Tr.C ?_ fun _ _ _=>Tr.Rn ?_
  all_goals (grind)
noncomputable def s_l24List:FT (Curs×Unit) (List Half×Curs) (fun x=>sm_curs x.1) (fun x v=>sS v.1∧sm_curs v.2∧(v.1.length:Int)≤5):=⟨fun(y0,_)=>
  .cal s_l1Below.c (y0,5,()) fun c1=>
  .lp (s_l24List_L0_d (c1.1,0,c1.2,[],())).lp fun(_,a4_0,a4_1)=>
  .ret (a4_1,a4_0),
 fun(y0,_) hp=>by
  refine Tr.C ?_ fun _ _ _=>Tr.L (s_l24List_L0_k ?_ ?_ ?_) (fun(a4_0,a4_1) _=>Tr.R ?_) (fun p=>Empty.elim p)
  all_goals ((try simp only[s_l24List_L0_d,LC.lp,LC.ct,Ct.lp]at*)<;>grind)⟩
noncomputable def s_l24List_e:=entM st s_l24List_x s_l24List_o [(leC 0 s_l24List_L0_h s_l24List_L0_d)] [.wr false [.ptr 0]] [.box [.st .curs]] (fun x y=>(y.1.1,())) s_l24List (fun v=>[(false,[sc (.o true) .half v.1])]) (fun x y v=>((v.2,()),())) Tryz.func283 (by kernel_rfl) ⟨s_l24List_L0_s,trivial⟩ fun _ _=>by kernel_rfl
noncomputable def s_l12Bent:FT (Curs×Unit) (Tupl×Curs) (fun x=>sm_curs x.1) (fun x v=>sm_curs v.2):=⟨fun(y0,_)=>
  .cal s_l12Tuple.c (y0,()) fun c1=>
  .cal s_l1Below.c (c1.2,10,()) fun c2=>
  .ite (c2.1==0) (.cal s_l2Word.c (c2.2,()) fun c3=>
   .ret (({c1.1 with ip:=c3.1}:Tupl),c3.2))<|
  .ite (c2.1==1) (.cal s_l2Word.c (c2.2,()) fun c4=>
   .ret (({c1.1 with port:=c4.1}:Tupl),c4.2))<|
  .ite (c2.1==2) (.cal s_l2Word.c (c2.2,()) fun c5=>
   .ret (({c1.1 with my:=c5.1}:Tupl),c5.2))<|
  .ret (c1.1,c2.2),
 fun(y0,_) hp=>by
  refine Tr.C ?_ fun _ _ _=>Tr.C ?_ fun _ _ _=>Tr.I (fun _=>Tr.C ?_ fun _ _ _=>Tr.R ?_) fun _=>Tr.I (fun _=>Tr.C ?_ fun _ _ _=>Tr.R ?_) fun _=>Tr.I (fun _=>Tr.C ?_ fun _ _ _=>Tr.R ?_) fun _=>Tr.R ?_
  all_goals (grind)⟩
noncomputable def s_l12Bent_e:=entM st ⟨123,Tryz.f123,[],1⟩ [s_l12Tuple_e,s_l1Below_e,s_l2Word_e] [] [.wr false [.ptr 0]] [.box [.st .curs]] (fun x y=>(y.1.1,())) s_l12Bent (fun v=>[(true,q_tupl v.1)]) (fun x y v=>((v.2,()),())) Tryz.func123 (by kernel_rfl) trivial fun _ _=>by kernel_rfl
noncomputable def s_l8Bent:FT (Curs×Unit) (Opti×Curs) (fun x=>sm_curs x.1) (fun x v=>sm_curs v.2):=⟨fun(y0,_)=>
  .cal s_l8Options.c (y0,()) fun c1=>
  .cal s_l1Below.c (c1.2,10,()) fun c2=>
  .ite (c2.1==0) (.cal s_l2Word.c (c2.2,()) fun c3=>
   .ret (({c1.1 with mss:=c3.1}:Opti),c3.2))<|
  .ite (c2.1==1) (.cal s_l1PickInt.c (c2.2,[(-2),(-1),14,15],()) fun c4=>
   .ret (({c1.1 with scale:=c4.1}:Opti),c4.2))<|
  .ite (c2.1==2) (.ret (({c1.1 with stamp:=(!c1.1.stamp)}:Opti),c2.2))<|
  .ite (c2.1==3) (.cal s_l2Word.c (c2.2,()) fun c5=>
   .ret (({c1.1 with val:=c5.1}:Opti),c5.2))<|
  .ret (c1.1,c2.2),
 fun(y0,_) hp=>by
  refine Tr.C ?_ fun _ _ _=>Tr.C ?_ fun _ _ _=>Tr.I (fun _=>Tr.C ?_ fun _ _ _=>Tr.R ?_) fun _=>Tr.I (fun _=>Tr.C ?_ fun _ _ _=>Tr.R ?_) fun _=>Tr.I (fun _=>Tr.R ?_) fun _=>Tr.I (fun _=>Tr.C ?_ fun _ _ _=>Tr.R ?_) fun _=>Tr.R ?_
  all_goals (grind)⟩
noncomputable def s_l8Bent_e:=entM st ⟨212,Tryz.f212,[],1⟩ [s_l8Options_e,s_l1Below_e,s_l2Word_e,s_l1PickInt_e] [] [.wr false [.ptr 0]] [.box [.st .curs]] (fun x y=>(y.1.1,())) s_l8Bent (fun v=>[(true,q_opti v.1)]) (fun x y v=>((v.2,()),())) Tryz.func212 (by kernel_rfl) trivial fun _ _=>by kernel_rfl
noncomputable def s_l24Bent:FT (Curs×Unit) (List Half×Curs) (fun x=>sm_curs x.1) (fun x v=>sS v.1∧sm_curs v.2):=⟨fun(y0,_)=>
  .cal s_l24List.c (y0,()) fun c1=>
  .cal s_l1Below.c (c1.2,8,()) fun c2=>
  .ite (c2.1==0) (.cal s_l24Half.c (c2.2,()) fun c3=>
   .cal s_l1PickInt.c (c3.2,[(-1),6,7],()) fun c4=>
   .grd (Nat.ble ((2*(c1.1.length+1)+1024)*96) maxSl)<|
   .ret ((c1.1++[({c3.1 with age:=c4.1}:Half)]),c4.2))<|
  .ite (c2.1==1) (.cal s_l24Half.c (c2.2,()) fun c5=>
   .cal s_l12Bent.c (c5.2,()) fun c6=>
   .cal s_l2Word.c (c6.2,()) fun c7=>
   .grd (Nat.ble ((2*(c1.1.length+1)+1024)*96) maxSl)<|
   .val (c1.1++[({c5.1 with tuple.ip:=c6.1.ip,tuple.port:=c6.1.port,tuple.my:=c6.1.my,iss:=c7.1}:Half)]) fun l8=>
   .ret (l8,c7.2))<|
  .ite (c2.1==2) (.cal s_l24Half.c (c2.2,()) fun c9=>
   .cal s_l8Bent.c (c9.2,()) fun c10=>
   .grd (Nat.ble ((2*(c1.1.length+1)+1024)*96) maxSl)<|
   .val (c1.1++[({c9.1 with opts.mss:=c10.1.mss,opts.scale:=c10.1.scale,opts.sack:=c10.1.sack,opts.stamp:=c10.1.stamp,opts.val:=c10.1.val,opts.echo:=c10.1.echo}:Half)]) fun l11=>
   .ret (l11,c10.2))<|
  .ret (c1.1,c2.2),
 fun(y0,_) hp=>by
  refine Tr.C ?_ fun c1 hc1 qc1=>Tr.C ?_ fun c2 hc2 qc2=>Tr.I (fun b0=>Tr.C ?_ fun c3 hc3 qc3=>Tr.C ?_ fun c4 hc4 qc4=>Tr.Gb ?_ fun g1=>Tr.R ?_) fun b0=>Tr.I (fun b1=>Tr.C ?_ fun c5 hc5 qc5=>Tr.C ?_ fun c6 hc6 qc6=>Tr.C ?_ fun c7 hc7 qc7=>Tr.Gb ?_ fun g2=>Tr.V fun l8 hl8=>Tr.R ?_) fun b1=>Tr.I (fun b2=>Tr.C ?_ fun c9 hc9 qc9=>Tr.C ?_ fun c10 hc10 qc10=>Tr.Gb ?_ fun g3=>Tr.V fun l11 hl11=>Tr.R ?_) fun b2=>Tr.R ?_
  all_goals ((first|grind|(refine⟨?_,by grind⟩;have hl:∀v:List Half×Curs,v.1.length≤5→∀h:Half,sS (v.1++[h]):=fun v hv h=>(by simp only[sS,List.length_append,List.length_cons,List.length_nil];omega);subst_vars;apply hl;grind)))⟩
noncomputable def s_l24Bent_e:=entM st ⟨207,Tryz.f207,[],1⟩ [s_l24List_e,s_l1Below_e,s_l24Half_e,s_l1PickInt_e,s_l12Bent_e,s_l2Word_e,s_l8Bent_e] [] [.wr false [.ptr 0]] [.box [.st .curs]] (fun x y=>(y.1.1,())) s_l24Bent (fun v=>[(false,[sc (.o true) .half v.1])]) (fun x y v=>((v.2,()),())) Tryz.func207 (by kernel_rfl) trivial fun _ _=>by kernel_rfl
noncomputable def s_l18Stream_o:List (Ent1 Tryz.prog):=[s_l1Below_e,s_l4Rest_e,s_l1Once_e,s_l1Bytes_e,s_SeqAdd_e]
def s_l18Stream_L0_h:Sh:=⟨[(0,false,[.ptr 0 0]),(3,false,[.ptr 1 0]),(7,false,[.int .i64]),(8,false,[.int .i64]),(9,false,[.own 2]),(10,false,[.int .i64])],[.box [.st .curs [.sl .any]],.box [.st .recv [.sl .arg]],.arr .u8 false true]⟩
def s_l18Stream_J36_a:An:=⟨⟨[],[],false,1⟩,⟨[0,3,4,5,6,7,9],[],false,1⟩,⟨[],[]⟩,[(.normal,⟨[(0,false,[.ptr 0 0]),(3,false,[.ptr 1 0]),(4,false,[.undef]),(5,false,[.undef]),(6,false,[.undef]),(7,false,[.int .i64]),(9,false,[.own 2])],[.box [.st .curs [.sl .any]],.box [.st .recv [.sl .arg]],.arr .u8 false true]⟩)]⟩
noncomputable def s_l18Stream_x:Fx:=⟨243,Tryz.f243,[(0,la ⟨[0,3,7,8,9,10],[],false,1⟩ ⟨[0,3,4,5,6,7,8,9],[],false,1⟩),(1000036,s_l18Stream_J36_a)],1⟩
noncomputable def s_l18Stream_L0_T (v0:Int)(v4:Recv)(v2:Int)(a:List Int):Tr (Stp (List Int) (Empty)):=
 .val (s_l4Rest.f ((IntKind.wrap .i64 ((IntKind.wrap .i64 (v4.next+v0))+v2)),())) fun c3=>
 .grd (Nat.ble ((2*(a.length+1)+1024)*1) maxSl)<|
 .ret (.next (a++[(IntKind.wrap .u8 (IntKind.wrap .i64 (97+(c3.tmod 26))))]))
noncomputable def s_l18Stream_L0_d:s_l18Stream_L0_h.V→LC s_l18Stream_L0_h (List Int) (Empty) (Int×(List Int)):=fun(v0,v1,v2,v3,v4,v5,_)=>⟨v2,v5,fun v2 a=>(v0,v1,v2,v3,v4,a,()),fun v2 _=>(decide (v2<v1)),s_l18Stream_L0_T v0 v4,up,1,(Int.toNat (v1-v2)),(fun p=>Empty.elim p),fun i a=>(i,a),fun _ k x=>k (.exit 0) (Sh.enc ⟨[(0,false,[.ptr 0 0]),(3,false,[.ptr 1 0]),(4,false,[.undef]),(5,false,[.undef]),(6,false,[.undef]),(7,false,[.int .i64]),(8,false,[.int .i64]),(9,false,[.own 2])],[.box [.st .curs [.sl .any]],.box [.st .recv [.sl .arg]],.arr .u8 false true]⟩ (v0,v1,v3,v4,x.2,()))⟩
theorem s_l18Stream_L0_s:LS Tryz.prog s_l18Stream_x [0] (leC 0 s_l18Stream_L0_h s_l18Stream_L0_d):=loopC st (orcOf_ok s_l18Stream_o) _ s_l18Stream_L0_d [] trivial (by kernel_rfl) (fun _=>by kernel_rfl) fun _ _ _ _ _ _=>by kernel_rfl
theorem s_l18Stream_L0_k {v0 v1 v2:Int}{v3:Curs}{v4:Recv}{v5:List Int}(h0:0≤v2)(h1:v1≤4611686018427387904)(h2:sm_recv v4)(h3:v1≤4294967296)(h4:(v5.length:Int)=v2):(s_l18Stream_L0_d (v0,v1,v2,v3,v4,v5,())).U v1 (fun v2 a=>(a.length:Int)=v2) (fun _=>True):=
 LC.okU (i:=v2) (a:=v5) (fun _ _=>rfl) (fun _=>rfl) rfl h0 h1 h4 fun v2 v5 hj hk hv=>by
  refine Tr.V fun _ _=>Tr.Gb ?_ fun _=>Tr.Rn ?_
  all_goals (grind)
noncomputable def s_l18Stream:FT (Curs×Recv×Unit) (Int×Bytes×Bool×Curs) (fun x=>sm_curs x.1∧sm_recv x.2.1) (fun x v=>sS v.2.1∧sm_curs v.2.2.2):=⟨fun(y0,x1,_)=>
  .cal s_l1Below.c (y0,40,()) fun c1=>
  .cal s_l1Below.c (c1.2,9,()) fun c2=>
  .lp (s_l18Stream_L0_d ((IntKind.wrap .i64 (c1.1-6)),c2.1,0,c2.2,x1,[],())).lp fun(_,a4_0)=>
  .cal s_l1Once.c (c2.2,6,()) fun c5=>
  .bnd (β:=Int×Curs×Recv×List Int×Unit) (.ite c5.1 (.cal s_l1Bytes.c (c5.2,c2.1,()) fun c6=>
    .ret ((IntKind.wrap .i64 (c1.1-6)),c6.2,x1,c6.1,()))<|
   .ret ((IntKind.wrap .i64 (c1.1-6)),c5.2,x1,a4_0,())) fun(u7a0,u7a1,u7a2,u7a3,_)=>
  .val (s_SeqAdd.f (u7a2.next,u7a0,())) fun c8=>
  .cal s_l1Once.c (u7a1,6,()) fun c9=>
  .ret (c8,(toBytes u7a3),c9.1,c9.2),
 fun(y0,x1,_) hp=>by
  refine Tr.C ?_ fun _ _ _=>Tr.C ?_ fun _ _ _=>Tr.L (s_l18Stream_L0_k ?_ ?_ ?_ ?_ ?_) (fun a4_0 _=>Tr.C ?_ fun _ _ _=>Tr.B (Q':=fun w=>sm_curs w.2.1∧sm_recv w.2.2.1∧sS w.2.2.2.1) (Tr.I (fun _=>Tr.C ?_ fun _ _ _=>Tr.R ?_) fun _=>Tr.R ?_) (fun(u7a0,u7a1,u7a2,u7a3,_) _ _=>Tr.V fun _ _=>Tr.C ?_ fun _ _ _=>Tr.R ?_)) (fun p=>Empty.elim p)
  all_goals ((try simp only[s_l18Stream_L0_d,LC.lp,LC.ct,Ct.lp,Tr.nice,letK]at*)<;>grind)⟩
noncomputable def s_l18Stream_e:=entM st s_l18Stream_x s_l18Stream_o [(leC 0 s_l18Stream_L0_h s_l18Stream_L0_d)] [.wr false [.ptr 0],.st .recv] [.box [.st .curs]] (fun x y=>(y.1.1,x.2.1,())) s_l18Stream (fun v=>[(false,[.c (.int .i64 v.1)]),(false,[.c (.str v.2.1)]),(false,[.c (.bool v.2.2.1)])]) (fun x y v=>((v.2.2.2,()),())) Tryz.func243 (by kernel_rfl) ⟨s_l18Stream_L0_s,trivial⟩ fun _ _=>by kernel_rfl
noncomputable def s_l9Flags:FT (Curs×Unit) (Int×Curs) (fun x=>sm_curs x.1) (fun x v=>sm_curs v.2):=⟨fun(y0,_)=>
  .cal s_l1Below.c (y0,64,()) fun c1=>
  .cal s_l1PickInt.c (c1.2,[2,16,16,18,24,17,4,20,0,c1.1],()) fun c2=>
  .ret (c2.1,c2.2),
 fun(y0,_) hp=>by
  refine Tr.C ?_ fun _ _ _=>Tr.C ?_ fun _ _ _=>Tr.R ?_
  all_goals (first|grind|(simp only[sS,List.length_cons,List.length_nil];grind))⟩
noncomputable def s_l9Flags_e:=entM st ⟨170,Tryz.f170,[],1⟩ [s_l1Below_e,s_l1PickInt_e] [] [.wr false [.ptr 0]] [.box [.st .curs]] (fun x y=>(y.1.1,())) s_l9Flags (fun v=>[(false,[.c (.int .i64 v.1)])]) (fun x y v=>((v.2,()),())) Tryz.func170 (by kernel_rfl) trivial fun _ _=>by kernel_rfl
noncomputable def s_l19Segment_o:List (Ent1 Tryz.prog):=[s_l18Stream_e,s_l1Once_e,s_l17Flown_e,s_l1Below_e,s_SeqAdd_e,s_l1PickInt_e,s_NoOptions_e,s_l9Flags_e,s_l4Near_e,s_l4Rest_e]
def s_l19Segment_J18_a:An:=⟨⟨[],[],false,1⟩,⟨[0,3,4,5,6,7],[],false,1⟩,⟨[],[]⟩,[(.normal,⟨[(0,false,[.ptr 0 0]),(3,false,[.ptr 1 0]),(4,false,[.ptr 2 0]),(5,false,[.int .i64]),(6,false,[.str]),(7,false,[.bool])],[.box [.st .curs [.sl .any]],.box [.st .conn [.sl .arg]],.box [.st .segm []]]⟩)]⟩
def s_l19Segment_J45_a:An:=⟨⟨[],[],false,1⟩,⟨[0,3,4,8],[],false,1⟩,⟨[],[]⟩,[(.normal,⟨[(0,false,[.ptr 0 0]),(3,false,[.ptr 1 0]),(4,false,[.ptr 2 0]),(8,false,[.ptr 3 0])],[.box [.st .curs [.sl .any]],.box [.st .conn [.sl .arg]],.box [.st .segm []],.box [.st .segm []]]⟩)]⟩
def s_l19Segment_J52_a:An:=⟨⟨[],[],false,1⟩,⟨[4,8],[],false,1⟩,⟨[],[]⟩,[(.normal,⟨[(4,false,[.ptr 1 0]),(8,false,[.ptr 2 0])],[.box [.st .curs [.sl .any]],.box [.st .segm []],.box [.st .segm []]]⟩)]⟩
noncomputable def s_l19Segment_x:Fx:=⟨169,Tryz.f169,[(1000018,s_l19Segment_J18_a),(1000045,s_l19Segment_J45_a),(1000052,s_l19Segment_J52_a)],1⟩
noncomputable def s_l19Segment:FT (Curs×Conn×Unit) (Segm×Curs) (fun x=>sm_curs x.1∧sm_conn x.2.1) (fun x v=>sm_segm v.1∧sm_curs v.2):=⟨fun(y0,x1,_)=>
  .cal s_l18Stream.c (y0,x1.r,()) fun c1=>
  .cal s_l1Once.c (c1.2.2.2,2,()) fun c2=>
  .bnd (β:=Int×Bytes×Bool×Curs×Conn×Segm×Unit) (.ite c2.1 (.ret (x1.r.next,c1.2.1,c1.2.2.1,c2.2,x1,(⟨0,0,0,0,0,0,⟨0,0,false,false,0,0⟩,[]⟩:Segm),()))<|
   .ret (c1.1,c1.2.1,c1.2.2.1,c2.2,x1,(⟨0,0,0,0,0,0,⟨0,0,false,false,0,0⟩,[]⟩:Segm),())) fun(u3a0,u3a1,u3a2,u3a3,u3a4,u3a5,_)=>
  .cal s_l17Flown.c (u3a4.s,()) fun c4=>
  .cal s_l1Below.c (u3a3,(IntKind.wrap .i64 (c4+1)),()) fun c5=>
  .val (s_SeqAdd.f (u3a4.s.una,c5.1,())) fun c6=>
  .cal s_l1PickInt.c (c5.2,[0,1,8,64,65535],()) fun c7=>
  .val (s_NoOptions.f (())) fun c8=>
  .bnd (β:=Curs×Conn×Segm×Segm×Unit) (.ite u3a2 (.ret (c7.2,u3a4,u3a5,(⟨u3a4.tuple.port,u3a4.tuple.my,u3a0,c6,17,c7.1,c8,u3a1⟩:Segm),()))<|
   .ret (c7.2,u3a4,u3a5,(⟨u3a4.tuple.port,u3a4.tuple.my,u3a0,c6,16,c7.1,c8,u3a1⟩:Segm),())) fun(u9a0,u9a1,u9a2,u9a3,_)=>
  .cal s_l1Below.c (u9a0,10,()) fun c10=>
  .bnd (β:=Curs×Segm×Segm×Unit) (.ite (c10.1==0) (.cal s_l9Flags.c (c10.2,()) fun c11=>
    .ret (c11.2,u9a2,({u9a3 with flags:=c11.1}:Segm),()))<|
   .ite (c10.1==1) (.cal s_l4Near.c (c10.2,u9a1.s.una,()) fun c12=>
    .ret (c12.2,u9a2,({u9a3 with ack:=c12.1}:Segm),()))<|
   .ite (c10.1==2) (.cal s_l4Near.c (c10.2,u9a1.r.next,()) fun c13=>
    .ret (c13.2,u9a2,({u9a3 with seq:=c13.1}:Segm),()))<|
   .ite (c10.1==3) (.ret (c10.2,u9a2,({u9a3 with body:=[]}:Segm),()))<|
   .ret (c10.2,u9a2,u9a3,())) fun(u14a0,_,u14a2,_)=>
  .val (s_l4Rest.f (u14a2.seq,())) fun c15=>
  .val (s_l4Rest.f (u14a2.ack,())) fun c16=>
  .ret (({u14a2 with seq:=c15,ack:=c16}:Segm),u14a0),
 fun(y0,x1,_) hp=>by
  refine Tr.C ?_ fun _ _ _=>Tr.C ?_ fun _ _ _=>Tr.B (Q':=fun w=>sS w.2.1∧sm_curs w.2.2.2.1∧sm_conn w.2.2.2.2.1∧sm_segm w.2.2.2.2.2.1) (Tr.I (fun _=>Tr.R ?_) fun _=>Tr.R ?_) (fun(u3a0,u3a1,u3a2,u3a3,u3a4,u3a5,_) _ _=>Tr.C ?_ fun _ _ _=>Tr.C ?_ fun _ _ _=>Tr.V fun _ _=>Tr.C ?_ fun _ _ _=>Tr.V fun _ _=>Tr.B (Q':=fun w=>sm_curs w.1∧sm_conn w.2.1∧sm_segm w.2.2.1∧sm_segm w.2.2.2.1) (Tr.I (fun _=>Tr.R ?_) fun _=>Tr.R ?_) (fun(u9a0,u9a1,u9a2,u9a3,_) _ _=>Tr.C ?_ fun _ _ _=>Tr.B (Q':=fun w=>sm_curs w.1∧sm_segm w.2.1∧sm_segm w.2.2.1) (Tr.I (fun _=>Tr.C ?_ fun _ _ _=>Tr.R ?_) fun _=>Tr.I (fun _=>Tr.C ?_ fun _ _ _=>Tr.R ?_) fun _=>Tr.I (fun _=>Tr.C ?_ fun _ _ _=>Tr.R ?_) fun _=>Tr.I (fun _=>Tr.R ?_) fun _=>Tr.R ?_) (fun(u14a0,u14a1,u14a2,_) _ _=>Tr.V fun _ _=>Tr.V fun _ _=>Tr.R ?_)))
  all_goals ((try simp only[Tr.nice,letK]at*)<;>grind)⟩
noncomputable def s_l19Segment_e:=entM st s_l19Segment_x s_l19Segment_o [] [.wr false [.ptr 0],.st .conn] [.box [.st .curs]] (fun x y=>(y.1.1,x.2.1,())) s_l19Segment (fun v=>[(true,q_segm v.1)]) (fun x y v=>((v.2,()),())) Tryz.func169 (by kernel_rfl) trivial fun _ _=>by kernel_rfl
noncomputable def s_l19Conn_o:List (Ent1 Tryz.prog):=[s_l12Tuple_e,s_l2Deep_e,s_l8Options_e,s_l1PickInt_e,s_ConnNew_e,s_l1Below_e,s_l1Bytes_e,s_Write_e,s_TickConn_e,s_l1Once_e,s_Shut_e,s_ReadConn_e,s_l19Segment_e,s_Receive_e]
def s_l19Conn_L0_h:Sh:=⟨[(0,false,[.ptr 0 0]),(2,false,[.ptr 1 0]),(3,false,[.ptr 2 0]),(4,false,[.int .i64]),(5,false,[.int .i64])],[.box [.st .curs [.sl .any]],.box [.st .conn [.nil .piec]],.box [.st .conn [.own 3]],.of false true]⟩
noncomputable def s_l19Conn_x:Fx:=⟨322,Tryz.f322,[(0,la ⟨[0,2,3,4,5],[],false,1⟩ ⟨[2,3],[],false,1⟩)],1⟩
noncomputable def s_l19Conn_L0_T (v1:Int)(a:Curs×Conn×Conn):Tr (Stp (Curs×Conn×Conn) (Empty)):=
 .cal s_l1Below.c (a.1,8,()) fun c8=>
 .ite (c8.1==0) (.cal s_l1Below.c (c8.2,20,()) fun c9=>
  .cal s_l1Bytes.c (c9.2,c9.1,()) fun c10=>
  .cal s_Write.c (a.2.2,(toBytes c10.1),()) fun c11=>
  .ret (.next (c10.2,({a.2.1 with r.held:=[]}:Conn),c11.1)))<|
 .ite (c8.1==1) (.cal s_TickConn.c (a.2.2,()) fun c12=>
  .ret (.next (c8.2,({a.2.1 with r.held:=[]}:Conn),c12.1)))<|
 .ite (c8.1==2) (.cal s_l1Once.c (c8.2,2,()) fun c13=>
  .ite c13.1 (.cal s_Shut.c (a.2.2,()) fun c14=>
   .ret (.next (c13.2,({a.2.1 with r.held:=[]}:Conn),c14.1)))<|
  .ret (.next (c13.2,({a.2.1 with r.held:=[]}:Conn),a.2.2)))<|
 .ite (c8.1==3) (.cal s_l1Below.c (c8.2,9,()) fun c15=>
  .cal s_ReadConn.c (a.2.2,c15.1,()) fun c16=>
  .ret (.next (c15.2,({a.2.1 with r.held:=[]}:Conn),c16.1)))<|
 .cal s_l19Segment.c (c8.2,a.2.2,()) fun c17=>
 .cal s_Receive.c (a.2.2,c17.1,()) fun c18=>
 .ret (.next (c17.2,({a.2.1 with r.held:=[]}:Conn),c18.1))
noncomputable def s_l19Conn_L0_d:s_l19Conn_L0_h.V→LC s_l19Conn_L0_h (Curs×Conn×Conn) (Empty) (Int×(Curs×Conn×Conn)):=fun(v0,v1,v2,v3,v4,_)=>⟨v1,(v2,v3,v4),fun v1 a=>(v0,v1,a.1,a.2.1,a.2.2,()),fun v1 _=>(decide (v1<v0)),s_l19Conn_L0_T,up,1,(Int.toNat (v0-v1)),(fun p=>Empty.elim p),fun i a=>(i,a),fun _ k x=>k (.exit 0) (Sh.enc ⟨[(2,false,[.ptr 1 0]),(3,false,[.ptr 2 0])],[.box [.st .curs [.sl .any]],.box [.st .conn [.nil .piec]],.box [.st .conn [.own 3]],.of false true]⟩ (x.2.1,({x.2.2.1 with r.held:=[]}:Conn),x.2.2.2,()))⟩
theorem s_l19Conn_L0_s:LS Tryz.prog s_l19Conn_x [0] (leC 0 s_l19Conn_L0_h s_l19Conn_L0_d):=loopC st (orcOf_ok s_l19Conn_o) _ s_l19Conn_L0_d [] trivial (by kernel_rfl) (fun _=>by kernel_rfl) fun _ _ _ _ _ _=>by kernel_rfl
theorem s_l19Conn_L0_k {v0 v1:Int}{v2:Curs}{v3 v4:Conn}(h0:0≤v1)(h1:v0≤4611686018427387904)(h2:sm_curs v2∧sm_conn v3∧sm_conn v4):(s_l19Conn_L0_d (v0,v1,v2,v3,v4,())).U v0 (fun v1 a=>sm_curs a.1∧sm_conn a.2.1∧sm_conn a.2.2) (fun _=>True):=
 LC.okU (i:=v1) (a:=(v2,v3,v4)) (fun _ _=>rfl) (fun _=>rfl) rfl h0 h1 h2 fun v1 (v2,v3,v4) hj hk hv=>by
  refine Tr.C ?_ fun _ _ _=>Tr.I (fun _=>Tr.C ?_ fun _ _ _=>Tr.C ?_ fun _ _ _=>Tr.C ?_ fun _ _ _=>Tr.Rn ?_) fun _=>Tr.I (fun _=>Tr.C ?_ fun _ _ _=>Tr.Rn ?_) fun _=>Tr.I (fun _=>Tr.C ?_ fun _ _ _=>Tr.I (fun _=>Tr.C ?_ fun _ _ _=>Tr.Rn ?_) fun _=>Tr.Rn ?_) fun _=>Tr.I (fun _=>Tr.C ?_ fun _ _ _=>Tr.C ?_ fun _ _ _=>Tr.Rn ?_) fun _=>Tr.C ?_ fun _ _ _=>Tr.C ?_ fun _ _ _=>Tr.Rn ?_
  all_goals (grind)
noncomputable def s_l19Conn:FT (Curs×Unit) (Conn×Curs) (fun x=>sm_curs x.1) (fun x v=>sm_conn v.1∧sm_curs v.2):=⟨fun(y0,_)=>
  .cal s_l12Tuple.c (y0,()) fun c1=>
  .cal s_l2Deep.c (c1.2,()) fun c2=>
  .cal s_l2Deep.c (c2.2,()) fun c3=>
  .cal s_l8Options.c (c3.2,()) fun c4=>
  .cal s_l1PickInt.c (c4.2,[0,4,64,65535],()) fun c5=>
  .cal s_ConnNew.c (c1.1,c2.1,c3.1,c4.1,c5.1,()) fun c6=>
  .cal s_l1Below.c (c5.2,9,()) fun c7=>
  .lp (s_l19Conn_L0_d (c7.1,0,c7.2,(⟨⟨0,0,0⟩,0,⟨0,[],0,false,false,false⟩,⟨0,[],[],0,false⟩,0,0,⟨0,0,false,false,0,0⟩,0,0⟩:Conn),c6,())).lp fun(_,a19_0,_,a19_2)=>
  .ret (a19_2,a19_0),
 fun(y0,_) hp=>by
  refine Tr.C ?_ fun _ _ _=>Tr.C ?_ fun _ _ _=>Tr.C ?_ fun _ _ _=>Tr.C ?_ fun _ _ _=>Tr.C ?_ fun _ _ _=>Tr.C trivial fun _ _ _=>Tr.C ?_ fun _ _ _=>Tr.L (s_l19Conn_L0_k ?_ ?_ ?_) (fun(a19_0,a19_1,a19_2) _=>Tr.R ?_) (fun p=>Empty.elim p)
  all_goals ((try simp only[s_l19Conn_L0_d,LC.lp,LC.ct,Ct.lp]at*)<;>grind)⟩
noncomputable def s_l19Conn_e:=entM st s_l19Conn_x s_l19Conn_o [(leC 0 s_l19Conn_L0_h s_l19Conn_L0_d)] [.wr false [.ptr 0]] [.box [.st .curs]] (fun x y=>(y.1.1,())) s_l19Conn (fun v=>[(true,q_conn (.o true) v.1)]) (fun x y v=>((v.2,()),())) Tryz.func322 (by kernel_rfl) ⟨s_l19Conn_L0_s,trivial⟩ fun _ _=>by kernel_rfl
noncomputable def s_l25Table_o:List (Ent1 Tryz.prog):=[s_l1Below_e,s_l19Conn_e,s_PutConn_e,s_l1Once_e,s_TakeWaiting_e]
def s_l25Table_L0_h:Sh:=⟨[(0,false,[.ptr 0 0]),(3,false,[.ptr 1 0]),(4,false,[.ptr 2 0]),(5,false,[.ptr 3 0]),(6,false,[.int .i64]),(7,false,[.int .i64])],[.box [.st .curs [.sl .any]],.box [.st .limi []],.box [.st .tabl [.nil .conn,.nil .tupl]],.box [.st .tabl [.own 4,.own 5]],.of false true,.of false true]⟩
noncomputable def s_l25Table_x:Fx:=⟨285,Tryz.f285,[(0,la ⟨[0,3,4,5,6,7],[.box 5 0 .conn,.box 5 1 .tupl],false,1⟩ ⟨[4,5],[],false,1⟩)],1⟩
noncomputable def s_l25Table_L0_T (v3:Limi)(v1:Int)(a:Curs×Tabl×Tabl):Tr (Stp (Curs×Tabl×Tabl) (Empty)):=
 .cal s_l19Conn.c (a.1,()) fun c6=>
 .cal s_PutConn.c (a.2.2,c6.1,v3,()) fun c7=>
 .cal s_l1Once.c (c6.2,3,()) fun c8=>
 .ite c8.1 (.cal s_TakeWaiting.c (c7.1,()) fun c9=>
  .ret (.next (c8.2,(⟨[],[]⟩:Tabl),c9.1)))<|
 .ret (.next (c8.2,(⟨[],[]⟩:Tabl),c7.1))
noncomputable def s_l25Table_L0_d:s_l25Table_L0_h.V→LC s_l25Table_L0_h (Curs×Tabl×Tabl) (Empty) (Int×(Curs×Tabl×Tabl)):=fun(v0,v1,v2,v3,v4,v5,_)=>⟨v1,(v2,v4,v5),fun v1 a=>(v0,v1,a.1,v3,a.2.1,a.2.2,()),fun v1 _=>(decide (v1<v0)),s_l25Table_L0_T v3,up,1,(Int.toNat (v0-v1)),(fun p=>Empty.elim p),fun i a=>(i,a),fun _ k x=>k (.exit 0) (Sh.enc ⟨[(4,false,[.ptr 1 0]),(5,false,[.ptr 2 0])],[.box [.st .curs [.sl .any]],.box [.st .tabl [.nil .conn,.nil .tupl]],.box [.st .tabl [.own 3,.own 4]],.of false true,.of false true]⟩ (x.2.1,(⟨[],[]⟩:Tabl),x.2.2.2,()))⟩
theorem s_l25Table_L0_s:LS Tryz.prog s_l25Table_x [0] (leC 0 s_l25Table_L0_h s_l25Table_L0_d):=loopC st (orcOf_ok s_l25Table_o) _ s_l25Table_L0_d [] trivial (by kernel_rfl) (fun _=>by kernel_rfl) fun _ _ _ _ _ _=>by kernel_rfl
theorem s_l25Table_L0_k {v0 v1:Int}{v2:Curs}{v3:Limi}{v4 v5:Tabl}(h0:0≤v1)(h1:v0≤4611686018427387904)(h2:sm_curs v2∧sm_tabl v4∧sm_tabl v5∧v5.conns.length≤16∧v5.waiting.length≤16):(s_l25Table_L0_d (v0,v1,v2,v3,v4,v5,())).U v0 (fun v1 a=>sm_curs a.1∧sm_tabl a.2.1∧sm_tabl a.2.2∧a.2.2.conns.length≤16∧a.2.2.waiting.length≤16) (fun _=>True):=
 LC.okU (i:=v1) (a:=(v2,v4,v5)) (fun _ _=>rfl) (fun _=>rfl) rfl h0 h1 h2 fun v1 (v2,v4,v5) hj hk hv=>by
  refine Tr.C ?_ fun _ _ _=>Tr.C ?_ fun _ _ _=>Tr.C ?_ fun _ _ _=>Tr.I (fun _=>Tr.C ?_ fun _ _ _=>Tr.Rn ?_) fun _=>Tr.Rn ?_
  all_goals (grind)
noncomputable def s_l25Table:FT (Curs×Limi×Unit) (Tabl×Curs) (fun x=>sm_curs x.1) (fun x v=>sm_tabl v.1∧sm_curs v.2∧v.1.conns.length≤16∧v.1.waiting.length≤16):=⟨fun(y0,x1,_)=>
  .cal s_l1Below.c (y0,4,()) fun c1=>
  .lp (s_l25Table_L0_d (c1.1,0,c1.2,x1,(⟨[],[]⟩:Tabl),(⟨[],[]⟩:Tabl),())).lp fun(_,a10_0,_,a10_2)=>
  .ret (a10_2,a10_0),
 fun(y0,x1,_) hp=>by
  refine Tr.C ?_ fun _ _ _=>Tr.L (s_l25Table_L0_k ?_ ?_ ?_) (fun(a10_0,a10_1,a10_2) _=>Tr.R ?_) (fun p=>Empty.elim p)
  all_goals ((try simp only[s_l25Table_L0_d,LC.lp,LC.ct,Ct.lp]at*)<;>grind)⟩
noncomputable def s_l25Table_e:=entM st s_l25Table_x s_l25Table_o [(leC 0 s_l25Table_L0_h s_l25Table_L0_d)] [.wr false [.ptr 0],.st .limi] [.box [.st .curs]] (fun x y=>(y.1.1,x.2.1,())) s_l25Table (fun v=>[(true,q_tabl (.o true) (.o true) v.1)]) (fun x y v=>((v.2,()),())) Tryz.func285 (by kernel_rfl) ⟨s_l25Table_L0_s,trivial⟩ fun _ _=>by kernel_rfl
noncomputable def s_l17Sender_o:List (Ent1 Tryz.prog):=[s_l2Deep_e,s_l1Below_e,s_l1Bytes_e,s_Queued_e,s_NextChunk_e,s_SentOff_e,s_l17Flown_e,s_SeqAdd_e,s_Acked_e,s_l1Once_e]
def s_l17Sender_L0_h:Sh:=⟨[(0,false,[.ptr 0 0]),(2,false,[.ptr 1 0]),(3,false,[.ptr 2 0]),(4,false,[.int .i64]),(5,false,[.int .i64])],[.box [.st .curs [.sl .any]],.box [.st .sndr []],.box [.st .sndr []]]⟩
noncomputable def s_l17Sender_x:Fx:=⟨340,Tryz.f340,[(0,la ⟨[0,2,3,4,5],[],false,1⟩ ⟨[2,3],[],false,1⟩)],1⟩
noncomputable def s_l17Sender_L0_T (v1:Int)(a:Curs×Sndr):Tr (Stp (Curs×Sndr) (Empty)):=
 .cal s_l1Below.c (a.1,4,()) fun c3=>
 .ite (c3.1==0) (.cal s_l1Below.c (c3.2,20,()) fun c4=>
  .cal s_l1Bytes.c (c4.2,c4.1,()) fun c5=>
  .cal s_Queued.c (a.2,(toBytes c5.1),()) fun c6=>
  .ret (.next (c5.2,c6.1)))<|
 .ite (c3.1==1) (.cal s_l1Below.c (c3.2,40,()) fun c7=>
  .cal s_l1Below.c (c7.2,16,()) fun c8=>
  .cal s_NextChunk.c (a.2,(IntKind.wrap .i64 (1+c7.1)),(IntKind.wrap .i64 (1+c8.1)),()) fun c9=>
  .ite c9.2 (.cal s_SentOff.c (a.2,c9.1,()) fun c10=>
   .ret (.next (c8.2,c10)))<|
  .ret (.next (c8.2,a.2)))<|
 .ite (c3.1==2) (.cal s_l17Flown.c (a.2,()) fun c11=>
  .cal s_l1Below.c (c3.2,(IntKind.wrap .i64 (c11+1)),()) fun c12=>
  .val (s_SeqAdd.f (a.2.una,c12.1,())) fun c13=>
  .cal s_Acked.c (a.2,c13,()) fun c14=>
  .ret (.next (c12.2,c14.1)))<|
 .ite a.2.fin (.ret (.next (c3.2,({a.2 with fin:=true}:Sndr))))<|
 .cal s_l1Once.c (c3.2,2,()) fun c15=>
 .ret (.next (c15.2,({a.2 with fin:=c15.1}:Sndr)))
noncomputable def s_l17Sender_L0_d:s_l17Sender_L0_h.V→LC s_l17Sender_L0_h (Curs×Sndr) (Empty) (Int×(Curs×Sndr)):=fun(v0,v1,v2,v3,v4,_)=>⟨v1,(v2,v4),fun v1 a=>(v0,v1,a.1,v3,a.2,()),fun v1 _=>(decide (v1<v0)),s_l17Sender_L0_T,up,1,(Int.toNat (v0-v1)),(fun p=>Empty.elim p),fun i a=>(i,a),fun _ k x=>k (.exit 0) (Sh.enc ⟨[(2,false,[.ptr 1 0]),(3,false,[.ptr 2 0])],[.box [.st .curs [.sl .any]],.box [.st .sndr []],.box [.st .sndr []]]⟩ (x.2.1,v3,x.2.2,()))⟩
theorem s_l17Sender_L0_s:LS Tryz.prog s_l17Sender_x [0] (leC 0 s_l17Sender_L0_h s_l17Sender_L0_d):=loopC st (orcOf_ok s_l17Sender_o) _ s_l17Sender_L0_d [] trivial (by kernel_rfl) (fun _=>by kernel_rfl) fun _ _ _ _ _ _=>by kernel_rfl
theorem s_l17Sender_L0_k {v0 v1:Int}{v2:Curs}{v3 v4:Sndr}(h0:0≤v1)(h1:v0≤4611686018427387904)(h2:sm_curs v2∧sm_sndr v4):(s_l17Sender_L0_d (v0,v1,v2,v3,v4,())).U v0 (fun v1 a=>sm_curs a.1∧sm_sndr a.2) (fun _=>True):=
 LC.okU (i:=v1) (a:=(v2,v4)) (fun _ _=>rfl) (fun _=>rfl) rfl h0 h1 h2 fun v1 (v2,v4) hj hk hv=>by
  refine Tr.C ?_ fun _ _ _=>Tr.I (fun _=>Tr.C ?_ fun _ _ _=>Tr.C ?_ fun _ _ _=>Tr.C ?_ fun _ _ _=>Tr.Rn ?_) fun _=>Tr.I (fun _=>Tr.C ?_ fun _ _ _=>Tr.C ?_ fun _ _ _=>Tr.C ?_ fun _ _ _=>Tr.I (fun _=>Tr.C ?_ fun _ _ _=>Tr.Rn ?_) fun _=>Tr.Rn ?_) fun _=>Tr.I (fun _=>Tr.C ?_ fun _ _ _=>Tr.C ?_ fun _ _ _=>Tr.V fun _ _=>Tr.C ?_ fun _ _ _=>Tr.Rn ?_) fun _=>Tr.I (fun _=>Tr.Rn ?_) fun _=>Tr.C ?_ fun _ _ _=>Tr.Rn ?_
  all_goals (grind)
noncomputable def s_l17Sender:FT (Curs×Unit) (Sndr×Curs) (fun x=>sm_curs x.1) (fun x v=>sm_sndr v.1∧sm_curs v.2):=⟨fun(y0,_)=>
  .cal s_l2Deep.c (y0,()) fun c1=>
  .cal s_l1Below.c (c1.2,6,()) fun c2=>
  .lp (s_l17Sender_L0_d (c2.1,0,c2.2,(⟨0,[],0,false,false,false⟩:Sndr),(⟨c1.1,[],0,false,false,false⟩:Sndr),())).lp fun(_,a16_0,a16_1)=>
  .ret (a16_1,a16_0),
 fun(y0,_) hp=>by
  refine Tr.C ?_ fun _ _ _=>Tr.C ?_ fun _ _ _=>Tr.L (s_l17Sender_L0_k ?_ ?_ ?_) (fun(a16_0,a16_1) _=>Tr.R ?_) (fun p=>Empty.elim p)
  all_goals ((try simp only[s_l17Sender_L0_d,LC.lp,LC.ct,Ct.lp]at*)<;>grind)⟩
noncomputable def s_l17Sender_e:=entM st s_l17Sender_x s_l17Sender_o [(leC 0 s_l17Sender_L0_h s_l17Sender_L0_d)] [.wr false [.ptr 0]] [.box [.st .curs]] (fun x y=>(y.1.1,())) s_l17Sender (fun v=>[(true,q_sndr v.1)]) (fun x y v=>((v.2,()),())) Tryz.func340 (by kernel_rfl) ⟨s_l17Sender_L0_s,trivial⟩ fun _ _=>by kernel_rfl
noncomputable def s_l17Bent:FT (Curs×Unit) (Sndr×Curs) (fun x=>sm_curs x.1) (fun x v=>sm_sndr v.1∧sm_curs v.2):=⟨fun(y0,_)=>
  .cal s_l17Sender.c (y0,()) fun c1=>
  .cal s_l1Below.c (c1.2,10,()) fun c2=>
  .ite (c2.1==0) (.cal s_l2Word.c (c2.2,()) fun c3=>
   .ret (({c1.1 with una:=c3.1}:Sndr),c3.2))<|
  .ite (c2.1==1) (.cal s_l1PickInt.c (c2.2,[(-1),0,48,49,(IntKind.wrap .i64 ((c1.1.data.length:Int)+1))],()) fun c4=>
   .ret (({c1.1 with sent:=c4.1}:Sndr),c4.2))<|
  .ite (c2.1==2) (.ret (({c1.1 with finSent:=(!c1.1.finSent)}:Sndr),c2.2))<|
  .ite (c2.1==3) (.ret (({c1.1 with done:=(!c1.1.done)}:Sndr),c2.2))<|
  .ite (c2.1==4) (.cal s_l1Below.c (c2.2,3,()) fun c5=>
   .cal s_l5Long.c ((IntKind.wrap .i64 (47+c5.1)),()) fun c6=>
   .ret (({c1.1 with data:=c6}:Sndr),c5.2))<|
  .ret (c1.1,c2.2),
 fun(y0,_) hp=>by
  refine Tr.C ?_ fun _ _ _=>Tr.C ?_ fun _ _ _=>Tr.I (fun _=>Tr.C ?_ fun _ _ _=>Tr.R ?_) fun _=>Tr.I (fun _=>Tr.C ?_ fun _ _ _=>Tr.R ?_) fun _=>Tr.I (fun _=>Tr.R ?_) fun _=>Tr.I (fun _=>Tr.R ?_) fun _=>Tr.I (fun _=>Tr.C ?_ fun _ _ _=>Tr.C ?_ fun _ _ _=>Tr.R ?_) fun _=>Tr.R ?_
  all_goals (grind)⟩
noncomputable def s_l17Bent_e:=entM st ⟨324,Tryz.f324,[],1⟩ [s_l17Sender_e,s_l1Below_e,s_l2Word_e,s_l1PickInt_e,s_l5Long_e] [] [.wr false [.ptr 0]] [.box [.st .curs]] (fun x y=>(y.1.1,())) s_l17Bent (fun v=>[(true,q_sndr v.1)]) (fun x y v=>((v.2,()),())) Tryz.func324 (by kernel_rfl) trivial fun _ _=>by kernel_rfl
noncomputable def s_l18Receiver_o:List (Ent1 Tryz.prog):=[s_l2Deep_e,s_ReceiverNew_e,s_l1Below_e,s_l18Stream_e,s_Arrived_e,s_l1Once_e,s_TakenIn_e]
def s_l18Receiver_L0_h:Sh:=⟨[(0,false,[.ptr 0 0]),(2,false,[.ptr 1 0]),(3,false,[.ptr 2 0]),(4,false,[.int .i64]),(5,false,[.int .i64])],[.box [.st .curs [.sl .any]],.box [.st .recv [.nil .piec]],.box [.st .recv [.own 3]],.of false true]⟩
noncomputable def s_l18Receiver_x:Fx:=⟨341,Tryz.f341,[(0,la ⟨[0,2,3,4,5],[],false,1⟩ ⟨[2,3],[],false,1⟩)],1⟩
noncomputable def s_l18Receiver_L0_T (v1:Int)(a:Curs×Recv×Recv):Tr (Stp (Curs×Recv×Recv) (Empty)):=
 .cal s_l18Stream.c (a.1,a.2.2,()) fun c4=>
 .cal s_Arrived.c (a.2.2,c4.1,c4.2.1,c4.2.2.1,()) fun c5=>
 .cal s_l1Once.c (c4.2.2.2,3,()) fun c6=>
 .ite c6.1 (.cal s_l1Below.c (c6.2,20,()) fun c7=>
  .cal s_TakenIn.c (c5,c7.1,()) fun c8=>
  .ret (.next (c7.2,({a.2.1 with held:=[]}:Recv),c8.1)))<|
 .ret (.next (c6.2,({a.2.1 with held:=[]}:Recv),c5))
noncomputable def s_l18Receiver_L0_d:s_l18Receiver_L0_h.V→LC s_l18Receiver_L0_h (Curs×Recv×Recv) (Empty) (Int×(Curs×Recv×Recv)):=fun(v0,v1,v2,v3,v4,_)=>⟨v1,(v2,v3,v4),fun v1 a=>(v0,v1,a.1,a.2.1,a.2.2,()),fun v1 _=>(decide (v1<v0)),s_l18Receiver_L0_T,up,1,(Int.toNat (v0-v1)),(fun p=>Empty.elim p),fun i a=>(i,a),fun _ k x=>k (.exit 0) (Sh.enc ⟨[(2,false,[.ptr 1 0]),(3,false,[.ptr 2 0])],[.box [.st .curs [.sl .any]],.box [.st .recv [.nil .piec]],.box [.st .recv [.own 3]],.of false true]⟩ (x.2.1,({x.2.2.1 with held:=[]}:Recv),x.2.2.2,()))⟩
theorem s_l18Receiver_L0_s:LS Tryz.prog s_l18Receiver_x [0] (leC 0 s_l18Receiver_L0_h s_l18Receiver_L0_d):=loopC st (orcOf_ok s_l18Receiver_o) _ s_l18Receiver_L0_d [] trivial (by kernel_rfl) (fun _=>by kernel_rfl) fun _ _ _ _ _ _=>by kernel_rfl
theorem s_l18Receiver_L0_k {v0 v1:Int}{v2:Curs}{v3 v4:Recv}(h0:0≤v1)(h1:v0≤4611686018427387904)(h2:sm_curs v2∧sm_recv v3∧sm_recv v4∧v4.held.length≤3):(s_l18Receiver_L0_d (v0,v1,v2,v3,v4,())).U v0 (fun v1 a=>sm_curs a.1∧sm_recv a.2.1∧sm_recv a.2.2∧a.2.2.held.length≤3) (fun _=>True):=
 LC.okU (i:=v1) (a:=(v2,v3,v4)) (fun _ _=>rfl) (fun _=>rfl) rfl h0 h1 h2 fun v1 (v2,v3,v4) hj hk hv=>by
  refine Tr.C ?_ fun _ _ _=>Tr.C ?_ fun _ _ _=>Tr.C ?_ fun _ _ _=>Tr.I (fun _=>Tr.C ?_ fun _ _ _=>Tr.C ?_ fun _ _ _=>Tr.Rn ?_) fun _=>Tr.Rn ?_
  all_goals (grind)
noncomputable def s_l18Receiver:FT (Curs×Unit) (Recv×Curs) (fun x=>sm_curs x.1) (fun x v=>sm_recv v.1∧sm_curs v.2∧v.1.held.length≤3):=⟨fun(y0,_)=>
  .cal s_l2Deep.c (y0,()) fun c1=>
  .cal s_ReceiverNew.c (c1.1,()) fun c2=>
  .cal s_l1Below.c (c1.2,7,()) fun c3=>
  .lp (s_l18Receiver_L0_d (c3.1,0,c3.2,(⟨0,[],[],0,false⟩:Recv),c2,())).lp fun(_,a9_0,_,a9_2)=>
  .ret (a9_2,a9_0),
 fun(y0,_) hp=>by
  refine Tr.C ?_ fun _ _ _=>Tr.C trivial fun _ _ _=>Tr.C ?_ fun _ _ _=>Tr.L (s_l18Receiver_L0_k ?_ ?_ ?_) (fun(a9_0,a9_1,a9_2) _=>Tr.R ?_) (fun p=>Empty.elim p)
  all_goals ((try simp only[s_l18Receiver_L0_d,LC.lp,LC.ct,Ct.lp]at*)<;>grind)⟩
noncomputable def s_l18Receiver_e:=entM st s_l18Receiver_x s_l18Receiver_o [(leC 0 s_l18Receiver_L0_h s_l18Receiver_L0_d)] [.wr false [.ptr 0]] [.box [.st .curs]] (fun x y=>(y.1.1,())) s_l18Receiver (fun v=>[(true,q_recv (.o true) v.1)]) (fun x y v=>((v.2,()),())) Tryz.func341 (by kernel_rfl) ⟨s_l18Receiver_L0_s,trivial⟩ fun _ _=>by kernel_rfl
noncomputable def s_l18Bent:FT (Curs×Unit) (Recv×Curs) (fun x=>sm_curs x.1) (fun x v=>sm_recv v.1∧sm_curs v.2):=⟨fun(y0,_)=>
  .cal s_l18Receiver.c (y0,()) fun c1=>
  .cal s_l1Below.c (c1.2,12,()) fun c2=>
  .ite (c2.1==0) (.cal s_l2Word.c (c2.2,()) fun c3=>
   .ret (({c1.1 with next:=c3.1}:Recv),c3.2))<|
  .ite (c2.1==1) (.cal s_l1PickInt.c (c2.2,[(-2),(-1),0,5,32,33],()) fun c4=>
   .ret (({c1.1 with fin:=c4.1}:Recv),c4.2))<|
  .ite (c2.1==2) (.ret (({c1.1 with done:=(!c1.1.done)}:Recv),c2.2))<|
  .ite (c2.1==3) (.cal s_l1PickInt.c (c2.2,[0,1,20,31,32,(-1),9223372036854775807],()) fun c5=>
   .cal s_l1Pick.c (c5.2,[[],[120],[121,122]],()) fun c6=>
   .grd (Nat.ble ((2*(c1.1.held.length+1)+1024)*24) maxSl)<|
   .ret (({c1.1 with held:=(c1.1.held++[(⟨c5.1,c6.1⟩:Piec)])}:Recv),c6.2))<|
  .ite (c2.1==4) (.cal s_l1Below.c (c2.2,3,()) fun c7=>
   .cal s_l5Long.c ((IntKind.wrap .i64 (31+c7.1)),()) fun c8=>
   .ret (({c1.1 with data:=c8}:Recv),c7.2))<|
  .ret (c1.1,c2.2),
 fun(y0,_) hp=>by
  refine Tr.C ?_ fun _ _ _=>Tr.C ?_ fun _ _ _=>Tr.I (fun _=>Tr.C ?_ fun _ _ _=>Tr.R ?_) fun _=>Tr.I (fun _=>Tr.C ?_ fun _ _ _=>Tr.R ?_) fun _=>Tr.I (fun _=>Tr.R ?_) fun _=>Tr.I (fun _=>Tr.C ?_ fun _ _ _=>Tr.C ?_ fun _ _ _=>Tr.Gb ?_ fun _=>Tr.R ?_) fun _=>Tr.I (fun _=>Tr.C ?_ fun _ _ _=>Tr.C ?_ fun _ _ _=>Tr.R ?_) fun _=>Tr.R ?_
  all_goals (grind)⟩
noncomputable def s_l18Bent_e:=entM st ⟨325,Tryz.f325,[],1⟩ [s_l18Receiver_e,s_l1Below_e,s_l2Word_e,s_l1PickInt_e,s_l1Pick_e,s_l5Long_e] [] [.wr false [.ptr 0]] [.box [.st .curs]] (fun x y=>(y.1.1,())) s_l18Bent (fun v=>[(true,q_recv (.o true) v.1)]) (fun x y v=>((v.2,()),())) Tryz.func325 (by kernel_rfl) trivial fun _ _=>by kernel_rfl
noncomputable def s_l19Bent_o:List (Ent1 Tryz.prog):=[s_l19Conn_e,s_l1Below_e,s_l17Bent_e,s_l18Bent_e,s_l1PickInt_e,s_l8Bent_e,s_l12Bent_e]
def s_l19Bent_J8_a:An:=⟨⟨[],[],false,1⟩,⟨[2,3],[],false,1⟩,⟨[],[]⟩,[(.normal,⟨[(2,false,[.ptr 1 0]),(3,false,[.ptr 2 0])],[.box [.st .curs [.sl .any]],.box [.st .conn [.nil .piec]],.box [.st .conn [.own 3]],.of false true]⟩)]⟩
noncomputable def s_l19Bent_x:Fx:=⟨286,Tryz.f286,[(1000008,s_l19Bent_J8_a)],1⟩
noncomputable def s_l19Bent:FT (Curs×Unit) (Conn×Curs) (fun x=>sm_curs x.1) (fun x v=>sm_conn v.1∧sm_curs v.2):=⟨fun(y0,_)=>
  .cal s_l19Conn.c (y0,()) fun c1=>
  .cal s_l1Below.c (c1.2,16,()) fun c2=>
  .bnd (β:=WT s_l19Bent_J8_a.es) (.ite (c2.1==0) (.cal s_l1Below.c (c2.2,11,()) fun c3=>
    .ret (c3.2,(⟨⟨0,0,0⟩,0,⟨0,[],0,false,false,false⟩,⟨0,[],[],0,false⟩,0,0,⟨0,0,false,false,0,0⟩,0,0⟩:Conn),({c1.1 with state:=(IntKind.wrap .i64 (c3.1-1))}:Conn),()))<|
   .ite (c2.1==1) (.cal s_l17Bent.c (c2.2,()) fun c4=>
    .ret (c4.2,(⟨⟨0,0,0⟩,0,⟨0,[],0,false,false,false⟩,⟨0,[],[],0,false⟩,0,0,⟨0,0,false,false,0,0⟩,0,0⟩:Conn),({c1.1 with s.una:=c4.1.una,s.data:=c4.1.data,s.sent:=c4.1.sent,s.fin:=c4.1.fin,s.finSent:=c4.1.finSent,s.done:=c4.1.done}:Conn),()))<|
   .ite (c2.1==2) (.cal s_l18Bent.c (c2.2,()) fun c5=>
    .ret (c5.2,(⟨⟨0,0,0⟩,0,⟨0,[],0,false,false,false⟩,⟨0,[],[],0,false⟩,0,0,⟨0,0,false,false,0,0⟩,0,0⟩:Conn),({c1.1 with r.next:=c5.1.next,r.data:=c5.1.data,r.held:=c5.1.held,r.fin:=c5.1.fin,r.done:=c5.1.done}:Conn),()))<|
   .ite (c2.1==3) (.cal s_l1PickInt.c (c2.2,[(-1),0,c1.1.most,(IntKind.wrap .i64 (c1.1.most+1))],()) fun c6=>
    .ret (c6.2,(⟨⟨0,0,0⟩,0,⟨0,[],0,false,false,false⟩,⟨0,[],[],0,false⟩,0,0,⟨0,0,false,false,0,0⟩,0,0⟩:Conn),({c1.1 with window:=c6.1}:Conn),()))<|
   .ite (c2.1==4) (.cal s_l1PickInt.c (c2.2,[(-1),0,3,4,5],()) fun c7=>
    .ret (c7.2,(⟨⟨0,0,0⟩,0,⟨0,[],0,false,false,false⟩,⟨0,[],[],0,false⟩,0,0,⟨0,0,false,false,0,0⟩,0,0⟩:Conn),({c1.1 with timer:=c7.1}:Conn),()))<|
   .ite (c2.1==5) (.cal s_l1PickInt.c (c2.2,[(-1),0,3,4],()) fun c8=>
    .ret (c8.2,(⟨⟨0,0,0⟩,0,⟨0,[],0,false,false,false⟩,⟨0,[],[],0,false⟩,0,0,⟨0,0,false,false,0,0⟩,0,0⟩:Conn),({c1.1 with tries:=c8.1}:Conn),()))<|
   .ite (c2.1==6) (.cal s_l8Bent.c (c2.2,()) fun c9=>
    .ret (c9.2,(⟨⟨0,0,0⟩,0,⟨0,[],0,false,false,false⟩,⟨0,[],[],0,false⟩,0,0,⟨0,0,false,false,0,0⟩,0,0⟩:Conn),({c1.1 with opts.mss:=c9.1.mss,opts.scale:=c9.1.scale,opts.sack:=c9.1.sack,opts.stamp:=c9.1.stamp,opts.val:=c9.1.val,opts.echo:=c9.1.echo}:Conn),()))<|
   .ite (c2.1==7) (.cal s_l12Bent.c (c2.2,()) fun c10=>
    .ret (c10.2,(⟨⟨0,0,0⟩,0,⟨0,[],0,false,false,false⟩,⟨0,[],[],0,false⟩,0,0,⟨0,0,false,false,0,0⟩,0,0⟩:Conn),({c1.1 with tuple.ip:=c10.1.ip,tuple.port:=c10.1.port,tuple.my:=c10.1.my}:Conn),()))<|
   .ret (c2.2,(⟨⟨0,0,0⟩,0,⟨0,[],0,false,false,false⟩,⟨0,[],[],0,false⟩,0,0,⟨0,0,false,false,0,0⟩,0,0⟩:Conn),c1.1,())) fun(u11a0,_,u11a2,_)=>
  .ret (u11a2,u11a0),
 fun(y0,_) hp=>by
  refine Tr.C ?_ fun _ _ _=>Tr.C ?_ fun _ _ _=>Tr.B (Q':=fun w=>sm_curs w.1∧sm_conn w.2.1∧sm_conn w.2.2.1) (Tr.I (fun _=>Tr.C ?_ fun _ _ _=>Tr.R ?_) fun _=>Tr.I (fun _=>Tr.C ?_ fun _ _ _=>Tr.R ?_) fun _=>Tr.I (fun _=>Tr.C ?_ fun _ _ _=>Tr.R ?_) fun _=>Tr.I (fun _=>Tr.C ?_ fun _ _ _=>Tr.R ?_) fun _=>Tr.I (fun _=>Tr.C ?_ fun _ _ _=>Tr.R ?_) fun _=>Tr.I (fun _=>Tr.C ?_ fun _ _ _=>Tr.R ?_) fun _=>Tr.I (fun _=>Tr.C ?_ fun _ _ _=>Tr.R ?_) fun _=>Tr.I (fun _=>Tr.C ?_ fun _ _ _=>Tr.R ?_) fun _=>Tr.R ?_) (fun(u11a0,u11a1,u11a2,_) _ _=>Tr.R ?_)
  all_goals ((try simp only[Tr.nice,letK]at*)<;>grind)⟩
noncomputable def s_l19Bent_e:=entM st s_l19Bent_x s_l19Bent_o [] [.wr false [.ptr 0]] [.box [.st .curs]] (fun x y=>(y.1.1,())) s_l19Bent (fun v=>[(true,q_conn (.o true) v.1)]) (fun x y v=>((v.2,()),())) Tryz.func286 (by kernel_rfl) trivial fun _ _=>by kernel_rfl
noncomputable def s_l25Bent_o:List (Ent1 Tryz.prog):=[s_l25Limits_e,s_l25Table_e,s_l1Below_e,s_l19Bent_e,s_l12Tuple_e,s_l1PickInt_e]
def s_l25Bent_J13_a:An:=⟨⟨[],[],false,1⟩,⟨[2,3,4,5],[],false,1⟩,⟨[],[]⟩,[(.normal,⟨[(2,false,[.ptr 1 0]),(3,false,[.ptr 2 0]),(4,false,[.ptr 3 0]),(5,false,[.ptr 4 0])],[.box [.st .curs [.sl .any]],.box [.st .tabl [.nil .conn,.nil .tupl]],.box [.st .limi []],.box [.st .limi []],.box [.st .tabl [.own 5,.own 6]],.of false true,.of false true]⟩)]⟩
noncomputable def s_l25Bent_x:Fx:=⟨208,Tryz.f208,[(1000013,s_l25Bent_J13_a)],1⟩
noncomputable def s_l25Bent:FT (Curs×Unit) (Tabl×Limi×Curs) (fun x=>sm_curs x.1) (fun x v=>sm_tabl v.1∧sm_curs v.2.2):=⟨fun(y0,_)=>
  .cal s_l25Limits.c (y0,()) fun c1=>
  .cal s_l25Table.c (c1.2,c1.1,()) fun c2=>
  .cal s_l1Below.c (c2.2,10,()) fun c3=>
  .bnd (β:=WT s_l25Bent_J13_a.es) (.ite (c3.1==0) (.cal s_l19Bent.c (c3.2,()) fun c4=>
    .grd (Nat.ble ((2*(c2.1.conns.length+1)+1024)*208) maxSl)<|
    .ret (c4.2,(⟨[],[]⟩:Tabl),(⟨0,0,0,0⟩:Limi),c1.1,(⟨(c2.1.conns++[c4.1]),c2.1.waiting⟩:Tabl),()))<|
   .ite (c3.1==1) (.cal s_l12Tuple.c (c3.2,()) fun c5=>
    .grd (Nat.ble ((2*(c2.1.waiting.length+1)+1024)*24) maxSl)<|
    .ret (c5.2,(⟨[],[]⟩:Tabl),(⟨0,0,0,0⟩:Limi),c1.1,(⟨c2.1.conns,(c2.1.waiting++[c5.1])⟩:Tabl),()))<|
   .ite (c3.1==2) (.cal s_l1PickInt.c (c3.2,[0,16,17,1],()) fun c6=>
    .ret (c6.2,(⟨[],[]⟩:Tabl),(⟨0,0,0,0⟩:Limi),({c1.1 with conns:=c6.1}:Limi),c2.1,()))<|
   .ite (c3.1==3) (.cal s_l1PickInt.c (c3.2,[(-1),1000,1001],()) fun c7=>
    .ret (c7.2,(⟨[],[]⟩:Tabl),(⟨0,0,0,0⟩:Limi),({c1.1 with chal:=c7.1}:Limi),c2.1,()))<|
   .ite (c3.1==4) (.ite (decide (0<(c2.1.conns.length:Int))) (.grd (decide (0<(c2.1.conns.length:Int)))<|
     .grd (Nat.ble ((2*(c2.1.conns.length+1)+1024)*208) maxSl)<|
     .ret (c3.2,(⟨[],[]⟩:Tabl),(⟨0,0,0,0⟩:Limi),c1.1,(⟨(c2.1.conns++[(c2.1.conns.getD 0 (Ty.zero .conn))]),c2.1.waiting⟩:Tabl),()))<|
    .ret (c3.2,(⟨[],[]⟩:Tabl),(⟨0,0,0,0⟩:Limi),c1.1,c2.1,()))<|
   .ret (c3.2,(⟨[],[]⟩:Tabl),(⟨0,0,0,0⟩:Limi),c1.1,c2.1,())) fun(u8a0,_,_,u8a3,u8a4,_)=>
  .ret (u8a4,u8a3,u8a0),
 fun(y0,_) hp=>by
  refine Tr.C ?_ fun _ _ _=>Tr.C ?_ fun _ _ _=>Tr.C ?_ fun _ _ _=>Tr.B (Q':=fun w=>sm_curs w.1∧sm_tabl w.2.1∧sm_tabl w.2.2.2.2.1) (Tr.I (fun _=>Tr.C ?_ fun _ _ _=>Tr.Gb ?_ fun _=>Tr.R ?_) fun _=>Tr.I (fun _=>Tr.C ?_ fun _ _ _=>Tr.Gb ?_ fun _=>Tr.R ?_) fun _=>Tr.I (fun _=>Tr.C ?_ fun _ _ _=>Tr.R ?_) fun _=>Tr.I (fun _=>Tr.C ?_ fun _ _ _=>Tr.R ?_) fun _=>Tr.I (fun _=>Tr.I (fun _=>Tr.G1 ?_ fun _=>Tr.Gb ?_ fun _=>Tr.R ?_) fun _=>Tr.R ?_) fun _=>Tr.R ?_) (fun(u8a0,u8a1,u8a2,u8a3,u8a4,_) _ _=>Tr.R ?_)
  all_goals ((try simp only[Tr.nice,letK]at*)<;>grind)⟩
noncomputable def s_l25Bent_e:=entM st s_l25Bent_x s_l25Bent_o [] [.wr false [.ptr 0]] [.box [.st .curs]] (fun x y=>(y.1.1,())) s_l25Bent (fun v=>[(true,q_tabl (.o true) (.o true) v.1),(true,q_limi v.2.1)]) (fun x y v=>((v.2.2,()),())) Tryz.func208 (by kernel_rfl) trivial fun _ _=>by kernel_rfl
noncomputable def s_l26Bent:FT (Curs×Unit) (Door×Curs) (fun x=>sm_curs x.1) (fun x v=>sm_door v.1∧sm_curs v.2):=⟨fun(y0,_)=>
  .cal s_l26Door.c (y0,()) fun c1=>
  .cal s_l1Below.c (c1.2,16,()) fun c2=>
  .ite (c2.1==0) (.cal s_l2Word.c (c2.2,()) fun c3=>
   .ret (({c1.1 with port:=c3.1}:Door),c3.2))<|
  .ite (c2.1==1) (.cal s_l13Bent.c (c2.2,()) fun c4=>
   .ret ((⟨c1.1.port,c1.1.clock,c4.1,c1.1.limits,c1.1.halves,c1.1.table,c1.1.chal⟩:Door),c4.2))<|
  .ite (c2.1==2) (.cal s_l24Bent.c (c2.2,()) fun c5=>
   .ret (({c1.1 with halves:=c5.1}:Door),c5.2))<|
  .ite (c2.1==3) (.cal s_l25Bent.c (c2.2,()) fun c6=>
   .ret (({c1.1 with table.conns:=c6.1.conns,table.waiting:=c6.1.waiting}:Door),c6.2.2))<|
  .ite (c2.1==4) (.cal s_l1PickInt.c (c2.2,[(-1),0,c1.1.limits.chal,(IntKind.wrap .i64 (c1.1.limits.chal+1))],()) fun c7=>
   .ret (({c1.1 with chal:=c7.1}:Door),c7.2))<|
  .ite (c2.1==5) (.cal s_l1PickInt.c (c2.2,[(-1),4294967295,4294967296],()) fun c8=>
   .ret (({c1.1 with clock:=c8.1}:Door),c8.2))<|
  .ret (c1.1,c2.2),
 fun(y0,_) hp=>by
  refine Tr.C ?_ fun _ _ _=>Tr.C ?_ fun _ _ _=>Tr.I (fun _=>Tr.C ?_ fun _ _ _=>Tr.R ?_) fun _=>Tr.I (fun _=>Tr.C ?_ fun _ _ _=>Tr.R ?_) fun _=>Tr.I (fun _=>Tr.C ?_ fun _ _ _=>Tr.R ?_) fun _=>Tr.I (fun _=>Tr.C ?_ fun _ _ _=>Tr.R ?_) fun _=>Tr.I (fun _=>Tr.C ?_ fun _ _ _=>Tr.R ?_) fun _=>Tr.I (fun _=>Tr.C ?_ fun _ _ _=>Tr.R ?_) fun _=>Tr.R ?_
  all_goals (grind)⟩
noncomputable def s_l26Bent_e:=entM st ⟨118,Tryz.f118,[],1⟩ [s_l26Door_e,s_l1Below_e,s_l2Word_e,s_l13Bent_e,s_l24Bent_e,s_l25Bent_e,s_l1PickInt_e] [] [.wr false [.ptr 0]] [.box [.st .curs]] (fun x y=>(y.1.1,())) s_l26Bent (fun v=>[(true,q_door (.o true) (.o true) (.o true) (.o true) (.o true) v.1)]) (fun x y v=>((v.2,()),())) Tryz.func118 (by kernel_rfl) trivial fun _ _=>by kernel_rfl
noncomputable def s_l9Segment:FT (Curs×Unit) (Segm×Curs) (fun x=>sm_curs x.1) (fun x v=>sm_segm v.1∧sm_curs v.2):=⟨fun(y0,_)=>
  .cal s_l1PickInt.c (y0,[40000,40001,80],()) fun c1=>
  .cal s_l1PickInt.c (c1.2,[80,80,81],()) fun c2=>
  .cal s_l2Deep.c (c2.2,()) fun c3=>
  .cal s_l2Deep.c (c3.2,()) fun c4=>
  .cal s_l9Flags.c (c4.2,()) fun c5=>
  .cal s_l1PickInt.c (c5.2,[0,1,64,65535],()) fun c6=>
  .cal s_l8Options.c (c6.2,()) fun c7=>
  .cal s_l1Below.c (c7.2,7,()) fun c8=>
  .cal s_l1Bytes.c (c8.2,c8.1,()) fun c9=>
  .ret ((⟨c1.1,c2.1,c3.1,c4.1,c5.1,c6.1,c7.1,(toBytes c9.1)⟩:Segm),c9.2),
 fun(y0,_) hp=>by
  refine Tr.C ?_ fun _ _ _=>Tr.C ?_ fun _ _ _=>Tr.C ?_ fun _ _ _=>Tr.C ?_ fun _ _ _=>Tr.C ?_ fun _ _ _=>Tr.C ?_ fun _ _ _=>Tr.C ?_ fun _ _ _=>Tr.C ?_ fun _ _ _=>Tr.C ?_ fun _ _ _=>Tr.R ?_
  all_goals (grind)⟩
noncomputable def s_l9Segment_e:=entM st ⟨211,Tryz.f211,[],1⟩ [s_l1PickInt_e,s_l2Deep_e,s_l9Flags_e,s_l8Options_e,s_l1Below_e,s_l1Bytes_e] [] [.wr false [.ptr 0]] [.box [.st .curs]] (fun x y=>(y.1.1,())) s_l9Segment (fun v=>[(true,q_segm v.1)]) (fun x y v=>((v.2,()),())) Tryz.func211 (by kernel_rfl) trivial fun _ _=>by kernel_rfl
noncomputable def s_l9Bent:FT (Curs×Unit) (Segm×Curs) (fun x=>sm_curs x.1) (fun x v=>sm_segm v.1∧sm_curs v.2):=⟨fun(y0,_)=>
  .cal s_l9Segment.c (y0,()) fun c1=>
  .cal s_l1Below.c (c1.2,12,()) fun c2=>
  .ite (c2.1==0) (.cal s_l2Word.c (c2.2,()) fun c3=>
   .ret (({c1.1 with from_:=c3.1}:Segm),c3.2))<|
  .ite (c2.1==1) (.cal s_l2Word.c (c2.2,()) fun c4=>
   .ret (({c1.1 with seq:=c4.1}:Segm),c4.2))<|
  .ite (c2.1==2) (.cal s_l1PickInt.c (c2.2,[63,64,(-1)],()) fun c5=>
   .ret (({c1.1 with flags:=c5.1}:Segm),c5.2))<|
  .ite (c2.1==3) (.cal s_l2Word.c (c2.2,()) fun c6=>
   .ret (({c1.1 with window:=c6.1}:Segm),c6.2))<|
  .ite (c2.1==4) (.cal s_l8Bent.c (c2.2,()) fun c7=>
   .ret (({c1.1 with opts.mss:=c7.1.mss,opts.scale:=c7.1.scale,opts.sack:=c7.1.sack,opts.stamp:=c7.1.stamp,opts.val:=c7.1.val,opts.echo:=c7.1.echo}:Segm),c7.2))<|
  .ite (c2.1==5) (.cal s_l1Below.c (c2.2,3,()) fun c8=>
   .cal s_l5Long.c ((IntKind.wrap .i64 (1419+c8.1)),()) fun c9=>
   .ret (({c1.1 with body:=c9}:Segm),c8.2))<|
  .ret (c1.1,c2.2),
 fun(y0,_) hp=>by
  refine Tr.C ?_ fun _ _ _=>Tr.C ?_ fun _ _ _=>Tr.I (fun _=>Tr.C ?_ fun _ _ _=>Tr.R ?_) fun _=>Tr.I (fun _=>Tr.C ?_ fun _ _ _=>Tr.R ?_) fun _=>Tr.I (fun _=>Tr.C ?_ fun _ _ _=>Tr.R ?_) fun _=>Tr.I (fun _=>Tr.C ?_ fun _ _ _=>Tr.R ?_) fun _=>Tr.I (fun _=>Tr.C ?_ fun _ _ _=>Tr.R ?_) fun _=>Tr.I (fun _=>Tr.C ?_ fun _ _ _=>Tr.C ?_ fun _ _ _=>Tr.R ?_) fun _=>Tr.R ?_
  all_goals (grind)⟩
noncomputable def s_l9Bent_e:=entM st ⟨122,Tryz.f122,[],1⟩ [s_l9Segment_e,s_l1Below_e,s_l2Word_e,s_l1PickInt_e,s_l8Bent_e,s_l5Long_e] [] [.wr false [.ptr 0]] [.box [.st .curs]] (fun x y=>(y.1.1,())) s_l9Bent (fun v=>[(true,q_segm v.1)]) (fun x y v=>((v.2,()),())) Tryz.func122 (by kernel_rfl) trivial fun _ _=>by kernel_rfl
noncomputable def s_l26Args_o:List (Ent1 Tryz.prog):=[s_l1New_e,s_l26Bent_e,s_l26Syn_e,s_l1Below_e,s_TupleOf_e,s_l1Once_e,s_l2Deep_e,s_l9Bent_e,s_l12Bent_e]
def s_l26Args_J28_a:An:=⟨⟨[],[],false,0⟩,⟨[2,3,4,5,6,7,8],[],false,0⟩,⟨[],[]⟩,[(.normal,⟨[(2,false,[.ptr 0 0]),(3,false,[.ptr 1 0]),(4,false,[.ptr 2 0]),(5,false,[.ptr 3 0]),(6,false,[.ptr 4 0]),(7,false,[.ptr 5 0]),(8,false,[.ptr 6 0])],[.box [.st .door [.nil .macRow,.nil .macRow,.nil .half,.nil .conn,.nil .tupl]],.box [.st .tupl []],.box [.st .segm []],.box [.st .curs [.sl .any]],.box [.st .door [.own 7,.own 8,.own 9,.own 10,.own 11]],.box [.st .segm []],.box [.st .tupl []],.of false true,.of false true,.of false true,.of false true,.of false true]⟩)]⟩
def s_l26Args_J52_a:An:=⟨⟨[],[],false,0⟩,⟨[2,3,4,5,6,7,8],[],false,0⟩,⟨[],[]⟩,[(.normal,⟨[(2,false,[.ptr 0 0]),(3,false,[.ptr 1 0]),(4,false,[.ptr 2 0]),(5,false,[.ptr 3 0]),(6,false,[.ptr 4 0]),(7,false,[.ptr 5 0]),(8,false,[.ptr 6 0])],[.box [.st .door [.nil .macRow,.nil .macRow,.nil .half,.nil .conn,.nil .tupl]],.box [.st .tupl []],.box [.st .segm []],.box [.st .curs [.sl .any]],.box [.st .door [.own 7,.own 8,.own 9,.own 10,.own 11]],.box [.st .segm []],.box [.st .tupl []],.of false true,.of false true,.of false true,.of false true,.of false true]⟩)]⟩
noncomputable def s_l26Args_x:Fx:=⟨42,Tryz.f42,[(1000028,s_l26Args_J28_a),(1000052,s_l26Args_J52_a)],0⟩
noncomputable def s_l26Args:FT (List Int×Unit) (Door×Tupl×Segm) (fun x=>sS x.1∧x.1.length≤1048576) (fun x v=>sm_door v.1∧sm_segm v.2.2):=⟨fun(x0,_)=>
  .cal s_l1New.c (x0,()) fun c1=>
  .cal s_l26Bent.c (c1,()) fun c2=>
  .cal s_l26Syn.c (c2.2,()) fun c3=>
  .cal s_l1Below.c (c3.2,2,()) fun c4=>
  .val (s_TupleOf.f ((IntKind.wrap .i64 (167772162+c4.1)),c3.1,())) fun c5=>
  .ite (decide (0<(c2.1.halves.length:Int))) (.cal s_l1Once.c (c4.2,2,()) fun c6=>
   .bnd (β:=WT s_l26Args_J28_a.es) (.ite c6.1 (.cal s_l1Below.c (c6.2,(c2.1.halves.length:Int),()) fun c7=>
     .grd ((decide (0≤c7.1))&&(decide (c7.1<(c2.1.halves.length:Int))))<|
     .cal s_l1Once.c (c7.2,3,()) fun c8=>
     .ite c8.1 (.cal s_l2Deep.c (c8.2,()) fun c9=>
      .ret ((⟨0,0,⟨0,⟨false,0,0,[]⟩,⟨false,0,0,[]⟩,false⟩,⟨0,0,0,0⟩,[],⟨[],[]⟩,0⟩:Door),(⟨0,0,0⟩:Tupl),(⟨0,0,0,0,0,0,⟨0,0,false,false,0,0⟩,[]⟩:Segm),c9.2,c2.1,({c3.1 with from_:=(c2.1.halves.getD c7.1.toNat (Ty.zero .half)).tuple.port,seq:=c9.1}:Segm),(c2.1.halves.getD c7.1.toNat (Ty.zero .half)).tuple,()))<|
     .ret ((⟨0,0,⟨0,⟨false,0,0,[]⟩,⟨false,0,0,[]⟩,false⟩,⟨0,0,0,0⟩,[],⟨[],[]⟩,0⟩:Door),(⟨0,0,0⟩:Tupl),(⟨0,0,0,0,0,0,⟨0,0,false,false,0,0⟩,[]⟩:Segm),c8.2,c2.1,({c3.1 with from_:=(c2.1.halves.getD c7.1.toNat (Ty.zero .half)).tuple.port,seq:=(c2.1.halves.getD c7.1.toNat (Ty.zero .half)).irs}:Segm),(c2.1.halves.getD c7.1.toNat (Ty.zero .half)).tuple,()))<|
    .ret ((⟨0,0,⟨0,⟨false,0,0,[]⟩,⟨false,0,0,[]⟩,false⟩,⟨0,0,0,0⟩,[],⟨[],[]⟩,0⟩:Door),(⟨0,0,0⟩:Tupl),(⟨0,0,0,0,0,0,⟨0,0,false,false,0,0⟩,[]⟩:Segm),c6.2,c2.1,c3.1,c5,())) fun(u10a0,u10a1,u10a2,u10a3,u10a4,u10a5,u10a6,_)=>
   .cal s_l1Once.c (u10a3,12,()) fun c11=>
   .bnd (β:=WT s_l26Args_J52_a.es) (.ite c11.1 (.cal s_l9Bent.c (c11.2,()) fun c12=>
     .ret (({u10a0 with keys.now.rows:=[],keys.before.rows:=[],halves:=[],table.conns:=[],table.waiting:=[]}:Door),u10a1,u10a2,c12.2,u10a4,c12.1,u10a6,()))<|
    .ret (({u10a0 with keys.now.rows:=[],keys.before.rows:=[],halves:=[],table.conns:=[],table.waiting:=[]}:Door),u10a1,u10a2,c11.2,u10a4,u10a5,u10a6,())) fun(_,_,_,u13a3,u13a4,u13a5,u13a6,_)=>
   .cal s_l1Once.c (u13a3,12,()) fun c14=>
   .ite c14.1 (.cal s_l12Bent.c (c14.2,()) fun c15=>
    .ret (u13a4,c15.1,u13a5))<|
   .ret (u13a4,u13a6,u13a5))<|
  .cal s_l1Once.c (c4.2,12,()) fun c16=>
  .bnd (β:=WT s_l26Args_J52_a.es) (.ite c16.1 (.cal s_l9Bent.c (c16.2,()) fun c17=>
    .ret ((⟨0,0,⟨0,⟨false,0,0,[]⟩,⟨false,0,0,[]⟩,false⟩,⟨0,0,0,0⟩,[],⟨[],[]⟩,0⟩:Door),(⟨0,0,0⟩:Tupl),(⟨0,0,0,0,0,0,⟨0,0,false,false,0,0⟩,[]⟩:Segm),c17.2,c2.1,c17.1,c5,()))<|
   .ret ((⟨0,0,⟨0,⟨false,0,0,[]⟩,⟨false,0,0,[]⟩,false⟩,⟨0,0,0,0⟩,[],⟨[],[]⟩,0⟩:Door),(⟨0,0,0⟩:Tupl),(⟨0,0,0,0,0,0,⟨0,0,false,false,0,0⟩,[]⟩:Segm),c16.2,c2.1,c3.1,c5,())) fun(_,_,_,u18a3,u18a4,u18a5,u18a6,_)=>
  .cal s_l1Once.c (u18a3,12,()) fun c19=>
  .ite c19.1 (.cal s_l12Bent.c (c19.2,()) fun c20=>
   .ret (u18a4,c20.1,u18a5))<|
  .ret (u18a4,u18a6,u18a5),
 fun(x0,_) hp=>by
  refine Tr.C ?_ fun _ _ _=>Tr.C ?_ fun _ _ _=>Tr.C ?_ fun _ _ _=>Tr.C ?_ fun _ _ _=>Tr.V fun _ _=>Tr.I (fun _=>Tr.C ?_ fun _ _ _=>Tr.B (Q':=fun w=>sm_door w.1∧sm_segm w.2.2.1∧sm_curs w.2.2.2.1∧sm_door w.2.2.2.2.1∧sm_segm w.2.2.2.2.2.1) (Tr.I (fun _=>Tr.C ?_ fun _ _ _=>Tr.G2 ?_ fun _=>Tr.C ?_ fun _ _ _=>Tr.I (fun _=>Tr.C ?_ fun _ _ _=>Tr.R ?_) fun _=>Tr.R ?_) fun _=>Tr.R ?_) (fun(u10a0,u10a1,u10a2,u10a3,u10a4,u10a5,u10a6,_) _ _=>Tr.C ?_ fun _ _ _=>Tr.B (Q':=fun w=>sm_door w.1∧sm_segm w.2.2.1∧sm_curs w.2.2.2.1∧sm_door w.2.2.2.2.1∧sm_segm w.2.2.2.2.2.1) (Tr.I (fun _=>Tr.C ?_ fun _ _ _=>Tr.R ?_) fun _=>Tr.R ?_) (fun(u13a0,u13a1,u13a2,u13a3,u13a4,u13a5,u13a6,_) _ _=>Tr.C ?_ fun _ _ _=>Tr.I (fun _=>Tr.C ?_ fun _ _ _=>Tr.R ?_) fun _=>Tr.R ?_))) fun _=>Tr.C ?_ fun _ _ _=>Tr.B (Q':=fun w=>sm_door w.1∧sm_segm w.2.2.1∧sm_curs w.2.2.2.1∧sm_door w.2.2.2.2.1∧sm_segm w.2.2.2.2.2.1) (Tr.I (fun _=>Tr.C ?_ fun _ _ _=>Tr.R ?_) fun _=>Tr.R ?_) (fun(u18a0,u18a1,u18a2,u18a3,u18a4,u18a5,u18a6,_) _ _=>Tr.C ?_ fun _ _ _=>Tr.I (fun _=>Tr.C ?_ fun _ _ _=>Tr.R ?_) fun _=>Tr.R ?_)
  all_goals ((try simp only[Tr.nice,letK]at*)<;>grind)⟩
noncomputable def s_l26Args_e:=entT st s_l26Args_x s_l26Args_o [] (ks:=[.sc (.sl .u8)]) s_l26Args (fun v=>[(true,q_door (.o true) (.o true) (.o true) (.o true) (.o true) v.1),(true,q_tupl v.2.1),(true,q_segm v.2.2)]) Tryz.func42 trivial fun _=>by kernel_rfl
noncomputable def s_DrawAckIn_o:List (Ent1 Tryz.prog):=[s_l26Args_e,s_l1New_e,s_SynAck_e,s_FindHalf_e,s_l1Once_e,s_l26Ack_e]
def s_DrawAckIn_J28_a:An:=⟨⟨[],[],false,0⟩,⟨[2,3,4,5,6,7,8,9],[],false,0⟩,⟨[],[]⟩,[(.normal,⟨[(2,false,[.ptr 0 0]),(3,false,[.ptr 1 0]),(4,false,[.ptr 2 0]),(5,false,[.ptr 3 0]),(6,false,[.ptr 4 0]),(7,false,[.ptr 5 0]),(8,false,[.ptr 6 0]),(9,false,[.ptr 7 0])],[.box [.st .door [.nil .macRow,.nil .macRow,.nil .half,.nil .conn,.nil .tupl]],.box [.st .tupl []],.box [.st .segm []],.box [.st .door [.own 8,.own 9,.own 10,.own 11,.own 12]],.box [.st .tupl []],.box [.st .segm []],.box [.st .curs [.sl .any]],.box [.st .segm []],.of false true,.of false true,.of false true,.of false true,.of false true]⟩)]⟩
noncomputable def s_DrawAckIn_x:Fx:=⟨10,Tryz.f10,[(1000028,s_DrawAckIn_J28_a)],0⟩
noncomputable def s_DrawAckIn:FT (List Int×Unit) (Door×Tupl×Segm) (fun x=>sS x.1∧x.1.length≤1048576) (fun x v=>sm_door v.1∧sm_segm v.2.2):=⟨fun(x0,_)=>
  .cal s_l26Args.c (x0,()) fun c1=>
  .cal s_l1New.c (x0,()) fun c2=>
  .cal s_SynAck.c (c1.1,c1.2.1,c1.2.2,()) fun c3=>
  .cal s_FindHalf.c (c1.1.halves,c1.2.1,()) fun c4=>
  .bnd (β:=WT s_DrawAckIn_J28_a.es) (.ite (decide (0≤c4)) (.grd ((decide (0≤c4))&&(decide (c4<(c1.1.halves.length:Int))))<|
    .ret ((⟨0,0,⟨0,⟨false,0,0,[]⟩,⟨false,0,0,[]⟩,false⟩,⟨0,0,0,0⟩,[],⟨[],[]⟩,0⟩:Door),(⟨0,0,0⟩:Tupl),(⟨0,0,0,0,0,0,⟨0,0,false,false,0,0⟩,[]⟩:Segm),c1.1,c1.2.1,c1.2.2,c2,({c3 with seq:=(c1.1.halves.getD c4.toNat (Ty.zero .half)).iss}:Segm),()))<|
   .ret ((⟨0,0,⟨0,⟨false,0,0,[]⟩,⟨false,0,0,[]⟩,false⟩,⟨0,0,0,0⟩,[],⟨[],[]⟩,0⟩:Door),(⟨0,0,0⟩:Tupl),(⟨0,0,0,0,0,0,⟨0,0,false,false,0,0⟩,[]⟩:Segm),c1.1,c1.2.1,c1.2.2,c2,c3,())) fun(_,_,_,u5a3,u5a4,u5a5,u5a6,u5a7,_)=>
  .cal s_l1Once.c (u5a6,8,()) fun c6=>
  .ite c6.1 (.ret (u5a3,u5a4,u5a5))<|
  .cal s_l26Ack.c (c6.2,u5a5,u5a7,()) fun c7=>
  .ret (u5a3,u5a4,c7.1),
 fun(x0,_) hp=>by
  refine Tr.C ?_ fun _ _ _=>Tr.C ?_ fun _ _ _=>Tr.C ?_ fun _ _ _=>Tr.C ?_ fun _ _ _=>Tr.B (Q':=fun w=>sm_door w.1∧sm_segm w.2.2.1∧sm_door w.2.2.2.1∧sm_segm w.2.2.2.2.2.1∧sm_curs w.2.2.2.2.2.2.1∧sm_segm w.2.2.2.2.2.2.2.1) (Tr.I (fun _=>Tr.G2 ?_ fun _=>Tr.R ?_) fun _=>Tr.R ?_) (fun(u5a0,u5a1,u5a2,u5a3,u5a4,u5a5,u5a6,u5a7,_) _ _=>Tr.C ?_ fun _ _ _=>Tr.I (fun _=>Tr.R ?_) fun _=>Tr.C ?_ fun _ _ _=>Tr.R ?_)
  all_goals ((try simp only[Tr.nice,letK]at*)<;>grind)⟩
noncomputable def s_DrawAckIn_e:=entT st s_DrawAckIn_x s_DrawAckIn_o [] (ks:=[.sc (.sl .u8)]) s_DrawAckIn (fun v=>[(true,q_door (.o true) (.o true) (.o true) (.o true) (.o true) v.1),(true,q_tupl v.2.1),(true,q_segm v.2.2)]) Tryz.func10 trivial fun _=>by kernel_rfl
noncomputable def s_l27Args_o:List (Ent1 Tryz.prog):=[s_l1New_e,s_l26Args_e,s_l1Below_e,s_DrawAckIn_e,s_l19Segment_e,s_l1Once_e,s_l9Flags_e]
def s_l27Args_J20_a:An:=⟨⟨[],[],false,0⟩,⟨[2,3,4,5,6,7,8],[],false,0⟩,⟨[],[]⟩,[(.normal,⟨[(2,false,[.ptr 0 0]),(3,false,[.int .i64]),(4,false,[.ptr 1 0]),(5,false,[.ptr 2 0]),(6,false,[.ptr 3 0]),(7,false,[.ptr 4 0]),(8,false,[.ptr 5 0])],[.box [.st .door [.nil .macRow,.nil .macRow,.nil .half,.nil .conn,.nil .tupl]],.box [.st .segm []],.box [.st .curs [.sl .any]],.box [.st .door [.own 6,.own 7,.own 8,.own 9,.own 10]],.box [.st .tupl []],.box [.st .segm []],.of false true,.of false true,.of false true,.of false true,.of false true]⟩)]⟩
def s_l27Args_J52_a:An:=⟨⟨[],[],false,0⟩,⟨[2,3,4,5,6,7,8],[],false,0⟩,⟨[],[]⟩,[(.normal,⟨[(2,false,[.ptr 0 0]),(3,false,[.int .i64]),(4,false,[.ptr 1 0]),(5,false,[.ptr 2 0]),(6,false,[.ptr 3 0]),(7,false,[.ptr 4 0]),(8,false,[.ptr 5 0])],[.box [.st .door [.nil .macRow,.nil .macRow,.nil .half,.nil .conn,.nil .tupl]],.box [.st .segm []],.box [.st .curs [.sl .any]],.box [.st .door [.own 6,.own 7,.own 8,.own 9,.own 10]],.box [.st .tupl []],.box [.st .segm []],.of false true,.of false true,.of false true,.of false true,.of false true]⟩)]⟩
noncomputable def s_l27Args_x:Fx:=⟨83,Tryz.f83,[(1000020,s_l27Args_J20_a),(1000052,s_l27Args_J52_a)],0⟩
noncomputable def s_l27Args:FT (List Int×Unit) (Door×Int×Segm) (fun x=>sS x.1∧x.1.length≤1048576) (fun x v=>sm_door v.1∧sm_segm v.2.2):=⟨fun(x0,_)=>
  .cal s_l1New.c (x0,()) fun c1=>
  .cal s_l26Args.c (x0,()) fun c2=>
  .cal s_l1Below.c (c1,4,()) fun c3=>
  .bnd (β:=WT s_l27Args_J20_a.es) (.ite (c3.1==0) (.cal s_DrawAckIn.c (x0,()) fun c4=>
    .ret (0,(⟨0,0,⟨0,⟨false,0,0,[]⟩,⟨false,0,0,[]⟩,false⟩,⟨0,0,0,0⟩,[],⟨[],[]⟩,0⟩:Door),(⟨0,0,0,0,0,0,⟨0,0,false,false,0,0⟩,[]⟩:Segm),c3.2,c4.1,c4.2.1,c4.2.2,()))<|
   .ite (c3.1==1) (.ite (decide (0<(c2.1.table.conns.length:Int))) (.cal s_l1Below.c (c3.2,(c2.1.table.conns.length:Int),()) fun c5=>
     .grd ((decide (0≤c5.1))&&(decide (c5.1<(c2.1.table.conns.length:Int))))<|
     .cal s_l19Segment.c (c5.2,(c2.1.table.conns.getD c5.1.toNat (Ty.zero .conn)),()) fun c6=>
     .ret (0,(⟨0,0,⟨0,⟨false,0,0,[]⟩,⟨false,0,0,[]⟩,false⟩,⟨0,0,0,0⟩,[],⟨[],[]⟩,0⟩:Door),(⟨0,0,0,0,0,0,⟨0,0,false,false,0,0⟩,[]⟩:Segm),c6.2,c2.1,(c2.1.table.conns.getD c5.1.toNat (Ty.zero .conn)).tuple,c6.1,()))<|
    .ret (0,(⟨0,0,⟨0,⟨false,0,0,[]⟩,⟨false,0,0,[]⟩,false⟩,⟨0,0,0,0⟩,[],⟨[],[]⟩,0⟩:Door),(⟨0,0,0,0,0,0,⟨0,0,false,false,0,0⟩,[]⟩:Segm),c3.2,c2.1,c2.2.1,c2.2.2,()))<|
   .ret (0,(⟨0,0,⟨0,⟨false,0,0,[]⟩,⟨false,0,0,[]⟩,false⟩,⟨0,0,0,0⟩,[],⟨[],[]⟩,0⟩:Door),(⟨0,0,0,0,0,0,⟨0,0,false,false,0,0⟩,[]⟩:Segm),c3.2,c2.1,c2.2.1,c2.2.2,())) fun(u7a0,u7a1,u7a2,u7a3,u7a4,u7a5,u7a6,_)=>
  .cal s_l1Once.c (u7a3,12,()) fun c8=>
  .bnd (β:=WT s_l27Args_J52_a.es) (.ite c8.1 (.cal s_l9Flags.c (c8.2,()) fun c9=>
    .ret (u7a0,({u7a1 with keys.now.rows:=[],keys.before.rows:=[],halves:=[],table.conns:=[],table.waiting:=[]}:Door),u7a2,c9.2,u7a4,u7a5,({u7a6 with flags:=c9.1}:Segm),()))<|
   .ret (u7a0,({u7a1 with keys.now.rows:=[],keys.before.rows:=[],halves:=[],table.conns:=[],table.waiting:=[]}:Door),u7a2,c8.2,u7a4,u7a5,u7a6,())) fun(_,_,_,u10a3,u10a4,u10a5,u10a6,_)=>
  .cal s_l1Once.c (u10a3,16,()) fun c11=>
  .ite c11.1 (.ret (u10a4,u10a5.ip,({u10a6 with to:=81}:Segm)))<|
  .ret (u10a4,u10a5.ip,u10a6),
 fun(x0,_) hp=>by
  refine Tr.C ?_ fun _ _ _=>Tr.C ?_ fun _ _ _=>Tr.C ?_ fun _ _ _=>Tr.B (Q':=fun w=>sm_door w.2.1∧sm_segm w.2.2.1∧sm_curs w.2.2.2.1∧sm_door w.2.2.2.2.1∧sm_segm w.2.2.2.2.2.2.1) (Tr.I (fun _=>Tr.C ?_ fun _ _ _=>Tr.R ?_) fun _=>Tr.I (fun _=>Tr.I (fun _=>Tr.C ?_ fun _ _ _=>Tr.G2 ?_ fun _=>Tr.C ?_ fun _ _ _=>Tr.R ?_) fun _=>Tr.R ?_) fun _=>Tr.R ?_) (fun(u7a0,u7a1,u7a2,u7a3,u7a4,u7a5,u7a6,_) _ _=>Tr.C ?_ fun _ _ _=>Tr.B (Q':=fun w=>sm_door w.2.1∧sm_segm w.2.2.1∧sm_curs w.2.2.2.1∧sm_door w.2.2.2.2.1∧sm_segm w.2.2.2.2.2.2.1) (Tr.I (fun _=>Tr.C ?_ fun _ _ _=>Tr.R ?_) fun _=>Tr.R ?_) (fun(u10a0,u10a1,u10a2,u10a3,u10a4,u10a5,u10a6,_) _ _=>Tr.C ?_ fun _ _ _=>Tr.I (fun _=>Tr.R ?_) fun _=>Tr.R ?_))
  all_goals ((try simp only[Tr.nice,letK]at*)<;>grind)⟩
noncomputable def s_l27Args_e:=entT st s_l27Args_x s_l27Args_o [] (ks:=[.sc (.sl .u8)]) s_l27Args (fun v=>[(true,q_door (.o true) (.o true) (.o true) (.o true) (.o true) v.1),(false,[.c (.int .i64 v.2.1)]),(true,q_segm v.2.2)]) Tryz.func83 trivial fun _=>by kernel_rfl
noncomputable def w_FnAckIn_o:List (Ent1 Tryz.prog):=[w_big_e,s_DrawAckIn_e,i_AckIn_e,s_AckIn_e,s_SameDoor_e,w_sameSegments_e,s_SeqAdd_e,s_FindHalf_e,s_CheckCookie_e,i_DoorOk_e,i_FindConn_e,i_FindHalf_e]
def w_FnAckIn_J78_a:An:=⟨⟨[],[],false,0⟩,⟨[2,3,4,6],[],false,0⟩,⟨[],[]⟩,[(.ret,⟨[(2,false,[.bool]),(3,false,[.ptr 0 0]),(4,false,[.ptr 1 0]),(6,false,[.ptr 2 0])],[.box [.st .door [.own 3,.own 4,.own 5,.own 6,.own 7]],.box [.st .tupl []],.box [.st .door [.own 8,.own 9,.own 10,.own 11,.own 12]],.of false true,.of false true,.of false true,.of false true,.of false true,.of false true,.of false true,.of false true,.of false true,.of false true]⟩),(.normal,⟨[(2,false,[.bool]),(3,false,[.ptr 0 0]),(4,false,[.ptr 1 0]),(6,false,[.ptr 2 0])],[.box [.st .door [.own 3,.own 4,.own 5,.own 6,.own 7]],.box [.st .tupl []],.box [.st .door [.own 8,.own 9,.own 10,.own 11,.own 12]],.of false true,.of false true,.of false true,.of false true,.of false true,.of false true,.of false true,.of false true,.of false true,.of false true]⟩)]⟩
noncomputable def w_FnAckIn_x:Fx:=⟨3,Tryz.f3,[(1000078,w_FnAckIn_J78_a),(3000006,rA 0 56),(3000009,rA 0 2)],0⟩
noncomputable def w_FnAckIn:FX (List Int×Unit) (Bool) (fun _=>True) (FactP [.sc (.sl .u8)]):=⟨fun(x0,_)=>
  .val (w_big.f (x0,())) fun c1=>
  .ite c1 (.ret true)<|
  .cal s_DrawAckIn.c (x0,()) fun c2=>
  .cal i_AckIn.c (c2.1,c2.2.1,c2.2.2,()) fun c3=>
  .cal s_AckIn.c (c2.1,c2.2.1,c2.2.2,()) fun c4=>
  .bnd (β:=Bool×Unit) (.ite (c3.2.2 != c4.2.2) (.ret (true,()))<|
   .cal s_SameDoor.c (c3.1,c4.1,()) fun c5=>
   .ite (!c5) (.ret (true,()))<|
   .cal w_sameSegments.c (c3.2.1,c4.2.1,()) fun c6=>
   .ret ((!c6),())) fun(u7a0,_)=>
  .ite u7a0 (.ret false)<|
  .ite (c3.2.2==0) (.bnd (β:=Bool×Unit) (.cal s_SameDoor.c (c3.1,c2.1,()) fun c8=>
    .ite c8 (.ret ((decide ((c3.2.1.length:Int)≤1)),()))<|
    .ret (false,())) fun(u9a0,_)=>
   .ret u9a0)<|
  .val (s_SeqAdd.f (c2.2.2.seq,(-1),())) fun c10=>
  .val (s_SeqAdd.f (c2.2.2.ack,(-1),())) fun c11=>
  .cal s_FindHalf.c (c2.1.halves,c2.2.1,()) fun c12=>
  .bnd (β:=WT w_FnAckIn_J78_a.es) (.ite (c3.2.2==1) (.ite (decide (c12<0)) (.ret (.inl (false,c2.1,c2.2.1,c3.1,())))<|
    .grd ((decide (0≤c12))&&(decide (c12<(c2.1.halves.length:Int))))<|
    .ite ((c2.1.halves.getD c12.toNat (Ty.zero .half)).iss != c11) (.ret (.inl (false,c2.1,c2.2.1,c3.1,())))<|
    .grd ((decide (0≤c12))&&(decide (c12<(c2.1.halves.length:Int))))<|
    .ite ((c2.1.halves.getD c12.toNat (Ty.zero .half)).irs != c10) (.ret (.inl (false,c2.1,c2.2.1,c3.1,())))<|
    .ret (.inr ((false,c2.1,c2.2.1,c3.1,()))))<|
   .cal s_CheckCookie.c (c2.1.keys,c2.2.1,c10,c11,()) fun c13=>
   .ite (!c13.2.2) (.ret (.inl (false,c2.1,c2.2.1,c3.1,())))<|
   .ite (decide (0≤c12)) (.ret (.inl (false,c2.1,c2.2.1,c3.1,())))<|
   .ret (.inr ((false,c2.1,c2.2.1,c3.1,())))) fun w14=> .sum w14 (fun(u14a0,_,_,_,_)=>
  .ret u14a0)<|
  fun(_,u14b1,u14b2,u14b3,_)=>
  .cal i_DoorOk.c (u14b3,()) fun c15=>
  .ite c15 (.cal i_FindConn.c (u14b3.table,u14b2,()) fun c16=>
   .ite (c16==(u14b1.table.conns.length:Int)) (.cal i_FindHalf.c (u14b3.halves,u14b2,()) fun c17=>
    .ret (decide (c17<0)))<|
   .ret false)<|
  .ret false,
 fun(x0,_) hp hf=>by
  simp only[FactP,Pk.fact,factH,factW,Fl.fact,Ty.fl,Ty.toH]at hf
  refine Tr.V fun _ _=>Tr.I (fun _=>Tr.R trivial) fun _=>Tr.C ?_ fun _ _ _=>Tr.C ?_ fun _ _ _=>Tr.C ?_ fun _ _ _=>Tr.B (Q':=fun _=>True) (Tr.I (fun _=>Tr.R trivial) fun _=>Tr.C ?_ fun _ _ _=>Tr.I (fun _=>Tr.R trivial) fun _=>Tr.C ?_ fun _ _ _=>Tr.R trivial) (fun(u7a0,_) _ _=>Tr.I (fun _=>Tr.R trivial) fun _=>Tr.I (fun _=>Tr.B (Q':=fun _=>True) (Tr.C ?_ fun _ _ _=>Tr.F (by kernel_rfl) trivial) (fun(u9a0,_) _ _=>Tr.R trivial)) fun _=>Tr.V fun _ _=>Tr.V fun _ _=>Tr.C ?_ fun _ _ _=>Tr.B (Q':=(Sum.elim (fun w=>sm_door w.2.1∧sm_door w.2.2.2.1) (fun w=>sm_door w.2.1∧sm_door w.2.2.2.1))) (Tr.I (fun _=>Tr.I (fun _=>Tr.R ?_) fun _=>Tr.G2 ?_ fun _=>Tr.I (fun _=>Tr.R ?_) fun _=>Tr.G2 ?_ fun _=>Tr.I (fun _=>Tr.R ?_) fun _=>Tr.R ?_) fun _=>Tr.C ?_ fun _ _ _=>Tr.I (fun _=>Tr.R ?_) fun _=>Tr.I (fun _=>Tr.R ?_) fun _=>Tr.R ?_) (fun _ _ q14=>Tr.E q14 (fun(u14a0,u14a1,u14a2,u14a3,_) _=>Tr.R trivial) (fun(u14b0,u14b1,u14b2,u14b3,_) _=>Tr.C ?_ fun _ _ _=>Tr.I (fun _=>Tr.C ?_ fun _ _ _=>Tr.I (fun _=>Tr.C ?_ fun _ _ _=>Tr.R trivial) fun _=>Tr.R trivial) fun _=>Tr.R trivial)))
  all_goals ((try simp only[Tr.nice,letK]at*)<;>grind)⟩
noncomputable def w_FnAckIn_e:=entX st w_FnAckIn_x w_FnAckIn_o [] (ks:=[.sc (.sl .u8)]) w_FnAckIn (fun v=>[(false,[.c (.bool v)])]) Tryz.func3 trivial fun _=>by kernel_rfl
noncomputable def s_DrawSegIn:FT (List Int×Unit) (Door×Int×Segm) (fun x=>sS x.1∧x.1.length≤1048576) (fun x v=>sm_door v.1∧sm_segm v.2.2):=⟨fun(x0,_)=>
  .cal s_l27Args.c (x0,()) fun c1=>
  .ret (c1.1,c1.2.1,c1.2.2),
 fun(x0,_) hp=>by
  refine Tr.C ?_ fun _ _ _=>Tr.R ?_
  all_goals (grind)⟩
noncomputable def s_DrawSegIn_e:=ent0 st Tryz.func21 [s_l27Args_e] (ks:=[.sc (.sl .u8)]) s_DrawSegIn (fun v=>[(true,q_door (.o true) (.o true) (.o true) (.o true) (.o true) v.1),(false,[.c (.int .i64 v.2.1)]),(true,q_segm v.2.2)]) fun _=>by kernel_rfl
noncomputable def w_FnSegIn_o:List (Ent1 Tryz.prog):=[w_big_e,s_DrawSegIn_e,i_SegIn_e,s_SegIn_e,s_SameDoor_e,w_sameSegments_e,s_DoorOk_e,s_SegmentOk_e,i_DoorOk_e,i_Retained_e,i_RetainedMost_e,s_Retained_e,s_RetainedMost_e]
def w_FnSegIn_L0_h:Sh:=⟨[(3,false,[.ptr 0 0]),(6,false,[.ptr 1 0]),(7,false,[.own 2]),(12,false,[.int .i64])],[.box [.st .door [.own 3,.own 4,.own 5,.own 6,.own 7]],.box [.st .door [.own 8,.own 9,.own 10,.own 11,.own 12]],.arr .segm false true,.of false true,.of false true,.of false true,.of false true,.of false true,.of false true,.of false true,.of false true,.of false true,.of false true]⟩
noncomputable def w_FnSegIn_x:Fx:=⟨4,Tryz.f4,[(0,la ⟨[3,6,7,12],[],false,0⟩ ⟨[2,3,6],[],false,0⟩),(3000006,rA 0 51),(3000009,rA 0 2)],0⟩
noncomputable def w_FnSegIn_L0_T (v3:List Segm)(v0:Int)(a:Unit):Tr (Stp (Unit) ((Unit))):=
 .grd ((decide (0≤v0))&&(decide (v0<(v3.length:Int))))<|
 .cal s_SegmentOk.c ((v3.getD v0.toNat (Ty.zero .segm)),()) fun c11=>
 .ite (!c11) (.ret (.out ()))<|
 .ret (.next ())
noncomputable def w_FnSegIn_L0_d:w_FnSegIn_L0_h.V→LC w_FnSegIn_L0_h (Unit) ((Unit)) (((Unit))⊕(Int×Unit)):=fun(v0,v1,v2,v3,_)=>⟨v0,(),fun v0 _=>(v0,v1,v2,v3,()),fun v0 _=>(decide (v0<(v3.length:Int))),w_FnSegIn_L0_T v3,up,1,(Int.toNat ((v3.length:Int)-v0)),.inl,fun i a=> .inr (i,a),fun _ k w=>Sum.elim (fun _=>k .ret (Sh.enc ⟨[(2,false,[.bool]),(3,false,[.ptr 0 0]),(6,false,[.ptr 1 0])],[.box [.st .door [.own 2,.own 3,.own 4,.own 5,.own 6]],.box [.st .door [.own 7,.own 8,.own 9,.own 10,.own 11]],.of false true,.of false true,.of false true,.of false true,.of false true,.of false true,.of false true,.of false true,.of false true,.of false true]⟩ (false,v1,v2,()))) (fun _=>k (.exit 0) (Sh.enc ⟨[(2,false,[.undef]),(3,false,[.ptr 0 0]),(6,false,[.ptr 1 0])],[.box [.st .door [.own 2,.own 3,.own 4,.own 5,.own 6]],.box [.st .door [.own 7,.own 8,.own 9,.own 10,.own 11]],.of false true,.of false true,.of false true,.of false true,.of false true,.of false true,.of false true,.of false true,.of false true,.of false true]⟩ (v1,v2,()))) w⟩
theorem w_FnSegIn_L0_s:LS Tryz.prog w_FnSegIn_x [0] (leC 0 w_FnSegIn_L0_h w_FnSegIn_L0_d):=loopC st (orcOf_ok w_FnSegIn_o) _ w_FnSegIn_L0_d [] trivial (by kernel_rfl) (fun _=>by kernel_rfl) fun _ _ _ _ _ _=>by kernel_rfl
theorem w_FnSegIn_L0_k {v0:Int}{v1 v2:Door}{v3:List Segm}(h0:0≤v0)(h1:(v3.length:Int)≤4611686018427387904):(w_FnSegIn_L0_d (v0,v1,v2,v3,())).U (v3.length:Int) (fun _ _=>True) (fun _=>True):=
 LC.okU (i:=v0) (a:=()) (fun _ _=>rfl) (fun _=>rfl) rfl h0 h1 trivial fun v0 _ hj hk hv=>by
  refine Tr.G2 ?_ fun _=>Tr.C trivial fun _ _ _=>Tr.Z (by kernel_rfl)
  all_goals (grind)
noncomputable def w_FnSegIn:FX (List Int×Unit) (Bool) (fun _=>True) (FactP [.sc (.sl .u8)]):=⟨fun(x0,_)=>
  .val (w_big.f (x0,())) fun c1=>
  .ite c1 (.ret true)<|
  .cal s_DrawSegIn.c (x0,()) fun c2=>
  .cal i_SegIn.c (c2.1,c2.2.1,c2.2.2,()) fun c3=>
  .cal s_SegIn.c (c2.1,c2.2.1,c2.2.2,()) fun c4=>
  .bnd (β:=Bool×Unit) (.ite (c3.2.2 != c4.2.2) (.ret (true,()))<|
   .cal s_SameDoor.c (c3.1,c4.1,()) fun c5=>
   .ite (!c5) (.ret (true,()))<|
   .cal w_sameSegments.c (c3.2.1,c4.2.1,()) fun c6=>
   .ret ((!c6),())) fun(u7a0,_)=>
  .ite u7a0 (.ret false)<|
  .cal s_DoorOk.c (c2.1,()) fun c8=>
  .ite (!c8) (.bnd (β:=Bool×Unit) (.cal s_SameDoor.c (c3.1,c2.1,()) fun c9=>
    .ite c9 (.ret (((c3.2.1.length:Int)==0),()))<|
    .ret (false,())) fun(u10a0,_)=>
   .ret u10a0)<|
  .lp (w_FnSegIn_L0_d (0,c2.1,c3.1,c3.2.1,())).lp fun w12=> .sum w12 (fun _=>
  .ret false)<|
  fun _=>
  .cal i_DoorOk.c (c3.1,()) fun c13=>
  .ite c13 (.cal i_Retained.c (c3.1,()) fun c14=>
   .cal i_RetainedMost.c (c2.1.limits,()) fun c15=>
   .ite (decide (c14≤c15)) (.cal i_Retained.c (c3.1,()) fun c16=>
    .cal s_Retained.c (c3.1,()) fun c17=>
    .ite (c16==c17) (.cal i_RetainedMost.c (c2.1.limits,()) fun c18=>
     .cal s_RetainedMost.c (c2.1.limits,()) fun c19=>
     .ret (c18==c19))<|
    .ret false)<|
   .ret false)<|
  .ret false,
 fun(x0,_) hp hf=>by
  simp only[FactP,Pk.fact,factH,factW,Fl.fact,Ty.fl,Ty.toH]at hf
  refine Tr.V fun _ _=>Tr.I (fun _=>Tr.R trivial) fun _=>Tr.C ?_ fun _ _ _=>Tr.C ?_ fun _ _ _=>Tr.C ?_ fun _ _ _=>Tr.B (Q':=fun _=>True) (Tr.I (fun _=>Tr.R trivial) fun _=>Tr.C ?_ fun _ _ _=>Tr.I (fun _=>Tr.R trivial) fun _=>Tr.C ?_ fun _ _ _=>Tr.R trivial) (fun(u7a0,_) _ _=>Tr.I (fun _=>Tr.R trivial) fun _=>Tr.C ?_ fun _ _ _=>Tr.I (fun _=>Tr.B (Q':=fun _=>True) (Tr.C ?_ fun _ _ _=>Tr.F (by kernel_rfl) trivial) (fun(u10a0,_) _ _=>Tr.R trivial)) fun _=>Tr.L (w_FnSegIn_L0_k ?_ ?_) (fun _ _=>Tr.Sr (Tr.C ?_ fun _ _ _=>Tr.I (fun _=>Tr.C ?_ fun _ _ _=>Tr.C trivial fun _ _ _=>Tr.I (fun _=>Tr.C ?_ fun _ _ _=>Tr.C ?_ fun _ _ _=>Tr.I (fun _=>Tr.C trivial fun _ _ _=>Tr.C trivial fun _ _ _=>Tr.R trivial) fun _=>Tr.R trivial) fun _=>Tr.R trivial) fun _=>Tr.R trivial)) (fun _ _=>Tr.Sl (Tr.R trivial)))
  all_goals ((try simp only[w_FnSegIn_L0_d,LC.lp,LC.ct,Ct.lp,Tr.nice,letK]at*)<;>grind)⟩
noncomputable def w_FnSegIn_e:=entX st w_FnSegIn_x w_FnSegIn_o [(leC 0 w_FnSegIn_L0_h w_FnSegIn_L0_d)] (ks:=[.sc (.sl .u8)]) w_FnSegIn (fun v=>[(false,[.c (.bool v)])]) Tryz.func4 ⟨w_FnSegIn_L0_s,trivial⟩ fun _=>by kernel_rfl
noncomputable def w_FnChallenges_o:List (Ent1 Tryz.prog):=[w_big_e,s_DrawSegIn_e,s_DoorOk_e,i_DoorOk_e,i_SegIn_e,s_TupleOf_e,s_FindConn_e,s_SegmentOk_e,s_Verdict_e]
def w_FnChallenges_L0_h:Sh:=⟨[(3,false,[.ptr 0 0]),(4,false,[.int .i64]),(5,false,[.ptr 1 0]),(6,false,[.int .i64]),(7,false,[.int .i64])],[.box [.st .door [.own 2,.own 3,.own 4,.own 5,.own 6]],.box [.st .segm []],.of false true,.of false true,.of false true,.of false true,.of false true]⟩
noncomputable def w_FnChallenges_x:Fx:=⟨6,Tryz.f6,[(0,la ⟨[3,4,5,6,7],[],false,0⟩ ⟨[2,3,6],[],false,0⟩),(3000012,rA 0 69)],0⟩
noncomputable def w_FnChallenges_L0_T (v0:Int)(v4:Segm)(v2:Int)(a:Int×Door):Tr (Stp (Int×Door) (Empty)):=
 .cal i_SegIn.c (a.2,v0,v4,()) fun c5=>
 .val (s_TupleOf.f (v0,v4,())) fun c6=>
 .cal s_FindConn.c (a.2.table,c6,()) fun c7=>
 .bnd (β:=Bool×Unit) (.ite (decide (0≤c7)) (.cal s_SegmentOk.c (v4,()) fun c8=>
   .ite c8 (.ite (v4.to==a.2.port) (.grd ((decide (0≤c7))&&(decide (c7<(a.2.table.conns.length:Int))))<|
     .cal s_Verdict.c ((a.2.table.conns.getD c7.toNat (Ty.zero .conn)),v4,()) fun c9=>
     .ret ((c9==3),()))<|
    .ret (false,()))<|
   .ret (false,()))<|
  .ret (false,())) fun(u10a0,_)=>
 .ite u10a0 (.ret (.next ((IntKind.wrap .i64 (a.1+(c5.2.1.length:Int))),c5.1)))<|
 .ret (.next (a.1,c5.1))
noncomputable def w_FnChallenges_L0_d:w_FnChallenges_L0_h.V→LC w_FnChallenges_L0_h (Int×Door) (Empty) (Int×(Int×Door)):=fun(v0,v1,v2,v3,v4,_)=>⟨v2,(v1,v3),fun v2 a=>(v0,a.1,v2,a.2,v4,()),fun v2 _=>(decide (v2<6)),w_FnChallenges_L0_T v0 v4,up,1,(Int.toNat (6-v2)),(fun p=>Empty.elim p),fun i a=>(i,a),fun _ k x=>k (.exit 0) (Sh.enc ⟨[(2,false,[.undef]),(3,false,[.ptr 0 0]),(6,false,[.int .i64])],[.box [.st .door [.own 1,.own 2,.own 3,.own 4,.own 5]],.of false true,.of false true,.of false true,.of false true,.of false true]⟩ (x.2.1,x.2.2,()))⟩
theorem w_FnChallenges_L0_s:LS Tryz.prog w_FnChallenges_x [0] (leC 0 w_FnChallenges_L0_h w_FnChallenges_L0_d):=loopC st (orcOf_ok w_FnChallenges_o) _ w_FnChallenges_L0_d [] trivial (by kernel_rfl) (fun _=>by kernel_rfl) fun _ _ _ _ _ _=>by kernel_rfl
theorem w_FnChallenges_L0_k {v0 v1 v2:Int}{v3:Door}{v4:Segm}(h0:0≤v2)(h1:sm_segm v4)(h2:sm_door v3):(w_FnChallenges_L0_d (v0,v1,v2,v3,v4,())).U 6 (fun v2 a=>sm_door a.2) (fun _=>True):=
 LC.okU (i:=v2) (a:=(v1,v3)) (fun _ _=>rfl) (fun _=>rfl) rfl h0 (by decide) h2 fun v2 (v1,v3) hj hk hv=>by
  refine Tr.C ?_ fun _ _ _=>Tr.V fun _ _=>Tr.C ?_ fun _ _ _=>Tr.B (Q':=fun w=>(w.1=true→v4.body.length≤1420)) (Tr.I (fun _=>Tr.C trivial fun _ _ _=>Tr.I (fun _=>Tr.I (fun _=>Tr.G2 ?_ fun _=>Tr.C ?_ fun _ _ _=>Tr.R ?_) fun _=>Tr.R ?_) fun _=>Tr.R ?_) fun _=>Tr.R ?_) (fun(u10a0,_) _ _=>Tr.I (fun _=>Tr.Rn ?_) fun _=>Tr.Rn ?_)
  all_goals ((try simp only[Tr.nice,letK]at*)<;>grind)
noncomputable def w_FnChallenges:FX (List Int×Unit) (Bool) (fun _=>True) (FactP [.sc (.sl .u8)]):=⟨fun(x0,_)=>
  .val (w_big.f (x0,())) fun c1=>
  .ite c1 (.ret true)<|
  .cal s_DrawSegIn.c (x0,()) fun c2=>
  .cal s_DoorOk.c (c2.1,()) fun c3=>
  .ite (!c3) (.cal i_DoorOk.c (c2.1,()) fun c4=>
   .ret (!c4))<|
  .lp (w_FnChallenges_L0_d (c2.2.1,c2.1.chal,0,c2.1,c2.2.2,())).lp fun(_,a11_0,a11_1)=>
  .ite (decide (a11_0≤a11_1.limits.chal)) (.ite (decide (a11_1.chal≤a11_1.limits.chal)) (.cal i_DoorOk.c (a11_1,()) fun c12=>
    .ret c12)<|
   .ret false)<|
  .ret false,
 fun(x0,_) hp hf=>by
  simp only[FactP,Pk.fact,factH,factW,Fl.fact,Ty.fl,Ty.toH]at hf
  refine Tr.V fun _ _=>Tr.I (fun _=>Tr.R trivial) fun _=>Tr.C ?_ fun _ _ _=>Tr.C ?_ fun _ _ _=>Tr.I (fun _=>Tr.C ?_ fun _ _ _=>Tr.R trivial) fun _=>Tr.L (w_FnChallenges_L0_k ?_ ?_ ?_) (fun(a11_0,a11_1) _=>Tr.I (fun _=>Tr.I (fun _=>Tr.C ?_ fun _ _ _=>Tr.R trivial) fun _=>Tr.R trivial) fun _=>Tr.R trivial) (fun p=>Empty.elim p)
  all_goals ((try simp only[w_FnChallenges_L0_d,LC.lp,LC.ct,Ct.lp]at*)<;>grind)⟩
noncomputable def w_FnChallenges_e:=entX st w_FnChallenges_x w_FnChallenges_o [(leC 0 w_FnChallenges_L0_h w_FnChallenges_L0_d)] (ks:=[.sc (.sl .u8)]) w_FnChallenges (fun v=>[(false,[.c (.bool v)])]) Tryz.func6 ⟨w_FnChallenges_L0_s,trivial⟩ fun _=>by kernel_rfl
noncomputable def w_FnApart_o:List (Ent1 Tryz.prog):=[w_big_e,s_DrawSegIn_e,i_SegIn_e,s_SegIn_e,s_SameDoor_e,s_DoorOk_e,s_TupleOf_e,s_SameConn_e,s_SameKeys_e]
def w_FnApart_L0_h:Sh:=⟨[(3,false,[.ptr 0 0]),(4,false,[.int .i64]),(5,false,[.ptr 1 0]),(6,false,[.ptr 2 0]),(12,false,[.int .i64])],[.box [.st .door [.own 3,.own 4,.own 5,.own 6,.own 7]],.box [.st .segm []],.box [.st .door [.own 8,.own 9,.own 10,.own 11,.own 12]],.of false true,.of false true,.of false true,.of false true,.of false true,.of false true,.of false true,.of false true,.of false true,.of false true]⟩
noncomputable def w_FnApart_x:Fx:=⟨7,Tryz.f7,[(0,la ⟨[3,4,5,6,12],[],false,0⟩ ⟨[2,3,6],[],false,0⟩)],0⟩
noncomputable def w_FnApart_L0_T (v0:Int)(v2:Door)(v3:Segm)(v4:Door)(v1:Int)(a:Unit):Tr (Stp (Unit) ((Unit)⊕(Unit))):=
 .cal s_DoorOk.c (v2,()) fun c6=>
 .ite c6 (.grd ((decide (0≤v1))&&(decide (v1<(v2.table.conns.length:Int))))<|
  .val (s_TupleOf.f (v0,v3,())) fun c7=>
  .ite (!(((v2.table.conns.getD v1.toNat (Ty.zero .conn)).tuple.ip==c7.ip)&&(((v2.table.conns.getD v1.toNat (Ty.zero .conn)).tuple.port==c7.port)&&(((v2.table.conns.getD v1.toNat (Ty.zero .conn)).tuple.my==c7.my)&&true)))) (.grd ((decide (0≤v1))&&(decide (v1<(v2.table.conns.length:Int))))<|
   .grd ((decide (0≤v1))&&(decide (v1<(v4.table.conns.length:Int))))<|
   .cal s_SameConn.c ((v2.table.conns.getD v1.toNat (Ty.zero .conn)),(v4.table.conns.getD v1.toNat (Ty.zero .conn)),()) fun c8=>
   .ite (!c8) (.ret (.out (.inl ())))<|
   .ret (.next ()))<|
  .ret (.next ()))<|
 .ret (.out (.inr (())))
noncomputable def w_FnApart_L0_d:w_FnApart_L0_h.V→LC w_FnApart_L0_h (Unit) ((Unit)⊕(Unit)) (((Unit)⊕(Unit))⊕(Int×Unit)):=fun(v0,v1,v2,v3,v4,_)=>⟨v1,(),fun v1 _=>(v0,v1,v2,v3,v4,()),fun v1 _=>(decide (v1<(v2.table.conns.length:Int))),w_FnApart_L0_T v0 v2 v3 v4,up,1,(Int.toNat ((v2.table.conns.length:Int)-v1)),.inl,fun i a=> .inr (i,a),fun _ k w=>Sum.elim (fun q=>Sum.elim (fun _=>k .ret (Sh.enc ⟨[(2,false,[.bool]),(3,false,[.ptr 0 0]),(6,false,[.ptr 1 0])],[.box [.st .door [.own 2,.own 3,.own 4,.own 5,.own 6]],.box [.st .door [.own 7,.own 8,.own 9,.own 10,.own 11]],.of false true,.of false true,.of false true,.of false true,.of false true,.of false true,.of false true,.of false true,.of false true,.of false true]⟩ (false,v2,v4,()))) (fun _=>k (.exit 0) (Sh.enc ⟨[(2,false,[.undef]),(3,false,[.ptr 0 0]),(6,false,[.ptr 1 0])],[.box [.st .door [.own 2,.own 3,.own 4,.own 5,.own 6]],.box [.st .door [.own 7,.own 8,.own 9,.own 10,.own 11]],.of false true,.of false true,.of false true,.of false true,.of false true,.of false true,.of false true,.of false true,.of false true,.of false true]⟩ (v2,v4,()))) q) (fun _=>k (.exit 0) (Sh.enc ⟨[(2,false,[.undef]),(3,false,[.ptr 0 0]),(6,false,[.ptr 1 0])],[.box [.st .door [.own 2,.own 3,.own 4,.own 5,.own 6]],.box [.st .door [.own 7,.own 8,.own 9,.own 10,.own 11]],.of false true,.of false true,.of false true,.of false true,.of false true,.of false true,.of false true,.of false true,.of false true,.of false true]⟩ (v2,v4,()))) w⟩
theorem w_FnApart_L0_s:LS Tryz.prog w_FnApart_x [0] (leC 0 w_FnApart_L0_h w_FnApart_L0_d):=loopC st (orcOf_ok w_FnApart_o) _ w_FnApart_L0_d [] trivial (by kernel_rfl) (fun _=>by kernel_rfl) fun _ _ _ _ _ _=>by kernel_rfl
theorem w_FnApart_L0_k {v0 v1:Int}{v2 v4:Door}{v3:Segm}(h0:0≤v1)(h1:(v2.table.conns.length:Int)≤4611686018427387904)(h2:sm_door v2)(h3:sm_door v4)(h4:(v2.table.conns.length:Int)≤(v4.table.conns.length:Int)):(w_FnApart_L0_d (v0,v1,v2,v3,v4,())).U (v2.table.conns.length:Int) (fun _ _=>True) (fun _=>True):=
 LC.okU (i:=v1) (a:=()) (fun _ _=>rfl) (fun _=>rfl) rfl h0 h1 trivial fun v1 _ hj hk hv=>by
  refine Tr.C ?_ fun _ _ _=>Tr.I (fun _=>Tr.G2 ?_ fun _=>Tr.V fun _ _=>Tr.I (fun _=>Tr.G2 ?_ fun _=>Tr.G2 ?_ fun _=>Tr.C ?_ fun _ _ _=>Tr.Z (by kernel_rfl)) fun _=>Tr.Rn trivial) fun _=>Tr.Ro trivial
  all_goals (grind)
noncomputable def w_FnApart:FX (List Int×Unit) (Bool) (fun _=>True) (FactP [.sc (.sl .u8)]):=⟨fun(x0,_)=>
  .val (w_big.f (x0,())) fun c1=>
  .ite c1 (.ret true)<|
  .cal s_DrawSegIn.c (x0,()) fun c2=>
  .cal i_SegIn.c (c2.1,c2.2.1,c2.2.2,()) fun c3=>
  .cal s_SegIn.c (c2.1,c2.2.1,c2.2.2,()) fun c4=>
  .cal s_SameDoor.c (c3.1,c4.1,()) fun c5=>
  .ite (!c5) (.ret false)<|
  .lp (w_FnApart_L0_d (c2.2.1,0,c2.1,c2.2.2,c3.1,())).lp fun w9=> .sum w9 (fun q9=> .sum q9 (fun _=>
  .ret false)<|
  fun _=>
  .cal s_SameKeys.c (c3.1.keys,c2.1.keys,()) fun c10=>
  .ite c10 (.ite (c3.1.clock==c2.1.clock) (.ite (c3.1.port==c2.1.port) (.ret ((c3.1.limits.halves==c2.1.limits.halves)&&((c3.1.limits.waiting==c2.1.limits.waiting)&&((c3.1.limits.conns==c2.1.limits.conns)&&((c3.1.limits.chal==c2.1.limits.chal)&&true)))))<|
    .ret false)<|
   .ret false)<|
  .ret false)<|
  fun _=>
  .cal s_SameKeys.c (c3.1.keys,c2.1.keys,()) fun c11=>
  .ite c11 (.ite (c3.1.clock==c2.1.clock) (.ite (c3.1.port==c2.1.port) (.ret ((c3.1.limits.halves==c2.1.limits.halves)&&((c3.1.limits.waiting==c2.1.limits.waiting)&&((c3.1.limits.conns==c2.1.limits.conns)&&((c3.1.limits.chal==c2.1.limits.chal)&&true)))))<|
    .ret false)<|
   .ret false)<|
  .ret false,
 fun(x0,_) hp hf=>by
  simp only[FactP,Pk.fact,factH,factW,Fl.fact,Ty.fl,Ty.toH]at hf
  refine Tr.V fun _ _=>Tr.I (fun _=>Tr.R trivial) fun _=>Tr.C ?_ fun _ _ _=>Tr.C ?_ fun _ _ _=>Tr.C ?_ fun _ _ _=>Tr.C ?_ fun _ _ _=>Tr.I (fun _=>Tr.R trivial) fun _=>Tr.L (w_FnApart_L0_k ?_ ?_ ?_ ?_ ?_) (fun _ _=>Tr.Sr (Tr.C ?_ fun _ _ _=>Tr.F (by kernel_rfl) trivial)) (Tr.W2 (fun _ _=>Tr.Sl (Tr.Sl (Tr.R trivial))) (fun _ _=>Tr.Sl (Tr.Sr (Tr.C ?_ fun _ _ _=>Tr.F (by kernel_rfl) trivial))))
  all_goals ((try simp only[w_FnApart_L0_d,LC.lp,LC.ct,Ct.lp]at*)<;>grind)⟩
noncomputable def w_FnApart_e:=entX st w_FnApart_x w_FnApart_o [(leC 0 w_FnApart_L0_h w_FnApart_L0_d)] (ks:=[.sc (.sl .u8)]) w_FnApart (fun v=>[(false,[.c (.bool v)])]) Tryz.func7 ⟨w_FnApart_L0_s,trivial⟩ fun _=>by kernel_rfl
noncomputable def w_FnReset_o:List (Ent1 Tryz.prog):=[w_big_e,s_DrawSegIn_e,i_SegIn_e,s_SegIn_e,s_SameDoor_e,s_DoorOk_e,s_TupleOf_e]
def w_FnReset_L0_h:Sh:=⟨[(3,false,[.ptr 0 0]),(4,false,[.int .i64]),(5,false,[.ptr 1 0]),(6,false,[.ptr 2 0]),(12,false,[.int .i64])],[.box [.st .door [.own 3,.own 4,.own 5,.own 6,.own 7]],.box [.st .segm []],.box [.st .door [.own 8,.own 9,.own 10,.own 11,.own 12]],.of false true,.of false true,.of false true,.of false true,.of false true,.of false true,.of false true,.of false true,.of false true,.of false true]⟩
noncomputable def w_FnReset_x:Fx:=⟨8,Tryz.f8,[(0,la ⟨[3,4,5,6,12],[],false,0⟩ ⟨[2],[],false,0⟩),(3000006,rA 0 47),(3000013,rA 0 78)],0⟩
noncomputable def w_FnReset_L0_T (v0:Int)(v2:Door)(v3:Segm)(v4:Door)(v1:Int)(a:Unit):Tr (Stp (Unit) ((Unit))):=
 .grd ((decide (0≤v1))&&(decide (v1<(v2.table.conns.length:Int))))<|
 .grd ((decide (0≤v1))&&(decide (v1<(v4.table.conns.length:Int))))<|
 .bnd (β:=Bool×Unit) (.ite ((v2.table.conns.getD v1.toNat (Ty.zero .conn)).state==8) (.ret (true,()))<|
  .ret (((v4.table.conns.getD v1.toNat (Ty.zero .conn)).state != 8),())) fun(u9a0,_)=>
 .ite u9a0 (.ret (.next ()))<|
 .val (s_TupleOf.f (v0,v3,())) fun c10=>
 .ite (!(((v2.table.conns.getD v1.toNat (Ty.zero .conn)).tuple.ip==c10.ip)&&(((v2.table.conns.getD v1.toNat (Ty.zero .conn)).tuple.port==c10.port)&&(((v2.table.conns.getD v1.toNat (Ty.zero .conn)).tuple.my==c10.my)&&true)))) (.ret (.out ()))<|
 .ite ((bits .and .i64 v3.flags 4) != 0) (.ite (v3.seq==(v2.table.conns.getD v1.toNat (Ty.zero .conn)).r.next) (.ret (.next ()))<|
  .ite ((v2.table.conns.getD v1.toNat (Ty.zero .conn)).state==6) (.ite ((v4.table.conns.getD v1.toNat (Ty.zero .conn)).s.done) (.ret (.next ()))<|
   .ret (.out ()))<|
  .ret (.out ()))<|
 .ite ((v2.table.conns.getD v1.toNat (Ty.zero .conn)).state==6) (.ite ((v4.table.conns.getD v1.toNat (Ty.zero .conn)).s.done) (.ret (.next ()))<|
  .ret (.out ()))<|
 .ret (.out ())
noncomputable def w_FnReset_L0_d:w_FnReset_L0_h.V→LC w_FnReset_L0_h (Unit) ((Unit)) (((Unit))⊕(Int×Unit)):=fun(v0,v1,v2,v3,v4,_)=>⟨v1,(),fun v1 _=>(v0,v1,v2,v3,v4,()),fun v1 _=>(decide (v1<(v2.table.conns.length:Int))),w_FnReset_L0_T v0 v2 v3 v4,up,1,(Int.toNat ((v2.table.conns.length:Int)-v1)),.inl,fun i a=> .inr (i,a),fun _ k w=>Sum.elim (fun _=>k .ret (Sh.enc ⟨[(2,false,[.bool])],[]⟩ (false,()))) (fun _=>k (.exit 0) (Sh.enc ⟨[(2,false,[.undef])],[]⟩ ())) w⟩
theorem w_FnReset_L0_s:LS Tryz.prog w_FnReset_x [0] (leC 0 w_FnReset_L0_h w_FnReset_L0_d):=loopC st (orcOf_ok w_FnReset_o) _ w_FnReset_L0_d [] trivial (by kernel_rfl) (fun _=>by kernel_rfl) fun _ _ _ _ _ _=>by kernel_rfl
theorem w_FnReset_L0_k {v0 v1:Int}{v2 v4:Door}{v3:Segm}(h0:0≤v1)(h1:(v2.table.conns.length:Int)≤4611686018427387904)(h2:(v2.table.conns.length:Int)≤(v4.table.conns.length:Int)):(w_FnReset_L0_d (v0,v1,v2,v3,v4,())).U (v2.table.conns.length:Int) (fun _ _=>True) (fun _=>True):=
 LC.okU (i:=v1) (a:=()) (fun _ _=>rfl) (fun _=>rfl) rfl h0 h1 trivial fun v1 _ hj hk hv=>by
  refine Tr.G2 ?_ fun _=>Tr.G2 ?_ fun _=>Tr.Z (by kernel_rfl)
  all_goals ((try simp only[Tr.nice,letK]at*)<;>grind)
noncomputable def w_FnReset:FX (List Int×Unit) (Bool) (fun _=>True) (FactP [.sc (.sl .u8)]):=⟨fun(x0,_)=>
  .val (w_big.f (x0,())) fun c1=>
  .ite c1 (.ret true)<|
  .cal s_DrawSegIn.c (x0,()) fun c2=>
  .cal i_SegIn.c (c2.1,c2.2.1,c2.2.2,()) fun c3=>
  .cal s_SegIn.c (c2.1,c2.2.1,c2.2.2,()) fun c4=>
  .bnd (β:=Bool×Unit) (.cal s_SameDoor.c (c3.1,c4.1,()) fun c5=>
   .ite (!c5) (.ret (true,()))<|
   .cal s_DoorOk.c (c2.1,()) fun c6=>
   .ret ((!c6),())) fun(u7a0,_)=>
  .ite u7a0 (.cal s_SameDoor.c (c3.1,c4.1,()) fun c8=>
   .ret c8)<|
  .lp (w_FnReset_L0_d (c2.2.1,0,c2.1,c2.2.2,c3.1,())).lp fun w11=> .sum w11 (fun _=>
  .ret false)<|
  fun _=>
  .ret true,
 fun(x0,_) hp hf=>by
  simp only[FactP,Pk.fact,factH,factW,Fl.fact,Ty.fl,Ty.toH]at hf
  refine Tr.V fun _ _=>Tr.I (fun _=>Tr.R trivial) fun _=>Tr.C ?_ fun c2 _ _=>Tr.C ?_ fun _ _ _=>Tr.C ?_ fun _ _ _=>Tr.B (Q':=fun w=>(w.1=false→c2.1.table.conns.length≤16)) (Tr.C ?_ fun _ _ _=>Tr.I (fun _=>Tr.R ?_) fun _=>Tr.C ?_ fun _ _ _=>Tr.R ?_) (fun(u7a0,_) _ _=>Tr.I (fun _=>Tr.C ?_ fun _ _ _=>Tr.R trivial) fun _=>Tr.L (w_FnReset_L0_k ?_ ?_ ?_) (fun _ _=>Tr.Sr (Tr.R trivial)) (fun _ _=>Tr.Sl (Tr.R trivial)))
  all_goals ((try simp only[w_FnReset_L0_d,LC.lp,LC.ct,Ct.lp,Tr.nice,letK]at*)<;>grind)⟩
noncomputable def w_FnReset_e:=entX st w_FnReset_x w_FnReset_o [(leC 0 w_FnReset_L0_h w_FnReset_L0_d)] (ks:=[.sc (.sl .u8)]) w_FnReset (fun v=>[(false,[.c (.bool v)])]) Tryz.func8 ⟨w_FnReset_L0_s,trivial⟩ fun _=>by kernel_rfl
theorem q_WordOk (n b:Int):s_WordOk.f (n,b,())=i_WordOk.f (n,b,()):=by
 simp only[PX,s_WordOk,i_WordOk,s_l1In_eq,i_within_eq]
 cases h:(decide (1≤b)&&decide (b≤62))with
 |false=>simp only[cond_false]
 |true=>
  have h1:1≤b∧b≤62:=by simpa using h
  rw[wrapU_id (by omega) (by omega)]
theorem q_TupleOk (x:Tupl):s_TupleOk.f (x,())=i_TupleOk.f (x,()):=by
 simp only[PX,s_TupleOk,i_TupleOk,q_WordOk]
theorem q_OptionsOk (x:Opti):s_OptionsOk.f (x,())=i_OptionsOk.f (x,()):=by
 simp only[PX,s_OptionsOk,i_OptionsOk,q_WordOk,s_l1In_eq,i_within_eq]
theorem q_MssOf (x:Int):s_MssOf.f (x,())=i_MssOf.f (x,()):=by
 simp only[PX,s_MssOf,i_MssOf,s_l1In_eq,i_within_eq]
theorem q_mss:i_MssOf.f (0,())=64∧i_MssOf.f (1,())=256∧i_MssOf.f (2,())=536∧i_MssOf.f (3,())=1024∧i_MssOf.f (4,())=1300∧i_MssOf.f (5,())=1400∧i_MssOf.f (6,())=1440∧i_MssOf.f (7,())=1460:=by
 simp[PX,i_MssOf,i_within_eq]
theorem q_MssIndex (x:Int):s_MssIndex.f (x,())=i_MssIndex.f (x,()):=by
 obtain⟨h0,h1,h2,h3,h4,h5,h6,h7⟩:=q_mss
 simp only[PX,s_MssIndex,i_MssIndex,s_MssIndex_L0_d,i_MssIndex_L0_d,show Int.toNat (8-0)=8 from rfl,show Int.toNat (7-0)=7 from rfl,forN,s_MssIndex_L0_T,i_MssIndex_L0_T,q_MssOf]
 simp only[show(0:Int)+1=1 from rfl,show(1:Int)+1=2 from rfl,show(2:Int)+1=3 from rfl,show(3:Int)+1=4 from rfl,show(4:Int)+1=5 from rfl,show(5:Int)+1=6 from rfl,show(6:Int)+1=7 from rfl,
  show(7:Int)+ -1=6 from rfl,show(6:Int)+ -1=5 from rfl,show(5:Int)+ -1=4 from rfl,show(4:Int)+ -1=3 from rfl,show(3:Int)+ -1=2 from rfl,show(2:Int)+ -1=1 from rfl,h0,h1,h2,h3,h4,h5,h6,h7]
 grind [Stp.elim]
theorem l4Rest_eq (x:Int):s_l4Rest.f (x,())=x%4294967296:=by
 simp only[PX,s_l4Rest]
 rcases Int.lt_or_le x 0 with h|h
 ·rw[(tmod_pos 4294967296).2 h,wrap64_def]
  cases hd:decide (-(-x%4294967296)<0)with
  |true=>simp only[decide_eq_true_eq]at hd;simp only[cond_true];omega
  |false=>simp only[decide_eq_false_iff_not]at hd;simp only[cond_false];omega
 ·rw[(tmod_pos 4294967296).1 h,wrap64_def]
  cases hd:decide (x%4294967296<0)with
  |true=>simp only[decide_eq_true_eq]at hd;omega
  |false=>rfl
theorem iSeqAdd_eq (a b:Int):i_SeqAdd.f (a,b,())=(a+b)%4294967296:=by
 simp only[PX,i_SeqAdd]
 rw[i64_mask32,wrap64_def];omega
theorem q_SeqAdd (a b:Int):s_SeqAdd.f (a,b,())=i_SeqAdd.f (a,b,()):=by
 rw[iSeqAdd_eq]
 simp only[PX,s_SeqAdd,l4Rest_eq,wrap64_def];omega
theorem q_SameMac (x y:Mac):s_SameMac.f (x,y,())=i_SameMac.f (x,y,()):=by
 simp only[PX,s_SameMac,i_SameMac,g_Equal_MacRow,s_SameMac_L0_d,g_Equal_MacRow_L0_d,s_SameMac_L0_T,g_Equal_MacRow_L0_T]
 have e1:(x.k != y.k)= !(x.k==y.k):=rfl
 have e2:(x.l != y.l)= !(x.l==y.l):=rfl
 rw[e1,e2]
 cases(x.use==y.use)<;>cases(x.k==y.k)<;>cases(x.l==y.l)<;>cases((x.rows.length:Int) != (y.rows.length:Int))<;>rfl
theorem q_PutWord (n b:Int):s_PutWord.f (n,b,())=i_PutWord.f (n,b,()):=by
 simp only[PX,s_PutWord,i_PutWord,q_WordOk,s_l1In_eq,i_within_eq,s_PutWord_L0_d,i_PutWord_L0_d]
 cases h1:(decide (1≤b)&&decide (b≤6))with
 |false=>rfl
 |true=>
  cases h2:i_WordOk.f (n,(IntKind.wrap .i64 (8*b)),())with
  |false=>rfl
  |true=>
   have hb:0≤n∧n≤9223372036854775807:=by
    revert h2
    simp only[PX,i_WordOk,i_within_eq]
    cases(decide (1≤IntKind.wrap .i64 (8*b))&&decide (IntKind.wrap .i64 (8*b)≤62))with
    |false=>simp
    |true=>
     simp only[cond_true,Bool.and_eq_true,decide_eq_true_eq]
     generalize(IntKind.wrap .i64 (1*2 ^ (min (IntKind.wrap .i64 (8*b)).toNat 64)))=z
     rw[wrap64_def]
     omega
   have e:∀k i r,forN (fun j a=>(s_PutWord_L0_T j a).nice) (-1) k i (n,r)=forN (fun j a=>(i_PutWord_L0_T j a).nice) (-1) k i (n,r):=by
    intro k i r
    refine forN_congrI (P:=fun a=>0≤a.1∧a.1≤9223372036854775807) (fun i a ha=> ?_) (fun i a a' ha he=> ?_) k i (n,r) hb
    ·simp only[PX,s_PutWord_L0_T,i_PutWord_L0_T]
     rw[(tdiv_pos 256).1 ha.1,(tmod_pos 256).1 ha.1,wrap64 (by omega) (by omega),Int.fdiv_eq_ediv_of_nonneg a.1 (by omega),wrap8_def,wrap8_def,Int.emod_emod]
    ·simp only[PX,s_PutWord_L0_T]at he
     cases he
     show 0≤IntKind.wrap .i64 (a.1.tdiv 256)∧_
     rw[(tdiv_pos 256).1 ha.1,wrap64 (by omega) (by omega)]
     omega
   simp only[e]
theorem q_CookieParts (x:Int):s_CookieParts.f (x,())=i_CookieParts.f (x,()):=by simp only[PX,s_CookieParts,i_CookieParts,q_WordOk]
theorem q_MacInput (x:Tupl)(a b c:Int):s_MacInput.f (x,a,b,c,())=i_MacInput.f (x,a,b,c,()):=by simp only[PX,s_MacInput,i_MacInput,q_PutWord,q_TupleOk,q_WordOk,s_l1In_eq,i_within_eq]
theorem MacOk_in (x:Mac)(r:List MacRow)(j:Nat)(hj:j<r.length)(hr:x.rows=r):
  Stp.elim (γ:=Stp Unit Unit) (fun _=> .next ()) (fun _=> .out ()) (forN (fun i a=>(s_MacOk_L0_0_T (j:Int) x i a).nice) 1 (Int.toNat ((j:Int)-0)) 0 ())=
  bif g_ContainsFunc_MacRow_i_MacOk_1.f (((r.take j).drop 0),(r.getD j (Ty.zero .macRow)),())then .out ()else .next ():=by
 subst hr
 let p:MacRow→Bool:=fun y=>y.input==(x.rows.getD j (Ty.zero .macRow)).input
 simp only[PX,g_ContainsFunc_MacRow_i_MacOk_1,g_IndexFunc_MacRow_i_MacOk_1,g_IndexFunc_MacRow_i_MacOk_1_L0_d]
 rw[List.drop_zero]
 have hl:(x.rows.take j).length=j:=by rw[List.length_take];omega
 rw[forN_list (x.rows.take j) _ (by rw[hl];simp) (F:=fun q y a=>bif p y then .out ()else .next ()) (by
  intro q y a h
  have hq:q<j:=by
   have:=(List.getElem?_eq_some_iff.1 h).1;omega
  have h2:x.rows[q]? =some y:=by rw[List.getElem?_take]at h;simpa [hq]using h
  simp only[PX,s_MacOk_L0_0_T,toNat_cast,getD_some h2,p])]
 rw[forN_list (x.rows.take j) _ (by simp) (F:=fun q y a=>bif p y then .out (q:Int)else .next ()) (by
  intro q y a h
  simp only[PX,g_IndexFunc_MacRow_i_MacOk_1_L0_T,i_MacOk_1,toNat_cast,getD_some h,p])]
 rw[listN_find (w:=fun _ _=>()),listN_find (w:=fun j _=>(j:Int))]
 cases h:(x.rows.take j).findIdx? p with
 |none=>simp[PX,Stp.elim]
 |some i=>
  have:=(List.findIdx?_eq_some_iff_getElem.1 h).1
  simp only[List.getElem?_eq_getElem this,Stp.elim]
  simp[PX]
theorem q_MacOk (x:Mac):s_MacOk.f (x,())=i_MacOk.f (x,()):=by
 simp only[PX,s_MacOk,i_MacOk,s_MacOk_L0_d,i_MacOk_L0_d]
 have e:forN (fun j a=>(s_MacOk_L0_T x j a).nice) 1 (Int.toNat ((x.rows.length:Int)-0)) 0 ()=forN (fun j a=>(i_MacOk_L0_T x.rows x j a).nice) 1 (Int.toNat ((x.rows.length:Int)-0)) 0 ():=by
  rw[toNat_sub0]
  refine forN_ext x.rows.length 0 () (fun j a hj=> ?_)
  have:=MacOk_in x x.rows j (by omega) rfl
  simp only[PX,s_MacOk_L0_T,i_MacOk_L0_T,s_MacOk_L0_0_d,toNat_cast,s_l1In_eq,i_within_eq]at this⊢
  rw[this]
 rw[e]
 have e1:(x.k != 0)= !(x.k==0):=rfl
 have e2:(x.l != 0)= !(x.l==0):=rfl
 have e3:decide (64<(x.rows.length:Int))= !decide ((x.rows.length:Int)≤64):=by
  rcases Int.lt_or_le 64 (x.rows.length:Int)with h|h
  ·simp[h,show¬((x.rows.length:Int)≤64) by omega]
  ·simp[h,show¬(64<(x.rows.length:Int)) by omega]
 rw[e1,e2,e3]
 generalize forN (fun j a=>(i_MacOk_L0_T x.rows x j a).nice) 1 (Int.toNat ((x.rows.length:Int)-0)) 0 ()=z
 cases x.use<;>cases z<;>cases(x.k==0)<;>cases(x.l==0)<;>cases decide ((x.rows.length:Int)≤64)<;>simp[PX,Stp.elim]
theorem q_KeysOk (k:Keys):s_KeysOk.f (k,())=i_KeysOk.f (k,()):=by
 simp only[PX,s_KeysOk,i_KeysOk,q_WordOk,q_MacOk,q_SameMac,i_WordOk_32,i_within_eq]
 cases ht:k.two<;>simp only[PX,cond_true,cond_false,ht]<;>cases i_MacOk.f (k.now,())<;>cases i_MacOk.f (k.before,())<;>grind
theorem rot_eq (x n:Int)(h:bits .and .u64 (IntKind.wrap .u64 n) 63=n):mb_RotateLeft64.f (x,n,())=s_l10Turn.f (x,n,()):=by
 simp only[PX,mb_RotateLeft64,s_l10Turn,h]
theorem q_SipRound (x:Sipr):s_SipRound.f (x,())=i_SipRound.f (x,()):=by
 simp only[PX,s_SipRound,i_SipRound,rot_eq _ 13 (by decide+kernel),rot_eq _ 16 (by decide+kernel),rot_eq _ 17 (by decide+kernel),rot_eq _ 21 (by decide+kernel),rot_eq _ 32 (by decide+kernel)]
theorem q_SipWord (x:Sipr)(m:Int):s_SipWord.f (x,m,())=i_SipWord.f (x,m,()):=by
 simp only[PX,s_SipWord,i_SipWord,q_SipRound]
theorem q_SipStart (k l:Int):s_SipStart.f (k,l,())=i_SipStart.f (k,l,()):=by simp only[PX,s_SipStart,i_SipStart]
theorem q_SipEnd (x:Sipr):s_SipEnd.f (x,())=i_SipEnd.f (x,()):=by
 simp only[PX,s_SipEnd,i_SipEnd,i_SipEnd_L0_d,q_SipRound]
 have e:(fun(j:Int) a=>(i_SipEnd_L0_T j a).nice)=fun _ a=>Stp.next (i_SipRound.f (a,())):=rfl
 rw[e]
 generalize FT.f i_SipRound=R
 rfl
theorem wraps_u64 (n:Int)(h0:0≤n)(h1:n<2 ^ 64):IntKind.u64.wrap n=n:=by rw[wrapU_def];omega
theorem or8 (a b:Int)(ha:0≤a)(ha1:a<72057594037927936)(hb:0≤b)(hb1:b<256):bits .or .u64 (IntKind.wrap .u64 (a*256)) (IntKind.wrap .u64 b)=a*256+b:=by
 rw[wraps_u64 _ (by omega) (by omega),wraps_u64 _ (by omega) (by omega)]
 exact bits_join .u64 64 (by decide) wraps_u64 8 _ _ (by omega) (by omega) (by omega) (by omega) (by omega) (by omega)
def Rd8 (g:Nat→Int):Nat→Int→Int
 |0,a=>a
 |k+1,a=>Rd8 g k (a*256+g k)
theorem Rd8_congr {g h:Nat→Int}:∀(k:Nat) (a:Int),(∀j,j<k→g j=h j)→Rd8 g k a=Rd8 h k a
 |0,_,_=>rfl
 |k+1,a,e=>by simp only[Rd8,e k (Nat.lt_succ_self _)];exact Rd8_congr k _ fun j hj=>e j (by omega)
theorem Rd8_lin {g:Nat→Int}:∀(k:Nat) (a:Int),Rd8 g k a=a*256 ^ k+Rd8 g k 0
 |0,a=>by simp[Rd8]
 |k+1,a=>by
  simp only[Rd8]
  rw[Rd8_lin k (a*256+g k),Rd8_lin k (0*256+g k),Int.pow_succ,Int.add_mul,Int.zero_mul,Int.zero_add,Int.mul_assoc,Int.mul_comm 256 (256 ^ k),Int.add_assoc]
theorem pow256 (k:Nat):(1:Int)≤256 ^ k:=by
 have:=Int.pow_pos (n:=256) (m:=k) (by decide)
 omega
theorem Rd8_bd {g:Nat→Int}(hg:∀k,0≤g k∧g k≤255):∀(k:Nat),0≤Rd8 g k 0∧Rd8 g k 0<256 ^ k
 |0=>by simp[Rd8]
 |k+1=>by
  have h:=Rd8_bd hg k
  simp only[Rd8]
  rw[Rd8_lin,Int.zero_mul,Int.zero_add,Int.pow_succ]
  have h1:=hg k
  have h2:=pow256 k
  have h3:0≤g k*256 ^ k:=Int.mul_nonneg h1.1 (by omega)
  have h4:g k*256 ^ k≤255*256 ^ k:=Int.mul_le_mul_of_nonneg_right h1.2 (by omega)
  omega
theorem low_forN {f:Int→Int→Stp Int Empty}{g:Nat→Int}(hg:∀k,0≤g k∧g k≤255)(hf:∀(k:Nat) a,f (k:Int) a= .next (bits .or .u64 (IntKind.wrap .u64 (a*256)) (IntKind.wrap .u64 (g k)))):
  ∀(k:Nat) (a:Int),0≤a→(a+1)*256 ^ k≤18446744073709551616→forN f (-1) k ((k:Int)-1) a= .next (Rd8 g k a)
 |0,a,_,_=>rfl
 |k+1,a,h0,h1=>by
  have hp:=pow256 k
  rw[Int.pow_succ,Int.mul_comm (256 ^ k) 256,←Int.mul_assoc]at h1
  have h2:(a+1)*256*1≤(a+1)*256*256 ^ k:=Int.mul_le_mul_of_nonneg_left hp (by omega)
  have h3:=hg k
  simp only[forN,Rd8]
  rw[show((k+1:Nat):Int)-1=(k:Int) by omega,hf,or8 a (g k) h0 (by omega) h3.1 (by omega)]
  simp only[Stp.elim]
  rw[show(k:Int)+ -1=(k:Int)-1 by omega]
  refine low_forN hg hf k _ (by omega) ?_
  have h4:(a*256+g k+1)*256 ^ k≤(a+1)*256*256 ^ k:=Int.mul_le_mul_of_nonneg_right (by omega) (by omega)
  omega
theorem byteAt_le (s:Bytes)(k:Nat):0≤byteAt s k∧byteAt s k≤255:=byteAt_rng s k
theorem l10Low_eq (s:Bytes)(h:s.length≤8):s_l10Low.f (s,())=Rd8 (byteAt s) s.length 0:=by
 simp only[PX,s_l10Low,s_l10Low_L0_d]
 rw[wrap64 (by omega) (by omega)]
 rw[show Int.toNat ((s.length:Int)-1-0+1)=s.length by omega]
 rw[low_forN (g:=byteAt s) (byteAt_le s) (fun k a=>rfl) s.length 0 (by omega) ?_]
 ·rfl
 ·have:∀k:Nat,k≤8→(0+1:Int)*256 ^ k≤18446744073709551616:=by decide
  exact this _ h
theorem little_eq (l:List Int)(h:∀k,0≤l.getD k 0∧l.getD k 0≤255):i_little.f (l,())=Rd8 (fun k=>l.getD k 0) 8 0:=by
 simp only[PX,i_little,i_little_L0_d]
 rw[show Int.toNat (7-0+1)=8 from rfl,show(7:Int)=((8:Nat):Int)-1 from rfl]
 rw[low_forN (g:=fun k=>l.getD k 0) h (fun k a=>rfl) 8 0 (by omega) (by decide)]
 rfl
theorem whileN_sim {A B W W':Type}[Inhabited W][Inhabited W']{f:A→Stp A W}{g:B→Stp B W'}{R:A→B→Prop}{Q:W→W'→Prop}{ma:A→Nat}{mb:B→Nat}
  (h:∀a b,R a b→(∃a' b',f a= .next a'∧g b= .next b'∧R a' b'∧ma a'<ma a∧mb b'<mb b)∨(∃w w',f a= .out w∧g b= .out w'∧Q w w')):
  ∀(m m':Nat) (a:A) (b:B),ma a<m→mb b<m'→R a b→Q (whileN f m a) (whileN g m' b)
 |0,_,_,_,h1,_,_=>absurd h1 (Nat.not_lt_zero _)
 |_+1,0,_,_,_,h2,_=>absurd h2 (Nat.not_lt_zero _)
 |m+1,m'+1,a,b,h1,h2,hr=>by
  rcases h a b hr with⟨a',b',e1,e2,hr',l1,l2⟩|⟨w,w',e1,e2,hq⟩
  ·simp only[whileN,e1,e2,Stp.elim]
   exact whileN_sim h m m' a' b' (by omega) (by omega) hr'
  ·simp only[whileN,e1,e2,Stp.elim]
   exact hq
theorem Rd8_succ {g:Nat→Int}(k:Nat)(a:Int):Rd8 g (k+1) a=Rd8 g k (a*256+g k):=rfl
theorem gset_len {α:Type}{xs:List α}{j:Nat}(h:j<xs.length)(v z:α):(xs.set j v).getD j z=v:=by
 simp[List.getD,List.getElem?_set,h]
theorem toInts_getD (s:Bytes)(k:Nat):(toInts s).getD k 0=byteAt s k:=by
 simp only[toInts,byteAt,List.getD,List.getElem?_map]
 cases s[k]? <;>rfl
theorem byteAt_drop (s:Bytes)(n k:Nat):byteAt (s.drop n) k=byteAt s (n+k):=by
 simp only[byteAt,List.getD,List.getElem?_drop]
theorem byteAt_take (s:Bytes)(n k:Nat)(h:k<n):byteAt (s.take n) k=byteAt s k:=by
 simp only[byteAt,List.getD,List.getElem?_take,if_pos h]
theorem byteAt_over (s:Bytes)(k:Nat)(h:s.length≤k):byteAt s k=0:=by
 simp[byteAt,List.getD,h]
theorem Rd8_pad {g:Nat→Int}(r:Nat):∀(m:Nat),(∀j,r≤j→j<r+m→g j=0)→Rd8 g (r+m) 0=Rd8 g r 0
 |0,_=>rfl
 |m+1,h=>by
  rw[show r+(m+1)=(r+m)+1 from rfl]
  simp only[Rd8]
  rw[h (r+m) (by omega) (by omega)]
  exact Rd8_pad r m fun j h1 h2=>h j h1 (by omega)
theorem bits_or_comm (k:IntKind)(a b:Int):bits .or k a b=bits .or k b a:=by
 simp only[bits,BitVec.or_comm]
def SipR (x:Bytes)(a:Int×Sipr)(b:List Int×Sipr):Prop:=0≤a.1∧a.1≤x.length∧b.1=toInts (x.drop a.1.toNat)∧a.2=b.2
theorem toInts_drop (s:Bytes)(n:Nat):(toInts s).drop n=toInts (s.drop n):=by simp[toInts]
theorem Sip_loops (x:Bytes)(hx:x.length≤4294967296)(z:Sipr):SipR x (whileN (fun a=>(s_SipHash_L0_T x (x.length:Int) a).nice) (Int.toNat ((x.length:Int)-0)+1) (0,z)) (whileN (fun a=>(i_SipHash_L0_T a).nice) ((toInts x).length+1) (toInts x,z))∧
  (x.length:Int)<(whileN (fun a=>(s_SipHash_L0_T x (x.length:Int) a).nice) (Int.toNat ((x.length:Int)-0)+1) (0,z)).1+8:=by
  refine whileN_sim (R:=SipR x) (Q:=fun w w'=>SipR x w w'∧(x.length:Int)<w.1+8) (ma:=fun a=>Int.toNat ((x.length:Int)-a.1)) (mb:=fun b=>b.1.length) ?_ _ _ _ _ ?_ ?_ ?_
  ·intro a b hr
   obtain⟨h1,h2,h3,h4⟩:=hr
   have hb:(b.1.length:Int)=(x.length:Int)-a.1:=by rw[h3,toInts_length,List.length_drop];omega
   simp only[PX,s_SipHash_L0_T,i_SipHash_L0_T]
   rw[wrap64 (by omega) (by omega)]
   cases hd:decide (a.1+8≤(x.length:Int))with
   |true=>
    simp only[decide_eq_true_eq]at hd
    rw[show decide (8≤(b.1.length:Int))=true by simp only[decide_eq_true_eq];omega]
    refine .inl ⟨_,_,rfl,rfl,⟨?_, ?_, ?_, ?_⟩, ?_, ?_⟩
    ·simp only[];omega
    ·simp only[];omega
    ·simp only[]
     rw[toNat_cast,List.take_length,h3,toInts_drop,List.drop_drop,show(a.1+8).toNat=a.1.toNat+8 by omega]
    ·have e:s_l10Low.f ((x.take (a.1+8).toNat).drop a.1.toNat,())=i_little.f (b.1,()):=by
      have hl:((x.take (a.1+8).toNat).drop a.1.toNat).length=8:=by rw[List.length_drop,List.length_take];omega
      rw[l10Low_eq _ (by omega),hl,little_eq _ (fun k=>by rw[h3,toInts_getD];exact byteAt_le _ _)]
      refine Rd8_congr 8 0 fun j hj=> ?_
      rw[h3,toInts_getD,byteAt_drop,byteAt_drop,byteAt_take _ _ _ (by omega)]
     simp only[e,h4,q_SipWord]
    ·simp only[];omega
    ·simp only[toNat_cast,List.take_length,List.length_drop];omega
   |false=>
    simp only[decide_eq_false_iff_not]at hd
    rw[show decide (8≤(b.1.length:Int))=false by simp only[decide_eq_false_iff_not];omega]
    exact .inr ⟨_,_,rfl,rfl,⟨h1,h2,h3,h4⟩,by show(x.length:Int)<a.1+8;omega⟩
  ·exact Nat.lt_succ_self _
  ·exact Nat.lt_succ_self _
  ·exact⟨by simp,by simp,by simp,rfl⟩
theorem Sip_last (x:Bytes)(hx:x.length≤4294967296)(p:Int)(q:List Int)(h1:0≤p)(h2:p≤x.length)(h3:q=toInts (x.drop p.toNat))(h5:(x.length:Int)<p+8):
  bits .or .u64 (s_l10Low.f (x.drop p.toNat,())) (IntKind.wrap .u64 ((IntKind.wrap .u64 ((x.length:Int).tmod 256))*72057594037927936))=i_little.f ((q++(List.replicate 8 0).drop q.length).set 7 (IntKind.wrap .u8 (x.length:Int)),()):=by
 have hl:(x.drop p.toNat).length=x.length-p.toNat:=by simp
 have hq:q.length=x.length-p.toNat:=by rw[h3,toInts_length,hl]
 generalize hy:x.drop p.toNat=y at h3 hl
 have hy8:y.length≤7:=by omega
 rw[l10Low_eq y (by omega)]
 have hb7:IntKind.u8.wrap (x.length:Int)=(x.length:Int)%256:=wrap8_def _
 have hm:IntKind.u64.wrap ((x.length:Int).tmod 256)=(x.length:Int)%256:=by
  rw[(tmod_pos 256).1 (by omega),wraps_u64 _ (by omega) (by omega)]
 rw[hb7,hm]
 have hg:∀k,((q++(List.replicate 8 (0:Int)).drop q.length).set 7 ((x.length:Int)%256)).getD k 0=if k=7 then(x.length:Int)%256 else byteAt y k:=by
  intro k
  by_cases e:k=7
  ·subst e
   rw[if_pos rfl]
   exact gset_len (by simp;omega) _ _
  ·rw[if_neg e,List.getD,List.getElem?_set_ne (by omega)]
   by_cases hk:k<q.length
   ·rw[List.getElem?_append_left hk,h3,←List.getD_eq_getElem?_getD,toInts_getD]
   ·rw[List.getElem?_append_right (by omega),List.getElem?_drop,List.getElem?_replicate,byteAt_over y k (by omega)]
    split<;>rfl
 rw[little_eq _ (fun k=>by
  rw[hg]
  split
  ·omega
  ·exact byteAt_le _ _)]
 have hbd:=Rd8_bd (g:=byteAt y) (byteAt_le y) y.length
 have hp7:(256:Int) ^ y.length≤72057594037927936:=by
  have:∀k:Nat,k≤7→(256:Int) ^ k≤72057594037927936:=by decide
  exact this _ hy8
 have e1:Rd8 (fun k=>((q++(List.replicate 8 (0:Int)).drop q.length).set 7 ((x.length:Int)%256)).getD k 0) 8 0=((x.length:Int)%256)*72057594037927936+Rd8 (byteAt y) y.length 0:=by
  refine(Rd8_succ 7 0).trans ?_
  rw[hg 7,if_pos rfl,Rd8_lin,Int.zero_mul,Int.zero_add,show(256:Int) ^ 7=72057594037927936 from rfl]
  congr 1
  rw[Rd8_congr 7 0 (h:=byteAt y) fun j hj=>by rw[hg,if_neg (by omega)]]
  have:=Rd8_pad (g:=byteAt y) y.length (7-y.length) fun j h1 _=>byteAt_over y j h1
  rw[show y.length+(7-y.length)=7 by omega]at this
  exact this
 rw[e1,bits_or_comm,wraps_u64 ((x.length:Int)%256*72057594037927936) (by omega) (by omega)]
 exact bits_join .u64 64 (by decide) wraps_u64 56 _ _ (by omega) (by omega) (by omega) (by omega) (by omega) (by omega)
theorem q_SipHash (k l:Int)(x:Bytes)(hx:x.length≤4294967296):s_SipHash.f (k,l,x,())=i_SipHash.f (k,l,x,()):=by
 simp only[PX,s_SipHash,i_SipHash,s_SipHash_L0_d,i_SipHash_L0_d,q_SipStart,List.length_replicate]
 generalize i_SipStart.f (k,l,())=z
 have key:=Sip_loops x hx z
 generalize whileN (fun a=>(s_SipHash_L0_T x (x.length:Int) a).nice) (Int.toNat ((x.length:Int)-0)+1) (0,z)=p at key⊢
 generalize whileN (fun a=>(i_SipHash_L0_T a).nice) ((toInts x).length+1) (toInts x,z)=q at key⊢
 obtain⟨⟨h1,h2,h3,h4⟩,h5⟩:=key
 have hq:q.1.length=x.length-p.1.toNat:=by rw[h3,toInts_length,List.length_drop]
 have ht:q.1.take 8=q.1:=List.take_of_length_le (by omega)
 obtain⟨p,pz⟩:=p
 obtain⟨q,qz⟩:=q
 simp only[PX,ht,q_SipEnd,q_SipWord]at*
 rw[h4,show((x.take (x.length:Int).toNat).drop p.toNat)=x.drop p.toNat by rw[toNat_cast,List.take_length]]
 rw[Sip_last x hx p q h1 h2 h3 h5]
theorem q_MacOf (m:Mac)(x:Bytes)(hx:x.length≤4294967296):s_MacOf.f (m,x,())=i_MacOf.f (m,x,()):=by
 simp only[PX,s_MacOf,i_MacOf,s_MacOf_L0_d,i_MacOf_L0_d,q_SipHash _ _ _ hx]
 rw[show forN (fun j a=>(s_MacOf_L0_T x m j a).nice) 1 (Int.toNat ((m.rows.length:Int)-0)) 0 ()=forN (fun j a=>(i_MacOf_L0_T x m.rows j a).nice) 1 (Int.toNat ((m.rows.length:Int)-0)) 0 () from forN_congr (fun i a=>by
  simp only[PX,s_MacOf_L0_T,i_MacOf_L0_T]
  generalize(m.rows.getD i.toNat (Ty.zero .macRow))=r
  cases(r.input==x)with
  |false=>rfl
  |true=>
   simp only[cond_true]
   have h1:=tmod_pos (a:=r.value) 16777216
   rcases Int.lt_or_le r.value 0 with h|h
   ·have e:=h1.2 h
    generalize r.value.tmod 16777216=t at e
    rw[wrap64 (by omega) (by omega)]
    cases hd:decide (t<0)with
    |true=>simp only[decide_eq_true_eq]at hd;simp only[cond_true];rw[(tmod_pos 16777216).1 (by omega),Int.emod_eq_of_lt (by omega) (by omega)]
    |false=>simp only[decide_eq_false_iff_not]at hd;simp only[cond_false];rw[(tmod_pos 16777216).1 (by omega),show t=0 by omega];rfl
   ·have e:=h1.1 h
    generalize r.value.tmod 16777216=t at e
    rw[wrap64 (by omega) (by omega)]
    cases hd:decide (t<0)with
    |true=>simp only[decide_eq_true_eq]at hd;omega
    |false=>simp only[cond_false];rw[(tmod_pos 16777216).1 (by omega)];congr 1;omega) _ _ _]
theorem MacInput_len (t:Tupl)(a b c:Int):(i_MacInput.f (t,a,b,c,())).length≤40:=(i_MacInput.c.h (t,a,b,c,()) trivial).2
theorem q_CookieOf (m:Mac)(t:Tupl)(a b c:Int):s_CookieOf.f (m,t,a,b,c,())=i_CookieOf.f (m,t,a,b,c,()):=by
 simp only[PX,s_CookieOf,i_CookieOf,q_MacInput]
 rw[q_MacOf _ _ (by have:=MacInput_len t a b c;omega)]
theorem q_l11Copy (m:Mac):s_l11Copy.f (m,())=m:=by simp only[PX,s_l11Copy,List.nil_append]
theorem q_cloneMac (m:Mac):i_cloneMac.f (m,())=m:=by simp only[PX,i_cloneMac,g_Clone_MacRow]
theorem q_SecretOf (k:Keys)(e:Int):s_SecretOf.f (k,e,())=i_SecretOf.f (k,e,()):=by
 simp only[PX,s_SecretOf,i_SecretOf,q_l11Copy,q_cloneMac]

end
end Go.Proofs.YtjejapbinelgeaaGreat
