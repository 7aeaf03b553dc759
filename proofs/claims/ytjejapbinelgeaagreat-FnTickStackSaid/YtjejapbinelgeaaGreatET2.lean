/-
  Contracts of functions and plain laws (printed by a program): each theorem says what a function of the program returns; conditions are its hypotheses.
-/
import Derived.Test.YtjejapbinelgeaaGreatET1
set_option linter.all false
set_option maxRecDepth 4000
namespace Go.Proofs.YtjejapbinelgeaaGreat
open Go Go.RowKit
noncomputable section
noncomputable def s_TickConn_o:List (Ent1 Tryz.prog):=[s_l19Copy_e,s_Waits_e,s_ConnOk_e,s_AckOf_e,s_Rewound_e,s_l1Max_e,s_Pump_e]
def s_TickConn_J16_a:An:=⟨⟨[],[],false,0⟩,⟨[2,3,4,5],[],false,0⟩,⟨[],[]⟩,[(.normal,⟨[(2,false,[.ptr 0 0]),(3,false,[.nil]),(4,false,[.ptr 1 0]),(5,false,[.own 2])],[.box [.st .conn [.nil .piec]],.box [.st .conn [.own 3]],.arr .segm false true,.of false true]⟩)]⟩
def s_TickConn_J23_a:An:=⟨⟨[],[],false,0⟩,⟨[1,2,3,4,5],[],false,0⟩,⟨[],[]⟩,[(.normal,⟨[(1,false,[.ptr 0 0]),(2,false,[.ptr 1 0]),(3,false,[.nil]),(4,false,[.ptr 2 0]),(5,false,[.own 3])],[.box [.st .conn [.sl .arg]],.box [.st .conn [.nil .piec]],.box [.st .conn [.own 4]],.arr .segm false true,.of false true]⟩)]⟩
noncomputable def s_TickConn_x:Fx:=⟨104,Tryz.f104,[(1000016,s_TickConn_J16_a),(1000023,s_TickConn_J23_a)],0⟩
noncomputable def s_TickConn:FT (Conn×Unit) (Conn×List Segm) (fun x=>sm_conn x.1) (fun x v=>sm_conn v.1∧sL sm_segm v.2∧v.2.length≤49):=⟨fun(x0,_)=>
  .cal s_l19Copy.c (x0,()) fun c1=>
  .cal s_Waits.c (x0,()) fun c2=>
  .ite (!c2) (.cal s_ConnOk.c (x0,()) fun c3=>
   .bnd (β:=WT s_TickConn_J16_a.es) (.ite c3 (.ret ((⟨⟨0,0,0⟩,0,⟨0,[],0,false,false,false⟩,⟨0,[],[],0,false⟩,0,0,⟨0,0,false,false,0,0⟩,0,0⟩:Conn),({c1 with timer:=0,tries:=0}:Conn),[],()))<|
    .ret ((⟨⟨0,0,0⟩,0,⟨0,[],0,false,false,false⟩,⟨0,[],[],0,false⟩,0,0,⟨0,0,false,false,0,0⟩,0,0⟩:Conn),c1,[],())) fun(_,u4a1,u4a2,_)=>
   .ret (u4a1,u4a2))<|
  .bnd (β:=WT s_TickConn_J23_a.es) (.ite (c1.timer==0) (.ite (x0.state==7) (.ret (x0,(⟨⟨0,0,0⟩,0,⟨0,[],0,false,false,false⟩,⟨0,[],[],0,false⟩,0,0,⟨0,0,false,false,0,0⟩,0,0⟩:Conn),({c1 with timer:=4}:Conn),[],()))<|
    .ret (x0,(⟨⟨0,0,0⟩,0,⟨0,[],0,false,false,false⟩,⟨0,[],[],0,false⟩,0,0,⟨0,0,false,false,0,0⟩,0,0⟩:Conn),({c1 with timer:=3}:Conn),[],()))<|
   .ret (x0,(⟨⟨0,0,0⟩,0,⟨0,[],0,false,false,false⟩,⟨0,[],[],0,false⟩,0,0,⟨0,0,false,false,0,0⟩,0,0⟩:Conn),c1,[],())) fun(u5a0,_,u5a2,u5a3,_)=>
  .ite (decide (0<(IntKind.wrap .i64 (u5a2.timer-1)))) (.ret (({u5a2 with timer:=(IntKind.wrap .i64 (u5a2.timer-1))}:Conn),u5a3))<|
  .ite (u5a0.state==7) (.ret (({u5a2 with state:=8,timer:=(IntKind.wrap .i64 (u5a2.timer-1)),tries:=0}:Conn),u5a3))<|
  .ite (u5a0.tries==3) (.cal s_AckOf.c (u5a0,()) fun c6=>
   .ret (({u5a2 with state:=8,timer:=(IntKind.wrap .i64 (u5a2.timer-1)),tries:=0}:Conn),[({c6 with flags:=(bits .or .i64 c6.flags 4)}:Segm)]))<|
  .cal s_Rewound.c (u5a0.s,()) fun c7=>
  .val (s_l1Max.f (1,u5a2.window,())) fun c8=>
  .cal s_Pump.c ((⟨u5a2.tuple,u5a2.state,c7,u5a2.r,u5a2.window,u5a2.most,u5a2.opts,(IntKind.wrap .i64 (u5a2.timer-1)),(IntKind.wrap .i64 (u5a0.tries+1))⟩:Conn),c8,()) fun c9=>
  .ret (({c9.1 with timer:=3}:Conn),c9.2),
 fun(x0,_) hp=>by
  refine Tr.C ?_ fun c1 hc1 qc1=>Tr.C ?_ fun c2 hc2 qc2=>Tr.I (fun b0=>Tr.C ?_ fun c3 hc3 qc3=>Tr.B (Q':=fun w=>sm_conn w.1∧sm_conn w.2.1∧sL sm_segm w.2.2.1∧w.2.2.1.length≤49) (Tr.I (fun b1=>Tr.R ?_) fun b1=>Tr.R ?_) (fun(u4a0,u4a1,u4a2,_) hj4 qj4=>Tr.R ?_)) fun b0=>Tr.B (Q':=fun w=>sm_conn w.1∧sm_conn w.2.1∧sm_conn w.2.2.1∧sL sm_segm w.2.2.2.1∧w.2.2.2.1.length≤49) (Tr.I (fun b1=>Tr.I (fun b2=>Tr.R ?_) fun b2=>Tr.R ?_) fun b1=>Tr.R ?_) (fun(u5a0,u5a1,u5a2,u5a3,_) hj5 qj5=>Tr.I (fun b1=>Tr.R ?_) fun b1=>Tr.I (fun b2=>Tr.R ?_) fun b2=>Tr.I (fun b3=>Tr.C ?_ fun c6 hc6 qc6=>Tr.R ?_) fun b3=>Tr.C ?_ fun c7 hc7 qc7=>Tr.V fun c8 hc8=>Tr.C ?_ fun c9 hc9 qc9=>Tr.R ?_)
  all_goals ((try simp only[Tr.nice,letK]at*)<;>grind)⟩
noncomputable def s_TickConn_e:=entT st s_TickConn_x s_TickConn_o [] (ks:=[.st .conn]) s_TickConn (fun v=>[(true,q_conn (.o true) v.1),(false,[sc (.o true) .segm v.2])]) Tryz.func104 trivial fun _=>by kernel_rfl
noncomputable def i_cloneTable_o:List (Ent1 Tryz.prog):=[g_Clone_Tuple_e,i_cloneConn_e]
def i_cloneTable_L0_h:Sh:=⟨[(2,false,[.ptr 0 0]),(3,false,[.ptr 1 0]),(11,false,[.sl .arg .conn]),(12,false,[.int .i64]),(13,false,[.int .i64])],[.box [.st .tabl [.nil .conn,.nil .tupl]],.box [.st .tabl [.own 2,.own 3]],.of false true,.of false true]⟩
noncomputable def i_cloneTable_x:Fx:=⟨132,Tryz.f132,[(0,la ⟨[2,3,11,12,13],[.box 3 0 .conn],false,0⟩ ⟨[2,3],[],false,0⟩)],0⟩
noncomputable def i_cloneTable_L0_T (v0:List Conn)(v2:Int)(a:Tabl×Tabl):Tr (Stp (Tabl×Tabl) (Empty)):=
 .grd ((decide (0≤v2))&&(decide (v2<(v0.length:Int))))<|
 .cal i_cloneConn.c ((v0.getD v2.toNat (Ty.zero .conn)),()) fun c3=>
 .grd (Nat.ble ((2*(a.2.conns.length+1)+1024)*208) maxSl)<|
 .ret (.next ((⟨[],[]⟩:Tabl),(⟨(a.2.conns++[c3]),a.2.waiting⟩:Tabl)))
noncomputable def i_cloneTable_L0_d:i_cloneTable_L0_h.V→LC i_cloneTable_L0_h (Tabl×Tabl) (Empty) (Int×(Tabl×Tabl)):=fun(v0,v1,v2,v3,v4,_)=>⟨v2,(v3,v4),fun v2 a=>(v0,v1,v2,a.1,a.2,()),fun v2 _=>(decide (v2<v1)),i_cloneTable_L0_T v0,up,1,(Int.toNat (v1-v2)),(fun p=>Empty.elim p),fun i a=>(i,a),fun _ k x=>k (.exit 0) (Sh.enc ⟨[(2,false,[.ptr 0 0]),(3,false,[.ptr 1 0])],[.box [.st .tabl [.nil .conn,.nil .tupl]],.box [.st .tabl [.own 2,.own 3]],.of false true,.of false true]⟩ ((⟨[],[]⟩:Tabl),x.2.2,()))⟩
theorem i_cloneTable_L0_s:LS Tryz.prog i_cloneTable_x [0] (leC 0 i_cloneTable_L0_h i_cloneTable_L0_d):=loopC st (orcOf_ok i_cloneTable_o) _ i_cloneTable_L0_d [] trivial (by kernel_rfl) (fun _=>by kernel_rfl) fun _ _ _ _ _ _=>by kernel_rfl
theorem i_cloneTable_L0_k {v0:List Conn}{v1 v2:Int}{v3 v4:Tabl}(h0:0≤v2)(h1:v1≤4611686018427387904)(h2:sL sm_conn v0)(h3:v1≤4294967296)(h4:sS v4.waiting)(h5:v1≤(v0.length:Int))(h6:sm_tabl v3∧(v4.conns.length:Int)=v2∧smE sm_conn v4.conns∧v4.waiting.length=v4.waiting.length):(i_cloneTable_L0_d (v0,v1,v2,v3,v4,())).U v1 (fun v2 a=>sm_tabl a.1∧(a.2.conns.length:Int)=v2∧smE sm_conn a.2.conns∧a.2.waiting.length=v4.waiting.length) (fun _=>True):=
 LC.okU (i:=v2) (a:=(v3,v4)) (fun _ _=>rfl) (fun _=>rfl) rfl h0 h1 h6 fun v2 (v3,v4) hj hk hv=>by
  refine Tr.G2 ?_ fun _=>Tr.C ?_ fun _ _ _=>Tr.Gb ?_ fun _=>Tr.Rn ?_
  all_goals (grind)
noncomputable def i_cloneTable:FT (Tabl×Unit) (Tabl) (fun x=>sm_tabl x.1) (fun x v=>sm_tabl v∧v.conns.length=x.1.conns.length∧v.waiting.length=x.1.waiting.length):=⟨fun(x0,_)=>
  .cal g_Clone_Tuple.c (x0.waiting,()) fun c1=>
  .lp (i_cloneTable_L0_d (x0.conns,(x0.conns.length:Int),0,(⟨[],[]⟩:Tabl),(⟨[],c1⟩:Tabl),())).lp fun(_,_,a4_1)=>
  .ret a4_1,
 fun(x0,_) hp=>by
  refine Tr.C ?_ fun _ _ _=>Tr.L (i_cloneTable_L0_k ?_ ?_ ?_ ?_ ?_ ?_ ?_) (fun(a4_0,a4_1) _=>Tr.R ?_) (fun p=>Empty.elim p)
  all_goals ((try simp only[i_cloneTable_L0_d,LC.lp,LC.ct,Ct.lp]at*)<;>grind)⟩
noncomputable def i_cloneTable_e:=entT st i_cloneTable_x i_cloneTable_o [(leC 0 i_cloneTable_L0_h i_cloneTable_L0_d)] (ks:=[.st .tabl]) i_cloneTable (fun v=>[(true,q_tabl (.o true) (.o true) v)]) Tryz.func132 ⟨i_cloneTable_L0_s,trivial⟩ fun _=>by kernel_rfl
noncomputable def i_Pump_o:List (Ent1 Tryz.prog):=[i_cloneConn_e,i_ConnOk_e,i_MssFor_e,i_NextChunk_e,i_AckOf_e,i_SentOff_e]
def i_Pump_L0_h:Sh:=⟨[(1,false,[.int .i64]),(4,false,[.ptr 0 0]),(6,false,[.ptr 1 0]),(7,false,[.own 2])],[.box [.st .conn [.nil .piec]],.box [.st .conn [.own 3]],.arr .segm false true,.of false true]⟩
noncomputable def i_Pump_x:Fx:=⟨147,Tryz.f147,[(0,la ⟨[1,4,6,7],[],false,0⟩ ⟨[4,5,6,7],[],false,0⟩),(3000002,rA 0 25),(3000016,rA 0 76)],0⟩
noncomputable def i_Pump_L0_T (v0:Int)(a:Conn×Conn×List Segm):Tr (Stp (Conn×Conn×List Segm) ((Conn×Conn×List Segm))):=
 .val (i_MssFor.f (a.2.1,())) fun c4=>
 .cal i_NextChunk.c (a.2.1.s,v0,c4,()) fun c5=>
 .ite (!c5.2) (.ret (.out (({a.1 with r.held:=[]}:Conn),a.2.1,a.2.2)))<|
 .cal i_AckOf.c (a.2.1,()) fun c6=>
 .ite (!(c5.1.text==[])) (.ite c5.1.fin (.grd (Nat.ble ((2*(a.2.2.length+1)+1024)*104) maxSl)<|
   .val (a.2.2++[({c6 with seq:=c5.1.seq,flags:=(bits .or .i64 (bits .or .i64 c6.flags 8) 1),body:=c5.1.text}:Segm)]) fun l7=>
   .cal i_SentOff.c (a.2.1.s,c5.1,()) fun c8=>
   .ret (.next (({a.1 with r.held:=[]}:Conn),({a.2.1 with s.una:=c8.una,s.data:=c8.data,s.sent:=c8.sent,s.fin:=c8.fin,s.finSent:=c8.finSent,s.done:=c8.done}:Conn),l7)))<|
  .grd (Nat.ble ((2*(a.2.2.length+1)+1024)*104) maxSl)<|
  .val (a.2.2++[({c6 with seq:=c5.1.seq,flags:=(bits .or .i64 c6.flags 8),body:=c5.1.text}:Segm)]) fun l9=>
  .cal i_SentOff.c (a.2.1.s,c5.1,()) fun c10=>
  .ret (.next (({a.1 with r.held:=[]}:Conn),({a.2.1 with s.una:=c10.una,s.data:=c10.data,s.sent:=c10.sent,s.fin:=c10.fin,s.finSent:=c10.finSent,s.done:=c10.done}:Conn),l9)))<|
 .ite c5.1.fin (.grd (Nat.ble ((2*(a.2.2.length+1)+1024)*104) maxSl)<|
  .val (a.2.2++[({c6 with seq:=c5.1.seq,flags:=(bits .or .i64 c6.flags 1),body:=c5.1.text}:Segm)]) fun l11=>
  .cal i_SentOff.c (a.2.1.s,c5.1,()) fun c12=>
  .ret (.next (({a.1 with r.held:=[]}:Conn),({a.2.1 with s.una:=c12.una,s.data:=c12.data,s.sent:=c12.sent,s.fin:=c12.fin,s.finSent:=c12.finSent,s.done:=c12.done}:Conn),l11)))<|
 .grd (Nat.ble ((2*(a.2.2.length+1)+1024)*104) maxSl)<|
 .cal i_SentOff.c (a.2.1.s,c5.1,()) fun c13=>
 .ret (.next (({a.1 with r.held:=[]}:Conn),({a.2.1 with s.una:=c13.una,s.data:=c13.data,s.sent:=c13.sent,s.fin:=c13.fin,s.finSent:=c13.finSent,s.done:=c13.done}:Conn),(a.2.2++[({c6 with seq:=c5.1.seq,body:=c5.1.text}:Segm)])))
noncomputable def i_Pump_L0_d:i_Pump_L0_h.V→LW i_Pump_L0_h (Conn×Conn×List Segm) ((Conn×Conn×List Segm)):=fun(v0,v1,v2,v3,_)=>⟨(v1,v2,v3),fun a=>(v0,a.1,a.2.1,a.2.2,()),i_Pump_L0_T v0,sgm v2.s,fun _ k p=>k (.exit 0) (Sh.enc ⟨[(4,false,[.ptr 0 0]),(5,false,[.undef]),(6,false,[.ptr 1 0]),(7,false,[.own 2])],[.box [.st .conn [.nil .piec]],.box [.st .conn [.own 3]],.arr .segm false true,.of false true]⟩ (p.1,p.2.1,p.2.2,()))⟩
theorem i_Pump_L0_s:LS Tryz.prog i_Pump_x [0] (leW 0 i_Pump_L0_h i_Pump_L0_d):=loopW st (orcOf_ok i_Pump_o) _ i_Pump_L0_d [] trivial (by kernel_rfl) (fun _=>by kernel_rfl) fun _ _ _ _ _=>by kernel_rfl
theorem i_Pump_L0_k {v0:Int}{v1 v2:Conn}{v3:List Segm}(h0:sm_conn v1∧sm_conn v2∧sL sm_segm v3∧v3.length+sgm v2.s≤49):(i_Pump_L0_d (v0,v1,v2,v3,())).W (fun p=>sm_conn p.1∧sm_conn p.2.1∧sL sm_segm p.2.2∧p.2.2.length≤49):=
 LW.okW (a:=(v1,v2,v3)) (fun a=>sm_conn a.1∧sm_conn a.2.1∧sL sm_segm a.2.2∧a.2.2.length+sgm a.2.1.s≤49) (fun a=>sgm a.2.1.s) rfl h0 fun(v1,v2,v3) hv=>by
  refine Tr.V fun c4 hc4=>Tr.C ?_ fun c5 hc5 qc5=>Tr.I (fun b0=>Tr.Ro ?_) fun b0=>Tr.C ?_ fun c6 hc6 qc6=>Tr.I (fun b1=>Tr.I (fun b2=>Tr.Gb ?_ fun g3=>Tr.V fun l7 hl7=>Tr.C ?_ fun c8 hc8 qc8=>Tr.Rn ?_) fun b2=>Tr.Gb ?_ fun g3=>Tr.V fun l9 hl9=>Tr.C ?_ fun c10 hc10 qc10=>Tr.Rn ?_) fun b1=>Tr.I (fun b2=>Tr.Gb ?_ fun g3=>Tr.V fun l11 hl11=>Tr.C ?_ fun c12 hc12 qc12=>Tr.Rn ?_) fun b2=>Tr.Gb ?_ fun g3=>Tr.C ?_ fun c13 hc13 qc13=>Tr.Rn ?_
  all_goals ((first|grind|(have tl:∀s:Bytes,s=[]∨0<s.length:=(fun s=>by cases s<;>simp);grind)))
noncomputable def i_Pump:FT (Conn×Int×Unit) (Conn×List Segm) (fun x=>sm_conn x.1) (fun x v=>sm_conn v.1∧sL sm_segm v.2∧v.2.length≤49):=⟨fun(x0,x1,_)=>
  .cal i_cloneConn.c (x0,()) fun c1=>
  .bnd (β:=Bool×Unit) (.cal i_ConnOk.c (x0,()) fun c2=>
   .ite (!c2) (.ret (true,()))<|
   .ite (x0.state==8) (.ret (true,()))<|
   .ret ((x0.state==7),())) fun(u3a0,_)=>
  .ite u3a0 (.ret (c1,[]))<|
  .lp (i_Pump_L0_d (x1,(⟨⟨0,0,0⟩,0,⟨0,[],0,false,false,false⟩,⟨0,[],[],0,false⟩,0,0,⟨0,0,false,false,0,0⟩,0,0⟩:Conn),c1,[],())).lp fun(_,p14a1,p14a2)=>
  .bnd (β:=Bool×Unit) (.ite (decide (0<(p14a2.length:Int))) (.ret ((p14a1.timer==0),()))<|
   .ret (false,())) fun(u15a0,_)=>
  .ite u15a0 (.ret (({p14a1 with timer:=3}:Conn),p14a2))<|
  .ret (p14a1,p14a2),
 fun(x0,x1,_) hp=>by
  refine Tr.C ?_ fun _ _ _=>Tr.B (Q':=fun w=>(w.1=false→SO x0.s∧RO x0.r)) (Tr.C ?_ fun _ _ _=>Tr.I (fun _=>Tr.R ?_) fun _=>Tr.I (fun _=>Tr.R ?_) fun _=>Tr.R ?_) (fun(u3a0,_) _ _=>Tr.I (fun _=>Tr.R ?_) fun _=>Tr.L (i_Pump_L0_k ?_) (fun a=>Empty.elim a) (fun(p14a0,p14a1,p14a2) _=>Tr.B (Q':=fun _=>True) (Tr.F (by kernel_rfl) trivial) (fun(u15a0,_) _ _=>Tr.I (fun _=>Tr.R ?_) fun _=>Tr.R ?_)))
  all_goals ((try simp only[i_Pump_L0_d,LW.lp,LW.cw,Cw.lp,Tr.nice,letK]at*)<;>grind)⟩
noncomputable def i_Pump_e:=entT st i_Pump_x i_Pump_o [(leW 0 i_Pump_L0_h i_Pump_L0_d)] (ks:=[.st .conn,.sc (.int .i64)]) i_Pump (fun v=>[(true,q_conn (.o true) v.1),(false,[sc (.o true) .segm v.2])]) Tryz.func147 ⟨i_Pump_L0_s,trivial⟩ fun _=>by kernel_rfl
noncomputable def s_PutConn:FT (Tabl×Conn×Limi×Unit) (Tabl×Bool) (fun x=>sm_tabl x.1∧sm_conn x.2.1) (fun x v=>sm_tabl v.1∧v.1.conns.length≤max x.1.conns.length 16∧v.1.waiting.length≤max x.1.waiting.length 16):=⟨fun(x0,x1,x2,_)=>
  .cal s_l25Copy.c (x0,()) fun c1=>
  .cal s_l19Copy.c (x1,()) fun c2=>
  .grd (Nat.ble ((2*(c1.conns.length+1)+1024)*208) maxSl)<|
  .grd (Nat.ble ((2*(c1.waiting.length+1)+1024)*24) maxSl)<|
  .cal s_TableOk.c ((⟨(c1.conns++[c2]),(c1.waiting++[x1.tuple])⟩:Tabl),x2,()) fun c3=>
  .ite (!c3) (.cal s_l25Copy.c (x0,()) fun c4=>
   .ret (c4,false))<|
  .ret ((⟨(c1.conns++[c2]),(c1.waiting++[x1.tuple])⟩:Tabl),true),
 fun(x0,x1,x2,_) hp=>by
  refine Tr.C ?_ fun _ _ _=>Tr.C ?_ fun _ _ _=>Tr.Gb ?_ fun _=>Tr.Gb ?_ fun _=>Tr.C ?_ fun _ _ _=>Tr.I (fun _=>Tr.C ?_ fun _ _ _=>Tr.R ?_) fun _=>Tr.R ?_
  all_goals (grind)⟩
noncomputable def s_PutConn_e:=ent0 st Tryz.func154 [s_l25Copy_e,s_l19Copy_e,s_TableOk_e] (ks:=[.st .tabl,.st .conn,.st .limi]) s_PutConn (fun v=>[(true,q_tabl (.o true) (.o true) v.1),(false,[.c (.bool v.2)])]) fun _=>by kernel_rfl
noncomputable def i_TickConn_o:List (Ent1 Tryz.prog):=[i_cloneConn_e,i_Waits_e,i_ConnOk_e,i_AckOf_e,i_Rewound_e,i_Pump_e]
def i_TickConn_J14_a:An:=⟨⟨[],[],false,0⟩,⟨[2,3,4],[],false,0⟩,⟨[],[]⟩,[(.normal,⟨[(2,false,[.ptr 0 0]),(3,false,[.nil]),(4,false,[.ptr 1 0])],[.box [.st .conn [.nil .piec]],.box [.st .conn [.own 2]],.of false true]⟩)]⟩
def i_TickConn_J20_a:An:=⟨⟨[],[],false,0⟩,⟨[1,2,3,4],[],false,0⟩,⟨[],[]⟩,[(.normal,⟨[(1,false,[.ptr 0 0]),(2,false,[.ptr 1 0]),(3,false,[.nil]),(4,false,[.ptr 2 0])],[.box [.st .conn [.sl .arg]],.box [.st .conn [.nil .piec]],.box [.st .conn [.own 3]],.of false true]⟩)]⟩
def i_TickConn_J68_a:An:=⟨⟨[],[],false,0⟩,⟨[2,3,4,6],[],false,0⟩,⟨[],[]⟩,[(.normal,⟨[(2,false,[.ptr 0 0]),(3,false,[.nil]),(4,false,[.ptr 1 0]),(6,false,[.int .i64])],[.box [.st .conn [.nil .piec]],.box [.st .conn [.own 2]],.of false true]⟩)]⟩
noncomputable def i_TickConn_x:Fx:=⟨181,Tryz.f181,[(1000014,i_TickConn_J14_a),(1000020,i_TickConn_J20_a),(1000068,i_TickConn_J68_a)],0⟩
noncomputable def i_TickConn:FT (Conn×Unit) (Conn×List Segm) (fun x=>sm_conn x.1) (fun x v=>sm_conn v.1∧sL sm_segm v.2∧v.2.length≤49):=⟨fun(x0,_)=>
  .cal i_cloneConn.c (x0,()) fun c1=>
  .cal i_Waits.c (x0,()) fun c2=>
  .ite (!c2) (.cal i_ConnOk.c (x0,()) fun c3=>
   .bnd (β:=WT i_TickConn_J14_a.es) (.ite c3 (.ret ((⟨⟨0,0,0⟩,0,⟨0,[],0,false,false,false⟩,⟨0,[],[],0,false⟩,0,0,⟨0,0,false,false,0,0⟩,0,0⟩:Conn),({c1 with timer:=0,tries:=0}:Conn),()))<|
    .ret ((⟨⟨0,0,0⟩,0,⟨0,[],0,false,false,false⟩,⟨0,[],[],0,false⟩,0,0,⟨0,0,false,false,0,0⟩,0,0⟩:Conn),c1,())) fun(_,u4a1,_)=>
   .ret (u4a1,[]))<|
  .bnd (β:=WT i_TickConn_J20_a.es) (.ite (c1.timer==0) (.ite (x0.state==7) (.ret (x0,(⟨⟨0,0,0⟩,0,⟨0,[],0,false,false,false⟩,⟨0,[],[],0,false⟩,0,0,⟨0,0,false,false,0,0⟩,0,0⟩:Conn),({c1 with timer:=4}:Conn),()))<|
    .ret (x0,(⟨⟨0,0,0⟩,0,⟨0,[],0,false,false,false⟩,⟨0,[],[],0,false⟩,0,0,⟨0,0,false,false,0,0⟩,0,0⟩:Conn),({c1 with timer:=3}:Conn),()))<|
   .ret (x0,(⟨⟨0,0,0⟩,0,⟨0,[],0,false,false,false⟩,⟨0,[],[],0,false⟩,0,0,⟨0,0,false,false,0,0⟩,0,0⟩:Conn),c1,())) fun(u5a0,u5a1,u5a2,_)=>
  .ite (decide (0<(IntKind.wrap .i64 (u5a2.timer-1)))) (.ret (({u5a2 with timer:=(IntKind.wrap .i64 (u5a2.timer-1))}:Conn),[]))<|
  .ite (u5a0.state==7) (.ret (({u5a2 with state:=8,timer:=(IntKind.wrap .i64 (u5a2.timer-1)),tries:=0}:Conn),[]))<|
  .ite (u5a0.tries==3) (.cal i_AckOf.c (u5a0,()) fun c6=>
   .ret (({u5a2 with state:=8,timer:=0,tries:=0}:Conn),[({c6 with flags:=(bits .or .i64 c6.flags 4)}:Segm)]))<|
  .cal i_Rewound.c (u5a2.s,()) fun c7=>
  .bnd (β:=WT i_TickConn_J68_a.es) (.ite (u5a0.window==0) (.ret (1,({u5a1 with r.held:=[]}:Conn),(⟨u5a2.tuple,u5a2.state,c7,u5a2.r,u5a2.window,u5a2.most,u5a2.opts,(IntKind.wrap .i64 (u5a2.timer-1)),(IntKind.wrap .i64 (u5a2.tries+1))⟩:Conn),()))<|
   .ret (u5a0.window,({u5a1 with r.held:=[]}:Conn),(⟨u5a2.tuple,u5a2.state,c7,u5a2.r,u5a2.window,u5a2.most,u5a2.opts,(IntKind.wrap .i64 (u5a2.timer-1)),(IntKind.wrap .i64 (u5a2.tries+1))⟩:Conn),())) fun(u8a0,_,u8a2,_)=>
  .cal i_Pump.c (u8a2,u8a0,()) fun c9=>
  .ret (({c9.1 with timer:=3}:Conn),c9.2),
 fun(x0,_) hp=>by
  refine Tr.C ?_ fun _ _ _=>Tr.C ?_ fun _ _ _=>Tr.I (fun _=>Tr.C ?_ fun _ _ _=>Tr.B (Q':=fun w=>sm_conn w.1∧sm_conn w.2.1) (Tr.I (fun _=>Tr.R ?_) fun _=>Tr.R ?_) (fun(u4a0,u4a1,_) _ _=>Tr.R ?_)) fun _=>Tr.B (Q':=fun w=>sm_conn w.1∧sm_conn w.2.1∧sm_conn w.2.2.1) (Tr.I (fun _=>Tr.I (fun _=>Tr.R ?_) fun _=>Tr.R ?_) fun _=>Tr.R ?_) (fun(u5a0,u5a1,u5a2,_) _ _=>Tr.I (fun _=>Tr.R ?_) fun _=>Tr.I (fun _=>Tr.R ?_) fun _=>Tr.I (fun _=>Tr.C ?_ fun _ _ _=>Tr.R ?_) fun _=>Tr.C ?_ fun _ _ _=>Tr.B (Q':=fun w=>sm_conn w.2.1∧sm_conn w.2.2.1) (Tr.I (fun _=>Tr.R ?_) fun _=>Tr.R ?_) (fun(u8a0,u8a1,u8a2,_) _ _=>Tr.C ?_ fun _ _ _=>Tr.R ?_))
  all_goals ((try simp only[Tr.nice,letK]at*)<;>grind)⟩
noncomputable def i_TickConn_e:=entT st i_TickConn_x i_TickConn_o [] (ks:=[.st .conn]) i_TickConn (fun v=>[(true,q_conn (.o true) v.1),(false,[sc (.o true) .segm v.2])]) Tryz.func181 trivial fun _=>by kernel_rfl
noncomputable def i_SegmentText:FT (Segm×Int×Int×Unit) (Bytes) (fun x=>sm_segm x.1) (fun x v=>sS v∧v.length≤1500):=⟨fun(x0,x1,x2,_)=>
  .cal i_SegmentOk.c (x0,()) fun c1=>
  .ite (!c1) (.ret [])<|
  .cal i_OptionsText.c (x0.opts,()) fun c2=>
  .val (IntKind.wrap .i64 ((IntKind.wrap .i64 (20+(c2.length:Int)))+(x0.body.length:Int))) fun e3=>
  .cal i_PseudoHead.c (x1,x2,e3,()) fun c4=>
  .ite (c4==[]) (.ret [])<|
  .cal i_PutWord.c (x0.from_,2,()) fun c5=>
  .cal i_PutWord.c (x0.to,2,()) fun c6=>
  .grd (Nat.ble (c5.length+c6.length) maxStr)<|
  .cal i_PutWord.c (x0.seq,4,()) fun c7=>
  .grd (Nat.ble ((c5++c6).length+c7.length) maxStr)<|
  .cal i_PutWord.c (x0.ack,4,()) fun c8=>
  .grd (Nat.ble (((c5++c6)++c7).length+c8.length) maxStr)<|
  .val (IntKind.wrap .i64 ((IntKind.wrap .i64 (20+(c2.length:Int))).tdiv 4)) fun e9=>
  .cal i_PutWord.c ((IntKind.wrap .i64 (e9*16)),1,()) fun c10=>
  .grd (Nat.ble ((((c5++c6)++c7)++c8).length+c10.length) maxStr)<|
  .cal i_PutWord.c (x0.flags,1,()) fun c11=>
  .grd (Nat.ble (((((c5++c6)++c7)++c8)++c10).length+c11.length) maxStr)<|
  .cal i_PutWord.c (x0.window,2,()) fun c12=>
  .grd (Nat.ble ((((((c5++c6)++c7)++c8)++c10)++c11).length+c12.length) maxStr)<|
  .grd (Nat.ble (2+c2.length) maxStr)<|
  .grd (Nat.ble (([0,0]++c2).length+x0.body.length) maxStr)<|
  .grd (Nat.ble (c4.length+((((((c5++c6)++c7)++c8)++c10)++c11)++c12).length) maxStr)<|
  .grd (Nat.ble ((c4++((((((c5++c6)++c7)++c8)++c10)++c11)++c12)).length+2) maxStr)<|
  .val ((c4++((((((c5++c6)++c7)++c8)++c10)++c11)++c12))++[0,0]) fun e13=>
  .grd (Nat.ble (e13.length+(([0,0]++c2)++x0.body).length) maxStr)<|
  .cal i_SumOf.c ((e13++(([0,0]++c2)++x0.body)),()) fun c14=>
  .cal i_PutWord.c (c14,2,()) fun c15=>
  .grd (Nat.ble (((((((c5++c6)++c7)++c8)++c10)++c11)++c12).length+c15.length) maxStr)<|
  .grd (Nat.ble ((((((((c5++c6)++c7)++c8)++c10)++c11)++c12)++c15).length+(([0,0]++c2)++x0.body).length) maxStr)<|
  .val ((((((((c5++c6)++c7)++c8)++c10)++c11)++c12)++c15)++(([0,0]++c2)++x0.body)) fun e16=>
  .ret e16,
 fun(x0,x1,x2,_) hp=>by
  refine Tr.C trivial fun c1 hc1 qc1=>Tr.I (fun b0=>Tr.R ?_) fun b0=>Tr.C trivial fun c2 hc2 qc2=>Tr.V fun e3 he3=>Tr.C trivial fun c4 hc4 qc4=>Tr.I (fun b1=>Tr.R ?_) fun b1=>Tr.C trivial fun c5 hc5 qc5=>Tr.C trivial fun c6 hc6 qc6=>Tr.Gb ?_ fun g2=>Tr.C trivial fun c7 hc7 qc7=>Tr.Gb ?_ fun g3=>Tr.C trivial fun c8 hc8 qc8=>Tr.Gb ?_ fun g4=>Tr.V fun e9 he9=>Tr.C trivial fun c10 hc10 qc10=>Tr.Gb ?_ fun g5=>Tr.C trivial fun c11 hc11 qc11=>Tr.Gb ?_ fun g6=>Tr.C trivial fun c12 hc12 qc12=>Tr.Gb ?_ fun g7=>Tr.Gb ?_ fun g8=>Tr.Gb ?_ fun g9=>Tr.Gb ?_ fun g10=>Tr.Gb ?_ fun g11=>Tr.V fun e13 he13=>Tr.Gb ?_ fun g12=>Tr.C ?_ fun c14 hc14 qc14=>Tr.C trivial fun c15 hc15 qc15=>Tr.Gb ?_ fun g13=>Tr.Gb ?_ fun g14=>Tr.V fun e16 he16=>Tr.R ?_
  all_goals ((first|(simp only[List.length_append,List.length_cons,List.length_nil,maxStr,sS]at*;omega)|grind))⟩
noncomputable def i_SegmentText_e:=ent0 st Tryz.func183 [i_SegmentOk_e,i_OptionsText_e,i_PseudoHead_e,i_PutWord_e,i_SumOf_e] (ks:=[.st .segm,.sc (.int .i64),.sc (.int .i64)]) i_SegmentText (fun v=>[(false,[.c (.str v)])]) fun _=>by kernel_rfl
noncomputable def i_LinkOut_o:List (Ent1 Tryz.prog):=[i_HwOf_e,i_PacketText_e,i_LinkOk_e,i_FrameText_e]
noncomputable def i_LinkOut_x:Fx:=⟨184,Tryz.f184,[(3000003,rA 0 35)],0⟩
noncomputable def i_LinkOut:FT (Link×Int×Bytes×Unit) (Bytes×Bool) (fun x=>sm_link x.1∧sS x.2.2.1) (fun x v=>sS v.1):=⟨fun(x0,x1,x2,_)=>
  .cal i_HwOf.c (x0.cache,x1,()) fun c1=>
  .cal i_PacketText.c ((⟨x0.ip,x1,64,6,0,x2⟩:Pack),()) fun c2=>
  .bnd (β:=Bool×Unit) (.cal i_LinkOk.c (x0,()) fun c3=>
   .ite (!c3) (.ret (true,()))<|
   .ite (!c1.2) (.ret (true,()))<|
   .ret ((c2==[]),())) fun(u4a0,_)=>
  .ite u4a0 (.ret ([],false))<|
  .cal i_FrameText.c ((⟨c1.1,x0.mac,2048,c2⟩:Fram),()) fun c5=>
  .ret (c5,(!(c5==[]))),
 fun(x0,x1,x2,_) hp=>by
  refine Tr.C ?_ fun _ _ _=>Tr.C ?_ fun _ _ _=>Tr.B (Q':=fun _=>True) (Tr.C ?_ fun _ _ _=>Tr.F (by kernel_rfl) trivial) (fun(u4a0,_) _ _=>Tr.I (fun _=>Tr.R ?_) fun _=>Tr.C ?_ fun _ _ _=>Tr.R ?_)
  all_goals ((try simp only[Tr.nice,letK]at*)<;>grind)⟩
noncomputable def i_LinkOut_e:=entT st i_LinkOut_x i_LinkOut_o [] (ks:=[.st .link,.sc (.int .i64),.sc .str]) i_LinkOut (fun v=>[(false,[.c (.str v.1)]),(false,[.c (.bool v.2)])]) Tryz.func184 trivial fun _=>by kernel_rfl
noncomputable def s_LinkOut_o:List (Ent1 Tryz.prog):=[s_HwOf_e,s_LinkOk_e,s_PacketText_e,s_FrameText_e]
noncomputable def s_LinkOut_x:Fx:=⟨191,Tryz.f191,[(3000002,rA 0 25)],0⟩
noncomputable def s_LinkOut:FT (Link×Int×Bytes×Unit) (Bytes×Bool) (fun x=>sm_link x.1∧sS x.2.2.1) (fun x v=>sS v.1):=⟨fun(x0,x1,x2,_)=>
  .cal s_HwOf.c (x0.cache,x1,()) fun c1=>
  .bnd (β:=Bool×Unit) (.cal s_LinkOk.c (x0,()) fun c2=>
   .ite (!c2) (.ret (true,()))<|
   .ret ((!c1.2),())) fun(u3a0,_)=>
  .ite u3a0 (.ret ([],false))<|
  .cal s_PacketText.c ((⟨x0.ip,x1,64,6,0,x2⟩:Pack),()) fun c4=>
  .ite (c4==[]) (.ret ([],false))<|
  .cal s_FrameText.c ((⟨c1.1,x0.mac,2048,c4⟩:Fram),()) fun c5=>
  .ret (c5,(!(c5==[]))),
 fun(x0,x1,x2,_) hp=>by
  refine Tr.C ?_ fun _ _ _=>Tr.B (Q':=fun _=>True) (Tr.C ?_ fun _ _ _=>Tr.F (by kernel_rfl) trivial) (fun(u3a0,_) _ _=>Tr.I (fun _=>Tr.R ?_) fun _=>Tr.C ?_ fun _ _ _=>Tr.I (fun _=>Tr.R ?_) fun _=>Tr.C ?_ fun _ _ _=>Tr.R ?_)
  all_goals ((try simp only[Tr.nice,letK]at*)<;>grind)⟩
noncomputable def s_LinkOut_e:=entT st s_LinkOut_x s_LinkOut_o [] (ks:=[.st .link,.sc (.int .i64),.sc .str]) s_LinkOut (fun v=>[(false,[.c (.str v.1)]),(false,[.c (.bool v.2)])]) Tryz.func191 trivial fun _=>by kernel_rfl
noncomputable def s_Heard_o:List (Ent1 Tryz.prog):=[s_l19Copy_e,s_Verdict_e,s_Acked_e,s_l1Max_e,s_l1Min_e,s_l17Flown_e,s_l1In_e,s_Has_e,s_Arrived_e,s_Turned_e]
def s_Heard_J24_a:An:=⟨⟨[],[],false,0⟩,⟨[2,3,4,5],[],false,0⟩,⟨[],[]⟩,[(.normal,⟨[(2,false,[.ptr 0 0]),(3,false,[.ptr 1 0]),(4,false,[.ptr 2 0]),(5,false,[.ptr 3 0])],[.box [.st .conn [.sl .arg]],.box [.st .segm []],.box [.st .conn [.nil .piec]],.box [.st .conn [.own 4]],.of false true]⟩)]⟩
noncomputable def s_Heard_x:Fx:=⟨235,Tryz.f235,[(1000024,s_Heard_J24_a),(3000010,rA 0 59)],0⟩
noncomputable def s_Heard:FT (Conn×Segm×Unit) (Conn) (fun x=>sm_conn x.1∧sm_segm x.2.1) (fun x v=>sm_conn v):=⟨fun(x0,x1,_)=>
  .cal s_l19Copy.c (x0,()) fun c1=>
  .cal s_Verdict.c (x0,x1,()) fun c2=>
  .ite (c2 != 5) (.ret c1)<|
  .cal s_Acked.c (x0.s,x1.ack,()) fun c3=>
  .bnd (β:=WT s_Heard_J24_a.es) (.ite c3.2 (.val (s_l1Max.f (0,x0.opts.scale,())) fun c4=>
    .grd (decide (0≤(IntKind.wrap .u64 c4)))<|
    .val (IntKind.wrap .i64 (x1.window*2 ^ (min (IntKind.wrap .u64 c4).toNat 64))) fun e5=>
    .val (s_l1Min.f (1073725440,e5,())) fun c6=>
    .val (s_l1Max.f (c1.most,c6,())) fun c7=>
    .cal s_l17Flown.c (c3.1,()) fun c8=>
    .bnd (β:=Bool×Unit) (.ite (c3.1.una != x0.s.una) (.ret ((x0.state != 7),()))<|
     .ite (c8==0) (.ret ((x0.state != 7),()))<|
     .ret (false,())) fun(u9a0,_)=>
    .ite u9a0 (.ite (decide (0<c8)) (.ret (x0,x1,(⟨⟨0,0,0⟩,0,⟨0,[],0,false,false,false⟩,⟨0,[],[],0,false⟩,0,0,⟨0,0,false,false,0,0⟩,0,0⟩:Conn),(⟨c1.tuple,c1.state,c3.1,c1.r,c6,c7,c1.opts,3,0⟩:Conn),()))<|
     .ret (x0,x1,(⟨⟨0,0,0⟩,0,⟨0,[],0,false,false,false⟩,⟨0,[],[],0,false⟩,0,0,⟨0,0,false,false,0,0⟩,0,0⟩:Conn),(⟨c1.tuple,c1.state,c3.1,c1.r,c6,c7,c1.opts,0,0⟩:Conn),()))<|
    .ret (x0,x1,(⟨⟨0,0,0⟩,0,⟨0,[],0,false,false,false⟩,⟨0,[],[],0,false⟩,0,0,⟨0,0,false,false,0,0⟩,0,0⟩:Conn),(⟨c1.tuple,c1.state,c3.1,c1.r,c6,c7,c1.opts,c1.timer,c1.tries⟩:Conn),()))<|
   .ret (x0,x1,(⟨⟨0,0,0⟩,0,⟨0,[],0,false,false,false⟩,⟨0,[],[],0,false⟩,0,0,⟨0,0,false,false,0,0⟩,0,0⟩:Conn),c1,())) fun(u10a0,u10a1,_,u10a3,_)=>
  .val (s_l1In.f (u10a0.state,1,3,())) fun c11=>
  .ite c11 (.val (s_Has.f (u10a1,1,())) fun c12=>
   .cal s_Arrived.c (u10a0.r,u10a1.seq,u10a1.body,c12,()) fun c13=>
   .cal s_Turned.c (({u10a3 with r.next:=c13.next,r.data:=c13.data,r.held:=c13.held,r.fin:=c13.fin,r.done:=c13.done}:Conn),()) fun c14=>
   .ret c14)<|
  .cal s_Turned.c (u10a3,()) fun c15=>
  .ret c15,
 fun(x0,x1,_) hp=>by
  refine Tr.C ?_ fun _ _ _=>Tr.C ?_ fun _ _ _=>Tr.I (fun _=>Tr.R ?_) fun _=>Tr.C ?_ fun _ _ _=>Tr.B (Q':=fun w=>sm_conn w.1∧sm_segm w.2.1∧sm_conn w.2.2.1∧sm_conn w.2.2.2.1) (Tr.I (fun _=>Tr.V fun _ _=>Tr.G1 ?_ fun _=>Tr.V fun _ _=>Tr.V fun _ _=>Tr.V fun _ _=>Tr.C ?_ fun _ _ _=>Tr.B (Q':=fun _=>True) (Tr.F (by kernel_rfl) trivial) (fun(u9a0,_) _ _=>Tr.I (fun _=>Tr.I (fun _=>Tr.R ?_) fun _=>Tr.R ?_) fun _=>Tr.R ?_)) fun _=>Tr.R ?_) (fun(u10a0,u10a1,u10a2,u10a3,_) _ _=>Tr.V fun _ _=>Tr.I (fun _=>Tr.V fun _ _=>Tr.C ?_ fun _ _ _=>Tr.C ?_ fun _ _ _=>Tr.R ?_) fun _=>Tr.C ?_ fun _ _ _=>Tr.R ?_)
  all_goals ((try simp only[Tr.nice,letK]at*)<;>grind)⟩
noncomputable def s_Heard_e:=entT st s_Heard_x s_Heard_o [] (ks:=[.st .conn,.st .segm]) s_Heard (fun v=>[(true,q_conn (.o true) v)]) Tryz.func235 trivial fun _=>by kernel_rfl
noncomputable def s_SipHash_o:List (Ent1 Tryz.prog):=[s_SipStart_e,s_l10Low_e,s_SipWord_e,s_SipEnd_e]
def s_SipHash_L0_h:Sh:=⟨[(2,false,[.str]),(7,false,[.ptr 0 0]),(8,false,[.int .i64]),(9,false,[.int .i64])],[.box [.st .sipr []]]⟩
noncomputable def s_SipHash_x:Fx:=⟨237,Tryz.f237,[(0,la ⟨[2,7,8,9],[],false,0⟩ ⟨[2,6,7,8,9],[],false,0⟩)],0⟩
noncomputable def s_SipHash_L0_T (v0:Bytes)(v1:Int)(a:Int×Sipr):Tr (Stp (Int×Sipr) ((Int×Sipr))):=
 .ite (decide ((IntKind.wrap .i64 (a.1+8))≤v1)) (.grd (((decide (0≤a.1))&&(decide (a.1≤(IntKind.wrap .i64 (a.1+8)))))&&(decide ((IntKind.wrap .i64 (a.1+8))≤(v0.length:Int))))<|
  .cal s_l10Low.c (((v0.take ((IntKind.wrap .i64 (a.1+8)).toNat)).drop a.1.toNat),()) fun c2=>
  .cal s_SipWord.c (a.2,c2,()) fun c3=>
  .ret (.next ((IntKind.wrap .i64 (a.1+8)),c3)))<|
 .ret (.out (a.1,a.2))
noncomputable def s_SipHash_L0_d:s_SipHash_L0_h.V→LW s_SipHash_L0_h (Int×Sipr) ((Int×Sipr)):=fun(v0,v1,v2,v3,_)=>⟨(v2,v3),fun a=>(v0,v1,a.1,a.2,()),s_SipHash_L0_T v0 v1,Int.toNat (v1-v2),fun _ k p=>k (.exit 0) (Sh.enc ⟨[(2,false,[.str]),(6,false,[.undef]),(7,false,[.ptr 0 0]),(8,false,[.int .i64]),(9,false,[.int .i64])],[.box [.st .sipr []]]⟩ (v0,v1,p.1,p.2,()))⟩
theorem s_SipHash_L0_s:LS Tryz.prog s_SipHash_x [0] (leW 0 s_SipHash_L0_h s_SipHash_L0_d):=loopW st (orcOf_ok s_SipHash_o) _ s_SipHash_L0_d [] trivial (by kernel_rfl) (fun _=>by kernel_rfl) fun _ _ _ _ _=>by kernel_rfl
theorem s_SipHash_L0_k {v0:Bytes}{v1 v2:Int}{v3:Sipr}(h0:v1=(v0.length:Int))(h1:sS v0)(h2:0≤v2∧v2≤v1):(s_SipHash_L0_d (v0,v1,v2,v3,())).W (fun p=>0≤p.1∧p.1≤v0.length):=
 LW.okW (a:=(v2,v3)) (fun a=>0≤a.1∧a.1≤v1) (fun a=>Int.toNat (v1-a.1)) rfl h2 fun(v2,v3) hv=>by
  refine Tr.I (fun _=>Tr.G3 ?_ fun _=>Tr.C ?_ fun _ _ _=>Tr.C trivial fun _ _ _=>Tr.Rn ?_) fun _=>Tr.Ro ?_
  all_goals (grind)
noncomputable def s_SipHash:FT (Int×Int×Bytes×Unit) (Int) (fun x=>sS x.2.2.1) (fun _ _=>True):=⟨fun(x0,x1,x2,_)=>
  .val (s_SipStart.f (x0,x1,())) fun c1=>
  .lp (s_SipHash_L0_d (x2,(x2.length:Int),0,c1,())).lp fun(p4a0,p4a1)=>
  .grd (((decide (0≤p4a0))&&(decide (p4a0≤(x2.length:Int))))&&(decide ((x2.length:Int)≤(x2.length:Int))))<|
  .cal s_l10Low.c (((x2.take ((x2.length:Int).toNat)).drop p4a0.toNat),()) fun c5=>
  .val (IntKind.wrap .u64 ((IntKind.wrap .u64 ((x2.length:Int).tmod 256))*72057594037927936)) fun e6=>
  .cal s_SipWord.c (p4a1,(bits .or .u64 c5 e6),()) fun c7=>
  .cal s_SipEnd.c (c7,()) fun c8=>
  .ret c8,
 fun(x0,x1,x2,_) hp=>by
  refine Tr.V fun _ _=>Tr.L (s_SipHash_L0_k ?_ ?_ ?_) (fun a=>Empty.elim a) (fun(p4a0,p4a1) _=>Tr.G3 ?_ fun _=>Tr.C ?_ fun _ _ _=>Tr.V fun _ _=>Tr.C trivial fun _ _ _=>Tr.C trivial fun _ _ _=>Tr.R trivial)
  all_goals ((try simp only[s_SipHash_L0_d,LW.lp,LW.cw,Cw.lp]at*)<;>grind)⟩
noncomputable def s_SipHash_e:=entT st s_SipHash_x s_SipHash_o [(leW 0 s_SipHash_L0_h s_SipHash_L0_d)] (ks:=[.sc (.int .u64),.sc (.int .u64),.sc .str]) s_SipHash (fun v=>[(false,[.c (.int .u64 v)])]) Tryz.func237 ⟨s_SipHash_L0_s,trivial⟩ fun _=>by kernel_rfl
noncomputable def g_IndexFunc_Conn_i_FindConn_1_o:List (Ent1 Tryz.prog):=[i_FindConn_1_e]
def g_IndexFunc_Conn_i_FindConn_1_L0_h:Sh:=⟨[(0,false,[.sl .arg .conn]),(1,false,[.fn 80 [0]]),(7,false,[.int .i64]),(8,false,[.int .i64])],[.box [.st .tupl []]]⟩
noncomputable def g_IndexFunc_Conn_i_FindConn_1_x:Fx:=⟨79,Tryz.f79,[(0,la ⟨[0,1,7,8],[],false,1⟩ ⟨[4],[],false,1⟩)],1⟩
noncomputable def g_IndexFunc_Conn_i_FindConn_1_L0_T (v0:List Conn)(v3:Tupl)(v2:Int)(a:Unit):Tr (Stp (Unit) ((Int))):=
 .grd ((decide (0≤v2))&&(decide (v2<(v0.length:Int))))<|
 .cal i_FindConn_1.c ((v0.getD v2.toNat (Ty.zero .conn)),v3,()) fun c1=>
 .ite c1 (.ret (.out v2))<|
 .ret (.next ())
noncomputable def g_IndexFunc_Conn_i_FindConn_1_L0_d:g_IndexFunc_Conn_i_FindConn_1_L0_h.V→LC g_IndexFunc_Conn_i_FindConn_1_L0_h (Unit) ((Int)) (((Int))⊕(Int×Unit)):=fun(v0,v1,v2,v3,_)=>⟨v2,(),fun v2 _=>(v0,v1,v2,v3,()),fun v2 _=>(decide (v2<v1)),g_IndexFunc_Conn_i_FindConn_1_L0_T v0 v3,up,1,(Int.toNat (v1-v2)),.inl,fun i a=> .inr (i,a),fun _ k w=>Sum.elim (fun p=>k .ret (Sh.enc ⟨[(4,false,[.int .i64])],[.box [.st .tupl []]]⟩ (p,v3,()))) (fun _=>k (.exit 0) (Sh.enc ⟨[(4,false,[.undef])],[.box [.st .tupl []]]⟩ (v3,()))) w⟩
theorem g_IndexFunc_Conn_i_FindConn_1_L0_s:LS Tryz.prog g_IndexFunc_Conn_i_FindConn_1_x [0] (leC 0 g_IndexFunc_Conn_i_FindConn_1_L0_h g_IndexFunc_Conn_i_FindConn_1_L0_d):=loopC st (orcOf_ok g_IndexFunc_Conn_i_FindConn_1_o) _ g_IndexFunc_Conn_i_FindConn_1_L0_d [] trivial (by kernel_rfl) (fun _=>by kernel_rfl) fun _ _ _ _ _ _=>by kernel_rfl
theorem g_IndexFunc_Conn_i_FindConn_1_L0_k {v0:List Conn}{v1 v2:Int}{v3:Tupl}(h0:0≤v2)(h1:v1≤4611686018427387904)(h2:v1≤(v0.length:Int)):(g_IndexFunc_Conn_i_FindConn_1_L0_d (v0,v1,v2,v3,())).U v1 (fun _ _=>True) (fun p=>v2≤p∧p<v1):=
 LC.okU (i:=v2) (a:=()) (fun _ _=>rfl) (fun _=>rfl) rfl h0 h1 trivial fun v2 _ hj hk hv=>by
  refine Tr.G2 ?_ fun _=>Tr.C trivial fun _ _ _=>Tr.I (fun _=>Tr.Ro ?_) fun _=>Tr.Rn trivial
  all_goals (grind)
noncomputable def g_IndexFunc_Conn_i_FindConn_1:FT (List Conn×Tupl×Unit) (Int) (fun x=>wS x.1) (fun x v=> -1≤v∧v<x.1.length):=⟨fun(x0,y1_0,_)=>
  .lp (g_IndexFunc_Conn_i_FindConn_1_L0_d (x0,(x0.length:Int),0,y1_0,())).lp fun w2=> .sum w2 (fun p2a0=>
  .ret p2a0)<|
  fun _=>
  .ret (-1),
 fun(x0,y1_0,_) hp=>by
  refine Tr.L (g_IndexFunc_Conn_i_FindConn_1_L0_k ?_ ?_ ?_) (fun _ _=>Tr.Sr (Tr.R ?_)) (fun p2a0 _=>Tr.Sl (Tr.R ?_))
  all_goals ((try simp only[g_IndexFunc_Conn_i_FindConn_1_L0_d,LC.lp,LC.ct,Ct.lp]at*)<;>grind)⟩
noncomputable def g_IndexFunc_Conn_i_FindConn_1_e:=entM st g_IndexFunc_Conn_i_FindConn_1_x g_IndexFunc_Conn_i_FindConn_1_o [(leC 0 g_IndexFunc_Conn_i_FindConn_1_L0_h g_IndexFunc_Conn_i_FindConn_1_L0_d)] [.wr false [.c (.sl .conn)],.fn 80 [0]] [.box [.st .tupl]] (fun x y=>(x.1.1,y.1.1,())) g_IndexFunc_Conn_i_FindConn_1 (fun v=>[(false,[.c (.int .i64 v)])]) (fun x y v=>((y.1.1,()),())) Tryz.func79 (by kernel_rfl) ⟨g_IndexFunc_Conn_i_FindConn_1_L0_s,trivial⟩ fun _ _=>by kernel_rfl
noncomputable def g_IndexFunc_Half_i_FindHalf_1_o:List (Ent1 Tryz.prog):=[i_FindHalf_1_e]
def g_IndexFunc_Half_i_FindHalf_1_L0_h:Sh:=⟨[(0,false,[.sl .arg .half]),(1,false,[.fn 82 [0]]),(7,false,[.int .i64]),(8,false,[.int .i64])],[.box [.st .tupl []]]⟩
noncomputable def g_IndexFunc_Half_i_FindHalf_1_x:Fx:=⟨81,Tryz.f81,[(0,la ⟨[0,1,7,8],[],false,1⟩ ⟨[4],[],false,1⟩)],1⟩
noncomputable def g_IndexFunc_Half_i_FindHalf_1_L0_T (v0:List Half)(v3:Tupl)(v2:Int)(a:Unit):Tr (Stp (Unit) ((Int))):=
 .grd ((decide (0≤v2))&&(decide (v2<(v0.length:Int))))<|
 .cal i_FindHalf_1.c ((v0.getD v2.toNat (Ty.zero .half)),v3,()) fun c1=>
 .ite c1 (.ret (.out v2))<|
 .ret (.next ())
noncomputable def g_IndexFunc_Half_i_FindHalf_1_L0_d:g_IndexFunc_Half_i_FindHalf_1_L0_h.V→LC g_IndexFunc_Half_i_FindHalf_1_L0_h (Unit) ((Int)) (((Int))⊕(Int×Unit)):=fun(v0,v1,v2,v3,_)=>⟨v2,(),fun v2 _=>(v0,v1,v2,v3,()),fun v2 _=>(decide (v2<v1)),g_IndexFunc_Half_i_FindHalf_1_L0_T v0 v3,up,1,(Int.toNat (v1-v2)),.inl,fun i a=> .inr (i,a),fun _ k w=>Sum.elim (fun p=>k .ret (Sh.enc ⟨[(4,false,[.int .i64])],[.box [.st .tupl []]]⟩ (p,v3,()))) (fun _=>k (.exit 0) (Sh.enc ⟨[(4,false,[.undef])],[.box [.st .tupl []]]⟩ (v3,()))) w⟩
theorem g_IndexFunc_Half_i_FindHalf_1_L0_s:LS Tryz.prog g_IndexFunc_Half_i_FindHalf_1_x [0] (leC 0 g_IndexFunc_Half_i_FindHalf_1_L0_h g_IndexFunc_Half_i_FindHalf_1_L0_d):=loopC st (orcOf_ok g_IndexFunc_Half_i_FindHalf_1_o) _ g_IndexFunc_Half_i_FindHalf_1_L0_d [] trivial (by kernel_rfl) (fun _=>by kernel_rfl) fun _ _ _ _ _ _=>by kernel_rfl
theorem g_IndexFunc_Half_i_FindHalf_1_L0_k {v0:List Half}{v1 v2:Int}{v3:Tupl}(h0:0≤v2)(h1:v1≤4611686018427387904)(h2:v1≤(v0.length:Int)):(g_IndexFunc_Half_i_FindHalf_1_L0_d (v0,v1,v2,v3,())).U v1 (fun _ _=>True) (fun p=>v2≤p∧p<v1):=
 LC.okU (i:=v2) (a:=()) (fun _ _=>rfl) (fun _=>rfl) rfl h0 h1 trivial fun v2 _ hj hk hv=>by
  refine Tr.G2 ?_ fun _=>Tr.C trivial fun _ _ _=>Tr.I (fun _=>Tr.Ro ?_) fun _=>Tr.Rn trivial
  all_goals (grind)
noncomputable def g_IndexFunc_Half_i_FindHalf_1:FT (List Half×Tupl×Unit) (Int) (fun x=>wS x.1) (fun x v=> -1≤v∧v<x.1.length):=⟨fun(x0,y1_0,_)=>
  .lp (g_IndexFunc_Half_i_FindHalf_1_L0_d (x0,(x0.length:Int),0,y1_0,())).lp fun w2=> .sum w2 (fun p2a0=>
  .ret p2a0)<|
  fun _=>
  .ret (-1),
 fun(x0,y1_0,_) hp=>by
  refine Tr.L (g_IndexFunc_Half_i_FindHalf_1_L0_k ?_ ?_ ?_) (fun _ _=>Tr.Sr (Tr.R ?_)) (fun p2a0 _=>Tr.Sl (Tr.R ?_))
  all_goals ((try simp only[g_IndexFunc_Half_i_FindHalf_1_L0_d,LC.lp,LC.ct,Ct.lp]at*)<;>grind)⟩
noncomputable def g_IndexFunc_Half_i_FindHalf_1_e:=entM st g_IndexFunc_Half_i_FindHalf_1_x g_IndexFunc_Half_i_FindHalf_1_o [(leC 0 g_IndexFunc_Half_i_FindHalf_1_L0_h g_IndexFunc_Half_i_FindHalf_1_L0_d)] [.sc (.sl .half),.fn 82 [0]] [.box [.st .tupl]] (fun x y=>(x.1,y.1.1,())) g_IndexFunc_Half_i_FindHalf_1 (fun v=>[(false,[.c (.int .i64 v)])]) (fun x y v=>((y.1.1,()),())) Tryz.func81 (by kernel_rfl) ⟨g_IndexFunc_Half_i_FindHalf_1_L0_s,trivial⟩ fun _ _=>by kernel_rfl
noncomputable def i_FindConn:FT (Tabl×Tupl×Unit) (Int) (fun x=>wS x.1.conns) (fun x v=> -1≤v∧v<x.1.conns.length):=⟨fun(x0,x1,_)=>
  .cal g_IndexFunc_Conn_i_FindConn_1.c (x0.conns,x1,()) fun c1=>
  .ret c1,
 fun(x0,x1,_) hp=>by
  refine Tr.C ?_ fun _ _ _=>Tr.R ?_
  all_goals (grind)⟩
noncomputable def i_FindConn_e:=ent0 st Tryz.func19 [g_IndexFunc_Conn_i_FindConn_1_e] (ks:=[.st .tabl,.st .tupl]) i_FindConn (fun v=>[(false,[.c (.int .i64 v)])]) fun _=>by kernel_rfl
noncomputable def i_FindHalf:FT (List Half×Tupl×Unit) (Int) (fun x=>wS x.1) (fun x v=> -1≤v∧v<x.1.length):=⟨fun(x0,x1,_)=>
  .cal g_IndexFunc_Half_i_FindHalf_1.c (x0,x1,()) fun c1=>
  .ret c1,
 fun(x0,x1,_) hp=>by
  refine Tr.C ?_ fun _ _ _=>Tr.R ?_
  all_goals (grind)⟩
noncomputable def i_FindHalf_e:=ent0 st Tryz.func20 [g_IndexFunc_Half_i_FindHalf_1_e] (ks:=[.sc (.sl .half),.st .tupl]) i_FindHalf (fun v=>[(false,[.c (.int .i64 v)])]) fun _=>by kernel_rfl
noncomputable def s_DoorOk_o:List (Ent1 Tryz.prog):=[s_WordOk_e,s_KeysOk_e,s_TableOk_e,s_HalvesOk_e,s_l1In_e,s_FindConn_e]
def s_DoorOk_L0_h:Sh:=⟨[(1,false,[.ptr 0 0]),(3,false,[.int .i64])],[.box [.st .door [.sl .arg,.sl .arg,.sl .arg,.sl .arg,.sl .arg]]]⟩
noncomputable def s_DoorOk_x:Fx:=⟨24,Tryz.f24,[(0,la ⟨[1,3],[],false,0⟩ ⟨[2],[],false,0⟩),(3000001,rA 0 51)],0⟩
noncomputable def s_DoorOk_L0_T (v1:Door)(v0:Int)(a:Unit):Tr (Stp (Unit) ((Unit))):=
 .grd ((decide (0≤v0))&&(decide (v0<(v1.halves.length:Int))))<|
 .cal s_FindConn.c (v1.table,(v1.halves.getD v0.toNat (Ty.zero .half)).tuple,()) fun c8=>
 .ite (decide (0≤c8)) (.ret (.out ()))<|
 .ret (.next ())
noncomputable def s_DoorOk_L0_d:s_DoorOk_L0_h.V→LC s_DoorOk_L0_h (Unit) ((Unit)) (((Unit))⊕(Int×Unit)):=fun(v0,v1,_)=>⟨v0,(),fun v0 _=>(v0,v1,()),fun v0 _=>(decide (v0<(v1.halves.length:Int))),s_DoorOk_L0_T v1,up,1,(Int.toNat ((v1.halves.length:Int)-v0)),.inl,fun i a=> .inr (i,a),fun _ k w=>Sum.elim (fun _=>k .ret (Sh.enc ⟨[(2,false,[.bool])],[]⟩ (false,()))) (fun _=>k (.exit 0) (Sh.enc ⟨[(2,false,[.undef])],[]⟩ ())) w⟩
theorem s_DoorOk_L0_s:LS Tryz.prog s_DoorOk_x [0] (leC 0 s_DoorOk_L0_h s_DoorOk_L0_d):=loopC st (orcOf_ok s_DoorOk_o) _ s_DoorOk_L0_d [] trivial (by kernel_rfl) (fun _=>by kernel_rfl) fun _ _ _ _ _ _=>by kernel_rfl
theorem s_DoorOk_L0_k {v0:Int}{v1:Door}(h0:0≤v0)(h1:(v1.halves.length:Int)≤4611686018427387904)(h2:sm_door v1):(s_DoorOk_L0_d (v0,v1,())).U (v1.halves.length:Int) (fun _ _=>True) (fun _=>True):=
 LC.okU (i:=v0) (a:=()) (fun _ _=>rfl) (fun _=>rfl) rfl h0 h1 trivial fun v0 _ hj hk hv=>by
  refine Tr.G2 ?_ fun _=>Tr.C ?_ fun _ _ _=>Tr.Z (by kernel_rfl)
  all_goals (grind)
noncomputable def s_DoorOk:FT (Door×Unit) (Bool) (fun x=>sm_door x.1) (fun x v=>(v=true→x.1.table.conns.length≤16)):=⟨fun(x0,_)=>
  .bnd (β:=Bool×Unit) (.cal s_WordOk.c (x0.port,16,()) fun c1=>
   .ite (!c1) (.ret (true,()))<|
   .cal s_WordOk.c (x0.clock,32,()) fun c2=>
   .ite (!c2) (.ret (true,()))<|
   .cal s_KeysOk.c (x0.keys,()) fun c3=>
   .ite (!c3) (.ret (true,()))<|
   .cal s_TableOk.c (x0.table,x0.limits,()) fun c4=>
   .ite (!c4) (.ret (true,()))<|
   .cal s_HalvesOk.c (x0.halves,()) fun c5=>
   .ite (!c5) (.ret (true,()))<|
   .ite (decide (x0.limits.halves<(x0.halves.length:Int))) (.ret (true,()))<|
   .val (s_l1In.f (x0.chal,0,x0.limits.chal,())) fun c6=>
   .ret ((!c6),())) fun(u7a0,_)=>
  .ite u7a0 (.ret false)<|
  .lp (s_DoorOk_L0_d (0,x0,())).lp fun w9=> .sum w9 (fun _=>
  .ret false)<|
  fun _=>
  .ret true,
 fun(x0,_) hp=>by
  refine Tr.B (Q':=fun w=>(w.1=false→0≤x0.keys.epoch∧x0.keys.epoch≤4294967295∧x0.table.conns.length≤16∧x0.table.waiting.length≤16∧x0.halves.length≤64)) (Tr.C trivial fun _ _ _=>Tr.I (fun _=>Tr.R ?_) fun _=>Tr.C trivial fun _ _ _=>Tr.I (fun _=>Tr.R ?_) fun _=>Tr.C ?_ fun _ _ _=>Tr.I (fun _=>Tr.R ?_) fun _=>Tr.C ?_ fun _ _ _=>Tr.I (fun _=>Tr.R ?_) fun _=>Tr.C ?_ fun _ _ _=>Tr.I (fun _=>Tr.R ?_) fun _=>Tr.I (fun _=>Tr.R ?_) fun _=>Tr.V fun _ _=>Tr.R ?_) (fun(u7a0,_) _ _=>Tr.I (fun _=>Tr.R ?_) fun _=>Tr.L (s_DoorOk_L0_k ?_ ?_ ?_) (fun _ _=>Tr.Sr (Tr.R ?_)) (fun _ _=>Tr.Sl (Tr.R ?_)))
  all_goals ((try simp only[s_DoorOk_L0_d,LC.lp,LC.ct,Ct.lp,Tr.nice,letK]at*)<;>grind)⟩
noncomputable def s_DoorOk_e:=entT st s_DoorOk_x s_DoorOk_o [(leC 0 s_DoorOk_L0_h s_DoorOk_L0_d)] (ks:=[.st .door]) s_DoorOk (fun v=>[(false,[.c (.bool v)])]) Tryz.func24 ⟨s_DoorOk_L0_s,trivial⟩ fun _=>by kernel_rfl
noncomputable def s_StackOk:FT (Stac×Unit) (Bool) (fun x=>sm_stac x.1) (fun x v=>(v=true→x.1.door.table.conns.length≤16)):=⟨fun(x0,_)=>
  .cal s_LinkOk.c (x0.link,()) fun c1=>
  .ite c1 (.cal s_DoorOk.c (x0.door,()) fun c2=>
   .ret c2)<|
  .ret false,
 fun(x0,_) hp=>by
  refine Tr.C ?_ fun _ _ _=>Tr.I (fun _=>Tr.C ?_ fun _ _ _=>Tr.R ?_) fun _=>Tr.R ?_
  all_goals (grind)⟩
noncomputable def s_StackOk_e:=ent0 st Tryz.func35 [s_LinkOk_e,s_DoorOk_e] (ks:=[.st .stac]) s_StackOk (fun v=>[(false,[.c (.bool v)])]) fun _=>by kernel_rfl
noncomputable def i_cloneDoor:FT (Door×Unit) (Door) (fun x=>sm_door x.1) (fun x v=>sm_door v∧v.table.conns.length=x.1.table.conns.length∧v.table.waiting.length=x.1.table.waiting.length∧v.halves=x.1.halves):=⟨fun(x0,_)=>
  .cal i_cloneKeys.c (x0.keys,()) fun c1=>
  .cal g_Clone_Half.c (x0.halves,()) fun c2=>
  .cal i_cloneTable.c (x0.table,()) fun c3=>
  .ret (⟨x0.port,x0.clock,c1,x0.limits,c2,c3,x0.chal⟩:Door),
 fun(x0,_) hp=>by
  refine Tr.C ?_ fun _ _ _=>Tr.C ?_ fun _ _ _=>Tr.C ?_ fun _ _ _=>Tr.R ?_
  all_goals (grind)⟩
noncomputable def i_cloneDoor_e:=ent0 st Tryz.func47 [i_cloneKeys_e,g_Clone_Half_e,i_cloneTable_e] (ks:=[.st .door]) i_cloneDoor (fun v=>[(true,q_door (.o true) (.o true) (.o true) (.o true) (.o true) v)]) fun _=>by kernel_rfl
noncomputable def s_l26Right:FT (Door×Tupl×Segm×Unit) (Bool) (fun x=>sm_door x.1∧sm_segm x.2.2.1) (fun _ _=>True):=⟨fun(x0,x1,x2,_)=>
  .cal s_DoorOk.c (x0,()) fun c1=>
  .ite c1 (.cal s_TupleOk.c (x1,()) fun c2=>
   .ite c2 (.cal s_SegmentOk.c (x2,()) fun c3=>
    .ret c3)<|
   .ret false)<|
  .ret false,
 fun(x0,x1,x2,_) hp=>by
  refine Tr.C ?_ fun _ _ _=>Tr.I (fun _=>Tr.C trivial fun _ _ _=>Tr.I (fun _=>Tr.C trivial fun _ _ _=>Tr.R trivial) fun _=>Tr.R trivial) fun _=>Tr.R trivial
  all_goals (grind)⟩
noncomputable def s_l26Right_e:=ent0 st Tryz.func59 [s_DoorOk_e,s_TupleOk_e,s_SegmentOk_e] (ks:=[.st .door,.st .tupl,.st .segm]) s_l26Right (fun v=>[(false,[.c (.bool v)])]) fun _=>by kernel_rfl
noncomputable def i_TableOk_o:List (Ent1 Tryz.prog):=[i_LimitsOk_e,i_ConnOk_e,i_FindConn_e,g_Index_Tuple_e]
def i_TableOk_L0_h:Sh:=⟨[(2,false,[.ptr 0 0]),(29,false,[.sl .arg .conn]),(30,false,[.int .i64]),(31,false,[.int .i64])],[.box [.st .tabl [.sl .arg,.sl .arg]]]⟩
def i_TableOk_L1_h:Sh:=⟨[(2,false,[.ptr 0 0]),(49,false,[.sl .arg .tupl]),(50,false,[.int .i64]),(51,false,[.int .i64])],[.box [.st .tabl [.sl .arg,.sl .arg]]]⟩
noncomputable def i_TableOk_x:Fx:=⟨74,Tryz.f74,[(0,la ⟨[2,29,30,31],[],false,0⟩ ⟨[2,4],[],false,0⟩),(2,la ⟨[2,49,50,51],[],false,0⟩ ⟨[4],[],false,0⟩),(3000001,rA 0 27)],0⟩
noncomputable def i_TableOk_L0_T (v0:List Conn)(v3:Tabl)(v2:Int)(a:Unit):Tr (Stp (Unit) ((Unit))):=
 .grd ((decide (0≤v2))&&(decide (v2<(v0.length:Int))))<|
 .cal i_ConnOk.c ((v0.getD v2.toNat (Ty.zero .conn)),()) fun c3=>
 .ite (!c3) (.ret (.out ()))<|
 .cal i_FindConn.c (v3,(v0.getD v2.toNat (Ty.zero .conn)).tuple,()) fun c4=>
 .ite (c4 != v2) (.ret (.out ()))<|
 .ret (.next ())
noncomputable def i_TableOk_L0_d:i_TableOk_L0_h.V→LC i_TableOk_L0_h (Unit) ((Unit)) (((Unit))⊕(Int×Unit)):=fun(v0,v1,v2,v3,_)=>⟨v2,(),fun v2 _=>(v0,v1,v2,v3,()),fun v2 _=>(decide (v2<v1)),i_TableOk_L0_T v0 v3,up,1,(Int.toNat (v1-v2)),.inl,fun i a=> .inr (i,a),fun _ k w=>Sum.elim (fun _=>k .ret (Sh.enc ⟨[(2,false,[.ptr 0 0]),(4,false,[.bool])],[.box [.st .tabl [.sl .arg,.sl .arg]]]⟩ (false,v3,()))) (fun _=>k (.exit 0) (Sh.enc ⟨[(2,false,[.ptr 0 0]),(4,false,[.undef])],[.box [.st .tabl [.sl .arg,.sl .arg]]]⟩ (v3,()))) w⟩
theorem i_TableOk_L0_s:LS Tryz.prog i_TableOk_x [0] (leC 0 i_TableOk_L0_h i_TableOk_L0_d):=loopC st (orcOf_ok i_TableOk_o) _ i_TableOk_L0_d [] trivial (by kernel_rfl) (fun _=>by kernel_rfl) fun _ _ _ _ _ _=>by kernel_rfl
theorem i_TableOk_L0_k {v0:List Conn}{v1 v2:Int}{v3:Tabl}(h0:0≤v2)(h1:v1≤4611686018427387904)(h2:sL sm_conn v0)(h3:sm_tabl v3)(h4:v1≤(v0.length:Int)):(i_TableOk_L0_d (v0,v1,v2,v3,())).U v1 (fun _ _=>True) (fun _=>True):=
 LC.okU (i:=v2) (a:=()) (fun _ _=>rfl) (fun _=>rfl) rfl h0 h1 trivial fun v2 _ hj hk hv=>by
  refine Tr.G2 ?_ fun _=>Tr.C ?_ fun _ _ _=>Tr.I (fun _=>Tr.Ro trivial) fun _=>Tr.C ?_ fun _ _ _=>Tr.Z (by kernel_rfl)
  all_goals (grind)
noncomputable def i_TableOk_L1_T (v0:List Tupl)(v3:Tabl)(v2:Int)(a:Unit):Tr (Stp (Unit) ((Unit))):=
 .grd ((decide (0≤v2))&&(decide (v2<(v0.length:Int))))<|
 .cal i_FindConn.c (v3,(v0.getD v2.toNat (Ty.zero .tupl)),()) fun c6=>
 .ite (decide (c6<0)) (.ret (.out ()))<|
 .cal g_Index_Tuple.c (v3.waiting,(v0.getD v2.toNat (Ty.zero .tupl)),()) fun c7=>
 .ite (c7 != v2) (.ret (.out ()))<|
 .ret (.next ())
noncomputable def i_TableOk_L1_d:i_TableOk_L1_h.V→LC i_TableOk_L1_h (Unit) ((Unit)) (((Unit))⊕(Int×Unit)):=fun(v0,v1,v2,v3,_)=>⟨v2,(),fun v2 _=>(v0,v1,v2,v3,()),fun v2 _=>(decide (v2<v1)),i_TableOk_L1_T v0 v3,up,1,(Int.toNat (v1-v2)),.inl,fun i a=> .inr (i,a),fun _ k w=>Sum.elim (fun _=>k .ret (Sh.enc ⟨[(4,false,[.bool])],[]⟩ (false,()))) (fun _=>k (.exit 2) (Sh.enc ⟨[(4,false,[.undef])],[]⟩ ())) w⟩
theorem i_TableOk_L1_s:LS Tryz.prog i_TableOk_x [1] (leC 2 i_TableOk_L1_h i_TableOk_L1_d):=loopC st (orcOf_ok i_TableOk_o) _ i_TableOk_L1_d [] trivial (by kernel_rfl) (fun _=>by kernel_rfl) fun _ _ _ _ _ _=>by kernel_rfl
theorem i_TableOk_L1_k {v0:List Tupl}{v1 v2:Int}{v3:Tabl}(h0:0≤v2)(h1:v1≤4611686018427387904)(h2:sS v0)(h3:sm_tabl v3)(h4:v1≤(v0.length:Int)):(i_TableOk_L1_d (v0,v1,v2,v3,())).U v1 (fun _ _=>True) (fun _=>True):=
 LC.okU (i:=v2) (a:=()) (fun _ _=>rfl) (fun _=>rfl) rfl h0 h1 trivial fun v2 _ hj hk hv=>by
  refine Tr.G2 ?_ fun _=>Tr.C ?_ fun _ _ _=>Tr.I (fun _=>Tr.Ro trivial) fun _=>Tr.C ?_ fun _ _ _=>Tr.Z (by kernel_rfl)
  all_goals (grind)
noncomputable def i_TableOk:FT (Tabl×Limi×Unit) (Bool) (fun x=>wS x.1.conns∧smE sm_conn x.1.conns∧wS x.1.waiting) (fun x v=>(v=true→x.1.conns.length≤16∧x.1.waiting.length≤16)):=⟨fun(x0,x1,_)=>
  .bnd (β:=Bool×Unit) (.cal i_LimitsOk.c (x1,()) fun c1=>
   .ite (!c1) (.ret (true,()))<|
   .ite (decide (x1.conns<(x0.conns.length:Int))) (.ret (true,()))<|
   .ret ((decide (x1.waiting<(x0.waiting.length:Int))),())) fun(u2a0,_)=>
  .ite u2a0 (.ret false)<|
  .lp (i_TableOk_L0_d (x0.conns,(x0.conns.length:Int),0,x0,())).lp fun w5=> .sum w5 (fun _=>
  .ret false)<|
  fun _=>
  .lp (i_TableOk_L1_d (x0.waiting,(x0.waiting.length:Int),0,x0,())).lp fun w8=> .sum w8 (fun _=>
  .ret false)<|
  fun _=>
  .ret true,
 fun(x0,x1,_) hp=>by
  refine Tr.B (Q':=fun w=>(w.1=false→x1.halves≤64∧x1.waiting≤16∧x1.conns≤16)) (Tr.C trivial fun _ _ _=>Tr.I (fun _=>Tr.R ?_) fun _=>Tr.I (fun _=>Tr.R ?_) fun _=>Tr.R ?_) (fun(u2a0,_) _ _=>Tr.I (fun _=>Tr.R ?_) fun _=>Tr.L (i_TableOk_L0_k ?_ ?_ ?_ ?_ ?_) (fun _ _=>Tr.Sr (Tr.L (i_TableOk_L1_k ?_ ?_ ?_ ?_ ?_) (fun _ _=>Tr.Sr (Tr.R ?_)) (fun _ _=>Tr.Sl (Tr.R ?_)))) (fun _ _=>Tr.Sl (Tr.R ?_)))
  all_goals ((try simp only[i_TableOk_L0_d,i_TableOk_L1_d,LC.lp,LC.ct,Ct.lp,Tr.nice,letK]at*)<;>grind)⟩
noncomputable def i_TableOk_e:=entT st i_TableOk_x i_TableOk_o [(leC 0 i_TableOk_L0_h i_TableOk_L0_d),(leC 2 i_TableOk_L1_h i_TableOk_L1_d)] (ks:=[.st .tabl,.st .limi]) i_TableOk (fun v=>[(false,[.c (.bool v)])]) Tryz.func74 ⟨i_TableOk_L0_s,i_TableOk_L1_s,trivial⟩ fun _=>by kernel_rfl
noncomputable def i_HalvesOk_o:List (Ent1 Tryz.prog):=[i_TupleOk_e,i_WordOk_e,i_OptionsOk_e,i_within_e,i_FindHalf_e]
def i_HalvesOk_L0_h:Sh:=⟨[(0,false,[.sl .arg .half]),(8,false,[.sl .arg .half]),(9,false,[.int .i64]),(10,false,[.int .i64])],[]⟩
noncomputable def i_HalvesOk_x:Fx:=⟨75,Tryz.f75,[(0,la ⟨[0,8,9,10],[],false,0⟩ ⟨[2],[],false,0⟩)],0⟩
noncomputable def i_HalvesOk_L0_T (v0 v1:List Half)(v3:Int)(a:Unit):Tr (Stp (Unit) ((Unit))):=
 .grd ((decide (0≤v3))&&(decide (v3<(v1.length:Int))))<|
 .cal i_TupleOk.c ((v1.getD v3.toNat (Ty.zero .half)).tuple,()) fun c1=>
 .ite (!c1) (.ret (.out ()))<|
 .cal i_WordOk.c ((v1.getD v3.toNat (Ty.zero .half)).iss,32,()) fun c2=>
 .ite (!c2) (.ret (.out ()))<|
 .cal i_WordOk.c ((v1.getD v3.toNat (Ty.zero .half)).irs,32,()) fun c3=>
 .ite (!c3) (.ret (.out ()))<|
 .cal i_WordOk.c ((v1.getD v3.toNat (Ty.zero .half)).window,16,()) fun c4=>
 .ite (!c4) (.ret (.out ()))<|
 .cal i_OptionsOk.c ((v1.getD v3.toNat (Ty.zero .half)).opts,()) fun c5=>
 .ite (!c5) (.ret (.out ()))<|
 .val (i_within.f ((v1.getD v3.toNat (Ty.zero .half)).age,0,6,())) fun c6=>
 .ite (!c6) (.ret (.out ()))<|
 .cal i_FindHalf.c (v0,(v1.getD v3.toNat (Ty.zero .half)).tuple,()) fun c7=>
 .ite (c7 != v3) (.ret (.out ()))<|
 .ret (.next ())
noncomputable def i_HalvesOk_L0_d:i_HalvesOk_L0_h.V→LC i_HalvesOk_L0_h (Unit) ((Unit)) (((Unit))⊕(Int×Unit)):=fun(v0,v1,v2,v3,_)=>⟨v3,(),fun v3 _=>(v0,v1,v2,v3,()),fun v3 _=>(decide (v3<v2)),i_HalvesOk_L0_T v0 v1,up,1,(Int.toNat (v2-v3)),.inl,fun i a=> .inr (i,a),fun _ k w=>Sum.elim (fun _=>k .ret (Sh.enc ⟨[(2,false,[.bool])],[]⟩ (false,()))) (fun _=>k (.exit 0) (Sh.enc ⟨[(2,false,[.undef])],[]⟩ ())) w⟩
theorem i_HalvesOk_L0_s:LS Tryz.prog i_HalvesOk_x [0] (leC 0 i_HalvesOk_L0_h i_HalvesOk_L0_d):=loopC st (orcOf_ok i_HalvesOk_o) _ i_HalvesOk_L0_d [] trivial (by kernel_rfl) (fun _=>by kernel_rfl) fun _ _ _ _ _ _=>by kernel_rfl
theorem i_HalvesOk_L0_k {v0 v1:List Half}{v2 v3:Int}(h0:0≤v3)(h1:v2≤4611686018427387904)(h2:wS v0)(h3:v2≤(v1.length:Int)):(i_HalvesOk_L0_d (v0,v1,v2,v3,())).U v2 (fun _ _=>True) (fun _=>True):=
 LC.okU (i:=v3) (a:=()) (fun _ _=>rfl) (fun _=>rfl) rfl h0 h1 trivial fun v3 _ hj hk hv=>by
  refine Tr.G2 ?_ fun _=>Tr.C trivial fun _ _ _=>Tr.I (fun _=>Tr.Ro trivial) fun _=>Tr.C trivial fun _ _ _=>Tr.I (fun _=>Tr.Ro trivial) fun _=>Tr.C trivial fun _ _ _=>Tr.I (fun _=>Tr.Ro trivial) fun _=>Tr.C trivial fun _ _ _=>Tr.I (fun _=>Tr.Ro trivial) fun _=>Tr.C trivial fun _ _ _=>Tr.I (fun _=>Tr.Ro trivial) fun _=>Tr.V fun _ _=>Tr.I (fun _=>Tr.Ro trivial) fun _=>Tr.C ?_ fun _ _ _=>Tr.Z (by kernel_rfl)
  all_goals (grind)
noncomputable def i_HalvesOk:FT (List Half×Unit) (Bool) (fun x=>wS x.1) (fun x v=>(v=true→x.1.length≤64)):=⟨fun(x0,_)=>
  .ite (decide (64<(x0.length:Int))) (.ret false)<|
  .lp (i_HalvesOk_L0_d (x0,x0,(x0.length:Int),0,())).lp fun w8=> .sum w8 (fun _=>
  .ret false)<|
  fun _=>
  .ret true,
 fun(x0,_) hp=>by
  refine Tr.I (fun _=>Tr.R ?_) fun _=>Tr.L (i_HalvesOk_L0_k ?_ ?_ ?_ ?_) (fun _ _=>Tr.Sr (Tr.R ?_)) (fun _ _=>Tr.Sl (Tr.R ?_))
  all_goals ((try simp only[i_HalvesOk_L0_d,LC.lp,LC.ct,Ct.lp]at*)<;>grind)⟩
noncomputable def i_HalvesOk_e:=entT st i_HalvesOk_x i_HalvesOk_o [(leC 0 i_HalvesOk_L0_h i_HalvesOk_L0_d)] (ks:=[.sc (.sl .half)]) i_HalvesOk (fun v=>[(false,[.c (.bool v)])]) Tryz.func75 ⟨i_HalvesOk_L0_s,trivial⟩ fun _=>by kernel_rfl
noncomputable def i_cloneStack:FT (Stac×Unit) (Stac) (fun x=>sm_stac x.1) (fun x v=>sm_stac v):=⟨fun(x0,_)=>
  .cal i_cloneLink.c (x0.link,()) fun c1=>
  .cal i_cloneDoor.c (x0.door,()) fun c2=>
  .ret (⟨c1,c2⟩:Stac),
 fun(x0,_) hp=>by
  refine Tr.C ?_ fun _ _ _=>Tr.C ?_ fun _ _ _=>Tr.R ?_
  all_goals (grind)⟩
noncomputable def i_cloneStack_e:=ent0 st Tryz.func99 [i_cloneLink_e,i_cloneDoor_e] (ks:=[.st .stac]) i_cloneStack (fun v=>[(true,q_stac (.o true) (.o true) (.o true) (.o true) (.o true) (.o true) v)]) fun _=>by kernel_rfl
noncomputable def i_SendAll_o:List (Ent1 Tryz.prog):=[i_SegmentText_e,i_LinkOut_e]
def i_SendAll_L0_h:Sh:=⟨[(1,false,[.int .i64]),(3,false,[.ptr 0 0]),(7,false,[.own 1]),(14,false,[.sl .arg .segm]),(15,false,[.int .i64]),(16,false,[.int .i64])],[.box [.st .stac [.sl .arg,.sl .arg,.sl .arg,.sl .arg,.sl .arg,.sl .arg]],.arr .str false true]⟩
noncomputable def i_SendAll_x:Fx:=⟨102,Tryz.f102,[(0,la ⟨[1,3,7,14,15,16],[],false,0⟩ ⟨[6,7],[],false,0⟩)],0⟩
noncomputable def i_SendAll_L0_T (v0:Int)(v1:List Segm)(v4:Stac)(v3:Int)(a:List Bytes):Tr (Stp (List Bytes) (Empty)):=
 .grd ((decide (0≤v3))&&(decide (v3<(v1.length:Int))))<|
 .cal i_SegmentText.c ((v1.getD v3.toNat (Ty.zero .segm)),v4.link.ip,v0,()) fun c1=>
 .ite (c1==[]) (.ret (.next a))<|
 .cal i_LinkOut.c (v4.link,v0,c1,()) fun c2=>
 .ite c2.2 (.grd (Nat.ble ((2*(a.length+1)+1024)*16) maxSl)<|
  .ret (.next (a++[c2.1])))<|
 .ret (.next a)
noncomputable def i_SendAll_L0_d:i_SendAll_L0_h.V→LC i_SendAll_L0_h (List Bytes) (Empty) (Int×(List Bytes)):=fun(v0,v1,v2,v3,v4,v5,_)=>⟨v3,v5,fun v3 a=>(v0,v1,v2,v3,v4,a,()),fun v3 _=>(decide (v3<v2)),i_SendAll_L0_T v0 v1 v4,up,1,(Int.toNat (v2-v3)),(fun p=>Empty.elim p),fun i a=>(i,a),fun _ k x=>k (.exit 0) (Sh.enc ⟨[(6,false,[.undef]),(7,false,[.own 0])],[.arr .str false true]⟩ (x.2,()))⟩
theorem i_SendAll_L0_s:LS Tryz.prog i_SendAll_x [0] (leC 0 i_SendAll_L0_h i_SendAll_L0_d):=loopC st (orcOf_ok i_SendAll_o) _ i_SendAll_L0_d [] trivial (by kernel_rfl) (fun _=>by kernel_rfl) fun _ _ _ _ _ _=>by kernel_rfl
theorem i_SendAll_L0_k {v0 v2 v3:Int}{v1:List Segm}{v4:Stac}{v5:List Bytes}(h0:0≤v3)(h1:v2≤4611686018427387904)(h2:sL sm_segm v1)(h3:sm_stac v4)(h4:v2≤4294967296)(h5:v2≤(v1.length:Int))(h6:(v5.length:Int)≤v3∧smE sS v5):(i_SendAll_L0_d (v0,v1,v2,v3,v4,v5,())).U v2 (fun v3 a=>(a.length:Int)≤v3∧smE sS a) (fun _=>True):=
 LC.okU (i:=v3) (a:=v5) (fun _ _=>rfl) (fun _=>rfl) rfl h0 h1 h6 fun v3 v5 hj hk hv=>by
  refine Tr.G2 ?_ fun _=>Tr.C ?_ fun _ _ _=>Tr.I (fun _=>Tr.Rn ?_) fun _=>Tr.C ?_ fun _ _ _=>Tr.I (fun _=>Tr.Gb ?_ fun _=>Tr.Rn ?_) fun _=>Tr.Rn ?_
  all_goals (grind)
noncomputable def i_SendAll:FT (Stac×Int×List Segm×Unit) (List Bytes) (fun x=>sm_stac x.1∧sL sm_segm x.2.2.1) (fun x v=>sL sS v∧v.length≤x.2.2.1.length):=⟨fun(x0,x1,x2,_)=>
  .lp (i_SendAll_L0_d (x1,x2,(x2.length:Int),0,x0,[],())).lp fun(_,a3_0)=>
  .ret a3_0,
 fun(x0,x1,x2,_) hp=>by
  refine Tr.L (i_SendAll_L0_k ?_ ?_ ?_ ?_ ?_ ?_ ?_) (fun a3_0 _=>Tr.R ?_) (fun p=>Empty.elim p)
  all_goals ((try simp only[i_SendAll_L0_d,LC.lp,LC.ct,Ct.lp]at*)<;>grind)⟩
noncomputable def i_SendAll_e:=entT st i_SendAll_x i_SendAll_o [(leC 0 i_SendAll_L0_h i_SendAll_L0_d)] (ks:=[.st .stac,.sc (.int .i64),.sc (.sl .segm)]) i_SendAll (fun v=>[(false,[sc (.o true) .str v])]) Tryz.func102 ⟨i_SendAll_L0_s,trivial⟩ fun _=>by kernel_rfl
noncomputable def s_SendAll_o:List (Ent1 Tryz.prog):=[s_SegmentText_e,s_LinkOut_e]
def s_SendAll_L0_h:Sh:=⟨[(1,false,[.int .i64]),(2,false,[.sl .arg .segm]),(3,false,[.ptr 0 0]),(7,false,[.own 1]),(8,false,[.int .i64])],[.box [.st .stac [.sl .arg,.sl .arg,.sl .arg,.sl .arg,.sl .arg,.sl .arg]],.arr .str false true]⟩
noncomputable def s_SendAll_x:Fx:=⟨105,Tryz.f105,[(0,la ⟨[1,2,3,7,8],[],false,0⟩ ⟨[6,7],[],false,0⟩)],0⟩
noncomputable def s_SendAll_L0_T (v0:Int)(v1:List Segm)(v3:Stac)(v2:Int)(a:List Bytes):Tr (Stp (List Bytes) (Empty)):=
 .grd ((decide (0≤v2))&&(decide (v2<(v1.length:Int))))<|
 .cal s_SegmentText.c ((v1.getD v2.toNat (Ty.zero .segm)),v3.link.ip,v0,()) fun c1=>
 .cal s_LinkOut.c (v3.link,v0,c1,()) fun c2=>
 .ite c2.2 (.grd (Nat.ble ((2*(a.length+1)+1024)*16) maxSl)<|
  .ret (.next (a++[c2.1])))<|
 .ret (.next a)
noncomputable def s_SendAll_L0_d:s_SendAll_L0_h.V→LC s_SendAll_L0_h (List Bytes) (Empty) (Int×(List Bytes)):=fun(v0,v1,v2,v3,v4,_)=>⟨v2,v4,fun v2 a=>(v0,v1,v2,v3,a,()),fun v2 _=>(decide (v2<(v1.length:Int))),s_SendAll_L0_T v0 v1 v3,up,1,(Int.toNat ((v1.length:Int)-v2)),(fun p=>Empty.elim p),fun i a=>(i,a),fun _ k x=>k (.exit 0) (Sh.enc ⟨[(6,false,[.undef]),(7,false,[.own 0])],[.arr .str false true]⟩ (x.2,()))⟩
theorem s_SendAll_L0_s:LS Tryz.prog s_SendAll_x [0] (leC 0 s_SendAll_L0_h s_SendAll_L0_d):=loopC st (orcOf_ok s_SendAll_o) _ s_SendAll_L0_d [] trivial (by kernel_rfl) (fun _=>by kernel_rfl) fun _ _ _ _ _ _=>by kernel_rfl
theorem s_SendAll_L0_k {v0 v2:Int}{v1:List Segm}{v3:Stac}{v4:List Bytes}(h0:0≤v2)(h1:(v1.length:Int)≤4611686018427387904)(h2:sL sm_segm v1)(h3:sm_stac v3)(h4:(v4.length:Int)≤v2∧smE sS v4):(s_SendAll_L0_d (v0,v1,v2,v3,v4,())).U (v1.length:Int) (fun v2 a=>(a.length:Int)≤v2∧smE sS a) (fun _=>True):=
 LC.okU (i:=v2) (a:=v4) (fun _ _=>rfl) (fun _=>rfl) rfl h0 h1 h4 fun v2 v4 hj hk hv=>by
  refine Tr.G2 ?_ fun _=>Tr.C ?_ fun _ _ _=>Tr.C ?_ fun _ _ _=>Tr.I (fun _=>Tr.Gb ?_ fun _=>Tr.Rn ?_) fun _=>Tr.Rn ?_
  all_goals (grind)
noncomputable def s_SendAll:FT (Stac×Int×List Segm×Unit) (List Bytes) (fun x=>sm_stac x.1∧sL sm_segm x.2.2.1) (fun x v=>sL sS v∧v.length≤x.2.2.1.length):=⟨fun(x0,x1,x2,_)=>
  .lp (s_SendAll_L0_d (x1,x2,0,x0,[],())).lp fun(_,a3_0)=>
  .ret a3_0,
 fun(x0,x1,x2,_) hp=>by
  refine Tr.L (s_SendAll_L0_k ?_ ?_ ?_ ?_ ?_) (fun a3_0 _=>Tr.R ?_) (fun p=>Empty.elim p)
  all_goals ((try simp only[s_SendAll_L0_d,LC.lp,LC.ct,Ct.lp]at*)<;>grind)⟩
noncomputable def s_SendAll_e:=entT st s_SendAll_x s_SendAll_o [(leC 0 s_SendAll_L0_h s_SendAll_L0_d)] (ks:=[.st .stac,.sc (.int .i64),.sc (.sl .segm)]) s_SendAll (fun v=>[(false,[sc (.o true) .str v])]) Tryz.func105 ⟨s_SendAll_L0_s,trivial⟩ fun _=>by kernel_rfl
noncomputable def s_TickDoor_o:List (Ent1 Tryz.prog):=[s_l26Copy_e,s_DoorOk_e,s_l4Rest_e,s_AgedHalves_e,s_TickConn_e,s_Swept_e]
def s_TickDoor_L0_h:Sh:=⟨[(2,false,[.ptr 0 0]),(4,false,[.ptr 1 0]),(5,false,[.own 2]),(6,false,[.int .i64])],[.box [.st .door [.nil .macRow,.nil .macRow,.nil .half,.nil .conn,.nil .tupl]],.box [.st .door [.own 3,.own 4,.own 5,.own 6,.own 7]],.arr .segm false true,.of false true,.of false true,.of false true,.of false true,.of false true]⟩
noncomputable def s_TickDoor_x:Fx:=⟨106,Tryz.f106,[(0,la ⟨[2,4,5,6],[],false,0⟩ ⟨[2,3,4,5],[],false,0⟩)],0⟩
noncomputable def s_TickDoor_L0_T (v0:Int)(a:Door×Door×List Segm):Tr (Stp (Door×Door×List Segm) (Empty)):=
 .grd ((decide (0≤v0))&&(decide (v0<(a.2.1.table.conns.length:Int))))<|
 .cal s_TickConn.c ((a.2.1.table.conns.getD v0.toNat (Ty.zero .conn)),()) fun c5=>
 .grd ((decide (0≤v0))&&(decide (v0<(a.2.1.table.conns.length:Int))))<|
 .grd (Nat.ble ((2*(a.2.2.length+c5.2.length)+1024)*104) maxSl)<|
 .ret (.next (({a.1 with keys.now.rows:=[],keys.before.rows:=[],halves:=[],table.conns:=[],table.waiting:=[]}:Door),({a.2.1 with table.conns:=(a.2.1.table.conns.set v0.toNat c5.1)}:Door),(a.2.2++c5.2)))
noncomputable def s_TickDoor_L0_d:s_TickDoor_L0_h.V→LC s_TickDoor_L0_h (Door×Door×List Segm) (Empty) (Int×(Door×Door×List Segm)):=fun(v0,v1,v2,v3,_)=>⟨v0,(v1,v2,v3),fun v0 a=>(v0,a.1,a.2.1,a.2.2,()),fun v0 a=>(decide (v0<(a.2.1.table.conns.length:Int))),s_TickDoor_L0_T,up,1,(Int.toNat ((v2.table.conns.length:Int)-v0)),(fun p=>Empty.elim p),fun i a=>(i,a),fun _ k x=>k (.exit 0) (Sh.enc ⟨[(2,false,[.ptr 0 0]),(3,false,[.undef]),(4,false,[.ptr 1 0]),(5,false,[.own 2])],[.box [.st .door [.nil .macRow,.nil .macRow,.nil .half,.nil .conn,.nil .tupl]],.box [.st .door [.own 3,.own 4,.own 5,.own 6,.own 7]],.arr .segm false true,.of false true,.of false true,.of false true,.of false true,.of false true]⟩ (({x.2.1 with keys.now.rows:=[],keys.before.rows:=[],halves:=[],table.conns:=[],table.waiting:=[]}:Door),x.2.2.1,x.2.2.2,()))⟩
set_option maxHeartbeats 4000000 in
theorem s_TickDoor_L0_s:LS Tryz.prog s_TickDoor_x [0] (leC 0 s_TickDoor_L0_h s_TickDoor_L0_d):=loopC st (orcOf_ok s_TickDoor_o) _ s_TickDoor_L0_d [] trivial (by kernel_rfl) (fun _=>by kernel_rfl) fun _ _ _ _ _ _=>by kernel_rfl
theorem s_TickDoor_L0_k {v0:Int}{v1 v2:Door}{v3:List Segm}(h0:0≤v0)(h1:(v2.table.conns.length:Int)≤4611686018427387904)(h2:sL sm_macRow v2.keys.now.rows)(h3:sL sm_macRow v2.keys.before.rows)(h4:sS v2.halves)(h5:sL sm_conn v2.table.conns)(h6:sS v2.table.waiting)(h7:sm_door v1∧v2.keys.now.rows.length=v2.keys.now.rows.length∧smE sm_macRow v2.keys.now.rows∧v2.keys.before.rows.length=v2.keys.before.rows.length∧smE sm_macRow v2.keys.before.rows∧v2.halves.length=v2.halves.length∧v2.table.conns.length=v2.table.conns.length∧smE sm_conn v2.table.conns∧v2.table.waiting.length=v2.table.waiting.length∧sL sm_segm v3∧0≤v0∧v0≤16∧v2.table.conns.length≤16∧(v3.length:Int)≤49*v0):(s_TickDoor_L0_d (v0,v1,v2,v3,())).S (fun v0 a=>a.2.1.table.conns.length=v2.table.conns.length∧sm_door a.1∧a.2.1.keys.now.rows.length=v2.keys.now.rows.length∧smE sm_macRow a.2.1.keys.now.rows∧a.2.1.keys.before.rows.length=v2.keys.before.rows.length∧smE sm_macRow a.2.1.keys.before.rows∧a.2.1.halves.length=v2.halves.length∧a.2.1.table.conns.length=v2.table.conns.length∧smE sm_conn a.2.1.table.conns∧a.2.1.table.waiting.length=v2.table.waiting.length∧sL sm_segm a.2.2∧0≤v0∧v0≤16∧a.2.1.table.conns.length≤16∧(a.2.2.length:Int)≤49*v0) (fun _=>True):=by
 refine LC.okS ⟨rfl,h7⟩ (fun j a hj hv=>⟨⟨?_, ?_⟩, ?_⟩) (fun a hv=> ?_)
 ·simp only[s_TickDoor_L0_d,decide_eq_true_eq]at*;omega
 ·simp only[s_TickDoor_L0_d]at*;exact upw (by omega) (by omega)
 ·refine Tr.G2 ?_ fun _=>Tr.C ?_ fun _ _ _=>Tr.G2 ?_ fun _=>Tr.Gb ?_ fun _=>Tr.Rn ?_
  all_goals (try simp only[s_TickDoor_L0_d]at*)<;>(grind)
 ·simp only[s_TickDoor_L0_d,decide_eq_false_iff_not]at*;omega
noncomputable def s_TickDoor:FT (Door×Unit) (Door×List Segm) (fun x=>sm_door x.1) (fun x v=>sm_door v.1∧sL sm_segm v.2):=⟨fun(x0,_)=>
  .cal s_l26Copy.c (x0,()) fun c1=>
  .cal s_DoorOk.c (x0,()) fun c2=>
  .ite (!c2) (.ret (c1,[]))<|
  .val (s_l4Rest.f ((IntKind.wrap .i64 (x0.clock+1)),())) fun c3=>
  .cal s_AgedHalves.c (x0.halves,()) fun c4=>
  .lp (s_TickDoor_L0_d (0,(⟨0,0,⟨0,⟨false,0,0,[]⟩,⟨false,0,0,[]⟩,false⟩,⟨0,0,0,0⟩,[],⟨[],[]⟩,0⟩:Door),({c1 with clock:=c3,halves:=c4,chal:=0}:Door),[],())).lp fun(_,_,a6_1,a6_2)=>
  .cal s_Swept.c (a6_1.table,()) fun c7=>
  .ret (({a6_1 with table.conns:=c7.conns,table.waiting:=c7.waiting}:Door),a6_2),
 fun(x0,_) hp=>by
  refine Tr.C ?_ fun _ _ _=>Tr.C ?_ fun _ _ _=>Tr.I (fun _=>Tr.R ?_) fun _=>Tr.V fun _ _=>Tr.C ?_ fun _ _ _=>Tr.L (s_TickDoor_L0_k ?_ ?_ ?_ ?_ ?_ ?_ ?_ ?_) (fun(a6_0,a6_1,a6_2) _=>Tr.C ?_ fun _ _ _=>Tr.R ?_) (fun p=>Empty.elim p)
  all_goals ((try simp only[s_TickDoor_L0_d,LC.lp,LC.ct,Ct.lp]at*)<;>grind)⟩
noncomputable def s_TickDoor_e:=entT st s_TickDoor_x s_TickDoor_o [(leC 0 s_TickDoor_L0_h s_TickDoor_L0_d)] (ks:=[.st .door]) s_TickDoor (fun v=>[(true,q_door (.o true) (.o true) (.o true) (.o true) (.o true) v.1),(false,[sc (.o true) .segm v.2])]) Tryz.func106 ⟨s_TickDoor_L0_s,trivial⟩ fun _=>by kernel_rfl
noncomputable def s_Receive_o:List (Ent1 Tryz.prog):=[s_l19Copy_e,s_Verdict_e,s_Has_e,s_AckOf_e,s_Heard_e,s_Pump_e,s_SegmentLen_e]
def s_Receive_J46_a:An:=⟨⟨[],[],false,0⟩,⟨[2,3,4,5,6,7,8,9],[],false,0⟩,⟨[],[]⟩,[(.normal,⟨[(2,false,[.ptr 0 0]),(3,false,[.ptr 1 0]),(4,false,[.ptr 2 0]),(5,false,[.nil]),(6,false,[.int .i64]),(7,false,[.ptr 3 0]),(8,false,[.own 4]),(9,false,[.int .i64])],[.box [.st .conn [.sl .arg]],.box [.st .segm []],.box [.st .conn [.nil .piec]],.box [.st .conn [.own 5]],.arr .segm false true,.of false true]⟩)]⟩
noncomputable def s_Receive_x:Fx:=⟨155,Tryz.f155,[(1000046,s_Receive_J46_a),(3000014,rA 0 46),(3000022,rA 0 78)],0⟩
noncomputable def s_Receive:FT (Conn×Segm×Unit) (Conn×List Segm×Int) (fun x=>sm_conn x.1∧sm_segm x.2.1) (fun x v=>sm_conn v.1∧sL sm_segm v.2.1):=⟨fun(x0,x1,_)=>
  .cal s_l19Copy.c (x0,()) fun c1=>
  .cal s_Verdict.c (x0,x1,()) fun c2=>
  .ite (c2==1) (.ret (c1,[],c2))<|
  .ite (c2==2) (.ret (({c1 with state:=8,timer:=0,tries:=0}:Conn),[],c2))<|
  .ite (c2==3) (.ite (c2==3) (.bnd (β:=Bool×Unit) (.ite (c2==4) (.ite (x0.state==7) (.val (s_Has.f (x1,1,())) fun c3=>
       .ret (c3,()))<|
      .ret (false,()))<|
     .ret (false,())) fun(u4a0,_)=>
    .bnd (β:=WT s_Receive_J46_a.es) (.ite u4a0 (.ret (0,c2,x0,x1,(⟨⟨0,0,0⟩,0,⟨0,[],0,false,false,false⟩,⟨0,[],[],0,false⟩,0,0,⟨0,0,false,false,0,0⟩,0,0⟩:Conn),({c1 with timer:=4}:Conn),[],()))<|
     .ret (0,c2,x0,x1,(⟨⟨0,0,0⟩,0,⟨0,[],0,false,false,false⟩,⟨0,[],[],0,false⟩,0,0,⟨0,0,false,false,0,0⟩,0,0⟩:Conn),c1,[],())) fun(_,u5a1,u5a2,_,_,u5a5,_,_)=>
    .cal s_AckOf.c (u5a2,()) fun c6=>
    .ret (u5a5,[c6],u5a1))<|
   .cal s_Heard.c (x0,x1,()) fun c7=>
   .ite (c7.state==8) (.ret (c7,[],c2))<|
   .cal s_AckOf.c (c7,()) fun c8=>
   .cal s_Pump.c (c7,c7.window,()) fun c9=>
   .bnd (β:=Bool×Unit) (.cal s_SegmentLen.c (x1,()) fun c10=>
    .ite (decide (0<c10)) (.ret (((c9.2.length:Int)==0),()))<|
    .ret (false,())) fun(u11a0,_)=>
   .ite u11a0 (.grd (Nat.ble ((2*(c9.2.length+1)+1024)*104) maxSl)<|
    .ret (c9.1,(c9.2++[c8]),c2))<|
   .ret (c9.1,c9.2,c2))<|
  .ite (c2==4) (.bnd (β:=Bool×Unit) (.ite (c2==4) (.ite (x0.state==7) (.val (s_Has.f (x1,1,())) fun c12=>
      .ret (c12,()))<|
     .ret (false,()))<|
    .ret (false,())) fun(u13a0,_)=>
   .bnd (β:=WT s_Receive_J46_a.es) (.ite u13a0 (.ret (0,c2,x0,x1,(⟨⟨0,0,0⟩,0,⟨0,[],0,false,false,false⟩,⟨0,[],[],0,false⟩,0,0,⟨0,0,false,false,0,0⟩,0,0⟩:Conn),({c1 with timer:=4}:Conn),[],()))<|
    .ret (0,c2,x0,x1,(⟨⟨0,0,0⟩,0,⟨0,[],0,false,false,false⟩,⟨0,[],[],0,false⟩,0,0,⟨0,0,false,false,0,0⟩,0,0⟩:Conn),c1,[],())) fun(_,u14a1,u14a2,_,_,u14a5,_,_)=>
   .cal s_AckOf.c (u14a2,()) fun c15=>
   .ret (u14a5,[c15],u14a1))<|
  .cal s_Heard.c (x0,x1,()) fun c16=>
  .ite (c16.state==8) (.ret (c16,[],c2))<|
  .cal s_AckOf.c (c16,()) fun c17=>
  .cal s_Pump.c (c16,c16.window,()) fun c18=>
  .bnd (β:=Bool×Unit) (.cal s_SegmentLen.c (x1,()) fun c19=>
   .ite (decide (0<c19)) (.ret (((c18.2.length:Int)==0),()))<|
   .ret (false,())) fun(u20a0,_)=>
  .ite u20a0 (.grd (Nat.ble ((2*(c18.2.length+1)+1024)*104) maxSl)<|
   .ret (c18.1,(c18.2++[c17]),c2))<|
  .ret (c18.1,c18.2,c2),
 fun(x0,x1,_) hp=>by
  refine Tr.C ?_ fun _ _ _=>Tr.C ?_ fun _ _ _=>Tr.I (fun _=>Tr.R ?_) fun _=>Tr.I (fun _=>Tr.R ?_) fun _=>Tr.I (fun _=>Tr.I (fun _=>Tr.B (Q':=fun _=>True) (Tr.F (by kernel_rfl) trivial) (fun(u4a0,_) _ _=>Tr.B (Q':=fun w=>sm_conn w.2.2.1∧sm_segm w.2.2.2.1∧sm_conn w.2.2.2.2.1∧sm_conn w.2.2.2.2.2.1∧sL sm_segm w.2.2.2.2.2.2.1) (Tr.I (fun _=>Tr.R ?_) fun _=>Tr.R ?_) (fun(u5a0,u5a1,u5a2,u5a3,u5a4,u5a5,u5a6,_) _ _=>Tr.C ?_ fun _ _ _=>Tr.R ?_))) fun _=>Tr.C ?_ fun _ _ _=>Tr.I (fun _=>Tr.R ?_) fun _=>Tr.C ?_ fun _ _ _=>Tr.C ?_ fun _ _ _=>Tr.B (Q':=fun _=>True) (Tr.C ?_ fun _ _ _=>Tr.F (by kernel_rfl) trivial) (fun(u11a0,_) _ _=>Tr.I (fun _=>Tr.Gb ?_ fun _=>Tr.R ?_) fun _=>Tr.R ?_)) fun _=>Tr.I (fun _=>Tr.B (Q':=fun _=>True) (Tr.F (by kernel_rfl) trivial) (fun(u13a0,_) _ _=>Tr.B (Q':=fun w=>sm_conn w.2.2.1∧sm_segm w.2.2.2.1∧sm_conn w.2.2.2.2.1∧sm_conn w.2.2.2.2.2.1∧sL sm_segm w.2.2.2.2.2.2.1) (Tr.I (fun _=>Tr.R ?_) fun _=>Tr.R ?_) (fun(u14a0,u14a1,u14a2,u14a3,u14a4,u14a5,u14a6,_) _ _=>Tr.C ?_ fun _ _ _=>Tr.R ?_))) fun _=>Tr.C ?_ fun _ _ _=>Tr.I (fun _=>Tr.R ?_) fun _=>Tr.C ?_ fun _ _ _=>Tr.C ?_ fun _ _ _=>Tr.B (Q':=fun _=>True) (Tr.C ?_ fun _ _ _=>Tr.F (by kernel_rfl) trivial) (fun(u20a0,_) _ _=>Tr.I (fun _=>Tr.Gb ?_ fun _=>Tr.R ?_) fun _=>Tr.R ?_)
  all_goals ((try simp only[Tr.nice,letK]at*)<;>grind)⟩
noncomputable def s_Receive_e:=entT st s_Receive_x s_Receive_o [] (ks:=[.st .conn,.st .segm]) s_Receive (fun v=>[(true,q_conn (.o true) v.1),(false,[sc (.o true) .segm v.2.1]),(false,[.c (.int .i64 v.2.2)])]) Tryz.func155 trivial fun _=>by kernel_rfl
noncomputable def s_MacOf_o:List (Ent1 Tryz.prog):=[s_SipHash_e]
def s_MacOf_L0_h:Sh:=⟨[(1,false,[.str]),(2,false,[.ptr 0 0]),(5,false,[.int .i64])],[.box [.st .mac [.sl .arg]]]⟩
noncomputable def s_MacOf_x:Fx:=⟨164,Tryz.f164,[(0,la ⟨[1,2,5],[],false,0⟩ ⟨[4],[],false,0⟩)],0⟩
noncomputable def s_MacOf_L0_T (v0:Bytes)(v2:Mac)(v1:Int)(a:Unit):Tr (Stp (Unit) ((Int))):=
 .grd ((decide (0≤v1))&&(decide (v1<(v2.rows.length:Int))))<|
 .ite ((v2.rows.getD v1.toNat (Ty.zero .macRow)).input==v0) (.grd ((decide (0≤v1))&&(decide (v1<(v2.rows.length:Int))))<|
  .ite (decide ((((v2.rows.getD v1.toNat (Ty.zero .macRow)).value).tmod 16777216)<0)) (.val (IntKind.wrap .i64 ((((v2.rows.getD v1.toNat (Ty.zero .macRow)).value).tmod 16777216)+16777216)) fun e2=>
   .ret (.out e2))<|
  .ret (.out (((v2.rows.getD v1.toNat (Ty.zero .macRow)).value).tmod 16777216)))<|
 .ret (.next ())
noncomputable def s_MacOf_L0_d:s_MacOf_L0_h.V→LC s_MacOf_L0_h (Unit) ((Int)) (((Int))⊕(Int×Unit)):=fun(v0,v1,v2,_)=>⟨v1,(),fun v1 _=>(v0,v1,v2,()),fun v1 _=>(decide (v1<(v2.rows.length:Int))),s_MacOf_L0_T v0 v2,up,1,(Int.toNat ((v2.rows.length:Int)-v1)),.inl,fun i a=> .inr (i,a),fun _ k w=>Sum.elim (fun p=>k .ret (Sh.enc ⟨[(4,false,[.int .i64])],[]⟩ (p,()))) (fun _=>k (.exit 0) (Sh.enc ⟨[(4,false,[.undef])],[]⟩ ())) w⟩
theorem s_MacOf_L0_s:LS Tryz.prog s_MacOf_x [0] (leC 0 s_MacOf_L0_h s_MacOf_L0_d):=loopC st (orcOf_ok s_MacOf_o) _ s_MacOf_L0_d [] trivial (by kernel_rfl) (fun _=>by kernel_rfl) fun _ _ _ _ _ _=>by kernel_rfl
theorem s_MacOf_L0_k {v0:Bytes}{v1:Int}{v2:Mac}(h0:0≤v1)(h1:(v2.rows.length:Int)≤4611686018427387904):(s_MacOf_L0_d (v0,v1,v2,())).U (v2.rows.length:Int) (fun _ _=>True) (fun _=>True):=
 LC.okU (i:=v1) (a:=()) (fun _ _=>rfl) (fun _=>rfl) rfl h0 h1 trivial fun v1 _ hj hk hv=>by
  refine Tr.G2 ?_ fun _=>Tr.I (fun _=>Tr.G2 ?_ fun _=>Tr.Z (by kernel_rfl)) fun _=>Tr.Rn trivial
  all_goals (grind)
noncomputable def s_MacOf:FT (Mac×Bytes×Unit) (Int) (fun x=>sm_mac x.1∧sS x.2.1) (fun _ _=>True):=⟨fun(x0,x1,_)=>
  .ite (!x0.use) (.cal s_SipHash.c (x0.k,x0.l,x1,()) fun c1=>
   .ret (IntKind.wrap .i64 (c1.tmod 16777216)))<|
  .lp (s_MacOf_L0_d (x1,0,x0,())).lp fun w3=> .sum w3 (fun p3a0=>
  .ret p3a0)<|
  fun _=>
  .ret 0,
 fun(x0,x1,_) hp=>by
  refine Tr.I (fun _=>Tr.C ?_ fun _ _ _=>Tr.R trivial) fun _=>Tr.L (s_MacOf_L0_k ?_ ?_) (fun _ _=>Tr.Sr (Tr.R trivial)) (fun p3a0 _=>Tr.Sl (Tr.R trivial))
  all_goals ((try simp only[s_MacOf_L0_d,LC.lp,LC.ct,Ct.lp]at*)<;>grind)⟩
noncomputable def s_MacOf_e:=entT st s_MacOf_x s_MacOf_o [(leC 0 s_MacOf_L0_h s_MacOf_L0_d)] (ks:=[.st .mac,.sc .str]) s_MacOf (fun v=>[(false,[.c (.int .i64 v)])]) Tryz.func164 ⟨s_MacOf_L0_s,trivial⟩ fun _=>by kernel_rfl
noncomputable def s_l1Byte:FT (Curs×Unit) (Int×Curs) (fun x=>sm_curs x.1) (fun x v=>sm_curs v.2∧0≤v.1∧v.1≤255):=⟨fun(y0,_)=>
  .val (IntKind.wrap .i64 ((IntKind.wrap .i64 (y0.h*6364136223846793005))+1442695040888963407)) fun e1=>
  .val (bits .and .i64 (bits .xor .i64 (e1.fdiv 8589934592) (e1.fdiv 35184372088832)) 255) fun e2=>
  .ite (decide (y0.i<(y0.b.length:Int))) (.grd ((decide (0≤y0.i))&&(decide (y0.i<(y0.b.length:Int))))<|
   .val (IntKind.wrap .i64 (e2+(IntKind.wrap .i64 (y0.b.getD y0.i.toNat 0)))) fun e3=>
   .ret ((bits .and .i64 e3 255),(⟨y0.b,(IntKind.wrap .i64 (y0.i+1)),e1⟩:Curs)))<|
  .ret (e2,({y0 with h:=e1}:Curs)),
 fun(y0,_) hp=>by
  refine Tr.V fun _ _=>Tr.V fun _ _=>Tr.I (fun _=>Tr.G2 ?_ fun _=>Tr.V fun _ _=>Tr.R ?_) fun _=>Tr.R ?_
  all_goals (grind)⟩
noncomputable def s_l1Byte_e:=entM st ⟨210,Tryz.f210,[],1⟩ [] [] [.wr false [.ptr 0]] [.box [.st .curs]] (fun x y=>(y.1.1,())) s_l1Byte (fun v=>[(false,[.c (.int .i64 v.1)])]) (fun x y v=>((v.2,()),())) Tryz.func210 (by kernel_rfl) trivial fun _ _=>by kernel_rfl
noncomputable def i_MacOk_1:FT (MacRow×MacRow×Unit) (Bool) (fun _=>True) (fun _ _=>True):=⟨fun(x0,y1,_)=>
  .ret (x0.input==y1.input),
 fun(x0,y1,_) hp=>by
  refine Tr.R trivial⟩
noncomputable def i_MacOk_1_e:=entM st ⟨239,Tryz.f239,[],1⟩ [] [] [.st .macRow,.wr false [.ptr 0]] [.box [.st .macRow]] (fun x y=>(x.1,y.1.1,())) i_MacOk_1 (fun v=>[(false,[.c (.bool v)])]) (fun x y v=>((y.1.1,()),())) Tryz.func239 (by kernel_rfl) trivial fun _ _=>by kernel_rfl
noncomputable def g_IndexFunc_MacRow_i_MacOk_1_o:List (Ent1 Tryz.prog):=[i_MacOk_1_e]
def g_IndexFunc_MacRow_i_MacOk_1_L0_h:Sh:=⟨[(0,false,[.sl .arg .macRow]),(1,false,[.fn 239 [0]]),(7,false,[.int .i64]),(8,false,[.int .i64])],[.box [.st .macRow []]]⟩
noncomputable def g_IndexFunc_MacRow_i_MacOk_1_x:Fx:=⟨304,Tryz.f304,[(0,la ⟨[0,1,7,8],[],false,1⟩ ⟨[4],[],false,1⟩)],1⟩
noncomputable def g_IndexFunc_MacRow_i_MacOk_1_L0_T (v0:List MacRow)(v3:MacRow)(v2:Int)(a:Unit):Tr (Stp (Unit) ((Int))):=
 .grd ((decide (0≤v2))&&(decide (v2<(v0.length:Int))))<|
 .cal i_MacOk_1.c ((v0.getD v2.toNat (Ty.zero .macRow)),v3,()) fun c1=>
 .ite c1 (.ret (.out v2))<|
 .ret (.next ())
noncomputable def g_IndexFunc_MacRow_i_MacOk_1_L0_d:g_IndexFunc_MacRow_i_MacOk_1_L0_h.V→LC g_IndexFunc_MacRow_i_MacOk_1_L0_h (Unit) ((Int)) (((Int))⊕(Int×Unit)):=fun(v0,v1,v2,v3,_)=>⟨v2,(),fun v2 _=>(v0,v1,v2,v3,()),fun v2 _=>(decide (v2<v1)),g_IndexFunc_MacRow_i_MacOk_1_L0_T v0 v3,up,1,(Int.toNat (v1-v2)),.inl,fun i a=> .inr (i,a),fun _ k w=>Sum.elim (fun p=>k .ret (Sh.enc ⟨[(4,false,[.int .i64])],[.box [.st .macRow []]]⟩ (p,v3,()))) (fun _=>k (.exit 0) (Sh.enc ⟨[(4,false,[.undef])],[.box [.st .macRow []]]⟩ (v3,()))) w⟩
theorem g_IndexFunc_MacRow_i_MacOk_1_L0_s:LS Tryz.prog g_IndexFunc_MacRow_i_MacOk_1_x [0] (leC 0 g_IndexFunc_MacRow_i_MacOk_1_L0_h g_IndexFunc_MacRow_i_MacOk_1_L0_d):=loopC st (orcOf_ok g_IndexFunc_MacRow_i_MacOk_1_o) _ g_IndexFunc_MacRow_i_MacOk_1_L0_d [] trivial (by kernel_rfl) (fun _=>by kernel_rfl) fun _ _ _ _ _ _=>by kernel_rfl
theorem g_IndexFunc_MacRow_i_MacOk_1_L0_k {v0:List MacRow}{v1 v2:Int}{v3:MacRow}(h0:0≤v2)(h1:v1≤4611686018427387904)(h2:v1≤(v0.length:Int)):(g_IndexFunc_MacRow_i_MacOk_1_L0_d (v0,v1,v2,v3,())).U v1 (fun _ _=>True) (fun p=>v2≤p∧p<v1):=
 LC.okU (i:=v2) (a:=()) (fun _ _=>rfl) (fun _=>rfl) rfl h0 h1 trivial fun v2 _ hj hk hv=>by
  refine Tr.G2 ?_ fun _=>Tr.C trivial fun _ _ _=>Tr.I (fun _=>Tr.Ro ?_) fun _=>Tr.Rn trivial
  all_goals (grind)
noncomputable def g_IndexFunc_MacRow_i_MacOk_1:FT (List MacRow×MacRow×Unit) (Int) (fun x=>wS x.1) (fun x v=> -1≤v∧v<x.1.length):=⟨fun(x0,y1_0,_)=>
  .lp (g_IndexFunc_MacRow_i_MacOk_1_L0_d (x0,(x0.length:Int),0,y1_0,())).lp fun w2=> .sum w2 (fun p2a0=>
  .ret p2a0)<|
  fun _=>
  .ret (-1),
 fun(x0,y1_0,_) hp=>by
  refine Tr.L (g_IndexFunc_MacRow_i_MacOk_1_L0_k ?_ ?_ ?_) (fun _ _=>Tr.Sr (Tr.R ?_)) (fun p2a0 _=>Tr.Sl (Tr.R ?_))
  all_goals ((try simp only[g_IndexFunc_MacRow_i_MacOk_1_L0_d,LC.lp,LC.ct,Ct.lp]at*)<;>grind)⟩
noncomputable def g_IndexFunc_MacRow_i_MacOk_1_e:=entM st g_IndexFunc_MacRow_i_MacOk_1_x g_IndexFunc_MacRow_i_MacOk_1_o [(leC 0 g_IndexFunc_MacRow_i_MacOk_1_L0_h g_IndexFunc_MacRow_i_MacOk_1_L0_d)] [.sc (.sl .macRow),.fn 239 [0]] [.box [.st .macRow]] (fun x y=>(x.1,y.1.1,())) g_IndexFunc_MacRow_i_MacOk_1 (fun v=>[(false,[.c (.int .i64 v)])]) (fun x y v=>((y.1.1,()),())) Tryz.func304 (by kernel_rfl) ⟨g_IndexFunc_MacRow_i_MacOk_1_L0_s,trivial⟩ fun _ _=>by kernel_rfl
noncomputable def s_TickStack_o:List (Ent1 Tryz.prog):=[s_l28Copy_e,s_StackOk_e,s_TickConn_e,s_SendAll_e,s_TickDoor_e,s_Aged_e]
def s_TickStack_L0_h:Sh:=⟨[(1,false,[.ptr 0 0]),(2,false,[.ptr 1 0]),(4,false,[.ptr 2 0]),(5,false,[.own 3]),(6,false,[.int .i64])],[.box [.st .stac [.sl .arg,.sl .arg,.sl .arg,.sl .arg,.sl .arg,.sl .arg]],.box [.st .stac [.nil .entr,.nil .macRow,.nil .macRow,.nil .half,.nil .conn,.nil .tupl]],.box [.st .stac [.own 4,.own 5,.own 6,.own 7,.own 8,.own 9]],.arr .str false true,.of false true,.of false true,.of false true,.of false true,.of false true,.of false true]⟩
noncomputable def s_TickStack_x:Fx:=⟨32,Tryz.f32,[(0,la ⟨[1,2,4,5,6],[],false,0⟩ ⟨[1,2,3,4,5],[],false,0⟩)],0⟩
noncomputable def s_TickStack_L0_T (v1:Stac)(v0:Int)(a:Stac×List Bytes):Tr (Stp (Stac×List Bytes) (Empty)):=
 .grd ((decide (0≤v0))&&(decide (v0<(v1.door.table.conns.length:Int))))<|
 .cal s_TickConn.c ((v1.door.table.conns.getD v0.toNat (Ty.zero .conn)),()) fun c3=>
 .cal s_SendAll.c (v1,(v1.door.table.conns.getD v0.toNat (Ty.zero .conn)).tuple.ip,c3.2,()) fun c4=>
 .grd (Nat.ble ((2*(a.2.length+c4.length)+1024)*16) maxSl)<|
 .ret (.next (({a.1 with link.cache:=[],door.keys.now.rows:=[],door.keys.before.rows:=[],door.halves:=[],door.table.conns:=[],door.table.waiting:=[]}:Stac),(a.2++c4)))
noncomputable def s_TickStack_L0_d:s_TickStack_L0_h.V→LC s_TickStack_L0_h (Stac×List Bytes) (Empty) (Int×(Stac×List Bytes)):=fun(v0,v1,v2,v3,v4,_)=>⟨v0,(v2,v4),fun v0 a=>(v0,v1,a.1,v3,a.2,()),fun v0 _=>(decide (v0<(v1.door.table.conns.length:Int))),s_TickStack_L0_T v1,up,1,(Int.toNat ((v1.door.table.conns.length:Int)-v0)),(fun p=>Empty.elim p),fun i a=>(i,a),fun _ k x=>k (.exit 0) (Sh.enc ⟨[(1,false,[.ptr 0 0]),(2,false,[.ptr 1 0]),(3,false,[.undef]),(4,false,[.ptr 2 0]),(5,false,[.own 3])],[.box [.st .stac [.sl .arg,.sl .arg,.sl .arg,.sl .arg,.sl .arg,.sl .arg]],.box [.st .stac [.nil .entr,.nil .macRow,.nil .macRow,.nil .half,.nil .conn,.nil .tupl]],.box [.st .stac [.own 4,.own 5,.own 6,.own 7,.own 8,.own 9]],.arr .str false true,.of false true,.of false true,.of false true,.of false true,.of false true,.of false true]⟩ (v1,({x.2.1 with link.cache:=[],door.keys.now.rows:=[],door.keys.before.rows:=[],door.halves:=[],door.table.conns:=[],door.table.waiting:=[]}:Stac),v3,x.2.2,()))⟩
theorem s_TickStack_L0_s:LS Tryz.prog s_TickStack_x [0] (leC 0 s_TickStack_L0_h s_TickStack_L0_d):=loopC st (orcOf_ok s_TickStack_o) _ s_TickStack_L0_d [] trivial (by kernel_rfl) (fun _=>by kernel_rfl) fun _ _ _ _ _ _=>by kernel_rfl
theorem s_TickStack_L0_k {v0:Int}{v1 v2 v3:Stac}{v4:List Bytes}(h0:0≤v0)(h1:(v1.door.table.conns.length:Int)≤4611686018427387904)(h2:v1.door.table.conns.length≤16)(h3:sm_stac v1)(h4:sm_stac v2∧sL sS v4∧(v4.length:Int)≤49*v0):(s_TickStack_L0_d (v0,v1,v2,v3,v4,())).U (v1.door.table.conns.length:Int) (fun v0 a=>sm_stac a.1∧sL sS a.2∧(a.2.length:Int)≤49*v0) (fun _=>True):=
 LC.okU (i:=v0) (a:=(v2,v4)) (fun _ _=>rfl) (fun _=>rfl) rfl h0 h1 h4 fun v0 (v2,v4) hj hk hv=>by
  refine Tr.G2 ?_ fun _=>Tr.C ?_ fun _ _ _=>Tr.C ?_ fun _ _ _=>Tr.Gb ?_ fun _=>Tr.Rn ?_
  all_goals (grind)
noncomputable def s_TickStack:FT (Stac×Unit) (Stac×List Bytes) (fun x=>sm_stac x.1) (fun x v=>sm_stac v.1∧sL sS v.2):=⟨fun(x0,_)=>
  .cal s_l28Copy.c (x0,()) fun c1=>
  .cal s_StackOk.c (x0,()) fun c2=>
  .ite (!c2) (.ret (c1,[]))<|
  .lp (s_TickStack_L0_d (0,x0,(⟨⟨0,0,[]⟩,⟨0,0,⟨0,⟨false,0,0,[]⟩,⟨false,0,0,[]⟩,false⟩,⟨0,0,0,0⟩,[],⟨[],[]⟩,0⟩⟩:Stac),c1,[],())).lp fun(_,_,a5_1)=>
  .cal s_TickDoor.c (x0.door,()) fun c6=>
  .cal s_Aged.c (x0.link.cache,()) fun c7=>
  .ret ((⟨⟨c1.link.mac,c1.link.ip,c7⟩,c6.1⟩:Stac),a5_1),
 fun(x0,_) hp=>by
  refine Tr.C ?_ fun _ _ _=>Tr.C ?_ fun _ _ _=>Tr.I (fun _=>Tr.R ?_) fun _=>Tr.L (s_TickStack_L0_k ?_ ?_ ?_ ?_ ?_) (fun(a5_0,a5_1) _=>Tr.C ?_ fun _ _ _=>Tr.C ?_ fun _ _ _=>Tr.R ?_) (fun p=>Empty.elim p)
  all_goals ((try simp only[s_TickStack_L0_d,LC.lp,LC.ct,Ct.lp]at*)<;>grind)⟩
noncomputable def s_TickStack_e:=entT st s_TickStack_x s_TickStack_o [(leC 0 s_TickStack_L0_h s_TickStack_L0_d)] (ks:=[.st .stac]) s_TickStack (fun v=>[(true,q_stac (.o true) (.o true) (.o true) (.o true) (.o true) (.o true) v.1),(false,[sc (.o true) .str v.2])]) Tryz.func32 ⟨s_TickStack_L0_s,trivial⟩ fun _=>by kernel_rfl
noncomputable def s_l26Let:FT (Door×Conn×Segm×Int×Unit) (Door×List Segm×Int) (fun x=>sm_door x.1∧sm_conn x.2.1∧sm_segm x.2.2.1) (fun x v=>sm_door v.1∧sL sm_segm v.2.1):=⟨fun(x0,x1,x2,x3,_)=>
  .cal s_l26Copy.c (x0,()) fun c1=>
  .cal s_PutConn.c (x0.table,x1,x0.limits,()) fun c2=>
  .ite (!c2.2) (.ret (c1,[],0))<|
  .cal s_Receive.c (x1,x2,()) fun c3=>
  .cal s_SetConn.c (c2.1,c3.1,()) fun c4=>
  .cal s_DropHalf.c (c1.halves,x1.tuple,()) fun c5=>
  .ret (({c1 with halves:=c5,table.conns:=c4.conns,table.waiting:=c4.waiting}:Door),c3.2.1,x3),
 fun(x0,x1,x2,x3,_) hp=>by
  refine Tr.C ?_ fun _ _ _=>Tr.C ?_ fun _ _ _=>Tr.I (fun _=>Tr.R ?_) fun _=>Tr.C ?_ fun _ _ _=>Tr.C ?_ fun _ _ _=>Tr.C ?_ fun _ _ _=>Tr.R ?_
  all_goals (grind)⟩
noncomputable def s_l26Let_e:=ent0 st Tryz.func62 [s_l26Copy_e,s_PutConn_e,s_Receive_e,s_SetConn_e,s_DropHalf_e] (ks:=[.st .door,.st .conn,.st .segm,.sc (.int .i64)]) s_l26Let (fun v=>[(true,q_door (.o true) (.o true) (.o true) (.o true) (.o true) v.1),(false,[sc (.o true) .segm v.2.1]),(false,[.c (.int .i64 v.2.2)])]) fun _=>by kernel_rfl
noncomputable def s_CookieOf:FT (Mac×Tupl×Int×Int×Int×Unit) (Int) (fun x=>sm_mac x.1) (fun _ _=>True):=⟨fun(x0,x1,x2,x3,x4,_)=>
  .cal s_MacInput.c (x1,x2,x3,x4,()) fun c1=>
  .ite (c1==[]) (.ret (-1))<|
  .val (IntKind.wrap .i64 ((IntKind.wrap .i64 ((x3.tmod 32)*134217728))+(IntKind.wrap .i64 (x4*16777216)))) fun e2=>
  .cal s_MacOf.c (x0,c1,()) fun c3=>
  .ret (IntKind.wrap .i64 (e2+c3)),
 fun(x0,x1,x2,x3,x4,_) hp=>by
  refine Tr.C trivial fun _ _ _=>Tr.I (fun _=>Tr.R trivial) fun _=>Tr.V fun _ _=>Tr.C ?_ fun _ _ _=>Tr.R trivial
  all_goals (grind)⟩
noncomputable def s_CookieOf_e:=ent0 st Tryz.func71 [s_MacInput_e,s_MacOf_e] (ks:=[.st .mac,.st .tupl,.sc (.int .i64),.sc (.int .i64),.sc (.int .i64)]) s_CookieOf (fun v=>[(false,[.c (.int .i64 v)])]) fun _=>by kernel_rfl
noncomputable def s_FirstSeq_o:List (Ent1 Tryz.prog):=[s_MssIndex_e,s_CookieOf_e,s_l1Max_e]
def s_FirstSeq_J12_a:An:=⟨⟨[],[],false,0⟩,⟨[3,4,5,6,7],[],false,0⟩,⟨[],[]⟩,[(.normal,⟨[(3,false,[.ptr 0 0]),(4,false,[.ptr 1 0]),(5,false,[.ptr 2 0]),(6,false,[.int .i64]),(7,false,[.int .i64])],[.box [.st .door [.sl .arg,.sl .arg,.sl .arg,.sl .arg,.sl .arg]],.box [.st .tupl []],.box [.st .segm []]]⟩)]⟩
noncomputable def s_FirstSeq_x:Fx:=⟨124,Tryz.f124,[(1000012,s_FirstSeq_J12_a)],0⟩
noncomputable def s_FirstSeq:FT (Door×Tupl×Segm×Unit) (Int) (fun x=>sm_door x.1∧sm_segm x.2.2.1) (fun _ _=>True):=⟨fun(x0,x1,x2,_)=>
  .bnd (β:=Int×Int×Door×Tupl×Segm×Unit) (.ite (x2.opts.mss==0) (.ret (0,536,x0,x1,x2,()))<|
   .ret (0,x2.opts.mss,x0,x1,x2,())) fun(_,u1a1,u1a2,u1a3,u1a4,_)=>
  .cal s_MssIndex.c (u1a1,()) fun c2=>
  .cal s_CookieOf.c (u1a2.keys.now,u1a3,u1a4.seq,u1a2.keys.epoch,c2,()) fun c3=>
  .val (s_l1Max.f (0,c3,())) fun c4=>
  .ret c4,
 fun(x0,x1,x2,_) hp=>by
  refine Tr.B (Q':=fun w=>sm_door w.2.2.1∧sm_segm w.2.2.2.2.1) (Tr.I (fun _=>Tr.R ?_) fun _=>Tr.R ?_) (fun(u1a0,u1a1,u1a2,u1a3,u1a4,_) _ _=>Tr.C trivial fun _ _ _=>Tr.C ?_ fun _ _ _=>Tr.F (by kernel_rfl) trivial)
  all_goals ((try simp only[Tr.nice,letK]at*)<;>grind)⟩
noncomputable def s_FirstSeq_e:=entT st s_FirstSeq_x s_FirstSeq_o [] (ks:=[.st .door,.st .tupl,.st .segm]) s_FirstSeq (fun v=>[(false,[.c (.int .i64 v)])]) Tryz.func124 trivial fun _=>by kernel_rfl
noncomputable def s_l1Below:FT (Curs×Int×Unit) (Int×Curs) (fun x=>sm_curs x.1) (fun x v=>sm_curs v.2∧0≤v.1∧(0<x.2.1→v.1<x.2.1)):=⟨fun(y0,x1,_)=>
  .ite (decide (x1≤0)) (.ret (0,y0))<|
  .ite (decide (x1≤256)) (.cal s_l1Byte.c (y0,()) fun c1=>
   .grd (x1 != 0)<|
   .ret ((c1.1.tmod x1),c1.2))<|
  .cal s_l1Byte.c (y0,()) fun c2=>
  .cal s_l1Byte.c (c2.2,()) fun c3=>
  .cal s_l1Byte.c (c3.2,()) fun c4=>
  .cal s_l1Byte.c (c4.2,()) fun c5=>
  .val (IntKind.wrap .i64 ((IntKind.wrap .i64 (c2.1*16777216))+(IntKind.wrap .i64 (c3.1*65536)))) fun e6=>
  .val (IntKind.wrap .i64 ((IntKind.wrap .i64 (e6+(IntKind.wrap .i64 (c4.1*256))))+c5.1)) fun e7=>
  .grd (x1 != 0)<|
  .ret ((e7.tmod x1),c5.2),
 fun(y0,x1,_) hp=>by
  refine Tr.I (fun b0=>Tr.R ?_) fun b0=>Tr.I (fun b1=>Tr.C ?_ fun c1 hc1 qc1=>Tr.G ?_ fun g2=>Tr.R ?_) fun b1=>Tr.C ?_ fun c2 hc2 qc2=>Tr.C ?_ fun c3 hc3 qc3=>Tr.C ?_ fun c4 hc4 qc4=>Tr.C ?_ fun c5 hc5 qc5=>Tr.V fun e6 he6=>Tr.V fun e7 he7=>Tr.G ?_ fun g2=>Tr.R ?_
  all_goals ((first|grind|(refine⟨by grind,tmod_nn ?_,fun h=>tmod_lt h⟩;first|grind|(subst_vars;simp only[wrap64_def];omega))))⟩
noncomputable def s_l1Below_e:=entM st ⟨120,Tryz.f120,[],1⟩ [s_l1Byte_e] [] [.wr false [.ptr 0],.sc (.int .i64)] [.box [.st .curs]] (fun x y=>(y.1.1,x.2.1,())) s_l1Below (fun v=>[(false,[.c (.int .i64 v.1)])]) (fun x y v=>((v.2,()),())) Tryz.func120 (by kernel_rfl) trivial fun _ _=>by kernel_rfl
noncomputable def g_ContainsFunc_MacRow_i_MacOk_1:FT (List MacRow×MacRow×Unit) (Bool) (fun x=>sL sm_macRow x.1∧sm_macRow x.2.1) (fun _ _=>True):=⟨fun(x0,y1_0,_)=>
  .cal g_IndexFunc_MacRow_i_MacOk_1.c (x0,y1_0,()) fun c1=>
  .ret (decide (0≤c1)),
 fun(x0,y1_0,_) hp=>by
  refine Tr.C ?_ fun _ _ _=>Tr.R trivial
  all_goals (grind)⟩
noncomputable def g_ContainsFunc_MacRow_i_MacOk_1_e:=entM st ⟨238,Tryz.f238,[],1⟩ [g_IndexFunc_MacRow_i_MacOk_1_e] [] [.sc (.sl .macRow),.fn 239 [0]] [.box [.st .macRow]] (fun x y=>(x.1,y.1.1,())) g_ContainsFunc_MacRow_i_MacOk_1 (fun v=>[(false,[.c (.bool v)])]) (fun x y v=>((y.1.1,()),())) Tryz.func238 (by kernel_rfl) trivial fun _ _=>by kernel_rfl
noncomputable def s_CheckCookie_o:List (Ent1 Tryz.prog):=[s_CookieParts_e,s_KeysOk_e,s_SecretOf_e,s_CookieOf_e]
def s_CheckCookie_L0_h:Sh:=⟨[(2,false,[.int .i64]),(3,false,[.int .i64]),(4,false,[.ptr 0 0]),(5,false,[.ptr 1 0]),(12,false,[.int .i64]),(14,false,[.int .i64])],[.box [.st .keys [.sl .arg,.sl .arg]],.box [.st .tupl []]]⟩
noncomputable def s_CheckCookie_x:Fx:=⟨17,Tryz.f17,[(0,la ⟨[2,3,4,5,12,14],[],false,0⟩ ⟨[8,9,10],[],false,0⟩),(3000002,rA 0 29),(3000008,rA 0 59)],0⟩
noncomputable def s_CheckCookie_L0_T (v0 v1 v2:Int)(v4:Keys)(v5:Tupl)(v3:Int)(a:Unit):Tr (Stp (Unit) ((Int)⊕(Unit))):=
 .ite (decide ((IntKind.wrap .i64 (v4.epoch-1))≤v3)) (.cal s_SecretOf.c (v4,v3,()) fun c4=>
  .bnd (β:=Bool×Unit) (.ite c4.2 (.cal s_CookieOf.c (c4.1,v5,v0,v3,v2,()) fun c5=>
    .ret ((c5==v1),()))<|
   .ret (false,())) fun(u6a0,_)=>
  .ite u6a0 (.ret (.out (.inl v3)))<|
  .ret (.next ()))<|
 .ret (.out (.inr (())))
noncomputable def s_CheckCookie_L0_d:s_CheckCookie_L0_h.V→LC s_CheckCookie_L0_h (Unit) ((Int)⊕(Unit)) (((Int)⊕(Unit))⊕(Int×Unit)):=fun(v0,v1,v2,v3,v4,v5,_)=>⟨v3,(),fun v3 _=>(v0,v1,v2,v3,v4,v5,()),fun v3 _=>(decide (0≤v3)),s_CheckCookie_L0_T v0 v1 v2 v4 v5,dn,(-1),(Int.toNat (v3-0+1)),.inl,fun i a=> .inr (i,a),fun _ k w=>Sum.elim (fun q=>Sum.elim (fun p=>k .ret (Sh.enc ⟨[(8,false,[.int .i64]),(9,false,[.int .i64]),(10,false,[.bool])],[]⟩ (p,v2,true,()))) (fun _=>k (.exit 0) (Sh.enc ⟨[(8,false,[.undef]),(9,false,[.undef]),(10,false,[.undef])],[]⟩ ())) q) (fun _=>k (.exit 0) (Sh.enc ⟨[(8,false,[.undef]),(9,false,[.undef]),(10,false,[.undef])],[]⟩ ())) w⟩
theorem s_CheckCookie_L0_s:LS Tryz.prog s_CheckCookie_x [0] (leC 0 s_CheckCookie_L0_h s_CheckCookie_L0_d):=loopC st (orcOf_ok s_CheckCookie_o) _ s_CheckCookie_L0_d [] trivial (by kernel_rfl) (fun _=>by kernel_rfl) fun _ _ _ _ _ _=>by kernel_rfl
theorem s_CheckCookie_L0_k {v0 v1 v2 v3:Int}{v4:Keys}{v5:Tupl}(h0:v3≤9223372036854775807)(h1:sm_keys v4):(s_CheckCookie_L0_d (v0,v1,v2,v3,v4,v5,())).D 0 (fun _ _=>True) (fun _=>True):=
 LC.okD (i:=v3) (a:=()) (fun _ _=>rfl) (fun _=>rfl) rfl h0 (by decide) trivial fun v3 _ hj hk hv=>by
  refine Tr.I (fun _=>Tr.C ?_ fun _ _ _=>Tr.B (Q':=fun _=>True) (Tr.I (fun _=>Tr.C ?_ fun _ _ _=>Tr.R trivial) fun _=>Tr.R trivial) (fun(u6a0,_) _ _=>Tr.Z (by kernel_rfl))) fun _=>Tr.Ro trivial
  all_goals ((try simp only[Tr.nice,letK]at*)<;>grind)
noncomputable def s_CheckCookie:FT (Keys×Tupl×Int×Int×Unit) (Int×Int×Bool) (fun x=>sm_keys x.1) (fun _ _=>True):=⟨fun(x0,x1,x2,x3,_)=>
  .cal s_CookieParts.c (x3,()) fun c1=>
  .bnd (β:=Bool×Unit) (.cal s_KeysOk.c (x0,()) fun c2=>
   .ite (!c2) (.ret (true,()))<|
   .ret ((decide (c1.2.1<0)),())) fun(u3a0,_)=>
  .ite u3a0 (.ret (0,0,false))<|
  .lp (s_CheckCookie_L0_d (x2,x3,c1.2.1,x0.epoch,x0,x1,())).lp fun w7=> .sum w7 (fun q7=> .sum q7 (fun p7a0=>
  .ret (p7a0,c1.2.1,true))<|
  fun _=>
  .ret (0,0,false))<|
  fun _=>
  .ret (0,0,false),
 fun(x0,x1,x2,x3,_) hp=>by
  refine Tr.C trivial fun _ _ _=>Tr.B (Q':=fun w=>(w.1=false→0≤x0.epoch∧x0.epoch≤4294967295)) (Tr.C ?_ fun _ _ _=>Tr.I (fun _=>Tr.R ?_) fun _=>Tr.R ?_) (fun(u3a0,_) _ _=>Tr.I (fun _=>Tr.R trivial) fun _=>Tr.L (s_CheckCookie_L0_k ?_ ?_) (fun _ _=>Tr.Sr (Tr.R trivial)) (Tr.W2 (fun p7a0 _=>Tr.Sl (Tr.Sl (Tr.R trivial))) (fun _ _=>Tr.Sl (Tr.Sr (Tr.R trivial)))))
  all_goals ((try simp only[s_CheckCookie_L0_d,LC.lp,LC.ct,Ct.lp,Tr.nice,letK]at*)<;>grind)⟩
noncomputable def s_CheckCookie_e:=entT st s_CheckCookie_x s_CheckCookie_o [(leC 0 s_CheckCookie_L0_h s_CheckCookie_L0_d)] (ks:=[.st .keys,.st .tupl,.sc (.int .i64),.sc (.int .i64)]) s_CheckCookie (fun v=>[(false,[.c (.int .i64 v.1)]),(false,[.c (.int .i64 v.2.1)]),(false,[.c (.bool v.2.2)])]) Tryz.func17 ⟨s_CheckCookie_L0_s,trivial⟩ fun _=>by kernel_rfl
noncomputable def s_SynAck:FT (Door×Tupl×Segm×Unit) (Segm) (fun x=>sm_door x.1∧sm_segm x.2.2.1) (fun x v=>sm_segm v):=⟨fun(x0,x1,x2,_)=>
  .cal s_FirstSeq.c (x0,x1,x2,()) fun c1=>
  .val (s_SeqAdd.f (x2.seq,1,())) fun c2=>
  .val (s_AnswerOptions.f (x2.opts,x0.clock,())) fun c3=>
  .ret (⟨x1.my,x1.port,c1,c2,18,32,c3,[]⟩:Segm),
 fun(x0,x1,x2,_) hp=>by
  refine Tr.C ?_ fun _ _ _=>Tr.V fun _ _=>Tr.V fun _ _=>Tr.R ?_
  all_goals (grind)⟩
noncomputable def s_SynAck_e:=ent0 st Tryz.func44 [s_FirstSeq_e,s_SeqAdd_e,s_AnswerOptions_e] (ks:=[.st .door,.st .tupl,.st .segm]) s_SynAck (fun v=>[(true,q_segm v)]) fun _=>by kernel_rfl
noncomputable def s_SynIn:FT (Door×Tupl×Segm×Unit) (Door×List Segm) (fun x=>sm_door x.1∧sm_segm x.2.2.1) (fun x v=>sm_door v.1∧sL sm_segm v.2):=⟨fun(x0,x1,x2,_)=>
  .cal s_l26Copy.c (x0,()) fun c1=>
  .cal s_l26Right.c (x0,x1,x2,()) fun c2=>
  .ite (!c2) (.ret (c1,[]))<|
  .cal s_SynAck.c (x0,x1,x2,()) fun c3=>
  .cal s_FindHalf.c (x0.halves,x1,()) fun c4=>
  .ite (decide (0≤c4)) (.grd ((decide (0≤c4))&&(decide (c4<(x0.halves.length:Int))))<|
   .ite ((x0.halves.getD c4.toNat (Ty.zero .half)).irs != x2.seq) (.ret (c1,[]))<|
   .grd ((decide (0≤c4))&&(decide (c4<(x0.halves.length:Int))))<|
   .ret (c1,[({c3 with seq:=(x0.halves.getD c4.toNat (Ty.zero .half)).iss}:Segm)]))<|
  .cal s_FindConn.c (x0.table,x1,()) fun c5=>
  .ite (decide (c5<0)) (.val (s_KeptOptions.f (x2.opts,())) fun c6=>
   .cal s_PutHalf.c (c1.halves,(⟨x1,c3.seq,x2.seq,c6,0,x2.window⟩:Half),x0.limits.halves,()) fun c7=>
   .ret (({c1 with halves:=c7.1}:Door),[c3]))<|
  .ret (c1,[c3]),
 fun(x0,x1,x2,_) hp=>by
  refine Tr.C ?_ fun _ _ _=>Tr.C ?_ fun _ _ _=>Tr.I (fun _=>Tr.R ?_) fun _=>Tr.C ?_ fun _ _ _=>Tr.C ?_ fun _ _ _=>Tr.I (fun _=>Tr.G2 ?_ fun _=>Tr.I (fun _=>Tr.R ?_) fun _=>Tr.G2 ?_ fun _=>Tr.R ?_) fun _=>Tr.C ?_ fun _ _ _=>Tr.I (fun _=>Tr.V fun _ _=>Tr.C ?_ fun _ _ _=>Tr.R ?_) fun _=>Tr.R ?_
  all_goals (grind)⟩
noncomputable def s_SynIn_e:=ent0 st Tryz.func91 [s_l26Copy_e,s_l26Right_e,s_SynAck_e,s_FindHalf_e,s_FindConn_e,s_KeptOptions_e,s_PutHalf_e] (ks:=[.st .door,.st .tupl,.st .segm]) s_SynIn (fun v=>[(true,q_door (.o true) (.o true) (.o true) (.o true) (.o true) v.1),(false,[sc (.o true) .segm v.2])]) fun _=>by kernel_rfl
noncomputable def i_MacOk_o:List (Ent1 Tryz.prog):=[i_within_e,g_ContainsFunc_MacRow_i_MacOk_1_e]
def i_MacOk_L0_h:Sh:=⟨[(1,false,[.ptr 0 0]),(27,false,[.sl .arg .macRow]),(28,false,[.int .i64]),(29,false,[.int .i64])],[.box [.st .mac [.sl .arg]]]⟩
noncomputable def i_MacOk_x:Fx:=⟨165,Tryz.f165,[(0,la ⟨[1,27,28,29],[],false,0⟩ ⟨[2],[],false,0⟩),(3000003,rA 0 25)],0⟩
noncomputable def i_MacOk_L0_T (v0:List MacRow)(v3:Mac)(v2:Int)(a:Unit):Tr (Stp (Unit) ((Unit))):=
 .grd ((decide (0≤v2))&&(decide (v2<(v0.length:Int))))<|
 .val (i_within.f ((v0.getD v2.toNat (Ty.zero .macRow)).value,0,16777215,())) fun c2=>
 .ite (!c2) (.ret (.out ()))<|
 .grd ((decide (0≤v2))&&(decide (v2≤(v3.rows.length:Int))))<|
 .cal g_ContainsFunc_MacRow_i_MacOk_1.c (((v3.rows.take v2.toNat).drop 0),(v0.getD v2.toNat (Ty.zero .macRow)),()) fun c3=>
 .ite c3 (.ret (.out ()))<|
 .ret (.next ())
noncomputable def i_MacOk_L0_d:i_MacOk_L0_h.V→LC i_MacOk_L0_h (Unit) ((Unit)) (((Unit))⊕(Int×Unit)):=fun(v0,v1,v2,v3,_)=>⟨v2,(),fun v2 _=>(v0,v1,v2,v3,()),fun v2 _=>(decide (v2<v1)),i_MacOk_L0_T v0 v3,up,1,(Int.toNat (v1-v2)),.inl,fun i a=> .inr (i,a),fun _ k w=>Sum.elim (fun _=>k .ret (Sh.enc ⟨[(2,false,[.bool])],[]⟩ (false,()))) (fun _=>k (.exit 0) (Sh.enc ⟨[(2,false,[.undef])],[]⟩ ())) w⟩
theorem i_MacOk_L0_s:LS Tryz.prog i_MacOk_x [0] (leC 0 i_MacOk_L0_h i_MacOk_L0_d):=loopC st (orcOf_ok i_MacOk_o) _ i_MacOk_L0_d [] trivial (by kernel_rfl) (fun _=>by kernel_rfl) fun _ _ _ _ _ _=>by kernel_rfl
theorem i_MacOk_L0_k {v0:List MacRow}{v1 v2:Int}{v3:Mac}(h0:0≤v2)(h1:v1≤4611686018427387904)(h2:sL sm_macRow v0)(h3:sm_mac v3)(h4:v1≤(v0.length:Int))(h5:v1≤(v3.rows.length:Int)):(i_MacOk_L0_d (v0,v1,v2,v3,())).U v1 (fun _ _=>True) (fun _=>True):=
 LC.okU (i:=v2) (a:=()) (fun _ _=>rfl) (fun _=>rfl) rfl h0 h1 trivial fun v2 _ hj hk hv=>by
  refine Tr.G2 ?_ fun _=>Tr.V fun _ _=>Tr.I (fun _=>Tr.Ro trivial) fun _=>Tr.G2 ?_ fun _=>Tr.C ?_ fun _ _ _=>Tr.Z (by kernel_rfl)
  all_goals (grind)
noncomputable def i_MacOk:FT (Mac×Unit) (Bool) (fun x=>sm_mac x.1) (fun x v=>(v=true→x.1.rows.length≤64)):=⟨fun(x0,_)=>
  .ite (!x0.use) (.ret ((x0.rows.length:Int)==0))<|
  .bnd (β:=Bool×Unit) (.ite (x0.k != 0) (.ret (true,()))<|
   .ite (x0.l != 0) (.ret (true,()))<|
   .ret ((decide (64<(x0.rows.length:Int))),())) fun(u1a0,_)=>
  .ite u1a0 (.ret false)<|
  .lp (i_MacOk_L0_d (x0.rows,(x0.rows.length:Int),0,x0,())).lp fun w4=> .sum w4 (fun _=>
  .ret false)<|
  fun _=>
  .ret true,
 fun(x0,_) hp=>by
  refine Tr.I (fun _=>Tr.R ?_) fun _=>Tr.B (Q':=fun _=>True) (Tr.F (by kernel_rfl) trivial) (fun(u1a0,_) _ _=>Tr.I (fun _=>Tr.R ?_) fun _=>Tr.L (i_MacOk_L0_k ?_ ?_ ?_ ?_ ?_ ?_) (fun _ _=>Tr.Sr (Tr.R ?_)) (fun _ _=>Tr.Sl (Tr.R ?_)))
  all_goals ((try simp only[i_MacOk_L0_d,LC.lp,LC.ct,Ct.lp,Tr.nice,letK]at*)<;>grind)⟩
noncomputable def i_MacOk_e:=entT st i_MacOk_x i_MacOk_o [(leC 0 i_MacOk_L0_h i_MacOk_L0_d)] (ks:=[.st .mac]) i_MacOk (fun v=>[(false,[.c (.bool v)])]) Tryz.func165 ⟨i_MacOk_L0_s,trivial⟩ fun _=>by kernel_rfl
noncomputable def i_Swept_1:FT (Conn×Tabl×Unit) (Bool) (fun x=>sm_conn x.1∧sm_tabl x.2.1) (fun _ _=>True):=⟨fun(x0,y1,_)=>
  .ite (x0.state==8) (.cal g_Contains_Tuple.c (y1.waiting,x0.tuple,()) fun c1=>
   .ret (!c1))<|
  .ret false,
 fun(x0,y1,_) hp=>by
  refine Tr.I (fun _=>Tr.C ?_ fun _ _ _=>Tr.R trivial) fun _=>Tr.R trivial
  all_goals (grind)⟩
noncomputable def i_Swept_1_e:=entM st ⟨254,Tryz.f254,[],1⟩ [g_Contains_Tuple_e] [] [.st .conn,.wr false [.ptr 0]] [.box [.st .tabl]] (fun x y=>(x.1,y.1.1,())) i_Swept_1 (fun v=>[(false,[.c (.bool v)])]) (fun x y v=>((y.1.1,()),())) Tryz.func254 (by kernel_rfl) trivial fun _ _=>by kernel_rfl
noncomputable def s_l1Once:FT (Curs×Int×Unit) (Bool×Curs) (fun x=>sm_curs x.1) (fun x v=>sm_curs v.2):=⟨fun(y0,x1,_)=>
  .cal s_l1Below.c (y0,x1,()) fun c1=>
  .ret ((c1.1==0),c1.2),
 fun(y0,x1,_) hp=>by
  refine Tr.C ?_ fun _ _ _=>Tr.R ?_
  all_goals (grind)⟩
noncomputable def s_l1Once_e:=entM st ⟨45,Tryz.f45,[],1⟩ [s_l1Below_e] [] [.wr false [.ptr 0],.sc (.int .i64)] [.box [.st .curs]] (fun x y=>(y.1.1,x.2.1,())) s_l1Once (fun v=>[(false,[.c (.bool v.1)])]) (fun x y v=>((v.2,()),())) Tryz.func45 (by kernel_rfl) trivial fun _ _=>by kernel_rfl
noncomputable def g_IndexFunc_Conn_i_Swept_1_o_o:List (Ent1 Tryz.prog):=[i_Swept_1_e]
def g_IndexFunc_Conn_i_Swept_1_o_L0_h:Sh:=⟨[(0,false,[.own 0]),(1,false,[.fn 254 [1]]),(7,false,[.int .i64]),(8,false,[.int .i64])],[.arr .conn false false,.box [.st .tabl [.sl .any,.sl .any]]]⟩
noncomputable def g_IndexFunc_Conn_i_Swept_1_o_x:Fx:=⟨79,Tryz.f79,[(0,la ⟨[0,1,7,8],[.softo 1 0,.softo 1 1],false,2⟩ ⟨[4],[],false,2⟩)],2⟩
noncomputable def g_IndexFunc_Conn_i_Swept_1_o_L0_T (v2:List Conn)(v3:Tabl)(v1:Int)(a:Unit):Tr (Stp (Unit) ((Int))):=
 .grd ((decide (0≤v1))&&(decide (v1<(v2.length:Int))))<|
 .cal i_Swept_1.c ((v2.getD v1.toNat (Ty.zero .conn)),v3,()) fun c2=>
 .ite c2 (.ret (.out v1))<|
 .ret (.next ())
noncomputable def g_IndexFunc_Conn_i_Swept_1_o_L0_d:g_IndexFunc_Conn_i_Swept_1_o_L0_h.V→LC g_IndexFunc_Conn_i_Swept_1_o_L0_h (Unit) ((Int)) (((Int))⊕(Int×Unit)):=fun(v0,v1,v2,v3,_)=>⟨v1,(),fun v1 _=>(v0,v1,v2,v3,()),fun v1 _=>(decide (v1<v0)),g_IndexFunc_Conn_i_Swept_1_o_L0_T v2 v3,up,1,(Int.toNat (v0-v1)),.inl,fun i a=> .inr (i,a),fun _ k w=>Sum.elim (fun p=>k .ret (Sh.enc ⟨[(4,false,[.int .i64])],[.arr .conn false false,.box [.st .tabl [.sl .any,.sl .any]]]⟩ (p,v2,v3,()))) (fun _=>k (.exit 0) (Sh.enc ⟨[(4,false,[.undef])],[.arr .conn false false,.box [.st .tabl [.sl .any,.sl .any]]]⟩ (v2,v3,()))) w⟩
theorem g_IndexFunc_Conn_i_Swept_1_o_L0_s:LS Tryz.prog g_IndexFunc_Conn_i_Swept_1_o_x [0] (leC 0 g_IndexFunc_Conn_i_Swept_1_o_L0_h g_IndexFunc_Conn_i_Swept_1_o_L0_d):=loopC st (orcOf_ok g_IndexFunc_Conn_i_Swept_1_o_o) _ g_IndexFunc_Conn_i_Swept_1_o_L0_d [] trivial (by kernel_rfl) (fun _=>by kernel_rfl) fun _ _ _ _ _ _=>by kernel_rfl
theorem g_IndexFunc_Conn_i_Swept_1_o_L0_k {v0 v1:Int}{v2:List Conn}{v3:Tabl}(h0:0≤v1)(h1:v0≤4611686018427387904)(h2:sL sm_conn v2)(h3:sm_tabl v3)(h4:v0≤(v2.length:Int)):(g_IndexFunc_Conn_i_Swept_1_o_L0_d (v0,v1,v2,v3,())).U v0 (fun _ _=>True) (fun p=>v1≤p∧p<v0):=
 LC.okU (i:=v1) (a:=()) (fun _ _=>rfl) (fun _=>rfl) rfl h0 h1 trivial fun v1 _ hj hk hv=>by
  refine Tr.G2 ?_ fun _=>Tr.C ?_ fun _ _ _=>Tr.I (fun _=>Tr.Ro ?_) fun _=>Tr.Rn trivial
  all_goals (grind)
noncomputable def g_IndexFunc_Conn_i_Swept_1_o:FT (List Conn×Tabl×Unit) (Int) (fun x=>sL sm_conn x.1∧sm_tabl x.2.1) (fun x v=> -1≤v∧v<x.1.length):=⟨fun(x0,y1_0,_)=>
  .lp (g_IndexFunc_Conn_i_Swept_1_o_L0_d ((x0.length:Int),0,x0,y1_0,())).lp fun w3=> .sum w3 (fun p3a0=>
  .ret p3a0)<|
  fun _=>
  .ret (-1),
 fun(x0,y1_0,_) hp=>by
  refine Tr.L (g_IndexFunc_Conn_i_Swept_1_o_L0_k ?_ ?_ ?_ ?_ ?_) (fun _ _=>Tr.Sr (Tr.R ?_)) (fun p3a0 _=>Tr.Sl (Tr.R ?_))
  all_goals ((try simp only[g_IndexFunc_Conn_i_Swept_1_o_L0_d,LC.lp,LC.ct,Ct.lp]at*)<;>grind)⟩
noncomputable def g_IndexFunc_Conn_i_Swept_1_o_e:=entM st g_IndexFunc_Conn_i_Swept_1_o_x g_IndexFunc_Conn_i_Swept_1_o_o [(leC 0 g_IndexFunc_Conn_i_Swept_1_o_L0_h g_IndexFunc_Conn_i_Swept_1_o_L0_d)] [.wr false [.own 0],.fn 254 [1]] [.arr .conn,.box [.st .tabl]] (fun x y=>(y.1,y.2.1.1,())) g_IndexFunc_Conn_i_Swept_1_o (fun v=>[(false,[.c (.int .i64 v)])]) (fun x y v=>(y.1,(y.2.1.1,()),())) Tryz.func79 (by kernel_rfl) ⟨g_IndexFunc_Conn_i_Swept_1_o_L0_s,trivial⟩ fun _ _=>by kernel_rfl
noncomputable def s_AckIn_o:List (Ent1 Tryz.prog):=[s_l26Right_e,s_FindConn_e,s_l26Copy_e,s_FindHalf_e,s_SeqAdd_e,s_l26Reset_e,s_ConnNew_e,s_l26Let_e,s_CheckCookie_e,s_LearnedOptions_e]
noncomputable def s_AckIn_x:Fx:=⟨12,Tryz.f12,[(3000001,rA 0 27)],0⟩
noncomputable def s_AckIn:FT (Door×Tupl×Segm×Unit) (Door×List Segm×Int) (fun x=>sm_door x.1∧sm_segm x.2.2.1) (fun x v=>sm_door v.1∧sL sm_segm v.2.1):=⟨fun(x0,x1,x2,_)=>
  .bnd (β:=Bool×Unit) (.cal s_l26Right.c (x0,x1,x2,()) fun c1=>
   .ite (!c1) (.ret (true,()))<|
   .cal s_FindConn.c (x0.table,x1,()) fun c2=>
   .ret ((decide (0≤c2)),())) fun(u3a0,_)=>
  .ite u3a0 (.cal s_l26Copy.c (x0,()) fun c4=>
   .ret (c4,[],0))<|
  .cal s_FindHalf.c (x0.halves,x1,()) fun c5=>
  .ite (decide (0≤c5)) (.grd ((decide (0≤c5))&&(decide (c5<(x0.halves.length:Int))))<|
   .val (s_SeqAdd.f ((x0.halves.getD c5.toNat (Ty.zero .half)).iss,1,())) fun c6=>
   .ite (x2.ack != c6) (.cal s_l26Reset.c (x0,x2,()) fun c7=>
    .ret (c7.1,c7.2.1,c7.2.2))<|
   .val (s_SeqAdd.f ((x0.halves.getD c5.toNat (Ty.zero .half)).irs,1,())) fun c8=>
   .ite (x2.seq != c8) (.cal s_l26Copy.c (x0,()) fun c9=>
    .ret (c9,[],0))<|
   .cal s_ConnNew.c (x1,(x0.halves.getD c5.toNat (Ty.zero .half)).iss,(x0.halves.getD c5.toNat (Ty.zero .half)).irs,(x0.halves.getD c5.toNat (Ty.zero .half)).opts,x2.window,()) fun c10=>
   .cal s_l26Let.c (x0,c10,x2,1,()) fun c11=>
   .ret (c11.1,c11.2.1,c11.2.2))<|
  .val (s_SeqAdd.f (x2.seq,(-1),())) fun c12=>
  .val (s_SeqAdd.f (x2.ack,(-1),())) fun c13=>
  .cal s_CheckCookie.c (x0.keys,x1,c12,c13,()) fun c14=>
  .ite (!c14.2.2) (.cal s_l26Reset.c (x0,x2,()) fun c15=>
   .ret (c15.1,c15.2.1,c15.2.2))<|
  .cal s_LearnedOptions.c (c14.2.1,x2.opts,()) fun c16=>
  .cal s_ConnNew.c (x1,c13,c12,c16,x2.window,()) fun c17=>
  .cal s_l26Let.c (x0,c17,x2,2,()) fun c18=>
  .ret (c18.1,c18.2.1,c18.2.2),
 fun(x0,x1,x2,_) hp=>by
  refine Tr.B (Q':=fun _=>True) (Tr.C ?_ fun _ _ _=>Tr.I (fun _=>Tr.R trivial) fun _=>Tr.C ?_ fun _ _ _=>Tr.R trivial) (fun(u3a0,_) _ _=>Tr.I (fun _=>Tr.C ?_ fun _ _ _=>Tr.R ?_) fun _=>Tr.C ?_ fun _ _ _=>Tr.I (fun _=>Tr.G2 ?_ fun _=>Tr.V fun _ _=>Tr.I (fun _=>Tr.C ?_ fun _ _ _=>Tr.R ?_) fun _=>Tr.V fun _ _=>Tr.I (fun _=>Tr.C ?_ fun _ _ _=>Tr.R ?_) fun _=>Tr.C trivial fun _ _ _=>Tr.C ?_ fun _ _ _=>Tr.R ?_) fun _=>Tr.V fun _ _=>Tr.V fun _ _=>Tr.C ?_ fun _ _ _=>Tr.I (fun _=>Tr.C ?_ fun _ _ _=>Tr.R ?_) fun _=>Tr.C trivial fun _ _ _=>Tr.C trivial fun _ _ _=>Tr.C ?_ fun _ _ _=>Tr.R ?_)
  all_goals ((try simp only[Tr.nice,letK]at*)<;>grind)⟩
noncomputable def s_AckIn_e:=entT st s_AckIn_x s_AckIn_o [] (ks:=[.st .door,.st .tupl,.st .segm]) s_AckIn (fun v=>[(true,q_door (.o true) (.o true) (.o true) (.o true) (.o true) v.1),(false,[sc (.o true) .segm v.2.1]),(false,[.c (.int .i64 v.2.2)])]) Tryz.func12 trivial fun _=>by kernel_rfl
noncomputable def i_KeysOk_o:List (Ent1 Tryz.prog):=[i_within_e,i_MacOk_e,i_SameMac_e]
def i_KeysOk_J5_a:An:=⟨⟨[],[],false,0⟩,⟨[1,2,3],[],false,0⟩,⟨[],[]⟩,[(.normal,⟨[(1,false,[.ptr 0 0]),(2,false,[.bool]),(3,false,[.int .i64])],[.box [.st .keys [.sl .arg,.sl .arg]]]⟩)]⟩
noncomputable def i_KeysOk_x:Fx:=⟨73,Tryz.f73,[(1000005,i_KeysOk_J5_a)],0⟩
noncomputable def i_KeysOk:FT (Keys×Unit) (Bool) (fun x=>sm_keys x.1) (fun x v=>(v=true→0≤x.1.epoch∧x.1.epoch≤4294967295)):=⟨fun(x0,_)=>
  .bnd (β:=Bool×Int×Keys×Unit) (.ite x0.two (.ret (false,1,x0,()))<|
   .ret (false,0,x0,())) fun(_,u1a1,u1a2,_)=>
  .val (i_within.f (u1a2.epoch,u1a1,4294967295,())) fun c2=>
  .ite c2 (.cal i_MacOk.c (u1a2.now,()) fun c3=>
   .ite c3 (.cal i_MacOk.c (u1a2.before,()) fun c4=>
    .ite c4 (.ite u1a2.two (.ret true)<|
     .cal i_SameMac.c (u1a2.before,(⟨false,0,0,[]⟩:Mac),()) fun c5=>
     .ret c5)<|
    .ret false)<|
   .ret false)<|
  .ret false,
 fun(x0,_) hp=>by
  refine Tr.B (Q':=fun w=>sm_keys w.2.2.1∧0≤w.2.1∧w.2.2.1=x0) (Tr.I (fun b0=>Tr.R ?_) fun b0=>Tr.R ?_) (fun(u1a0,u1a1,u1a2,_) hj1 qj1=>Tr.V fun c2 hc2=>Tr.I (fun b0=>Tr.C ?_ fun c3 hc3 qc3=>Tr.I (fun b1=>Tr.C ?_ fun c4 hc4 qc4=>Tr.I (fun b2=>Tr.I (fun b3=>Tr.R ?_) fun b3=>Tr.C ?_ fun c5 hc5 qc5=>Tr.R ?_) fun b2=>Tr.R ?_) fun b1=>Tr.R ?_) fun b0=>Tr.R ?_)
  all_goals ((try simp only[Tr.nice,letK]at*)<;>grind)⟩
noncomputable def i_KeysOk_e:=entT st i_KeysOk_x i_KeysOk_o [] (ks:=[.st .keys]) i_KeysOk (fun v=>[(false,[.c (.bool v)])]) Tryz.func73 trivial fun _=>by kernel_rfl
noncomputable def s_l15Cache_o:List (Ent1 Tryz.prog):=[s_l1Below_e,s_Learned_e,s_l1Once_e,s_Aged_e]
def s_l15Cache_L0_h:Sh:=⟨[(0,false,[.ptr 0 0]),(3,false,[.own 1]),(4,false,[.int .i64]),(5,false,[.int .i64])],[.box [.st .curs [.sl .any]],.arr .entr false true]⟩
noncomputable def s_l15Cache_x:Fx:=⟨246,Tryz.f246,[(0,la ⟨[0,3,4,5],[],false,1⟩ ⟨[2,3],[],false,1⟩)],1⟩
noncomputable def s_l15Cache_L0_T (v1:Int)(a:Curs×List Entr):Tr (Stp (Curs×List Entr) (Empty)):=
 .cal s_l1Below.c (a.1,7,()) fun c2=>
 .cal s_l1Below.c (c2.2,3,()) fun c3=>
 .cal s_Learned.c (a.2,(IntKind.wrap .i64 (167772160+c2.1)),(IntKind.wrap .i64 (11+c3.1)),()) fun c4=>
 .cal s_l1Once.c (c3.2,2,()) fun c5=>
 .ite c5.1 (.cal s_Aged.c (c4,()) fun c6=>
  .ret (.next (c5.2,c6)))<|
 .ret (.next (c5.2,c4))
noncomputable def s_l15Cache_L0_d:s_l15Cache_L0_h.V→LC s_l15Cache_L0_h (Curs×List Entr) (Empty) (Int×(Curs×List Entr)):=fun(v0,v1,v2,v3,_)=>⟨v1,(v2,v3),fun v1 a=>(v0,v1,a.1,a.2,()),fun v1 _=>(decide (v1<v0)),s_l15Cache_L0_T,up,1,(Int.toNat (v0-v1)),(fun p=>Empty.elim p),fun i a=>(i,a),fun _ k x=>k (.exit 0) (Sh.enc ⟨[(2,false,[.undef]),(3,false,[.own 1])],[.box [.st .curs [.sl .any]],.arr .entr false true]⟩ (x.2.1,x.2.2,()))⟩
theorem s_l15Cache_L0_s:LS Tryz.prog s_l15Cache_x [0] (leC 0 s_l15Cache_L0_h s_l15Cache_L0_d):=loopC st (orcOf_ok s_l15Cache_o) _ s_l15Cache_L0_d [] trivial (by kernel_rfl) (fun _=>by kernel_rfl) fun _ _ _ _ _ _=>by kernel_rfl
theorem s_l15Cache_L0_k {v0 v1:Int}{v2:Curs}{v3:List Entr}(h0:0≤v1)(h1:v0≤4611686018427387904)(h2:v0≤6)(h3:sm_curs v2∧sS v3∧(v3.length:Int)≤v1):(s_l15Cache_L0_d (v0,v1,v2,v3,())).U v0 (fun v1 a=>sm_curs a.1∧sS a.2∧(a.2.length:Int)≤v1) (fun _=>True):=
 LC.okU (i:=v1) (a:=(v2,v3)) (fun _ _=>rfl) (fun _=>rfl) rfl h0 h1 h3 fun v1 (v2,v3) hj hk hv=>by
  refine Tr.C ?_ fun _ _ _=>Tr.C ?_ fun _ _ _=>Tr.C ?_ fun _ _ _=>Tr.C ?_ fun _ _ _=>Tr.I (fun _=>Tr.C ?_ fun _ _ _=>Tr.Rn ?_) fun _=>Tr.Rn ?_
  all_goals (grind)
noncomputable def s_l15Cache:FT (Curs×Unit) (List Entr×Curs) (fun x=>sm_curs x.1) (fun x v=>sS v.1∧sm_curs v.2∧v.1.length≤6):=⟨fun(y0,_)=>
  .cal s_l1Below.c (y0,6,()) fun c1=>
  .lp (s_l15Cache_L0_d (c1.1,0,c1.2,[],())).lp fun(_,a7_0,a7_1)=>
  .ret (a7_1,a7_0),
 fun(y0,_) hp=>by
  refine Tr.C ?_ fun _ _ _=>Tr.L (s_l15Cache_L0_k ?_ ?_ ?_ ?_) (fun(a7_0,a7_1) _=>Tr.R ?_) (fun p=>Empty.elim p)
  all_goals ((try simp only[s_l15Cache_L0_d,LC.lp,LC.ct,Ct.lp]at*)<;>grind)⟩
noncomputable def s_l15Cache_e:=entM st s_l15Cache_x s_l15Cache_o [(leC 0 s_l15Cache_L0_h s_l15Cache_L0_d)] [.wr false [.ptr 0]] [.box [.st .curs]] (fun x y=>(y.1.1,())) s_l15Cache (fun v=>[(false,[sc (.o true) .entr v.1])]) (fun x y v=>((v.2,()),())) Tryz.func246 (by kernel_rfl) ⟨s_l15Cache_L0_s,trivial⟩ fun _ _=>by kernel_rfl
noncomputable def g_DeleteFunc_Conn_i_Swept_1_o:List (Ent1 Tryz.prog):=[g_IndexFunc_Conn_i_Swept_1_o_e,i_Swept_1_e]
def g_DeleteFunc_Conn_i_Swept_1_L0_h:Sh:=⟨[(0,false,[.own 0]),(1,false,[.fn 254 [1]]),(5,false,[.int .i64]),(6,false,[.int .i64])],[.arr .conn false false,.box [.st .tabl [.sl .any,.sl .any]]]⟩
noncomputable def g_DeleteFunc_Conn_i_Swept_1_x:Fx:=⟨253,Tryz.f253,[(0,la ⟨[0,1,5,6],[],false,2⟩ ⟨[0,4,5],[],false,2⟩)],2⟩
noncomputable def g_DeleteFunc_Conn_i_Swept_1_L0_T (v3:Tabl)(v1:Int)(a:Int×List Conn):Tr (Stp (Int×List Conn) (Empty)):=
 .grd ((decide (0≤v1))&&(decide (v1<(a.2.length:Int))))<|
 .cal i_Swept_1.c ((a.2.getD v1.toNat (Ty.zero .conn)),v3,()) fun c2=>
 .ite (!c2) (.grd ((decide (0≤a.1))&&(decide (a.1<(a.2.length:Int))))<|
  .ret (.next ((IntKind.wrap .i64 (a.1+1)),(a.2.set a.1.toNat (a.2.getD v1.toNat (Ty.zero .conn))))))<|
 .ret (.next (a.1,a.2))
noncomputable def g_DeleteFunc_Conn_i_Swept_1_L0_d:g_DeleteFunc_Conn_i_Swept_1_L0_h.V→LC g_DeleteFunc_Conn_i_Swept_1_L0_h (Int×List Conn) (Empty) (Int×(Int×List Conn)):=fun(v0,v1,v2,v3,_)=>⟨v1,(v0,v2),fun v1 a=>(a.1,v1,a.2,v3,()),fun v1 a=>(decide (v1<(a.2.length:Int))),g_DeleteFunc_Conn_i_Swept_1_L0_T v3,up,1,(Int.toNat ((v2.length:Int)-v1)),(fun p=>Empty.elim p),fun i a=>(i,a),fun _ k x=>k (.exit 0) (Sh.enc ⟨[(0,false,[.own 0]),(4,false,[.undef]),(5,false,[.int .i64])],[.arr .conn false false,.box [.st .tabl [.sl .any,.sl .any]]]⟩ (x.2.1,x.2.2,v3,()))⟩
theorem g_DeleteFunc_Conn_i_Swept_1_L0_s:LS Tryz.prog g_DeleteFunc_Conn_i_Swept_1_x [0] (leC 0 g_DeleteFunc_Conn_i_Swept_1_L0_h g_DeleteFunc_Conn_i_Swept_1_L0_d):=loopC st (orcOf_ok g_DeleteFunc_Conn_i_Swept_1_o) _ g_DeleteFunc_Conn_i_Swept_1_L0_d [] trivial (by kernel_rfl) (fun _=>by kernel_rfl) fun _ _ _ _ _ _=>by kernel_rfl
theorem g_DeleteFunc_Conn_i_Swept_1_L0_k {v0 v1:Int}{v2:List Conn}{v3:Tabl}(h0:0≤v1)(h1:(v2.length:Int)≤4611686018427387904)(h2:sm_tabl v3)(h3:sL sm_conn v2)(h4:v2.length=v2.length∧smE sm_conn v2∧0≤v0∧v0<v1∧v0<v2.length):(g_DeleteFunc_Conn_i_Swept_1_L0_d (v0,v1,v2,v3,())).S (fun v1 a=>a.2.length=v2.length∧a.2.length=v2.length∧smE sm_conn a.2∧0≤a.1∧a.1<v1∧a.1<a.2.length) (fun _=>True):=by
 refine LC.okS ⟨rfl,h4⟩ (fun j a hj hv=>⟨⟨?_, ?_⟩, ?_⟩) (fun a hv=> ?_)
 ·simp only[g_DeleteFunc_Conn_i_Swept_1_L0_d,decide_eq_true_eq]at*;omega
 ·simp only[g_DeleteFunc_Conn_i_Swept_1_L0_d]at*;exact upw (by omega) (by omega)
 ·refine Tr.G2 ?_ fun _=>Tr.C ?_ fun _ _ _=>Tr.I (fun _=>Tr.G2 ?_ fun _=>Tr.Rn ?_) fun _=>Tr.Rn ?_
  all_goals (try simp only[g_DeleteFunc_Conn_i_Swept_1_L0_d]at*)<;>(grind)
 ·simp only[g_DeleteFunc_Conn_i_Swept_1_L0_d,decide_eq_false_iff_not]at*;omega
noncomputable def g_DeleteFunc_Conn_i_Swept_1:FT (List Conn×Tabl×Unit) (Nat×List Conn) (fun x=>sL sm_conn x.1∧sm_tabl x.2.1) (fun x v=>sL sm_conn v.2∧v.1≤x.1.length∧v.2.length=x.1.length):=⟨fun(x0,y1_0,_)=>
  .cal g_IndexFunc_Conn_i_Swept_1_o.c (x0,y1_0,()) fun c1=>
  .ite (c1==(-1)) (.ret (x0.length,x0))<|
  .lp (g_DeleteFunc_Conn_i_Swept_1_L0_d (c1,(IntKind.wrap .i64 (c1+1)),x0,y1_0,())).lp fun(_,a3_0,a3_1)=>
  .grd (((decide (0≤a3_0))&&(decide (a3_0≤(a3_1.length:Int))))&&(decide ((a3_1.length:Int)≤(a3_1.length:Int))))<|
  .val ((a3_1.take a3_0.toNat++List.replicate ((a3_1.length:Int).toNat-a3_0.toNat) (Ty.zero .conn))++a3_1.drop ((a3_1.length:Int).toNat)) fun l4=>
  .grd ((decide (0≤a3_0))&&(decide (a3_0≤(l4.length:Int))))<|
  .ret (a3_0.toNat,l4),
 fun(x0,y1_0,_) hp=>by
  refine Tr.C ?_ fun c1 hc1 qc1=>Tr.I (fun b0=>Tr.R ?_) fun b0=>Tr.L (g_DeleteFunc_Conn_i_Swept_1_L0_k ?_ ?_ ?_ ?_ ?_) (fun(a3_0,a3_1) i3=>Tr.G3 ?_ fun g1=>Tr.V fun l4 hl4=>Tr.G2 ?_ fun g2=>Tr.R ?_) (fun p=>Empty.elim p)
  all_goals ((try simp only[g_DeleteFunc_Conn_i_Swept_1_L0_d,LC.lp,LC.ct,Ct.lp]at*)<;>(first|grind|(have hz:sm_conn (Ty.zero .conn):=(by unfold sm_conn;(repeat' apply And.intro);all_goals first|exact fun _ h=>absurd h (List.not_mem_nil)|decide+kernel);grind)))⟩
noncomputable def g_DeleteFunc_Conn_i_Swept_1_e:=entM st g_DeleteFunc_Conn_i_Swept_1_x g_DeleteFunc_Conn_i_Swept_1_o [(leC 0 g_DeleteFunc_Conn_i_Swept_1_L0_h g_DeleteFunc_Conn_i_Swept_1_L0_d)] [.wr false [.own 0],.fn 254 [1]] [.arr .conn,.box [.st .tabl]] (fun x y=>(y.1,y.2.1.1,())) g_DeleteFunc_Conn_i_Swept_1 (fun v=>[(false,[.shr 0 v.1])]) (fun x y v=>(v.2,(y.2.1.1,()),())) Tryz.func253 (by kernel_rfl) ⟨g_DeleteFunc_Conn_i_Swept_1_L0_s,trivial⟩ fun _ _=>by kernel_rfl
noncomputable def s_l10Key_o:List (Ent1 Tryz.prog):=[s_l1Below_e,s_l1Byte_e]
def s_l10Key_L0_h:Sh:=⟨[(0,false,[.ptr 0 0]),(3,false,[.int .u64]),(4,false,[.int .i64])],[.box [.st .curs [.sl .any]]]⟩
noncomputable def s_l10Key_x:Fx:=⟨319,Tryz.f319,[(1,la ⟨[0,3,4],[],false,1⟩ ⟨[2,3],[],false,1⟩)],1⟩
noncomputable def s_l10Key_L0_T (v1:Int)(a:Int×Curs):Tr (Stp (Int×Curs) (Empty)):=
 .cal s_l1Byte.c (a.2,()) fun c2=>
 .val (bits .or .u64 (IntKind.wrap .u64 (a.1*256)) (IntKind.wrap .u64 c2.1)) fun e3=>
 .ret (.next (e3,c2.2))
noncomputable def s_l10Key_L0_d:s_l10Key_L0_h.V→LC s_l10Key_L0_h (Int×Curs) (Empty) (Int×(Int×Curs)):=fun(v0,v1,v2,_)=>⟨v1,(v0,v2),fun v1 a=>(a.1,v1,a.2,()),fun v1 _=>(decide (v1<8)),s_l10Key_L0_T,up,1,(Int.toNat (8-v1)),(fun p=>Empty.elim p),fun i a=>(i,a),fun _ k x=>k (.exit 1) (Sh.enc ⟨[(2,false,[.undef]),(3,false,[.int .u64])],[.box [.st .curs [.sl .any]]]⟩ (x.2.1,x.2.2,()))⟩
theorem s_l10Key_L0_s:LS Tryz.prog s_l10Key_x [0] (leC 1 s_l10Key_L0_h s_l10Key_L0_d):=loopC st (orcOf_ok s_l10Key_o) _ s_l10Key_L0_d [] trivial (by kernel_rfl) (fun _=>by kernel_rfl) fun _ _ _ _ _ _=>by kernel_rfl
theorem s_l10Key_L0_k {v0 v1:Int}{v2:Curs}(h0:0≤v1)(h1:sm_curs v2):(s_l10Key_L0_d (v0,v1,v2,())).U 8 (fun v1 a=>sm_curs a.2) (fun _=>True):=
 LC.okU (i:=v1) (a:=(v0,v2)) (fun _ _=>rfl) (fun _=>rfl) rfl h0 (by decide) h1 fun v1 (v0,v2) hj hk hv=>by
  refine Tr.C ?_ fun _ _ _=>Tr.V fun _ _=>Tr.Rn ?_
  all_goals (grind)
noncomputable def s_l10Key:FT (Curs×Unit) (Int×Curs) (fun x=>sm_curs x.1) (fun x v=>sm_curs v.2):=⟨fun(y0,_)=>
  .cal s_l1Below.c (y0,3,()) fun c1=>
  .ite (c1.1==0) (.ret (0,c1.2))<|
  .ite (c1.1==1) (.ret (506097522914230528,c1.2))<|
  .lp (s_l10Key_L0_d (0,0,c1.2,())).lp fun(_,a4_0,a4_1)=>
  .ret (a4_0,a4_1),
 fun(y0,_) hp=>by
  refine Tr.C ?_ fun _ _ _=>Tr.I (fun _=>Tr.R ?_) fun _=>Tr.I (fun _=>Tr.R ?_) fun _=>Tr.L (s_l10Key_L0_k ?_ ?_) (fun(a4_0,a4_1) _=>Tr.R ?_) (fun p=>Empty.elim p)
  all_goals ((try simp only[s_l10Key_L0_d,LC.lp,LC.ct,Ct.lp]at*)<;>grind)⟩
noncomputable def s_l10Key_e:=entM st s_l10Key_x s_l10Key_o [(leC 1 s_l10Key_L0_h s_l10Key_L0_d)] [.wr false [.ptr 0]] [.box [.st .curs]] (fun x y=>(y.1.1,())) s_l10Key (fun v=>[(false,[.c (.int .u64 v.1)])]) (fun x y v=>((v.2,()),())) Tryz.func319 (by kernel_rfl) ⟨s_l10Key_L0_s,trivial⟩ fun _ _=>by kernel_rfl
noncomputable def s_l26Keys:FT (Curs×Unit) (Keys×Curs) (fun x=>sm_curs x.1) (fun x v=>sm_keys v.1∧sm_curs v.2):=⟨fun(y0,_)=>
  .cal s_l1Below.c (y0,40,()) fun c1=>
  .cal s_l10Key.c (c1.2,()) fun c2=>
  .cal s_l10Key.c (c2.2,()) fun c3=>
  .cal s_KeyMac.c (c2.1,c3.1,()) fun c4=>
  .ite (decide (0<c1.1)) (.cal s_l1Once.c (c3.2,2,()) fun c5=>
   .ite c5.1 (.cal s_l10Key.c (c5.2,()) fun c6=>
    .cal s_KeyMac.c (c6.1,5,()) fun c7=>
    .ret ((⟨c1.1,c4,c7,true⟩:Keys),c6.2))<|
   .ret ((⟨c1.1,c4,⟨false,0,0,[]⟩,false⟩:Keys),c5.2))<|
  .ret ((⟨c1.1,c4,⟨false,0,0,[]⟩,false⟩:Keys),c3.2),
 fun(y0,_) hp=>by
  refine Tr.C ?_ fun _ _ _=>Tr.C ?_ fun _ _ _=>Tr.C ?_ fun _ _ _=>Tr.C trivial fun _ _ _=>Tr.I (fun _=>Tr.C ?_ fun _ _ _=>Tr.I (fun _=>Tr.C ?_ fun _ _ _=>Tr.C trivial fun _ _ _=>Tr.R ?_) fun _=>Tr.R ?_) fun _=>Tr.R ?_
  all_goals (grind)⟩
noncomputable def s_l26Keys_e:=entM st ⟨278,Tryz.f278,[],1⟩ [s_l1Below_e,s_l10Key_e,s_KeyMac_e,s_l1Once_e] [] [.wr false [.ptr 0]] [.box [.st .curs]] (fun x y=>(y.1.1,())) s_l26Keys (fun v=>[(true,q_keys (.o true) (.o true) v.1)]) (fun x y v=>((v.2,()),())) Tryz.func278 (by kernel_rfl) trivial fun _ _=>by kernel_rfl
noncomputable def s_l25Limits:FT (Curs×Unit) (Limi×Curs) (fun x=>sm_curs x.1) (fun x v=>sm_curs v.2):=⟨fun(y0,_)=>
  .cal s_l1Below.c (y0,3,()) fun c1=>
  .cal s_l1Below.c (c1.2,3,()) fun c2=>
  .cal s_l1Below.c (c2.2,4,()) fun c3=>
  .cal s_l1Below.c (c3.2,4,()) fun c4=>
  .ret ((⟨(IntKind.wrap .i64 (1+c1.1)),(IntKind.wrap .i64 (1+c2.1)),(IntKind.wrap .i64 (1+c3.1)),c4.1⟩:Limi),c4.2),
 fun(y0,_) hp=>by
  refine Tr.C ?_ fun _ _ _=>Tr.C ?_ fun _ _ _=>Tr.C ?_ fun _ _ _=>Tr.C ?_ fun _ _ _=>Tr.R ?_
  all_goals (grind)⟩
noncomputable def s_l25Limits_e:=entM st ⟨279,Tryz.f279,[],1⟩ [s_l1Below_e] [] [.wr false [.ptr 0]] [.box [.st .curs]] (fun x y=>(y.1.1,())) s_l25Limits (fun v=>[(true,q_limi v.1)]) (fun x y v=>((v.2,()),())) Tryz.func279 (by kernel_rfl) trivial fun _ _=>by kernel_rfl
noncomputable def i_DoorOk_1:FT (Half×Door×Unit) (Bool) (fun x=>sm_door x.2.1) (fun _ _=>True):=⟨fun(x0,y1,_)=>
  .cal i_FindConn.c (y1.table,x0.tuple,()) fun c1=>
  .ret (decide (0≤c1)),
 fun(x0,y1,_) hp=>by
  refine Tr.C ?_ fun _ _ _=>Tr.R trivial
  all_goals (grind)⟩
noncomputable def i_DoorOk_1_e:=entM st ⟨78,Tryz.f78,[],1⟩ [i_FindConn_e] [] [.st .half,.wr false [.ptr 0]] [.box [.st .door]] (fun x y=>(x.1,y.1.1,())) i_DoorOk_1 (fun v=>[(false,[.c (.bool v)])]) (fun x y v=>((y.1.1,()),())) Tryz.func78 (by kernel_rfl) trivial fun _ _=>by kernel_rfl
noncomputable def g_IndexFunc_Half_i_DoorOk_1_o:List (Ent1 Tryz.prog):=[i_DoorOk_1_e]
def g_IndexFunc_Half_i_DoorOk_1_L0_h:Sh:=⟨[(0,false,[.sl .arg .half]),(1,false,[.fn 78 [0]]),(7,false,[.int .i64]),(8,false,[.int .i64])],[.box [.st .door [.sl .any,.sl .any,.sl .any,.sl .any,.sl .any]]]⟩
noncomputable def g_IndexFunc_Half_i_DoorOk_1_x:Fx:=⟨81,Tryz.f81,[(0,la ⟨[0,1,7,8],[.softo 0 6,.softo 0 10,.softo 0 16,.softo 0 17,.softo 0 18],false,1⟩ ⟨[4],[],false,1⟩)],1⟩
noncomputable def g_IndexFunc_Half_i_DoorOk_1_L0_T (v0:List Half)(v3:Door)(v2:Int)(a:Unit):Tr (Stp (Unit) ((Int))):=
 .grd ((decide (0≤v2))&&(decide (v2<(v0.length:Int))))<|
 .cal i_DoorOk_1.c ((v0.getD v2.toNat (Ty.zero .half)),v3,()) fun c2=>
 .ite c2 (.ret (.out v2))<|
 .ret (.next ())
noncomputable def g_IndexFunc_Half_i_DoorOk_1_L0_d:g_IndexFunc_Half_i_DoorOk_1_L0_h.V→LC g_IndexFunc_Half_i_DoorOk_1_L0_h (Unit) ((Int)) (((Int))⊕(Int×Unit)):=fun(v0,v1,v2,v3,_)=>⟨v2,(),fun v2 _=>(v0,v1,v2,v3,()),fun v2 _=>(decide (v2<v1)),g_IndexFunc_Half_i_DoorOk_1_L0_T v0 v3,up,1,(Int.toNat (v1-v2)),.inl,fun i a=> .inr (i,a),fun _ k w=>Sum.elim (fun p=>k .ret (Sh.enc ⟨[(4,false,[.int .i64])],[.box [.st .door [.sl .any,.sl .any,.sl .any,.sl .any,.sl .any]]]⟩ (p,v3,()))) (fun _=>k (.exit 0) (Sh.enc ⟨[(4,false,[.undef])],[.box [.st .door [.sl .any,.sl .any,.sl .any,.sl .any,.sl .any]]]⟩ (v3,()))) w⟩
theorem g_IndexFunc_Half_i_DoorOk_1_L0_s:LS Tryz.prog g_IndexFunc_Half_i_DoorOk_1_x [0] (leC 0 g_IndexFunc_Half_i_DoorOk_1_L0_h g_IndexFunc_Half_i_DoorOk_1_L0_d):=loopC st (orcOf_ok g_IndexFunc_Half_i_DoorOk_1_o) _ g_IndexFunc_Half_i_DoorOk_1_L0_d [] trivial (by kernel_rfl) (fun _=>by kernel_rfl) fun _ _ _ _ _ _=>by kernel_rfl
theorem g_IndexFunc_Half_i_DoorOk_1_L0_k {v0:List Half}{v1 v2:Int}{v3:Door}(h0:0≤v2)(h1:v1≤4611686018427387904)(h2:sS v0)(h3:sm_door v3)(h4:v1≤(v0.length:Int)):(g_IndexFunc_Half_i_DoorOk_1_L0_d (v0,v1,v2,v3,())).U v1 (fun _ _=>True) (fun p=>v2≤p∧p<v1):=
 LC.okU (i:=v2) (a:=()) (fun _ _=>rfl) (fun _=>rfl) rfl h0 h1 trivial fun v2 _ hj hk hv=>by
  refine Tr.G2 ?_ fun _=>Tr.C ?_ fun _ _ _=>Tr.I (fun _=>Tr.Ro ?_) fun _=>Tr.Rn trivial
  all_goals (grind)
noncomputable def g_IndexFunc_Half_i_DoorOk_1:FT (List Half×Door×Unit) (Int) (fun x=>sS x.1∧sm_door x.2.1) (fun x v=> -1≤v∧v<x.1.length):=⟨fun(x0,y1_0,_)=>
  .lp (g_IndexFunc_Half_i_DoorOk_1_L0_d (x0,(x0.length:Int),0,y1_0,())).lp fun w3=> .sum w3 (fun p3a0=>
  .ret p3a0)<|
  fun _=>
  .ret (-1),
 fun(x0,y1_0,_) hp=>by
  refine Tr.L (g_IndexFunc_Half_i_DoorOk_1_L0_k ?_ ?_ ?_ ?_ ?_) (fun _ _=>Tr.Sr (Tr.R ?_)) (fun p3a0 _=>Tr.Sl (Tr.R ?_))
  all_goals ((try simp only[g_IndexFunc_Half_i_DoorOk_1_L0_d,LC.lp,LC.ct,Ct.lp]at*)<;>grind)⟩
noncomputable def g_IndexFunc_Half_i_DoorOk_1_e:=entM st g_IndexFunc_Half_i_DoorOk_1_x g_IndexFunc_Half_i_DoorOk_1_o [(leC 0 g_IndexFunc_Half_i_DoorOk_1_L0_h g_IndexFunc_Half_i_DoorOk_1_L0_d)] [.sc (.sl .half),.fn 78 [0]] [.box [.st .door]] (fun x y=>(x.1,y.1.1,())) g_IndexFunc_Half_i_DoorOk_1 (fun v=>[(false,[.c (.int .i64 v)])]) (fun x y v=>((y.1.1,()),())) Tryz.func81 (by kernel_rfl) ⟨g_IndexFunc_Half_i_DoorOk_1_L0_s,trivial⟩ fun _ _=>by kernel_rfl
noncomputable def i_Swept_2:FT (Tupl×Tabl×Unit) (Bool) (fun x=>sm_tabl x.2.1) (fun _ _=>True):=⟨fun(x0,y1,_)=>
  .cal i_FindConn.c (y1,x0,()) fun c1=>
  .ret (decide (c1<0)),
 fun(x0,y1,_) hp=>by
  refine Tr.C ?_ fun _ _ _=>Tr.R trivial
  all_goals (grind)⟩
noncomputable def i_Swept_2_e:=entM st ⟨257,Tryz.f257,[],1⟩ [i_FindConn_e] [] [.st .tupl,.wr false [.ptr 0]] [.box [.st .tabl]] (fun x y=>(x.1,y.1.1,())) i_Swept_2 (fun v=>[(false,[.c (.bool v)])]) (fun x y v=>((y.1.1,()),())) Tryz.func257 (by kernel_rfl) trivial fun _ _=>by kernel_rfl
noncomputable def g_IndexFunc_Tuple_i_Swept_2_o_o:List (Ent1 Tryz.prog):=[i_Swept_2_e]
def g_IndexFunc_Tuple_i_Swept_2_o_L0_h:Sh:=⟨[(0,false,[.own 0]),(1,false,[.fn 257 [1]]),(7,false,[.int .i64]),(8,false,[.int .i64])],[.arr .tupl false false,.box [.st .tabl [.sl .any,.sl .any]]]⟩
noncomputable def g_IndexFunc_Tuple_i_Swept_2_o_x:Fx:=⟨309,Tryz.f309,[(0,la ⟨[0,1,7,8],[.softo 1 0,.softo 1 1],false,2⟩ ⟨[4],[],false,2⟩)],2⟩
noncomputable def g_IndexFunc_Tuple_i_Swept_2_o_L0_T (v2:List Tupl)(v3:Tabl)(v1:Int)(a:Unit):Tr (Stp (Unit) ((Int))):=
 .grd ((decide (0≤v1))&&(decide (v1<(v2.length:Int))))<|
 .cal i_Swept_2.c ((v2.getD v1.toNat (Ty.zero .tupl)),v3,()) fun c2=>
 .ite c2 (.ret (.out v1))<|
 .ret (.next ())
noncomputable def g_IndexFunc_Tuple_i_Swept_2_o_L0_d:g_IndexFunc_Tuple_i_Swept_2_o_L0_h.V→LC g_IndexFunc_Tuple_i_Swept_2_o_L0_h (Unit) ((Int)) (((Int))⊕(Int×Unit)):=fun(v0,v1,v2,v3,_)=>⟨v1,(),fun v1 _=>(v0,v1,v2,v3,()),fun v1 _=>(decide (v1<v0)),g_IndexFunc_Tuple_i_Swept_2_o_L0_T v2 v3,up,1,(Int.toNat (v0-v1)),.inl,fun i a=> .inr (i,a),fun _ k w=>Sum.elim (fun p=>k .ret (Sh.enc ⟨[(4,false,[.int .i64])],[.arr .tupl false false,.box [.st .tabl [.sl .any,.sl .any]]]⟩ (p,v2,v3,()))) (fun _=>k (.exit 0) (Sh.enc ⟨[(4,false,[.undef])],[.arr .tupl false false,.box [.st .tabl [.sl .any,.sl .any]]]⟩ (v2,v3,()))) w⟩
theorem g_IndexFunc_Tuple_i_Swept_2_o_L0_s:LS Tryz.prog g_IndexFunc_Tuple_i_Swept_2_o_x [0] (leC 0 g_IndexFunc_Tuple_i_Swept_2_o_L0_h g_IndexFunc_Tuple_i_Swept_2_o_L0_d):=loopC st (orcOf_ok g_IndexFunc_Tuple_i_Swept_2_o_o) _ g_IndexFunc_Tuple_i_Swept_2_o_L0_d [] trivial (by kernel_rfl) (fun _=>by kernel_rfl) fun _ _ _ _ _ _=>by kernel_rfl
theorem g_IndexFunc_Tuple_i_Swept_2_o_L0_k {v0 v1:Int}{v2:List Tupl}{v3:Tabl}(h0:0≤v1)(h1:v0≤4611686018427387904)(h2:sS v2)(h3:sm_tabl v3)(h4:v0≤(v2.length:Int)):(g_IndexFunc_Tuple_i_Swept_2_o_L0_d (v0,v1,v2,v3,())).U v0 (fun _ _=>True) (fun p=>v1≤p∧p<v0):=
 LC.okU (i:=v1) (a:=()) (fun _ _=>rfl) (fun _=>rfl) rfl h0 h1 trivial fun v1 _ hj hk hv=>by
  refine Tr.G2 ?_ fun _=>Tr.C ?_ fun _ _ _=>Tr.I (fun _=>Tr.Ro ?_) fun _=>Tr.Rn trivial
  all_goals (grind)
noncomputable def g_IndexFunc_Tuple_i_Swept_2_o:FT (List Tupl×Tabl×Unit) (Int) (fun x=>sS x.1∧sm_tabl x.2.1) (fun x v=> -1≤v∧v<x.1.length):=⟨fun(x0,y1_0,_)=>
  .lp (g_IndexFunc_Tuple_i_Swept_2_o_L0_d ((x0.length:Int),0,x0,y1_0,())).lp fun w3=> .sum w3 (fun p3a0=>
  .ret p3a0)<|
  fun _=>
  .ret (-1),
 fun(x0,y1_0,_) hp=>by
  refine Tr.L (g_IndexFunc_Tuple_i_Swept_2_o_L0_k ?_ ?_ ?_ ?_ ?_) (fun _ _=>Tr.Sr (Tr.R ?_)) (fun p3a0 _=>Tr.Sl (Tr.R ?_))
  all_goals ((try simp only[g_IndexFunc_Tuple_i_Swept_2_o_L0_d,LC.lp,LC.ct,Ct.lp]at*)<;>grind)⟩
noncomputable def g_IndexFunc_Tuple_i_Swept_2_o_e:=entM st g_IndexFunc_Tuple_i_Swept_2_o_x g_IndexFunc_Tuple_i_Swept_2_o_o [(leC 0 g_IndexFunc_Tuple_i_Swept_2_o_L0_h g_IndexFunc_Tuple_i_Swept_2_o_L0_d)] [.wr false [.own 0],.fn 257 [1]] [.arr .tupl,.box [.st .tabl]] (fun x y=>(y.1,y.2.1.1,())) g_IndexFunc_Tuple_i_Swept_2_o (fun v=>[(false,[.c (.int .i64 v)])]) (fun x y v=>(y.1,(y.2.1.1,()),())) Tryz.func309 (by kernel_rfl) ⟨g_IndexFunc_Tuple_i_Swept_2_o_L0_s,trivial⟩ fun _ _=>by kernel_rfl
noncomputable def g_ContainsFunc_Half_i_DoorOk_1:FT (List Half×Door×Unit) (Bool) (fun x=>sS x.1∧sm_door x.2.1) (fun _ _=>True):=⟨fun(x0,y1_0,_)=>
  .cal g_IndexFunc_Half_i_DoorOk_1.c (x0,y1_0,()) fun c1=>
  .ret (decide (0≤c1)),
 fun(x0,y1_0,_) hp=>by
  refine Tr.C ?_ fun _ _ _=>Tr.R trivial
  all_goals (grind)⟩
noncomputable def g_ContainsFunc_Half_i_DoorOk_1_e:=entM st ⟨77,Tryz.f77,[],1⟩ [g_IndexFunc_Half_i_DoorOk_1_e] [] [.sc (.sl .half),.fn 78 [0]] [.box [.st .door]] (fun x y=>(x.1,y.1.1,())) g_ContainsFunc_Half_i_DoorOk_1 (fun v=>[(false,[.c (.bool v)])]) (fun x y v=>((y.1.1,()),())) Tryz.func77 (by kernel_rfl) trivial fun _ _=>by kernel_rfl
noncomputable def i_DoorOk_o:List (Ent1 Tryz.prog):=[i_WordOk_e,i_KeysOk_e,i_TableOk_e,i_HalvesOk_e,i_within_e,g_ContainsFunc_Half_i_DoorOk_1_e]
noncomputable def i_DoorOk_x:Fx:=⟨18,Tryz.f18,[(3000001,rA 0 50)],0⟩
noncomputable def i_DoorOk:FT (Door×Unit) (Bool) (fun x=>sm_door x.1) (fun x v=>(v=true→x.1.table.conns.length≤16)):=⟨fun(x0,_)=>
  .bnd (β:=Bool×Unit) (.cal i_WordOk.c (x0.port,16,()) fun c1=>
   .ite (!c1) (.ret (true,()))<|
   .cal i_WordOk.c (x0.clock,32,()) fun c2=>
   .ite (!c2) (.ret (true,()))<|
   .cal i_KeysOk.c (x0.keys,()) fun c3=>
   .ite (!c3) (.ret (true,()))<|
   .cal i_TableOk.c (x0.table,x0.limits,()) fun c4=>
   .ite (!c4) (.ret (true,()))<|
   .cal i_HalvesOk.c (x0.halves,()) fun c5=>
   .ite (!c5) (.ret (true,()))<|
   .ite (decide (x0.limits.halves<(x0.halves.length:Int))) (.ret (true,()))<|
   .val (i_within.f (x0.chal,0,x0.limits.chal,())) fun c6=>
   .ret ((!c6),())) fun(u7a0,_)=>
  .ite u7a0 (.ret false)<|
  .cal g_ContainsFunc_Half_i_DoorOk_1.c (x0.halves,x0,()) fun c8=>
  .ret (!c8),
 fun(x0,_) hp=>by
  refine Tr.B (Q':=fun w=>(w.1=false→0≤x0.keys.epoch∧x0.keys.epoch≤4294967295∧x0.table.conns.length≤16∧x0.table.waiting.length≤16∧x0.halves.length≤64)) (Tr.C trivial fun _ _ _=>Tr.I (fun _=>Tr.R ?_) fun _=>Tr.C trivial fun _ _ _=>Tr.I (fun _=>Tr.R ?_) fun _=>Tr.C ?_ fun _ _ _=>Tr.I (fun _=>Tr.R ?_) fun _=>Tr.C ?_ fun _ _ _=>Tr.I (fun _=>Tr.R ?_) fun _=>Tr.C ?_ fun _ _ _=>Tr.I (fun _=>Tr.R ?_) fun _=>Tr.I (fun _=>Tr.R ?_) fun _=>Tr.V fun _ _=>Tr.R ?_) (fun(u7a0,_) _ _=>Tr.I (fun _=>Tr.R ?_) fun _=>Tr.C ?_ fun _ _ _=>Tr.R ?_)
  all_goals ((try simp only[Tr.nice,letK]at*)<;>grind)⟩
noncomputable def i_DoorOk_e:=entT st i_DoorOk_x i_DoorOk_o [] (ks:=[.st .door]) i_DoorOk (fun v=>[(false,[.c (.bool v)])]) Tryz.func18 trivial fun _=>by kernel_rfl
noncomputable def i_StackOk:FT (Stac×Unit) (Bool) (fun x=>sm_stac x.1) (fun x v=>(v=true→x.1.door.table.conns.length≤16)):=⟨fun(x0,_)=>
  .cal i_LinkOk.c (x0.link,()) fun c1=>
  .ite c1 (.cal i_DoorOk.c (x0.door,()) fun c2=>
   .ret c2)<|
  .ret false,
 fun(x0,_) hp=>by
  refine Tr.C ?_ fun _ _ _=>Tr.I (fun _=>Tr.C ?_ fun _ _ _=>Tr.R ?_) fun _=>Tr.R ?_
  all_goals (grind)⟩
noncomputable def i_StackOk_e:=ent0 st Tryz.func36 [i_LinkOk_e,i_DoorOk_e] (ks:=[.st .stac]) i_StackOk (fun v=>[(false,[.c (.bool v)])]) fun _=>by kernel_rfl
noncomputable def s_l1PickInt:FT (Curs×List Int×Unit) (Int×Curs) (fun x=>sm_curs x.1∧sS x.2.1∧0<x.2.1.length) (fun x v=>sm_curs v.2):=⟨fun(y0,x1,_)=>
  .cal s_l1Below.c (y0,(x1.length:Int),()) fun c1=>
  .grd ((decide (0≤c1.1))&&(decide (c1.1<(x1.length:Int))))<|
  .ret ((x1.getD c1.1.toNat 0),c1.2),
 fun(y0,x1,_) hp=>by
  refine Tr.C ?_ fun _ _ _=>Tr.G2 ?_ fun _=>Tr.R ?_
  all_goals (grind)⟩
noncomputable def s_l1PickInt_e:=entM st ⟨126,Tryz.f126,[],1⟩ [s_l1Below_e] [] [.wr false [.ptr 0],.sc (.sl .i64)] [.box [.st .curs]] (fun x y=>(y.1.1,x.2.1,())) s_l1PickInt (fun v=>[(false,[.c (.int .i64 v.1)])]) (fun x y v=>((v.2,()),())) Tryz.func126 (by kernel_rfl) trivial fun _ _=>by kernel_rfl
noncomputable def g_DeleteFunc_Tuple_i_Swept_2_o:List (Ent1 Tryz.prog):=[g_IndexFunc_Tuple_i_Swept_2_o_e,i_Swept_2_e]
def g_DeleteFunc_Tuple_i_Swept_2_L0_h:Sh:=⟨[(0,false,[.own 0]),(1,false,[.fn 257 [1]]),(5,false,[.int .i64]),(6,false,[.int .i64])],[.arr .tupl false false,.box [.st .tabl [.sl .any,.sl .any]]]⟩
noncomputable def g_DeleteFunc_Tuple_i_Swept_2_x:Fx:=⟨256,Tryz.f256,[(0,la ⟨[0,1,5,6],[],false,2⟩ ⟨[0,4,5],[],false,2⟩)],2⟩
noncomputable def g_DeleteFunc_Tuple_i_Swept_2_L0_T (v3:Tabl)(v1:Int)(a:Int×List Tupl):Tr (Stp (Int×List Tupl) (Empty)):=
 .grd ((decide (0≤v1))&&(decide (v1<(a.2.length:Int))))<|
 .cal i_Swept_2.c ((a.2.getD v1.toNat (Ty.zero .tupl)),v3,()) fun c2=>
 .ite (!c2) (.grd ((decide (0≤a.1))&&(decide (a.1<(a.2.length:Int))))<|
  .ret (.next ((IntKind.wrap .i64 (a.1+1)),(a.2.set a.1.toNat (a.2.getD v1.toNat (Ty.zero .tupl))))))<|
 .ret (.next (a.1,a.2))
noncomputable def g_DeleteFunc_Tuple_i_Swept_2_L0_d:g_DeleteFunc_Tuple_i_Swept_2_L0_h.V→LC g_DeleteFunc_Tuple_i_Swept_2_L0_h (Int×List Tupl) (Empty) (Int×(Int×List Tupl)):=fun(v0,v1,v2,v3,_)=>⟨v1,(v0,v2),fun v1 a=>(a.1,v1,a.2,v3,()),fun v1 a=>(decide (v1<(a.2.length:Int))),g_DeleteFunc_Tuple_i_Swept_2_L0_T v3,up,1,(Int.toNat ((v2.length:Int)-v1)),(fun p=>Empty.elim p),fun i a=>(i,a),fun _ k x=>k (.exit 0) (Sh.enc ⟨[(0,false,[.own 0]),(4,false,[.undef]),(5,false,[.int .i64])],[.arr .tupl false false,.box [.st .tabl [.sl .any,.sl .any]]]⟩ (x.2.1,x.2.2,v3,()))⟩
theorem g_DeleteFunc_Tuple_i_Swept_2_L0_s:LS Tryz.prog g_DeleteFunc_Tuple_i_Swept_2_x [0] (leC 0 g_DeleteFunc_Tuple_i_Swept_2_L0_h g_DeleteFunc_Tuple_i_Swept_2_L0_d):=loopC st (orcOf_ok g_DeleteFunc_Tuple_i_Swept_2_o) _ g_DeleteFunc_Tuple_i_Swept_2_L0_d [] trivial (by kernel_rfl) (fun _=>by kernel_rfl) fun _ _ _ _ _ _=>by kernel_rfl
theorem g_DeleteFunc_Tuple_i_Swept_2_L0_k {v0 v1:Int}{v2:List Tupl}{v3:Tabl}(h0:0≤v1)(h1:(v2.length:Int)≤4611686018427387904)(h2:sm_tabl v3)(h3:sS v2)(h4:v2.length=v2.length∧0≤v0∧v0<v1∧v0<v2.length):(g_DeleteFunc_Tuple_i_Swept_2_L0_d (v0,v1,v2,v3,())).S (fun v1 a=>a.2.length=v2.length∧a.2.length=v2.length∧0≤a.1∧a.1<v1∧a.1<a.2.length) (fun _=>True):=by
 refine LC.okS ⟨rfl,h4⟩ (fun j a hj hv=>⟨⟨?_, ?_⟩, ?_⟩) (fun a hv=> ?_)
 ·simp only[g_DeleteFunc_Tuple_i_Swept_2_L0_d,decide_eq_true_eq]at*;omega
 ·simp only[g_DeleteFunc_Tuple_i_Swept_2_L0_d]at*;exact upw (by omega) (by omega)
 ·refine Tr.G2 ?_ fun _=>Tr.C ?_ fun _ _ _=>Tr.I (fun _=>Tr.G2 ?_ fun _=>Tr.Rn ?_) fun _=>Tr.Rn ?_
  all_goals (try simp only[g_DeleteFunc_Tuple_i_Swept_2_L0_d]at*)<;>(grind)
 ·simp only[g_DeleteFunc_Tuple_i_Swept_2_L0_d,decide_eq_false_iff_not]at*;omega
noncomputable def g_DeleteFunc_Tuple_i_Swept_2:FT (List Tupl×Tabl×Unit) (Nat×List Tupl) (fun x=>sS x.1∧sm_tabl x.2.1) (fun x v=>sS v.2∧v.1≤x.1.length∧v.2.length=x.1.length):=⟨fun(x0,y1_0,_)=>
  .cal g_IndexFunc_Tuple_i_Swept_2_o.c (x0,y1_0,()) fun c1=>
  .ite (c1==(-1)) (.ret (x0.length,x0))<|
  .lp (g_DeleteFunc_Tuple_i_Swept_2_L0_d (c1,(IntKind.wrap .i64 (c1+1)),x0,y1_0,())).lp fun(_,a3_0,a3_1)=>
  .grd (((decide (0≤a3_0))&&(decide (a3_0≤(a3_1.length:Int))))&&(decide ((a3_1.length:Int)≤(a3_1.length:Int))))<|
  .val ((a3_1.take a3_0.toNat++List.replicate ((a3_1.length:Int).toNat-a3_0.toNat) (Ty.zero .tupl))++a3_1.drop ((a3_1.length:Int).toNat)) fun l4=>
  .grd ((decide (0≤a3_0))&&(decide (a3_0≤(l4.length:Int))))<|
  .ret (a3_0.toNat,l4),
 fun(x0,y1_0,_) hp=>by
  refine Tr.C ?_ fun _ _ _=>Tr.I (fun _=>Tr.R ?_) fun _=>Tr.L (g_DeleteFunc_Tuple_i_Swept_2_L0_k ?_ ?_ ?_ ?_ ?_) (fun(a3_0,a3_1) _=>Tr.G3 ?_ fun _=>Tr.V fun _ _=>Tr.G2 ?_ fun _=>Tr.R ?_) (fun p=>Empty.elim p)
  all_goals ((try simp only[g_DeleteFunc_Tuple_i_Swept_2_L0_d,LC.lp,LC.ct,Ct.lp]at*)<;>grind)⟩
noncomputable def g_DeleteFunc_Tuple_i_Swept_2_e:=entM st g_DeleteFunc_Tuple_i_Swept_2_x g_DeleteFunc_Tuple_i_Swept_2_o [(leC 0 g_DeleteFunc_Tuple_i_Swept_2_L0_h g_DeleteFunc_Tuple_i_Swept_2_L0_d)] [.wr false [.own 0],.fn 257 [1]] [.arr .tupl,.box [.st .tabl]] (fun x y=>(y.1,y.2.1.1,())) g_DeleteFunc_Tuple_i_Swept_2 (fun v=>[(false,[.shr 0 v.1])]) (fun x y v=>(v.2,(y.2.1.1,()),())) Tryz.func256 (by kernel_rfl) ⟨g_DeleteFunc_Tuple_i_Swept_2_L0_s,trivial⟩ fun _ _=>by kernel_rfl
noncomputable def i_Swept:FT (Tabl×Unit) (Tabl) (fun x=>sm_tabl x.1) (fun x v=>sm_tabl v):=⟨fun(x0,_)=>
  .cal i_cloneTable.c (x0,()) fun c1=>
  .cal g_DeleteFunc_Conn_i_Swept_1.c (c1.conns,x0,()) fun c2=>
  .cal g_DeleteFunc_Tuple_i_Swept_2.c (c1.waiting,x0,()) fun c3=>
  .ret (⟨(c2.2.take c2.1),(c3.2.take c3.1)⟩:Tabl),
 fun(x0,_) hp=>by
  refine Tr.C ?_ fun _ _ _=>Tr.C ?_ fun _ _ _=>Tr.C ?_ fun _ _ _=>Tr.R ?_
  all_goals (grind)⟩
noncomputable def i_Swept_e:=ent0 st Tryz.func182 [i_cloneTable_e,g_DeleteFunc_Conn_i_Swept_1_e,g_DeleteFunc_Tuple_i_Swept_2_e] (ks:=[.st .tabl]) i_Swept (fun v=>[(true,q_tabl (.o false) (.o true) v)]) fun _=>by kernel_rfl
noncomputable def i_tickDoor_o:List (Ent1 Tryz.prog):=[i_cloneDoor_e,i_DoorOk_e,i_SeqAdd_e,i_AgedHalves_e,i_TickConn_e,i_Swept_e]
def i_tickDoor_L0_0_h:Sh:=⟨[(2,false,[.ptr 0 0]),(4,false,[.ptr 1 0]),(5,false,[.own 2]),(7,false,[.ptr 3 0]),(30,false,[.sl .arg .conn]),(31,false,[.int .i64]),(32,false,[.int .i64]),(48,false,[.own 4]),(49,false,[.int .i64]),(50,false,[.int .i64])],[.box [.st .door [.nil .macRow,.nil .macRow,.nil .half,.nil .conn,.nil .tupl]],.box [.st .door [.own 5,.own 6,.own 7,.own 8,.own 9]],.arr .mail false true,.box [.st .conn [.sl .arg]],.arr .segm false true,.of false true,.of false true,.of false true,.of false true,.of false true]⟩
def i_tickDoor_L0_h:Sh:=⟨[(2,false,[.ptr 0 0]),(4,false,[.ptr 1 0]),(5,false,[.own 2]),(30,false,[.sl .arg .conn]),(31,false,[.int .i64]),(32,false,[.int .i64])],[.box [.st .door [.nil .macRow,.nil .macRow,.nil .half,.nil .conn,.nil .tupl]],.box [.st .door [.own 3,.own 4,.own 5,.own 6,.own 7]],.arr .mail false true,.of false true,.of false true,.of false true,.of false true,.of false true]⟩
noncomputable def i_tickDoor_x:Fx:=⟨101,Tryz.f101,[(2,la ⟨[2,4,5,7,30,31,32,48,49,50],[],false,0⟩ ⟨[2,3,4,5,30,31,32],[],false,0⟩),(0,la ⟨[2,4,5,30,31,32],[],false,0⟩ ⟨[2,3,4,5],[],false,0⟩),(4000000,la ⟨[],[],false,0⟩ ⟨[],[.softb 2 17],false,0⟩)],0⟩
noncomputable def i_tickDoor_L0_0_T (vb8:Conn)(vb9:List Segm)(vb4:Int)(a:Door×List Mail):Tr (Stp (Door×List Mail) (Empty)):=
 .grd ((decide (0≤vb4))&&(decide (vb4<(vb9.length:Int))))<|
 .grd (Nat.ble ((2*(a.2.length+1)+1024)*112) maxSl)<|
 .ret (.next (({a.1 with keys.now.rows:=[],keys.before.rows:=[],halves:=[],table.conns:=[],table.waiting:=[]}:Door),(a.2++[(⟨vb8.tuple.ip,(vb9.getD vb4.toNat (Ty.zero .segm))⟩:Mail)])))
noncomputable def i_tickDoor_L0_0_d:i_tickDoor_L0_0_h.V→LC i_tickDoor_L0_0_h (Door×List Mail) (Empty) (Int×(Door×List Mail)):=fun(vb0,vb1,vb2,vb3,vb4,vb5,vb6,vb7,vb8,vb9,_)=>⟨vb4,(vb5,vb7),fun vb4 a=>(vb0,vb1,vb2,vb3,vb4,a.1,vb6,a.2,vb8,vb9,()),fun vb4 _=>(decide (vb4<vb3)),i_tickDoor_L0_0_T vb8 vb9,up,1,(Int.toNat (vb3-vb4)),(fun p=>Empty.elim p),fun i a=>(i,a),fun _ k x=>k (.exit 2) (Sh.enc ⟨[(2,false,[.ptr 0 0]),(3,false,[.undef]),(4,false,[.ptr 1 0]),(5,false,[.own 2]),(30,false,[.sl .arg .conn]),(31,false,[.int .i64]),(32,false,[.int .i64])],[.box [.st .door [.nil .macRow,.nil .macRow,.nil .half,.nil .conn,.nil .tupl]],.box [.st .door [.own 3,.own 4,.own 5,.own 6,.own 7]],.arr .mail false true,.of false true,.of false true,.of false true,.of false true,.of false true]⟩ (vb0,vb1,vb2,({x.2.1 with keys.now.rows:=[],keys.before.rows:=[],halves:=[],table.conns:=[],table.waiting:=[]}:Door),vb6,x.2.2,()))⟩
theorem i_tickDoor_L0_0_s:LS Tryz.prog i_tickDoor_x [0,0] (leC 2 i_tickDoor_L0_0_h i_tickDoor_L0_0_d):=loopC st (orcOf_ok i_tickDoor_o) _ i_tickDoor_L0_0_d [] trivial (by kernel_rfl) (fun _=>by kernel_rfl) fun _ _ _ _ _ _=>by kernel_rfl
theorem i_tickDoor_L0_0_k {vb0:List Conn}{vb1 vb2 vb3 vb4:Int}{vb5 vb6:Door}{vb7:List Mail}{vb8:Conn}{vb9:List Segm}(h0:0≤vb4)(h1:vb3≤4611686018427387904)(h2:vb9.length≤49)(h3:vb7.length≤1000)(h4:sm_conn vb8)(h5:sL sm_segm vb9)(h6:vb3≤(vb9.length:Int))(h7:sm_door vb5∧(vb7.length:Int)≤vb7.length+vb4∧smE sm_mail vb7):(i_tickDoor_L0_0_d (vb0,vb1,vb2,vb3,vb4,vb5,vb6,vb7,vb8,vb9,())).U vb3 (fun vb4 a=>sm_door a.1∧(a.2.length:Int)≤vb7.length+vb4∧smE sm_mail a.2) (fun _=>True):=
 LC.okU (i:=vb4) (a:=(vb5,vb7)) (fun _ _=>rfl) (fun _=>rfl) rfl h0 h1 h7 fun vb4 (vb5,vb7) hj hk hv=>by
  refine Tr.G2 ?_ fun _=>Tr.Gb ?_ fun _=>Tr.Rn ?_
  all_goals (grind)
noncomputable def i_tickDoor_L0_T (v0:List Conn)(v1:Int)(v2:Int)(a:Door×Door×List Mail):Tr (Stp (Door×Door×List Mail) (Empty)):=
 .grd ((decide (0≤v2))&&(decide (v2<(v0.length:Int))))<|
 .cal i_TickConn.c ((v0.getD v2.toNat (Ty.zero .conn)),()) fun c5=>
 .grd ((decide (0≤v2))&&(decide (v2<(a.2.1.table.conns.length:Int))))<|
 .lp (i_tickDoor_L0_0_d (v0,v1,v2,(c5.2.length:Int),0,({a.1 with keys.now.rows:=[],keys.before.rows:=[],halves:=[],table.conns:=[],table.waiting:=[]}:Door),({a.2.1 with table.conns:=(a.2.1.table.conns.set v2.toNat c5.1)}:Door),a.2.2,(v0.getD v2.toNat (Ty.zero .conn)),c5.2,())).lp fun(_,a6_0,a6_1)=>
 .ret (.next (({({a6_0 with keys.now.rows:=[],keys.before.rows:=[],halves:=[],table.conns:=[],table.waiting:=[]}:Door)with keys.now.rows:=[],keys.before.rows:=[],halves:=[],table.conns:=[],table.waiting:=[]}:Door),({a.2.1 with table.conns:=(a.2.1.table.conns.set v2.toNat c5.1)}:Door),a6_1))
noncomputable def i_tickDoor_L0_d:i_tickDoor_L0_h.V→LC i_tickDoor_L0_h (Door×Door×List Mail) (Empty) (Int×(Door×Door×List Mail)):=fun(v0,v1,v2,v3,v4,v5,_)=>⟨v2,(v3,v4,v5),fun v2 a=>(v0,v1,v2,a.1,a.2.1,a.2.2,()),fun v2 _=>(decide (v2<v1)),i_tickDoor_L0_T v0 v1,up,1,(Int.toNat (v1-v2)),(fun p=>Empty.elim p),fun i a=>(i,a),fun _ k x=>k (.exit 0) (Sh.enc ⟨[(2,false,[.ptr 0 0]),(3,false,[.undef]),(4,false,[.ptr 1 0]),(5,false,[.own 2])],[.box [.st .door [.nil .macRow,.nil .macRow,.nil .half,.nil .conn,.nil .tupl]],.box [.st .door [.own 3,.own 4,.own 5,.own 6,.own 7]],.arr .mail false true,.of false true,.of false true,.of false true,.of false true,.of false true]⟩ (({x.2.1 with keys.now.rows:=[],keys.before.rows:=[],halves:=[],table.conns:=[],table.waiting:=[]}:Door),x.2.2.1,x.2.2.2,()))⟩
theorem i_tickDoor_L0_s:LS Tryz.prog i_tickDoor_x [0] (leC 0 i_tickDoor_L0_h i_tickDoor_L0_d):=loopC st (orcOf_ok i_tickDoor_o) _ i_tickDoor_L0_d [(leC 2 i_tickDoor_L0_0_h i_tickDoor_L0_0_d)] ⟨i_tickDoor_L0_0_s,trivial⟩ (by kernel_rfl) (fun _=>by kernel_rfl) fun _ _ _ _ _ _=>by kernel_rfl
theorem i_tickDoor_L0_k {v0:List Conn}{v1 v2:Int}{v3 v4:Door}{v5:List Mail}(h0:0≤v2)(h1:v1≤4611686018427387904)(h2:v1≤16)(h3:sL sm_conn v0)(h4:sL sm_macRow v4.keys.now.rows)(h5:sL sm_macRow v4.keys.before.rows)(h6:sS v4.halves)(h7:sL sm_conn v4.table.conns)(h8:sS v4.table.waiting)(h9:v1≤(v0.length:Int))(h10:sm_door v3∧v4.keys.now.rows.length=v4.keys.now.rows.length∧smE sm_macRow v4.keys.now.rows∧v4.keys.before.rows.length=v4.keys.before.rows.length∧smE sm_macRow v4.keys.before.rows∧v4.halves.length=v4.halves.length∧v4.table.conns.length=v4.table.conns.length∧smE sm_conn v4.table.conns∧v4.table.waiting.length=v4.table.waiting.length∧sL sm_mail v5∧(v5.length:Int)≤49*v2∧v1≤(v4.table.conns.length:Int)):(i_tickDoor_L0_d (v0,v1,v2,v3,v4,v5,())).U v1 (fun v2 a=>sm_door a.1∧a.2.1.keys.now.rows.length=v4.keys.now.rows.length∧smE sm_macRow a.2.1.keys.now.rows∧a.2.1.keys.before.rows.length=v4.keys.before.rows.length∧smE sm_macRow a.2.1.keys.before.rows∧a.2.1.halves.length=v4.halves.length∧a.2.1.table.conns.length=v4.table.conns.length∧smE sm_conn a.2.1.table.conns∧a.2.1.table.waiting.length=v4.table.waiting.length∧sL sm_mail a.2.2∧(a.2.2.length:Int)≤49*v2∧v1≤(a.2.1.table.conns.length:Int)) (fun _=>True):=
 LC.okU (i:=v2) (a:=(v3,v4,v5)) (fun _ _=>rfl) (fun _=>rfl) rfl h0 h1 h10 fun v2 (v3,v4,v5) hj hk hv=>by
  refine Tr.G2 ?_ fun _=>Tr.C ?_ fun _ _ _=>Tr.G2 ?_ fun _=>Tr.L (i_tickDoor_L0_0_k ?_ ?_ ?_ ?_ ?_ ?_ ?_ ?_) (fun(a6_0,a6_1) _=>Tr.Rn ?_) (fun p=>Empty.elim p)
  all_goals ((try simp only[i_tickDoor_L0_0_d,LC.lp,LC.ct,Ct.lp]at*)<;>grind)
noncomputable def i_tickDoor:FT (Door×Unit) (Door×List Mail) (fun x=>sm_door x.1) (fun x v=>sm_door v.1∧sL sm_mail v.2):=⟨fun(x0,_)=>
  .cal i_cloneDoor.c (x0,()) fun c1=>
  .cal i_DoorOk.c (x0,()) fun c2=>
  .ite (!c2) (.ret (c1,[]))<|
  .val (i_SeqAdd.f (x0.clock,1,())) fun c3=>
  .cal i_AgedHalves.c (x0.halves,()) fun c4=>
  .lp (i_tickDoor_L0_d (x0.table.conns,(x0.table.conns.length:Int),0,(⟨0,0,⟨0,⟨false,0,0,[]⟩,⟨false,0,0,[]⟩,false⟩,⟨0,0,0,0⟩,[],⟨[],[]⟩,0⟩:Door),({c1 with clock:=c3,halves:=c4,chal:=0}:Door),[],())).lp fun(_,_,a7_1,a7_2)=>
  .cal i_Swept.c (a7_1.table,()) fun c8=>
  .ret (({a7_1 with table.conns:=c8.conns,table.waiting:=c8.waiting}:Door),a7_2),
 fun(x0,_) hp=>by
  refine Tr.C ?_ fun _ _ _=>Tr.C ?_ fun _ _ _=>Tr.I (fun _=>Tr.R ?_) fun _=>Tr.V fun _ _=>Tr.C ?_ fun _ _ _=>Tr.L (i_tickDoor_L0_k ?_ ?_ ?_ ?_ ?_ ?_ ?_ ?_ ?_ ?_ ?_) (fun(a7_0,a7_1,a7_2) _=>Tr.C ?_ fun _ _ _=>Tr.R ?_) (fun p=>Empty.elim p)
  all_goals ((try simp only[i_tickDoor_L0_d,LC.lp,LC.ct,Ct.lp]at*)<;>grind)⟩
noncomputable def i_tickDoor_e:=entT st i_tickDoor_x i_tickDoor_o [(leC 0 i_tickDoor_L0_h i_tickDoor_L0_d)] (ks:=[.st .door]) i_tickDoor (fun v=>[(true,q_door (.o true) (.o true) (.o true) .c (.o true) v.1),(false,[sc (.o true) .mail v.2])]) Tryz.func101 ⟨i_tickDoor_L0_s,trivial⟩ fun _=>by kernel_rfl
noncomputable def s_l2Deep_o:List (Ent1 Tryz.prog):=[s_l1Once_e,s_l1PickInt_e,s_l1Byte_e]
def s_l2Deep_L0_h:Sh:=⟨[(0,false,[.ptr 0 0]),(3,false,[.int .i64]),(4,false,[.int .i64])],[.box [.st .curs [.sl .any]]]⟩
noncomputable def s_l2Deep_x:Fx:=⟨121,Tryz.f121,[(0,la ⟨[0,3,4],[],false,1⟩ ⟨[2,3],[],false,1⟩)],1⟩
noncomputable def s_l2Deep_L0_T (v1:Int)(a:Int×Curs):Tr (Stp (Int×Curs) (Empty)):=
 .cal s_l1Byte.c (a.2,()) fun c3=>
 .ret (.next ((IntKind.wrap .i64 ((IntKind.wrap .i64 (256*a.1))+c3.1)),c3.2))
noncomputable def s_l2Deep_L0_d:s_l2Deep_L0_h.V→LC s_l2Deep_L0_h (Int×Curs) (Empty) (Int×(Int×Curs)):=fun(v0,v1,v2,_)=>⟨v1,(v0,v2),fun v1 a=>(a.1,v1,a.2,()),fun v1 _=>(decide (v1<4)),s_l2Deep_L0_T,up,1,(Int.toNat (4-v1)),(fun p=>Empty.elim p),fun i a=>(i,a),fun _ k x=>k (.exit 0) (Sh.enc ⟨[(2,false,[.undef]),(3,false,[.int .i64])],[.box [.st .curs [.sl .any]]]⟩ (x.2.1,x.2.2,()))⟩
theorem s_l2Deep_L0_s:LS Tryz.prog s_l2Deep_x [0] (leC 0 s_l2Deep_L0_h s_l2Deep_L0_d):=loopC st (orcOf_ok s_l2Deep_o) _ s_l2Deep_L0_d [] trivial (by kernel_rfl) (fun _=>by kernel_rfl) fun _ _ _ _ _ _=>by kernel_rfl
theorem s_l2Deep_L0_k {v0 v1:Int}{v2:Curs}(h0:0≤v1)(h1:sm_curs v2):(s_l2Deep_L0_d (v0,v1,v2,())).U 4 (fun v1 a=>sm_curs a.2) (fun _=>True):=
 LC.okU (i:=v1) (a:=(v0,v2)) (fun _ _=>rfl) (fun _=>rfl) rfl h0 (by decide) h1 fun v1 (v0,v2) hj hk hv=>by
  refine Tr.C ?_ fun _ _ _=>Tr.Rn ?_
  all_goals (grind)
noncomputable def s_l2Deep:FT (Curs×Unit) (Int×Curs) (fun x=>sm_curs x.1) (fun x v=>sm_curs v.2):=⟨fun(y0,_)=>
  .cal s_l1Once.c (y0,3,()) fun c1=>
  .ite c1.1 (.cal s_l1PickInt.c (c1.2,[0,1,4294967295,2147483647,2147483648,4294967294],()) fun c2=>
   .ret (c2.1,c2.2))<|
  .lp (s_l2Deep_L0_d (0,0,c1.2,())).lp fun(_,a4_0,a4_1)=>
  .ret (a4_0,a4_1),
 fun(y0,_) hp=>by
  refine Tr.C ?_ fun _ _ _=>Tr.I (fun _=>Tr.C ?_ fun _ _ _=>Tr.R ?_) fun _=>Tr.L (s_l2Deep_L0_k ?_ ?_) (fun(a4_0,a4_1) _=>Tr.R ?_) (fun p=>Empty.elim p)
  all_goals ((try simp only[s_l2Deep_L0_d,LC.lp,LC.ct,Ct.lp]at*)<;>grind)⟩
noncomputable def s_l2Deep_e:=entM st s_l2Deep_x s_l2Deep_o [(leC 0 s_l2Deep_L0_h s_l2Deep_L0_d)] [.wr false [.ptr 0]] [.box [.st .curs]] (fun x y=>(y.1.1,())) s_l2Deep (fun v=>[(false,[.c (.int .i64 v.1)])]) (fun x y v=>((v.2,()),())) Tryz.func121 (by kernel_rfl) ⟨s_l2Deep_L0_s,trivial⟩ fun _ _=>by kernel_rfl
noncomputable def i_TickStack_o:List (Ent1 Tryz.prog):=[i_cloneStack_e,i_StackOk_e,i_Aged_e,i_tickDoor_e,i_SendAll_e]
def i_TickStack_L0_h:Sh:=⟨[(1,false,[.ptr 0 0]),(2,false,[.ptr 1 0]),(4,false,[.ptr 2 0]),(7,false,[.own 3]),(31,false,[.own 4]),(32,false,[.int .i64]),(33,false,[.int .i64])],[.box [.st .stac [.sl .arg,.sl .arg,.sl .arg,.sl .arg,.sl .arg,.sl .arg]],.box [.st .stac [.nil .entr,.nil .macRow,.nil .macRow,.nil .half,.nil .conn,.nil .tupl]],.box [.st .stac [.own 5,.own 6,.own 7,.own 8,.sl .any,.own 9]],.arr .str false true,.arr .mail false true,.of false true,.of false true,.of false true,.of false true,.of false true]⟩
noncomputable def i_TickStack_x:Fx:=⟨31,Tryz.f31,[(0,la ⟨[1,2,4,7,31,32,33],[],false,0⟩ ⟨[2,3,4,7],[],false,0⟩),(4000000,la ⟨[],[],false,0⟩ ⟨[],[.softb 2 20],false,0⟩)],0⟩
noncomputable def i_TickStack_L0_T (v2:Stac)(v6:List Mail)(v1:Int)(a:Stac×List Bytes):Tr (Stp (Stac×List Bytes) (Empty)):=
 .grd ((decide (0≤v1))&&(decide (v1<(v6.length:Int))))<|
 .cal i_SendAll.c (v2,(v6.getD v1.toNat (Ty.zero .mail)).ip,[(v6.getD v1.toNat (Ty.zero .mail)).g],()) fun c5=>
 .grd (Nat.ble ((2*(a.2.length+c5.length)+1024)*16) maxSl)<|
 .ret (.next (({a.1 with link.cache:=[],door.keys.now.rows:=[],door.keys.before.rows:=[],door.halves:=[],door.table.conns:=[],door.table.waiting:=[]}:Stac),(a.2++c5)))
noncomputable def i_TickStack_L0_d:i_TickStack_L0_h.V→LC i_TickStack_L0_h (Stac×List Bytes) (Empty) (Int×(Stac×List Bytes)):=fun(v0,v1,v2,v3,v4,v5,v6,_)=>⟨v1,(v3,v5),fun v1 a=>(v0,v1,v2,a.1,v4,a.2,v6,()),fun v1 _=>(decide (v1<v0)),i_TickStack_L0_T v2 v6,up,1,(Int.toNat (v0-v1)),(fun p=>Empty.elim p),fun i a=>(i,a),fun _ k x=>k (.exit 0) (Sh.enc ⟨[(2,false,[.ptr 0 0]),(3,false,[.undef]),(4,false,[.ptr 1 0]),(7,false,[.own 2])],[.box [.st .stac [.nil .entr,.nil .macRow,.nil .macRow,.nil .half,.nil .conn,.nil .tupl]],.box [.st .stac [.own 3,.own 4,.own 5,.own 6,.sl .any,.own 7]],.arr .str false true,.of false true,.of false true,.of false true,.of false true,.of false true]⟩ (({x.2.1 with link.cache:=[],door.keys.now.rows:=[],door.keys.before.rows:=[],door.halves:=[],door.table.conns:=[],door.table.waiting:=[]}:Stac),v4,x.2.2,()))⟩
theorem i_TickStack_L0_s:LS Tryz.prog i_TickStack_x [0] (leC 0 i_TickStack_L0_h i_TickStack_L0_d):=loopC st (orcOf_ok i_TickStack_o) _ i_TickStack_L0_d [] trivial (by kernel_rfl) (fun _=>by kernel_rfl) fun _ _ _ _ _ _=>by kernel_rfl
theorem i_TickStack_L0_k {v0 v1:Int}{v2 v3 v4:Stac}{v5:List Bytes}{v6:List Mail}(h0:0≤v1)(h1:v0≤4611686018427387904)(h2:sm_stac v2)(h3:sL sm_mail v6)(h4:v0≤(v6.length:Int))(h5:sm_stac v3∧sL sS v5∧(v5.length:Int)≤v1):(i_TickStack_L0_d (v0,v1,v2,v3,v4,v5,v6,())).U v0 (fun v1 a=>sm_stac a.1∧sL sS a.2∧(a.2.length:Int)≤v1) (fun _=>True):=
 LC.okU (i:=v1) (a:=(v3,v5)) (fun _ _=>rfl) (fun _=>rfl) rfl h0 h1 h5 fun v1 (v3,v5) hj hk hv=>by
  refine Tr.G2 ?_ fun _=>Tr.C ?_ fun _ _ _=>Tr.Gb ?_ fun _=>Tr.Rn ?_
  all_goals (grind)
noncomputable def i_TickStack:FT (Stac×Unit) (Stac×List Bytes) (fun x=>sm_stac x.1) (fun x v=>sm_stac v.1∧sL sS v.2):=⟨fun(x0,_)=>
  .cal i_cloneStack.c (x0,()) fun c1=>
  .cal i_StackOk.c (x0,()) fun c2=>
  .ite (!c2) (.ret (c1,[]))<|
  .cal i_Aged.c (x0.link.cache,()) fun c3=>
  .cal i_tickDoor.c (x0.door,()) fun c4=>
  .lp (i_TickStack_L0_d ((c4.2.length:Int),0,x0,(⟨⟨0,0,[]⟩,⟨0,0,⟨0,⟨false,0,0,[]⟩,⟨false,0,0,[]⟩,false⟩,⟨0,0,0,0⟩,[],⟨[],[]⟩,0⟩⟩:Stac),(⟨⟨c1.link.mac,c1.link.ip,c3⟩,c4.1⟩:Stac),[],c4.2,())).lp fun(_,_,a6_1)=>
  .ret ((⟨⟨c1.link.mac,c1.link.ip,c3⟩,c4.1⟩:Stac),a6_1),
 fun(x0,_) hp=>by
  refine Tr.C ?_ fun _ _ _=>Tr.C ?_ fun _ _ _=>Tr.I (fun _=>Tr.R ?_) fun _=>Tr.C ?_ fun _ _ _=>Tr.C ?_ fun _ _ _=>Tr.L (i_TickStack_L0_k ?_ ?_ ?_ ?_ ?_ ?_) (fun(a6_0,a6_1) _=>Tr.R ?_) (fun p=>Empty.elim p)
  all_goals ((try simp only[i_TickStack_L0_d,LC.lp,LC.ct,Ct.lp]at*)<;>grind)⟩
noncomputable def i_TickStack_e:=entT st i_TickStack_x i_TickStack_o [(leC 0 i_TickStack_L0_h i_TickStack_L0_d)] (ks:=[.st .stac]) i_TickStack (fun v=>[(true,q_stac (.o true) (.o true) (.o true) (.o true) .c (.o true) v.1),(false,[sc (.o true) .str v.2])]) Tryz.func31 ⟨i_TickStack_L0_s,trivial⟩ fun _=>by kernel_rfl
noncomputable def s_l8Options_o:List (Ent1 Tryz.prog):=[s_NoOptions_e,s_l1Once_e,s_l1PickInt_e,s_l1Below_e,s_l2Deep_e]
def s_l8Options_J7_a:An:=⟨⟨[],[],false,1⟩,⟨[0,2,3],[],false,1⟩,⟨[],[]⟩,[(.normal,⟨[(0,false,[.ptr 0 0]),(2,false,[.ptr 1 0]),(3,false,[.ptr 2 0])],[.box [.st .curs [.sl .any]],.box [.st .opti []],.box [.st .opti []]]⟩)]⟩
def s_l8Options_J13_a:An:=⟨⟨[],[],false,1⟩,⟨[0,2,3],[],false,1⟩,⟨[],[]⟩,[(.normal,⟨[(0,false,[.ptr 0 0]),(2,false,[.ptr 1 0]),(3,false,[.ptr 2 0])],[.box [.st .curs [.sl .any]],.box [.st .opti []],.box [.st .opti []]]⟩)]⟩
noncomputable def s_l8Options_x:Fx:=⟨209,Tryz.f209,[(1000007,s_l8Options_J7_a),(1000013,s_l8Options_J13_a)],1⟩
noncomputable def s_l8Options:FT (Curs×Unit) (Opti×Curs) (fun x=>sm_curs x.1) (fun x v=>sm_curs v.2):=⟨fun(y0,_)=>
  .val (s_NoOptions.f (())) fun c1=>
  .cal s_l1Once.c (y0,3,()) fun c2=>
  .bnd (β:=Curs×Opti×Opti×Unit) (.ite (!c2.1) (.cal s_l1PickInt.c (c2.2,[536,1460,1300,64,65535,1],()) fun c3=>
    .ret (c3.2,(⟨0,0,false,false,0,0⟩:Opti),({c1 with mss:=c3.1}:Opti),()))<|
   .ret (c2.2,(⟨0,0,false,false,0,0⟩:Opti),c1,())) fun(u4a0,u4a1,u4a2,_)=>
  .cal s_l1Once.c (u4a0,2,()) fun c5=>
  .bnd (β:=Curs×Opti×Opti×Unit) (.ite c5.1 (.cal s_l1Below.c (c5.2,15,()) fun c6=>
    .ret (c6.2,u4a1,({u4a2 with scale:=c6.1}:Opti),()))<|
   .ret (c5.2,u4a1,u4a2,())) fun(u7a0,_,u7a2,_)=>
  .cal s_l1Once.c (u7a0,2,()) fun c8=>
  .cal s_l1Once.c (c8.2,2,()) fun c9=>
  .ite c9.1 (.cal s_l2Deep.c (c9.2,()) fun c10=>
   .cal s_l2Deep.c (c10.2,()) fun c11=>
   .ret ((⟨u7a2.mss,u7a2.scale,c8.1,true,c10.1,c11.1⟩:Opti),c11.2))<|
  .ret (({u7a2 with sack:=c8.1}:Opti),c9.2),
 fun(y0,_) hp=>by
  refine Tr.V fun _ _=>Tr.C ?_ fun _ _ _=>Tr.B (Q':=fun w=>sm_curs w.1) (Tr.I (fun _=>Tr.C ?_ fun _ _ _=>Tr.R ?_) fun _=>Tr.R ?_) (fun(u4a0,u4a1,u4a2,_) _ _=>Tr.C ?_ fun _ _ _=>Tr.B (Q':=fun w=>sm_curs w.1) (Tr.I (fun _=>Tr.C ?_ fun _ _ _=>Tr.R ?_) fun _=>Tr.R ?_) (fun(u7a0,u7a1,u7a2,_) _ _=>Tr.C ?_ fun _ _ _=>Tr.C ?_ fun _ _ _=>Tr.I (fun _=>Tr.C ?_ fun _ _ _=>Tr.C ?_ fun _ _ _=>Tr.R ?_) fun _=>Tr.R ?_))
  all_goals ((try simp only[Tr.nice,letK]at*)<;>grind)⟩
noncomputable def s_l8Options_e:=entM st s_l8Options_x s_l8Options_o [] [.wr false [.ptr 0]] [.box [.st .curs]] (fun x y=>(y.1.1,())) s_l8Options (fun v=>[(true,q_opti v.1)]) (fun x y v=>((v.2,()),())) Tryz.func209 (by kernel_rfl) trivial fun _ _=>by kernel_rfl
noncomputable def s_l26Syn:FT (Curs×Unit) (Segm×Curs) (fun x=>sm_curs x.1) (fun x v=>sm_segm v.1∧sm_curs v.2):=⟨fun(y0,_)=>
  .cal s_l1PickInt.c (y0,[40000,40001,40002],()) fun c1=>
  .cal s_l2Deep.c (c1.2,()) fun c2=>
  .cal s_l1PickInt.c (c2.2,[0,64,65535],()) fun c3=>
  .cal s_l8Options.c (c3.2,()) fun c4=>
  .ret ((⟨c1.1,80,c2.1,0,2,c3.1,c4.1,[]⟩:Segm),c4.2),
 fun(y0,_) hp=>by
  refine Tr.C ?_ fun _ _ _=>Tr.C ?_ fun _ _ _=>Tr.C ?_ fun _ _ _=>Tr.C ?_ fun _ _ _=>Tr.R ?_
  all_goals (grind)⟩
noncomputable def s_l26Syn_e:=entM st ⟨119,Tryz.f119,[],1⟩ [s_l1PickInt_e,s_l2Deep_e,s_l8Options_e] [] [.wr false [.ptr 0]] [.box [.st .curs]] (fun x y=>(y.1.1,())) s_l26Syn (fun v=>[(true,q_segm v.1)]) (fun x y v=>((v.2,()),())) Tryz.func119 (by kernel_rfl) trivial fun _ _=>by kernel_rfl
noncomputable def s_l1Bytes_o:List (Ent1 Tryz.prog):=[s_l1Byte_e]
def s_l1Bytes_L0_h:Sh:=⟨[(0,false,[.ptr 0 0]),(1,false,[.int .i64]),(5,false,[.own 1]),(6,false,[.int .i64])],[.box [.st .curs [.sl .any]],.arr .u8 false true]⟩
noncomputable def s_l1Bytes_x:Fx:=⟨128,Tryz.f128,[(0,la ⟨[0,1,5,6],[.softo 0 0],false,1⟩ ⟨[4,5],[],false,1⟩)],1⟩
noncomputable def s_l1Bytes_L0_T (v1:Int)(a:Curs×List Int):Tr (Stp (Curs×List Int) (Empty)):=
 .cal s_l1Byte.c (a.1,()) fun c2=>
 .grd (Nat.ble ((2*(a.2.length+1)+1024)*1) maxSl)<|
 .ret (.next (c2.2,(a.2++[(IntKind.wrap .u8 c2.1)])))
noncomputable def s_l1Bytes_L0_d:s_l1Bytes_L0_h.V→LC s_l1Bytes_L0_h (Curs×List Int) (Empty) (Int×(Curs×List Int)):=fun(v0,v1,v2,v3,_)=>⟨v1,(v2,v3),fun v1 a=>(v0,v1,a.1,a.2,()),fun v1 _=>(decide (v1<v0)),s_l1Bytes_L0_T,up,1,(Int.toNat (v0-v1)),(fun p=>Empty.elim p),fun i a=>(i,a),fun _ k x=>k (.exit 0) (Sh.enc ⟨[(4,false,[.undef]),(5,false,[.own 1])],[.box [.st .curs [.sl .any]],.arr .u8 false true]⟩ (x.2.1,x.2.2,()))⟩
theorem s_l1Bytes_L0_s:LS Tryz.prog s_l1Bytes_x [0] (leC 0 s_l1Bytes_L0_h s_l1Bytes_L0_d):=loopC st (orcOf_ok s_l1Bytes_o) _ s_l1Bytes_L0_d [] trivial (by kernel_rfl) (fun _=>by kernel_rfl) fun _ _ _ _ _ _=>by kernel_rfl
theorem s_l1Bytes_L0_k {v0 v1:Int}{v2:Curs}{v3:List Int}(h0:0≤v1)(h1:v0≤4611686018427387904)(h2:v0≤4294967296)(h3:sm_curs v2∧(v3.length:Int)=v1):(s_l1Bytes_L0_d (v0,v1,v2,v3,())).U v0 (fun v1 a=>sm_curs a.1∧(a.2.length:Int)=v1) (fun _=>True):=
 LC.okU (i:=v1) (a:=(v2,v3)) (fun _ _=>rfl) (fun _=>rfl) rfl h0 h1 h3 fun v1 (v2,v3) hj hk hv=>by
  refine Tr.C ?_ fun _ _ _=>Tr.Gb ?_ fun _=>Tr.Rn ?_
  all_goals (grind)
noncomputable def s_l1Bytes:FT (Curs×Int×Unit) (List Int×Curs) (fun x=>sm_curs x.1∧x.2.1≤1048576) (fun x v=>sS v.1∧sm_curs v.2):=⟨fun(y0,x1,_)=>
  .lp (s_l1Bytes_L0_d (x1,0,y0,[],())).lp fun(_,a3_0,a3_1)=>
  .ret (a3_1,a3_0),
 fun(y0,x1,_) hp=>by
  refine Tr.L (s_l1Bytes_L0_k ?_ ?_ ?_ ?_) (fun(a3_0,a3_1) _=>Tr.R ?_) (fun p=>Empty.elim p)
  all_goals ((try simp only[s_l1Bytes_L0_d,LC.lp,LC.ct,Ct.lp]at*)<;>grind)⟩
noncomputable def s_l1Bytes_e:=entM st s_l1Bytes_x s_l1Bytes_o [(leC 0 s_l1Bytes_L0_h s_l1Bytes_L0_d)] [.wr false [.ptr 0],.sc (.int .i64)] [.box [.st .curs]] (fun x y=>(y.1.1,x.2.1,())) s_l1Bytes (fun v=>[(false,[sc (.o true) .u8 v.1])]) (fun x y v=>((v.2,()),())) Tryz.func128 (by kernel_rfl) ⟨s_l1Bytes_L0_s,trivial⟩ fun _ _=>by kernel_rfl
noncomputable def s_l1Whole:FT (Curs×Unit) (Int×Curs) (fun x=>sm_curs x.1) (fun x v=>sm_curs v.2):=⟨fun(y0,_)=>
  .cal s_l1Below.c (y0,3,()) fun c1=>
  .ite (c1.1==0) (.cal s_l1PickInt.c (c1.2,[0,1,(-1),9,10,999999999999,1000000000000,9223372036854775807,4294967295,4294967296,65535,65536,(-9223372036854775808)],()) fun c2=>
   .ret (c2.1,c2.2))<|
  .ite (c1.1==1) (.cal s_l1Below.c (c1.2,1000000,()) fun c3=>
   .ret ((IntKind.wrap .i64 (c3.1-500000)),c3.2))<|
  .cal s_l1Below.c (c1.2,20,()) fun c4=>
  .ret (c4.1,c4.2),
 fun(y0,_) hp=>by
  refine Tr.C ?_ fun _ _ _=>Tr.I (fun _=>Tr.C ?_ fun _ _ _=>Tr.R ?_) fun _=>Tr.I (fun _=>Tr.C ?_ fun _ _ _=>Tr.R ?_) fun _=>Tr.C ?_ fun _ _ _=>Tr.R ?_
  all_goals (first|grind|(simp only[sS,List.length_cons,List.length_nil];grind))⟩
noncomputable def s_l1Whole_e:=entM st ⟨280,Tryz.f280,[],1⟩ [s_l1Below_e,s_l1PickInt_e] [] [.wr false [.ptr 0]] [.box [.st .curs]] (fun x y=>(y.1.1,())) s_l1Whole (fun v=>[(false,[.c (.int .i64 v.1)])]) (fun x y v=>((v.2,()),())) Tryz.func280 (by kernel_rfl) trivial fun _ _=>by kernel_rfl
noncomputable def s_l4Place:FT (Curs×Unit) (Int×Curs) (fun x=>sm_curs x.1) (fun x v=>sm_curs v.2):=⟨fun(y0,_)=>
  .cal s_l1Once.c (y0,12,()) fun c1=>
  .ite c1.1 (.cal s_l1Whole.c (c1.2,()) fun c2=>
   .ret (c2.1,c2.2))<|
  .cal s_l2Deep.c (c1.2,()) fun c3=>
  .ret (c3.1,c3.2),
 fun(y0,_) hp=>by
  refine Tr.C ?_ fun _ _ _=>Tr.I (fun _=>Tr.C ?_ fun _ _ _=>Tr.R ?_) fun _=>Tr.C ?_ fun _ _ _=>Tr.R ?_
  all_goals (grind)⟩
noncomputable def s_l4Place_e:=entM st ⟨217,Tryz.f217,[],1⟩ [s_l1Once_e,s_l1Whole_e,s_l2Deep_e] [] [.wr false [.ptr 0]] [.box [.st .curs]] (fun x y=>(y.1.1,())) s_l4Place (fun v=>[(false,[.c (.int .i64 v.1)])]) (fun x y v=>((v.2,()),())) Tryz.func217 (by kernel_rfl) trivial fun _ _=>by kernel_rfl
noncomputable def s_l4Near:FT (Curs×Int×Unit) (Int×Curs) (fun x=>sm_curs x.1) (fun x v=>sm_curs v.2):=⟨fun(y0,x1,_)=>
  .cal s_l1Below.c (y0,4,()) fun c1=>
  .ite (c1.1==0) (.cal s_l4Place.c (c1.2,()) fun c2=>
   .ret (c2.1,c2.2))<|
  .ite (c1.1==1) (.cal s_l1PickInt.c (c1.2,[2147483647,2147483648,(-1),1,0],()) fun c3=>
   .val (s_SeqAdd.f (x1,c3.1,())) fun c4=>
   .ret (c4,c3.2))<|
  .cal s_l1Below.c (c1.2,41,()) fun c5=>
  .val (s_SeqAdd.f (x1,(IntKind.wrap .i64 (c5.1-20)),())) fun c6=>
  .ret (c6,c5.2),
 fun(y0,x1,_) hp=>by
  refine Tr.C ?_ fun _ _ _=>Tr.I (fun _=>Tr.C ?_ fun _ _ _=>Tr.R ?_) fun _=>Tr.I (fun _=>Tr.C ?_ fun _ _ _=>Tr.V fun _ _=>Tr.R ?_) fun _=>Tr.C ?_ fun _ _ _=>Tr.V fun _ _=>Tr.R ?_
  all_goals (grind)⟩
noncomputable def s_l4Near_e:=entM st ⟨129,Tryz.f129,[],1⟩ [s_l1Below_e,s_l4Place_e,s_l1PickInt_e,s_SeqAdd_e] [] [.wr false [.ptr 0],.sc (.int .i64)] [.box [.st .curs]] (fun x y=>(y.1.1,x.2.1,())) s_l4Near (fun v=>[(false,[.c (.int .i64 v.1)])]) (fun x y v=>((v.2,()),())) Tryz.func129 (by kernel_rfl) trivial fun _ _=>by kernel_rfl
noncomputable def s_l26Ack_o:List (Ent1 Tryz.prog):=[s_SeqAdd_e,s_l1PickInt_e,s_NoOptions_e,s_l1Below_e,s_l1Bytes_e,s_l1Once_e,s_l4Near_e,s_l4Rest_e]
def s_l26Ack_J35_a:An:=⟨⟨[],[],false,1⟩,⟨[0,6,7],[],false,1⟩,⟨[],[]⟩,[(.normal,⟨[(0,false,[.ptr 0 0]),(6,false,[.ptr 1 0]),(7,false,[.ptr 2 0])],[.box [.st .curs [.sl .any]],.box [.st .segm []],.box [.st .segm []]]⟩)]⟩
noncomputable def s_l26Ack_x:Fx:=⟨46,Tryz.f46,[(1000035,s_l26Ack_J35_a)],1⟩
noncomputable def s_l26Ack:FT (Curs×Segm×Segm×Unit) (Segm×Curs) (fun x=>sm_curs x.1∧sm_segm x.2.1∧sm_segm x.2.2.1) (fun x v=>sm_segm v.1∧sm_curs v.2):=⟨fun(y0,x1,x2,_)=>
  .val (s_SeqAdd.f (x1.seq,1,())) fun c1=>
  .val (s_SeqAdd.f (x2.seq,1,())) fun c2=>
  .cal s_l1PickInt.c (y0,[0,9,65535],()) fun c3=>
  .val (s_NoOptions.f (())) fun c4=>
  .cal s_l1Below.c (c3.2,3,()) fun c5=>
  .cal s_l1Bytes.c (c5.2,c5.1,()) fun c6=>
  .ite x2.opts.stamp (.cal s_l1Once.c (c6.2,6,()) fun c7=>
   .bnd (β:=Curs×Segm×Segm×Unit) (.ite (!c7.1) (.val (s_SeqAdd.f (x1.opts.val,1,())) fun c8=>
     .ret (c7.2,(⟨0,0,0,0,0,0,⟨0,0,false,false,0,0⟩,[]⟩:Segm),(⟨x1.from_,x1.to,c1,c2,16,c3.1,⟨c4.mss,c4.scale,c4.sack,true,c8,x2.opts.val⟩,(toBytes c6.1)⟩:Segm),()))<|
    .ret (c7.2,(⟨0,0,0,0,0,0,⟨0,0,false,false,0,0⟩,[]⟩:Segm),(⟨x1.from_,x1.to,c1,c2,16,c3.1,c4,(toBytes c6.1)⟩:Segm),())) fun(u9a0,_,u9a2,_)=>
   .cal s_l1Below.c (u9a0,12,()) fun c10=>
   .ite (c10.1==0) (.cal s_l4Near.c (c10.2,u9a2.ack,()) fun c11=>
    .val (s_l4Rest.f (c11.1,())) fun c12=>
    .ret (({u9a2 with ack:=c12}:Segm),c11.2))<|
   .ite (c10.1==1) (.cal s_l4Near.c (c10.2,u9a2.seq,()) fun c13=>
    .val (s_l4Rest.f (c13.1,())) fun c14=>
    .ret (({u9a2 with seq:=c14}:Segm),c13.2))<|
   .ret (u9a2,c10.2))<|
  .cal s_l1Below.c (c6.2,12,()) fun c15=>
  .ite (c15.1==0) (.cal s_l4Near.c (c15.2,c2,()) fun c16=>
   .val (s_l4Rest.f (c16.1,())) fun c17=>
   .ret ((⟨x1.from_,x1.to,c1,c17,16,c3.1,c4,(toBytes c6.1)⟩:Segm),c16.2))<|
  .ite (c15.1==1) (.cal s_l4Near.c (c15.2,c1,()) fun c18=>
   .val (s_l4Rest.f (c18.1,())) fun c19=>
   .ret ((⟨x1.from_,x1.to,c19,c2,16,c3.1,c4,(toBytes c6.1)⟩:Segm),c18.2))<|
  .ret ((⟨x1.from_,x1.to,c1,c2,16,c3.1,c4,(toBytes c6.1)⟩:Segm),c15.2),
 fun(y0,x1,x2,_) hp=>by
  refine Tr.V fun _ _=>Tr.V fun _ _=>Tr.C ?_ fun _ _ _=>Tr.V fun _ _=>Tr.C ?_ fun _ _ _=>Tr.C ?_ fun _ _ _=>Tr.I (fun _=>Tr.C ?_ fun _ _ _=>Tr.B (Q':=fun w=>sm_curs w.1∧sm_segm w.2.1∧sm_segm w.2.2.1) (Tr.I (fun _=>Tr.V fun _ _=>Tr.R ?_) fun _=>Tr.R ?_) (fun(u9a0,u9a1,u9a2,_) _ _=>Tr.C ?_ fun _ _ _=>Tr.I (fun _=>Tr.C ?_ fun _ _ _=>Tr.V fun _ _=>Tr.R ?_) fun _=>Tr.I (fun _=>Tr.C ?_ fun _ _ _=>Tr.V fun _ _=>Tr.R ?_) fun _=>Tr.R ?_)) fun _=>Tr.C ?_ fun _ _ _=>Tr.I (fun _=>Tr.C ?_ fun _ _ _=>Tr.V fun _ _=>Tr.R ?_) fun _=>Tr.I (fun _=>Tr.C ?_ fun _ _ _=>Tr.V fun _ _=>Tr.R ?_) fun _=>Tr.R ?_
  all_goals ((try simp only[Tr.nice,letK]at*)<;>grind)⟩
noncomputable def s_l26Ack_e:=entM st s_l26Ack_x s_l26Ack_o [] [.wr false [.ptr 0],.st .segm,.st .segm] [.box [.st .curs]] (fun x y=>(y.1.1,x.2.1,x.2.2.1,())) s_l26Ack (fun v=>[(true,q_segm v.1)]) (fun x y v=>((v.2,()),())) Tryz.func46 (by kernel_rfl) trivial fun _ _=>by kernel_rfl
noncomputable def s_l26Door_o:List (Ent1 Tryz.prog):=[s_l1Below_e,s_l26Keys_e,s_l25Limits_e,s_l26Syn_e,s_TupleOf_e,s_FindConn_e,s_SynIn_e,s_l1Once_e,s_l26Ack_e,s_AckIn_e]
def s_l26Door_L0_h:Sh:=⟨[(0,false,[.ptr 0 0]),(2,false,[.ptr 1 0]),(3,false,[.ptr 2 0]),(4,false,[.int .i64]),(5,false,[.int .i64])],[.box [.st .curs [.sl .any]],.box [.st .door [.nil .macRow,.nil .macRow,.nil .half,.nil .conn,.nil .tupl]],.box [.st .door [.own 3,.own 4,.own 5,.own 6,.own 7]],.of false true,.of false true,.of false true,.of false true,.of false true]⟩
noncomputable def s_l26Door_x:Fx:=⟨204,Tryz.f204,[(0,la ⟨[0,2,3,4,5],[.box 3 16 .half,.box 3 17 .conn,.box 3 18 .tupl],false,1⟩ ⟨[2,3],[],false,1⟩)],1⟩
noncomputable def s_l26Door_L0_T (v1:Int)(a:Curs×Door×Door):Tr (Stp (Curs×Door×Door) (Empty)):=
 .cal s_l26Syn.c (a.1,()) fun c13=>
 .cal s_l1Below.c (c13.2,2,()) fun c14=>
 .val (s_TupleOf.f ((IntKind.wrap .i64 (167772162+c14.1)),c13.1,())) fun c15=>
 .cal s_FindConn.c (a.2.2.table,c15,()) fun c16=>
 .ite (decide (0≤c16)) (.ret (.next (c14.2,({a.2.1 with keys.now.rows:=[],keys.before.rows:=[],halves:=[],table.conns:=[],table.waiting:=[]}:Door),a.2.2)))<|
 .cal s_SynIn.c (a.2.2,c15,c13.1,()) fun c17=>
 .ite (decide (0<(c17.2.length:Int))) (.cal s_l1Once.c (c14.2,2,()) fun c18=>
  .ite c18.1 (.grd (decide (0<(c17.2.length:Int)))<|
   .cal s_l26Ack.c (c18.2,c13.1,(c17.2.getD 0 (Ty.zero .segm)),()) fun c19=>
   .cal s_AckIn.c (c17.1,c15,c19.1,()) fun c20=>
   .ret (.next (c19.2,({a.2.1 with keys.now.rows:=[],keys.before.rows:=[],halves:=[],table.conns:=[],table.waiting:=[]}:Door),c20.1)))<|
  .ret (.next (c18.2,({a.2.1 with keys.now.rows:=[],keys.before.rows:=[],halves:=[],table.conns:=[],table.waiting:=[]}:Door),c17.1)))<|
 .ret (.next (c14.2,({a.2.1 with keys.now.rows:=[],keys.before.rows:=[],halves:=[],table.conns:=[],table.waiting:=[]}:Door),c17.1))
noncomputable def s_l26Door_L0_d:s_l26Door_L0_h.V→LC s_l26Door_L0_h (Curs×Door×Door) (Empty) (Int×(Curs×Door×Door)):=fun(v0,v1,v2,v3,v4,_)=>⟨v1,(v2,v3,v4),fun v1 a=>(v0,v1,a.1,a.2.1,a.2.2,()),fun v1 _=>(decide (v1<v0)),s_l26Door_L0_T,up,1,(Int.toNat (v0-v1)),(fun p=>Empty.elim p),fun i a=>(i,a),fun _ k x=>k (.exit 0) (Sh.enc ⟨[(2,false,[.ptr 1 0]),(3,false,[.ptr 2 0])],[.box [.st .curs [.sl .any]],.box [.st .door [.nil .macRow,.nil .macRow,.nil .half,.nil .conn,.nil .tupl]],.box [.st .door [.own 3,.own 4,.own 5,.own 6,.own 7]],.of false true,.of false true,.of false true,.of false true,.of false true]⟩ (x.2.1,({x.2.2.1 with keys.now.rows:=[],keys.before.rows:=[],halves:=[],table.conns:=[],table.waiting:=[]}:Door),x.2.2.2,()))⟩
theorem s_l26Door_L0_s:LS Tryz.prog s_l26Door_x [0] (leC 0 s_l26Door_L0_h s_l26Door_L0_d):=loopC st (orcOf_ok s_l26Door_o) _ s_l26Door_L0_d [] trivial (by kernel_rfl) (fun _=>by kernel_rfl) fun _ _ _ _ _ _=>by kernel_rfl
theorem s_l26Door_L0_k {v0 v1:Int}{v2:Curs}{v3 v4:Door}(h0:0≤v1)(h1:v0≤4611686018427387904)(h2:sm_curs v2∧sm_door v3∧sm_door v4):(s_l26Door_L0_d (v0,v1,v2,v3,v4,())).U v0 (fun v1 a=>sm_curs a.1∧sm_door a.2.1∧sm_door a.2.2) (fun _=>True):=
 LC.okU (i:=v1) (a:=(v2,v3,v4)) (fun _ _=>rfl) (fun _=>rfl) rfl h0 h1 h2 fun v1 (v2,v3,v4) hj hk hv=>by
  refine Tr.C ?_ fun _ _ _=>Tr.C ?_ fun _ _ _=>Tr.V fun _ _=>Tr.C ?_ fun _ _ _=>Tr.I (fun _=>Tr.Rn ?_) fun _=>Tr.C ?_ fun _ _ _=>Tr.I (fun _=>Tr.C ?_ fun _ _ _=>Tr.I (fun _=>Tr.G1 ?_ fun _=>Tr.C ?_ fun _ _ _=>Tr.C ?_ fun _ _ _=>Tr.Rn ?_) fun _=>Tr.Rn ?_) fun _=>Tr.Rn ?_
  all_goals (grind)
noncomputable def s_l26Door:FT (Curs×Unit) (Door×Curs) (fun x=>sm_curs x.1) (fun x v=>sm_door v.1∧sm_curs v.2):=⟨fun(y0,_)=>
  .cal s_l1Below.c (y0,99,()) fun c1=>
  .cal s_l26Keys.c (c1.2,()) fun c2=>
  .cal s_l25Limits.c (c2.2,()) fun c3=>
  .cal s_l1Below.c (c3.2,6,()) fun c4=>
  .lp (s_l26Door_L0_d (c4.1,0,c4.2,(⟨0,0,⟨0,⟨false,0,0,[]⟩,⟨false,0,0,[]⟩,false⟩,⟨0,0,0,0⟩,[],⟨[],[]⟩,0⟩:Door),(⟨80,c1.1,c2.1,c3.1,[],⟨[],[]⟩,0⟩:Door),())).lp fun(_,a21_0,_,a21_2)=>
  .ret (a21_2,a21_0),
 fun(y0,_) hp=>by
  refine Tr.C ?_ fun _ _ _=>Tr.C ?_ fun _ _ _=>Tr.C ?_ fun _ _ _=>Tr.C ?_ fun _ _ _=>Tr.L (s_l26Door_L0_k ?_ ?_ ?_) (fun(a21_0,a21_1,a21_2) _=>Tr.R ?_) (fun p=>Empty.elim p)
  all_goals ((try simp only[s_l26Door_L0_d,LC.lp,LC.ct,Ct.lp]at*)<;>grind)⟩
noncomputable def s_l26Door_e:=entM st s_l26Door_x s_l26Door_o [(leC 0 s_l26Door_L0_h s_l26Door_L0_d)] [.wr false [.ptr 0]] [.box [.st .curs]] (fun x y=>(y.1.1,())) s_l26Door (fun v=>[(true,q_door (.o true) (.o true) (.o true) (.o true) (.o true) v.1)]) (fun x y v=>((v.2,()),())) Tryz.func204 (by kernel_rfl) ⟨s_l26Door_L0_s,trivial⟩ fun _ _=>by kernel_rfl
noncomputable def s_l28Stack:FT (Curs×Unit) (Stac×Curs) (fun x=>sm_curs x.1) (fun x v=>sm_stac v.1∧sm_curs v.2):=⟨fun(y0,_)=>
  .cal s_l15Cache.c (y0,()) fun c1=>
  .cal s_l26Door.c (c1.2,()) fun c2=>
  .cal s_Learned.c (c1.1,167772162,12,()) fun c3=>
  .ret ((⟨⟨11,167772161,c3⟩,c2.1⟩:Stac),c2.2),
 fun(y0,_) hp=>by
  refine Tr.C ?_ fun _ _ _=>Tr.C ?_ fun _ _ _=>Tr.C ?_ fun _ _ _=>Tr.R ?_
  all_goals (grind)⟩
noncomputable def s_l28Stack_e:=entM st ⟨177,Tryz.f177,[],1⟩ [s_l15Cache_e,s_l26Door_e,s_Learned_e] [] [.wr false [.ptr 0]] [.box [.st .curs]] (fun x y=>(y.1.1,())) s_l28Stack (fun v=>[(true,q_stac (.o true) (.o true) (.o true) (.o true) (.o true) (.o true) v.1)]) (fun x y v=>((v.2,()),())) Tryz.func177 (by kernel_rfl) trivial fun _ _=>by kernel_rfl
noncomputable def s_l2Word:FT (Curs×Unit) (Int×Curs) (fun x=>sm_curs x.1) (fun x v=>sm_curs v.2):=⟨fun(y0,_)=>
  .cal s_l1Below.c (y0,3,()) fun c1=>
  .ite (c1.1==0) (.cal s_l1Whole.c (c1.2,()) fun c2=>
   .ret (c2.1,c2.2))<|
  .ite (c1.1==1) (.cal s_l1PickInt.c (c1.2,[0,1,255,256,65535,65536,16777215,4294967295,4294967296,281474976710655,281474976710656],()) fun c3=>
   .ret (c3.1,c3.2))<|
  .cal s_l1Below.c (c1.2,65536,()) fun c4=>
  .ret (c4.1,c4.2),
 fun(y0,_) hp=>by
  refine Tr.C ?_ fun _ _ _=>Tr.I (fun _=>Tr.C ?_ fun _ _ _=>Tr.R ?_) fun _=>Tr.I (fun _=>Tr.C ?_ fun _ _ _=>Tr.R ?_) fun _=>Tr.C ?_ fun _ _ _=>Tr.R ?_
  all_goals (first|grind|(simp only[sS,List.length_cons,List.length_nil];grind))⟩
noncomputable def s_l2Word_e:=entM st ⟨205,Tryz.f205,[],1⟩ [s_l1Below_e,s_l1Whole_e,s_l1PickInt_e] [] [.wr false [.ptr 0]] [.box [.st .curs]] (fun x y=>(y.1.1,())) s_l2Word (fun v=>[(false,[.c (.int .i64 v.1)])]) (fun x y v=>((v.2,()),())) Tryz.func205 (by kernel_rfl) trivial fun _ _=>by kernel_rfl
noncomputable def s_l16Link:FT (Curs×Unit) (Link×Curs) (fun x=>sm_curs x.1) (fun x v=>sm_link v.1∧sm_curs v.2):=⟨fun(y0,_)=>
  .cal s_l15Cache.c (y0,()) fun c1=>
  .ret ((⟨11,167772161,c1.1⟩:Link),c1.2),
 fun(y0,_) hp=>by
  refine Tr.C ?_ fun _ _ _=>Tr.R ?_
  all_goals (grind)⟩
noncomputable def s_l16Link_e:=entM st ⟨248,Tryz.f248,[],1⟩ [s_l15Cache_e] [] [.wr false [.ptr 0]] [.box [.st .curs]] (fun x y=>(y.1.1,())) s_l16Link (fun v=>[(true,q_link (.o true) v.1)]) (fun x y v=>((v.2,()),())) Tryz.func248 (by kernel_rfl) trivial fun _ _=>by kernel_rfl
noncomputable def s_l15Bent_o:List (Ent1 Tryz.prog):=[s_l15Cache_e,s_l1Below_e,s_l2Word_e,s_l1PickInt_e]
def s_l15Bent_L0_h:Sh:=⟨[(0,false,[.ptr 0 0]),(3,false,[.own 1])],[.box [.st .curs [.sl .any]],.arr .entr false true]⟩
noncomputable def s_l15Bent_x:Fx:=⟨249,Tryz.f249,[(1,la ⟨[0,3],[],false,1⟩ ⟨[2,3],[],false,1⟩)],1⟩
noncomputable def s_l15Bent_L0_T (a:Curs×List Entr):Tr (Stp (Curs×List Entr) ((Curs×List Entr))):=
 .cal s_l1Below.c (a.1,2,()) fun c6=>
 .ite (decide ((a.2.length:Int)<(IntKind.wrap .i64 (4+c6.1)))) (.cal s_l1Below.c (c6.2,10,()) fun c7=>
  .grd (Nat.ble ((2*(a.2.length+1)+1024)*24) maxSl)<|
  .ret (.next (c7.2,(a.2++[(⟨(a.2.length:Int),0,c7.1⟩:Entr)]))))<|
 .ret (.out (c6.2,a.2))
noncomputable def s_l15Bent_L0_d:s_l15Bent_L0_h.V→LW s_l15Bent_L0_h (Curs×List Entr) ((Curs×List Entr)):=fun(v0,v1,_)=>⟨(v0,v1),fun a=>(a.1,a.2,()),s_l15Bent_L0_T,Int.toNat (6-(v1.length:Int)),fun _ k p=>k (.exit 1) (Sh.enc ⟨[(2,false,[.undef]),(3,false,[.own 1])],[.box [.st .curs [.sl .any]],.arr .entr false true]⟩ (p.1,p.2,()))⟩
theorem s_l15Bent_L0_s:LS Tryz.prog s_l15Bent_x [0] (leW 1 s_l15Bent_L0_h s_l15Bent_L0_d):=loopW st (orcOf_ok s_l15Bent_o) _ s_l15Bent_L0_d [] trivial (by kernel_rfl) (fun _=>by kernel_rfl) fun _ _ _ _ _=>by kernel_rfl
theorem s_l15Bent_L0_k {v0:Curs}{v1:List Entr}(h0:sm_curs v0∧sS v1∧v1.length≤8):(s_l15Bent_L0_d (v0,v1,())).W (fun p=>sm_curs p.1∧sS p.2):=
 LW.okW (a:=(v0,v1)) (fun a=>sm_curs a.1∧sS a.2∧a.2.length≤8) (fun a=>Int.toNat (6-(a.2.length:Int))) rfl h0 fun(v0,v1) hv=>by
  refine Tr.C ?_ fun _ _ _=>Tr.I (fun _=>Tr.C ?_ fun _ _ _=>Tr.Gb ?_ fun _=>Tr.Rn ?_) fun _=>Tr.Ro ?_
  all_goals (grind)
noncomputable def s_l15Bent:FT (Curs×Unit) (List Entr×Curs) (fun x=>sm_curs x.1) (fun x v=>sS v.1∧sm_curs v.2):=⟨fun(y0,_)=>
  .cal s_l15Cache.c (y0,()) fun c1=>
  .cal s_l1Below.c (c1.2,8,()) fun c2=>
  .ite (c2.1==0) (.cal s_l2Word.c (c2.2,()) fun c3=>
   .cal s_l2Word.c (c3.2,()) fun c4=>
   .cal s_l1PickInt.c (c4.2,[0,9,10,(-1)],()) fun c5=>
   .grd (Nat.ble ((2*(c1.1.length+1)+1024)*24) maxSl)<|
   .ret ((c1.1++[(⟨c3.1,c4.1,c5.1⟩:Entr)]),c5.2))<|
  .ite (c2.1==1) (.lp (s_l15Bent_L0_d (c2.2,c1.1,())).lp fun(p8a0,p8a1)=>
   .ret (p8a1,p8a0))<|
  .ret (c1.1,c2.2),
 fun(y0,_) hp=>by
  refine Tr.C ?_ fun _ _ _=>Tr.C ?_ fun _ _ _=>Tr.I (fun _=>Tr.C ?_ fun _ _ _=>Tr.C ?_ fun _ _ _=>Tr.C ?_ fun _ _ _=>Tr.Gb ?_ fun _=>Tr.R ?_) fun _=>Tr.I (fun _=>Tr.L (s_l15Bent_L0_k ?_) (fun a=>Empty.elim a) (fun(p8a0,p8a1) _=>Tr.R ?_)) fun _=>Tr.R ?_
  all_goals ((try simp only[s_l15Bent_L0_d,LW.lp,LW.cw,Cw.lp]at*)<;>grind)⟩
noncomputable def s_l15Bent_e:=entM st s_l15Bent_x s_l15Bent_o [(leW 1 s_l15Bent_L0_h s_l15Bent_L0_d)] [.wr false [.ptr 0]] [.box [.st .curs]] (fun x y=>(y.1.1,())) s_l15Bent (fun v=>[(false,[sc (.o true) .entr v.1])]) (fun x y v=>((v.2,()),())) Tryz.func249 (by kernel_rfl) ⟨s_l15Bent_L0_s,trivial⟩ fun _ _=>by kernel_rfl
noncomputable def s_l13Keys_o:List (Ent1 Tryz.prog):=[s_l1PickInt_e,s_l10Key_e,s_KeyMac_e,s_l1Once_e,s_TableMac_e]
def s_l13Keys_J19_a:An:=⟨⟨[],[],false,1⟩,⟨[0,2,3],[],false,1⟩,⟨[],[]⟩,[(.normal,⟨[(0,false,[.ptr 0 0]),(2,false,[.ptr 1 0]),(3,false,[.ptr 2 0])],[.box [.st .curs [.sl .any]],.box [.st .keys [.nil .macRow,.nil .macRow]],.box [.st .keys [.own 3,.own 4]],.of false true,.of false true]⟩),(.normal,⟨[(0,false,[.ptr 0 0]),(2,false,[.ptr 1 0]),(3,false,[.ptr 2 0])],[.box [.st .curs [.sl .any]],.box [.st .keys [.nil .macRow,.nil .macRow]],.box [.st .keys [.own 3,.nil .macRow]],.of false true]⟩)]⟩
noncomputable def s_l13Keys_x:Fx:=⟨281,Tryz.f281,[(1000019,s_l13Keys_J19_a)],1⟩
noncomputable def s_l13Keys:FT (Curs×Unit) (Keys×Curs) (fun x=>sm_curs x.1) (fun x v=>sm_keys v.1∧sm_curs v.2):=⟨fun(y0,_)=>
  .cal s_l1PickInt.c (y0,[0,1,2,30,31,32,33,4294967295],()) fun c1=>
  .cal s_l10Key.c (c1.2,()) fun c2=>
  .cal s_l10Key.c (c2.2,()) fun c3=>
  .cal s_KeyMac.c (c2.1,c3.1,()) fun c4=>
  .ite (decide (0<c1.1)) (.cal s_l1Once.c (c3.2,2,()) fun c5=>
   .bnd (β:=WT s_l13Keys_J19_a.es) (.ite c5.1 (.cal s_l10Key.c (c5.2,()) fun c6=>
     .cal s_l10Key.c (c6.2,()) fun c7=>
     .cal s_KeyMac.c (c6.1,c7.1,()) fun c8=>
     .ret (.inl (c7.2,(⟨0,⟨false,0,0,[]⟩,⟨false,0,0,[]⟩,false⟩:Keys),(⟨c1.1,c4,c8,true⟩:Keys),())))<|
    .ret (.inr ((c5.2,(⟨0,⟨false,0,0,[]⟩,⟨false,0,0,[]⟩,false⟩:Keys),(⟨c1.1,c4,⟨false,0,0,[]⟩,false⟩:Keys),())))) fun w9=> .sum w9 (fun(u9a0,_,u9a2,_)=>
   .cal s_l1Once.c (u9a0,3,()) fun c10=>
   .ite c10.1 (.cal s_TableMac.c ([],()) fun c11=>
    .ret (({u9a2 with now.use:=c11.use,now.k:=c11.k,now.l:=c11.l,now.rows:=c11.rows}:Keys),c10.2))<|
   .ret (u9a2,c10.2))<|
   fun(u9b0,_,u9b2,_)=>
   .cal s_l1Once.c (u9b0,3,()) fun c12=>
   .ite c12.1 (.cal s_TableMac.c ([],()) fun c13=>
    .ret (({u9b2 with now.use:=c13.use,now.k:=c13.k,now.l:=c13.l,now.rows:=c13.rows,before.rows:=[]}:Keys),c12.2))<|
   .ret (({u9b2 with before.rows:=[]}:Keys),c12.2))<|
  .cal s_l1Once.c (c3.2,3,()) fun c14=>
  .ite c14.1 (.cal s_TableMac.c ([],()) fun c15=>
   .ret ((⟨c1.1,c15,⟨false,0,0,[]⟩,false⟩:Keys),c14.2))<|
  .ret ((⟨c1.1,c4,⟨false,0,0,[]⟩,false⟩:Keys),c14.2),
 fun(y0,_) hp=>by
  refine Tr.C ?_ fun _ _ _=>Tr.C ?_ fun _ _ _=>Tr.C ?_ fun _ _ _=>Tr.C trivial fun _ _ _=>Tr.I (fun _=>Tr.C ?_ fun _ _ _=>Tr.B (Q':=(Sum.elim (fun w=>sm_curs w.1∧sm_keys w.2.1∧sm_keys w.2.2.1) (fun w=>sm_curs w.1∧sm_keys w.2.1∧sm_keys w.2.2.1))) (Tr.I (fun _=>Tr.C ?_ fun _ _ _=>Tr.C ?_ fun _ _ _=>Tr.C trivial fun _ _ _=>Tr.R ?_) fun _=>Tr.R ?_) (fun _ _ q9=>Tr.E q9 (fun(u9a0,u9a1,u9a2,_) _=>Tr.C ?_ fun _ _ _=>Tr.I (fun _=>Tr.C ?_ fun _ _ _=>Tr.R ?_) fun _=>Tr.R ?_) (fun(u9b0,u9b1,u9b2,_) _=>Tr.C ?_ fun _ _ _=>Tr.I (fun _=>Tr.C ?_ fun _ _ _=>Tr.R ?_) fun _=>Tr.R ?_))) fun _=>Tr.C ?_ fun _ _ _=>Tr.I (fun _=>Tr.C ?_ fun _ _ _=>Tr.R ?_) fun _=>Tr.R ?_
  all_goals ((try simp only[Tr.nice,letK]at*)<;>first|grind|(simp only[sS,List.length_cons,List.length_nil];grind))⟩
noncomputable def s_l13Keys_e:=entM st s_l13Keys_x s_l13Keys_o [] [.wr false [.ptr 0]] [.box [.st .curs]] (fun x y=>(y.1.1,())) s_l13Keys (fun v=>[(true,q_keys (.o true) (.o true) v.1)]) (fun x y v=>((v.2,()),())) Tryz.func281 (by kernel_rfl) trivial fun _ _=>by kernel_rfl
noncomputable def s_l16Bent:FT (Curs×Unit) (Link×Curs) (fun x=>sm_curs x.1) (fun x v=>sm_link v.1∧sm_curs v.2):=⟨fun(y0,_)=>
  .cal s_l16Link.c (y0,()) fun c1=>
  .cal s_l1Below.c (c1.2,10,()) fun c2=>
  .ite (c2.1==0) (.cal s_l2Word.c (c2.2,()) fun c3=>
   .ret (({c1.1 with mac:=c3.1}:Link),c3.2))<|
  .ite (c2.1==1) (.cal s_l2Word.c (c2.2,()) fun c4=>
   .ret (({c1.1 with ip:=c4.1}:Link),c4.2))<|
  .ite (c2.1==2) (.cal s_l15Bent.c (c2.2,()) fun c5=>
   .ret (({c1.1 with cache:=c5.1}:Link),c5.2))<|
  .ite (c2.1==3) (.ret (({c1.1 with mac:=281474976710655}:Link),c2.2))<|
  .ret (c1.1,c2.2),
 fun(y0,_) hp=>by
  refine Tr.C ?_ fun _ _ _=>Tr.C ?_ fun _ _ _=>Tr.I (fun _=>Tr.C ?_ fun _ _ _=>Tr.R ?_) fun _=>Tr.I (fun _=>Tr.C ?_ fun _ _ _=>Tr.R ?_) fun _=>Tr.I (fun _=>Tr.C ?_ fun _ _ _=>Tr.R ?_) fun _=>Tr.I (fun _=>Tr.R ?_) fun _=>Tr.R ?_
  all_goals (grind)⟩
noncomputable def s_l16Bent_e:=entM st ⟨178,Tryz.f178,[],1⟩ [s_l16Link_e,s_l1Below_e,s_l2Word_e,s_l15Bent_e] [] [.wr false [.ptr 0]] [.box [.st .curs]] (fun x y=>(y.1.1,())) s_l16Bent (fun v=>[(true,q_link (.o true) v.1)]) (fun x y v=>((v.2,()),())) Tryz.func178 (by kernel_rfl) trivial fun _ _=>by kernel_rfl
noncomputable def s_l1Pick:FT (Curs×List Bytes×Unit) (Bytes×Curs) (fun x=>sm_curs x.1∧sL sS x.2.1∧0<x.2.1.length) (fun x v=>sS v.1∧sm_curs v.2):=⟨fun(y0,x1,_)=>
  .cal s_l1Below.c (y0,(x1.length:Int),()) fun c1=>
  .grd ((decide (0≤c1.1))&&(decide (c1.1<(x1.length:Int))))<|
  .ret ((x1.getD c1.1.toNat []),c1.2),
 fun(y0,x1,_) hp=>by
  refine Tr.C ?_ fun _ _ _=>Tr.G2 ?_ fun _=>Tr.R ?_
  all_goals (grind)⟩
noncomputable def s_l1Pick_e:=entM st ⟨336,Tryz.f336,[],1⟩ [s_l1Below_e] [] [.wr false [.ptr 0],.sc (.sl .str)] [.box [.st .curs]] (fun x y=>(y.1.1,x.2.1,())) s_l1Pick (fun v=>[(false,[.c (.str v.1)])]) (fun x y v=>((v.2,()),())) Tryz.func336 (by kernel_rfl) trivial fun _ _=>by kernel_rfl
noncomputable def s_l11Rows_o:List (Ent1 Tryz.prog):=[s_l1Below_e,s_l1Pick_e,s_l1PickInt_e,s_l1Once_e,s_l1Whole_e]
def s_l11Rows_L0_h:Sh:=⟨[(0,false,[.ptr 0 0]),(3,false,[.own 1]),(4,false,[.int .i64]),(5,false,[.int .i64])],[.box [.st .curs [.sl .any]],.arr .macRow false true]⟩
noncomputable def s_l11Rows_x:Fx:=⟨321,Tryz.f321,[(0,la ⟨[0,3,4,5],[],false,1⟩ ⟨[0,2,3,4],[],false,1⟩)],1⟩
noncomputable def s_l11Rows_L0_T (v1:Int)(a:Curs×List MacRow):Tr (Stp (Curs×List MacRow) (Empty)):=
 .cal s_l1Pick.c (a.1,[[],[97],[98],[99,100],[97]],()) fun c2=>
 .cal s_l1Below.c (c2.2,16777216,()) fun c3=>
 .cal s_l1PickInt.c (c3.2,[0,1,5,16777215,c3.1],()) fun c4=>
 .grd (Nat.ble ((2*(a.2.length+1)+1024)*24) maxSl)<|
 .ret (.next (c4.2,(a.2++[(⟨c2.1,c4.1⟩:MacRow)])))
noncomputable def s_l11Rows_L0_d:s_l11Rows_L0_h.V→LC s_l11Rows_L0_h (Curs×List MacRow) (Empty) (Int×(Curs×List MacRow)):=fun(v0,v1,v2,v3,_)=>⟨v1,(v2,v3),fun v1 a=>(v0,v1,a.1,a.2,()),fun v1 _=>(decide (v1<v0)),s_l11Rows_L0_T,up,1,(Int.toNat (v0-v1)),(fun p=>Empty.elim p),fun i a=>(i,a),fun _ k x=>k (.exit 0) (Sh.enc ⟨[(0,false,[.ptr 0 0]),(2,false,[.undef]),(3,false,[.own 1]),(4,false,[.int .i64])],[.box [.st .curs [.sl .any]],.arr .macRow false true]⟩ (v0,x.2.1,x.2.2,()))⟩
theorem s_l11Rows_L0_s:LS Tryz.prog s_l11Rows_x [0] (leC 0 s_l11Rows_L0_h s_l11Rows_L0_d):=loopC st (orcOf_ok s_l11Rows_o) _ s_l11Rows_L0_d [] trivial (by kernel_rfl) (fun _=>by kernel_rfl) fun _ _ _ _ _ _=>by kernel_rfl
theorem s_l11Rows_L0_k {v0 v1:Int}{v2:Curs}{v3:List MacRow}(h0:0≤v1)(h1:v0≤4611686018427387904)(h2:v0≤4294967296)(h3:sm_curs v2∧(v3.length:Int)=v1∧smE sm_macRow v3):(s_l11Rows_L0_d (v0,v1,v2,v3,())).U v0 (fun v1 a=>sm_curs a.1∧(a.2.length:Int)=v1∧smE sm_macRow a.2) (fun _=>True):=
 LC.okU (i:=v1) (a:=(v2,v3)) (fun _ _=>rfl) (fun _=>rfl) rfl h0 h1 h3 fun v1 (v2,v3) hj hk hv=>by
  refine Tr.C ?_ fun _ _ _=>Tr.C ?_ fun _ _ _=>Tr.C ?_ fun _ _ _=>Tr.Gb ?_ fun _=>Tr.Rn ?_
  all_goals (grind)
noncomputable def s_l11Rows:FT (Curs×Unit) (List MacRow×Curs) (fun x=>sm_curs x.1) (fun x v=>sL sm_macRow v.1∧sm_curs v.2):=⟨fun(y0,_)=>
  .cal s_l1Below.c (y0,5,()) fun c1=>
  .lp (s_l11Rows_L0_d (c1.1,0,c1.2,[],())).lp fun(_,a5_0,a5_1)=>
  .ite (decide (0<c1.1)) (.cal s_l1Once.c (a5_0,6,()) fun c6=>
   .ite c6.1 (.cal s_l1Whole.c (c6.2,()) fun c7=>
    .grd (decide (0<(a5_1.length:Int)))<|
    .ret ((a5_1.set 0 (⟨(a5_1.getD 0 (Ty.zero .macRow)).input,c7.1⟩:MacRow)),c7.2))<|
   .ret (a5_1,c6.2))<|
  .ret (a5_1,a5_0),
 fun(y0,_) hp=>by
  refine Tr.C ?_ fun _ _ _=>Tr.L (s_l11Rows_L0_k ?_ ?_ ?_ ?_) (fun(a5_0,a5_1) _=>Tr.I (fun _=>Tr.C ?_ fun _ _ _=>Tr.I (fun _=>Tr.C ?_ fun _ _ _=>Tr.G1 ?_ fun _=>Tr.R ?_) fun _=>Tr.R ?_) fun _=>Tr.R ?_) (fun p=>Empty.elim p)
  all_goals ((try simp only[s_l11Rows_L0_d,LC.lp,LC.ct,Ct.lp]at*)<;>grind)⟩
noncomputable def s_l11Rows_e:=entM st s_l11Rows_x s_l11Rows_o [(leC 0 s_l11Rows_L0_h s_l11Rows_L0_d)] [.wr false [.ptr 0]] [.box [.st .curs]] (fun x y=>(y.1.1,())) s_l11Rows (fun v=>[(false,[sc (.o true) .macRow v.1])]) (fun x y v=>((v.2,()),())) Tryz.func321 (by kernel_rfl) ⟨s_l11Rows_L0_s,trivial⟩ fun _ _=>by kernel_rfl
noncomputable def s_l11Mac:FT (Curs×Unit) (Mac×Curs) (fun x=>sm_curs x.1) (fun x v=>sm_mac v.1∧sm_curs v.2):=⟨fun(y0,_)=>
  .cal s_l1Once.c (y0,2,()) fun c1=>
  .ite c1.1 (.cal s_l11Rows.c (c1.2,()) fun c2=>
   .cal s_TableMac.c (c2.1,()) fun c3=>
   .ret (c3,c2.2))<|
  .cal s_l10Key.c (c1.2,()) fun c4=>
  .cal s_l10Key.c (c4.2,()) fun c5=>
  .cal s_KeyMac.c (c4.1,c5.1,()) fun c6=>
  .cal s_l1Below.c (c5.2,10,()) fun c7=>
  .ite (c7.1==0) (.ret (({c6 with use:=true}:Mac),c7.2))<|
  .ite (c7.1==1) (.cal s_l11Rows.c (c7.2,()) fun c8=>
   .ret (({c6 with rows:=c8.1}:Mac),c8.2))<|
  .ret (c6,c7.2),
 fun(y0,_) hp=>by
  refine Tr.C ?_ fun _ _ _=>Tr.I (fun _=>Tr.C ?_ fun _ _ _=>Tr.C ?_ fun _ _ _=>Tr.R ?_) fun _=>Tr.C ?_ fun _ _ _=>Tr.C ?_ fun _ _ _=>Tr.C trivial fun _ _ _=>Tr.C ?_ fun _ _ _=>Tr.I (fun _=>Tr.R ?_) fun _=>Tr.I (fun _=>Tr.C ?_ fun _ _ _=>Tr.R ?_) fun _=>Tr.R ?_
  all_goals (grind)⟩
noncomputable def s_l11Mac_e:=entM st ⟨282,Tryz.f282,[],1⟩ [s_l1Once_e,s_l11Rows_e,s_TableMac_e,s_l10Key_e,s_KeyMac_e,s_l1Below_e] [] [.wr false [.ptr 0]] [.box [.st .curs]] (fun x y=>(y.1.1,())) s_l11Mac (fun v=>[(true,q_mac (.o true) v.1)]) (fun x y v=>((v.2,()),())) Tryz.func282 (by kernel_rfl) trivial fun _ _=>by kernel_rfl
noncomputable def s_l13Bent:FT (Curs×Unit) (Keys×Curs) (fun x=>sm_curs x.1) (fun x v=>sm_keys v.1∧sm_curs v.2):=⟨fun(y0,_)=>
  .cal s_l13Keys.c (y0,()) fun c1=>
  .cal s_l1Below.c (c1.2,10,()) fun c2=>
  .ite (c2.1==0) (.cal s_l1PickInt.c (c2.2,[(-1),0,4294967296],()) fun c3=>
   .ret (({c1.1 with epoch:=c3.1}:Keys),c3.2))<|
  .ite (c2.1==1) (.ret (({c1.1 with two:=(!c1.1.two)}:Keys),c2.2))<|
  .ite (c2.1==2) (.cal s_l11Mac.c (c2.2,()) fun c4=>
   .ret (({c1.1 with now.use:=c4.1.use,now.k:=c4.1.k,now.l:=c4.1.l,now.rows:=c4.1.rows}:Keys),c4.2))<|
  .ite (c2.1==3) (.cal s_l11Mac.c (c2.2,()) fun c5=>
   .ret (({c1.1 with before.use:=c5.1.use,before.k:=c5.1.k,before.l:=c5.1.l,before.rows:=c5.1.rows}:Keys),c5.2))<|
  .ret (c1.1,c2.2),
 fun(y0,_) hp=>by
  refine Tr.C ?_ fun _ _ _=>Tr.C ?_ fun _ _ _=>Tr.I (fun _=>Tr.C ?_ fun _ _ _=>Tr.R ?_) fun _=>Tr.I (fun _=>Tr.R ?_) fun _=>Tr.I (fun _=>Tr.C ?_ fun _ _ _=>Tr.R ?_) fun _=>Tr.I (fun _=>Tr.C ?_ fun _ _ _=>Tr.R ?_) fun _=>Tr.R ?_
  all_goals (grind)⟩
noncomputable def s_l13Bent_e:=entM st ⟨206,Tryz.f206,[],1⟩ [s_l13Keys_e,s_l1Below_e,s_l1PickInt_e,s_l11Mac_e] [] [.wr false [.ptr 0]] [.box [.st .curs]] (fun x y=>(y.1.1,())) s_l13Bent (fun v=>[(true,q_keys (.o true) (.o true) v.1)]) (fun x y v=>((v.2,()),())) Tryz.func206 (by kernel_rfl) trivial fun _ _=>by kernel_rfl
noncomputable def s_l6Ip:FT (Curs×Unit) (Int×Curs) (fun x=>sm_curs x.1) (fun x v=>sm_curs v.2):=⟨fun(y0,_)=>
  .cal s_l1PickInt.c (y0,[167772161,167772162,167772163,0,4294967295],()) fun c1=>
  .ret (c1.1,c1.2),
 fun(y0,_) hp=>by
  refine Tr.C ?_ fun _ _ _=>Tr.R ?_
  all_goals (grind)⟩
noncomputable def s_l6Ip_e:=entM st ⟨287,Tryz.f287,[],1⟩ [s_l1PickInt_e] [] [.wr false [.ptr 0]] [.box [.st .curs]] (fun x y=>(y.1.1,())) s_l6Ip (fun v=>[(false,[.c (.int .i64 v.1)])]) (fun x y v=>((v.2,()),())) Tryz.func287 (by kernel_rfl) trivial fun _ _=>by kernel_rfl
noncomputable def s_l12Tuple:FT (Curs×Unit) (Tupl×Curs) (fun x=>sm_curs x.1) (fun x v=>sm_curs v.2):=⟨fun(y0,_)=>
  .cal s_l6Ip.c (y0,()) fun c1=>
  .cal s_l1PickInt.c (c1.2,[40000,40001,40002],()) fun c2=>
  .ret ((⟨c1.1,c2.1,80⟩:Tupl),c2.2),
 fun(y0,_) hp=>by
  refine Tr.C ?_ fun _ _ _=>Tr.C ?_ fun _ _ _=>Tr.R ?_
  all_goals (grind)⟩
noncomputable def s_l12Tuple_e:=entM st ⟨214,Tryz.f214,[],1⟩ [s_l6Ip_e,s_l1PickInt_e] [] [.wr false [.ptr 0]] [.box [.st .curs]] (fun x y=>(y.1.1,())) s_l12Tuple (fun v=>[(true,q_tupl v.1)]) (fun x y v=>((v.2,()),())) Tryz.func214 (by kernel_rfl) trivial fun _ _=>by kernel_rfl
noncomputable def s_l24Half:FT (Curs×Unit) (Half×Curs) (fun x=>sm_curs x.1) (fun x v=>sm_curs v.2):=⟨fun(y0,_)=>
  .cal s_l12Tuple.c (y0,()) fun c1=>
  .cal s_l2Deep.c (c1.2,()) fun c2=>
  .cal s_l2Deep.c (c2.2,()) fun c3=>
  .cal s_l8Options.c (c3.2,()) fun c4=>
  .cal s_l1Below.c (c4.2,7,()) fun c5=>
  .cal s_l1PickInt.c (c5.2,[0,64,65535],()) fun c6=>
  .ret ((⟨c1.1,c2.1,c3.1,c4.1,c5.1,c6.1⟩:Half),c6.2),
 fun(y0,_) hp=>by
  refine Tr.C ?_ fun _ _ _=>Tr.C ?_ fun _ _ _=>Tr.C ?_ fun _ _ _=>Tr.C ?_ fun _ _ _=>Tr.C ?_ fun _ _ _=>Tr.C ?_ fun _ _ _=>Tr.R ?_
  all_goals (grind)⟩
noncomputable def s_l24Half_e:=entM st ⟨284,Tryz.f284,[],1⟩ [s_l12Tuple_e,s_l2Deep_e,s_l8Options_e,s_l1Below_e,s_l1PickInt_e] [] [.wr false [.ptr 0]] [.box [.st .curs]] (fun x y=>(y.1.1,())) s_l24Half (fun v=>[(true,q_half v.1)]) (fun x y v=>((v.2,()),())) Tryz.func284 (by kernel_rfl) trivial fun _ _=>by kernel_rfl
noncomputable def s_l24List_o:List (Ent1 Tryz.prog):=[s_l1Below_e,s_l24Half_e,s_PutHalf_e]
def s_l24List_L0_h:Sh:=⟨[(0,false,[.ptr 0 0]),(3,false,[.own 1]),(4,false,[.int .i64]),(5,false,[.int .i64])],[.box [.st .curs [.sl .any]],.arr .half false true]⟩
noncomputable def s_l24List_x:Fx:=⟨283,Tryz.f283,[(0,la ⟨[0,3,4,5],[],false,1⟩ ⟨[2,3],[],false,1⟩)],1⟩
noncomputable def s_l24List_L0_T (v1:Int)(a:Curs×List Half):Tr (Stp (Curs×List Half) (Empty)):=
 .cal s_l24Half.c (a.1,()) fun c2=>
 .cal s_PutHalf.c (a.2,c2.1,64,()) fun c3=>
 .ret (.next (c2.2,c3.1))
noncomputable def s_l24List_L0_d:s_l24List_L0_h.V→LC s_l24List_L0_h (Curs×List Half) (Empty) (Int×(Curs×List Half)):=fun(v0,v1,v2,v3,_)=>⟨v1,(v2,v3),fun v1 a=>(v0,v1,a.1,a.2,()),fun v1 _=>(decide (v1<v0)),s_l24List_L0_T,up,1,(Int.toNat (v0-v1)),(fun p=>Empty.elim p),fun i a=>(i,a),fun _ k x=>k (.exit 0) (Sh.enc ⟨[(2,false,[.undef]),(3,false,[.own 1])],[.box [.st .curs [.sl .any]],.arr .half false true]⟩ (x.2.1,x.2.2,()))⟩
theorem s_l24List_L0_s:LS Tryz.prog s_l24List_x [0] (leC 0 s_l24List_L0_h s_l24List_L0_d):=loopC st (orcOf_ok s_l24List_o) _ s_l24List_L0_d [] trivial (by kernel_rfl) (fun _=>by kernel_rfl) fun _ _ _ _ _ _=>by kernel_rfl
theorem s_l24List_L0_k {v0 v1:Int}{v2:Curs}{v3:List Half}(h0:0≤v1)(h1:v0≤4611686018427387904)(h2:sm_curs v2∧sS v3∧(v3.length:Int)≤v1):(s_l24List_L0_d (v0,v1,v2,v3,())).U v0 (fun v1 a=>sm_curs a.1∧sS a.2∧(a.2.length:Int)≤v1) (fun _=>True):=
 LC.okU (i:=v1) (a:=(v2,v3)) (fun _ _=>rfl) (fun _=>rfl) rfl h0 h1 h2 fun v1 (v2,v3) hj hk hv=>by
  refine Tr.C ?_ fun _ _ _=>Tr.C ?_ fun _ _ _=>Tr.Rn ?_
  all_goals (grind)
noncomputable def s_l24List:FT (Curs×Unit) (List Half×Curs) (fun x=>sm_curs x.1) (fun x v=>sS v.1∧sm_curs v.2∧(v.1.length:Int)≤5):=⟨fun(y0,_)=>
  .cal s_l1Below.c (y0,5,()) fun c1=>
  .lp (s_l24List_L0_d (c1.1,0,c1.2,[],())).lp fun(_,a4_0,a4_1)=>
  .ret (a4_1,a4_0),
 fun(y0,_) hp=>by
  refine Tr.C ?_ fun _ _ _=>Tr.L (s_l24List_L0_k ?_ ?_ ?_) (fun(a4_0,a4_1) _=>Tr.R ?_) (fun p=>Empty.elim p)
  all_goals ((try simp only[s_l24List_L0_d,LC.lp,LC.ct,Ct.lp]at*)<;>grind)⟩
noncomputable def s_l24List_e:=entM st s_l24List_x s_l24List_o [(leC 0 s_l24List_L0_h s_l24List_L0_d)] [.wr false [.ptr 0]] [.box [.st .curs]] (fun x y=>(y.1.1,())) s_l24List (fun v=>[(false,[sc (.o true) .half v.1])]) (fun x y v=>((v.2,()),())) Tryz.func283 (by kernel_rfl) ⟨s_l24List_L0_s,trivial⟩ fun _ _=>by kernel_rfl
noncomputable def s_l12Bent:FT (Curs×Unit) (Tupl×Curs) (fun x=>sm_curs x.1) (fun x v=>sm_curs v.2):=⟨fun(y0,_)=>
  .cal s_l12Tuple.c (y0,()) fun c1=>
  .cal s_l1Below.c (c1.2,10,()) fun c2=>
  .ite (c2.1==0) (.cal s_l2Word.c (c2.2,()) fun c3=>
   .ret (({c1.1 with ip:=c3.1}:Tupl),c3.2))<|
  .ite (c2.1==1) (.cal s_l2Word.c (c2.2,()) fun c4=>
   .ret (({c1.1 with port:=c4.1}:Tupl),c4.2))<|
  .ite (c2.1==2) (.cal s_l2Word.c (c2.2,()) fun c5=>
   .ret (({c1.1 with my:=c5.1}:Tupl),c5.2))<|
  .ret (c1.1,c2.2),
 fun(y0,_) hp=>by
  refine Tr.C ?_ fun _ _ _=>Tr.C ?_ fun _ _ _=>Tr.I (fun _=>Tr.C ?_ fun _ _ _=>Tr.R ?_) fun _=>Tr.I (fun _=>Tr.C ?_ fun _ _ _=>Tr.R ?_) fun _=>Tr.I (fun _=>Tr.C ?_ fun _ _ _=>Tr.R ?_) fun _=>Tr.R ?_
  all_goals (grind)⟩
noncomputable def s_l12Bent_e:=entM st ⟨123,Tryz.f123,[],1⟩ [s_l12Tuple_e,s_l1Below_e,s_l2Word_e] [] [.wr false [.ptr 0]] [.box [.st .curs]] (fun x y=>(y.1.1,())) s_l12Bent (fun v=>[(true,q_tupl v.1)]) (fun x y v=>((v.2,()),())) Tryz.func123 (by kernel_rfl) trivial fun _ _=>by kernel_rfl
noncomputable def s_l8Bent:FT (Curs×Unit) (Opti×Curs) (fun x=>sm_curs x.1) (fun x v=>sm_curs v.2):=⟨fun(y0,_)=>
  .cal s_l8Options.c (y0,()) fun c1=>
  .cal s_l1Below.c (c1.2,10,()) fun c2=>
  .ite (c2.1==0) (.cal s_l2Word.c (c2.2,()) fun c3=>
   .ret (({c1.1 with mss:=c3.1}:Opti),c3.2))<|
  .ite (c2.1==1) (.cal s_l1PickInt.c (c2.2,[(-2),(-1),14,15],()) fun c4=>
   .ret (({c1.1 with scale:=c4.1}:Opti),c4.2))<|
  .ite (c2.1==2) (.ret (({c1.1 with stamp:=(!c1.1.stamp)}:Opti),c2.2))<|
  .ite (c2.1==3) (.cal s_l2Word.c (c2.2,()) fun c5=>
   .ret (({c1.1 with val:=c5.1}:Opti),c5.2))<|
  .ret (c1.1,c2.2),
 fun(y0,_) hp=>by
  refine Tr.C ?_ fun _ _ _=>Tr.C ?_ fun _ _ _=>Tr.I (fun _=>Tr.C ?_ fun _ _ _=>Tr.R ?_) fun _=>Tr.I (fun _=>Tr.C ?_ fun _ _ _=>Tr.R ?_) fun _=>Tr.I (fun _=>Tr.R ?_) fun _=>Tr.I (fun _=>Tr.C ?_ fun _ _ _=>Tr.R ?_) fun _=>Tr.R ?_
  all_goals (grind)⟩
noncomputable def s_l8Bent_e:=entM st ⟨212,Tryz.f212,[],1⟩ [s_l8Options_e,s_l1Below_e,s_l2Word_e,s_l1PickInt_e] [] [.wr false [.ptr 0]] [.box [.st .curs]] (fun x y=>(y.1.1,())) s_l8Bent (fun v=>[(true,q_opti v.1)]) (fun x y v=>((v.2,()),())) Tryz.func212 (by kernel_rfl) trivial fun _ _=>by kernel_rfl
noncomputable def s_l24Bent:FT (Curs×Unit) (List Half×Curs) (fun x=>sm_curs x.1) (fun x v=>sS v.1∧sm_curs v.2):=⟨fun(y0,_)=>
  .cal s_l24List.c (y0,()) fun c1=>
  .cal s_l1Below.c (c1.2,8,()) fun c2=>
  .ite (c2.1==0) (.cal s_l24Half.c (c2.2,()) fun c3=>
   .cal s_l1PickInt.c (c3.2,[(-1),6,7],()) fun c4=>
   .grd (Nat.ble ((2*(c1.1.length+1)+1024)*96) maxSl)<|
   .ret ((c1.1++[({c3.1 with age:=c4.1}:Half)]),c4.2))<|
  .ite (c2.1==1) (.cal s_l24Half.c (c2.2,()) fun c5=>
   .cal s_l12Bent.c (c5.2,()) fun c6=>
   .cal s_l2Word.c (c6.2,()) fun c7=>
   .grd (Nat.ble ((2*(c1.1.length+1)+1024)*96) maxSl)<|
   .val (c1.1++[({c5.1 with tuple.ip:=c6.1.ip,tuple.port:=c6.1.port,tuple.my:=c6.1.my,iss:=c7.1}:Half)]) fun l8=>
   .ret (l8,c7.2))<|
  .ite (c2.1==2) (.cal s_l24Half.c (c2.2,()) fun c9=>
   .cal s_l8Bent.c (c9.2,()) fun c10=>
   .grd (Nat.ble ((2*(c1.1.length+1)+1024)*96) maxSl)<|
   .val (c1.1++[({c9.1 with opts.mss:=c10.1.mss,opts.scale:=c10.1.scale,opts.sack:=c10.1.sack,opts.stamp:=c10.1.stamp,opts.val:=c10.1.val,opts.echo:=c10.1.echo}:Half)]) fun l11=>
   .ret (l11,c10.2))<|
  .ret (c1.1,c2.2),
 fun(y0,_) hp=>by
  refine Tr.C ?_ fun c1 hc1 qc1=>Tr.C ?_ fun c2 hc2 qc2=>Tr.I (fun b0=>Tr.C ?_ fun c3 hc3 qc3=>Tr.C ?_ fun c4 hc4 qc4=>Tr.Gb ?_ fun g1=>Tr.R ?_) fun b0=>Tr.I (fun b1=>Tr.C ?_ fun c5 hc5 qc5=>Tr.C ?_ fun c6 hc6 qc6=>Tr.C ?_ fun c7 hc7 qc7=>Tr.Gb ?_ fun g2=>Tr.V fun l8 hl8=>Tr.R ?_) fun b1=>Tr.I (fun b2=>Tr.C ?_ fun c9 hc9 qc9=>Tr.C ?_ fun c10 hc10 qc10=>Tr.Gb ?_ fun g3=>Tr.V fun l11 hl11=>Tr.R ?_) fun b2=>Tr.R ?_
  all_goals ((first|grind|(refine⟨?_,by grind⟩;have hl:∀v:List Half×Curs,v.1.length≤5→∀h:Half,sS (v.1++[h]):=fun v hv h=>(by simp only[sS,List.length_append,List.length_cons,List.length_nil];omega);subst_vars;apply hl;grind)))⟩
noncomputable def s_l24Bent_e:=entM st ⟨207,Tryz.f207,[],1⟩ [s_l24List_e,s_l1Below_e,s_l24Half_e,s_l1PickInt_e,s_l12Bent_e,s_l2Word_e,s_l8Bent_e] [] [.wr false [.ptr 0]] [.box [.st .curs]] (fun x y=>(y.1.1,())) s_l24Bent (fun v=>[(false,[sc (.o true) .half v.1])]) (fun x y v=>((v.2,()),())) Tryz.func207 (by kernel_rfl) trivial fun _ _=>by kernel_rfl
noncomputable def s_l18Stream_o:List (Ent1 Tryz.prog):=[s_l1Below_e,s_l4Rest_e,s_l1Once_e,s_l1Bytes_e,s_SeqAdd_e]
def s_l18Stream_L0_h:Sh:=⟨[(0,false,[.ptr 0 0]),(3,false,[.ptr 1 0]),(7,false,[.int .i64]),(8,false,[.int .i64]),(9,false,[.own 2]),(10,false,[.int .i64])],[.box [.st .curs [.sl .any]],.box [.st .recv [.sl .arg]],.arr .u8 false true]⟩
def s_l18Stream_J36_a:An:=⟨⟨[],[],false,1⟩,⟨[0,3,4,5,6,7,9],[],false,1⟩,⟨[],[]⟩,[(.normal,⟨[(0,false,[.ptr 0 0]),(3,false,[.ptr 1 0]),(4,false,[.undef]),(5,false,[.undef]),(6,false,[.undef]),(7,false,[.int .i64]),(9,false,[.own 2])],[.box [.st .curs [.sl .any]],.box [.st .recv [.sl .arg]],.arr .u8 false true]⟩)]⟩
noncomputable def s_l18Stream_x:Fx:=⟨243,Tryz.f243,[(0,la ⟨[0,3,7,8,9,10],[],false,1⟩ ⟨[0,3,4,5,6,7,8,9],[],false,1⟩),(1000036,s_l18Stream_J36_a)],1⟩
noncomputable def s_l18Stream_L0_T (v0:Int)(v4:Recv)(v2:Int)(a:List Int):Tr (Stp (List Int) (Empty)):=
 .val (s_l4Rest.f ((IntKind.wrap .i64 ((IntKind.wrap .i64 (v4.next+v0))+v2)),())) fun c3=>
 .grd (Nat.ble ((2*(a.length+1)+1024)*1) maxSl)<|
 .ret (.next (a++[(IntKind.wrap .u8 (IntKind.wrap .i64 (97+(c3.tmod 26))))]))
noncomputable def s_l18Stream_L0_d:s_l18Stream_L0_h.V→LC s_l18Stream_L0_h (List Int) (Empty) (Int×(List Int)):=fun(v0,v1,v2,v3,v4,v5,_)=>⟨v2,v5,fun v2 a=>(v0,v1,v2,v3,v4,a,()),fun v2 _=>(decide (v2<v1)),s_l18Stream_L0_T v0 v4,up,1,(Int.toNat (v1-v2)),(fun p=>Empty.elim p),fun i a=>(i,a),fun _ k x=>k (.exit 0) (Sh.enc ⟨[(0,false,[.ptr 0 0]),(3,false,[.ptr 1 0]),(4,false,[.undef]),(5,false,[.undef]),(6,false,[.undef]),(7,false,[.int .i64]),(8,false,[.int .i64]),(9,false,[.own 2])],[.box [.st .curs [.sl .any]],.box [.st .recv [.sl .arg]],.arr .u8 false true]⟩ (v0,v1,v3,v4,x.2,()))⟩
theorem s_l18Stream_L0_s:LS Tryz.prog s_l18Stream_x [0] (leC 0 s_l18Stream_L0_h s_l18Stream_L0_d):=loopC st (orcOf_ok s_l18Stream_o) _ s_l18Stream_L0_d [] trivial (by kernel_rfl) (fun _=>by kernel_rfl) fun _ _ _ _ _ _=>by kernel_rfl
theorem s_l18Stream_L0_k {v0 v1 v2:Int}{v3:Curs}{v4:Recv}{v5:List Int}(h0:0≤v2)(h1:v1≤4611686018427387904)(h2:sm_recv v4)(h3:v1≤4294967296)(h4:(v5.length:Int)=v2):(s_l18Stream_L0_d (v0,v1,v2,v3,v4,v5,())).U v1 (fun v2 a=>(a.length:Int)=v2) (fun _=>True):=
 LC.okU (i:=v2) (a:=v5) (fun _ _=>rfl) (fun _=>rfl) rfl h0 h1 h4 fun v2 v5 hj hk hv=>by
  refine Tr.V fun _ _=>Tr.Gb ?_ fun _=>Tr.Rn ?_
  all_goals (grind)
noncomputable def s_l18Stream:FT (Curs×Recv×Unit) (Int×Bytes×Bool×Curs) (fun x=>sm_curs x.1∧sm_recv x.2.1) (fun x v=>sS v.2.1∧sm_curs v.2.2.2):=⟨fun(y0,x1,_)=>
  .cal s_l1Below.c (y0,40,()) fun c1=>
  .cal s_l1Below.c (c1.2,9,()) fun c2=>
  .lp (s_l18Stream_L0_d ((IntKind.wrap .i64 (c1.1-6)),c2.1,0,c2.2,x1,[],())).lp fun(_,a4_0)=>
  .cal s_l1Once.c (c2.2,6,()) fun c5=>
  .bnd (β:=Int×Curs×Recv×List Int×Unit) (.ite c5.1 (.cal s_l1Bytes.c (c5.2,c2.1,()) fun c6=>
    .ret ((IntKind.wrap .i64 (c1.1-6)),c6.2,x1,c6.1,()))<|
   .ret ((IntKind.wrap .i64 (c1.1-6)),c5.2,x1,a4_0,())) fun(u7a0,u7a1,u7a2,u7a3,_)=>
  .val (s_SeqAdd.f (u7a2.next,u7a0,())) fun c8=>
  .cal s_l1Once.c (u7a1,6,()) fun c9=>
  .ret (c8,(toBytes u7a3),c9.1,c9.2),
 fun(y0,x1,_) hp=>by
  refine Tr.C ?_ fun _ _ _=>Tr.C ?_ fun _ _ _=>Tr.L (s_l18Stream_L0_k ?_ ?_ ?_ ?_ ?_) (fun a4_0 _=>Tr.C ?_ fun _ _ _=>Tr.B (Q':=fun w=>sm_curs w.2.1∧sm_recv w.2.2.1∧sS w.2.2.2.1) (Tr.I (fun _=>Tr.C ?_ fun _ _ _=>Tr.R ?_) fun _=>Tr.R ?_) (fun(u7a0,u7a1,u7a2,u7a3,_) _ _=>Tr.V fun _ _=>Tr.C ?_ fun _ _ _=>Tr.R ?_)) (fun p=>Empty.elim p)
  all_goals ((try simp only[s_l18Stream_L0_d,LC.lp,LC.ct,Ct.lp,Tr.nice,letK]at*)<;>grind)⟩
noncomputable def s_l18Stream_e:=entM st s_l18Stream_x s_l18Stream_o [(leC 0 s_l18Stream_L0_h s_l18Stream_L0_d)] [.wr false [.ptr 0],.st .recv] [.box [.st .curs]] (fun x y=>(y.1.1,x.2.1,())) s_l18Stream (fun v=>[(false,[.c (.int .i64 v.1)]),(false,[.c (.str v.2.1)]),(false,[.c (.bool v.2.2.1)])]) (fun x y v=>((v.2.2.2,()),())) Tryz.func243 (by kernel_rfl) ⟨s_l18Stream_L0_s,trivial⟩ fun _ _=>by kernel_rfl
noncomputable def s_l9Flags:FT (Curs×Unit) (Int×Curs) (fun x=>sm_curs x.1) (fun x v=>sm_curs v.2):=⟨fun(y0,_)=>
  .cal s_l1Below.c (y0,64,()) fun c1=>
  .cal s_l1PickInt.c (c1.2,[2,16,16,18,24,17,4,20,0,c1.1],()) fun c2=>
  .ret (c2.1,c2.2),
 fun(y0,_) hp=>by
  refine Tr.C ?_ fun _ _ _=>Tr.C ?_ fun _ _ _=>Tr.R ?_
  all_goals (first|grind|(simp only[sS,List.length_cons,List.length_nil];grind))⟩
noncomputable def s_l9Flags_e:=entM st ⟨170,Tryz.f170,[],1⟩ [s_l1Below_e,s_l1PickInt_e] [] [.wr false [.ptr 0]] [.box [.st .curs]] (fun x y=>(y.1.1,())) s_l9Flags (fun v=>[(false,[.c (.int .i64 v.1)])]) (fun x y v=>((v.2,()),())) Tryz.func170 (by kernel_rfl) trivial fun _ _=>by kernel_rfl
noncomputable def s_l19Segment_o:List (Ent1 Tryz.prog):=[s_l18Stream_e,s_l1Once_e,s_l17Flown_e,s_l1Below_e,s_SeqAdd_e,s_l1PickInt_e,s_NoOptions_e,s_l9Flags_e,s_l4Near_e,s_l4Rest_e]
def s_l19Segment_J18_a:An:=⟨⟨[],[],false,1⟩,⟨[0,3,4,5,6,7],[],false,1⟩,⟨[],[]⟩,[(.normal,⟨[(0,false,[.ptr 0 0]),(3,false,[.ptr 1 0]),(4,false,[.ptr 2 0]),(5,false,[.int .i64]),(6,false,[.str]),(7,false,[.bool])],[.box [.st .curs [.sl .any]],.box [.st .conn [.sl .arg]],.box [.st .segm []]]⟩)]⟩
def s_l19Segment_J45_a:An:=⟨⟨[],[],false,1⟩,⟨[0,3,4,8],[],false,1⟩,⟨[],[]⟩,[(.normal,⟨[(0,false,[.ptr 0 0]),(3,false,[.ptr 1 0]),(4,false,[.ptr 2 0]),(8,false,[.ptr 3 0])],[.box [.st .curs [.sl .any]],.box [.st .conn [.sl .arg]],.box [.st .segm []],.box [.st .segm []]]⟩)]⟩
def s_l19Segment_J52_a:An:=⟨⟨[],[],false,1⟩,⟨[4,8],[],false,1⟩,⟨[],[]⟩,[(.normal,⟨[(4,false,[.ptr 1 0]),(8,false,[.ptr 2 0])],[.box [.st .curs [.sl .any]],.box [.st .segm []],.box [.st .segm []]]⟩)]⟩
noncomputable def s_l19Segment_x:Fx:=⟨169,Tryz.f169,[(1000018,s_l19Segment_J18_a),(1000045,s_l19Segment_J45_a),(1000052,s_l19Segment_J52_a)],1⟩
noncomputable def s_l19Segment:FT (Curs×Conn×Unit) (Segm×Curs) (fun x=>sm_curs x.1∧sm_conn x.2.1) (fun x v=>sm_segm v.1∧sm_curs v.2):=⟨fun(y0,x1,_)=>
  .cal s_l18Stream.c (y0,x1.r,()) fun c1=>
  .cal s_l1Once.c (c1.2.2.2,2,()) fun c2=>
  .bnd (β:=Int×Bytes×Bool×Curs×Conn×Segm×Unit) (.ite c2.1 (.ret (x1.r.next,c1.2.1,c1.2.2.1,c2.2,x1,(⟨0,0,0,0,0,0,⟨0,0,false,false,0,0⟩,[]⟩:Segm),()))<|
   .ret (c1.1,c1.2.1,c1.2.2.1,c2.2,x1,(⟨0,0,0,0,0,0,⟨0,0,false,false,0,0⟩,[]⟩:Segm),())) fun(u3a0,u3a1,u3a2,u3a3,u3a4,u3a5,_)=>
  .cal s_l17Flown.c (u3a4.s,()) fun c4=>
  .cal s_l1Below.c (u3a3,(IntKind.wrap .i64 (c4+1)),()) fun c5=>
  .val (s_SeqAdd.f (u3a4.s.una,c5.1,())) fun c6=>
  .cal s_l1PickInt.c (c5.2,[0,1,8,64,65535],()) fun c7=>
  .val (s_NoOptions.f (())) fun c8=>
  .bnd (β:=Curs×Conn×Segm×Segm×Unit) (.ite u3a2 (.ret (c7.2,u3a4,u3a5,(⟨u3a4.tuple.port,u3a4.tuple.my,u3a0,c6,17,c7.1,c8,u3a1⟩:Segm),()))<|
   .ret (c7.2,u3a4,u3a5,(⟨u3a4.tuple.port,u3a4.tuple.my,u3a0,c6,16,c7.1,c8,u3a1⟩:Segm),())) fun(u9a0,u9a1,u9a2,u9a3,_)=>
  .cal s_l1Below.c (u9a0,10,()) fun c10=>
  .bnd (β:=Curs×Segm×Segm×Unit) (.ite (c10.1==0) (.cal s_l9Flags.c (c10.2,()) fun c11=>
    .ret (c11.2,u9a2,({u9a3 with flags:=c11.1}:Segm),()))<|
   .ite (c10.1==1) (.cal s_l4Near.c (c10.2,u9a1.s.una,()) fun c12=>
    .ret (c12.2,u9a2,({u9a3 with ack:=c12.1}:Segm),()))<|
   .ite (c10.1==2) (.cal s_l4Near.c (c10.2,u9a1.r.next,()) fun c13=>
    .ret (c13.2,u9a2,({u9a3 with seq:=c13.1}:Segm),()))<|
   .ite (c10.1==3) (.ret (c10.2,u9a2,({u9a3 with body:=[]}:Segm),()))<|
   .ret (c10.2,u9a2,u9a3,())) fun(u14a0,_,u14a2,_)=>
  .val (s_l4Rest.f (u14a2.seq,())) fun c15=>
  .val (s_l4Rest.f (u14a2.ack,())) fun c16=>
  .ret (({u14a2 with seq:=c15,ack:=c16}:Segm),u14a0),
 fun(y0,x1,_) hp=>by
  refine Tr.C ?_ fun _ _ _=>Tr.C ?_ fun _ _ _=>Tr.B (Q':=fun w=>sS w.2.1∧sm_curs w.2.2.2.1∧sm_conn w.2.2.2.2.1∧sm_segm w.2.2.2.2.2.1) (Tr.I (fun _=>Tr.R ?_) fun _=>Tr.R ?_) (fun(u3a0,u3a1,u3a2,u3a3,u3a4,u3a5,_) _ _=>Tr.C ?_ fun _ _ _=>Tr.C ?_ fun _ _ _=>Tr.V fun _ _=>Tr.C ?_ fun _ _ _=>Tr.V fun _ _=>Tr.B (Q':=fun w=>sm_curs w.1∧sm_conn w.2.1∧sm_segm w.2.2.1∧sm_segm w.2.2.2.1) (Tr.I (fun _=>Tr.R ?_) fun _=>Tr.R ?_) (fun(u9a0,u9a1,u9a2,u9a3,_) _ _=>Tr.C ?_ fun _ _ _=>Tr.B (Q':=fun w=>sm_curs w.1∧sm_segm w.2.1∧sm_segm w.2.2.1) (Tr.I (fun _=>Tr.C ?_ fun _ _ _=>Tr.R ?_) fun _=>Tr.I (fun _=>Tr.C ?_ fun _ _ _=>Tr.R ?_) fun _=>Tr.I (fun _=>Tr.C ?_ fun _ _ _=>Tr.R ?_) fun _=>Tr.I (fun _=>Tr.R ?_) fun _=>Tr.R ?_) (fun(u14a0,u14a1,u14a2,_) _ _=>Tr.V fun _ _=>Tr.V fun _ _=>Tr.R ?_)))
  all_goals ((try simp only[Tr.nice,letK]at*)<;>grind)⟩
noncomputable def s_l19Segment_e:=entM st s_l19Segment_x s_l19Segment_o [] [.wr false [.ptr 0],.st .conn] [.box [.st .curs]] (fun x y=>(y.1.1,x.2.1,())) s_l19Segment (fun v=>[(true,q_segm v.1)]) (fun x y v=>((v.2,()),())) Tryz.func169 (by kernel_rfl) trivial fun _ _=>by kernel_rfl
noncomputable def s_l19Conn_o:List (Ent1 Tryz.prog):=[s_l12Tuple_e,s_l2Deep_e,s_l8Options_e,s_l1PickInt_e,s_ConnNew_e,s_l1Below_e,s_l1Bytes_e,s_Write_e,s_TickConn_e,s_l1Once_e,s_Shut_e,s_ReadConn_e,s_l19Segment_e,s_Receive_e]
def s_l19Conn_L0_h:Sh:=⟨[(0,false,[.ptr 0 0]),(2,false,[.ptr 1 0]),(3,false,[.ptr 2 0]),(4,false,[.int .i64]),(5,false,[.int .i64])],[.box [.st .curs [.sl .any]],.box [.st .conn [.nil .piec]],.box [.st .conn [.own 3]],.of false true]⟩
noncomputable def s_l19Conn_x:Fx:=⟨322,Tryz.f322,[(0,la ⟨[0,2,3,4,5],[],false,1⟩ ⟨[2,3],[],false,1⟩)],1⟩
noncomputable def s_l19Conn_L0_T (v1:Int)(a:Curs×Conn×Conn):Tr (Stp (Curs×Conn×Conn) (Empty)):=
 .cal s_l1Below.c (a.1,8,()) fun c8=>
 .ite (c8.1==0) (.cal s_l1Below.c (c8.2,20,()) fun c9=>
  .cal s_l1Bytes.c (c9.2,c9.1,()) fun c10=>
  .cal s_Write.c (a.2.2,(toBytes c10.1),()) fun c11=>
  .ret (.next (c10.2,({a.2.1 with r.held:=[]}:Conn),c11.1)))<|
 .ite (c8.1==1) (.cal s_TickConn.c (a.2.2,()) fun c12=>
  .ret (.next (c8.2,({a.2.1 with r.held:=[]}:Conn),c12.1)))<|
 .ite (c8.1==2) (.cal s_l1Once.c (c8.2,2,()) fun c13=>
  .ite c13.1 (.cal s_Shut.c (a.2.2,()) fun c14=>
   .ret (.next (c13.2,({a.2.1 with r.held:=[]}:Conn),c14.1)))<|
  .ret (.next (c13.2,({a.2.1 with r.held:=[]}:Conn),a.2.2)))<|
 .ite (c8.1==3) (.cal s_l1Below.c (c8.2,9,()) fun c15=>
  .cal s_ReadConn.c (a.2.2,c15.1,()) fun c16=>
  .ret (.next (c15.2,({a.2.1 with r.held:=[]}:Conn),c16.1)))<|
 .cal s_l19Segment.c (c8.2,a.2.2,()) fun c17=>
 .cal s_Receive.c (a.2.2,c17.1,()) fun c18=>
 .ret (.next (c17.2,({a.2.1 with r.held:=[]}:Conn),c18.1))
noncomputable def s_l19Conn_L0_d:s_l19Conn_L0_h.V→LC s_l19Conn_L0_h (Curs×Conn×Conn) (Empty) (Int×(Curs×Conn×Conn)):=fun(v0,v1,v2,v3,v4,_)=>⟨v1,(v2,v3,v4),fun v1 a=>(v0,v1,a.1,a.2.1,a.2.2,()),fun v1 _=>(decide (v1<v0)),s_l19Conn_L0_T,up,1,(Int.toNat (v0-v1)),(fun p=>Empty.elim p),fun i a=>(i,a),fun _ k x=>k (.exit 0) (Sh.enc ⟨[(2,false,[.ptr 1 0]),(3,false,[.ptr 2 0])],[.box [.st .curs [.sl .any]],.box [.st .conn [.nil .piec]],.box [.st .conn [.own 3]],.of false true]⟩ (x.2.1,({x.2.2.1 with r.held:=[]}:Conn),x.2.2.2,()))⟩
theorem s_l19Conn_L0_s:LS Tryz.prog s_l19Conn_x [0] (leC 0 s_l19Conn_L0_h s_l19Conn_L0_d):=loopC st (orcOf_ok s_l19Conn_o) _ s_l19Conn_L0_d [] trivial (by kernel_rfl) (fun _=>by kernel_rfl) fun _ _ _ _ _ _=>by kernel_rfl
theorem s_l19Conn_L0_k {v0 v1:Int}{v2:Curs}{v3 v4:Conn}(h0:0≤v1)(h1:v0≤4611686018427387904)(h2:sm_curs v2∧sm_conn v3∧sm_conn v4):(s_l19Conn_L0_d (v0,v1,v2,v3,v4,())).U v0 (fun v1 a=>sm_curs a.1∧sm_conn a.2.1∧sm_conn a.2.2) (fun _=>True):=
 LC.okU (i:=v1) (a:=(v2,v3,v4)) (fun _ _=>rfl) (fun _=>rfl) rfl h0 h1 h2 fun v1 (v2,v3,v4) hj hk hv=>by
  refine Tr.C ?_ fun _ _ _=>Tr.I (fun _=>Tr.C ?_ fun _ _ _=>Tr.C ?_ fun _ _ _=>Tr.C ?_ fun _ _ _=>Tr.Rn ?_) fun _=>Tr.I (fun _=>Tr.C ?_ fun _ _ _=>Tr.Rn ?_) fun _=>Tr.I (fun _=>Tr.C ?_ fun _ _ _=>Tr.I (fun _=>Tr.C ?_ fun _ _ _=>Tr.Rn ?_) fun _=>Tr.Rn ?_) fun _=>Tr.I (fun _=>Tr.C ?_ fun _ _ _=>Tr.C ?_ fun _ _ _=>Tr.Rn ?_) fun _=>Tr.C ?_ fun _ _ _=>Tr.C ?_ fun _ _ _=>Tr.Rn ?_
  all_goals (grind)
noncomputable def s_l19Conn:FT (Curs×Unit) (Conn×Curs) (fun x=>sm_curs x.1) (fun x v=>sm_conn v.1∧sm_curs v.2):=⟨fun(y0,_)=>
  .cal s_l12Tuple.c (y0,()) fun c1=>
  .cal s_l2Deep.c (c1.2,()) fun c2=>
  .cal s_l2Deep.c (c2.2,()) fun c3=>
  .cal s_l8Options.c (c3.2,()) fun c4=>
  .cal s_l1PickInt.c (c4.2,[0,4,64,65535],()) fun c5=>
  .cal s_ConnNew.c (c1.1,c2.1,c3.1,c4.1,c5.1,()) fun c6=>
  .cal s_l1Below.c (c5.2,9,()) fun c7=>
  .lp (s_l19Conn_L0_d (c7.1,0,c7.2,(⟨⟨0,0,0⟩,0,⟨0,[],0,false,false,false⟩,⟨0,[],[],0,false⟩,0,0,⟨0,0,false,false,0,0⟩,0,0⟩:Conn),c6,())).lp fun(_,a19_0,_,a19_2)=>
  .ret (a19_2,a19_0),
 fun(y0,_) hp=>by
  refine Tr.C ?_ fun _ _ _=>Tr.C ?_ fun _ _ _=>Tr.C ?_ fun _ _ _=>Tr.C ?_ fun _ _ _=>Tr.C ?_ fun _ _ _=>Tr.C trivial fun _ _ _=>Tr.C ?_ fun _ _ _=>Tr.L (s_l19Conn_L0_k ?_ ?_ ?_) (fun(a19_0,a19_1,a19_2) _=>Tr.R ?_) (fun p=>Empty.elim p)
  all_goals ((try simp only[s_l19Conn_L0_d,LC.lp,LC.ct,Ct.lp]at*)<;>grind)⟩
noncomputable def s_l19Conn_e:=entM st s_l19Conn_x s_l19Conn_o [(leC 0 s_l19Conn_L0_h s_l19Conn_L0_d)] [.wr false [.ptr 0]] [.box [.st .curs]] (fun x y=>(y.1.1,())) s_l19Conn (fun v=>[(true,q_conn (.o true) v.1)]) (fun x y v=>((v.2,()),())) Tryz.func322 (by kernel_rfl) ⟨s_l19Conn_L0_s,trivial⟩ fun _ _=>by kernel_rfl
noncomputable def s_l25Table_o:List (Ent1 Tryz.prog):=[s_l1Below_e,s_l19Conn_e,s_PutConn_e,s_l1Once_e,s_TakeWaiting_e]
def s_l25Table_L0_h:Sh:=⟨[(0,false,[.ptr 0 0]),(3,false,[.ptr 1 0]),(4,false,[.ptr 2 0]),(5,false,[.ptr 3 0]),(6,false,[.int .i64]),(7,false,[.int .i64])],[.box [.st .curs [.sl .any]],.box [.st .limi []],.box [.st .tabl [.nil .conn,.nil .tupl]],.box [.st .tabl [.own 4,.own 5]],.of false true,.of false true]⟩
noncomputable def s_l25Table_x:Fx:=⟨285,Tryz.f285,[(0,la ⟨[0,3,4,5,6,7],[.box 5 0 .conn,.box 5 1 .tupl],false,1⟩ ⟨[4,5],[],false,1⟩)],1⟩
noncomputable def s_l25Table_L0_T (v3:Limi)(v1:Int)(a:Curs×Tabl×Tabl):Tr (Stp (Curs×Tabl×Tabl) (Empty)):=
 .cal s_l19Conn.c (a.1,()) fun c6=>
 .cal s_PutConn.c (a.2.2,c6.1,v3,()) fun c7=>
 .cal s_l1Once.c (c6.2,3,()) fun c8=>
 .ite c8.1 (.cal s_TakeWaiting.c (c7.1,()) fun c9=>
  .ret (.next (c8.2,(⟨[],[]⟩:Tabl),c9.1)))<|
 .ret (.next (c8.2,(⟨[],[]⟩:Tabl),c7.1))
noncomputable def s_l25Table_L0_d:s_l25Table_L0_h.V→LC s_l25Table_L0_h (Curs×Tabl×Tabl) (Empty) (Int×(Curs×Tabl×Tabl)):=fun(v0,v1,v2,v3,v4,v5,_)=>⟨v1,(v2,v4,v5),fun v1 a=>(v0,v1,a.1,v3,a.2.1,a.2.2,()),fun v1 _=>(decide (v1<v0)),s_l25Table_L0_T v3,up,1,(Int.toNat (v0-v1)),(fun p=>Empty.elim p),fun i a=>(i,a),fun _ k x=>k (.exit 0) (Sh.enc ⟨[(4,false,[.ptr 1 0]),(5,false,[.ptr 2 0])],[.box [.st .curs [.sl .any]],.box [.st .tabl [.nil .conn,.nil .tupl]],.box [.st .tabl [.own 3,.own 4]],.of false true,.of false true]⟩ (x.2.1,(⟨[],[]⟩:Tabl),x.2.2.2,()))⟩
theorem s_l25Table_L0_s:LS Tryz.prog s_l25Table_x [0] (leC 0 s_l25Table_L0_h s_l25Table_L0_d):=loopC st (orcOf_ok s_l25Table_o) _ s_l25Table_L0_d [] trivial (by kernel_rfl) (fun _=>by kernel_rfl) fun _ _ _ _ _ _=>by kernel_rfl
theorem s_l25Table_L0_k {v0 v1:Int}{v2:Curs}{v3:Limi}{v4 v5:Tabl}(h0:0≤v1)(h1:v0≤4611686018427387904)(h2:sm_curs v2∧sm_tabl v4∧sm_tabl v5∧v5.conns.length≤16∧v5.waiting.length≤16):(s_l25Table_L0_d (v0,v1,v2,v3,v4,v5,())).U v0 (fun v1 a=>sm_curs a.1∧sm_tabl a.2.1∧sm_tabl a.2.2∧a.2.2.conns.length≤16∧a.2.2.waiting.length≤16) (fun _=>True):=
 LC.okU (i:=v1) (a:=(v2,v4,v5)) (fun _ _=>rfl) (fun _=>rfl) rfl h0 h1 h2 fun v1 (v2,v4,v5) hj hk hv=>by
  refine Tr.C ?_ fun _ _ _=>Tr.C ?_ fun _ _ _=>Tr.C ?_ fun _ _ _=>Tr.I (fun _=>Tr.C ?_ fun _ _ _=>Tr.Rn ?_) fun _=>Tr.Rn ?_
  all_goals (grind)
noncomputable def s_l25Table:FT (Curs×Limi×Unit) (Tabl×Curs) (fun x=>sm_curs x.1) (fun x v=>sm_tabl v.1∧sm_curs v.2∧v.1.conns.length≤16∧v.1.waiting.length≤16):=⟨fun(y0,x1,_)=>
  .cal s_l1Below.c (y0,4,()) fun c1=>
  .lp (s_l25Table_L0_d (c1.1,0,c1.2,x1,(⟨[],[]⟩:Tabl),(⟨[],[]⟩:Tabl),())).lp fun(_,a10_0,_,a10_2)=>
  .ret (a10_2,a10_0),
 fun(y0,x1,_) hp=>by
  refine Tr.C ?_ fun _ _ _=>Tr.L (s_l25Table_L0_k ?_ ?_ ?_) (fun(a10_0,a10_1,a10_2) _=>Tr.R ?_) (fun p=>Empty.elim p)
  all_goals ((try simp only[s_l25Table_L0_d,LC.lp,LC.ct,Ct.lp]at*)<;>grind)⟩
noncomputable def s_l25Table_e:=entM st s_l25Table_x s_l25Table_o [(leC 0 s_l25Table_L0_h s_l25Table_L0_d)] [.wr false [.ptr 0],.st .limi] [.box [.st .curs]] (fun x y=>(y.1.1,x.2.1,())) s_l25Table (fun v=>[(true,q_tabl (.o true) (.o true) v.1)]) (fun x y v=>((v.2,()),())) Tryz.func285 (by kernel_rfl) ⟨s_l25Table_L0_s,trivial⟩ fun _ _=>by kernel_rfl
noncomputable def s_l17Sender_o:List (Ent1 Tryz.prog):=[s_l2Deep_e,s_l1Below_e,s_l1Bytes_e,s_Queued_e,s_NextChunk_e,s_SentOff_e,s_l17Flown_e,s_SeqAdd_e,s_Acked_e,s_l1Once_e]
def s_l17Sender_L0_h:Sh:=⟨[(0,false,[.ptr 0 0]),(2,false,[.ptr 1 0]),(3,false,[.ptr 2 0]),(4,false,[.int .i64]),(5,false,[.int .i64])],[.box [.st .curs [.sl .any]],.box [.st .sndr []],.box [.st .sndr []]]⟩
noncomputable def s_l17Sender_x:Fx:=⟨340,Tryz.f340,[(0,la ⟨[0,2,3,4,5],[],false,1⟩ ⟨[2,3],[],false,1⟩)],1⟩
noncomputable def s_l17Sender_L0_T (v1:Int)(a:Curs×Sndr):Tr (Stp (Curs×Sndr) (Empty)):=
 .cal s_l1Below.c (a.1,4,()) fun c3=>
 .ite (c3.1==0) (.cal s_l1Below.c (c3.2,20,()) fun c4=>
  .cal s_l1Bytes.c (c4.2,c4.1,()) fun c5=>
  .cal s_Queued.c (a.2,(toBytes c5.1),()) fun c6=>
  .ret (.next (c5.2,c6.1)))<|
 .ite (c3.1==1) (.cal s_l1Below.c (c3.2,40,()) fun c7=>
  .cal s_l1Below.c (c7.2,16,()) fun c8=>
  .cal s_NextChunk.c (a.2,(IntKind.wrap .i64 (1+c7.1)),(IntKind.wrap .i64 (1+c8.1)),()) fun c9=>
  .ite c9.2 (.cal s_SentOff.c (a.2,c9.1,()) fun c10=>
   .ret (.next (c8.2,c10)))<|
  .ret (.next (c8.2,a.2)))<|
 .ite (c3.1==2) (.cal s_l17Flown.c (a.2,()) fun c11=>
  .cal s_l1Below.c (c3.2,(IntKind.wrap .i64 (c11+1)),()) fun c12=>
  .val (s_SeqAdd.f (a.2.una,c12.1,())) fun c13=>
  .cal s_Acked.c (a.2,c13,()) fun c14=>
  .ret (.next (c12.2,c14.1)))<|
 .ite a.2.fin (.ret (.next (c3.2,({a.2 with fin:=true}:Sndr))))<|
 .cal s_l1Once.c (c3.2,2,()) fun c15=>
 .ret (.next (c15.2,({a.2 with fin:=c15.1}:Sndr)))
noncomputable def s_l17Sender_L0_d:s_l17Sender_L0_h.V→LC s_l17Sender_L0_h (Curs×Sndr) (Empty) (Int×(Curs×Sndr)):=fun(v0,v1,v2,v3,v4,_)=>⟨v1,(v2,v4),fun v1 a=>(v0,v1,a.1,v3,a.2,()),fun v1 _=>(decide (v1<v0)),s_l17Sender_L0_T,up,1,(Int.toNat (v0-v1)),(fun p=>Empty.elim p),fun i a=>(i,a),fun _ k x=>k (.exit 0) (Sh.enc ⟨[(2,false,[.ptr 1 0]),(3,false,[.ptr 2 0])],[.box [.st .curs [.sl .any]],.box [.st .sndr []],.box [.st .sndr []]]⟩ (x.2.1,v3,x.2.2,()))⟩
theorem s_l17Sender_L0_s:LS Tryz.prog s_l17Sender_x [0] (leC 0 s_l17Sender_L0_h s_l17Sender_L0_d):=loopC st (orcOf_ok s_l17Sender_o) _ s_l17Sender_L0_d [] trivial (by kernel_rfl) (fun _=>by kernel_rfl) fun _ _ _ _ _ _=>by kernel_rfl
theorem s_l17Sender_L0_k {v0 v1:Int}{v2:Curs}{v3 v4:Sndr}(h0:0≤v1)(h1:v0≤4611686018427387904)(h2:sm_curs v2∧sm_sndr v4):(s_l17Sender_L0_d (v0,v1,v2,v3,v4,())).U v0 (fun v1 a=>sm_curs a.1∧sm_sndr a.2) (fun _=>True):=
 LC.okU (i:=v1) (a:=(v2,v4)) (fun _ _=>rfl) (fun _=>rfl) rfl h0 h1 h2 fun v1 (v2,v4) hj hk hv=>by
  refine Tr.C ?_ fun _ _ _=>Tr.I (fun _=>Tr.C ?_ fun _ _ _=>Tr.C ?_ fun _ _ _=>Tr.C ?_ fun _ _ _=>Tr.Rn ?_) fun _=>Tr.I (fun _=>Tr.C ?_ fun _ _ _=>Tr.C ?_ fun _ _ _=>Tr.C ?_ fun _ _ _=>Tr.I (fun _=>Tr.C ?_ fun _ _ _=>Tr.Rn ?_) fun _=>Tr.Rn ?_) fun _=>Tr.I (fun _=>Tr.C ?_ fun _ _ _=>Tr.C ?_ fun _ _ _=>Tr.V fun _ _=>Tr.C ?_ fun _ _ _=>Tr.Rn ?_) fun _=>Tr.I (fun _=>Tr.Rn ?_) fun _=>Tr.C ?_ fun _ _ _=>Tr.Rn ?_
  all_goals (grind)
noncomputable def s_l17Sender:FT (Curs×Unit) (Sndr×Curs) (fun x=>sm_curs x.1) (fun x v=>sm_sndr v.1∧sm_curs v.2):=⟨fun(y0,_)=>
  .cal s_l2Deep.c (y0,()) fun c1=>
  .cal s_l1Below.c (c1.2,6,()) fun c2=>
  .lp (s_l17Sender_L0_d (c2.1,0,c2.2,(⟨0,[],0,false,false,false⟩:Sndr),(⟨c1.1,[],0,false,false,false⟩:Sndr),())).lp fun(_,a16_0,a16_1)=>
  .ret (a16_1,a16_0),
 fun(y0,_) hp=>by
  refine Tr.C ?_ fun _ _ _=>Tr.C ?_ fun _ _ _=>Tr.L (s_l17Sender_L0_k ?_ ?_ ?_) (fun(a16_0,a16_1) _=>Tr.R ?_) (fun p=>Empty.elim p)
  all_goals ((try simp only[s_l17Sender_L0_d,LC.lp,LC.ct,Ct.lp]at*)<;>grind)⟩
noncomputable def s_l17Sender_e:=entM st s_l17Sender_x s_l17Sender_o [(leC 0 s_l17Sender_L0_h s_l17Sender_L0_d)] [.wr false [.ptr 0]] [.box [.st .curs]] (fun x y=>(y.1.1,())) s_l17Sender (fun v=>[(true,q_sndr v.1)]) (fun x y v=>((v.2,()),())) Tryz.func340 (by kernel_rfl) ⟨s_l17Sender_L0_s,trivial⟩ fun _ _=>by kernel_rfl
noncomputable def s_l17Bent:FT (Curs×Unit) (Sndr×Curs) (fun x=>sm_curs x.1) (fun x v=>sm_sndr v.1∧sm_curs v.2):=⟨fun(y0,_)=>
  .cal s_l17Sender.c (y0,()) fun c1=>
  .cal s_l1Below.c (c1.2,10,()) fun c2=>
  .ite (c2.1==0) (.cal s_l2Word.c (c2.2,()) fun c3=>
   .ret (({c1.1 with una:=c3.1}:Sndr),c3.2))<|
  .ite (c2.1==1) (.cal s_l1PickInt.c (c2.2,[(-1),0,48,49,(IntKind.wrap .i64 ((c1.1.data.length:Int)+1))],()) fun c4=>
   .ret (({c1.1 with sent:=c4.1}:Sndr),c4.2))<|
  .ite (c2.1==2) (.ret (({c1.1 with finSent:=(!c1.1.finSent)}:Sndr),c2.2))<|
  .ite (c2.1==3) (.ret (({c1.1 with done:=(!c1.1.done)}:Sndr),c2.2))<|
  .ite (c2.1==4) (.cal s_l1Below.c (c2.2,3,()) fun c5=>
   .cal s_l5Long.c ((IntKind.wrap .i64 (47+c5.1)),()) fun c6=>
   .ret (({c1.1 with data:=c6}:Sndr),c5.2))<|
  .ret (c1.1,c2.2),
 fun(y0,_) hp=>by
  refine Tr.C ?_ fun _ _ _=>Tr.C ?_ fun _ _ _=>Tr.I (fun _=>Tr.C ?_ fun _ _ _=>Tr.R ?_) fun _=>Tr.I (fun _=>Tr.C ?_ fun _ _ _=>Tr.R ?_) fun _=>Tr.I (fun _=>Tr.R ?_) fun _=>Tr.I (fun _=>Tr.R ?_) fun _=>Tr.I (fun _=>Tr.C ?_ fun _ _ _=>Tr.C ?_ fun _ _ _=>Tr.R ?_) fun _=>Tr.R ?_
  all_goals (grind)⟩
noncomputable def s_l17Bent_e:=entM st ⟨324,Tryz.f324,[],1⟩ [s_l17Sender_e,s_l1Below_e,s_l2Word_e,s_l1PickInt_e,s_l5Long_e] [] [.wr false [.ptr 0]] [.box [.st .curs]] (fun x y=>(y.1.1,())) s_l17Bent (fun v=>[(true,q_sndr v.1)]) (fun x y v=>((v.2,()),())) Tryz.func324 (by kernel_rfl) trivial fun _ _=>by kernel_rfl
noncomputable def s_l18Receiver_o:List (Ent1 Tryz.prog):=[s_l2Deep_e,s_ReceiverNew_e,s_l1Below_e,s_l18Stream_e,s_Arrived_e,s_l1Once_e,s_TakenIn_e]
def s_l18Receiver_L0_h:Sh:=⟨[(0,false,[.ptr 0 0]),(2,false,[.ptr 1 0]),(3,false,[.ptr 2 0]),(4,false,[.int .i64]),(5,false,[.int .i64])],[.box [.st .curs [.sl .any]],.box [.st .recv [.nil .piec]],.box [.st .recv [.own 3]],.of false true]⟩
noncomputable def s_l18Receiver_x:Fx:=⟨341,Tryz.f341,[(0,la ⟨[0,2,3,4,5],[],false,1⟩ ⟨[2,3],[],false,1⟩)],1⟩
noncomputable def s_l18Receiver_L0_T (v1:Int)(a:Curs×Recv×Recv):Tr (Stp (Curs×Recv×Recv) (Empty)):=
 .cal s_l18Stream.c (a.1,a.2.2,()) fun c4=>
 .cal s_Arrived.c (a.2.2,c4.1,c4.2.1,c4.2.2.1,()) fun c5=>
 .cal s_l1Once.c (c4.2.2.2,3,()) fun c6=>
 .ite c6.1 (.cal s_l1Below.c (c6.2,20,()) fun c7=>
  .cal s_TakenIn.c (c5,c7.1,()) fun c8=>
  .ret (.next (c7.2,({a.2.1 with held:=[]}:Recv),c8.1)))<|
 .ret (.next (c6.2,({a.2.1 with held:=[]}:Recv),c5))
noncomputable def s_l18Receiver_L0_d:s_l18Receiver_L0_h.V→LC s_l18Receiver_L0_h (Curs×Recv×Recv) (Empty) (Int×(Curs×Recv×Recv)):=fun(v0,v1,v2,v3,v4,_)=>⟨v1,(v2,v3,v4),fun v1 a=>(v0,v1,a.1,a.2.1,a.2.2,()),fun v1 _=>(decide (v1<v0)),s_l18Receiver_L0_T,up,1,(Int.toNat (v0-v1)),(fun p=>Empty.elim p),fun i a=>(i,a),fun _ k x=>k (.exit 0) (Sh.enc ⟨[(2,false,[.ptr 1 0]),(3,false,[.ptr 2 0])],[.box [.st .curs [.sl .any]],.box [.st .recv [.nil .piec]],.box [.st .recv [.own 3]],.of false true]⟩ (x.2.1,({x.2.2.1 with held:=[]}:Recv),x.2.2.2,()))⟩
theorem s_l18Receiver_L0_s:LS Tryz.prog s_l18Receiver_x [0] (leC 0 s_l18Receiver_L0_h s_l18Receiver_L0_d):=loopC st (orcOf_ok s_l18Receiver_o) _ s_l18Receiver_L0_d [] trivial (by kernel_rfl) (fun _=>by kernel_rfl) fun _ _ _ _ _ _=>by kernel_rfl
theorem s_l18Receiver_L0_k {v0 v1:Int}{v2:Curs}{v3 v4:Recv}(h0:0≤v1)(h1:v0≤4611686018427387904)(h2:sm_curs v2∧sm_recv v3∧sm_recv v4∧v4.held.length≤3):(s_l18Receiver_L0_d (v0,v1,v2,v3,v4,())).U v0 (fun v1 a=>sm_curs a.1∧sm_recv a.2.1∧sm_recv a.2.2∧a.2.2.held.length≤3) (fun _=>True):=
 LC.okU (i:=v1) (a:=(v2,v3,v4)) (fun _ _=>rfl) (fun _=>rfl) rfl h0 h1 h2 fun v1 (v2,v3,v4) hj hk hv=>by
  refine Tr.C ?_ fun _ _ _=>Tr.C ?_ fun _ _ _=>Tr.C ?_ fun _ _ _=>Tr.I (fun _=>Tr.C ?_ fun _ _ _=>Tr.C ?_ fun _ _ _=>Tr.Rn ?_) fun _=>Tr.Rn ?_
  all_goals (grind)
noncomputable def s_l18Receiver:FT (Curs×Unit) (Recv×Curs) (fun x=>sm_curs x.1) (fun x v=>sm_recv v.1∧sm_curs v.2∧v.1.held.length≤3):=⟨fun(y0,_)=>
  .cal s_l2Deep.c (y0,()) fun c1=>
  .cal s_ReceiverNew.c (c1.1,()) fun c2=>
  .cal s_l1Below.c (c1.2,7,()) fun c3=>
  .lp (s_l18Receiver_L0_d (c3.1,0,c3.2,(⟨0,[],[],0,false⟩:Recv),c2,())).lp fun(_,a9_0,_,a9_2)=>
  .ret (a9_2,a9_0),
 fun(y0,_) hp=>by
  refine Tr.C ?_ fun _ _ _=>Tr.C trivial fun _ _ _=>Tr.C ?_ fun _ _ _=>Tr.L (s_l18Receiver_L0_k ?_ ?_ ?_) (fun(a9_0,a9_1,a9_2) _=>Tr.R ?_) (fun p=>Empty.elim p)
  all_goals ((try simp only[s_l18Receiver_L0_d,LC.lp,LC.ct,Ct.lp]at*)<;>grind)⟩
noncomputable def s_l18Receiver_e:=entM st s_l18Receiver_x s_l18Receiver_o [(leC 0 s_l18Receiver_L0_h s_l18Receiver_L0_d)] [.wr false [.ptr 0]] [.box [.st .curs]] (fun x y=>(y.1.1,())) s_l18Receiver (fun v=>[(true,q_recv (.o true) v.1)]) (fun x y v=>((v.2,()),())) Tryz.func341 (by kernel_rfl) ⟨s_l18Receiver_L0_s,trivial⟩ fun _ _=>by kernel_rfl
noncomputable def s_l18Bent:FT (Curs×Unit) (Recv×Curs) (fun x=>sm_curs x.1) (fun x v=>sm_recv v.1∧sm_curs v.2):=⟨fun(y0,_)=>
  .cal s_l18Receiver.c (y0,()) fun c1=>
  .cal s_l1Below.c (c1.2,12,()) fun c2=>
  .ite (c2.1==0) (.cal s_l2Word.c (c2.2,()) fun c3=>
   .ret (({c1.1 with next:=c3.1}:Recv),c3.2))<|
  .ite (c2.1==1) (.cal s_l1PickInt.c (c2.2,[(-2),(-1),0,5,32,33],()) fun c4=>
   .ret (({c1.1 with fin:=c4.1}:Recv),c4.2))<|
  .ite (c2.1==2) (.ret (({c1.1 with done:=(!c1.1.done)}:Recv),c2.2))<|
  .ite (c2.1==3) (.cal s_l1PickInt.c (c2.2,[0,1,20,31,32,(-1),9223372036854775807],()) fun c5=>
   .cal s_l1Pick.c (c5.2,[[],[120],[121,122]],()) fun c6=>
   .grd (Nat.ble ((2*(c1.1.held.length+1)+1024)*24) maxSl)<|
   .ret (({c1.1 with held:=(c1.1.held++[(⟨c5.1,c6.1⟩:Piec)])}:Recv),c6.2))<|
  .ite (c2.1==4) (.cal s_l1Below.c (c2.2,3,()) fun c7=>
   .cal s_l5Long.c ((IntKind.wrap .i64 (31+c7.1)),()) fun c8=>
   .ret (({c1.1 with data:=c8}:Recv),c7.2))<|
  .ret (c1.1,c2.2),
 fun(y0,_) hp=>by
  refine Tr.C ?_ fun _ _ _=>Tr.C ?_ fun _ _ _=>Tr.I (fun _=>Tr.C ?_ fun _ _ _=>Tr.R ?_) fun _=>Tr.I (fun _=>Tr.C ?_ fun _ _ _=>Tr.R ?_) fun _=>Tr.I (fun _=>Tr.R ?_) fun _=>Tr.I (fun _=>Tr.C ?_ fun _ _ _=>Tr.C ?_ fun _ _ _=>Tr.Gb ?_ fun _=>Tr.R ?_) fun _=>Tr.I (fun _=>Tr.C ?_ fun _ _ _=>Tr.C ?_ fun _ _ _=>Tr.R ?_) fun _=>Tr.R ?_
  all_goals (grind)⟩
noncomputable def s_l18Bent_e:=entM st ⟨325,Tryz.f325,[],1⟩ [s_l18Receiver_e,s_l1Below_e,s_l2Word_e,s_l1PickInt_e,s_l1Pick_e,s_l5Long_e] [] [.wr false [.ptr 0]] [.box [.st .curs]] (fun x y=>(y.1.1,())) s_l18Bent (fun v=>[(true,q_recv (.o true) v.1)]) (fun x y v=>((v.2,()),())) Tryz.func325 (by kernel_rfl) trivial fun _ _=>by kernel_rfl
noncomputable def s_l19Bent_o:List (Ent1 Tryz.prog):=[s_l19Conn_e,s_l1Below_e,s_l17Bent_e,s_l18Bent_e,s_l1PickInt_e,s_l8Bent_e,s_l12Bent_e]
def s_l19Bent_J8_a:An:=⟨⟨[],[],false,1⟩,⟨[2,3],[],false,1⟩,⟨[],[]⟩,[(.normal,⟨[(2,false,[.ptr 1 0]),(3,false,[.ptr 2 0])],[.box [.st .curs [.sl .any]],.box [.st .conn [.nil .piec]],.box [.st .conn [.own 3]],.of false true]⟩)]⟩
noncomputable def s_l19Bent_x:Fx:=⟨286,Tryz.f286,[(1000008,s_l19Bent_J8_a)],1⟩
noncomputable def s_l19Bent:FT (Curs×Unit) (Conn×Curs) (fun x=>sm_curs x.1) (fun x v=>sm_conn v.1∧sm_curs v.2):=⟨fun(y0,_)=>
  .cal s_l19Conn.c (y0,()) fun c1=>
  .cal s_l1Below.c (c1.2,16,()) fun c2=>
  .bnd (β:=WT s_l19Bent_J8_a.es) (.ite (c2.1==0) (.cal s_l1Below.c (c2.2,11,()) fun c3=>
    .ret (c3.2,(⟨⟨0,0,0⟩,0,⟨0,[],0,false,false,false⟩,⟨0,[],[],0,false⟩,0,0,⟨0,0,false,false,0,0⟩,0,0⟩:Conn),({c1.1 with state:=(IntKind.wrap .i64 (c3.1-1))}:Conn),()))<|
   .ite (c2.1==1) (.cal s_l17Bent.c (c2.2,()) fun c4=>
    .ret (c4.2,(⟨⟨0,0,0⟩,0,⟨0,[],0,false,false,false⟩,⟨0,[],[],0,false⟩,0,0,⟨0,0,false,false,0,0⟩,0,0⟩:Conn),({c1.1 with s.una:=c4.1.una,s.data:=c4.1.data,s.sent:=c4.1.sent,s.fin:=c4.1.fin,s.finSent:=c4.1.finSent,s.done:=c4.1.done}:Conn),()))<|
   .ite (c2.1==2) (.cal s_l18Bent.c (c2.2,()) fun c5=>
    .ret (c5.2,(⟨⟨0,0,0⟩,0,⟨0,[],0,false,false,false⟩,⟨0,[],[],0,false⟩,0,0,⟨0,0,false,false,0,0⟩,0,0⟩:Conn),({c1.1 with r.next:=c5.1.next,r.data:=c5.1.data,r.held:=c5.1.held,r.fin:=c5.1.fin,r.done:=c5.1.done}:Conn),()))<|
   .ite (c2.1==3) (.cal s_l1PickInt.c (c2.2,[(-1),0,c1.1.most,(IntKind.wrap .i64 (c1.1.most+1))],()) fun c6=>
    .ret (c6.2,(⟨⟨0,0,0⟩,0,⟨0,[],0,false,false,false⟩,⟨0,[],[],0,false⟩,0,0,⟨0,0,false,false,0,0⟩,0,0⟩:Conn),({c1.1 with window:=c6.1}:Conn),()))<|
   .ite (c2.1==4) (.cal s_l1PickInt.c (c2.2,[(-1),0,3,4,5],()) fun c7=>
    .ret (c7.2,(⟨⟨0,0,0⟩,0,⟨0,[],0,false,false,false⟩,⟨0,[],[],0,false⟩,0,0,⟨0,0,false,false,0,0⟩,0,0⟩:Conn),({c1.1 with timer:=c7.1}:Conn),()))<|
   .ite (c2.1==5) (.cal s_l1PickInt.c (c2.2,[(-1),0,3,4],()) fun c8=>
    .ret (c8.2,(⟨⟨0,0,0⟩,0,⟨0,[],0,false,false,false⟩,⟨0,[],[],0,false⟩,0,0,⟨0,0,false,false,0,0⟩,0,0⟩:Conn),({c1.1 with tries:=c8.1}:Conn),()))<|
   .ite (c2.1==6) (.cal s_l8Bent.c (c2.2,()) fun c9=>
    .ret (c9.2,(⟨⟨0,0,0⟩,0,⟨0,[],0,false,false,false⟩,⟨0,[],[],0,false⟩,0,0,⟨0,0,false,false,0,0⟩,0,0⟩:Conn),({c1.1 with opts.mss:=c9.1.mss,opts.scale:=c9.1.scale,opts.sack:=c9.1.sack,opts.stamp:=c9.1.stamp,opts.val:=c9.1.val,opts.echo:=c9.1.echo}:Conn),()))<|
   .ite (c2.1==7) (.cal s_l12Bent.c (c2.2,()) fun c10=>
    .ret (c10.2,(⟨⟨0,0,0⟩,0,⟨0,[],0,false,false,false⟩,⟨0,[],[],0,false⟩,0,0,⟨0,0,false,false,0,0⟩,0,0⟩:Conn),({c1.1 with tuple.ip:=c10.1.ip,tuple.port:=c10.1.port,tuple.my:=c10.1.my}:Conn),()))<|
   .ret (c2.2,(⟨⟨0,0,0⟩,0,⟨0,[],0,false,false,false⟩,⟨0,[],[],0,false⟩,0,0,⟨0,0,false,false,0,0⟩,0,0⟩:Conn),c1.1,())) fun(u11a0,_,u11a2,_)=>
  .ret (u11a2,u11a0),
 fun(y0,_) hp=>by
  refine Tr.C ?_ fun _ _ _=>Tr.C ?_ fun _ _ _=>Tr.B (Q':=fun w=>sm_curs w.1∧sm_conn w.2.1∧sm_conn w.2.2.1) (Tr.I (fun _=>Tr.C ?_ fun _ _ _=>Tr.R ?_) fun _=>Tr.I (fun _=>Tr.C ?_ fun _ _ _=>Tr.R ?_) fun _=>Tr.I (fun _=>Tr.C ?_ fun _ _ _=>Tr.R ?_) fun _=>Tr.I (fun _=>Tr.C ?_ fun _ _ _=>Tr.R ?_) fun _=>Tr.I (fun _=>Tr.C ?_ fun _ _ _=>Tr.R ?_) fun _=>Tr.I (fun _=>Tr.C ?_ fun _ _ _=>Tr.R ?_) fun _=>Tr.I (fun _=>Tr.C ?_ fun _ _ _=>Tr.R ?_) fun _=>Tr.I (fun _=>Tr.C ?_ fun _ _ _=>Tr.R ?_) fun _=>Tr.R ?_) (fun(u11a0,u11a1,u11a2,_) _ _=>Tr.R ?_)
  all_goals ((try simp only[Tr.nice,letK]at*)<;>grind)⟩
noncomputable def s_l19Bent_e:=entM st s_l19Bent_x s_l19Bent_o [] [.wr false [.ptr 0]] [.box [.st .curs]] (fun x y=>(y.1.1,())) s_l19Bent (fun v=>[(true,q_conn (.o true) v.1)]) (fun x y v=>((v.2,()),())) Tryz.func286 (by kernel_rfl) trivial fun _ _=>by kernel_rfl
noncomputable def s_l25Bent_o:List (Ent1 Tryz.prog):=[s_l25Limits_e,s_l25Table_e,s_l1Below_e,s_l19Bent_e,s_l12Tuple_e,s_l1PickInt_e]
def s_l25Bent_J13_a:An:=⟨⟨[],[],false,1⟩,⟨[2,3,4,5],[],false,1⟩,⟨[],[]⟩,[(.normal,⟨[(2,false,[.ptr 1 0]),(3,false,[.ptr 2 0]),(4,false,[.ptr 3 0]),(5,false,[.ptr 4 0])],[.box [.st .curs [.sl .any]],.box [.st .tabl [.nil .conn,.nil .tupl]],.box [.st .limi []],.box [.st .limi []],.box [.st .tabl [.own 5,.own 6]],.of false true,.of false true]⟩)]⟩
noncomputable def s_l25Bent_x:Fx:=⟨208,Tryz.f208,[(1000013,s_l25Bent_J13_a)],1⟩
noncomputable def s_l25Bent:FT (Curs×Unit) (Tabl×Limi×Curs) (fun x=>sm_curs x.1) (fun x v=>sm_tabl v.1∧sm_curs v.2.2):=⟨fun(y0,_)=>
  .cal s_l25Limits.c (y0,()) fun c1=>
  .cal s_l25Table.c (c1.2,c1.1,()) fun c2=>
  .cal s_l1Below.c (c2.2,10,()) fun c3=>
  .bnd (β:=WT s_l25Bent_J13_a.es) (.ite (c3.1==0) (.cal s_l19Bent.c (c3.2,()) fun c4=>
    .grd (Nat.ble ((2*(c2.1.conns.length+1)+1024)*208) maxSl)<|
    .ret (c4.2,(⟨[],[]⟩:Tabl),(⟨0,0,0,0⟩:Limi),c1.1,(⟨(c2.1.conns++[c4.1]),c2.1.waiting⟩:Tabl),()))<|
   .ite (c3.1==1) (.cal s_l12Tuple.c (c3.2,()) fun c5=>
    .grd (Nat.ble ((2*(c2.1.waiting.length+1)+1024)*24) maxSl)<|
    .ret (c5.2,(⟨[],[]⟩:Tabl),(⟨0,0,0,0⟩:Limi),c1.1,(⟨c2.1.conns,(c2.1.waiting++[c5.1])⟩:Tabl),()))<|
   .ite (c3.1==2) (.cal s_l1PickInt.c (c3.2,[0,16,17,1],()) fun c6=>
    .ret (c6.2,(⟨[],[]⟩:Tabl),(⟨0,0,0,0⟩:Limi),({c1.1 with conns:=c6.1}:Limi),c2.1,()))<|
   .ite (c3.1==3) (.cal s_l1PickInt.c (c3.2,[(-1),1000,1001],()) fun c7=>
    .ret (c7.2,(⟨[],[]⟩:Tabl),(⟨0,0,0,0⟩:Limi),({c1.1 with chal:=c7.1}:Limi),c2.1,()))<|
   .ite (c3.1==4) (.ite (decide (0<(c2.1.conns.length:Int))) (.grd (decide (0<(c2.1.conns.length:Int)))<|
     .grd (Nat.ble ((2*(c2.1.conns.length+1)+1024)*208) maxSl)<|
     .ret (c3.2,(⟨[],[]⟩:Tabl),(⟨0,0,0,0⟩:Limi),c1.1,(⟨(c2.1.conns++[(c2.1.conns.getD 0 (Ty.zero .conn))]),c2.1.waiting⟩:Tabl),()))<|
    .ret (c3.2,(⟨[],[]⟩:Tabl),(⟨0,0,0,0⟩:Limi),c1.1,c2.1,()))<|
   .ret (c3.2,(⟨[],[]⟩:Tabl),(⟨0,0,0,0⟩:Limi),c1.1,c2.1,())) fun(u8a0,_,_,u8a3,u8a4,_)=>
  .ret (u8a4,u8a3,u8a0),
 fun(y0,_) hp=>by
  refine Tr.C ?_ fun _ _ _=>Tr.C ?_ fun _ _ _=>Tr.C ?_ fun _ _ _=>Tr.B (Q':=fun w=>sm_curs w.1∧sm_tabl w.2.1∧sm_tabl w.2.2.2.2.1) (Tr.I (fun _=>Tr.C ?_ fun _ _ _=>Tr.Gb ?_ fun _=>Tr.R ?_) fun _=>Tr.I (fun _=>Tr.C ?_ fun _ _ _=>Tr.Gb ?_ fun _=>Tr.R ?_) fun _=>Tr.I (fun _=>Tr.C ?_ fun _ _ _=>Tr.R ?_) fun _=>Tr.I (fun _=>Tr.C ?_ fun _ _ _=>Tr.R ?_) fun _=>Tr.I (fun _=>Tr.I (fun _=>Tr.G1 ?_ fun _=>Tr.Gb ?_ fun _=>Tr.R ?_) fun _=>Tr.R ?_) fun _=>Tr.R ?_) (fun(u8a0,u8a1,u8a2,u8a3,u8a4,_) _ _=>Tr.R ?_)
  all_goals ((try simp only[Tr.nice,letK]at*)<;>grind)⟩
noncomputable def s_l25Bent_e:=entM st s_l25Bent_x s_l25Bent_o [] [.wr false [.ptr 0]] [.box [.st .curs]] (fun x y=>(y.1.1,())) s_l25Bent (fun v=>[(true,q_tabl (.o true) (.o true) v.1),(true,q_limi v.2.1)]) (fun x y v=>((v.2.2,()),())) Tryz.func208 (by kernel_rfl) trivial fun _ _=>by kernel_rfl
noncomputable def s_l26Bent:FT (Curs×Unit) (Door×Curs) (fun x=>sm_curs x.1) (fun x v=>sm_door v.1∧sm_curs v.2):=⟨fun(y0,_)=>
  .cal s_l26Door.c (y0,()) fun c1=>
  .cal s_l1Below.c (c1.2,16,()) fun c2=>
  .ite (c2.1==0) (.cal s_l2Word.c (c2.2,()) fun c3=>
   .ret (({c1.1 with port:=c3.1}:Door),c3.2))<|
  .ite (c2.1==1) (.cal s_l13Bent.c (c2.2,()) fun c4=>
   .ret ((⟨c1.1.port,c1.1.clock,c4.1,c1.1.limits,c1.1.halves,c1.1.table,c1.1.chal⟩:Door),c4.2))<|
  .ite (c2.1==2) (.cal s_l24Bent.c (c2.2,()) fun c5=>
   .ret (({c1.1 with halves:=c5.1}:Door),c5.2))<|
  .ite (c2.1==3) (.cal s_l25Bent.c (c2.2,()) fun c6=>
   .ret (({c1.1 with table.conns:=c6.1.conns,table.waiting:=c6.1.waiting}:Door),c6.2.2))<|
  .ite (c2.1==4) (.cal s_l1PickInt.c (c2.2,[(-1),0,c1.1.limits.chal,(IntKind.wrap .i64 (c1.1.limits.chal+1))],()) fun c7=>
   .ret (({c1.1 with chal:=c7.1}:Door),c7.2))<|
  .ite (c2.1==5) (.cal s_l1PickInt.c (c2.2,[(-1),4294967295,4294967296],()) fun c8=>
   .ret (({c1.1 with clock:=c8.1}:Door),c8.2))<|
  .ret (c1.1,c2.2),
 fun(y0,_) hp=>by
  refine Tr.C ?_ fun _ _ _=>Tr.C ?_ fun _ _ _=>Tr.I (fun _=>Tr.C ?_ fun _ _ _=>Tr.R ?_) fun _=>Tr.I (fun _=>Tr.C ?_ fun _ _ _=>Tr.R ?_) fun _=>Tr.I (fun _=>Tr.C ?_ fun _ _ _=>Tr.R ?_) fun _=>Tr.I (fun _=>Tr.C ?_ fun _ _ _=>Tr.R ?_) fun _=>Tr.I (fun _=>Tr.C ?_ fun _ _ _=>Tr.R ?_) fun _=>Tr.I (fun _=>Tr.C ?_ fun _ _ _=>Tr.R ?_) fun _=>Tr.R ?_
  all_goals (grind)⟩
noncomputable def s_l26Bent_e:=entM st ⟨118,Tryz.f118,[],1⟩ [s_l26Door_e,s_l1Below_e,s_l2Word_e,s_l13Bent_e,s_l24Bent_e,s_l25Bent_e,s_l1PickInt_e] [] [.wr false [.ptr 0]] [.box [.st .curs]] (fun x y=>(y.1.1,())) s_l26Bent (fun v=>[(true,q_door (.o true) (.o true) (.o true) (.o true) (.o true) v.1)]) (fun x y v=>((v.2,()),())) Tryz.func118 (by kernel_rfl) trivial fun _ _=>by kernel_rfl
noncomputable def s_l28Bent:FT (Curs×Unit) (Stac×Curs) (fun x=>sm_curs x.1) (fun x v=>sm_stac v.1∧sm_curs v.2):=⟨fun(y0,_)=>
  .cal s_l28Stack.c (y0,()) fun c1=>
  .cal s_l1Below.c (c1.2,12,()) fun c2=>
  .ite (c2.1==0) (.cal s_l16Bent.c (c2.2,()) fun c3=>
   .ret (({c1.1 with link.mac:=c3.1.mac,link.ip:=c3.1.ip,link.cache:=c3.1.cache}:Stac),c3.2))<|
  .ite (c2.1==1) (.cal s_l26Bent.c (c2.2,()) fun c4=>
   .ret ((⟨c1.1.link,c4.1⟩:Stac),c4.2))<|
  .ret (c1.1,c2.2),
 fun(y0,_) hp=>by
  refine Tr.C ?_ fun _ _ _=>Tr.C ?_ fun _ _ _=>Tr.I (fun _=>Tr.C ?_ fun _ _ _=>Tr.R ?_) fun _=>Tr.I (fun _=>Tr.C ?_ fun _ _ _=>Tr.R ?_) fun _=>Tr.R ?_
  all_goals (grind)⟩
noncomputable def s_l28Bent_e:=entM st ⟨98,Tryz.f98,[],1⟩ [s_l28Stack_e,s_l1Below_e,s_l16Bent_e,s_l26Bent_e] [] [.wr false [.ptr 0]] [.box [.st .curs]] (fun x y=>(y.1.1,())) s_l28Bent (fun v=>[(true,q_stac (.o true) (.o true) (.o true) (.o true) (.o true) (.o true) v.1)]) (fun x y v=>((v.2,()),())) Tryz.func98 (by kernel_rfl) trivial fun _ _=>by kernel_rfl
noncomputable def s_DrawTickStack:FT (List Int×Unit) (Stac) (fun x=>sS x.1∧x.1.length≤1048576) (fun x v=>sm_stac v):=⟨fun(x0,_)=>
  .cal s_l1New.c (x0,()) fun c1=>
  .cal s_l28Bent.c (c1,()) fun c2=>
  .ret c2.1,
 fun(x0,_) hp=>by
  refine Tr.C ?_ fun _ _ _=>Tr.C ?_ fun _ _ _=>Tr.R ?_
  all_goals (grind)⟩
noncomputable def s_DrawTickStack_e:=ent0 st Tryz.func30 [s_l1New_e,s_l28Bent_e] (ks:=[.sc (.sl .u8)]) s_DrawTickStack (fun v=>[(true,q_stac (.o true) (.o true) (.o true) (.o true) (.o true) (.o true) v)]) fun _=>by kernel_rfl
noncomputable def w_FnTickStack_o:List (Ent1 Tryz.prog):=[w_big_e,s_DrawTickStack_e,i_TickStack_e,s_TickStack_e,s_SameStack_e,w_sameTexts_e,s_StackOk_e,i_StackOk_e]
noncomputable def w_FnTickStack_x:Fx:=⟨5,Tryz.f5,[(3000006,rA 0 31)],0⟩
noncomputable def w_FnTickStack:FX (List Int×Unit) (Bool) (fun _=>True) (FactP [.sc (.sl .u8)]):=⟨fun(x0,_)=>
  .val (w_big.f (x0,())) fun c1=>
  .ite c1 (.ret true)<|
  .cal s_DrawTickStack.c (x0,()) fun c2=>
  .cal i_TickStack.c (c2,()) fun c3=>
  .cal s_TickStack.c (c2,()) fun c4=>
  .bnd (β:=Bool×Unit) (.cal s_SameStack.c (c3.1,c4.1,()) fun c5=>
   .ite (!c5) (.ret (true,()))<|
   .cal w_sameTexts.c (c3.2,c4.2,()) fun c6=>
   .ret ((!c6),())) fun(u7a0,_)=>
  .ite u7a0 (.ret false)<|
  .cal s_StackOk.c (c2,()) fun c8=>
  .ite (!c8) (.cal s_SameStack.c (c3.1,c2,()) fun c9=>
   .ite c9 (.ret true)<|
   .cal s_StackOk.c (c2,()) fun c10=>
   .ite c10 (.cal i_StackOk.c (c3.1,()) fun c11=>
    .ret c11)<|
   .ret false)<|
  .cal s_StackOk.c (c2,()) fun c12=>
  .ite c12 (.cal i_StackOk.c (c3.1,()) fun c13=>
   .ret c13)<|
  .ret false,
 fun(x0,_) hp hf=>by
  simp only[FactP,Pk.fact,factH,factW,Fl.fact,Ty.fl,Ty.toH]at hf
  refine Tr.V fun _ _=>Tr.I (fun _=>Tr.R trivial) fun _=>Tr.C ?_ fun _ _ _=>Tr.C ?_ fun _ _ _=>Tr.C ?_ fun _ _ _=>Tr.B (Q':=fun _=>True) (Tr.C ?_ fun _ _ _=>Tr.I (fun _=>Tr.R trivial) fun _=>Tr.C ?_ fun _ _ _=>Tr.R trivial) (fun(u7a0,_) _ _=>Tr.I (fun _=>Tr.R trivial) fun _=>Tr.C ?_ fun _ _ _=>Tr.I (fun _=>Tr.C ?_ fun _ _ _=>Tr.I (fun _=>Tr.R trivial) fun _=>Tr.C ?_ fun _ _ _=>Tr.I (fun _=>Tr.C ?_ fun _ _ _=>Tr.R trivial) fun _=>Tr.R trivial) fun _=>Tr.C ?_ fun _ _ _=>Tr.I (fun _=>Tr.C ?_ fun _ _ _=>Tr.R trivial) fun _=>Tr.R trivial)
  all_goals ((try simp only[Tr.nice,letK]at*)<;>grind)⟩
noncomputable def w_FnTickStack_e:=entX st w_FnTickStack_x w_FnTickStack_o [] (ks:=[.sc (.sl .u8)]) w_FnTickStack (fun v=>[(false,[.c (.bool v)])]) Tryz.func5 trivial fun _=>by kernel_rfl
theorem q_WordOk (n b:Int):s_WordOk.f (n,b,())=i_WordOk.f (n,b,()):=by
 simp only[PX,s_WordOk,i_WordOk,s_l1In_eq,i_within_eq]
 cases h:(decide (1≤b)&&decide (b≤62))with
 |false=>simp only[cond_false]
 |true=>
  have h1:1≤b∧b≤62:=by simpa using h
  rw[wrapU_id (by omega) (by omega)]
theorem q_TupleOk (x:Tupl):s_TupleOk.f (x,())=i_TupleOk.f (x,()):=by
 simp only[PX,s_TupleOk,i_TupleOk,q_WordOk]
theorem q_OptionsOk (x:Opti):s_OptionsOk.f (x,())=i_OptionsOk.f (x,()):=by
 simp only[PX,s_OptionsOk,i_OptionsOk,q_WordOk,s_l1In_eq,i_within_eq]
theorem l4Rest_eq (x:Int):s_l4Rest.f (x,())=x%4294967296:=by
 simp only[PX,s_l4Rest]
 rcases Int.lt_or_le x 0 with h|h
 ·rw[(tmod_pos 4294967296).2 h,wrap64_def]
  cases hd:decide (-(-x%4294967296)<0)with
  |true=>simp only[decide_eq_true_eq]at hd;simp only[cond_true];omega
  |false=>simp only[decide_eq_false_iff_not]at hd;simp only[cond_false];omega
 ·rw[(tmod_pos 4294967296).1 h,wrap64_def]
  cases hd:decide (x%4294967296<0)with
  |true=>simp only[decide_eq_true_eq]at hd;omega
  |false=>rfl
theorem iSeqAdd_eq (a b:Int):i_SeqAdd.f (a,b,())=(a+b)%4294967296:=by
 simp only[PX,i_SeqAdd]
 rw[i64_mask32,wrap64_def];omega
theorem q_SeqAdd (a b:Int):s_SeqAdd.f (a,b,())=i_SeqAdd.f (a,b,()):=by
 rw[iSeqAdd_eq]
 simp only[PX,s_SeqAdd,l4Rest_eq,wrap64_def];omega
theorem q_SameMac (x y:Mac):s_SameMac.f (x,y,())=i_SameMac.f (x,y,()):=by
 simp only[PX,s_SameMac,i_SameMac,g_Equal_MacRow,s_SameMac_L0_d,g_Equal_MacRow_L0_d,s_SameMac_L0_T,g_Equal_MacRow_L0_T]
 have e1:(x.k != y.k)= !(x.k==y.k):=rfl
 have e2:(x.l != y.l)= !(x.l==y.l):=rfl
 rw[e1,e2]
 cases(x.use==y.use)<;>cases(x.k==y.k)<;>cases(x.l==y.l)<;>cases((x.rows.length:Int) != (y.rows.length:Int))<;>rfl
theorem q_PutWord (n b:Int):s_PutWord.f (n,b,())=i_PutWord.f (n,b,()):=by
 simp only[PX,s_PutWord,i_PutWord,q_WordOk,s_l1In_eq,i_within_eq,s_PutWord_L0_d,i_PutWord_L0_d]
 cases h1:(decide (1≤b)&&decide (b≤6))with
 |false=>rfl
 |true=>
  cases h2:i_WordOk.f (n,(IntKind.wrap .i64 (8*b)),())with
  |false=>rfl
  |true=>
   have hb:0≤n∧n≤9223372036854775807:=by
    revert h2
    simp only[PX,i_WordOk,i_within_eq]
    cases(decide (1≤IntKind.wrap .i64 (8*b))&&decide (IntKind.wrap .i64 (8*b)≤62))with
    |false=>simp
    |true=>
     simp only[cond_true,Bool.and_eq_true,decide_eq_true_eq]
     generalize(IntKind.wrap .i64 (1*2 ^ (min (IntKind.wrap .i64 (8*b)).toNat 64)))=z
     rw[wrap64_def]
     omega
   have e:∀k i r,forN (fun j a=>(s_PutWord_L0_T j a).nice) (-1) k i (n,r)=forN (fun j a=>(i_PutWord_L0_T j a).nice) (-1) k i (n,r):=by
    intro k i r
    refine forN_congrI (P:=fun a=>0≤a.1∧a.1≤9223372036854775807) (fun i a ha=> ?_) (fun i a a' ha he=> ?_) k i (n,r) hb
    ·simp only[PX,s_PutWord_L0_T,i_PutWord_L0_T]
     rw[(tdiv_pos 256).1 ha.1,(tmod_pos 256).1 ha.1,wrap64 (by omega) (by omega),Int.fdiv_eq_ediv_of_nonneg a.1 (by omega),wrap8_def,wrap8_def,Int.emod_emod]
    ·simp only[PX,s_PutWord_L0_T]at he
     cases he
     show 0≤IntKind.wrap .i64 (a.1.tdiv 256)∧_
     rw[(tdiv_pos 256).1 ha.1,wrap64 (by omega) (by omega)]
     omega
   simp only[e]
theorem MacOk_in (x:Mac)(r:List MacRow)(j:Nat)(hj:j<r.length)(hr:x.rows=r):
  Stp.elim (γ:=Stp Unit Unit) (fun _=> .next ()) (fun _=> .out ()) (forN (fun i a=>(s_MacOk_L0_0_T (j:Int) x i a).nice) 1 (Int.toNat ((j:Int)-0)) 0 ())=
  bif g_ContainsFunc_MacRow_i_MacOk_1.f (((r.take j).drop 0),(r.getD j (Ty.zero .macRow)),())then .out ()else .next ():=by
 subst hr
 let p:MacRow→Bool:=fun y=>y.input==(x.rows.getD j (Ty.zero .macRow)).input
 simp only[PX,g_ContainsFunc_MacRow_i_MacOk_1,g_IndexFunc_MacRow_i_MacOk_1,g_IndexFunc_MacRow_i_MacOk_1_L0_d]
 rw[List.drop_zero]
 have hl:(x.rows.take j).length=j:=by rw[List.length_take];omega
 rw[forN_list (x.rows.take j) _ (by rw[hl];simp) (F:=fun q y a=>bif p y then .out ()else .next ()) (by
  intro q y a h
  have hq:q<j:=by
   have:=(List.getElem?_eq_some_iff.1 h).1;omega
  have h2:x.rows[q]? =some y:=by rw[List.getElem?_take]at h;simpa [hq]using h
  simp only[PX,s_MacOk_L0_0_T,toNat_cast,getD_some h2,p])]
 rw[forN_list (x.rows.take j) _ (by simp) (F:=fun q y a=>bif p y then .out (q:Int)else .next ()) (by
  intro q y a h
  simp only[PX,g_IndexFunc_MacRow_i_MacOk_1_L0_T,i_MacOk_1,toNat_cast,getD_some h,p])]
 rw[listN_find (w:=fun _ _=>()),listN_find (w:=fun j _=>(j:Int))]
 cases h:(x.rows.take j).findIdx? p with
 |none=>simp[PX,Stp.elim]
 |some i=>
  have:=(List.findIdx?_eq_some_iff_getElem.1 h).1
  simp only[List.getElem?_eq_getElem this,Stp.elim]
  simp[PX]
theorem q_MacOk (x:Mac):s_MacOk.f (x,())=i_MacOk.f (x,()):=by
 simp only[PX,s_MacOk,i_MacOk,s_MacOk_L0_d,i_MacOk_L0_d]
 have e:forN (fun j a=>(s_MacOk_L0_T x j a).nice) 1 (Int.toNat ((x.rows.length:Int)-0)) 0 ()=forN (fun j a=>(i_MacOk_L0_T x.rows x j a).nice) 1 (Int.toNat ((x.rows.length:Int)-0)) 0 ():=by
  rw[toNat_sub0]
  refine forN_ext x.rows.length 0 () (fun j a hj=> ?_)
  have:=MacOk_in x x.rows j (by omega) rfl
  simp only[PX,s_MacOk_L0_T,i_MacOk_L0_T,s_MacOk_L0_0_d,toNat_cast,s_l1In_eq,i_within_eq]at this⊢
  rw[this]
 rw[e]
 have e1:(x.k != 0)= !(x.k==0):=rfl
 have e2:(x.l != 0)= !(x.l==0):=rfl
 have e3:decide (64<(x.rows.length:Int))= !decide ((x.rows.length:Int)≤64):=by
  rcases Int.lt_or_le 64 (x.rows.length:Int)with h|h
  ·simp[h,show¬((x.rows.length:Int)≤64) by omega]
  ·simp[h,show¬(64<(x.rows.length:Int)) by omega]
 rw[e1,e2,e3]
 generalize forN (fun j a=>(i_MacOk_L0_T x.rows x j a).nice) 1 (Int.toNat ((x.rows.length:Int)-0)) 0 ()=z
 cases x.use<;>cases z<;>cases(x.k==0)<;>cases(x.l==0)<;>cases decide ((x.rows.length:Int)≤64)<;>simp[PX,Stp.elim]
theorem q_KeysOk (k:Keys):s_KeysOk.f (k,())=i_KeysOk.f (k,()):=by
 simp only[PX,s_KeysOk,i_KeysOk,q_WordOk,q_MacOk,q_SameMac,i_WordOk_32,i_within_eq]
 cases ht:k.two<;>simp only[PX,cond_true,cond_false,ht]<;>cases i_MacOk.f (k.now,())<;>cases i_MacOk.f (k.before,())<;>grind
theorem q_l11Copy (m:Mac):s_l11Copy.f (m,())=m:=by simp only[PX,s_l11Copy,List.nil_append]
theorem q_cloneMac (m:Mac):i_cloneMac.f (m,())=m:=by simp only[PX,i_cloneMac,g_Clone_MacRow]
theorem q_SegmentOk (x:Segm):s_SegmentOk.f (x,())=i_SegmentOk.f (x,()):=by simp only[PX,s_SegmentOk,i_SegmentOk,q_WordOk,q_OptionsOk]
theorem l1Max0 (x:Int):s_l1Max.f (0,x,())=(if 0<x then x else 0):=by
 rw[s_l1Max_eq];grind
theorem forN_nextP {A W:Type}{f:Int→A→Stp A W}{st:Int}{P:A→Prop}(hp:∀i a a',P a→f i a= .next a'→P a'):∀(k:Nat) (i:Int) (a a':A),P a→forN f st k i a= .next a'→P a'
 |0,_,_,_,ha,h=>by cases h;exact ha
 |k+1,i,a,a',ha,h=>by
  simp only[forN]at h
  cases hf:f i a with
  |out w'=>rw[hf]at h;cases h
  |next a1=>rw[hf]at h;exact forN_nextP hp k _ a1 a' (hp i a a1 ha hf) h
def fidx {T:Type}(p:T→Bool)(xs:List T):Int:=match xs.findIdx? p with|none=> -1|some i=>(i:Int)
theorem forN_fidx {T:Type}(p:T→Bool)(xs:List T){f:Int→Unit→Stp Unit Int}(h:∀(j:Nat) x a,xs[j]? =some x→f j a=bif p x then .out (j:Int)else .next ()):
  forN f 1 (Int.toNat ((xs.length:Int)-0)) 0 ()=match xs.findIdx? p with|none=> .next ()|some i=> .out (i:Int):=by
 rw[toNat_sub0,forN_list xs _ rfl h,listN_find (w:=fun j _=>(j:Int))]
 cases hf:xs.findIdx? p with
 |none=>rfl
 |some i=>
  obtain⟨h1,_,_⟩:=List.findIdx?_eq_some_iff_getElem.1 hf
  simp only[List.getElem?_eq_getElem h1,Nat.zero_add]
theorem fidx_nn {T:Type}(p:T→Bool)(xs:List T):decide (0≤fidx p xs)=xs.any p:=by
 unfold fidx
 cases h:xs.findIdx? p with
 |none=>
  rw[List.findIdx?_eq_none_iff]at h
  symm
  show xs.any p=false
  rw[List.any_eq_false]
  intro x hx;simp[h x hx]
 |some i=>
  obtain⟨h1,h2,_⟩:=List.findIdx?_eq_some_iff_getElem.1 h
  have:xs.any p=true:=by rw[List.any_eq_true];exact⟨xs[i],List.getElem_mem h1,h2⟩
  rw[this];simp
theorem fidx_lt {T:Type}(p:T→Bool)(xs:List T):decide (fidx p xs<0)= !xs.any p:=by
 rw[←fidx_nn]
 by_cases h:0≤fidx p xs
 ·rw[decide_eq_true h,decide_eq_false (by omega)];rfl
 ·rw[decide_eq_false h,decide_eq_true (by omega)];rfl
theorem fidx_at {T:Type}(p:T→Bool)(xs:List T)(j:Nat)(x:T)(hx:xs[j]? =some x)(hp:p x=true):(fidx p xs != (j:Int))=(xs.take j).any p:=by
 obtain⟨hj,rfl⟩:=List.getElem?_eq_some_iff.1 hx
 unfold fidx
 cases h:xs.findIdx? p with
 |none=>
  rw[List.findIdx?_eq_none_iff]at h
  have:=h _ (List.getElem_mem hj)
  rw[hp]at this;cases this
 |some i=>
  obtain⟨h1,h2,h3⟩:=List.findIdx?_eq_some_iff_getElem.1 h
  simp only[]
  rw[Bool.eq_iff_iff]
  simp only[bne_iff_ne,ne_eq,List.any_eq_true]
  constructor
  ·intro hne
   have hij:i<j:=by
    rcases Nat.lt_or_ge i j with h4|h4
    ·exact h4
    ·have h5:j<i:=by omega
     have:=h3 j h5
     simp[hp]at this
   refine⟨xs[i], ?_,h2⟩
   rw[List.mem_take_iff_getElem]
   exact⟨i,by omega,rfl⟩
  ·rintro⟨y,hy,hpy⟩ he
   rw[List.mem_take_iff_getElem]at hy
   obtain⟨k,hk,rfl⟩:=hy
   have:k<i:=by omega
   have:=h3 k this
   simp[hpy]at this
def eqT (t y:Tupl):Bool:=(y.ip==t.ip)&&((y.port==t.port)&&((y.my==t.my)&&true))
theorem eqT_refl (t:Tupl):eqT t t=true:=by simp[eqT]
theorem s_FindHalf_eq2 (xs:List Half)(t:Tupl):s_FindHalf.f (xs,t,())=fidx (fun h=>eqT t h.tuple) xs:=by
 simp only[PX,s_FindHalf,s_FindHalf_L0_d]
 rw[forN_fidx (fun h:Half=>eqT t h.tuple) xs (fun j x a h=>by
  simp only[PX,s_FindHalf_L0_T,toNat_cast,getD_some h,eqT])]
 unfold fidx
 cases xs.findIdx? (fun h=>eqT t h.tuple)<;>rfl
theorem i_FindHalf_eq2 (xs:List Half)(t:Tupl):i_FindHalf.f (xs,t,())=fidx (fun h=>eqT t h.tuple) xs:=by
 simp only[PX,i_FindHalf,g_IndexFunc_Half_i_FindHalf_1,g_IndexFunc_Half_i_FindHalf_1_L0_d]
 rw[forN_fidx (fun h:Half=>eqT t h.tuple) xs (fun j x a h=>by
  simp only[PX,g_IndexFunc_Half_i_FindHalf_1_L0_T,i_FindHalf_1,toNat_cast,getD_some h,eqT])]
 unfold fidx
 cases xs.findIdx? (fun h=>eqT t h.tuple)<;>rfl
theorem s_FindConn_eq2 (x:Tabl)(t:Tupl):s_FindConn.f (x,t,())=fidx (fun h=>eqT t h.tuple) x.conns:=by
 simp only[PX,s_FindConn,s_FindConn_L0_d]
 rw[forN_fidx (fun h:Conn=>eqT t h.tuple) x.conns (fun j x a h=>by
  simp only[PX,s_FindConn_L0_T,toNat_cast,getD_some h,eqT])]
 unfold fidx
 cases x.conns.findIdx? (fun h=>eqT t h.tuple)<;>rfl
theorem i_FindConn_eq2 (x:Tabl)(t:Tupl):i_FindConn.f (x,t,())=fidx (fun h=>eqT t h.tuple) x.conns:=by
 simp only[PX,i_FindConn,g_IndexFunc_Conn_i_FindConn_1,g_IndexFunc_Conn_i_FindConn_1_L0_d]
 rw[forN_fidx (fun h:Conn=>eqT t h.tuple) x.conns (fun j x a h=>by
  simp only[PX,g_IndexFunc_Conn_i_FindConn_1_L0_T,i_FindConn_1,toNat_cast,getD_some h,eqT])]
 unfold fidx
 cases x.conns.findIdx? (fun h=>eqT t h.tuple)<;>rfl
theorem q_FindConn (x:Tabl)(t:Tupl):s_FindConn.f (x,t,())=i_FindConn.f (x,t,()):=by rw[s_FindConn_eq2,i_FindConn_eq2]
theorem q_WindowOf (x:Recv):s_WindowOf.f (x,())=i_WindowOf.f (x,()):=by
 simp only[PX,s_WindowOf,i_WindowOf,l1Max0]
theorem WindowOf_le (x:Recv)(h:(x.data.length:Int)≤32):i_WindowOf.f (x,())≤32:=by
 simp only[PX,i_WindowOf]
 cases x.done with
 |true=>simp only[cond_true];omega
 |false=>
  simp only[cond_false]
  rw[wrap64 (by omega) (by omega)]
  split<;>omega
theorem q_SenderOk (x:Sndr):s_SenderOk.f (x,())=i_SenderOk.f (x,()):=by
 simp only[PX,s_SenderOk,i_SenderOk,q_WordOk,s_l1In_eq,i_within_eq]
def walkP (L:Int):Int→List Piec→Option Int
 |a,[]=>some a
 |a,p::r=>bif (p.text==[])||decide (p.off≤a)||decide (L<p.off+(p.text.length:Int))then none else walkP L (p.off+(p.text.length:Int)) r
theorem walkP_le (L:Int):∀(r:List Piec) (a b:Int),walkP L a r=some b→a≤b∧(a≤L→b≤L)
 |[],a,b,h=>by cases h;exact⟨Int.le_refl _,fun h=>h⟩
 |p::r,a,b,h=>by
  simp only[walkP]at h
  cases hc:((p.text==[])||decide (p.off≤a)||decide (L<p.off+(p.text.length:Int)))with
  |true=>rw[hc]at h;cases h
  |false=>
   rw[hc]at h
   simp only[Bool.or_eq_false_iff,decide_eq_false_iff_not]at hc
   have:=walkP_le L r _ b h
   omega
theorem walkP_sub (L M:Int)(hLM:L≤M):∀(r:List Piec) (a:Int),a≤L→walkP L a r=(match walkP M a r with|some b=>bif decide (b≤L)then some b else none|none=>none)
 |[],a,h=>by simp only[walkP,decide_eq_true h,cond_true]
 |p::r,a,h=>by
  simp only[walkP]
  cases h1:((p.text==[])||decide (p.off≤a))with
  |true=>simp only[Bool.true_or,cond_true]
  |false=>
   simp only[Bool.false_or]
   by_cases h2:L<p.off+(p.text.length:Int)
   ·rw[decide_eq_true h2]
    simp only[cond_true]
    by_cases h3:M<p.off+(p.text.length:Int)
    ·rw[decide_eq_true h3];rfl
    ·rw[decide_eq_false h3]
     simp only[cond_false]
     cases hw:walkP M (p.off+(p.text.length:Int)) r with
     |none=>rfl
     |some b=>
      have:=(walkP_le M r _ b hw).1
      simp only[]
      rw[decide_eq_false (by omega)]
      rfl
   ·rw[decide_eq_false h2,decide_eq_false (show¬M<p.off+(p.text.length:Int) by omega)]
    simp only[cond_false]
    exact walkP_sub L M hLM r _ (by omega)
def SmallP (xs:List Piec):Prop:=∀y∈xs,y.text.length≤4611686018427387904
theorem text_pos {s:Bytes}(h:(s==[])=false):0<s.length:=by
 cases s with
 |nil=>cases h
 |cons=>simp
theorem listN_walk {W:Type}{F:Nat→Piec→Int→Stp Int W}{L:Int}{w:W}:∀(r:List Piec) (j:Nat) (a:Int),0≤a→a≤32→L≤32→(∀p∈r,∀j a,0≤a→a≤32→(∃w,(p.text==[]||decide (p.off≤a)||decide (L<p.off+(p.text.length:Int)))=true∧F j p a= .out w)∨((p.text==[]||decide (p.off≤a)||decide (L<p.off+(p.text.length:Int)))=false∧F j p a= .next (p.off+(p.text.length:Int))))→
  (match walkP L a r with|some b=>listN F j r a= .next b|none=>∃w,listN F j r a= .out w)
 |[],j,a,_,_,_,_=>rfl
 |p::r,j,a,h0,h1,hL,hF=>by
  rcases hF p List.mem_cons_self j a h0 h1 with⟨w,hc,hf⟩|⟨hc,hf⟩
  ·simp only[walkP,hc,cond_true,listN,hf,Stp.elim]
   exact⟨w,rfl⟩
  ·simp only[walkP,hc,cond_false,listN,hf,Stp.elim]
   simp only[Bool.or_eq_false_iff,decide_eq_false_iff_not]at hc
   exact listN_walk (w:=w) r (j+1) _ (by omega) (by omega) hL fun q hq=>hF q (List.mem_cons_of_mem _ hq)
theorem s_walk (x:Recv)(L:Int)(hL:L≤32)(hs:SmallP x.held):match walkP L 0 x.held with|some b=>forN (fun j a=>(s_ReceiverOk_L0_T L x j a).nice) 1 (Int.toNat ((x.held.length:Int)-0)) 0 0= .next b|none=>∃w,forN (fun j a=>(s_ReceiverOk_L0_T L x j a).nice) 1 (Int.toNat ((x.held.length:Int)-0)) 0 0= .out w:=by
 rw[toNat_sub0,forN_list x.held _ rfl (F:=fun j p a=>(s_ReceiverOk_L0_T L {x with held:=[p]} 0 a).nice) (by
  intro j p a h
  simp only[PX,s_ReceiverOk_L0_T,toNat_cast,getD_some h]
  rfl)]
 refine listN_walk (w:=(0:Int)) _ _ _ (by omega) (by omega) hL fun p hp j a h0 h1=> ?_
 have hl:=hs p hp
 simp only[PX,s_ReceiverOk_L0_T,show Int.toNat 0=0 from rfl,List.getD_cons_zero]
 cases h2:(p.text==[])with
 |true=>exact .inl ⟨_,rfl,rfl⟩
 |false=>
  have hp:=text_pos h2
  cases h3:decide (p.off≤a)with
  |true=>exact .inl ⟨_,rfl,rfl⟩
  |false=>
   simp only[decide_eq_false_iff_not]at h3
   simp only[cond_false,Bool.false_or]
   by_cases h4:L<p.off
   ·refine .inl ⟨a,decide_eq_true (by omega), ?_⟩
    rw[decide_eq_true h4];rfl
   ·rw[decide_eq_false h4,wrap64 (by omega) (by omega)]
    simp only[cond_false]
    by_cases h5:L<p.off+(p.text.length:Int)
    ·rw[decide_eq_true h5];exact .inl ⟨_,rfl,rfl⟩
    ·rw[decide_eq_false h5];exact .inr ⟨rfl,rfl⟩
theorem i_walk (x:Recv)(L:Int)(hL0: -9223372036854775808≤L-4611686018427387904)(hL:L≤32)(hs:SmallP x.held):match walkP L 0 x.held with|some b=>forN (fun j a=>(i_ReceiverOk_L0_T L x.held j a).nice) 1 (Int.toNat ((x.held.length:Int)-0)) 0 0= .next b|none=>∃w,forN (fun j a=>(i_ReceiverOk_L0_T L x.held j a).nice) 1 (Int.toNat ((x.held.length:Int)-0)) 0 0= .out w:=by
 rw[toNat_sub0,forN_list x.held _ rfl (F:=fun j p a=>(i_ReceiverOk_L0_T L [p] 0 a).nice) (by
  intro j p a h
  simp only[PX,i_ReceiverOk_L0_T,toNat_cast,getD_some h]
  rfl)]
 refine listN_walk (w:=()) _ _ _ (by omega) (by omega) hL fun p hp j a h0 h1=> ?_
 have hl:=hs p hp
 simp only[PX,i_ReceiverOk_L0_T,show Int.toNat 0=0 from rfl,List.getD_cons_zero]
 cases h2:(p.text==[])with
 |true=>exact .inl ⟨_,rfl,rfl⟩
 |false=>
  have hp:=text_pos h2
  cases h3:decide (p.off≤a)with
  |true=>exact .inl ⟨_,rfl,rfl⟩
  |false=>
   simp only[decide_eq_false_iff_not]at h3
   simp only[cond_false,Bool.false_or]
   rw[wrap64 (m:=L-(p.text.length:Int)) (by omega) (by omega)]
   by_cases h5:L<p.off+(p.text.length:Int)
   ·rw[decide_eq_true h5,decide_eq_true (by omega)];exact .inl ⟨_,rfl,rfl⟩
   ·rw[decide_eq_false h5,decide_eq_false (by omega),wrap64 (by omega) (by omega)];exact .inr ⟨rfl,rfl⟩
theorem q_ReceiverOk (x:Recv)(hs:SmallP x.held):s_ReceiverOk.f (x,())=i_ReceiverOk.f (x,()):=by
 simp only[PX,s_ReceiverOk,i_ReceiverOk,s_ReceiverOk_L0_d,i_ReceiverOk_L0_d,q_WordOk,s_l1In_eq,q_WindowOf]
 cases i_WordOk.f (x.next,32,())with
 |false=>rfl
 |true=>
  by_cases hd:32<(x.data.length:Int)
  ·rw[decide_eq_true hd];rfl
  ·rw[decide_eq_false hd]
   have hw:=WindowOf_le x (by omega)
   simp only[Bool.not_true,cond_false]
   cases decide (3<(x.held.length:Int))with
   |true=>rfl
   |false=>
    simp only[cond_false]
    rw[i_within_eq]
    by_cases hf: -1≤x.fin∧x.fin≤i_WindowOf.f (x,())
    ·rw[decide_eq_true hf.1,decide_eq_true hf.2]
     simp only[Bool.and_self,Bool.not_true,cond_false]
     cases h0:(x.fin==0)with
     |true=>rfl
     |false=>
      simp only[cond_false]
      have h0:x.fin≠0:=by simpa using h0
      have k1:=s_walk x (i_WindowOf.f (x,())) hw hs
      by_cases h1:x.fin= -1
      ·have k2:=i_walk x (i_WindowOf.f (x,())) (by omega) hw hs
       rw[show(x.fin != -1)=false by simp[h1],show decide (x.fin<0)=true from decide_eq_true (by omega)]
       simp only[cond_true,cond_false]
       cases hp:walkP (i_WindowOf.f (x,())) 0 x.held with
       |some b=>rw[hp]at k1 k2;simp only[]at k1 k2;rw[k1,k2];rfl
       |none=>rw[hp]at k1 k2;obtain⟨w1,k1⟩:=k1;obtain⟨w2,k2⟩:=k2;rw[k1,k2];rfl
      ·have k2:=i_walk x x.fin (by omega) (by omega) hs
       rw[show(x.fin != -1)=true by simp[h1],show decide (x.fin<0)=false from decide_eq_false (by omega)]
       simp only[cond_true,cond_false]
       rw[walkP_sub x.fin (i_WindowOf.f (x,())) (by omega) x.held 0 (by omega)]at k2
       cases hp:walkP (i_WindowOf.f (x,())) 0 x.held with
       |none=>rw[hp]at k1 k2;obtain⟨w1,k1⟩:=k1;obtain⟨w2,k2⟩:=k2;rw[k1,k2];rfl
       |some b=>
        rw[hp]at k1 k2
        simp only[]at k1 k2
        rw[k1]
        by_cases hb:b≤x.fin
        ·rw[decide_eq_true hb]at k2
         simp only[cond_true]at k2
         rw[k2];simp only[Stp.elim,decide_eq_true hb,cond_true]
        ·rw[decide_eq_false hb]at k2
         obtain⟨w2,k2⟩:=k2
         rw[k2];simp only[Stp.elim,decide_eq_false hb,cond_false]
    ·have:(decide (-1≤x.fin)&&decide (x.fin≤i_WindowOf.f (x,())))=false:=by
      rw[Bool.and_eq_false_iff];simp only[decide_eq_false_iff_not];omega
     rw[this];rfl
theorem q_ConnOk (x:Conn)(hs:SmallP x.r.held):s_ConnOk.f (x,())=i_ConnOk.f (x,()):=by
 simp only[PX,s_ConnOk,i_ConnOk,s_l19Fin,q_TupleOk,q_SenderOk,q_ReceiverOk x.r hs,q_OptionsOk,s_l1In_eq,i_within_eq]
 cases i_TupleOk.f (x.tuple,())with
 |false=>rfl
 |true=>
 cases i_SenderOk.f (x.s,())with
 |false=>rfl
 |true=>
 cases i_ReceiverOk.f (x.r,())with
 |false=>rfl
 |true=>
 cases i_OptionsOk.f (x.opts,())with
 |false=>rfl
 |true=>
 simp only[Bool.not_true,cond_false]
 have hm:(bif !(decide (0≤x.window)&&decide (x.window≤x.most))then true else decide (1073725440<x.most))=(bif !(decide (0≤x.most)&&decide (x.most≤1073725440))then true else !(decide (0≤x.window)&&decide (x.window≤x.most))):=by
  rw[Bool.eq_iff_iff]
  by_cases h1:0≤x.window<;>by_cases h2:x.window≤x.most<;>by_cases h3:1073725440<x.most<;>by_cases h4:0≤x.most<;>by_cases h5:x.most≤1073725440<;>simp[h1,h2,h3,h4,h5]<;>omega
 have ej:∀b:Bool,(bif b then(false,(4:Int),x,())else(false,3,x,()))=(false,(bif b then 4 else 3),x,()):=fun b=>by cases b<;>rfl
 have et:∀b:Bool,decide (x.timer≤bif b then 4 else 3)=bif b then decide (x.timer≤4)else decide (x.timer≤3):=fun b=>by cases b<;>rfl
 simp only[ej,et]
 revert hm
 generalize(decide (0≤x.window)&&decide (x.window≤x.most))=W
 generalize decide (1073725440<x.most)=M
 generalize(decide (0≤x.most)&&decide (x.most≤1073725440))=N
 generalize(decide (0≤x.tries)&&decide (x.tries≤3))=T
 generalize decide (0≤x.timer)=T0
 generalize decide (x.timer≤4)=T4
 generalize decide (x.timer≤3)=T3
 generalize x.s.fin=sf
 generalize x.s.done=sd
 generalize x.r.done=rd
 generalize x.state=k
 have hk:k=1∨k=2∨k=3∨k=4∨k=5∨k=6∨k=7∨k=8∨(decide (1≤k)&&decide (k≤8))=false:=by
  simp only[Bool.and_eq_false_iff,decide_eq_false_iff_not];omega
 rcases hk with rfl|rfl|rfl|rfl|rfl|rfl|rfl|rfl|hk
 iterate 8 (revert W M N T T0 T4 T3 sf sd rd;decide+kernel)
 intro _;simp only[hk];rfl
theorem q_LimitsOk (x:Limi):s_LimitsOk.f (x,())=i_LimitsOk.f (x,()):=by
 simp only[PX,s_LimitsOk,i_LimitsOk,s_l1In_eq,i_within_eq]
theorem forN_same {T V W:Type}(xs:List T){f:Int→Unit→Stp Unit V}{g:Int→Unit→Stp Unit W}{k:Nat}(hk:k=xs.length)(h:∀(j:Nat) x,xs[j]? =some x→(∃v w,f j ()= .out v∧g j ()= .out w)∨(f j ()= .next ()∧g j ()= .next ())):
  (∃v w,forN f 1 k 0 ()= .out v∧forN g 1 k 0 ()= .out w)∨(forN f 1 k 0 ()= .next ()∧forN g 1 k 0 ()= .next ()):=by
 subst hk
 have:∀(n i:Nat),i+n=xs.length→(∃v w,forN f 1 n (i:Int) ()= .out v∧forN g 1 n (i:Int) ()= .out w)∨(forN f 1 n (i:Int) ()= .next ()∧forN g 1 n (i:Int) ()= .next ()):=by
  intro n
  induction n with
  |zero=>intro i _;exact .inr ⟨rfl,rfl⟩
  |succ n ih=>
   intro i hi
   rcases h i xs[i] (List.getElem?_eq_getElem (by omega))with⟨v,w,h1,h2⟩|⟨h1,h2⟩
   ·exact .inl ⟨v,w,by simp only[forN,h1,Stp.elim],by simp only[forN,h2,Stp.elim]⟩
   ·simp only[forN,h1,h2,Stp.elim]
    have:=ih (i+1) (by omega)
    rwa [show((i+1:Nat):Int)=(i:Int)+1 by omega]at this
 exact this xs.length 0 (by omega)
theorem l25Waits_any (xs:List Tupl)(t:Tupl):s_l25Waits.f (xs,t,())=xs.any (eqT t):=by
 simp only[PX,s_l25Waits,s_l25Waits_L0_d]
 rw[toNat_sub0,forN_list xs _ rfl (F:=fun j y a=>bif eqT t y then .out ()else .next ()) (by
  intro j y a h
  simp only[PX,s_l25Waits_L0_T,toNat_cast,getD_some h,eqT])]
 rw[listN_find (p:=eqT t) (w:=fun _ _=>())]
 cases h:xs.findIdx? (eqT t)with
 |none=>
  rw[List.findIdx?_eq_none_iff]at h
  simp only[Stp.elim]
  symm
  rw[List.any_eq_false]
  intro x hx;simp[h x hx]
 |some i=>
  obtain⟨h1,h2,_⟩:=List.findIdx?_eq_some_iff_getElem.1 h
  simp only[List.getElem?_eq_getElem h1,Stp.elim]
  symm
  rw[List.any_eq_true];exact⟨xs[i],List.getElem_mem h1,h2⟩
theorem Index_Tuple_eq2 (xs:List Tupl)(t:Tupl):g_Index_Tuple.f (xs,t,())=fidx (eqT t) xs:=by
 have e:∀a b:Int,(a==b)=(b==a):=fun a b=>by rw[Bool.eq_iff_iff];simp only[beq_iff_eq];exact eq_comm
 simp only[PX,g_Index_Tuple,g_Index_Tuple_L0_d]
 rw[forN_fidx (eqT t) xs (fun j x a h=>by
  simp only[PX,g_Index_Tuple_L0_T,toNat_cast,getD_some h,eqT,e t.ip,e t.port,e t.my])]
 unfold fidx
 cases xs.findIdx? (eqT t)<;>rfl
theorem mem_at {T:Type}{xs:List T}{j:Nat}{x:T}(h:xs[j]? =some x):x∈xs:=List.mem_of_getElem? h
theorem q_TableOk (x:Tabl)(l:Limi)(hs:∀y∈x.conns,SmallP y.r.held):s_TableOk.f (x,l,())=i_TableOk.f (x,l,()):=by
 simp only[PX,s_TableOk,i_TableOk,s_TableOk_L0_d,i_TableOk_L0_d,s_TableOk_L1_d,i_TableOk_L1_d,q_LimitsOk]
 have h1:=forN_same x.conns (f:=fun j a=>(s_TableOk_L0_T x j a).nice) (g:=fun j a=>(i_TableOk_L0_T x.conns x j a).nice) (k:=Int.toNat ((x.conns.length:Int)-0)) (toNat_sub0 _) (fun j y hy=>by
  simp only[PX,s_TableOk_L0_T,i_TableOk_L0_T,toNat_cast,getD_some hy,q_ConnOk y (hs y (mem_at hy)),q_FindConn]
  cases i_ConnOk.f (y,())with
  |false=>exact .inl ⟨_,_,rfl,rfl⟩
  |true=>cases(i_FindConn.f (x,y.tuple,()) != (j:Int))with
   |true=>exact .inl ⟨_,_,rfl,rfl⟩
   |false=>exact .inr ⟨rfl,rfl⟩)
 have h2:=forN_same x.waiting (f:=fun j a=>(s_TableOk_L1_T x j a).nice) (g:=fun j a=>(i_TableOk_L1_T x.waiting x j a).nice) (k:=Int.toNat ((x.waiting.length:Int)-0)) (toNat_sub0 _) (fun j y hy=>by
  simp only[PX,s_TableOk_L1_T,i_TableOk_L1_T,toNat_cast,getD_some hy,l25Waits_any,Index_Tuple_eq2,q_FindConn,List.drop_zero]
  rw[fidx_at (eqT y) x.waiting j y hy (eqT_refl y)]
  cases(x.waiting.take j).any (eqT y)<;>cases decide (i_FindConn.f (x,y,())<0)<;>first|exact .inl ⟨_,_,rfl,rfl⟩|exact .inr ⟨rfl,rfl⟩)
 rcases h1 with⟨v,w,h3,h4⟩|⟨h3,h4⟩
 ·rw[h3,h4]
  cases(i_LimitsOk.f (l,()))<;>cases decide (l.conns<(x.conns.length:Int))<;>cases decide (l.waiting<(x.waiting.length:Int))<;>rfl
 ·rw[h3,h4]
  rcases h2 with⟨v,w,h5,h6⟩|⟨h5,h6⟩
  ·rw[h5,h6]
   all_goals (cases(i_LimitsOk.f (l,()))<;>cases decide (l.conns<(x.conns.length:Int))<;>cases decide (l.waiting<(x.waiting.length:Int))<;>rfl)
  ·rw[h5,h6]
   all_goals (cases(i_LimitsOk.f (l,()))<;>cases decide (l.conns<(x.conns.length:Int))<;>cases decide (l.waiting<(x.waiting.length:Int))<;>rfl)
theorem q_HalvesOk (xs:List Half):s_HalvesOk.f (xs,())=i_HalvesOk.f (xs,()):=by
 simp only[PX,s_HalvesOk,i_HalvesOk,s_HalvesOk_L0_d,i_HalvesOk_L0_d]
 have h1:=forN_same xs (f:=fun j a=>(s_HalvesOk_L0_T xs j a).nice) (g:=fun j a=>(i_HalvesOk_L0_T xs xs j a).nice) (k:=Int.toNat ((xs.length:Int)-0)) (toNat_sub0 _) (fun j y hy=>by
  simp only[PX,s_HalvesOk_L0_T,i_HalvesOk_L0_T,toNat_cast,getD_some hy,q_TupleOk,q_WordOk,q_OptionsOk,s_l1In_eq,i_within_eq,s_FindHalf_eq2,i_FindHalf_eq2,List.drop_zero,fidx_nn]
  rw[fidx_at (fun h:Half=>eqT y.tuple h.tuple) xs j y hy (eqT_refl _)]
  cases i_TupleOk.f (y.tuple,())with
  |false=>exact .inl ⟨_,_,rfl,rfl⟩
  |true=>
  cases i_WordOk.f (y.iss,32,())with
  |false=>exact .inl ⟨_,_,rfl,rfl⟩
  |true=>
  cases i_WordOk.f (y.irs,32,())with
  |false=>exact .inl ⟨_,_,rfl,rfl⟩
  |true=>
  cases i_WordOk.f (y.window,16,())with
  |false=>exact .inl ⟨_,_,rfl,rfl⟩
  |true=>
  cases i_OptionsOk.f (y.opts,())with
  |false=>exact .inl ⟨_,_,rfl,rfl⟩
  |true=>
  cases(decide (0≤y.age)&&decide (y.age≤6))with
  |false=>exact .inl ⟨_,_,rfl,rfl⟩
  |true=>
  cases(xs.take j).any (fun h=>eqT y.tuple h.tuple)with
  |true=>exact .inl ⟨_,_,rfl,rfl⟩
  |false=>exact .inr ⟨rfl,rfl⟩)
 rcases h1 with⟨v,w,h3,h4⟩|⟨h3,h4⟩<;>rw[h3,h4]<;>by_cases h:64<(xs.length:Int)
 ·rw[decide_eq_true h];rfl
 ·rw[decide_eq_false h];rfl
 ·rw[decide_eq_true h];simp only[Stp.elim,cond_true];exact decide_eq_false (by omega)
 ·rw[decide_eq_false h];simp only[Stp.elim,cond_false];exact decide_eq_true (by omega)
theorem DoorOk_any (d:Door)(xs:List Half):g_ContainsFunc_Half_i_DoorOk_1.f (xs,d,())=xs.any (fun h=>decide (0≤i_FindConn.f (d.table,h.tuple,()))):=by
 simp only[PX,g_ContainsFunc_Half_i_DoorOk_1,g_IndexFunc_Half_i_DoorOk_1,g_IndexFunc_Half_i_DoorOk_1_L0_d]
 rw[forN_fidx (fun h:Half=>decide (0≤i_FindConn.f (d.table,h.tuple,()))) xs (fun j y a h=>by
  simp only[PX,g_IndexFunc_Half_i_DoorOk_1_L0_T,i_DoorOk_1,toNat_cast,getD_some h])]
 rw[←fidx_nn]
 unfold fidx
 cases xs.findIdx? (fun h=>decide (0≤i_FindConn.f (d.table,h.tuple,())))<;>rfl
theorem listN_any {T:Type}(p:T→Bool)(xs:List T)(j:Nat):listN (W:=Unit) (fun _ y (_:Unit)=>bif p y then .out ()else .next ()) j xs ()=bif xs.any p then .out ()else .next ():=by
 rw[listN_find (w:=fun _ _=>())]
 cases h:xs.findIdx? p with
 |none=>
  rw[List.findIdx?_eq_none_iff]at h
  have:xs.any p=false:=by
   rw[List.any_eq_false]
   intro y hy;simp[h y hy]
  rw[this];rfl
 |some i=>
  obtain⟨h1,h2,_⟩:=List.findIdx?_eq_some_iff_getElem.1 h
  have:xs.any p=true:=by rw[List.any_eq_true];exact⟨xs[i],List.getElem_mem h1,h2⟩
  rw[this];simp only[List.getElem?_eq_getElem h1];rfl
theorem q_DoorOk (x:Door)(hs:∀y∈x.table.conns,SmallP y.r.held):s_DoorOk.f (x,())=i_DoorOk.f (x,()):=by
 simp only[PX,s_DoorOk,i_DoorOk,s_DoorOk_L0_d,q_WordOk,q_KeysOk,q_TableOk x.table x.limits hs,q_HalvesOk,s_l1In_eq,i_within_eq,DoorOk_any]
 rw[toNat_sub0,forN_list x.halves _ rfl (F:=fun j y a=>bif decide (0≤i_FindConn.f (x.table,y.tuple,()))then .out ()else .next ()) (by
  intro j y a h
  simp only[PX,s_DoorOk_L0_T,toNat_cast,getD_some h,q_FindConn])]
 rw[listN_any (fun y:Half=>decide (0≤i_FindConn.f (x.table,y.tuple,())))]
 cases x.halves.any (fun y=>decide (0≤i_FindConn.f (x.table,y.tuple,())))<;>rfl
theorem listN_copy:∀(r:List Conn) (j:Nat) (c:List Conn) (w:List Tupl),listN (W:=Empty) (fun _ x (a:Tabl×Tabl)=> .next ((⟨[],[]⟩:Tabl),(⟨a.2.conns++[x],a.2.waiting⟩:Tabl))) j r (⟨[],[]⟩,⟨c,w⟩)= .next (⟨[],[]⟩,⟨c++r,w⟩)
 |[],_,c,w=>by simp only[listN,List.append_nil]
 |x::r,j,c,w=>by
  simp only[listN,Stp.elim]
  rw[listN_copy r]
  simp
theorem q_l18Copy (x:Recv):s_l18Copy.f (x,())=x:=by simp only[PX,s_l18Copy,List.nil_append]
theorem q_cloneReceiver (x:Recv):i_cloneReceiver.f (x,())=x:=by simp only[PX,i_cloneReceiver,g_Clone_Piece]
theorem q_l19Copy (x:Conn):s_l19Copy.f (x,())=x:=by simp only[PX,s_l19Copy,q_l18Copy]
theorem q_cloneConn (x:Conn):i_cloneConn.f (x,())=x:=by simp only[PX,i_cloneConn,q_cloneReceiver]
theorem q_l13Copy (x:Keys):s_l13Copy.f (x,())=x:=by simp only[PX,s_l13Copy,q_l11Copy]
theorem q_cloneKeys (x:Keys):i_cloneKeys.f (x,())=x:=by simp only[PX,i_cloneKeys,q_cloneMac]
theorem q_l25Copy (x:Tabl):s_l25Copy.f (x,())=x:=by
 simp only[PX,s_l25Copy,s_l25Copy_L0_d,List.nil_append]
 rw[toNat_sub0,forN_list x.conns _ rfl (F:=fun _ y (a:Tabl×Tabl)=> .next ((⟨[],[]⟩:Tabl),(⟨a.2.conns++[y],a.2.waiting⟩:Tabl))) (by
  intro j y a h
  simp only[PX,s_l25Copy_L0_T,toNat_cast,getD_some h,q_l19Copy]),listN_copy]
 simp only[Stp.elim,PX,List.nil_append]
theorem q_cloneTable (x:Tabl):i_cloneTable.f (x,())=x:=by
 simp only[PX,i_cloneTable,i_cloneTable_L0_d,g_Clone_Tuple]
 rw[toNat_sub0,forN_list x.conns _ rfl (F:=fun _ y (a:Tabl×Tabl)=> .next ((⟨[],[]⟩:Tabl),(⟨a.2.conns++[y],a.2.waiting⟩:Tabl))) (by
  intro j y a h
  simp only[PX,i_cloneTable_L0_T,toNat_cast,getD_some h,q_cloneConn]),listN_copy]
 simp only[Stp.elim,PX,List.nil_append]
theorem q_l26Copy (x:Door):s_l26Copy.f (x,())=x:=by simp only[PX,s_l26Copy,q_l13Copy,q_l25Copy,List.nil_append]
theorem q_cloneDoor (x:Door):i_cloneDoor.f (x,())=x:=by simp only[PX,i_cloneDoor,q_cloneKeys,q_cloneTable,g_Clone_Half]
theorem forN_skip {W:Type}{f:Int→Unit→Stp Unit W}:∀(k:Nat) (i:Int),(∀j,f j ()= .next ())→forN f 1 k i ()= .next ()
 |0,_,_=>rfl
 |k+1,i,h=>by simp only[forN,h,Stp.elim];exact forN_skip k _ h
theorem SameMac_self (m:Mac):s_SameMac.f (m,m,())=true:=by
 simp only[PX,s_SameMac,s_SameMac_L0_d]
 rw[forN_skip _ _ fun j=>by simp only[PX,s_SameMac_L0_T,beq_self_eq_true,Bool.and_self,Bool.not_true,cond_false]]
 simp[PX,Stp.elim]
theorem SameReceiver_self (m:Recv):s_SameReceiver.f (m,m,())=true:=by
 simp only[PX,s_SameReceiver,s_SameReceiver_L0_d]
 rw[forN_skip _ _ fun j=>by simp only[PX,s_SameReceiver_L0_T,beq_self_eq_true,Bool.and_self,Bool.not_true,cond_false]]
 simp[PX,Stp.elim]
theorem SameConn_self (m:Conn):s_SameConn.f (m,m,())=true:=by
 simp only[PX,s_SameConn,SameReceiver_self,beq_self_eq_true,Bool.and_self,cond_true]
theorem SameHalves_self (m:List Half):s_SameHalves.f (m,m,())=true:=by
 simp only[PX,s_SameHalves,s_SameHalves_L0_d]
 rw[forN_skip _ _ fun j=>by simp only[PX,s_SameHalves_L0_T,beq_self_eq_true,Bool.and_self,Bool.not_true,cond_false]]
 simp[PX,Stp.elim]
theorem SameTable_self (m:Tabl):s_SameTable.f (m,m,())=true:=by
 simp only[PX,s_SameTable,s_SameTable_L0_d,s_SameTable_L1_d]
 rw[forN_skip (f:=fun j a=>(s_SameTable_L0_T m m j a).nice) _ _ fun j=>by simp only[PX,s_SameTable_L0_T,SameConn_self,Bool.not_true,cond_false]]
 simp only[Stp.elim,PX]
 rw[forN_skip (f:=fun j a=>(s_SameTable_L1_T m m j a).nice) _ _ fun j=>by simp only[PX,s_SameTable_L1_T,beq_self_eq_true,Bool.and_self,Bool.not_true,cond_false]]
 simp[PX,Stp.elim]
theorem SameKeys_self (m:Keys):s_SameKeys.f (m,m,())=true:=by
 simp only[PX,s_SameKeys,SameMac_self,beq_self_eq_true,cond_true]
theorem SameDoor_self (m:Door):s_SameDoor.f (m,m,())=true:=by
 simp only[PX,s_SameDoor,SameKeys_self,SameHalves_self,SameTable_self,beq_self_eq_true,Bool.and_self,cond_true]
def smallD (d:Door):Prop:=∀y∈d.table.conns,SmallP y.r.held
theorem smallD_of {d:Door}(hd:sm_door d):smallD d:=by
 intro y hy p hp
 have h1:sm_conn y:=hd.2.2.2.2.2.2.1 y hy
 have h2:sm_piec p:=h1.2.2.2 p hp
 simp only[sm_piec]at h2
 omega
theorem forN_allN {W:Type}{f:Int→Unit→Stp Unit W}:∀(k i:Nat),forN f 1 k (i:Int) ()= .next ()↔∀j:Nat,i≤j→j<i+k→f (j:Int) ()= .next ()
 |0,i=>⟨fun _ j h1 h2=>by omega,fun _=>rfl⟩
 |k+1,i=>by
  constructor
  ·intro h j h1 h2
   simp only[forN]at h
   cases hf:f (i:Int) ()with
   |out w=>rw[hf]at h;cases h
   |next a=>
    rw[hf]at h
    simp only[Stp.elim]at h
    rcases Nat.eq_or_lt_of_le h1 with h3|h3
    ·rw[←h3];exact hf
    ·rw[show(i:Int)+1=((i+1:Nat):Int) by omega]at h
     exact(forN_allN k (i+1)).1 h j h3 (by omega)
  ·intro h
   simp only[forN,h i (Nat.le_refl _) (by omega),Stp.elim]
   rw[show(i:Int)+1=((i+1:Nat):Int) by omega]
   exact(forN_allN k (i+1)).2 fun j h1 h2=>h j (by omega) (by omega)
def halfOk (h:Half):Bool:=i_TupleOk.f (h.tuple,())&&(i_WordOk.f (h.iss,32,())&&(i_WordOk.f (h.irs,32,())&&(i_WordOk.f (h.window,16,())&&(i_OptionsOk.f (h.opts,())&&(decide (0≤h.age)&&decide (h.age≤6))))))
theorem HalvesOk_T (xs:List Half)(j:Nat)(y:Half)(hy:xs[j]? =some y):((s_HalvesOk_L0_T xs (j:Int) ()).nice= .next ())↔(halfOk y=true∧(xs.take j).any (fun h=>eqT y.tuple h.tuple)=false):=by
 simp only[PX,s_HalvesOk_L0_T,toNat_cast,getD_some hy,q_TupleOk,q_WordOk,q_OptionsOk,s_l1In_eq,s_FindHalf_eq2,List.drop_zero,fidx_nn,halfOk]
 cases i_TupleOk.f (y.tuple,())<;>cases i_WordOk.f (y.iss,32,())<;>cases i_WordOk.f (y.irs,32,())<;>cases i_WordOk.f (y.window,16,())<;>cases i_OptionsOk.f (y.opts,())<;>cases(decide (0≤y.age)&&decide (y.age≤6))<;>cases(xs.take j).any (fun h=>eqT y.tuple h.tuple)<;>simp
theorem HalvesOk_iff (xs:List Half):i_HalvesOk.f (xs,())=true↔(∀(j:Nat) (y:Half),xs[j]? =some y→halfOk y=true∧(xs.take j).any (fun h=>eqT y.tuple h.tuple)=false)∧xs.length≤64:=by
 rw[←q_HalvesOk]
 have hT:forN (fun j a=>(s_HalvesOk_L0_T xs j a).nice) 1 xs.length ((0:Nat):Int) ()= .next ()↔∀(j:Nat) (y:Half),xs[j]? =some y→halfOk y=true∧(xs.take j).any (fun h=>eqT y.tuple h.tuple)=false:=by
  rw[forN_allN]
  constructor
  ·intro h j y hy
   exact(HalvesOk_T xs j y hy).1 (h j (Nat.zero_le _) (by have:=(List.getElem?_eq_some_iff.1 hy).1;omega))
  ·intro h j _ h2
   exact(HalvesOk_T xs j xs[j] (List.getElem?_eq_getElem (by omega))).2 (h j _ (List.getElem?_eq_getElem (by omega)))
 simp only[PX,s_HalvesOk,s_HalvesOk_L0_d]
 rw[toNat_sub0,show(0:Int)=((0:Nat):Int) from rfl,←hT]
 cases forN (fun j a=>(s_HalvesOk_L0_T xs j a).nice) 1 xs.length ((0:Nat):Int) ()with
 |next a=>simp only[Stp.elim,PX,decide_eq_true_eq,true_and];omega
 |out w=>simp[Stp.elim,PX]
theorem SO_iff (x:Sndr):i_SenderOk.f (x,())=true↔SO x:=by
 have h:=i_SenderOk.c.h (x,()) trivial
 simpa using h
theorem q_flying (x:Sndr):s_l17Flown.f (x,())=i_flying.f (x,()):=by simp only[PX,s_l17Flown,i_flying]
theorem q_NextOf (x:Sndr):s_NextOf.f (x,())=i_NextOf.f (x,()):=by simp only[PX,s_NextOf,i_NextOf,q_flying,q_SeqAdd]
theorem q_AckOf (c:Conn):s_AckOf.f (c,())=i_AckOf.f (c,()):=by simp only[PX,s_AckOf,i_AckOf,q_NextOf,q_WindowOf,s_NoOptions,i_NoOptions]
theorem q_MssFor (c:Conn):s_MssFor.f (c,())=i_MssFor.f (c,()):=by
 simp only[PX,s_MssFor,i_MssFor,s_l1Min_eq,s_l1Max_eq]
 cases(c.opts.mss==0)with
 |true=>rfl
 |false=>
  simp only[cond_false]
  generalize(if 1460<c.opts.mss then(1460:Int)else c.opts.mss)=m
  split<;>split<;>omega
theorem q_SentOff (x:Sndr)(y:Chun):s_SentOff.f (x,y,())=i_SentOff.f (x,y,()):=by
 simp only[PX,s_SentOff,i_SentOff,q_SenderOk]
 obtain⟨u,dt,se,fi,fs,dn⟩:=x
 cases fi with
 |true=>simp only[Bool.not_true,cond_false]
 |false=>
  cases hy:y.fin with
  |false=>simp only[cond_false]
  |true=>
   have k1:∀n:Int,i_SenderOk.f ((⟨u,dt,n,false,true,dn⟩:Sndr),())=false:=by
    intro n
    cases h:i_SenderOk.f ((⟨u,dt,n,false,true,dn⟩:Sndr),())with
    |false=>rfl
    |true=>
     have:=(SO_iff _).1 h
     have h2:=this.2.2.2.2.2.1 rfl
     exact Bool.noConfusion h2.1
   simp only[k1,Bool.not_false,cond_true]
theorem q_Rewound (x:Sndr):s_Rewound.f (x,())=i_Rewound.f (x,()):=by
 simp only[PX,s_Rewound,i_Rewound,q_SenderOk]
 cases i_SenderOk.f (x,())<;>rfl
theorem q_Unsent (c:Conn):s_Unsent.f (c,())=i_Unsent.f (c,()):=by simp only[PX,s_Unsent,i_Unsent]
theorem q_Waits (c:Conn)(hs:SmallP c.r.held):s_Waits.f (c,())=i_Waits.f (c,()):=by
 simp only[PX,s_Waits,i_Waits,q_ConnOk c hs,q_Unsent]
theorem flying_eq (x:Sndr)(h:SO x):i_flying.f (x,())=if x.finSent then x.sent+1 else x.sent:=by
 simp only[PX,i_flying]
 have h1:=h.2.2.2.1
 have h2:=h.2.2.2.2.1
 have h3:=h.2.2.1
 cases x.finSent with
 |true=>simp only[cond_true,if_true];rw[wrap64 (by omega) (by omega)]
 |false=>rfl
theorem chunk_text (l:Bytes)(S n:Int)(h0:0≤S)(h1:0≤n):(l.take (S+n).toNat).drop S.toNat=(l.drop S.toNat).take n.toNat:=by
 rw[List.drop_take];congr 1;omega
theorem q_NextChunk (x:Sndr)(w m:Int)(hw:w≤9223372036854775807):s_NextChunk.f (x,w,m,())=i_NextChunk.f (x,w,m,()):=by
 simp only[PX,s_NextChunk,i_NextChunk,q_SenderOk,q_flying,q_NextOf,s_l1Min_eq,s_l1Max_eq]
 cases h:i_SenderOk.f (x,())with
 |false=>rfl
 |true=>
 have hs:=(SO_iff x).1 h
 have h1:=hs.2.2.2.1
 have h2:=hs.2.2.2.2.1
 have h3:=hs.2.2.1
 simp only[Bool.not_true,cond_false]
 have hF:x.sent≤i_flying.f (x,())∧i_flying.f (x,())≤x.sent+1:=by
  rw[flying_eq x hs];split<;>omega
 obtain⟨F,eF⟩:∃F,i_flying.f (x,())=F:=⟨_,rfl⟩
 rw[eF]at hF
 simp only[eF]
 generalize i_NextOf.f (x,())=q
 rw[toNat_cast,List.take_length,List.length_drop]
 rw[wrap64 (m:=(x.data.length:Int)-x.sent) (by omega) (by omega)]
 rw[show((x.data.length-x.sent.toNat:Nat):Int)=(x.data.length:Int)-x.sent by omega]
 obtain⟨c2,e2⟩:∃z:Int,(if w<1000000 then w else 1000000)=z:=⟨_,rfl⟩
 simp only[e2]
 obtain⟨c3,e3⟩:∃z:Int,(if c2<0 then 0 else c2)=z:=⟨_,rfl⟩
 simp only[e3]
 have b3:0≤c3∧c3≤1000000:=by grind
 rw[wrap64 (m:=c3-F) (by omega) (by omega)]
 obtain⟨c5,e5⟩:∃z:Int,(if c3-F<0 then 0 else c3-F)=z:=⟨_,rfl⟩
 simp only[e5]
 obtain⟨W,eW⟩:∃z:Int,(if w< -1 then-1 else w)=z:=⟨_,rfl⟩
 simp only[eW]
 have bW: -1≤W∧W≤9223372036854775807:=by grind
 rw[wrap64 (m:=W-F) (by omega) (by omega)]
 obtain⟨D,eD⟩:∃z:Int,(x.data.length:Int)-x.sent=z:=⟨_,rfl⟩
 simp only[eD]
 obtain⟨c6,e6⟩:∃z:Int,(if m<c5 then m else c5)=z:=⟨_,rfl⟩
 simp only[e6]
 obtain⟨c7,e7⟩:∃z:Int,(if c6<D then c6 else D)=z:=⟨_,rfl⟩
 simp only[e7]
 obtain⟨n,e8⟩:∃z:Int,(if c7<0 then 0 else c7)=z:=⟨_,rfl⟩
 simp only[e8]
 obtain⟨d3,f3⟩:∃z:Int,(if m<D then m else D)=z:=⟨_,rfl⟩
 simp only[f3]
 obtain⟨d4,f4⟩:∃z:Int,(if W-F<d3 then W-F else d3)=z:=⟨_,rfl⟩
 simp only[f4]
 have en:(if 0<d4 then d4 else 0)=n:=by grind
 rw[en]
 have bn:0≤n∧n≤D:=by grind
 have bw:decide (n<W-F)=decide (n<c5):=by
  rw[decide_eq_decide];grind
 rw[bw,wrap64 (m:=x.sent+n) (by omega) (by omega),chunk_text x.data x.sent n h1 bn.1,List.drop_zero]
 have el:(((x.data.drop x.sent.toNat).take n.toNat)==[])=(n==0):=by
  have hl:((x.data.drop x.sent.toNat).take n.toNat).length=n.toNat:=by rw[List.length_take,List.length_drop];omega
  generalize(x.data.drop x.sent.toNat).take n.toNat=z at*
  cases z with
  |nil=>simp only[List.length_nil]at hl;rw[show n=0 by omega];rfl
  |cons a r=>simp only[List.length_cons]at hl;rw[Bool.eq_iff_iff];simp;omega
 have ed:(x.sent+n==(x.data.length:Int))=(n==D):=by
  rw[Bool.eq_iff_iff];simp only[beq_iff_eq];omega
 rw[el,ed]
theorem whileN_simF {A B W W':Type}[Inhabited W][Inhabited W']{f:A→Stp A W}{g:B→Stp B W'}{R:A→B→Prop}{Q:W→W'→Prop}(hd:Q default default)
  (h:∀a b,R a b→(∃a' b',f a= .next a'∧g b= .next b'∧R a' b')∨(∃w w',f a= .out w∧g b= .out w'∧Q w w')):
  ∀(m:Nat) (a:A) (b:B),R a b→Q (whileN f m a) (whileN g m b)
 |0,_,_,_=>hd
 |m+1,a,b,hr=>by
  rcases h a b hr with⟨a',b',e1,e2,hr'⟩|⟨w,w',e1,e2,hq⟩
  ·simp only[whileN,e1,e2,Stp.elim]
   exact whileN_simF hd h m a' b' hr'
  ·simp only[whileN,e1,e2,Stp.elim]
   exact hq
def fixT (c:Conn)(l:List Segm):Conn:={c with timer:=if l=[]then c.timer else if c.timer=0 then 3 else c.timer}
theorem fixT_nil (c:Conn):fixT c []=c:=by simp[fixT]
theorem fixT_sent (c:Conn)(l:List Segm)(g:Segm)(x:Sndr):(bif ((fixT c l).timer==0)then({fixT c l with s:=x,timer:=3}:Conn)else{fixT c l with s:=x})=fixT {c with s:=x} (l++[g]):=by
 simp only[fixT]
 have h1:¬(l++[g]=[]):=by simp
 rw[if_neg h1]
 by_cases hl:l=[]
 ·rw[if_pos hl]
  by_cases ht:c.timer=0
  ·rw[if_pos ht,show(c.timer==0)=true by simp[ht]];rfl
  ·rw[if_neg ht,show(c.timer==0)=false by simp[ht]];rfl
 ·rw[if_neg hl]
  by_cases ht:c.timer=0
  ·rw[if_pos ht];rfl
  ·rw[if_neg ht,show(c.timer==0)=false by simp[ht]];rfl
theorem q_Pump (c:Conn)(w:Int)(hw:w≤9223372036854775807)(hs:SmallP c.r.held):s_Pump.f (c,w,())=i_Pump.f (c,w,()):=by
 simp only[PX,s_Pump,i_Pump,q_l19Copy,q_cloneConn,q_ConnOk c hs,s_Pump_L0_d,i_Pump_L0_d]
 cases(bif !i_ConnOk.f (c,())then(true,())else bif (c.state==8)then(true,())else((c.state==7),())).1 with
 |true=>rfl
 |false=>
 simp only[cond_false]
 have key:=whileN_simF (f:=fun a=>(s_Pump_L0_T w a).nice) (g:=fun a=>(i_Pump_L0_T w a).nice) (R:=fun a b=>a.1=fixT b.2.1 b.2.2∧a.2.2=b.2.2) (Q:=fun p q=>p.1=fixT q.2.1 q.2.2∧p.2=q.2.2) ⟨(fixT_nil _).symm,rfl⟩ (by
  rintro⟨a1,a2,al⟩ ⟨b1,b2,bl⟩ ⟨h1,h2⟩
  simp only[]at h1 h2
  subst h1;subst h2
  have hm:i_MssFor.f (fixT b2 al,())=i_MssFor.f (b2,()):=rfl
  have ha:i_AckOf.f (fixT b2 al,())=i_AckOf.f (b2,()):=rfl
  have hx:(fixT b2 al).s=b2.s:=rfl
  simp only[PX,s_Pump_L0_T,i_Pump_L0_T,q_MssFor,q_NextChunk _ _ _ hw,q_AckOf,q_SentOff,hm,ha,hx]
  obtain⟨z,hz⟩:∃z,i_NextChunk.f (b2.s,w,i_MssFor.f (b2,()),())=z:=⟨_,rfl⟩
  simp only[hz]
  obtain⟨g,hg⟩:∃g,i_AckOf.f (b2,())=g:=⟨_,rfl⟩
  simp only[hg]
  obtain⟨x,hx2⟩:∃x,i_SentOff.f (b2.s,z.1,())=x:=⟨_,rfl⟩
  simp only[hx2]
  cases z.2 with
  |false=>exact .inr ⟨_,_,rfl,rfl,rfl,rfl⟩
  |true=>
   have hf:∀g':Segm,_:=fun g'=>fixT_sent b2 al g' x
   cases ht:((fixT b2 al).timer==0)<;>rw[ht]at hf<;>simp only[cond_true,cond_false]at hf<;>cases(z.1.text==[])<;>cases z.1.fin<;>exact .inl ⟨_,_,rfl,rfl,hf _,rfl⟩) (sgm c.s+1) (c,⟨⟨0,0,0⟩,0,⟨0,[],0,false,false,false⟩,⟨0,[],[],0,false⟩,0,0,⟨0,0,false,false,0,0⟩,0,0⟩,[]) (⟨⟨0,0,0⟩,0,⟨0,[],0,false,false,false⟩,⟨0,[],[],0,false⟩,0,0,⟨0,0,false,false,0,0⟩,0,0⟩,c,[]) ⟨(fixT_nil c).symm,rfl⟩
 obtain⟨p,hp⟩:∃p,whileN (fun a=>(s_Pump_L0_T w a).nice) (sgm c.s+1) (c,⟨⟨0,0,0⟩,0,⟨0,[],0,false,false,false⟩,⟨0,[],[],0,false⟩,0,0,⟨0,0,false,false,0,0⟩,0,0⟩,[])=p:=⟨_,rfl⟩
 obtain⟨q,hq⟩:∃q,whileN (fun a=>(i_Pump_L0_T w a).nice) (sgm c.s+1) (⟨⟨0,0,0⟩,0,⟨0,[],0,false,false,false⟩,⟨0,[],[],0,false⟩,0,0,⟨0,0,false,false,0,0⟩,0,0⟩,c,[])=q:=⟨_,rfl⟩
 rw[hp,hq]at key
 simp only[hp,hq]
 obtain⟨p1,p2⟩:=p
 obtain⟨q1,q2,q3⟩:=q
 obtain⟨k1,k2⟩:=key
 simp only[]at k1 k2
 subst k1;subst k2
 cases p2 with
 |nil=>simp only[PX,fixT_nil,List.length_nil];rfl
 |cons g r=>
  simp only[PX,decide_eq_true (show 0<((g::r).length:Int) by simp only[List.length_cons];omega),cond_true,fixT,if_neg (show¬(g::r=[]) by simp)]
  by_cases ht:q2.timer=0
  ·simp only[ht,if_true,beq_self_eq_true,cond_true]
  ·simp only[if_neg ht,show(q2.timer==0)=false by simp[ht],cond_false]
def kst (k:Int)(sf sd rd:Bool):Bool:=bif k==8 then true else(sf== !(k==1||k==4))&&((sd==(k==3||k==7))&&(rd==(k==4||decide (5≤k))))
theorem ConnOk_b (x:Conn):i_ConnOk.f (x,())=(i_TupleOk.f (x.tuple,())&&(i_SenderOk.f (x.s,())&&(i_ReceiverOk.f (x.r,())&&(i_OptionsOk.f (x.opts,())&&((decide (1≤x.state)&&decide (x.state≤8))&&((decide (0≤x.most)&&decide (x.most≤1073725440))&&((decide (0≤x.window)&&decide (x.window≤x.most))&&((decide (0≤x.timer)&&bif x.state==7 then decide (x.timer≤4)else decide (x.timer≤3))&&((decide (0≤x.tries)&&decide (x.tries≤3))&&kst x.state x.s.fin x.s.done x.r.done))))))))):=by
 simp only[PX,i_ConnOk,i_within_eq]
 cases i_TupleOk.f (x.tuple,())with
 |false=>rfl
 |true=>
 cases i_SenderOk.f (x.s,())with
 |false=>rfl
 |true=>
 cases i_ReceiverOk.f (x.r,())with
 |false=>rfl
 |true=>
 cases i_OptionsOk.f (x.opts,())with
 |false=>rfl
 |true=>
 simp only[Bool.not_true,cond_false,Bool.true_and]
 have ej:∀b:Bool,(bif b then(false,(4:Int),x,())else(false,3,x,()))=(false,(bif b then 4 else 3),x,()):=fun b=>by cases b<;>rfl
 have et:∀b:Bool,decide (x.timer≤bif b then 4 else 3)=bif b then decide (x.timer≤4)else decide (x.timer≤3):=fun b=>by cases b<;>rfl
 simp only[ej,et]
 generalize(decide (0≤x.window)&&decide (x.window≤x.most))=W
 generalize(decide (0≤x.most)&&decide (x.most≤1073725440))=N
 generalize(decide (0≤x.tries)&&decide (x.tries≤3))=T
 generalize decide (0≤x.timer)=T0
 generalize decide (x.timer≤4)=T4
 generalize decide (x.timer≤3)=T3
 generalize x.s.fin=sf
 generalize x.s.done=sd
 generalize x.r.done=rd
 generalize x.state=k
 have hk:k=1∨k=2∨k=3∨k=4∨k=5∨k=6∨k=7∨k=8∨(decide (1≤k)&&decide (k≤8))=false:=by
  simp only[Bool.and_eq_false_iff,decide_eq_false_iff_not];omega
 rcases hk with rfl|rfl|rfl|rfl|rfl|rfl|rfl|rfl|hk
 iterate 8 (revert W N T T0 T4 T3 sf sd rd;decide+kernel)
 simp only[hk];rfl
structure CO (x:Conn):Prop where
 tup:i_TupleOk.f (x.tuple,())=true
 snd:SO x.s
 rcv:i_ReceiverOk.f (x.r,())=true
 opt:i_OptionsOk.f (x.opts,())=true
 s1:1≤x.state
 s8:x.state≤8
 m0:0≤x.most
 m1:x.most≤1073725440
 w0:0≤x.window
 w1:x.window≤x.most
 t0:0≤x.timer
 t4:x.timer≤4
 t3:x.state≠7→x.timer≤3
 r0:0≤x.tries
 r3:x.tries≤3
 fl:kst x.state x.s.fin x.s.done x.r.done=true
theorem CO_iff (x:Conn):i_ConnOk.f (x,())=true↔CO x:=by
 rw[ConnOk_b]
 simp only[Bool.and_eq_true,decide_eq_true_eq,SO_iff]
 have et:(bif x.state==7 then decide (x.timer≤4)else decide (x.timer≤3))=true↔x.timer≤4∧(x.state≠7→x.timer≤3):=by
  by_cases h:x.state=7
  ·simp[h]
  ·have h2:(x.state==7)=false:=by simpa using h
   simp only[h2,cond_false,decide_eq_true_eq]
   exact⟨fun h3=>⟨by omega,fun _=>h3⟩,fun h3=>h3.2 h⟩
 rw[et]
 constructor
 ·rintro⟨h1,h2,h3,h4,⟨h5,h6⟩,⟨h7,h8⟩,⟨h9,h10⟩,⟨h11,h12,h13⟩,⟨h14,h15⟩,h16⟩
  exact⟨h1,h2,h3,h4,h5,h6,h7,h8,h9,h10,h11,h12,h13,h14,h15,h16⟩
 ·rintro⟨h1,h2,h3,h4,h5,h6,h7,h8,h9,h10,h11,h12,h13,h14,h15,h16⟩
  exact⟨h1,h2,h3,h4,⟨h5,h6⟩,⟨h7,h8⟩,⟨h9,h10⟩,⟨h11,h12,h13⟩,⟨h14,h15⟩,h16⟩
structure Sent (c d:Conn):Prop where
 so:SO d.s
 s1:d.s.data=c.s.data
 s2:d.s.fin=c.s.fin
 s3:d.s.done=c.s.done
 s4:d.s.una=c.s.una
 tm:d.timer=c.timer∨d.timer=3
 re:d={c with s:=d.s,timer:=d.timer}
theorem Sent.refl (c:Conn)(h:SO c.s):Sent c c:=⟨h,rfl,rfl,rfl,rfl,.inl rfl,rfl⟩
theorem Sent.ok {c d:Conn}(h:Sent c d)(hc:CO c)(ht:d.timer≤3∨d.timer=c.timer):CO d:=by
 obtain⟨so,s1,s2,s3,s4,tm,re⟩:=h
 obtain⟨t,st,s,r,w,m,o,ti,tr⟩:=c
 obtain⟨t',st',s',r',w',m',o',ti',tr'⟩:=d
 simp only[Conn.mk.injEq]at re
 obtain⟨rfl,rfl,-,rfl,rfl,rfl,rfl,-,rfl⟩:=re
 simp only[]at*
 refine⟨hc.tup,so,hc.rcv,hc.opt,hc.s1,hc.s8,hc.m0,hc.m1,hc.w0,hc.w1, ?_, ?_, ?_,hc.r0,hc.r3, ?_⟩
 ·have:=hc.t0;simp only[]at*;omega
 ·have:=hc.t4;simp only[]at*;omega
 ·intro h7;have:=hc.t3 h7;simp only[]at*;omega
 ·have:=hc.fl;simp only[]at*;rw[s2,s3];exact this
theorem sm_of_SO {x:Sndr}(h:SO x):sm_sndr x:=by
 have:=h.2.2.1
 unfold sm_sndr;grind
theorem sentOff_step (x:Sndr)(w m:Int)(y:Chun)(hy:(i_NextChunk.f (x,w,m,()))=(y,true))(hx:SO x):SO (i_SentOff.f (x,y,()))∧(i_SentOff.f (x,y,())).data=x.data∧(i_SentOff.f (x,y,())).fin=x.fin∧(i_SentOff.f (x,y,())).done=x.done∧(i_SentOff.f (x,y,())).una=x.una∧sgm (i_SentOff.f (x,y,()))<sgm x:=by
 have h1:=i_NextChunk.c.h (x,w,m,()) (sm_of_SO hx)
 change sm_chun (i_NextChunk.f (x,w,m,())).1∧((i_NextChunk.f (x,w,m,())).2=true→_)at h1
 have e1:(i_NextChunk.f (x,w,m,())).1=y:=by rw[hy]
 have e2:(i_NextChunk.f (x,w,m,())).2=true:=by rw[hy]
 obtain⟨h2,h3⟩:=h1
 obtain⟨-,h4,h5,h6,h7⟩:=h3 e2
 simp only[e1]at h2 h4 h5 h6 h7
 clear e1 e2
 have h8:=(i_SentOff.c.h (x,y,()) ⟨sm_of_SO hx,h2⟩).2 hx h4 h5 h7
 change i_SentOff.f (x,y,())=_ at h8
 rw[h8]
 obtain⟨e1,e2,e3,e4,e5,e6,e7⟩:=hx
 refine⟨⟨e1,e2,e3, ?_, ?_, ?_, ?_⟩,rfl,rfl,rfl,rfl, ?_⟩
 ·show 0≤x.sent+(y.text.length:Int);omega
 ·show x.sent+(y.text.length:Int)≤(x.data.length:Int);omega
 ·intro hf;exact⟨(h7 hf).1,(h7 hf).2.2⟩
 ·intro hd
  refine⟨(e7 hd).1, ?_,(e7 hd).2.2⟩
  show y.fin=false
  cases hf:y.fin with
  |false=>rfl
  |true=>have:=(h7 hf).2.1;rw[this]at hd;cases hd
 ·show((x.data.length:Int)-(x.sent+(y.text.length:Int))).toNat+(if y.fin=true then 0 else 1)<((x.data.length:Int)-x.sent).toNat+(if x.finSent=true then 0 else 1)
  rw[h5]
  simp only[Bool.false_eq_true,if_false]
  have hl:y.text=[]∨0<y.text.length:=by cases y.text<;>simp
  rcases hl with hl|hl
  ·rw[h6 hl];simp only[if_true];omega
  ·split<;>omega
theorem Pump_step (w:Int)(c:Conn)(a:Conn×Conn×List Segm)(h:Sent c a.2.1):(∃l,(i_Pump_L0_T w a).nice= .out (({a.1 with r.held:=[]}:Conn),a.2.1,l))∨(∃a',(i_Pump_L0_T w a).nice= .next a'∧Sent c a'.2.1∧sgm a'.2.1.s<sgm a.2.1.s):=by
 obtain⟨a1,a2,al⟩:=a
 simp only[]at h
 simp only[PX,i_Pump_L0_T]
 obtain⟨z,hz⟩:∃z,i_NextChunk.f (a2.s,w,i_MssFor.f (a2,()),())=z:=⟨_,rfl⟩
 simp only[hz]
 obtain⟨y,b⟩:=z
 cases b with
 |false=>exact .inl ⟨_,rfl⟩
 |true=>
  obtain⟨k1,k2,k3,k4,k5,k6⟩:=sentOff_step a2.s w _ y hz h.so
  obtain⟨x,hx⟩:∃x,i_SentOff.f (a2.s,y,())=x:=⟨_,rfl⟩
  rw[hx]at k1 k2 k3 k4 k5 k6
  simp only[hx]
  have hs:Sent c ({a2 with s:=x}:Conn):=by
   obtain⟨so,s1,s2,s3,s4,tm,re⟩:=h
   refine⟨k1,k2.trans s1,k3.trans s2,k4.trans s3,k5.trans s4,tm, ?_⟩
   rw[re]
  cases(y.text==[])<;>cases y.fin<;>exact .inr ⟨_,rfl,hs,k6⟩
theorem Pump_sent (c:Conn)(w:Int)(hc:SO c.s):Sent c (i_Pump.f (c,w,())).1:=by
 simp only[PX,i_Pump,q_cloneConn,i_Pump_L0_d]
 cases(bif !i_ConnOk.f (c,())then(true,())else bif (c.state==8)then(true,())else((c.state==7),())).1 with
 |true=>exact Sent.refl c hc
 |false=>
 simp only[cond_false]
 have key:=whileN_post (f:=fun a=>(i_Pump_L0_T w a).nice) (Inv:=fun a=>Sent c a.2.1) (Q:=fun p=>Sent c p.2.1) (meas:=fun a=>sgm a.2.1.s) (fun a hi a' he=>by
  rcases Pump_step w c a hi with⟨l,e⟩|⟨a2,e,h1,h2⟩
  ·simp only[e]at he;cases he
  ·simp only[e,Stp.next.injEq]at he;subst he;exact⟨h1,h2⟩) (fun a hi p he=>by
  rcases Pump_step w c a hi with⟨l,e⟩|⟨a2,e,h1,h2⟩
  ·simp only[e,Stp.out.injEq]at he;subst he;exact hi
  ·simp only[e]at he;cases he) (sgm c.s+1) (⟨⟨0,0,0⟩,0,⟨0,[],0,false,false,false⟩,⟨0,[],[],0,false⟩,0,0,⟨0,0,false,false,0,0⟩,0,0⟩,c,[]) (Nat.lt_succ_self _) (Sent.refl c hc)
 obtain⟨q,hq⟩:∃q,whileN (fun a=>(i_Pump_L0_T w a).nice) (sgm c.s+1) (⟨⟨0,0,0⟩,0,⟨0,[],0,false,false,false⟩,⟨0,[],[],0,false⟩,0,0,⟨0,0,false,false,0,0⟩,0,0⟩,c,[])=q:=⟨_,rfl⟩
 rw[hq]at key
 simp only[hq]
 obtain⟨q1,q2,q3⟩:=q
 simp only[]at key⊢
 cases(bif decide (0<(q3.length:Int))then((q2.timer==0),())else(false,())).1 with
 |false=>exact key
 |true=>
  obtain⟨so,s1,s2,s3,s4,tm,re⟩:=key
  refine⟨so,s1,s2,s3,s4,.inr rfl, ?_⟩
  exact congrArg (fun d:Conn=>({d with timer:=3}:Conn)) re
theorem Waits_ok (c:Conn)(h:i_Waits.f (c,())=true):i_ConnOk.f (c,())=true∧c.state≠8:=by
 simp only[PX,i_Waits]at h
 cases hc:i_ConnOk.f (c,())with
 |false=>rw[hc]at h;cases h
 |true=>
  rw[hc]at h
  refine⟨rfl,fun h8=> ?_⟩
  rw[h8]at h;cases h
def tick0 (c:Conn):Int:=if c.timer=0 then(if c.state=7 then 4 else 3)else c.timer
theorem tick0_rng {c:Conn}(h:CO c):1≤tick0 c∧tick0 c≤4:=by
 have:=h.t0;have:=h.t4
 unfold tick0;split
 ·split<;>omega
 ·omega
def TC (c:Conn):Conn×List Segm:=
 if i_Waits.f (c,())=true then
  if 0<tick0 c-1 then({c with timer:=tick0 c-1},[])
  else if c.state=7 then({c with state:=8,timer:=0,tries:=0},[])
  else if c.tries=3 then({c with state:=8,timer:=0,tries:=0},[{i_AckOf.f (c,())with flags:=bits .or .i64 (i_AckOf.f (c,())).flags 4}])
  else({(i_Pump.f ({c with s:=i_Rewound.f (c.s,()),timer:=0,tries:=c.tries+1},(if c.window=0 then 1 else c.window),())).1 with timer:=3},(i_Pump.f ({c with s:=i_Rewound.f (c.s,()),timer:=0,tries:=c.tries+1},(if c.window=0 then 1 else c.window),())).2)
 else if i_ConnOk.f (c,())=true then({c with timer:=0,tries:=0},[])else(c,[])

end
end Go.Proofs.YtjejapbinelgeaaGreat
